/-
  Functions of the program: what they compute, as plain functions, and that they do. No conditions.
-/
import Derived.Test.YtlhakkkjgdbdpaaX3
namespace Go.Proofs.Ytlhakkkjgdbdpaa
open Go.RowKit

def plant_Job_valid_1X_1 (_N : Nat) (p0 : Int) (p1 : Int) : Option Bool :=
  bif (decide (p0 > p1)) then
   some (decide (p0 ≤ 1000000))
  else
   some false
set_option maxRecDepth 100000 in
set_option maxHeartbeats 4000000 in
theorem plant_Job_valid_1X_1_ok (N : Nat) (p0 : Int) (p1 : Int) (r : Bool) (h : plant_Job_valid_1X_1 N p0 p1 = some r) : Spec Try.prog 96 [(I (p0)), (.ref 0 1 (0) 0)] [(.own 1 [[(I (p1))]])] (B (r)) [(.own 1 [[(I (p0))]])] := by
  refine spec_of_awp Try.func96 rfl 1 (nle rfl) (fun X φ0 w0 hφ0 => ?_)
  unfold plant_Job_valid_1X_1 at h
  refine awp_finm ?_
  refine wx tbk [] trivial ?_
  rcases bft ((decide (p0 > p1))) with hb2 | hb2
  ·replace h := bif_t hb2 h
   refine wx tbk [(3, rp [(.tmp 7, (B ((decide (p0 > p1)))))] (B true))] ⟨asb hb2 (amv rfl), trivial⟩ ?_
   refine wx tbk [] trivial ?_
   refine wx tbk [] trivial ?_
   refine wmr (mto (n := 14) (l' := [(3, (B ((decide (p0 ≤ 1000000)))))]) (own' := [(.own 1 [[I p0]])]) [(3, (B ((decide (p0 ≤ 1000000)))))] [0] [(.own 1 [[I p0]])] hφ0 (pc rwl pn) (qc (spb (lc rwl ln)) qn)) ?_
   refine awp_ret ?_
   obtain rfl := osi h
   exact ⟨_, Mor.rfl, fin_of (vs := [(B ((decide (p0 ≤ 1000000))))]) ⟨rot (by kernel_rfl), trivial⟩ rfl (NLt.of0 nll) (by kernel_rfl) (snl_cons (snl_box (nlc (NLt.of0 nll) nl0)) snl_nil)⟩
  ·replace h := bif_f hb2 h
   refine wx tbk [(3, rp [(.tmp 7, (B ((decide (p0 > p1)))))] (B false))] ⟨asb hb2 (amv rfl), trivial⟩ ?_
   refine wx tbk [] trivial ?_
   refine wx tbk [] trivial ?_
   refine wmr (mto (n := 14) (l' := [(3, B false)]) (own' := [(.own 1 [[I p0]])]) [(3, B false)] [0] [(.own 1 [[I p0]])] hφ0 (pc rwl pn) (qc (spb (lc rwl ln)) qn)) ?_
   refine awp_ret ?_
   obtain rfl := osi h
   exact ⟨_, Mor.rfl, fin_of (vs := [B false]) ⟨rot (by kernel_rfl), trivial⟩ rfl (NLt.of0 nll) (by kernel_rfl) (snl_cons (snl_box (nlc (NLt.of0 nll) nl0)) snl_nil)⟩

def plant_all_int_1X_2 (N : Nat) (p0 : Int) (p1 : Int) : Option Bool :=
  (plant_Job_valid_1X_1 N p0 p1).bind fun x3 =>
  some (!x3)
def z55_0 : Slot := .own 1 [[(.fn (.func 96) [] [(.ref 1 1 (0) 0)])]]
set_option maxRecDepth 100000 in
set_option maxHeartbeats 4000000 in
theorem plant_all_int_1X_2_ok (N : Nat) (p0 : Int) (p1 : Int) (r : Bool) (h : plant_all_int_1X_2 N p0 p1 = some r) : Spec Try.prog 110 [(I (p0)), (.ref 0 1 (0) 0)] [z55_0, (.own 1 [[(I (p1))]])] (B (r)) [z55_0, (.own 1 [[(I (p0))]])] := by
  refine spec_of_awp Try.func110 rfl 2 (nle rfl) (fun X φ0 w0 hφ0 => ?_)
  unfold plant_all_int_1X_2 at h
  refine awp_finm ?_
  refine wx tbk [] trivial ?_
  obtain ⟨x3, hf2, h⟩ := bno h
  refine wx tbk [(2, ⟨[(.tmp 4, (.fn (.func 96) [] [.ref 1 1 0 0])), (.tmp 5, I p0)], [(1, .own 1 [[I p1]])], B x3, [(1, .own 1 [[I p0]])], false⟩)] ⟨astep_callq (first := []) (cap := [.ref 1 1 0 0]) (vs := [I p0]) (σr := [(.own 1 [[I p1]])]) (σr' := [(.own 1 [[I p0]])]) (res' := (B x3)) [1] rfl enter96 (plant_Job_valid_1X_1_ok N p0 p1 _ hf2) rfl (rn_agg (rnc (.plain _ nll) (rnc (rnk_ref rfl) rn0))) (slc (srn_box (rnc (.plain _ nll) rn0)) slw_nil) (slc (srn_box (rnc (.plain _ nll) rn0)) slw_nil) (.plain _ nll) rfl rfl rfl, trivial⟩ ?_
  refine wmr (mto (n := 8) (l' := [(3, (B ((!x3))))]) (own' := [z55_0, (.own 1 [[I p0]])]) [(3, (B ((!x3))))] [0, 1] [z55_0, (.own 1 [[I p0]])] hφ0 (pc rwl pn) (qc (spb (lc (.rn (rn_fn rn0 (rnc (rqr rfl) rn0))) ln)) (qc (spb (lc rwl ln)) qn))) ?_
  refine awp_ret ?_
  obtain rfl := osi h
  exact ⟨_, Mor.rfl, fin_of (vs := [(B ((!x3)))]) ⟨rot (by kernel_rfl), trivial⟩ rfl (NLt.of0 nll) (by kernel_rfl) (snl_cons (snl_box (nlc (NLt.fn _ _ _ nl0 (nlc (NLt.ref _ _ _ _ (by decide)) nl0)) nl0)) (snl_cons (snl_box (nlc (NLt.of0 nll) nl0)) snl_nil))⟩

def slices_IndexFunc_int_intX_2_loop1 (N : Nat) (p0 : (List Int)) (k4 : Int → Option (Int × Int)) : Nat → Int → Int → Option (Int × Int)
  | 0, _, _ => none
  | n9 + 1, y5, y6 =>
    bif (decide (y5 < (p0.length : Int))) then
     (getI p0 y5).bind fun x11 =>
     (plant_all_int_1X_2 N x11 y6).bind fun x16 =>
     bif x16 then
      some (y5, x11)
     else
      slices_IndexFunc_int_intX_2_loop1 N p0 k4 n9 (w64 (y5 + 1)) x11
    else
     k4 (y6)
def slices_IndexFunc_int_intX_2 (N : Nat) (p0 : (List Int)) (p1 : Int) : Option (Int × Int) :=
  joinK (fun y3 =>
    some ((-1), y3)) fun k4 : Int → Option (Int × Int) =>
  slices_IndexFunc_int_intX_2_loop1 N p0 k4 N 0 p1
def z54_0 : Slot := .own 1 [[(.fn (.func 96) [] [(.ref 1 1 (0) 0)])]]
set_option maxRecDepth 100000 in
set_option maxHeartbeats 4000000 in
theorem slices_IndexFunc_int_intX_2_ok (N : Nat) (p0 : (List Int)) (p1 : Int) (r : (Int × Int)) (h : slices_IndexFunc_int_intX_2 N p0 p1 = some r) : Spec Try.prog 71 [(.dat 1 ((p0 : List Int).map c_i64)), (.fn (.func 110) [] [(.ref 0 1 (0) 0)])] [z54_0, (.own 1 [[(I (p1))]])] (I (r.1)) [z54_0, (.own 1 [[(I (r.2))]])] := by
  refine spec_of_awp Try.func71 rfl 2 (nle rfl) (fun X φ0 w0 hφ0 => ?_)
  unfold slices_IndexFunc_int_intX_2 at h
  refine awp_finm ?_
  refine wx tbk [] trivial ?_
  obtain ⟨k4, hk_k4, h⟩ := jko h
  refine wjn (τ := Int) (fun t => k4 t = some r) (fun y3 => ⟨mk 19 [], [z54_0, (.own 1 [[I y3]])]⟩) (fun y3 h => ?_) ?_
  ·subst hk_k4
   refine wx tbk [] trivial ?_
   refine wmr (mto (n := 19) (l' := [(4, (I ((-1))))]) (own' := [z54_0, (.own 1 [[I y3]])]) [(4, (I ((-1))))] [0, 1] [z54_0, (.own 1 [[I y3]])] hφ0 (pc rwl pn) (qc (spb (lc (.rn (rn_fn rn0 (rnc (rqr rfl) rn0))) ln)) (qc (spb (lc rwl ln)) qn))) ?_
   refine awp_ret ?_
   obtain rfl := osi h
   exact ⟨_, Mor.rfl, fin_of (vs := [(I ((-1)))]) ⟨rot (by kernel_rfl), trivial⟩ rfl (NLt.of0 nll) (by kernel_rfl) (snl_cons (snl_box (nlc (NLt.fn _ _ _ nl0 (nlc (NLt.ref _ _ _ _ (by decide)) nl0)) nl0)) (snl_cons (snl_box (nlc (NLt.of0 nll) nl0)) snl_nil))⟩
  ·skip
   refine wx tbk [(1, rp [(.tmp 6, (.dat 1 ((p0 : List Int).map c_i64)))] (I ((p0.length : Int))))] ⟨alm (c := c_i64) (l := p0) (aln rfl Try.underlying37 rfl), trivial⟩ ?_
   refine awp_block ?_
   refine wmr (mto (n := 19) (l' := [(0, (.dat 1 ((p0 : List Int).map c_i64))), (1, (.fn (.func 110) [] [.ref 0 1 0 0])), (7, (I ((p0.length : Int)))), (8, I 0)]) (own' := [z54_0, (.own 1 [[I p1]])]) [(0, (.dat 1 ((p0 : List Int).map c_i64))), (1, (.fn (.func 110) [] [.ref 0 1 0 0])), (7, (I ((p0.length : Int)))), (8, I 0)] [0, 1] [z54_0, (.own 1 [[I p1]])] hφ0 (pc (.rn (.plain _ (nld nl_i64 _))) (pc (.rn (rn_fn rn0 (rnc (rqr rfl) rn0))) (pc rwl (pc rwl pn)))) (qc (spb (lc (.rn (rn_fn rn0 (rnc (rqr rfl) rn0))) ln)) (qc (spb (lc rwl ln)) qn))) ?_
   refine awp_ind (τ := Int × Int) (fun n t => slices_IndexFunc_int_intX_2_loop1 N p0 k4 n t.1 t.2 = some r) (fun ⟨y5, y6⟩ => ⟨mk 19 [(0, (.dat 1 ((p0 : List Int).map c_i64))), (1, (.fn (.func 110) [] [.ref 0 1 0 0])), (7, (I ((p0.length : Int)))), (8, I y5)], [z54_0, (.own 1 [[I y6]])]⟩) (fun t h => by rw [slices_IndexFunc_int_intX_2_loop1] at h; cases h) (fun n9 ih t h => ?_) N (0, p1) h
   obtain ⟨y5, y6⟩ := t
   rw [slices_IndexFunc_int_intX_2_loop1] at h
   skip
   refine wx tbk [] trivial ?_
   refine wsq ?_
   rcases bft ((decide (y5 < (p0.length : Int)))) with hc10 | hc10
   ·replace h := bif_t hc10 h
    refine wft hc10 (by kernel_rfl) ?_
    refine awp_skip ?_
    refine thn ?_
    refine wsq ?_
    refine awp_block ?_
    refine wx tbk [] trivial ?_
    obtain ⟨x11, hg12, h⟩ := bno h
    obtain ⟨hi13, hj14⟩ := gsm hg12
    obtain ⟨x16, hf15, h⟩ := bno h
    refine wx tbk [(3, rp [(.tmp 12, (.dat 1 ((p0 : List Int).map c_i64))), (.tmp 13, I y5)] (.dptr (c_i64 (x11)) 0)), (5, ⟨[(.tmp 11, (.fn (.func 110) [] [.ref 0 1 0 0])), (.tmp 15, I x11)], [(0, z54_0), (1, .own 1 [[I y6]])], B x16, [(0, z54_0), (1, .own 1 [[I x11]])], false⟩)] ⟨aid rfl Try.underlying37 ti3 rfl rfl hi13 (mgt c_i64 hj14) rfl, astep_callq (first := []) (cap := [.ref 0 1 0 0]) (vs := [I x11]) (σr := [z54_0, (.own 1 [[I y6]])]) (σr' := [z54_0, (.own 1 [[I x11]])]) (res' := (B x16)) [0, 1] rfl enter110 (plant_all_int_1X_2_ok N x11 y6 _ hf15) rfl (rn_agg (rnc (.plain _ nll) (rnc (rnk_ref rfl) rn0))) (slc (srn_box (rnc (rn_fn rn0 (rnc (rnk_ref rfl) rn0)) rn0)) (slc (srn_box (rnc (.plain _ nll) rn0)) slw_nil)) (slc (srn_box (rnc (rn_fn rn0 (rnc (rnj_ref rfl) rn0)) rn0)) (slc (srn_box (rnc (.plain _ nll) rn0)) slw_nil)) (.plain _ nll) rfl rfl rfl, trivial⟩ ?_
    rcases bft (x16) with hc17 | hc17
    ·replace h := bif_t hc17 h
     refine wft hc17 (by kernel_rfl) ?_
     refine wx tbk [] trivial ?_
     refine wmr (mto (n := 19) (l' := [(4, I y5)]) (own' := [z54_0, (.own 1 [[I x11]])]) [(4, I y5)] [0, 1] [z54_0, (.own 1 [[I x11]])] hφ0 (pc rwl pn) (qc (spb (lc (.rn (rn_fn rn0 (rnc (rqr rfl) rn0))) ln)) (qc (spb (lc rwl ln)) qn))) ?_
     refine awp_ret ?_
     refine blockA_r ?_
     refine thenA_r ?_
     refine thenA_r ?_
     refine blockA_r ?_
     refine thenA_r ?_
     obtain rfl := osi h
     exact ⟨_, Mor.rfl, fin_of (vs := [I y5]) ⟨rot (by kernel_rfl), trivial⟩ rfl (NLt.of0 nll) (by kernel_rfl) (snl_cons (snl_box (nlc (NLt.fn _ _ _ nl0 (nlc (NLt.ref _ _ _ _ (by decide)) nl0)) nl0)) (snl_cons (snl_box (nlc (NLt.of0 nll) nl0)) snl_nil))⟩
    ·replace h := bif_f hc17 h
     refine wfn hc17 (by kernel_rfl) ?_
     refine awp_skip ?_
     refine bln ?_
     refine thn ?_
     refine wx1 tbk [] trivial ?_
     refine thn ?_
     exact arm (mto (n := 19) [(0, (.dat 1 ((p0 : List Int).map c_i64))), (1, (.fn (.func 110) [] [.ref 0 1 0 0])), (7, (I ((p0.length : Int)))), (8, (I (w64 (y5 + 1))))] [0, 1] [z54_0, (.own 1 [[I x11]])] hφ0 (pc (.rn (.plain _ (nld nl_i64 _))) (pc (.rn (rn_fn rn0 (rnc (rqr rfl) rn0))) (pc rwl (pc rwl pn)))) (qc (spb (lc (.rn (rn_fn rn0 (rnc (rqr rfl) rn0))) ln)) (qc (spb (lc rwl ln)) qn))) (ih (w64 (y5 + 1), x11) h)
   ·replace h := bif_f hc10 h
    refine wfn hc10 (by kernel_rfl) ?_
    refine awp_exit ?_
    refine thenA_x ?_
    refine thenA_x ?_
    refine blockA_e rfl ?_
    refine thn ?_
    exact ⟨(y6), h, (mto (n := 19) [] [0, 1] [z54_0, (.own 1 [[I y6]])] hφ0 pn (qc (spb (lc (.rn (rn_fn rn0 (rnc (rqr rfl) rn0))) ln)) (qc (spb (lc rwl ln)) qn)))⟩

def slices_ContainsFunc_int_intX_2 (N : Nat) (p0 : (List Int)) (p1 : Int) : Option (Bool × Int) :=
  (slices_IndexFunc_int_intX_2 N p0 p1).bind fun x4 =>
  some ((decide (x4.1 ≥ 0)), x4.2)
def z53_0 : Slot := .own 1 [[(.fn (.func 96) [] [(.ref 1 1 (0) 0)])]]
set_option maxRecDepth 100000 in
set_option maxHeartbeats 4000000 in
theorem slices_ContainsFunc_int_intX_2_ok (N : Nat) (p0 : (List Int)) (p1 : Int) (r : (Bool × Int)) (h : slices_ContainsFunc_int_intX_2 N p0 p1 = some r) : Spec Try.prog 109 [(.dat 1 ((p0 : List Int).map c_i64)), (.fn (.func 110) [] [(.ref 0 1 (0) 0)])] [z53_0, (.own 1 [[(I (p1))]])] (B (r.1)) [z53_0, (.own 1 [[(I (r.2))]])] := by
  refine spec_of_awp Try.func109 rfl 2 (nle rfl) (fun X φ0 w0 hφ0 => ?_)
  unfold slices_ContainsFunc_int_intX_2 at h
  refine awp_finm ?_
  refine wx tbk [] trivial ?_
  obtain ⟨x4, hf3, h⟩ := bno h
  refine wx tbk [(2, ⟨[fu 71, (.tmp 5, (.dat 1 ((p0 : List Int).map c_i64))), (.tmp 6, (.fn (.func 110) [] [.ref 0 1 0 0]))], [(0, z53_0), (1, .own 1 [[I p1]])], I x4.1, [(0, z53_0), (1, .own 1 [[I x4.2]])], false⟩)] ⟨astep_callq (first := []) (cap := []) (vs := [(.dat 1 ((p0 : List Int).map c_i64)), (.fn (.func 110) [] [.ref 0 1 0 0])]) (σr := [z53_0, (.own 1 [[I p1]])]) (σr' := [z53_0, (.own 1 [[I x4.2]])]) (res' := (I x4.1)) [0, 1] rfl enter71 (slices_IndexFunc_int_intX_2_ok N p0 p1 _ hf3) rfl (rn_agg (rnc (.plain _ (nld nl_i64 _)) (rnc (rn_fn rn0 (rnc (rnk_ref rfl) rn0)) rn0))) (slc (srn_box (rnc (rn_fn rn0 (rnc (rnk_ref rfl) rn0)) rn0)) (slc (srn_box (rnc (.plain _ nll) rn0)) slw_nil)) (slc (srn_box (rnc (rn_fn rn0 (rnc (rnj_ref rfl) rn0)) rn0)) (slc (srn_box (rnc (.plain _ nll) rn0)) slw_nil)) (.plain _ nll) rfl rfl rfl, trivial⟩ ?_
  refine wmr (mto (n := 9) (l' := [(4, (B ((decide (x4.1 ≥ 0)))))]) (own' := [z53_0, (.own 1 [[I x4.2]])]) [(4, (B ((decide (x4.1 ≥ 0)))))] [0, 1] [z53_0, (.own 1 [[I x4.2]])] hφ0 (pc rwl pn) (qc (spb (lc (.rn (rn_fn rn0 (rnc (rqr rfl) rn0))) ln)) (qc (spb (lc rwl ln)) qn))) ?_
  refine awp_ret ?_
  obtain rfl := osi h
  exact ⟨_, Mor.rfl, fin_of (vs := [(B ((decide (x4.1 ≥ 0))))]) ⟨rot (by kernel_rfl), trivial⟩ rfl (NLt.of0 nll) (by kernel_rfl) (snl_cons (snl_box (nlc (NLt.fn _ _ _ nl0 (nlc (NLt.ref _ _ _ _ (by decide)) nl0)) nl0)) (snl_cons (snl_box (nlc (NLt.of0 nll) nl0)) snl_nil))⟩

def plant_all_intX_2 (N : Nat) (p0 : (List Int)) (p1 : Int) : Option (Bool × Int) :=
  (slices_ContainsFunc_int_intX_2 N p0 p1).bind fun x4 =>
  some ((!x4.1), x4.2)
def z52_0 : Slot := .own 1 [[(.fn (.func 96) [] [(.ref 0 1 (0) 0)])]]
set_option maxRecDepth 100000 in
set_option maxHeartbeats 4000000 in
theorem plant_all_intX_2_ok (N : Nat) (p0 : (List Int)) (p1 : Int) (r : (Bool × Int)) (h : plant_all_intX_2 N p0 p1 = some r) : Spec Try.prog 89 [(.dat 1 ((p0 : List Int).map c_i64)), (.fn (.func 96) [] [(.ref 0 1 (0) 0)])] [(.own 1 [[(I (p1))]])] (B (r.1)) [(.own 1 [[(I (r.2))]])] := by
  refine spec_of_awp Try.func89 rfl 1 (nle rfl) (fun X φ0 w0 hφ0 => ?_)
  unfold plant_all_intX_2 at h
  refine awp_finm ?_
  refine wx tbk [] trivial ?_
  obtain ⟨x4, hf3, h⟩ := bno h
  refine wx tbk [(1, rp [(.tmp 3, .ref 1 1 0 0)] (.fn (.func 110) [] [.ref 1 1 0 0])), (2, ⟨[fu 109, (.tmp 5, (.dat 1 ((p0 : List Int).map c_i64))), (.tmp 6, (.fn (.func 110) [] [.ref 1 1 0 0]))], [(1, z52_0), (0, .own 1 [[I p1]])], B x4.1, [(1, z52_0), (0, .own 1 [[I x4.2]])], false⟩)] ⟨astep_func (fs := []) (cs := [.ref 1 1 0 0]) rfl rfl rfl rfl, astep_callq (first := []) (cap := []) (vs := [(.dat 1 ((p0 : List Int).map c_i64)), (.fn (.func 110) [] [.ref 1 1 0 0])]) (σr := [z52_0, (.own 1 [[I p1]])]) (σr' := [z52_0, (.own 1 [[I x4.2]])]) (res' := (B x4.1)) [1, 0] rfl enter109 (slices_ContainsFunc_int_intX_2_ok N p0 p1 _ hf3) rfl (rn_agg (rnc (.plain _ (nld nl_i64 _)) (rnc (rn_fn rn0 (rnc (rnk_ref rfl) rn0)) rn0))) (slc (srn_box (rnc (rn_fn rn0 (rnc (rnk_ref rfl) rn0)) rn0)) (slc (srn_box (rnc (.plain _ nll) rn0)) slw_nil)) (slc (srn_box (rnc (rn_fn rn0 (rnc (rnj_ref rfl) rn0)) rn0)) (slc (srn_box (rnc (.plain _ nll) rn0)) slw_nil)) (.plain _ nll) rfl rfl rfl, trivial⟩ ?_
  refine wmr (mto (n := 9) (l' := [(4, (B ((!x4.1))))]) (own' := [(.own 1 [[I x4.2]])]) [(4, (B ((!x4.1))))] [0] [(.own 1 [[I x4.2]])] hφ0 (pc rwl pn) (qc (spb (lc rwl ln)) qn)) ?_
  refine awp_ret ?_
  obtain rfl := osi h
  exact ⟨_, Mor.rfl, fin_of (vs := [(B ((!x4.1)))]) ⟨rot (by kernel_rfl), trivial⟩ rfl (NLt.of0 nll) (by kernel_rfl) (snl_cons (snl_box (nlc (NLt.of0 nll) nl0)) snl_nil)⟩

def plant_Job_valid_2X (N : Nat) (p0 : GHour) : Option Bool :=
  (plant_withinX N p0.Price (-1000) 1000).bind fun x2 =>
  bif x2 then
   (plant_withinX N p0.Most 0 1000000).bind fun x5 =>
   some x5
  else
   some false
set_option maxRecDepth 100000 in
set_option maxHeartbeats 4000000 in
theorem plant_Job_valid_2X_ok (N : Nat) (p0 : GHour) (r : Bool) (h : plant_Job_valid_2X N p0 = some r) : Spec Try.prog 98 [(.agg (c_GHour p0))] [] (B r) [] := by
  refine spec_of_awp Try.func98 rfl 0 (nle rfl) (fun X φ0 w0 hφ0 => ?_)
  unfold plant_Job_valid_2X at h
  refine wx tbk [] trivial ?_
  obtain ⟨x2, hf1, h⟩ := bno h
  rcases bft (x2) with hb3 | hb3
  ·replace h := bif_t hb3 h
   obtain ⟨x5, hf4, h⟩ := bno h
   refine wx tbk [(2, rp [fu 65, (.tmp 4, I p0.Price), ci (-1000), ci 1000] (B x2)), (3, rp [(.tmp 5, B x2)] (B true)), (6, rp [(.tmp 6, B true), fu 65, (.tmp 8, I p0.Most), ci 0, ci 1000000] (B x5))] ⟨apc (first := []) (cap := []) (vs := [I p0.Price, (I ((-1000))), I 1000]) rfl enter65 (plant_withinX_ok N p0.Price (-1000) 1000 _ hf1) rfl rfl (nlc nll (nlc nll (nlc nll nl0))) nll rfl, asb hb3 (amv rfl), ag_ (apc (first := []) (cap := []) (vs := [I p0.Most, I 0, I 1000000]) rfl enter65 (plant_withinX_ok N p0.Most 0 1000000 _ hf4) rfl rfl (nlc nll (nlc nll (nlc nll nl0))) nll rfl), trivial⟩ ?_
   refine awp_ret ?_
   obtain rfl := osi h
   exact ⟨⟨[B x5], ⟨rot (by kernel_rfl), trivial⟩, rfl⟩, nll, Nat.le_refl _, fun n hn => absurd hn (Nat.not_lt_zero n)⟩
  ·replace h := bif_f hb3 h
   refine wx tbk [(2, rp [fu 65, (.tmp 4, I p0.Price), ci (-1000), ci 1000] (B x2)), (3, rp [(.tmp 5, B x2)] (B false))] ⟨apc (first := []) (cap := []) (vs := [I p0.Price, (I ((-1000))), I 1000]) rfl enter65 (plant_withinX_ok N p0.Price (-1000) 1000 _ hf1) rfl rfl (nlc nll (nlc nll (nlc nll nl0))) nll rfl, asb hb3 (amv rfl), trivial⟩ ?_
   refine awp_ret ?_
   obtain rfl := osi h
   exact ⟨⟨[B false], ⟨rot (by kernel_rfl), trivial⟩, rfl⟩, nll, Nat.le_refl _, fun n hn => absurd hn (Nat.not_lt_zero n)⟩

def plant_all_plant_Hour_1X_1 (N : Nat) (p0 : GHour) : Option Bool :=
  (plant_Job_valid_2X N p0).bind fun x3 =>
  some (!x3)
set_option maxRecDepth 100000 in
set_option maxHeartbeats 4000000 in
theorem plant_all_plant_Hour_1X_1_ok (N : Nat) (p0 : GHour) (r : Bool) (h : plant_all_plant_Hour_1X_1 N p0 = some r) : Spec Try.prog 117 [(.agg [(I (p0.Price)), (I (p0.Most))]), (.ref 0 1 (0) 0)] [(.own 1 [[(.fn (.func 98) [] [])]])] (B (r)) [(.own 1 [[(.fn (.func 98) [] [])]])] := by
  refine spec_of_awp Try.func117 rfl 1 (nle rfl) (fun X φ0 w0 hφ0 => ?_)
  unfold plant_all_plant_Hour_1X_1 at h
  refine awp_finm ?_
  refine wx tbk [] trivial ?_
  obtain ⟨x3, hf2, h⟩ := bno h
  refine wx tbk [(2, rp [(.tmp 4, (.fn (.func 98) [] [])), (.tmp 5, (.agg [I p0.Price, I p0.Most]))] (B x3))] ⟨apc (first := []) (cap := []) (vs := [(.agg [I p0.Price, I p0.Most])]) rfl enter98 (plant_Job_valid_2X_ok N p0 _ hf2) rfl rfl (nlc (NLt.agg _ (nlc nll (nlc nll nl0))) nl0) nll rfl, trivial⟩ ?_
  refine wmr (mto (n := 8) (l' := [(3, (B ((!x3))))]) (own' := [(.own 1 [[(.fn (.func 98) [] [])]])]) [(3, (B ((!x3))))] [0] [(.own 1 [[(.fn (.func 98) [] [])]])] hφ0 (pc rwl pn) (qc (spb (lc (.rn (rn_fn rn0 rn0)) ln)) qn)) ?_
  refine awp_ret ?_
  obtain rfl := osi h
  exact ⟨_, Mor.rfl, fin_of (vs := [(B ((!x3)))]) ⟨rot (by kernel_rfl), trivial⟩ rfl (NLt.of0 nll) (by kernel_rfl) (snl_cons (snl_box (nlc (NLt.of0 (NLt.fn _ _ _ nl0 nl0)) nl0)) snl_nil)⟩

def slices_IndexFunc_plant_Hour_plant_HourX_1_loop1 (N : Nat) (p0 : (List GHour)) (k2 : Unit → Option Int) : Nat → Int → Option Int
  | 0, _ => none
  | n5 + 1, y3 =>
    bif (decide (y3 < (p0.length : Int))) then
     (getI p0 y3).bind fun x7 =>
     (plant_all_plant_Hour_1X_1 N x7).bind fun x12 =>
     bif x12 then
      some y3
     else
      slices_IndexFunc_plant_Hour_plant_HourX_1_loop1 N p0 k2 n5 (w64 (y3 + 1))
    else
     k2 ()
def slices_IndexFunc_plant_Hour_plant_HourX_1 (N : Nat) (p0 : (List GHour)) : Option Int :=
  joinK (fun _ =>
    some (-1)) fun k2 : Unit → Option Int =>
  slices_IndexFunc_plant_Hour_plant_HourX_1_loop1 N p0 k2 N 0
set_option maxRecDepth 100000 in
set_option maxHeartbeats 4000000 in
theorem slices_IndexFunc_plant_Hour_plant_HourX_1_ok (N : Nat) (p0 : (List GHour)) (r : Int) (h : slices_IndexFunc_plant_Hour_plant_HourX_1 N p0 = some r) : Spec Try.prog 129 [(.dat 2 ((p0 : List GHour).map c_GHour)), (.fn (.func 117) [] [(.ref 0 1 (0) 0)])] [(.own 1 [[(.fn (.func 98) [] [])]])] (I (r)) [(.own 1 [[(.fn (.func 98) [] [])]])] := by
  refine spec_of_awp Try.func129 rfl 1 (nle rfl) (fun X φ0 w0 hφ0 => ?_)
  unfold slices_IndexFunc_plant_Hour_plant_HourX_1 at h
  refine awp_finm ?_
  refine wx tbk [] trivial ?_
  obtain ⟨k2, hk_k2, h⟩ := jko h
  refine wjn (τ := Unit) (fun t => k2 t = some r) (fun _ => ⟨mk 19 [], [(.own 1 [[(.fn (.func 98) [] [])]])]⟩) (fun t h => ?_) ?_
  ·subst hk_k2
   refine wx tbk [] trivial ?_
   refine wmr (mto (n := 19) (l' := [(4, (I ((-1))))]) (own' := [(.own 1 [[(.fn (.func 98) [] [])]])]) [(4, (I ((-1))))] [0] [(.own 1 [[(.fn (.func 98) [] [])]])] hφ0 (pc rwl pn) (qc (spb (lc (.rn (rn_fn rn0 rn0)) ln)) qn)) ?_
   refine awp_ret ?_
   obtain rfl := osi h
   exact ⟨_, Mor.rfl, fin_of (vs := [(I ((-1)))]) ⟨rot (by kernel_rfl), trivial⟩ rfl (NLt.of0 nll) (by kernel_rfl) (snl_cons (snl_box (nlc (NLt.of0 (NLt.fn _ _ _ nl0 nl0)) nl0)) snl_nil)⟩
  ·skip
   refine wx tbk [(1, rp [(.tmp 6, (.dat 2 ((p0 : List GHour).map c_GHour)))] (I ((p0.length : Int))))] ⟨alm (c := c_GHour) (l := p0) (aln rfl Try.underlying45 rfl), trivial⟩ ?_
   refine awp_block ?_
   refine wmr (mto (n := 19) (l' := [(0, (.dat 2 ((p0 : List GHour).map c_GHour))), (1, (.fn (.func 117) [] [.ref 0 1 0 0])), (7, (I ((p0.length : Int)))), (8, I 0)]) (own' := [(.own 1 [[(.fn (.func 98) [] [])]])]) [(0, (.dat 2 ((p0 : List GHour).map c_GHour))), (1, (.fn (.func 117) [] [.ref 0 1 0 0])), (7, (I ((p0.length : Int)))), (8, I 0)] [0] [(.own 1 [[(.fn (.func 98) [] [])]])] hφ0 (pc (.rn (.plain _ (nld nl_GHour _))) (pc (.rn (rn_fn rn0 (rnc (rqr rfl) rn0))) (pc rwl (pc rwl pn)))) (qc (spb (lc (.rn (rn_fn rn0 rn0)) ln)) qn)) ?_
   refine awp_ind (τ := Int) (fun n t => slices_IndexFunc_plant_Hour_plant_HourX_1_loop1 N p0 k2 n t = some r) (fun y3 => ⟨mk 19 [(0, (.dat 2 ((p0 : List GHour).map c_GHour))), (1, (.fn (.func 117) [] [.ref 0 1 0 0])), (7, (I ((p0.length : Int)))), (8, I y3)], [(.own 1 [[(.fn (.func 98) [] [])]])]⟩) (fun t h => by rw [slices_IndexFunc_plant_Hour_plant_HourX_1_loop1] at h; cases h) (fun n5 ih y3 h => ?_) N (0) h
   rw [slices_IndexFunc_plant_Hour_plant_HourX_1_loop1] at h
   skip
   refine wx tbk [] trivial ?_
   refine wsq ?_
   rcases bft ((decide (y3 < (p0.length : Int)))) with hc6 | hc6
   ·replace h := bif_t hc6 h
    refine wft hc6 (by kernel_rfl) ?_
    refine awp_skip ?_
    refine thn ?_
    refine wsq ?_
    refine awp_block ?_
    refine wx tbk [] trivial ?_
    obtain ⟨x7, hg8, h⟩ := bno h
    obtain ⟨hi9, hj10⟩ := gsm hg8
    obtain ⟨x12, hf11, h⟩ := bno h
    refine wx tbk [(3, rp [(.tmp 12, (.dat 2 ((p0 : List GHour).map c_GHour))), (.tmp 13, I y3)] (.dptr (c_GHour (x7)) 0)), (5, ⟨[(.tmp 11, (.fn (.func 117) [] [.ref 0 1 0 0])), (.tmp 15, (.agg [I x7.Price, I x7.Most]))], [(0, (.own 1 [[(.fn (.func 98) [] [])]]))], B x12, [(0, (.own 1 [[(.fn (.func 98) [] [])]]))], false⟩)] ⟨aid rfl Try.underlying45 ti50 rfl rfl hi9 (mgt c_GHour hj10) rfl, astep_callq (first := []) (cap := [.ref 0 1 0 0]) (vs := [(.agg [I x7.Price, I x7.Most])]) (σr := [(.own 1 [[(.fn (.func 98) [] [])]])]) (σr' := [(.own 1 [[(.fn (.func 98) [] [])]])]) (res' := (B x12)) [0] rfl enter117 (plant_all_plant_Hour_1X_1_ok N x7 _ hf11) rfl (rn_agg (rnc (.plain _ (NLt.agg _ (nlc nll (nlc nll nl0)))) (rnc (rnk_ref rfl) rn0))) (slc (srn_box (rnc (.plain _ (NLt.fn _ _ _ nl0 nl0)) rn0)) slw_nil) (slc (srn_box (rnc (.plain _ (NLt.fn _ _ _ nl0 nl0)) rn0)) slw_nil) (.plain _ nll) rfl rfl rfl, trivial⟩ ?_
    rcases bft (x12) with hc13 | hc13
    ·replace h := bif_t hc13 h
     refine wft hc13 (by kernel_rfl) ?_
     refine wx tbk [] trivial ?_
     refine wmr (mto (n := 19) (l' := [(4, I y3)]) (own' := [(.own 1 [[(.fn (.func 98) [] [])]])]) [(4, I y3)] [0] [(.own 1 [[(.fn (.func 98) [] [])]])] hφ0 (pc rwl pn) (qc (spb (lc (.rn (rn_fn rn0 rn0)) ln)) qn)) ?_
     refine awp_ret ?_
     refine blockA_r ?_
     refine thenA_r ?_
     refine thenA_r ?_
     refine blockA_r ?_
     refine thenA_r ?_
     obtain rfl := osi h
     exact ⟨_, Mor.rfl, fin_of (vs := [I y3]) ⟨rot (by kernel_rfl), trivial⟩ rfl (NLt.of0 nll) (by kernel_rfl) (snl_cons (snl_box (nlc (NLt.of0 (NLt.fn _ _ _ nl0 nl0)) nl0)) snl_nil)⟩
    ·replace h := bif_f hc13 h
     refine wfn hc13 (by kernel_rfl) ?_
     refine awp_skip ?_
     refine bln ?_
     refine thn ?_
     refine wx1 tbk [] trivial ?_
     refine thn ?_
     exact arm (mto (n := 19) [(0, (.dat 2 ((p0 : List GHour).map c_GHour))), (1, (.fn (.func 117) [] [.ref 0 1 0 0])), (7, (I ((p0.length : Int)))), (8, (I (w64 (y3 + 1))))] [0] [(.own 1 [[(.fn (.func 98) [] [])]])] hφ0 (pc (.rn (.plain _ (nld nl_GHour _))) (pc (.rn (rn_fn rn0 (rnc (rqr rfl) rn0))) (pc rwl (pc rwl pn)))) (qc (spb (lc (.rn (rn_fn rn0 rn0)) ln)) qn)) (ih (w64 (y3 + 1)) h)
   ·replace h := bif_f hc6 h
    refine wfn hc6 (by kernel_rfl) ?_
    refine awp_exit ?_
    refine thenA_x ?_
    refine thenA_x ?_
    refine blockA_e rfl ?_
    refine thn ?_
    exact ⟨(), h, (mto (n := 19) [] [0] [(.own 1 [[(.fn (.func 98) [] [])]])] hφ0 pn (qc (spb (lc (.rn (rn_fn rn0 rn0)) ln)) qn))⟩

def slices_ContainsFunc_plant_Hour_plant_HourX_1 (N : Nat) (p0 : (List GHour)) : Option Bool :=
  (slices_IndexFunc_plant_Hour_plant_HourX_1 N p0).bind fun x3 =>
  some (decide (x3 ≥ 0))
set_option maxRecDepth 100000 in
set_option maxHeartbeats 4000000 in
theorem slices_ContainsFunc_plant_Hour_plant_HourX_1_ok (N : Nat) (p0 : (List GHour)) (r : Bool) (h : slices_ContainsFunc_plant_Hour_plant_HourX_1 N p0 = some r) : Spec Try.prog 116 [(.dat 2 ((p0 : List GHour).map c_GHour)), (.fn (.func 117) [] [(.ref 0 1 (0) 0)])] [(.own 1 [[(.fn (.func 98) [] [])]])] (B (r)) [(.own 1 [[(.fn (.func 98) [] [])]])] := by
  refine spec_of_awp Try.func116 rfl 1 (nle rfl) (fun X φ0 w0 hφ0 => ?_)
  unfold slices_ContainsFunc_plant_Hour_plant_HourX_1 at h
  refine awp_finm ?_
  refine wx tbk [] trivial ?_
  obtain ⟨x3, hf2, h⟩ := bno h
  refine wx tbk [(2, ⟨[fu 129, (.tmp 5, (.dat 2 ((p0 : List GHour).map c_GHour))), (.tmp 6, (.fn (.func 117) [] [.ref 0 1 0 0]))], [(0, (.own 1 [[(.fn (.func 98) [] [])]]))], I x3, [(0, (.own 1 [[(.fn (.func 98) [] [])]]))], false⟩)] ⟨astep_callq (first := []) (cap := []) (vs := [(.dat 2 ((p0 : List GHour).map c_GHour)), (.fn (.func 117) [] [.ref 0 1 0 0])]) (σr := [(.own 1 [[(.fn (.func 98) [] [])]])]) (σr' := [(.own 1 [[(.fn (.func 98) [] [])]])]) (res' := (I x3)) [0] rfl enter129 (slices_IndexFunc_plant_Hour_plant_HourX_1_ok N p0 _ hf2) rfl (rn_agg (rnc (.plain _ (nld nl_GHour _)) (rnc (rn_fn rn0 (rnc (rnk_ref rfl) rn0)) rn0))) (slc (srn_box (rnc (.plain _ (NLt.fn _ _ _ nl0 nl0)) rn0)) slw_nil) (slc (srn_box (rnc (.plain _ (NLt.fn _ _ _ nl0 nl0)) rn0)) slw_nil) (.plain _ nll) rfl rfl rfl, trivial⟩ ?_
  refine wmr (mto (n := 9) (l' := [(4, (B ((decide (x3 ≥ 0)))))]) (own' := [(.own 1 [[(.fn (.func 98) [] [])]])]) [(4, (B ((decide (x3 ≥ 0)))))] [0] [(.own 1 [[(.fn (.func 98) [] [])]])] hφ0 (pc rwl pn) (qc (spb (lc (.rn (rn_fn rn0 rn0)) ln)) qn)) ?_
  refine awp_ret ?_
  obtain rfl := osi h
  exact ⟨_, Mor.rfl, fin_of (vs := [(B ((decide (x3 ≥ 0))))]) ⟨rot (by kernel_rfl), trivial⟩ rfl (NLt.of0 nll) (by kernel_rfl) (snl_cons (snl_box (nlc (NLt.of0 (NLt.fn _ _ _ nl0 nl0)) nl0)) snl_nil)⟩

def plant_all_plant_HourX_1 (N : Nat) (p0 : (List GHour)) : Option Bool :=
  (slices_ContainsFunc_plant_Hour_plant_HourX_1 N p0).bind fun x2 =>
  some (!x2)
set_option maxRecDepth 100000 in
set_option maxHeartbeats 4000000 in
theorem plant_all_plant_HourX_1_ok (N : Nat) (p0 : (List GHour)) (r : Bool) (h : plant_all_plant_HourX_1 N p0 = some r) : Spec Try.prog 97 [(.dat 2 ((p0 : List GHour).map c_GHour)), (.fn (.func 98) [] [])] [] (B (r)) [] := by
  refine spec_of_awp Try.func97 rfl 0 (nle rfl) (fun X φ0 w0 hφ0 => ?_)
  unfold plant_all_plant_HourX_1 at h
  refine wx tbk [] trivial ?_
  obtain ⟨x2, hf1, h⟩ := bno h
  refine wx tbk [(1, rp [(.tmp 3, .ref 0 1 0 0)] (.fn (.func 117) [] [.ref 0 1 0 0])), (2, ⟨[fu 116, (.tmp 5, (.dat 2 ((p0 : List GHour).map c_GHour))), (.tmp 6, (.fn (.func 117) [] [.ref 0 1 0 0]))], [(0, (.own 1 [[(.fn (.func 98) [] [])]]))], B x2, [(0, (.own 1 [[(.fn (.func 98) [] [])]]))], false⟩)] ⟨astep_func (fs := []) (cs := [.ref 0 1 0 0]) rfl rfl rfl rfl, astep_callq (first := []) (cap := []) (vs := [(.dat 2 ((p0 : List GHour).map c_GHour)), (.fn (.func 117) [] [.ref 0 1 0 0])]) (σr := [(.own 1 [[(.fn (.func 98) [] [])]])]) (σr' := [(.own 1 [[(.fn (.func 98) [] [])]])]) (res' := (B x2)) [0] rfl enter116 (slices_ContainsFunc_plant_Hour_plant_HourX_1_ok N p0 _ hf1) rfl (rn_agg (rnc (.plain _ (nld nl_GHour _)) (rnc (rn_fn rn0 (rnc (rnk_ref rfl) rn0)) rn0))) (slc (srn_box (rnc (.plain _ (NLt.fn _ _ _ nl0 nl0)) rn0)) slw_nil) (slc (srn_box (rnc (.plain _ (NLt.fn _ _ _ nl0 nl0)) rn0)) slw_nil) (.plain _ nll) rfl rfl rfl, trivial⟩ ?_
  refine awp_ret ?_
  obtain rfl := osi h
  exact ⟨⟨[(B ((!x2)))], ⟨rot (by kernel_rfl), trivial⟩, rfl⟩, nll, Nat.le_refl _, fun n hn => absurd hn (Nat.not_lt_zero n)⟩

def plant_Job_validX (N : Nat) (p0 : GJob) : Option Bool :=
  (plant_withinX N (p0.Levels.length : Int) 2 12).bind fun x2 =>
  bif x2 then
   (getI p0.Levels 0).bind fun x4 =>
   bif (x4 == 0) then
    (plant_all_intX_2 N p0.Levels (-1)).bind fun x10 =>
    bif x10.1 then
     (plant_withinX N p0.Ramp 1 12).bind fun x13 =>
     bif x13 then
      (plant_withinX N p0.Start 0 1000000000).bind fun x16 =>
      bif x16 then
       (plant_withinX N p0.First 0 (w64 ((p0.Levels.length : Int) - 1))).bind fun x19 =>
       bif x19 then
        (plant_withinX N (p0.Hours.length : Int) 1 100).bind fun x22 =>
        bif x22 then
         (plant_all_plant_HourX_1 N p0.Hours).bind fun x25 =>
         some x25
        else
         some false
       else
        some false
      else
       some false
     else
      some false
    else
     some false
   else
    some false
  else
   some false
def z51_0 (p0 : GJob) : AV := .dat 2 ((p0.Hours : List GHour).map c_GHour)
set_option maxRecDepth 100000 in
set_option maxHeartbeats 4000000 in
theorem plant_Job_validX_ok (N : Nat) (p0 : GJob) (r : Bool) (h : plant_Job_validX N p0 = some r) : Spec Try.prog 68 [(.agg (c_GJob p0))] [] (B r) [] := by
  refine spec_of_awp Try.func68 rfl 0 (nle rfl) (fun X φ0 w0 hφ0 => ?_)
  unfold plant_Job_validX at h
  refine wx tbk [] trivial ?_
  refine wx tbk [] trivial ?_
  refine wx tbk [(0, rp [(.tmp 3, .ref 1 1 0 0)] (.fn (.func 96) [] [.ref 1 1 0 0]))] ⟨astep_func (fs := []) (cs := [.ref 1 1 0 0]) rfl rfl rfl rfl, trivial⟩ ?_
  obtain ⟨x2, hf1, h⟩ := bno h
  rcases bft (x2) with hb3 | hb3
  ·replace h := bif_t hb3 h
   obtain ⟨x4, hg5, h⟩ := bno h
   obtain ⟨hi6, hj7⟩ := gsm hg5
   rcases bft ((x4 == 0)) with hb8 | hb8
   ·replace h := bif_t hb8 h
    obtain ⟨x10, hf9, h⟩ := bno h
    rcases bft (x10.1) with hb11 | hb11
    ·replace h := bif_t hb11 h
     obtain ⟨x13, hf12, h⟩ := bno h
     rcases bft (x13) with hb14 | hb14
     ·replace h := bif_t hb14 h
      obtain ⟨x16, hf15, h⟩ := bno h
      rcases bft (x16) with hb17 | hb17
      ·replace h := bif_t hb17 h
       obtain ⟨x19, hf18, h⟩ := bno h
       rcases bft (x19) with hb20 | hb20
       ·replace h := bif_t hb20 h
        obtain ⟨x22, hf21, h⟩ := bno h
        rcases bft (x22) with hb23 | hb23
        ·replace h := bif_t hb23 h
         obtain ⟨x25, hf24, h⟩ := bno h
         refine wx tbk [(2, rp [(.tmp 7, (.dat 1 ((p0.Levels : List Int).map c_i64)))] (I ((p0.Levels.length : Int)))), (3, rp [fu 65, (.tmp 8, (I ((p0.Levels.length : Int)))), ci 2, ci 12] (B x2)), (4, rp [(.tmp 9, B x2)] (B true)), (7, rp [(.tmp 10, B true), (.tmp 12, (.dat 1 ((p0.Levels : List Int).map c_i64))), ci 0] (.dptr (c_i64 (x4)) 0)), (11, rp [(.tmp 16, (B ((x4 == 0))))] (B true)), (15, ⟨[(.tmp 17, B true), fu 89, (.tmp 19, (.dat 1 ((p0.Levels : List Int).map c_i64))), (.tmp 20, (.fn (.func 96) [] [.ref 1 1 0 0]))], [(1, (.own 1 [[(I ((-1)))]]))], B x10.1, [(1, .own 1 [[I x10.2]])], false⟩), (17, rp [(.tmp 22, B x10.1)] (B true)), (20, rp [(.tmp 23, B true), fu 65, (.tmp 25, I p0.Ramp), ci 1, ci 12] (B x13)), (22, rp [(.tmp 27, B x13)] (B true)), (25, rp [(.tmp 28, B true), fu 65, (.tmp 30, I p0.Start), ci 0, ci 1000000000] (B x16)), (27, rp [(.tmp 32, B x16)] (B true)), (32, rp [(.tmp 33, B true), (.tmp 37, (.dat 1 ((p0.Levels : List Int).map c_i64)))] (I ((p0.Levels.length : Int)))), (34, rp [(.tmp 33, B true), fu 65, (.tmp 35, I p0.First), ci 0, (.tmp 39, (I (w64 ((p0.Levels.length : Int) - 1))))] (B x19)), (36, rp [(.tmp 41, B x19)] (B true)), (39, rp [(.tmp 42, B true), (.tmp 44, (z51_0 p0))] (I ((p0.Hours.length : Int)))), (40, rp [(.tmp 42, B true), fu 65, (.tmp 45, (I ((p0.Hours.length : Int)))), ci 1, ci 100] (B x22)), (42, rp [(.tmp 47, B x22)] (B true)), (45, rp [(.tmp 48, B true), fu 97, (.tmp 50, (z51_0 p0)), fu 98] (B x25))] ⟨alm (c := c_i64) (l := p0.Levels) (aln rfl Try.underlying37 rfl), apc (first := []) (cap := []) (vs := [(I ((p0.Levels.length : Int))), I 2, I 12]) rfl enter65 (plant_withinX_ok N (p0.Levels.length : Int) 2 12 _ hf1) rfl rfl (nlc nll (nlc nll (nlc nll nl0))) nll rfl, asb hb3 (amv rfl), ag_ (aid rfl Try.underlying37 ti3 rfl rfl hi6 (mgt c_i64 hj7) rfl), asb hb8 (amv rfl), ag_ (astep_callq (first := []) (cap := []) (vs := [(.dat 1 ((p0.Levels : List Int).map c_i64)), (.fn (.func 96) [] [.ref 1 1 0 0])]) (σr := [(.own 1 [[(I ((-1)))]])]) (σr' := [(.own 1 [[I x10.2]])]) (res' := (B x10.1)) [1] rfl enter89 (plant_all_intX_2_ok N p0.Levels (-1) _ hf9) rfl (rn_agg (rnc (.plain _ (nld nl_i64 _)) (rnc (rn_fn rn0 (rnc (rnk_ref rfl) rn0)) rn0))) (slc (srn_box (rnc (.plain _ nll) rn0)) slw_nil) (slc (srn_box (rnc (.plain _ nll) rn0)) slw_nil) (.plain _ nll) rfl rfl rfl), asb hb11 (amv rfl), ag_ (apc (first := []) (cap := []) (vs := [I p0.Ramp, I 1, I 12]) rfl enter65 (plant_withinX_ok N p0.Ramp 1 12 _ hf12) rfl rfl (nlc nll (nlc nll (nlc nll nl0))) nll rfl), asb hb14 (amv rfl), ag_ (apc (first := []) (cap := []) (vs := [I p0.Start, I 0, I 1000000000]) rfl enter65 (plant_withinX_ok N p0.Start 0 1000000000 _ hf15) rfl rfl (nlc nll (nlc nll (nlc nll nl0))) nll rfl), asb hb17 (amv rfl), ag_ (alm (c := c_i64) (l := p0.Levels) (aln rfl Try.underlying37 rfl)), ag_ (apc (first := []) (cap := []) (vs := [I p0.First, I 0, (I (w64 ((p0.Levels.length : Int) - 1)))]) rfl enter65 (plant_withinX_ok N p0.First 0 (w64 ((p0.Levels.length : Int) - 1)) _ hf18) rfl rfl (nlc nll (nlc nll (nlc nll nl0))) nll rfl), asb hb20 (amv rfl), ag_ (alm (c := c_GHour) (l := p0.Hours) (aln rfl Try.underlying45 rfl)), ag_ (apc (first := []) (cap := []) (vs := [(I ((p0.Hours.length : Int))), I 1, I 100]) rfl enter65 (plant_withinX_ok N (p0.Hours.length : Int) 1 100 _ hf21) rfl rfl (nlc nll (nlc nll (nlc nll nl0))) nll rfl), asb hb23 (amv rfl), ag_ (astep_callq (first := []) (cap := []) (vs := [(z51_0 p0), (.fn (.func 98) [] [])]) (σr := []) (σr' := []) (res' := (B x25)) [] rfl enter97 (plant_all_plant_HourX_1_ok N p0.Hours _ hf24) rfl (rn_agg (rnc (.plain _ (nld nl_GHour _)) (rnc (.plain _ (NLt.fn _ _ _ nl0 nl0)) rn0))) slw_nil slw_nil (.plain _ nll) rfl rfl rfl), trivial⟩ ?_
         refine awp_ret ?_
         obtain rfl := osi h
         exact ⟨⟨[B x25], ⟨rot (by kernel_rfl), trivial⟩, rfl⟩, nll, Nat.le_refl _, fun n hn => absurd hn (Nat.not_lt_zero n)⟩
        ·replace h := bif_f hb23 h
         refine wx tbk [(2, rp [(.tmp 7, (.dat 1 ((p0.Levels : List Int).map c_i64)))] (I ((p0.Levels.length : Int)))), (3, rp [fu 65, (.tmp 8, (I ((p0.Levels.length : Int)))), ci 2, ci 12] (B x2)), (4, rp [(.tmp 9, B x2)] (B true)), (7, rp [(.tmp 10, B true), (.tmp 12, (.dat 1 ((p0.Levels : List Int).map c_i64))), ci 0] (.dptr (c_i64 (x4)) 0)), (11, rp [(.tmp 16, (B ((x4 == 0))))] (B true)), (15, ⟨[(.tmp 17, B true), fu 89, (.tmp 19, (.dat 1 ((p0.Levels : List Int).map c_i64))), (.tmp 20, (.fn (.func 96) [] [.ref 1 1 0 0]))], [(1, (.own 1 [[(I ((-1)))]]))], B x10.1, [(1, .own 1 [[I x10.2]])], false⟩), (17, rp [(.tmp 22, B x10.1)] (B true)), (20, rp [(.tmp 23, B true), fu 65, (.tmp 25, I p0.Ramp), ci 1, ci 12] (B x13)), (22, rp [(.tmp 27, B x13)] (B true)), (25, rp [(.tmp 28, B true), fu 65, (.tmp 30, I p0.Start), ci 0, ci 1000000000] (B x16)), (27, rp [(.tmp 32, B x16)] (B true)), (32, rp [(.tmp 33, B true), (.tmp 37, (.dat 1 ((p0.Levels : List Int).map c_i64)))] (I ((p0.Levels.length : Int)))), (34, rp [(.tmp 33, B true), fu 65, (.tmp 35, I p0.First), ci 0, (.tmp 39, (I (w64 ((p0.Levels.length : Int) - 1))))] (B x19)), (36, rp [(.tmp 41, B x19)] (B true)), (39, rp [(.tmp 42, B true), (.tmp 44, (z51_0 p0))] (I ((p0.Hours.length : Int)))), (40, rp [(.tmp 42, B true), fu 65, (.tmp 45, (I ((p0.Hours.length : Int)))), ci 1, ci 100] (B x22)), (42, rp [(.tmp 47, B x22)] (B false))] ⟨alm (c := c_i64) (l := p0.Levels) (aln rfl Try.underlying37 rfl), apc (first := []) (cap := []) (vs := [(I ((p0.Levels.length : Int))), I 2, I 12]) rfl enter65 (plant_withinX_ok N (p0.Levels.length : Int) 2 12 _ hf1) rfl rfl (nlc nll (nlc nll (nlc nll nl0))) nll rfl, asb hb3 (amv rfl), ag_ (aid rfl Try.underlying37 ti3 rfl rfl hi6 (mgt c_i64 hj7) rfl), asb hb8 (amv rfl), ag_ (astep_callq (first := []) (cap := []) (vs := [(.dat 1 ((p0.Levels : List Int).map c_i64)), (.fn (.func 96) [] [.ref 1 1 0 0])]) (σr := [(.own 1 [[(I ((-1)))]])]) (σr' := [(.own 1 [[I x10.2]])]) (res' := (B x10.1)) [1] rfl enter89 (plant_all_intX_2_ok N p0.Levels (-1) _ hf9) rfl (rn_agg (rnc (.plain _ (nld nl_i64 _)) (rnc (rn_fn rn0 (rnc (rnk_ref rfl) rn0)) rn0))) (slc (srn_box (rnc (.plain _ nll) rn0)) slw_nil) (slc (srn_box (rnc (.plain _ nll) rn0)) slw_nil) (.plain _ nll) rfl rfl rfl), asb hb11 (amv rfl), ag_ (apc (first := []) (cap := []) (vs := [I p0.Ramp, I 1, I 12]) rfl enter65 (plant_withinX_ok N p0.Ramp 1 12 _ hf12) rfl rfl (nlc nll (nlc nll (nlc nll nl0))) nll rfl), asb hb14 (amv rfl), ag_ (apc (first := []) (cap := []) (vs := [I p0.Start, I 0, I 1000000000]) rfl enter65 (plant_withinX_ok N p0.Start 0 1000000000 _ hf15) rfl rfl (nlc nll (nlc nll (nlc nll nl0))) nll rfl), asb hb17 (amv rfl), ag_ (alm (c := c_i64) (l := p0.Levels) (aln rfl Try.underlying37 rfl)), ag_ (apc (first := []) (cap := []) (vs := [I p0.First, I 0, (I (w64 ((p0.Levels.length : Int) - 1)))]) rfl enter65 (plant_withinX_ok N p0.First 0 (w64 ((p0.Levels.length : Int) - 1)) _ hf18) rfl rfl (nlc nll (nlc nll (nlc nll nl0))) nll rfl), asb hb20 (amv rfl), ag_ (alm (c := c_GHour) (l := p0.Hours) (aln rfl Try.underlying45 rfl)), ag_ (apc (first := []) (cap := []) (vs := [(I ((p0.Hours.length : Int))), I 1, I 100]) rfl enter65 (plant_withinX_ok N (p0.Hours.length : Int) 1 100 _ hf21) rfl rfl (nlc nll (nlc nll (nlc nll nl0))) nll rfl), asb hb23 (amv rfl), trivial⟩ ?_
         refine awp_ret ?_
         obtain rfl := osi h
         exact ⟨⟨[B false], ⟨rot (by kernel_rfl), trivial⟩, rfl⟩, nll, Nat.le_refl _, fun n hn => absurd hn (Nat.not_lt_zero n)⟩
       ·replace h := bif_f hb20 h
        refine wx tbk [(2, rp [(.tmp 7, (.dat 1 ((p0.Levels : List Int).map c_i64)))] (I ((p0.Levels.length : Int)))), (3, rp [fu 65, (.tmp 8, (I ((p0.Levels.length : Int)))), ci 2, ci 12] (B x2)), (4, rp [(.tmp 9, B x2)] (B true)), (7, rp [(.tmp 10, B true), (.tmp 12, (.dat 1 ((p0.Levels : List Int).map c_i64))), ci 0] (.dptr (c_i64 (x4)) 0)), (11, rp [(.tmp 16, (B ((x4 == 0))))] (B true)), (15, ⟨[(.tmp 17, B true), fu 89, (.tmp 19, (.dat 1 ((p0.Levels : List Int).map c_i64))), (.tmp 20, (.fn (.func 96) [] [.ref 1 1 0 0]))], [(1, (.own 1 [[(I ((-1)))]]))], B x10.1, [(1, .own 1 [[I x10.2]])], false⟩), (17, rp [(.tmp 22, B x10.1)] (B true)), (20, rp [(.tmp 23, B true), fu 65, (.tmp 25, I p0.Ramp), ci 1, ci 12] (B x13)), (22, rp [(.tmp 27, B x13)] (B true)), (25, rp [(.tmp 28, B true), fu 65, (.tmp 30, I p0.Start), ci 0, ci 1000000000] (B x16)), (27, rp [(.tmp 32, B x16)] (B true)), (32, rp [(.tmp 33, B true), (.tmp 37, (.dat 1 ((p0.Levels : List Int).map c_i64)))] (I ((p0.Levels.length : Int)))), (34, rp [(.tmp 33, B true), fu 65, (.tmp 35, I p0.First), ci 0, (.tmp 39, (I (w64 ((p0.Levels.length : Int) - 1))))] (B x19)), (36, rp [(.tmp 41, B x19)] (B false))] ⟨alm (c := c_i64) (l := p0.Levels) (aln rfl Try.underlying37 rfl), apc (first := []) (cap := []) (vs := [(I ((p0.Levels.length : Int))), I 2, I 12]) rfl enter65 (plant_withinX_ok N (p0.Levels.length : Int) 2 12 _ hf1) rfl rfl (nlc nll (nlc nll (nlc nll nl0))) nll rfl, asb hb3 (amv rfl), ag_ (aid rfl Try.underlying37 ti3 rfl rfl hi6 (mgt c_i64 hj7) rfl), asb hb8 (amv rfl), ag_ (astep_callq (first := []) (cap := []) (vs := [(.dat 1 ((p0.Levels : List Int).map c_i64)), (.fn (.func 96) [] [.ref 1 1 0 0])]) (σr := [(.own 1 [[(I ((-1)))]])]) (σr' := [(.own 1 [[I x10.2]])]) (res' := (B x10.1)) [1] rfl enter89 (plant_all_intX_2_ok N p0.Levels (-1) _ hf9) rfl (rn_agg (rnc (.plain _ (nld nl_i64 _)) (rnc (rn_fn rn0 (rnc (rnk_ref rfl) rn0)) rn0))) (slc (srn_box (rnc (.plain _ nll) rn0)) slw_nil) (slc (srn_box (rnc (.plain _ nll) rn0)) slw_nil) (.plain _ nll) rfl rfl rfl), asb hb11 (amv rfl), ag_ (apc (first := []) (cap := []) (vs := [I p0.Ramp, I 1, I 12]) rfl enter65 (plant_withinX_ok N p0.Ramp 1 12 _ hf12) rfl rfl (nlc nll (nlc nll (nlc nll nl0))) nll rfl), asb hb14 (amv rfl), ag_ (apc (first := []) (cap := []) (vs := [I p0.Start, I 0, I 1000000000]) rfl enter65 (plant_withinX_ok N p0.Start 0 1000000000 _ hf15) rfl rfl (nlc nll (nlc nll (nlc nll nl0))) nll rfl), asb hb17 (amv rfl), ag_ (alm (c := c_i64) (l := p0.Levels) (aln rfl Try.underlying37 rfl)), ag_ (apc (first := []) (cap := []) (vs := [I p0.First, I 0, (I (w64 ((p0.Levels.length : Int) - 1)))]) rfl enter65 (plant_withinX_ok N p0.First 0 (w64 ((p0.Levels.length : Int) - 1)) _ hf18) rfl rfl (nlc nll (nlc nll (nlc nll nl0))) nll rfl), asb hb20 (amv rfl), trivial⟩ ?_
        refine awp_ret ?_
        obtain rfl := osi h
        exact ⟨⟨[B false], ⟨rot (by kernel_rfl), trivial⟩, rfl⟩, nll, Nat.le_refl _, fun n hn => absurd hn (Nat.not_lt_zero n)⟩
      ·replace h := bif_f hb17 h
       refine wx tbk [(2, rp [(.tmp 7, (.dat 1 ((p0.Levels : List Int).map c_i64)))] (I ((p0.Levels.length : Int)))), (3, rp [fu 65, (.tmp 8, (I ((p0.Levels.length : Int)))), ci 2, ci 12] (B x2)), (4, rp [(.tmp 9, B x2)] (B true)), (7, rp [(.tmp 10, B true), (.tmp 12, (.dat 1 ((p0.Levels : List Int).map c_i64))), ci 0] (.dptr (c_i64 (x4)) 0)), (11, rp [(.tmp 16, (B ((x4 == 0))))] (B true)), (15, ⟨[(.tmp 17, B true), fu 89, (.tmp 19, (.dat 1 ((p0.Levels : List Int).map c_i64))), (.tmp 20, (.fn (.func 96) [] [.ref 1 1 0 0]))], [(1, (.own 1 [[(I ((-1)))]]))], B x10.1, [(1, .own 1 [[I x10.2]])], false⟩), (17, rp [(.tmp 22, B x10.1)] (B true)), (20, rp [(.tmp 23, B true), fu 65, (.tmp 25, I p0.Ramp), ci 1, ci 12] (B x13)), (22, rp [(.tmp 27, B x13)] (B true)), (25, rp [(.tmp 28, B true), fu 65, (.tmp 30, I p0.Start), ci 0, ci 1000000000] (B x16)), (27, rp [(.tmp 32, B x16)] (B false))] ⟨alm (c := c_i64) (l := p0.Levels) (aln rfl Try.underlying37 rfl), apc (first := []) (cap := []) (vs := [(I ((p0.Levels.length : Int))), I 2, I 12]) rfl enter65 (plant_withinX_ok N (p0.Levels.length : Int) 2 12 _ hf1) rfl rfl (nlc nll (nlc nll (nlc nll nl0))) nll rfl, asb hb3 (amv rfl), ag_ (aid rfl Try.underlying37 ti3 rfl rfl hi6 (mgt c_i64 hj7) rfl), asb hb8 (amv rfl), ag_ (astep_callq (first := []) (cap := []) (vs := [(.dat 1 ((p0.Levels : List Int).map c_i64)), (.fn (.func 96) [] [.ref 1 1 0 0])]) (σr := [(.own 1 [[(I ((-1)))]])]) (σr' := [(.own 1 [[I x10.2]])]) (res' := (B x10.1)) [1] rfl enter89 (plant_all_intX_2_ok N p0.Levels (-1) _ hf9) rfl (rn_agg (rnc (.plain _ (nld nl_i64 _)) (rnc (rn_fn rn0 (rnc (rnk_ref rfl) rn0)) rn0))) (slc (srn_box (rnc (.plain _ nll) rn0)) slw_nil) (slc (srn_box (rnc (.plain _ nll) rn0)) slw_nil) (.plain _ nll) rfl rfl rfl), asb hb11 (amv rfl), ag_ (apc (first := []) (cap := []) (vs := [I p0.Ramp, I 1, I 12]) rfl enter65 (plant_withinX_ok N p0.Ramp 1 12 _ hf12) rfl rfl (nlc nll (nlc nll (nlc nll nl0))) nll rfl), asb hb14 (amv rfl), ag_ (apc (first := []) (cap := []) (vs := [I p0.Start, I 0, I 1000000000]) rfl enter65 (plant_withinX_ok N p0.Start 0 1000000000 _ hf15) rfl rfl (nlc nll (nlc nll (nlc nll nl0))) nll rfl), asb hb17 (amv rfl), trivial⟩ ?_
       refine awp_ret ?_
       obtain rfl := osi h
       exact ⟨⟨[B false], ⟨rot (by kernel_rfl), trivial⟩, rfl⟩, nll, Nat.le_refl _, fun n hn => absurd hn (Nat.not_lt_zero n)⟩
     ·replace h := bif_f hb14 h
      refine wx tbk [(2, rp [(.tmp 7, (.dat 1 ((p0.Levels : List Int).map c_i64)))] (I ((p0.Levels.length : Int)))), (3, rp [fu 65, (.tmp 8, (I ((p0.Levels.length : Int)))), ci 2, ci 12] (B x2)), (4, rp [(.tmp 9, B x2)] (B true)), (7, rp [(.tmp 10, B true), (.tmp 12, (.dat 1 ((p0.Levels : List Int).map c_i64))), ci 0] (.dptr (c_i64 (x4)) 0)), (11, rp [(.tmp 16, (B ((x4 == 0))))] (B true)), (15, ⟨[(.tmp 17, B true), fu 89, (.tmp 19, (.dat 1 ((p0.Levels : List Int).map c_i64))), (.tmp 20, (.fn (.func 96) [] [.ref 1 1 0 0]))], [(1, (.own 1 [[(I ((-1)))]]))], B x10.1, [(1, .own 1 [[I x10.2]])], false⟩), (17, rp [(.tmp 22, B x10.1)] (B true)), (20, rp [(.tmp 23, B true), fu 65, (.tmp 25, I p0.Ramp), ci 1, ci 12] (B x13)), (22, rp [(.tmp 27, B x13)] (B false))] ⟨alm (c := c_i64) (l := p0.Levels) (aln rfl Try.underlying37 rfl), apc (first := []) (cap := []) (vs := [(I ((p0.Levels.length : Int))), I 2, I 12]) rfl enter65 (plant_withinX_ok N (p0.Levels.length : Int) 2 12 _ hf1) rfl rfl (nlc nll (nlc nll (nlc nll nl0))) nll rfl, asb hb3 (amv rfl), ag_ (aid rfl Try.underlying37 ti3 rfl rfl hi6 (mgt c_i64 hj7) rfl), asb hb8 (amv rfl), ag_ (astep_callq (first := []) (cap := []) (vs := [(.dat 1 ((p0.Levels : List Int).map c_i64)), (.fn (.func 96) [] [.ref 1 1 0 0])]) (σr := [(.own 1 [[(I ((-1)))]])]) (σr' := [(.own 1 [[I x10.2]])]) (res' := (B x10.1)) [1] rfl enter89 (plant_all_intX_2_ok N p0.Levels (-1) _ hf9) rfl (rn_agg (rnc (.plain _ (nld nl_i64 _)) (rnc (rn_fn rn0 (rnc (rnk_ref rfl) rn0)) rn0))) (slc (srn_box (rnc (.plain _ nll) rn0)) slw_nil) (slc (srn_box (rnc (.plain _ nll) rn0)) slw_nil) (.plain _ nll) rfl rfl rfl), asb hb11 (amv rfl), ag_ (apc (first := []) (cap := []) (vs := [I p0.Ramp, I 1, I 12]) rfl enter65 (plant_withinX_ok N p0.Ramp 1 12 _ hf12) rfl rfl (nlc nll (nlc nll (nlc nll nl0))) nll rfl), asb hb14 (amv rfl), trivial⟩ ?_
      refine awp_ret ?_
      obtain rfl := osi h
      exact ⟨⟨[B false], ⟨rot (by kernel_rfl), trivial⟩, rfl⟩, nll, Nat.le_refl _, fun n hn => absurd hn (Nat.not_lt_zero n)⟩
    ·replace h := bif_f hb11 h
     refine wx tbk [(2, rp [(.tmp 7, (.dat 1 ((p0.Levels : List Int).map c_i64)))] (I ((p0.Levels.length : Int)))), (3, rp [fu 65, (.tmp 8, (I ((p0.Levels.length : Int)))), ci 2, ci 12] (B x2)), (4, rp [(.tmp 9, B x2)] (B true)), (7, rp [(.tmp 10, B true), (.tmp 12, (.dat 1 ((p0.Levels : List Int).map c_i64))), ci 0] (.dptr (c_i64 (x4)) 0)), (11, rp [(.tmp 16, (B ((x4 == 0))))] (B true)), (15, ⟨[(.tmp 17, B true), fu 89, (.tmp 19, (.dat 1 ((p0.Levels : List Int).map c_i64))), (.tmp 20, (.fn (.func 96) [] [.ref 1 1 0 0]))], [(1, (.own 1 [[(I ((-1)))]]))], B x10.1, [(1, .own 1 [[I x10.2]])], false⟩), (17, rp [(.tmp 22, B x10.1)] (B false))] ⟨alm (c := c_i64) (l := p0.Levels) (aln rfl Try.underlying37 rfl), apc (first := []) (cap := []) (vs := [(I ((p0.Levels.length : Int))), I 2, I 12]) rfl enter65 (plant_withinX_ok N (p0.Levels.length : Int) 2 12 _ hf1) rfl rfl (nlc nll (nlc nll (nlc nll nl0))) nll rfl, asb hb3 (amv rfl), ag_ (aid rfl Try.underlying37 ti3 rfl rfl hi6 (mgt c_i64 hj7) rfl), asb hb8 (amv rfl), ag_ (astep_callq (first := []) (cap := []) (vs := [(.dat 1 ((p0.Levels : List Int).map c_i64)), (.fn (.func 96) [] [.ref 1 1 0 0])]) (σr := [(.own 1 [[(I ((-1)))]])]) (σr' := [(.own 1 [[I x10.2]])]) (res' := (B x10.1)) [1] rfl enter89 (plant_all_intX_2_ok N p0.Levels (-1) _ hf9) rfl (rn_agg (rnc (.plain _ (nld nl_i64 _)) (rnc (rn_fn rn0 (rnc (rnk_ref rfl) rn0)) rn0))) (slc (srn_box (rnc (.plain _ nll) rn0)) slw_nil) (slc (srn_box (rnc (.plain _ nll) rn0)) slw_nil) (.plain _ nll) rfl rfl rfl), asb hb11 (amv rfl), trivial⟩ ?_
     refine awp_ret ?_
     obtain rfl := osi h
     exact ⟨⟨[B false], ⟨rot (by kernel_rfl), trivial⟩, rfl⟩, nll, Nat.le_refl _, fun n hn => absurd hn (Nat.not_lt_zero n)⟩
   ·replace h := bif_f hb8 h
    refine wx tbk [(2, rp [(.tmp 7, (.dat 1 ((p0.Levels : List Int).map c_i64)))] (I ((p0.Levels.length : Int)))), (3, rp [fu 65, (.tmp 8, (I ((p0.Levels.length : Int)))), ci 2, ci 12] (B x2)), (4, rp [(.tmp 9, B x2)] (B true)), (7, rp [(.tmp 10, B true), (.tmp 12, (.dat 1 ((p0.Levels : List Int).map c_i64))), ci 0] (.dptr (c_i64 (x4)) 0)), (11, rp [(.tmp 16, (B ((x4 == 0))))] (B false))] ⟨alm (c := c_i64) (l := p0.Levels) (aln rfl Try.underlying37 rfl), apc (first := []) (cap := []) (vs := [(I ((p0.Levels.length : Int))), I 2, I 12]) rfl enter65 (plant_withinX_ok N (p0.Levels.length : Int) 2 12 _ hf1) rfl rfl (nlc nll (nlc nll (nlc nll nl0))) nll rfl, asb hb3 (amv rfl), ag_ (aid rfl Try.underlying37 ti3 rfl rfl hi6 (mgt c_i64 hj7) rfl), asb hb8 (amv rfl), trivial⟩ ?_
    refine awp_ret ?_
    obtain rfl := osi h
    exact ⟨⟨[B false], ⟨rot (by kernel_rfl), trivial⟩, rfl⟩, nll, Nat.le_refl _, fun n hn => absurd hn (Nat.not_lt_zero n)⟩
  ·replace h := bif_f hb3 h
   refine wx tbk [(2, rp [(.tmp 7, (.dat 1 ((p0.Levels : List Int).map c_i64)))] (I ((p0.Levels.length : Int)))), (3, rp [fu 65, (.tmp 8, (I ((p0.Levels.length : Int)))), ci 2, ci 12] (B x2)), (4, rp [(.tmp 9, B x2)] (B false))] ⟨alm (c := c_i64) (l := p0.Levels) (aln rfl Try.underlying37 rfl), apc (first := []) (cap := []) (vs := [(I ((p0.Levels.length : Int))), I 2, I 12]) rfl enter65 (plant_withinX_ok N (p0.Levels.length : Int) 2 12 _ hf1) rfl rfl (nlc nll (nlc nll (nlc nll nl0))) nll rfl, asb hb3 (amv rfl), trivial⟩ ?_
   refine awp_ret ?_
   obtain rfl := osi h
   exact ⟨⟨[B false], ⟨rot (by kernel_rfl), trivial⟩, rfl⟩, nll, Nat.le_refl _, fun n hn => absurd hn (Nat.not_lt_zero n)⟩

def plant_Job_gainX (N : Nat) (p0 : GJob) (p1 : Int) (p2 : Int) (p3 : Int) : Option (Int × Bool) :=
  (getI p0.Hours p1).bind fun x1 =>
  joinK (fun _ =>
    (getI p0.Levels p3).bind fun x6 =>
    bif (p2 == 0) then
     bif (decide (p3 > 0)) then
      (some (w64 ((w64 (x1.Price * x6)) - p0.Start))).bind fun x12 =>
      some (x12, true)
     else
      some (w64 (x1.Price * x6), true)
    else
     some (w64 (x1.Price * x6), true)) fun k5 : Unit → Option (Int × Bool) =>
  (plant_withinX N p3 0 (w64 ((p0.Levels.length : Int) - 1))).bind fun x15 =>
  bif (!x15) then
   some (0, false)
  else
   (plant_withinX N (w64 (p3 - p2)) (w64 (0 - p0.Ramp)) p0.Ramp).bind fun x18 =>
   bif (!x18) then
    some (0, false)
   else
    (getI p0.Levels p3).bind fun x20 =>
    bif (decide (x20 > x1.Most)) then
     some (0, false)
    else
     k5 ()
def z63_0 (p0 : GJob) : AV := .dat 2 ((p0.Hours : List GHour).map c_GHour)
def z63_1 (p0 : GJob) : Slot := .own 5 [[(.dat 1 ((p0.Levels : List Int).map c_i64)), (I (p0.Ramp)), (I (p0.Start)), (I (p0.First)), (z63_0 p0)]]
set_option maxRecDepth 100000 in
set_option maxHeartbeats 4000000 in
theorem plant_Job_gainX_ok (N : Nat) (p0 : GJob) (p1 : Int) (p2 : Int) (p3 : Int) (r : (Int × Bool)) (h : plant_Job_gainX N p0 p1 p2 p3 = some r) : Spec Try.prog 70 [(.agg (c_GJob p0)), (I p1), (I p2), (I p3)] [] (.tup [(I r.1), (B r.2)]) [] := by
  refine spec_of_awp Try.func70 rfl 0 (nle rfl) (fun X φ0 w0 hφ0 => ?_)
  unfold plant_Job_gainX at h
  refine wx tbk [] trivial ?_
  obtain ⟨x1, hg2, h⟩ := bno h
  obtain ⟨hi3, hj4⟩ := gsm hg2
  refine wx tbk [(3, rp [(.tmp 13, (z63_0 p0)), (.tmp 14, I p1)] (.dptr (c_GHour (x1)) 0))] ⟨aid rfl Try.underlying45 ti50 rfl rfl hi3 (mgt c_GHour hj4) rfl, trivial⟩ ?_
  obtain ⟨k5, hk_k5, h⟩ := jko h
  refine wjn (τ := Unit) (fun t => k5 t = some r) (fun _ => ⟨mk 65 [(2, I p2), (3, I p3), (4, .ref 0 5 0 0), (10, .ref 1 2 0 0)], [(z63_1 p0), (.own 2 [[I x1.Price, I x1.Most]])]⟩) (fun t h => ?_) ?_
  ·subst hk_k5
   obtain ⟨x6, hg7, h⟩ := bno h
   obtain ⟨hi8, hj9⟩ := gsm hg7
   refine wxd tbk [(5, rp [(.tmp 49, (.dat 1 ((p0.Levels : List Int).map c_i64))), (.tmp 50, I p3)] (.dptr (c_i64 (x6)) 0))] ⟨aid rfl Try.underlying37 ti3 rfl rfl hi8 (mgt c_i64 hj9) rfl, trivial⟩ ?_
   refine wsq ?_
   rcases bft ((p2 == 0)) with hb10 | hb10
   ·replace h := bif_t hb10 h
    refine wx tbk [(2, rp [(.tmp 55, (B ((p2 == 0))))] (B true))] ⟨asb hb10 (amv rfl), trivial⟩ ?_
    rcases bft ((decide (p3 > 0))) with hc11 | hc11
    ·replace h := bif_t hc11 h
     refine wft hc11 (by kernel_rfl) ?_
     obtain ⟨x12, hl13, h⟩ := bno h
     refine wx1 tbk [(4, rp [(.tmp 63, (I (w64 ((w64 (x1.Price * x6)) - p0.Start))))] (I x12))] ⟨astep_i hl13 (aas rfl), trivial⟩ ?_
     refine thn ?_
     refine wx tbk [] trivial ?_
     refine awp_ret ?_
     obtain rfl := osi h
     exact ⟨⟨[I x12, B true], ⟨rot (by kernel_rfl), rot (by kernel_rfl), trivial⟩, rfl⟩, (NLt.tup _ (nlc nll (nlc nll nl0))), Nat.le_refl _, fun n hn => absurd hn (Nat.not_lt_zero n)⟩
    ·replace h := bif_f hc11 h
     refine wfn hc11 (by kernel_rfl) ?_
     refine awp_skip ?_
     refine thn ?_
     refine wx tbk [] trivial ?_
     refine awp_ret ?_
     obtain rfl := osi h
     exact ⟨⟨[(I (w64 (x1.Price * x6))), B true], ⟨rot (by kernel_rfl), rot (by kernel_rfl), trivial⟩, rfl⟩, (NLt.tup _ (nlc nll (nlc nll nl0))), Nat.le_refl _, fun n hn => absurd hn (Nat.not_lt_zero n)⟩
   ·replace h := bif_f hb10 h
    refine wx tbk [(2, rp [(.tmp 55, (B ((p2 == 0))))] (B false))] ⟨asb hb10 (amv rfl), trivial⟩ ?_
    refine awp_false (by kernel_rfl) ?_
    refine awp_skip ?_
    refine thn ?_
    refine wx tbk [] trivial ?_
    refine awp_ret ?_
    obtain rfl := osi h
    exact ⟨⟨[(I (w64 (x1.Price * x6))), B true], ⟨rot (by kernel_rfl), rot (by kernel_rfl), trivial⟩, rfl⟩, (NLt.tup _ (nlc nll (nlc nll nl0))), Nat.le_refl _, fun n hn => absurd hn (Nat.not_lt_zero n)⟩
  ·skip
   obtain ⟨x15, hf14, h⟩ := bno h
   rcases bft ((!x15)) with hb16 | hb16
   ·replace h := bif_t hb16 h
    refine wxd tbk [(3, rp [(.tmp 19, (.dat 1 ((p0.Levels : List Int).map c_i64)))] (I ((p0.Levels.length : Int)))), (5, rp [fu 65, (.tmp 17, I p3), ci 0, (.tmp 21, (I (w64 ((p0.Levels.length : Int) - 1))))] (B x15)), (7, rp [(.tmp 23, (B ((!x15))))] (B true))] ⟨alm (c := c_i64) (l := p0.Levels) (aln rfl Try.underlying37 rfl), apc (first := []) (cap := []) (vs := [I p3, I 0, (I (w64 ((p0.Levels.length : Int) - 1)))]) rfl enter65 (plant_withinX_ok N p3 0 (w64 ((p0.Levels.length : Int) - 1)) _ hf14) rfl rfl (nlc nll (nlc nll (nlc nll nl0))) nll rfl, asb hb16 (amv rfl), trivial⟩ ?_
    refine awp_true (by kernel_rfl) ?_
    refine wx tbk [] trivial ?_
    refine awp_ret ?_
    refine thenA_r ?_
    obtain rfl := osi h
    exact ⟨⟨[I 0, B false], ⟨rot (by kernel_rfl), rot (by kernel_rfl), trivial⟩, rfl⟩, (NLt.tup _ (nlc nll (nlc nll nl0))), Nat.le_refl _, fun n hn => absurd hn (Nat.not_lt_zero n)⟩
   ·replace h := bif_f hb16 h
    obtain ⟨x18, hf17, h⟩ := bno h
    rcases bft ((!x18)) with hb19 | hb19
    ·replace h := bif_t hb19 h
     refine wxd tbk [(3, rp [(.tmp 19, (.dat 1 ((p0.Levels : List Int).map c_i64)))] (I ((p0.Levels.length : Int)))), (5, rp [fu 65, (.tmp 17, I p3), ci 0, (.tmp 21, (I (w64 ((p0.Levels.length : Int) - 1))))] (B x15)), (7, rp [(.tmp 23, (B ((!x15))))] (B false)), (16, rp [(.tmp 24, B false), fu 65, (.tmp 27, (I (w64 (p3 - p2)))), (.tmp 30, (I (w64 (0 - p0.Ramp)))), (.tmp 32, I p0.Ramp)] (B x18)), (19, rp [(.tmp 35, (B ((!x18))))] (B true))] ⟨alm (c := c_i64) (l := p0.Levels) (aln rfl Try.underlying37 rfl), apc (first := []) (cap := []) (vs := [I p3, I 0, (I (w64 ((p0.Levels.length : Int) - 1)))]) rfl enter65 (plant_withinX_ok N p3 0 (w64 ((p0.Levels.length : Int) - 1)) _ hf14) rfl rfl (nlc nll (nlc nll (nlc nll nl0))) nll rfl, asb hb16 (amv rfl), ag_ (apc (first := []) (cap := []) (vs := [(I (w64 (p3 - p2))), (I (w64 (0 - p0.Ramp))), I p0.Ramp]) rfl enter65 (plant_withinX_ok N (w64 (p3 - p2)) (w64 (0 - p0.Ramp)) p0.Ramp _ hf17) rfl rfl (nlc nll (nlc nll (nlc nll nl0))) nll rfl), asb hb19 (amv rfl), trivial⟩ ?_
     refine awp_true (by kernel_rfl) ?_
     refine wx tbk [] trivial ?_
     refine awp_ret ?_
     refine thenA_r ?_
     obtain rfl := osi h
     exact ⟨⟨[I 0, B false], ⟨rot (by kernel_rfl), rot (by kernel_rfl), trivial⟩, rfl⟩, (NLt.tup _ (nlc nll (nlc nll nl0))), Nat.le_refl _, fun n hn => absurd hn (Nat.not_lt_zero n)⟩
    ·replace h := bif_f hb19 h
     obtain ⟨x20, hg21, h⟩ := bno h
     obtain ⟨hi22, hj23⟩ := gsm hg21
     refine wxd tbk [(3, rp [(.tmp 19, (.dat 1 ((p0.Levels : List Int).map c_i64)))] (I ((p0.Levels.length : Int)))), (5, rp [fu 65, (.tmp 17, I p3), ci 0, (.tmp 21, (I (w64 ((p0.Levels.length : Int) - 1))))] (B x15)), (7, rp [(.tmp 23, (B ((!x15))))] (B false)), (16, rp [(.tmp 24, B false), fu 65, (.tmp 27, (I (w64 (p3 - p2)))), (.tmp 30, (I (w64 (0 - p0.Ramp)))), (.tmp 32, I p0.Ramp)] (B x18)), (19, rp [(.tmp 35, (B ((!x18))))] (B false)), (23, rp [(.tmp 36, B false), (.tmp 38, (.dat 1 ((p0.Levels : List Int).map c_i64))), (.tmp 39, I p3)] (.dptr (c_i64 (x20)) 0))] ⟨alm (c := c_i64) (l := p0.Levels) (aln rfl Try.underlying37 rfl), apc (first := []) (cap := []) (vs := [I p3, I 0, (I (w64 ((p0.Levels.length : Int) - 1)))]) rfl enter65 (plant_withinX_ok N p3 0 (w64 ((p0.Levels.length : Int) - 1)) _ hf14) rfl rfl (nlc nll (nlc nll (nlc nll nl0))) nll rfl, asb hb16 (amv rfl), ag_ (apc (first := []) (cap := []) (vs := [(I (w64 (p3 - p2))), (I (w64 (0 - p0.Ramp))), I p0.Ramp]) rfl enter65 (plant_withinX_ok N (w64 (p3 - p2)) (w64 (0 - p0.Ramp)) p0.Ramp _ hf17) rfl rfl (nlc nll (nlc nll (nlc nll nl0))) nll rfl), asb hb19 (amv rfl), ag_ (aid rfl Try.underlying37 ti3 rfl rfl hi22 (mgt c_i64 hj23) rfl), trivial⟩ ?_
     rcases bft ((decide (x20 > x1.Most))) with hc24 | hc24
     ·replace h := bif_t hc24 h
      refine wft hc24 (by kernel_rfl) ?_
      refine wx tbk [] trivial ?_
      refine awp_ret ?_
      refine thenA_r ?_
      obtain rfl := osi h
      exact ⟨⟨[I 0, B false], ⟨rot (by kernel_rfl), rot (by kernel_rfl), trivial⟩, rfl⟩, (NLt.tup _ (nlc nll (nlc nll nl0))), Nat.le_refl _, fun n hn => absurd hn (Nat.not_lt_zero n)⟩
     ·replace h := bif_f hc24 h
      refine wfn hc24 (by kernel_rfl) ?_
      refine awp_skip ?_
      refine thn ?_
      exact ⟨(), h, (mto (n := 65) [(2, I p2), (3, I p3), (4, .ref 0 5 0 0), (10, .ref 1 2 0 0)] [0, 1] [(z63_1 p0), (.own 2 [[I x1.Price, I x1.Most]])] hφ0 (pc rwl (pc rwl (pc (.rn (rqr rfl)) (pc (.rn (rqr rfl)) pn)))) (qc (spb (lc (.rn (.plain _ (nld nl_i64 _))) (lc rwl (lc rwl (lc rwl (lc (.rn (.plain _ (nld nl_GHour _))) ln)))))) (qc (spb (lc rwl (lc rwl ln))) qn)))⟩

def plant_Dispatch_1X_1_loop2 (N : Nat) (p0 : Int) (p1 : (List Int)) (p2 : Int) (p3 : Int) (p4 : Int) (p5 : (List GHour)) (p6 : Nat) (p7 : Nat) (p8 : (List (Nat × Nat))) (p9 : (List (Nat × Nat))) (p10 : (List (List Int))) (p11 : (List (List Bool))) (y11 : Int) (k21 : (List (List Int)) × (List (List Bool)) → Option ((List (List Int)) × (List (List Bool)))) : Nat → Int → (List (List Int)) → (List (List Bool)) → Option ((List (List Int)) × (List (List Bool)))
  | 0, _, _, _ => none
  | n43 + 1, y37, y38, y39 =>
    bif (decide (y37 < (p1.length : Int))) then
     (plant_Job_gainX N (⟨p1, p2, p3, p4, p5⟩ : GJob) p0 y11 y37).bind fun x46 =>
     bif x46.2 then
      chk (decide (0 ≤ p0) && decide (p0.toNat < p6)) <|
      ((p8.set p0.toNat (p10.length, (p1.length : Int).toNat))[p0.toNat]?).bind fun x49 =>
      chk (decide (0 ≤ p0) && decide (p0.toNat < p6)) <|
      ((p8.set p0.toNat (p10.length, (p1.length : Int).toNat))[p0.toNat]?).bind fun x52 =>
      chk (!(y38.getD x52.1 []).isEmpty) <|
      chk (decide (0 ≤ y11) && decide (y11.toNat < x52.2)) <|
      (getM y38 x52.1 y11.toNat).bind fun x56 =>
      chk (decide (0 ≤ w64 (p0 + 1)) && decide ((w64 (p0 + 1)).toNat < p6)) <|
      ((p8.set p0.toNat (p10.length, (p1.length : Int).toNat))[(w64 (p0 + 1)).toNat]?).bind fun x59 =>
      chk (!(y38.getD x59.1 []).isEmpty) <|
      chk (decide (0 ≤ y37) && decide (y37.toNat < x59.2)) <|
      (getM y38 x59.1 y37.toNat).bind fun x63 =>
      (some (if (w64 (x46.1 + x63)) > x56 then w64 (x46.1 + x63) else x56)).bind fun x65 =>
      chk (!(y38.getD x49.1 []).isEmpty) <|
      chk (decide (0 ≤ y11) && decide (y11.toNat < x49.2)) <|
      (getM y38 x49.1 y11.toNat).bind fun _ =>
      chk (decide (0 ≤ p0) && decide (p0.toNat < p7)) <|
      ((p9.set p0.toNat (p11.length, (p1.length : Int).toNat))[p0.toNat]?).bind fun x72 =>
      chk (decide (0 ≤ p0) && decide (p0.toNat < p7)) <|
      ((p9.set p0.toNat (p11.length, (p1.length : Int).toNat))[p0.toNat]?).bind fun x75 =>
      chk (!(y39.getD x75.1 []).isEmpty) <|
      chk (decide (0 ≤ y11) && decide (y11.toNat < x75.2)) <|
      (getM y39 x75.1 y11.toNat).bind fun x79 =>
      bif x79 then
       chk (!(y39.getD x72.1 []).isEmpty) <|
       chk (decide (0 ≤ y11) && decide (y11.toNat < x72.2)) <|
       (getM y39 x72.1 y11.toNat).bind fun _ =>
       plant_Dispatch_1X_1_loop2 N p0 p1 p2 p3 p4 p5 p6 p7 p8 p9 p10 p11 y11 k21 n43 (w64 (y37 + 1)) (setM y38 x49.1 y11.toNat x65) (setM y39 x72.1 y11.toNat true)
      else
       chk (decide (0 ≤ w64 (p0 + 1)) && decide ((w64 (p0 + 1)).toNat < p7)) <|
       ((p9.set p0.toNat (p11.length, (p1.length : Int).toNat))[(w64 (p0 + 1)).toNat]?).bind fun x87 =>
       chk (!(y39.getD x87.1 []).isEmpty) <|
       chk (decide (0 ≤ y37) && decide (y37.toNat < x87.2)) <|
       (getM y39 x87.1 y37.toNat).bind fun x91 =>
       chk (!(y39.getD x72.1 []).isEmpty) <|
       chk (decide (0 ≤ y11) && decide (y11.toNat < x72.2)) <|
       (getM y39 x72.1 y11.toNat).bind fun _ =>
       plant_Dispatch_1X_1_loop2 N p0 p1 p2 p3 p4 p5 p6 p7 p8 p9 p10 p11 y11 k21 n43 (w64 (y37 + 1)) (setM y38 x49.1 y11.toNat x65) (setM y39 x72.1 y11.toNat x91)
     else
      plant_Dispatch_1X_1_loop2 N p0 p1 p2 p3 p4 p5 p6 p7 p8 p9 p10 p11 y11 k21 n43 (w64 (y37 + 1)) y38 y39
    else
     k21 (y38, y39)
def plant_Dispatch_1X_1_loop1 (N : Nat) (p0 : Int) (p1 : (List Int)) (p2 : Int) (p3 : Int) (p4 : Int) (p5 : (List GHour)) (p6 : Nat) (p7 : Nat) (p8 : (List (Nat × Nat))) (p9 : (List (Nat × Nat))) (p10 : (List (List Int))) (p11 : (List (List Bool))) : Nat → Int → (List (List Int)) → (List (List Bool)) → Option ((List (List Int)) × (List (List Bool)))
  | 0, _, _, _ => none
  | n17 + 1, y11, y12, y13 =>
    bif (decide (y11 < (p1.length : Int))) then
     joinK (fun ⟨y19, y20⟩ =>
       plant_Dispatch_1X_1_loop1 N p0 p1 p2 p3 p4 p5 p6 p7 p8 p9 p10 p11 n17 (w64 (y11 + 1)) y19 y20) fun k21 : (List (List Int)) × (List (List Bool)) → Option ((List (List Int)) × (List (List Bool))) =>
     bif (p0 == (p5.length : Int)) then
      chk (decide (0 ≤ p0) && decide (p0.toNat < p7)) <|
      ((p9.set p0.toNat (p11.length, (p1.length : Int).toNat))[p0.toNat]?).bind fun x24 =>
      chk (!(y13.getD x24.1 []).isEmpty) <|
      chk (decide (0 ≤ y11) && decide (y11.toNat < x24.2)) <|
      (getM y13 x24.1 y11.toNat).bind fun _ =>
      k21 (y12, setM y13 x24.1 y11.toNat true)
     else
      chk (decide (0 ≤ p0) && decide (p0.toNat < p6)) <|
      ((p8.set p0.toNat (p10.length, (p1.length : Int).toNat))[p0.toNat]?).bind fun x31 =>
      chk (!(y12.getD x31.1 []).isEmpty) <|
      chk (decide (0 ≤ y11) && decide (y11.toNat < x31.2)) <|
      (getM y12 x31.1 y11.toNat).bind fun _ =>
      plant_Dispatch_1X_1_loop2 N p0 p1 p2 p3 p4 p5 p6 p7 p8 p9 p10 p11 y11 k21 N 0 (setM y12 x31.1 y11.toNat (-1000000000000)) y13
    else
     some (y12, y13)
def plant_Dispatch_1X_1 (N : Nat) (p0 : Int) (p1 : (List Int)) (p2 : Int) (p3 : Int) (p4 : Int) (p5 : (List GHour)) (p6 : Nat) (p7 : Nat) (p8 : (List (Nat × Nat))) (p9 : (List (Nat × Nat))) (p10 : (List (List Int))) (p11 : (List (List Bool))) : Option ((List (List Int)) × (List (List Bool))) :=
  chk (decide (0 ≤ (p1.length : Int)) && decide (8 * (p1.length : Int) ≤ 281474976710656) && decide ((p1.length : Int) ≤ 9223372036854775807)) <|
  chk (decide (0 ≤ (p1.length : Int)) && decide (1 * (p1.length : Int) ≤ 281474976710656) && decide ((p1.length : Int) ≤ 9223372036854775807)) <|
  chk (decide (0 ≤ p0) && decide (p0.toNat < p6)) <|
  (p8[p0.toNat]?).bind fun _ =>
  chk (decide (0 ≤ p0) && decide (p0.toNat < p7)) <|
  (p9[p0.toNat]?).bind fun _ =>
  plant_Dispatch_1X_1_loop1 N p0 p1 p2 p3 p4 p5 p6 p7 p8 p9 p10 p11 N 0 (p10 ++ [List.replicate (p1.length : Int).toNat 0]) (p11 ++ [List.replicate (p1.length : Int).toNat false])
def z62_0 (p1 : (List Int)) (p2 : Int) (p3 : Int) (p4 : Int) (p5 : (List GHour)) : Slot := .own 5 [[(.dat 1 ((p1 : List Int).map c_i64)), (I (p2)), (I (p3)), (I (p4)), (.dat 2 ((p5 : List GHour).map c_GHour))]]
def z62_5 (p8 : (List (Nat × Nat))) : Slot := .own 1 ((p8 : List (Nat × Nat)).map (c_mr 5 1))
def z62_7 (p9 : (List (Nat × Nat))) : Slot := .own 1 ((p9 : List (Nat × Nat)).map (c_mr 6 1))
def z62_1 (p10 : (List (List Int))) : Slot := .mat 1 (matA c_i64 (p10 : List (List Int)))
def z62_3 (p11 : (List (List Bool))) : Slot := .mat 1 (matA c_bool (p11 : List (List Bool)))
def z62_6 (p8 : (List (Nat × Nat))) (p0 : Int) (p10 : (List (List Int))) (p1 : (List Int)) : Slot := .own 1 ((p8.set p0.toNat (p10.length, (p1.length : Int).toNat) : List (Nat × Nat)).map (c_mr 5 1))
def z62_8 (p9 : (List (Nat × Nat))) (p0 : Int) (p11 : (List (List Bool))) (p1 : (List Int)) : Slot := .own 1 ((p9.set p0.toNat (p11.length, (p1.length : Int).toNat) : List (Nat × Nat)).map (c_mr 6 1))
def z62_2 (p10 : (List (List Int))) (p1 : (List Int)) : Slot := .mat 1 (matA c_i64 (p10 ++ [List.replicate (p1.length : Int).toNat 0] : List (List Int)))
def z62_4 (p11 : (List (List Bool))) (p1 : (List Int)) : Slot := .mat 1 (matA c_bool (p11 ++ [List.replicate (p1.length : Int).toNat false] : List (List Bool)))
def z62_31 (p10 : (List (List Int))) (p1 : (List Int)) : Slot := .mat 1 (matA c_i64 ((p10 ++ [List.replicate (p1.length : Int).toNat 0]) : List (List Int)))
def z62_21 (p11 : (List (List Bool))) (p1 : (List Int)) : Slot := .mat 1 (matA c_bool ((p11 ++ [List.replicate (p1.length : Int).toNat false]) : List (List Bool)))
def z62_139 (y12 : (List (List Int))) : Slot := .mat 1 (matA c_i64 (y12 : List (List Int)))
def z62_140 (y13 : (List (List Bool))) : Slot := .mat 1 (matA c_bool (y13 : List (List Bool)))
def z62_211 (y19 : (List (List Int))) : Slot := .mat 1 (matA c_i64 (y19 : List (List Int)))
def z62_212 (y20 : (List (List Bool))) : Slot := .mat 1 (matA c_bool (y20 : List (List Bool)))
def z62_213 (y13 : (List (List Bool))) (x24 : (Nat × Nat)) (y11 : Int) : Slot := .mat 1 (matA c_bool (setM y13 x24.1 y11.toNat true : List (List Bool)))
def z62_215 (y12 : (List (List Int))) (x31 : (Nat × Nat)) (y11 : Int) : Slot := .mat 1 (matA c_i64 (setM y12 x31.1 y11.toNat (-1000000000000) : List (List Int)))
def z62_219 (y12 : (List (List Int))) (x31 : (Nat × Nat)) (y11 : Int) : Slot := .mat 1 (matA c_i64 ((setM y12 x31.1 y11.toNat (-1000000000000)) : List (List Int)))
def z62_220 (y38 : (List (List Int))) : Slot := .mat 1 (matA c_i64 (y38 : List (List Int)))
def z62_222 (y39 : (List (List Bool))) : Slot := .mat 1 (matA c_bool (y39 : List (List Bool)))
def z62_11 (p1 : (List Int)) (p2 : Int) (p3 : Int) (p4 : Int) (p5 : (List GHour)) : AV := .agg [(.dat 1 ((p1 : List Int).map c_i64)), (I (p2)), (I (p3)), (I (p4)), (.dat 2 ((p5 : List GHour).map c_GHour))]
def z62_225 (y38 : (List (List Int))) (x49 : (Nat × Nat)) (y11 : Int) (x65 : Int) : Slot := .mat 1 (matA c_i64 (setM y38 x49.1 y11.toNat x65 : List (List Int)))
def z62_226 (y39 : (List (List Bool))) (x72 : (Nat × Nat)) (y11 : Int) : Slot := .mat 1 (matA c_bool (setM y39 x72.1 y11.toNat true : List (List Bool)))
def z62_229 (y39 : (List (List Bool))) (x72 : (Nat × Nat)) (y11 : Int) (x91 : Bool) : Slot := .mat 1 (matA c_bool (setM y39 x72.1 y11.toNat x91 : List (List Bool)))
set_option maxRecDepth 100000 in
set_option maxHeartbeats 4000000 in
theorem plant_Dispatch_1X_1_ok (N : Nat) (p0 : Int) (p1 : (List Int)) (p2 : Int) (p3 : Int) (p4 : Int) (p5 : (List GHour)) (p6 : Nat) (p7 : Nat) (p8 : (List (Nat × Nat))) (p9 : (List (Nat × Nat))) (p10 : (List (List Int))) (p11 : (List (List Bool))) (r : ((List (List Int)) × (List (List Bool)))) (h : plant_Dispatch_1X_1 N p0 p1 p2 p3 p4 p5 p6 p7 p8 p9 p10 p11 = some r) : Spec Try.prog 69 [(I (p0)), (.ref 0 5 (0) 0), (.ref 1 1 (0) 0), (.ref 2 1 (0) 0)] [(z62_0 p1 p2 p3 p4 p5), (.own 1 [[(.own 3 1 (0) (p6))]]), (.own 1 [[(.own 4 1 (0) (p7))]]), (z62_5 p8), (z62_7 p9), (z62_1 p10), (z62_3 p11)] (.tup []) [(z62_0 p1 p2 p3 p4 p5), (.own 1 [[(.own 3 1 (0) (p6))]]), (.own 1 [[(.own 4 1 (0) (p7))]]), (z62_6 p8 p0 p10 p1), (z62_8 p9 p0 p11 p1), (.mat 1 (matA c_i64 (r.1 : List (List Int)))), (.mat 1 (matA c_bool (r.2 : List (List Bool))))] := by
  refine spec_of_awp Try.func69 rfl 7 (nle rfl) (fun X φ0 w0 hφ0 => ?_)
  unfold plant_Dispatch_1X_1 at h
  refine awp_finm ?_
  obtain ⟨hm3, h⟩ := cko h
  obtain ⟨hm4, h⟩ := cko h
  obtain ⟨hi5, h⟩ := cko h
  obtain ⟨hi5a, hi5b⟩ := and_out hi5
  obtain ⟨x6, hg7, h⟩ := bno h
  obtain ⟨hi8, h⟩ := cko h
  obtain ⟨hi8a, hi8b⟩ := and_out hi8
  obtain ⟨x9, hg10, h⟩ := bno h
  refine wxd tbk [(6, rp [(.tmp 14, (.dat 1 ((p1 : List Int).map c_i64)))] (I ((p1.length : Int)))), (7, ⟨[(.tmp 15, (I ((p1.length : Int)))), (.tmp 15, (I ((p1.length : Int))))], [(7, .unused), (5, (z62_1 p10))], (.row 5 p10.length 1 (0) ((p1.length : Int).toNat)), [(7, .dead), (5, (z62_2 p10 p1))], false⟩), (10, rp [(.tmp 18, (.dat 1 ((p1 : List Int).map c_i64)))] (I ((p1.length : Int)))), (11, ⟨[(.tmp 19, (I ((p1.length : Int)))), (.tmp 19, (I ((p1.length : Int))))], [(8, .unused), (6, (z62_3 p11))], (.row 6 p11.length 1 (0) ((p1.length : Int).toNat)), [(8, .dead), (6, (z62_4 p11 p1))], false⟩), (12, rb [(.tmp 9, (.own 3 1 (0) (p6))), (.tmp 10, I p0)] [(3, (z62_5 p8))] (.ref 3 1 (p0.toNat) 0)), (13, ⟨[(.tmp 21, (.ref 3 1 (p0.toNat) 0)), (.tmp 16, (.row 5 p10.length 1 (0) ((p1.length : Int).toNat)))], [(3, (z62_5 p8))], .any, [(3, (z62_6 p8 p0 p10 p1))], false⟩), (14, rb [(.tmp 11, (.own 4 1 (0) (p7))), (.tmp 12, I p0)] [(4, (z62_7 p9))] (.ref 4 1 (p0.toNat) 0)), (15, ⟨[(.tmp 22, (.ref 4 1 (p0.toNat) 0)), (.tmp 20, (.row 6 p11.length 1 (0) ((p1.length : Int).toNat)))], [(4, (z62_7 p9))], .any, [(4, (z62_8 p9 p0 p11 p1))], false⟩)] ⟨alm (c := c_i64) (l := p1) (aln rfl Try.underlying37 rfl), astep_absorbm rfl (astep_make rfl Try.underlying37 te3 tz3 rfl (and3a hm3) rfl (and3b hm3) (and3c' hm3) (rep_map c_i64 rfl)), alm (c := c_i64) (l := p1) (aln rfl Try.underlying37 rfl), astep_absorbm rfl (astep_make rfl Try.underlying121 te4 tz4 rfl (and3a hm4) rfl (and3b hm4) (and3c' hm4) (rep_map c_bool rfl)), aio rfl Try.underlying42 ti37 (odt hi5a) (odt hi5b) (Nat.zero_add _), ast rfl ti37 (by rfl) (mgt (c_mr 5 1) hg7) (nle rfl) (set_map (x' := (p10.length, (p1.length : Int).toNat)) (c_mr 5 1) rfl), aio rfl Try.underlying120 ti121 (odt hi8a) (odt hi8b) (Nat.zero_add _), ast rfl ti121 (by rfl) (mgt (c_mr 6 1) hg10) (nle rfl) (set_map (x' := (p11.length, (p1.length : Int).toNat)) (c_mr 6 1) rfl), trivial⟩ ?_
  refine wx tbk [(2, rp [(.tmp 24, (.dat 1 ((p1 : List Int).map c_i64)))] (I ((p1.length : Int))))] ⟨alm (c := c_i64) (l := p1) (aln rfl Try.underlying37 rfl), trivial⟩ ?_
  refine awp_block ?_
  refine wmr (mto (n := 110) (l' := [(0, I p0), (1, .ref 0 5 0 0), (2, .ref 1 1 0 0), (3, .ref 2 1 0 0), (25, (I ((p1.length : Int)))), (26, I 0)]) (own' := [(z62_0 p1 p2 p3 p4 p5), (.own 1 [[(.own 3 1 (0) (p6))]]), (.own 1 [[(.own 4 1 (0) (p7))]]), (z62_6 p8 p0 p10 p1), (z62_8 p9 p0 p11 p1), (z62_31 p10 p1), (z62_21 p11 p1)]) [(0, I p0), (1, .ref 0 5 0 0), (2, .ref 1 1 0 0), (3, .ref 2 1 0 0), (25, (I ((p1.length : Int)))), (26, I 0)] [0, 1, 2, 3, 4, 5, 6] [(z62_0 p1 p2 p3 p4 p5), (.own 1 [[(.own 3 1 (0) (p6))]]), (.own 1 [[(.own 4 1 (0) (p7))]]), (z62_6 p8 p0 p10 p1), (z62_8 p9 p0 p11 p1), (z62_2 p10 p1), (z62_4 p11 p1)] hφ0 (pc rwl (pc (.rn (rqr rfl)) (pc (.rn (rqr rfl)) (pc (.rn (rqr rfl)) (pc rwl (pc rwl pn)))))) (qc (spb (lc (.rn (.plain _ (nld nl_i64 _))) (lc rwl (lc rwl (lc rwl (lc (.rn (.plain _ (nld nl_GHour _))) ln)))))) (qc (spb (lc (.rn (rnq_own rfl)) ln)) (qc (spb (lc (.rn (rnq_own rfl)) ln)) (qc (spw_orow rfl) (qc (spw_orow rfl) (qc (spw_mat nl_i64) (qc (spw_mat nl_bool) qn)))))))) ?_
  refine awp_ind (τ := Int × (List (List Int)) × (List (List Bool))) (fun n t => plant_Dispatch_1X_1_loop1 N p0 p1 p2 p3 p4 p5 p6 p7 p8 p9 p10 p11 n t.1 t.2.1 t.2.2 = some r) (fun ⟨y11, y12, y13⟩ => ⟨mk 110 [(0, I p0), (1, .ref 0 5 0 0), (2, .ref 1 1 0 0), (3, .ref 2 1 0 0), (25, (I ((p1.length : Int)))), (26, I y11)], [(z62_0 p1 p2 p3 p4 p5), (.own 1 [[(.own 3 1 (0) (p6))]]), (.own 1 [[(.own 4 1 (0) (p7))]]), (z62_6 p8 p0 p10 p1), (z62_8 p9 p0 p11 p1), (z62_139 y12), (z62_140 y13)]⟩) (fun t h => by rw [plant_Dispatch_1X_1_loop1] at h; cases h) (fun n17 ih t h => ?_) N (0, p10 ++ [List.replicate (p1.length : Int).toNat 0], p11 ++ [List.replicate (p1.length : Int).toNat false]) h
  obtain ⟨y11, y12, y13⟩ := t
  rw [plant_Dispatch_1X_1_loop1] at h
  skip
  refine wx tbk [] trivial ?_
  refine wsq ?_
  rcases bft ((decide (y11 < (p1.length : Int)))) with hc18 | hc18
  ·replace h := bif_t hc18 h
   refine wft hc18 (by kernel_rfl) ?_
   refine awp_skip ?_
   refine thn ?_
   obtain ⟨k21, hk_k21, h⟩ := jko h
   refine wjn (τ := (List (List Int)) × (List (List Bool))) (fun t => k21 t = some r) (fun ⟨y19, y20⟩ => ⟨mk 110 [(0, I p0), (1, .ref 0 5 0 0), (2, .ref 1 1 0 0), (3, .ref 2 1 0 0), (25, (I ((p1.length : Int)))), (26, I y11)], [(z62_0 p1 p2 p3 p4 p5), (.own 1 [[(.own 3 1 (0) (p6))]]), (.own 1 [[(.own 4 1 (0) (p7))]]), (z62_6 p8 p0 p10 p1), (z62_8 p9 p0 p11 p1), (z62_211 y19), (z62_212 y20)]⟩) (fun t h => ?_) ?_
   ·subst hk_k21
    obtain ⟨y19, y20⟩ := t
    refine wx1 tbk [] trivial ?_
    refine thn ?_
    exact arm (mto (n := 110) [(0, I p0), (1, .ref 0 5 0 0), (2, .ref 1 1 0 0), (3, .ref 2 1 0 0), (25, (I ((p1.length : Int)))), (26, (I (w64 (y11 + 1))))] [0, 1, 2, 3, 4, 5, 6] [(z62_0 p1 p2 p3 p4 p5), (.own 1 [[(.own 3 1 (0) (p6))]]), (.own 1 [[(.own 4 1 (0) (p7))]]), (z62_6 p8 p0 p10 p1), (z62_8 p9 p0 p11 p1), (z62_211 y19), (z62_212 y20)] hφ0 (pc rwl (pc (.rn (rqr rfl)) (pc (.rn (rqr rfl)) (pc (.rn (rqr rfl)) (pc rwl (pc rwl pn)))))) (qc (spb (lc (.rn (.plain _ (nld nl_i64 _))) (lc rwl (lc rwl (lc rwl (lc (.rn (.plain _ (nld nl_GHour _))) ln)))))) (qc (spb (lc (.rn (rnq_own rfl)) ln)) (qc (spb (lc (.rn (rnq_own rfl)) ln)) (qc (spw_orow rfl) (qc (spw_orow rfl) (qc (spw_mat nl_i64) (qc (spw_mat nl_bool) qn)))))))) (ih (w64 (y11 + 1), y19, y20) h)
   ·skip
    refine awp_block ?_
    refine wx tbk [] trivial ?_
    refine wsq ?_
    refine wx tbk [(3, rp [(.tmp 31, (.dat 2 ((p5 : List GHour).map c_GHour)))] (I ((p5.length : Int))))] ⟨alm (c := c_GHour) (l := p5) (aln rfl Try.underlying45 rfl), trivial⟩ ?_
    rcases bft ((p0 == (p5.length : Int))) with hc22 | hc22
    ·replace h := bif_t hc22 h
     refine wft hc22 (by kernel_rfl) ?_
     obtain ⟨hi23, h⟩ := cko h
     obtain ⟨hi23a, hi23b⟩ := and_out hi23
     obtain ⟨x24, hg25, h⟩ := bno h
     obtain ⟨hz27, h⟩ := cko h
     obtain ⟨hi26, h⟩ := cko h
     obtain ⟨hi26a, hi26b⟩ := and_out hi26
     obtain ⟨x28, hg29, h⟩ := bno h
     refine wx tbk [(2, rb [(.tmp 34, (.own 4 1 (0) (p7))), (.tmp 35, I p0)] [(4, (z62_8 p9 p0 p11 p1))] (.ref 4 1 (p0.toNat) 0)), (3, rb [(.tmp 36, (.ref 4 1 (p0.toNat) 0))] [(4, (z62_8 p9 p0 p11 p1))] (.row 6 x24.1 1 (0) (x24.2))), (5, rb [(.tmp 37, (.row 6 x24.1 1 (0) (x24.2))), (.tmp 38, I y11)] [(6, (z62_140 y13))] (.rowp 6 x24.1 1 (y11.toNat) 0)), (6, ⟨[(.tmp 39, (.rowp 6 x24.1 1 (y11.toNat) 0)), cb true], [(6, (z62_140 y13))], .any, [(6, (z62_213 y13 x24 y11))], false⟩)] ⟨aio rfl Try.underlying120 ti121 (odt hi23a) (odt hi23b) (Nat.zero_add _), ald rfl ti121 (by decide) (mgt (c_mr 6 1) hg25) (nle rfl) rfl, astep_idxrm rfl Try.underlying121 ti4 (odt hi26a) (odt hi26b) hz27 (Nat.zero_add _), astep_storer (u' := true) rfl ti4 (by rfl) hg29 (nle rfl) rfl, trivial⟩ ?_
     refine awp_exit ?_
     refine thenA_x ?_
     refine blockA_e rfl ?_
     refine thn ?_
     exact ⟨(y12, setM y13 x24.1 y11.toNat true), h, (mto (n := 110) [(0, I p0), (1, .ref 0 5 0 0), (2, .ref 1 1 0 0), (3, .ref 2 1 0 0), (25, (I ((p1.length : Int)))), (26, I y11)] [0, 1, 2, 3, 4, 5, 6] [(z62_0 p1 p2 p3 p4 p5), (.own 1 [[(.own 3 1 (0) (p6))]]), (.own 1 [[(.own 4 1 (0) (p7))]]), (z62_6 p8 p0 p10 p1), (z62_8 p9 p0 p11 p1), (z62_139 y12), (z62_213 y13 x24 y11)] hφ0 (pc rwl (pc (.rn (rqr rfl)) (pc (.rn (rqr rfl)) (pc (.rn (rqr rfl)) (pc rwl (pc rwl pn)))))) (qc (spb (lc (.rn (.plain _ (nld nl_i64 _))) (lc rwl (lc rwl (lc rwl (lc (.rn (.plain _ (nld nl_GHour _))) ln)))))) (qc (spb (lc (.rn (rnq_own rfl)) ln)) (qc (spb (lc (.rn (rnq_own rfl)) ln)) (qc (spw_orow rfl) (qc (spw_orow rfl) (qc (spw_mat nl_i64) (qc (spw_mat nl_bool) qn))))))))⟩
    ·replace h := bif_f hc22 h
     refine wfn hc22 (by kernel_rfl) ?_
     refine awp_skip ?_
     refine thn ?_
     obtain ⟨hi30, h⟩ := cko h
     obtain ⟨hi30a, hi30b⟩ := and_out hi30
     obtain ⟨x31, hg32, h⟩ := bno h
     obtain ⟨hz34, h⟩ := cko h
     obtain ⟨hi33, h⟩ := cko h
     obtain ⟨hi33a, hi33b⟩ := and_out hi33
     obtain ⟨x35, hg36, h⟩ := bno h
     refine wx tbk [(2, rb [(.tmp 40, (.own 3 1 (0) (p6))), (.tmp 41, I p0)] [(3, (z62_6 p8 p0 p10 p1))] (.ref 3 1 (p0.toNat) 0)), (3, rb [(.tmp 42, (.ref 3 1 (p0.toNat) 0))] [(3, (z62_6 p8 p0 p10 p1))] (.row 5 x31.1 1 (0) (x31.2))), (5, rb [(.tmp 43, (.row 5 x31.1 1 (0) (x31.2))), (.tmp 44, I y11)] [(5, (z62_139 y12))] (.rowp 5 x31.1 1 (y11.toNat) 0)), (6, ⟨[(.tmp 45, (.rowp 5 x31.1 1 (y11.toNat) 0)), ci (-1000000000000)], [(5, (z62_139 y12))], .any, [(5, (z62_215 y12 x31 y11))], false⟩)] ⟨aio rfl Try.underlying42 ti37 (odt hi30a) (odt hi30b) (Nat.zero_add _), ald rfl ti37 (by decide) (mgt (c_mr 5 1) hg32) (nle rfl) rfl, astep_idxrm rfl Try.underlying37 ti3 (odt hi33a) (odt hi33b) hz34 (Nat.zero_add _), astep_storer (u' := (-1000000000000)) rfl ti3 (by rfl) hg36 (nle rfl) rfl, trivial⟩ ?_
     refine wx tbk [(2, rp [(.tmp 47, (.dat 1 ((p1 : List Int).map c_i64)))] (I ((p1.length : Int))))] ⟨alm (c := c_i64) (l := p1) (aln rfl Try.underlying37 rfl), trivial⟩ ?_
     refine awp_block ?_
     refine wmr (mto (n := 110) (l' := [(0, I p0), (1, .ref 0 5 0 0), (2, .ref 1 1 0 0), (3, .ref 2 1 0 0), (5, I y11), (25, (I ((p1.length : Int)))), (26, I y11), (48, (I ((p1.length : Int)))), (49, I 0)]) (own' := [(z62_0 p1 p2 p3 p4 p5), (.own 1 [[(.own 3 1 (0) (p6))]]), (.own 1 [[(.own 4 1 (0) (p7))]]), (z62_6 p8 p0 p10 p1), (z62_8 p9 p0 p11 p1), (z62_219 y12 x31 y11), (z62_140 y13)]) [(0, I p0), (1, .ref 0 5 0 0), (2, .ref 1 1 0 0), (3, .ref 2 1 0 0), (5, I y11), (25, (I ((p1.length : Int)))), (26, I y11), (48, (I ((p1.length : Int)))), (49, I 0)] [0, 1, 2, 3, 4, 5, 6] [(z62_0 p1 p2 p3 p4 p5), (.own 1 [[(.own 3 1 (0) (p6))]]), (.own 1 [[(.own 4 1 (0) (p7))]]), (z62_6 p8 p0 p10 p1), (z62_8 p9 p0 p11 p1), (z62_215 y12 x31 y11), (z62_140 y13)] hφ0 (pc rwl (pc (.rn (rqr rfl)) (pc (.rn (rqr rfl)) (pc (.rn (rqr rfl)) (pc rwl (pc rwl (pc rwl (pc rwl (pc rwl pn))))))))) (qc (spb (lc (.rn (.plain _ (nld nl_i64 _))) (lc rwl (lc rwl (lc rwl (lc (.rn (.plain _ (nld nl_GHour _))) ln)))))) (qc (spb (lc (.rn (rnq_own rfl)) ln)) (qc (spb (lc (.rn (rnq_own rfl)) ln)) (qc (spw_orow rfl) (qc (spw_orow rfl) (qc (spw_mat nl_i64) (qc (spw_mat nl_bool) qn)))))))) ?_
     refine awp_ind (τ := Int × (List (List Int)) × (List (List Bool))) (fun n t => plant_Dispatch_1X_1_loop2 N p0 p1 p2 p3 p4 p5 p6 p7 p8 p9 p10 p11 y11 k21 n t.1 t.2.1 t.2.2 = some r) (fun ⟨y37, y38, y39⟩ => ⟨mk 110 [(0, I p0), (1, .ref 0 5 0 0), (2, .ref 1 1 0 0), (3, .ref 2 1 0 0), (5, I y11), (25, (I ((p1.length : Int)))), (26, I y11), (48, (I ((p1.length : Int)))), (49, I y37)], [(z62_0 p1 p2 p3 p4 p5), (.own 1 [[(.own 3 1 (0) (p6))]]), (.own 1 [[(.own 4 1 (0) (p7))]]), (z62_6 p8 p0 p10 p1), (z62_8 p9 p0 p11 p1), (z62_220 y38), (z62_222 y39)]⟩) (fun t h => by rw [plant_Dispatch_1X_1_loop2] at h; cases h) (fun n43 ih t h => ?_) N (0, setM y12 x31.1 y11.toNat (-1000000000000), y13) h
     obtain ⟨y37, y38, y39⟩ := t
     rw [plant_Dispatch_1X_1_loop2] at h
     skip
     refine wx tbk [] trivial ?_
     refine wsq ?_
     rcases bft ((decide (y37 < (p1.length : Int)))) with hc44 | hc44
     ·replace h := bif_t hc44 h
      refine wft hc44 (by kernel_rfl) ?_
      refine awp_skip ?_
      refine thn ?_
      refine wsq ?_
      refine awp_block ?_
      refine wx tbk [] trivial ?_
      obtain ⟨x46, hf45, h⟩ := bno h
      refine wx tbk [(4, rp [fu 70, (.tmp 53, (z62_11 p1 p2 p3 p4 p5)), (.tmp 54, I p0), (.tmp 55, I y11), (.tmp 56, I y37)] (.tup [I x46.1, B x46.2]))] ⟨apc (first := []) (cap := []) (vs := [(z62_11 p1 p2 p3 p4 p5), I p0, I y11, I y37]) rfl enter70 (plant_Job_gainX_ok N (⟨p1, p2, p3, p4, p5⟩ : GJob) p0 y11 y37 _ hf45) rfl rfl (nlc (NLt.agg _ (nlc (nld nl_i64 _) (nlc nll (nlc nll (nlc nll (nlc (nld nl_GHour _) nl0)))))) (nlc nll (nlc nll (nlc nll nl0)))) (NLt.tup _ (nlc nll (nlc nll nl0))) rfl, trivial⟩ ?_
      refine wx tbk [] trivial ?_
      rcases bft (x46.2) with hc47 | hc47
      ·replace h := bif_t hc47 h
       refine wft hc47 (by kernel_rfl) ?_
       obtain ⟨hi48, h⟩ := cko h
       obtain ⟨hi48a, hi48b⟩ := and_out hi48
       obtain ⟨x49, hg50, h⟩ := bno h
       obtain ⟨hi51, h⟩ := cko h
       obtain ⟨hi51a, hi51b⟩ := and_out hi51
       obtain ⟨x52, hg53, h⟩ := bno h
       obtain ⟨hz55, h⟩ := cko h
       obtain ⟨hi54, h⟩ := cko h
       obtain ⟨hi54a, hi54b⟩ := and_out hi54
       obtain ⟨x56, hg57, h⟩ := bno h
       obtain ⟨hi58, h⟩ := cko h
       obtain ⟨hi58a, hi58b⟩ := and_out hi58
       obtain ⟨x59, hg60, h⟩ := bno h
       obtain ⟨hz62, h⟩ := cko h
       obtain ⟨hi61, h⟩ := cko h
       obtain ⟨hi61a, hi61b⟩ := and_out hi61
       obtain ⟨x63, hg64, h⟩ := bno h
       obtain ⟨x65, hl66, h⟩ := bno h
       obtain ⟨hz68, h⟩ := cko h
       obtain ⟨hi67, h⟩ := cko h
       obtain ⟨hi67a, hi67b⟩ := and_out hi67
       obtain ⟨x69, hg70, h⟩ := bno h
       refine wxd tbk [(2, rb [(.tmp 61, (.own 3 1 (0) (p6))), (.tmp 62, I p0)] [(3, (z62_6 p8 p0 p10 p1))] (.ref 3 1 (p0.toNat) 0)), (3, rb [(.tmp 63, (.ref 3 1 (p0.toNat) 0))] [(3, (z62_6 p8 p0 p10 p1))] (.row 5 x49.1 1 (0) (x49.2))), (7, rb [(.tmp 66, (.own 3 1 (0) (p6))), (.tmp 67, I p0)] [(3, (z62_6 p8 p0 p10 p1))] (.ref 3 1 (p0.toNat) 0)), (8, rb [(.tmp 68, (.ref 3 1 (p0.toNat) 0))] [(3, (z62_6 p8 p0 p10 p1))] (.row 5 x52.1 1 (0) (x52.2))), (10, rb [(.tmp 69, (.row 5 x52.1 1 (0) (x52.2))), (.tmp 70, I y11)] [(5, (z62_220 y38))] (.rowp 5 x52.1 1 (y11.toNat) 0)), (11, rb [(.tmp 71, (.rowp 5 x52.1 1 (y11.toNat) 0))] [(5, (z62_220 y38))] (I x56)), (16, rb [(.tmp 74, (.own 3 1 (0) (p6))), (.tmp 76, (I (w64 (p0 + 1))))] [(3, (z62_6 p8 p0 p10 p1))] (.ref 3 1 ((w64 (p0 + 1)).toNat) 0)), (17, rb [(.tmp 77, (.ref 3 1 ((w64 (p0 + 1)).toNat) 0))] [(3, (z62_6 p8 p0 p10 p1))] (.row 5 x59.1 1 (0) (x59.2))), (19, rb [(.tmp 78, (.row 5 x59.1 1 (0) (x59.2))), (.tmp 79, I y37)] [(5, (z62_220 y38))] (.rowp 5 x59.1 1 (y37.toNat) 0)), (20, rb [(.tmp 80, (.rowp 5 x59.1 1 (y37.toNat) 0))] [(5, (z62_220 y38))] (I x63)), (22, rp [(.tmp 72, I x56), (.tmp 82, (I (w64 (x46.1 + x63))))] (I x65)), (23, rb [(.tmp 64, (.row 5 x49.1 1 (0) (x49.2))), (.tmp 65, I y11)] [(5, (z62_220 y38))] (.rowp 5 x49.1 1 (y11.toNat) 0)), (24, ⟨[(.tmp 84, (.rowp 5 x49.1 1 (y11.toNat) 0)), (.tmp 83, I x65)], [(5, (z62_220 y38))], .any, [(5, (z62_225 y38 x49 y11 x65))], false⟩)] ⟨aio rfl Try.underlying42 ti37 (odt hi48a) (odt hi48b) (Nat.zero_add _), ald rfl ti37 (by decide) (mgt (c_mr 5 1) hg50) (nle rfl) rfl, aio rfl Try.underlying42 ti37 (odt hi51a) (odt hi51b) (Nat.zero_add _), ald rfl ti37 (by decide) (mgt (c_mr 5 1) hg53) (nle rfl) rfl, astep_idxrm rfl Try.underlying37 ti3 (odt hi54a) (odt hi54b) hz55 (Nat.zero_add _), astep_loadr rfl ti3 (by decide) hg57 (nle rfl) rfl, aio rfl Try.underlying42 ti37 (odt hi58a) (odt hi58b) (Nat.zero_add _), ald rfl ti37 (by decide) (mgt (c_mr 5 1) hg60) (nle rfl) rfl, astep_idxrm rfl Try.underlying37 ti3 (odt hi61a) (odt hi61b) hz62 (Nat.zero_add _), astep_loadr rfl ti3 (by decide) hg64 (nle rfl) rfl, astep_i hl66 (astep_max rfl), astep_idxrm rfl Try.underlying37 ti3 (odt hi67a) (odt hi67b) hz68 (Nat.zero_add _), astep_storer (u' := x65) rfl ti3 (by rfl) hg70 (nle rfl) rfl, trivial⟩ ?_
       obtain ⟨hi71, h⟩ := cko h
       obtain ⟨hi71a, hi71b⟩ := and_out hi71
       obtain ⟨x72, hg73, h⟩ := bno h
       obtain ⟨hi74, h⟩ := cko h
       obtain ⟨hi74a, hi74b⟩ := and_out hi74
       obtain ⟨x75, hg76, h⟩ := bno h
       obtain ⟨hz78, h⟩ := cko h
       obtain ⟨hi77, h⟩ := cko h
       obtain ⟨hi77a, hi77b⟩ := and_out hi77
       obtain ⟨x79, hg80, h⟩ := bno h
       rcases bft (x79) with hb81 | hb81
       ·replace h := bif_t hb81 h
        obtain ⟨hz83, h⟩ := cko h
        obtain ⟨hi82, h⟩ := cko h
        obtain ⟨hi82a, hi82b⟩ := and_out hi82
        obtain ⟨x84, hg85, h⟩ := bno h
        refine wy1 tbk [(2, rb [(.tmp 85, (.own 4 1 (0) (p7))), (.tmp 86, I p0)] [(4, (z62_8 p9 p0 p11 p1))] (.ref 4 1 (p0.toNat) 0)), (3, rb [(.tmp 87, (.ref 4 1 (p0.toNat) 0))] [(4, (z62_8 p9 p0 p11 p1))] (.row 6 x72.1 1 (0) (x72.2))), (7, rb [(.tmp 90, (.own 4 1 (0) (p7))), (.tmp 91, I p0)] [(4, (z62_8 p9 p0 p11 p1))] (.ref 4 1 (p0.toNat) 0)), (8, rb [(.tmp 92, (.ref 4 1 (p0.toNat) 0))] [(4, (z62_8 p9 p0 p11 p1))] (.row 6 x75.1 1 (0) (x75.2))), (10, rb [(.tmp 93, (.row 6 x75.1 1 (0) (x75.2))), (.tmp 94, I y11)] [(6, (z62_222 y39))] (.rowp 6 x75.1 1 (y11.toNat) 0)), (11, rb [(.tmp 95, (.rowp 6 x75.1 1 (y11.toNat) 0))] [(6, (z62_222 y39))] (B x79)), (12, rp [(.tmp 96, B x79)] (B true)), (22, rb [(.tmp 88, (.row 6 x72.1 1 (0) (x72.2))), (.tmp 89, I y11)] [(6, (z62_222 y39))] (.rowp 6 x72.1 1 (y11.toNat) 0)), (23, ⟨[(.tmp 107, (.rowp 6 x72.1 1 (y11.toNat) 0)), (.tmp 106, B true)], [(6, (z62_222 y39))], .any, [(6, (z62_226 y39 x72 y11))], false⟩)] ⟨aio rfl Try.underlying120 ti121 (odt hi71a) (odt hi71b) (Nat.zero_add _), ald rfl ti121 (by decide) (mgt (c_mr 6 1) hg73) (nle rfl) rfl, aio rfl Try.underlying120 ti121 (odt hi74a) (odt hi74b) (Nat.zero_add _), ald rfl ti121 (by decide) (mgt (c_mr 6 1) hg76) (nle rfl) rfl, astep_idxrm rfl Try.underlying121 ti4 (odt hi77a) (odt hi77b) hz78 (Nat.zero_add _), astep_loadr rfl ti4 (by decide) hg80 (nle rfl) rfl, asb hb81 (amv rfl), astep_idxrm rfl Try.underlying121 ti4 (odt hi82a) (odt hi82b) hz83 (Nat.zero_add _), astep_storer (u' := true) rfl ti4 (by rfl) hg85 (nle rfl) rfl, trivial⟩ ?_
        refine bln ?_
        refine thn ?_
        refine wx1 tbk [] trivial ?_
        refine thn ?_
        exact arm (mto (n := 110) [(0, I p0), (1, .ref 0 5 0 0), (2, .ref 1 1 0 0), (3, .ref 2 1 0 0), (5, I y11), (25, (I ((p1.length : Int)))), (26, I y11), (48, (I ((p1.length : Int)))), (49, (I (w64 (y37 + 1))))] [0, 1, 2, 3, 4, 5, 6] [(z62_0 p1 p2 p3 p4 p5), (.own 1 [[(.own 3 1 (0) (p6))]]), (.own 1 [[(.own 4 1 (0) (p7))]]), (z62_6 p8 p0 p10 p1), (z62_8 p9 p0 p11 p1), (z62_225 y38 x49 y11 x65), (z62_226 y39 x72 y11)] hφ0 (pc rwl (pc (.rn (rqr rfl)) (pc (.rn (rqr rfl)) (pc (.rn (rqr rfl)) (pc rwl (pc rwl (pc rwl (pc rwl (pc rwl pn))))))))) (qc (spb (lc (.rn (.plain _ (nld nl_i64 _))) (lc rwl (lc rwl (lc rwl (lc (.rn (.plain _ (nld nl_GHour _))) ln)))))) (qc (spb (lc (.rn (rnq_own rfl)) ln)) (qc (spb (lc (.rn (rnq_own rfl)) ln)) (qc (spw_orow rfl) (qc (spw_orow rfl) (qc (spw_mat nl_i64) (qc (spw_mat nl_bool) qn)))))))) (ih (w64 (y37 + 1), setM y38 x49.1 y11.toNat x65, setM y39 x72.1 y11.toNat true) h)
       ·replace h := bif_f hb81 h
        obtain ⟨hi86, h⟩ := cko h
        obtain ⟨hi86a, hi86b⟩ := and_out hi86
        obtain ⟨x87, hg88, h⟩ := bno h
        obtain ⟨hz90, h⟩ := cko h
        obtain ⟨hi89, h⟩ := cko h
        obtain ⟨hi89a, hi89b⟩ := and_out hi89
        obtain ⟨x91, hg92, h⟩ := bno h
        obtain ⟨hz94, h⟩ := cko h
        obtain ⟨hi93, h⟩ := cko h
        obtain ⟨hi93a, hi93b⟩ := and_out hi93
        obtain ⟨x95, hg96, h⟩ := bno h
        refine wy1 tbk [(2, rb [(.tmp 85, (.own 4 1 (0) (p7))), (.tmp 86, I p0)] [(4, (z62_8 p9 p0 p11 p1))] (.ref 4 1 (p0.toNat) 0)), (3, rb [(.tmp 87, (.ref 4 1 (p0.toNat) 0))] [(4, (z62_8 p9 p0 p11 p1))] (.row 6 x72.1 1 (0) (x72.2))), (7, rb [(.tmp 90, (.own 4 1 (0) (p7))), (.tmp 91, I p0)] [(4, (z62_8 p9 p0 p11 p1))] (.ref 4 1 (p0.toNat) 0)), (8, rb [(.tmp 92, (.ref 4 1 (p0.toNat) 0))] [(4, (z62_8 p9 p0 p11 p1))] (.row 6 x75.1 1 (0) (x75.2))), (10, rb [(.tmp 93, (.row 6 x75.1 1 (0) (x75.2))), (.tmp 94, I y11)] [(6, (z62_222 y39))] (.rowp 6 x75.1 1 (y11.toNat) 0)), (11, rb [(.tmp 95, (.rowp 6 x75.1 1 (y11.toNat) 0))] [(6, (z62_222 y39))] (B x79)), (12, rp [(.tmp 96, B x79)] (B false)), (16, rb [(.tmp 97, B false), (.tmp 98, (.own 4 1 (0) (p7))), (.tmp 100, (I (w64 (p0 + 1))))] [(4, (z62_8 p9 p0 p11 p1))] (.ref 4 1 ((w64 (p0 + 1)).toNat) 0)), (17, rb [(.tmp 97, B false), (.tmp 101, (.ref 4 1 ((w64 (p0 + 1)).toNat) 0))] [(4, (z62_8 p9 p0 p11 p1))] (.row 6 x87.1 1 (0) (x87.2))), (19, rb [(.tmp 97, B false), (.tmp 102, (.row 6 x87.1 1 (0) (x87.2))), (.tmp 103, I y37)] [(6, (z62_222 y39))] (.rowp 6 x87.1 1 (y37.toNat) 0)), (20, rb [(.tmp 97, B false), (.tmp 104, (.rowp 6 x87.1 1 (y37.toNat) 0))] [(6, (z62_222 y39))] (B x91)), (22, rb [(.tmp 88, (.row 6 x72.1 1 (0) (x72.2))), (.tmp 89, I y11)] [(6, (z62_222 y39))] (.rowp 6 x72.1 1 (y11.toNat) 0)), (23, ⟨[(.tmp 107, (.rowp 6 x72.1 1 (y11.toNat) 0)), (.tmp 106, B x91)], [(6, (z62_222 y39))], .any, [(6, (z62_229 y39 x72 y11 x91))], false⟩)] ⟨aio rfl Try.underlying120 ti121 (odt hi71a) (odt hi71b) (Nat.zero_add _), ald rfl ti121 (by decide) (mgt (c_mr 6 1) hg73) (nle rfl) rfl, aio rfl Try.underlying120 ti121 (odt hi74a) (odt hi74b) (Nat.zero_add _), ald rfl ti121 (by decide) (mgt (c_mr 6 1) hg76) (nle rfl) rfl, astep_idxrm rfl Try.underlying121 ti4 (odt hi77a) (odt hi77b) hz78 (Nat.zero_add _), astep_loadr rfl ti4 (by decide) hg80 (nle rfl) rfl, asb hb81 (amv rfl), ag_ (aio rfl Try.underlying120 ti121 (odt hi86a) (odt hi86b) (Nat.zero_add _)), ag_ (ald rfl ti121 (by decide) (mgt (c_mr 6 1) hg88) (nle rfl) rfl), ag_ (astep_idxrm rfl Try.underlying121 ti4 (odt hi89a) (odt hi89b) hz90 (Nat.zero_add _)), ag_ (astep_loadr rfl ti4 (by decide) hg92 (nle rfl) rfl), astep_idxrm rfl Try.underlying121 ti4 (odt hi93a) (odt hi93b) hz94 (Nat.zero_add _), astep_storer (u' := x91) rfl ti4 (by rfl) hg96 (nle rfl) rfl, trivial⟩ ?_
        refine bln ?_
        refine thn ?_
        refine wx1 tbk [] trivial ?_
        refine thn ?_
        exact arm (mto (n := 110) [(0, I p0), (1, .ref 0 5 0 0), (2, .ref 1 1 0 0), (3, .ref 2 1 0 0), (5, I y11), (25, (I ((p1.length : Int)))), (26, I y11), (48, (I ((p1.length : Int)))), (49, (I (w64 (y37 + 1))))] [0, 1, 2, 3, 4, 5, 6] [(z62_0 p1 p2 p3 p4 p5), (.own 1 [[(.own 3 1 (0) (p6))]]), (.own 1 [[(.own 4 1 (0) (p7))]]), (z62_6 p8 p0 p10 p1), (z62_8 p9 p0 p11 p1), (z62_225 y38 x49 y11 x65), (z62_229 y39 x72 y11 x91)] hφ0 (pc rwl (pc (.rn (rqr rfl)) (pc (.rn (rqr rfl)) (pc (.rn (rqr rfl)) (pc rwl (pc rwl (pc rwl (pc rwl (pc rwl pn))))))))) (qc (spb (lc (.rn (.plain _ (nld nl_i64 _))) (lc rwl (lc rwl (lc rwl (lc (.rn (.plain _ (nld nl_GHour _))) ln)))))) (qc (spb (lc (.rn (rnq_own rfl)) ln)) (qc (spb (lc (.rn (rnq_own rfl)) ln)) (qc (spw_orow rfl) (qc (spw_orow rfl) (qc (spw_mat nl_i64) (qc (spw_mat nl_bool) qn)))))))) (ih (w64 (y37 + 1), setM y38 x49.1 y11.toNat x65, setM y39 x72.1 y11.toNat x91) h)
      ·replace h := bif_f hc47 h
       refine wfn hc47 (by kernel_rfl) ?_
       refine awp_skip ?_
       refine bln ?_
       refine thn ?_
       refine wx1 tbk [] trivial ?_
       refine thn ?_
       exact arm (mto (n := 110) [(0, I p0), (1, .ref 0 5 0 0), (2, .ref 1 1 0 0), (3, .ref 2 1 0 0), (5, I y11), (25, (I ((p1.length : Int)))), (26, I y11), (48, (I ((p1.length : Int)))), (49, (I (w64 (y37 + 1))))] [0, 1, 2, 3, 4, 5, 6] [(z62_0 p1 p2 p3 p4 p5), (.own 1 [[(.own 3 1 (0) (p6))]]), (.own 1 [[(.own 4 1 (0) (p7))]]), (z62_6 p8 p0 p10 p1), (z62_8 p9 p0 p11 p1), (z62_220 y38), (z62_222 y39)] hφ0 (pc rwl (pc (.rn (rqr rfl)) (pc (.rn (rqr rfl)) (pc (.rn (rqr rfl)) (pc rwl (pc rwl (pc rwl (pc rwl (pc rwl pn))))))))) (qc (spb (lc (.rn (.plain _ (nld nl_i64 _))) (lc rwl (lc rwl (lc rwl (lc (.rn (.plain _ (nld nl_GHour _))) ln)))))) (qc (spb (lc (.rn (rnq_own rfl)) ln)) (qc (spb (lc (.rn (rnq_own rfl)) ln)) (qc (spw_orow rfl) (qc (spw_orow rfl) (qc (spw_mat nl_i64) (qc (spw_mat nl_bool) qn)))))))) (ih (w64 (y37 + 1), y38, y39) h)
     ·replace h := bif_f hc44 h
      refine wfn hc44 (by kernel_rfl) ?_
      refine awp_exit ?_
      refine thenA_x ?_
      refine thenA_x ?_
      refine blockA_e rfl ?_
      refine bln ?_
      refine thn ?_
      exact ⟨(y38, y39), h, (mto (n := 110) [(0, I p0), (1, .ref 0 5 0 0), (2, .ref 1 1 0 0), (3, .ref 2 1 0 0), (25, (I ((p1.length : Int)))), (26, I y11)] [0, 1, 2, 3, 4, 5, 6] [(z62_0 p1 p2 p3 p4 p5), (.own 1 [[(.own 3 1 (0) (p6))]]), (.own 1 [[(.own 4 1 (0) (p7))]]), (z62_6 p8 p0 p10 p1), (z62_8 p9 p0 p11 p1), (z62_220 y38), (z62_222 y39)] hφ0 (pc rwl (pc (.rn (rqr rfl)) (pc (.rn (rqr rfl)) (pc (.rn (rqr rfl)) (pc rwl (pc rwl pn)))))) (qc (spb (lc (.rn (.plain _ (nld nl_i64 _))) (lc rwl (lc rwl (lc rwl (lc (.rn (.plain _ (nld nl_GHour _))) ln)))))) (qc (spb (lc (.rn (rnq_own rfl)) ln)) (qc (spb (lc (.rn (rnq_own rfl)) ln)) (qc (spw_orow rfl) (qc (spw_orow rfl) (qc (spw_mat nl_i64) (qc (spw_mat nl_bool) qn))))))))⟩
  ·replace h := bif_f hc18 h
   refine wfn hc18 (by kernel_rfl) ?_
   refine awp_exit ?_
   refine thenA_x ?_
   refine thenA_x ?_
   refine blockA_e rfl ?_
   obtain rfl := osi h
   exact ⟨_, (mto (n := 110) (l' := []) (own' := [(z62_0 p1 p2 p3 p4 p5), (.own 1 [[(.own 3 1 (0) (p6))]]), (.own 1 [[(.own 4 1 (0) (p7))]]), (z62_6 p8 p0 p10 p1), (z62_8 p9 p0 p11 p1), (z62_139 y12), (z62_140 y13)]) [] [0, 1, 2, 3, 4, 5, 6] [(z62_0 p1 p2 p3 p4 p5), (.own 1 [[(.own 3 1 (0) (p6))]]), (.own 1 [[(.own 4 1 (0) (p7))]]), (z62_6 p8 p0 p10 p1), (z62_8 p9 p0 p11 p1), (z62_139 y12), (z62_140 y13)] hφ0 pn (qc (spb (lc (.rn (.plain _ (nld nl_i64 _))) (lc rwl (lc rwl (lc rwl (lc (.rn (.plain _ (nld nl_GHour _))) ln)))))) (qc (spb (lc (.rn (rnq_own rfl)) ln)) (qc (spb (lc (.rn (rnq_own rfl)) ln)) (qc (spw_orow rfl) (qc (spw_orow rfl) (qc (spw_mat nl_i64) (qc (spw_mat nl_bool) qn)))))))), fin_of (vs := []) trivial rfl (NLt.tup _ nl0) (by kernel_rfl) (snl_cons (snl_box (nlc (NLt.of0 (nld nl_i64 _)) (nlc (NLt.of0 nll) (nlc (NLt.of0 nll) (nlc (NLt.of0 nll) (nlc (NLt.of0 (nld nl_GHour _)) nl0)))))) (snl_cons (snl_box (nlc (NLt.own _ _ _ _ (by decide)) nl0)) (snl_cons (snl_box (nlc (NLt.own _ _ _ _ (by decide)) nl0)) (snl_cons (snl_orow rfl) (snl_cons (snl_orow rfl) (snl_cons (snl_mat nl_i64 _) (snl_cons (snl_mat nl_bool _) snl_nil)))))))⟩

def plant_levelsX_loop1 (N : Nat) (p0 : GJob) (k2 : (List Int) → Option (List Int)) : Nat → (List Int) → Int → Option (List Int)
  | 0, _, _ => none
  | n7 + 1, y3, y4 =>
    bif (decide (y4 < (p0.Levels.length : Int))) then
     chk (decide ((y3.length + ([y4]).length) * 8 ≤ 140737488355328)) <|
     plant_levelsX_loop1 N p0 k2 n7 (y3 ++ ([y4])) (w64 (y4 + 1))
    else
     k2 (y3)
def plant_levelsX (N : Nat) (p0 : GJob) : Option (List Int) :=
  joinK (fun y1 =>
    some y1) fun k2 : (List Int) → Option (List Int) =>
  plant_levelsX_loop1 N p0 k2 N ([]) 0
def z64_5 (y3 : (List Int)) (y4 : Int) : AV := .acc 1 3 1 ((y3 ++ ([y4]) : List Int).map c_i64)
set_option maxRecDepth 100000 in
set_option maxHeartbeats 4000000 in
theorem plant_levelsX_ok (N : Nat) (p0 : GJob) (r : (List Int)) (h : plant_levelsX N p0 = some r) : Spec Try.prog 72 [(.agg (c_GJob p0))] [] (.dat 1 (r.map c_i64)) [] := by
  refine spec_of_awp Try.func72 rfl 0 (nle rfl) (fun X φ0 w0 hφ0 => ?_)
  unfold plant_levelsX at h
  refine wx tbk [] trivial ?_
  obtain ⟨k2, hk_k2, h⟩ := jko h
  refine wjn (τ := (List Int)) (fun t => k2 t = some r) (fun y1 => ⟨mk 16 [(2, (.acc 0 3 1 ((y1 : List Int).map c_i64)))], [.tok]⟩) (fun y1 h => ?_) ?_
  ·subst hk_k2
   refine wx tbk [] trivial ?_
   refine awp_ret ?_
   obtain rfl := osi h
   exact ⟨⟨[(.dat 1 ((y1 : List Int).map c_i64))], ⟨resOK_less (v := (.acc 0 3 1 ((y1 : List Int).map c_i64))) (rot (by kernel_rfl)) Less.acc, trivial⟩, rfl⟩, (nld nl_i64 _), Nat.le_refl _, fun n hn => absurd hn (Nat.not_lt_zero n)⟩
  ·skip
   refine wx tbk [(2, rp [(.tmp 5, (.dat 1 ((p0.Levels : List Int).map c_i64)))] (I ((p0.Levels.length : Int))))] ⟨alm (c := c_i64) (l := p0.Levels) (aln rfl Try.underlying37 rfl), trivial⟩ ?_
   refine awp_block ?_
   refine wmr (Mor.trans (mor_nil 1 3 1 2 (by kernel_rfl) (by kernel_rfl)) (mto (n := 16) (l' := [(2, (.acc 0 3 1 ((([]) : List Int).map c_i64))), (6, (I ((p0.Levels.length : Int)))), (7, I 0)]) (own' := [.tok]) [(2, (.acc 1 3 1 (([] : List Int).map c_i64))), (6, (I ((p0.Levels.length : Int)))), (7, I 0)] [1] [.tok] hφ0 (pc (.rn (rnq_acc rfl (nl_rows nl_i64 _))) (pc rwl (pc rwl pn))) (qc .tok qn))) ?_
   refine awp_ind (τ := (List Int) × Int) (fun n t => plant_levelsX_loop1 N p0 k2 n t.1 t.2 = some r) (fun ⟨y3, y4⟩ => ⟨mk 16 [(2, (.acc 0 3 1 ((y3 : List Int).map c_i64))), (6, (I ((p0.Levels.length : Int)))), (7, I y4)], [.tok]⟩) (fun t h => by rw [plant_levelsX_loop1] at h; cases h) (fun n7 ih t h => ?_) N ([], 0) h
   obtain ⟨y3, y4⟩ := t
   rw [plant_levelsX_loop1] at h
   skip
   refine wx tbk [] trivial ?_
   refine wsq ?_
   rcases bft ((decide (y4 < (p0.Levels.length : Int)))) with hc8 | hc8
   ·replace h := bif_t hc8 h
    refine wft hc8 (by kernel_rfl) ?_
    refine awp_skip ?_
    refine thn ?_
    refine wsq ?_
    refine awp_block ?_
    refine wx tbk [] trivial ?_
    obtain ⟨ha9, h⟩ := cko h
    refine wx1 tbk [(2, rp [(.tmp 11, I y4)] (.dat 1 (([y4] : List Int).map c_i64))), (3, ⟨[(.tmp 10, (.acc 0 3 1 ((y3 : List Int).map c_i64))), (.tmp 12, (.dat 1 (([y4] : List Int).map c_i64)))], [(0, .tok), (1, .unused)], (z64_5 y3 y4), [(0, .dead), (1, .tok)], false⟩)] ⟨astep_bslice (vs := [I y4]) rfl Try.underlying37 ti3 tz3 rfl (by decide) rfl (by decide) (by rfl) (by rfl) (by rfl) rfl, astep_app rfl Try.underlying37 te3 (Base.acc _ _) rfl rfl (by rfl) (app_le1 c_i64 ha9) (app_le2 c_i64 ha9 (by decide)) (app_map c_i64) rfl rfl, trivial⟩ ?_
    refine bln ?_
    refine thn ?_
    refine wx1 tbk [] trivial ?_
    refine thn ?_
    exact arm (mto (n := 16) [(2, (z64_5 y3 y4)), (6, (I ((p0.Levels.length : Int)))), (7, (I (w64 (y4 + 1))))] [1] [.tok] hφ0 (pc (.rn (rnq_acc rfl (nl_rows nl_i64 _))) (pc rwl (pc rwl pn))) (qc .tok qn)) (ih (y3 ++ ([y4]), w64 (y4 + 1)) h)
   ·replace h := bif_f hc8 h
    refine wfn hc8 (by kernel_rfl) ?_
    refine awp_exit ?_
    refine thenA_x ?_
    refine thenA_x ?_
    refine blockA_e rfl ?_
    refine thn ?_
    exact ⟨(y3), h, (mto (n := 16) [(2, (.acc 0 3 1 ((y3 : List Int).map c_i64)))] [0] [.tok] hφ0 (pc (.rn (rnq_acc rfl (nl_rows nl_i64 _))) pn) (qc .tok qn))⟩

def plant_Dispatch_2X_1 (N : Nat) (p0 : Int) (p1 : (List Int)) (p2 : Int) (p3 : Int) (p4 : Int) (p5 : (List GHour)) (p6 : Int) (p7 : Int) (p8 : Nat) (p9 : Nat) (p10 : (List (Nat × Nat))) (p11 : (List (Nat × Nat))) (p12 : (List (List Bool))) (p13 : (List (List Int))) : Option Bool :=
  (plant_Job_gainX N (⟨p1, p2, p3, p4, p5⟩ : GJob) p6 p7 p0).bind fun x3 =>
  bif x3.2 then
   chk (decide (0 ≤ w64 (p6 + 1)) && decide ((w64 (p6 + 1)).toNat < p8)) <|
   (p10[(w64 (p6 + 1)).toNat]?).bind fun x6 =>
   chk (!(p12.getD x6.1 []).isEmpty) <|
   chk (decide (0 ≤ p0) && decide (p0.toNat < x6.2)) <|
   (getM p12 x6.1 p0.toNat).bind fun x10 =>
   bif x10 then
    chk (decide (0 ≤ w64 (p6 + 1)) && decide ((w64 (p6 + 1)).toNat < p9)) <|
    (p11[(w64 (p6 + 1)).toNat]?).bind fun x14 =>
    chk (!(p13.getD x14.1 []).isEmpty) <|
    chk (decide (0 ≤ p0) && decide (p0.toNat < x14.2)) <|
    (getM p13 x14.1 p0.toNat).bind fun x18 =>
    chk (decide (0 ≤ p6) && decide (p6.toNat < p9)) <|
    (p11[p6.toNat]?).bind fun x21 =>
    chk (!(p13.getD x21.1 []).isEmpty) <|
    chk (decide (0 ≤ p7) && decide (p7.toNat < x21.2)) <|
    (getM p13 x21.1 p7.toNat).bind fun x25 =>
    some ((w64 (x3.1 + x18)) == x25)
   else
    some false
  else
   some false
def z66_0 (p1 : (List Int)) (p2 : Int) (p3 : Int) (p4 : Int) (p5 : (List GHour)) : Slot := .own 5 [[(.dat 1 ((p1 : List Int).map c_i64)), (I (p2)), (I (p3)), (I (p4)), (.dat 2 ((p5 : List GHour).map c_GHour))]]
def z66_2 (p10 : (List (Nat × Nat))) : Slot := .own 1 ((p10 : List (Nat × Nat)).map (c_mr 7 1))
def z66_4 (p11 : (List (Nat × Nat))) : Slot := .own 1 ((p11 : List (Nat × Nat)).map (c_mr 8 1))
def z66_3 (p12 : (List (List Bool))) : Slot := .mat 1 (matA c_bool (p12 : List (List Bool)))
def z66_5 (p13 : (List (List Int))) : Slot := .mat 1 (matA c_i64 (p13 : List (List Int)))
def z66_1 (p1 : (List Int)) (p2 : Int) (p3 : Int) (p4 : Int) (p5 : (List GHour)) : AV := .agg [(.dat 1 ((p1 : List Int).map c_i64)), (I (p2)), (I (p3)), (I (p4)), (.dat 2 ((p5 : List GHour).map c_GHour))]
set_option maxRecDepth 100000 in
set_option maxHeartbeats 4000000 in
theorem plant_Dispatch_2X_1_ok (N : Nat) (p0 : Int) (p1 : (List Int)) (p2 : Int) (p3 : Int) (p4 : Int) (p5 : (List GHour)) (p6 : Int) (p7 : Int) (p8 : Nat) (p9 : Nat) (p10 : (List (Nat × Nat))) (p11 : (List (Nat × Nat))) (p12 : (List (List Bool))) (p13 : (List (List Int))) (r : Bool) (h : plant_Dispatch_2X_1 N p0 p1 p2 p3 p4 p5 p6 p7 p8 p9 p10 p11 p12 p13 = some r) : Spec Try.prog 73 [(I (p0)), (.ref 0 5 (0) 0), (.ref 1 1 (0) 0), (.ref 2 1 (0) 0), (.ref 3 1 (0) 0), (.ref 4 1 (0) 0)] [(z66_0 p1 p2 p3 p4 p5), (.own 1 [[(I (p6))]]), (.own 1 [[(I (p7))]]), (.own 1 [[(.own 5 1 (0) (p8))]]), (.own 1 [[(.own 6 1 (0) (p9))]]), (z66_2 p10), (z66_4 p11), (z66_3 p12), (z66_5 p13)] (B (r)) [(z66_0 p1 p2 p3 p4 p5), (.own 1 [[(I (p6))]]), (.own 1 [[(I (p7))]]), (.own 1 [[(.own 5 1 (0) (p8))]]), (.own 1 [[(.own 6 1 (0) (p9))]]), (z66_2 p10), (z66_4 p11), (z66_3 p12), (z66_5 p13)] := by
  refine spec_of_awp Try.func73 rfl 9 (nle rfl) (fun X φ0 w0 hφ0 => ?_)
  unfold plant_Dispatch_2X_1 at h
  refine awp_finm ?_
  refine wx tbk [] trivial ?_
  obtain ⟨x3, hf2, h⟩ := bno h
  refine wx tbk [(4, rp [fu 70, (.tmp 11, (z66_1 p1 p2 p3 p4 p5)), (.tmp 12, I p6), (.tmp 13, I p7), (.tmp 14, I p0)] (.tup [I x3.1, B x3.2]))] ⟨apc (first := []) (cap := []) (vs := [(z66_1 p1 p2 p3 p4 p5), I p6, I p7, I p0]) rfl enter70 (plant_Job_gainX_ok N (⟨p1, p2, p3, p4, p5⟩ : GJob) p6 p7 p0 _ hf2) rfl rfl (nlc (NLt.agg _ (nlc (nld nl_i64 _) (nlc nll (nlc nll (nlc nll (nlc (nld nl_GHour _) nl0)))))) (nlc nll (nlc nll (nlc nll nl0)))) (NLt.tup _ (nlc nll (nlc nll nl0))) rfl, trivial⟩ ?_
  rcases bft (x3.2) with hb4 | hb4
  ·replace h := bif_t hb4 h
   obtain ⟨hi5, h⟩ := cko h
   obtain ⟨hi5a, hi5b⟩ := and_out hi5
   obtain ⟨x6, hg7, h⟩ := bno h
   obtain ⟨hz9, h⟩ := cko h
   obtain ⟨hi8, h⟩ := cko h
   obtain ⟨hi8a, hi8b⟩ := and_out hi8
   obtain ⟨x10, hg11, h⟩ := bno h
   rcases bft (x10) with hb12 | hb12
   ·replace h := bif_t hb12 h
    obtain ⟨hi13, h⟩ := cko h
    obtain ⟨hi13a, hi13b⟩ := and_out hi13
    obtain ⟨x14, hg15, h⟩ := bno h
    obtain ⟨hz17, h⟩ := cko h
    obtain ⟨hi16, h⟩ := cko h
    obtain ⟨hi16a, hi16b⟩ := and_out hi16
    obtain ⟨x18, hg19, h⟩ := bno h
    obtain ⟨hi20, h⟩ := cko h
    obtain ⟨hi20a, hi20b⟩ := and_out hi20
    obtain ⟨x21, hg22, h⟩ := bno h
    obtain ⟨hz24, h⟩ := cko h
    obtain ⟨hi23, h⟩ := cko h
    obtain ⟨hi23a, hi23b⟩ := and_out hi23
    obtain ⟨x25, hg26, h⟩ := bno h
    refine wxd tbk [(1, rp [(.tmp 18, B x3.2)] (B true)), (5, rb [(.tmp 19, B true), (.tmp 20, (.own 5 1 (0) (p8))), (.tmp 22, (I (w64 (p6 + 1))))] [(5, (z66_2 p10))] (.ref 5 1 ((w64 (p6 + 1)).toNat) 0)), (6, rb [(.tmp 19, B true), (.tmp 23, (.ref 5 1 ((w64 (p6 + 1)).toNat) 0))] [(5, (z66_2 p10))] (.row 7 x6.1 1 (0) (x6.2))), (8, rb [(.tmp 19, B true), (.tmp 24, (.row 7 x6.1 1 (0) (x6.2))), (.tmp 25, I p0)] [(7, (z66_3 p12))] (.rowp 7 x6.1 1 (p0.toNat) 0)), (9, rb [(.tmp 19, B true), (.tmp 26, (.rowp 7 x6.1 1 (p0.toNat) 0))] [(7, (z66_3 p12))] (B x10)), (11, rp [(.tmp 28, B x10)] (B true)), (16, rb [(.tmp 29, B true), (.tmp 31, (.own 6 1 (0) (p9))), (.tmp 33, (I (w64 (p6 + 1))))] [(6, (z66_4 p11))] (.ref 6 1 ((w64 (p6 + 1)).toNat) 0)), (17, rb [(.tmp 29, B true), (.tmp 34, (.ref 6 1 ((w64 (p6 + 1)).toNat) 0))] [(6, (z66_4 p11))] (.row 8 x14.1 1 (0) (x14.2))), (19, rb [(.tmp 29, B true), (.tmp 35, (.row 8 x14.1 1 (0) (x14.2))), (.tmp 36, I p0)] [(8, (z66_5 p13))] (.rowp 8 x14.1 1 (p0.toNat) 0)), (20, rb [(.tmp 29, B true), (.tmp 37, (.rowp 8 x14.1 1 (p0.toNat) 0))] [(8, (z66_5 p13))] (I x18)), (24, rb [(.tmp 29, B true), (.tmp 40, (.own 6 1 (0) (p9))), (.tmp 41, I p6)] [(6, (z66_4 p11))] (.ref 6 1 (p6.toNat) 0)), (25, rb [(.tmp 29, B true), (.tmp 42, (.ref 6 1 (p6.toNat) 0))] [(6, (z66_4 p11))] (.row 8 x21.1 1 (0) (x21.2))), (27, rb [(.tmp 29, B true), (.tmp 43, (.row 8 x21.1 1 (0) (x21.2))), (.tmp 44, I p7)] [(8, (z66_5 p13))] (.rowp 8 x21.1 1 (p7.toNat) 0)), (28, rb [(.tmp 29, B true), (.tmp 45, (.rowp 8 x21.1 1 (p7.toNat) 0))] [(8, (z66_5 p13))] (I x25))] ⟨asb hb4 (amv rfl), ag_ (aio rfl Try.underlying120 ti121 (odt hi5a) (odt hi5b) (Nat.zero_add _)), ag_ (ald rfl ti121 (by decide) (mgt (c_mr 7 1) hg7) (nle rfl) rfl), ag_ (astep_idxrm rfl Try.underlying121 ti4 (odt hi8a) (odt hi8b) hz9 (Nat.zero_add _)), ag_ (astep_loadr rfl ti4 (by decide) hg11 (nle rfl) rfl), asb hb12 (amv rfl), ag_ (aio rfl Try.underlying42 ti37 (odt hi13a) (odt hi13b) (Nat.zero_add _)), ag_ (ald rfl ti37 (by decide) (mgt (c_mr 8 1) hg15) (nle rfl) rfl), ag_ (astep_idxrm rfl Try.underlying37 ti3 (odt hi16a) (odt hi16b) hz17 (Nat.zero_add _)), ag_ (astep_loadr rfl ti3 (by decide) hg19 (nle rfl) rfl), ag_ (aio rfl Try.underlying42 ti37 (odt hi20a) (odt hi20b) (Nat.zero_add _)), ag_ (ald rfl ti37 (by decide) (mgt (c_mr 8 1) hg22) (nle rfl) rfl), ag_ (astep_idxrm rfl Try.underlying37 ti3 (odt hi23a) (odt hi23b) hz24 (Nat.zero_add _)), ag_ (astep_loadr rfl ti3 (by decide) hg26 (nle rfl) rfl), trivial⟩ ?_
    refine wmr (mto (n := 49) (l' := [(7, (B (((w64 (x3.1 + x18)) == x25))))]) (own' := [(z66_0 p1 p2 p3 p4 p5), (.own 1 [[I p6]]), (.own 1 [[I p7]]), (.own 1 [[(.own 5 1 (0) (p8))]]), (.own 1 [[(.own 6 1 (0) (p9))]]), (z66_2 p10), (z66_4 p11), (z66_3 p12), (z66_5 p13)]) [(7, (B (((w64 (x3.1 + x18)) == x25))))] [0, 1, 2, 3, 4, 5, 6, 7, 8] [(z66_0 p1 p2 p3 p4 p5), (.own 1 [[I p6]]), (.own 1 [[I p7]]), (.own 1 [[(.own 5 1 (0) (p8))]]), (.own 1 [[(.own 6 1 (0) (p9))]]), (z66_2 p10), (z66_4 p11), (z66_3 p12), (z66_5 p13)] hφ0 (pc rwl pn) (qc (spb (lc (.rn (.plain _ (nld nl_i64 _))) (lc rwl (lc rwl (lc rwl (lc (.rn (.plain _ (nld nl_GHour _))) ln)))))) (qc (spb (lc rwl ln)) (qc (spb (lc rwl ln)) (qc (spb (lc (.rn (rnq_own rfl)) ln)) (qc (spb (lc (.rn (rnq_own rfl)) ln)) (qc (spw_orow rfl) (qc (spw_orow rfl) (qc (spw_mat nl_bool) (qc (spw_mat nl_i64) qn)))))))))) ?_
    refine awp_ret ?_
    obtain rfl := osi h
    exact ⟨_, Mor.rfl, fin_of (vs := [(B (((w64 (x3.1 + x18)) == x25)))]) ⟨rot (by kernel_rfl), trivial⟩ rfl (NLt.of0 nll) (by kernel_rfl) (snl_cons (snl_box (nlc (NLt.of0 (nld nl_i64 _)) (nlc (NLt.of0 nll) (nlc (NLt.of0 nll) (nlc (NLt.of0 nll) (nlc (NLt.of0 (nld nl_GHour _)) nl0)))))) (snl_cons (snl_box (nlc (NLt.of0 nll) nl0)) (snl_cons (snl_box (nlc (NLt.of0 nll) nl0)) (snl_cons (snl_box (nlc (NLt.own _ _ _ _ (by decide)) nl0)) (snl_cons (snl_box (nlc (NLt.own _ _ _ _ (by decide)) nl0)) (snl_cons (snl_orow rfl) (snl_cons (snl_orow rfl) (snl_cons (snl_mat nl_bool _) (snl_cons (snl_mat nl_i64 _) snl_nil)))))))))⟩
   ·replace h := bif_f hb12 h
    refine wxd tbk [(1, rp [(.tmp 18, B x3.2)] (B true)), (5, rb [(.tmp 19, B true), (.tmp 20, (.own 5 1 (0) (p8))), (.tmp 22, (I (w64 (p6 + 1))))] [(5, (z66_2 p10))] (.ref 5 1 ((w64 (p6 + 1)).toNat) 0)), (6, rb [(.tmp 19, B true), (.tmp 23, (.ref 5 1 ((w64 (p6 + 1)).toNat) 0))] [(5, (z66_2 p10))] (.row 7 x6.1 1 (0) (x6.2))), (8, rb [(.tmp 19, B true), (.tmp 24, (.row 7 x6.1 1 (0) (x6.2))), (.tmp 25, I p0)] [(7, (z66_3 p12))] (.rowp 7 x6.1 1 (p0.toNat) 0)), (9, rb [(.tmp 19, B true), (.tmp 26, (.rowp 7 x6.1 1 (p0.toNat) 0))] [(7, (z66_3 p12))] (B x10)), (11, rp [(.tmp 28, B x10)] (B false))] ⟨asb hb4 (amv rfl), ag_ (aio rfl Try.underlying120 ti121 (odt hi5a) (odt hi5b) (Nat.zero_add _)), ag_ (ald rfl ti121 (by decide) (mgt (c_mr 7 1) hg7) (nle rfl) rfl), ag_ (astep_idxrm rfl Try.underlying121 ti4 (odt hi8a) (odt hi8b) hz9 (Nat.zero_add _)), ag_ (astep_loadr rfl ti4 (by decide) hg11 (nle rfl) rfl), asb hb12 (amv rfl), trivial⟩ ?_
    refine wmr (mto (n := 49) (l' := [(7, B false)]) (own' := [(z66_0 p1 p2 p3 p4 p5), (.own 1 [[I p6]]), (.own 1 [[I p7]]), (.own 1 [[(.own 5 1 (0) (p8))]]), (.own 1 [[(.own 6 1 (0) (p9))]]), (z66_2 p10), (z66_4 p11), (z66_3 p12), (z66_5 p13)]) [(7, B false)] [0, 1, 2, 3, 4, 5, 6, 7, 8] [(z66_0 p1 p2 p3 p4 p5), (.own 1 [[I p6]]), (.own 1 [[I p7]]), (.own 1 [[(.own 5 1 (0) (p8))]]), (.own 1 [[(.own 6 1 (0) (p9))]]), (z66_2 p10), (z66_4 p11), (z66_3 p12), (z66_5 p13)] hφ0 (pc rwl pn) (qc (spb (lc (.rn (.plain _ (nld nl_i64 _))) (lc rwl (lc rwl (lc rwl (lc (.rn (.plain _ (nld nl_GHour _))) ln)))))) (qc (spb (lc rwl ln)) (qc (spb (lc rwl ln)) (qc (spb (lc (.rn (rnq_own rfl)) ln)) (qc (spb (lc (.rn (rnq_own rfl)) ln)) (qc (spw_orow rfl) (qc (spw_orow rfl) (qc (spw_mat nl_bool) (qc (spw_mat nl_i64) qn)))))))))) ?_
    refine awp_ret ?_
    obtain rfl := osi h
    exact ⟨_, Mor.rfl, fin_of (vs := [B false]) ⟨rot (by kernel_rfl), trivial⟩ rfl (NLt.of0 nll) (by kernel_rfl) (snl_cons (snl_box (nlc (NLt.of0 (nld nl_i64 _)) (nlc (NLt.of0 nll) (nlc (NLt.of0 nll) (nlc (NLt.of0 nll) (nlc (NLt.of0 (nld nl_GHour _)) nl0)))))) (snl_cons (snl_box (nlc (NLt.of0 nll) nl0)) (snl_cons (snl_box (nlc (NLt.of0 nll) nl0)) (snl_cons (snl_box (nlc (NLt.own _ _ _ _ (by decide)) nl0)) (snl_cons (snl_box (nlc (NLt.own _ _ _ _ (by decide)) nl0)) (snl_cons (snl_orow rfl) (snl_cons (snl_orow rfl) (snl_cons (snl_mat nl_bool _) (snl_cons (snl_mat nl_i64 _) snl_nil)))))))))⟩
  ·replace h := bif_f hb4 h
   refine wxd tbk [(1, rp [(.tmp 18, B x3.2)] (B false))] ⟨asb hb4 (amv rfl), trivial⟩ ?_
   refine wmr (mto (n := 49) (l' := [(7, B false)]) (own' := [(z66_0 p1 p2 p3 p4 p5), (.own 1 [[I p6]]), (.own 1 [[I p7]]), (.own 1 [[(.own 5 1 (0) (p8))]]), (.own 1 [[(.own 6 1 (0) (p9))]]), (z66_2 p10), (z66_4 p11), (z66_3 p12), (z66_5 p13)]) [(7, B false)] [0, 1, 2, 3, 4, 5, 6, 7, 8] [(z66_0 p1 p2 p3 p4 p5), (.own 1 [[I p6]]), (.own 1 [[I p7]]), (.own 1 [[(.own 5 1 (0) (p8))]]), (.own 1 [[(.own 6 1 (0) (p9))]]), (z66_2 p10), (z66_4 p11), (z66_3 p12), (z66_5 p13)] hφ0 (pc rwl pn) (qc (spb (lc (.rn (.plain _ (nld nl_i64 _))) (lc rwl (lc rwl (lc rwl (lc (.rn (.plain _ (nld nl_GHour _))) ln)))))) (qc (spb (lc rwl ln)) (qc (spb (lc rwl ln)) (qc (spb (lc (.rn (rnq_own rfl)) ln)) (qc (spb (lc (.rn (rnq_own rfl)) ln)) (qc (spw_orow rfl) (qc (spw_orow rfl) (qc (spw_mat nl_bool) (qc (spw_mat nl_i64) qn)))))))))) ?_
   refine awp_ret ?_
   obtain rfl := osi h
   exact ⟨_, Mor.rfl, fin_of (vs := [B false]) ⟨rot (by kernel_rfl), trivial⟩ rfl (NLt.of0 nll) (by kernel_rfl) (snl_cons (snl_box (nlc (NLt.of0 (nld nl_i64 _)) (nlc (NLt.of0 nll) (nlc (NLt.of0 nll) (nlc (NLt.of0 nll) (nlc (NLt.of0 (nld nl_GHour _)) nl0)))))) (snl_cons (snl_box (nlc (NLt.of0 nll) nl0)) (snl_cons (snl_box (nlc (NLt.of0 nll) nl0)) (snl_cons (snl_box (nlc (NLt.own _ _ _ _ (by decide)) nl0)) (snl_cons (snl_box (nlc (NLt.own _ _ _ _ (by decide)) nl0)) (snl_cons (snl_orow rfl) (snl_cons (snl_orow rfl) (snl_cons (snl_mat nl_bool _) (snl_cons (snl_mat nl_i64 _) snl_nil)))))))))⟩

def slices_IndexFunc_int_intX_3_loop1 (N : Nat) (p0 : (List Int)) (p1 : (List Int)) (k2 : Unit → Option Int) (p2 : Int) (p3 : Int) (p4 : Int) (p5 : (List GHour)) (p6 : Int) (p7 : Int) (p8 : Nat) (p9 : Nat) (p10 : (List (Nat × Nat))) (p11 : (List (Nat × Nat))) (p12 : (List (List Bool))) (p13 : (List (List Int))) : Nat → Int → Option Int
  | 0, _ => none
  | n5 + 1, y3 =>
    bif (decide (y3 < (p0.length : Int))) then
     (getI p0 y3).bind fun x7 =>
     (plant_Dispatch_2X_1 N x7 p1 p2 p3 p4 p5 p6 p7 p8 p9 p10 p11 p12 p13).bind fun x12 =>
     bif x12 then
      some y3
     else
      slices_IndexFunc_int_intX_3_loop1 N p0 p1 k2 p2 p3 p4 p5 p6 p7 p8 p9 p10 p11 p12 p13 n5 (w64 (y3 + 1))
    else
     k2 ()
def slices_IndexFunc_int_intX_3 (N : Nat) (p0 : (List Int)) (p1 : (List Int)) (p2 : Int) (p3 : Int) (p4 : Int) (p5 : (List GHour)) (p6 : Int) (p7 : Int) (p8 : Nat) (p9 : Nat) (p10 : (List (Nat × Nat))) (p11 : (List (Nat × Nat))) (p12 : (List (List Bool))) (p13 : (List (List Int))) : Option Int :=
  joinK (fun _ =>
    some (-1)) fun k2 : Unit → Option Int =>
  slices_IndexFunc_int_intX_3_loop1 N p0 p1 k2 p2 p3 p4 p5 p6 p7 p8 p9 p10 p11 p12 p13 N 0
def z65_0 : AV := .fn (.func 73) [] [(.ref 0 5 (0) 0), (.ref 1 1 (0) 0), (.ref 2 1 (0) 0), (.ref 3 1 (0) 0), (.ref 4 1 (0) 0)]
def z65_1 (p1 : (List Int)) (p2 : Int) (p3 : Int) (p4 : Int) (p5 : (List GHour)) : Slot := .own 5 [[(.dat 1 ((p1 : List Int).map c_i64)), (I (p2)), (I (p3)), (I (p4)), (.dat 2 ((p5 : List GHour).map c_GHour))]]
def z65_2 (p10 : (List (Nat × Nat))) : Slot := .own 1 ((p10 : List (Nat × Nat)).map (c_mr 7 1))
def z65_3 (p11 : (List (Nat × Nat))) : Slot := .own 1 ((p11 : List (Nat × Nat)).map (c_mr 8 1))
def z65_4 (p12 : (List (List Bool))) : Slot := .mat 1 (matA c_bool (p12 : List (List Bool)))
def z65_5 (p13 : (List (List Int))) : Slot := .mat 1 (matA c_i64 (p13 : List (List Int)))
set_option maxRecDepth 100000 in
set_option maxHeartbeats 4000000 in
theorem slices_IndexFunc_int_intX_3_ok (N : Nat) (p0 : (List Int)) (p1 : (List Int)) (p2 : Int) (p3 : Int) (p4 : Int) (p5 : (List GHour)) (p6 : Int) (p7 : Int) (p8 : Nat) (p9 : Nat) (p10 : (List (Nat × Nat))) (p11 : (List (Nat × Nat))) (p12 : (List (List Bool))) (p13 : (List (List Int))) (r : Int) (h : slices_IndexFunc_int_intX_3 N p0 p1 p2 p3 p4 p5 p6 p7 p8 p9 p10 p11 p12 p13 = some r) : Spec Try.prog 71 [(.dat 1 ((p0 : List Int).map c_i64)), z65_0] [(z65_1 p1 p2 p3 p4 p5), (.own 1 [[(I (p6))]]), (.own 1 [[(I (p7))]]), (.own 1 [[(.own 5 1 (0) (p8))]]), (.own 1 [[(.own 6 1 (0) (p9))]]), (z65_2 p10), (z65_3 p11), (z65_4 p12), (z65_5 p13)] (I (r)) [(z65_1 p1 p2 p3 p4 p5), (.own 1 [[(I (p6))]]), (.own 1 [[(I (p7))]]), (.own 1 [[(.own 5 1 (0) (p8))]]), (.own 1 [[(.own 6 1 (0) (p9))]]), (z65_2 p10), (z65_3 p11), (z65_4 p12), (z65_5 p13)] := by
  refine spec_of_awp Try.func71 rfl 9 (nle rfl) (fun X φ0 w0 hφ0 => ?_)
  unfold slices_IndexFunc_int_intX_3 at h
  refine awp_finm ?_
  refine wx tbk [] trivial ?_
  obtain ⟨k2, hk_k2, h⟩ := jko h
  refine wjn (τ := Unit) (fun t => k2 t = some r) (fun _ => ⟨mk 19 [], [(z65_1 p1 p2 p3 p4 p5), (.own 1 [[I p6]]), (.own 1 [[I p7]]), (.own 1 [[(.own 5 1 (0) (p8))]]), (.own 1 [[(.own 6 1 (0) (p9))]]), (z65_2 p10), (z65_3 p11), (z65_4 p12), (z65_5 p13)]⟩) (fun t h => ?_) ?_
  ·subst hk_k2
   refine wx tbk [] trivial ?_
   refine wmr (mto (n := 19) (l' := [(4, (I ((-1))))]) (own' := [(z65_1 p1 p2 p3 p4 p5), (.own 1 [[I p6]]), (.own 1 [[I p7]]), (.own 1 [[(.own 5 1 (0) (p8))]]), (.own 1 [[(.own 6 1 (0) (p9))]]), (z65_2 p10), (z65_3 p11), (z65_4 p12), (z65_5 p13)]) [(4, (I ((-1))))] [0, 1, 2, 3, 4, 5, 6, 7, 8] [(z65_1 p1 p2 p3 p4 p5), (.own 1 [[I p6]]), (.own 1 [[I p7]]), (.own 1 [[(.own 5 1 (0) (p8))]]), (.own 1 [[(.own 6 1 (0) (p9))]]), (z65_2 p10), (z65_3 p11), (z65_4 p12), (z65_5 p13)] hφ0 (pc rwl pn) (qc (spb (lc (.rn (.plain _ (nld nl_i64 _))) (lc rwl (lc rwl (lc rwl (lc (.rn (.plain _ (nld nl_GHour _))) ln)))))) (qc (spb (lc rwl ln)) (qc (spb (lc rwl ln)) (qc (spb (lc (.rn (rnq_own rfl)) ln)) (qc (spb (lc (.rn (rnq_own rfl)) ln)) (qc (spw_orow rfl) (qc (spw_orow rfl) (qc (spw_mat nl_bool) (qc (spw_mat nl_i64) qn)))))))))) ?_
   refine awp_ret ?_
   obtain rfl := osi h
   exact ⟨_, Mor.rfl, fin_of (vs := [(I ((-1)))]) ⟨rot (by kernel_rfl), trivial⟩ rfl (NLt.of0 nll) (by kernel_rfl) (snl_cons (snl_box (nlc (NLt.of0 (nld nl_i64 _)) (nlc (NLt.of0 nll) (nlc (NLt.of0 nll) (nlc (NLt.of0 nll) (nlc (NLt.of0 (nld nl_GHour _)) nl0)))))) (snl_cons (snl_box (nlc (NLt.of0 nll) nl0)) (snl_cons (snl_box (nlc (NLt.of0 nll) nl0)) (snl_cons (snl_box (nlc (NLt.own _ _ _ _ (by decide)) nl0)) (snl_cons (snl_box (nlc (NLt.own _ _ _ _ (by decide)) nl0)) (snl_cons (snl_orow rfl) (snl_cons (snl_orow rfl) (snl_cons (snl_mat nl_bool _) (snl_cons (snl_mat nl_i64 _) snl_nil)))))))))⟩
  ·skip
   refine wx tbk [(1, rp [(.tmp 6, (.dat 1 ((p0 : List Int).map c_i64)))] (I ((p0.length : Int))))] ⟨alm (c := c_i64) (l := p0) (aln rfl Try.underlying37 rfl), trivial⟩ ?_
   refine awp_block ?_
   refine wmr (mto (n := 19) (l' := [(0, (.dat 1 ((p0 : List Int).map c_i64))), (1, z65_0), (7, (I ((p0.length : Int)))), (8, I 0)]) (own' := [(z65_1 p1 p2 p3 p4 p5), (.own 1 [[I p6]]), (.own 1 [[I p7]]), (.own 1 [[(.own 5 1 (0) (p8))]]), (.own 1 [[(.own 6 1 (0) (p9))]]), (z65_2 p10), (z65_3 p11), (z65_4 p12), (z65_5 p13)]) [(0, (.dat 1 ((p0 : List Int).map c_i64))), (1, z65_0), (7, (I ((p0.length : Int)))), (8, I 0)] [0, 1, 2, 3, 4, 5, 6, 7, 8] [(z65_1 p1 p2 p3 p4 p5), (.own 1 [[I p6]]), (.own 1 [[I p7]]), (.own 1 [[(.own 5 1 (0) (p8))]]), (.own 1 [[(.own 6 1 (0) (p9))]]), (z65_2 p10), (z65_3 p11), (z65_4 p12), (z65_5 p13)] hφ0 (pc (.rn (.plain _ (nld nl_i64 _))) (pc (.rn (rn_fn rn0 (rnc (rqr rfl) (rnc (rqr rfl) (rnc (rqr rfl) (rnc (rqr rfl) (rnc (rqr rfl) rn0))))))) (pc rwl (pc rwl pn)))) (qc (spb (lc (.rn (.plain _ (nld nl_i64 _))) (lc rwl (lc rwl (lc rwl (lc (.rn (.plain _ (nld nl_GHour _))) ln)))))) (qc (spb (lc rwl ln)) (qc (spb (lc rwl ln)) (qc (spb (lc (.rn (rnq_own rfl)) ln)) (qc (spb (lc (.rn (rnq_own rfl)) ln)) (qc (spw_orow rfl) (qc (spw_orow rfl) (qc (spw_mat nl_bool) (qc (spw_mat nl_i64) qn)))))))))) ?_
   refine awp_ind (τ := Int) (fun n t => slices_IndexFunc_int_intX_3_loop1 N p0 p1 k2 p2 p3 p4 p5 p6 p7 p8 p9 p10 p11 p12 p13 n t = some r) (fun y3 => ⟨mk 19 [(0, (.dat 1 ((p0 : List Int).map c_i64))), (1, z65_0), (7, (I ((p0.length : Int)))), (8, I y3)], [(z65_1 p1 p2 p3 p4 p5), (.own 1 [[I p6]]), (.own 1 [[I p7]]), (.own 1 [[(.own 5 1 (0) (p8))]]), (.own 1 [[(.own 6 1 (0) (p9))]]), (z65_2 p10), (z65_3 p11), (z65_4 p12), (z65_5 p13)]⟩) (fun t h => by rw [slices_IndexFunc_int_intX_3_loop1] at h; cases h) (fun n5 ih y3 h => ?_) N (0) h
   rw [slices_IndexFunc_int_intX_3_loop1] at h
   skip
   refine wx tbk [] trivial ?_
   refine wsq ?_
   rcases bft ((decide (y3 < (p0.length : Int)))) with hc6 | hc6
   ·replace h := bif_t hc6 h
    refine wft hc6 (by kernel_rfl) ?_
    refine awp_skip ?_
    refine thn ?_
    refine wsq ?_
    refine awp_block ?_
    refine wx tbk [] trivial ?_
    obtain ⟨x7, hg8, h⟩ := bno h
    obtain ⟨hi9, hj10⟩ := gsm hg8
    obtain ⟨x12, hf11, h⟩ := bno h
    refine wx tbk [(3, rp [(.tmp 12, (.dat 1 ((p0 : List Int).map c_i64))), (.tmp 13, I y3)] (.dptr (c_i64 (x7)) 0)), (5, ⟨[(.tmp 11, z65_0), (.tmp 15, I x7)], [(0, (z65_1 p1 p2 p3 p4 p5)), (1, .own 1 [[I p6]]), (2, .own 1 [[I p7]]), (3, (.own 1 [[(.own 5 1 (0) (p8))]])), (4, (.own 1 [[(.own 6 1 (0) (p9))]])), (5, (z65_2 p10)), (6, (z65_3 p11)), (7, (z65_4 p12)), (8, (z65_5 p13))], B x12, [(0, (z65_1 p1 p2 p3 p4 p5)), (1, .own 1 [[I p6]]), (2, .own 1 [[I p7]]), (3, (.own 1 [[(.own 5 1 (0) (p8))]])), (4, (.own 1 [[(.own 6 1 (0) (p9))]])), (5, (z65_2 p10)), (6, (z65_3 p11)), (7, (z65_4 p12)), (8, (z65_5 p13))], false⟩)] ⟨aid rfl Try.underlying37 ti3 rfl rfl hi9 (mgt c_i64 hj10) rfl, astep_callq (first := []) (cap := [.ref 0 5 0 0, .ref 1 1 0 0, .ref 2 1 0 0, .ref 3 1 0 0, .ref 4 1 0 0]) (vs := [I x7]) (σr := [(z65_1 p1 p2 p3 p4 p5), (.own 1 [[I p6]]), (.own 1 [[I p7]]), (.own 1 [[(.own 5 1 (0) (p8))]]), (.own 1 [[(.own 6 1 (0) (p9))]]), (z65_2 p10), (z65_3 p11), (z65_4 p12), (z65_5 p13)]) (σr' := [(z65_1 p1 p2 p3 p4 p5), (.own 1 [[I p6]]), (.own 1 [[I p7]]), (.own 1 [[(.own 5 1 (0) (p8))]]), (.own 1 [[(.own 6 1 (0) (p9))]]), (z65_2 p10), (z65_3 p11), (z65_4 p12), (z65_5 p13)]) (res' := (B x12)) [0, 1, 2, 3, 4, 5, 6, 7, 8] rfl enter73 (plant_Dispatch_2X_1_ok N x7 p1 p2 p3 p4 p5 p6 p7 p8 p9 p10 p11 p12 p13 _ hf11) rfl (rn_agg (rnc (.plain _ nll) (rnc (rnk_ref rfl) (rnc (rnk_ref rfl) (rnc (rnk_ref rfl) (rnc (rnk_ref rfl) (rnc (rnk_ref rfl) rn0))))))) (slc (srn_box (rnc (.plain _ (nld nl_i64 _)) (rnc (.plain _ nll) (rnc (.plain _ nll) (rnc (.plain _ nll) (rnc (.plain _ (nld nl_GHour _)) rn0)))))) (slc (srn_box (rnc (.plain _ nll) rn0)) (slc (srn_box (rnc (.plain _ nll) rn0)) (slc (srn_box (rnc (rnk_own rfl) rn0)) (slc (srn_box (rnc (rnk_own rfl) rn0)) (slc (srn_orowk rfl) (slc (srn_orowk rfl) (slc (srn_mat nl_bool) (slc (srn_mat nl_i64) slw_nil))))))))) (slc (srn_box (rnc (.plain _ (nld nl_i64 _)) (rnc (.plain _ nll) (rnc (.plain _ nll) (rnc (.plain _ nll) (rnc (.plain _ (nld nl_GHour _)) rn0)))))) (slc (srn_box (rnc (.plain _ nll) rn0)) (slc (srn_box (rnc (.plain _ nll) rn0)) (slc (srn_box (rnc (rnj_own rfl) rn0)) (slc (srn_box (rnc (rnj_own rfl) rn0)) (slc (srn_orowj rfl) (slc (srn_orowj rfl) (slc (srn_mat nl_bool) (slc (srn_mat nl_i64) slw_nil))))))))) (.plain _ nll) rfl rfl rfl, trivial⟩ ?_
    rcases bft (x12) with hc13 | hc13
    ·replace h := bif_t hc13 h
     refine wft hc13 (by kernel_rfl) ?_
     refine wx tbk [] trivial ?_
     refine wmr (mto (n := 19) (l' := [(4, I y3)]) (own' := [(z65_1 p1 p2 p3 p4 p5), (.own 1 [[I p6]]), (.own 1 [[I p7]]), (.own 1 [[(.own 5 1 (0) (p8))]]), (.own 1 [[(.own 6 1 (0) (p9))]]), (z65_2 p10), (z65_3 p11), (z65_4 p12), (z65_5 p13)]) [(4, I y3)] [0, 1, 2, 3, 4, 5, 6, 7, 8] [(z65_1 p1 p2 p3 p4 p5), (.own 1 [[I p6]]), (.own 1 [[I p7]]), (.own 1 [[(.own 5 1 (0) (p8))]]), (.own 1 [[(.own 6 1 (0) (p9))]]), (z65_2 p10), (z65_3 p11), (z65_4 p12), (z65_5 p13)] hφ0 (pc rwl pn) (qc (spb (lc (.rn (.plain _ (nld nl_i64 _))) (lc rwl (lc rwl (lc rwl (lc (.rn (.plain _ (nld nl_GHour _))) ln)))))) (qc (spb (lc rwl ln)) (qc (spb (lc rwl ln)) (qc (spb (lc (.rn (rnq_own rfl)) ln)) (qc (spb (lc (.rn (rnq_own rfl)) ln)) (qc (spw_orow rfl) (qc (spw_orow rfl) (qc (spw_mat nl_bool) (qc (spw_mat nl_i64) qn)))))))))) ?_
     refine awp_ret ?_
     refine blockA_r ?_
     refine thenA_r ?_
     refine thenA_r ?_
     refine blockA_r ?_
     refine thenA_r ?_
     obtain rfl := osi h
     exact ⟨_, Mor.rfl, fin_of (vs := [I y3]) ⟨rot (by kernel_rfl), trivial⟩ rfl (NLt.of0 nll) (by kernel_rfl) (snl_cons (snl_box (nlc (NLt.of0 (nld nl_i64 _)) (nlc (NLt.of0 nll) (nlc (NLt.of0 nll) (nlc (NLt.of0 nll) (nlc (NLt.of0 (nld nl_GHour _)) nl0)))))) (snl_cons (snl_box (nlc (NLt.of0 nll) nl0)) (snl_cons (snl_box (nlc (NLt.of0 nll) nl0)) (snl_cons (snl_box (nlc (NLt.own _ _ _ _ (by decide)) nl0)) (snl_cons (snl_box (nlc (NLt.own _ _ _ _ (by decide)) nl0)) (snl_cons (snl_orow rfl) (snl_cons (snl_orow rfl) (snl_cons (snl_mat nl_bool _) (snl_cons (snl_mat nl_i64 _) snl_nil)))))))))⟩
    ·replace h := bif_f hc13 h
     refine wfn hc13 (by kernel_rfl) ?_
     refine awp_skip ?_
     refine bln ?_
     refine thn ?_
     refine wx1 tbk [] trivial ?_
     refine thn ?_
     exact arm (mto (n := 19) [(0, (.dat 1 ((p0 : List Int).map c_i64))), (1, z65_0), (7, (I ((p0.length : Int)))), (8, (I (w64 (y3 + 1))))] [0, 1, 2, 3, 4, 5, 6, 7, 8] [(z65_1 p1 p2 p3 p4 p5), (.own 1 [[I p6]]), (.own 1 [[I p7]]), (.own 1 [[(.own 5 1 (0) (p8))]]), (.own 1 [[(.own 6 1 (0) (p9))]]), (z65_2 p10), (z65_3 p11), (z65_4 p12), (z65_5 p13)] hφ0 (pc (.rn (.plain _ (nld nl_i64 _))) (pc (.rn (rn_fn rn0 (rnc (rqr rfl) (rnc (rqr rfl) (rnc (rqr rfl) (rnc (rqr rfl) (rnc (rqr rfl) rn0))))))) (pc rwl (pc rwl pn)))) (qc (spb (lc (.rn (.plain _ (nld nl_i64 _))) (lc rwl (lc rwl (lc rwl (lc (.rn (.plain _ (nld nl_GHour _))) ln)))))) (qc (spb (lc rwl ln)) (qc (spb (lc rwl ln)) (qc (spb (lc (.rn (rnq_own rfl)) ln)) (qc (spb (lc (.rn (rnq_own rfl)) ln)) (qc (spw_orow rfl) (qc (spw_orow rfl) (qc (spw_mat nl_bool) (qc (spw_mat nl_i64) qn)))))))))) (ih (w64 (y3 + 1)) h)
   ·replace h := bif_f hc6 h
    refine wfn hc6 (by kernel_rfl) ?_
    refine awp_exit ?_
    refine thenA_x ?_
    refine thenA_x ?_
    refine blockA_e rfl ?_
    refine thn ?_
    exact ⟨(), h, (mto (n := 19) [] [0, 1, 2, 3, 4, 5, 6, 7, 8] [(z65_1 p1 p2 p3 p4 p5), (.own 1 [[I p6]]), (.own 1 [[I p7]]), (.own 1 [[(.own 5 1 (0) (p8))]]), (.own 1 [[(.own 6 1 (0) (p9))]]), (z65_2 p10), (z65_3 p11), (z65_4 p12), (z65_5 p13)] hφ0 pn (qc (spb (lc (.rn (.plain _ (nld nl_i64 _))) (lc rwl (lc rwl (lc rwl (lc (.rn (.plain _ (nld nl_GHour _))) ln)))))) (qc (spb (lc rwl ln)) (qc (spb (lc rwl ln)) (qc (spb (lc (.rn (rnq_own rfl)) ln)) (qc (spb (lc (.rn (rnq_own rfl)) ln)) (qc (spw_orow rfl) (qc (spw_orow rfl) (qc (spw_mat nl_bool) (qc (spw_mat nl_i64) qn))))))))))⟩

def plant_DispatchX_loop1 (N : Nat) (p0 : GJob) (y13 : (List (Nat × Nat))) (y14 : (List (Nat × Nat))) (y15 : (List (List Int))) (y16 : (List (List Bool))) (k27 : (List Int) → Option ((List Int) × Int × (List (List Int)) × Int)) : Nat → (List Int) → Int → Int → Option ((List Int) × Int × (List (List Int)) × Int)
  | 0, _, _, _ => none
  | n43 + 1, y37, y38, y39 =>
    bif (decide (y38 < (p0.Hours.length : Int))) then
     (plant_levelsX N p0).bind fun x46 =>
     (slices_IndexFunc_int_intX_3 N x46 p0.Levels p0.Ramp p0.Start p0.First p0.Hours y38 y39 ((((w64 ((p0.Hours.length : Int) + 1)).toNat : Nat) : Int).toNat) ((w64 ((p0.Hours.length : Int) + 1)).toNat) y14 y13 y16 y15).bind fun x48 =>
     chk (decide ((y37.length + ([x48]).length) * 8 ≤ 140737488355328)) <|
     plant_DispatchX_loop1 N p0 y13 y14 y15 y16 k27 n43 (y37 ++ ([x48])) (w64 (y38 + 1)) x48
    else
     k27 (y37)
def plant_DispatchX_loop2 (N : Nat) (p0 : GJob) (k17 : (List (Nat × Nat)) × (List (Nat × Nat)) × (List (List Int)) × (List (List Bool)) → Option ((List Int) × Int × (List (List Int)) × Int)) : Nat → Int → (List (Nat × Nat)) → (List (Nat × Nat)) → (List (List Int)) → (List (List Bool)) → Option ((List Int) × Int × (List (List Int)) × Int)
  | 0, _, _, _, _, _ => none
  | n60 + 1, y50, y51, y52, y53, y54 =>
    bif (decide (y50 ≥ 0)) then
     (plant_Dispatch_1X_1 N y50 p0.Levels p0.Ramp p0.Start p0.First p0.Hours ((w64 ((p0.Hours.length : Int) + 1)).toNat) ((((w64 ((p0.Hours.length : Int) + 1)).toNat : Nat) : Int).toNat) y51 y52 y53 y54).bind fun x63 =>
     plant_DispatchX_loop2 N p0 k17 n60 (w64 (y50 - 1)) (y51.set y50.toNat (y53.length, (p0.Levels.length : Int).toNat)) (y52.set y50.toNat (y54.length, (p0.Levels.length : Int).toNat)) x63.1 x63.2
    else
     k17 (y51, y52, y53, y54)
def plant_DispatchX (N : Nat) (p0 : GJob) : Option ((List Int) × Int × (List (List Int)) × Int) :=
  (plant_Job_validX N p0).bind fun x9 =>
  bif (!x9) then
   some ([], 0, [], 1)
  else
   chk (decide (0 ≤ w64 ((p0.Hours.length : Int) + 1)) && decide (24 * (w64 ((p0.Hours.length : Int) + 1)) ≤ 281474976710656) && decide (w64 ((p0.Hours.length : Int) + 1) ≤ 9223372036854775807)) <|
   chk (decide (0 ≤ (((w64 ((p0.Hours.length : Int) + 1)).toNat : Nat) : Int)) && decide (24 * (((w64 ((p0.Hours.length : Int) + 1)).toNat : Nat) : Int) ≤ 281474976710656) && decide ((((w64 ((p0.Hours.length : Int) + 1)).toNat : Nat) : Int) ≤ 9223372036854775807)) <|
   joinK (fun ⟨y13, y14, y15, y16⟩ =>
     chk (decide (0 ≤ 0) && decide ((0 : Int).toNat < (((w64 ((p0.Hours.length : Int) + 1)).toNat : Nat) : Int).toNat)) <|
     (y14[(0 : Int).toNat]?).bind fun x19 =>
     chk (!(y16.getD x19.1 []).isEmpty) <|
     chk (decide (0 ≤ p0.First) && decide (p0.First.toNat < x19.2)) <|
     (getM y16 x19.1 p0.First.toNat).bind fun x23 =>
     bif (!x23) then
      some ([], 0, [], 7)
     else
      joinK (fun y26 =>
        chk (decide (0 ≤ 0) && decide ((0 : Int).toNat < (w64 ((p0.Hours.length : Int) + 1)).toNat)) <|
        (y13[(0 : Int).toNat]?).bind fun x29 =>
        chk (!(y15.getD x29.1 []).isEmpty) <|
        chk (decide (0 ≤ p0.First) && decide (p0.First.toNat < x29.2)) <|
        (getM y15 x29.1 p0.First.toNat).bind fun x33 =>
        chk (y13.all fun x => decide (x.2 ≤ (y15.getD x.1 []).length)) <|
        chk (decide ((w64 ((p0.Hours.length : Int) + 1)).toNat ≤ ((y13).map fun x => (y15.getD x.1 []).take x.2).length)) <|
        some (y26, x33, ((y13).map fun x => (y15.getD x.1 []).take x.2).take ((w64 ((p0.Hours.length : Int) + 1)).toNat), 0)) fun k27 : (List Int) → Option ((List Int) × Int × (List (List Int)) × Int) =>
      plant_DispatchX_loop1 N p0 y13 y14 y15 y16 k27 N ([]) 0 p0.First) fun k17 : (List (Nat × Nat)) × (List (Nat × Nat)) × (List (List Int)) × (List (List Bool)) → Option ((List Int) × Int × (List (List Int)) × Int) =>
   plant_DispatchX_loop2 N p0 k17 N (p0.Hours.length : Int) (List.replicate (w64 ((p0.Hours.length : Int) + 1)).toNat (0, 0)) (List.replicate (((w64 ((p0.Hours.length : Int) + 1)).toNat : Nat) : Int).toNat (0, 0)) ([] : List (List Int)) ([] : List (List Bool))
def z50_0 (p0 : GJob) : AV := .dat 2 ((p0.Hours : List GHour).map c_GHour)
def z50_2 (p0 : GJob) : AV := .agg [(.dat 1 ((p0.Levels : List Int).map c_i64)), (I (p0.Ramp)), (I (p0.Start)), (I (p0.First)), (z50_0 p0)]
def z50_73 : AV := .dat 1 ((([]) : List (List Int)).map c_Li64)
def z50_3 (p0 : GJob) : Slot := .own 1 ((List.replicate (w64 ((p0.Hours.length : Int) + 1)).toNat (0, 0) : List (Nat × Nat)).map (c_mr 3 1))
def z50_4 : Slot := .mat 1 (matA c_i64 (([] : List (List Int)) : List (List Int)))
def z50_6 (p0 : GJob) : Slot := .own 1 ((List.replicate (((w64 ((p0.Hours.length : Int) + 1)).toNat : Nat) : Int).toNat (0, 0) : List (Nat × Nat)).map (c_mr 5 1))
def z50_7 : Slot := .mat 1 (matA c_bool (([] : List (List Bool)) : List (List Bool)))
def z50_9 : AV := .fn (.func 69) [] [(.ref 0 5 (0) 0), (.ref 1 1 (0) 0), (.ref 6 1 (0) 0)]
def z50_1 (p0 : GJob) : Slot := .own 5 [[(.dat 1 ((p0.Levels : List Int).map c_i64)), (I (p0.Ramp)), (I (p0.Start)), (I (p0.First)), (z50_0 p0)]]
def z50_11 (p0 : GJob) : Slot := .own 1 [[(.own 3 1 (0) ((w64 ((p0.Hours.length : Int) + 1)).toNat))]]
def z50_8 (p0 : GJob) : Slot := .own 1 [[(.own 4 1 (0) ((((w64 ((p0.Hours.length : Int) + 1)).toNat : Nat) : Int).toNat))]]
def z50_88 (y13 : (List (Nat × Nat))) : Slot := .own 1 ((y13 : List (Nat × Nat)).map (c_mr 5 1))
def z50_89 (y14 : (List (Nat × Nat))) : Slot := .own 1 ((y14 : List (Nat × Nat)).map (c_mr 6 1))
def z50_90 (y15 : (List (List Int))) : Slot := .mat 1 (matA c_i64 (y15 : List (List Int)))
def z50_91 (y16 : (List (List Bool))) : Slot := .mat 1 (matA c_bool (y16 : List (List Bool)))
def z50_99 (y13 : (List (Nat × Nat))) : Slot := .own 1 ((y13 : List (Nat × Nat)).map (c_mr 4 1))
def z50_100 (y13 : (List (Nat × Nat))) (y15 : (List (List Int))) : Slot := .own 1 (((y13).map fun x => (y15.getD x.1 []).take x.2 : List (List Int)).map c_Li64)
def z50_101 (y13 : (List (Nat × Nat))) (y15 : (List (List Int))) (p0 : GJob) : AV := .dat 1 ((((y13).map fun x => (y15.getD x.1 []).take x.2).take ((w64 ((p0.Hours.length : Int) + 1)).toNat) : List (List Int)).map c_Li64)
def z50_102 (y13 : (List (Nat × Nat))) (y15 : (List (List Int))) (p0 : GJob) : AV := .dat 1 (((((y13).map fun x => (y15.getD x.1 []).take x.2).take ((w64 ((p0.Hours.length : Int) + 1)).toNat)) : List (List Int)).map c_Li64)
def z50_45 (p0 : GJob) : Slot := .own 1 [[(.own 5 1 (0) ((w64 ((p0.Hours.length : Int) + 1)).toNat))]]
def z50_44 (p0 : GJob) : Slot := .own 1 [[(.own 6 1 (0) ((((w64 ((p0.Hours.length : Int) + 1)).toNat : Nat) : Int).toNat))]]
def z50_95 (y13 : (List (Nat × Nat))) : Slot := .own 1 ((y13 : List (Nat × Nat)).map (c_mr 7 1))
def z50_94 (y14 : (List (Nat × Nat))) : Slot := .own 1 ((y14 : List (Nat × Nat)).map (c_mr 8 1))
def z50_43 : AV := .fn (.func 73) [] [(.ref 0 5 (0) 0), (.ref 9 1 (0) 0), (.ref 4 1 (0) 0), (.ref 3 1 (0) 0), (.ref 2 1 (0) 0)]
def z50_48 (p0 : GJob) : Slot := .own 1 [[(.own 6 1 (0) (((((w64 ((p0.Hours.length : Int) + 1)).toNat : Nat) : Int).toNat)))]]
def z50_49 (p0 : GJob) : Slot := .own 1 [[(.own 5 1 (0) (((w64 ((p0.Hours.length : Int) + 1)).toNat)))]]
def z50_104 (y37 : (List Int)) (x48 : Int) : AV := .acc 10 3 1 ((y37 ++ ([x48]) : List Int).map c_i64)
def z50_10 : AV := .fn (.func 69) [] [(.ref 0 5 (0) 0), (.ref 1 1 (0) 0), (.ref 2 1 (0) 0)]
def z50_27 (p0 : GJob) : Slot := .own 1 (((List.replicate (w64 ((p0.Hours.length : Int) + 1)).toNat (0, 0)) : List (Nat × Nat)).map (c_mr 5 1))
def z50_28 (p0 : GJob) : Slot := .own 1 (((List.replicate (((w64 ((p0.Hours.length : Int) + 1)).toNat : Nat) : Int).toNat (0, 0)) : List (Nat × Nat)).map (c_mr 6 1))
def z50_5 (p0 : GJob) : Slot := .own 1 [[(.own 2 1 (0) ((w64 ((p0.Hours.length : Int) + 1)).toNat))]]
def z50_108 (y51 : (List (Nat × Nat))) : Slot := .own 1 ((y51 : List (Nat × Nat)).map (c_mr 5 1))
def z50_109 (y52 : (List (Nat × Nat))) : Slot := .own 1 ((y52 : List (Nat × Nat)).map (c_mr 6 1))
def z50_110 (y53 : (List (List Int))) : Slot := .mat 1 (matA c_i64 (y53 : List (List Int)))
def z50_111 (y54 : (List (List Bool))) : Slot := .mat 1 (matA c_bool (y54 : List (List Bool)))
def z50_14 (p0 : GJob) : Slot := .own 1 [[(.own 3 1 (0) (((w64 ((p0.Hours.length : Int) + 1)).toNat)))]]
def z50_15 (p0 : GJob) : Slot := .own 1 [[(.own 4 1 (0) (((((w64 ((p0.Hours.length : Int) + 1)).toNat : Nat) : Int).toNat)))]]
def z50_112 (y51 : (List (Nat × Nat))) (y50 : Int) (y53 : (List (List Int))) (p0 : GJob) : Slot := .own 1 ((y51.set y50.toNat (y53.length, (p0.Levels.length : Int).toNat) : List (Nat × Nat)).map (c_mr 5 1))
def z50_113 (y52 : (List (Nat × Nat))) (y50 : Int) (y54 : (List (List Bool))) (p0 : GJob) : Slot := .own 1 ((y52.set y50.toNat (y54.length, (p0.Levels.length : Int).toNat) : List (Nat × Nat)).map (c_mr 6 1))
def z50_116 (x63 : ((List (List Int)) × (List (List Bool)))) : Slot := .mat 1 (matA c_i64 (x63.1 : List (List Int)))
def z50_117 (x63 : ((List (List Int)) × (List (List Bool)))) : Slot := .mat 1 (matA c_bool (x63.2 : List (List Bool)))
set_option maxRecDepth 100000 in
set_option maxHeartbeats 4000000 in
theorem plant_DispatchX_ok (N : Nat) (p0 : GJob) (r : ((List Int) × Int × (List (List Int)) × Int)) (h : plant_DispatchX N p0 = some r) : Spec Try.prog 21 [(.agg (c_GJob p0))] [] (.tup [(.dat 1 ((r.1 : List Int).map c_i64)), (I (r.2.1)), (.dat 1 ((r.2.2.1 : List (List Int)).map c_Li64)), (I (r.2.2.2))]) [] := by
  refine spec_of_awp Try.func21 rfl 0 (nle rfl) (fun X φ0 w0 hφ0 => ?_)
  unfold plant_DispatchX at h
  refine awp_finm ?_
  refine wx tbk [] trivial ?_
  refine wsq ?_
  obtain ⟨x9, hf8, h⟩ := bno h
  refine wx tbk [(1, rp [fu 68, (.tmp 12, (z50_2 p0))] (B x9))] ⟨apc (first := []) (cap := []) (vs := [(z50_2 p0)]) rfl enter68 (plant_Job_validX_ok N p0 _ hf8) rfl rfl (nlc (NLt.agg _ (nlc (nld nl_i64 _) (nlc nll (nlc nll (nlc nll (nlc (nld nl_GHour _) nl0)))))) nl0) nll rfl, trivial⟩ ?_
  rcases bft ((!x9)) with hc10 | hc10
  ·replace h := bif_t hc10 h
   refine wft hc10 (by kernel_rfl) ?_
   refine wx tbk [] trivial ?_
   refine wmr (mto (n := 69) (l' := [(2, (.dat 1 (([] : List Int).map c_i64))), (3, I 0), (4, .ref 0 1 0 0), (5, I 1)]) (own' := [(.own 1 [[z50_73]])]) [(2, nilS), (3, I 0), (4, .ref 1 1 0 0), (5, I 1)] [1] [(.own 1 [[nilS]])] hφ0 (pc (.nil _) (pc rwl (pc (.rn (rqr rfl)) (pc rwl pn)))) (qc (spb (lc (.nil _) ln)) qn)) ?_
   refine awp_ret ?_
   refine thenA_r ?_
   obtain rfl := osi h
   exact ⟨_, Mor.rfl, ⟨⟨[(.dat 1 (([] : List Int).map c_i64)), I 0, (.dat 1 (([] : List (List Int)).map c_Li64)), I 1], ⟨rot (by kernel_rfl), rot (by kernel_rfl), resOK_cell (n := 0) (m := 1) (j := 0) (i := 0) (xs := [[(.dat 1 (([] : List (List Int)).map c_Li64))]]) (by kernel_rfl) (by kernel_rfl) ti42 (by decide) rfl (nle rfl) rfl, rot (by kernel_rfl), trivial⟩, rfl⟩, (NLt.tup _ (nlc (nld nl_i64 _) (nlc nll (nlc (nld nl_Li64 _) (nlc nll nl0))))), Nat.le_refl _, fun n hn => absurd hn (Nat.not_lt_zero n)⟩⟩
  ·replace h := bif_f hc10 h
   refine wfn hc10 (by kernel_rfl) ?_
   refine awp_skip ?_
   refine thn ?_
   obtain ⟨hm11, h⟩ := cko h
   refine wx tbk [(2, rp [(.tmp 16, (z50_0 p0))] (I ((p0.Hours.length : Int)))), (4, ⟨[(.tmp 18, (I (w64 ((p0.Hours.length : Int) + 1)))), (.tmp 18, (I (w64 ((p0.Hours.length : Int) + 1))))], [(2, .unused), (3, .unused)], (.own 2 1 (0) ((w64 ((p0.Hours.length : Int) + 1)).toNat)), [(2, (z50_3 p0)), (3, z50_4)], false⟩)] ⟨alm (c := c_GHour) (l := p0.Hours) (aln rfl Try.underlying45 rfl), astep_mat0 1 rfl (astep_make rfl Try.underlying42 te37 tz37 rfl (and3a hm11) rfl (and3b hm11) (and3c' hm11) rfl), trivial⟩ ?_
   obtain ⟨hm12, h⟩ := cko h
   refine wx tbk [(1, rp [(.tmp 20, (.own 2 1 (0) ((w64 ((p0.Hours.length : Int) + 1)).toNat)))] (I ((((w64 ((p0.Hours.length : Int) + 1)).toNat : Nat) : Int)))), (2, ⟨[(.tmp 21, (I ((((w64 ((p0.Hours.length : Int) + 1)).toNat : Nat) : Int)))), (.tmp 21, (I ((((w64 ((p0.Hours.length : Int) + 1)).toNat : Nat) : Int))))], [(4, .unused), (5, .unused)], (.own 4 1 (0) ((((w64 ((p0.Hours.length : Int) + 1)).toNat : Nat) : Int).toNat)), [(4, (z50_6 p0)), (5, z50_7)], false⟩)] ⟨aln rfl Try.underlying42 rfl, astep_mat0 1 rfl (astep_make rfl Try.underlying120 te121 tz121 rfl (and3a hm12) rfl (and3b hm12) (and3c' hm12) rfl), trivial⟩ ?_
   refine wx tbk [(0, rp [(.tmp 1, .ref 0 5 0 0), (.tmp 4, .ref 1 1 0 0), (.tmp 6, .ref 6 1 0 0)] z50_9)] ⟨astep_func (fs := []) (cs := [.ref 0 5 0 0, .ref 1 1 0 0, .ref 6 1 0 0]) rfl rfl rfl rfl, trivial⟩ ?_
   obtain ⟨k17, hk_k17, h⟩ := jko h
   refine wjn (τ := (List (Nat × Nat)) × (List (Nat × Nat)) × (List (List Int)) × (List (List Bool))) (fun t => k17 t = some r) (fun ⟨y13, y14, y15, y16⟩ => ⟨mk 69 [(1, .ref 0 5 0 0), (2, nilS), (4, .ref 1 1 0 0), (6, .ref 2 1 0 0)], [(z50_1 p0), (z50_11 p0), (z50_8 p0), (z50_88 y13), (z50_89 y14), (z50_90 y15), (z50_91 y16)]⟩) (fun t h => ?_) ?_
   ·subst hk_k17
    obtain ⟨y13, y14, y15, y16⟩ := t
    refine wsq ?_
    obtain ⟨hi18, h⟩ := cko h
    obtain ⟨hi18a, hi18b⟩ := and_out hi18
    obtain ⟨x19, hg20, h⟩ := bno h
    obtain ⟨hz22, h⟩ := cko h
    obtain ⟨hi21, h⟩ := cko h
    obtain ⟨hi21a, hi21b⟩ := and_out hi21
    obtain ⟨x23, hg24, h⟩ := bno h
    refine wxd tbk [(1, rb [(.tmp 34, (.own 4 1 (0) ((((w64 ((p0.Hours.length : Int) + 1)).toNat : Nat) : Int).toNat))), ci 0] [(4, (z50_89 y14))] (.ref 4 1 ((0 : Int).toNat) 0)), (2, rb [(.tmp 35, (.ref 4 1 ((0 : Int).toNat) 0))] [(4, (z50_89 y14))] (.row 6 x19.1 1 (0) (x19.2))), (5, rb [(.tmp 36, (.row 6 x19.1 1 (0) (x19.2))), (.tmp 38, I p0.First)] [(6, (z50_91 y16))] (.rowp 6 x19.1 1 (p0.First.toNat) 0)), (6, rb [(.tmp 39, (.rowp 6 x19.1 1 (p0.First.toNat) 0))] [(6, (z50_91 y16))] (B x23))] ⟨aio rfl Try.underlying120 ti121 (odt hi18a) (odt hi18b) (Nat.zero_add _), ald rfl ti121 (by decide) (mgt (c_mr 6 1) hg20) (nle rfl) rfl, astep_idxrm rfl Try.underlying121 ti4 (odt hi21a) (odt hi21b) hz22 (Nat.zero_add _), astep_loadr rfl ti4 (by decide) hg24 (nle rfl) rfl, trivial⟩ ?_
    rcases bft ((!x23)) with hc25 | hc25
    ·replace h := bif_t hc25 h
     refine wft hc25 (by kernel_rfl) ?_
     refine wx tbk [] trivial ?_
     refine wmr (mto (n := 69) (l' := [(2, (.dat 1 (([] : List Int).map c_i64))), (3, I 0), (4, .ref 0 1 0 0), (5, I 7)]) (own' := [(.own 1 [[z50_73]])]) [(2, nilS), (3, I 0), (4, .ref 1 1 0 0), (5, I 7)] [1] [(.own 1 [[nilS]])] hφ0 (pc (.nil _) (pc rwl (pc (.rn (rqr rfl)) (pc rwl pn)))) (qc (spb (lc (.nil _) ln)) qn)) ?_
     refine awp_ret ?_
     refine thenA_r ?_
     obtain rfl := osi h
     exact ⟨_, Mor.rfl, ⟨⟨[(.dat 1 (([] : List Int).map c_i64)), I 0, (.dat 1 (([] : List (List Int)).map c_Li64)), I 7], ⟨rot (by kernel_rfl), rot (by kernel_rfl), resOK_cell (n := 0) (m := 1) (j := 0) (i := 0) (xs := [[(.dat 1 (([] : List (List Int)).map c_Li64))]]) (by kernel_rfl) (by kernel_rfl) ti42 (by decide) rfl (nle rfl) rfl, rot (by kernel_rfl), trivial⟩, rfl⟩, (NLt.tup _ (nlc (nld nl_i64 _) (nlc nll (nlc (nld nl_Li64 _) (nlc nll nl0))))), Nat.le_refl _, fun n hn => absurd hn (Nat.not_lt_zero n)⟩⟩
    ·replace h := bif_f hc25 h
     refine wfn hc25 (by kernel_rfl) ?_
     refine awp_skip ?_
     refine thn ?_
     refine wx tbk [] trivial ?_
     obtain ⟨k27, hk_k27, h⟩ := jko h
     refine wjn (τ := (List Int)) (fun t => k27 t = some r) (fun y26 => ⟨mk 69 [(1, .ref 0 5 0 0), (2, (.acc 1 3 1 ((y26 : List Int).map c_i64))), (4, .ref 2 1 0 0)], [(z50_1 p0), .tok, (z50_11 p0), (z50_99 y13), (z50_90 y15)]⟩) (fun y26 h => ?_) ?_
     ·subst hk_k27
      obtain ⟨hi28, h⟩ := cko h
      obtain ⟨hi28a, hi28b⟩ := and_out hi28
      obtain ⟨x29, hg30, h⟩ := bno h
      obtain ⟨hz32, h⟩ := cko h
      obtain ⟨hi31, h⟩ := cko h
      obtain ⟨hi31a, hi31b⟩ := and_out hi31
      obtain ⟨x33, hg34, h⟩ := bno h
      refine wxd tbk [(2, rb [(.tmp 61, (.own 3 1 (0) ((w64 ((p0.Hours.length : Int) + 1)).toNat))), ci 0] [(3, (z50_99 y13))] (.ref 3 1 ((0 : Int).toNat) 0)), (3, rb [(.tmp 62, (.ref 3 1 ((0 : Int).toNat) 0))] [(3, (z50_99 y13))] (.row 4 x29.1 1 (0) (x29.2))), (6, rb [(.tmp 63, (.row 4 x29.1 1 (0) (x29.2))), (.tmp 65, I p0.First)] [(4, (z50_90 y15))] (.rowp 4 x29.1 1 (p0.First.toNat) 0)), (7, rb [(.tmp 66, (.rowp 4 x29.1 1 (p0.First.toNat) 0))] [(4, (z50_90 y15))] (I x33))] ⟨aio rfl Try.underlying42 ti37 (odt hi28a) (odt hi28b) (Nat.zero_add _), ald rfl ti37 (by decide) (mgt (c_mr 4 1) hg30) (nle rfl) rfl, astep_idxrm rfl Try.underlying37 ti3 (odt hi31a) (odt hi31b) hz32 (Nat.zero_add _), astep_loadr rfl ti3 (by decide) hg34 (nle rfl) rfl, trivial⟩ ?_
      obtain ⟨hz35, h⟩ := cko h
      refine wmr (mor_fzM (q := 3) (a := 4) (m := 1) (c := c_i64) (cl := c_Li64) (E := y13) (R := y15) (own' := [(z50_1 p0), .tok, (z50_11 p0), (z50_100 y13 y15), .dead]) rfl (by kernel_rfl) (by kernel_rfl) (by kernel_rfl) hz35 (fun _ => rfl) (by kernel_rfl)) ?_
      obtain ⟨hz36, h⟩ := cko h
      refine wmr (mor_fzb (n := 69) (mp := 1) (m := 1) (xs := ((y13).map fun x => (y15.getD x.1 []).take x.2 : List (List Int)).map c_Li64) (c := [(.own 3 1 (0) ((w64 ((p0.Hours.length : Int) + 1)).toNat))]) (l' := [(2, (.acc 1 3 1 ((y26 : List Int).map c_i64))), (3, I x33), (4, .ref 2 1 0 0), (5, I 0)]) (c' := [(z50_101 y13 y15 p0)]) (own' := [(z50_1 p0), .tok, (.own 1 [[(z50_101 y13 y15 p0)]]), .dead, .dead]) 3 2 [(2, (.acc 1 3 1 ((y26 : List Int).map c_i64))), (3, I x33), (4, .ref 2 1 0 0), (5, I 0)] (by kernel_rfl) (by kernel_rfl) (by kernel_rfl) (by kernel_rfl) ⟨(fz_take hz36), trivial⟩ ⟨rfl, (.same _), rfl, (.same _), rfl, (.same _), rfl, (.same _), trivial⟩ (by kernel_rfl)) ?_
      refine wmr (mto (n := 69) (l' := [(2, (.dat 1 ((y26 : List Int).map c_i64))), (3, I x33), (4, .ref 0 1 0 0), (5, I 0)]) (own' := [(.own 1 [[(z50_102 y13 y15 p0)]])]) [(2, (.acc 1 3 1 ((y26 : List Int).map c_i64))), (3, I x33), (4, .ref 2 1 0 0), (5, I 0)] [2] [(.own 1 [[(z50_101 y13 y15 p0)]])] hφ0 (pc (.dat _ _ _ _ (nl_rows nl_i64 _)) (pc rwl (pc (.rn (rqr rfl)) (pc rwl pn)))) (qc (spb (lc (.rn (.plain _ (nld nl_Li64 _))) ln)) qn)) ?_
      refine awp_ret ?_
      obtain rfl := osi h
      exact ⟨_, Mor.rfl, ⟨⟨[(.dat 1 ((y26 : List Int).map c_i64)), I x33, (z50_102 y13 y15 p0), I 0], ⟨rot (by kernel_rfl), rot (by kernel_rfl), resOK_cell (n := 0) (m := 1) (j := 0) (i := 0) (xs := [[(z50_102 y13 y15 p0)]]) (by kernel_rfl) (by kernel_rfl) ti42 (by decide) rfl (nle rfl) rfl, rot (by kernel_rfl), trivial⟩, rfl⟩, (NLt.tup _ (nlc (nld nl_i64 _) (nlc nll (nlc (nld nl_Li64 _) (nlc nll nl0))))), Nat.le_refl _, fun n hn => absurd hn (Nat.not_lt_zero n)⟩⟩
     ·skip
      refine wx tbk [(2, rp [(.tmp 45, (z50_0 p0))] (I ((p0.Hours.length : Int))))] ⟨alm (c := c_GHour) (l := p0.Hours) (aln rfl Try.underlying45 rfl), trivial⟩ ?_
      refine awp_block ?_
      refine wmr (Mor.trans (mor_nil 8 3 1 2 (by kernel_rfl) (by kernel_rfl)) (mto (n := 69) (l' := [(1, .ref 0 5 0 0), (2, (.acc 1 3 1 ((([]) : List Int).map c_i64))), (4, .ref 2 1 0 0), (6, .ref 3 1 0 0), (9, .ref 4 1 0 0), (46, (I ((p0.Hours.length : Int)))), (47, I 0)]) (own' := [(z50_1 p0), .tok, (z50_45 p0), (z50_44 p0), (.own 1 [[I p0.First]]), (z50_95 y13), (z50_94 y14), (z50_90 y15), (z50_91 y16)]) [(1, .ref 0 5 0 0), (2, (.acc 8 3 1 (([] : List Int).map c_i64))), (4, .ref 1 1 0 0), (6, .ref 2 1 0 0), (9, .ref 7 1 0 0), (46, (I ((p0.Hours.length : Int)))), (47, I 0)] [0, 8, 1, 2, 7, 3, 4, 5, 6] [(z50_1 p0), .tok, (z50_11 p0), (z50_8 p0), (.own 1 [[I p0.First]]), (z50_88 y13), (z50_89 y14), (z50_90 y15), (z50_91 y16)] hφ0 (pc (.rn (rqr rfl)) (pc (.rn (rnq_acc rfl (nl_rows nl_i64 _))) (pc (.rn (rqr rfl)) (pc (.rn (rqr rfl)) (pc (.rn (rqr rfl)) (pc rwl (pc rwl pn))))))) (qc (spb (lc (.rn (.plain _ (nld nl_i64 _))) (lc rwl (lc rwl (lc rwl (lc (.rn (.plain _ (nld nl_GHour _))) ln)))))) (qc .tok (qc (spb (lc (.rn (rnq_own rfl)) ln)) (qc (spb (lc (.rn (rnq_own rfl)) ln)) (qc (spb (lc rwl ln)) (qc (spw_orow rfl) (qc (spw_orow rfl) (qc (spw_mat nl_i64) (qc (spw_mat nl_bool) qn))))))))))) ?_
      refine awp_ind (τ := (List Int) × Int × Int) (fun n t => plant_DispatchX_loop1 N p0 y13 y14 y15 y16 k27 n t.1 t.2.1 t.2.2 = some r) (fun ⟨y37, y38, y39⟩ => ⟨mk 69 [(1, .ref 0 5 0 0), (2, (.acc 1 3 1 ((y37 : List Int).map c_i64))), (4, .ref 2 1 0 0), (6, .ref 3 1 0 0), (9, .ref 4 1 0 0), (46, (I ((p0.Hours.length : Int)))), (47, I y38)], [(z50_1 p0), .tok, (z50_45 p0), (z50_44 p0), (.own 1 [[I y39]]), (z50_95 y13), (z50_94 y14), (z50_90 y15), (z50_91 y16)]⟩) (fun t h => by rw [plant_DispatchX_loop1] at h; cases h) (fun n43 ih t h => ?_) N ([], 0, p0.First) h
      obtain ⟨y37, y38, y39⟩ := t
      rw [plant_DispatchX_loop1] at h
      skip
      refine wx tbk [] trivial ?_
      refine wsq ?_
      rcases bft ((decide (y38 < (p0.Hours.length : Int)))) with hc44 | hc44
      ·replace h := bif_t hc44 h
       refine wft hc44 (by kernel_rfl) ?_
       refine awp_skip ?_
       refine thn ?_
       refine wsq ?_
       refine awp_block ?_
       refine wx tbk [] trivial ?_
       obtain ⟨x46, hf45, h⟩ := bno h
       obtain ⟨x48, hf47, h⟩ := bno h
       refine wx tbk [(1, rp [fu 72, (.tmp 50, (z50_2 p0))] (.dat 1 ((x46 : List Int).map c_i64))), (2, rp [(.tmp 1, .ref 0 5 0 0), (.tmp 10, .ref 9 1 0 0), (.tmp 9, .ref 4 1 0 0), (.tmp 6, .ref 3 1 0 0), (.tmp 4, .ref 2 1 0 0)] z50_43), (3, ⟨[fu 71, (.tmp 51, (.dat 1 ((x46 : List Int).map c_i64))), (.tmp 52, z50_43)], [(0, (z50_1 p0)), (9, .own 1 [[I y38]]), (4, .own 1 [[I y39]]), (3, (z50_44 p0)), (2, (z50_45 p0)), (6, (z50_94 y14)), (5, (z50_95 y13)), (8, (z50_91 y16)), (7, (z50_90 y15))], I x48, [(0, (z50_1 p0)), (9, .own 1 [[I y38]]), (4, .own 1 [[I y39]]), (3, (z50_48 p0)), (2, (z50_49 p0)), (6, (z50_94 y14)), (5, (z50_95 y13)), (8, (z50_91 y16)), (7, (z50_90 y15))], false⟩)] ⟨apc (first := []) (cap := []) (vs := [(z50_2 p0)]) rfl enter72 (plant_levelsX_ok N p0 _ hf45) rfl rfl (nlc (NLt.agg _ (nlc (nld nl_i64 _) (nlc nll (nlc nll (nlc nll (nlc (nld nl_GHour _) nl0)))))) nl0) (nld nl_i64 _) rfl, astep_func (fs := []) (cs := [.ref 0 5 0 0, .ref 9 1 0 0, .ref 4 1 0 0, .ref 3 1 0 0, .ref 2 1 0 0]) rfl rfl rfl rfl, astep_callq (first := []) (cap := []) (vs := [(.dat 1 ((x46 : List Int).map c_i64)), z50_43]) (σr := [(z50_1 p0), (.own 1 [[I y38]]), (.own 1 [[I y39]]), (z50_44 p0), (z50_45 p0), (z50_94 y14), (z50_95 y13), (z50_91 y16), (z50_90 y15)]) (σr' := [(z50_1 p0), (.own 1 [[I y38]]), (.own 1 [[I y39]]), (z50_48 p0), (z50_49 p0), (z50_94 y14), (z50_95 y13), (z50_91 y16), (z50_90 y15)]) (res' := (I x48)) [0, 9, 4, 3, 2, 6, 5, 8, 7] rfl enter71 (slices_IndexFunc_int_intX_3_ok N x46 p0.Levels p0.Ramp p0.Start p0.First p0.Hours y38 y39 ((((w64 ((p0.Hours.length : Int) + 1)).toNat : Nat) : Int).toNat) ((w64 ((p0.Hours.length : Int) + 1)).toNat) y14 y13 y16 y15 _ hf47) rfl (rn_agg (rnc (.plain _ (nld nl_i64 _)) (rnc (rn_fn rn0 (rnc (rnk_ref rfl) (rnc (rnk_ref rfl) (rnc (rnk_ref rfl) (rnc (rnk_ref rfl) (rnc (rnk_ref rfl) rn0)))))) rn0))) (slc (srn_box (rnc (.plain _ (nld nl_i64 _)) (rnc (.plain _ nll) (rnc (.plain _ nll) (rnc (.plain _ nll) (rnc (.plain _ (nld nl_GHour _)) rn0)))))) (slc (srn_box (rnc (.plain _ nll) rn0)) (slc (srn_box (rnc (.plain _ nll) rn0)) (slc (srn_box (rnc (rnk_own rfl) rn0)) (slc (srn_box (rnc (rnk_own rfl) rn0)) (slc (srn_orowk rfl) (slc (srn_orowk rfl) (slc (srn_mat nl_bool) (slc (srn_mat nl_i64) slw_nil))))))))) (slc (srn_box (rnc (.plain _ (nld nl_i64 _)) (rnc (.plain _ nll) (rnc (.plain _ nll) (rnc (.plain _ nll) (rnc (.plain _ (nld nl_GHour _)) rn0)))))) (slc (srn_box (rnc (.plain _ nll) rn0)) (slc (srn_box (rnc (.plain _ nll) rn0)) (slc (srn_box (rnc (rnj_own rfl) rn0)) (slc (srn_box (rnc (rnj_own rfl) rn0)) (slc (srn_orowj rfl) (slc (srn_orowj rfl) (slc (srn_mat nl_bool) (slc (srn_mat nl_i64) slw_nil))))))))) (.plain _ nll) rfl rfl rfl, trivial⟩ ?_
       obtain ⟨ha49, h⟩ := cko h
       refine wx tbk [(2, rp [(.tmp 55, I x48)] (.dat 1 (([x48] : List Int).map c_i64))), (3, ⟨[(.tmp 54, (.acc 1 3 1 ((y37 : List Int).map c_i64))), (.tmp 56, (.dat 1 (([x48] : List Int).map c_i64)))], [(1, .tok), (10, .unused)], (z50_104 y37 x48), [(1, .dead), (10, .tok)], false⟩)] ⟨astep_bslice (vs := [I x48]) rfl Try.underlying37 ti3 tz3 rfl (by decide) rfl (by decide) (by rfl) (by rfl) (by rfl) rfl, astep_app rfl Try.underlying37 te3 (Base.acc _ _) rfl rfl (by rfl) (app_le1 c_i64 ha49) (app_le2 c_i64 ha49 (by decide)) (app_map c_i64) rfl rfl, trivial⟩ ?_
       refine wx1 tbk [] trivial ?_
       refine bln ?_
       refine thn ?_
       refine wx1 tbk [] trivial ?_
       refine thn ?_
       exact arm (mto (n := 69) [(1, .ref 0 5 0 0), (2, (z50_104 y37 x48)), (4, .ref 2 1 0 0), (6, .ref 3 1 0 0), (9, .ref 4 1 0 0), (46, (I ((p0.Hours.length : Int)))), (47, (I (w64 (y38 + 1))))] [0, 10, 2, 3, 4, 5, 6, 7, 8] [(z50_1 p0), .tok, (z50_49 p0), (z50_48 p0), (.own 1 [[I x48]]), (z50_95 y13), (z50_94 y14), (z50_90 y15), (z50_91 y16)] hφ0 (pc (.rn (rqr rfl)) (pc (.rn (rnq_acc rfl (nl_rows nl_i64 _))) (pc (.rn (rqr rfl)) (pc (.rn (rqr rfl)) (pc (.rn (rqr rfl)) (pc rwl (pc rwl pn))))))) (qc (spb (lc (.rn (.plain _ (nld nl_i64 _))) (lc rwl (lc rwl (lc rwl (lc (.rn (.plain _ (nld nl_GHour _))) ln)))))) (qc .tok (qc (spb (lc (.rn (rnq_own rfl)) ln)) (qc (spb (lc (.rn (rnq_own rfl)) ln)) (qc (spb (lc rwl ln)) (qc (spw_orow rfl) (qc (spw_orow rfl) (qc (spw_mat nl_i64) (qc (spw_mat nl_bool) qn)))))))))) (ih (y37 ++ ([x48]), w64 (y38 + 1), x48) h)
      ·replace h := bif_f hc44 h
       refine wfn hc44 (by kernel_rfl) ?_
       refine awp_exit ?_
       refine thenA_x ?_
       refine thenA_x ?_
       refine blockA_e rfl ?_
       refine thn ?_
       exact ⟨(y37), h, (mto (n := 69) [(1, .ref 0 5 0 0), (2, (.acc 1 3 1 ((y37 : List Int).map c_i64))), (4, .ref 2 1 0 0)] [0, 1, 2, 5, 7] [(z50_1 p0), .tok, (z50_45 p0), (z50_95 y13), (z50_90 y15)] hφ0 (pc (.rn (rqr rfl)) (pc (.rn (rnq_acc rfl (nl_rows nl_i64 _))) (pc (.rn (rqr rfl)) pn))) (qc (spb (lc (.rn (.plain _ (nld nl_i64 _))) (lc rwl (lc rwl (lc rwl (lc (.rn (.plain _ (nld nl_GHour _))) ln)))))) (qc .tok (qc (spb (lc (.rn (rnq_own rfl)) ln)) (qc (spw_orow rfl) (qc (spw_mat nl_i64) qn))))))⟩
   ·skip
    refine wx tbk [(2, rp [(.tmp 25, (z50_0 p0))] (I ((p0.Hours.length : Int))))] ⟨alm (c := c_GHour) (l := p0.Hours) (aln rfl Try.underlying45 rfl), trivial⟩ ?_
    refine awp_block ?_
    refine wmr (mto (n := 69) (l' := [(1, .ref 0 5 0 0), (2, nilS), (4, .ref 1 1 0 0), (6, .ref 2 1 0 0), (7, z50_10), (8, (I ((p0.Hours.length : Int))))]) (own' := [(z50_1 p0), (z50_11 p0), (z50_8 p0), (z50_27 p0), (z50_28 p0), z50_4, z50_7]) [(1, .ref 0 5 0 0), (2, nilS), (4, .ref 1 1 0 0), (6, .ref 6 1 0 0), (7, z50_9), (8, (I ((p0.Hours.length : Int))))] [0, 1, 6, 2, 4, 3, 5] [(z50_1 p0), (z50_5 p0), (z50_8 p0), (z50_3 p0), (z50_6 p0), z50_4, z50_7] hφ0 (pc (.rn (rqr rfl)) (pc rwl (pc (.rn (rqr rfl)) (pc (.rn (rqr rfl)) (pc (.rn (rn_fn rn0 (rnc (rqr rfl) (rnc (rqr rfl) (rnc (rqr rfl) rn0))))) (pc rwl pn)))))) (qc (spb (lc (.rn (.plain _ (nld nl_i64 _))) (lc rwl (lc rwl (lc rwl (lc (.rn (.plain _ (nld nl_GHour _))) ln)))))) (qc (spb (lc (.rn (rnq_own rfl)) ln)) (qc (spb (lc (.rn (rnq_own rfl)) ln)) (qc (spw_orow rfl) (qc (spw_orow rfl) (qc (spw_mat nl_i64) (qc (spw_mat nl_bool) qn)))))))) ?_
    refine awp_ind (τ := Int × (List (Nat × Nat)) × (List (Nat × Nat)) × (List (List Int)) × (List (List Bool))) (fun n t => plant_DispatchX_loop2 N p0 k17 n t.1 t.2.1 t.2.2.1 t.2.2.2.1 t.2.2.2.2 = some r) (fun ⟨y50, y51, y52, y53, y54⟩ => ⟨mk 69 [(1, .ref 0 5 0 0), (2, nilS), (4, .ref 1 1 0 0), (6, .ref 2 1 0 0), (7, z50_10), (8, I y50)], [(z50_1 p0), (z50_11 p0), (z50_8 p0), (z50_108 y51), (z50_109 y52), (z50_110 y53), (z50_111 y54)]⟩) (fun t h => by rw [plant_DispatchX_loop2] at h; cases h) (fun n60 ih t h => ?_) N ((p0.Hours.length : Int), List.replicate (w64 ((p0.Hours.length : Int) + 1)).toNat (0, 0), List.replicate (((w64 ((p0.Hours.length : Int) + 1)).toNat : Nat) : Int).toNat (0, 0), ([] : List (List Int)), ([] : List (List Bool))) h
    obtain ⟨y50, y51, y52, y53, y54⟩ := t
    rw [plant_DispatchX_loop2] at h
    skip
    refine wsq ?_
    refine wx tbk [] trivial ?_
    rcases bft ((decide (y50 ≥ 0))) with hc61 | hc61
    ·replace h := bif_t hc61 h
     refine wft hc61 (by kernel_rfl) ?_
     refine awp_skip ?_
     refine thn ?_
     refine wsq ?_
     refine awp_block ?_
     obtain ⟨x63, hf62, h⟩ := bno h
     refine wx1 tbk [(2, ⟨[(.tmp 31, z50_10), (.tmp 32, I y50)], [(0, (z50_1 p0)), (1, (z50_11 p0)), (2, (z50_8 p0)), (3, (z50_108 y51)), (4, (z50_109 y52)), (5, (z50_110 y53)), (6, (z50_111 y54))], (.tup []), [(0, (z50_1 p0)), (1, (z50_14 p0)), (2, (z50_15 p0)), (3, (z50_112 y51 y50 y53 p0)), (4, (z50_113 y52 y50 y54 p0)), (5, (z50_116 x63)), (6, (z50_117 x63))], false⟩)] ⟨astep_callq (first := []) (cap := [.ref 0 5 0 0, .ref 1 1 0 0, .ref 2 1 0 0]) (vs := [I y50]) (σr := [(z50_1 p0), (z50_11 p0), (z50_8 p0), (z50_108 y51), (z50_109 y52), (z50_110 y53), (z50_111 y54)]) (σr' := [(z50_1 p0), (z50_14 p0), (z50_15 p0), (z50_112 y51 y50 y53 p0), (z50_113 y52 y50 y54 p0), (z50_116 x63), (z50_117 x63)]) (res' := (.tup [])) [0, 1, 2, 3, 4, 5, 6] rfl enter69 (plant_Dispatch_1X_1_ok N y50 p0.Levels p0.Ramp p0.Start p0.First p0.Hours ((w64 ((p0.Hours.length : Int) + 1)).toNat) ((((w64 ((p0.Hours.length : Int) + 1)).toNat : Nat) : Int).toNat) y51 y52 y53 y54 _ hf62) rfl (rn_agg (rnc (.plain _ nll) (rnc (rnk_ref rfl) (rnc (rnk_ref rfl) (rnc (rnk_ref rfl) rn0))))) (slc (srn_box (rnc (.plain _ (nld nl_i64 _)) (rnc (.plain _ nll) (rnc (.plain _ nll) (rnc (.plain _ nll) (rnc (.plain _ (nld nl_GHour _)) rn0)))))) (slc (srn_box (rnc (rnk_own rfl) rn0)) (slc (srn_box (rnc (rnk_own rfl) rn0)) (slc (srn_orowk rfl) (slc (srn_orowk rfl) (slc (srn_mat nl_i64) (slc (srn_mat nl_bool) slw_nil))))))) (slc (srn_box (rnc (.plain _ (nld nl_i64 _)) (rnc (.plain _ nll) (rnc (.plain _ nll) (rnc (.plain _ nll) (rnc (.plain _ (nld nl_GHour _)) rn0)))))) (slc (srn_box (rnc (rnj_own rfl) rn0)) (slc (srn_box (rnc (rnj_own rfl) rn0)) (slc (srn_orowj rfl) (slc (srn_orowj rfl) (slc (srn_mat nl_i64) (slc (srn_mat nl_bool) slw_nil))))))) (.plain _ (NLt.tup _ nl0)) rfl rfl rfl, trivial⟩ ?_
     refine bln ?_
     refine thn ?_
     refine wx1 tbk [] trivial ?_
     refine thn ?_
     exact arm (mto (n := 69) [(1, .ref 0 5 0 0), (2, nilS), (4, .ref 1 1 0 0), (6, .ref 2 1 0 0), (7, z50_10), (8, (I (w64 (y50 - 1))))] [0, 1, 2, 3, 4, 5, 6] [(z50_1 p0), (z50_14 p0), (z50_15 p0), (z50_112 y51 y50 y53 p0), (z50_113 y52 y50 y54 p0), (z50_116 x63), (z50_117 x63)] hφ0 (pc (.rn (rqr rfl)) (pc rwl (pc (.rn (rqr rfl)) (pc (.rn (rqr rfl)) (pc (.rn (rn_fn rn0 (rnc (rqr rfl) (rnc (rqr rfl) (rnc (rqr rfl) rn0))))) (pc rwl pn)))))) (qc (spb (lc (.rn (.plain _ (nld nl_i64 _))) (lc rwl (lc rwl (lc rwl (lc (.rn (.plain _ (nld nl_GHour _))) ln)))))) (qc (spb (lc (.rn (rnq_own rfl)) ln)) (qc (spb (lc (.rn (rnq_own rfl)) ln)) (qc (spw_orow rfl) (qc (spw_orow rfl) (qc (spw_mat nl_i64) (qc (spw_mat nl_bool) qn)))))))) (ih (w64 (y50 - 1), y51.set y50.toNat (y53.length, (p0.Levels.length : Int).toNat), y52.set y50.toNat (y54.length, (p0.Levels.length : Int).toNat), x63.1, x63.2) h)
    ·replace h := bif_f hc61 h
     refine wfn hc61 (by kernel_rfl) ?_
     refine awp_exit ?_
     refine thenA_x ?_
     refine thenA_x ?_
     refine blockA_e rfl ?_
     refine thn ?_
     exact ⟨(y51, y52, y53, y54), h, (mto (n := 69) [(1, .ref 0 5 0 0), (2, nilS), (4, .ref 1 1 0 0), (6, .ref 2 1 0 0)] [0, 1, 2, 3, 4, 5, 6] [(z50_1 p0), (z50_11 p0), (z50_8 p0), (z50_108 y51), (z50_109 y52), (z50_110 y53), (z50_111 y54)] hφ0 (pc (.rn (rqr rfl)) (pc rwl (pc (.rn (rqr rfl)) (pc (.rn (rqr rfl)) pn)))) (qc (spb (lc (.rn (.plain _ (nld nl_i64 _))) (lc rwl (lc rwl (lc rwl (lc (.rn (.plain _ (nld nl_GHour _))) ln)))))) (qc (spb (lc (.rn (rnq_own rfl)) ln)) (qc (spb (lc (.rn (rnq_own rfl)) ln)) (qc (spw_orow rfl) (qc (spw_orow rfl) (qc (spw_mat nl_i64) (qc (spw_mat nl_bool) qn))))))))⟩

end Go.Proofs.Ytlhakkkjgdbdpaa
