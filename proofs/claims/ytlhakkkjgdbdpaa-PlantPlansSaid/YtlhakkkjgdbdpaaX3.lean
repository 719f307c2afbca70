/-
  Functions of the program: what they compute, as plain functions, and that they do. No conditions.
-/
import Derived.Test.YtlhakkkjgdbdpaaX2
namespace Go.Proofs.Ytlhakkkjgdbdpaa
open Go.RowKit

def plant_shared_valid_1X (N : Nat) (p0 : Int) : Option Bool :=
  (plant_withinX N p0 0 1000000).bind fun x2 =>
  some x2
set_option maxRecDepth 100000 in
set_option maxHeartbeats 4000000 in
theorem plant_shared_valid_1X_ok (N : Nat) (p0 : Int) (r : Bool) (h : plant_shared_valid_1X N p0 = some r) : Spec Try.prog 102 [(I p0)] [] (B r) [] := by
  refine spec_of_awp Try.func102 rfl 0 (nle rfl) (fun X φ0 w0 hφ0 => ?_)
  unfold plant_shared_valid_1X at h
  refine wx tbk [] trivial ?_
  obtain ⟨x2, hf1, h⟩ := bno h
  refine wx tbk [(1, rp [fu 65, (.tmp 3, I p0), ci 0, ci 1000000] (B x2))] ⟨apc (first := []) (cap := []) (vs := [I p0, I 0, I 1000000]) rfl enter65 (plant_withinX_ok N p0 0 1000000 _ hf1) rfl rfl (nlc nll (nlc nll (nlc nll nl0))) nll rfl, trivial⟩ ?_
  refine awp_ret ?_
  obtain rfl := osi h
  exact ⟨⟨[B x2], ⟨rot (by kernel_rfl), trivial⟩, rfl⟩, nll, Nat.le_refl _, fun n hn => absurd hn (Nat.not_lt_zero n)⟩

def plant_all_int_1X_1 (N : Nat) (p0 : Int) : Option Bool :=
  (plant_shared_valid_1X N p0).bind fun x3 =>
  some (!x3)
set_option maxRecDepth 100000 in
set_option maxHeartbeats 4000000 in
theorem plant_all_int_1X_1_ok (N : Nat) (p0 : Int) (r : Bool) (h : plant_all_int_1X_1 N p0 = some r) : Spec Try.prog 110 [(I (p0)), (.ref 0 1 (0) 0)] [(.own 1 [[(.fn (.func 102) [] [])]])] (B (r)) [(.own 1 [[(.fn (.func 102) [] [])]])] := by
  refine spec_of_awp Try.func110 rfl 1 (nle rfl) (fun X φ0 w0 hφ0 => ?_)
  unfold plant_all_int_1X_1 at h
  refine awp_finm ?_
  refine wx tbk [] trivial ?_
  obtain ⟨x3, hf2, h⟩ := bno h
  refine wx tbk [(2, rp [(.tmp 4, (.fn (.func 102) [] [])), (.tmp 5, I p0)] (B x3))] ⟨apc (first := []) (cap := []) (vs := [I p0]) rfl enter102 (plant_shared_valid_1X_ok N p0 _ hf2) rfl rfl (nlc nll nl0) nll rfl, trivial⟩ ?_
  refine wmr (mto (n := 8) (l' := [(3, (B ((!x3))))]) (own' := [(.own 1 [[(.fn (.func 102) [] [])]])]) [(3, (B ((!x3))))] [0] [(.own 1 [[(.fn (.func 102) [] [])]])] hφ0 (pc rwl pn) (qc (spb (lc (.rn (rn_fn rn0 rn0)) ln)) qn)) ?_
  refine awp_ret ?_
  obtain rfl := osi h
  exact ⟨_, Mor.rfl, fin_of (vs := [(B ((!x3)))]) ⟨rot (by kernel_rfl), trivial⟩ rfl (NLt.of0 nll) (by kernel_rfl) (snl_cons (snl_box (nlc (NLt.of0 (NLt.fn _ _ _ nl0 nl0)) nl0)) snl_nil)⟩

def slices_IndexFunc_int_intX_1_loop1 (N : Nat) (p0 : (List Int)) (k2 : Unit → Option Int) : Nat → Int → Option Int
  | 0, _ => none
  | n5 + 1, y3 =>
    bif (decide (y3 < (p0.length : Int))) then
     (getI p0 y3).bind fun x7 =>
     (plant_all_int_1X_1 N x7).bind fun x12 =>
     bif x12 then
      some y3
     else
      slices_IndexFunc_int_intX_1_loop1 N p0 k2 n5 (w64 (y3 + 1))
    else
     k2 ()
def slices_IndexFunc_int_intX_1 (N : Nat) (p0 : (List Int)) : Option Int :=
  joinK (fun _ =>
    some (-1)) fun k2 : Unit → Option Int =>
  slices_IndexFunc_int_intX_1_loop1 N p0 k2 N 0
set_option maxRecDepth 100000 in
set_option maxHeartbeats 4000000 in
theorem slices_IndexFunc_int_intX_1_ok (N : Nat) (p0 : (List Int)) (r : Int) (h : slices_IndexFunc_int_intX_1 N p0 = some r) : Spec Try.prog 71 [(.dat 1 ((p0 : List Int).map c_i64)), (.fn (.func 110) [] [(.ref 0 1 (0) 0)])] [(.own 1 [[(.fn (.func 102) [] [])]])] (I (r)) [(.own 1 [[(.fn (.func 102) [] [])]])] := by
  refine spec_of_awp Try.func71 rfl 1 (nle rfl) (fun X φ0 w0 hφ0 => ?_)
  unfold slices_IndexFunc_int_intX_1 at h
  refine awp_finm ?_
  refine wx tbk [] trivial ?_
  obtain ⟨k2, hk_k2, h⟩ := jko h
  refine wjn (τ := Unit) (fun t => k2 t = some r) (fun _ => ⟨mk 19 [], [(.own 1 [[(.fn (.func 102) [] [])]])]⟩) (fun t h => ?_) ?_
  ·subst hk_k2
   refine wx tbk [] trivial ?_
   refine wmr (mto (n := 19) (l' := [(4, (I ((-1))))]) (own' := [(.own 1 [[(.fn (.func 102) [] [])]])]) [(4, (I ((-1))))] [0] [(.own 1 [[(.fn (.func 102) [] [])]])] hφ0 (pc rwl pn) (qc (spb (lc (.rn (rn_fn rn0 rn0)) ln)) qn)) ?_
   refine awp_ret ?_
   obtain rfl := osi h
   exact ⟨_, Mor.rfl, fin_of (vs := [(I ((-1)))]) ⟨rot (by kernel_rfl), trivial⟩ rfl (NLt.of0 nll) (by kernel_rfl) (snl_cons (snl_box (nlc (NLt.of0 (NLt.fn _ _ _ nl0 nl0)) nl0)) snl_nil)⟩
  ·skip
   refine wx tbk [(1, rp [(.tmp 6, (.dat 1 ((p0 : List Int).map c_i64)))] (I ((p0.length : Int))))] ⟨alm (c := c_i64) (l := p0) (aln rfl Try.underlying37 rfl), trivial⟩ ?_
   refine awp_block ?_
   refine wmr (mto (n := 19) (l' := [(0, (.dat 1 ((p0 : List Int).map c_i64))), (1, (.fn (.func 110) [] [.ref 0 1 0 0])), (7, (I ((p0.length : Int)))), (8, I 0)]) (own' := [(.own 1 [[(.fn (.func 102) [] [])]])]) [(0, (.dat 1 ((p0 : List Int).map c_i64))), (1, (.fn (.func 110) [] [.ref 0 1 0 0])), (7, (I ((p0.length : Int)))), (8, I 0)] [0] [(.own 1 [[(.fn (.func 102) [] [])]])] hφ0 (pc (.rn (.plain _ (nld nl_i64 _))) (pc (.rn (rn_fn rn0 (rnc (rqr rfl) rn0))) (pc rwl (pc rwl pn)))) (qc (spb (lc (.rn (rn_fn rn0 rn0)) ln)) qn)) ?_
   refine awp_ind (τ := Int) (fun n t => slices_IndexFunc_int_intX_1_loop1 N p0 k2 n t = some r) (fun y3 => ⟨mk 19 [(0, (.dat 1 ((p0 : List Int).map c_i64))), (1, (.fn (.func 110) [] [.ref 0 1 0 0])), (7, (I ((p0.length : Int)))), (8, I y3)], [(.own 1 [[(.fn (.func 102) [] [])]])]⟩) (fun t h => by rw [slices_IndexFunc_int_intX_1_loop1] at h; cases h) (fun n5 ih y3 h => ?_) N (0) h
   rw [slices_IndexFunc_int_intX_1_loop1] at h
   skip
   refine wx tbk [] trivial ?_
   refine wsq ?_
   rcases bft ((decide (y3 < (p0.length : Int)))) with hc6 | hc6
   ·replace h := bif_t hc6 h
    refine wft hc6 (by kernel_rfl) ?_
    refine awp_skip ?_
    refine thn ?_
    refine wsq ?_
    refine awp_block ?_
    refine wx tbk [] trivial ?_
    obtain ⟨x7, hg8, h⟩ := bno h
    obtain ⟨hi9, hj10⟩ := gsm hg8
    obtain ⟨x12, hf11, h⟩ := bno h
    refine wx tbk [(3, rp [(.tmp 12, (.dat 1 ((p0 : List Int).map c_i64))), (.tmp 13, I y3)] (.dptr (c_i64 (x7)) 0)), (5, ⟨[(.tmp 11, (.fn (.func 110) [] [.ref 0 1 0 0])), (.tmp 15, I x7)], [(0, (.own 1 [[(.fn (.func 102) [] [])]]))], B x12, [(0, (.own 1 [[(.fn (.func 102) [] [])]]))], false⟩)] ⟨aid rfl Try.underlying37 ti3 rfl rfl hi9 (mgt c_i64 hj10) rfl, astep_callq (first := []) (cap := [.ref 0 1 0 0]) (vs := [I x7]) (σr := [(.own 1 [[(.fn (.func 102) [] [])]])]) (σr' := [(.own 1 [[(.fn (.func 102) [] [])]])]) (res' := (B x12)) [0] rfl enter110 (plant_all_int_1X_1_ok N x7 _ hf11) rfl (rn_agg (rnc (.plain _ nll) (rnc (rnk_ref rfl) rn0))) (slc (srn_box (rnc (.plain _ (NLt.fn _ _ _ nl0 nl0)) rn0)) slw_nil) (slc (srn_box (rnc (.plain _ (NLt.fn _ _ _ nl0 nl0)) rn0)) slw_nil) (.plain _ nll) rfl rfl rfl, trivial⟩ ?_
    rcases bft (x12) with hc13 | hc13
    ·replace h := bif_t hc13 h
     refine wft hc13 (by kernel_rfl) ?_
     refine wx tbk [] trivial ?_
     refine wmr (mto (n := 19) (l' := [(4, I y3)]) (own' := [(.own 1 [[(.fn (.func 102) [] [])]])]) [(4, I y3)] [0] [(.own 1 [[(.fn (.func 102) [] [])]])] hφ0 (pc rwl pn) (qc (spb (lc (.rn (rn_fn rn0 rn0)) ln)) qn)) ?_
     refine awp_ret ?_
     refine blockA_r ?_
     refine thenA_r ?_
     refine thenA_r ?_
     refine blockA_r ?_
     refine thenA_r ?_
     obtain rfl := osi h
     exact ⟨_, Mor.rfl, fin_of (vs := [I y3]) ⟨rot (by kernel_rfl), trivial⟩ rfl (NLt.of0 nll) (by kernel_rfl) (snl_cons (snl_box (nlc (NLt.of0 (NLt.fn _ _ _ nl0 nl0)) nl0)) snl_nil)⟩
    ·replace h := bif_f hc13 h
     refine wfn hc13 (by kernel_rfl) ?_
     refine awp_skip ?_
     refine bln ?_
     refine thn ?_
     refine wx1 tbk [] trivial ?_
     refine thn ?_
     exact arm (mto (n := 19) [(0, (.dat 1 ((p0 : List Int).map c_i64))), (1, (.fn (.func 110) [] [.ref 0 1 0 0])), (7, (I ((p0.length : Int)))), (8, (I (w64 (y3 + 1))))] [0] [(.own 1 [[(.fn (.func 102) [] [])]])] hφ0 (pc (.rn (.plain _ (nld nl_i64 _))) (pc (.rn (rn_fn rn0 (rnc (rqr rfl) rn0))) (pc rwl (pc rwl pn)))) (qc (spb (lc (.rn (rn_fn rn0 rn0)) ln)) qn)) (ih (w64 (y3 + 1)) h)
   ·replace h := bif_f hc6 h
    refine wfn hc6 (by kernel_rfl) ?_
    refine awp_exit ?_
    refine thenA_x ?_
    refine thenA_x ?_
    refine blockA_e rfl ?_
    refine thn ?_
    exact ⟨(), h, (mto (n := 19) [] [0] [(.own 1 [[(.fn (.func 102) [] [])]])] hφ0 pn (qc (spb (lc (.rn (rn_fn rn0 rn0)) ln)) qn))⟩

def slices_ContainsFunc_int_intX_1 (N : Nat) (p0 : (List Int)) : Option Bool :=
  (slices_IndexFunc_int_intX_1 N p0).bind fun x3 =>
  some (decide (x3 ≥ 0))
set_option maxRecDepth 100000 in
set_option maxHeartbeats 4000000 in
theorem slices_ContainsFunc_int_intX_1_ok (N : Nat) (p0 : (List Int)) (r : Bool) (h : slices_ContainsFunc_int_intX_1 N p0 = some r) : Spec Try.prog 109 [(.dat 1 ((p0 : List Int).map c_i64)), (.fn (.func 110) [] [(.ref 0 1 (0) 0)])] [(.own 1 [[(.fn (.func 102) [] [])]])] (B (r)) [(.own 1 [[(.fn (.func 102) [] [])]])] := by
  refine spec_of_awp Try.func109 rfl 1 (nle rfl) (fun X φ0 w0 hφ0 => ?_)
  unfold slices_ContainsFunc_int_intX_1 at h
  refine awp_finm ?_
  refine wx tbk [] trivial ?_
  obtain ⟨x3, hf2, h⟩ := bno h
  refine wx tbk [(2, ⟨[fu 71, (.tmp 5, (.dat 1 ((p0 : List Int).map c_i64))), (.tmp 6, (.fn (.func 110) [] [.ref 0 1 0 0]))], [(0, (.own 1 [[(.fn (.func 102) [] [])]]))], I x3, [(0, (.own 1 [[(.fn (.func 102) [] [])]]))], false⟩)] ⟨astep_callq (first := []) (cap := []) (vs := [(.dat 1 ((p0 : List Int).map c_i64)), (.fn (.func 110) [] [.ref 0 1 0 0])]) (σr := [(.own 1 [[(.fn (.func 102) [] [])]])]) (σr' := [(.own 1 [[(.fn (.func 102) [] [])]])]) (res' := (I x3)) [0] rfl enter71 (slices_IndexFunc_int_intX_1_ok N p0 _ hf2) rfl (rn_agg (rnc (.plain _ (nld nl_i64 _)) (rnc (rn_fn rn0 (rnc (rnk_ref rfl) rn0)) rn0))) (slc (srn_box (rnc (.plain _ (NLt.fn _ _ _ nl0 nl0)) rn0)) slw_nil) (slc (srn_box (rnc (.plain _ (NLt.fn _ _ _ nl0 nl0)) rn0)) slw_nil) (.plain _ nll) rfl rfl rfl, trivial⟩ ?_
  refine wmr (mto (n := 9) (l' := [(4, (B ((decide (x3 ≥ 0)))))]) (own' := [(.own 1 [[(.fn (.func 102) [] [])]])]) [(4, (B ((decide (x3 ≥ 0)))))] [0] [(.own 1 [[(.fn (.func 102) [] [])]])] hφ0 (pc rwl pn) (qc (spb (lc (.rn (rn_fn rn0 rn0)) ln)) qn)) ?_
  refine awp_ret ?_
  obtain rfl := osi h
  exact ⟨_, Mor.rfl, fin_of (vs := [(B ((decide (x3 ≥ 0))))]) ⟨rot (by kernel_rfl), trivial⟩ rfl (NLt.of0 nll) (by kernel_rfl) (snl_cons (snl_box (nlc (NLt.of0 (NLt.fn _ _ _ nl0 nl0)) nl0)) snl_nil)⟩

def plant_all_intX_1 (N : Nat) (p0 : (List Int)) : Option Bool :=
  (slices_ContainsFunc_int_intX_1 N p0).bind fun x2 =>
  some (!x2)
set_option maxRecDepth 100000 in
set_option maxHeartbeats 4000000 in
theorem plant_all_intX_1_ok (N : Nat) (p0 : (List Int)) (r : Bool) (h : plant_all_intX_1 N p0 = some r) : Spec Try.prog 89 [(.dat 1 ((p0 : List Int).map c_i64)), (.fn (.func 102) [] [])] [] (B (r)) [] := by
  refine spec_of_awp Try.func89 rfl 0 (nle rfl) (fun X φ0 w0 hφ0 => ?_)
  unfold plant_all_intX_1 at h
  refine wx tbk [] trivial ?_
  obtain ⟨x2, hf1, h⟩ := bno h
  refine wx tbk [(1, rp [(.tmp 3, .ref 0 1 0 0)] (.fn (.func 110) [] [.ref 0 1 0 0])), (2, ⟨[fu 109, (.tmp 5, (.dat 1 ((p0 : List Int).map c_i64))), (.tmp 6, (.fn (.func 110) [] [.ref 0 1 0 0]))], [(0, (.own 1 [[(.fn (.func 102) [] [])]]))], B x2, [(0, (.own 1 [[(.fn (.func 102) [] [])]]))], false⟩)] ⟨astep_func (fs := []) (cs := [.ref 0 1 0 0]) rfl rfl rfl rfl, astep_callq (first := []) (cap := []) (vs := [(.dat 1 ((p0 : List Int).map c_i64)), (.fn (.func 110) [] [.ref 0 1 0 0])]) (σr := [(.own 1 [[(.fn (.func 102) [] [])]])]) (σr' := [(.own 1 [[(.fn (.func 102) [] [])]])]) (res' := (B x2)) [0] rfl enter109 (slices_ContainsFunc_int_intX_1_ok N p0 _ hf1) rfl (rn_agg (rnc (.plain _ (nld nl_i64 _)) (rnc (rn_fn rn0 (rnc (rnk_ref rfl) rn0)) rn0))) (slc (srn_box (rnc (.plain _ (NLt.fn _ _ _ nl0 nl0)) rn0)) slw_nil) (slc (srn_box (rnc (.plain _ (NLt.fn _ _ _ nl0 nl0)) rn0)) slw_nil) (.plain _ nll) rfl rfl rfl, trivial⟩ ?_
  refine awp_ret ?_
  obtain rfl := osi h
  exact ⟨⟨[(B ((!x2)))], ⟨rot (by kernel_rfl), trivial⟩, rfl⟩, nll, Nat.le_refl _, fun n hn => absurd hn (Nat.not_lt_zero n)⟩

def plant_shared_valid_2X_1 (N : Nat) (p0 : GUnit) (p1 : (List Int)) (_p2 : (List GUnit)) : Option Bool :=
  (plant_Unit_validX N p0).bind fun x3 =>
  bif x3 then
   some (decide (p0.Inlet < (p1.length : Int)))
  else
   some false
def z48_0 (p0 : GUnit) : AV := .dat 2 ((p0.Parts : List GPart).map c_GPart)
def z48_1 (p1 : (List Int)) (p2 : (List GUnit)) : Slot := .own 2 [[(.dat 1 ((p1 : List Int).map c_i64)), (.dat 2 ((p2 : List GUnit).map c_GUnit))]]
set_option maxRecDepth 100000 in
set_option maxHeartbeats 4000000 in
theorem plant_shared_valid_2X_1_ok (N : Nat) (p0 : GUnit) (p1 : (List Int)) (p2 : (List GUnit)) (r : Bool) (h : plant_shared_valid_2X_1 N p0 p1 p2 = some r) : Spec Try.prog 104 [(.agg [(I (p0.Inlet)), (z48_0 p0)]), (.ref 0 2 (0) 0)] [(z48_1 p1 p2)] (B (r)) [(z48_1 p1 p2)] := by
  refine spec_of_awp Try.func104 rfl 1 (nle rfl) (fun X φ0 w0 hφ0 => ?_)
  unfold plant_shared_valid_2X_1 at h
  refine awp_finm ?_
  refine wx tbk [] trivial ?_
  obtain ⟨x3, hf2, h⟩ := bno h
  rcases bft (x3) with hb4 | hb4
  ·replace h := bif_t hb4 h
   refine wx tbk [(1, rp [fu 64, (.tmp 4, (.agg [I p0.Inlet, (z48_0 p0)]))] (B x3)), (2, rp [(.tmp 5, B x3)] (B true)), (7, rp [(.tmp 6, B true), (.tmp 10, (.dat 1 ((p1 : List Int).map c_i64)))] (I ((p1.length : Int))))] ⟨apc (first := []) (cap := []) (vs := [(.agg [I p0.Inlet, (z48_0 p0)])]) rfl enter64 (plant_Unit_validX_ok N p0 _ hf2) rfl rfl (nlc (NLt.agg _ (nlc nll (nlc (nld nl_GPart _) nl0))) nl0) nll rfl, asb hb4 (amv rfl), ag_ (alm (c := c_i64) (l := p1) (aln rfl Try.underlying37 rfl)), trivial⟩ ?_
   refine wmr (mto (n := 14) (l' := [(3, (B ((decide (p0.Inlet < (p1.length : Int))))))]) (own' := [(z48_1 p1 p2)]) [(3, (B ((decide (p0.Inlet < (p1.length : Int))))))] [0] [(z48_1 p1 p2)] hφ0 (pc rwl pn) (qc (spb (lc (.rn (.plain _ (nld nl_i64 _))) (lc (.rn (.plain _ (nld nl_GUnit _))) ln))) qn)) ?_
   refine awp_ret ?_
   obtain rfl := osi h
   exact ⟨_, Mor.rfl, fin_of (vs := [(B ((decide (p0.Inlet < (p1.length : Int)))))]) ⟨rot (by kernel_rfl), trivial⟩ rfl (NLt.of0 nll) (by kernel_rfl) (snl_cons (snl_box (nlc (NLt.of0 (nld nl_i64 _)) (nlc (NLt.of0 (nld nl_GUnit _)) nl0))) snl_nil)⟩
  ·replace h := bif_f hb4 h
   refine wx tbk [(1, rp [fu 64, (.tmp 4, (.agg [I p0.Inlet, (z48_0 p0)]))] (B x3)), (2, rp [(.tmp 5, B x3)] (B false))] ⟨apc (first := []) (cap := []) (vs := [(.agg [I p0.Inlet, (z48_0 p0)])]) rfl enter64 (plant_Unit_validX_ok N p0 _ hf2) rfl rfl (nlc (NLt.agg _ (nlc nll (nlc (nld nl_GPart _) nl0))) nl0) nll rfl, asb hb4 (amv rfl), trivial⟩ ?_
   refine wmr (mto (n := 14) (l' := [(3, B false)]) (own' := [(z48_1 p1 p2)]) [(3, B false)] [0] [(z48_1 p1 p2)] hφ0 (pc rwl pn) (qc (spb (lc (.rn (.plain _ (nld nl_i64 _))) (lc (.rn (.plain _ (nld nl_GUnit _))) ln))) qn)) ?_
   refine awp_ret ?_
   obtain rfl := osi h
   exact ⟨_, Mor.rfl, fin_of (vs := [B false]) ⟨rot (by kernel_rfl), trivial⟩ rfl (NLt.of0 nll) (by kernel_rfl) (snl_cons (snl_box (nlc (NLt.of0 (nld nl_i64 _)) (nlc (NLt.of0 (nld nl_GUnit _)) nl0))) snl_nil)⟩

def plant_all_plant_Unit_1X_1 (N : Nat) (p0 : GUnit) (p1 : (List Int)) (p2 : (List GUnit)) : Option Bool :=
  (plant_shared_valid_2X_1 N p0 p1 p2).bind fun x3 =>
  some (!x3)
def z47_0 (p0 : GUnit) : AV := .dat 2 ((p0.Parts : List GPart).map c_GPart)
def z47_1 : Slot := .own 1 [[(.fn (.func 104) [] [(.ref 1 2 (0) 0)])]]
def z47_2 (p1 : (List Int)) (p2 : (List GUnit)) : Slot := .own 2 [[(.dat 1 ((p1 : List Int).map c_i64)), (.dat 2 ((p2 : List GUnit).map c_GUnit))]]
set_option maxRecDepth 100000 in
set_option maxHeartbeats 4000000 in
theorem plant_all_plant_Unit_1X_1_ok (N : Nat) (p0 : GUnit) (p1 : (List Int)) (p2 : (List GUnit)) (r : Bool) (h : plant_all_plant_Unit_1X_1 N p0 p1 p2 = some r) : Spec Try.prog 122 [(.agg [(I (p0.Inlet)), (z47_0 p0)]), (.ref 0 1 (0) 0)] [z47_1, (z47_2 p1 p2)] (B (r)) [z47_1, (z47_2 p1 p2)] := by
  refine spec_of_awp Try.func122 rfl 2 (nle rfl) (fun X φ0 w0 hφ0 => ?_)
  unfold plant_all_plant_Unit_1X_1 at h
  refine awp_finm ?_
  refine wx tbk [] trivial ?_
  obtain ⟨x3, hf2, h⟩ := bno h
  refine wx tbk [(2, ⟨[(.tmp 4, (.fn (.func 104) [] [.ref 1 2 0 0])), (.tmp 5, (.agg [I p0.Inlet, (z47_0 p0)]))], [(1, (z47_2 p1 p2))], B x3, [(1, (z47_2 p1 p2))], false⟩)] ⟨astep_callq (first := []) (cap := [.ref 1 2 0 0]) (vs := [(.agg [I p0.Inlet, (z47_0 p0)])]) (σr := [(z47_2 p1 p2)]) (σr' := [(z47_2 p1 p2)]) (res' := (B x3)) [1] rfl enter104 (plant_shared_valid_2X_1_ok N p0 p1 p2 _ hf2) rfl (rn_agg (rnc (.plain _ (NLt.agg _ (nlc nll (nlc (nld nl_GPart _) nl0)))) (rnc (rnk_ref rfl) rn0))) (slc (srn_box (rnc (.plain _ (nld nl_i64 _)) (rnc (.plain _ (nld nl_GUnit _)) rn0))) slw_nil) (slc (srn_box (rnc (.plain _ (nld nl_i64 _)) (rnc (.plain _ (nld nl_GUnit _)) rn0))) slw_nil) (.plain _ nll) rfl rfl rfl, trivial⟩ ?_
  refine wmr (mto (n := 8) (l' := [(3, (B ((!x3))))]) (own' := [z47_1, (z47_2 p1 p2)]) [(3, (B ((!x3))))] [0, 1] [z47_1, (z47_2 p1 p2)] hφ0 (pc rwl pn) (qc (spb (lc (.rn (rn_fn rn0 (rnc (rqr rfl) rn0))) ln)) (qc (spb (lc (.rn (.plain _ (nld nl_i64 _))) (lc (.rn (.plain _ (nld nl_GUnit _))) ln))) qn))) ?_
  refine awp_ret ?_
  obtain rfl := osi h
  exact ⟨_, Mor.rfl, fin_of (vs := [(B ((!x3)))]) ⟨rot (by kernel_rfl), trivial⟩ rfl (NLt.of0 nll) (by kernel_rfl) (snl_cons (snl_box (nlc (NLt.fn _ _ _ nl0 (nlc (NLt.ref _ _ _ _ (by decide)) nl0)) nl0)) (snl_cons (snl_box (nlc (NLt.of0 (nld nl_i64 _)) (nlc (NLt.of0 (nld nl_GUnit _)) nl0))) snl_nil))⟩

def slices_IndexFunc_plant_Unit_plant_UnitX_1_loop1 (N : Nat) (p0 : (List GUnit)) (p1 : (List Int)) (k2 : Unit → Option Int) (p2 : (List GUnit)) : Nat → Int → Option Int
  | 0, _ => none
  | n5 + 1, y3 =>
    bif (decide (y3 < (p0.length : Int))) then
     (getI p0 y3).bind fun x7 =>
     (plant_all_plant_Unit_1X_1 N x7 p1 p2).bind fun x12 =>
     bif x12 then
      some y3
     else
      slices_IndexFunc_plant_Unit_plant_UnitX_1_loop1 N p0 p1 k2 p2 n5 (w64 (y3 + 1))
    else
     k2 ()
def slices_IndexFunc_plant_Unit_plant_UnitX_1 (N : Nat) (p0 : (List GUnit)) (p1 : (List Int)) (p2 : (List GUnit)) : Option Int :=
  joinK (fun _ =>
    some (-1)) fun k2 : Unit → Option Int =>
  slices_IndexFunc_plant_Unit_plant_UnitX_1_loop1 N p0 p1 k2 p2 N 0
def z46_1 : Slot := .own 1 [[(.fn (.func 104) [] [(.ref 1 2 (0) 0)])]]
def z46_2 (p1 : (List Int)) (p2 : (List GUnit)) : Slot := .own 2 [[(.dat 1 ((p1 : List Int).map c_i64)), (.dat 2 ((p2 : List GUnit).map c_GUnit))]]
def z46_7 (x7 : GUnit) : AV := .dat 2 ((x7.Parts : List GPart).map c_GPart)
set_option maxRecDepth 100000 in
set_option maxHeartbeats 4000000 in
theorem slices_IndexFunc_plant_Unit_plant_UnitX_1_ok (N : Nat) (p0 : (List GUnit)) (p1 : (List Int)) (p2 : (List GUnit)) (r : Int) (h : slices_IndexFunc_plant_Unit_plant_UnitX_1 N p0 p1 p2 = some r) : Spec Try.prog 132 [(.dat 2 ((p0 : List GUnit).map c_GUnit)), (.fn (.func 122) [] [(.ref 0 1 (0) 0)])] [z46_1, (z46_2 p1 p2)] (I (r)) [z46_1, (z46_2 p1 p2)] := by
  refine spec_of_awp Try.func132 rfl 2 (nle rfl) (fun X φ0 w0 hφ0 => ?_)
  unfold slices_IndexFunc_plant_Unit_plant_UnitX_1 at h
  refine awp_finm ?_
  refine wx tbk [] trivial ?_
  obtain ⟨k2, hk_k2, h⟩ := jko h
  refine wjn (τ := Unit) (fun t => k2 t = some r) (fun _ => ⟨mk 19 [], [z46_1, (z46_2 p1 p2)]⟩) (fun t h => ?_) ?_
  ·subst hk_k2
   refine wx tbk [] trivial ?_
   refine wmr (mto (n := 19) (l' := [(4, (I ((-1))))]) (own' := [z46_1, (z46_2 p1 p2)]) [(4, (I ((-1))))] [0, 1] [z46_1, (z46_2 p1 p2)] hφ0 (pc rwl pn) (qc (spb (lc (.rn (rn_fn rn0 (rnc (rqr rfl) rn0))) ln)) (qc (spb (lc (.rn (.plain _ (nld nl_i64 _))) (lc (.rn (.plain _ (nld nl_GUnit _))) ln))) qn))) ?_
   refine awp_ret ?_
   obtain rfl := osi h
   exact ⟨_, Mor.rfl, fin_of (vs := [(I ((-1)))]) ⟨rot (by kernel_rfl), trivial⟩ rfl (NLt.of0 nll) (by kernel_rfl) (snl_cons (snl_box (nlc (NLt.fn _ _ _ nl0 (nlc (NLt.ref _ _ _ _ (by decide)) nl0)) nl0)) (snl_cons (snl_box (nlc (NLt.of0 (nld nl_i64 _)) (nlc (NLt.of0 (nld nl_GUnit _)) nl0))) snl_nil))⟩
  ·skip
   refine wx tbk [(1, rp [(.tmp 6, (.dat 2 ((p0 : List GUnit).map c_GUnit)))] (I ((p0.length : Int))))] ⟨alm (c := c_GUnit) (l := p0) (aln rfl Try.underlying89 rfl), trivial⟩ ?_
   refine awp_block ?_
   refine wmr (mto (n := 19) (l' := [(0, (.dat 2 ((p0 : List GUnit).map c_GUnit))), (1, (.fn (.func 122) [] [.ref 0 1 0 0])), (7, (I ((p0.length : Int)))), (8, I 0)]) (own' := [z46_1, (z46_2 p1 p2)]) [(0, (.dat 2 ((p0 : List GUnit).map c_GUnit))), (1, (.fn (.func 122) [] [.ref 0 1 0 0])), (7, (I ((p0.length : Int)))), (8, I 0)] [0, 1] [z46_1, (z46_2 p1 p2)] hφ0 (pc (.rn (.plain _ (nld nl_GUnit _))) (pc (.rn (rn_fn rn0 (rnc (rqr rfl) rn0))) (pc rwl (pc rwl pn)))) (qc (spb (lc (.rn (rn_fn rn0 (rnc (rqr rfl) rn0))) ln)) (qc (spb (lc (.rn (.plain _ (nld nl_i64 _))) (lc (.rn (.plain _ (nld nl_GUnit _))) ln))) qn))) ?_
   refine awp_ind (τ := Int) (fun n t => slices_IndexFunc_plant_Unit_plant_UnitX_1_loop1 N p0 p1 k2 p2 n t = some r) (fun y3 => ⟨mk 19 [(0, (.dat 2 ((p0 : List GUnit).map c_GUnit))), (1, (.fn (.func 122) [] [.ref 0 1 0 0])), (7, (I ((p0.length : Int)))), (8, I y3)], [z46_1, (z46_2 p1 p2)]⟩) (fun t h => by rw [slices_IndexFunc_plant_Unit_plant_UnitX_1_loop1] at h; cases h) (fun n5 ih y3 h => ?_) N (0) h
   rw [slices_IndexFunc_plant_Unit_plant_UnitX_1_loop1] at h
   skip
   refine wx tbk [] trivial ?_
   refine wsq ?_
   rcases bft ((decide (y3 < (p0.length : Int)))) with hc6 | hc6
   ·replace h := bif_t hc6 h
    refine wft hc6 (by kernel_rfl) ?_
    refine awp_skip ?_
    refine thn ?_
    refine wsq ?_
    refine awp_block ?_
    refine wx tbk [] trivial ?_
    obtain ⟨x7, hg8, h⟩ := bno h
    obtain ⟨hi9, hj10⟩ := gsm hg8
    obtain ⟨x12, hf11, h⟩ := bno h
    refine wx tbk [(3, rp [(.tmp 12, (.dat 2 ((p0 : List GUnit).map c_GUnit))), (.tmp 13, I y3)] (.dptr (c_GUnit (x7)) 0)), (5, ⟨[(.tmp 11, (.fn (.func 122) [] [.ref 0 1 0 0])), (.tmp 15, (.agg [I x7.Inlet, (z46_7 x7)]))], [(0, z46_1), (1, (z46_2 p1 p2))], B x12, [(0, z46_1), (1, (z46_2 p1 p2))], false⟩)] ⟨aid rfl Try.underlying89 ti34 rfl rfl hi9 (mgt c_GUnit hj10) rfl, astep_callq (first := []) (cap := [.ref 0 1 0 0]) (vs := [(.agg [I x7.Inlet, (z46_7 x7)])]) (σr := [z46_1, (z46_2 p1 p2)]) (σr' := [z46_1, (z46_2 p1 p2)]) (res' := (B x12)) [0, 1] rfl enter122 (plant_all_plant_Unit_1X_1_ok N x7 p1 p2 _ hf11) rfl (rn_agg (rnc (.plain _ (NLt.agg _ (nlc nll (nlc (nld nl_GPart _) nl0)))) (rnc (rnk_ref rfl) rn0))) (slc (srn_box (rnc (rn_fn rn0 (rnc (rnk_ref rfl) rn0)) rn0)) (slc (srn_box (rnc (.plain _ (nld nl_i64 _)) (rnc (.plain _ (nld nl_GUnit _)) rn0))) slw_nil)) (slc (srn_box (rnc (rn_fn rn0 (rnc (rnj_ref rfl) rn0)) rn0)) (slc (srn_box (rnc (.plain _ (nld nl_i64 _)) (rnc (.plain _ (nld nl_GUnit _)) rn0))) slw_nil)) (.plain _ nll) rfl rfl rfl, trivial⟩ ?_
    rcases bft (x12) with hc13 | hc13
    ·replace h := bif_t hc13 h
     refine wft hc13 (by kernel_rfl) ?_
     refine wx tbk [] trivial ?_
     refine wmr (mto (n := 19) (l' := [(4, I y3)]) (own' := [z46_1, (z46_2 p1 p2)]) [(4, I y3)] [0, 1] [z46_1, (z46_2 p1 p2)] hφ0 (pc rwl pn) (qc (spb (lc (.rn (rn_fn rn0 (rnc (rqr rfl) rn0))) ln)) (qc (spb (lc (.rn (.plain _ (nld nl_i64 _))) (lc (.rn (.plain _ (nld nl_GUnit _))) ln))) qn))) ?_
     refine awp_ret ?_
     refine blockA_r ?_
     refine thenA_r ?_
     refine thenA_r ?_
     refine blockA_r ?_
     refine thenA_r ?_
     obtain rfl := osi h
     exact ⟨_, Mor.rfl, fin_of (vs := [I y3]) ⟨rot (by kernel_rfl), trivial⟩ rfl (NLt.of0 nll) (by kernel_rfl) (snl_cons (snl_box (nlc (NLt.fn _ _ _ nl0 (nlc (NLt.ref _ _ _ _ (by decide)) nl0)) nl0)) (snl_cons (snl_box (nlc (NLt.of0 (nld nl_i64 _)) (nlc (NLt.of0 (nld nl_GUnit _)) nl0))) snl_nil))⟩
    ·replace h := bif_f hc13 h
     refine wfn hc13 (by kernel_rfl) ?_
     refine awp_skip ?_
     refine bln ?_
     refine thn ?_
     refine wx1 tbk [] trivial ?_
     refine thn ?_
     exact arm (mto (n := 19) [(0, (.dat 2 ((p0 : List GUnit).map c_GUnit))), (1, (.fn (.func 122) [] [.ref 0 1 0 0])), (7, (I ((p0.length : Int)))), (8, (I (w64 (y3 + 1))))] [0, 1] [z46_1, (z46_2 p1 p2)] hφ0 (pc (.rn (.plain _ (nld nl_GUnit _))) (pc (.rn (rn_fn rn0 (rnc (rqr rfl) rn0))) (pc rwl (pc rwl pn)))) (qc (spb (lc (.rn (rn_fn rn0 (rnc (rqr rfl) rn0))) ln)) (qc (spb (lc (.rn (.plain _ (nld nl_i64 _))) (lc (.rn (.plain _ (nld nl_GUnit _))) ln))) qn))) (ih (w64 (y3 + 1)) h)
   ·replace h := bif_f hc6 h
    refine wfn hc6 (by kernel_rfl) ?_
    refine awp_exit ?_
    refine thenA_x ?_
    refine thenA_x ?_
    refine blockA_e rfl ?_
    refine thn ?_
    exact ⟨(), h, (mto (n := 19) [] [0, 1] [z46_1, (z46_2 p1 p2)] hφ0 pn (qc (spb (lc (.rn (rn_fn rn0 (rnc (rqr rfl) rn0))) ln)) (qc (spb (lc (.rn (.plain _ (nld nl_i64 _))) (lc (.rn (.plain _ (nld nl_GUnit _))) ln))) qn)))⟩

def slices_ContainsFunc_plant_Unit_plant_UnitX_1 (N : Nat) (p0 : (List GUnit)) (p1 : (List Int)) (p2 : (List GUnit)) : Option Bool :=
  (slices_IndexFunc_plant_Unit_plant_UnitX_1 N p0 p1 p2).bind fun x3 =>
  some (decide (x3 ≥ 0))
def z45_0 : Slot := .own 1 [[(.fn (.func 104) [] [(.ref 1 2 (0) 0)])]]
def z45_1 (p1 : (List Int)) (p2 : (List GUnit)) : Slot := .own 2 [[(.dat 1 ((p1 : List Int).map c_i64)), (.dat 2 ((p2 : List GUnit).map c_GUnit))]]
set_option maxRecDepth 100000 in
set_option maxHeartbeats 4000000 in
theorem slices_ContainsFunc_plant_Unit_plant_UnitX_1_ok (N : Nat) (p0 : (List GUnit)) (p1 : (List Int)) (p2 : (List GUnit)) (r : Bool) (h : slices_ContainsFunc_plant_Unit_plant_UnitX_1 N p0 p1 p2 = some r) : Spec Try.prog 121 [(.dat 2 ((p0 : List GUnit).map c_GUnit)), (.fn (.func 122) [] [(.ref 0 1 (0) 0)])] [z45_0, (z45_1 p1 p2)] (B (r)) [z45_0, (z45_1 p1 p2)] := by
  refine spec_of_awp Try.func121 rfl 2 (nle rfl) (fun X φ0 w0 hφ0 => ?_)
  unfold slices_ContainsFunc_plant_Unit_plant_UnitX_1 at h
  refine awp_finm ?_
  refine wx tbk [] trivial ?_
  obtain ⟨x3, hf2, h⟩ := bno h
  refine wx tbk [(2, ⟨[fu 132, (.tmp 5, (.dat 2 ((p0 : List GUnit).map c_GUnit))), (.tmp 6, (.fn (.func 122) [] [.ref 0 1 0 0]))], [(0, z45_0), (1, (z45_1 p1 p2))], I x3, [(0, z45_0), (1, (z45_1 p1 p2))], false⟩)] ⟨astep_callq (first := []) (cap := []) (vs := [(.dat 2 ((p0 : List GUnit).map c_GUnit)), (.fn (.func 122) [] [.ref 0 1 0 0])]) (σr := [z45_0, (z45_1 p1 p2)]) (σr' := [z45_0, (z45_1 p1 p2)]) (res' := (I x3)) [0, 1] rfl enter132 (slices_IndexFunc_plant_Unit_plant_UnitX_1_ok N p0 p1 p2 _ hf2) rfl (rn_agg (rnc (.plain _ (nld nl_GUnit _)) (rnc (rn_fn rn0 (rnc (rnk_ref rfl) rn0)) rn0))) (slc (srn_box (rnc (rn_fn rn0 (rnc (rnk_ref rfl) rn0)) rn0)) (slc (srn_box (rnc (.plain _ (nld nl_i64 _)) (rnc (.plain _ (nld nl_GUnit _)) rn0))) slw_nil)) (slc (srn_box (rnc (rn_fn rn0 (rnc (rnj_ref rfl) rn0)) rn0)) (slc (srn_box (rnc (.plain _ (nld nl_i64 _)) (rnc (.plain _ (nld nl_GUnit _)) rn0))) slw_nil)) (.plain _ nll) rfl rfl rfl, trivial⟩ ?_
  refine wmr (mto (n := 9) (l' := [(4, (B ((decide (x3 ≥ 0)))))]) (own' := [z45_0, (z45_1 p1 p2)]) [(4, (B ((decide (x3 ≥ 0)))))] [0, 1] [z45_0, (z45_1 p1 p2)] hφ0 (pc rwl pn) (qc (spb (lc (.rn (rn_fn rn0 (rnc (rqr rfl) rn0))) ln)) (qc (spb (lc (.rn (.plain _ (nld nl_i64 _))) (lc (.rn (.plain _ (nld nl_GUnit _))) ln))) qn))) ?_
  refine awp_ret ?_
  obtain rfl := osi h
  exact ⟨_, Mor.rfl, fin_of (vs := [(B ((decide (x3 ≥ 0))))]) ⟨rot (by kernel_rfl), trivial⟩ rfl (NLt.of0 nll) (by kernel_rfl) (snl_cons (snl_box (nlc (NLt.fn _ _ _ nl0 (nlc (NLt.ref _ _ _ _ (by decide)) nl0)) nl0)) (snl_cons (snl_box (nlc (NLt.of0 (nld nl_i64 _)) (nlc (NLt.of0 (nld nl_GUnit _)) nl0))) snl_nil))⟩

def plant_all_plant_UnitX_1 (N : Nat) (p0 : (List GUnit)) (p1 : (List Int)) (p2 : (List GUnit)) : Option Bool :=
  (slices_ContainsFunc_plant_Unit_plant_UnitX_1 N p0 p1 p2).bind fun x3 =>
  some (!x3)
def z44_1 (p1 : (List Int)) (p2 : (List GUnit)) : Slot := .own 2 [[(.dat 1 ((p1 : List Int).map c_i64)), (.dat 2 ((p2 : List GUnit).map c_GUnit))]]
def z44_0 : Slot := .own 1 [[(.fn (.func 104) [] [(.ref 0 2 (0) 0)])]]
set_option maxRecDepth 100000 in
set_option maxHeartbeats 4000000 in
theorem plant_all_plant_UnitX_1_ok (N : Nat) (p0 : (List GUnit)) (p1 : (List Int)) (p2 : (List GUnit)) (r : Bool) (h : plant_all_plant_UnitX_1 N p0 p1 p2 = some r) : Spec Try.prog 103 [(.dat 2 ((p0 : List GUnit).map c_GUnit)), (.fn (.func 104) [] [(.ref 0 2 (0) 0)])] [(z44_1 p1 p2)] (B (r)) [(z44_1 p1 p2)] := by
  refine spec_of_awp Try.func103 rfl 1 (nle rfl) (fun X φ0 w0 hφ0 => ?_)
  unfold plant_all_plant_UnitX_1 at h
  refine awp_finm ?_
  refine wx tbk [] trivial ?_
  obtain ⟨x3, hf2, h⟩ := bno h
  refine wx tbk [(1, rp [(.tmp 3, .ref 1 1 0 0)] (.fn (.func 122) [] [.ref 1 1 0 0])), (2, ⟨[fu 121, (.tmp 5, (.dat 2 ((p0 : List GUnit).map c_GUnit))), (.tmp 6, (.fn (.func 122) [] [.ref 1 1 0 0]))], [(1, z44_0), (0, (z44_1 p1 p2))], B x3, [(1, z44_0), (0, (z44_1 p1 p2))], false⟩)] ⟨astep_func (fs := []) (cs := [.ref 1 1 0 0]) rfl rfl rfl rfl, astep_callq (first := []) (cap := []) (vs := [(.dat 2 ((p0 : List GUnit).map c_GUnit)), (.fn (.func 122) [] [.ref 1 1 0 0])]) (σr := [z44_0, (z44_1 p1 p2)]) (σr' := [z44_0, (z44_1 p1 p2)]) (res' := (B x3)) [1, 0] rfl enter121 (slices_ContainsFunc_plant_Unit_plant_UnitX_1_ok N p0 p1 p2 _ hf2) rfl (rn_agg (rnc (.plain _ (nld nl_GUnit _)) (rnc (rn_fn rn0 (rnc (rnk_ref rfl) rn0)) rn0))) (slc (srn_box (rnc (rn_fn rn0 (rnc (rnk_ref rfl) rn0)) rn0)) (slc (srn_box (rnc (.plain _ (nld nl_i64 _)) (rnc (.plain _ (nld nl_GUnit _)) rn0))) slw_nil)) (slc (srn_box (rnc (rn_fn rn0 (rnc (rnj_ref rfl) rn0)) rn0)) (slc (srn_box (rnc (.plain _ (nld nl_i64 _)) (rnc (.plain _ (nld nl_GUnit _)) rn0))) slw_nil)) (.plain _ nll) rfl rfl rfl, trivial⟩ ?_
  refine wmr (mto (n := 9) (l' := [(4, (B ((!x3))))]) (own' := [(z44_1 p1 p2)]) [(4, (B ((!x3))))] [0] [(z44_1 p1 p2)] hφ0 (pc rwl pn) (qc (spb (lc (.rn (.plain _ (nld nl_i64 _))) (lc (.rn (.plain _ (nld nl_GUnit _))) ln))) qn)) ?_
  refine awp_ret ?_
  obtain rfl := osi h
  exact ⟨_, Mor.rfl, fin_of (vs := [(B ((!x3)))]) ⟨rot (by kernel_rfl), trivial⟩ rfl (NLt.of0 nll) (by kernel_rfl) (snl_cons (snl_box (nlc (NLt.of0 (nld nl_i64 _)) (nlc (NLt.of0 (nld nl_GUnit _)) nl0))) snl_nil)⟩

def plant_shared_validX (N : Nat) (p0 : GShared) : Option Bool :=
  (plant_withinX N (p0.heads.length : Int) 1 6).bind fun x2 =>
  bif x2 then
   (plant_all_intX_1 N p0.heads).bind fun x5 =>
   bif x5 then
    (plant_withinX N (p0.units.length : Int) 1 10).bind fun x8 =>
    bif x8 then
     (plant_all_plant_UnitX_1 N p0.units p0.heads p0.units).bind fun x11 =>
     some x11
    else
     some false
   else
    some false
  else
   some false
def z38_0 (p0 : GShared) : AV := .dat 2 ((p0.units : List GUnit).map c_GUnit)
def z38_1 (p0 : GShared) : Slot := .own 2 [[(.dat 1 ((p0.heads : List Int).map c_i64)), (z38_0 p0)]]
set_option maxRecDepth 100000 in
set_option maxHeartbeats 4000000 in
theorem plant_shared_validX_ok (N : Nat) (p0 : GShared) (r : Bool) (h : plant_shared_validX N p0 = some r) : Spec Try.prog 80 [(.agg (c_GShared p0))] [] (B r) [] := by
  refine spec_of_awp Try.func80 rfl 0 (nle rfl) (fun X φ0 w0 hφ0 => ?_)
  unfold plant_shared_validX at h
  refine wx tbk [] trivial ?_
  obtain ⟨x2, hf1, h⟩ := bno h
  rcases bft (x2) with hb3 | hb3
  ·replace h := bif_t hb3 h
   obtain ⟨x5, hf4, h⟩ := bno h
   rcases bft (x5) with hb6 | hb6
   ·replace h := bif_t hb6 h
    obtain ⟨x8, hf7, h⟩ := bno h
    rcases bft (x8) with hb9 | hb9
    ·replace h := bif_t hb9 h
     obtain ⟨x11, hf10, h⟩ := bno h
     refine wx tbk [(2, rp [(.tmp 4, (.dat 1 ((p0.heads : List Int).map c_i64)))] (I ((p0.heads.length : Int)))), (3, rp [fu 65, (.tmp 5, (I ((p0.heads.length : Int)))), ci 1, ci 6] (B x2)), (4, rp [(.tmp 6, B x2)] (B true)), (7, rp [(.tmp 7, B true), fu 89, (.tmp 9, (.dat 1 ((p0.heads : List Int).map c_i64))), fu 102] (B x5)), (9, rp [(.tmp 11, B x5)] (B true)), (12, rp [(.tmp 12, B true), (.tmp 14, (z38_0 p0))] (I ((p0.units.length : Int)))), (13, rp [(.tmp 12, B true), fu 65, (.tmp 15, (I ((p0.units.length : Int)))), ci 1, ci 10] (B x8)), (15, rp [(.tmp 17, B x8)] (B true)), (18, rp [(.tmp 18, B true), (.tmp 1, .ref 0 2 0 0)] (.fn (.func 104) [] [.ref 0 2 0 0])), (19, ⟨[(.tmp 18, B true), fu 103, (.tmp 20, (z38_0 p0)), (.tmp 21, (.fn (.func 104) [] [.ref 0 2 0 0]))], [(0, (z38_1 p0))], B x11, [(0, (z38_1 p0))], false⟩)] ⟨alm (c := c_i64) (l := p0.heads) (aln rfl Try.underlying37 rfl), apc (first := []) (cap := []) (vs := [(I ((p0.heads.length : Int))), I 1, I 6]) rfl enter65 (plant_withinX_ok N (p0.heads.length : Int) 1 6 _ hf1) rfl rfl (nlc nll (nlc nll (nlc nll nl0))) nll rfl, asb hb3 (amv rfl), ag_ (astep_callq (first := []) (cap := []) (vs := [(.dat 1 ((p0.heads : List Int).map c_i64)), (.fn (.func 102) [] [])]) (σr := []) (σr' := []) (res' := (B x5)) [] rfl enter89 (plant_all_intX_1_ok N p0.heads _ hf4) rfl (rn_agg (rnc (.plain _ (nld nl_i64 _)) (rnc (.plain _ (NLt.fn _ _ _ nl0 nl0)) rn0))) slw_nil slw_nil (.plain _ nll) rfl rfl rfl), asb hb6 (amv rfl), ag_ (alm (c := c_GUnit) (l := p0.units) (aln rfl Try.underlying89 rfl)), ag_ (apc (first := []) (cap := []) (vs := [(I ((p0.units.length : Int))), I 1, I 10]) rfl enter65 (plant_withinX_ok N (p0.units.length : Int) 1 10 _ hf7) rfl rfl (nlc nll (nlc nll (nlc nll nl0))) nll rfl), asb hb9 (amv rfl), ag_ (astep_func (fs := []) (cs := [.ref 0 2 0 0]) rfl rfl rfl rfl), ag_ (astep_callq (first := []) (cap := []) (vs := [(z38_0 p0), (.fn (.func 104) [] [.ref 0 2 0 0])]) (σr := [(z38_1 p0)]) (σr' := [(z38_1 p0)]) (res' := (B x11)) [0] rfl enter103 (plant_all_plant_UnitX_1_ok N p0.units p0.heads p0.units _ hf10) rfl (rn_agg (rnc (.plain _ (nld nl_GUnit _)) (rnc (rn_fn rn0 (rnc (rnk_ref rfl) rn0)) rn0))) (slc (srn_box (rnc (.plain _ (nld nl_i64 _)) (rnc (.plain _ (nld nl_GUnit _)) rn0))) slw_nil) (slc (srn_box (rnc (.plain _ (nld nl_i64 _)) (rnc (.plain _ (nld nl_GUnit _)) rn0))) slw_nil) (.plain _ nll) rfl rfl rfl), trivial⟩ ?_
     refine awp_ret ?_
     obtain rfl := osi h
     exact ⟨⟨[B x11], ⟨rot (by kernel_rfl), trivial⟩, rfl⟩, nll, Nat.le_refl _, fun n hn => absurd hn (Nat.not_lt_zero n)⟩
    ·replace h := bif_f hb9 h
     refine wx tbk [(2, rp [(.tmp 4, (.dat 1 ((p0.heads : List Int).map c_i64)))] (I ((p0.heads.length : Int)))), (3, rp [fu 65, (.tmp 5, (I ((p0.heads.length : Int)))), ci 1, ci 6] (B x2)), (4, rp [(.tmp 6, B x2)] (B true)), (7, rp [(.tmp 7, B true), fu 89, (.tmp 9, (.dat 1 ((p0.heads : List Int).map c_i64))), fu 102] (B x5)), (9, rp [(.tmp 11, B x5)] (B true)), (12, rp [(.tmp 12, B true), (.tmp 14, (z38_0 p0))] (I ((p0.units.length : Int)))), (13, rp [(.tmp 12, B true), fu 65, (.tmp 15, (I ((p0.units.length : Int)))), ci 1, ci 10] (B x8)), (15, rp [(.tmp 17, B x8)] (B false))] ⟨alm (c := c_i64) (l := p0.heads) (aln rfl Try.underlying37 rfl), apc (first := []) (cap := []) (vs := [(I ((p0.heads.length : Int))), I 1, I 6]) rfl enter65 (plant_withinX_ok N (p0.heads.length : Int) 1 6 _ hf1) rfl rfl (nlc nll (nlc nll (nlc nll nl0))) nll rfl, asb hb3 (amv rfl), ag_ (astep_callq (first := []) (cap := []) (vs := [(.dat 1 ((p0.heads : List Int).map c_i64)), (.fn (.func 102) [] [])]) (σr := []) (σr' := []) (res' := (B x5)) [] rfl enter89 (plant_all_intX_1_ok N p0.heads _ hf4) rfl (rn_agg (rnc (.plain _ (nld nl_i64 _)) (rnc (.plain _ (NLt.fn _ _ _ nl0 nl0)) rn0))) slw_nil slw_nil (.plain _ nll) rfl rfl rfl), asb hb6 (amv rfl), ag_ (alm (c := c_GUnit) (l := p0.units) (aln rfl Try.underlying89 rfl)), ag_ (apc (first := []) (cap := []) (vs := [(I ((p0.units.length : Int))), I 1, I 10]) rfl enter65 (plant_withinX_ok N (p0.units.length : Int) 1 10 _ hf7) rfl rfl (nlc nll (nlc nll (nlc nll nl0))) nll rfl), asb hb9 (amv rfl), trivial⟩ ?_
     refine awp_ret ?_
     obtain rfl := osi h
     exact ⟨⟨[B false], ⟨rot (by kernel_rfl), trivial⟩, rfl⟩, nll, Nat.le_refl _, fun n hn => absurd hn (Nat.not_lt_zero n)⟩
   ·replace h := bif_f hb6 h
    refine wx tbk [(2, rp [(.tmp 4, (.dat 1 ((p0.heads : List Int).map c_i64)))] (I ((p0.heads.length : Int)))), (3, rp [fu 65, (.tmp 5, (I ((p0.heads.length : Int)))), ci 1, ci 6] (B x2)), (4, rp [(.tmp 6, B x2)] (B true)), (7, rp [(.tmp 7, B true), fu 89, (.tmp 9, (.dat 1 ((p0.heads : List Int).map c_i64))), fu 102] (B x5)), (9, rp [(.tmp 11, B x5)] (B false))] ⟨alm (c := c_i64) (l := p0.heads) (aln rfl Try.underlying37 rfl), apc (first := []) (cap := []) (vs := [(I ((p0.heads.length : Int))), I 1, I 6]) rfl enter65 (plant_withinX_ok N (p0.heads.length : Int) 1 6 _ hf1) rfl rfl (nlc nll (nlc nll (nlc nll nl0))) nll rfl, asb hb3 (amv rfl), ag_ (astep_callq (first := []) (cap := []) (vs := [(.dat 1 ((p0.heads : List Int).map c_i64)), (.fn (.func 102) [] [])]) (σr := []) (σr' := []) (res' := (B x5)) [] rfl enter89 (plant_all_intX_1_ok N p0.heads _ hf4) rfl (rn_agg (rnc (.plain _ (nld nl_i64 _)) (rnc (.plain _ (NLt.fn _ _ _ nl0 nl0)) rn0))) slw_nil slw_nil (.plain _ nll) rfl rfl rfl), asb hb6 (amv rfl), trivial⟩ ?_
    refine awp_ret ?_
    obtain rfl := osi h
    exact ⟨⟨[B false], ⟨rot (by kernel_rfl), trivial⟩, rfl⟩, nll, Nat.le_refl _, fun n hn => absurd hn (Nat.not_lt_zero n)⟩
  ·replace h := bif_f hb3 h
   refine wx tbk [(2, rp [(.tmp 4, (.dat 1 ((p0.heads : List Int).map c_i64)))] (I ((p0.heads.length : Int)))), (3, rp [fu 65, (.tmp 5, (I ((p0.heads.length : Int)))), ci 1, ci 6] (B x2)), (4, rp [(.tmp 6, B x2)] (B false))] ⟨alm (c := c_i64) (l := p0.heads) (aln rfl Try.underlying37 rfl), apc (first := []) (cap := []) (vs := [(I ((p0.heads.length : Int))), I 1, I 6]) rfl enter65 (plant_withinX_ok N (p0.heads.length : Int) 1 6 _ hf1) rfl rfl (nlc nll (nlc nll (nlc nll nl0))) nll rfl, asb hb3 (amv rfl), trivial⟩ ?_
   refine awp_ret ?_
   obtain rfl := osi h
   exact ⟨⟨[B false], ⟨rot (by kernel_rfl), trivial⟩, rfl⟩, nll, Nat.le_refl _, fun n hn => absurd hn (Nat.not_lt_zero n)⟩

def plant_shared_workX_loop1 (N : Nat) (p0 : GShared) (p1 : (List Int)) (k2 : Int → Option Int) : Nat → Int → Int → Option Int
  | 0, _, _ => none
  | n7 + 1, y3, y4 =>
    bif (decide (y4 < (p1.length : Int))) then
     (getI p1 y4).bind fun x9 =>
     (getI p0.units y4).bind fun x13 =>
     (plant_Unit_powerX N x13 x9).bind fun x18 =>
     plant_shared_workX_loop1 N p0 p1 k2 n7 (w64 (y3 + x18)) (w64 (y4 + 1))
    else
     k2 (y3)
def plant_shared_workX (N : Nat) (p0 : GShared) (p1 : (List Int)) : Option Int :=
  joinK (fun y1 =>
    some y1) fun k2 : Int → Option Int =>
  plant_shared_workX_loop1 N p0 p1 k2 N 0 0
def z49_0 (p0 : GShared) : AV := .dat 2 ((p0.units : List GUnit).map c_GUnit)
def z49_1 (p0 : GShared) : Slot := .own 2 [[(.dat 1 ((p0.heads : List Int).map c_i64)), (z49_0 p0)]]
def z49_7 (x13 : GUnit) : AV := .dat 2 ((x13.Parts : List GPart).map c_GPart)
set_option maxRecDepth 100000 in
set_option maxHeartbeats 4000000 in
theorem plant_shared_workX_ok (N : Nat) (p0 : GShared) (p1 : (List Int)) (r : Int) (h : plant_shared_workX N p0 p1 = some r) : Spec Try.prog 82 [(.agg (c_GShared p0)), (.dat 1 (p1.map c_i64))] [] (I r) [] := by
  refine spec_of_awp Try.func82 rfl 0 (nle rfl) (fun X φ0 w0 hφ0 => ?_)
  unfold plant_shared_workX at h
  refine wx tbk [] trivial ?_
  obtain ⟨k2, hk_k2, h⟩ := jko h
  refine wjn (τ := Int) (fun t => k2 t = some r) (fun y1 => ⟨mk 25 [(4, I y1)], []⟩) (fun y1 h => ?_) ?_
  ·subst hk_k2
   refine wx tbk [] trivial ?_
   refine awp_ret ?_
   obtain rfl := osi h
   exact ⟨⟨[I y1], ⟨rot (by kernel_rfl), trivial⟩, rfl⟩, nll, Nat.le_refl _, fun n hn => absurd hn (Nat.not_lt_zero n)⟩
  ·skip
   refine wx tbk [(1, rp [(.tmp 7, (.dat 1 ((p1 : List Int).map c_i64)))] (I ((p1.length : Int))))] ⟨alm (c := c_i64) (l := p1) (aln rfl Try.underlying37 rfl), trivial⟩ ?_
   refine awp_block ?_
   refine wmr (mto (n := 25) (l' := [(2, .ref 0 2 0 0), (4, I 0), (7, (.dat 1 ((p1 : List Int).map c_i64))), (8, (I ((p1.length : Int)))), (9, I 0)]) (own' := [(z49_1 p0)]) [(2, .ref 0 2 0 0), (4, I 0), (7, (.dat 1 ((p1 : List Int).map c_i64))), (8, (I ((p1.length : Int)))), (9, I 0)] [0] [(z49_1 p0)] hφ0 (pc (.rn (rqr rfl)) (pc rwl (pc (.rn (.plain _ (nld nl_i64 _))) (pc rwl (pc rwl pn))))) (qc (spb (lc (.rn (.plain _ (nld nl_i64 _))) (lc (.rn (.plain _ (nld nl_GUnit _))) ln))) qn)) ?_
   refine awp_ind (τ := Int × Int) (fun n t => plant_shared_workX_loop1 N p0 p1 k2 n t.1 t.2 = some r) (fun ⟨y3, y4⟩ => ⟨mk 25 [(2, .ref 0 2 0 0), (4, I y3), (7, (.dat 1 ((p1 : List Int).map c_i64))), (8, (I ((p1.length : Int)))), (9, I y4)], [(z49_1 p0)]⟩) (fun t h => by rw [plant_shared_workX_loop1] at h; cases h) (fun n7 ih t h => ?_) N (0, 0) h
   obtain ⟨y3, y4⟩ := t
   rw [plant_shared_workX_loop1] at h
   skip
   refine wx tbk [] trivial ?_
   refine wsq ?_
   rcases bft ((decide (y4 < (p1.length : Int)))) with hc8 | hc8
   ·replace h := bif_t hc8 h
    refine wft hc8 (by kernel_rfl) ?_
    refine awp_skip ?_
    refine thn ?_
    refine wsq ?_
    refine awp_block ?_
    obtain ⟨x9, hg10, h⟩ := bno h
    obtain ⟨hi11, hj12⟩ := gsm hg10
    refine wx tbk [(1, rp [(.tmp 7, (.dat 1 ((p1 : List Int).map c_i64))), (.tmp 9, I y4)] (.dptr (c_i64 (x9)) 0))] ⟨aid rfl Try.underlying37 ti3 rfl rfl hi11 (mgt c_i64 hj12) rfl, trivial⟩ ?_
    obtain ⟨x13, hg14, h⟩ := bno h
    obtain ⟨hi15, hj16⟩ := gsm hg14
    obtain ⟨x18, hf17, h⟩ := bno h
    refine wx1 tbk [(4, rp [(.tmp 16, (z49_0 p0)), (.tmp 17, I y4)] (.dptr (c_GUnit (x13)) 0)), (7, rp [fu 67, (.tmp 19, (.agg [I x13.Inlet, (z49_7 x13)])), (.tmp 20, I x9)] (I x18))] ⟨aid rfl Try.underlying89 ti34 rfl rfl hi15 (mgt c_GUnit hj16) rfl, apc (first := []) (cap := []) (vs := [(.agg [I x13.Inlet, (z49_7 x13)]), I x9]) rfl enter67 (plant_Unit_powerX_ok N x13 x9 _ hf17) rfl rfl (nlc (NLt.agg _ (nlc nll (nlc (nld nl_GPart _) nl0))) (nlc nll nl0)) nll rfl, trivial⟩ ?_
    refine bln ?_
    refine thn ?_
    refine wx1 tbk [] trivial ?_
    refine thn ?_
    exact arm (mto (n := 25) [(2, .ref 0 2 0 0), (4, (I (w64 (y3 + x18)))), (7, (.dat 1 ((p1 : List Int).map c_i64))), (8, (I ((p1.length : Int)))), (9, (I (w64 (y4 + 1))))] [0] [(z49_1 p0)] hφ0 (pc (.rn (rqr rfl)) (pc rwl (pc (.rn (.plain _ (nld nl_i64 _))) (pc rwl (pc rwl pn))))) (qc (spb (lc (.rn (.plain _ (nld nl_i64 _))) (lc (.rn (.plain _ (nld nl_GUnit _))) ln))) qn)) (ih (w64 (y3 + x18), w64 (y4 + 1)) h)
   ·replace h := bif_f hc8 h
    refine wfn hc8 (by kernel_rfl) ?_
    refine awp_exit ?_
    refine thenA_x ?_
    refine thenA_x ?_
    refine blockA_e rfl ?_
    refine thn ?_
    exact ⟨(y3), h, (mto (n := 25) [(4, I y3)] [] [] hφ0 (pc rwl pn) qn)⟩

def plant_ShareX_loop1 (N : Nat) (p0 : (List Int)) (y7 : (List Int)) (k10 : (List Int) → Option ((List Int) × Int × (List Int) × Int)) : Nat → (List Int) → Int → Int → Option ((List Int) × Int × (List Int) × Int)
  | 0, _, _, _ => none
  | n19 + 1, y13, y14, y15 =>
    bif (decide (y15 < (((p0.length : Int).toNat : Nat) : Int))) then
     chk (decide (0 ≤ y15) && decide (y15.toNat < (p0.length : Int).toNat)) <|
     (y7[y15.toNat]?).bind fun x22 =>
     chk (decide ((y13.length + ([w64 (x22 - y14)]).length) * 8 ≤ 140737488355328)) <|
     plant_ShareX_loop1 N p0 y7 k10 n19 (y13 ++ ([w64 (x22 - y14)])) x22 (w64 (y15 + 1))
    else
     k10 (y13)
def plant_ShareX_loop3 (N : Nat) (p0 : (List Int)) (k32 : (List Int) → Option ((List Int) × Int × (List Int) × Int)) (x37 : Int) : Nat → Int → (List Int) → Option ((List Int) × Int × (List Int) × Int)
  | 0, _, _ => none
  | n48 + 1, y44, y45 =>
    bif (decide (y44 < (((p0.length : Int).toNat : Nat) : Int))) then
     chk (decide (0 ≤ y44) && decide (y44.toNat < (p0.length : Int).toNat)) <|
     (y45[y44.toNat]?).bind fun x51 =>
     chk (decide (0 ≤ y44) && decide (y44.toNat < (p0.length : Int).toNat)) <|
     (y45[y44.toNat]?).bind fun _ =>
     plant_ShareX_loop3 N p0 k32 x37 n48 (w64 (y44 + 1)) (y45.set y44.toNat (if x37 > x51 then x37 else x51))
    else
     k32 (y45)
def plant_ShareX_loop4 (N : Nat) (x5 : ((List Int) × (List Int) × (List Int))) (k43 : Int → Option ((List Int) × Int × (List Int) × Int)) : Nat → Int → Option ((List Int) × Int × (List Int) × Int)
  | 0, _ => none
  | n58 + 1, y56 =>
    (getI x5.2.1 y56).bind fun x59 =>
    bif (decide (x59 > 0)) then
     plant_ShareX_loop4 N x5 k43 n58 (w64 (y56 - 1))
    else
     k43 (y56)
def plant_ShareX_loop2 (N : Nat) (p0 : (List Int)) (p1 : (List GUnit)) (x5 : ((List Int) × (List Int) × (List Int))) (k8 : (List Int) → Option ((List Int) × Int × (List Int) × Int)) : Nat → Int → (List Int) → Option ((List Int) × Int × (List Int) × Int)
  | 0, _, _ => none
  | n29 + 1, y25, y26 =>
    bif (decide (y25 < (p1.length : Int))) then
     joinK (fun y31 =>
       plant_ShareX_loop2 N p0 p1 x5 k8 n29 (w64 (y25 + 1)) y31) fun k32 : (List Int) → Option ((List Int) × Int × (List Int) × Int) =>
     (getI p1 y25).bind fun x33 =>
     (getI x5.2.2 y25).bind fun x37 =>
     bif (decide (x37 ≤ 0)) then
      k32 (y26)
     else
      joinK (fun y42 =>
        plant_ShareX_loop3 N p0 k32 x37 N y42 y26) fun k43 : Int → Option ((List Int) × Int × (List Int) × Int) =>
      plant_ShareX_loop4 N x5 k43 N x33.Inlet
    else
     k8 (y26)
def plant_ShareX (N : Nat) (p0 : (List Int)) (p1 : (List GUnit)) : Option ((List Int) × Int × (List Int) × Int) :=
  (plant_shared_validX N (⟨p0, p1⟩ : GShared)).bind fun x2 =>
  bif (!x2) then
   some ([], 0, [], 1)
  else
   (plant_shared_bestX N (⟨p0, p1⟩ : GShared)).bind fun x5 =>
   chk (decide (0 ≤ (p0.length : Int)) && decide (8 * (p0.length : Int) ≤ 281474976710656) && decide ((p0.length : Int) ≤ 9223372036854775807)) <|
   joinK (fun y7 =>
     joinK (fun y9 =>
       (plant_shared_workX N (⟨p0, p1⟩ : GShared) x5.1).bind fun x12 =>
       some (x5.1, x12, y9, 0)) fun k10 : (List Int) → Option ((List Int) × Int × (List Int) × Int) =>
     plant_ShareX_loop1 N p0 y7 k10 N ([]) 0 0) fun k8 : (List Int) → Option ((List Int) × Int × (List Int) × Int) =>
   plant_ShareX_loop2 N p0 p1 x5 k8 N 0 (List.replicate (p0.length : Int).toNat 0)
def z37_0 (p0 : (List Int)) (p1 : (List GUnit)) : AV := .agg [(.dat 1 ((p0 : List Int).map c_i64)), (.dat 2 ((p1 : List GUnit).map c_GUnit))]
def z37_2 (p0 : (List Int)) : Slot := .own 1 ((List.replicate (p0.length : Int).toNat 0 : List Int).map c_i64)
def z37_1 (p0 : (List Int)) (p1 : (List GUnit)) : Slot := .own 2 [[(.dat 1 ((p0 : List Int).map c_i64)), (.dat 2 ((p1 : List GUnit).map c_GUnit))]]
def z37_41 (x22 : Int) (y14 : Int) : AV := .dat 1 (([w64 (x22 - y14)] : List Int).map c_i64)
def z37_42 (y13 : (List Int)) (x22 : Int) (y14 : Int) : AV := .acc 3 3 1 ((y13 ++ ([w64 (x22 - y14)]) : List Int).map c_i64)
def z37_6 (p0 : (List Int)) : Slot := .own 1 (((List.replicate (p0.length : Int).toNat 0) : List Int).map c_i64)
def z37_68 (y45 : (List Int)) (y44 : Int) (x37 : Int) (x51 : Int) : Slot := .own 1 ((y45.set y44.toNat (if x37 > x51 then x37 else x51) : List Int).map c_i64)
set_option maxRecDepth 100000 in
set_option maxHeartbeats 4000000 in
theorem plant_ShareX_ok (N : Nat) (p0 : (List Int)) (p1 : (List GUnit)) (r : ((List Int) × Int × (List Int) × Int)) (h : plant_ShareX N p0 p1 = some r) : Spec Try.prog 44 [(.dat 1 (p0.map c_i64)), (.dat 2 (p1.map c_GUnit))] [] (.tup [(.dat 1 (r.1.map c_i64)), (I r.2.1), (.dat 1 (r.2.2.1.map c_i64)), (I r.2.2.2)]) [] := by
  refine spec_of_awp Try.func44 rfl 0 (nle rfl) (fun X φ0 w0 hφ0 => ?_)
  unfold plant_ShareX at h
  refine wx tbk [] trivial ?_
  refine wx tbk [(2, rp [(.tmp 18, (.dat 1 ((p0 : List Int).map c_i64))), (.tmp 19, (.dat 2 ((p1 : List GUnit).map c_GUnit)))] (z37_0 p0 p1))] ⟨astep_build (vs := [(.dat 1 ((p0 : List Int).map c_i64)), (.dat 2 ((p1 : List GUnit).map c_GUnit))]) rfl ts133 tz133 rfl (by rfl) rfl, trivial⟩ ?_
  refine wsq ?_
  obtain ⟨x2, hf1, h⟩ := bno h
  refine wx tbk [(1, rp [fu 80, (.tmp 21, (z37_0 p0 p1))] (B x2))] ⟨apc (first := []) (cap := []) (vs := [(z37_0 p0 p1)]) rfl enter80 (plant_shared_validX_ok N (⟨p0, p1⟩ : GShared) _ hf1) rfl rfl (nlc (NLt.agg _ (nlc (nld nl_i64 _) (nlc (nld nl_GUnit _) nl0))) nl0) nll rfl, trivial⟩ ?_
  rcases bft ((!x2)) with hc3 | hc3
  ·replace h := bif_t hc3 h
   refine wft hc3 (by kernel_rfl) ?_
   refine wx tbk [] trivial ?_
   refine awp_ret ?_
   refine thenA_r ?_
   obtain rfl := osi h
   exact ⟨⟨[(.dat 1 (([] : List Int).map c_i64)), I 0, (.dat 1 (([] : List Int).map c_i64)), I 1], ⟨resOK_less (v := nilS) (rot (by kernel_rfl)) Less.nil, rot (by kernel_rfl), resOK_less (v := nilS) (rot (by kernel_rfl)) Less.nil, rot (by kernel_rfl), trivial⟩, rfl⟩, (NLt.tup _ (nlc (nld nl_i64 _) (nlc nll (nlc (nld nl_i64 _) (nlc nll nl0))))), Nat.le_refl _, fun n hn => absurd hn (Nat.not_lt_zero n)⟩
  ·replace h := bif_f hc3 h
   refine wfn hc3 (by kernel_rfl) ?_
   refine awp_skip ?_
   refine thn ?_
   obtain ⟨x5, hf4, h⟩ := bno h
   refine wx tbk [(1, rp [fu 81, (.tmp 25, (z37_0 p0 p1))] (.tup [(.dat 1 ((x5.1 : List Int).map c_i64)), (.dat 1 ((x5.2.1 : List Int).map c_i64)), (.dat 1 ((x5.2.2 : List Int).map c_i64))]))] ⟨apc (first := []) (cap := []) (vs := [(z37_0 p0 p1)]) rfl enter81 (plant_shared_bestX_ok N (⟨p0, p1⟩ : GShared) _ hf4) rfl rfl (nlc (NLt.agg _ (nlc (nld nl_i64 _) (nlc (nld nl_GUnit _) nl0))) nl0) (NLt.tup _ (nlc (nld nl_i64 _) (nlc (nld nl_i64 _) (nlc (nld nl_i64 _) nl0)))) rfl, trivial⟩ ?_
   obtain ⟨hm6, h⟩ := cko h
   refine wx tbk [(1, rp [(.tmp 30, (.dat 1 ((p0 : List Int).map c_i64)))] (I ((p0.length : Int)))), (2, ⟨[(.tmp 31, (I ((p0.length : Int)))), (.tmp 31, (I ((p0.length : Int))))], [(1, .unused)], (.own 1 1 (0) ((p0.length : Int).toNat)), [(1, (z37_2 p0))], false⟩)] ⟨alm (c := c_i64) (l := p0) (aln rfl Try.underlying37 rfl), astep_make rfl Try.underlying37 te3 tz3 rfl (and3a hm6) rfl (and3b hm6) (and3c' hm6) (rep_map c_i64 rfl), trivial⟩ ?_
   obtain ⟨k8, hk_k8, h⟩ := jko h
   refine wjn (τ := (List Int)) (fun t => k8 t = some r) (fun y7 => ⟨mk 92 [(4, (.dat 1 ((x5.1 : List Int).map c_i64))), (6, nilS), (8, .ref 0 2 0 0), (11, (.own 1 1 (0) ((p0.length : Int).toNat)))], [(z37_1 p0 p1), (.own 1 ((y7 : List Int).map c_i64))]⟩) (fun y7 h => ?_) ?_
   ·subst hk_k8
    refine wx tbk [] trivial ?_
    obtain ⟨k10, hk_k10, h⟩ := jko h
    refine wjn (τ := (List Int)) (fun t => k10 t = some r) (fun y9 => ⟨mk 92 [(4, (.dat 1 ((x5.1 : List Int).map c_i64))), (6, (.acc 0 3 1 ((y9 : List Int).map c_i64))), (8, .ref 1 2 0 0)], [.tok, (z37_1 p0 p1)]⟩) (fun y9 h => ?_) ?_
    ·subst hk_k10
     obtain ⟨x12, hf11, h⟩ := bno h
     refine wx tbk [(3, rp [fu 82, (.tmp 88, (z37_0 p0 p1)), (.tmp 89, (.dat 1 ((x5.1 : List Int).map c_i64)))] (I x12))] ⟨apc (first := []) (cap := []) (vs := [(z37_0 p0 p1), (.dat 1 ((x5.1 : List Int).map c_i64))]) rfl enter82 (plant_shared_workX_ok N (⟨p0, p1⟩ : GShared) x5.1 _ hf11) rfl rfl (nlc (NLt.agg _ (nlc (nld nl_i64 _) (nlc (nld nl_GUnit _) nl0))) (nlc (nld nl_i64 _) nl0)) nll rfl, trivial⟩ ?_
     refine awp_ret ?_
     obtain rfl := osi h
     exact ⟨⟨[(.dat 1 ((x5.1 : List Int).map c_i64)), I x12, (.dat 1 ((y9 : List Int).map c_i64)), I 0], ⟨rot (by kernel_rfl), rot (by kernel_rfl), resOK_less (v := (.acc 0 3 1 ((y9 : List Int).map c_i64))) (rot (by kernel_rfl)) Less.acc, rot (by kernel_rfl), trivial⟩, rfl⟩, (NLt.tup _ (nlc (nld nl_i64 _) (nlc nll (nlc (nld nl_i64 _) (nlc nll nl0))))), Nat.le_refl _, fun n hn => absurd hn (Nat.not_lt_zero n)⟩
    ·skip
     refine wx tbk [(1, rp [(.tmp 73, (.own 1 1 (0) ((p0.length : Int).toNat)))] (I ((((p0.length : Int).toNat : Nat) : Int))))] ⟨aln rfl Try.underlying37 rfl, trivial⟩ ?_
     refine awp_block ?_
     refine wmr (Mor.trans (mor_nil 2 3 1 6 (by kernel_rfl) (by kernel_rfl)) (mto (n := 92) (l' := [(4, (.dat 1 ((x5.1 : List Int).map c_i64))), (6, (.acc 0 3 1 ((([]) : List Int).map c_i64))), (8, .ref 1 2 0 0), (15, I 0), (73, (.own 2 1 (0) ((p0.length : Int).toNat))), (74, (I ((((p0.length : Int).toNat : Nat) : Int)))), (75, I 0)]) (own' := [.tok, (z37_1 p0 p1), (.own 1 ((y7 : List Int).map c_i64))]) [(4, (.dat 1 ((x5.1 : List Int).map c_i64))), (6, (.acc 2 3 1 (([] : List Int).map c_i64))), (8, .ref 0 2 0 0), (15, I 0), (73, (.own 1 1 (0) ((p0.length : Int).toNat))), (74, (I ((((p0.length : Int).toNat : Nat) : Int)))), (75, I 0)] [2, 0, 1] [.tok, (z37_1 p0 p1), (.own 1 ((y7 : List Int).map c_i64))] hφ0 (pc (.rn (.plain _ (nld nl_i64 _))) (pc (.rn (rnq_acc rfl (nl_rows nl_i64 _))) (pc (.rn (rqr rfl)) (pc rwl (pc (.rn (rnq_own rfl)) (pc rwl (pc rwl pn))))))) (qc .tok (qc (spb (lc (.rn (.plain _ (nld nl_i64 _))) (lc (.rn (.plain _ (nld nl_GUnit _))) ln))) (qc (spr nl_i64) qn))))) ?_
     refine awp_ind (τ := (List Int) × Int × Int) (fun n t => plant_ShareX_loop1 N p0 y7 k10 n t.1 t.2.1 t.2.2 = some r) (fun ⟨y13, y14, y15⟩ => ⟨mk 92 [(4, (.dat 1 ((x5.1 : List Int).map c_i64))), (6, (.acc 0 3 1 ((y13 : List Int).map c_i64))), (8, .ref 1 2 0 0), (15, I y14), (73, (.own 2 1 (0) ((p0.length : Int).toNat))), (74, (I ((((p0.length : Int).toNat : Nat) : Int)))), (75, I y15)], [.tok, (z37_1 p0 p1), (.own 1 ((y7 : List Int).map c_i64))]⟩) (fun t h => by rw [plant_ShareX_loop1] at h; cases h) (fun n19 ih t h => ?_) N ([], 0, 0) h
     obtain ⟨y13, y14, y15⟩ := t
     rw [plant_ShareX_loop1] at h
     skip
     refine wx tbk [] trivial ?_
     refine wsq ?_
     rcases bft ((decide (y15 < (((p0.length : Int).toNat : Nat) : Int)))) with hc20 | hc20
     ·replace h := bif_t hc20 h
      refine wft hc20 (by kernel_rfl) ?_
      refine awp_skip ?_
      refine thn ?_
      refine wsq ?_
      refine awp_block ?_
      obtain ⟨hi21, h⟩ := cko h
      obtain ⟨hi21a, hi21b⟩ := and_out hi21
      obtain ⟨x22, hg23, h⟩ := bno h
      refine wx tbk [(0, rb [(.tmp 73, (.own 2 1 (0) ((p0.length : Int).toNat))), (.tmp 75, I y15)] [(2, (.own 1 ((y7 : List Int).map c_i64)))] (.ref 2 1 (y15.toNat) 0)), (1, rb [(.tmp 77, (.ref 2 1 (y15.toNat) 0))] [(2, (.own 1 ((y7 : List Int).map c_i64)))] (I x22))] ⟨aio rfl Try.underlying37 ti3 (odt hi21a) (odt hi21b) (Nat.zero_add _), ald rfl ti3 (by decide) (mgt c_i64 hg23) (nle rfl) rfl, trivial⟩ ?_
      obtain ⟨ha24, h⟩ := cko h
      refine wx tbk [(4, rp [(.tmp 82, (I (w64 (x22 - y14))))] (z37_41 x22 y14)), (5, ⟨[(.tmp 79, (.acc 0 3 1 ((y13 : List Int).map c_i64))), (.tmp 83, (z37_41 x22 y14))], [(0, .tok), (3, .unused)], (z37_42 y13 x22 y14), [(0, .dead), (3, .tok)], false⟩)] ⟨astep_bslice (vs := [(I (w64 (x22 - y14)))]) rfl Try.underlying37 ti3 tz3 rfl (by decide) rfl (by decide) (by rfl) (by rfl) (by rfl) rfl, astep_app rfl Try.underlying37 te3 (Base.acc _ _) rfl rfl (by rfl) (app_le1 c_i64 ha24) (app_le2 c_i64 ha24 (by decide)) (app_map c_i64) rfl rfl, trivial⟩ ?_
      refine wx1 tbk [] trivial ?_
      refine bln ?_
      refine thn ?_
      refine wx1 tbk [] trivial ?_
      refine thn ?_
      exact arm (mto (n := 92) [(4, (.dat 1 ((x5.1 : List Int).map c_i64))), (6, (z37_42 y13 x22 y14)), (8, .ref 1 2 0 0), (15, I x22), (73, (.own 2 1 (0) ((p0.length : Int).toNat))), (74, (I ((((p0.length : Int).toNat : Nat) : Int)))), (75, (I (w64 (y15 + 1))))] [3, 1, 2] [.tok, (z37_1 p0 p1), (.own 1 ((y7 : List Int).map c_i64))] hφ0 (pc (.rn (.plain _ (nld nl_i64 _))) (pc (.rn (rnq_acc rfl (nl_rows nl_i64 _))) (pc (.rn (rqr rfl)) (pc rwl (pc (.rn (rnq_own rfl)) (pc rwl (pc rwl pn))))))) (qc .tok (qc (spb (lc (.rn (.plain _ (nld nl_i64 _))) (lc (.rn (.plain _ (nld nl_GUnit _))) ln))) (qc (spr nl_i64) qn)))) (ih (y13 ++ ([w64 (x22 - y14)]), x22, w64 (y15 + 1)) h)
     ·replace h := bif_f hc20 h
      refine wfn hc20 (by kernel_rfl) ?_
      refine awp_exit ?_
      refine thenA_x ?_
      refine thenA_x ?_
      refine blockA_e rfl ?_
      refine thn ?_
      exact ⟨(y13), h, (mto (n := 92) [(4, (.dat 1 ((x5.1 : List Int).map c_i64))), (6, (.acc 0 3 1 ((y13 : List Int).map c_i64))), (8, .ref 1 2 0 0)] [0, 1] [.tok, (z37_1 p0 p1)] hφ0 (pc (.rn (.plain _ (nld nl_i64 _))) (pc (.rn (rnq_acc rfl (nl_rows nl_i64 _))) (pc (.rn (rqr rfl)) pn))) (qc .tok (qc (spb (lc (.rn (.plain _ (nld nl_i64 _))) (lc (.rn (.plain _ (nld nl_GUnit _))) ln))) qn)))⟩
   ·skip
    refine wx tbk [(1, rp [(.tmp 33, (.dat 2 ((p1 : List GUnit).map c_GUnit)))] (I ((p1.length : Int))))] ⟨alm (c := c_GUnit) (l := p1) (aln rfl Try.underlying89 rfl), trivial⟩ ?_
    refine awp_block ?_
    refine wmr (mto (n := 92) (l' := [(4, (.dat 1 ((x5.1 : List Int).map c_i64))), (6, nilS), (8, .ref 0 2 0 0), (9, (.dat 1 ((x5.2.1 : List Int).map c_i64))), (10, (.dat 1 ((x5.2.2 : List Int).map c_i64))), (11, (.own 1 1 (0) ((p0.length : Int).toNat))), (33, (.dat 2 ((p1 : List GUnit).map c_GUnit))), (34, (I ((p1.length : Int)))), (35, I 0)]) (own' := [(z37_1 p0 p1), (z37_6 p0)]) [(4, (.dat 1 ((x5.1 : List Int).map c_i64))), (6, nilS), (8, .ref 0 2 0 0), (9, (.dat 1 ((x5.2.1 : List Int).map c_i64))), (10, (.dat 1 ((x5.2.2 : List Int).map c_i64))), (11, (.own 1 1 (0) ((p0.length : Int).toNat))), (33, (.dat 2 ((p1 : List GUnit).map c_GUnit))), (34, (I ((p1.length : Int)))), (35, I 0)] [0, 1] [(z37_1 p0 p1), (z37_2 p0)] hφ0 (pc (.rn (.plain _ (nld nl_i64 _))) (pc rwl (pc (.rn (rqr rfl)) (pc (.rn (.plain _ (nld nl_i64 _))) (pc (.rn (.plain _ (nld nl_i64 _))) (pc (.rn (rnq_own rfl)) (pc (.rn (.plain _ (nld nl_GUnit _))) (pc rwl (pc rwl pn))))))))) (qc (spb (lc (.rn (.plain _ (nld nl_i64 _))) (lc (.rn (.plain _ (nld nl_GUnit _))) ln))) (qc (spr nl_i64) qn))) ?_
    refine awp_ind (τ := Int × (List Int)) (fun n t => plant_ShareX_loop2 N p0 p1 x5 k8 n t.1 t.2 = some r) (fun ⟨y25, y26⟩ => ⟨mk 92 [(4, (.dat 1 ((x5.1 : List Int).map c_i64))), (6, nilS), (8, .ref 0 2 0 0), (9, (.dat 1 ((x5.2.1 : List Int).map c_i64))), (10, (.dat 1 ((x5.2.2 : List Int).map c_i64))), (11, (.own 1 1 (0) ((p0.length : Int).toNat))), (33, (.dat 2 ((p1 : List GUnit).map c_GUnit))), (34, (I ((p1.length : Int)))), (35, I y25)], [(z37_1 p0 p1), (.own 1 ((y26 : List Int).map c_i64))]⟩) (fun t h => by rw [plant_ShareX_loop2] at h; cases h) (fun n29 ih t h => ?_) N (0, List.replicate (p0.length : Int).toNat 0) h
    obtain ⟨y25, y26⟩ := t
    rw [plant_ShareX_loop2] at h
    skip
    refine wx tbk [] trivial ?_
    refine wsq ?_
    rcases bft ((decide (y25 < (p1.length : Int)))) with hc30 | hc30
    ·replace h := bif_t hc30 h
     refine wft hc30 (by kernel_rfl) ?_
     refine awp_skip ?_
     refine thn ?_
     obtain ⟨k32, hk_k32, h⟩ := jko h
     refine wjn (τ := (List Int)) (fun t => k32 t = some r) (fun y31 => ⟨mk 92 [(4, (.dat 1 ((x5.1 : List Int).map c_i64))), (6, nilS), (8, .ref 0 2 0 0), (9, (.dat 1 ((x5.2.1 : List Int).map c_i64))), (10, (.dat 1 ((x5.2.2 : List Int).map c_i64))), (11, (.own 1 1 (0) ((p0.length : Int).toNat))), (33, (.dat 2 ((p1 : List GUnit).map c_GUnit))), (34, (I ((p1.length : Int)))), (35, I y25)], [(z37_1 p0 p1), (.own 1 ((y31 : List Int).map c_i64))]⟩) (fun y31 h => ?_) ?_
     ·subst hk_k32
      refine wx1 tbk [] trivial ?_
      refine thn ?_
      exact arm (mto (n := 92) [(4, (.dat 1 ((x5.1 : List Int).map c_i64))), (6, nilS), (8, .ref 0 2 0 0), (9, (.dat 1 ((x5.2.1 : List Int).map c_i64))), (10, (.dat 1 ((x5.2.2 : List Int).map c_i64))), (11, (.own 1 1 (0) ((p0.length : Int).toNat))), (33, (.dat 2 ((p1 : List GUnit).map c_GUnit))), (34, (I ((p1.length : Int)))), (35, (I (w64 (y25 + 1))))] [0, 1] [(z37_1 p0 p1), (.own 1 ((y31 : List Int).map c_i64))] hφ0 (pc (.rn (.plain _ (nld nl_i64 _))) (pc rwl (pc (.rn (rqr rfl)) (pc (.rn (.plain _ (nld nl_i64 _))) (pc (.rn (.plain _ (nld nl_i64 _))) (pc (.rn (rnq_own rfl)) (pc (.rn (.plain _ (nld nl_GUnit _))) (pc rwl (pc rwl pn))))))))) (qc (spb (lc (.rn (.plain _ (nld nl_i64 _))) (lc (.rn (.plain _ (nld nl_GUnit _))) ln))) (qc (spr nl_i64) qn))) (ih (w64 (y25 + 1), y31) h)
     ·skip
      refine awp_block ?_
      obtain ⟨x33, hg34, h⟩ := bno h
      obtain ⟨hi35, hj36⟩ := gsm hg34
      refine wx tbk [(1, rp [(.tmp 33, (.dat 2 ((p1 : List GUnit).map c_GUnit))), (.tmp 35, I y25)] (.dptr (c_GUnit (x33)) 0))] ⟨aid rfl Try.underlying89 ti34 rfl rfl hi35 (mgt c_GUnit hj36) rfl, trivial⟩ ?_
      refine wsq ?_
      obtain ⟨x37, hg38, h⟩ := bno h
      obtain ⟨hi39, hj40⟩ := gsm hg38
      refine wx tbk [(2, rp [(.tmp 40, (.dat 1 ((x5.2.2 : List Int).map c_i64))), (.tmp 41, I y25)] (.dptr (c_i64 (x37)) 0))] ⟨aid rfl Try.underlying37 ti3 rfl rfl hi39 (mgt c_i64 hj40) rfl, trivial⟩ ?_
      rcases bft ((decide (x37 ≤ 0))) with hc41 | hc41
      ·replace h := bif_t hc41 h
       refine wft hc41 (by kernel_rfl) ?_
       refine awp_exit ?_
       refine thenA_x ?_
       refine blockA_e rfl ?_
       refine thn ?_
       exact ⟨(y26), h, (mto (n := 92) [(4, (.dat 1 ((x5.1 : List Int).map c_i64))), (6, nilS), (8, .ref 0 2 0 0), (9, (.dat 1 ((x5.2.1 : List Int).map c_i64))), (10, (.dat 1 ((x5.2.2 : List Int).map c_i64))), (11, (.own 1 1 (0) ((p0.length : Int).toNat))), (33, (.dat 2 ((p1 : List GUnit).map c_GUnit))), (34, (I ((p1.length : Int)))), (35, I y25)] [0, 1] [(z37_1 p0 p1), (.own 1 ((y26 : List Int).map c_i64))] hφ0 (pc (.rn (.plain _ (nld nl_i64 _))) (pc rwl (pc (.rn (rqr rfl)) (pc (.rn (.plain _ (nld nl_i64 _))) (pc (.rn (.plain _ (nld nl_i64 _))) (pc (.rn (rnq_own rfl)) (pc (.rn (.plain _ (nld nl_GUnit _))) (pc rwl (pc rwl pn))))))))) (qc (spb (lc (.rn (.plain _ (nld nl_i64 _))) (lc (.rn (.plain _ (nld nl_GUnit _))) ln))) (qc (spr nl_i64) qn)))⟩
      ·replace h := bif_f hc41 h
       refine wfn hc41 (by kernel_rfl) ?_
       refine awp_skip ?_
       refine thn ?_
       refine wx tbk [] trivial ?_
       obtain ⟨k43, hk_k43, h⟩ := jko h
       refine wjn (τ := Int) (fun t => k43 t = some r) (fun y42 => ⟨mk 92 [(4, (.dat 1 ((x5.1 : List Int).map c_i64))), (6, nilS), (8, .ref 0 2 0 0), (9, (.dat 1 ((x5.2.1 : List Int).map c_i64))), (10, (.dat 1 ((x5.2.2 : List Int).map c_i64))), (11, (.own 1 1 (0) ((p0.length : Int).toNat))), (12, I y25), (14, I y42), (33, (.dat 2 ((p1 : List GUnit).map c_GUnit))), (34, (I ((p1.length : Int)))), (35, I y25)], [(z37_1 p0 p1), (.own 1 ((y26 : List Int).map c_i64))]⟩) (fun y42 h => ?_) ?_
       ·subst hk_k43
        refine awp_block ?_
        refine wmr (mto (n := 92) (l' := [(4, (.dat 1 ((x5.1 : List Int).map c_i64))), (6, nilS), (8, .ref 0 2 0 0), (9, (.dat 1 ((x5.2.1 : List Int).map c_i64))), (10, (.dat 1 ((x5.2.2 : List Int).map c_i64))), (11, (.own 1 1 (0) ((p0.length : Int).toNat))), (12, I y25), (14, I y42), (33, (.dat 2 ((p1 : List GUnit).map c_GUnit))), (34, (I ((p1.length : Int)))), (35, I y25)]) (own' := [(z37_1 p0 p1), (.own 1 ((y26 : List Int).map c_i64))]) [(4, (.dat 1 ((x5.1 : List Int).map c_i64))), (6, nilS), (8, .ref 0 2 0 0), (9, (.dat 1 ((x5.2.1 : List Int).map c_i64))), (10, (.dat 1 ((x5.2.2 : List Int).map c_i64))), (11, (.own 1 1 (0) ((p0.length : Int).toNat))), (12, I y25), (14, I y42), (33, (.dat 2 ((p1 : List GUnit).map c_GUnit))), (34, (I ((p1.length : Int)))), (35, I y25)] [0, 1] [(z37_1 p0 p1), (.own 1 ((y26 : List Int).map c_i64))] hφ0 (pc (.rn (.plain _ (nld nl_i64 _))) (pc rwl (pc (.rn (rqr rfl)) (pc (.rn (.plain _ (nld nl_i64 _))) (pc (.rn (.plain _ (nld nl_i64 _))) (pc (.rn (rnq_own rfl)) (pc rwl (pc rwl (pc (.rn (.plain _ (nld nl_GUnit _))) (pc rwl (pc rwl pn))))))))))) (qc (spb (lc (.rn (.plain _ (nld nl_i64 _))) (lc (.rn (.plain _ (nld nl_GUnit _))) ln))) (qc (spr nl_i64) qn))) ?_
        refine awp_ind (τ := Int × (List Int)) (fun n t => plant_ShareX_loop3 N p0 k32 x37 n t.1 t.2 = some r) (fun ⟨y44, y45⟩ => ⟨mk 92 [(4, (.dat 1 ((x5.1 : List Int).map c_i64))), (6, nilS), (8, .ref 0 2 0 0), (9, (.dat 1 ((x5.2.1 : List Int).map c_i64))), (10, (.dat 1 ((x5.2.2 : List Int).map c_i64))), (11, (.own 1 1 (0) ((p0.length : Int).toNat))), (12, I y25), (14, I y44), (33, (.dat 2 ((p1 : List GUnit).map c_GUnit))), (34, (I ((p1.length : Int)))), (35, I y25)], [(z37_1 p0 p1), (.own 1 ((y45 : List Int).map c_i64))]⟩) (fun t h => by rw [plant_ShareX_loop3] at h; cases h) (fun n48 ih t h => ?_) N (y42, y26) h
        obtain ⟨y44, y45⟩ := t
        rw [plant_ShareX_loop3] at h
        skip
        refine wsq ?_
        refine wx tbk [(2, rp [(.tmp 55, (.own 1 1 (0) ((p0.length : Int).toNat)))] (I ((((p0.length : Int).toNat : Nat) : Int))))] ⟨aln rfl Try.underlying37 rfl, trivial⟩ ?_
        rcases bft ((decide (y44 < (((p0.length : Int).toNat : Nat) : Int)))) with hc49 | hc49
        ·replace h := bif_t hc49 h
         refine wft hc49 (by kernel_rfl) ?_
         refine awp_skip ?_
         refine thn ?_
         refine wsq ?_
         refine awp_block ?_
         obtain ⟨hi50, h⟩ := cko h
         obtain ⟨hi50a, hi50b⟩ := and_out hi50
         obtain ⟨x51, hg52, h⟩ := bno h
         obtain ⟨hi53, h⟩ := cko h
         obtain ⟨hi53a, hi53b⟩ := and_out hi53
         obtain ⟨x54, hg55, h⟩ := bno h
         refine wy1 tbk [(4, rb [(.tmp 62, (.own 1 1 (0) ((p0.length : Int).toNat))), (.tmp 63, I y44)] [(1, (.own 1 ((y45 : List Int).map c_i64)))] (.ref 1 1 (y44.toNat) 0)), (5, rb [(.tmp 64, (.ref 1 1 (y44.toNat) 0))] [(1, (.own 1 ((y45 : List Int).map c_i64)))] (I x51)), (8, rp [(.tmp 66, (.dat 1 ((x5.2.2 : List Int).map c_i64))), (.tmp 67, I y25)] (.dptr (c_i64 (x37)) 0)), (10, rp [(.tmp 65, I x51), (.tmp 69, I x37)] (I ((if x37 > x51 then x37 else x51)))), (11, rb [(.tmp 60, (.own 1 1 (0) ((p0.length : Int).toNat))), (.tmp 61, I y44)] [(1, (.own 1 ((y45 : List Int).map c_i64)))] (.ref 1 1 (y44.toNat) 0)), (12, ⟨[(.tmp 71, (.ref 1 1 (y44.toNat) 0)), (.tmp 70, (I ((if x37 > x51 then x37 else x51))))], [(1, (.own 1 ((y45 : List Int).map c_i64)))], .any, [(1, (z37_68 y45 y44 x37 x51))], false⟩)] ⟨aio rfl Try.underlying37 ti3 (odt hi50a) (odt hi50b) (Nat.zero_add _), ald rfl ti3 (by decide) (mgt c_i64 hg52) (nle rfl) rfl, aid rfl Try.underlying37 ti3 rfl rfl hi39 (mgt c_i64 hj40) rfl, astep_max rfl, aio rfl Try.underlying37 ti3 (odt hi53a) (odt hi53b) (Nat.zero_add _), ast rfl ti3 (by rfl) (mgt c_i64 hg55) (nle rfl) (set_map c_i64 rfl), trivial⟩ ?_
         refine bln ?_
         refine thn ?_
         refine wx1 tbk [] trivial ?_
         refine thn ?_
         exact arm (mto (n := 92) [(4, (.dat 1 ((x5.1 : List Int).map c_i64))), (6, nilS), (8, .ref 0 2 0 0), (9, (.dat 1 ((x5.2.1 : List Int).map c_i64))), (10, (.dat 1 ((x5.2.2 : List Int).map c_i64))), (11, (.own 1 1 (0) ((p0.length : Int).toNat))), (12, I y25), (14, (I (w64 (y44 + 1)))), (33, (.dat 2 ((p1 : List GUnit).map c_GUnit))), (34, (I ((p1.length : Int)))), (35, I y25)] [0, 1] [(z37_1 p0 p1), (z37_68 y45 y44 x37 x51)] hφ0 (pc (.rn (.plain _ (nld nl_i64 _))) (pc rwl (pc (.rn (rqr rfl)) (pc (.rn (.plain _ (nld nl_i64 _))) (pc (.rn (.plain _ (nld nl_i64 _))) (pc (.rn (rnq_own rfl)) (pc rwl (pc rwl (pc (.rn (.plain _ (nld nl_GUnit _))) (pc rwl (pc rwl pn))))))))))) (qc (spb (lc (.rn (.plain _ (nld nl_i64 _))) (lc (.rn (.plain _ (nld nl_GUnit _))) ln))) (qc (spr nl_i64) qn))) (ih (w64 (y44 + 1), y45.set y44.toNat (if x37 > x51 then x37 else x51)) h)
        ·replace h := bif_f hc49 h
         refine wfn hc49 (by kernel_rfl) ?_
         refine awp_exit ?_
         refine thenA_x ?_
         refine thenA_x ?_
         refine blockA_e rfl ?_
         refine bln ?_
         refine thn ?_
         exact ⟨(y45), h, (mto (n := 92) [(4, (.dat 1 ((x5.1 : List Int).map c_i64))), (6, nilS), (8, .ref 0 2 0 0), (9, (.dat 1 ((x5.2.1 : List Int).map c_i64))), (10, (.dat 1 ((x5.2.2 : List Int).map c_i64))), (11, (.own 1 1 (0) ((p0.length : Int).toNat))), (33, (.dat 2 ((p1 : List GUnit).map c_GUnit))), (34, (I ((p1.length : Int)))), (35, I y25)] [0, 1] [(z37_1 p0 p1), (.own 1 ((y45 : List Int).map c_i64))] hφ0 (pc (.rn (.plain _ (nld nl_i64 _))) (pc rwl (pc (.rn (rqr rfl)) (pc (.rn (.plain _ (nld nl_i64 _))) (pc (.rn (.plain _ (nld nl_i64 _))) (pc (.rn (rnq_own rfl)) (pc (.rn (.plain _ (nld nl_GUnit _))) (pc rwl (pc rwl pn))))))))) (qc (spb (lc (.rn (.plain _ (nld nl_i64 _))) (lc (.rn (.plain _ (nld nl_GUnit _))) ln))) (qc (spr nl_i64) qn)))⟩
       ·skip
        refine awp_block ?_
        refine wmr (mto (n := 92) (l' := [(4, (.dat 1 ((x5.1 : List Int).map c_i64))), (6, nilS), (8, .ref 0 2 0 0), (9, (.dat 1 ((x5.2.1 : List Int).map c_i64))), (10, (.dat 1 ((x5.2.2 : List Int).map c_i64))), (11, (.own 1 1 (0) ((p0.length : Int).toNat))), (12, I y25), (14, I x33.Inlet), (33, (.dat 2 ((p1 : List GUnit).map c_GUnit))), (34, (I ((p1.length : Int)))), (35, I y25)]) (own' := [(z37_1 p0 p1), (.own 1 ((y26 : List Int).map c_i64))]) [(4, (.dat 1 ((x5.1 : List Int).map c_i64))), (6, nilS), (8, .ref 0 2 0 0), (9, (.dat 1 ((x5.2.1 : List Int).map c_i64))), (10, (.dat 1 ((x5.2.2 : List Int).map c_i64))), (11, (.own 1 1 (0) ((p0.length : Int).toNat))), (12, I y25), (14, I x33.Inlet), (33, (.dat 2 ((p1 : List GUnit).map c_GUnit))), (34, (I ((p1.length : Int)))), (35, I y25)] [0, 1] [(z37_1 p0 p1), (.own 1 ((y26 : List Int).map c_i64))] hφ0 (pc (.rn (.plain _ (nld nl_i64 _))) (pc rwl (pc (.rn (rqr rfl)) (pc (.rn (.plain _ (nld nl_i64 _))) (pc (.rn (.plain _ (nld nl_i64 _))) (pc (.rn (rnq_own rfl)) (pc rwl (pc rwl (pc (.rn (.plain _ (nld nl_GUnit _))) (pc rwl (pc rwl pn))))))))))) (qc (spb (lc (.rn (.plain _ (nld nl_i64 _))) (lc (.rn (.plain _ (nld nl_GUnit _))) ln))) (qc (spr nl_i64) qn))) ?_
        refine awp_ind (τ := Int) (fun n t => plant_ShareX_loop4 N x5 k43 n t = some r) (fun y56 => ⟨mk 92 [(4, (.dat 1 ((x5.1 : List Int).map c_i64))), (6, nilS), (8, .ref 0 2 0 0), (9, (.dat 1 ((x5.2.1 : List Int).map c_i64))), (10, (.dat 1 ((x5.2.2 : List Int).map c_i64))), (11, (.own 1 1 (0) ((p0.length : Int).toNat))), (12, I y25), (14, I y56), (33, (.dat 2 ((p1 : List GUnit).map c_GUnit))), (34, (I ((p1.length : Int)))), (35, I y25)], [(z37_1 p0 p1), (.own 1 ((y26 : List Int).map c_i64))]⟩) (fun t h => by rw [plant_ShareX_loop4] at h; cases h) (fun n58 ih y56 h => ?_) N (x33.Inlet) h
        rw [plant_ShareX_loop4] at h
        skip
        refine wsq ?_
        obtain ⟨x59, hg60, h⟩ := bno h
        obtain ⟨hi61, hj62⟩ := gsm hg60
        refine wx tbk [(2, rp [(.tmp 47, (.dat 1 ((x5.2.1 : List Int).map c_i64))), (.tmp 48, I y56)] (.dptr (c_i64 (x59)) 0))] ⟨aid rfl Try.underlying37 ti3 rfl rfl hi61 (mgt c_i64 hj62) rfl, trivial⟩ ?_
        rcases bft ((decide (x59 > 0))) with hc63 | hc63
        ·replace h := bif_t hc63 h
         refine wft hc63 (by kernel_rfl) ?_
         refine awp_skip ?_
         refine thn ?_
         refine awp_block ?_
         refine wx1 tbk [] trivial ?_
         refine bln ?_
         refine thn ?_
         exact arm (mto (n := 92) [(4, (.dat 1 ((x5.1 : List Int).map c_i64))), (6, nilS), (8, .ref 0 2 0 0), (9, (.dat 1 ((x5.2.1 : List Int).map c_i64))), (10, (.dat 1 ((x5.2.2 : List Int).map c_i64))), (11, (.own 1 1 (0) ((p0.length : Int).toNat))), (12, I y25), (14, (I (w64 (y56 - 1)))), (33, (.dat 2 ((p1 : List GUnit).map c_GUnit))), (34, (I ((p1.length : Int)))), (35, I y25)] [0, 1] [(z37_1 p0 p1), (.own 1 ((y26 : List Int).map c_i64))] hφ0 (pc (.rn (.plain _ (nld nl_i64 _))) (pc rwl (pc (.rn (rqr rfl)) (pc (.rn (.plain _ (nld nl_i64 _))) (pc (.rn (.plain _ (nld nl_i64 _))) (pc (.rn (rnq_own rfl)) (pc rwl (pc rwl (pc (.rn (.plain _ (nld nl_GUnit _))) (pc rwl (pc rwl pn))))))))))) (qc (spb (lc (.rn (.plain _ (nld nl_i64 _))) (lc (.rn (.plain _ (nld nl_GUnit _))) ln))) (qc (spr nl_i64) qn))) (ih (w64 (y56 - 1)) h)
        ·replace h := bif_f hc63 h
         refine wfn hc63 (by kernel_rfl) ?_
         refine awp_exit ?_
         refine thenA_x ?_
         refine thenA_x ?_
         refine blockA_e rfl ?_
         refine thn ?_
         exact ⟨(y56), h, (mto (n := 92) [(4, (.dat 1 ((x5.1 : List Int).map c_i64))), (6, nilS), (8, .ref 0 2 0 0), (9, (.dat 1 ((x5.2.1 : List Int).map c_i64))), (10, (.dat 1 ((x5.2.2 : List Int).map c_i64))), (11, (.own 1 1 (0) ((p0.length : Int).toNat))), (12, I y25), (14, I y56), (33, (.dat 2 ((p1 : List GUnit).map c_GUnit))), (34, (I ((p1.length : Int)))), (35, I y25)] [0, 1] [(z37_1 p0 p1), (.own 1 ((y26 : List Int).map c_i64))] hφ0 (pc (.rn (.plain _ (nld nl_i64 _))) (pc rwl (pc (.rn (rqr rfl)) (pc (.rn (.plain _ (nld nl_i64 _))) (pc (.rn (.plain _ (nld nl_i64 _))) (pc (.rn (rnq_own rfl)) (pc rwl (pc rwl (pc (.rn (.plain _ (nld nl_GUnit _))) (pc rwl (pc rwl pn))))))))))) (qc (spb (lc (.rn (.plain _ (nld nl_i64 _))) (lc (.rn (.plain _ (nld nl_GUnit _))) ln))) (qc (spr nl_i64) qn)))⟩
    ·replace h := bif_f hc30 h
     refine wfn hc30 (by kernel_rfl) ?_
     refine awp_exit ?_
     refine thenA_x ?_
     refine thenA_x ?_
     refine blockA_e rfl ?_
     refine thn ?_
     exact ⟨(y26), h, (mto (n := 92) [(4, (.dat 1 ((x5.1 : List Int).map c_i64))), (6, nilS), (8, .ref 0 2 0 0), (11, (.own 1 1 (0) ((p0.length : Int).toNat)))] [0, 1] [(z37_1 p0 p1), (.own 1 ((y26 : List Int).map c_i64))] hφ0 (pc (.rn (.plain _ (nld nl_i64 _))) (pc rwl (pc (.rn (rqr rfl)) (pc (.rn (rnq_own rfl)) pn)))) (qc (spb (lc (.rn (.plain _ (nld nl_i64 _))) (lc (.rn (.plain _ (nld nl_GUnit _))) ln))) (qc (spr nl_i64) qn)))⟩

end Go.Proofs.Ytlhakkkjgdbdpaa
