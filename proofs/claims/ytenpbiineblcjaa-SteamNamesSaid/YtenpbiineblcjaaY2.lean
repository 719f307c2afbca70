/-
  Functions of the program: what they compute, as plain functions, and that they do. No conditions.
-/
import Derived.Test.YtenpbiineblcjaaY1
namespace Go.Proofs.Ytenpbiineblcjaa
open Go.RowKit

def steam_Range_endsX (_N : Nat) (p0 : GRange) (p1 : Int) : Option Bool :=
  bif (decide (0 ≤ p0.Lo)) then
    bif (decide (p0.Lo ≤ p0.Hi)) then
      some (decide (p0.Hi ≤ p1))
    else
      some false
  else
    some false
set_option maxRecDepth 100000 in
set_option maxHeartbeats 4000000 in
theorem steam_Range_endsX_ok (N : Nat) (p0 : GRange) (p1 : Int) (r : Bool) (h : steam_Range_endsX N p0 p1 = some r) : Spec Try.prog 73 [(.agg (c_GRange p0)), (I p1)] [] (B r) [] := by
  refine spec_of_awp Try.func73 rfl 0 (Nat.le_of_ble_eq_true rfl) (fun X φ0 w0 hφ0 => ?_)
  unfold steam_Range_endsX at h
  refine awp_reg [⟨[(.tmp 0, (.agg [I p0.Lo, I p0.Hi]))], [(0, .unused)], .ref 0 2 0 0, [(0, .own 2 [[I p0.Lo, I p0.Hi]])], false⟩,
    ⟨[(.const (.bool false), B false)], [], B false, [], false⟩] (by exact ⟨by kernel_rfl, by kernel_rfl⟩) ?_ ?_
  · exact ⟨fun _ => astep_box rfl (by rfl) rfl rfl,
    fun _ => astep_assign rfl, trivial⟩
  rcases Bool.eq_false_or_eq_true ((decide (0 ≤ p0.Lo))) with hb1 | hb1
  · replace h := bif_t hb1 h
    rcases Bool.eq_false_or_eq_true ((decide (p0.Lo ≤ p0.Hi))) with hb2 | hb2
    · replace h := bif_t hb2 h
      refine awp_reg [⟨[(.tmp 2, .ref 0 2 0 0)], [(0, .own 2 [[I p0.Lo, I p0.Hi]])], .ref 0 2 0 0, [], false⟩,
    ⟨[(.tmp 5, .ref 0 2 0 0)], [(0, .own 2 [[I p0.Lo, I p0.Hi]])], I p0.Lo, [], false⟩,
    ⟨[(.const (.int .i64 0), I 0), (.tmp 6, I p0.Lo)], [], (B ((decide (0 ≤ p0.Lo)))), [], false⟩,
    ⟨[(.tmp 7, (B ((decide (0 ≤ p0.Lo)))))], [], B true, [], false⟩,
    ⟨[(.tmp 8, B true), (.tmp 2, .ref 0 2 0 0)], [(0, .own 2 [[I p0.Lo, I p0.Hi]])], .ref 0 2 0 0, [], false⟩,
    ⟨[(.tmp 8, B true), (.tmp 9, .ref 0 2 0 0)], [(0, .own 2 [[I p0.Lo, I p0.Hi]])], I p0.Lo, [], false⟩,
    ⟨[(.tmp 8, B true), (.tmp 2, .ref 0 2 0 0)], [(0, .own 2 [[I p0.Lo, I p0.Hi]])], .ref 0 2 0 1, [], false⟩,
    ⟨[(.tmp 8, B true), (.tmp 11, .ref 0 2 0 1)], [(0, .own 2 [[I p0.Lo, I p0.Hi]])], I p0.Hi, [], false⟩,
    ⟨[(.tmp 8, B true), (.tmp 10, I p0.Lo), (.tmp 12, I p0.Hi)], [], (B ((decide (p0.Lo ≤ p0.Hi)))), [], false⟩,
    ⟨[(.tmp 8, B true), (.tmp 13, (B ((decide (p0.Lo ≤ p0.Hi))))), (.const (.bool false), B false)], [], (B ((decide (p0.Lo ≤ p0.Hi)))), [], false⟩,
    ⟨[(.tmp 14, (B ((decide (p0.Lo ≤ p0.Hi)))))], [], B true, [], false⟩,
    ⟨[(.tmp 15, B true), (.tmp 2, .ref 0 2 0 0)], [(0, .own 2 [[I p0.Lo, I p0.Hi]])], .ref 0 2 0 1, [], false⟩,
    ⟨[(.tmp 15, B true), (.tmp 16, .ref 0 2 0 1)], [(0, .own 2 [[I p0.Lo, I p0.Hi]])], I p0.Hi, [], false⟩,
    ⟨[(.tmp 15, B true), (.tmp 1, I p1)], [], I p1, [], false⟩,
    ⟨[(.tmp 15, B true), (.tmp 17, I p0.Hi), (.tmp 18, I p1)], [], (B ((decide (p0.Hi ≤ p1)))), [], false⟩,
    ⟨[(.tmp 15, B true), (.tmp 19, (B ((decide (p0.Hi ≤ p1))))), (.const (.bool false), B false)], [], (B ((decide (p0.Hi ≤ p1)))), [], false⟩,
    ⟨[(.tmp 20, (B ((decide (p0.Hi ≤ p1)))))], [], (B ((decide (p0.Hi ≤ p1)))), [], false⟩] (by exact ⟨by kernel_rfl, by kernel_rfl⟩) ?_ ?_
      · exact ⟨fun _ => astep_faddr rfl Try.underlying71 rfl rfl ti3 (by decide) rfl,
    fun _ => astep_load rfl ti3 (by decide) rfl (Nat.le_of_ble_eq_true rfl) rfl,
    fun _ => astep_bin rfl rfl,
    fun _ => astep_b hb1 (astep_move rfl),
    fun _ => astep_guard (astep_faddr rfl Try.underlying71 rfl rfl ti3 (by decide) rfl),
    fun _ => astep_guard (astep_load rfl ti3 (by decide) rfl (Nat.le_of_ble_eq_true rfl) rfl),
    fun _ => astep_guard (astep_faddr rfl Try.underlying71 rfl rfl ti3 (by decide) rfl),
    fun _ => astep_guard (astep_load rfl ti3 (by decide) rfl (Nat.le_of_ble_eq_true rfl) rfl),
    fun _ => astep_guard (astep_bin rfl rfl),
    fun _ => astep_pick rfl rfl,
    fun _ => astep_b hb2 (astep_move rfl),
    fun _ => astep_guard (astep_faddr rfl Try.underlying71 rfl rfl ti3 (by decide) rfl),
    fun _ => astep_guard (astep_load rfl ti3 (by decide) rfl (Nat.le_of_ble_eq_true rfl) rfl),
    fun _ => astep_guard (astep_move rfl),
    fun _ => astep_guard (astep_bin rfl rfl),
    fun _ => astep_pick rfl rfl,
    fun _ => astep_assign rfl, trivial⟩
      refine awp_ret ?_
      obtain rfl := Option.some.inj h
      exact ⟨⟨[(B ((decide (p0.Hi ≤ p1))))], ⟨resOK_tmp (by kernel_rfl), trivial⟩, rfl⟩, (NLt.lit _), Nat.le_refl _, fun n hn => absurd hn (Nat.not_lt_zero n)⟩
    · replace h := bif_f hb2 h
      refine awp_reg [⟨[(.tmp 2, .ref 0 2 0 0)], [(0, .own 2 [[I p0.Lo, I p0.Hi]])], .ref 0 2 0 0, [], false⟩,
    ⟨[(.tmp 5, .ref 0 2 0 0)], [(0, .own 2 [[I p0.Lo, I p0.Hi]])], I p0.Lo, [], false⟩,
    ⟨[(.const (.int .i64 0), I 0), (.tmp 6, I p0.Lo)], [], (B ((decide (0 ≤ p0.Lo)))), [], false⟩,
    ⟨[(.tmp 7, (B ((decide (0 ≤ p0.Lo)))))], [], B true, [], false⟩,
    ⟨[(.tmp 8, B true), (.tmp 2, .ref 0 2 0 0)], [(0, .own 2 [[I p0.Lo, I p0.Hi]])], .ref 0 2 0 0, [], false⟩,
    ⟨[(.tmp 8, B true), (.tmp 9, .ref 0 2 0 0)], [(0, .own 2 [[I p0.Lo, I p0.Hi]])], I p0.Lo, [], false⟩,
    ⟨[(.tmp 8, B true), (.tmp 2, .ref 0 2 0 0)], [(0, .own 2 [[I p0.Lo, I p0.Hi]])], .ref 0 2 0 1, [], false⟩,
    ⟨[(.tmp 8, B true), (.tmp 11, .ref 0 2 0 1)], [(0, .own 2 [[I p0.Lo, I p0.Hi]])], I p0.Hi, [], false⟩,
    ⟨[(.tmp 8, B true), (.tmp 10, I p0.Lo), (.tmp 12, I p0.Hi)], [], (B ((decide (p0.Lo ≤ p0.Hi)))), [], false⟩,
    ⟨[(.tmp 8, B true), (.tmp 13, (B ((decide (p0.Lo ≤ p0.Hi))))), (.const (.bool false), B false)], [], (B ((decide (p0.Lo ≤ p0.Hi)))), [], false⟩,
    ⟨[(.tmp 14, (B ((decide (p0.Lo ≤ p0.Hi)))))], [], B false, [], false⟩,
    ⟨[(.tmp 15, B false)], [], (.lit undef), [], true⟩,
    ⟨[(.tmp 15, B false)], [], (.lit undef), [], true⟩,
    ⟨[(.tmp 15, B false)], [], (.lit undef), [], true⟩,
    ⟨[(.tmp 15, B false)], [], (.lit undef), [], true⟩,
    ⟨[(.tmp 15, B false), (.tmp 19, (.lit undef)), (.const (.bool false), B false)], [], B false, [], false⟩,
    ⟨[(.tmp 20, B false)], [], B false, [], false⟩] (by exact ⟨by kernel_rfl, by kernel_rfl⟩) ?_ ?_
      · exact ⟨fun _ => astep_faddr rfl Try.underlying71 rfl rfl ti3 (by decide) rfl,
    fun _ => astep_load rfl ti3 (by decide) rfl (Nat.le_of_ble_eq_true rfl) rfl,
    fun _ => astep_bin rfl rfl,
    fun _ => astep_b hb1 (astep_move rfl),
    fun _ => astep_guard (astep_faddr rfl Try.underlying71 rfl rfl ti3 (by decide) rfl),
    fun _ => astep_guard (astep_load rfl ti3 (by decide) rfl (Nat.le_of_ble_eq_true rfl) rfl),
    fun _ => astep_guard (astep_faddr rfl Try.underlying71 rfl rfl ti3 (by decide) rfl),
    fun _ => astep_guard (astep_load rfl ti3 (by decide) rfl (Nat.le_of_ble_eq_true rfl) rfl),
    fun _ => astep_guard (astep_bin rfl rfl),
    fun _ => astep_pick rfl rfl,
    fun _ => astep_b hb2 (astep_move rfl),
    fun hs => (Bool.noConfusion hs),
    fun hs => (Bool.noConfusion hs),
    fun hs => (Bool.noConfusion hs),
    fun hs => (Bool.noConfusion hs),
    fun _ => astep_pick rfl rfl,
    fun _ => astep_assign rfl, trivial⟩
      refine awp_ret ?_
      obtain rfl := Option.some.inj h
      exact ⟨⟨[B false], ⟨resOK_tmp (by kernel_rfl), trivial⟩, rfl⟩, (NLt.lit _), Nat.le_refl _, fun n hn => absurd hn (Nat.not_lt_zero n)⟩
  · replace h := bif_f hb1 h
    refine awp_reg [⟨[(.tmp 2, .ref 0 2 0 0)], [(0, .own 2 [[I p0.Lo, I p0.Hi]])], .ref 0 2 0 0, [], false⟩,
    ⟨[(.tmp 5, .ref 0 2 0 0)], [(0, .own 2 [[I p0.Lo, I p0.Hi]])], I p0.Lo, [], false⟩,
    ⟨[(.const (.int .i64 0), I 0), (.tmp 6, I p0.Lo)], [], (B ((decide (0 ≤ p0.Lo)))), [], false⟩,
    ⟨[(.tmp 7, (B ((decide (0 ≤ p0.Lo)))))], [], B false, [], false⟩,
    ⟨[(.tmp 8, B false)], [], (.lit undef), [], true⟩,
    ⟨[(.tmp 8, B false)], [], (.lit undef), [], true⟩,
    ⟨[(.tmp 8, B false)], [], (.lit undef), [], true⟩,
    ⟨[(.tmp 8, B false)], [], (.lit undef), [], true⟩,
    ⟨[(.tmp 8, B false)], [], (.lit undef), [], true⟩,
    ⟨[(.tmp 8, B false), (.tmp 13, (.lit undef)), (.const (.bool false), B false)], [], B false, [], false⟩,
    ⟨[(.tmp 14, B false)], [], B false, [], false⟩,
    ⟨[(.tmp 15, B false)], [], (.lit undef), [], true⟩,
    ⟨[(.tmp 15, B false)], [], (.lit undef), [], true⟩,
    ⟨[(.tmp 15, B false)], [], (.lit undef), [], true⟩,
    ⟨[(.tmp 15, B false)], [], (.lit undef), [], true⟩,
    ⟨[(.tmp 15, B false), (.tmp 19, (.lit undef)), (.const (.bool false), B false)], [], B false, [], false⟩,
    ⟨[(.tmp 20, B false)], [], B false, [], false⟩] (by exact ⟨by kernel_rfl, by kernel_rfl⟩) ?_ ?_
    · exact ⟨fun _ => astep_faddr rfl Try.underlying71 rfl rfl ti3 (by decide) rfl,
    fun _ => astep_load rfl ti3 (by decide) rfl (Nat.le_of_ble_eq_true rfl) rfl,
    fun _ => astep_bin rfl rfl,
    fun _ => astep_b hb1 (astep_move rfl),
    fun hs => (Bool.noConfusion hs),
    fun hs => (Bool.noConfusion hs),
    fun hs => (Bool.noConfusion hs),
    fun hs => (Bool.noConfusion hs),
    fun hs => (Bool.noConfusion hs),
    fun _ => astep_pick rfl rfl,
    fun _ => astep_move rfl,
    fun hs => (Bool.noConfusion hs),
    fun hs => (Bool.noConfusion hs),
    fun hs => (Bool.noConfusion hs),
    fun hs => (Bool.noConfusion hs),
    fun _ => astep_pick rfl rfl,
    fun _ => astep_assign rfl, trivial⟩
    refine awp_ret ?_
    obtain rfl := Option.some.inj h
    exact ⟨⟨[B false], ⟨resOK_tmp (by kernel_rfl), trivial⟩, rfl⟩, (NLt.lit _), Nat.le_refl _, fun n hn => absurd hn (Nat.not_lt_zero n)⟩

def steam_BoundsX (N : Nat) (p0 : (List GRow)) (p1 : Int) (p2 : Int) (p3 : GRange) (p4 : GRange) : Option (GRange × GRange × Int) :=
  joinK (fun _ =>
      (steam_Table_atX N p0 p1).bind fun x3 =>
      (steam_flash_ofX N (⟨(⟨x3.Row.T, x3.Row.P, x3.Row.Liquid, x3.Row.Vapour, x3.Row.Silica⟩ : GRow)⟩ : GFlash) (⟨p2, p3.Lo, p4.Lo, 0⟩ : GStream)).bind fun x5 =>
      (steam_Table_atX N p0 p1).bind fun x7 =>
      (steam_flash_ofX N (⟨(⟨x7.Row.T, x7.Row.P, x7.Row.Liquid, x7.Row.Vapour, x7.Row.Silica⟩ : GRow)⟩ : GFlash) (⟨p2, p3.Hi, p4.Hi, 0⟩ : GStream)).bind fun x9 =>
      some ((⟨x5.Steam.Mass, x9.Steam.Mass⟩ : GRange), (⟨x5.Scale, x9.Scale⟩ : GRange), 0)) fun k1 : Unit → Option (GRange × GRange × Int) =>
  (steam_Table_validX N p0).bind fun x11 =>
  bif (!x11) then
    some ((⟨0, 0⟩ : GRange), (⟨0, 0⟩ : GRange), 1)
  else
    (steam_Table_hasX N p0 p1).bind fun x14 =>
    bif (!x14) then
      some ((⟨0, 0⟩ : GRange), (⟨0, 0⟩ : GRange), 2)
    else
      (steam_withinX N p2 0 1000000).bind fun x17 =>
      bif (!x17) then
        some ((⟨0, 0⟩ : GRange), (⟨0, 0⟩ : GRange), 1)
      else
        (steam_Range_endsX N p3 (w64 (4000 * p2))).bind fun x20 =>
        bif (!x20) then
          some ((⟨0, 0⟩ : GRange), (⟨0, 0⟩ : GRange), 1)
        else
          (steam_Range_endsX N p4 (w64 (10000 * p2))).bind fun x23 =>
          bif (!x23) then
            some ((⟨0, 0⟩ : GRange), (⟨0, 0⟩ : GRange), 1)
          else
            k1 ()
set_option maxRecDepth 100000 in
set_option maxHeartbeats 4000000 in
theorem steam_BoundsX_ok (N : Nat) (p0 : (List GRow)) (p1 : Int) (p2 : Int) (p3 : GRange) (p4 : GRange) (r : (GRange × GRange × Int)) (h : steam_BoundsX N p0 p1 p2 p3 p4 = some r) : Spec Try.prog 36 [(.dat 5 (p0.map c_GRow)), (I p1), (I p2), (.agg (c_GRange p3)), (.agg (c_GRange p4))] [] (.tup [(.agg (c_GRange r.1)), (.agg (c_GRange r.2.1)), (I r.2.2)]) [] := by
  refine spec_of_awp Try.func36 rfl 0 (Nat.le_of_ble_eq_true rfl) (fun X φ0 w0 hφ0 => ?_)
  unfold steam_BoundsX at h
  refine awp_reg [⟨[(.tmp 3, (.agg [I p3.Lo, I p3.Hi]))], [(0, .unused)], .ref 0 2 0 0, [(0, .own 2 [[I p3.Lo, I p3.Hi]])], false⟩,
    ⟨[(.tmp 4, (.agg [I p4.Lo, I p4.Hi]))], [(1, .unused)], .ref 1 2 0 0, [(1, .own 2 [[I p4.Lo, I p4.Hi]])], false⟩,
    ⟨[], [(2, .unused)], .ref 2 2 0 0, [(2, .own 2 [[I 0, I 0]])], false⟩,
    ⟨[], [(3, .unused)], .ref 3 2 0 0, [(3, .own 2 [[I 0, I 0]])], false⟩,
    ⟨[(.const (.int .i64 0), I 0)], [], I 0, [], false⟩] (by exact ⟨by kernel_rfl, by kernel_rfl⟩) ?_ ?_
  · exact ⟨fun _ => astep_box rfl (by rfl) rfl rfl,
    fun _ => astep_box rfl (by rfl) rfl rfl,
    fun _ => astep_alloc rfl tz71 rfl,
    fun _ => astep_alloc rfl tz71 rfl,
    fun _ => astep_assign rfl, trivial⟩
  obtain ⟨k1, hk_k1, h⟩ := joinK_out h
  refine awp_join (τ := Unit) (fun t => k1 t = some r) (fun _ => ⟨mk 80 [(0, (.dat 5 ((p0 : List GRow).map c_GRow))), (1, I p1), (2, I p2), (8, .ref 0 2 0 0), (9, .ref 1 2 0 0), (10, .ref 2 2 0 0), (11, .ref 3 2 0 0)], [(.own 2 [[I p3.Lo, I p3.Hi]]), (.own 2 [[I p4.Lo, I p4.Hi]]), (.own 2 [[I 0, I 0]]), (.own 2 [[I 0, I 0]])]⟩) (fun t h => ?_) ?_
  · subst hk_k1
    obtain ⟨x3, hf2, h⟩ := bind_out h
    obtain ⟨x5, hf4, h⟩ := bind_out h
    refine awp_regd [⟨[(.tmp 0, (.dat 5 ((p0 : List GRow).map c_GRow)))], [], (.dat 5 ((p0 : List GRow).map c_GRow)), [], false⟩,
    ⟨[(.tmp 1, I p1)], [], I p1, [], false⟩,
    ⟨[(.func 60, (.fn (.func 60) [] [])), (.tmp 48, (.dat 5 ((p0 : List GRow).map c_GRow))), (.tmp 49, I p1)], [], (.agg [I x3.Row.T, I x3.Row.P, I x3.Row.Liquid, I x3.Row.Vapour, I x3.Row.Silica]), [], false⟩,
    ⟨[(.tmp 2, I p2)], [], I p2, [], false⟩,
    ⟨[(.tmp 8, .ref 0 2 0 0)], [(0, .own 2 [[I p3.Lo, I p3.Hi]])], .ref 0 2 0 0, [], false⟩,
    ⟨[(.tmp 52, .ref 0 2 0 0)], [(0, .own 2 [[I p3.Lo, I p3.Hi]])], I p3.Lo, [], false⟩,
    ⟨[(.tmp 9, .ref 1 2 0 0)], [(1, .own 2 [[I p4.Lo, I p4.Hi]])], .ref 1 2 0 0, [], false⟩,
    ⟨[(.tmp 54, .ref 1 2 0 0)], [(1, .own 2 [[I p4.Lo, I p4.Hi]])], I p4.Lo, [], false⟩,
    ⟨[(.tmp 51, I p2), (.tmp 53, I p3.Lo), (.tmp 55, I p4.Lo)], [], (.agg [I p2, I p3.Lo, I p4.Lo, I 0]), [], false⟩,
    ⟨[(.func 61, (.fn (.func 61) [] [])), (.tmp 50, (.agg [I x3.Row.T, I x3.Row.P, I x3.Row.Liquid, I x3.Row.Vapour, I x3.Row.Silica])), (.tmp 56, (.agg [I p2, I p3.Lo, I p4.Lo, I 0]))], [], (.agg [I x5.Steam.Mass, I x5.Steam.Heat, I x5.Steam.Silica, I x5.Steam.Gas, I x5.Water.Mass, I x5.Water.Heat, I x5.Water.Silica, I x5.Water.Gas, I x5.Rest, I x5.Scale]), [], false⟩,
    ⟨[], [(4, .unused)], .ref 4 10 0 0, [(4, .own 10 [[I 0, I 0, I 0, I 0, I 0, I 0, I 0, I 0, I 0, I 0]])], false⟩,
    ⟨[(.tmp 13, .ref 4 10 0 0), (.tmp 57, (.agg [I x5.Steam.Mass, I x5.Steam.Heat, I x5.Steam.Silica, I x5.Steam.Gas, I x5.Water.Mass, I x5.Water.Heat, I x5.Water.Silica, I x5.Water.Gas, I x5.Rest, I x5.Scale]))], [(4, .own 10 [[I 0, I 0, I 0, I 0, I 0, I 0, I 0, I 0, I 0, I 0]])], .any, [(4, .own 10 [[I x5.Steam.Mass, I x5.Steam.Heat, I x5.Steam.Silica, I x5.Steam.Gas, I x5.Water.Mass, I x5.Water.Heat, I x5.Water.Silica, I x5.Water.Gas, I x5.Rest, I x5.Scale]])], false⟩] (by kernel_rfl) (by exact ⟨by kernel_rfl, by kernel_rfl⟩) (by kernel_rfl) ?_ ?_
    · exact ⟨fun _ => astep_move rfl,
    fun _ => astep_move rfl,
    fun _ => astep_pcall (first := []) (cap := []) (vs := [(.dat 5 ((p0 : List GRow).map c_GRow)), I p1]) rfl enter60 (steam_Table_atX_ok N p0 p1 _ hf2) rfl rfl (nl_cons (nl_dat nl_GRow _) (nl_cons (NLt.lit _) nl_nil)) (NLt.agg _ (nl_cons (NLt.lit _) (nl_cons (NLt.lit _) (nl_cons (NLt.lit _) (nl_cons (NLt.lit _) (nl_cons (NLt.lit _) nl_nil)))))) rfl,
    fun _ => astep_move rfl,
    fun _ => astep_faddr rfl Try.underlying71 rfl rfl ti3 (by decide) rfl,
    fun _ => astep_load rfl ti3 (by decide) rfl (Nat.le_of_ble_eq_true rfl) rfl,
    fun _ => astep_faddr rfl Try.underlying71 rfl rfl ti3 (by decide) rfl,
    fun _ => astep_load rfl ti3 (by decide) rfl (Nat.le_of_ble_eq_true rfl) rfl,
    fun _ => astep_build (vs := [I p2, I p3.Lo, I p4.Lo]) rfl ts42 tz42 rfl (by rfl) rfl,
    fun _ => astep_pcall (first := []) (cap := []) (vs := [(.agg [I x3.Row.T, I x3.Row.P, I x3.Row.Liquid, I x3.Row.Vapour, I x3.Row.Silica]), (.agg [I p2, I p3.Lo, I p4.Lo, I 0])]) rfl enter61 (steam_flash_ofX_ok N (⟨(⟨x3.Row.T, x3.Row.P, x3.Row.Liquid, x3.Row.Vapour, x3.Row.Silica⟩ : GRow)⟩ : GFlash) (⟨p2, p3.Lo, p4.Lo, 0⟩ : GStream) _ hf4) rfl rfl (nl_cons (NLt.agg _ (nl_cons (NLt.lit _) (nl_cons (NLt.lit _) (nl_cons (NLt.lit _) (nl_cons (NLt.lit _) (nl_cons (NLt.lit _) nl_nil)))))) (nl_cons (NLt.agg _ (nl_cons (NLt.lit _) (nl_cons (NLt.lit _) (nl_cons (NLt.lit _) (nl_cons (NLt.lit _) nl_nil))))) nl_nil)) (NLt.agg _ (nl_cons (NLt.lit _) (nl_cons (NLt.lit _) (nl_cons (NLt.lit _) (nl_cons (NLt.lit _) (nl_cons (NLt.lit _) (nl_cons (NLt.lit _) (nl_cons (NLt.lit _) (nl_cons (NLt.lit _) (nl_cons (NLt.lit _) (nl_cons (NLt.lit _) nl_nil))))))))))) rfl,
    fun _ => astep_alloc rfl tz44 rfl,
    fun _ => astep_store rfl ti44 (by rfl) rfl (Nat.le_of_ble_eq_true rfl) rfl, trivial⟩
    obtain ⟨x7, hf6, h⟩ := bind_out h
    obtain ⟨x9, hf8, h⟩ := bind_out h
    refine awp_regd [⟨[(.tmp 0, (.dat 5 ((p0 : List GRow).map c_GRow)))], [], (.dat 5 ((p0 : List GRow).map c_GRow)), [], false⟩,
    ⟨[(.tmp 1, I p1)], [], I p1, [], false⟩,
    ⟨[(.func 60, (.fn (.func 60) [] [])), (.tmp 58, (.dat 5 ((p0 : List GRow).map c_GRow))), (.tmp 59, I p1)], [], (.agg [I x7.Row.T, I x7.Row.P, I x7.Row.Liquid, I x7.Row.Vapour, I x7.Row.Silica]), [], false⟩,
    ⟨[(.tmp 2, I p2)], [], I p2, [], false⟩,
    ⟨[(.tmp 8, .ref 0 2 0 0)], [(0, .own 2 [[I p3.Lo, I p3.Hi]])], .ref 0 2 0 1, [], false⟩,
    ⟨[(.tmp 62, .ref 0 2 0 1)], [(0, .own 2 [[I p3.Lo, I p3.Hi]])], I p3.Hi, [], false⟩,
    ⟨[(.tmp 9, .ref 1 2 0 0)], [(1, .own 2 [[I p4.Lo, I p4.Hi]])], .ref 1 2 0 1, [], false⟩,
    ⟨[(.tmp 64, .ref 1 2 0 1)], [(1, .own 2 [[I p4.Lo, I p4.Hi]])], I p4.Hi, [], false⟩,
    ⟨[(.tmp 61, I p2), (.tmp 63, I p3.Hi), (.tmp 65, I p4.Hi)], [], (.agg [I p2, I p3.Hi, I p4.Hi, I 0]), [], false⟩,
    ⟨[(.func 61, (.fn (.func 61) [] [])), (.tmp 60, (.agg [I x7.Row.T, I x7.Row.P, I x7.Row.Liquid, I x7.Row.Vapour, I x7.Row.Silica])), (.tmp 66, (.agg [I p2, I p3.Hi, I p4.Hi, I 0]))], [], (.agg [I x9.Steam.Mass, I x9.Steam.Heat, I x9.Steam.Silica, I x9.Steam.Gas, I x9.Water.Mass, I x9.Water.Heat, I x9.Water.Silica, I x9.Water.Gas, I x9.Rest, I x9.Scale]), [], false⟩,
    ⟨[], [(5, .unused)], .ref 5 10 0 0, [(5, .own 10 [[I 0, I 0, I 0, I 0, I 0, I 0, I 0, I 0, I 0, I 0]])], false⟩,
    ⟨[(.tmp 14, .ref 5 10 0 0), (.tmp 67, (.agg [I x9.Steam.Mass, I x9.Steam.Heat, I x9.Steam.Silica, I x9.Steam.Gas, I x9.Water.Mass, I x9.Water.Heat, I x9.Water.Silica, I x9.Water.Gas, I x9.Rest, I x9.Scale]))], [(5, .own 10 [[I 0, I 0, I 0, I 0, I 0, I 0, I 0, I 0, I 0, I 0]])], .any, [(5, .own 10 [[I x9.Steam.Mass, I x9.Steam.Heat, I x9.Steam.Silica, I x9.Steam.Gas, I x9.Water.Mass, I x9.Water.Heat, I x9.Water.Silica, I x9.Water.Gas, I x9.Rest, I x9.Scale]])], false⟩] (by kernel_rfl) (by exact ⟨by kernel_rfl, by kernel_rfl⟩) (by kernel_rfl) ?_ ?_
    · exact ⟨fun _ => astep_move rfl,
    fun _ => astep_move rfl,
    fun _ => astep_pcall (first := []) (cap := []) (vs := [(.dat 5 ((p0 : List GRow).map c_GRow)), I p1]) rfl enter60 (steam_Table_atX_ok N p0 p1 _ hf6) rfl rfl (nl_cons (nl_dat nl_GRow _) (nl_cons (NLt.lit _) nl_nil)) (NLt.agg _ (nl_cons (NLt.lit _) (nl_cons (NLt.lit _) (nl_cons (NLt.lit _) (nl_cons (NLt.lit _) (nl_cons (NLt.lit _) nl_nil)))))) rfl,
    fun _ => astep_move rfl,
    fun _ => astep_faddr rfl Try.underlying71 rfl rfl ti3 (by decide) rfl,
    fun _ => astep_load rfl ti3 (by decide) rfl (Nat.le_of_ble_eq_true rfl) rfl,
    fun _ => astep_faddr rfl Try.underlying71 rfl rfl ti3 (by decide) rfl,
    fun _ => astep_load rfl ti3 (by decide) rfl (Nat.le_of_ble_eq_true rfl) rfl,
    fun _ => astep_build (vs := [I p2, I p3.Hi, I p4.Hi]) rfl ts42 tz42 rfl (by rfl) rfl,
    fun _ => astep_pcall (first := []) (cap := []) (vs := [(.agg [I x7.Row.T, I x7.Row.P, I x7.Row.Liquid, I x7.Row.Vapour, I x7.Row.Silica]), (.agg [I p2, I p3.Hi, I p4.Hi, I 0])]) rfl enter61 (steam_flash_ofX_ok N (⟨(⟨x7.Row.T, x7.Row.P, x7.Row.Liquid, x7.Row.Vapour, x7.Row.Silica⟩ : GRow)⟩ : GFlash) (⟨p2, p3.Hi, p4.Hi, 0⟩ : GStream) _ hf8) rfl rfl (nl_cons (NLt.agg _ (nl_cons (NLt.lit _) (nl_cons (NLt.lit _) (nl_cons (NLt.lit _) (nl_cons (NLt.lit _) (nl_cons (NLt.lit _) nl_nil)))))) (nl_cons (NLt.agg _ (nl_cons (NLt.lit _) (nl_cons (NLt.lit _) (nl_cons (NLt.lit _) (nl_cons (NLt.lit _) nl_nil))))) nl_nil)) (NLt.agg _ (nl_cons (NLt.lit _) (nl_cons (NLt.lit _) (nl_cons (NLt.lit _) (nl_cons (NLt.lit _) (nl_cons (NLt.lit _) (nl_cons (NLt.lit _) (nl_cons (NLt.lit _) (nl_cons (NLt.lit _) (nl_cons (NLt.lit _) (nl_cons (NLt.lit _) nl_nil))))))))))) rfl,
    fun _ => astep_alloc rfl tz44 rfl,
    fun _ => astep_store rfl ti44 (by rfl) rfl (Nat.le_of_ble_eq_true rfl) rfl, trivial⟩
    refine awp_regd [⟨[(.tmp 13, .ref 4 10 0 0)], [(4, .own 10 [[I x5.Steam.Mass, I x5.Steam.Heat, I x5.Steam.Silica, I x5.Steam.Gas, I x5.Water.Mass, I x5.Water.Heat, I x5.Water.Silica, I x5.Water.Gas, I x5.Rest, I x5.Scale]])], .ref 4 10 0 0, [], false⟩,
    ⟨[(.tmp 68, .ref 4 10 0 0)], [(4, .own 10 [[I x5.Steam.Mass, I x5.Steam.Heat, I x5.Steam.Silica, I x5.Steam.Gas, I x5.Water.Mass, I x5.Water.Heat, I x5.Water.Silica, I x5.Water.Gas, I x5.Rest, I x5.Scale]])], .ref 4 10 0 0, [], false⟩,
    ⟨[(.tmp 69, .ref 4 10 0 0)], [(4, .own 10 [[I x5.Steam.Mass, I x5.Steam.Heat, I x5.Steam.Silica, I x5.Steam.Gas, I x5.Water.Mass, I x5.Water.Heat, I x5.Water.Silica, I x5.Water.Gas, I x5.Rest, I x5.Scale]])], I x5.Steam.Mass, [], false⟩,
    ⟨[(.tmp 14, .ref 5 10 0 0)], [(5, .own 10 [[I x9.Steam.Mass, I x9.Steam.Heat, I x9.Steam.Silica, I x9.Steam.Gas, I x9.Water.Mass, I x9.Water.Heat, I x9.Water.Silica, I x9.Water.Gas, I x9.Rest, I x9.Scale]])], .ref 5 10 0 0, [], false⟩,
    ⟨[(.tmp 71, .ref 5 10 0 0)], [(5, .own 10 [[I x9.Steam.Mass, I x9.Steam.Heat, I x9.Steam.Silica, I x9.Steam.Gas, I x9.Water.Mass, I x9.Water.Heat, I x9.Water.Silica, I x9.Water.Gas, I x9.Rest, I x9.Scale]])], .ref 5 10 0 0, [], false⟩,
    ⟨[(.tmp 72, .ref 5 10 0 0)], [(5, .own 10 [[I x9.Steam.Mass, I x9.Steam.Heat, I x9.Steam.Silica, I x9.Steam.Gas, I x9.Water.Mass, I x9.Water.Heat, I x9.Water.Silica, I x9.Water.Gas, I x9.Rest, I x9.Scale]])], I x9.Steam.Mass, [], false⟩,
    ⟨[(.tmp 70, I x5.Steam.Mass), (.tmp 73, I x9.Steam.Mass)], [], (.agg [I x5.Steam.Mass, I x9.Steam.Mass]), [], false⟩,
    ⟨[(.tmp 13, .ref 4 10 0 0)], [(4, .own 10 [[I x5.Steam.Mass, I x5.Steam.Heat, I x5.Steam.Silica, I x5.Steam.Gas, I x5.Water.Mass, I x5.Water.Heat, I x5.Water.Silica, I x5.Water.Gas, I x5.Rest, I x5.Scale]])], .ref 4 10 0 9, [], false⟩,
    ⟨[(.tmp 75, .ref 4 10 0 9)], [(4, .own 10 [[I x5.Steam.Mass, I x5.Steam.Heat, I x5.Steam.Silica, I x5.Steam.Gas, I x5.Water.Mass, I x5.Water.Heat, I x5.Water.Silica, I x5.Water.Gas, I x5.Rest, I x5.Scale]])], I x5.Scale, [], false⟩,
    ⟨[(.tmp 14, .ref 5 10 0 0)], [(5, .own 10 [[I x9.Steam.Mass, I x9.Steam.Heat, I x9.Steam.Silica, I x9.Steam.Gas, I x9.Water.Mass, I x9.Water.Heat, I x9.Water.Silica, I x9.Water.Gas, I x9.Rest, I x9.Scale]])], .ref 5 10 0 9, [], false⟩,
    ⟨[(.tmp 77, .ref 5 10 0 9)], [(5, .own 10 [[I x9.Steam.Mass, I x9.Steam.Heat, I x9.Steam.Silica, I x9.Steam.Gas, I x9.Water.Mass, I x9.Water.Heat, I x9.Water.Silica, I x9.Water.Gas, I x9.Rest, I x9.Scale]])], I x9.Scale, [], false⟩,
    ⟨[(.tmp 76, I x5.Scale), (.tmp 78, I x9.Scale)], [], (.agg [I x5.Scale, I x9.Scale]), [], false⟩,
    ⟨[(.tmp 10, .ref 2 2 0 0), (.tmp 74, (.agg [I x5.Steam.Mass, I x9.Steam.Mass]))], [(2, .own 2 [[I 0, I 0]])], .any, [(2, .own 2 [[I x5.Steam.Mass, I x9.Steam.Mass]])], false⟩,
    ⟨[(.tmp 11, .ref 3 2 0 0), (.tmp 79, (.agg [I x5.Scale, I x9.Scale]))], [(3, .own 2 [[I 0, I 0]])], .any, [(3, .own 2 [[I x5.Scale, I x9.Scale]])], false⟩,
    ⟨[(.const (.int .i64 0), I 0)], [], I 0, [], false⟩] (by kernel_rfl) (by exact ⟨by kernel_rfl, by kernel_rfl⟩) (by kernel_rfl) ?_ ?_
    · exact ⟨fun _ => astep_faddr rfl Try.underlying44 rfl rfl ti42 (by decide) rfl,
    fun _ => astep_faddr rfl Try.underlying42 rfl rfl ti3 (by decide) rfl,
    fun _ => astep_load rfl ti3 (by decide) rfl (Nat.le_of_ble_eq_true rfl) rfl,
    fun _ => astep_faddr rfl Try.underlying44 rfl rfl ti42 (by decide) rfl,
    fun _ => astep_faddr rfl Try.underlying42 rfl rfl ti3 (by decide) rfl,
    fun _ => astep_load rfl ti3 (by decide) rfl (Nat.le_of_ble_eq_true rfl) rfl,
    fun _ => astep_build (vs := [I x5.Steam.Mass, I x9.Steam.Mass]) rfl ts71 tz71 rfl (by rfl) rfl,
    fun _ => astep_faddr rfl Try.underlying44 rfl rfl ti3 (by decide) rfl,
    fun _ => astep_load rfl ti3 (by decide) rfl (Nat.le_of_ble_eq_true rfl) rfl,
    fun _ => astep_faddr rfl Try.underlying44 rfl rfl ti3 (by decide) rfl,
    fun _ => astep_load rfl ti3 (by decide) rfl (Nat.le_of_ble_eq_true rfl) rfl,
    fun _ => astep_build (vs := [I x5.Scale, I x9.Scale]) rfl ts71 tz71 rfl (by rfl) rfl,
    fun _ => astep_store rfl ti71 (by rfl) rfl (Nat.le_of_ble_eq_true rfl) rfl,
    fun _ => astep_store rfl ti71 (by rfl) rfl (Nat.le_of_ble_eq_true rfl) rfl,
    fun _ => astep_assign rfl, trivial⟩
    refine awp_ret ?_
    obtain rfl := Option.some.inj h
    exact ⟨⟨[(.agg [I x5.Steam.Mass, I x9.Steam.Mass]), (.agg [I x5.Scale, I x9.Scale]), I 0], ⟨resOK_cell (n := 2) (m := 2) (j := 0) (i := 0) (xs := [[I x5.Steam.Mass, I x9.Steam.Mass]]) (by kernel_rfl) (by kernel_rfl) ti71 (by decide) rfl (Nat.le_of_ble_eq_true rfl) rfl, resOK_cell (n := 3) (m := 2) (j := 0) (i := 0) (xs := [[I x5.Scale, I x9.Scale]]) (by kernel_rfl) (by kernel_rfl) ti71 (by decide) rfl (Nat.le_of_ble_eq_true rfl) rfl, resOK_tmp (by kernel_rfl), trivial⟩, rfl⟩, (NLt.tup _ (nl_cons (NLt.agg _ (nl_cons (NLt.lit _) (nl_cons (NLt.lit _) nl_nil))) (nl_cons (NLt.agg _ (nl_cons (NLt.lit _) (nl_cons (NLt.lit _) nl_nil))) (nl_cons (NLt.lit _) nl_nil)))), Nat.le_refl _, fun n hn => absurd hn (Nat.not_lt_zero n)⟩
  · skip
    refine awp_block ?_
    obtain ⟨x11, hf10, h⟩ := bind_out h
    refine awp_reg [⟨[(.tmp 0, (.dat 5 ((p0 : List GRow).map c_GRow)))], [], (.dat 5 ((p0 : List GRow).map c_GRow)), [], false⟩,
    ⟨[(.func 56, (.fn (.func 56) [] [])), (.tmp 16, (.dat 5 ((p0 : List GRow).map c_GRow)))], [], B x11, [], false⟩,
    ⟨[(.tmp 17, B x11)], [], (B ((!x11))), [], false⟩,
    ⟨[(.tmp 18, (B ((!x11))))], [], (B ((!x11))), [], false⟩] (by exact ⟨by kernel_rfl, by kernel_rfl⟩) ?_ ?_
    · exact ⟨fun _ => astep_move rfl,
    fun _ => astep_pcall (first := []) (cap := []) (vs := [(.dat 5 ((p0 : List GRow).map c_GRow))]) rfl enter56 (steam_Table_validX_ok N p0 _ hf10) rfl rfl (nl_cons (nl_dat nl_GRow _) nl_nil) (NLt.lit _) rfl,
    fun _ => astep_not rfl,
    fun _ => astep_assign rfl, trivial⟩
    rcases Bool.eq_false_or_eq_true ((!x11)) with hc12 | hc12
    · replace h := bif_t hc12 h
      refine awp_ift hc12 (by kernel_rfl) ?_
      refine awp_regd [⟨[(.tmp 10, .ref 2 2 0 0)], [(2, .own 2 [[I 0, I 0]])], (.agg [I 0, I 0]), [], false⟩,
    ⟨[(.tmp 11, .ref 3 2 0 0)], [(3, .own 2 [[I 0, I 0]])], (.agg [I 0, I 0]), [], false⟩,
    ⟨[(.tmp 10, .ref 2 2 0 0), (.tmp 19, (.agg [I 0, I 0]))], [(2, .own 2 [[I 0, I 0]])], .any, [(2, .own 2 [[I 0, I 0]])], false⟩,
    ⟨[(.tmp 11, .ref 3 2 0 0), (.tmp 20, (.agg [I 0, I 0]))], [(3, .own 2 [[I 0, I 0]])], .any, [(3, .own 2 [[I 0, I 0]])], false⟩,
    ⟨[(.const (.int .i64 1), I 1)], [], I 1, [], false⟩] (by kernel_rfl) (by exact ⟨by kernel_rfl, by kernel_rfl⟩) (by kernel_rfl) ?_ ?_
      · exact ⟨fun _ => astep_load rfl ti71 (by decide) rfl (Nat.le_of_ble_eq_true rfl) rfl,
    fun _ => astep_load rfl ti71 (by decide) rfl (Nat.le_of_ble_eq_true rfl) rfl,
    fun _ => astep_store rfl ti71 (by rfl) rfl (Nat.le_of_ble_eq_true rfl) rfl,
    fun _ => astep_store rfl ti71 (by rfl) rfl (Nat.le_of_ble_eq_true rfl) rfl,
    fun _ => astep_assign rfl, trivial⟩
      refine awp_ret ?_
      refine blockA_r ?_
      refine thenA_r ?_
      obtain rfl := Option.some.inj h
      exact ⟨⟨[(.agg [I 0, I 0]), (.agg [I 0, I 0]), I 1], ⟨resOK_cell (n := 2) (m := 2) (j := 0) (i := 0) (xs := [[I 0, I 0]]) (by kernel_rfl) (by kernel_rfl) ti71 (by decide) rfl (Nat.le_of_ble_eq_true rfl) rfl, resOK_cell (n := 3) (m := 2) (j := 0) (i := 0) (xs := [[I 0, I 0]]) (by kernel_rfl) (by kernel_rfl) ti71 (by decide) rfl (Nat.le_of_ble_eq_true rfl) rfl, resOK_tmp (by kernel_rfl), trivial⟩, rfl⟩, (NLt.tup _ (nl_cons (NLt.agg _ (nl_cons (NLt.lit _) (nl_cons (NLt.lit _) nl_nil))) (nl_cons (NLt.agg _ (nl_cons (NLt.lit _) (nl_cons (NLt.lit _) nl_nil))) (nl_cons (NLt.lit _) nl_nil)))), Nat.le_refl _, fun n hn => absurd hn (Nat.not_lt_zero n)⟩
    · replace h := bif_f hc12 h
      refine awp_ifn hc12 (by kernel_rfl) ?_
      obtain ⟨x14, hf13, h⟩ := bind_out h
      refine awp_reg [⟨[(.tmp 0, (.dat 5 ((p0 : List GRow).map c_GRow)))], [], (.dat 5 ((p0 : List GRow).map c_GRow)), [], false⟩,
    ⟨[(.tmp 1, I p1)], [], I p1, [], false⟩,
    ⟨[(.func 62, (.fn (.func 62) [] [])), (.tmp 22, (.dat 5 ((p0 : List GRow).map c_GRow))), (.tmp 23, I p1)], [], B x14, [], false⟩,
    ⟨[(.tmp 24, B x14)], [], (B ((!x14))), [], false⟩,
    ⟨[(.tmp 25, (B ((!x14))))], [], (B ((!x14))), [], false⟩] (by exact ⟨by kernel_rfl, by kernel_rfl⟩) ?_ ?_
      · exact ⟨fun _ => astep_move rfl,
    fun _ => astep_move rfl,
    fun _ => astep_pcall (first := []) (cap := []) (vs := [(.dat 5 ((p0 : List GRow).map c_GRow)), I p1]) rfl enter62 (steam_Table_hasX_ok N p0 p1 _ hf13) rfl rfl (nl_cons (nl_dat nl_GRow _) (nl_cons (NLt.lit _) nl_nil)) (NLt.lit _) rfl,
    fun _ => astep_not rfl,
    fun _ => astep_assign rfl, trivial⟩
      rcases Bool.eq_false_or_eq_true ((!x14)) with hc15 | hc15
      · replace h := bif_t hc15 h
        refine awp_ift hc15 (by kernel_rfl) ?_
        refine awp_regd [⟨[(.tmp 10, .ref 2 2 0 0)], [(2, .own 2 [[I 0, I 0]])], (.agg [I 0, I 0]), [], false⟩,
    ⟨[(.tmp 11, .ref 3 2 0 0)], [(3, .own 2 [[I 0, I 0]])], (.agg [I 0, I 0]), [], false⟩,
    ⟨[(.tmp 10, .ref 2 2 0 0), (.tmp 26, (.agg [I 0, I 0]))], [(2, .own 2 [[I 0, I 0]])], .any, [(2, .own 2 [[I 0, I 0]])], false⟩,
    ⟨[(.tmp 11, .ref 3 2 0 0), (.tmp 27, (.agg [I 0, I 0]))], [(3, .own 2 [[I 0, I 0]])], .any, [(3, .own 2 [[I 0, I 0]])], false⟩,
    ⟨[(.const (.int .i64 2), I 2)], [], I 2, [], false⟩] (by kernel_rfl) (by exact ⟨by kernel_rfl, by kernel_rfl⟩) (by kernel_rfl) ?_ ?_
        · exact ⟨fun _ => astep_load rfl ti71 (by decide) rfl (Nat.le_of_ble_eq_true rfl) rfl,
    fun _ => astep_load rfl ti71 (by decide) rfl (Nat.le_of_ble_eq_true rfl) rfl,
    fun _ => astep_store rfl ti71 (by rfl) rfl (Nat.le_of_ble_eq_true rfl) rfl,
    fun _ => astep_store rfl ti71 (by rfl) rfl (Nat.le_of_ble_eq_true rfl) rfl,
    fun _ => astep_assign rfl, trivial⟩
        refine awp_ret ?_
        refine blockA_r ?_
        refine thenA_r ?_
        obtain rfl := Option.some.inj h
        exact ⟨⟨[(.agg [I 0, I 0]), (.agg [I 0, I 0]), I 2], ⟨resOK_cell (n := 2) (m := 2) (j := 0) (i := 0) (xs := [[I 0, I 0]]) (by kernel_rfl) (by kernel_rfl) ti71 (by decide) rfl (Nat.le_of_ble_eq_true rfl) rfl, resOK_cell (n := 3) (m := 2) (j := 0) (i := 0) (xs := [[I 0, I 0]]) (by kernel_rfl) (by kernel_rfl) ti71 (by decide) rfl (Nat.le_of_ble_eq_true rfl) rfl, resOK_tmp (by kernel_rfl), trivial⟩, rfl⟩, (NLt.tup _ (nl_cons (NLt.agg _ (nl_cons (NLt.lit _) (nl_cons (NLt.lit _) nl_nil))) (nl_cons (NLt.agg _ (nl_cons (NLt.lit _) (nl_cons (NLt.lit _) nl_nil))) (nl_cons (NLt.lit _) nl_nil)))), Nat.le_refl _, fun n hn => absurd hn (Nat.not_lt_zero n)⟩
      · replace h := bif_f hc15 h
        refine awp_ifn hc15 (by kernel_rfl) ?_
        obtain ⟨x17, hf16, h⟩ := bind_out h
        rcases Bool.eq_false_or_eq_true ((!x17)) with hb18 | hb18
        · replace h := bif_t hb18 h
          refine awp_reg [⟨[(.tmp 2, I p2)], [], I p2, [], false⟩,
    ⟨[(.func 65, (.fn (.func 65) [] [])), (.tmp 29, I p2), (.const (.int .i64 0), I 0), (.const (.int .i64 1000000), I 1000000)], [], B x17, [], false⟩,
    ⟨[(.tmp 30, B x17)], [], (B ((!x17))), [], false⟩,
    ⟨[(.tmp 31, (B ((!x17))))], [], B true, [], false⟩,
    ⟨[(.tmp 32, B true)], [], (.lit undef), [], true⟩,
    ⟨[(.tmp 32, B true)], [], (.lit undef), [], true⟩,
    ⟨[(.tmp 32, B true)], [], (.lit undef), [], true⟩,
    ⟨[(.tmp 32, B true)], [], (.lit undef), [], true⟩,
    ⟨[(.tmp 32, B true)], [], (.lit undef), [], true⟩,
    ⟨[(.tmp 32, B true), (.const (.bool true), B true), (.tmp 37, (.lit undef))], [], B true, [], false⟩,
    ⟨[(.tmp 38, B true)], [], B true, [], false⟩,
    ⟨[(.tmp 39, B true)], [], (.lit undef), [], true⟩,
    ⟨[(.tmp 39, B true)], [], (.lit undef), [], true⟩,
    ⟨[(.tmp 39, B true)], [], (.lit undef), [], true⟩,
    ⟨[(.tmp 39, B true)], [], (.lit undef), [], true⟩,
    ⟨[(.tmp 39, B true)], [], (.lit undef), [], true⟩,
    ⟨[(.tmp 39, B true), (.const (.bool true), B true), (.tmp 44, (.lit undef))], [], B true, [], false⟩,
    ⟨[(.tmp 45, B true)], [], B true, [], false⟩] (by exact ⟨by kernel_rfl, by kernel_rfl⟩) ?_ ?_
          · exact ⟨fun _ => astep_move rfl,
    fun _ => astep_pcall (first := []) (cap := []) (vs := [I p2, I 0, I 1000000]) rfl enter65 (steam_withinX_ok N p2 0 1000000 _ hf16) rfl rfl (nl_cons (NLt.lit _) (nl_cons (NLt.lit _) (nl_cons (NLt.lit _) nl_nil))) (NLt.lit _) rfl,
    fun _ => astep_not rfl,
    fun _ => astep_b hb18 (astep_move rfl),
    fun hs => (Bool.noConfusion hs),
    fun hs => (Bool.noConfusion hs),
    fun hs => (Bool.noConfusion hs),
    fun hs => (Bool.noConfusion hs),
    fun hs => (Bool.noConfusion hs),
    fun _ => astep_pick rfl rfl,
    fun _ => astep_move rfl,
    fun hs => (Bool.noConfusion hs),
    fun hs => (Bool.noConfusion hs),
    fun hs => (Bool.noConfusion hs),
    fun hs => (Bool.noConfusion hs),
    fun hs => (Bool.noConfusion hs),
    fun _ => astep_pick rfl rfl,
    fun _ => astep_assign rfl, trivial⟩
          refine awp_true (by kernel_rfl) ?_
          refine awp_regd [⟨[(.tmp 10, .ref 2 2 0 0)], [(2, .own 2 [[I 0, I 0]])], (.agg [I 0, I 0]), [], false⟩,
    ⟨[(.tmp 11, .ref 3 2 0 0)], [(3, .own 2 [[I 0, I 0]])], (.agg [I 0, I 0]), [], false⟩,
    ⟨[(.tmp 10, .ref 2 2 0 0), (.tmp 46, (.agg [I 0, I 0]))], [(2, .own 2 [[I 0, I 0]])], .any, [(2, .own 2 [[I 0, I 0]])], false⟩,
    ⟨[(.tmp 11, .ref 3 2 0 0), (.tmp 47, (.agg [I 0, I 0]))], [(3, .own 2 [[I 0, I 0]])], .any, [(3, .own 2 [[I 0, I 0]])], false⟩,
    ⟨[(.const (.int .i64 1), I 1)], [], I 1, [], false⟩] (by kernel_rfl) (by exact ⟨by kernel_rfl, by kernel_rfl⟩) (by kernel_rfl) ?_ ?_
          · exact ⟨fun _ => astep_load rfl ti71 (by decide) rfl (Nat.le_of_ble_eq_true rfl) rfl,
    fun _ => astep_load rfl ti71 (by decide) rfl (Nat.le_of_ble_eq_true rfl) rfl,
    fun _ => astep_store rfl ti71 (by rfl) rfl (Nat.le_of_ble_eq_true rfl) rfl,
    fun _ => astep_store rfl ti71 (by rfl) rfl (Nat.le_of_ble_eq_true rfl) rfl,
    fun _ => astep_assign rfl, trivial⟩
          refine awp_ret ?_
          refine blockA_r ?_
          refine thenA_r ?_
          obtain rfl := Option.some.inj h
          exact ⟨⟨[(.agg [I 0, I 0]), (.agg [I 0, I 0]), I 1], ⟨resOK_cell (n := 2) (m := 2) (j := 0) (i := 0) (xs := [[I 0, I 0]]) (by kernel_rfl) (by kernel_rfl) ti71 (by decide) rfl (Nat.le_of_ble_eq_true rfl) rfl, resOK_cell (n := 3) (m := 2) (j := 0) (i := 0) (xs := [[I 0, I 0]]) (by kernel_rfl) (by kernel_rfl) ti71 (by decide) rfl (Nat.le_of_ble_eq_true rfl) rfl, resOK_tmp (by kernel_rfl), trivial⟩, rfl⟩, (NLt.tup _ (nl_cons (NLt.agg _ (nl_cons (NLt.lit _) (nl_cons (NLt.lit _) nl_nil))) (nl_cons (NLt.agg _ (nl_cons (NLt.lit _) (nl_cons (NLt.lit _) nl_nil))) (nl_cons (NLt.lit _) nl_nil)))), Nat.le_refl _, fun n hn => absurd hn (Nat.not_lt_zero n)⟩
        · replace h := bif_f hb18 h
          obtain ⟨x20, hf19, h⟩ := bind_out h
          rcases Bool.eq_false_or_eq_true ((!x20)) with hb21 | hb21
          · replace h := bif_t hb21 h
            refine awp_reg [⟨[(.tmp 2, I p2)], [], I p2, [], false⟩,
    ⟨[(.func 65, (.fn (.func 65) [] [])), (.tmp 29, I p2), (.const (.int .i64 0), I 0), (.const (.int .i64 1000000), I 1000000)], [], B x17, [], false⟩,
    ⟨[(.tmp 30, B x17)], [], (B ((!x17))), [], false⟩,
    ⟨[(.tmp 31, (B ((!x17))))], [], B false, [], false⟩,
    ⟨[(.tmp 32, B false), (.tmp 8, .ref 0 2 0 0)], [(0, .own 2 [[I p3.Lo, I p3.Hi]])], (.agg [I p3.Lo, I p3.Hi]), [], false⟩,
    ⟨[(.tmp 32, B false), (.tmp 2, I p2)], [], I p2, [], false⟩,
    ⟨[(.tmp 32, B false), (.const (.int .i64 4000), I 4000), (.tmp 34, I p2)], [], (I (w64 (4000 * p2))), [], false⟩,
    ⟨[(.tmp 32, B false), (.func 73, (.fn (.func 73) [] [])), (.tmp 33, (.agg [I p3.Lo, I p3.Hi])), (.tmp 35, (I (w64 (4000 * p2))))], [], B x20, [], false⟩,
    ⟨[(.tmp 32, B false), (.tmp 36, B x20)], [], (B ((!x20))), [], false⟩,
    ⟨[(.tmp 32, B false), (.const (.bool true), B true), (.tmp 37, (B ((!x20))))], [], (B ((!x20))), [], false⟩,
    ⟨[(.tmp 38, (B ((!x20))))], [], B true, [], false⟩,
    ⟨[(.tmp 39, B true)], [], (.lit undef), [], true⟩,
    ⟨[(.tmp 39, B true)], [], (.lit undef), [], true⟩,
    ⟨[(.tmp 39, B true)], [], (.lit undef), [], true⟩,
    ⟨[(.tmp 39, B true)], [], (.lit undef), [], true⟩,
    ⟨[(.tmp 39, B true)], [], (.lit undef), [], true⟩,
    ⟨[(.tmp 39, B true), (.const (.bool true), B true), (.tmp 44, (.lit undef))], [], B true, [], false⟩,
    ⟨[(.tmp 45, B true)], [], B true, [], false⟩] (by exact ⟨by kernel_rfl, by kernel_rfl⟩) ?_ ?_
            · exact ⟨fun _ => astep_move rfl,
    fun _ => astep_pcall (first := []) (cap := []) (vs := [I p2, I 0, I 1000000]) rfl enter65 (steam_withinX_ok N p2 0 1000000 _ hf16) rfl rfl (nl_cons (NLt.lit _) (nl_cons (NLt.lit _) (nl_cons (NLt.lit _) nl_nil))) (NLt.lit _) rfl,
    fun _ => astep_not rfl,
    fun _ => astep_b hb18 (astep_move rfl),
    fun _ => astep_guard (astep_load rfl ti71 (by decide) rfl (Nat.le_of_ble_eq_true rfl) rfl),
    fun _ => astep_guard (astep_move rfl),
    fun _ => astep_guard (astep_bin rfl rfl),
    fun _ => astep_guard (astep_pcall (first := []) (cap := []) (vs := [(.agg [I p3.Lo, I p3.Hi]), (I (w64 (4000 * p2)))]) rfl enter73 (steam_Range_endsX_ok N p3 (w64 (4000 * p2)) _ hf19) rfl rfl (nl_cons (NLt.agg _ (nl_cons (NLt.lit _) (nl_cons (NLt.lit _) nl_nil))) (nl_cons (NLt.lit _) nl_nil)) (NLt.lit _) rfl),
    fun _ => astep_guard (astep_not rfl),
    fun _ => astep_pick rfl rfl,
    fun _ => astep_b hb21 (astep_move rfl),
    fun hs => (Bool.noConfusion hs),
    fun hs => (Bool.noConfusion hs),
    fun hs => (Bool.noConfusion hs),
    fun hs => (Bool.noConfusion hs),
    fun hs => (Bool.noConfusion hs),
    fun _ => astep_pick rfl rfl,
    fun _ => astep_assign rfl, trivial⟩
            refine awp_true (by kernel_rfl) ?_
            refine awp_regd [⟨[(.tmp 10, .ref 2 2 0 0)], [(2, .own 2 [[I 0, I 0]])], (.agg [I 0, I 0]), [], false⟩,
    ⟨[(.tmp 11, .ref 3 2 0 0)], [(3, .own 2 [[I 0, I 0]])], (.agg [I 0, I 0]), [], false⟩,
    ⟨[(.tmp 10, .ref 2 2 0 0), (.tmp 46, (.agg [I 0, I 0]))], [(2, .own 2 [[I 0, I 0]])], .any, [(2, .own 2 [[I 0, I 0]])], false⟩,
    ⟨[(.tmp 11, .ref 3 2 0 0), (.tmp 47, (.agg [I 0, I 0]))], [(3, .own 2 [[I 0, I 0]])], .any, [(3, .own 2 [[I 0, I 0]])], false⟩,
    ⟨[(.const (.int .i64 1), I 1)], [], I 1, [], false⟩] (by kernel_rfl) (by exact ⟨by kernel_rfl, by kernel_rfl⟩) (by kernel_rfl) ?_ ?_
            · exact ⟨fun _ => astep_load rfl ti71 (by decide) rfl (Nat.le_of_ble_eq_true rfl) rfl,
    fun _ => astep_load rfl ti71 (by decide) rfl (Nat.le_of_ble_eq_true rfl) rfl,
    fun _ => astep_store rfl ti71 (by rfl) rfl (Nat.le_of_ble_eq_true rfl) rfl,
    fun _ => astep_store rfl ti71 (by rfl) rfl (Nat.le_of_ble_eq_true rfl) rfl,
    fun _ => astep_assign rfl, trivial⟩
            refine awp_ret ?_
            refine blockA_r ?_
            refine thenA_r ?_
            obtain rfl := Option.some.inj h
            exact ⟨⟨[(.agg [I 0, I 0]), (.agg [I 0, I 0]), I 1], ⟨resOK_cell (n := 2) (m := 2) (j := 0) (i := 0) (xs := [[I 0, I 0]]) (by kernel_rfl) (by kernel_rfl) ti71 (by decide) rfl (Nat.le_of_ble_eq_true rfl) rfl, resOK_cell (n := 3) (m := 2) (j := 0) (i := 0) (xs := [[I 0, I 0]]) (by kernel_rfl) (by kernel_rfl) ti71 (by decide) rfl (Nat.le_of_ble_eq_true rfl) rfl, resOK_tmp (by kernel_rfl), trivial⟩, rfl⟩, (NLt.tup _ (nl_cons (NLt.agg _ (nl_cons (NLt.lit _) (nl_cons (NLt.lit _) nl_nil))) (nl_cons (NLt.agg _ (nl_cons (NLt.lit _) (nl_cons (NLt.lit _) nl_nil))) (nl_cons (NLt.lit _) nl_nil)))), Nat.le_refl _, fun n hn => absurd hn (Nat.not_lt_zero n)⟩
          · replace h := bif_f hb21 h
            obtain ⟨x23, hf22, h⟩ := bind_out h
            refine awp_reg [⟨[(.tmp 2, I p2)], [], I p2, [], false⟩,
    ⟨[(.func 65, (.fn (.func 65) [] [])), (.tmp 29, I p2), (.const (.int .i64 0), I 0), (.const (.int .i64 1000000), I 1000000)], [], B x17, [], false⟩,
    ⟨[(.tmp 30, B x17)], [], (B ((!x17))), [], false⟩,
    ⟨[(.tmp 31, (B ((!x17))))], [], B false, [], false⟩,
    ⟨[(.tmp 32, B false), (.tmp 8, .ref 0 2 0 0)], [(0, .own 2 [[I p3.Lo, I p3.Hi]])], (.agg [I p3.Lo, I p3.Hi]), [], false⟩,
    ⟨[(.tmp 32, B false), (.tmp 2, I p2)], [], I p2, [], false⟩,
    ⟨[(.tmp 32, B false), (.const (.int .i64 4000), I 4000), (.tmp 34, I p2)], [], (I (w64 (4000 * p2))), [], false⟩,
    ⟨[(.tmp 32, B false), (.func 73, (.fn (.func 73) [] [])), (.tmp 33, (.agg [I p3.Lo, I p3.Hi])), (.tmp 35, (I (w64 (4000 * p2))))], [], B x20, [], false⟩,
    ⟨[(.tmp 32, B false), (.tmp 36, B x20)], [], (B ((!x20))), [], false⟩,
    ⟨[(.tmp 32, B false), (.const (.bool true), B true), (.tmp 37, (B ((!x20))))], [], (B ((!x20))), [], false⟩,
    ⟨[(.tmp 38, (B ((!x20))))], [], B false, [], false⟩,
    ⟨[(.tmp 39, B false), (.tmp 9, .ref 1 2 0 0)], [(1, .own 2 [[I p4.Lo, I p4.Hi]])], (.agg [I p4.Lo, I p4.Hi]), [], false⟩,
    ⟨[(.tmp 39, B false), (.tmp 2, I p2)], [], I p2, [], false⟩,
    ⟨[(.tmp 39, B false), (.const (.int .i64 10000), I 10000), (.tmp 41, I p2)], [], (I (w64 (10000 * p2))), [], false⟩,
    ⟨[(.tmp 39, B false), (.func 73, (.fn (.func 73) [] [])), (.tmp 40, (.agg [I p4.Lo, I p4.Hi])), (.tmp 42, (I (w64 (10000 * p2))))], [], B x23, [], false⟩,
    ⟨[(.tmp 39, B false), (.tmp 43, B x23)], [], (B ((!x23))), [], false⟩,
    ⟨[(.tmp 39, B false), (.const (.bool true), B true), (.tmp 44, (B ((!x23))))], [], (B ((!x23))), [], false⟩,
    ⟨[(.tmp 45, (B ((!x23))))], [], (B ((!x23))), [], false⟩] (by exact ⟨by kernel_rfl, by kernel_rfl⟩) ?_ ?_
            · exact ⟨fun _ => astep_move rfl,
    fun _ => astep_pcall (first := []) (cap := []) (vs := [I p2, I 0, I 1000000]) rfl enter65 (steam_withinX_ok N p2 0 1000000 _ hf16) rfl rfl (nl_cons (NLt.lit _) (nl_cons (NLt.lit _) (nl_cons (NLt.lit _) nl_nil))) (NLt.lit _) rfl,
    fun _ => astep_not rfl,
    fun _ => astep_b hb18 (astep_move rfl),
    fun _ => astep_guard (astep_load rfl ti71 (by decide) rfl (Nat.le_of_ble_eq_true rfl) rfl),
    fun _ => astep_guard (astep_move rfl),
    fun _ => astep_guard (astep_bin rfl rfl),
    fun _ => astep_guard (astep_pcall (first := []) (cap := []) (vs := [(.agg [I p3.Lo, I p3.Hi]), (I (w64 (4000 * p2)))]) rfl enter73 (steam_Range_endsX_ok N p3 (w64 (4000 * p2)) _ hf19) rfl rfl (nl_cons (NLt.agg _ (nl_cons (NLt.lit _) (nl_cons (NLt.lit _) nl_nil))) (nl_cons (NLt.lit _) nl_nil)) (NLt.lit _) rfl),
    fun _ => astep_guard (astep_not rfl),
    fun _ => astep_pick rfl rfl,
    fun _ => astep_b hb21 (astep_move rfl),
    fun _ => astep_guard (astep_load rfl ti71 (by decide) rfl (Nat.le_of_ble_eq_true rfl) rfl),
    fun _ => astep_guard (astep_move rfl),
    fun _ => astep_guard (astep_bin rfl rfl),
    fun _ => astep_guard (astep_pcall (first := []) (cap := []) (vs := [(.agg [I p4.Lo, I p4.Hi]), (I (w64 (10000 * p2)))]) rfl enter73 (steam_Range_endsX_ok N p4 (w64 (10000 * p2)) _ hf22) rfl rfl (nl_cons (NLt.agg _ (nl_cons (NLt.lit _) (nl_cons (NLt.lit _) nl_nil))) (nl_cons (NLt.lit _) nl_nil)) (NLt.lit _) rfl),
    fun _ => astep_guard (astep_not rfl),
    fun _ => astep_pick rfl rfl,
    fun _ => astep_assign rfl, trivial⟩
            rcases Bool.eq_false_or_eq_true ((!x23)) with hc24 | hc24
            · replace h := bif_t hc24 h
              refine awp_ift hc24 (by kernel_rfl) ?_
              refine awp_regd [⟨[(.tmp 10, .ref 2 2 0 0)], [(2, .own 2 [[I 0, I 0]])], (.agg [I 0, I 0]), [], false⟩,
    ⟨[(.tmp 11, .ref 3 2 0 0)], [(3, .own 2 [[I 0, I 0]])], (.agg [I 0, I 0]), [], false⟩,
    ⟨[(.tmp 10, .ref 2 2 0 0), (.tmp 46, (.agg [I 0, I 0]))], [(2, .own 2 [[I 0, I 0]])], .any, [(2, .own 2 [[I 0, I 0]])], false⟩,
    ⟨[(.tmp 11, .ref 3 2 0 0), (.tmp 47, (.agg [I 0, I 0]))], [(3, .own 2 [[I 0, I 0]])], .any, [(3, .own 2 [[I 0, I 0]])], false⟩,
    ⟨[(.const (.int .i64 1), I 1)], [], I 1, [], false⟩] (by kernel_rfl) (by exact ⟨by kernel_rfl, by kernel_rfl⟩) (by kernel_rfl) ?_ ?_
              · exact ⟨fun _ => astep_load rfl ti71 (by decide) rfl (Nat.le_of_ble_eq_true rfl) rfl,
    fun _ => astep_load rfl ti71 (by decide) rfl (Nat.le_of_ble_eq_true rfl) rfl,
    fun _ => astep_store rfl ti71 (by rfl) rfl (Nat.le_of_ble_eq_true rfl) rfl,
    fun _ => astep_store rfl ti71 (by rfl) rfl (Nat.le_of_ble_eq_true rfl) rfl,
    fun _ => astep_assign rfl, trivial⟩
              refine awp_ret ?_
              refine blockA_r ?_
              refine thenA_r ?_
              obtain rfl := Option.some.inj h
              exact ⟨⟨[(.agg [I 0, I 0]), (.agg [I 0, I 0]), I 1], ⟨resOK_cell (n := 2) (m := 2) (j := 0) (i := 0) (xs := [[I 0, I 0]]) (by kernel_rfl) (by kernel_rfl) ti71 (by decide) rfl (Nat.le_of_ble_eq_true rfl) rfl, resOK_cell (n := 3) (m := 2) (j := 0) (i := 0) (xs := [[I 0, I 0]]) (by kernel_rfl) (by kernel_rfl) ti71 (by decide) rfl (Nat.le_of_ble_eq_true rfl) rfl, resOK_tmp (by kernel_rfl), trivial⟩, rfl⟩, (NLt.tup _ (nl_cons (NLt.agg _ (nl_cons (NLt.lit _) (nl_cons (NLt.lit _) nl_nil))) (nl_cons (NLt.agg _ (nl_cons (NLt.lit _) (nl_cons (NLt.lit _) nl_nil))) (nl_cons (NLt.lit _) nl_nil)))), Nat.le_refl _, fun n hn => absurd hn (Nat.not_lt_zero n)⟩
            · replace h := bif_f hc24 h
              refine awp_ifn hc24 (by kernel_rfl) ?_
              refine awp_skip ?_
              refine blockA_n ?_
              refine thenA_n ?_
              exact ⟨(), h, (mor_to (n := 80) (l' := [(0, (.dat 5 ((p0 : List GRow).map c_GRow))), (1, I p1), (2, I p2), (8, .ref 0 2 0 0), (9, .ref 1 2 0 0), (10, .ref 2 2 0 0), (11, .ref 3 2 0 0)]) (own' := [(.own 2 [[I p3.Lo, I p3.Hi]]), (.own 2 [[I p4.Lo, I p4.Hi]]), (.own 2 [[I 0, I 0]]), (.own 2 [[I 0, I 0]])]) [(0, (.dat 5 ((p0 : List GRow).map c_GRow))), (1, I p1), (2, I p2), (8, .ref 0 2 0 0), (9, .ref 1 2 0 0), (10, .ref 2 2 0 0), (11, .ref 3 2 0 0)] [0, 1, 2, 3] [(.own 2 [[I p3.Lo, I p3.Hi]]), (.own 2 [[I p4.Lo, I p4.Hi]]), (.own 2 [[I 0, I 0]]), (.own 2 [[I 0, I 0]])] hφ0 (by kernel_rfl) (by kernel_rfl) (by kernel_rfl) ⟨rfl, .rn (.plain _ (nl_dat nl_GRow _)), rfl, .rn (.plain _ (NLt.lit _)), rfl, .rn (.plain _ (NLt.lit _)), rfl, .rn (rnq_ref rfl), rfl, .rn (rnq_ref rfl), rfl, .rn (rnq_ref rfl), rfl, .rn (rnq_ref rfl), trivial⟩ ⟨(spw_box ⟨(.rn (.plain _ (NLt.lit _))), (.rn (.plain _ (NLt.lit _))), trivial⟩), (spw_box ⟨(.rn (.plain _ (NLt.lit _))), (.rn (.plain _ (NLt.lit _))), trivial⟩), (spw_box ⟨(.rn (.plain _ (NLt.lit _))), (.rn (.plain _ (NLt.lit _))), trivial⟩), (spw_box ⟨(.rn (.plain _ (NLt.lit _))), (.rn (.plain _ (NLt.lit _))), trivial⟩), trivial⟩)⟩

def steam_HeatedX (N : Nat) (p0 : GStream) (p1 : Int) : Option (GStream × Int) :=
  (steam_Stream_validX N p0).bind fun x2 =>
  bif (!x2) then
    some ((⟨0, 0, 0, 0⟩ : GStream), 1)
  else
    joinK (fun _ =>
        some ((⟨p0.Mass, w64 (p0.Heat + p1), p0.Silica, p0.Gas⟩ : GStream), 0)) fun k4 : Unit → Option (GStream × Int) =>
    bif (decide (p1 < (w64 (0 - p0.Heat)))) then
      some ((⟨0, 0, 0, 0⟩ : GStream), 2)
    else
      bif (decide (p1 > (w64 ((w64 (4000 * p0.Mass)) - p0.Heat)))) then
        some ((⟨0, 0, 0, 0⟩ : GStream), 2)
      else
        k4 ()
set_option maxRecDepth 100000 in
set_option maxHeartbeats 4000000 in
theorem steam_HeatedX_ok (N : Nat) (p0 : GStream) (p1 : Int) (r : (GStream × Int)) (h : steam_HeatedX N p0 p1 = some r) : Spec Try.prog 44 [(.agg (c_GStream p0)), (I p1)] [] (.tup [(.agg (c_GStream r.1)), (I r.2)]) [] := by
  refine spec_of_awp Try.func44 rfl 0 (Nat.le_of_ble_eq_true rfl) (fun X φ0 w0 hφ0 => ?_)
  unfold steam_HeatedX at h
  refine awp_reg [⟨[(.tmp 0, (.agg [I p0.Mass, I p0.Heat, I p0.Silica, I p0.Gas]))], [(0, .unused)], .ref 0 4 0 0, [(0, .own 4 [[I p0.Mass, I p0.Heat, I p0.Silica, I p0.Gas]])], false⟩,
    ⟨[], [(1, .unused)], .ref 1 4 0 0, [(1, .own 4 [[I 0, I 0, I 0, I 0]])], false⟩,
    ⟨[(.const (.int .i64 0), I 0)], [], I 0, [], false⟩] (by exact ⟨by kernel_rfl, by kernel_rfl⟩) ?_ ?_
  · exact ⟨fun _ => astep_box rfl (by rfl) rfl rfl,
    fun _ => astep_alloc rfl tz42 rfl,
    fun _ => astep_assign rfl, trivial⟩
  refine awp_seq ?_
  obtain ⟨x2, hf1, h⟩ := bind_out h
  refine awp_reg [⟨[(.tmp 2, .ref 0 4 0 0)], [(0, .own 4 [[I p0.Mass, I p0.Heat, I p0.Silica, I p0.Gas]])], (.agg [I p0.Mass, I p0.Heat, I p0.Silica, I p0.Gas]), [], false⟩,
    ⟨[(.func 63, (.fn (.func 63) [] [])), (.tmp 6, (.agg [I p0.Mass, I p0.Heat, I p0.Silica, I p0.Gas]))], [], B x2, [], false⟩,
    ⟨[(.tmp 7, B x2)], [], (B ((!x2))), [], false⟩] (by exact ⟨by kernel_rfl, by kernel_rfl⟩) ?_ ?_
  · exact ⟨fun _ => astep_load rfl ti42 (by decide) rfl (Nat.le_of_ble_eq_true rfl) rfl,
    fun _ => astep_pcall (first := []) (cap := []) (vs := [(.agg [I p0.Mass, I p0.Heat, I p0.Silica, I p0.Gas])]) rfl enter63 (steam_Stream_validX_ok N p0 _ hf1) rfl rfl (nl_cons (NLt.agg _ (nl_cons (NLt.lit _) (nl_cons (NLt.lit _) (nl_cons (NLt.lit _) (nl_cons (NLt.lit _) nl_nil))))) nl_nil) (NLt.lit _) rfl,
    fun _ => astep_not rfl, trivial⟩
  rcases Bool.eq_false_or_eq_true ((!x2)) with hc3 | hc3
  · replace h := bif_t hc3 h
    refine awp_ift hc3 (by kernel_rfl) ?_
    refine awp_reg [⟨[], [], (.agg [I 0, I 0, I 0, I 0]), [], false⟩,
    ⟨[(.tmp 4, .ref 1 4 0 0), (.tmp 9, (.agg [I 0, I 0, I 0, I 0]))], [(1, .own 4 [[I 0, I 0, I 0, I 0]])], .any, [(1, .own 4 [[I 0, I 0, I 0, I 0]])], false⟩,
    ⟨[(.const (.int .i64 1), I 1)], [], I 1, [], false⟩] (by exact ⟨by kernel_rfl, by kernel_rfl⟩) ?_ ?_
    · exact ⟨fun _ => astep_build (vs := []) rfl ts42 tz42 rfl (by rfl) rfl,
    fun _ => astep_store rfl ti42 (by rfl) rfl (Nat.le_of_ble_eq_true rfl) rfl,
    fun _ => astep_assign rfl, trivial⟩
    refine awp_ret ?_
    refine thenA_r ?_
    obtain rfl := Option.some.inj h
    exact ⟨⟨[(.agg [I 0, I 0, I 0, I 0]), I 1], ⟨resOK_cell (n := 1) (m := 4) (j := 0) (i := 0) (xs := [[I 0, I 0, I 0, I 0]]) (by kernel_rfl) (by kernel_rfl) ti42 (by decide) rfl (Nat.le_of_ble_eq_true rfl) rfl, resOK_tmp (by kernel_rfl), trivial⟩, rfl⟩, (NLt.tup _ (nl_cons (NLt.agg _ (nl_cons (NLt.lit _) (nl_cons (NLt.lit _) (nl_cons (NLt.lit _) (nl_cons (NLt.lit _) nl_nil))))) (nl_cons (NLt.lit _) nl_nil))), Nat.le_refl _, fun n hn => absurd hn (Nat.not_lt_zero n)⟩
  · replace h := bif_f hc3 h
    refine awp_ifn hc3 (by kernel_rfl) ?_
    refine awp_skip ?_
    refine thenA_n ?_
    obtain ⟨k4, hk_k4, h⟩ := joinK_out h
    refine awp_join (τ := Unit) (fun t => k4 t = some r) (fun _ => ⟨mk 32 [(1, I p1), (2, .ref 0 4 0 0), (4, .ref 1 4 0 0)], [(.own 4 [[I p0.Mass, I p0.Heat, I p0.Silica, I p0.Gas]]), (.own 4 [[I 0, I 0, I 0, I 0]])]⟩) (fun t h => ?_) ?_
    · subst hk_k4
      refine awp_reg [⟨[(.tmp 2, .ref 0 4 0 0)], [(0, .own 4 [[I p0.Mass, I p0.Heat, I p0.Silica, I p0.Gas]])], .ref 0 4 0 1, [], false⟩,
    ⟨[(.tmp 26, .ref 0 4 0 1)], [(0, .own 4 [[I p0.Mass, I p0.Heat, I p0.Silica, I p0.Gas]])], I p0.Heat, [], false⟩,
    ⟨[(.tmp 1, I p1)], [], I p1, [], false⟩,
    ⟨[(.tmp 27, I p0.Heat), (.tmp 28, I p1)], [], (I (w64 (p0.Heat + p1))), [], false⟩,
    ⟨[(.tmp 2, .ref 0 4 0 0)], [(0, .own 4 [[I p0.Mass, I p0.Heat, I p0.Silica, I p0.Gas]])], .ref 0 4 0 1, [], false⟩,
    ⟨[(.tmp 30, .ref 0 4 0 1), (.tmp 29, (I (w64 (p0.Heat + p1))))], [(0, .own 4 [[I p0.Mass, I p0.Heat, I p0.Silica, I p0.Gas]])], .any, [(0, (.own 4 [[I p0.Mass, (I (w64 (p0.Heat + p1))), I p0.Silica, I p0.Gas]]))], false⟩] (by exact ⟨by kernel_rfl, by kernel_rfl⟩) ?_ ?_
      · exact ⟨fun _ => astep_faddr rfl Try.underlying42 rfl rfl ti3 (by decide) rfl,
    fun _ => astep_load rfl ti3 (by decide) rfl (Nat.le_of_ble_eq_true rfl) rfl,
    fun _ => astep_move rfl,
    fun _ => astep_bin rfl rfl,
    fun _ => astep_faddr rfl Try.underlying42 rfl rfl ti3 (by decide) rfl,
    fun _ => astep_store rfl ti3 (by rfl) rfl (Nat.le_of_ble_eq_true rfl) rfl, trivial⟩
      refine awp_reg [⟨[(.tmp 2, .ref 0 4 0 0)], [(0, (.own 4 [[I p0.Mass, (I (w64 (p0.Heat + p1))), I p0.Silica, I p0.Gas]]))], (.agg [I p0.Mass, (I (w64 (p0.Heat + p1))), I p0.Silica, I p0.Gas]), [], false⟩,
    ⟨[(.tmp 4, .ref 1 4 0 0), (.tmp 31, (.agg [I p0.Mass, (I (w64 (p0.Heat + p1))), I p0.Silica, I p0.Gas]))], [(1, .own 4 [[I 0, I 0, I 0, I 0]])], .any, [(1, (.own 4 [[I p0.Mass, (I (w64 (p0.Heat + p1))), I p0.Silica, I p0.Gas]]))], false⟩,
    ⟨[(.const (.int .i64 0), I 0)], [], I 0, [], false⟩] (by exact ⟨by kernel_rfl, by kernel_rfl⟩) ?_ ?_
      · exact ⟨fun _ => astep_load rfl ti42 (by decide) rfl (Nat.le_of_ble_eq_true rfl) rfl,
    fun _ => astep_store rfl ti42 (by rfl) rfl (Nat.le_of_ble_eq_true rfl) rfl,
    fun _ => astep_assign rfl, trivial⟩
      refine awp_ret ?_
      obtain rfl := Option.some.inj h
      exact ⟨⟨[(.agg [I p0.Mass, (I (w64 (p0.Heat + p1))), I p0.Silica, I p0.Gas]), I 0], ⟨resOK_cell (n := 1) (m := 4) (j := 0) (i := 0) (xs := [[I p0.Mass, (I (w64 (p0.Heat + p1))), I p0.Silica, I p0.Gas]]) (by kernel_rfl) (by kernel_rfl) ti42 (by decide) rfl (Nat.le_of_ble_eq_true rfl) rfl, resOK_tmp (by kernel_rfl), trivial⟩, rfl⟩, (NLt.tup _ (nl_cons (NLt.agg _ (nl_cons (NLt.lit _) (nl_cons (NLt.lit _) (nl_cons (NLt.lit _) (nl_cons (NLt.lit _) nl_nil))))) (nl_cons (NLt.lit _) nl_nil))), Nat.le_refl _, fun n hn => absurd hn (Nat.not_lt_zero n)⟩
    · skip
      rcases Bool.eq_false_or_eq_true ((decide (p1 < (w64 (0 - p0.Heat))))) with hb5 | hb5
      · replace h := bif_t hb5 h
        refine awp_reg [⟨[(.tmp 1, I p1)], [], I p1, [], false⟩,
    ⟨[(.tmp 2, .ref 0 4 0 0)], [(0, .own 4 [[I p0.Mass, I p0.Heat, I p0.Silica, I p0.Gas]])], .ref 0 4 0 1, [], false⟩,
    ⟨[(.tmp 11, .ref 0 4 0 1)], [(0, .own 4 [[I p0.Mass, I p0.Heat, I p0.Silica, I p0.Gas]])], I p0.Heat, [], false⟩,
    ⟨[(.tmp 12, I p0.Heat)], [], (I (w64 (0 - p0.Heat))), [], false⟩,
    ⟨[(.tmp 10, I p1), (.tmp 13, (I (w64 (0 - p0.Heat))))], [], (B ((decide (p1 < (w64 (0 - p0.Heat)))))), [], false⟩,
    ⟨[(.tmp 14, (B ((decide (p1 < (w64 (0 - p0.Heat)))))))], [], B true, [], false⟩,
    ⟨[(.tmp 15, B true)], [], (.lit undef), [], true⟩,
    ⟨[(.tmp 15, B true)], [], (.lit undef), [], true⟩,
    ⟨[(.tmp 15, B true)], [], (.lit undef), [], true⟩,
    ⟨[(.tmp 15, B true)], [], (.lit undef), [], true⟩,
    ⟨[(.tmp 15, B true)], [], (.lit undef), [], true⟩,
    ⟨[(.tmp 15, B true)], [], (.lit undef), [], true⟩,
    ⟨[(.tmp 15, B true)], [], (.lit undef), [], true⟩,
    ⟨[(.tmp 15, B true)], [], (.lit undef), [], true⟩,
    ⟨[(.tmp 15, B true), (.const (.bool true), B true), (.tmp 23, (.lit undef))], [], B true, [], false⟩] (by exact ⟨by kernel_rfl, by kernel_rfl⟩) ?_ ?_
        · exact ⟨fun _ => astep_move rfl,
    fun _ => astep_faddr rfl Try.underlying42 rfl rfl ti3 (by decide) rfl,
    fun _ => astep_load rfl ti3 (by decide) rfl (Nat.le_of_ble_eq_true rfl) rfl,
    fun _ => astep_neg rfl,
    fun _ => astep_bin rfl rfl,
    fun _ => astep_b hb5 (astep_move rfl),
    fun hs => (Bool.noConfusion hs),
    fun hs => (Bool.noConfusion hs),
    fun hs => (Bool.noConfusion hs),
    fun hs => (Bool.noConfusion hs),
    fun hs => (Bool.noConfusion hs),
    fun hs => (Bool.noConfusion hs),
    fun hs => (Bool.noConfusion hs),
    fun hs => (Bool.noConfusion hs),
    fun _ => astep_pick rfl rfl, trivial⟩
        refine awp_true (by kernel_rfl) ?_
        refine awp_reg [⟨[], [], (.agg [I 0, I 0, I 0, I 0]), [], false⟩,
    ⟨[(.tmp 4, .ref 1 4 0 0), (.tmp 25, (.agg [I 0, I 0, I 0, I 0]))], [(1, .own 4 [[I 0, I 0, I 0, I 0]])], .any, [(1, .own 4 [[I 0, I 0, I 0, I 0]])], false⟩,
    ⟨[(.const (.int .i64 2), I 2)], [], I 2, [], false⟩] (by exact ⟨by kernel_rfl, by kernel_rfl⟩) ?_ ?_
        · exact ⟨fun _ => astep_build (vs := []) rfl ts42 tz42 rfl (by rfl) rfl,
    fun _ => astep_store rfl ti42 (by rfl) rfl (Nat.le_of_ble_eq_true rfl) rfl,
    fun _ => astep_assign rfl, trivial⟩
        refine awp_ret ?_
        refine thenA_r ?_
        obtain rfl := Option.some.inj h
        exact ⟨⟨[(.agg [I 0, I 0, I 0, I 0]), I 2], ⟨resOK_cell (n := 1) (m := 4) (j := 0) (i := 0) (xs := [[I 0, I 0, I 0, I 0]]) (by kernel_rfl) (by kernel_rfl) ti42 (by decide) rfl (Nat.le_of_ble_eq_true rfl) rfl, resOK_tmp (by kernel_rfl), trivial⟩, rfl⟩, (NLt.tup _ (nl_cons (NLt.agg _ (nl_cons (NLt.lit _) (nl_cons (NLt.lit _) (nl_cons (NLt.lit _) (nl_cons (NLt.lit _) nl_nil))))) (nl_cons (NLt.lit _) nl_nil))), Nat.le_refl _, fun n hn => absurd hn (Nat.not_lt_zero n)⟩
      · replace h := bif_f hb5 h
        refine awp_reg [⟨[(.tmp 1, I p1)], [], I p1, [], false⟩,
    ⟨[(.tmp 2, .ref 0 4 0 0)], [(0, .own 4 [[I p0.Mass, I p0.Heat, I p0.Silica, I p0.Gas]])], .ref 0 4 0 1, [], false⟩,
    ⟨[(.tmp 11, .ref 0 4 0 1)], [(0, .own 4 [[I p0.Mass, I p0.Heat, I p0.Silica, I p0.Gas]])], I p0.Heat, [], false⟩,
    ⟨[(.tmp 12, I p0.Heat)], [], (I (w64 (0 - p0.Heat))), [], false⟩,
    ⟨[(.tmp 10, I p1), (.tmp 13, (I (w64 (0 - p0.Heat))))], [], (B ((decide (p1 < (w64 (0 - p0.Heat)))))), [], false⟩,
    ⟨[(.tmp 14, (B ((decide (p1 < (w64 (0 - p0.Heat)))))))], [], B false, [], false⟩,
    ⟨[(.tmp 15, B false), (.tmp 1, I p1)], [], I p1, [], false⟩,
    ⟨[(.tmp 15, B false), (.tmp 2, .ref 0 4 0 0)], [(0, .own 4 [[I p0.Mass, I p0.Heat, I p0.Silica, I p0.Gas]])], .ref 0 4 0 0, [], false⟩,
    ⟨[(.tmp 15, B false), (.tmp 17, .ref 0 4 0 0)], [(0, .own 4 [[I p0.Mass, I p0.Heat, I p0.Silica, I p0.Gas]])], I p0.Mass, [], false⟩,
    ⟨[(.tmp 15, B false), (.const (.int .i64 4000), I 4000), (.tmp 18, I p0.Mass)], [], (I (w64 (4000 * p0.Mass))), [], false⟩,
    ⟨[(.tmp 15, B false), (.tmp 2, .ref 0 4 0 0)], [(0, .own 4 [[I p0.Mass, I p0.Heat, I p0.Silica, I p0.Gas]])], .ref 0 4 0 1, [], false⟩,
    ⟨[(.tmp 15, B false), (.tmp 20, .ref 0 4 0 1)], [(0, .own 4 [[I p0.Mass, I p0.Heat, I p0.Silica, I p0.Gas]])], I p0.Heat, [], false⟩,
    ⟨[(.tmp 15, B false), (.tmp 19, (I (w64 (4000 * p0.Mass)))), (.tmp 21, I p0.Heat)], [], (I (w64 ((w64 (4000 * p0.Mass)) - p0.Heat))), [], false⟩,
    ⟨[(.tmp 15, B false), (.tmp 16, I p1), (.tmp 22, (I (w64 ((w64 (4000 * p0.Mass)) - p0.Heat))))], [], (B ((decide (p1 > (w64 ((w64 (4000 * p0.Mass)) - p0.Heat)))))), [], false⟩,
    ⟨[(.tmp 15, B false), (.const (.bool true), B true), (.tmp 23, (B ((decide (p1 > (w64 ((w64 (4000 * p0.Mass)) - p0.Heat)))))))], [], (B ((decide (p1 > (w64 ((w64 (4000 * p0.Mass)) - p0.Heat)))))), [], false⟩] (by exact ⟨by kernel_rfl, by kernel_rfl⟩) ?_ ?_
        · exact ⟨fun _ => astep_move rfl,
    fun _ => astep_faddr rfl Try.underlying42 rfl rfl ti3 (by decide) rfl,
    fun _ => astep_load rfl ti3 (by decide) rfl (Nat.le_of_ble_eq_true rfl) rfl,
    fun _ => astep_neg rfl,
    fun _ => astep_bin rfl rfl,
    fun _ => astep_b hb5 (astep_move rfl),
    fun _ => astep_guard (astep_move rfl),
    fun _ => astep_guard (astep_faddr rfl Try.underlying42 rfl rfl ti3 (by decide) rfl),
    fun _ => astep_guard (astep_load rfl ti3 (by decide) rfl (Nat.le_of_ble_eq_true rfl) rfl),
    fun _ => astep_guard (astep_bin rfl rfl),
    fun _ => astep_guard (astep_faddr rfl Try.underlying42 rfl rfl ti3 (by decide) rfl),
    fun _ => astep_guard (astep_load rfl ti3 (by decide) rfl (Nat.le_of_ble_eq_true rfl) rfl),
    fun _ => astep_guard (astep_bin rfl rfl),
    fun _ => astep_guard (astep_bin rfl rfl),
    fun _ => astep_pick rfl rfl, trivial⟩
        rcases Bool.eq_false_or_eq_true ((decide (p1 > (w64 ((w64 (4000 * p0.Mass)) - p0.Heat))))) with hc6 | hc6
        · replace h := bif_t hc6 h
          refine awp_ift hc6 (by kernel_rfl) ?_
          refine awp_reg [⟨[], [], (.agg [I 0, I 0, I 0, I 0]), [], false⟩,
    ⟨[(.tmp 4, .ref 1 4 0 0), (.tmp 25, (.agg [I 0, I 0, I 0, I 0]))], [(1, .own 4 [[I 0, I 0, I 0, I 0]])], .any, [(1, .own 4 [[I 0, I 0, I 0, I 0]])], false⟩,
    ⟨[(.const (.int .i64 2), I 2)], [], I 2, [], false⟩] (by exact ⟨by kernel_rfl, by kernel_rfl⟩) ?_ ?_
          · exact ⟨fun _ => astep_build (vs := []) rfl ts42 tz42 rfl (by rfl) rfl,
    fun _ => astep_store rfl ti42 (by rfl) rfl (Nat.le_of_ble_eq_true rfl) rfl,
    fun _ => astep_assign rfl, trivial⟩
          refine awp_ret ?_
          refine thenA_r ?_
          obtain rfl := Option.some.inj h
          exact ⟨⟨[(.agg [I 0, I 0, I 0, I 0]), I 2], ⟨resOK_cell (n := 1) (m := 4) (j := 0) (i := 0) (xs := [[I 0, I 0, I 0, I 0]]) (by kernel_rfl) (by kernel_rfl) ti42 (by decide) rfl (Nat.le_of_ble_eq_true rfl) rfl, resOK_tmp (by kernel_rfl), trivial⟩, rfl⟩, (NLt.tup _ (nl_cons (NLt.agg _ (nl_cons (NLt.lit _) (nl_cons (NLt.lit _) (nl_cons (NLt.lit _) (nl_cons (NLt.lit _) nl_nil))))) (nl_cons (NLt.lit _) nl_nil))), Nat.le_refl _, fun n hn => absurd hn (Nat.not_lt_zero n)⟩
        · replace h := bif_f hc6 h
          refine awp_ifn hc6 (by kernel_rfl) ?_
          refine awp_skip ?_
          refine thenA_n ?_
          exact ⟨(), h, (mor_to (n := 32) (l' := [(1, I p1), (2, .ref 0 4 0 0), (4, .ref 1 4 0 0)]) (own' := [(.own 4 [[I p0.Mass, I p0.Heat, I p0.Silica, I p0.Gas]]), (.own 4 [[I 0, I 0, I 0, I 0]])]) [(1, I p1), (2, .ref 0 4 0 0), (4, .ref 1 4 0 0)] [0, 1] [(.own 4 [[I p0.Mass, I p0.Heat, I p0.Silica, I p0.Gas]]), (.own 4 [[I 0, I 0, I 0, I 0]])] hφ0 (by kernel_rfl) (by kernel_rfl) (by kernel_rfl) ⟨rfl, .rn (.plain _ (NLt.lit _)), rfl, .rn (rnq_ref rfl), rfl, .rn (rnq_ref rfl), trivial⟩ ⟨(spw_box ⟨(.rn (.plain _ (NLt.lit _))), (.rn (.plain _ (NLt.lit _))), (.rn (.plain _ (NLt.lit _))), (.rn (.plain _ (NLt.lit _))), trivial⟩), (spw_box ⟨(.rn (.plain _ (NLt.lit _))), (.rn (.plain _ (NLt.lit _))), (.rn (.plain _ (NLt.lit _))), (.rn (.plain _ (NLt.lit _))), trivial⟩), trivial⟩)⟩

def steam_all_steam_Stream_1X_1 (N : Nat) (p0 : GStream) : Option Bool :=
  (steam_Stream_validX N p0).bind fun x3 =>
  some (!x3)
set_option maxRecDepth 100000 in
set_option maxHeartbeats 4000000 in
theorem steam_all_steam_Stream_1X_1_ok (N : Nat) (p0 : GStream) (r : Bool) (h : steam_all_steam_Stream_1X_1 N p0 = some r) : Spec Try.prog 83 [(.agg [(I (p0.Mass)), (I (p0.Heat)), (I (p0.Silica)), (I (p0.Gas))]), (.ref 0 1 (0) 0)] [(.own 1 [[(.fn (.func 63) [] [])]])] (B (r)) [(.own 1 [[(.fn (.func 63) [] [])]])] := by
  refine spec_of_awp Try.func83 rfl 1 (Nat.le_of_ble_eq_true rfl) (fun X φ0 w0 hφ0 => ?_)
  unfold steam_all_steam_Stream_1X_1 at h
  refine awp_finm ?_
  refine awp_reg [⟨[(.tmp 0, (.agg [I p0.Mass, I p0.Heat, I p0.Silica, I p0.Gas]))], [(1, .unused)], .ref 1 4 0 0, [(1, .own 4 [[I p0.Mass, I p0.Heat, I p0.Silica, I p0.Gas]])], false⟩,
    ⟨[(.const (.bool false), B false)], [], B false, [], false⟩] (by exact ⟨by kernel_rfl, by kernel_rfl⟩) ?_ ?_
  · exact ⟨fun _ => astep_box rfl (by rfl) rfl rfl,
    fun _ => astep_assign rfl, trivial⟩
  obtain ⟨x3, hf2, h⟩ := bind_out h
  refine awp_reg [⟨[(.tmp 1, .ref 0 1 0 0)], [(0, (.own 1 [[(.fn (.func 63) [] [])]]))], (.fn (.func 63) [] []), [], false⟩,
    ⟨[(.tmp 2, .ref 1 4 0 0)], [(1, .own 4 [[I p0.Mass, I p0.Heat, I p0.Silica, I p0.Gas]])], (.agg [I p0.Mass, I p0.Heat, I p0.Silica, I p0.Gas]), [], false⟩,
    ⟨[(.tmp 4, (.fn (.func 63) [] [])), (.tmp 5, (.agg [I p0.Mass, I p0.Heat, I p0.Silica, I p0.Gas]))], [], B x3, [], false⟩,
    ⟨[(.tmp 6, B x3)], [], (B ((!x3))), [], false⟩,
    ⟨[(.tmp 7, (B ((!x3))))], [], (B ((!x3))), [], false⟩] (by exact ⟨by kernel_rfl, by kernel_rfl⟩) ?_ ?_
  · exact ⟨fun _ => astep_load rfl ti120 (by decide) rfl (Nat.le_of_ble_eq_true rfl) rfl,
    fun _ => astep_load rfl ti42 (by decide) rfl (Nat.le_of_ble_eq_true rfl) rfl,
    fun _ => astep_pcall (first := []) (cap := []) (vs := [(.agg [I p0.Mass, I p0.Heat, I p0.Silica, I p0.Gas])]) rfl enter63 (steam_Stream_validX_ok N p0 _ hf2) rfl rfl (nl_cons (NLt.agg _ (nl_cons (NLt.lit _) (nl_cons (NLt.lit _) (nl_cons (NLt.lit _) (nl_cons (NLt.lit _) nl_nil))))) nl_nil) (NLt.lit _) rfl,
    fun _ => astep_not rfl,
    fun _ => astep_assign rfl, trivial⟩
  refine awp_mor (mor_to (n := 8) (l' := [(3, (B ((!x3))))]) (own' := [(.own 1 [[(.fn (.func 63) [] [])]])]) [(3, (B ((!x3))))] [0] [(.own 1 [[(.fn (.func 63) [] [])]])] hφ0 (by kernel_rfl) (by kernel_rfl) (by kernel_rfl) ⟨rfl, .rn (.plain _ (NLt.lit _)), trivial⟩ ⟨(spw_box ⟨(.rn (rn_fn rnl_nil rnl_nil)), trivial⟩), trivial⟩) ?_
  refine awp_ret ?_
  obtain rfl := Option.some.inj h
  exact ⟨_, Mor.rfl, fin_of (vs := [(B ((!x3)))]) ⟨resOK_tmp (by kernel_rfl), trivial⟩ rfl (NLt.of0 (NLt.lit _)) (by kernel_rfl) (snl_cons (snl_box (nl_cons (NLt.of0 (NLt.fn _ _ _ nl_nil nl_nil)) nl_nil)) snl_nil)⟩

def slices_IndexFunc_steam_Stream_steam_StreamX_1_loop1 (N : Nat) (p0 : (List GStream)) (k2 : Unit → Option Int) : Nat → Int → Option Int
  | 0, _ => none
  | n5 + 1, y3 =>
    bif (decide (y3 < (p0.length : Int))) then
      (getI p0 y3).bind fun x7 =>
      (steam_all_steam_Stream_1X_1 N x7).bind fun x12 =>
      bif x12 then
        some y3
      else
        slices_IndexFunc_steam_Stream_steam_StreamX_1_loop1 N p0 k2 n5 (w64 (y3 + 1))
    else
      k2 ()
def slices_IndexFunc_steam_Stream_steam_StreamX_1 (N : Nat) (p0 : (List GStream)) : Option Int :=
  joinK (fun _ =>
      some (-1)) fun k2 : Unit → Option Int =>
  slices_IndexFunc_steam_Stream_steam_StreamX_1_loop1 N p0 k2 N 0
set_option maxRecDepth 100000 in
set_option maxHeartbeats 4000000 in
theorem slices_IndexFunc_steam_Stream_steam_StreamX_1_ok (N : Nat) (p0 : (List GStream)) (r : Int) (h : slices_IndexFunc_steam_Stream_steam_StreamX_1 N p0 = some r) : Spec Try.prog 96 [(.dat 4 ((p0 : List GStream).map c_GStream)), (.fn (.func 83) [] [(.ref 0 1 (0) 0)])] [(.own 1 [[(.fn (.func 63) [] [])]])] (I (r)) [(.own 1 [[(.fn (.func 63) [] [])]])] := by
  refine spec_of_awp Try.func96 rfl 1 (Nat.le_of_ble_eq_true rfl) (fun X φ0 w0 hφ0 => ?_)
  unfold slices_IndexFunc_steam_Stream_steam_StreamX_1 at h
  refine awp_finm ?_
  refine awp_reg [⟨[(.const (.int .i64 0), I 0)], [], I 0, [], false⟩] (by exact ⟨by kernel_rfl, by kernel_rfl⟩) ?_ ?_
  · exact ⟨fun _ => astep_assign rfl, trivial⟩
  obtain ⟨k2, hk_k2, h⟩ := joinK_out h
  refine awp_join (τ := Unit) (fun t => k2 t = some r) (fun _ => ⟨mk 19 [], [(.own 1 [[(.fn (.func 63) [] [])]])]⟩) (fun t h => ?_) ?_
  · subst hk_k2
    refine awp_reg [⟨[(.const (.int .i64 (-1)), (I ((-1))))], [], (I ((-1))), [], false⟩] (by exact ⟨by kernel_rfl, by kernel_rfl⟩) ?_ ?_
    · exact ⟨fun _ => astep_assign rfl, trivial⟩
    refine awp_mor (mor_to (n := 19) (l' := [(4, (I ((-1))))]) (own' := [(.own 1 [[(.fn (.func 63) [] [])]])]) [(4, (I ((-1))))] [0] [(.own 1 [[(.fn (.func 63) [] [])]])] hφ0 (by kernel_rfl) (by kernel_rfl) (by kernel_rfl) ⟨rfl, .rn (.plain _ (NLt.lit _)), trivial⟩ ⟨(spw_box ⟨(.rn (rn_fn rnl_nil rnl_nil)), trivial⟩), trivial⟩) ?_
    refine awp_ret ?_
    obtain rfl := Option.some.inj h
    exact ⟨_, Mor.rfl, fin_of (vs := [(I ((-1)))]) ⟨resOK_tmp (by kernel_rfl), trivial⟩ rfl (NLt.of0 (NLt.lit _)) (by kernel_rfl) (snl_cons (snl_box (nl_cons (NLt.of0 (NLt.fn _ _ _ nl_nil nl_nil)) nl_nil)) snl_nil)⟩
  · skip
    refine awp_reg [⟨[(.tmp 0, (.dat 4 ((p0 : List GStream).map c_GStream)))], [], (.dat 4 ((p0 : List GStream).map c_GStream)), [], false⟩,
    ⟨[(.tmp 6, (.dat 4 ((p0 : List GStream).map c_GStream)))], [], (I ((p0.length : Int))), [], false⟩,
    ⟨[(.const (.int .i64 0), I 0)], [], I 0, [], false⟩] (by exact ⟨by kernel_rfl, by kernel_rfl⟩) ?_ ?_
    · exact ⟨fun _ => astep_move rfl,
    fun _ => astep_lenm (c := c_GStream) (l := p0) (astep_len rfl Try.underlying32 rfl),
    fun _ => astep_move rfl, trivial⟩
    refine awp_block ?_
    refine awp_mor (mor_to (n := 19) (l' := [(0, (.dat 4 ((p0 : List GStream).map c_GStream))), (1, (.fn (.func 83) [] [.ref 0 1 0 0])), (7, (I ((p0.length : Int)))), (8, I 0)]) (own' := [(.own 1 [[(.fn (.func 63) [] [])]])]) [(0, (.dat 4 ((p0 : List GStream).map c_GStream))), (1, (.fn (.func 83) [] [.ref 0 1 0 0])), (7, (I ((p0.length : Int)))), (8, I 0)] [0] [(.own 1 [[(.fn (.func 63) [] [])]])] hφ0 (by kernel_rfl) (by kernel_rfl) (by kernel_rfl) ⟨rfl, .rn (.plain _ (nl_dat nl_GStream _)), rfl, .rn (rn_fn rnl_nil (rnl_cons (rnq_ref rfl) rnl_nil)), rfl, .rn (.plain _ (NLt.lit _)), rfl, .rn (.plain _ (NLt.lit _)), trivial⟩ ⟨(spw_box ⟨(.rn (rn_fn rnl_nil rnl_nil)), trivial⟩), trivial⟩) ?_
    refine awp_ind (τ := Int) (fun n t => slices_IndexFunc_steam_Stream_steam_StreamX_1_loop1 N p0 k2 n t = some r) (fun y3 => ⟨mk 19 [(0, (.dat 4 ((p0 : List GStream).map c_GStream))), (1, (.fn (.func 83) [] [.ref 0 1 0 0])), (7, (I ((p0.length : Int)))), (8, I y3)], [(.own 1 [[(.fn (.func 63) [] [])]])]⟩) (fun t h => by rw [slices_IndexFunc_steam_Stream_steam_StreamX_1_loop1] at h; cases h) (fun n5 ih y3 h => ?_) N (0) h
    rw [slices_IndexFunc_steam_Stream_steam_StreamX_1_loop1] at h
    skip
    refine awp_reg [⟨[(.tmp 8, I y3), (.tmp 7, (I ((p0.length : Int))))], [], (B ((decide (y3 < (p0.length : Int))))), [], false⟩] (by exact ⟨by kernel_rfl, by kernel_rfl⟩) ?_ ?_
    · exact ⟨fun _ => astep_bin rfl rfl, trivial⟩
    refine awp_seq ?_
    rcases Bool.eq_false_or_eq_true ((decide (y3 < (p0.length : Int)))) with hc6 | hc6
    · replace h := bif_t hc6 h
      refine awp_ift hc6 (by kernel_rfl) ?_
      refine awp_skip ?_
      refine thenA_n ?_
      refine awp_seq ?_
      refine awp_block ?_
      refine awp_reg [⟨[(.tmp 8, I y3)], [], I y3, [], false⟩,
    ⟨[(.tmp 10, I y3)], [], I y3, [], false⟩] (by exact ⟨by kernel_rfl, by kernel_rfl⟩) ?_ ?_
      · exact ⟨fun _ => astep_move rfl,
    fun _ => astep_assign rfl, trivial⟩
      obtain ⟨x7, hg8, h⟩ := bind_out h
      obtain ⟨hi9, hj10⟩ := getI_some hg8
      obtain ⟨x12, hf11, h⟩ := bind_out h
      refine awp_reg [⟨[(.tmp 1, (.fn (.func 83) [] [.ref 0 1 0 0]))], [], (.fn (.func 83) [] [.ref 0 1 0 0]), [], false⟩,
    ⟨[(.tmp 0, (.dat 4 ((p0 : List GStream).map c_GStream)))], [], (.dat 4 ((p0 : List GStream).map c_GStream)), [], false⟩,
    ⟨[(.tmp 5, I y3)], [], I y3, [], false⟩,
    ⟨[(.tmp 12, (.dat 4 ((p0 : List GStream).map c_GStream))), (.tmp 13, I y3)], [], (.dptr (c_GStream (x7)) 0), [], false⟩,
    ⟨[(.tmp 14, (.dptr (c_GStream (x7)) 0))], [], (.agg [I x7.Mass, I x7.Heat, I x7.Silica, I x7.Gas]), [], false⟩,
    ⟨[(.tmp 11, (.fn (.func 83) [] [.ref 0 1 0 0])), (.tmp 15, (.agg [I x7.Mass, I x7.Heat, I x7.Silica, I x7.Gas]))], [(0, (.own 1 [[(.fn (.func 63) [] [])]]))], B x12, [(0, (.own 1 [[(.fn (.func 63) [] [])]]))], false⟩] (by exact ⟨by kernel_rfl, by kernel_rfl⟩) ?_ ?_
      · exact ⟨fun _ => astep_move rfl,
    fun _ => astep_move rfl,
    fun _ => astep_move rfl,
    fun _ => astep_idxd rfl Try.underlying32 ti42 rfl rfl hi9 (map_get c_GStream hj10) rfl,
    fun _ => astep_loadd rfl ti42 (by decide) (Nat.le_of_ble_eq_true rfl) rfl,
    fun _ => astep_callq (first := []) (cap := [.ref 0 1 0 0]) (vs := [(.agg [I x7.Mass, I x7.Heat, I x7.Silica, I x7.Gas])]) (σr := [(.own 1 [[(.fn (.func 63) [] [])]])]) (σr' := [(.own 1 [[(.fn (.func 63) [] [])]])]) (res' := (B x12)) [0] rfl enter83 (steam_all_steam_Stream_1X_1_ok N x7 _ hf11) rfl (rn_agg (rnl_cons (.plain _ (NLt.agg _ (nl_cons (NLt.lit _) (nl_cons (NLt.lit _) (nl_cons (NLt.lit _) (nl_cons (NLt.lit _) nl_nil)))))) (rnl_cons (rnk_ref rfl) rnl_nil))) (slw_cons (srn_box (rnl_cons (.plain _ (NLt.fn _ _ _ nl_nil nl_nil)) rnl_nil)) slw_nil) (slw_cons (srn_box (rnl_cons (.plain _ (NLt.fn _ _ _ nl_nil nl_nil)) rnl_nil)) slw_nil) (.plain _ (NLt.lit _)) rfl rfl rfl, trivial⟩
      rcases Bool.eq_false_or_eq_true (x12) with hc13 | hc13
      · replace h := bif_t hc13 h
        refine awp_ift hc13 (by kernel_rfl) ?_
        refine awp_reg [⟨[(.tmp 5, I y3)], [], I y3, [], false⟩,
    ⟨[(.tmp 17, I y3)], [], I y3, [], false⟩] (by exact ⟨by kernel_rfl, by kernel_rfl⟩) ?_ ?_
        · exact ⟨fun _ => astep_move rfl,
    fun _ => astep_assign rfl, trivial⟩
        refine awp_mor (mor_to (n := 19) (l' := [(4, I y3)]) (own' := [(.own 1 [[(.fn (.func 63) [] [])]])]) [(4, I y3)] [0] [(.own 1 [[(.fn (.func 63) [] [])]])] hφ0 (by kernel_rfl) (by kernel_rfl) (by kernel_rfl) ⟨rfl, .rn (.plain _ (NLt.lit _)), trivial⟩ ⟨(spw_box ⟨(.rn (rn_fn rnl_nil rnl_nil)), trivial⟩), trivial⟩) ?_
        refine awp_ret ?_
        refine blockA_r ?_
        refine thenA_r ?_
        refine thenA_r ?_
        refine blockA_r ?_
        refine thenA_r ?_
        obtain rfl := Option.some.inj h
        exact ⟨_, Mor.rfl, fin_of (vs := [I y3]) ⟨resOK_tmp (by kernel_rfl), trivial⟩ rfl (NLt.of0 (NLt.lit _)) (by kernel_rfl) (snl_cons (snl_box (nl_cons (NLt.of0 (NLt.fn _ _ _ nl_nil nl_nil)) nl_nil)) snl_nil)⟩
      · replace h := bif_f hc13 h
        refine awp_ifn hc13 (by kernel_rfl) ?_
        refine awp_skip ?_
        refine blockA_n ?_
        refine thenA_n ?_
        refine awp_reg1 [⟨[(.tmp 8, I y3), (.const (.int .i64 1), I 1)], [], (I (w64 (y3 + 1))), [], false⟩,
    ⟨[(.tmp 18, (I (w64 (y3 + 1))))], [], (I (w64 (y3 + 1))), [], false⟩] (by exact ⟨by kernel_rfl, by kernel_rfl⟩) ?_ ?_
        · exact ⟨fun _ => astep_bin rfl rfl,
    fun _ => astep_move rfl, trivial⟩
        refine thenA_n ?_
        exact around_mor (mor_to (n := 19) (l' := [(0, (.dat 4 ((p0 : List GStream).map c_GStream))), (1, (.fn (.func 83) [] [.ref 0 1 0 0])), (7, (I ((p0.length : Int)))), (8, (I ((w64 (y3 + 1)))))]) (own' := [(.own 1 [[(.fn (.func 63) [] [])]])]) [(0, (.dat 4 ((p0 : List GStream).map c_GStream))), (1, (.fn (.func 83) [] [.ref 0 1 0 0])), (7, (I ((p0.length : Int)))), (8, (I (w64 (y3 + 1))))] [0] [(.own 1 [[(.fn (.func 63) [] [])]])] hφ0 (by kernel_rfl) (by kernel_rfl) (by kernel_rfl) ⟨rfl, .rn (.plain _ (nl_dat nl_GStream _)), rfl, .rn (rn_fn rnl_nil (rnl_cons (rnq_ref rfl) rnl_nil)), rfl, .rn (.plain _ (NLt.lit _)), rfl, .rn (.plain _ (NLt.lit _)), trivial⟩ ⟨(spw_box ⟨(.rn (rn_fn rnl_nil rnl_nil)), trivial⟩), trivial⟩) (ih (w64 (y3 + 1)) h)
    · replace h := bif_f hc6 h
      refine awp_ifn hc6 (by kernel_rfl) ?_
      refine awp_exit ?_
      refine thenA_x ?_
      refine thenA_x ?_
      refine blockA_e rfl ?_
      refine thenA_n ?_
      exact ⟨(), h, (mor_to (n := 19) (l' := []) (own' := [(.own 1 [[(.fn (.func 63) [] [])]])]) [] [0] [(.own 1 [[(.fn (.func 63) [] [])]])] hφ0 (by kernel_rfl) (by kernel_rfl) (by kernel_rfl) trivial ⟨(spw_box ⟨(.rn (rn_fn rnl_nil rnl_nil)), trivial⟩), trivial⟩)⟩

def slices_ContainsFunc_steam_Stream_steam_StreamX_1 (N : Nat) (p0 : (List GStream)) : Option Bool :=
  (slices_IndexFunc_steam_Stream_steam_StreamX_1 N p0).bind fun x3 =>
  some (decide (x3 ≥ 0))
set_option maxRecDepth 100000 in
set_option maxHeartbeats 4000000 in
theorem slices_ContainsFunc_steam_Stream_steam_StreamX_1_ok (N : Nat) (p0 : (List GStream)) (r : Bool) (h : slices_ContainsFunc_steam_Stream_steam_StreamX_1 N p0 = some r) : Spec Try.prog 82 [(.dat 4 ((p0 : List GStream).map c_GStream)), (.fn (.func 83) [] [(.ref 0 1 (0) 0)])] [(.own 1 [[(.fn (.func 63) [] [])]])] (B (r)) [(.own 1 [[(.fn (.func 63) [] [])]])] := by
  refine spec_of_awp Try.func82 rfl 1 (Nat.le_of_ble_eq_true rfl) (fun X φ0 w0 hφ0 => ?_)
  unfold slices_ContainsFunc_steam_Stream_steam_StreamX_1 at h
  refine awp_finm ?_
  refine awp_reg [⟨[(.const (.bool false), B false)], [], B false, [], false⟩] (by exact ⟨by kernel_rfl, by kernel_rfl⟩) ?_ ?_
  · exact ⟨fun _ => astep_assign rfl, trivial⟩
  obtain ⟨x3, hf2, h⟩ := bind_out h
  refine awp_reg [⟨[(.tmp 0, (.dat 4 ((p0 : List GStream).map c_GStream)))], [], (.dat 4 ((p0 : List GStream).map c_GStream)), [], false⟩,
    ⟨[(.tmp 1, (.fn (.func 83) [] [.ref 0 1 0 0]))], [], (.fn (.func 83) [] [.ref 0 1 0 0]), [], false⟩,
    ⟨[(.func 96, (.fn (.func 96) [] [])), (.tmp 5, (.dat 4 ((p0 : List GStream).map c_GStream))), (.tmp 6, (.fn (.func 83) [] [.ref 0 1 0 0]))], [(0, (.own 1 [[(.fn (.func 63) [] [])]]))], I x3, [(0, (.own 1 [[(.fn (.func 63) [] [])]]))], false⟩,
    ⟨[(.tmp 7, I x3), (.const (.int .i64 0), I 0)], [], (B ((decide (x3 ≥ 0)))), [], false⟩,
    ⟨[(.tmp 8, (B ((decide (x3 ≥ 0)))))], [], (B ((decide (x3 ≥ 0)))), [], false⟩] (by exact ⟨by kernel_rfl, by kernel_rfl⟩) ?_ ?_
  · exact ⟨fun _ => astep_move rfl,
    fun _ => astep_move rfl,
    fun _ => astep_callq (first := []) (cap := []) (vs := [(.dat 4 ((p0 : List GStream).map c_GStream)), (.fn (.func 83) [] [.ref 0 1 0 0])]) (σr := [(.own 1 [[(.fn (.func 63) [] [])]])]) (σr' := [(.own 1 [[(.fn (.func 63) [] [])]])]) (res' := (I x3)) [0] rfl enter96 (slices_IndexFunc_steam_Stream_steam_StreamX_1_ok N p0 _ hf2) rfl (rn_agg (rnl_cons (.plain _ (nl_dat nl_GStream _)) (rnl_cons (rn_fn rnl_nil (rnl_cons (rnk_ref rfl) rnl_nil)) rnl_nil))) (slw_cons (srn_box (rnl_cons (.plain _ (NLt.fn _ _ _ nl_nil nl_nil)) rnl_nil)) slw_nil) (slw_cons (srn_box (rnl_cons (.plain _ (NLt.fn _ _ _ nl_nil nl_nil)) rnl_nil)) slw_nil) (.plain _ (NLt.lit _)) rfl rfl rfl,
    fun _ => astep_bin rfl rfl,
    fun _ => astep_assign rfl, trivial⟩
  refine awp_mor (mor_to (n := 9) (l' := [(4, (B ((decide (x3 ≥ 0)))))]) (own' := [(.own 1 [[(.fn (.func 63) [] [])]])]) [(4, (B ((decide (x3 ≥ 0)))))] [0] [(.own 1 [[(.fn (.func 63) [] [])]])] hφ0 (by kernel_rfl) (by kernel_rfl) (by kernel_rfl) ⟨rfl, .rn (.plain _ (NLt.lit _)), trivial⟩ ⟨(spw_box ⟨(.rn (rn_fn rnl_nil rnl_nil)), trivial⟩), trivial⟩) ?_
  refine awp_ret ?_
  obtain rfl := Option.some.inj h
  exact ⟨_, Mor.rfl, fin_of (vs := [(B ((decide (x3 ≥ 0))))]) ⟨resOK_tmp (by kernel_rfl), trivial⟩ rfl (NLt.of0 (NLt.lit _)) (by kernel_rfl) (snl_cons (snl_box (nl_cons (NLt.of0 (NLt.fn _ _ _ nl_nil nl_nil)) nl_nil)) snl_nil)⟩

def steam_all_steam_StreamX_1 (N : Nat) (p0 : (List GStream)) : Option Bool :=
  (slices_ContainsFunc_steam_Stream_steam_StreamX_1 N p0).bind fun x2 =>
  some (!x2)
set_option maxRecDepth 100000 in
set_option maxHeartbeats 4000000 in
theorem steam_all_steam_StreamX_1_ok (N : Nat) (p0 : (List GStream)) (r : Bool) (h : steam_all_steam_StreamX_1 N p0 = some r) : Spec Try.prog 58 [(.dat 4 ((p0 : List GStream).map c_GStream)), (.fn (.func 63) [] [])] [] (B (r)) [] := by
  refine spec_of_awp Try.func58 rfl 0 (Nat.le_of_ble_eq_true rfl) (fun X φ0 w0 hφ0 => ?_)
  unfold steam_all_steam_StreamX_1 at h
  refine awp_reg [⟨[(.tmp 1, (.fn (.func 63) [] []))], [(0, .unused)], .ref 0 1 0 0, [(0, (.own 1 [[(.fn (.func 63) [] [])]]))], false⟩,
    ⟨[(.const (.bool false), B false)], [], B false, [], false⟩] (by exact ⟨by kernel_rfl, by kernel_rfl⟩) ?_ ?_
  · exact ⟨fun _ => astep_box rfl (by rfl) rfl rfl,
    fun _ => astep_assign rfl, trivial⟩
  obtain ⟨x2, hf1, h⟩ := bind_out h
  refine awp_reg [⟨[(.tmp 0, (.dat 4 ((p0 : List GStream).map c_GStream)))], [], (.dat 4 ((p0 : List GStream).map c_GStream)), [], false⟩,
    ⟨[(.tmp 3, .ref 0 1 0 0)], [], (.fn (.func 83) [] [.ref 0 1 0 0]), [], false⟩,
    ⟨[(.func 82, (.fn (.func 82) [] [])), (.tmp 5, (.dat 4 ((p0 : List GStream).map c_GStream))), (.tmp 6, (.fn (.func 83) [] [.ref 0 1 0 0]))], [(0, (.own 1 [[(.fn (.func 63) [] [])]]))], B x2, [(0, (.own 1 [[(.fn (.func 63) [] [])]]))], false⟩,
    ⟨[(.tmp 7, B x2)], [], (B ((!x2))), [], false⟩,
    ⟨[(.tmp 8, (B ((!x2))))], [], (B ((!x2))), [], false⟩] (by exact ⟨by kernel_rfl, by kernel_rfl⟩) ?_ ?_
  · exact ⟨fun _ => astep_move rfl,
    fun _ => astep_func (fs := []) (cs := [.ref 0 1 0 0]) rfl rfl rfl rfl,
    fun _ => astep_callq (first := []) (cap := []) (vs := [(.dat 4 ((p0 : List GStream).map c_GStream)), (.fn (.func 83) [] [.ref 0 1 0 0])]) (σr := [(.own 1 [[(.fn (.func 63) [] [])]])]) (σr' := [(.own 1 [[(.fn (.func 63) [] [])]])]) (res' := (B x2)) [0] rfl enter82 (slices_ContainsFunc_steam_Stream_steam_StreamX_1_ok N p0 _ hf1) rfl (rn_agg (rnl_cons (.plain _ (nl_dat nl_GStream _)) (rnl_cons (rn_fn rnl_nil (rnl_cons (rnk_ref rfl) rnl_nil)) rnl_nil))) (slw_cons (srn_box (rnl_cons (.plain _ (NLt.fn _ _ _ nl_nil nl_nil)) rnl_nil)) slw_nil) (slw_cons (srn_box (rnl_cons (.plain _ (NLt.fn _ _ _ nl_nil nl_nil)) rnl_nil)) slw_nil) (.plain _ (NLt.lit _)) rfl rfl rfl,
    fun _ => astep_not rfl,
    fun _ => astep_assign rfl, trivial⟩
  refine awp_ret ?_
  obtain rfl := Option.some.inj h
  exact ⟨⟨[(B ((!x2)))], ⟨resOK_tmp (by kernel_rfl), trivial⟩, rfl⟩, (NLt.lit _), Nat.le_refl _, fun n hn => absurd hn (Nat.not_lt_zero n)⟩

def steam_checkedX (N : Nat) (p0 : (List GStream)) : Option Int :=
  bif (decide ((p0.length : Int) > 40)) then
    some 3
  else
    (steam_all_steam_StreamX_1 N p0).bind fun x3 =>
    bif (!x3) then
      some 1
    else
      some 0
set_option maxRecDepth 100000 in
set_option maxHeartbeats 4000000 in
theorem steam_checkedX_ok (N : Nat) (p0 : (List GStream)) (r : Int) (h : steam_checkedX N p0 = some r) : Spec Try.prog 57 [(.dat 4 (p0.map c_GStream))] [] (I r) [] := by
  refine spec_of_awp Try.func57 rfl 0 (Nat.le_of_ble_eq_true rfl) (fun X φ0 w0 hφ0 => ?_)
  unfold steam_checkedX at h
  refine awp_reg [⟨[(.const (.int .i64 0), I 0)], [], I 0, [], false⟩] (by exact ⟨by kernel_rfl, by kernel_rfl⟩) ?_ ?_
  · exact ⟨fun _ => astep_assign rfl, trivial⟩
  refine awp_seq ?_
  refine awp_block ?_
  refine awp_reg [⟨[(.tmp 0, (.dat 4 ((p0 : List GStream).map c_GStream)))], [], (.dat 4 ((p0 : List GStream).map c_GStream)), [], false⟩,
    ⟨[(.tmp 4, (.dat 4 ((p0 : List GStream).map c_GStream)))], [], (I ((p0.length : Int))), [], false⟩,
    ⟨[(.tmp 5, (I ((p0.length : Int)))), (.const (.int .i64 40), I 40)], [], (B ((decide ((p0.length : Int) > 40)))), [], false⟩,
    ⟨[(.tmp 6, (B ((decide ((p0.length : Int) > 40)))))], [], (B ((decide ((p0.length : Int) > 40)))), [], false⟩] (by exact ⟨by kernel_rfl, by kernel_rfl⟩) ?_ ?_
  · exact ⟨fun _ => astep_move rfl,
    fun _ => astep_lenm (c := c_GStream) (l := p0) (astep_len rfl Try.underlying32 rfl),
    fun _ => astep_bin rfl rfl,
    fun _ => astep_assign rfl, trivial⟩
  rcases Bool.eq_false_or_eq_true ((decide ((p0.length : Int) > 40))) with hc1 | hc1
  · replace h := bif_t hc1 h
    refine awp_ift hc1 (by kernel_rfl) ?_
    refine awp_reg [⟨[(.const (.int .i64 3), I 3)], [], I 3, [], false⟩] (by exact ⟨by kernel_rfl, by kernel_rfl⟩) ?_ ?_
    · exact ⟨fun _ => astep_assign rfl, trivial⟩
    refine awp_ret ?_
    refine blockA_r ?_
    refine thenA_r ?_
    obtain rfl := Option.some.inj h
    exact ⟨⟨[I 3], ⟨resOK_tmp (by kernel_rfl), trivial⟩, rfl⟩, (NLt.lit _), Nat.le_refl _, fun n hn => absurd hn (Nat.not_lt_zero n)⟩
  · replace h := bif_f hc1 h
    refine awp_ifn hc1 (by kernel_rfl) ?_
    obtain ⟨x3, hf2, h⟩ := bind_out h
    refine awp_reg [⟨[(.tmp 0, (.dat 4 ((p0 : List GStream).map c_GStream)))], [], (.dat 4 ((p0 : List GStream).map c_GStream)), [], false⟩,
    ⟨[(.func 58, (.fn (.func 58) [] [])), (.tmp 8, (.dat 4 ((p0 : List GStream).map c_GStream))), (.func 63, (.fn (.func 63) [] []))], [], B x3, [], false⟩,
    ⟨[(.tmp 9, B x3)], [], (B ((!x3))), [], false⟩,
    ⟨[(.tmp 10, (B ((!x3))))], [], (B ((!x3))), [], false⟩] (by exact ⟨by kernel_rfl, by kernel_rfl⟩) ?_ ?_
    · exact ⟨fun _ => astep_move rfl,
    fun _ => astep_callq (first := []) (cap := []) (vs := [(.dat 4 ((p0 : List GStream).map c_GStream)), (.fn (.func 63) [] [])]) (σr := []) (σr' := []) (res' := (B x3)) [] rfl enter58 (steam_all_steam_StreamX_1_ok N p0 _ hf2) rfl (rn_agg (rnl_cons (.plain _ (nl_dat nl_GStream _)) (rnl_cons (.plain _ (NLt.fn _ _ _ nl_nil nl_nil)) rnl_nil))) slw_nil slw_nil (.plain _ (NLt.lit _)) rfl rfl rfl,
    fun _ => astep_not rfl,
    fun _ => astep_assign rfl, trivial⟩
    rcases Bool.eq_false_or_eq_true ((!x3)) with hc4 | hc4
    · replace h := bif_t hc4 h
      refine awp_ift hc4 (by kernel_rfl) ?_
      refine awp_reg [⟨[(.const (.int .i64 1), I 1)], [], I 1, [], false⟩] (by exact ⟨by kernel_rfl, by kernel_rfl⟩) ?_ ?_
      · exact ⟨fun _ => astep_assign rfl, trivial⟩
      refine awp_ret ?_
      refine blockA_r ?_
      refine thenA_r ?_
      obtain rfl := Option.some.inj h
      exact ⟨⟨[I 1], ⟨resOK_tmp (by kernel_rfl), trivial⟩, rfl⟩, (NLt.lit _), Nat.le_refl _, fun n hn => absurd hn (Nat.not_lt_zero n)⟩
    · replace h := bif_f hc4 h
      refine awp_ifn hc4 (by kernel_rfl) ?_
      refine awp_skip ?_
      refine blockA_n ?_
      refine thenA_n ?_
      refine awp_reg [⟨[(.const (.int .i64 0), I 0)], [], I 0, [], false⟩] (by exact ⟨by kernel_rfl, by kernel_rfl⟩) ?_ ?_
      · exact ⟨fun _ => astep_assign rfl, trivial⟩
      refine awp_ret ?_
      obtain rfl := Option.some.inj h
      exact ⟨⟨[I 0], ⟨resOK_tmp (by kernel_rfl), trivial⟩, rfl⟩, (NLt.lit _), Nat.le_refl _, fun n hn => absurd hn (Nat.not_lt_zero n)⟩

def steam_Deepest_1X_1 (N : Nat) (p0 : GStream) (p1 : (List GRow)) (p2 : Int) : Option Bool :=
  (steam_Table_atX N p1 (w64 (p2 - 1))).bind fun x3 =>
  (steam_flash_ofX N (⟨(⟨x3.Row.T, x3.Row.P, x3.Row.Liquid, x3.Row.Vapour, x3.Row.Silica⟩ : GRow)⟩ : GFlash) p0).bind fun x5 =>
  some (x5.Scale == 0)
set_option maxRecDepth 100000 in
set_option maxHeartbeats 4000000 in
theorem steam_Deepest_1X_1_ok (N : Nat) (p0 : GStream) (p1 : (List GRow)) (p2 : Int) (r : Bool) (h : steam_Deepest_1X_1 N p0 p1 p2 = some r) : Spec Try.prog 59 [(.agg [(I (p0.Mass)), (I (p0.Heat)), (I (p0.Silica)), (I (p0.Gas))]), (.ref 0 1 (0) 0), (.ref 1 1 (0) 0)] [(.own 1 [[(.dat 5 ((p1 : List GRow).map c_GRow))]]), (.own 1 [[(I (p2))]])] (B (r)) [(.own 1 [[(.dat 5 ((p1 : List GRow).map c_GRow))]]), (.own 1 [[(I (p2))]])] := by
  refine spec_of_awp Try.func59 rfl 2 (Nat.le_of_ble_eq_true rfl) (fun X φ0 w0 hφ0 => ?_)
  unfold steam_Deepest_1X_1 at h
  refine awp_finm ?_
  refine awp_reg [⟨[(.tmp 0, (.agg [I p0.Mass, I p0.Heat, I p0.Silica, I p0.Gas]))], [(2, .unused)], .ref 2 4 0 0, [(2, .own 4 [[I p0.Mass, I p0.Heat, I p0.Silica, I p0.Gas]])], false⟩,
    ⟨[(.const (.bool false), B false)], [], B false, [], false⟩] (by exact ⟨by kernel_rfl, by kernel_rfl⟩) ?_ ?_
  · exact ⟨fun _ => astep_box rfl (by rfl) rfl rfl,
    fun _ => astep_assign rfl, trivial⟩
  obtain ⟨x3, hf2, h⟩ := bind_out h
  obtain ⟨x5, hf4, h⟩ := bind_out h
  refine awp_regd [⟨[(.tmp 1, .ref 0 1 0 0)], [(0, (.own 1 [[(.dat 5 ((p1 : List GRow).map c_GRow))]]))], (.dat 5 ((p1 : List GRow).map c_GRow)), [], false⟩,
    ⟨[(.tmp 2, .ref 1 1 0 0)], [(1, .own 1 [[I p2]])], I p2, [], false⟩,
    ⟨[(.tmp 6, I p2), (.const (.int .i64 1), I 1)], [], (I (w64 (p2 - 1))), [], false⟩,
    ⟨[(.func 60, (.fn (.func 60) [] [])), (.tmp 5, (.dat 5 ((p1 : List GRow).map c_GRow))), (.tmp 7, (I (w64 (p2 - 1))))], [], (.agg [I x3.Row.T, I x3.Row.P, I x3.Row.Liquid, I x3.Row.Vapour, I x3.Row.Silica]), [], false⟩,
    ⟨[(.tmp 3, .ref 2 4 0 0)], [(2, .own 4 [[I p0.Mass, I p0.Heat, I p0.Silica, I p0.Gas]])], (.agg [I p0.Mass, I p0.Heat, I p0.Silica, I p0.Gas]), [], false⟩,
    ⟨[(.func 61, (.fn (.func 61) [] [])), (.tmp 8, (.agg [I x3.Row.T, I x3.Row.P, I x3.Row.Liquid, I x3.Row.Vapour, I x3.Row.Silica])), (.tmp 9, (.agg [I p0.Mass, I p0.Heat, I p0.Silica, I p0.Gas]))], [], (.agg [I x5.Steam.Mass, I x5.Steam.Heat, I x5.Steam.Silica, I x5.Steam.Gas, I x5.Water.Mass, I x5.Water.Heat, I x5.Water.Silica, I x5.Water.Gas, I x5.Rest, I x5.Scale]), [], false⟩,
    ⟨[(.tmp 10, (.agg [I x5.Steam.Mass, I x5.Steam.Heat, I x5.Steam.Silica, I x5.Steam.Gas, I x5.Water.Mass, I x5.Water.Heat, I x5.Water.Silica, I x5.Water.Gas, I x5.Rest, I x5.Scale]))], [], I x5.Scale, [], false⟩,
    ⟨[(.tmp 11, I x5.Scale), (.const (.int .i64 0), I 0)], [], (B ((x5.Scale == 0))), [], false⟩,
    ⟨[(.tmp 12, (B ((x5.Scale == 0))))], [], (B ((x5.Scale == 0))), [], false⟩] (by kernel_rfl) (by exact ⟨by kernel_rfl, by kernel_rfl⟩) (by kernel_rfl) ?_ ?_
  · exact ⟨fun _ => astep_load rfl ti30 (by decide) rfl (Nat.le_of_ble_eq_true rfl) rfl,
    fun _ => astep_load rfl ti3 (by decide) rfl (Nat.le_of_ble_eq_true rfl) rfl,
    fun _ => astep_bin rfl rfl,
    fun _ => astep_pcall (first := []) (cap := []) (vs := [(.dat 5 ((p1 : List GRow).map c_GRow)), (I (w64 (p2 - 1)))]) rfl enter60 (steam_Table_atX_ok N p1 (w64 (p2 - 1)) _ hf2) rfl rfl (nl_cons (nl_dat nl_GRow _) (nl_cons (NLt.lit _) nl_nil)) (NLt.agg _ (nl_cons (NLt.lit _) (nl_cons (NLt.lit _) (nl_cons (NLt.lit _) (nl_cons (NLt.lit _) (nl_cons (NLt.lit _) nl_nil)))))) rfl,
    fun _ => astep_load rfl ti42 (by decide) rfl (Nat.le_of_ble_eq_true rfl) rfl,
    fun _ => astep_pcall (first := []) (cap := []) (vs := [(.agg [I x3.Row.T, I x3.Row.P, I x3.Row.Liquid, I x3.Row.Vapour, I x3.Row.Silica]), (.agg [I p0.Mass, I p0.Heat, I p0.Silica, I p0.Gas])]) rfl enter61 (steam_flash_ofX_ok N (⟨(⟨x3.Row.T, x3.Row.P, x3.Row.Liquid, x3.Row.Vapour, x3.Row.Silica⟩ : GRow)⟩ : GFlash) p0 _ hf4) rfl rfl (nl_cons (NLt.agg _ (nl_cons (NLt.lit _) (nl_cons (NLt.lit _) (nl_cons (NLt.lit _) (nl_cons (NLt.lit _) (nl_cons (NLt.lit _) nl_nil)))))) (nl_cons (NLt.agg _ (nl_cons (NLt.lit _) (nl_cons (NLt.lit _) (nl_cons (NLt.lit _) (nl_cons (NLt.lit _) nl_nil))))) nl_nil)) (NLt.agg _ (nl_cons (NLt.lit _) (nl_cons (NLt.lit _) (nl_cons (NLt.lit _) (nl_cons (NLt.lit _) (nl_cons (NLt.lit _) (nl_cons (NLt.lit _) (nl_cons (NLt.lit _) (nl_cons (NLt.lit _) (nl_cons (NLt.lit _) (nl_cons (NLt.lit _) nl_nil))))))))))) rfl,
    fun _ => astep_field rfl Try.underlying44 rfl rfl ti3 (Nat.le_of_ble_eq_true rfl) (by decide) rfl,
    fun _ => astep_bin rfl rfl,
    fun _ => astep_assign rfl, trivial⟩
  refine awp_mor (mor_to (n := 13) (l' := [(4, (B ((x5.Scale == 0))))]) (own' := [(.own 1 [[(.dat 5 ((p1 : List GRow).map c_GRow))]]), (.own 1 [[I p2]])]) [(4, (B ((x5.Scale == 0))))] [0, 1] [(.own 1 [[(.dat 5 ((p1 : List GRow).map c_GRow))]]), (.own 1 [[I p2]])] hφ0 (by kernel_rfl) (by kernel_rfl) (by kernel_rfl) ⟨rfl, .rn (.plain _ (NLt.lit _)), trivial⟩ ⟨(spw_box ⟨(.rn (.plain _ (nl_dat nl_GRow _))), trivial⟩), (spw_box ⟨(.rn (.plain _ (NLt.lit _))), trivial⟩), trivial⟩) ?_
  refine awp_ret ?_
  obtain rfl := Option.some.inj h
  exact ⟨_, Mor.rfl, fin_of (vs := [(B ((x5.Scale == 0)))]) ⟨resOK_tmp (by kernel_rfl), trivial⟩ rfl (NLt.of0 (NLt.lit _)) (by kernel_rfl) (snl_cons (snl_box (nl_cons (NLt.of0 (nl_dat nl_GRow _)) nl_nil)) (snl_cons (snl_box (nl_cons (NLt.of0 (NLt.lit _)) nl_nil)) snl_nil))⟩

def steam_all_steam_Stream_1X_2 (N : Nat) (p0 : GStream) (p1 : (List GRow)) (p2 : Int) : Option Bool :=
  (steam_Deepest_1X_1 N p0 p1 p2).bind fun x3 =>
  some (!x3)
set_option maxRecDepth 100000 in
set_option maxHeartbeats 4000000 in
theorem steam_all_steam_Stream_1X_2_ok (N : Nat) (p0 : GStream) (p1 : (List GRow)) (p2 : Int) (r : Bool) (h : steam_all_steam_Stream_1X_2 N p0 p1 p2 = some r) : Spec Try.prog 83 [(.agg [(I (p0.Mass)), (I (p0.Heat)), (I (p0.Silica)), (I (p0.Gas))]), (.ref 0 1 (0) 0)] [(.own 1 [[(.fn (.func 59) [] [(.ref 1 1 (0) 0), (.ref 2 1 (0) 0)])]]), (.own 1 [[(.dat 5 ((p1 : List GRow).map c_GRow))]]), (.own 1 [[(I (p2))]])] (B (r)) [(.own 1 [[(.fn (.func 59) [] [(.ref 1 1 (0) 0), (.ref 2 1 (0) 0)])]]), (.own 1 [[(.dat 5 ((p1 : List GRow).map c_GRow))]]), (.own 1 [[(I (p2))]])] := by
  refine spec_of_awp Try.func83 rfl 3 (Nat.le_of_ble_eq_true rfl) (fun X φ0 w0 hφ0 => ?_)
  unfold steam_all_steam_Stream_1X_2 at h
  refine awp_finm ?_
  refine awp_reg [⟨[(.tmp 0, (.agg [I p0.Mass, I p0.Heat, I p0.Silica, I p0.Gas]))], [(3, .unused)], .ref 3 4 0 0, [(3, .own 4 [[I p0.Mass, I p0.Heat, I p0.Silica, I p0.Gas]])], false⟩,
    ⟨[(.const (.bool false), B false)], [], B false, [], false⟩] (by exact ⟨by kernel_rfl, by kernel_rfl⟩) ?_ ?_
  · exact ⟨fun _ => astep_box rfl (by rfl) rfl rfl,
    fun _ => astep_assign rfl, trivial⟩
  obtain ⟨x3, hf2, h⟩ := bind_out h
  refine awp_reg [⟨[(.tmp 1, .ref 0 1 0 0)], [(0, (.own 1 [[(.fn (.func 59) [] [.ref 1 1 0 0, .ref 2 1 0 0])]]))], (.fn (.func 59) [] [.ref 1 1 0 0, .ref 2 1 0 0]), [], false⟩,
    ⟨[(.tmp 2, .ref 3 4 0 0)], [(3, .own 4 [[I p0.Mass, I p0.Heat, I p0.Silica, I p0.Gas]])], (.agg [I p0.Mass, I p0.Heat, I p0.Silica, I p0.Gas]), [], false⟩,
    ⟨[(.tmp 4, (.fn (.func 59) [] [.ref 1 1 0 0, .ref 2 1 0 0])), (.tmp 5, (.agg [I p0.Mass, I p0.Heat, I p0.Silica, I p0.Gas]))], [(1, (.own 1 [[(.dat 5 ((p1 : List GRow).map c_GRow))]])), (2, .own 1 [[I p2]])], B x3, [(1, (.own 1 [[(.dat 5 ((p1 : List GRow).map c_GRow))]])), (2, .own 1 [[I p2]])], false⟩,
    ⟨[(.tmp 6, B x3)], [], (B ((!x3))), [], false⟩,
    ⟨[(.tmp 7, (B ((!x3))))], [], (B ((!x3))), [], false⟩] (by exact ⟨by kernel_rfl, by kernel_rfl⟩) ?_ ?_
  · exact ⟨fun _ => astep_load rfl ti120 (by decide) rfl (Nat.le_of_ble_eq_true rfl) rfl,
    fun _ => astep_load rfl ti42 (by decide) rfl (Nat.le_of_ble_eq_true rfl) rfl,
    fun _ => astep_callq (first := []) (cap := [.ref 1 1 0 0, .ref 2 1 0 0]) (vs := [(.agg [I p0.Mass, I p0.Heat, I p0.Silica, I p0.Gas])]) (σr := [(.own 1 [[(.dat 5 ((p1 : List GRow).map c_GRow))]]), (.own 1 [[I p2]])]) (σr' := [(.own 1 [[(.dat 5 ((p1 : List GRow).map c_GRow))]]), (.own 1 [[I p2]])]) (res' := (B x3)) [1, 2] rfl enter59 (steam_Deepest_1X_1_ok N p0 p1 p2 _ hf2) rfl (rn_agg (rnl_cons (.plain _ (NLt.agg _ (nl_cons (NLt.lit _) (nl_cons (NLt.lit _) (nl_cons (NLt.lit _) (nl_cons (NLt.lit _) nl_nil)))))) (rnl_cons (rnk_ref rfl) (rnl_cons (rnk_ref rfl) rnl_nil)))) (slw_cons (srn_box (rnl_cons (.plain _ (nl_dat nl_GRow _)) rnl_nil)) (slw_cons (srn_box (rnl_cons (.plain _ (NLt.lit _)) rnl_nil)) slw_nil)) (slw_cons (srn_box (rnl_cons (.plain _ (nl_dat nl_GRow _)) rnl_nil)) (slw_cons (srn_box (rnl_cons (.plain _ (NLt.lit _)) rnl_nil)) slw_nil)) (.plain _ (NLt.lit _)) rfl rfl rfl,
    fun _ => astep_not rfl,
    fun _ => astep_assign rfl, trivial⟩
  refine awp_mor (mor_to (n := 8) (l' := [(3, (B ((!x3))))]) (own' := [(.own 1 [[(.fn (.func 59) [] [.ref 1 1 0 0, .ref 2 1 0 0])]]), (.own 1 [[(.dat 5 ((p1 : List GRow).map c_GRow))]]), (.own 1 [[I p2]])]) [(3, (B ((!x3))))] [0, 1, 2] [(.own 1 [[(.fn (.func 59) [] [.ref 1 1 0 0, .ref 2 1 0 0])]]), (.own 1 [[(.dat 5 ((p1 : List GRow).map c_GRow))]]), (.own 1 [[I p2]])] hφ0 (by kernel_rfl) (by kernel_rfl) (by kernel_rfl) ⟨rfl, .rn (.plain _ (NLt.lit _)), trivial⟩ ⟨(spw_box ⟨(.rn (rn_fn rnl_nil (rnl_cons (rnq_ref rfl) (rnl_cons (rnq_ref rfl) rnl_nil)))), trivial⟩), (spw_box ⟨(.rn (.plain _ (nl_dat nl_GRow _))), trivial⟩), (spw_box ⟨(.rn (.plain _ (NLt.lit _))), trivial⟩), trivial⟩) ?_
  refine awp_ret ?_
  obtain rfl := Option.some.inj h
  exact ⟨_, Mor.rfl, fin_of (vs := [(B ((!x3)))]) ⟨resOK_tmp (by kernel_rfl), trivial⟩ rfl (NLt.of0 (NLt.lit _)) (by kernel_rfl) (snl_cons (snl_box (nl_cons (NLt.fn _ _ _ nl_nil (nl_cons (NLt.ref _ _ _ _ (by decide)) (nl_cons (NLt.ref _ _ _ _ (by decide)) nl_nil))) nl_nil)) (snl_cons (snl_box (nl_cons (NLt.of0 (nl_dat nl_GRow _)) nl_nil)) (snl_cons (snl_box (nl_cons (NLt.of0 (NLt.lit _)) nl_nil)) snl_nil)))⟩

def slices_IndexFunc_steam_Stream_steam_StreamX_2_loop1 (N : Nat) (p0 : (List GStream)) (p1 : (List GRow)) (k2 : Unit → Option Int) (p2 : Int) : Nat → Int → Option Int
  | 0, _ => none
  | n5 + 1, y3 =>
    bif (decide (y3 < (p0.length : Int))) then
      (getI p0 y3).bind fun x7 =>
      (steam_all_steam_Stream_1X_2 N x7 p1 p2).bind fun x12 =>
      bif x12 then
        some y3
      else
        slices_IndexFunc_steam_Stream_steam_StreamX_2_loop1 N p0 p1 k2 p2 n5 (w64 (y3 + 1))
    else
      k2 ()
def slices_IndexFunc_steam_Stream_steam_StreamX_2 (N : Nat) (p0 : (List GStream)) (p1 : (List GRow)) (p2 : Int) : Option Int :=
  joinK (fun _ =>
      some (-1)) fun k2 : Unit → Option Int =>
  slices_IndexFunc_steam_Stream_steam_StreamX_2_loop1 N p0 p1 k2 p2 N 0
set_option maxRecDepth 100000 in
set_option maxHeartbeats 4000000 in
theorem slices_IndexFunc_steam_Stream_steam_StreamX_2_ok (N : Nat) (p0 : (List GStream)) (p1 : (List GRow)) (p2 : Int) (r : Int) (h : slices_IndexFunc_steam_Stream_steam_StreamX_2 N p0 p1 p2 = some r) : Spec Try.prog 96 [(.dat 4 ((p0 : List GStream).map c_GStream)), (.fn (.func 83) [] [(.ref 0 1 (0) 0)])] [(.own 1 [[(.fn (.func 59) [] [(.ref 1 1 (0) 0), (.ref 2 1 (0) 0)])]]), (.own 1 [[(.dat 5 ((p1 : List GRow).map c_GRow))]]), (.own 1 [[(I (p2))]])] (I (r)) [(.own 1 [[(.fn (.func 59) [] [(.ref 1 1 (0) 0), (.ref 2 1 (0) 0)])]]), (.own 1 [[(.dat 5 ((p1 : List GRow).map c_GRow))]]), (.own 1 [[(I (p2))]])] := by
  refine spec_of_awp Try.func96 rfl 3 (Nat.le_of_ble_eq_true rfl) (fun X φ0 w0 hφ0 => ?_)
  unfold slices_IndexFunc_steam_Stream_steam_StreamX_2 at h
  refine awp_finm ?_
  refine awp_reg [⟨[(.const (.int .i64 0), I 0)], [], I 0, [], false⟩] (by exact ⟨by kernel_rfl, by kernel_rfl⟩) ?_ ?_
  · exact ⟨fun _ => astep_assign rfl, trivial⟩
  obtain ⟨k2, hk_k2, h⟩ := joinK_out h
  refine awp_join (τ := Unit) (fun t => k2 t = some r) (fun _ => ⟨mk 19 [], [(.own 1 [[(.fn (.func 59) [] [.ref 1 1 0 0, .ref 2 1 0 0])]]), (.own 1 [[(.dat 5 ((p1 : List GRow).map c_GRow))]]), (.own 1 [[I p2]])]⟩) (fun t h => ?_) ?_
  · subst hk_k2
    refine awp_reg [⟨[(.const (.int .i64 (-1)), (I ((-1))))], [], (I ((-1))), [], false⟩] (by exact ⟨by kernel_rfl, by kernel_rfl⟩) ?_ ?_
    · exact ⟨fun _ => astep_assign rfl, trivial⟩
    refine awp_mor (mor_to (n := 19) (l' := [(4, (I ((-1))))]) (own' := [(.own 1 [[(.fn (.func 59) [] [.ref 1 1 0 0, .ref 2 1 0 0])]]), (.own 1 [[(.dat 5 ((p1 : List GRow).map c_GRow))]]), (.own 1 [[I p2]])]) [(4, (I ((-1))))] [0, 1, 2] [(.own 1 [[(.fn (.func 59) [] [.ref 1 1 0 0, .ref 2 1 0 0])]]), (.own 1 [[(.dat 5 ((p1 : List GRow).map c_GRow))]]), (.own 1 [[I p2]])] hφ0 (by kernel_rfl) (by kernel_rfl) (by kernel_rfl) ⟨rfl, .rn (.plain _ (NLt.lit _)), trivial⟩ ⟨(spw_box ⟨(.rn (rn_fn rnl_nil (rnl_cons (rnq_ref rfl) (rnl_cons (rnq_ref rfl) rnl_nil)))), trivial⟩), (spw_box ⟨(.rn (.plain _ (nl_dat nl_GRow _))), trivial⟩), (spw_box ⟨(.rn (.plain _ (NLt.lit _))), trivial⟩), trivial⟩) ?_
    refine awp_ret ?_
    obtain rfl := Option.some.inj h
    exact ⟨_, Mor.rfl, fin_of (vs := [(I ((-1)))]) ⟨resOK_tmp (by kernel_rfl), trivial⟩ rfl (NLt.of0 (NLt.lit _)) (by kernel_rfl) (snl_cons (snl_box (nl_cons (NLt.fn _ _ _ nl_nil (nl_cons (NLt.ref _ _ _ _ (by decide)) (nl_cons (NLt.ref _ _ _ _ (by decide)) nl_nil))) nl_nil)) (snl_cons (snl_box (nl_cons (NLt.of0 (nl_dat nl_GRow _)) nl_nil)) (snl_cons (snl_box (nl_cons (NLt.of0 (NLt.lit _)) nl_nil)) snl_nil)))⟩
  · skip
    refine awp_reg [⟨[(.tmp 0, (.dat 4 ((p0 : List GStream).map c_GStream)))], [], (.dat 4 ((p0 : List GStream).map c_GStream)), [], false⟩,
    ⟨[(.tmp 6, (.dat 4 ((p0 : List GStream).map c_GStream)))], [], (I ((p0.length : Int))), [], false⟩,
    ⟨[(.const (.int .i64 0), I 0)], [], I 0, [], false⟩] (by exact ⟨by kernel_rfl, by kernel_rfl⟩) ?_ ?_
    · exact ⟨fun _ => astep_move rfl,
    fun _ => astep_lenm (c := c_GStream) (l := p0) (astep_len rfl Try.underlying32 rfl),
    fun _ => astep_move rfl, trivial⟩
    refine awp_block ?_
    refine awp_mor (mor_to (n := 19) (l' := [(0, (.dat 4 ((p0 : List GStream).map c_GStream))), (1, (.fn (.func 83) [] [.ref 0 1 0 0])), (7, (I ((p0.length : Int)))), (8, I 0)]) (own' := [(.own 1 [[(.fn (.func 59) [] [.ref 1 1 0 0, .ref 2 1 0 0])]]), (.own 1 [[(.dat 5 ((p1 : List GRow).map c_GRow))]]), (.own 1 [[I p2]])]) [(0, (.dat 4 ((p0 : List GStream).map c_GStream))), (1, (.fn (.func 83) [] [.ref 0 1 0 0])), (7, (I ((p0.length : Int)))), (8, I 0)] [0, 1, 2] [(.own 1 [[(.fn (.func 59) [] [.ref 1 1 0 0, .ref 2 1 0 0])]]), (.own 1 [[(.dat 5 ((p1 : List GRow).map c_GRow))]]), (.own 1 [[I p2]])] hφ0 (by kernel_rfl) (by kernel_rfl) (by kernel_rfl) ⟨rfl, .rn (.plain _ (nl_dat nl_GStream _)), rfl, .rn (rn_fn rnl_nil (rnl_cons (rnq_ref rfl) rnl_nil)), rfl, .rn (.plain _ (NLt.lit _)), rfl, .rn (.plain _ (NLt.lit _)), trivial⟩ ⟨(spw_box ⟨(.rn (rn_fn rnl_nil (rnl_cons (rnq_ref rfl) (rnl_cons (rnq_ref rfl) rnl_nil)))), trivial⟩), (spw_box ⟨(.rn (.plain _ (nl_dat nl_GRow _))), trivial⟩), (spw_box ⟨(.rn (.plain _ (NLt.lit _))), trivial⟩), trivial⟩) ?_
    refine awp_ind (τ := Int) (fun n t => slices_IndexFunc_steam_Stream_steam_StreamX_2_loop1 N p0 p1 k2 p2 n t = some r) (fun y3 => ⟨mk 19 [(0, (.dat 4 ((p0 : List GStream).map c_GStream))), (1, (.fn (.func 83) [] [.ref 0 1 0 0])), (7, (I ((p0.length : Int)))), (8, I y3)], [(.own 1 [[(.fn (.func 59) [] [.ref 1 1 0 0, .ref 2 1 0 0])]]), (.own 1 [[(.dat 5 ((p1 : List GRow).map c_GRow))]]), (.own 1 [[I p2]])]⟩) (fun t h => by rw [slices_IndexFunc_steam_Stream_steam_StreamX_2_loop1] at h; cases h) (fun n5 ih y3 h => ?_) N (0) h
    rw [slices_IndexFunc_steam_Stream_steam_StreamX_2_loop1] at h
    skip
    refine awp_reg [⟨[(.tmp 8, I y3), (.tmp 7, (I ((p0.length : Int))))], [], (B ((decide (y3 < (p0.length : Int))))), [], false⟩] (by exact ⟨by kernel_rfl, by kernel_rfl⟩) ?_ ?_
    · exact ⟨fun _ => astep_bin rfl rfl, trivial⟩
    refine awp_seq ?_
    rcases Bool.eq_false_or_eq_true ((decide (y3 < (p0.length : Int)))) with hc6 | hc6
    · replace h := bif_t hc6 h
      refine awp_ift hc6 (by kernel_rfl) ?_
      refine awp_skip ?_
      refine thenA_n ?_
      refine awp_seq ?_
      refine awp_block ?_
      refine awp_reg [⟨[(.tmp 8, I y3)], [], I y3, [], false⟩,
    ⟨[(.tmp 10, I y3)], [], I y3, [], false⟩] (by exact ⟨by kernel_rfl, by kernel_rfl⟩) ?_ ?_
      · exact ⟨fun _ => astep_move rfl,
    fun _ => astep_assign rfl, trivial⟩
      obtain ⟨x7, hg8, h⟩ := bind_out h
      obtain ⟨hi9, hj10⟩ := getI_some hg8
      obtain ⟨x12, hf11, h⟩ := bind_out h
      refine awp_reg [⟨[(.tmp 1, (.fn (.func 83) [] [.ref 0 1 0 0]))], [], (.fn (.func 83) [] [.ref 0 1 0 0]), [], false⟩,
    ⟨[(.tmp 0, (.dat 4 ((p0 : List GStream).map c_GStream)))], [], (.dat 4 ((p0 : List GStream).map c_GStream)), [], false⟩,
    ⟨[(.tmp 5, I y3)], [], I y3, [], false⟩,
    ⟨[(.tmp 12, (.dat 4 ((p0 : List GStream).map c_GStream))), (.tmp 13, I y3)], [], (.dptr (c_GStream (x7)) 0), [], false⟩,
    ⟨[(.tmp 14, (.dptr (c_GStream (x7)) 0))], [], (.agg [I x7.Mass, I x7.Heat, I x7.Silica, I x7.Gas]), [], false⟩,
    ⟨[(.tmp 11, (.fn (.func 83) [] [.ref 0 1 0 0])), (.tmp 15, (.agg [I x7.Mass, I x7.Heat, I x7.Silica, I x7.Gas]))], [(0, (.own 1 [[(.fn (.func 59) [] [.ref 1 1 0 0, .ref 2 1 0 0])]])), (1, (.own 1 [[(.dat 5 ((p1 : List GRow).map c_GRow))]])), (2, .own 1 [[I p2]])], B x12, [(0, (.own 1 [[(.fn (.func 59) [] [.ref 1 1 0 0, .ref 2 1 0 0])]])), (1, (.own 1 [[(.dat 5 ((p1 : List GRow).map c_GRow))]])), (2, .own 1 [[I p2]])], false⟩] (by exact ⟨by kernel_rfl, by kernel_rfl⟩) ?_ ?_
      · exact ⟨fun _ => astep_move rfl,
    fun _ => astep_move rfl,
    fun _ => astep_move rfl,
    fun _ => astep_idxd rfl Try.underlying32 ti42 rfl rfl hi9 (map_get c_GStream hj10) rfl,
    fun _ => astep_loadd rfl ti42 (by decide) (Nat.le_of_ble_eq_true rfl) rfl,
    fun _ => astep_callq (first := []) (cap := [.ref 0 1 0 0]) (vs := [(.agg [I x7.Mass, I x7.Heat, I x7.Silica, I x7.Gas])]) (σr := [(.own 1 [[(.fn (.func 59) [] [.ref 1 1 0 0, .ref 2 1 0 0])]]), (.own 1 [[(.dat 5 ((p1 : List GRow).map c_GRow))]]), (.own 1 [[I p2]])]) (σr' := [(.own 1 [[(.fn (.func 59) [] [.ref 1 1 0 0, .ref 2 1 0 0])]]), (.own 1 [[(.dat 5 ((p1 : List GRow).map c_GRow))]]), (.own 1 [[I p2]])]) (res' := (B x12)) [0, 1, 2] rfl enter83 (steam_all_steam_Stream_1X_2_ok N x7 p1 p2 _ hf11) rfl (rn_agg (rnl_cons (.plain _ (NLt.agg _ (nl_cons (NLt.lit _) (nl_cons (NLt.lit _) (nl_cons (NLt.lit _) (nl_cons (NLt.lit _) nl_nil)))))) (rnl_cons (rnk_ref rfl) rnl_nil))) (slw_cons (srn_box (rnl_cons (rn_fn rnl_nil (rnl_cons (rnk_ref rfl) (rnl_cons (rnk_ref rfl) rnl_nil))) rnl_nil)) (slw_cons (srn_box (rnl_cons (.plain _ (nl_dat nl_GRow _)) rnl_nil)) (slw_cons (srn_box (rnl_cons (.plain _ (NLt.lit _)) rnl_nil)) slw_nil))) (slw_cons (srn_box (rnl_cons (rn_fn rnl_nil (rnl_cons (rnj_ref rfl) (rnl_cons (rnj_ref rfl) rnl_nil))) rnl_nil)) (slw_cons (srn_box (rnl_cons (.plain _ (nl_dat nl_GRow _)) rnl_nil)) (slw_cons (srn_box (rnl_cons (.plain _ (NLt.lit _)) rnl_nil)) slw_nil))) (.plain _ (NLt.lit _)) rfl rfl rfl, trivial⟩
      rcases Bool.eq_false_or_eq_true (x12) with hc13 | hc13
      · replace h := bif_t hc13 h
        refine awp_ift hc13 (by kernel_rfl) ?_
        refine awp_reg [⟨[(.tmp 5, I y3)], [], I y3, [], false⟩,
    ⟨[(.tmp 17, I y3)], [], I y3, [], false⟩] (by exact ⟨by kernel_rfl, by kernel_rfl⟩) ?_ ?_
        · exact ⟨fun _ => astep_move rfl,
    fun _ => astep_assign rfl, trivial⟩
        refine awp_mor (mor_to (n := 19) (l' := [(4, I y3)]) (own' := [(.own 1 [[(.fn (.func 59) [] [.ref 1 1 0 0, .ref 2 1 0 0])]]), (.own 1 [[(.dat 5 ((p1 : List GRow).map c_GRow))]]), (.own 1 [[I p2]])]) [(4, I y3)] [0, 1, 2] [(.own 1 [[(.fn (.func 59) [] [.ref 1 1 0 0, .ref 2 1 0 0])]]), (.own 1 [[(.dat 5 ((p1 : List GRow).map c_GRow))]]), (.own 1 [[I p2]])] hφ0 (by kernel_rfl) (by kernel_rfl) (by kernel_rfl) ⟨rfl, .rn (.plain _ (NLt.lit _)), trivial⟩ ⟨(spw_box ⟨(.rn (rn_fn rnl_nil (rnl_cons (rnq_ref rfl) (rnl_cons (rnq_ref rfl) rnl_nil)))), trivial⟩), (spw_box ⟨(.rn (.plain _ (nl_dat nl_GRow _))), trivial⟩), (spw_box ⟨(.rn (.plain _ (NLt.lit _))), trivial⟩), trivial⟩) ?_
        refine awp_ret ?_
        refine blockA_r ?_
        refine thenA_r ?_
        refine thenA_r ?_
        refine blockA_r ?_
        refine thenA_r ?_
        obtain rfl := Option.some.inj h
        exact ⟨_, Mor.rfl, fin_of (vs := [I y3]) ⟨resOK_tmp (by kernel_rfl), trivial⟩ rfl (NLt.of0 (NLt.lit _)) (by kernel_rfl) (snl_cons (snl_box (nl_cons (NLt.fn _ _ _ nl_nil (nl_cons (NLt.ref _ _ _ _ (by decide)) (nl_cons (NLt.ref _ _ _ _ (by decide)) nl_nil))) nl_nil)) (snl_cons (snl_box (nl_cons (NLt.of0 (nl_dat nl_GRow _)) nl_nil)) (snl_cons (snl_box (nl_cons (NLt.of0 (NLt.lit _)) nl_nil)) snl_nil)))⟩
      · replace h := bif_f hc13 h
        refine awp_ifn hc13 (by kernel_rfl) ?_
        refine awp_skip ?_
        refine blockA_n ?_
        refine thenA_n ?_
        refine awp_reg1 [⟨[(.tmp 8, I y3), (.const (.int .i64 1), I 1)], [], (I (w64 (y3 + 1))), [], false⟩,
    ⟨[(.tmp 18, (I (w64 (y3 + 1))))], [], (I (w64 (y3 + 1))), [], false⟩] (by exact ⟨by kernel_rfl, by kernel_rfl⟩) ?_ ?_
        · exact ⟨fun _ => astep_bin rfl rfl,
    fun _ => astep_move rfl, trivial⟩
        refine thenA_n ?_
        exact around_mor (mor_to (n := 19) (l' := [(0, (.dat 4 ((p0 : List GStream).map c_GStream))), (1, (.fn (.func 83) [] [.ref 0 1 0 0])), (7, (I ((p0.length : Int)))), (8, (I ((w64 (y3 + 1)))))]) (own' := [(.own 1 [[(.fn (.func 59) [] [.ref 1 1 0 0, .ref 2 1 0 0])]]), (.own 1 [[(.dat 5 ((p1 : List GRow).map c_GRow))]]), (.own 1 [[I p2]])]) [(0, (.dat 4 ((p0 : List GStream).map c_GStream))), (1, (.fn (.func 83) [] [.ref 0 1 0 0])), (7, (I ((p0.length : Int)))), (8, (I (w64 (y3 + 1))))] [0, 1, 2] [(.own 1 [[(.fn (.func 59) [] [.ref 1 1 0 0, .ref 2 1 0 0])]]), (.own 1 [[(.dat 5 ((p1 : List GRow).map c_GRow))]]), (.own 1 [[I p2]])] hφ0 (by kernel_rfl) (by kernel_rfl) (by kernel_rfl) ⟨rfl, .rn (.plain _ (nl_dat nl_GStream _)), rfl, .rn (rn_fn rnl_nil (rnl_cons (rnq_ref rfl) rnl_nil)), rfl, .rn (.plain _ (NLt.lit _)), rfl, .rn (.plain _ (NLt.lit _)), trivial⟩ ⟨(spw_box ⟨(.rn (rn_fn rnl_nil (rnl_cons (rnq_ref rfl) (rnl_cons (rnq_ref rfl) rnl_nil)))), trivial⟩), (spw_box ⟨(.rn (.plain _ (nl_dat nl_GRow _))), trivial⟩), (spw_box ⟨(.rn (.plain _ (NLt.lit _))), trivial⟩), trivial⟩) (ih (w64 (y3 + 1)) h)
    · replace h := bif_f hc6 h
      refine awp_ifn hc6 (by kernel_rfl) ?_
      refine awp_exit ?_
      refine thenA_x ?_
      refine thenA_x ?_
      refine blockA_e rfl ?_
      refine thenA_n ?_
      exact ⟨(), h, (mor_to (n := 19) (l' := []) (own' := [(.own 1 [[(.fn (.func 59) [] [.ref 1 1 0 0, .ref 2 1 0 0])]]), (.own 1 [[(.dat 5 ((p1 : List GRow).map c_GRow))]]), (.own 1 [[I p2]])]) [] [0, 1, 2] [(.own 1 [[(.fn (.func 59) [] [.ref 1 1 0 0, .ref 2 1 0 0])]]), (.own 1 [[(.dat 5 ((p1 : List GRow).map c_GRow))]]), (.own 1 [[I p2]])] hφ0 (by kernel_rfl) (by kernel_rfl) (by kernel_rfl) trivial ⟨(spw_box ⟨(.rn (rn_fn rnl_nil (rnl_cons (rnq_ref rfl) (rnl_cons (rnq_ref rfl) rnl_nil)))), trivial⟩), (spw_box ⟨(.rn (.plain _ (nl_dat nl_GRow _))), trivial⟩), (spw_box ⟨(.rn (.plain _ (NLt.lit _))), trivial⟩), trivial⟩)⟩

def slices_ContainsFunc_steam_Stream_steam_StreamX_2 (N : Nat) (p0 : (List GStream)) (p1 : (List GRow)) (p2 : Int) : Option Bool :=
  (slices_IndexFunc_steam_Stream_steam_StreamX_2 N p0 p1 p2).bind fun x3 =>
  some (decide (x3 ≥ 0))
set_option maxRecDepth 100000 in
set_option maxHeartbeats 4000000 in
theorem slices_ContainsFunc_steam_Stream_steam_StreamX_2_ok (N : Nat) (p0 : (List GStream)) (p1 : (List GRow)) (p2 : Int) (r : Bool) (h : slices_ContainsFunc_steam_Stream_steam_StreamX_2 N p0 p1 p2 = some r) : Spec Try.prog 82 [(.dat 4 ((p0 : List GStream).map c_GStream)), (.fn (.func 83) [] [(.ref 0 1 (0) 0)])] [(.own 1 [[(.fn (.func 59) [] [(.ref 1 1 (0) 0), (.ref 2 1 (0) 0)])]]), (.own 1 [[(.dat 5 ((p1 : List GRow).map c_GRow))]]), (.own 1 [[(I (p2))]])] (B (r)) [(.own 1 [[(.fn (.func 59) [] [(.ref 1 1 (0) 0), (.ref 2 1 (0) 0)])]]), (.own 1 [[(.dat 5 ((p1 : List GRow).map c_GRow))]]), (.own 1 [[(I (p2))]])] := by
  refine spec_of_awp Try.func82 rfl 3 (Nat.le_of_ble_eq_true rfl) (fun X φ0 w0 hφ0 => ?_)
  unfold slices_ContainsFunc_steam_Stream_steam_StreamX_2 at h
  refine awp_finm ?_
  refine awp_reg [⟨[(.const (.bool false), B false)], [], B false, [], false⟩] (by exact ⟨by kernel_rfl, by kernel_rfl⟩) ?_ ?_
  · exact ⟨fun _ => astep_assign rfl, trivial⟩
  obtain ⟨x3, hf2, h⟩ := bind_out h
  refine awp_reg [⟨[(.tmp 0, (.dat 4 ((p0 : List GStream).map c_GStream)))], [], (.dat 4 ((p0 : List GStream).map c_GStream)), [], false⟩,
    ⟨[(.tmp 1, (.fn (.func 83) [] [.ref 0 1 0 0]))], [], (.fn (.func 83) [] [.ref 0 1 0 0]), [], false⟩,
    ⟨[(.func 96, (.fn (.func 96) [] [])), (.tmp 5, (.dat 4 ((p0 : List GStream).map c_GStream))), (.tmp 6, (.fn (.func 83) [] [.ref 0 1 0 0]))], [(0, (.own 1 [[(.fn (.func 59) [] [.ref 1 1 0 0, .ref 2 1 0 0])]])), (1, (.own 1 [[(.dat 5 ((p1 : List GRow).map c_GRow))]])), (2, .own 1 [[I p2]])], I x3, [(0, (.own 1 [[(.fn (.func 59) [] [.ref 1 1 0 0, .ref 2 1 0 0])]])), (1, (.own 1 [[(.dat 5 ((p1 : List GRow).map c_GRow))]])), (2, .own 1 [[I p2]])], false⟩,
    ⟨[(.tmp 7, I x3), (.const (.int .i64 0), I 0)], [], (B ((decide (x3 ≥ 0)))), [], false⟩,
    ⟨[(.tmp 8, (B ((decide (x3 ≥ 0)))))], [], (B ((decide (x3 ≥ 0)))), [], false⟩] (by exact ⟨by kernel_rfl, by kernel_rfl⟩) ?_ ?_
  · exact ⟨fun _ => astep_move rfl,
    fun _ => astep_move rfl,
    fun _ => astep_callq (first := []) (cap := []) (vs := [(.dat 4 ((p0 : List GStream).map c_GStream)), (.fn (.func 83) [] [.ref 0 1 0 0])]) (σr := [(.own 1 [[(.fn (.func 59) [] [.ref 1 1 0 0, .ref 2 1 0 0])]]), (.own 1 [[(.dat 5 ((p1 : List GRow).map c_GRow))]]), (.own 1 [[I p2]])]) (σr' := [(.own 1 [[(.fn (.func 59) [] [.ref 1 1 0 0, .ref 2 1 0 0])]]), (.own 1 [[(.dat 5 ((p1 : List GRow).map c_GRow))]]), (.own 1 [[I p2]])]) (res' := (I x3)) [0, 1, 2] rfl enter96 (slices_IndexFunc_steam_Stream_steam_StreamX_2_ok N p0 p1 p2 _ hf2) rfl (rn_agg (rnl_cons (.plain _ (nl_dat nl_GStream _)) (rnl_cons (rn_fn rnl_nil (rnl_cons (rnk_ref rfl) rnl_nil)) rnl_nil))) (slw_cons (srn_box (rnl_cons (rn_fn rnl_nil (rnl_cons (rnk_ref rfl) (rnl_cons (rnk_ref rfl) rnl_nil))) rnl_nil)) (slw_cons (srn_box (rnl_cons (.plain _ (nl_dat nl_GRow _)) rnl_nil)) (slw_cons (srn_box (rnl_cons (.plain _ (NLt.lit _)) rnl_nil)) slw_nil))) (slw_cons (srn_box (rnl_cons (rn_fn rnl_nil (rnl_cons (rnj_ref rfl) (rnl_cons (rnj_ref rfl) rnl_nil))) rnl_nil)) (slw_cons (srn_box (rnl_cons (.plain _ (nl_dat nl_GRow _)) rnl_nil)) (slw_cons (srn_box (rnl_cons (.plain _ (NLt.lit _)) rnl_nil)) slw_nil))) (.plain _ (NLt.lit _)) rfl rfl rfl,
    fun _ => astep_bin rfl rfl,
    fun _ => astep_assign rfl, trivial⟩
  refine awp_mor (mor_to (n := 9) (l' := [(4, (B ((decide (x3 ≥ 0)))))]) (own' := [(.own 1 [[(.fn (.func 59) [] [.ref 1 1 0 0, .ref 2 1 0 0])]]), (.own 1 [[(.dat 5 ((p1 : List GRow).map c_GRow))]]), (.own 1 [[I p2]])]) [(4, (B ((decide (x3 ≥ 0)))))] [0, 1, 2] [(.own 1 [[(.fn (.func 59) [] [.ref 1 1 0 0, .ref 2 1 0 0])]]), (.own 1 [[(.dat 5 ((p1 : List GRow).map c_GRow))]]), (.own 1 [[I p2]])] hφ0 (by kernel_rfl) (by kernel_rfl) (by kernel_rfl) ⟨rfl, .rn (.plain _ (NLt.lit _)), trivial⟩ ⟨(spw_box ⟨(.rn (rn_fn rnl_nil (rnl_cons (rnq_ref rfl) (rnl_cons (rnq_ref rfl) rnl_nil)))), trivial⟩), (spw_box ⟨(.rn (.plain _ (nl_dat nl_GRow _))), trivial⟩), (spw_box ⟨(.rn (.plain _ (NLt.lit _))), trivial⟩), trivial⟩) ?_
  refine awp_ret ?_
  obtain rfl := Option.some.inj h
  exact ⟨_, Mor.rfl, fin_of (vs := [(B ((decide (x3 ≥ 0))))]) ⟨resOK_tmp (by kernel_rfl), trivial⟩ rfl (NLt.of0 (NLt.lit _)) (by kernel_rfl) (snl_cons (snl_box (nl_cons (NLt.fn _ _ _ nl_nil (nl_cons (NLt.ref _ _ _ _ (by decide)) (nl_cons (NLt.ref _ _ _ _ (by decide)) nl_nil))) nl_nil)) (snl_cons (snl_box (nl_cons (NLt.of0 (nl_dat nl_GRow _)) nl_nil)) (snl_cons (snl_box (nl_cons (NLt.of0 (NLt.lit _)) nl_nil)) snl_nil)))⟩

def steam_all_steam_StreamX_2 (N : Nat) (p0 : (List GStream)) (p1 : (List GRow)) (p2 : Int) : Option Bool :=
  (slices_ContainsFunc_steam_Stream_steam_StreamX_2 N p0 p1 p2).bind fun x3 =>
  some (!x3)
set_option maxRecDepth 100000 in
set_option maxHeartbeats 4000000 in
theorem steam_all_steam_StreamX_2_ok (N : Nat) (p0 : (List GStream)) (p1 : (List GRow)) (p2 : Int) (r : Bool) (h : steam_all_steam_StreamX_2 N p0 p1 p2 = some r) : Spec Try.prog 58 [(.dat 4 ((p0 : List GStream).map c_GStream)), (.fn (.func 59) [] [(.ref 0 1 (0) 0), (.ref 1 1 (0) 0)])] [(.own 1 [[(.dat 5 ((p1 : List GRow).map c_GRow))]]), (.own 1 [[(I (p2))]])] (B (r)) [(.own 1 [[(.dat 5 ((p1 : List GRow).map c_GRow))]]), (.own 1 [[(I (p2))]])] := by
  refine spec_of_awp Try.func58 rfl 2 (Nat.le_of_ble_eq_true rfl) (fun X φ0 w0 hφ0 => ?_)
  unfold steam_all_steam_StreamX_2 at h
  refine awp_finm ?_
  refine awp_reg [⟨[(.tmp 1, (.fn (.func 59) [] [.ref 0 1 0 0, .ref 1 1 0 0]))], [(2, .unused)], .ref 2 1 0 0, [(2, (.own 1 [[(.fn (.func 59) [] [.ref 0 1 0 0, .ref 1 1 0 0])]]))], false⟩,
    ⟨[(.const (.bool false), B false)], [], B false, [], false⟩] (by exact ⟨by kernel_rfl, by kernel_rfl⟩) ?_ ?_
  · exact ⟨fun _ => astep_box rfl (by rfl) rfl rfl,
    fun _ => astep_assign rfl, trivial⟩
  obtain ⟨x3, hf2, h⟩ := bind_out h
  refine awp_reg [⟨[(.tmp 0, (.dat 4 ((p0 : List GStream).map c_GStream)))], [], (.dat 4 ((p0 : List GStream).map c_GStream)), [], false⟩,
    ⟨[(.tmp 3, .ref 2 1 0 0)], [], (.fn (.func 83) [] [.ref 2 1 0 0]), [], false⟩,
    ⟨[(.func 82, (.fn (.func 82) [] [])), (.tmp 5, (.dat 4 ((p0 : List GStream).map c_GStream))), (.tmp 6, (.fn (.func 83) [] [.ref 2 1 0 0]))], [(2, (.own 1 [[(.fn (.func 59) [] [.ref 0 1 0 0, .ref 1 1 0 0])]])), (0, (.own 1 [[(.dat 5 ((p1 : List GRow).map c_GRow))]])), (1, .own 1 [[I p2]])], B x3, [(2, (.own 1 [[(.fn (.func 59) [] [.ref 0 1 0 0, .ref 1 1 0 0])]])), (0, (.own 1 [[(.dat 5 ((p1 : List GRow).map c_GRow))]])), (1, .own 1 [[I p2]])], false⟩,
    ⟨[(.tmp 7, B x3)], [], (B ((!x3))), [], false⟩,
    ⟨[(.tmp 8, (B ((!x3))))], [], (B ((!x3))), [], false⟩] (by exact ⟨by kernel_rfl, by kernel_rfl⟩) ?_ ?_
  · exact ⟨fun _ => astep_move rfl,
    fun _ => astep_func (fs := []) (cs := [.ref 2 1 0 0]) rfl rfl rfl rfl,
    fun _ => astep_callq (first := []) (cap := []) (vs := [(.dat 4 ((p0 : List GStream).map c_GStream)), (.fn (.func 83) [] [.ref 2 1 0 0])]) (σr := [(.own 1 [[(.fn (.func 59) [] [.ref 0 1 0 0, .ref 1 1 0 0])]]), (.own 1 [[(.dat 5 ((p1 : List GRow).map c_GRow))]]), (.own 1 [[I p2]])]) (σr' := [(.own 1 [[(.fn (.func 59) [] [.ref 0 1 0 0, .ref 1 1 0 0])]]), (.own 1 [[(.dat 5 ((p1 : List GRow).map c_GRow))]]), (.own 1 [[I p2]])]) (res' := (B x3)) [2, 0, 1] rfl enter82 (slices_ContainsFunc_steam_Stream_steam_StreamX_2_ok N p0 p1 p2 _ hf2) rfl (rn_agg (rnl_cons (.plain _ (nl_dat nl_GStream _)) (rnl_cons (rn_fn rnl_nil (rnl_cons (rnk_ref rfl) rnl_nil)) rnl_nil))) (slw_cons (srn_box (rnl_cons (rn_fn rnl_nil (rnl_cons (rnk_ref rfl) (rnl_cons (rnk_ref rfl) rnl_nil))) rnl_nil)) (slw_cons (srn_box (rnl_cons (.plain _ (nl_dat nl_GRow _)) rnl_nil)) (slw_cons (srn_box (rnl_cons (.plain _ (NLt.lit _)) rnl_nil)) slw_nil))) (slw_cons (srn_box (rnl_cons (rn_fn rnl_nil (rnl_cons (rnj_ref rfl) (rnl_cons (rnj_ref rfl) rnl_nil))) rnl_nil)) (slw_cons (srn_box (rnl_cons (.plain _ (nl_dat nl_GRow _)) rnl_nil)) (slw_cons (srn_box (rnl_cons (.plain _ (NLt.lit _)) rnl_nil)) slw_nil))) (.plain _ (NLt.lit _)) rfl rfl rfl,
    fun _ => astep_not rfl,
    fun _ => astep_assign rfl, trivial⟩
  refine awp_mor (mor_to (n := 9) (l' := [(4, (B ((!x3))))]) (own' := [(.own 1 [[(.dat 5 ((p1 : List GRow).map c_GRow))]]), (.own 1 [[I p2]])]) [(4, (B ((!x3))))] [0, 1] [(.own 1 [[(.dat 5 ((p1 : List GRow).map c_GRow))]]), (.own 1 [[I p2]])] hφ0 (by kernel_rfl) (by kernel_rfl) (by kernel_rfl) ⟨rfl, .rn (.plain _ (NLt.lit _)), trivial⟩ ⟨(spw_box ⟨(.rn (.plain _ (nl_dat nl_GRow _))), trivial⟩), (spw_box ⟨(.rn (.plain _ (NLt.lit _))), trivial⟩), trivial⟩) ?_
  refine awp_ret ?_
  obtain rfl := Option.some.inj h
  exact ⟨_, Mor.rfl, fin_of (vs := [(B ((!x3)))]) ⟨resOK_tmp (by kernel_rfl), trivial⟩ rfl (NLt.of0 (NLt.lit _)) (by kernel_rfl) (snl_cons (snl_box (nl_cons (NLt.of0 (nl_dat nl_GRow _)) nl_nil)) (snl_cons (snl_box (nl_cons (NLt.of0 (NLt.lit _)) nl_nil)) snl_nil))⟩

def steam_DeepestX_loop1 (N : Nat) (p0 : (List GRow)) (p1 : (List GStream)) (k9 : Int → Option (Int × Int)) : Nat → Int → Option (Int × Int)
  | 0, _ => none
  | n13 + 1, y11 =>
    bif (decide (y11 > 0)) then
      (steam_all_steam_StreamX_2 N p1 p0 y11).bind fun x16 =>
      bif x16 then
        steam_DeepestX_loop1 N p0 p1 k9 n13 (w64 (y11 - 1))
      else
        k9 (y11)
    else
      k9 (y11)
def steam_DeepestX (N : Nat) (p0 : (List GRow)) (p1 : (List GStream)) : Option (Int × Int) :=
  (steam_Table_validX N p0).bind fun x2 =>
  bif (!x2) then
    some (0, 1)
  else
    (steam_checkedX N p1).bind fun x5 =>
    bif (x5 != 0) then
      some (0, x5)
    else
      bif ((p1.length : Int) == 0) then
        some (0, 1)
      else
        joinK (fun y8 =>
            bif (y8 == (p0.length : Int)) then
              some (0, 7)
            else
              some (y8, 0)) fun k9 : Int → Option (Int × Int) =>
        steam_DeepestX_loop1 N p0 p1 k9 N (p0.length : Int)
set_option maxRecDepth 100000 in
set_option maxHeartbeats 4000000 in
theorem steam_DeepestX_ok (N : Nat) (p0 : (List GRow)) (p1 : (List GStream)) (r : (Int × Int)) (h : steam_DeepestX N p0 p1 = some r) : Spec Try.prog 18 [(.dat 5 (p0.map c_GRow)), (.dat 4 (p1.map c_GStream))] [] (.tup [(I r.1), (I r.2)]) [] := by
  refine spec_of_awp Try.func18 rfl 0 (Nat.le_of_ble_eq_true rfl) (fun X φ0 w0 hφ0 => ?_)
  unfold steam_DeepestX at h
  refine awp_reg [⟨[(.tmp 0, (.dat 5 ((p0 : List GRow).map c_GRow)))], [(0, .unused)], .ref 0 1 0 0, [(0, (.own 1 [[(.dat 5 ((p0 : List GRow).map c_GRow))]]))], false⟩,
    ⟨[(.const (.int .i64 0), I 0)], [], I 0, [], false⟩,
    ⟨[(.const (.int .i64 0), I 0)], [], I 0, [], false⟩] (by exact ⟨by kernel_rfl, by kernel_rfl⟩) ?_ ?_
  · exact ⟨fun _ => astep_box rfl (by rfl) rfl rfl,
    fun _ => astep_assign rfl,
    fun _ => astep_assign rfl, trivial⟩
  refine awp_seq ?_
  obtain ⟨x2, hf1, h⟩ := bind_out h
  refine awp_reg [⟨[(.tmp 2, .ref 0 1 0 0)], [(0, (.own 1 [[(.dat 5 ((p0 : List GRow).map c_GRow))]]))], (.dat 5 ((p0 : List GRow).map c_GRow)), [], false⟩,
    ⟨[(.func 56, (.fn (.func 56) [] [])), (.tmp 8, (.dat 5 ((p0 : List GRow).map c_GRow)))], [], B x2, [], false⟩,
    ⟨[(.tmp 9, B x2)], [], (B ((!x2))), [], false⟩] (by exact ⟨by kernel_rfl, by kernel_rfl⟩) ?_ ?_
  · exact ⟨fun _ => astep_load rfl ti30 (by decide) rfl (Nat.le_of_ble_eq_true rfl) rfl,
    fun _ => astep_pcall (first := []) (cap := []) (vs := [(.dat 5 ((p0 : List GRow).map c_GRow))]) rfl enter56 (steam_Table_validX_ok N p0 _ hf1) rfl rfl (nl_cons (nl_dat nl_GRow _) nl_nil) (NLt.lit _) rfl,
    fun _ => astep_not rfl, trivial⟩
  rcases Bool.eq_false_or_eq_true ((!x2)) with hc3 | hc3
  · replace h := bif_t hc3 h
    refine awp_ift hc3 (by kernel_rfl) ?_
    refine awp_reg [⟨[(.const (.int .i64 0), I 0)], [], I 0, [], false⟩,
    ⟨[(.const (.int .i64 1), I 1)], [], I 1, [], false⟩] (by exact ⟨by kernel_rfl, by kernel_rfl⟩) ?_ ?_
    · exact ⟨fun _ => astep_assign rfl,
    fun _ => astep_assign rfl, trivial⟩
    refine awp_ret ?_
    refine thenA_r ?_
    obtain rfl := Option.some.inj h
    exact ⟨⟨[I 0, I 1], ⟨resOK_tmp (by kernel_rfl), resOK_tmp (by kernel_rfl), trivial⟩, rfl⟩, (NLt.tup _ (nl_cons (NLt.lit _) (nl_cons (NLt.lit _) nl_nil))), Nat.le_refl _, fun n hn => absurd hn (Nat.not_lt_zero n)⟩
  · replace h := bif_f hc3 h
    refine awp_ifn hc3 (by kernel_rfl) ?_
    refine awp_skip ?_
    refine thenA_n ?_
    refine awp_seq ?_
    obtain ⟨x5, hf4, h⟩ := bind_out h
    refine awp_reg [⟨[(.tmp 1, (.dat 4 ((p1 : List GStream).map c_GStream)))], [], (.dat 4 ((p1 : List GStream).map c_GStream)), [], false⟩,
    ⟨[(.func 57, (.fn (.func 57) [] [])), (.tmp 11, (.dat 4 ((p1 : List GStream).map c_GStream)))], [], I x5, [], false⟩,
    ⟨[(.tmp 12, I x5)], [], I x5, [], false⟩] (by exact ⟨by kernel_rfl, by kernel_rfl⟩) ?_ ?_
    · exact ⟨fun _ => astep_move rfl,
    fun _ => astep_pcall (first := []) (cap := []) (vs := [(.dat 4 ((p1 : List GStream).map c_GStream))]) rfl enter57 (steam_checkedX_ok N p1 _ hf4) rfl rfl (nl_cons (nl_dat nl_GStream _) nl_nil) (NLt.lit _) rfl,
    fun _ => astep_assign rfl, trivial⟩
    refine awp_reg [⟨[(.tmp 6, I x5)], [], I x5, [], false⟩,
    ⟨[(.tmp 13, I x5), (.const (.int .i64 0), I 0)], [], (B ((x5 != 0))), [], false⟩] (by exact ⟨by kernel_rfl, by kernel_rfl⟩) ?_ ?_
    · exact ⟨fun _ => astep_move rfl,
    fun _ => astep_bin rfl rfl, trivial⟩
    rcases Bool.eq_false_or_eq_true ((x5 != 0)) with hc6 | hc6
    · replace h := bif_t hc6 h
      refine awp_ift hc6 (by kernel_rfl) ?_
      refine awp_reg [⟨[(.tmp 6, I x5)], [], I x5, [], false⟩,
    ⟨[(.const (.int .i64 0), I 0)], [], I 0, [], false⟩,
    ⟨[(.tmp 15, I x5)], [], I x5, [], false⟩] (by exact ⟨by kernel_rfl, by kernel_rfl⟩) ?_ ?_
      · exact ⟨fun _ => astep_move rfl,
    fun _ => astep_assign rfl,
    fun _ => astep_assign rfl, trivial⟩
      refine awp_ret ?_
      refine thenA_r ?_
      obtain rfl := Option.some.inj h
      exact ⟨⟨[I 0, I x5], ⟨resOK_tmp (by kernel_rfl), resOK_tmp (by kernel_rfl), trivial⟩, rfl⟩, (NLt.tup _ (nl_cons (NLt.lit _) (nl_cons (NLt.lit _) nl_nil))), Nat.le_refl _, fun n hn => absurd hn (Nat.not_lt_zero n)⟩
    · replace h := bif_f hc6 h
      refine awp_ifn hc6 (by kernel_rfl) ?_
      refine awp_skip ?_
      refine thenA_n ?_
      refine awp_seq ?_
      refine awp_reg [⟨[(.tmp 1, (.dat 4 ((p1 : List GStream).map c_GStream)))], [], (.dat 4 ((p1 : List GStream).map c_GStream)), [], false⟩,
    ⟨[(.tmp 16, (.dat 4 ((p1 : List GStream).map c_GStream)))], [], (I ((p1.length : Int))), [], false⟩,
    ⟨[(.tmp 17, (I ((p1.length : Int)))), (.const (.int .i64 0), I 0)], [], (B (((p1.length : Int) == 0))), [], false⟩] (by exact ⟨by kernel_rfl, by kernel_rfl⟩) ?_ ?_
      · exact ⟨fun _ => astep_move rfl,
    fun _ => astep_lenm (c := c_GStream) (l := p1) (astep_len rfl Try.underlying32 rfl),
    fun _ => astep_bin rfl rfl, trivial⟩
      rcases Bool.eq_false_or_eq_true (((p1.length : Int) == 0)) with hc7 | hc7
      · replace h := bif_t hc7 h
        refine awp_ift hc7 (by kernel_rfl) ?_
        refine awp_reg [⟨[(.const (.int .i64 0), I 0)], [], I 0, [], false⟩,
    ⟨[(.const (.int .i64 1), I 1)], [], I 1, [], false⟩] (by exact ⟨by kernel_rfl, by kernel_rfl⟩) ?_ ?_
        · exact ⟨fun _ => astep_assign rfl,
    fun _ => astep_assign rfl, trivial⟩
        refine awp_ret ?_
        refine thenA_r ?_
        obtain rfl := Option.some.inj h
        exact ⟨⟨[I 0, I 1], ⟨resOK_tmp (by kernel_rfl), resOK_tmp (by kernel_rfl), trivial⟩, rfl⟩, (NLt.tup _ (nl_cons (NLt.lit _) (nl_cons (NLt.lit _) nl_nil))), Nat.le_refl _, fun n hn => absurd hn (Nat.not_lt_zero n)⟩
      · replace h := bif_f hc7 h
        refine awp_ifn hc7 (by kernel_rfl) ?_
        refine awp_skip ?_
        refine thenA_n ?_
        refine awp_reg [⟨[(.tmp 2, .ref 0 1 0 0)], [(0, (.own 1 [[(.dat 5 ((p0 : List GRow).map c_GRow))]]))], (.dat 5 ((p0 : List GRow).map c_GRow)), [], false⟩,
    ⟨[(.tmp 19, (.dat 5 ((p0 : List GRow).map c_GRow)))], [], (I ((p0.length : Int))), [], false⟩,
    ⟨[], [(1, .unused)], .ref 1 1 0 0, [(1, .own 1 [[I 0]])], false⟩,
    ⟨[(.tmp 7, .ref 1 1 0 0), (.tmp 20, (I ((p0.length : Int))))], [(1, .own 1 [[I 0]])], .any, [(1, (.own 1 [[(I ((p0.length : Int)))]]))], false⟩] (by exact ⟨by kernel_rfl, by kernel_rfl⟩) ?_ ?_
        · exact ⟨fun _ => astep_load rfl ti30 (by decide) rfl (Nat.le_of_ble_eq_true rfl) rfl,
    fun _ => astep_lenm (c := c_GRow) (l := p0) (astep_len rfl Try.underlying30 rfl),
    fun _ => astep_alloc rfl tz3 rfl,
    fun _ => astep_store rfl ti3 (by rfl) rfl (Nat.le_of_ble_eq_true rfl) rfl, trivial⟩
        obtain ⟨k9, hk_k9, h⟩ := joinK_out h
        refine awp_join (τ := Int) (fun t => k9 t = some r) (fun y8 => ⟨mk 35 [(2, .ref 0 1 0 0), (7, .ref 1 1 0 0)], [(.own 1 [[(.dat 5 ((p0 : List GRow).map c_GRow))]]), (.own 1 [[I y8]])]⟩) (fun y8 h => ?_) ?_
        · subst hk_k9
          refine awp_seq ?_
          refine awp_reg [⟨[(.tmp 7, .ref 1 1 0 0)], [(1, .own 1 [[I y8]])], I y8, [], false⟩,
    ⟨[(.tmp 2, .ref 0 1 0 0)], [(0, (.own 1 [[(.dat 5 ((p0 : List GRow).map c_GRow))]]))], (.dat 5 ((p0 : List GRow).map c_GRow)), [], false⟩,
    ⟨[(.tmp 31, (.dat 5 ((p0 : List GRow).map c_GRow)))], [], (I ((p0.length : Int))), [], false⟩,
    ⟨[(.tmp 30, I y8), (.tmp 32, (I ((p0.length : Int))))], [], (B ((y8 == (p0.length : Int)))), [], false⟩] (by exact ⟨by kernel_rfl, by kernel_rfl⟩) ?_ ?_
          · exact ⟨fun _ => astep_load rfl ti3 (by decide) rfl (Nat.le_of_ble_eq_true rfl) rfl,
    fun _ => astep_load rfl ti30 (by decide) rfl (Nat.le_of_ble_eq_true rfl) rfl,
    fun _ => astep_lenm (c := c_GRow) (l := p0) (astep_len rfl Try.underlying30 rfl),
    fun _ => astep_bin rfl rfl, trivial⟩
          rcases Bool.eq_false_or_eq_true ((y8 == (p0.length : Int))) with hc10 | hc10
          · replace h := bif_t hc10 h
            refine awp_ift hc10 (by kernel_rfl) ?_
            refine awp_reg [⟨[(.const (.int .i64 0), I 0)], [], I 0, [], false⟩,
    ⟨[(.const (.int .i64 7), I 7)], [], I 7, [], false⟩] (by exact ⟨by kernel_rfl, by kernel_rfl⟩) ?_ ?_
            · exact ⟨fun _ => astep_assign rfl,
    fun _ => astep_assign rfl, trivial⟩
            refine awp_ret ?_
            refine thenA_r ?_
            obtain rfl := Option.some.inj h
            exact ⟨⟨[I 0, I 7], ⟨resOK_tmp (by kernel_rfl), resOK_tmp (by kernel_rfl), trivial⟩, rfl⟩, (NLt.tup _ (nl_cons (NLt.lit _) (nl_cons (NLt.lit _) nl_nil))), Nat.le_refl _, fun n hn => absurd hn (Nat.not_lt_zero n)⟩
          · replace h := bif_f hc10 h
            refine awp_ifn hc10 (by kernel_rfl) ?_
            refine awp_skip ?_
            refine thenA_n ?_
            refine awp_reg [⟨[(.tmp 7, .ref 1 1 0 0)], [(1, .own 1 [[I y8]])], I y8, [], false⟩,
    ⟨[(.tmp 34, I y8)], [], I y8, [], false⟩,
    ⟨[(.const (.int .i64 0), I 0)], [], I 0, [], false⟩] (by exact ⟨by kernel_rfl, by kernel_rfl⟩) ?_ ?_
            · exact ⟨fun _ => astep_load rfl ti3 (by decide) rfl (Nat.le_of_ble_eq_true rfl) rfl,
    fun _ => astep_assign rfl,
    fun _ => astep_assign rfl, trivial⟩
            refine awp_ret ?_
            obtain rfl := Option.some.inj h
            exact ⟨⟨[I y8, I 0], ⟨resOK_tmp (by kernel_rfl), resOK_tmp (by kernel_rfl), trivial⟩, rfl⟩, (NLt.tup _ (nl_cons (NLt.lit _) (nl_cons (NLt.lit _) nl_nil))), Nat.le_refl _, fun n hn => absurd hn (Nat.not_lt_zero n)⟩
        · skip
          refine awp_block ?_
          refine awp_mor (mor_to (n := 35) (l' := [(1, (.dat 4 ((p1 : List GStream).map c_GStream))), (2, .ref 0 1 0 0), (7, .ref 1 1 0 0)]) (own' := [(.own 1 [[(.dat 5 ((p0 : List GRow).map c_GRow))]]), (.own 1 [[(I ((p0.length : Int)))]])]) [(1, (.dat 4 ((p1 : List GStream).map c_GStream))), (2, .ref 0 1 0 0), (7, .ref 1 1 0 0)] [0, 1] [(.own 1 [[(.dat 5 ((p0 : List GRow).map c_GRow))]]), (.own 1 [[(I ((p0.length : Int)))]])] hφ0 (by kernel_rfl) (by kernel_rfl) (by kernel_rfl) ⟨rfl, .rn (.plain _ (nl_dat nl_GStream _)), rfl, .rn (rnq_ref rfl), rfl, .rn (rnq_ref rfl), trivial⟩ ⟨(spw_box ⟨(.rn (.plain _ (nl_dat nl_GRow _))), trivial⟩), (spw_box ⟨(.rn (.plain _ (NLt.lit _))), trivial⟩), trivial⟩) ?_
          refine awp_ind (τ := Int) (fun n t => steam_DeepestX_loop1 N p0 p1 k9 n t = some r) (fun y11 => ⟨mk 35 [(1, (.dat 4 ((p1 : List GStream).map c_GStream))), (2, .ref 0 1 0 0), (7, .ref 1 1 0 0)], [(.own 1 [[(.dat 5 ((p0 : List GRow).map c_GRow))]]), (.own 1 [[I y11]])]⟩) (fun t h => by rw [steam_DeepestX_loop1] at h; cases h) (fun n13 ih y11 h => ?_) N ((p0.length : Int)) h
          rw [steam_DeepestX_loop1] at h
          skip
          refine awp_seq ?_
          rcases Bool.eq_false_or_eq_true ((decide (y11 > 0))) with hb14 | hb14
          · replace h := bif_t hb14 h
            obtain ⟨x16, hf15, h⟩ := bind_out h
            refine awp_reg [⟨[(.tmp 7, .ref 1 1 0 0)], [(1, .own 1 [[I y11]])], I y11, [], false⟩,
    ⟨[(.tmp 21, I y11), (.const (.int .i64 0), I 0)], [], (B ((decide (y11 > 0)))), [], false⟩,
    ⟨[(.tmp 22, (B ((decide (y11 > 0)))))], [], B true, [], false⟩,
    ⟨[(.tmp 23, B true), (.tmp 1, (.dat 4 ((p1 : List GStream).map c_GStream)))], [], (.dat 4 ((p1 : List GStream).map c_GStream)), [], false⟩,
    ⟨[(.tmp 23, B true), (.tmp 2, .ref 0 1 0 0), (.tmp 7, .ref 1 1 0 0)], [], (.fn (.func 59) [] [.ref 0 1 0 0, .ref 1 1 0 0]), [], false⟩,
    ⟨[(.tmp 23, B true), (.func 58, (.fn (.func 58) [] [])), (.tmp 24, (.dat 4 ((p1 : List GStream).map c_GStream))), (.tmp 25, (.fn (.func 59) [] [.ref 0 1 0 0, .ref 1 1 0 0]))], [(0, (.own 1 [[(.dat 5 ((p0 : List GRow).map c_GRow))]])), (1, .own 1 [[I y11]])], B x16, [(0, (.own 1 [[(.dat 5 ((p0 : List GRow).map c_GRow))]])), (1, .own 1 [[I y11]])], false⟩,
    ⟨[(.tmp 23, B true), (.tmp 26, B x16), (.const (.bool false), B false)], [], B x16, [], false⟩] (by exact ⟨by kernel_rfl, by kernel_rfl⟩) ?_ ?_
            · exact ⟨fun _ => astep_load rfl ti3 (by decide) rfl (Nat.le_of_ble_eq_true rfl) rfl,
    fun _ => astep_bin rfl rfl,
    fun _ => astep_b hb14 (astep_move rfl),
    fun _ => astep_guard (astep_move rfl),
    fun _ => astep_guard (astep_func (fs := []) (cs := [.ref 0 1 0 0, .ref 1 1 0 0]) rfl rfl rfl rfl),
    fun _ => astep_guard (astep_callq (first := []) (cap := []) (vs := [(.dat 4 ((p1 : List GStream).map c_GStream)), (.fn (.func 59) [] [.ref 0 1 0 0, .ref 1 1 0 0])]) (σr := [(.own 1 [[(.dat 5 ((p0 : List GRow).map c_GRow))]]), (.own 1 [[I y11]])]) (σr' := [(.own 1 [[(.dat 5 ((p0 : List GRow).map c_GRow))]]), (.own 1 [[I y11]])]) (res' := (B x16)) [0, 1] rfl enter58 (steam_all_steam_StreamX_2_ok N p1 p0 y11 _ hf15) rfl (rn_agg (rnl_cons (.plain _ (nl_dat nl_GStream _)) (rnl_cons (rn_fn rnl_nil (rnl_cons (rnk_ref rfl) (rnl_cons (rnk_ref rfl) rnl_nil))) rnl_nil))) (slw_cons (srn_box (rnl_cons (.plain _ (nl_dat nl_GRow _)) rnl_nil)) (slw_cons (srn_box (rnl_cons (.plain _ (NLt.lit _)) rnl_nil)) slw_nil)) (slw_cons (srn_box (rnl_cons (.plain _ (nl_dat nl_GRow _)) rnl_nil)) (slw_cons (srn_box (rnl_cons (.plain _ (NLt.lit _)) rnl_nil)) slw_nil)) (.plain _ (NLt.lit _)) rfl rfl rfl),
    fun _ => astep_pick rfl rfl, trivial⟩
            rcases Bool.eq_false_or_eq_true (x16) with hc17 | hc17
            · replace h := bif_t hc17 h
              refine awp_ift hc17 (by kernel_rfl) ?_
              refine awp_skip ?_
              refine thenA_n ?_
              refine awp_block ?_
              refine awp_reg1 [⟨[(.tmp 7, .ref 1 1 0 0)], [(1, .own 1 [[I y11]])], I y11, [], false⟩,
    ⟨[(.tmp 28, I y11), (.const (.int .i64 1), I 1)], [], (I (w64 (y11 - 1))), [], false⟩,
    ⟨[(.tmp 7, .ref 1 1 0 0), (.tmp 29, (I (w64 (y11 - 1))))], [(1, .own 1 [[I y11]])], .any, [(1, (.own 1 [[(I (w64 (y11 - 1)))]]))], false⟩] (by exact ⟨by kernel_rfl, by kernel_rfl⟩) ?_ ?_
              · exact ⟨fun _ => astep_load rfl ti3 (by decide) rfl (Nat.le_of_ble_eq_true rfl) rfl,
    fun _ => astep_bin rfl rfl,
    fun _ => astep_store rfl ti3 (by rfl) rfl (Nat.le_of_ble_eq_true rfl) rfl, trivial⟩
              refine blockA_n ?_
              refine thenA_n ?_
              exact around_mor (mor_to (n := 35) (l' := [(1, (.dat 4 ((p1 : List GStream).map c_GStream))), (2, .ref 0 1 0 0), (7, .ref 1 1 0 0)]) (own' := [(.own 1 [[(.dat 5 ((p0 : List GRow).map c_GRow))]]), (.own 1 [[(I ((w64 (y11 - 1))))]])]) [(1, (.dat 4 ((p1 : List GStream).map c_GStream))), (2, .ref 0 1 0 0), (7, .ref 1 1 0 0)] [0, 1] [(.own 1 [[(.dat 5 ((p0 : List GRow).map c_GRow))]]), (.own 1 [[(I (w64 (y11 - 1)))]])] hφ0 (by kernel_rfl) (by kernel_rfl) (by kernel_rfl) ⟨rfl, .rn (.plain _ (nl_dat nl_GStream _)), rfl, .rn (rnq_ref rfl), rfl, .rn (rnq_ref rfl), trivial⟩ ⟨(spw_box ⟨(.rn (.plain _ (nl_dat nl_GRow _))), trivial⟩), (spw_box ⟨(.rn (.plain _ (NLt.lit _))), trivial⟩), trivial⟩) (ih (w64 (y11 - 1)) h)
            · replace h := bif_f hc17 h
              refine awp_ifn hc17 (by kernel_rfl) ?_
              refine awp_exit ?_
              refine thenA_x ?_
              refine thenA_x ?_
              refine blockA_e rfl ?_
              refine thenA_n ?_
              exact ⟨(y11), h, (mor_to (n := 35) (l' := [(2, .ref 0 1 0 0), (7, .ref 1 1 0 0)]) (own' := [(.own 1 [[(.dat 5 ((p0 : List GRow).map c_GRow))]]), (.own 1 [[I y11]])]) [(2, .ref 0 1 0 0), (7, .ref 1 1 0 0)] [0, 1] [(.own 1 [[(.dat 5 ((p0 : List GRow).map c_GRow))]]), (.own 1 [[I y11]])] hφ0 (by kernel_rfl) (by kernel_rfl) (by kernel_rfl) ⟨rfl, .rn (rnq_ref rfl), rfl, .rn (rnq_ref rfl), trivial⟩ ⟨(spw_box ⟨(.rn (.plain _ (nl_dat nl_GRow _))), trivial⟩), (spw_box ⟨(.rn (.plain _ (NLt.lit _))), trivial⟩), trivial⟩)⟩
          · replace h := bif_f hb14 h
            refine awp_reg [⟨[(.tmp 7, .ref 1 1 0 0)], [(1, .own 1 [[I y11]])], I y11, [], false⟩,
    ⟨[(.tmp 21, I y11), (.const (.int .i64 0), I 0)], [], (B ((decide (y11 > 0)))), [], false⟩,
    ⟨[(.tmp 22, (B ((decide (y11 > 0)))))], [], B false, [], false⟩,
    ⟨[(.tmp 23, B false)], [], (.lit undef), [], true⟩,
    ⟨[(.tmp 23, B false)], [], (.lit undef), [], true⟩,
    ⟨[(.tmp 23, B false)], [], (.lit undef), [], true⟩,
    ⟨[(.tmp 23, B false), (.tmp 26, (.lit undef)), (.const (.bool false), B false)], [], B false, [], false⟩] (by exact ⟨by kernel_rfl, by kernel_rfl⟩) ?_ ?_
            · exact ⟨fun _ => astep_load rfl ti3 (by decide) rfl (Nat.le_of_ble_eq_true rfl) rfl,
    fun _ => astep_bin rfl rfl,
    fun _ => astep_b hb14 (astep_move rfl),
    fun hs => (Bool.noConfusion hs),
    fun hs => (Bool.noConfusion hs),
    fun hs => (Bool.noConfusion hs),
    fun _ => astep_pick rfl rfl, trivial⟩
            refine awp_false (by kernel_rfl) ?_
            refine awp_exit ?_
            refine thenA_x ?_
            refine thenA_x ?_
            refine blockA_e rfl ?_
            refine thenA_n ?_
            exact ⟨(y11), h, (mor_to (n := 35) (l' := [(2, .ref 0 1 0 0), (7, .ref 1 1 0 0)]) (own' := [(.own 1 [[(.dat 5 ((p0 : List GRow).map c_GRow))]]), (.own 1 [[I y11]])]) [(2, .ref 0 1 0 0), (7, .ref 1 1 0 0)] [0, 1] [(.own 1 [[(.dat 5 ((p0 : List GRow).map c_GRow))]]), (.own 1 [[I y11]])] hφ0 (by kernel_rfl) (by kernel_rfl) (by kernel_rfl) ⟨rfl, .rn (rnq_ref rfl), rfl, .rn (rnq_ref rfl), trivial⟩ ⟨(spw_box ⟨(.rn (.plain _ (nl_dat nl_GRow _))), trivial⟩), (spw_box ⟨(.rn (.plain _ (NLt.lit _))), trivial⟩), trivial⟩)⟩

def steam_CheckTableX (N : Nat) (p0 : (List GRow)) : Option Int :=
  (steam_Table_validX N p0).bind fun x2 =>
  bif (!x2) then
    some 1
  else
    some 0
set_option maxRecDepth 100000 in
set_option maxHeartbeats 4000000 in
theorem steam_CheckTableX_ok (N : Nat) (p0 : (List GRow)) (r : Int) (h : steam_CheckTableX N p0 = some r) : Spec Try.prog 46 [(.dat 5 (p0.map c_GRow))] [] (I r) [] := by
  refine spec_of_awp Try.func46 rfl 0 (Nat.le_of_ble_eq_true rfl) (fun X φ0 w0 hφ0 => ?_)
  unfold steam_CheckTableX at h
  refine awp_reg [⟨[(.const (.int .i64 0), I 0)], [], I 0, [], false⟩] (by exact ⟨by kernel_rfl, by kernel_rfl⟩) ?_ ?_
  · exact ⟨fun _ => astep_assign rfl, trivial⟩
  refine awp_seq ?_
  obtain ⟨x2, hf1, h⟩ := bind_out h
  refine awp_reg [⟨[(.tmp 0, (.dat 5 ((p0 : List GRow).map c_GRow)))], [], (.dat 5 ((p0 : List GRow).map c_GRow)), [], false⟩,
    ⟨[(.func 56, (.fn (.func 56) [] [])), (.tmp 3, (.dat 5 ((p0 : List GRow).map c_GRow)))], [], B x2, [], false⟩,
    ⟨[(.tmp 4, B x2)], [], (B ((!x2))), [], false⟩] (by exact ⟨by kernel_rfl, by kernel_rfl⟩) ?_ ?_
  · exact ⟨fun _ => astep_move rfl,
    fun _ => astep_pcall (first := []) (cap := []) (vs := [(.dat 5 ((p0 : List GRow).map c_GRow))]) rfl enter56 (steam_Table_validX_ok N p0 _ hf1) rfl rfl (nl_cons (nl_dat nl_GRow _) nl_nil) (NLt.lit _) rfl,
    fun _ => astep_not rfl, trivial⟩
  rcases Bool.eq_false_or_eq_true ((!x2)) with hc3 | hc3
  · replace h := bif_t hc3 h
    refine awp_ift hc3 (by kernel_rfl) ?_
    refine awp_reg [⟨[(.const (.int .i64 1), I 1)], [], I 1, [], false⟩] (by exact ⟨by kernel_rfl, by kernel_rfl⟩) ?_ ?_
    · exact ⟨fun _ => astep_assign rfl, trivial⟩
    refine awp_ret ?_
    refine thenA_r ?_
    obtain rfl := Option.some.inj h
    exact ⟨⟨[I 1], ⟨resOK_tmp (by kernel_rfl), trivial⟩, rfl⟩, (NLt.lit _), Nat.le_refl _, fun n hn => absurd hn (Nat.not_lt_zero n)⟩
  · replace h := bif_f hc3 h
    refine awp_ifn hc3 (by kernel_rfl) ?_
    refine awp_skip ?_
    refine thenA_n ?_
    refine awp_reg [⟨[(.const (.int .i64 0), I 0)], [], I 0, [], false⟩] (by exact ⟨by kernel_rfl, by kernel_rfl⟩) ?_ ?_
    · exact ⟨fun _ => astep_assign rfl, trivial⟩
    refine awp_ret ?_
    obtain rfl := Option.some.inj h
    exact ⟨⟨[I 0], ⟨resOK_tmp (by kernel_rfl), trivial⟩, rfl⟩, (NLt.lit _), Nat.le_refl _, fun n hn => absurd hn (Nat.not_lt_zero n)⟩

def steam_CheckStreamX (N : Nat) (p0 : GStream) : Option Int :=
  (steam_Stream_validX N p0).bind fun x2 =>
  bif (!x2) then
    some 1
  else
    some 0
set_option maxRecDepth 100000 in
set_option maxHeartbeats 4000000 in
theorem steam_CheckStreamX_ok (N : Nat) (p0 : GStream) (r : Int) (h : steam_CheckStreamX N p0 = some r) : Spec Try.prog 29 [(.agg (c_GStream p0))] [] (I r) [] := by
  refine spec_of_awp Try.func29 rfl 0 (Nat.le_of_ble_eq_true rfl) (fun X φ0 w0 hφ0 => ?_)
  unfold steam_CheckStreamX at h
  refine awp_reg [⟨[(.tmp 0, (.agg [I p0.Mass, I p0.Heat, I p0.Silica, I p0.Gas]))], [(0, .unused)], .ref 0 4 0 0, [(0, .own 4 [[I p0.Mass, I p0.Heat, I p0.Silica, I p0.Gas]])], false⟩,
    ⟨[(.const (.int .i64 0), I 0)], [], I 0, [], false⟩] (by exact ⟨by kernel_rfl, by kernel_rfl⟩) ?_ ?_
  · exact ⟨fun _ => astep_box rfl (by rfl) rfl rfl,
    fun _ => astep_assign rfl, trivial⟩
  refine awp_seq ?_
  obtain ⟨x2, hf1, h⟩ := bind_out h
  refine awp_reg [⟨[(.tmp 1, .ref 0 4 0 0)], [(0, .own 4 [[I p0.Mass, I p0.Heat, I p0.Silica, I p0.Gas]])], (.agg [I p0.Mass, I p0.Heat, I p0.Silica, I p0.Gas]), [], false⟩,
    ⟨[(.func 63, (.fn (.func 63) [] [])), (.tmp 3, (.agg [I p0.Mass, I p0.Heat, I p0.Silica, I p0.Gas]))], [], B x2, [], false⟩,
    ⟨[(.tmp 4, B x2)], [], (B ((!x2))), [], false⟩] (by exact ⟨by kernel_rfl, by kernel_rfl⟩) ?_ ?_
  · exact ⟨fun _ => astep_load rfl ti42 (by decide) rfl (Nat.le_of_ble_eq_true rfl) rfl,
    fun _ => astep_pcall (first := []) (cap := []) (vs := [(.agg [I p0.Mass, I p0.Heat, I p0.Silica, I p0.Gas])]) rfl enter63 (steam_Stream_validX_ok N p0 _ hf1) rfl rfl (nl_cons (NLt.agg _ (nl_cons (NLt.lit _) (nl_cons (NLt.lit _) (nl_cons (NLt.lit _) (nl_cons (NLt.lit _) nl_nil))))) nl_nil) (NLt.lit _) rfl,
    fun _ => astep_not rfl, trivial⟩
  rcases Bool.eq_false_or_eq_true ((!x2)) with hc3 | hc3
  · replace h := bif_t hc3 h
    refine awp_ift hc3 (by kernel_rfl) ?_
    refine awp_reg [⟨[(.const (.int .i64 1), I 1)], [], I 1, [], false⟩] (by exact ⟨by kernel_rfl, by kernel_rfl⟩) ?_ ?_
    · exact ⟨fun _ => astep_assign rfl, trivial⟩
    refine awp_ret ?_
    refine thenA_r ?_
    obtain rfl := Option.some.inj h
    exact ⟨⟨[I 1], ⟨resOK_tmp (by kernel_rfl), trivial⟩, rfl⟩, (NLt.lit _), Nat.le_refl _, fun n hn => absurd hn (Nat.not_lt_zero n)⟩
  · replace h := bif_f hc3 h
    refine awp_ifn hc3 (by kernel_rfl) ?_
    refine awp_skip ?_
    refine thenA_n ?_
    refine awp_reg [⟨[(.const (.int .i64 0), I 0)], [], I 0, [], false⟩] (by exact ⟨by kernel_rfl, by kernel_rfl⟩) ?_ ?_
    · exact ⟨fun _ => astep_assign rfl, trivial⟩
    refine awp_ret ?_
    obtain rfl := Option.some.inj h
    exact ⟨⟨[I 0], ⟨resOK_tmp (by kernel_rfl), trivial⟩, rfl⟩, (NLt.lit _), Nat.le_refl _, fun n hn => absurd hn (Nat.not_lt_zero n)⟩

end Go.Proofs.Ytenpbiineblcjaa
