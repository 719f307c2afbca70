/-
  Functions of the program: what they compute, as plain functions, and that they do. No conditions.
-/
import Derived.Test.YtenpbiineblcjaaYt
namespace Go.Proofs.Ytenpbiineblcjaa
open Go.RowKit

def law01_ThreeX (_N : Nat) : Option (List GRow) :=
  some ([(⟨100, 101, 419, 2676, 150⟩ : GRow), (⟨150, 476, 632, 2746, 300⟩ : GRow), (⟨200, 1555, 852, 2793, 600⟩ : GRow)])
set_option maxRecDepth 100000 in
set_option maxHeartbeats 4000000 in
theorem law01_ThreeX_ok (N : Nat) (r : (List GRow)) (h : law01_ThreeX N = some r) : Spec Try.prog 54 [] [] (.dat 5 (r.map c_GRow)) [] := by
  refine spec_of_awp Try.func54 rfl 0 (Nat.le_of_ble_eq_true rfl) (fun X φ0 w0 hφ0 => ?_)
  unfold law01_ThreeX at h
  refine awp_reg [⟨[((.const (.slice none 0 0)), nilS)], [], nilS, [], false⟩] (by exact ⟨by kernel_rfl, by kernel_rfl⟩) ?_ ?_
  · exact ⟨fun _ => astep_assign rfl, trivial⟩
  refine awp_reg [⟨[(.const (.int .i64 100), I 100), (.const (.int .i64 101), I 101), (.const (.int .i64 419), I 419), (.const (.int .i64 2676), I 2676), (.const (.int .i64 150), I 150)], [], (.agg [I 100, I 101, I 419, I 2676, I 150]), [], false⟩,
    ⟨[(.const (.int .i64 150), I 150), (.const (.int .i64 476), I 476), (.const (.int .i64 632), I 632), (.const (.int .i64 2746), I 2746), (.const (.int .i64 300), I 300)], [], (.agg [I 150, I 476, I 632, I 2746, I 300]), [], false⟩,
    ⟨[(.const (.int .i64 200), I 200), (.const (.int .i64 1555), I 1555), (.const (.int .i64 852), I 852), (.const (.int .i64 2793), I 2793), (.const (.int .i64 600), I 600)], [], (.agg [I 200, I 1555, I 852, I 2793, I 600]), [], false⟩,
    ⟨[(.tmp 1, (.agg [I 100, I 101, I 419, I 2676, I 150])), (.tmp 2, (.agg [I 150, I 476, I 632, I 2746, I 300])), (.tmp 3, (.agg [I 200, I 1555, I 852, I 2793, I 600]))], [], (.dat 5 (([(⟨100, 101, 419, 2676, 150⟩ : GRow), (⟨150, 476, 632, 2746, 300⟩ : GRow), (⟨200, 1555, 852, 2793, 600⟩ : GRow)] : List GRow).map c_GRow)), [], false⟩,
    ⟨[(.tmp 4, (.dat 5 (([(⟨100, 101, 419, 2676, 150⟩ : GRow), (⟨150, 476, 632, 2746, 300⟩ : GRow), (⟨200, 1555, 852, 2793, 600⟩ : GRow)] : List GRow).map c_GRow)))], [], (.dat 5 (([(⟨100, 101, 419, 2676, 150⟩ : GRow), (⟨150, 476, 632, 2746, 300⟩ : GRow), (⟨200, 1555, 852, 2793, 600⟩ : GRow)] : List GRow).map c_GRow)), [], false⟩] (by exact ⟨by kernel_rfl, by kernel_rfl⟩) ?_ ?_
  · exact ⟨fun _ => astep_build (vs := [I 100, I 101, I 419, I 2676, I 150]) rfl ts115 tz115 rfl (by rfl) rfl,
    fun _ => astep_build (vs := [I 150, I 476, I 632, I 2746, I 300]) rfl ts115 tz115 rfl (by rfl) rfl,
    fun _ => astep_build (vs := [I 200, I 1555, I 852, I 2793, I 600]) rfl ts115 tz115 rfl (by rfl) rfl,
    fun _ => astep_bslice (vs := [(.agg [I 100, I 101, I 419, I 2676, I 150]), (.agg [I 150, I 476, I 632, I 2746, I 300]), (.agg [I 200, I 1555, I 852, I 2793, I 600])]) rfl Try.underlying30 ti115 tz115 rfl (by decide) rfl (by decide) (by rfl) (by rfl) (by rfl) rfl,
    fun _ => astep_assign rfl, trivial⟩
  refine awp_ret ?_
  obtain rfl := Option.some.inj h
  exact ⟨⟨[(.dat 5 (([(⟨100, 101, 419, 2676, 150⟩ : GRow), (⟨150, 476, 632, 2746, 300⟩ : GRow), (⟨200, 1555, 852, 2793, 600⟩ : GRow)] : List GRow).map c_GRow))], ⟨resOK_tmp (by kernel_rfl), trivial⟩, rfl⟩, (nl_dat nl_GRow _), Nat.le_refl _, fun n hn => absurd hn (Nat.not_lt_zero n)⟩

def law01_HotX (_N : Nat) : Option GStream :=
  some (⟨1000, 852000, 250000, 50⟩ : GStream)
set_option maxRecDepth 100000 in
set_option maxHeartbeats 4000000 in
theorem law01_HotX_ok (N : Nat) (r : GStream) (h : law01_HotX N = some r) : Spec Try.prog 55 [] [] (.agg (c_GStream r)) [] := by
  refine spec_of_awp Try.func55 rfl 0 (Nat.le_of_ble_eq_true rfl) (fun X φ0 w0 hφ0 => ?_)
  unfold law01_HotX at h
  refine awp_reg [⟨[], [(0, .unused)], .ref 0 4 0 0, [(0, .own 4 [[I 0, I 0, I 0, I 0]])], false⟩] (by exact ⟨by kernel_rfl, by kernel_rfl⟩) ?_ ?_
  · exact ⟨fun _ => astep_alloc rfl tz42 rfl, trivial⟩
  refine awp_reg [⟨[(.const (.int .i64 1000), I 1000), (.const (.int .i64 852000), I 852000), (.const (.int .i64 250000), I 250000), (.const (.int .i64 50), I 50)], [], (.agg [I 1000, I 852000, I 250000, I 50]), [], false⟩,
    ⟨[(.tmp 0, .ref 0 4 0 0), (.tmp 1, (.agg [I 1000, I 852000, I 250000, I 50]))], [(0, .own 4 [[I 0, I 0, I 0, I 0]])], .any, [(0, .own 4 [[I 1000, I 852000, I 250000, I 50]])], false⟩] (by exact ⟨by kernel_rfl, by kernel_rfl⟩) ?_ ?_
  · exact ⟨fun _ => astep_build (vs := [I 1000, I 852000, I 250000, I 50]) rfl ts42 tz42 rfl (by rfl) rfl,
    fun _ => astep_store rfl ti42 (by rfl) rfl (Nat.le_of_ble_eq_true rfl) rfl, trivial⟩
  refine awp_ret ?_
  obtain rfl := Option.some.inj h
  exact ⟨⟨[(.agg [I 1000, I 852000, I 250000, I 50])], ⟨resOK_cell (n := 0) (m := 4) (j := 0) (i := 0) (xs := [[I 1000, I 852000, I 250000, I 50]]) (by kernel_rfl) (by kernel_rfl) ti42 (by decide) rfl (Nat.le_of_ble_eq_true rfl) rfl, trivial⟩, rfl⟩, (NLt.agg _ (nl_cons (NLt.lit _) (nl_cons (NLt.lit _) (nl_cons (NLt.lit _) (nl_cons (NLt.lit _) nl_nil))))), Nat.le_refl _, fun n hn => absurd hn (Nat.not_lt_zero n)⟩

def steam_withinX (_N : Nat) (p0 : Int) (p1 : Int) (p2 : Int) : Option Bool :=
  bif (decide (p1 ≤ p0)) then
    some (decide (p0 ≤ p2))
  else
    some false
set_option maxRecDepth 100000 in
set_option maxHeartbeats 4000000 in
theorem steam_withinX_ok (N : Nat) (p0 : Int) (p1 : Int) (p2 : Int) (r : Bool) (h : steam_withinX N p0 p1 p2 = some r) : Spec Try.prog 65 [(I p0), (I p1), (I p2)] [] (B r) [] := by
  refine spec_of_awp Try.func65 rfl 0 (Nat.le_of_ble_eq_true rfl) (fun X φ0 w0 hφ0 => ?_)
  unfold steam_withinX at h
  refine awp_reg [⟨[(.const (.bool false), B false)], [], B false, [], false⟩] (by exact ⟨by kernel_rfl, by kernel_rfl⟩) ?_ ?_
  · exact ⟨fun _ => astep_assign rfl, trivial⟩
  rcases Bool.eq_false_or_eq_true ((decide (p1 ≤ p0))) with hb1 | hb1
  · replace h := bif_t hb1 h
    refine awp_reg [⟨[(.tmp 1, I p1)], [], I p1, [], false⟩,
    ⟨[(.tmp 0, I p0)], [], I p0, [], false⟩,
    ⟨[(.tmp 7, I p1), (.tmp 8, I p0)], [], (B ((decide (p1 ≤ p0)))), [], false⟩,
    ⟨[(.tmp 9, (B ((decide (p1 ≤ p0)))))], [], B true, [], false⟩,
    ⟨[(.tmp 10, B true), (.tmp 0, I p0)], [], I p0, [], false⟩,
    ⟨[(.tmp 10, B true), (.tmp 2, I p2)], [], I p2, [], false⟩,
    ⟨[(.tmp 10, B true), (.tmp 11, I p0), (.tmp 12, I p2)], [], (B ((decide (p0 ≤ p2)))), [], false⟩,
    ⟨[(.tmp 10, B true), (.tmp 13, (B ((decide (p0 ≤ p2))))), (.const (.bool false), B false)], [], (B ((decide (p0 ≤ p2)))), [], false⟩,
    ⟨[(.tmp 14, (B ((decide (p0 ≤ p2)))))], [], (B ((decide (p0 ≤ p2)))), [], false⟩] (by exact ⟨by kernel_rfl, by kernel_rfl⟩) ?_ ?_
    · exact ⟨fun _ => astep_move rfl,
    fun _ => astep_move rfl,
    fun _ => astep_bin rfl rfl,
    fun _ => astep_b hb1 (astep_move rfl),
    fun _ => astep_guard (astep_move rfl),
    fun _ => astep_guard (astep_move rfl),
    fun _ => astep_guard (astep_bin rfl rfl),
    fun _ => astep_pick rfl rfl,
    fun _ => astep_assign rfl, trivial⟩
    refine awp_ret ?_
    obtain rfl := Option.some.inj h
    exact ⟨⟨[(B ((decide (p0 ≤ p2))))], ⟨resOK_tmp (by kernel_rfl), trivial⟩, rfl⟩, (NLt.lit _), Nat.le_refl _, fun n hn => absurd hn (Nat.not_lt_zero n)⟩
  · replace h := bif_f hb1 h
    refine awp_reg [⟨[(.tmp 1, I p1)], [], I p1, [], false⟩,
    ⟨[(.tmp 0, I p0)], [], I p0, [], false⟩,
    ⟨[(.tmp 7, I p1), (.tmp 8, I p0)], [], (B ((decide (p1 ≤ p0)))), [], false⟩,
    ⟨[(.tmp 9, (B ((decide (p1 ≤ p0)))))], [], B false, [], false⟩,
    ⟨[(.tmp 10, B false)], [], (.lit undef), [], true⟩,
    ⟨[(.tmp 10, B false)], [], (.lit undef), [], true⟩,
    ⟨[(.tmp 10, B false)], [], (.lit undef), [], true⟩,
    ⟨[(.tmp 10, B false), (.tmp 13, (.lit undef)), (.const (.bool false), B false)], [], B false, [], false⟩,
    ⟨[(.tmp 14, B false)], [], B false, [], false⟩] (by exact ⟨by kernel_rfl, by kernel_rfl⟩) ?_ ?_
    · exact ⟨fun _ => astep_move rfl,
    fun _ => astep_move rfl,
    fun _ => astep_bin rfl rfl,
    fun _ => astep_b hb1 (astep_move rfl),
    fun hs => (Bool.noConfusion hs),
    fun hs => (Bool.noConfusion hs),
    fun hs => (Bool.noConfusion hs),
    fun _ => astep_pick rfl rfl,
    fun _ => astep_assign rfl, trivial⟩
    refine awp_ret ?_
    obtain rfl := Option.some.inj h
    exact ⟨⟨[B false], ⟨resOK_tmp (by kernel_rfl), trivial⟩, rfl⟩, (NLt.lit _), Nat.le_refl _, fun n hn => absurd hn (Nat.not_lt_zero n)⟩

def steam_Row_aloneX (N : Nat) (p0 : GRow) : Option Bool :=
  (steam_withinX N p0.T 0 400).bind fun x2 =>
  bif x2 then
    (steam_withinX N p0.P 1 10000).bind fun x5 =>
    bif x5 then
      (steam_withinX N p0.Liquid 0 4000).bind fun x8 =>
      bif x8 then
        (steam_withinX N p0.Silica 0 2000).bind fun x11 =>
        bif x11 then
          bif (decide (p0.Liquid < p0.Vapour)) then
            some (decide (p0.Vapour ≤ 4000))
          else
            some false
        else
          some false
      else
        some false
    else
      some false
  else
    some false
set_option maxRecDepth 100000 in
set_option maxHeartbeats 4000000 in
theorem steam_Row_aloneX_ok (N : Nat) (p0 : GRow) (r : Bool) (h : steam_Row_aloneX N p0 = some r) : Spec Try.prog 81 [(.agg (c_GRow p0))] [] (B r) [] := by
  refine spec_of_awp Try.func81 rfl 0 (Nat.le_of_ble_eq_true rfl) (fun X φ0 w0 hφ0 => ?_)
  unfold steam_Row_aloneX at h
  refine awp_reg [⟨[(.tmp 0, (.agg [I p0.T, I p0.P, I p0.Liquid, I p0.Vapour, I p0.Silica]))], [(0, .unused)], .ref 0 5 0 0, [(0, .own 5 [[I p0.T, I p0.P, I p0.Liquid, I p0.Vapour, I p0.Silica]])], false⟩,
    ⟨[(.const (.bool false), B false)], [], B false, [], false⟩] (by exact ⟨by kernel_rfl, by kernel_rfl⟩) ?_ ?_
  · exact ⟨fun _ => astep_box rfl (by rfl) rfl rfl,
    fun _ => astep_assign rfl, trivial⟩
  obtain ⟨x2, hf1, h⟩ := bind_out h
  rcases Bool.eq_false_or_eq_true (x2) with hb3 | hb3
  · replace h := bif_t hb3 h
    obtain ⟨x5, hf4, h⟩ := bind_out h
    rcases Bool.eq_false_or_eq_true (x5) with hb6 | hb6
    · replace h := bif_t hb6 h
      obtain ⟨x8, hf7, h⟩ := bind_out h
      rcases Bool.eq_false_or_eq_true (x8) with hb9 | hb9
      · replace h := bif_t hb9 h
        obtain ⟨x11, hf10, h⟩ := bind_out h
        rcases Bool.eq_false_or_eq_true (x11) with hb12 | hb12
        · replace h := bif_t hb12 h
          rcases Bool.eq_false_or_eq_true ((decide (p0.Liquid < p0.Vapour))) with hb13 | hb13
          · replace h := bif_t hb13 h
            refine awp_reg [⟨[(.tmp 1, .ref 0 5 0 0)], [(0, .own 5 [[I p0.T, I p0.P, I p0.Liquid, I p0.Vapour, I p0.Silica]])], .ref 0 5 0 0, [], false⟩,
    ⟨[(.tmp 3, .ref 0 5 0 0)], [(0, .own 5 [[I p0.T, I p0.P, I p0.Liquid, I p0.Vapour, I p0.Silica]])], I p0.T, [], false⟩,
    ⟨[(.func 65, (.fn (.func 65) [] [])), (.tmp 4, I p0.T), (.const (.int .i64 0), I 0), (.const (.int .i64 400), I 400)], [], B x2, [], false⟩,
    ⟨[(.tmp 5, B x2)], [], B true, [], false⟩,
    ⟨[(.tmp 6, B true), (.tmp 1, .ref 0 5 0 0)], [(0, .own 5 [[I p0.T, I p0.P, I p0.Liquid, I p0.Vapour, I p0.Silica]])], .ref 0 5 0 1, [], false⟩,
    ⟨[(.tmp 6, B true), (.tmp 7, .ref 0 5 0 1)], [(0, .own 5 [[I p0.T, I p0.P, I p0.Liquid, I p0.Vapour, I p0.Silica]])], I p0.P, [], false⟩,
    ⟨[(.tmp 6, B true), (.func 65, (.fn (.func 65) [] [])), (.tmp 8, I p0.P), (.const (.int .i64 1), I 1), (.const (.int .i64 10000), I 10000)], [], B x5, [], false⟩,
    ⟨[(.tmp 6, B true), (.tmp 9, B x5), (.const (.bool false), B false)], [], B x5, [], false⟩,
    ⟨[(.tmp 10, B x5)], [], B true, [], false⟩,
    ⟨[(.tmp 11, B true), (.tmp 1, .ref 0 5 0 0)], [(0, .own 5 [[I p0.T, I p0.P, I p0.Liquid, I p0.Vapour, I p0.Silica]])], .ref 0 5 0 2, [], false⟩,
    ⟨[(.tmp 11, B true), (.tmp 12, .ref 0 5 0 2)], [(0, .own 5 [[I p0.T, I p0.P, I p0.Liquid, I p0.Vapour, I p0.Silica]])], I p0.Liquid, [], false⟩,
    ⟨[(.tmp 11, B true), (.func 65, (.fn (.func 65) [] [])), (.tmp 13, I p0.Liquid), (.const (.int .i64 0), I 0), (.const (.int .i64 4000), I 4000)], [], B x8, [], false⟩,
    ⟨[(.tmp 11, B true), (.tmp 14, B x8), (.const (.bool false), B false)], [], B x8, [], false⟩,
    ⟨[(.tmp 15, B x8)], [], B true, [], false⟩,
    ⟨[(.tmp 16, B true), (.tmp 1, .ref 0 5 0 0)], [(0, .own 5 [[I p0.T, I p0.P, I p0.Liquid, I p0.Vapour, I p0.Silica]])], .ref 0 5 0 4, [], false⟩,
    ⟨[(.tmp 16, B true), (.tmp 17, .ref 0 5 0 4)], [(0, .own 5 [[I p0.T, I p0.P, I p0.Liquid, I p0.Vapour, I p0.Silica]])], I p0.Silica, [], false⟩,
    ⟨[(.tmp 16, B true), (.func 65, (.fn (.func 65) [] [])), (.tmp 18, I p0.Silica), (.const (.int .i64 0), I 0), (.const (.int .i64 2000), I 2000)], [], B x11, [], false⟩,
    ⟨[(.tmp 16, B true), (.tmp 19, B x11), (.const (.bool false), B false)], [], B x11, [], false⟩,
    ⟨[(.tmp 20, B x11)], [], B true, [], false⟩,
    ⟨[(.tmp 21, B true), (.tmp 1, .ref 0 5 0 0)], [(0, .own 5 [[I p0.T, I p0.P, I p0.Liquid, I p0.Vapour, I p0.Silica]])], .ref 0 5 0 2, [], false⟩,
    ⟨[(.tmp 21, B true), (.tmp 22, .ref 0 5 0 2)], [(0, .own 5 [[I p0.T, I p0.P, I p0.Liquid, I p0.Vapour, I p0.Silica]])], I p0.Liquid, [], false⟩,
    ⟨[(.tmp 21, B true), (.tmp 1, .ref 0 5 0 0)], [(0, .own 5 [[I p0.T, I p0.P, I p0.Liquid, I p0.Vapour, I p0.Silica]])], .ref 0 5 0 3, [], false⟩,
    ⟨[(.tmp 21, B true), (.tmp 24, .ref 0 5 0 3)], [(0, .own 5 [[I p0.T, I p0.P, I p0.Liquid, I p0.Vapour, I p0.Silica]])], I p0.Vapour, [], false⟩,
    ⟨[(.tmp 21, B true), (.tmp 23, I p0.Liquid), (.tmp 25, I p0.Vapour)], [], (B ((decide (p0.Liquid < p0.Vapour)))), [], false⟩,
    ⟨[(.tmp 21, B true), (.tmp 26, (B ((decide (p0.Liquid < p0.Vapour))))), (.const (.bool false), B false)], [], (B ((decide (p0.Liquid < p0.Vapour)))), [], false⟩,
    ⟨[(.tmp 27, (B ((decide (p0.Liquid < p0.Vapour)))))], [], B true, [], false⟩,
    ⟨[(.tmp 28, B true), (.tmp 1, .ref 0 5 0 0)], [(0, .own 5 [[I p0.T, I p0.P, I p0.Liquid, I p0.Vapour, I p0.Silica]])], .ref 0 5 0 3, [], false⟩,
    ⟨[(.tmp 28, B true), (.tmp 29, .ref 0 5 0 3)], [(0, .own 5 [[I p0.T, I p0.P, I p0.Liquid, I p0.Vapour, I p0.Silica]])], I p0.Vapour, [], false⟩,
    ⟨[(.tmp 28, B true), (.tmp 30, I p0.Vapour), (.const (.int .i64 4000), I 4000)], [], (B ((decide (p0.Vapour ≤ 4000)))), [], false⟩,
    ⟨[(.tmp 28, B true), (.tmp 31, (B ((decide (p0.Vapour ≤ 4000))))), (.const (.bool false), B false)], [], (B ((decide (p0.Vapour ≤ 4000)))), [], false⟩,
    ⟨[(.tmp 32, (B ((decide (p0.Vapour ≤ 4000)))))], [], (B ((decide (p0.Vapour ≤ 4000)))), [], false⟩] (by exact ⟨by kernel_rfl, by kernel_rfl⟩) ?_ ?_
            · exact ⟨fun _ => astep_faddr rfl Try.underlying115 rfl rfl ti3 (by decide) rfl,
    fun _ => astep_load rfl ti3 (by decide) rfl (Nat.le_of_ble_eq_true rfl) rfl,
    fun _ => astep_pcall (first := []) (cap := []) (vs := [I p0.T, I 0, I 400]) rfl enter65 (steam_withinX_ok N p0.T 0 400 _ hf1) rfl rfl (nl_cons (NLt.lit _) (nl_cons (NLt.lit _) (nl_cons (NLt.lit _) nl_nil))) (NLt.lit _) rfl,
    fun _ => astep_b hb3 (astep_move rfl),
    fun _ => astep_guard (astep_faddr rfl Try.underlying115 rfl rfl ti3 (by decide) rfl),
    fun _ => astep_guard (astep_load rfl ti3 (by decide) rfl (Nat.le_of_ble_eq_true rfl) rfl),
    fun _ => astep_guard (astep_pcall (first := []) (cap := []) (vs := [I p0.P, I 1, I 10000]) rfl enter65 (steam_withinX_ok N p0.P 1 10000 _ hf4) rfl rfl (nl_cons (NLt.lit _) (nl_cons (NLt.lit _) (nl_cons (NLt.lit _) nl_nil))) (NLt.lit _) rfl),
    fun _ => astep_pick rfl rfl,
    fun _ => astep_b hb6 (astep_move rfl),
    fun _ => astep_guard (astep_faddr rfl Try.underlying115 rfl rfl ti3 (by decide) rfl),
    fun _ => astep_guard (astep_load rfl ti3 (by decide) rfl (Nat.le_of_ble_eq_true rfl) rfl),
    fun _ => astep_guard (astep_pcall (first := []) (cap := []) (vs := [I p0.Liquid, I 0, I 4000]) rfl enter65 (steam_withinX_ok N p0.Liquid 0 4000 _ hf7) rfl rfl (nl_cons (NLt.lit _) (nl_cons (NLt.lit _) (nl_cons (NLt.lit _) nl_nil))) (NLt.lit _) rfl),
    fun _ => astep_pick rfl rfl,
    fun _ => astep_b hb9 (astep_move rfl),
    fun _ => astep_guard (astep_faddr rfl Try.underlying115 rfl rfl ti3 (by decide) rfl),
    fun _ => astep_guard (astep_load rfl ti3 (by decide) rfl (Nat.le_of_ble_eq_true rfl) rfl),
    fun _ => astep_guard (astep_pcall (first := []) (cap := []) (vs := [I p0.Silica, I 0, I 2000]) rfl enter65 (steam_withinX_ok N p0.Silica 0 2000 _ hf10) rfl rfl (nl_cons (NLt.lit _) (nl_cons (NLt.lit _) (nl_cons (NLt.lit _) nl_nil))) (NLt.lit _) rfl),
    fun _ => astep_pick rfl rfl,
    fun _ => astep_b hb12 (astep_move rfl),
    fun _ => astep_guard (astep_faddr rfl Try.underlying115 rfl rfl ti3 (by decide) rfl),
    fun _ => astep_guard (astep_load rfl ti3 (by decide) rfl (Nat.le_of_ble_eq_true rfl) rfl),
    fun _ => astep_guard (astep_faddr rfl Try.underlying115 rfl rfl ti3 (by decide) rfl),
    fun _ => astep_guard (astep_load rfl ti3 (by decide) rfl (Nat.le_of_ble_eq_true rfl) rfl),
    fun _ => astep_guard (astep_bin rfl rfl),
    fun _ => astep_pick rfl rfl,
    fun _ => astep_b hb13 (astep_move rfl),
    fun _ => astep_guard (astep_faddr rfl Try.underlying115 rfl rfl ti3 (by decide) rfl),
    fun _ => astep_guard (astep_load rfl ti3 (by decide) rfl (Nat.le_of_ble_eq_true rfl) rfl),
    fun _ => astep_guard (astep_bin rfl rfl),
    fun _ => astep_pick rfl rfl,
    fun _ => astep_assign rfl, trivial⟩
            refine awp_ret ?_
            obtain rfl := Option.some.inj h
            exact ⟨⟨[(B ((decide (p0.Vapour ≤ 4000))))], ⟨resOK_tmp (by kernel_rfl), trivial⟩, rfl⟩, (NLt.lit _), Nat.le_refl _, fun n hn => absurd hn (Nat.not_lt_zero n)⟩
          · replace h := bif_f hb13 h
            refine awp_reg [⟨[(.tmp 1, .ref 0 5 0 0)], [(0, .own 5 [[I p0.T, I p0.P, I p0.Liquid, I p0.Vapour, I p0.Silica]])], .ref 0 5 0 0, [], false⟩,
    ⟨[(.tmp 3, .ref 0 5 0 0)], [(0, .own 5 [[I p0.T, I p0.P, I p0.Liquid, I p0.Vapour, I p0.Silica]])], I p0.T, [], false⟩,
    ⟨[(.func 65, (.fn (.func 65) [] [])), (.tmp 4, I p0.T), (.const (.int .i64 0), I 0), (.const (.int .i64 400), I 400)], [], B x2, [], false⟩,
    ⟨[(.tmp 5, B x2)], [], B true, [], false⟩,
    ⟨[(.tmp 6, B true), (.tmp 1, .ref 0 5 0 0)], [(0, .own 5 [[I p0.T, I p0.P, I p0.Liquid, I p0.Vapour, I p0.Silica]])], .ref 0 5 0 1, [], false⟩,
    ⟨[(.tmp 6, B true), (.tmp 7, .ref 0 5 0 1)], [(0, .own 5 [[I p0.T, I p0.P, I p0.Liquid, I p0.Vapour, I p0.Silica]])], I p0.P, [], false⟩,
    ⟨[(.tmp 6, B true), (.func 65, (.fn (.func 65) [] [])), (.tmp 8, I p0.P), (.const (.int .i64 1), I 1), (.const (.int .i64 10000), I 10000)], [], B x5, [], false⟩,
    ⟨[(.tmp 6, B true), (.tmp 9, B x5), (.const (.bool false), B false)], [], B x5, [], false⟩,
    ⟨[(.tmp 10, B x5)], [], B true, [], false⟩,
    ⟨[(.tmp 11, B true), (.tmp 1, .ref 0 5 0 0)], [(0, .own 5 [[I p0.T, I p0.P, I p0.Liquid, I p0.Vapour, I p0.Silica]])], .ref 0 5 0 2, [], false⟩,
    ⟨[(.tmp 11, B true), (.tmp 12, .ref 0 5 0 2)], [(0, .own 5 [[I p0.T, I p0.P, I p0.Liquid, I p0.Vapour, I p0.Silica]])], I p0.Liquid, [], false⟩,
    ⟨[(.tmp 11, B true), (.func 65, (.fn (.func 65) [] [])), (.tmp 13, I p0.Liquid), (.const (.int .i64 0), I 0), (.const (.int .i64 4000), I 4000)], [], B x8, [], false⟩,
    ⟨[(.tmp 11, B true), (.tmp 14, B x8), (.const (.bool false), B false)], [], B x8, [], false⟩,
    ⟨[(.tmp 15, B x8)], [], B true, [], false⟩,
    ⟨[(.tmp 16, B true), (.tmp 1, .ref 0 5 0 0)], [(0, .own 5 [[I p0.T, I p0.P, I p0.Liquid, I p0.Vapour, I p0.Silica]])], .ref 0 5 0 4, [], false⟩,
    ⟨[(.tmp 16, B true), (.tmp 17, .ref 0 5 0 4)], [(0, .own 5 [[I p0.T, I p0.P, I p0.Liquid, I p0.Vapour, I p0.Silica]])], I p0.Silica, [], false⟩,
    ⟨[(.tmp 16, B true), (.func 65, (.fn (.func 65) [] [])), (.tmp 18, I p0.Silica), (.const (.int .i64 0), I 0), (.const (.int .i64 2000), I 2000)], [], B x11, [], false⟩,
    ⟨[(.tmp 16, B true), (.tmp 19, B x11), (.const (.bool false), B false)], [], B x11, [], false⟩,
    ⟨[(.tmp 20, B x11)], [], B true, [], false⟩,
    ⟨[(.tmp 21, B true), (.tmp 1, .ref 0 5 0 0)], [(0, .own 5 [[I p0.T, I p0.P, I p0.Liquid, I p0.Vapour, I p0.Silica]])], .ref 0 5 0 2, [], false⟩,
    ⟨[(.tmp 21, B true), (.tmp 22, .ref 0 5 0 2)], [(0, .own 5 [[I p0.T, I p0.P, I p0.Liquid, I p0.Vapour, I p0.Silica]])], I p0.Liquid, [], false⟩,
    ⟨[(.tmp 21, B true), (.tmp 1, .ref 0 5 0 0)], [(0, .own 5 [[I p0.T, I p0.P, I p0.Liquid, I p0.Vapour, I p0.Silica]])], .ref 0 5 0 3, [], false⟩,
    ⟨[(.tmp 21, B true), (.tmp 24, .ref 0 5 0 3)], [(0, .own 5 [[I p0.T, I p0.P, I p0.Liquid, I p0.Vapour, I p0.Silica]])], I p0.Vapour, [], false⟩,
    ⟨[(.tmp 21, B true), (.tmp 23, I p0.Liquid), (.tmp 25, I p0.Vapour)], [], (B ((decide (p0.Liquid < p0.Vapour)))), [], false⟩,
    ⟨[(.tmp 21, B true), (.tmp 26, (B ((decide (p0.Liquid < p0.Vapour))))), (.const (.bool false), B false)], [], (B ((decide (p0.Liquid < p0.Vapour)))), [], false⟩,
    ⟨[(.tmp 27, (B ((decide (p0.Liquid < p0.Vapour)))))], [], B false, [], false⟩,
    ⟨[(.tmp 28, B false)], [], (.lit undef), [], true⟩,
    ⟨[(.tmp 28, B false)], [], (.lit undef), [], true⟩,
    ⟨[(.tmp 28, B false)], [], (.lit undef), [], true⟩,
    ⟨[(.tmp 28, B false), (.tmp 31, (.lit undef)), (.const (.bool false), B false)], [], B false, [], false⟩,
    ⟨[(.tmp 32, B false)], [], B false, [], false⟩] (by exact ⟨by kernel_rfl, by kernel_rfl⟩) ?_ ?_
            · exact ⟨fun _ => astep_faddr rfl Try.underlying115 rfl rfl ti3 (by decide) rfl,
    fun _ => astep_load rfl ti3 (by decide) rfl (Nat.le_of_ble_eq_true rfl) rfl,
    fun _ => astep_pcall (first := []) (cap := []) (vs := [I p0.T, I 0, I 400]) rfl enter65 (steam_withinX_ok N p0.T 0 400 _ hf1) rfl rfl (nl_cons (NLt.lit _) (nl_cons (NLt.lit _) (nl_cons (NLt.lit _) nl_nil))) (NLt.lit _) rfl,
    fun _ => astep_b hb3 (astep_move rfl),
    fun _ => astep_guard (astep_faddr rfl Try.underlying115 rfl rfl ti3 (by decide) rfl),
    fun _ => astep_guard (astep_load rfl ti3 (by decide) rfl (Nat.le_of_ble_eq_true rfl) rfl),
    fun _ => astep_guard (astep_pcall (first := []) (cap := []) (vs := [I p0.P, I 1, I 10000]) rfl enter65 (steam_withinX_ok N p0.P 1 10000 _ hf4) rfl rfl (nl_cons (NLt.lit _) (nl_cons (NLt.lit _) (nl_cons (NLt.lit _) nl_nil))) (NLt.lit _) rfl),
    fun _ => astep_pick rfl rfl,
    fun _ => astep_b hb6 (astep_move rfl),
    fun _ => astep_guard (astep_faddr rfl Try.underlying115 rfl rfl ti3 (by decide) rfl),
    fun _ => astep_guard (astep_load rfl ti3 (by decide) rfl (Nat.le_of_ble_eq_true rfl) rfl),
    fun _ => astep_guard (astep_pcall (first := []) (cap := []) (vs := [I p0.Liquid, I 0, I 4000]) rfl enter65 (steam_withinX_ok N p0.Liquid 0 4000 _ hf7) rfl rfl (nl_cons (NLt.lit _) (nl_cons (NLt.lit _) (nl_cons (NLt.lit _) nl_nil))) (NLt.lit _) rfl),
    fun _ => astep_pick rfl rfl,
    fun _ => astep_b hb9 (astep_move rfl),
    fun _ => astep_guard (astep_faddr rfl Try.underlying115 rfl rfl ti3 (by decide) rfl),
    fun _ => astep_guard (astep_load rfl ti3 (by decide) rfl (Nat.le_of_ble_eq_true rfl) rfl),
    fun _ => astep_guard (astep_pcall (first := []) (cap := []) (vs := [I p0.Silica, I 0, I 2000]) rfl enter65 (steam_withinX_ok N p0.Silica 0 2000 _ hf10) rfl rfl (nl_cons (NLt.lit _) (nl_cons (NLt.lit _) (nl_cons (NLt.lit _) nl_nil))) (NLt.lit _) rfl),
    fun _ => astep_pick rfl rfl,
    fun _ => astep_b hb12 (astep_move rfl),
    fun _ => astep_guard (astep_faddr rfl Try.underlying115 rfl rfl ti3 (by decide) rfl),
    fun _ => astep_guard (astep_load rfl ti3 (by decide) rfl (Nat.le_of_ble_eq_true rfl) rfl),
    fun _ => astep_guard (astep_faddr rfl Try.underlying115 rfl rfl ti3 (by decide) rfl),
    fun _ => astep_guard (astep_load rfl ti3 (by decide) rfl (Nat.le_of_ble_eq_true rfl) rfl),
    fun _ => astep_guard (astep_bin rfl rfl),
    fun _ => astep_pick rfl rfl,
    fun _ => astep_b hb13 (astep_move rfl),
    fun hs => (Bool.noConfusion hs),
    fun hs => (Bool.noConfusion hs),
    fun hs => (Bool.noConfusion hs),
    fun _ => astep_pick rfl rfl,
    fun _ => astep_assign rfl, trivial⟩
            refine awp_ret ?_
            obtain rfl := Option.some.inj h
            exact ⟨⟨[B false], ⟨resOK_tmp (by kernel_rfl), trivial⟩, rfl⟩, (NLt.lit _), Nat.le_refl _, fun n hn => absurd hn (Nat.not_lt_zero n)⟩
        · replace h := bif_f hb12 h
          refine awp_reg [⟨[(.tmp 1, .ref 0 5 0 0)], [(0, .own 5 [[I p0.T, I p0.P, I p0.Liquid, I p0.Vapour, I p0.Silica]])], .ref 0 5 0 0, [], false⟩,
    ⟨[(.tmp 3, .ref 0 5 0 0)], [(0, .own 5 [[I p0.T, I p0.P, I p0.Liquid, I p0.Vapour, I p0.Silica]])], I p0.T, [], false⟩,
    ⟨[(.func 65, (.fn (.func 65) [] [])), (.tmp 4, I p0.T), (.const (.int .i64 0), I 0), (.const (.int .i64 400), I 400)], [], B x2, [], false⟩,
    ⟨[(.tmp 5, B x2)], [], B true, [], false⟩,
    ⟨[(.tmp 6, B true), (.tmp 1, .ref 0 5 0 0)], [(0, .own 5 [[I p0.T, I p0.P, I p0.Liquid, I p0.Vapour, I p0.Silica]])], .ref 0 5 0 1, [], false⟩,
    ⟨[(.tmp 6, B true), (.tmp 7, .ref 0 5 0 1)], [(0, .own 5 [[I p0.T, I p0.P, I p0.Liquid, I p0.Vapour, I p0.Silica]])], I p0.P, [], false⟩,
    ⟨[(.tmp 6, B true), (.func 65, (.fn (.func 65) [] [])), (.tmp 8, I p0.P), (.const (.int .i64 1), I 1), (.const (.int .i64 10000), I 10000)], [], B x5, [], false⟩,
    ⟨[(.tmp 6, B true), (.tmp 9, B x5), (.const (.bool false), B false)], [], B x5, [], false⟩,
    ⟨[(.tmp 10, B x5)], [], B true, [], false⟩,
    ⟨[(.tmp 11, B true), (.tmp 1, .ref 0 5 0 0)], [(0, .own 5 [[I p0.T, I p0.P, I p0.Liquid, I p0.Vapour, I p0.Silica]])], .ref 0 5 0 2, [], false⟩,
    ⟨[(.tmp 11, B true), (.tmp 12, .ref 0 5 0 2)], [(0, .own 5 [[I p0.T, I p0.P, I p0.Liquid, I p0.Vapour, I p0.Silica]])], I p0.Liquid, [], false⟩,
    ⟨[(.tmp 11, B true), (.func 65, (.fn (.func 65) [] [])), (.tmp 13, I p0.Liquid), (.const (.int .i64 0), I 0), (.const (.int .i64 4000), I 4000)], [], B x8, [], false⟩,
    ⟨[(.tmp 11, B true), (.tmp 14, B x8), (.const (.bool false), B false)], [], B x8, [], false⟩,
    ⟨[(.tmp 15, B x8)], [], B true, [], false⟩,
    ⟨[(.tmp 16, B true), (.tmp 1, .ref 0 5 0 0)], [(0, .own 5 [[I p0.T, I p0.P, I p0.Liquid, I p0.Vapour, I p0.Silica]])], .ref 0 5 0 4, [], false⟩,
    ⟨[(.tmp 16, B true), (.tmp 17, .ref 0 5 0 4)], [(0, .own 5 [[I p0.T, I p0.P, I p0.Liquid, I p0.Vapour, I p0.Silica]])], I p0.Silica, [], false⟩,
    ⟨[(.tmp 16, B true), (.func 65, (.fn (.func 65) [] [])), (.tmp 18, I p0.Silica), (.const (.int .i64 0), I 0), (.const (.int .i64 2000), I 2000)], [], B x11, [], false⟩,
    ⟨[(.tmp 16, B true), (.tmp 19, B x11), (.const (.bool false), B false)], [], B x11, [], false⟩,
    ⟨[(.tmp 20, B x11)], [], B false, [], false⟩,
    ⟨[(.tmp 21, B false)], [], (.lit undef), [], true⟩,
    ⟨[(.tmp 21, B false)], [], (.lit undef), [], true⟩,
    ⟨[(.tmp 21, B false)], [], (.lit undef), [], true⟩,
    ⟨[(.tmp 21, B false)], [], (.lit undef), [], true⟩,
    ⟨[(.tmp 21, B false)], [], (.lit undef), [], true⟩,
    ⟨[(.tmp 21, B false), (.tmp 26, (.lit undef)), (.const (.bool false), B false)], [], B false, [], false⟩,
    ⟨[(.tmp 27, B false)], [], B false, [], false⟩,
    ⟨[(.tmp 28, B false)], [], (.lit undef), [], true⟩,
    ⟨[(.tmp 28, B false)], [], (.lit undef), [], true⟩,
    ⟨[(.tmp 28, B false)], [], (.lit undef), [], true⟩,
    ⟨[(.tmp 28, B false), (.tmp 31, (.lit undef)), (.const (.bool false), B false)], [], B false, [], false⟩,
    ⟨[(.tmp 32, B false)], [], B false, [], false⟩] (by exact ⟨by kernel_rfl, by kernel_rfl⟩) ?_ ?_
          · exact ⟨fun _ => astep_faddr rfl Try.underlying115 rfl rfl ti3 (by decide) rfl,
    fun _ => astep_load rfl ti3 (by decide) rfl (Nat.le_of_ble_eq_true rfl) rfl,
    fun _ => astep_pcall (first := []) (cap := []) (vs := [I p0.T, I 0, I 400]) rfl enter65 (steam_withinX_ok N p0.T 0 400 _ hf1) rfl rfl (nl_cons (NLt.lit _) (nl_cons (NLt.lit _) (nl_cons (NLt.lit _) nl_nil))) (NLt.lit _) rfl,
    fun _ => astep_b hb3 (astep_move rfl),
    fun _ => astep_guard (astep_faddr rfl Try.underlying115 rfl rfl ti3 (by decide) rfl),
    fun _ => astep_guard (astep_load rfl ti3 (by decide) rfl (Nat.le_of_ble_eq_true rfl) rfl),
    fun _ => astep_guard (astep_pcall (first := []) (cap := []) (vs := [I p0.P, I 1, I 10000]) rfl enter65 (steam_withinX_ok N p0.P 1 10000 _ hf4) rfl rfl (nl_cons (NLt.lit _) (nl_cons (NLt.lit _) (nl_cons (NLt.lit _) nl_nil))) (NLt.lit _) rfl),
    fun _ => astep_pick rfl rfl,
    fun _ => astep_b hb6 (astep_move rfl),
    fun _ => astep_guard (astep_faddr rfl Try.underlying115 rfl rfl ti3 (by decide) rfl),
    fun _ => astep_guard (astep_load rfl ti3 (by decide) rfl (Nat.le_of_ble_eq_true rfl) rfl),
    fun _ => astep_guard (astep_pcall (first := []) (cap := []) (vs := [I p0.Liquid, I 0, I 4000]) rfl enter65 (steam_withinX_ok N p0.Liquid 0 4000 _ hf7) rfl rfl (nl_cons (NLt.lit _) (nl_cons (NLt.lit _) (nl_cons (NLt.lit _) nl_nil))) (NLt.lit _) rfl),
    fun _ => astep_pick rfl rfl,
    fun _ => astep_b hb9 (astep_move rfl),
    fun _ => astep_guard (astep_faddr rfl Try.underlying115 rfl rfl ti3 (by decide) rfl),
    fun _ => astep_guard (astep_load rfl ti3 (by decide) rfl (Nat.le_of_ble_eq_true rfl) rfl),
    fun _ => astep_guard (astep_pcall (first := []) (cap := []) (vs := [I p0.Silica, I 0, I 2000]) rfl enter65 (steam_withinX_ok N p0.Silica 0 2000 _ hf10) rfl rfl (nl_cons (NLt.lit _) (nl_cons (NLt.lit _) (nl_cons (NLt.lit _) nl_nil))) (NLt.lit _) rfl),
    fun _ => astep_pick rfl rfl,
    fun _ => astep_b hb12 (astep_move rfl),
    fun hs => (Bool.noConfusion hs),
    fun hs => (Bool.noConfusion hs),
    fun hs => (Bool.noConfusion hs),
    fun hs => (Bool.noConfusion hs),
    fun hs => (Bool.noConfusion hs),
    fun _ => astep_pick rfl rfl,
    fun _ => astep_move rfl,
    fun hs => (Bool.noConfusion hs),
    fun hs => (Bool.noConfusion hs),
    fun hs => (Bool.noConfusion hs),
    fun _ => astep_pick rfl rfl,
    fun _ => astep_assign rfl, trivial⟩
          refine awp_ret ?_
          obtain rfl := Option.some.inj h
          exact ⟨⟨[B false], ⟨resOK_tmp (by kernel_rfl), trivial⟩, rfl⟩, (NLt.lit _), Nat.le_refl _, fun n hn => absurd hn (Nat.not_lt_zero n)⟩
      · replace h := bif_f hb9 h
        refine awp_reg [⟨[(.tmp 1, .ref 0 5 0 0)], [(0, .own 5 [[I p0.T, I p0.P, I p0.Liquid, I p0.Vapour, I p0.Silica]])], .ref 0 5 0 0, [], false⟩,
    ⟨[(.tmp 3, .ref 0 5 0 0)], [(0, .own 5 [[I p0.T, I p0.P, I p0.Liquid, I p0.Vapour, I p0.Silica]])], I p0.T, [], false⟩,
    ⟨[(.func 65, (.fn (.func 65) [] [])), (.tmp 4, I p0.T), (.const (.int .i64 0), I 0), (.const (.int .i64 400), I 400)], [], B x2, [], false⟩,
    ⟨[(.tmp 5, B x2)], [], B true, [], false⟩,
    ⟨[(.tmp 6, B true), (.tmp 1, .ref 0 5 0 0)], [(0, .own 5 [[I p0.T, I p0.P, I p0.Liquid, I p0.Vapour, I p0.Silica]])], .ref 0 5 0 1, [], false⟩,
    ⟨[(.tmp 6, B true), (.tmp 7, .ref 0 5 0 1)], [(0, .own 5 [[I p0.T, I p0.P, I p0.Liquid, I p0.Vapour, I p0.Silica]])], I p0.P, [], false⟩,
    ⟨[(.tmp 6, B true), (.func 65, (.fn (.func 65) [] [])), (.tmp 8, I p0.P), (.const (.int .i64 1), I 1), (.const (.int .i64 10000), I 10000)], [], B x5, [], false⟩,
    ⟨[(.tmp 6, B true), (.tmp 9, B x5), (.const (.bool false), B false)], [], B x5, [], false⟩,
    ⟨[(.tmp 10, B x5)], [], B true, [], false⟩,
    ⟨[(.tmp 11, B true), (.tmp 1, .ref 0 5 0 0)], [(0, .own 5 [[I p0.T, I p0.P, I p0.Liquid, I p0.Vapour, I p0.Silica]])], .ref 0 5 0 2, [], false⟩,
    ⟨[(.tmp 11, B true), (.tmp 12, .ref 0 5 0 2)], [(0, .own 5 [[I p0.T, I p0.P, I p0.Liquid, I p0.Vapour, I p0.Silica]])], I p0.Liquid, [], false⟩,
    ⟨[(.tmp 11, B true), (.func 65, (.fn (.func 65) [] [])), (.tmp 13, I p0.Liquid), (.const (.int .i64 0), I 0), (.const (.int .i64 4000), I 4000)], [], B x8, [], false⟩,
    ⟨[(.tmp 11, B true), (.tmp 14, B x8), (.const (.bool false), B false)], [], B x8, [], false⟩,
    ⟨[(.tmp 15, B x8)], [], B false, [], false⟩,
    ⟨[(.tmp 16, B false)], [], (.lit undef), [], true⟩,
    ⟨[(.tmp 16, B false)], [], (.lit undef), [], true⟩,
    ⟨[(.tmp 16, B false)], [], (.lit undef), [], true⟩,
    ⟨[(.tmp 16, B false), (.tmp 19, (.lit undef)), (.const (.bool false), B false)], [], B false, [], false⟩,
    ⟨[(.tmp 20, B false)], [], B false, [], false⟩,
    ⟨[(.tmp 21, B false)], [], (.lit undef), [], true⟩,
    ⟨[(.tmp 21, B false)], [], (.lit undef), [], true⟩,
    ⟨[(.tmp 21, B false)], [], (.lit undef), [], true⟩,
    ⟨[(.tmp 21, B false)], [], (.lit undef), [], true⟩,
    ⟨[(.tmp 21, B false)], [], (.lit undef), [], true⟩,
    ⟨[(.tmp 21, B false), (.tmp 26, (.lit undef)), (.const (.bool false), B false)], [], B false, [], false⟩,
    ⟨[(.tmp 27, B false)], [], B false, [], false⟩,
    ⟨[(.tmp 28, B false)], [], (.lit undef), [], true⟩,
    ⟨[(.tmp 28, B false)], [], (.lit undef), [], true⟩,
    ⟨[(.tmp 28, B false)], [], (.lit undef), [], true⟩,
    ⟨[(.tmp 28, B false), (.tmp 31, (.lit undef)), (.const (.bool false), B false)], [], B false, [], false⟩,
    ⟨[(.tmp 32, B false)], [], B false, [], false⟩] (by exact ⟨by kernel_rfl, by kernel_rfl⟩) ?_ ?_
        · exact ⟨fun _ => astep_faddr rfl Try.underlying115 rfl rfl ti3 (by decide) rfl,
    fun _ => astep_load rfl ti3 (by decide) rfl (Nat.le_of_ble_eq_true rfl) rfl,
    fun _ => astep_pcall (first := []) (cap := []) (vs := [I p0.T, I 0, I 400]) rfl enter65 (steam_withinX_ok N p0.T 0 400 _ hf1) rfl rfl (nl_cons (NLt.lit _) (nl_cons (NLt.lit _) (nl_cons (NLt.lit _) nl_nil))) (NLt.lit _) rfl,
    fun _ => astep_b hb3 (astep_move rfl),
    fun _ => astep_guard (astep_faddr rfl Try.underlying115 rfl rfl ti3 (by decide) rfl),
    fun _ => astep_guard (astep_load rfl ti3 (by decide) rfl (Nat.le_of_ble_eq_true rfl) rfl),
    fun _ => astep_guard (astep_pcall (first := []) (cap := []) (vs := [I p0.P, I 1, I 10000]) rfl enter65 (steam_withinX_ok N p0.P 1 10000 _ hf4) rfl rfl (nl_cons (NLt.lit _) (nl_cons (NLt.lit _) (nl_cons (NLt.lit _) nl_nil))) (NLt.lit _) rfl),
    fun _ => astep_pick rfl rfl,
    fun _ => astep_b hb6 (astep_move rfl),
    fun _ => astep_guard (astep_faddr rfl Try.underlying115 rfl rfl ti3 (by decide) rfl),
    fun _ => astep_guard (astep_load rfl ti3 (by decide) rfl (Nat.le_of_ble_eq_true rfl) rfl),
    fun _ => astep_guard (astep_pcall (first := []) (cap := []) (vs := [I p0.Liquid, I 0, I 4000]) rfl enter65 (steam_withinX_ok N p0.Liquid 0 4000 _ hf7) rfl rfl (nl_cons (NLt.lit _) (nl_cons (NLt.lit _) (nl_cons (NLt.lit _) nl_nil))) (NLt.lit _) rfl),
    fun _ => astep_pick rfl rfl,
    fun _ => astep_b hb9 (astep_move rfl),
    fun hs => (Bool.noConfusion hs),
    fun hs => (Bool.noConfusion hs),
    fun hs => (Bool.noConfusion hs),
    fun _ => astep_pick rfl rfl,
    fun _ => astep_move rfl,
    fun hs => (Bool.noConfusion hs),
    fun hs => (Bool.noConfusion hs),
    fun hs => (Bool.noConfusion hs),
    fun hs => (Bool.noConfusion hs),
    fun hs => (Bool.noConfusion hs),
    fun _ => astep_pick rfl rfl,
    fun _ => astep_move rfl,
    fun hs => (Bool.noConfusion hs),
    fun hs => (Bool.noConfusion hs),
    fun hs => (Bool.noConfusion hs),
    fun _ => astep_pick rfl rfl,
    fun _ => astep_assign rfl, trivial⟩
        refine awp_ret ?_
        obtain rfl := Option.some.inj h
        exact ⟨⟨[B false], ⟨resOK_tmp (by kernel_rfl), trivial⟩, rfl⟩, (NLt.lit _), Nat.le_refl _, fun n hn => absurd hn (Nat.not_lt_zero n)⟩
    · replace h := bif_f hb6 h
      refine awp_reg [⟨[(.tmp 1, .ref 0 5 0 0)], [(0, .own 5 [[I p0.T, I p0.P, I p0.Liquid, I p0.Vapour, I p0.Silica]])], .ref 0 5 0 0, [], false⟩,
    ⟨[(.tmp 3, .ref 0 5 0 0)], [(0, .own 5 [[I p0.T, I p0.P, I p0.Liquid, I p0.Vapour, I p0.Silica]])], I p0.T, [], false⟩,
    ⟨[(.func 65, (.fn (.func 65) [] [])), (.tmp 4, I p0.T), (.const (.int .i64 0), I 0), (.const (.int .i64 400), I 400)], [], B x2, [], false⟩,
    ⟨[(.tmp 5, B x2)], [], B true, [], false⟩,
    ⟨[(.tmp 6, B true), (.tmp 1, .ref 0 5 0 0)], [(0, .own 5 [[I p0.T, I p0.P, I p0.Liquid, I p0.Vapour, I p0.Silica]])], .ref 0 5 0 1, [], false⟩,
    ⟨[(.tmp 6, B true), (.tmp 7, .ref 0 5 0 1)], [(0, .own 5 [[I p0.T, I p0.P, I p0.Liquid, I p0.Vapour, I p0.Silica]])], I p0.P, [], false⟩,
    ⟨[(.tmp 6, B true), (.func 65, (.fn (.func 65) [] [])), (.tmp 8, I p0.P), (.const (.int .i64 1), I 1), (.const (.int .i64 10000), I 10000)], [], B x5, [], false⟩,
    ⟨[(.tmp 6, B true), (.tmp 9, B x5), (.const (.bool false), B false)], [], B x5, [], false⟩,
    ⟨[(.tmp 10, B x5)], [], B false, [], false⟩,
    ⟨[(.tmp 11, B false)], [], (.lit undef), [], true⟩,
    ⟨[(.tmp 11, B false)], [], (.lit undef), [], true⟩,
    ⟨[(.tmp 11, B false)], [], (.lit undef), [], true⟩,
    ⟨[(.tmp 11, B false), (.tmp 14, (.lit undef)), (.const (.bool false), B false)], [], B false, [], false⟩,
    ⟨[(.tmp 15, B false)], [], B false, [], false⟩,
    ⟨[(.tmp 16, B false)], [], (.lit undef), [], true⟩,
    ⟨[(.tmp 16, B false)], [], (.lit undef), [], true⟩,
    ⟨[(.tmp 16, B false)], [], (.lit undef), [], true⟩,
    ⟨[(.tmp 16, B false), (.tmp 19, (.lit undef)), (.const (.bool false), B false)], [], B false, [], false⟩,
    ⟨[(.tmp 20, B false)], [], B false, [], false⟩,
    ⟨[(.tmp 21, B false)], [], (.lit undef), [], true⟩,
    ⟨[(.tmp 21, B false)], [], (.lit undef), [], true⟩,
    ⟨[(.tmp 21, B false)], [], (.lit undef), [], true⟩,
    ⟨[(.tmp 21, B false)], [], (.lit undef), [], true⟩,
    ⟨[(.tmp 21, B false)], [], (.lit undef), [], true⟩,
    ⟨[(.tmp 21, B false), (.tmp 26, (.lit undef)), (.const (.bool false), B false)], [], B false, [], false⟩,
    ⟨[(.tmp 27, B false)], [], B false, [], false⟩,
    ⟨[(.tmp 28, B false)], [], (.lit undef), [], true⟩,
    ⟨[(.tmp 28, B false)], [], (.lit undef), [], true⟩,
    ⟨[(.tmp 28, B false)], [], (.lit undef), [], true⟩,
    ⟨[(.tmp 28, B false), (.tmp 31, (.lit undef)), (.const (.bool false), B false)], [], B false, [], false⟩,
    ⟨[(.tmp 32, B false)], [], B false, [], false⟩] (by exact ⟨by kernel_rfl, by kernel_rfl⟩) ?_ ?_
      · exact ⟨fun _ => astep_faddr rfl Try.underlying115 rfl rfl ti3 (by decide) rfl,
    fun _ => astep_load rfl ti3 (by decide) rfl (Nat.le_of_ble_eq_true rfl) rfl,
    fun _ => astep_pcall (first := []) (cap := []) (vs := [I p0.T, I 0, I 400]) rfl enter65 (steam_withinX_ok N p0.T 0 400 _ hf1) rfl rfl (nl_cons (NLt.lit _) (nl_cons (NLt.lit _) (nl_cons (NLt.lit _) nl_nil))) (NLt.lit _) rfl,
    fun _ => astep_b hb3 (astep_move rfl),
    fun _ => astep_guard (astep_faddr rfl Try.underlying115 rfl rfl ti3 (by decide) rfl),
    fun _ => astep_guard (astep_load rfl ti3 (by decide) rfl (Nat.le_of_ble_eq_true rfl) rfl),
    fun _ => astep_guard (astep_pcall (first := []) (cap := []) (vs := [I p0.P, I 1, I 10000]) rfl enter65 (steam_withinX_ok N p0.P 1 10000 _ hf4) rfl rfl (nl_cons (NLt.lit _) (nl_cons (NLt.lit _) (nl_cons (NLt.lit _) nl_nil))) (NLt.lit _) rfl),
    fun _ => astep_pick rfl rfl,
    fun _ => astep_b hb6 (astep_move rfl),
    fun hs => (Bool.noConfusion hs),
    fun hs => (Bool.noConfusion hs),
    fun hs => (Bool.noConfusion hs),
    fun _ => astep_pick rfl rfl,
    fun _ => astep_move rfl,
    fun hs => (Bool.noConfusion hs),
    fun hs => (Bool.noConfusion hs),
    fun hs => (Bool.noConfusion hs),
    fun _ => astep_pick rfl rfl,
    fun _ => astep_move rfl,
    fun hs => (Bool.noConfusion hs),
    fun hs => (Bool.noConfusion hs),
    fun hs => (Bool.noConfusion hs),
    fun hs => (Bool.noConfusion hs),
    fun hs => (Bool.noConfusion hs),
    fun _ => astep_pick rfl rfl,
    fun _ => astep_move rfl,
    fun hs => (Bool.noConfusion hs),
    fun hs => (Bool.noConfusion hs),
    fun hs => (Bool.noConfusion hs),
    fun _ => astep_pick rfl rfl,
    fun _ => astep_assign rfl, trivial⟩
      refine awp_ret ?_
      obtain rfl := Option.some.inj h
      exact ⟨⟨[B false], ⟨resOK_tmp (by kernel_rfl), trivial⟩, rfl⟩, (NLt.lit _), Nat.le_refl _, fun n hn => absurd hn (Nat.not_lt_zero n)⟩
  · replace h := bif_f hb3 h
    refine awp_reg [⟨[(.tmp 1, .ref 0 5 0 0)], [(0, .own 5 [[I p0.T, I p0.P, I p0.Liquid, I p0.Vapour, I p0.Silica]])], .ref 0 5 0 0, [], false⟩,
    ⟨[(.tmp 3, .ref 0 5 0 0)], [(0, .own 5 [[I p0.T, I p0.P, I p0.Liquid, I p0.Vapour, I p0.Silica]])], I p0.T, [], false⟩,
    ⟨[(.func 65, (.fn (.func 65) [] [])), (.tmp 4, I p0.T), (.const (.int .i64 0), I 0), (.const (.int .i64 400), I 400)], [], B x2, [], false⟩,
    ⟨[(.tmp 5, B x2)], [], B false, [], false⟩,
    ⟨[(.tmp 6, B false)], [], (.lit undef), [], true⟩,
    ⟨[(.tmp 6, B false)], [], (.lit undef), [], true⟩,
    ⟨[(.tmp 6, B false)], [], (.lit undef), [], true⟩,
    ⟨[(.tmp 6, B false), (.tmp 9, (.lit undef)), (.const (.bool false), B false)], [], B false, [], false⟩,
    ⟨[(.tmp 10, B false)], [], B false, [], false⟩,
    ⟨[(.tmp 11, B false)], [], (.lit undef), [], true⟩,
    ⟨[(.tmp 11, B false)], [], (.lit undef), [], true⟩,
    ⟨[(.tmp 11, B false)], [], (.lit undef), [], true⟩,
    ⟨[(.tmp 11, B false), (.tmp 14, (.lit undef)), (.const (.bool false), B false)], [], B false, [], false⟩,
    ⟨[(.tmp 15, B false)], [], B false, [], false⟩,
    ⟨[(.tmp 16, B false)], [], (.lit undef), [], true⟩,
    ⟨[(.tmp 16, B false)], [], (.lit undef), [], true⟩,
    ⟨[(.tmp 16, B false)], [], (.lit undef), [], true⟩,
    ⟨[(.tmp 16, B false), (.tmp 19, (.lit undef)), (.const (.bool false), B false)], [], B false, [], false⟩,
    ⟨[(.tmp 20, B false)], [], B false, [], false⟩,
    ⟨[(.tmp 21, B false)], [], (.lit undef), [], true⟩,
    ⟨[(.tmp 21, B false)], [], (.lit undef), [], true⟩,
    ⟨[(.tmp 21, B false)], [], (.lit undef), [], true⟩,
    ⟨[(.tmp 21, B false)], [], (.lit undef), [], true⟩,
    ⟨[(.tmp 21, B false)], [], (.lit undef), [], true⟩,
    ⟨[(.tmp 21, B false), (.tmp 26, (.lit undef)), (.const (.bool false), B false)], [], B false, [], false⟩,
    ⟨[(.tmp 27, B false)], [], B false, [], false⟩,
    ⟨[(.tmp 28, B false)], [], (.lit undef), [], true⟩,
    ⟨[(.tmp 28, B false)], [], (.lit undef), [], true⟩,
    ⟨[(.tmp 28, B false)], [], (.lit undef), [], true⟩,
    ⟨[(.tmp 28, B false), (.tmp 31, (.lit undef)), (.const (.bool false), B false)], [], B false, [], false⟩,
    ⟨[(.tmp 32, B false)], [], B false, [], false⟩] (by exact ⟨by kernel_rfl, by kernel_rfl⟩) ?_ ?_
    · exact ⟨fun _ => astep_faddr rfl Try.underlying115 rfl rfl ti3 (by decide) rfl,
    fun _ => astep_load rfl ti3 (by decide) rfl (Nat.le_of_ble_eq_true rfl) rfl,
    fun _ => astep_pcall (first := []) (cap := []) (vs := [I p0.T, I 0, I 400]) rfl enter65 (steam_withinX_ok N p0.T 0 400 _ hf1) rfl rfl (nl_cons (NLt.lit _) (nl_cons (NLt.lit _) (nl_cons (NLt.lit _) nl_nil))) (NLt.lit _) rfl,
    fun _ => astep_b hb3 (astep_move rfl),
    fun hs => (Bool.noConfusion hs),
    fun hs => (Bool.noConfusion hs),
    fun hs => (Bool.noConfusion hs),
    fun _ => astep_pick rfl rfl,
    fun _ => astep_move rfl,
    fun hs => (Bool.noConfusion hs),
    fun hs => (Bool.noConfusion hs),
    fun hs => (Bool.noConfusion hs),
    fun _ => astep_pick rfl rfl,
    fun _ => astep_move rfl,
    fun hs => (Bool.noConfusion hs),
    fun hs => (Bool.noConfusion hs),
    fun hs => (Bool.noConfusion hs),
    fun _ => astep_pick rfl rfl,
    fun _ => astep_move rfl,
    fun hs => (Bool.noConfusion hs),
    fun hs => (Bool.noConfusion hs),
    fun hs => (Bool.noConfusion hs),
    fun hs => (Bool.noConfusion hs),
    fun hs => (Bool.noConfusion hs),
    fun _ => astep_pick rfl rfl,
    fun _ => astep_move rfl,
    fun hs => (Bool.noConfusion hs),
    fun hs => (Bool.noConfusion hs),
    fun hs => (Bool.noConfusion hs),
    fun _ => astep_pick rfl rfl,
    fun _ => astep_assign rfl, trivial⟩
    refine awp_ret ?_
    obtain rfl := Option.some.inj h
    exact ⟨⟨[B false], ⟨resOK_tmp (by kernel_rfl), trivial⟩, rfl⟩, (NLt.lit _), Nat.le_refl _, fun n hn => absurd hn (Nat.not_lt_zero n)⟩

def steam_all_steam_Row_1X_1 (N : Nat) (p0 : GRow) : Option Bool :=
  (steam_Row_aloneX N p0).bind fun x3 =>
  some (!x3)
set_option maxRecDepth 100000 in
set_option maxHeartbeats 4000000 in
theorem steam_all_steam_Row_1X_1_ok (N : Nat) (p0 : GRow) (r : Bool) (h : steam_all_steam_Row_1X_1 N p0 = some r) : Spec Try.prog 95 [(.agg [(I (p0.T)), (I (p0.P)), (I (p0.Liquid)), (I (p0.Vapour)), (I (p0.Silica))]), (.ref 0 1 (0) 0)] [(.own 1 [[(.fn (.func 81) [] [])]])] (B (r)) [(.own 1 [[(.fn (.func 81) [] [])]])] := by
  refine spec_of_awp Try.func95 rfl 1 (Nat.le_of_ble_eq_true rfl) (fun X φ0 w0 hφ0 => ?_)
  unfold steam_all_steam_Row_1X_1 at h
  refine awp_finm ?_
  refine awp_reg [⟨[(.tmp 0, (.agg [I p0.T, I p0.P, I p0.Liquid, I p0.Vapour, I p0.Silica]))], [(1, .unused)], .ref 1 5 0 0, [(1, .own 5 [[I p0.T, I p0.P, I p0.Liquid, I p0.Vapour, I p0.Silica]])], false⟩,
    ⟨[(.const (.bool false), B false)], [], B false, [], false⟩] (by exact ⟨by kernel_rfl, by kernel_rfl⟩) ?_ ?_
  · exact ⟨fun _ => astep_box rfl (by rfl) rfl rfl,
    fun _ => astep_assign rfl, trivial⟩
  obtain ⟨x3, hf2, h⟩ := bind_out h
  refine awp_reg [⟨[(.tmp 1, .ref 0 1 0 0)], [(0, (.own 1 [[(.fn (.func 81) [] [])]]))], (.fn (.func 81) [] []), [], false⟩,
    ⟨[(.tmp 2, .ref 1 5 0 0)], [(1, .own 5 [[I p0.T, I p0.P, I p0.Liquid, I p0.Vapour, I p0.Silica]])], (.agg [I p0.T, I p0.P, I p0.Liquid, I p0.Vapour, I p0.Silica]), [], false⟩,
    ⟨[(.tmp 4, (.fn (.func 81) [] [])), (.tmp 5, (.agg [I p0.T, I p0.P, I p0.Liquid, I p0.Vapour, I p0.Silica]))], [], B x3, [], false⟩,
    ⟨[(.tmp 6, B x3)], [], (B ((!x3))), [], false⟩,
    ⟨[(.tmp 7, (B ((!x3))))], [], (B ((!x3))), [], false⟩] (by exact ⟨by kernel_rfl, by kernel_rfl⟩) ?_ ?_
  · exact ⟨fun _ => astep_load rfl ti129 (by decide) rfl (Nat.le_of_ble_eq_true rfl) rfl,
    fun _ => astep_load rfl ti115 (by decide) rfl (Nat.le_of_ble_eq_true rfl) rfl,
    fun _ => astep_pcall (first := []) (cap := []) (vs := [(.agg [I p0.T, I p0.P, I p0.Liquid, I p0.Vapour, I p0.Silica])]) rfl enter81 (steam_Row_aloneX_ok N p0 _ hf2) rfl rfl (nl_cons (NLt.agg _ (nl_cons (NLt.lit _) (nl_cons (NLt.lit _) (nl_cons (NLt.lit _) (nl_cons (NLt.lit _) (nl_cons (NLt.lit _) nl_nil)))))) nl_nil) (NLt.lit _) rfl,
    fun _ => astep_not rfl,
    fun _ => astep_assign rfl, trivial⟩
  refine awp_mor (mor_to (n := 8) (l' := [(3, (B ((!x3))))]) (own' := [(.own 1 [[(.fn (.func 81) [] [])]])]) [(3, (B ((!x3))))] [0] [(.own 1 [[(.fn (.func 81) [] [])]])] hφ0 (by kernel_rfl) (by kernel_rfl) (by kernel_rfl) ⟨rfl, .rn (.plain _ (NLt.lit _)), trivial⟩ ⟨(spw_box ⟨(.rn (rn_fn rnl_nil rnl_nil)), trivial⟩), trivial⟩) ?_
  refine awp_ret ?_
  obtain rfl := Option.some.inj h
  exact ⟨_, Mor.rfl, fin_of (vs := [(B ((!x3)))]) ⟨resOK_tmp (by kernel_rfl), trivial⟩ rfl (NLt.of0 (NLt.lit _)) (by kernel_rfl) (snl_cons (snl_box (nl_cons (NLt.of0 (NLt.fn _ _ _ nl_nil nl_nil)) nl_nil)) snl_nil)⟩

def slices_IndexFunc_steam_Row_steam_RowX_1_loop1 (N : Nat) (p0 : (List GRow)) (k2 : Unit → Option Int) : Nat → Int → Option Int
  | 0, _ => none
  | n5 + 1, y3 =>
    bif (decide (y3 < (p0.length : Int))) then
      (getI p0 y3).bind fun x7 =>
      (steam_all_steam_Row_1X_1 N x7).bind fun x12 =>
      bif x12 then
        some y3
      else
        slices_IndexFunc_steam_Row_steam_RowX_1_loop1 N p0 k2 n5 (w64 (y3 + 1))
    else
      k2 ()
def slices_IndexFunc_steam_Row_steam_RowX_1 (N : Nat) (p0 : (List GRow)) : Option Int :=
  joinK (fun _ =>
      some (-1)) fun k2 : Unit → Option Int =>
  slices_IndexFunc_steam_Row_steam_RowX_1_loop1 N p0 k2 N 0
set_option maxRecDepth 100000 in
set_option maxHeartbeats 4000000 in
theorem slices_IndexFunc_steam_Row_steam_RowX_1_ok (N : Nat) (p0 : (List GRow)) (r : Int) (h : slices_IndexFunc_steam_Row_steam_RowX_1 N p0 = some r) : Spec Try.prog 99 [(.dat 5 ((p0 : List GRow).map c_GRow)), (.fn (.func 95) [] [(.ref 0 1 (0) 0)])] [(.own 1 [[(.fn (.func 81) [] [])]])] (I (r)) [(.own 1 [[(.fn (.func 81) [] [])]])] := by
  refine spec_of_awp Try.func99 rfl 1 (Nat.le_of_ble_eq_true rfl) (fun X φ0 w0 hφ0 => ?_)
  unfold slices_IndexFunc_steam_Row_steam_RowX_1 at h
  refine awp_finm ?_
  refine awp_reg [⟨[(.const (.int .i64 0), I 0)], [], I 0, [], false⟩] (by exact ⟨by kernel_rfl, by kernel_rfl⟩) ?_ ?_
  · exact ⟨fun _ => astep_assign rfl, trivial⟩
  obtain ⟨k2, hk_k2, h⟩ := joinK_out h
  refine awp_join (τ := Unit) (fun t => k2 t = some r) (fun _ => ⟨mk 19 [], [(.own 1 [[(.fn (.func 81) [] [])]])]⟩) (fun t h => ?_) ?_
  · subst hk_k2
    refine awp_reg [⟨[(.const (.int .i64 (-1)), (I ((-1))))], [], (I ((-1))), [], false⟩] (by exact ⟨by kernel_rfl, by kernel_rfl⟩) ?_ ?_
    · exact ⟨fun _ => astep_assign rfl, trivial⟩
    refine awp_mor (mor_to (n := 19) (l' := [(4, (I ((-1))))]) (own' := [(.own 1 [[(.fn (.func 81) [] [])]])]) [(4, (I ((-1))))] [0] [(.own 1 [[(.fn (.func 81) [] [])]])] hφ0 (by kernel_rfl) (by kernel_rfl) (by kernel_rfl) ⟨rfl, .rn (.plain _ (NLt.lit _)), trivial⟩ ⟨(spw_box ⟨(.rn (rn_fn rnl_nil rnl_nil)), trivial⟩), trivial⟩) ?_
    refine awp_ret ?_
    obtain rfl := Option.some.inj h
    exact ⟨_, Mor.rfl, fin_of (vs := [(I ((-1)))]) ⟨resOK_tmp (by kernel_rfl), trivial⟩ rfl (NLt.of0 (NLt.lit _)) (by kernel_rfl) (snl_cons (snl_box (nl_cons (NLt.of0 (NLt.fn _ _ _ nl_nil nl_nil)) nl_nil)) snl_nil)⟩
  · skip
    refine awp_reg [⟨[(.tmp 0, (.dat 5 ((p0 : List GRow).map c_GRow)))], [], (.dat 5 ((p0 : List GRow).map c_GRow)), [], false⟩,
    ⟨[(.tmp 6, (.dat 5 ((p0 : List GRow).map c_GRow)))], [], (I ((p0.length : Int))), [], false⟩,
    ⟨[(.const (.int .i64 0), I 0)], [], I 0, [], false⟩] (by exact ⟨by kernel_rfl, by kernel_rfl⟩) ?_ ?_
    · exact ⟨fun _ => astep_move rfl,
    fun _ => astep_lenm (c := c_GRow) (l := p0) (astep_len rfl Try.underlying29 rfl),
    fun _ => astep_move rfl, trivial⟩
    refine awp_block ?_
    refine awp_mor (mor_to (n := 19) (l' := [(0, (.dat 5 ((p0 : List GRow).map c_GRow))), (1, (.fn (.func 95) [] [.ref 0 1 0 0])), (7, (I ((p0.length : Int)))), (8, I 0)]) (own' := [(.own 1 [[(.fn (.func 81) [] [])]])]) [(0, (.dat 5 ((p0 : List GRow).map c_GRow))), (1, (.fn (.func 95) [] [.ref 0 1 0 0])), (7, (I ((p0.length : Int)))), (8, I 0)] [0] [(.own 1 [[(.fn (.func 81) [] [])]])] hφ0 (by kernel_rfl) (by kernel_rfl) (by kernel_rfl) ⟨rfl, .rn (.plain _ (nl_dat nl_GRow _)), rfl, .rn (rn_fn rnl_nil (rnl_cons (rnq_ref rfl) rnl_nil)), rfl, .rn (.plain _ (NLt.lit _)), rfl, .rn (.plain _ (NLt.lit _)), trivial⟩ ⟨(spw_box ⟨(.rn (rn_fn rnl_nil rnl_nil)), trivial⟩), trivial⟩) ?_
    refine awp_ind (τ := Int) (fun n t => slices_IndexFunc_steam_Row_steam_RowX_1_loop1 N p0 k2 n t = some r) (fun y3 => ⟨mk 19 [(0, (.dat 5 ((p0 : List GRow).map c_GRow))), (1, (.fn (.func 95) [] [.ref 0 1 0 0])), (7, (I ((p0.length : Int)))), (8, I y3)], [(.own 1 [[(.fn (.func 81) [] [])]])]⟩) (fun t h => by rw [slices_IndexFunc_steam_Row_steam_RowX_1_loop1] at h; cases h) (fun n5 ih y3 h => ?_) N (0) h
    rw [slices_IndexFunc_steam_Row_steam_RowX_1_loop1] at h
    skip
    refine awp_reg [⟨[(.tmp 8, I y3), (.tmp 7, (I ((p0.length : Int))))], [], (B ((decide (y3 < (p0.length : Int))))), [], false⟩] (by exact ⟨by kernel_rfl, by kernel_rfl⟩) ?_ ?_
    · exact ⟨fun _ => astep_bin rfl rfl, trivial⟩
    refine awp_seq ?_
    rcases Bool.eq_false_or_eq_true ((decide (y3 < (p0.length : Int)))) with hc6 | hc6
    · replace h := bif_t hc6 h
      refine awp_ift hc6 (by kernel_rfl) ?_
      refine awp_skip ?_
      refine thenA_n ?_
      refine awp_seq ?_
      refine awp_block ?_
      refine awp_reg [⟨[(.tmp 8, I y3)], [], I y3, [], false⟩,
    ⟨[(.tmp 10, I y3)], [], I y3, [], false⟩] (by exact ⟨by kernel_rfl, by kernel_rfl⟩) ?_ ?_
      · exact ⟨fun _ => astep_move rfl,
    fun _ => astep_assign rfl, trivial⟩
      obtain ⟨x7, hg8, h⟩ := bind_out h
      obtain ⟨hi9, hj10⟩ := getI_some hg8
      obtain ⟨x12, hf11, h⟩ := bind_out h
      refine awp_reg [⟨[(.tmp 1, (.fn (.func 95) [] [.ref 0 1 0 0]))], [], (.fn (.func 95) [] [.ref 0 1 0 0]), [], false⟩,
    ⟨[(.tmp 0, (.dat 5 ((p0 : List GRow).map c_GRow)))], [], (.dat 5 ((p0 : List GRow).map c_GRow)), [], false⟩,
    ⟨[(.tmp 5, I y3)], [], I y3, [], false⟩,
    ⟨[(.tmp 12, (.dat 5 ((p0 : List GRow).map c_GRow))), (.tmp 13, I y3)], [], (.dptr (c_GRow (x7)) 0), [], false⟩,
    ⟨[(.tmp 14, (.dptr (c_GRow (x7)) 0))], [], (.agg [I x7.T, I x7.P, I x7.Liquid, I x7.Vapour, I x7.Silica]), [], false⟩,
    ⟨[(.tmp 11, (.fn (.func 95) [] [.ref 0 1 0 0])), (.tmp 15, (.agg [I x7.T, I x7.P, I x7.Liquid, I x7.Vapour, I x7.Silica]))], [(0, (.own 1 [[(.fn (.func 81) [] [])]]))], B x12, [(0, (.own 1 [[(.fn (.func 81) [] [])]]))], false⟩] (by exact ⟨by kernel_rfl, by kernel_rfl⟩) ?_ ?_
      · exact ⟨fun _ => astep_move rfl,
    fun _ => astep_move rfl,
    fun _ => astep_move rfl,
    fun _ => astep_idxd rfl Try.underlying29 ti115 rfl rfl hi9 (map_get c_GRow hj10) rfl,
    fun _ => astep_loadd rfl ti115 (by decide) (Nat.le_of_ble_eq_true rfl) rfl,
    fun _ => astep_callq (first := []) (cap := [.ref 0 1 0 0]) (vs := [(.agg [I x7.T, I x7.P, I x7.Liquid, I x7.Vapour, I x7.Silica])]) (σr := [(.own 1 [[(.fn (.func 81) [] [])]])]) (σr' := [(.own 1 [[(.fn (.func 81) [] [])]])]) (res' := (B x12)) [0] rfl enter95 (steam_all_steam_Row_1X_1_ok N x7 _ hf11) rfl (rn_agg (rnl_cons (.plain _ (NLt.agg _ (nl_cons (NLt.lit _) (nl_cons (NLt.lit _) (nl_cons (NLt.lit _) (nl_cons (NLt.lit _) (nl_cons (NLt.lit _) nl_nil))))))) (rnl_cons (rnk_ref rfl) rnl_nil))) (slw_cons (srn_box (rnl_cons (.plain _ (NLt.fn _ _ _ nl_nil nl_nil)) rnl_nil)) slw_nil) (slw_cons (srn_box (rnl_cons (.plain _ (NLt.fn _ _ _ nl_nil nl_nil)) rnl_nil)) slw_nil) (.plain _ (NLt.lit _)) rfl rfl rfl, trivial⟩
      rcases Bool.eq_false_or_eq_true (x12) with hc13 | hc13
      · replace h := bif_t hc13 h
        refine awp_ift hc13 (by kernel_rfl) ?_
        refine awp_reg [⟨[(.tmp 5, I y3)], [], I y3, [], false⟩,
    ⟨[(.tmp 17, I y3)], [], I y3, [], false⟩] (by exact ⟨by kernel_rfl, by kernel_rfl⟩) ?_ ?_
        · exact ⟨fun _ => astep_move rfl,
    fun _ => astep_assign rfl, trivial⟩
        refine awp_mor (mor_to (n := 19) (l' := [(4, I y3)]) (own' := [(.own 1 [[(.fn (.func 81) [] [])]])]) [(4, I y3)] [0] [(.own 1 [[(.fn (.func 81) [] [])]])] hφ0 (by kernel_rfl) (by kernel_rfl) (by kernel_rfl) ⟨rfl, .rn (.plain _ (NLt.lit _)), trivial⟩ ⟨(spw_box ⟨(.rn (rn_fn rnl_nil rnl_nil)), trivial⟩), trivial⟩) ?_
        refine awp_ret ?_
        refine blockA_r ?_
        refine thenA_r ?_
        refine thenA_r ?_
        refine blockA_r ?_
        refine thenA_r ?_
        obtain rfl := Option.some.inj h
        exact ⟨_, Mor.rfl, fin_of (vs := [I y3]) ⟨resOK_tmp (by kernel_rfl), trivial⟩ rfl (NLt.of0 (NLt.lit _)) (by kernel_rfl) (snl_cons (snl_box (nl_cons (NLt.of0 (NLt.fn _ _ _ nl_nil nl_nil)) nl_nil)) snl_nil)⟩
      · replace h := bif_f hc13 h
        refine awp_ifn hc13 (by kernel_rfl) ?_
        refine awp_skip ?_
        refine blockA_n ?_
        refine thenA_n ?_
        refine awp_reg1 [⟨[(.tmp 8, I y3), (.const (.int .i64 1), I 1)], [], (I (w64 (y3 + 1))), [], false⟩,
    ⟨[(.tmp 18, (I (w64 (y3 + 1))))], [], (I (w64 (y3 + 1))), [], false⟩] (by exact ⟨by kernel_rfl, by kernel_rfl⟩) ?_ ?_
        · exact ⟨fun _ => astep_bin rfl rfl,
    fun _ => astep_move rfl, trivial⟩
        refine thenA_n ?_
        exact around_mor (mor_to (n := 19) (l' := [(0, (.dat 5 ((p0 : List GRow).map c_GRow))), (1, (.fn (.func 95) [] [.ref 0 1 0 0])), (7, (I ((p0.length : Int)))), (8, (I ((w64 (y3 + 1)))))]) (own' := [(.own 1 [[(.fn (.func 81) [] [])]])]) [(0, (.dat 5 ((p0 : List GRow).map c_GRow))), (1, (.fn (.func 95) [] [.ref 0 1 0 0])), (7, (I ((p0.length : Int)))), (8, (I (w64 (y3 + 1))))] [0] [(.own 1 [[(.fn (.func 81) [] [])]])] hφ0 (by kernel_rfl) (by kernel_rfl) (by kernel_rfl) ⟨rfl, .rn (.plain _ (nl_dat nl_GRow _)), rfl, .rn (rn_fn rnl_nil (rnl_cons (rnq_ref rfl) rnl_nil)), rfl, .rn (.plain _ (NLt.lit _)), rfl, .rn (.plain _ (NLt.lit _)), trivial⟩ ⟨(spw_box ⟨(.rn (rn_fn rnl_nil rnl_nil)), trivial⟩), trivial⟩) (ih (w64 (y3 + 1)) h)
    · replace h := bif_f hc6 h
      refine awp_ifn hc6 (by kernel_rfl) ?_
      refine awp_exit ?_
      refine thenA_x ?_
      refine thenA_x ?_
      refine blockA_e rfl ?_
      refine thenA_n ?_
      exact ⟨(), h, (mor_to (n := 19) (l' := []) (own' := [(.own 1 [[(.fn (.func 81) [] [])]])]) [] [0] [(.own 1 [[(.fn (.func 81) [] [])]])] hφ0 (by kernel_rfl) (by kernel_rfl) (by kernel_rfl) trivial ⟨(spw_box ⟨(.rn (rn_fn rnl_nil rnl_nil)), trivial⟩), trivial⟩)⟩

def slices_ContainsFunc_steam_Row_steam_RowX_1 (N : Nat) (p0 : (List GRow)) : Option Bool :=
  (slices_IndexFunc_steam_Row_steam_RowX_1 N p0).bind fun x3 =>
  some (decide (x3 ≥ 0))
set_option maxRecDepth 100000 in
set_option maxHeartbeats 4000000 in
theorem slices_ContainsFunc_steam_Row_steam_RowX_1_ok (N : Nat) (p0 : (List GRow)) (r : Bool) (h : slices_ContainsFunc_steam_Row_steam_RowX_1 N p0 = some r) : Spec Try.prog 94 [(.dat 5 ((p0 : List GRow).map c_GRow)), (.fn (.func 95) [] [(.ref 0 1 (0) 0)])] [(.own 1 [[(.fn (.func 81) [] [])]])] (B (r)) [(.own 1 [[(.fn (.func 81) [] [])]])] := by
  refine spec_of_awp Try.func94 rfl 1 (Nat.le_of_ble_eq_true rfl) (fun X φ0 w0 hφ0 => ?_)
  unfold slices_ContainsFunc_steam_Row_steam_RowX_1 at h
  refine awp_finm ?_
  refine awp_reg [⟨[(.const (.bool false), B false)], [], B false, [], false⟩] (by exact ⟨by kernel_rfl, by kernel_rfl⟩) ?_ ?_
  · exact ⟨fun _ => astep_assign rfl, trivial⟩
  obtain ⟨x3, hf2, h⟩ := bind_out h
  refine awp_reg [⟨[(.tmp 0, (.dat 5 ((p0 : List GRow).map c_GRow)))], [], (.dat 5 ((p0 : List GRow).map c_GRow)), [], false⟩,
    ⟨[(.tmp 1, (.fn (.func 95) [] [.ref 0 1 0 0]))], [], (.fn (.func 95) [] [.ref 0 1 0 0]), [], false⟩,
    ⟨[(.func 99, (.fn (.func 99) [] [])), (.tmp 5, (.dat 5 ((p0 : List GRow).map c_GRow))), (.tmp 6, (.fn (.func 95) [] [.ref 0 1 0 0]))], [(0, (.own 1 [[(.fn (.func 81) [] [])]]))], I x3, [(0, (.own 1 [[(.fn (.func 81) [] [])]]))], false⟩,
    ⟨[(.tmp 7, I x3), (.const (.int .i64 0), I 0)], [], (B ((decide (x3 ≥ 0)))), [], false⟩,
    ⟨[(.tmp 8, (B ((decide (x3 ≥ 0)))))], [], (B ((decide (x3 ≥ 0)))), [], false⟩] (by exact ⟨by kernel_rfl, by kernel_rfl⟩) ?_ ?_
  · exact ⟨fun _ => astep_move rfl,
    fun _ => astep_move rfl,
    fun _ => astep_callq (first := []) (cap := []) (vs := [(.dat 5 ((p0 : List GRow).map c_GRow)), (.fn (.func 95) [] [.ref 0 1 0 0])]) (σr := [(.own 1 [[(.fn (.func 81) [] [])]])]) (σr' := [(.own 1 [[(.fn (.func 81) [] [])]])]) (res' := (I x3)) [0] rfl enter99 (slices_IndexFunc_steam_Row_steam_RowX_1_ok N p0 _ hf2) rfl (rn_agg (rnl_cons (.plain _ (nl_dat nl_GRow _)) (rnl_cons (rn_fn rnl_nil (rnl_cons (rnk_ref rfl) rnl_nil)) rnl_nil))) (slw_cons (srn_box (rnl_cons (.plain _ (NLt.fn _ _ _ nl_nil nl_nil)) rnl_nil)) slw_nil) (slw_cons (srn_box (rnl_cons (.plain _ (NLt.fn _ _ _ nl_nil nl_nil)) rnl_nil)) slw_nil) (.plain _ (NLt.lit _)) rfl rfl rfl,
    fun _ => astep_bin rfl rfl,
    fun _ => astep_assign rfl, trivial⟩
  refine awp_mor (mor_to (n := 9) (l' := [(4, (B ((decide (x3 ≥ 0)))))]) (own' := [(.own 1 [[(.fn (.func 81) [] [])]])]) [(4, (B ((decide (x3 ≥ 0)))))] [0] [(.own 1 [[(.fn (.func 81) [] [])]])] hφ0 (by kernel_rfl) (by kernel_rfl) (by kernel_rfl) ⟨rfl, .rn (.plain _ (NLt.lit _)), trivial⟩ ⟨(spw_box ⟨(.rn (rn_fn rnl_nil rnl_nil)), trivial⟩), trivial⟩) ?_
  refine awp_ret ?_
  obtain rfl := Option.some.inj h
  exact ⟨_, Mor.rfl, fin_of (vs := [(B ((decide (x3 ≥ 0))))]) ⟨resOK_tmp (by kernel_rfl), trivial⟩ rfl (NLt.of0 (NLt.lit _)) (by kernel_rfl) (snl_cons (snl_box (nl_cons (NLt.of0 (NLt.fn _ _ _ nl_nil nl_nil)) nl_nil)) snl_nil)⟩

def steam_all_steam_RowX_1 (N : Nat) (p0 : (List GRow)) : Option Bool :=
  (slices_ContainsFunc_steam_Row_steam_RowX_1 N p0).bind fun x2 =>
  some (!x2)
set_option maxRecDepth 100000 in
set_option maxHeartbeats 4000000 in
theorem steam_all_steam_RowX_1_ok (N : Nat) (p0 : (List GRow)) (r : Bool) (h : steam_all_steam_RowX_1 N p0 = some r) : Spec Try.prog 80 [(.dat 5 ((p0 : List GRow).map c_GRow)), (.fn (.func 81) [] [])] [] (B (r)) [] := by
  refine spec_of_awp Try.func80 rfl 0 (Nat.le_of_ble_eq_true rfl) (fun X φ0 w0 hφ0 => ?_)
  unfold steam_all_steam_RowX_1 at h
  refine awp_reg [⟨[(.tmp 1, (.fn (.func 81) [] []))], [(0, .unused)], .ref 0 1 0 0, [(0, (.own 1 [[(.fn (.func 81) [] [])]]))], false⟩,
    ⟨[(.const (.bool false), B false)], [], B false, [], false⟩] (by exact ⟨by kernel_rfl, by kernel_rfl⟩) ?_ ?_
  · exact ⟨fun _ => astep_box rfl (by rfl) rfl rfl,
    fun _ => astep_assign rfl, trivial⟩
  obtain ⟨x2, hf1, h⟩ := bind_out h
  refine awp_reg [⟨[(.tmp 0, (.dat 5 ((p0 : List GRow).map c_GRow)))], [], (.dat 5 ((p0 : List GRow).map c_GRow)), [], false⟩,
    ⟨[(.tmp 3, .ref 0 1 0 0)], [], (.fn (.func 95) [] [.ref 0 1 0 0]), [], false⟩,
    ⟨[(.func 94, (.fn (.func 94) [] [])), (.tmp 5, (.dat 5 ((p0 : List GRow).map c_GRow))), (.tmp 6, (.fn (.func 95) [] [.ref 0 1 0 0]))], [(0, (.own 1 [[(.fn (.func 81) [] [])]]))], B x2, [(0, (.own 1 [[(.fn (.func 81) [] [])]]))], false⟩,
    ⟨[(.tmp 7, B x2)], [], (B ((!x2))), [], false⟩,
    ⟨[(.tmp 8, (B ((!x2))))], [], (B ((!x2))), [], false⟩] (by exact ⟨by kernel_rfl, by kernel_rfl⟩) ?_ ?_
  · exact ⟨fun _ => astep_move rfl,
    fun _ => astep_func (fs := []) (cs := [.ref 0 1 0 0]) rfl rfl rfl rfl,
    fun _ => astep_callq (first := []) (cap := []) (vs := [(.dat 5 ((p0 : List GRow).map c_GRow)), (.fn (.func 95) [] [.ref 0 1 0 0])]) (σr := [(.own 1 [[(.fn (.func 81) [] [])]])]) (σr' := [(.own 1 [[(.fn (.func 81) [] [])]])]) (res' := (B x2)) [0] rfl enter94 (slices_ContainsFunc_steam_Row_steam_RowX_1_ok N p0 _ hf1) rfl (rn_agg (rnl_cons (.plain _ (nl_dat nl_GRow _)) (rnl_cons (rn_fn rnl_nil (rnl_cons (rnk_ref rfl) rnl_nil)) rnl_nil))) (slw_cons (srn_box (rnl_cons (.plain _ (NLt.fn _ _ _ nl_nil nl_nil)) rnl_nil)) slw_nil) (slw_cons (srn_box (rnl_cons (.plain _ (NLt.fn _ _ _ nl_nil nl_nil)) rnl_nil)) slw_nil) (.plain _ (NLt.lit _)) rfl rfl rfl,
    fun _ => astep_not rfl,
    fun _ => astep_assign rfl, trivial⟩
  refine awp_ret ?_
  obtain rfl := Option.some.inj h
  exact ⟨⟨[(B ((!x2)))], ⟨resOK_tmp (by kernel_rfl), trivial⟩, rfl⟩, (NLt.lit _), Nat.le_refl _, fun n hn => absurd hn (Nat.not_lt_zero n)⟩

def steam_Table_validX_loop1 (N : Nat) (p0 : (List GRow)) (k2 : Unit → Option Bool) : Nat → Int → Option Bool
  | 0, _ => none
  | n6 + 1, y4 =>
    bif (decide (y4 < ((p0.drop (1 : Int).toNat).length : Int))) then
      (getI (p0.drop (1 : Int).toNat) y4).bind fun x8 =>
      (getI p0 y4).bind fun x12 =>
      bif (decide (x8.T ≤ x12.T)) then
        some false
      else
        bif (decide (x8.P ≤ x12.P)) then
          some false
        else
          bif (decide (x8.Liquid ≤ x12.Liquid)) then
            some false
          else
            bif (decide (x8.Silica < x12.Silica)) then
              some false
            else
              steam_Table_validX_loop1 N p0 k2 n6 (w64 (y4 + 1))
    else
      k2 ()
def steam_Table_validX (N : Nat) (p0 : (List GRow)) : Option Bool :=
  joinK (fun _ =>
      joinK (fun _ =>
          some true) fun k2 : Unit → Option Bool =>
      chk (decide (0 ≤ 1) && decide (1 ≤ (p0.length : Int)) && decide ((p0.length : Int) ≤ (p0.length : Int))) <|
      steam_Table_validX_loop1 N p0 k2 N 0) fun k1 : Unit → Option Bool =>
  (steam_withinX N (p0.length : Int) 2 20).bind fun x21 =>
  bif (!x21) then
    some false
  else
    (steam_all_steam_RowX_1 N p0).bind fun x24 =>
    bif (!x24) then
      some false
    else
      k1 ()
set_option maxRecDepth 100000 in
set_option maxHeartbeats 4000000 in
theorem steam_Table_validX_ok (N : Nat) (p0 : (List GRow)) (r : Bool) (h : steam_Table_validX N p0 = some r) : Spec Try.prog 56 [(.dat 5 (p0.map c_GRow))] [] (B r) [] := by
  refine spec_of_awp Try.func56 rfl 0 (Nat.le_of_ble_eq_true rfl) (fun X φ0 w0 hφ0 => ?_)
  unfold steam_Table_validX at h
  refine awp_reg [⟨[(.const (.bool false), B false)], [], B false, [], false⟩] (by exact ⟨by kernel_rfl, by kernel_rfl⟩) ?_ ?_
  · exact ⟨fun _ => astep_assign rfl, trivial⟩
  obtain ⟨k1, hk_k1, h⟩ := joinK_out h
  refine awp_join (τ := Unit) (fun t => k1 t = some r) (fun _ => ⟨mk 54 [(0, (.dat 5 ((p0 : List GRow).map c_GRow)))], []⟩) (fun t h => ?_) ?_
  · subst hk_k1
    obtain ⟨k2, hk_k2, h⟩ := joinK_out h
    refine awp_join (τ := Unit) (fun t => k2 t = some r) (fun _ => ⟨mk 54 [], []⟩) (fun t h => ?_) ?_
    · subst hk_k2
      refine awp_reg [⟨[(.const (.bool true), B true)], [], B true, [], false⟩] (by exact ⟨by kernel_rfl, by kernel_rfl⟩) ?_ ?_
      · exact ⟨fun _ => astep_assign rfl, trivial⟩
      refine awp_ret ?_
      obtain rfl := Option.some.inj h
      exact ⟨⟨[B true], ⟨resOK_tmp (by kernel_rfl), trivial⟩, rfl⟩, (NLt.lit _), Nat.le_refl _, fun n hn => absurd hn (Nat.not_lt_zero n)⟩
    · skip
      obtain ⟨hs3, h⟩ := chk_out h
      refine awp_reg [⟨[(.tmp 0, (.dat 5 ((p0 : List GRow).map c_GRow)))], [], (.dat 5 ((p0 : List GRow).map c_GRow)), [], false⟩,
    ⟨[(.tmp 15, (.dat 5 ((p0 : List GRow).map c_GRow))), (.const (.int .i64 1), I 1)], [], (.dat 5 ((p0.drop (1 : Int).toNat : List GRow).map c_GRow)), [], false⟩,
    ⟨[(.tmp 16, (.dat 5 ((p0.drop (1 : Int).toNat : List GRow).map c_GRow)))], [], (I (((p0.drop (1 : Int).toNat).length : Int))), [], false⟩,
    ⟨[(.const (.int .i64 0), I 0)], [], I 0, [], false⟩] (by exact ⟨by kernel_rfl, by kernel_rfl⟩) ?_ ?_
      · exact ⟨fun _ => astep_move rfl,
    fun _ => astep_sliced (k := .i64) (k' := .i64) (lo := some (.const (.int .i64 1))) (hi := none) (l := 1) (hh := ((p0.length : Nat) : Int)) rfl Try.underlying30 ti115 rfl (fun e => nomatch e) (fun _ => by simp) (and3a hs3) (and3b hs3) (and3c (c_GRow) hs3) (sl_ln c_GRow),
    fun _ => astep_lenm (c := c_GRow) (l := p0.drop (1 : Int).toNat) (astep_len rfl Try.underlying30 rfl),
    fun _ => astep_move rfl, trivial⟩
      refine awp_block ?_
      refine awp_mor (mor_to (n := 54) (l' := [(0, (.dat 5 ((p0 : List GRow).map c_GRow))), (16, (.dat 5 ((p0.drop (1 : Int).toNat : List GRow).map c_GRow))), (17, (I (((p0.drop (1 : Int).toNat).length : Int)))), (18, I 0)]) (own' := []) [(0, (.dat 5 ((p0 : List GRow).map c_GRow))), (16, (.dat 5 ((p0.drop (1 : Int).toNat : List GRow).map c_GRow))), (17, (I (((p0.drop (1 : Int).toNat).length : Int)))), (18, I 0)] [] [] hφ0 (by kernel_rfl) (by kernel_rfl) (by kernel_rfl) ⟨rfl, .rn (.plain _ (nl_dat nl_GRow _)), rfl, .rn (.plain _ (nl_dat nl_GRow _)), rfl, .rn (.plain _ (NLt.lit _)), rfl, .rn (.plain _ (NLt.lit _)), trivial⟩ trivial) ?_
      refine awp_ind (τ := Int) (fun n t => steam_Table_validX_loop1 N p0 k2 n t = some r) (fun y4 => ⟨mk 54 [(0, (.dat 5 ((p0 : List GRow).map c_GRow))), (16, (.dat 5 ((p0.drop (1 : Int).toNat : List GRow).map c_GRow))), (17, (I (((p0.drop (1 : Int).toNat).length : Int)))), (18, I y4)], []⟩) (fun t h => by rw [steam_Table_validX_loop1] at h; cases h) (fun n6 ih y4 h => ?_) N (0) h
      rw [steam_Table_validX_loop1] at h
      skip
      refine awp_reg [⟨[(.tmp 18, I y4), (.tmp 17, (I (((p0.drop (1 : Int).toNat).length : Int))))], [], (B ((decide (y4 < ((p0.drop (1 : Int).toNat).length : Int))))), [], false⟩] (by exact ⟨by kernel_rfl, by kernel_rfl⟩) ?_ ?_
      · exact ⟨fun _ => astep_bin rfl rfl, trivial⟩
      refine awp_seq ?_
      rcases Bool.eq_false_or_eq_true ((decide (y4 < ((p0.drop (1 : Int).toNat).length : Int)))) with hc7 | hc7
      · replace h := bif_t hc7 h
        refine awp_ift hc7 (by kernel_rfl) ?_
        refine awp_skip ?_
        refine thenA_n ?_
        refine awp_seq ?_
        refine awp_block ?_
        obtain ⟨x8, hg9, h⟩ := bind_out h
        obtain ⟨hi10, hj11⟩ := getI_some hg9
        refine awp_reg [⟨[(.tmp 18, I y4)], [], I y4, [], false⟩,
    ⟨[(.tmp 16, (.dat 5 ((p0.drop (1 : Int).toNat : List GRow).map c_GRow))), (.tmp 18, I y4)], [], (.dptr (c_GRow (x8)) 0), [], false⟩,
    ⟨[(.tmp 21, (.dptr (c_GRow (x8)) 0))], [], (.agg [I x8.T, I x8.P, I x8.Liquid, I x8.Vapour, I x8.Silica]), [], false⟩,
    ⟨[], [(0, .unused)], .ref 0 5 0 0, [(0, .own 5 [[I 0, I 0, I 0, I 0, I 0]])], false⟩,
    ⟨[(.tmp 20, I y4)], [], I y4, [], false⟩,
    ⟨[(.tmp 4, .ref 0 5 0 0), (.tmp 22, (.agg [I x8.T, I x8.P, I x8.Liquid, I x8.Vapour, I x8.Silica]))], [(0, .own 5 [[I 0, I 0, I 0, I 0, I 0]])], .any, [(0, .own 5 [[I x8.T, I x8.P, I x8.Liquid, I x8.Vapour, I x8.Silica]])], false⟩] (by exact ⟨by kernel_rfl, by kernel_rfl⟩) ?_ ?_
        · exact ⟨fun _ => astep_move rfl,
    fun _ => astep_idxd rfl Try.underlying30 ti115 rfl rfl hi10 (map_get c_GRow hj11) rfl,
    fun _ => astep_loadd rfl ti115 (by decide) (Nat.le_of_ble_eq_true rfl) rfl,
    fun _ => astep_alloc rfl tz115 rfl,
    fun _ => astep_assign rfl,
    fun _ => astep_store rfl ti115 (by rfl) rfl (Nat.le_of_ble_eq_true rfl) rfl, trivial⟩
        obtain ⟨x12, hg13, h⟩ := bind_out h
        obtain ⟨hi14, hj15⟩ := getI_some hg13
        refine awp_reg [⟨[(.tmp 0, (.dat 5 ((p0 : List GRow).map c_GRow)))], [], (.dat 5 ((p0 : List GRow).map c_GRow)), [], false⟩,
    ⟨[(.tmp 3, I y4)], [], I y4, [], false⟩,
    ⟨[(.tmp 23, (.dat 5 ((p0 : List GRow).map c_GRow))), (.tmp 24, I y4)], [], (.dptr (c_GRow (x12)) 0), [], false⟩,
    ⟨[(.tmp 25, (.dptr (c_GRow (x12)) 0))], [], (.agg [I x12.T, I x12.P, I x12.Liquid, I x12.Vapour, I x12.Silica]), [], false⟩,
    ⟨[], [(1, .unused)], .ref 1 5 0 0, [(1, .own 5 [[I 0, I 0, I 0, I 0, I 0]])], false⟩,
    ⟨[(.tmp 5, .ref 1 5 0 0), (.tmp 26, (.agg [I x12.T, I x12.P, I x12.Liquid, I x12.Vapour, I x12.Silica]))], [(1, .own 5 [[I 0, I 0, I 0, I 0, I 0]])], .any, [(1, .own 5 [[I x12.T, I x12.P, I x12.Liquid, I x12.Vapour, I x12.Silica]])], false⟩] (by exact ⟨by kernel_rfl, by kernel_rfl⟩) ?_ ?_
        · exact ⟨fun _ => astep_move rfl,
    fun _ => astep_move rfl,
    fun _ => astep_idxd rfl Try.underlying30 ti115 rfl rfl hi14 (map_get c_GRow hj15) rfl,
    fun _ => astep_loadd rfl ti115 (by decide) (Nat.le_of_ble_eq_true rfl) rfl,
    fun _ => astep_alloc rfl tz115 rfl,
    fun _ => astep_store rfl ti115 (by rfl) rfl (Nat.le_of_ble_eq_true rfl) rfl, trivial⟩
        rcases Bool.eq_false_or_eq_true ((decide (x8.T ≤ x12.T))) with hb16 | hb16
        · replace h := bif_t hb16 h
          refine awp_reg [⟨[(.tmp 4, .ref 0 5 0 0)], [(0, .own 5 [[I x8.T, I x8.P, I x8.Liquid, I x8.Vapour, I x8.Silica]])], .ref 0 5 0 0, [], false⟩,
    ⟨[(.tmp 27, .ref 0 5 0 0)], [(0, .own 5 [[I x8.T, I x8.P, I x8.Liquid, I x8.Vapour, I x8.Silica]])], I x8.T, [], false⟩,
    ⟨[(.tmp 5, .ref 1 5 0 0)], [(1, .own 5 [[I x12.T, I x12.P, I x12.Liquid, I x12.Vapour, I x12.Silica]])], .ref 1 5 0 0, [], false⟩,
    ⟨[(.tmp 29, .ref 1 5 0 0)], [(1, .own 5 [[I x12.T, I x12.P, I x12.Liquid, I x12.Vapour, I x12.Silica]])], I x12.T, [], false⟩,
    ⟨[(.tmp 28, I x8.T), (.tmp 30, I x12.T)], [], (B ((decide (x8.T ≤ x12.T)))), [], false⟩,
    ⟨[(.tmp 31, (B ((decide (x8.T ≤ x12.T)))))], [], B true, [], false⟩,
    ⟨[(.tmp 32, B true)], [], (.lit undef), [], true⟩,
    ⟨[(.tmp 32, B true)], [], (.lit undef), [], true⟩,
    ⟨[(.tmp 32, B true)], [], (.lit undef), [], true⟩,
    ⟨[(.tmp 32, B true)], [], (.lit undef), [], true⟩,
    ⟨[(.tmp 32, B true)], [], (.lit undef), [], true⟩,
    ⟨[(.tmp 32, B true), (.const (.bool true), B true), (.tmp 37, (.lit undef))], [], B true, [], false⟩,
    ⟨[(.tmp 38, B true)], [], B true, [], false⟩,
    ⟨[(.tmp 39, B true)], [], (.lit undef), [], true⟩,
    ⟨[(.tmp 39, B true)], [], (.lit undef), [], true⟩,
    ⟨[(.tmp 39, B true)], [], (.lit undef), [], true⟩,
    ⟨[(.tmp 39, B true)], [], (.lit undef), [], true⟩,
    ⟨[(.tmp 39, B true)], [], (.lit undef), [], true⟩,
    ⟨[(.tmp 39, B true), (.const (.bool true), B true), (.tmp 44, (.lit undef))], [], B true, [], false⟩,
    ⟨[(.tmp 45, B true)], [], B true, [], false⟩,
    ⟨[(.tmp 46, B true)], [], (.lit undef), [], true⟩,
    ⟨[(.tmp 46, B true)], [], (.lit undef), [], true⟩,
    ⟨[(.tmp 46, B true)], [], (.lit undef), [], true⟩,
    ⟨[(.tmp 46, B true)], [], (.lit undef), [], true⟩,
    ⟨[(.tmp 46, B true)], [], (.lit undef), [], true⟩,
    ⟨[(.tmp 46, B true), (.const (.bool true), B true), (.tmp 51, (.lit undef))], [], B true, [], false⟩] (by exact ⟨by kernel_rfl, by kernel_rfl⟩) ?_ ?_
          · exact ⟨fun _ => astep_faddr rfl Try.underlying115 rfl rfl ti3 (by decide) rfl,
    fun _ => astep_load rfl ti3 (by decide) rfl (Nat.le_of_ble_eq_true rfl) rfl,
    fun _ => astep_faddr rfl Try.underlying115 rfl rfl ti3 (by decide) rfl,
    fun _ => astep_load rfl ti3 (by decide) rfl (Nat.le_of_ble_eq_true rfl) rfl,
    fun _ => astep_bin rfl rfl,
    fun _ => astep_b hb16 (astep_move rfl),
    fun hs => (Bool.noConfusion hs),
    fun hs => (Bool.noConfusion hs),
    fun hs => (Bool.noConfusion hs),
    fun hs => (Bool.noConfusion hs),
    fun hs => (Bool.noConfusion hs),
    fun _ => astep_pick rfl rfl,
    fun _ => astep_move rfl,
    fun hs => (Bool.noConfusion hs),
    fun hs => (Bool.noConfusion hs),
    fun hs => (Bool.noConfusion hs),
    fun hs => (Bool.noConfusion hs),
    fun hs => (Bool.noConfusion hs),
    fun _ => astep_pick rfl rfl,
    fun _ => astep_move rfl,
    fun hs => (Bool.noConfusion hs),
    fun hs => (Bool.noConfusion hs),
    fun hs => (Bool.noConfusion hs),
    fun hs => (Bool.noConfusion hs),
    fun hs => (Bool.noConfusion hs),
    fun _ => astep_pick rfl rfl, trivial⟩
          refine awp_true (by kernel_rfl) ?_
          refine awp_reg [⟨[(.const (.bool false), B false)], [], B false, [], false⟩] (by exact ⟨by kernel_rfl, by kernel_rfl⟩) ?_ ?_
          · exact ⟨fun _ => astep_assign rfl, trivial⟩
          refine awp_ret ?_
          refine blockA_r ?_
          refine thenA_r ?_
          refine thenA_r ?_
          refine blockA_r ?_
          refine thenA_r ?_
          obtain rfl := Option.some.inj h
          exact ⟨⟨[B false], ⟨resOK_tmp (by kernel_rfl), trivial⟩, rfl⟩, (NLt.lit _), Nat.le_refl _, fun n hn => absurd hn (Nat.not_lt_zero n)⟩
        · replace h := bif_f hb16 h
          rcases Bool.eq_false_or_eq_true ((decide (x8.P ≤ x12.P))) with hb17 | hb17
          · replace h := bif_t hb17 h
            refine awp_reg [⟨[(.tmp 4, .ref 0 5 0 0)], [(0, .own 5 [[I x8.T, I x8.P, I x8.Liquid, I x8.Vapour, I x8.Silica]])], .ref 0 5 0 0, [], false⟩,
    ⟨[(.tmp 27, .ref 0 5 0 0)], [(0, .own 5 [[I x8.T, I x8.P, I x8.Liquid, I x8.Vapour, I x8.Silica]])], I x8.T, [], false⟩,
    ⟨[(.tmp 5, .ref 1 5 0 0)], [(1, .own 5 [[I x12.T, I x12.P, I x12.Liquid, I x12.Vapour, I x12.Silica]])], .ref 1 5 0 0, [], false⟩,
    ⟨[(.tmp 29, .ref 1 5 0 0)], [(1, .own 5 [[I x12.T, I x12.P, I x12.Liquid, I x12.Vapour, I x12.Silica]])], I x12.T, [], false⟩,
    ⟨[(.tmp 28, I x8.T), (.tmp 30, I x12.T)], [], (B ((decide (x8.T ≤ x12.T)))), [], false⟩,
    ⟨[(.tmp 31, (B ((decide (x8.T ≤ x12.T)))))], [], B false, [], false⟩,
    ⟨[(.tmp 32, B false), (.tmp 4, .ref 0 5 0 0)], [(0, .own 5 [[I x8.T, I x8.P, I x8.Liquid, I x8.Vapour, I x8.Silica]])], .ref 0 5 0 1, [], false⟩,
    ⟨[(.tmp 32, B false), (.tmp 33, .ref 0 5 0 1)], [(0, .own 5 [[I x8.T, I x8.P, I x8.Liquid, I x8.Vapour, I x8.Silica]])], I x8.P, [], false⟩,
    ⟨[(.tmp 32, B false), (.tmp 5, .ref 1 5 0 0)], [(1, .own 5 [[I x12.T, I x12.P, I x12.Liquid, I x12.Vapour, I x12.Silica]])], .ref 1 5 0 1, [], false⟩,
    ⟨[(.tmp 32, B false), (.tmp 35, .ref 1 5 0 1)], [(1, .own 5 [[I x12.T, I x12.P, I x12.Liquid, I x12.Vapour, I x12.Silica]])], I x12.P, [], false⟩,
    ⟨[(.tmp 32, B false), (.tmp 34, I x8.P), (.tmp 36, I x12.P)], [], (B ((decide (x8.P ≤ x12.P)))), [], false⟩,
    ⟨[(.tmp 32, B false), (.const (.bool true), B true), (.tmp 37, (B ((decide (x8.P ≤ x12.P)))))], [], (B ((decide (x8.P ≤ x12.P)))), [], false⟩,
    ⟨[(.tmp 38, (B ((decide (x8.P ≤ x12.P)))))], [], B true, [], false⟩,
    ⟨[(.tmp 39, B true)], [], (.lit undef), [], true⟩,
    ⟨[(.tmp 39, B true)], [], (.lit undef), [], true⟩,
    ⟨[(.tmp 39, B true)], [], (.lit undef), [], true⟩,
    ⟨[(.tmp 39, B true)], [], (.lit undef), [], true⟩,
    ⟨[(.tmp 39, B true)], [], (.lit undef), [], true⟩,
    ⟨[(.tmp 39, B true), (.const (.bool true), B true), (.tmp 44, (.lit undef))], [], B true, [], false⟩,
    ⟨[(.tmp 45, B true)], [], B true, [], false⟩,
    ⟨[(.tmp 46, B true)], [], (.lit undef), [], true⟩,
    ⟨[(.tmp 46, B true)], [], (.lit undef), [], true⟩,
    ⟨[(.tmp 46, B true)], [], (.lit undef), [], true⟩,
    ⟨[(.tmp 46, B true)], [], (.lit undef), [], true⟩,
    ⟨[(.tmp 46, B true)], [], (.lit undef), [], true⟩,
    ⟨[(.tmp 46, B true), (.const (.bool true), B true), (.tmp 51, (.lit undef))], [], B true, [], false⟩] (by exact ⟨by kernel_rfl, by kernel_rfl⟩) ?_ ?_
            · exact ⟨fun _ => astep_faddr rfl Try.underlying115 rfl rfl ti3 (by decide) rfl,
    fun _ => astep_load rfl ti3 (by decide) rfl (Nat.le_of_ble_eq_true rfl) rfl,
    fun _ => astep_faddr rfl Try.underlying115 rfl rfl ti3 (by decide) rfl,
    fun _ => astep_load rfl ti3 (by decide) rfl (Nat.le_of_ble_eq_true rfl) rfl,
    fun _ => astep_bin rfl rfl,
    fun _ => astep_b hb16 (astep_move rfl),
    fun _ => astep_guard (astep_faddr rfl Try.underlying115 rfl rfl ti3 (by decide) rfl),
    fun _ => astep_guard (astep_load rfl ti3 (by decide) rfl (Nat.le_of_ble_eq_true rfl) rfl),
    fun _ => astep_guard (astep_faddr rfl Try.underlying115 rfl rfl ti3 (by decide) rfl),
    fun _ => astep_guard (astep_load rfl ti3 (by decide) rfl (Nat.le_of_ble_eq_true rfl) rfl),
    fun _ => astep_guard (astep_bin rfl rfl),
    fun _ => astep_pick rfl rfl,
    fun _ => astep_b hb17 (astep_move rfl),
    fun hs => (Bool.noConfusion hs),
    fun hs => (Bool.noConfusion hs),
    fun hs => (Bool.noConfusion hs),
    fun hs => (Bool.noConfusion hs),
    fun hs => (Bool.noConfusion hs),
    fun _ => astep_pick rfl rfl,
    fun _ => astep_move rfl,
    fun hs => (Bool.noConfusion hs),
    fun hs => (Bool.noConfusion hs),
    fun hs => (Bool.noConfusion hs),
    fun hs => (Bool.noConfusion hs),
    fun hs => (Bool.noConfusion hs),
    fun _ => astep_pick rfl rfl, trivial⟩
            refine awp_true (by kernel_rfl) ?_
            refine awp_reg [⟨[(.const (.bool false), B false)], [], B false, [], false⟩] (by exact ⟨by kernel_rfl, by kernel_rfl⟩) ?_ ?_
            · exact ⟨fun _ => astep_assign rfl, trivial⟩
            refine awp_ret ?_
            refine blockA_r ?_
            refine thenA_r ?_
            refine thenA_r ?_
            refine blockA_r ?_
            refine thenA_r ?_
            obtain rfl := Option.some.inj h
            exact ⟨⟨[B false], ⟨resOK_tmp (by kernel_rfl), trivial⟩, rfl⟩, (NLt.lit _), Nat.le_refl _, fun n hn => absurd hn (Nat.not_lt_zero n)⟩
          · replace h := bif_f hb17 h
            rcases Bool.eq_false_or_eq_true ((decide (x8.Liquid ≤ x12.Liquid))) with hb18 | hb18
            · replace h := bif_t hb18 h
              refine awp_reg [⟨[(.tmp 4, .ref 0 5 0 0)], [(0, .own 5 [[I x8.T, I x8.P, I x8.Liquid, I x8.Vapour, I x8.Silica]])], .ref 0 5 0 0, [], false⟩,
    ⟨[(.tmp 27, .ref 0 5 0 0)], [(0, .own 5 [[I x8.T, I x8.P, I x8.Liquid, I x8.Vapour, I x8.Silica]])], I x8.T, [], false⟩,
    ⟨[(.tmp 5, .ref 1 5 0 0)], [(1, .own 5 [[I x12.T, I x12.P, I x12.Liquid, I x12.Vapour, I x12.Silica]])], .ref 1 5 0 0, [], false⟩,
    ⟨[(.tmp 29, .ref 1 5 0 0)], [(1, .own 5 [[I x12.T, I x12.P, I x12.Liquid, I x12.Vapour, I x12.Silica]])], I x12.T, [], false⟩,
    ⟨[(.tmp 28, I x8.T), (.tmp 30, I x12.T)], [], (B ((decide (x8.T ≤ x12.T)))), [], false⟩,
    ⟨[(.tmp 31, (B ((decide (x8.T ≤ x12.T)))))], [], B false, [], false⟩,
    ⟨[(.tmp 32, B false), (.tmp 4, .ref 0 5 0 0)], [(0, .own 5 [[I x8.T, I x8.P, I x8.Liquid, I x8.Vapour, I x8.Silica]])], .ref 0 5 0 1, [], false⟩,
    ⟨[(.tmp 32, B false), (.tmp 33, .ref 0 5 0 1)], [(0, .own 5 [[I x8.T, I x8.P, I x8.Liquid, I x8.Vapour, I x8.Silica]])], I x8.P, [], false⟩,
    ⟨[(.tmp 32, B false), (.tmp 5, .ref 1 5 0 0)], [(1, .own 5 [[I x12.T, I x12.P, I x12.Liquid, I x12.Vapour, I x12.Silica]])], .ref 1 5 0 1, [], false⟩,
    ⟨[(.tmp 32, B false), (.tmp 35, .ref 1 5 0 1)], [(1, .own 5 [[I x12.T, I x12.P, I x12.Liquid, I x12.Vapour, I x12.Silica]])], I x12.P, [], false⟩,
    ⟨[(.tmp 32, B false), (.tmp 34, I x8.P), (.tmp 36, I x12.P)], [], (B ((decide (x8.P ≤ x12.P)))), [], false⟩,
    ⟨[(.tmp 32, B false), (.const (.bool true), B true), (.tmp 37, (B ((decide (x8.P ≤ x12.P)))))], [], (B ((decide (x8.P ≤ x12.P)))), [], false⟩,
    ⟨[(.tmp 38, (B ((decide (x8.P ≤ x12.P)))))], [], B false, [], false⟩,
    ⟨[(.tmp 39, B false), (.tmp 4, .ref 0 5 0 0)], [(0, .own 5 [[I x8.T, I x8.P, I x8.Liquid, I x8.Vapour, I x8.Silica]])], .ref 0 5 0 2, [], false⟩,
    ⟨[(.tmp 39, B false), (.tmp 40, .ref 0 5 0 2)], [(0, .own 5 [[I x8.T, I x8.P, I x8.Liquid, I x8.Vapour, I x8.Silica]])], I x8.Liquid, [], false⟩,
    ⟨[(.tmp 39, B false), (.tmp 5, .ref 1 5 0 0)], [(1, .own 5 [[I x12.T, I x12.P, I x12.Liquid, I x12.Vapour, I x12.Silica]])], .ref 1 5 0 2, [], false⟩,
    ⟨[(.tmp 39, B false), (.tmp 42, .ref 1 5 0 2)], [(1, .own 5 [[I x12.T, I x12.P, I x12.Liquid, I x12.Vapour, I x12.Silica]])], I x12.Liquid, [], false⟩,
    ⟨[(.tmp 39, B false), (.tmp 41, I x8.Liquid), (.tmp 43, I x12.Liquid)], [], (B ((decide (x8.Liquid ≤ x12.Liquid)))), [], false⟩,
    ⟨[(.tmp 39, B false), (.const (.bool true), B true), (.tmp 44, (B ((decide (x8.Liquid ≤ x12.Liquid)))))], [], (B ((decide (x8.Liquid ≤ x12.Liquid)))), [], false⟩,
    ⟨[(.tmp 45, (B ((decide (x8.Liquid ≤ x12.Liquid)))))], [], B true, [], false⟩,
    ⟨[(.tmp 46, B true)], [], (.lit undef), [], true⟩,
    ⟨[(.tmp 46, B true)], [], (.lit undef), [], true⟩,
    ⟨[(.tmp 46, B true)], [], (.lit undef), [], true⟩,
    ⟨[(.tmp 46, B true)], [], (.lit undef), [], true⟩,
    ⟨[(.tmp 46, B true)], [], (.lit undef), [], true⟩,
    ⟨[(.tmp 46, B true), (.const (.bool true), B true), (.tmp 51, (.lit undef))], [], B true, [], false⟩] (by exact ⟨by kernel_rfl, by kernel_rfl⟩) ?_ ?_
              · exact ⟨fun _ => astep_faddr rfl Try.underlying115 rfl rfl ti3 (by decide) rfl,
    fun _ => astep_load rfl ti3 (by decide) rfl (Nat.le_of_ble_eq_true rfl) rfl,
    fun _ => astep_faddr rfl Try.underlying115 rfl rfl ti3 (by decide) rfl,
    fun _ => astep_load rfl ti3 (by decide) rfl (Nat.le_of_ble_eq_true rfl) rfl,
    fun _ => astep_bin rfl rfl,
    fun _ => astep_b hb16 (astep_move rfl),
    fun _ => astep_guard (astep_faddr rfl Try.underlying115 rfl rfl ti3 (by decide) rfl),
    fun _ => astep_guard (astep_load rfl ti3 (by decide) rfl (Nat.le_of_ble_eq_true rfl) rfl),
    fun _ => astep_guard (astep_faddr rfl Try.underlying115 rfl rfl ti3 (by decide) rfl),
    fun _ => astep_guard (astep_load rfl ti3 (by decide) rfl (Nat.le_of_ble_eq_true rfl) rfl),
    fun _ => astep_guard (astep_bin rfl rfl),
    fun _ => astep_pick rfl rfl,
    fun _ => astep_b hb17 (astep_move rfl),
    fun _ => astep_guard (astep_faddr rfl Try.underlying115 rfl rfl ti3 (by decide) rfl),
    fun _ => astep_guard (astep_load rfl ti3 (by decide) rfl (Nat.le_of_ble_eq_true rfl) rfl),
    fun _ => astep_guard (astep_faddr rfl Try.underlying115 rfl rfl ti3 (by decide) rfl),
    fun _ => astep_guard (astep_load rfl ti3 (by decide) rfl (Nat.le_of_ble_eq_true rfl) rfl),
    fun _ => astep_guard (astep_bin rfl rfl),
    fun _ => astep_pick rfl rfl,
    fun _ => astep_b hb18 (astep_move rfl),
    fun hs => (Bool.noConfusion hs),
    fun hs => (Bool.noConfusion hs),
    fun hs => (Bool.noConfusion hs),
    fun hs => (Bool.noConfusion hs),
    fun hs => (Bool.noConfusion hs),
    fun _ => astep_pick rfl rfl, trivial⟩
              refine awp_true (by kernel_rfl) ?_
              refine awp_reg [⟨[(.const (.bool false), B false)], [], B false, [], false⟩] (by exact ⟨by kernel_rfl, by kernel_rfl⟩) ?_ ?_
              · exact ⟨fun _ => astep_assign rfl, trivial⟩
              refine awp_ret ?_
              refine blockA_r ?_
              refine thenA_r ?_
              refine thenA_r ?_
              refine blockA_r ?_
              refine thenA_r ?_
              obtain rfl := Option.some.inj h
              exact ⟨⟨[B false], ⟨resOK_tmp (by kernel_rfl), trivial⟩, rfl⟩, (NLt.lit _), Nat.le_refl _, fun n hn => absurd hn (Nat.not_lt_zero n)⟩
            · replace h := bif_f hb18 h
              refine awp_reg [⟨[(.tmp 4, .ref 0 5 0 0)], [(0, .own 5 [[I x8.T, I x8.P, I x8.Liquid, I x8.Vapour, I x8.Silica]])], .ref 0 5 0 0, [], false⟩,
    ⟨[(.tmp 27, .ref 0 5 0 0)], [(0, .own 5 [[I x8.T, I x8.P, I x8.Liquid, I x8.Vapour, I x8.Silica]])], I x8.T, [], false⟩,
    ⟨[(.tmp 5, .ref 1 5 0 0)], [(1, .own 5 [[I x12.T, I x12.P, I x12.Liquid, I x12.Vapour, I x12.Silica]])], .ref 1 5 0 0, [], false⟩,
    ⟨[(.tmp 29, .ref 1 5 0 0)], [(1, .own 5 [[I x12.T, I x12.P, I x12.Liquid, I x12.Vapour, I x12.Silica]])], I x12.T, [], false⟩,
    ⟨[(.tmp 28, I x8.T), (.tmp 30, I x12.T)], [], (B ((decide (x8.T ≤ x12.T)))), [], false⟩,
    ⟨[(.tmp 31, (B ((decide (x8.T ≤ x12.T)))))], [], B false, [], false⟩,
    ⟨[(.tmp 32, B false), (.tmp 4, .ref 0 5 0 0)], [(0, .own 5 [[I x8.T, I x8.P, I x8.Liquid, I x8.Vapour, I x8.Silica]])], .ref 0 5 0 1, [], false⟩,
    ⟨[(.tmp 32, B false), (.tmp 33, .ref 0 5 0 1)], [(0, .own 5 [[I x8.T, I x8.P, I x8.Liquid, I x8.Vapour, I x8.Silica]])], I x8.P, [], false⟩,
    ⟨[(.tmp 32, B false), (.tmp 5, .ref 1 5 0 0)], [(1, .own 5 [[I x12.T, I x12.P, I x12.Liquid, I x12.Vapour, I x12.Silica]])], .ref 1 5 0 1, [], false⟩,
    ⟨[(.tmp 32, B false), (.tmp 35, .ref 1 5 0 1)], [(1, .own 5 [[I x12.T, I x12.P, I x12.Liquid, I x12.Vapour, I x12.Silica]])], I x12.P, [], false⟩,
    ⟨[(.tmp 32, B false), (.tmp 34, I x8.P), (.tmp 36, I x12.P)], [], (B ((decide (x8.P ≤ x12.P)))), [], false⟩,
    ⟨[(.tmp 32, B false), (.const (.bool true), B true), (.tmp 37, (B ((decide (x8.P ≤ x12.P)))))], [], (B ((decide (x8.P ≤ x12.P)))), [], false⟩,
    ⟨[(.tmp 38, (B ((decide (x8.P ≤ x12.P)))))], [], B false, [], false⟩,
    ⟨[(.tmp 39, B false), (.tmp 4, .ref 0 5 0 0)], [(0, .own 5 [[I x8.T, I x8.P, I x8.Liquid, I x8.Vapour, I x8.Silica]])], .ref 0 5 0 2, [], false⟩,
    ⟨[(.tmp 39, B false), (.tmp 40, .ref 0 5 0 2)], [(0, .own 5 [[I x8.T, I x8.P, I x8.Liquid, I x8.Vapour, I x8.Silica]])], I x8.Liquid, [], false⟩,
    ⟨[(.tmp 39, B false), (.tmp 5, .ref 1 5 0 0)], [(1, .own 5 [[I x12.T, I x12.P, I x12.Liquid, I x12.Vapour, I x12.Silica]])], .ref 1 5 0 2, [], false⟩,
    ⟨[(.tmp 39, B false), (.tmp 42, .ref 1 5 0 2)], [(1, .own 5 [[I x12.T, I x12.P, I x12.Liquid, I x12.Vapour, I x12.Silica]])], I x12.Liquid, [], false⟩,
    ⟨[(.tmp 39, B false), (.tmp 41, I x8.Liquid), (.tmp 43, I x12.Liquid)], [], (B ((decide (x8.Liquid ≤ x12.Liquid)))), [], false⟩,
    ⟨[(.tmp 39, B false), (.const (.bool true), B true), (.tmp 44, (B ((decide (x8.Liquid ≤ x12.Liquid)))))], [], (B ((decide (x8.Liquid ≤ x12.Liquid)))), [], false⟩,
    ⟨[(.tmp 45, (B ((decide (x8.Liquid ≤ x12.Liquid)))))], [], B false, [], false⟩,
    ⟨[(.tmp 46, B false), (.tmp 4, .ref 0 5 0 0)], [(0, .own 5 [[I x8.T, I x8.P, I x8.Liquid, I x8.Vapour, I x8.Silica]])], .ref 0 5 0 4, [], false⟩,
    ⟨[(.tmp 46, B false), (.tmp 47, .ref 0 5 0 4)], [(0, .own 5 [[I x8.T, I x8.P, I x8.Liquid, I x8.Vapour, I x8.Silica]])], I x8.Silica, [], false⟩,
    ⟨[(.tmp 46, B false), (.tmp 5, .ref 1 5 0 0)], [(1, .own 5 [[I x12.T, I x12.P, I x12.Liquid, I x12.Vapour, I x12.Silica]])], .ref 1 5 0 4, [], false⟩,
    ⟨[(.tmp 46, B false), (.tmp 49, .ref 1 5 0 4)], [(1, .own 5 [[I x12.T, I x12.P, I x12.Liquid, I x12.Vapour, I x12.Silica]])], I x12.Silica, [], false⟩,
    ⟨[(.tmp 46, B false), (.tmp 48, I x8.Silica), (.tmp 50, I x12.Silica)], [], (B ((decide (x8.Silica < x12.Silica)))), [], false⟩,
    ⟨[(.tmp 46, B false), (.const (.bool true), B true), (.tmp 51, (B ((decide (x8.Silica < x12.Silica)))))], [], (B ((decide (x8.Silica < x12.Silica)))), [], false⟩] (by exact ⟨by kernel_rfl, by kernel_rfl⟩) ?_ ?_
              · exact ⟨fun _ => astep_faddr rfl Try.underlying115 rfl rfl ti3 (by decide) rfl,
    fun _ => astep_load rfl ti3 (by decide) rfl (Nat.le_of_ble_eq_true rfl) rfl,
    fun _ => astep_faddr rfl Try.underlying115 rfl rfl ti3 (by decide) rfl,
    fun _ => astep_load rfl ti3 (by decide) rfl (Nat.le_of_ble_eq_true rfl) rfl,
    fun _ => astep_bin rfl rfl,
    fun _ => astep_b hb16 (astep_move rfl),
    fun _ => astep_guard (astep_faddr rfl Try.underlying115 rfl rfl ti3 (by decide) rfl),
    fun _ => astep_guard (astep_load rfl ti3 (by decide) rfl (Nat.le_of_ble_eq_true rfl) rfl),
    fun _ => astep_guard (astep_faddr rfl Try.underlying115 rfl rfl ti3 (by decide) rfl),
    fun _ => astep_guard (astep_load rfl ti3 (by decide) rfl (Nat.le_of_ble_eq_true rfl) rfl),
    fun _ => astep_guard (astep_bin rfl rfl),
    fun _ => astep_pick rfl rfl,
    fun _ => astep_b hb17 (astep_move rfl),
    fun _ => astep_guard (astep_faddr rfl Try.underlying115 rfl rfl ti3 (by decide) rfl),
    fun _ => astep_guard (astep_load rfl ti3 (by decide) rfl (Nat.le_of_ble_eq_true rfl) rfl),
    fun _ => astep_guard (astep_faddr rfl Try.underlying115 rfl rfl ti3 (by decide) rfl),
    fun _ => astep_guard (astep_load rfl ti3 (by decide) rfl (Nat.le_of_ble_eq_true rfl) rfl),
    fun _ => astep_guard (astep_bin rfl rfl),
    fun _ => astep_pick rfl rfl,
    fun _ => astep_b hb18 (astep_move rfl),
    fun _ => astep_guard (astep_faddr rfl Try.underlying115 rfl rfl ti3 (by decide) rfl),
    fun _ => astep_guard (astep_load rfl ti3 (by decide) rfl (Nat.le_of_ble_eq_true rfl) rfl),
    fun _ => astep_guard (astep_faddr rfl Try.underlying115 rfl rfl ti3 (by decide) rfl),
    fun _ => astep_guard (astep_load rfl ti3 (by decide) rfl (Nat.le_of_ble_eq_true rfl) rfl),
    fun _ => astep_guard (astep_bin rfl rfl),
    fun _ => astep_pick rfl rfl, trivial⟩
              rcases Bool.eq_false_or_eq_true ((decide (x8.Silica < x12.Silica))) with hc19 | hc19
              · replace h := bif_t hc19 h
                refine awp_ift hc19 (by kernel_rfl) ?_
                refine awp_reg [⟨[(.const (.bool false), B false)], [], B false, [], false⟩] (by exact ⟨by kernel_rfl, by kernel_rfl⟩) ?_ ?_
                · exact ⟨fun _ => astep_assign rfl, trivial⟩
                refine awp_ret ?_
                refine blockA_r ?_
                refine thenA_r ?_
                refine thenA_r ?_
                refine blockA_r ?_
                refine thenA_r ?_
                obtain rfl := Option.some.inj h
                exact ⟨⟨[B false], ⟨resOK_tmp (by kernel_rfl), trivial⟩, rfl⟩, (NLt.lit _), Nat.le_refl _, fun n hn => absurd hn (Nat.not_lt_zero n)⟩
              · replace h := bif_f hc19 h
                refine awp_ifn hc19 (by kernel_rfl) ?_
                refine awp_skip ?_
                refine blockA_n ?_
                refine thenA_n ?_
                refine awp_reg1 [⟨[(.tmp 18, I y4), (.const (.int .i64 1), I 1)], [], (I (w64 (y4 + 1))), [], false⟩,
    ⟨[(.tmp 53, (I (w64 (y4 + 1))))], [], (I (w64 (y4 + 1))), [], false⟩] (by exact ⟨by kernel_rfl, by kernel_rfl⟩) ?_ ?_
                · exact ⟨fun _ => astep_bin rfl rfl,
    fun _ => astep_move rfl, trivial⟩
                refine thenA_n ?_
                exact around_mor (mor_to (n := 54) (l' := [(0, (.dat 5 ((p0 : List GRow).map c_GRow))), (16, (.dat 5 ((p0.drop (1 : Int).toNat : List GRow).map c_GRow))), (17, (I (((p0.drop (1 : Int).toNat).length : Int)))), (18, (I ((w64 (y4 + 1)))))]) (own' := []) [(0, (.dat 5 ((p0 : List GRow).map c_GRow))), (16, (.dat 5 ((p0.drop (1 : Int).toNat : List GRow).map c_GRow))), (17, (I (((p0.drop (1 : Int).toNat).length : Int)))), (18, (I (w64 (y4 + 1))))] [] [] hφ0 (by kernel_rfl) (by kernel_rfl) (by kernel_rfl) ⟨rfl, .rn (.plain _ (nl_dat nl_GRow _)), rfl, .rn (.plain _ (nl_dat nl_GRow _)), rfl, .rn (.plain _ (NLt.lit _)), rfl, .rn (.plain _ (NLt.lit _)), trivial⟩ trivial) (ih (w64 (y4 + 1)) h)
      · replace h := bif_f hc7 h
        refine awp_ifn hc7 (by kernel_rfl) ?_
        refine awp_exit ?_
        refine thenA_x ?_
        refine thenA_x ?_
        refine blockA_e rfl ?_
        refine thenA_n ?_
        exact ⟨(), h, (mor_to (n := 54) (l' := []) (own' := []) [] [] [] hφ0 (by kernel_rfl) (by kernel_rfl) (by kernel_rfl) trivial trivial)⟩
  · skip
    obtain ⟨x21, hf20, h⟩ := bind_out h
    rcases Bool.eq_false_or_eq_true ((!x21)) with hb22 | hb22
    · replace h := bif_t hb22 h
      refine awp_reg [⟨[(.tmp 0, (.dat 5 ((p0 : List GRow).map c_GRow)))], [], (.dat 5 ((p0 : List GRow).map c_GRow)), [], false⟩,
    ⟨[(.tmp 6, (.dat 5 ((p0 : List GRow).map c_GRow)))], [], (I ((p0.length : Int))), [], false⟩,
    ⟨[(.func 65, (.fn (.func 65) [] [])), (.tmp 7, (I ((p0.length : Int)))), (.const (.int .i64 2), I 2), (.const (.int .i64 20), I 20)], [], B x21, [], false⟩,
    ⟨[(.tmp 8, B x21)], [], (B ((!x21))), [], false⟩,
    ⟨[(.tmp 9, (B ((!x21))))], [], B true, [], false⟩,
    ⟨[(.tmp 10, B true)], [], (.lit undef), [], true⟩,
    ⟨[(.tmp 10, B true)], [], (.lit undef), [], true⟩,
    ⟨[(.tmp 10, B true)], [], (.lit undef), [], true⟩,
    ⟨[(.tmp 10, B true), (.const (.bool true), B true), (.tmp 13, (.lit undef))], [], B true, [], false⟩] (by exact ⟨by kernel_rfl, by kernel_rfl⟩) ?_ ?_
      · exact ⟨fun _ => astep_move rfl,
    fun _ => astep_lenm (c := c_GRow) (l := p0) (astep_len rfl Try.underlying30 rfl),
    fun _ => astep_pcall (first := []) (cap := []) (vs := [(I ((p0.length : Int))), I 2, I 20]) rfl enter65 (steam_withinX_ok N (p0.length : Int) 2 20 _ hf20) rfl rfl (nl_cons (NLt.lit _) (nl_cons (NLt.lit _) (nl_cons (NLt.lit _) nl_nil))) (NLt.lit _) rfl,
    fun _ => astep_not rfl,
    fun _ => astep_b hb22 (astep_move rfl),
    fun hs => (Bool.noConfusion hs),
    fun hs => (Bool.noConfusion hs),
    fun hs => (Bool.noConfusion hs),
    fun _ => astep_pick rfl rfl, trivial⟩
      refine awp_true (by kernel_rfl) ?_
      refine awp_reg [⟨[(.const (.bool false), B false)], [], B false, [], false⟩] (by exact ⟨by kernel_rfl, by kernel_rfl⟩) ?_ ?_
      · exact ⟨fun _ => astep_assign rfl, trivial⟩
      refine awp_ret ?_
      refine thenA_r ?_
      obtain rfl := Option.some.inj h
      exact ⟨⟨[B false], ⟨resOK_tmp (by kernel_rfl), trivial⟩, rfl⟩, (NLt.lit _), Nat.le_refl _, fun n hn => absurd hn (Nat.not_lt_zero n)⟩
    · replace h := bif_f hb22 h
      obtain ⟨x24, hf23, h⟩ := bind_out h
      refine awp_reg [⟨[(.tmp 0, (.dat 5 ((p0 : List GRow).map c_GRow)))], [], (.dat 5 ((p0 : List GRow).map c_GRow)), [], false⟩,
    ⟨[(.tmp 6, (.dat 5 ((p0 : List GRow).map c_GRow)))], [], (I ((p0.length : Int))), [], false⟩,
    ⟨[(.func 65, (.fn (.func 65) [] [])), (.tmp 7, (I ((p0.length : Int)))), (.const (.int .i64 2), I 2), (.const (.int .i64 20), I 20)], [], B x21, [], false⟩,
    ⟨[(.tmp 8, B x21)], [], (B ((!x21))), [], false⟩,
    ⟨[(.tmp 9, (B ((!x21))))], [], B false, [], false⟩,
    ⟨[(.tmp 10, B false), (.tmp 0, (.dat 5 ((p0 : List GRow).map c_GRow)))], [], (.dat 5 ((p0 : List GRow).map c_GRow)), [], false⟩,
    ⟨[(.tmp 10, B false), (.func 80, (.fn (.func 80) [] [])), (.tmp 11, (.dat 5 ((p0 : List GRow).map c_GRow))), (.func 81, (.fn (.func 81) [] []))], [], B x24, [], false⟩,
    ⟨[(.tmp 10, B false), (.tmp 12, B x24)], [], (B ((!x24))), [], false⟩,
    ⟨[(.tmp 10, B false), (.const (.bool true), B true), (.tmp 13, (B ((!x24))))], [], (B ((!x24))), [], false⟩] (by exact ⟨by kernel_rfl, by kernel_rfl⟩) ?_ ?_
      · exact ⟨fun _ => astep_move rfl,
    fun _ => astep_lenm (c := c_GRow) (l := p0) (astep_len rfl Try.underlying30 rfl),
    fun _ => astep_pcall (first := []) (cap := []) (vs := [(I ((p0.length : Int))), I 2, I 20]) rfl enter65 (steam_withinX_ok N (p0.length : Int) 2 20 _ hf20) rfl rfl (nl_cons (NLt.lit _) (nl_cons (NLt.lit _) (nl_cons (NLt.lit _) nl_nil))) (NLt.lit _) rfl,
    fun _ => astep_not rfl,
    fun _ => astep_b hb22 (astep_move rfl),
    fun _ => astep_guard (astep_move rfl),
    fun _ => astep_guard (astep_callq (first := []) (cap := []) (vs := [(.dat 5 ((p0 : List GRow).map c_GRow)), (.fn (.func 81) [] [])]) (σr := []) (σr' := []) (res' := (B x24)) [] rfl enter80 (steam_all_steam_RowX_1_ok N p0 _ hf23) rfl (rn_agg (rnl_cons (.plain _ (nl_dat nl_GRow _)) (rnl_cons (.plain _ (NLt.fn _ _ _ nl_nil nl_nil)) rnl_nil))) slw_nil slw_nil (.plain _ (NLt.lit _)) rfl rfl rfl),
    fun _ => astep_guard (astep_not rfl),
    fun _ => astep_pick rfl rfl, trivial⟩
      rcases Bool.eq_false_or_eq_true ((!x24)) with hc25 | hc25
      · replace h := bif_t hc25 h
        refine awp_ift hc25 (by kernel_rfl) ?_
        refine awp_reg [⟨[(.const (.bool false), B false)], [], B false, [], false⟩] (by exact ⟨by kernel_rfl, by kernel_rfl⟩) ?_ ?_
        · exact ⟨fun _ => astep_assign rfl, trivial⟩
        refine awp_ret ?_
        refine thenA_r ?_
        obtain rfl := Option.some.inj h
        exact ⟨⟨[B false], ⟨resOK_tmp (by kernel_rfl), trivial⟩, rfl⟩, (NLt.lit _), Nat.le_refl _, fun n hn => absurd hn (Nat.not_lt_zero n)⟩
      · replace h := bif_f hc25 h
        refine awp_ifn hc25 (by kernel_rfl) ?_
        refine awp_skip ?_
        refine thenA_n ?_
        exact ⟨(), h, (mor_to (n := 54) (l' := [(0, (.dat 5 ((p0 : List GRow).map c_GRow)))]) (own' := []) [(0, (.dat 5 ((p0 : List GRow).map c_GRow)))] [] [] hφ0 (by kernel_rfl) (by kernel_rfl) (by kernel_rfl) ⟨rfl, .rn (.plain _ (nl_dat nl_GRow _)), trivial⟩ trivial)⟩

def steam_Table_hasX (N : Nat) (p0 : (List GRow)) (p1 : Int) : Option Bool :=
  (steam_withinX N p1 0 (w64 ((p0.length : Int) - 1))).bind fun x2 =>
  some x2
set_option maxRecDepth 100000 in
set_option maxHeartbeats 4000000 in
theorem steam_Table_hasX_ok (N : Nat) (p0 : (List GRow)) (p1 : Int) (r : Bool) (h : steam_Table_hasX N p0 p1 = some r) : Spec Try.prog 62 [(.dat 5 (p0.map c_GRow)), (I p1)] [] (B r) [] := by
  refine spec_of_awp Try.func62 rfl 0 (Nat.le_of_ble_eq_true rfl) (fun X φ0 w0 hφ0 => ?_)
  unfold steam_Table_hasX at h
  refine awp_reg [⟨[(.const (.bool false), B false)], [], B false, [], false⟩] (by exact ⟨by kernel_rfl, by kernel_rfl⟩) ?_ ?_
  · exact ⟨fun _ => astep_assign rfl, trivial⟩
  obtain ⟨x2, hf1, h⟩ := bind_out h
  refine awp_reg [⟨[(.tmp 1, I p1)], [], I p1, [], false⟩,
    ⟨[(.tmp 0, (.dat 5 ((p0 : List GRow).map c_GRow)))], [], (.dat 5 ((p0 : List GRow).map c_GRow)), [], false⟩,
    ⟨[(.tmp 6, (.dat 5 ((p0 : List GRow).map c_GRow)))], [], (I ((p0.length : Int))), [], false⟩,
    ⟨[(.tmp 7, (I ((p0.length : Int)))), (.const (.int .i64 1), I 1)], [], (I (w64 ((p0.length : Int) - 1))), [], false⟩,
    ⟨[(.func 65, (.fn (.func 65) [] [])), (.tmp 5, I p1), (.const (.int .i64 0), I 0), (.tmp 8, (I (w64 ((p0.length : Int) - 1))))], [], B x2, [], false⟩,
    ⟨[(.tmp 9, B x2)], [], B x2, [], false⟩] (by exact ⟨by kernel_rfl, by kernel_rfl⟩) ?_ ?_
  · exact ⟨fun _ => astep_move rfl,
    fun _ => astep_move rfl,
    fun _ => astep_lenm (c := c_GRow) (l := p0) (astep_len rfl Try.underlying30 rfl),
    fun _ => astep_bin rfl rfl,
    fun _ => astep_pcall (first := []) (cap := []) (vs := [I p1, I 0, (I (w64 ((p0.length : Int) - 1)))]) rfl enter65 (steam_withinX_ok N p1 0 (w64 ((p0.length : Int) - 1)) _ hf1) rfl rfl (nl_cons (NLt.lit _) (nl_cons (NLt.lit _) (nl_cons (NLt.lit _) nl_nil))) (NLt.lit _) rfl,
    fun _ => astep_assign rfl, trivial⟩
  refine awp_ret ?_
  obtain rfl := Option.some.inj h
  exact ⟨⟨[B x2], ⟨resOK_tmp (by kernel_rfl), trivial⟩, rfl⟩, (NLt.lit _), Nat.le_refl _, fun n hn => absurd hn (Nat.not_lt_zero n)⟩

def steam_Stream_validX (N : Nat) (p0 : GStream) : Option Bool :=
  (steam_withinX N p0.Mass 0 1000000).bind fun x2 =>
  bif x2 then
    (steam_withinX N p0.Heat 0 (w64 (4000 * p0.Mass))).bind fun x5 =>
    bif x5 then
      (steam_withinX N p0.Silica 0 (w64 (10000 * p0.Mass))).bind fun x8 =>
      bif x8 then
        (steam_withinX N p0.Gas 0 1000000000).bind fun x11 =>
        some x11
      else
        some false
    else
      some false
  else
    some false
set_option maxRecDepth 100000 in
set_option maxHeartbeats 4000000 in
theorem steam_Stream_validX_ok (N : Nat) (p0 : GStream) (r : Bool) (h : steam_Stream_validX N p0 = some r) : Spec Try.prog 63 [(.agg (c_GStream p0))] [] (B r) [] := by
  refine spec_of_awp Try.func63 rfl 0 (Nat.le_of_ble_eq_true rfl) (fun X φ0 w0 hφ0 => ?_)
  unfold steam_Stream_validX at h
  refine awp_reg [⟨[(.tmp 0, (.agg [I p0.Mass, I p0.Heat, I p0.Silica, I p0.Gas]))], [(0, .unused)], .ref 0 4 0 0, [(0, .own 4 [[I p0.Mass, I p0.Heat, I p0.Silica, I p0.Gas]])], false⟩,
    ⟨[(.const (.bool false), B false)], [], B false, [], false⟩] (by exact ⟨by kernel_rfl, by kernel_rfl⟩) ?_ ?_
  · exact ⟨fun _ => astep_box rfl (by rfl) rfl rfl,
    fun _ => astep_assign rfl, trivial⟩
  obtain ⟨x2, hf1, h⟩ := bind_out h
  rcases Bool.eq_false_or_eq_true (x2) with hb3 | hb3
  · replace h := bif_t hb3 h
    obtain ⟨x5, hf4, h⟩ := bind_out h
    rcases Bool.eq_false_or_eq_true (x5) with hb6 | hb6
    · replace h := bif_t hb6 h
      obtain ⟨x8, hf7, h⟩ := bind_out h
      rcases Bool.eq_false_or_eq_true (x8) with hb9 | hb9
      · replace h := bif_t hb9 h
        obtain ⟨x11, hf10, h⟩ := bind_out h
        refine awp_reg [⟨[(.tmp 1, .ref 0 4 0 0)], [(0, .own 4 [[I p0.Mass, I p0.Heat, I p0.Silica, I p0.Gas]])], .ref 0 4 0 0, [], false⟩,
    ⟨[(.tmp 3, .ref 0 4 0 0)], [(0, .own 4 [[I p0.Mass, I p0.Heat, I p0.Silica, I p0.Gas]])], I p0.Mass, [], false⟩,
    ⟨[(.func 65, (.fn (.func 65) [] [])), (.tmp 4, I p0.Mass), (.const (.int .i64 0), I 0), (.const (.int .i64 1000000), I 1000000)], [], B x2, [], false⟩,
    ⟨[(.tmp 5, B x2)], [], B true, [], false⟩,
    ⟨[(.tmp 6, B true), (.tmp 1, .ref 0 4 0 0)], [(0, .own 4 [[I p0.Mass, I p0.Heat, I p0.Silica, I p0.Gas]])], .ref 0 4 0 1, [], false⟩,
    ⟨[(.tmp 6, B true), (.tmp 7, .ref 0 4 0 1)], [(0, .own 4 [[I p0.Mass, I p0.Heat, I p0.Silica, I p0.Gas]])], I p0.Heat, [], false⟩,
    ⟨[(.tmp 6, B true), (.tmp 1, .ref 0 4 0 0)], [(0, .own 4 [[I p0.Mass, I p0.Heat, I p0.Silica, I p0.Gas]])], .ref 0 4 0 0, [], false⟩,
    ⟨[(.tmp 6, B true), (.tmp 9, .ref 0 4 0 0)], [(0, .own 4 [[I p0.Mass, I p0.Heat, I p0.Silica, I p0.Gas]])], I p0.Mass, [], false⟩,
    ⟨[(.tmp 6, B true), (.const (.int .i64 4000), I 4000), (.tmp 10, I p0.Mass)], [], (I (w64 (4000 * p0.Mass))), [], false⟩,
    ⟨[(.tmp 6, B true), (.func 65, (.fn (.func 65) [] [])), (.tmp 8, I p0.Heat), (.const (.int .i64 0), I 0), (.tmp 11, (I (w64 (4000 * p0.Mass))))], [], B x5, [], false⟩,
    ⟨[(.tmp 6, B true), (.tmp 12, B x5), (.const (.bool false), B false)], [], B x5, [], false⟩,
    ⟨[(.tmp 13, B x5)], [], B true, [], false⟩,
    ⟨[(.tmp 14, B true), (.tmp 1, .ref 0 4 0 0)], [(0, .own 4 [[I p0.Mass, I p0.Heat, I p0.Silica, I p0.Gas]])], .ref 0 4 0 2, [], false⟩,
    ⟨[(.tmp 14, B true), (.tmp 15, .ref 0 4 0 2)], [(0, .own 4 [[I p0.Mass, I p0.Heat, I p0.Silica, I p0.Gas]])], I p0.Silica, [], false⟩,
    ⟨[(.tmp 14, B true), (.tmp 1, .ref 0 4 0 0)], [(0, .own 4 [[I p0.Mass, I p0.Heat, I p0.Silica, I p0.Gas]])], .ref 0 4 0 0, [], false⟩,
    ⟨[(.tmp 14, B true), (.tmp 17, .ref 0 4 0 0)], [(0, .own 4 [[I p0.Mass, I p0.Heat, I p0.Silica, I p0.Gas]])], I p0.Mass, [], false⟩,
    ⟨[(.tmp 14, B true), (.const (.int .i64 10000), I 10000), (.tmp 18, I p0.Mass)], [], (I (w64 (10000 * p0.Mass))), [], false⟩,
    ⟨[(.tmp 14, B true), (.func 65, (.fn (.func 65) [] [])), (.tmp 16, I p0.Silica), (.const (.int .i64 0), I 0), (.tmp 19, (I (w64 (10000 * p0.Mass))))], [], B x8, [], false⟩,
    ⟨[(.tmp 14, B true), (.tmp 20, B x8), (.const (.bool false), B false)], [], B x8, [], false⟩,
    ⟨[(.tmp 21, B x8)], [], B true, [], false⟩,
    ⟨[(.tmp 22, B true), (.tmp 1, .ref 0 4 0 0)], [(0, .own 4 [[I p0.Mass, I p0.Heat, I p0.Silica, I p0.Gas]])], .ref 0 4 0 3, [], false⟩,
    ⟨[(.tmp 22, B true), (.tmp 23, .ref 0 4 0 3)], [(0, .own 4 [[I p0.Mass, I p0.Heat, I p0.Silica, I p0.Gas]])], I p0.Gas, [], false⟩,
    ⟨[(.tmp 22, B true), (.func 65, (.fn (.func 65) [] [])), (.tmp 24, I p0.Gas), (.const (.int .i64 0), I 0), (.const (.int .i64 1000000000), I 1000000000)], [], B x11, [], false⟩,
    ⟨[(.tmp 22, B true), (.tmp 25, B x11), (.const (.bool false), B false)], [], B x11, [], false⟩,
    ⟨[(.tmp 26, B x11)], [], B x11, [], false⟩] (by exact ⟨by kernel_rfl, by kernel_rfl⟩) ?_ ?_
        · exact ⟨fun _ => astep_faddr rfl Try.underlying42 rfl rfl ti3 (by decide) rfl,
    fun _ => astep_load rfl ti3 (by decide) rfl (Nat.le_of_ble_eq_true rfl) rfl,
    fun _ => astep_pcall (first := []) (cap := []) (vs := [I p0.Mass, I 0, I 1000000]) rfl enter65 (steam_withinX_ok N p0.Mass 0 1000000 _ hf1) rfl rfl (nl_cons (NLt.lit _) (nl_cons (NLt.lit _) (nl_cons (NLt.lit _) nl_nil))) (NLt.lit _) rfl,
    fun _ => astep_b hb3 (astep_move rfl),
    fun _ => astep_guard (astep_faddr rfl Try.underlying42 rfl rfl ti3 (by decide) rfl),
    fun _ => astep_guard (astep_load rfl ti3 (by decide) rfl (Nat.le_of_ble_eq_true rfl) rfl),
    fun _ => astep_guard (astep_faddr rfl Try.underlying42 rfl rfl ti3 (by decide) rfl),
    fun _ => astep_guard (astep_load rfl ti3 (by decide) rfl (Nat.le_of_ble_eq_true rfl) rfl),
    fun _ => astep_guard (astep_bin rfl rfl),
    fun _ => astep_guard (astep_pcall (first := []) (cap := []) (vs := [I p0.Heat, I 0, (I (w64 (4000 * p0.Mass)))]) rfl enter65 (steam_withinX_ok N p0.Heat 0 (w64 (4000 * p0.Mass)) _ hf4) rfl rfl (nl_cons (NLt.lit _) (nl_cons (NLt.lit _) (nl_cons (NLt.lit _) nl_nil))) (NLt.lit _) rfl),
    fun _ => astep_pick rfl rfl,
    fun _ => astep_b hb6 (astep_move rfl),
    fun _ => astep_guard (astep_faddr rfl Try.underlying42 rfl rfl ti3 (by decide) rfl),
    fun _ => astep_guard (astep_load rfl ti3 (by decide) rfl (Nat.le_of_ble_eq_true rfl) rfl),
    fun _ => astep_guard (astep_faddr rfl Try.underlying42 rfl rfl ti3 (by decide) rfl),
    fun _ => astep_guard (astep_load rfl ti3 (by decide) rfl (Nat.le_of_ble_eq_true rfl) rfl),
    fun _ => astep_guard (astep_bin rfl rfl),
    fun _ => astep_guard (astep_pcall (first := []) (cap := []) (vs := [I p0.Silica, I 0, (I (w64 (10000 * p0.Mass)))]) rfl enter65 (steam_withinX_ok N p0.Silica 0 (w64 (10000 * p0.Mass)) _ hf7) rfl rfl (nl_cons (NLt.lit _) (nl_cons (NLt.lit _) (nl_cons (NLt.lit _) nl_nil))) (NLt.lit _) rfl),
    fun _ => astep_pick rfl rfl,
    fun _ => astep_b hb9 (astep_move rfl),
    fun _ => astep_guard (astep_faddr rfl Try.underlying42 rfl rfl ti3 (by decide) rfl),
    fun _ => astep_guard (astep_load rfl ti3 (by decide) rfl (Nat.le_of_ble_eq_true rfl) rfl),
    fun _ => astep_guard (astep_pcall (first := []) (cap := []) (vs := [I p0.Gas, I 0, I 1000000000]) rfl enter65 (steam_withinX_ok N p0.Gas 0 1000000000 _ hf10) rfl rfl (nl_cons (NLt.lit _) (nl_cons (NLt.lit _) (nl_cons (NLt.lit _) nl_nil))) (NLt.lit _) rfl),
    fun _ => astep_pick rfl rfl,
    fun _ => astep_assign rfl, trivial⟩
        refine awp_ret ?_
        obtain rfl := Option.some.inj h
        exact ⟨⟨[B x11], ⟨resOK_tmp (by kernel_rfl), trivial⟩, rfl⟩, (NLt.lit _), Nat.le_refl _, fun n hn => absurd hn (Nat.not_lt_zero n)⟩
      · replace h := bif_f hb9 h
        refine awp_reg [⟨[(.tmp 1, .ref 0 4 0 0)], [(0, .own 4 [[I p0.Mass, I p0.Heat, I p0.Silica, I p0.Gas]])], .ref 0 4 0 0, [], false⟩,
    ⟨[(.tmp 3, .ref 0 4 0 0)], [(0, .own 4 [[I p0.Mass, I p0.Heat, I p0.Silica, I p0.Gas]])], I p0.Mass, [], false⟩,
    ⟨[(.func 65, (.fn (.func 65) [] [])), (.tmp 4, I p0.Mass), (.const (.int .i64 0), I 0), (.const (.int .i64 1000000), I 1000000)], [], B x2, [], false⟩,
    ⟨[(.tmp 5, B x2)], [], B true, [], false⟩,
    ⟨[(.tmp 6, B true), (.tmp 1, .ref 0 4 0 0)], [(0, .own 4 [[I p0.Mass, I p0.Heat, I p0.Silica, I p0.Gas]])], .ref 0 4 0 1, [], false⟩,
    ⟨[(.tmp 6, B true), (.tmp 7, .ref 0 4 0 1)], [(0, .own 4 [[I p0.Mass, I p0.Heat, I p0.Silica, I p0.Gas]])], I p0.Heat, [], false⟩,
    ⟨[(.tmp 6, B true), (.tmp 1, .ref 0 4 0 0)], [(0, .own 4 [[I p0.Mass, I p0.Heat, I p0.Silica, I p0.Gas]])], .ref 0 4 0 0, [], false⟩,
    ⟨[(.tmp 6, B true), (.tmp 9, .ref 0 4 0 0)], [(0, .own 4 [[I p0.Mass, I p0.Heat, I p0.Silica, I p0.Gas]])], I p0.Mass, [], false⟩,
    ⟨[(.tmp 6, B true), (.const (.int .i64 4000), I 4000), (.tmp 10, I p0.Mass)], [], (I (w64 (4000 * p0.Mass))), [], false⟩,
    ⟨[(.tmp 6, B true), (.func 65, (.fn (.func 65) [] [])), (.tmp 8, I p0.Heat), (.const (.int .i64 0), I 0), (.tmp 11, (I (w64 (4000 * p0.Mass))))], [], B x5, [], false⟩,
    ⟨[(.tmp 6, B true), (.tmp 12, B x5), (.const (.bool false), B false)], [], B x5, [], false⟩,
    ⟨[(.tmp 13, B x5)], [], B true, [], false⟩,
    ⟨[(.tmp 14, B true), (.tmp 1, .ref 0 4 0 0)], [(0, .own 4 [[I p0.Mass, I p0.Heat, I p0.Silica, I p0.Gas]])], .ref 0 4 0 2, [], false⟩,
    ⟨[(.tmp 14, B true), (.tmp 15, .ref 0 4 0 2)], [(0, .own 4 [[I p0.Mass, I p0.Heat, I p0.Silica, I p0.Gas]])], I p0.Silica, [], false⟩,
    ⟨[(.tmp 14, B true), (.tmp 1, .ref 0 4 0 0)], [(0, .own 4 [[I p0.Mass, I p0.Heat, I p0.Silica, I p0.Gas]])], .ref 0 4 0 0, [], false⟩,
    ⟨[(.tmp 14, B true), (.tmp 17, .ref 0 4 0 0)], [(0, .own 4 [[I p0.Mass, I p0.Heat, I p0.Silica, I p0.Gas]])], I p0.Mass, [], false⟩,
    ⟨[(.tmp 14, B true), (.const (.int .i64 10000), I 10000), (.tmp 18, I p0.Mass)], [], (I (w64 (10000 * p0.Mass))), [], false⟩,
    ⟨[(.tmp 14, B true), (.func 65, (.fn (.func 65) [] [])), (.tmp 16, I p0.Silica), (.const (.int .i64 0), I 0), (.tmp 19, (I (w64 (10000 * p0.Mass))))], [], B x8, [], false⟩,
    ⟨[(.tmp 14, B true), (.tmp 20, B x8), (.const (.bool false), B false)], [], B x8, [], false⟩,
    ⟨[(.tmp 21, B x8)], [], B false, [], false⟩,
    ⟨[(.tmp 22, B false)], [], (.lit undef), [], true⟩,
    ⟨[(.tmp 22, B false)], [], (.lit undef), [], true⟩,
    ⟨[(.tmp 22, B false)], [], (.lit undef), [], true⟩,
    ⟨[(.tmp 22, B false), (.tmp 25, (.lit undef)), (.const (.bool false), B false)], [], B false, [], false⟩,
    ⟨[(.tmp 26, B false)], [], B false, [], false⟩] (by exact ⟨by kernel_rfl, by kernel_rfl⟩) ?_ ?_
        · exact ⟨fun _ => astep_faddr rfl Try.underlying42 rfl rfl ti3 (by decide) rfl,
    fun _ => astep_load rfl ti3 (by decide) rfl (Nat.le_of_ble_eq_true rfl) rfl,
    fun _ => astep_pcall (first := []) (cap := []) (vs := [I p0.Mass, I 0, I 1000000]) rfl enter65 (steam_withinX_ok N p0.Mass 0 1000000 _ hf1) rfl rfl (nl_cons (NLt.lit _) (nl_cons (NLt.lit _) (nl_cons (NLt.lit _) nl_nil))) (NLt.lit _) rfl,
    fun _ => astep_b hb3 (astep_move rfl),
    fun _ => astep_guard (astep_faddr rfl Try.underlying42 rfl rfl ti3 (by decide) rfl),
    fun _ => astep_guard (astep_load rfl ti3 (by decide) rfl (Nat.le_of_ble_eq_true rfl) rfl),
    fun _ => astep_guard (astep_faddr rfl Try.underlying42 rfl rfl ti3 (by decide) rfl),
    fun _ => astep_guard (astep_load rfl ti3 (by decide) rfl (Nat.le_of_ble_eq_true rfl) rfl),
    fun _ => astep_guard (astep_bin rfl rfl),
    fun _ => astep_guard (astep_pcall (first := []) (cap := []) (vs := [I p0.Heat, I 0, (I (w64 (4000 * p0.Mass)))]) rfl enter65 (steam_withinX_ok N p0.Heat 0 (w64 (4000 * p0.Mass)) _ hf4) rfl rfl (nl_cons (NLt.lit _) (nl_cons (NLt.lit _) (nl_cons (NLt.lit _) nl_nil))) (NLt.lit _) rfl),
    fun _ => astep_pick rfl rfl,
    fun _ => astep_b hb6 (astep_move rfl),
    fun _ => astep_guard (astep_faddr rfl Try.underlying42 rfl rfl ti3 (by decide) rfl),
    fun _ => astep_guard (astep_load rfl ti3 (by decide) rfl (Nat.le_of_ble_eq_true rfl) rfl),
    fun _ => astep_guard (astep_faddr rfl Try.underlying42 rfl rfl ti3 (by decide) rfl),
    fun _ => astep_guard (astep_load rfl ti3 (by decide) rfl (Nat.le_of_ble_eq_true rfl) rfl),
    fun _ => astep_guard (astep_bin rfl rfl),
    fun _ => astep_guard (astep_pcall (first := []) (cap := []) (vs := [I p0.Silica, I 0, (I (w64 (10000 * p0.Mass)))]) rfl enter65 (steam_withinX_ok N p0.Silica 0 (w64 (10000 * p0.Mass)) _ hf7) rfl rfl (nl_cons (NLt.lit _) (nl_cons (NLt.lit _) (nl_cons (NLt.lit _) nl_nil))) (NLt.lit _) rfl),
    fun _ => astep_pick rfl rfl,
    fun _ => astep_b hb9 (astep_move rfl),
    fun hs => (Bool.noConfusion hs),
    fun hs => (Bool.noConfusion hs),
    fun hs => (Bool.noConfusion hs),
    fun _ => astep_pick rfl rfl,
    fun _ => astep_assign rfl, trivial⟩
        refine awp_ret ?_
        obtain rfl := Option.some.inj h
        exact ⟨⟨[B false], ⟨resOK_tmp (by kernel_rfl), trivial⟩, rfl⟩, (NLt.lit _), Nat.le_refl _, fun n hn => absurd hn (Nat.not_lt_zero n)⟩
    · replace h := bif_f hb6 h
      refine awp_reg [⟨[(.tmp 1, .ref 0 4 0 0)], [(0, .own 4 [[I p0.Mass, I p0.Heat, I p0.Silica, I p0.Gas]])], .ref 0 4 0 0, [], false⟩,
    ⟨[(.tmp 3, .ref 0 4 0 0)], [(0, .own 4 [[I p0.Mass, I p0.Heat, I p0.Silica, I p0.Gas]])], I p0.Mass, [], false⟩,
    ⟨[(.func 65, (.fn (.func 65) [] [])), (.tmp 4, I p0.Mass), (.const (.int .i64 0), I 0), (.const (.int .i64 1000000), I 1000000)], [], B x2, [], false⟩,
    ⟨[(.tmp 5, B x2)], [], B true, [], false⟩,
    ⟨[(.tmp 6, B true), (.tmp 1, .ref 0 4 0 0)], [(0, .own 4 [[I p0.Mass, I p0.Heat, I p0.Silica, I p0.Gas]])], .ref 0 4 0 1, [], false⟩,
    ⟨[(.tmp 6, B true), (.tmp 7, .ref 0 4 0 1)], [(0, .own 4 [[I p0.Mass, I p0.Heat, I p0.Silica, I p0.Gas]])], I p0.Heat, [], false⟩,
    ⟨[(.tmp 6, B true), (.tmp 1, .ref 0 4 0 0)], [(0, .own 4 [[I p0.Mass, I p0.Heat, I p0.Silica, I p0.Gas]])], .ref 0 4 0 0, [], false⟩,
    ⟨[(.tmp 6, B true), (.tmp 9, .ref 0 4 0 0)], [(0, .own 4 [[I p0.Mass, I p0.Heat, I p0.Silica, I p0.Gas]])], I p0.Mass, [], false⟩,
    ⟨[(.tmp 6, B true), (.const (.int .i64 4000), I 4000), (.tmp 10, I p0.Mass)], [], (I (w64 (4000 * p0.Mass))), [], false⟩,
    ⟨[(.tmp 6, B true), (.func 65, (.fn (.func 65) [] [])), (.tmp 8, I p0.Heat), (.const (.int .i64 0), I 0), (.tmp 11, (I (w64 (4000 * p0.Mass))))], [], B x5, [], false⟩,
    ⟨[(.tmp 6, B true), (.tmp 12, B x5), (.const (.bool false), B false)], [], B x5, [], false⟩,
    ⟨[(.tmp 13, B x5)], [], B false, [], false⟩,
    ⟨[(.tmp 14, B false)], [], (.lit undef), [], true⟩,
    ⟨[(.tmp 14, B false)], [], (.lit undef), [], true⟩,
    ⟨[(.tmp 14, B false)], [], (.lit undef), [], true⟩,
    ⟨[(.tmp 14, B false)], [], (.lit undef), [], true⟩,
    ⟨[(.tmp 14, B false)], [], (.lit undef), [], true⟩,
    ⟨[(.tmp 14, B false)], [], (.lit undef), [], true⟩,
    ⟨[(.tmp 14, B false), (.tmp 20, (.lit undef)), (.const (.bool false), B false)], [], B false, [], false⟩,
    ⟨[(.tmp 21, B false)], [], B false, [], false⟩,
    ⟨[(.tmp 22, B false)], [], (.lit undef), [], true⟩,
    ⟨[(.tmp 22, B false)], [], (.lit undef), [], true⟩,
    ⟨[(.tmp 22, B false)], [], (.lit undef), [], true⟩,
    ⟨[(.tmp 22, B false), (.tmp 25, (.lit undef)), (.const (.bool false), B false)], [], B false, [], false⟩,
    ⟨[(.tmp 26, B false)], [], B false, [], false⟩] (by exact ⟨by kernel_rfl, by kernel_rfl⟩) ?_ ?_
      · exact ⟨fun _ => astep_faddr rfl Try.underlying42 rfl rfl ti3 (by decide) rfl,
    fun _ => astep_load rfl ti3 (by decide) rfl (Nat.le_of_ble_eq_true rfl) rfl,
    fun _ => astep_pcall (first := []) (cap := []) (vs := [I p0.Mass, I 0, I 1000000]) rfl enter65 (steam_withinX_ok N p0.Mass 0 1000000 _ hf1) rfl rfl (nl_cons (NLt.lit _) (nl_cons (NLt.lit _) (nl_cons (NLt.lit _) nl_nil))) (NLt.lit _) rfl,
    fun _ => astep_b hb3 (astep_move rfl),
    fun _ => astep_guard (astep_faddr rfl Try.underlying42 rfl rfl ti3 (by decide) rfl),
    fun _ => astep_guard (astep_load rfl ti3 (by decide) rfl (Nat.le_of_ble_eq_true rfl) rfl),
    fun _ => astep_guard (astep_faddr rfl Try.underlying42 rfl rfl ti3 (by decide) rfl),
    fun _ => astep_guard (astep_load rfl ti3 (by decide) rfl (Nat.le_of_ble_eq_true rfl) rfl),
    fun _ => astep_guard (astep_bin rfl rfl),
    fun _ => astep_guard (astep_pcall (first := []) (cap := []) (vs := [I p0.Heat, I 0, (I (w64 (4000 * p0.Mass)))]) rfl enter65 (steam_withinX_ok N p0.Heat 0 (w64 (4000 * p0.Mass)) _ hf4) rfl rfl (nl_cons (NLt.lit _) (nl_cons (NLt.lit _) (nl_cons (NLt.lit _) nl_nil))) (NLt.lit _) rfl),
    fun _ => astep_pick rfl rfl,
    fun _ => astep_b hb6 (astep_move rfl),
    fun hs => (Bool.noConfusion hs),
    fun hs => (Bool.noConfusion hs),
    fun hs => (Bool.noConfusion hs),
    fun hs => (Bool.noConfusion hs),
    fun hs => (Bool.noConfusion hs),
    fun hs => (Bool.noConfusion hs),
    fun _ => astep_pick rfl rfl,
    fun _ => astep_move rfl,
    fun hs => (Bool.noConfusion hs),
    fun hs => (Bool.noConfusion hs),
    fun hs => (Bool.noConfusion hs),
    fun _ => astep_pick rfl rfl,
    fun _ => astep_assign rfl, trivial⟩
      refine awp_ret ?_
      obtain rfl := Option.some.inj h
      exact ⟨⟨[B false], ⟨resOK_tmp (by kernel_rfl), trivial⟩, rfl⟩, (NLt.lit _), Nat.le_refl _, fun n hn => absurd hn (Nat.not_lt_zero n)⟩
  · replace h := bif_f hb3 h
    refine awp_reg [⟨[(.tmp 1, .ref 0 4 0 0)], [(0, .own 4 [[I p0.Mass, I p0.Heat, I p0.Silica, I p0.Gas]])], .ref 0 4 0 0, [], false⟩,
    ⟨[(.tmp 3, .ref 0 4 0 0)], [(0, .own 4 [[I p0.Mass, I p0.Heat, I p0.Silica, I p0.Gas]])], I p0.Mass, [], false⟩,
    ⟨[(.func 65, (.fn (.func 65) [] [])), (.tmp 4, I p0.Mass), (.const (.int .i64 0), I 0), (.const (.int .i64 1000000), I 1000000)], [], B x2, [], false⟩,
    ⟨[(.tmp 5, B x2)], [], B false, [], false⟩,
    ⟨[(.tmp 6, B false)], [], (.lit undef), [], true⟩,
    ⟨[(.tmp 6, B false)], [], (.lit undef), [], true⟩,
    ⟨[(.tmp 6, B false)], [], (.lit undef), [], true⟩,
    ⟨[(.tmp 6, B false)], [], (.lit undef), [], true⟩,
    ⟨[(.tmp 6, B false)], [], (.lit undef), [], true⟩,
    ⟨[(.tmp 6, B false)], [], (.lit undef), [], true⟩,
    ⟨[(.tmp 6, B false), (.tmp 12, (.lit undef)), (.const (.bool false), B false)], [], B false, [], false⟩,
    ⟨[(.tmp 13, B false)], [], B false, [], false⟩,
    ⟨[(.tmp 14, B false)], [], (.lit undef), [], true⟩,
    ⟨[(.tmp 14, B false)], [], (.lit undef), [], true⟩,
    ⟨[(.tmp 14, B false)], [], (.lit undef), [], true⟩,
    ⟨[(.tmp 14, B false)], [], (.lit undef), [], true⟩,
    ⟨[(.tmp 14, B false)], [], (.lit undef), [], true⟩,
    ⟨[(.tmp 14, B false)], [], (.lit undef), [], true⟩,
    ⟨[(.tmp 14, B false), (.tmp 20, (.lit undef)), (.const (.bool false), B false)], [], B false, [], false⟩,
    ⟨[(.tmp 21, B false)], [], B false, [], false⟩,
    ⟨[(.tmp 22, B false)], [], (.lit undef), [], true⟩,
    ⟨[(.tmp 22, B false)], [], (.lit undef), [], true⟩,
    ⟨[(.tmp 22, B false)], [], (.lit undef), [], true⟩,
    ⟨[(.tmp 22, B false), (.tmp 25, (.lit undef)), (.const (.bool false), B false)], [], B false, [], false⟩,
    ⟨[(.tmp 26, B false)], [], B false, [], false⟩] (by exact ⟨by kernel_rfl, by kernel_rfl⟩) ?_ ?_
    · exact ⟨fun _ => astep_faddr rfl Try.underlying42 rfl rfl ti3 (by decide) rfl,
    fun _ => astep_load rfl ti3 (by decide) rfl (Nat.le_of_ble_eq_true rfl) rfl,
    fun _ => astep_pcall (first := []) (cap := []) (vs := [I p0.Mass, I 0, I 1000000]) rfl enter65 (steam_withinX_ok N p0.Mass 0 1000000 _ hf1) rfl rfl (nl_cons (NLt.lit _) (nl_cons (NLt.lit _) (nl_cons (NLt.lit _) nl_nil))) (NLt.lit _) rfl,
    fun _ => astep_b hb3 (astep_move rfl),
    fun hs => (Bool.noConfusion hs),
    fun hs => (Bool.noConfusion hs),
    fun hs => (Bool.noConfusion hs),
    fun hs => (Bool.noConfusion hs),
    fun hs => (Bool.noConfusion hs),
    fun hs => (Bool.noConfusion hs),
    fun _ => astep_pick rfl rfl,
    fun _ => astep_move rfl,
    fun hs => (Bool.noConfusion hs),
    fun hs => (Bool.noConfusion hs),
    fun hs => (Bool.noConfusion hs),
    fun hs => (Bool.noConfusion hs),
    fun hs => (Bool.noConfusion hs),
    fun hs => (Bool.noConfusion hs),
    fun _ => astep_pick rfl rfl,
    fun _ => astep_move rfl,
    fun hs => (Bool.noConfusion hs),
    fun hs => (Bool.noConfusion hs),
    fun hs => (Bool.noConfusion hs),
    fun _ => astep_pick rfl rfl,
    fun _ => astep_assign rfl, trivial⟩
    refine awp_ret ?_
    obtain rfl := Option.some.inj h
    exact ⟨⟨[B false], ⟨resOK_tmp (by kernel_rfl), trivial⟩, rfl⟩, (NLt.lit _), Nat.le_refl _, fun n hn => absurd hn (Nat.not_lt_zero n)⟩

def steam_Table_atX (_N : Nat) (p0 : (List GRow)) (p1 : Int) : Option GFlash :=
  (getI p0 p1).bind fun x1 =>
  some (⟨x1⟩ : GFlash)
set_option maxRecDepth 100000 in
set_option maxHeartbeats 4000000 in
theorem steam_Table_atX_ok (N : Nat) (p0 : (List GRow)) (p1 : Int) (r : GFlash) (h : steam_Table_atX N p0 p1 = some r) : Spec Try.prog 60 [(.dat 5 (p0.map c_GRow)), (I p1)] [] (.agg (c_GFlash r)) [] := by
  refine spec_of_awp Try.func60 rfl 0 (Nat.le_of_ble_eq_true rfl) (fun X φ0 w0 hφ0 => ?_)
  unfold steam_Table_atX at h
  refine awp_reg [⟨[], [(0, .unused)], .ref 0 5 0 0, [(0, .own 5 [[I 0, I 0, I 0, I 0, I 0]])], false⟩] (by exact ⟨by kernel_rfl, by kernel_rfl⟩) ?_ ?_
  · exact ⟨fun _ => astep_alloc rfl tz117 rfl, trivial⟩
  obtain ⟨x1, hg2, h⟩ := bind_out h
  obtain ⟨hi3, hj4⟩ := getI_some hg2
  refine awp_reg [⟨[(.tmp 0, (.dat 5 ((p0 : List GRow).map c_GRow)))], [], (.dat 5 ((p0 : List GRow).map c_GRow)), [], false⟩,
    ⟨[(.tmp 1, I p1)], [], I p1, [], false⟩,
    ⟨[(.tmp 5, (.dat 5 ((p0 : List GRow).map c_GRow))), (.tmp 6, I p1)], [], (.dptr (c_GRow (x1)) 0), [], false⟩,
    ⟨[(.tmp 7, (.dptr (c_GRow (x1)) 0))], [], (.agg [I x1.T, I x1.P, I x1.Liquid, I x1.Vapour, I x1.Silica]), [], false⟩,
    ⟨[(.tmp 8, (.agg [I x1.T, I x1.P, I x1.Liquid, I x1.Vapour, I x1.Silica]))], [], (.agg [I x1.T, I x1.P, I x1.Liquid, I x1.Vapour, I x1.Silica]), [], false⟩,
    ⟨[(.tmp 4, .ref 0 5 0 0), (.tmp 9, (.agg [I x1.T, I x1.P, I x1.Liquid, I x1.Vapour, I x1.Silica]))], [(0, .own 5 [[I 0, I 0, I 0, I 0, I 0]])], .any, [(0, .own 5 [[I x1.T, I x1.P, I x1.Liquid, I x1.Vapour, I x1.Silica]])], false⟩] (by exact ⟨by kernel_rfl, by kernel_rfl⟩) ?_ ?_
  · exact ⟨fun _ => astep_move rfl,
    fun _ => astep_move rfl,
    fun _ => astep_idxd rfl Try.underlying30 ti115 rfl rfl hi3 (map_get c_GRow hj4) rfl,
    fun _ => astep_loadd rfl ti115 (by decide) (Nat.le_of_ble_eq_true rfl) rfl,
    fun _ => astep_build (vs := [(.agg [I x1.T, I x1.P, I x1.Liquid, I x1.Vapour, I x1.Silica])]) rfl ts117 tz117 rfl (by rfl) rfl,
    fun _ => astep_store rfl ti117 (by rfl) rfl (Nat.le_of_ble_eq_true rfl) rfl, trivial⟩
  refine awp_ret ?_
  obtain rfl := Option.some.inj h
  exact ⟨⟨[(.agg [I x1.T, I x1.P, I x1.Liquid, I x1.Vapour, I x1.Silica])], ⟨resOK_cell (n := 0) (m := 5) (j := 0) (i := 0) (xs := [[I x1.T, I x1.P, I x1.Liquid, I x1.Vapour, I x1.Silica]]) (by kernel_rfl) (by kernel_rfl) ti117 (by decide) rfl (Nat.le_of_ble_eq_true rfl) rfl, trivial⟩, rfl⟩, (NLt.agg _ (nl_cons (NLt.lit _) (nl_cons (NLt.lit _) (nl_cons (NLt.lit _) (nl_cons (NLt.lit _) (nl_cons (NLt.lit _) nl_nil)))))), Nat.le_refl _, fun n hn => absurd hn (Nat.not_lt_zero n)⟩

def steam_flash_steamX (_N : Nat) (p0 : GFlash) (p1 : GStream) : Option Int :=
  (some (w64 (p1.Heat - (w64 (p1.Mass * p0.Row.Liquid))))).bind fun x1 =>
  bif (decide (x1 ≤ 0)) then
    some 0
  else
    bif (decide (p1.Heat ≥ (w64 (p1.Mass * p0.Row.Vapour)))) then
      some p1.Mass
    else
      chk ((w64 (p0.Row.Vapour - p0.Row.Liquid)) != 0) <|
      (some (w64 (x1.tdiv (w64 (p0.Row.Vapour - p0.Row.Liquid))))).bind fun x6 =>
      some x6
set_option maxRecDepth 100000 in
set_option maxHeartbeats 4000000 in
theorem steam_flash_steamX_ok (N : Nat) (p0 : GFlash) (p1 : GStream) (r : Int) (h : steam_flash_steamX N p0 p1 = some r) : Spec Try.prog 84 [(.agg (c_GFlash p0)), (.agg (c_GStream p1))] [] (I r) [] := by
  refine spec_of_awp Try.func84 rfl 0 (Nat.le_of_ble_eq_true rfl) (fun X φ0 w0 hφ0 => ?_)
  unfold steam_flash_steamX at h
  refine awp_reg [⟨[(.tmp 0, (.agg [I p0.Row.T, I p0.Row.P, I p0.Row.Liquid, I p0.Row.Vapour, I p0.Row.Silica]))], [(0, .unused)], .ref 0 5 0 0, [(0, .own 5 [[I p0.Row.T, I p0.Row.P, I p0.Row.Liquid, I p0.Row.Vapour, I p0.Row.Silica]])], false⟩,
    ⟨[(.tmp 1, (.agg [I p1.Mass, I p1.Heat, I p1.Silica, I p1.Gas]))], [(1, .unused)], .ref 1 4 0 0, [(1, .own 4 [[I p1.Mass, I p1.Heat, I p1.Silica, I p1.Gas]])], false⟩,
    ⟨[(.const (.int .i64 0), I 0)], [], I 0, [], false⟩] (by exact ⟨by kernel_rfl, by kernel_rfl⟩) ?_ ?_
  · exact ⟨fun _ => astep_box rfl (by rfl) rfl rfl,
    fun _ => astep_box rfl (by rfl) rfl rfl,
    fun _ => astep_assign rfl, trivial⟩
  obtain ⟨x1, hl2, h⟩ := bind_out h
  refine awp_reg [⟨[(.tmp 3, .ref 1 4 0 0)], [(1, .own 4 [[I p1.Mass, I p1.Heat, I p1.Silica, I p1.Gas]])], .ref 1 4 0 1, [], false⟩,
    ⟨[(.tmp 6, .ref 1 4 0 1)], [(1, .own 4 [[I p1.Mass, I p1.Heat, I p1.Silica, I p1.Gas]])], I p1.Heat, [], false⟩,
    ⟨[(.tmp 3, .ref 1 4 0 0)], [(1, .own 4 [[I p1.Mass, I p1.Heat, I p1.Silica, I p1.Gas]])], .ref 1 4 0 0, [], false⟩,
    ⟨[(.tmp 8, .ref 1 4 0 0)], [(1, .own 4 [[I p1.Mass, I p1.Heat, I p1.Silica, I p1.Gas]])], I p1.Mass, [], false⟩,
    ⟨[(.tmp 2, .ref 0 5 0 0)], [(0, .own 5 [[I p0.Row.T, I p0.Row.P, I p0.Row.Liquid, I p0.Row.Vapour, I p0.Row.Silica]])], .ref 0 5 0 0, [], false⟩,
    ⟨[(.tmp 10, .ref 0 5 0 0)], [(0, .own 5 [[I p0.Row.T, I p0.Row.P, I p0.Row.Liquid, I p0.Row.Vapour, I p0.Row.Silica]])], .ref 0 5 0 2, [], false⟩,
    ⟨[(.tmp 11, .ref 0 5 0 2)], [(0, .own 5 [[I p0.Row.T, I p0.Row.P, I p0.Row.Liquid, I p0.Row.Vapour, I p0.Row.Silica]])], I p0.Row.Liquid, [], false⟩,
    ⟨[(.tmp 9, I p1.Mass), (.tmp 12, I p0.Row.Liquid)], [], (I (w64 (p1.Mass * p0.Row.Liquid))), [], false⟩,
    ⟨[(.tmp 7, I p1.Heat), (.tmp 13, (I (w64 (p1.Mass * p0.Row.Liquid))))], [], (I (w64 (p1.Heat - (w64 (p1.Mass * p0.Row.Liquid))))), [], false⟩,
    ⟨[(.tmp 14, (I (w64 (p1.Heat - (w64 (p1.Mass * p0.Row.Liquid))))))], [], I x1, [], false⟩] (by exact ⟨by kernel_rfl, by kernel_rfl⟩) ?_ ?_
  · exact ⟨fun _ => astep_faddr rfl Try.underlying42 rfl rfl ti3 (by decide) rfl,
    fun _ => astep_load rfl ti3 (by decide) rfl (Nat.le_of_ble_eq_true rfl) rfl,
    fun _ => astep_faddr rfl Try.underlying42 rfl rfl ti3 (by decide) rfl,
    fun _ => astep_load rfl ti3 (by decide) rfl (Nat.le_of_ble_eq_true rfl) rfl,
    fun _ => astep_faddr rfl Try.underlying117 rfl rfl ti115 (by decide) rfl,
    fun _ => astep_faddr rfl Try.underlying115 rfl rfl ti3 (by decide) rfl,
    fun _ => astep_load rfl ti3 (by decide) rfl (Nat.le_of_ble_eq_true rfl) rfl,
    fun _ => astep_bin rfl rfl,
    fun _ => astep_bin rfl rfl,
    fun _ => astep_i hl2 (astep_assign rfl), trivial⟩
  refine awp_seq ?_
  refine awp_block ?_
  refine awp_reg [⟨[(.tmp 5, I x1)], [], I x1, [], false⟩,
    ⟨[(.tmp 16, I x1), (.const (.int .i64 0), I 0)], [], (B ((decide (x1 ≤ 0)))), [], false⟩,
    ⟨[(.tmp 17, (B ((decide (x1 ≤ 0)))))], [], (B ((decide (x1 ≤ 0)))), [], false⟩] (by exact ⟨by kernel_rfl, by kernel_rfl⟩) ?_ ?_
  · exact ⟨fun _ => astep_move rfl,
    fun _ => astep_bin rfl rfl,
    fun _ => astep_assign rfl, trivial⟩
  rcases Bool.eq_false_or_eq_true ((decide (x1 ≤ 0))) with hc3 | hc3
  · replace h := bif_t hc3 h
    refine awp_ift hc3 (by kernel_rfl) ?_
    refine awp_reg [⟨[(.const (.int .i64 0), I 0)], [], I 0, [], false⟩] (by exact ⟨by kernel_rfl, by kernel_rfl⟩) ?_ ?_
    · exact ⟨fun _ => astep_assign rfl, trivial⟩
    refine awp_ret ?_
    refine blockA_r ?_
    refine thenA_r ?_
    obtain rfl := Option.some.inj h
    exact ⟨⟨[I 0], ⟨resOK_tmp (by kernel_rfl), trivial⟩, rfl⟩, (NLt.lit _), Nat.le_refl _, fun n hn => absurd hn (Nat.not_lt_zero n)⟩
  · replace h := bif_f hc3 h
    refine awp_ifn hc3 (by kernel_rfl) ?_
    refine awp_reg [⟨[(.tmp 3, .ref 1 4 0 0)], [(1, .own 4 [[I p1.Mass, I p1.Heat, I p1.Silica, I p1.Gas]])], .ref 1 4 0 1, [], false⟩,
    ⟨[(.tmp 19, .ref 1 4 0 1)], [(1, .own 4 [[I p1.Mass, I p1.Heat, I p1.Silica, I p1.Gas]])], I p1.Heat, [], false⟩,
    ⟨[(.tmp 3, .ref 1 4 0 0)], [(1, .own 4 [[I p1.Mass, I p1.Heat, I p1.Silica, I p1.Gas]])], .ref 1 4 0 0, [], false⟩,
    ⟨[(.tmp 21, .ref 1 4 0 0)], [(1, .own 4 [[I p1.Mass, I p1.Heat, I p1.Silica, I p1.Gas]])], I p1.Mass, [], false⟩,
    ⟨[(.tmp 2, .ref 0 5 0 0)], [(0, .own 5 [[I p0.Row.T, I p0.Row.P, I p0.Row.Liquid, I p0.Row.Vapour, I p0.Row.Silica]])], .ref 0 5 0 0, [], false⟩,
    ⟨[(.tmp 23, .ref 0 5 0 0)], [(0, .own 5 [[I p0.Row.T, I p0.Row.P, I p0.Row.Liquid, I p0.Row.Vapour, I p0.Row.Silica]])], .ref 0 5 0 3, [], false⟩,
    ⟨[(.tmp 24, .ref 0 5 0 3)], [(0, .own 5 [[I p0.Row.T, I p0.Row.P, I p0.Row.Liquid, I p0.Row.Vapour, I p0.Row.Silica]])], I p0.Row.Vapour, [], false⟩,
    ⟨[(.tmp 22, I p1.Mass), (.tmp 25, I p0.Row.Vapour)], [], (I (w64 (p1.Mass * p0.Row.Vapour))), [], false⟩,
    ⟨[(.tmp 20, I p1.Heat), (.tmp 26, (I (w64 (p1.Mass * p0.Row.Vapour))))], [], (B ((decide (p1.Heat ≥ (w64 (p1.Mass * p0.Row.Vapour)))))), [], false⟩,
    ⟨[(.tmp 27, (B ((decide (p1.Heat ≥ (w64 (p1.Mass * p0.Row.Vapour)))))))], [], (B ((decide (p1.Heat ≥ (w64 (p1.Mass * p0.Row.Vapour)))))), [], false⟩] (by exact ⟨by kernel_rfl, by kernel_rfl⟩) ?_ ?_
    · exact ⟨fun _ => astep_faddr rfl Try.underlying42 rfl rfl ti3 (by decide) rfl,
    fun _ => astep_load rfl ti3 (by decide) rfl (Nat.le_of_ble_eq_true rfl) rfl,
    fun _ => astep_faddr rfl Try.underlying42 rfl rfl ti3 (by decide) rfl,
    fun _ => astep_load rfl ti3 (by decide) rfl (Nat.le_of_ble_eq_true rfl) rfl,
    fun _ => astep_faddr rfl Try.underlying117 rfl rfl ti115 (by decide) rfl,
    fun _ => astep_faddr rfl Try.underlying115 rfl rfl ti3 (by decide) rfl,
    fun _ => astep_load rfl ti3 (by decide) rfl (Nat.le_of_ble_eq_true rfl) rfl,
    fun _ => astep_bin rfl rfl,
    fun _ => astep_bin rfl rfl,
    fun _ => astep_assign rfl, trivial⟩
    rcases Bool.eq_false_or_eq_true ((decide (p1.Heat ≥ (w64 (p1.Mass * p0.Row.Vapour))))) with hc4 | hc4
    · replace h := bif_t hc4 h
      refine awp_ift hc4 (by kernel_rfl) ?_
      refine awp_reg [⟨[(.tmp 3, .ref 1 4 0 0)], [(1, .own 4 [[I p1.Mass, I p1.Heat, I p1.Silica, I p1.Gas]])], .ref 1 4 0 0, [], false⟩,
    ⟨[(.tmp 28, .ref 1 4 0 0)], [(1, .own 4 [[I p1.Mass, I p1.Heat, I p1.Silica, I p1.Gas]])], I p1.Mass, [], false⟩,
    ⟨[(.tmp 29, I p1.Mass)], [], I p1.Mass, [], false⟩] (by exact ⟨by kernel_rfl, by kernel_rfl⟩) ?_ ?_
      · exact ⟨fun _ => astep_faddr rfl Try.underlying42 rfl rfl ti3 (by decide) rfl,
    fun _ => astep_load rfl ti3 (by decide) rfl (Nat.le_of_ble_eq_true rfl) rfl,
    fun _ => astep_assign rfl, trivial⟩
      refine awp_ret ?_
      refine blockA_r ?_
      refine thenA_r ?_
      obtain rfl := Option.some.inj h
      exact ⟨⟨[I p1.Mass], ⟨resOK_tmp (by kernel_rfl), trivial⟩, rfl⟩, (NLt.lit _), Nat.le_refl _, fun n hn => absurd hn (Nat.not_lt_zero n)⟩
    · replace h := bif_f hc4 h
      refine awp_ifn hc4 (by kernel_rfl) ?_
      refine awp_skip ?_
      refine blockA_n ?_
      refine thenA_n ?_
      obtain ⟨hz5, h⟩ := chk_out h
      obtain ⟨x6, hl7, h⟩ := bind_out h
      refine awp_reg [⟨[(.tmp 5, I x1)], [], I x1, [], false⟩,
    ⟨[(.tmp 2, .ref 0 5 0 0)], [(0, .own 5 [[I p0.Row.T, I p0.Row.P, I p0.Row.Liquid, I p0.Row.Vapour, I p0.Row.Silica]])], .ref 0 5 0 0, [], false⟩,
    ⟨[(.tmp 31, .ref 0 5 0 0)], [(0, .own 5 [[I p0.Row.T, I p0.Row.P, I p0.Row.Liquid, I p0.Row.Vapour, I p0.Row.Silica]])], .ref 0 5 0 3, [], false⟩,
    ⟨[(.tmp 32, .ref 0 5 0 3)], [(0, .own 5 [[I p0.Row.T, I p0.Row.P, I p0.Row.Liquid, I p0.Row.Vapour, I p0.Row.Silica]])], I p0.Row.Vapour, [], false⟩,
    ⟨[(.tmp 2, .ref 0 5 0 0)], [(0, .own 5 [[I p0.Row.T, I p0.Row.P, I p0.Row.Liquid, I p0.Row.Vapour, I p0.Row.Silica]])], .ref 0 5 0 0, [], false⟩,
    ⟨[(.tmp 34, .ref 0 5 0 0)], [(0, .own 5 [[I p0.Row.T, I p0.Row.P, I p0.Row.Liquid, I p0.Row.Vapour, I p0.Row.Silica]])], .ref 0 5 0 2, [], false⟩,
    ⟨[(.tmp 35, .ref 0 5 0 2)], [(0, .own 5 [[I p0.Row.T, I p0.Row.P, I p0.Row.Liquid, I p0.Row.Vapour, I p0.Row.Silica]])], I p0.Row.Liquid, [], false⟩,
    ⟨[(.tmp 33, I p0.Row.Vapour), (.tmp 36, I p0.Row.Liquid)], [], (I (w64 (p0.Row.Vapour - p0.Row.Liquid))), [], false⟩,
    ⟨[(.tmp 30, I x1), (.tmp 37, (I (w64 (p0.Row.Vapour - p0.Row.Liquid))))], [], (I (w64 (x1.tdiv (w64 (p0.Row.Vapour - p0.Row.Liquid))))), [], false⟩,
    ⟨[(.tmp 38, (I (w64 (x1.tdiv (w64 (p0.Row.Vapour - p0.Row.Liquid))))))], [], I x6, [], false⟩] (by exact ⟨by kernel_rfl, by kernel_rfl⟩) ?_ ?_
      · exact ⟨fun _ => astep_move rfl,
    fun _ => astep_faddr rfl Try.underlying117 rfl rfl ti115 (by decide) rfl,
    fun _ => astep_faddr rfl Try.underlying115 rfl rfl ti3 (by decide) rfl,
    fun _ => astep_load rfl ti3 (by decide) rfl (Nat.le_of_ble_eq_true rfl) rfl,
    fun _ => astep_faddr rfl Try.underlying117 rfl rfl ti115 (by decide) rfl,
    fun _ => astep_faddr rfl Try.underlying115 rfl rfl ti3 (by decide) rfl,
    fun _ => astep_load rfl ti3 (by decide) rfl (Nat.le_of_ble_eq_true rfl) rfl,
    fun _ => astep_bin rfl rfl,
    fun _ => astep_quo rfl (bne_out hz5),
    fun _ => astep_i hl7 (astep_assign rfl), trivial⟩
      refine awp_ret ?_
      obtain rfl := Option.some.inj h
      exact ⟨⟨[I x6], ⟨resOK_tmp (by kernel_rfl), trivial⟩, rfl⟩, (NLt.lit _), Nat.le_refl _, fun n hn => absurd hn (Nat.not_lt_zero n)⟩

def steam_flash_ofX (N : Nat) (p0 : GFlash) (p1 : GStream) : Option GParts :=
  (steam_flash_steamX N (⟨(⟨p0.Row.T, p0.Row.P, p0.Row.Liquid, p0.Row.Vapour, p0.Row.Silica⟩ : GRow)⟩ : GFlash) p1).bind fun x2 =>
  joinK (fun ⟨y3, y4, y5, y6, y7, _, y9⟩ =>
      (some (if (w64 (y6 * p0.Row.Silica)) < p1.Silica then w64 (y6 * p0.Row.Silica) else p1.Silica)).bind fun x11 =>
      bif (decide (y6 > 0)) then
        (some (if (w64 (y7 - (w64 (y6 * p0.Row.Liquid)))) > 0 then w64 (y7 - (w64 (y6 * p0.Row.Liquid))) else 0)).bind fun x14 =>
        some (⟨(⟨y3, y4, 0, y5⟩ : GStream), (⟨y6, y7, x11, y9⟩ : GStream), x14, w64 (p1.Silica - x11)⟩ : GParts)
      else
        some (⟨(⟨y3, y4, 0, y5⟩ : GStream), (⟨y6, y7, x11, y9⟩ : GStream), 0, w64 (p1.Silica - x11)⟩ : GParts)) fun k10 : Int × Int × Int × Int × Int × Int × Int → Option GParts =>
  bif (x2 == 0) then
    k10 (0, 0, 0, p1.Mass, p1.Heat, p1.Silica, p1.Gas)
  else
    bif (x2 == p1.Mass) then
      k10 (x2, p1.Heat, p1.Gas, 0, 0, 0, 0)
    else
      k10 (x2, w64 (x2 * p0.Row.Vapour), p1.Gas, w64 (p1.Mass - x2), w64 (p1.Heat - (w64 (x2 * p0.Row.Vapour))), 0, 0)
set_option maxRecDepth 100000 in
set_option maxHeartbeats 4000000 in
theorem steam_flash_ofX_ok (N : Nat) (p0 : GFlash) (p1 : GStream) (r : GParts) (h : steam_flash_ofX N p0 p1 = some r) : Spec Try.prog 61 [(.agg (c_GFlash p0)), (.agg (c_GStream p1))] [] (.agg (c_GParts r)) [] := by
  refine spec_of_awp Try.func61 rfl 0 (Nat.le_of_ble_eq_true rfl) (fun X φ0 w0 hφ0 => ?_)
  unfold steam_flash_ofX at h
  refine awp_reg [⟨[(.tmp 0, (.agg [I p0.Row.T, I p0.Row.P, I p0.Row.Liquid, I p0.Row.Vapour, I p0.Row.Silica]))], [(0, .unused)], .ref 0 5 0 0, [(0, .own 5 [[I p0.Row.T, I p0.Row.P, I p0.Row.Liquid, I p0.Row.Vapour, I p0.Row.Silica]])], false⟩,
    ⟨[(.tmp 1, (.agg [I p1.Mass, I p1.Heat, I p1.Silica, I p1.Gas]))], [(1, .unused)], .ref 1 4 0 0, [(1, .own 4 [[I p1.Mass, I p1.Heat, I p1.Silica, I p1.Gas]])], false⟩,
    ⟨[], [(2, .unused)], .ref 2 10 0 0, [(2, .own 10 [[I 0, I 0, I 0, I 0, I 0, I 0, I 0, I 0, I 0, I 0]])], false⟩] (by exact ⟨by kernel_rfl, by kernel_rfl⟩) ?_ ?_
  · exact ⟨fun _ => astep_box rfl (by rfl) rfl rfl,
    fun _ => astep_box rfl (by rfl) rfl rfl,
    fun _ => astep_alloc rfl tz44 rfl, trivial⟩
  obtain ⟨x2, hf1, h⟩ := bind_out h
  refine awp_reg [⟨[(.tmp 2, .ref 0 5 0 0)], [(0, .own 5 [[I p0.Row.T, I p0.Row.P, I p0.Row.Liquid, I p0.Row.Vapour, I p0.Row.Silica]])], (.agg [I p0.Row.T, I p0.Row.P, I p0.Row.Liquid, I p0.Row.Vapour, I p0.Row.Silica]), [], false⟩,
    ⟨[(.tmp 3, .ref 1 4 0 0)], [(1, .own 4 [[I p1.Mass, I p1.Heat, I p1.Silica, I p1.Gas]])], (.agg [I p1.Mass, I p1.Heat, I p1.Silica, I p1.Gas]), [], false⟩,
    ⟨[(.func 84, (.fn (.func 84) [] [])), (.tmp 7, (.agg [I p0.Row.T, I p0.Row.P, I p0.Row.Liquid, I p0.Row.Vapour, I p0.Row.Silica])), (.tmp 8, (.agg [I p1.Mass, I p1.Heat, I p1.Silica, I p1.Gas]))], [], I x2, [], false⟩,
    ⟨[(.tmp 9, I x2)], [], I x2, [], false⟩] (by exact ⟨by kernel_rfl, by kernel_rfl⟩) ?_ ?_
  · exact ⟨fun _ => astep_load rfl ti117 (by decide) rfl (Nat.le_of_ble_eq_true rfl) rfl,
    fun _ => astep_load rfl ti42 (by decide) rfl (Nat.le_of_ble_eq_true rfl) rfl,
    fun _ => astep_pcall (first := []) (cap := []) (vs := [(.agg [I p0.Row.T, I p0.Row.P, I p0.Row.Liquid, I p0.Row.Vapour, I p0.Row.Silica]), (.agg [I p1.Mass, I p1.Heat, I p1.Silica, I p1.Gas])]) rfl enter84 (steam_flash_steamX_ok N (⟨(⟨p0.Row.T, p0.Row.P, p0.Row.Liquid, p0.Row.Vapour, p0.Row.Silica⟩ : GRow)⟩ : GFlash) p1 _ hf1) rfl rfl (nl_cons (NLt.agg _ (nl_cons (NLt.lit _) (nl_cons (NLt.lit _) (nl_cons (NLt.lit _) (nl_cons (NLt.lit _) (nl_cons (NLt.lit _) nl_nil)))))) (nl_cons (NLt.agg _ (nl_cons (NLt.lit _) (nl_cons (NLt.lit _) (nl_cons (NLt.lit _) (nl_cons (NLt.lit _) nl_nil))))) nl_nil)) (NLt.lit _) rfl,
    fun _ => astep_assign rfl, trivial⟩
  obtain ⟨k10, hk_k10, h⟩ := joinK_out h
  refine awp_join (τ := Int × Int × Int × Int × Int × Int × Int) (fun t => k10 t = some r) (fun ⟨y3, y4, y5, y6, y7, y8, y9⟩ => ⟨mk 87 [(2, .ref 0 5 0 0), (3, .ref 1 4 0 0), (4, .ref 2 10 0 0)], [(.own 5 [[I p0.Row.T, I p0.Row.P, I p0.Row.Liquid, I p0.Row.Vapour, I p0.Row.Silica]]), (.own 4 [[I p1.Mass, I p1.Heat, I p1.Silica, I p1.Gas]]), (.own 10 [[I y3, I y4, I 0, I y5, I y6, I y7, I y8, I y9, I 0, I 0]])]⟩) (fun t h => ?_) ?_
  · subst hk_k10
    obtain ⟨y3, y4, y5, y6, y7, y8, y9⟩ := t
    obtain ⟨x11, hl12, h⟩ := bind_out h
    refine awp_reg [⟨[(.tmp 3, .ref 1 4 0 0)], [(1, .own 4 [[I p1.Mass, I p1.Heat, I p1.Silica, I p1.Gas]])], .ref 1 4 0 2, [], false⟩,
    ⟨[(.tmp 51, .ref 1 4 0 2)], [(1, .own 4 [[I p1.Mass, I p1.Heat, I p1.Silica, I p1.Gas]])], I p1.Silica, [], false⟩,
    ⟨[(.tmp 4, .ref 2 10 0 0)], [(2, .own 10 [[I y3, I y4, I 0, I y5, I y6, I y7, I y8, I y9, I 0, I 0]])], .ref 2 10 0 4, [], false⟩,
    ⟨[(.tmp 53, .ref 2 10 0 4)], [(2, .own 10 [[I y3, I y4, I 0, I y5, I y6, I y7, I y8, I y9, I 0, I 0]])], .ref 2 10 0 4, [], false⟩,
    ⟨[(.tmp 54, .ref 2 10 0 4)], [(2, .own 10 [[I y3, I y4, I 0, I y5, I y6, I y7, I y8, I y9, I 0, I 0]])], I y6, [], false⟩,
    ⟨[(.tmp 2, .ref 0 5 0 0)], [(0, .own 5 [[I p0.Row.T, I p0.Row.P, I p0.Row.Liquid, I p0.Row.Vapour, I p0.Row.Silica]])], .ref 0 5 0 0, [], false⟩,
    ⟨[(.tmp 56, .ref 0 5 0 0)], [(0, .own 5 [[I p0.Row.T, I p0.Row.P, I p0.Row.Liquid, I p0.Row.Vapour, I p0.Row.Silica]])], .ref 0 5 0 4, [], false⟩,
    ⟨[(.tmp 57, .ref 0 5 0 4)], [(0, .own 5 [[I p0.Row.T, I p0.Row.P, I p0.Row.Liquid, I p0.Row.Vapour, I p0.Row.Silica]])], I p0.Row.Silica, [], false⟩,
    ⟨[(.tmp 55, I y6), (.tmp 58, I p0.Row.Silica)], [], (I (w64 (y6 * p0.Row.Silica))), [], false⟩,
    ⟨[(.tmp 52, I p1.Silica), (.tmp 59, (I (w64 (y6 * p0.Row.Silica))))], [], I x11, [], false⟩,
    ⟨[(.tmp 60, I x11)], [], I x11, [], false⟩] (by exact ⟨by kernel_rfl, by kernel_rfl⟩) ?_ ?_
    · exact ⟨fun _ => astep_faddr rfl Try.underlying42 rfl rfl ti3 (by decide) rfl,
    fun _ => astep_load rfl ti3 (by decide) rfl (Nat.le_of_ble_eq_true rfl) rfl,
    fun _ => astep_faddr rfl Try.underlying44 rfl rfl ti42 (by decide) rfl,
    fun _ => astep_faddr rfl Try.underlying42 rfl rfl ti3 (by decide) rfl,
    fun _ => astep_load rfl ti3 (by decide) rfl (Nat.le_of_ble_eq_true rfl) rfl,
    fun _ => astep_faddr rfl Try.underlying117 rfl rfl ti115 (by decide) rfl,
    fun _ => astep_faddr rfl Try.underlying115 rfl rfl ti3 (by decide) rfl,
    fun _ => astep_load rfl ti3 (by decide) rfl (Nat.le_of_ble_eq_true rfl) rfl,
    fun _ => astep_bin rfl rfl,
    fun _ => astep_i hl12 (astep_min rfl),
    fun _ => astep_assign rfl, trivial⟩
    refine awp_regd [⟨[(.tmp 6, I x11)], [], I x11, [], false⟩,
    ⟨[(.tmp 3, .ref 1 4 0 0)], [(1, .own 4 [[I p1.Mass, I p1.Heat, I p1.Silica, I p1.Gas]])], .ref 1 4 0 2, [], false⟩,
    ⟨[(.tmp 62, .ref 1 4 0 2)], [(1, .own 4 [[I p1.Mass, I p1.Heat, I p1.Silica, I p1.Gas]])], I p1.Silica, [], false⟩,
    ⟨[(.tmp 6, I x11)], [], I x11, [], false⟩,
    ⟨[(.tmp 63, I p1.Silica), (.tmp 64, I x11)], [], (I (w64 (p1.Silica - x11))), [], false⟩,
    ⟨[(.tmp 4, .ref 2 10 0 0)], [(2, .own 10 [[I y3, I y4, I 0, I y5, I y6, I y7, I y8, I y9, I 0, I 0]])], .ref 2 10 0 4, [], false⟩,
    ⟨[(.tmp 66, .ref 2 10 0 4)], [(2, .own 10 [[I y3, I y4, I 0, I y5, I y6, I y7, I y8, I y9, I 0, I 0]])], .ref 2 10 0 6, [], false⟩,
    ⟨[(.tmp 67, .ref 2 10 0 6), (.tmp 61, I x11)], [(2, .own 10 [[I y3, I y4, I 0, I y5, I y6, I y7, I y8, I y9, I 0, I 0]])], .any, [(2, .own 10 [[I y3, I y4, I 0, I y5, I y6, I y7, I x11, I y9, I 0, I 0]])], false⟩,
    ⟨[(.tmp 4, .ref 2 10 0 0)], [(2, .own 10 [[I y3, I y4, I 0, I y5, I y6, I y7, I x11, I y9, I 0, I 0]])], .ref 2 10 0 9, [], false⟩,
    ⟨[(.tmp 68, .ref 2 10 0 9), (.tmp 65, (I (w64 (p1.Silica - x11))))], [(2, .own 10 [[I y3, I y4, I 0, I y5, I y6, I y7, I x11, I y9, I 0, I 0]])], .any, [(2, (.own 10 [[I y3, I y4, I 0, I y5, I y6, I y7, I x11, I y9, I 0, (I (w64 (p1.Silica - x11)))]]))], false⟩] (by kernel_rfl) (by exact ⟨by kernel_rfl, by kernel_rfl⟩) (by kernel_rfl) ?_ ?_
    · exact ⟨fun _ => astep_move rfl,
    fun _ => astep_faddr rfl Try.underlying42 rfl rfl ti3 (by decide) rfl,
    fun _ => astep_load rfl ti3 (by decide) rfl (Nat.le_of_ble_eq_true rfl) rfl,
    fun _ => astep_move rfl,
    fun _ => astep_bin rfl rfl,
    fun _ => astep_faddr rfl Try.underlying44 rfl rfl ti42 (by decide) rfl,
    fun _ => astep_faddr rfl Try.underlying42 rfl rfl ti3 (by decide) rfl,
    fun _ => astep_store rfl ti3 (by rfl) rfl (Nat.le_of_ble_eq_true rfl) rfl,
    fun _ => astep_faddr rfl Try.underlying44 rfl rfl ti3 (by decide) rfl,
    fun _ => astep_store rfl ti3 (by rfl) rfl (Nat.le_of_ble_eq_true rfl) rfl, trivial⟩
    refine awp_seq ?_
    refine awp_reg [⟨[(.tmp 4, .ref 2 10 0 0)], [(2, (.own 10 [[I y3, I y4, I 0, I y5, I y6, I y7, I x11, I y9, I 0, (I (w64 (p1.Silica - x11)))]]))], .ref 2 10 0 4, [], false⟩,
    ⟨[(.tmp 69, .ref 2 10 0 4)], [(2, (.own 10 [[I y3, I y4, I 0, I y5, I y6, I y7, I x11, I y9, I 0, (I (w64 (p1.Silica - x11)))]]))], .ref 2 10 0 4, [], false⟩,
    ⟨[(.tmp 70, .ref 2 10 0 4)], [(2, (.own 10 [[I y3, I y4, I 0, I y5, I y6, I y7, I x11, I y9, I 0, (I (w64 (p1.Silica - x11)))]]))], I y6, [], false⟩,
    ⟨[(.tmp 71, I y6), (.const (.int .i64 0), I 0)], [], (B ((decide (y6 > 0)))), [], false⟩] (by exact ⟨by kernel_rfl, by kernel_rfl⟩) ?_ ?_
    · exact ⟨fun _ => astep_faddr rfl Try.underlying44 rfl rfl ti42 (by decide) rfl,
    fun _ => astep_faddr rfl Try.underlying42 rfl rfl ti3 (by decide) rfl,
    fun _ => astep_load rfl ti3 (by decide) rfl (Nat.le_of_ble_eq_true rfl) rfl,
    fun _ => astep_bin rfl rfl, trivial⟩
    rcases Bool.eq_false_or_eq_true ((decide (y6 > 0))) with hc13 | hc13
    · replace h := bif_t hc13 h
      refine awp_ift hc13 (by kernel_rfl) ?_
      obtain ⟨x14, hl15, h⟩ := bind_out h
      refine awp_reg1 [⟨[(.tmp 4, .ref 2 10 0 0)], [(2, (.own 10 [[I y3, I y4, I 0, I y5, I y6, I y7, I x11, I y9, I 0, (I (w64 (p1.Silica - x11)))]]))], .ref 2 10 0 4, [], false⟩,
    ⟨[(.tmp 73, .ref 2 10 0 4)], [(2, (.own 10 [[I y3, I y4, I 0, I y5, I y6, I y7, I x11, I y9, I 0, (I (w64 (p1.Silica - x11)))]]))], .ref 2 10 0 5, [], false⟩,
    ⟨[(.tmp 74, .ref 2 10 0 5)], [(2, (.own 10 [[I y3, I y4, I 0, I y5, I y6, I y7, I x11, I y9, I 0, (I (w64 (p1.Silica - x11)))]]))], I y7, [], false⟩,
    ⟨[(.tmp 4, .ref 2 10 0 0)], [(2, (.own 10 [[I y3, I y4, I 0, I y5, I y6, I y7, I x11, I y9, I 0, (I (w64 (p1.Silica - x11)))]]))], .ref 2 10 0 4, [], false⟩,
    ⟨[(.tmp 76, .ref 2 10 0 4)], [(2, (.own 10 [[I y3, I y4, I 0, I y5, I y6, I y7, I x11, I y9, I 0, (I (w64 (p1.Silica - x11)))]]))], .ref 2 10 0 4, [], false⟩,
    ⟨[(.tmp 77, .ref 2 10 0 4)], [(2, (.own 10 [[I y3, I y4, I 0, I y5, I y6, I y7, I x11, I y9, I 0, (I (w64 (p1.Silica - x11)))]]))], I y6, [], false⟩,
    ⟨[(.tmp 2, .ref 0 5 0 0)], [(0, .own 5 [[I p0.Row.T, I p0.Row.P, I p0.Row.Liquid, I p0.Row.Vapour, I p0.Row.Silica]])], .ref 0 5 0 0, [], false⟩,
    ⟨[(.tmp 79, .ref 0 5 0 0)], [(0, .own 5 [[I p0.Row.T, I p0.Row.P, I p0.Row.Liquid, I p0.Row.Vapour, I p0.Row.Silica]])], .ref 0 5 0 2, [], false⟩,
    ⟨[(.tmp 80, .ref 0 5 0 2)], [(0, .own 5 [[I p0.Row.T, I p0.Row.P, I p0.Row.Liquid, I p0.Row.Vapour, I p0.Row.Silica]])], I p0.Row.Liquid, [], false⟩,
    ⟨[(.tmp 78, I y6), (.tmp 81, I p0.Row.Liquid)], [], (I (w64 (y6 * p0.Row.Liquid))), [], false⟩,
    ⟨[(.tmp 75, I y7), (.tmp 82, (I (w64 (y6 * p0.Row.Liquid))))], [], (I (w64 (y7 - (w64 (y6 * p0.Row.Liquid))))), [], false⟩,
    ⟨[(.const (.int .i64 0), I 0), (.tmp 83, (I (w64 (y7 - (w64 (y6 * p0.Row.Liquid))))))], [], I x14, [], false⟩,
    ⟨[(.tmp 4, .ref 2 10 0 0)], [(2, (.own 10 [[I y3, I y4, I 0, I y5, I y6, I y7, I x11, I y9, I 0, (I (w64 (p1.Silica - x11)))]]))], .ref 2 10 0 8, [], false⟩,
    ⟨[(.tmp 85, .ref 2 10 0 8), (.tmp 84, I x14)], [(2, (.own 10 [[I y3, I y4, I 0, I y5, I y6, I y7, I x11, I y9, I 0, (I (w64 (p1.Silica - x11)))]]))], .any, [(2, (.own 10 [[I y3, I y4, I 0, I y5, I y6, I y7, I x11, I y9, I x14, (I (w64 (p1.Silica - x11)))]]))], false⟩] (by exact ⟨by kernel_rfl, by kernel_rfl⟩) ?_ ?_
      · exact ⟨fun _ => astep_faddr rfl Try.underlying44 rfl rfl ti42 (by decide) rfl,
    fun _ => astep_faddr rfl Try.underlying42 rfl rfl ti3 (by decide) rfl,
    fun _ => astep_load rfl ti3 (by decide) rfl (Nat.le_of_ble_eq_true rfl) rfl,
    fun _ => astep_faddr rfl Try.underlying44 rfl rfl ti42 (by decide) rfl,
    fun _ => astep_faddr rfl Try.underlying42 rfl rfl ti3 (by decide) rfl,
    fun _ => astep_load rfl ti3 (by decide) rfl (Nat.le_of_ble_eq_true rfl) rfl,
    fun _ => astep_faddr rfl Try.underlying117 rfl rfl ti115 (by decide) rfl,
    fun _ => astep_faddr rfl Try.underlying115 rfl rfl ti3 (by decide) rfl,
    fun _ => astep_load rfl ti3 (by decide) rfl (Nat.le_of_ble_eq_true rfl) rfl,
    fun _ => astep_bin rfl rfl,
    fun _ => astep_bin rfl rfl,
    fun _ => astep_i hl15 (astep_max rfl),
    fun _ => astep_faddr rfl Try.underlying44 rfl rfl ti3 (by decide) rfl,
    fun _ => astep_store rfl ti3 (by rfl) rfl (Nat.le_of_ble_eq_true rfl) rfl, trivial⟩
      refine thenA_n ?_
      refine awp_reg [⟨[(.tmp 4, .ref 2 10 0 0)], [(2, (.own 10 [[I y3, I y4, I 0, I y5, I y6, I y7, I x11, I y9, I x14, (I (w64 (p1.Silica - x11)))]]))], (.agg [I y3, I y4, I 0, I y5, I y6, I y7, I x11, I y9, I x14, (I (w64 (p1.Silica - x11)))]), [], false⟩,
    ⟨[(.tmp 4, .ref 2 10 0 0), (.tmp 86, (.agg [I y3, I y4, I 0, I y5, I y6, I y7, I x11, I y9, I x14, (I (w64 (p1.Silica - x11)))]))], [(2, (.own 10 [[I y3, I y4, I 0, I y5, I y6, I y7, I x11, I y9, I x14, (I (w64 (p1.Silica - x11)))]]))], .any, [(2, (.own 10 [[I y3, I y4, I 0, I y5, I y6, I y7, I x11, I y9, I x14, (I (w64 (p1.Silica - x11)))]]))], false⟩] (by exact ⟨by kernel_rfl, by kernel_rfl⟩) ?_ ?_
      · exact ⟨fun _ => astep_load rfl ti44 (by decide) rfl (Nat.le_of_ble_eq_true rfl) rfl,
    fun _ => astep_store rfl ti44 (by rfl) rfl (Nat.le_of_ble_eq_true rfl) rfl, trivial⟩
      refine awp_ret ?_
      obtain rfl := Option.some.inj h
      exact ⟨⟨[(.agg [I y3, I y4, I 0, I y5, I y6, I y7, I x11, I y9, I x14, (I (w64 (p1.Silica - x11)))])], ⟨resOK_cell (n := 2) (m := 10) (j := 0) (i := 0) (xs := [[I y3, I y4, I 0, I y5, I y6, I y7, I x11, I y9, I x14, (I (w64 (p1.Silica - x11)))]]) (by kernel_rfl) (by kernel_rfl) ti44 (by decide) rfl (Nat.le_of_ble_eq_true rfl) rfl, trivial⟩, rfl⟩, (NLt.agg _ (nl_cons (NLt.lit _) (nl_cons (NLt.lit _) (nl_cons (NLt.lit _) (nl_cons (NLt.lit _) (nl_cons (NLt.lit _) (nl_cons (NLt.lit _) (nl_cons (NLt.lit _) (nl_cons (NLt.lit _) (nl_cons (NLt.lit _) (nl_cons (NLt.lit _) nl_nil))))))))))), Nat.le_refl _, fun n hn => absurd hn (Nat.not_lt_zero n)⟩
    · replace h := bif_f hc13 h
      refine awp_ifn hc13 (by kernel_rfl) ?_
      refine awp_skip ?_
      refine thenA_n ?_
      refine awp_reg [⟨[(.tmp 4, .ref 2 10 0 0)], [(2, (.own 10 [[I y3, I y4, I 0, I y5, I y6, I y7, I x11, I y9, I 0, (I (w64 (p1.Silica - x11)))]]))], (.agg [I y3, I y4, I 0, I y5, I y6, I y7, I x11, I y9, I 0, (I (w64 (p1.Silica - x11)))]), [], false⟩,
    ⟨[(.tmp 4, .ref 2 10 0 0), (.tmp 86, (.agg [I y3, I y4, I 0, I y5, I y6, I y7, I x11, I y9, I 0, (I (w64 (p1.Silica - x11)))]))], [(2, (.own 10 [[I y3, I y4, I 0, I y5, I y6, I y7, I x11, I y9, I 0, (I (w64 (p1.Silica - x11)))]]))], .any, [(2, (.own 10 [[I y3, I y4, I 0, I y5, I y6, I y7, I x11, I y9, I 0, (I (w64 (p1.Silica - x11)))]]))], false⟩] (by exact ⟨by kernel_rfl, by kernel_rfl⟩) ?_ ?_
      · exact ⟨fun _ => astep_load rfl ti44 (by decide) rfl (Nat.le_of_ble_eq_true rfl) rfl,
    fun _ => astep_store rfl ti44 (by rfl) rfl (Nat.le_of_ble_eq_true rfl) rfl, trivial⟩
      refine awp_ret ?_
      obtain rfl := Option.some.inj h
      exact ⟨⟨[(.agg [I y3, I y4, I 0, I y5, I y6, I y7, I x11, I y9, I 0, (I (w64 (p1.Silica - x11)))])], ⟨resOK_cell (n := 2) (m := 10) (j := 0) (i := 0) (xs := [[I y3, I y4, I 0, I y5, I y6, I y7, I x11, I y9, I 0, (I (w64 (p1.Silica - x11)))]]) (by kernel_rfl) (by kernel_rfl) ti44 (by decide) rfl (Nat.le_of_ble_eq_true rfl) rfl, trivial⟩, rfl⟩, (NLt.agg _ (nl_cons (NLt.lit _) (nl_cons (NLt.lit _) (nl_cons (NLt.lit _) (nl_cons (NLt.lit _) (nl_cons (NLt.lit _) (nl_cons (NLt.lit _) (nl_cons (NLt.lit _) (nl_cons (NLt.lit _) (nl_cons (NLt.lit _) (nl_cons (NLt.lit _) nl_nil))))))))))), Nat.le_refl _, fun n hn => absurd hn (Nat.not_lt_zero n)⟩
  · skip
    refine awp_block ?_
    refine awp_reg [⟨[(.tmp 5, I x2)], [], I x2, [], false⟩,
    ⟨[(.tmp 35, I x2), (.const (.int .i64 0), I 0)], [], (B ((x2 == 0))), [], false⟩,
    ⟨[(.tmp 36, (B ((x2 == 0))))], [], (B ((x2 == 0))), [], false⟩] (by exact ⟨by kernel_rfl, by kernel_rfl⟩) ?_ ?_
    · exact ⟨fun _ => astep_move rfl,
    fun _ => astep_bin rfl rfl,
    fun _ => astep_assign rfl, trivial⟩
    rcases Bool.eq_false_or_eq_true ((x2 == 0)) with hc16 | hc16
    · replace h := bif_t hc16 h
      refine awp_ift hc16 (by kernel_rfl) ?_
      refine awp_reg1 [⟨[(.tmp 3, .ref 1 4 0 0)], [(1, .own 4 [[I p1.Mass, I p1.Heat, I p1.Silica, I p1.Gas]])], (.agg [I p1.Mass, I p1.Heat, I p1.Silica, I p1.Gas]), [], false⟩,
    ⟨[(.tmp 4, .ref 2 10 0 0)], [(2, .own 10 [[I 0, I 0, I 0, I 0, I 0, I 0, I 0, I 0, I 0, I 0]])], .ref 2 10 0 4, [], false⟩,
    ⟨[(.tmp 38, .ref 2 10 0 4), (.tmp 37, (.agg [I p1.Mass, I p1.Heat, I p1.Silica, I p1.Gas]))], [(2, .own 10 [[I 0, I 0, I 0, I 0, I 0, I 0, I 0, I 0, I 0, I 0]])], .any, [(2, .own 10 [[I 0, I 0, I 0, I 0, I p1.Mass, I p1.Heat, I p1.Silica, I p1.Gas, I 0, I 0]])], false⟩] (by exact ⟨by kernel_rfl, by kernel_rfl⟩) ?_ ?_
      · exact ⟨fun _ => astep_load rfl ti42 (by decide) rfl (Nat.le_of_ble_eq_true rfl) rfl,
    fun _ => astep_faddr rfl Try.underlying44 rfl rfl ti42 (by decide) rfl,
    fun _ => astep_store rfl ti42 (by rfl) rfl (Nat.le_of_ble_eq_true rfl) rfl, trivial⟩
      refine blockA_n ?_
      refine thenA_n ?_
      exact ⟨(0, 0, 0, p1.Mass, p1.Heat, p1.Silica, p1.Gas), h, (mor_to (n := 87) (l' := [(2, .ref 0 5 0 0), (3, .ref 1 4 0 0), (4, .ref 2 10 0 0)]) (own' := [(.own 5 [[I p0.Row.T, I p0.Row.P, I p0.Row.Liquid, I p0.Row.Vapour, I p0.Row.Silica]]), (.own 4 [[I p1.Mass, I p1.Heat, I p1.Silica, I p1.Gas]]), (.own 10 [[I 0, I 0, I 0, I 0, I p1.Mass, I p1.Heat, I p1.Silica, I p1.Gas, I 0, I 0]])]) [(2, .ref 0 5 0 0), (3, .ref 1 4 0 0), (4, .ref 2 10 0 0)] [0, 1, 2] [(.own 5 [[I p0.Row.T, I p0.Row.P, I p0.Row.Liquid, I p0.Row.Vapour, I p0.Row.Silica]]), (.own 4 [[I p1.Mass, I p1.Heat, I p1.Silica, I p1.Gas]]), (.own 10 [[I 0, I 0, I 0, I 0, I p1.Mass, I p1.Heat, I p1.Silica, I p1.Gas, I 0, I 0]])] hφ0 (by kernel_rfl) (by kernel_rfl) (by kernel_rfl) ⟨rfl, .rn (rnq_ref rfl), rfl, .rn (rnq_ref rfl), rfl, .rn (rnq_ref rfl), trivial⟩ ⟨(spw_box ⟨(.rn (.plain _ (NLt.lit _))), (.rn (.plain _ (NLt.lit _))), (.rn (.plain _ (NLt.lit _))), (.rn (.plain _ (NLt.lit _))), (.rn (.plain _ (NLt.lit _))), trivial⟩), (spw_box ⟨(.rn (.plain _ (NLt.lit _))), (.rn (.plain _ (NLt.lit _))), (.rn (.plain _ (NLt.lit _))), (.rn (.plain _ (NLt.lit _))), trivial⟩), (spw_box ⟨(.rn (.plain _ (NLt.lit _))), (.rn (.plain _ (NLt.lit _))), (.rn (.plain _ (NLt.lit _))), (.rn (.plain _ (NLt.lit _))), (.rn (.plain _ (NLt.lit _))), (.rn (.plain _ (NLt.lit _))), (.rn (.plain _ (NLt.lit _))), (.rn (.plain _ (NLt.lit _))), (.rn (.plain _ (NLt.lit _))), (.rn (.plain _ (NLt.lit _))), trivial⟩), trivial⟩)⟩
    · replace h := bif_f hc16 h
      refine awp_ifn hc16 (by kernel_rfl) ?_
      refine awp_reg [⟨[(.tmp 5, I x2)], [], I x2, [], false⟩,
    ⟨[(.tmp 3, .ref 1 4 0 0)], [(1, .own 4 [[I p1.Mass, I p1.Heat, I p1.Silica, I p1.Gas]])], .ref 1 4 0 0, [], false⟩,
    ⟨[(.tmp 41, .ref 1 4 0 0)], [(1, .own 4 [[I p1.Mass, I p1.Heat, I p1.Silica, I p1.Gas]])], I p1.Mass, [], false⟩,
    ⟨[(.tmp 40, I x2), (.tmp 42, I p1.Mass)], [], (B ((x2 == p1.Mass))), [], false⟩,
    ⟨[(.tmp 43, (B ((x2 == p1.Mass))))], [], (B ((x2 == p1.Mass))), [], false⟩] (by exact ⟨by kernel_rfl, by kernel_rfl⟩) ?_ ?_
      · exact ⟨fun _ => astep_move rfl,
    fun _ => astep_faddr rfl Try.underlying42 rfl rfl ti3 (by decide) rfl,
    fun _ => astep_load rfl ti3 (by decide) rfl (Nat.le_of_ble_eq_true rfl) rfl,
    fun _ => astep_bin rfl rfl,
    fun _ => astep_assign rfl, trivial⟩
      rcases Bool.eq_false_or_eq_true ((x2 == p1.Mass)) with hc17 | hc17
      · replace h := bif_t hc17 h
        refine awp_ift hc17 (by kernel_rfl) ?_
        refine awp_reg1 [⟨[(.tmp 5, I x2)], [], I x2, [], false⟩,
    ⟨[(.tmp 3, .ref 1 4 0 0)], [(1, .own 4 [[I p1.Mass, I p1.Heat, I p1.Silica, I p1.Gas]])], .ref 1 4 0 1, [], false⟩,
    ⟨[(.tmp 45, .ref 1 4 0 1)], [(1, .own 4 [[I p1.Mass, I p1.Heat, I p1.Silica, I p1.Gas]])], I p1.Heat, [], false⟩,
    ⟨[(.tmp 3, .ref 1 4 0 0)], [(1, .own 4 [[I p1.Mass, I p1.Heat, I p1.Silica, I p1.Gas]])], .ref 1 4 0 3, [], false⟩,
    ⟨[(.tmp 47, .ref 1 4 0 3)], [(1, .own 4 [[I p1.Mass, I p1.Heat, I p1.Silica, I p1.Gas]])], I p1.Gas, [], false⟩,
    ⟨[(.tmp 44, I x2), (.tmp 46, I p1.Heat), (.tmp 48, I p1.Gas)], [], (.agg [I x2, I p1.Heat, I 0, I p1.Gas]), [], false⟩,
    ⟨[(.tmp 4, .ref 2 10 0 0)], [(2, .own 10 [[I 0, I 0, I 0, I 0, I 0, I 0, I 0, I 0, I 0, I 0]])], .ref 2 10 0 0, [], false⟩,
    ⟨[(.tmp 50, .ref 2 10 0 0), (.tmp 49, (.agg [I x2, I p1.Heat, I 0, I p1.Gas]))], [(2, .own 10 [[I 0, I 0, I 0, I 0, I 0, I 0, I 0, I 0, I 0, I 0]])], .any, [(2, .own 10 [[I x2, I p1.Heat, I 0, I p1.Gas, I 0, I 0, I 0, I 0, I 0, I 0]])], false⟩] (by exact ⟨by kernel_rfl, by kernel_rfl⟩) ?_ ?_
        · exact ⟨fun _ => astep_move rfl,
    fun _ => astep_faddr rfl Try.underlying42 rfl rfl ti3 (by decide) rfl,
    fun _ => astep_load rfl ti3 (by decide) rfl (Nat.le_of_ble_eq_true rfl) rfl,
    fun _ => astep_faddr rfl Try.underlying42 rfl rfl ti3 (by decide) rfl,
    fun _ => astep_load rfl ti3 (by decide) rfl (Nat.le_of_ble_eq_true rfl) rfl,
    fun _ => astep_build (vs := [I x2, I p1.Heat, I p1.Gas]) rfl ts42 tz42 rfl (by rfl) rfl,
    fun _ => astep_faddr rfl Try.underlying44 rfl rfl ti42 (by decide) rfl,
    fun _ => astep_store rfl ti42 (by rfl) rfl (Nat.le_of_ble_eq_true rfl) rfl, trivial⟩
        refine blockA_n ?_
        refine thenA_n ?_
        exact ⟨(x2, p1.Heat, p1.Gas, 0, 0, 0, 0), h, (mor_to (n := 87) (l' := [(2, .ref 0 5 0 0), (3, .ref 1 4 0 0), (4, .ref 2 10 0 0)]) (own' := [(.own 5 [[I p0.Row.T, I p0.Row.P, I p0.Row.Liquid, I p0.Row.Vapour, I p0.Row.Silica]]), (.own 4 [[I p1.Mass, I p1.Heat, I p1.Silica, I p1.Gas]]), (.own 10 [[I x2, I p1.Heat, I 0, I p1.Gas, I 0, I 0, I 0, I 0, I 0, I 0]])]) [(2, .ref 0 5 0 0), (3, .ref 1 4 0 0), (4, .ref 2 10 0 0)] [0, 1, 2] [(.own 5 [[I p0.Row.T, I p0.Row.P, I p0.Row.Liquid, I p0.Row.Vapour, I p0.Row.Silica]]), (.own 4 [[I p1.Mass, I p1.Heat, I p1.Silica, I p1.Gas]]), (.own 10 [[I x2, I p1.Heat, I 0, I p1.Gas, I 0, I 0, I 0, I 0, I 0, I 0]])] hφ0 (by kernel_rfl) (by kernel_rfl) (by kernel_rfl) ⟨rfl, .rn (rnq_ref rfl), rfl, .rn (rnq_ref rfl), rfl, .rn (rnq_ref rfl), trivial⟩ ⟨(spw_box ⟨(.rn (.plain _ (NLt.lit _))), (.rn (.plain _ (NLt.lit _))), (.rn (.plain _ (NLt.lit _))), (.rn (.plain _ (NLt.lit _))), (.rn (.plain _ (NLt.lit _))), trivial⟩), (spw_box ⟨(.rn (.plain _ (NLt.lit _))), (.rn (.plain _ (NLt.lit _))), (.rn (.plain _ (NLt.lit _))), (.rn (.plain _ (NLt.lit _))), trivial⟩), (spw_box ⟨(.rn (.plain _ (NLt.lit _))), (.rn (.plain _ (NLt.lit _))), (.rn (.plain _ (NLt.lit _))), (.rn (.plain _ (NLt.lit _))), (.rn (.plain _ (NLt.lit _))), (.rn (.plain _ (NLt.lit _))), (.rn (.plain _ (NLt.lit _))), (.rn (.plain _ (NLt.lit _))), (.rn (.plain _ (NLt.lit _))), (.rn (.plain _ (NLt.lit _))), trivial⟩), trivial⟩)⟩
      · replace h := bif_f hc17 h
        refine awp_ifn hc17 (by kernel_rfl) ?_
        refine awp_reg [⟨[(.tmp 5, I x2)], [], I x2, [], false⟩,
    ⟨[(.tmp 5, I x2)], [], I x2, [], false⟩,
    ⟨[(.tmp 2, .ref 0 5 0 0)], [(0, .own 5 [[I p0.Row.T, I p0.Row.P, I p0.Row.Liquid, I p0.Row.Vapour, I p0.Row.Silica]])], .ref 0 5 0 0, [], false⟩,
    ⟨[(.tmp 12, .ref 0 5 0 0)], [(0, .own 5 [[I p0.Row.T, I p0.Row.P, I p0.Row.Liquid, I p0.Row.Vapour, I p0.Row.Silica]])], .ref 0 5 0 3, [], false⟩,
    ⟨[(.tmp 13, .ref 0 5 0 3)], [(0, .own 5 [[I p0.Row.T, I p0.Row.P, I p0.Row.Liquid, I p0.Row.Vapour, I p0.Row.Silica]])], I p0.Row.Vapour, [], false⟩,
    ⟨[(.tmp 11, I x2), (.tmp 14, I p0.Row.Vapour)], [], (I (w64 (x2 * p0.Row.Vapour))), [], false⟩,
    ⟨[(.tmp 3, .ref 1 4 0 0)], [(1, .own 4 [[I p1.Mass, I p1.Heat, I p1.Silica, I p1.Gas]])], .ref 1 4 0 3, [], false⟩,
    ⟨[(.tmp 16, .ref 1 4 0 3)], [(1, .own 4 [[I p1.Mass, I p1.Heat, I p1.Silica, I p1.Gas]])], I p1.Gas, [], false⟩,
    ⟨[(.tmp 10, I x2), (.tmp 15, (I (w64 (x2 * p0.Row.Vapour)))), (.tmp 17, I p1.Gas)], [], (.agg [I x2, (I (w64 (x2 * p0.Row.Vapour))), I 0, I p1.Gas]), [], false⟩,
    ⟨[(.tmp 4, .ref 2 10 0 0)], [(2, .own 10 [[I 0, I 0, I 0, I 0, I 0, I 0, I 0, I 0, I 0, I 0]])], .ref 2 10 0 0, [], false⟩,
    ⟨[(.tmp 19, .ref 2 10 0 0), (.tmp 18, (.agg [I x2, (I (w64 (x2 * p0.Row.Vapour))), I 0, I p1.Gas]))], [(2, .own 10 [[I 0, I 0, I 0, I 0, I 0, I 0, I 0, I 0, I 0, I 0]])], .any, [(2, (.own 10 [[I x2, (I (w64 (x2 * p0.Row.Vapour))), I 0, I p1.Gas, I 0, I 0, I 0, I 0, I 0, I 0]]))], false⟩] (by exact ⟨by kernel_rfl, by kernel_rfl⟩) ?_ ?_
        · exact ⟨fun _ => astep_move rfl,
    fun _ => astep_move rfl,
    fun _ => astep_faddr rfl Try.underlying117 rfl rfl ti115 (by decide) rfl,
    fun _ => astep_faddr rfl Try.underlying115 rfl rfl ti3 (by decide) rfl,
    fun _ => astep_load rfl ti3 (by decide) rfl (Nat.le_of_ble_eq_true rfl) rfl,
    fun _ => astep_bin rfl rfl,
    fun _ => astep_faddr rfl Try.underlying42 rfl rfl ti3 (by decide) rfl,
    fun _ => astep_load rfl ti3 (by decide) rfl (Nat.le_of_ble_eq_true rfl) rfl,
    fun _ => astep_build (vs := [I x2, (I (w64 (x2 * p0.Row.Vapour))), I p1.Gas]) rfl ts42 tz42 rfl (by rfl) rfl,
    fun _ => astep_faddr rfl Try.underlying44 rfl rfl ti42 (by decide) rfl,
    fun _ => astep_store rfl ti42 (by rfl) rfl (Nat.le_of_ble_eq_true rfl) rfl, trivial⟩
        refine awp_reg1 [⟨[(.tmp 3, .ref 1 4 0 0)], [(1, .own 4 [[I p1.Mass, I p1.Heat, I p1.Silica, I p1.Gas]])], .ref 1 4 0 0, [], false⟩,
    ⟨[(.tmp 20, .ref 1 4 0 0)], [(1, .own 4 [[I p1.Mass, I p1.Heat, I p1.Silica, I p1.Gas]])], I p1.Mass, [], false⟩,
    ⟨[(.tmp 5, I x2)], [], I x2, [], false⟩,
    ⟨[(.tmp 21, I p1.Mass), (.tmp 22, I x2)], [], (I (w64 (p1.Mass - x2))), [], false⟩,
    ⟨[(.tmp 3, .ref 1 4 0 0)], [(1, .own 4 [[I p1.Mass, I p1.Heat, I p1.Silica, I p1.Gas]])], .ref 1 4 0 1, [], false⟩,
    ⟨[(.tmp 24, .ref 1 4 0 1)], [(1, .own 4 [[I p1.Mass, I p1.Heat, I p1.Silica, I p1.Gas]])], I p1.Heat, [], false⟩,
    ⟨[(.tmp 5, I x2)], [], I x2, [], false⟩,
    ⟨[(.tmp 2, .ref 0 5 0 0)], [(0, .own 5 [[I p0.Row.T, I p0.Row.P, I p0.Row.Liquid, I p0.Row.Vapour, I p0.Row.Silica]])], .ref 0 5 0 0, [], false⟩,
    ⟨[(.tmp 27, .ref 0 5 0 0)], [(0, .own 5 [[I p0.Row.T, I p0.Row.P, I p0.Row.Liquid, I p0.Row.Vapour, I p0.Row.Silica]])], .ref 0 5 0 3, [], false⟩,
    ⟨[(.tmp 28, .ref 0 5 0 3)], [(0, .own 5 [[I p0.Row.T, I p0.Row.P, I p0.Row.Liquid, I p0.Row.Vapour, I p0.Row.Silica]])], I p0.Row.Vapour, [], false⟩,
    ⟨[(.tmp 26, I x2), (.tmp 29, I p0.Row.Vapour)], [], (I (w64 (x2 * p0.Row.Vapour))), [], false⟩,
    ⟨[(.tmp 25, I p1.Heat), (.tmp 30, (I (w64 (x2 * p0.Row.Vapour))))], [], (I (w64 (p1.Heat - (w64 (x2 * p0.Row.Vapour))))), [], false⟩,
    ⟨[(.tmp 23, (I (w64 (p1.Mass - x2)))), (.tmp 31, (I (w64 (p1.Heat - (w64 (x2 * p0.Row.Vapour))))))], [], (.agg [(I (w64 (p1.Mass - x2))), (I (w64 (p1.Heat - (w64 (x2 * p0.Row.Vapour))))), I 0, I 0]), [], false⟩,
    ⟨[(.tmp 4, .ref 2 10 0 0)], [(2, (.own 10 [[I x2, (I (w64 (x2 * p0.Row.Vapour))), I 0, I p1.Gas, I 0, I 0, I 0, I 0, I 0, I 0]]))], .ref 2 10 0 4, [], false⟩,
    ⟨[(.tmp 33, .ref 2 10 0 4), (.tmp 32, (.agg [(I (w64 (p1.Mass - x2))), (I (w64 (p1.Heat - (w64 (x2 * p0.Row.Vapour))))), I 0, I 0]))], [(2, (.own 10 [[I x2, (I (w64 (x2 * p0.Row.Vapour))), I 0, I p1.Gas, I 0, I 0, I 0, I 0, I 0, I 0]]))], .any, [(2, (.own 10 [[I x2, (I (w64 (x2 * p0.Row.Vapour))), I 0, I p1.Gas, (I (w64 (p1.Mass - x2))), (I (w64 (p1.Heat - (w64 (x2 * p0.Row.Vapour))))), I 0, I 0, I 0, I 0]]))], false⟩] (by exact ⟨by kernel_rfl, by kernel_rfl⟩) ?_ ?_
        · exact ⟨fun _ => astep_faddr rfl Try.underlying42 rfl rfl ti3 (by decide) rfl,
    fun _ => astep_load rfl ti3 (by decide) rfl (Nat.le_of_ble_eq_true rfl) rfl,
    fun _ => astep_move rfl,
    fun _ => astep_bin rfl rfl,
    fun _ => astep_faddr rfl Try.underlying42 rfl rfl ti3 (by decide) rfl,
    fun _ => astep_load rfl ti3 (by decide) rfl (Nat.le_of_ble_eq_true rfl) rfl,
    fun _ => astep_move rfl,
    fun _ => astep_faddr rfl Try.underlying117 rfl rfl ti115 (by decide) rfl,
    fun _ => astep_faddr rfl Try.underlying115 rfl rfl ti3 (by decide) rfl,
    fun _ => astep_load rfl ti3 (by decide) rfl (Nat.le_of_ble_eq_true rfl) rfl,
    fun _ => astep_bin rfl rfl,
    fun _ => astep_bin rfl rfl,
    fun _ => astep_build (vs := [(I (w64 (p1.Mass - x2))), (I (w64 (p1.Heat - (w64 (x2 * p0.Row.Vapour)))))]) rfl ts42 tz42 rfl (by rfl) rfl,
    fun _ => astep_faddr rfl Try.underlying44 rfl rfl ti42 (by decide) rfl,
    fun _ => astep_store rfl ti42 (by rfl) rfl (Nat.le_of_ble_eq_true rfl) rfl, trivial⟩
        refine blockA_n ?_
        refine thenA_n ?_
        exact ⟨(x2, w64 (x2 * p0.Row.Vapour), p1.Gas, w64 (p1.Mass - x2), w64 (p1.Heat - (w64 (x2 * p0.Row.Vapour))), 0, 0), h, (mor_to (n := 87) (l' := [(2, .ref 0 5 0 0), (3, .ref 1 4 0 0), (4, .ref 2 10 0 0)]) (own' := [(.own 5 [[I p0.Row.T, I p0.Row.P, I p0.Row.Liquid, I p0.Row.Vapour, I p0.Row.Silica]]), (.own 4 [[I p1.Mass, I p1.Heat, I p1.Silica, I p1.Gas]]), (.own 10 [[I x2, (I ((w64 (x2 * p0.Row.Vapour)))), I 0, I p1.Gas, (I ((w64 (p1.Mass - x2)))), (I ((w64 (p1.Heat - (w64 (x2 * p0.Row.Vapour)))))), I 0, I 0, I 0, I 0]])]) [(2, .ref 0 5 0 0), (3, .ref 1 4 0 0), (4, .ref 2 10 0 0)] [0, 1, 2] [(.own 5 [[I p0.Row.T, I p0.Row.P, I p0.Row.Liquid, I p0.Row.Vapour, I p0.Row.Silica]]), (.own 4 [[I p1.Mass, I p1.Heat, I p1.Silica, I p1.Gas]]), (.own 10 [[I x2, (I (w64 (x2 * p0.Row.Vapour))), I 0, I p1.Gas, (I (w64 (p1.Mass - x2))), (I (w64 (p1.Heat - (w64 (x2 * p0.Row.Vapour))))), I 0, I 0, I 0, I 0]])] hφ0 (by kernel_rfl) (by kernel_rfl) (by kernel_rfl) ⟨rfl, .rn (rnq_ref rfl), rfl, .rn (rnq_ref rfl), rfl, .rn (rnq_ref rfl), trivial⟩ ⟨(spw_box ⟨(.rn (.plain _ (NLt.lit _))), (.rn (.plain _ (NLt.lit _))), (.rn (.plain _ (NLt.lit _))), (.rn (.plain _ (NLt.lit _))), (.rn (.plain _ (NLt.lit _))), trivial⟩), (spw_box ⟨(.rn (.plain _ (NLt.lit _))), (.rn (.plain _ (NLt.lit _))), (.rn (.plain _ (NLt.lit _))), (.rn (.plain _ (NLt.lit _))), trivial⟩), (spw_box ⟨(.rn (.plain _ (NLt.lit _))), (.rn (.plain _ (NLt.lit _))), (.rn (.plain _ (NLt.lit _))), (.rn (.plain _ (NLt.lit _))), (.rn (.plain _ (NLt.lit _))), (.rn (.plain _ (NLt.lit _))), (.rn (.plain _ (NLt.lit _))), (.rn (.plain _ (NLt.lit _))), (.rn (.plain _ (NLt.lit _))), (.rn (.plain _ (NLt.lit _))), trivial⟩), trivial⟩)⟩

def steam_FlashX (N : Nat) (p0 : (List GRow)) (p1 : Int) (p2 : GStream) : Option (GParts × Int) :=
  (steam_Table_validX N p0).bind fun x2 =>
  bif (!x2) then
    some ((⟨(⟨0, 0, 0, 0⟩ : GStream), (⟨0, 0, 0, 0⟩ : GStream), 0, 0⟩ : GParts), 1)
  else
    (steam_Table_hasX N p0 p1).bind fun x5 =>
    bif (!x5) then
      some ((⟨(⟨0, 0, 0, 0⟩ : GStream), (⟨0, 0, 0, 0⟩ : GStream), 0, 0⟩ : GParts), 2)
    else
      (steam_Stream_validX N p2).bind fun x8 =>
      bif (!x8) then
        some ((⟨(⟨0, 0, 0, 0⟩ : GStream), (⟨0, 0, 0, 0⟩ : GStream), 0, 0⟩ : GParts), 1)
      else
        (steam_Table_atX N p0 p1).bind fun x11 =>
        (steam_flash_ofX N (⟨(⟨x11.Row.T, x11.Row.P, x11.Row.Liquid, x11.Row.Vapour, x11.Row.Silica⟩ : GRow)⟩ : GFlash) p2).bind fun x13 =>
        some ((⟨(⟨x13.Steam.Mass, x13.Steam.Heat, x13.Steam.Silica, x13.Steam.Gas⟩ : GStream), (⟨x13.Water.Mass, x13.Water.Heat, x13.Water.Silica, x13.Water.Gas⟩ : GStream), x13.Rest, x13.Scale⟩ : GParts), 0)
set_option maxRecDepth 100000 in
set_option maxHeartbeats 4000000 in
theorem steam_FlashX_ok (N : Nat) (p0 : (List GRow)) (p1 : Int) (p2 : GStream) (r : (GParts × Int)) (h : steam_FlashX N p0 p1 p2 = some r) : Spec Try.prog 25 [(.dat 5 (p0.map c_GRow)), (I p1), (.agg (c_GStream p2))] [] (.tup [(.agg (c_GParts r.1)), (I r.2)]) [] := by
  refine spec_of_awp Try.func25 rfl 0 (Nat.le_of_ble_eq_true rfl) (fun X φ0 w0 hφ0 => ?_)
  unfold steam_FlashX at h
  refine awp_reg [⟨[(.tmp 2, (.agg [I p2.Mass, I p2.Heat, I p2.Silica, I p2.Gas]))], [(0, .unused)], .ref 0 4 0 0, [(0, .own 4 [[I p2.Mass, I p2.Heat, I p2.Silica, I p2.Gas]])], false⟩,
    ⟨[], [(1, .unused)], .ref 1 10 0 0, [(1, .own 10 [[I 0, I 0, I 0, I 0, I 0, I 0, I 0, I 0, I 0, I 0]])], false⟩,
    ⟨[(.const (.int .i64 0), I 0)], [], I 0, [], false⟩] (by exact ⟨by kernel_rfl, by kernel_rfl⟩) ?_ ?_
  · exact ⟨fun _ => astep_box rfl (by rfl) rfl rfl,
    fun _ => astep_alloc rfl tz44 rfl,
    fun _ => astep_assign rfl, trivial⟩
  refine awp_seq ?_
  refine awp_block ?_
  obtain ⟨x2, hf1, h⟩ := bind_out h
  refine awp_reg [⟨[(.tmp 0, (.dat 5 ((p0 : List GRow).map c_GRow)))], [], (.dat 5 ((p0 : List GRow).map c_GRow)), [], false⟩,
    ⟨[(.func 56, (.fn (.func 56) [] [])), (.tmp 9, (.dat 5 ((p0 : List GRow).map c_GRow)))], [], B x2, [], false⟩,
    ⟨[(.tmp 10, B x2)], [], (B ((!x2))), [], false⟩,
    ⟨[(.tmp 11, (B ((!x2))))], [], (B ((!x2))), [], false⟩] (by exact ⟨by kernel_rfl, by kernel_rfl⟩) ?_ ?_
  · exact ⟨fun _ => astep_move rfl,
    fun _ => astep_pcall (first := []) (cap := []) (vs := [(.dat 5 ((p0 : List GRow).map c_GRow))]) rfl enter56 (steam_Table_validX_ok N p0 _ hf1) rfl rfl (nl_cons (nl_dat nl_GRow _) nl_nil) (NLt.lit _) rfl,
    fun _ => astep_not rfl,
    fun _ => astep_assign rfl, trivial⟩
  rcases Bool.eq_false_or_eq_true ((!x2)) with hc3 | hc3
  · replace h := bif_t hc3 h
    refine awp_ift hc3 (by kernel_rfl) ?_
    refine awp_reg [⟨[], [], (.agg [I 0, I 0, I 0, I 0, I 0, I 0, I 0, I 0, I 0, I 0]), [], false⟩,
    ⟨[(.tmp 6, .ref 1 10 0 0), (.tmp 12, (.agg [I 0, I 0, I 0, I 0, I 0, I 0, I 0, I 0, I 0, I 0]))], [(1, .own 10 [[I 0, I 0, I 0, I 0, I 0, I 0, I 0, I 0, I 0, I 0]])], .any, [(1, .own 10 [[I 0, I 0, I 0, I 0, I 0, I 0, I 0, I 0, I 0, I 0]])], false⟩,
    ⟨[(.const (.int .i64 1), I 1)], [], I 1, [], false⟩] (by exact ⟨by kernel_rfl, by kernel_rfl⟩) ?_ ?_
    · exact ⟨fun _ => astep_build (vs := []) rfl ts44 tz44 rfl (by rfl) rfl,
    fun _ => astep_store rfl ti44 (by rfl) rfl (Nat.le_of_ble_eq_true rfl) rfl,
    fun _ => astep_assign rfl, trivial⟩
    refine awp_ret ?_
    refine blockA_r ?_
    refine thenA_r ?_
    obtain rfl := Option.some.inj h
    exact ⟨⟨[(.agg [I 0, I 0, I 0, I 0, I 0, I 0, I 0, I 0, I 0, I 0]), I 1], ⟨resOK_cell (n := 1) (m := 10) (j := 0) (i := 0) (xs := [[I 0, I 0, I 0, I 0, I 0, I 0, I 0, I 0, I 0, I 0]]) (by kernel_rfl) (by kernel_rfl) ti44 (by decide) rfl (Nat.le_of_ble_eq_true rfl) rfl, resOK_tmp (by kernel_rfl), trivial⟩, rfl⟩, (NLt.tup _ (nl_cons (NLt.agg _ (nl_cons (NLt.lit _) (nl_cons (NLt.lit _) (nl_cons (NLt.lit _) (nl_cons (NLt.lit _) (nl_cons (NLt.lit _) (nl_cons (NLt.lit _) (nl_cons (NLt.lit _) (nl_cons (NLt.lit _) (nl_cons (NLt.lit _) (nl_cons (NLt.lit _) nl_nil))))))))))) (nl_cons (NLt.lit _) nl_nil))), Nat.le_refl _, fun n hn => absurd hn (Nat.not_lt_zero n)⟩
  · replace h := bif_f hc3 h
    refine awp_ifn hc3 (by kernel_rfl) ?_
    obtain ⟨x5, hf4, h⟩ := bind_out h
    refine awp_reg [⟨[(.tmp 0, (.dat 5 ((p0 : List GRow).map c_GRow)))], [], (.dat 5 ((p0 : List GRow).map c_GRow)), [], false⟩,
    ⟨[(.tmp 1, I p1)], [], I p1, [], false⟩,
    ⟨[(.func 62, (.fn (.func 62) [] [])), (.tmp 14, (.dat 5 ((p0 : List GRow).map c_GRow))), (.tmp 15, I p1)], [], B x5, [], false⟩,
    ⟨[(.tmp 16, B x5)], [], (B ((!x5))), [], false⟩,
    ⟨[(.tmp 17, (B ((!x5))))], [], (B ((!x5))), [], false⟩] (by exact ⟨by kernel_rfl, by kernel_rfl⟩) ?_ ?_
    · exact ⟨fun _ => astep_move rfl,
    fun _ => astep_move rfl,
    fun _ => astep_pcall (first := []) (cap := []) (vs := [(.dat 5 ((p0 : List GRow).map c_GRow)), I p1]) rfl enter62 (steam_Table_hasX_ok N p0 p1 _ hf4) rfl rfl (nl_cons (nl_dat nl_GRow _) (nl_cons (NLt.lit _) nl_nil)) (NLt.lit _) rfl,
    fun _ => astep_not rfl,
    fun _ => astep_assign rfl, trivial⟩
    rcases Bool.eq_false_or_eq_true ((!x5)) with hc6 | hc6
    · replace h := bif_t hc6 h
      refine awp_ift hc6 (by kernel_rfl) ?_
      refine awp_reg [⟨[], [], (.agg [I 0, I 0, I 0, I 0, I 0, I 0, I 0, I 0, I 0, I 0]), [], false⟩,
    ⟨[(.tmp 6, .ref 1 10 0 0), (.tmp 18, (.agg [I 0, I 0, I 0, I 0, I 0, I 0, I 0, I 0, I 0, I 0]))], [(1, .own 10 [[I 0, I 0, I 0, I 0, I 0, I 0, I 0, I 0, I 0, I 0]])], .any, [(1, .own 10 [[I 0, I 0, I 0, I 0, I 0, I 0, I 0, I 0, I 0, I 0]])], false⟩,
    ⟨[(.const (.int .i64 2), I 2)], [], I 2, [], false⟩] (by exact ⟨by kernel_rfl, by kernel_rfl⟩) ?_ ?_
      · exact ⟨fun _ => astep_build (vs := []) rfl ts44 tz44 rfl (by rfl) rfl,
    fun _ => astep_store rfl ti44 (by rfl) rfl (Nat.le_of_ble_eq_true rfl) rfl,
    fun _ => astep_assign rfl, trivial⟩
      refine awp_ret ?_
      refine blockA_r ?_
      refine thenA_r ?_
      obtain rfl := Option.some.inj h
      exact ⟨⟨[(.agg [I 0, I 0, I 0, I 0, I 0, I 0, I 0, I 0, I 0, I 0]), I 2], ⟨resOK_cell (n := 1) (m := 10) (j := 0) (i := 0) (xs := [[I 0, I 0, I 0, I 0, I 0, I 0, I 0, I 0, I 0, I 0]]) (by kernel_rfl) (by kernel_rfl) ti44 (by decide) rfl (Nat.le_of_ble_eq_true rfl) rfl, resOK_tmp (by kernel_rfl), trivial⟩, rfl⟩, (NLt.tup _ (nl_cons (NLt.agg _ (nl_cons (NLt.lit _) (nl_cons (NLt.lit _) (nl_cons (NLt.lit _) (nl_cons (NLt.lit _) (nl_cons (NLt.lit _) (nl_cons (NLt.lit _) (nl_cons (NLt.lit _) (nl_cons (NLt.lit _) (nl_cons (NLt.lit _) (nl_cons (NLt.lit _) nl_nil))))))))))) (nl_cons (NLt.lit _) nl_nil))), Nat.le_refl _, fun n hn => absurd hn (Nat.not_lt_zero n)⟩
    · replace h := bif_f hc6 h
      refine awp_ifn hc6 (by kernel_rfl) ?_
      obtain ⟨x8, hf7, h⟩ := bind_out h
      refine awp_reg [⟨[(.tmp 5, .ref 0 4 0 0)], [(0, .own 4 [[I p2.Mass, I p2.Heat, I p2.Silica, I p2.Gas]])], (.agg [I p2.Mass, I p2.Heat, I p2.Silica, I p2.Gas]), [], false⟩,
    ⟨[(.func 63, (.fn (.func 63) [] [])), (.tmp 20, (.agg [I p2.Mass, I p2.Heat, I p2.Silica, I p2.Gas]))], [], B x8, [], false⟩,
    ⟨[(.tmp 21, B x8)], [], (B ((!x8))), [], false⟩,
    ⟨[(.tmp 22, (B ((!x8))))], [], (B ((!x8))), [], false⟩] (by exact ⟨by kernel_rfl, by kernel_rfl⟩) ?_ ?_
      · exact ⟨fun _ => astep_load rfl ti42 (by decide) rfl (Nat.le_of_ble_eq_true rfl) rfl,
    fun _ => astep_pcall (first := []) (cap := []) (vs := [(.agg [I p2.Mass, I p2.Heat, I p2.Silica, I p2.Gas])]) rfl enter63 (steam_Stream_validX_ok N p2 _ hf7) rfl rfl (nl_cons (NLt.agg _ (nl_cons (NLt.lit _) (nl_cons (NLt.lit _) (nl_cons (NLt.lit _) (nl_cons (NLt.lit _) nl_nil))))) nl_nil) (NLt.lit _) rfl,
    fun _ => astep_not rfl,
    fun _ => astep_assign rfl, trivial⟩
      rcases Bool.eq_false_or_eq_true ((!x8)) with hc9 | hc9
      · replace h := bif_t hc9 h
        refine awp_ift hc9 (by kernel_rfl) ?_
        refine awp_reg [⟨[], [], (.agg [I 0, I 0, I 0, I 0, I 0, I 0, I 0, I 0, I 0, I 0]), [], false⟩,
    ⟨[(.tmp 6, .ref 1 10 0 0), (.tmp 23, (.agg [I 0, I 0, I 0, I 0, I 0, I 0, I 0, I 0, I 0, I 0]))], [(1, .own 10 [[I 0, I 0, I 0, I 0, I 0, I 0, I 0, I 0, I 0, I 0]])], .any, [(1, .own 10 [[I 0, I 0, I 0, I 0, I 0, I 0, I 0, I 0, I 0, I 0]])], false⟩,
    ⟨[(.const (.int .i64 1), I 1)], [], I 1, [], false⟩] (by exact ⟨by kernel_rfl, by kernel_rfl⟩) ?_ ?_
        · exact ⟨fun _ => astep_build (vs := []) rfl ts44 tz44 rfl (by rfl) rfl,
    fun _ => astep_store rfl ti44 (by rfl) rfl (Nat.le_of_ble_eq_true rfl) rfl,
    fun _ => astep_assign rfl, trivial⟩
        refine awp_ret ?_
        refine blockA_r ?_
        refine thenA_r ?_
        obtain rfl := Option.some.inj h
        exact ⟨⟨[(.agg [I 0, I 0, I 0, I 0, I 0, I 0, I 0, I 0, I 0, I 0]), I 1], ⟨resOK_cell (n := 1) (m := 10) (j := 0) (i := 0) (xs := [[I 0, I 0, I 0, I 0, I 0, I 0, I 0, I 0, I 0, I 0]]) (by kernel_rfl) (by kernel_rfl) ti44 (by decide) rfl (Nat.le_of_ble_eq_true rfl) rfl, resOK_tmp (by kernel_rfl), trivial⟩, rfl⟩, (NLt.tup _ (nl_cons (NLt.agg _ (nl_cons (NLt.lit _) (nl_cons (NLt.lit _) (nl_cons (NLt.lit _) (nl_cons (NLt.lit _) (nl_cons (NLt.lit _) (nl_cons (NLt.lit _) (nl_cons (NLt.lit _) (nl_cons (NLt.lit _) (nl_cons (NLt.lit _) (nl_cons (NLt.lit _) nl_nil))))))))))) (nl_cons (NLt.lit _) nl_nil))), Nat.le_refl _, fun n hn => absurd hn (Nat.not_lt_zero n)⟩
      · replace h := bif_f hc9 h
        refine awp_ifn hc9 (by kernel_rfl) ?_
        refine awp_skip ?_
        refine blockA_n ?_
        refine thenA_n ?_
        obtain ⟨x11, hf10, h⟩ := bind_out h
        obtain ⟨x13, hf12, h⟩ := bind_out h
        refine awp_regd [⟨[(.tmp 0, (.dat 5 ((p0 : List GRow).map c_GRow)))], [], (.dat 5 ((p0 : List GRow).map c_GRow)), [], false⟩,
    ⟨[(.tmp 1, I p1)], [], I p1, [], false⟩,
    ⟨[(.func 60, (.fn (.func 60) [] [])), (.tmp 24, (.dat 5 ((p0 : List GRow).map c_GRow))), (.tmp 25, I p1)], [], (.agg [I x11.Row.T, I x11.Row.P, I x11.Row.Liquid, I x11.Row.Vapour, I x11.Row.Silica]), [], false⟩,
    ⟨[(.tmp 5, .ref 0 4 0 0)], [(0, .own 4 [[I p2.Mass, I p2.Heat, I p2.Silica, I p2.Gas]])], (.agg [I p2.Mass, I p2.Heat, I p2.Silica, I p2.Gas]), [], false⟩,
    ⟨[(.func 61, (.fn (.func 61) [] [])), (.tmp 26, (.agg [I x11.Row.T, I x11.Row.P, I x11.Row.Liquid, I x11.Row.Vapour, I x11.Row.Silica])), (.tmp 27, (.agg [I p2.Mass, I p2.Heat, I p2.Silica, I p2.Gas]))], [], (.agg [I x13.Steam.Mass, I x13.Steam.Heat, I x13.Steam.Silica, I x13.Steam.Gas, I x13.Water.Mass, I x13.Water.Heat, I x13.Water.Silica, I x13.Water.Gas, I x13.Rest, I x13.Scale]), [], false⟩,
    ⟨[(.tmp 6, .ref 1 10 0 0), (.tmp 28, (.agg [I x13.Steam.Mass, I x13.Steam.Heat, I x13.Steam.Silica, I x13.Steam.Gas, I x13.Water.Mass, I x13.Water.Heat, I x13.Water.Silica, I x13.Water.Gas, I x13.Rest, I x13.Scale]))], [(1, .own 10 [[I 0, I 0, I 0, I 0, I 0, I 0, I 0, I 0, I 0, I 0]])], .any, [(1, .own 10 [[I x13.Steam.Mass, I x13.Steam.Heat, I x13.Steam.Silica, I x13.Steam.Gas, I x13.Water.Mass, I x13.Water.Heat, I x13.Water.Silica, I x13.Water.Gas, I x13.Rest, I x13.Scale]])], false⟩,
    ⟨[(.const (.int .i64 0), I 0)], [], I 0, [], false⟩] (by kernel_rfl) (by exact ⟨by kernel_rfl, by kernel_rfl⟩) (by kernel_rfl) ?_ ?_
        · exact ⟨fun _ => astep_move rfl,
    fun _ => astep_move rfl,
    fun _ => astep_pcall (first := []) (cap := []) (vs := [(.dat 5 ((p0 : List GRow).map c_GRow)), I p1]) rfl enter60 (steam_Table_atX_ok N p0 p1 _ hf10) rfl rfl (nl_cons (nl_dat nl_GRow _) (nl_cons (NLt.lit _) nl_nil)) (NLt.agg _ (nl_cons (NLt.lit _) (nl_cons (NLt.lit _) (nl_cons (NLt.lit _) (nl_cons (NLt.lit _) (nl_cons (NLt.lit _) nl_nil)))))) rfl,
    fun _ => astep_load rfl ti42 (by decide) rfl (Nat.le_of_ble_eq_true rfl) rfl,
    fun _ => astep_pcall (first := []) (cap := []) (vs := [(.agg [I x11.Row.T, I x11.Row.P, I x11.Row.Liquid, I x11.Row.Vapour, I x11.Row.Silica]), (.agg [I p2.Mass, I p2.Heat, I p2.Silica, I p2.Gas])]) rfl enter61 (steam_flash_ofX_ok N (⟨(⟨x11.Row.T, x11.Row.P, x11.Row.Liquid, x11.Row.Vapour, x11.Row.Silica⟩ : GRow)⟩ : GFlash) p2 _ hf12) rfl rfl (nl_cons (NLt.agg _ (nl_cons (NLt.lit _) (nl_cons (NLt.lit _) (nl_cons (NLt.lit _) (nl_cons (NLt.lit _) (nl_cons (NLt.lit _) nl_nil)))))) (nl_cons (NLt.agg _ (nl_cons (NLt.lit _) (nl_cons (NLt.lit _) (nl_cons (NLt.lit _) (nl_cons (NLt.lit _) nl_nil))))) nl_nil)) (NLt.agg _ (nl_cons (NLt.lit _) (nl_cons (NLt.lit _) (nl_cons (NLt.lit _) (nl_cons (NLt.lit _) (nl_cons (NLt.lit _) (nl_cons (NLt.lit _) (nl_cons (NLt.lit _) (nl_cons (NLt.lit _) (nl_cons (NLt.lit _) (nl_cons (NLt.lit _) nl_nil))))))))))) rfl,
    fun _ => astep_store rfl ti44 (by rfl) rfl (Nat.le_of_ble_eq_true rfl) rfl,
    fun _ => astep_assign rfl, trivial⟩
        refine awp_ret ?_
        obtain rfl := Option.some.inj h
        exact ⟨⟨[(.agg [I x13.Steam.Mass, I x13.Steam.Heat, I x13.Steam.Silica, I x13.Steam.Gas, I x13.Water.Mass, I x13.Water.Heat, I x13.Water.Silica, I x13.Water.Gas, I x13.Rest, I x13.Scale]), I 0], ⟨resOK_cell (n := 1) (m := 10) (j := 0) (i := 0) (xs := [[I x13.Steam.Mass, I x13.Steam.Heat, I x13.Steam.Silica, I x13.Steam.Gas, I x13.Water.Mass, I x13.Water.Heat, I x13.Water.Silica, I x13.Water.Gas, I x13.Rest, I x13.Scale]]) (by kernel_rfl) (by kernel_rfl) ti44 (by decide) rfl (Nat.le_of_ble_eq_true rfl) rfl, resOK_tmp (by kernel_rfl), trivial⟩, rfl⟩, (NLt.tup _ (nl_cons (NLt.agg _ (nl_cons (NLt.lit _) (nl_cons (NLt.lit _) (nl_cons (NLt.lit _) (nl_cons (NLt.lit _) (nl_cons (NLt.lit _) (nl_cons (NLt.lit _) (nl_cons (NLt.lit _) (nl_cons (NLt.lit _) (nl_cons (NLt.lit _) (nl_cons (NLt.lit _) nl_nil))))))))))) (nl_cons (NLt.lit _) nl_nil))), Nat.le_refl _, fun n hn => absurd hn (Nat.not_lt_zero n)⟩

def steam_all_int_1X_1 (N : Nat) (p0 : Int) (p1 : (List GRow)) : Option Bool :=
  (steam_Table_hasX N p1 p0).bind fun x3 =>
  some (!x3)
set_option maxRecDepth 100000 in
set_option maxHeartbeats 4000000 in
theorem steam_all_int_1X_1_ok (N : Nat) (p0 : Int) (p1 : (List GRow)) (r : Bool) (h : steam_all_int_1X_1 N p0 p1 = some r) : Spec Try.prog 85 [(I (p0)), (.ref 0 1 (0) 0)] [(.own 1 [[(.fn (.func 62) [(.dat 5 ((p1 : List GRow).map c_GRow))] [])]])] (B (r)) [(.own 1 [[(.fn (.func 62) [(.dat 5 ((p1 : List GRow).map c_GRow))] [])]])] := by
  refine spec_of_awp Try.func85 rfl 1 (Nat.le_of_ble_eq_true rfl) (fun X φ0 w0 hφ0 => ?_)
  unfold steam_all_int_1X_1 at h
  refine awp_finm ?_
  refine awp_reg [⟨[(.const (.bool false), B false)], [], B false, [], false⟩] (by exact ⟨by kernel_rfl, by kernel_rfl⟩) ?_ ?_
  · exact ⟨fun _ => astep_assign rfl, trivial⟩
  obtain ⟨x3, hf2, h⟩ := bind_out h
  refine awp_reg [⟨[(.tmp 1, .ref 0 1 0 0)], [(0, (.own 1 [[(.fn (.func 62) [(.dat 5 ((p1 : List GRow).map c_GRow))] [])]]))], (.fn (.func 62) [(.dat 5 ((p1 : List GRow).map c_GRow))] []), [], false⟩,
    ⟨[(.tmp 0, I p0)], [], I p0, [], false⟩,
    ⟨[(.tmp 4, (.fn (.func 62) [(.dat 5 ((p1 : List GRow).map c_GRow))] [])), (.tmp 5, I p0)], [], B x3, [], false⟩,
    ⟨[(.tmp 6, B x3)], [], (B ((!x3))), [], false⟩,
    ⟨[(.tmp 7, (B ((!x3))))], [], (B ((!x3))), [], false⟩] (by exact ⟨by kernel_rfl, by kernel_rfl⟩) ?_ ?_
  · exact ⟨fun _ => astep_load rfl ti121 (by decide) rfl (Nat.le_of_ble_eq_true rfl) rfl,
    fun _ => astep_move rfl,
    fun _ => astep_pcall (first := [(.dat 5 ((p1 : List GRow).map c_GRow))]) (cap := []) (vs := [I p0]) rfl enter62 (steam_Table_hasX_ok N p1 p0 _ hf2) rfl rfl (nl_cons (nl_dat nl_GRow _) (nl_cons (NLt.lit _) nl_nil)) (NLt.lit _) rfl,
    fun _ => astep_not rfl,
    fun _ => astep_assign rfl, trivial⟩
  refine awp_mor (mor_to (n := 8) (l' := [(3, (B ((!x3))))]) (own' := [(.own 1 [[(.fn (.func 62) [(.dat 5 ((p1 : List GRow).map c_GRow))] [])]])]) [(3, (B ((!x3))))] [0] [(.own 1 [[(.fn (.func 62) [(.dat 5 ((p1 : List GRow).map c_GRow))] [])]])] hφ0 (by kernel_rfl) (by kernel_rfl) (by kernel_rfl) ⟨rfl, .rn (.plain _ (NLt.lit _)), trivial⟩ ⟨(spw_box ⟨(.rn (rn_fn (rnl_cons (.plain _ (nl_dat nl_GRow _)) rnl_nil) rnl_nil)), trivial⟩), trivial⟩) ?_
  refine awp_ret ?_
  obtain rfl := Option.some.inj h
  exact ⟨_, Mor.rfl, fin_of (vs := [(B ((!x3)))]) ⟨resOK_tmp (by kernel_rfl), trivial⟩ rfl (NLt.of0 (NLt.lit _)) (by kernel_rfl) (snl_cons (snl_box (nl_cons (NLt.of0 (NLt.fn _ _ _ (nl_cons (nl_dat nl_GRow _) nl_nil) nl_nil)) nl_nil)) snl_nil)⟩

def slices_IndexFunc_int_intX_1_loop1 (N : Nat) (p0 : (List Int)) (p1 : (List GRow)) (k2 : Unit → Option Int) : Nat → Int → Option Int
  | 0, _ => none
  | n5 + 1, y3 =>
    bif (decide (y3 < (p0.length : Int))) then
      (getI p0 y3).bind fun x7 =>
      (steam_all_int_1X_1 N x7 p1).bind fun x12 =>
      bif x12 then
        some y3
      else
        slices_IndexFunc_int_intX_1_loop1 N p0 p1 k2 n5 (w64 (y3 + 1))
    else
      k2 ()
def slices_IndexFunc_int_intX_1 (N : Nat) (p0 : (List Int)) (p1 : (List GRow)) : Option Int :=
  joinK (fun _ =>
      some (-1)) fun k2 : Unit → Option Int =>
  slices_IndexFunc_int_intX_1_loop1 N p0 p1 k2 N 0
set_option maxRecDepth 100000 in
set_option maxHeartbeats 4000000 in
theorem slices_IndexFunc_int_intX_1_ok (N : Nat) (p0 : (List Int)) (p1 : (List GRow)) (r : Int) (h : slices_IndexFunc_int_intX_1 N p0 p1 = some r) : Spec Try.prog 86 [(.dat 1 ((p0 : List Int).map c_i64)), (.fn (.func 85) [] [(.ref 0 1 (0) 0)])] [(.own 1 [[(.fn (.func 62) [(.dat 5 ((p1 : List GRow).map c_GRow))] [])]])] (I (r)) [(.own 1 [[(.fn (.func 62) [(.dat 5 ((p1 : List GRow).map c_GRow))] [])]])] := by
  refine spec_of_awp Try.func86 rfl 1 (Nat.le_of_ble_eq_true rfl) (fun X φ0 w0 hφ0 => ?_)
  unfold slices_IndexFunc_int_intX_1 at h
  refine awp_finm ?_
  refine awp_reg [⟨[(.const (.int .i64 0), I 0)], [], I 0, [], false⟩] (by exact ⟨by kernel_rfl, by kernel_rfl⟩) ?_ ?_
  · exact ⟨fun _ => astep_assign rfl, trivial⟩
  obtain ⟨k2, hk_k2, h⟩ := joinK_out h
  refine awp_join (τ := Unit) (fun t => k2 t = some r) (fun _ => ⟨mk 19 [], [(.own 1 [[(.fn (.func 62) [(.dat 5 ((p1 : List GRow).map c_GRow))] [])]])]⟩) (fun t h => ?_) ?_
  · subst hk_k2
    refine awp_reg [⟨[(.const (.int .i64 (-1)), (I ((-1))))], [], (I ((-1))), [], false⟩] (by exact ⟨by kernel_rfl, by kernel_rfl⟩) ?_ ?_
    · exact ⟨fun _ => astep_assign rfl, trivial⟩
    refine awp_mor (mor_to (n := 19) (l' := [(4, (I ((-1))))]) (own' := [(.own 1 [[(.fn (.func 62) [(.dat 5 ((p1 : List GRow).map c_GRow))] [])]])]) [(4, (I ((-1))))] [0] [(.own 1 [[(.fn (.func 62) [(.dat 5 ((p1 : List GRow).map c_GRow))] [])]])] hφ0 (by kernel_rfl) (by kernel_rfl) (by kernel_rfl) ⟨rfl, .rn (.plain _ (NLt.lit _)), trivial⟩ ⟨(spw_box ⟨(.rn (rn_fn (rnl_cons (.plain _ (nl_dat nl_GRow _)) rnl_nil) rnl_nil)), trivial⟩), trivial⟩) ?_
    refine awp_ret ?_
    obtain rfl := Option.some.inj h
    exact ⟨_, Mor.rfl, fin_of (vs := [(I ((-1)))]) ⟨resOK_tmp (by kernel_rfl), trivial⟩ rfl (NLt.of0 (NLt.lit _)) (by kernel_rfl) (snl_cons (snl_box (nl_cons (NLt.of0 (NLt.fn _ _ _ (nl_cons (nl_dat nl_GRow _) nl_nil) nl_nil)) nl_nil)) snl_nil)⟩
  · skip
    refine awp_reg [⟨[(.tmp 0, (.dat 1 ((p0 : List Int).map c_i64)))], [], (.dat 1 ((p0 : List Int).map c_i64)), [], false⟩,
    ⟨[(.tmp 6, (.dat 1 ((p0 : List Int).map c_i64)))], [], (I ((p0.length : Int))), [], false⟩,
    ⟨[(.const (.int .i64 0), I 0)], [], I 0, [], false⟩] (by exact ⟨by kernel_rfl, by kernel_rfl⟩) ?_ ?_
    · exact ⟨fun _ => astep_move rfl,
    fun _ => astep_lenm (c := c_i64) (l := p0) (astep_len rfl Try.underlying51 rfl),
    fun _ => astep_move rfl, trivial⟩
    refine awp_block ?_
    refine awp_mor (mor_to (n := 19) (l' := [(0, (.dat 1 ((p0 : List Int).map c_i64))), (1, (.fn (.func 85) [] [.ref 0 1 0 0])), (7, (I ((p0.length : Int)))), (8, I 0)]) (own' := [(.own 1 [[(.fn (.func 62) [(.dat 5 ((p1 : List GRow).map c_GRow))] [])]])]) [(0, (.dat 1 ((p0 : List Int).map c_i64))), (1, (.fn (.func 85) [] [.ref 0 1 0 0])), (7, (I ((p0.length : Int)))), (8, I 0)] [0] [(.own 1 [[(.fn (.func 62) [(.dat 5 ((p1 : List GRow).map c_GRow))] [])]])] hφ0 (by kernel_rfl) (by kernel_rfl) (by kernel_rfl) ⟨rfl, .rn (.plain _ (nl_dat nl_i64 _)), rfl, .rn (rn_fn rnl_nil (rnl_cons (rnq_ref rfl) rnl_nil)), rfl, .rn (.plain _ (NLt.lit _)), rfl, .rn (.plain _ (NLt.lit _)), trivial⟩ ⟨(spw_box ⟨(.rn (rn_fn (rnl_cons (.plain _ (nl_dat nl_GRow _)) rnl_nil) rnl_nil)), trivial⟩), trivial⟩) ?_
    refine awp_ind (τ := Int) (fun n t => slices_IndexFunc_int_intX_1_loop1 N p0 p1 k2 n t = some r) (fun y3 => ⟨mk 19 [(0, (.dat 1 ((p0 : List Int).map c_i64))), (1, (.fn (.func 85) [] [.ref 0 1 0 0])), (7, (I ((p0.length : Int)))), (8, I y3)], [(.own 1 [[(.fn (.func 62) [(.dat 5 ((p1 : List GRow).map c_GRow))] [])]])]⟩) (fun t h => by rw [slices_IndexFunc_int_intX_1_loop1] at h; cases h) (fun n5 ih y3 h => ?_) N (0) h
    rw [slices_IndexFunc_int_intX_1_loop1] at h
    skip
    refine awp_reg [⟨[(.tmp 8, I y3), (.tmp 7, (I ((p0.length : Int))))], [], (B ((decide (y3 < (p0.length : Int))))), [], false⟩] (by exact ⟨by kernel_rfl, by kernel_rfl⟩) ?_ ?_
    · exact ⟨fun _ => astep_bin rfl rfl, trivial⟩
    refine awp_seq ?_
    rcases Bool.eq_false_or_eq_true ((decide (y3 < (p0.length : Int)))) with hc6 | hc6
    · replace h := bif_t hc6 h
      refine awp_ift hc6 (by kernel_rfl) ?_
      refine awp_skip ?_
      refine thenA_n ?_
      refine awp_seq ?_
      refine awp_block ?_
      refine awp_reg [⟨[(.tmp 8, I y3)], [], I y3, [], false⟩,
    ⟨[(.tmp 10, I y3)], [], I y3, [], false⟩] (by exact ⟨by kernel_rfl, by kernel_rfl⟩) ?_ ?_
      · exact ⟨fun _ => astep_move rfl,
    fun _ => astep_assign rfl, trivial⟩
      obtain ⟨x7, hg8, h⟩ := bind_out h
      obtain ⟨hi9, hj10⟩ := getI_some hg8
      obtain ⟨x12, hf11, h⟩ := bind_out h
      refine awp_reg [⟨[(.tmp 1, (.fn (.func 85) [] [.ref 0 1 0 0]))], [], (.fn (.func 85) [] [.ref 0 1 0 0]), [], false⟩,
    ⟨[(.tmp 0, (.dat 1 ((p0 : List Int).map c_i64)))], [], (.dat 1 ((p0 : List Int).map c_i64)), [], false⟩,
    ⟨[(.tmp 5, I y3)], [], I y3, [], false⟩,
    ⟨[(.tmp 12, (.dat 1 ((p0 : List Int).map c_i64))), (.tmp 13, I y3)], [], (.dptr (c_i64 (x7)) 0), [], false⟩,
    ⟨[(.tmp 14, (.dptr (c_i64 (x7)) 0))], [], I x7, [], false⟩,
    ⟨[(.tmp 11, (.fn (.func 85) [] [.ref 0 1 0 0])), (.tmp 15, I x7)], [(0, (.own 1 [[(.fn (.func 62) [(.dat 5 ((p1 : List GRow).map c_GRow))] [])]]))], B x12, [(0, (.own 1 [[(.fn (.func 62) [(.dat 5 ((p1 : List GRow).map c_GRow))] [])]]))], false⟩] (by exact ⟨by kernel_rfl, by kernel_rfl⟩) ?_ ?_
      · exact ⟨fun _ => astep_move rfl,
    fun _ => astep_move rfl,
    fun _ => astep_move rfl,
    fun _ => astep_idxd rfl Try.underlying51 ti3 rfl rfl hi9 (map_get c_i64 hj10) rfl,
    fun _ => astep_loadd rfl ti3 (by decide) (Nat.le_of_ble_eq_true rfl) rfl,
    fun _ => astep_callq (first := []) (cap := [.ref 0 1 0 0]) (vs := [I x7]) (σr := [(.own 1 [[(.fn (.func 62) [(.dat 5 ((p1 : List GRow).map c_GRow))] [])]])]) (σr' := [(.own 1 [[(.fn (.func 62) [(.dat 5 ((p1 : List GRow).map c_GRow))] [])]])]) (res' := (B x12)) [0] rfl enter85 (steam_all_int_1X_1_ok N x7 p1 _ hf11) rfl (rn_agg (rnl_cons (.plain _ (NLt.lit _)) (rnl_cons (rnk_ref rfl) rnl_nil))) (slw_cons (srn_box (rnl_cons (.plain _ (NLt.fn _ _ _ (nl_cons (nl_dat nl_GRow _) nl_nil) nl_nil)) rnl_nil)) slw_nil) (slw_cons (srn_box (rnl_cons (.plain _ (NLt.fn _ _ _ (nl_cons (nl_dat nl_GRow _) nl_nil) nl_nil)) rnl_nil)) slw_nil) (.plain _ (NLt.lit _)) rfl rfl rfl, trivial⟩
      rcases Bool.eq_false_or_eq_true (x12) with hc13 | hc13
      · replace h := bif_t hc13 h
        refine awp_ift hc13 (by kernel_rfl) ?_
        refine awp_reg [⟨[(.tmp 5, I y3)], [], I y3, [], false⟩,
    ⟨[(.tmp 17, I y3)], [], I y3, [], false⟩] (by exact ⟨by kernel_rfl, by kernel_rfl⟩) ?_ ?_
        · exact ⟨fun _ => astep_move rfl,
    fun _ => astep_assign rfl, trivial⟩
        refine awp_mor (mor_to (n := 19) (l' := [(4, I y3)]) (own' := [(.own 1 [[(.fn (.func 62) [(.dat 5 ((p1 : List GRow).map c_GRow))] [])]])]) [(4, I y3)] [0] [(.own 1 [[(.fn (.func 62) [(.dat 5 ((p1 : List GRow).map c_GRow))] [])]])] hφ0 (by kernel_rfl) (by kernel_rfl) (by kernel_rfl) ⟨rfl, .rn (.plain _ (NLt.lit _)), trivial⟩ ⟨(spw_box ⟨(.rn (rn_fn (rnl_cons (.plain _ (nl_dat nl_GRow _)) rnl_nil) rnl_nil)), trivial⟩), trivial⟩) ?_
        refine awp_ret ?_
        refine blockA_r ?_
        refine thenA_r ?_
        refine thenA_r ?_
        refine blockA_r ?_
        refine thenA_r ?_
        obtain rfl := Option.some.inj h
        exact ⟨_, Mor.rfl, fin_of (vs := [I y3]) ⟨resOK_tmp (by kernel_rfl), trivial⟩ rfl (NLt.of0 (NLt.lit _)) (by kernel_rfl) (snl_cons (snl_box (nl_cons (NLt.of0 (NLt.fn _ _ _ (nl_cons (nl_dat nl_GRow _) nl_nil) nl_nil)) nl_nil)) snl_nil)⟩
      · replace h := bif_f hc13 h
        refine awp_ifn hc13 (by kernel_rfl) ?_
        refine awp_skip ?_
        refine blockA_n ?_
        refine thenA_n ?_
        refine awp_reg1 [⟨[(.tmp 8, I y3), (.const (.int .i64 1), I 1)], [], (I (w64 (y3 + 1))), [], false⟩,
    ⟨[(.tmp 18, (I (w64 (y3 + 1))))], [], (I (w64 (y3 + 1))), [], false⟩] (by exact ⟨by kernel_rfl, by kernel_rfl⟩) ?_ ?_
        · exact ⟨fun _ => astep_bin rfl rfl,
    fun _ => astep_move rfl, trivial⟩
        refine thenA_n ?_
        exact around_mor (mor_to (n := 19) (l' := [(0, (.dat 1 ((p0 : List Int).map c_i64))), (1, (.fn (.func 85) [] [.ref 0 1 0 0])), (7, (I ((p0.length : Int)))), (8, (I ((w64 (y3 + 1)))))]) (own' := [(.own 1 [[(.fn (.func 62) [(.dat 5 ((p1 : List GRow).map c_GRow))] [])]])]) [(0, (.dat 1 ((p0 : List Int).map c_i64))), (1, (.fn (.func 85) [] [.ref 0 1 0 0])), (7, (I ((p0.length : Int)))), (8, (I (w64 (y3 + 1))))] [0] [(.own 1 [[(.fn (.func 62) [(.dat 5 ((p1 : List GRow).map c_GRow))] [])]])] hφ0 (by kernel_rfl) (by kernel_rfl) (by kernel_rfl) ⟨rfl, .rn (.plain _ (nl_dat nl_i64 _)), rfl, .rn (rn_fn rnl_nil (rnl_cons (rnq_ref rfl) rnl_nil)), rfl, .rn (.plain _ (NLt.lit _)), rfl, .rn (.plain _ (NLt.lit _)), trivial⟩ ⟨(spw_box ⟨(.rn (rn_fn (rnl_cons (.plain _ (nl_dat nl_GRow _)) rnl_nil) rnl_nil)), trivial⟩), trivial⟩) (ih (w64 (y3 + 1)) h)
    · replace h := bif_f hc6 h
      refine awp_ifn hc6 (by kernel_rfl) ?_
      refine awp_exit ?_
      refine thenA_x ?_
      refine thenA_x ?_
      refine blockA_e rfl ?_
      refine thenA_n ?_
      exact ⟨(), h, (mor_to (n := 19) (l' := []) (own' := [(.own 1 [[(.fn (.func 62) [(.dat 5 ((p1 : List GRow).map c_GRow))] [])]])]) [] [0] [(.own 1 [[(.fn (.func 62) [(.dat 5 ((p1 : List GRow).map c_GRow))] [])]])] hφ0 (by kernel_rfl) (by kernel_rfl) (by kernel_rfl) trivial ⟨(spw_box ⟨(.rn (rn_fn (rnl_cons (.plain _ (nl_dat nl_GRow _)) rnl_nil) rnl_nil)), trivial⟩), trivial⟩)⟩

def slices_ContainsFunc_int_intX_1 (N : Nat) (p0 : (List Int)) (p1 : (List GRow)) : Option Bool :=
  (slices_IndexFunc_int_intX_1 N p0 p1).bind fun x3 =>
  some (decide (x3 ≥ 0))
set_option maxRecDepth 100000 in
set_option maxHeartbeats 4000000 in
theorem slices_ContainsFunc_int_intX_1_ok (N : Nat) (p0 : (List Int)) (p1 : (List GRow)) (r : Bool) (h : slices_ContainsFunc_int_intX_1 N p0 p1 = some r) : Spec Try.prog 67 [(.dat 1 ((p0 : List Int).map c_i64)), (.fn (.func 85) [] [(.ref 0 1 (0) 0)])] [(.own 1 [[(.fn (.func 62) [(.dat 5 ((p1 : List GRow).map c_GRow))] [])]])] (B (r)) [(.own 1 [[(.fn (.func 62) [(.dat 5 ((p1 : List GRow).map c_GRow))] [])]])] := by
  refine spec_of_awp Try.func67 rfl 1 (Nat.le_of_ble_eq_true rfl) (fun X φ0 w0 hφ0 => ?_)
  unfold slices_ContainsFunc_int_intX_1 at h
  refine awp_finm ?_
  refine awp_reg [⟨[(.const (.bool false), B false)], [], B false, [], false⟩] (by exact ⟨by kernel_rfl, by kernel_rfl⟩) ?_ ?_
  · exact ⟨fun _ => astep_assign rfl, trivial⟩
  obtain ⟨x3, hf2, h⟩ := bind_out h
  refine awp_reg [⟨[(.tmp 0, (.dat 1 ((p0 : List Int).map c_i64)))], [], (.dat 1 ((p0 : List Int).map c_i64)), [], false⟩,
    ⟨[(.tmp 1, (.fn (.func 85) [] [.ref 0 1 0 0]))], [], (.fn (.func 85) [] [.ref 0 1 0 0]), [], false⟩,
    ⟨[(.func 86, (.fn (.func 86) [] [])), (.tmp 5, (.dat 1 ((p0 : List Int).map c_i64))), (.tmp 6, (.fn (.func 85) [] [.ref 0 1 0 0]))], [(0, (.own 1 [[(.fn (.func 62) [(.dat 5 ((p1 : List GRow).map c_GRow))] [])]]))], I x3, [(0, (.own 1 [[(.fn (.func 62) [(.dat 5 ((p1 : List GRow).map c_GRow))] [])]]))], false⟩,
    ⟨[(.tmp 7, I x3), (.const (.int .i64 0), I 0)], [], (B ((decide (x3 ≥ 0)))), [], false⟩,
    ⟨[(.tmp 8, (B ((decide (x3 ≥ 0)))))], [], (B ((decide (x3 ≥ 0)))), [], false⟩] (by exact ⟨by kernel_rfl, by kernel_rfl⟩) ?_ ?_
  · exact ⟨fun _ => astep_move rfl,
    fun _ => astep_move rfl,
    fun _ => astep_callq (first := []) (cap := []) (vs := [(.dat 1 ((p0 : List Int).map c_i64)), (.fn (.func 85) [] [.ref 0 1 0 0])]) (σr := [(.own 1 [[(.fn (.func 62) [(.dat 5 ((p1 : List GRow).map c_GRow))] [])]])]) (σr' := [(.own 1 [[(.fn (.func 62) [(.dat 5 ((p1 : List GRow).map c_GRow))] [])]])]) (res' := (I x3)) [0] rfl enter86 (slices_IndexFunc_int_intX_1_ok N p0 p1 _ hf2) rfl (rn_agg (rnl_cons (.plain _ (nl_dat nl_i64 _)) (rnl_cons (rn_fn rnl_nil (rnl_cons (rnk_ref rfl) rnl_nil)) rnl_nil))) (slw_cons (srn_box (rnl_cons (.plain _ (NLt.fn _ _ _ (nl_cons (nl_dat nl_GRow _) nl_nil) nl_nil)) rnl_nil)) slw_nil) (slw_cons (srn_box (rnl_cons (.plain _ (NLt.fn _ _ _ (nl_cons (nl_dat nl_GRow _) nl_nil) nl_nil)) rnl_nil)) slw_nil) (.plain _ (NLt.lit _)) rfl rfl rfl,
    fun _ => astep_bin rfl rfl,
    fun _ => astep_assign rfl, trivial⟩
  refine awp_mor (mor_to (n := 9) (l' := [(4, (B ((decide (x3 ≥ 0)))))]) (own' := [(.own 1 [[(.fn (.func 62) [(.dat 5 ((p1 : List GRow).map c_GRow))] [])]])]) [(4, (B ((decide (x3 ≥ 0)))))] [0] [(.own 1 [[(.fn (.func 62) [(.dat 5 ((p1 : List GRow).map c_GRow))] [])]])] hφ0 (by kernel_rfl) (by kernel_rfl) (by kernel_rfl) ⟨rfl, .rn (.plain _ (NLt.lit _)), trivial⟩ ⟨(spw_box ⟨(.rn (rn_fn (rnl_cons (.plain _ (nl_dat nl_GRow _)) rnl_nil) rnl_nil)), trivial⟩), trivial⟩) ?_
  refine awp_ret ?_
  obtain rfl := Option.some.inj h
  exact ⟨_, Mor.rfl, fin_of (vs := [(B ((decide (x3 ≥ 0))))]) ⟨resOK_tmp (by kernel_rfl), trivial⟩ rfl (NLt.of0 (NLt.lit _)) (by kernel_rfl) (snl_cons (snl_box (nl_cons (NLt.of0 (NLt.fn _ _ _ (nl_cons (nl_dat nl_GRow _) nl_nil) nl_nil)) nl_nil)) snl_nil)⟩

def steam_all_intX_1 (N : Nat) (p0 : (List Int)) (p1 : (List GRow)) : Option Bool :=
  (slices_ContainsFunc_int_intX_1 N p0 p1).bind fun x2 =>
  some (!x2)
set_option maxRecDepth 100000 in
set_option maxHeartbeats 4000000 in
theorem steam_all_intX_1_ok (N : Nat) (p0 : (List Int)) (p1 : (List GRow)) (r : Bool) (h : steam_all_intX_1 N p0 p1 = some r) : Spec Try.prog 66 [(.dat 1 ((p0 : List Int).map c_i64)), (.fn (.func 62) [(.dat 5 ((p1 : List GRow).map c_GRow))] [])] [] (B (r)) [] := by
  refine spec_of_awp Try.func66 rfl 0 (Nat.le_of_ble_eq_true rfl) (fun X φ0 w0 hφ0 => ?_)
  unfold steam_all_intX_1 at h
  refine awp_reg [⟨[(.tmp 1, (.fn (.func 62) [(.dat 5 ((p1 : List GRow).map c_GRow))] []))], [(0, .unused)], .ref 0 1 0 0, [(0, (.own 1 [[(.fn (.func 62) [(.dat 5 ((p1 : List GRow).map c_GRow))] [])]]))], false⟩,
    ⟨[(.const (.bool false), B false)], [], B false, [], false⟩] (by exact ⟨by kernel_rfl, by kernel_rfl⟩) ?_ ?_
  · exact ⟨fun _ => astep_box rfl (by rfl) rfl rfl,
    fun _ => astep_assign rfl, trivial⟩
  obtain ⟨x2, hf1, h⟩ := bind_out h
  refine awp_reg [⟨[(.tmp 0, (.dat 1 ((p0 : List Int).map c_i64)))], [], (.dat 1 ((p0 : List Int).map c_i64)), [], false⟩,
    ⟨[(.tmp 3, .ref 0 1 0 0)], [], (.fn (.func 85) [] [.ref 0 1 0 0]), [], false⟩,
    ⟨[(.func 67, (.fn (.func 67) [] [])), (.tmp 5, (.dat 1 ((p0 : List Int).map c_i64))), (.tmp 6, (.fn (.func 85) [] [.ref 0 1 0 0]))], [(0, (.own 1 [[(.fn (.func 62) [(.dat 5 ((p1 : List GRow).map c_GRow))] [])]]))], B x2, [(0, (.own 1 [[(.fn (.func 62) [(.dat 5 ((p1 : List GRow).map c_GRow))] [])]]))], false⟩,
    ⟨[(.tmp 7, B x2)], [], (B ((!x2))), [], false⟩,
    ⟨[(.tmp 8, (B ((!x2))))], [], (B ((!x2))), [], false⟩] (by exact ⟨by kernel_rfl, by kernel_rfl⟩) ?_ ?_
  · exact ⟨fun _ => astep_move rfl,
    fun _ => astep_func (fs := []) (cs := [.ref 0 1 0 0]) rfl rfl rfl rfl,
    fun _ => astep_callq (first := []) (cap := []) (vs := [(.dat 1 ((p0 : List Int).map c_i64)), (.fn (.func 85) [] [.ref 0 1 0 0])]) (σr := [(.own 1 [[(.fn (.func 62) [(.dat 5 ((p1 : List GRow).map c_GRow))] [])]])]) (σr' := [(.own 1 [[(.fn (.func 62) [(.dat 5 ((p1 : List GRow).map c_GRow))] [])]])]) (res' := (B x2)) [0] rfl enter67 (slices_ContainsFunc_int_intX_1_ok N p0 p1 _ hf1) rfl (rn_agg (rnl_cons (.plain _ (nl_dat nl_i64 _)) (rnl_cons (rn_fn rnl_nil (rnl_cons (rnk_ref rfl) rnl_nil)) rnl_nil))) (slw_cons (srn_box (rnl_cons (.plain _ (NLt.fn _ _ _ (nl_cons (nl_dat nl_GRow _) nl_nil) nl_nil)) rnl_nil)) slw_nil) (slw_cons (srn_box (rnl_cons (.plain _ (NLt.fn _ _ _ (nl_cons (nl_dat nl_GRow _) nl_nil) nl_nil)) rnl_nil)) slw_nil) (.plain _ (NLt.lit _)) rfl rfl rfl,
    fun _ => astep_not rfl,
    fun _ => astep_assign rfl, trivial⟩
  refine awp_ret ?_
  obtain rfl := Option.some.inj h
  exact ⟨⟨[(B ((!x2)))], ⟨resOK_tmp (by kernel_rfl), trivial⟩, rfl⟩, (NLt.lit _), Nat.le_refl _, fun n hn => absurd hn (Nat.not_lt_zero n)⟩

def steam_Table_trainX_1 (_N : Nat) (_p0 : (List GRow)) (_p1 : (List Int)) (_p2 : GStream) : Option Unit :=
  some ()
set_option maxRecDepth 100000 in
set_option maxHeartbeats 4000000 in
theorem steam_Table_trainX_1_ok (N : Nat) (p0 : (List GRow)) (p1 : (List Int)) (p2 : GStream) (r : Unit) (h : steam_Table_trainX_1 N p0 p1 p2 = some r) : Spec Try.prog 79 [(.dat 5 ((p0 : List GRow).map c_GRow)), (.dat 1 ((p1 : List Int).map c_i64)), (.agg [(I (p2.Mass)), (I (p2.Heat)), (I (p2.Silica)), (I (p2.Gas))])] [] (.fn (.func 93) [] [(.ref 0 1 (0) 0), (.ref 1 1 (0) 0), (.ref 2 4 (0) 0)]) [(.own 1 [[(.dat 1 ((p1 : List Int).map c_i64))]]), (.own 1 [[(.dat 5 ((p0 : List GRow).map c_GRow))]]), (.own 4 [[(I (p2.Mass)), (I (p2.Heat)), (I (p2.Silica)), (I (p2.Gas))]])] := by
  refine spec_of_awp Try.func79 rfl 3 (Nat.le_of_ble_eq_true rfl) (fun X φ0 w0 hφ0 => ?_)
  unfold steam_Table_trainX_1 at h
  refine awp_finm ?_
  refine awp_reg [⟨[(.tmp 0, (.dat 5 ((p0 : List GRow).map c_GRow)))], [(0, .unused)], .ref 0 1 0 0, [(0, (.own 1 [[(.dat 5 ((p0 : List GRow).map c_GRow))]]))], false⟩,
    ⟨[(.tmp 1, (.dat 1 ((p1 : List Int).map c_i64)))], [(1, .unused)], .ref 1 1 0 0, [(1, (.own 1 [[(.dat 1 ((p1 : List Int).map c_i64))]]))], false⟩,
    ⟨[(.tmp 2, (.agg [I p2.Mass, I p2.Heat, I p2.Silica, I p2.Gas]))], [(2, .unused)], .ref 2 4 0 0, [(2, .own 4 [[I p2.Mass, I p2.Heat, I p2.Silica, I p2.Gas]])], false⟩,
    ⟨[(.const .nilFunc, (.lit .nilFunc))], [], (.lit .nilFunc), [], false⟩] (by exact ⟨by kernel_rfl, by kernel_rfl⟩) ?_ ?_
  · exact ⟨fun _ => astep_box rfl (by rfl) rfl rfl,
    fun _ => astep_box rfl (by rfl) rfl rfl,
    fun _ => astep_box rfl (by rfl) rfl rfl,
    fun _ => astep_assign rfl, trivial⟩
  refine awp_reg [⟨[(.tmp 4, .ref 1 1 0 0), (.tmp 3, .ref 0 1 0 0), (.tmp 5, .ref 2 4 0 0)], [], (.fn (.func 93) [] [.ref 1 1 0 0, .ref 0 1 0 0, .ref 2 4 0 0]), [], false⟩,
    ⟨[(.tmp 7, (.fn (.func 93) [] [.ref 1 1 0 0, .ref 0 1 0 0, .ref 2 4 0 0]))], [], (.fn (.func 93) [] [.ref 1 1 0 0, .ref 0 1 0 0, .ref 2 4 0 0]), [], false⟩] (by exact ⟨by kernel_rfl, by kernel_rfl⟩) ?_ ?_
  · exact ⟨fun _ => astep_func (fs := []) (cs := [.ref 1 1 0 0, .ref 0 1 0 0, .ref 2 4 0 0]) rfl rfl rfl rfl,
    fun _ => astep_assign rfl, trivial⟩
  refine awp_mor (mor_to (n := 8) (l' := [(6, (.fn (.func 93) [] [.ref 0 1 0 0, .ref 1 1 0 0, .ref 2 4 0 0]))]) (own' := [(.own 1 [[(.dat 1 ((p1 : List Int).map c_i64))]]), (.own 1 [[(.dat 5 ((p0 : List GRow).map c_GRow))]]), (.own 4 [[I p2.Mass, I p2.Heat, I p2.Silica, I p2.Gas]])]) [(6, (.fn (.func 93) [] [.ref 1 1 0 0, .ref 0 1 0 0, .ref 2 4 0 0]))] [1, 0, 2] [(.own 1 [[(.dat 1 ((p1 : List Int).map c_i64))]]), (.own 1 [[(.dat 5 ((p0 : List GRow).map c_GRow))]]), (.own 4 [[I p2.Mass, I p2.Heat, I p2.Silica, I p2.Gas]])] hφ0 (by kernel_rfl) (by kernel_rfl) (by kernel_rfl) ⟨rfl, .rn (rn_fn rnl_nil (rnl_cons (rnq_ref rfl) (rnl_cons (rnq_ref rfl) (rnl_cons (rnq_ref rfl) rnl_nil)))), trivial⟩ ⟨(spw_box ⟨(.rn (.plain _ (nl_dat nl_i64 _))), trivial⟩), (spw_box ⟨(.rn (.plain _ (nl_dat nl_GRow _))), trivial⟩), (spw_box ⟨(.rn (.plain _ (NLt.lit _))), (.rn (.plain _ (NLt.lit _))), (.rn (.plain _ (NLt.lit _))), (.rn (.plain _ (NLt.lit _))), trivial⟩), trivial⟩) ?_
  refine awp_ret ?_
  obtain rfl := Option.some.inj h
  exact ⟨_, Mor.rfl, fin_of (vs := [(.fn (.func 93) [] [.ref 0 1 0 0, .ref 1 1 0 0, .ref 2 4 0 0])]) ⟨resOK_tmp (by kernel_rfl), trivial⟩ rfl (NLt.fn _ _ _ nl_nil (nl_cons (NLt.ref _ _ _ _ (by decide)) (nl_cons (NLt.ref _ _ _ _ (by decide)) (nl_cons (NLt.ref _ _ _ _ (by decide)) nl_nil)))) (by kernel_rfl) (snl_cons (snl_box (nl_cons (NLt.of0 (nl_dat nl_i64 _)) nl_nil)) (snl_cons (snl_box (nl_cons (NLt.of0 (nl_dat nl_GRow _)) nl_nil)) (snl_cons (snl_box (nl_cons (NLt.of0 (NLt.lit _)) (nl_cons (NLt.of0 (NLt.lit _)) (nl_cons (NLt.of0 (NLt.lit _)) (nl_cons (NLt.of0 (NLt.lit _)) nl_nil))))) snl_nil)))⟩

def steam_Table_train_1S_loop1 (N : Nat) (p0 : (List Int)) (p1 : (List GRow)) : Nat → Int → Int → Int → Int → Int → Option (List GParts)
  | 0, _, _, _, _, _ => none
  | n13 + 1, y1, y2, y3, y4, y5 =>
    bif (decide (y1 < (p0.length : Int))) then
      (getI p0 y1).bind fun x15 =>
      (steam_Table_atX N p1 x15).bind fun x20 =>
      (steam_flash_ofX N (⟨(⟨x20.Row.T, x20.Row.P, x20.Row.Liquid, x20.Row.Vapour, x20.Row.Silica⟩ : GRow)⟩ : GFlash) (⟨y2, y3, y4, y5⟩ : GStream)).bind fun x22 =>
      yld (⟨(⟨x22.Steam.Mass, x22.Steam.Heat, x22.Steam.Silica, x22.Steam.Gas⟩ : GStream), (⟨x22.Water.Mass, x22.Water.Heat, x22.Water.Silica, x22.Water.Gas⟩ : GStream), x22.Rest, x22.Scale⟩ : GParts) <|
      steam_Table_train_1S_loop1 N p0 p1 n13 (w64 (y1 + 1)) x22.Water.Mass x22.Water.Heat x22.Water.Silica x22.Water.Gas
    else
      some ([])
def steam_Table_train_1S (N : Nat) (p0 : (List Int)) (p1 : (List GRow)) (p2 : Int) (p3 : Int) (p4 : Int) (p5 : Int) : Option (List GParts) :=
  steam_Table_train_1S_loop1 N p0 p1 N 0 p2 p3 p4 p5
set_option maxRecDepth 100000 in
set_option maxHeartbeats 4000000 in
theorem steam_Table_train_1S_ok (N : Nat) (p0 : (List Int)) (p1 : (List GRow)) (p2 : Int) (p3 : Int) (p4 : Int) (p5 : Int) (r : (List GParts)) (h : steam_Table_train_1S N p0 p1 p2 p3 p4 p5 = some r) : SeqSpec Try.prog 93 [(.ref 0 1 (0) 0), (.ref 1 1 (0) 0), (.ref 2 4 (0) 0)] [(.own 1 [[(.dat 1 ((p0 : List Int).map c_i64))]]), (.own 1 [[(.dat 5 ((p1 : List GRow).map c_GRow))]]), (.own 4 [[(I (p2)), (I (p3)), (I (p4)), (I (p5))]])] (fun x => [(.agg #[(.int .i64 (x.Steam.Mass)), (.int .i64 (x.Steam.Heat)), (.int .i64 (x.Steam.Silica)), (.int .i64 (x.Steam.Gas)), (.int .i64 (x.Water.Mass)), (.int .i64 (x.Water.Heat)), (.int .i64 (x.Water.Silica)), (.int .i64 (x.Water.Gas)), (.int .i64 (x.Rest)), (.int .i64 (x.Scale))])]) r := by
  refine seq_of_awp Try.func93 rfl rfl (fun X φ0 w0 l J hφ0 hy => ?_)
  unfold steam_Table_train_1S at h
  refine awp_reg [⟨[(.tmp 1, .ref 0 1 0 0)], [(0, (.own 1 [[(.dat 1 ((p0 : List Int).map c_i64))]]))], (.dat 1 ((p0 : List Int).map c_i64)), [], false⟩,
    ⟨[(.tmp 8, (.dat 1 ((p0 : List Int).map c_i64)))], [], (I ((p0.length : Int))), [], false⟩,
    ⟨[(.const (.int .i64 0), I 0)], [], I 0, [], false⟩] (by exact ⟨by kernel_rfl, by kernel_rfl⟩) ?_ ?_
  · exact ⟨fun _ => astep_load rfl ti51 (by decide) rfl (Nat.le_of_ble_eq_true rfl) rfl,
    fun _ => astep_lenm (c := c_i64) (l := p0) (astep_len rfl Try.underlying51 rfl),
    fun _ => astep_move rfl, trivial⟩
  refine awp_block ?_
  refine awp_mor (mor_to (n := 26) (l' := [(0, (.lit (.func (.yield l) #[] #[]))), (2, .ref 1 1 0 0), (3, .ref 2 4 0 0), (8, (.dat 1 ((p0 : List Int).map c_i64))), (9, (I ((p0.length : Int)))), (10, I 0)]) (own' := [(.own 1 [[(.dat 1 ((p0 : List Int).map c_i64))]]), (.own 1 [[(.dat 5 ((p1 : List GRow).map c_GRow))]]), (.own 4 [[I p2, I p3, I p4, I p5]]), (.far (J (some (r))))]) [(0, (.lit (.func (.yield l) #[] #[]))), (2, .ref 1 1 0 0), (3, .ref 2 4 0 0), (8, (.dat 1 ((p0 : List Int).map c_i64))), (9, (I ((p0.length : Int)))), (10, I 0)] [0, 1, 2, 3] [(.own 1 [[(.dat 1 ((p0 : List Int).map c_i64))]]), (.own 1 [[(.dat 5 ((p1 : List GRow).map c_GRow))]]), (.own 4 [[I p2, I p3, I p4, I p5]]), (.far (J (some (r))))] hφ0 (by kernel_rfl) (by kernel_rfl) (by kernel_rfl) ⟨rfl, .rn (.plain _ (NLt.lit _)), rfl, .rn (rnq_ref rfl), rfl, .rn (rnq_ref rfl), rfl, .rn (.plain _ (nl_dat nl_i64 _)), rfl, .rn (.plain _ (NLt.lit _)), rfl, .rn (.plain _ (NLt.lit _)), trivial⟩ ⟨(spw_box ⟨(.rn (.plain _ (nl_dat nl_i64 _))), trivial⟩), (spw_box ⟨(.rn (.plain _ (nl_dat nl_GRow _))), trivial⟩), (spw_box ⟨(.rn (.plain _ (NLt.lit _))), (.rn (.plain _ (NLt.lit _))), (.rn (.plain _ (NLt.lit _))), (.rn (.plain _ (NLt.lit _))), trivial⟩), .far _, trivial⟩) ?_
  refine awp_ind (τ := (Int × Int × Int × Int × Int) × List GParts) (fun n t => steam_Table_train_1S_loop1 N p0 p1 n t.1.1 t.1.2.1 t.1.2.2.1 t.1.2.2.2.1 t.1.2.2.2.2 = some t.2) (fun ⟨⟨y1, y2, y3, y4, y5⟩, q6⟩ => ⟨mk 26 [(0, (.lit (.func (.yield l) #[] #[]))), (2, .ref 1 1 0 0), (3, .ref 2 4 0 0), (8, (.dat 1 ((p0 : List Int).map c_i64))), (9, (I ((p0.length : Int)))), (10, I y1)], [(.own 1 [[(.dat 1 ((p0 : List Int).map c_i64))]]), (.own 1 [[(.dat 5 ((p1 : List GRow).map c_GRow))]]), (.own 4 [[I y2, I y3, I y4, I y5]]), (.far (J (some (q6))))]⟩) (fun t h => by rw [steam_Table_train_1S_loop1] at h; cases h) (fun n13 ih t h => ?_) N ((0, p2, p3, p4, p5), r) h
  obtain ⟨⟨y1, y2, y3, y4, y5⟩, q6⟩ := t
  rw [steam_Table_train_1S_loop1] at h
  try dsimp only at h
  refine awp_reg [⟨[(.tmp 10, I y1), (.tmp 9, (I ((p0.length : Int))))], [], (B ((decide (y1 < (p0.length : Int))))), [], false⟩] (by exact ⟨by kernel_rfl, by kernel_rfl⟩) ?_ ?_
  · exact ⟨fun _ => astep_bin rfl rfl, trivial⟩
  refine awp_seq ?_
  rcases Bool.eq_false_or_eq_true ((decide (y1 < (p0.length : Int)))) with hc14 | hc14
  · replace h := bif_t hc14 h
    refine awp_ift hc14 (by kernel_rfl) ?_
    refine awp_skip ?_
    refine thenA_n ?_
    refine awp_seq ?_
    refine awp_block ?_
    obtain ⟨x15, hg16, h⟩ := bind_out h
    obtain ⟨hi17, hj18⟩ := getI_some hg16
    refine awp_reg [⟨[(.tmp 8, (.dat 1 ((p0 : List Int).map c_i64))), (.tmp 10, I y1)], [], (.dptr (c_i64 (x15)) 0), [], false⟩,
    ⟨[(.tmp 12, (.dptr (c_i64 (x15)) 0))], [], I x15, [], false⟩,
    ⟨[(.tmp 13, I x15)], [], I x15, [], false⟩] (by exact ⟨by kernel_rfl, by kernel_rfl⟩) ?_ ?_
    · exact ⟨fun _ => astep_idxd rfl Try.underlying51 ti3 rfl rfl hi17 (map_get c_i64 hj18) rfl,
    fun _ => astep_loadd rfl ti3 (by decide) (Nat.le_of_ble_eq_true rfl) rfl,
    fun _ => astep_assign rfl, trivial⟩
    obtain ⟨x20, hf19, h⟩ := bind_out h
    obtain ⟨x22, hf21, h⟩ := bind_out h
    refine awp_regd [⟨[(.tmp 2, .ref 1 1 0 0)], [(1, (.own 1 [[(.dat 5 ((p1 : List GRow).map c_GRow))]]))], (.dat 5 ((p1 : List GRow).map c_GRow)), [], false⟩,
    ⟨[(.tmp 6, I x15)], [], I x15, [], false⟩,
    ⟨[(.func 60, (.fn (.func 60) [] [])), (.tmp 14, (.dat 5 ((p1 : List GRow).map c_GRow))), (.tmp 15, I x15)], [], (.agg [I x20.Row.T, I x20.Row.P, I x20.Row.Liquid, I x20.Row.Vapour, I x20.Row.Silica]), [], false⟩,
    ⟨[(.tmp 3, .ref 2 4 0 0)], [(2, .own 4 [[I y2, I y3, I y4, I y5]])], (.agg [I y2, I y3, I y4, I y5]), [], false⟩,
    ⟨[(.func 61, (.fn (.func 61) [] [])), (.tmp 16, (.agg [I x20.Row.T, I x20.Row.P, I x20.Row.Liquid, I x20.Row.Vapour, I x20.Row.Silica])), (.tmp 17, (.agg [I y2, I y3, I y4, I y5]))], [], (.agg [I x22.Steam.Mass, I x22.Steam.Heat, I x22.Steam.Silica, I x22.Steam.Gas, I x22.Water.Mass, I x22.Water.Heat, I x22.Water.Silica, I x22.Water.Gas, I x22.Rest, I x22.Scale]), [], false⟩,
    ⟨[], [(4, .unused)], .ref 4 10 0 0, [(4, .own 10 [[I 0, I 0, I 0, I 0, I 0, I 0, I 0, I 0, I 0, I 0]])], false⟩,
    ⟨[(.tmp 7, .ref 4 10 0 0), (.tmp 18, (.agg [I x22.Steam.Mass, I x22.Steam.Heat, I x22.Steam.Silica, I x22.Steam.Gas, I x22.Water.Mass, I x22.Water.Heat, I x22.Water.Silica, I x22.Water.Gas, I x22.Rest, I x22.Scale]))], [(4, .own 10 [[I 0, I 0, I 0, I 0, I 0, I 0, I 0, I 0, I 0, I 0]])], .any, [(4, .own 10 [[I x22.Steam.Mass, I x22.Steam.Heat, I x22.Steam.Silica, I x22.Steam.Gas, I x22.Water.Mass, I x22.Water.Heat, I x22.Water.Silica, I x22.Water.Gas, I x22.Rest, I x22.Scale]])], false⟩] (by kernel_rfl) (by exact ⟨by kernel_rfl, by kernel_rfl⟩) (by kernel_rfl) ?_ ?_
    · exact ⟨fun _ => astep_load rfl ti30 (by decide) rfl (Nat.le_of_ble_eq_true rfl) rfl,
    fun _ => astep_move rfl,
    fun _ => astep_pcall (first := []) (cap := []) (vs := [(.dat 5 ((p1 : List GRow).map c_GRow)), I x15]) rfl enter60 (steam_Table_atX_ok N p1 x15 _ hf19) rfl rfl (nl_cons (nl_dat nl_GRow _) (nl_cons (NLt.lit _) nl_nil)) (NLt.agg _ (nl_cons (NLt.lit _) (nl_cons (NLt.lit _) (nl_cons (NLt.lit _) (nl_cons (NLt.lit _) (nl_cons (NLt.lit _) nl_nil)))))) rfl,
    fun _ => astep_load rfl ti42 (by decide) rfl (Nat.le_of_ble_eq_true rfl) rfl,
    fun _ => astep_pcall (first := []) (cap := []) (vs := [(.agg [I x20.Row.T, I x20.Row.P, I x20.Row.Liquid, I x20.Row.Vapour, I x20.Row.Silica]), (.agg [I y2, I y3, I y4, I y5])]) rfl enter61 (steam_flash_ofX_ok N (⟨(⟨x20.Row.T, x20.Row.P, x20.Row.Liquid, x20.Row.Vapour, x20.Row.Silica⟩ : GRow)⟩ : GFlash) (⟨y2, y3, y4, y5⟩ : GStream) _ hf21) rfl rfl (nl_cons (NLt.agg _ (nl_cons (NLt.lit _) (nl_cons (NLt.lit _) (nl_cons (NLt.lit _) (nl_cons (NLt.lit _) (nl_cons (NLt.lit _) nl_nil)))))) (nl_cons (NLt.agg _ (nl_cons (NLt.lit _) (nl_cons (NLt.lit _) (nl_cons (NLt.lit _) (nl_cons (NLt.lit _) nl_nil))))) nl_nil)) (NLt.agg _ (nl_cons (NLt.lit _) (nl_cons (NLt.lit _) (nl_cons (NLt.lit _) (nl_cons (NLt.lit _) (nl_cons (NLt.lit _) (nl_cons (NLt.lit _) (nl_cons (NLt.lit _) (nl_cons (NLt.lit _) (nl_cons (NLt.lit _) (nl_cons (NLt.lit _) nl_nil))))))))))) rfl,
    fun _ => astep_alloc rfl tz44 rfl,
    fun _ => astep_store rfl ti44 (by rfl) rfl (Nat.le_of_ble_eq_true rfl) rfl, trivial⟩
    refine awp_seq ?_
    obtain ⟨q23, hy_, hq_⟩ := yld_out h
    clear h
    subst hq_
    have h := hy_
    clear hy_
    refine awp_regy 2 [⟨[(.tmp 0, (.lit (.func (.yield l) #[] #[])))], [], (.lit (.func (.yield l) #[] #[])), [], false⟩,
    ⟨[(.tmp 7, .ref 4 10 0 0)], [(4, .own 10 [[I x22.Steam.Mass, I x22.Steam.Heat, I x22.Steam.Silica, I x22.Steam.Gas, I x22.Water.Mass, I x22.Water.Heat, I x22.Water.Silica, I x22.Water.Gas, I x22.Rest, I x22.Scale]])], (.agg [I x22.Steam.Mass, I x22.Steam.Heat, I x22.Steam.Silica, I x22.Steam.Gas, I x22.Water.Mass, I x22.Water.Heat, I x22.Water.Silica, I x22.Water.Gas, I x22.Rest, I x22.Scale]), [], false⟩,
    ⟨[(.tmp 19, (.lit (.func (.yield l) #[] #[]))), (.tmp 20, (.agg [I x22.Steam.Mass, I x22.Steam.Heat, I x22.Steam.Silica, I x22.Steam.Gas, I x22.Water.Mass, I x22.Water.Heat, I x22.Water.Silica, I x22.Water.Gas, I x22.Rest, I x22.Scale]))], [(3, (.far (J (some ((⟨(⟨x22.Steam.Mass, x22.Steam.Heat, x22.Steam.Silica, x22.Steam.Gas⟩ : GStream), (⟨x22.Water.Mass, x22.Water.Heat, x22.Water.Silica, x22.Water.Gas⟩ : GStream), x22.Rest, x22.Scale⟩ : GParts) :: q23)))))], B true, [(3, (.far (J (some (q23)))))], false⟩,
    ⟨[(.tmp 21, B true)], [], B false, [], false⟩] [⟨[(.tmp 0, (.lit (.func (.yield l) #[] #[])))], [], (.lit (.func (.yield l) #[] #[])), [], false⟩,
    ⟨[(.tmp 7, .ref 4 10 0 0)], [(4, .own 10 [[I x22.Steam.Mass, I x22.Steam.Heat, I x22.Steam.Silica, I x22.Steam.Gas, I x22.Water.Mass, I x22.Water.Heat, I x22.Water.Silica, I x22.Water.Gas, I x22.Rest, I x22.Scale]])], (.agg [I x22.Steam.Mass, I x22.Steam.Heat, I x22.Steam.Silica, I x22.Steam.Gas, I x22.Water.Mass, I x22.Water.Heat, I x22.Water.Silica, I x22.Water.Gas, I x22.Rest, I x22.Scale]), [], false⟩,
    ⟨[(.tmp 19, (.lit (.func (.yield l) #[] #[]))), (.tmp 20, (.agg [I x22.Steam.Mass, I x22.Steam.Heat, I x22.Steam.Silica, I x22.Steam.Gas, I x22.Water.Mass, I x22.Water.Heat, I x22.Water.Silica, I x22.Water.Gas, I x22.Rest, I x22.Scale]))], [(3, (.far (J (some ((⟨(⟨x22.Steam.Mass, x22.Steam.Heat, x22.Steam.Silica, x22.Steam.Gas⟩ : GStream), (⟨x22.Water.Mass, x22.Water.Heat, x22.Water.Silica, x22.Water.Gas⟩ : GStream), x22.Rest, x22.Scale⟩ : GParts) :: q23)))))], B false, [(3, (.far (J none)))], false⟩,
    ⟨[(.tmp 21, B false)], [], B true, [], false⟩] (by exact ⟨by kernel_rfl, by kernel_rfl⟩) (by exact ⟨by kernel_rfl, by kernel_rfl⟩) rfl rfl rfl rfl (astep2_weak (rd' := (.tmp 19, .lit (.func (.yield l) #[] #[])) :: [(.tmp 20, .lit (.agg #[(.int .i64 (((⟨(⟨x22.Steam.Mass, x22.Steam.Heat, x22.Steam.Silica, x22.Steam.Gas⟩ : GStream), (⟨x22.Water.Mass, x22.Water.Heat, x22.Water.Silica, x22.Water.Gas⟩ : GStream), x22.Rest, x22.Scale⟩ : GParts).Steam).Mass)), (.int .i64 (((⟨(⟨x22.Steam.Mass, x22.Steam.Heat, x22.Steam.Silica, x22.Steam.Gas⟩ : GStream), (⟨x22.Water.Mass, x22.Water.Heat, x22.Water.Silica, x22.Water.Gas⟩ : GStream), x22.Rest, x22.Scale⟩ : GParts).Steam).Heat)), (.int .i64 (((⟨(⟨x22.Steam.Mass, x22.Steam.Heat, x22.Steam.Silica, x22.Steam.Gas⟩ : GStream), (⟨x22.Water.Mass, x22.Water.Heat, x22.Water.Silica, x22.Water.Gas⟩ : GStream), x22.Rest, x22.Scale⟩ : GParts).Steam).Silica)), (.int .i64 (((⟨(⟨x22.Steam.Mass, x22.Steam.Heat, x22.Steam.Silica, x22.Steam.Gas⟩ : GStream), (⟨x22.Water.Mass, x22.Water.Heat, x22.Water.Silica, x22.Water.Gas⟩ : GStream), x22.Rest, x22.Scale⟩ : GParts).Steam).Gas)), (.int .i64 (((⟨(⟨x22.Steam.Mass, x22.Steam.Heat, x22.Steam.Silica, x22.Steam.Gas⟩ : GStream), (⟨x22.Water.Mass, x22.Water.Heat, x22.Water.Silica, x22.Water.Gas⟩ : GStream), x22.Rest, x22.Scale⟩ : GParts).Water).Mass)), (.int .i64 (((⟨(⟨x22.Steam.Mass, x22.Steam.Heat, x22.Steam.Silica, x22.Steam.Gas⟩ : GStream), (⟨x22.Water.Mass, x22.Water.Heat, x22.Water.Silica, x22.Water.Gas⟩ : GStream), x22.Rest, x22.Scale⟩ : GParts).Water).Heat)), (.int .i64 (((⟨(⟨x22.Steam.Mass, x22.Steam.Heat, x22.Steam.Silica, x22.Steam.Gas⟩ : GStream), (⟨x22.Water.Mass, x22.Water.Heat, x22.Water.Silica, x22.Water.Gas⟩ : GStream), x22.Rest, x22.Scale⟩ : GParts).Water).Silica)), (.int .i64 (((⟨(⟨x22.Steam.Mass, x22.Steam.Heat, x22.Steam.Silica, x22.Steam.Gas⟩ : GStream), (⟨x22.Water.Mass, x22.Water.Heat, x22.Water.Silica, x22.Water.Gas⟩ : GStream), x22.Rest, x22.Scale⟩ : GParts).Water).Gas)), (.int .i64 ((⟨(⟨x22.Steam.Mass, x22.Steam.Heat, x22.Steam.Silica, x22.Steam.Gas⟩ : GStream), (⟨x22.Water.Mass, x22.Water.Heat, x22.Water.Silica, x22.Water.Gas⟩ : GStream), x22.Rest, x22.Scale⟩ : GParts).Rest)), (.int .i64 ((⟨(⟨x22.Steam.Mass, x22.Steam.Heat, x22.Steam.Silica, x22.Steam.Gas⟩ : GStream), (⟨x22.Water.Mass, x22.Water.Heat, x22.Water.Silica, x22.Water.Gas⟩ : GStream), x22.Rest, x22.Scale⟩ : GParts).Scale))]))]) ⟨rfl, Less.rfl, rfl, (Less.lits [(.int .i64 (x22.Steam.Mass)), (.int .i64 (x22.Steam.Heat)), (.int .i64 (x22.Steam.Silica)), (.int .i64 (x22.Steam.Gas)), (.int .i64 (x22.Water.Mass)), (.int .i64 (x22.Water.Heat)), (.int .i64 (x22.Water.Silica)), (.int .i64 (x22.Water.Gas)), (.int .i64 (x22.Rest)), (.int .i64 (x22.Scale))]), trivial⟩ (astep_yieldq (x := (⟨(⟨x22.Steam.Mass, x22.Steam.Heat, x22.Steam.Silica, x22.Steam.Gas⟩ : GStream), (⟨x22.Water.Mass, x22.Water.Heat, x22.Water.Silica, x22.Water.Gas⟩ : GStream), x22.Rest, x22.Scale⟩ : GParts)) (rest := q23) rfl rfl hy rfl)) (⟨fun _ _ => astep_move rfl, fun _ _ => astep_load rfl ti44 (by decide) rfl (Nat.le_of_ble_eq_true rfl) rfl, fun _ h => absurd rfl h, fun _ _ => astep_not rfl, trivial⟩) (⟨fun _ _ => astep_move rfl, fun _ _ => astep_load rfl ti44 (by decide) rfl (Nat.le_of_ble_eq_true rfl) rfl, fun _ h => absurd rfl h, fun _ _ => astep_not rfl, trivial⟩) ?_ ?_
    · skip
      refine awp_false (by kernel_rfl) ?_
      refine awp_skip ?_
      refine thenA_n ?_
      refine awp_reg1 [⟨[(.tmp 7, .ref 4 10 0 0)], [(4, .own 10 [[I x22.Steam.Mass, I x22.Steam.Heat, I x22.Steam.Silica, I x22.Steam.Gas, I x22.Water.Mass, I x22.Water.Heat, I x22.Water.Silica, I x22.Water.Gas, I x22.Rest, I x22.Scale]])], .ref 4 10 0 4, [], false⟩,
    ⟨[(.tmp 23, .ref 4 10 0 4)], [(4, .own 10 [[I x22.Steam.Mass, I x22.Steam.Heat, I x22.Steam.Silica, I x22.Steam.Gas, I x22.Water.Mass, I x22.Water.Heat, I x22.Water.Silica, I x22.Water.Gas, I x22.Rest, I x22.Scale]])], (.agg [I x22.Water.Mass, I x22.Water.Heat, I x22.Water.Silica, I x22.Water.Gas]), [], false⟩,
    ⟨[(.tmp 3, .ref 2 4 0 0), (.tmp 24, (.agg [I x22.Water.Mass, I x22.Water.Heat, I x22.Water.Silica, I x22.Water.Gas]))], [(2, .own 4 [[I y2, I y3, I y4, I y5]])], .any, [(2, .own 4 [[I x22.Water.Mass, I x22.Water.Heat, I x22.Water.Silica, I x22.Water.Gas]])], false⟩] (by exact ⟨by kernel_rfl, by kernel_rfl⟩) ?_ ?_
      · exact ⟨fun _ => astep_faddr rfl Try.underlying44 rfl rfl ti42 (by decide) rfl,
    fun _ => astep_load rfl ti42 (by decide) rfl (Nat.le_of_ble_eq_true rfl) rfl,
    fun _ => astep_store rfl ti42 (by rfl) rfl (Nat.le_of_ble_eq_true rfl) rfl, trivial⟩
      refine blockA_n ?_
      refine thenA_n ?_
      refine awp_reg1 [⟨[(.tmp 10, I y1), (.const (.int .i64 1), I 1)], [], (I (w64 (y1 + 1))), [], false⟩,
    ⟨[(.tmp 25, (I (w64 (y1 + 1))))], [], (I (w64 (y1 + 1))), [], false⟩] (by exact ⟨by kernel_rfl, by kernel_rfl⟩) ?_ ?_
      · exact ⟨fun _ => astep_bin rfl rfl,
    fun _ => astep_move rfl, trivial⟩
      refine thenA_n ?_
      exact around_mor (mor_to (n := 26) (l' := [(0, (.lit (.func (.yield l) #[] #[]))), (2, .ref 1 1 0 0), (3, .ref 2 4 0 0), (8, (.dat 1 ((p0 : List Int).map c_i64))), (9, (I ((p0.length : Int)))), (10, (I ((w64 (y1 + 1)))))]) (own' := [(.own 1 [[(.dat 1 ((p0 : List Int).map c_i64))]]), (.own 1 [[(.dat 5 ((p1 : List GRow).map c_GRow))]]), (.own 4 [[I x22.Water.Mass, I x22.Water.Heat, I x22.Water.Silica, I x22.Water.Gas]]), (.far (J (some (q23))))]) [(0, (.lit (.func (.yield l) #[] #[]))), (2, .ref 1 1 0 0), (3, .ref 2 4 0 0), (8, (.dat 1 ((p0 : List Int).map c_i64))), (9, (I ((p0.length : Int)))), (10, (I (w64 (y1 + 1))))] [0, 1, 2, 3] [(.own 1 [[(.dat 1 ((p0 : List Int).map c_i64))]]), (.own 1 [[(.dat 5 ((p1 : List GRow).map c_GRow))]]), (.own 4 [[I x22.Water.Mass, I x22.Water.Heat, I x22.Water.Silica, I x22.Water.Gas]]), (.far (J (some (q23))))] hφ0 (by kernel_rfl) (by kernel_rfl) (by kernel_rfl) ⟨rfl, .rn (.plain _ (NLt.lit _)), rfl, .rn (rnq_ref rfl), rfl, .rn (rnq_ref rfl), rfl, .rn (.plain _ (nl_dat nl_i64 _)), rfl, .rn (.plain _ (NLt.lit _)), rfl, .rn (.plain _ (NLt.lit _)), trivial⟩ ⟨(spw_box ⟨(.rn (.plain _ (nl_dat nl_i64 _))), trivial⟩), (spw_box ⟨(.rn (.plain _ (nl_dat nl_GRow _))), trivial⟩), (spw_box ⟨(.rn (.plain _ (NLt.lit _))), (.rn (.plain _ (NLt.lit _))), (.rn (.plain _ (NLt.lit _))), (.rn (.plain _ (NLt.lit _))), trivial⟩), .far _, trivial⟩) (ih ((w64 (y1 + 1), x22.Water.Mass, x22.Water.Heat, x22.Water.Silica, x22.Water.Gas), q23) h)
    · clear h
      refine awp_true (by kernel_rfl) ?_
      refine awp_ret ?_
      refine thenA_r ?_
      refine blockA_r ?_
      refine thenA_r ?_
      refine thenA_r ?_
      refine blockA_r ?_
      exact Or.inr rfl
  · replace h := bif_f hc14 h
    refine awp_ifn hc14 (by kernel_rfl) ?_
    refine awp_exit ?_
    refine thenA_x ?_
    refine thenA_x ?_
    refine blockA_e rfl ?_
    obtain rfl := Option.some.inj h
    exact Or.inl rfl

def slices_AppendSeq_steam_Parts_steam_PartsX_1_range1 (N : Nat) (k3 : (List GParts) → Option (List GParts)) : (List GParts) → (List GParts) → Option (List GParts)
  | [], y6 =>
    k3 (y6)
  | x9 :: q10, y6 =>
    chk (decide ((y6.length + ([(⟨(⟨x9.Steam.Mass, x9.Steam.Heat, x9.Steam.Silica, x9.Steam.Gas⟩ : GStream), (⟨x9.Water.Mass, x9.Water.Heat, x9.Water.Silica, x9.Water.Gas⟩ : GStream), x9.Rest, x9.Scale⟩ : GParts)]).length) * 80 ≤ 140737488355328)) <|
    slices_AppendSeq_steam_Parts_steam_PartsX_1_range1 N k3 q10 (y6 ++ ([(⟨(⟨x9.Steam.Mass, x9.Steam.Heat, x9.Steam.Silica, x9.Steam.Gas⟩ : GStream), (⟨x9.Water.Mass, x9.Water.Heat, x9.Water.Silica, x9.Water.Gas⟩ : GStream), x9.Rest, x9.Scale⟩ : GParts)]))
def slices_AppendSeq_steam_Parts_steam_PartsX_1 (N : Nat) (p0 : (List Int)) (p1 : (List GRow)) (p2 : Int) (p3 : Int) (p4 : Int) (p5 : Int) : Option (List GParts) :=
  joinK (fun y2 =>
      some y2) fun k3 : (List GParts) → Option (List GParts) =>
  (steam_Table_train_1S N p0 p1 p2 p3 p4 p5).bind fun q4 =>
  slices_AppendSeq_steam_Parts_steam_PartsX_1_range1 N k3 q4 ([])
set_option maxRecDepth 100000 in
set_option maxHeartbeats 4000000 in
theorem slices_AppendSeq_steam_Parts_steam_PartsX_1_ok (N : Nat) (p0 : (List Int)) (p1 : (List GRow)) (p2 : Int) (p3 : Int) (p4 : Int) (p5 : Int) (r : (List GParts)) (h : slices_AppendSeq_steam_Parts_steam_PartsX_1 N p0 p1 p2 p3 p4 p5 = some r) : Spec Try.prog 92 [nilS, (.fn (.func 93) [] [(.ref 0 1 (0) 0), (.ref 1 1 (0) 0), (.ref 2 4 (0) 0)])] [(.own 1 [[(.dat 1 ((p0 : List Int).map c_i64))]]), (.own 1 [[(.dat 5 ((p1 : List GRow).map c_GRow))]]), (.own 4 [[(I (p2)), (I (p3)), (I (p4)), (I (p5))]])] (.dat 10 ((r : List GParts).map c_GParts)) [.dead, .dead, .dead] := by
  refine spec_of_awp Try.func92 rfl 3 (Nat.le_of_ble_eq_true rfl) (fun X φ0 w0 hφ0 => ?_)
  unfold slices_AppendSeq_steam_Parts_steam_PartsX_1 at h
  refine awp_finm ?_
  refine awp_reg [⟨[(.tmp 0, nilS)], [(3, .unused)], .ref 3 1 0 0, [(3, .own 1 [[nilS]])], false⟩,
    ⟨[((.const (.slice none 0 0)), nilS)], [], nilS, [], false⟩] (by exact ⟨by kernel_rfl, by kernel_rfl⟩) ?_ ?_
  · exact ⟨fun _ => astep_box rfl (by rfl) rfl rfl,
    fun _ => astep_assign rfl, trivial⟩
  obtain ⟨k3, hk_k3, h⟩ := joinK_out h
  refine awp_join (τ := (List GParts)) (fun t => k3 t = some r) (fun y2 => ⟨mk 13 [(2, .ref 3 1 0 0)], [.dead, .dead, .dead, (.own 1 [[(.acc 4 44 10 ((y2 : List GParts).map c_GParts))]]), .tok]⟩) (fun y2 h => ?_) ?_
  · subst hk_k3
    refine awp_reg [⟨[(.tmp 2, .ref 3 1 0 0)], [(3, (.own 1 [[(.acc 4 44 10 ((y2 : List GParts).map c_GParts))]]))], (.acc 4 44 10 ((y2 : List GParts).map c_GParts)), [], false⟩,
    ⟨[(.tmp 12, (.acc 4 44 10 ((y2 : List GParts).map c_GParts)))], [], (.acc 4 44 10 ((y2 : List GParts).map c_GParts)), [], false⟩] (by exact ⟨by kernel_rfl, by kernel_rfl⟩) ?_ ?_
    · exact ⟨fun _ => astep_load rfl ti98 (by decide) rfl (Nat.le_of_ble_eq_true rfl) rfl,
    fun _ => astep_assign rfl, trivial⟩
    refine awp_mor (mor_to (n := 13) (l' := [(4, (.dat 10 ((y2 : List GParts).map c_GParts)))]) (own' := [.dead, .dead, .dead]) [(4, (.acc 4 44 10 ((y2 : List GParts).map c_GParts)))] [0, 1, 2] [.dead, .dead, .dead] hφ0 (by kernel_rfl) (by kernel_rfl) (by kernel_rfl) ⟨rfl, .dat _ _ _ _ (nl_rows nl_GParts _), trivial⟩ ⟨.dead, .dead, .dead, trivial⟩) ?_
    refine awp_ret ?_
    obtain rfl := Option.some.inj h
    exact ⟨_, Mor.rfl, fin_of (vs := [(.dat 10 ((y2 : List GParts).map c_GParts))]) ⟨resOK_tmp (by kernel_rfl), trivial⟩ rfl (NLt.of0 (nl_dat nl_GParts _)) (by kernel_rfl) (snl_cons .dead (snl_cons .dead (snl_cons .dead snl_nil)))⟩
  · skip
    refine awp_reg [⟨[(.tmp 1, (.fn (.func 93) [] [.ref 0 1 0 0, .ref 1 1 0 0, .ref 2 4 0 0]))], [], (.fn (.func 93) [] [.ref 0 1 0 0, .ref 1 1 0 0, .ref 2 4 0 0]), [], false⟩] (by exact ⟨by kernel_rfl, by kernel_rfl⟩) ?_ ?_
    · exact ⟨fun _ => astep_move rfl, trivial⟩
    refine awp_block ?_
    obtain ⟨q4, hL5, h⟩ := bind_out h
    refine awp_mor (mor_to (n := 13) (l' := [(2, .ref 3 1 0 0), (6, (.fn (.func 93) [] [.ref 0 1 0 0, .ref 1 1 0 0, .ref 2 4 0 0]))]) (own' := [(.own 1 [[(.dat 1 ((p0 : List Int).map c_i64))]]), (.own 1 [[(.dat 5 ((p1 : List GRow).map c_GRow))]]), (.own 4 [[I p2, I p3, I p4, I p5]]), (.own 1 [[nilS]])]) [(2, .ref 3 1 0 0), (6, (.fn (.func 93) [] [.ref 0 1 0 0, .ref 1 1 0 0, .ref 2 4 0 0]))] [0, 1, 2, 3] [(.own 1 [[(.dat 1 ((p0 : List Int).map c_i64))]]), (.own 1 [[(.dat 5 ((p1 : List GRow).map c_GRow))]]), (.own 4 [[I p2, I p3, I p4, I p5]]), (.own 1 [[nilS]])] hφ0 (by kernel_rfl) (by kernel_rfl) (by kernel_rfl) ⟨rfl, .rn (rnq_ref rfl), rfl, .rn (rn_fn rnl_nil (rnl_cons (rnq_ref rfl) (rnl_cons (rnq_ref rfl) (rnl_cons (rnq_ref rfl) rnl_nil)))), trivial⟩ ⟨(spw_box ⟨(.rn (.plain _ (nl_dat nl_i64 _))), trivial⟩), (spw_box ⟨(.rn (.plain _ (nl_dat nl_GRow _))), trivial⟩), (spw_box ⟨(.rn (.plain _ (NLt.lit _))), (.rn (.plain _ (NLt.lit _))), (.rn (.plain _ (NLt.lit _))), (.rn (.plain _ (NLt.lit _))), trivial⟩), (spw_box ⟨(.rn (.plain _ (NLt.lit _))), trivial⟩), trivial⟩) ?_
    refine awp_mor (mor_nilb (n := 4) (ty := 44) (m := 10) (q := 3) (mq := 1) (c := [nilS]) 0 (by kernel_rfl) (by kernel_rfl) (by kernel_rfl) (by decide)) ?_
    refine awp_rangeA (τ := ((List GParts))) (kb := 4) (caps := [.ref 0 1 0 0, .ref 1 1 0 0, .ref 2 4 0 0]) (σr := [(.own 1 [[(.dat 1 ((p0 : List Int).map c_i64))]]), (.own 1 [[(.dat 5 ((p1 : List GRow).map c_GRow))]]), (.own 4 [[I p2, I p3, I p4, I p5]])]) (encs := fun x => [(.agg #[(.int .i64 (x.Steam.Mass)), (.int .i64 (x.Steam.Heat)), (.int .i64 (x.Steam.Silica)), (.int .i64 (x.Steam.Gas)), (.int .i64 (x.Water.Mass)), (.int .i64 (x.Water.Heat)), (.int .i64 (x.Water.Silica)), (.int .i64 (x.Water.Gas)), (.int .i64 (x.Rest)), (.int .i64 (x.Scale))])]) (fun x => [(.agg [I x.Steam.Mass, I x.Steam.Heat, I x.Steam.Silica, I x.Steam.Gas, I x.Water.Mass, I x.Water.Heat, I x.Water.Silica, I x.Water.Gas, I x.Rest, I x.Scale])]) [0, 1, 2] (fun n hn => hφ0 n (Nat.le_trans (Nat.le_of_ble_eq_true rfl) hn)) (steam_Table_train_1S_ok N p0 p1 p2 p3 p4 p5 _ hL5) enter93 (by kernel_rfl) (by kernel_rfl) (rn_agg (rnl_cons (rnj_ref rfl) (rnl_cons (rnj_ref rfl) (rnl_cons (rnj_ref rfl) rnl_nil)))) (slw_cons (srn_box (rnl_cons (.plain _ (nl_dat nl_i64 _)) rnl_nil)) (slw_cons (srn_box (rnl_cons (.plain _ (nl_dat nl_GRow _)) rnl_nil)) (slw_cons (srn_box (rnl_cons (.plain _ (NLt.lit _)) (rnl_cons (.plain _ (NLt.lit _)) (rnl_cons (.plain _ (NLt.lit _)) (rnl_cons (.plain _ (NLt.lit _)) rnl_nil))))) slw_nil))) (by kernel_rfl) (fun _ => rfl) (fun x => ⟨(Less.unlits [(.int .i64 (x.Steam.Mass)), (.int .i64 (x.Steam.Heat)), (.int .i64 (x.Steam.Silica)), (.int .i64 (x.Steam.Gas)), (.int .i64 (x.Water.Mass)), (.int .i64 (x.Water.Heat)), (.int .i64 (x.Water.Silica)), (.int .i64 (x.Water.Gas)), (.int .i64 (x.Rest)), (.int .i64 (x.Scale))]), trivial⟩) (nlt_mk (nlp_cons (NLt.ref _ _ _ _ (by decide)) (nlp_cons (NLt.fn _ _ _ nl_nil (nl_cons (NLt.ref _ _ _ _ (by decide)) (nl_cons (NLt.ref _ _ _ _ (by decide)) (nl_cons (NLt.ref _ _ _ _ (by decide)) nl_nil)))) nlp_nil))) (fun y6 => [.dead, .dead, .dead, (.own 1 [[(.acc 4 44 10 ((y6 : List GParts).map c_GParts))]]), .tok]) (fun _ => rfl) (fun _ => rfl) (fun l t => slices_AppendSeq_steam_Parts_steam_PartsX_1_range1 N k3 l t = some r) ([]) h (by kernel_rfl) ?_ ?_
    · intro l11 o12 X15 φ16 w17 hφ14 x9 q10 y6 h
      rw [slices_AppendSeq_steam_Parts_steam_PartsX_1_range1] at h
      refine awp_reg1 [⟨[], [(6, .unused)], .ref 6 10 0 0, [(6, .own 10 [[I 0, I 0, I 0, I 0, I 0, I 0, I 0, I 0, I 0, I 0]])], false⟩,
    ⟨[(.tmp 5, .ref 6 10 0 0), (.tmp 7, (.agg [I x9.Steam.Mass, I x9.Steam.Heat, I x9.Steam.Silica, I x9.Steam.Gas, I x9.Water.Mass, I x9.Water.Heat, I x9.Water.Silica, I x9.Water.Gas, I x9.Rest, I x9.Scale]))], [(6, .own 10 [[I 0, I 0, I 0, I 0, I 0, I 0, I 0, I 0, I 0, I 0]])], .any, [(6, .own 10 [[I x9.Steam.Mass, I x9.Steam.Heat, I x9.Steam.Silica, I x9.Steam.Gas, I x9.Water.Mass, I x9.Water.Heat, I x9.Water.Silica, I x9.Water.Gas, I x9.Rest, I x9.Scale]])], false⟩] (by exact ⟨by kernel_rfl, by kernel_rfl⟩) ?_ ?_
      · exact ⟨fun _ => astep_alloc rfl tz44 rfl,
    fun _ => astep_store rfl ti44 (by rfl) rfl (Nat.le_of_ble_eq_true rfl) rfl, trivial⟩
      refine ⟨by kernel_rfl, fun o13 => ?_⟩
      refine awp_block ?_
      obtain ⟨ha18, h⟩ := chk_out h
      refine awp_reg1 [⟨[(.tmp 2, .ref 3 1 0 0)], [(3, (.own 1 [[(.acc 4 44 10 ((y6 : List GParts).map c_GParts))]]))], (.acc 4 44 10 ((y6 : List GParts).map c_GParts)), [], false⟩,
    ⟨[(.tmp 5, .ref 6 10 0 0)], [(6, .own 10 [[I x9.Steam.Mass, I x9.Steam.Heat, I x9.Steam.Silica, I x9.Steam.Gas, I x9.Water.Mass, I x9.Water.Heat, I x9.Water.Silica, I x9.Water.Gas, I x9.Rest, I x9.Scale]])], (.agg [I x9.Steam.Mass, I x9.Steam.Heat, I x9.Steam.Silica, I x9.Steam.Gas, I x9.Water.Mass, I x9.Water.Heat, I x9.Water.Silica, I x9.Water.Gas, I x9.Rest, I x9.Scale]), [], false⟩,
    ⟨[(.tmp 9, (.agg [I x9.Steam.Mass, I x9.Steam.Heat, I x9.Steam.Silica, I x9.Steam.Gas, I x9.Water.Mass, I x9.Water.Heat, I x9.Water.Silica, I x9.Water.Gas, I x9.Rest, I x9.Scale]))], [], (.dat 10 (([(⟨(⟨x9.Steam.Mass, x9.Steam.Heat, x9.Steam.Silica, x9.Steam.Gas⟩ : GStream), (⟨x9.Water.Mass, x9.Water.Heat, x9.Water.Silica, x9.Water.Gas⟩ : GStream), x9.Rest, x9.Scale⟩ : GParts)] : List GParts).map c_GParts)), [], false⟩,
    ⟨[(.tmp 8, (.acc 4 44 10 ((y6 : List GParts).map c_GParts))), (.tmp 10, (.dat 10 (([(⟨(⟨x9.Steam.Mass, x9.Steam.Heat, x9.Steam.Silica, x9.Steam.Gas⟩ : GStream), (⟨x9.Water.Mass, x9.Water.Heat, x9.Water.Silica, x9.Water.Gas⟩ : GStream), x9.Rest, x9.Scale⟩ : GParts)] : List GParts).map c_GParts)))], [(4, .tok), (7, .unused)], (.acc 7 44 10 ((y6 ++ ([(⟨(⟨x9.Steam.Mass, x9.Steam.Heat, x9.Steam.Silica, x9.Steam.Gas⟩ : GStream), (⟨x9.Water.Mass, x9.Water.Heat, x9.Water.Silica, x9.Water.Gas⟩ : GStream), x9.Rest, x9.Scale⟩ : GParts)]) : List GParts).map c_GParts)), [(4, .dead), (7, .tok)], false⟩,
    ⟨[(.tmp 2, .ref 3 1 0 0), (.tmp 11, (.acc 7 44 10 ((y6 ++ ([(⟨(⟨x9.Steam.Mass, x9.Steam.Heat, x9.Steam.Silica, x9.Steam.Gas⟩ : GStream), (⟨x9.Water.Mass, x9.Water.Heat, x9.Water.Silica, x9.Water.Gas⟩ : GStream), x9.Rest, x9.Scale⟩ : GParts)]) : List GParts).map c_GParts)))], [(3, (.own 1 [[(.acc 4 44 10 ((y6 : List GParts).map c_GParts))]]))], .any, [(3, (.own 1 [[(.acc 7 44 10 ((y6 ++ ([(⟨(⟨x9.Steam.Mass, x9.Steam.Heat, x9.Steam.Silica, x9.Steam.Gas⟩ : GStream), (⟨x9.Water.Mass, x9.Water.Heat, x9.Water.Silica, x9.Water.Gas⟩ : GStream), x9.Rest, x9.Scale⟩ : GParts)]) : List GParts).map c_GParts))]]))], false⟩] (by exact ⟨by kernel_rfl, by kernel_rfl⟩) ?_ ?_
      · exact ⟨fun _ => astep_load rfl ti98 (by decide) rfl (Nat.le_of_ble_eq_true rfl) rfl,
    fun _ => astep_load rfl ti44 (by decide) rfl (Nat.le_of_ble_eq_true rfl) rfl,
    fun _ => astep_bslice (vs := [(.agg [I x9.Steam.Mass, I x9.Steam.Heat, I x9.Steam.Silica, I x9.Steam.Gas, I x9.Water.Mass, I x9.Water.Heat, I x9.Water.Silica, I x9.Water.Gas, I x9.Rest, I x9.Scale])]) rfl Try.underlying98 ti44 tz44 rfl (by decide) rfl (by decide) (by rfl) (by rfl) (by rfl) rfl,
    fun _ => astep_app rfl Try.underlying98 te44 (Base.acc _ _) rfl rfl (by rfl) (app_le1 c_GParts ha18) (app_le2 c_GParts ha18 (by decide)) (app_map c_GParts) rfl rfl,
    fun _ => astep_store rfl ti98 (by rfl) rfl (Nat.le_of_ble_eq_true rfl) rfl, trivial⟩
      refine blockA_n ?_
      exact ⟨(y6 ++ ([(⟨(⟨x9.Steam.Mass, x9.Steam.Heat, x9.Steam.Silica, x9.Steam.Gas⟩ : GStream), (⟨x9.Water.Mass, x9.Water.Heat, x9.Water.Silica, x9.Water.Gas⟩ : GStream), x9.Rest, x9.Scale⟩ : GParts)])), h, ren_to (own' := [.dead, .dead, .dead, (.own 1 [[(.acc 4 44 10 (((y6 ++ ([(⟨(⟨x9.Steam.Mass, x9.Steam.Heat, x9.Steam.Silica, x9.Steam.Gas⟩ : GStream), (⟨x9.Water.Mass, x9.Water.Heat, x9.Water.Silica, x9.Water.Gas⟩ : GStream), x9.Rest, x9.Scale⟩ : GParts)])) : List GParts).map c_GParts))]]), .tok, (.far (farL l11 o13))]) [0, 1, 2, 3, 7, 5] [.dead, .dead, .dead, (.own 1 [[(.acc 7 44 10 ((y6 ++ ([(⟨(⟨x9.Steam.Mass, x9.Steam.Heat, x9.Steam.Silica, x9.Steam.Gas⟩ : GStream), (⟨x9.Water.Mass, x9.Water.Heat, x9.Water.Silica, x9.Water.Gas⟩ : GStream), x9.Rest, x9.Scale⟩ : GParts)]) : List GParts).map c_GParts))]]), .tok, (.far (farL l11 o13))] (by kernel_rfl) (by kernel_rfl) ⟨.dead, .dead, .dead, (spw_box ⟨(.rn (rnq_acc rfl (nl_rows nl_GParts _))), trivial⟩), .tok, .far _, trivial⟩⟩
    · intro y6 h
      rw [slices_AppendSeq_steam_Parts_steam_PartsX_1_range1] at h
      refine blockA_n ?_
      refine thenA_n ?_
      exact ⟨(y6), h, (mor_to (n := 13) (l' := [(2, .ref 3 1 0 0)]) (own' := [.dead, .dead, .dead, (.own 1 [[(.acc 4 44 10 ((y6 : List GParts).map c_GParts))]]), .tok]) [(2, .ref 3 1 0 0)] [0, 1, 2, 3, 4] [.dead, .dead, .dead, (.own 1 [[(.acc 4 44 10 ((y6 : List GParts).map c_GParts))]]), .tok] hφ0 (by kernel_rfl) (by kernel_rfl) (by kernel_rfl) ⟨rfl, .rn (rnq_ref rfl), trivial⟩ ⟨.dead, .dead, .dead, (spw_box ⟨(.rn (rnq_acc rfl (nl_rows nl_GParts _))), trivial⟩), .tok, trivial⟩)⟩

def slices_Collect_steam_PartsX_1 (N : Nat) (p0 : (List Int)) (p1 : (List GRow)) (p2 : Int) (p3 : Int) (p4 : Int) (p5 : Int) : Option (List GParts) :=
  (slices_AppendSeq_steam_Parts_steam_PartsX_1 N p0 p1 p2 p3 p4 p5).bind fun x3 =>
  some x3
set_option maxRecDepth 100000 in
set_option maxHeartbeats 4000000 in
theorem slices_Collect_steam_PartsX_1_ok (N : Nat) (p0 : (List Int)) (p1 : (List GRow)) (p2 : Int) (p3 : Int) (p4 : Int) (p5 : Int) (r : (List GParts)) (h : slices_Collect_steam_PartsX_1 N p0 p1 p2 p3 p4 p5 = some r) : Spec Try.prog 78 [(.fn (.func 93) [] [(.ref 0 1 (0) 0), (.ref 1 1 (0) 0), (.ref 2 4 (0) 0)])] [(.own 1 [[(.dat 1 ((p0 : List Int).map c_i64))]]), (.own 1 [[(.dat 5 ((p1 : List GRow).map c_GRow))]]), (.own 4 [[(I (p2)), (I (p3)), (I (p4)), (I (p5))]])] (.dat 10 ((r : List GParts).map c_GParts)) [.dead, .dead, .dead] := by
  refine spec_of_awp Try.func78 rfl 3 (Nat.le_of_ble_eq_true rfl) (fun X φ0 w0 hφ0 => ?_)
  unfold slices_Collect_steam_PartsX_1 at h
  refine awp_finm ?_
  refine awp_reg [⟨[((.const (.slice none 0 0)), nilS)], [], nilS, [], false⟩] (by exact ⟨by kernel_rfl, by kernel_rfl⟩) ?_ ?_
  · exact ⟨fun _ => astep_assign rfl, trivial⟩
  obtain ⟨x3, hf2, h⟩ := bind_out h
  refine awp_reg [⟨[(.tmp 0, (.fn (.func 93) [] [.ref 0 1 0 0, .ref 1 1 0 0, .ref 2 4 0 0]))], [], (.fn (.func 93) [] [.ref 0 1 0 0, .ref 1 1 0 0, .ref 2 4 0 0]), [], false⟩,
    ⟨[(.func 92, (.fn (.func 92) [] [])), ((.const (.slice none 0 0)), nilS), (.tmp 3, (.fn (.func 93) [] [.ref 0 1 0 0, .ref 1 1 0 0, .ref 2 4 0 0]))], [(0, (.own 1 [[(.dat 1 ((p0 : List Int).map c_i64))]])), (1, (.own 1 [[(.dat 5 ((p1 : List GRow).map c_GRow))]])), (2, .own 4 [[I p2, I p3, I p4, I p5]])], (.dat 10 ((x3 : List GParts).map c_GParts)), [(0, .dead), (1, .dead), (2, .dead)], false⟩,
    ⟨[(.tmp 4, (.dat 10 ((x3 : List GParts).map c_GParts)))], [], (.dat 10 ((x3 : List GParts).map c_GParts)), [], false⟩] (by exact ⟨by kernel_rfl, by kernel_rfl⟩) ?_ ?_
  · exact ⟨fun _ => astep_move rfl,
    fun _ => astep_callq (first := []) (cap := []) (vs := [nilS, (.fn (.func 93) [] [.ref 0 1 0 0, .ref 1 1 0 0, .ref 2 4 0 0])]) (σr := [(.own 1 [[(.dat 1 ((p0 : List Int).map c_i64))]]), (.own 1 [[(.dat 5 ((p1 : List GRow).map c_GRow))]]), (.own 4 [[I p2, I p3, I p4, I p5]])]) (σr' := [.dead, .dead, .dead]) (res' := (.dat 10 ((x3 : List GParts).map c_GParts))) [0, 1, 2] rfl enter92 (slices_AppendSeq_steam_Parts_steam_PartsX_1_ok N p0 p1 p2 p3 p4 p5 _ hf2) rfl (rn_agg (rnl_cons (.plain _ (NLt.lit _)) (rnl_cons (rn_fn rnl_nil (rnl_cons (rnk_ref rfl) (rnl_cons (rnk_ref rfl) (rnl_cons (rnk_ref rfl) rnl_nil)))) rnl_nil))) (slw_cons (srn_box (rnl_cons (.plain _ (nl_dat nl_i64 _)) rnl_nil)) (slw_cons (srn_box (rnl_cons (.plain _ (nl_dat nl_GRow _)) rnl_nil)) (slw_cons (srn_box (rnl_cons (.plain _ (NLt.lit _)) (rnl_cons (.plain _ (NLt.lit _)) (rnl_cons (.plain _ (NLt.lit _)) (rnl_cons (.plain _ (NLt.lit _)) rnl_nil))))) slw_nil))) (slw_cons .dead (slw_cons .dead (slw_cons .dead slw_nil))) (.plain _ (nl_dat nl_GParts _)) rfl rfl rfl,
    fun _ => astep_assign rfl, trivial⟩
  refine awp_mor (mor_to (n := 5) (l' := [(2, (.dat 10 ((x3 : List GParts).map c_GParts)))]) (own' := [.dead, .dead, .dead]) [(2, (.dat 10 ((x3 : List GParts).map c_GParts)))] [0, 1, 2] [.dead, .dead, .dead] hφ0 (by kernel_rfl) (by kernel_rfl) (by kernel_rfl) ⟨rfl, .rn (.plain _ (nl_dat nl_GParts _)), trivial⟩ ⟨.dead, .dead, .dead, trivial⟩) ?_
  refine awp_ret ?_
  obtain rfl := Option.some.inj h
  exact ⟨_, Mor.rfl, fin_of (vs := [(.dat 10 ((x3 : List GParts).map c_GParts))]) ⟨resOK_tmp (by kernel_rfl), trivial⟩ rfl (NLt.of0 (nl_dat nl_GParts _)) (by kernel_rfl) (snl_cons .dead (snl_cons .dead (snl_cons .dead snl_nil)))⟩

def steam_TrainX_loop1 (N : Nat) (p1 : (List Int)) (k5 : Unit → Option ((List GParts) × Int)) : Nat → Int → Option ((List GParts) × Int)
  | 0, _ => none
  | n16 + 1, y14 =>
    bif (decide (y14 < ((p1.drop (1 : Int).toNat).length : Int))) then
      (getI p1 (w64 (y14 + 1))).bind fun x18 =>
      (getI p1 y14).bind fun x22 =>
      bif (decide (x18 ≥ x22)) then
        some ([], 2)
      else
        steam_TrainX_loop1 N p1 k5 n16 (w64 (y14 + 1))
    else
      k5 ()
def steam_TrainX (N : Nat) (p0 : (List GRow)) (p1 : (List Int)) (p2 : GStream) : Option ((List GParts) × Int) :=
  (steam_Table_validX N p0).bind fun x2 =>
  bif (!x2) then
    some ([], 1)
  else
    joinK (fun _ =>
        joinK (fun _ =>
            (steam_Stream_validX N p2).bind fun x7 =>
            bif (!x7) then
              some ([], 1)
            else
              (steam_Table_trainX_1 N p0 p1 p2).bind fun _ =>
              (slices_Collect_steam_PartsX_1 N p1 p0 p2.Mass p2.Heat p2.Silica p2.Gas).bind fun x12 =>
              some (x12, 0)) fun k5 : Unit → Option ((List GParts) × Int) =>
        chk (decide (0 ≤ 1) && decide (1 ≤ (p1.length : Int)) && decide ((p1.length : Int) ≤ (p1.length : Int))) <|
        steam_TrainX_loop1 N p1 k5 N 0) fun k4 : Unit → Option ((List GParts) × Int) =>
    (steam_withinX N (p1.length : Int) 1 20).bind fun x28 =>
    bif (!x28) then
      some ([], 2)
    else
      (steam_all_intX_1 N p1 p0).bind fun x31 =>
      bif (!x31) then
        some ([], 2)
      else
        k4 ()
set_option maxRecDepth 100000 in
set_option maxHeartbeats 4000000 in
theorem steam_TrainX_ok (N : Nat) (p0 : (List GRow)) (p1 : (List Int)) (p2 : GStream) (r : ((List GParts) × Int)) (h : steam_TrainX N p0 p1 p2 = some r) : Spec Try.prog 49 [(.dat 5 (p0.map c_GRow)), (.dat 1 (p1.map c_i64)), (.agg (c_GStream p2))] [] (.tup [(.dat 10 (r.1.map c_GParts)), (I r.2)]) [] := by
  refine spec_of_awp Try.func49 rfl 0 (Nat.le_of_ble_eq_true rfl) (fun X φ0 w0 hφ0 => ?_)
  unfold steam_TrainX at h
  refine awp_reg [⟨[(.tmp 2, (.agg [I p2.Mass, I p2.Heat, I p2.Silica, I p2.Gas]))], [(0, .unused)], .ref 0 4 0 0, [(0, .own 4 [[I p2.Mass, I p2.Heat, I p2.Silica, I p2.Gas]])], false⟩,
    ⟨[((.const (.slice none 0 0)), nilS)], [], nilS, [], false⟩,
    ⟨[(.const (.int .i64 0), I 0)], [], I 0, [], false⟩] (by exact ⟨by kernel_rfl, by kernel_rfl⟩) ?_ ?_
  · exact ⟨fun _ => astep_box rfl (by rfl) rfl rfl,
    fun _ => astep_assign rfl,
    fun _ => astep_assign rfl, trivial⟩
  refine awp_seq ?_
  obtain ⟨x2, hf1, h⟩ := bind_out h
  refine awp_reg [⟨[(.tmp 0, (.dat 5 ((p0 : List GRow).map c_GRow)))], [], (.dat 5 ((p0 : List GRow).map c_GRow)), [], false⟩,
    ⟨[(.func 56, (.fn (.func 56) [] [])), (.tmp 10, (.dat 5 ((p0 : List GRow).map c_GRow)))], [], B x2, [], false⟩,
    ⟨[(.tmp 11, B x2)], [], (B ((!x2))), [], false⟩] (by exact ⟨by kernel_rfl, by kernel_rfl⟩) ?_ ?_
  · exact ⟨fun _ => astep_move rfl,
    fun _ => astep_pcall (first := []) (cap := []) (vs := [(.dat 5 ((p0 : List GRow).map c_GRow))]) rfl enter56 (steam_Table_validX_ok N p0 _ hf1) rfl rfl (nl_cons (nl_dat nl_GRow _) nl_nil) (NLt.lit _) rfl,
    fun _ => astep_not rfl, trivial⟩
  rcases Bool.eq_false_or_eq_true ((!x2)) with hc3 | hc3
  · replace h := bif_t hc3 h
    refine awp_ift hc3 (by kernel_rfl) ?_
    refine awp_reg [⟨[((.const (.slice none 0 0)), nilS)], [], nilS, [], false⟩,
    ⟨[(.const (.int .i64 1), I 1)], [], I 1, [], false⟩] (by exact ⟨by kernel_rfl, by kernel_rfl⟩) ?_ ?_
    · exact ⟨fun _ => astep_assign rfl,
    fun _ => astep_assign rfl, trivial⟩
    refine awp_ret ?_
    refine thenA_r ?_
    obtain rfl := Option.some.inj h
    exact ⟨⟨[(.dat 10 (([] : List GParts).map c_GParts)), I 1], ⟨resOK_less (v := nilS) (resOK_tmp (by kernel_rfl)) Less.nil, resOK_tmp (by kernel_rfl), trivial⟩, rfl⟩, (NLt.tup _ (nl_cons (nl_dat nl_GParts _) (nl_cons (NLt.lit _) nl_nil))), Nat.le_refl _, fun n hn => absurd hn (Nat.not_lt_zero n)⟩
  · replace h := bif_f hc3 h
    refine awp_ifn hc3 (by kernel_rfl) ?_
    refine awp_skip ?_
    refine thenA_n ?_
    refine awp_reg [⟨[(.tmp 0, (.dat 5 ((p0 : List GRow).map c_GRow)))], [], (.dat 5 ((p0 : List GRow).map c_GRow)), [], false⟩,
    ⟨[(.tmp 13, (.dat 5 ((p0 : List GRow).map c_GRow)))], [], (.fn (.func 62) [(.dat 5 ((p0 : List GRow).map c_GRow))] []), [], false⟩,
    ⟨[(.tmp 14, (.fn (.func 62) [(.dat 5 ((p0 : List GRow).map c_GRow))] []))], [], (.fn (.func 62) [(.dat 5 ((p0 : List GRow).map c_GRow))] []), [], false⟩] (by exact ⟨by kernel_rfl, by kernel_rfl⟩) ?_ ?_
    · exact ⟨fun _ => astep_move rfl,
    fun _ => astep_func (fs := [(.dat 5 ((p0 : List GRow).map c_GRow))]) (cs := []) rfl rfl rfl rfl,
    fun _ => astep_assign rfl, trivial⟩
    obtain ⟨k4, hk_k4, h⟩ := joinK_out h
    refine awp_join (τ := Unit) (fun t => k4 t = some r) (fun _ => ⟨mk 50 [(0, (.dat 5 ((p0 : List GRow).map c_GRow))), (1, (.dat 1 ((p1 : List Int).map c_i64))), (5, .ref 0 4 0 0)], [(.own 4 [[I p2.Mass, I p2.Heat, I p2.Silica, I p2.Gas]])]⟩) (fun t h => ?_) ?_
    · subst hk_k4
      obtain ⟨k5, hk_k5, h⟩ := joinK_out h
      refine awp_join (τ := Unit) (fun t => k5 t = some r) (fun _ => ⟨mk 50 [(0, (.dat 5 ((p0 : List GRow).map c_GRow))), (1, (.dat 1 ((p1 : List Int).map c_i64))), (5, .ref 0 4 0 0)], [(.own 4 [[I p2.Mass, I p2.Heat, I p2.Silica, I p2.Gas]])]⟩) (fun t h => ?_) ?_
      · subst hk_k5
        refine awp_seq ?_
        obtain ⟨x7, hf6, h⟩ := bind_out h
        refine awp_reg [⟨[(.tmp 5, .ref 0 4 0 0)], [(0, .own 4 [[I p2.Mass, I p2.Heat, I p2.Silica, I p2.Gas]])], (.agg [I p2.Mass, I p2.Heat, I p2.Silica, I p2.Gas]), [], false⟩,
    ⟨[(.func 63, (.fn (.func 63) [] [])), (.tmp 42, (.agg [I p2.Mass, I p2.Heat, I p2.Silica, I p2.Gas]))], [], B x7, [], false⟩,
    ⟨[(.tmp 43, B x7)], [], (B ((!x7))), [], false⟩] (by exact ⟨by kernel_rfl, by kernel_rfl⟩) ?_ ?_
        · exact ⟨fun _ => astep_load rfl ti42 (by decide) rfl (Nat.le_of_ble_eq_true rfl) rfl,
    fun _ => astep_pcall (first := []) (cap := []) (vs := [(.agg [I p2.Mass, I p2.Heat, I p2.Silica, I p2.Gas])]) rfl enter63 (steam_Stream_validX_ok N p2 _ hf6) rfl rfl (nl_cons (NLt.agg _ (nl_cons (NLt.lit _) (nl_cons (NLt.lit _) (nl_cons (NLt.lit _) (nl_cons (NLt.lit _) nl_nil))))) nl_nil) (NLt.lit _) rfl,
    fun _ => astep_not rfl, trivial⟩
        rcases Bool.eq_false_or_eq_true ((!x7)) with hc8 | hc8
        · replace h := bif_t hc8 h
          refine awp_ift hc8 (by kernel_rfl) ?_
          refine awp_reg [⟨[((.const (.slice none 0 0)), nilS)], [], nilS, [], false⟩,
    ⟨[(.const (.int .i64 1), I 1)], [], I 1, [], false⟩] (by exact ⟨by kernel_rfl, by kernel_rfl⟩) ?_ ?_
          · exact ⟨fun _ => astep_assign rfl,
    fun _ => astep_assign rfl, trivial⟩
          refine awp_ret ?_
          refine thenA_r ?_
          obtain rfl := Option.some.inj h
          exact ⟨⟨[(.dat 10 (([] : List GParts).map c_GParts)), I 1], ⟨resOK_less (v := nilS) (resOK_tmp (by kernel_rfl)) Less.nil, resOK_tmp (by kernel_rfl), trivial⟩, rfl⟩, (NLt.tup _ (nl_cons (nl_dat nl_GParts _) (nl_cons (NLt.lit _) nl_nil))), Nat.le_refl _, fun n hn => absurd hn (Nat.not_lt_zero n)⟩
        · replace h := bif_f hc8 h
          refine awp_ifn hc8 (by kernel_rfl) ?_
          refine awp_skip ?_
          refine thenA_n ?_
          obtain ⟨x10, hf9, h⟩ := bind_out h
          obtain ⟨x12, hf11, h⟩ := bind_out h
          refine awp_reg [⟨[(.tmp 0, (.dat 5 ((p0 : List GRow).map c_GRow)))], [], (.dat 5 ((p0 : List GRow).map c_GRow)), [], false⟩,
    ⟨[(.tmp 1, (.dat 1 ((p1 : List Int).map c_i64)))], [], (.dat 1 ((p1 : List Int).map c_i64)), [], false⟩,
    ⟨[(.tmp 5, .ref 0 4 0 0)], [(0, .own 4 [[I p2.Mass, I p2.Heat, I p2.Silica, I p2.Gas]])], (.agg [I p2.Mass, I p2.Heat, I p2.Silica, I p2.Gas]), [], false⟩,
    ⟨[(.func 79, (.fn (.func 79) [] [])), (.tmp 45, (.dat 5 ((p0 : List GRow).map c_GRow))), (.tmp 46, (.dat 1 ((p1 : List Int).map c_i64))), (.tmp 47, (.agg [I p2.Mass, I p2.Heat, I p2.Silica, I p2.Gas]))], [(1, .unused), (2, .unused), (3, .unused)], (.fn (.func 93) [] [.ref 1 1 0 0, .ref 2 1 0 0, .ref 3 4 0 0]), [(1, (.own 1 [[(.dat 1 ((p1 : List Int).map c_i64))]])), (2, (.own 1 [[(.dat 5 ((p0 : List GRow).map c_GRow))]])), (3, .own 4 [[I p2.Mass, I p2.Heat, I p2.Silica, I p2.Gas]])], false⟩,
    ⟨[(.func 78, (.fn (.func 78) [] [])), (.tmp 48, (.fn (.func 93) [] [.ref 1 1 0 0, .ref 2 1 0 0, .ref 3 4 0 0]))], [(1, (.own 1 [[(.dat 1 ((p1 : List Int).map c_i64))]])), (2, (.own 1 [[(.dat 5 ((p0 : List GRow).map c_GRow))]])), (3, .own 4 [[I p2.Mass, I p2.Heat, I p2.Silica, I p2.Gas]])], (.dat 10 ((x12 : List GParts).map c_GParts)), [(1, .dead), (2, .dead), (3, .dead)], false⟩,
    ⟨[(.tmp 49, (.dat 10 ((x12 : List GParts).map c_GParts)))], [], (.dat 10 ((x12 : List GParts).map c_GParts)), [], false⟩,
    ⟨[(.const (.int .i64 0), I 0)], [], I 0, [], false⟩] (by exact ⟨by kernel_rfl, by kernel_rfl⟩) ?_ ?_
          · exact ⟨fun _ => astep_move rfl,
    fun _ => astep_move rfl,
    fun _ => astep_load rfl ti42 (by decide) rfl (Nat.le_of_ble_eq_true rfl) rfl,
    fun _ => astep_callq (first := []) (cap := []) (vs := [(.dat 5 ((p0 : List GRow).map c_GRow)), (.dat 1 ((p1 : List Int).map c_i64)), (.agg [I p2.Mass, I p2.Heat, I p2.Silica, I p2.Gas])]) (σr := []) (σr' := [(.own 1 [[(.dat 1 ((p1 : List Int).map c_i64))]]), (.own 1 [[(.dat 5 ((p0 : List GRow).map c_GRow))]]), (.own 4 [[I p2.Mass, I p2.Heat, I p2.Silica, I p2.Gas]])]) (res' := (.fn (.func 93) [] [.ref 1 1 0 0, .ref 2 1 0 0, .ref 3 4 0 0])) [1, 2, 3] rfl enter79 (steam_Table_trainX_1_ok N p0 p1 p2 _ hf9) rfl (rn_agg (rnl_cons (.plain _ (nl_dat nl_GRow _)) (rnl_cons (.plain _ (nl_dat nl_i64 _)) (rnl_cons (.plain _ (NLt.agg _ (nl_cons (NLt.lit _) (nl_cons (NLt.lit _) (nl_cons (NLt.lit _) (nl_cons (NLt.lit _) nl_nil)))))) rnl_nil)))) slw_nil (slw_cons (srn_box (rnl_cons (.plain _ (nl_dat nl_i64 _)) rnl_nil)) (slw_cons (srn_box (rnl_cons (.plain _ (nl_dat nl_GRow _)) rnl_nil)) (slw_cons (srn_box (rnl_cons (.plain _ (NLt.lit _)) (rnl_cons (.plain _ (NLt.lit _)) (rnl_cons (.plain _ (NLt.lit _)) (rnl_cons (.plain _ (NLt.lit _)) rnl_nil))))) slw_nil))) (rn_fn rnl_nil (rnl_cons (rnj_ref rfl) (rnl_cons (rnj_ref rfl) (rnl_cons (rnj_ref rfl) rnl_nil)))) rfl rfl rfl,
    fun _ => astep_callq (first := []) (cap := []) (vs := [(.fn (.func 93) [] [.ref 1 1 0 0, .ref 2 1 0 0, .ref 3 4 0 0])]) (σr := [(.own 1 [[(.dat 1 ((p1 : List Int).map c_i64))]]), (.own 1 [[(.dat 5 ((p0 : List GRow).map c_GRow))]]), (.own 4 [[I p2.Mass, I p2.Heat, I p2.Silica, I p2.Gas]])]) (σr' := [.dead, .dead, .dead]) (res' := (.dat 10 ((x12 : List GParts).map c_GParts))) [1, 2, 3] rfl enter78 (slices_Collect_steam_PartsX_1_ok N p1 p0 p2.Mass p2.Heat p2.Silica p2.Gas _ hf11) rfl (rn_agg (rnl_cons (rn_fn rnl_nil (rnl_cons (rnk_ref rfl) (rnl_cons (rnk_ref rfl) (rnl_cons (rnk_ref rfl) rnl_nil)))) rnl_nil)) (slw_cons (srn_box (rnl_cons (.plain _ (nl_dat nl_i64 _)) rnl_nil)) (slw_cons (srn_box (rnl_cons (.plain _ (nl_dat nl_GRow _)) rnl_nil)) (slw_cons (srn_box (rnl_cons (.plain _ (NLt.lit _)) (rnl_cons (.plain _ (NLt.lit _)) (rnl_cons (.plain _ (NLt.lit _)) (rnl_cons (.plain _ (NLt.lit _)) rnl_nil))))) slw_nil))) (slw_cons .dead (slw_cons .dead (slw_cons .dead slw_nil))) (.plain _ (nl_dat nl_GParts _)) rfl rfl rfl,
    fun _ => astep_assign rfl,
    fun _ => astep_assign rfl, trivial⟩
          refine awp_ret ?_
          obtain rfl := Option.some.inj h
          exact ⟨⟨[(.dat 10 ((x12 : List GParts).map c_GParts)), I 0], ⟨resOK_tmp (by kernel_rfl), resOK_tmp (by kernel_rfl), trivial⟩, rfl⟩, (NLt.tup _ (nl_cons (nl_dat nl_GParts _) (nl_cons (NLt.lit _) nl_nil))), Nat.le_refl _, fun n hn => absurd hn (Nat.not_lt_zero n)⟩
      · skip
        obtain ⟨hs13, h⟩ := chk_out h
        refine awp_reg [⟨[(.tmp 1, (.dat 1 ((p1 : List Int).map c_i64)))], [], (.dat 1 ((p1 : List Int).map c_i64)), [], false⟩,
    ⟨[(.tmp 25, (.dat 1 ((p1 : List Int).map c_i64))), (.const (.int .i64 1), I 1)], [], (.dat 1 ((p1.drop (1 : Int).toNat : List Int).map c_i64)), [], false⟩,
    ⟨[(.tmp 26, (.dat 1 ((p1.drop (1 : Int).toNat : List Int).map c_i64)))], [], (I (((p1.drop (1 : Int).toNat).length : Int))), [], false⟩,
    ⟨[(.const (.int .i64 0), I 0)], [], I 0, [], false⟩] (by exact ⟨by kernel_rfl, by kernel_rfl⟩) ?_ ?_
        · exact ⟨fun _ => astep_move rfl,
    fun _ => astep_sliced (k := .i64) (k' := .i64) (lo := some (.const (.int .i64 1))) (hi := none) (l := 1) (hh := ((p1.length : Nat) : Int)) rfl Try.underlying51 ti3 rfl (fun e => nomatch e) (fun _ => by simp) (and3a hs13) (and3b hs13) (and3c (c_i64) hs13) (sl_ln c_i64),
    fun _ => astep_lenm (c := c_i64) (l := p1.drop (1 : Int).toNat) (astep_len rfl Try.underlying51 rfl),
    fun _ => astep_move rfl, trivial⟩
        refine awp_block ?_
        refine awp_mor (mor_to (n := 50) (l' := [(0, (.dat 5 ((p0 : List GRow).map c_GRow))), (1, (.dat 1 ((p1 : List Int).map c_i64))), (5, .ref 0 4 0 0), (27, (I (((p1.drop (1 : Int).toNat).length : Int)))), (28, I 0)]) (own' := [(.own 4 [[I p2.Mass, I p2.Heat, I p2.Silica, I p2.Gas]])]) [(0, (.dat 5 ((p0 : List GRow).map c_GRow))), (1, (.dat 1 ((p1 : List Int).map c_i64))), (5, .ref 0 4 0 0), (27, (I (((p1.drop (1 : Int).toNat).length : Int)))), (28, I 0)] [0] [(.own 4 [[I p2.Mass, I p2.Heat, I p2.Silica, I p2.Gas]])] hφ0 (by kernel_rfl) (by kernel_rfl) (by kernel_rfl) ⟨rfl, .rn (.plain _ (nl_dat nl_GRow _)), rfl, .rn (.plain _ (nl_dat nl_i64 _)), rfl, .rn (rnq_ref rfl), rfl, .rn (.plain _ (NLt.lit _)), rfl, .rn (.plain _ (NLt.lit _)), trivial⟩ ⟨(spw_box ⟨(.rn (.plain _ (NLt.lit _))), (.rn (.plain _ (NLt.lit _))), (.rn (.plain _ (NLt.lit _))), (.rn (.plain _ (NLt.lit _))), trivial⟩), trivial⟩) ?_
        refine awp_ind (τ := Int) (fun n t => steam_TrainX_loop1 N p1 k5 n t = some r) (fun y14 => ⟨mk 50 [(0, (.dat 5 ((p0 : List GRow).map c_GRow))), (1, (.dat 1 ((p1 : List Int).map c_i64))), (5, .ref 0 4 0 0), (27, (I (((p1.drop (1 : Int).toNat).length : Int)))), (28, I y14)], [(.own 4 [[I p2.Mass, I p2.Heat, I p2.Silica, I p2.Gas]])]⟩) (fun t h => by rw [steam_TrainX_loop1] at h; cases h) (fun n16 ih y14 h => ?_) N (0) h
        rw [steam_TrainX_loop1] at h
        skip
        refine awp_reg [⟨[(.tmp 28, I y14), (.tmp 27, (I (((p1.drop (1 : Int).toNat).length : Int))))], [], (B ((decide (y14 < ((p1.drop (1 : Int).toNat).length : Int))))), [], false⟩] (by exact ⟨by kernel_rfl, by kernel_rfl⟩) ?_ ?_
        · exact ⟨fun _ => astep_bin rfl rfl, trivial⟩
        refine awp_seq ?_
        rcases Bool.eq_false_or_eq_true ((decide (y14 < ((p1.drop (1 : Int).toNat).length : Int)))) with hc17 | hc17
        · replace h := bif_t hc17 h
          refine awp_ift hc17 (by kernel_rfl) ?_
          refine awp_skip ?_
          refine thenA_n ?_
          refine awp_seq ?_
          refine awp_block ?_
          refine awp_reg [⟨[(.tmp 28, I y14)], [], I y14, [], false⟩,
    ⟨[(.tmp 30, I y14)], [], I y14, [], false⟩] (by exact ⟨by kernel_rfl, by kernel_rfl⟩) ?_ ?_
          · exact ⟨fun _ => astep_move rfl,
    fun _ => astep_assign rfl, trivial⟩
          obtain ⟨x18, hg19, h⟩ := bind_out h
          obtain ⟨hi20, hj21⟩ := getI_some hg19
          obtain ⟨x22, hg23, h⟩ := bind_out h
          obtain ⟨hi24, hj25⟩ := getI_some hg23
          refine awp_regd [⟨[(.tmp 1, (.dat 1 ((p1 : List Int).map c_i64)))], [], (.dat 1 ((p1 : List Int).map c_i64)), [], false⟩,
    ⟨[(.tmp 9, I y14)], [], I y14, [], false⟩,
    ⟨[(.tmp 32, I y14), (.const (.int .i64 1), I 1)], [], (I (w64 (y14 + 1))), [], false⟩,
    ⟨[(.tmp 31, (.dat 1 ((p1 : List Int).map c_i64))), (.tmp 33, (I (w64 (y14 + 1))))], [], (.dptr (c_i64 (x18)) 0), [], false⟩,
    ⟨[(.tmp 34, (.dptr (c_i64 (x18)) 0))], [], I x18, [], false⟩,
    ⟨[(.tmp 1, (.dat 1 ((p1 : List Int).map c_i64)))], [], (.dat 1 ((p1 : List Int).map c_i64)), [], false⟩,
    ⟨[(.tmp 9, I y14)], [], I y14, [], false⟩,
    ⟨[(.tmp 36, (.dat 1 ((p1 : List Int).map c_i64))), (.tmp 37, I y14)], [], (.dptr (c_i64 (x22)) 0), [], false⟩,
    ⟨[(.tmp 38, (.dptr (c_i64 (x22)) 0))], [], I x22, [], false⟩,
    ⟨[(.tmp 35, I x18), (.tmp 39, I x22)], [], (B ((decide (x18 ≥ x22)))), [], false⟩] (by kernel_rfl) (by exact ⟨by kernel_rfl, by kernel_rfl⟩) (by kernel_rfl) ?_ ?_
          · exact ⟨fun _ => astep_move rfl,
    fun _ => astep_move rfl,
    fun _ => astep_bin rfl rfl,
    fun _ => astep_idxd rfl Try.underlying51 ti3 rfl rfl hi20 (map_get c_i64 hj21) rfl,
    fun _ => astep_loadd rfl ti3 (by decide) (Nat.le_of_ble_eq_true rfl) rfl,
    fun _ => astep_move rfl,
    fun _ => astep_move rfl,
    fun _ => astep_idxd rfl Try.underlying51 ti3 rfl rfl hi24 (map_get c_i64 hj25) rfl,
    fun _ => astep_loadd rfl ti3 (by decide) (Nat.le_of_ble_eq_true rfl) rfl,
    fun _ => astep_bin rfl rfl, trivial⟩
          rcases Bool.eq_false_or_eq_true ((decide (x18 ≥ x22))) with hc26 | hc26
          · replace h := bif_t hc26 h
            refine awp_ift hc26 (by kernel_rfl) ?_
            refine awp_reg [⟨[((.const (.slice none 0 0)), nilS)], [], nilS, [], false⟩,
    ⟨[(.const (.int .i64 2), I 2)], [], I 2, [], false⟩] (by exact ⟨by kernel_rfl, by kernel_rfl⟩) ?_ ?_
            · exact ⟨fun _ => astep_assign rfl,
    fun _ => astep_assign rfl, trivial⟩
            refine awp_ret ?_
            refine blockA_r ?_
            refine thenA_r ?_
            refine thenA_r ?_
            refine blockA_r ?_
            refine thenA_r ?_
            obtain rfl := Option.some.inj h
            exact ⟨⟨[(.dat 10 (([] : List GParts).map c_GParts)), I 2], ⟨resOK_less (v := nilS) (resOK_tmp (by kernel_rfl)) Less.nil, resOK_tmp (by kernel_rfl), trivial⟩, rfl⟩, (NLt.tup _ (nl_cons (nl_dat nl_GParts _) (nl_cons (NLt.lit _) nl_nil))), Nat.le_refl _, fun n hn => absurd hn (Nat.not_lt_zero n)⟩
          · replace h := bif_f hc26 h
            refine awp_ifn hc26 (by kernel_rfl) ?_
            refine awp_skip ?_
            refine blockA_n ?_
            refine thenA_n ?_
            refine awp_reg1 [⟨[(.tmp 28, I y14), (.const (.int .i64 1), I 1)], [], (I (w64 (y14 + 1))), [], false⟩,
    ⟨[(.tmp 41, (I (w64 (y14 + 1))))], [], (I (w64 (y14 + 1))), [], false⟩] (by exact ⟨by kernel_rfl, by kernel_rfl⟩) ?_ ?_
            · exact ⟨fun _ => astep_bin rfl rfl,
    fun _ => astep_move rfl, trivial⟩
            refine thenA_n ?_
            exact around_mor (mor_to (n := 50) (l' := [(0, (.dat 5 ((p0 : List GRow).map c_GRow))), (1, (.dat 1 ((p1 : List Int).map c_i64))), (5, .ref 0 4 0 0), (27, (I (((p1.drop (1 : Int).toNat).length : Int)))), (28, (I ((w64 (y14 + 1)))))]) (own' := [(.own 4 [[I p2.Mass, I p2.Heat, I p2.Silica, I p2.Gas]])]) [(0, (.dat 5 ((p0 : List GRow).map c_GRow))), (1, (.dat 1 ((p1 : List Int).map c_i64))), (5, .ref 0 4 0 0), (27, (I (((p1.drop (1 : Int).toNat).length : Int)))), (28, (I (w64 (y14 + 1))))] [0] [(.own 4 [[I p2.Mass, I p2.Heat, I p2.Silica, I p2.Gas]])] hφ0 (by kernel_rfl) (by kernel_rfl) (by kernel_rfl) ⟨rfl, .rn (.plain _ (nl_dat nl_GRow _)), rfl, .rn (.plain _ (nl_dat nl_i64 _)), rfl, .rn (rnq_ref rfl), rfl, .rn (.plain _ (NLt.lit _)), rfl, .rn (.plain _ (NLt.lit _)), trivial⟩ ⟨(spw_box ⟨(.rn (.plain _ (NLt.lit _))), (.rn (.plain _ (NLt.lit _))), (.rn (.plain _ (NLt.lit _))), (.rn (.plain _ (NLt.lit _))), trivial⟩), trivial⟩) (ih (w64 (y14 + 1)) h)
        · replace h := bif_f hc17 h
          refine awp_ifn hc17 (by kernel_rfl) ?_
          refine awp_exit ?_
          refine thenA_x ?_
          refine thenA_x ?_
          refine blockA_e rfl ?_
          refine thenA_n ?_
          exact ⟨(), h, (mor_to (n := 50) (l' := [(0, (.dat 5 ((p0 : List GRow).map c_GRow))), (1, (.dat 1 ((p1 : List Int).map c_i64))), (5, .ref 0 4 0 0)]) (own' := [(.own 4 [[I p2.Mass, I p2.Heat, I p2.Silica, I p2.Gas]])]) [(0, (.dat 5 ((p0 : List GRow).map c_GRow))), (1, (.dat 1 ((p1 : List Int).map c_i64))), (5, .ref 0 4 0 0)] [0] [(.own 4 [[I p2.Mass, I p2.Heat, I p2.Silica, I p2.Gas]])] hφ0 (by kernel_rfl) (by kernel_rfl) (by kernel_rfl) ⟨rfl, .rn (.plain _ (nl_dat nl_GRow _)), rfl, .rn (.plain _ (nl_dat nl_i64 _)), rfl, .rn (rnq_ref rfl), trivial⟩ ⟨(spw_box ⟨(.rn (.plain _ (NLt.lit _))), (.rn (.plain _ (NLt.lit _))), (.rn (.plain _ (NLt.lit _))), (.rn (.plain _ (NLt.lit _))), trivial⟩), trivial⟩)⟩
    · skip
      obtain ⟨x28, hf27, h⟩ := bind_out h
      rcases Bool.eq_false_or_eq_true ((!x28)) with hb29 | hb29
      · replace h := bif_t hb29 h
        refine awp_reg [⟨[(.tmp 1, (.dat 1 ((p1 : List Int).map c_i64)))], [], (.dat 1 ((p1 : List Int).map c_i64)), [], false⟩,
    ⟨[(.tmp 15, (.dat 1 ((p1 : List Int).map c_i64)))], [], (I ((p1.length : Int))), [], false⟩,
    ⟨[(.func 65, (.fn (.func 65) [] [])), (.tmp 16, (I ((p1.length : Int)))), (.const (.int .i64 1), I 1), (.const (.int .i64 20), I 20)], [], B x28, [], false⟩,
    ⟨[(.tmp 17, B x28)], [], (B ((!x28))), [], false⟩,
    ⟨[(.tmp 18, (B ((!x28))))], [], B true, [], false⟩,
    ⟨[(.tmp 19, B true)], [], (.lit undef), [], true⟩,
    ⟨[(.tmp 19, B true)], [], (.lit undef), [], true⟩,
    ⟨[(.tmp 19, B true)], [], (.lit undef), [], true⟩,
    ⟨[(.tmp 19, B true)], [], (.lit undef), [], true⟩,
    ⟨[(.tmp 19, B true), (.const (.bool true), B true), (.tmp 23, (.lit undef))], [], B true, [], false⟩] (by exact ⟨by kernel_rfl, by kernel_rfl⟩) ?_ ?_
        · exact ⟨fun _ => astep_move rfl,
    fun _ => astep_lenm (c := c_i64) (l := p1) (astep_len rfl Try.underlying51 rfl),
    fun _ => astep_pcall (first := []) (cap := []) (vs := [(I ((p1.length : Int))), I 1, I 20]) rfl enter65 (steam_withinX_ok N (p1.length : Int) 1 20 _ hf27) rfl rfl (nl_cons (NLt.lit _) (nl_cons (NLt.lit _) (nl_cons (NLt.lit _) nl_nil))) (NLt.lit _) rfl,
    fun _ => astep_not rfl,
    fun _ => astep_b hb29 (astep_move rfl),
    fun hs => (Bool.noConfusion hs),
    fun hs => (Bool.noConfusion hs),
    fun hs => (Bool.noConfusion hs),
    fun hs => (Bool.noConfusion hs),
    fun _ => astep_pick rfl rfl, trivial⟩
        refine awp_true (by kernel_rfl) ?_
        refine awp_reg [⟨[((.const (.slice none 0 0)), nilS)], [], nilS, [], false⟩,
    ⟨[(.const (.int .i64 2), I 2)], [], I 2, [], false⟩] (by exact ⟨by kernel_rfl, by kernel_rfl⟩) ?_ ?_
        · exact ⟨fun _ => astep_assign rfl,
    fun _ => astep_assign rfl, trivial⟩
        refine awp_ret ?_
        refine thenA_r ?_
        obtain rfl := Option.some.inj h
        exact ⟨⟨[(.dat 10 (([] : List GParts).map c_GParts)), I 2], ⟨resOK_less (v := nilS) (resOK_tmp (by kernel_rfl)) Less.nil, resOK_tmp (by kernel_rfl), trivial⟩, rfl⟩, (NLt.tup _ (nl_cons (nl_dat nl_GParts _) (nl_cons (NLt.lit _) nl_nil))), Nat.le_refl _, fun n hn => absurd hn (Nat.not_lt_zero n)⟩
      · replace h := bif_f hb29 h
        obtain ⟨x31, hf30, h⟩ := bind_out h
        refine awp_reg [⟨[(.tmp 1, (.dat 1 ((p1 : List Int).map c_i64)))], [], (.dat 1 ((p1 : List Int).map c_i64)), [], false⟩,
    ⟨[(.tmp 15, (.dat 1 ((p1 : List Int).map c_i64)))], [], (I ((p1.length : Int))), [], false⟩,
    ⟨[(.func 65, (.fn (.func 65) [] [])), (.tmp 16, (I ((p1.length : Int)))), (.const (.int .i64 1), I 1), (.const (.int .i64 20), I 20)], [], B x28, [], false⟩,
    ⟨[(.tmp 17, B x28)], [], (B ((!x28))), [], false⟩,
    ⟨[(.tmp 18, (B ((!x28))))], [], B false, [], false⟩,
    ⟨[(.tmp 19, B false), (.tmp 1, (.dat 1 ((p1 : List Int).map c_i64)))], [], (.dat 1 ((p1 : List Int).map c_i64)), [], false⟩,
    ⟨[(.tmp 19, B false), (.tmp 8, (.fn (.func 62) [(.dat 5 ((p0 : List GRow).map c_GRow))] []))], [], (.fn (.func 62) [(.dat 5 ((p0 : List GRow).map c_GRow))] []), [], false⟩,
    ⟨[(.tmp 19, B false), (.func 66, (.fn (.func 66) [] [])), (.tmp 20, (.dat 1 ((p1 : List Int).map c_i64))), (.tmp 21, (.fn (.func 62) [(.dat 5 ((p0 : List GRow).map c_GRow))] []))], [], B x31, [], false⟩,
    ⟨[(.tmp 19, B false), (.tmp 22, B x31)], [], (B ((!x31))), [], false⟩,
    ⟨[(.tmp 19, B false), (.const (.bool true), B true), (.tmp 23, (B ((!x31))))], [], (B ((!x31))), [], false⟩] (by exact ⟨by kernel_rfl, by kernel_rfl⟩) ?_ ?_
        · exact ⟨fun _ => astep_move rfl,
    fun _ => astep_lenm (c := c_i64) (l := p1) (astep_len rfl Try.underlying51 rfl),
    fun _ => astep_pcall (first := []) (cap := []) (vs := [(I ((p1.length : Int))), I 1, I 20]) rfl enter65 (steam_withinX_ok N (p1.length : Int) 1 20 _ hf27) rfl rfl (nl_cons (NLt.lit _) (nl_cons (NLt.lit _) (nl_cons (NLt.lit _) nl_nil))) (NLt.lit _) rfl,
    fun _ => astep_not rfl,
    fun _ => astep_b hb29 (astep_move rfl),
    fun _ => astep_guard (astep_move rfl),
    fun _ => astep_guard (astep_move rfl),
    fun _ => astep_guard (astep_callq (first := []) (cap := []) (vs := [(.dat 1 ((p1 : List Int).map c_i64)), (.fn (.func 62) [(.dat 5 ((p0 : List GRow).map c_GRow))] [])]) (σr := []) (σr' := []) (res' := (B x31)) [] rfl enter66 (steam_all_intX_1_ok N p1 p0 _ hf30) rfl (rn_agg (rnl_cons (.plain _ (nl_dat nl_i64 _)) (rnl_cons (.plain _ (NLt.fn _ _ _ (nl_cons (nl_dat nl_GRow _) nl_nil) nl_nil)) rnl_nil))) slw_nil slw_nil (.plain _ (NLt.lit _)) rfl rfl rfl),
    fun _ => astep_guard (astep_not rfl),
    fun _ => astep_pick rfl rfl, trivial⟩
        rcases Bool.eq_false_or_eq_true ((!x31)) with hc32 | hc32
        · replace h := bif_t hc32 h
          refine awp_ift hc32 (by kernel_rfl) ?_
          refine awp_reg [⟨[((.const (.slice none 0 0)), nilS)], [], nilS, [], false⟩,
    ⟨[(.const (.int .i64 2), I 2)], [], I 2, [], false⟩] (by exact ⟨by kernel_rfl, by kernel_rfl⟩) ?_ ?_
          · exact ⟨fun _ => astep_assign rfl,
    fun _ => astep_assign rfl, trivial⟩
          refine awp_ret ?_
          refine thenA_r ?_
          obtain rfl := Option.some.inj h
          exact ⟨⟨[(.dat 10 (([] : List GParts).map c_GParts)), I 2], ⟨resOK_less (v := nilS) (resOK_tmp (by kernel_rfl)) Less.nil, resOK_tmp (by kernel_rfl), trivial⟩, rfl⟩, (NLt.tup _ (nl_cons (nl_dat nl_GParts _) (nl_cons (NLt.lit _) nl_nil))), Nat.le_refl _, fun n hn => absurd hn (Nat.not_lt_zero n)⟩
        · replace h := bif_f hc32 h
          refine awp_ifn hc32 (by kernel_rfl) ?_
          refine awp_skip ?_
          refine thenA_n ?_
          exact ⟨(), h, (mor_to (n := 50) (l' := [(0, (.dat 5 ((p0 : List GRow).map c_GRow))), (1, (.dat 1 ((p1 : List Int).map c_i64))), (5, .ref 0 4 0 0)]) (own' := [(.own 4 [[I p2.Mass, I p2.Heat, I p2.Silica, I p2.Gas]])]) [(0, (.dat 5 ((p0 : List GRow).map c_GRow))), (1, (.dat 1 ((p1 : List Int).map c_i64))), (5, .ref 0 4 0 0)] [0] [(.own 4 [[I p2.Mass, I p2.Heat, I p2.Silica, I p2.Gas]])] hφ0 (by kernel_rfl) (by kernel_rfl) (by kernel_rfl) ⟨rfl, .rn (.plain _ (nl_dat nl_GRow _)), rfl, .rn (.plain _ (nl_dat nl_i64 _)), rfl, .rn (rnq_ref rfl), trivial⟩ ⟨(spw_box ⟨(.rn (.plain _ (NLt.lit _))), (.rn (.plain _ (NLt.lit _))), (.rn (.plain _ (NLt.lit _))), (.rn (.plain _ (NLt.lit _))), trivial⟩), trivial⟩)⟩

def slices_Backward_steam_Table_steam_RowX_1 (_N : Nat) (_p0 : (List GRow)) : Option Unit :=
  some ()
set_option maxRecDepth 100000 in
set_option maxHeartbeats 4000000 in
theorem slices_Backward_steam_Table_steam_RowX_1_ok (N : Nat) (p0 : (List GRow)) (r : Unit) (h : slices_Backward_steam_Table_steam_RowX_1 N p0 = some r) : Spec Try.prog 77 [(.dat 5 ((p0 : List GRow).map c_GRow))] [] (.fn (.func 91) [] [(.ref 0 1 (0) 0)]) [(.own 1 [[(.dat 5 ((p0 : List GRow).map c_GRow))]])] := by
  refine spec_of_awp Try.func77 rfl 1 (Nat.le_of_ble_eq_true rfl) (fun X φ0 w0 hφ0 => ?_)
  unfold slices_Backward_steam_Table_steam_RowX_1 at h
  refine awp_finm ?_
  refine awp_reg [⟨[(.tmp 0, (.dat 5 ((p0 : List GRow).map c_GRow)))], [(0, .unused)], .ref 0 1 0 0, [(0, (.own 1 [[(.dat 5 ((p0 : List GRow).map c_GRow))]]))], false⟩,
    ⟨[(.const .nilFunc, (.lit .nilFunc))], [], (.lit .nilFunc), [], false⟩] (by exact ⟨by kernel_rfl, by kernel_rfl⟩) ?_ ?_
  · exact ⟨fun _ => astep_box rfl (by rfl) rfl rfl,
    fun _ => astep_assign rfl, trivial⟩
  refine awp_reg [⟨[(.tmp 1, .ref 0 1 0 0)], [], (.fn (.func 91) [] [.ref 0 1 0 0]), [], false⟩,
    ⟨[(.tmp 3, (.fn (.func 91) [] [.ref 0 1 0 0]))], [], (.fn (.func 91) [] [.ref 0 1 0 0]), [], false⟩] (by exact ⟨by kernel_rfl, by kernel_rfl⟩) ?_ ?_
  · exact ⟨fun _ => astep_func (fs := []) (cs := [.ref 0 1 0 0]) rfl rfl rfl rfl,
    fun _ => astep_assign rfl, trivial⟩
  refine awp_mor (mor_to (n := 4) (l' := [(2, (.fn (.func 91) [] [.ref 0 1 0 0]))]) (own' := [(.own 1 [[(.dat 5 ((p0 : List GRow).map c_GRow))]])]) [(2, (.fn (.func 91) [] [.ref 0 1 0 0]))] [0] [(.own 1 [[(.dat 5 ((p0 : List GRow).map c_GRow))]])] hφ0 (by kernel_rfl) (by kernel_rfl) (by kernel_rfl) ⟨rfl, .rn (rn_fn rnl_nil (rnl_cons (rnq_ref rfl) rnl_nil)), trivial⟩ ⟨(spw_box ⟨(.rn (.plain _ (nl_dat nl_GRow _))), trivial⟩), trivial⟩) ?_
  refine awp_ret ?_
  obtain rfl := Option.some.inj h
  exact ⟨_, Mor.rfl, fin_of (vs := [(.fn (.func 91) [] [.ref 0 1 0 0])]) ⟨resOK_tmp (by kernel_rfl), trivial⟩ rfl (NLt.fn _ _ _ nl_nil (nl_cons (NLt.ref _ _ _ _ (by decide)) nl_nil)) (by kernel_rfl) (snl_cons (snl_box (nl_cons (NLt.of0 (nl_dat nl_GRow _)) nl_nil)) snl_nil)⟩

def slices_Backward_steam_Table_steam_Row_1S_loop1 (N : Nat) (p0 : (List GRow)) : Nat → Int → Option (List (Int × GRow))
  | 0, _ => none
  | n7 + 1, y3 =>
    bif (decide (y3 ≥ 0)) then
      (getI p0 y3).bind fun x9 =>
      yld (y3, x9) <|
      slices_Backward_steam_Table_steam_Row_1S_loop1 N p0 n7 (w64 (y3 - 1))
    else
      some ([])
def slices_Backward_steam_Table_steam_Row_1S (N : Nat) (p0 : (List GRow)) : Option (List (Int × GRow)) :=
  (some (w64 ((p0.length : Int) - 1))).bind fun x1 =>
  slices_Backward_steam_Table_steam_Row_1S_loop1 N p0 N x1
set_option maxRecDepth 100000 in
set_option maxHeartbeats 4000000 in
theorem slices_Backward_steam_Table_steam_Row_1S_ok (N : Nat) (p0 : (List GRow)) (r : (List (Int × GRow))) (h : slices_Backward_steam_Table_steam_Row_1S N p0 = some r) : SeqSpec Try.prog 91 [(.ref 0 1 (0) 0)] [(.own 1 [[(.dat 5 ((p0 : List GRow).map c_GRow))]])] (fun x => [(.int .i64 (x.1)), (.agg #[(.int .i64 (x.2.T)), (.int .i64 (x.2.P)), (.int .i64 (x.2.Liquid)), (.int .i64 (x.2.Vapour)), (.int .i64 (x.2.Silica))])]) r := by
  refine seq_of_awp Try.func91 rfl rfl (fun X φ0 w0 l J hφ0 hy => ?_)
  unfold slices_Backward_steam_Table_steam_Row_1S at h
  obtain ⟨x1, hl2, h⟩ := bind_out h
  refine awp_reg [⟨[(.tmp 1, .ref 0 1 0 0)], [(0, (.own 1 [[(.dat 5 ((p0 : List GRow).map c_GRow))]]))], (.dat 5 ((p0 : List GRow).map c_GRow)), [], false⟩,
    ⟨[(.tmp 4, (.dat 5 ((p0 : List GRow).map c_GRow)))], [], (I ((p0.length : Int))), [], false⟩,
    ⟨[(.tmp 5, (I ((p0.length : Int)))), (.const (.int .i64 1), I 1)], [], (I (w64 ((p0.length : Int) - 1))), [], false⟩,
    ⟨[(.tmp 6, (I (w64 ((p0.length : Int) - 1))))], [], I x1, [], false⟩] (by exact ⟨by kernel_rfl, by kernel_rfl⟩) ?_ ?_
  · exact ⟨fun _ => astep_load rfl ti30 (by decide) rfl (Nat.le_of_ble_eq_true rfl) rfl,
    fun _ => astep_lenm (c := c_GRow) (l := p0) (astep_len rfl Try.underlying30 rfl),
    fun _ => astep_bin rfl rfl,
    fun _ => astep_i hl2 (astep_assign rfl), trivial⟩
  refine awp_block ?_
  refine awp_mor (mor_to (n := 19) (l' := [(0, (.lit (.func (.yield l) #[] #[]))), (1, .ref 0 1 0 0), (3, I x1)]) (own' := [(.own 1 [[(.dat 5 ((p0 : List GRow).map c_GRow))]]), (.far (J (some (r))))]) [(0, (.lit (.func (.yield l) #[] #[]))), (1, .ref 0 1 0 0), (3, I x1)] [0, 1] [(.own 1 [[(.dat 5 ((p0 : List GRow).map c_GRow))]]), (.far (J (some (r))))] hφ0 (by kernel_rfl) (by kernel_rfl) (by kernel_rfl) ⟨rfl, .rn (.plain _ (NLt.lit _)), rfl, .rn (rnq_ref rfl), rfl, .rn (.plain _ (NLt.lit _)), trivial⟩ ⟨(spw_box ⟨(.rn (.plain _ (nl_dat nl_GRow _))), trivial⟩), .far _, trivial⟩) ?_
  refine awp_ind (τ := (Int) × List (Int × GRow)) (fun n t => slices_Backward_steam_Table_steam_Row_1S_loop1 N p0 n t.1 = some t.2) (fun ⟨y3, q4⟩ => ⟨mk 19 [(0, (.lit (.func (.yield l) #[] #[]))), (1, .ref 0 1 0 0), (3, I y3)], [(.own 1 [[(.dat 5 ((p0 : List GRow).map c_GRow))]]), (.far (J (some (q4))))]⟩) (fun t h => by rw [slices_Backward_steam_Table_steam_Row_1S_loop1] at h; cases h) (fun n7 ih t h => ?_) N ((x1), r) h
  obtain ⟨y3, q4⟩ := t
  rw [slices_Backward_steam_Table_steam_Row_1S_loop1] at h
  try dsimp only at h
  refine awp_seq ?_
  refine awp_reg [⟨[(.tmp 3, I y3)], [], I y3, [], false⟩,
    ⟨[(.tmp 7, I y3), (.const (.int .i64 0), I 0)], [], (B ((decide (y3 ≥ 0)))), [], false⟩] (by exact ⟨by kernel_rfl, by kernel_rfl⟩) ?_ ?_
  · exact ⟨fun _ => astep_move rfl,
    fun _ => astep_bin rfl rfl, trivial⟩
  rcases Bool.eq_false_or_eq_true ((decide (y3 ≥ 0))) with hc8 | hc8
  · replace h := bif_t hc8 h
    refine awp_ift hc8 (by kernel_rfl) ?_
    refine awp_skip ?_
    refine thenA_n ?_
    refine awp_seq ?_
    refine awp_block ?_
    obtain ⟨x9, hg10, h⟩ := bind_out h
    obtain ⟨hi11, hj12⟩ := getI_some hg10
    obtain ⟨q13, hy_, hq_⟩ := yld_out h
    clear h
    subst hq_
    have h := hy_
    clear hy_
    refine awp_regy 6 [⟨[(.tmp 0, (.lit (.func (.yield l) #[] #[])))], [], (.lit (.func (.yield l) #[] #[])), [], false⟩,
    ⟨[(.tmp 3, I y3)], [], I y3, [], false⟩,
    ⟨[(.tmp 1, .ref 0 1 0 0)], [(0, (.own 1 [[(.dat 5 ((p0 : List GRow).map c_GRow))]]))], (.dat 5 ((p0 : List GRow).map c_GRow)), [], false⟩,
    ⟨[(.tmp 3, I y3)], [], I y3, [], false⟩,
    ⟨[(.tmp 13, (.dat 5 ((p0 : List GRow).map c_GRow))), (.tmp 14, I y3)], [], (.dptr (c_GRow (x9)) 0), [], false⟩,
    ⟨[(.tmp 15, (.dptr (c_GRow (x9)) 0))], [], (.agg [I x9.T, I x9.P, I x9.Liquid, I x9.Vapour, I x9.Silica]), [], false⟩,
    ⟨[(.tmp 11, (.lit (.func (.yield l) #[] #[]))), (.tmp 12, I y3), (.tmp 16, (.agg [I x9.T, I x9.P, I x9.Liquid, I x9.Vapour, I x9.Silica]))], [(1, (.far (J (some ((y3, x9) :: q13)))))], B true, [(1, (.far (J (some (q13)))))], false⟩,
    ⟨[(.tmp 17, B true)], [], B false, [], false⟩] [⟨[(.tmp 0, (.lit (.func (.yield l) #[] #[])))], [], (.lit (.func (.yield l) #[] #[])), [], false⟩,
    ⟨[(.tmp 3, I y3)], [], I y3, [], false⟩,
    ⟨[(.tmp 1, .ref 0 1 0 0)], [(0, (.own 1 [[(.dat 5 ((p0 : List GRow).map c_GRow))]]))], (.dat 5 ((p0 : List GRow).map c_GRow)), [], false⟩,
    ⟨[(.tmp 3, I y3)], [], I y3, [], false⟩,
    ⟨[(.tmp 13, (.dat 5 ((p0 : List GRow).map c_GRow))), (.tmp 14, I y3)], [], (.dptr (c_GRow (x9)) 0), [], false⟩,
    ⟨[(.tmp 15, (.dptr (c_GRow (x9)) 0))], [], (.agg [I x9.T, I x9.P, I x9.Liquid, I x9.Vapour, I x9.Silica]), [], false⟩,
    ⟨[(.tmp 11, (.lit (.func (.yield l) #[] #[]))), (.tmp 12, I y3), (.tmp 16, (.agg [I x9.T, I x9.P, I x9.Liquid, I x9.Vapour, I x9.Silica]))], [(1, (.far (J (some ((y3, x9) :: q13)))))], B false, [(1, (.far (J none)))], false⟩,
    ⟨[(.tmp 17, B false)], [], B true, [], false⟩] (by exact ⟨by kernel_rfl, by kernel_rfl⟩) (by exact ⟨by kernel_rfl, by kernel_rfl⟩) rfl rfl rfl rfl (astep2_weak (rd' := (.tmp 11, .lit (.func (.yield l) #[] #[])) :: [(.tmp 12, .lit (.int .i64 (y3))), (.tmp 16, .lit (.agg #[(.int .i64 (x9.T)), (.int .i64 (x9.P)), (.int .i64 (x9.Liquid)), (.int .i64 (x9.Vapour)), (.int .i64 (x9.Silica))]))]) ⟨rfl, Less.rfl, rfl, Less.rfl, rfl, (Less.lits [(.int .i64 (x9.T)), (.int .i64 (x9.P)), (.int .i64 (x9.Liquid)), (.int .i64 (x9.Vapour)), (.int .i64 (x9.Silica))]), trivial⟩ (astep_yieldq (x := (y3, x9)) (rest := q13) rfl rfl hy rfl)) (⟨fun _ _ => astep_move rfl, fun _ _ => astep_move rfl, fun _ _ => astep_load rfl ti30 (by decide) rfl (Nat.le_of_ble_eq_true rfl) rfl, fun _ _ => astep_move rfl, fun _ _ => astep_idxd rfl Try.underlying30 ti115 rfl rfl hi11 (map_get c_GRow hj12) rfl, fun _ _ => astep_loadd rfl ti115 (by decide) (Nat.le_of_ble_eq_true rfl) rfl, fun _ h => absurd rfl h, fun _ _ => astep_not rfl, trivial⟩) (⟨fun _ _ => astep_move rfl, fun _ _ => astep_move rfl, fun _ _ => astep_load rfl ti30 (by decide) rfl (Nat.le_of_ble_eq_true rfl) rfl, fun _ _ => astep_move rfl, fun _ _ => astep_idxd rfl Try.underlying30 ti115 rfl rfl hi11 (map_get c_GRow hj12) rfl, fun _ _ => astep_loadd rfl ti115 (by decide) (Nat.le_of_ble_eq_true rfl) rfl, fun _ h => absurd rfl h, fun _ _ => astep_not rfl, trivial⟩) ?_ ?_
    · skip
      refine awp_false (by kernel_rfl) ?_
      refine awp_skip ?_
      refine blockA_n ?_
      refine thenA_n ?_
      refine awp_reg1 [⟨[(.tmp 3, I y3)], [], I y3, [], false⟩,
    ⟨[(.tmp 9, I y3), (.const (.int .i64 1), I 1)], [], (I (w64 (y3 - 1))), [], false⟩,
    ⟨[(.tmp 10, (I (w64 (y3 - 1))))], [], (I (w64 (y3 - 1))), [], false⟩] (by exact ⟨by kernel_rfl, by kernel_rfl⟩) ?_ ?_
      · exact ⟨fun _ => astep_move rfl,
    fun _ => astep_bin rfl rfl,
    fun _ => astep_assign rfl, trivial⟩
      refine thenA_n ?_
      exact around_mor (mor_to (n := 19) (l' := [(0, (.lit (.func (.yield l) #[] #[]))), (1, .ref 0 1 0 0), (3, (I ((w64 (y3 - 1)))))]) (own' := [(.own 1 [[(.dat 5 ((p0 : List GRow).map c_GRow))]]), (.far (J (some (q13))))]) [(0, (.lit (.func (.yield l) #[] #[]))), (1, .ref 0 1 0 0), (3, (I (w64 (y3 - 1))))] [0, 1] [(.own 1 [[(.dat 5 ((p0 : List GRow).map c_GRow))]]), (.far (J (some (q13))))] hφ0 (by kernel_rfl) (by kernel_rfl) (by kernel_rfl) ⟨rfl, .rn (.plain _ (NLt.lit _)), rfl, .rn (rnq_ref rfl), rfl, .rn (.plain _ (NLt.lit _)), trivial⟩ ⟨(spw_box ⟨(.rn (.plain _ (nl_dat nl_GRow _))), trivial⟩), .far _, trivial⟩) (ih ((w64 (y3 - 1)), q13) h)
    · clear h
      refine awp_true (by kernel_rfl) ?_
      refine awp_ret ?_
      refine blockA_r ?_
      refine thenA_r ?_
      refine thenA_r ?_
      refine blockA_r ?_
      exact Or.inr rfl
  · replace h := bif_f hc8 h
    refine awp_ifn hc8 (by kernel_rfl) ?_
    refine awp_exit ?_
    refine thenA_x ?_
    refine thenA_x ?_
    refine blockA_e rfl ?_
    obtain rfl := Option.some.inj h
    exact Or.inl rfl

def steam_AtX_range1 (N : Nat) (p1 : Int) (k4 : Unit → Option (Int × Int)) : (List (Int × GRow)) → Option (Int × Int)
  | [] =>
    k4 ()
  | x10 :: q11 =>
    bif (decide (x10.2.P ≤ p1)) then
      some (x10.1, 0)
    else
      steam_AtX_range1 N p1 k4 q11
def steam_AtX (N : Nat) (p0 : (List GRow)) (p1 : Int) : Option (Int × Int) :=
  (steam_Table_validX N p0).bind fun x2 =>
  bif (!x2) then
    some (0, 1)
  else
    joinK (fun _ =>
        some (0, 7)) fun k4 : Unit → Option (Int × Int) =>
    (slices_Backward_steam_Table_steam_RowX_1 N p0).bind fun _ =>
    (slices_Backward_steam_Table_steam_Row_1S N p0).bind fun q7 =>
    steam_AtX_range1 N p1 k4 q7
set_option maxRecDepth 100000 in
set_option maxHeartbeats 4000000 in
theorem steam_AtX_ok (N : Nat) (p0 : (List GRow)) (p1 : Int) (r : (Int × Int)) (h : steam_AtX N p0 p1 = some r) : Spec Try.prog 42 [(.dat 5 (p0.map c_GRow)), (I p1)] [] (.tup [(I r.1), (I r.2)]) [] := by
  refine spec_of_awp Try.func42 rfl 0 (Nat.le_of_ble_eq_true rfl) (fun X φ0 w0 hφ0 => ?_)
  unfold steam_AtX at h
  refine awp_reg [⟨[(.tmp 1, I p1)], [(0, .unused)], .ref 0 1 0 0, [(0, .own 1 [[I p1]])], false⟩,
    ⟨[], [(1, .unused)], .ref 1 1 0 0, [(1, .own 1 [[I 0]])], false⟩,
    ⟨[], [(2, .unused)], .ref 2 1 0 0, [(2, .own 1 [[I 0]])], false⟩] (by exact ⟨by kernel_rfl, by kernel_rfl⟩) ?_ ?_
  · exact ⟨fun _ => astep_box rfl (by rfl) rfl rfl,
    fun _ => astep_alloc rfl tz3 rfl,
    fun _ => astep_alloc rfl tz26 rfl, trivial⟩
  refine awp_seq ?_
  obtain ⟨x2, hf1, h⟩ := bind_out h
  refine awp_reg [⟨[(.tmp 0, (.dat 5 ((p0 : List GRow).map c_GRow)))], [], (.dat 5 ((p0 : List GRow).map c_GRow)), [], false⟩,
    ⟨[(.func 56, (.fn (.func 56) [] [])), (.tmp 8, (.dat 5 ((p0 : List GRow).map c_GRow)))], [], B x2, [], false⟩,
    ⟨[(.tmp 9, B x2)], [], (B ((!x2))), [], false⟩] (by exact ⟨by kernel_rfl, by kernel_rfl⟩) ?_ ?_
  · exact ⟨fun _ => astep_move rfl,
    fun _ => astep_pcall (first := []) (cap := []) (vs := [(.dat 5 ((p0 : List GRow).map c_GRow))]) rfl enter56 (steam_Table_validX_ok N p0 _ hf1) rfl rfl (nl_cons (nl_dat nl_GRow _) nl_nil) (NLt.lit _) rfl,
    fun _ => astep_not rfl, trivial⟩
  rcases Bool.eq_false_or_eq_true ((!x2)) with hc3 | hc3
  · replace h := bif_t hc3 h
    refine awp_ift hc3 (by kernel_rfl) ?_
    refine awp_reg [⟨[(.tmp 4, .ref 1 1 0 0), (.const (.int .i64 0), I 0)], [(1, .own 1 [[I 0]])], .any, [(1, .own 1 [[I 0]])], false⟩,
    ⟨[(.tmp 5, .ref 2 1 0 0), (.const (.int .i64 1), I 1)], [(2, .own 1 [[I 0]])], .any, [(2, .own 1 [[I 1]])], false⟩] (by exact ⟨by kernel_rfl, by kernel_rfl⟩) ?_ ?_
    · exact ⟨fun _ => astep_store rfl ti3 (by rfl) rfl (Nat.le_of_ble_eq_true rfl) rfl,
    fun _ => astep_store rfl ti26 (by rfl) rfl (Nat.le_of_ble_eq_true rfl) rfl, trivial⟩
    refine awp_ret ?_
    refine thenA_r ?_
    obtain rfl := Option.some.inj h
    exact ⟨⟨[I 0, I 1], ⟨resOK_cell (n := 1) (m := 1) (j := 0) (i := 0) (xs := [[I 0]]) (by kernel_rfl) (by kernel_rfl) ti3 (by decide) rfl (Nat.le_of_ble_eq_true rfl) rfl, resOK_cell (n := 2) (m := 1) (j := 0) (i := 0) (xs := [[I 1]]) (by kernel_rfl) (by kernel_rfl) ti26 (by decide) rfl (Nat.le_of_ble_eq_true rfl) rfl, trivial⟩, rfl⟩, (NLt.tup _ (nl_cons (NLt.lit _) (nl_cons (NLt.lit _) nl_nil))), Nat.le_refl _, fun n hn => absurd hn (Nat.not_lt_zero n)⟩
  · replace h := bif_f hc3 h
    refine awp_ifn hc3 (by kernel_rfl) ?_
    refine awp_skip ?_
    refine thenA_n ?_
    obtain ⟨k4, hk_k4, h⟩ := joinK_out h
    refine awp_join (τ := Unit) (fun t => k4 t = some r) (fun _ => ⟨mk 20 [(4, .ref 0 1 0 0), (5, .ref 1 1 0 0)], [(.own 1 [[I 0]]), (.own 1 [[I 0]])]⟩) (fun t h => ?_) ?_
    · subst hk_k4
      refine awp_reg [⟨[(.tmp 4, .ref 0 1 0 0), (.const (.int .i64 0), I 0)], [(0, .own 1 [[I 0]])], .any, [(0, .own 1 [[I 0]])], false⟩,
    ⟨[(.tmp 5, .ref 1 1 0 0), (.const (.int .i64 7), I 7)], [(1, .own 1 [[I 0]])], .any, [(1, .own 1 [[I 7]])], false⟩] (by exact ⟨by kernel_rfl, by kernel_rfl⟩) ?_ ?_
      · exact ⟨fun _ => astep_store rfl ti3 (by rfl) rfl (Nat.le_of_ble_eq_true rfl) rfl,
    fun _ => astep_store rfl ti26 (by rfl) rfl (Nat.le_of_ble_eq_true rfl) rfl, trivial⟩
      refine awp_ret ?_
      obtain rfl := Option.some.inj h
      exact ⟨⟨[I 0, I 7], ⟨resOK_cell (n := 0) (m := 1) (j := 0) (i := 0) (xs := [[I 0]]) (by kernel_rfl) (by kernel_rfl) ti3 (by decide) rfl (Nat.le_of_ble_eq_true rfl) rfl, resOK_cell (n := 1) (m := 1) (j := 0) (i := 0) (xs := [[I 7]]) (by kernel_rfl) (by kernel_rfl) ti26 (by decide) rfl (Nat.le_of_ble_eq_true rfl) rfl, trivial⟩, rfl⟩, (NLt.tup _ (nl_cons (NLt.lit _) (nl_cons (NLt.lit _) nl_nil))), Nat.le_refl _, fun n hn => absurd hn (Nat.not_lt_zero n)⟩
    · skip
      obtain ⟨x6, hf5, h⟩ := bind_out h
      refine awp_reg [⟨[(.tmp 0, (.dat 5 ((p0 : List GRow).map c_GRow)))], [], (.dat 5 ((p0 : List GRow).map c_GRow)), [], false⟩,
    ⟨[(.func 77, (.fn (.func 77) [] [])), (.tmp 11, (.dat 5 ((p0 : List GRow).map c_GRow)))], [(3, .unused)], (.fn (.func 91) [] [.ref 3 1 0 0]), [(3, (.own 1 [[(.dat 5 ((p0 : List GRow).map c_GRow))]]))], false⟩] (by exact ⟨by kernel_rfl, by kernel_rfl⟩) ?_ ?_
      · exact ⟨fun _ => astep_move rfl,
    fun _ => astep_callq (first := []) (cap := []) (vs := [(.dat 5 ((p0 : List GRow).map c_GRow))]) (σr := []) (σr' := [(.own 1 [[(.dat 5 ((p0 : List GRow).map c_GRow))]])]) (res' := (.fn (.func 91) [] [.ref 3 1 0 0])) [3] rfl enter77 (slices_Backward_steam_Table_steam_RowX_1_ok N p0 _ hf5) rfl (rn_agg (rnl_cons (.plain _ (nl_dat nl_GRow _)) rnl_nil)) slw_nil (slw_cons (srn_box (rnl_cons (.plain _ (nl_dat nl_GRow _)) rnl_nil)) slw_nil) (rn_fn rnl_nil (rnl_cons (rnj_ref rfl) rnl_nil)) rfl rfl rfl, trivial⟩
      refine awp_block ?_
      obtain ⟨q7, hL8, h⟩ := bind_out h
      refine awp_mor (mor_to (n := 20) (l' := [(3, .ref 0 1 0 0), (4, .ref 1 1 0 0), (5, .ref 2 1 0 0), (12, (.fn (.func 91) [] [.ref 3 1 0 0]))]) (own' := [(.own 1 [[I p1]]), (.own 1 [[I 0]]), (.own 1 [[I 0]]), (.own 1 [[(.dat 5 ((p0 : List GRow).map c_GRow))]])]) [(3, .ref 0 1 0 0), (4, .ref 1 1 0 0), (5, .ref 2 1 0 0), (12, (.fn (.func 91) [] [.ref 3 1 0 0]))] [0, 1, 2, 3] [(.own 1 [[I p1]]), (.own 1 [[I 0]]), (.own 1 [[I 0]]), (.own 1 [[(.dat 5 ((p0 : List GRow).map c_GRow))]])] hφ0 (by kernel_rfl) (by kernel_rfl) (by kernel_rfl) ⟨rfl, .rn (rnq_ref rfl), rfl, .rn (rnq_ref rfl), rfl, .rn (rnq_ref rfl), rfl, .rn (rn_fn rnl_nil (rnl_cons (rnq_ref rfl) rnl_nil)), trivial⟩ ⟨(spw_box ⟨(.rn (.plain _ (NLt.lit _))), trivial⟩), (spw_box ⟨(.rn (.plain _ (NLt.lit _))), trivial⟩), (spw_box ⟨(.rn (.plain _ (NLt.lit _))), trivial⟩), (spw_box ⟨(.rn (.plain _ (nl_dat nl_GRow _))), trivial⟩), trivial⟩) ?_
      refine awp_rangeA (τ := (Unit)) (kb := 4) (caps := [.ref 3 1 0 0]) (σr := [(.own 1 [[(.dat 5 ((p0 : List GRow).map c_GRow))]])]) (encs := fun x => [(.int .i64 (x.1)), (.agg #[(.int .i64 (x.2.T)), (.int .i64 (x.2.P)), (.int .i64 (x.2.Liquid)), (.int .i64 (x.2.Vapour)), (.int .i64 (x.2.Silica))])]) (fun x => [I x.1, (.agg [I x.2.T, I x.2.P, I x.2.Liquid, I x.2.Vapour, I x.2.Silica])]) [3] (fun n hn => hφ0 n (Nat.le_trans (Nat.le_of_ble_eq_true rfl) hn)) (slices_Backward_steam_Table_steam_Row_1S_ok N p0 _ hL8) enter91 (by kernel_rfl) (by kernel_rfl) (rn_agg (rnl_cons (rnj_ref rfl) rnl_nil)) (slw_cons (srn_box (rnl_cons (.plain _ (nl_dat nl_GRow _)) rnl_nil)) slw_nil) (by kernel_rfl) (fun _ => rfl) (fun x => ⟨Less.rfl, (Less.unlits [(.int .i64 (x.2.T)), (.int .i64 (x.2.P)), (.int .i64 (x.2.Liquid)), (.int .i64 (x.2.Vapour)), (.int .i64 (x.2.Silica))]), trivial⟩) (nlt_mk (nlp_cons (NLt.ref _ _ _ _ (by decide)) (nlp_cons (NLt.ref _ _ _ _ (by decide)) (nlp_cons (NLt.ref _ _ _ _ (by decide)) (nlp_cons (NLt.fn _ _ _ nl_nil (nl_cons (NLt.ref _ _ _ _ (by decide)) nl_nil)) nlp_nil))))) (fun _ => [(.own 1 [[I p1]]), (.own 1 [[I 0]]), (.own 1 [[I 0]]), .dead]) (fun _ => rfl) (fun _ => rfl) (fun l t => steam_AtX_range1 N p1 k4 l = some r) () h (by kernel_rfl) ?_ ?_
      · intro l12 o13 X16 φ17 w18 hφ15 x10 q11 t h
        rw [steam_AtX_range1] at h
        refine awp_reg [⟨[(.tmp 13, I x10.1)], [], I x10.1, [], false⟩] (by exact ⟨by kernel_rfl, by kernel_rfl⟩) ?_ ?_
        · exact ⟨fun _ => astep_assign rfl, trivial⟩
        refine awp_reg1 [⟨[], [(5, .unused)], .ref 5 5 0 0, [(5, .own 5 [[I 0, I 0, I 0, I 0, I 0]])], false⟩,
    ⟨[(.tmp 7, .ref 5 5 0 0), (.tmp 14, (.agg [I x10.2.T, I x10.2.P, I x10.2.Liquid, I x10.2.Vapour, I x10.2.Silica]))], [(5, .own 5 [[I 0, I 0, I 0, I 0, I 0]])], .any, [(5, .own 5 [[I x10.2.T, I x10.2.P, I x10.2.Liquid, I x10.2.Vapour, I x10.2.Silica]])], false⟩] (by exact ⟨by kernel_rfl, by kernel_rfl⟩) ?_ ?_
        · exact ⟨fun _ => astep_alloc rfl tz115 rfl,
    fun _ => astep_store rfl ti115 (by rfl) rfl (Nat.le_of_ble_eq_true rfl) rfl, trivial⟩
        refine ⟨by kernel_rfl, fun o14 => ?_⟩
        refine awp_block ?_
        refine awp_reg [⟨[(.tmp 7, .ref 5 5 0 0)], [(5, .own 5 [[I x10.2.T, I x10.2.P, I x10.2.Liquid, I x10.2.Vapour, I x10.2.Silica]])], .ref 5 5 0 1, [], false⟩,
    ⟨[(.tmp 15, .ref 5 5 0 1)], [(5, .own 5 [[I x10.2.T, I x10.2.P, I x10.2.Liquid, I x10.2.Vapour, I x10.2.Silica]])], I x10.2.P, [], false⟩,
    ⟨[(.tmp 3, .ref 0 1 0 0)], [(0, .own 1 [[I p1]])], I p1, [], false⟩,
    ⟨[(.tmp 16, I x10.2.P), (.tmp 17, I p1)], [], (B ((decide (x10.2.P ≤ p1)))), [], false⟩] (by exact ⟨by kernel_rfl, by kernel_rfl⟩) ?_ ?_
        · exact ⟨fun _ => astep_faddr rfl Try.underlying115 rfl rfl ti3 (by decide) rfl,
    fun _ => astep_load rfl ti3 (by decide) rfl (Nat.le_of_ble_eq_true rfl) rfl,
    fun _ => astep_load rfl ti3 (by decide) rfl (Nat.le_of_ble_eq_true rfl) rfl,
    fun _ => astep_bin rfl rfl, trivial⟩
        rcases Bool.eq_false_or_eq_true ((decide (x10.2.P ≤ p1))) with hc19 | hc19
        · replace h := bif_t hc19 h
          refine awp_ift hc19 (by kernel_rfl) ?_
          refine awp_reg [⟨[(.tmp 6, I x10.1)], [], I x10.1, [], false⟩,
    ⟨[(.tmp 4, .ref 1 1 0 0), (.tmp 19, I x10.1)], [(1, .own 1 [[I 0]])], .any, [(1, .own 1 [[I x10.1]])], false⟩,
    ⟨[(.tmp 5, .ref 2 1 0 0), (.const (.int .i64 0), I 0)], [(2, .own 1 [[I 0]])], .any, [(2, .own 1 [[I 0]])], false⟩] (by exact ⟨by kernel_rfl, by kernel_rfl⟩) ?_ ?_
          · exact ⟨fun _ => astep_move rfl,
    fun _ => astep_store rfl ti3 (by rfl) rfl (Nat.le_of_ble_eq_true rfl) rfl,
    fun _ => astep_store rfl ti26 (by rfl) rfl (Nat.le_of_ble_eq_true rfl) rfl, trivial⟩
          refine awp_ret ?_
          refine blockA_r ?_
          refine ⟨[(.own 1 [[I p1]]), (.own 1 [[I x10.1]]), (.own 1 [[I 0]]), .dead], by kernel_rfl, ?_, ren_to (own' := [(.own 1 [[I p1]]), (.own 1 [[I x10.1]]), (.own 1 [[I 0]]), .dead, (.far (farL l12 o14))]) [0, 1, 2, 3, 4] [(.own 1 [[I p1]]), (.own 1 [[I x10.1]]), (.own 1 [[I 0]]), .dead, (.far (farL l12 o14))] (by kernel_rfl) (by kernel_rfl) ⟨(spw_box ⟨(.rn (.plain _ (NLt.lit _))), trivial⟩), (spw_box ⟨(.rn (.plain _ (NLt.lit _))), trivial⟩), (spw_box ⟨(.rn (.plain _ (NLt.lit _))), trivial⟩), .dead, .far _, trivial⟩⟩
          refine blockA_r ?_
          refine thenA_r ?_
          obtain rfl := Option.some.inj h
          exact ⟨⟨[I x10.1, I 0], ⟨resOK_cell (n := 1) (m := 1) (j := 0) (i := 0) (xs := [[I x10.1]]) (by kernel_rfl) (by kernel_rfl) ti3 (by decide) rfl (Nat.le_of_ble_eq_true rfl) rfl, resOK_cell (n := 2) (m := 1) (j := 0) (i := 0) (xs := [[I 0]]) (by kernel_rfl) (by kernel_rfl) ti26 (by decide) rfl (Nat.le_of_ble_eq_true rfl) rfl, trivial⟩, rfl⟩, (NLt.tup _ (nl_cons (NLt.lit _) (nl_cons (NLt.lit _) nl_nil))), Nat.le_refl _, fun n hn => absurd hn (Nat.not_lt_zero n)⟩
        · replace h := bif_f hc19 h
          refine awp_ifn hc19 (by kernel_rfl) ?_
          refine awp_skip ?_
          refine blockA_n ?_
          exact ⟨(), h, ren_to (own' := [(.own 1 [[I p1]]), (.own 1 [[I 0]]), (.own 1 [[I 0]]), .dead, (.far (farL l12 o14))]) [0, 1, 2, 3, 4] [(.own 1 [[I p1]]), (.own 1 [[I 0]]), (.own 1 [[I 0]]), .dead, (.far (farL l12 o14))] (by kernel_rfl) (by kernel_rfl) ⟨(spw_box ⟨(.rn (.plain _ (NLt.lit _))), trivial⟩), (spw_box ⟨(.rn (.plain _ (NLt.lit _))), trivial⟩), (spw_box ⟨(.rn (.plain _ (NLt.lit _))), trivial⟩), .dead, .far _, trivial⟩⟩
      · intro t h
        rw [steam_AtX_range1] at h
        refine blockA_n ?_
        refine thenA_n ?_
        exact ⟨(), h, (mor_to (n := 20) (l' := [(4, .ref 0 1 0 0), (5, .ref 1 1 0 0)]) (own' := [(.own 1 [[I 0]]), (.own 1 [[I 0]])]) [(4, .ref 1 1 0 0), (5, .ref 2 1 0 0)] [1, 2] [(.own 1 [[I 0]]), (.own 1 [[I 0]])] hφ0 (by kernel_rfl) (by kernel_rfl) (by kernel_rfl) ⟨rfl, .rn (rnq_ref rfl), rfl, .rn (rnq_ref rfl), trivial⟩ ⟨(spw_box ⟨(.rn (.plain _ (NLt.lit _))), trivial⟩), (spw_box ⟨(.rn (.plain _ (NLt.lit _))), trivial⟩), trivial⟩)⟩

end Go.Proofs.Ytenpbiineblcjaa
