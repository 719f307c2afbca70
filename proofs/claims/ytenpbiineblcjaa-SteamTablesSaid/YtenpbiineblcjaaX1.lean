/-
  Functions of the program: what they compute, as plain functions, and that they do. No conditions.
-/
import Derived.Test.YtenpbiineblcjaaXt
namespace Go.Proofs.Ytenpbiineblcjaa
open Go.RowKit

def ref01_InX (_N : Nat) (p0 : Int) (p1 : Int) (p2 : Int) : Option Bool :=
  bif (decide (p0 ≥ p1)) then
    some (decide (p0 ≤ p2))
  else
    some false
set_option maxRecDepth 100000 in
set_option maxHeartbeats 4000000 in
theorem ref01_InX_ok (N : Nat) (p0 : Int) (p1 : Int) (p2 : Int) (r : Bool) (h : ref01_InX N p0 p1 p2 = some r) : Spec Try.prog 31 [(I p0), (I p1), (I p2)] [] (B r) [] := by
  refine spec_of_awp Try.func31 rfl 0 (Nat.le_of_ble_eq_true rfl) (fun X φ0 w0 hφ0 => ?_)
  unfold ref01_InX at h
  refine awp_reg [⟨[((.const (.bool false)), (B (false)))], [], (B (false)), [], false⟩] (by exact ⟨by kernel_rfl, by kernel_rfl⟩) ?_ ?_
  · exact ⟨fun _ => astep_assign rfl, trivial⟩
  rcases Bool.eq_false_or_eq_true ((decide (p0 ≥ p1))) with hb1 | hb1
  · replace h := bif_t hb1 h
    refine awp_reg [⟨[((.tmp 0), (I (p0)))], [], (I (p0)), [], false⟩,
    ⟨[((.tmp 1), (I (p1)))], [], (I (p1)), [], false⟩,
    ⟨[((.tmp 7), (I (p0))), ((.tmp 8), (I (p1)))], [], (B ((decide (p0 ≥ p1)))), [], false⟩,
    ⟨[((.tmp 9), (B ((decide (p0 ≥ p1)))))], [], (B (true)), [], false⟩,
    ⟨[((.tmp 10), (B (true))), ((.tmp 0), (I (p0)))], [], (I (p0)), [], false⟩,
    ⟨[((.tmp 10), (B (true))), ((.tmp 2), (I (p2)))], [], (I (p2)), [], false⟩,
    ⟨[((.tmp 10), (B (true))), ((.tmp 11), (I (p0))), ((.tmp 12), (I (p2)))], [], (B ((decide (p0 ≤ p2)))), [], false⟩,
    ⟨[((.tmp 10), (B (true))), ((.tmp 13), (B ((decide (p0 ≤ p2))))), ((.const (.bool false)), (B (false)))], [], (B ((decide (p0 ≤ p2)))), [], false⟩,
    ⟨[((.tmp 14), (B ((decide (p0 ≤ p2)))))], [], (B ((decide (p0 ≤ p2)))), [], false⟩] (by exact ⟨by kernel_rfl, by kernel_rfl⟩) ?_ ?_
    · exact ⟨fun _ => astep_move rfl,
    fun _ => astep_move rfl,
    fun _ => astep_bin rfl rfl,
    fun _ => astep_b hb1 (astep_move rfl),
    fun _ => astep_guard (astep_move rfl),
    fun _ => astep_guard (astep_move rfl),
    fun _ => astep_guard (astep_bin rfl rfl),
    fun _ => astep_pick rfl rfl,
    fun _ => astep_assign rfl, trivial⟩
    refine awp_ret ?_
    obtain rfl := Option.some.inj h
    exact ⟨⟨[(B ((decide (p0 ≤ p2))))], ⟨resOK_tmp (by kernel_rfl), trivial⟩, rfl⟩, (NLt.lit _), Nat.le_refl _, fun n hn => absurd hn (Nat.not_lt_zero n)⟩
  · replace h := bif_f hb1 h
    refine awp_reg [⟨[((.tmp 0), (I (p0)))], [], (I (p0)), [], false⟩,
    ⟨[((.tmp 1), (I (p1)))], [], (I (p1)), [], false⟩,
    ⟨[((.tmp 7), (I (p0))), ((.tmp 8), (I (p1)))], [], (B ((decide (p0 ≥ p1)))), [], false⟩,
    ⟨[((.tmp 9), (B ((decide (p0 ≥ p1)))))], [], (B (false)), [], false⟩,
    ⟨[((.tmp 10), (B (false)))], [], (.lit undef), [], true⟩,
    ⟨[((.tmp 10), (B (false)))], [], (.lit undef), [], true⟩,
    ⟨[((.tmp 10), (B (false)))], [], (.lit undef), [], true⟩,
    ⟨[((.tmp 10), (B (false))), ((.tmp 13), (.lit undef)), ((.const (.bool false)), (B (false)))], [], (B (false)), [], false⟩,
    ⟨[((.tmp 14), (B (false)))], [], (B (false)), [], false⟩] (by exact ⟨by kernel_rfl, by kernel_rfl⟩) ?_ ?_
    · exact ⟨fun _ => astep_move rfl,
    fun _ => astep_move rfl,
    fun _ => astep_bin rfl rfl,
    fun _ => astep_b hb1 (astep_move rfl),
    fun hs => (Bool.noConfusion hs),
    fun hs => (Bool.noConfusion hs),
    fun hs => (Bool.noConfusion hs),
    fun _ => astep_pick rfl rfl,
    fun _ => astep_assign rfl, trivial⟩
    refine awp_ret ?_
    obtain rfl := Option.some.inj h
    exact ⟨⟨[(B (false))], ⟨resOK_tmp (by kernel_rfl), trivial⟩, rfl⟩, (NLt.lit _), Nat.le_refl _, fun n hn => absurd hn (Nat.not_lt_zero n)⟩

def steam_withinX (_N : Nat) (p0 : Int) (p1 : Int) (p2 : Int) : Option Bool :=
  bif (decide (p1 ≤ p0)) then
    some (decide (p0 ≤ p2))
  else
    some false
set_option maxRecDepth 100000 in
set_option maxHeartbeats 4000000 in
theorem steam_withinX_ok (N : Nat) (p0 : Int) (p1 : Int) (p2 : Int) (r : Bool) (h : steam_withinX N p0 p1 p2 = some r) : Spec Try.prog 65 [(I p0), (I p1), (I p2)] [] (B r) [] := by
  refine spec_of_awp Try.func65 rfl 0 (Nat.le_of_ble_eq_true rfl) (fun X φ0 w0 hφ0 => ?_)
  unfold steam_withinX at h
  refine awp_reg [⟨[((.const (.bool false)), (B (false)))], [], (B (false)), [], false⟩] (by exact ⟨by kernel_rfl, by kernel_rfl⟩) ?_ ?_
  · exact ⟨fun _ => astep_assign rfl, trivial⟩
  rcases Bool.eq_false_or_eq_true ((decide (p1 ≤ p0))) with hb1 | hb1
  · replace h := bif_t hb1 h
    refine awp_reg [⟨[((.tmp 1), (I (p1)))], [], (I (p1)), [], false⟩,
    ⟨[((.tmp 0), (I (p0)))], [], (I (p0)), [], false⟩,
    ⟨[((.tmp 7), (I (p1))), ((.tmp 8), (I (p0)))], [], (B ((decide (p1 ≤ p0)))), [], false⟩,
    ⟨[((.tmp 9), (B ((decide (p1 ≤ p0)))))], [], (B (true)), [], false⟩,
    ⟨[((.tmp 10), (B (true))), ((.tmp 0), (I (p0)))], [], (I (p0)), [], false⟩,
    ⟨[((.tmp 10), (B (true))), ((.tmp 2), (I (p2)))], [], (I (p2)), [], false⟩,
    ⟨[((.tmp 10), (B (true))), ((.tmp 11), (I (p0))), ((.tmp 12), (I (p2)))], [], (B ((decide (p0 ≤ p2)))), [], false⟩,
    ⟨[((.tmp 10), (B (true))), ((.tmp 13), (B ((decide (p0 ≤ p2))))), ((.const (.bool false)), (B (false)))], [], (B ((decide (p0 ≤ p2)))), [], false⟩,
    ⟨[((.tmp 14), (B ((decide (p0 ≤ p2)))))], [], (B ((decide (p0 ≤ p2)))), [], false⟩] (by exact ⟨by kernel_rfl, by kernel_rfl⟩) ?_ ?_
    · exact ⟨fun _ => astep_move rfl,
    fun _ => astep_move rfl,
    fun _ => astep_bin rfl rfl,
    fun _ => astep_b hb1 (astep_move rfl),
    fun _ => astep_guard (astep_move rfl),
    fun _ => astep_guard (astep_move rfl),
    fun _ => astep_guard (astep_bin rfl rfl),
    fun _ => astep_pick rfl rfl,
    fun _ => astep_assign rfl, trivial⟩
    refine awp_ret ?_
    obtain rfl := Option.some.inj h
    exact ⟨⟨[(B ((decide (p0 ≤ p2))))], ⟨resOK_tmp (by kernel_rfl), trivial⟩, rfl⟩, (NLt.lit _), Nat.le_refl _, fun n hn => absurd hn (Nat.not_lt_zero n)⟩
  · replace h := bif_f hb1 h
    refine awp_reg [⟨[((.tmp 1), (I (p1)))], [], (I (p1)), [], false⟩,
    ⟨[((.tmp 0), (I (p0)))], [], (I (p0)), [], false⟩,
    ⟨[((.tmp 7), (I (p1))), ((.tmp 8), (I (p0)))], [], (B ((decide (p1 ≤ p0)))), [], false⟩,
    ⟨[((.tmp 9), (B ((decide (p1 ≤ p0)))))], [], (B (false)), [], false⟩,
    ⟨[((.tmp 10), (B (false)))], [], (.lit undef), [], true⟩,
    ⟨[((.tmp 10), (B (false)))], [], (.lit undef), [], true⟩,
    ⟨[((.tmp 10), (B (false)))], [], (.lit undef), [], true⟩,
    ⟨[((.tmp 10), (B (false))), ((.tmp 13), (.lit undef)), ((.const (.bool false)), (B (false)))], [], (B (false)), [], false⟩,
    ⟨[((.tmp 14), (B (false)))], [], (B (false)), [], false⟩] (by exact ⟨by kernel_rfl, by kernel_rfl⟩) ?_ ?_
    · exact ⟨fun _ => astep_move rfl,
    fun _ => astep_move rfl,
    fun _ => astep_bin rfl rfl,
    fun _ => astep_b hb1 (astep_move rfl),
    fun hs => (Bool.noConfusion hs),
    fun hs => (Bool.noConfusion hs),
    fun hs => (Bool.noConfusion hs),
    fun _ => astep_pick rfl rfl,
    fun _ => astep_assign rfl, trivial⟩
    refine awp_ret ?_
    obtain rfl := Option.some.inj h
    exact ⟨⟨[(B (false))], ⟨resOK_tmp (by kernel_rfl), trivial⟩, rfl⟩, (NLt.lit _), Nat.le_refl _, fun n hn => absurd hn (Nat.not_lt_zero n)⟩

def steam_Row_aloneX (N : Nat) (p0 : GRow) : Option Bool :=
  (steam_withinX N p0.T 0 400).bind fun x2 =>
  bif x2 then
    (steam_withinX N p0.P 1 10000).bind fun x5 =>
    bif x5 then
      (steam_withinX N p0.Liquid 0 4000).bind fun x8 =>
      bif x8 then
        (steam_withinX N p0.Silica 0 2000).bind fun x11 =>
        bif x11 then
          bif (decide (p0.Liquid < p0.Vapour)) then
            some (decide (p0.Vapour ≤ 4000))
          else
            some false
        else
          some false
      else
        some false
    else
      some false
  else
    some false
set_option maxRecDepth 100000 in
set_option maxHeartbeats 4000000 in
theorem steam_Row_aloneX_ok (N : Nat) (p0 : GRow) (r : Bool) (h : steam_Row_aloneX N p0 = some r) : Spec Try.prog 81 [(.agg (c_GRow p0))] [] (B r) [] := by
  refine spec_of_awp Try.func81 rfl 0 (Nat.le_of_ble_eq_true rfl) (fun X φ0 w0 hφ0 => ?_)
  unfold steam_Row_aloneX at h
  refine awp_reg [⟨[((.tmp 0), (.agg [(I (p0.T)), (I (p0.P)), (I (p0.Liquid)), (I (p0.Vapour)), (I (p0.Silica))]))], [(0, .unused)], (.ref 0 5 (0) 0), [(0, (.own 5 [[(I (p0.T)), (I (p0.P)), (I (p0.Liquid)), (I (p0.Vapour)), (I (p0.Silica))]]))], false⟩,
    ⟨[((.const (.bool false)), (B (false)))], [], (B (false)), [], false⟩] (by exact ⟨by kernel_rfl, by kernel_rfl⟩) ?_ ?_
  · exact ⟨fun _ => astep_box rfl (by rfl) rfl rfl,
    fun _ => astep_assign rfl, trivial⟩
  obtain ⟨x2, hf1, h⟩ := bind_out h
  rcases Bool.eq_false_or_eq_true (x2) with hb3 | hb3
  · replace h := bif_t hb3 h
    obtain ⟨x5, hf4, h⟩ := bind_out h
    rcases Bool.eq_false_or_eq_true (x5) with hb6 | hb6
    · replace h := bif_t hb6 h
      obtain ⟨x8, hf7, h⟩ := bind_out h
      rcases Bool.eq_false_or_eq_true (x8) with hb9 | hb9
      · replace h := bif_t hb9 h
        obtain ⟨x11, hf10, h⟩ := bind_out h
        rcases Bool.eq_false_or_eq_true (x11) with hb12 | hb12
        · replace h := bif_t hb12 h
          rcases Bool.eq_false_or_eq_true ((decide (p0.Liquid < p0.Vapour))) with hb13 | hb13
          · replace h := bif_t hb13 h
            refine awp_reg [⟨[((.tmp 1), (.ref 0 5 (0) 0))], [(0, (.own 5 [[(I (p0.T)), (I (p0.P)), (I (p0.Liquid)), (I (p0.Vapour)), (I (p0.Silica))]]))], (.ref 0 5 (0) 0), [], false⟩,
    ⟨[((.tmp 3), (.ref 0 5 (0) 0))], [(0, (.own 5 [[(I (p0.T)), (I (p0.P)), (I (p0.Liquid)), (I (p0.Vapour)), (I (p0.Silica))]]))], (I (p0.T)), [], false⟩,
    ⟨[((.func 65), (.fn (.func 65) [] [])), ((.tmp 4), (I (p0.T))), ((.const (.int .i64 0)), (I (0))), ((.const (.int .i64 400)), (I (400)))], [], (B (x2)), [], false⟩,
    ⟨[((.tmp 5), (B (x2)))], [], (B (true)), [], false⟩,
    ⟨[((.tmp 6), (B (true))), ((.tmp 1), (.ref 0 5 (0) 0))], [(0, (.own 5 [[(I (p0.T)), (I (p0.P)), (I (p0.Liquid)), (I (p0.Vapour)), (I (p0.Silica))]]))], (.ref 0 5 (0) 1), [], false⟩,
    ⟨[((.tmp 6), (B (true))), ((.tmp 7), (.ref 0 5 (0) 1))], [(0, (.own 5 [[(I (p0.T)), (I (p0.P)), (I (p0.Liquid)), (I (p0.Vapour)), (I (p0.Silica))]]))], (I (p0.P)), [], false⟩,
    ⟨[((.tmp 6), (B (true))), ((.func 65), (.fn (.func 65) [] [])), ((.tmp 8), (I (p0.P))), ((.const (.int .i64 1)), (I (1))), ((.const (.int .i64 10000)), (I (10000)))], [], (B (x5)), [], false⟩,
    ⟨[((.tmp 6), (B (true))), ((.tmp 9), (B (x5))), ((.const (.bool false)), (B (false)))], [], (B (x5)), [], false⟩,
    ⟨[((.tmp 10), (B (x5)))], [], (B (true)), [], false⟩,
    ⟨[((.tmp 11), (B (true))), ((.tmp 1), (.ref 0 5 (0) 0))], [(0, (.own 5 [[(I (p0.T)), (I (p0.P)), (I (p0.Liquid)), (I (p0.Vapour)), (I (p0.Silica))]]))], (.ref 0 5 (0) 2), [], false⟩,
    ⟨[((.tmp 11), (B (true))), ((.tmp 12), (.ref 0 5 (0) 2))], [(0, (.own 5 [[(I (p0.T)), (I (p0.P)), (I (p0.Liquid)), (I (p0.Vapour)), (I (p0.Silica))]]))], (I (p0.Liquid)), [], false⟩,
    ⟨[((.tmp 11), (B (true))), ((.func 65), (.fn (.func 65) [] [])), ((.tmp 13), (I (p0.Liquid))), ((.const (.int .i64 0)), (I (0))), ((.const (.int .i64 4000)), (I (4000)))], [], (B (x8)), [], false⟩,
    ⟨[((.tmp 11), (B (true))), ((.tmp 14), (B (x8))), ((.const (.bool false)), (B (false)))], [], (B (x8)), [], false⟩,
    ⟨[((.tmp 15), (B (x8)))], [], (B (true)), [], false⟩,
    ⟨[((.tmp 16), (B (true))), ((.tmp 1), (.ref 0 5 (0) 0))], [(0, (.own 5 [[(I (p0.T)), (I (p0.P)), (I (p0.Liquid)), (I (p0.Vapour)), (I (p0.Silica))]]))], (.ref 0 5 (0) 4), [], false⟩,
    ⟨[((.tmp 16), (B (true))), ((.tmp 17), (.ref 0 5 (0) 4))], [(0, (.own 5 [[(I (p0.T)), (I (p0.P)), (I (p0.Liquid)), (I (p0.Vapour)), (I (p0.Silica))]]))], (I (p0.Silica)), [], false⟩,
    ⟨[((.tmp 16), (B (true))), ((.func 65), (.fn (.func 65) [] [])), ((.tmp 18), (I (p0.Silica))), ((.const (.int .i64 0)), (I (0))), ((.const (.int .i64 2000)), (I (2000)))], [], (B (x11)), [], false⟩,
    ⟨[((.tmp 16), (B (true))), ((.tmp 19), (B (x11))), ((.const (.bool false)), (B (false)))], [], (B (x11)), [], false⟩,
    ⟨[((.tmp 20), (B (x11)))], [], (B (true)), [], false⟩,
    ⟨[((.tmp 21), (B (true))), ((.tmp 1), (.ref 0 5 (0) 0))], [(0, (.own 5 [[(I (p0.T)), (I (p0.P)), (I (p0.Liquid)), (I (p0.Vapour)), (I (p0.Silica))]]))], (.ref 0 5 (0) 2), [], false⟩,
    ⟨[((.tmp 21), (B (true))), ((.tmp 22), (.ref 0 5 (0) 2))], [(0, (.own 5 [[(I (p0.T)), (I (p0.P)), (I (p0.Liquid)), (I (p0.Vapour)), (I (p0.Silica))]]))], (I (p0.Liquid)), [], false⟩,
    ⟨[((.tmp 21), (B (true))), ((.tmp 1), (.ref 0 5 (0) 0))], [(0, (.own 5 [[(I (p0.T)), (I (p0.P)), (I (p0.Liquid)), (I (p0.Vapour)), (I (p0.Silica))]]))], (.ref 0 5 (0) 3), [], false⟩,
    ⟨[((.tmp 21), (B (true))), ((.tmp 24), (.ref 0 5 (0) 3))], [(0, (.own 5 [[(I (p0.T)), (I (p0.P)), (I (p0.Liquid)), (I (p0.Vapour)), (I (p0.Silica))]]))], (I (p0.Vapour)), [], false⟩,
    ⟨[((.tmp 21), (B (true))), ((.tmp 23), (I (p0.Liquid))), ((.tmp 25), (I (p0.Vapour)))], [], (B ((decide (p0.Liquid < p0.Vapour)))), [], false⟩,
    ⟨[((.tmp 21), (B (true))), ((.tmp 26), (B ((decide (p0.Liquid < p0.Vapour))))), ((.const (.bool false)), (B (false)))], [], (B ((decide (p0.Liquid < p0.Vapour)))), [], false⟩,
    ⟨[((.tmp 27), (B ((decide (p0.Liquid < p0.Vapour)))))], [], (B (true)), [], false⟩,
    ⟨[((.tmp 28), (B (true))), ((.tmp 1), (.ref 0 5 (0) 0))], [(0, (.own 5 [[(I (p0.T)), (I (p0.P)), (I (p0.Liquid)), (I (p0.Vapour)), (I (p0.Silica))]]))], (.ref 0 5 (0) 3), [], false⟩,
    ⟨[((.tmp 28), (B (true))), ((.tmp 29), (.ref 0 5 (0) 3))], [(0, (.own 5 [[(I (p0.T)), (I (p0.P)), (I (p0.Liquid)), (I (p0.Vapour)), (I (p0.Silica))]]))], (I (p0.Vapour)), [], false⟩,
    ⟨[((.tmp 28), (B (true))), ((.tmp 30), (I (p0.Vapour))), ((.const (.int .i64 4000)), (I (4000)))], [], (B ((decide (p0.Vapour ≤ 4000)))), [], false⟩,
    ⟨[((.tmp 28), (B (true))), ((.tmp 31), (B ((decide (p0.Vapour ≤ 4000))))), ((.const (.bool false)), (B (false)))], [], (B ((decide (p0.Vapour ≤ 4000)))), [], false⟩,
    ⟨[((.tmp 32), (B ((decide (p0.Vapour ≤ 4000)))))], [], (B ((decide (p0.Vapour ≤ 4000)))), [], false⟩] (by exact ⟨by kernel_rfl, by kernel_rfl⟩) ?_ ?_
            · exact ⟨fun _ => astep_faddr rfl Try.underlying115 rfl rfl ti3 (by decide) rfl,
    fun _ => astep_load rfl ti3 (by decide) rfl (Nat.le_of_ble_eq_true rfl) rfl,
    fun _ => astep_pcall (first := []) (cap := []) (vs := [(I (p0.T)), (I (0)), (I (400))]) rfl enter65 (steam_withinX_ok N p0.T 0 400 _ hf1) rfl rfl (nl_cons (NLt.lit _) (nl_cons (NLt.lit _) (nl_cons (NLt.lit _) nl_nil))) (NLt.lit _) rfl,
    fun _ => astep_b hb3 (astep_move rfl),
    fun _ => astep_guard (astep_faddr rfl Try.underlying115 rfl rfl ti3 (by decide) rfl),
    fun _ => astep_guard (astep_load rfl ti3 (by decide) rfl (Nat.le_of_ble_eq_true rfl) rfl),
    fun _ => astep_guard (astep_pcall (first := []) (cap := []) (vs := [(I (p0.P)), (I (1)), (I (10000))]) rfl enter65 (steam_withinX_ok N p0.P 1 10000 _ hf4) rfl rfl (nl_cons (NLt.lit _) (nl_cons (NLt.lit _) (nl_cons (NLt.lit _) nl_nil))) (NLt.lit _) rfl),
    fun _ => astep_pick rfl rfl,
    fun _ => astep_b hb6 (astep_move rfl),
    fun _ => astep_guard (astep_faddr rfl Try.underlying115 rfl rfl ti3 (by decide) rfl),
    fun _ => astep_guard (astep_load rfl ti3 (by decide) rfl (Nat.le_of_ble_eq_true rfl) rfl),
    fun _ => astep_guard (astep_pcall (first := []) (cap := []) (vs := [(I (p0.Liquid)), (I (0)), (I (4000))]) rfl enter65 (steam_withinX_ok N p0.Liquid 0 4000 _ hf7) rfl rfl (nl_cons (NLt.lit _) (nl_cons (NLt.lit _) (nl_cons (NLt.lit _) nl_nil))) (NLt.lit _) rfl),
    fun _ => astep_pick rfl rfl,
    fun _ => astep_b hb9 (astep_move rfl),
    fun _ => astep_guard (astep_faddr rfl Try.underlying115 rfl rfl ti3 (by decide) rfl),
    fun _ => astep_guard (astep_load rfl ti3 (by decide) rfl (Nat.le_of_ble_eq_true rfl) rfl),
    fun _ => astep_guard (astep_pcall (first := []) (cap := []) (vs := [(I (p0.Silica)), (I (0)), (I (2000))]) rfl enter65 (steam_withinX_ok N p0.Silica 0 2000 _ hf10) rfl rfl (nl_cons (NLt.lit _) (nl_cons (NLt.lit _) (nl_cons (NLt.lit _) nl_nil))) (NLt.lit _) rfl),
    fun _ => astep_pick rfl rfl,
    fun _ => astep_b hb12 (astep_move rfl),
    fun _ => astep_guard (astep_faddr rfl Try.underlying115 rfl rfl ti3 (by decide) rfl),
    fun _ => astep_guard (astep_load rfl ti3 (by decide) rfl (Nat.le_of_ble_eq_true rfl) rfl),
    fun _ => astep_guard (astep_faddr rfl Try.underlying115 rfl rfl ti3 (by decide) rfl),
    fun _ => astep_guard (astep_load rfl ti3 (by decide) rfl (Nat.le_of_ble_eq_true rfl) rfl),
    fun _ => astep_guard (astep_bin rfl rfl),
    fun _ => astep_pick rfl rfl,
    fun _ => astep_b hb13 (astep_move rfl),
    fun _ => astep_guard (astep_faddr rfl Try.underlying115 rfl rfl ti3 (by decide) rfl),
    fun _ => astep_guard (astep_load rfl ti3 (by decide) rfl (Nat.le_of_ble_eq_true rfl) rfl),
    fun _ => astep_guard (astep_bin rfl rfl),
    fun _ => astep_pick rfl rfl,
    fun _ => astep_assign rfl, trivial⟩
            refine awp_ret ?_
            obtain rfl := Option.some.inj h
            exact ⟨⟨[(B ((decide (p0.Vapour ≤ 4000))))], ⟨resOK_tmp (by kernel_rfl), trivial⟩, rfl⟩, (NLt.lit _), Nat.le_refl _, fun n hn => absurd hn (Nat.not_lt_zero n)⟩
          · replace h := bif_f hb13 h
            refine awp_reg [⟨[((.tmp 1), (.ref 0 5 (0) 0))], [(0, (.own 5 [[(I (p0.T)), (I (p0.P)), (I (p0.Liquid)), (I (p0.Vapour)), (I (p0.Silica))]]))], (.ref 0 5 (0) 0), [], false⟩,
    ⟨[((.tmp 3), (.ref 0 5 (0) 0))], [(0, (.own 5 [[(I (p0.T)), (I (p0.P)), (I (p0.Liquid)), (I (p0.Vapour)), (I (p0.Silica))]]))], (I (p0.T)), [], false⟩,
    ⟨[((.func 65), (.fn (.func 65) [] [])), ((.tmp 4), (I (p0.T))), ((.const (.int .i64 0)), (I (0))), ((.const (.int .i64 400)), (I (400)))], [], (B (x2)), [], false⟩,
    ⟨[((.tmp 5), (B (x2)))], [], (B (true)), [], false⟩,
    ⟨[((.tmp 6), (B (true))), ((.tmp 1), (.ref 0 5 (0) 0))], [(0, (.own 5 [[(I (p0.T)), (I (p0.P)), (I (p0.Liquid)), (I (p0.Vapour)), (I (p0.Silica))]]))], (.ref 0 5 (0) 1), [], false⟩,
    ⟨[((.tmp 6), (B (true))), ((.tmp 7), (.ref 0 5 (0) 1))], [(0, (.own 5 [[(I (p0.T)), (I (p0.P)), (I (p0.Liquid)), (I (p0.Vapour)), (I (p0.Silica))]]))], (I (p0.P)), [], false⟩,
    ⟨[((.tmp 6), (B (true))), ((.func 65), (.fn (.func 65) [] [])), ((.tmp 8), (I (p0.P))), ((.const (.int .i64 1)), (I (1))), ((.const (.int .i64 10000)), (I (10000)))], [], (B (x5)), [], false⟩,
    ⟨[((.tmp 6), (B (true))), ((.tmp 9), (B (x5))), ((.const (.bool false)), (B (false)))], [], (B (x5)), [], false⟩,
    ⟨[((.tmp 10), (B (x5)))], [], (B (true)), [], false⟩,
    ⟨[((.tmp 11), (B (true))), ((.tmp 1), (.ref 0 5 (0) 0))], [(0, (.own 5 [[(I (p0.T)), (I (p0.P)), (I (p0.Liquid)), (I (p0.Vapour)), (I (p0.Silica))]]))], (.ref 0 5 (0) 2), [], false⟩,
    ⟨[((.tmp 11), (B (true))), ((.tmp 12), (.ref 0 5 (0) 2))], [(0, (.own 5 [[(I (p0.T)), (I (p0.P)), (I (p0.Liquid)), (I (p0.Vapour)), (I (p0.Silica))]]))], (I (p0.Liquid)), [], false⟩,
    ⟨[((.tmp 11), (B (true))), ((.func 65), (.fn (.func 65) [] [])), ((.tmp 13), (I (p0.Liquid))), ((.const (.int .i64 0)), (I (0))), ((.const (.int .i64 4000)), (I (4000)))], [], (B (x8)), [], false⟩,
    ⟨[((.tmp 11), (B (true))), ((.tmp 14), (B (x8))), ((.const (.bool false)), (B (false)))], [], (B (x8)), [], false⟩,
    ⟨[((.tmp 15), (B (x8)))], [], (B (true)), [], false⟩,
    ⟨[((.tmp 16), (B (true))), ((.tmp 1), (.ref 0 5 (0) 0))], [(0, (.own 5 [[(I (p0.T)), (I (p0.P)), (I (p0.Liquid)), (I (p0.Vapour)), (I (p0.Silica))]]))], (.ref 0 5 (0) 4), [], false⟩,
    ⟨[((.tmp 16), (B (true))), ((.tmp 17), (.ref 0 5 (0) 4))], [(0, (.own 5 [[(I (p0.T)), (I (p0.P)), (I (p0.Liquid)), (I (p0.Vapour)), (I (p0.Silica))]]))], (I (p0.Silica)), [], false⟩,
    ⟨[((.tmp 16), (B (true))), ((.func 65), (.fn (.func 65) [] [])), ((.tmp 18), (I (p0.Silica))), ((.const (.int .i64 0)), (I (0))), ((.const (.int .i64 2000)), (I (2000)))], [], (B (x11)), [], false⟩,
    ⟨[((.tmp 16), (B (true))), ((.tmp 19), (B (x11))), ((.const (.bool false)), (B (false)))], [], (B (x11)), [], false⟩,
    ⟨[((.tmp 20), (B (x11)))], [], (B (true)), [], false⟩,
    ⟨[((.tmp 21), (B (true))), ((.tmp 1), (.ref 0 5 (0) 0))], [(0, (.own 5 [[(I (p0.T)), (I (p0.P)), (I (p0.Liquid)), (I (p0.Vapour)), (I (p0.Silica))]]))], (.ref 0 5 (0) 2), [], false⟩,
    ⟨[((.tmp 21), (B (true))), ((.tmp 22), (.ref 0 5 (0) 2))], [(0, (.own 5 [[(I (p0.T)), (I (p0.P)), (I (p0.Liquid)), (I (p0.Vapour)), (I (p0.Silica))]]))], (I (p0.Liquid)), [], false⟩,
    ⟨[((.tmp 21), (B (true))), ((.tmp 1), (.ref 0 5 (0) 0))], [(0, (.own 5 [[(I (p0.T)), (I (p0.P)), (I (p0.Liquid)), (I (p0.Vapour)), (I (p0.Silica))]]))], (.ref 0 5 (0) 3), [], false⟩,
    ⟨[((.tmp 21), (B (true))), ((.tmp 24), (.ref 0 5 (0) 3))], [(0, (.own 5 [[(I (p0.T)), (I (p0.P)), (I (p0.Liquid)), (I (p0.Vapour)), (I (p0.Silica))]]))], (I (p0.Vapour)), [], false⟩,
    ⟨[((.tmp 21), (B (true))), ((.tmp 23), (I (p0.Liquid))), ((.tmp 25), (I (p0.Vapour)))], [], (B ((decide (p0.Liquid < p0.Vapour)))), [], false⟩,
    ⟨[((.tmp 21), (B (true))), ((.tmp 26), (B ((decide (p0.Liquid < p0.Vapour))))), ((.const (.bool false)), (B (false)))], [], (B ((decide (p0.Liquid < p0.Vapour)))), [], false⟩,
    ⟨[((.tmp 27), (B ((decide (p0.Liquid < p0.Vapour)))))], [], (B (false)), [], false⟩,
    ⟨[((.tmp 28), (B (false)))], [], (.lit undef), [], true⟩,
    ⟨[((.tmp 28), (B (false)))], [], (.lit undef), [], true⟩,
    ⟨[((.tmp 28), (B (false)))], [], (.lit undef), [], true⟩,
    ⟨[((.tmp 28), (B (false))), ((.tmp 31), (.lit undef)), ((.const (.bool false)), (B (false)))], [], (B (false)), [], false⟩,
    ⟨[((.tmp 32), (B (false)))], [], (B (false)), [], false⟩] (by exact ⟨by kernel_rfl, by kernel_rfl⟩) ?_ ?_
            · exact ⟨fun _ => astep_faddr rfl Try.underlying115 rfl rfl ti3 (by decide) rfl,
    fun _ => astep_load rfl ti3 (by decide) rfl (Nat.le_of_ble_eq_true rfl) rfl,
    fun _ => astep_pcall (first := []) (cap := []) (vs := [(I (p0.T)), (I (0)), (I (400))]) rfl enter65 (steam_withinX_ok N p0.T 0 400 _ hf1) rfl rfl (nl_cons (NLt.lit _) (nl_cons (NLt.lit _) (nl_cons (NLt.lit _) nl_nil))) (NLt.lit _) rfl,
    fun _ => astep_b hb3 (astep_move rfl),
    fun _ => astep_guard (astep_faddr rfl Try.underlying115 rfl rfl ti3 (by decide) rfl),
    fun _ => astep_guard (astep_load rfl ti3 (by decide) rfl (Nat.le_of_ble_eq_true rfl) rfl),
    fun _ => astep_guard (astep_pcall (first := []) (cap := []) (vs := [(I (p0.P)), (I (1)), (I (10000))]) rfl enter65 (steam_withinX_ok N p0.P 1 10000 _ hf4) rfl rfl (nl_cons (NLt.lit _) (nl_cons (NLt.lit _) (nl_cons (NLt.lit _) nl_nil))) (NLt.lit _) rfl),
    fun _ => astep_pick rfl rfl,
    fun _ => astep_b hb6 (astep_move rfl),
    fun _ => astep_guard (astep_faddr rfl Try.underlying115 rfl rfl ti3 (by decide) rfl),
    fun _ => astep_guard (astep_load rfl ti3 (by decide) rfl (Nat.le_of_ble_eq_true rfl) rfl),
    fun _ => astep_guard (astep_pcall (first := []) (cap := []) (vs := [(I (p0.Liquid)), (I (0)), (I (4000))]) rfl enter65 (steam_withinX_ok N p0.Liquid 0 4000 _ hf7) rfl rfl (nl_cons (NLt.lit _) (nl_cons (NLt.lit _) (nl_cons (NLt.lit _) nl_nil))) (NLt.lit _) rfl),
    fun _ => astep_pick rfl rfl,
    fun _ => astep_b hb9 (astep_move rfl),
    fun _ => astep_guard (astep_faddr rfl Try.underlying115 rfl rfl ti3 (by decide) rfl),
    fun _ => astep_guard (astep_load rfl ti3 (by decide) rfl (Nat.le_of_ble_eq_true rfl) rfl),
    fun _ => astep_guard (astep_pcall (first := []) (cap := []) (vs := [(I (p0.Silica)), (I (0)), (I (2000))]) rfl enter65 (steam_withinX_ok N p0.Silica 0 2000 _ hf10) rfl rfl (nl_cons (NLt.lit _) (nl_cons (NLt.lit _) (nl_cons (NLt.lit _) nl_nil))) (NLt.lit _) rfl),
    fun _ => astep_pick rfl rfl,
    fun _ => astep_b hb12 (astep_move rfl),
    fun _ => astep_guard (astep_faddr rfl Try.underlying115 rfl rfl ti3 (by decide) rfl),
    fun _ => astep_guard (astep_load rfl ti3 (by decide) rfl (Nat.le_of_ble_eq_true rfl) rfl),
    fun _ => astep_guard (astep_faddr rfl Try.underlying115 rfl rfl ti3 (by decide) rfl),
    fun _ => astep_guard (astep_load rfl ti3 (by decide) rfl (Nat.le_of_ble_eq_true rfl) rfl),
    fun _ => astep_guard (astep_bin rfl rfl),
    fun _ => astep_pick rfl rfl,
    fun _ => astep_b hb13 (astep_move rfl),
    fun hs => (Bool.noConfusion hs),
    fun hs => (Bool.noConfusion hs),
    fun hs => (Bool.noConfusion hs),
    fun _ => astep_pick rfl rfl,
    fun _ => astep_assign rfl, trivial⟩
            refine awp_ret ?_
            obtain rfl := Option.some.inj h
            exact ⟨⟨[(B (false))], ⟨resOK_tmp (by kernel_rfl), trivial⟩, rfl⟩, (NLt.lit _), Nat.le_refl _, fun n hn => absurd hn (Nat.not_lt_zero n)⟩
        · replace h := bif_f hb12 h
          refine awp_reg [⟨[((.tmp 1), (.ref 0 5 (0) 0))], [(0, (.own 5 [[(I (p0.T)), (I (p0.P)), (I (p0.Liquid)), (I (p0.Vapour)), (I (p0.Silica))]]))], (.ref 0 5 (0) 0), [], false⟩,
    ⟨[((.tmp 3), (.ref 0 5 (0) 0))], [(0, (.own 5 [[(I (p0.T)), (I (p0.P)), (I (p0.Liquid)), (I (p0.Vapour)), (I (p0.Silica))]]))], (I (p0.T)), [], false⟩,
    ⟨[((.func 65), (.fn (.func 65) [] [])), ((.tmp 4), (I (p0.T))), ((.const (.int .i64 0)), (I (0))), ((.const (.int .i64 400)), (I (400)))], [], (B (x2)), [], false⟩,
    ⟨[((.tmp 5), (B (x2)))], [], (B (true)), [], false⟩,
    ⟨[((.tmp 6), (B (true))), ((.tmp 1), (.ref 0 5 (0) 0))], [(0, (.own 5 [[(I (p0.T)), (I (p0.P)), (I (p0.Liquid)), (I (p0.Vapour)), (I (p0.Silica))]]))], (.ref 0 5 (0) 1), [], false⟩,
    ⟨[((.tmp 6), (B (true))), ((.tmp 7), (.ref 0 5 (0) 1))], [(0, (.own 5 [[(I (p0.T)), (I (p0.P)), (I (p0.Liquid)), (I (p0.Vapour)), (I (p0.Silica))]]))], (I (p0.P)), [], false⟩,
    ⟨[((.tmp 6), (B (true))), ((.func 65), (.fn (.func 65) [] [])), ((.tmp 8), (I (p0.P))), ((.const (.int .i64 1)), (I (1))), ((.const (.int .i64 10000)), (I (10000)))], [], (B (x5)), [], false⟩,
    ⟨[((.tmp 6), (B (true))), ((.tmp 9), (B (x5))), ((.const (.bool false)), (B (false)))], [], (B (x5)), [], false⟩,
    ⟨[((.tmp 10), (B (x5)))], [], (B (true)), [], false⟩,
    ⟨[((.tmp 11), (B (true))), ((.tmp 1), (.ref 0 5 (0) 0))], [(0, (.own 5 [[(I (p0.T)), (I (p0.P)), (I (p0.Liquid)), (I (p0.Vapour)), (I (p0.Silica))]]))], (.ref 0 5 (0) 2), [], false⟩,
    ⟨[((.tmp 11), (B (true))), ((.tmp 12), (.ref 0 5 (0) 2))], [(0, (.own 5 [[(I (p0.T)), (I (p0.P)), (I (p0.Liquid)), (I (p0.Vapour)), (I (p0.Silica))]]))], (I (p0.Liquid)), [], false⟩,
    ⟨[((.tmp 11), (B (true))), ((.func 65), (.fn (.func 65) [] [])), ((.tmp 13), (I (p0.Liquid))), ((.const (.int .i64 0)), (I (0))), ((.const (.int .i64 4000)), (I (4000)))], [], (B (x8)), [], false⟩,
    ⟨[((.tmp 11), (B (true))), ((.tmp 14), (B (x8))), ((.const (.bool false)), (B (false)))], [], (B (x8)), [], false⟩,
    ⟨[((.tmp 15), (B (x8)))], [], (B (true)), [], false⟩,
    ⟨[((.tmp 16), (B (true))), ((.tmp 1), (.ref 0 5 (0) 0))], [(0, (.own 5 [[(I (p0.T)), (I (p0.P)), (I (p0.Liquid)), (I (p0.Vapour)), (I (p0.Silica))]]))], (.ref 0 5 (0) 4), [], false⟩,
    ⟨[((.tmp 16), (B (true))), ((.tmp 17), (.ref 0 5 (0) 4))], [(0, (.own 5 [[(I (p0.T)), (I (p0.P)), (I (p0.Liquid)), (I (p0.Vapour)), (I (p0.Silica))]]))], (I (p0.Silica)), [], false⟩,
    ⟨[((.tmp 16), (B (true))), ((.func 65), (.fn (.func 65) [] [])), ((.tmp 18), (I (p0.Silica))), ((.const (.int .i64 0)), (I (0))), ((.const (.int .i64 2000)), (I (2000)))], [], (B (x11)), [], false⟩,
    ⟨[((.tmp 16), (B (true))), ((.tmp 19), (B (x11))), ((.const (.bool false)), (B (false)))], [], (B (x11)), [], false⟩,
    ⟨[((.tmp 20), (B (x11)))], [], (B (false)), [], false⟩,
    ⟨[((.tmp 21), (B (false)))], [], (.lit undef), [], true⟩,
    ⟨[((.tmp 21), (B (false)))], [], (.lit undef), [], true⟩,
    ⟨[((.tmp 21), (B (false)))], [], (.lit undef), [], true⟩,
    ⟨[((.tmp 21), (B (false)))], [], (.lit undef), [], true⟩,
    ⟨[((.tmp 21), (B (false)))], [], (.lit undef), [], true⟩,
    ⟨[((.tmp 21), (B (false))), ((.tmp 26), (.lit undef)), ((.const (.bool false)), (B (false)))], [], (B (false)), [], false⟩,
    ⟨[((.tmp 27), (B (false)))], [], (B (false)), [], false⟩,
    ⟨[((.tmp 28), (B (false)))], [], (.lit undef), [], true⟩,
    ⟨[((.tmp 28), (B (false)))], [], (.lit undef), [], true⟩,
    ⟨[((.tmp 28), (B (false)))], [], (.lit undef), [], true⟩,
    ⟨[((.tmp 28), (B (false))), ((.tmp 31), (.lit undef)), ((.const (.bool false)), (B (false)))], [], (B (false)), [], false⟩,
    ⟨[((.tmp 32), (B (false)))], [], (B (false)), [], false⟩] (by exact ⟨by kernel_rfl, by kernel_rfl⟩) ?_ ?_
          · exact ⟨fun _ => astep_faddr rfl Try.underlying115 rfl rfl ti3 (by decide) rfl,
    fun _ => astep_load rfl ti3 (by decide) rfl (Nat.le_of_ble_eq_true rfl) rfl,
    fun _ => astep_pcall (first := []) (cap := []) (vs := [(I (p0.T)), (I (0)), (I (400))]) rfl enter65 (steam_withinX_ok N p0.T 0 400 _ hf1) rfl rfl (nl_cons (NLt.lit _) (nl_cons (NLt.lit _) (nl_cons (NLt.lit _) nl_nil))) (NLt.lit _) rfl,
    fun _ => astep_b hb3 (astep_move rfl),
    fun _ => astep_guard (astep_faddr rfl Try.underlying115 rfl rfl ti3 (by decide) rfl),
    fun _ => astep_guard (astep_load rfl ti3 (by decide) rfl (Nat.le_of_ble_eq_true rfl) rfl),
    fun _ => astep_guard (astep_pcall (first := []) (cap := []) (vs := [(I (p0.P)), (I (1)), (I (10000))]) rfl enter65 (steam_withinX_ok N p0.P 1 10000 _ hf4) rfl rfl (nl_cons (NLt.lit _) (nl_cons (NLt.lit _) (nl_cons (NLt.lit _) nl_nil))) (NLt.lit _) rfl),
    fun _ => astep_pick rfl rfl,
    fun _ => astep_b hb6 (astep_move rfl),
    fun _ => astep_guard (astep_faddr rfl Try.underlying115 rfl rfl ti3 (by decide) rfl),
    fun _ => astep_guard (astep_load rfl ti3 (by decide) rfl (Nat.le_of_ble_eq_true rfl) rfl),
    fun _ => astep_guard (astep_pcall (first := []) (cap := []) (vs := [(I (p0.Liquid)), (I (0)), (I (4000))]) rfl enter65 (steam_withinX_ok N p0.Liquid 0 4000 _ hf7) rfl rfl (nl_cons (NLt.lit _) (nl_cons (NLt.lit _) (nl_cons (NLt.lit _) nl_nil))) (NLt.lit _) rfl),
    fun _ => astep_pick rfl rfl,
    fun _ => astep_b hb9 (astep_move rfl),
    fun _ => astep_guard (astep_faddr rfl Try.underlying115 rfl rfl ti3 (by decide) rfl),
    fun _ => astep_guard (astep_load rfl ti3 (by decide) rfl (Nat.le_of_ble_eq_true rfl) rfl),
    fun _ => astep_guard (astep_pcall (first := []) (cap := []) (vs := [(I (p0.Silica)), (I (0)), (I (2000))]) rfl enter65 (steam_withinX_ok N p0.Silica 0 2000 _ hf10) rfl rfl (nl_cons (NLt.lit _) (nl_cons (NLt.lit _) (nl_cons (NLt.lit _) nl_nil))) (NLt.lit _) rfl),
    fun _ => astep_pick rfl rfl,
    fun _ => astep_b hb12 (astep_move rfl),
    fun hs => (Bool.noConfusion hs),
    fun hs => (Bool.noConfusion hs),
    fun hs => (Bool.noConfusion hs),
    fun hs => (Bool.noConfusion hs),
    fun hs => (Bool.noConfusion hs),
    fun _ => astep_pick rfl rfl,
    fun _ => astep_move rfl,
    fun hs => (Bool.noConfusion hs),
    fun hs => (Bool.noConfusion hs),
    fun hs => (Bool.noConfusion hs),
    fun _ => astep_pick rfl rfl,
    fun _ => astep_assign rfl, trivial⟩
          refine awp_ret ?_
          obtain rfl := Option.some.inj h
          exact ⟨⟨[(B (false))], ⟨resOK_tmp (by kernel_rfl), trivial⟩, rfl⟩, (NLt.lit _), Nat.le_refl _, fun n hn => absurd hn (Nat.not_lt_zero n)⟩
      · replace h := bif_f hb9 h
        refine awp_reg [⟨[((.tmp 1), (.ref 0 5 (0) 0))], [(0, (.own 5 [[(I (p0.T)), (I (p0.P)), (I (p0.Liquid)), (I (p0.Vapour)), (I (p0.Silica))]]))], (.ref 0 5 (0) 0), [], false⟩,
    ⟨[((.tmp 3), (.ref 0 5 (0) 0))], [(0, (.own 5 [[(I (p0.T)), (I (p0.P)), (I (p0.Liquid)), (I (p0.Vapour)), (I (p0.Silica))]]))], (I (p0.T)), [], false⟩,
    ⟨[((.func 65), (.fn (.func 65) [] [])), ((.tmp 4), (I (p0.T))), ((.const (.int .i64 0)), (I (0))), ((.const (.int .i64 400)), (I (400)))], [], (B (x2)), [], false⟩,
    ⟨[((.tmp 5), (B (x2)))], [], (B (true)), [], false⟩,
    ⟨[((.tmp 6), (B (true))), ((.tmp 1), (.ref 0 5 (0) 0))], [(0, (.own 5 [[(I (p0.T)), (I (p0.P)), (I (p0.Liquid)), (I (p0.Vapour)), (I (p0.Silica))]]))], (.ref 0 5 (0) 1), [], false⟩,
    ⟨[((.tmp 6), (B (true))), ((.tmp 7), (.ref 0 5 (0) 1))], [(0, (.own 5 [[(I (p0.T)), (I (p0.P)), (I (p0.Liquid)), (I (p0.Vapour)), (I (p0.Silica))]]))], (I (p0.P)), [], false⟩,
    ⟨[((.tmp 6), (B (true))), ((.func 65), (.fn (.func 65) [] [])), ((.tmp 8), (I (p0.P))), ((.const (.int .i64 1)), (I (1))), ((.const (.int .i64 10000)), (I (10000)))], [], (B (x5)), [], false⟩,
    ⟨[((.tmp 6), (B (true))), ((.tmp 9), (B (x5))), ((.const (.bool false)), (B (false)))], [], (B (x5)), [], false⟩,
    ⟨[((.tmp 10), (B (x5)))], [], (B (true)), [], false⟩,
    ⟨[((.tmp 11), (B (true))), ((.tmp 1), (.ref 0 5 (0) 0))], [(0, (.own 5 [[(I (p0.T)), (I (p0.P)), (I (p0.Liquid)), (I (p0.Vapour)), (I (p0.Silica))]]))], (.ref 0 5 (0) 2), [], false⟩,
    ⟨[((.tmp 11), (B (true))), ((.tmp 12), (.ref 0 5 (0) 2))], [(0, (.own 5 [[(I (p0.T)), (I (p0.P)), (I (p0.Liquid)), (I (p0.Vapour)), (I (p0.Silica))]]))], (I (p0.Liquid)), [], false⟩,
    ⟨[((.tmp 11), (B (true))), ((.func 65), (.fn (.func 65) [] [])), ((.tmp 13), (I (p0.Liquid))), ((.const (.int .i64 0)), (I (0))), ((.const (.int .i64 4000)), (I (4000)))], [], (B (x8)), [], false⟩,
    ⟨[((.tmp 11), (B (true))), ((.tmp 14), (B (x8))), ((.const (.bool false)), (B (false)))], [], (B (x8)), [], false⟩,
    ⟨[((.tmp 15), (B (x8)))], [], (B (false)), [], false⟩,
    ⟨[((.tmp 16), (B (false)))], [], (.lit undef), [], true⟩,
    ⟨[((.tmp 16), (B (false)))], [], (.lit undef), [], true⟩,
    ⟨[((.tmp 16), (B (false)))], [], (.lit undef), [], true⟩,
    ⟨[((.tmp 16), (B (false))), ((.tmp 19), (.lit undef)), ((.const (.bool false)), (B (false)))], [], (B (false)), [], false⟩,
    ⟨[((.tmp 20), (B (false)))], [], (B (false)), [], false⟩,
    ⟨[((.tmp 21), (B (false)))], [], (.lit undef), [], true⟩,
    ⟨[((.tmp 21), (B (false)))], [], (.lit undef), [], true⟩,
    ⟨[((.tmp 21), (B (false)))], [], (.lit undef), [], true⟩,
    ⟨[((.tmp 21), (B (false)))], [], (.lit undef), [], true⟩,
    ⟨[((.tmp 21), (B (false)))], [], (.lit undef), [], true⟩,
    ⟨[((.tmp 21), (B (false))), ((.tmp 26), (.lit undef)), ((.const (.bool false)), (B (false)))], [], (B (false)), [], false⟩,
    ⟨[((.tmp 27), (B (false)))], [], (B (false)), [], false⟩,
    ⟨[((.tmp 28), (B (false)))], [], (.lit undef), [], true⟩,
    ⟨[((.tmp 28), (B (false)))], [], (.lit undef), [], true⟩,
    ⟨[((.tmp 28), (B (false)))], [], (.lit undef), [], true⟩,
    ⟨[((.tmp 28), (B (false))), ((.tmp 31), (.lit undef)), ((.const (.bool false)), (B (false)))], [], (B (false)), [], false⟩,
    ⟨[((.tmp 32), (B (false)))], [], (B (false)), [], false⟩] (by exact ⟨by kernel_rfl, by kernel_rfl⟩) ?_ ?_
        · exact ⟨fun _ => astep_faddr rfl Try.underlying115 rfl rfl ti3 (by decide) rfl,
    fun _ => astep_load rfl ti3 (by decide) rfl (Nat.le_of_ble_eq_true rfl) rfl,
    fun _ => astep_pcall (first := []) (cap := []) (vs := [(I (p0.T)), (I (0)), (I (400))]) rfl enter65 (steam_withinX_ok N p0.T 0 400 _ hf1) rfl rfl (nl_cons (NLt.lit _) (nl_cons (NLt.lit _) (nl_cons (NLt.lit _) nl_nil))) (NLt.lit _) rfl,
    fun _ => astep_b hb3 (astep_move rfl),
    fun _ => astep_guard (astep_faddr rfl Try.underlying115 rfl rfl ti3 (by decide) rfl),
    fun _ => astep_guard (astep_load rfl ti3 (by decide) rfl (Nat.le_of_ble_eq_true rfl) rfl),
    fun _ => astep_guard (astep_pcall (first := []) (cap := []) (vs := [(I (p0.P)), (I (1)), (I (10000))]) rfl enter65 (steam_withinX_ok N p0.P 1 10000 _ hf4) rfl rfl (nl_cons (NLt.lit _) (nl_cons (NLt.lit _) (nl_cons (NLt.lit _) nl_nil))) (NLt.lit _) rfl),
    fun _ => astep_pick rfl rfl,
    fun _ => astep_b hb6 (astep_move rfl),
    fun _ => astep_guard (astep_faddr rfl Try.underlying115 rfl rfl ti3 (by decide) rfl),
    fun _ => astep_guard (astep_load rfl ti3 (by decide) rfl (Nat.le_of_ble_eq_true rfl) rfl),
    fun _ => astep_guard (astep_pcall (first := []) (cap := []) (vs := [(I (p0.Liquid)), (I (0)), (I (4000))]) rfl enter65 (steam_withinX_ok N p0.Liquid 0 4000 _ hf7) rfl rfl (nl_cons (NLt.lit _) (nl_cons (NLt.lit _) (nl_cons (NLt.lit _) nl_nil))) (NLt.lit _) rfl),
    fun _ => astep_pick rfl rfl,
    fun _ => astep_b hb9 (astep_move rfl),
    fun hs => (Bool.noConfusion hs),
    fun hs => (Bool.noConfusion hs),
    fun hs => (Bool.noConfusion hs),
    fun _ => astep_pick rfl rfl,
    fun _ => astep_move rfl,
    fun hs => (Bool.noConfusion hs),
    fun hs => (Bool.noConfusion hs),
    fun hs => (Bool.noConfusion hs),
    fun hs => (Bool.noConfusion hs),
    fun hs => (Bool.noConfusion hs),
    fun _ => astep_pick rfl rfl,
    fun _ => astep_move rfl,
    fun hs => (Bool.noConfusion hs),
    fun hs => (Bool.noConfusion hs),
    fun hs => (Bool.noConfusion hs),
    fun _ => astep_pick rfl rfl,
    fun _ => astep_assign rfl, trivial⟩
        refine awp_ret ?_
        obtain rfl := Option.some.inj h
        exact ⟨⟨[(B (false))], ⟨resOK_tmp (by kernel_rfl), trivial⟩, rfl⟩, (NLt.lit _), Nat.le_refl _, fun n hn => absurd hn (Nat.not_lt_zero n)⟩
    · replace h := bif_f hb6 h
      refine awp_reg [⟨[((.tmp 1), (.ref 0 5 (0) 0))], [(0, (.own 5 [[(I (p0.T)), (I (p0.P)), (I (p0.Liquid)), (I (p0.Vapour)), (I (p0.Silica))]]))], (.ref 0 5 (0) 0), [], false⟩,
    ⟨[((.tmp 3), (.ref 0 5 (0) 0))], [(0, (.own 5 [[(I (p0.T)), (I (p0.P)), (I (p0.Liquid)), (I (p0.Vapour)), (I (p0.Silica))]]))], (I (p0.T)), [], false⟩,
    ⟨[((.func 65), (.fn (.func 65) [] [])), ((.tmp 4), (I (p0.T))), ((.const (.int .i64 0)), (I (0))), ((.const (.int .i64 400)), (I (400)))], [], (B (x2)), [], false⟩,
    ⟨[((.tmp 5), (B (x2)))], [], (B (true)), [], false⟩,
    ⟨[((.tmp 6), (B (true))), ((.tmp 1), (.ref 0 5 (0) 0))], [(0, (.own 5 [[(I (p0.T)), (I (p0.P)), (I (p0.Liquid)), (I (p0.Vapour)), (I (p0.Silica))]]))], (.ref 0 5 (0) 1), [], false⟩,
    ⟨[((.tmp 6), (B (true))), ((.tmp 7), (.ref 0 5 (0) 1))], [(0, (.own 5 [[(I (p0.T)), (I (p0.P)), (I (p0.Liquid)), (I (p0.Vapour)), (I (p0.Silica))]]))], (I (p0.P)), [], false⟩,
    ⟨[((.tmp 6), (B (true))), ((.func 65), (.fn (.func 65) [] [])), ((.tmp 8), (I (p0.P))), ((.const (.int .i64 1)), (I (1))), ((.const (.int .i64 10000)), (I (10000)))], [], (B (x5)), [], false⟩,
    ⟨[((.tmp 6), (B (true))), ((.tmp 9), (B (x5))), ((.const (.bool false)), (B (false)))], [], (B (x5)), [], false⟩,
    ⟨[((.tmp 10), (B (x5)))], [], (B (false)), [], false⟩,
    ⟨[((.tmp 11), (B (false)))], [], (.lit undef), [], true⟩,
    ⟨[((.tmp 11), (B (false)))], [], (.lit undef), [], true⟩,
    ⟨[((.tmp 11), (B (false)))], [], (.lit undef), [], true⟩,
    ⟨[((.tmp 11), (B (false))), ((.tmp 14), (.lit undef)), ((.const (.bool false)), (B (false)))], [], (B (false)), [], false⟩,
    ⟨[((.tmp 15), (B (false)))], [], (B (false)), [], false⟩,
    ⟨[((.tmp 16), (B (false)))], [], (.lit undef), [], true⟩,
    ⟨[((.tmp 16), (B (false)))], [], (.lit undef), [], true⟩,
    ⟨[((.tmp 16), (B (false)))], [], (.lit undef), [], true⟩,
    ⟨[((.tmp 16), (B (false))), ((.tmp 19), (.lit undef)), ((.const (.bool false)), (B (false)))], [], (B (false)), [], false⟩,
    ⟨[((.tmp 20), (B (false)))], [], (B (false)), [], false⟩,
    ⟨[((.tmp 21), (B (false)))], [], (.lit undef), [], true⟩,
    ⟨[((.tmp 21), (B (false)))], [], (.lit undef), [], true⟩,
    ⟨[((.tmp 21), (B (false)))], [], (.lit undef), [], true⟩,
    ⟨[((.tmp 21), (B (false)))], [], (.lit undef), [], true⟩,
    ⟨[((.tmp 21), (B (false)))], [], (.lit undef), [], true⟩,
    ⟨[((.tmp 21), (B (false))), ((.tmp 26), (.lit undef)), ((.const (.bool false)), (B (false)))], [], (B (false)), [], false⟩,
    ⟨[((.tmp 27), (B (false)))], [], (B (false)), [], false⟩,
    ⟨[((.tmp 28), (B (false)))], [], (.lit undef), [], true⟩,
    ⟨[((.tmp 28), (B (false)))], [], (.lit undef), [], true⟩,
    ⟨[((.tmp 28), (B (false)))], [], (.lit undef), [], true⟩,
    ⟨[((.tmp 28), (B (false))), ((.tmp 31), (.lit undef)), ((.const (.bool false)), (B (false)))], [], (B (false)), [], false⟩,
    ⟨[((.tmp 32), (B (false)))], [], (B (false)), [], false⟩] (by exact ⟨by kernel_rfl, by kernel_rfl⟩) ?_ ?_
      · exact ⟨fun _ => astep_faddr rfl Try.underlying115 rfl rfl ti3 (by decide) rfl,
    fun _ => astep_load rfl ti3 (by decide) rfl (Nat.le_of_ble_eq_true rfl) rfl,
    fun _ => astep_pcall (first := []) (cap := []) (vs := [(I (p0.T)), (I (0)), (I (400))]) rfl enter65 (steam_withinX_ok N p0.T 0 400 _ hf1) rfl rfl (nl_cons (NLt.lit _) (nl_cons (NLt.lit _) (nl_cons (NLt.lit _) nl_nil))) (NLt.lit _) rfl,
    fun _ => astep_b hb3 (astep_move rfl),
    fun _ => astep_guard (astep_faddr rfl Try.underlying115 rfl rfl ti3 (by decide) rfl),
    fun _ => astep_guard (astep_load rfl ti3 (by decide) rfl (Nat.le_of_ble_eq_true rfl) rfl),
    fun _ => astep_guard (astep_pcall (first := []) (cap := []) (vs := [(I (p0.P)), (I (1)), (I (10000))]) rfl enter65 (steam_withinX_ok N p0.P 1 10000 _ hf4) rfl rfl (nl_cons (NLt.lit _) (nl_cons (NLt.lit _) (nl_cons (NLt.lit _) nl_nil))) (NLt.lit _) rfl),
    fun _ => astep_pick rfl rfl,
    fun _ => astep_b hb6 (astep_move rfl),
    fun hs => (Bool.noConfusion hs),
    fun hs => (Bool.noConfusion hs),
    fun hs => (Bool.noConfusion hs),
    fun _ => astep_pick rfl rfl,
    fun _ => astep_move rfl,
    fun hs => (Bool.noConfusion hs),
    fun hs => (Bool.noConfusion hs),
    fun hs => (Bool.noConfusion hs),
    fun _ => astep_pick rfl rfl,
    fun _ => astep_move rfl,
    fun hs => (Bool.noConfusion hs),
    fun hs => (Bool.noConfusion hs),
    fun hs => (Bool.noConfusion hs),
    fun hs => (Bool.noConfusion hs),
    fun hs => (Bool.noConfusion hs),
    fun _ => astep_pick rfl rfl,
    fun _ => astep_move rfl,
    fun hs => (Bool.noConfusion hs),
    fun hs => (Bool.noConfusion hs),
    fun hs => (Bool.noConfusion hs),
    fun _ => astep_pick rfl rfl,
    fun _ => astep_assign rfl, trivial⟩
      refine awp_ret ?_
      obtain rfl := Option.some.inj h
      exact ⟨⟨[(B (false))], ⟨resOK_tmp (by kernel_rfl), trivial⟩, rfl⟩, (NLt.lit _), Nat.le_refl _, fun n hn => absurd hn (Nat.not_lt_zero n)⟩
  · replace h := bif_f hb3 h
    refine awp_reg [⟨[((.tmp 1), (.ref 0 5 (0) 0))], [(0, (.own 5 [[(I (p0.T)), (I (p0.P)), (I (p0.Liquid)), (I (p0.Vapour)), (I (p0.Silica))]]))], (.ref 0 5 (0) 0), [], false⟩,
    ⟨[((.tmp 3), (.ref 0 5 (0) 0))], [(0, (.own 5 [[(I (p0.T)), (I (p0.P)), (I (p0.Liquid)), (I (p0.Vapour)), (I (p0.Silica))]]))], (I (p0.T)), [], false⟩,
    ⟨[((.func 65), (.fn (.func 65) [] [])), ((.tmp 4), (I (p0.T))), ((.const (.int .i64 0)), (I (0))), ((.const (.int .i64 400)), (I (400)))], [], (B (x2)), [], false⟩,
    ⟨[((.tmp 5), (B (x2)))], [], (B (false)), [], false⟩,
    ⟨[((.tmp 6), (B (false)))], [], (.lit undef), [], true⟩,
    ⟨[((.tmp 6), (B (false)))], [], (.lit undef), [], true⟩,
    ⟨[((.tmp 6), (B (false)))], [], (.lit undef), [], true⟩,
    ⟨[((.tmp 6), (B (false))), ((.tmp 9), (.lit undef)), ((.const (.bool false)), (B (false)))], [], (B (false)), [], false⟩,
    ⟨[((.tmp 10), (B (false)))], [], (B (false)), [], false⟩,
    ⟨[((.tmp 11), (B (false)))], [], (.lit undef), [], true⟩,
    ⟨[((.tmp 11), (B (false)))], [], (.lit undef), [], true⟩,
    ⟨[((.tmp 11), (B (false)))], [], (.lit undef), [], true⟩,
    ⟨[((.tmp 11), (B (false))), ((.tmp 14), (.lit undef)), ((.const (.bool false)), (B (false)))], [], (B (false)), [], false⟩,
    ⟨[((.tmp 15), (B (false)))], [], (B (false)), [], false⟩,
    ⟨[((.tmp 16), (B (false)))], [], (.lit undef), [], true⟩,
    ⟨[((.tmp 16), (B (false)))], [], (.lit undef), [], true⟩,
    ⟨[((.tmp 16), (B (false)))], [], (.lit undef), [], true⟩,
    ⟨[((.tmp 16), (B (false))), ((.tmp 19), (.lit undef)), ((.const (.bool false)), (B (false)))], [], (B (false)), [], false⟩,
    ⟨[((.tmp 20), (B (false)))], [], (B (false)), [], false⟩,
    ⟨[((.tmp 21), (B (false)))], [], (.lit undef), [], true⟩,
    ⟨[((.tmp 21), (B (false)))], [], (.lit undef), [], true⟩,
    ⟨[((.tmp 21), (B (false)))], [], (.lit undef), [], true⟩,
    ⟨[((.tmp 21), (B (false)))], [], (.lit undef), [], true⟩,
    ⟨[((.tmp 21), (B (false)))], [], (.lit undef), [], true⟩,
    ⟨[((.tmp 21), (B (false))), ((.tmp 26), (.lit undef)), ((.const (.bool false)), (B (false)))], [], (B (false)), [], false⟩,
    ⟨[((.tmp 27), (B (false)))], [], (B (false)), [], false⟩,
    ⟨[((.tmp 28), (B (false)))], [], (.lit undef), [], true⟩,
    ⟨[((.tmp 28), (B (false)))], [], (.lit undef), [], true⟩,
    ⟨[((.tmp 28), (B (false)))], [], (.lit undef), [], true⟩,
    ⟨[((.tmp 28), (B (false))), ((.tmp 31), (.lit undef)), ((.const (.bool false)), (B (false)))], [], (B (false)), [], false⟩,
    ⟨[((.tmp 32), (B (false)))], [], (B (false)), [], false⟩] (by exact ⟨by kernel_rfl, by kernel_rfl⟩) ?_ ?_
    · exact ⟨fun _ => astep_faddr rfl Try.underlying115 rfl rfl ti3 (by decide) rfl,
    fun _ => astep_load rfl ti3 (by decide) rfl (Nat.le_of_ble_eq_true rfl) rfl,
    fun _ => astep_pcall (first := []) (cap := []) (vs := [(I (p0.T)), (I (0)), (I (400))]) rfl enter65 (steam_withinX_ok N p0.T 0 400 _ hf1) rfl rfl (nl_cons (NLt.lit _) (nl_cons (NLt.lit _) (nl_cons (NLt.lit _) nl_nil))) (NLt.lit _) rfl,
    fun _ => astep_b hb3 (astep_move rfl),
    fun hs => (Bool.noConfusion hs),
    fun hs => (Bool.noConfusion hs),
    fun hs => (Bool.noConfusion hs),
    fun _ => astep_pick rfl rfl,
    fun _ => astep_move rfl,
    fun hs => (Bool.noConfusion hs),
    fun hs => (Bool.noConfusion hs),
    fun hs => (Bool.noConfusion hs),
    fun _ => astep_pick rfl rfl,
    fun _ => astep_move rfl,
    fun hs => (Bool.noConfusion hs),
    fun hs => (Bool.noConfusion hs),
    fun hs => (Bool.noConfusion hs),
    fun _ => astep_pick rfl rfl,
    fun _ => astep_move rfl,
    fun hs => (Bool.noConfusion hs),
    fun hs => (Bool.noConfusion hs),
    fun hs => (Bool.noConfusion hs),
    fun hs => (Bool.noConfusion hs),
    fun hs => (Bool.noConfusion hs),
    fun _ => astep_pick rfl rfl,
    fun _ => astep_move rfl,
    fun hs => (Bool.noConfusion hs),
    fun hs => (Bool.noConfusion hs),
    fun hs => (Bool.noConfusion hs),
    fun _ => astep_pick rfl rfl,
    fun _ => astep_assign rfl, trivial⟩
    refine awp_ret ?_
    obtain rfl := Option.some.inj h
    exact ⟨⟨[(B (false))], ⟨resOK_tmp (by kernel_rfl), trivial⟩, rfl⟩, (NLt.lit _), Nat.le_refl _, fun n hn => absurd hn (Nat.not_lt_zero n)⟩

def steam_all_steam_Row_1X_1 (N : Nat) (p0 : GRow) : Option Bool :=
  (steam_Row_aloneX N p0).bind fun x3 =>
  some (!x3)
set_option maxRecDepth 100000 in
set_option maxHeartbeats 4000000 in
theorem steam_all_steam_Row_1X_1_ok (N : Nat) (p0 : GRow) (r : Bool) (h : steam_all_steam_Row_1X_1 N p0 = some r) : Spec Try.prog 95 [(.agg [(I (p0.T)), (I (p0.P)), (I (p0.Liquid)), (I (p0.Vapour)), (I (p0.Silica))]), (.ref 0 1 (0) 0)] [(.own 1 [[(.fn (.func 81) [] [])]])] (B (r)) [(.own 1 [[(.fn (.func 81) [] [])]])] := by
  refine spec_of_awp Try.func95 rfl 1 (Nat.le_of_ble_eq_true rfl) (fun X φ0 w0 hφ0 => ?_)
  unfold steam_all_steam_Row_1X_1 at h
  refine awp_reg [⟨[((.tmp 0), (.agg [(I (p0.T)), (I (p0.P)), (I (p0.Liquid)), (I (p0.Vapour)), (I (p0.Silica))]))], [(1, .unused)], (.ref 1 5 (0) 0), [(1, (.own 5 [[(I (p0.T)), (I (p0.P)), (I (p0.Liquid)), (I (p0.Vapour)), (I (p0.Silica))]]))], false⟩,
    ⟨[((.const (.bool false)), (B (false)))], [], (B (false)), [], false⟩] (by exact ⟨by kernel_rfl, by kernel_rfl⟩) ?_ ?_
  · exact ⟨fun _ => astep_box rfl (by rfl) rfl rfl,
    fun _ => astep_assign rfl, trivial⟩
  obtain ⟨x3, hf2, h⟩ := bind_out h
  refine awp_reg [⟨[((.tmp 1), (.ref 0 1 (0) 0))], [(0, (.own 1 [[(.fn (.func 81) [] [])]]))], (.fn (.func 81) [] []), [], false⟩,
    ⟨[((.tmp 2), (.ref 1 5 (0) 0))], [(1, (.own 5 [[(I (p0.T)), (I (p0.P)), (I (p0.Liquid)), (I (p0.Vapour)), (I (p0.Silica))]]))], (.agg [(I (p0.T)), (I (p0.P)), (I (p0.Liquid)), (I (p0.Vapour)), (I (p0.Silica))]), [], false⟩,
    ⟨[((.tmp 4), (.fn (.func 81) [] [])), ((.tmp 5), (.agg [(I (p0.T)), (I (p0.P)), (I (p0.Liquid)), (I (p0.Vapour)), (I (p0.Silica))]))], [], (B (x3)), [], false⟩,
    ⟨[((.tmp 6), (B (x3)))], [], (B ((!x3))), [], false⟩,
    ⟨[((.tmp 7), (B ((!x3))))], [], (B ((!x3))), [], false⟩] (by exact ⟨by kernel_rfl, by kernel_rfl⟩) ?_ ?_
  · exact ⟨fun _ => astep_load rfl ti129 (by decide) rfl (Nat.le_of_ble_eq_true rfl) rfl,
    fun _ => astep_load rfl ti115 (by decide) rfl (Nat.le_of_ble_eq_true rfl) rfl,
    fun _ => astep_pcall (first := []) (cap := []) (vs := [(.agg [(I (p0.T)), (I (p0.P)), (I (p0.Liquid)), (I (p0.Vapour)), (I (p0.Silica))])]) rfl enter81 (steam_Row_aloneX_ok N p0 _ hf2) rfl rfl (nl_cons (NLt.agg _ (nl_cons (NLt.lit _) (nl_cons (NLt.lit _) (nl_cons (NLt.lit _) (nl_cons (NLt.lit _) (nl_cons (NLt.lit _) nl_nil)))))) nl_nil) (NLt.lit _) rfl,
    fun _ => astep_not rfl,
    fun _ => astep_assign rfl, trivial⟩
  refine awp_mor (mor_to (n := 8) (l' := [(3, (B ((!x3))))]) (own' := [(.own 1 [[(.fn (.func 81) [] [])]])]) [(3, (B ((!x3))))] [0] [(.own 1 [[(.fn (.func 81) [] [])]])] hφ0 (by kernel_rfl) (by kernel_rfl) (by kernel_rfl) ⟨rfl, .rn (.plain _ (NLt.lit _)), trivial⟩ ⟨(spw_box ⟨(.rn (rn_fn rnl_nil rnl_nil)), trivial⟩), trivial⟩) ?_
  refine awp_ret ?_
  obtain rfl := Option.some.inj h
  exact fin_of (vs := [(B ((!x3)))]) ⟨resOK_tmp (by kernel_rfl), trivial⟩ rfl (NLt.of0 (NLt.lit _)) (by kernel_rfl) (snl_cons (snl_box (nl_cons (NLt.of0 (NLt.fn _ _ _ nl_nil nl_nil)) nl_nil)) snl_nil)

def slices_IndexFunc_steam_Row_steam_RowX_1_loop1 (N : Nat) (p0 : (List GRow)) (k2 : Unit → Option Int) : Nat → Int → Option Int
  | 0, _ => none
  | n5 + 1, y3 =>
    bif (decide (y3 < (p0.length : Int))) then
      (getI p0 y3).bind fun x7 =>
      (steam_all_steam_Row_1X_1 N x7).bind fun x12 =>
      bif x12 then
        some y3
      else
        slices_IndexFunc_steam_Row_steam_RowX_1_loop1 N p0 k2 n5 (w64 (y3 + 1))
    else
      k2 ()
def slices_IndexFunc_steam_Row_steam_RowX_1 (N : Nat) (p0 : (List GRow)) : Option Int :=
  joinK (fun _ =>
      some (-1)) fun k2 : Unit → Option Int =>
  slices_IndexFunc_steam_Row_steam_RowX_1_loop1 N p0 k2 N 0
set_option maxRecDepth 100000 in
set_option maxHeartbeats 4000000 in
theorem slices_IndexFunc_steam_Row_steam_RowX_1_ok (N : Nat) (p0 : (List GRow)) (r : Int) (h : slices_IndexFunc_steam_Row_steam_RowX_1 N p0 = some r) : Spec Try.prog 99 [(.dat 5 ((p0 : List GRow).map c_GRow)), (.fn (.func 95) [] [(.ref 0 1 (0) 0)])] [(.own 1 [[(.fn (.func 81) [] [])]])] (I (r)) [(.own 1 [[(.fn (.func 81) [] [])]])] := by
  refine spec_of_awp Try.func99 rfl 1 (Nat.le_of_ble_eq_true rfl) (fun X φ0 w0 hφ0 => ?_)
  unfold slices_IndexFunc_steam_Row_steam_RowX_1 at h
  refine awp_reg [⟨[((.const (.int .i64 0)), (I (0)))], [], (I (0)), [], false⟩] (by exact ⟨by kernel_rfl, by kernel_rfl⟩) ?_ ?_
  · exact ⟨fun _ => astep_assign rfl, trivial⟩
  obtain ⟨k2, hk_k2, h⟩ := joinK_out h
  refine awp_join (τ := Unit) (fun t => k2 t = some r) (fun _ => ⟨mk 19 [], [(.own 1 [[(.fn (.func 81) [] [])]])]⟩) (fun t h => ?_) ?_
  · subst hk_k2
    refine awp_reg [⟨[((.const (.int .i64 (-1))), (I ((-1))))], [], (I ((-1))), [], false⟩] (by exact ⟨by kernel_rfl, by kernel_rfl⟩) ?_ ?_
    · exact ⟨fun _ => astep_assign rfl, trivial⟩
    refine awp_mor (mor_to (n := 19) (l' := [(4, (I ((-1))))]) (own' := [(.own 1 [[(.fn (.func 81) [] [])]])]) [(4, (I ((-1))))] [0] [(.own 1 [[(.fn (.func 81) [] [])]])] hφ0 (by kernel_rfl) (by kernel_rfl) (by kernel_rfl) ⟨rfl, .rn (.plain _ (NLt.lit _)), trivial⟩ ⟨(spw_box ⟨(.rn (rn_fn rnl_nil rnl_nil)), trivial⟩), trivial⟩) ?_
    refine awp_ret ?_
    obtain rfl := Option.some.inj h
    exact fin_of (vs := [(I ((-1)))]) ⟨resOK_tmp (by kernel_rfl), trivial⟩ rfl (NLt.of0 (NLt.lit _)) (by kernel_rfl) (snl_cons (snl_box (nl_cons (NLt.of0 (NLt.fn _ _ _ nl_nil nl_nil)) nl_nil)) snl_nil)
  · skip
    refine awp_reg [⟨[((.tmp 0), (.dat 5 ((p0 : List GRow).map c_GRow)))], [], (.dat 5 ((p0 : List GRow).map c_GRow)), [], false⟩,
    ⟨[((.tmp 6), (.dat 5 ((p0 : List GRow).map c_GRow)))], [], (I ((p0.length : Int))), [], false⟩,
    ⟨[((.const (.int .i64 0)), (I (0)))], [], (I (0)), [], false⟩] (by exact ⟨by kernel_rfl, by kernel_rfl⟩) ?_ ?_
    · exact ⟨fun _ => astep_move rfl,
    fun _ => astep_lenm (c := c_GRow) (l := p0) (astep_len rfl Try.underlying29 rfl),
    fun _ => astep_move rfl, trivial⟩
    refine awp_block ?_
    refine awp_mor (mor_to (n := 19) (l' := [(0, (.dat 5 ((p0 : List GRow).map c_GRow))), (1, (.fn (.func 95) [] [(.ref 0 1 (0) 0)])), (7, (I ((p0.length : Int)))), (8, (I (0)))]) (own' := [(.own 1 [[(.fn (.func 81) [] [])]])]) [(0, (.dat 5 ((p0 : List GRow).map c_GRow))), (1, (.fn (.func 95) [] [(.ref 0 1 (0) 0)])), (7, (I ((p0.length : Int)))), (8, (I (0)))] [0] [(.own 1 [[(.fn (.func 81) [] [])]])] hφ0 (by kernel_rfl) (by kernel_rfl) (by kernel_rfl) ⟨rfl, .rn (.plain _ (nl_dat nl_GRow _)), rfl, .rn (rn_fn rnl_nil (rnl_cons (rnq_ref rfl) rnl_nil)), rfl, .rn (.plain _ (NLt.lit _)), rfl, .rn (.plain _ (NLt.lit _)), trivial⟩ ⟨(spw_box ⟨(.rn (rn_fn rnl_nil rnl_nil)), trivial⟩), trivial⟩) ?_
    refine awp_ind (τ := Int) (fun n t => slices_IndexFunc_steam_Row_steam_RowX_1_loop1 N p0 k2 n t = some r) (fun y3 => ⟨mk 19 [(0, (.dat 5 ((p0 : List GRow).map c_GRow))), (1, (.fn (.func 95) [] [(.ref 0 1 (0) 0)])), (7, (I ((p0.length : Int)))), (8, (I (y3)))], [(.own 1 [[(.fn (.func 81) [] [])]])]⟩) (fun t h => by rw [slices_IndexFunc_steam_Row_steam_RowX_1_loop1] at h; cases h) (fun n5 ih y3 h => ?_) N (0) h
    rw [slices_IndexFunc_steam_Row_steam_RowX_1_loop1] at h
    skip
    refine awp_reg [⟨[((.tmp 8), (I (y3))), ((.tmp 7), (I ((p0.length : Int))))], [], (B ((decide (y3 < (p0.length : Int))))), [], false⟩] (by exact ⟨by kernel_rfl, by kernel_rfl⟩) ?_ ?_
    · exact ⟨fun _ => astep_bin rfl rfl, trivial⟩
    refine awp_seq ?_
    rcases Bool.eq_false_or_eq_true ((decide (y3 < (p0.length : Int)))) with hc6 | hc6
    · replace h := bif_t hc6 h
      refine awp_ift hc6 (by kernel_rfl) ?_
      refine awp_skip ?_
      refine thenA_n ?_
      refine awp_seq ?_
      refine awp_block ?_
      refine awp_reg [⟨[((.tmp 8), (I (y3)))], [], (I (y3)), [], false⟩,
    ⟨[((.tmp 10), (I (y3)))], [], (I (y3)), [], false⟩] (by exact ⟨by kernel_rfl, by kernel_rfl⟩) ?_ ?_
      · exact ⟨fun _ => astep_move rfl,
    fun _ => astep_assign rfl, trivial⟩
      obtain ⟨x7, hg8, h⟩ := bind_out h
      obtain ⟨hi9, hj10⟩ := getI_some hg8
      obtain ⟨x12, hf11, h⟩ := bind_out h
      refine awp_reg [⟨[((.tmp 1), (.fn (.func 95) [] [(.ref 0 1 (0) 0)]))], [], (.fn (.func 95) [] [(.ref 0 1 (0) 0)]), [], false⟩,
    ⟨[((.tmp 0), (.dat 5 ((p0 : List GRow).map c_GRow)))], [], (.dat 5 ((p0 : List GRow).map c_GRow)), [], false⟩,
    ⟨[((.tmp 5), (I (y3)))], [], (I (y3)), [], false⟩,
    ⟨[((.tmp 12), (.dat 5 ((p0 : List GRow).map c_GRow))), ((.tmp 13), (I (y3)))], [], (.dptr (c_GRow (x7)) 0), [], false⟩,
    ⟨[((.tmp 14), (.dptr (c_GRow (x7)) 0))], [], (.agg [(I (x7.T)), (I (x7.P)), (I (x7.Liquid)), (I (x7.Vapour)), (I (x7.Silica))]), [], false⟩,
    ⟨[((.tmp 11), (.fn (.func 95) [] [(.ref 0 1 (0) 0)])), ((.tmp 15), (.agg [(I (x7.T)), (I (x7.P)), (I (x7.Liquid)), (I (x7.Vapour)), (I (x7.Silica))]))], [(0, (.own 1 [[(.fn (.func 81) [] [])]]))], (B (x12)), [(0, (.own 1 [[(.fn (.func 81) [] [])]]))], false⟩] (by exact ⟨by kernel_rfl, by kernel_rfl⟩) ?_ ?_
      · exact ⟨fun _ => astep_move rfl,
    fun _ => astep_move rfl,
    fun _ => astep_move rfl,
    fun _ => astep_idxd rfl Try.underlying29 ti115 rfl rfl hi9 (map_get c_GRow hj10) rfl,
    fun _ => astep_loadd rfl ti115 (by decide) (Nat.le_of_ble_eq_true rfl) rfl,
    fun _ => astep_callq (first := []) (cap := [(.ref 0 1 (0) 0)]) (vs := [(.agg [(I (x7.T)), (I (x7.P)), (I (x7.Liquid)), (I (x7.Vapour)), (I (x7.Silica))])]) (σr := [(.own 1 [[(.fn (.func 81) [] [])]])]) (σr' := [(.own 1 [[(.fn (.func 81) [] [])]])]) (res' := (B (x12))) [0] rfl enter95 (steam_all_steam_Row_1X_1_ok N x7 _ hf11) rfl (rn_agg (rnl_cons (.plain _ (NLt.agg _ (nl_cons (NLt.lit _) (nl_cons (NLt.lit _) (nl_cons (NLt.lit _) (nl_cons (NLt.lit _) (nl_cons (NLt.lit _) nl_nil))))))) (rnl_cons (rnk_ref rfl) rnl_nil))) (slw_cons (srn_box (rnl_cons (.plain _ (NLt.fn _ _ _ nl_nil nl_nil)) rnl_nil)) slw_nil) (slw_cons (srn_box (rnl_cons (.plain _ (NLt.fn _ _ _ nl_nil nl_nil)) rnl_nil)) slw_nil) (.plain _ (NLt.lit _)) rfl rfl rfl, trivial⟩
      rcases Bool.eq_false_or_eq_true (x12) with hc13 | hc13
      · replace h := bif_t hc13 h
        refine awp_ift hc13 (by kernel_rfl) ?_
        refine awp_reg [⟨[((.tmp 5), (I (y3)))], [], (I (y3)), [], false⟩,
    ⟨[((.tmp 17), (I (y3)))], [], (I (y3)), [], false⟩] (by exact ⟨by kernel_rfl, by kernel_rfl⟩) ?_ ?_
        · exact ⟨fun _ => astep_move rfl,
    fun _ => astep_assign rfl, trivial⟩
        refine awp_mor (mor_to (n := 19) (l' := [(4, (I (y3)))]) (own' := [(.own 1 [[(.fn (.func 81) [] [])]])]) [(4, (I (y3)))] [0] [(.own 1 [[(.fn (.func 81) [] [])]])] hφ0 (by kernel_rfl) (by kernel_rfl) (by kernel_rfl) ⟨rfl, .rn (.plain _ (NLt.lit _)), trivial⟩ ⟨(spw_box ⟨(.rn (rn_fn rnl_nil rnl_nil)), trivial⟩), trivial⟩) ?_
        refine awp_ret ?_
        refine blockA_r ?_
        refine thenA_r ?_
        refine thenA_r ?_
        refine blockA_r ?_
        refine thenA_r ?_
        obtain rfl := Option.some.inj h
        exact fin_of (vs := [(I (y3))]) ⟨resOK_tmp (by kernel_rfl), trivial⟩ rfl (NLt.of0 (NLt.lit _)) (by kernel_rfl) (snl_cons (snl_box (nl_cons (NLt.of0 (NLt.fn _ _ _ nl_nil nl_nil)) nl_nil)) snl_nil)
      · replace h := bif_f hc13 h
        refine awp_ifn hc13 (by kernel_rfl) ?_
        refine awp_skip ?_
        refine blockA_n ?_
        refine thenA_n ?_
        refine awp_reg1 [⟨[((.tmp 8), (I (y3))), ((.const (.int .i64 1)), (I (1)))], [], (I (w64 (y3 + 1))), [], false⟩,
    ⟨[((.tmp 18), (I (w64 (y3 + 1))))], [], (I (w64 (y3 + 1))), [], false⟩] (by exact ⟨by kernel_rfl, by kernel_rfl⟩) ?_ ?_
        · exact ⟨fun _ => astep_bin rfl rfl,
    fun _ => astep_move rfl, trivial⟩
        refine thenA_n ?_
        exact around_mor (mor_to (n := 19) (l' := [(0, (.dat 5 ((p0 : List GRow).map c_GRow))), (1, (.fn (.func 95) [] [(.ref 0 1 (0) 0)])), (7, (I ((p0.length : Int)))), (8, (I ((w64 (y3 + 1)))))]) (own' := [(.own 1 [[(.fn (.func 81) [] [])]])]) [(0, (.dat 5 ((p0 : List GRow).map c_GRow))), (1, (.fn (.func 95) [] [(.ref 0 1 (0) 0)])), (7, (I ((p0.length : Int)))), (8, (I (w64 (y3 + 1))))] [0] [(.own 1 [[(.fn (.func 81) [] [])]])] hφ0 (by kernel_rfl) (by kernel_rfl) (by kernel_rfl) ⟨rfl, .rn (.plain _ (nl_dat nl_GRow _)), rfl, .rn (rn_fn rnl_nil (rnl_cons (rnq_ref rfl) rnl_nil)), rfl, .rn (.plain _ (NLt.lit _)), rfl, .rn (.plain _ (NLt.lit _)), trivial⟩ ⟨(spw_box ⟨(.rn (rn_fn rnl_nil rnl_nil)), trivial⟩), trivial⟩) (ih (w64 (y3 + 1)) h)
    · replace h := bif_f hc6 h
      refine awp_ifn hc6 (by kernel_rfl) ?_
      refine awp_exit ?_
      refine thenA_x ?_
      refine thenA_x ?_
      refine blockA_e rfl ?_
      refine thenA_n ?_
      exact ⟨(), h, (mor_to (n := 19) (l' := []) (own' := [(.own 1 [[(.fn (.func 81) [] [])]])]) [] [0] [(.own 1 [[(.fn (.func 81) [] [])]])] hφ0 (by kernel_rfl) (by kernel_rfl) (by kernel_rfl) trivial ⟨(spw_box ⟨(.rn (rn_fn rnl_nil rnl_nil)), trivial⟩), trivial⟩)⟩

def slices_ContainsFunc_steam_Row_steam_RowX_1 (N : Nat) (p0 : (List GRow)) : Option Bool :=
  (slices_IndexFunc_steam_Row_steam_RowX_1 N p0).bind fun x3 =>
  some (decide (x3 ≥ 0))
set_option maxRecDepth 100000 in
set_option maxHeartbeats 4000000 in
theorem slices_ContainsFunc_steam_Row_steam_RowX_1_ok (N : Nat) (p0 : (List GRow)) (r : Bool) (h : slices_ContainsFunc_steam_Row_steam_RowX_1 N p0 = some r) : Spec Try.prog 94 [(.dat 5 ((p0 : List GRow).map c_GRow)), (.fn (.func 95) [] [(.ref 0 1 (0) 0)])] [(.own 1 [[(.fn (.func 81) [] [])]])] (B (r)) [(.own 1 [[(.fn (.func 81) [] [])]])] := by
  refine spec_of_awp Try.func94 rfl 1 (Nat.le_of_ble_eq_true rfl) (fun X φ0 w0 hφ0 => ?_)
  unfold slices_ContainsFunc_steam_Row_steam_RowX_1 at h
  refine awp_reg [⟨[((.const (.bool false)), (B (false)))], [], (B (false)), [], false⟩] (by exact ⟨by kernel_rfl, by kernel_rfl⟩) ?_ ?_
  · exact ⟨fun _ => astep_assign rfl, trivial⟩
  obtain ⟨x3, hf2, h⟩ := bind_out h
  refine awp_reg [⟨[((.tmp 0), (.dat 5 ((p0 : List GRow).map c_GRow)))], [], (.dat 5 ((p0 : List GRow).map c_GRow)), [], false⟩,
    ⟨[((.tmp 1), (.fn (.func 95) [] [(.ref 0 1 (0) 0)]))], [], (.fn (.func 95) [] [(.ref 0 1 (0) 0)]), [], false⟩,
    ⟨[((.func 99), (.fn (.func 99) [] [])), ((.tmp 5), (.dat 5 ((p0 : List GRow).map c_GRow))), ((.tmp 6), (.fn (.func 95) [] [(.ref 0 1 (0) 0)]))], [(0, (.own 1 [[(.fn (.func 81) [] [])]]))], (I (x3)), [(0, (.own 1 [[(.fn (.func 81) [] [])]]))], false⟩,
    ⟨[((.tmp 7), (I (x3))), ((.const (.int .i64 0)), (I (0)))], [], (B ((decide (x3 ≥ 0)))), [], false⟩,
    ⟨[((.tmp 8), (B ((decide (x3 ≥ 0)))))], [], (B ((decide (x3 ≥ 0)))), [], false⟩] (by exact ⟨by kernel_rfl, by kernel_rfl⟩) ?_ ?_
  · exact ⟨fun _ => astep_move rfl,
    fun _ => astep_move rfl,
    fun _ => astep_callq (first := []) (cap := []) (vs := [(.dat 5 ((p0 : List GRow).map c_GRow)), (.fn (.func 95) [] [(.ref 0 1 (0) 0)])]) (σr := [(.own 1 [[(.fn (.func 81) [] [])]])]) (σr' := [(.own 1 [[(.fn (.func 81) [] [])]])]) (res' := (I (x3))) [0] rfl enter99 (slices_IndexFunc_steam_Row_steam_RowX_1_ok N p0 _ hf2) rfl (rn_agg (rnl_cons (.plain _ (nl_dat nl_GRow _)) (rnl_cons (rn_fn rnl_nil (rnl_cons (rnk_ref rfl) rnl_nil)) rnl_nil))) (slw_cons (srn_box (rnl_cons (.plain _ (NLt.fn _ _ _ nl_nil nl_nil)) rnl_nil)) slw_nil) (slw_cons (srn_box (rnl_cons (.plain _ (NLt.fn _ _ _ nl_nil nl_nil)) rnl_nil)) slw_nil) (.plain _ (NLt.lit _)) rfl rfl rfl,
    fun _ => astep_bin rfl rfl,
    fun _ => astep_assign rfl, trivial⟩
  refine awp_mor (mor_to (n := 9) (l' := [(4, (B ((decide (x3 ≥ 0)))))]) (own' := [(.own 1 [[(.fn (.func 81) [] [])]])]) [(4, (B ((decide (x3 ≥ 0)))))] [0] [(.own 1 [[(.fn (.func 81) [] [])]])] hφ0 (by kernel_rfl) (by kernel_rfl) (by kernel_rfl) ⟨rfl, .rn (.plain _ (NLt.lit _)), trivial⟩ ⟨(spw_box ⟨(.rn (rn_fn rnl_nil rnl_nil)), trivial⟩), trivial⟩) ?_
  refine awp_ret ?_
  obtain rfl := Option.some.inj h
  exact fin_of (vs := [(B ((decide (x3 ≥ 0))))]) ⟨resOK_tmp (by kernel_rfl), trivial⟩ rfl (NLt.of0 (NLt.lit _)) (by kernel_rfl) (snl_cons (snl_box (nl_cons (NLt.of0 (NLt.fn _ _ _ nl_nil nl_nil)) nl_nil)) snl_nil)

def steam_all_steam_RowX_1 (N : Nat) (p0 : (List GRow)) : Option Bool :=
  (slices_ContainsFunc_steam_Row_steam_RowX_1 N p0).bind fun x2 =>
  some (!x2)
set_option maxRecDepth 100000 in
set_option maxHeartbeats 4000000 in
theorem steam_all_steam_RowX_1_ok (N : Nat) (p0 : (List GRow)) (r : Bool) (h : steam_all_steam_RowX_1 N p0 = some r) : Spec Try.prog 80 [(.dat 5 ((p0 : List GRow).map c_GRow)), (.fn (.func 81) [] [])] [] (B (r)) [] := by
  refine spec_of_awp Try.func80 rfl 0 (Nat.le_of_ble_eq_true rfl) (fun X φ0 w0 hφ0 => ?_)
  unfold steam_all_steam_RowX_1 at h
  refine awp_reg [⟨[((.tmp 1), (.fn (.func 81) [] []))], [(0, .unused)], (.ref 0 1 (0) 0), [(0, (.own 1 [[(.fn (.func 81) [] [])]]))], false⟩,
    ⟨[((.const (.bool false)), (B (false)))], [], (B (false)), [], false⟩] (by exact ⟨by kernel_rfl, by kernel_rfl⟩) ?_ ?_
  · exact ⟨fun _ => astep_box rfl (by rfl) rfl rfl,
    fun _ => astep_assign rfl, trivial⟩
  obtain ⟨x2, hf1, h⟩ := bind_out h
  refine awp_reg [⟨[((.tmp 0), (.dat 5 ((p0 : List GRow).map c_GRow)))], [], (.dat 5 ((p0 : List GRow).map c_GRow)), [], false⟩,
    ⟨[((.tmp 3), (.ref 0 1 (0) 0))], [], (.fn (.func 95) [] [(.ref 0 1 (0) 0)]), [], false⟩,
    ⟨[((.func 94), (.fn (.func 94) [] [])), ((.tmp 5), (.dat 5 ((p0 : List GRow).map c_GRow))), ((.tmp 6), (.fn (.func 95) [] [(.ref 0 1 (0) 0)]))], [(0, (.own 1 [[(.fn (.func 81) [] [])]]))], (B (x2)), [(0, (.own 1 [[(.fn (.func 81) [] [])]]))], false⟩,
    ⟨[((.tmp 7), (B (x2)))], [], (B ((!x2))), [], false⟩,
    ⟨[((.tmp 8), (B ((!x2))))], [], (B ((!x2))), [], false⟩] (by exact ⟨by kernel_rfl, by kernel_rfl⟩) ?_ ?_
  · exact ⟨fun _ => astep_move rfl,
    fun _ => astep_func (fs := []) (cs := [(.ref 0 1 (0) 0)]) rfl rfl rfl rfl,
    fun _ => astep_callq (first := []) (cap := []) (vs := [(.dat 5 ((p0 : List GRow).map c_GRow)), (.fn (.func 95) [] [(.ref 0 1 (0) 0)])]) (σr := [(.own 1 [[(.fn (.func 81) [] [])]])]) (σr' := [(.own 1 [[(.fn (.func 81) [] [])]])]) (res' := (B (x2))) [0] rfl enter94 (slices_ContainsFunc_steam_Row_steam_RowX_1_ok N p0 _ hf1) rfl (rn_agg (rnl_cons (.plain _ (nl_dat nl_GRow _)) (rnl_cons (rn_fn rnl_nil (rnl_cons (rnk_ref rfl) rnl_nil)) rnl_nil))) (slw_cons (srn_box (rnl_cons (.plain _ (NLt.fn _ _ _ nl_nil nl_nil)) rnl_nil)) slw_nil) (slw_cons (srn_box (rnl_cons (.plain _ (NLt.fn _ _ _ nl_nil nl_nil)) rnl_nil)) slw_nil) (.plain _ (NLt.lit _)) rfl rfl rfl,
    fun _ => astep_not rfl,
    fun _ => astep_assign rfl, trivial⟩
  refine awp_ret ?_
  obtain rfl := Option.some.inj h
  exact ⟨⟨[(B ((!x2)))], ⟨resOK_tmp (by kernel_rfl), trivial⟩, rfl⟩, (NLt.lit _), Nat.le_refl _, fun n hn => absurd hn (Nat.not_lt_zero n)⟩

def steam_Table_validX_loop1 (N : Nat) (p0 : (List GRow)) (k2 : Unit → Option Bool) : Nat → Int → Option Bool
  | 0, _ => none
  | n6 + 1, y4 =>
    bif (decide (y4 < ((p0.drop (1 : Int).toNat).length : Int))) then
      (getI (p0.drop (1 : Int).toNat) y4).bind fun x8 =>
      (getI p0 y4).bind fun x12 =>
      bif (decide (x8.T ≤ x12.T)) then
        some false
      else
        bif (decide (x8.P ≤ x12.P)) then
          some false
        else
          bif (decide (x8.Liquid ≤ x12.Liquid)) then
            some false
          else
            bif (decide (x8.Silica < x12.Silica)) then
              some false
            else
              steam_Table_validX_loop1 N p0 k2 n6 (w64 (y4 + 1))
    else
      k2 ()
def steam_Table_validX (N : Nat) (p0 : (List GRow)) : Option Bool :=
  joinK (fun _ =>
      joinK (fun _ =>
          some true) fun k2 : Unit → Option Bool =>
      chk (decide (0 ≤ 1) && decide (1 ≤ (p0.length : Int)) && decide ((p0.length : Int) ≤ (p0.length : Int))) <|
      steam_Table_validX_loop1 N p0 k2 N 0) fun k1 : Unit → Option Bool =>
  (steam_withinX N (p0.length : Int) 2 20).bind fun x21 =>
  bif (!x21) then
    some false
  else
    (steam_all_steam_RowX_1 N p0).bind fun x24 =>
    bif (!x24) then
      some false
    else
      k1 ()
set_option maxRecDepth 100000 in
set_option maxHeartbeats 4000000 in
theorem steam_Table_validX_ok (N : Nat) (p0 : (List GRow)) (r : Bool) (h : steam_Table_validX N p0 = some r) : Spec Try.prog 56 [(.dat 5 (p0.map c_GRow))] [] (B r) [] := by
  refine spec_of_awp Try.func56 rfl 0 (Nat.le_of_ble_eq_true rfl) (fun X φ0 w0 hφ0 => ?_)
  unfold steam_Table_validX at h
  refine awp_reg [⟨[((.const (.bool false)), (B (false)))], [], (B (false)), [], false⟩] (by exact ⟨by kernel_rfl, by kernel_rfl⟩) ?_ ?_
  · exact ⟨fun _ => astep_assign rfl, trivial⟩
  obtain ⟨k1, hk_k1, h⟩ := joinK_out h
  refine awp_join (τ := Unit) (fun t => k1 t = some r) (fun _ => ⟨mk 54 [(0, (.dat 5 ((p0 : List GRow).map c_GRow)))], []⟩) (fun t h => ?_) ?_
  · subst hk_k1
    obtain ⟨k2, hk_k2, h⟩ := joinK_out h
    refine awp_join (τ := Unit) (fun t => k2 t = some r) (fun _ => ⟨mk 54 [], []⟩) (fun t h => ?_) ?_
    · subst hk_k2
      refine awp_reg [⟨[((.const (.bool true)), (B (true)))], [], (B (true)), [], false⟩] (by exact ⟨by kernel_rfl, by kernel_rfl⟩) ?_ ?_
      · exact ⟨fun _ => astep_assign rfl, trivial⟩
      refine awp_ret ?_
      obtain rfl := Option.some.inj h
      exact ⟨⟨[(B (true))], ⟨resOK_tmp (by kernel_rfl), trivial⟩, rfl⟩, (NLt.lit _), Nat.le_refl _, fun n hn => absurd hn (Nat.not_lt_zero n)⟩
    · skip
      obtain ⟨hs3, h⟩ := chk_out h
      refine awp_reg [⟨[((.tmp 0), (.dat 5 ((p0 : List GRow).map c_GRow)))], [], (.dat 5 ((p0 : List GRow).map c_GRow)), [], false⟩,
    ⟨[((.tmp 15), (.dat 5 ((p0 : List GRow).map c_GRow))), ((.const (.int .i64 1)), (I (1)))], [], (.dat 5 ((p0.drop (1 : Int).toNat : List GRow).map c_GRow)), [], false⟩,
    ⟨[((.tmp 16), (.dat 5 ((p0.drop (1 : Int).toNat : List GRow).map c_GRow)))], [], (I (((p0.drop (1 : Int).toNat).length : Int))), [], false⟩,
    ⟨[((.const (.int .i64 0)), (I (0)))], [], (I (0)), [], false⟩] (by exact ⟨by kernel_rfl, by kernel_rfl⟩) ?_ ?_
      · exact ⟨fun _ => astep_move rfl,
    fun _ => astep_sliced (k := .i64) (k' := .i64) (lo := some (.const (.int .i64 1))) (hi := none) (l := 1) (hh := ((p0.length : Nat) : Int)) rfl Try.underlying30 ti115 rfl (fun e => nomatch e) (fun _ => by simp) (and3a hs3) (and3b hs3) (and3c (c_GRow) hs3) (sl_ln c_GRow),
    fun _ => astep_lenm (c := c_GRow) (l := p0.drop (1 : Int).toNat) (astep_len rfl Try.underlying30 rfl),
    fun _ => astep_move rfl, trivial⟩
      refine awp_block ?_
      refine awp_mor (mor_to (n := 54) (l' := [(0, (.dat 5 ((p0 : List GRow).map c_GRow))), (16, (.dat 5 ((p0.drop (1 : Int).toNat : List GRow).map c_GRow))), (17, (I (((p0.drop (1 : Int).toNat).length : Int)))), (18, (I (0)))]) (own' := []) [(0, (.dat 5 ((p0 : List GRow).map c_GRow))), (16, (.dat 5 ((p0.drop (1 : Int).toNat : List GRow).map c_GRow))), (17, (I (((p0.drop (1 : Int).toNat).length : Int)))), (18, (I (0)))] [] [] hφ0 (by kernel_rfl) (by kernel_rfl) (by kernel_rfl) ⟨rfl, .rn (.plain _ (nl_dat nl_GRow _)), rfl, .rn (.plain _ (nl_dat nl_GRow _)), rfl, .rn (.plain _ (NLt.lit _)), rfl, .rn (.plain _ (NLt.lit _)), trivial⟩ trivial) ?_
      refine awp_ind (τ := Int) (fun n t => steam_Table_validX_loop1 N p0 k2 n t = some r) (fun y4 => ⟨mk 54 [(0, (.dat 5 ((p0 : List GRow).map c_GRow))), (16, (.dat 5 ((p0.drop (1 : Int).toNat : List GRow).map c_GRow))), (17, (I (((p0.drop (1 : Int).toNat).length : Int)))), (18, (I (y4)))], []⟩) (fun t h => by rw [steam_Table_validX_loop1] at h; cases h) (fun n6 ih y4 h => ?_) N (0) h
      rw [steam_Table_validX_loop1] at h
      skip
      refine awp_reg [⟨[((.tmp 18), (I (y4))), ((.tmp 17), (I (((p0.drop (1 : Int).toNat).length : Int))))], [], (B ((decide (y4 < ((p0.drop (1 : Int).toNat).length : Int))))), [], false⟩] (by exact ⟨by kernel_rfl, by kernel_rfl⟩) ?_ ?_
      · exact ⟨fun _ => astep_bin rfl rfl, trivial⟩
      refine awp_seq ?_
      rcases Bool.eq_false_or_eq_true ((decide (y4 < ((p0.drop (1 : Int).toNat).length : Int)))) with hc7 | hc7
      · replace h := bif_t hc7 h
        refine awp_ift hc7 (by kernel_rfl) ?_
        refine awp_skip ?_
        refine thenA_n ?_
        refine awp_seq ?_
        refine awp_block ?_
        obtain ⟨x8, hg9, h⟩ := bind_out h
        obtain ⟨hi10, hj11⟩ := getI_some hg9
        refine awp_reg [⟨[((.tmp 18), (I (y4)))], [], (I (y4)), [], false⟩,
    ⟨[((.tmp 16), (.dat 5 ((p0.drop (1 : Int).toNat : List GRow).map c_GRow))), ((.tmp 18), (I (y4)))], [], (.dptr (c_GRow (x8)) 0), [], false⟩,
    ⟨[((.tmp 21), (.dptr (c_GRow (x8)) 0))], [], (.agg [(I (x8.T)), (I (x8.P)), (I (x8.Liquid)), (I (x8.Vapour)), (I (x8.Silica))]), [], false⟩,
    ⟨[], [(0, .unused)], (.ref 0 5 (0) 0), [(0, (.own 5 [[(I (0)), (I (0)), (I (0)), (I (0)), (I (0))]]))], false⟩,
    ⟨[((.tmp 20), (I (y4)))], [], (I (y4)), [], false⟩,
    ⟨[((.tmp 4), (.ref 0 5 (0) 0)), ((.tmp 22), (.agg [(I (x8.T)), (I (x8.P)), (I (x8.Liquid)), (I (x8.Vapour)), (I (x8.Silica))]))], [(0, (.own 5 [[(I (0)), (I (0)), (I (0)), (I (0)), (I (0))]]))], .any, [(0, (.own 5 [[(I (x8.T)), (I (x8.P)), (I (x8.Liquid)), (I (x8.Vapour)), (I (x8.Silica))]]))], false⟩] (by exact ⟨by kernel_rfl, by kernel_rfl⟩) ?_ ?_
        · exact ⟨fun _ => astep_move rfl,
    fun _ => astep_idxd rfl Try.underlying30 ti115 rfl rfl hi10 (map_get c_GRow hj11) rfl,
    fun _ => astep_loadd rfl ti115 (by decide) (Nat.le_of_ble_eq_true rfl) rfl,
    fun _ => astep_alloc rfl tz115 rfl,
    fun _ => astep_assign rfl,
    fun _ => astep_store rfl ti115 (by rfl) rfl (Nat.le_of_ble_eq_true rfl) rfl, trivial⟩
        obtain ⟨x12, hg13, h⟩ := bind_out h
        obtain ⟨hi14, hj15⟩ := getI_some hg13
        refine awp_reg [⟨[((.tmp 0), (.dat 5 ((p0 : List GRow).map c_GRow)))], [], (.dat 5 ((p0 : List GRow).map c_GRow)), [], false⟩,
    ⟨[((.tmp 3), (I (y4)))], [], (I (y4)), [], false⟩,
    ⟨[((.tmp 23), (.dat 5 ((p0 : List GRow).map c_GRow))), ((.tmp 24), (I (y4)))], [], (.dptr (c_GRow (x12)) 0), [], false⟩,
    ⟨[((.tmp 25), (.dptr (c_GRow (x12)) 0))], [], (.agg [(I (x12.T)), (I (x12.P)), (I (x12.Liquid)), (I (x12.Vapour)), (I (x12.Silica))]), [], false⟩,
    ⟨[], [(1, .unused)], (.ref 1 5 (0) 0), [(1, (.own 5 [[(I (0)), (I (0)), (I (0)), (I (0)), (I (0))]]))], false⟩,
    ⟨[((.tmp 5), (.ref 1 5 (0) 0)), ((.tmp 26), (.agg [(I (x12.T)), (I (x12.P)), (I (x12.Liquid)), (I (x12.Vapour)), (I (x12.Silica))]))], [(1, (.own 5 [[(I (0)), (I (0)), (I (0)), (I (0)), (I (0))]]))], .any, [(1, (.own 5 [[(I (x12.T)), (I (x12.P)), (I (x12.Liquid)), (I (x12.Vapour)), (I (x12.Silica))]]))], false⟩] (by exact ⟨by kernel_rfl, by kernel_rfl⟩) ?_ ?_
        · exact ⟨fun _ => astep_move rfl,
    fun _ => astep_move rfl,
    fun _ => astep_idxd rfl Try.underlying30 ti115 rfl rfl hi14 (map_get c_GRow hj15) rfl,
    fun _ => astep_loadd rfl ti115 (by decide) (Nat.le_of_ble_eq_true rfl) rfl,
    fun _ => astep_alloc rfl tz115 rfl,
    fun _ => astep_store rfl ti115 (by rfl) rfl (Nat.le_of_ble_eq_true rfl) rfl, trivial⟩
        rcases Bool.eq_false_or_eq_true ((decide (x8.T ≤ x12.T))) with hb16 | hb16
        · replace h := bif_t hb16 h
          refine awp_reg [⟨[((.tmp 4), (.ref 0 5 (0) 0))], [(0, (.own 5 [[(I (x8.T)), (I (x8.P)), (I (x8.Liquid)), (I (x8.Vapour)), (I (x8.Silica))]]))], (.ref 0 5 (0) 0), [], false⟩,
    ⟨[((.tmp 27), (.ref 0 5 (0) 0))], [(0, (.own 5 [[(I (x8.T)), (I (x8.P)), (I (x8.Liquid)), (I (x8.Vapour)), (I (x8.Silica))]]))], (I (x8.T)), [], false⟩,
    ⟨[((.tmp 5), (.ref 1 5 (0) 0))], [(1, (.own 5 [[(I (x12.T)), (I (x12.P)), (I (x12.Liquid)), (I (x12.Vapour)), (I (x12.Silica))]]))], (.ref 1 5 (0) 0), [], false⟩,
    ⟨[((.tmp 29), (.ref 1 5 (0) 0))], [(1, (.own 5 [[(I (x12.T)), (I (x12.P)), (I (x12.Liquid)), (I (x12.Vapour)), (I (x12.Silica))]]))], (I (x12.T)), [], false⟩,
    ⟨[((.tmp 28), (I (x8.T))), ((.tmp 30), (I (x12.T)))], [], (B ((decide (x8.T ≤ x12.T)))), [], false⟩,
    ⟨[((.tmp 31), (B ((decide (x8.T ≤ x12.T)))))], [], (B (true)), [], false⟩,
    ⟨[((.tmp 32), (B (true)))], [], (.lit undef), [], true⟩,
    ⟨[((.tmp 32), (B (true)))], [], (.lit undef), [], true⟩,
    ⟨[((.tmp 32), (B (true)))], [], (.lit undef), [], true⟩,
    ⟨[((.tmp 32), (B (true)))], [], (.lit undef), [], true⟩,
    ⟨[((.tmp 32), (B (true)))], [], (.lit undef), [], true⟩,
    ⟨[((.tmp 32), (B (true))), ((.const (.bool true)), (B (true))), ((.tmp 37), (.lit undef))], [], (B (true)), [], false⟩,
    ⟨[((.tmp 38), (B (true)))], [], (B (true)), [], false⟩,
    ⟨[((.tmp 39), (B (true)))], [], (.lit undef), [], true⟩,
    ⟨[((.tmp 39), (B (true)))], [], (.lit undef), [], true⟩,
    ⟨[((.tmp 39), (B (true)))], [], (.lit undef), [], true⟩,
    ⟨[((.tmp 39), (B (true)))], [], (.lit undef), [], true⟩,
    ⟨[((.tmp 39), (B (true)))], [], (.lit undef), [], true⟩,
    ⟨[((.tmp 39), (B (true))), ((.const (.bool true)), (B (true))), ((.tmp 44), (.lit undef))], [], (B (true)), [], false⟩,
    ⟨[((.tmp 45), (B (true)))], [], (B (true)), [], false⟩,
    ⟨[((.tmp 46), (B (true)))], [], (.lit undef), [], true⟩,
    ⟨[((.tmp 46), (B (true)))], [], (.lit undef), [], true⟩,
    ⟨[((.tmp 46), (B (true)))], [], (.lit undef), [], true⟩,
    ⟨[((.tmp 46), (B (true)))], [], (.lit undef), [], true⟩,
    ⟨[((.tmp 46), (B (true)))], [], (.lit undef), [], true⟩,
    ⟨[((.tmp 46), (B (true))), ((.const (.bool true)), (B (true))), ((.tmp 51), (.lit undef))], [], (B (true)), [], false⟩] (by exact ⟨by kernel_rfl, by kernel_rfl⟩) ?_ ?_
          · exact ⟨fun _ => astep_faddr rfl Try.underlying115 rfl rfl ti3 (by decide) rfl,
    fun _ => astep_load rfl ti3 (by decide) rfl (Nat.le_of_ble_eq_true rfl) rfl,
    fun _ => astep_faddr rfl Try.underlying115 rfl rfl ti3 (by decide) rfl,
    fun _ => astep_load rfl ti3 (by decide) rfl (Nat.le_of_ble_eq_true rfl) rfl,
    fun _ => astep_bin rfl rfl,
    fun _ => astep_b hb16 (astep_move rfl),
    fun hs => (Bool.noConfusion hs),
    fun hs => (Bool.noConfusion hs),
    fun hs => (Bool.noConfusion hs),
    fun hs => (Bool.noConfusion hs),
    fun hs => (Bool.noConfusion hs),
    fun _ => astep_pick rfl rfl,
    fun _ => astep_move rfl,
    fun hs => (Bool.noConfusion hs),
    fun hs => (Bool.noConfusion hs),
    fun hs => (Bool.noConfusion hs),
    fun hs => (Bool.noConfusion hs),
    fun hs => (Bool.noConfusion hs),
    fun _ => astep_pick rfl rfl,
    fun _ => astep_move rfl,
    fun hs => (Bool.noConfusion hs),
    fun hs => (Bool.noConfusion hs),
    fun hs => (Bool.noConfusion hs),
    fun hs => (Bool.noConfusion hs),
    fun hs => (Bool.noConfusion hs),
    fun _ => astep_pick rfl rfl, trivial⟩
          refine awp_true (by kernel_rfl) ?_
          refine awp_reg [⟨[((.const (.bool false)), (B (false)))], [], (B (false)), [], false⟩] (by exact ⟨by kernel_rfl, by kernel_rfl⟩) ?_ ?_
          · exact ⟨fun _ => astep_assign rfl, trivial⟩
          refine awp_ret ?_
          refine blockA_r ?_
          refine thenA_r ?_
          refine thenA_r ?_
          refine blockA_r ?_
          refine thenA_r ?_
          obtain rfl := Option.some.inj h
          exact ⟨⟨[(B (false))], ⟨resOK_tmp (by kernel_rfl), trivial⟩, rfl⟩, (NLt.lit _), Nat.le_refl _, fun n hn => absurd hn (Nat.not_lt_zero n)⟩
        · replace h := bif_f hb16 h
          rcases Bool.eq_false_or_eq_true ((decide (x8.P ≤ x12.P))) with hb17 | hb17
          · replace h := bif_t hb17 h
            refine awp_reg [⟨[((.tmp 4), (.ref 0 5 (0) 0))], [(0, (.own 5 [[(I (x8.T)), (I (x8.P)), (I (x8.Liquid)), (I (x8.Vapour)), (I (x8.Silica))]]))], (.ref 0 5 (0) 0), [], false⟩,
    ⟨[((.tmp 27), (.ref 0 5 (0) 0))], [(0, (.own 5 [[(I (x8.T)), (I (x8.P)), (I (x8.Liquid)), (I (x8.Vapour)), (I (x8.Silica))]]))], (I (x8.T)), [], false⟩,
    ⟨[((.tmp 5), (.ref 1 5 (0) 0))], [(1, (.own 5 [[(I (x12.T)), (I (x12.P)), (I (x12.Liquid)), (I (x12.Vapour)), (I (x12.Silica))]]))], (.ref 1 5 (0) 0), [], false⟩,
    ⟨[((.tmp 29), (.ref 1 5 (0) 0))], [(1, (.own 5 [[(I (x12.T)), (I (x12.P)), (I (x12.Liquid)), (I (x12.Vapour)), (I (x12.Silica))]]))], (I (x12.T)), [], false⟩,
    ⟨[((.tmp 28), (I (x8.T))), ((.tmp 30), (I (x12.T)))], [], (B ((decide (x8.T ≤ x12.T)))), [], false⟩,
    ⟨[((.tmp 31), (B ((decide (x8.T ≤ x12.T)))))], [], (B (false)), [], false⟩,
    ⟨[((.tmp 32), (B (false))), ((.tmp 4), (.ref 0 5 (0) 0))], [(0, (.own 5 [[(I (x8.T)), (I (x8.P)), (I (x8.Liquid)), (I (x8.Vapour)), (I (x8.Silica))]]))], (.ref 0 5 (0) 1), [], false⟩,
    ⟨[((.tmp 32), (B (false))), ((.tmp 33), (.ref 0 5 (0) 1))], [(0, (.own 5 [[(I (x8.T)), (I (x8.P)), (I (x8.Liquid)), (I (x8.Vapour)), (I (x8.Silica))]]))], (I (x8.P)), [], false⟩,
    ⟨[((.tmp 32), (B (false))), ((.tmp 5), (.ref 1 5 (0) 0))], [(1, (.own 5 [[(I (x12.T)), (I (x12.P)), (I (x12.Liquid)), (I (x12.Vapour)), (I (x12.Silica))]]))], (.ref 1 5 (0) 1), [], false⟩,
    ⟨[((.tmp 32), (B (false))), ((.tmp 35), (.ref 1 5 (0) 1))], [(1, (.own 5 [[(I (x12.T)), (I (x12.P)), (I (x12.Liquid)), (I (x12.Vapour)), (I (x12.Silica))]]))], (I (x12.P)), [], false⟩,
    ⟨[((.tmp 32), (B (false))), ((.tmp 34), (I (x8.P))), ((.tmp 36), (I (x12.P)))], [], (B ((decide (x8.P ≤ x12.P)))), [], false⟩,
    ⟨[((.tmp 32), (B (false))), ((.const (.bool true)), (B (true))), ((.tmp 37), (B ((decide (x8.P ≤ x12.P)))))], [], (B ((decide (x8.P ≤ x12.P)))), [], false⟩,
    ⟨[((.tmp 38), (B ((decide (x8.P ≤ x12.P)))))], [], (B (true)), [], false⟩,
    ⟨[((.tmp 39), (B (true)))], [], (.lit undef), [], true⟩,
    ⟨[((.tmp 39), (B (true)))], [], (.lit undef), [], true⟩,
    ⟨[((.tmp 39), (B (true)))], [], (.lit undef), [], true⟩,
    ⟨[((.tmp 39), (B (true)))], [], (.lit undef), [], true⟩,
    ⟨[((.tmp 39), (B (true)))], [], (.lit undef), [], true⟩,
    ⟨[((.tmp 39), (B (true))), ((.const (.bool true)), (B (true))), ((.tmp 44), (.lit undef))], [], (B (true)), [], false⟩,
    ⟨[((.tmp 45), (B (true)))], [], (B (true)), [], false⟩,
    ⟨[((.tmp 46), (B (true)))], [], (.lit undef), [], true⟩,
    ⟨[((.tmp 46), (B (true)))], [], (.lit undef), [], true⟩,
    ⟨[((.tmp 46), (B (true)))], [], (.lit undef), [], true⟩,
    ⟨[((.tmp 46), (B (true)))], [], (.lit undef), [], true⟩,
    ⟨[((.tmp 46), (B (true)))], [], (.lit undef), [], true⟩,
    ⟨[((.tmp 46), (B (true))), ((.const (.bool true)), (B (true))), ((.tmp 51), (.lit undef))], [], (B (true)), [], false⟩] (by exact ⟨by kernel_rfl, by kernel_rfl⟩) ?_ ?_
            · exact ⟨fun _ => astep_faddr rfl Try.underlying115 rfl rfl ti3 (by decide) rfl,
    fun _ => astep_load rfl ti3 (by decide) rfl (Nat.le_of_ble_eq_true rfl) rfl,
    fun _ => astep_faddr rfl Try.underlying115 rfl rfl ti3 (by decide) rfl,
    fun _ => astep_load rfl ti3 (by decide) rfl (Nat.le_of_ble_eq_true rfl) rfl,
    fun _ => astep_bin rfl rfl,
    fun _ => astep_b hb16 (astep_move rfl),
    fun _ => astep_guard (astep_faddr rfl Try.underlying115 rfl rfl ti3 (by decide) rfl),
    fun _ => astep_guard (astep_load rfl ti3 (by decide) rfl (Nat.le_of_ble_eq_true rfl) rfl),
    fun _ => astep_guard (astep_faddr rfl Try.underlying115 rfl rfl ti3 (by decide) rfl),
    fun _ => astep_guard (astep_load rfl ti3 (by decide) rfl (Nat.le_of_ble_eq_true rfl) rfl),
    fun _ => astep_guard (astep_bin rfl rfl),
    fun _ => astep_pick rfl rfl,
    fun _ => astep_b hb17 (astep_move rfl),
    fun hs => (Bool.noConfusion hs),
    fun hs => (Bool.noConfusion hs),
    fun hs => (Bool.noConfusion hs),
    fun hs => (Bool.noConfusion hs),
    fun hs => (Bool.noConfusion hs),
    fun _ => astep_pick rfl rfl,
    fun _ => astep_move rfl,
    fun hs => (Bool.noConfusion hs),
    fun hs => (Bool.noConfusion hs),
    fun hs => (Bool.noConfusion hs),
    fun hs => (Bool.noConfusion hs),
    fun hs => (Bool.noConfusion hs),
    fun _ => astep_pick rfl rfl, trivial⟩
            refine awp_true (by kernel_rfl) ?_
            refine awp_reg [⟨[((.const (.bool false)), (B (false)))], [], (B (false)), [], false⟩] (by exact ⟨by kernel_rfl, by kernel_rfl⟩) ?_ ?_
            · exact ⟨fun _ => astep_assign rfl, trivial⟩
            refine awp_ret ?_
            refine blockA_r ?_
            refine thenA_r ?_
            refine thenA_r ?_
            refine blockA_r ?_
            refine thenA_r ?_
            obtain rfl := Option.some.inj h
            exact ⟨⟨[(B (false))], ⟨resOK_tmp (by kernel_rfl), trivial⟩, rfl⟩, (NLt.lit _), Nat.le_refl _, fun n hn => absurd hn (Nat.not_lt_zero n)⟩
          · replace h := bif_f hb17 h
            rcases Bool.eq_false_or_eq_true ((decide (x8.Liquid ≤ x12.Liquid))) with hb18 | hb18
            · replace h := bif_t hb18 h
              refine awp_reg [⟨[((.tmp 4), (.ref 0 5 (0) 0))], [(0, (.own 5 [[(I (x8.T)), (I (x8.P)), (I (x8.Liquid)), (I (x8.Vapour)), (I (x8.Silica))]]))], (.ref 0 5 (0) 0), [], false⟩,
    ⟨[((.tmp 27), (.ref 0 5 (0) 0))], [(0, (.own 5 [[(I (x8.T)), (I (x8.P)), (I (x8.Liquid)), (I (x8.Vapour)), (I (x8.Silica))]]))], (I (x8.T)), [], false⟩,
    ⟨[((.tmp 5), (.ref 1 5 (0) 0))], [(1, (.own 5 [[(I (x12.T)), (I (x12.P)), (I (x12.Liquid)), (I (x12.Vapour)), (I (x12.Silica))]]))], (.ref 1 5 (0) 0), [], false⟩,
    ⟨[((.tmp 29), (.ref 1 5 (0) 0))], [(1, (.own 5 [[(I (x12.T)), (I (x12.P)), (I (x12.Liquid)), (I (x12.Vapour)), (I (x12.Silica))]]))], (I (x12.T)), [], false⟩,
    ⟨[((.tmp 28), (I (x8.T))), ((.tmp 30), (I (x12.T)))], [], (B ((decide (x8.T ≤ x12.T)))), [], false⟩,
    ⟨[((.tmp 31), (B ((decide (x8.T ≤ x12.T)))))], [], (B (false)), [], false⟩,
    ⟨[((.tmp 32), (B (false))), ((.tmp 4), (.ref 0 5 (0) 0))], [(0, (.own 5 [[(I (x8.T)), (I (x8.P)), (I (x8.Liquid)), (I (x8.Vapour)), (I (x8.Silica))]]))], (.ref 0 5 (0) 1), [], false⟩,
    ⟨[((.tmp 32), (B (false))), ((.tmp 33), (.ref 0 5 (0) 1))], [(0, (.own 5 [[(I (x8.T)), (I (x8.P)), (I (x8.Liquid)), (I (x8.Vapour)), (I (x8.Silica))]]))], (I (x8.P)), [], false⟩,
    ⟨[((.tmp 32), (B (false))), ((.tmp 5), (.ref 1 5 (0) 0))], [(1, (.own 5 [[(I (x12.T)), (I (x12.P)), (I (x12.Liquid)), (I (x12.Vapour)), (I (x12.Silica))]]))], (.ref 1 5 (0) 1), [], false⟩,
    ⟨[((.tmp 32), (B (false))), ((.tmp 35), (.ref 1 5 (0) 1))], [(1, (.own 5 [[(I (x12.T)), (I (x12.P)), (I (x12.Liquid)), (I (x12.Vapour)), (I (x12.Silica))]]))], (I (x12.P)), [], false⟩,
    ⟨[((.tmp 32), (B (false))), ((.tmp 34), (I (x8.P))), ((.tmp 36), (I (x12.P)))], [], (B ((decide (x8.P ≤ x12.P)))), [], false⟩,
    ⟨[((.tmp 32), (B (false))), ((.const (.bool true)), (B (true))), ((.tmp 37), (B ((decide (x8.P ≤ x12.P)))))], [], (B ((decide (x8.P ≤ x12.P)))), [], false⟩,
    ⟨[((.tmp 38), (B ((decide (x8.P ≤ x12.P)))))], [], (B (false)), [], false⟩,
    ⟨[((.tmp 39), (B (false))), ((.tmp 4), (.ref 0 5 (0) 0))], [(0, (.own 5 [[(I (x8.T)), (I (x8.P)), (I (x8.Liquid)), (I (x8.Vapour)), (I (x8.Silica))]]))], (.ref 0 5 (0) 2), [], false⟩,
    ⟨[((.tmp 39), (B (false))), ((.tmp 40), (.ref 0 5 (0) 2))], [(0, (.own 5 [[(I (x8.T)), (I (x8.P)), (I (x8.Liquid)), (I (x8.Vapour)), (I (x8.Silica))]]))], (I (x8.Liquid)), [], false⟩,
    ⟨[((.tmp 39), (B (false))), ((.tmp 5), (.ref 1 5 (0) 0))], [(1, (.own 5 [[(I (x12.T)), (I (x12.P)), (I (x12.Liquid)), (I (x12.Vapour)), (I (x12.Silica))]]))], (.ref 1 5 (0) 2), [], false⟩,
    ⟨[((.tmp 39), (B (false))), ((.tmp 42), (.ref 1 5 (0) 2))], [(1, (.own 5 [[(I (x12.T)), (I (x12.P)), (I (x12.Liquid)), (I (x12.Vapour)), (I (x12.Silica))]]))], (I (x12.Liquid)), [], false⟩,
    ⟨[((.tmp 39), (B (false))), ((.tmp 41), (I (x8.Liquid))), ((.tmp 43), (I (x12.Liquid)))], [], (B ((decide (x8.Liquid ≤ x12.Liquid)))), [], false⟩,
    ⟨[((.tmp 39), (B (false))), ((.const (.bool true)), (B (true))), ((.tmp 44), (B ((decide (x8.Liquid ≤ x12.Liquid)))))], [], (B ((decide (x8.Liquid ≤ x12.Liquid)))), [], false⟩,
    ⟨[((.tmp 45), (B ((decide (x8.Liquid ≤ x12.Liquid)))))], [], (B (true)), [], false⟩,
    ⟨[((.tmp 46), (B (true)))], [], (.lit undef), [], true⟩,
    ⟨[((.tmp 46), (B (true)))], [], (.lit undef), [], true⟩,
    ⟨[((.tmp 46), (B (true)))], [], (.lit undef), [], true⟩,
    ⟨[((.tmp 46), (B (true)))], [], (.lit undef), [], true⟩,
    ⟨[((.tmp 46), (B (true)))], [], (.lit undef), [], true⟩,
    ⟨[((.tmp 46), (B (true))), ((.const (.bool true)), (B (true))), ((.tmp 51), (.lit undef))], [], (B (true)), [], false⟩] (by exact ⟨by kernel_rfl, by kernel_rfl⟩) ?_ ?_
              · exact ⟨fun _ => astep_faddr rfl Try.underlying115 rfl rfl ti3 (by decide) rfl,
    fun _ => astep_load rfl ti3 (by decide) rfl (Nat.le_of_ble_eq_true rfl) rfl,
    fun _ => astep_faddr rfl Try.underlying115 rfl rfl ti3 (by decide) rfl,
    fun _ => astep_load rfl ti3 (by decide) rfl (Nat.le_of_ble_eq_true rfl) rfl,
    fun _ => astep_bin rfl rfl,
    fun _ => astep_b hb16 (astep_move rfl),
    fun _ => astep_guard (astep_faddr rfl Try.underlying115 rfl rfl ti3 (by decide) rfl),
    fun _ => astep_guard (astep_load rfl ti3 (by decide) rfl (Nat.le_of_ble_eq_true rfl) rfl),
    fun _ => astep_guard (astep_faddr rfl Try.underlying115 rfl rfl ti3 (by decide) rfl),
    fun _ => astep_guard (astep_load rfl ti3 (by decide) rfl (Nat.le_of_ble_eq_true rfl) rfl),
    fun _ => astep_guard (astep_bin rfl rfl),
    fun _ => astep_pick rfl rfl,
    fun _ => astep_b hb17 (astep_move rfl),
    fun _ => astep_guard (astep_faddr rfl Try.underlying115 rfl rfl ti3 (by decide) rfl),
    fun _ => astep_guard (astep_load rfl ti3 (by decide) rfl (Nat.le_of_ble_eq_true rfl) rfl),
    fun _ => astep_guard (astep_faddr rfl Try.underlying115 rfl rfl ti3 (by decide) rfl),
    fun _ => astep_guard (astep_load rfl ti3 (by decide) rfl (Nat.le_of_ble_eq_true rfl) rfl),
    fun _ => astep_guard (astep_bin rfl rfl),
    fun _ => astep_pick rfl rfl,
    fun _ => astep_b hb18 (astep_move rfl),
    fun hs => (Bool.noConfusion hs),
    fun hs => (Bool.noConfusion hs),
    fun hs => (Bool.noConfusion hs),
    fun hs => (Bool.noConfusion hs),
    fun hs => (Bool.noConfusion hs),
    fun _ => astep_pick rfl rfl, trivial⟩
              refine awp_true (by kernel_rfl) ?_
              refine awp_reg [⟨[((.const (.bool false)), (B (false)))], [], (B (false)), [], false⟩] (by exact ⟨by kernel_rfl, by kernel_rfl⟩) ?_ ?_
              · exact ⟨fun _ => astep_assign rfl, trivial⟩
              refine awp_ret ?_
              refine blockA_r ?_
              refine thenA_r ?_
              refine thenA_r ?_
              refine blockA_r ?_
              refine thenA_r ?_
              obtain rfl := Option.some.inj h
              exact ⟨⟨[(B (false))], ⟨resOK_tmp (by kernel_rfl), trivial⟩, rfl⟩, (NLt.lit _), Nat.le_refl _, fun n hn => absurd hn (Nat.not_lt_zero n)⟩
            · replace h := bif_f hb18 h
              refine awp_reg [⟨[((.tmp 4), (.ref 0 5 (0) 0))], [(0, (.own 5 [[(I (x8.T)), (I (x8.P)), (I (x8.Liquid)), (I (x8.Vapour)), (I (x8.Silica))]]))], (.ref 0 5 (0) 0), [], false⟩,
    ⟨[((.tmp 27), (.ref 0 5 (0) 0))], [(0, (.own 5 [[(I (x8.T)), (I (x8.P)), (I (x8.Liquid)), (I (x8.Vapour)), (I (x8.Silica))]]))], (I (x8.T)), [], false⟩,
    ⟨[((.tmp 5), (.ref 1 5 (0) 0))], [(1, (.own 5 [[(I (x12.T)), (I (x12.P)), (I (x12.Liquid)), (I (x12.Vapour)), (I (x12.Silica))]]))], (.ref 1 5 (0) 0), [], false⟩,
    ⟨[((.tmp 29), (.ref 1 5 (0) 0))], [(1, (.own 5 [[(I (x12.T)), (I (x12.P)), (I (x12.Liquid)), (I (x12.Vapour)), (I (x12.Silica))]]))], (I (x12.T)), [], false⟩,
    ⟨[((.tmp 28), (I (x8.T))), ((.tmp 30), (I (x12.T)))], [], (B ((decide (x8.T ≤ x12.T)))), [], false⟩,
    ⟨[((.tmp 31), (B ((decide (x8.T ≤ x12.T)))))], [], (B (false)), [], false⟩,
    ⟨[((.tmp 32), (B (false))), ((.tmp 4), (.ref 0 5 (0) 0))], [(0, (.own 5 [[(I (x8.T)), (I (x8.P)), (I (x8.Liquid)), (I (x8.Vapour)), (I (x8.Silica))]]))], (.ref 0 5 (0) 1), [], false⟩,
    ⟨[((.tmp 32), (B (false))), ((.tmp 33), (.ref 0 5 (0) 1))], [(0, (.own 5 [[(I (x8.T)), (I (x8.P)), (I (x8.Liquid)), (I (x8.Vapour)), (I (x8.Silica))]]))], (I (x8.P)), [], false⟩,
    ⟨[((.tmp 32), (B (false))), ((.tmp 5), (.ref 1 5 (0) 0))], [(1, (.own 5 [[(I (x12.T)), (I (x12.P)), (I (x12.Liquid)), (I (x12.Vapour)), (I (x12.Silica))]]))], (.ref 1 5 (0) 1), [], false⟩,
    ⟨[((.tmp 32), (B (false))), ((.tmp 35), (.ref 1 5 (0) 1))], [(1, (.own 5 [[(I (x12.T)), (I (x12.P)), (I (x12.Liquid)), (I (x12.Vapour)), (I (x12.Silica))]]))], (I (x12.P)), [], false⟩,
    ⟨[((.tmp 32), (B (false))), ((.tmp 34), (I (x8.P))), ((.tmp 36), (I (x12.P)))], [], (B ((decide (x8.P ≤ x12.P)))), [], false⟩,
    ⟨[((.tmp 32), (B (false))), ((.const (.bool true)), (B (true))), ((.tmp 37), (B ((decide (x8.P ≤ x12.P)))))], [], (B ((decide (x8.P ≤ x12.P)))), [], false⟩,
    ⟨[((.tmp 38), (B ((decide (x8.P ≤ x12.P)))))], [], (B (false)), [], false⟩,
    ⟨[((.tmp 39), (B (false))), ((.tmp 4), (.ref 0 5 (0) 0))], [(0, (.own 5 [[(I (x8.T)), (I (x8.P)), (I (x8.Liquid)), (I (x8.Vapour)), (I (x8.Silica))]]))], (.ref 0 5 (0) 2), [], false⟩,
    ⟨[((.tmp 39), (B (false))), ((.tmp 40), (.ref 0 5 (0) 2))], [(0, (.own 5 [[(I (x8.T)), (I (x8.P)), (I (x8.Liquid)), (I (x8.Vapour)), (I (x8.Silica))]]))], (I (x8.Liquid)), [], false⟩,
    ⟨[((.tmp 39), (B (false))), ((.tmp 5), (.ref 1 5 (0) 0))], [(1, (.own 5 [[(I (x12.T)), (I (x12.P)), (I (x12.Liquid)), (I (x12.Vapour)), (I (x12.Silica))]]))], (.ref 1 5 (0) 2), [], false⟩,
    ⟨[((.tmp 39), (B (false))), ((.tmp 42), (.ref 1 5 (0) 2))], [(1, (.own 5 [[(I (x12.T)), (I (x12.P)), (I (x12.Liquid)), (I (x12.Vapour)), (I (x12.Silica))]]))], (I (x12.Liquid)), [], false⟩,
    ⟨[((.tmp 39), (B (false))), ((.tmp 41), (I (x8.Liquid))), ((.tmp 43), (I (x12.Liquid)))], [], (B ((decide (x8.Liquid ≤ x12.Liquid)))), [], false⟩,
    ⟨[((.tmp 39), (B (false))), ((.const (.bool true)), (B (true))), ((.tmp 44), (B ((decide (x8.Liquid ≤ x12.Liquid)))))], [], (B ((decide (x8.Liquid ≤ x12.Liquid)))), [], false⟩,
    ⟨[((.tmp 45), (B ((decide (x8.Liquid ≤ x12.Liquid)))))], [], (B (false)), [], false⟩,
    ⟨[((.tmp 46), (B (false))), ((.tmp 4), (.ref 0 5 (0) 0))], [(0, (.own 5 [[(I (x8.T)), (I (x8.P)), (I (x8.Liquid)), (I (x8.Vapour)), (I (x8.Silica))]]))], (.ref 0 5 (0) 4), [], false⟩,
    ⟨[((.tmp 46), (B (false))), ((.tmp 47), (.ref 0 5 (0) 4))], [(0, (.own 5 [[(I (x8.T)), (I (x8.P)), (I (x8.Liquid)), (I (x8.Vapour)), (I (x8.Silica))]]))], (I (x8.Silica)), [], false⟩,
    ⟨[((.tmp 46), (B (false))), ((.tmp 5), (.ref 1 5 (0) 0))], [(1, (.own 5 [[(I (x12.T)), (I (x12.P)), (I (x12.Liquid)), (I (x12.Vapour)), (I (x12.Silica))]]))], (.ref 1 5 (0) 4), [], false⟩,
    ⟨[((.tmp 46), (B (false))), ((.tmp 49), (.ref 1 5 (0) 4))], [(1, (.own 5 [[(I (x12.T)), (I (x12.P)), (I (x12.Liquid)), (I (x12.Vapour)), (I (x12.Silica))]]))], (I (x12.Silica)), [], false⟩,
    ⟨[((.tmp 46), (B (false))), ((.tmp 48), (I (x8.Silica))), ((.tmp 50), (I (x12.Silica)))], [], (B ((decide (x8.Silica < x12.Silica)))), [], false⟩,
    ⟨[((.tmp 46), (B (false))), ((.const (.bool true)), (B (true))), ((.tmp 51), (B ((decide (x8.Silica < x12.Silica)))))], [], (B ((decide (x8.Silica < x12.Silica)))), [], false⟩] (by exact ⟨by kernel_rfl, by kernel_rfl⟩) ?_ ?_
              · exact ⟨fun _ => astep_faddr rfl Try.underlying115 rfl rfl ti3 (by decide) rfl,
    fun _ => astep_load rfl ti3 (by decide) rfl (Nat.le_of_ble_eq_true rfl) rfl,
    fun _ => astep_faddr rfl Try.underlying115 rfl rfl ti3 (by decide) rfl,
    fun _ => astep_load rfl ti3 (by decide) rfl (Nat.le_of_ble_eq_true rfl) rfl,
    fun _ => astep_bin rfl rfl,
    fun _ => astep_b hb16 (astep_move rfl),
    fun _ => astep_guard (astep_faddr rfl Try.underlying115 rfl rfl ti3 (by decide) rfl),
    fun _ => astep_guard (astep_load rfl ti3 (by decide) rfl (Nat.le_of_ble_eq_true rfl) rfl),
    fun _ => astep_guard (astep_faddr rfl Try.underlying115 rfl rfl ti3 (by decide) rfl),
    fun _ => astep_guard (astep_load rfl ti3 (by decide) rfl (Nat.le_of_ble_eq_true rfl) rfl),
    fun _ => astep_guard (astep_bin rfl rfl),
    fun _ => astep_pick rfl rfl,
    fun _ => astep_b hb17 (astep_move rfl),
    fun _ => astep_guard (astep_faddr rfl Try.underlying115 rfl rfl ti3 (by decide) rfl),
    fun _ => astep_guard (astep_load rfl ti3 (by decide) rfl (Nat.le_of_ble_eq_true rfl) rfl),
    fun _ => astep_guard (astep_faddr rfl Try.underlying115 rfl rfl ti3 (by decide) rfl),
    fun _ => astep_guard (astep_load rfl ti3 (by decide) rfl (Nat.le_of_ble_eq_true rfl) rfl),
    fun _ => astep_guard (astep_bin rfl rfl),
    fun _ => astep_pick rfl rfl,
    fun _ => astep_b hb18 (astep_move rfl),
    fun _ => astep_guard (astep_faddr rfl Try.underlying115 rfl rfl ti3 (by decide) rfl),
    fun _ => astep_guard (astep_load rfl ti3 (by decide) rfl (Nat.le_of_ble_eq_true rfl) rfl),
    fun _ => astep_guard (astep_faddr rfl Try.underlying115 rfl rfl ti3 (by decide) rfl),
    fun _ => astep_guard (astep_load rfl ti3 (by decide) rfl (Nat.le_of_ble_eq_true rfl) rfl),
    fun _ => astep_guard (astep_bin rfl rfl),
    fun _ => astep_pick rfl rfl, trivial⟩
              rcases Bool.eq_false_or_eq_true ((decide (x8.Silica < x12.Silica))) with hc19 | hc19
              · replace h := bif_t hc19 h
                refine awp_ift hc19 (by kernel_rfl) ?_
                refine awp_reg [⟨[((.const (.bool false)), (B (false)))], [], (B (false)), [], false⟩] (by exact ⟨by kernel_rfl, by kernel_rfl⟩) ?_ ?_
                · exact ⟨fun _ => astep_assign rfl, trivial⟩
                refine awp_ret ?_
                refine blockA_r ?_
                refine thenA_r ?_
                refine thenA_r ?_
                refine blockA_r ?_
                refine thenA_r ?_
                obtain rfl := Option.some.inj h
                exact ⟨⟨[(B (false))], ⟨resOK_tmp (by kernel_rfl), trivial⟩, rfl⟩, (NLt.lit _), Nat.le_refl _, fun n hn => absurd hn (Nat.not_lt_zero n)⟩
              · replace h := bif_f hc19 h
                refine awp_ifn hc19 (by kernel_rfl) ?_
                refine awp_skip ?_
                refine blockA_n ?_
                refine thenA_n ?_
                refine awp_reg1 [⟨[((.tmp 18), (I (y4))), ((.const (.int .i64 1)), (I (1)))], [], (I (w64 (y4 + 1))), [], false⟩,
    ⟨[((.tmp 53), (I (w64 (y4 + 1))))], [], (I (w64 (y4 + 1))), [], false⟩] (by exact ⟨by kernel_rfl, by kernel_rfl⟩) ?_ ?_
                · exact ⟨fun _ => astep_bin rfl rfl,
    fun _ => astep_move rfl, trivial⟩
                refine thenA_n ?_
                exact around_mor (mor_to (n := 54) (l' := [(0, (.dat 5 ((p0 : List GRow).map c_GRow))), (16, (.dat 5 ((p0.drop (1 : Int).toNat : List GRow).map c_GRow))), (17, (I (((p0.drop (1 : Int).toNat).length : Int)))), (18, (I ((w64 (y4 + 1)))))]) (own' := []) [(0, (.dat 5 ((p0 : List GRow).map c_GRow))), (16, (.dat 5 ((p0.drop (1 : Int).toNat : List GRow).map c_GRow))), (17, (I (((p0.drop (1 : Int).toNat).length : Int)))), (18, (I (w64 (y4 + 1))))] [] [] hφ0 (by kernel_rfl) (by kernel_rfl) (by kernel_rfl) ⟨rfl, .rn (.plain _ (nl_dat nl_GRow _)), rfl, .rn (.plain _ (nl_dat nl_GRow _)), rfl, .rn (.plain _ (NLt.lit _)), rfl, .rn (.plain _ (NLt.lit _)), trivial⟩ trivial) (ih (w64 (y4 + 1)) h)
      · replace h := bif_f hc7 h
        refine awp_ifn hc7 (by kernel_rfl) ?_
        refine awp_exit ?_
        refine thenA_x ?_
        refine thenA_x ?_
        refine blockA_e rfl ?_
        refine thenA_n ?_
        exact ⟨(), h, (mor_to (n := 54) (l' := []) (own' := []) [] [] [] hφ0 (by kernel_rfl) (by kernel_rfl) (by kernel_rfl) trivial trivial)⟩
  · skip
    obtain ⟨x21, hf20, h⟩ := bind_out h
    rcases Bool.eq_false_or_eq_true ((!x21)) with hb22 | hb22
    · replace h := bif_t hb22 h
      refine awp_reg [⟨[((.tmp 0), (.dat 5 ((p0 : List GRow).map c_GRow)))], [], (.dat 5 ((p0 : List GRow).map c_GRow)), [], false⟩,
    ⟨[((.tmp 6), (.dat 5 ((p0 : List GRow).map c_GRow)))], [], (I ((p0.length : Int))), [], false⟩,
    ⟨[((.func 65), (.fn (.func 65) [] [])), ((.tmp 7), (I ((p0.length : Int)))), ((.const (.int .i64 2)), (I (2))), ((.const (.int .i64 20)), (I (20)))], [], (B (x21)), [], false⟩,
    ⟨[((.tmp 8), (B (x21)))], [], (B ((!x21))), [], false⟩,
    ⟨[((.tmp 9), (B ((!x21))))], [], (B (true)), [], false⟩,
    ⟨[((.tmp 10), (B (true)))], [], (.lit undef), [], true⟩,
    ⟨[((.tmp 10), (B (true)))], [], (.lit undef), [], true⟩,
    ⟨[((.tmp 10), (B (true)))], [], (.lit undef), [], true⟩,
    ⟨[((.tmp 10), (B (true))), ((.const (.bool true)), (B (true))), ((.tmp 13), (.lit undef))], [], (B (true)), [], false⟩] (by exact ⟨by kernel_rfl, by kernel_rfl⟩) ?_ ?_
      · exact ⟨fun _ => astep_move rfl,
    fun _ => astep_lenm (c := c_GRow) (l := p0) (astep_len rfl Try.underlying30 rfl),
    fun _ => astep_pcall (first := []) (cap := []) (vs := [(I ((p0.length : Int))), (I (2)), (I (20))]) rfl enter65 (steam_withinX_ok N (p0.length : Int) 2 20 _ hf20) rfl rfl (nl_cons (NLt.lit _) (nl_cons (NLt.lit _) (nl_cons (NLt.lit _) nl_nil))) (NLt.lit _) rfl,
    fun _ => astep_not rfl,
    fun _ => astep_b hb22 (astep_move rfl),
    fun hs => (Bool.noConfusion hs),
    fun hs => (Bool.noConfusion hs),
    fun hs => (Bool.noConfusion hs),
    fun _ => astep_pick rfl rfl, trivial⟩
      refine awp_true (by kernel_rfl) ?_
      refine awp_reg [⟨[((.const (.bool false)), (B (false)))], [], (B (false)), [], false⟩] (by exact ⟨by kernel_rfl, by kernel_rfl⟩) ?_ ?_
      · exact ⟨fun _ => astep_assign rfl, trivial⟩
      refine awp_ret ?_
      refine thenA_r ?_
      obtain rfl := Option.some.inj h
      exact ⟨⟨[(B (false))], ⟨resOK_tmp (by kernel_rfl), trivial⟩, rfl⟩, (NLt.lit _), Nat.le_refl _, fun n hn => absurd hn (Nat.not_lt_zero n)⟩
    · replace h := bif_f hb22 h
      obtain ⟨x24, hf23, h⟩ := bind_out h
      refine awp_reg [⟨[((.tmp 0), (.dat 5 ((p0 : List GRow).map c_GRow)))], [], (.dat 5 ((p0 : List GRow).map c_GRow)), [], false⟩,
    ⟨[((.tmp 6), (.dat 5 ((p0 : List GRow).map c_GRow)))], [], (I ((p0.length : Int))), [], false⟩,
    ⟨[((.func 65), (.fn (.func 65) [] [])), ((.tmp 7), (I ((p0.length : Int)))), ((.const (.int .i64 2)), (I (2))), ((.const (.int .i64 20)), (I (20)))], [], (B (x21)), [], false⟩,
    ⟨[((.tmp 8), (B (x21)))], [], (B ((!x21))), [], false⟩,
    ⟨[((.tmp 9), (B ((!x21))))], [], (B (false)), [], false⟩,
    ⟨[((.tmp 10), (B (false))), ((.tmp 0), (.dat 5 ((p0 : List GRow).map c_GRow)))], [], (.dat 5 ((p0 : List GRow).map c_GRow)), [], false⟩,
    ⟨[((.tmp 10), (B (false))), ((.func 80), (.fn (.func 80) [] [])), ((.tmp 11), (.dat 5 ((p0 : List GRow).map c_GRow))), ((.func 81), (.fn (.func 81) [] []))], [], (B (x24)), [], false⟩,
    ⟨[((.tmp 10), (B (false))), ((.tmp 12), (B (x24)))], [], (B ((!x24))), [], false⟩,
    ⟨[((.tmp 10), (B (false))), ((.const (.bool true)), (B (true))), ((.tmp 13), (B ((!x24))))], [], (B ((!x24))), [], false⟩] (by exact ⟨by kernel_rfl, by kernel_rfl⟩) ?_ ?_
      · exact ⟨fun _ => astep_move rfl,
    fun _ => astep_lenm (c := c_GRow) (l := p0) (astep_len rfl Try.underlying30 rfl),
    fun _ => astep_pcall (first := []) (cap := []) (vs := [(I ((p0.length : Int))), (I (2)), (I (20))]) rfl enter65 (steam_withinX_ok N (p0.length : Int) 2 20 _ hf20) rfl rfl (nl_cons (NLt.lit _) (nl_cons (NLt.lit _) (nl_cons (NLt.lit _) nl_nil))) (NLt.lit _) rfl,
    fun _ => astep_not rfl,
    fun _ => astep_b hb22 (astep_move rfl),
    fun _ => astep_guard (astep_move rfl),
    fun _ => astep_guard (astep_callq (first := []) (cap := []) (vs := [(.dat 5 ((p0 : List GRow).map c_GRow)), (.fn (.func 81) [] [])]) (σr := []) (σr' := []) (res' := (B (x24))) [] rfl enter80 (steam_all_steam_RowX_1_ok N p0 _ hf23) rfl (rn_agg (rnl_cons (.plain _ (nl_dat nl_GRow _)) (rnl_cons (.plain _ (NLt.fn _ _ _ nl_nil nl_nil)) rnl_nil))) slw_nil slw_nil (.plain _ (NLt.lit _)) rfl rfl rfl),
    fun _ => astep_guard (astep_not rfl),
    fun _ => astep_pick rfl rfl, trivial⟩
      rcases Bool.eq_false_or_eq_true ((!x24)) with hc25 | hc25
      · replace h := bif_t hc25 h
        refine awp_ift hc25 (by kernel_rfl) ?_
        refine awp_reg [⟨[((.const (.bool false)), (B (false)))], [], (B (false)), [], false⟩] (by exact ⟨by kernel_rfl, by kernel_rfl⟩) ?_ ?_
        · exact ⟨fun _ => astep_assign rfl, trivial⟩
        refine awp_ret ?_
        refine thenA_r ?_
        obtain rfl := Option.some.inj h
        exact ⟨⟨[(B (false))], ⟨resOK_tmp (by kernel_rfl), trivial⟩, rfl⟩, (NLt.lit _), Nat.le_refl _, fun n hn => absurd hn (Nat.not_lt_zero n)⟩
      · replace h := bif_f hc25 h
        refine awp_ifn hc25 (by kernel_rfl) ?_
        refine awp_skip ?_
        refine thenA_n ?_
        exact ⟨(), h, (mor_to (n := 54) (l' := [(0, (.dat 5 ((p0 : List GRow).map c_GRow)))]) (own' := []) [(0, (.dat 5 ((p0 : List GRow).map c_GRow)))] [] [] hφ0 (by kernel_rfl) (by kernel_rfl) (by kernel_rfl) ⟨rfl, .rn (.plain _ (nl_dat nl_GRow _)), trivial⟩ trivial)⟩

end Go.Proofs.Ytenpbiineblcjaa
