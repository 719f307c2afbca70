/-
  Functions of the program: what they compute, as plain functions, and that they do. No conditions.
-/
import Derived.Test.YtenpbiineblcjaaX2
namespace Go.Proofs.Ytenpbiineblcjaa
open Go.RowKit

def law01_SteamTablesX (N : Nat) (p0 : (List GRow)) (p1 : GStream) (p2 : Int) (p3 : Int) : Option Bool :=
  bif (decide ((p0.length : Int) > 30)) then
    (law01_awakeX N ).bind fun x3 =>
    some x3
  else
    (law01_TableX N p0).bind fun x5 =>
    (steam_AtX N x5 p2).bind fun x7 =>
    (law01_TableX N p0).bind fun x9 =>
    (steam_SaturationX N x9 p3).bind fun x11 =>
    joinK (fun y12 =>
        (law01_StreamX N p1).bind fun x15 =>
        (steam_CheckStreamX N x15).bind fun x17 =>
        bif (x17 != y12) then
          some false
        else
          (ref01_RightX N p0).bind fun x20 =>
          bif (!x20) then
            (law01_TableX N p0).bind fun x23 =>
            (steam_CheckTableX N x23).bind fun x25 =>
            bif (x25 == 1) then
              bif (x7.2 == 1) then
                bif (x11.2 == 1) then
                  bif (x7.1 == 0) then
                    bif (([x11.1.N, x11.1.D] : List Int) == [0, 0]) then
                      (law01_awakeX N ).bind fun x32 =>
                      some x32
                    else
                      some false
                  else
                    some false
                else
                  some false
              else
                some false
            else
              some false
          else
            (ref01_AtX N p0 p2).bind fun x34 =>
            joinK (fun _ =>
                (getI p0 0).bind fun x36 =>
                (getI p0 (w64 ((p0.length : Int) - 1))).bind fun x40 =>
                (ref01_InX N p3 x36.T x40.T).bind fun x45 =>
                bif (!x45) then
                  bif (x11.2 == 2) then
                    bif (([x11.1.N, x11.1.D] : List Int) == [0, 0]) then
                      (law01_awakeX N ).bind fun x50 =>
                      some x50
                    else
                      some false
                  else
                    some false
                else
                  (ref01_SaturationX N p0 p3).bind fun x52 =>
                  bif (x11.2 == 0) then
                    bif (([x11.1.N, x11.1.D] : List Int) == [x52.N, x52.D]) then
                      (law01_awakeX N ).bind fun x56 =>
                      some x56
                    else
                      some false
                  else
                    some false) fun k35 : Unit → Option Bool =>
            (law01_TableX N p0).bind fun x58 =>
            (steam_CheckTableX N x58).bind fun x60 =>
            bif (x60 != 0) then
              some false
            else
              bif (decide (x34 < 0)) then
                bif (x7.2 != 7) then
                  some false
                else
                  bif (x7.1 != 0) then
                    some false
                  else
                    bif (decide (x34 ≥ 0)) then
                      bif (x7.2 != 0) then
                        some false
                      else
                        bif (x7.1 != x34) then
                          some false
                        else
                          k35 ()
                    else
                      k35 ()
              else
                bif (decide (x34 ≥ 0)) then
                  bif (x7.2 != 0) then
                    some false
                  else
                    bif (x7.1 != x34) then
                      some false
                    else
                      k35 ()
                else
                  k35 ()) fun k13 : Int → Option Bool =>
    (ref01_RightStreamX N p1).bind fun x72 =>
    bif x72 then
      k13 (0)
    else
      k13 (1)
set_option maxRecDepth 100000 in
set_option maxHeartbeats 4000000 in
theorem law01_SteamTablesX_ok (N : Nat) (p0 : (List GRow)) (p1 : GStream) (p2 : Int) (p3 : Int) (r : Bool) (h : law01_SteamTablesX N p0 p1 p2 p3 = some r) : Spec Try.prog 12 [(.dat 5 (p0.map c_GRow)), (.agg (c_GStream p1)), (I p2), (I p3)] [] (B r) [] := by
  refine spec_of_awp Try.func12 rfl 0 (Nat.le_of_ble_eq_true rfl) (fun X φ0 w0 hφ0 => ?_)
  unfold law01_SteamTablesX at h
  refine awp_reg [⟨[((.tmp 1), (.agg [(I (p1.Mass)), (I (p1.Heat)), (I (p1.Silica)), (I (p1.Gas))]))], [(0, .unused)], (.ref 0 4 (0) 0), [(0, (.own 4 [[(I (p1.Mass)), (I (p1.Heat)), (I (p1.Silica)), (I (p1.Gas))]]))], false⟩,
    ⟨[((.const (.bool false)), (B (false)))], [], (B (false)), [], false⟩] (by exact ⟨by kernel_rfl, by kernel_rfl⟩) ?_ ?_
  · exact ⟨fun _ => astep_box rfl (by rfl) rfl rfl,
    fun _ => astep_assign rfl, trivial⟩
  refine awp_seq ?_
  refine awp_reg [⟨[((.tmp 0), (.dat 5 ((p0 : List GRow).map c_GRow)))], [], (.dat 5 ((p0 : List GRow).map c_GRow)), [], false⟩,
    ⟨[((.tmp 16), (.dat 5 ((p0 : List GRow).map c_GRow)))], [], (I ((p0.length : Int))), [], false⟩,
    ⟨[((.tmp 17), (I ((p0.length : Int)))), ((.const (.int .i64 30)), (I (30)))], [], (B ((decide ((p0.length : Int) > 30)))), [], false⟩] (by exact ⟨by kernel_rfl, by kernel_rfl⟩) ?_ ?_
  · exact ⟨fun _ => astep_move rfl,
    fun _ => astep_lenm (c := c_GRow) (l := p0) (astep_len rfl Try.underlying23 rfl),
    fun _ => astep_bin rfl rfl, trivial⟩
  rcases Bool.eq_false_or_eq_true ((decide ((p0.length : Int) > 30))) with hc1 | hc1
  · replace h := bif_t hc1 h
    refine awp_ift hc1 (by kernel_rfl) ?_
    obtain ⟨x3, hf2, h⟩ := bind_out h
    refine awp_reg [⟨[((.func 17), (.fn (.func 17) [] []))], [], (B (x3)), [], false⟩,
    ⟨[((.tmp 19), (B (x3)))], [], (B (x3)), [], false⟩] (by exact ⟨by kernel_rfl, by kernel_rfl⟩) ?_ ?_
    · exact ⟨fun _ => astep_pcall (first := []) (cap := []) (vs := []) rfl enter17 (law01_awakeX_ok N  _ hf2) rfl rfl nl_nil (NLt.lit _) rfl,
    fun _ => astep_assign rfl, trivial⟩
    refine awp_ret ?_
    refine thenA_r ?_
    obtain rfl := Option.some.inj h
    exact ⟨⟨[(B (x3))], ⟨resOK_tmp (by kernel_rfl), trivial⟩, rfl⟩, (NLt.lit _), Nat.le_refl _, fun n hn => absurd hn (Nat.not_lt_zero n)⟩
  · replace h := bif_f hc1 h
    refine awp_ifn hc1 (by kernel_rfl) ?_
    refine awp_skip ?_
    refine thenA_n ?_
    obtain ⟨x5, hf4, h⟩ := bind_out h
    obtain ⟨x7, hf6, h⟩ := bind_out h
    refine awp_reg [⟨[((.tmp 0), (.dat 5 ((p0 : List GRow).map c_GRow)))], [], (.dat 5 ((p0 : List GRow).map c_GRow)), [], false⟩,
    ⟨[((.func 19), (.fn (.func 19) [] [])), ((.tmp 21), (.dat 5 ((p0 : List GRow).map c_GRow)))], [], (.dat 5 ((x5 : List GRow).map c_GRow)), [], false⟩,
    ⟨[((.tmp 2), (I (p2)))], [], (I (p2)), [], false⟩,
    ⟨[((.func 42), (.fn (.func 42) [] [])), ((.tmp 22), (.dat 5 ((x5 : List GRow).map c_GRow))), ((.tmp 23), (I (p2)))], [], (.tup [(I (x7.1)), (I (x7.2))]), [], false⟩,
    ⟨[((.tmp 24), (.tup [(I (x7.1)), (I (x7.2))]))], [], (.tup [(I (x7.1)), (I (x7.2))]), [], false⟩,
    ⟨[((.tmp 20), (.tup [(I (x7.1)), (I (x7.2))]))], [], (I (x7.1)), [], false⟩,
    ⟨[((.tmp 20), (.tup [(I (x7.1)), (I (x7.2))]))], [], (I (x7.2)), [], false⟩,
    ⟨[((.tmp 25), (I (x7.1)))], [], (I (x7.1)), [], false⟩,
    ⟨[((.tmp 26), (I (x7.2)))], [], (I (x7.2)), [], false⟩] (by exact ⟨by kernel_rfl, by kernel_rfl⟩) ?_ ?_
    · exact ⟨fun _ => astep_move rfl,
    fun _ => astep_pcall (first := []) (cap := []) (vs := [(.dat 5 ((p0 : List GRow).map c_GRow))]) rfl enter19 (law01_TableX_ok N p0 _ hf4) rfl rfl (nl_cons (nl_dat nl_GRow _) nl_nil) (nl_dat nl_GRow _) rfl,
    fun _ => astep_move rfl,
    fun _ => astep_pcall (first := []) (cap := []) (vs := [(.dat 5 ((x5 : List GRow).map c_GRow)), (I (p2))]) rfl enter42 (steam_AtX_ok N x5 p2 _ hf6) rfl rfl (nl_cons (nl_dat nl_GRow _) (nl_cons (NLt.lit _) nl_nil)) (NLt.tup _ (nl_cons (NLt.lit _) (nl_cons (NLt.lit _) nl_nil))) rfl,
    fun _ => astep_move rfl,
    fun _ => astep_extract rfl rfl,
    fun _ => astep_extract rfl rfl,
    fun _ => astep_assign rfl,
    fun _ => astep_assign rfl, trivial⟩
    obtain ⟨x9, hf8, h⟩ := bind_out h
    obtain ⟨x11, hf10, h⟩ := bind_out h
    refine awp_reg [⟨[((.tmp 0), (.dat 5 ((p0 : List GRow).map c_GRow)))], [], (.dat 5 ((p0 : List GRow).map c_GRow)), [], false⟩,
    ⟨[((.func 19), (.fn (.func 19) [] [])), ((.tmp 28), (.dat 5 ((p0 : List GRow).map c_GRow)))], [], (.dat 5 ((x9 : List GRow).map c_GRow)), [], false⟩,
    ⟨[((.tmp 3), (I (p3)))], [], (I (p3)), [], false⟩,
    ⟨[((.func 41), (.fn (.func 41) [] [])), ((.tmp 29), (.dat 5 ((x9 : List GRow).map c_GRow))), ((.tmp 30), (I (p3)))], [], (.tup [(.agg [(I (x11.1.N)), (I (x11.1.D))]), (I (x11.2))]), [], false⟩,
    ⟨[((.tmp 31), (.tup [(.agg [(I (x11.1.N)), (I (x11.1.D))]), (I (x11.2))]))], [], (.tup [(.agg [(I (x11.1.N)), (I (x11.1.D))]), (I (x11.2))]), [], false⟩,
    ⟨[((.tmp 27), (.tup [(.agg [(I (x11.1.N)), (I (x11.1.D))]), (I (x11.2))]))], [], (.agg [(I (x11.1.N)), (I (x11.1.D))]), [], false⟩,
    ⟨[((.tmp 27), (.tup [(.agg [(I (x11.1.N)), (I (x11.1.D))]), (I (x11.2))]))], [], (I (x11.2)), [], false⟩,
    ⟨[], [(1, .unused)], (.ref 1 2 (0) 0), [(1, (.own 2 [[(I (0)), (I (0))]]))], false⟩,
    ⟨[((.tmp 11), (.ref 1 2 (0) 0)), ((.tmp 32), (.agg [(I (x11.1.N)), (I (x11.1.D))]))], [(1, (.own 2 [[(I (0)), (I (0))]]))], .any, [(1, (.own 2 [[(I (x11.1.N)), (I (x11.1.D))]]))], false⟩,
    ⟨[((.tmp 33), (I (x11.2)))], [], (I (x11.2)), [], false⟩] (by exact ⟨by kernel_rfl, by kernel_rfl⟩) ?_ ?_
    · exact ⟨fun _ => astep_move rfl,
    fun _ => astep_pcall (first := []) (cap := []) (vs := [(.dat 5 ((p0 : List GRow).map c_GRow))]) rfl enter19 (law01_TableX_ok N p0 _ hf8) rfl rfl (nl_cons (nl_dat nl_GRow _) nl_nil) (nl_dat nl_GRow _) rfl,
    fun _ => astep_move rfl,
    fun _ => astep_pcall (first := []) (cap := []) (vs := [(.dat 5 ((x9 : List GRow).map c_GRow)), (I (p3))]) rfl enter41 (steam_SaturationX_ok N x9 p3 _ hf10) rfl rfl (nl_cons (nl_dat nl_GRow _) (nl_cons (NLt.lit _) nl_nil)) (NLt.tup _ (nl_cons (NLt.agg _ (nl_cons (NLt.lit _) (nl_cons (NLt.lit _) nl_nil))) (nl_cons (NLt.lit _) nl_nil))) rfl,
    fun _ => astep_move rfl,
    fun _ => astep_extract rfl rfl,
    fun _ => astep_extract rfl rfl,
    fun _ => astep_alloc rfl tz83 rfl,
    fun _ => astep_store rfl ti83 (by rfl) rfl (Nat.le_of_ble_eq_true rfl) rfl,
    fun _ => astep_assign rfl, trivial⟩
    refine awp_reg [⟨[((.const (.int .i64 1)), (I (1)))], [], (I (1)), [], false⟩] (by exact ⟨by kernel_rfl, by kernel_rfl⟩) ?_ ?_
    · exact ⟨fun _ => astep_assign rfl, trivial⟩
    obtain ⟨k13, hk_k13, h⟩ := joinK_out h
    refine awp_join (τ := Int) (fun t => k13 t = some r) (fun y12 => ⟨mk 141 [(0, (.dat 5 ((p0 : List GRow).map c_GRow))), (2, (I (p2))), (3, (I (p3))), (5, (.ref 0 4 (0) 0)), (9, (I (x7.1))), (10, (I (x7.2))), (11, (.ref 1 2 (0) 0)), (12, (I (x11.2))), (13, (I (y12)))], [(.own 4 [[(I (p1.Mass)), (I (p1.Heat)), (I (p1.Silica)), (I (p1.Gas))]]), (.own 2 [[(I (x11.1.N)), (I (x11.1.D))]])]⟩) (fun y12 h => ?_) ?_
    · subst hk_k13
      refine awp_seq ?_
      obtain ⟨x15, hf14, h⟩ := bind_out h
      obtain ⟨x17, hf16, h⟩ := bind_out h
      refine awp_reg [⟨[((.tmp 5), (.ref 0 4 (0) 0))], [(0, (.own 4 [[(I (p1.Mass)), (I (p1.Heat)), (I (p1.Silica)), (I (p1.Gas))]]))], (.agg [(I (p1.Mass)), (I (p1.Heat)), (I (p1.Silica)), (I (p1.Gas))]), [], false⟩,
    ⟨[((.func 26), (.fn (.func 26) [] [])), ((.tmp 36), (.agg [(I (p1.Mass)), (I (p1.Heat)), (I (p1.Silica)), (I (p1.Gas))]))], [], (.agg [(I (x15.Mass)), (I (x15.Heat)), (I (x15.Silica)), (I (x15.Gas))]), [], false⟩,
    ⟨[((.func 29), (.fn (.func 29) [] [])), ((.tmp 37), (.agg [(I (x15.Mass)), (I (x15.Heat)), (I (x15.Silica)), (I (x15.Gas))]))], [], (I (x17)), [], false⟩,
    ⟨[((.tmp 13), (I (y12)))], [], (I (y12)), [], false⟩,
    ⟨[((.tmp 38), (I (x17))), ((.tmp 39), (I (y12)))], [], (B ((x17 != y12))), [], false⟩] (by exact ⟨by kernel_rfl, by kernel_rfl⟩) ?_ ?_
      · exact ⟨fun _ => astep_load rfl ti39 (by decide) rfl (Nat.le_of_ble_eq_true rfl) rfl,
    fun _ => astep_pcall (first := []) (cap := []) (vs := [(.agg [(I (p1.Mass)), (I (p1.Heat)), (I (p1.Silica)), (I (p1.Gas))])]) rfl enter26 (law01_StreamX_ok N p1 _ hf14) rfl rfl (nl_cons (NLt.agg _ (nl_cons (NLt.lit _) (nl_cons (NLt.lit _) (nl_cons (NLt.lit _) (nl_cons (NLt.lit _) nl_nil))))) nl_nil) (NLt.agg _ (nl_cons (NLt.lit _) (nl_cons (NLt.lit _) (nl_cons (NLt.lit _) (nl_cons (NLt.lit _) nl_nil))))) rfl,
    fun _ => astep_pcall (first := []) (cap := []) (vs := [(.agg [(I (x15.Mass)), (I (x15.Heat)), (I (x15.Silica)), (I (x15.Gas))])]) rfl enter29 (steam_CheckStreamX_ok N x15 _ hf16) rfl rfl (nl_cons (NLt.agg _ (nl_cons (NLt.lit _) (nl_cons (NLt.lit _) (nl_cons (NLt.lit _) (nl_cons (NLt.lit _) nl_nil))))) nl_nil) (NLt.lit _) rfl,
    fun _ => astep_move rfl,
    fun _ => astep_bin rfl rfl, trivial⟩
      rcases Bool.eq_false_or_eq_true ((x17 != y12)) with hc18 | hc18
      · replace h := bif_t hc18 h
        refine awp_ift hc18 (by kernel_rfl) ?_
        refine awp_reg [⟨[((.const (.bool false)), (B (false)))], [], (B (false)), [], false⟩] (by exact ⟨by kernel_rfl, by kernel_rfl⟩) ?_ ?_
        · exact ⟨fun _ => astep_assign rfl, trivial⟩
        refine awp_ret ?_
        refine thenA_r ?_
        obtain rfl := Option.some.inj h
        exact ⟨⟨[(B (false))], ⟨resOK_tmp (by kernel_rfl), trivial⟩, rfl⟩, (NLt.lit _), Nat.le_refl _, fun n hn => absurd hn (Nat.not_lt_zero n)⟩
      · replace h := bif_f hc18 h
        refine awp_ifn hc18 (by kernel_rfl) ?_
        refine awp_skip ?_
        refine thenA_n ?_
        refine awp_seq ?_
        obtain ⟨x20, hf19, h⟩ := bind_out h
        refine awp_reg [⟨[((.tmp 0), (.dat 5 ((p0 : List GRow).map c_GRow)))], [], (.dat 5 ((p0 : List GRow).map c_GRow)), [], false⟩,
    ⟨[((.func 21), (.fn (.func 21) [] [])), ((.tmp 41), (.dat 5 ((p0 : List GRow).map c_GRow)))], [], (B (x20)), [], false⟩,
    ⟨[((.tmp 42), (B (x20)))], [], (B ((!x20))), [], false⟩] (by exact ⟨by kernel_rfl, by kernel_rfl⟩) ?_ ?_
        · exact ⟨fun _ => astep_move rfl,
    fun _ => astep_pcall (first := []) (cap := []) (vs := [(.dat 5 ((p0 : List GRow).map c_GRow))]) rfl enter21 (ref01_RightX_ok N p0 _ hf19) rfl rfl (nl_cons (nl_dat nl_GRow _) nl_nil) (NLt.lit _) rfl,
    fun _ => astep_not rfl, trivial⟩
        rcases Bool.eq_false_or_eq_true ((!x20)) with hc21 | hc21
        · replace h := bif_t hc21 h
          refine awp_ift hc21 (by kernel_rfl) ?_
          obtain ⟨x23, hf22, h⟩ := bind_out h
          obtain ⟨x25, hf24, h⟩ := bind_out h
          rcases Bool.eq_false_or_eq_true ((x25 == 1)) with hb26 | hb26
          · replace h := bif_t hb26 h
            rcases Bool.eq_false_or_eq_true ((x7.2 == 1)) with hb27 | hb27
            · replace h := bif_t hb27 h
              rcases Bool.eq_false_or_eq_true ((x11.2 == 1)) with hb28 | hb28
              · replace h := bif_t hb28 h
                rcases Bool.eq_false_or_eq_true ((x7.1 == 0)) with hb29 | hb29
                · replace h := bif_t hb29 h
                  rcases Bool.eq_false_or_eq_true ((([x11.1.N, x11.1.D] : List Int) == [0, 0])) with hb30 | hb30
                  · replace h := bif_t hb30 h
                    obtain ⟨x32, hf31, h⟩ := bind_out h
                    refine awp_reg [⟨[((.tmp 0), (.dat 5 ((p0 : List GRow).map c_GRow)))], [], (.dat 5 ((p0 : List GRow).map c_GRow)), [], false⟩,
    ⟨[((.func 19), (.fn (.func 19) [] [])), ((.tmp 44), (.dat 5 ((p0 : List GRow).map c_GRow)))], [], (.dat 5 ((x23 : List GRow).map c_GRow)), [], false⟩,
    ⟨[((.func 46), (.fn (.func 46) [] [])), ((.tmp 45), (.dat 5 ((x23 : List GRow).map c_GRow)))], [], (I (x25)), [], false⟩,
    ⟨[((.tmp 46), (I (x25))), ((.const (.int .i64 1)), (I (1)))], [], (B ((x25 == 1))), [], false⟩,
    ⟨[((.tmp 47), (B ((x25 == 1))))], [], (B (true)), [], false⟩,
    ⟨[((.tmp 48), (B (true))), ((.tmp 10), (I (x7.2)))], [], (I (x7.2)), [], false⟩,
    ⟨[((.tmp 48), (B (true))), ((.tmp 49), (I (x7.2))), ((.const (.int .i64 1)), (I (1)))], [], (B ((x7.2 == 1))), [], false⟩,
    ⟨[((.tmp 48), (B (true))), ((.tmp 50), (B ((x7.2 == 1)))), ((.const (.bool false)), (B (false)))], [], (B ((x7.2 == 1))), [], false⟩,
    ⟨[((.tmp 51), (B ((x7.2 == 1))))], [], (B (true)), [], false⟩,
    ⟨[((.tmp 52), (B (true))), ((.tmp 12), (I (x11.2)))], [], (I (x11.2)), [], false⟩,
    ⟨[((.tmp 52), (B (true))), ((.tmp 53), (I (x11.2))), ((.const (.int .i64 1)), (I (1)))], [], (B ((x11.2 == 1))), [], false⟩,
    ⟨[((.tmp 52), (B (true))), ((.tmp 54), (B ((x11.2 == 1)))), ((.const (.bool false)), (B (false)))], [], (B ((x11.2 == 1))), [], false⟩,
    ⟨[((.tmp 55), (B ((x11.2 == 1))))], [], (B (true)), [], false⟩,
    ⟨[((.tmp 56), (B (true))), ((.tmp 9), (I (x7.1)))], [], (I (x7.1)), [], false⟩,
    ⟨[((.tmp 56), (B (true))), ((.tmp 57), (I (x7.1))), ((.const (.int .i64 0)), (I (0)))], [], (B ((x7.1 == 0))), [], false⟩,
    ⟨[((.tmp 56), (B (true))), ((.tmp 58), (B ((x7.1 == 0)))), ((.const (.bool false)), (B (false)))], [], (B ((x7.1 == 0))), [], false⟩,
    ⟨[((.tmp 59), (B ((x7.1 == 0))))], [], (B (true)), [], false⟩,
    ⟨[((.tmp 60), (B (true))), ((.tmp 11), (.ref 1 2 (0) 0))], [(1, (.own 2 [[(I (x11.1.N)), (I (x11.1.D))]]))], (.agg [(I (x11.1.N)), (I (x11.1.D))]), [], false⟩,
    ⟨[((.tmp 60), (B (true)))], [], (.agg [(I (0)), (I (0))]), [], false⟩,
    ⟨[((.tmp 60), (B (true))), ((.tmp 61), (.agg [(I (x11.1.N)), (I (x11.1.D))])), ((.tmp 62), (.agg [(I (0)), (I (0))]))], [], (B ((([x11.1.N, x11.1.D] : List Int) == [0, 0]))), [], false⟩,
    ⟨[((.tmp 60), (B (true))), ((.tmp 63), (B ((([x11.1.N, x11.1.D] : List Int) == [0, 0])))), ((.const (.bool false)), (B (false)))], [], (B ((([x11.1.N, x11.1.D] : List Int) == [0, 0]))), [], false⟩,
    ⟨[((.tmp 64), (B ((([x11.1.N, x11.1.D] : List Int) == [0, 0]))))], [], (B (true)), [], false⟩,
    ⟨[((.tmp 65), (B (true))), ((.func 17), (.fn (.func 17) [] []))], [], (B (x32)), [], false⟩,
    ⟨[((.tmp 65), (B (true))), ((.tmp 66), (B (x32))), ((.const (.bool false)), (B (false)))], [], (B (x32)), [], false⟩,
    ⟨[((.tmp 67), (B (x32)))], [], (B (x32)), [], false⟩] (by exact ⟨by kernel_rfl, by kernel_rfl⟩) ?_ ?_
                    · exact ⟨fun _ => astep_move rfl,
    fun _ => astep_pcall (first := []) (cap := []) (vs := [(.dat 5 ((p0 : List GRow).map c_GRow))]) rfl enter19 (law01_TableX_ok N p0 _ hf22) rfl rfl (nl_cons (nl_dat nl_GRow _) nl_nil) (nl_dat nl_GRow _) rfl,
    fun _ => astep_pcall (first := []) (cap := []) (vs := [(.dat 5 ((x23 : List GRow).map c_GRow))]) rfl enter46 (steam_CheckTableX_ok N x23 _ hf24) rfl rfl (nl_cons (nl_dat nl_GRow _) nl_nil) (NLt.lit _) rfl,
    fun _ => astep_bin rfl rfl,
    fun _ => astep_b hb26 (astep_move rfl),
    fun _ => astep_guard (astep_move rfl),
    fun _ => astep_guard (astep_bin rfl rfl),
    fun _ => astep_pick rfl rfl,
    fun _ => astep_b hb27 (astep_move rfl),
    fun _ => astep_guard (astep_move rfl),
    fun _ => astep_guard (astep_bin rfl rfl),
    fun _ => astep_pick rfl rfl,
    fun _ => astep_b hb28 (astep_move rfl),
    fun _ => astep_guard (astep_move rfl),
    fun _ => astep_guard (astep_bin rfl rfl),
    fun _ => astep_pick rfl rfl,
    fun _ => astep_b hb29 (astep_move rfl),
    fun _ => astep_guard (astep_load rfl ti83 (by decide) rfl (Nat.le_of_ble_eq_true rfl) rfl),
    fun _ => astep_guard (astep_build (vs := []) rfl ts83 tz83 rfl (by rfl) rfl),
    fun _ => astep_guard (astep_eqs (ls := [x11.1.N, x11.1.D]) (ks := [0, 0]) rfl rfl eqt83 (by kernel_rfl) rfl rfl),
    fun _ => astep_pick rfl rfl,
    fun _ => astep_b hb30 (astep_move rfl),
    fun _ => astep_guard (astep_pcall (first := []) (cap := []) (vs := []) rfl enter17 (law01_awakeX_ok N  _ hf31) rfl rfl nl_nil (NLt.lit _) rfl),
    fun _ => astep_pick rfl rfl,
    fun _ => astep_assign rfl, trivial⟩
                    refine awp_ret ?_
                    refine thenA_r ?_
                    obtain rfl := Option.some.inj h
                    exact ⟨⟨[(B (x32))], ⟨resOK_tmp (by kernel_rfl), trivial⟩, rfl⟩, (NLt.lit _), Nat.le_refl _, fun n hn => absurd hn (Nat.not_lt_zero n)⟩
                  · replace h := bif_f hb30 h
                    refine awp_reg [⟨[((.tmp 0), (.dat 5 ((p0 : List GRow).map c_GRow)))], [], (.dat 5 ((p0 : List GRow).map c_GRow)), [], false⟩,
    ⟨[((.func 19), (.fn (.func 19) [] [])), ((.tmp 44), (.dat 5 ((p0 : List GRow).map c_GRow)))], [], (.dat 5 ((x23 : List GRow).map c_GRow)), [], false⟩,
    ⟨[((.func 46), (.fn (.func 46) [] [])), ((.tmp 45), (.dat 5 ((x23 : List GRow).map c_GRow)))], [], (I (x25)), [], false⟩,
    ⟨[((.tmp 46), (I (x25))), ((.const (.int .i64 1)), (I (1)))], [], (B ((x25 == 1))), [], false⟩,
    ⟨[((.tmp 47), (B ((x25 == 1))))], [], (B (true)), [], false⟩,
    ⟨[((.tmp 48), (B (true))), ((.tmp 10), (I (x7.2)))], [], (I (x7.2)), [], false⟩,
    ⟨[((.tmp 48), (B (true))), ((.tmp 49), (I (x7.2))), ((.const (.int .i64 1)), (I (1)))], [], (B ((x7.2 == 1))), [], false⟩,
    ⟨[((.tmp 48), (B (true))), ((.tmp 50), (B ((x7.2 == 1)))), ((.const (.bool false)), (B (false)))], [], (B ((x7.2 == 1))), [], false⟩,
    ⟨[((.tmp 51), (B ((x7.2 == 1))))], [], (B (true)), [], false⟩,
    ⟨[((.tmp 52), (B (true))), ((.tmp 12), (I (x11.2)))], [], (I (x11.2)), [], false⟩,
    ⟨[((.tmp 52), (B (true))), ((.tmp 53), (I (x11.2))), ((.const (.int .i64 1)), (I (1)))], [], (B ((x11.2 == 1))), [], false⟩,
    ⟨[((.tmp 52), (B (true))), ((.tmp 54), (B ((x11.2 == 1)))), ((.const (.bool false)), (B (false)))], [], (B ((x11.2 == 1))), [], false⟩,
    ⟨[((.tmp 55), (B ((x11.2 == 1))))], [], (B (true)), [], false⟩,
    ⟨[((.tmp 56), (B (true))), ((.tmp 9), (I (x7.1)))], [], (I (x7.1)), [], false⟩,
    ⟨[((.tmp 56), (B (true))), ((.tmp 57), (I (x7.1))), ((.const (.int .i64 0)), (I (0)))], [], (B ((x7.1 == 0))), [], false⟩,
    ⟨[((.tmp 56), (B (true))), ((.tmp 58), (B ((x7.1 == 0)))), ((.const (.bool false)), (B (false)))], [], (B ((x7.1 == 0))), [], false⟩,
    ⟨[((.tmp 59), (B ((x7.1 == 0))))], [], (B (true)), [], false⟩,
    ⟨[((.tmp 60), (B (true))), ((.tmp 11), (.ref 1 2 (0) 0))], [(1, (.own 2 [[(I (x11.1.N)), (I (x11.1.D))]]))], (.agg [(I (x11.1.N)), (I (x11.1.D))]), [], false⟩,
    ⟨[((.tmp 60), (B (true)))], [], (.agg [(I (0)), (I (0))]), [], false⟩,
    ⟨[((.tmp 60), (B (true))), ((.tmp 61), (.agg [(I (x11.1.N)), (I (x11.1.D))])), ((.tmp 62), (.agg [(I (0)), (I (0))]))], [], (B ((([x11.1.N, x11.1.D] : List Int) == [0, 0]))), [], false⟩,
    ⟨[((.tmp 60), (B (true))), ((.tmp 63), (B ((([x11.1.N, x11.1.D] : List Int) == [0, 0])))), ((.const (.bool false)), (B (false)))], [], (B ((([x11.1.N, x11.1.D] : List Int) == [0, 0]))), [], false⟩,
    ⟨[((.tmp 64), (B ((([x11.1.N, x11.1.D] : List Int) == [0, 0]))))], [], (B (false)), [], false⟩,
    ⟨[((.tmp 65), (B (false)))], [], (.lit undef), [], true⟩,
    ⟨[((.tmp 65), (B (false))), ((.tmp 66), (.lit undef)), ((.const (.bool false)), (B (false)))], [], (B (false)), [], false⟩,
    ⟨[((.tmp 67), (B (false)))], [], (B (false)), [], false⟩] (by exact ⟨by kernel_rfl, by kernel_rfl⟩) ?_ ?_
                    · exact ⟨fun _ => astep_move rfl,
    fun _ => astep_pcall (first := []) (cap := []) (vs := [(.dat 5 ((p0 : List GRow).map c_GRow))]) rfl enter19 (law01_TableX_ok N p0 _ hf22) rfl rfl (nl_cons (nl_dat nl_GRow _) nl_nil) (nl_dat nl_GRow _) rfl,
    fun _ => astep_pcall (first := []) (cap := []) (vs := [(.dat 5 ((x23 : List GRow).map c_GRow))]) rfl enter46 (steam_CheckTableX_ok N x23 _ hf24) rfl rfl (nl_cons (nl_dat nl_GRow _) nl_nil) (NLt.lit _) rfl,
    fun _ => astep_bin rfl rfl,
    fun _ => astep_b hb26 (astep_move rfl),
    fun _ => astep_guard (astep_move rfl),
    fun _ => astep_guard (astep_bin rfl rfl),
    fun _ => astep_pick rfl rfl,
    fun _ => astep_b hb27 (astep_move rfl),
    fun _ => astep_guard (astep_move rfl),
    fun _ => astep_guard (astep_bin rfl rfl),
    fun _ => astep_pick rfl rfl,
    fun _ => astep_b hb28 (astep_move rfl),
    fun _ => astep_guard (astep_move rfl),
    fun _ => astep_guard (astep_bin rfl rfl),
    fun _ => astep_pick rfl rfl,
    fun _ => astep_b hb29 (astep_move rfl),
    fun _ => astep_guard (astep_load rfl ti83 (by decide) rfl (Nat.le_of_ble_eq_true rfl) rfl),
    fun _ => astep_guard (astep_build (vs := []) rfl ts83 tz83 rfl (by rfl) rfl),
    fun _ => astep_guard (astep_eqs (ls := [x11.1.N, x11.1.D]) (ks := [0, 0]) rfl rfl eqt83 (by kernel_rfl) rfl rfl),
    fun _ => astep_pick rfl rfl,
    fun _ => astep_b hb30 (astep_move rfl),
    fun hs => (Bool.noConfusion hs),
    fun _ => astep_pick rfl rfl,
    fun _ => astep_assign rfl, trivial⟩
                    refine awp_ret ?_
                    refine thenA_r ?_
                    obtain rfl := Option.some.inj h
                    exact ⟨⟨[(B (false))], ⟨resOK_tmp (by kernel_rfl), trivial⟩, rfl⟩, (NLt.lit _), Nat.le_refl _, fun n hn => absurd hn (Nat.not_lt_zero n)⟩
                · replace h := bif_f hb29 h
                  refine awp_reg [⟨[((.tmp 0), (.dat 5 ((p0 : List GRow).map c_GRow)))], [], (.dat 5 ((p0 : List GRow).map c_GRow)), [], false⟩,
    ⟨[((.func 19), (.fn (.func 19) [] [])), ((.tmp 44), (.dat 5 ((p0 : List GRow).map c_GRow)))], [], (.dat 5 ((x23 : List GRow).map c_GRow)), [], false⟩,
    ⟨[((.func 46), (.fn (.func 46) [] [])), ((.tmp 45), (.dat 5 ((x23 : List GRow).map c_GRow)))], [], (I (x25)), [], false⟩,
    ⟨[((.tmp 46), (I (x25))), ((.const (.int .i64 1)), (I (1)))], [], (B ((x25 == 1))), [], false⟩,
    ⟨[((.tmp 47), (B ((x25 == 1))))], [], (B (true)), [], false⟩,
    ⟨[((.tmp 48), (B (true))), ((.tmp 10), (I (x7.2)))], [], (I (x7.2)), [], false⟩,
    ⟨[((.tmp 48), (B (true))), ((.tmp 49), (I (x7.2))), ((.const (.int .i64 1)), (I (1)))], [], (B ((x7.2 == 1))), [], false⟩,
    ⟨[((.tmp 48), (B (true))), ((.tmp 50), (B ((x7.2 == 1)))), ((.const (.bool false)), (B (false)))], [], (B ((x7.2 == 1))), [], false⟩,
    ⟨[((.tmp 51), (B ((x7.2 == 1))))], [], (B (true)), [], false⟩,
    ⟨[((.tmp 52), (B (true))), ((.tmp 12), (I (x11.2)))], [], (I (x11.2)), [], false⟩,
    ⟨[((.tmp 52), (B (true))), ((.tmp 53), (I (x11.2))), ((.const (.int .i64 1)), (I (1)))], [], (B ((x11.2 == 1))), [], false⟩,
    ⟨[((.tmp 52), (B (true))), ((.tmp 54), (B ((x11.2 == 1)))), ((.const (.bool false)), (B (false)))], [], (B ((x11.2 == 1))), [], false⟩,
    ⟨[((.tmp 55), (B ((x11.2 == 1))))], [], (B (true)), [], false⟩,
    ⟨[((.tmp 56), (B (true))), ((.tmp 9), (I (x7.1)))], [], (I (x7.1)), [], false⟩,
    ⟨[((.tmp 56), (B (true))), ((.tmp 57), (I (x7.1))), ((.const (.int .i64 0)), (I (0)))], [], (B ((x7.1 == 0))), [], false⟩,
    ⟨[((.tmp 56), (B (true))), ((.tmp 58), (B ((x7.1 == 0)))), ((.const (.bool false)), (B (false)))], [], (B ((x7.1 == 0))), [], false⟩,
    ⟨[((.tmp 59), (B ((x7.1 == 0))))], [], (B (false)), [], false⟩,
    ⟨[((.tmp 60), (B (false)))], [], (.lit undef), [], true⟩,
    ⟨[((.tmp 60), (B (false)))], [], (.lit undef), [], true⟩,
    ⟨[((.tmp 60), (B (false)))], [], (.lit undef), [], true⟩,
    ⟨[((.tmp 60), (B (false))), ((.tmp 63), (.lit undef)), ((.const (.bool false)), (B (false)))], [], (B (false)), [], false⟩,
    ⟨[((.tmp 64), (B (false)))], [], (B (false)), [], false⟩,
    ⟨[((.tmp 65), (B (false)))], [], (.lit undef), [], true⟩,
    ⟨[((.tmp 65), (B (false))), ((.tmp 66), (.lit undef)), ((.const (.bool false)), (B (false)))], [], (B (false)), [], false⟩,
    ⟨[((.tmp 67), (B (false)))], [], (B (false)), [], false⟩] (by exact ⟨by kernel_rfl, by kernel_rfl⟩) ?_ ?_
                  · exact ⟨fun _ => astep_move rfl,
    fun _ => astep_pcall (first := []) (cap := []) (vs := [(.dat 5 ((p0 : List GRow).map c_GRow))]) rfl enter19 (law01_TableX_ok N p0 _ hf22) rfl rfl (nl_cons (nl_dat nl_GRow _) nl_nil) (nl_dat nl_GRow _) rfl,
    fun _ => astep_pcall (first := []) (cap := []) (vs := [(.dat 5 ((x23 : List GRow).map c_GRow))]) rfl enter46 (steam_CheckTableX_ok N x23 _ hf24) rfl rfl (nl_cons (nl_dat nl_GRow _) nl_nil) (NLt.lit _) rfl,
    fun _ => astep_bin rfl rfl,
    fun _ => astep_b hb26 (astep_move rfl),
    fun _ => astep_guard (astep_move rfl),
    fun _ => astep_guard (astep_bin rfl rfl),
    fun _ => astep_pick rfl rfl,
    fun _ => astep_b hb27 (astep_move rfl),
    fun _ => astep_guard (astep_move rfl),
    fun _ => astep_guard (astep_bin rfl rfl),
    fun _ => astep_pick rfl rfl,
    fun _ => astep_b hb28 (astep_move rfl),
    fun _ => astep_guard (astep_move rfl),
    fun _ => astep_guard (astep_bin rfl rfl),
    fun _ => astep_pick rfl rfl,
    fun _ => astep_b hb29 (astep_move rfl),
    fun hs => (Bool.noConfusion hs),
    fun hs => (Bool.noConfusion hs),
    fun hs => (Bool.noConfusion hs),
    fun _ => astep_pick rfl rfl,
    fun _ => astep_move rfl,
    fun hs => (Bool.noConfusion hs),
    fun _ => astep_pick rfl rfl,
    fun _ => astep_assign rfl, trivial⟩
                  refine awp_ret ?_
                  refine thenA_r ?_
                  obtain rfl := Option.some.inj h
                  exact ⟨⟨[(B (false))], ⟨resOK_tmp (by kernel_rfl), trivial⟩, rfl⟩, (NLt.lit _), Nat.le_refl _, fun n hn => absurd hn (Nat.not_lt_zero n)⟩
              · replace h := bif_f hb28 h
                refine awp_reg [⟨[((.tmp 0), (.dat 5 ((p0 : List GRow).map c_GRow)))], [], (.dat 5 ((p0 : List GRow).map c_GRow)), [], false⟩,
    ⟨[((.func 19), (.fn (.func 19) [] [])), ((.tmp 44), (.dat 5 ((p0 : List GRow).map c_GRow)))], [], (.dat 5 ((x23 : List GRow).map c_GRow)), [], false⟩,
    ⟨[((.func 46), (.fn (.func 46) [] [])), ((.tmp 45), (.dat 5 ((x23 : List GRow).map c_GRow)))], [], (I (x25)), [], false⟩,
    ⟨[((.tmp 46), (I (x25))), ((.const (.int .i64 1)), (I (1)))], [], (B ((x25 == 1))), [], false⟩,
    ⟨[((.tmp 47), (B ((x25 == 1))))], [], (B (true)), [], false⟩,
    ⟨[((.tmp 48), (B (true))), ((.tmp 10), (I (x7.2)))], [], (I (x7.2)), [], false⟩,
    ⟨[((.tmp 48), (B (true))), ((.tmp 49), (I (x7.2))), ((.const (.int .i64 1)), (I (1)))], [], (B ((x7.2 == 1))), [], false⟩,
    ⟨[((.tmp 48), (B (true))), ((.tmp 50), (B ((x7.2 == 1)))), ((.const (.bool false)), (B (false)))], [], (B ((x7.2 == 1))), [], false⟩,
    ⟨[((.tmp 51), (B ((x7.2 == 1))))], [], (B (true)), [], false⟩,
    ⟨[((.tmp 52), (B (true))), ((.tmp 12), (I (x11.2)))], [], (I (x11.2)), [], false⟩,
    ⟨[((.tmp 52), (B (true))), ((.tmp 53), (I (x11.2))), ((.const (.int .i64 1)), (I (1)))], [], (B ((x11.2 == 1))), [], false⟩,
    ⟨[((.tmp 52), (B (true))), ((.tmp 54), (B ((x11.2 == 1)))), ((.const (.bool false)), (B (false)))], [], (B ((x11.2 == 1))), [], false⟩,
    ⟨[((.tmp 55), (B ((x11.2 == 1))))], [], (B (false)), [], false⟩,
    ⟨[((.tmp 56), (B (false)))], [], (.lit undef), [], true⟩,
    ⟨[((.tmp 56), (B (false)))], [], (.lit undef), [], true⟩,
    ⟨[((.tmp 56), (B (false))), ((.tmp 58), (.lit undef)), ((.const (.bool false)), (B (false)))], [], (B (false)), [], false⟩,
    ⟨[((.tmp 59), (B (false)))], [], (B (false)), [], false⟩,
    ⟨[((.tmp 60), (B (false)))], [], (.lit undef), [], true⟩,
    ⟨[((.tmp 60), (B (false)))], [], (.lit undef), [], true⟩,
    ⟨[((.tmp 60), (B (false)))], [], (.lit undef), [], true⟩,
    ⟨[((.tmp 60), (B (false))), ((.tmp 63), (.lit undef)), ((.const (.bool false)), (B (false)))], [], (B (false)), [], false⟩,
    ⟨[((.tmp 64), (B (false)))], [], (B (false)), [], false⟩,
    ⟨[((.tmp 65), (B (false)))], [], (.lit undef), [], true⟩,
    ⟨[((.tmp 65), (B (false))), ((.tmp 66), (.lit undef)), ((.const (.bool false)), (B (false)))], [], (B (false)), [], false⟩,
    ⟨[((.tmp 67), (B (false)))], [], (B (false)), [], false⟩] (by exact ⟨by kernel_rfl, by kernel_rfl⟩) ?_ ?_
                · exact ⟨fun _ => astep_move rfl,
    fun _ => astep_pcall (first := []) (cap := []) (vs := [(.dat 5 ((p0 : List GRow).map c_GRow))]) rfl enter19 (law01_TableX_ok N p0 _ hf22) rfl rfl (nl_cons (nl_dat nl_GRow _) nl_nil) (nl_dat nl_GRow _) rfl,
    fun _ => astep_pcall (first := []) (cap := []) (vs := [(.dat 5 ((x23 : List GRow).map c_GRow))]) rfl enter46 (steam_CheckTableX_ok N x23 _ hf24) rfl rfl (nl_cons (nl_dat nl_GRow _) nl_nil) (NLt.lit _) rfl,
    fun _ => astep_bin rfl rfl,
    fun _ => astep_b hb26 (astep_move rfl),
    fun _ => astep_guard (astep_move rfl),
    fun _ => astep_guard (astep_bin rfl rfl),
    fun _ => astep_pick rfl rfl,
    fun _ => astep_b hb27 (astep_move rfl),
    fun _ => astep_guard (astep_move rfl),
    fun _ => astep_guard (astep_bin rfl rfl),
    fun _ => astep_pick rfl rfl,
    fun _ => astep_b hb28 (astep_move rfl),
    fun hs => (Bool.noConfusion hs),
    fun hs => (Bool.noConfusion hs),
    fun _ => astep_pick rfl rfl,
    fun _ => astep_move rfl,
    fun hs => (Bool.noConfusion hs),
    fun hs => (Bool.noConfusion hs),
    fun hs => (Bool.noConfusion hs),
    fun _ => astep_pick rfl rfl,
    fun _ => astep_move rfl,
    fun hs => (Bool.noConfusion hs),
    fun _ => astep_pick rfl rfl,
    fun _ => astep_assign rfl, trivial⟩
                refine awp_ret ?_
                refine thenA_r ?_
                obtain rfl := Option.some.inj h
                exact ⟨⟨[(B (false))], ⟨resOK_tmp (by kernel_rfl), trivial⟩, rfl⟩, (NLt.lit _), Nat.le_refl _, fun n hn => absurd hn (Nat.not_lt_zero n)⟩
            · replace h := bif_f hb27 h
              refine awp_reg [⟨[((.tmp 0), (.dat 5 ((p0 : List GRow).map c_GRow)))], [], (.dat 5 ((p0 : List GRow).map c_GRow)), [], false⟩,
    ⟨[((.func 19), (.fn (.func 19) [] [])), ((.tmp 44), (.dat 5 ((p0 : List GRow).map c_GRow)))], [], (.dat 5 ((x23 : List GRow).map c_GRow)), [], false⟩,
    ⟨[((.func 46), (.fn (.func 46) [] [])), ((.tmp 45), (.dat 5 ((x23 : List GRow).map c_GRow)))], [], (I (x25)), [], false⟩,
    ⟨[((.tmp 46), (I (x25))), ((.const (.int .i64 1)), (I (1)))], [], (B ((x25 == 1))), [], false⟩,
    ⟨[((.tmp 47), (B ((x25 == 1))))], [], (B (true)), [], false⟩,
    ⟨[((.tmp 48), (B (true))), ((.tmp 10), (I (x7.2)))], [], (I (x7.2)), [], false⟩,
    ⟨[((.tmp 48), (B (true))), ((.tmp 49), (I (x7.2))), ((.const (.int .i64 1)), (I (1)))], [], (B ((x7.2 == 1))), [], false⟩,
    ⟨[((.tmp 48), (B (true))), ((.tmp 50), (B ((x7.2 == 1)))), ((.const (.bool false)), (B (false)))], [], (B ((x7.2 == 1))), [], false⟩,
    ⟨[((.tmp 51), (B ((x7.2 == 1))))], [], (B (false)), [], false⟩,
    ⟨[((.tmp 52), (B (false)))], [], (.lit undef), [], true⟩,
    ⟨[((.tmp 52), (B (false)))], [], (.lit undef), [], true⟩,
    ⟨[((.tmp 52), (B (false))), ((.tmp 54), (.lit undef)), ((.const (.bool false)), (B (false)))], [], (B (false)), [], false⟩,
    ⟨[((.tmp 55), (B (false)))], [], (B (false)), [], false⟩,
    ⟨[((.tmp 56), (B (false)))], [], (.lit undef), [], true⟩,
    ⟨[((.tmp 56), (B (false)))], [], (.lit undef), [], true⟩,
    ⟨[((.tmp 56), (B (false))), ((.tmp 58), (.lit undef)), ((.const (.bool false)), (B (false)))], [], (B (false)), [], false⟩,
    ⟨[((.tmp 59), (B (false)))], [], (B (false)), [], false⟩,
    ⟨[((.tmp 60), (B (false)))], [], (.lit undef), [], true⟩,
    ⟨[((.tmp 60), (B (false)))], [], (.lit undef), [], true⟩,
    ⟨[((.tmp 60), (B (false)))], [], (.lit undef), [], true⟩,
    ⟨[((.tmp 60), (B (false))), ((.tmp 63), (.lit undef)), ((.const (.bool false)), (B (false)))], [], (B (false)), [], false⟩,
    ⟨[((.tmp 64), (B (false)))], [], (B (false)), [], false⟩,
    ⟨[((.tmp 65), (B (false)))], [], (.lit undef), [], true⟩,
    ⟨[((.tmp 65), (B (false))), ((.tmp 66), (.lit undef)), ((.const (.bool false)), (B (false)))], [], (B (false)), [], false⟩,
    ⟨[((.tmp 67), (B (false)))], [], (B (false)), [], false⟩] (by exact ⟨by kernel_rfl, by kernel_rfl⟩) ?_ ?_
              · exact ⟨fun _ => astep_move rfl,
    fun _ => astep_pcall (first := []) (cap := []) (vs := [(.dat 5 ((p0 : List GRow).map c_GRow))]) rfl enter19 (law01_TableX_ok N p0 _ hf22) rfl rfl (nl_cons (nl_dat nl_GRow _) nl_nil) (nl_dat nl_GRow _) rfl,
    fun _ => astep_pcall (first := []) (cap := []) (vs := [(.dat 5 ((x23 : List GRow).map c_GRow))]) rfl enter46 (steam_CheckTableX_ok N x23 _ hf24) rfl rfl (nl_cons (nl_dat nl_GRow _) nl_nil) (NLt.lit _) rfl,
    fun _ => astep_bin rfl rfl,
    fun _ => astep_b hb26 (astep_move rfl),
    fun _ => astep_guard (astep_move rfl),
    fun _ => astep_guard (astep_bin rfl rfl),
    fun _ => astep_pick rfl rfl,
    fun _ => astep_b hb27 (astep_move rfl),
    fun hs => (Bool.noConfusion hs),
    fun hs => (Bool.noConfusion hs),
    fun _ => astep_pick rfl rfl,
    fun _ => astep_move rfl,
    fun hs => (Bool.noConfusion hs),
    fun hs => (Bool.noConfusion hs),
    fun _ => astep_pick rfl rfl,
    fun _ => astep_move rfl,
    fun hs => (Bool.noConfusion hs),
    fun hs => (Bool.noConfusion hs),
    fun hs => (Bool.noConfusion hs),
    fun _ => astep_pick rfl rfl,
    fun _ => astep_move rfl,
    fun hs => (Bool.noConfusion hs),
    fun _ => astep_pick rfl rfl,
    fun _ => astep_assign rfl, trivial⟩
              refine awp_ret ?_
              refine thenA_r ?_
              obtain rfl := Option.some.inj h
              exact ⟨⟨[(B (false))], ⟨resOK_tmp (by kernel_rfl), trivial⟩, rfl⟩, (NLt.lit _), Nat.le_refl _, fun n hn => absurd hn (Nat.not_lt_zero n)⟩
          · replace h := bif_f hb26 h
            refine awp_reg [⟨[((.tmp 0), (.dat 5 ((p0 : List GRow).map c_GRow)))], [], (.dat 5 ((p0 : List GRow).map c_GRow)), [], false⟩,
    ⟨[((.func 19), (.fn (.func 19) [] [])), ((.tmp 44), (.dat 5 ((p0 : List GRow).map c_GRow)))], [], (.dat 5 ((x23 : List GRow).map c_GRow)), [], false⟩,
    ⟨[((.func 46), (.fn (.func 46) [] [])), ((.tmp 45), (.dat 5 ((x23 : List GRow).map c_GRow)))], [], (I (x25)), [], false⟩,
    ⟨[((.tmp 46), (I (x25))), ((.const (.int .i64 1)), (I (1)))], [], (B ((x25 == 1))), [], false⟩,
    ⟨[((.tmp 47), (B ((x25 == 1))))], [], (B (false)), [], false⟩,
    ⟨[((.tmp 48), (B (false)))], [], (.lit undef), [], true⟩,
    ⟨[((.tmp 48), (B (false)))], [], (.lit undef), [], true⟩,
    ⟨[((.tmp 48), (B (false))), ((.tmp 50), (.lit undef)), ((.const (.bool false)), (B (false)))], [], (B (false)), [], false⟩,
    ⟨[((.tmp 51), (B (false)))], [], (B (false)), [], false⟩,
    ⟨[((.tmp 52), (B (false)))], [], (.lit undef), [], true⟩,
    ⟨[((.tmp 52), (B (false)))], [], (.lit undef), [], true⟩,
    ⟨[((.tmp 52), (B (false))), ((.tmp 54), (.lit undef)), ((.const (.bool false)), (B (false)))], [], (B (false)), [], false⟩,
    ⟨[((.tmp 55), (B (false)))], [], (B (false)), [], false⟩,
    ⟨[((.tmp 56), (B (false)))], [], (.lit undef), [], true⟩,
    ⟨[((.tmp 56), (B (false)))], [], (.lit undef), [], true⟩,
    ⟨[((.tmp 56), (B (false))), ((.tmp 58), (.lit undef)), ((.const (.bool false)), (B (false)))], [], (B (false)), [], false⟩,
    ⟨[((.tmp 59), (B (false)))], [], (B (false)), [], false⟩,
    ⟨[((.tmp 60), (B (false)))], [], (.lit undef), [], true⟩,
    ⟨[((.tmp 60), (B (false)))], [], (.lit undef), [], true⟩,
    ⟨[((.tmp 60), (B (false)))], [], (.lit undef), [], true⟩,
    ⟨[((.tmp 60), (B (false))), ((.tmp 63), (.lit undef)), ((.const (.bool false)), (B (false)))], [], (B (false)), [], false⟩,
    ⟨[((.tmp 64), (B (false)))], [], (B (false)), [], false⟩,
    ⟨[((.tmp 65), (B (false)))], [], (.lit undef), [], true⟩,
    ⟨[((.tmp 65), (B (false))), ((.tmp 66), (.lit undef)), ((.const (.bool false)), (B (false)))], [], (B (false)), [], false⟩,
    ⟨[((.tmp 67), (B (false)))], [], (B (false)), [], false⟩] (by exact ⟨by kernel_rfl, by kernel_rfl⟩) ?_ ?_
            · exact ⟨fun _ => astep_move rfl,
    fun _ => astep_pcall (first := []) (cap := []) (vs := [(.dat 5 ((p0 : List GRow).map c_GRow))]) rfl enter19 (law01_TableX_ok N p0 _ hf22) rfl rfl (nl_cons (nl_dat nl_GRow _) nl_nil) (nl_dat nl_GRow _) rfl,
    fun _ => astep_pcall (first := []) (cap := []) (vs := [(.dat 5 ((x23 : List GRow).map c_GRow))]) rfl enter46 (steam_CheckTableX_ok N x23 _ hf24) rfl rfl (nl_cons (nl_dat nl_GRow _) nl_nil) (NLt.lit _) rfl,
    fun _ => astep_bin rfl rfl,
    fun _ => astep_b hb26 (astep_move rfl),
    fun hs => (Bool.noConfusion hs),
    fun hs => (Bool.noConfusion hs),
    fun _ => astep_pick rfl rfl,
    fun _ => astep_move rfl,
    fun hs => (Bool.noConfusion hs),
    fun hs => (Bool.noConfusion hs),
    fun _ => astep_pick rfl rfl,
    fun _ => astep_move rfl,
    fun hs => (Bool.noConfusion hs),
    fun hs => (Bool.noConfusion hs),
    fun _ => astep_pick rfl rfl,
    fun _ => astep_move rfl,
    fun hs => (Bool.noConfusion hs),
    fun hs => (Bool.noConfusion hs),
    fun hs => (Bool.noConfusion hs),
    fun _ => astep_pick rfl rfl,
    fun _ => astep_move rfl,
    fun hs => (Bool.noConfusion hs),
    fun _ => astep_pick rfl rfl,
    fun _ => astep_assign rfl, trivial⟩
            refine awp_ret ?_
            refine thenA_r ?_
            obtain rfl := Option.some.inj h
            exact ⟨⟨[(B (false))], ⟨resOK_tmp (by kernel_rfl), trivial⟩, rfl⟩, (NLt.lit _), Nat.le_refl _, fun n hn => absurd hn (Nat.not_lt_zero n)⟩
        · replace h := bif_f hc21 h
          refine awp_ifn hc21 (by kernel_rfl) ?_
          refine awp_skip ?_
          refine thenA_n ?_
          obtain ⟨x34, hf33, h⟩ := bind_out h
          refine awp_reg [⟨[((.tmp 0), (.dat 5 ((p0 : List GRow).map c_GRow)))], [], (.dat 5 ((p0 : List GRow).map c_GRow)), [], false⟩,
    ⟨[((.tmp 2), (I (p2)))], [], (I (p2)), [], false⟩,
    ⟨[((.func 47), (.fn (.func 47) [] [])), ((.tmp 68), (.dat 5 ((p0 : List GRow).map c_GRow))), ((.tmp 69), (I (p2)))], [], (I (x34)), [], false⟩,
    ⟨[((.tmp 70), (I (x34)))], [], (I (x34)), [], false⟩] (by exact ⟨by kernel_rfl, by kernel_rfl⟩) ?_ ?_
          · exact ⟨fun _ => astep_move rfl,
    fun _ => astep_move rfl,
    fun _ => astep_pcall (first := []) (cap := []) (vs := [(.dat 5 ((p0 : List GRow).map c_GRow)), (I (p2))]) rfl enter47 (ref01_AtX_ok N p0 p2 _ hf33) rfl rfl (nl_cons (nl_dat nl_GRow _) (nl_cons (NLt.lit _) nl_nil)) (NLt.lit _) rfl,
    fun _ => astep_assign rfl, trivial⟩
          obtain ⟨k35, hk_k35, h⟩ := joinK_out h
          refine awp_join (τ := Unit) (fun t => k35 t = some r) (fun _ => ⟨mk 141 [(0, (.dat 5 ((p0 : List GRow).map c_GRow))), (3, (I (p3))), (11, (.ref 0 2 (0) 0)), (12, (I (x11.2)))], [(.own 2 [[(I (x11.1.N)), (I (x11.1.D))]])]⟩) (fun t h => ?_) ?_
          · subst hk_k35
            refine awp_seq ?_
            obtain ⟨x36, hg37, h⟩ := bind_out h
            obtain ⟨hi38, hj39⟩ := getI_some hg37
            obtain ⟨x40, hg41, h⟩ := bind_out h
            obtain ⟨hi42, hj43⟩ := getI_some hg41
            obtain ⟨x45, hf44, h⟩ := bind_out h
            refine awp_regd [⟨[((.tmp 3), (I (p3)))], [], (I (p3)), [], false⟩,
    ⟨[((.tmp 0), (.dat 5 ((p0 : List GRow).map c_GRow)))], [], (.dat 5 ((p0 : List GRow).map c_GRow)), [], false⟩,
    ⟨[((.tmp 101), (.dat 5 ((p0 : List GRow).map c_GRow))), ((.const (.int .i64 0)), (I (0)))], [], (.dptr (c_GRow (x36)) 0), [], false⟩,
    ⟨[((.tmp 102), (.dptr (c_GRow (x36)) 0))], [], (.dptr (c_GRow (x36)) 0), [], false⟩,
    ⟨[((.tmp 103), (.dptr (c_GRow (x36)) 0))], [], (I (x36.T)), [], false⟩,
    ⟨[((.tmp 0), (.dat 5 ((p0 : List GRow).map c_GRow)))], [], (.dat 5 ((p0 : List GRow).map c_GRow)), [], false⟩,
    ⟨[((.tmp 0), (.dat 5 ((p0 : List GRow).map c_GRow)))], [], (.dat 5 ((p0 : List GRow).map c_GRow)), [], false⟩,
    ⟨[((.tmp 106), (.dat 5 ((p0 : List GRow).map c_GRow)))], [], (I ((p0.length : Int))), [], false⟩,
    ⟨[((.tmp 107), (I ((p0.length : Int)))), ((.const (.int .i64 1)), (I (1)))], [], (I (w64 ((p0.length : Int) - 1))), [], false⟩,
    ⟨[((.tmp 105), (.dat 5 ((p0 : List GRow).map c_GRow))), ((.tmp 108), (I (w64 ((p0.length : Int) - 1))))], [], (.dptr (c_GRow (x40)) 0), [], false⟩,
    ⟨[((.tmp 109), (.dptr (c_GRow (x40)) 0))], [], (.dptr (c_GRow (x40)) 0), [], false⟩,
    ⟨[((.tmp 110), (.dptr (c_GRow (x40)) 0))], [], (I (x40.T)), [], false⟩,
    ⟨[((.func 31), (.fn (.func 31) [] [])), ((.tmp 100), (I (p3))), ((.tmp 104), (I (x36.T))), ((.tmp 111), (I (x40.T)))], [], (B (x45)), [], false⟩,
    ⟨[((.tmp 112), (B (x45)))], [], (B ((!x45))), [], false⟩] (by kernel_rfl) (by exact ⟨by kernel_rfl, by kernel_rfl⟩) (by kernel_rfl) ?_ ?_
            · exact ⟨fun _ => astep_move rfl,
    fun _ => astep_move rfl,
    fun _ => astep_idxd rfl Try.underlying23 ti49 rfl rfl hi38 (map_get c_GRow hj39) rfl,
    fun _ => astep_faddrd rfl Try.underlying49 rfl rfl ti3 (by decide) rfl,
    fun _ => astep_loadd rfl ti3 (by decide) (Nat.le_of_ble_eq_true rfl) rfl,
    fun _ => astep_move rfl,
    fun _ => astep_move rfl,
    fun _ => astep_lenm (c := c_GRow) (l := p0) (astep_len rfl Try.underlying23 rfl),
    fun _ => astep_bin rfl rfl,
    fun _ => astep_idxd rfl Try.underlying23 ti49 rfl rfl hi42 (map_get c_GRow hj43) rfl,
    fun _ => astep_faddrd rfl Try.underlying49 rfl rfl ti3 (by decide) rfl,
    fun _ => astep_loadd rfl ti3 (by decide) (Nat.le_of_ble_eq_true rfl) rfl,
    fun _ => astep_pcall (first := []) (cap := []) (vs := [(I (p3)), (I (x36.T)), (I (x40.T))]) rfl enter31 (ref01_InX_ok N p3 x36.T x40.T _ hf44) rfl rfl (nl_cons (NLt.lit _) (nl_cons (NLt.lit _) (nl_cons (NLt.lit _) nl_nil))) (NLt.lit _) rfl,
    fun _ => astep_not rfl, trivial⟩
            rcases Bool.eq_false_or_eq_true ((!x45)) with hc46 | hc46
            · replace h := bif_t hc46 h
              refine awp_ift hc46 (by kernel_rfl) ?_
              rcases Bool.eq_false_or_eq_true ((x11.2 == 2)) with hb47 | hb47
              · replace h := bif_t hb47 h
                rcases Bool.eq_false_or_eq_true ((([x11.1.N, x11.1.D] : List Int) == [0, 0])) with hb48 | hb48
                · replace h := bif_t hb48 h
                  obtain ⟨x50, hf49, h⟩ := bind_out h
                  refine awp_reg [⟨[((.tmp 12), (I (x11.2)))], [], (I (x11.2)), [], false⟩,
    ⟨[((.tmp 114), (I (x11.2))), ((.const (.int .i64 2)), (I (2)))], [], (B ((x11.2 == 2))), [], false⟩,
    ⟨[((.tmp 115), (B ((x11.2 == 2))))], [], (B (true)), [], false⟩,
    ⟨[((.tmp 116), (B (true))), ((.tmp 11), (.ref 0 2 (0) 0))], [(0, (.own 2 [[(I (x11.1.N)), (I (x11.1.D))]]))], (.agg [(I (x11.1.N)), (I (x11.1.D))]), [], false⟩,
    ⟨[((.tmp 116), (B (true)))], [], (.agg [(I (0)), (I (0))]), [], false⟩,
    ⟨[((.tmp 116), (B (true))), ((.tmp 117), (.agg [(I (x11.1.N)), (I (x11.1.D))])), ((.tmp 118), (.agg [(I (0)), (I (0))]))], [], (B ((([x11.1.N, x11.1.D] : List Int) == [0, 0]))), [], false⟩,
    ⟨[((.tmp 116), (B (true))), ((.tmp 119), (B ((([x11.1.N, x11.1.D] : List Int) == [0, 0])))), ((.const (.bool false)), (B (false)))], [], (B ((([x11.1.N, x11.1.D] : List Int) == [0, 0]))), [], false⟩,
    ⟨[((.tmp 120), (B ((([x11.1.N, x11.1.D] : List Int) == [0, 0]))))], [], (B (true)), [], false⟩,
    ⟨[((.tmp 121), (B (true))), ((.func 17), (.fn (.func 17) [] []))], [], (B (x50)), [], false⟩,
    ⟨[((.tmp 121), (B (true))), ((.tmp 122), (B (x50))), ((.const (.bool false)), (B (false)))], [], (B (x50)), [], false⟩,
    ⟨[((.tmp 123), (B (x50)))], [], (B (x50)), [], false⟩] (by exact ⟨by kernel_rfl, by kernel_rfl⟩) ?_ ?_
                  · exact ⟨fun _ => astep_move rfl,
    fun _ => astep_bin rfl rfl,
    fun _ => astep_b hb47 (astep_move rfl),
    fun _ => astep_guard (astep_load rfl ti83 (by decide) rfl (Nat.le_of_ble_eq_true rfl) rfl),
    fun _ => astep_guard (astep_build (vs := []) rfl ts83 tz83 rfl (by rfl) rfl),
    fun _ => astep_guard (astep_eqs (ls := [x11.1.N, x11.1.D]) (ks := [0, 0]) rfl rfl eqt83 (by kernel_rfl) rfl rfl),
    fun _ => astep_pick rfl rfl,
    fun _ => astep_b hb48 (astep_move rfl),
    fun _ => astep_guard (astep_pcall (first := []) (cap := []) (vs := []) rfl enter17 (law01_awakeX_ok N  _ hf49) rfl rfl nl_nil (NLt.lit _) rfl),
    fun _ => astep_pick rfl rfl,
    fun _ => astep_assign rfl, trivial⟩
                  refine awp_ret ?_
                  refine thenA_r ?_
                  obtain rfl := Option.some.inj h
                  exact ⟨⟨[(B (x50))], ⟨resOK_tmp (by kernel_rfl), trivial⟩, rfl⟩, (NLt.lit _), Nat.le_refl _, fun n hn => absurd hn (Nat.not_lt_zero n)⟩
                · replace h := bif_f hb48 h
                  refine awp_reg [⟨[((.tmp 12), (I (x11.2)))], [], (I (x11.2)), [], false⟩,
    ⟨[((.tmp 114), (I (x11.2))), ((.const (.int .i64 2)), (I (2)))], [], (B ((x11.2 == 2))), [], false⟩,
    ⟨[((.tmp 115), (B ((x11.2 == 2))))], [], (B (true)), [], false⟩,
    ⟨[((.tmp 116), (B (true))), ((.tmp 11), (.ref 0 2 (0) 0))], [(0, (.own 2 [[(I (x11.1.N)), (I (x11.1.D))]]))], (.agg [(I (x11.1.N)), (I (x11.1.D))]), [], false⟩,
    ⟨[((.tmp 116), (B (true)))], [], (.agg [(I (0)), (I (0))]), [], false⟩,
    ⟨[((.tmp 116), (B (true))), ((.tmp 117), (.agg [(I (x11.1.N)), (I (x11.1.D))])), ((.tmp 118), (.agg [(I (0)), (I (0))]))], [], (B ((([x11.1.N, x11.1.D] : List Int) == [0, 0]))), [], false⟩,
    ⟨[((.tmp 116), (B (true))), ((.tmp 119), (B ((([x11.1.N, x11.1.D] : List Int) == [0, 0])))), ((.const (.bool false)), (B (false)))], [], (B ((([x11.1.N, x11.1.D] : List Int) == [0, 0]))), [], false⟩,
    ⟨[((.tmp 120), (B ((([x11.1.N, x11.1.D] : List Int) == [0, 0]))))], [], (B (false)), [], false⟩,
    ⟨[((.tmp 121), (B (false)))], [], (.lit undef), [], true⟩,
    ⟨[((.tmp 121), (B (false))), ((.tmp 122), (.lit undef)), ((.const (.bool false)), (B (false)))], [], (B (false)), [], false⟩,
    ⟨[((.tmp 123), (B (false)))], [], (B (false)), [], false⟩] (by exact ⟨by kernel_rfl, by kernel_rfl⟩) ?_ ?_
                  · exact ⟨fun _ => astep_move rfl,
    fun _ => astep_bin rfl rfl,
    fun _ => astep_b hb47 (astep_move rfl),
    fun _ => astep_guard (astep_load rfl ti83 (by decide) rfl (Nat.le_of_ble_eq_true rfl) rfl),
    fun _ => astep_guard (astep_build (vs := []) rfl ts83 tz83 rfl (by rfl) rfl),
    fun _ => astep_guard (astep_eqs (ls := [x11.1.N, x11.1.D]) (ks := [0, 0]) rfl rfl eqt83 (by kernel_rfl) rfl rfl),
    fun _ => astep_pick rfl rfl,
    fun _ => astep_b hb48 (astep_move rfl),
    fun hs => (Bool.noConfusion hs),
    fun _ => astep_pick rfl rfl,
    fun _ => astep_assign rfl, trivial⟩
                  refine awp_ret ?_
                  refine thenA_r ?_
                  obtain rfl := Option.some.inj h
                  exact ⟨⟨[(B (false))], ⟨resOK_tmp (by kernel_rfl), trivial⟩, rfl⟩, (NLt.lit _), Nat.le_refl _, fun n hn => absurd hn (Nat.not_lt_zero n)⟩
              · replace h := bif_f hb47 h
                refine awp_reg [⟨[((.tmp 12), (I (x11.2)))], [], (I (x11.2)), [], false⟩,
    ⟨[((.tmp 114), (I (x11.2))), ((.const (.int .i64 2)), (I (2)))], [], (B ((x11.2 == 2))), [], false⟩,
    ⟨[((.tmp 115), (B ((x11.2 == 2))))], [], (B (false)), [], false⟩,
    ⟨[((.tmp 116), (B (false)))], [], (.lit undef), [], true⟩,
    ⟨[((.tmp 116), (B (false)))], [], (.lit undef), [], true⟩,
    ⟨[((.tmp 116), (B (false)))], [], (.lit undef), [], true⟩,
    ⟨[((.tmp 116), (B (false))), ((.tmp 119), (.lit undef)), ((.const (.bool false)), (B (false)))], [], (B (false)), [], false⟩,
    ⟨[((.tmp 120), (B (false)))], [], (B (false)), [], false⟩,
    ⟨[((.tmp 121), (B (false)))], [], (.lit undef), [], true⟩,
    ⟨[((.tmp 121), (B (false))), ((.tmp 122), (.lit undef)), ((.const (.bool false)), (B (false)))], [], (B (false)), [], false⟩,
    ⟨[((.tmp 123), (B (false)))], [], (B (false)), [], false⟩] (by exact ⟨by kernel_rfl, by kernel_rfl⟩) ?_ ?_
                · exact ⟨fun _ => astep_move rfl,
    fun _ => astep_bin rfl rfl,
    fun _ => astep_b hb47 (astep_move rfl),
    fun hs => (Bool.noConfusion hs),
    fun hs => (Bool.noConfusion hs),
    fun hs => (Bool.noConfusion hs),
    fun _ => astep_pick rfl rfl,
    fun _ => astep_move rfl,
    fun hs => (Bool.noConfusion hs),
    fun _ => astep_pick rfl rfl,
    fun _ => astep_assign rfl, trivial⟩
                refine awp_ret ?_
                refine thenA_r ?_
                obtain rfl := Option.some.inj h
                exact ⟨⟨[(B (false))], ⟨resOK_tmp (by kernel_rfl), trivial⟩, rfl⟩, (NLt.lit _), Nat.le_refl _, fun n hn => absurd hn (Nat.not_lt_zero n)⟩
            · replace h := bif_f hc46 h
              refine awp_ifn hc46 (by kernel_rfl) ?_
              refine awp_skip ?_
              refine thenA_n ?_
              obtain ⟨x52, hf51, h⟩ := bind_out h
              refine awp_reg [⟨[((.tmp 0), (.dat 5 ((p0 : List GRow).map c_GRow)))], [], (.dat 5 ((p0 : List GRow).map c_GRow)), [], false⟩,
    ⟨[((.tmp 3), (I (p3)))], [], (I (p3)), [], false⟩,
    ⟨[((.func 48), (.fn (.func 48) [] [])), ((.tmp 124), (.dat 5 ((p0 : List GRow).map c_GRow))), ((.tmp 125), (I (p3)))], [], (.agg [(I (x52.N)), (I (x52.D))]), [], false⟩,
    ⟨[], [(1, .unused)], (.ref 1 2 (0) 0), [(1, (.own 2 [[(I (0)), (I (0))]]))], false⟩,
    ⟨[((.tmp 15), (.ref 1 2 (0) 0)), ((.tmp 126), (.agg [(I (x52.N)), (I (x52.D))]))], [(1, (.own 2 [[(I (0)), (I (0))]]))], .any, [(1, (.own 2 [[(I (x52.N)), (I (x52.D))]]))], false⟩] (by exact ⟨by kernel_rfl, by kernel_rfl⟩) ?_ ?_
              · exact ⟨fun _ => astep_move rfl,
    fun _ => astep_move rfl,
    fun _ => astep_pcall (first := []) (cap := []) (vs := [(.dat 5 ((p0 : List GRow).map c_GRow)), (I (p3))]) rfl enter48 (ref01_SaturationX_ok N p0 p3 _ hf51) rfl rfl (nl_cons (nl_dat nl_GRow _) (nl_cons (NLt.lit _) nl_nil)) (NLt.agg _ (nl_cons (NLt.lit _) (nl_cons (NLt.lit _) nl_nil))) rfl,
    fun _ => astep_alloc rfl tz95 rfl,
    fun _ => astep_store rfl ti95 (by rfl) rfl (Nat.le_of_ble_eq_true rfl) rfl, trivial⟩
              rcases Bool.eq_false_or_eq_true ((x11.2 == 0)) with hb53 | hb53
              · replace h := bif_t hb53 h
                rcases Bool.eq_false_or_eq_true ((([x11.1.N, x11.1.D] : List Int) == [x52.N, x52.D])) with hb54 | hb54
                · replace h := bif_t hb54 h
                  obtain ⟨x56, hf55, h⟩ := bind_out h
                  refine awp_reg [⟨[((.tmp 12), (I (x11.2)))], [], (I (x11.2)), [], false⟩,
    ⟨[((.tmp 127), (I (x11.2))), ((.const (.int .i64 0)), (I (0)))], [], (B ((x11.2 == 0))), [], false⟩,
    ⟨[((.tmp 128), (B ((x11.2 == 0))))], [], (B (true)), [], false⟩,
    ⟨[((.tmp 129), (B (true))), ((.tmp 11), (.ref 0 2 (0) 0))], [(0, (.own 2 [[(I (x11.1.N)), (I (x11.1.D))]]))], (.agg [(I (x11.1.N)), (I (x11.1.D))]), [], false⟩,
    ⟨[((.tmp 129), (B (true))), ((.tmp 15), (.ref 1 2 (0) 0))], [(1, (.own 2 [[(I (x52.N)), (I (x52.D))]]))], (.ref 1 2 (0) 0), [], false⟩,
    ⟨[((.tmp 129), (B (true))), ((.tmp 131), (.ref 1 2 (0) 0))], [(1, (.own 2 [[(I (x52.N)), (I (x52.D))]]))], (I (x52.N)), [], false⟩,
    ⟨[((.tmp 129), (B (true))), ((.tmp 15), (.ref 1 2 (0) 0))], [(1, (.own 2 [[(I (x52.N)), (I (x52.D))]]))], (.ref 1 2 (0) 1), [], false⟩,
    ⟨[((.tmp 129), (B (true))), ((.tmp 133), (.ref 1 2 (0) 1))], [(1, (.own 2 [[(I (x52.N)), (I (x52.D))]]))], (I (x52.D)), [], false⟩,
    ⟨[((.tmp 129), (B (true))), ((.tmp 132), (I (x52.N))), ((.tmp 134), (I (x52.D)))], [], (.agg [(I (x52.N)), (I (x52.D))]), [], false⟩,
    ⟨[((.tmp 129), (B (true))), ((.tmp 130), (.agg [(I (x11.1.N)), (I (x11.1.D))])), ((.tmp 135), (.agg [(I (x52.N)), (I (x52.D))]))], [], (B ((([x11.1.N, x11.1.D] : List Int) == [x52.N, x52.D]))), [], false⟩,
    ⟨[((.tmp 129), (B (true))), ((.tmp 136), (B ((([x11.1.N, x11.1.D] : List Int) == [x52.N, x52.D])))), ((.const (.bool false)), (B (false)))], [], (B ((([x11.1.N, x11.1.D] : List Int) == [x52.N, x52.D]))), [], false⟩,
    ⟨[((.tmp 137), (B ((([x11.1.N, x11.1.D] : List Int) == [x52.N, x52.D]))))], [], (B (true)), [], false⟩,
    ⟨[((.tmp 138), (B (true))), ((.func 17), (.fn (.func 17) [] []))], [], (B (x56)), [], false⟩,
    ⟨[((.tmp 138), (B (true))), ((.tmp 139), (B (x56))), ((.const (.bool false)), (B (false)))], [], (B (x56)), [], false⟩,
    ⟨[((.tmp 140), (B (x56)))], [], (B (x56)), [], false⟩] (by exact ⟨by kernel_rfl, by kernel_rfl⟩) ?_ ?_
                  · exact ⟨fun _ => astep_move rfl,
    fun _ => astep_bin rfl rfl,
    fun _ => astep_b hb53 (astep_move rfl),
    fun _ => astep_guard (astep_load rfl ti83 (by decide) rfl (Nat.le_of_ble_eq_true rfl) rfl),
    fun _ => astep_guard (astep_faddr rfl Try.underlying95 rfl rfl ti3 (by decide) rfl),
    fun _ => astep_guard (astep_load rfl ti3 (by decide) rfl (Nat.le_of_ble_eq_true rfl) rfl),
    fun _ => astep_guard (astep_faddr rfl Try.underlying95 rfl rfl ti3 (by decide) rfl),
    fun _ => astep_guard (astep_load rfl ti3 (by decide) rfl (Nat.le_of_ble_eq_true rfl) rfl),
    fun _ => astep_guard (astep_build (vs := [(I (x52.N)), (I (x52.D))]) rfl ts83 tz83 rfl (by rfl) rfl),
    fun _ => astep_guard (astep_eqs (ls := [x11.1.N, x11.1.D]) (ks := [x52.N, x52.D]) rfl rfl eqt83 (by kernel_rfl) rfl rfl),
    fun _ => astep_pick rfl rfl,
    fun _ => astep_b hb54 (astep_move rfl),
    fun _ => astep_guard (astep_pcall (first := []) (cap := []) (vs := []) rfl enter17 (law01_awakeX_ok N  _ hf55) rfl rfl nl_nil (NLt.lit _) rfl),
    fun _ => astep_pick rfl rfl,
    fun _ => astep_assign rfl, trivial⟩
                  refine awp_ret ?_
                  obtain rfl := Option.some.inj h
                  exact ⟨⟨[(B (x56))], ⟨resOK_tmp (by kernel_rfl), trivial⟩, rfl⟩, (NLt.lit _), Nat.le_refl _, fun n hn => absurd hn (Nat.not_lt_zero n)⟩
                · replace h := bif_f hb54 h
                  refine awp_reg [⟨[((.tmp 12), (I (x11.2)))], [], (I (x11.2)), [], false⟩,
    ⟨[((.tmp 127), (I (x11.2))), ((.const (.int .i64 0)), (I (0)))], [], (B ((x11.2 == 0))), [], false⟩,
    ⟨[((.tmp 128), (B ((x11.2 == 0))))], [], (B (true)), [], false⟩,
    ⟨[((.tmp 129), (B (true))), ((.tmp 11), (.ref 0 2 (0) 0))], [(0, (.own 2 [[(I (x11.1.N)), (I (x11.1.D))]]))], (.agg [(I (x11.1.N)), (I (x11.1.D))]), [], false⟩,
    ⟨[((.tmp 129), (B (true))), ((.tmp 15), (.ref 1 2 (0) 0))], [(1, (.own 2 [[(I (x52.N)), (I (x52.D))]]))], (.ref 1 2 (0) 0), [], false⟩,
    ⟨[((.tmp 129), (B (true))), ((.tmp 131), (.ref 1 2 (0) 0))], [(1, (.own 2 [[(I (x52.N)), (I (x52.D))]]))], (I (x52.N)), [], false⟩,
    ⟨[((.tmp 129), (B (true))), ((.tmp 15), (.ref 1 2 (0) 0))], [(1, (.own 2 [[(I (x52.N)), (I (x52.D))]]))], (.ref 1 2 (0) 1), [], false⟩,
    ⟨[((.tmp 129), (B (true))), ((.tmp 133), (.ref 1 2 (0) 1))], [(1, (.own 2 [[(I (x52.N)), (I (x52.D))]]))], (I (x52.D)), [], false⟩,
    ⟨[((.tmp 129), (B (true))), ((.tmp 132), (I (x52.N))), ((.tmp 134), (I (x52.D)))], [], (.agg [(I (x52.N)), (I (x52.D))]), [], false⟩,
    ⟨[((.tmp 129), (B (true))), ((.tmp 130), (.agg [(I (x11.1.N)), (I (x11.1.D))])), ((.tmp 135), (.agg [(I (x52.N)), (I (x52.D))]))], [], (B ((([x11.1.N, x11.1.D] : List Int) == [x52.N, x52.D]))), [], false⟩,
    ⟨[((.tmp 129), (B (true))), ((.tmp 136), (B ((([x11.1.N, x11.1.D] : List Int) == [x52.N, x52.D])))), ((.const (.bool false)), (B (false)))], [], (B ((([x11.1.N, x11.1.D] : List Int) == [x52.N, x52.D]))), [], false⟩,
    ⟨[((.tmp 137), (B ((([x11.1.N, x11.1.D] : List Int) == [x52.N, x52.D]))))], [], (B (false)), [], false⟩,
    ⟨[((.tmp 138), (B (false)))], [], (.lit undef), [], true⟩,
    ⟨[((.tmp 138), (B (false))), ((.tmp 139), (.lit undef)), ((.const (.bool false)), (B (false)))], [], (B (false)), [], false⟩,
    ⟨[((.tmp 140), (B (false)))], [], (B (false)), [], false⟩] (by exact ⟨by kernel_rfl, by kernel_rfl⟩) ?_ ?_
                  · exact ⟨fun _ => astep_move rfl,
    fun _ => astep_bin rfl rfl,
    fun _ => astep_b hb53 (astep_move rfl),
    fun _ => astep_guard (astep_load rfl ti83 (by decide) rfl (Nat.le_of_ble_eq_true rfl) rfl),
    fun _ => astep_guard (astep_faddr rfl Try.underlying95 rfl rfl ti3 (by decide) rfl),
    fun _ => astep_guard (astep_load rfl ti3 (by decide) rfl (Nat.le_of_ble_eq_true rfl) rfl),
    fun _ => astep_guard (astep_faddr rfl Try.underlying95 rfl rfl ti3 (by decide) rfl),
    fun _ => astep_guard (astep_load rfl ti3 (by decide) rfl (Nat.le_of_ble_eq_true rfl) rfl),
    fun _ => astep_guard (astep_build (vs := [(I (x52.N)), (I (x52.D))]) rfl ts83 tz83 rfl (by rfl) rfl),
    fun _ => astep_guard (astep_eqs (ls := [x11.1.N, x11.1.D]) (ks := [x52.N, x52.D]) rfl rfl eqt83 (by kernel_rfl) rfl rfl),
    fun _ => astep_pick rfl rfl,
    fun _ => astep_b hb54 (astep_move rfl),
    fun hs => (Bool.noConfusion hs),
    fun _ => astep_pick rfl rfl,
    fun _ => astep_assign rfl, trivial⟩
                  refine awp_ret ?_
                  obtain rfl := Option.some.inj h
                  exact ⟨⟨[(B (false))], ⟨resOK_tmp (by kernel_rfl), trivial⟩, rfl⟩, (NLt.lit _), Nat.le_refl _, fun n hn => absurd hn (Nat.not_lt_zero n)⟩
              · replace h := bif_f hb53 h
                refine awp_reg [⟨[((.tmp 12), (I (x11.2)))], [], (I (x11.2)), [], false⟩,
    ⟨[((.tmp 127), (I (x11.2))), ((.const (.int .i64 0)), (I (0)))], [], (B ((x11.2 == 0))), [], false⟩,
    ⟨[((.tmp 128), (B ((x11.2 == 0))))], [], (B (false)), [], false⟩,
    ⟨[((.tmp 129), (B (false)))], [], (.lit undef), [], true⟩,
    ⟨[((.tmp 129), (B (false)))], [], (.lit undef), [], true⟩,
    ⟨[((.tmp 129), (B (false)))], [], (.lit undef), [], true⟩,
    ⟨[((.tmp 129), (B (false)))], [], (.lit undef), [], true⟩,
    ⟨[((.tmp 129), (B (false)))], [], (.lit undef), [], true⟩,
    ⟨[((.tmp 129), (B (false)))], [], (.lit undef), [], true⟩,
    ⟨[((.tmp 129), (B (false)))], [], (.lit undef), [], true⟩,
    ⟨[((.tmp 129), (B (false))), ((.tmp 136), (.lit undef)), ((.const (.bool false)), (B (false)))], [], (B (false)), [], false⟩,
    ⟨[((.tmp 137), (B (false)))], [], (B (false)), [], false⟩,
    ⟨[((.tmp 138), (B (false)))], [], (.lit undef), [], true⟩,
    ⟨[((.tmp 138), (B (false))), ((.tmp 139), (.lit undef)), ((.const (.bool false)), (B (false)))], [], (B (false)), [], false⟩,
    ⟨[((.tmp 140), (B (false)))], [], (B (false)), [], false⟩] (by exact ⟨by kernel_rfl, by kernel_rfl⟩) ?_ ?_
                · exact ⟨fun _ => astep_move rfl,
    fun _ => astep_bin rfl rfl,
    fun _ => astep_b hb53 (astep_move rfl),
    fun hs => (Bool.noConfusion hs),
    fun hs => (Bool.noConfusion hs),
    fun hs => (Bool.noConfusion hs),
    fun hs => (Bool.noConfusion hs),
    fun hs => (Bool.noConfusion hs),
    fun hs => (Bool.noConfusion hs),
    fun hs => (Bool.noConfusion hs),
    fun _ => astep_pick rfl rfl,
    fun _ => astep_move rfl,
    fun hs => (Bool.noConfusion hs),
    fun _ => astep_pick rfl rfl,
    fun _ => astep_assign rfl, trivial⟩
                refine awp_ret ?_
                obtain rfl := Option.some.inj h
                exact ⟨⟨[(B (false))], ⟨resOK_tmp (by kernel_rfl), trivial⟩, rfl⟩, (NLt.lit _), Nat.le_refl _, fun n hn => absurd hn (Nat.not_lt_zero n)⟩
          · skip
            obtain ⟨x58, hf57, h⟩ := bind_out h
            obtain ⟨x60, hf59, h⟩ := bind_out h
            rcases Bool.eq_false_or_eq_true ((x60 != 0)) with hb61 | hb61
            · replace h := bif_t hb61 h
              refine awp_reg [⟨[((.tmp 0), (.dat 5 ((p0 : List GRow).map c_GRow)))], [], (.dat 5 ((p0 : List GRow).map c_GRow)), [], false⟩,
    ⟨[((.func 19), (.fn (.func 19) [] [])), ((.tmp 71), (.dat 5 ((p0 : List GRow).map c_GRow)))], [], (.dat 5 ((x58 : List GRow).map c_GRow)), [], false⟩,
    ⟨[((.func 46), (.fn (.func 46) [] [])), ((.tmp 72), (.dat 5 ((x58 : List GRow).map c_GRow)))], [], (I (x60)), [], false⟩,
    ⟨[((.tmp 73), (I (x60))), ((.const (.int .i64 0)), (I (0)))], [], (B ((x60 != 0))), [], false⟩,
    ⟨[((.tmp 74), (B ((x60 != 0))))], [], (B (true)), [], false⟩,
    ⟨[((.tmp 75), (B (true)))], [], (.lit undef), [], true⟩,
    ⟨[((.tmp 75), (B (true)))], [], (.lit undef), [], true⟩,
    ⟨[((.tmp 75), (B (true)))], [], (.lit undef), [], true⟩,
    ⟨[((.tmp 78), (.lit undef))], [], (.lit undef), [], true⟩,
    ⟨[((.tmp 78), (.lit undef))], [], (.lit undef), [], true⟩,
    ⟨[((.tmp 78), (.lit undef))], [], (.lit undef), [], true⟩,
    ⟨[((.tmp 81), (.lit undef))], [], (.lit undef), [], true⟩,
    ⟨[((.tmp 81), (.lit undef))], [], (.lit undef), [], true⟩,
    ⟨[((.tmp 78), (.lit undef))], [], (.lit undef), [], true⟩,
    ⟨[((.tmp 75), (B (true)))], [], (.lit undef), [], true⟩,
    ⟨[((.tmp 75), (B (true))), ((.const (.bool true)), (B (true))), ((.tmp 85), (.lit undef))], [], (B (true)), [], false⟩,
    ⟨[((.tmp 86), (B (true)))], [], (B (true)), [], false⟩,
    ⟨[((.tmp 87), (B (true)))], [], (.lit undef), [], true⟩,
    ⟨[((.tmp 87), (B (true)))], [], (.lit undef), [], true⟩,
    ⟨[((.tmp 87), (B (true)))], [], (.lit undef), [], true⟩,
    ⟨[((.tmp 90), (.lit undef))], [], (.lit undef), [], true⟩,
    ⟨[((.tmp 90), (.lit undef))], [], (.lit undef), [], true⟩,
    ⟨[((.tmp 90), (.lit undef))], [], (.lit undef), [], true⟩,
    ⟨[((.tmp 93), (.lit undef))], [], (.lit undef), [], true⟩,
    ⟨[((.tmp 93), (.lit undef))], [], (.lit undef), [], true⟩,
    ⟨[((.tmp 93), (.lit undef))], [], (.lit undef), [], true⟩,
    ⟨[((.tmp 90), (.lit undef))], [], (.lit undef), [], true⟩,
    ⟨[((.tmp 87), (B (true)))], [], (.lit undef), [], true⟩,
    ⟨[((.tmp 87), (B (true))), ((.const (.bool true)), (B (true))), ((.tmp 98), (.lit undef))], [], (B (true)), [], false⟩] (by exact ⟨by kernel_rfl, by kernel_rfl⟩) ?_ ?_
              · exact ⟨fun _ => astep_move rfl,
    fun _ => astep_pcall (first := []) (cap := []) (vs := [(.dat 5 ((p0 : List GRow).map c_GRow))]) rfl enter19 (law01_TableX_ok N p0 _ hf57) rfl rfl (nl_cons (nl_dat nl_GRow _) nl_nil) (nl_dat nl_GRow _) rfl,
    fun _ => astep_pcall (first := []) (cap := []) (vs := [(.dat 5 ((x58 : List GRow).map c_GRow))]) rfl enter46 (steam_CheckTableX_ok N x58 _ hf59) rfl rfl (nl_cons (nl_dat nl_GRow _) nl_nil) (NLt.lit _) rfl,
    fun _ => astep_bin rfl rfl,
    fun _ => astep_b hb61 (astep_move rfl),
    fun hs => (Bool.noConfusion hs),
    fun hs => (Bool.noConfusion hs),
    fun hs => (Bool.noConfusion hs),
    fun hs => (Bool.noConfusion hs),
    fun hs => (Bool.noConfusion hs),
    fun hs => (Bool.noConfusion hs),
    fun hs => (Bool.noConfusion hs),
    fun hs => (Bool.noConfusion hs),
    fun hs => (Bool.noConfusion hs),
    fun hs => (Bool.noConfusion hs),
    fun _ => astep_pick rfl rfl,
    fun _ => astep_move rfl,
    fun hs => (Bool.noConfusion hs),
    fun hs => (Bool.noConfusion hs),
    fun hs => (Bool.noConfusion hs),
    fun hs => (Bool.noConfusion hs),
    fun hs => (Bool.noConfusion hs),
    fun hs => (Bool.noConfusion hs),
    fun hs => (Bool.noConfusion hs),
    fun hs => (Bool.noConfusion hs),
    fun hs => (Bool.noConfusion hs),
    fun hs => (Bool.noConfusion hs),
    fun hs => (Bool.noConfusion hs),
    fun _ => astep_pick rfl rfl, trivial⟩
              refine awp_true (by kernel_rfl) ?_
              refine awp_reg [⟨[((.const (.bool false)), (B (false)))], [], (B (false)), [], false⟩] (by exact ⟨by kernel_rfl, by kernel_rfl⟩) ?_ ?_
              · exact ⟨fun _ => astep_assign rfl, trivial⟩
              refine awp_ret ?_
              refine thenA_r ?_
              obtain rfl := Option.some.inj h
              exact ⟨⟨[(B (false))], ⟨resOK_tmp (by kernel_rfl), trivial⟩, rfl⟩, (NLt.lit _), Nat.le_refl _, fun n hn => absurd hn (Nat.not_lt_zero n)⟩
            · replace h := bif_f hb61 h
              rcases Bool.eq_false_or_eq_true ((decide (x34 < 0))) with hb62 | hb62
              · replace h := bif_t hb62 h
                rcases Bool.eq_false_or_eq_true ((x7.2 != 7)) with hb63 | hb63
                · replace h := bif_t hb63 h
                  refine awp_reg [⟨[((.tmp 0), (.dat 5 ((p0 : List GRow).map c_GRow)))], [], (.dat 5 ((p0 : List GRow).map c_GRow)), [], false⟩,
    ⟨[((.func 19), (.fn (.func 19) [] [])), ((.tmp 71), (.dat 5 ((p0 : List GRow).map c_GRow)))], [], (.dat 5 ((x58 : List GRow).map c_GRow)), [], false⟩,
    ⟨[((.func 46), (.fn (.func 46) [] [])), ((.tmp 72), (.dat 5 ((x58 : List GRow).map c_GRow)))], [], (I (x60)), [], false⟩,
    ⟨[((.tmp 73), (I (x60))), ((.const (.int .i64 0)), (I (0)))], [], (B ((x60 != 0))), [], false⟩,
    ⟨[((.tmp 74), (B ((x60 != 0))))], [], (B (false)), [], false⟩,
    ⟨[((.tmp 75), (B (false))), ((.tmp 14), (I (x34)))], [], (I (x34)), [], false⟩,
    ⟨[((.tmp 75), (B (false))), ((.tmp 76), (I (x34))), ((.const (.int .i64 0)), (I (0)))], [], (B ((decide (x34 < 0)))), [], false⟩,
    ⟨[((.tmp 75), (B (false))), ((.tmp 77), (B ((decide (x34 < 0)))))], [], (B (true)), [], false⟩,
    ⟨[((.tmp 78), (B (true))), ((.tmp 10), (I (x7.2)))], [], (I (x7.2)), [], false⟩,
    ⟨[((.tmp 78), (B (true))), ((.tmp 79), (I (x7.2))), ((.const (.int .i64 7)), (I (7)))], [], (B ((x7.2 != 7))), [], false⟩,
    ⟨[((.tmp 78), (B (true))), ((.tmp 80), (B ((x7.2 != 7))))], [], (B (true)), [], false⟩,
    ⟨[((.tmp 81), (B (true)))], [], (.lit undef), [], true⟩,
    ⟨[((.tmp 81), (B (true)))], [], (.lit undef), [], true⟩,
    ⟨[((.tmp 78), (B (true))), ((.tmp 81), (B (true))), ((.const (.bool true)), (B (true))), ((.tmp 83), (.lit undef))], [], (B (true)), [], false⟩,
    ⟨[((.tmp 75), (B (false))), ((.tmp 78), (B (true))), ((.tmp 84), (B (true))), ((.const (.bool false)), (B (false)))], [], (B (true)), [], false⟩,
    ⟨[((.tmp 75), (B (false))), ((.const (.bool true)), (B (true))), ((.tmp 85), (B (true)))], [], (B (true)), [], false⟩,
    ⟨[((.tmp 86), (B (true)))], [], (B (true)), [], false⟩,
    ⟨[((.tmp 87), (B (true)))], [], (.lit undef), [], true⟩,
    ⟨[((.tmp 87), (B (true)))], [], (.lit undef), [], true⟩,
    ⟨[((.tmp 87), (B (true)))], [], (.lit undef), [], true⟩,
    ⟨[((.tmp 90), (.lit undef))], [], (.lit undef), [], true⟩,
    ⟨[((.tmp 90), (.lit undef))], [], (.lit undef), [], true⟩,
    ⟨[((.tmp 90), (.lit undef))], [], (.lit undef), [], true⟩,
    ⟨[((.tmp 93), (.lit undef))], [], (.lit undef), [], true⟩,
    ⟨[((.tmp 93), (.lit undef))], [], (.lit undef), [], true⟩,
    ⟨[((.tmp 93), (.lit undef))], [], (.lit undef), [], true⟩,
    ⟨[((.tmp 90), (.lit undef))], [], (.lit undef), [], true⟩,
    ⟨[((.tmp 87), (B (true)))], [], (.lit undef), [], true⟩,
    ⟨[((.tmp 87), (B (true))), ((.const (.bool true)), (B (true))), ((.tmp 98), (.lit undef))], [], (B (true)), [], false⟩] (by exact ⟨by kernel_rfl, by kernel_rfl⟩) ?_ ?_
                  · exact ⟨fun _ => astep_move rfl,
    fun _ => astep_pcall (first := []) (cap := []) (vs := [(.dat 5 ((p0 : List GRow).map c_GRow))]) rfl enter19 (law01_TableX_ok N p0 _ hf57) rfl rfl (nl_cons (nl_dat nl_GRow _) nl_nil) (nl_dat nl_GRow _) rfl,
    fun _ => astep_pcall (first := []) (cap := []) (vs := [(.dat 5 ((x58 : List GRow).map c_GRow))]) rfl enter46 (steam_CheckTableX_ok N x58 _ hf59) rfl rfl (nl_cons (nl_dat nl_GRow _) nl_nil) (NLt.lit _) rfl,
    fun _ => astep_bin rfl rfl,
    fun _ => astep_b hb61 (astep_move rfl),
    fun _ => astep_guard (astep_move rfl),
    fun _ => astep_guard (astep_bin rfl rfl),
    fun _ => astep_b hb62 (astep_guard (astep_move rfl)),
    fun _ => astep_guard (astep_move rfl),
    fun _ => astep_guard (astep_bin rfl rfl),
    fun _ => astep_b hb63 (astep_guard (astep_move rfl)),
    fun hs => (Bool.noConfusion hs),
    fun hs => (Bool.noConfusion hs),
    fun _ => astep_guard (astep_pick rfl rfl),
    fun _ => astep_guard (astep_pick rfl rfl),
    fun _ => astep_pick rfl rfl,
    fun _ => astep_move rfl,
    fun hs => (Bool.noConfusion hs),
    fun hs => (Bool.noConfusion hs),
    fun hs => (Bool.noConfusion hs),
    fun hs => (Bool.noConfusion hs),
    fun hs => (Bool.noConfusion hs),
    fun hs => (Bool.noConfusion hs),
    fun hs => (Bool.noConfusion hs),
    fun hs => (Bool.noConfusion hs),
    fun hs => (Bool.noConfusion hs),
    fun hs => (Bool.noConfusion hs),
    fun hs => (Bool.noConfusion hs),
    fun _ => astep_pick rfl rfl, trivial⟩
                  refine awp_true (by kernel_rfl) ?_
                  refine awp_reg [⟨[((.const (.bool false)), (B (false)))], [], (B (false)), [], false⟩] (by exact ⟨by kernel_rfl, by kernel_rfl⟩) ?_ ?_
                  · exact ⟨fun _ => astep_assign rfl, trivial⟩
                  refine awp_ret ?_
                  refine thenA_r ?_
                  obtain rfl := Option.some.inj h
                  exact ⟨⟨[(B (false))], ⟨resOK_tmp (by kernel_rfl), trivial⟩, rfl⟩, (NLt.lit _), Nat.le_refl _, fun n hn => absurd hn (Nat.not_lt_zero n)⟩
                · replace h := bif_f hb63 h
                  rcases Bool.eq_false_or_eq_true ((x7.1 != 0)) with hb64 | hb64
                  · replace h := bif_t hb64 h
                    refine awp_reg [⟨[((.tmp 0), (.dat 5 ((p0 : List GRow).map c_GRow)))], [], (.dat 5 ((p0 : List GRow).map c_GRow)), [], false⟩,
    ⟨[((.func 19), (.fn (.func 19) [] [])), ((.tmp 71), (.dat 5 ((p0 : List GRow).map c_GRow)))], [], (.dat 5 ((x58 : List GRow).map c_GRow)), [], false⟩,
    ⟨[((.func 46), (.fn (.func 46) [] [])), ((.tmp 72), (.dat 5 ((x58 : List GRow).map c_GRow)))], [], (I (x60)), [], false⟩,
    ⟨[((.tmp 73), (I (x60))), ((.const (.int .i64 0)), (I (0)))], [], (B ((x60 != 0))), [], false⟩,
    ⟨[((.tmp 74), (B ((x60 != 0))))], [], (B (false)), [], false⟩,
    ⟨[((.tmp 75), (B (false))), ((.tmp 14), (I (x34)))], [], (I (x34)), [], false⟩,
    ⟨[((.tmp 75), (B (false))), ((.tmp 76), (I (x34))), ((.const (.int .i64 0)), (I (0)))], [], (B ((decide (x34 < 0)))), [], false⟩,
    ⟨[((.tmp 75), (B (false))), ((.tmp 77), (B ((decide (x34 < 0)))))], [], (B (true)), [], false⟩,
    ⟨[((.tmp 78), (B (true))), ((.tmp 10), (I (x7.2)))], [], (I (x7.2)), [], false⟩,
    ⟨[((.tmp 78), (B (true))), ((.tmp 79), (I (x7.2))), ((.const (.int .i64 7)), (I (7)))], [], (B ((x7.2 != 7))), [], false⟩,
    ⟨[((.tmp 78), (B (true))), ((.tmp 80), (B ((x7.2 != 7))))], [], (B (false)), [], false⟩,
    ⟨[((.tmp 81), (B (false))), ((.tmp 9), (I (x7.1)))], [], (I (x7.1)), [], false⟩,
    ⟨[((.tmp 81), (B (false))), ((.tmp 82), (I (x7.1))), ((.const (.int .i64 0)), (I (0)))], [], (B ((x7.1 != 0))), [], false⟩,
    ⟨[((.tmp 78), (B (true))), ((.tmp 81), (B (false))), ((.const (.bool true)), (B (true))), ((.tmp 83), (B ((x7.1 != 0))))], [], (B ((x7.1 != 0))), [], false⟩,
    ⟨[((.tmp 75), (B (false))), ((.tmp 78), (B (true))), ((.tmp 84), (B ((x7.1 != 0)))), ((.const (.bool false)), (B (false)))], [], (B ((x7.1 != 0))), [], false⟩,
    ⟨[((.tmp 75), (B (false))), ((.const (.bool true)), (B (true))), ((.tmp 85), (B ((x7.1 != 0))))], [], (B ((x7.1 != 0))), [], false⟩,
    ⟨[((.tmp 86), (B ((x7.1 != 0))))], [], (B (true)), [], false⟩,
    ⟨[((.tmp 87), (B (true)))], [], (.lit undef), [], true⟩,
    ⟨[((.tmp 87), (B (true)))], [], (.lit undef), [], true⟩,
    ⟨[((.tmp 87), (B (true)))], [], (.lit undef), [], true⟩,
    ⟨[((.tmp 90), (.lit undef))], [], (.lit undef), [], true⟩,
    ⟨[((.tmp 90), (.lit undef))], [], (.lit undef), [], true⟩,
    ⟨[((.tmp 90), (.lit undef))], [], (.lit undef), [], true⟩,
    ⟨[((.tmp 93), (.lit undef))], [], (.lit undef), [], true⟩,
    ⟨[((.tmp 93), (.lit undef))], [], (.lit undef), [], true⟩,
    ⟨[((.tmp 93), (.lit undef))], [], (.lit undef), [], true⟩,
    ⟨[((.tmp 90), (.lit undef))], [], (.lit undef), [], true⟩,
    ⟨[((.tmp 87), (B (true)))], [], (.lit undef), [], true⟩,
    ⟨[((.tmp 87), (B (true))), ((.const (.bool true)), (B (true))), ((.tmp 98), (.lit undef))], [], (B (true)), [], false⟩] (by exact ⟨by kernel_rfl, by kernel_rfl⟩) ?_ ?_
                    · exact ⟨fun _ => astep_move rfl,
    fun _ => astep_pcall (first := []) (cap := []) (vs := [(.dat 5 ((p0 : List GRow).map c_GRow))]) rfl enter19 (law01_TableX_ok N p0 _ hf57) rfl rfl (nl_cons (nl_dat nl_GRow _) nl_nil) (nl_dat nl_GRow _) rfl,
    fun _ => astep_pcall (first := []) (cap := []) (vs := [(.dat 5 ((x58 : List GRow).map c_GRow))]) rfl enter46 (steam_CheckTableX_ok N x58 _ hf59) rfl rfl (nl_cons (nl_dat nl_GRow _) nl_nil) (NLt.lit _) rfl,
    fun _ => astep_bin rfl rfl,
    fun _ => astep_b hb61 (astep_move rfl),
    fun _ => astep_guard (astep_move rfl),
    fun _ => astep_guard (astep_bin rfl rfl),
    fun _ => astep_b hb62 (astep_guard (astep_move rfl)),
    fun _ => astep_guard (astep_move rfl),
    fun _ => astep_guard (astep_bin rfl rfl),
    fun _ => astep_b hb63 (astep_guard (astep_move rfl)),
    fun _ => astep_guard (astep_move rfl),
    fun _ => astep_guard (astep_bin rfl rfl),
    fun _ => astep_guard (astep_pick rfl rfl),
    fun _ => astep_guard (astep_pick rfl rfl),
    fun _ => astep_pick rfl rfl,
    fun _ => astep_b hb64 (astep_move rfl),
    fun hs => (Bool.noConfusion hs),
    fun hs => (Bool.noConfusion hs),
    fun hs => (Bool.noConfusion hs),
    fun hs => (Bool.noConfusion hs),
    fun hs => (Bool.noConfusion hs),
    fun hs => (Bool.noConfusion hs),
    fun hs => (Bool.noConfusion hs),
    fun hs => (Bool.noConfusion hs),
    fun hs => (Bool.noConfusion hs),
    fun hs => (Bool.noConfusion hs),
    fun hs => (Bool.noConfusion hs),
    fun _ => astep_pick rfl rfl, trivial⟩
                    refine awp_true (by kernel_rfl) ?_
                    refine awp_reg [⟨[((.const (.bool false)), (B (false)))], [], (B (false)), [], false⟩] (by exact ⟨by kernel_rfl, by kernel_rfl⟩) ?_ ?_
                    · exact ⟨fun _ => astep_assign rfl, trivial⟩
                    refine awp_ret ?_
                    refine thenA_r ?_
                    obtain rfl := Option.some.inj h
                    exact ⟨⟨[(B (false))], ⟨resOK_tmp (by kernel_rfl), trivial⟩, rfl⟩, (NLt.lit _), Nat.le_refl _, fun n hn => absurd hn (Nat.not_lt_zero n)⟩
                  · replace h := bif_f hb64 h
                    rcases Bool.eq_false_or_eq_true ((decide (x34 ≥ 0))) with hb65 | hb65
                    · replace h := bif_t hb65 h
                      rcases Bool.eq_false_or_eq_true ((x7.2 != 0)) with hb66 | hb66
                      · replace h := bif_t hb66 h
                        refine awp_reg [⟨[((.tmp 0), (.dat 5 ((p0 : List GRow).map c_GRow)))], [], (.dat 5 ((p0 : List GRow).map c_GRow)), [], false⟩,
    ⟨[((.func 19), (.fn (.func 19) [] [])), ((.tmp 71), (.dat 5 ((p0 : List GRow).map c_GRow)))], [], (.dat 5 ((x58 : List GRow).map c_GRow)), [], false⟩,
    ⟨[((.func 46), (.fn (.func 46) [] [])), ((.tmp 72), (.dat 5 ((x58 : List GRow).map c_GRow)))], [], (I (x60)), [], false⟩,
    ⟨[((.tmp 73), (I (x60))), ((.const (.int .i64 0)), (I (0)))], [], (B ((x60 != 0))), [], false⟩,
    ⟨[((.tmp 74), (B ((x60 != 0))))], [], (B (false)), [], false⟩,
    ⟨[((.tmp 75), (B (false))), ((.tmp 14), (I (x34)))], [], (I (x34)), [], false⟩,
    ⟨[((.tmp 75), (B (false))), ((.tmp 76), (I (x34))), ((.const (.int .i64 0)), (I (0)))], [], (B ((decide (x34 < 0)))), [], false⟩,
    ⟨[((.tmp 75), (B (false))), ((.tmp 77), (B ((decide (x34 < 0)))))], [], (B (true)), [], false⟩,
    ⟨[((.tmp 78), (B (true))), ((.tmp 10), (I (x7.2)))], [], (I (x7.2)), [], false⟩,
    ⟨[((.tmp 78), (B (true))), ((.tmp 79), (I (x7.2))), ((.const (.int .i64 7)), (I (7)))], [], (B ((x7.2 != 7))), [], false⟩,
    ⟨[((.tmp 78), (B (true))), ((.tmp 80), (B ((x7.2 != 7))))], [], (B (false)), [], false⟩,
    ⟨[((.tmp 81), (B (false))), ((.tmp 9), (I (x7.1)))], [], (I (x7.1)), [], false⟩,
    ⟨[((.tmp 81), (B (false))), ((.tmp 82), (I (x7.1))), ((.const (.int .i64 0)), (I (0)))], [], (B ((x7.1 != 0))), [], false⟩,
    ⟨[((.tmp 78), (B (true))), ((.tmp 81), (B (false))), ((.const (.bool true)), (B (true))), ((.tmp 83), (B ((x7.1 != 0))))], [], (B ((x7.1 != 0))), [], false⟩,
    ⟨[((.tmp 75), (B (false))), ((.tmp 78), (B (true))), ((.tmp 84), (B ((x7.1 != 0)))), ((.const (.bool false)), (B (false)))], [], (B ((x7.1 != 0))), [], false⟩,
    ⟨[((.tmp 75), (B (false))), ((.const (.bool true)), (B (true))), ((.tmp 85), (B ((x7.1 != 0))))], [], (B ((x7.1 != 0))), [], false⟩,
    ⟨[((.tmp 86), (B ((x7.1 != 0))))], [], (B (false)), [], false⟩,
    ⟨[((.tmp 87), (B (false))), ((.tmp 14), (I (x34)))], [], (I (x34)), [], false⟩,
    ⟨[((.tmp 87), (B (false))), ((.tmp 88), (I (x34))), ((.const (.int .i64 0)), (I (0)))], [], (B ((decide (x34 ≥ 0)))), [], false⟩,
    ⟨[((.tmp 87), (B (false))), ((.tmp 89), (B ((decide (x34 ≥ 0)))))], [], (B (true)), [], false⟩,
    ⟨[((.tmp 90), (B (true))), ((.tmp 10), (I (x7.2)))], [], (I (x7.2)), [], false⟩,
    ⟨[((.tmp 90), (B (true))), ((.tmp 91), (I (x7.2))), ((.const (.int .i64 0)), (I (0)))], [], (B ((x7.2 != 0))), [], false⟩,
    ⟨[((.tmp 90), (B (true))), ((.tmp 92), (B ((x7.2 != 0))))], [], (B (true)), [], false⟩,
    ⟨[((.tmp 93), (B (true)))], [], (.lit undef), [], true⟩,
    ⟨[((.tmp 93), (B (true)))], [], (.lit undef), [], true⟩,
    ⟨[((.tmp 93), (B (true)))], [], (.lit undef), [], true⟩,
    ⟨[((.tmp 90), (B (true))), ((.tmp 93), (B (true))), ((.const (.bool true)), (B (true))), ((.tmp 96), (.lit undef))], [], (B (true)), [], false⟩,
    ⟨[((.tmp 87), (B (false))), ((.tmp 90), (B (true))), ((.tmp 97), (B (true))), ((.const (.bool false)), (B (false)))], [], (B (true)), [], false⟩,
    ⟨[((.tmp 87), (B (false))), ((.const (.bool true)), (B (true))), ((.tmp 98), (B (true)))], [], (B (true)), [], false⟩] (by exact ⟨by kernel_rfl, by kernel_rfl⟩) ?_ ?_
                        · exact ⟨fun _ => astep_move rfl,
    fun _ => astep_pcall (first := []) (cap := []) (vs := [(.dat 5 ((p0 : List GRow).map c_GRow))]) rfl enter19 (law01_TableX_ok N p0 _ hf57) rfl rfl (nl_cons (nl_dat nl_GRow _) nl_nil) (nl_dat nl_GRow _) rfl,
    fun _ => astep_pcall (first := []) (cap := []) (vs := [(.dat 5 ((x58 : List GRow).map c_GRow))]) rfl enter46 (steam_CheckTableX_ok N x58 _ hf59) rfl rfl (nl_cons (nl_dat nl_GRow _) nl_nil) (NLt.lit _) rfl,
    fun _ => astep_bin rfl rfl,
    fun _ => astep_b hb61 (astep_move rfl),
    fun _ => astep_guard (astep_move rfl),
    fun _ => astep_guard (astep_bin rfl rfl),
    fun _ => astep_b hb62 (astep_guard (astep_move rfl)),
    fun _ => astep_guard (astep_move rfl),
    fun _ => astep_guard (astep_bin rfl rfl),
    fun _ => astep_b hb63 (astep_guard (astep_move rfl)),
    fun _ => astep_guard (astep_move rfl),
    fun _ => astep_guard (astep_bin rfl rfl),
    fun _ => astep_guard (astep_pick rfl rfl),
    fun _ => astep_guard (astep_pick rfl rfl),
    fun _ => astep_pick rfl rfl,
    fun _ => astep_b hb64 (astep_move rfl),
    fun _ => astep_guard (astep_move rfl),
    fun _ => astep_guard (astep_bin rfl rfl),
    fun _ => astep_b hb65 (astep_guard (astep_move rfl)),
    fun _ => astep_guard (astep_move rfl),
    fun _ => astep_guard (astep_bin rfl rfl),
    fun _ => astep_b hb66 (astep_guard (astep_move rfl)),
    fun hs => (Bool.noConfusion hs),
    fun hs => (Bool.noConfusion hs),
    fun hs => (Bool.noConfusion hs),
    fun _ => astep_guard (astep_pick rfl rfl),
    fun _ => astep_guard (astep_pick rfl rfl),
    fun _ => astep_pick rfl rfl, trivial⟩
                        refine awp_true (by kernel_rfl) ?_
                        refine awp_reg [⟨[((.const (.bool false)), (B (false)))], [], (B (false)), [], false⟩] (by exact ⟨by kernel_rfl, by kernel_rfl⟩) ?_ ?_
                        · exact ⟨fun _ => astep_assign rfl, trivial⟩
                        refine awp_ret ?_
                        refine thenA_r ?_
                        obtain rfl := Option.some.inj h
                        exact ⟨⟨[(B (false))], ⟨resOK_tmp (by kernel_rfl), trivial⟩, rfl⟩, (NLt.lit _), Nat.le_refl _, fun n hn => absurd hn (Nat.not_lt_zero n)⟩
                      · replace h := bif_f hb66 h
                        refine awp_reg [⟨[((.tmp 0), (.dat 5 ((p0 : List GRow).map c_GRow)))], [], (.dat 5 ((p0 : List GRow).map c_GRow)), [], false⟩,
    ⟨[((.func 19), (.fn (.func 19) [] [])), ((.tmp 71), (.dat 5 ((p0 : List GRow).map c_GRow)))], [], (.dat 5 ((x58 : List GRow).map c_GRow)), [], false⟩,
    ⟨[((.func 46), (.fn (.func 46) [] [])), ((.tmp 72), (.dat 5 ((x58 : List GRow).map c_GRow)))], [], (I (x60)), [], false⟩,
    ⟨[((.tmp 73), (I (x60))), ((.const (.int .i64 0)), (I (0)))], [], (B ((x60 != 0))), [], false⟩,
    ⟨[((.tmp 74), (B ((x60 != 0))))], [], (B (false)), [], false⟩,
    ⟨[((.tmp 75), (B (false))), ((.tmp 14), (I (x34)))], [], (I (x34)), [], false⟩,
    ⟨[((.tmp 75), (B (false))), ((.tmp 76), (I (x34))), ((.const (.int .i64 0)), (I (0)))], [], (B ((decide (x34 < 0)))), [], false⟩,
    ⟨[((.tmp 75), (B (false))), ((.tmp 77), (B ((decide (x34 < 0)))))], [], (B (true)), [], false⟩,
    ⟨[((.tmp 78), (B (true))), ((.tmp 10), (I (x7.2)))], [], (I (x7.2)), [], false⟩,
    ⟨[((.tmp 78), (B (true))), ((.tmp 79), (I (x7.2))), ((.const (.int .i64 7)), (I (7)))], [], (B ((x7.2 != 7))), [], false⟩,
    ⟨[((.tmp 78), (B (true))), ((.tmp 80), (B ((x7.2 != 7))))], [], (B (false)), [], false⟩,
    ⟨[((.tmp 81), (B (false))), ((.tmp 9), (I (x7.1)))], [], (I (x7.1)), [], false⟩,
    ⟨[((.tmp 81), (B (false))), ((.tmp 82), (I (x7.1))), ((.const (.int .i64 0)), (I (0)))], [], (B ((x7.1 != 0))), [], false⟩,
    ⟨[((.tmp 78), (B (true))), ((.tmp 81), (B (false))), ((.const (.bool true)), (B (true))), ((.tmp 83), (B ((x7.1 != 0))))], [], (B ((x7.1 != 0))), [], false⟩,
    ⟨[((.tmp 75), (B (false))), ((.tmp 78), (B (true))), ((.tmp 84), (B ((x7.1 != 0)))), ((.const (.bool false)), (B (false)))], [], (B ((x7.1 != 0))), [], false⟩,
    ⟨[((.tmp 75), (B (false))), ((.const (.bool true)), (B (true))), ((.tmp 85), (B ((x7.1 != 0))))], [], (B ((x7.1 != 0))), [], false⟩,
    ⟨[((.tmp 86), (B ((x7.1 != 0))))], [], (B (false)), [], false⟩,
    ⟨[((.tmp 87), (B (false))), ((.tmp 14), (I (x34)))], [], (I (x34)), [], false⟩,
    ⟨[((.tmp 87), (B (false))), ((.tmp 88), (I (x34))), ((.const (.int .i64 0)), (I (0)))], [], (B ((decide (x34 ≥ 0)))), [], false⟩,
    ⟨[((.tmp 87), (B (false))), ((.tmp 89), (B ((decide (x34 ≥ 0)))))], [], (B (true)), [], false⟩,
    ⟨[((.tmp 90), (B (true))), ((.tmp 10), (I (x7.2)))], [], (I (x7.2)), [], false⟩,
    ⟨[((.tmp 90), (B (true))), ((.tmp 91), (I (x7.2))), ((.const (.int .i64 0)), (I (0)))], [], (B ((x7.2 != 0))), [], false⟩,
    ⟨[((.tmp 90), (B (true))), ((.tmp 92), (B ((x7.2 != 0))))], [], (B (false)), [], false⟩,
    ⟨[((.tmp 93), (B (false))), ((.tmp 9), (I (x7.1)))], [], (I (x7.1)), [], false⟩,
    ⟨[((.tmp 93), (B (false))), ((.tmp 14), (I (x34)))], [], (I (x34)), [], false⟩,
    ⟨[((.tmp 93), (B (false))), ((.tmp 94), (I (x7.1))), ((.tmp 95), (I (x34)))], [], (B ((x7.1 != x34))), [], false⟩,
    ⟨[((.tmp 90), (B (true))), ((.tmp 93), (B (false))), ((.const (.bool true)), (B (true))), ((.tmp 96), (B ((x7.1 != x34))))], [], (B ((x7.1 != x34))), [], false⟩,
    ⟨[((.tmp 87), (B (false))), ((.tmp 90), (B (true))), ((.tmp 97), (B ((x7.1 != x34)))), ((.const (.bool false)), (B (false)))], [], (B ((x7.1 != x34))), [], false⟩,
    ⟨[((.tmp 87), (B (false))), ((.const (.bool true)), (B (true))), ((.tmp 98), (B ((x7.1 != x34))))], [], (B ((x7.1 != x34))), [], false⟩] (by exact ⟨by kernel_rfl, by kernel_rfl⟩) ?_ ?_
                        · exact ⟨fun _ => astep_move rfl,
    fun _ => astep_pcall (first := []) (cap := []) (vs := [(.dat 5 ((p0 : List GRow).map c_GRow))]) rfl enter19 (law01_TableX_ok N p0 _ hf57) rfl rfl (nl_cons (nl_dat nl_GRow _) nl_nil) (nl_dat nl_GRow _) rfl,
    fun _ => astep_pcall (first := []) (cap := []) (vs := [(.dat 5 ((x58 : List GRow).map c_GRow))]) rfl enter46 (steam_CheckTableX_ok N x58 _ hf59) rfl rfl (nl_cons (nl_dat nl_GRow _) nl_nil) (NLt.lit _) rfl,
    fun _ => astep_bin rfl rfl,
    fun _ => astep_b hb61 (astep_move rfl),
    fun _ => astep_guard (astep_move rfl),
    fun _ => astep_guard (astep_bin rfl rfl),
    fun _ => astep_b hb62 (astep_guard (astep_move rfl)),
    fun _ => astep_guard (astep_move rfl),
    fun _ => astep_guard (astep_bin rfl rfl),
    fun _ => astep_b hb63 (astep_guard (astep_move rfl)),
    fun _ => astep_guard (astep_move rfl),
    fun _ => astep_guard (astep_bin rfl rfl),
    fun _ => astep_guard (astep_pick rfl rfl),
    fun _ => astep_guard (astep_pick rfl rfl),
    fun _ => astep_pick rfl rfl,
    fun _ => astep_b hb64 (astep_move rfl),
    fun _ => astep_guard (astep_move rfl),
    fun _ => astep_guard (astep_bin rfl rfl),
    fun _ => astep_b hb65 (astep_guard (astep_move rfl)),
    fun _ => astep_guard (astep_move rfl),
    fun _ => astep_guard (astep_bin rfl rfl),
    fun _ => astep_b hb66 (astep_guard (astep_move rfl)),
    fun _ => astep_guard (astep_move rfl),
    fun _ => astep_guard (astep_move rfl),
    fun _ => astep_guard (astep_bin rfl rfl),
    fun _ => astep_guard (astep_pick rfl rfl),
    fun _ => astep_guard (astep_pick rfl rfl),
    fun _ => astep_pick rfl rfl, trivial⟩
                        rcases Bool.eq_false_or_eq_true ((x7.1 != x34)) with hc67 | hc67
                        · replace h := bif_t hc67 h
                          refine awp_ift hc67 (by kernel_rfl) ?_
                          refine awp_reg [⟨[((.const (.bool false)), (B (false)))], [], (B (false)), [], false⟩] (by exact ⟨by kernel_rfl, by kernel_rfl⟩) ?_ ?_
                          · exact ⟨fun _ => astep_assign rfl, trivial⟩
                          refine awp_ret ?_
                          refine thenA_r ?_
                          obtain rfl := Option.some.inj h
                          exact ⟨⟨[(B (false))], ⟨resOK_tmp (by kernel_rfl), trivial⟩, rfl⟩, (NLt.lit _), Nat.le_refl _, fun n hn => absurd hn (Nat.not_lt_zero n)⟩
                        · replace h := bif_f hc67 h
                          refine awp_ifn hc67 (by kernel_rfl) ?_
                          refine awp_skip ?_
                          refine thenA_n ?_
                          exact ⟨(), h, (mor_to (n := 141) (l' := [(0, (.dat 5 ((p0 : List GRow).map c_GRow))), (3, (I (p3))), (11, (.ref 0 2 (0) 0)), (12, (I (x11.2)))]) (own' := [(.own 2 [[(I (x11.1.N)), (I (x11.1.D))]])]) [(0, (.dat 5 ((p0 : List GRow).map c_GRow))), (3, (I (p3))), (11, (.ref 1 2 (0) 0)), (12, (I (x11.2)))] [1] [(.own 2 [[(I (x11.1.N)), (I (x11.1.D))]])] hφ0 (by kernel_rfl) (by kernel_rfl) (by kernel_rfl) ⟨rfl, .rn (.plain _ (nl_dat nl_GRow _)), rfl, .rn (.plain _ (NLt.lit _)), rfl, .rn (rnq_ref rfl), rfl, .rn (.plain _ (NLt.lit _)), trivial⟩ ⟨(spw_box ⟨(.rn (.plain _ (NLt.lit _))), (.rn (.plain _ (NLt.lit _))), trivial⟩), trivial⟩)⟩
                    · replace h := bif_f hb65 h
                      refine awp_reg [⟨[((.tmp 0), (.dat 5 ((p0 : List GRow).map c_GRow)))], [], (.dat 5 ((p0 : List GRow).map c_GRow)), [], false⟩,
    ⟨[((.func 19), (.fn (.func 19) [] [])), ((.tmp 71), (.dat 5 ((p0 : List GRow).map c_GRow)))], [], (.dat 5 ((x58 : List GRow).map c_GRow)), [], false⟩,
    ⟨[((.func 46), (.fn (.func 46) [] [])), ((.tmp 72), (.dat 5 ((x58 : List GRow).map c_GRow)))], [], (I (x60)), [], false⟩,
    ⟨[((.tmp 73), (I (x60))), ((.const (.int .i64 0)), (I (0)))], [], (B ((x60 != 0))), [], false⟩,
    ⟨[((.tmp 74), (B ((x60 != 0))))], [], (B (false)), [], false⟩,
    ⟨[((.tmp 75), (B (false))), ((.tmp 14), (I (x34)))], [], (I (x34)), [], false⟩,
    ⟨[((.tmp 75), (B (false))), ((.tmp 76), (I (x34))), ((.const (.int .i64 0)), (I (0)))], [], (B ((decide (x34 < 0)))), [], false⟩,
    ⟨[((.tmp 75), (B (false))), ((.tmp 77), (B ((decide (x34 < 0)))))], [], (B (true)), [], false⟩,
    ⟨[((.tmp 78), (B (true))), ((.tmp 10), (I (x7.2)))], [], (I (x7.2)), [], false⟩,
    ⟨[((.tmp 78), (B (true))), ((.tmp 79), (I (x7.2))), ((.const (.int .i64 7)), (I (7)))], [], (B ((x7.2 != 7))), [], false⟩,
    ⟨[((.tmp 78), (B (true))), ((.tmp 80), (B ((x7.2 != 7))))], [], (B (false)), [], false⟩,
    ⟨[((.tmp 81), (B (false))), ((.tmp 9), (I (x7.1)))], [], (I (x7.1)), [], false⟩,
    ⟨[((.tmp 81), (B (false))), ((.tmp 82), (I (x7.1))), ((.const (.int .i64 0)), (I (0)))], [], (B ((x7.1 != 0))), [], false⟩,
    ⟨[((.tmp 78), (B (true))), ((.tmp 81), (B (false))), ((.const (.bool true)), (B (true))), ((.tmp 83), (B ((x7.1 != 0))))], [], (B ((x7.1 != 0))), [], false⟩,
    ⟨[((.tmp 75), (B (false))), ((.tmp 78), (B (true))), ((.tmp 84), (B ((x7.1 != 0)))), ((.const (.bool false)), (B (false)))], [], (B ((x7.1 != 0))), [], false⟩,
    ⟨[((.tmp 75), (B (false))), ((.const (.bool true)), (B (true))), ((.tmp 85), (B ((x7.1 != 0))))], [], (B ((x7.1 != 0))), [], false⟩,
    ⟨[((.tmp 86), (B ((x7.1 != 0))))], [], (B (false)), [], false⟩,
    ⟨[((.tmp 87), (B (false))), ((.tmp 14), (I (x34)))], [], (I (x34)), [], false⟩,
    ⟨[((.tmp 87), (B (false))), ((.tmp 88), (I (x34))), ((.const (.int .i64 0)), (I (0)))], [], (B ((decide (x34 ≥ 0)))), [], false⟩,
    ⟨[((.tmp 87), (B (false))), ((.tmp 89), (B ((decide (x34 ≥ 0)))))], [], (B (false)), [], false⟩,
    ⟨[((.tmp 90), (B (false)))], [], (.lit undef), [], true⟩,
    ⟨[((.tmp 90), (B (false)))], [], (.lit undef), [], true⟩,
    ⟨[((.tmp 90), (B (false)))], [], (.lit undef), [], true⟩,
    ⟨[((.tmp 93), (.lit undef))], [], (.lit undef), [], true⟩,
    ⟨[((.tmp 93), (.lit undef))], [], (.lit undef), [], true⟩,
    ⟨[((.tmp 93), (.lit undef))], [], (.lit undef), [], true⟩,
    ⟨[((.tmp 90), (B (false)))], [], (.lit undef), [], true⟩,
    ⟨[((.tmp 87), (B (false))), ((.tmp 90), (B (false))), ((.tmp 97), (.lit undef)), ((.const (.bool false)), (B (false)))], [], (B (false)), [], false⟩,
    ⟨[((.tmp 87), (B (false))), ((.const (.bool true)), (B (true))), ((.tmp 98), (B (false)))], [], (B (false)), [], false⟩] (by exact ⟨by kernel_rfl, by kernel_rfl⟩) ?_ ?_
                      · exact ⟨fun _ => astep_move rfl,
    fun _ => astep_pcall (first := []) (cap := []) (vs := [(.dat 5 ((p0 : List GRow).map c_GRow))]) rfl enter19 (law01_TableX_ok N p0 _ hf57) rfl rfl (nl_cons (nl_dat nl_GRow _) nl_nil) (nl_dat nl_GRow _) rfl,
    fun _ => astep_pcall (first := []) (cap := []) (vs := [(.dat 5 ((x58 : List GRow).map c_GRow))]) rfl enter46 (steam_CheckTableX_ok N x58 _ hf59) rfl rfl (nl_cons (nl_dat nl_GRow _) nl_nil) (NLt.lit _) rfl,
    fun _ => astep_bin rfl rfl,
    fun _ => astep_b hb61 (astep_move rfl),
    fun _ => astep_guard (astep_move rfl),
    fun _ => astep_guard (astep_bin rfl rfl),
    fun _ => astep_b hb62 (astep_guard (astep_move rfl)),
    fun _ => astep_guard (astep_move rfl),
    fun _ => astep_guard (astep_bin rfl rfl),
    fun _ => astep_b hb63 (astep_guard (astep_move rfl)),
    fun _ => astep_guard (astep_move rfl),
    fun _ => astep_guard (astep_bin rfl rfl),
    fun _ => astep_guard (astep_pick rfl rfl),
    fun _ => astep_guard (astep_pick rfl rfl),
    fun _ => astep_pick rfl rfl,
    fun _ => astep_b hb64 (astep_move rfl),
    fun _ => astep_guard (astep_move rfl),
    fun _ => astep_guard (astep_bin rfl rfl),
    fun _ => astep_b hb65 (astep_guard (astep_move rfl)),
    fun hs => (Bool.noConfusion hs),
    fun hs => (Bool.noConfusion hs),
    fun hs => (Bool.noConfusion hs),
    fun hs => (Bool.noConfusion hs),
    fun hs => (Bool.noConfusion hs),
    fun hs => (Bool.noConfusion hs),
    fun hs => (Bool.noConfusion hs),
    fun _ => astep_guard (astep_pick rfl rfl),
    fun _ => astep_pick rfl rfl, trivial⟩
                      refine awp_false (by kernel_rfl) ?_
                      refine awp_skip ?_
                      refine thenA_n ?_
                      exact ⟨(), h, (mor_to (n := 141) (l' := [(0, (.dat 5 ((p0 : List GRow).map c_GRow))), (3, (I (p3))), (11, (.ref 0 2 (0) 0)), (12, (I (x11.2)))]) (own' := [(.own 2 [[(I (x11.1.N)), (I (x11.1.D))]])]) [(0, (.dat 5 ((p0 : List GRow).map c_GRow))), (3, (I (p3))), (11, (.ref 1 2 (0) 0)), (12, (I (x11.2)))] [1] [(.own 2 [[(I (x11.1.N)), (I (x11.1.D))]])] hφ0 (by kernel_rfl) (by kernel_rfl) (by kernel_rfl) ⟨rfl, .rn (.plain _ (nl_dat nl_GRow _)), rfl, .rn (.plain _ (NLt.lit _)), rfl, .rn (rnq_ref rfl), rfl, .rn (.plain _ (NLt.lit _)), trivial⟩ ⟨(spw_box ⟨(.rn (.plain _ (NLt.lit _))), (.rn (.plain _ (NLt.lit _))), trivial⟩), trivial⟩)⟩
              · replace h := bif_f hb62 h
                rcases Bool.eq_false_or_eq_true ((decide (x34 ≥ 0))) with hb68 | hb68
                · replace h := bif_t hb68 h
                  rcases Bool.eq_false_or_eq_true ((x7.2 != 0)) with hb69 | hb69
                  · replace h := bif_t hb69 h
                    refine awp_reg [⟨[((.tmp 0), (.dat 5 ((p0 : List GRow).map c_GRow)))], [], (.dat 5 ((p0 : List GRow).map c_GRow)), [], false⟩,
    ⟨[((.func 19), (.fn (.func 19) [] [])), ((.tmp 71), (.dat 5 ((p0 : List GRow).map c_GRow)))], [], (.dat 5 ((x58 : List GRow).map c_GRow)), [], false⟩,
    ⟨[((.func 46), (.fn (.func 46) [] [])), ((.tmp 72), (.dat 5 ((x58 : List GRow).map c_GRow)))], [], (I (x60)), [], false⟩,
    ⟨[((.tmp 73), (I (x60))), ((.const (.int .i64 0)), (I (0)))], [], (B ((x60 != 0))), [], false⟩,
    ⟨[((.tmp 74), (B ((x60 != 0))))], [], (B (false)), [], false⟩,
    ⟨[((.tmp 75), (B (false))), ((.tmp 14), (I (x34)))], [], (I (x34)), [], false⟩,
    ⟨[((.tmp 75), (B (false))), ((.tmp 76), (I (x34))), ((.const (.int .i64 0)), (I (0)))], [], (B ((decide (x34 < 0)))), [], false⟩,
    ⟨[((.tmp 75), (B (false))), ((.tmp 77), (B ((decide (x34 < 0)))))], [], (B (false)), [], false⟩,
    ⟨[((.tmp 78), (B (false)))], [], (.lit undef), [], true⟩,
    ⟨[((.tmp 78), (B (false)))], [], (.lit undef), [], true⟩,
    ⟨[((.tmp 78), (B (false)))], [], (.lit undef), [], true⟩,
    ⟨[((.tmp 81), (.lit undef))], [], (.lit undef), [], true⟩,
    ⟨[((.tmp 81), (.lit undef))], [], (.lit undef), [], true⟩,
    ⟨[((.tmp 78), (B (false)))], [], (.lit undef), [], true⟩,
    ⟨[((.tmp 75), (B (false))), ((.tmp 78), (B (false))), ((.tmp 84), (.lit undef)), ((.const (.bool false)), (B (false)))], [], (B (false)), [], false⟩,
    ⟨[((.tmp 75), (B (false))), ((.const (.bool true)), (B (true))), ((.tmp 85), (B (false)))], [], (B (false)), [], false⟩,
    ⟨[((.tmp 86), (B (false)))], [], (B (false)), [], false⟩,
    ⟨[((.tmp 87), (B (false))), ((.tmp 14), (I (x34)))], [], (I (x34)), [], false⟩,
    ⟨[((.tmp 87), (B (false))), ((.tmp 88), (I (x34))), ((.const (.int .i64 0)), (I (0)))], [], (B ((decide (x34 ≥ 0)))), [], false⟩,
    ⟨[((.tmp 87), (B (false))), ((.tmp 89), (B ((decide (x34 ≥ 0)))))], [], (B (true)), [], false⟩,
    ⟨[((.tmp 90), (B (true))), ((.tmp 10), (I (x7.2)))], [], (I (x7.2)), [], false⟩,
    ⟨[((.tmp 90), (B (true))), ((.tmp 91), (I (x7.2))), ((.const (.int .i64 0)), (I (0)))], [], (B ((x7.2 != 0))), [], false⟩,
    ⟨[((.tmp 90), (B (true))), ((.tmp 92), (B ((x7.2 != 0))))], [], (B (true)), [], false⟩,
    ⟨[((.tmp 93), (B (true)))], [], (.lit undef), [], true⟩,
    ⟨[((.tmp 93), (B (true)))], [], (.lit undef), [], true⟩,
    ⟨[((.tmp 93), (B (true)))], [], (.lit undef), [], true⟩,
    ⟨[((.tmp 90), (B (true))), ((.tmp 93), (B (true))), ((.const (.bool true)), (B (true))), ((.tmp 96), (.lit undef))], [], (B (true)), [], false⟩,
    ⟨[((.tmp 87), (B (false))), ((.tmp 90), (B (true))), ((.tmp 97), (B (true))), ((.const (.bool false)), (B (false)))], [], (B (true)), [], false⟩,
    ⟨[((.tmp 87), (B (false))), ((.const (.bool true)), (B (true))), ((.tmp 98), (B (true)))], [], (B (true)), [], false⟩] (by exact ⟨by kernel_rfl, by kernel_rfl⟩) ?_ ?_
                    · exact ⟨fun _ => astep_move rfl,
    fun _ => astep_pcall (first := []) (cap := []) (vs := [(.dat 5 ((p0 : List GRow).map c_GRow))]) rfl enter19 (law01_TableX_ok N p0 _ hf57) rfl rfl (nl_cons (nl_dat nl_GRow _) nl_nil) (nl_dat nl_GRow _) rfl,
    fun _ => astep_pcall (first := []) (cap := []) (vs := [(.dat 5 ((x58 : List GRow).map c_GRow))]) rfl enter46 (steam_CheckTableX_ok N x58 _ hf59) rfl rfl (nl_cons (nl_dat nl_GRow _) nl_nil) (NLt.lit _) rfl,
    fun _ => astep_bin rfl rfl,
    fun _ => astep_b hb61 (astep_move rfl),
    fun _ => astep_guard (astep_move rfl),
    fun _ => astep_guard (astep_bin rfl rfl),
    fun _ => astep_b hb62 (astep_guard (astep_move rfl)),
    fun hs => (Bool.noConfusion hs),
    fun hs => (Bool.noConfusion hs),
    fun hs => (Bool.noConfusion hs),
    fun hs => (Bool.noConfusion hs),
    fun hs => (Bool.noConfusion hs),
    fun hs => (Bool.noConfusion hs),
    fun _ => astep_guard (astep_pick rfl rfl),
    fun _ => astep_pick rfl rfl,
    fun _ => astep_move rfl,
    fun _ => astep_guard (astep_move rfl),
    fun _ => astep_guard (astep_bin rfl rfl),
    fun _ => astep_b hb68 (astep_guard (astep_move rfl)),
    fun _ => astep_guard (astep_move rfl),
    fun _ => astep_guard (astep_bin rfl rfl),
    fun _ => astep_b hb69 (astep_guard (astep_move rfl)),
    fun hs => (Bool.noConfusion hs),
    fun hs => (Bool.noConfusion hs),
    fun hs => (Bool.noConfusion hs),
    fun _ => astep_guard (astep_pick rfl rfl),
    fun _ => astep_guard (astep_pick rfl rfl),
    fun _ => astep_pick rfl rfl, trivial⟩
                    refine awp_true (by kernel_rfl) ?_
                    refine awp_reg [⟨[((.const (.bool false)), (B (false)))], [], (B (false)), [], false⟩] (by exact ⟨by kernel_rfl, by kernel_rfl⟩) ?_ ?_
                    · exact ⟨fun _ => astep_assign rfl, trivial⟩
                    refine awp_ret ?_
                    refine thenA_r ?_
                    obtain rfl := Option.some.inj h
                    exact ⟨⟨[(B (false))], ⟨resOK_tmp (by kernel_rfl), trivial⟩, rfl⟩, (NLt.lit _), Nat.le_refl _, fun n hn => absurd hn (Nat.not_lt_zero n)⟩
                  · replace h := bif_f hb69 h
                    refine awp_reg [⟨[((.tmp 0), (.dat 5 ((p0 : List GRow).map c_GRow)))], [], (.dat 5 ((p0 : List GRow).map c_GRow)), [], false⟩,
    ⟨[((.func 19), (.fn (.func 19) [] [])), ((.tmp 71), (.dat 5 ((p0 : List GRow).map c_GRow)))], [], (.dat 5 ((x58 : List GRow).map c_GRow)), [], false⟩,
    ⟨[((.func 46), (.fn (.func 46) [] [])), ((.tmp 72), (.dat 5 ((x58 : List GRow).map c_GRow)))], [], (I (x60)), [], false⟩,
    ⟨[((.tmp 73), (I (x60))), ((.const (.int .i64 0)), (I (0)))], [], (B ((x60 != 0))), [], false⟩,
    ⟨[((.tmp 74), (B ((x60 != 0))))], [], (B (false)), [], false⟩,
    ⟨[((.tmp 75), (B (false))), ((.tmp 14), (I (x34)))], [], (I (x34)), [], false⟩,
    ⟨[((.tmp 75), (B (false))), ((.tmp 76), (I (x34))), ((.const (.int .i64 0)), (I (0)))], [], (B ((decide (x34 < 0)))), [], false⟩,
    ⟨[((.tmp 75), (B (false))), ((.tmp 77), (B ((decide (x34 < 0)))))], [], (B (false)), [], false⟩,
    ⟨[((.tmp 78), (B (false)))], [], (.lit undef), [], true⟩,
    ⟨[((.tmp 78), (B (false)))], [], (.lit undef), [], true⟩,
    ⟨[((.tmp 78), (B (false)))], [], (.lit undef), [], true⟩,
    ⟨[((.tmp 81), (.lit undef))], [], (.lit undef), [], true⟩,
    ⟨[((.tmp 81), (.lit undef))], [], (.lit undef), [], true⟩,
    ⟨[((.tmp 78), (B (false)))], [], (.lit undef), [], true⟩,
    ⟨[((.tmp 75), (B (false))), ((.tmp 78), (B (false))), ((.tmp 84), (.lit undef)), ((.const (.bool false)), (B (false)))], [], (B (false)), [], false⟩,
    ⟨[((.tmp 75), (B (false))), ((.const (.bool true)), (B (true))), ((.tmp 85), (B (false)))], [], (B (false)), [], false⟩,
    ⟨[((.tmp 86), (B (false)))], [], (B (false)), [], false⟩,
    ⟨[((.tmp 87), (B (false))), ((.tmp 14), (I (x34)))], [], (I (x34)), [], false⟩,
    ⟨[((.tmp 87), (B (false))), ((.tmp 88), (I (x34))), ((.const (.int .i64 0)), (I (0)))], [], (B ((decide (x34 ≥ 0)))), [], false⟩,
    ⟨[((.tmp 87), (B (false))), ((.tmp 89), (B ((decide (x34 ≥ 0)))))], [], (B (true)), [], false⟩,
    ⟨[((.tmp 90), (B (true))), ((.tmp 10), (I (x7.2)))], [], (I (x7.2)), [], false⟩,
    ⟨[((.tmp 90), (B (true))), ((.tmp 91), (I (x7.2))), ((.const (.int .i64 0)), (I (0)))], [], (B ((x7.2 != 0))), [], false⟩,
    ⟨[((.tmp 90), (B (true))), ((.tmp 92), (B ((x7.2 != 0))))], [], (B (false)), [], false⟩,
    ⟨[((.tmp 93), (B (false))), ((.tmp 9), (I (x7.1)))], [], (I (x7.1)), [], false⟩,
    ⟨[((.tmp 93), (B (false))), ((.tmp 14), (I (x34)))], [], (I (x34)), [], false⟩,
    ⟨[((.tmp 93), (B (false))), ((.tmp 94), (I (x7.1))), ((.tmp 95), (I (x34)))], [], (B ((x7.1 != x34))), [], false⟩,
    ⟨[((.tmp 90), (B (true))), ((.tmp 93), (B (false))), ((.const (.bool true)), (B (true))), ((.tmp 96), (B ((x7.1 != x34))))], [], (B ((x7.1 != x34))), [], false⟩,
    ⟨[((.tmp 87), (B (false))), ((.tmp 90), (B (true))), ((.tmp 97), (B ((x7.1 != x34)))), ((.const (.bool false)), (B (false)))], [], (B ((x7.1 != x34))), [], false⟩,
    ⟨[((.tmp 87), (B (false))), ((.const (.bool true)), (B (true))), ((.tmp 98), (B ((x7.1 != x34))))], [], (B ((x7.1 != x34))), [], false⟩] (by exact ⟨by kernel_rfl, by kernel_rfl⟩) ?_ ?_
                    · exact ⟨fun _ => astep_move rfl,
    fun _ => astep_pcall (first := []) (cap := []) (vs := [(.dat 5 ((p0 : List GRow).map c_GRow))]) rfl enter19 (law01_TableX_ok N p0 _ hf57) rfl rfl (nl_cons (nl_dat nl_GRow _) nl_nil) (nl_dat nl_GRow _) rfl,
    fun _ => astep_pcall (first := []) (cap := []) (vs := [(.dat 5 ((x58 : List GRow).map c_GRow))]) rfl enter46 (steam_CheckTableX_ok N x58 _ hf59) rfl rfl (nl_cons (nl_dat nl_GRow _) nl_nil) (NLt.lit _) rfl,
    fun _ => astep_bin rfl rfl,
    fun _ => astep_b hb61 (astep_move rfl),
    fun _ => astep_guard (astep_move rfl),
    fun _ => astep_guard (astep_bin rfl rfl),
    fun _ => astep_b hb62 (astep_guard (astep_move rfl)),
    fun hs => (Bool.noConfusion hs),
    fun hs => (Bool.noConfusion hs),
    fun hs => (Bool.noConfusion hs),
    fun hs => (Bool.noConfusion hs),
    fun hs => (Bool.noConfusion hs),
    fun hs => (Bool.noConfusion hs),
    fun _ => astep_guard (astep_pick rfl rfl),
    fun _ => astep_pick rfl rfl,
    fun _ => astep_move rfl,
    fun _ => astep_guard (astep_move rfl),
    fun _ => astep_guard (astep_bin rfl rfl),
    fun _ => astep_b hb68 (astep_guard (astep_move rfl)),
    fun _ => astep_guard (astep_move rfl),
    fun _ => astep_guard (astep_bin rfl rfl),
    fun _ => astep_b hb69 (astep_guard (astep_move rfl)),
    fun _ => astep_guard (astep_move rfl),
    fun _ => astep_guard (astep_move rfl),
    fun _ => astep_guard (astep_bin rfl rfl),
    fun _ => astep_guard (astep_pick rfl rfl),
    fun _ => astep_guard (astep_pick rfl rfl),
    fun _ => astep_pick rfl rfl, trivial⟩
                    rcases Bool.eq_false_or_eq_true ((x7.1 != x34)) with hc70 | hc70
                    · replace h := bif_t hc70 h
                      refine awp_ift hc70 (by kernel_rfl) ?_
                      refine awp_reg [⟨[((.const (.bool false)), (B (false)))], [], (B (false)), [], false⟩] (by exact ⟨by kernel_rfl, by kernel_rfl⟩) ?_ ?_
                      · exact ⟨fun _ => astep_assign rfl, trivial⟩
                      refine awp_ret ?_
                      refine thenA_r ?_
                      obtain rfl := Option.some.inj h
                      exact ⟨⟨[(B (false))], ⟨resOK_tmp (by kernel_rfl), trivial⟩, rfl⟩, (NLt.lit _), Nat.le_refl _, fun n hn => absurd hn (Nat.not_lt_zero n)⟩
                    · replace h := bif_f hc70 h
                      refine awp_ifn hc70 (by kernel_rfl) ?_
                      refine awp_skip ?_
                      refine thenA_n ?_
                      exact ⟨(), h, (mor_to (n := 141) (l' := [(0, (.dat 5 ((p0 : List GRow).map c_GRow))), (3, (I (p3))), (11, (.ref 0 2 (0) 0)), (12, (I (x11.2)))]) (own' := [(.own 2 [[(I (x11.1.N)), (I (x11.1.D))]])]) [(0, (.dat 5 ((p0 : List GRow).map c_GRow))), (3, (I (p3))), (11, (.ref 1 2 (0) 0)), (12, (I (x11.2)))] [1] [(.own 2 [[(I (x11.1.N)), (I (x11.1.D))]])] hφ0 (by kernel_rfl) (by kernel_rfl) (by kernel_rfl) ⟨rfl, .rn (.plain _ (nl_dat nl_GRow _)), rfl, .rn (.plain _ (NLt.lit _)), rfl, .rn (rnq_ref rfl), rfl, .rn (.plain _ (NLt.lit _)), trivial⟩ ⟨(spw_box ⟨(.rn (.plain _ (NLt.lit _))), (.rn (.plain _ (NLt.lit _))), trivial⟩), trivial⟩)⟩
                · replace h := bif_f hb68 h
                  refine awp_reg [⟨[((.tmp 0), (.dat 5 ((p0 : List GRow).map c_GRow)))], [], (.dat 5 ((p0 : List GRow).map c_GRow)), [], false⟩,
    ⟨[((.func 19), (.fn (.func 19) [] [])), ((.tmp 71), (.dat 5 ((p0 : List GRow).map c_GRow)))], [], (.dat 5 ((x58 : List GRow).map c_GRow)), [], false⟩,
    ⟨[((.func 46), (.fn (.func 46) [] [])), ((.tmp 72), (.dat 5 ((x58 : List GRow).map c_GRow)))], [], (I (x60)), [], false⟩,
    ⟨[((.tmp 73), (I (x60))), ((.const (.int .i64 0)), (I (0)))], [], (B ((x60 != 0))), [], false⟩,
    ⟨[((.tmp 74), (B ((x60 != 0))))], [], (B (false)), [], false⟩,
    ⟨[((.tmp 75), (B (false))), ((.tmp 14), (I (x34)))], [], (I (x34)), [], false⟩,
    ⟨[((.tmp 75), (B (false))), ((.tmp 76), (I (x34))), ((.const (.int .i64 0)), (I (0)))], [], (B ((decide (x34 < 0)))), [], false⟩,
    ⟨[((.tmp 75), (B (false))), ((.tmp 77), (B ((decide (x34 < 0)))))], [], (B (false)), [], false⟩,
    ⟨[((.tmp 78), (B (false)))], [], (.lit undef), [], true⟩,
    ⟨[((.tmp 78), (B (false)))], [], (.lit undef), [], true⟩,
    ⟨[((.tmp 78), (B (false)))], [], (.lit undef), [], true⟩,
    ⟨[((.tmp 81), (.lit undef))], [], (.lit undef), [], true⟩,
    ⟨[((.tmp 81), (.lit undef))], [], (.lit undef), [], true⟩,
    ⟨[((.tmp 78), (B (false)))], [], (.lit undef), [], true⟩,
    ⟨[((.tmp 75), (B (false))), ((.tmp 78), (B (false))), ((.tmp 84), (.lit undef)), ((.const (.bool false)), (B (false)))], [], (B (false)), [], false⟩,
    ⟨[((.tmp 75), (B (false))), ((.const (.bool true)), (B (true))), ((.tmp 85), (B (false)))], [], (B (false)), [], false⟩,
    ⟨[((.tmp 86), (B (false)))], [], (B (false)), [], false⟩,
    ⟨[((.tmp 87), (B (false))), ((.tmp 14), (I (x34)))], [], (I (x34)), [], false⟩,
    ⟨[((.tmp 87), (B (false))), ((.tmp 88), (I (x34))), ((.const (.int .i64 0)), (I (0)))], [], (B ((decide (x34 ≥ 0)))), [], false⟩,
    ⟨[((.tmp 87), (B (false))), ((.tmp 89), (B ((decide (x34 ≥ 0)))))], [], (B (false)), [], false⟩,
    ⟨[((.tmp 90), (B (false)))], [], (.lit undef), [], true⟩,
    ⟨[((.tmp 90), (B (false)))], [], (.lit undef), [], true⟩,
    ⟨[((.tmp 90), (B (false)))], [], (.lit undef), [], true⟩,
    ⟨[((.tmp 93), (.lit undef))], [], (.lit undef), [], true⟩,
    ⟨[((.tmp 93), (.lit undef))], [], (.lit undef), [], true⟩,
    ⟨[((.tmp 93), (.lit undef))], [], (.lit undef), [], true⟩,
    ⟨[((.tmp 90), (B (false)))], [], (.lit undef), [], true⟩,
    ⟨[((.tmp 87), (B (false))), ((.tmp 90), (B (false))), ((.tmp 97), (.lit undef)), ((.const (.bool false)), (B (false)))], [], (B (false)), [], false⟩,
    ⟨[((.tmp 87), (B (false))), ((.const (.bool true)), (B (true))), ((.tmp 98), (B (false)))], [], (B (false)), [], false⟩] (by exact ⟨by kernel_rfl, by kernel_rfl⟩) ?_ ?_
                  · exact ⟨fun _ => astep_move rfl,
    fun _ => astep_pcall (first := []) (cap := []) (vs := [(.dat 5 ((p0 : List GRow).map c_GRow))]) rfl enter19 (law01_TableX_ok N p0 _ hf57) rfl rfl (nl_cons (nl_dat nl_GRow _) nl_nil) (nl_dat nl_GRow _) rfl,
    fun _ => astep_pcall (first := []) (cap := []) (vs := [(.dat 5 ((x58 : List GRow).map c_GRow))]) rfl enter46 (steam_CheckTableX_ok N x58 _ hf59) rfl rfl (nl_cons (nl_dat nl_GRow _) nl_nil) (NLt.lit _) rfl,
    fun _ => astep_bin rfl rfl,
    fun _ => astep_b hb61 (astep_move rfl),
    fun _ => astep_guard (astep_move rfl),
    fun _ => astep_guard (astep_bin rfl rfl),
    fun _ => astep_b hb62 (astep_guard (astep_move rfl)),
    fun hs => (Bool.noConfusion hs),
    fun hs => (Bool.noConfusion hs),
    fun hs => (Bool.noConfusion hs),
    fun hs => (Bool.noConfusion hs),
    fun hs => (Bool.noConfusion hs),
    fun hs => (Bool.noConfusion hs),
    fun _ => astep_guard (astep_pick rfl rfl),
    fun _ => astep_pick rfl rfl,
    fun _ => astep_move rfl,
    fun _ => astep_guard (astep_move rfl),
    fun _ => astep_guard (astep_bin rfl rfl),
    fun _ => astep_b hb68 (astep_guard (astep_move rfl)),
    fun hs => (Bool.noConfusion hs),
    fun hs => (Bool.noConfusion hs),
    fun hs => (Bool.noConfusion hs),
    fun hs => (Bool.noConfusion hs),
    fun hs => (Bool.noConfusion hs),
    fun hs => (Bool.noConfusion hs),
    fun hs => (Bool.noConfusion hs),
    fun _ => astep_guard (astep_pick rfl rfl),
    fun _ => astep_pick rfl rfl, trivial⟩
                  refine awp_false (by kernel_rfl) ?_
                  refine awp_skip ?_
                  refine thenA_n ?_
                  exact ⟨(), h, (mor_to (n := 141) (l' := [(0, (.dat 5 ((p0 : List GRow).map c_GRow))), (3, (I (p3))), (11, (.ref 0 2 (0) 0)), (12, (I (x11.2)))]) (own' := [(.own 2 [[(I (x11.1.N)), (I (x11.1.D))]])]) [(0, (.dat 5 ((p0 : List GRow).map c_GRow))), (3, (I (p3))), (11, (.ref 1 2 (0) 0)), (12, (I (x11.2)))] [1] [(.own 2 [[(I (x11.1.N)), (I (x11.1.D))]])] hφ0 (by kernel_rfl) (by kernel_rfl) (by kernel_rfl) ⟨rfl, .rn (.plain _ (nl_dat nl_GRow _)), rfl, .rn (.plain _ (NLt.lit _)), rfl, .rn (rnq_ref rfl), rfl, .rn (.plain _ (NLt.lit _)), trivial⟩ ⟨(spw_box ⟨(.rn (.plain _ (NLt.lit _))), (.rn (.plain _ (NLt.lit _))), trivial⟩), trivial⟩)⟩
    · skip
      obtain ⟨x72, hf71, h⟩ := bind_out h
      refine awp_reg [⟨[((.tmp 5), (.ref 0 4 (0) 0))], [(0, (.own 4 [[(I (p1.Mass)), (I (p1.Heat)), (I (p1.Silica)), (I (p1.Gas))]]))], (.agg [(I (p1.Mass)), (I (p1.Heat)), (I (p1.Silica)), (I (p1.Gas))]), [], false⟩,
    ⟨[((.func 24), (.fn (.func 24) [] [])), ((.tmp 34), (.agg [(I (p1.Mass)), (I (p1.Heat)), (I (p1.Silica)), (I (p1.Gas))]))], [], (B (x72)), [], false⟩] (by exact ⟨by kernel_rfl, by kernel_rfl⟩) ?_ ?_
      · exact ⟨fun _ => astep_load rfl ti39 (by decide) rfl (Nat.le_of_ble_eq_true rfl) rfl,
    fun _ => astep_pcall (first := []) (cap := []) (vs := [(.agg [(I (p1.Mass)), (I (p1.Heat)), (I (p1.Silica)), (I (p1.Gas))])]) rfl enter24 (ref01_RightStreamX_ok N p1 _ hf71) rfl rfl (nl_cons (NLt.agg _ (nl_cons (NLt.lit _) (nl_cons (NLt.lit _) (nl_cons (NLt.lit _) (nl_cons (NLt.lit _) nl_nil))))) nl_nil) (NLt.lit _) rfl, trivial⟩
      rcases Bool.eq_false_or_eq_true (x72) with hc73 | hc73
      · replace h := bif_t hc73 h
        refine awp_ift hc73 (by kernel_rfl) ?_
        refine awp_reg1 [⟨[((.const (.int .i64 0)), (I (0)))], [], (I (0)), [], false⟩] (by exact ⟨by kernel_rfl, by kernel_rfl⟩) ?_ ?_
        · exact ⟨fun _ => astep_assign rfl, trivial⟩
        refine thenA_n ?_
        exact ⟨(0), h, (mor_to (n := 141) (l' := [(0, (.dat 5 ((p0 : List GRow).map c_GRow))), (2, (I (p2))), (3, (I (p3))), (5, (.ref 0 4 (0) 0)), (9, (I (x7.1))), (10, (I (x7.2))), (11, (.ref 1 2 (0) 0)), (12, (I (x11.2))), (13, (I (0)))]) (own' := [(.own 4 [[(I (p1.Mass)), (I (p1.Heat)), (I (p1.Silica)), (I (p1.Gas))]]), (.own 2 [[(I (x11.1.N)), (I (x11.1.D))]])]) [(0, (.dat 5 ((p0 : List GRow).map c_GRow))), (2, (I (p2))), (3, (I (p3))), (5, (.ref 0 4 (0) 0)), (9, (I (x7.1))), (10, (I (x7.2))), (11, (.ref 1 2 (0) 0)), (12, (I (x11.2))), (13, (I (0)))] [0, 1] [(.own 4 [[(I (p1.Mass)), (I (p1.Heat)), (I (p1.Silica)), (I (p1.Gas))]]), (.own 2 [[(I (x11.1.N)), (I (x11.1.D))]])] hφ0 (by kernel_rfl) (by kernel_rfl) (by kernel_rfl) ⟨rfl, .rn (.plain _ (nl_dat nl_GRow _)), rfl, .rn (.plain _ (NLt.lit _)), rfl, .rn (.plain _ (NLt.lit _)), rfl, .rn (rnq_ref rfl), rfl, .rn (.plain _ (NLt.lit _)), rfl, .rn (.plain _ (NLt.lit _)), rfl, .rn (rnq_ref rfl), rfl, .rn (.plain _ (NLt.lit _)), rfl, .rn (.plain _ (NLt.lit _)), trivial⟩ ⟨(spw_box ⟨(.rn (.plain _ (NLt.lit _))), (.rn (.plain _ (NLt.lit _))), (.rn (.plain _ (NLt.lit _))), (.rn (.plain _ (NLt.lit _))), trivial⟩), (spw_box ⟨(.rn (.plain _ (NLt.lit _))), (.rn (.plain _ (NLt.lit _))), trivial⟩), trivial⟩)⟩
      · replace h := bif_f hc73 h
        refine awp_ifn hc73 (by kernel_rfl) ?_
        refine awp_skip ?_
        refine thenA_n ?_
        exact ⟨(1), h, (mor_to (n := 141) (l' := [(0, (.dat 5 ((p0 : List GRow).map c_GRow))), (2, (I (p2))), (3, (I (p3))), (5, (.ref 0 4 (0) 0)), (9, (I (x7.1))), (10, (I (x7.2))), (11, (.ref 1 2 (0) 0)), (12, (I (x11.2))), (13, (I (1)))]) (own' := [(.own 4 [[(I (p1.Mass)), (I (p1.Heat)), (I (p1.Silica)), (I (p1.Gas))]]), (.own 2 [[(I (x11.1.N)), (I (x11.1.D))]])]) [(0, (.dat 5 ((p0 : List GRow).map c_GRow))), (2, (I (p2))), (3, (I (p3))), (5, (.ref 0 4 (0) 0)), (9, (I (x7.1))), (10, (I (x7.2))), (11, (.ref 1 2 (0) 0)), (12, (I (x11.2))), (13, (I (1)))] [0, 1] [(.own 4 [[(I (p1.Mass)), (I (p1.Heat)), (I (p1.Silica)), (I (p1.Gas))]]), (.own 2 [[(I (x11.1.N)), (I (x11.1.D))]])] hφ0 (by kernel_rfl) (by kernel_rfl) (by kernel_rfl) ⟨rfl, .rn (.plain _ (nl_dat nl_GRow _)), rfl, .rn (.plain _ (NLt.lit _)), rfl, .rn (.plain _ (NLt.lit _)), rfl, .rn (rnq_ref rfl), rfl, .rn (.plain _ (NLt.lit _)), rfl, .rn (.plain _ (NLt.lit _)), rfl, .rn (rnq_ref rfl), rfl, .rn (.plain _ (NLt.lit _)), rfl, .rn (.plain _ (NLt.lit _)), trivial⟩ ⟨(spw_box ⟨(.rn (.plain _ (NLt.lit _))), (.rn (.plain _ (NLt.lit _))), (.rn (.plain _ (NLt.lit _))), (.rn (.plain _ (NLt.lit _))), trivial⟩), (spw_box ⟨(.rn (.plain _ (NLt.lit _))), (.rn (.plain _ (NLt.lit _))), trivial⟩), trivial⟩)⟩

end Go.Proofs.Ytenpbiineblcjaa
