/-
  Functions of the program: what they compute, as plain functions, and that they do. No conditions.
-/
import Derived.Test.YtenpbiineblcjaaX2
namespace Go.Proofs.Ytenpbiineblcjaa
open Go.RowKit

def law01_pickX (_N : Nat) (p0 : GRange) (p1 : Int) : Option Int :=
  chk ((w64 ((w64 (p0.Hi - p0.Lo)) + 1)) != 0) <|
  (some (w64 (p0.Lo + ((w64 p1).tmod (w64 ((w64 (p0.Hi - p0.Lo)) + 1)))))).bind fun x2 =>
  some x2
set_option maxRecDepth 100000 in
set_option maxHeartbeats 4000000 in
theorem law01_pickX_ok (N : Nat) (p0 : GRange) (p1 : Int) (r : Int) (h : law01_pickX N p0 p1 = some r) : Spec Try.prog 40 [(.agg (c_GRange p0)), (K .u32 p1)] [] (I r) [] := by
  refine spec_of_awp Try.func40 rfl 0 (Nat.le_of_ble_eq_true rfl) (fun X φ0 w0 hφ0 => ?_)
  unfold law01_pickX at h
  refine awp_reg [⟨[((.tmp 0), (.agg [(I (p0.Lo)), (I (p0.Hi))]))], [(0, .unused)], (.ref 0 2 (0) 0), [(0, (.own 2 [[(I (p0.Lo)), (I (p0.Hi))]]))], false⟩,
    ⟨[((.const (.int .i64 0)), (I (0)))], [], (I (0)), [], false⟩] (by exact ⟨by kernel_rfl, by kernel_rfl⟩) ?_ ?_
  · exact ⟨fun _ => astep_box rfl (by rfl) rfl rfl,
    fun _ => astep_assign rfl, trivial⟩
  obtain ⟨hz1, h⟩ := chk_out h
  obtain ⟨x2, hl3, h⟩ := bind_out h
  refine awp_regd [⟨[((.tmp 2), (.ref 0 2 (0) 0))], [(0, (.own 2 [[(I (p0.Lo)), (I (p0.Hi))]]))], (.ref 0 2 (0) 0), [], false⟩,
    ⟨[((.tmp 5), (.ref 0 2 (0) 0))], [(0, (.own 2 [[(I (p0.Lo)), (I (p0.Hi))]]))], (I (p0.Lo)), [], false⟩,
    ⟨[((.tmp 1), (K .u32 (p1)))], [], (K .u32 (p1)), [], false⟩,
    ⟨[((.tmp 7), (K .u32 (p1)))], [], (I (w64 p1)), [], false⟩,
    ⟨[((.tmp 2), (.ref 0 2 (0) 0))], [(0, (.own 2 [[(I (p0.Lo)), (I (p0.Hi))]]))], (.ref 0 2 (0) 1), [], false⟩,
    ⟨[((.tmp 9), (.ref 0 2 (0) 1))], [(0, (.own 2 [[(I (p0.Lo)), (I (p0.Hi))]]))], (I (p0.Hi)), [], false⟩,
    ⟨[((.tmp 2), (.ref 0 2 (0) 0))], [(0, (.own 2 [[(I (p0.Lo)), (I (p0.Hi))]]))], (.ref 0 2 (0) 0), [], false⟩,
    ⟨[((.tmp 11), (.ref 0 2 (0) 0))], [(0, (.own 2 [[(I (p0.Lo)), (I (p0.Hi))]]))], (I (p0.Lo)), [], false⟩,
    ⟨[((.tmp 10), (I (p0.Hi))), ((.tmp 12), (I (p0.Lo)))], [], (I (w64 (p0.Hi - p0.Lo))), [], false⟩,
    ⟨[((.tmp 13), (I (w64 (p0.Hi - p0.Lo)))), ((.const (.int .i64 1)), (I (1)))], [], (I (w64 ((w64 (p0.Hi - p0.Lo)) + 1))), [], false⟩,
    ⟨[((.tmp 8), (I (w64 p1))), ((.tmp 14), (I (w64 ((w64 (p0.Hi - p0.Lo)) + 1))))], [], (I ((w64 p1).tmod (w64 ((w64 (p0.Hi - p0.Lo)) + 1)))), [], false⟩,
    ⟨[((.tmp 6), (I (p0.Lo))), ((.tmp 15), (I ((w64 p1).tmod (w64 ((w64 (p0.Hi - p0.Lo)) + 1)))))], [], (I (x2)), [], false⟩,
    ⟨[((.tmp 16), (I (x2)))], [], (I (x2)), [], false⟩] (by kernel_rfl) (by exact ⟨by kernel_rfl, by kernel_rfl⟩) (by kernel_rfl) ?_ ?_
  · exact ⟨fun _ => astep_faddr rfl Try.underlying70 rfl rfl ti3 (by decide) rfl,
    fun _ => astep_load rfl ti3 (by decide) rfl (Nat.le_of_ble_eq_true rfl) rfl,
    fun _ => astep_move rfl,
    fun _ => astep_conv rfl (by rw [Try.underlying40]; rfl) Try.underlying3,
    fun _ => astep_faddr rfl Try.underlying70 rfl rfl ti3 (by decide) rfl,
    fun _ => astep_load rfl ti3 (by decide) rfl (Nat.le_of_ble_eq_true rfl) rfl,
    fun _ => astep_faddr rfl Try.underlying70 rfl rfl ti3 (by decide) rfl,
    fun _ => astep_load rfl ti3 (by decide) rfl (Nat.le_of_ble_eq_true rfl) rfl,
    fun _ => astep_bin rfl rfl,
    fun _ => astep_bin rfl rfl,
    fun _ => astep_rem rfl (bne_out hz1),
    fun _ => astep_i hl3 (astep_bin rfl rfl),
    fun _ => astep_assign rfl, trivial⟩
  refine awp_ret ?_
  obtain rfl := Option.some.inj h
  exact ⟨⟨[(I (x2))], ⟨resOK_tmp (by kernel_rfl), trivial⟩, rfl⟩, (NLt.lit _), Nat.le_refl _, fun n hn => absurd hn (Nat.not_lt_zero n)⟩

def law01_SteamLinesX (N : Nat) (p0 : (List GRow)) (p1 : Int) (p2 : Int) (p3 : Int) : Option Bool :=
  (ref01_RightX N p0).bind fun x2 =>
  bif (!x2) then
    (law01_awakeX N ).bind fun x5 =>
    some x5
  else
    (law01_TableX N p0).bind fun x7 =>
    chk ((p0.length : Int) != 0) <|
    (some ((w64 p1).tmod (p0.length : Int))).bind fun x9 =>
    (getI p0 x9).bind fun x11 =>
    (steam_SaturationX N x7 x11.T).bind fun x16 =>
    (steam_AtX N x7 x11.P).bind fun x18 =>
    joinK (fun _ =>
        (steam_AtX N x7 (w64 (x11.P - 1))).bind fun x21 =>
        joinK (fun _ =>
            (getI p0 0).bind fun x23 =>
            (getI p0 (w64 ((p0.length : Int) - 1))).bind fun x27 =>
            (law01_pickX N (⟨x23.T, x27.T⟩ : GRange) (IntKind.wrap .u32 p2)).bind fun x32 =>
            (law01_pickX N (⟨x23.T, x27.T⟩ : GRange) (IntKind.wrap .u32 p3)).bind fun x34 =>
            (steam_SaturationX N x7 (if x34 < x32 then x34 else x32)).bind fun x36 =>
            (steam_SaturationX N x7 (if x34 > x32 then x34 else x32)).bind fun x38 =>
            joinK (fun _ =>
                bif (x32 == x34) then
                  bif (([x36.1.N, x36.1.D] : List Int) == [x38.1.N, x38.1.D]) then
                    (law01_awakeX N ).bind fun x43 =>
                    some x43
                  else
                    bif (x32 != x34) then
                      bif (decide ((w64 (x36.1.N * x38.1.D)) < (w64 (x38.1.N * x36.1.D)))) then
                        (law01_awakeX N ).bind fun x47 =>
                        some x47
                      else
                        some false
                    else
                      some false
                else
                  bif (x32 != x34) then
                    bif (decide ((w64 (x36.1.N * x38.1.D)) < (w64 (x38.1.N * x36.1.D)))) then
                      (law01_awakeX N ).bind fun x51 =>
                      some x51
                    else
                      some false
                  else
                    some false) fun k39 : Unit → Option Bool =>
            bif (x36.2 != 0) then
              some false
            else
              bif (x38.2 != 0) then
                some false
              else
                bif (decide (x36.1.D < 1)) then
                  some false
                else
                  bif (decide (x38.1.D < 1)) then
                    some false
                  else
                    (ref01_GcdX N x36.1.N x36.1.D).bind fun x57 =>
                    bif (x57 != 1) then
                      some false
                    else
                      k39 ()) fun k22 : Unit → Option Bool =>
        bif (x9 == 0) then
          bif (x21.2 != 7) then
            some false
          else
            bif (x21.1 != 0) then
              some false
            else
              bif (decide (x9 > 0)) then
                bif (x21.2 != 0) then
                  some false
                else
                  bif (x21.1 != (w64 (x9 - 1))) then
                    some false
                  else
                    k22 ()
              else
                k22 ()
        else
          bif (decide (x9 > 0)) then
            bif (x21.2 != 0) then
              some false
            else
              bif (x21.1 != (w64 (x9 - 1))) then
                some false
              else
                k22 ()
          else
            k22 ()) fun k19 : Unit → Option Bool =>
    bif (x16.2 != 0) then
      some false
    else
      bif (!(([x16.1.N, x16.1.D] : List Int) == [x11.P, 1])) then
        some false
      else
        bif (x18.2 != 0) then
          some false
        else
          bif (x18.1 != x9) then
            some false
          else
            k19 ()
set_option maxRecDepth 100000 in
set_option maxHeartbeats 4000000 in
theorem law01_SteamLinesX_ok (N : Nat) (p0 : (List GRow)) (p1 : Int) (p2 : Int) (p3 : Int) (r : Bool) (h : law01_SteamLinesX N p0 p1 p2 p3 = some r) : Spec Try.prog 10 [(.dat 5 (p0.map c_GRow)), (K .u8 p1), (K .u16 p2), (K .u16 p3)] [] (B r) [] := by
  refine spec_of_awp Try.func10 rfl 0 (Nat.le_of_ble_eq_true rfl) (fun X φ0 w0 hφ0 => ?_)
  unfold law01_SteamLinesX at h
  refine awp_reg [⟨[((.const (.bool false)), (B (false)))], [], (B (false)), [], false⟩] (by exact ⟨by kernel_rfl, by kernel_rfl⟩) ?_ ?_
  · exact ⟨fun _ => astep_assign rfl, trivial⟩
  refine awp_seq ?_
  obtain ⟨x2, hf1, h⟩ := bind_out h
  refine awp_reg [⟨[((.tmp 0), (.dat 5 ((p0 : List GRow).map c_GRow)))], [], (.dat 5 ((p0 : List GRow).map c_GRow)), [], false⟩,
    ⟨[((.func 21), (.fn (.func 21) [] [])), ((.tmp 24), (.dat 5 ((p0 : List GRow).map c_GRow)))], [], (B (x2)), [], false⟩,
    ⟨[((.tmp 25), (B (x2)))], [], (B ((!x2))), [], false⟩] (by exact ⟨by kernel_rfl, by kernel_rfl⟩) ?_ ?_
  · exact ⟨fun _ => astep_move rfl,
    fun _ => astep_pcall (first := []) (cap := []) (vs := [(.dat 5 ((p0 : List GRow).map c_GRow))]) rfl enter21 (ref01_RightX_ok N p0 _ hf1) rfl rfl (nl_cons (nl_dat nl_GRow _) nl_nil) (NLt.lit _) rfl,
    fun _ => astep_not rfl, trivial⟩
  rcases Bool.eq_false_or_eq_true ((!x2)) with hc3 | hc3
  · replace h := bif_t hc3 h
    refine awp_ift hc3 (by kernel_rfl) ?_
    obtain ⟨x5, hf4, h⟩ := bind_out h
    refine awp_reg [⟨[((.func 17), (.fn (.func 17) [] []))], [], (B (x5)), [], false⟩,
    ⟨[((.tmp 27), (B (x5)))], [], (B (x5)), [], false⟩] (by exact ⟨by kernel_rfl, by kernel_rfl⟩) ?_ ?_
    · exact ⟨fun _ => astep_pcall (first := []) (cap := []) (vs := []) rfl enter17 (law01_awakeX_ok N  _ hf4) rfl rfl nl_nil (NLt.lit _) rfl,
    fun _ => astep_assign rfl, trivial⟩
    refine awp_ret ?_
    refine thenA_r ?_
    obtain rfl := Option.some.inj h
    exact ⟨⟨[(B (x5))], ⟨resOK_tmp (by kernel_rfl), trivial⟩, rfl⟩, (NLt.lit _), Nat.le_refl _, fun n hn => absurd hn (Nat.not_lt_zero n)⟩
  · replace h := bif_f hc3 h
    refine awp_ifn hc3 (by kernel_rfl) ?_
    refine awp_skip ?_
    refine thenA_n ?_
    obtain ⟨x7, hf6, h⟩ := bind_out h
    obtain ⟨hz8, h⟩ := chk_out h
    obtain ⟨x9, hl10, h⟩ := bind_out h
    refine awp_regd [⟨[((.tmp 0), (.dat 5 ((p0 : List GRow).map c_GRow)))], [], (.dat 5 ((p0 : List GRow).map c_GRow)), [], false⟩,
    ⟨[((.func 19), (.fn (.func 19) [] [])), ((.tmp 28), (.dat 5 ((p0 : List GRow).map c_GRow)))], [], (.dat 5 ((x7 : List GRow).map c_GRow)), [], false⟩,
    ⟨[((.tmp 1), (K .u8 (p1)))], [], (K .u8 (p1)), [], false⟩,
    ⟨[((.tmp 30), (K .u8 (p1)))], [], (I (w64 p1)), [], false⟩,
    ⟨[((.tmp 0), (.dat 5 ((p0 : List GRow).map c_GRow)))], [], (.dat 5 ((p0 : List GRow).map c_GRow)), [], false⟩,
    ⟨[((.tmp 32), (.dat 5 ((p0 : List GRow).map c_GRow)))], [], (I ((p0.length : Int))), [], false⟩,
    ⟨[((.tmp 31), (I (w64 p1))), ((.tmp 33), (I ((p0.length : Int))))], [], (I ((w64 p1).tmod (p0.length : Int))), [], false⟩,
    ⟨[((.tmp 29), (.dat 5 ((x7 : List GRow).map c_GRow)))], [], (.dat 5 ((x7 : List GRow).map c_GRow)), [], false⟩,
    ⟨[((.tmp 34), (I ((w64 p1).tmod (p0.length : Int))))], [], (I (x9)), [], false⟩] (by kernel_rfl) (by exact ⟨by kernel_rfl, by kernel_rfl⟩) (by kernel_rfl) ?_ ?_
    · exact ⟨fun _ => astep_move rfl,
    fun _ => astep_pcall (first := []) (cap := []) (vs := [(.dat 5 ((p0 : List GRow).map c_GRow))]) rfl enter19 (law01_TableX_ok N p0 _ hf6) rfl rfl (nl_cons (nl_dat nl_GRow _) nl_nil) (nl_dat nl_GRow _) rfl,
    fun _ => astep_move rfl,
    fun _ => astep_conv rfl (by rw [Try.underlying5]; rfl) Try.underlying3,
    fun _ => astep_move rfl,
    fun _ => astep_lenm (c := c_GRow) (l := p0) (astep_len rfl Try.underlying23 rfl),
    fun _ => astep_rem rfl (bne_out hz8),
    fun _ => astep_assign rfl,
    fun _ => astep_i hl10 (astep_assign rfl), trivial⟩
    obtain ⟨x11, hg12, h⟩ := bind_out h
    obtain ⟨hi13, hj14⟩ := getI_some hg12
    obtain ⟨x16, hf15, h⟩ := bind_out h
    refine awp_reg [⟨[((.tmp 9), (.dat 5 ((x7 : List GRow).map c_GRow)))], [], (.dat 5 ((x7 : List GRow).map c_GRow)), [], false⟩,
    ⟨[((.tmp 0), (.dat 5 ((p0 : List GRow).map c_GRow)))], [], (.dat 5 ((p0 : List GRow).map c_GRow)), [], false⟩,
    ⟨[((.tmp 10), (I (x9)))], [], (I (x9)), [], false⟩,
    ⟨[((.tmp 37), (.dat 5 ((p0 : List GRow).map c_GRow))), ((.tmp 38), (I (x9)))], [], (.dptr (c_GRow (x11)) 0), [], false⟩,
    ⟨[((.tmp 39), (.dptr (c_GRow (x11)) 0))], [], (.dptr (c_GRow (x11)) 0), [], false⟩,
    ⟨[((.tmp 40), (.dptr (c_GRow (x11)) 0))], [], (I (x11.T)), [], false⟩,
    ⟨[((.func 41), (.fn (.func 41) [] [])), ((.tmp 36), (.dat 5 ((x7 : List GRow).map c_GRow))), ((.tmp 41), (I (x11.T)))], [], (.tup [(.agg [(I (x16.1.N)), (I (x16.1.D))]), (I (x16.2))]), [], false⟩,
    ⟨[((.tmp 42), (.tup [(.agg [(I (x16.1.N)), (I (x16.1.D))]), (I (x16.2))]))], [], (.tup [(.agg [(I (x16.1.N)), (I (x16.1.D))]), (I (x16.2))]), [], false⟩,
    ⟨[((.tmp 35), (.tup [(.agg [(I (x16.1.N)), (I (x16.1.D))]), (I (x16.2))]))], [], (.agg [(I (x16.1.N)), (I (x16.1.D))]), [], false⟩,
    ⟨[((.tmp 35), (.tup [(.agg [(I (x16.1.N)), (I (x16.1.D))]), (I (x16.2))]))], [], (I (x16.2)), [], false⟩,
    ⟨[], [(0, .unused)], (.ref 0 2 (0) 0), [(0, (.own 2 [[(I (0)), (I (0))]]))], false⟩,
    ⟨[((.tmp 11), (.ref 0 2 (0) 0)), ((.tmp 43), (.agg [(I (x16.1.N)), (I (x16.1.D))]))], [(0, (.own 2 [[(I (0)), (I (0))]]))], .any, [(0, (.own 2 [[(I (x16.1.N)), (I (x16.1.D))]]))], false⟩,
    ⟨[((.tmp 44), (I (x16.2)))], [], (I (x16.2)), [], false⟩] (by exact ⟨by kernel_rfl, by kernel_rfl⟩) ?_ ?_
    · exact ⟨fun _ => astep_move rfl,
    fun _ => astep_move rfl,
    fun _ => astep_move rfl,
    fun _ => astep_idxd rfl Try.underlying23 ti49 rfl rfl hi13 (map_get c_GRow hj14) rfl,
    fun _ => astep_faddrd rfl Try.underlying49 rfl rfl ti3 (by decide) rfl,
    fun _ => astep_loadd rfl ti3 (by decide) (Nat.le_of_ble_eq_true rfl) rfl,
    fun _ => astep_pcall (first := []) (cap := []) (vs := [(.dat 5 ((x7 : List GRow).map c_GRow)), (I (x11.T))]) rfl enter41 (steam_SaturationX_ok N x7 x11.T _ hf15) rfl rfl (nl_cons (nl_dat nl_GRow _) (nl_cons (NLt.lit _) nl_nil)) (NLt.tup _ (nl_cons (NLt.agg _ (nl_cons (NLt.lit _) (nl_cons (NLt.lit _) nl_nil))) (nl_cons (NLt.lit _) nl_nil))) rfl,
    fun _ => astep_move rfl,
    fun _ => astep_extract rfl rfl,
    fun _ => astep_extract rfl rfl,
    fun _ => astep_alloc rfl tz83 rfl,
    fun _ => astep_store rfl ti83 (by rfl) rfl (Nat.le_of_ble_eq_true rfl) rfl,
    fun _ => astep_assign rfl, trivial⟩
    obtain ⟨x18, hf17, h⟩ := bind_out h
    refine awp_reg [⟨[((.tmp 9), (.dat 5 ((x7 : List GRow).map c_GRow)))], [], (.dat 5 ((x7 : List GRow).map c_GRow)), [], false⟩,
    ⟨[((.tmp 0), (.dat 5 ((p0 : List GRow).map c_GRow)))], [], (.dat 5 ((p0 : List GRow).map c_GRow)), [], false⟩,
    ⟨[((.tmp 10), (I (x9)))], [], (I (x9)), [], false⟩,
    ⟨[((.tmp 47), (.dat 5 ((p0 : List GRow).map c_GRow))), ((.tmp 48), (I (x9)))], [], (.dptr (c_GRow (x11)) 0), [], false⟩,
    ⟨[((.tmp 49), (.dptr (c_GRow (x11)) 0))], [], (.dptr (c_GRow (x11)) 1), [], false⟩,
    ⟨[((.tmp 50), (.dptr (c_GRow (x11)) 1))], [], (I (x11.P)), [], false⟩,
    ⟨[((.func 42), (.fn (.func 42) [] [])), ((.tmp 46), (.dat 5 ((x7 : List GRow).map c_GRow))), ((.tmp 51), (I (x11.P)))], [], (.tup [(I (x18.1)), (I (x18.2))]), [], false⟩,
    ⟨[((.tmp 52), (.tup [(I (x18.1)), (I (x18.2))]))], [], (.tup [(I (x18.1)), (I (x18.2))]), [], false⟩,
    ⟨[((.tmp 45), (.tup [(I (x18.1)), (I (x18.2))]))], [], (I (x18.1)), [], false⟩,
    ⟨[((.tmp 45), (.tup [(I (x18.1)), (I (x18.2))]))], [], (I (x18.2)), [], false⟩,
    ⟨[((.tmp 53), (I (x18.1)))], [], (I (x18.1)), [], false⟩,
    ⟨[((.tmp 54), (I (x18.2)))], [], (I (x18.2)), [], false⟩] (by exact ⟨by kernel_rfl, by kernel_rfl⟩) ?_ ?_
    · exact ⟨fun _ => astep_move rfl,
    fun _ => astep_move rfl,
    fun _ => astep_move rfl,
    fun _ => astep_idxd rfl Try.underlying23 ti49 rfl rfl hi13 (map_get c_GRow hj14) rfl,
    fun _ => astep_faddrd rfl Try.underlying49 rfl rfl ti3 (by decide) rfl,
    fun _ => astep_loadd rfl ti3 (by decide) (Nat.le_of_ble_eq_true rfl) rfl,
    fun _ => astep_pcall (first := []) (cap := []) (vs := [(.dat 5 ((x7 : List GRow).map c_GRow)), (I (x11.P))]) rfl enter42 (steam_AtX_ok N x7 x11.P _ hf17) rfl rfl (nl_cons (nl_dat nl_GRow _) (nl_cons (NLt.lit _) nl_nil)) (NLt.tup _ (nl_cons (NLt.lit _) (nl_cons (NLt.lit _) nl_nil))) rfl,
    fun _ => astep_move rfl,
    fun _ => astep_extract rfl rfl,
    fun _ => astep_extract rfl rfl,
    fun _ => astep_assign rfl,
    fun _ => astep_assign rfl, trivial⟩
    obtain ⟨k19, hk_k19, h⟩ := joinK_out h
    refine awp_join (τ := Unit) (fun t => k19 t = some r) (fun _ => ⟨mk 200 [(0, (.dat 5 ((p0 : List GRow).map c_GRow))), (2, (K .u16 (p2))), (3, (K .u16 (p3))), (9, (.dat 5 ((x7 : List GRow).map c_GRow))), (10, (I (x9)))], []⟩) (fun t h => ?_) ?_
    · subst hk_k19
      obtain ⟨x21, hf20, h⟩ := bind_out h
      refine awp_reg [⟨[((.tmp 9), (.dat 5 ((x7 : List GRow).map c_GRow)))], [], (.dat 5 ((x7 : List GRow).map c_GRow)), [], false⟩,
    ⟨[((.tmp 0), (.dat 5 ((p0 : List GRow).map c_GRow)))], [], (.dat 5 ((p0 : List GRow).map c_GRow)), [], false⟩,
    ⟨[((.tmp 10), (I (x9)))], [], (I (x9)), [], false⟩,
    ⟨[((.tmp 78), (.dat 5 ((p0 : List GRow).map c_GRow))), ((.tmp 79), (I (x9)))], [], (.dptr (c_GRow (x11)) 0), [], false⟩,
    ⟨[((.tmp 80), (.dptr (c_GRow (x11)) 0))], [], (.dptr (c_GRow (x11)) 1), [], false⟩,
    ⟨[((.tmp 81), (.dptr (c_GRow (x11)) 1))], [], (I (x11.P)), [], false⟩,
    ⟨[((.tmp 82), (I (x11.P))), ((.const (.int .i64 1)), (I (1)))], [], (I (w64 (x11.P - 1))), [], false⟩,
    ⟨[((.func 42), (.fn (.func 42) [] [])), ((.tmp 77), (.dat 5 ((x7 : List GRow).map c_GRow))), ((.tmp 83), (I (w64 (x11.P - 1))))], [], (.tup [(I (x21.1)), (I (x21.2))]), [], false⟩,
    ⟨[((.tmp 84), (.tup [(I (x21.1)), (I (x21.2))]))], [], (.tup [(I (x21.1)), (I (x21.2))]), [], false⟩,
    ⟨[((.tmp 76), (.tup [(I (x21.1)), (I (x21.2))]))], [], (I (x21.1)), [], false⟩,
    ⟨[((.tmp 76), (.tup [(I (x21.1)), (I (x21.2))]))], [], (I (x21.2)), [], false⟩,
    ⟨[((.tmp 85), (I (x21.1)))], [], (I (x21.1)), [], false⟩,
    ⟨[((.tmp 86), (I (x21.2)))], [], (I (x21.2)), [], false⟩] (by exact ⟨by kernel_rfl, by kernel_rfl⟩) ?_ ?_
      · exact ⟨fun _ => astep_move rfl,
    fun _ => astep_move rfl,
    fun _ => astep_move rfl,
    fun _ => astep_idxd rfl Try.underlying23 ti49 rfl rfl hi13 (map_get c_GRow hj14) rfl,
    fun _ => astep_faddrd rfl Try.underlying49 rfl rfl ti3 (by decide) rfl,
    fun _ => astep_loadd rfl ti3 (by decide) (Nat.le_of_ble_eq_true rfl) rfl,
    fun _ => astep_bin rfl rfl,
    fun _ => astep_pcall (first := []) (cap := []) (vs := [(.dat 5 ((x7 : List GRow).map c_GRow)), (I (w64 (x11.P - 1)))]) rfl enter42 (steam_AtX_ok N x7 (w64 (x11.P - 1)) _ hf20) rfl rfl (nl_cons (nl_dat nl_GRow _) (nl_cons (NLt.lit _) nl_nil)) (NLt.tup _ (nl_cons (NLt.lit _) (nl_cons (NLt.lit _) nl_nil))) rfl,
    fun _ => astep_move rfl,
    fun _ => astep_extract rfl rfl,
    fun _ => astep_extract rfl rfl,
    fun _ => astep_assign rfl,
    fun _ => astep_assign rfl, trivial⟩
      obtain ⟨k22, hk_k22, h⟩ := joinK_out h
      refine awp_join (τ := Unit) (fun t => k22 t = some r) (fun _ => ⟨mk 200 [(0, (.dat 5 ((p0 : List GRow).map c_GRow))), (2, (K .u16 (p2))), (3, (K .u16 (p3))), (9, (.dat 5 ((x7 : List GRow).map c_GRow)))], []⟩) (fun t h => ?_) ?_
      · subst hk_k22
        obtain ⟨x23, hg24, h⟩ := bind_out h
        obtain ⟨hi25, hj26⟩ := getI_some hg24
        obtain ⟨x27, hg28, h⟩ := bind_out h
        obtain ⟨hi29, hj30⟩ := getI_some hg28
        refine awp_regd [⟨[((.tmp 0), (.dat 5 ((p0 : List GRow).map c_GRow)))], [], (.dat 5 ((p0 : List GRow).map c_GRow)), [], false⟩,
    ⟨[((.tmp 111), (.dat 5 ((p0 : List GRow).map c_GRow))), ((.const (.int .i64 0)), (I (0)))], [], (.dptr (c_GRow (x23)) 0), [], false⟩,
    ⟨[((.tmp 112), (.dptr (c_GRow (x23)) 0))], [], (.dptr (c_GRow (x23)) 0), [], false⟩,
    ⟨[((.tmp 113), (.dptr (c_GRow (x23)) 0))], [], (I (x23.T)), [], false⟩,
    ⟨[((.tmp 0), (.dat 5 ((p0 : List GRow).map c_GRow)))], [], (.dat 5 ((p0 : List GRow).map c_GRow)), [], false⟩,
    ⟨[((.tmp 0), (.dat 5 ((p0 : List GRow).map c_GRow)))], [], (.dat 5 ((p0 : List GRow).map c_GRow)), [], false⟩,
    ⟨[((.tmp 116), (.dat 5 ((p0 : List GRow).map c_GRow)))], [], (I ((p0.length : Int))), [], false⟩,
    ⟨[((.tmp 117), (I ((p0.length : Int)))), ((.const (.int .i64 1)), (I (1)))], [], (I (w64 ((p0.length : Int) - 1))), [], false⟩,
    ⟨[((.tmp 115), (.dat 5 ((p0 : List GRow).map c_GRow))), ((.tmp 118), (I (w64 ((p0.length : Int) - 1))))], [], (.dptr (c_GRow (x27)) 0), [], false⟩,
    ⟨[((.tmp 119), (.dptr (c_GRow (x27)) 0))], [], (.dptr (c_GRow (x27)) 0), [], false⟩,
    ⟨[((.tmp 120), (.dptr (c_GRow (x27)) 0))], [], (I (x27.T)), [], false⟩,
    ⟨[((.tmp 114), (I (x23.T))), ((.tmp 121), (I (x27.T)))], [], (.agg [(I (x23.T)), (I (x27.T))]), [], false⟩,
    ⟨[], [(0, .unused)], (.ref 0 2 (0) 0), [(0, (.own 2 [[(I (0)), (I (0))]]))], false⟩,
    ⟨[((.tmp 17), (.ref 0 2 (0) 0)), ((.tmp 122), (.agg [(I (x23.T)), (I (x27.T))]))], [(0, (.own 2 [[(I (0)), (I (0))]]))], .any, [(0, (.own 2 [[(I (x23.T)), (I (x27.T))]]))], false⟩] (by kernel_rfl) (by exact ⟨by kernel_rfl, by kernel_rfl⟩) (by kernel_rfl) ?_ ?_
        · exact ⟨fun _ => astep_move rfl,
    fun _ => astep_idxd rfl Try.underlying23 ti49 rfl rfl hi25 (map_get c_GRow hj26) rfl,
    fun _ => astep_faddrd rfl Try.underlying49 rfl rfl ti3 (by decide) rfl,
    fun _ => astep_loadd rfl ti3 (by decide) (Nat.le_of_ble_eq_true rfl) rfl,
    fun _ => astep_move rfl,
    fun _ => astep_move rfl,
    fun _ => astep_lenm (c := c_GRow) (l := p0) (astep_len rfl Try.underlying23 rfl),
    fun _ => astep_bin rfl rfl,
    fun _ => astep_idxd rfl Try.underlying23 ti49 rfl rfl hi29 (map_get c_GRow hj30) rfl,
    fun _ => astep_faddrd rfl Try.underlying49 rfl rfl ti3 (by decide) rfl,
    fun _ => astep_loadd rfl ti3 (by decide) (Nat.le_of_ble_eq_true rfl) rfl,
    fun _ => astep_build (vs := [(I (x23.T)), (I (x27.T))]) rfl ts70 tz70 rfl (by rfl) rfl,
    fun _ => astep_alloc rfl tz70 rfl,
    fun _ => astep_store rfl ti70 (by rfl) rfl (Nat.le_of_ble_eq_true rfl) rfl, trivial⟩
        obtain ⟨x32, hf31, h⟩ := bind_out h
        obtain ⟨x34, hf33, h⟩ := bind_out h
        refine awp_regd [⟨[((.tmp 17), (.ref 0 2 (0) 0))], [(0, (.own 2 [[(I (x23.T)), (I (x27.T))]]))], (.agg [(I (x23.T)), (I (x27.T))]), [], false⟩,
    ⟨[((.tmp 2), (K .u16 (p2)))], [], (K .u16 (p2)), [], false⟩,
    ⟨[((.tmp 124), (K .u16 (p2)))], [], (K .u32 (IntKind.wrap .u32 p2)), [], false⟩,
    ⟨[((.func 40), (.fn (.func 40) [] [])), ((.tmp 123), (.agg [(I (x23.T)), (I (x27.T))])), ((.tmp 125), (K .u32 (IntKind.wrap .u32 p2)))], [], (I (x32)), [], false⟩,
    ⟨[((.tmp 17), (.ref 0 2 (0) 0))], [(0, (.own 2 [[(I (x23.T)), (I (x27.T))]]))], (.agg [(I (x23.T)), (I (x27.T))]), [], false⟩,
    ⟨[((.tmp 3), (K .u16 (p3)))], [], (K .u16 (p3)), [], false⟩,
    ⟨[((.tmp 128), (K .u16 (p3)))], [], (K .u32 (IntKind.wrap .u32 p3)), [], false⟩,
    ⟨[((.func 40), (.fn (.func 40) [] [])), ((.tmp 127), (.agg [(I (x23.T)), (I (x27.T))])), ((.tmp 129), (K .u32 (IntKind.wrap .u32 p3)))], [], (I (x34)), [], false⟩,
    ⟨[((.tmp 126), (I (x32)))], [], (I (x32)), [], false⟩,
    ⟨[((.tmp 130), (I (x34)))], [], (I (x34)), [], false⟩] (by kernel_rfl) (by exact ⟨by kernel_rfl, by kernel_rfl⟩) (by kernel_rfl) ?_ ?_
        · exact ⟨fun _ => astep_load rfl ti70 (by decide) rfl (Nat.le_of_ble_eq_true rfl) rfl,
    fun _ => astep_move rfl,
    fun _ => astep_conv rfl (by rw [Try.underlying81]; rfl) Try.underlying40,
    fun _ => astep_pcall (first := []) (cap := []) (vs := [(.agg [(I (x23.T)), (I (x27.T))]), (K .u32 (IntKind.wrap .u32 p2))]) rfl enter40 (law01_pickX_ok N (⟨x23.T, x27.T⟩ : GRange) (IntKind.wrap .u32 p2) _ hf31) rfl rfl (nl_cons (NLt.agg _ (nl_cons (NLt.lit _) (nl_cons (NLt.lit _) nl_nil))) (nl_cons (NLt.lit _) nl_nil)) (NLt.lit _) rfl,
    fun _ => astep_load rfl ti70 (by decide) rfl (Nat.le_of_ble_eq_true rfl) rfl,
    fun _ => astep_move rfl,
    fun _ => astep_conv rfl (by rw [Try.underlying81]; rfl) Try.underlying40,
    fun _ => astep_pcall (first := []) (cap := []) (vs := [(.agg [(I (x23.T)), (I (x27.T))]), (K .u32 (IntKind.wrap .u32 p3))]) rfl enter40 (law01_pickX_ok N (⟨x23.T, x27.T⟩ : GRange) (IntKind.wrap .u32 p3) _ hf33) rfl rfl (nl_cons (NLt.agg _ (nl_cons (NLt.lit _) (nl_cons (NLt.lit _) nl_nil))) (nl_cons (NLt.lit _) nl_nil)) (NLt.lit _) rfl,
    fun _ => astep_assign rfl,
    fun _ => astep_assign rfl, trivial⟩
        obtain ⟨x36, hf35, h⟩ := bind_out h
        refine awp_reg [⟨[((.tmp 9), (.dat 5 ((x7 : List GRow).map c_GRow)))], [], (.dat 5 ((x7 : List GRow).map c_GRow)), [], false⟩,
    ⟨[((.tmp 18), (I (x32)))], [], (I (x32)), [], false⟩,
    ⟨[((.tmp 19), (I (x34)))], [], (I (x34)), [], false⟩,
    ⟨[((.tmp 133), (I (x32))), ((.tmp 134), (I (x34)))], [], (I ((if x34 < x32 then x34 else x32))), [], false⟩,
    ⟨[((.func 41), (.fn (.func 41) [] [])), ((.tmp 132), (.dat 5 ((x7 : List GRow).map c_GRow))), ((.tmp 135), (I ((if x34 < x32 then x34 else x32))))], [], (.tup [(.agg [(I (x36.1.N)), (I (x36.1.D))]), (I (x36.2))]), [], false⟩,
    ⟨[((.tmp 136), (.tup [(.agg [(I (x36.1.N)), (I (x36.1.D))]), (I (x36.2))]))], [], (.tup [(.agg [(I (x36.1.N)), (I (x36.1.D))]), (I (x36.2))]), [], false⟩,
    ⟨[((.tmp 131), (.tup [(.agg [(I (x36.1.N)), (I (x36.1.D))]), (I (x36.2))]))], [], (.agg [(I (x36.1.N)), (I (x36.1.D))]), [], false⟩,
    ⟨[((.tmp 131), (.tup [(.agg [(I (x36.1.N)), (I (x36.1.D))]), (I (x36.2))]))], [], (I (x36.2)), [], false⟩,
    ⟨[], [(1, .unused)], (.ref 1 2 (0) 0), [(1, (.own 2 [[(I (0)), (I (0))]]))], false⟩,
    ⟨[((.tmp 20), (.ref 1 2 (0) 0)), ((.tmp 137), (.agg [(I (x36.1.N)), (I (x36.1.D))]))], [(1, (.own 2 [[(I (0)), (I (0))]]))], .any, [(1, (.own 2 [[(I (x36.1.N)), (I (x36.1.D))]]))], false⟩,
    ⟨[((.tmp 138), (I (x36.2)))], [], (I (x36.2)), [], false⟩] (by exact ⟨by kernel_rfl, by kernel_rfl⟩) ?_ ?_
        · exact ⟨fun _ => astep_move rfl,
    fun _ => astep_move rfl,
    fun _ => astep_move rfl,
    fun _ => astep_min rfl,
    fun _ => astep_pcall (first := []) (cap := []) (vs := [(.dat 5 ((x7 : List GRow).map c_GRow)), (I ((if x34 < x32 then x34 else x32)))]) rfl enter41 (steam_SaturationX_ok N x7 (if x34 < x32 then x34 else x32) _ hf35) rfl rfl (nl_cons (nl_dat nl_GRow _) (nl_cons (NLt.lit _) nl_nil)) (NLt.tup _ (nl_cons (NLt.agg _ (nl_cons (NLt.lit _) (nl_cons (NLt.lit _) nl_nil))) (nl_cons (NLt.lit _) nl_nil))) rfl,
    fun _ => astep_move rfl,
    fun _ => astep_extract rfl rfl,
    fun _ => astep_extract rfl rfl,
    fun _ => astep_alloc rfl tz83 rfl,
    fun _ => astep_store rfl ti83 (by rfl) rfl (Nat.le_of_ble_eq_true rfl) rfl,
    fun _ => astep_assign rfl, trivial⟩
        obtain ⟨x38, hf37, h⟩ := bind_out h
        refine awp_reg [⟨[((.tmp 9), (.dat 5 ((x7 : List GRow).map c_GRow)))], [], (.dat 5 ((x7 : List GRow).map c_GRow)), [], false⟩,
    ⟨[((.tmp 18), (I (x32)))], [], (I (x32)), [], false⟩,
    ⟨[((.tmp 19), (I (x34)))], [], (I (x34)), [], false⟩,
    ⟨[((.tmp 141), (I (x32))), ((.tmp 142), (I (x34)))], [], (I ((if x34 > x32 then x34 else x32))), [], false⟩,
    ⟨[((.func 41), (.fn (.func 41) [] [])), ((.tmp 140), (.dat 5 ((x7 : List GRow).map c_GRow))), ((.tmp 143), (I ((if x34 > x32 then x34 else x32))))], [], (.tup [(.agg [(I (x38.1.N)), (I (x38.1.D))]), (I (x38.2))]), [], false⟩,
    ⟨[((.tmp 144), (.tup [(.agg [(I (x38.1.N)), (I (x38.1.D))]), (I (x38.2))]))], [], (.tup [(.agg [(I (x38.1.N)), (I (x38.1.D))]), (I (x38.2))]), [], false⟩,
    ⟨[((.tmp 139), (.tup [(.agg [(I (x38.1.N)), (I (x38.1.D))]), (I (x38.2))]))], [], (.agg [(I (x38.1.N)), (I (x38.1.D))]), [], false⟩,
    ⟨[((.tmp 139), (.tup [(.agg [(I (x38.1.N)), (I (x38.1.D))]), (I (x38.2))]))], [], (I (x38.2)), [], false⟩,
    ⟨[], [(2, .unused)], (.ref 2 2 (0) 0), [(2, (.own 2 [[(I (0)), (I (0))]]))], false⟩,
    ⟨[((.tmp 22), (.ref 2 2 (0) 0)), ((.tmp 145), (.agg [(I (x38.1.N)), (I (x38.1.D))]))], [(2, (.own 2 [[(I (0)), (I (0))]]))], .any, [(2, (.own 2 [[(I (x38.1.N)), (I (x38.1.D))]]))], false⟩,
    ⟨[((.tmp 146), (I (x38.2)))], [], (I (x38.2)), [], false⟩] (by exact ⟨by kernel_rfl, by kernel_rfl⟩) ?_ ?_
        · exact ⟨fun _ => astep_move rfl,
    fun _ => astep_move rfl,
    fun _ => astep_move rfl,
    fun _ => astep_max rfl,
    fun _ => astep_pcall (first := []) (cap := []) (vs := [(.dat 5 ((x7 : List GRow).map c_GRow)), (I ((if x34 > x32 then x34 else x32)))]) rfl enter41 (steam_SaturationX_ok N x7 (if x34 > x32 then x34 else x32) _ hf37) rfl rfl (nl_cons (nl_dat nl_GRow _) (nl_cons (NLt.lit _) nl_nil)) (NLt.tup _ (nl_cons (NLt.agg _ (nl_cons (NLt.lit _) (nl_cons (NLt.lit _) nl_nil))) (nl_cons (NLt.lit _) nl_nil))) rfl,
    fun _ => astep_move rfl,
    fun _ => astep_extract rfl rfl,
    fun _ => astep_extract rfl rfl,
    fun _ => astep_alloc rfl tz83 rfl,
    fun _ => astep_store rfl ti83 (by rfl) rfl (Nat.le_of_ble_eq_true rfl) rfl,
    fun _ => astep_assign rfl, trivial⟩
        obtain ⟨k39, hk_k39, h⟩ := joinK_out h
        refine awp_join (τ := Unit) (fun t => k39 t = some r) (fun _ => ⟨mk 200 [(18, (I (x32))), (19, (I (x34))), (20, (.ref 0 2 (0) 0)), (22, (.ref 1 2 (0) 0))], [(.own 2 [[(I (x36.1.N)), (I (x36.1.D))]]), (.own 2 [[(I (x38.1.N)), (I (x38.1.D))]])]⟩) (fun t h => ?_) ?_
        · subst hk_k39
          rcases Bool.eq_false_or_eq_true ((x32 == x34)) with hb40 | hb40
          · replace h := bif_t hb40 h
            rcases Bool.eq_false_or_eq_true ((([x36.1.N, x36.1.D] : List Int) == [x38.1.N, x38.1.D])) with hb41 | hb41
            · replace h := bif_t hb41 h
              obtain ⟨x43, hf42, h⟩ := bind_out h
              refine awp_reg [⟨[((.tmp 18), (I (x32)))], [], (I (x32)), [], false⟩,
    ⟨[((.tmp 19), (I (x34)))], [], (I (x34)), [], false⟩,
    ⟨[((.tmp 171), (I (x32))), ((.tmp 172), (I (x34)))], [], (B ((x32 == x34))), [], false⟩,
    ⟨[((.tmp 173), (B ((x32 == x34))))], [], (B (true)), [], false⟩,
    ⟨[((.tmp 174), (B (true))), ((.tmp 20), (.ref 0 2 (0) 0))], [(0, (.own 2 [[(I (x36.1.N)), (I (x36.1.D))]]))], (.agg [(I (x36.1.N)), (I (x36.1.D))]), [], false⟩,
    ⟨[((.tmp 174), (B (true))), ((.tmp 22), (.ref 1 2 (0) 0))], [(1, (.own 2 [[(I (x38.1.N)), (I (x38.1.D))]]))], (.agg [(I (x38.1.N)), (I (x38.1.D))]), [], false⟩,
    ⟨[((.tmp 174), (B (true))), ((.tmp 175), (.agg [(I (x36.1.N)), (I (x36.1.D))])), ((.tmp 176), (.agg [(I (x38.1.N)), (I (x38.1.D))]))], [], (B ((([x36.1.N, x36.1.D] : List Int) == [x38.1.N, x38.1.D]))), [], false⟩,
    ⟨[((.tmp 174), (B (true))), ((.tmp 177), (B ((([x36.1.N, x36.1.D] : List Int) == [x38.1.N, x38.1.D])))), ((.const (.bool false)), (B (false)))], [], (B ((([x36.1.N, x36.1.D] : List Int) == [x38.1.N, x38.1.D]))), [], false⟩,
    ⟨[((.tmp 178), (B ((([x36.1.N, x36.1.D] : List Int) == [x38.1.N, x38.1.D]))))], [], (B (true)), [], false⟩,
    ⟨[((.tmp 179), (B (true)))], [], (.lit undef), [], true⟩,
    ⟨[((.tmp 179), (B (true)))], [], (.lit undef), [], true⟩,
    ⟨[((.tmp 179), (B (true)))], [], (.lit undef), [], true⟩,
    ⟨[((.tmp 179), (B (true)))], [], (.lit undef), [], true⟩,
    ⟨[((.tmp 183), (.lit undef))], [], (.lit undef), [], true⟩,
    ⟨[((.tmp 183), (.lit undef))], [], (.lit undef), [], true⟩,
    ⟨[((.tmp 183), (.lit undef))], [], (.lit undef), [], true⟩,
    ⟨[((.tmp 183), (.lit undef))], [], (.lit undef), [], true⟩,
    ⟨[((.tmp 183), (.lit undef))], [], (.lit undef), [], true⟩,
    ⟨[((.tmp 183), (.lit undef))], [], (.lit undef), [], true⟩,
    ⟨[((.tmp 183), (.lit undef))], [], (.lit undef), [], true⟩,
    ⟨[((.tmp 183), (.lit undef))], [], (.lit undef), [], true⟩,
    ⟨[((.tmp 183), (.lit undef))], [], (.lit undef), [], true⟩,
    ⟨[((.tmp 183), (.lit undef))], [], (.lit undef), [], true⟩,
    ⟨[((.tmp 183), (.lit undef))], [], (.lit undef), [], true⟩,
    ⟨[((.tmp 179), (B (true)))], [], (.lit undef), [], true⟩,
    ⟨[((.tmp 179), (B (true))), ((.const (.bool true)), (B (true))), ((.tmp 195), (.lit undef))], [], (B (true)), [], false⟩,
    ⟨[((.tmp 196), (B (true)))], [], (B (true)), [], false⟩,
    ⟨[((.tmp 197), (B (true))), ((.func 17), (.fn (.func 17) [] []))], [], (B (x43)), [], false⟩,
    ⟨[((.tmp 197), (B (true))), ((.tmp 198), (B (x43))), ((.const (.bool false)), (B (false)))], [], (B (x43)), [], false⟩,
    ⟨[((.tmp 199), (B (x43)))], [], (B (x43)), [], false⟩] (by exact ⟨by kernel_rfl, by kernel_rfl⟩) ?_ ?_
              · exact ⟨fun _ => astep_move rfl,
    fun _ => astep_move rfl,
    fun _ => astep_bin rfl rfl,
    fun _ => astep_b hb40 (astep_move rfl),
    fun _ => astep_guard (astep_load rfl ti83 (by decide) rfl (Nat.le_of_ble_eq_true rfl) rfl),
    fun _ => astep_guard (astep_load rfl ti83 (by decide) rfl (Nat.le_of_ble_eq_true rfl) rfl),
    fun _ => astep_guard (astep_eqs (ls := [x36.1.N, x36.1.D]) (ks := [x38.1.N, x38.1.D]) rfl rfl eqt83 (by kernel_rfl) rfl rfl),
    fun _ => astep_pick rfl rfl,
    fun _ => astep_b hb41 (astep_move rfl),
    fun hs => (Bool.noConfusion hs),
    fun hs => (Bool.noConfusion hs),
    fun hs => (Bool.noConfusion hs),
    fun hs => (Bool.noConfusion hs),
    fun hs => (Bool.noConfusion hs),
    fun hs => (Bool.noConfusion hs),
    fun hs => (Bool.noConfusion hs),
    fun hs => (Bool.noConfusion hs),
    fun hs => (Bool.noConfusion hs),
    fun hs => (Bool.noConfusion hs),
    fun hs => (Bool.noConfusion hs),
    fun hs => (Bool.noConfusion hs),
    fun hs => (Bool.noConfusion hs),
    fun hs => (Bool.noConfusion hs),
    fun hs => (Bool.noConfusion hs),
    fun hs => (Bool.noConfusion hs),
    fun _ => astep_pick rfl rfl,
    fun _ => astep_move rfl,
    fun _ => astep_guard (astep_pcall (first := []) (cap := []) (vs := []) rfl enter17 (law01_awakeX_ok N  _ hf42) rfl rfl nl_nil (NLt.lit _) rfl),
    fun _ => astep_pick rfl rfl,
    fun _ => astep_assign rfl, trivial⟩
              refine awp_ret ?_
              obtain rfl := Option.some.inj h
              exact ⟨⟨[(B (x43))], ⟨resOK_tmp (by kernel_rfl), trivial⟩, rfl⟩, (NLt.lit _), Nat.le_refl _, fun n hn => absurd hn (Nat.not_lt_zero n)⟩
            · replace h := bif_f hb41 h
              rcases Bool.eq_false_or_eq_true ((x32 != x34)) with hb44 | hb44
              · replace h := bif_t hb44 h
                rcases Bool.eq_false_or_eq_true ((decide ((w64 (x36.1.N * x38.1.D)) < (w64 (x38.1.N * x36.1.D))))) with hb45 | hb45
                · replace h := bif_t hb45 h
                  obtain ⟨x47, hf46, h⟩ := bind_out h
                  refine awp_reg [⟨[((.tmp 18), (I (x32)))], [], (I (x32)), [], false⟩,
    ⟨[((.tmp 19), (I (x34)))], [], (I (x34)), [], false⟩,
    ⟨[((.tmp 171), (I (x32))), ((.tmp 172), (I (x34)))], [], (B ((x32 == x34))), [], false⟩,
    ⟨[((.tmp 173), (B ((x32 == x34))))], [], (B (true)), [], false⟩,
    ⟨[((.tmp 174), (B (true))), ((.tmp 20), (.ref 0 2 (0) 0))], [(0, (.own 2 [[(I (x36.1.N)), (I (x36.1.D))]]))], (.agg [(I (x36.1.N)), (I (x36.1.D))]), [], false⟩,
    ⟨[((.tmp 174), (B (true))), ((.tmp 22), (.ref 1 2 (0) 0))], [(1, (.own 2 [[(I (x38.1.N)), (I (x38.1.D))]]))], (.agg [(I (x38.1.N)), (I (x38.1.D))]), [], false⟩,
    ⟨[((.tmp 174), (B (true))), ((.tmp 175), (.agg [(I (x36.1.N)), (I (x36.1.D))])), ((.tmp 176), (.agg [(I (x38.1.N)), (I (x38.1.D))]))], [], (B ((([x36.1.N, x36.1.D] : List Int) == [x38.1.N, x38.1.D]))), [], false⟩,
    ⟨[((.tmp 174), (B (true))), ((.tmp 177), (B ((([x36.1.N, x36.1.D] : List Int) == [x38.1.N, x38.1.D])))), ((.const (.bool false)), (B (false)))], [], (B ((([x36.1.N, x36.1.D] : List Int) == [x38.1.N, x38.1.D]))), [], false⟩,
    ⟨[((.tmp 178), (B ((([x36.1.N, x36.1.D] : List Int) == [x38.1.N, x38.1.D]))))], [], (B (false)), [], false⟩,
    ⟨[((.tmp 179), (B (false))), ((.tmp 18), (I (x32)))], [], (I (x32)), [], false⟩,
    ⟨[((.tmp 179), (B (false))), ((.tmp 19), (I (x34)))], [], (I (x34)), [], false⟩,
    ⟨[((.tmp 179), (B (false))), ((.tmp 180), (I (x32))), ((.tmp 181), (I (x34)))], [], (B ((x32 != x34))), [], false⟩,
    ⟨[((.tmp 179), (B (false))), ((.tmp 182), (B ((x32 != x34))))], [], (B (true)), [], false⟩,
    ⟨[((.tmp 183), (B (true))), ((.tmp 20), (.ref 0 2 (0) 0))], [(0, (.own 2 [[(I (x36.1.N)), (I (x36.1.D))]]))], (.ref 0 2 (0) 0), [], false⟩,
    ⟨[((.tmp 183), (B (true))), ((.tmp 184), (.ref 0 2 (0) 0))], [(0, (.own 2 [[(I (x36.1.N)), (I (x36.1.D))]]))], (I (x36.1.N)), [], false⟩,
    ⟨[((.tmp 183), (B (true))), ((.tmp 22), (.ref 1 2 (0) 0))], [(1, (.own 2 [[(I (x38.1.N)), (I (x38.1.D))]]))], (.ref 1 2 (0) 1), [], false⟩,
    ⟨[((.tmp 183), (B (true))), ((.tmp 186), (.ref 1 2 (0) 1))], [(1, (.own 2 [[(I (x38.1.N)), (I (x38.1.D))]]))], (I (x38.1.D)), [], false⟩,
    ⟨[((.tmp 183), (B (true))), ((.tmp 185), (I (x36.1.N))), ((.tmp 187), (I (x38.1.D)))], [], (I (w64 (x36.1.N * x38.1.D))), [], false⟩,
    ⟨[((.tmp 183), (B (true))), ((.tmp 22), (.ref 1 2 (0) 0))], [(1, (.own 2 [[(I (x38.1.N)), (I (x38.1.D))]]))], (.ref 1 2 (0) 0), [], false⟩,
    ⟨[((.tmp 183), (B (true))), ((.tmp 189), (.ref 1 2 (0) 0))], [(1, (.own 2 [[(I (x38.1.N)), (I (x38.1.D))]]))], (I (x38.1.N)), [], false⟩,
    ⟨[((.tmp 183), (B (true))), ((.tmp 20), (.ref 0 2 (0) 0))], [(0, (.own 2 [[(I (x36.1.N)), (I (x36.1.D))]]))], (.ref 0 2 (0) 1), [], false⟩,
    ⟨[((.tmp 183), (B (true))), ((.tmp 191), (.ref 0 2 (0) 1))], [(0, (.own 2 [[(I (x36.1.N)), (I (x36.1.D))]]))], (I (x36.1.D)), [], false⟩,
    ⟨[((.tmp 183), (B (true))), ((.tmp 190), (I (x38.1.N))), ((.tmp 192), (I (x36.1.D)))], [], (I (w64 (x38.1.N * x36.1.D))), [], false⟩,
    ⟨[((.tmp 183), (B (true))), ((.tmp 188), (I (w64 (x36.1.N * x38.1.D)))), ((.tmp 193), (I (w64 (x38.1.N * x36.1.D))))], [], (B ((decide ((w64 (x36.1.N * x38.1.D)) < (w64 (x38.1.N * x36.1.D)))))), [], false⟩,
    ⟨[((.tmp 179), (B (false))), ((.tmp 183), (B (true))), ((.tmp 194), (B ((decide ((w64 (x36.1.N * x38.1.D)) < (w64 (x38.1.N * x36.1.D))))))), ((.const (.bool false)), (B (false)))], [], (B ((decide ((w64 (x36.1.N * x38.1.D)) < (w64 (x38.1.N * x36.1.D)))))), [], false⟩,
    ⟨[((.tmp 179), (B (false))), ((.const (.bool true)), (B (true))), ((.tmp 195), (B ((decide ((w64 (x36.1.N * x38.1.D)) < (w64 (x38.1.N * x36.1.D)))))))], [], (B ((decide ((w64 (x36.1.N * x38.1.D)) < (w64 (x38.1.N * x36.1.D)))))), [], false⟩,
    ⟨[((.tmp 196), (B ((decide ((w64 (x36.1.N * x38.1.D)) < (w64 (x38.1.N * x36.1.D)))))))], [], (B (true)), [], false⟩,
    ⟨[((.tmp 197), (B (true))), ((.func 17), (.fn (.func 17) [] []))], [], (B (x47)), [], false⟩,
    ⟨[((.tmp 197), (B (true))), ((.tmp 198), (B (x47))), ((.const (.bool false)), (B (false)))], [], (B (x47)), [], false⟩,
    ⟨[((.tmp 199), (B (x47)))], [], (B (x47)), [], false⟩] (by exact ⟨by kernel_rfl, by kernel_rfl⟩) ?_ ?_
                  · exact ⟨fun _ => astep_move rfl,
    fun _ => astep_move rfl,
    fun _ => astep_bin rfl rfl,
    fun _ => astep_b hb40 (astep_move rfl),
    fun _ => astep_guard (astep_load rfl ti83 (by decide) rfl (Nat.le_of_ble_eq_true rfl) rfl),
    fun _ => astep_guard (astep_load rfl ti83 (by decide) rfl (Nat.le_of_ble_eq_true rfl) rfl),
    fun _ => astep_guard (astep_eqs (ls := [x36.1.N, x36.1.D]) (ks := [x38.1.N, x38.1.D]) rfl rfl eqt83 (by kernel_rfl) rfl rfl),
    fun _ => astep_pick rfl rfl,
    fun _ => astep_b hb41 (astep_move rfl),
    fun _ => astep_guard (astep_move rfl),
    fun _ => astep_guard (astep_move rfl),
    fun _ => astep_guard (astep_bin rfl rfl),
    fun _ => astep_b hb44 (astep_guard (astep_move rfl)),
    fun _ => astep_guard (astep_faddr rfl Try.underlying83 rfl rfl ti3 (by decide) rfl),
    fun _ => astep_guard (astep_load rfl ti3 (by decide) rfl (Nat.le_of_ble_eq_true rfl) rfl),
    fun _ => astep_guard (astep_faddr rfl Try.underlying83 rfl rfl ti3 (by decide) rfl),
    fun _ => astep_guard (astep_load rfl ti3 (by decide) rfl (Nat.le_of_ble_eq_true rfl) rfl),
    fun _ => astep_guard (astep_bin rfl rfl),
    fun _ => astep_guard (astep_faddr rfl Try.underlying83 rfl rfl ti3 (by decide) rfl),
    fun _ => astep_guard (astep_load rfl ti3 (by decide) rfl (Nat.le_of_ble_eq_true rfl) rfl),
    fun _ => astep_guard (astep_faddr rfl Try.underlying83 rfl rfl ti3 (by decide) rfl),
    fun _ => astep_guard (astep_load rfl ti3 (by decide) rfl (Nat.le_of_ble_eq_true rfl) rfl),
    fun _ => astep_guard (astep_bin rfl rfl),
    fun _ => astep_guard (astep_bin rfl rfl),
    fun _ => astep_guard (astep_pick rfl rfl),
    fun _ => astep_pick rfl rfl,
    fun _ => astep_b hb45 (astep_move rfl),
    fun _ => astep_guard (astep_pcall (first := []) (cap := []) (vs := []) rfl enter17 (law01_awakeX_ok N  _ hf46) rfl rfl nl_nil (NLt.lit _) rfl),
    fun _ => astep_pick rfl rfl,
    fun _ => astep_assign rfl, trivial⟩
                  refine awp_ret ?_
                  obtain rfl := Option.some.inj h
                  exact ⟨⟨[(B (x47))], ⟨resOK_tmp (by kernel_rfl), trivial⟩, rfl⟩, (NLt.lit _), Nat.le_refl _, fun n hn => absurd hn (Nat.not_lt_zero n)⟩
                · replace h := bif_f hb45 h
                  refine awp_reg [⟨[((.tmp 18), (I (x32)))], [], (I (x32)), [], false⟩,
    ⟨[((.tmp 19), (I (x34)))], [], (I (x34)), [], false⟩,
    ⟨[((.tmp 171), (I (x32))), ((.tmp 172), (I (x34)))], [], (B ((x32 == x34))), [], false⟩,
    ⟨[((.tmp 173), (B ((x32 == x34))))], [], (B (true)), [], false⟩,
    ⟨[((.tmp 174), (B (true))), ((.tmp 20), (.ref 0 2 (0) 0))], [(0, (.own 2 [[(I (x36.1.N)), (I (x36.1.D))]]))], (.agg [(I (x36.1.N)), (I (x36.1.D))]), [], false⟩,
    ⟨[((.tmp 174), (B (true))), ((.tmp 22), (.ref 1 2 (0) 0))], [(1, (.own 2 [[(I (x38.1.N)), (I (x38.1.D))]]))], (.agg [(I (x38.1.N)), (I (x38.1.D))]), [], false⟩,
    ⟨[((.tmp 174), (B (true))), ((.tmp 175), (.agg [(I (x36.1.N)), (I (x36.1.D))])), ((.tmp 176), (.agg [(I (x38.1.N)), (I (x38.1.D))]))], [], (B ((([x36.1.N, x36.1.D] : List Int) == [x38.1.N, x38.1.D]))), [], false⟩,
    ⟨[((.tmp 174), (B (true))), ((.tmp 177), (B ((([x36.1.N, x36.1.D] : List Int) == [x38.1.N, x38.1.D])))), ((.const (.bool false)), (B (false)))], [], (B ((([x36.1.N, x36.1.D] : List Int) == [x38.1.N, x38.1.D]))), [], false⟩,
    ⟨[((.tmp 178), (B ((([x36.1.N, x36.1.D] : List Int) == [x38.1.N, x38.1.D]))))], [], (B (false)), [], false⟩,
    ⟨[((.tmp 179), (B (false))), ((.tmp 18), (I (x32)))], [], (I (x32)), [], false⟩,
    ⟨[((.tmp 179), (B (false))), ((.tmp 19), (I (x34)))], [], (I (x34)), [], false⟩,
    ⟨[((.tmp 179), (B (false))), ((.tmp 180), (I (x32))), ((.tmp 181), (I (x34)))], [], (B ((x32 != x34))), [], false⟩,
    ⟨[((.tmp 179), (B (false))), ((.tmp 182), (B ((x32 != x34))))], [], (B (true)), [], false⟩,
    ⟨[((.tmp 183), (B (true))), ((.tmp 20), (.ref 0 2 (0) 0))], [(0, (.own 2 [[(I (x36.1.N)), (I (x36.1.D))]]))], (.ref 0 2 (0) 0), [], false⟩,
    ⟨[((.tmp 183), (B (true))), ((.tmp 184), (.ref 0 2 (0) 0))], [(0, (.own 2 [[(I (x36.1.N)), (I (x36.1.D))]]))], (I (x36.1.N)), [], false⟩,
    ⟨[((.tmp 183), (B (true))), ((.tmp 22), (.ref 1 2 (0) 0))], [(1, (.own 2 [[(I (x38.1.N)), (I (x38.1.D))]]))], (.ref 1 2 (0) 1), [], false⟩,
    ⟨[((.tmp 183), (B (true))), ((.tmp 186), (.ref 1 2 (0) 1))], [(1, (.own 2 [[(I (x38.1.N)), (I (x38.1.D))]]))], (I (x38.1.D)), [], false⟩,
    ⟨[((.tmp 183), (B (true))), ((.tmp 185), (I (x36.1.N))), ((.tmp 187), (I (x38.1.D)))], [], (I (w64 (x36.1.N * x38.1.D))), [], false⟩,
    ⟨[((.tmp 183), (B (true))), ((.tmp 22), (.ref 1 2 (0) 0))], [(1, (.own 2 [[(I (x38.1.N)), (I (x38.1.D))]]))], (.ref 1 2 (0) 0), [], false⟩,
    ⟨[((.tmp 183), (B (true))), ((.tmp 189), (.ref 1 2 (0) 0))], [(1, (.own 2 [[(I (x38.1.N)), (I (x38.1.D))]]))], (I (x38.1.N)), [], false⟩,
    ⟨[((.tmp 183), (B (true))), ((.tmp 20), (.ref 0 2 (0) 0))], [(0, (.own 2 [[(I (x36.1.N)), (I (x36.1.D))]]))], (.ref 0 2 (0) 1), [], false⟩,
    ⟨[((.tmp 183), (B (true))), ((.tmp 191), (.ref 0 2 (0) 1))], [(0, (.own 2 [[(I (x36.1.N)), (I (x36.1.D))]]))], (I (x36.1.D)), [], false⟩,
    ⟨[((.tmp 183), (B (true))), ((.tmp 190), (I (x38.1.N))), ((.tmp 192), (I (x36.1.D)))], [], (I (w64 (x38.1.N * x36.1.D))), [], false⟩,
    ⟨[((.tmp 183), (B (true))), ((.tmp 188), (I (w64 (x36.1.N * x38.1.D)))), ((.tmp 193), (I (w64 (x38.1.N * x36.1.D))))], [], (B ((decide ((w64 (x36.1.N * x38.1.D)) < (w64 (x38.1.N * x36.1.D)))))), [], false⟩,
    ⟨[((.tmp 179), (B (false))), ((.tmp 183), (B (true))), ((.tmp 194), (B ((decide ((w64 (x36.1.N * x38.1.D)) < (w64 (x38.1.N * x36.1.D))))))), ((.const (.bool false)), (B (false)))], [], (B ((decide ((w64 (x36.1.N * x38.1.D)) < (w64 (x38.1.N * x36.1.D)))))), [], false⟩,
    ⟨[((.tmp 179), (B (false))), ((.const (.bool true)), (B (true))), ((.tmp 195), (B ((decide ((w64 (x36.1.N * x38.1.D)) < (w64 (x38.1.N * x36.1.D)))))))], [], (B ((decide ((w64 (x36.1.N * x38.1.D)) < (w64 (x38.1.N * x36.1.D)))))), [], false⟩,
    ⟨[((.tmp 196), (B ((decide ((w64 (x36.1.N * x38.1.D)) < (w64 (x38.1.N * x36.1.D)))))))], [], (B (false)), [], false⟩,
    ⟨[((.tmp 197), (B (false)))], [], (.lit undef), [], true⟩,
    ⟨[((.tmp 197), (B (false))), ((.tmp 198), (.lit undef)), ((.const (.bool false)), (B (false)))], [], (B (false)), [], false⟩,
    ⟨[((.tmp 199), (B (false)))], [], (B (false)), [], false⟩] (by exact ⟨by kernel_rfl, by kernel_rfl⟩) ?_ ?_
                  · exact ⟨fun _ => astep_move rfl,
    fun _ => astep_move rfl,
    fun _ => astep_bin rfl rfl,
    fun _ => astep_b hb40 (astep_move rfl),
    fun _ => astep_guard (astep_load rfl ti83 (by decide) rfl (Nat.le_of_ble_eq_true rfl) rfl),
    fun _ => astep_guard (astep_load rfl ti83 (by decide) rfl (Nat.le_of_ble_eq_true rfl) rfl),
    fun _ => astep_guard (astep_eqs (ls := [x36.1.N, x36.1.D]) (ks := [x38.1.N, x38.1.D]) rfl rfl eqt83 (by kernel_rfl) rfl rfl),
    fun _ => astep_pick rfl rfl,
    fun _ => astep_b hb41 (astep_move rfl),
    fun _ => astep_guard (astep_move rfl),
    fun _ => astep_guard (astep_move rfl),
    fun _ => astep_guard (astep_bin rfl rfl),
    fun _ => astep_b hb44 (astep_guard (astep_move rfl)),
    fun _ => astep_guard (astep_faddr rfl Try.underlying83 rfl rfl ti3 (by decide) rfl),
    fun _ => astep_guard (astep_load rfl ti3 (by decide) rfl (Nat.le_of_ble_eq_true rfl) rfl),
    fun _ => astep_guard (astep_faddr rfl Try.underlying83 rfl rfl ti3 (by decide) rfl),
    fun _ => astep_guard (astep_load rfl ti3 (by decide) rfl (Nat.le_of_ble_eq_true rfl) rfl),
    fun _ => astep_guard (astep_bin rfl rfl),
    fun _ => astep_guard (astep_faddr rfl Try.underlying83 rfl rfl ti3 (by decide) rfl),
    fun _ => astep_guard (astep_load rfl ti3 (by decide) rfl (Nat.le_of_ble_eq_true rfl) rfl),
    fun _ => astep_guard (astep_faddr rfl Try.underlying83 rfl rfl ti3 (by decide) rfl),
    fun _ => astep_guard (astep_load rfl ti3 (by decide) rfl (Nat.le_of_ble_eq_true rfl) rfl),
    fun _ => astep_guard (astep_bin rfl rfl),
    fun _ => astep_guard (astep_bin rfl rfl),
    fun _ => astep_guard (astep_pick rfl rfl),
    fun _ => astep_pick rfl rfl,
    fun _ => astep_b hb45 (astep_move rfl),
    fun hs => (Bool.noConfusion hs),
    fun _ => astep_pick rfl rfl,
    fun _ => astep_assign rfl, trivial⟩
                  refine awp_ret ?_
                  obtain rfl := Option.some.inj h
                  exact ⟨⟨[(B (false))], ⟨resOK_tmp (by kernel_rfl), trivial⟩, rfl⟩, (NLt.lit _), Nat.le_refl _, fun n hn => absurd hn (Nat.not_lt_zero n)⟩
              · replace h := bif_f hb44 h
                refine awp_reg [⟨[((.tmp 18), (I (x32)))], [], (I (x32)), [], false⟩,
    ⟨[((.tmp 19), (I (x34)))], [], (I (x34)), [], false⟩,
    ⟨[((.tmp 171), (I (x32))), ((.tmp 172), (I (x34)))], [], (B ((x32 == x34))), [], false⟩,
    ⟨[((.tmp 173), (B ((x32 == x34))))], [], (B (true)), [], false⟩,
    ⟨[((.tmp 174), (B (true))), ((.tmp 20), (.ref 0 2 (0) 0))], [(0, (.own 2 [[(I (x36.1.N)), (I (x36.1.D))]]))], (.agg [(I (x36.1.N)), (I (x36.1.D))]), [], false⟩,
    ⟨[((.tmp 174), (B (true))), ((.tmp 22), (.ref 1 2 (0) 0))], [(1, (.own 2 [[(I (x38.1.N)), (I (x38.1.D))]]))], (.agg [(I (x38.1.N)), (I (x38.1.D))]), [], false⟩,
    ⟨[((.tmp 174), (B (true))), ((.tmp 175), (.agg [(I (x36.1.N)), (I (x36.1.D))])), ((.tmp 176), (.agg [(I (x38.1.N)), (I (x38.1.D))]))], [], (B ((([x36.1.N, x36.1.D] : List Int) == [x38.1.N, x38.1.D]))), [], false⟩,
    ⟨[((.tmp 174), (B (true))), ((.tmp 177), (B ((([x36.1.N, x36.1.D] : List Int) == [x38.1.N, x38.1.D])))), ((.const (.bool false)), (B (false)))], [], (B ((([x36.1.N, x36.1.D] : List Int) == [x38.1.N, x38.1.D]))), [], false⟩,
    ⟨[((.tmp 178), (B ((([x36.1.N, x36.1.D] : List Int) == [x38.1.N, x38.1.D]))))], [], (B (false)), [], false⟩,
    ⟨[((.tmp 179), (B (false))), ((.tmp 18), (I (x32)))], [], (I (x32)), [], false⟩,
    ⟨[((.tmp 179), (B (false))), ((.tmp 19), (I (x34)))], [], (I (x34)), [], false⟩,
    ⟨[((.tmp 179), (B (false))), ((.tmp 180), (I (x32))), ((.tmp 181), (I (x34)))], [], (B ((x32 != x34))), [], false⟩,
    ⟨[((.tmp 179), (B (false))), ((.tmp 182), (B ((x32 != x34))))], [], (B (false)), [], false⟩,
    ⟨[((.tmp 183), (B (false)))], [], (.lit undef), [], true⟩,
    ⟨[((.tmp 183), (B (false)))], [], (.lit undef), [], true⟩,
    ⟨[((.tmp 183), (B (false)))], [], (.lit undef), [], true⟩,
    ⟨[((.tmp 183), (B (false)))], [], (.lit undef), [], true⟩,
    ⟨[((.tmp 183), (B (false)))], [], (.lit undef), [], true⟩,
    ⟨[((.tmp 183), (B (false)))], [], (.lit undef), [], true⟩,
    ⟨[((.tmp 183), (B (false)))], [], (.lit undef), [], true⟩,
    ⟨[((.tmp 183), (B (false)))], [], (.lit undef), [], true⟩,
    ⟨[((.tmp 183), (B (false)))], [], (.lit undef), [], true⟩,
    ⟨[((.tmp 183), (B (false)))], [], (.lit undef), [], true⟩,
    ⟨[((.tmp 183), (B (false)))], [], (.lit undef), [], true⟩,
    ⟨[((.tmp 179), (B (false))), ((.tmp 183), (B (false))), ((.tmp 194), (.lit undef)), ((.const (.bool false)), (B (false)))], [], (B (false)), [], false⟩,
    ⟨[((.tmp 179), (B (false))), ((.const (.bool true)), (B (true))), ((.tmp 195), (B (false)))], [], (B (false)), [], false⟩,
    ⟨[((.tmp 196), (B (false)))], [], (B (false)), [], false⟩,
    ⟨[((.tmp 197), (B (false)))], [], (.lit undef), [], true⟩,
    ⟨[((.tmp 197), (B (false))), ((.tmp 198), (.lit undef)), ((.const (.bool false)), (B (false)))], [], (B (false)), [], false⟩,
    ⟨[((.tmp 199), (B (false)))], [], (B (false)), [], false⟩] (by exact ⟨by kernel_rfl, by kernel_rfl⟩) ?_ ?_
                · exact ⟨fun _ => astep_move rfl,
    fun _ => astep_move rfl,
    fun _ => astep_bin rfl rfl,
    fun _ => astep_b hb40 (astep_move rfl),
    fun _ => astep_guard (astep_load rfl ti83 (by decide) rfl (Nat.le_of_ble_eq_true rfl) rfl),
    fun _ => astep_guard (astep_load rfl ti83 (by decide) rfl (Nat.le_of_ble_eq_true rfl) rfl),
    fun _ => astep_guard (astep_eqs (ls := [x36.1.N, x36.1.D]) (ks := [x38.1.N, x38.1.D]) rfl rfl eqt83 (by kernel_rfl) rfl rfl),
    fun _ => astep_pick rfl rfl,
    fun _ => astep_b hb41 (astep_move rfl),
    fun _ => astep_guard (astep_move rfl),
    fun _ => astep_guard (astep_move rfl),
    fun _ => astep_guard (astep_bin rfl rfl),
    fun _ => astep_b hb44 (astep_guard (astep_move rfl)),
    fun hs => (Bool.noConfusion hs),
    fun hs => (Bool.noConfusion hs),
    fun hs => (Bool.noConfusion hs),
    fun hs => (Bool.noConfusion hs),
    fun hs => (Bool.noConfusion hs),
    fun hs => (Bool.noConfusion hs),
    fun hs => (Bool.noConfusion hs),
    fun hs => (Bool.noConfusion hs),
    fun hs => (Bool.noConfusion hs),
    fun hs => (Bool.noConfusion hs),
    fun hs => (Bool.noConfusion hs),
    fun _ => astep_guard (astep_pick rfl rfl),
    fun _ => astep_pick rfl rfl,
    fun _ => astep_move rfl,
    fun hs => (Bool.noConfusion hs),
    fun _ => astep_pick rfl rfl,
    fun _ => astep_assign rfl, trivial⟩
                refine awp_ret ?_
                obtain rfl := Option.some.inj h
                exact ⟨⟨[(B (false))], ⟨resOK_tmp (by kernel_rfl), trivial⟩, rfl⟩, (NLt.lit _), Nat.le_refl _, fun n hn => absurd hn (Nat.not_lt_zero n)⟩
          · replace h := bif_f hb40 h
            rcases Bool.eq_false_or_eq_true ((x32 != x34)) with hb48 | hb48
            · replace h := bif_t hb48 h
              rcases Bool.eq_false_or_eq_true ((decide ((w64 (x36.1.N * x38.1.D)) < (w64 (x38.1.N * x36.1.D))))) with hb49 | hb49
              · replace h := bif_t hb49 h
                obtain ⟨x51, hf50, h⟩ := bind_out h
                refine awp_reg [⟨[((.tmp 18), (I (x32)))], [], (I (x32)), [], false⟩,
    ⟨[((.tmp 19), (I (x34)))], [], (I (x34)), [], false⟩,
    ⟨[((.tmp 171), (I (x32))), ((.tmp 172), (I (x34)))], [], (B ((x32 == x34))), [], false⟩,
    ⟨[((.tmp 173), (B ((x32 == x34))))], [], (B (false)), [], false⟩,
    ⟨[((.tmp 174), (B (false)))], [], (.lit undef), [], true⟩,
    ⟨[((.tmp 174), (B (false)))], [], (.lit undef), [], true⟩,
    ⟨[((.tmp 174), (B (false)))], [], (.lit undef), [], true⟩,
    ⟨[((.tmp 174), (B (false))), ((.tmp 177), (.lit undef)), ((.const (.bool false)), (B (false)))], [], (B (false)), [], false⟩,
    ⟨[((.tmp 178), (B (false)))], [], (B (false)), [], false⟩,
    ⟨[((.tmp 179), (B (false))), ((.tmp 18), (I (x32)))], [], (I (x32)), [], false⟩,
    ⟨[((.tmp 179), (B (false))), ((.tmp 19), (I (x34)))], [], (I (x34)), [], false⟩,
    ⟨[((.tmp 179), (B (false))), ((.tmp 180), (I (x32))), ((.tmp 181), (I (x34)))], [], (B ((x32 != x34))), [], false⟩,
    ⟨[((.tmp 179), (B (false))), ((.tmp 182), (B ((x32 != x34))))], [], (B (true)), [], false⟩,
    ⟨[((.tmp 183), (B (true))), ((.tmp 20), (.ref 0 2 (0) 0))], [(0, (.own 2 [[(I (x36.1.N)), (I (x36.1.D))]]))], (.ref 0 2 (0) 0), [], false⟩,
    ⟨[((.tmp 183), (B (true))), ((.tmp 184), (.ref 0 2 (0) 0))], [(0, (.own 2 [[(I (x36.1.N)), (I (x36.1.D))]]))], (I (x36.1.N)), [], false⟩,
    ⟨[((.tmp 183), (B (true))), ((.tmp 22), (.ref 1 2 (0) 0))], [(1, (.own 2 [[(I (x38.1.N)), (I (x38.1.D))]]))], (.ref 1 2 (0) 1), [], false⟩,
    ⟨[((.tmp 183), (B (true))), ((.tmp 186), (.ref 1 2 (0) 1))], [(1, (.own 2 [[(I (x38.1.N)), (I (x38.1.D))]]))], (I (x38.1.D)), [], false⟩,
    ⟨[((.tmp 183), (B (true))), ((.tmp 185), (I (x36.1.N))), ((.tmp 187), (I (x38.1.D)))], [], (I (w64 (x36.1.N * x38.1.D))), [], false⟩,
    ⟨[((.tmp 183), (B (true))), ((.tmp 22), (.ref 1 2 (0) 0))], [(1, (.own 2 [[(I (x38.1.N)), (I (x38.1.D))]]))], (.ref 1 2 (0) 0), [], false⟩,
    ⟨[((.tmp 183), (B (true))), ((.tmp 189), (.ref 1 2 (0) 0))], [(1, (.own 2 [[(I (x38.1.N)), (I (x38.1.D))]]))], (I (x38.1.N)), [], false⟩,
    ⟨[((.tmp 183), (B (true))), ((.tmp 20), (.ref 0 2 (0) 0))], [(0, (.own 2 [[(I (x36.1.N)), (I (x36.1.D))]]))], (.ref 0 2 (0) 1), [], false⟩,
    ⟨[((.tmp 183), (B (true))), ((.tmp 191), (.ref 0 2 (0) 1))], [(0, (.own 2 [[(I (x36.1.N)), (I (x36.1.D))]]))], (I (x36.1.D)), [], false⟩,
    ⟨[((.tmp 183), (B (true))), ((.tmp 190), (I (x38.1.N))), ((.tmp 192), (I (x36.1.D)))], [], (I (w64 (x38.1.N * x36.1.D))), [], false⟩,
    ⟨[((.tmp 183), (B (true))), ((.tmp 188), (I (w64 (x36.1.N * x38.1.D)))), ((.tmp 193), (I (w64 (x38.1.N * x36.1.D))))], [], (B ((decide ((w64 (x36.1.N * x38.1.D)) < (w64 (x38.1.N * x36.1.D)))))), [], false⟩,
    ⟨[((.tmp 179), (B (false))), ((.tmp 183), (B (true))), ((.tmp 194), (B ((decide ((w64 (x36.1.N * x38.1.D)) < (w64 (x38.1.N * x36.1.D))))))), ((.const (.bool false)), (B (false)))], [], (B ((decide ((w64 (x36.1.N * x38.1.D)) < (w64 (x38.1.N * x36.1.D)))))), [], false⟩,
    ⟨[((.tmp 179), (B (false))), ((.const (.bool true)), (B (true))), ((.tmp 195), (B ((decide ((w64 (x36.1.N * x38.1.D)) < (w64 (x38.1.N * x36.1.D)))))))], [], (B ((decide ((w64 (x36.1.N * x38.1.D)) < (w64 (x38.1.N * x36.1.D)))))), [], false⟩,
    ⟨[((.tmp 196), (B ((decide ((w64 (x36.1.N * x38.1.D)) < (w64 (x38.1.N * x36.1.D)))))))], [], (B (true)), [], false⟩,
    ⟨[((.tmp 197), (B (true))), ((.func 17), (.fn (.func 17) [] []))], [], (B (x51)), [], false⟩,
    ⟨[((.tmp 197), (B (true))), ((.tmp 198), (B (x51))), ((.const (.bool false)), (B (false)))], [], (B (x51)), [], false⟩,
    ⟨[((.tmp 199), (B (x51)))], [], (B (x51)), [], false⟩] (by exact ⟨by kernel_rfl, by kernel_rfl⟩) ?_ ?_
                · exact ⟨fun _ => astep_move rfl,
    fun _ => astep_move rfl,
    fun _ => astep_bin rfl rfl,
    fun _ => astep_b hb40 (astep_move rfl),
    fun hs => (Bool.noConfusion hs),
    fun hs => (Bool.noConfusion hs),
    fun hs => (Bool.noConfusion hs),
    fun _ => astep_pick rfl rfl,
    fun _ => astep_move rfl,
    fun _ => astep_guard (astep_move rfl),
    fun _ => astep_guard (astep_move rfl),
    fun _ => astep_guard (astep_bin rfl rfl),
    fun _ => astep_b hb48 (astep_guard (astep_move rfl)),
    fun _ => astep_guard (astep_faddr rfl Try.underlying83 rfl rfl ti3 (by decide) rfl),
    fun _ => astep_guard (astep_load rfl ti3 (by decide) rfl (Nat.le_of_ble_eq_true rfl) rfl),
    fun _ => astep_guard (astep_faddr rfl Try.underlying83 rfl rfl ti3 (by decide) rfl),
    fun _ => astep_guard (astep_load rfl ti3 (by decide) rfl (Nat.le_of_ble_eq_true rfl) rfl),
    fun _ => astep_guard (astep_bin rfl rfl),
    fun _ => astep_guard (astep_faddr rfl Try.underlying83 rfl rfl ti3 (by decide) rfl),
    fun _ => astep_guard (astep_load rfl ti3 (by decide) rfl (Nat.le_of_ble_eq_true rfl) rfl),
    fun _ => astep_guard (astep_faddr rfl Try.underlying83 rfl rfl ti3 (by decide) rfl),
    fun _ => astep_guard (astep_load rfl ti3 (by decide) rfl (Nat.le_of_ble_eq_true rfl) rfl),
    fun _ => astep_guard (astep_bin rfl rfl),
    fun _ => astep_guard (astep_bin rfl rfl),
    fun _ => astep_guard (astep_pick rfl rfl),
    fun _ => astep_pick rfl rfl,
    fun _ => astep_b hb49 (astep_move rfl),
    fun _ => astep_guard (astep_pcall (first := []) (cap := []) (vs := []) rfl enter17 (law01_awakeX_ok N  _ hf50) rfl rfl nl_nil (NLt.lit _) rfl),
    fun _ => astep_pick rfl rfl,
    fun _ => astep_assign rfl, trivial⟩
                refine awp_ret ?_
                obtain rfl := Option.some.inj h
                exact ⟨⟨[(B (x51))], ⟨resOK_tmp (by kernel_rfl), trivial⟩, rfl⟩, (NLt.lit _), Nat.le_refl _, fun n hn => absurd hn (Nat.not_lt_zero n)⟩
              · replace h := bif_f hb49 h
                refine awp_reg [⟨[((.tmp 18), (I (x32)))], [], (I (x32)), [], false⟩,
    ⟨[((.tmp 19), (I (x34)))], [], (I (x34)), [], false⟩,
    ⟨[((.tmp 171), (I (x32))), ((.tmp 172), (I (x34)))], [], (B ((x32 == x34))), [], false⟩,
    ⟨[((.tmp 173), (B ((x32 == x34))))], [], (B (false)), [], false⟩,
    ⟨[((.tmp 174), (B (false)))], [], (.lit undef), [], true⟩,
    ⟨[((.tmp 174), (B (false)))], [], (.lit undef), [], true⟩,
    ⟨[((.tmp 174), (B (false)))], [], (.lit undef), [], true⟩,
    ⟨[((.tmp 174), (B (false))), ((.tmp 177), (.lit undef)), ((.const (.bool false)), (B (false)))], [], (B (false)), [], false⟩,
    ⟨[((.tmp 178), (B (false)))], [], (B (false)), [], false⟩,
    ⟨[((.tmp 179), (B (false))), ((.tmp 18), (I (x32)))], [], (I (x32)), [], false⟩,
    ⟨[((.tmp 179), (B (false))), ((.tmp 19), (I (x34)))], [], (I (x34)), [], false⟩,
    ⟨[((.tmp 179), (B (false))), ((.tmp 180), (I (x32))), ((.tmp 181), (I (x34)))], [], (B ((x32 != x34))), [], false⟩,
    ⟨[((.tmp 179), (B (false))), ((.tmp 182), (B ((x32 != x34))))], [], (B (true)), [], false⟩,
    ⟨[((.tmp 183), (B (true))), ((.tmp 20), (.ref 0 2 (0) 0))], [(0, (.own 2 [[(I (x36.1.N)), (I (x36.1.D))]]))], (.ref 0 2 (0) 0), [], false⟩,
    ⟨[((.tmp 183), (B (true))), ((.tmp 184), (.ref 0 2 (0) 0))], [(0, (.own 2 [[(I (x36.1.N)), (I (x36.1.D))]]))], (I (x36.1.N)), [], false⟩,
    ⟨[((.tmp 183), (B (true))), ((.tmp 22), (.ref 1 2 (0) 0))], [(1, (.own 2 [[(I (x38.1.N)), (I (x38.1.D))]]))], (.ref 1 2 (0) 1), [], false⟩,
    ⟨[((.tmp 183), (B (true))), ((.tmp 186), (.ref 1 2 (0) 1))], [(1, (.own 2 [[(I (x38.1.N)), (I (x38.1.D))]]))], (I (x38.1.D)), [], false⟩,
    ⟨[((.tmp 183), (B (true))), ((.tmp 185), (I (x36.1.N))), ((.tmp 187), (I (x38.1.D)))], [], (I (w64 (x36.1.N * x38.1.D))), [], false⟩,
    ⟨[((.tmp 183), (B (true))), ((.tmp 22), (.ref 1 2 (0) 0))], [(1, (.own 2 [[(I (x38.1.N)), (I (x38.1.D))]]))], (.ref 1 2 (0) 0), [], false⟩,
    ⟨[((.tmp 183), (B (true))), ((.tmp 189), (.ref 1 2 (0) 0))], [(1, (.own 2 [[(I (x38.1.N)), (I (x38.1.D))]]))], (I (x38.1.N)), [], false⟩,
    ⟨[((.tmp 183), (B (true))), ((.tmp 20), (.ref 0 2 (0) 0))], [(0, (.own 2 [[(I (x36.1.N)), (I (x36.1.D))]]))], (.ref 0 2 (0) 1), [], false⟩,
    ⟨[((.tmp 183), (B (true))), ((.tmp 191), (.ref 0 2 (0) 1))], [(0, (.own 2 [[(I (x36.1.N)), (I (x36.1.D))]]))], (I (x36.1.D)), [], false⟩,
    ⟨[((.tmp 183), (B (true))), ((.tmp 190), (I (x38.1.N))), ((.tmp 192), (I (x36.1.D)))], [], (I (w64 (x38.1.N * x36.1.D))), [], false⟩,
    ⟨[((.tmp 183), (B (true))), ((.tmp 188), (I (w64 (x36.1.N * x38.1.D)))), ((.tmp 193), (I (w64 (x38.1.N * x36.1.D))))], [], (B ((decide ((w64 (x36.1.N * x38.1.D)) < (w64 (x38.1.N * x36.1.D)))))), [], false⟩,
    ⟨[((.tmp 179), (B (false))), ((.tmp 183), (B (true))), ((.tmp 194), (B ((decide ((w64 (x36.1.N * x38.1.D)) < (w64 (x38.1.N * x36.1.D))))))), ((.const (.bool false)), (B (false)))], [], (B ((decide ((w64 (x36.1.N * x38.1.D)) < (w64 (x38.1.N * x36.1.D)))))), [], false⟩,
    ⟨[((.tmp 179), (B (false))), ((.const (.bool true)), (B (true))), ((.tmp 195), (B ((decide ((w64 (x36.1.N * x38.1.D)) < (w64 (x38.1.N * x36.1.D)))))))], [], (B ((decide ((w64 (x36.1.N * x38.1.D)) < (w64 (x38.1.N * x36.1.D)))))), [], false⟩,
    ⟨[((.tmp 196), (B ((decide ((w64 (x36.1.N * x38.1.D)) < (w64 (x38.1.N * x36.1.D)))))))], [], (B (false)), [], false⟩,
    ⟨[((.tmp 197), (B (false)))], [], (.lit undef), [], true⟩,
    ⟨[((.tmp 197), (B (false))), ((.tmp 198), (.lit undef)), ((.const (.bool false)), (B (false)))], [], (B (false)), [], false⟩,
    ⟨[((.tmp 199), (B (false)))], [], (B (false)), [], false⟩] (by exact ⟨by kernel_rfl, by kernel_rfl⟩) ?_ ?_
                · exact ⟨fun _ => astep_move rfl,
    fun _ => astep_move rfl,
    fun _ => astep_bin rfl rfl,
    fun _ => astep_b hb40 (astep_move rfl),
    fun hs => (Bool.noConfusion hs),
    fun hs => (Bool.noConfusion hs),
    fun hs => (Bool.noConfusion hs),
    fun _ => astep_pick rfl rfl,
    fun _ => astep_move rfl,
    fun _ => astep_guard (astep_move rfl),
    fun _ => astep_guard (astep_move rfl),
    fun _ => astep_guard (astep_bin rfl rfl),
    fun _ => astep_b hb48 (astep_guard (astep_move rfl)),
    fun _ => astep_guard (astep_faddr rfl Try.underlying83 rfl rfl ti3 (by decide) rfl),
    fun _ => astep_guard (astep_load rfl ti3 (by decide) rfl (Nat.le_of_ble_eq_true rfl) rfl),
    fun _ => astep_guard (astep_faddr rfl Try.underlying83 rfl rfl ti3 (by decide) rfl),
    fun _ => astep_guard (astep_load rfl ti3 (by decide) rfl (Nat.le_of_ble_eq_true rfl) rfl),
    fun _ => astep_guard (astep_bin rfl rfl),
    fun _ => astep_guard (astep_faddr rfl Try.underlying83 rfl rfl ti3 (by decide) rfl),
    fun _ => astep_guard (astep_load rfl ti3 (by decide) rfl (Nat.le_of_ble_eq_true rfl) rfl),
    fun _ => astep_guard (astep_faddr rfl Try.underlying83 rfl rfl ti3 (by decide) rfl),
    fun _ => astep_guard (astep_load rfl ti3 (by decide) rfl (Nat.le_of_ble_eq_true rfl) rfl),
    fun _ => astep_guard (astep_bin rfl rfl),
    fun _ => astep_guard (astep_bin rfl rfl),
    fun _ => astep_guard (astep_pick rfl rfl),
    fun _ => astep_pick rfl rfl,
    fun _ => astep_b hb49 (astep_move rfl),
    fun hs => (Bool.noConfusion hs),
    fun _ => astep_pick rfl rfl,
    fun _ => astep_assign rfl, trivial⟩
                refine awp_ret ?_
                obtain rfl := Option.some.inj h
                exact ⟨⟨[(B (false))], ⟨resOK_tmp (by kernel_rfl), trivial⟩, rfl⟩, (NLt.lit _), Nat.le_refl _, fun n hn => absurd hn (Nat.not_lt_zero n)⟩
            · replace h := bif_f hb48 h
              refine awp_reg [⟨[((.tmp 18), (I (x32)))], [], (I (x32)), [], false⟩,
    ⟨[((.tmp 19), (I (x34)))], [], (I (x34)), [], false⟩,
    ⟨[((.tmp 171), (I (x32))), ((.tmp 172), (I (x34)))], [], (B ((x32 == x34))), [], false⟩,
    ⟨[((.tmp 173), (B ((x32 == x34))))], [], (B (false)), [], false⟩,
    ⟨[((.tmp 174), (B (false)))], [], (.lit undef), [], true⟩,
    ⟨[((.tmp 174), (B (false)))], [], (.lit undef), [], true⟩,
    ⟨[((.tmp 174), (B (false)))], [], (.lit undef), [], true⟩,
    ⟨[((.tmp 174), (B (false))), ((.tmp 177), (.lit undef)), ((.const (.bool false)), (B (false)))], [], (B (false)), [], false⟩,
    ⟨[((.tmp 178), (B (false)))], [], (B (false)), [], false⟩,
    ⟨[((.tmp 179), (B (false))), ((.tmp 18), (I (x32)))], [], (I (x32)), [], false⟩,
    ⟨[((.tmp 179), (B (false))), ((.tmp 19), (I (x34)))], [], (I (x34)), [], false⟩,
    ⟨[((.tmp 179), (B (false))), ((.tmp 180), (I (x32))), ((.tmp 181), (I (x34)))], [], (B ((x32 != x34))), [], false⟩,
    ⟨[((.tmp 179), (B (false))), ((.tmp 182), (B ((x32 != x34))))], [], (B (false)), [], false⟩,
    ⟨[((.tmp 183), (B (false)))], [], (.lit undef), [], true⟩,
    ⟨[((.tmp 183), (B (false)))], [], (.lit undef), [], true⟩,
    ⟨[((.tmp 183), (B (false)))], [], (.lit undef), [], true⟩,
    ⟨[((.tmp 183), (B (false)))], [], (.lit undef), [], true⟩,
    ⟨[((.tmp 183), (B (false)))], [], (.lit undef), [], true⟩,
    ⟨[((.tmp 183), (B (false)))], [], (.lit undef), [], true⟩,
    ⟨[((.tmp 183), (B (false)))], [], (.lit undef), [], true⟩,
    ⟨[((.tmp 183), (B (false)))], [], (.lit undef), [], true⟩,
    ⟨[((.tmp 183), (B (false)))], [], (.lit undef), [], true⟩,
    ⟨[((.tmp 183), (B (false)))], [], (.lit undef), [], true⟩,
    ⟨[((.tmp 183), (B (false)))], [], (.lit undef), [], true⟩,
    ⟨[((.tmp 179), (B (false))), ((.tmp 183), (B (false))), ((.tmp 194), (.lit undef)), ((.const (.bool false)), (B (false)))], [], (B (false)), [], false⟩,
    ⟨[((.tmp 179), (B (false))), ((.const (.bool true)), (B (true))), ((.tmp 195), (B (false)))], [], (B (false)), [], false⟩,
    ⟨[((.tmp 196), (B (false)))], [], (B (false)), [], false⟩,
    ⟨[((.tmp 197), (B (false)))], [], (.lit undef), [], true⟩,
    ⟨[((.tmp 197), (B (false))), ((.tmp 198), (.lit undef)), ((.const (.bool false)), (B (false)))], [], (B (false)), [], false⟩,
    ⟨[((.tmp 199), (B (false)))], [], (B (false)), [], false⟩] (by exact ⟨by kernel_rfl, by kernel_rfl⟩) ?_ ?_
              · exact ⟨fun _ => astep_move rfl,
    fun _ => astep_move rfl,
    fun _ => astep_bin rfl rfl,
    fun _ => astep_b hb40 (astep_move rfl),
    fun hs => (Bool.noConfusion hs),
    fun hs => (Bool.noConfusion hs),
    fun hs => (Bool.noConfusion hs),
    fun _ => astep_pick rfl rfl,
    fun _ => astep_move rfl,
    fun _ => astep_guard (astep_move rfl),
    fun _ => astep_guard (astep_move rfl),
    fun _ => astep_guard (astep_bin rfl rfl),
    fun _ => astep_b hb48 (astep_guard (astep_move rfl)),
    fun hs => (Bool.noConfusion hs),
    fun hs => (Bool.noConfusion hs),
    fun hs => (Bool.noConfusion hs),
    fun hs => (Bool.noConfusion hs),
    fun hs => (Bool.noConfusion hs),
    fun hs => (Bool.noConfusion hs),
    fun hs => (Bool.noConfusion hs),
    fun hs => (Bool.noConfusion hs),
    fun hs => (Bool.noConfusion hs),
    fun hs => (Bool.noConfusion hs),
    fun hs => (Bool.noConfusion hs),
    fun _ => astep_guard (astep_pick rfl rfl),
    fun _ => astep_pick rfl rfl,
    fun _ => astep_move rfl,
    fun hs => (Bool.noConfusion hs),
    fun _ => astep_pick rfl rfl,
    fun _ => astep_assign rfl, trivial⟩
              refine awp_ret ?_
              obtain rfl := Option.some.inj h
              exact ⟨⟨[(B (false))], ⟨resOK_tmp (by kernel_rfl), trivial⟩, rfl⟩, (NLt.lit _), Nat.le_refl _, fun n hn => absurd hn (Nat.not_lt_zero n)⟩
        · skip
          rcases Bool.eq_false_or_eq_true ((x36.2 != 0)) with hb52 | hb52
          · replace h := bif_t hb52 h
            refine awp_reg [⟨[((.tmp 21), (I (x36.2)))], [], (I (x36.2)), [], false⟩,
    ⟨[((.tmp 147), (I (x36.2))), ((.const (.int .i64 0)), (I (0)))], [], (B ((x36.2 != 0))), [], false⟩,
    ⟨[((.tmp 148), (B ((x36.2 != 0))))], [], (B (true)), [], false⟩,
    ⟨[((.tmp 149), (B (true)))], [], (.lit undef), [], true⟩,
    ⟨[((.tmp 149), (B (true)))], [], (.lit undef), [], true⟩,
    ⟨[((.tmp 149), (B (true))), ((.const (.bool true)), (B (true))), ((.tmp 151), (.lit undef))], [], (B (true)), [], false⟩,
    ⟨[((.tmp 152), (B (true)))], [], (B (true)), [], false⟩,
    ⟨[((.tmp 153), (B (true)))], [], (.lit undef), [], true⟩,
    ⟨[((.tmp 153), (B (true)))], [], (.lit undef), [], true⟩,
    ⟨[((.tmp 153), (B (true)))], [], (.lit undef), [], true⟩,
    ⟨[((.tmp 153), (B (true))), ((.const (.bool true)), (B (true))), ((.tmp 156), (.lit undef))], [], (B (true)), [], false⟩,
    ⟨[((.tmp 157), (B (true)))], [], (B (true)), [], false⟩,
    ⟨[((.tmp 158), (B (true)))], [], (.lit undef), [], true⟩,
    ⟨[((.tmp 158), (B (true)))], [], (.lit undef), [], true⟩,
    ⟨[((.tmp 158), (B (true)))], [], (.lit undef), [], true⟩,
    ⟨[((.tmp 158), (B (true))), ((.const (.bool true)), (B (true))), ((.tmp 161), (.lit undef))], [], (B (true)), [], false⟩,
    ⟨[((.tmp 162), (B (true)))], [], (B (true)), [], false⟩,
    ⟨[((.tmp 163), (B (true)))], [], (.lit undef), [], true⟩,
    ⟨[((.tmp 163), (B (true)))], [], (.lit undef), [], true⟩,
    ⟨[((.tmp 163), (B (true)))], [], (.lit undef), [], true⟩,
    ⟨[((.tmp 163), (B (true)))], [], (.lit undef), [], true⟩,
    ⟨[((.tmp 163), (B (true)))], [], (.lit undef), [], true⟩,
    ⟨[((.tmp 163), (B (true)))], [], (.lit undef), [], true⟩,
    ⟨[((.tmp 163), (B (true))), ((.const (.bool true)), (B (true))), ((.tmp 169), (.lit undef))], [], (B (true)), [], false⟩] (by exact ⟨by kernel_rfl, by kernel_rfl⟩) ?_ ?_
            · exact ⟨fun _ => astep_move rfl,
    fun _ => astep_bin rfl rfl,
    fun _ => astep_b hb52 (astep_move rfl),
    fun hs => (Bool.noConfusion hs),
    fun hs => (Bool.noConfusion hs),
    fun _ => astep_pick rfl rfl,
    fun _ => astep_move rfl,
    fun hs => (Bool.noConfusion hs),
    fun hs => (Bool.noConfusion hs),
    fun hs => (Bool.noConfusion hs),
    fun _ => astep_pick rfl rfl,
    fun _ => astep_move rfl,
    fun hs => (Bool.noConfusion hs),
    fun hs => (Bool.noConfusion hs),
    fun hs => (Bool.noConfusion hs),
    fun _ => astep_pick rfl rfl,
    fun _ => astep_move rfl,
    fun hs => (Bool.noConfusion hs),
    fun hs => (Bool.noConfusion hs),
    fun hs => (Bool.noConfusion hs),
    fun hs => (Bool.noConfusion hs),
    fun hs => (Bool.noConfusion hs),
    fun hs => (Bool.noConfusion hs),
    fun _ => astep_pick rfl rfl, trivial⟩
            refine awp_true (by kernel_rfl) ?_
            refine awp_reg [⟨[((.const (.bool false)), (B (false)))], [], (B (false)), [], false⟩] (by exact ⟨by kernel_rfl, by kernel_rfl⟩) ?_ ?_
            · exact ⟨fun _ => astep_assign rfl, trivial⟩
            refine awp_ret ?_
            refine thenA_r ?_
            obtain rfl := Option.some.inj h
            exact ⟨⟨[(B (false))], ⟨resOK_tmp (by kernel_rfl), trivial⟩, rfl⟩, (NLt.lit _), Nat.le_refl _, fun n hn => absurd hn (Nat.not_lt_zero n)⟩
          · replace h := bif_f hb52 h
            rcases Bool.eq_false_or_eq_true ((x38.2 != 0)) with hb53 | hb53
            · replace h := bif_t hb53 h
              refine awp_reg [⟨[((.tmp 21), (I (x36.2)))], [], (I (x36.2)), [], false⟩,
    ⟨[((.tmp 147), (I (x36.2))), ((.const (.int .i64 0)), (I (0)))], [], (B ((x36.2 != 0))), [], false⟩,
    ⟨[((.tmp 148), (B ((x36.2 != 0))))], [], (B (false)), [], false⟩,
    ⟨[((.tmp 149), (B (false))), ((.tmp 23), (I (x38.2)))], [], (I (x38.2)), [], false⟩,
    ⟨[((.tmp 149), (B (false))), ((.tmp 150), (I (x38.2))), ((.const (.int .i64 0)), (I (0)))], [], (B ((x38.2 != 0))), [], false⟩,
    ⟨[((.tmp 149), (B (false))), ((.const (.bool true)), (B (true))), ((.tmp 151), (B ((x38.2 != 0))))], [], (B ((x38.2 != 0))), [], false⟩,
    ⟨[((.tmp 152), (B ((x38.2 != 0))))], [], (B (true)), [], false⟩,
    ⟨[((.tmp 153), (B (true)))], [], (.lit undef), [], true⟩,
    ⟨[((.tmp 153), (B (true)))], [], (.lit undef), [], true⟩,
    ⟨[((.tmp 153), (B (true)))], [], (.lit undef), [], true⟩,
    ⟨[((.tmp 153), (B (true))), ((.const (.bool true)), (B (true))), ((.tmp 156), (.lit undef))], [], (B (true)), [], false⟩,
    ⟨[((.tmp 157), (B (true)))], [], (B (true)), [], false⟩,
    ⟨[((.tmp 158), (B (true)))], [], (.lit undef), [], true⟩,
    ⟨[((.tmp 158), (B (true)))], [], (.lit undef), [], true⟩,
    ⟨[((.tmp 158), (B (true)))], [], (.lit undef), [], true⟩,
    ⟨[((.tmp 158), (B (true))), ((.const (.bool true)), (B (true))), ((.tmp 161), (.lit undef))], [], (B (true)), [], false⟩,
    ⟨[((.tmp 162), (B (true)))], [], (B (true)), [], false⟩,
    ⟨[((.tmp 163), (B (true)))], [], (.lit undef), [], true⟩,
    ⟨[((.tmp 163), (B (true)))], [], (.lit undef), [], true⟩,
    ⟨[((.tmp 163), (B (true)))], [], (.lit undef), [], true⟩,
    ⟨[((.tmp 163), (B (true)))], [], (.lit undef), [], true⟩,
    ⟨[((.tmp 163), (B (true)))], [], (.lit undef), [], true⟩,
    ⟨[((.tmp 163), (B (true)))], [], (.lit undef), [], true⟩,
    ⟨[((.tmp 163), (B (true))), ((.const (.bool true)), (B (true))), ((.tmp 169), (.lit undef))], [], (B (true)), [], false⟩] (by exact ⟨by kernel_rfl, by kernel_rfl⟩) ?_ ?_
              · exact ⟨fun _ => astep_move rfl,
    fun _ => astep_bin rfl rfl,
    fun _ => astep_b hb52 (astep_move rfl),
    fun _ => astep_guard (astep_move rfl),
    fun _ => astep_guard (astep_bin rfl rfl),
    fun _ => astep_pick rfl rfl,
    fun _ => astep_b hb53 (astep_move rfl),
    fun hs => (Bool.noConfusion hs),
    fun hs => (Bool.noConfusion hs),
    fun hs => (Bool.noConfusion hs),
    fun _ => astep_pick rfl rfl,
    fun _ => astep_move rfl,
    fun hs => (Bool.noConfusion hs),
    fun hs => (Bool.noConfusion hs),
    fun hs => (Bool.noConfusion hs),
    fun _ => astep_pick rfl rfl,
    fun _ => astep_move rfl,
    fun hs => (Bool.noConfusion hs),
    fun hs => (Bool.noConfusion hs),
    fun hs => (Bool.noConfusion hs),
    fun hs => (Bool.noConfusion hs),
    fun hs => (Bool.noConfusion hs),
    fun hs => (Bool.noConfusion hs),
    fun _ => astep_pick rfl rfl, trivial⟩
              refine awp_true (by kernel_rfl) ?_
              refine awp_reg [⟨[((.const (.bool false)), (B (false)))], [], (B (false)), [], false⟩] (by exact ⟨by kernel_rfl, by kernel_rfl⟩) ?_ ?_
              · exact ⟨fun _ => astep_assign rfl, trivial⟩
              refine awp_ret ?_
              refine thenA_r ?_
              obtain rfl := Option.some.inj h
              exact ⟨⟨[(B (false))], ⟨resOK_tmp (by kernel_rfl), trivial⟩, rfl⟩, (NLt.lit _), Nat.le_refl _, fun n hn => absurd hn (Nat.not_lt_zero n)⟩
            · replace h := bif_f hb53 h
              rcases Bool.eq_false_or_eq_true ((decide (x36.1.D < 1))) with hb54 | hb54
              · replace h := bif_t hb54 h
                refine awp_reg [⟨[((.tmp 21), (I (x36.2)))], [], (I (x36.2)), [], false⟩,
    ⟨[((.tmp 147), (I (x36.2))), ((.const (.int .i64 0)), (I (0)))], [], (B ((x36.2 != 0))), [], false⟩,
    ⟨[((.tmp 148), (B ((x36.2 != 0))))], [], (B (false)), [], false⟩,
    ⟨[((.tmp 149), (B (false))), ((.tmp 23), (I (x38.2)))], [], (I (x38.2)), [], false⟩,
    ⟨[((.tmp 149), (B (false))), ((.tmp 150), (I (x38.2))), ((.const (.int .i64 0)), (I (0)))], [], (B ((x38.2 != 0))), [], false⟩,
    ⟨[((.tmp 149), (B (false))), ((.const (.bool true)), (B (true))), ((.tmp 151), (B ((x38.2 != 0))))], [], (B ((x38.2 != 0))), [], false⟩,
    ⟨[((.tmp 152), (B ((x38.2 != 0))))], [], (B (false)), [], false⟩,
    ⟨[((.tmp 153), (B (false))), ((.tmp 20), (.ref 1 2 (0) 0))], [(1, (.own 2 [[(I (x36.1.N)), (I (x36.1.D))]]))], (.ref 1 2 (0) 1), [], false⟩,
    ⟨[((.tmp 153), (B (false))), ((.tmp 154), (.ref 1 2 (0) 1))], [(1, (.own 2 [[(I (x36.1.N)), (I (x36.1.D))]]))], (I (x36.1.D)), [], false⟩,
    ⟨[((.tmp 153), (B (false))), ((.tmp 155), (I (x36.1.D))), ((.const (.int .i64 1)), (I (1)))], [], (B ((decide (x36.1.D < 1)))), [], false⟩,
    ⟨[((.tmp 153), (B (false))), ((.const (.bool true)), (B (true))), ((.tmp 156), (B ((decide (x36.1.D < 1)))))], [], (B ((decide (x36.1.D < 1)))), [], false⟩,
    ⟨[((.tmp 157), (B ((decide (x36.1.D < 1)))))], [], (B (true)), [], false⟩,
    ⟨[((.tmp 158), (B (true)))], [], (.lit undef), [], true⟩,
    ⟨[((.tmp 158), (B (true)))], [], (.lit undef), [], true⟩,
    ⟨[((.tmp 158), (B (true)))], [], (.lit undef), [], true⟩,
    ⟨[((.tmp 158), (B (true))), ((.const (.bool true)), (B (true))), ((.tmp 161), (.lit undef))], [], (B (true)), [], false⟩,
    ⟨[((.tmp 162), (B (true)))], [], (B (true)), [], false⟩,
    ⟨[((.tmp 163), (B (true)))], [], (.lit undef), [], true⟩,
    ⟨[((.tmp 163), (B (true)))], [], (.lit undef), [], true⟩,
    ⟨[((.tmp 163), (B (true)))], [], (.lit undef), [], true⟩,
    ⟨[((.tmp 163), (B (true)))], [], (.lit undef), [], true⟩,
    ⟨[((.tmp 163), (B (true)))], [], (.lit undef), [], true⟩,
    ⟨[((.tmp 163), (B (true)))], [], (.lit undef), [], true⟩,
    ⟨[((.tmp 163), (B (true))), ((.const (.bool true)), (B (true))), ((.tmp 169), (.lit undef))], [], (B (true)), [], false⟩] (by exact ⟨by kernel_rfl, by kernel_rfl⟩) ?_ ?_
                · exact ⟨fun _ => astep_move rfl,
    fun _ => astep_bin rfl rfl,
    fun _ => astep_b hb52 (astep_move rfl),
    fun _ => astep_guard (astep_move rfl),
    fun _ => astep_guard (astep_bin rfl rfl),
    fun _ => astep_pick rfl rfl,
    fun _ => astep_b hb53 (astep_move rfl),
    fun _ => astep_guard (astep_faddr rfl Try.underlying83 rfl rfl ti3 (by decide) rfl),
    fun _ => astep_guard (astep_load rfl ti3 (by decide) rfl (Nat.le_of_ble_eq_true rfl) rfl),
    fun _ => astep_guard (astep_bin rfl rfl),
    fun _ => astep_pick rfl rfl,
    fun _ => astep_b hb54 (astep_move rfl),
    fun hs => (Bool.noConfusion hs),
    fun hs => (Bool.noConfusion hs),
    fun hs => (Bool.noConfusion hs),
    fun _ => astep_pick rfl rfl,
    fun _ => astep_move rfl,
    fun hs => (Bool.noConfusion hs),
    fun hs => (Bool.noConfusion hs),
    fun hs => (Bool.noConfusion hs),
    fun hs => (Bool.noConfusion hs),
    fun hs => (Bool.noConfusion hs),
    fun hs => (Bool.noConfusion hs),
    fun _ => astep_pick rfl rfl, trivial⟩
                refine awp_true (by kernel_rfl) ?_
                refine awp_reg [⟨[((.const (.bool false)), (B (false)))], [], (B (false)), [], false⟩] (by exact ⟨by kernel_rfl, by kernel_rfl⟩) ?_ ?_
                · exact ⟨fun _ => astep_assign rfl, trivial⟩
                refine awp_ret ?_
                refine thenA_r ?_
                obtain rfl := Option.some.inj h
                exact ⟨⟨[(B (false))], ⟨resOK_tmp (by kernel_rfl), trivial⟩, rfl⟩, (NLt.lit _), Nat.le_refl _, fun n hn => absurd hn (Nat.not_lt_zero n)⟩
              · replace h := bif_f hb54 h
                rcases Bool.eq_false_or_eq_true ((decide (x38.1.D < 1))) with hb55 | hb55
                · replace h := bif_t hb55 h
                  refine awp_reg [⟨[((.tmp 21), (I (x36.2)))], [], (I (x36.2)), [], false⟩,
    ⟨[((.tmp 147), (I (x36.2))), ((.const (.int .i64 0)), (I (0)))], [], (B ((x36.2 != 0))), [], false⟩,
    ⟨[((.tmp 148), (B ((x36.2 != 0))))], [], (B (false)), [], false⟩,
    ⟨[((.tmp 149), (B (false))), ((.tmp 23), (I (x38.2)))], [], (I (x38.2)), [], false⟩,
    ⟨[((.tmp 149), (B (false))), ((.tmp 150), (I (x38.2))), ((.const (.int .i64 0)), (I (0)))], [], (B ((x38.2 != 0))), [], false⟩,
    ⟨[((.tmp 149), (B (false))), ((.const (.bool true)), (B (true))), ((.tmp 151), (B ((x38.2 != 0))))], [], (B ((x38.2 != 0))), [], false⟩,
    ⟨[((.tmp 152), (B ((x38.2 != 0))))], [], (B (false)), [], false⟩,
    ⟨[((.tmp 153), (B (false))), ((.tmp 20), (.ref 1 2 (0) 0))], [(1, (.own 2 [[(I (x36.1.N)), (I (x36.1.D))]]))], (.ref 1 2 (0) 1), [], false⟩,
    ⟨[((.tmp 153), (B (false))), ((.tmp 154), (.ref 1 2 (0) 1))], [(1, (.own 2 [[(I (x36.1.N)), (I (x36.1.D))]]))], (I (x36.1.D)), [], false⟩,
    ⟨[((.tmp 153), (B (false))), ((.tmp 155), (I (x36.1.D))), ((.const (.int .i64 1)), (I (1)))], [], (B ((decide (x36.1.D < 1)))), [], false⟩,
    ⟨[((.tmp 153), (B (false))), ((.const (.bool true)), (B (true))), ((.tmp 156), (B ((decide (x36.1.D < 1)))))], [], (B ((decide (x36.1.D < 1)))), [], false⟩,
    ⟨[((.tmp 157), (B ((decide (x36.1.D < 1)))))], [], (B (false)), [], false⟩,
    ⟨[((.tmp 158), (B (false))), ((.tmp 22), (.ref 2 2 (0) 0))], [(2, (.own 2 [[(I (x38.1.N)), (I (x38.1.D))]]))], (.ref 2 2 (0) 1), [], false⟩,
    ⟨[((.tmp 158), (B (false))), ((.tmp 159), (.ref 2 2 (0) 1))], [(2, (.own 2 [[(I (x38.1.N)), (I (x38.1.D))]]))], (I (x38.1.D)), [], false⟩,
    ⟨[((.tmp 158), (B (false))), ((.tmp 160), (I (x38.1.D))), ((.const (.int .i64 1)), (I (1)))], [], (B ((decide (x38.1.D < 1)))), [], false⟩,
    ⟨[((.tmp 158), (B (false))), ((.const (.bool true)), (B (true))), ((.tmp 161), (B ((decide (x38.1.D < 1)))))], [], (B ((decide (x38.1.D < 1)))), [], false⟩,
    ⟨[((.tmp 162), (B ((decide (x38.1.D < 1)))))], [], (B (true)), [], false⟩,
    ⟨[((.tmp 163), (B (true)))], [], (.lit undef), [], true⟩,
    ⟨[((.tmp 163), (B (true)))], [], (.lit undef), [], true⟩,
    ⟨[((.tmp 163), (B (true)))], [], (.lit undef), [], true⟩,
    ⟨[((.tmp 163), (B (true)))], [], (.lit undef), [], true⟩,
    ⟨[((.tmp 163), (B (true)))], [], (.lit undef), [], true⟩,
    ⟨[((.tmp 163), (B (true)))], [], (.lit undef), [], true⟩,
    ⟨[((.tmp 163), (B (true))), ((.const (.bool true)), (B (true))), ((.tmp 169), (.lit undef))], [], (B (true)), [], false⟩] (by exact ⟨by kernel_rfl, by kernel_rfl⟩) ?_ ?_
                  · exact ⟨fun _ => astep_move rfl,
    fun _ => astep_bin rfl rfl,
    fun _ => astep_b hb52 (astep_move rfl),
    fun _ => astep_guard (astep_move rfl),
    fun _ => astep_guard (astep_bin rfl rfl),
    fun _ => astep_pick rfl rfl,
    fun _ => astep_b hb53 (astep_move rfl),
    fun _ => astep_guard (astep_faddr rfl Try.underlying83 rfl rfl ti3 (by decide) rfl),
    fun _ => astep_guard (astep_load rfl ti3 (by decide) rfl (Nat.le_of_ble_eq_true rfl) rfl),
    fun _ => astep_guard (astep_bin rfl rfl),
    fun _ => astep_pick rfl rfl,
    fun _ => astep_b hb54 (astep_move rfl),
    fun _ => astep_guard (astep_faddr rfl Try.underlying83 rfl rfl ti3 (by decide) rfl),
    fun _ => astep_guard (astep_load rfl ti3 (by decide) rfl (Nat.le_of_ble_eq_true rfl) rfl),
    fun _ => astep_guard (astep_bin rfl rfl),
    fun _ => astep_pick rfl rfl,
    fun _ => astep_b hb55 (astep_move rfl),
    fun hs => (Bool.noConfusion hs),
    fun hs => (Bool.noConfusion hs),
    fun hs => (Bool.noConfusion hs),
    fun hs => (Bool.noConfusion hs),
    fun hs => (Bool.noConfusion hs),
    fun hs => (Bool.noConfusion hs),
    fun _ => astep_pick rfl rfl, trivial⟩
                  refine awp_true (by kernel_rfl) ?_
                  refine awp_reg [⟨[((.const (.bool false)), (B (false)))], [], (B (false)), [], false⟩] (by exact ⟨by kernel_rfl, by kernel_rfl⟩) ?_ ?_
                  · exact ⟨fun _ => astep_assign rfl, trivial⟩
                  refine awp_ret ?_
                  refine thenA_r ?_
                  obtain rfl := Option.some.inj h
                  exact ⟨⟨[(B (false))], ⟨resOK_tmp (by kernel_rfl), trivial⟩, rfl⟩, (NLt.lit _), Nat.le_refl _, fun n hn => absurd hn (Nat.not_lt_zero n)⟩
                · replace h := bif_f hb55 h
                  obtain ⟨x57, hf56, h⟩ := bind_out h
                  refine awp_reg [⟨[((.tmp 21), (I (x36.2)))], [], (I (x36.2)), [], false⟩,
    ⟨[((.tmp 147), (I (x36.2))), ((.const (.int .i64 0)), (I (0)))], [], (B ((x36.2 != 0))), [], false⟩,
    ⟨[((.tmp 148), (B ((x36.2 != 0))))], [], (B (false)), [], false⟩,
    ⟨[((.tmp 149), (B (false))), ((.tmp 23), (I (x38.2)))], [], (I (x38.2)), [], false⟩,
    ⟨[((.tmp 149), (B (false))), ((.tmp 150), (I (x38.2))), ((.const (.int .i64 0)), (I (0)))], [], (B ((x38.2 != 0))), [], false⟩,
    ⟨[((.tmp 149), (B (false))), ((.const (.bool true)), (B (true))), ((.tmp 151), (B ((x38.2 != 0))))], [], (B ((x38.2 != 0))), [], false⟩,
    ⟨[((.tmp 152), (B ((x38.2 != 0))))], [], (B (false)), [], false⟩,
    ⟨[((.tmp 153), (B (false))), ((.tmp 20), (.ref 1 2 (0) 0))], [(1, (.own 2 [[(I (x36.1.N)), (I (x36.1.D))]]))], (.ref 1 2 (0) 1), [], false⟩,
    ⟨[((.tmp 153), (B (false))), ((.tmp 154), (.ref 1 2 (0) 1))], [(1, (.own 2 [[(I (x36.1.N)), (I (x36.1.D))]]))], (I (x36.1.D)), [], false⟩,
    ⟨[((.tmp 153), (B (false))), ((.tmp 155), (I (x36.1.D))), ((.const (.int .i64 1)), (I (1)))], [], (B ((decide (x36.1.D < 1)))), [], false⟩,
    ⟨[((.tmp 153), (B (false))), ((.const (.bool true)), (B (true))), ((.tmp 156), (B ((decide (x36.1.D < 1)))))], [], (B ((decide (x36.1.D < 1)))), [], false⟩,
    ⟨[((.tmp 157), (B ((decide (x36.1.D < 1)))))], [], (B (false)), [], false⟩,
    ⟨[((.tmp 158), (B (false))), ((.tmp 22), (.ref 2 2 (0) 0))], [(2, (.own 2 [[(I (x38.1.N)), (I (x38.1.D))]]))], (.ref 2 2 (0) 1), [], false⟩,
    ⟨[((.tmp 158), (B (false))), ((.tmp 159), (.ref 2 2 (0) 1))], [(2, (.own 2 [[(I (x38.1.N)), (I (x38.1.D))]]))], (I (x38.1.D)), [], false⟩,
    ⟨[((.tmp 158), (B (false))), ((.tmp 160), (I (x38.1.D))), ((.const (.int .i64 1)), (I (1)))], [], (B ((decide (x38.1.D < 1)))), [], false⟩,
    ⟨[((.tmp 158), (B (false))), ((.const (.bool true)), (B (true))), ((.tmp 161), (B ((decide (x38.1.D < 1)))))], [], (B ((decide (x38.1.D < 1)))), [], false⟩,
    ⟨[((.tmp 162), (B ((decide (x38.1.D < 1)))))], [], (B (false)), [], false⟩,
    ⟨[((.tmp 163), (B (false))), ((.tmp 20), (.ref 1 2 (0) 0))], [(1, (.own 2 [[(I (x36.1.N)), (I (x36.1.D))]]))], (.ref 1 2 (0) 0), [], false⟩,
    ⟨[((.tmp 163), (B (false))), ((.tmp 164), (.ref 1 2 (0) 0))], [(1, (.own 2 [[(I (x36.1.N)), (I (x36.1.D))]]))], (I (x36.1.N)), [], false⟩,
    ⟨[((.tmp 163), (B (false))), ((.tmp 20), (.ref 1 2 (0) 0))], [(1, (.own 2 [[(I (x36.1.N)), (I (x36.1.D))]]))], (.ref 1 2 (0) 1), [], false⟩,
    ⟨[((.tmp 163), (B (false))), ((.tmp 166), (.ref 1 2 (0) 1))], [(1, (.own 2 [[(I (x36.1.N)), (I (x36.1.D))]]))], (I (x36.1.D)), [], false⟩,
    ⟨[((.tmp 163), (B (false))), ((.func 43), (.fn (.func 43) [] [])), ((.tmp 165), (I (x36.1.N))), ((.tmp 167), (I (x36.1.D)))], [], (I (x57)), [], false⟩,
    ⟨[((.tmp 163), (B (false))), ((.tmp 168), (I (x57))), ((.const (.int .i64 1)), (I (1)))], [], (B ((x57 != 1))), [], false⟩,
    ⟨[((.tmp 163), (B (false))), ((.const (.bool true)), (B (true))), ((.tmp 169), (B ((x57 != 1))))], [], (B ((x57 != 1))), [], false⟩] (by exact ⟨by kernel_rfl, by kernel_rfl⟩) ?_ ?_
                  · exact ⟨fun _ => astep_move rfl,
    fun _ => astep_bin rfl rfl,
    fun _ => astep_b hb52 (astep_move rfl),
    fun _ => astep_guard (astep_move rfl),
    fun _ => astep_guard (astep_bin rfl rfl),
    fun _ => astep_pick rfl rfl,
    fun _ => astep_b hb53 (astep_move rfl),
    fun _ => astep_guard (astep_faddr rfl Try.underlying83 rfl rfl ti3 (by decide) rfl),
    fun _ => astep_guard (astep_load rfl ti3 (by decide) rfl (Nat.le_of_ble_eq_true rfl) rfl),
    fun _ => astep_guard (astep_bin rfl rfl),
    fun _ => astep_pick rfl rfl,
    fun _ => astep_b hb54 (astep_move rfl),
    fun _ => astep_guard (astep_faddr rfl Try.underlying83 rfl rfl ti3 (by decide) rfl),
    fun _ => astep_guard (astep_load rfl ti3 (by decide) rfl (Nat.le_of_ble_eq_true rfl) rfl),
    fun _ => astep_guard (astep_bin rfl rfl),
    fun _ => astep_pick rfl rfl,
    fun _ => astep_b hb55 (astep_move rfl),
    fun _ => astep_guard (astep_faddr rfl Try.underlying83 rfl rfl ti3 (by decide) rfl),
    fun _ => astep_guard (astep_load rfl ti3 (by decide) rfl (Nat.le_of_ble_eq_true rfl) rfl),
    fun _ => astep_guard (astep_faddr rfl Try.underlying83 rfl rfl ti3 (by decide) rfl),
    fun _ => astep_guard (astep_load rfl ti3 (by decide) rfl (Nat.le_of_ble_eq_true rfl) rfl),
    fun _ => astep_guard (astep_pcall (first := []) (cap := []) (vs := [(I (x36.1.N)), (I (x36.1.D))]) rfl enter43 (ref01_GcdX_ok N x36.1.N x36.1.D _ hf56) rfl rfl (nl_cons (NLt.lit _) (nl_cons (NLt.lit _) nl_nil)) (NLt.lit _) rfl),
    fun _ => astep_guard (astep_bin rfl rfl),
    fun _ => astep_pick rfl rfl, trivial⟩
                  rcases Bool.eq_false_or_eq_true ((x57 != 1)) with hc58 | hc58
                  · replace h := bif_t hc58 h
                    refine awp_ift hc58 (by kernel_rfl) ?_
                    refine awp_reg [⟨[((.const (.bool false)), (B (false)))], [], (B (false)), [], false⟩] (by exact ⟨by kernel_rfl, by kernel_rfl⟩) ?_ ?_
                    · exact ⟨fun _ => astep_assign rfl, trivial⟩
                    refine awp_ret ?_
                    refine thenA_r ?_
                    obtain rfl := Option.some.inj h
                    exact ⟨⟨[(B (false))], ⟨resOK_tmp (by kernel_rfl), trivial⟩, rfl⟩, (NLt.lit _), Nat.le_refl _, fun n hn => absurd hn (Nat.not_lt_zero n)⟩
                  · replace h := bif_f hc58 h
                    refine awp_ifn hc58 (by kernel_rfl) ?_
                    refine awp_skip ?_
                    refine thenA_n ?_
                    exact ⟨(), h, (mor_to (n := 200) (l' := [(18, (I (x32))), (19, (I (x34))), (20, (.ref 0 2 (0) 0)), (22, (.ref 1 2 (0) 0))]) (own' := [(.own 2 [[(I (x36.1.N)), (I (x36.1.D))]]), (.own 2 [[(I (x38.1.N)), (I (x38.1.D))]])]) [(18, (I (x32))), (19, (I (x34))), (20, (.ref 1 2 (0) 0)), (22, (.ref 2 2 (0) 0))] [1, 2] [(.own 2 [[(I (x36.1.N)), (I (x36.1.D))]]), (.own 2 [[(I (x38.1.N)), (I (x38.1.D))]])] hφ0 (by kernel_rfl) (by kernel_rfl) (by kernel_rfl) ⟨rfl, .rn (.plain _ (NLt.lit _)), rfl, .rn (.plain _ (NLt.lit _)), rfl, .rn (rnq_ref rfl), rfl, .rn (rnq_ref rfl), trivial⟩ ⟨(spw_box ⟨(.rn (.plain _ (NLt.lit _))), (.rn (.plain _ (NLt.lit _))), trivial⟩), (spw_box ⟨(.rn (.plain _ (NLt.lit _))), (.rn (.plain _ (NLt.lit _))), trivial⟩), trivial⟩)⟩
      · skip
        rcases Bool.eq_false_or_eq_true ((x9 == 0)) with hb59 | hb59
        · replace h := bif_t hb59 h
          rcases Bool.eq_false_or_eq_true ((x21.2 != 7)) with hb60 | hb60
          · replace h := bif_t hb60 h
            refine awp_reg [⟨[((.tmp 10), (I (x9)))], [], (I (x9)), [], false⟩,
    ⟨[((.tmp 87), (I (x9))), ((.const (.int .i64 0)), (I (0)))], [], (B ((x9 == 0))), [], false⟩,
    ⟨[((.tmp 88), (B ((x9 == 0))))], [], (B (true)), [], false⟩,
    ⟨[((.tmp 89), (B (true))), ((.tmp 16), (I (x21.2)))], [], (I (x21.2)), [], false⟩,
    ⟨[((.tmp 89), (B (true))), ((.tmp 90), (I (x21.2))), ((.const (.int .i64 7)), (I (7)))], [], (B ((x21.2 != 7))), [], false⟩,
    ⟨[((.tmp 89), (B (true))), ((.tmp 91), (B ((x21.2 != 7))))], [], (B (true)), [], false⟩,
    ⟨[((.tmp 92), (B (true)))], [], (.lit undef), [], true⟩,
    ⟨[((.tmp 92), (B (true)))], [], (.lit undef), [], true⟩,
    ⟨[((.tmp 89), (B (true))), ((.tmp 92), (B (true))), ((.const (.bool true)), (B (true))), ((.tmp 94), (.lit undef))], [], (B (true)), [], false⟩,
    ⟨[((.tmp 89), (B (true))), ((.tmp 95), (B (true))), ((.const (.bool false)), (B (false)))], [], (B (true)), [], false⟩,
    ⟨[((.tmp 96), (B (true)))], [], (B (true)), [], false⟩,
    ⟨[((.tmp 97), (B (true)))], [], (.lit undef), [], true⟩,
    ⟨[((.tmp 97), (B (true)))], [], (.lit undef), [], true⟩,
    ⟨[((.tmp 97), (B (true)))], [], (.lit undef), [], true⟩,
    ⟨[((.tmp 100), (.lit undef))], [], (.lit undef), [], true⟩,
    ⟨[((.tmp 100), (.lit undef))], [], (.lit undef), [], true⟩,
    ⟨[((.tmp 100), (.lit undef))], [], (.lit undef), [], true⟩,
    ⟨[((.tmp 103), (.lit undef))], [], (.lit undef), [], true⟩,
    ⟨[((.tmp 103), (.lit undef))], [], (.lit undef), [], true⟩,
    ⟨[((.tmp 103), (.lit undef))], [], (.lit undef), [], true⟩,
    ⟨[((.tmp 103), (.lit undef))], [], (.lit undef), [], true⟩,
    ⟨[((.tmp 100), (.lit undef))], [], (.lit undef), [], true⟩,
    ⟨[((.tmp 97), (B (true)))], [], (.lit undef), [], true⟩,
    ⟨[((.tmp 97), (B (true))), ((.const (.bool true)), (B (true))), ((.tmp 109), (.lit undef))], [], (B (true)), [], false⟩] (by exact ⟨by kernel_rfl, by kernel_rfl⟩) ?_ ?_
            · exact ⟨fun _ => astep_move rfl,
    fun _ => astep_bin rfl rfl,
    fun _ => astep_b hb59 (astep_move rfl),
    fun _ => astep_guard (astep_move rfl),
    fun _ => astep_guard (astep_bin rfl rfl),
    fun _ => astep_b hb60 (astep_guard (astep_move rfl)),
    fun hs => (Bool.noConfusion hs),
    fun hs => (Bool.noConfusion hs),
    fun _ => astep_guard (astep_pick rfl rfl),
    fun _ => astep_pick rfl rfl,
    fun _ => astep_move rfl,
    fun hs => (Bool.noConfusion hs),
    fun hs => (Bool.noConfusion hs),
    fun hs => (Bool.noConfusion hs),
    fun hs => (Bool.noConfusion hs),
    fun hs => (Bool.noConfusion hs),
    fun hs => (Bool.noConfusion hs),
    fun hs => (Bool.noConfusion hs),
    fun hs => (Bool.noConfusion hs),
    fun hs => (Bool.noConfusion hs),
    fun hs => (Bool.noConfusion hs),
    fun hs => (Bool.noConfusion hs),
    fun hs => (Bool.noConfusion hs),
    fun _ => astep_pick rfl rfl, trivial⟩
            refine awp_true (by kernel_rfl) ?_
            refine awp_reg [⟨[((.const (.bool false)), (B (false)))], [], (B (false)), [], false⟩] (by exact ⟨by kernel_rfl, by kernel_rfl⟩) ?_ ?_
            · exact ⟨fun _ => astep_assign rfl, trivial⟩
            refine awp_ret ?_
            refine thenA_r ?_
            obtain rfl := Option.some.inj h
            exact ⟨⟨[(B (false))], ⟨resOK_tmp (by kernel_rfl), trivial⟩, rfl⟩, (NLt.lit _), Nat.le_refl _, fun n hn => absurd hn (Nat.not_lt_zero n)⟩
          · replace h := bif_f hb60 h
            rcases Bool.eq_false_or_eq_true ((x21.1 != 0)) with hb61 | hb61
            · replace h := bif_t hb61 h
              refine awp_reg [⟨[((.tmp 10), (I (x9)))], [], (I (x9)), [], false⟩,
    ⟨[((.tmp 87), (I (x9))), ((.const (.int .i64 0)), (I (0)))], [], (B ((x9 == 0))), [], false⟩,
    ⟨[((.tmp 88), (B ((x9 == 0))))], [], (B (true)), [], false⟩,
    ⟨[((.tmp 89), (B (true))), ((.tmp 16), (I (x21.2)))], [], (I (x21.2)), [], false⟩,
    ⟨[((.tmp 89), (B (true))), ((.tmp 90), (I (x21.2))), ((.const (.int .i64 7)), (I (7)))], [], (B ((x21.2 != 7))), [], false⟩,
    ⟨[((.tmp 89), (B (true))), ((.tmp 91), (B ((x21.2 != 7))))], [], (B (false)), [], false⟩,
    ⟨[((.tmp 92), (B (false))), ((.tmp 15), (I (x21.1)))], [], (I (x21.1)), [], false⟩,
    ⟨[((.tmp 92), (B (false))), ((.tmp 93), (I (x21.1))), ((.const (.int .i64 0)), (I (0)))], [], (B ((x21.1 != 0))), [], false⟩,
    ⟨[((.tmp 89), (B (true))), ((.tmp 92), (B (false))), ((.const (.bool true)), (B (true))), ((.tmp 94), (B ((x21.1 != 0))))], [], (B ((x21.1 != 0))), [], false⟩,
    ⟨[((.tmp 89), (B (true))), ((.tmp 95), (B ((x21.1 != 0)))), ((.const (.bool false)), (B (false)))], [], (B ((x21.1 != 0))), [], false⟩,
    ⟨[((.tmp 96), (B ((x21.1 != 0))))], [], (B (true)), [], false⟩,
    ⟨[((.tmp 97), (B (true)))], [], (.lit undef), [], true⟩,
    ⟨[((.tmp 97), (B (true)))], [], (.lit undef), [], true⟩,
    ⟨[((.tmp 97), (B (true)))], [], (.lit undef), [], true⟩,
    ⟨[((.tmp 100), (.lit undef))], [], (.lit undef), [], true⟩,
    ⟨[((.tmp 100), (.lit undef))], [], (.lit undef), [], true⟩,
    ⟨[((.tmp 100), (.lit undef))], [], (.lit undef), [], true⟩,
    ⟨[((.tmp 103), (.lit undef))], [], (.lit undef), [], true⟩,
    ⟨[((.tmp 103), (.lit undef))], [], (.lit undef), [], true⟩,
    ⟨[((.tmp 103), (.lit undef))], [], (.lit undef), [], true⟩,
    ⟨[((.tmp 103), (.lit undef))], [], (.lit undef), [], true⟩,
    ⟨[((.tmp 100), (.lit undef))], [], (.lit undef), [], true⟩,
    ⟨[((.tmp 97), (B (true)))], [], (.lit undef), [], true⟩,
    ⟨[((.tmp 97), (B (true))), ((.const (.bool true)), (B (true))), ((.tmp 109), (.lit undef))], [], (B (true)), [], false⟩] (by exact ⟨by kernel_rfl, by kernel_rfl⟩) ?_ ?_
              · exact ⟨fun _ => astep_move rfl,
    fun _ => astep_bin rfl rfl,
    fun _ => astep_b hb59 (astep_move rfl),
    fun _ => astep_guard (astep_move rfl),
    fun _ => astep_guard (astep_bin rfl rfl),
    fun _ => astep_b hb60 (astep_guard (astep_move rfl)),
    fun _ => astep_guard (astep_move rfl),
    fun _ => astep_guard (astep_bin rfl rfl),
    fun _ => astep_guard (astep_pick rfl rfl),
    fun _ => astep_pick rfl rfl,
    fun _ => astep_b hb61 (astep_move rfl),
    fun hs => (Bool.noConfusion hs),
    fun hs => (Bool.noConfusion hs),
    fun hs => (Bool.noConfusion hs),
    fun hs => (Bool.noConfusion hs),
    fun hs => (Bool.noConfusion hs),
    fun hs => (Bool.noConfusion hs),
    fun hs => (Bool.noConfusion hs),
    fun hs => (Bool.noConfusion hs),
    fun hs => (Bool.noConfusion hs),
    fun hs => (Bool.noConfusion hs),
    fun hs => (Bool.noConfusion hs),
    fun hs => (Bool.noConfusion hs),
    fun _ => astep_pick rfl rfl, trivial⟩
              refine awp_true (by kernel_rfl) ?_
              refine awp_reg [⟨[((.const (.bool false)), (B (false)))], [], (B (false)), [], false⟩] (by exact ⟨by kernel_rfl, by kernel_rfl⟩) ?_ ?_
              · exact ⟨fun _ => astep_assign rfl, trivial⟩
              refine awp_ret ?_
              refine thenA_r ?_
              obtain rfl := Option.some.inj h
              exact ⟨⟨[(B (false))], ⟨resOK_tmp (by kernel_rfl), trivial⟩, rfl⟩, (NLt.lit _), Nat.le_refl _, fun n hn => absurd hn (Nat.not_lt_zero n)⟩
            · replace h := bif_f hb61 h
              rcases Bool.eq_false_or_eq_true ((decide (x9 > 0))) with hb62 | hb62
              · replace h := bif_t hb62 h
                rcases Bool.eq_false_or_eq_true ((x21.2 != 0)) with hb63 | hb63
                · replace h := bif_t hb63 h
                  refine awp_reg [⟨[((.tmp 10), (I (x9)))], [], (I (x9)), [], false⟩,
    ⟨[((.tmp 87), (I (x9))), ((.const (.int .i64 0)), (I (0)))], [], (B ((x9 == 0))), [], false⟩,
    ⟨[((.tmp 88), (B ((x9 == 0))))], [], (B (true)), [], false⟩,
    ⟨[((.tmp 89), (B (true))), ((.tmp 16), (I (x21.2)))], [], (I (x21.2)), [], false⟩,
    ⟨[((.tmp 89), (B (true))), ((.tmp 90), (I (x21.2))), ((.const (.int .i64 7)), (I (7)))], [], (B ((x21.2 != 7))), [], false⟩,
    ⟨[((.tmp 89), (B (true))), ((.tmp 91), (B ((x21.2 != 7))))], [], (B (false)), [], false⟩,
    ⟨[((.tmp 92), (B (false))), ((.tmp 15), (I (x21.1)))], [], (I (x21.1)), [], false⟩,
    ⟨[((.tmp 92), (B (false))), ((.tmp 93), (I (x21.1))), ((.const (.int .i64 0)), (I (0)))], [], (B ((x21.1 != 0))), [], false⟩,
    ⟨[((.tmp 89), (B (true))), ((.tmp 92), (B (false))), ((.const (.bool true)), (B (true))), ((.tmp 94), (B ((x21.1 != 0))))], [], (B ((x21.1 != 0))), [], false⟩,
    ⟨[((.tmp 89), (B (true))), ((.tmp 95), (B ((x21.1 != 0)))), ((.const (.bool false)), (B (false)))], [], (B ((x21.1 != 0))), [], false⟩,
    ⟨[((.tmp 96), (B ((x21.1 != 0))))], [], (B (false)), [], false⟩,
    ⟨[((.tmp 97), (B (false))), ((.tmp 10), (I (x9)))], [], (I (x9)), [], false⟩,
    ⟨[((.tmp 97), (B (false))), ((.tmp 98), (I (x9))), ((.const (.int .i64 0)), (I (0)))], [], (B ((decide (x9 > 0)))), [], false⟩,
    ⟨[((.tmp 97), (B (false))), ((.tmp 99), (B ((decide (x9 > 0)))))], [], (B (true)), [], false⟩,
    ⟨[((.tmp 100), (B (true))), ((.tmp 16), (I (x21.2)))], [], (I (x21.2)), [], false⟩,
    ⟨[((.tmp 100), (B (true))), ((.tmp 101), (I (x21.2))), ((.const (.int .i64 0)), (I (0)))], [], (B ((x21.2 != 0))), [], false⟩,
    ⟨[((.tmp 100), (B (true))), ((.tmp 102), (B ((x21.2 != 0))))], [], (B (true)), [], false⟩,
    ⟨[((.tmp 103), (B (true)))], [], (.lit undef), [], true⟩,
    ⟨[((.tmp 103), (B (true)))], [], (.lit undef), [], true⟩,
    ⟨[((.tmp 103), (B (true)))], [], (.lit undef), [], true⟩,
    ⟨[((.tmp 103), (B (true)))], [], (.lit undef), [], true⟩,
    ⟨[((.tmp 100), (B (true))), ((.tmp 103), (B (true))), ((.const (.bool true)), (B (true))), ((.tmp 107), (.lit undef))], [], (B (true)), [], false⟩,
    ⟨[((.tmp 97), (B (false))), ((.tmp 100), (B (true))), ((.tmp 108), (B (true))), ((.const (.bool false)), (B (false)))], [], (B (true)), [], false⟩,
    ⟨[((.tmp 97), (B (false))), ((.const (.bool true)), (B (true))), ((.tmp 109), (B (true)))], [], (B (true)), [], false⟩] (by exact ⟨by kernel_rfl, by kernel_rfl⟩) ?_ ?_
                  · exact ⟨fun _ => astep_move rfl,
    fun _ => astep_bin rfl rfl,
    fun _ => astep_b hb59 (astep_move rfl),
    fun _ => astep_guard (astep_move rfl),
    fun _ => astep_guard (astep_bin rfl rfl),
    fun _ => astep_b hb60 (astep_guard (astep_move rfl)),
    fun _ => astep_guard (astep_move rfl),
    fun _ => astep_guard (astep_bin rfl rfl),
    fun _ => astep_guard (astep_pick rfl rfl),
    fun _ => astep_pick rfl rfl,
    fun _ => astep_b hb61 (astep_move rfl),
    fun _ => astep_guard (astep_move rfl),
    fun _ => astep_guard (astep_bin rfl rfl),
    fun _ => astep_b hb62 (astep_guard (astep_move rfl)),
    fun _ => astep_guard (astep_move rfl),
    fun _ => astep_guard (astep_bin rfl rfl),
    fun _ => astep_b hb63 (astep_guard (astep_move rfl)),
    fun hs => (Bool.noConfusion hs),
    fun hs => (Bool.noConfusion hs),
    fun hs => (Bool.noConfusion hs),
    fun hs => (Bool.noConfusion hs),
    fun _ => astep_guard (astep_pick rfl rfl),
    fun _ => astep_guard (astep_pick rfl rfl),
    fun _ => astep_pick rfl rfl, trivial⟩
                  refine awp_true (by kernel_rfl) ?_
                  refine awp_reg [⟨[((.const (.bool false)), (B (false)))], [], (B (false)), [], false⟩] (by exact ⟨by kernel_rfl, by kernel_rfl⟩) ?_ ?_
                  · exact ⟨fun _ => astep_assign rfl, trivial⟩
                  refine awp_ret ?_
                  refine thenA_r ?_
                  obtain rfl := Option.some.inj h
                  exact ⟨⟨[(B (false))], ⟨resOK_tmp (by kernel_rfl), trivial⟩, rfl⟩, (NLt.lit _), Nat.le_refl _, fun n hn => absurd hn (Nat.not_lt_zero n)⟩
                · replace h := bif_f hb63 h
                  refine awp_reg [⟨[((.tmp 10), (I (x9)))], [], (I (x9)), [], false⟩,
    ⟨[((.tmp 87), (I (x9))), ((.const (.int .i64 0)), (I (0)))], [], (B ((x9 == 0))), [], false⟩,
    ⟨[((.tmp 88), (B ((x9 == 0))))], [], (B (true)), [], false⟩,
    ⟨[((.tmp 89), (B (true))), ((.tmp 16), (I (x21.2)))], [], (I (x21.2)), [], false⟩,
    ⟨[((.tmp 89), (B (true))), ((.tmp 90), (I (x21.2))), ((.const (.int .i64 7)), (I (7)))], [], (B ((x21.2 != 7))), [], false⟩,
    ⟨[((.tmp 89), (B (true))), ((.tmp 91), (B ((x21.2 != 7))))], [], (B (false)), [], false⟩,
    ⟨[((.tmp 92), (B (false))), ((.tmp 15), (I (x21.1)))], [], (I (x21.1)), [], false⟩,
    ⟨[((.tmp 92), (B (false))), ((.tmp 93), (I (x21.1))), ((.const (.int .i64 0)), (I (0)))], [], (B ((x21.1 != 0))), [], false⟩,
    ⟨[((.tmp 89), (B (true))), ((.tmp 92), (B (false))), ((.const (.bool true)), (B (true))), ((.tmp 94), (B ((x21.1 != 0))))], [], (B ((x21.1 != 0))), [], false⟩,
    ⟨[((.tmp 89), (B (true))), ((.tmp 95), (B ((x21.1 != 0)))), ((.const (.bool false)), (B (false)))], [], (B ((x21.1 != 0))), [], false⟩,
    ⟨[((.tmp 96), (B ((x21.1 != 0))))], [], (B (false)), [], false⟩,
    ⟨[((.tmp 97), (B (false))), ((.tmp 10), (I (x9)))], [], (I (x9)), [], false⟩,
    ⟨[((.tmp 97), (B (false))), ((.tmp 98), (I (x9))), ((.const (.int .i64 0)), (I (0)))], [], (B ((decide (x9 > 0)))), [], false⟩,
    ⟨[((.tmp 97), (B (false))), ((.tmp 99), (B ((decide (x9 > 0)))))], [], (B (true)), [], false⟩,
    ⟨[((.tmp 100), (B (true))), ((.tmp 16), (I (x21.2)))], [], (I (x21.2)), [], false⟩,
    ⟨[((.tmp 100), (B (true))), ((.tmp 101), (I (x21.2))), ((.const (.int .i64 0)), (I (0)))], [], (B ((x21.2 != 0))), [], false⟩,
    ⟨[((.tmp 100), (B (true))), ((.tmp 102), (B ((x21.2 != 0))))], [], (B (false)), [], false⟩,
    ⟨[((.tmp 103), (B (false))), ((.tmp 15), (I (x21.1)))], [], (I (x21.1)), [], false⟩,
    ⟨[((.tmp 103), (B (false))), ((.tmp 10), (I (x9)))], [], (I (x9)), [], false⟩,
    ⟨[((.tmp 103), (B (false))), ((.tmp 105), (I (x9))), ((.const (.int .i64 1)), (I (1)))], [], (I (w64 (x9 - 1))), [], false⟩,
    ⟨[((.tmp 103), (B (false))), ((.tmp 104), (I (x21.1))), ((.tmp 106), (I (w64 (x9 - 1))))], [], (B ((x21.1 != (w64 (x9 - 1))))), [], false⟩,
    ⟨[((.tmp 100), (B (true))), ((.tmp 103), (B (false))), ((.const (.bool true)), (B (true))), ((.tmp 107), (B ((x21.1 != (w64 (x9 - 1))))))], [], (B ((x21.1 != (w64 (x9 - 1))))), [], false⟩,
    ⟨[((.tmp 97), (B (false))), ((.tmp 100), (B (true))), ((.tmp 108), (B ((x21.1 != (w64 (x9 - 1)))))), ((.const (.bool false)), (B (false)))], [], (B ((x21.1 != (w64 (x9 - 1))))), [], false⟩,
    ⟨[((.tmp 97), (B (false))), ((.const (.bool true)), (B (true))), ((.tmp 109), (B ((x21.1 != (w64 (x9 - 1))))))], [], (B ((x21.1 != (w64 (x9 - 1))))), [], false⟩] (by exact ⟨by kernel_rfl, by kernel_rfl⟩) ?_ ?_
                  · exact ⟨fun _ => astep_move rfl,
    fun _ => astep_bin rfl rfl,
    fun _ => astep_b hb59 (astep_move rfl),
    fun _ => astep_guard (astep_move rfl),
    fun _ => astep_guard (astep_bin rfl rfl),
    fun _ => astep_b hb60 (astep_guard (astep_move rfl)),
    fun _ => astep_guard (astep_move rfl),
    fun _ => astep_guard (astep_bin rfl rfl),
    fun _ => astep_guard (astep_pick rfl rfl),
    fun _ => astep_pick rfl rfl,
    fun _ => astep_b hb61 (astep_move rfl),
    fun _ => astep_guard (astep_move rfl),
    fun _ => astep_guard (astep_bin rfl rfl),
    fun _ => astep_b hb62 (astep_guard (astep_move rfl)),
    fun _ => astep_guard (astep_move rfl),
    fun _ => astep_guard (astep_bin rfl rfl),
    fun _ => astep_b hb63 (astep_guard (astep_move rfl)),
    fun _ => astep_guard (astep_move rfl),
    fun _ => astep_guard (astep_move rfl),
    fun _ => astep_guard (astep_bin rfl rfl),
    fun _ => astep_guard (astep_bin rfl rfl),
    fun _ => astep_guard (astep_pick rfl rfl),
    fun _ => astep_guard (astep_pick rfl rfl),
    fun _ => astep_pick rfl rfl, trivial⟩
                  rcases Bool.eq_false_or_eq_true ((x21.1 != (w64 (x9 - 1)))) with hc64 | hc64
                  · replace h := bif_t hc64 h
                    refine awp_ift hc64 (by kernel_rfl) ?_
                    refine awp_reg [⟨[((.const (.bool false)), (B (false)))], [], (B (false)), [], false⟩] (by exact ⟨by kernel_rfl, by kernel_rfl⟩) ?_ ?_
                    · exact ⟨fun _ => astep_assign rfl, trivial⟩
                    refine awp_ret ?_
                    refine thenA_r ?_
                    obtain rfl := Option.some.inj h
                    exact ⟨⟨[(B (false))], ⟨resOK_tmp (by kernel_rfl), trivial⟩, rfl⟩, (NLt.lit _), Nat.le_refl _, fun n hn => absurd hn (Nat.not_lt_zero n)⟩
                  · replace h := bif_f hc64 h
                    refine awp_ifn hc64 (by kernel_rfl) ?_
                    refine awp_skip ?_
                    refine thenA_n ?_
                    exact ⟨(), h, (mor_to (n := 200) (l' := [(0, (.dat 5 ((p0 : List GRow).map c_GRow))), (2, (K .u16 (p2))), (3, (K .u16 (p3))), (9, (.dat 5 ((x7 : List GRow).map c_GRow)))]) (own' := []) [(0, (.dat 5 ((p0 : List GRow).map c_GRow))), (2, (K .u16 (p2))), (3, (K .u16 (p3))), (9, (.dat 5 ((x7 : List GRow).map c_GRow)))] [] [] hφ0 (by kernel_rfl) (by kernel_rfl) (by kernel_rfl) ⟨rfl, .rn (.plain _ (nl_dat nl_GRow _)), rfl, .rn (.plain _ (NLt.lit _)), rfl, .rn (.plain _ (NLt.lit _)), rfl, .rn (.plain _ (nl_dat nl_GRow _)), trivial⟩ trivial)⟩
              · replace h := bif_f hb62 h
                refine awp_reg [⟨[((.tmp 10), (I (x9)))], [], (I (x9)), [], false⟩,
    ⟨[((.tmp 87), (I (x9))), ((.const (.int .i64 0)), (I (0)))], [], (B ((x9 == 0))), [], false⟩,
    ⟨[((.tmp 88), (B ((x9 == 0))))], [], (B (true)), [], false⟩,
    ⟨[((.tmp 89), (B (true))), ((.tmp 16), (I (x21.2)))], [], (I (x21.2)), [], false⟩,
    ⟨[((.tmp 89), (B (true))), ((.tmp 90), (I (x21.2))), ((.const (.int .i64 7)), (I (7)))], [], (B ((x21.2 != 7))), [], false⟩,
    ⟨[((.tmp 89), (B (true))), ((.tmp 91), (B ((x21.2 != 7))))], [], (B (false)), [], false⟩,
    ⟨[((.tmp 92), (B (false))), ((.tmp 15), (I (x21.1)))], [], (I (x21.1)), [], false⟩,
    ⟨[((.tmp 92), (B (false))), ((.tmp 93), (I (x21.1))), ((.const (.int .i64 0)), (I (0)))], [], (B ((x21.1 != 0))), [], false⟩,
    ⟨[((.tmp 89), (B (true))), ((.tmp 92), (B (false))), ((.const (.bool true)), (B (true))), ((.tmp 94), (B ((x21.1 != 0))))], [], (B ((x21.1 != 0))), [], false⟩,
    ⟨[((.tmp 89), (B (true))), ((.tmp 95), (B ((x21.1 != 0)))), ((.const (.bool false)), (B (false)))], [], (B ((x21.1 != 0))), [], false⟩,
    ⟨[((.tmp 96), (B ((x21.1 != 0))))], [], (B (false)), [], false⟩,
    ⟨[((.tmp 97), (B (false))), ((.tmp 10), (I (x9)))], [], (I (x9)), [], false⟩,
    ⟨[((.tmp 97), (B (false))), ((.tmp 98), (I (x9))), ((.const (.int .i64 0)), (I (0)))], [], (B ((decide (x9 > 0)))), [], false⟩,
    ⟨[((.tmp 97), (B (false))), ((.tmp 99), (B ((decide (x9 > 0)))))], [], (B (false)), [], false⟩,
    ⟨[((.tmp 100), (B (false)))], [], (.lit undef), [], true⟩,
    ⟨[((.tmp 100), (B (false)))], [], (.lit undef), [], true⟩,
    ⟨[((.tmp 100), (B (false)))], [], (.lit undef), [], true⟩,
    ⟨[((.tmp 103), (.lit undef))], [], (.lit undef), [], true⟩,
    ⟨[((.tmp 103), (.lit undef))], [], (.lit undef), [], true⟩,
    ⟨[((.tmp 103), (.lit undef))], [], (.lit undef), [], true⟩,
    ⟨[((.tmp 103), (.lit undef))], [], (.lit undef), [], true⟩,
    ⟨[((.tmp 100), (B (false)))], [], (.lit undef), [], true⟩,
    ⟨[((.tmp 97), (B (false))), ((.tmp 100), (B (false))), ((.tmp 108), (.lit undef)), ((.const (.bool false)), (B (false)))], [], (B (false)), [], false⟩,
    ⟨[((.tmp 97), (B (false))), ((.const (.bool true)), (B (true))), ((.tmp 109), (B (false)))], [], (B (false)), [], false⟩] (by exact ⟨by kernel_rfl, by kernel_rfl⟩) ?_ ?_
                · exact ⟨fun _ => astep_move rfl,
    fun _ => astep_bin rfl rfl,
    fun _ => astep_b hb59 (astep_move rfl),
    fun _ => astep_guard (astep_move rfl),
    fun _ => astep_guard (astep_bin rfl rfl),
    fun _ => astep_b hb60 (astep_guard (astep_move rfl)),
    fun _ => astep_guard (astep_move rfl),
    fun _ => astep_guard (astep_bin rfl rfl),
    fun _ => astep_guard (astep_pick rfl rfl),
    fun _ => astep_pick rfl rfl,
    fun _ => astep_b hb61 (astep_move rfl),
    fun _ => astep_guard (astep_move rfl),
    fun _ => astep_guard (astep_bin rfl rfl),
    fun _ => astep_b hb62 (astep_guard (astep_move rfl)),
    fun hs => (Bool.noConfusion hs),
    fun hs => (Bool.noConfusion hs),
    fun hs => (Bool.noConfusion hs),
    fun hs => (Bool.noConfusion hs),
    fun hs => (Bool.noConfusion hs),
    fun hs => (Bool.noConfusion hs),
    fun hs => (Bool.noConfusion hs),
    fun hs => (Bool.noConfusion hs),
    fun _ => astep_guard (astep_pick rfl rfl),
    fun _ => astep_pick rfl rfl, trivial⟩
                refine awp_false (by kernel_rfl) ?_
                refine awp_skip ?_
                refine thenA_n ?_
                exact ⟨(), h, (mor_to (n := 200) (l' := [(0, (.dat 5 ((p0 : List GRow).map c_GRow))), (2, (K .u16 (p2))), (3, (K .u16 (p3))), (9, (.dat 5 ((x7 : List GRow).map c_GRow)))]) (own' := []) [(0, (.dat 5 ((p0 : List GRow).map c_GRow))), (2, (K .u16 (p2))), (3, (K .u16 (p3))), (9, (.dat 5 ((x7 : List GRow).map c_GRow)))] [] [] hφ0 (by kernel_rfl) (by kernel_rfl) (by kernel_rfl) ⟨rfl, .rn (.plain _ (nl_dat nl_GRow _)), rfl, .rn (.plain _ (NLt.lit _)), rfl, .rn (.plain _ (NLt.lit _)), rfl, .rn (.plain _ (nl_dat nl_GRow _)), trivial⟩ trivial)⟩
        · replace h := bif_f hb59 h
          rcases Bool.eq_false_or_eq_true ((decide (x9 > 0))) with hb65 | hb65
          · replace h := bif_t hb65 h
            rcases Bool.eq_false_or_eq_true ((x21.2 != 0)) with hb66 | hb66
            · replace h := bif_t hb66 h
              refine awp_reg [⟨[((.tmp 10), (I (x9)))], [], (I (x9)), [], false⟩,
    ⟨[((.tmp 87), (I (x9))), ((.const (.int .i64 0)), (I (0)))], [], (B ((x9 == 0))), [], false⟩,
    ⟨[((.tmp 88), (B ((x9 == 0))))], [], (B (false)), [], false⟩,
    ⟨[((.tmp 89), (B (false)))], [], (.lit undef), [], true⟩,
    ⟨[((.tmp 89), (B (false)))], [], (.lit undef), [], true⟩,
    ⟨[((.tmp 89), (B (false)))], [], (.lit undef), [], true⟩,
    ⟨[((.tmp 92), (.lit undef))], [], (.lit undef), [], true⟩,
    ⟨[((.tmp 92), (.lit undef))], [], (.lit undef), [], true⟩,
    ⟨[((.tmp 89), (B (false)))], [], (.lit undef), [], true⟩,
    ⟨[((.tmp 89), (B (false))), ((.tmp 95), (.lit undef)), ((.const (.bool false)), (B (false)))], [], (B (false)), [], false⟩,
    ⟨[((.tmp 96), (B (false)))], [], (B (false)), [], false⟩,
    ⟨[((.tmp 97), (B (false))), ((.tmp 10), (I (x9)))], [], (I (x9)), [], false⟩,
    ⟨[((.tmp 97), (B (false))), ((.tmp 98), (I (x9))), ((.const (.int .i64 0)), (I (0)))], [], (B ((decide (x9 > 0)))), [], false⟩,
    ⟨[((.tmp 97), (B (false))), ((.tmp 99), (B ((decide (x9 > 0)))))], [], (B (true)), [], false⟩,
    ⟨[((.tmp 100), (B (true))), ((.tmp 16), (I (x21.2)))], [], (I (x21.2)), [], false⟩,
    ⟨[((.tmp 100), (B (true))), ((.tmp 101), (I (x21.2))), ((.const (.int .i64 0)), (I (0)))], [], (B ((x21.2 != 0))), [], false⟩,
    ⟨[((.tmp 100), (B (true))), ((.tmp 102), (B ((x21.2 != 0))))], [], (B (true)), [], false⟩,
    ⟨[((.tmp 103), (B (true)))], [], (.lit undef), [], true⟩,
    ⟨[((.tmp 103), (B (true)))], [], (.lit undef), [], true⟩,
    ⟨[((.tmp 103), (B (true)))], [], (.lit undef), [], true⟩,
    ⟨[((.tmp 103), (B (true)))], [], (.lit undef), [], true⟩,
    ⟨[((.tmp 100), (B (true))), ((.tmp 103), (B (true))), ((.const (.bool true)), (B (true))), ((.tmp 107), (.lit undef))], [], (B (true)), [], false⟩,
    ⟨[((.tmp 97), (B (false))), ((.tmp 100), (B (true))), ((.tmp 108), (B (true))), ((.const (.bool false)), (B (false)))], [], (B (true)), [], false⟩,
    ⟨[((.tmp 97), (B (false))), ((.const (.bool true)), (B (true))), ((.tmp 109), (B (true)))], [], (B (true)), [], false⟩] (by exact ⟨by kernel_rfl, by kernel_rfl⟩) ?_ ?_
              · exact ⟨fun _ => astep_move rfl,
    fun _ => astep_bin rfl rfl,
    fun _ => astep_b hb59 (astep_move rfl),
    fun hs => (Bool.noConfusion hs),
    fun hs => (Bool.noConfusion hs),
    fun hs => (Bool.noConfusion hs),
    fun hs => (Bool.noConfusion hs),
    fun hs => (Bool.noConfusion hs),
    fun hs => (Bool.noConfusion hs),
    fun _ => astep_pick rfl rfl,
    fun _ => astep_move rfl,
    fun _ => astep_guard (astep_move rfl),
    fun _ => astep_guard (astep_bin rfl rfl),
    fun _ => astep_b hb65 (astep_guard (astep_move rfl)),
    fun _ => astep_guard (astep_move rfl),
    fun _ => astep_guard (astep_bin rfl rfl),
    fun _ => astep_b hb66 (astep_guard (astep_move rfl)),
    fun hs => (Bool.noConfusion hs),
    fun hs => (Bool.noConfusion hs),
    fun hs => (Bool.noConfusion hs),
    fun hs => (Bool.noConfusion hs),
    fun _ => astep_guard (astep_pick rfl rfl),
    fun _ => astep_guard (astep_pick rfl rfl),
    fun _ => astep_pick rfl rfl, trivial⟩
              refine awp_true (by kernel_rfl) ?_
              refine awp_reg [⟨[((.const (.bool false)), (B (false)))], [], (B (false)), [], false⟩] (by exact ⟨by kernel_rfl, by kernel_rfl⟩) ?_ ?_
              · exact ⟨fun _ => astep_assign rfl, trivial⟩
              refine awp_ret ?_
              refine thenA_r ?_
              obtain rfl := Option.some.inj h
              exact ⟨⟨[(B (false))], ⟨resOK_tmp (by kernel_rfl), trivial⟩, rfl⟩, (NLt.lit _), Nat.le_refl _, fun n hn => absurd hn (Nat.not_lt_zero n)⟩
            · replace h := bif_f hb66 h
              refine awp_reg [⟨[((.tmp 10), (I (x9)))], [], (I (x9)), [], false⟩,
    ⟨[((.tmp 87), (I (x9))), ((.const (.int .i64 0)), (I (0)))], [], (B ((x9 == 0))), [], false⟩,
    ⟨[((.tmp 88), (B ((x9 == 0))))], [], (B (false)), [], false⟩,
    ⟨[((.tmp 89), (B (false)))], [], (.lit undef), [], true⟩,
    ⟨[((.tmp 89), (B (false)))], [], (.lit undef), [], true⟩,
    ⟨[((.tmp 89), (B (false)))], [], (.lit undef), [], true⟩,
    ⟨[((.tmp 92), (.lit undef))], [], (.lit undef), [], true⟩,
    ⟨[((.tmp 92), (.lit undef))], [], (.lit undef), [], true⟩,
    ⟨[((.tmp 89), (B (false)))], [], (.lit undef), [], true⟩,
    ⟨[((.tmp 89), (B (false))), ((.tmp 95), (.lit undef)), ((.const (.bool false)), (B (false)))], [], (B (false)), [], false⟩,
    ⟨[((.tmp 96), (B (false)))], [], (B (false)), [], false⟩,
    ⟨[((.tmp 97), (B (false))), ((.tmp 10), (I (x9)))], [], (I (x9)), [], false⟩,
    ⟨[((.tmp 97), (B (false))), ((.tmp 98), (I (x9))), ((.const (.int .i64 0)), (I (0)))], [], (B ((decide (x9 > 0)))), [], false⟩,
    ⟨[((.tmp 97), (B (false))), ((.tmp 99), (B ((decide (x9 > 0)))))], [], (B (true)), [], false⟩,
    ⟨[((.tmp 100), (B (true))), ((.tmp 16), (I (x21.2)))], [], (I (x21.2)), [], false⟩,
    ⟨[((.tmp 100), (B (true))), ((.tmp 101), (I (x21.2))), ((.const (.int .i64 0)), (I (0)))], [], (B ((x21.2 != 0))), [], false⟩,
    ⟨[((.tmp 100), (B (true))), ((.tmp 102), (B ((x21.2 != 0))))], [], (B (false)), [], false⟩,
    ⟨[((.tmp 103), (B (false))), ((.tmp 15), (I (x21.1)))], [], (I (x21.1)), [], false⟩,
    ⟨[((.tmp 103), (B (false))), ((.tmp 10), (I (x9)))], [], (I (x9)), [], false⟩,
    ⟨[((.tmp 103), (B (false))), ((.tmp 105), (I (x9))), ((.const (.int .i64 1)), (I (1)))], [], (I (w64 (x9 - 1))), [], false⟩,
    ⟨[((.tmp 103), (B (false))), ((.tmp 104), (I (x21.1))), ((.tmp 106), (I (w64 (x9 - 1))))], [], (B ((x21.1 != (w64 (x9 - 1))))), [], false⟩,
    ⟨[((.tmp 100), (B (true))), ((.tmp 103), (B (false))), ((.const (.bool true)), (B (true))), ((.tmp 107), (B ((x21.1 != (w64 (x9 - 1))))))], [], (B ((x21.1 != (w64 (x9 - 1))))), [], false⟩,
    ⟨[((.tmp 97), (B (false))), ((.tmp 100), (B (true))), ((.tmp 108), (B ((x21.1 != (w64 (x9 - 1)))))), ((.const (.bool false)), (B (false)))], [], (B ((x21.1 != (w64 (x9 - 1))))), [], false⟩,
    ⟨[((.tmp 97), (B (false))), ((.const (.bool true)), (B (true))), ((.tmp 109), (B ((x21.1 != (w64 (x9 - 1))))))], [], (B ((x21.1 != (w64 (x9 - 1))))), [], false⟩] (by exact ⟨by kernel_rfl, by kernel_rfl⟩) ?_ ?_
              · exact ⟨fun _ => astep_move rfl,
    fun _ => astep_bin rfl rfl,
    fun _ => astep_b hb59 (astep_move rfl),
    fun hs => (Bool.noConfusion hs),
    fun hs => (Bool.noConfusion hs),
    fun hs => (Bool.noConfusion hs),
    fun hs => (Bool.noConfusion hs),
    fun hs => (Bool.noConfusion hs),
    fun hs => (Bool.noConfusion hs),
    fun _ => astep_pick rfl rfl,
    fun _ => astep_move rfl,
    fun _ => astep_guard (astep_move rfl),
    fun _ => astep_guard (astep_bin rfl rfl),
    fun _ => astep_b hb65 (astep_guard (astep_move rfl)),
    fun _ => astep_guard (astep_move rfl),
    fun _ => astep_guard (astep_bin rfl rfl),
    fun _ => astep_b hb66 (astep_guard (astep_move rfl)),
    fun _ => astep_guard (astep_move rfl),
    fun _ => astep_guard (astep_move rfl),
    fun _ => astep_guard (astep_bin rfl rfl),
    fun _ => astep_guard (astep_bin rfl rfl),
    fun _ => astep_guard (astep_pick rfl rfl),
    fun _ => astep_guard (astep_pick rfl rfl),
    fun _ => astep_pick rfl rfl, trivial⟩
              rcases Bool.eq_false_or_eq_true ((x21.1 != (w64 (x9 - 1)))) with hc67 | hc67
              · replace h := bif_t hc67 h
                refine awp_ift hc67 (by kernel_rfl) ?_
                refine awp_reg [⟨[((.const (.bool false)), (B (false)))], [], (B (false)), [], false⟩] (by exact ⟨by kernel_rfl, by kernel_rfl⟩) ?_ ?_
                · exact ⟨fun _ => astep_assign rfl, trivial⟩
                refine awp_ret ?_
                refine thenA_r ?_
                obtain rfl := Option.some.inj h
                exact ⟨⟨[(B (false))], ⟨resOK_tmp (by kernel_rfl), trivial⟩, rfl⟩, (NLt.lit _), Nat.le_refl _, fun n hn => absurd hn (Nat.not_lt_zero n)⟩
              · replace h := bif_f hc67 h
                refine awp_ifn hc67 (by kernel_rfl) ?_
                refine awp_skip ?_
                refine thenA_n ?_
                exact ⟨(), h, (mor_to (n := 200) (l' := [(0, (.dat 5 ((p0 : List GRow).map c_GRow))), (2, (K .u16 (p2))), (3, (K .u16 (p3))), (9, (.dat 5 ((x7 : List GRow).map c_GRow)))]) (own' := []) [(0, (.dat 5 ((p0 : List GRow).map c_GRow))), (2, (K .u16 (p2))), (3, (K .u16 (p3))), (9, (.dat 5 ((x7 : List GRow).map c_GRow)))] [] [] hφ0 (by kernel_rfl) (by kernel_rfl) (by kernel_rfl) ⟨rfl, .rn (.plain _ (nl_dat nl_GRow _)), rfl, .rn (.plain _ (NLt.lit _)), rfl, .rn (.plain _ (NLt.lit _)), rfl, .rn (.plain _ (nl_dat nl_GRow _)), trivial⟩ trivial)⟩
          · replace h := bif_f hb65 h
            refine awp_reg [⟨[((.tmp 10), (I (x9)))], [], (I (x9)), [], false⟩,
    ⟨[((.tmp 87), (I (x9))), ((.const (.int .i64 0)), (I (0)))], [], (B ((x9 == 0))), [], false⟩,
    ⟨[((.tmp 88), (B ((x9 == 0))))], [], (B (false)), [], false⟩,
    ⟨[((.tmp 89), (B (false)))], [], (.lit undef), [], true⟩,
    ⟨[((.tmp 89), (B (false)))], [], (.lit undef), [], true⟩,
    ⟨[((.tmp 89), (B (false)))], [], (.lit undef), [], true⟩,
    ⟨[((.tmp 92), (.lit undef))], [], (.lit undef), [], true⟩,
    ⟨[((.tmp 92), (.lit undef))], [], (.lit undef), [], true⟩,
    ⟨[((.tmp 89), (B (false)))], [], (.lit undef), [], true⟩,
    ⟨[((.tmp 89), (B (false))), ((.tmp 95), (.lit undef)), ((.const (.bool false)), (B (false)))], [], (B (false)), [], false⟩,
    ⟨[((.tmp 96), (B (false)))], [], (B (false)), [], false⟩,
    ⟨[((.tmp 97), (B (false))), ((.tmp 10), (I (x9)))], [], (I (x9)), [], false⟩,
    ⟨[((.tmp 97), (B (false))), ((.tmp 98), (I (x9))), ((.const (.int .i64 0)), (I (0)))], [], (B ((decide (x9 > 0)))), [], false⟩,
    ⟨[((.tmp 97), (B (false))), ((.tmp 99), (B ((decide (x9 > 0)))))], [], (B (false)), [], false⟩,
    ⟨[((.tmp 100), (B (false)))], [], (.lit undef), [], true⟩,
    ⟨[((.tmp 100), (B (false)))], [], (.lit undef), [], true⟩,
    ⟨[((.tmp 100), (B (false)))], [], (.lit undef), [], true⟩,
    ⟨[((.tmp 103), (.lit undef))], [], (.lit undef), [], true⟩,
    ⟨[((.tmp 103), (.lit undef))], [], (.lit undef), [], true⟩,
    ⟨[((.tmp 103), (.lit undef))], [], (.lit undef), [], true⟩,
    ⟨[((.tmp 103), (.lit undef))], [], (.lit undef), [], true⟩,
    ⟨[((.tmp 100), (B (false)))], [], (.lit undef), [], true⟩,
    ⟨[((.tmp 97), (B (false))), ((.tmp 100), (B (false))), ((.tmp 108), (.lit undef)), ((.const (.bool false)), (B (false)))], [], (B (false)), [], false⟩,
    ⟨[((.tmp 97), (B (false))), ((.const (.bool true)), (B (true))), ((.tmp 109), (B (false)))], [], (B (false)), [], false⟩] (by exact ⟨by kernel_rfl, by kernel_rfl⟩) ?_ ?_
            · exact ⟨fun _ => astep_move rfl,
    fun _ => astep_bin rfl rfl,
    fun _ => astep_b hb59 (astep_move rfl),
    fun hs => (Bool.noConfusion hs),
    fun hs => (Bool.noConfusion hs),
    fun hs => (Bool.noConfusion hs),
    fun hs => (Bool.noConfusion hs),
    fun hs => (Bool.noConfusion hs),
    fun hs => (Bool.noConfusion hs),
    fun _ => astep_pick rfl rfl,
    fun _ => astep_move rfl,
    fun _ => astep_guard (astep_move rfl),
    fun _ => astep_guard (astep_bin rfl rfl),
    fun _ => astep_b hb65 (astep_guard (astep_move rfl)),
    fun hs => (Bool.noConfusion hs),
    fun hs => (Bool.noConfusion hs),
    fun hs => (Bool.noConfusion hs),
    fun hs => (Bool.noConfusion hs),
    fun hs => (Bool.noConfusion hs),
    fun hs => (Bool.noConfusion hs),
    fun hs => (Bool.noConfusion hs),
    fun hs => (Bool.noConfusion hs),
    fun _ => astep_guard (astep_pick rfl rfl),
    fun _ => astep_pick rfl rfl, trivial⟩
            refine awp_false (by kernel_rfl) ?_
            refine awp_skip ?_
            refine thenA_n ?_
            exact ⟨(), h, (mor_to (n := 200) (l' := [(0, (.dat 5 ((p0 : List GRow).map c_GRow))), (2, (K .u16 (p2))), (3, (K .u16 (p3))), (9, (.dat 5 ((x7 : List GRow).map c_GRow)))]) (own' := []) [(0, (.dat 5 ((p0 : List GRow).map c_GRow))), (2, (K .u16 (p2))), (3, (K .u16 (p3))), (9, (.dat 5 ((x7 : List GRow).map c_GRow)))] [] [] hφ0 (by kernel_rfl) (by kernel_rfl) (by kernel_rfl) ⟨rfl, .rn (.plain _ (nl_dat nl_GRow _)), rfl, .rn (.plain _ (NLt.lit _)), rfl, .rn (.plain _ (NLt.lit _)), rfl, .rn (.plain _ (nl_dat nl_GRow _)), trivial⟩ trivial)⟩
    · skip
      rcases Bool.eq_false_or_eq_true ((x16.2 != 0)) with hb68 | hb68
      · replace h := bif_t hb68 h
        refine awp_regd [⟨[((.tmp 12), (I (x16.2)))], [], (I (x16.2)), [], false⟩,
    ⟨[((.tmp 55), (I (x16.2))), ((.const (.int .i64 0)), (I (0)))], [], (B ((x16.2 != 0))), [], false⟩,
    ⟨[((.tmp 56), (B ((x16.2 != 0))))], [], (B (true)), [], false⟩,
    ⟨[((.tmp 57), (B (true)))], [], (.lit undef), [], true⟩,
    ⟨[((.tmp 57), (B (true)))], [], (.lit undef), [], true⟩,
    ⟨[((.tmp 57), (B (true)))], [], (.lit undef), [], true⟩,
    ⟨[((.tmp 57), (B (true)))], [], (.lit undef), [], true⟩,
    ⟨[((.tmp 57), (B (true)))], [], (.lit undef), [], true⟩,
    ⟨[((.tmp 57), (B (true)))], [], (.lit undef), [], true⟩,
    ⟨[((.tmp 57), (B (true)))], [], (.lit undef), [], true⟩,
    ⟨[((.tmp 57), (B (true)))], [], (.lit undef), [], true⟩,
    ⟨[((.tmp 57), (B (true))), ((.const (.bool true)), (B (true))), ((.tmp 65), (.lit undef))], [], (B (true)), [], false⟩,
    ⟨[((.tmp 66), (B (true)))], [], (B (true)), [], false⟩,
    ⟨[((.tmp 67), (B (true)))], [], (.lit undef), [], true⟩,
    ⟨[((.tmp 67), (B (true)))], [], (.lit undef), [], true⟩,
    ⟨[((.tmp 67), (B (true))), ((.const (.bool true)), (B (true))), ((.tmp 69), (.lit undef))], [], (B (true)), [], false⟩,
    ⟨[((.tmp 70), (B (true)))], [], (B (true)), [], false⟩,
    ⟨[((.tmp 71), (B (true)))], [], (.lit undef), [], true⟩,
    ⟨[((.tmp 71), (B (true)))], [], (.lit undef), [], true⟩,
    ⟨[((.tmp 71), (B (true)))], [], (.lit undef), [], true⟩,
    ⟨[((.tmp 71), (B (true))), ((.const (.bool true)), (B (true))), ((.tmp 74), (.lit undef))], [], (B (true)), [], false⟩] (by kernel_rfl) (by exact ⟨by kernel_rfl, by kernel_rfl⟩) (by kernel_rfl) ?_ ?_
        · exact ⟨fun _ => astep_move rfl,
    fun _ => astep_bin rfl rfl,
    fun _ => astep_b hb68 (astep_move rfl),
    fun hs => (Bool.noConfusion hs),
    fun hs => (Bool.noConfusion hs),
    fun hs => (Bool.noConfusion hs),
    fun hs => (Bool.noConfusion hs),
    fun hs => (Bool.noConfusion hs),
    fun hs => (Bool.noConfusion hs),
    fun hs => (Bool.noConfusion hs),
    fun hs => (Bool.noConfusion hs),
    fun _ => astep_pick rfl rfl,
    fun _ => astep_move rfl,
    fun hs => (Bool.noConfusion hs),
    fun hs => (Bool.noConfusion hs),
    fun _ => astep_pick rfl rfl,
    fun _ => astep_move rfl,
    fun hs => (Bool.noConfusion hs),
    fun hs => (Bool.noConfusion hs),
    fun hs => (Bool.noConfusion hs),
    fun _ => astep_pick rfl rfl, trivial⟩
        refine awp_true (by kernel_rfl) ?_
        refine awp_reg [⟨[((.const (.bool false)), (B (false)))], [], (B (false)), [], false⟩] (by exact ⟨by kernel_rfl, by kernel_rfl⟩) ?_ ?_
        · exact ⟨fun _ => astep_assign rfl, trivial⟩
        refine awp_ret ?_
        refine thenA_r ?_
        obtain rfl := Option.some.inj h
        exact ⟨⟨[(B (false))], ⟨resOK_tmp (by kernel_rfl), trivial⟩, rfl⟩, (NLt.lit _), Nat.le_refl _, fun n hn => absurd hn (Nat.not_lt_zero n)⟩
      · replace h := bif_f hb68 h
        rcases Bool.eq_false_or_eq_true ((!(([x16.1.N, x16.1.D] : List Int) == [x11.P, 1]))) with hb69 | hb69
        · replace h := bif_t hb69 h
          refine awp_regd [⟨[((.tmp 12), (I (x16.2)))], [], (I (x16.2)), [], false⟩,
    ⟨[((.tmp 55), (I (x16.2))), ((.const (.int .i64 0)), (I (0)))], [], (B ((x16.2 != 0))), [], false⟩,
    ⟨[((.tmp 56), (B ((x16.2 != 0))))], [], (B (false)), [], false⟩,
    ⟨[((.tmp 57), (B (false))), ((.tmp 11), (.ref 0 2 (0) 0))], [(0, (.own 2 [[(I (x16.1.N)), (I (x16.1.D))]]))], (.agg [(I (x16.1.N)), (I (x16.1.D))]), [], false⟩,
    ⟨[((.tmp 57), (B (false))), ((.tmp 0), (.dat 5 ((p0 : List GRow).map c_GRow)))], [], (.dat 5 ((p0 : List GRow).map c_GRow)), [], false⟩,
    ⟨[((.tmp 57), (B (false))), ((.tmp 10), (I (x9)))], [], (I (x9)), [], false⟩,
    ⟨[((.tmp 57), (B (false))), ((.tmp 59), (.dat 5 ((p0 : List GRow).map c_GRow))), ((.tmp 60), (I (x9)))], [], (.dptr (c_GRow (x11)) 0), [], false⟩,
    ⟨[((.tmp 57), (B (false))), ((.tmp 61), (.dptr (c_GRow (x11)) 0))], [], (.dptr (c_GRow (x11)) 1), [], false⟩,
    ⟨[((.tmp 57), (B (false))), ((.tmp 62), (.dptr (c_GRow (x11)) 1))], [], (I (x11.P)), [], false⟩,
    ⟨[((.tmp 57), (B (false))), ((.tmp 63), (I (x11.P))), ((.const (.int .i64 1)), (I (1)))], [], (.agg [(I (x11.P)), (I (1))]), [], false⟩,
    ⟨[((.tmp 57), (B (false))), ((.tmp 58), (.agg [(I (x16.1.N)), (I (x16.1.D))])), ((.tmp 64), (.agg [(I (x11.P)), (I (1))]))], [], (B ((!(([x16.1.N, x16.1.D] : List Int) == [x11.P, 1])))), [], false⟩,
    ⟨[((.tmp 57), (B (false))), ((.const (.bool true)), (B (true))), ((.tmp 65), (B ((!(([x16.1.N, x16.1.D] : List Int) == [x11.P, 1])))))], [], (B ((!(([x16.1.N, x16.1.D] : List Int) == [x11.P, 1])))), [], false⟩,
    ⟨[((.tmp 66), (B ((!(([x16.1.N, x16.1.D] : List Int) == [x11.P, 1])))))], [], (B (true)), [], false⟩,
    ⟨[((.tmp 67), (B (true)))], [], (.lit undef), [], true⟩,
    ⟨[((.tmp 67), (B (true)))], [], (.lit undef), [], true⟩,
    ⟨[((.tmp 67), (B (true))), ((.const (.bool true)), (B (true))), ((.tmp 69), (.lit undef))], [], (B (true)), [], false⟩,
    ⟨[((.tmp 70), (B (true)))], [], (B (true)), [], false⟩,
    ⟨[((.tmp 71), (B (true)))], [], (.lit undef), [], true⟩,
    ⟨[((.tmp 71), (B (true)))], [], (.lit undef), [], true⟩,
    ⟨[((.tmp 71), (B (true)))], [], (.lit undef), [], true⟩,
    ⟨[((.tmp 71), (B (true))), ((.const (.bool true)), (B (true))), ((.tmp 74), (.lit undef))], [], (B (true)), [], false⟩] (by kernel_rfl) (by exact ⟨by kernel_rfl, by kernel_rfl⟩) (by kernel_rfl) ?_ ?_
          · exact ⟨fun _ => astep_move rfl,
    fun _ => astep_bin rfl rfl,
    fun _ => astep_b hb68 (astep_move rfl),
    fun _ => astep_guard (astep_load rfl ti83 (by decide) rfl (Nat.le_of_ble_eq_true rfl) rfl),
    fun _ => astep_guard (astep_move rfl),
    fun _ => astep_guard (astep_move rfl),
    fun _ => astep_guard (astep_idxd rfl Try.underlying23 ti49 rfl rfl hi13 (map_get c_GRow hj14) rfl),
    fun _ => astep_guard (astep_faddrd rfl Try.underlying49 rfl rfl ti3 (by decide) rfl),
    fun _ => astep_guard (astep_loadd rfl ti3 (by decide) (Nat.le_of_ble_eq_true rfl) rfl),
    fun _ => astep_guard (astep_build (vs := [(I (x11.P)), (I (1))]) rfl ts83 tz83 rfl (by rfl) rfl),
    fun _ => astep_guard (astep_nes (ls := [x16.1.N, x16.1.D]) (ks := [x11.P, 1]) rfl rfl eqt83 (by kernel_rfl) rfl rfl),
    fun _ => astep_pick rfl rfl,
    fun _ => astep_b hb69 (astep_move rfl),
    fun hs => (Bool.noConfusion hs),
    fun hs => (Bool.noConfusion hs),
    fun _ => astep_pick rfl rfl,
    fun _ => astep_move rfl,
    fun hs => (Bool.noConfusion hs),
    fun hs => (Bool.noConfusion hs),
    fun hs => (Bool.noConfusion hs),
    fun _ => astep_pick rfl rfl, trivial⟩
          refine awp_true (by kernel_rfl) ?_
          refine awp_reg [⟨[((.const (.bool false)), (B (false)))], [], (B (false)), [], false⟩] (by exact ⟨by kernel_rfl, by kernel_rfl⟩) ?_ ?_
          · exact ⟨fun _ => astep_assign rfl, trivial⟩
          refine awp_ret ?_
          refine thenA_r ?_
          obtain rfl := Option.some.inj h
          exact ⟨⟨[(B (false))], ⟨resOK_tmp (by kernel_rfl), trivial⟩, rfl⟩, (NLt.lit _), Nat.le_refl _, fun n hn => absurd hn (Nat.not_lt_zero n)⟩
        · replace h := bif_f hb69 h
          rcases Bool.eq_false_or_eq_true ((x18.2 != 0)) with hb70 | hb70
          · replace h := bif_t hb70 h
            refine awp_regd [⟨[((.tmp 12), (I (x16.2)))], [], (I (x16.2)), [], false⟩,
    ⟨[((.tmp 55), (I (x16.2))), ((.const (.int .i64 0)), (I (0)))], [], (B ((x16.2 != 0))), [], false⟩,
    ⟨[((.tmp 56), (B ((x16.2 != 0))))], [], (B (false)), [], false⟩,
    ⟨[((.tmp 57), (B (false))), ((.tmp 11), (.ref 0 2 (0) 0))], [(0, (.own 2 [[(I (x16.1.N)), (I (x16.1.D))]]))], (.agg [(I (x16.1.N)), (I (x16.1.D))]), [], false⟩,
    ⟨[((.tmp 57), (B (false))), ((.tmp 0), (.dat 5 ((p0 : List GRow).map c_GRow)))], [], (.dat 5 ((p0 : List GRow).map c_GRow)), [], false⟩,
    ⟨[((.tmp 57), (B (false))), ((.tmp 10), (I (x9)))], [], (I (x9)), [], false⟩,
    ⟨[((.tmp 57), (B (false))), ((.tmp 59), (.dat 5 ((p0 : List GRow).map c_GRow))), ((.tmp 60), (I (x9)))], [], (.dptr (c_GRow (x11)) 0), [], false⟩,
    ⟨[((.tmp 57), (B (false))), ((.tmp 61), (.dptr (c_GRow (x11)) 0))], [], (.dptr (c_GRow (x11)) 1), [], false⟩,
    ⟨[((.tmp 57), (B (false))), ((.tmp 62), (.dptr (c_GRow (x11)) 1))], [], (I (x11.P)), [], false⟩,
    ⟨[((.tmp 57), (B (false))), ((.tmp 63), (I (x11.P))), ((.const (.int .i64 1)), (I (1)))], [], (.agg [(I (x11.P)), (I (1))]), [], false⟩,
    ⟨[((.tmp 57), (B (false))), ((.tmp 58), (.agg [(I (x16.1.N)), (I (x16.1.D))])), ((.tmp 64), (.agg [(I (x11.P)), (I (1))]))], [], (B ((!(([x16.1.N, x16.1.D] : List Int) == [x11.P, 1])))), [], false⟩,
    ⟨[((.tmp 57), (B (false))), ((.const (.bool true)), (B (true))), ((.tmp 65), (B ((!(([x16.1.N, x16.1.D] : List Int) == [x11.P, 1])))))], [], (B ((!(([x16.1.N, x16.1.D] : List Int) == [x11.P, 1])))), [], false⟩,
    ⟨[((.tmp 66), (B ((!(([x16.1.N, x16.1.D] : List Int) == [x11.P, 1])))))], [], (B (false)), [], false⟩,
    ⟨[((.tmp 67), (B (false))), ((.tmp 14), (I (x18.2)))], [], (I (x18.2)), [], false⟩,
    ⟨[((.tmp 67), (B (false))), ((.tmp 68), (I (x18.2))), ((.const (.int .i64 0)), (I (0)))], [], (B ((x18.2 != 0))), [], false⟩,
    ⟨[((.tmp 67), (B (false))), ((.const (.bool true)), (B (true))), ((.tmp 69), (B ((x18.2 != 0))))], [], (B ((x18.2 != 0))), [], false⟩,
    ⟨[((.tmp 70), (B ((x18.2 != 0))))], [], (B (true)), [], false⟩,
    ⟨[((.tmp 71), (B (true)))], [], (.lit undef), [], true⟩,
    ⟨[((.tmp 71), (B (true)))], [], (.lit undef), [], true⟩,
    ⟨[((.tmp 71), (B (true)))], [], (.lit undef), [], true⟩,
    ⟨[((.tmp 71), (B (true))), ((.const (.bool true)), (B (true))), ((.tmp 74), (.lit undef))], [], (B (true)), [], false⟩] (by kernel_rfl) (by exact ⟨by kernel_rfl, by kernel_rfl⟩) (by kernel_rfl) ?_ ?_
            · exact ⟨fun _ => astep_move rfl,
    fun _ => astep_bin rfl rfl,
    fun _ => astep_b hb68 (astep_move rfl),
    fun _ => astep_guard (astep_load rfl ti83 (by decide) rfl (Nat.le_of_ble_eq_true rfl) rfl),
    fun _ => astep_guard (astep_move rfl),
    fun _ => astep_guard (astep_move rfl),
    fun _ => astep_guard (astep_idxd rfl Try.underlying23 ti49 rfl rfl hi13 (map_get c_GRow hj14) rfl),
    fun _ => astep_guard (astep_faddrd rfl Try.underlying49 rfl rfl ti3 (by decide) rfl),
    fun _ => astep_guard (astep_loadd rfl ti3 (by decide) (Nat.le_of_ble_eq_true rfl) rfl),
    fun _ => astep_guard (astep_build (vs := [(I (x11.P)), (I (1))]) rfl ts83 tz83 rfl (by rfl) rfl),
    fun _ => astep_guard (astep_nes (ls := [x16.1.N, x16.1.D]) (ks := [x11.P, 1]) rfl rfl eqt83 (by kernel_rfl) rfl rfl),
    fun _ => astep_pick rfl rfl,
    fun _ => astep_b hb69 (astep_move rfl),
    fun _ => astep_guard (astep_move rfl),
    fun _ => astep_guard (astep_bin rfl rfl),
    fun _ => astep_pick rfl rfl,
    fun _ => astep_b hb70 (astep_move rfl),
    fun hs => (Bool.noConfusion hs),
    fun hs => (Bool.noConfusion hs),
    fun hs => (Bool.noConfusion hs),
    fun _ => astep_pick rfl rfl, trivial⟩
            refine awp_true (by kernel_rfl) ?_
            refine awp_reg [⟨[((.const (.bool false)), (B (false)))], [], (B (false)), [], false⟩] (by exact ⟨by kernel_rfl, by kernel_rfl⟩) ?_ ?_
            · exact ⟨fun _ => astep_assign rfl, trivial⟩
            refine awp_ret ?_
            refine thenA_r ?_
            obtain rfl := Option.some.inj h
            exact ⟨⟨[(B (false))], ⟨resOK_tmp (by kernel_rfl), trivial⟩, rfl⟩, (NLt.lit _), Nat.le_refl _, fun n hn => absurd hn (Nat.not_lt_zero n)⟩
          · replace h := bif_f hb70 h
            refine awp_regd [⟨[((.tmp 12), (I (x16.2)))], [], (I (x16.2)), [], false⟩,
    ⟨[((.tmp 55), (I (x16.2))), ((.const (.int .i64 0)), (I (0)))], [], (B ((x16.2 != 0))), [], false⟩,
    ⟨[((.tmp 56), (B ((x16.2 != 0))))], [], (B (false)), [], false⟩,
    ⟨[((.tmp 57), (B (false))), ((.tmp 11), (.ref 0 2 (0) 0))], [(0, (.own 2 [[(I (x16.1.N)), (I (x16.1.D))]]))], (.agg [(I (x16.1.N)), (I (x16.1.D))]), [], false⟩,
    ⟨[((.tmp 57), (B (false))), ((.tmp 0), (.dat 5 ((p0 : List GRow).map c_GRow)))], [], (.dat 5 ((p0 : List GRow).map c_GRow)), [], false⟩,
    ⟨[((.tmp 57), (B (false))), ((.tmp 10), (I (x9)))], [], (I (x9)), [], false⟩,
    ⟨[((.tmp 57), (B (false))), ((.tmp 59), (.dat 5 ((p0 : List GRow).map c_GRow))), ((.tmp 60), (I (x9)))], [], (.dptr (c_GRow (x11)) 0), [], false⟩,
    ⟨[((.tmp 57), (B (false))), ((.tmp 61), (.dptr (c_GRow (x11)) 0))], [], (.dptr (c_GRow (x11)) 1), [], false⟩,
    ⟨[((.tmp 57), (B (false))), ((.tmp 62), (.dptr (c_GRow (x11)) 1))], [], (I (x11.P)), [], false⟩,
    ⟨[((.tmp 57), (B (false))), ((.tmp 63), (I (x11.P))), ((.const (.int .i64 1)), (I (1)))], [], (.agg [(I (x11.P)), (I (1))]), [], false⟩,
    ⟨[((.tmp 57), (B (false))), ((.tmp 58), (.agg [(I (x16.1.N)), (I (x16.1.D))])), ((.tmp 64), (.agg [(I (x11.P)), (I (1))]))], [], (B ((!(([x16.1.N, x16.1.D] : List Int) == [x11.P, 1])))), [], false⟩,
    ⟨[((.tmp 57), (B (false))), ((.const (.bool true)), (B (true))), ((.tmp 65), (B ((!(([x16.1.N, x16.1.D] : List Int) == [x11.P, 1])))))], [], (B ((!(([x16.1.N, x16.1.D] : List Int) == [x11.P, 1])))), [], false⟩,
    ⟨[((.tmp 66), (B ((!(([x16.1.N, x16.1.D] : List Int) == [x11.P, 1])))))], [], (B (false)), [], false⟩,
    ⟨[((.tmp 67), (B (false))), ((.tmp 14), (I (x18.2)))], [], (I (x18.2)), [], false⟩,
    ⟨[((.tmp 67), (B (false))), ((.tmp 68), (I (x18.2))), ((.const (.int .i64 0)), (I (0)))], [], (B ((x18.2 != 0))), [], false⟩,
    ⟨[((.tmp 67), (B (false))), ((.const (.bool true)), (B (true))), ((.tmp 69), (B ((x18.2 != 0))))], [], (B ((x18.2 != 0))), [], false⟩,
    ⟨[((.tmp 70), (B ((x18.2 != 0))))], [], (B (false)), [], false⟩,
    ⟨[((.tmp 71), (B (false))), ((.tmp 13), (I (x18.1)))], [], (I (x18.1)), [], false⟩,
    ⟨[((.tmp 71), (B (false))), ((.tmp 10), (I (x9)))], [], (I (x9)), [], false⟩,
    ⟨[((.tmp 71), (B (false))), ((.tmp 72), (I (x18.1))), ((.tmp 73), (I (x9)))], [], (B ((x18.1 != x9))), [], false⟩,
    ⟨[((.tmp 71), (B (false))), ((.const (.bool true)), (B (true))), ((.tmp 74), (B ((x18.1 != x9))))], [], (B ((x18.1 != x9))), [], false⟩] (by kernel_rfl) (by exact ⟨by kernel_rfl, by kernel_rfl⟩) (by kernel_rfl) ?_ ?_
            · exact ⟨fun _ => astep_move rfl,
    fun _ => astep_bin rfl rfl,
    fun _ => astep_b hb68 (astep_move rfl),
    fun _ => astep_guard (astep_load rfl ti83 (by decide) rfl (Nat.le_of_ble_eq_true rfl) rfl),
    fun _ => astep_guard (astep_move rfl),
    fun _ => astep_guard (astep_move rfl),
    fun _ => astep_guard (astep_idxd rfl Try.underlying23 ti49 rfl rfl hi13 (map_get c_GRow hj14) rfl),
    fun _ => astep_guard (astep_faddrd rfl Try.underlying49 rfl rfl ti3 (by decide) rfl),
    fun _ => astep_guard (astep_loadd rfl ti3 (by decide) (Nat.le_of_ble_eq_true rfl) rfl),
    fun _ => astep_guard (astep_build (vs := [(I (x11.P)), (I (1))]) rfl ts83 tz83 rfl (by rfl) rfl),
    fun _ => astep_guard (astep_nes (ls := [x16.1.N, x16.1.D]) (ks := [x11.P, 1]) rfl rfl eqt83 (by kernel_rfl) rfl rfl),
    fun _ => astep_pick rfl rfl,
    fun _ => astep_b hb69 (astep_move rfl),
    fun _ => astep_guard (astep_move rfl),
    fun _ => astep_guard (astep_bin rfl rfl),
    fun _ => astep_pick rfl rfl,
    fun _ => astep_b hb70 (astep_move rfl),
    fun _ => astep_guard (astep_move rfl),
    fun _ => astep_guard (astep_move rfl),
    fun _ => astep_guard (astep_bin rfl rfl),
    fun _ => astep_pick rfl rfl, trivial⟩
            rcases Bool.eq_false_or_eq_true ((x18.1 != x9)) with hc71 | hc71
            · replace h := bif_t hc71 h
              refine awp_ift hc71 (by kernel_rfl) ?_
              refine awp_reg [⟨[((.const (.bool false)), (B (false)))], [], (B (false)), [], false⟩] (by exact ⟨by kernel_rfl, by kernel_rfl⟩) ?_ ?_
              · exact ⟨fun _ => astep_assign rfl, trivial⟩
              refine awp_ret ?_
              refine thenA_r ?_
              obtain rfl := Option.some.inj h
              exact ⟨⟨[(B (false))], ⟨resOK_tmp (by kernel_rfl), trivial⟩, rfl⟩, (NLt.lit _), Nat.le_refl _, fun n hn => absurd hn (Nat.not_lt_zero n)⟩
            · replace h := bif_f hc71 h
              refine awp_ifn hc71 (by kernel_rfl) ?_
              refine awp_skip ?_
              refine thenA_n ?_
              exact ⟨(), h, (mor_to (n := 200) (l' := [(0, (.dat 5 ((p0 : List GRow).map c_GRow))), (2, (K .u16 (p2))), (3, (K .u16 (p3))), (9, (.dat 5 ((x7 : List GRow).map c_GRow))), (10, (I (x9)))]) (own' := []) [(0, (.dat 5 ((p0 : List GRow).map c_GRow))), (2, (K .u16 (p2))), (3, (K .u16 (p3))), (9, (.dat 5 ((x7 : List GRow).map c_GRow))), (10, (I (x9)))] [] [] hφ0 (by kernel_rfl) (by kernel_rfl) (by kernel_rfl) ⟨rfl, .rn (.plain _ (nl_dat nl_GRow _)), rfl, .rn (.plain _ (NLt.lit _)), rfl, .rn (.plain _ (NLt.lit _)), rfl, .rn (.plain _ (nl_dat nl_GRow _)), rfl, .rn (.plain _ (NLt.lit _)), trivial⟩ trivial)⟩

end Go.Proofs.Ytenpbiineblcjaa
