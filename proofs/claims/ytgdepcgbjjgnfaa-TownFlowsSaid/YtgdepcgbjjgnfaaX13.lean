/-
  Functions of the program: what they compute, as plain functions, and that they do. No conditions.
-/
import Derived.Test.YtgdepcgbjjgnfaaX12
namespace Go.Proofs.Ytgdepcgbjjgnfaa
open Go.RowKit

def town_CheckTownX (N : Nat) (p0 : (List GNode)) : Option Int :=
  (town_Town_validX N p0).bind fun x2 =>
  bif (!x2) then
    some 1
  else
    some 0
set_option maxRecDepth 100000 in
set_option maxHeartbeats 4000000 in
theorem town_CheckTownX_ok (N : Nat) (p0 : (List GNode)) (r : Int) (h : town_CheckTownX N p0 = some r) : Spec Try.prog 37 [(.dat 4 (p0.map c_GNode))] [] (I r) [] := by
  refine spec_of_awp Try.func37 rfl 0 (nle rfl) (fun X φ0 w0 hφ0 => ?_)
  unfold town_CheckTownX at h
  refine awp_reg [mc (.int .i64 0)] ?_ ?_
  · exact ⟨astep_assign rfl, trivial⟩
  refine awp_seq ?_
  obtain ⟨x2, hf1, h⟩ := bind_out h
  refine awp_reg [mv 0 (.dat 4 ((p0 : List GNode).map c_GNode)), rp [fu 80, (.tmp 3, (.dat 4 ((p0 : List GNode).map c_GNode)))] (B x2), rp [(.tmp 4, B x2)] (B ((!x2)))] ?_ ?_
  · exact ⟨astep_move rfl, astep_pcall (first := []) (cap := []) (vs := [(.dat 4 ((p0 : List GNode).map c_GNode))]) rfl enter80 (town_Town_validX_ok N p0 _ hf1) rfl rfl (nl_cons (nl_dat nl_GNode _) nl_nil) nll rfl, astep_not rfl, trivial⟩
  rcases bft ((!x2)) with hc3 | hc3
  · replace h := bif_t hc3 h
    refine awp_ift hc3 (by kernel_rfl) ?_
    refine awp_reg [mc (.int .i64 1)] ?_ ?_
    · exact ⟨astep_assign rfl, trivial⟩
    refine awp_ret ?_
    refine thenA_r ?_
    obtain rfl := osi h
    exact ⟨⟨[I 1], ⟨resOK_tmp (by kernel_rfl), trivial⟩, rfl⟩, nll, Nat.le_refl _, fun n hn => absurd hn (Nat.not_lt_zero n)⟩
  · replace h := bif_f hc3 h
    refine awp_ifn hc3 (by kernel_rfl) ?_
    refine awp_skip ?_
    refine thenA_n ?_
    refine awp_reg [mc (.int .i64 0)] ?_ ?_
    · exact ⟨astep_assign rfl, trivial⟩
    refine awp_ret ?_
    obtain rfl := osi h
    exact ⟨⟨[I 0], ⟨resOK_tmp (by kernel_rfl), trivial⟩, rfl⟩, nll, Nat.le_refl _, fun n hn => absurd hn (Nat.not_lt_zero n)⟩

def law10_TownFlowsX_loop1 (N : Nat) (p0 : (List GNode)) (p1 : (List Int)) (x11 : ((List Int) × Int × Int)) (k47 : Unit → Option Bool) : Nat → Int → Option Bool
  | 0, _ => none
  | n52 + 1, y50 =>
    bif (decide (y50 < (p0.length : Int))) then
      (getI x11.1 y50).bind fun x54 =>
      (ref10_FlowX N p0 p1 y50).bind fun x59 =>
      bif (x54 != x59) then
        some false
      else
        law10_TownFlowsX_loop1 N p0 p1 x11 k47 n52 (w64 (y50 + 1))
    else
      k47 ()
def law10_TownFlowsX (N : Nat) (p0 : (List GNode)) (p1 : (List Int)) : Option Bool :=
  (law10_fewX N p0 p1).bind fun x2 =>
  bif (!x2) then
    (law10_wakesX N ).bind fun x5 =>
    some x5
  else
    (law10_TownX N p0).bind fun x7 =>
    (law10_listX N p1).bind fun x9 =>
    (town_FlowsX N x7 x9).bind fun x11 =>
    (ref10_RightX N p0).bind fun x13 =>
    bif (!x13) then
      (law10_TownX N p0).bind fun x16 =>
      (town_CheckTownX N x16).bind fun x18 =>
      bif (x18 == 1) then
        bif (x11.2.2 == 1) then
          bif (x11.2.1 == 0) then
            bif ((x11.1.length : Int) == 0) then
              (law10_wakesX N ).bind fun x24 =>
              some x24
            else
              some false
          else
            some false
        else
          some false
      else
        some false
    else
      (law10_TownX N p0).bind fun x26 =>
      (town_CheckTownX N x26).bind fun x28 =>
      bif (x28 != 0) then
        some false
      else
        (ref10_UsesX N p0 p1).bind fun x31 =>
        bif (!x31) then
          bif (x11.2.2 == 2) then
            bif (x11.2.1 == 0) then
              bif ((x11.1.length : Int) == 0) then
                (law10_wakesX N ).bind fun x37 =>
                some x37
              else
                some false
            else
              some false
          else
            some false
        else
          (ref10_FullX N p0 p1).bind fun x39 =>
          bif (decide (x39 ≥ 0)) then
            bif (x11.2.2 == 11) then
              bif (x11.2.1 == x39) then
                bif ((x11.1.length : Int) == 0) then
                  (law10_wakesX N ).bind fun x45 =>
                  some x45
                else
                  some false
              else
                some false
            else
              some false
          else
            joinK (fun _ =>
                joinK (fun _ =>
                    (law10_wakesX N ).bind fun x49 =>
                    some x49) fun k47 : Unit → Option Bool =>
                law10_TownFlowsX_loop1 N p0 p1 x11 k47 N 0) fun k46 : Unit → Option Bool =>
            bif (x11.2.2 != 0) then
              some false
            else
              bif (x11.2.1 != 0) then
                some false
              else
                bif ((x11.1.length : Int) != (p0.length : Int)) then
                  some false
                else
                  k46 ()
set_option maxRecDepth 100000 in
set_option maxHeartbeats 4000000 in
theorem law10_TownFlowsX_ok (N : Nat) (p0 : (List GNode)) (p1 : (List Int)) (r : Bool) (h : law10_TownFlowsX N p0 p1 = some r) : Spec Try.prog 8 [(.dat 4 (p0.map c_GNode)), (.dat 1 (p1.map c_i64))] [] (B r) [] := by
  refine spec_of_awp Try.func8 rfl 0 (nle rfl) (fun X φ0 w0 hφ0 => ?_)
  unfold law10_TownFlowsX at h
  refine awp_reg [mc (.bool false)] ?_ ?_
  · exact ⟨astep_assign rfl, trivial⟩
  refine awp_seq ?_
  obtain ⟨x2, hf1, h⟩ := bind_out h
  refine awp_reg [mv 0 (.dat 4 ((p0 : List GNode).map c_GNode)), mv 1 (.dat 1 ((p1 : List Int).map c_i64)), rp [fu 20, (.tmp 10, (.dat 4 ((p0 : List GNode).map c_GNode))), (.tmp 11, (.dat 1 ((p1 : List Int).map c_i64)))] (B x2), rp [(.tmp 12, B x2)] (B ((!x2)))] ?_ ?_
  · exact ⟨astep_move rfl, astep_move rfl, astep_pcall (first := []) (cap := []) (vs := [(.dat 4 ((p0 : List GNode).map c_GNode)), (.dat 1 ((p1 : List Int).map c_i64))]) rfl enter20 (law10_fewX_ok N p0 p1 _ hf1) rfl rfl (nl_cons (nl_dat nl_GNode _) (nl_cons (nl_dat nl_i64 _) nl_nil)) nll rfl, astep_not rfl, trivial⟩
  rcases bft ((!x2)) with hc3 | hc3
  · replace h := bif_t hc3 h
    refine awp_ift hc3 (by kernel_rfl) ?_
    obtain ⟨x5, hf4, h⟩ := bind_out h
    refine awp_reg [rp [fu 21] (B x5), mv 14 (B x5)] ?_ ?_
    · exact ⟨astep_pcall (first := []) (cap := []) (vs := []) rfl enter21 (law10_wakesX_ok N  _ hf4) rfl rfl nl_nil nll rfl, astep_assign rfl, trivial⟩
    refine awp_ret ?_
    refine thenA_r ?_
    obtain rfl := osi h
    exact ⟨⟨[B x5], ⟨resOK_tmp (by kernel_rfl), trivial⟩, rfl⟩, nll, Nat.le_refl _, fun n hn => absurd hn (Nat.not_lt_zero n)⟩
  · replace h := bif_f hc3 h
    refine awp_ifn hc3 (by kernel_rfl) ?_
    refine awp_skip ?_
    refine thenA_n ?_
    obtain ⟨x7, hf6, h⟩ := bind_out h
    obtain ⟨x9, hf8, h⟩ := bind_out h
    obtain ⟨x11, hf10, h⟩ := bind_out h
    refine awp_reg [mv 0 (.dat 4 ((p0 : List GNode).map c_GNode)), rp [fu 23, (.tmp 16, (.dat 4 ((p0 : List GNode).map c_GNode)))] (.dat 4 ((x7 : List GNode).map c_GNode)), mv 1 (.dat 1 ((p1 : List Int).map c_i64)), rp [fu 24, (.tmp 18, (.dat 1 ((p1 : List Int).map c_i64)))] (.dat 1 ((x9 : List Int).map c_i64)), rp [fu 36, (.tmp 17, (.dat 4 ((x7 : List GNode).map c_GNode))), (.tmp 19, (.dat 1 ((x9 : List Int).map c_i64)))] (.tup [(.dat 1 ((x11.1 : List Int).map c_i64)), I x11.2.1, I x11.2.2]), mv 20 (.tup [(.dat 1 ((x11.1 : List Int).map c_i64)), I x11.2.1, I x11.2.2]), rp [(.tmp 15, (.tup [(.dat 1 ((x11.1 : List Int).map c_i64)), I x11.2.1, I x11.2.2]))] (.dat 1 ((x11.1 : List Int).map c_i64)), rp [(.tmp 15, (.tup [(.dat 1 ((x11.1 : List Int).map c_i64)), I x11.2.1, I x11.2.2]))] (I x11.2.1), rp [(.tmp 15, (.tup [(.dat 1 ((x11.1 : List Int).map c_i64)), I x11.2.1, I x11.2.2]))] (I x11.2.2), mv 21 (.dat 1 ((x11.1 : List Int).map c_i64)), mv 22 (I x11.2.1), mv 23 (I x11.2.2)] ?_ ?_
    · exact ⟨astep_move rfl, astep_pcall (first := []) (cap := []) (vs := [(.dat 4 ((p0 : List GNode).map c_GNode))]) rfl enter23 (law10_TownX_ok N p0 _ hf6) rfl rfl (nl_cons (nl_dat nl_GNode _) nl_nil) (nl_dat nl_GNode _) rfl, astep_move rfl, astep_pcall (first := []) (cap := []) (vs := [(.dat 1 ((p1 : List Int).map c_i64))]) rfl enter24 (law10_listX_ok N p1 _ hf8) rfl rfl (nl_cons (nl_dat nl_i64 _) nl_nil) (nl_dat nl_i64 _) rfl, astep_pcall (first := []) (cap := []) (vs := [(.dat 4 ((x7 : List GNode).map c_GNode)), (.dat 1 ((x9 : List Int).map c_i64))]) rfl enter36 (town_FlowsX_ok N x7 x9 _ hf10) rfl rfl (nl_cons (nl_dat nl_GNode _) (nl_cons (nl_dat nl_i64 _) nl_nil)) (NLt.tup _ (nl_cons (nl_dat nl_i64 _) (nl_cons nll (nl_cons nll nl_nil)))) rfl, astep_move rfl, astep_extract rfl rfl, astep_extract rfl rfl, astep_extract rfl rfl, astep_assign rfl, astep_assign rfl, astep_assign rfl, trivial⟩
    refine awp_seq ?_
    obtain ⟨x13, hf12, h⟩ := bind_out h
    refine awp_reg [mv 0 (.dat 4 ((p0 : List GNode).map c_GNode)), rp [fu 25, (.tmp 24, (.dat 4 ((p0 : List GNode).map c_GNode)))] (B x13), rp [(.tmp 25, B x13)] (B ((!x13)))] ?_ ?_
    · exact ⟨astep_move rfl, astep_pcall (first := []) (cap := []) (vs := [(.dat 4 ((p0 : List GNode).map c_GNode))]) rfl enter25 (ref10_RightX_ok N p0 _ hf12) rfl rfl (nl_cons (nl_dat nl_GNode _) nl_nil) nll rfl, astep_not rfl, trivial⟩
    rcases bft ((!x13)) with hc14 | hc14
    · replace h := bif_t hc14 h
      refine awp_ift hc14 (by kernel_rfl) ?_
      obtain ⟨x16, hf15, h⟩ := bind_out h
      obtain ⟨x18, hf17, h⟩ := bind_out h
      rcases bft ((x18 == 1)) with hb19 | hb19
      · replace h := bif_t hb19 h
        rcases bft ((x11.2.2 == 1)) with hb20 | hb20
        · replace h := bif_t hb20 h
          rcases bft ((x11.2.1 == 0)) with hb21 | hb21
          · replace h := bif_t hb21 h
            rcases bft (((x11.1.length : Int) == 0)) with hb22 | hb22
            · replace h := bif_t hb22 h
              obtain ⟨x24, hf23, h⟩ := bind_out h
              refine awp_reg [mv 0 (.dat 4 ((p0 : List GNode).map c_GNode)), rp [fu 23, (.tmp 27, (.dat 4 ((p0 : List GNode).map c_GNode)))] (.dat 4 ((x16 : List GNode).map c_GNode)), rp [fu 37, (.tmp 28, (.dat 4 ((x16 : List GNode).map c_GNode)))] (I x18), rp [(.tmp 29, I x18), ci 1] (B ((x18 == 1))), rp [(.tmp 30, (B ((x18 == 1))))] (B true), rp [(.tmp 31, B true), (.tmp 7, I x11.2.2)] (I x11.2.2), rp [(.tmp 31, B true), (.tmp 32, I x11.2.2), ci 1] (B ((x11.2.2 == 1))), rp [(.tmp 31, B true), (.tmp 33, (B ((x11.2.2 == 1)))), cb false] (B ((x11.2.2 == 1))), rp [(.tmp 34, (B ((x11.2.2 == 1))))] (B true), rp [(.tmp 35, B true), (.tmp 6, I x11.2.1)] (I x11.2.1), rp [(.tmp 35, B true), (.tmp 36, I x11.2.1), ci 0] (B ((x11.2.1 == 0))), rp [(.tmp 35, B true), (.tmp 37, (B ((x11.2.1 == 0)))), cb false] (B ((x11.2.1 == 0))), rp [(.tmp 38, (B ((x11.2.1 == 0))))] (B true), rp [(.tmp 39, B true), (.tmp 5, (.dat 1 ((x11.1 : List Int).map c_i64)))] (.dat 1 ((x11.1 : List Int).map c_i64)), rp [(.tmp 39, B true), (.tmp 40, (.dat 1 ((x11.1 : List Int).map c_i64)))] (I ((x11.1.length : Int))), rp [(.tmp 39, B true), (.tmp 41, (I ((x11.1.length : Int)))), ci 0] (B (((x11.1.length : Int) == 0))), rp [(.tmp 39, B true), (.tmp 42, (B (((x11.1.length : Int) == 0)))), cb false] (B (((x11.1.length : Int) == 0))), rp [(.tmp 43, (B (((x11.1.length : Int) == 0))))] (B true), rp [(.tmp 44, B true), fu 21] (B x24), rp [(.tmp 44, B true), (.tmp 45, B x24), cb false] (B x24), mv 46 (B x24)] ?_ ?_
              · exact ⟨astep_move rfl, astep_pcall (first := []) (cap := []) (vs := [(.dat 4 ((p0 : List GNode).map c_GNode))]) rfl enter23 (law10_TownX_ok N p0 _ hf15) rfl rfl (nl_cons (nl_dat nl_GNode _) nl_nil) (nl_dat nl_GNode _) rfl, astep_pcall (first := []) (cap := []) (vs := [(.dat 4 ((x16 : List GNode).map c_GNode))]) rfl enter37 (town_CheckTownX_ok N x16 _ hf17) rfl rfl (nl_cons (nl_dat nl_GNode _) nl_nil) nll rfl, astep_bin rfl rfl, astep_b hb19 (astep_move rfl), astep_guard (astep_move rfl), astep_guard (astep_bin rfl rfl), astep_pick rfl rfl, astep_b hb20 (astep_move rfl), astep_guard (astep_move rfl), astep_guard (astep_bin rfl rfl), astep_pick rfl rfl, astep_b hb21 (astep_move rfl), astep_guard (astep_move rfl), astep_guard (astep_lenm (c := c_i64) (l := x11.1) (astep_len rfl Try.underlying23 rfl)), astep_guard (astep_bin rfl rfl), astep_pick rfl rfl, astep_b hb22 (astep_move rfl), astep_guard (astep_pcall (first := []) (cap := []) (vs := []) rfl enter21 (law10_wakesX_ok N  _ hf23) rfl rfl nl_nil nll rfl), astep_pick rfl rfl, astep_assign rfl, trivial⟩
              refine awp_ret ?_
              refine thenA_r ?_
              obtain rfl := osi h
              exact ⟨⟨[B x24], ⟨resOK_tmp (by kernel_rfl), trivial⟩, rfl⟩, nll, Nat.le_refl _, fun n hn => absurd hn (Nat.not_lt_zero n)⟩
            · replace h := bif_f hb22 h
              refine awp_reg [mv 0 (.dat 4 ((p0 : List GNode).map c_GNode)), rp [fu 23, (.tmp 27, (.dat 4 ((p0 : List GNode).map c_GNode)))] (.dat 4 ((x16 : List GNode).map c_GNode)), rp [fu 37, (.tmp 28, (.dat 4 ((x16 : List GNode).map c_GNode)))] (I x18), rp [(.tmp 29, I x18), ci 1] (B ((x18 == 1))), rp [(.tmp 30, (B ((x18 == 1))))] (B true), rp [(.tmp 31, B true), (.tmp 7, I x11.2.2)] (I x11.2.2), rp [(.tmp 31, B true), (.tmp 32, I x11.2.2), ci 1] (B ((x11.2.2 == 1))), rp [(.tmp 31, B true), (.tmp 33, (B ((x11.2.2 == 1)))), cb false] (B ((x11.2.2 == 1))), rp [(.tmp 34, (B ((x11.2.2 == 1))))] (B true), rp [(.tmp 35, B true), (.tmp 6, I x11.2.1)] (I x11.2.1), rp [(.tmp 35, B true), (.tmp 36, I x11.2.1), ci 0] (B ((x11.2.1 == 0))), rp [(.tmp 35, B true), (.tmp 37, (B ((x11.2.1 == 0)))), cb false] (B ((x11.2.1 == 0))), rp [(.tmp 38, (B ((x11.2.1 == 0))))] (B true), rp [(.tmp 39, B true), (.tmp 5, (.dat 1 ((x11.1 : List Int).map c_i64)))] (.dat 1 ((x11.1 : List Int).map c_i64)), rp [(.tmp 39, B true), (.tmp 40, (.dat 1 ((x11.1 : List Int).map c_i64)))] (I ((x11.1.length : Int))), rp [(.tmp 39, B true), (.tmp 41, (I ((x11.1.length : Int)))), ci 0] (B (((x11.1.length : Int) == 0))), rp [(.tmp 39, B true), (.tmp 42, (B (((x11.1.length : Int) == 0)))), cb false] (B (((x11.1.length : Int) == 0))), rp [(.tmp 43, (B (((x11.1.length : Int) == 0))))] (B false), sk 44 (B false), rp [(.tmp 44, B false), (.tmp 45, (.lit undef)), cb false] (B false), mv 46 (B false)] ?_ ?_
              · exact ⟨astep_move rfl, astep_pcall (first := []) (cap := []) (vs := [(.dat 4 ((p0 : List GNode).map c_GNode))]) rfl enter23 (law10_TownX_ok N p0 _ hf15) rfl rfl (nl_cons (nl_dat nl_GNode _) nl_nil) (nl_dat nl_GNode _) rfl, astep_pcall (first := []) (cap := []) (vs := [(.dat 4 ((x16 : List GNode).map c_GNode))]) rfl enter37 (town_CheckTownX_ok N x16 _ hf17) rfl rfl (nl_cons (nl_dat nl_GNode _) nl_nil) nll rfl, astep_bin rfl rfl, astep_b hb19 (astep_move rfl), astep_guard (astep_move rfl), astep_guard (astep_bin rfl rfl), astep_pick rfl rfl, astep_b hb20 (astep_move rfl), astep_guard (astep_move rfl), astep_guard (astep_bin rfl rfl), astep_pick rfl rfl, astep_b hb21 (astep_move rfl), astep_guard (astep_move rfl), astep_guard (astep_lenm (c := c_i64) (l := x11.1) (astep_len rfl Try.underlying23 rfl)), astep_guard (astep_bin rfl rfl), astep_pick rfl rfl, astep_b hb22 (astep_move rfl), trivial, astep_pick rfl rfl, astep_assign rfl, trivial⟩
              refine awp_ret ?_
              refine thenA_r ?_
              obtain rfl := osi h
              exact ⟨⟨[B false], ⟨resOK_tmp (by kernel_rfl), trivial⟩, rfl⟩, nll, Nat.le_refl _, fun n hn => absurd hn (Nat.not_lt_zero n)⟩
          · replace h := bif_f hb21 h
            refine awp_reg [mv 0 (.dat 4 ((p0 : List GNode).map c_GNode)), rp [fu 23, (.tmp 27, (.dat 4 ((p0 : List GNode).map c_GNode)))] (.dat 4 ((x16 : List GNode).map c_GNode)), rp [fu 37, (.tmp 28, (.dat 4 ((x16 : List GNode).map c_GNode)))] (I x18), rp [(.tmp 29, I x18), ci 1] (B ((x18 == 1))), rp [(.tmp 30, (B ((x18 == 1))))] (B true), rp [(.tmp 31, B true), (.tmp 7, I x11.2.2)] (I x11.2.2), rp [(.tmp 31, B true), (.tmp 32, I x11.2.2), ci 1] (B ((x11.2.2 == 1))), rp [(.tmp 31, B true), (.tmp 33, (B ((x11.2.2 == 1)))), cb false] (B ((x11.2.2 == 1))), rp [(.tmp 34, (B ((x11.2.2 == 1))))] (B true), rp [(.tmp 35, B true), (.tmp 6, I x11.2.1)] (I x11.2.1), rp [(.tmp 35, B true), (.tmp 36, I x11.2.1), ci 0] (B ((x11.2.1 == 0))), rp [(.tmp 35, B true), (.tmp 37, (B ((x11.2.1 == 0)))), cb false] (B ((x11.2.1 == 0))), rp [(.tmp 38, (B ((x11.2.1 == 0))))] (B false), sk 39 (B false), sk 39 (B false), sk 39 (B false), rp [(.tmp 39, B false), (.tmp 42, (.lit undef)), cb false] (B false), mv 43 (B false), sk 44 (B false), rp [(.tmp 44, B false), (.tmp 45, (.lit undef)), cb false] (B false), mv 46 (B false)] ?_ ?_
            · exact ⟨astep_move rfl, astep_pcall (first := []) (cap := []) (vs := [(.dat 4 ((p0 : List GNode).map c_GNode))]) rfl enter23 (law10_TownX_ok N p0 _ hf15) rfl rfl (nl_cons (nl_dat nl_GNode _) nl_nil) (nl_dat nl_GNode _) rfl, astep_pcall (first := []) (cap := []) (vs := [(.dat 4 ((x16 : List GNode).map c_GNode))]) rfl enter37 (town_CheckTownX_ok N x16 _ hf17) rfl rfl (nl_cons (nl_dat nl_GNode _) nl_nil) nll rfl, astep_bin rfl rfl, astep_b hb19 (astep_move rfl), astep_guard (astep_move rfl), astep_guard (astep_bin rfl rfl), astep_pick rfl rfl, astep_b hb20 (astep_move rfl), astep_guard (astep_move rfl), astep_guard (astep_bin rfl rfl), astep_pick rfl rfl, astep_b hb21 (astep_move rfl), trivial, trivial, trivial, astep_pick rfl rfl, astep_move rfl, trivial, astep_pick rfl rfl, astep_assign rfl, trivial⟩
            refine awp_ret ?_
            refine thenA_r ?_
            obtain rfl := osi h
            exact ⟨⟨[B false], ⟨resOK_tmp (by kernel_rfl), trivial⟩, rfl⟩, nll, Nat.le_refl _, fun n hn => absurd hn (Nat.not_lt_zero n)⟩
        · replace h := bif_f hb20 h
          refine awp_reg [mv 0 (.dat 4 ((p0 : List GNode).map c_GNode)), rp [fu 23, (.tmp 27, (.dat 4 ((p0 : List GNode).map c_GNode)))] (.dat 4 ((x16 : List GNode).map c_GNode)), rp [fu 37, (.tmp 28, (.dat 4 ((x16 : List GNode).map c_GNode)))] (I x18), rp [(.tmp 29, I x18), ci 1] (B ((x18 == 1))), rp [(.tmp 30, (B ((x18 == 1))))] (B true), rp [(.tmp 31, B true), (.tmp 7, I x11.2.2)] (I x11.2.2), rp [(.tmp 31, B true), (.tmp 32, I x11.2.2), ci 1] (B ((x11.2.2 == 1))), rp [(.tmp 31, B true), (.tmp 33, (B ((x11.2.2 == 1)))), cb false] (B ((x11.2.2 == 1))), rp [(.tmp 34, (B ((x11.2.2 == 1))))] (B false), sk 35 (B false), sk 35 (B false), rp [(.tmp 35, B false), (.tmp 37, (.lit undef)), cb false] (B false), mv 38 (B false), sk 39 (B false), sk 39 (B false), sk 39 (B false), rp [(.tmp 39, B false), (.tmp 42, (.lit undef)), cb false] (B false), mv 43 (B false), sk 44 (B false), rp [(.tmp 44, B false), (.tmp 45, (.lit undef)), cb false] (B false), mv 46 (B false)] ?_ ?_
          · exact ⟨astep_move rfl, astep_pcall (first := []) (cap := []) (vs := [(.dat 4 ((p0 : List GNode).map c_GNode))]) rfl enter23 (law10_TownX_ok N p0 _ hf15) rfl rfl (nl_cons (nl_dat nl_GNode _) nl_nil) (nl_dat nl_GNode _) rfl, astep_pcall (first := []) (cap := []) (vs := [(.dat 4 ((x16 : List GNode).map c_GNode))]) rfl enter37 (town_CheckTownX_ok N x16 _ hf17) rfl rfl (nl_cons (nl_dat nl_GNode _) nl_nil) nll rfl, astep_bin rfl rfl, astep_b hb19 (astep_move rfl), astep_guard (astep_move rfl), astep_guard (astep_bin rfl rfl), astep_pick rfl rfl, astep_b hb20 (astep_move rfl), trivial, trivial, astep_pick rfl rfl, astep_move rfl, trivial, trivial, trivial, astep_pick rfl rfl, astep_move rfl, trivial, astep_pick rfl rfl, astep_assign rfl, trivial⟩
          refine awp_ret ?_
          refine thenA_r ?_
          obtain rfl := osi h
          exact ⟨⟨[B false], ⟨resOK_tmp (by kernel_rfl), trivial⟩, rfl⟩, nll, Nat.le_refl _, fun n hn => absurd hn (Nat.not_lt_zero n)⟩
      · replace h := bif_f hb19 h
        refine awp_reg [mv 0 (.dat 4 ((p0 : List GNode).map c_GNode)), rp [fu 23, (.tmp 27, (.dat 4 ((p0 : List GNode).map c_GNode)))] (.dat 4 ((x16 : List GNode).map c_GNode)), rp [fu 37, (.tmp 28, (.dat 4 ((x16 : List GNode).map c_GNode)))] (I x18), rp [(.tmp 29, I x18), ci 1] (B ((x18 == 1))), rp [(.tmp 30, (B ((x18 == 1))))] (B false), sk 31 (B false), sk 31 (B false), rp [(.tmp 31, B false), (.tmp 33, (.lit undef)), cb false] (B false), mv 34 (B false), sk 35 (B false), sk 35 (B false), rp [(.tmp 35, B false), (.tmp 37, (.lit undef)), cb false] (B false), mv 38 (B false), sk 39 (B false), sk 39 (B false), sk 39 (B false), rp [(.tmp 39, B false), (.tmp 42, (.lit undef)), cb false] (B false), mv 43 (B false), sk 44 (B false), rp [(.tmp 44, B false), (.tmp 45, (.lit undef)), cb false] (B false), mv 46 (B false)] ?_ ?_
        · exact ⟨astep_move rfl, astep_pcall (first := []) (cap := []) (vs := [(.dat 4 ((p0 : List GNode).map c_GNode))]) rfl enter23 (law10_TownX_ok N p0 _ hf15) rfl rfl (nl_cons (nl_dat nl_GNode _) nl_nil) (nl_dat nl_GNode _) rfl, astep_pcall (first := []) (cap := []) (vs := [(.dat 4 ((x16 : List GNode).map c_GNode))]) rfl enter37 (town_CheckTownX_ok N x16 _ hf17) rfl rfl (nl_cons (nl_dat nl_GNode _) nl_nil) nll rfl, astep_bin rfl rfl, astep_b hb19 (astep_move rfl), trivial, trivial, astep_pick rfl rfl, astep_move rfl, trivial, trivial, astep_pick rfl rfl, astep_move rfl, trivial, trivial, trivial, astep_pick rfl rfl, astep_move rfl, trivial, astep_pick rfl rfl, astep_assign rfl, trivial⟩
        refine awp_ret ?_
        refine thenA_r ?_
        obtain rfl := osi h
        exact ⟨⟨[B false], ⟨resOK_tmp (by kernel_rfl), trivial⟩, rfl⟩, nll, Nat.le_refl _, fun n hn => absurd hn (Nat.not_lt_zero n)⟩
    · replace h := bif_f hc14 h
      refine awp_ifn hc14 (by kernel_rfl) ?_
      refine awp_skip ?_
      refine thenA_n ?_
      refine awp_seq ?_
      obtain ⟨x26, hf25, h⟩ := bind_out h
      obtain ⟨x28, hf27, h⟩ := bind_out h
      refine awp_reg [mv 0 (.dat 4 ((p0 : List GNode).map c_GNode)), rp [fu 23, (.tmp 47, (.dat 4 ((p0 : List GNode).map c_GNode)))] (.dat 4 ((x26 : List GNode).map c_GNode)), rp [fu 37, (.tmp 48, (.dat 4 ((x26 : List GNode).map c_GNode)))] (I x28), rp [(.tmp 49, I x28), ci 0] (B ((x28 != 0)))] ?_ ?_
      · exact ⟨astep_move rfl, astep_pcall (first := []) (cap := []) (vs := [(.dat 4 ((p0 : List GNode).map c_GNode))]) rfl enter23 (law10_TownX_ok N p0 _ hf25) rfl rfl (nl_cons (nl_dat nl_GNode _) nl_nil) (nl_dat nl_GNode _) rfl, astep_pcall (first := []) (cap := []) (vs := [(.dat 4 ((x26 : List GNode).map c_GNode))]) rfl enter37 (town_CheckTownX_ok N x26 _ hf27) rfl rfl (nl_cons (nl_dat nl_GNode _) nl_nil) nll rfl, astep_bin rfl rfl, trivial⟩
      rcases bft ((x28 != 0)) with hc29 | hc29
      · replace h := bif_t hc29 h
        refine awp_ift hc29 (by kernel_rfl) ?_
        refine awp_reg [mc (.bool false)] ?_ ?_
        · exact ⟨astep_assign rfl, trivial⟩
        refine awp_ret ?_
        refine thenA_r ?_
        obtain rfl := osi h
        exact ⟨⟨[B false], ⟨resOK_tmp (by kernel_rfl), trivial⟩, rfl⟩, nll, Nat.le_refl _, fun n hn => absurd hn (Nat.not_lt_zero n)⟩
      · replace h := bif_f hc29 h
        refine awp_ifn hc29 (by kernel_rfl) ?_
        refine awp_skip ?_
        refine thenA_n ?_
        refine awp_seq ?_
        obtain ⟨x31, hf30, h⟩ := bind_out h
        refine awp_reg [mv 0 (.dat 4 ((p0 : List GNode).map c_GNode)), mv 1 (.dat 1 ((p1 : List Int).map c_i64)), rp [fu 26, (.tmp 51, (.dat 4 ((p0 : List GNode).map c_GNode))), (.tmp 52, (.dat 1 ((p1 : List Int).map c_i64)))] (B x31), rp [(.tmp 53, B x31)] (B ((!x31)))] ?_ ?_
        · exact ⟨astep_move rfl, astep_move rfl, astep_pcall (first := []) (cap := []) (vs := [(.dat 4 ((p0 : List GNode).map c_GNode)), (.dat 1 ((p1 : List Int).map c_i64))]) rfl enter26 (ref10_UsesX_ok N p0 p1 _ hf30) rfl rfl (nl_cons (nl_dat nl_GNode _) (nl_cons (nl_dat nl_i64 _) nl_nil)) nll rfl, astep_not rfl, trivial⟩
        rcases bft ((!x31)) with hc32 | hc32
        · replace h := bif_t hc32 h
          refine awp_ift hc32 (by kernel_rfl) ?_
          rcases bft ((x11.2.2 == 2)) with hb33 | hb33
          · replace h := bif_t hb33 h
            rcases bft ((x11.2.1 == 0)) with hb34 | hb34
            · replace h := bif_t hb34 h
              rcases bft (((x11.1.length : Int) == 0)) with hb35 | hb35
              · replace h := bif_t hb35 h
                obtain ⟨x37, hf36, h⟩ := bind_out h
                refine awp_reg [mv 7 (I x11.2.2), rp [(.tmp 55, I x11.2.2), ci 2] (B ((x11.2.2 == 2))), rp [(.tmp 56, (B ((x11.2.2 == 2))))] (B true), rp [(.tmp 57, B true), (.tmp 6, I x11.2.1)] (I x11.2.1), rp [(.tmp 57, B true), (.tmp 58, I x11.2.1), ci 0] (B ((x11.2.1 == 0))), rp [(.tmp 57, B true), (.tmp 59, (B ((x11.2.1 == 0)))), cb false] (B ((x11.2.1 == 0))), rp [(.tmp 60, (B ((x11.2.1 == 0))))] (B true), rp [(.tmp 61, B true), (.tmp 5, (.dat 1 ((x11.1 : List Int).map c_i64)))] (.dat 1 ((x11.1 : List Int).map c_i64)), rp [(.tmp 61, B true), (.tmp 62, (.dat 1 ((x11.1 : List Int).map c_i64)))] (I ((x11.1.length : Int))), rp [(.tmp 61, B true), (.tmp 63, (I ((x11.1.length : Int)))), ci 0] (B (((x11.1.length : Int) == 0))), rp [(.tmp 61, B true), (.tmp 64, (B (((x11.1.length : Int) == 0)))), cb false] (B (((x11.1.length : Int) == 0))), rp [(.tmp 65, (B (((x11.1.length : Int) == 0))))] (B true), rp [(.tmp 66, B true), fu 21] (B x37), rp [(.tmp 66, B true), (.tmp 67, B x37), cb false] (B x37), mv 68 (B x37)] ?_ ?_
                · exact ⟨astep_move rfl, astep_bin rfl rfl, astep_b hb33 (astep_move rfl), astep_guard (astep_move rfl), astep_guard (astep_bin rfl rfl), astep_pick rfl rfl, astep_b hb34 (astep_move rfl), astep_guard (astep_move rfl), astep_guard (astep_lenm (c := c_i64) (l := x11.1) (astep_len rfl Try.underlying23 rfl)), astep_guard (astep_bin rfl rfl), astep_pick rfl rfl, astep_b hb35 (astep_move rfl), astep_guard (astep_pcall (first := []) (cap := []) (vs := []) rfl enter21 (law10_wakesX_ok N  _ hf36) rfl rfl nl_nil nll rfl), astep_pick rfl rfl, astep_assign rfl, trivial⟩
                refine awp_ret ?_
                refine thenA_r ?_
                obtain rfl := osi h
                exact ⟨⟨[B x37], ⟨resOK_tmp (by kernel_rfl), trivial⟩, rfl⟩, nll, Nat.le_refl _, fun n hn => absurd hn (Nat.not_lt_zero n)⟩
              · replace h := bif_f hb35 h
                refine awp_reg [mv 7 (I x11.2.2), rp [(.tmp 55, I x11.2.2), ci 2] (B ((x11.2.2 == 2))), rp [(.tmp 56, (B ((x11.2.2 == 2))))] (B true), rp [(.tmp 57, B true), (.tmp 6, I x11.2.1)] (I x11.2.1), rp [(.tmp 57, B true), (.tmp 58, I x11.2.1), ci 0] (B ((x11.2.1 == 0))), rp [(.tmp 57, B true), (.tmp 59, (B ((x11.2.1 == 0)))), cb false] (B ((x11.2.1 == 0))), rp [(.tmp 60, (B ((x11.2.1 == 0))))] (B true), rp [(.tmp 61, B true), (.tmp 5, (.dat 1 ((x11.1 : List Int).map c_i64)))] (.dat 1 ((x11.1 : List Int).map c_i64)), rp [(.tmp 61, B true), (.tmp 62, (.dat 1 ((x11.1 : List Int).map c_i64)))] (I ((x11.1.length : Int))), rp [(.tmp 61, B true), (.tmp 63, (I ((x11.1.length : Int)))), ci 0] (B (((x11.1.length : Int) == 0))), rp [(.tmp 61, B true), (.tmp 64, (B (((x11.1.length : Int) == 0)))), cb false] (B (((x11.1.length : Int) == 0))), rp [(.tmp 65, (B (((x11.1.length : Int) == 0))))] (B false), sk 66 (B false), rp [(.tmp 66, B false), (.tmp 67, (.lit undef)), cb false] (B false), mv 68 (B false)] ?_ ?_
                · exact ⟨astep_move rfl, astep_bin rfl rfl, astep_b hb33 (astep_move rfl), astep_guard (astep_move rfl), astep_guard (astep_bin rfl rfl), astep_pick rfl rfl, astep_b hb34 (astep_move rfl), astep_guard (astep_move rfl), astep_guard (astep_lenm (c := c_i64) (l := x11.1) (astep_len rfl Try.underlying23 rfl)), astep_guard (astep_bin rfl rfl), astep_pick rfl rfl, astep_b hb35 (astep_move rfl), trivial, astep_pick rfl rfl, astep_assign rfl, trivial⟩
                refine awp_ret ?_
                refine thenA_r ?_
                obtain rfl := osi h
                exact ⟨⟨[B false], ⟨resOK_tmp (by kernel_rfl), trivial⟩, rfl⟩, nll, Nat.le_refl _, fun n hn => absurd hn (Nat.not_lt_zero n)⟩
            · replace h := bif_f hb34 h
              refine awp_reg [mv 7 (I x11.2.2), rp [(.tmp 55, I x11.2.2), ci 2] (B ((x11.2.2 == 2))), rp [(.tmp 56, (B ((x11.2.2 == 2))))] (B true), rp [(.tmp 57, B true), (.tmp 6, I x11.2.1)] (I x11.2.1), rp [(.tmp 57, B true), (.tmp 58, I x11.2.1), ci 0] (B ((x11.2.1 == 0))), rp [(.tmp 57, B true), (.tmp 59, (B ((x11.2.1 == 0)))), cb false] (B ((x11.2.1 == 0))), rp [(.tmp 60, (B ((x11.2.1 == 0))))] (B false), sk 61 (B false), sk 61 (B false), sk 61 (B false), rp [(.tmp 61, B false), (.tmp 64, (.lit undef)), cb false] (B false), mv 65 (B false), sk 66 (B false), rp [(.tmp 66, B false), (.tmp 67, (.lit undef)), cb false] (B false), mv 68 (B false)] ?_ ?_
              · exact ⟨astep_move rfl, astep_bin rfl rfl, astep_b hb33 (astep_move rfl), astep_guard (astep_move rfl), astep_guard (astep_bin rfl rfl), astep_pick rfl rfl, astep_b hb34 (astep_move rfl), trivial, trivial, trivial, astep_pick rfl rfl, astep_move rfl, trivial, astep_pick rfl rfl, astep_assign rfl, trivial⟩
              refine awp_ret ?_
              refine thenA_r ?_
              obtain rfl := osi h
              exact ⟨⟨[B false], ⟨resOK_tmp (by kernel_rfl), trivial⟩, rfl⟩, nll, Nat.le_refl _, fun n hn => absurd hn (Nat.not_lt_zero n)⟩
          · replace h := bif_f hb33 h
            refine awp_reg [mv 7 (I x11.2.2), rp [(.tmp 55, I x11.2.2), ci 2] (B ((x11.2.2 == 2))), rp [(.tmp 56, (B ((x11.2.2 == 2))))] (B false), sk 57 (B false), sk 57 (B false), rp [(.tmp 57, B false), (.tmp 59, (.lit undef)), cb false] (B false), mv 60 (B false), sk 61 (B false), sk 61 (B false), sk 61 (B false), rp [(.tmp 61, B false), (.tmp 64, (.lit undef)), cb false] (B false), mv 65 (B false), sk 66 (B false), rp [(.tmp 66, B false), (.tmp 67, (.lit undef)), cb false] (B false), mv 68 (B false)] ?_ ?_
            · exact ⟨astep_move rfl, astep_bin rfl rfl, astep_b hb33 (astep_move rfl), trivial, trivial, astep_pick rfl rfl, astep_move rfl, trivial, trivial, trivial, astep_pick rfl rfl, astep_move rfl, trivial, astep_pick rfl rfl, astep_assign rfl, trivial⟩
            refine awp_ret ?_
            refine thenA_r ?_
            obtain rfl := osi h
            exact ⟨⟨[B false], ⟨resOK_tmp (by kernel_rfl), trivial⟩, rfl⟩, nll, Nat.le_refl _, fun n hn => absurd hn (Nat.not_lt_zero n)⟩
        · replace h := bif_f hc32 h
          refine awp_ifn hc32 (by kernel_rfl) ?_
          refine awp_skip ?_
          refine thenA_n ?_
          refine awp_seq ?_
          obtain ⟨x39, hf38, h⟩ := bind_out h
          refine awp_reg [mv 0 (.dat 4 ((p0 : List GNode).map c_GNode)), mv 1 (.dat 1 ((p1 : List Int).map c_i64)), rp [fu 38, (.tmp 69, (.dat 4 ((p0 : List GNode).map c_GNode))), (.tmp 70, (.dat 1 ((p1 : List Int).map c_i64)))] (I x39), mv 71 (I x39)] ?_ ?_
          · exact ⟨astep_move rfl, astep_move rfl, astep_pcall (first := []) (cap := []) (vs := [(.dat 4 ((p0 : List GNode).map c_GNode)), (.dat 1 ((p1 : List Int).map c_i64))]) rfl enter38 (ref10_FullX_ok N p0 p1 _ hf38) rfl rfl (nl_cons (nl_dat nl_GNode _) (nl_cons (nl_dat nl_i64 _) nl_nil)) nll rfl, astep_assign rfl, trivial⟩
          refine awp_reg [mv 8 (I x39), rp [(.tmp 72, I x39), ci 0] (B ((decide (x39 ≥ 0))))] ?_ ?_
          · exact ⟨astep_move rfl, astep_bin rfl rfl, trivial⟩
          rcases bft ((decide (x39 ≥ 0))) with hc40 | hc40
          · replace h := bif_t hc40 h
            refine awp_ift hc40 (by kernel_rfl) ?_
            rcases bft ((x11.2.2 == 11)) with hb41 | hb41
            · replace h := bif_t hb41 h
              rcases bft ((x11.2.1 == x39)) with hb42 | hb42
              · replace h := bif_t hb42 h
                rcases bft (((x11.1.length : Int) == 0)) with hb43 | hb43
                · replace h := bif_t hb43 h
                  obtain ⟨x45, hf44, h⟩ := bind_out h
                  refine awp_reg [mv 7 (I x11.2.2), rp [(.tmp 74, I x11.2.2), ci 11] (B ((x11.2.2 == 11))), rp [(.tmp 75, (B ((x11.2.2 == 11))))] (B true), rp [(.tmp 76, B true), (.tmp 6, I x11.2.1)] (I x11.2.1), rp [(.tmp 76, B true), (.tmp 8, I x39)] (I x39), rp [(.tmp 76, B true), (.tmp 77, I x11.2.1), (.tmp 78, I x39)] (B ((x11.2.1 == x39))), rp [(.tmp 76, B true), (.tmp 79, (B ((x11.2.1 == x39)))), cb false] (B ((x11.2.1 == x39))), rp [(.tmp 80, (B ((x11.2.1 == x39))))] (B true), rp [(.tmp 81, B true), (.tmp 5, (.dat 1 ((x11.1 : List Int).map c_i64)))] (.dat 1 ((x11.1 : List Int).map c_i64)), rp [(.tmp 81, B true), (.tmp 82, (.dat 1 ((x11.1 : List Int).map c_i64)))] (I ((x11.1.length : Int))), rp [(.tmp 81, B true), (.tmp 83, (I ((x11.1.length : Int)))), ci 0] (B (((x11.1.length : Int) == 0))), rp [(.tmp 81, B true), (.tmp 84, (B (((x11.1.length : Int) == 0)))), cb false] (B (((x11.1.length : Int) == 0))), rp [(.tmp 85, (B (((x11.1.length : Int) == 0))))] (B true), rp [(.tmp 86, B true), fu 21] (B x45), rp [(.tmp 86, B true), (.tmp 87, B x45), cb false] (B x45), mv 88 (B x45)] ?_ ?_
                  · exact ⟨astep_move rfl, astep_bin rfl rfl, astep_b hb41 (astep_move rfl), astep_guard (astep_move rfl), astep_guard (astep_move rfl), astep_guard (astep_bin rfl rfl), astep_pick rfl rfl, astep_b hb42 (astep_move rfl), astep_guard (astep_move rfl), astep_guard (astep_lenm (c := c_i64) (l := x11.1) (astep_len rfl Try.underlying23 rfl)), astep_guard (astep_bin rfl rfl), astep_pick rfl rfl, astep_b hb43 (astep_move rfl), astep_guard (astep_pcall (first := []) (cap := []) (vs := []) rfl enter21 (law10_wakesX_ok N  _ hf44) rfl rfl nl_nil nll rfl), astep_pick rfl rfl, astep_assign rfl, trivial⟩
                  refine awp_ret ?_
                  refine thenA_r ?_
                  obtain rfl := osi h
                  exact ⟨⟨[B x45], ⟨resOK_tmp (by kernel_rfl), trivial⟩, rfl⟩, nll, Nat.le_refl _, fun n hn => absurd hn (Nat.not_lt_zero n)⟩
                · replace h := bif_f hb43 h
                  refine awp_reg [mv 7 (I x11.2.2), rp [(.tmp 74, I x11.2.2), ci 11] (B ((x11.2.2 == 11))), rp [(.tmp 75, (B ((x11.2.2 == 11))))] (B true), rp [(.tmp 76, B true), (.tmp 6, I x11.2.1)] (I x11.2.1), rp [(.tmp 76, B true), (.tmp 8, I x39)] (I x39), rp [(.tmp 76, B true), (.tmp 77, I x11.2.1), (.tmp 78, I x39)] (B ((x11.2.1 == x39))), rp [(.tmp 76, B true), (.tmp 79, (B ((x11.2.1 == x39)))), cb false] (B ((x11.2.1 == x39))), rp [(.tmp 80, (B ((x11.2.1 == x39))))] (B true), rp [(.tmp 81, B true), (.tmp 5, (.dat 1 ((x11.1 : List Int).map c_i64)))] (.dat 1 ((x11.1 : List Int).map c_i64)), rp [(.tmp 81, B true), (.tmp 82, (.dat 1 ((x11.1 : List Int).map c_i64)))] (I ((x11.1.length : Int))), rp [(.tmp 81, B true), (.tmp 83, (I ((x11.1.length : Int)))), ci 0] (B (((x11.1.length : Int) == 0))), rp [(.tmp 81, B true), (.tmp 84, (B (((x11.1.length : Int) == 0)))), cb false] (B (((x11.1.length : Int) == 0))), rp [(.tmp 85, (B (((x11.1.length : Int) == 0))))] (B false), sk 86 (B false), rp [(.tmp 86, B false), (.tmp 87, (.lit undef)), cb false] (B false), mv 88 (B false)] ?_ ?_
                  · exact ⟨astep_move rfl, astep_bin rfl rfl, astep_b hb41 (astep_move rfl), astep_guard (astep_move rfl), astep_guard (astep_move rfl), astep_guard (astep_bin rfl rfl), astep_pick rfl rfl, astep_b hb42 (astep_move rfl), astep_guard (astep_move rfl), astep_guard (astep_lenm (c := c_i64) (l := x11.1) (astep_len rfl Try.underlying23 rfl)), astep_guard (astep_bin rfl rfl), astep_pick rfl rfl, astep_b hb43 (astep_move rfl), trivial, astep_pick rfl rfl, astep_assign rfl, trivial⟩
                  refine awp_ret ?_
                  refine thenA_r ?_
                  obtain rfl := osi h
                  exact ⟨⟨[B false], ⟨resOK_tmp (by kernel_rfl), trivial⟩, rfl⟩, nll, Nat.le_refl _, fun n hn => absurd hn (Nat.not_lt_zero n)⟩
              · replace h := bif_f hb42 h
                refine awp_reg [mv 7 (I x11.2.2), rp [(.tmp 74, I x11.2.2), ci 11] (B ((x11.2.2 == 11))), rp [(.tmp 75, (B ((x11.2.2 == 11))))] (B true), rp [(.tmp 76, B true), (.tmp 6, I x11.2.1)] (I x11.2.1), rp [(.tmp 76, B true), (.tmp 8, I x39)] (I x39), rp [(.tmp 76, B true), (.tmp 77, I x11.2.1), (.tmp 78, I x39)] (B ((x11.2.1 == x39))), rp [(.tmp 76, B true), (.tmp 79, (B ((x11.2.1 == x39)))), cb false] (B ((x11.2.1 == x39))), rp [(.tmp 80, (B ((x11.2.1 == x39))))] (B false), sk 81 (B false), sk 81 (B false), sk 81 (B false), rp [(.tmp 81, B false), (.tmp 84, (.lit undef)), cb false] (B false), mv 85 (B false), sk 86 (B false), rp [(.tmp 86, B false), (.tmp 87, (.lit undef)), cb false] (B false), mv 88 (B false)] ?_ ?_
                · exact ⟨astep_move rfl, astep_bin rfl rfl, astep_b hb41 (astep_move rfl), astep_guard (astep_move rfl), astep_guard (astep_move rfl), astep_guard (astep_bin rfl rfl), astep_pick rfl rfl, astep_b hb42 (astep_move rfl), trivial, trivial, trivial, astep_pick rfl rfl, astep_move rfl, trivial, astep_pick rfl rfl, astep_assign rfl, trivial⟩
                refine awp_ret ?_
                refine thenA_r ?_
                obtain rfl := osi h
                exact ⟨⟨[B false], ⟨resOK_tmp (by kernel_rfl), trivial⟩, rfl⟩, nll, Nat.le_refl _, fun n hn => absurd hn (Nat.not_lt_zero n)⟩
            · replace h := bif_f hb41 h
              refine awp_reg [mv 7 (I x11.2.2), rp [(.tmp 74, I x11.2.2), ci 11] (B ((x11.2.2 == 11))), rp [(.tmp 75, (B ((x11.2.2 == 11))))] (B false), sk 76 (B false), sk 76 (B false), sk 76 (B false), rp [(.tmp 76, B false), (.tmp 79, (.lit undef)), cb false] (B false), mv 80 (B false), sk 81 (B false), sk 81 (B false), sk 81 (B false), rp [(.tmp 81, B false), (.tmp 84, (.lit undef)), cb false] (B false), mv 85 (B false), sk 86 (B false), rp [(.tmp 86, B false), (.tmp 87, (.lit undef)), cb false] (B false), mv 88 (B false)] ?_ ?_
              · exact ⟨astep_move rfl, astep_bin rfl rfl, astep_b hb41 (astep_move rfl), trivial, trivial, trivial, astep_pick rfl rfl, astep_move rfl, trivial, trivial, trivial, astep_pick rfl rfl, astep_move rfl, trivial, astep_pick rfl rfl, astep_assign rfl, trivial⟩
              refine awp_ret ?_
              refine thenA_r ?_
              obtain rfl := osi h
              exact ⟨⟨[B false], ⟨resOK_tmp (by kernel_rfl), trivial⟩, rfl⟩, nll, Nat.le_refl _, fun n hn => absurd hn (Nat.not_lt_zero n)⟩
          · replace h := bif_f hc40 h
            refine awp_ifn hc40 (by kernel_rfl) ?_
            refine awp_skip ?_
            refine thenA_n ?_
            obtain ⟨k46, hk_k46, h⟩ := joinK_out h
            refine awp_join (τ := Unit) (fun t => k46 t = some r) (fun _ => ⟨mk 118 [(0, (.dat 4 ((p0 : List GNode).map c_GNode))), (1, (.dat 1 ((p1 : List Int).map c_i64))), (5, (.dat 1 ((x11.1 : List Int).map c_i64)))], []⟩) (fun t h => ?_) ?_
            · subst hk_k46
              obtain ⟨k47, hk_k47, h⟩ := joinK_out h
              refine awp_join (τ := Unit) (fun t => k47 t = some r) (fun _ => ⟨mk 118 [], []⟩) (fun t h => ?_) ?_
              · subst hk_k47
                obtain ⟨x49, hf48, h⟩ := bind_out h
                refine awp_reg [rp [fu 21] (B x49), mv 117 (B x49)] ?_ ?_
                · exact ⟨astep_pcall (first := []) (cap := []) (vs := []) rfl enter21 (law10_wakesX_ok N  _ hf48) rfl rfl nl_nil nll rfl, astep_assign rfl, trivial⟩
                refine awp_ret ?_
                obtain rfl := osi h
                exact ⟨⟨[B x49], ⟨resOK_tmp (by kernel_rfl), trivial⟩, rfl⟩, nll, Nat.le_refl _, fun n hn => absurd hn (Nat.not_lt_zero n)⟩
              · skip
                refine awp_reg [mc (.int .i64 0)] ?_ ?_
                · exact ⟨astep_assign rfl, trivial⟩
                refine awp_block ?_
                refine awp_mor (mor_to (n := 118) (l' := [(0, (.dat 4 ((p0 : List GNode).map c_GNode))), (1, (.dat 1 ((p1 : List Int).map c_i64))), (5, (.dat 1 ((x11.1 : List Int).map c_i64))), (9, I 0)]) (own' := []) [(0, (.dat 4 ((p0 : List GNode).map c_GNode))), (1, (.dat 1 ((p1 : List Int).map c_i64))), (5, (.dat 1 ((x11.1 : List Int).map c_i64))), (9, I 0)] [] [] hφ0 (pc (.rn (.plain _ (nl_dat nl_GNode _))) (pc (.rn (.plain _ (nl_dat nl_i64 _))) (pc (.rn (.plain _ (nl_dat nl_i64 _))) (pc rwl pn)))) qn) ?_
                refine awp_ind (τ := Int) (fun n t => law10_TownFlowsX_loop1 N p0 p1 x11 k47 n t = some r) (fun y50 => ⟨mk 118 [(0, (.dat 4 ((p0 : List GNode).map c_GNode))), (1, (.dat 1 ((p1 : List Int).map c_i64))), (5, (.dat 1 ((x11.1 : List Int).map c_i64))), (9, I y50)], []⟩) (fun t h => by rw [law10_TownFlowsX_loop1] at h; cases h) (fun n52 ih y50 h => ?_) N (0) h
                rw [law10_TownFlowsX_loop1] at h
                skip
                refine awp_seq ?_
                refine awp_reg [mv 9 (I y50), mv 0 (.dat 4 ((p0 : List GNode).map c_GNode)), rp [(.tmp 103, (.dat 4 ((p0 : List GNode).map c_GNode)))] (I ((p0.length : Int))), rp [(.tmp 102, I y50), (.tmp 104, (I ((p0.length : Int))))] (B ((decide (y50 < (p0.length : Int)))))] ?_ ?_
                · exact ⟨astep_move rfl, astep_move rfl, astep_lenm (c := c_GNode) (l := p0) (astep_len rfl Try.underlying22 rfl), astep_bin rfl rfl, trivial⟩
                rcases bft ((decide (y50 < (p0.length : Int)))) with hc53 | hc53
                · replace h := bif_t hc53 h
                  refine awp_ift hc53 (by kernel_rfl) ?_
                  refine awp_skip ?_
                  refine thenA_n ?_
                  refine awp_seq ?_
                  refine awp_block ?_
                  obtain ⟨x54, hg55, h⟩ := bind_out h
                  obtain ⟨hi56, hj57⟩ := getI_some hg55
                  obtain ⟨x59, hf58, h⟩ := bind_out h
                  refine awp_regd [mv 5 (.dat 1 ((x11.1 : List Int).map c_i64)), mv 9 (I y50), rp [(.tmp 108, (.dat 1 ((x11.1 : List Int).map c_i64))), (.tmp 109, I y50)] (.dptr (c_i64 (x54)) 0), rp [(.tmp 110, (.dptr (c_i64 (x54)) 0))] (I x54), mv 0 (.dat 4 ((p0 : List GNode).map c_GNode)), mv 1 (.dat 1 ((p1 : List Int).map c_i64)), mv 9 (I y50), rp [fu 39, (.tmp 112, (.dat 4 ((p0 : List GNode).map c_GNode))), (.tmp 113, (.dat 1 ((p1 : List Int).map c_i64))), (.tmp 114, I y50)] (I x59), rp [(.tmp 111, I x54), (.tmp 115, I x59)] (B ((x54 != x59)))] ?_ ?_
                  · exact ⟨astep_move rfl, astep_move rfl, astep_idxd rfl Try.underlying23 ti3 rfl rfl hi56 (map_get c_i64 hj57) rfl, astep_loadd rfl ti3 (by decide) (nle rfl) rfl, astep_move rfl, astep_move rfl, astep_move rfl, astep_pcall (first := []) (cap := []) (vs := [(.dat 4 ((p0 : List GNode).map c_GNode)), (.dat 1 ((p1 : List Int).map c_i64)), I y50]) rfl enter39 (ref10_FlowX_ok N p0 p1 y50 _ hf58) rfl rfl (nl_cons (nl_dat nl_GNode _) (nl_cons (nl_dat nl_i64 _) (nl_cons nll nl_nil))) nll rfl, astep_bin rfl rfl, trivial⟩
                  rcases bft ((x54 != x59)) with hc60 | hc60
                  · replace h := bif_t hc60 h
                    refine awp_ift hc60 (by kernel_rfl) ?_
                    refine awp_reg [mc (.bool false)] ?_ ?_
                    · exact ⟨astep_assign rfl, trivial⟩
                    refine awp_ret ?_
                    refine blockA_r ?_
                    refine thenA_r ?_
                    refine thenA_r ?_
                    refine blockA_r ?_
                    refine thenA_r ?_
                    obtain rfl := osi h
                    exact ⟨⟨[B false], ⟨resOK_tmp (by kernel_rfl), trivial⟩, rfl⟩, nll, Nat.le_refl _, fun n hn => absurd hn (Nat.not_lt_zero n)⟩
                  · replace h := bif_f hc60 h
                    refine awp_ifn hc60 (by kernel_rfl) ?_
                    refine awp_skip ?_
                    refine blockA_n ?_
                    refine thenA_n ?_
                    refine awp_reg1 [mv 9 (I y50), rp [(.tmp 106, I y50), ci 1] (I (w64 (y50 + 1))), mv 107 (I (w64 (y50 + 1)))] ?_ ?_
                    · exact ⟨astep_move rfl, astep_bin rfl rfl, astep_assign rfl, trivial⟩
                    refine thenA_n ?_
                    exact around_mor (mor_to (n := 118) [(0, (.dat 4 ((p0 : List GNode).map c_GNode))), (1, (.dat 1 ((p1 : List Int).map c_i64))), (5, (.dat 1 ((x11.1 : List Int).map c_i64))), (9, (I (w64 (y50 + 1))))] [] [] hφ0 (pc (.rn (.plain _ (nl_dat nl_GNode _))) (pc (.rn (.plain _ (nl_dat nl_i64 _))) (pc (.rn (.plain _ (nl_dat nl_i64 _))) (pc rwl pn)))) qn) (ih (w64 (y50 + 1)) h)
                · replace h := bif_f hc53 h
                  refine awp_ifn hc53 (by kernel_rfl) ?_
                  refine awp_exit ?_
                  refine thenA_x ?_
                  refine thenA_x ?_
                  refine blockA_e rfl ?_
                  refine thenA_n ?_
                  exact ⟨(), h, (mor_to (n := 118) [] [] [] hφ0 pn qn)⟩
            · skip
              rcases bft ((x11.2.2 != 0)) with hb61 | hb61
              · replace h := bif_t hb61 h
                refine awp_reg [mv 7 (I x11.2.2), rp [(.tmp 89, I x11.2.2), ci 0] (B ((x11.2.2 != 0))), rp [(.tmp 90, (B ((x11.2.2 != 0))))] (B true), sk 91 (B true), sk 91 (B true), rp [(.tmp 91, B true), cb true, (.tmp 93, (.lit undef))] (B true), mv 94 (B true), sk 95 (B true), sk 95 (B true), sk 95 (B true), sk 95 (B true), sk 95 (B true), rp [(.tmp 95, B true), cb true, (.tmp 100, (.lit undef))] (B true)] ?_ ?_
                · exact ⟨astep_move rfl, astep_bin rfl rfl, astep_b hb61 (astep_move rfl), trivial, trivial, astep_pick rfl rfl, astep_move rfl, trivial, trivial, trivial, trivial, trivial, astep_pick rfl rfl, trivial⟩
                refine awp_true (by kernel_rfl) ?_
                refine awp_reg [mc (.bool false)] ?_ ?_
                · exact ⟨astep_assign rfl, trivial⟩
                refine awp_ret ?_
                refine thenA_r ?_
                obtain rfl := osi h
                exact ⟨⟨[B false], ⟨resOK_tmp (by kernel_rfl), trivial⟩, rfl⟩, nll, Nat.le_refl _, fun n hn => absurd hn (Nat.not_lt_zero n)⟩
              · replace h := bif_f hb61 h
                rcases bft ((x11.2.1 != 0)) with hb62 | hb62
                · replace h := bif_t hb62 h
                  refine awp_reg [mv 7 (I x11.2.2), rp [(.tmp 89, I x11.2.2), ci 0] (B ((x11.2.2 != 0))), rp [(.tmp 90, (B ((x11.2.2 != 0))))] (B false), rp [(.tmp 91, B false), (.tmp 6, I x11.2.1)] (I x11.2.1), rp [(.tmp 91, B false), (.tmp 92, I x11.2.1), ci 0] (B ((x11.2.1 != 0))), rp [(.tmp 91, B false), cb true, (.tmp 93, (B ((x11.2.1 != 0))))] (B ((x11.2.1 != 0))), rp [(.tmp 94, (B ((x11.2.1 != 0))))] (B true), sk 95 (B true), sk 95 (B true), sk 95 (B true), sk 95 (B true), sk 95 (B true), rp [(.tmp 95, B true), cb true, (.tmp 100, (.lit undef))] (B true)] ?_ ?_
                  · exact ⟨astep_move rfl, astep_bin rfl rfl, astep_b hb61 (astep_move rfl), astep_guard (astep_move rfl), astep_guard (astep_bin rfl rfl), astep_pick rfl rfl, astep_b hb62 (astep_move rfl), trivial, trivial, trivial, trivial, trivial, astep_pick rfl rfl, trivial⟩
                  refine awp_true (by kernel_rfl) ?_
                  refine awp_reg [mc (.bool false)] ?_ ?_
                  · exact ⟨astep_assign rfl, trivial⟩
                  refine awp_ret ?_
                  refine thenA_r ?_
                  obtain rfl := osi h
                  exact ⟨⟨[B false], ⟨resOK_tmp (by kernel_rfl), trivial⟩, rfl⟩, nll, Nat.le_refl _, fun n hn => absurd hn (Nat.not_lt_zero n)⟩
                · replace h := bif_f hb62 h
                  refine awp_reg [mv 7 (I x11.2.2), rp [(.tmp 89, I x11.2.2), ci 0] (B ((x11.2.2 != 0))), rp [(.tmp 90, (B ((x11.2.2 != 0))))] (B false), rp [(.tmp 91, B false), (.tmp 6, I x11.2.1)] (I x11.2.1), rp [(.tmp 91, B false), (.tmp 92, I x11.2.1), ci 0] (B ((x11.2.1 != 0))), rp [(.tmp 91, B false), cb true, (.tmp 93, (B ((x11.2.1 != 0))))] (B ((x11.2.1 != 0))), rp [(.tmp 94, (B ((x11.2.1 != 0))))] (B false), rp [(.tmp 95, B false), (.tmp 5, (.dat 1 ((x11.1 : List Int).map c_i64)))] (.dat 1 ((x11.1 : List Int).map c_i64)), rp [(.tmp 95, B false), (.tmp 96, (.dat 1 ((x11.1 : List Int).map c_i64)))] (I ((x11.1.length : Int))), rp [(.tmp 95, B false), (.tmp 0, (.dat 4 ((p0 : List GNode).map c_GNode)))] (.dat 4 ((p0 : List GNode).map c_GNode)), rp [(.tmp 95, B false), (.tmp 98, (.dat 4 ((p0 : List GNode).map c_GNode)))] (I ((p0.length : Int))), rp [(.tmp 95, B false), (.tmp 97, (I ((x11.1.length : Int)))), (.tmp 99, (I ((p0.length : Int))))] (B (((x11.1.length : Int) != (p0.length : Int)))), rp [(.tmp 95, B false), cb true, (.tmp 100, (B (((x11.1.length : Int) != (p0.length : Int)))))] (B (((x11.1.length : Int) != (p0.length : Int))))] ?_ ?_
                  · exact ⟨astep_move rfl, astep_bin rfl rfl, astep_b hb61 (astep_move rfl), astep_guard (astep_move rfl), astep_guard (astep_bin rfl rfl), astep_pick rfl rfl, astep_b hb62 (astep_move rfl), astep_guard (astep_move rfl), astep_guard (astep_lenm (c := c_i64) (l := x11.1) (astep_len rfl Try.underlying23 rfl)), astep_guard (astep_move rfl), astep_guard (astep_lenm (c := c_GNode) (l := p0) (astep_len rfl Try.underlying22 rfl)), astep_guard (astep_bin rfl rfl), astep_pick rfl rfl, trivial⟩
                  rcases bft (((x11.1.length : Int) != (p0.length : Int))) with hc63 | hc63
                  · replace h := bif_t hc63 h
                    refine awp_ift hc63 (by kernel_rfl) ?_
                    refine awp_reg [mc (.bool false)] ?_ ?_
                    · exact ⟨astep_assign rfl, trivial⟩
                    refine awp_ret ?_
                    refine thenA_r ?_
                    obtain rfl := osi h
                    exact ⟨⟨[B false], ⟨resOK_tmp (by kernel_rfl), trivial⟩, rfl⟩, nll, Nat.le_refl _, fun n hn => absurd hn (Nat.not_lt_zero n)⟩
                  · replace h := bif_f hc63 h
                    refine awp_ifn hc63 (by kernel_rfl) ?_
                    refine awp_skip ?_
                    refine thenA_n ?_
                    exact ⟨(), h, (mor_to (n := 118) [(0, (.dat 4 ((p0 : List GNode).map c_GNode))), (1, (.dat 1 ((p1 : List Int).map c_i64))), (5, (.dat 1 ((x11.1 : List Int).map c_i64)))] [] [] hφ0 (pc (.rn (.plain _ (nl_dat nl_GNode _))) (pc (.rn (.plain _ (nl_dat nl_i64 _))) (pc (.rn (.plain _ (nl_dat nl_i64 _))) pn))) qn)⟩

end Go.Proofs.Ytgdepcgbjjgnfaa
