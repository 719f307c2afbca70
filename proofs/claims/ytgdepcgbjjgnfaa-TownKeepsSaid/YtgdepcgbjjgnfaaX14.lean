/-
  Functions of the program: what they compute, as plain functions, and that they do. No conditions.
-/
import Derived.Test.YtgdepcgbjjgnfaaX12
namespace Go.Proofs.Ytgdepcgbjjgnfaa
open Go.RowKit

def law10_TownKeepsX_loop1 (N : Nat) (p0 : (List GNode)) (p1 : (List Int)) (x7 : ((List Int) × Int × Int)) (k15 : Int → Option Bool) : Nat → Int → Int → (List Int) → Option Bool
  | 0, _, _, _ => none
  | n31 + 1, y25, y26, y27 =>
    bif (decide (y26 ≥ 0)) then
      (getI p1 y26).bind fun x33 =>
      chk (decide (0 ≤ y26) && decide (y26.toNat < (p0.length : Int).toNat)) <|
      (y27[y26.toNat]?).bind fun x38 =>
      joinK (fun ⟨y40, y41⟩ =>
          joinK (fun _ =>
              bif (decide (y26 > 0)) then
                (getI p0 y26).bind fun x45 =>
                chk (decide (0 ≤ x45.Parent) && decide (x45.Parent.toNat < (p0.length : Int).toNat)) <|
                (y27[x45.Parent.toNat]?).bind fun x50 =>
                chk (decide (0 ≤ x45.Parent) && decide (x45.Parent.toNat < (p0.length : Int).toNat)) <|
                (y27[x45.Parent.toNat]?).bind fun _ =>
                law10_TownKeepsX_loop1 N p0 p1 x7 k15 n31 y40 (w64 (y26 - 1)) (y27.set x45.Parent.toNat (w64 (x50 + y41)))
              else
                law10_TownKeepsX_loop1 N p0 p1 x7 k15 n31 y40 (w64 (y26 - 1)) y27) fun k43 : Unit → Option Bool =>
          (getI x7.1 y26).bind fun x55 =>
          bif (x55 != y41) then
            some false
          else
            bif (decide (y26 > 0)) then
              (getI p0 y26).bind fun x61 =>
              bif (decide (x55 > x61.Limit)) then
                some false
              else
                k43 ()
            else
              k43 ()) fun k42 : Int × Int → Option Bool =>
      bif (decide ((w64 (x33 + x38)) > 0)) then
        (getI p0 y26).bind fun x67 =>
        (some (w64 ((w64 (x33 + x38)) + x67.Loss))).bind fun x71 =>
        (some (w64 ((w64 (y25 + x33)) + x67.Loss))).bind fun x73 =>
        k42 (x73, x71)
      else
        k42 (w64 (y25 + x33), w64 (x33 + x38))
    else
      k15 (y25)
def law10_TownKeepsX (N : Nat) (p0 : (List GNode)) (p1 : (List Int)) : Option Bool :=
  joinK (fun _ =>
      (law10_TownX N p0).bind fun x3 =>
      (law10_listX N p1).bind fun x5 =>
      (town_FlowsX N x3 x5).bind fun x7 =>
      bif (x7.2.2 != 0) then
        bif (x7.2.2 == 11) then
          (law10_wakesX N ).bind fun x11 =>
          some x11
        else
          some false
      else
        bif ((x7.1.length : Int) != (p0.length : Int)) then
          some false
        else
          chk (decide (0 ≤ (p0.length : Int)) && decide (8 * (p0.length : Int) ≤ 281474976710656) && decide ((p0.length : Int) ≤ 9223372036854775807)) <|
          joinK (fun y14 =>
              (getI x7.1 0).bind fun x16 =>
              bif (y14 == x16) then
                (law10_wakesX N ).bind fun x22 =>
                some x22
              else
                some false) fun k15 : Int → Option Bool =>
          (some (w64 ((p0.length : Int) - 1))).bind fun x23 =>
          law10_TownKeepsX_loop1 N p0 p1 x7 k15 N 0 x23 (List.replicate (p0.length : Int).toNat 0)) fun k1 : Unit → Option Bool =>
  (law10_fewX N p0 p1).bind fun x76 =>
  bif (!x76) then
    (law10_wakesX N ).bind fun x79 =>
    some x79
  else
    (ref10_RightX N p0).bind fun x81 =>
    bif (!x81) then
      (law10_wakesX N ).bind fun x84 =>
      some x84
    else
      (ref10_UsesX N p0 p1).bind fun x86 =>
      bif (!x86) then
        (law10_wakesX N ).bind fun x89 =>
        some x89
      else
        k1 ()
set_option maxRecDepth 100000 in
set_option maxHeartbeats 4000000 in
theorem law10_TownKeepsX_ok (N : Nat) (p0 : (List GNode)) (p1 : (List Int)) (r : Bool) (h : law10_TownKeepsX N p0 p1 = some r) : Spec Try.prog 5 [(.dat 4 (p0.map c_GNode)), (.dat 1 (p1.map c_i64))] [] (B r) [] := by
  refine spec_of_awp Try.func5 rfl 0 (nle rfl) (fun X φ0 w0 hφ0 => ?_)
  unfold law10_TownKeepsX at h
  refine awp_reg [mc (.bool false)] ?_ ?_
  · exact ⟨astep_assign rfl, trivial⟩
  obtain ⟨k1, hk_k1, h⟩ := joinK_out h
  refine awp_join (τ := Unit) (fun t => k1 t = some r) (fun _ => ⟨mk 133 [(0, (.dat 4 ((p0 : List GNode).map c_GNode))), (1, (.dat 1 ((p1 : List Int).map c_i64)))], []⟩) (fun t h => ?_) ?_
  · subst hk_k1
    obtain ⟨x3, hf2, h⟩ := bind_out h
    obtain ⟨x5, hf4, h⟩ := bind_out h
    obtain ⟨x7, hf6, h⟩ := bind_out h
    refine awp_reg [mv 0 (.dat 4 ((p0 : List GNode).map c_GNode)), rp [fu 23, (.tmp 29, (.dat 4 ((p0 : List GNode).map c_GNode)))] (.dat 4 ((x3 : List GNode).map c_GNode)), mv 1 (.dat 1 ((p1 : List Int).map c_i64)), rp [fu 24, (.tmp 31, (.dat 1 ((p1 : List Int).map c_i64)))] (.dat 1 ((x5 : List Int).map c_i64)), rp [fu 36, (.tmp 30, (.dat 4 ((x3 : List GNode).map c_GNode))), (.tmp 32, (.dat 1 ((x5 : List Int).map c_i64)))] (.tup [(.dat 1 ((x7.1 : List Int).map c_i64)), I x7.2.1, I x7.2.2]), mv 33 (.tup [(.dat 1 ((x7.1 : List Int).map c_i64)), I x7.2.1, I x7.2.2]), rp [(.tmp 28, (.tup [(.dat 1 ((x7.1 : List Int).map c_i64)), I x7.2.1, I x7.2.2]))] (.dat 1 ((x7.1 : List Int).map c_i64)), rp [(.tmp 28, (.tup [(.dat 1 ((x7.1 : List Int).map c_i64)), I x7.2.1, I x7.2.2]))] (I x7.2.1), rp [(.tmp 28, (.tup [(.dat 1 ((x7.1 : List Int).map c_i64)), I x7.2.1, I x7.2.2]))] (I x7.2.2), mv 34 (.dat 1 ((x7.1 : List Int).map c_i64)), mv 35 (I x7.2.1), mv 36 (I x7.2.2)] ?_ ?_
    · exact ⟨astep_move rfl, astep_pcall (first := []) (cap := []) (vs := [(.dat 4 ((p0 : List GNode).map c_GNode))]) rfl enter23 (law10_TownX_ok N p0 _ hf2) rfl rfl (nl_cons (nl_dat nl_GNode _) nl_nil) (nl_dat nl_GNode _) rfl, astep_move rfl, astep_pcall (first := []) (cap := []) (vs := [(.dat 1 ((p1 : List Int).map c_i64))]) rfl enter24 (law10_listX_ok N p1 _ hf4) rfl rfl (nl_cons (nl_dat nl_i64 _) nl_nil) (nl_dat nl_i64 _) rfl, astep_pcall (first := []) (cap := []) (vs := [(.dat 4 ((x3 : List GNode).map c_GNode)), (.dat 1 ((x5 : List Int).map c_i64))]) rfl enter36 (town_FlowsX_ok N x3 x5 _ hf6) rfl rfl (nl_cons (nl_dat nl_GNode _) (nl_cons (nl_dat nl_i64 _) nl_nil)) (NLt.tup _ (nl_cons (nl_dat nl_i64 _) (nl_cons nll (nl_cons nll nl_nil)))) rfl, astep_move rfl, astep_extract rfl rfl, astep_extract rfl rfl, astep_extract rfl rfl, astep_assign rfl, astep_assign rfl, astep_assign rfl, trivial⟩
    refine awp_seq ?_
    refine awp_reg [mv 7 (I x7.2.2), rp [(.tmp 37, I x7.2.2), ci 0] (B ((x7.2.2 != 0)))] ?_ ?_
    · exact ⟨astep_move rfl, astep_bin rfl rfl, trivial⟩
    rcases bft ((x7.2.2 != 0)) with hc8 | hc8
    · replace h := bif_t hc8 h
      refine awp_ift hc8 (by kernel_rfl) ?_
      rcases bft ((x7.2.2 == 11)) with hb9 | hb9
      · replace h := bif_t hb9 h
        obtain ⟨x11, hf10, h⟩ := bind_out h
        refine awp_reg [mv 7 (I x7.2.2), rp [(.tmp 39, I x7.2.2), ci 11] (B ((x7.2.2 == 11))), rp [(.tmp 40, (B ((x7.2.2 == 11))))] (B true), rp [(.tmp 41, B true), fu 21] (B x11), rp [(.tmp 41, B true), (.tmp 42, B x11), cb false] (B x11), mv 43 (B x11)] ?_ ?_
        · exact ⟨astep_move rfl, astep_bin rfl rfl, astep_b hb9 (astep_move rfl), astep_guard (astep_pcall (first := []) (cap := []) (vs := []) rfl enter21 (law10_wakesX_ok N  _ hf10) rfl rfl nl_nil nll rfl), astep_pick rfl rfl, astep_assign rfl, trivial⟩
        refine awp_ret ?_
        refine thenA_r ?_
        obtain rfl := osi h
        exact ⟨⟨[B x11], ⟨resOK_tmp (by kernel_rfl), trivial⟩, rfl⟩, nll, Nat.le_refl _, fun n hn => absurd hn (Nat.not_lt_zero n)⟩
      · replace h := bif_f hb9 h
        refine awp_reg [mv 7 (I x7.2.2), rp [(.tmp 39, I x7.2.2), ci 11] (B ((x7.2.2 == 11))), rp [(.tmp 40, (B ((x7.2.2 == 11))))] (B false), sk 41 (B false), rp [(.tmp 41, B false), (.tmp 42, (.lit undef)), cb false] (B false), mv 43 (B false)] ?_ ?_
        · exact ⟨astep_move rfl, astep_bin rfl rfl, astep_b hb9 (astep_move rfl), trivial, astep_pick rfl rfl, astep_assign rfl, trivial⟩
        refine awp_ret ?_
        refine thenA_r ?_
        obtain rfl := osi h
        exact ⟨⟨[B false], ⟨resOK_tmp (by kernel_rfl), trivial⟩, rfl⟩, nll, Nat.le_refl _, fun n hn => absurd hn (Nat.not_lt_zero n)⟩
    · replace h := bif_f hc8 h
      refine awp_ifn hc8 (by kernel_rfl) ?_
      refine awp_skip ?_
      refine thenA_n ?_
      refine awp_seq ?_
      refine awp_reg [mv 5 (.dat 1 ((x7.1 : List Int).map c_i64)), rp [(.tmp 44, (.dat 1 ((x7.1 : List Int).map c_i64)))] (I ((x7.1.length : Int))), mv 0 (.dat 4 ((p0 : List GNode).map c_GNode)), rp [(.tmp 46, (.dat 4 ((p0 : List GNode).map c_GNode)))] (I ((p0.length : Int))), rp [(.tmp 45, (I ((x7.1.length : Int)))), (.tmp 47, (I ((p0.length : Int))))] (B (((x7.1.length : Int) != (p0.length : Int))))] ?_ ?_
      · exact ⟨astep_move rfl, astep_lenm (c := c_i64) (l := x7.1) (astep_len rfl Try.underlying23 rfl), astep_move rfl, astep_lenm (c := c_GNode) (l := p0) (astep_len rfl Try.underlying22 rfl), astep_bin rfl rfl, trivial⟩
      rcases bft (((x7.1.length : Int) != (p0.length : Int))) with hc12 | hc12
      · replace h := bif_t hc12 h
        refine awp_ift hc12 (by kernel_rfl) ?_
        refine awp_reg [mc (.bool false)] ?_ ?_
        · exact ⟨astep_assign rfl, trivial⟩
        refine awp_ret ?_
        refine thenA_r ?_
        obtain rfl := osi h
        exact ⟨⟨[B false], ⟨resOK_tmp (by kernel_rfl), trivial⟩, rfl⟩, nll, Nat.le_refl _, fun n hn => absurd hn (Nat.not_lt_zero n)⟩
      · replace h := bif_f hc12 h
        refine awp_ifn hc12 (by kernel_rfl) ?_
        refine awp_skip ?_
        refine thenA_n ?_
        refine awp_reg [mc (.int .i64 0)] ?_ ?_
        · exact ⟨astep_assign rfl, trivial⟩
        obtain ⟨hm13, h⟩ := chk_out h
        refine awp_reg [mv 0 (.dat 4 ((p0 : List GNode).map c_GNode)), rp [(.tmp 49, (.dat 4 ((p0 : List GNode).map c_GNode)))] (I ((p0.length : Int))), ⟨[(.tmp 50, (I ((p0.length : Int)))), (.tmp 50, (I ((p0.length : Int))))], [(0, .unused)], (.own 0 1 (0) ((p0.length : Int).toNat)), [(0, (.own 1 ((List.replicate (p0.length : Int).toNat 0 : List Int).map c_i64)))], false⟩, mv 51 (.own 0 1 (0) ((p0.length : Int).toNat))] ?_ ?_
        · exact ⟨astep_move rfl, astep_lenm (c := c_GNode) (l := p0) (astep_len rfl Try.underlying22 rfl), astep_make rfl Try.underlying23 te3 tz3 rfl (and3a hm13) rfl (and3b hm13) (and3c' hm13) (rep_map c_i64 rfl), astep_assign rfl, trivial⟩
        obtain ⟨k15, hk_k15, h⟩ := joinK_out h
        refine awp_join (τ := Int) (fun t => k15 t = some r) (fun y14 => ⟨mk 133 [(5, (.dat 1 ((x7.1 : List Int).map c_i64))), (8, I y14)], []⟩) (fun y14 h => ?_) ?_
        · subst hk_k15
          obtain ⟨x16, hg17, h⟩ := bind_out h
          obtain ⟨hi18, hj19⟩ := getI_some hg17
          rcases bft ((y14 == x16)) with hb20 | hb20
          · replace h := bif_t hb20 h
            obtain ⟨x22, hf21, h⟩ := bind_out h
            refine awp_reg [mv 8 (I y14), mv 5 (.dat 1 ((x7.1 : List Int).map c_i64)), rp [(.tmp 126, (.dat 1 ((x7.1 : List Int).map c_i64))), ci 0] (.dptr (c_i64 (x16)) 0), rp [(.tmp 127, (.dptr (c_i64 (x16)) 0))] (I x16), rp [(.tmp 125, I y14), (.tmp 128, I x16)] (B ((y14 == x16))), rp [(.tmp 129, (B ((y14 == x16))))] (B true), rp [(.tmp 130, B true), fu 21] (B x22), rp [(.tmp 130, B true), (.tmp 131, B x22), cb false] (B x22), mv 132 (B x22)] ?_ ?_
            · exact ⟨astep_move rfl, astep_move rfl, astep_idxd rfl Try.underlying23 ti3 rfl rfl hi18 (map_get c_i64 hj19) rfl, astep_loadd rfl ti3 (by decide) (nle rfl) rfl, astep_bin rfl rfl, astep_b hb20 (astep_move rfl), astep_guard (astep_pcall (first := []) (cap := []) (vs := []) rfl enter21 (law10_wakesX_ok N  _ hf21) rfl rfl nl_nil nll rfl), astep_pick rfl rfl, astep_assign rfl, trivial⟩
            refine awp_ret ?_
            obtain rfl := osi h
            exact ⟨⟨[B x22], ⟨resOK_tmp (by kernel_rfl), trivial⟩, rfl⟩, nll, Nat.le_refl _, fun n hn => absurd hn (Nat.not_lt_zero n)⟩
          · replace h := bif_f hb20 h
            refine awp_reg [mv 8 (I y14), mv 5 (.dat 1 ((x7.1 : List Int).map c_i64)), rp [(.tmp 126, (.dat 1 ((x7.1 : List Int).map c_i64))), ci 0] (.dptr (c_i64 (x16)) 0), rp [(.tmp 127, (.dptr (c_i64 (x16)) 0))] (I x16), rp [(.tmp 125, I y14), (.tmp 128, I x16)] (B ((y14 == x16))), rp [(.tmp 129, (B ((y14 == x16))))] (B false), sk 130 (B false), rp [(.tmp 130, B false), (.tmp 131, (.lit undef)), cb false] (B false), mv 132 (B false)] ?_ ?_
            · exact ⟨astep_move rfl, astep_move rfl, astep_idxd rfl Try.underlying23 ti3 rfl rfl hi18 (map_get c_i64 hj19) rfl, astep_loadd rfl ti3 (by decide) (nle rfl) rfl, astep_bin rfl rfl, astep_b hb20 (astep_move rfl), trivial, astep_pick rfl rfl, astep_assign rfl, trivial⟩
            refine awp_ret ?_
            obtain rfl := osi h
            exact ⟨⟨[B false], ⟨resOK_tmp (by kernel_rfl), trivial⟩, rfl⟩, nll, Nat.le_refl _, fun n hn => absurd hn (Nat.not_lt_zero n)⟩
        · skip
          obtain ⟨x23, hl24, h⟩ := bind_out h
          refine awp_reg [mv 0 (.dat 4 ((p0 : List GNode).map c_GNode)), rp [(.tmp 52, (.dat 4 ((p0 : List GNode).map c_GNode)))] (I ((p0.length : Int))), rp [(.tmp 53, (I ((p0.length : Int)))), ci 1] (I (w64 ((p0.length : Int) - 1))), rp [(.tmp 54, (I (w64 ((p0.length : Int) - 1))))] (I x23)] ?_ ?_
          · exact ⟨astep_move rfl, astep_lenm (c := c_GNode) (l := p0) (astep_len rfl Try.underlying22 rfl), astep_bin rfl rfl, astep_i hl24 (astep_assign rfl), trivial⟩
          refine awp_block ?_
          refine awp_mor (mor_to (n := 133) (l' := [(0, (.dat 4 ((p0 : List GNode).map c_GNode))), (1, (.dat 1 ((p1 : List Int).map c_i64))), (5, (.dat 1 ((x7.1 : List Int).map c_i64))), (8, I 0), (9, (.own 0 1 (0) ((p0.length : Int).toNat))), (10, I x23)]) (own' := [(.own 1 (((List.replicate (p0.length : Int).toNat 0) : List Int).map c_i64))]) [(0, (.dat 4 ((p0 : List GNode).map c_GNode))), (1, (.dat 1 ((p1 : List Int).map c_i64))), (5, (.dat 1 ((x7.1 : List Int).map c_i64))), (8, I 0), (9, (.own 0 1 (0) ((p0.length : Int).toNat))), (10, I x23)] [0] [(.own 1 ((List.replicate (p0.length : Int).toNat 0 : List Int).map c_i64))] hφ0 (pc (.rn (.plain _ (nl_dat nl_GNode _))) (pc (.rn (.plain _ (nl_dat nl_i64 _))) (pc (.rn (.plain _ (nl_dat nl_i64 _))) (pc rwl (pc (.rn (rnq_own rfl)) (pc rwl pn)))))) (qc (spw_row nl_i64) qn)) ?_
          refine awp_ind (τ := Int × Int × (List Int)) (fun n t => law10_TownKeepsX_loop1 N p0 p1 x7 k15 n t.1 t.2.1 t.2.2 = some r) (fun ⟨y25, y26, y27⟩ => ⟨mk 133 [(0, (.dat 4 ((p0 : List GNode).map c_GNode))), (1, (.dat 1 ((p1 : List Int).map c_i64))), (5, (.dat 1 ((x7.1 : List Int).map c_i64))), (8, I y25), (9, (.own 0 1 (0) ((p0.length : Int).toNat))), (10, I y26)], [(.own 1 ((y27 : List Int).map c_i64))]⟩) (fun t h => by rw [law10_TownKeepsX_loop1] at h; cases h) (fun n31 ih t h => ?_) N (0, x23, List.replicate (p0.length : Int).toNat 0) h
          obtain ⟨y25, y26, y27⟩ := t
          rw [law10_TownKeepsX_loop1] at h
          skip
          refine awp_seq ?_
          refine awp_reg [mv 10 (I y26), rp [(.tmp 55, I y26), ci 0] (B ((decide (y26 ≥ 0))))] ?_ ?_
          · exact ⟨astep_move rfl, astep_bin rfl rfl, trivial⟩
          rcases bft ((decide (y26 ≥ 0))) with hc32 | hc32
          · replace h := bif_t hc32 h
            refine awp_ift hc32 (by kernel_rfl) ?_
            refine awp_skip ?_
            refine thenA_n ?_
            refine awp_seq ?_
            refine awp_block ?_
            obtain ⟨x33, hg34, h⟩ := bind_out h
            obtain ⟨hi35, hj36⟩ := getI_some hg34
            obtain ⟨hi37, h⟩ := chk_out h
            obtain ⟨hi37a, hi37b⟩ := and_out hi37
            obtain ⟨x38, hg39, h⟩ := bind_out h
            refine awp_regd [mv 1 (.dat 1 ((p1 : List Int).map c_i64)), mv 10 (I y26), rp [(.tmp 59, (.dat 1 ((p1 : List Int).map c_i64))), (.tmp 60, I y26)] (.dptr (c_i64 (x33)) 0), rp [(.tmp 61, (.dptr (c_i64 (x33)) 0))] (I x33), mv 9 (.own 0 1 (0) ((p0.length : Int).toNat)), mv 10 (I y26), rb [(.tmp 63, (.own 0 1 (0) ((p0.length : Int).toNat))), (.tmp 64, I y26)] [(0, (.own 1 ((y27 : List Int).map c_i64)))] (.ref 0 1 (y26.toNat) 0), rb [(.tmp 65, (.ref 0 1 (y26.toNat) 0))] [(0, (.own 1 ((y27 : List Int).map c_i64)))] (I x38), rp [(.tmp 62, I x33), (.tmp 66, I x38)] (I (w64 (x33 + x38))), mv 67 (I (w64 (x33 + x38)))] ?_ ?_
            · exact ⟨astep_move rfl, astep_move rfl, astep_idxd rfl Try.underlying23 ti3 rfl rfl hi35 (map_get c_i64 hj36) rfl, astep_loadd rfl ti3 (by decide) (nle rfl) rfl, astep_move rfl, astep_move rfl, astep_idxo rfl Try.underlying23 ti3 (odt hi37a) (odt hi37b) (Nat.zero_add _), astep_load rfl ti3 (by decide) (map_get c_i64 hg39) (nle rfl) rfl, astep_bin rfl rfl, astep_assign rfl, trivial⟩
            refine awp_reg [mv 8 (I y25), mv 1 (.dat 1 ((p1 : List Int).map c_i64)), mv 10 (I y26), rp [(.tmp 69, (.dat 1 ((p1 : List Int).map c_i64))), (.tmp 70, I y26)] (.dptr (c_i64 (x33)) 0), rp [(.tmp 71, (.dptr (c_i64 (x33)) 0))] (I x33), rp [(.tmp 68, I y25), (.tmp 72, I x33)] (I (w64 (y25 + x33))), mv 73 (I (w64 (y25 + x33)))] ?_ ?_
            · exact ⟨astep_move rfl, astep_move rfl, astep_move rfl, astep_idxd rfl Try.underlying23 ti3 rfl rfl hi35 (map_get c_i64 hj36) rfl, astep_loadd rfl ti3 (by decide) (nle rfl) rfl, astep_bin rfl rfl, astep_assign rfl, trivial⟩
            obtain ⟨k42, hk_k42, h⟩ := joinK_out h
            refine awp_join (τ := Int × Int) (fun t => k42 t = some r) (fun ⟨y40, y41⟩ => ⟨mk 133 [(0, (.dat 4 ((p0 : List GNode).map c_GNode))), (1, (.dat 1 ((p1 : List Int).map c_i64))), (5, (.dat 1 ((x7.1 : List Int).map c_i64))), (8, I y40), (9, (.own 0 1 (0) ((p0.length : Int).toNat))), (10, I y26), (11, I y41)], [(.own 1 ((y27 : List Int).map c_i64))]⟩) (fun t h => ?_) ?_
            · subst hk_k42
              obtain ⟨y40, y41⟩ := t
              obtain ⟨k43, hk_k43, h⟩ := joinK_out h
              refine awp_join (τ := Unit) (fun t => k43 t = some r) (fun _ => ⟨mk 133 [(0, (.dat 4 ((p0 : List GNode).map c_GNode))), (1, (.dat 1 ((p1 : List Int).map c_i64))), (5, (.dat 1 ((x7.1 : List Int).map c_i64))), (8, I y40), (9, (.own 0 1 (0) ((p0.length : Int).toNat))), (10, I y26), (11, I y41)], [(.own 1 ((y27 : List Int).map c_i64))]⟩) (fun t h => ?_) ?_
              · subst hk_k43
                refine awp_reg [mv 10 (I y26), rp [(.tmp 112, I y26), ci 0] (B ((decide (y26 > 0))))] ?_ ?_
                · exact ⟨astep_move rfl, astep_bin rfl rfl, trivial⟩
                rcases bft ((decide (y26 > 0))) with hc44 | hc44
                · replace h := bif_t hc44 h
                  refine awp_ift hc44 (by kernel_rfl) ?_
                  obtain ⟨x45, hg46, h⟩ := bind_out h
                  obtain ⟨hi47, hj48⟩ := getI_some hg46
                  obtain ⟨hi49, h⟩ := chk_out h
                  obtain ⟨hi49a, hi49b⟩ := and_out hi49
                  obtain ⟨x50, hg51, h⟩ := bind_out h
                  obtain ⟨hi52, h⟩ := chk_out h
                  obtain ⟨hi52a, hi52b⟩ := and_out hi52
                  obtain ⟨x53, hg54, h⟩ := bind_out h
                  refine awp_reg1 [mv 9 (.own 0 1 (0) ((p0.length : Int).toNat)), mv 0 (.dat 4 ((p0 : List GNode).map c_GNode)), mv 10 (I y26), rp [(.tmp 115, (.dat 4 ((p0 : List GNode).map c_GNode))), (.tmp 116, I y26)] (.dptr (c_GNode (x45)) 0), mv 117 (.dptr (c_GNode (x45)) 0), rp [(.tmp 118, (.dptr (c_GNode (x45)) 0))] (I x45.Parent), rb [(.tmp 114, (.own 0 1 (0) ((p0.length : Int).toNat))), (.tmp 119, I x45.Parent)] [(0, (.own 1 ((y27 : List Int).map c_i64)))] (.ref 0 1 (x45.Parent.toNat) 0), rb [(.tmp 120, (.ref 0 1 (x45.Parent.toNat) 0))] [(0, (.own 1 ((y27 : List Int).map c_i64)))] (I x50), mv 11 (I y41), rp [(.tmp 121, I x50), (.tmp 122, I y41)] (I (w64 (x50 + y41))), rb [(.tmp 114, (.own 0 1 (0) ((p0.length : Int).toNat))), (.tmp 119, I x45.Parent)] [(0, (.own 1 ((y27 : List Int).map c_i64)))] (.ref 0 1 (x45.Parent.toNat) 0), ⟨[(.tmp 124, (.ref 0 1 (x45.Parent.toNat) 0)), (.tmp 123, (I (w64 (x50 + y41))))], [(0, (.own 1 ((y27 : List Int).map c_i64)))], .any, [(0, (.own 1 ((y27.set x45.Parent.toNat (w64 (x50 + y41)) : List Int).map c_i64)))], false⟩] ?_ ?_
                  · exact ⟨astep_move rfl, astep_move rfl, astep_move rfl, astep_idxd rfl Try.underlying22 ti56 rfl rfl hi47 (map_get c_GNode hj48) rfl, astep_faddrd rfl Try.underlying56 rfl rfl ti3 (by decide) rfl, astep_loadd rfl ti3 (by decide) (nle rfl) rfl, astep_idxo rfl Try.underlying23 ti3 (odt hi49a) (odt hi49b) (Nat.zero_add _), astep_load rfl ti3 (by decide) (map_get c_i64 hg51) (nle rfl) rfl, astep_move rfl, astep_bin rfl rfl, astep_idxo rfl Try.underlying23 ti3 (odt hi52a) (odt hi52b) (Nat.zero_add _), astep_store rfl ti3 (by rfl) (map_get c_i64 hg54) (nle rfl) (set_map c_i64 rfl), trivial⟩
                  refine blockA_n ?_
                  refine thenA_n ?_
                  refine awp_reg1 [mv 10 (I y26), rp [(.tmp 57, I y26), ci 1] (I (w64 (y26 - 1))), mv 58 (I (w64 (y26 - 1)))] ?_ ?_
                  · exact ⟨astep_move rfl, astep_bin rfl rfl, astep_assign rfl, trivial⟩
                  refine thenA_n ?_
                  exact around_mor (mor_to (n := 133) [(0, (.dat 4 ((p0 : List GNode).map c_GNode))), (1, (.dat 1 ((p1 : List Int).map c_i64))), (5, (.dat 1 ((x7.1 : List Int).map c_i64))), (8, I y40), (9, (.own 0 1 (0) ((p0.length : Int).toNat))), (10, (I (w64 (y26 - 1))))] [0] [(.own 1 ((y27.set x45.Parent.toNat (w64 (x50 + y41)) : List Int).map c_i64))] hφ0 (pc (.rn (.plain _ (nl_dat nl_GNode _))) (pc (.rn (.plain _ (nl_dat nl_i64 _))) (pc (.rn (.plain _ (nl_dat nl_i64 _))) (pc rwl (pc (.rn (rnq_own rfl)) (pc rwl pn)))))) (qc (spw_row nl_i64) qn)) (ih (y40, w64 (y26 - 1), y27.set x45.Parent.toNat (w64 (x50 + y41))) h)
                · replace h := bif_f hc44 h
                  refine awp_ifn hc44 (by kernel_rfl) ?_
                  refine awp_skip ?_
                  refine blockA_n ?_
                  refine thenA_n ?_
                  refine awp_reg1 [mv 10 (I y26), rp [(.tmp 57, I y26), ci 1] (I (w64 (y26 - 1))), mv 58 (I (w64 (y26 - 1)))] ?_ ?_
                  · exact ⟨astep_move rfl, astep_bin rfl rfl, astep_assign rfl, trivial⟩
                  refine thenA_n ?_
                  exact around_mor (mor_to (n := 133) [(0, (.dat 4 ((p0 : List GNode).map c_GNode))), (1, (.dat 1 ((p1 : List Int).map c_i64))), (5, (.dat 1 ((x7.1 : List Int).map c_i64))), (8, I y40), (9, (.own 0 1 (0) ((p0.length : Int).toNat))), (10, (I (w64 (y26 - 1))))] [0] [(.own 1 ((y27 : List Int).map c_i64))] hφ0 (pc (.rn (.plain _ (nl_dat nl_GNode _))) (pc (.rn (.plain _ (nl_dat nl_i64 _))) (pc (.rn (.plain _ (nl_dat nl_i64 _))) (pc rwl (pc (.rn (rnq_own rfl)) (pc rwl pn)))))) (qc (spw_row nl_i64) qn)) (ih (y40, w64 (y26 - 1), y27) h)
              · skip
                obtain ⟨x55, hg56, h⟩ := bind_out h
                obtain ⟨hi57, hj58⟩ := getI_some hg56
                rcases bft ((x55 != y41)) with hb59 | hb59
                · replace h := bif_t hb59 h
                  refine awp_regd [mv 5 (.dat 1 ((x7.1 : List Int).map c_i64)), mv 10 (I y26), rp [(.tmp 90, (.dat 1 ((x7.1 : List Int).map c_i64))), (.tmp 91, I y26)] (.dptr (c_i64 (x55)) 0), rp [(.tmp 92, (.dptr (c_i64 (x55)) 0))] (I x55), mv 11 (I y41), rp [(.tmp 93, I x55), (.tmp 94, I y41)] (B ((x55 != y41))), rp [(.tmp 95, (B ((x55 != y41))))] (B true), sk 96 (B true), sk 96 (B true), sk 96 (B true), sk 99 (.lit undef), sk 99 (.lit undef), sk 99 (.lit undef), sk 99 (.lit undef), sk 99 (.lit undef), sk 99 (.lit undef), sk 99 (.lit undef), sk 99 (.lit undef), sk 99 (.lit undef), sk 99 (.lit undef), sk 96 (B true), rp [(.tmp 96, B true), cb true, (.tmp 110, (.lit undef))] (B true)] ?_ ?_
                  · exact ⟨astep_move rfl, astep_move rfl, astep_idxd rfl Try.underlying23 ti3 rfl rfl hi57 (map_get c_i64 hj58) rfl, astep_loadd rfl ti3 (by decide) (nle rfl) rfl, astep_move rfl, astep_bin rfl rfl, astep_b hb59 (astep_move rfl), trivial, trivial, trivial, trivial, trivial, trivial, trivial, trivial, trivial, trivial, trivial, trivial, trivial, trivial, astep_pick rfl rfl, trivial⟩
                  refine awp_true (by kernel_rfl) ?_
                  refine awp_reg [mc (.bool false)] ?_ ?_
                  · exact ⟨astep_assign rfl, trivial⟩
                  refine awp_ret ?_
                  refine thenA_r ?_
                  refine blockA_r ?_
                  refine thenA_r ?_
                  refine thenA_r ?_
                  refine blockA_r ?_
                  refine thenA_r ?_
                  obtain rfl := osi h
                  exact ⟨⟨[B false], ⟨resOK_tmp (by kernel_rfl), trivial⟩, rfl⟩, nll, Nat.le_refl _, fun n hn => absurd hn (Nat.not_lt_zero n)⟩
                · replace h := bif_f hb59 h
                  rcases bft ((decide (y26 > 0))) with hb60 | hb60
                  · replace h := bif_t hb60 h
                    obtain ⟨x61, hg62, h⟩ := bind_out h
                    obtain ⟨hi63, hj64⟩ := getI_some hg62
                    refine awp_regd [mv 5 (.dat 1 ((x7.1 : List Int).map c_i64)), mv 10 (I y26), rp [(.tmp 90, (.dat 1 ((x7.1 : List Int).map c_i64))), (.tmp 91, I y26)] (.dptr (c_i64 (x55)) 0), rp [(.tmp 92, (.dptr (c_i64 (x55)) 0))] (I x55), mv 11 (I y41), rp [(.tmp 93, I x55), (.tmp 94, I y41)] (B ((x55 != y41))), rp [(.tmp 95, (B ((x55 != y41))))] (B false), rp [(.tmp 96, B false), (.tmp 10, I y26)] (I y26), rp [(.tmp 96, B false), (.tmp 97, I y26), ci 0] (B ((decide (y26 > 0)))), rp [(.tmp 96, B false), (.tmp 98, (B ((decide (y26 > 0)))))] (B true), rp [(.tmp 99, B true), (.tmp 5, (.dat 1 ((x7.1 : List Int).map c_i64)))] (.dat 1 ((x7.1 : List Int).map c_i64)), rp [(.tmp 99, B true), (.tmp 10, I y26)] (I y26), rp [(.tmp 99, B true), (.tmp 100, (.dat 1 ((x7.1 : List Int).map c_i64))), (.tmp 101, I y26)] (.dptr (c_i64 (x55)) 0), rp [(.tmp 99, B true), (.tmp 102, (.dptr (c_i64 (x55)) 0))] (I x55), rp [(.tmp 99, B true), (.tmp 0, (.dat 4 ((p0 : List GNode).map c_GNode)))] (.dat 4 ((p0 : List GNode).map c_GNode)), rp [(.tmp 99, B true), (.tmp 10, I y26)] (I y26), rp [(.tmp 99, B true), (.tmp 104, (.dat 4 ((p0 : List GNode).map c_GNode))), (.tmp 105, I y26)] (.dptr (c_GNode (x61)) 0), rp [(.tmp 99, B true), (.tmp 106, (.dptr (c_GNode (x61)) 0))] (.dptr (c_GNode (x61)) 2), rp [(.tmp 99, B true), (.tmp 107, (.dptr (c_GNode (x61)) 2))] (I x61.Limit), rp [(.tmp 99, B true), (.tmp 103, I x55), (.tmp 108, I x61.Limit)] (B ((decide (x55 > x61.Limit)))), rp [(.tmp 96, B false), (.tmp 99, B true), (.tmp 109, (B ((decide (x55 > x61.Limit))))), cb false] (B ((decide (x55 > x61.Limit)))), rp [(.tmp 96, B false), cb true, (.tmp 110, (B ((decide (x55 > x61.Limit)))))] (B ((decide (x55 > x61.Limit))))] ?_ ?_
                    · exact ⟨astep_move rfl, astep_move rfl, astep_idxd rfl Try.underlying23 ti3 rfl rfl hi57 (map_get c_i64 hj58) rfl, astep_loadd rfl ti3 (by decide) (nle rfl) rfl, astep_move rfl, astep_bin rfl rfl, astep_b hb59 (astep_move rfl), astep_guard (astep_move rfl), astep_guard (astep_bin rfl rfl), astep_b hb60 (astep_guard (astep_move rfl)), astep_guard (astep_move rfl), astep_guard (astep_move rfl), astep_guard (astep_idxd rfl Try.underlying23 ti3 rfl rfl hi57 (map_get c_i64 hj58) rfl), astep_guard (astep_loadd rfl ti3 (by decide) (nle rfl) rfl), astep_guard (astep_move rfl), astep_guard (astep_move rfl), astep_guard (astep_idxd rfl Try.underlying22 ti56 rfl rfl hi63 (map_get c_GNode hj64) rfl), astep_guard (astep_faddrd rfl Try.underlying56 rfl rfl ti3 (by decide) rfl), astep_guard (astep_loadd rfl ti3 (by decide) (nle rfl) rfl), astep_guard (astep_bin rfl rfl), astep_guard (astep_pick rfl rfl), astep_pick rfl rfl, trivial⟩
                    rcases bft ((decide (x55 > x61.Limit))) with hc65 | hc65
                    · replace h := bif_t hc65 h
                      refine awp_ift hc65 (by kernel_rfl) ?_
                      refine awp_reg [mc (.bool false)] ?_ ?_
                      · exact ⟨astep_assign rfl, trivial⟩
                      refine awp_ret ?_
                      refine thenA_r ?_
                      refine blockA_r ?_
                      refine thenA_r ?_
                      refine thenA_r ?_
                      refine blockA_r ?_
                      refine thenA_r ?_
                      obtain rfl := osi h
                      exact ⟨⟨[B false], ⟨resOK_tmp (by kernel_rfl), trivial⟩, rfl⟩, nll, Nat.le_refl _, fun n hn => absurd hn (Nat.not_lt_zero n)⟩
                    · replace h := bif_f hc65 h
                      refine awp_ifn hc65 (by kernel_rfl) ?_
                      refine awp_skip ?_
                      refine thenA_n ?_
                      exact ⟨(), h, (mor_to (n := 133) [(0, (.dat 4 ((p0 : List GNode).map c_GNode))), (1, (.dat 1 ((p1 : List Int).map c_i64))), (5, (.dat 1 ((x7.1 : List Int).map c_i64))), (8, I y40), (9, (.own 0 1 (0) ((p0.length : Int).toNat))), (10, I y26), (11, I y41)] [0] [(.own 1 ((y27 : List Int).map c_i64))] hφ0 (pc (.rn (.plain _ (nl_dat nl_GNode _))) (pc (.rn (.plain _ (nl_dat nl_i64 _))) (pc (.rn (.plain _ (nl_dat nl_i64 _))) (pc rwl (pc (.rn (rnq_own rfl)) (pc rwl (pc rwl pn))))))) (qc (spw_row nl_i64) qn))⟩
                  · replace h := bif_f hb60 h
                    refine awp_regd [mv 5 (.dat 1 ((x7.1 : List Int).map c_i64)), mv 10 (I y26), rp [(.tmp 90, (.dat 1 ((x7.1 : List Int).map c_i64))), (.tmp 91, I y26)] (.dptr (c_i64 (x55)) 0), rp [(.tmp 92, (.dptr (c_i64 (x55)) 0))] (I x55), mv 11 (I y41), rp [(.tmp 93, I x55), (.tmp 94, I y41)] (B ((x55 != y41))), rp [(.tmp 95, (B ((x55 != y41))))] (B false), rp [(.tmp 96, B false), (.tmp 10, I y26)] (I y26), rp [(.tmp 96, B false), (.tmp 97, I y26), ci 0] (B ((decide (y26 > 0)))), rp [(.tmp 96, B false), (.tmp 98, (B ((decide (y26 > 0)))))] (B false), sk 99 (B false), sk 99 (B false), sk 99 (B false), sk 99 (B false), sk 99 (B false), sk 99 (B false), sk 99 (B false), sk 99 (B false), sk 99 (B false), sk 99 (B false), rp [(.tmp 96, B false), (.tmp 99, B false), (.tmp 109, (.lit undef)), cb false] (B false), rp [(.tmp 96, B false), cb true, (.tmp 110, B false)] (B false)] ?_ ?_
                    · exact ⟨astep_move rfl, astep_move rfl, astep_idxd rfl Try.underlying23 ti3 rfl rfl hi57 (map_get c_i64 hj58) rfl, astep_loadd rfl ti3 (by decide) (nle rfl) rfl, astep_move rfl, astep_bin rfl rfl, astep_b hb59 (astep_move rfl), astep_guard (astep_move rfl), astep_guard (astep_bin rfl rfl), astep_b hb60 (astep_guard (astep_move rfl)), trivial, trivial, trivial, trivial, trivial, trivial, trivial, trivial, trivial, trivial, astep_guard (astep_pick rfl rfl), astep_pick rfl rfl, trivial⟩
                    refine awp_false (by kernel_rfl) ?_
                    refine awp_skip ?_
                    refine thenA_n ?_
                    exact ⟨(), h, (mor_to (n := 133) [(0, (.dat 4 ((p0 : List GNode).map c_GNode))), (1, (.dat 1 ((p1 : List Int).map c_i64))), (5, (.dat 1 ((x7.1 : List Int).map c_i64))), (8, I y40), (9, (.own 0 1 (0) ((p0.length : Int).toNat))), (10, I y26), (11, I y41)] [0] [(.own 1 ((y27 : List Int).map c_i64))] hφ0 (pc (.rn (.plain _ (nl_dat nl_GNode _))) (pc (.rn (.plain _ (nl_dat nl_i64 _))) (pc (.rn (.plain _ (nl_dat nl_i64 _))) (pc rwl (pc (.rn (rnq_own rfl)) (pc rwl (pc rwl pn))))))) (qc (spw_row nl_i64) qn))⟩
            · skip
              refine awp_reg [mv 11 (I (w64 (x33 + x38))), rp [(.tmp 74, (I (w64 (x33 + x38)))), ci 0] (B ((decide ((w64 (x33 + x38)) > 0))))] ?_ ?_
              · exact ⟨astep_move rfl, astep_bin rfl rfl, trivial⟩
              rcases bft ((decide ((w64 (x33 + x38)) > 0))) with hc66 | hc66
              · replace h := bif_t hc66 h
                refine awp_ift hc66 (by kernel_rfl) ?_
                obtain ⟨x67, hg68, h⟩ := bind_out h
                obtain ⟨hi69, hj70⟩ := getI_some hg68
                obtain ⟨x71, hl72, h⟩ := bind_out h
                refine awp_reg [mv 11 (I (w64 (x33 + x38))), mv 0 (.dat 4 ((p0 : List GNode).map c_GNode)), mv 10 (I y26), rp [(.tmp 77, (.dat 4 ((p0 : List GNode).map c_GNode))), (.tmp 78, I y26)] (.dptr (c_GNode (x67)) 0), rp [(.tmp 79, (.dptr (c_GNode (x67)) 0))] (.dptr (c_GNode (x67)) 1), rp [(.tmp 80, (.dptr (c_GNode (x67)) 1))] (I x67.Loss), rp [(.tmp 76, (I (w64 (x33 + x38)))), (.tmp 81, I x67.Loss)] (I (w64 ((w64 (x33 + x38)) + x67.Loss))), rp [(.tmp 82, (I (w64 ((w64 (x33 + x38)) + x67.Loss))))] (I x71)] ?_ ?_
                · exact ⟨astep_move rfl, astep_move rfl, astep_move rfl, astep_idxd rfl Try.underlying22 ti56 rfl rfl hi69 (map_get c_GNode hj70) rfl, astep_faddrd rfl Try.underlying56 rfl rfl ti3 (by decide) rfl, astep_loadd rfl ti3 (by decide) (nle rfl) rfl, astep_bin rfl rfl, astep_i hl72 (astep_assign rfl), trivial⟩
                obtain ⟨x73, hl74, h⟩ := bind_out h
                refine awp_reg1 [mv 8 (I (w64 (y25 + x33))), mv 0 (.dat 4 ((p0 : List GNode).map c_GNode)), mv 10 (I y26), rp [(.tmp 84, (.dat 4 ((p0 : List GNode).map c_GNode))), (.tmp 85, I y26)] (.dptr (c_GNode (x67)) 0), rp [(.tmp 86, (.dptr (c_GNode (x67)) 0))] (.dptr (c_GNode (x67)) 1), rp [(.tmp 87, (.dptr (c_GNode (x67)) 1))] (I x67.Loss), rp [(.tmp 83, (I (w64 (y25 + x33)))), (.tmp 88, I x67.Loss)] (I (w64 ((w64 (y25 + x33)) + x67.Loss))), rp [(.tmp 89, (I (w64 ((w64 (y25 + x33)) + x67.Loss))))] (I x73)] ?_ ?_
                · exact ⟨astep_move rfl, astep_move rfl, astep_move rfl, astep_idxd rfl Try.underlying22 ti56 rfl rfl hi69 (map_get c_GNode hj70) rfl, astep_faddrd rfl Try.underlying56 rfl rfl ti3 (by decide) rfl, astep_loadd rfl ti3 (by decide) (nle rfl) rfl, astep_bin rfl rfl, astep_i hl74 (astep_assign rfl), trivial⟩
                refine thenA_n ?_
                exact ⟨(x73, x71), h, (mor_to (n := 133) [(0, (.dat 4 ((p0 : List GNode).map c_GNode))), (1, (.dat 1 ((p1 : List Int).map c_i64))), (5, (.dat 1 ((x7.1 : List Int).map c_i64))), (8, I x73), (9, (.own 0 1 (0) ((p0.length : Int).toNat))), (10, I y26), (11, I x71)] [0] [(.own 1 ((y27 : List Int).map c_i64))] hφ0 (pc (.rn (.plain _ (nl_dat nl_GNode _))) (pc (.rn (.plain _ (nl_dat nl_i64 _))) (pc (.rn (.plain _ (nl_dat nl_i64 _))) (pc rwl (pc (.rn (rnq_own rfl)) (pc rwl (pc rwl pn))))))) (qc (spw_row nl_i64) qn))⟩
              · replace h := bif_f hc66 h
                refine awp_ifn hc66 (by kernel_rfl) ?_
                refine awp_skip ?_
                refine thenA_n ?_
                exact ⟨(w64 (y25 + x33), w64 (x33 + x38)), h, (mor_to (n := 133) [(0, (.dat 4 ((p0 : List GNode).map c_GNode))), (1, (.dat 1 ((p1 : List Int).map c_i64))), (5, (.dat 1 ((x7.1 : List Int).map c_i64))), (8, (I (w64 (y25 + x33)))), (9, (.own 0 1 (0) ((p0.length : Int).toNat))), (10, I y26), (11, (I (w64 (x33 + x38))))] [0] [(.own 1 ((y27 : List Int).map c_i64))] hφ0 (pc (.rn (.plain _ (nl_dat nl_GNode _))) (pc (.rn (.plain _ (nl_dat nl_i64 _))) (pc (.rn (.plain _ (nl_dat nl_i64 _))) (pc rwl (pc (.rn (rnq_own rfl)) (pc rwl (pc rwl pn))))))) (qc (spw_row nl_i64) qn))⟩
          · replace h := bif_f hc32 h
            refine awp_ifn hc32 (by kernel_rfl) ?_
            refine awp_exit ?_
            refine thenA_x ?_
            refine thenA_x ?_
            refine blockA_e rfl ?_
            refine thenA_n ?_
            exact ⟨(y25), h, (mor_to (n := 133) [(5, (.dat 1 ((x7.1 : List Int).map c_i64))), (8, I y25)] [] [] hφ0 (pc (.rn (.plain _ (nl_dat nl_i64 _))) (pc rwl pn)) qn)⟩
  · skip
    obtain ⟨x76, hf75, h⟩ := bind_out h
    rcases bft ((!x76)) with hb77 | hb77
    · replace h := bif_t hb77 h
      refine awp_reg [mv 0 (.dat 4 ((p0 : List GNode).map c_GNode)), mv 1 (.dat 1 ((p1 : List Int).map c_i64)), rp [fu 20, (.tmp 12, (.dat 4 ((p0 : List GNode).map c_GNode))), (.tmp 13, (.dat 1 ((p1 : List Int).map c_i64)))] (B x76), rp [(.tmp 14, B x76)] (B ((!x76))), rp [(.tmp 15, (B ((!x76))))] (B true), sk 16 (B true), sk 16 (B true), sk 16 (B true), rp [(.tmp 16, B true), cb true, (.tmp 19, (.lit undef))] (B true), mv 20 (B true), sk 21 (B true), sk 21 (B true), sk 21 (B true), sk 21 (B true), rp [(.tmp 21, B true), cb true, (.tmp 25, (.lit undef))] (B true)] ?_ ?_
      · exact ⟨astep_move rfl, astep_move rfl, astep_pcall (first := []) (cap := []) (vs := [(.dat 4 ((p0 : List GNode).map c_GNode)), (.dat 1 ((p1 : List Int).map c_i64))]) rfl enter20 (law10_fewX_ok N p0 p1 _ hf75) rfl rfl (nl_cons (nl_dat nl_GNode _) (nl_cons (nl_dat nl_i64 _) nl_nil)) nll rfl, astep_not rfl, astep_b hb77 (astep_move rfl), trivial, trivial, trivial, astep_pick rfl rfl, astep_move rfl, trivial, trivial, trivial, trivial, astep_pick rfl rfl, trivial⟩
      refine awp_true (by kernel_rfl) ?_
      obtain ⟨x79, hf78, h⟩ := bind_out h
      refine awp_reg [rp [fu 21] (B x79), mv 27 (B x79)] ?_ ?_
      · exact ⟨astep_pcall (first := []) (cap := []) (vs := []) rfl enter21 (law10_wakesX_ok N  _ hf78) rfl rfl nl_nil nll rfl, astep_assign rfl, trivial⟩
      refine awp_ret ?_
      refine thenA_r ?_
      obtain rfl := osi h
      exact ⟨⟨[B x79], ⟨resOK_tmp (by kernel_rfl), trivial⟩, rfl⟩, nll, Nat.le_refl _, fun n hn => absurd hn (Nat.not_lt_zero n)⟩
    · replace h := bif_f hb77 h
      obtain ⟨x81, hf80, h⟩ := bind_out h
      rcases bft ((!x81)) with hb82 | hb82
      · replace h := bif_t hb82 h
        refine awp_reg [mv 0 (.dat 4 ((p0 : List GNode).map c_GNode)), mv 1 (.dat 1 ((p1 : List Int).map c_i64)), rp [fu 20, (.tmp 12, (.dat 4 ((p0 : List GNode).map c_GNode))), (.tmp 13, (.dat 1 ((p1 : List Int).map c_i64)))] (B x76), rp [(.tmp 14, B x76)] (B ((!x76))), rp [(.tmp 15, (B ((!x76))))] (B false), rp [(.tmp 16, B false), (.tmp 0, (.dat 4 ((p0 : List GNode).map c_GNode)))] (.dat 4 ((p0 : List GNode).map c_GNode)), rp [(.tmp 16, B false), fu 25, (.tmp 17, (.dat 4 ((p0 : List GNode).map c_GNode)))] (B x81), rp [(.tmp 16, B false), (.tmp 18, B x81)] (B ((!x81))), rp [(.tmp 16, B false), cb true, (.tmp 19, (B ((!x81))))] (B ((!x81))), rp [(.tmp 20, (B ((!x81))))] (B true), sk 21 (B true), sk 21 (B true), sk 21 (B true), sk 21 (B true), rp [(.tmp 21, B true), cb true, (.tmp 25, (.lit undef))] (B true)] ?_ ?_
        · exact ⟨astep_move rfl, astep_move rfl, astep_pcall (first := []) (cap := []) (vs := [(.dat 4 ((p0 : List GNode).map c_GNode)), (.dat 1 ((p1 : List Int).map c_i64))]) rfl enter20 (law10_fewX_ok N p0 p1 _ hf75) rfl rfl (nl_cons (nl_dat nl_GNode _) (nl_cons (nl_dat nl_i64 _) nl_nil)) nll rfl, astep_not rfl, astep_b hb77 (astep_move rfl), astep_guard (astep_move rfl), astep_guard (astep_pcall (first := []) (cap := []) (vs := [(.dat 4 ((p0 : List GNode).map c_GNode))]) rfl enter25 (ref10_RightX_ok N p0 _ hf80) rfl rfl (nl_cons (nl_dat nl_GNode _) nl_nil) nll rfl), astep_guard (astep_not rfl), astep_pick rfl rfl, astep_b hb82 (astep_move rfl), trivial, trivial, trivial, trivial, astep_pick rfl rfl, trivial⟩
        refine awp_true (by kernel_rfl) ?_
        obtain ⟨x84, hf83, h⟩ := bind_out h
        refine awp_reg [rp [fu 21] (B x84), mv 27 (B x84)] ?_ ?_
        · exact ⟨astep_pcall (first := []) (cap := []) (vs := []) rfl enter21 (law10_wakesX_ok N  _ hf83) rfl rfl nl_nil nll rfl, astep_assign rfl, trivial⟩
        refine awp_ret ?_
        refine thenA_r ?_
        obtain rfl := osi h
        exact ⟨⟨[B x84], ⟨resOK_tmp (by kernel_rfl), trivial⟩, rfl⟩, nll, Nat.le_refl _, fun n hn => absurd hn (Nat.not_lt_zero n)⟩
      · replace h := bif_f hb82 h
        obtain ⟨x86, hf85, h⟩ := bind_out h
        refine awp_reg [mv 0 (.dat 4 ((p0 : List GNode).map c_GNode)), mv 1 (.dat 1 ((p1 : List Int).map c_i64)), rp [fu 20, (.tmp 12, (.dat 4 ((p0 : List GNode).map c_GNode))), (.tmp 13, (.dat 1 ((p1 : List Int).map c_i64)))] (B x76), rp [(.tmp 14, B x76)] (B ((!x76))), rp [(.tmp 15, (B ((!x76))))] (B false), rp [(.tmp 16, B false), (.tmp 0, (.dat 4 ((p0 : List GNode).map c_GNode)))] (.dat 4 ((p0 : List GNode).map c_GNode)), rp [(.tmp 16, B false), fu 25, (.tmp 17, (.dat 4 ((p0 : List GNode).map c_GNode)))] (B x81), rp [(.tmp 16, B false), (.tmp 18, B x81)] (B ((!x81))), rp [(.tmp 16, B false), cb true, (.tmp 19, (B ((!x81))))] (B ((!x81))), rp [(.tmp 20, (B ((!x81))))] (B false), rp [(.tmp 21, B false), (.tmp 0, (.dat 4 ((p0 : List GNode).map c_GNode)))] (.dat 4 ((p0 : List GNode).map c_GNode)), rp [(.tmp 21, B false), (.tmp 1, (.dat 1 ((p1 : List Int).map c_i64)))] (.dat 1 ((p1 : List Int).map c_i64)), rp [(.tmp 21, B false), fu 26, (.tmp 22, (.dat 4 ((p0 : List GNode).map c_GNode))), (.tmp 23, (.dat 1 ((p1 : List Int).map c_i64)))] (B x86), rp [(.tmp 21, B false), (.tmp 24, B x86)] (B ((!x86))), rp [(.tmp 21, B false), cb true, (.tmp 25, (B ((!x86))))] (B ((!x86)))] ?_ ?_
        · exact ⟨astep_move rfl, astep_move rfl, astep_pcall (first := []) (cap := []) (vs := [(.dat 4 ((p0 : List GNode).map c_GNode)), (.dat 1 ((p1 : List Int).map c_i64))]) rfl enter20 (law10_fewX_ok N p0 p1 _ hf75) rfl rfl (nl_cons (nl_dat nl_GNode _) (nl_cons (nl_dat nl_i64 _) nl_nil)) nll rfl, astep_not rfl, astep_b hb77 (astep_move rfl), astep_guard (astep_move rfl), astep_guard (astep_pcall (first := []) (cap := []) (vs := [(.dat 4 ((p0 : List GNode).map c_GNode))]) rfl enter25 (ref10_RightX_ok N p0 _ hf80) rfl rfl (nl_cons (nl_dat nl_GNode _) nl_nil) nll rfl), astep_guard (astep_not rfl), astep_pick rfl rfl, astep_b hb82 (astep_move rfl), astep_guard (astep_move rfl), astep_guard (astep_move rfl), astep_guard (astep_pcall (first := []) (cap := []) (vs := [(.dat 4 ((p0 : List GNode).map c_GNode)), (.dat 1 ((p1 : List Int).map c_i64))]) rfl enter26 (ref10_UsesX_ok N p0 p1 _ hf85) rfl rfl (nl_cons (nl_dat nl_GNode _) (nl_cons (nl_dat nl_i64 _) nl_nil)) nll rfl), astep_guard (astep_not rfl), astep_pick rfl rfl, trivial⟩
        rcases bft ((!x86)) with hc87 | hc87
        · replace h := bif_t hc87 h
          refine awp_ift hc87 (by kernel_rfl) ?_
          obtain ⟨x89, hf88, h⟩ := bind_out h
          refine awp_reg [rp [fu 21] (B x89), mv 27 (B x89)] ?_ ?_
          · exact ⟨astep_pcall (first := []) (cap := []) (vs := []) rfl enter21 (law10_wakesX_ok N  _ hf88) rfl rfl nl_nil nll rfl, astep_assign rfl, trivial⟩
          refine awp_ret ?_
          refine thenA_r ?_
          obtain rfl := osi h
          exact ⟨⟨[B x89], ⟨resOK_tmp (by kernel_rfl), trivial⟩, rfl⟩, nll, Nat.le_refl _, fun n hn => absurd hn (Nat.not_lt_zero n)⟩
        · replace h := bif_f hc87 h
          refine awp_ifn hc87 (by kernel_rfl) ?_
          refine awp_skip ?_
          refine thenA_n ?_
          exact ⟨(), h, (mor_to (n := 133) [(0, (.dat 4 ((p0 : List GNode).map c_GNode))), (1, (.dat 1 ((p1 : List Int).map c_i64)))] [] [] hφ0 (pc (.rn (.plain _ (nl_dat nl_GNode _))) (pc (.rn (.plain _ (nl_dat nl_i64 _))) pn)) qn)⟩

end Go.Proofs.Ytgdepcgbjjgnfaa
