/-
  Functions of the program: what they compute, as plain functions, and that they do. No conditions.
-/
import Derived.Test.YtgdepcgbjjgnfaaX5
namespace Go.Proofs.Ytgdepcgbjjgnfaa
open Go.RowKit

def ref10_RightX_loop1 (N : Nat) (p0 : (List GNode)) (k2 : Unit → Option Bool) : Nat → Int → Option Bool
  | 0, _ => none
  | n5 + 1, y3 =>
    bif (decide (y3 < (p0.length : Int))) then
      bif (decide (y3 > 0)) then
        (getI p0 y3).bind fun x8 =>
        (ref10_InX N x8.Parent 0 (w64 (y3 - 1))).bind fun x13 =>
        bif (!x13) then
          some false
        else
          (ref10_InX N x8.Loss 0 1000000000).bind fun x16 =>
          bif (!x16) then
            some false
          else
            (ref10_InX N x8.Limit 0 1000000000).bind fun x19 =>
            bif (!x19) then
              some false
            else
              (ref10_InX N x8.Rank 0 100).bind fun x22 =>
              bif (!x22) then
                some false
              else
                ref10_RightX_loop1 N p0 k2 n5 (w64 (y3 + 1))
      else
        (getI p0 y3).bind fun x24 =>
        (ref10_InX N x24.Loss 0 1000000000).bind fun x29 =>
        bif (!x29) then
          some false
        else
          (ref10_InX N x24.Limit 0 1000000000).bind fun x32 =>
          bif (!x32) then
            some false
          else
            (ref10_InX N x24.Rank 0 100).bind fun x35 =>
            bif (!x35) then
              some false
            else
              ref10_RightX_loop1 N p0 k2 n5 (w64 (y3 + 1))
    else
      k2 ()
def ref10_RightX (N : Nat) (p0 : (List GNode)) : Option Bool :=
  joinK (fun _ =>
      joinK (fun _ =>
          some true) fun k2 : Unit → Option Bool =>
      ref10_RightX_loop1 N p0 k2 N 0) fun k1 : Unit → Option Bool =>
  bif (decide ((p0.length : Int) < 1)) then
    some false
  else
    bif (decide ((p0.length : Int) > 30)) then
      some false
    else
      (getI p0 0).bind fun x39 =>
      bif (x39.Parent != (-1)) then
        some false
      else
        bif (x39.Loss != 0) then
          some false
        else
          bif (x39.Limit != 0) then
            some false
          else
            k1 ()
set_option maxRecDepth 100000 in
set_option maxHeartbeats 4000000 in
theorem ref10_RightX_ok (N : Nat) (p0 : (List GNode)) (r : Bool) (h : ref10_RightX N p0 = some r) : Spec Try.prog 25 [(.dat 4 (p0.map c_GNode))] [] (B r) [] := by
  refine spec_of_awp Try.func25 rfl 0 (nle rfl) (fun X φ0 w0 hφ0 => ?_)
  unfold ref10_RightX at h
  refine awp_reg [mc (.bool false)] ?_ ?_
  · exact ⟨astep_assign rfl, trivial⟩
  obtain ⟨k1, hk_k1, h⟩ := joinK_out h
  refine awp_join (τ := Unit) (fun t => k1 t = some r) (fun _ => ⟨mk 79 [(0, (.dat 4 ((p0 : List GNode).map c_GNode)))], []⟩) (fun t h => ?_) ?_
  · subst hk_k1
    obtain ⟨k2, hk_k2, h⟩ := joinK_out h
    refine awp_join (τ := Unit) (fun t => k2 t = some r) (fun _ => ⟨mk 79 [], []⟩) (fun t h => ?_) ?_
    · subst hk_k2
      refine awp_reg [mc (.bool true)] ?_ ?_
      · exact ⟨astep_assign rfl, trivial⟩
      refine awp_ret ?_
      obtain rfl := osi h
      exact ⟨⟨[B true], ⟨resOK_tmp (by kernel_rfl), trivial⟩, rfl⟩, nll, Nat.le_refl _, fun n hn => absurd hn (Nat.not_lt_zero n)⟩
    · skip
      refine awp_reg [mc (.int .i64 0)] ?_ ?_
      · exact ⟨astep_assign rfl, trivial⟩
      refine awp_block ?_
      refine awp_mor (mor_to (n := 79) (l' := [(0, (.dat 4 ((p0 : List GNode).map c_GNode))), (3, I 0)]) (own' := []) [(0, (.dat 4 ((p0 : List GNode).map c_GNode))), (3, I 0)] [] [] hφ0 (pc (.rn (.plain _ (nl_dat nl_GNode _))) (pc rwl pn)) qn) ?_
      refine awp_ind (τ := Int) (fun n t => ref10_RightX_loop1 N p0 k2 n t = some r) (fun y3 => ⟨mk 79 [(0, (.dat 4 ((p0 : List GNode).map c_GNode))), (3, I y3)], []⟩) (fun t h => by rw [ref10_RightX_loop1] at h; cases h) (fun n5 ih y3 h => ?_) N (0) h
      rw [ref10_RightX_loop1] at h
      skip
      refine awp_seq ?_
      refine awp_reg [mv 3 (I y3), mv 0 (.dat 4 ((p0 : List GNode).map c_GNode)), rp [(.tmp 34, (.dat 4 ((p0 : List GNode).map c_GNode)))] (I ((p0.length : Int))), rp [(.tmp 33, I y3), (.tmp 35, (I ((p0.length : Int))))] (B ((decide (y3 < (p0.length : Int)))))] ?_ ?_
      · exact ⟨astep_move rfl, astep_move rfl, astep_lenm (c := c_GNode) (l := p0) (astep_len rfl Try.underlying22 rfl), astep_bin rfl rfl, trivial⟩
      rcases bft ((decide (y3 < (p0.length : Int)))) with hc6 | hc6
      · replace h := bif_t hc6 h
        refine awp_ift hc6 (by kernel_rfl) ?_
        refine awp_skip ?_
        refine thenA_n ?_
        refine awp_seq ?_
        refine awp_block ?_
        rcases bft ((decide (y3 > 0))) with hb7 | hb7
        · replace h := bif_t hb7 h
          obtain ⟨x8, hg9, h⟩ := bind_out h
          obtain ⟨hi10, hj11⟩ := getI_some hg9
          obtain ⟨x13, hf12, h⟩ := bind_out h
          rcases bft ((!x13)) with hb14 | hb14
          · replace h := bif_t hb14 h
            refine awp_reg [mv 3 (I y3), rp [(.tmp 39, I y3), ci 0] (B ((decide (y3 > 0)))), rp [(.tmp 40, (B ((decide (y3 > 0)))))] (B true), rp [(.tmp 41, B true), (.tmp 0, (.dat 4 ((p0 : List GNode).map c_GNode)))] (.dat 4 ((p0 : List GNode).map c_GNode)), rp [(.tmp 41, B true), (.tmp 3, I y3)] (I y3), rp [(.tmp 41, B true), (.tmp 42, (.dat 4 ((p0 : List GNode).map c_GNode))), (.tmp 43, I y3)] (.dptr (c_GNode (x8)) 0), rp [(.tmp 41, B true), (.tmp 44, (.dptr (c_GNode (x8)) 0))] (.dptr (c_GNode (x8)) 0), rp [(.tmp 41, B true), (.tmp 45, (.dptr (c_GNode (x8)) 0))] (I x8.Parent), rp [(.tmp 41, B true), (.tmp 3, I y3)] (I y3), rp [(.tmp 41, B true), (.tmp 47, I y3), ci 1] (I (w64 (y3 - 1))), rp [(.tmp 41, B true), fu 27, (.tmp 46, I x8.Parent), ci 0, (.tmp 48, (I (w64 (y3 - 1))))] (B x13), rp [(.tmp 41, B true), (.tmp 49, B x13)] (B ((!x13))), rp [(.tmp 41, B true), (.tmp 50, (B ((!x13)))), cb false] (B ((!x13))), rp [(.tmp 51, (B ((!x13))))] (B true), sk 52 (B true), sk 52 (B true), sk 52 (B true), sk 52 (B true), sk 52 (B true), sk 52 (B true), sk 52 (B true), rp [(.tmp 52, B true), cb true, (.tmp 59, (.lit undef))] (B true), mv 60 (B true), sk 61 (B true), sk 61 (B true), sk 61 (B true), sk 61 (B true), sk 61 (B true), sk 61 (B true), sk 61 (B true), rp [(.tmp 61, B true), cb true, (.tmp 68, (.lit undef))] (B true), mv 69 (B true), sk 70 (B true), sk 70 (B true), sk 70 (B true), sk 70 (B true), sk 70 (B true), sk 70 (B true), sk 70 (B true), rp [(.tmp 70, B true), cb true, (.tmp 77, (.lit undef))] (B true)] ?_ ?_
            · exact ⟨astep_move rfl, astep_bin rfl rfl, astep_b hb7 (astep_move rfl), astep_guard (astep_move rfl), astep_guard (astep_move rfl), astep_guard (astep_idxd rfl Try.underlying22 ti56 rfl rfl hi10 (map_get c_GNode hj11) rfl), astep_guard (astep_faddrd rfl Try.underlying56 rfl rfl ti3 (by decide) rfl), astep_guard (astep_loadd rfl ti3 (by decide) (nle rfl) rfl), astep_guard (astep_move rfl), astep_guard (astep_bin rfl rfl), astep_guard (astep_pcall (first := []) (cap := []) (vs := [I x8.Parent, I 0, (I (w64 (y3 - 1)))]) rfl enter27 (ref10_InX_ok N x8.Parent 0 (w64 (y3 - 1)) _ hf12) rfl rfl (nl_cons nll (nl_cons nll (nl_cons nll nl_nil))) nll rfl), astep_guard (astep_not rfl), astep_pick rfl rfl, astep_b hb14 (astep_move rfl), trivial, trivial, trivial, trivial, trivial, trivial, trivial, astep_pick rfl rfl, astep_move rfl, trivial, trivial, trivial, trivial, trivial, trivial, trivial, astep_pick rfl rfl, astep_move rfl, trivial, trivial, trivial, trivial, trivial, trivial, trivial, astep_pick rfl rfl, trivial⟩
            refine awp_true (by kernel_rfl) ?_
            refine awp_reg [mc (.bool false)] ?_ ?_
            · exact ⟨astep_assign rfl, trivial⟩
            refine awp_ret ?_
            refine blockA_r ?_
            refine thenA_r ?_
            refine thenA_r ?_
            refine blockA_r ?_
            refine thenA_r ?_
            obtain rfl := osi h
            exact ⟨⟨[B false], ⟨resOK_tmp (by kernel_rfl), trivial⟩, rfl⟩, nll, Nat.le_refl _, fun n hn => absurd hn (Nat.not_lt_zero n)⟩
          · replace h := bif_f hb14 h
            obtain ⟨x16, hf15, h⟩ := bind_out h
            rcases bft ((!x16)) with hb17 | hb17
            · replace h := bif_t hb17 h
              refine awp_reg [mv 3 (I y3), rp [(.tmp 39, I y3), ci 0] (B ((decide (y3 > 0)))), rp [(.tmp 40, (B ((decide (y3 > 0)))))] (B true), rp [(.tmp 41, B true), (.tmp 0, (.dat 4 ((p0 : List GNode).map c_GNode)))] (.dat 4 ((p0 : List GNode).map c_GNode)), rp [(.tmp 41, B true), (.tmp 3, I y3)] (I y3), rp [(.tmp 41, B true), (.tmp 42, (.dat 4 ((p0 : List GNode).map c_GNode))), (.tmp 43, I y3)] (.dptr (c_GNode (x8)) 0), rp [(.tmp 41, B true), (.tmp 44, (.dptr (c_GNode (x8)) 0))] (.dptr (c_GNode (x8)) 0), rp [(.tmp 41, B true), (.tmp 45, (.dptr (c_GNode (x8)) 0))] (I x8.Parent), rp [(.tmp 41, B true), (.tmp 3, I y3)] (I y3), rp [(.tmp 41, B true), (.tmp 47, I y3), ci 1] (I (w64 (y3 - 1))), rp [(.tmp 41, B true), fu 27, (.tmp 46, I x8.Parent), ci 0, (.tmp 48, (I (w64 (y3 - 1))))] (B x13), rp [(.tmp 41, B true), (.tmp 49, B x13)] (B ((!x13))), rp [(.tmp 41, B true), (.tmp 50, (B ((!x13)))), cb false] (B ((!x13))), rp [(.tmp 51, (B ((!x13))))] (B false), rp [(.tmp 52, B false), (.tmp 0, (.dat 4 ((p0 : List GNode).map c_GNode)))] (.dat 4 ((p0 : List GNode).map c_GNode)), rp [(.tmp 52, B false), (.tmp 3, I y3)] (I y3), rp [(.tmp 52, B false), (.tmp 53, (.dat 4 ((p0 : List GNode).map c_GNode))), (.tmp 54, I y3)] (.dptr (c_GNode (x8)) 0), rp [(.tmp 52, B false), (.tmp 55, (.dptr (c_GNode (x8)) 0))] (.dptr (c_GNode (x8)) 1), rp [(.tmp 52, B false), (.tmp 56, (.dptr (c_GNode (x8)) 1))] (I x8.Loss), rp [(.tmp 52, B false), fu 27, (.tmp 57, I x8.Loss), ci 0, ci 1000000000] (B x16), rp [(.tmp 52, B false), (.tmp 58, B x16)] (B ((!x16))), rp [(.tmp 52, B false), cb true, (.tmp 59, (B ((!x16))))] (B ((!x16))), rp [(.tmp 60, (B ((!x16))))] (B true), sk 61 (B true), sk 61 (B true), sk 61 (B true), sk 61 (B true), sk 61 (B true), sk 61 (B true), sk 61 (B true), rp [(.tmp 61, B true), cb true, (.tmp 68, (.lit undef))] (B true), mv 69 (B true), sk 70 (B true), sk 70 (B true), sk 70 (B true), sk 70 (B true), sk 70 (B true), sk 70 (B true), sk 70 (B true), rp [(.tmp 70, B true), cb true, (.tmp 77, (.lit undef))] (B true)] ?_ ?_
              · exact ⟨astep_move rfl, astep_bin rfl rfl, astep_b hb7 (astep_move rfl), astep_guard (astep_move rfl), astep_guard (astep_move rfl), astep_guard (astep_idxd rfl Try.underlying22 ti56 rfl rfl hi10 (map_get c_GNode hj11) rfl), astep_guard (astep_faddrd rfl Try.underlying56 rfl rfl ti3 (by decide) rfl), astep_guard (astep_loadd rfl ti3 (by decide) (nle rfl) rfl), astep_guard (astep_move rfl), astep_guard (astep_bin rfl rfl), astep_guard (astep_pcall (first := []) (cap := []) (vs := [I x8.Parent, I 0, (I (w64 (y3 - 1)))]) rfl enter27 (ref10_InX_ok N x8.Parent 0 (w64 (y3 - 1)) _ hf12) rfl rfl (nl_cons nll (nl_cons nll (nl_cons nll nl_nil))) nll rfl), astep_guard (astep_not rfl), astep_pick rfl rfl, astep_b hb14 (astep_move rfl), astep_guard (astep_move rfl), astep_guard (astep_move rfl), astep_guard (astep_idxd rfl Try.underlying22 ti56 rfl rfl hi10 (map_get c_GNode hj11) rfl), astep_guard (astep_faddrd rfl Try.underlying56 rfl rfl ti3 (by decide) rfl), astep_guard (astep_loadd rfl ti3 (by decide) (nle rfl) rfl), astep_guard (astep_pcall (first := []) (cap := []) (vs := [I x8.Loss, I 0, I 1000000000]) rfl enter27 (ref10_InX_ok N x8.Loss 0 1000000000 _ hf15) rfl rfl (nl_cons nll (nl_cons nll (nl_cons nll nl_nil))) nll rfl), astep_guard (astep_not rfl), astep_pick rfl rfl, astep_b hb17 (astep_move rfl), trivial, trivial, trivial, trivial, trivial, trivial, trivial, astep_pick rfl rfl, astep_move rfl, trivial, trivial, trivial, trivial, trivial, trivial, trivial, astep_pick rfl rfl, trivial⟩
              refine awp_true (by kernel_rfl) ?_
              refine awp_reg [mc (.bool false)] ?_ ?_
              · exact ⟨astep_assign rfl, trivial⟩
              refine awp_ret ?_
              refine blockA_r ?_
              refine thenA_r ?_
              refine thenA_r ?_
              refine blockA_r ?_
              refine thenA_r ?_
              obtain rfl := osi h
              exact ⟨⟨[B false], ⟨resOK_tmp (by kernel_rfl), trivial⟩, rfl⟩, nll, Nat.le_refl _, fun n hn => absurd hn (Nat.not_lt_zero n)⟩
            · replace h := bif_f hb17 h
              obtain ⟨x19, hf18, h⟩ := bind_out h
              rcases bft ((!x19)) with hb20 | hb20
              · replace h := bif_t hb20 h
                refine awp_reg [mv 3 (I y3), rp [(.tmp 39, I y3), ci 0] (B ((decide (y3 > 0)))), rp [(.tmp 40, (B ((decide (y3 > 0)))))] (B true), rp [(.tmp 41, B true), (.tmp 0, (.dat 4 ((p0 : List GNode).map c_GNode)))] (.dat 4 ((p0 : List GNode).map c_GNode)), rp [(.tmp 41, B true), (.tmp 3, I y3)] (I y3), rp [(.tmp 41, B true), (.tmp 42, (.dat 4 ((p0 : List GNode).map c_GNode))), (.tmp 43, I y3)] (.dptr (c_GNode (x8)) 0), rp [(.tmp 41, B true), (.tmp 44, (.dptr (c_GNode (x8)) 0))] (.dptr (c_GNode (x8)) 0), rp [(.tmp 41, B true), (.tmp 45, (.dptr (c_GNode (x8)) 0))] (I x8.Parent), rp [(.tmp 41, B true), (.tmp 3, I y3)] (I y3), rp [(.tmp 41, B true), (.tmp 47, I y3), ci 1] (I (w64 (y3 - 1))), rp [(.tmp 41, B true), fu 27, (.tmp 46, I x8.Parent), ci 0, (.tmp 48, (I (w64 (y3 - 1))))] (B x13), rp [(.tmp 41, B true), (.tmp 49, B x13)] (B ((!x13))), rp [(.tmp 41, B true), (.tmp 50, (B ((!x13)))), cb false] (B ((!x13))), rp [(.tmp 51, (B ((!x13))))] (B false), rp [(.tmp 52, B false), (.tmp 0, (.dat 4 ((p0 : List GNode).map c_GNode)))] (.dat 4 ((p0 : List GNode).map c_GNode)), rp [(.tmp 52, B false), (.tmp 3, I y3)] (I y3), rp [(.tmp 52, B false), (.tmp 53, (.dat 4 ((p0 : List GNode).map c_GNode))), (.tmp 54, I y3)] (.dptr (c_GNode (x8)) 0), rp [(.tmp 52, B false), (.tmp 55, (.dptr (c_GNode (x8)) 0))] (.dptr (c_GNode (x8)) 1), rp [(.tmp 52, B false), (.tmp 56, (.dptr (c_GNode (x8)) 1))] (I x8.Loss), rp [(.tmp 52, B false), fu 27, (.tmp 57, I x8.Loss), ci 0, ci 1000000000] (B x16), rp [(.tmp 52, B false), (.tmp 58, B x16)] (B ((!x16))), rp [(.tmp 52, B false), cb true, (.tmp 59, (B ((!x16))))] (B ((!x16))), rp [(.tmp 60, (B ((!x16))))] (B false), rp [(.tmp 61, B false), (.tmp 0, (.dat 4 ((p0 : List GNode).map c_GNode)))] (.dat 4 ((p0 : List GNode).map c_GNode)), rp [(.tmp 61, B false), (.tmp 3, I y3)] (I y3), rp [(.tmp 61, B false), (.tmp 62, (.dat 4 ((p0 : List GNode).map c_GNode))), (.tmp 63, I y3)] (.dptr (c_GNode (x8)) 0), rp [(.tmp 61, B false), (.tmp 64, (.dptr (c_GNode (x8)) 0))] (.dptr (c_GNode (x8)) 2), rp [(.tmp 61, B false), (.tmp 65, (.dptr (c_GNode (x8)) 2))] (I x8.Limit), rp [(.tmp 61, B false), fu 27, (.tmp 66, I x8.Limit), ci 0, ci 1000000000] (B x19), rp [(.tmp 61, B false), (.tmp 67, B x19)] (B ((!x19))), rp [(.tmp 61, B false), cb true, (.tmp 68, (B ((!x19))))] (B ((!x19))), rp [(.tmp 69, (B ((!x19))))] (B true), sk 70 (B true), sk 70 (B true), sk 70 (B true), sk 70 (B true), sk 70 (B true), sk 70 (B true), sk 70 (B true), rp [(.tmp 70, B true), cb true, (.tmp 77, (.lit undef))] (B true)] ?_ ?_
                · exact ⟨astep_move rfl, astep_bin rfl rfl, astep_b hb7 (astep_move rfl), astep_guard (astep_move rfl), astep_guard (astep_move rfl), astep_guard (astep_idxd rfl Try.underlying22 ti56 rfl rfl hi10 (map_get c_GNode hj11) rfl), astep_guard (astep_faddrd rfl Try.underlying56 rfl rfl ti3 (by decide) rfl), astep_guard (astep_loadd rfl ti3 (by decide) (nle rfl) rfl), astep_guard (astep_move rfl), astep_guard (astep_bin rfl rfl), astep_guard (astep_pcall (first := []) (cap := []) (vs := [I x8.Parent, I 0, (I (w64 (y3 - 1)))]) rfl enter27 (ref10_InX_ok N x8.Parent 0 (w64 (y3 - 1)) _ hf12) rfl rfl (nl_cons nll (nl_cons nll (nl_cons nll nl_nil))) nll rfl), astep_guard (astep_not rfl), astep_pick rfl rfl, astep_b hb14 (astep_move rfl), astep_guard (astep_move rfl), astep_guard (astep_move rfl), astep_guard (astep_idxd rfl Try.underlying22 ti56 rfl rfl hi10 (map_get c_GNode hj11) rfl), astep_guard (astep_faddrd rfl Try.underlying56 rfl rfl ti3 (by decide) rfl), astep_guard (astep_loadd rfl ti3 (by decide) (nle rfl) rfl), astep_guard (astep_pcall (first := []) (cap := []) (vs := [I x8.Loss, I 0, I 1000000000]) rfl enter27 (ref10_InX_ok N x8.Loss 0 1000000000 _ hf15) rfl rfl (nl_cons nll (nl_cons nll (nl_cons nll nl_nil))) nll rfl), astep_guard (astep_not rfl), astep_pick rfl rfl, astep_b hb17 (astep_move rfl), astep_guard (astep_move rfl), astep_guard (astep_move rfl), astep_guard (astep_idxd rfl Try.underlying22 ti56 rfl rfl hi10 (map_get c_GNode hj11) rfl), astep_guard (astep_faddrd rfl Try.underlying56 rfl rfl ti3 (by decide) rfl), astep_guard (astep_loadd rfl ti3 (by decide) (nle rfl) rfl), astep_guard (astep_pcall (first := []) (cap := []) (vs := [I x8.Limit, I 0, I 1000000000]) rfl enter27 (ref10_InX_ok N x8.Limit 0 1000000000 _ hf18) rfl rfl (nl_cons nll (nl_cons nll (nl_cons nll nl_nil))) nll rfl), astep_guard (astep_not rfl), astep_pick rfl rfl, astep_b hb20 (astep_move rfl), trivial, trivial, trivial, trivial, trivial, trivial, trivial, astep_pick rfl rfl, trivial⟩
                refine awp_true (by kernel_rfl) ?_
                refine awp_reg [mc (.bool false)] ?_ ?_
                · exact ⟨astep_assign rfl, trivial⟩
                refine awp_ret ?_
                refine blockA_r ?_
                refine thenA_r ?_
                refine thenA_r ?_
                refine blockA_r ?_
                refine thenA_r ?_
                obtain rfl := osi h
                exact ⟨⟨[B false], ⟨resOK_tmp (by kernel_rfl), trivial⟩, rfl⟩, nll, Nat.le_refl _, fun n hn => absurd hn (Nat.not_lt_zero n)⟩
              · replace h := bif_f hb20 h
                obtain ⟨x22, hf21, h⟩ := bind_out h
                refine awp_reg [mv 3 (I y3), rp [(.tmp 39, I y3), ci 0] (B ((decide (y3 > 0)))), rp [(.tmp 40, (B ((decide (y3 > 0)))))] (B true), rp [(.tmp 41, B true), (.tmp 0, (.dat 4 ((p0 : List GNode).map c_GNode)))] (.dat 4 ((p0 : List GNode).map c_GNode)), rp [(.tmp 41, B true), (.tmp 3, I y3)] (I y3), rp [(.tmp 41, B true), (.tmp 42, (.dat 4 ((p0 : List GNode).map c_GNode))), (.tmp 43, I y3)] (.dptr (c_GNode (x8)) 0), rp [(.tmp 41, B true), (.tmp 44, (.dptr (c_GNode (x8)) 0))] (.dptr (c_GNode (x8)) 0), rp [(.tmp 41, B true), (.tmp 45, (.dptr (c_GNode (x8)) 0))] (I x8.Parent), rp [(.tmp 41, B true), (.tmp 3, I y3)] (I y3), rp [(.tmp 41, B true), (.tmp 47, I y3), ci 1] (I (w64 (y3 - 1))), rp [(.tmp 41, B true), fu 27, (.tmp 46, I x8.Parent), ci 0, (.tmp 48, (I (w64 (y3 - 1))))] (B x13), rp [(.tmp 41, B true), (.tmp 49, B x13)] (B ((!x13))), rp [(.tmp 41, B true), (.tmp 50, (B ((!x13)))), cb false] (B ((!x13))), rp [(.tmp 51, (B ((!x13))))] (B false), rp [(.tmp 52, B false), (.tmp 0, (.dat 4 ((p0 : List GNode).map c_GNode)))] (.dat 4 ((p0 : List GNode).map c_GNode)), rp [(.tmp 52, B false), (.tmp 3, I y3)] (I y3), rp [(.tmp 52, B false), (.tmp 53, (.dat 4 ((p0 : List GNode).map c_GNode))), (.tmp 54, I y3)] (.dptr (c_GNode (x8)) 0), rp [(.tmp 52, B false), (.tmp 55, (.dptr (c_GNode (x8)) 0))] (.dptr (c_GNode (x8)) 1), rp [(.tmp 52, B false), (.tmp 56, (.dptr (c_GNode (x8)) 1))] (I x8.Loss), rp [(.tmp 52, B false), fu 27, (.tmp 57, I x8.Loss), ci 0, ci 1000000000] (B x16), rp [(.tmp 52, B false), (.tmp 58, B x16)] (B ((!x16))), rp [(.tmp 52, B false), cb true, (.tmp 59, (B ((!x16))))] (B ((!x16))), rp [(.tmp 60, (B ((!x16))))] (B false), rp [(.tmp 61, B false), (.tmp 0, (.dat 4 ((p0 : List GNode).map c_GNode)))] (.dat 4 ((p0 : List GNode).map c_GNode)), rp [(.tmp 61, B false), (.tmp 3, I y3)] (I y3), rp [(.tmp 61, B false), (.tmp 62, (.dat 4 ((p0 : List GNode).map c_GNode))), (.tmp 63, I y3)] (.dptr (c_GNode (x8)) 0), rp [(.tmp 61, B false), (.tmp 64, (.dptr (c_GNode (x8)) 0))] (.dptr (c_GNode (x8)) 2), rp [(.tmp 61, B false), (.tmp 65, (.dptr (c_GNode (x8)) 2))] (I x8.Limit), rp [(.tmp 61, B false), fu 27, (.tmp 66, I x8.Limit), ci 0, ci 1000000000] (B x19), rp [(.tmp 61, B false), (.tmp 67, B x19)] (B ((!x19))), rp [(.tmp 61, B false), cb true, (.tmp 68, (B ((!x19))))] (B ((!x19))), rp [(.tmp 69, (B ((!x19))))] (B false), rp [(.tmp 70, B false), (.tmp 0, (.dat 4 ((p0 : List GNode).map c_GNode)))] (.dat 4 ((p0 : List GNode).map c_GNode)), rp [(.tmp 70, B false), (.tmp 3, I y3)] (I y3), rp [(.tmp 70, B false), (.tmp 71, (.dat 4 ((p0 : List GNode).map c_GNode))), (.tmp 72, I y3)] (.dptr (c_GNode (x8)) 0), rp [(.tmp 70, B false), (.tmp 73, (.dptr (c_GNode (x8)) 0))] (.dptr (c_GNode (x8)) 3), rp [(.tmp 70, B false), (.tmp 74, (.dptr (c_GNode (x8)) 3))] (I x8.Rank), rp [(.tmp 70, B false), fu 27, (.tmp 75, I x8.Rank), ci 0, ci 100] (B x22), rp [(.tmp 70, B false), (.tmp 76, B x22)] (B ((!x22))), rp [(.tmp 70, B false), cb true, (.tmp 77, (B ((!x22))))] (B ((!x22)))] ?_ ?_
                · exact ⟨astep_move rfl, astep_bin rfl rfl, astep_b hb7 (astep_move rfl), astep_guard (astep_move rfl), astep_guard (astep_move rfl), astep_guard (astep_idxd rfl Try.underlying22 ti56 rfl rfl hi10 (map_get c_GNode hj11) rfl), astep_guard (astep_faddrd rfl Try.underlying56 rfl rfl ti3 (by decide) rfl), astep_guard (astep_loadd rfl ti3 (by decide) (nle rfl) rfl), astep_guard (astep_move rfl), astep_guard (astep_bin rfl rfl), astep_guard (astep_pcall (first := []) (cap := []) (vs := [I x8.Parent, I 0, (I (w64 (y3 - 1)))]) rfl enter27 (ref10_InX_ok N x8.Parent 0 (w64 (y3 - 1)) _ hf12) rfl rfl (nl_cons nll (nl_cons nll (nl_cons nll nl_nil))) nll rfl), astep_guard (astep_not rfl), astep_pick rfl rfl, astep_b hb14 (astep_move rfl), astep_guard (astep_move rfl), astep_guard (astep_move rfl), astep_guard (astep_idxd rfl Try.underlying22 ti56 rfl rfl hi10 (map_get c_GNode hj11) rfl), astep_guard (astep_faddrd rfl Try.underlying56 rfl rfl ti3 (by decide) rfl), astep_guard (astep_loadd rfl ti3 (by decide) (nle rfl) rfl), astep_guard (astep_pcall (first := []) (cap := []) (vs := [I x8.Loss, I 0, I 1000000000]) rfl enter27 (ref10_InX_ok N x8.Loss 0 1000000000 _ hf15) rfl rfl (nl_cons nll (nl_cons nll (nl_cons nll nl_nil))) nll rfl), astep_guard (astep_not rfl), astep_pick rfl rfl, astep_b hb17 (astep_move rfl), astep_guard (astep_move rfl), astep_guard (astep_move rfl), astep_guard (astep_idxd rfl Try.underlying22 ti56 rfl rfl hi10 (map_get c_GNode hj11) rfl), astep_guard (astep_faddrd rfl Try.underlying56 rfl rfl ti3 (by decide) rfl), astep_guard (astep_loadd rfl ti3 (by decide) (nle rfl) rfl), astep_guard (astep_pcall (first := []) (cap := []) (vs := [I x8.Limit, I 0, I 1000000000]) rfl enter27 (ref10_InX_ok N x8.Limit 0 1000000000 _ hf18) rfl rfl (nl_cons nll (nl_cons nll (nl_cons nll nl_nil))) nll rfl), astep_guard (astep_not rfl), astep_pick rfl rfl, astep_b hb20 (astep_move rfl), astep_guard (astep_move rfl), astep_guard (astep_move rfl), astep_guard (astep_idxd rfl Try.underlying22 ti56 rfl rfl hi10 (map_get c_GNode hj11) rfl), astep_guard (astep_faddrd rfl Try.underlying56 rfl rfl ti3 (by decide) rfl), astep_guard (astep_loadd rfl ti3 (by decide) (nle rfl) rfl), astep_guard (astep_pcall (first := []) (cap := []) (vs := [I x8.Rank, I 0, I 100]) rfl enter27 (ref10_InX_ok N x8.Rank 0 100 _ hf21) rfl rfl (nl_cons nll (nl_cons nll (nl_cons nll nl_nil))) nll rfl), astep_guard (astep_not rfl), astep_pick rfl rfl, trivial⟩
                rcases bft ((!x22)) with hc23 | hc23
                · replace h := bif_t hc23 h
                  refine awp_ift hc23 (by kernel_rfl) ?_
                  refine awp_reg [mc (.bool false)] ?_ ?_
                  · exact ⟨astep_assign rfl, trivial⟩
                  refine awp_ret ?_
                  refine blockA_r ?_
                  refine thenA_r ?_
                  refine thenA_r ?_
                  refine blockA_r ?_
                  refine thenA_r ?_
                  obtain rfl := osi h
                  exact ⟨⟨[B false], ⟨resOK_tmp (by kernel_rfl), trivial⟩, rfl⟩, nll, Nat.le_refl _, fun n hn => absurd hn (Nat.not_lt_zero n)⟩
                · replace h := bif_f hc23 h
                  refine awp_ifn hc23 (by kernel_rfl) ?_
                  refine awp_skip ?_
                  refine blockA_n ?_
                  refine thenA_n ?_
                  refine awp_reg1 [mv 3 (I y3), rp [(.tmp 37, I y3), ci 1] (I (w64 (y3 + 1))), mv 38 (I (w64 (y3 + 1)))] ?_ ?_
                  · exact ⟨astep_move rfl, astep_bin rfl rfl, astep_assign rfl, trivial⟩
                  refine thenA_n ?_
                  exact around_mor (mor_to (n := 79) [(0, (.dat 4 ((p0 : List GNode).map c_GNode))), (3, (I (w64 (y3 + 1))))] [] [] hφ0 (pc (.rn (.plain _ (nl_dat nl_GNode _))) (pc rwl pn)) qn) (ih (w64 (y3 + 1)) h)
        · replace h := bif_f hb7 h
          obtain ⟨x24, hg25, h⟩ := bind_out h
          obtain ⟨hi26, hj27⟩ := getI_some hg25
          obtain ⟨x29, hf28, h⟩ := bind_out h
          rcases bft ((!x29)) with hb30 | hb30
          · replace h := bif_t hb30 h
            refine awp_reg [mv 3 (I y3), rp [(.tmp 39, I y3), ci 0] (B ((decide (y3 > 0)))), rp [(.tmp 40, (B ((decide (y3 > 0)))))] (B false), sk 41 (B false), sk 41 (B false), sk 41 (B false), sk 41 (B false), sk 41 (B false), sk 41 (B false), sk 41 (B false), sk 41 (B false), sk 41 (B false), rp [(.tmp 41, B false), (.tmp 50, (.lit undef)), cb false] (B false), mv 51 (B false), rp [(.tmp 52, B false), (.tmp 0, (.dat 4 ((p0 : List GNode).map c_GNode)))] (.dat 4 ((p0 : List GNode).map c_GNode)), rp [(.tmp 52, B false), (.tmp 3, I y3)] (I y3), rp [(.tmp 52, B false), (.tmp 53, (.dat 4 ((p0 : List GNode).map c_GNode))), (.tmp 54, I y3)] (.dptr (c_GNode (x24)) 0), rp [(.tmp 52, B false), (.tmp 55, (.dptr (c_GNode (x24)) 0))] (.dptr (c_GNode (x24)) 1), rp [(.tmp 52, B false), (.tmp 56, (.dptr (c_GNode (x24)) 1))] (I x24.Loss), rp [(.tmp 52, B false), fu 27, (.tmp 57, I x24.Loss), ci 0, ci 1000000000] (B x29), rp [(.tmp 52, B false), (.tmp 58, B x29)] (B ((!x29))), rp [(.tmp 52, B false), cb true, (.tmp 59, (B ((!x29))))] (B ((!x29))), rp [(.tmp 60, (B ((!x29))))] (B true), sk 61 (B true), sk 61 (B true), sk 61 (B true), sk 61 (B true), sk 61 (B true), sk 61 (B true), sk 61 (B true), rp [(.tmp 61, B true), cb true, (.tmp 68, (.lit undef))] (B true), mv 69 (B true), sk 70 (B true), sk 70 (B true), sk 70 (B true), sk 70 (B true), sk 70 (B true), sk 70 (B true), sk 70 (B true), rp [(.tmp 70, B true), cb true, (.tmp 77, (.lit undef))] (B true)] ?_ ?_
            · exact ⟨astep_move rfl, astep_bin rfl rfl, astep_b hb7 (astep_move rfl), trivial, trivial, trivial, trivial, trivial, trivial, trivial, trivial, trivial, astep_pick rfl rfl, astep_move rfl, astep_guard (astep_move rfl), astep_guard (astep_move rfl), astep_guard (astep_idxd rfl Try.underlying22 ti56 rfl rfl hi26 (map_get c_GNode hj27) rfl), astep_guard (astep_faddrd rfl Try.underlying56 rfl rfl ti3 (by decide) rfl), astep_guard (astep_loadd rfl ti3 (by decide) (nle rfl) rfl), astep_guard (astep_pcall (first := []) (cap := []) (vs := [I x24.Loss, I 0, I 1000000000]) rfl enter27 (ref10_InX_ok N x24.Loss 0 1000000000 _ hf28) rfl rfl (nl_cons nll (nl_cons nll (nl_cons nll nl_nil))) nll rfl), astep_guard (astep_not rfl), astep_pick rfl rfl, astep_b hb30 (astep_move rfl), trivial, trivial, trivial, trivial, trivial, trivial, trivial, astep_pick rfl rfl, astep_move rfl, trivial, trivial, trivial, trivial, trivial, trivial, trivial, astep_pick rfl rfl, trivial⟩
            refine awp_true (by kernel_rfl) ?_
            refine awp_reg [mc (.bool false)] ?_ ?_
            · exact ⟨astep_assign rfl, trivial⟩
            refine awp_ret ?_
            refine blockA_r ?_
            refine thenA_r ?_
            refine thenA_r ?_
            refine blockA_r ?_
            refine thenA_r ?_
            obtain rfl := osi h
            exact ⟨⟨[B false], ⟨resOK_tmp (by kernel_rfl), trivial⟩, rfl⟩, nll, Nat.le_refl _, fun n hn => absurd hn (Nat.not_lt_zero n)⟩
          · replace h := bif_f hb30 h
            obtain ⟨x32, hf31, h⟩ := bind_out h
            rcases bft ((!x32)) with hb33 | hb33
            · replace h := bif_t hb33 h
              refine awp_reg [mv 3 (I y3), rp [(.tmp 39, I y3), ci 0] (B ((decide (y3 > 0)))), rp [(.tmp 40, (B ((decide (y3 > 0)))))] (B false), sk 41 (B false), sk 41 (B false), sk 41 (B false), sk 41 (B false), sk 41 (B false), sk 41 (B false), sk 41 (B false), sk 41 (B false), sk 41 (B false), rp [(.tmp 41, B false), (.tmp 50, (.lit undef)), cb false] (B false), mv 51 (B false), rp [(.tmp 52, B false), (.tmp 0, (.dat 4 ((p0 : List GNode).map c_GNode)))] (.dat 4 ((p0 : List GNode).map c_GNode)), rp [(.tmp 52, B false), (.tmp 3, I y3)] (I y3), rp [(.tmp 52, B false), (.tmp 53, (.dat 4 ((p0 : List GNode).map c_GNode))), (.tmp 54, I y3)] (.dptr (c_GNode (x24)) 0), rp [(.tmp 52, B false), (.tmp 55, (.dptr (c_GNode (x24)) 0))] (.dptr (c_GNode (x24)) 1), rp [(.tmp 52, B false), (.tmp 56, (.dptr (c_GNode (x24)) 1))] (I x24.Loss), rp [(.tmp 52, B false), fu 27, (.tmp 57, I x24.Loss), ci 0, ci 1000000000] (B x29), rp [(.tmp 52, B false), (.tmp 58, B x29)] (B ((!x29))), rp [(.tmp 52, B false), cb true, (.tmp 59, (B ((!x29))))] (B ((!x29))), rp [(.tmp 60, (B ((!x29))))] (B false), rp [(.tmp 61, B false), (.tmp 0, (.dat 4 ((p0 : List GNode).map c_GNode)))] (.dat 4 ((p0 : List GNode).map c_GNode)), rp [(.tmp 61, B false), (.tmp 3, I y3)] (I y3), rp [(.tmp 61, B false), (.tmp 62, (.dat 4 ((p0 : List GNode).map c_GNode))), (.tmp 63, I y3)] (.dptr (c_GNode (x24)) 0), rp [(.tmp 61, B false), (.tmp 64, (.dptr (c_GNode (x24)) 0))] (.dptr (c_GNode (x24)) 2), rp [(.tmp 61, B false), (.tmp 65, (.dptr (c_GNode (x24)) 2))] (I x24.Limit), rp [(.tmp 61, B false), fu 27, (.tmp 66, I x24.Limit), ci 0, ci 1000000000] (B x32), rp [(.tmp 61, B false), (.tmp 67, B x32)] (B ((!x32))), rp [(.tmp 61, B false), cb true, (.tmp 68, (B ((!x32))))] (B ((!x32))), rp [(.tmp 69, (B ((!x32))))] (B true), sk 70 (B true), sk 70 (B true), sk 70 (B true), sk 70 (B true), sk 70 (B true), sk 70 (B true), sk 70 (B true), rp [(.tmp 70, B true), cb true, (.tmp 77, (.lit undef))] (B true)] ?_ ?_
              · exact ⟨astep_move rfl, astep_bin rfl rfl, astep_b hb7 (astep_move rfl), trivial, trivial, trivial, trivial, trivial, trivial, trivial, trivial, trivial, astep_pick rfl rfl, astep_move rfl, astep_guard (astep_move rfl), astep_guard (astep_move rfl), astep_guard (astep_idxd rfl Try.underlying22 ti56 rfl rfl hi26 (map_get c_GNode hj27) rfl), astep_guard (astep_faddrd rfl Try.underlying56 rfl rfl ti3 (by decide) rfl), astep_guard (astep_loadd rfl ti3 (by decide) (nle rfl) rfl), astep_guard (astep_pcall (first := []) (cap := []) (vs := [I x24.Loss, I 0, I 1000000000]) rfl enter27 (ref10_InX_ok N x24.Loss 0 1000000000 _ hf28) rfl rfl (nl_cons nll (nl_cons nll (nl_cons nll nl_nil))) nll rfl), astep_guard (astep_not rfl), astep_pick rfl rfl, astep_b hb30 (astep_move rfl), astep_guard (astep_move rfl), astep_guard (astep_move rfl), astep_guard (astep_idxd rfl Try.underlying22 ti56 rfl rfl hi26 (map_get c_GNode hj27) rfl), astep_guard (astep_faddrd rfl Try.underlying56 rfl rfl ti3 (by decide) rfl), astep_guard (astep_loadd rfl ti3 (by decide) (nle rfl) rfl), astep_guard (astep_pcall (first := []) (cap := []) (vs := [I x24.Limit, I 0, I 1000000000]) rfl enter27 (ref10_InX_ok N x24.Limit 0 1000000000 _ hf31) rfl rfl (nl_cons nll (nl_cons nll (nl_cons nll nl_nil))) nll rfl), astep_guard (astep_not rfl), astep_pick rfl rfl, astep_b hb33 (astep_move rfl), trivial, trivial, trivial, trivial, trivial, trivial, trivial, astep_pick rfl rfl, trivial⟩
              refine awp_true (by kernel_rfl) ?_
              refine awp_reg [mc (.bool false)] ?_ ?_
              · exact ⟨astep_assign rfl, trivial⟩
              refine awp_ret ?_
              refine blockA_r ?_
              refine thenA_r ?_
              refine thenA_r ?_
              refine blockA_r ?_
              refine thenA_r ?_
              obtain rfl := osi h
              exact ⟨⟨[B false], ⟨resOK_tmp (by kernel_rfl), trivial⟩, rfl⟩, nll, Nat.le_refl _, fun n hn => absurd hn (Nat.not_lt_zero n)⟩
            · replace h := bif_f hb33 h
              obtain ⟨x35, hf34, h⟩ := bind_out h
              refine awp_reg [mv 3 (I y3), rp [(.tmp 39, I y3), ci 0] (B ((decide (y3 > 0)))), rp [(.tmp 40, (B ((decide (y3 > 0)))))] (B false), sk 41 (B false), sk 41 (B false), sk 41 (B false), sk 41 (B false), sk 41 (B false), sk 41 (B false), sk 41 (B false), sk 41 (B false), sk 41 (B false), rp [(.tmp 41, B false), (.tmp 50, (.lit undef)), cb false] (B false), mv 51 (B false), rp [(.tmp 52, B false), (.tmp 0, (.dat 4 ((p0 : List GNode).map c_GNode)))] (.dat 4 ((p0 : List GNode).map c_GNode)), rp [(.tmp 52, B false), (.tmp 3, I y3)] (I y3), rp [(.tmp 52, B false), (.tmp 53, (.dat 4 ((p0 : List GNode).map c_GNode))), (.tmp 54, I y3)] (.dptr (c_GNode (x24)) 0), rp [(.tmp 52, B false), (.tmp 55, (.dptr (c_GNode (x24)) 0))] (.dptr (c_GNode (x24)) 1), rp [(.tmp 52, B false), (.tmp 56, (.dptr (c_GNode (x24)) 1))] (I x24.Loss), rp [(.tmp 52, B false), fu 27, (.tmp 57, I x24.Loss), ci 0, ci 1000000000] (B x29), rp [(.tmp 52, B false), (.tmp 58, B x29)] (B ((!x29))), rp [(.tmp 52, B false), cb true, (.tmp 59, (B ((!x29))))] (B ((!x29))), rp [(.tmp 60, (B ((!x29))))] (B false), rp [(.tmp 61, B false), (.tmp 0, (.dat 4 ((p0 : List GNode).map c_GNode)))] (.dat 4 ((p0 : List GNode).map c_GNode)), rp [(.tmp 61, B false), (.tmp 3, I y3)] (I y3), rp [(.tmp 61, B false), (.tmp 62, (.dat 4 ((p0 : List GNode).map c_GNode))), (.tmp 63, I y3)] (.dptr (c_GNode (x24)) 0), rp [(.tmp 61, B false), (.tmp 64, (.dptr (c_GNode (x24)) 0))] (.dptr (c_GNode (x24)) 2), rp [(.tmp 61, B false), (.tmp 65, (.dptr (c_GNode (x24)) 2))] (I x24.Limit), rp [(.tmp 61, B false), fu 27, (.tmp 66, I x24.Limit), ci 0, ci 1000000000] (B x32), rp [(.tmp 61, B false), (.tmp 67, B x32)] (B ((!x32))), rp [(.tmp 61, B false), cb true, (.tmp 68, (B ((!x32))))] (B ((!x32))), rp [(.tmp 69, (B ((!x32))))] (B false), rp [(.tmp 70, B false), (.tmp 0, (.dat 4 ((p0 : List GNode).map c_GNode)))] (.dat 4 ((p0 : List GNode).map c_GNode)), rp [(.tmp 70, B false), (.tmp 3, I y3)] (I y3), rp [(.tmp 70, B false), (.tmp 71, (.dat 4 ((p0 : List GNode).map c_GNode))), (.tmp 72, I y3)] (.dptr (c_GNode (x24)) 0), rp [(.tmp 70, B false), (.tmp 73, (.dptr (c_GNode (x24)) 0))] (.dptr (c_GNode (x24)) 3), rp [(.tmp 70, B false), (.tmp 74, (.dptr (c_GNode (x24)) 3))] (I x24.Rank), rp [(.tmp 70, B false), fu 27, (.tmp 75, I x24.Rank), ci 0, ci 100] (B x35), rp [(.tmp 70, B false), (.tmp 76, B x35)] (B ((!x35))), rp [(.tmp 70, B false), cb true, (.tmp 77, (B ((!x35))))] (B ((!x35)))] ?_ ?_
              · exact ⟨astep_move rfl, astep_bin rfl rfl, astep_b hb7 (astep_move rfl), trivial, trivial, trivial, trivial, trivial, trivial, trivial, trivial, trivial, astep_pick rfl rfl, astep_move rfl, astep_guard (astep_move rfl), astep_guard (astep_move rfl), astep_guard (astep_idxd rfl Try.underlying22 ti56 rfl rfl hi26 (map_get c_GNode hj27) rfl), astep_guard (astep_faddrd rfl Try.underlying56 rfl rfl ti3 (by decide) rfl), astep_guard (astep_loadd rfl ti3 (by decide) (nle rfl) rfl), astep_guard (astep_pcall (first := []) (cap := []) (vs := [I x24.Loss, I 0, I 1000000000]) rfl enter27 (ref10_InX_ok N x24.Loss 0 1000000000 _ hf28) rfl rfl (nl_cons nll (nl_cons nll (nl_cons nll nl_nil))) nll rfl), astep_guard (astep_not rfl), astep_pick rfl rfl, astep_b hb30 (astep_move rfl), astep_guard (astep_move rfl), astep_guard (astep_move rfl), astep_guard (astep_idxd rfl Try.underlying22 ti56 rfl rfl hi26 (map_get c_GNode hj27) rfl), astep_guard (astep_faddrd rfl Try.underlying56 rfl rfl ti3 (by decide) rfl), astep_guard (astep_loadd rfl ti3 (by decide) (nle rfl) rfl), astep_guard (astep_pcall (first := []) (cap := []) (vs := [I x24.Limit, I 0, I 1000000000]) rfl enter27 (ref10_InX_ok N x24.Limit 0 1000000000 _ hf31) rfl rfl (nl_cons nll (nl_cons nll (nl_cons nll nl_nil))) nll rfl), astep_guard (astep_not rfl), astep_pick rfl rfl, astep_b hb33 (astep_move rfl), astep_guard (astep_move rfl), astep_guard (astep_move rfl), astep_guard (astep_idxd rfl Try.underlying22 ti56 rfl rfl hi26 (map_get c_GNode hj27) rfl), astep_guard (astep_faddrd rfl Try.underlying56 rfl rfl ti3 (by decide) rfl), astep_guard (astep_loadd rfl ti3 (by decide) (nle rfl) rfl), astep_guard (astep_pcall (first := []) (cap := []) (vs := [I x24.Rank, I 0, I 100]) rfl enter27 (ref10_InX_ok N x24.Rank 0 100 _ hf34) rfl rfl (nl_cons nll (nl_cons nll (nl_cons nll nl_nil))) nll rfl), astep_guard (astep_not rfl), astep_pick rfl rfl, trivial⟩
              rcases bft ((!x35)) with hc36 | hc36
              · replace h := bif_t hc36 h
                refine awp_ift hc36 (by kernel_rfl) ?_
                refine awp_reg [mc (.bool false)] ?_ ?_
                · exact ⟨astep_assign rfl, trivial⟩
                refine awp_ret ?_
                refine blockA_r ?_
                refine thenA_r ?_
                refine thenA_r ?_
                refine blockA_r ?_
                refine thenA_r ?_
                obtain rfl := osi h
                exact ⟨⟨[B false], ⟨resOK_tmp (by kernel_rfl), trivial⟩, rfl⟩, nll, Nat.le_refl _, fun n hn => absurd hn (Nat.not_lt_zero n)⟩
              · replace h := bif_f hc36 h
                refine awp_ifn hc36 (by kernel_rfl) ?_
                refine awp_skip ?_
                refine blockA_n ?_
                refine thenA_n ?_
                refine awp_reg1 [mv 3 (I y3), rp [(.tmp 37, I y3), ci 1] (I (w64 (y3 + 1))), mv 38 (I (w64 (y3 + 1)))] ?_ ?_
                · exact ⟨astep_move rfl, astep_bin rfl rfl, astep_assign rfl, trivial⟩
                refine thenA_n ?_
                exact around_mor (mor_to (n := 79) [(0, (.dat 4 ((p0 : List GNode).map c_GNode))), (3, (I (w64 (y3 + 1))))] [] [] hφ0 (pc (.rn (.plain _ (nl_dat nl_GNode _))) (pc rwl pn)) qn) (ih (w64 (y3 + 1)) h)
      · replace h := bif_f hc6 h
        refine awp_ifn hc6 (by kernel_rfl) ?_
        refine awp_exit ?_
        refine thenA_x ?_
        refine thenA_x ?_
        refine blockA_e rfl ?_
        refine thenA_n ?_
        exact ⟨(), h, (mor_to (n := 79) [] [] [] hφ0 pn qn)⟩
  · skip
    rcases bft ((decide ((p0.length : Int) < 1))) with hb37 | hb37
    · replace h := bif_t hb37 h
      refine awp_reg [mv 0 (.dat 4 ((p0 : List GNode).map c_GNode)), rp [(.tmp 4, (.dat 4 ((p0 : List GNode).map c_GNode)))] (I ((p0.length : Int))), rp [(.tmp 5, (I ((p0.length : Int)))), ci 1] (B ((decide ((p0.length : Int) < 1)))), rp [(.tmp 6, (B ((decide ((p0.length : Int) < 1)))))] (B true), sk 7 (B true), sk 7 (B true), sk 7 (B true), rp [(.tmp 7, B true), cb true, (.tmp 10, (.lit undef))] (B true), mv 11 (B true), sk 12 (B true), sk 12 (B true), sk 12 (B true), sk 12 (B true), sk 12 (B true), rp [(.tmp 12, B true), cb true, (.tmp 17, (.lit undef))] (B true), mv 18 (B true), sk 19 (B true), sk 19 (B true), sk 19 (B true), sk 19 (B true), sk 19 (B true), rp [(.tmp 19, B true), cb true, (.tmp 24, (.lit undef))] (B true), mv 25 (B true), sk 26 (B true), sk 26 (B true), sk 26 (B true), sk 26 (B true), sk 26 (B true), rp [(.tmp 26, B true), cb true, (.tmp 31, (.lit undef))] (B true)] ?_ ?_
      · exact ⟨astep_move rfl, astep_lenm (c := c_GNode) (l := p0) (astep_len rfl Try.underlying22 rfl), astep_bin rfl rfl, astep_b hb37 (astep_move rfl), trivial, trivial, trivial, astep_pick rfl rfl, astep_move rfl, trivial, trivial, trivial, trivial, trivial, astep_pick rfl rfl, astep_move rfl, trivial, trivial, trivial, trivial, trivial, astep_pick rfl rfl, astep_move rfl, trivial, trivial, trivial, trivial, trivial, astep_pick rfl rfl, trivial⟩
      refine awp_true (by kernel_rfl) ?_
      refine awp_reg [mc (.bool false)] ?_ ?_
      · exact ⟨astep_assign rfl, trivial⟩
      refine awp_ret ?_
      refine thenA_r ?_
      obtain rfl := osi h
      exact ⟨⟨[B false], ⟨resOK_tmp (by kernel_rfl), trivial⟩, rfl⟩, nll, Nat.le_refl _, fun n hn => absurd hn (Nat.not_lt_zero n)⟩
    · replace h := bif_f hb37 h
      rcases bft ((decide ((p0.length : Int) > 30))) with hb38 | hb38
      · replace h := bif_t hb38 h
        refine awp_reg [mv 0 (.dat 4 ((p0 : List GNode).map c_GNode)), rp [(.tmp 4, (.dat 4 ((p0 : List GNode).map c_GNode)))] (I ((p0.length : Int))), rp [(.tmp 5, (I ((p0.length : Int)))), ci 1] (B ((decide ((p0.length : Int) < 1)))), rp [(.tmp 6, (B ((decide ((p0.length : Int) < 1)))))] (B false), rp [(.tmp 7, B false), (.tmp 0, (.dat 4 ((p0 : List GNode).map c_GNode)))] (.dat 4 ((p0 : List GNode).map c_GNode)), rp [(.tmp 7, B false), (.tmp 8, (.dat 4 ((p0 : List GNode).map c_GNode)))] (I ((p0.length : Int))), rp [(.tmp 7, B false), (.tmp 9, (I ((p0.length : Int)))), ci 30] (B ((decide ((p0.length : Int) > 30)))), rp [(.tmp 7, B false), cb true, (.tmp 10, (B ((decide ((p0.length : Int) > 30)))))] (B ((decide ((p0.length : Int) > 30)))), rp [(.tmp 11, (B ((decide ((p0.length : Int) > 30)))))] (B true), sk 12 (B true), sk 12 (B true), sk 12 (B true), sk 12 (B true), sk 12 (B true), rp [(.tmp 12, B true), cb true, (.tmp 17, (.lit undef))] (B true), mv 18 (B true), sk 19 (B true), sk 19 (B true), sk 19 (B true), sk 19 (B true), sk 19 (B true), rp [(.tmp 19, B true), cb true, (.tmp 24, (.lit undef))] (B true), mv 25 (B true), sk 26 (B true), sk 26 (B true), sk 26 (B true), sk 26 (B true), sk 26 (B true), rp [(.tmp 26, B true), cb true, (.tmp 31, (.lit undef))] (B true)] ?_ ?_
        · exact ⟨astep_move rfl, astep_lenm (c := c_GNode) (l := p0) (astep_len rfl Try.underlying22 rfl), astep_bin rfl rfl, astep_b hb37 (astep_move rfl), astep_guard (astep_move rfl), astep_guard (astep_lenm (c := c_GNode) (l := p0) (astep_len rfl Try.underlying22 rfl)), astep_guard (astep_bin rfl rfl), astep_pick rfl rfl, astep_b hb38 (astep_move rfl), trivial, trivial, trivial, trivial, trivial, astep_pick rfl rfl, astep_move rfl, trivial, trivial, trivial, trivial, trivial, astep_pick rfl rfl, astep_move rfl, trivial, trivial, trivial, trivial, trivial, astep_pick rfl rfl, trivial⟩
        refine awp_true (by kernel_rfl) ?_
        refine awp_reg [mc (.bool false)] ?_ ?_
        · exact ⟨astep_assign rfl, trivial⟩
        refine awp_ret ?_
        refine thenA_r ?_
        obtain rfl := osi h
        exact ⟨⟨[B false], ⟨resOK_tmp (by kernel_rfl), trivial⟩, rfl⟩, nll, Nat.le_refl _, fun n hn => absurd hn (Nat.not_lt_zero n)⟩
      · replace h := bif_f hb38 h
        obtain ⟨x39, hg40, h⟩ := bind_out h
        obtain ⟨hi41, hj42⟩ := getI_some hg40
        rcases bft ((x39.Parent != (-1))) with hb43 | hb43
        · replace h := bif_t hb43 h
          refine awp_reg [mv 0 (.dat 4 ((p0 : List GNode).map c_GNode)), rp [(.tmp 4, (.dat 4 ((p0 : List GNode).map c_GNode)))] (I ((p0.length : Int))), rp [(.tmp 5, (I ((p0.length : Int)))), ci 1] (B ((decide ((p0.length : Int) < 1)))), rp [(.tmp 6, (B ((decide ((p0.length : Int) < 1)))))] (B false), rp [(.tmp 7, B false), (.tmp 0, (.dat 4 ((p0 : List GNode).map c_GNode)))] (.dat 4 ((p0 : List GNode).map c_GNode)), rp [(.tmp 7, B false), (.tmp 8, (.dat 4 ((p0 : List GNode).map c_GNode)))] (I ((p0.length : Int))), rp [(.tmp 7, B false), (.tmp 9, (I ((p0.length : Int)))), ci 30] (B ((decide ((p0.length : Int) > 30)))), rp [(.tmp 7, B false), cb true, (.tmp 10, (B ((decide ((p0.length : Int) > 30)))))] (B ((decide ((p0.length : Int) > 30)))), rp [(.tmp 11, (B ((decide ((p0.length : Int) > 30)))))] (B false), rp [(.tmp 12, B false), (.tmp 0, (.dat 4 ((p0 : List GNode).map c_GNode)))] (.dat 4 ((p0 : List GNode).map c_GNode)), rp [(.tmp 12, B false), (.tmp 13, (.dat 4 ((p0 : List GNode).map c_GNode))), ci 0] (.dptr (c_GNode (x39)) 0), rp [(.tmp 12, B false), (.tmp 14, (.dptr (c_GNode (x39)) 0))] (.dptr (c_GNode (x39)) 0), rp [(.tmp 12, B false), (.tmp 15, (.dptr (c_GNode (x39)) 0))] (I x39.Parent), rp [(.tmp 12, B false), (.tmp 16, I x39.Parent), ci (-1)] (B ((x39.Parent != (-1)))), rp [(.tmp 12, B false), cb true, (.tmp 17, (B ((x39.Parent != (-1)))))] (B ((x39.Parent != (-1)))), rp [(.tmp 18, (B ((x39.Parent != (-1)))))] (B true), sk 19 (B true), sk 19 (B true), sk 19 (B true), sk 19 (B true), sk 19 (B true), rp [(.tmp 19, B true), cb true, (.tmp 24, (.lit undef))] (B true), mv 25 (B true), sk 26 (B true), sk 26 (B true), sk 26 (B true), sk 26 (B true), sk 26 (B true), rp [(.tmp 26, B true), cb true, (.tmp 31, (.lit undef))] (B true)] ?_ ?_
          · exact ⟨astep_move rfl, astep_lenm (c := c_GNode) (l := p0) (astep_len rfl Try.underlying22 rfl), astep_bin rfl rfl, astep_b hb37 (astep_move rfl), astep_guard (astep_move rfl), astep_guard (astep_lenm (c := c_GNode) (l := p0) (astep_len rfl Try.underlying22 rfl)), astep_guard (astep_bin rfl rfl), astep_pick rfl rfl, astep_b hb38 (astep_move rfl), astep_guard (astep_move rfl), astep_guard (astep_idxd rfl Try.underlying22 ti56 rfl rfl hi41 (map_get c_GNode hj42) rfl), astep_guard (astep_faddrd rfl Try.underlying56 rfl rfl ti3 (by decide) rfl), astep_guard (astep_loadd rfl ti3 (by decide) (nle rfl) rfl), astep_guard (astep_bin rfl rfl), astep_pick rfl rfl, astep_b hb43 (astep_move rfl), trivial, trivial, trivial, trivial, trivial, astep_pick rfl rfl, astep_move rfl, trivial, trivial, trivial, trivial, trivial, astep_pick rfl rfl, trivial⟩
          refine awp_true (by kernel_rfl) ?_
          refine awp_reg [mc (.bool false)] ?_ ?_
          · exact ⟨astep_assign rfl, trivial⟩
          refine awp_ret ?_
          refine thenA_r ?_
          obtain rfl := osi h
          exact ⟨⟨[B false], ⟨resOK_tmp (by kernel_rfl), trivial⟩, rfl⟩, nll, Nat.le_refl _, fun n hn => absurd hn (Nat.not_lt_zero n)⟩
        · replace h := bif_f hb43 h
          rcases bft ((x39.Loss != 0)) with hb44 | hb44
          · replace h := bif_t hb44 h
            refine awp_reg [mv 0 (.dat 4 ((p0 : List GNode).map c_GNode)), rp [(.tmp 4, (.dat 4 ((p0 : List GNode).map c_GNode)))] (I ((p0.length : Int))), rp [(.tmp 5, (I ((p0.length : Int)))), ci 1] (B ((decide ((p0.length : Int) < 1)))), rp [(.tmp 6, (B ((decide ((p0.length : Int) < 1)))))] (B false), rp [(.tmp 7, B false), (.tmp 0, (.dat 4 ((p0 : List GNode).map c_GNode)))] (.dat 4 ((p0 : List GNode).map c_GNode)), rp [(.tmp 7, B false), (.tmp 8, (.dat 4 ((p0 : List GNode).map c_GNode)))] (I ((p0.length : Int))), rp [(.tmp 7, B false), (.tmp 9, (I ((p0.length : Int)))), ci 30] (B ((decide ((p0.length : Int) > 30)))), rp [(.tmp 7, B false), cb true, (.tmp 10, (B ((decide ((p0.length : Int) > 30)))))] (B ((decide ((p0.length : Int) > 30)))), rp [(.tmp 11, (B ((decide ((p0.length : Int) > 30)))))] (B false), rp [(.tmp 12, B false), (.tmp 0, (.dat 4 ((p0 : List GNode).map c_GNode)))] (.dat 4 ((p0 : List GNode).map c_GNode)), rp [(.tmp 12, B false), (.tmp 13, (.dat 4 ((p0 : List GNode).map c_GNode))), ci 0] (.dptr (c_GNode (x39)) 0), rp [(.tmp 12, B false), (.tmp 14, (.dptr (c_GNode (x39)) 0))] (.dptr (c_GNode (x39)) 0), rp [(.tmp 12, B false), (.tmp 15, (.dptr (c_GNode (x39)) 0))] (I x39.Parent), rp [(.tmp 12, B false), (.tmp 16, I x39.Parent), ci (-1)] (B ((x39.Parent != (-1)))), rp [(.tmp 12, B false), cb true, (.tmp 17, (B ((x39.Parent != (-1)))))] (B ((x39.Parent != (-1)))), rp [(.tmp 18, (B ((x39.Parent != (-1)))))] (B false), rp [(.tmp 19, B false), (.tmp 0, (.dat 4 ((p0 : List GNode).map c_GNode)))] (.dat 4 ((p0 : List GNode).map c_GNode)), rp [(.tmp 19, B false), (.tmp 20, (.dat 4 ((p0 : List GNode).map c_GNode))), ci 0] (.dptr (c_GNode (x39)) 0), rp [(.tmp 19, B false), (.tmp 21, (.dptr (c_GNode (x39)) 0))] (.dptr (c_GNode (x39)) 1), rp [(.tmp 19, B false), (.tmp 22, (.dptr (c_GNode (x39)) 1))] (I x39.Loss), rp [(.tmp 19, B false), (.tmp 23, I x39.Loss), ci 0] (B ((x39.Loss != 0))), rp [(.tmp 19, B false), cb true, (.tmp 24, (B ((x39.Loss != 0))))] (B ((x39.Loss != 0))), rp [(.tmp 25, (B ((x39.Loss != 0))))] (B true), sk 26 (B true), sk 26 (B true), sk 26 (B true), sk 26 (B true), sk 26 (B true), rp [(.tmp 26, B true), cb true, (.tmp 31, (.lit undef))] (B true)] ?_ ?_
            · exact ⟨astep_move rfl, astep_lenm (c := c_GNode) (l := p0) (astep_len rfl Try.underlying22 rfl), astep_bin rfl rfl, astep_b hb37 (astep_move rfl), astep_guard (astep_move rfl), astep_guard (astep_lenm (c := c_GNode) (l := p0) (astep_len rfl Try.underlying22 rfl)), astep_guard (astep_bin rfl rfl), astep_pick rfl rfl, astep_b hb38 (astep_move rfl), astep_guard (astep_move rfl), astep_guard (astep_idxd rfl Try.underlying22 ti56 rfl rfl hi41 (map_get c_GNode hj42) rfl), astep_guard (astep_faddrd rfl Try.underlying56 rfl rfl ti3 (by decide) rfl), astep_guard (astep_loadd rfl ti3 (by decide) (nle rfl) rfl), astep_guard (astep_bin rfl rfl), astep_pick rfl rfl, astep_b hb43 (astep_move rfl), astep_guard (astep_move rfl), astep_guard (astep_idxd rfl Try.underlying22 ti56 rfl rfl hi41 (map_get c_GNode hj42) rfl), astep_guard (astep_faddrd rfl Try.underlying56 rfl rfl ti3 (by decide) rfl), astep_guard (astep_loadd rfl ti3 (by decide) (nle rfl) rfl), astep_guard (astep_bin rfl rfl), astep_pick rfl rfl, astep_b hb44 (astep_move rfl), trivial, trivial, trivial, trivial, trivial, astep_pick rfl rfl, trivial⟩
            refine awp_true (by kernel_rfl) ?_
            refine awp_reg [mc (.bool false)] ?_ ?_
            · exact ⟨astep_assign rfl, trivial⟩
            refine awp_ret ?_
            refine thenA_r ?_
            obtain rfl := osi h
            exact ⟨⟨[B false], ⟨resOK_tmp (by kernel_rfl), trivial⟩, rfl⟩, nll, Nat.le_refl _, fun n hn => absurd hn (Nat.not_lt_zero n)⟩
          · replace h := bif_f hb44 h
            refine awp_reg [mv 0 (.dat 4 ((p0 : List GNode).map c_GNode)), rp [(.tmp 4, (.dat 4 ((p0 : List GNode).map c_GNode)))] (I ((p0.length : Int))), rp [(.tmp 5, (I ((p0.length : Int)))), ci 1] (B ((decide ((p0.length : Int) < 1)))), rp [(.tmp 6, (B ((decide ((p0.length : Int) < 1)))))] (B false), rp [(.tmp 7, B false), (.tmp 0, (.dat 4 ((p0 : List GNode).map c_GNode)))] (.dat 4 ((p0 : List GNode).map c_GNode)), rp [(.tmp 7, B false), (.tmp 8, (.dat 4 ((p0 : List GNode).map c_GNode)))] (I ((p0.length : Int))), rp [(.tmp 7, B false), (.tmp 9, (I ((p0.length : Int)))), ci 30] (B ((decide ((p0.length : Int) > 30)))), rp [(.tmp 7, B false), cb true, (.tmp 10, (B ((decide ((p0.length : Int) > 30)))))] (B ((decide ((p0.length : Int) > 30)))), rp [(.tmp 11, (B ((decide ((p0.length : Int) > 30)))))] (B false), rp [(.tmp 12, B false), (.tmp 0, (.dat 4 ((p0 : List GNode).map c_GNode)))] (.dat 4 ((p0 : List GNode).map c_GNode)), rp [(.tmp 12, B false), (.tmp 13, (.dat 4 ((p0 : List GNode).map c_GNode))), ci 0] (.dptr (c_GNode (x39)) 0), rp [(.tmp 12, B false), (.tmp 14, (.dptr (c_GNode (x39)) 0))] (.dptr (c_GNode (x39)) 0), rp [(.tmp 12, B false), (.tmp 15, (.dptr (c_GNode (x39)) 0))] (I x39.Parent), rp [(.tmp 12, B false), (.tmp 16, I x39.Parent), ci (-1)] (B ((x39.Parent != (-1)))), rp [(.tmp 12, B false), cb true, (.tmp 17, (B ((x39.Parent != (-1)))))] (B ((x39.Parent != (-1)))), rp [(.tmp 18, (B ((x39.Parent != (-1)))))] (B false), rp [(.tmp 19, B false), (.tmp 0, (.dat 4 ((p0 : List GNode).map c_GNode)))] (.dat 4 ((p0 : List GNode).map c_GNode)), rp [(.tmp 19, B false), (.tmp 20, (.dat 4 ((p0 : List GNode).map c_GNode))), ci 0] (.dptr (c_GNode (x39)) 0), rp [(.tmp 19, B false), (.tmp 21, (.dptr (c_GNode (x39)) 0))] (.dptr (c_GNode (x39)) 1), rp [(.tmp 19, B false), (.tmp 22, (.dptr (c_GNode (x39)) 1))] (I x39.Loss), rp [(.tmp 19, B false), (.tmp 23, I x39.Loss), ci 0] (B ((x39.Loss != 0))), rp [(.tmp 19, B false), cb true, (.tmp 24, (B ((x39.Loss != 0))))] (B ((x39.Loss != 0))), rp [(.tmp 25, (B ((x39.Loss != 0))))] (B false), rp [(.tmp 26, B false), (.tmp 0, (.dat 4 ((p0 : List GNode).map c_GNode)))] (.dat 4 ((p0 : List GNode).map c_GNode)), rp [(.tmp 26, B false), (.tmp 27, (.dat 4 ((p0 : List GNode).map c_GNode))), ci 0] (.dptr (c_GNode (x39)) 0), rp [(.tmp 26, B false), (.tmp 28, (.dptr (c_GNode (x39)) 0))] (.dptr (c_GNode (x39)) 2), rp [(.tmp 26, B false), (.tmp 29, (.dptr (c_GNode (x39)) 2))] (I x39.Limit), rp [(.tmp 26, B false), (.tmp 30, I x39.Limit), ci 0] (B ((x39.Limit != 0))), rp [(.tmp 26, B false), cb true, (.tmp 31, (B ((x39.Limit != 0))))] (B ((x39.Limit != 0)))] ?_ ?_
            · exact ⟨astep_move rfl, astep_lenm (c := c_GNode) (l := p0) (astep_len rfl Try.underlying22 rfl), astep_bin rfl rfl, astep_b hb37 (astep_move rfl), astep_guard (astep_move rfl), astep_guard (astep_lenm (c := c_GNode) (l := p0) (astep_len rfl Try.underlying22 rfl)), astep_guard (astep_bin rfl rfl), astep_pick rfl rfl, astep_b hb38 (astep_move rfl), astep_guard (astep_move rfl), astep_guard (astep_idxd rfl Try.underlying22 ti56 rfl rfl hi41 (map_get c_GNode hj42) rfl), astep_guard (astep_faddrd rfl Try.underlying56 rfl rfl ti3 (by decide) rfl), astep_guard (astep_loadd rfl ti3 (by decide) (nle rfl) rfl), astep_guard (astep_bin rfl rfl), astep_pick rfl rfl, astep_b hb43 (astep_move rfl), astep_guard (astep_move rfl), astep_guard (astep_idxd rfl Try.underlying22 ti56 rfl rfl hi41 (map_get c_GNode hj42) rfl), astep_guard (astep_faddrd rfl Try.underlying56 rfl rfl ti3 (by decide) rfl), astep_guard (astep_loadd rfl ti3 (by decide) (nle rfl) rfl), astep_guard (astep_bin rfl rfl), astep_pick rfl rfl, astep_b hb44 (astep_move rfl), astep_guard (astep_move rfl), astep_guard (astep_idxd rfl Try.underlying22 ti56 rfl rfl hi41 (map_get c_GNode hj42) rfl), astep_guard (astep_faddrd rfl Try.underlying56 rfl rfl ti3 (by decide) rfl), astep_guard (astep_loadd rfl ti3 (by decide) (nle rfl) rfl), astep_guard (astep_bin rfl rfl), astep_pick rfl rfl, trivial⟩
            rcases bft ((x39.Limit != 0)) with hc45 | hc45
            · replace h := bif_t hc45 h
              refine awp_ift hc45 (by kernel_rfl) ?_
              refine awp_reg [mc (.bool false)] ?_ ?_
              · exact ⟨astep_assign rfl, trivial⟩
              refine awp_ret ?_
              refine thenA_r ?_
              obtain rfl := osi h
              exact ⟨⟨[B false], ⟨resOK_tmp (by kernel_rfl), trivial⟩, rfl⟩, nll, Nat.le_refl _, fun n hn => absurd hn (Nat.not_lt_zero n)⟩
            · replace h := bif_f hc45 h
              refine awp_ifn hc45 (by kernel_rfl) ?_
              refine awp_skip ?_
              refine thenA_n ?_
              exact ⟨(), h, (mor_to (n := 79) [(0, (.dat 4 ((p0 : List GNode).map c_GNode)))] [] [] hφ0 (pc (.rn (.plain _ (nl_dat nl_GNode _))) pn) qn)⟩

def ref10_UsesX_loop1 (N : Nat) (k1 : Unit → Option Bool) (p1 : (List Int)) : Nat → Int → Option Bool
  | 0, _ => none
  | n4 + 1, y2 =>
    bif (decide (y2 < (p1.length : Int))) then
      (getI p1 y2).bind fun x6 =>
      (ref10_InX N x6 0 1000000000).bind fun x11 =>
      bif (!x11) then
        some false
      else
        ref10_UsesX_loop1 N k1 p1 n4 (w64 (y2 + 1))
    else
      k1 ()
def ref10_UsesX (N : Nat) (p0 : (List GNode)) (p1 : (List Int)) : Option Bool :=
  joinK (fun _ =>
      some ((p1.length : Int) == (p0.length : Int))) fun k1 : Unit → Option Bool =>
  ref10_UsesX_loop1 N k1 p1 N 0
set_option maxRecDepth 100000 in
set_option maxHeartbeats 4000000 in
theorem ref10_UsesX_ok (N : Nat) (p0 : (List GNode)) (p1 : (List Int)) (r : Bool) (h : ref10_UsesX N p0 p1 = some r) : Spec Try.prog 26 [(.dat 4 (p0.map c_GNode)), (.dat 1 (p1.map c_i64))] [] (B r) [] := by
  refine spec_of_awp Try.func26 rfl 0 (nle rfl) (fun X φ0 w0 hφ0 => ?_)
  unfold ref10_UsesX at h
  refine awp_reg [mc (.bool false)] ?_ ?_
  · exact ⟨astep_assign rfl, trivial⟩
  obtain ⟨k1, hk_k1, h⟩ := joinK_out h
  refine awp_join (τ := Unit) (fun t => k1 t = some r) (fun _ => ⟨mk 23 [(0, (.dat 4 ((p0 : List GNode).map c_GNode))), (1, (.dat 1 ((p1 : List Int).map c_i64)))], []⟩) (fun t h => ?_) ?_
  · subst hk_k1
    refine awp_reg [mv 1 (.dat 1 ((p1 : List Int).map c_i64)), rp [(.tmp 18, (.dat 1 ((p1 : List Int).map c_i64)))] (I ((p1.length : Int))), mv 0 (.dat 4 ((p0 : List GNode).map c_GNode)), rp [(.tmp 20, (.dat 4 ((p0 : List GNode).map c_GNode)))] (I ((p0.length : Int))), rp [(.tmp 19, (I ((p1.length : Int)))), (.tmp 21, (I ((p0.length : Int))))] (B (((p1.length : Int) == (p0.length : Int)))), mv 22 (B (((p1.length : Int) == (p0.length : Int))))] ?_ ?_
    · exact ⟨astep_move rfl, astep_lenm (c := c_i64) (l := p1) (astep_len rfl Try.underlying23 rfl), astep_move rfl, astep_lenm (c := c_GNode) (l := p0) (astep_len rfl Try.underlying22 rfl), astep_bin rfl rfl, astep_assign rfl, trivial⟩
    refine awp_ret ?_
    obtain rfl := osi h
    exact ⟨⟨[(B (((p1.length : Int) == (p0.length : Int))))], ⟨resOK_tmp (by kernel_rfl), trivial⟩, rfl⟩, nll, Nat.le_refl _, fun n hn => absurd hn (Nat.not_lt_zero n)⟩
  · skip
    refine awp_reg [mc (.int .i64 0)] ?_ ?_
    · exact ⟨astep_assign rfl, trivial⟩
    refine awp_block ?_
    refine awp_mor (mor_to (n := 23) (l' := [(0, (.dat 4 ((p0 : List GNode).map c_GNode))), (1, (.dat 1 ((p1 : List Int).map c_i64))), (5, I 0)]) (own' := []) [(0, (.dat 4 ((p0 : List GNode).map c_GNode))), (1, (.dat 1 ((p1 : List Int).map c_i64))), (5, I 0)] [] [] hφ0 (pc (.rn (.plain _ (nl_dat nl_GNode _))) (pc (.rn (.plain _ (nl_dat nl_i64 _))) (pc rwl pn))) qn) ?_
    refine awp_ind (τ := Int) (fun n t => ref10_UsesX_loop1 N k1 p1 n t = some r) (fun y2 => ⟨mk 23 [(0, (.dat 4 ((p0 : List GNode).map c_GNode))), (1, (.dat 1 ((p1 : List Int).map c_i64))), (5, I y2)], []⟩) (fun t h => by rw [ref10_UsesX_loop1] at h; cases h) (fun n4 ih y2 h => ?_) N (0) h
    rw [ref10_UsesX_loop1] at h
    skip
    refine awp_seq ?_
    refine awp_reg [mv 5 (I y2), mv 1 (.dat 1 ((p1 : List Int).map c_i64)), rp [(.tmp 7, (.dat 1 ((p1 : List Int).map c_i64)))] (I ((p1.length : Int))), rp [(.tmp 6, I y2), (.tmp 8, (I ((p1.length : Int))))] (B ((decide (y2 < (p1.length : Int)))))] ?_ ?_
    · exact ⟨astep_move rfl, astep_move rfl, astep_lenm (c := c_i64) (l := p1) (astep_len rfl Try.underlying23 rfl), astep_bin rfl rfl, trivial⟩
    rcases bft ((decide (y2 < (p1.length : Int)))) with hc5 | hc5
    · replace h := bif_t hc5 h
      refine awp_ift hc5 (by kernel_rfl) ?_
      refine awp_skip ?_
      refine thenA_n ?_
      refine awp_seq ?_
      refine awp_block ?_
      obtain ⟨x6, hg7, h⟩ := bind_out h
      obtain ⟨hi8, hj9⟩ := getI_some hg7
      obtain ⟨x11, hf10, h⟩ := bind_out h
      refine awp_reg [mv 1 (.dat 1 ((p1 : List Int).map c_i64)), mv 5 (I y2), rp [(.tmp 12, (.dat 1 ((p1 : List Int).map c_i64))), (.tmp 13, I y2)] (.dptr (c_i64 (x6)) 0), rp [(.tmp 14, (.dptr (c_i64 (x6)) 0))] (I x6), rp [fu 27, (.tmp 15, I x6), ci 0, ci 1000000000] (B x11), rp [(.tmp 16, B x11)] (B ((!x11)))] ?_ ?_
      · exact ⟨astep_move rfl, astep_move rfl, astep_idxd rfl Try.underlying23 ti3 rfl rfl hi8 (map_get c_i64 hj9) rfl, astep_loadd rfl ti3 (by decide) (nle rfl) rfl, astep_pcall (first := []) (cap := []) (vs := [I x6, I 0, I 1000000000]) rfl enter27 (ref10_InX_ok N x6 0 1000000000 _ hf10) rfl rfl (nl_cons nll (nl_cons nll (nl_cons nll nl_nil))) nll rfl, astep_not rfl, trivial⟩
      rcases bft ((!x11)) with hc12 | hc12
      · replace h := bif_t hc12 h
        refine awp_ift hc12 (by kernel_rfl) ?_
        refine awp_reg [mc (.bool false)] ?_ ?_
        · exact ⟨astep_assign rfl, trivial⟩
        refine awp_ret ?_
        refine blockA_r ?_
        refine thenA_r ?_
        refine thenA_r ?_
        refine blockA_r ?_
        refine thenA_r ?_
        obtain rfl := osi h
        exact ⟨⟨[B false], ⟨resOK_tmp (by kernel_rfl), trivial⟩, rfl⟩, nll, Nat.le_refl _, fun n hn => absurd hn (Nat.not_lt_zero n)⟩
      · replace h := bif_f hc12 h
        refine awp_ifn hc12 (by kernel_rfl) ?_
        refine awp_skip ?_
        refine blockA_n ?_
        refine thenA_n ?_
        refine awp_reg1 [mv 5 (I y2), rp [(.tmp 10, I y2), ci 1] (I (w64 (y2 + 1))), mv 11 (I (w64 (y2 + 1)))] ?_ ?_
        · exact ⟨astep_move rfl, astep_bin rfl rfl, astep_assign rfl, trivial⟩
        refine thenA_n ?_
        exact around_mor (mor_to (n := 23) [(0, (.dat 4 ((p0 : List GNode).map c_GNode))), (1, (.dat 1 ((p1 : List Int).map c_i64))), (5, (I (w64 (y2 + 1))))] [] [] hφ0 (pc (.rn (.plain _ (nl_dat nl_GNode _))) (pc (.rn (.plain _ (nl_dat nl_i64 _))) (pc rwl pn))) qn) (ih (w64 (y2 + 1)) h)
    · replace h := bif_f hc5 h
      refine awp_ifn hc5 (by kernel_rfl) ?_
      refine awp_exit ?_
      refine thenA_x ?_
      refine thenA_x ?_
      refine blockA_e rfl ?_
      refine thenA_n ?_
      exact ⟨(), h, (mor_to (n := 23) [(0, (.dat 4 ((p0 : List GNode).map c_GNode))), (1, (.dat 1 ((p1 : List Int).map c_i64)))] [] [] hφ0 (pc (.rn (.plain _ (nl_dat nl_GNode _))) (pc (.rn (.plain _ (nl_dat nl_i64 _))) pn)) qn)⟩

def ref10_FlowX_loop1 (N : Nat) (p0 : (List GNode)) (rec_ : ((List GNode) → (List Int) → Int → Option Int)) (p1 : (List Int)) (p2 : Int) (k6 : Int → Option Int) : Nat → Int → Int → Option Int
  | 0, _, _ => none
  | n16 + 1, y12, y13 =>
    bif (decide (y13 < (p0.length : Int))) then
      (getI p0 y13).bind fun x18 =>
      bif (x18.Parent == p2) then
        (rec_ p0 p1 y13).bind fun x24 =>
        ref10_FlowX_loop1 N p0 rec_ p1 p2 k6 n16 (w64 (y12 + x24)) (w64 (y13 + 1))
      else
        ref10_FlowX_loop1 N p0 rec_ p1 p2 k6 n16 y12 (w64 (y13 + 1))
    else
      k6 (y12)
def ref10_FlowX_body (N : Nat) (rec_ : (List GNode) → (List Int) → Int → Option Int) (p0 : (List GNode)) (p1 : (List Int)) (p2 : Int) : Option Int :=
  (getI p1 p2).bind fun x1 =>
  joinK (fun y5 =>
      bif (decide (y5 > 0)) then
        (getI p0 p2).bind fun x8 =>
        some (w64 (y5 + x8.Loss))
      else
        some y5) fun k6 : Int → Option Int =>
  ref10_FlowX_loop1 N p0 rec_ p1 p2 k6 N x1 (w64 (p2 + 1))
def ref10_FlowX : Nat → (List GNode) → (List Int) → Int → Option Int
  | 0, _, _, _ => none
  | N + 1, p0, p1, p2 => ref10_FlowX_body N (ref10_FlowX N) p0 p1 p2
set_option maxRecDepth 100000 in
set_option maxHeartbeats 4000000 in
theorem ref10_FlowX_ok : ∀ (N : Nat) (p0 : (List GNode)) (p1 : (List Int)) (p2 : Int) (r : Int) (_ : ref10_FlowX N p0 p1 p2 = some r), Spec Try.prog 39 [(.dat 4 (p0.map c_GNode)), (.dat 1 (p1.map c_i64)), (I p2)] [] (I r) [] := by
  intro N
  induction N with
  | zero => intro p0 p1 p2 r h; exact nomatch (show (none : Option Int) = some r from h)
  | succ N ihX =>
  intro p0 p1 p2 r h
  replace h : ref10_FlowX_body N (ref10_FlowX N) p0 p1 p2 = some r := h
  refine spec_of_awp Try.func39 rfl 0 (nle rfl) (fun X φ0 w0 hφ0 => ?_)
  unfold ref10_FlowX_body at h
  refine awp_reg [mc (.int .i64 0)] ?_ ?_
  · exact ⟨astep_assign rfl, trivial⟩
  obtain ⟨x1, hg2, h⟩ := bind_out h
  obtain ⟨hi3, hj4⟩ := getI_some hg2
  refine awp_reg [mv 1 (.dat 1 ((p1 : List Int).map c_i64)), mv 2 (I p2), rp [(.tmp 9, (.dat 1 ((p1 : List Int).map c_i64))), (.tmp 10, I p2)] (.dptr (c_i64 (x1)) 0), rp [(.tmp 11, (.dptr (c_i64 (x1)) 0))] (I x1), mv 12 (I x1)] ?_ ?_
  · exact ⟨astep_move rfl, astep_move rfl, astep_idxd rfl Try.underlying23 ti3 rfl rfl hi3 (map_get c_i64 hj4) rfl, astep_loadd rfl ti3 (by decide) (nle rfl) rfl, astep_assign rfl, trivial⟩
  obtain ⟨k6, hk_k6, h⟩ := joinK_out h
  refine awp_join (τ := Int) (fun t => k6 t = some r) (fun y5 => ⟨mk 44 [(0, (.dat 4 ((p0 : List GNode).map c_GNode))), (2, I p2), (7, I y5)], []⟩) (fun y5 h => ?_) ?_
  · subst hk_k6
    refine awp_seq ?_
    refine awp_reg [mv 7 (I y5), rp [(.tmp 34, I y5), ci 0] (B ((decide (y5 > 0))))] ?_ ?_
    · exact ⟨astep_move rfl, astep_bin rfl rfl, trivial⟩
    rcases bft ((decide (y5 > 0))) with hc7 | hc7
    · replace h := bif_t hc7 h
      refine awp_ift hc7 (by kernel_rfl) ?_
      obtain ⟨x8, hg9, h⟩ := bind_out h
      obtain ⟨hi10, hj11⟩ := getI_some hg9
      refine awp_reg1 [mv 7 (I y5), mv 0 (.dat 4 ((p0 : List GNode).map c_GNode)), mv 2 (I p2), rp [(.tmp 37, (.dat 4 ((p0 : List GNode).map c_GNode))), (.tmp 38, I p2)] (.dptr (c_GNode (x8)) 0), rp [(.tmp 39, (.dptr (c_GNode (x8)) 0))] (.dptr (c_GNode (x8)) 1), rp [(.tmp 40, (.dptr (c_GNode (x8)) 1))] (I x8.Loss), rp [(.tmp 36, I y5), (.tmp 41, I x8.Loss)] (I (w64 (y5 + x8.Loss))), mv 42 (I (w64 (y5 + x8.Loss)))] ?_ ?_
      · exact ⟨astep_move rfl, astep_move rfl, astep_move rfl, astep_idxd rfl Try.underlying22 ti56 rfl rfl hi10 (map_get c_GNode hj11) rfl, astep_faddrd rfl Try.underlying56 rfl rfl ti3 (by decide) rfl, astep_loadd rfl ti3 (by decide) (nle rfl) rfl, astep_bin rfl rfl, astep_assign rfl, trivial⟩
      refine thenA_n ?_
      refine awp_reg [mv 7 (I (w64 (y5 + x8.Loss))), mv 43 (I (w64 (y5 + x8.Loss)))] ?_ ?_
      · exact ⟨astep_move rfl, astep_assign rfl, trivial⟩
      refine awp_ret ?_
      obtain rfl := osi h
      exact ⟨⟨[(I (w64 (y5 + x8.Loss)))], ⟨resOK_tmp (by kernel_rfl), trivial⟩, rfl⟩, nll, Nat.le_refl _, fun n hn => absurd hn (Nat.not_lt_zero n)⟩
    · replace h := bif_f hc7 h
      refine awp_ifn hc7 (by kernel_rfl) ?_
      refine awp_skip ?_
      refine thenA_n ?_
      refine awp_reg [mv 7 (I y5), mv 43 (I y5)] ?_ ?_
      · exact ⟨astep_move rfl, astep_assign rfl, trivial⟩
      refine awp_ret ?_
      obtain rfl := osi h
      exact ⟨⟨[I y5], ⟨resOK_tmp (by kernel_rfl), trivial⟩, rfl⟩, nll, Nat.le_refl _, fun n hn => absurd hn (Nat.not_lt_zero n)⟩
  · skip
    refine awp_reg [mv 2 (I p2), rp [(.tmp 13, I p2), ci 1] (I (w64 (p2 + 1))), mv 14 (I (w64 (p2 + 1)))] ?_ ?_
    · exact ⟨astep_move rfl, astep_bin rfl rfl, astep_assign rfl, trivial⟩
    refine awp_block ?_
    refine awp_mor (mor_to (n := 44) (l' := [(0, (.dat 4 ((p0 : List GNode).map c_GNode))), (1, (.dat 1 ((p1 : List Int).map c_i64))), (2, I p2), (7, I x1), (8, (I ((w64 (p2 + 1)))))]) (own' := []) [(0, (.dat 4 ((p0 : List GNode).map c_GNode))), (1, (.dat 1 ((p1 : List Int).map c_i64))), (2, I p2), (7, I x1), (8, (I (w64 (p2 + 1))))] [] [] hφ0 (pc (.rn (.plain _ (nl_dat nl_GNode _))) (pc (.rn (.plain _ (nl_dat nl_i64 _))) (pc rwl (pc rwl (pc rwl pn))))) qn) ?_
    refine awp_ind (τ := Int × Int) (fun n t => ref10_FlowX_loop1 N p0 (ref10_FlowX N) p1 p2 k6 n t.1 t.2 = some r) (fun ⟨y12, y13⟩ => ⟨mk 44 [(0, (.dat 4 ((p0 : List GNode).map c_GNode))), (1, (.dat 1 ((p1 : List Int).map c_i64))), (2, I p2), (7, I y12), (8, I y13)], []⟩) (fun t h => by rw [ref10_FlowX_loop1] at h; cases h) (fun n16 ih t h => ?_) N (x1, w64 (p2 + 1)) h
    obtain ⟨y12, y13⟩ := t
    rw [ref10_FlowX_loop1] at h
    skip
    refine awp_seq ?_
    refine awp_reg [mv 8 (I y13), mv 0 (.dat 4 ((p0 : List GNode).map c_GNode)), rp [(.tmp 16, (.dat 4 ((p0 : List GNode).map c_GNode)))] (I ((p0.length : Int))), rp [(.tmp 15, I y13), (.tmp 17, (I ((p0.length : Int))))] (B ((decide (y13 < (p0.length : Int)))))] ?_ ?_
    · exact ⟨astep_move rfl, astep_move rfl, astep_lenm (c := c_GNode) (l := p0) (astep_len rfl Try.underlying22 rfl), astep_bin rfl rfl, trivial⟩
    rcases bft ((decide (y13 < (p0.length : Int)))) with hc17 | hc17
    · replace h := bif_t hc17 h
      refine awp_ift hc17 (by kernel_rfl) ?_
      refine awp_skip ?_
      refine thenA_n ?_
      refine awp_seq ?_
      refine awp_block ?_
      obtain ⟨x18, hg19, h⟩ := bind_out h
      obtain ⟨hi20, hj21⟩ := getI_some hg19
      refine awp_reg [mv 0 (.dat 4 ((p0 : List GNode).map c_GNode)), mv 8 (I y13), rp [(.tmp 21, (.dat 4 ((p0 : List GNode).map c_GNode))), (.tmp 22, I y13)] (.dptr (c_GNode (x18)) 0), mv 23 (.dptr (c_GNode (x18)) 0), rp [(.tmp 24, (.dptr (c_GNode (x18)) 0))] (I x18.Parent), mv 2 (I p2), rp [(.tmp 25, I x18.Parent), (.tmp 26, I p2)] (B ((x18.Parent == p2)))] ?_ ?_
      · exact ⟨astep_move rfl, astep_move rfl, astep_idxd rfl Try.underlying22 ti56 rfl rfl hi20 (map_get c_GNode hj21) rfl, astep_faddrd rfl Try.underlying56 rfl rfl ti3 (by decide) rfl, astep_loadd rfl ti3 (by decide) (nle rfl) rfl, astep_move rfl, astep_bin rfl rfl, trivial⟩
      rcases bft ((x18.Parent == p2)) with hc22 | hc22
      · replace h := bif_t hc22 h
        refine awp_ift hc22 (by kernel_rfl) ?_
        obtain ⟨x24, hf23, h⟩ := bind_out h
        refine awp_reg1 [mv 7 (I y12), mv 0 (.dat 4 ((p0 : List GNode).map c_GNode)), mv 1 (.dat 1 ((p1 : List Int).map c_i64)), mv 8 (I y13), rp [fu 39, (.tmp 29, (.dat 4 ((p0 : List GNode).map c_GNode))), (.tmp 30, (.dat 1 ((p1 : List Int).map c_i64))), (.tmp 31, I y13)] (I x24), rp [(.tmp 28, I y12), (.tmp 32, I x24)] (I (w64 (y12 + x24))), mv 33 (I (w64 (y12 + x24)))] ?_ ?_
        · exact ⟨astep_move rfl, astep_move rfl, astep_move rfl, astep_move rfl, astep_pcall (first := []) (cap := []) (vs := [(.dat 4 ((p0 : List GNode).map c_GNode)), (.dat 1 ((p1 : List Int).map c_i64)), I y13]) rfl enter39 (ihX p0 p1 y13 _ hf23) rfl rfl (nl_cons (nl_dat nl_GNode _) (nl_cons (nl_dat nl_i64 _) (nl_cons nll nl_nil))) nll rfl, astep_bin rfl rfl, astep_assign rfl, trivial⟩
        refine blockA_n ?_
        refine thenA_n ?_
        refine awp_reg1 [mv 8 (I y13), rp [(.tmp 19, I y13), ci 1] (I (w64 (y13 + 1))), mv 20 (I (w64 (y13 + 1)))] ?_ ?_
        · exact ⟨astep_move rfl, astep_bin rfl rfl, astep_assign rfl, trivial⟩
        refine thenA_n ?_
        exact around_mor (mor_to (n := 44) [(0, (.dat 4 ((p0 : List GNode).map c_GNode))), (1, (.dat 1 ((p1 : List Int).map c_i64))), (2, I p2), (7, (I (w64 (y12 + x24)))), (8, (I (w64 (y13 + 1))))] [] [] hφ0 (pc (.rn (.plain _ (nl_dat nl_GNode _))) (pc (.rn (.plain _ (nl_dat nl_i64 _))) (pc rwl (pc rwl (pc rwl pn))))) qn) (ih (w64 (y12 + x24), w64 (y13 + 1)) h)
      · replace h := bif_f hc22 h
        refine awp_ifn hc22 (by kernel_rfl) ?_
        refine awp_skip ?_
        refine blockA_n ?_
        refine thenA_n ?_
        refine awp_reg1 [mv 8 (I y13), rp [(.tmp 19, I y13), ci 1] (I (w64 (y13 + 1))), mv 20 (I (w64 (y13 + 1)))] ?_ ?_
        · exact ⟨astep_move rfl, astep_bin rfl rfl, astep_assign rfl, trivial⟩
        refine thenA_n ?_
        exact around_mor (mor_to (n := 44) [(0, (.dat 4 ((p0 : List GNode).map c_GNode))), (1, (.dat 1 ((p1 : List Int).map c_i64))), (2, I p2), (7, I y12), (8, (I (w64 (y13 + 1))))] [] [] hφ0 (pc (.rn (.plain _ (nl_dat nl_GNode _))) (pc (.rn (.plain _ (nl_dat nl_i64 _))) (pc rwl (pc rwl (pc rwl pn))))) qn) (ih (y12, w64 (y13 + 1)) h)
    · replace h := bif_f hc17 h
      refine awp_ifn hc17 (by kernel_rfl) ?_
      refine awp_exit ?_
      refine thenA_x ?_
      refine thenA_x ?_
      refine blockA_e rfl ?_
      refine thenA_n ?_
      exact ⟨(y12), h, (mor_to (n := 44) [(0, (.dat 4 ((p0 : List GNode).map c_GNode))), (2, I p2), (7, I y12)] [] [] hφ0 (pc (.rn (.plain _ (nl_dat nl_GNode _))) (pc rwl (pc rwl pn))) qn)⟩

def ref10_FullX_loop1 (N : Nat) (p0 : (List GNode)) (k1 : Unit → Option Int) (p1 : (List Int)) : Nat → Int → Option Int
  | 0, _ => none
  | n4 + 1, y2 =>
    bif (decide (y2 < (p0.length : Int))) then
      (ref10_FlowX N p0 p1 y2).bind fun x7 =>
      (getI p0 y2).bind fun x8 =>
      bif (decide (x7 > x8.Limit)) then
        some y2
      else
        ref10_FullX_loop1 N p0 k1 p1 n4 (w64 (y2 + 1))
    else
      k1 ()
def ref10_FullX (N : Nat) (p0 : (List GNode)) (p1 : (List Int)) : Option Int :=
  joinK (fun _ =>
      some (-1)) fun k1 : Unit → Option Int =>
  ref10_FullX_loop1 N p0 k1 p1 N 1
set_option maxRecDepth 100000 in
set_option maxHeartbeats 4000000 in
theorem ref10_FullX_ok (N : Nat) (p0 : (List GNode)) (p1 : (List Int)) (r : Int) (h : ref10_FullX N p0 p1 = some r) : Spec Try.prog 38 [(.dat 4 (p0.map c_GNode)), (.dat 1 (p1.map c_i64))] [] (I r) [] := by
  refine spec_of_awp Try.func38 rfl 0 (nle rfl) (fun X φ0 w0 hφ0 => ?_)
  unfold ref10_FullX at h
  refine awp_reg [mc (.int .i64 0)] ?_ ?_
  · exact ⟨astep_assign rfl, trivial⟩
  obtain ⟨k1, hk_k1, h⟩ := joinK_out h
  refine awp_join (τ := Unit) (fun t => k1 t = some r) (fun _ => ⟨mk 23 [], []⟩) (fun t h => ?_) ?_
  · subst hk_k1
    refine awp_reg [mc (.int .i64 (-1))] ?_ ?_
    · exact ⟨astep_assign rfl, trivial⟩
    refine awp_ret ?_
    obtain rfl := osi h
    exact ⟨⟨[(I ((-1)))], ⟨resOK_tmp (by kernel_rfl), trivial⟩, rfl⟩, nll, Nat.le_refl _, fun n hn => absurd hn (Nat.not_lt_zero n)⟩
  · skip
    refine awp_reg [mc (.int .i64 1)] ?_ ?_
    · exact ⟨astep_assign rfl, trivial⟩
    refine awp_block ?_
    refine awp_mor (mor_to (n := 23) (l' := [(0, (.dat 4 ((p0 : List GNode).map c_GNode))), (1, (.dat 1 ((p1 : List Int).map c_i64))), (5, I 1)]) (own' := []) [(0, (.dat 4 ((p0 : List GNode).map c_GNode))), (1, (.dat 1 ((p1 : List Int).map c_i64))), (5, I 1)] [] [] hφ0 (pc (.rn (.plain _ (nl_dat nl_GNode _))) (pc (.rn (.plain _ (nl_dat nl_i64 _))) (pc rwl pn))) qn) ?_
    refine awp_ind (τ := Int) (fun n t => ref10_FullX_loop1 N p0 k1 p1 n t = some r) (fun y2 => ⟨mk 23 [(0, (.dat 4 ((p0 : List GNode).map c_GNode))), (1, (.dat 1 ((p1 : List Int).map c_i64))), (5, I y2)], []⟩) (fun t h => by rw [ref10_FullX_loop1] at h; cases h) (fun n4 ih y2 h => ?_) N (1) h
    rw [ref10_FullX_loop1] at h
    skip
    refine awp_seq ?_
    refine awp_reg [mv 5 (I y2), mv 0 (.dat 4 ((p0 : List GNode).map c_GNode)), rp [(.tmp 7, (.dat 4 ((p0 : List GNode).map c_GNode)))] (I ((p0.length : Int))), rp [(.tmp 6, I y2), (.tmp 8, (I ((p0.length : Int))))] (B ((decide (y2 < (p0.length : Int)))))] ?_ ?_
    · exact ⟨astep_move rfl, astep_move rfl, astep_lenm (c := c_GNode) (l := p0) (astep_len rfl Try.underlying22 rfl), astep_bin rfl rfl, trivial⟩
    rcases bft ((decide (y2 < (p0.length : Int)))) with hc5 | hc5
    · replace h := bif_t hc5 h
      refine awp_ift hc5 (by kernel_rfl) ?_
      refine awp_skip ?_
      refine thenA_n ?_
      refine awp_seq ?_
      refine awp_block ?_
      obtain ⟨x7, hf6, h⟩ := bind_out h
      obtain ⟨x8, hg9, h⟩ := bind_out h
      obtain ⟨hi10, hj11⟩ := getI_some hg9
      refine awp_regd [mv 0 (.dat 4 ((p0 : List GNode).map c_GNode)), mv 1 (.dat 1 ((p1 : List Int).map c_i64)), mv 5 (I y2), rp [fu 39, (.tmp 12, (.dat 4 ((p0 : List GNode).map c_GNode))), (.tmp 13, (.dat 1 ((p1 : List Int).map c_i64))), (.tmp 14, I y2)] (I x7), mv 0 (.dat 4 ((p0 : List GNode).map c_GNode)), mv 5 (I y2), rp [(.tmp 16, (.dat 4 ((p0 : List GNode).map c_GNode))), (.tmp 17, I y2)] (.dptr (c_GNode (x8)) 0), rp [(.tmp 18, (.dptr (c_GNode (x8)) 0))] (.dptr (c_GNode (x8)) 2), rp [(.tmp 19, (.dptr (c_GNode (x8)) 2))] (I x8.Limit), rp [(.tmp 15, I x7), (.tmp 20, I x8.Limit)] (B ((decide (x7 > x8.Limit))))] ?_ ?_
      · exact ⟨astep_move rfl, astep_move rfl, astep_move rfl, astep_pcall (first := []) (cap := []) (vs := [(.dat 4 ((p0 : List GNode).map c_GNode)), (.dat 1 ((p1 : List Int).map c_i64)), I y2]) rfl enter39 (ref10_FlowX_ok N p0 p1 y2 _ hf6) rfl rfl (nl_cons (nl_dat nl_GNode _) (nl_cons (nl_dat nl_i64 _) (nl_cons nll nl_nil))) nll rfl, astep_move rfl, astep_move rfl, astep_idxd rfl Try.underlying22 ti56 rfl rfl hi10 (map_get c_GNode hj11) rfl, astep_faddrd rfl Try.underlying56 rfl rfl ti3 (by decide) rfl, astep_loadd rfl ti3 (by decide) (nle rfl) rfl, astep_bin rfl rfl, trivial⟩
      rcases bft ((decide (x7 > x8.Limit))) with hc12 | hc12
      · replace h := bif_t hc12 h
        refine awp_ift hc12 (by kernel_rfl) ?_
        refine awp_reg [mv 5 (I y2), mv 22 (I y2)] ?_ ?_
        · exact ⟨astep_move rfl, astep_assign rfl, trivial⟩
        refine awp_ret ?_
        refine blockA_r ?_
        refine thenA_r ?_
        refine thenA_r ?_
        refine blockA_r ?_
        refine thenA_r ?_
        obtain rfl := osi h
        exact ⟨⟨[I y2], ⟨resOK_tmp (by kernel_rfl), trivial⟩, rfl⟩, nll, Nat.le_refl _, fun n hn => absurd hn (Nat.not_lt_zero n)⟩
      · replace h := bif_f hc12 h
        refine awp_ifn hc12 (by kernel_rfl) ?_
        refine awp_skip ?_
        refine blockA_n ?_
        refine thenA_n ?_
        refine awp_reg1 [mv 5 (I y2), rp [(.tmp 10, I y2), ci 1] (I (w64 (y2 + 1))), mv 11 (I (w64 (y2 + 1)))] ?_ ?_
        · exact ⟨astep_move rfl, astep_bin rfl rfl, astep_assign rfl, trivial⟩
        refine thenA_n ?_
        exact around_mor (mor_to (n := 23) [(0, (.dat 4 ((p0 : List GNode).map c_GNode))), (1, (.dat 1 ((p1 : List Int).map c_i64))), (5, (I (w64 (y2 + 1))))] [] [] hφ0 (pc (.rn (.plain _ (nl_dat nl_GNode _))) (pc (.rn (.plain _ (nl_dat nl_i64 _))) (pc rwl pn))) qn) (ih (w64 (y2 + 1)) h)
    · replace h := bif_f hc5 h
      refine awp_ifn hc5 (by kernel_rfl) ?_
      refine awp_exit ?_
      refine thenA_x ?_
      refine thenA_x ?_
      refine blockA_e rfl ?_
      refine thenA_n ?_
      exact ⟨(), h, (mor_to (n := 23) [] [] [] hφ0 pn qn)⟩

def law10_TownX_loop1 (N : Nat) (p0 : (List GNode)) (k2 : (List GNode) → Option (List GNode)) : Nat → (List GNode) → Int → Option (List GNode)
  | 0, _, _ => none
  | n7 + 1, y3, y4 =>
    bif (decide (y4 < (p0.length : Int))) then
      (getI p0 y4).bind fun x9 =>
      chk (decide ((y3.length + ([x9]).length) * 32 ≤ 140737488355328)) <|
      law10_TownX_loop1 N p0 k2 n7 (y3 ++ ([x9])) (w64 (y4 + 1))
    else
      k2 (y3)
def law10_TownX (N : Nat) (p0 : (List GNode)) : Option (List GNode) :=
  joinK (fun y1 =>
      some y1) fun k2 : (List GNode) → Option (List GNode) =>
  law10_TownX_loop1 N p0 k2 N ([]) 0
set_option maxRecDepth 100000 in
set_option maxHeartbeats 4000000 in
theorem law10_TownX_ok (N : Nat) (p0 : (List GNode)) (r : (List GNode)) (h : law10_TownX N p0 = some r) : Spec Try.prog 23 [(.dat 4 (p0.map c_GNode))] [] (.dat 4 (r.map c_GNode)) [] := by
  refine spec_of_awp Try.func23 rfl 0 (nle rfl) (fun X φ0 w0 hφ0 => ?_)
  unfold law10_TownX at h
  refine awp_reg [mc (.slice none 0 0)] ?_ ?_
  · exact ⟨astep_assign rfl, trivial⟩
  refine awp_reg [mc (.slice none 0 0)] ?_ ?_
  · exact ⟨astep_assign rfl, trivial⟩
  obtain ⟨k2, hk_k2, h⟩ := joinK_out h
  refine awp_join (τ := (List GNode)) (fun t => k2 t = some r) (fun y1 => ⟨mk 36 [(3, (.acc 0 141 4 ((y1 : List GNode).map c_GNode)))], [.tok]⟩) (fun y1 h => ?_) ?_
  · subst hk_k2
    refine awp_reg [mv 3 (.acc 0 141 4 ((y1 : List GNode).map c_GNode)), mv 35 (.acc 0 141 4 ((y1 : List GNode).map c_GNode))] ?_ ?_
    · exact ⟨astep_move rfl, astep_assign rfl, trivial⟩
    refine awp_ret ?_
    obtain rfl := osi h
    exact ⟨⟨[(.dat 4 ((y1 : List GNode).map c_GNode))], ⟨resOK_less (v := (.acc 0 141 4 ((y1 : List GNode).map c_GNode))) (resOK_tmp (by kernel_rfl)) Less.acc, trivial⟩, rfl⟩, (nl_dat nl_GNode _), Nat.le_refl _, fun n hn => absurd hn (Nat.not_lt_zero n)⟩
  · skip
    refine awp_reg [mc (.int .i64 0)] ?_ ?_
    · exact ⟨astep_assign rfl, trivial⟩
    refine awp_block ?_
    refine awp_mor (Mor.trans (mor_nil 0 141 4 3 (by kernel_rfl) (by kernel_rfl)) (mor_to (n := 36) (l' := [(0, (.dat 4 ((p0 : List GNode).map c_GNode))), (3, (.acc 0 141 4 ((([]) : List GNode).map c_GNode))), (4, I 0)]) (own' := [.tok]) [(0, (.dat 4 ((p0 : List GNode).map c_GNode))), (3, (.acc 0 141 4 (([] : List GNode).map c_GNode))), (4, I 0)] [0] [.tok] hφ0 (pc (.rn (.plain _ (nl_dat nl_GNode _))) (pc (.rn (rnq_acc rfl (nl_rows nl_GNode _))) (pc rwl pn))) (qc .tok qn))) ?_
    refine awp_ind (τ := (List GNode) × Int) (fun n t => law10_TownX_loop1 N p0 k2 n t.1 t.2 = some r) (fun ⟨y3, y4⟩ => ⟨mk 36 [(0, (.dat 4 ((p0 : List GNode).map c_GNode))), (3, (.acc 0 141 4 ((y3 : List GNode).map c_GNode))), (4, I y4)], [.tok]⟩) (fun t h => by rw [law10_TownX_loop1] at h; cases h) (fun n7 ih t h => ?_) N ([], 0) h
    obtain ⟨y3, y4⟩ := t
    rw [law10_TownX_loop1] at h
    skip
    refine awp_seq ?_
    refine awp_reg [mv 4 (I y4), mv 0 (.dat 4 ((p0 : List GNode).map c_GNode)), rp [(.tmp 6, (.dat 4 ((p0 : List GNode).map c_GNode)))] (I ((p0.length : Int))), rp [(.tmp 5, I y4), (.tmp 7, (I ((p0.length : Int))))] (B ((decide (y4 < (p0.length : Int)))))] ?_ ?_
    · exact ⟨astep_move rfl, astep_move rfl, astep_lenm (c := c_GNode) (l := p0) (astep_len rfl Try.underlying22 rfl), astep_bin rfl rfl, trivial⟩
    rcases bft ((decide (y4 < (p0.length : Int)))) with hc8 | hc8
    · replace h := bif_t hc8 h
      refine awp_ift hc8 (by kernel_rfl) ?_
      refine awp_skip ?_
      refine thenA_n ?_
      refine awp_seq ?_
      refine awp_block ?_
      obtain ⟨x9, hg10, h⟩ := bind_out h
      obtain ⟨hi11, hj12⟩ := getI_some hg10
      obtain ⟨ha13, h⟩ := chk_out h
      refine awp_regd1 [mv 3 (.acc 0 141 4 ((y3 : List GNode).map c_GNode)), mv 0 (.dat 4 ((p0 : List GNode).map c_GNode)), mv 4 (I y4), rp [(.tmp 12, (.dat 4 ((p0 : List GNode).map c_GNode))), (.tmp 13, I y4)] (.dptr (c_GNode (x9)) 0), mv 14 (.dptr (c_GNode (x9)) 0), rp [(.tmp 15, (.dptr (c_GNode (x9)) 0))] (I x9.Parent), mv 0 (.dat 4 ((p0 : List GNode).map c_GNode)), mv 4 (I y4), rp [(.tmp 17, (.dat 4 ((p0 : List GNode).map c_GNode))), (.tmp 18, I y4)] (.dptr (c_GNode (x9)) 0), rp [(.tmp 19, (.dptr (c_GNode (x9)) 0))] (.dptr (c_GNode (x9)) 1), rp [(.tmp 20, (.dptr (c_GNode (x9)) 1))] (I x9.Loss), mv 0 (.dat 4 ((p0 : List GNode).map c_GNode)), mv 4 (I y4), rp [(.tmp 22, (.dat 4 ((p0 : List GNode).map c_GNode))), (.tmp 23, I y4)] (.dptr (c_GNode (x9)) 0), rp [(.tmp 24, (.dptr (c_GNode (x9)) 0))] (.dptr (c_GNode (x9)) 2), rp [(.tmp 25, (.dptr (c_GNode (x9)) 2))] (I x9.Limit), mv 0 (.dat 4 ((p0 : List GNode).map c_GNode)), mv 4 (I y4), rp [(.tmp 27, (.dat 4 ((p0 : List GNode).map c_GNode))), (.tmp 28, I y4)] (.dptr (c_GNode (x9)) 0), rp [(.tmp 29, (.dptr (c_GNode (x9)) 0))] (.dptr (c_GNode (x9)) 3), rp [(.tmp 30, (.dptr (c_GNode (x9)) 3))] (I x9.Rank), rp [(.tmp 16, I x9.Parent), (.tmp 21, I x9.Loss), (.tmp 26, I x9.Limit), (.tmp 31, I x9.Rank)] (.agg [I x9.Parent, I x9.Loss, I x9.Limit, I x9.Rank]), rp [(.tmp 32, (.agg [I x9.Parent, I x9.Loss, I x9.Limit, I x9.Rank]))] (.dat 4 (([x9] : List GNode).map c_GNode)), ⟨[(.tmp 11, (.acc 0 141 4 ((y3 : List GNode).map c_GNode))), (.tmp 33, (.dat 4 (([x9] : List GNode).map c_GNode)))], [(0, .tok), (1, .unused)], (.acc 1 141 4 ((y3 ++ ([x9]) : List GNode).map c_GNode)), [(0, .dead), (1, .tok)], false⟩, mv 34 (.acc 1 141 4 ((y3 ++ ([x9]) : List GNode).map c_GNode))] ?_ ?_
      · exact ⟨astep_move rfl, astep_move rfl, astep_move rfl, astep_idxd rfl Try.underlying22 ti56 rfl rfl hi11 (map_get c_GNode hj12) rfl, astep_faddrd rfl Try.underlying56 rfl rfl ti3 (by decide) rfl, astep_loadd rfl ti3 (by decide) (nle rfl) rfl, astep_move rfl, astep_move rfl, astep_idxd rfl Try.underlying22 ti56 rfl rfl hi11 (map_get c_GNode hj12) rfl, astep_faddrd rfl Try.underlying56 rfl rfl ti3 (by decide) rfl, astep_loadd rfl ti3 (by decide) (nle rfl) rfl, astep_move rfl, astep_move rfl, astep_idxd rfl Try.underlying22 ti56 rfl rfl hi11 (map_get c_GNode hj12) rfl, astep_faddrd rfl Try.underlying56 rfl rfl ti3 (by decide) rfl, astep_loadd rfl ti3 (by decide) (nle rfl) rfl, astep_move rfl, astep_move rfl, astep_idxd rfl Try.underlying22 ti56 rfl rfl hi11 (map_get c_GNode hj12) rfl, astep_faddrd rfl Try.underlying56 rfl rfl ti3 (by decide) rfl, astep_loadd rfl ti3 (by decide) (nle rfl) rfl, astep_build (vs := [I x9.Parent, I x9.Loss, I x9.Limit, I x9.Rank]) rfl ts141 tz141 rfl (by rfl) rfl, astep_bslice (vs := [(.agg [I x9.Parent, I x9.Loss, I x9.Limit, I x9.Rank])]) rfl Try.underlying31 ti141 tz141 rfl (by decide) rfl (by decide) (by rfl) (by rfl) (by rfl) rfl, astep_app rfl Try.underlying31 te141 (Base.acc _ _) rfl rfl (by rfl) (app_le1 c_GNode ha13) (app_le2 c_GNode ha13 (by decide)) (app_map c_GNode) rfl rfl, astep_assign rfl, trivial⟩
      refine blockA_n ?_
      refine thenA_n ?_
      refine awp_reg1 [mv 4 (I y4), rp [(.tmp 9, I y4), ci 1] (I (w64 (y4 + 1))), mv 10 (I (w64 (y4 + 1)))] ?_ ?_
      · exact ⟨astep_move rfl, astep_bin rfl rfl, astep_assign rfl, trivial⟩
      refine thenA_n ?_
      exact around_mor (mor_to (n := 36) [(0, (.dat 4 ((p0 : List GNode).map c_GNode))), (3, (.acc 1 141 4 ((y3 ++ ([x9]) : List GNode).map c_GNode))), (4, (I (w64 (y4 + 1))))] [1] [.tok] hφ0 (pc (.rn (.plain _ (nl_dat nl_GNode _))) (pc (.rn (rnq_acc rfl (nl_rows nl_GNode _))) (pc rwl pn))) (qc .tok qn)) (ih (y3 ++ ([x9]), w64 (y4 + 1)) h)
    · replace h := bif_f hc8 h
      refine awp_ifn hc8 (by kernel_rfl) ?_
      refine awp_exit ?_
      refine thenA_x ?_
      refine thenA_x ?_
      refine blockA_e rfl ?_
      refine thenA_n ?_
      exact ⟨(y3), h, (mor_to (n := 36) [(3, (.acc 0 141 4 ((y3 : List GNode).map c_GNode)))] [0] [.tok] hφ0 (pc (.rn (rnq_acc rfl (nl_rows nl_GNode _))) pn) (qc .tok qn))⟩

def law10_listX (_N : Nat) (p0 : (List Int)) : Option (List Int) :=
  chk (decide ((([] : List Int).length + p0.length) * 8 ≤ 140737488355328)) <|
  some (([] : List Int) ++ p0)
set_option maxRecDepth 100000 in
set_option maxHeartbeats 4000000 in
theorem law10_listX_ok (N : Nat) (p0 : (List Int)) (r : (List Int)) (h : law10_listX N p0 = some r) : Spec Try.prog 24 [(.dat 1 (p0.map c_i64))] [] (.dat 1 (r.map c_i64)) [] := by
  refine spec_of_awp Try.func24 rfl 0 (nle rfl) (fun X φ0 w0 hφ0 => ?_)
  unfold law10_listX at h
  refine awp_reg [mc (.slice none 0 0)] ?_ ?_
  · exact ⟨astep_assign rfl, trivial⟩
  obtain ⟨ha1, h⟩ := chk_out h
  refine awp_reg [⟨[], [(0, .unused)], (.acc 0 3 1 ((([] : List Int) : List Int).map c_i64)), [(0, .tok)], false⟩, mv 0 (.dat 1 ((p0 : List Int).map c_i64)), ⟨[(.tmp 3, (.acc 0 3 1 ((([] : List Int) : List Int).map c_i64))), (.tmp 4, (.dat 1 ((p0 : List Int).map c_i64)))], [(0, .tok), (1, .unused)], (.acc 1 3 1 ((([] : List Int) ++ p0 : List Int).map c_i64)), [(0, .dead), (1, .tok)], false⟩, mv 5 (.acc 1 3 1 ((([] : List Int) ++ p0 : List Int).map c_i64))] ?_ ?_
  · exact ⟨astep_bslice0 rfl Try.underlying23 ti3 tz3, astep_move rfl, astep_app rfl Try.underlying23 te3 (Base.acc _ _) rfl rfl (ones_map c_i64 one_i64 _) (app_le1 c_i64 ha1) (app_le2 c_i64 ha1 (by decide)) (app_map c_i64) rfl rfl, astep_assign rfl, trivial⟩
  refine awp_ret ?_
  obtain rfl := osi h
  exact ⟨⟨[(.dat 1 ((([] : List Int) ++ p0 : List Int).map c_i64))], ⟨resOK_less (v := (.acc 1 3 1 ((([] : List Int) ++ p0 : List Int).map c_i64))) (resOK_tmp (by kernel_rfl)) Less.acc, trivial⟩, rfl⟩, (nl_dat nl_i64 _), Nat.le_refl _, fun n hn => absurd hn (Nat.not_lt_zero n)⟩

def law10_fewX (_N : Nat) (p0 : (List GNode)) (p1 : (List Int)) : Option Bool :=
  bif (decide ((p0.length : Int) ≤ 35)) then
    some (decide ((p1.length : Int) ≤ 35))
  else
    some false
set_option maxRecDepth 100000 in
set_option maxHeartbeats 4000000 in
theorem law10_fewX_ok (N : Nat) (p0 : (List GNode)) (p1 : (List Int)) (r : Bool) (h : law10_fewX N p0 p1 = some r) : Spec Try.prog 20 [(.dat 4 (p0.map c_GNode)), (.dat 1 (p1.map c_i64))] [] (B r) [] := by
  refine spec_of_awp Try.func20 rfl 0 (nle rfl) (fun X φ0 w0 hφ0 => ?_)
  unfold law10_fewX at h
  refine awp_reg [mc (.bool false)] ?_ ?_
  · exact ⟨astep_assign rfl, trivial⟩
  rcases bft ((decide ((p0.length : Int) ≤ 35))) with hb1 | hb1
  · replace h := bif_t hb1 h
    refine awp_reg [mv 0 (.dat 4 ((p0 : List GNode).map c_GNode)), rp [(.tmp 5, (.dat 4 ((p0 : List GNode).map c_GNode)))] (I ((p0.length : Int))), rp [(.tmp 6, (I ((p0.length : Int)))), ci 35] (B ((decide ((p0.length : Int) ≤ 35)))), rp [(.tmp 7, (B ((decide ((p0.length : Int) ≤ 35)))))] (B true), rp [(.tmp 8, B true), (.tmp 1, (.dat 1 ((p1 : List Int).map c_i64)))] (.dat 1 ((p1 : List Int).map c_i64)), rp [(.tmp 8, B true), (.tmp 9, (.dat 1 ((p1 : List Int).map c_i64)))] (I ((p1.length : Int))), rp [(.tmp 8, B true), (.tmp 10, (I ((p1.length : Int)))), ci 35] (B ((decide ((p1.length : Int) ≤ 35)))), rp [(.tmp 8, B true), (.tmp 11, (B ((decide ((p1.length : Int) ≤ 35))))), cb false] (B ((decide ((p1.length : Int) ≤ 35)))), mv 12 (B ((decide ((p1.length : Int) ≤ 35))))] ?_ ?_
    · exact ⟨astep_move rfl, astep_lenm (c := c_GNode) (l := p0) (astep_len rfl Try.underlying22 rfl), astep_bin rfl rfl, astep_b hb1 (astep_move rfl), astep_guard (astep_move rfl), astep_guard (astep_lenm (c := c_i64) (l := p1) (astep_len rfl Try.underlying23 rfl)), astep_guard (astep_bin rfl rfl), astep_pick rfl rfl, astep_assign rfl, trivial⟩
    refine awp_ret ?_
    obtain rfl := osi h
    exact ⟨⟨[(B ((decide ((p1.length : Int) ≤ 35))))], ⟨resOK_tmp (by kernel_rfl), trivial⟩, rfl⟩, nll, Nat.le_refl _, fun n hn => absurd hn (Nat.not_lt_zero n)⟩
  · replace h := bif_f hb1 h
    refine awp_reg [mv 0 (.dat 4 ((p0 : List GNode).map c_GNode)), rp [(.tmp 5, (.dat 4 ((p0 : List GNode).map c_GNode)))] (I ((p0.length : Int))), rp [(.tmp 6, (I ((p0.length : Int)))), ci 35] (B ((decide ((p0.length : Int) ≤ 35)))), rp [(.tmp 7, (B ((decide ((p0.length : Int) ≤ 35)))))] (B false), sk 8 (B false), sk 8 (B false), sk 8 (B false), rp [(.tmp 8, B false), (.tmp 11, (.lit undef)), cb false] (B false), mv 12 (B false)] ?_ ?_
    · exact ⟨astep_move rfl, astep_lenm (c := c_GNode) (l := p0) (astep_len rfl Try.underlying22 rfl), astep_bin rfl rfl, astep_b hb1 (astep_move rfl), trivial, trivial, trivial, astep_pick rfl rfl, astep_assign rfl, trivial⟩
    refine awp_ret ?_
    obtain rfl := osi h
    exact ⟨⟨[B false], ⟨resOK_tmp (by kernel_rfl), trivial⟩, rfl⟩, nll, Nat.le_refl _, fun n hn => absurd hn (Nat.not_lt_zero n)⟩

end Go.Proofs.Ytgdepcgbjjgnfaa
