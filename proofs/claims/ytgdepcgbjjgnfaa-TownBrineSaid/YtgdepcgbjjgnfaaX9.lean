/-
  Functions of the program: what they compute, as plain functions, and that they do. No conditions.
-/
import Derived.Test.YtgdepcgbjjgnfaaX5
namespace Go.Proofs.Ytgdepcgbjjgnfaa
open Go.RowKit

def steam_withinX (_N : Nat) (p0 : Int) (p1 : Int) (p2 : Int) : Option Bool :=
  bif (decide (p1 ≤ p0)) then
    some (decide (p0 ≤ p2))
  else
    some false
set_option maxRecDepth 100000 in
set_option maxHeartbeats 4000000 in
theorem steam_withinX_ok (N : Nat) (p0 : Int) (p1 : Int) (p2 : Int) (r : Bool) (h : steam_withinX N p0 p1 p2 = some r) : Spec Try.prog 104 [(I p0), (I p1), (I p2)] [] (B r) [] := by
  refine spec_of_awp Try.func104 rfl 0 (nle rfl) (fun X φ0 w0 hφ0 => ?_)
  unfold steam_withinX at h
  refine awp_reg [mc (.bool false)] ?_ ?_
  · exact ⟨astep_assign rfl, trivial⟩
  rcases bft ((decide (p1 ≤ p0))) with hb1 | hb1
  · replace h := bif_t hb1 h
    refine awp_reg [mv 1 (I p1), mv 0 (I p0), rp [(.tmp 7, I p1), (.tmp 8, I p0)] (B ((decide (p1 ≤ p0)))), rp [(.tmp 9, (B ((decide (p1 ≤ p0)))))] (B true), rp [(.tmp 10, B true), (.tmp 0, I p0)] (I p0), rp [(.tmp 10, B true), (.tmp 2, I p2)] (I p2), rp [(.tmp 10, B true), (.tmp 11, I p0), (.tmp 12, I p2)] (B ((decide (p0 ≤ p2)))), rp [(.tmp 10, B true), (.tmp 13, (B ((decide (p0 ≤ p2))))), cb false] (B ((decide (p0 ≤ p2)))), mv 14 (B ((decide (p0 ≤ p2))))] ?_ ?_
    · exact ⟨astep_move rfl, astep_move rfl, astep_bin rfl rfl, astep_b hb1 (astep_move rfl), astep_guard (astep_move rfl), astep_guard (astep_move rfl), astep_guard (astep_bin rfl rfl), astep_pick rfl rfl, astep_assign rfl, trivial⟩
    refine awp_ret ?_
    obtain rfl := osi h
    exact ⟨⟨[(B ((decide (p0 ≤ p2))))], ⟨resOK_tmp (by kernel_rfl), trivial⟩, rfl⟩, nll, Nat.le_refl _, fun n hn => absurd hn (Nat.not_lt_zero n)⟩
  · replace h := bif_f hb1 h
    refine awp_reg [mv 1 (I p1), mv 0 (I p0), rp [(.tmp 7, I p1), (.tmp 8, I p0)] (B ((decide (p1 ≤ p0)))), rp [(.tmp 9, (B ((decide (p1 ≤ p0)))))] (B false), sk 10 (B false), sk 10 (B false), sk 10 (B false), rp [(.tmp 10, B false), (.tmp 13, (.lit undef)), cb false] (B false), mv 14 (B false)] ?_ ?_
    · exact ⟨astep_move rfl, astep_move rfl, astep_bin rfl rfl, astep_b hb1 (astep_move rfl), trivial, trivial, trivial, astep_pick rfl rfl, astep_assign rfl, trivial⟩
    refine awp_ret ?_
    obtain rfl := osi h
    exact ⟨⟨[B false], ⟨resOK_tmp (by kernel_rfl), trivial⟩, rfl⟩, nll, Nat.le_refl _, fun n hn => absurd hn (Nat.not_lt_zero n)⟩

def steam_Stream_validX (N : Nat) (p0 : GStream) : Option Bool :=
  (steam_withinX N p0.Mass 0 1000000).bind fun x2 =>
  bif x2 then
    (steam_withinX N p0.Heat 0 (w64 (4000 * p0.Mass))).bind fun x5 =>
    bif x5 then
      (steam_withinX N p0.Silica 0 (w64 (10000 * p0.Mass))).bind fun x8 =>
      bif x8 then
        (steam_withinX N p0.Gas 0 1000000000).bind fun x11 =>
        some x11
      else
        some false
    else
      some false
  else
    some false
set_option maxRecDepth 100000 in
set_option maxHeartbeats 4000000 in
theorem steam_Stream_validX_ok (N : Nat) (p0 : GStream) (r : Bool) (h : steam_Stream_validX N p0 = some r) : Spec Try.prog 83 [(.agg (c_GStream p0))] [] (B r) [] := by
  refine spec_of_awp Try.func83 rfl 0 (nle rfl) (fun X φ0 w0 hφ0 => ?_)
  unfold steam_Stream_validX at h
  refine awp_reg [⟨[(.tmp 0, (.agg [I p0.Mass, I p0.Heat, I p0.Silica, I p0.Gas]))], [(0, .unused)], .ref 0 4 0 0, [(0, .own 4 [[I p0.Mass, I p0.Heat, I p0.Silica, I p0.Gas]])], false⟩, mc (.bool false)] ?_ ?_
  · exact ⟨astep_box rfl (by rfl) rfl rfl, astep_assign rfl, trivial⟩
  obtain ⟨x2, hf1, h⟩ := bind_out h
  rcases bft (x2) with hb3 | hb3
  · replace h := bif_t hb3 h
    obtain ⟨x5, hf4, h⟩ := bind_out h
    rcases bft (x5) with hb6 | hb6
    · replace h := bif_t hb6 h
      obtain ⟨x8, hf7, h⟩ := bind_out h
      rcases bft (x8) with hb9 | hb9
      · replace h := bif_t hb9 h
        obtain ⟨x11, hf10, h⟩ := bind_out h
        refine awp_reg [rb [(.tmp 1, .ref 0 4 0 0)] [(0, .own 4 [[I p0.Mass, I p0.Heat, I p0.Silica, I p0.Gas]])] (.ref 0 4 0 0), rb [(.tmp 3, .ref 0 4 0 0)] [(0, .own 4 [[I p0.Mass, I p0.Heat, I p0.Silica, I p0.Gas]])] (I p0.Mass), rp [fu 104, (.tmp 4, I p0.Mass), ci 0, ci 1000000] (B x2), rp [(.tmp 5, B x2)] (B true), rb [(.tmp 6, B true), (.tmp 1, .ref 0 4 0 0)] [(0, .own 4 [[I p0.Mass, I p0.Heat, I p0.Silica, I p0.Gas]])] (.ref 0 4 0 1), rb [(.tmp 6, B true), (.tmp 7, .ref 0 4 0 1)] [(0, .own 4 [[I p0.Mass, I p0.Heat, I p0.Silica, I p0.Gas]])] (I p0.Heat), rb [(.tmp 6, B true), (.tmp 1, .ref 0 4 0 0)] [(0, .own 4 [[I p0.Mass, I p0.Heat, I p0.Silica, I p0.Gas]])] (.ref 0 4 0 0), rb [(.tmp 6, B true), (.tmp 9, .ref 0 4 0 0)] [(0, .own 4 [[I p0.Mass, I p0.Heat, I p0.Silica, I p0.Gas]])] (I p0.Mass), rp [(.tmp 6, B true), ci 4000, (.tmp 10, I p0.Mass)] (I (w64 (4000 * p0.Mass))), rp [(.tmp 6, B true), fu 104, (.tmp 8, I p0.Heat), ci 0, (.tmp 11, (I (w64 (4000 * p0.Mass))))] (B x5), rp [(.tmp 6, B true), (.tmp 12, B x5), cb false] (B x5), rp [(.tmp 13, B x5)] (B true), rb [(.tmp 14, B true), (.tmp 1, .ref 0 4 0 0)] [(0, .own 4 [[I p0.Mass, I p0.Heat, I p0.Silica, I p0.Gas]])] (.ref 0 4 0 2), rb [(.tmp 14, B true), (.tmp 15, .ref 0 4 0 2)] [(0, .own 4 [[I p0.Mass, I p0.Heat, I p0.Silica, I p0.Gas]])] (I p0.Silica), rb [(.tmp 14, B true), (.tmp 1, .ref 0 4 0 0)] [(0, .own 4 [[I p0.Mass, I p0.Heat, I p0.Silica, I p0.Gas]])] (.ref 0 4 0 0), rb [(.tmp 14, B true), (.tmp 17, .ref 0 4 0 0)] [(0, .own 4 [[I p0.Mass, I p0.Heat, I p0.Silica, I p0.Gas]])] (I p0.Mass), rp [(.tmp 14, B true), ci 10000, (.tmp 18, I p0.Mass)] (I (w64 (10000 * p0.Mass))), rp [(.tmp 14, B true), fu 104, (.tmp 16, I p0.Silica), ci 0, (.tmp 19, (I (w64 (10000 * p0.Mass))))] (B x8), rp [(.tmp 14, B true), (.tmp 20, B x8), cb false] (B x8), rp [(.tmp 21, B x8)] (B true), rb [(.tmp 22, B true), (.tmp 1, .ref 0 4 0 0)] [(0, .own 4 [[I p0.Mass, I p0.Heat, I p0.Silica, I p0.Gas]])] (.ref 0 4 0 3), rb [(.tmp 22, B true), (.tmp 23, .ref 0 4 0 3)] [(0, .own 4 [[I p0.Mass, I p0.Heat, I p0.Silica, I p0.Gas]])] (I p0.Gas), rp [(.tmp 22, B true), fu 104, (.tmp 24, I p0.Gas), ci 0, ci 1000000000] (B x11), rp [(.tmp 22, B true), (.tmp 25, B x11), cb false] (B x11), mv 26 (B x11)] ?_ ?_
        · exact ⟨astep_faddr rfl Try.underlying73 rfl rfl ti3 (by decide) rfl, astep_load rfl ti3 (by decide) rfl (nle rfl) rfl, astep_pcall (first := []) (cap := []) (vs := [I p0.Mass, I 0, I 1000000]) rfl enter104 (steam_withinX_ok N p0.Mass 0 1000000 _ hf1) rfl rfl (nl_cons nll (nl_cons nll (nl_cons nll nl_nil))) nll rfl, astep_b hb3 (astep_move rfl), astep_guard (astep_faddr rfl Try.underlying73 rfl rfl ti3 (by decide) rfl), astep_guard (astep_load rfl ti3 (by decide) rfl (nle rfl) rfl), astep_guard (astep_faddr rfl Try.underlying73 rfl rfl ti3 (by decide) rfl), astep_guard (astep_load rfl ti3 (by decide) rfl (nle rfl) rfl), astep_guard (astep_bin rfl rfl), astep_guard (astep_pcall (first := []) (cap := []) (vs := [I p0.Heat, I 0, (I (w64 (4000 * p0.Mass)))]) rfl enter104 (steam_withinX_ok N p0.Heat 0 (w64 (4000 * p0.Mass)) _ hf4) rfl rfl (nl_cons nll (nl_cons nll (nl_cons nll nl_nil))) nll rfl), astep_pick rfl rfl, astep_b hb6 (astep_move rfl), astep_guard (astep_faddr rfl Try.underlying73 rfl rfl ti3 (by decide) rfl), astep_guard (astep_load rfl ti3 (by decide) rfl (nle rfl) rfl), astep_guard (astep_faddr rfl Try.underlying73 rfl rfl ti3 (by decide) rfl), astep_guard (astep_load rfl ti3 (by decide) rfl (nle rfl) rfl), astep_guard (astep_bin rfl rfl), astep_guard (astep_pcall (first := []) (cap := []) (vs := [I p0.Silica, I 0, (I (w64 (10000 * p0.Mass)))]) rfl enter104 (steam_withinX_ok N p0.Silica 0 (w64 (10000 * p0.Mass)) _ hf7) rfl rfl (nl_cons nll (nl_cons nll (nl_cons nll nl_nil))) nll rfl), astep_pick rfl rfl, astep_b hb9 (astep_move rfl), astep_guard (astep_faddr rfl Try.underlying73 rfl rfl ti3 (by decide) rfl), astep_guard (astep_load rfl ti3 (by decide) rfl (nle rfl) rfl), astep_guard (astep_pcall (first := []) (cap := []) (vs := [I p0.Gas, I 0, I 1000000000]) rfl enter104 (steam_withinX_ok N p0.Gas 0 1000000000 _ hf10) rfl rfl (nl_cons nll (nl_cons nll (nl_cons nll nl_nil))) nll rfl), astep_pick rfl rfl, astep_assign rfl, trivial⟩
        refine awp_ret ?_
        obtain rfl := osi h
        exact ⟨⟨[B x11], ⟨resOK_tmp (by kernel_rfl), trivial⟩, rfl⟩, nll, Nat.le_refl _, fun n hn => absurd hn (Nat.not_lt_zero n)⟩
      · replace h := bif_f hb9 h
        refine awp_reg [rb [(.tmp 1, .ref 0 4 0 0)] [(0, .own 4 [[I p0.Mass, I p0.Heat, I p0.Silica, I p0.Gas]])] (.ref 0 4 0 0), rb [(.tmp 3, .ref 0 4 0 0)] [(0, .own 4 [[I p0.Mass, I p0.Heat, I p0.Silica, I p0.Gas]])] (I p0.Mass), rp [fu 104, (.tmp 4, I p0.Mass), ci 0, ci 1000000] (B x2), rp [(.tmp 5, B x2)] (B true), rb [(.tmp 6, B true), (.tmp 1, .ref 0 4 0 0)] [(0, .own 4 [[I p0.Mass, I p0.Heat, I p0.Silica, I p0.Gas]])] (.ref 0 4 0 1), rb [(.tmp 6, B true), (.tmp 7, .ref 0 4 0 1)] [(0, .own 4 [[I p0.Mass, I p0.Heat, I p0.Silica, I p0.Gas]])] (I p0.Heat), rb [(.tmp 6, B true), (.tmp 1, .ref 0 4 0 0)] [(0, .own 4 [[I p0.Mass, I p0.Heat, I p0.Silica, I p0.Gas]])] (.ref 0 4 0 0), rb [(.tmp 6, B true), (.tmp 9, .ref 0 4 0 0)] [(0, .own 4 [[I p0.Mass, I p0.Heat, I p0.Silica, I p0.Gas]])] (I p0.Mass), rp [(.tmp 6, B true), ci 4000, (.tmp 10, I p0.Mass)] (I (w64 (4000 * p0.Mass))), rp [(.tmp 6, B true), fu 104, (.tmp 8, I p0.Heat), ci 0, (.tmp 11, (I (w64 (4000 * p0.Mass))))] (B x5), rp [(.tmp 6, B true), (.tmp 12, B x5), cb false] (B x5), rp [(.tmp 13, B x5)] (B true), rb [(.tmp 14, B true), (.tmp 1, .ref 0 4 0 0)] [(0, .own 4 [[I p0.Mass, I p0.Heat, I p0.Silica, I p0.Gas]])] (.ref 0 4 0 2), rb [(.tmp 14, B true), (.tmp 15, .ref 0 4 0 2)] [(0, .own 4 [[I p0.Mass, I p0.Heat, I p0.Silica, I p0.Gas]])] (I p0.Silica), rb [(.tmp 14, B true), (.tmp 1, .ref 0 4 0 0)] [(0, .own 4 [[I p0.Mass, I p0.Heat, I p0.Silica, I p0.Gas]])] (.ref 0 4 0 0), rb [(.tmp 14, B true), (.tmp 17, .ref 0 4 0 0)] [(0, .own 4 [[I p0.Mass, I p0.Heat, I p0.Silica, I p0.Gas]])] (I p0.Mass), rp [(.tmp 14, B true), ci 10000, (.tmp 18, I p0.Mass)] (I (w64 (10000 * p0.Mass))), rp [(.tmp 14, B true), fu 104, (.tmp 16, I p0.Silica), ci 0, (.tmp 19, (I (w64 (10000 * p0.Mass))))] (B x8), rp [(.tmp 14, B true), (.tmp 20, B x8), cb false] (B x8), rp [(.tmp 21, B x8)] (B false), sk 22 (B false), sk 22 (B false), sk 22 (B false), rp [(.tmp 22, B false), (.tmp 25, (.lit undef)), cb false] (B false), mv 26 (B false)] ?_ ?_
        · exact ⟨astep_faddr rfl Try.underlying73 rfl rfl ti3 (by decide) rfl, astep_load rfl ti3 (by decide) rfl (nle rfl) rfl, astep_pcall (first := []) (cap := []) (vs := [I p0.Mass, I 0, I 1000000]) rfl enter104 (steam_withinX_ok N p0.Mass 0 1000000 _ hf1) rfl rfl (nl_cons nll (nl_cons nll (nl_cons nll nl_nil))) nll rfl, astep_b hb3 (astep_move rfl), astep_guard (astep_faddr rfl Try.underlying73 rfl rfl ti3 (by decide) rfl), astep_guard (astep_load rfl ti3 (by decide) rfl (nle rfl) rfl), astep_guard (astep_faddr rfl Try.underlying73 rfl rfl ti3 (by decide) rfl), astep_guard (astep_load rfl ti3 (by decide) rfl (nle rfl) rfl), astep_guard (astep_bin rfl rfl), astep_guard (astep_pcall (first := []) (cap := []) (vs := [I p0.Heat, I 0, (I (w64 (4000 * p0.Mass)))]) rfl enter104 (steam_withinX_ok N p0.Heat 0 (w64 (4000 * p0.Mass)) _ hf4) rfl rfl (nl_cons nll (nl_cons nll (nl_cons nll nl_nil))) nll rfl), astep_pick rfl rfl, astep_b hb6 (astep_move rfl), astep_guard (astep_faddr rfl Try.underlying73 rfl rfl ti3 (by decide) rfl), astep_guard (astep_load rfl ti3 (by decide) rfl (nle rfl) rfl), astep_guard (astep_faddr rfl Try.underlying73 rfl rfl ti3 (by decide) rfl), astep_guard (astep_load rfl ti3 (by decide) rfl (nle rfl) rfl), astep_guard (astep_bin rfl rfl), astep_guard (astep_pcall (first := []) (cap := []) (vs := [I p0.Silica, I 0, (I (w64 (10000 * p0.Mass)))]) rfl enter104 (steam_withinX_ok N p0.Silica 0 (w64 (10000 * p0.Mass)) _ hf7) rfl rfl (nl_cons nll (nl_cons nll (nl_cons nll nl_nil))) nll rfl), astep_pick rfl rfl, astep_b hb9 (astep_move rfl), trivial, trivial, trivial, astep_pick rfl rfl, astep_assign rfl, trivial⟩
        refine awp_ret ?_
        obtain rfl := osi h
        exact ⟨⟨[B false], ⟨resOK_tmp (by kernel_rfl), trivial⟩, rfl⟩, nll, Nat.le_refl _, fun n hn => absurd hn (Nat.not_lt_zero n)⟩
    · replace h := bif_f hb6 h
      refine awp_reg [rb [(.tmp 1, .ref 0 4 0 0)] [(0, .own 4 [[I p0.Mass, I p0.Heat, I p0.Silica, I p0.Gas]])] (.ref 0 4 0 0), rb [(.tmp 3, .ref 0 4 0 0)] [(0, .own 4 [[I p0.Mass, I p0.Heat, I p0.Silica, I p0.Gas]])] (I p0.Mass), rp [fu 104, (.tmp 4, I p0.Mass), ci 0, ci 1000000] (B x2), rp [(.tmp 5, B x2)] (B true), rb [(.tmp 6, B true), (.tmp 1, .ref 0 4 0 0)] [(0, .own 4 [[I p0.Mass, I p0.Heat, I p0.Silica, I p0.Gas]])] (.ref 0 4 0 1), rb [(.tmp 6, B true), (.tmp 7, .ref 0 4 0 1)] [(0, .own 4 [[I p0.Mass, I p0.Heat, I p0.Silica, I p0.Gas]])] (I p0.Heat), rb [(.tmp 6, B true), (.tmp 1, .ref 0 4 0 0)] [(0, .own 4 [[I p0.Mass, I p0.Heat, I p0.Silica, I p0.Gas]])] (.ref 0 4 0 0), rb [(.tmp 6, B true), (.tmp 9, .ref 0 4 0 0)] [(0, .own 4 [[I p0.Mass, I p0.Heat, I p0.Silica, I p0.Gas]])] (I p0.Mass), rp [(.tmp 6, B true), ci 4000, (.tmp 10, I p0.Mass)] (I (w64 (4000 * p0.Mass))), rp [(.tmp 6, B true), fu 104, (.tmp 8, I p0.Heat), ci 0, (.tmp 11, (I (w64 (4000 * p0.Mass))))] (B x5), rp [(.tmp 6, B true), (.tmp 12, B x5), cb false] (B x5), rp [(.tmp 13, B x5)] (B false), sk 14 (B false), sk 14 (B false), sk 14 (B false), sk 14 (B false), sk 14 (B false), sk 14 (B false), rp [(.tmp 14, B false), (.tmp 20, (.lit undef)), cb false] (B false), mv 21 (B false), sk 22 (B false), sk 22 (B false), sk 22 (B false), rp [(.tmp 22, B false), (.tmp 25, (.lit undef)), cb false] (B false), mv 26 (B false)] ?_ ?_
      · exact ⟨astep_faddr rfl Try.underlying73 rfl rfl ti3 (by decide) rfl, astep_load rfl ti3 (by decide) rfl (nle rfl) rfl, astep_pcall (first := []) (cap := []) (vs := [I p0.Mass, I 0, I 1000000]) rfl enter104 (steam_withinX_ok N p0.Mass 0 1000000 _ hf1) rfl rfl (nl_cons nll (nl_cons nll (nl_cons nll nl_nil))) nll rfl, astep_b hb3 (astep_move rfl), astep_guard (astep_faddr rfl Try.underlying73 rfl rfl ti3 (by decide) rfl), astep_guard (astep_load rfl ti3 (by decide) rfl (nle rfl) rfl), astep_guard (astep_faddr rfl Try.underlying73 rfl rfl ti3 (by decide) rfl), astep_guard (astep_load rfl ti3 (by decide) rfl (nle rfl) rfl), astep_guard (astep_bin rfl rfl), astep_guard (astep_pcall (first := []) (cap := []) (vs := [I p0.Heat, I 0, (I (w64 (4000 * p0.Mass)))]) rfl enter104 (steam_withinX_ok N p0.Heat 0 (w64 (4000 * p0.Mass)) _ hf4) rfl rfl (nl_cons nll (nl_cons nll (nl_cons nll nl_nil))) nll rfl), astep_pick rfl rfl, astep_b hb6 (astep_move rfl), trivial, trivial, trivial, trivial, trivial, trivial, astep_pick rfl rfl, astep_move rfl, trivial, trivial, trivial, astep_pick rfl rfl, astep_assign rfl, trivial⟩
      refine awp_ret ?_
      obtain rfl := osi h
      exact ⟨⟨[B false], ⟨resOK_tmp (by kernel_rfl), trivial⟩, rfl⟩, nll, Nat.le_refl _, fun n hn => absurd hn (Nat.not_lt_zero n)⟩
  · replace h := bif_f hb3 h
    refine awp_reg [rb [(.tmp 1, .ref 0 4 0 0)] [(0, .own 4 [[I p0.Mass, I p0.Heat, I p0.Silica, I p0.Gas]])] (.ref 0 4 0 0), rb [(.tmp 3, .ref 0 4 0 0)] [(0, .own 4 [[I p0.Mass, I p0.Heat, I p0.Silica, I p0.Gas]])] (I p0.Mass), rp [fu 104, (.tmp 4, I p0.Mass), ci 0, ci 1000000] (B x2), rp [(.tmp 5, B x2)] (B false), sk 6 (B false), sk 6 (B false), sk 6 (B false), sk 6 (B false), sk 6 (B false), sk 6 (B false), rp [(.tmp 6, B false), (.tmp 12, (.lit undef)), cb false] (B false), mv 13 (B false), sk 14 (B false), sk 14 (B false), sk 14 (B false), sk 14 (B false), sk 14 (B false), sk 14 (B false), rp [(.tmp 14, B false), (.tmp 20, (.lit undef)), cb false] (B false), mv 21 (B false), sk 22 (B false), sk 22 (B false), sk 22 (B false), rp [(.tmp 22, B false), (.tmp 25, (.lit undef)), cb false] (B false), mv 26 (B false)] ?_ ?_
    · exact ⟨astep_faddr rfl Try.underlying73 rfl rfl ti3 (by decide) rfl, astep_load rfl ti3 (by decide) rfl (nle rfl) rfl, astep_pcall (first := []) (cap := []) (vs := [I p0.Mass, I 0, I 1000000]) rfl enter104 (steam_withinX_ok N p0.Mass 0 1000000 _ hf1) rfl rfl (nl_cons nll (nl_cons nll (nl_cons nll nl_nil))) nll rfl, astep_b hb3 (astep_move rfl), trivial, trivial, trivial, trivial, trivial, trivial, astep_pick rfl rfl, astep_move rfl, trivial, trivial, trivial, trivial, trivial, trivial, astep_pick rfl rfl, astep_move rfl, trivial, trivial, trivial, astep_pick rfl rfl, astep_assign rfl, trivial⟩
    refine awp_ret ?_
    obtain rfl := osi h
    exact ⟨⟨[B false], ⟨resOK_tmp (by kernel_rfl), trivial⟩, rfl⟩, nll, Nat.le_refl _, fun n hn => absurd hn (Nat.not_lt_zero n)⟩

def steam_CheckStreamX (N : Nat) (p0 : GStream) : Option Int :=
  (steam_Stream_validX N p0).bind fun x2 =>
  bif (!x2) then
    some 1
  else
    some 0
set_option maxRecDepth 100000 in
set_option maxHeartbeats 4000000 in
theorem steam_CheckStreamX_ok (N : Nat) (p0 : GStream) (r : Int) (h : steam_CheckStreamX N p0 = some r) : Spec Try.prog 46 [(.agg (c_GStream p0))] [] (I r) [] := by
  refine spec_of_awp Try.func46 rfl 0 (nle rfl) (fun X φ0 w0 hφ0 => ?_)
  unfold steam_CheckStreamX at h
  refine awp_reg [⟨[(.tmp 0, (.agg [I p0.Mass, I p0.Heat, I p0.Silica, I p0.Gas]))], [(0, .unused)], .ref 0 4 0 0, [(0, .own 4 [[I p0.Mass, I p0.Heat, I p0.Silica, I p0.Gas]])], false⟩, mc (.int .i64 0)] ?_ ?_
  · exact ⟨astep_box rfl (by rfl) rfl rfl, astep_assign rfl, trivial⟩
  refine awp_seq ?_
  obtain ⟨x2, hf1, h⟩ := bind_out h
  refine awp_reg [rb [(.tmp 1, .ref 0 4 0 0)] [(0, .own 4 [[I p0.Mass, I p0.Heat, I p0.Silica, I p0.Gas]])] (.agg [I p0.Mass, I p0.Heat, I p0.Silica, I p0.Gas]), rp [fu 83, (.tmp 3, (.agg [I p0.Mass, I p0.Heat, I p0.Silica, I p0.Gas]))] (B x2), rp [(.tmp 4, B x2)] (B ((!x2)))] ?_ ?_
  · exact ⟨astep_load rfl ti73 (by decide) rfl (nle rfl) rfl, astep_pcall (first := []) (cap := []) (vs := [(.agg [I p0.Mass, I p0.Heat, I p0.Silica, I p0.Gas])]) rfl enter83 (steam_Stream_validX_ok N p0 _ hf1) rfl rfl (nl_cons (NLt.agg _ (nl_cons nll (nl_cons nll (nl_cons nll (nl_cons nll nl_nil))))) nl_nil) nll rfl, astep_not rfl, trivial⟩
  rcases bft ((!x2)) with hc3 | hc3
  · replace h := bif_t hc3 h
    refine awp_ift hc3 (by kernel_rfl) ?_
    refine awp_reg [mc (.int .i64 1)] ?_ ?_
    · exact ⟨astep_assign rfl, trivial⟩
    refine awp_ret ?_
    refine thenA_r ?_
    obtain rfl := osi h
    exact ⟨⟨[I 1], ⟨resOK_tmp (by kernel_rfl), trivial⟩, rfl⟩, nll, Nat.le_refl _, fun n hn => absurd hn (Nat.not_lt_zero n)⟩
  · replace h := bif_f hc3 h
    refine awp_ifn hc3 (by kernel_rfl) ?_
    refine awp_skip ?_
    refine thenA_n ?_
    refine awp_reg [mc (.int .i64 0)] ?_ ?_
    · exact ⟨astep_assign rfl, trivial⟩
    refine awp_ret ?_
    obtain rfl := osi h
    exact ⟨⟨[I 0], ⟨resOK_tmp (by kernel_rfl), trivial⟩, rfl⟩, nll, Nat.le_refl _, fun n hn => absurd hn (Nat.not_lt_zero n)⟩

def steam_HeatedX (N : Nat) (p0 : GStream) (p1 : Int) : Option (GStream × Int) :=
  (steam_Stream_validX N p0).bind fun x2 =>
  bif (!x2) then
    some ((⟨0, 0, 0, 0⟩ : GStream), 1)
  else
    joinK (fun _ =>
        some ((⟨p0.Mass, w64 (p0.Heat + p1), p0.Silica, p0.Gas⟩ : GStream), 0)) fun k4 : Unit → Option (GStream × Int) =>
    bif (decide (p1 < (w64 (0 - p0.Heat)))) then
      some ((⟨0, 0, 0, 0⟩ : GStream), 2)
    else
      bif (decide (p1 > (w64 ((w64 (4000 * p0.Mass)) - p0.Heat)))) then
        some ((⟨0, 0, 0, 0⟩ : GStream), 2)
      else
        k4 ()
set_option maxRecDepth 100000 in
set_option maxHeartbeats 4000000 in
theorem steam_HeatedX_ok (N : Nat) (p0 : GStream) (p1 : Int) (r : (GStream × Int)) (h : steam_HeatedX N p0 p1 = some r) : Spec Try.prog 81 [(.agg (c_GStream p0)), (I p1)] [] (.tup [(.agg (c_GStream r.1)), (I r.2)]) [] := by
  refine spec_of_awp Try.func81 rfl 0 (nle rfl) (fun X φ0 w0 hφ0 => ?_)
  unfold steam_HeatedX at h
  refine awp_reg [⟨[(.tmp 0, (.agg [I p0.Mass, I p0.Heat, I p0.Silica, I p0.Gas]))], [(0, .unused)], .ref 0 4 0 0, [(0, .own 4 [[I p0.Mass, I p0.Heat, I p0.Silica, I p0.Gas]])], false⟩, ⟨[], [(1, .unused)], .ref 1 4 0 0, [(1, .own 4 [[I 0, I 0, I 0, I 0]])], false⟩, mc (.int .i64 0)] ?_ ?_
  · exact ⟨astep_box rfl (by rfl) rfl rfl, astep_alloc rfl tz73 rfl, astep_assign rfl, trivial⟩
  refine awp_seq ?_
  obtain ⟨x2, hf1, h⟩ := bind_out h
  refine awp_reg [rb [(.tmp 2, .ref 0 4 0 0)] [(0, .own 4 [[I p0.Mass, I p0.Heat, I p0.Silica, I p0.Gas]])] (.agg [I p0.Mass, I p0.Heat, I p0.Silica, I p0.Gas]), rp [fu 83, (.tmp 6, (.agg [I p0.Mass, I p0.Heat, I p0.Silica, I p0.Gas]))] (B x2), rp [(.tmp 7, B x2)] (B ((!x2)))] ?_ ?_
  · exact ⟨astep_load rfl ti73 (by decide) rfl (nle rfl) rfl, astep_pcall (first := []) (cap := []) (vs := [(.agg [I p0.Mass, I p0.Heat, I p0.Silica, I p0.Gas])]) rfl enter83 (steam_Stream_validX_ok N p0 _ hf1) rfl rfl (nl_cons (NLt.agg _ (nl_cons nll (nl_cons nll (nl_cons nll (nl_cons nll nl_nil))))) nl_nil) nll rfl, astep_not rfl, trivial⟩
  rcases bft ((!x2)) with hc3 | hc3
  · replace h := bif_t hc3 h
    refine awp_ift hc3 (by kernel_rfl) ?_
    refine awp_reg [rp [] (.agg [I 0, I 0, I 0, I 0]), ⟨[(.tmp 4, .ref 1 4 0 0), (.tmp 9, (.agg [I 0, I 0, I 0, I 0]))], [(1, .own 4 [[I 0, I 0, I 0, I 0]])], .any, [(1, .own 4 [[I 0, I 0, I 0, I 0]])], false⟩, mc (.int .i64 1)] ?_ ?_
    · exact ⟨astep_build (vs := []) rfl ts73 tz73 rfl (by rfl) rfl, astep_store rfl ti73 (by rfl) rfl (nle rfl) rfl, astep_assign rfl, trivial⟩
    refine awp_ret ?_
    refine thenA_r ?_
    obtain rfl := osi h
    exact ⟨⟨[(.agg [I 0, I 0, I 0, I 0]), I 1], ⟨resOK_cell (n := 1) (m := 4) (j := 0) (i := 0) (xs := [[I 0, I 0, I 0, I 0]]) (by kernel_rfl) (by kernel_rfl) ti73 (by decide) rfl (nle rfl) rfl, resOK_tmp (by kernel_rfl), trivial⟩, rfl⟩, (NLt.tup _ (nl_cons (NLt.agg _ (nl_cons nll (nl_cons nll (nl_cons nll (nl_cons nll nl_nil))))) (nl_cons nll nl_nil))), Nat.le_refl _, fun n hn => absurd hn (Nat.not_lt_zero n)⟩
  · replace h := bif_f hc3 h
    refine awp_ifn hc3 (by kernel_rfl) ?_
    refine awp_skip ?_
    refine thenA_n ?_
    obtain ⟨k4, hk_k4, h⟩ := joinK_out h
    refine awp_join (τ := Unit) (fun t => k4 t = some r) (fun _ => ⟨mk 32 [(1, I p1), (2, .ref 0 4 0 0), (4, .ref 1 4 0 0)], [(.own 4 [[I p0.Mass, I p0.Heat, I p0.Silica, I p0.Gas]]), (.own 4 [[I 0, I 0, I 0, I 0]])]⟩) (fun t h => ?_) ?_
    · subst hk_k4
      refine awp_reg [rb [(.tmp 2, .ref 0 4 0 0)] [(0, .own 4 [[I p0.Mass, I p0.Heat, I p0.Silica, I p0.Gas]])] (.ref 0 4 0 1), rb [(.tmp 26, .ref 0 4 0 1)] [(0, .own 4 [[I p0.Mass, I p0.Heat, I p0.Silica, I p0.Gas]])] (I p0.Heat), mv 1 (I p1), rp [(.tmp 27, I p0.Heat), (.tmp 28, I p1)] (I (w64 (p0.Heat + p1))), rb [(.tmp 2, .ref 0 4 0 0)] [(0, .own 4 [[I p0.Mass, I p0.Heat, I p0.Silica, I p0.Gas]])] (.ref 0 4 0 1), ⟨[(.tmp 30, .ref 0 4 0 1), (.tmp 29, (I (w64 (p0.Heat + p1))))], [(0, .own 4 [[I p0.Mass, I p0.Heat, I p0.Silica, I p0.Gas]])], .any, [(0, (.own 4 [[I p0.Mass, (I (w64 (p0.Heat + p1))), I p0.Silica, I p0.Gas]]))], false⟩] ?_ ?_
      · exact ⟨astep_faddr rfl Try.underlying73 rfl rfl ti3 (by decide) rfl, astep_load rfl ti3 (by decide) rfl (nle rfl) rfl, astep_move rfl, astep_bin rfl rfl, astep_faddr rfl Try.underlying73 rfl rfl ti3 (by decide) rfl, astep_store rfl ti3 (by rfl) rfl (nle rfl) rfl, trivial⟩
      refine awp_reg [rb [(.tmp 2, .ref 0 4 0 0)] [(0, (.own 4 [[I p0.Mass, (I (w64 (p0.Heat + p1))), I p0.Silica, I p0.Gas]]))] (.agg [I p0.Mass, (I (w64 (p0.Heat + p1))), I p0.Silica, I p0.Gas]), ⟨[(.tmp 4, .ref 1 4 0 0), (.tmp 31, (.agg [I p0.Mass, (I (w64 (p0.Heat + p1))), I p0.Silica, I p0.Gas]))], [(1, .own 4 [[I 0, I 0, I 0, I 0]])], .any, [(1, (.own 4 [[I p0.Mass, (I (w64 (p0.Heat + p1))), I p0.Silica, I p0.Gas]]))], false⟩, mc (.int .i64 0)] ?_ ?_
      · exact ⟨astep_load rfl ti73 (by decide) rfl (nle rfl) rfl, astep_store rfl ti73 (by rfl) rfl (nle rfl) rfl, astep_assign rfl, trivial⟩
      refine awp_ret ?_
      obtain rfl := osi h
      exact ⟨⟨[(.agg [I p0.Mass, (I (w64 (p0.Heat + p1))), I p0.Silica, I p0.Gas]), I 0], ⟨resOK_cell (n := 1) (m := 4) (j := 0) (i := 0) (xs := [[I p0.Mass, (I (w64 (p0.Heat + p1))), I p0.Silica, I p0.Gas]]) (by kernel_rfl) (by kernel_rfl) ti73 (by decide) rfl (nle rfl) rfl, resOK_tmp (by kernel_rfl), trivial⟩, rfl⟩, (NLt.tup _ (nl_cons (NLt.agg _ (nl_cons nll (nl_cons nll (nl_cons nll (nl_cons nll nl_nil))))) (nl_cons nll nl_nil))), Nat.le_refl _, fun n hn => absurd hn (Nat.not_lt_zero n)⟩
    · skip
      rcases bft ((decide (p1 < (w64 (0 - p0.Heat))))) with hb5 | hb5
      · replace h := bif_t hb5 h
        refine awp_reg [mv 1 (I p1), rb [(.tmp 2, .ref 0 4 0 0)] [(0, .own 4 [[I p0.Mass, I p0.Heat, I p0.Silica, I p0.Gas]])] (.ref 0 4 0 1), rb [(.tmp 11, .ref 0 4 0 1)] [(0, .own 4 [[I p0.Mass, I p0.Heat, I p0.Silica, I p0.Gas]])] (I p0.Heat), rp [(.tmp 12, I p0.Heat)] (I (w64 (0 - p0.Heat))), rp [(.tmp 10, I p1), (.tmp 13, (I (w64 (0 - p0.Heat))))] (B ((decide (p1 < (w64 (0 - p0.Heat)))))), rp [(.tmp 14, (B ((decide (p1 < (w64 (0 - p0.Heat)))))))] (B true), sk 15 (B true), sk 15 (B true), sk 15 (B true), sk 15 (B true), sk 15 (B true), sk 15 (B true), sk 15 (B true), sk 15 (B true), rp [(.tmp 15, B true), cb true, (.tmp 23, (.lit undef))] (B true)] ?_ ?_
        · exact ⟨astep_move rfl, astep_faddr rfl Try.underlying73 rfl rfl ti3 (by decide) rfl, astep_load rfl ti3 (by decide) rfl (nle rfl) rfl, astep_neg rfl, astep_bin rfl rfl, astep_b hb5 (astep_move rfl), trivial, trivial, trivial, trivial, trivial, trivial, trivial, trivial, astep_pick rfl rfl, trivial⟩
        refine awp_true (by kernel_rfl) ?_
        refine awp_reg [rp [] (.agg [I 0, I 0, I 0, I 0]), ⟨[(.tmp 4, .ref 1 4 0 0), (.tmp 25, (.agg [I 0, I 0, I 0, I 0]))], [(1, .own 4 [[I 0, I 0, I 0, I 0]])], .any, [(1, .own 4 [[I 0, I 0, I 0, I 0]])], false⟩, mc (.int .i64 2)] ?_ ?_
        · exact ⟨astep_build (vs := []) rfl ts73 tz73 rfl (by rfl) rfl, astep_store rfl ti73 (by rfl) rfl (nle rfl) rfl, astep_assign rfl, trivial⟩
        refine awp_ret ?_
        refine thenA_r ?_
        obtain rfl := osi h
        exact ⟨⟨[(.agg [I 0, I 0, I 0, I 0]), I 2], ⟨resOK_cell (n := 1) (m := 4) (j := 0) (i := 0) (xs := [[I 0, I 0, I 0, I 0]]) (by kernel_rfl) (by kernel_rfl) ti73 (by decide) rfl (nle rfl) rfl, resOK_tmp (by kernel_rfl), trivial⟩, rfl⟩, (NLt.tup _ (nl_cons (NLt.agg _ (nl_cons nll (nl_cons nll (nl_cons nll (nl_cons nll nl_nil))))) (nl_cons nll nl_nil))), Nat.le_refl _, fun n hn => absurd hn (Nat.not_lt_zero n)⟩
      · replace h := bif_f hb5 h
        refine awp_reg [mv 1 (I p1), rb [(.tmp 2, .ref 0 4 0 0)] [(0, .own 4 [[I p0.Mass, I p0.Heat, I p0.Silica, I p0.Gas]])] (.ref 0 4 0 1), rb [(.tmp 11, .ref 0 4 0 1)] [(0, .own 4 [[I p0.Mass, I p0.Heat, I p0.Silica, I p0.Gas]])] (I p0.Heat), rp [(.tmp 12, I p0.Heat)] (I (w64 (0 - p0.Heat))), rp [(.tmp 10, I p1), (.tmp 13, (I (w64 (0 - p0.Heat))))] (B ((decide (p1 < (w64 (0 - p0.Heat)))))), rp [(.tmp 14, (B ((decide (p1 < (w64 (0 - p0.Heat)))))))] (B false), rp [(.tmp 15, B false), (.tmp 1, I p1)] (I p1), rb [(.tmp 15, B false), (.tmp 2, .ref 0 4 0 0)] [(0, .own 4 [[I p0.Mass, I p0.Heat, I p0.Silica, I p0.Gas]])] (.ref 0 4 0 0), rb [(.tmp 15, B false), (.tmp 17, .ref 0 4 0 0)] [(0, .own 4 [[I p0.Mass, I p0.Heat, I p0.Silica, I p0.Gas]])] (I p0.Mass), rp [(.tmp 15, B false), ci 4000, (.tmp 18, I p0.Mass)] (I (w64 (4000 * p0.Mass))), rb [(.tmp 15, B false), (.tmp 2, .ref 0 4 0 0)] [(0, .own 4 [[I p0.Mass, I p0.Heat, I p0.Silica, I p0.Gas]])] (.ref 0 4 0 1), rb [(.tmp 15, B false), (.tmp 20, .ref 0 4 0 1)] [(0, .own 4 [[I p0.Mass, I p0.Heat, I p0.Silica, I p0.Gas]])] (I p0.Heat), rp [(.tmp 15, B false), (.tmp 19, (I (w64 (4000 * p0.Mass)))), (.tmp 21, I p0.Heat)] (I (w64 ((w64 (4000 * p0.Mass)) - p0.Heat))), rp [(.tmp 15, B false), (.tmp 16, I p1), (.tmp 22, (I (w64 ((w64 (4000 * p0.Mass)) - p0.Heat))))] (B ((decide (p1 > (w64 ((w64 (4000 * p0.Mass)) - p0.Heat)))))), rp [(.tmp 15, B false), cb true, (.tmp 23, (B ((decide (p1 > (w64 ((w64 (4000 * p0.Mass)) - p0.Heat)))))))] (B ((decide (p1 > (w64 ((w64 (4000 * p0.Mass)) - p0.Heat))))))] ?_ ?_
        · exact ⟨astep_move rfl, astep_faddr rfl Try.underlying73 rfl rfl ti3 (by decide) rfl, astep_load rfl ti3 (by decide) rfl (nle rfl) rfl, astep_neg rfl, astep_bin rfl rfl, astep_b hb5 (astep_move rfl), astep_guard (astep_move rfl), astep_guard (astep_faddr rfl Try.underlying73 rfl rfl ti3 (by decide) rfl), astep_guard (astep_load rfl ti3 (by decide) rfl (nle rfl) rfl), astep_guard (astep_bin rfl rfl), astep_guard (astep_faddr rfl Try.underlying73 rfl rfl ti3 (by decide) rfl), astep_guard (astep_load rfl ti3 (by decide) rfl (nle rfl) rfl), astep_guard (astep_bin rfl rfl), astep_guard (astep_bin rfl rfl), astep_pick rfl rfl, trivial⟩
        rcases bft ((decide (p1 > (w64 ((w64 (4000 * p0.Mass)) - p0.Heat))))) with hc6 | hc6
        · replace h := bif_t hc6 h
          refine awp_ift hc6 (by kernel_rfl) ?_
          refine awp_reg [rp [] (.agg [I 0, I 0, I 0, I 0]), ⟨[(.tmp 4, .ref 1 4 0 0), (.tmp 25, (.agg [I 0, I 0, I 0, I 0]))], [(1, .own 4 [[I 0, I 0, I 0, I 0]])], .any, [(1, .own 4 [[I 0, I 0, I 0, I 0]])], false⟩, mc (.int .i64 2)] ?_ ?_
          · exact ⟨astep_build (vs := []) rfl ts73 tz73 rfl (by rfl) rfl, astep_store rfl ti73 (by rfl) rfl (nle rfl) rfl, astep_assign rfl, trivial⟩
          refine awp_ret ?_
          refine thenA_r ?_
          obtain rfl := osi h
          exact ⟨⟨[(.agg [I 0, I 0, I 0, I 0]), I 2], ⟨resOK_cell (n := 1) (m := 4) (j := 0) (i := 0) (xs := [[I 0, I 0, I 0, I 0]]) (by kernel_rfl) (by kernel_rfl) ti73 (by decide) rfl (nle rfl) rfl, resOK_tmp (by kernel_rfl), trivial⟩, rfl⟩, (NLt.tup _ (nl_cons (NLt.agg _ (nl_cons nll (nl_cons nll (nl_cons nll (nl_cons nll nl_nil))))) (nl_cons nll nl_nil))), Nat.le_refl _, fun n hn => absurd hn (Nat.not_lt_zero n)⟩
        · replace h := bif_f hc6 h
          refine awp_ifn hc6 (by kernel_rfl) ?_
          refine awp_skip ?_
          refine thenA_n ?_
          exact ⟨(), h, (mor_to (n := 32) [(1, I p1), (2, .ref 0 4 0 0), (4, .ref 1 4 0 0)] [0, 1] [(.own 4 [[I p0.Mass, I p0.Heat, I p0.Silica, I p0.Gas]]), (.own 4 [[I 0, I 0, I 0, I 0]])] hφ0 (pc rwl (pc (.rn (rnq_ref rfl)) (pc (.rn (rnq_ref rfl)) pn))) (qc (spw_box (lc rwl (lc rwl (lc rwl (lc rwl ln))))) (qc (spw_box (lc rwl (lc rwl (lc rwl (lc rwl ln))))) qn)))⟩

def town_TakeX (N : Nat) (p0 : GBrine) (p1 : Int) : Option (GStream × Int × Int) :=
  joinK (fun _ =>
      (town_withinX N p1 0 100000000000).bind fun x3 =>
      bif (!x3) then
        some ((⟨0, 0, 0, 0⟩ : GStream), 0, 2)
      else
        (some (if (w64 (p0.Stream.Heat - (w64 (p0.Floor * p0.Stream.Mass)))) > 0 then w64 (p0.Stream.Heat - (w64 (p0.Floor * p0.Stream.Mass))) else 0)).bind fun x5 =>
        (some (if x5 < p1 then x5 else p1)).bind fun x7 =>
        (steam_HeatedX N (⟨p0.Stream.Mass, p0.Stream.Heat, p0.Stream.Silica, p0.Stream.Gas⟩ : GStream) (w64 (0 - x7))).bind fun x10 =>
        some ((⟨x10.1.Mass, x10.1.Heat, x10.1.Silica, x10.1.Gas⟩ : GStream), x7, 0)) fun k1 : Unit → Option (GStream × Int × Int) =>
  (steam_CheckStreamX N (⟨p0.Stream.Mass, p0.Stream.Heat, p0.Stream.Silica, p0.Stream.Gas⟩ : GStream)).bind fun x12 =>
  bif (x12 != 0) then
    some ((⟨0, 0, 0, 0⟩ : GStream), 0, 1)
  else
    (town_withinX N p0.Floor 0 4000).bind fun x15 =>
    bif (!x15) then
      some ((⟨0, 0, 0, 0⟩ : GStream), 0, 1)
    else
      k1 ()
set_option maxRecDepth 100000 in
set_option maxHeartbeats 4000000 in
theorem town_TakeX_ok (N : Nat) (p0 : GBrine) (p1 : Int) (r : (GStream × Int × Int)) (h : town_TakeX N p0 p1 = some r) : Spec Try.prog 41 [(.agg (c_GBrine p0)), (I p1)] [] (.tup [(.agg (c_GStream r.1)), (I r.2.1), (I r.2.2)]) [] := by
  refine spec_of_awp Try.func41 rfl 0 (nle rfl) (fun X φ0 w0 hφ0 => ?_)
  unfold town_TakeX at h
  refine awp_reg [⟨[(.tmp 0, (.agg [I p0.Stream.Mass, I p0.Stream.Heat, I p0.Stream.Silica, I p0.Stream.Gas, I p0.Floor]))], [(0, .unused)], .ref 0 5 0 0, [(0, .own 5 [[I p0.Stream.Mass, I p0.Stream.Heat, I p0.Stream.Silica, I p0.Stream.Gas, I p0.Floor]])], false⟩, ⟨[], [(1, .unused)], .ref 1 4 0 0, [(1, .own 4 [[I 0, I 0, I 0, I 0]])], false⟩, mc (.int .i64 0), mc (.int .i64 0)] ?_ ?_
  · exact ⟨astep_box rfl (by rfl) rfl rfl, astep_alloc rfl tz73 rfl, astep_assign rfl, astep_assign rfl, trivial⟩
  obtain ⟨k1, hk_k1, h⟩ := joinK_out h
  refine awp_join (τ := Unit) (fun t => k1 t = some r) (fun _ => ⟨mk 45 [(1, I p1), (2, .ref 0 5 0 0), (4, .ref 1 4 0 0)], [(.own 5 [[I p0.Stream.Mass, I p0.Stream.Heat, I p0.Stream.Silica, I p0.Stream.Gas, I p0.Floor]]), (.own 4 [[I 0, I 0, I 0, I 0]])]⟩) (fun t h => ?_) ?_
  · subst hk_k1
    refine awp_seq ?_
    obtain ⟨x3, hf2, h⟩ := bind_out h
    refine awp_reg [mv 1 (I p1), rp [fu 68, (.tmp 18, I p1), ci 0, ci 100000000000] (B x3), rp [(.tmp 19, B x3)] (B ((!x3)))] ?_ ?_
    · exact ⟨astep_move rfl, astep_pcall (first := []) (cap := []) (vs := [I p1, I 0, I 100000000000]) rfl enter68 (town_withinX_ok N p1 0 100000000000 _ hf2) rfl rfl (nl_cons nll (nl_cons nll (nl_cons nll nl_nil))) nll rfl, astep_not rfl, trivial⟩
    rcases bft ((!x3)) with hc4 | hc4
    · replace h := bif_t hc4 h
      refine awp_ift hc4 (by kernel_rfl) ?_
      refine awp_reg [rp [] (.agg [I 0, I 0, I 0, I 0]), ⟨[(.tmp 4, .ref 1 4 0 0), (.tmp 21, (.agg [I 0, I 0, I 0, I 0]))], [(1, .own 4 [[I 0, I 0, I 0, I 0]])], .any, [(1, .own 4 [[I 0, I 0, I 0, I 0]])], false⟩, mc (.int .i64 0), mc (.int .i64 2)] ?_ ?_
      · exact ⟨astep_build (vs := []) rfl ts73 tz73 rfl (by rfl) rfl, astep_store rfl ti73 (by rfl) rfl (nle rfl) rfl, astep_assign rfl, astep_assign rfl, trivial⟩
      refine awp_ret ?_
      refine thenA_r ?_
      obtain rfl := osi h
      exact ⟨⟨[(.agg [I 0, I 0, I 0, I 0]), I 0, I 2], ⟨resOK_cell (n := 1) (m := 4) (j := 0) (i := 0) (xs := [[I 0, I 0, I 0, I 0]]) (by kernel_rfl) (by kernel_rfl) ti73 (by decide) rfl (nle rfl) rfl, resOK_tmp (by kernel_rfl), resOK_tmp (by kernel_rfl), trivial⟩, rfl⟩, (NLt.tup _ (nl_cons (NLt.agg _ (nl_cons nll (nl_cons nll (nl_cons nll (nl_cons nll nl_nil))))) (nl_cons nll (nl_cons nll nl_nil)))), Nat.le_refl _, fun n hn => absurd hn (Nat.not_lt_zero n)⟩
    · replace h := bif_f hc4 h
      refine awp_ifn hc4 (by kernel_rfl) ?_
      refine awp_skip ?_
      refine thenA_n ?_
      obtain ⟨x5, hl6, h⟩ := bind_out h
      obtain ⟨x7, hl8, h⟩ := bind_out h
      refine awp_reg [mv 1 (I p1), rb [(.tmp 2, .ref 0 5 0 0)] [(0, .own 5 [[I p0.Stream.Mass, I p0.Stream.Heat, I p0.Stream.Silica, I p0.Stream.Gas, I p0.Floor]])] (.ref 0 5 0 0), rb [(.tmp 23, .ref 0 5 0 0)] [(0, .own 5 [[I p0.Stream.Mass, I p0.Stream.Heat, I p0.Stream.Silica, I p0.Stream.Gas, I p0.Floor]])] (.ref 0 5 0 1), rb [(.tmp 24, .ref 0 5 0 1)] [(0, .own 5 [[I p0.Stream.Mass, I p0.Stream.Heat, I p0.Stream.Silica, I p0.Stream.Gas, I p0.Floor]])] (I p0.Stream.Heat), rb [(.tmp 2, .ref 0 5 0 0)] [(0, .own 5 [[I p0.Stream.Mass, I p0.Stream.Heat, I p0.Stream.Silica, I p0.Stream.Gas, I p0.Floor]])] (.ref 0 5 0 4), rb [(.tmp 26, .ref 0 5 0 4)] [(0, .own 5 [[I p0.Stream.Mass, I p0.Stream.Heat, I p0.Stream.Silica, I p0.Stream.Gas, I p0.Floor]])] (I p0.Floor), rb [(.tmp 2, .ref 0 5 0 0)] [(0, .own 5 [[I p0.Stream.Mass, I p0.Stream.Heat, I p0.Stream.Silica, I p0.Stream.Gas, I p0.Floor]])] (.ref 0 5 0 0), rb [(.tmp 28, .ref 0 5 0 0)] [(0, .own 5 [[I p0.Stream.Mass, I p0.Stream.Heat, I p0.Stream.Silica, I p0.Stream.Gas, I p0.Floor]])] (.ref 0 5 0 0), rb [(.tmp 29, .ref 0 5 0 0)] [(0, .own 5 [[I p0.Stream.Mass, I p0.Stream.Heat, I p0.Stream.Silica, I p0.Stream.Gas, I p0.Floor]])] (I p0.Stream.Mass), rp [(.tmp 27, I p0.Floor), (.tmp 30, I p0.Stream.Mass)] (I (w64 (p0.Floor * p0.Stream.Mass))), rp [(.tmp 25, I p0.Stream.Heat), (.tmp 31, (I (w64 (p0.Floor * p0.Stream.Mass))))] (I (w64 (p0.Stream.Heat - (w64 (p0.Floor * p0.Stream.Mass))))), rp [ci 0, (.tmp 32, (I (w64 (p0.Stream.Heat - (w64 (p0.Floor * p0.Stream.Mass))))))] (I x5), rp [(.tmp 22, I p1), (.tmp 33, I x5)] (I ((if x5 < p1 then x5 else p1))), rp [(.tmp 34, (I ((if x5 < p1 then x5 else p1))))] (I x7)] ?_ ?_
      · exact ⟨astep_move rfl, astep_faddr rfl Try.underlying78 rfl rfl ti73 (by decide) rfl, astep_faddr rfl Try.underlying73 rfl rfl ti3 (by decide) rfl, astep_load rfl ti3 (by decide) rfl (nle rfl) rfl, astep_faddr rfl Try.underlying78 rfl rfl ti3 (by decide) rfl, astep_load rfl ti3 (by decide) rfl (nle rfl) rfl, astep_faddr rfl Try.underlying78 rfl rfl ti73 (by decide) rfl, astep_faddr rfl Try.underlying73 rfl rfl ti3 (by decide) rfl, astep_load rfl ti3 (by decide) rfl (nle rfl) rfl, astep_bin rfl rfl, astep_bin rfl rfl, astep_i hl6 (astep_max rfl), astep_min rfl, astep_i hl8 (astep_assign rfl), trivial⟩
      obtain ⟨x10, hf9, h⟩ := bind_out h
      refine awp_reg [rb [(.tmp 2, .ref 0 5 0 0)] [(0, .own 5 [[I p0.Stream.Mass, I p0.Stream.Heat, I p0.Stream.Silica, I p0.Stream.Gas, I p0.Floor]])] (.ref 0 5 0 0), rb [(.tmp 36, .ref 0 5 0 0)] [(0, .own 5 [[I p0.Stream.Mass, I p0.Stream.Heat, I p0.Stream.Silica, I p0.Stream.Gas, I p0.Floor]])] (.agg [I p0.Stream.Mass, I p0.Stream.Heat, I p0.Stream.Silica, I p0.Stream.Gas]), mv 5 (I x7), rp [(.tmp 38, I x7)] (I (w64 (0 - x7))), rp [fu 81, (.tmp 37, (.agg [I p0.Stream.Mass, I p0.Stream.Heat, I p0.Stream.Silica, I p0.Stream.Gas])), (.tmp 39, (I (w64 (0 - x7))))] (.tup [(.agg [I x10.1.Mass, I x10.1.Heat, I x10.1.Silica, I x10.1.Gas]), I x10.2]), mv 40 (.tup [(.agg [I x10.1.Mass, I x10.1.Heat, I x10.1.Silica, I x10.1.Gas]), I x10.2]), rp [(.tmp 35, (.tup [(.agg [I x10.1.Mass, I x10.1.Heat, I x10.1.Silica, I x10.1.Gas]), I x10.2]))] (.agg [I x10.1.Mass, I x10.1.Heat, I x10.1.Silica, I x10.1.Gas]), rp [(.tmp 35, (.tup [(.agg [I x10.1.Mass, I x10.1.Heat, I x10.1.Silica, I x10.1.Gas]), I x10.2]))] (I x10.2), ⟨[(.tmp 4, .ref 1 4 0 0), (.tmp 41, (.agg [I x10.1.Mass, I x10.1.Heat, I x10.1.Silica, I x10.1.Gas]))], [(1, .own 4 [[I 0, I 0, I 0, I 0]])], .any, [(1, .own 4 [[I x10.1.Mass, I x10.1.Heat, I x10.1.Silica, I x10.1.Gas]])], false⟩] ?_ ?_
      · exact ⟨astep_faddr rfl Try.underlying78 rfl rfl ti73 (by decide) rfl, astep_load rfl ti73 (by decide) rfl (nle rfl) rfl, astep_move rfl, astep_neg rfl, astep_pcall (first := []) (cap := []) (vs := [(.agg [I p0.Stream.Mass, I p0.Stream.Heat, I p0.Stream.Silica, I p0.Stream.Gas]), (I (w64 (0 - x7)))]) rfl enter81 (steam_HeatedX_ok N (⟨p0.Stream.Mass, p0.Stream.Heat, p0.Stream.Silica, p0.Stream.Gas⟩ : GStream) (w64 (0 - x7)) _ hf9) rfl rfl (nl_cons (NLt.agg _ (nl_cons nll (nl_cons nll (nl_cons nll (nl_cons nll nl_nil))))) (nl_cons nll nl_nil)) (NLt.tup _ (nl_cons (NLt.agg _ (nl_cons nll (nl_cons nll (nl_cons nll (nl_cons nll nl_nil))))) (nl_cons nll nl_nil))) rfl, astep_move rfl, astep_extract rfl rfl, astep_extract rfl rfl, astep_store rfl ti73 (by rfl) rfl (nle rfl) rfl, trivial⟩
      refine awp_reg [rb [(.tmp 4, .ref 1 4 0 0)] [(1, .own 4 [[I x10.1.Mass, I x10.1.Heat, I x10.1.Silica, I x10.1.Gas]])] (.agg [I x10.1.Mass, I x10.1.Heat, I x10.1.Silica, I x10.1.Gas]), mv 5 (I x7), ⟨[(.tmp 4, .ref 1 4 0 0), (.tmp 43, (.agg [I x10.1.Mass, I x10.1.Heat, I x10.1.Silica, I x10.1.Gas]))], [(1, .own 4 [[I x10.1.Mass, I x10.1.Heat, I x10.1.Silica, I x10.1.Gas]])], .any, [(1, .own 4 [[I x10.1.Mass, I x10.1.Heat, I x10.1.Silica, I x10.1.Gas]])], false⟩, mv 44 (I x7), mc (.int .i64 0)] ?_ ?_
      · exact ⟨astep_load rfl ti73 (by decide) rfl (nle rfl) rfl, astep_move rfl, astep_store rfl ti73 (by rfl) rfl (nle rfl) rfl, astep_assign rfl, astep_assign rfl, trivial⟩
      refine awp_ret ?_
      obtain rfl := osi h
      exact ⟨⟨[(.agg [I x10.1.Mass, I x10.1.Heat, I x10.1.Silica, I x10.1.Gas]), I x7, I 0], ⟨resOK_cell (n := 1) (m := 4) (j := 0) (i := 0) (xs := [[I x10.1.Mass, I x10.1.Heat, I x10.1.Silica, I x10.1.Gas]]) (by kernel_rfl) (by kernel_rfl) ti73 (by decide) rfl (nle rfl) rfl, resOK_tmp (by kernel_rfl), resOK_tmp (by kernel_rfl), trivial⟩, rfl⟩, (NLt.tup _ (nl_cons (NLt.agg _ (nl_cons nll (nl_cons nll (nl_cons nll (nl_cons nll nl_nil))))) (nl_cons nll (nl_cons nll nl_nil)))), Nat.le_refl _, fun n hn => absurd hn (Nat.not_lt_zero n)⟩
  · skip
    obtain ⟨x12, hf11, h⟩ := bind_out h
    rcases bft ((x12 != 0)) with hb13 | hb13
    · replace h := bif_t hb13 h
      refine awp_reg [rb [(.tmp 2, .ref 0 5 0 0)] [(0, .own 5 [[I p0.Stream.Mass, I p0.Stream.Heat, I p0.Stream.Silica, I p0.Stream.Gas, I p0.Floor]])] (.ref 0 5 0 0), rb [(.tmp 7, .ref 0 5 0 0)] [(0, .own 5 [[I p0.Stream.Mass, I p0.Stream.Heat, I p0.Stream.Silica, I p0.Stream.Gas, I p0.Floor]])] (.agg [I p0.Stream.Mass, I p0.Stream.Heat, I p0.Stream.Silica, I p0.Stream.Gas]), rp [fu 46, (.tmp 8, (.agg [I p0.Stream.Mass, I p0.Stream.Heat, I p0.Stream.Silica, I p0.Stream.Gas]))] (I x12), rp [(.tmp 9, I x12), ci 0] (B ((x12 != 0))), rp [(.tmp 10, (B ((x12 != 0))))] (B true), sk 11 (B true), sk 11 (B true), sk 11 (B true), sk 11 (B true), rp [(.tmp 11, B true), cb true, (.tmp 15, (.lit undef))] (B true)] ?_ ?_
      · exact ⟨astep_faddr rfl Try.underlying78 rfl rfl ti73 (by decide) rfl, astep_load rfl ti73 (by decide) rfl (nle rfl) rfl, astep_pcall (first := []) (cap := []) (vs := [(.agg [I p0.Stream.Mass, I p0.Stream.Heat, I p0.Stream.Silica, I p0.Stream.Gas])]) rfl enter46 (steam_CheckStreamX_ok N (⟨p0.Stream.Mass, p0.Stream.Heat, p0.Stream.Silica, p0.Stream.Gas⟩ : GStream) _ hf11) rfl rfl (nl_cons (NLt.agg _ (nl_cons nll (nl_cons nll (nl_cons nll (nl_cons nll nl_nil))))) nl_nil) nll rfl, astep_bin rfl rfl, astep_b hb13 (astep_move rfl), trivial, trivial, trivial, trivial, astep_pick rfl rfl, trivial⟩
      refine awp_true (by kernel_rfl) ?_
      refine awp_reg [rp [] (.agg [I 0, I 0, I 0, I 0]), ⟨[(.tmp 4, .ref 1 4 0 0), (.tmp 17, (.agg [I 0, I 0, I 0, I 0]))], [(1, .own 4 [[I 0, I 0, I 0, I 0]])], .any, [(1, .own 4 [[I 0, I 0, I 0, I 0]])], false⟩, mc (.int .i64 0), mc (.int .i64 1)] ?_ ?_
      · exact ⟨astep_build (vs := []) rfl ts73 tz73 rfl (by rfl) rfl, astep_store rfl ti73 (by rfl) rfl (nle rfl) rfl, astep_assign rfl, astep_assign rfl, trivial⟩
      refine awp_ret ?_
      refine thenA_r ?_
      obtain rfl := osi h
      exact ⟨⟨[(.agg [I 0, I 0, I 0, I 0]), I 0, I 1], ⟨resOK_cell (n := 1) (m := 4) (j := 0) (i := 0) (xs := [[I 0, I 0, I 0, I 0]]) (by kernel_rfl) (by kernel_rfl) ti73 (by decide) rfl (nle rfl) rfl, resOK_tmp (by kernel_rfl), resOK_tmp (by kernel_rfl), trivial⟩, rfl⟩, (NLt.tup _ (nl_cons (NLt.agg _ (nl_cons nll (nl_cons nll (nl_cons nll (nl_cons nll nl_nil))))) (nl_cons nll (nl_cons nll nl_nil)))), Nat.le_refl _, fun n hn => absurd hn (Nat.not_lt_zero n)⟩
    · replace h := bif_f hb13 h
      obtain ⟨x15, hf14, h⟩ := bind_out h
      refine awp_reg [rb [(.tmp 2, .ref 0 5 0 0)] [(0, .own 5 [[I p0.Stream.Mass, I p0.Stream.Heat, I p0.Stream.Silica, I p0.Stream.Gas, I p0.Floor]])] (.ref 0 5 0 0), rb [(.tmp 7, .ref 0 5 0 0)] [(0, .own 5 [[I p0.Stream.Mass, I p0.Stream.Heat, I p0.Stream.Silica, I p0.Stream.Gas, I p0.Floor]])] (.agg [I p0.Stream.Mass, I p0.Stream.Heat, I p0.Stream.Silica, I p0.Stream.Gas]), rp [fu 46, (.tmp 8, (.agg [I p0.Stream.Mass, I p0.Stream.Heat, I p0.Stream.Silica, I p0.Stream.Gas]))] (I x12), rp [(.tmp 9, I x12), ci 0] (B ((x12 != 0))), rp [(.tmp 10, (B ((x12 != 0))))] (B false), rb [(.tmp 11, B false), (.tmp 2, .ref 0 5 0 0)] [(0, .own 5 [[I p0.Stream.Mass, I p0.Stream.Heat, I p0.Stream.Silica, I p0.Stream.Gas, I p0.Floor]])] (.ref 0 5 0 4), rb [(.tmp 11, B false), (.tmp 12, .ref 0 5 0 4)] [(0, .own 5 [[I p0.Stream.Mass, I p0.Stream.Heat, I p0.Stream.Silica, I p0.Stream.Gas, I p0.Floor]])] (I p0.Floor), rp [(.tmp 11, B false), fu 68, (.tmp 13, I p0.Floor), ci 0, ci 4000] (B x15), rp [(.tmp 11, B false), (.tmp 14, B x15)] (B ((!x15))), rp [(.tmp 11, B false), cb true, (.tmp 15, (B ((!x15))))] (B ((!x15)))] ?_ ?_
      · exact ⟨astep_faddr rfl Try.underlying78 rfl rfl ti73 (by decide) rfl, astep_load rfl ti73 (by decide) rfl (nle rfl) rfl, astep_pcall (first := []) (cap := []) (vs := [(.agg [I p0.Stream.Mass, I p0.Stream.Heat, I p0.Stream.Silica, I p0.Stream.Gas])]) rfl enter46 (steam_CheckStreamX_ok N (⟨p0.Stream.Mass, p0.Stream.Heat, p0.Stream.Silica, p0.Stream.Gas⟩ : GStream) _ hf11) rfl rfl (nl_cons (NLt.agg _ (nl_cons nll (nl_cons nll (nl_cons nll (nl_cons nll nl_nil))))) nl_nil) nll rfl, astep_bin rfl rfl, astep_b hb13 (astep_move rfl), astep_guard (astep_faddr rfl Try.underlying78 rfl rfl ti3 (by decide) rfl), astep_guard (astep_load rfl ti3 (by decide) rfl (nle rfl) rfl), astep_guard (astep_pcall (first := []) (cap := []) (vs := [I p0.Floor, I 0, I 4000]) rfl enter68 (town_withinX_ok N p0.Floor 0 4000 _ hf14) rfl rfl (nl_cons nll (nl_cons nll (nl_cons nll nl_nil))) nll rfl), astep_guard (astep_not rfl), astep_pick rfl rfl, trivial⟩
      rcases bft ((!x15)) with hc16 | hc16
      · replace h := bif_t hc16 h
        refine awp_ift hc16 (by kernel_rfl) ?_
        refine awp_reg [rp [] (.agg [I 0, I 0, I 0, I 0]), ⟨[(.tmp 4, .ref 1 4 0 0), (.tmp 17, (.agg [I 0, I 0, I 0, I 0]))], [(1, .own 4 [[I 0, I 0, I 0, I 0]])], .any, [(1, .own 4 [[I 0, I 0, I 0, I 0]])], false⟩, mc (.int .i64 0), mc (.int .i64 1)] ?_ ?_
        · exact ⟨astep_build (vs := []) rfl ts73 tz73 rfl (by rfl) rfl, astep_store rfl ti73 (by rfl) rfl (nle rfl) rfl, astep_assign rfl, astep_assign rfl, trivial⟩
        refine awp_ret ?_
        refine thenA_r ?_
        obtain rfl := osi h
        exact ⟨⟨[(.agg [I 0, I 0, I 0, I 0]), I 0, I 1], ⟨resOK_cell (n := 1) (m := 4) (j := 0) (i := 0) (xs := [[I 0, I 0, I 0, I 0]]) (by kernel_rfl) (by kernel_rfl) ti73 (by decide) rfl (nle rfl) rfl, resOK_tmp (by kernel_rfl), resOK_tmp (by kernel_rfl), trivial⟩, rfl⟩, (NLt.tup _ (nl_cons (NLt.agg _ (nl_cons nll (nl_cons nll (nl_cons nll (nl_cons nll nl_nil))))) (nl_cons nll (nl_cons nll nl_nil)))), Nat.le_refl _, fun n hn => absurd hn (Nat.not_lt_zero n)⟩
      · replace h := bif_f hc16 h
        refine awp_ifn hc16 (by kernel_rfl) ?_
        refine awp_skip ?_
        refine thenA_n ?_
        exact ⟨(), h, (mor_to (n := 45) [(1, I p1), (2, .ref 0 5 0 0), (4, .ref 1 4 0 0)] [0, 1] [(.own 5 [[I p0.Stream.Mass, I p0.Stream.Heat, I p0.Stream.Silica, I p0.Stream.Gas, I p0.Floor]]), (.own 4 [[I 0, I 0, I 0, I 0]])] hφ0 (pc rwl (pc (.rn (rnq_ref rfl)) (pc (.rn (rnq_ref rfl)) pn))) (qc (spw_box (lc rwl (lc rwl (lc rwl (lc rwl (lc rwl ln)))))) (qc (spw_box (lc rwl (lc rwl (lc rwl (lc rwl ln))))) qn)))⟩

def law01_StreamX (_N : Nat) (p0 : GStream) : Option GStream :=
  some p0
set_option maxRecDepth 100000 in
set_option maxHeartbeats 4000000 in
theorem law01_StreamX_ok (N : Nat) (p0 : GStream) (r : GStream) (h : law01_StreamX N p0 = some r) : Spec Try.prog 42 [(.agg (c_GStream p0))] [] (.agg (c_GStream r)) [] := by
  refine spec_of_awp Try.func42 rfl 0 (nle rfl) (fun X φ0 w0 hφ0 => ?_)
  unfold law01_StreamX at h
  refine awp_reg [⟨[(.tmp 0, (.agg [I p0.Mass, I p0.Heat, I p0.Silica, I p0.Gas]))], [(0, .unused)], .ref 0 4 0 0, [(0, .own 4 [[I p0.Mass, I p0.Heat, I p0.Silica, I p0.Gas]])], false⟩, ⟨[], [(1, .unused)], .ref 1 4 0 0, [(1, .own 4 [[I 0, I 0, I 0, I 0]])], false⟩] ?_ ?_
  · exact ⟨astep_box rfl (by rfl) rfl rfl, astep_alloc rfl tz73 rfl, trivial⟩
  refine awp_reg [rb [(.tmp 1, .ref 0 4 0 0)] [(0, .own 4 [[I p0.Mass, I p0.Heat, I p0.Silica, I p0.Gas]])] (.ref 0 4 0 0), rb [(.tmp 3, .ref 0 4 0 0)] [(0, .own 4 [[I p0.Mass, I p0.Heat, I p0.Silica, I p0.Gas]])] (I p0.Mass), rb [(.tmp 1, .ref 0 4 0 0)] [(0, .own 4 [[I p0.Mass, I p0.Heat, I p0.Silica, I p0.Gas]])] (.ref 0 4 0 1), rb [(.tmp 5, .ref 0 4 0 1)] [(0, .own 4 [[I p0.Mass, I p0.Heat, I p0.Silica, I p0.Gas]])] (I p0.Heat), rb [(.tmp 1, .ref 0 4 0 0)] [(0, .own 4 [[I p0.Mass, I p0.Heat, I p0.Silica, I p0.Gas]])] (.ref 0 4 0 2), rb [(.tmp 7, .ref 0 4 0 2)] [(0, .own 4 [[I p0.Mass, I p0.Heat, I p0.Silica, I p0.Gas]])] (I p0.Silica), rb [(.tmp 1, .ref 0 4 0 0)] [(0, .own 4 [[I p0.Mass, I p0.Heat, I p0.Silica, I p0.Gas]])] (.ref 0 4 0 3), rb [(.tmp 9, .ref 0 4 0 3)] [(0, .own 4 [[I p0.Mass, I p0.Heat, I p0.Silica, I p0.Gas]])] (I p0.Gas), rp [(.tmp 4, I p0.Mass), (.tmp 6, I p0.Heat), (.tmp 8, I p0.Silica), (.tmp 10, I p0.Gas)] (.agg [I p0.Mass, I p0.Heat, I p0.Silica, I p0.Gas]), ⟨[(.tmp 2, .ref 1 4 0 0), (.tmp 11, (.agg [I p0.Mass, I p0.Heat, I p0.Silica, I p0.Gas]))], [(1, .own 4 [[I 0, I 0, I 0, I 0]])], .any, [(1, .own 4 [[I p0.Mass, I p0.Heat, I p0.Silica, I p0.Gas]])], false⟩] ?_ ?_
  · exact ⟨astep_faddr rfl Try.underlying72 rfl rfl ti3 (by decide) rfl, astep_load rfl ti3 (by decide) rfl (nle rfl) rfl, astep_faddr rfl Try.underlying72 rfl rfl ti3 (by decide) rfl, astep_load rfl ti3 (by decide) rfl (nle rfl) rfl, astep_faddr rfl Try.underlying72 rfl rfl ti3 (by decide) rfl, astep_load rfl ti3 (by decide) rfl (nle rfl) rfl, astep_faddr rfl Try.underlying72 rfl rfl ti3 (by decide) rfl, astep_load rfl ti3 (by decide) rfl (nle rfl) rfl, astep_build (vs := [I p0.Mass, I p0.Heat, I p0.Silica, I p0.Gas]) rfl ts73 tz73 rfl (by rfl) rfl, astep_store rfl ti73 (by rfl) rfl (nle rfl) rfl, trivial⟩
  refine awp_ret ?_
  obtain rfl := osi h
  exact ⟨⟨[(.agg [I p0.Mass, I p0.Heat, I p0.Silica, I p0.Gas])], ⟨resOK_cell (n := 1) (m := 4) (j := 0) (i := 0) (xs := [[I p0.Mass, I p0.Heat, I p0.Silica, I p0.Gas]]) (by kernel_rfl) (by kernel_rfl) ti73 (by decide) rfl (nle rfl) rfl, trivial⟩, rfl⟩, (NLt.agg _ (nl_cons nll (nl_cons nll (nl_cons nll (nl_cons nll nl_nil))))), Nat.le_refl _, fun n hn => absurd hn (Nat.not_lt_zero n)⟩

def ref01_InX (_N : Nat) (p0 : Int) (p1 : Int) (p2 : Int) : Option Bool :=
  bif (decide (p0 ≥ p1)) then
    some (decide (p0 ≤ p2))
  else
    some false
set_option maxRecDepth 100000 in
set_option maxHeartbeats 4000000 in
theorem ref01_InX_ok (N : Nat) (p0 : Int) (p1 : Int) (p2 : Int) (r : Bool) (h : ref01_InX N p0 p1 p2 = some r) : Spec Try.prog 82 [(I p0), (I p1), (I p2)] [] (B r) [] := by
  refine spec_of_awp Try.func82 rfl 0 (nle rfl) (fun X φ0 w0 hφ0 => ?_)
  unfold ref01_InX at h
  refine awp_reg [mc (.bool false)] ?_ ?_
  · exact ⟨astep_assign rfl, trivial⟩
  rcases bft ((decide (p0 ≥ p1))) with hb1 | hb1
  · replace h := bif_t hb1 h
    refine awp_reg [mv 0 (I p0), mv 1 (I p1), rp [(.tmp 7, I p0), (.tmp 8, I p1)] (B ((decide (p0 ≥ p1)))), rp [(.tmp 9, (B ((decide (p0 ≥ p1)))))] (B true), rp [(.tmp 10, B true), (.tmp 0, I p0)] (I p0), rp [(.tmp 10, B true), (.tmp 2, I p2)] (I p2), rp [(.tmp 10, B true), (.tmp 11, I p0), (.tmp 12, I p2)] (B ((decide (p0 ≤ p2)))), rp [(.tmp 10, B true), (.tmp 13, (B ((decide (p0 ≤ p2))))), cb false] (B ((decide (p0 ≤ p2)))), mv 14 (B ((decide (p0 ≤ p2))))] ?_ ?_
    · exact ⟨astep_move rfl, astep_move rfl, astep_bin rfl rfl, astep_b hb1 (astep_move rfl), astep_guard (astep_move rfl), astep_guard (astep_move rfl), astep_guard (astep_bin rfl rfl), astep_pick rfl rfl, astep_assign rfl, trivial⟩
    refine awp_ret ?_
    obtain rfl := osi h
    exact ⟨⟨[(B ((decide (p0 ≤ p2))))], ⟨resOK_tmp (by kernel_rfl), trivial⟩, rfl⟩, nll, Nat.le_refl _, fun n hn => absurd hn (Nat.not_lt_zero n)⟩
  · replace h := bif_f hb1 h
    refine awp_reg [mv 0 (I p0), mv 1 (I p1), rp [(.tmp 7, I p0), (.tmp 8, I p1)] (B ((decide (p0 ≥ p1)))), rp [(.tmp 9, (B ((decide (p0 ≥ p1)))))] (B false), sk 10 (B false), sk 10 (B false), sk 10 (B false), rp [(.tmp 10, B false), (.tmp 13, (.lit undef)), cb false] (B false), mv 14 (B false)] ?_ ?_
    · exact ⟨astep_move rfl, astep_move rfl, astep_bin rfl rfl, astep_b hb1 (astep_move rfl), trivial, trivial, trivial, astep_pick rfl rfl, astep_assign rfl, trivial⟩
    refine awp_ret ?_
    obtain rfl := osi h
    exact ⟨⟨[B false], ⟨resOK_tmp (by kernel_rfl), trivial⟩, rfl⟩, nll, Nat.le_refl _, fun n hn => absurd hn (Nat.not_lt_zero n)⟩

def ref01_RightStreamX (N : Nat) (p0 : GStream) : Option Bool :=
  (ref01_InX N p0.Mass 0 1000000).bind fun x2 =>
  bif x2 then
    (ref01_InX N p0.Heat 0 (w64 (4000 * p0.Mass))).bind fun x5 =>
    bif x5 then
      (ref01_InX N p0.Silica 0 (w64 (10000 * p0.Mass))).bind fun x8 =>
      bif x8 then
        (ref01_InX N p0.Gas 0 1000000000).bind fun x11 =>
        some x11
      else
        some false
    else
      some false
  else
    some false
set_option maxRecDepth 100000 in
set_option maxHeartbeats 4000000 in
theorem ref01_RightStreamX_ok (N : Nat) (p0 : GStream) (r : Bool) (h : ref01_RightStreamX N p0 = some r) : Spec Try.prog 43 [(.agg (c_GStream p0))] [] (B r) [] := by
  refine spec_of_awp Try.func43 rfl 0 (nle rfl) (fun X φ0 w0 hφ0 => ?_)
  unfold ref01_RightStreamX at h
  refine awp_reg [⟨[(.tmp 0, (.agg [I p0.Mass, I p0.Heat, I p0.Silica, I p0.Gas]))], [(0, .unused)], .ref 0 4 0 0, [(0, .own 4 [[I p0.Mass, I p0.Heat, I p0.Silica, I p0.Gas]])], false⟩, mc (.bool false)] ?_ ?_
  · exact ⟨astep_box rfl (by rfl) rfl rfl, astep_assign rfl, trivial⟩
  obtain ⟨x2, hf1, h⟩ := bind_out h
  rcases bft (x2) with hb3 | hb3
  · replace h := bif_t hb3 h
    obtain ⟨x5, hf4, h⟩ := bind_out h
    rcases bft (x5) with hb6 | hb6
    · replace h := bif_t hb6 h
      obtain ⟨x8, hf7, h⟩ := bind_out h
      rcases bft (x8) with hb9 | hb9
      · replace h := bif_t hb9 h
        obtain ⟨x11, hf10, h⟩ := bind_out h
        refine awp_reg [rb [(.tmp 1, .ref 0 4 0 0)] [(0, .own 4 [[I p0.Mass, I p0.Heat, I p0.Silica, I p0.Gas]])] (.ref 0 4 0 0), rb [(.tmp 3, .ref 0 4 0 0)] [(0, .own 4 [[I p0.Mass, I p0.Heat, I p0.Silica, I p0.Gas]])] (I p0.Mass), rp [fu 82, (.tmp 4, I p0.Mass), ci 0, ci 1000000] (B x2), rp [(.tmp 5, B x2)] (B true), rb [(.tmp 6, B true), (.tmp 1, .ref 0 4 0 0)] [(0, .own 4 [[I p0.Mass, I p0.Heat, I p0.Silica, I p0.Gas]])] (.ref 0 4 0 1), rb [(.tmp 6, B true), (.tmp 7, .ref 0 4 0 1)] [(0, .own 4 [[I p0.Mass, I p0.Heat, I p0.Silica, I p0.Gas]])] (I p0.Heat), rb [(.tmp 6, B true), (.tmp 1, .ref 0 4 0 0)] [(0, .own 4 [[I p0.Mass, I p0.Heat, I p0.Silica, I p0.Gas]])] (.ref 0 4 0 0), rb [(.tmp 6, B true), (.tmp 9, .ref 0 4 0 0)] [(0, .own 4 [[I p0.Mass, I p0.Heat, I p0.Silica, I p0.Gas]])] (I p0.Mass), rp [(.tmp 6, B true), ci 4000, (.tmp 10, I p0.Mass)] (I (w64 (4000 * p0.Mass))), rp [(.tmp 6, B true), fu 82, (.tmp 8, I p0.Heat), ci 0, (.tmp 11, (I (w64 (4000 * p0.Mass))))] (B x5), rp [(.tmp 6, B true), (.tmp 12, B x5), cb false] (B x5), rp [(.tmp 13, B x5)] (B true), rb [(.tmp 14, B true), (.tmp 1, .ref 0 4 0 0)] [(0, .own 4 [[I p0.Mass, I p0.Heat, I p0.Silica, I p0.Gas]])] (.ref 0 4 0 2), rb [(.tmp 14, B true), (.tmp 15, .ref 0 4 0 2)] [(0, .own 4 [[I p0.Mass, I p0.Heat, I p0.Silica, I p0.Gas]])] (I p0.Silica), rb [(.tmp 14, B true), (.tmp 1, .ref 0 4 0 0)] [(0, .own 4 [[I p0.Mass, I p0.Heat, I p0.Silica, I p0.Gas]])] (.ref 0 4 0 0), rb [(.tmp 14, B true), (.tmp 17, .ref 0 4 0 0)] [(0, .own 4 [[I p0.Mass, I p0.Heat, I p0.Silica, I p0.Gas]])] (I p0.Mass), rp [(.tmp 14, B true), ci 10000, (.tmp 18, I p0.Mass)] (I (w64 (10000 * p0.Mass))), rp [(.tmp 14, B true), fu 82, (.tmp 16, I p0.Silica), ci 0, (.tmp 19, (I (w64 (10000 * p0.Mass))))] (B x8), rp [(.tmp 14, B true), (.tmp 20, B x8), cb false] (B x8), rp [(.tmp 21, B x8)] (B true), rb [(.tmp 22, B true), (.tmp 1, .ref 0 4 0 0)] [(0, .own 4 [[I p0.Mass, I p0.Heat, I p0.Silica, I p0.Gas]])] (.ref 0 4 0 3), rb [(.tmp 22, B true), (.tmp 23, .ref 0 4 0 3)] [(0, .own 4 [[I p0.Mass, I p0.Heat, I p0.Silica, I p0.Gas]])] (I p0.Gas), rp [(.tmp 22, B true), fu 82, (.tmp 24, I p0.Gas), ci 0, ci 1000000000] (B x11), rp [(.tmp 22, B true), (.tmp 25, B x11), cb false] (B x11), mv 26 (B x11)] ?_ ?_
        · exact ⟨astep_faddr rfl Try.underlying72 rfl rfl ti3 (by decide) rfl, astep_load rfl ti3 (by decide) rfl (nle rfl) rfl, astep_pcall (first := []) (cap := []) (vs := [I p0.Mass, I 0, I 1000000]) rfl enter82 (ref01_InX_ok N p0.Mass 0 1000000 _ hf1) rfl rfl (nl_cons nll (nl_cons nll (nl_cons nll nl_nil))) nll rfl, astep_b hb3 (astep_move rfl), astep_guard (astep_faddr rfl Try.underlying72 rfl rfl ti3 (by decide) rfl), astep_guard (astep_load rfl ti3 (by decide) rfl (nle rfl) rfl), astep_guard (astep_faddr rfl Try.underlying72 rfl rfl ti3 (by decide) rfl), astep_guard (astep_load rfl ti3 (by decide) rfl (nle rfl) rfl), astep_guard (astep_bin rfl rfl), astep_guard (astep_pcall (first := []) (cap := []) (vs := [I p0.Heat, I 0, (I (w64 (4000 * p0.Mass)))]) rfl enter82 (ref01_InX_ok N p0.Heat 0 (w64 (4000 * p0.Mass)) _ hf4) rfl rfl (nl_cons nll (nl_cons nll (nl_cons nll nl_nil))) nll rfl), astep_pick rfl rfl, astep_b hb6 (astep_move rfl), astep_guard (astep_faddr rfl Try.underlying72 rfl rfl ti3 (by decide) rfl), astep_guard (astep_load rfl ti3 (by decide) rfl (nle rfl) rfl), astep_guard (astep_faddr rfl Try.underlying72 rfl rfl ti3 (by decide) rfl), astep_guard (astep_load rfl ti3 (by decide) rfl (nle rfl) rfl), astep_guard (astep_bin rfl rfl), astep_guard (astep_pcall (first := []) (cap := []) (vs := [I p0.Silica, I 0, (I (w64 (10000 * p0.Mass)))]) rfl enter82 (ref01_InX_ok N p0.Silica 0 (w64 (10000 * p0.Mass)) _ hf7) rfl rfl (nl_cons nll (nl_cons nll (nl_cons nll nl_nil))) nll rfl), astep_pick rfl rfl, astep_b hb9 (astep_move rfl), astep_guard (astep_faddr rfl Try.underlying72 rfl rfl ti3 (by decide) rfl), astep_guard (astep_load rfl ti3 (by decide) rfl (nle rfl) rfl), astep_guard (astep_pcall (first := []) (cap := []) (vs := [I p0.Gas, I 0, I 1000000000]) rfl enter82 (ref01_InX_ok N p0.Gas 0 1000000000 _ hf10) rfl rfl (nl_cons nll (nl_cons nll (nl_cons nll nl_nil))) nll rfl), astep_pick rfl rfl, astep_assign rfl, trivial⟩
        refine awp_ret ?_
        obtain rfl := osi h
        exact ⟨⟨[B x11], ⟨resOK_tmp (by kernel_rfl), trivial⟩, rfl⟩, nll, Nat.le_refl _, fun n hn => absurd hn (Nat.not_lt_zero n)⟩
      · replace h := bif_f hb9 h
        refine awp_reg [rb [(.tmp 1, .ref 0 4 0 0)] [(0, .own 4 [[I p0.Mass, I p0.Heat, I p0.Silica, I p0.Gas]])] (.ref 0 4 0 0), rb [(.tmp 3, .ref 0 4 0 0)] [(0, .own 4 [[I p0.Mass, I p0.Heat, I p0.Silica, I p0.Gas]])] (I p0.Mass), rp [fu 82, (.tmp 4, I p0.Mass), ci 0, ci 1000000] (B x2), rp [(.tmp 5, B x2)] (B true), rb [(.tmp 6, B true), (.tmp 1, .ref 0 4 0 0)] [(0, .own 4 [[I p0.Mass, I p0.Heat, I p0.Silica, I p0.Gas]])] (.ref 0 4 0 1), rb [(.tmp 6, B true), (.tmp 7, .ref 0 4 0 1)] [(0, .own 4 [[I p0.Mass, I p0.Heat, I p0.Silica, I p0.Gas]])] (I p0.Heat), rb [(.tmp 6, B true), (.tmp 1, .ref 0 4 0 0)] [(0, .own 4 [[I p0.Mass, I p0.Heat, I p0.Silica, I p0.Gas]])] (.ref 0 4 0 0), rb [(.tmp 6, B true), (.tmp 9, .ref 0 4 0 0)] [(0, .own 4 [[I p0.Mass, I p0.Heat, I p0.Silica, I p0.Gas]])] (I p0.Mass), rp [(.tmp 6, B true), ci 4000, (.tmp 10, I p0.Mass)] (I (w64 (4000 * p0.Mass))), rp [(.tmp 6, B true), fu 82, (.tmp 8, I p0.Heat), ci 0, (.tmp 11, (I (w64 (4000 * p0.Mass))))] (B x5), rp [(.tmp 6, B true), (.tmp 12, B x5), cb false] (B x5), rp [(.tmp 13, B x5)] (B true), rb [(.tmp 14, B true), (.tmp 1, .ref 0 4 0 0)] [(0, .own 4 [[I p0.Mass, I p0.Heat, I p0.Silica, I p0.Gas]])] (.ref 0 4 0 2), rb [(.tmp 14, B true), (.tmp 15, .ref 0 4 0 2)] [(0, .own 4 [[I p0.Mass, I p0.Heat, I p0.Silica, I p0.Gas]])] (I p0.Silica), rb [(.tmp 14, B true), (.tmp 1, .ref 0 4 0 0)] [(0, .own 4 [[I p0.Mass, I p0.Heat, I p0.Silica, I p0.Gas]])] (.ref 0 4 0 0), rb [(.tmp 14, B true), (.tmp 17, .ref 0 4 0 0)] [(0, .own 4 [[I p0.Mass, I p0.Heat, I p0.Silica, I p0.Gas]])] (I p0.Mass), rp [(.tmp 14, B true), ci 10000, (.tmp 18, I p0.Mass)] (I (w64 (10000 * p0.Mass))), rp [(.tmp 14, B true), fu 82, (.tmp 16, I p0.Silica), ci 0, (.tmp 19, (I (w64 (10000 * p0.Mass))))] (B x8), rp [(.tmp 14, B true), (.tmp 20, B x8), cb false] (B x8), rp [(.tmp 21, B x8)] (B false), sk 22 (B false), sk 22 (B false), sk 22 (B false), rp [(.tmp 22, B false), (.tmp 25, (.lit undef)), cb false] (B false), mv 26 (B false)] ?_ ?_
        · exact ⟨astep_faddr rfl Try.underlying72 rfl rfl ti3 (by decide) rfl, astep_load rfl ti3 (by decide) rfl (nle rfl) rfl, astep_pcall (first := []) (cap := []) (vs := [I p0.Mass, I 0, I 1000000]) rfl enter82 (ref01_InX_ok N p0.Mass 0 1000000 _ hf1) rfl rfl (nl_cons nll (nl_cons nll (nl_cons nll nl_nil))) nll rfl, astep_b hb3 (astep_move rfl), astep_guard (astep_faddr rfl Try.underlying72 rfl rfl ti3 (by decide) rfl), astep_guard (astep_load rfl ti3 (by decide) rfl (nle rfl) rfl), astep_guard (astep_faddr rfl Try.underlying72 rfl rfl ti3 (by decide) rfl), astep_guard (astep_load rfl ti3 (by decide) rfl (nle rfl) rfl), astep_guard (astep_bin rfl rfl), astep_guard (astep_pcall (first := []) (cap := []) (vs := [I p0.Heat, I 0, (I (w64 (4000 * p0.Mass)))]) rfl enter82 (ref01_InX_ok N p0.Heat 0 (w64 (4000 * p0.Mass)) _ hf4) rfl rfl (nl_cons nll (nl_cons nll (nl_cons nll nl_nil))) nll rfl), astep_pick rfl rfl, astep_b hb6 (astep_move rfl), astep_guard (astep_faddr rfl Try.underlying72 rfl rfl ti3 (by decide) rfl), astep_guard (astep_load rfl ti3 (by decide) rfl (nle rfl) rfl), astep_guard (astep_faddr rfl Try.underlying72 rfl rfl ti3 (by decide) rfl), astep_guard (astep_load rfl ti3 (by decide) rfl (nle rfl) rfl), astep_guard (astep_bin rfl rfl), astep_guard (astep_pcall (first := []) (cap := []) (vs := [I p0.Silica, I 0, (I (w64 (10000 * p0.Mass)))]) rfl enter82 (ref01_InX_ok N p0.Silica 0 (w64 (10000 * p0.Mass)) _ hf7) rfl rfl (nl_cons nll (nl_cons nll (nl_cons nll nl_nil))) nll rfl), astep_pick rfl rfl, astep_b hb9 (astep_move rfl), trivial, trivial, trivial, astep_pick rfl rfl, astep_assign rfl, trivial⟩
        refine awp_ret ?_
        obtain rfl := osi h
        exact ⟨⟨[B false], ⟨resOK_tmp (by kernel_rfl), trivial⟩, rfl⟩, nll, Nat.le_refl _, fun n hn => absurd hn (Nat.not_lt_zero n)⟩
    · replace h := bif_f hb6 h
      refine awp_reg [rb [(.tmp 1, .ref 0 4 0 0)] [(0, .own 4 [[I p0.Mass, I p0.Heat, I p0.Silica, I p0.Gas]])] (.ref 0 4 0 0), rb [(.tmp 3, .ref 0 4 0 0)] [(0, .own 4 [[I p0.Mass, I p0.Heat, I p0.Silica, I p0.Gas]])] (I p0.Mass), rp [fu 82, (.tmp 4, I p0.Mass), ci 0, ci 1000000] (B x2), rp [(.tmp 5, B x2)] (B true), rb [(.tmp 6, B true), (.tmp 1, .ref 0 4 0 0)] [(0, .own 4 [[I p0.Mass, I p0.Heat, I p0.Silica, I p0.Gas]])] (.ref 0 4 0 1), rb [(.tmp 6, B true), (.tmp 7, .ref 0 4 0 1)] [(0, .own 4 [[I p0.Mass, I p0.Heat, I p0.Silica, I p0.Gas]])] (I p0.Heat), rb [(.tmp 6, B true), (.tmp 1, .ref 0 4 0 0)] [(0, .own 4 [[I p0.Mass, I p0.Heat, I p0.Silica, I p0.Gas]])] (.ref 0 4 0 0), rb [(.tmp 6, B true), (.tmp 9, .ref 0 4 0 0)] [(0, .own 4 [[I p0.Mass, I p0.Heat, I p0.Silica, I p0.Gas]])] (I p0.Mass), rp [(.tmp 6, B true), ci 4000, (.tmp 10, I p0.Mass)] (I (w64 (4000 * p0.Mass))), rp [(.tmp 6, B true), fu 82, (.tmp 8, I p0.Heat), ci 0, (.tmp 11, (I (w64 (4000 * p0.Mass))))] (B x5), rp [(.tmp 6, B true), (.tmp 12, B x5), cb false] (B x5), rp [(.tmp 13, B x5)] (B false), sk 14 (B false), sk 14 (B false), sk 14 (B false), sk 14 (B false), sk 14 (B false), sk 14 (B false), rp [(.tmp 14, B false), (.tmp 20, (.lit undef)), cb false] (B false), mv 21 (B false), sk 22 (B false), sk 22 (B false), sk 22 (B false), rp [(.tmp 22, B false), (.tmp 25, (.lit undef)), cb false] (B false), mv 26 (B false)] ?_ ?_
      · exact ⟨astep_faddr rfl Try.underlying72 rfl rfl ti3 (by decide) rfl, astep_load rfl ti3 (by decide) rfl (nle rfl) rfl, astep_pcall (first := []) (cap := []) (vs := [I p0.Mass, I 0, I 1000000]) rfl enter82 (ref01_InX_ok N p0.Mass 0 1000000 _ hf1) rfl rfl (nl_cons nll (nl_cons nll (nl_cons nll nl_nil))) nll rfl, astep_b hb3 (astep_move rfl), astep_guard (astep_faddr rfl Try.underlying72 rfl rfl ti3 (by decide) rfl), astep_guard (astep_load rfl ti3 (by decide) rfl (nle rfl) rfl), astep_guard (astep_faddr rfl Try.underlying72 rfl rfl ti3 (by decide) rfl), astep_guard (astep_load rfl ti3 (by decide) rfl (nle rfl) rfl), astep_guard (astep_bin rfl rfl), astep_guard (astep_pcall (first := []) (cap := []) (vs := [I p0.Heat, I 0, (I (w64 (4000 * p0.Mass)))]) rfl enter82 (ref01_InX_ok N p0.Heat 0 (w64 (4000 * p0.Mass)) _ hf4) rfl rfl (nl_cons nll (nl_cons nll (nl_cons nll nl_nil))) nll rfl), astep_pick rfl rfl, astep_b hb6 (astep_move rfl), trivial, trivial, trivial, trivial, trivial, trivial, astep_pick rfl rfl, astep_move rfl, trivial, trivial, trivial, astep_pick rfl rfl, astep_assign rfl, trivial⟩
      refine awp_ret ?_
      obtain rfl := osi h
      exact ⟨⟨[B false], ⟨resOK_tmp (by kernel_rfl), trivial⟩, rfl⟩, nll, Nat.le_refl _, fun n hn => absurd hn (Nat.not_lt_zero n)⟩
  · replace h := bif_f hb3 h
    refine awp_reg [rb [(.tmp 1, .ref 0 4 0 0)] [(0, .own 4 [[I p0.Mass, I p0.Heat, I p0.Silica, I p0.Gas]])] (.ref 0 4 0 0), rb [(.tmp 3, .ref 0 4 0 0)] [(0, .own 4 [[I p0.Mass, I p0.Heat, I p0.Silica, I p0.Gas]])] (I p0.Mass), rp [fu 82, (.tmp 4, I p0.Mass), ci 0, ci 1000000] (B x2), rp [(.tmp 5, B x2)] (B false), sk 6 (B false), sk 6 (B false), sk 6 (B false), sk 6 (B false), sk 6 (B false), sk 6 (B false), rp [(.tmp 6, B false), (.tmp 12, (.lit undef)), cb false] (B false), mv 13 (B false), sk 14 (B false), sk 14 (B false), sk 14 (B false), sk 14 (B false), sk 14 (B false), sk 14 (B false), rp [(.tmp 14, B false), (.tmp 20, (.lit undef)), cb false] (B false), mv 21 (B false), sk 22 (B false), sk 22 (B false), sk 22 (B false), rp [(.tmp 22, B false), (.tmp 25, (.lit undef)), cb false] (B false), mv 26 (B false)] ?_ ?_
    · exact ⟨astep_faddr rfl Try.underlying72 rfl rfl ti3 (by decide) rfl, astep_load rfl ti3 (by decide) rfl (nle rfl) rfl, astep_pcall (first := []) (cap := []) (vs := [I p0.Mass, I 0, I 1000000]) rfl enter82 (ref01_InX_ok N p0.Mass 0 1000000 _ hf1) rfl rfl (nl_cons nll (nl_cons nll (nl_cons nll nl_nil))) nll rfl, astep_b hb3 (astep_move rfl), trivial, trivial, trivial, trivial, trivial, trivial, astep_pick rfl rfl, astep_move rfl, trivial, trivial, trivial, trivial, trivial, trivial, astep_pick rfl rfl, astep_move rfl, trivial, trivial, trivial, astep_pick rfl rfl, astep_assign rfl, trivial⟩
    refine awp_ret ?_
    obtain rfl := osi h
    exact ⟨⟨[B false], ⟨resOK_tmp (by kernel_rfl), trivial⟩, rfl⟩, nll, Nat.le_refl _, fun n hn => absurd hn (Nat.not_lt_zero n)⟩

end Go.Proofs.Ytgdepcgbjjgnfaa
