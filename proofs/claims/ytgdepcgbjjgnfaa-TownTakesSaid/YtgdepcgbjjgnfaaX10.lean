/-
  Functions of the program: what they compute, as plain functions, and that they do. No conditions.
-/
import Derived.Test.YtgdepcgbjjgnfaaX9
namespace Go.Proofs.Ytgdepcgbjjgnfaa
open Go.RowKit

def law01_BackX (_N : Nat) (p0 : GStream) : Option GStream :=
  some p0
set_option maxRecDepth 100000 in
set_option maxHeartbeats 4000000 in
theorem law01_BackX_ok (N : Nat) (p0 : GStream) (r : GStream) (h : law01_BackX N p0 = some r) : Spec Try.prog 44 [(.agg (c_GStream p0))] [] (.agg (c_GStream r)) [] := by
  refine spec_of_awp Try.func44 rfl 0 (nle rfl) (fun X φ0 w0 hφ0 => ?_)
  unfold law01_BackX at h
  refine awp_reg [⟨[(.tmp 0, (.agg [I p0.Mass, I p0.Heat, I p0.Silica, I p0.Gas]))], [(0, .unused)], .ref 0 4 0 0, [(0, .own 4 [[I p0.Mass, I p0.Heat, I p0.Silica, I p0.Gas]])], false⟩, ⟨[], [(1, .unused)], .ref 1 4 0 0, [(1, .own 4 [[I 0, I 0, I 0, I 0]])], false⟩] ?_ ?_
  · exact ⟨astep_box rfl (by rfl) rfl rfl, astep_alloc rfl tz72 rfl, trivial⟩
  refine awp_reg [rb [(.tmp 1, .ref 0 4 0 0)] [(0, .own 4 [[I p0.Mass, I p0.Heat, I p0.Silica, I p0.Gas]])] (.ref 0 4 0 0), rb [(.tmp 3, .ref 0 4 0 0)] [(0, .own 4 [[I p0.Mass, I p0.Heat, I p0.Silica, I p0.Gas]])] (I p0.Mass), rb [(.tmp 1, .ref 0 4 0 0)] [(0, .own 4 [[I p0.Mass, I p0.Heat, I p0.Silica, I p0.Gas]])] (.ref 0 4 0 1), rb [(.tmp 5, .ref 0 4 0 1)] [(0, .own 4 [[I p0.Mass, I p0.Heat, I p0.Silica, I p0.Gas]])] (I p0.Heat), rb [(.tmp 1, .ref 0 4 0 0)] [(0, .own 4 [[I p0.Mass, I p0.Heat, I p0.Silica, I p0.Gas]])] (.ref 0 4 0 2), rb [(.tmp 7, .ref 0 4 0 2)] [(0, .own 4 [[I p0.Mass, I p0.Heat, I p0.Silica, I p0.Gas]])] (I p0.Silica), rb [(.tmp 1, .ref 0 4 0 0)] [(0, .own 4 [[I p0.Mass, I p0.Heat, I p0.Silica, I p0.Gas]])] (.ref 0 4 0 3), rb [(.tmp 9, .ref 0 4 0 3)] [(0, .own 4 [[I p0.Mass, I p0.Heat, I p0.Silica, I p0.Gas]])] (I p0.Gas), rp [(.tmp 4, I p0.Mass), (.tmp 6, I p0.Heat), (.tmp 8, I p0.Silica), (.tmp 10, I p0.Gas)] (.agg [I p0.Mass, I p0.Heat, I p0.Silica, I p0.Gas]), ⟨[(.tmp 2, .ref 1 4 0 0), (.tmp 11, (.agg [I p0.Mass, I p0.Heat, I p0.Silica, I p0.Gas]))], [(1, .own 4 [[I 0, I 0, I 0, I 0]])], .any, [(1, .own 4 [[I p0.Mass, I p0.Heat, I p0.Silica, I p0.Gas]])], false⟩] ?_ ?_
  · exact ⟨astep_faddr rfl Try.underlying73 rfl rfl ti3 (by decide) rfl, astep_load rfl ti3 (by decide) rfl (nle rfl) rfl, astep_faddr rfl Try.underlying73 rfl rfl ti3 (by decide) rfl, astep_load rfl ti3 (by decide) rfl (nle rfl) rfl, astep_faddr rfl Try.underlying73 rfl rfl ti3 (by decide) rfl, astep_load rfl ti3 (by decide) rfl (nle rfl) rfl, astep_faddr rfl Try.underlying73 rfl rfl ti3 (by decide) rfl, astep_load rfl ti3 (by decide) rfl (nle rfl) rfl, astep_build (vs := [I p0.Mass, I p0.Heat, I p0.Silica, I p0.Gas]) rfl ts72 tz72 rfl (by rfl) rfl, astep_store rfl ti72 (by rfl) rfl (nle rfl) rfl, trivial⟩
  refine awp_ret ?_
  obtain rfl := osi h
  exact ⟨⟨[(.agg [I p0.Mass, I p0.Heat, I p0.Silica, I p0.Gas])], ⟨resOK_cell (n := 1) (m := 4) (j := 0) (i := 0) (xs := [[I p0.Mass, I p0.Heat, I p0.Silica, I p0.Gas]]) (by kernel_rfl) (by kernel_rfl) ti72 (by decide) rfl (nle rfl) rfl, trivial⟩, rfl⟩, (NLt.agg _ (nl_cons nll (nl_cons nll (nl_cons nll (nl_cons nll nl_nil))))), Nat.le_refl _, fun n hn => absurd hn (Nat.not_lt_zero n)⟩

def ref10_GivesX (_N : Nat) (p0 : GBrine) : Option Int :=
  (some (if (w64 (p0.Stream.Heat - (w64 (p0.Floor * p0.Stream.Mass)))) > 0 then w64 (p0.Stream.Heat - (w64 (p0.Floor * p0.Stream.Mass))) else 0)).bind fun x1 =>
  some x1
set_option maxRecDepth 100000 in
set_option maxHeartbeats 4000000 in
theorem ref10_GivesX_ok (N : Nat) (p0 : GBrine) (r : Int) (h : ref10_GivesX N p0 = some r) : Spec Try.prog 45 [(.agg (c_GBrine p0))] [] (I r) [] := by
  refine spec_of_awp Try.func45 rfl 0 (nle rfl) (fun X φ0 w0 hφ0 => ?_)
  unfold ref10_GivesX at h
  refine awp_reg [⟨[(.tmp 0, (.agg [I p0.Stream.Mass, I p0.Stream.Heat, I p0.Stream.Silica, I p0.Stream.Gas, I p0.Floor]))], [(0, .unused)], .ref 0 5 0 0, [(0, .own 5 [[I p0.Stream.Mass, I p0.Stream.Heat, I p0.Stream.Silica, I p0.Stream.Gas, I p0.Floor]])], false⟩, mc (.int .i64 0)] ?_ ?_
  · exact ⟨astep_box rfl (by rfl) rfl rfl, astep_assign rfl, trivial⟩
  obtain ⟨x1, hl2, h⟩ := bind_out h
  refine awp_reg [rb [(.tmp 1, .ref 0 5 0 0)] [(0, .own 5 [[I p0.Stream.Mass, I p0.Stream.Heat, I p0.Stream.Silica, I p0.Stream.Gas, I p0.Floor]])] (.ref 0 5 0 0), rb [(.tmp 3, .ref 0 5 0 0)] [(0, .own 5 [[I p0.Stream.Mass, I p0.Stream.Heat, I p0.Stream.Silica, I p0.Stream.Gas, I p0.Floor]])] (.ref 0 5 0 1), rb [(.tmp 4, .ref 0 5 0 1)] [(0, .own 5 [[I p0.Stream.Mass, I p0.Stream.Heat, I p0.Stream.Silica, I p0.Stream.Gas, I p0.Floor]])] (I p0.Stream.Heat), rb [(.tmp 1, .ref 0 5 0 0)] [(0, .own 5 [[I p0.Stream.Mass, I p0.Stream.Heat, I p0.Stream.Silica, I p0.Stream.Gas, I p0.Floor]])] (.ref 0 5 0 4), rb [(.tmp 6, .ref 0 5 0 4)] [(0, .own 5 [[I p0.Stream.Mass, I p0.Stream.Heat, I p0.Stream.Silica, I p0.Stream.Gas, I p0.Floor]])] (I p0.Floor), rb [(.tmp 1, .ref 0 5 0 0)] [(0, .own 5 [[I p0.Stream.Mass, I p0.Stream.Heat, I p0.Stream.Silica, I p0.Stream.Gas, I p0.Floor]])] (.ref 0 5 0 0), rb [(.tmp 8, .ref 0 5 0 0)] [(0, .own 5 [[I p0.Stream.Mass, I p0.Stream.Heat, I p0.Stream.Silica, I p0.Stream.Gas, I p0.Floor]])] (.ref 0 5 0 0), rb [(.tmp 9, .ref 0 5 0 0)] [(0, .own 5 [[I p0.Stream.Mass, I p0.Stream.Heat, I p0.Stream.Silica, I p0.Stream.Gas, I p0.Floor]])] (I p0.Stream.Mass), rp [(.tmp 7, I p0.Floor), (.tmp 10, I p0.Stream.Mass)] (I (w64 (p0.Floor * p0.Stream.Mass))), rp [(.tmp 5, I p0.Stream.Heat), (.tmp 11, (I (w64 (p0.Floor * p0.Stream.Mass))))] (I (w64 (p0.Stream.Heat - (w64 (p0.Floor * p0.Stream.Mass))))), rp [ci 0, (.tmp 12, (I (w64 (p0.Stream.Heat - (w64 (p0.Floor * p0.Stream.Mass))))))] (I x1), mv 13 (I x1)] ?_ ?_
  · exact ⟨astep_faddr rfl Try.underlying83 rfl rfl ti72 (by decide) rfl, astep_faddr rfl Try.underlying72 rfl rfl ti3 (by decide) rfl, astep_load rfl ti3 (by decide) rfl (nle rfl) rfl, astep_faddr rfl Try.underlying83 rfl rfl ti3 (by decide) rfl, astep_load rfl ti3 (by decide) rfl (nle rfl) rfl, astep_faddr rfl Try.underlying83 rfl rfl ti72 (by decide) rfl, astep_faddr rfl Try.underlying72 rfl rfl ti3 (by decide) rfl, astep_load rfl ti3 (by decide) rfl (nle rfl) rfl, astep_bin rfl rfl, astep_bin rfl rfl, astep_i hl2 (astep_max rfl), astep_assign rfl, trivial⟩
  refine awp_ret ?_
  obtain rfl := osi h
  exact ⟨⟨[I x1], ⟨resOK_tmp (by kernel_rfl), trivial⟩, rfl⟩, nll, Nat.le_refl _, fun n hn => absurd hn (Nat.not_lt_zero n)⟩

def law10_TownTakesX (N : Nat) (p0 : GStream) (p1 : Int) (p2 : Int) : Option Bool :=
  (law01_StreamX N p0).bind fun x2 =>
  (town_TakeX N (⟨x2, p1⟩ : GBrine) p2).bind fun x4 =>
  joinK (fun y5 =>
      bif (y5 != 0) then
        bif (x4.2.2 == y5) then
          bif (x4.2.1 == 0) then
            (law01_BackX N (⟨x4.1.Mass, x4.1.Heat, x4.1.Silica, x4.1.Gas⟩ : GStream)).bind fun x11 =>
            bif (([x11.Mass, x11.Heat, x11.Silica, x11.Gas] : List Int) == [0, 0, 0, 0]) then
              (law10_wakesX N ).bind fun x14 =>
              some x14
            else
              some false
          else
            some false
        else
          some false
      else
        (ref10_GivesX N (⟨p0, p1⟩ : GBrine)).bind fun x16 =>
        (some (if x16 < p2 then x16 else p2)).bind fun x17 =>
        bif (x4.2.2 == 0) then
          bif (x4.2.1 == x17) then
            (law01_BackX N (⟨x4.1.Mass, x4.1.Heat, x4.1.Silica, x4.1.Gas⟩ : GStream)).bind fun x22 =>
            bif (([x22.Mass, x22.Heat, x22.Silica, x22.Gas] : List Int) == [p0.Mass, w64 (p0.Heat - x17), p0.Silica, p0.Gas]) then
              (law10_wakesX N ).bind fun x25 =>
              some x25
            else
              some false
          else
            some false
        else
          some false) fun k6 : Int → Option Bool =>
  (ref01_RightStreamX N p0).bind fun x27 =>
  bif (!x27) then
    k6 (1)
  else
    (ref10_InX N p1 0 4000).bind fun x30 =>
    bif (!x30) then
      k6 (1)
    else
      (ref10_InX N p2 0 100000000000).bind fun x33 =>
      bif (!x33) then
        k6 (2)
      else
        k6 (0)
set_option maxRecDepth 100000 in
set_option maxHeartbeats 4000000 in
theorem law10_TownTakesX_ok (N : Nat) (p0 : GStream) (p1 : Int) (p2 : Int) (r : Bool) (h : law10_TownTakesX N p0 p1 p2 = some r) : Spec Try.prog 10 [(.agg (c_GStream p0)), (I p1), (I p2)] [] (B r) [] := by
  refine spec_of_awp Try.func10 rfl 0 (nle rfl) (fun X φ0 w0 hφ0 => ?_)
  unfold law10_TownTakesX at h
  refine awp_reg [⟨[(.tmp 0, (.agg [I p0.Mass, I p0.Heat, I p0.Silica, I p0.Gas]))], [(0, .unused)], .ref 0 4 0 0, [(0, .own 4 [[I p0.Mass, I p0.Heat, I p0.Silica, I p0.Gas]])], false⟩, mc (.bool false)] ?_ ?_
  · exact ⟨astep_box rfl (by rfl) rfl rfl, astep_assign rfl, trivial⟩
  obtain ⟨x2, hf1, h⟩ := bind_out h
  obtain ⟨x4, hf3, h⟩ := bind_out h
  refine awp_reg [rb [(.tmp 3, .ref 0 4 0 0)] [(0, .own 4 [[I p0.Mass, I p0.Heat, I p0.Silica, I p0.Gas]])] (.agg [I p0.Mass, I p0.Heat, I p0.Silica, I p0.Gas]), rp [fu 42, (.tmp 13, (.agg [I p0.Mass, I p0.Heat, I p0.Silica, I p0.Gas]))] (.agg [I x2.Mass, I x2.Heat, I x2.Silica, I x2.Gas]), mv 1 (I p1), rp [(.tmp 14, (.agg [I x2.Mass, I x2.Heat, I x2.Silica, I x2.Gas])), (.tmp 15, I p1)] (.agg [I x2.Mass, I x2.Heat, I x2.Silica, I x2.Gas, I p1]), mv 2 (I p2), rp [fu 41, (.tmp 16, (.agg [I x2.Mass, I x2.Heat, I x2.Silica, I x2.Gas, I p1])), (.tmp 17, I p2)] (.tup [(.agg [I x4.1.Mass, I x4.1.Heat, I x4.1.Silica, I x4.1.Gas]), I x4.2.1, I x4.2.2]), mv 18 (.tup [(.agg [I x4.1.Mass, I x4.1.Heat, I x4.1.Silica, I x4.1.Gas]), I x4.2.1, I x4.2.2]), rp [(.tmp 12, (.tup [(.agg [I x4.1.Mass, I x4.1.Heat, I x4.1.Silica, I x4.1.Gas]), I x4.2.1, I x4.2.2]))] (.agg [I x4.1.Mass, I x4.1.Heat, I x4.1.Silica, I x4.1.Gas]), rp [(.tmp 12, (.tup [(.agg [I x4.1.Mass, I x4.1.Heat, I x4.1.Silica, I x4.1.Gas]), I x4.2.1, I x4.2.2]))] (I x4.2.1), rp [(.tmp 12, (.tup [(.agg [I x4.1.Mass, I x4.1.Heat, I x4.1.Silica, I x4.1.Gas]), I x4.2.1, I x4.2.2]))] (I x4.2.2), ⟨[], [(1, .unused)], .ref 1 4 0 0, [(1, .own 4 [[I 0, I 0, I 0, I 0]])], false⟩, ⟨[(.tmp 7, .ref 1 4 0 0), (.tmp 19, (.agg [I x4.1.Mass, I x4.1.Heat, I x4.1.Silica, I x4.1.Gas]))], [(1, .own 4 [[I 0, I 0, I 0, I 0]])], .any, [(1, .own 4 [[I x4.1.Mass, I x4.1.Heat, I x4.1.Silica, I x4.1.Gas]])], false⟩, mv 20 (I x4.2.1), mv 21 (I x4.2.2)] ?_ ?_
  · exact ⟨astep_load rfl ti72 (by decide) rfl (nle rfl) rfl, astep_pcall (first := []) (cap := []) (vs := [(.agg [I p0.Mass, I p0.Heat, I p0.Silica, I p0.Gas])]) rfl enter42 (law01_StreamX_ok N p0 _ hf1) rfl rfl (nl_cons (NLt.agg _ (nl_cons nll (nl_cons nll (nl_cons nll (nl_cons nll nl_nil))))) nl_nil) (NLt.agg _ (nl_cons nll (nl_cons nll (nl_cons nll (nl_cons nll nl_nil))))) rfl, astep_move rfl, astep_build (vs := [(.agg [I x2.Mass, I x2.Heat, I x2.Silica, I x2.Gas]), I p1]) rfl ts78 tz78 rfl (by rfl) rfl, astep_move rfl, astep_pcall (first := []) (cap := []) (vs := [(.agg [I x2.Mass, I x2.Heat, I x2.Silica, I x2.Gas, I p1]), I p2]) rfl enter41 (town_TakeX_ok N (⟨x2, p1⟩ : GBrine) p2 _ hf3) rfl rfl (nl_cons (NLt.agg _ (nl_cons nll (nl_cons nll (nl_cons nll (nl_cons nll (nl_cons nll nl_nil)))))) (nl_cons nll nl_nil)) (NLt.tup _ (nl_cons (NLt.agg _ (nl_cons nll (nl_cons nll (nl_cons nll (nl_cons nll nl_nil))))) (nl_cons nll (nl_cons nll nl_nil)))) rfl, astep_move rfl, astep_extract rfl rfl, astep_extract rfl rfl, astep_extract rfl rfl, astep_alloc rfl tz73 rfl, astep_store rfl ti73 (by rfl) rfl (nle rfl) rfl, astep_assign rfl, astep_assign rfl, trivial⟩
  refine awp_reg [mc (.int .i64 0)] ?_ ?_
  · exact ⟨astep_assign rfl, trivial⟩
  obtain ⟨k6, hk_k6, h⟩ := joinK_out h
  refine awp_join (τ := Int) (fun t => k6 t = some r) (fun y5 => ⟨mk 78 [(1, I p1), (2, I p2), (3, .ref 0 4 0 0), (7, .ref 1 4 0 0), (8, I x4.2.1), (9, I x4.2.2), (10, I y5)], [(.own 4 [[I p0.Mass, I p0.Heat, I p0.Silica, I p0.Gas]]), (.own 4 [[I x4.1.Mass, I x4.1.Heat, I x4.1.Silica, I x4.1.Gas]])]⟩) (fun y5 h => ?_) ?_
  · subst hk_k6
    refine awp_seq ?_
    refine awp_reg [mv 10 (I y5), rp [(.tmp 33, I y5), ci 0] (B ((y5 != 0)))] ?_ ?_
    · exact ⟨astep_move rfl, astep_bin rfl rfl, trivial⟩
    rcases bft ((y5 != 0)) with hc7 | hc7
    · replace h := bif_t hc7 h
      refine awp_ift hc7 (by kernel_rfl) ?_
      rcases bft ((x4.2.2 == y5)) with hb8 | hb8
      · replace h := bif_t hb8 h
        rcases bft ((x4.2.1 == 0)) with hb9 | hb9
        · replace h := bif_t hb9 h
          obtain ⟨x11, hf10, h⟩ := bind_out h
          rcases bft ((([x11.Mass, x11.Heat, x11.Silica, x11.Gas] : List Int) == [0, 0, 0, 0])) with hb12 | hb12
          · replace h := bif_t hb12 h
            obtain ⟨x14, hf13, h⟩ := bind_out h
            refine awp_reg [mv 9 (I x4.2.2), mv 10 (I y5), rp [(.tmp 35, I x4.2.2), (.tmp 36, I y5)] (B ((x4.2.2 == y5))), rp [(.tmp 37, (B ((x4.2.2 == y5))))] (B true), rp [(.tmp 38, B true), (.tmp 8, I x4.2.1)] (I x4.2.1), rp [(.tmp 38, B true), (.tmp 39, I x4.2.1), ci 0] (B ((x4.2.1 == 0))), rp [(.tmp 38, B true), (.tmp 40, (B ((x4.2.1 == 0)))), cb false] (B ((x4.2.1 == 0))), rp [(.tmp 41, (B ((x4.2.1 == 0))))] (B true), rb [(.tmp 42, B true), (.tmp 7, .ref 1 4 0 0)] [(1, .own 4 [[I x4.1.Mass, I x4.1.Heat, I x4.1.Silica, I x4.1.Gas]])] (.agg [I x4.1.Mass, I x4.1.Heat, I x4.1.Silica, I x4.1.Gas]), rp [(.tmp 42, B true), fu 44, (.tmp 43, (.agg [I x4.1.Mass, I x4.1.Heat, I x4.1.Silica, I x4.1.Gas]))] (.agg [I x11.Mass, I x11.Heat, I x11.Silica, I x11.Gas]), rp [(.tmp 42, B true)] (.agg [I 0, I 0, I 0, I 0]), rp [(.tmp 42, B true), (.tmp 44, (.agg [I x11.Mass, I x11.Heat, I x11.Silica, I x11.Gas])), (.tmp 45, (.agg [I 0, I 0, I 0, I 0]))] (B ((([x11.Mass, x11.Heat, x11.Silica, x11.Gas] : List Int) == [0, 0, 0, 0]))), rp [(.tmp 42, B true), (.tmp 46, (B ((([x11.Mass, x11.Heat, x11.Silica, x11.Gas] : List Int) == [0, 0, 0, 0])))), cb false] (B ((([x11.Mass, x11.Heat, x11.Silica, x11.Gas] : List Int) == [0, 0, 0, 0]))), rp [(.tmp 47, (B ((([x11.Mass, x11.Heat, x11.Silica, x11.Gas] : List Int) == [0, 0, 0, 0]))))] (B true), rp [(.tmp 48, B true), fu 21] (B x14), rp [(.tmp 48, B true), (.tmp 49, B x14), cb false] (B x14), mv 50 (B x14)] ?_ ?_
            · exact ⟨astep_move rfl, astep_move rfl, astep_bin rfl rfl, astep_b hb8 (astep_move rfl), astep_guard (astep_move rfl), astep_guard (astep_bin rfl rfl), astep_pick rfl rfl, astep_b hb9 (astep_move rfl), astep_guard (astep_load rfl ti73 (by decide) rfl (nle rfl) rfl), astep_guard (astep_pcall (first := []) (cap := []) (vs := [(.agg [I x4.1.Mass, I x4.1.Heat, I x4.1.Silica, I x4.1.Gas])]) rfl enter44 (law01_BackX_ok N (⟨x4.1.Mass, x4.1.Heat, x4.1.Silica, x4.1.Gas⟩ : GStream) _ hf10) rfl rfl (nl_cons (NLt.agg _ (nl_cons nll (nl_cons nll (nl_cons nll (nl_cons nll nl_nil))))) nl_nil) (NLt.agg _ (nl_cons nll (nl_cons nll (nl_cons nll (nl_cons nll nl_nil))))) rfl), astep_guard (astep_build (vs := []) rfl ts72 tz72 rfl (by rfl) rfl), astep_guard (astep_eqs (ls := [x11.Mass, x11.Heat, x11.Silica, x11.Gas]) (ks := [0, 0, 0, 0]) rfl rfl eqt72 (by kernel_rfl) rfl rfl), astep_pick rfl rfl, astep_b hb12 (astep_move rfl), astep_guard (astep_pcall (first := []) (cap := []) (vs := []) rfl enter21 (law10_wakesX_ok N  _ hf13) rfl rfl nl_nil nll rfl), astep_pick rfl rfl, astep_assign rfl, trivial⟩
            refine awp_ret ?_
            refine thenA_r ?_
            obtain rfl := osi h
            exact ⟨⟨[B x14], ⟨resOK_tmp (by kernel_rfl), trivial⟩, rfl⟩, nll, Nat.le_refl _, fun n hn => absurd hn (Nat.not_lt_zero n)⟩
          · replace h := bif_f hb12 h
            refine awp_reg [mv 9 (I x4.2.2), mv 10 (I y5), rp [(.tmp 35, I x4.2.2), (.tmp 36, I y5)] (B ((x4.2.2 == y5))), rp [(.tmp 37, (B ((x4.2.2 == y5))))] (B true), rp [(.tmp 38, B true), (.tmp 8, I x4.2.1)] (I x4.2.1), rp [(.tmp 38, B true), (.tmp 39, I x4.2.1), ci 0] (B ((x4.2.1 == 0))), rp [(.tmp 38, B true), (.tmp 40, (B ((x4.2.1 == 0)))), cb false] (B ((x4.2.1 == 0))), rp [(.tmp 41, (B ((x4.2.1 == 0))))] (B true), rb [(.tmp 42, B true), (.tmp 7, .ref 1 4 0 0)] [(1, .own 4 [[I x4.1.Mass, I x4.1.Heat, I x4.1.Silica, I x4.1.Gas]])] (.agg [I x4.1.Mass, I x4.1.Heat, I x4.1.Silica, I x4.1.Gas]), rp [(.tmp 42, B true), fu 44, (.tmp 43, (.agg [I x4.1.Mass, I x4.1.Heat, I x4.1.Silica, I x4.1.Gas]))] (.agg [I x11.Mass, I x11.Heat, I x11.Silica, I x11.Gas]), rp [(.tmp 42, B true)] (.agg [I 0, I 0, I 0, I 0]), rp [(.tmp 42, B true), (.tmp 44, (.agg [I x11.Mass, I x11.Heat, I x11.Silica, I x11.Gas])), (.tmp 45, (.agg [I 0, I 0, I 0, I 0]))] (B ((([x11.Mass, x11.Heat, x11.Silica, x11.Gas] : List Int) == [0, 0, 0, 0]))), rp [(.tmp 42, B true), (.tmp 46, (B ((([x11.Mass, x11.Heat, x11.Silica, x11.Gas] : List Int) == [0, 0, 0, 0])))), cb false] (B ((([x11.Mass, x11.Heat, x11.Silica, x11.Gas] : List Int) == [0, 0, 0, 0]))), rp [(.tmp 47, (B ((([x11.Mass, x11.Heat, x11.Silica, x11.Gas] : List Int) == [0, 0, 0, 0]))))] (B false), sk 48 (B false), rp [(.tmp 48, B false), (.tmp 49, (.lit undef)), cb false] (B false), mv 50 (B false)] ?_ ?_
            · exact ⟨astep_move rfl, astep_move rfl, astep_bin rfl rfl, astep_b hb8 (astep_move rfl), astep_guard (astep_move rfl), astep_guard (astep_bin rfl rfl), astep_pick rfl rfl, astep_b hb9 (astep_move rfl), astep_guard (astep_load rfl ti73 (by decide) rfl (nle rfl) rfl), astep_guard (astep_pcall (first := []) (cap := []) (vs := [(.agg [I x4.1.Mass, I x4.1.Heat, I x4.1.Silica, I x4.1.Gas])]) rfl enter44 (law01_BackX_ok N (⟨x4.1.Mass, x4.1.Heat, x4.1.Silica, x4.1.Gas⟩ : GStream) _ hf10) rfl rfl (nl_cons (NLt.agg _ (nl_cons nll (nl_cons nll (nl_cons nll (nl_cons nll nl_nil))))) nl_nil) (NLt.agg _ (nl_cons nll (nl_cons nll (nl_cons nll (nl_cons nll nl_nil))))) rfl), astep_guard (astep_build (vs := []) rfl ts72 tz72 rfl (by rfl) rfl), astep_guard (astep_eqs (ls := [x11.Mass, x11.Heat, x11.Silica, x11.Gas]) (ks := [0, 0, 0, 0]) rfl rfl eqt72 (by kernel_rfl) rfl rfl), astep_pick rfl rfl, astep_b hb12 (astep_move rfl), trivial, astep_pick rfl rfl, astep_assign rfl, trivial⟩
            refine awp_ret ?_
            refine thenA_r ?_
            obtain rfl := osi h
            exact ⟨⟨[B false], ⟨resOK_tmp (by kernel_rfl), trivial⟩, rfl⟩, nll, Nat.le_refl _, fun n hn => absurd hn (Nat.not_lt_zero n)⟩
        · replace h := bif_f hb9 h
          refine awp_reg [mv 9 (I x4.2.2), mv 10 (I y5), rp [(.tmp 35, I x4.2.2), (.tmp 36, I y5)] (B ((x4.2.2 == y5))), rp [(.tmp 37, (B ((x4.2.2 == y5))))] (B true), rp [(.tmp 38, B true), (.tmp 8, I x4.2.1)] (I x4.2.1), rp [(.tmp 38, B true), (.tmp 39, I x4.2.1), ci 0] (B ((x4.2.1 == 0))), rp [(.tmp 38, B true), (.tmp 40, (B ((x4.2.1 == 0)))), cb false] (B ((x4.2.1 == 0))), rp [(.tmp 41, (B ((x4.2.1 == 0))))] (B false), sk 42 (B false), sk 42 (B false), sk 42 (B false), sk 42 (B false), rp [(.tmp 42, B false), (.tmp 46, (.lit undef)), cb false] (B false), mv 47 (B false), sk 48 (B false), rp [(.tmp 48, B false), (.tmp 49, (.lit undef)), cb false] (B false), mv 50 (B false)] ?_ ?_
          · exact ⟨astep_move rfl, astep_move rfl, astep_bin rfl rfl, astep_b hb8 (astep_move rfl), astep_guard (astep_move rfl), astep_guard (astep_bin rfl rfl), astep_pick rfl rfl, astep_b hb9 (astep_move rfl), trivial, trivial, trivial, trivial, astep_pick rfl rfl, astep_move rfl, trivial, astep_pick rfl rfl, astep_assign rfl, trivial⟩
          refine awp_ret ?_
          refine thenA_r ?_
          obtain rfl := osi h
          exact ⟨⟨[B false], ⟨resOK_tmp (by kernel_rfl), trivial⟩, rfl⟩, nll, Nat.le_refl _, fun n hn => absurd hn (Nat.not_lt_zero n)⟩
      · replace h := bif_f hb8 h
        refine awp_reg [mv 9 (I x4.2.2), mv 10 (I y5), rp [(.tmp 35, I x4.2.2), (.tmp 36, I y5)] (B ((x4.2.2 == y5))), rp [(.tmp 37, (B ((x4.2.2 == y5))))] (B false), sk 38 (B false), sk 38 (B false), rp [(.tmp 38, B false), (.tmp 40, (.lit undef)), cb false] (B false), mv 41 (B false), sk 42 (B false), sk 42 (B false), sk 42 (B false), sk 42 (B false), rp [(.tmp 42, B false), (.tmp 46, (.lit undef)), cb false] (B false), mv 47 (B false), sk 48 (B false), rp [(.tmp 48, B false), (.tmp 49, (.lit undef)), cb false] (B false), mv 50 (B false)] ?_ ?_
        · exact ⟨astep_move rfl, astep_move rfl, astep_bin rfl rfl, astep_b hb8 (astep_move rfl), trivial, trivial, astep_pick rfl rfl, astep_move rfl, trivial, trivial, trivial, trivial, astep_pick rfl rfl, astep_move rfl, trivial, astep_pick rfl rfl, astep_assign rfl, trivial⟩
        refine awp_ret ?_
        refine thenA_r ?_
        obtain rfl := osi h
        exact ⟨⟨[B false], ⟨resOK_tmp (by kernel_rfl), trivial⟩, rfl⟩, nll, Nat.le_refl _, fun n hn => absurd hn (Nat.not_lt_zero n)⟩
    · replace h := bif_f hc7 h
      refine awp_ifn hc7 (by kernel_rfl) ?_
      refine awp_skip ?_
      refine thenA_n ?_
      obtain ⟨x16, hf15, h⟩ := bind_out h
      obtain ⟨x17, hl18, h⟩ := bind_out h
      refine awp_reg [mv 2 (I p2), rb [(.tmp 3, .ref 0 4 0 0)] [(0, .own 4 [[I p0.Mass, I p0.Heat, I p0.Silica, I p0.Gas]])] (.agg [I p0.Mass, I p0.Heat, I p0.Silica, I p0.Gas]), mv 1 (I p1), rp [(.tmp 52, (.agg [I p0.Mass, I p0.Heat, I p0.Silica, I p0.Gas])), (.tmp 53, I p1)] (.agg [I p0.Mass, I p0.Heat, I p0.Silica, I p0.Gas, I p1]), rp [fu 45, (.tmp 54, (.agg [I p0.Mass, I p0.Heat, I p0.Silica, I p0.Gas, I p1]))] (I x16), rp [(.tmp 51, I p2), (.tmp 55, I x16)] (I ((if x16 < p2 then x16 else p2))), rp [(.tmp 56, (I ((if x16 < p2 then x16 else p2))))] (I x17)] ?_ ?_
      · exact ⟨astep_move rfl, astep_load rfl ti72 (by decide) rfl (nle rfl) rfl, astep_move rfl, astep_build (vs := [(.agg [I p0.Mass, I p0.Heat, I p0.Silica, I p0.Gas]), I p1]) rfl ts83 tz83 rfl (by rfl) rfl, astep_pcall (first := []) (cap := []) (vs := [(.agg [I p0.Mass, I p0.Heat, I p0.Silica, I p0.Gas, I p1])]) rfl enter45 (ref10_GivesX_ok N (⟨p0, p1⟩ : GBrine) _ hf15) rfl rfl (nl_cons (NLt.agg _ (nl_cons nll (nl_cons nll (nl_cons nll (nl_cons nll (nl_cons nll nl_nil)))))) nl_nil) nll rfl, astep_min rfl, astep_i hl18 (astep_assign rfl), trivial⟩
      refine awp_reg [rb [(.tmp 3, .ref 0 4 0 0)] [(0, .own 4 [[I p0.Mass, I p0.Heat, I p0.Silica, I p0.Gas]])] (.ref 0 4 0 1), rb [(.tmp 57, .ref 0 4 0 1)] [(0, .own 4 [[I p0.Mass, I p0.Heat, I p0.Silica, I p0.Gas]])] (I p0.Heat), mv 11 (I x17), rp [(.tmp 58, I p0.Heat), (.tmp 59, I x17)] (I (w64 (p0.Heat - x17))), rb [(.tmp 3, .ref 0 4 0 0)] [(0, .own 4 [[I p0.Mass, I p0.Heat, I p0.Silica, I p0.Gas]])] (.ref 0 4 0 1), ⟨[(.tmp 61, .ref 0 4 0 1), (.tmp 60, (I (w64 (p0.Heat - x17))))], [(0, .own 4 [[I p0.Mass, I p0.Heat, I p0.Silica, I p0.Gas]])], .any, [(0, (.own 4 [[I p0.Mass, (I (w64 (p0.Heat - x17))), I p0.Silica, I p0.Gas]]))], false⟩] ?_ ?_
      · exact ⟨astep_faddr rfl Try.underlying72 rfl rfl ti3 (by decide) rfl, astep_load rfl ti3 (by decide) rfl (nle rfl) rfl, astep_move rfl, astep_bin rfl rfl, astep_faddr rfl Try.underlying72 rfl rfl ti3 (by decide) rfl, astep_store rfl ti3 (by rfl) rfl (nle rfl) rfl, trivial⟩
      rcases bft ((x4.2.2 == 0)) with hb19 | hb19
      · replace h := bif_t hb19 h
        rcases bft ((x4.2.1 == x17)) with hb20 | hb20
        · replace h := bif_t hb20 h
          obtain ⟨x22, hf21, h⟩ := bind_out h
          rcases bft ((([x22.Mass, x22.Heat, x22.Silica, x22.Gas] : List Int) == [p0.Mass, w64 (p0.Heat - x17), p0.Silica, p0.Gas])) with hb23 | hb23
          · replace h := bif_t hb23 h
            obtain ⟨x25, hf24, h⟩ := bind_out h
            refine awp_regd [mv 9 (I x4.2.2), rp [(.tmp 62, I x4.2.2), ci 0] (B ((x4.2.2 == 0))), rp [(.tmp 63, (B ((x4.2.2 == 0))))] (B true), rp [(.tmp 64, B true), (.tmp 8, I x4.2.1)] (I x4.2.1), rp [(.tmp 64, B true), (.tmp 11, I x17)] (I x17), rp [(.tmp 64, B true), (.tmp 65, I x4.2.1), (.tmp 66, I x17)] (B ((x4.2.1 == x17))), rp [(.tmp 64, B true), (.tmp 67, (B ((x4.2.1 == x17)))), cb false] (B ((x4.2.1 == x17))), rp [(.tmp 68, (B ((x4.2.1 == x17))))] (B true), rb [(.tmp 69, B true), (.tmp 7, .ref 1 4 0 0)] [(1, .own 4 [[I x4.1.Mass, I x4.1.Heat, I x4.1.Silica, I x4.1.Gas]])] (.agg [I x4.1.Mass, I x4.1.Heat, I x4.1.Silica, I x4.1.Gas]), rp [(.tmp 69, B true), fu 44, (.tmp 70, (.agg [I x4.1.Mass, I x4.1.Heat, I x4.1.Silica, I x4.1.Gas]))] (.agg [I x22.Mass, I x22.Heat, I x22.Silica, I x22.Gas]), rb [(.tmp 69, B true), (.tmp 3, .ref 0 4 0 0)] [(0, (.own 4 [[I p0.Mass, (I (w64 (p0.Heat - x17))), I p0.Silica, I p0.Gas]]))] (.agg [I p0.Mass, (I (w64 (p0.Heat - x17))), I p0.Silica, I p0.Gas]), rp [(.tmp 69, B true), (.tmp 71, (.agg [I x22.Mass, I x22.Heat, I x22.Silica, I x22.Gas])), (.tmp 72, (.agg [I p0.Mass, (I (w64 (p0.Heat - x17))), I p0.Silica, I p0.Gas]))] (B ((([x22.Mass, x22.Heat, x22.Silica, x22.Gas] : List Int) == [p0.Mass, w64 (p0.Heat - x17), p0.Silica, p0.Gas]))), rp [(.tmp 69, B true), (.tmp 73, (B ((([x22.Mass, x22.Heat, x22.Silica, x22.Gas] : List Int) == [p0.Mass, w64 (p0.Heat - x17), p0.Silica, p0.Gas])))), cb false] (B ((([x22.Mass, x22.Heat, x22.Silica, x22.Gas] : List Int) == [p0.Mass, w64 (p0.Heat - x17), p0.Silica, p0.Gas]))), rp [(.tmp 74, (B ((([x22.Mass, x22.Heat, x22.Silica, x22.Gas] : List Int) == [p0.Mass, w64 (p0.Heat - x17), p0.Silica, p0.Gas]))))] (B true), rp [(.tmp 75, B true), fu 21] (B x25), rp [(.tmp 75, B true), (.tmp 76, B x25), cb false] (B x25), mv 77 (B x25)] ?_ ?_
            · exact ⟨astep_move rfl, astep_bin rfl rfl, astep_b hb19 (astep_move rfl), astep_guard (astep_move rfl), astep_guard (astep_move rfl), astep_guard (astep_bin rfl rfl), astep_pick rfl rfl, astep_b hb20 (astep_move rfl), astep_guard (astep_load rfl ti73 (by decide) rfl (nle rfl) rfl), astep_guard (astep_pcall (first := []) (cap := []) (vs := [(.agg [I x4.1.Mass, I x4.1.Heat, I x4.1.Silica, I x4.1.Gas])]) rfl enter44 (law01_BackX_ok N (⟨x4.1.Mass, x4.1.Heat, x4.1.Silica, x4.1.Gas⟩ : GStream) _ hf21) rfl rfl (nl_cons (NLt.agg _ (nl_cons nll (nl_cons nll (nl_cons nll (nl_cons nll nl_nil))))) nl_nil) (NLt.agg _ (nl_cons nll (nl_cons nll (nl_cons nll (nl_cons nll nl_nil))))) rfl), astep_guard (astep_load rfl ti72 (by decide) rfl (nle rfl) rfl), astep_guard (astep_eqs (ls := [x22.Mass, x22.Heat, x22.Silica, x22.Gas]) (ks := [p0.Mass, w64 (p0.Heat - x17), p0.Silica, p0.Gas]) rfl rfl eqt72 (by kernel_rfl) rfl rfl), astep_pick rfl rfl, astep_b hb23 (astep_move rfl), astep_guard (astep_pcall (first := []) (cap := []) (vs := []) rfl enter21 (law10_wakesX_ok N  _ hf24) rfl rfl nl_nil nll rfl), astep_pick rfl rfl, astep_assign rfl, trivial⟩
            refine awp_ret ?_
            obtain rfl := osi h
            exact ⟨⟨[B x25], ⟨resOK_tmp (by kernel_rfl), trivial⟩, rfl⟩, nll, Nat.le_refl _, fun n hn => absurd hn (Nat.not_lt_zero n)⟩
          · replace h := bif_f hb23 h
            refine awp_regd [mv 9 (I x4.2.2), rp [(.tmp 62, I x4.2.2), ci 0] (B ((x4.2.2 == 0))), rp [(.tmp 63, (B ((x4.2.2 == 0))))] (B true), rp [(.tmp 64, B true), (.tmp 8, I x4.2.1)] (I x4.2.1), rp [(.tmp 64, B true), (.tmp 11, I x17)] (I x17), rp [(.tmp 64, B true), (.tmp 65, I x4.2.1), (.tmp 66, I x17)] (B ((x4.2.1 == x17))), rp [(.tmp 64, B true), (.tmp 67, (B ((x4.2.1 == x17)))), cb false] (B ((x4.2.1 == x17))), rp [(.tmp 68, (B ((x4.2.1 == x17))))] (B true), rb [(.tmp 69, B true), (.tmp 7, .ref 1 4 0 0)] [(1, .own 4 [[I x4.1.Mass, I x4.1.Heat, I x4.1.Silica, I x4.1.Gas]])] (.agg [I x4.1.Mass, I x4.1.Heat, I x4.1.Silica, I x4.1.Gas]), rp [(.tmp 69, B true), fu 44, (.tmp 70, (.agg [I x4.1.Mass, I x4.1.Heat, I x4.1.Silica, I x4.1.Gas]))] (.agg [I x22.Mass, I x22.Heat, I x22.Silica, I x22.Gas]), rb [(.tmp 69, B true), (.tmp 3, .ref 0 4 0 0)] [(0, (.own 4 [[I p0.Mass, (I (w64 (p0.Heat - x17))), I p0.Silica, I p0.Gas]]))] (.agg [I p0.Mass, (I (w64 (p0.Heat - x17))), I p0.Silica, I p0.Gas]), rp [(.tmp 69, B true), (.tmp 71, (.agg [I x22.Mass, I x22.Heat, I x22.Silica, I x22.Gas])), (.tmp 72, (.agg [I p0.Mass, (I (w64 (p0.Heat - x17))), I p0.Silica, I p0.Gas]))] (B ((([x22.Mass, x22.Heat, x22.Silica, x22.Gas] : List Int) == [p0.Mass, w64 (p0.Heat - x17), p0.Silica, p0.Gas]))), rp [(.tmp 69, B true), (.tmp 73, (B ((([x22.Mass, x22.Heat, x22.Silica, x22.Gas] : List Int) == [p0.Mass, w64 (p0.Heat - x17), p0.Silica, p0.Gas])))), cb false] (B ((([x22.Mass, x22.Heat, x22.Silica, x22.Gas] : List Int) == [p0.Mass, w64 (p0.Heat - x17), p0.Silica, p0.Gas]))), rp [(.tmp 74, (B ((([x22.Mass, x22.Heat, x22.Silica, x22.Gas] : List Int) == [p0.Mass, w64 (p0.Heat - x17), p0.Silica, p0.Gas]))))] (B false), sk 75 (B false), rp [(.tmp 75, B false), (.tmp 76, (.lit undef)), cb false] (B false), mv 77 (B false)] ?_ ?_
            · exact ⟨astep_move rfl, astep_bin rfl rfl, astep_b hb19 (astep_move rfl), astep_guard (astep_move rfl), astep_guard (astep_move rfl), astep_guard (astep_bin rfl rfl), astep_pick rfl rfl, astep_b hb20 (astep_move rfl), astep_guard (astep_load rfl ti73 (by decide) rfl (nle rfl) rfl), astep_guard (astep_pcall (first := []) (cap := []) (vs := [(.agg [I x4.1.Mass, I x4.1.Heat, I x4.1.Silica, I x4.1.Gas])]) rfl enter44 (law01_BackX_ok N (⟨x4.1.Mass, x4.1.Heat, x4.1.Silica, x4.1.Gas⟩ : GStream) _ hf21) rfl rfl (nl_cons (NLt.agg _ (nl_cons nll (nl_cons nll (nl_cons nll (nl_cons nll nl_nil))))) nl_nil) (NLt.agg _ (nl_cons nll (nl_cons nll (nl_cons nll (nl_cons nll nl_nil))))) rfl), astep_guard (astep_load rfl ti72 (by decide) rfl (nle rfl) rfl), astep_guard (astep_eqs (ls := [x22.Mass, x22.Heat, x22.Silica, x22.Gas]) (ks := [p0.Mass, w64 (p0.Heat - x17), p0.Silica, p0.Gas]) rfl rfl eqt72 (by kernel_rfl) rfl rfl), astep_pick rfl rfl, astep_b hb23 (astep_move rfl), trivial, astep_pick rfl rfl, astep_assign rfl, trivial⟩
            refine awp_ret ?_
            obtain rfl := osi h
            exact ⟨⟨[B false], ⟨resOK_tmp (by kernel_rfl), trivial⟩, rfl⟩, nll, Nat.le_refl _, fun n hn => absurd hn (Nat.not_lt_zero n)⟩
        · replace h := bif_f hb20 h
          refine awp_regd [mv 9 (I x4.2.2), rp [(.tmp 62, I x4.2.2), ci 0] (B ((x4.2.2 == 0))), rp [(.tmp 63, (B ((x4.2.2 == 0))))] (B true), rp [(.tmp 64, B true), (.tmp 8, I x4.2.1)] (I x4.2.1), rp [(.tmp 64, B true), (.tmp 11, I x17)] (I x17), rp [(.tmp 64, B true), (.tmp 65, I x4.2.1), (.tmp 66, I x17)] (B ((x4.2.1 == x17))), rp [(.tmp 64, B true), (.tmp 67, (B ((x4.2.1 == x17)))), cb false] (B ((x4.2.1 == x17))), rp [(.tmp 68, (B ((x4.2.1 == x17))))] (B false), sk 69 (B false), sk 69 (B false), sk 69 (B false), sk 69 (B false), rp [(.tmp 69, B false), (.tmp 73, (.lit undef)), cb false] (B false), mv 74 (B false), sk 75 (B false), rp [(.tmp 75, B false), (.tmp 76, (.lit undef)), cb false] (B false), mv 77 (B false)] ?_ ?_
          · exact ⟨astep_move rfl, astep_bin rfl rfl, astep_b hb19 (astep_move rfl), astep_guard (astep_move rfl), astep_guard (astep_move rfl), astep_guard (astep_bin rfl rfl), astep_pick rfl rfl, astep_b hb20 (astep_move rfl), trivial, trivial, trivial, trivial, astep_pick rfl rfl, astep_move rfl, trivial, astep_pick rfl rfl, astep_assign rfl, trivial⟩
          refine awp_ret ?_
          obtain rfl := osi h
          exact ⟨⟨[B false], ⟨resOK_tmp (by kernel_rfl), trivial⟩, rfl⟩, nll, Nat.le_refl _, fun n hn => absurd hn (Nat.not_lt_zero n)⟩
      · replace h := bif_f hb19 h
        refine awp_regd [mv 9 (I x4.2.2), rp [(.tmp 62, I x4.2.2), ci 0] (B ((x4.2.2 == 0))), rp [(.tmp 63, (B ((x4.2.2 == 0))))] (B false), sk 64 (B false), sk 64 (B false), sk 64 (B false), rp [(.tmp 64, B false), (.tmp 67, (.lit undef)), cb false] (B false), mv 68 (B false), sk 69 (B false), sk 69 (B false), sk 69 (B false), sk 69 (B false), rp [(.tmp 69, B false), (.tmp 73, (.lit undef)), cb false] (B false), mv 74 (B false), sk 75 (B false), rp [(.tmp 75, B false), (.tmp 76, (.lit undef)), cb false] (B false), mv 77 (B false)] ?_ ?_
        · exact ⟨astep_move rfl, astep_bin rfl rfl, astep_b hb19 (astep_move rfl), trivial, trivial, trivial, astep_pick rfl rfl, astep_move rfl, trivial, trivial, trivial, trivial, astep_pick rfl rfl, astep_move rfl, trivial, astep_pick rfl rfl, astep_assign rfl, trivial⟩
        refine awp_ret ?_
        obtain rfl := osi h
        exact ⟨⟨[B false], ⟨resOK_tmp (by kernel_rfl), trivial⟩, rfl⟩, nll, Nat.le_refl _, fun n hn => absurd hn (Nat.not_lt_zero n)⟩
  · skip
    obtain ⟨x27, hf26, h⟩ := bind_out h
    rcases bft ((!x27)) with hb28 | hb28
    · replace h := bif_t hb28 h
      refine awp_reg [rb [(.tmp 3, .ref 0 4 0 0)] [(0, .own 4 [[I p0.Mass, I p0.Heat, I p0.Silica, I p0.Gas]])] (.agg [I p0.Mass, I p0.Heat, I p0.Silica, I p0.Gas]), rp [fu 43, (.tmp 22, (.agg [I p0.Mass, I p0.Heat, I p0.Silica, I p0.Gas]))] (B x27), rp [(.tmp 23, B x27)] (B ((!x27))), rp [(.tmp 24, (B ((!x27))))] (B true), sk 25 (B true), sk 25 (B true), sk 25 (B true), rp [(.tmp 25, B true), cb true, (.tmp 28, (.lit undef))] (B true)] ?_ ?_
      · exact ⟨astep_load rfl ti72 (by decide) rfl (nle rfl) rfl, astep_pcall (first := []) (cap := []) (vs := [(.agg [I p0.Mass, I p0.Heat, I p0.Silica, I p0.Gas])]) rfl enter43 (ref01_RightStreamX_ok N p0 _ hf26) rfl rfl (nl_cons (NLt.agg _ (nl_cons nll (nl_cons nll (nl_cons nll (nl_cons nll nl_nil))))) nl_nil) nll rfl, astep_not rfl, astep_b hb28 (astep_move rfl), trivial, trivial, trivial, astep_pick rfl rfl, trivial⟩
      refine awp_true (by kernel_rfl) ?_
      refine awp_reg1 [mc (.int .i64 1)] ?_ ?_
      · exact ⟨astep_assign rfl, trivial⟩
      refine thenA_n ?_
      exact ⟨(1), h, (mor_to (n := 78) [(1, I p1), (2, I p2), (3, .ref 0 4 0 0), (7, .ref 1 4 0 0), (8, I x4.2.1), (9, I x4.2.2), (10, I 1)] [0, 1] [(.own 4 [[I p0.Mass, I p0.Heat, I p0.Silica, I p0.Gas]]), (.own 4 [[I x4.1.Mass, I x4.1.Heat, I x4.1.Silica, I x4.1.Gas]])] hφ0 (pc rwl (pc rwl (pc (.rn (rnq_ref rfl)) (pc (.rn (rnq_ref rfl)) (pc rwl (pc rwl (pc rwl pn))))))) (qc (spw_box (lc rwl (lc rwl (lc rwl (lc rwl ln))))) (qc (spw_box (lc rwl (lc rwl (lc rwl (lc rwl ln))))) qn)))⟩
    · replace h := bif_f hb28 h
      obtain ⟨x30, hf29, h⟩ := bind_out h
      refine awp_reg [rb [(.tmp 3, .ref 0 4 0 0)] [(0, .own 4 [[I p0.Mass, I p0.Heat, I p0.Silica, I p0.Gas]])] (.agg [I p0.Mass, I p0.Heat, I p0.Silica, I p0.Gas]), rp [fu 43, (.tmp 22, (.agg [I p0.Mass, I p0.Heat, I p0.Silica, I p0.Gas]))] (B x27), rp [(.tmp 23, B x27)] (B ((!x27))), rp [(.tmp 24, (B ((!x27))))] (B false), rp [(.tmp 25, B false), (.tmp 1, I p1)] (I p1), rp [(.tmp 25, B false), fu 27, (.tmp 26, I p1), ci 0, ci 4000] (B x30), rp [(.tmp 25, B false), (.tmp 27, B x30)] (B ((!x30))), rp [(.tmp 25, B false), cb true, (.tmp 28, (B ((!x30))))] (B ((!x30)))] ?_ ?_
      · exact ⟨astep_load rfl ti72 (by decide) rfl (nle rfl) rfl, astep_pcall (first := []) (cap := []) (vs := [(.agg [I p0.Mass, I p0.Heat, I p0.Silica, I p0.Gas])]) rfl enter43 (ref01_RightStreamX_ok N p0 _ hf26) rfl rfl (nl_cons (NLt.agg _ (nl_cons nll (nl_cons nll (nl_cons nll (nl_cons nll nl_nil))))) nl_nil) nll rfl, astep_not rfl, astep_b hb28 (astep_move rfl), astep_guard (astep_move rfl), astep_guard (astep_pcall (first := []) (cap := []) (vs := [I p1, I 0, I 4000]) rfl enter27 (ref10_InX_ok N p1 0 4000 _ hf29) rfl rfl (nl_cons nll (nl_cons nll (nl_cons nll nl_nil))) nll rfl), astep_guard (astep_not rfl), astep_pick rfl rfl, trivial⟩
      rcases bft ((!x30)) with hc31 | hc31
      · replace h := bif_t hc31 h
        refine awp_ift hc31 (by kernel_rfl) ?_
        refine awp_reg1 [mc (.int .i64 1)] ?_ ?_
        · exact ⟨astep_assign rfl, trivial⟩
        refine thenA_n ?_
        exact ⟨(1), h, (mor_to (n := 78) [(1, I p1), (2, I p2), (3, .ref 0 4 0 0), (7, .ref 1 4 0 0), (8, I x4.2.1), (9, I x4.2.2), (10, I 1)] [0, 1] [(.own 4 [[I p0.Mass, I p0.Heat, I p0.Silica, I p0.Gas]]), (.own 4 [[I x4.1.Mass, I x4.1.Heat, I x4.1.Silica, I x4.1.Gas]])] hφ0 (pc rwl (pc rwl (pc (.rn (rnq_ref rfl)) (pc (.rn (rnq_ref rfl)) (pc rwl (pc rwl (pc rwl pn))))))) (qc (spw_box (lc rwl (lc rwl (lc rwl (lc rwl ln))))) (qc (spw_box (lc rwl (lc rwl (lc rwl (lc rwl ln))))) qn)))⟩
      · replace h := bif_f hc31 h
        refine awp_ifn hc31 (by kernel_rfl) ?_
        obtain ⟨x33, hf32, h⟩ := bind_out h
        refine awp_reg [mv 2 (I p2), rp [fu 27, (.tmp 30, I p2), ci 0, ci 100000000000] (B x33), rp [(.tmp 31, B x33)] (B ((!x33)))] ?_ ?_
        · exact ⟨astep_move rfl, astep_pcall (first := []) (cap := []) (vs := [I p2, I 0, I 100000000000]) rfl enter27 (ref10_InX_ok N p2 0 100000000000 _ hf32) rfl rfl (nl_cons nll (nl_cons nll (nl_cons nll nl_nil))) nll rfl, astep_not rfl, trivial⟩
        rcases bft ((!x33)) with hc34 | hc34
        · replace h := bif_t hc34 h
          refine awp_ift hc34 (by kernel_rfl) ?_
          refine awp_reg1 [mc (.int .i64 2)] ?_ ?_
          · exact ⟨astep_assign rfl, trivial⟩
          refine thenA_n ?_
          exact ⟨(2), h, (mor_to (n := 78) [(1, I p1), (2, I p2), (3, .ref 0 4 0 0), (7, .ref 1 4 0 0), (8, I x4.2.1), (9, I x4.2.2), (10, I 2)] [0, 1] [(.own 4 [[I p0.Mass, I p0.Heat, I p0.Silica, I p0.Gas]]), (.own 4 [[I x4.1.Mass, I x4.1.Heat, I x4.1.Silica, I x4.1.Gas]])] hφ0 (pc rwl (pc rwl (pc (.rn (rnq_ref rfl)) (pc (.rn (rnq_ref rfl)) (pc rwl (pc rwl (pc rwl pn))))))) (qc (spw_box (lc rwl (lc rwl (lc rwl (lc rwl ln))))) (qc (spw_box (lc rwl (lc rwl (lc rwl (lc rwl ln))))) qn)))⟩
        · replace h := bif_f hc34 h
          refine awp_ifn hc34 (by kernel_rfl) ?_
          refine awp_skip ?_
          refine thenA_n ?_
          exact ⟨(0), h, (mor_to (n := 78) [(1, I p1), (2, I p2), (3, .ref 0 4 0 0), (7, .ref 1 4 0 0), (8, I x4.2.1), (9, I x4.2.2), (10, I 0)] [0, 1] [(.own 4 [[I p0.Mass, I p0.Heat, I p0.Silica, I p0.Gas]]), (.own 4 [[I x4.1.Mass, I x4.1.Heat, I x4.1.Silica, I x4.1.Gas]])] hφ0 (pc rwl (pc rwl (pc (.rn (rnq_ref rfl)) (pc (.rn (rnq_ref rfl)) (pc rwl (pc rwl (pc rwl pn))))))) (qc (spw_box (lc rwl (lc rwl (lc rwl (lc rwl ln))))) (qc (spw_box (lc rwl (lc rwl (lc rwl (lc rwl ln))))) qn)))⟩

end Go.Proofs.Ytgdepcgbjjgnfaa
