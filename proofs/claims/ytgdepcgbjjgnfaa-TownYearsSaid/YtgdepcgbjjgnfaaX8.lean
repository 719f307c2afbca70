/-
  Functions of the program: what they compute, as plain functions, and that they do. No conditions.
-/
import Derived.Test.YtgdepcgbjjgnfaaX6
namespace Go.Proofs.Ytgdepcgbjjgnfaa
open Go.RowKit

def law10_TownYearsX_loop1 (N : Nat) (p0 : (List GBracket)) (p1 : (List Int)) (k4 : Int × Int → Option Bool) : Nat → Int → Int → Int → Option Bool
  | 0, _, _, _ => none
  | n19 + 1, y13, y14, y15 =>
    bif (decide (y15 < (p1.length : Int))) then
      (law10_TariffX N p0).bind fun x22 =>
      (getI p1 y15).bind fun x23 =>
      (town_BillX N x22 y14 (w64 x23)).bind fun x28 =>
      joinK (fun _ =>
          law10_TownYearsX_loop1 N p0 p1 k4 n19 (w64 (y13 + x28.1)) (w64 (y14 + (w64 x23))) (w64 (y15 + 1))) fun k29 : Unit → Option Bool =>
      bif (x28.2 != 0) then
        some false
      else
        bif (decide (x28.1 < 0)) then
          some false
        else
          k29 ()
    else
      k4 (y13, y14)
def law10_TownYearsX (N : Nat) (p0 : (List GBracket)) (p1 : (List Int)) : Option Bool :=
  joinK (fun _ =>
      joinK (fun ⟨y2, y3⟩ =>
          (law10_TariffX N p0).bind fun x6 =>
          (town_ChargeX N x6 y3).bind fun x8 =>
          bif (x8.2 == 0) then
            bif (x8.1 == y2) then
              (law10_wakesX N ).bind fun x12 =>
              some x12
            else
              some false
          else
            some false) fun k4 : Int × Int → Option Bool =>
      law10_TownYearsX_loop1 N p0 p1 k4 N 0 0 0) fun k1 : Unit → Option Bool =>
  bif (decide ((p0.length : Int) > 10)) then
    (law10_wakesX N ).bind fun x34 =>
    some x34
  else
    bif (decide ((p1.length : Int) > 40)) then
      (law10_wakesX N ).bind fun x37 =>
      some x37
    else
      (ref10_TariffX N p0).bind fun x39 =>
      bif (!x39) then
        (law10_wakesX N ).bind fun x42 =>
        some x42
      else
        k1 ()
set_option maxRecDepth 100000 in
set_option maxHeartbeats 4000000 in
theorem law10_TownYearsX_ok (N : Nat) (p0 : (List GBracket)) (p1 : (List Int)) (r : Bool) (h : law10_TownYearsX N p0 p1 = some r) : Spec Try.prog 15 [(.dat 2 (p0.map c_GBracket)), (.dat 1 (p1.map c_u32))] [] (B r) [] := by
  refine spec_of_awp Try.func15 rfl 0 (nle rfl) (fun X φ0 w0 hφ0 => ?_)
  unfold law10_TownYearsX at h
  refine awp_reg [mc (.bool false)] ?_ ?_
  · exact ⟨astep_assign rfl, trivial⟩
  obtain ⟨k1, hk_k1, h⟩ := joinK_out h
  refine awp_join (τ := Unit) (fun t => k1 t = some r) (fun _ => ⟨mk 77 [(0, (.dat 2 ((p0 : List GBracket).map c_GBracket))), (1, (.dat 1 ((p1 : List Int).map c_u32)))], []⟩) (fun t h => ?_) ?_
  · subst hk_k1
    refine awp_reg [mc (.int .i64 0), mc (.int .i64 0)] ?_ ?_
    · exact ⟨astep_assign rfl, astep_assign rfl, trivial⟩
    obtain ⟨k4, hk_k4, h⟩ := joinK_out h
    refine awp_join (τ := Int × Int) (fun t => k4 t = some r) (fun ⟨y2, y3⟩ => ⟨mk 77 [(0, (.dat 2 ((p0 : List GBracket).map c_GBracket))), (5, I y2), (6, I y3)], []⟩) (fun t h => ?_) ?_
    · subst hk_k4
      obtain ⟨y2, y3⟩ := t
      obtain ⟨x6, hf5, h⟩ := bind_out h
      obtain ⟨x8, hf7, h⟩ := bind_out h
      refine awp_reg [mv 0 (.dat 2 ((p0 : List GBracket).map c_GBracket)), rp [fu 56, (.tmp 61, (.dat 2 ((p0 : List GBracket).map c_GBracket)))] (.dat 2 ((x6 : List GBracket).map c_GBracket)), mv 6 (I y3), rp [fu 55, (.tmp 62, (.dat 2 ((x6 : List GBracket).map c_GBracket))), (.tmp 63, I y3)] (.tup [I x8.1, I x8.2]), mv 64 (.tup [I x8.1, I x8.2]), rp [(.tmp 60, (.tup [I x8.1, I x8.2]))] (I x8.1), rp [(.tmp 60, (.tup [I x8.1, I x8.2]))] (I x8.2), mv 65 (I x8.1), mv 66 (I x8.2)] ?_ ?_
      · exact ⟨astep_move rfl, astep_pcall (first := []) (cap := []) (vs := [(.dat 2 ((p0 : List GBracket).map c_GBracket))]) rfl enter56 (law10_TariffX_ok N p0 _ hf5) rfl rfl (nl_cons (nl_dat nl_GBracket _) nl_nil) (nl_dat nl_GBracket _) rfl, astep_move rfl, astep_pcall (first := []) (cap := []) (vs := [(.dat 2 ((x6 : List GBracket).map c_GBracket)), I y3]) rfl enter55 (town_ChargeX_ok N x6 y3 _ hf7) rfl rfl (nl_cons (nl_dat nl_GBracket _) (nl_cons nll nl_nil)) (NLt.tup _ (nl_cons nll (nl_cons nll nl_nil))) rfl, astep_move rfl, astep_extract rfl rfl, astep_extract rfl rfl, astep_assign rfl, astep_assign rfl, trivial⟩
      rcases bft ((x8.2 == 0)) with hb9 | hb9
      · replace h := bif_t hb9 h
        rcases bft ((x8.1 == y2)) with hb10 | hb10
        · replace h := bif_t hb10 h
          obtain ⟨x12, hf11, h⟩ := bind_out h
          refine awp_reg [mv 11 (I x8.2), rp [(.tmp 67, I x8.2), ci 0] (B ((x8.2 == 0))), rp [(.tmp 68, (B ((x8.2 == 0))))] (B true), rp [(.tmp 69, B true), (.tmp 10, I x8.1)] (I x8.1), rp [(.tmp 69, B true), (.tmp 5, I y2)] (I y2), rp [(.tmp 69, B true), (.tmp 70, I x8.1), (.tmp 71, I y2)] (B ((x8.1 == y2))), rp [(.tmp 69, B true), (.tmp 72, (B ((x8.1 == y2)))), cb false] (B ((x8.1 == y2))), rp [(.tmp 73, (B ((x8.1 == y2))))] (B true), rp [(.tmp 74, B true), fu 21] (B x12), rp [(.tmp 74, B true), (.tmp 75, B x12), cb false] (B x12), mv 76 (B x12)] ?_ ?_
          · exact ⟨astep_move rfl, astep_bin rfl rfl, astep_b hb9 (astep_move rfl), astep_guard (astep_move rfl), astep_guard (astep_move rfl), astep_guard (astep_bin rfl rfl), astep_pick rfl rfl, astep_b hb10 (astep_move rfl), astep_guard (astep_pcall (first := []) (cap := []) (vs := []) rfl enter21 (law10_wakesX_ok N  _ hf11) rfl rfl nl_nil nll rfl), astep_pick rfl rfl, astep_assign rfl, trivial⟩
          refine awp_ret ?_
          obtain rfl := osi h
          exact ⟨⟨[B x12], ⟨resOK_tmp (by kernel_rfl), trivial⟩, rfl⟩, nll, Nat.le_refl _, fun n hn => absurd hn (Nat.not_lt_zero n)⟩
        · replace h := bif_f hb10 h
          refine awp_reg [mv 11 (I x8.2), rp [(.tmp 67, I x8.2), ci 0] (B ((x8.2 == 0))), rp [(.tmp 68, (B ((x8.2 == 0))))] (B true), rp [(.tmp 69, B true), (.tmp 10, I x8.1)] (I x8.1), rp [(.tmp 69, B true), (.tmp 5, I y2)] (I y2), rp [(.tmp 69, B true), (.tmp 70, I x8.1), (.tmp 71, I y2)] (B ((x8.1 == y2))), rp [(.tmp 69, B true), (.tmp 72, (B ((x8.1 == y2)))), cb false] (B ((x8.1 == y2))), rp [(.tmp 73, (B ((x8.1 == y2))))] (B false), sk 74 (B false), rp [(.tmp 74, B false), (.tmp 75, (.lit undef)), cb false] (B false), mv 76 (B false)] ?_ ?_
          · exact ⟨astep_move rfl, astep_bin rfl rfl, astep_b hb9 (astep_move rfl), astep_guard (astep_move rfl), astep_guard (astep_move rfl), astep_guard (astep_bin rfl rfl), astep_pick rfl rfl, astep_b hb10 (astep_move rfl), trivial, astep_pick rfl rfl, astep_assign rfl, trivial⟩
          refine awp_ret ?_
          obtain rfl := osi h
          exact ⟨⟨[B false], ⟨resOK_tmp (by kernel_rfl), trivial⟩, rfl⟩, nll, Nat.le_refl _, fun n hn => absurd hn (Nat.not_lt_zero n)⟩
      · replace h := bif_f hb9 h
        refine awp_reg [mv 11 (I x8.2), rp [(.tmp 67, I x8.2), ci 0] (B ((x8.2 == 0))), rp [(.tmp 68, (B ((x8.2 == 0))))] (B false), sk 69 (B false), sk 69 (B false), sk 69 (B false), rp [(.tmp 69, B false), (.tmp 72, (.lit undef)), cb false] (B false), mv 73 (B false), sk 74 (B false), rp [(.tmp 74, B false), (.tmp 75, (.lit undef)), cb false] (B false), mv 76 (B false)] ?_ ?_
        · exact ⟨astep_move rfl, astep_bin rfl rfl, astep_b hb9 (astep_move rfl), trivial, trivial, trivial, astep_pick rfl rfl, astep_move rfl, trivial, astep_pick rfl rfl, astep_assign rfl, trivial⟩
        refine awp_ret ?_
        obtain rfl := osi h
        exact ⟨⟨[B false], ⟨resOK_tmp (by kernel_rfl), trivial⟩, rfl⟩, nll, Nat.le_refl _, fun n hn => absurd hn (Nat.not_lt_zero n)⟩
    · skip
      refine awp_reg [mc (.int .i64 0)] ?_ ?_
      · exact ⟨astep_assign rfl, trivial⟩
      refine awp_block ?_
      refine awp_mor (mor_to (n := 77) (l' := [(0, (.dat 2 ((p0 : List GBracket).map c_GBracket))), (1, (.dat 1 ((p1 : List Int).map c_u32))), (5, I 0), (6, I 0), (7, I 0)]) (own' := []) [(0, (.dat 2 ((p0 : List GBracket).map c_GBracket))), (1, (.dat 1 ((p1 : List Int).map c_u32))), (5, I 0), (6, I 0), (7, I 0)] [] [] hφ0 (pc (.rn (.plain _ (nl_dat nl_GBracket _))) (pc (.rn (.plain _ (nl_dat nl_u32 _))) (pc rwl (pc rwl (pc rwl pn))))) qn) ?_
      refine awp_ind (τ := Int × Int × Int) (fun n t => law10_TownYearsX_loop1 N p0 p1 k4 n t.1 t.2.1 t.2.2 = some r) (fun ⟨y13, y14, y15⟩ => ⟨mk 77 [(0, (.dat 2 ((p0 : List GBracket).map c_GBracket))), (1, (.dat 1 ((p1 : List Int).map c_u32))), (5, I y13), (6, I y14), (7, I y15)], []⟩) (fun t h => by rw [law10_TownYearsX_loop1] at h; cases h) (fun n19 ih t h => ?_) N (0, 0, 0) h
      obtain ⟨y13, y14, y15⟩ := t
      rw [law10_TownYearsX_loop1] at h
      skip
      refine awp_seq ?_
      refine awp_reg [mv 7 (I y15), mv 1 (.dat 1 ((p1 : List Int).map c_u32)), rp [(.tmp 27, (.dat 1 ((p1 : List Int).map c_u32)))] (I ((p1.length : Int))), rp [(.tmp 26, I y15), (.tmp 28, (I ((p1.length : Int))))] (B ((decide (y15 < (p1.length : Int)))))] ?_ ?_
      · exact ⟨astep_move rfl, astep_move rfl, astep_lenm (c := c_u32) (l := p1) (astep_len rfl Try.underlying123 rfl), astep_bin rfl rfl, trivial⟩
      rcases bft ((decide (y15 < (p1.length : Int)))) with hc20 | hc20
      · replace h := bif_t hc20 h
        refine awp_ift hc20 (by kernel_rfl) ?_
        refine awp_skip ?_
        refine thenA_n ?_
        refine awp_seq ?_
        refine awp_block ?_
        obtain ⟨x22, hf21, h⟩ := bind_out h
        obtain ⟨x23, hg24, h⟩ := bind_out h
        obtain ⟨hi25, hj26⟩ := getI_some hg24
        obtain ⟨x28, hf27, h⟩ := bind_out h
        refine awp_regd [mv 0 (.dat 2 ((p0 : List GBracket).map c_GBracket)), rp [fu 56, (.tmp 33, (.dat 2 ((p0 : List GBracket).map c_GBracket)))] (.dat 2 ((x22 : List GBracket).map c_GBracket)), mv 6 (I y14), mv 1 (.dat 1 ((p1 : List Int).map c_u32)), mv 7 (I y15), rp [(.tmp 36, (.dat 1 ((p1 : List Int).map c_u32))), (.tmp 37, I y15)] (.dptr (c_u32 (x23)) 0), rp [(.tmp 38, (.dptr (c_u32 (x23)) 0))] (K .u32 (x23)), rp [(.tmp 39, (K .u32 (x23)))] (I (w64 x23)), rp [fu 57, (.tmp 34, (.dat 2 ((x22 : List GBracket).map c_GBracket))), (.tmp 35, I y14), (.tmp 40, I (w64 x23))] (.tup [I x28.1, I x28.2]), mv 41 (.tup [I x28.1, I x28.2]), rp [(.tmp 32, (.tup [I x28.1, I x28.2]))] (I x28.1), rp [(.tmp 32, (.tup [I x28.1, I x28.2]))] (I x28.2), mv 42 (I x28.1), mv 43 (I x28.2)] ?_ ?_
        · exact ⟨astep_move rfl, astep_pcall (first := []) (cap := []) (vs := [(.dat 2 ((p0 : List GBracket).map c_GBracket))]) rfl enter56 (law10_TariffX_ok N p0 _ hf21) rfl rfl (nl_cons (nl_dat nl_GBracket _) nl_nil) (nl_dat nl_GBracket _) rfl, astep_move rfl, astep_move rfl, astep_move rfl, astep_idxd rfl Try.underlying123 ti57 rfl rfl hi25 (map_get c_u32 hj26) rfl, astep_loadd rfl ti57 (by decide) (nle rfl) rfl, astep_conv rfl (by rw [Try.underlying57]; rfl) Try.underlying3, astep_pcall (first := []) (cap := []) (vs := [(.dat 2 ((x22 : List GBracket).map c_GBracket)), I y14, I (w64 x23)]) rfl enter57 (town_BillX_ok N x22 y14 (w64 x23) _ hf27) rfl rfl (nl_cons (nl_dat nl_GBracket _) (nl_cons nll (nl_cons nll nl_nil))) (NLt.tup _ (nl_cons nll (nl_cons nll nl_nil))) rfl, astep_move rfl, astep_extract rfl rfl, astep_extract rfl rfl, astep_assign rfl, astep_assign rfl, trivial⟩
        obtain ⟨k29, hk_k29, h⟩ := joinK_out h
        refine awp_join (τ := Unit) (fun t => k29 t = some r) (fun _ => ⟨mk 77 [(0, (.dat 2 ((p0 : List GBracket).map c_GBracket))), (1, (.dat 1 ((p1 : List Int).map c_u32))), (5, I y13), (6, I y14), (7, I y15), (8, I x28.1)], []⟩) (fun t h => ?_) ?_
        · subst hk_k29
          refine awp_reg [mv 5 (I y13), mv 8 (I x28.1), rp [(.tmp 50, I y13), (.tmp 51, I x28.1)] (I (w64 (y13 + x28.1))), mv 52 (I (w64 (y13 + x28.1)))] ?_ ?_
          · exact ⟨astep_move rfl, astep_move rfl, astep_bin rfl rfl, astep_assign rfl, trivial⟩
          refine awp_reg1 [mv 6 (I y14), mv 1 (.dat 1 ((p1 : List Int).map c_u32)), mv 7 (I y15), rp [(.tmp 54, (.dat 1 ((p1 : List Int).map c_u32))), (.tmp 55, I y15)] (.dptr (c_u32 (x23)) 0), rp [(.tmp 56, (.dptr (c_u32 (x23)) 0))] (K .u32 (x23)), rp [(.tmp 57, (K .u32 (x23)))] (I (w64 x23)), rp [(.tmp 53, I y14), (.tmp 58, I (w64 x23))] (I (w64 (y14 + (w64 x23)))), mv 59 (I (w64 (y14 + (w64 x23))))] ?_ ?_
          · exact ⟨astep_move rfl, astep_move rfl, astep_move rfl, astep_idxd rfl Try.underlying123 ti57 rfl rfl hi25 (map_get c_u32 hj26) rfl, astep_loadd rfl ti57 (by decide) (nle rfl) rfl, astep_conv rfl (by rw [Try.underlying57]; rfl) Try.underlying3, astep_bin rfl rfl, astep_assign rfl, trivial⟩
          refine blockA_n ?_
          refine thenA_n ?_
          refine awp_reg1 [mv 7 (I y15), rp [(.tmp 30, I y15), ci 1] (I (w64 (y15 + 1))), mv 31 (I (w64 (y15 + 1)))] ?_ ?_
          · exact ⟨astep_move rfl, astep_bin rfl rfl, astep_assign rfl, trivial⟩
          refine thenA_n ?_
          exact around_mor (mor_to (n := 77) [(0, (.dat 2 ((p0 : List GBracket).map c_GBracket))), (1, (.dat 1 ((p1 : List Int).map c_u32))), (5, (I (w64 (y13 + x28.1)))), (6, (I (w64 (y14 + (w64 x23))))), (7, (I (w64 (y15 + 1))))] [] [] hφ0 (pc (.rn (.plain _ (nl_dat nl_GBracket _))) (pc (.rn (.plain _ (nl_dat nl_u32 _))) (pc rwl (pc rwl (pc rwl pn))))) qn) (ih (w64 (y13 + x28.1), w64 (y14 + (w64 x23)), w64 (y15 + 1)) h)
        · skip
          rcases bft ((x28.2 != 0)) with hb30 | hb30
          · replace h := bif_t hb30 h
            refine awp_reg [mv 9 (I x28.2), rp [(.tmp 44, I x28.2), ci 0] (B ((x28.2 != 0))), rp [(.tmp 45, (B ((x28.2 != 0))))] (B true), sk 46 (B true), sk 46 (B true), rp [(.tmp 46, B true), cb true, (.tmp 48, (.lit undef))] (B true)] ?_ ?_
            · exact ⟨astep_move rfl, astep_bin rfl rfl, astep_b hb30 (astep_move rfl), trivial, trivial, astep_pick rfl rfl, trivial⟩
            refine awp_true (by kernel_rfl) ?_
            refine awp_reg [mc (.bool false)] ?_ ?_
            · exact ⟨astep_assign rfl, trivial⟩
            refine awp_ret ?_
            refine thenA_r ?_
            refine blockA_r ?_
            refine thenA_r ?_
            refine thenA_r ?_
            refine blockA_r ?_
            refine thenA_r ?_
            obtain rfl := osi h
            exact ⟨⟨[B false], ⟨resOK_tmp (by kernel_rfl), trivial⟩, rfl⟩, nll, Nat.le_refl _, fun n hn => absurd hn (Nat.not_lt_zero n)⟩
          · replace h := bif_f hb30 h
            refine awp_reg [mv 9 (I x28.2), rp [(.tmp 44, I x28.2), ci 0] (B ((x28.2 != 0))), rp [(.tmp 45, (B ((x28.2 != 0))))] (B false), rp [(.tmp 46, B false), (.tmp 8, I x28.1)] (I x28.1), rp [(.tmp 46, B false), (.tmp 47, I x28.1), ci 0] (B ((decide (x28.1 < 0)))), rp [(.tmp 46, B false), cb true, (.tmp 48, (B ((decide (x28.1 < 0)))))] (B ((decide (x28.1 < 0))))] ?_ ?_
            · exact ⟨astep_move rfl, astep_bin rfl rfl, astep_b hb30 (astep_move rfl), astep_guard (astep_move rfl), astep_guard (astep_bin rfl rfl), astep_pick rfl rfl, trivial⟩
            rcases bft ((decide (x28.1 < 0))) with hc31 | hc31
            · replace h := bif_t hc31 h
              refine awp_ift hc31 (by kernel_rfl) ?_
              refine awp_reg [mc (.bool false)] ?_ ?_
              · exact ⟨astep_assign rfl, trivial⟩
              refine awp_ret ?_
              refine thenA_r ?_
              refine blockA_r ?_
              refine thenA_r ?_
              refine thenA_r ?_
              refine blockA_r ?_
              refine thenA_r ?_
              obtain rfl := osi h
              exact ⟨⟨[B false], ⟨resOK_tmp (by kernel_rfl), trivial⟩, rfl⟩, nll, Nat.le_refl _, fun n hn => absurd hn (Nat.not_lt_zero n)⟩
            · replace h := bif_f hc31 h
              refine awp_ifn hc31 (by kernel_rfl) ?_
              refine awp_skip ?_
              refine thenA_n ?_
              exact ⟨(), h, (mor_to (n := 77) [(0, (.dat 2 ((p0 : List GBracket).map c_GBracket))), (1, (.dat 1 ((p1 : List Int).map c_u32))), (5, I y13), (6, I y14), (7, I y15), (8, I x28.1)] [] [] hφ0 (pc (.rn (.plain _ (nl_dat nl_GBracket _))) (pc (.rn (.plain _ (nl_dat nl_u32 _))) (pc rwl (pc rwl (pc rwl (pc rwl pn)))))) qn)⟩
      · replace h := bif_f hc20 h
        refine awp_ifn hc20 (by kernel_rfl) ?_
        refine awp_exit ?_
        refine thenA_x ?_
        refine thenA_x ?_
        refine blockA_e rfl ?_
        refine thenA_n ?_
        exact ⟨(y13, y14), h, (mor_to (n := 77) [(0, (.dat 2 ((p0 : List GBracket).map c_GBracket))), (5, I y13), (6, I y14)] [] [] hφ0 (pc (.rn (.plain _ (nl_dat nl_GBracket _))) (pc rwl (pc rwl pn))) qn)⟩
  · skip
    rcases bft ((decide ((p0.length : Int) > 10))) with hb32 | hb32
    · replace h := bif_t hb32 h
      refine awp_reg [mv 0 (.dat 2 ((p0 : List GBracket).map c_GBracket)), rp [(.tmp 12, (.dat 2 ((p0 : List GBracket).map c_GBracket)))] (I ((p0.length : Int))), rp [(.tmp 13, (I ((p0.length : Int)))), ci 10] (B ((decide ((p0.length : Int) > 10)))), rp [(.tmp 14, (B ((decide ((p0.length : Int) > 10)))))] (B true), sk 15 (B true), sk 15 (B true), sk 15 (B true), rp [(.tmp 15, B true), cb true, (.tmp 18, (.lit undef))] (B true), mv 19 (B true), sk 20 (B true), sk 20 (B true), sk 20 (B true), rp [(.tmp 20, B true), cb true, (.tmp 23, (.lit undef))] (B true)] ?_ ?_
      · exact ⟨astep_move rfl, astep_lenm (c := c_GBracket) (l := p0) (astep_len rfl Try.underlying114 rfl), astep_bin rfl rfl, astep_b hb32 (astep_move rfl), trivial, trivial, trivial, astep_pick rfl rfl, astep_move rfl, trivial, trivial, trivial, astep_pick rfl rfl, trivial⟩
      refine awp_true (by kernel_rfl) ?_
      obtain ⟨x34, hf33, h⟩ := bind_out h
      refine awp_reg [rp [fu 21] (B x34), mv 25 (B x34)] ?_ ?_
      · exact ⟨astep_pcall (first := []) (cap := []) (vs := []) rfl enter21 (law10_wakesX_ok N  _ hf33) rfl rfl nl_nil nll rfl, astep_assign rfl, trivial⟩
      refine awp_ret ?_
      refine thenA_r ?_
      obtain rfl := osi h
      exact ⟨⟨[B x34], ⟨resOK_tmp (by kernel_rfl), trivial⟩, rfl⟩, nll, Nat.le_refl _, fun n hn => absurd hn (Nat.not_lt_zero n)⟩
    · replace h := bif_f hb32 h
      rcases bft ((decide ((p1.length : Int) > 40))) with hb35 | hb35
      · replace h := bif_t hb35 h
        refine awp_reg [mv 0 (.dat 2 ((p0 : List GBracket).map c_GBracket)), rp [(.tmp 12, (.dat 2 ((p0 : List GBracket).map c_GBracket)))] (I ((p0.length : Int))), rp [(.tmp 13, (I ((p0.length : Int)))), ci 10] (B ((decide ((p0.length : Int) > 10)))), rp [(.tmp 14, (B ((decide ((p0.length : Int) > 10)))))] (B false), rp [(.tmp 15, B false), (.tmp 1, (.dat 1 ((p1 : List Int).map c_u32)))] (.dat 1 ((p1 : List Int).map c_u32)), rp [(.tmp 15, B false), (.tmp 16, (.dat 1 ((p1 : List Int).map c_u32)))] (I ((p1.length : Int))), rp [(.tmp 15, B false), (.tmp 17, (I ((p1.length : Int)))), ci 40] (B ((decide ((p1.length : Int) > 40)))), rp [(.tmp 15, B false), cb true, (.tmp 18, (B ((decide ((p1.length : Int) > 40)))))] (B ((decide ((p1.length : Int) > 40)))), rp [(.tmp 19, (B ((decide ((p1.length : Int) > 40)))))] (B true), sk 20 (B true), sk 20 (B true), sk 20 (B true), rp [(.tmp 20, B true), cb true, (.tmp 23, (.lit undef))] (B true)] ?_ ?_
        · exact ⟨astep_move rfl, astep_lenm (c := c_GBracket) (l := p0) (astep_len rfl Try.underlying114 rfl), astep_bin rfl rfl, astep_b hb32 (astep_move rfl), astep_guard (astep_move rfl), astep_guard (astep_lenm (c := c_u32) (l := p1) (astep_len rfl Try.underlying123 rfl)), astep_guard (astep_bin rfl rfl), astep_pick rfl rfl, astep_b hb35 (astep_move rfl), trivial, trivial, trivial, astep_pick rfl rfl, trivial⟩
        refine awp_true (by kernel_rfl) ?_
        obtain ⟨x37, hf36, h⟩ := bind_out h
        refine awp_reg [rp [fu 21] (B x37), mv 25 (B x37)] ?_ ?_
        · exact ⟨astep_pcall (first := []) (cap := []) (vs := []) rfl enter21 (law10_wakesX_ok N  _ hf36) rfl rfl nl_nil nll rfl, astep_assign rfl, trivial⟩
        refine awp_ret ?_
        refine thenA_r ?_
        obtain rfl := osi h
        exact ⟨⟨[B x37], ⟨resOK_tmp (by kernel_rfl), trivial⟩, rfl⟩, nll, Nat.le_refl _, fun n hn => absurd hn (Nat.not_lt_zero n)⟩
      · replace h := bif_f hb35 h
        obtain ⟨x39, hf38, h⟩ := bind_out h
        refine awp_reg [mv 0 (.dat 2 ((p0 : List GBracket).map c_GBracket)), rp [(.tmp 12, (.dat 2 ((p0 : List GBracket).map c_GBracket)))] (I ((p0.length : Int))), rp [(.tmp 13, (I ((p0.length : Int)))), ci 10] (B ((decide ((p0.length : Int) > 10)))), rp [(.tmp 14, (B ((decide ((p0.length : Int) > 10)))))] (B false), rp [(.tmp 15, B false), (.tmp 1, (.dat 1 ((p1 : List Int).map c_u32)))] (.dat 1 ((p1 : List Int).map c_u32)), rp [(.tmp 15, B false), (.tmp 16, (.dat 1 ((p1 : List Int).map c_u32)))] (I ((p1.length : Int))), rp [(.tmp 15, B false), (.tmp 17, (I ((p1.length : Int)))), ci 40] (B ((decide ((p1.length : Int) > 40)))), rp [(.tmp 15, B false), cb true, (.tmp 18, (B ((decide ((p1.length : Int) > 40)))))] (B ((decide ((p1.length : Int) > 40)))), rp [(.tmp 19, (B ((decide ((p1.length : Int) > 40)))))] (B false), rp [(.tmp 20, B false), (.tmp 0, (.dat 2 ((p0 : List GBracket).map c_GBracket)))] (.dat 2 ((p0 : List GBracket).map c_GBracket)), rp [(.tmp 20, B false), fu 58, (.tmp 21, (.dat 2 ((p0 : List GBracket).map c_GBracket)))] (B x39), rp [(.tmp 20, B false), (.tmp 22, B x39)] (B ((!x39))), rp [(.tmp 20, B false), cb true, (.tmp 23, (B ((!x39))))] (B ((!x39)))] ?_ ?_
        · exact ⟨astep_move rfl, astep_lenm (c := c_GBracket) (l := p0) (astep_len rfl Try.underlying114 rfl), astep_bin rfl rfl, astep_b hb32 (astep_move rfl), astep_guard (astep_move rfl), astep_guard (astep_lenm (c := c_u32) (l := p1) (astep_len rfl Try.underlying123 rfl)), astep_guard (astep_bin rfl rfl), astep_pick rfl rfl, astep_b hb35 (astep_move rfl), astep_guard (astep_move rfl), astep_guard (astep_pcall (first := []) (cap := []) (vs := [(.dat 2 ((p0 : List GBracket).map c_GBracket))]) rfl enter58 (ref10_TariffX_ok N p0 _ hf38) rfl rfl (nl_cons (nl_dat nl_GBracket _) nl_nil) nll rfl), astep_guard (astep_not rfl), astep_pick rfl rfl, trivial⟩
        rcases bft ((!x39)) with hc40 | hc40
        · replace h := bif_t hc40 h
          refine awp_ift hc40 (by kernel_rfl) ?_
          obtain ⟨x42, hf41, h⟩ := bind_out h
          refine awp_reg [rp [fu 21] (B x42), mv 25 (B x42)] ?_ ?_
          · exact ⟨astep_pcall (first := []) (cap := []) (vs := []) rfl enter21 (law10_wakesX_ok N  _ hf41) rfl rfl nl_nil nll rfl, astep_assign rfl, trivial⟩
          refine awp_ret ?_
          refine thenA_r ?_
          obtain rfl := osi h
          exact ⟨⟨[B x42], ⟨resOK_tmp (by kernel_rfl), trivial⟩, rfl⟩, nll, Nat.le_refl _, fun n hn => absurd hn (Nat.not_lt_zero n)⟩
        · replace h := bif_f hc40 h
          refine awp_ifn hc40 (by kernel_rfl) ?_
          refine awp_skip ?_
          refine thenA_n ?_
          exact ⟨(), h, (mor_to (n := 77) [(0, (.dat 2 ((p0 : List GBracket).map c_GBracket))), (1, (.dat 1 ((p1 : List Int).map c_u32)))] [] [] hφ0 (pc (.rn (.plain _ (nl_dat nl_GBracket _))) (pc (.rn (.plain _ (nl_dat nl_u32 _))) pn)) qn)⟩

end Go.Proofs.Ytgdepcgbjjgnfaa
