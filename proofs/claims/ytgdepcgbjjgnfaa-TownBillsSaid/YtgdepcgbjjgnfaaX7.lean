/-
  Functions of the program: what they compute, as plain functions, and that they do. No conditions.
-/
import Derived.Test.YtgdepcgbjjgnfaaX6
namespace Go.Proofs.Ytgdepcgbjjgnfaa
open Go.RowKit

def law10_TownBillsX (N : Nat) (p0 : (List GBracket)) (p1 : Int) (p2 : Int) : Option Bool :=
  bif (decide ((p0.length : Int) > 10)) then
    (law10_wakesX N ).bind fun x3 =>
    some x3
  else
    (law10_TariffX N p0).bind fun x5 =>
    (town_ChargeX N x5 p2).bind fun x7 =>
    (law10_TariffX N p0).bind fun x9 =>
    (town_BillX N x9 p1 p2).bind fun x11 =>
    joinK (fun y12 =>
        joinK (fun y14 =>
            joinK (fun ⟨y16, y17⟩ =>
                joinK (fun _ =>
                    bif (y16 != 0) then
                      bif (y17 != 0) then
                        (law10_wakesX N ).bind fun x23 =>
                        some x23
                      else
                        (ref10_ChargeX N p0 (w64 (p1 + p2))).bind fun x25 =>
                        (ref10_ChargeX N p0 p1).bind fun x27 =>
                        bif (x11.1 == (w64 (x25 - x27))) then
                          (law10_wakesX N ).bind fun x30 =>
                          some x30
                        else
                          some false
                    else
                      (ref10_ChargeX N p0 p2).bind fun x32 =>
                      bif (x7.1 == x32) then
                        bif (y17 != 0) then
                          (law10_wakesX N ).bind fun x36 =>
                          some x36
                        else
                          (ref10_ChargeX N p0 (w64 (p1 + p2))).bind fun x38 =>
                          (ref10_ChargeX N p0 p1).bind fun x40 =>
                          bif (x11.1 == (w64 (x38 - x40))) then
                            (law10_wakesX N ).bind fun x43 =>
                            some x43
                          else
                            some false
                      else
                        some false) fun k19 : Unit → Option Bool =>
                bif (x7.2 != y16) then
                  some false
                else
                  bif (x11.2 != y17) then
                    some false
                  else
                    bif (y16 != 0) then
                      bif (x7.1 != 0) then
                        some false
                      else
                        bif (y17 != 0) then
                          bif (x11.1 != 0) then
                            some false
                          else
                            k19 ()
                        else
                          k19 ()
                    else
                      bif (y17 != 0) then
                        bif (x11.1 != 0) then
                          some false
                        else
                          k19 ()
                      else
                        k19 ()) fun k18 : Int × Int → Option Bool =>
            (ref10_TariffX N p0).bind fun x53 =>
            bif (!x53) then
              k18 (1, 1)
            else
              k18 (y12, y14)) fun k15 : Int → Option Bool =>
        bif (y12 != 0) then
          k15 (2)
        else
          (ref10_InX N p1 0 1000000000000).bind fun x57 =>
          bif (!x57) then
            k15 (2)
          else
            bif (decide ((w64 (p1 + p2)) > 1000000000000)) then
              k15 (2)
            else
              k15 (0)) fun k13 : Int → Option Bool =>
    (ref10_InX N p2 0 1000000000000).bind fun x61 =>
    bif (!x61) then
      k13 (2)
    else
      k13 (0)
set_option maxRecDepth 100000 in
set_option maxHeartbeats 4000000 in
theorem law10_TownBillsX_ok (N : Nat) (p0 : (List GBracket)) (p1 : Int) (p2 : Int) (r : Bool) (h : law10_TownBillsX N p0 p1 p2 = some r) : Spec Try.prog 14 [(.dat 2 (p0.map c_GBracket)), (I p1), (I p2)] [] (B r) [] := by
  refine spec_of_awp Try.func14 rfl 0 (nle rfl) (fun X φ0 w0 hφ0 => ?_)
  unfold law10_TownBillsX at h
  refine awp_reg [mc (.bool false)] ?_ ?_
  · exact ⟨astep_assign rfl, trivial⟩
  refine awp_seq ?_
  refine awp_reg [mv 0 (.dat 2 ((p0 : List GBracket).map c_GBracket)), rp [(.tmp 13, (.dat 2 ((p0 : List GBracket).map c_GBracket)))] (I ((p0.length : Int))), rp [(.tmp 14, (I ((p0.length : Int)))), ci 10] (B ((decide ((p0.length : Int) > 10))))] ?_ ?_
  · exact ⟨astep_move rfl, astep_lenm (c := c_GBracket) (l := p0) (astep_len rfl Try.underlying114 rfl), astep_bin rfl rfl, trivial⟩
  rcases bft ((decide ((p0.length : Int) > 10))) with hc1 | hc1
  · replace h := bif_t hc1 h
    refine awp_ift hc1 (by kernel_rfl) ?_
    obtain ⟨x3, hf2, h⟩ := bind_out h
    refine awp_reg [rp [fu 21] (B x3), mv 16 (B x3)] ?_ ?_
    · exact ⟨astep_pcall (first := []) (cap := []) (vs := []) rfl enter21 (law10_wakesX_ok N  _ hf2) rfl rfl nl_nil nll rfl, astep_assign rfl, trivial⟩
    refine awp_ret ?_
    refine thenA_r ?_
    obtain rfl := osi h
    exact ⟨⟨[B x3], ⟨resOK_tmp (by kernel_rfl), trivial⟩, rfl⟩, nll, Nat.le_refl _, fun n hn => absurd hn (Nat.not_lt_zero n)⟩
  · replace h := bif_f hc1 h
    refine awp_ifn hc1 (by kernel_rfl) ?_
    refine awp_skip ?_
    refine thenA_n ?_
    obtain ⟨x5, hf4, h⟩ := bind_out h
    obtain ⟨x7, hf6, h⟩ := bind_out h
    refine awp_reg [mv 0 (.dat 2 ((p0 : List GBracket).map c_GBracket)), rp [fu 56, (.tmp 18, (.dat 2 ((p0 : List GBracket).map c_GBracket)))] (.dat 2 ((x5 : List GBracket).map c_GBracket)), mv 2 (I p2), rp [fu 55, (.tmp 19, (.dat 2 ((x5 : List GBracket).map c_GBracket))), (.tmp 20, I p2)] (.tup [I x7.1, I x7.2]), mv 21 (.tup [I x7.1, I x7.2]), rp [(.tmp 17, (.tup [I x7.1, I x7.2]))] (I x7.1), rp [(.tmp 17, (.tup [I x7.1, I x7.2]))] (I x7.2), mv 22 (I x7.1), mv 23 (I x7.2)] ?_ ?_
    · exact ⟨astep_move rfl, astep_pcall (first := []) (cap := []) (vs := [(.dat 2 ((p0 : List GBracket).map c_GBracket))]) rfl enter56 (law10_TariffX_ok N p0 _ hf4) rfl rfl (nl_cons (nl_dat nl_GBracket _) nl_nil) (nl_dat nl_GBracket _) rfl, astep_move rfl, astep_pcall (first := []) (cap := []) (vs := [(.dat 2 ((x5 : List GBracket).map c_GBracket)), I p2]) rfl enter55 (town_ChargeX_ok N x5 p2 _ hf6) rfl rfl (nl_cons (nl_dat nl_GBracket _) (nl_cons nll nl_nil)) (NLt.tup _ (nl_cons nll (nl_cons nll nl_nil))) rfl, astep_move rfl, astep_extract rfl rfl, astep_extract rfl rfl, astep_assign rfl, astep_assign rfl, trivial⟩
    obtain ⟨x9, hf8, h⟩ := bind_out h
    obtain ⟨x11, hf10, h⟩ := bind_out h
    refine awp_reg [mv 0 (.dat 2 ((p0 : List GBracket).map c_GBracket)), rp [fu 56, (.tmp 25, (.dat 2 ((p0 : List GBracket).map c_GBracket)))] (.dat 2 ((x9 : List GBracket).map c_GBracket)), mv 1 (I p1), mv 2 (I p2), rp [fu 57, (.tmp 26, (.dat 2 ((x9 : List GBracket).map c_GBracket))), (.tmp 27, I p1), (.tmp 28, I p2)] (.tup [I x11.1, I x11.2]), mv 29 (.tup [I x11.1, I x11.2]), rp [(.tmp 24, (.tup [I x11.1, I x11.2]))] (I x11.1), rp [(.tmp 24, (.tup [I x11.1, I x11.2]))] (I x11.2), mv 30 (I x11.1), mv 31 (I x11.2)] ?_ ?_
    · exact ⟨astep_move rfl, astep_pcall (first := []) (cap := []) (vs := [(.dat 2 ((p0 : List GBracket).map c_GBracket))]) rfl enter56 (law10_TariffX_ok N p0 _ hf8) rfl rfl (nl_cons (nl_dat nl_GBracket _) nl_nil) (nl_dat nl_GBracket _) rfl, astep_move rfl, astep_move rfl, astep_pcall (first := []) (cap := []) (vs := [(.dat 2 ((x9 : List GBracket).map c_GBracket)), I p1, I p2]) rfl enter57 (town_BillX_ok N x9 p1 p2 _ hf10) rfl rfl (nl_cons (nl_dat nl_GBracket _) (nl_cons nll (nl_cons nll nl_nil))) (NLt.tup _ (nl_cons nll (nl_cons nll nl_nil))) rfl, astep_move rfl, astep_extract rfl rfl, astep_extract rfl rfl, astep_assign rfl, astep_assign rfl, trivial⟩
    refine awp_reg [mc (.int .i64 0), mc (.int .i64 0)] ?_ ?_
    · exact ⟨astep_assign rfl, astep_assign rfl, trivial⟩
    obtain ⟨k13, hk_k13, h⟩ := joinK_out h
    refine awp_join (τ := Int) (fun t => k13 t = some r) (fun y12 => ⟨mk 104 [(0, (.dat 2 ((p0 : List GBracket).map c_GBracket))), (1, I p1), (2, I p2), (7, I x7.1), (8, I x7.2), (9, I x11.1), (10, I x11.2), (11, I y12), (12, I 0)], []⟩) (fun y12 h => ?_) ?_
    · subst hk_k13
      obtain ⟨k15, hk_k15, h⟩ := joinK_out h
      refine awp_join (τ := Int) (fun t => k15 t = some r) (fun y14 => ⟨mk 104 [(0, (.dat 2 ((p0 : List GBracket).map c_GBracket))), (1, I p1), (2, I p2), (7, I x7.1), (8, I x7.2), (9, I x11.1), (10, I x11.2), (11, I y12), (12, I y14)], []⟩) (fun y14 h => ?_) ?_
      · subst hk_k15
        obtain ⟨k18, hk_k18, h⟩ := joinK_out h
        refine awp_join (τ := Int × Int) (fun t => k18 t = some r) (fun ⟨y16, y17⟩ => ⟨mk 104 [(0, (.dat 2 ((p0 : List GBracket).map c_GBracket))), (1, I p1), (2, I p2), (7, I x7.1), (8, I x7.2), (9, I x11.1), (10, I x11.2), (11, I y16), (12, I y17)], []⟩) (fun t h => ?_) ?_
        · subst hk_k18
          obtain ⟨y16, y17⟩ := t
          obtain ⟨k19, hk_k19, h⟩ := joinK_out h
          refine awp_join (τ := Unit) (fun t => k19 t = some r) (fun _ => ⟨mk 104 [(0, (.dat 2 ((p0 : List GBracket).map c_GBracket))), (1, I p1), (2, I p2), (7, I x7.1), (9, I x11.1), (11, I y16), (12, I y17)], []⟩) (fun t h => ?_) ?_
          · subst hk_k19
            rcases bft ((y16 != 0)) with hb20 | hb20
            · replace h := bif_t hb20 h
              rcases bft ((y17 != 0)) with hb21 | hb21
              · replace h := bif_t hb21 h
                obtain ⟨x23, hf22, h⟩ := bind_out h
                refine awp_reg [mv 11 (I y16), rp [(.tmp 75, I y16), ci 0] (B ((y16 != 0))), rp [(.tmp 76, (B ((y16 != 0))))] (B true), sk 77 (B true), sk 77 (B true), sk 77 (B true), sk 77 (B true), sk 77 (B true), rp [(.tmp 77, B true), cb true, (.tmp 82, (.lit undef))] (B true), mv 83 (B true), rp [(.tmp 84, B true), (.tmp 12, I y17)] (I y17), rp [(.tmp 84, B true), (.tmp 85, I y17), ci 0] (B ((y17 != 0))), rp [(.tmp 84, B true), (.tmp 86, (B ((y17 != 0))))] (B true), sk 87 (B true), sk 87 (B true), sk 87 (B true), sk 87 (B true), sk 87 (B true), sk 87 (B true), sk 87 (B true), sk 87 (B true), sk 87 (B true), sk 87 (B true), sk 87 (B true), rp [(.tmp 84, B true), (.tmp 87, B true), cb true, (.tmp 98, (.lit undef))] (B true), rp [(.tmp 84, B true), (.tmp 99, B true), cb false] (B true), mv 100 (B true), rp [(.tmp 101, B true), fu 21] (B x23), rp [(.tmp 101, B true), (.tmp 102, B x23), cb false] (B x23), mv 103 (B x23)] ?_ ?_
                · exact ⟨astep_move rfl, astep_bin rfl rfl, astep_b hb20 (astep_move rfl), trivial, trivial, trivial, trivial, trivial, astep_pick rfl rfl, astep_move rfl, astep_guard (astep_move rfl), astep_guard (astep_bin rfl rfl), astep_b hb21 (astep_guard (astep_move rfl)), trivial, trivial, trivial, trivial, trivial, trivial, trivial, trivial, trivial, trivial, trivial, astep_guard (astep_pick rfl rfl), astep_pick rfl rfl, astep_move rfl, astep_guard (astep_pcall (first := []) (cap := []) (vs := []) rfl enter21 (law10_wakesX_ok N  _ hf22) rfl rfl nl_nil nll rfl), astep_pick rfl rfl, astep_assign rfl, trivial⟩
                refine awp_ret ?_
                obtain rfl := osi h
                exact ⟨⟨[B x23], ⟨resOK_tmp (by kernel_rfl), trivial⟩, rfl⟩, nll, Nat.le_refl _, fun n hn => absurd hn (Nat.not_lt_zero n)⟩
              · replace h := bif_f hb21 h
                obtain ⟨x25, hf24, h⟩ := bind_out h
                obtain ⟨x27, hf26, h⟩ := bind_out h
                rcases bft ((x11.1 == (w64 (x25 - x27)))) with hb28 | hb28
                · replace h := bif_t hb28 h
                  obtain ⟨x30, hf29, h⟩ := bind_out h
                  refine awp_reg [mv 11 (I y16), rp [(.tmp 75, I y16), ci 0] (B ((y16 != 0))), rp [(.tmp 76, (B ((y16 != 0))))] (B true), sk 77 (B true), sk 77 (B true), sk 77 (B true), sk 77 (B true), sk 77 (B true), rp [(.tmp 77, B true), cb true, (.tmp 82, (.lit undef))] (B true), mv 83 (B true), rp [(.tmp 84, B true), (.tmp 12, I y17)] (I y17), rp [(.tmp 84, B true), (.tmp 85, I y17), ci 0] (B ((y17 != 0))), rp [(.tmp 84, B true), (.tmp 86, (B ((y17 != 0))))] (B false), rp [(.tmp 87, B false), (.tmp 9, I x11.1)] (I x11.1), rp [(.tmp 87, B false), (.tmp 0, (.dat 2 ((p0 : List GBracket).map c_GBracket)))] (.dat 2 ((p0 : List GBracket).map c_GBracket)), rp [(.tmp 87, B false), (.tmp 1, I p1)] (I p1), rp [(.tmp 87, B false), (.tmp 2, I p2)] (I p2), rp [(.tmp 87, B false), (.tmp 90, I p1), (.tmp 91, I p2)] (I (w64 (p1 + p2))), rp [(.tmp 87, B false), fu 59, (.tmp 89, (.dat 2 ((p0 : List GBracket).map c_GBracket))), (.tmp 92, (I (w64 (p1 + p2))))] (I x25), rp [(.tmp 87, B false), (.tmp 0, (.dat 2 ((p0 : List GBracket).map c_GBracket)))] (.dat 2 ((p0 : List GBracket).map c_GBracket)), rp [(.tmp 87, B false), (.tmp 1, I p1)] (I p1), rp [(.tmp 87, B false), fu 59, (.tmp 94, (.dat 2 ((p0 : List GBracket).map c_GBracket))), (.tmp 95, I p1)] (I x27), rp [(.tmp 87, B false), (.tmp 93, I x25), (.tmp 96, I x27)] (I (w64 (x25 - x27))), rp [(.tmp 87, B false), (.tmp 88, I x11.1), (.tmp 97, (I (w64 (x25 - x27))))] (B ((x11.1 == (w64 (x25 - x27))))), rp [(.tmp 84, B true), (.tmp 87, B false), cb true, (.tmp 98, (B ((x11.1 == (w64 (x25 - x27))))))] (B ((x11.1 == (w64 (x25 - x27))))), rp [(.tmp 84, B true), (.tmp 99, (B ((x11.1 == (w64 (x25 - x27)))))), cb false] (B ((x11.1 == (w64 (x25 - x27))))), rp [(.tmp 100, (B ((x11.1 == (w64 (x25 - x27))))))] (B true), rp [(.tmp 101, B true), fu 21] (B x30), rp [(.tmp 101, B true), (.tmp 102, B x30), cb false] (B x30), mv 103 (B x30)] ?_ ?_
                  · exact ⟨astep_move rfl, astep_bin rfl rfl, astep_b hb20 (astep_move rfl), trivial, trivial, trivial, trivial, trivial, astep_pick rfl rfl, astep_move rfl, astep_guard (astep_move rfl), astep_guard (astep_bin rfl rfl), astep_b hb21 (astep_guard (astep_move rfl)), astep_guard (astep_move rfl), astep_guard (astep_move rfl), astep_guard (astep_move rfl), astep_guard (astep_move rfl), astep_guard (astep_bin rfl rfl), astep_guard (astep_pcall (first := []) (cap := []) (vs := [(.dat 2 ((p0 : List GBracket).map c_GBracket)), (I (w64 (p1 + p2)))]) rfl enter59 (ref10_ChargeX_ok N p0 (w64 (p1 + p2)) _ hf24) rfl rfl (nl_cons (nl_dat nl_GBracket _) (nl_cons nll nl_nil)) nll rfl), astep_guard (astep_move rfl), astep_guard (astep_move rfl), astep_guard (astep_pcall (first := []) (cap := []) (vs := [(.dat 2 ((p0 : List GBracket).map c_GBracket)), I p1]) rfl enter59 (ref10_ChargeX_ok N p0 p1 _ hf26) rfl rfl (nl_cons (nl_dat nl_GBracket _) (nl_cons nll nl_nil)) nll rfl), astep_guard (astep_bin rfl rfl), astep_guard (astep_bin rfl rfl), astep_guard (astep_pick rfl rfl), astep_pick rfl rfl, astep_b hb28 (astep_move rfl), astep_guard (astep_pcall (first := []) (cap := []) (vs := []) rfl enter21 (law10_wakesX_ok N  _ hf29) rfl rfl nl_nil nll rfl), astep_pick rfl rfl, astep_assign rfl, trivial⟩
                  refine awp_ret ?_
                  obtain rfl := osi h
                  exact ⟨⟨[B x30], ⟨resOK_tmp (by kernel_rfl), trivial⟩, rfl⟩, nll, Nat.le_refl _, fun n hn => absurd hn (Nat.not_lt_zero n)⟩
                · replace h := bif_f hb28 h
                  refine awp_reg [mv 11 (I y16), rp [(.tmp 75, I y16), ci 0] (B ((y16 != 0))), rp [(.tmp 76, (B ((y16 != 0))))] (B true), sk 77 (B true), sk 77 (B true), sk 77 (B true), sk 77 (B true), sk 77 (B true), rp [(.tmp 77, B true), cb true, (.tmp 82, (.lit undef))] (B true), mv 83 (B true), rp [(.tmp 84, B true), (.tmp 12, I y17)] (I y17), rp [(.tmp 84, B true), (.tmp 85, I y17), ci 0] (B ((y17 != 0))), rp [(.tmp 84, B true), (.tmp 86, (B ((y17 != 0))))] (B false), rp [(.tmp 87, B false), (.tmp 9, I x11.1)] (I x11.1), rp [(.tmp 87, B false), (.tmp 0, (.dat 2 ((p0 : List GBracket).map c_GBracket)))] (.dat 2 ((p0 : List GBracket).map c_GBracket)), rp [(.tmp 87, B false), (.tmp 1, I p1)] (I p1), rp [(.tmp 87, B false), (.tmp 2, I p2)] (I p2), rp [(.tmp 87, B false), (.tmp 90, I p1), (.tmp 91, I p2)] (I (w64 (p1 + p2))), rp [(.tmp 87, B false), fu 59, (.tmp 89, (.dat 2 ((p0 : List GBracket).map c_GBracket))), (.tmp 92, (I (w64 (p1 + p2))))] (I x25), rp [(.tmp 87, B false), (.tmp 0, (.dat 2 ((p0 : List GBracket).map c_GBracket)))] (.dat 2 ((p0 : List GBracket).map c_GBracket)), rp [(.tmp 87, B false), (.tmp 1, I p1)] (I p1), rp [(.tmp 87, B false), fu 59, (.tmp 94, (.dat 2 ((p0 : List GBracket).map c_GBracket))), (.tmp 95, I p1)] (I x27), rp [(.tmp 87, B false), (.tmp 93, I x25), (.tmp 96, I x27)] (I (w64 (x25 - x27))), rp [(.tmp 87, B false), (.tmp 88, I x11.1), (.tmp 97, (I (w64 (x25 - x27))))] (B ((x11.1 == (w64 (x25 - x27))))), rp [(.tmp 84, B true), (.tmp 87, B false), cb true, (.tmp 98, (B ((x11.1 == (w64 (x25 - x27))))))] (B ((x11.1 == (w64 (x25 - x27))))), rp [(.tmp 84, B true), (.tmp 99, (B ((x11.1 == (w64 (x25 - x27)))))), cb false] (B ((x11.1 == (w64 (x25 - x27))))), rp [(.tmp 100, (B ((x11.1 == (w64 (x25 - x27))))))] (B false), sk 101 (B false), rp [(.tmp 101, B false), (.tmp 102, (.lit undef)), cb false] (B false), mv 103 (B false)] ?_ ?_
                  · exact ⟨astep_move rfl, astep_bin rfl rfl, astep_b hb20 (astep_move rfl), trivial, trivial, trivial, trivial, trivial, astep_pick rfl rfl, astep_move rfl, astep_guard (astep_move rfl), astep_guard (astep_bin rfl rfl), astep_b hb21 (astep_guard (astep_move rfl)), astep_guard (astep_move rfl), astep_guard (astep_move rfl), astep_guard (astep_move rfl), astep_guard (astep_move rfl), astep_guard (astep_bin rfl rfl), astep_guard (astep_pcall (first := []) (cap := []) (vs := [(.dat 2 ((p0 : List GBracket).map c_GBracket)), (I (w64 (p1 + p2)))]) rfl enter59 (ref10_ChargeX_ok N p0 (w64 (p1 + p2)) _ hf24) rfl rfl (nl_cons (nl_dat nl_GBracket _) (nl_cons nll nl_nil)) nll rfl), astep_guard (astep_move rfl), astep_guard (astep_move rfl), astep_guard (astep_pcall (first := []) (cap := []) (vs := [(.dat 2 ((p0 : List GBracket).map c_GBracket)), I p1]) rfl enter59 (ref10_ChargeX_ok N p0 p1 _ hf26) rfl rfl (nl_cons (nl_dat nl_GBracket _) (nl_cons nll nl_nil)) nll rfl), astep_guard (astep_bin rfl rfl), astep_guard (astep_bin rfl rfl), astep_guard (astep_pick rfl rfl), astep_pick rfl rfl, astep_b hb28 (astep_move rfl), trivial, astep_pick rfl rfl, astep_assign rfl, trivial⟩
                  refine awp_ret ?_
                  obtain rfl := osi h
                  exact ⟨⟨[B false], ⟨resOK_tmp (by kernel_rfl), trivial⟩, rfl⟩, nll, Nat.le_refl _, fun n hn => absurd hn (Nat.not_lt_zero n)⟩
            · replace h := bif_f hb20 h
              obtain ⟨x32, hf31, h⟩ := bind_out h
              rcases bft ((x7.1 == x32)) with hb33 | hb33
              · replace h := bif_t hb33 h
                rcases bft ((y17 != 0)) with hb34 | hb34
                · replace h := bif_t hb34 h
                  obtain ⟨x36, hf35, h⟩ := bind_out h
                  refine awp_reg [mv 11 (I y16), rp [(.tmp 75, I y16), ci 0] (B ((y16 != 0))), rp [(.tmp 76, (B ((y16 != 0))))] (B false), rp [(.tmp 77, B false), (.tmp 7, I x7.1)] (I x7.1), rp [(.tmp 77, B false), (.tmp 0, (.dat 2 ((p0 : List GBracket).map c_GBracket)))] (.dat 2 ((p0 : List GBracket).map c_GBracket)), rp [(.tmp 77, B false), (.tmp 2, I p2)] (I p2), rp [(.tmp 77, B false), fu 59, (.tmp 79, (.dat 2 ((p0 : List GBracket).map c_GBracket))), (.tmp 80, I p2)] (I x32), rp [(.tmp 77, B false), (.tmp 78, I x7.1), (.tmp 81, I x32)] (B ((x7.1 == x32))), rp [(.tmp 77, B false), cb true, (.tmp 82, (B ((x7.1 == x32))))] (B ((x7.1 == x32))), rp [(.tmp 83, (B ((x7.1 == x32))))] (B true), rp [(.tmp 84, B true), (.tmp 12, I y17)] (I y17), rp [(.tmp 84, B true), (.tmp 85, I y17), ci 0] (B ((y17 != 0))), rp [(.tmp 84, B true), (.tmp 86, (B ((y17 != 0))))] (B true), sk 87 (B true), sk 87 (B true), sk 87 (B true), sk 87 (B true), sk 87 (B true), sk 87 (B true), sk 87 (B true), sk 87 (B true), sk 87 (B true), sk 87 (B true), sk 87 (B true), rp [(.tmp 84, B true), (.tmp 87, B true), cb true, (.tmp 98, (.lit undef))] (B true), rp [(.tmp 84, B true), (.tmp 99, B true), cb false] (B true), mv 100 (B true), rp [(.tmp 101, B true), fu 21] (B x36), rp [(.tmp 101, B true), (.tmp 102, B x36), cb false] (B x36), mv 103 (B x36)] ?_ ?_
                  · exact ⟨astep_move rfl, astep_bin rfl rfl, astep_b hb20 (astep_move rfl), astep_guard (astep_move rfl), astep_guard (astep_move rfl), astep_guard (astep_move rfl), astep_guard (astep_pcall (first := []) (cap := []) (vs := [(.dat 2 ((p0 : List GBracket).map c_GBracket)), I p2]) rfl enter59 (ref10_ChargeX_ok N p0 p2 _ hf31) rfl rfl (nl_cons (nl_dat nl_GBracket _) (nl_cons nll nl_nil)) nll rfl), astep_guard (astep_bin rfl rfl), astep_pick rfl rfl, astep_b hb33 (astep_move rfl), astep_guard (astep_move rfl), astep_guard (astep_bin rfl rfl), astep_b hb34 (astep_guard (astep_move rfl)), trivial, trivial, trivial, trivial, trivial, trivial, trivial, trivial, trivial, trivial, trivial, astep_guard (astep_pick rfl rfl), astep_pick rfl rfl, astep_move rfl, astep_guard (astep_pcall (first := []) (cap := []) (vs := []) rfl enter21 (law10_wakesX_ok N  _ hf35) rfl rfl nl_nil nll rfl), astep_pick rfl rfl, astep_assign rfl, trivial⟩
                  refine awp_ret ?_
                  obtain rfl := osi h
                  exact ⟨⟨[B x36], ⟨resOK_tmp (by kernel_rfl), trivial⟩, rfl⟩, nll, Nat.le_refl _, fun n hn => absurd hn (Nat.not_lt_zero n)⟩
                · replace h := bif_f hb34 h
                  obtain ⟨x38, hf37, h⟩ := bind_out h
                  obtain ⟨x40, hf39, h⟩ := bind_out h
                  rcases bft ((x11.1 == (w64 (x38 - x40)))) with hb41 | hb41
                  · replace h := bif_t hb41 h
                    obtain ⟨x43, hf42, h⟩ := bind_out h
                    refine awp_reg [mv 11 (I y16), rp [(.tmp 75, I y16), ci 0] (B ((y16 != 0))), rp [(.tmp 76, (B ((y16 != 0))))] (B false), rp [(.tmp 77, B false), (.tmp 7, I x7.1)] (I x7.1), rp [(.tmp 77, B false), (.tmp 0, (.dat 2 ((p0 : List GBracket).map c_GBracket)))] (.dat 2 ((p0 : List GBracket).map c_GBracket)), rp [(.tmp 77, B false), (.tmp 2, I p2)] (I p2), rp [(.tmp 77, B false), fu 59, (.tmp 79, (.dat 2 ((p0 : List GBracket).map c_GBracket))), (.tmp 80, I p2)] (I x32), rp [(.tmp 77, B false), (.tmp 78, I x7.1), (.tmp 81, I x32)] (B ((x7.1 == x32))), rp [(.tmp 77, B false), cb true, (.tmp 82, (B ((x7.1 == x32))))] (B ((x7.1 == x32))), rp [(.tmp 83, (B ((x7.1 == x32))))] (B true), rp [(.tmp 84, B true), (.tmp 12, I y17)] (I y17), rp [(.tmp 84, B true), (.tmp 85, I y17), ci 0] (B ((y17 != 0))), rp [(.tmp 84, B true), (.tmp 86, (B ((y17 != 0))))] (B false), rp [(.tmp 87, B false), (.tmp 9, I x11.1)] (I x11.1), rp [(.tmp 87, B false), (.tmp 0, (.dat 2 ((p0 : List GBracket).map c_GBracket)))] (.dat 2 ((p0 : List GBracket).map c_GBracket)), rp [(.tmp 87, B false), (.tmp 1, I p1)] (I p1), rp [(.tmp 87, B false), (.tmp 2, I p2)] (I p2), rp [(.tmp 87, B false), (.tmp 90, I p1), (.tmp 91, I p2)] (I (w64 (p1 + p2))), rp [(.tmp 87, B false), fu 59, (.tmp 89, (.dat 2 ((p0 : List GBracket).map c_GBracket))), (.tmp 92, (I (w64 (p1 + p2))))] (I x38), rp [(.tmp 87, B false), (.tmp 0, (.dat 2 ((p0 : List GBracket).map c_GBracket)))] (.dat 2 ((p0 : List GBracket).map c_GBracket)), rp [(.tmp 87, B false), (.tmp 1, I p1)] (I p1), rp [(.tmp 87, B false), fu 59, (.tmp 94, (.dat 2 ((p0 : List GBracket).map c_GBracket))), (.tmp 95, I p1)] (I x40), rp [(.tmp 87, B false), (.tmp 93, I x38), (.tmp 96, I x40)] (I (w64 (x38 - x40))), rp [(.tmp 87, B false), (.tmp 88, I x11.1), (.tmp 97, (I (w64 (x38 - x40))))] (B ((x11.1 == (w64 (x38 - x40))))), rp [(.tmp 84, B true), (.tmp 87, B false), cb true, (.tmp 98, (B ((x11.1 == (w64 (x38 - x40))))))] (B ((x11.1 == (w64 (x38 - x40))))), rp [(.tmp 84, B true), (.tmp 99, (B ((x11.1 == (w64 (x38 - x40)))))), cb false] (B ((x11.1 == (w64 (x38 - x40))))), rp [(.tmp 100, (B ((x11.1 == (w64 (x38 - x40))))))] (B true), rp [(.tmp 101, B true), fu 21] (B x43), rp [(.tmp 101, B true), (.tmp 102, B x43), cb false] (B x43), mv 103 (B x43)] ?_ ?_
                    · exact ⟨astep_move rfl, astep_bin rfl rfl, astep_b hb20 (astep_move rfl), astep_guard (astep_move rfl), astep_guard (astep_move rfl), astep_guard (astep_move rfl), astep_guard (astep_pcall (first := []) (cap := []) (vs := [(.dat 2 ((p0 : List GBracket).map c_GBracket)), I p2]) rfl enter59 (ref10_ChargeX_ok N p0 p2 _ hf31) rfl rfl (nl_cons (nl_dat nl_GBracket _) (nl_cons nll nl_nil)) nll rfl), astep_guard (astep_bin rfl rfl), astep_pick rfl rfl, astep_b hb33 (astep_move rfl), astep_guard (astep_move rfl), astep_guard (astep_bin rfl rfl), astep_b hb34 (astep_guard (astep_move rfl)), astep_guard (astep_move rfl), astep_guard (astep_move rfl), astep_guard (astep_move rfl), astep_guard (astep_move rfl), astep_guard (astep_bin rfl rfl), astep_guard (astep_pcall (first := []) (cap := []) (vs := [(.dat 2 ((p0 : List GBracket).map c_GBracket)), (I (w64 (p1 + p2)))]) rfl enter59 (ref10_ChargeX_ok N p0 (w64 (p1 + p2)) _ hf37) rfl rfl (nl_cons (nl_dat nl_GBracket _) (nl_cons nll nl_nil)) nll rfl), astep_guard (astep_move rfl), astep_guard (astep_move rfl), astep_guard (astep_pcall (first := []) (cap := []) (vs := [(.dat 2 ((p0 : List GBracket).map c_GBracket)), I p1]) rfl enter59 (ref10_ChargeX_ok N p0 p1 _ hf39) rfl rfl (nl_cons (nl_dat nl_GBracket _) (nl_cons nll nl_nil)) nll rfl), astep_guard (astep_bin rfl rfl), astep_guard (astep_bin rfl rfl), astep_guard (astep_pick rfl rfl), astep_pick rfl rfl, astep_b hb41 (astep_move rfl), astep_guard (astep_pcall (first := []) (cap := []) (vs := []) rfl enter21 (law10_wakesX_ok N  _ hf42) rfl rfl nl_nil nll rfl), astep_pick rfl rfl, astep_assign rfl, trivial⟩
                    refine awp_ret ?_
                    obtain rfl := osi h
                    exact ⟨⟨[B x43], ⟨resOK_tmp (by kernel_rfl), trivial⟩, rfl⟩, nll, Nat.le_refl _, fun n hn => absurd hn (Nat.not_lt_zero n)⟩
                  · replace h := bif_f hb41 h
                    refine awp_reg [mv 11 (I y16), rp [(.tmp 75, I y16), ci 0] (B ((y16 != 0))), rp [(.tmp 76, (B ((y16 != 0))))] (B false), rp [(.tmp 77, B false), (.tmp 7, I x7.1)] (I x7.1), rp [(.tmp 77, B false), (.tmp 0, (.dat 2 ((p0 : List GBracket).map c_GBracket)))] (.dat 2 ((p0 : List GBracket).map c_GBracket)), rp [(.tmp 77, B false), (.tmp 2, I p2)] (I p2), rp [(.tmp 77, B false), fu 59, (.tmp 79, (.dat 2 ((p0 : List GBracket).map c_GBracket))), (.tmp 80, I p2)] (I x32), rp [(.tmp 77, B false), (.tmp 78, I x7.1), (.tmp 81, I x32)] (B ((x7.1 == x32))), rp [(.tmp 77, B false), cb true, (.tmp 82, (B ((x7.1 == x32))))] (B ((x7.1 == x32))), rp [(.tmp 83, (B ((x7.1 == x32))))] (B true), rp [(.tmp 84, B true), (.tmp 12, I y17)] (I y17), rp [(.tmp 84, B true), (.tmp 85, I y17), ci 0] (B ((y17 != 0))), rp [(.tmp 84, B true), (.tmp 86, (B ((y17 != 0))))] (B false), rp [(.tmp 87, B false), (.tmp 9, I x11.1)] (I x11.1), rp [(.tmp 87, B false), (.tmp 0, (.dat 2 ((p0 : List GBracket).map c_GBracket)))] (.dat 2 ((p0 : List GBracket).map c_GBracket)), rp [(.tmp 87, B false), (.tmp 1, I p1)] (I p1), rp [(.tmp 87, B false), (.tmp 2, I p2)] (I p2), rp [(.tmp 87, B false), (.tmp 90, I p1), (.tmp 91, I p2)] (I (w64 (p1 + p2))), rp [(.tmp 87, B false), fu 59, (.tmp 89, (.dat 2 ((p0 : List GBracket).map c_GBracket))), (.tmp 92, (I (w64 (p1 + p2))))] (I x38), rp [(.tmp 87, B false), (.tmp 0, (.dat 2 ((p0 : List GBracket).map c_GBracket)))] (.dat 2 ((p0 : List GBracket).map c_GBracket)), rp [(.tmp 87, B false), (.tmp 1, I p1)] (I p1), rp [(.tmp 87, B false), fu 59, (.tmp 94, (.dat 2 ((p0 : List GBracket).map c_GBracket))), (.tmp 95, I p1)] (I x40), rp [(.tmp 87, B false), (.tmp 93, I x38), (.tmp 96, I x40)] (I (w64 (x38 - x40))), rp [(.tmp 87, B false), (.tmp 88, I x11.1), (.tmp 97, (I (w64 (x38 - x40))))] (B ((x11.1 == (w64 (x38 - x40))))), rp [(.tmp 84, B true), (.tmp 87, B false), cb true, (.tmp 98, (B ((x11.1 == (w64 (x38 - x40))))))] (B ((x11.1 == (w64 (x38 - x40))))), rp [(.tmp 84, B true), (.tmp 99, (B ((x11.1 == (w64 (x38 - x40)))))), cb false] (B ((x11.1 == (w64 (x38 - x40))))), rp [(.tmp 100, (B ((x11.1 == (w64 (x38 - x40))))))] (B false), sk 101 (B false), rp [(.tmp 101, B false), (.tmp 102, (.lit undef)), cb false] (B false), mv 103 (B false)] ?_ ?_
                    · exact ⟨astep_move rfl, astep_bin rfl rfl, astep_b hb20 (astep_move rfl), astep_guard (astep_move rfl), astep_guard (astep_move rfl), astep_guard (astep_move rfl), astep_guard (astep_pcall (first := []) (cap := []) (vs := [(.dat 2 ((p0 : List GBracket).map c_GBracket)), I p2]) rfl enter59 (ref10_ChargeX_ok N p0 p2 _ hf31) rfl rfl (nl_cons (nl_dat nl_GBracket _) (nl_cons nll nl_nil)) nll rfl), astep_guard (astep_bin rfl rfl), astep_pick rfl rfl, astep_b hb33 (astep_move rfl), astep_guard (astep_move rfl), astep_guard (astep_bin rfl rfl), astep_b hb34 (astep_guard (astep_move rfl)), astep_guard (astep_move rfl), astep_guard (astep_move rfl), astep_guard (astep_move rfl), astep_guard (astep_move rfl), astep_guard (astep_bin rfl rfl), astep_guard (astep_pcall (first := []) (cap := []) (vs := [(.dat 2 ((p0 : List GBracket).map c_GBracket)), (I (w64 (p1 + p2)))]) rfl enter59 (ref10_ChargeX_ok N p0 (w64 (p1 + p2)) _ hf37) rfl rfl (nl_cons (nl_dat nl_GBracket _) (nl_cons nll nl_nil)) nll rfl), astep_guard (astep_move rfl), astep_guard (astep_move rfl), astep_guard (astep_pcall (first := []) (cap := []) (vs := [(.dat 2 ((p0 : List GBracket).map c_GBracket)), I p1]) rfl enter59 (ref10_ChargeX_ok N p0 p1 _ hf39) rfl rfl (nl_cons (nl_dat nl_GBracket _) (nl_cons nll nl_nil)) nll rfl), astep_guard (astep_bin rfl rfl), astep_guard (astep_bin rfl rfl), astep_guard (astep_pick rfl rfl), astep_pick rfl rfl, astep_b hb41 (astep_move rfl), trivial, astep_pick rfl rfl, astep_assign rfl, trivial⟩
                    refine awp_ret ?_
                    obtain rfl := osi h
                    exact ⟨⟨[B false], ⟨resOK_tmp (by kernel_rfl), trivial⟩, rfl⟩, nll, Nat.le_refl _, fun n hn => absurd hn (Nat.not_lt_zero n)⟩
              · replace h := bif_f hb33 h
                refine awp_reg [mv 11 (I y16), rp [(.tmp 75, I y16), ci 0] (B ((y16 != 0))), rp [(.tmp 76, (B ((y16 != 0))))] (B false), rp [(.tmp 77, B false), (.tmp 7, I x7.1)] (I x7.1), rp [(.tmp 77, B false), (.tmp 0, (.dat 2 ((p0 : List GBracket).map c_GBracket)))] (.dat 2 ((p0 : List GBracket).map c_GBracket)), rp [(.tmp 77, B false), (.tmp 2, I p2)] (I p2), rp [(.tmp 77, B false), fu 59, (.tmp 79, (.dat 2 ((p0 : List GBracket).map c_GBracket))), (.tmp 80, I p2)] (I x32), rp [(.tmp 77, B false), (.tmp 78, I x7.1), (.tmp 81, I x32)] (B ((x7.1 == x32))), rp [(.tmp 77, B false), cb true, (.tmp 82, (B ((x7.1 == x32))))] (B ((x7.1 == x32))), rp [(.tmp 83, (B ((x7.1 == x32))))] (B false), sk 84 (B false), sk 84 (B false), sk 84 (B false), sk 87 (.lit undef), sk 87 (.lit undef), sk 87 (.lit undef), sk 87 (.lit undef), sk 87 (.lit undef), sk 87 (.lit undef), sk 87 (.lit undef), sk 87 (.lit undef), sk 87 (.lit undef), sk 87 (.lit undef), sk 87 (.lit undef), sk 84 (B false), rp [(.tmp 84, B false), (.tmp 99, (.lit undef)), cb false] (B false), mv 100 (B false), sk 101 (B false), rp [(.tmp 101, B false), (.tmp 102, (.lit undef)), cb false] (B false), mv 103 (B false)] ?_ ?_
                · exact ⟨astep_move rfl, astep_bin rfl rfl, astep_b hb20 (astep_move rfl), astep_guard (astep_move rfl), astep_guard (astep_move rfl), astep_guard (astep_move rfl), astep_guard (astep_pcall (first := []) (cap := []) (vs := [(.dat 2 ((p0 : List GBracket).map c_GBracket)), I p2]) rfl enter59 (ref10_ChargeX_ok N p0 p2 _ hf31) rfl rfl (nl_cons (nl_dat nl_GBracket _) (nl_cons nll nl_nil)) nll rfl), astep_guard (astep_bin rfl rfl), astep_pick rfl rfl, astep_b hb33 (astep_move rfl), trivial, trivial, trivial, trivial, trivial, trivial, trivial, trivial, trivial, trivial, trivial, trivial, trivial, trivial, trivial, astep_pick rfl rfl, astep_move rfl, trivial, astep_pick rfl rfl, astep_assign rfl, trivial⟩
                refine awp_ret ?_
                obtain rfl := osi h
                exact ⟨⟨[B false], ⟨resOK_tmp (by kernel_rfl), trivial⟩, rfl⟩, nll, Nat.le_refl _, fun n hn => absurd hn (Nat.not_lt_zero n)⟩
          · skip
            rcases bft ((x7.2 != y16)) with hb44 | hb44
            · replace h := bif_t hb44 h
              refine awp_reg [mv 8 (I x7.2), mv 11 (I y16), rp [(.tmp 51, I x7.2), (.tmp 52, I y16)] (B ((x7.2 != y16))), rp [(.tmp 53, (B ((x7.2 != y16))))] (B true), sk 54 (B true), sk 54 (B true), sk 54 (B true), rp [(.tmp 54, B true), cb true, (.tmp 57, (.lit undef))] (B true), mv 58 (B true), sk 59 (B true), sk 59 (B true), sk 59 (B true), sk 62 (.lit undef), sk 62 (.lit undef), sk 59 (B true), rp [(.tmp 59, B true), cb true, (.tmp 65, (.lit undef))] (B true), mv 66 (B true), sk 67 (B true), sk 67 (B true), sk 67 (B true), sk 70 (.lit undef), sk 70 (.lit undef), sk 67 (B true), rp [(.tmp 67, B true), cb true, (.tmp 73, (.lit undef))] (B true)] ?_ ?_
              · exact ⟨astep_move rfl, astep_move rfl, astep_bin rfl rfl, astep_b hb44 (astep_move rfl), trivial, trivial, trivial, astep_pick rfl rfl, astep_move rfl, trivial, trivial, trivial, trivial, trivial, trivial, astep_pick rfl rfl, astep_move rfl, trivial, trivial, trivial, trivial, trivial, trivial, astep_pick rfl rfl, trivial⟩
              refine awp_true (by kernel_rfl) ?_
              refine awp_reg [mc (.bool false)] ?_ ?_
              · exact ⟨astep_assign rfl, trivial⟩
              refine awp_ret ?_
              refine thenA_r ?_
              obtain rfl := osi h
              exact ⟨⟨[B false], ⟨resOK_tmp (by kernel_rfl), trivial⟩, rfl⟩, nll, Nat.le_refl _, fun n hn => absurd hn (Nat.not_lt_zero n)⟩
            · replace h := bif_f hb44 h
              rcases bft ((x11.2 != y17)) with hb45 | hb45
              · replace h := bif_t hb45 h
                refine awp_reg [mv 8 (I x7.2), mv 11 (I y16), rp [(.tmp 51, I x7.2), (.tmp 52, I y16)] (B ((x7.2 != y16))), rp [(.tmp 53, (B ((x7.2 != y16))))] (B false), rp [(.tmp 54, B false), (.tmp 10, I x11.2)] (I x11.2), rp [(.tmp 54, B false), (.tmp 12, I y17)] (I y17), rp [(.tmp 54, B false), (.tmp 55, I x11.2), (.tmp 56, I y17)] (B ((x11.2 != y17))), rp [(.tmp 54, B false), cb true, (.tmp 57, (B ((x11.2 != y17))))] (B ((x11.2 != y17))), rp [(.tmp 58, (B ((x11.2 != y17))))] (B true), sk 59 (B true), sk 59 (B true), sk 59 (B true), sk 62 (.lit undef), sk 62 (.lit undef), sk 59 (B true), rp [(.tmp 59, B true), cb true, (.tmp 65, (.lit undef))] (B true), mv 66 (B true), sk 67 (B true), sk 67 (B true), sk 67 (B true), sk 70 (.lit undef), sk 70 (.lit undef), sk 67 (B true), rp [(.tmp 67, B true), cb true, (.tmp 73, (.lit undef))] (B true)] ?_ ?_
                · exact ⟨astep_move rfl, astep_move rfl, astep_bin rfl rfl, astep_b hb44 (astep_move rfl), astep_guard (astep_move rfl), astep_guard (astep_move rfl), astep_guard (astep_bin rfl rfl), astep_pick rfl rfl, astep_b hb45 (astep_move rfl), trivial, trivial, trivial, trivial, trivial, trivial, astep_pick rfl rfl, astep_move rfl, trivial, trivial, trivial, trivial, trivial, trivial, astep_pick rfl rfl, trivial⟩
                refine awp_true (by kernel_rfl) ?_
                refine awp_reg [mc (.bool false)] ?_ ?_
                · exact ⟨astep_assign rfl, trivial⟩
                refine awp_ret ?_
                refine thenA_r ?_
                obtain rfl := osi h
                exact ⟨⟨[B false], ⟨resOK_tmp (by kernel_rfl), trivial⟩, rfl⟩, nll, Nat.le_refl _, fun n hn => absurd hn (Nat.not_lt_zero n)⟩
              · replace h := bif_f hb45 h
                rcases bft ((y16 != 0)) with hb46 | hb46
                · replace h := bif_t hb46 h
                  rcases bft ((x7.1 != 0)) with hb47 | hb47
                  · replace h := bif_t hb47 h
                    refine awp_reg [mv 8 (I x7.2), mv 11 (I y16), rp [(.tmp 51, I x7.2), (.tmp 52, I y16)] (B ((x7.2 != y16))), rp [(.tmp 53, (B ((x7.2 != y16))))] (B false), rp [(.tmp 54, B false), (.tmp 10, I x11.2)] (I x11.2), rp [(.tmp 54, B false), (.tmp 12, I y17)] (I y17), rp [(.tmp 54, B false), (.tmp 55, I x11.2), (.tmp 56, I y17)] (B ((x11.2 != y17))), rp [(.tmp 54, B false), cb true, (.tmp 57, (B ((x11.2 != y17))))] (B ((x11.2 != y17))), rp [(.tmp 58, (B ((x11.2 != y17))))] (B false), rp [(.tmp 59, B false), (.tmp 11, I y16)] (I y16), rp [(.tmp 59, B false), (.tmp 60, I y16), ci 0] (B ((y16 != 0))), rp [(.tmp 59, B false), (.tmp 61, (B ((y16 != 0))))] (B true), rp [(.tmp 62, B true), (.tmp 7, I x7.1)] (I x7.1), rp [(.tmp 62, B true), (.tmp 63, I x7.1), ci 0] (B ((x7.1 != 0))), rp [(.tmp 59, B false), (.tmp 62, B true), (.tmp 64, (B ((x7.1 != 0)))), cb false] (B ((x7.1 != 0))), rp [(.tmp 59, B false), cb true, (.tmp 65, (B ((x7.1 != 0))))] (B ((x7.1 != 0))), rp [(.tmp 66, (B ((x7.1 != 0))))] (B true), sk 67 (B true), sk 67 (B true), sk 67 (B true), sk 70 (.lit undef), sk 70 (.lit undef), sk 67 (B true), rp [(.tmp 67, B true), cb true, (.tmp 73, (.lit undef))] (B true)] ?_ ?_
                    · exact ⟨astep_move rfl, astep_move rfl, astep_bin rfl rfl, astep_b hb44 (astep_move rfl), astep_guard (astep_move rfl), astep_guard (astep_move rfl), astep_guard (astep_bin rfl rfl), astep_pick rfl rfl, astep_b hb45 (astep_move rfl), astep_guard (astep_move rfl), astep_guard (astep_bin rfl rfl), astep_b hb46 (astep_guard (astep_move rfl)), astep_guard (astep_move rfl), astep_guard (astep_bin rfl rfl), astep_guard (astep_pick rfl rfl), astep_pick rfl rfl, astep_b hb47 (astep_move rfl), trivial, trivial, trivial, trivial, trivial, trivial, astep_pick rfl rfl, trivial⟩
                    refine awp_true (by kernel_rfl) ?_
                    refine awp_reg [mc (.bool false)] ?_ ?_
                    · exact ⟨astep_assign rfl, trivial⟩
                    refine awp_ret ?_
                    refine thenA_r ?_
                    obtain rfl := osi h
                    exact ⟨⟨[B false], ⟨resOK_tmp (by kernel_rfl), trivial⟩, rfl⟩, nll, Nat.le_refl _, fun n hn => absurd hn (Nat.not_lt_zero n)⟩
                  · replace h := bif_f hb47 h
                    rcases bft ((y17 != 0)) with hb48 | hb48
                    · replace h := bif_t hb48 h
                      refine awp_reg [mv 8 (I x7.2), mv 11 (I y16), rp [(.tmp 51, I x7.2), (.tmp 52, I y16)] (B ((x7.2 != y16))), rp [(.tmp 53, (B ((x7.2 != y16))))] (B false), rp [(.tmp 54, B false), (.tmp 10, I x11.2)] (I x11.2), rp [(.tmp 54, B false), (.tmp 12, I y17)] (I y17), rp [(.tmp 54, B false), (.tmp 55, I x11.2), (.tmp 56, I y17)] (B ((x11.2 != y17))), rp [(.tmp 54, B false), cb true, (.tmp 57, (B ((x11.2 != y17))))] (B ((x11.2 != y17))), rp [(.tmp 58, (B ((x11.2 != y17))))] (B false), rp [(.tmp 59, B false), (.tmp 11, I y16)] (I y16), rp [(.tmp 59, B false), (.tmp 60, I y16), ci 0] (B ((y16 != 0))), rp [(.tmp 59, B false), (.tmp 61, (B ((y16 != 0))))] (B true), rp [(.tmp 62, B true), (.tmp 7, I x7.1)] (I x7.1), rp [(.tmp 62, B true), (.tmp 63, I x7.1), ci 0] (B ((x7.1 != 0))), rp [(.tmp 59, B false), (.tmp 62, B true), (.tmp 64, (B ((x7.1 != 0)))), cb false] (B ((x7.1 != 0))), rp [(.tmp 59, B false), cb true, (.tmp 65, (B ((x7.1 != 0))))] (B ((x7.1 != 0))), rp [(.tmp 66, (B ((x7.1 != 0))))] (B false), rp [(.tmp 67, B false), (.tmp 12, I y17)] (I y17), rp [(.tmp 67, B false), (.tmp 68, I y17), ci 0] (B ((y17 != 0))), rp [(.tmp 67, B false), (.tmp 69, (B ((y17 != 0))))] (B true), rp [(.tmp 70, B true), (.tmp 9, I x11.1)] (I x11.1), rp [(.tmp 70, B true), (.tmp 71, I x11.1), ci 0] (B ((x11.1 != 0))), rp [(.tmp 67, B false), (.tmp 70, B true), (.tmp 72, (B ((x11.1 != 0)))), cb false] (B ((x11.1 != 0))), rp [(.tmp 67, B false), cb true, (.tmp 73, (B ((x11.1 != 0))))] (B ((x11.1 != 0)))] ?_ ?_
                      · exact ⟨astep_move rfl, astep_move rfl, astep_bin rfl rfl, astep_b hb44 (astep_move rfl), astep_guard (astep_move rfl), astep_guard (astep_move rfl), astep_guard (astep_bin rfl rfl), astep_pick rfl rfl, astep_b hb45 (astep_move rfl), astep_guard (astep_move rfl), astep_guard (astep_bin rfl rfl), astep_b hb46 (astep_guard (astep_move rfl)), astep_guard (astep_move rfl), astep_guard (astep_bin rfl rfl), astep_guard (astep_pick rfl rfl), astep_pick rfl rfl, astep_b hb47 (astep_move rfl), astep_guard (astep_move rfl), astep_guard (astep_bin rfl rfl), astep_b hb48 (astep_guard (astep_move rfl)), astep_guard (astep_move rfl), astep_guard (astep_bin rfl rfl), astep_guard (astep_pick rfl rfl), astep_pick rfl rfl, trivial⟩
                      rcases bft ((x11.1 != 0)) with hc49 | hc49
                      · replace h := bif_t hc49 h
                        refine awp_ift hc49 (by kernel_rfl) ?_
                        refine awp_reg [mc (.bool false)] ?_ ?_
                        · exact ⟨astep_assign rfl, trivial⟩
                        refine awp_ret ?_
                        refine thenA_r ?_
                        obtain rfl := osi h
                        exact ⟨⟨[B false], ⟨resOK_tmp (by kernel_rfl), trivial⟩, rfl⟩, nll, Nat.le_refl _, fun n hn => absurd hn (Nat.not_lt_zero n)⟩
                      · replace h := bif_f hc49 h
                        refine awp_ifn hc49 (by kernel_rfl) ?_
                        refine awp_skip ?_
                        refine thenA_n ?_
                        exact ⟨(), h, (mor_to (n := 104) [(0, (.dat 2 ((p0 : List GBracket).map c_GBracket))), (1, I p1), (2, I p2), (7, I x7.1), (9, I x11.1), (11, I y16), (12, I y17)] [] [] hφ0 (pc (.rn (.plain _ (nl_dat nl_GBracket _))) (pc rwl (pc rwl (pc rwl (pc rwl (pc rwl (pc rwl pn))))))) qn)⟩
                    · replace h := bif_f hb48 h
                      refine awp_reg [mv 8 (I x7.2), mv 11 (I y16), rp [(.tmp 51, I x7.2), (.tmp 52, I y16)] (B ((x7.2 != y16))), rp [(.tmp 53, (B ((x7.2 != y16))))] (B false), rp [(.tmp 54, B false), (.tmp 10, I x11.2)] (I x11.2), rp [(.tmp 54, B false), (.tmp 12, I y17)] (I y17), rp [(.tmp 54, B false), (.tmp 55, I x11.2), (.tmp 56, I y17)] (B ((x11.2 != y17))), rp [(.tmp 54, B false), cb true, (.tmp 57, (B ((x11.2 != y17))))] (B ((x11.2 != y17))), rp [(.tmp 58, (B ((x11.2 != y17))))] (B false), rp [(.tmp 59, B false), (.tmp 11, I y16)] (I y16), rp [(.tmp 59, B false), (.tmp 60, I y16), ci 0] (B ((y16 != 0))), rp [(.tmp 59, B false), (.tmp 61, (B ((y16 != 0))))] (B true), rp [(.tmp 62, B true), (.tmp 7, I x7.1)] (I x7.1), rp [(.tmp 62, B true), (.tmp 63, I x7.1), ci 0] (B ((x7.1 != 0))), rp [(.tmp 59, B false), (.tmp 62, B true), (.tmp 64, (B ((x7.1 != 0)))), cb false] (B ((x7.1 != 0))), rp [(.tmp 59, B false), cb true, (.tmp 65, (B ((x7.1 != 0))))] (B ((x7.1 != 0))), rp [(.tmp 66, (B ((x7.1 != 0))))] (B false), rp [(.tmp 67, B false), (.tmp 12, I y17)] (I y17), rp [(.tmp 67, B false), (.tmp 68, I y17), ci 0] (B ((y17 != 0))), rp [(.tmp 67, B false), (.tmp 69, (B ((y17 != 0))))] (B false), sk 70 (B false), sk 70 (B false), rp [(.tmp 67, B false), (.tmp 70, B false), (.tmp 72, (.lit undef)), cb false] (B false), rp [(.tmp 67, B false), cb true, (.tmp 73, B false)] (B false)] ?_ ?_
                      · exact ⟨astep_move rfl, astep_move rfl, astep_bin rfl rfl, astep_b hb44 (astep_move rfl), astep_guard (astep_move rfl), astep_guard (astep_move rfl), astep_guard (astep_bin rfl rfl), astep_pick rfl rfl, astep_b hb45 (astep_move rfl), astep_guard (astep_move rfl), astep_guard (astep_bin rfl rfl), astep_b hb46 (astep_guard (astep_move rfl)), astep_guard (astep_move rfl), astep_guard (astep_bin rfl rfl), astep_guard (astep_pick rfl rfl), astep_pick rfl rfl, astep_b hb47 (astep_move rfl), astep_guard (astep_move rfl), astep_guard (astep_bin rfl rfl), astep_b hb48 (astep_guard (astep_move rfl)), trivial, trivial, astep_guard (astep_pick rfl rfl), astep_pick rfl rfl, trivial⟩
                      refine awp_false (by kernel_rfl) ?_
                      refine awp_skip ?_
                      refine thenA_n ?_
                      exact ⟨(), h, (mor_to (n := 104) [(0, (.dat 2 ((p0 : List GBracket).map c_GBracket))), (1, I p1), (2, I p2), (7, I x7.1), (9, I x11.1), (11, I y16), (12, I y17)] [] [] hφ0 (pc (.rn (.plain _ (nl_dat nl_GBracket _))) (pc rwl (pc rwl (pc rwl (pc rwl (pc rwl (pc rwl pn))))))) qn)⟩
                · replace h := bif_f hb46 h
                  rcases bft ((y17 != 0)) with hb50 | hb50
                  · replace h := bif_t hb50 h
                    refine awp_reg [mv 8 (I x7.2), mv 11 (I y16), rp [(.tmp 51, I x7.2), (.tmp 52, I y16)] (B ((x7.2 != y16))), rp [(.tmp 53, (B ((x7.2 != y16))))] (B false), rp [(.tmp 54, B false), (.tmp 10, I x11.2)] (I x11.2), rp [(.tmp 54, B false), (.tmp 12, I y17)] (I y17), rp [(.tmp 54, B false), (.tmp 55, I x11.2), (.tmp 56, I y17)] (B ((x11.2 != y17))), rp [(.tmp 54, B false), cb true, (.tmp 57, (B ((x11.2 != y17))))] (B ((x11.2 != y17))), rp [(.tmp 58, (B ((x11.2 != y17))))] (B false), rp [(.tmp 59, B false), (.tmp 11, I y16)] (I y16), rp [(.tmp 59, B false), (.tmp 60, I y16), ci 0] (B ((y16 != 0))), rp [(.tmp 59, B false), (.tmp 61, (B ((y16 != 0))))] (B false), sk 62 (B false), sk 62 (B false), rp [(.tmp 59, B false), (.tmp 62, B false), (.tmp 64, (.lit undef)), cb false] (B false), rp [(.tmp 59, B false), cb true, (.tmp 65, B false)] (B false), mv 66 (B false), rp [(.tmp 67, B false), (.tmp 12, I y17)] (I y17), rp [(.tmp 67, B false), (.tmp 68, I y17), ci 0] (B ((y17 != 0))), rp [(.tmp 67, B false), (.tmp 69, (B ((y17 != 0))))] (B true), rp [(.tmp 70, B true), (.tmp 9, I x11.1)] (I x11.1), rp [(.tmp 70, B true), (.tmp 71, I x11.1), ci 0] (B ((x11.1 != 0))), rp [(.tmp 67, B false), (.tmp 70, B true), (.tmp 72, (B ((x11.1 != 0)))), cb false] (B ((x11.1 != 0))), rp [(.tmp 67, B false), cb true, (.tmp 73, (B ((x11.1 != 0))))] (B ((x11.1 != 0)))] ?_ ?_
                    · exact ⟨astep_move rfl, astep_move rfl, astep_bin rfl rfl, astep_b hb44 (astep_move rfl), astep_guard (astep_move rfl), astep_guard (astep_move rfl), astep_guard (astep_bin rfl rfl), astep_pick rfl rfl, astep_b hb45 (astep_move rfl), astep_guard (astep_move rfl), astep_guard (astep_bin rfl rfl), astep_b hb46 (astep_guard (astep_move rfl)), trivial, trivial, astep_guard (astep_pick rfl rfl), astep_pick rfl rfl, astep_move rfl, astep_guard (astep_move rfl), astep_guard (astep_bin rfl rfl), astep_b hb50 (astep_guard (astep_move rfl)), astep_guard (astep_move rfl), astep_guard (astep_bin rfl rfl), astep_guard (astep_pick rfl rfl), astep_pick rfl rfl, trivial⟩
                    rcases bft ((x11.1 != 0)) with hc51 | hc51
                    · replace h := bif_t hc51 h
                      refine awp_ift hc51 (by kernel_rfl) ?_
                      refine awp_reg [mc (.bool false)] ?_ ?_
                      · exact ⟨astep_assign rfl, trivial⟩
                      refine awp_ret ?_
                      refine thenA_r ?_
                      obtain rfl := osi h
                      exact ⟨⟨[B false], ⟨resOK_tmp (by kernel_rfl), trivial⟩, rfl⟩, nll, Nat.le_refl _, fun n hn => absurd hn (Nat.not_lt_zero n)⟩
                    · replace h := bif_f hc51 h
                      refine awp_ifn hc51 (by kernel_rfl) ?_
                      refine awp_skip ?_
                      refine thenA_n ?_
                      exact ⟨(), h, (mor_to (n := 104) [(0, (.dat 2 ((p0 : List GBracket).map c_GBracket))), (1, I p1), (2, I p2), (7, I x7.1), (9, I x11.1), (11, I y16), (12, I y17)] [] [] hφ0 (pc (.rn (.plain _ (nl_dat nl_GBracket _))) (pc rwl (pc rwl (pc rwl (pc rwl (pc rwl (pc rwl pn))))))) qn)⟩
                  · replace h := bif_f hb50 h
                    refine awp_reg [mv 8 (I x7.2), mv 11 (I y16), rp [(.tmp 51, I x7.2), (.tmp 52, I y16)] (B ((x7.2 != y16))), rp [(.tmp 53, (B ((x7.2 != y16))))] (B false), rp [(.tmp 54, B false), (.tmp 10, I x11.2)] (I x11.2), rp [(.tmp 54, B false), (.tmp 12, I y17)] (I y17), rp [(.tmp 54, B false), (.tmp 55, I x11.2), (.tmp 56, I y17)] (B ((x11.2 != y17))), rp [(.tmp 54, B false), cb true, (.tmp 57, (B ((x11.2 != y17))))] (B ((x11.2 != y17))), rp [(.tmp 58, (B ((x11.2 != y17))))] (B false), rp [(.tmp 59, B false), (.tmp 11, I y16)] (I y16), rp [(.tmp 59, B false), (.tmp 60, I y16), ci 0] (B ((y16 != 0))), rp [(.tmp 59, B false), (.tmp 61, (B ((y16 != 0))))] (B false), sk 62 (B false), sk 62 (B false), rp [(.tmp 59, B false), (.tmp 62, B false), (.tmp 64, (.lit undef)), cb false] (B false), rp [(.tmp 59, B false), cb true, (.tmp 65, B false)] (B false), mv 66 (B false), rp [(.tmp 67, B false), (.tmp 12, I y17)] (I y17), rp [(.tmp 67, B false), (.tmp 68, I y17), ci 0] (B ((y17 != 0))), rp [(.tmp 67, B false), (.tmp 69, (B ((y17 != 0))))] (B false), sk 70 (B false), sk 70 (B false), rp [(.tmp 67, B false), (.tmp 70, B false), (.tmp 72, (.lit undef)), cb false] (B false), rp [(.tmp 67, B false), cb true, (.tmp 73, B false)] (B false)] ?_ ?_
                    · exact ⟨astep_move rfl, astep_move rfl, astep_bin rfl rfl, astep_b hb44 (astep_move rfl), astep_guard (astep_move rfl), astep_guard (astep_move rfl), astep_guard (astep_bin rfl rfl), astep_pick rfl rfl, astep_b hb45 (astep_move rfl), astep_guard (astep_move rfl), astep_guard (astep_bin rfl rfl), astep_b hb46 (astep_guard (astep_move rfl)), trivial, trivial, astep_guard (astep_pick rfl rfl), astep_pick rfl rfl, astep_move rfl, astep_guard (astep_move rfl), astep_guard (astep_bin rfl rfl), astep_b hb50 (astep_guard (astep_move rfl)), trivial, trivial, astep_guard (astep_pick rfl rfl), astep_pick rfl rfl, trivial⟩
                    refine awp_false (by kernel_rfl) ?_
                    refine awp_skip ?_
                    refine thenA_n ?_
                    exact ⟨(), h, (mor_to (n := 104) [(0, (.dat 2 ((p0 : List GBracket).map c_GBracket))), (1, I p1), (2, I p2), (7, I x7.1), (9, I x11.1), (11, I y16), (12, I y17)] [] [] hφ0 (pc (.rn (.plain _ (nl_dat nl_GBracket _))) (pc rwl (pc rwl (pc rwl (pc rwl (pc rwl (pc rwl pn))))))) qn)⟩
        · skip
          obtain ⟨x53, hf52, h⟩ := bind_out h
          refine awp_reg [mv 0 (.dat 2 ((p0 : List GBracket).map c_GBracket)), rp [fu 58, (.tmp 48, (.dat 2 ((p0 : List GBracket).map c_GBracket)))] (B x53), rp [(.tmp 49, B x53)] (B ((!x53)))] ?_ ?_
          · exact ⟨astep_move rfl, astep_pcall (first := []) (cap := []) (vs := [(.dat 2 ((p0 : List GBracket).map c_GBracket))]) rfl enter58 (ref10_TariffX_ok N p0 _ hf52) rfl rfl (nl_cons (nl_dat nl_GBracket _) nl_nil) nll rfl, astep_not rfl, trivial⟩
          rcases bft ((!x53)) with hc54 | hc54
          · replace h := bif_t hc54 h
            refine awp_ift hc54 (by kernel_rfl) ?_
            refine awp_reg1 [mc (.int .i64 1), mc (.int .i64 1)] ?_ ?_
            · exact ⟨astep_assign rfl, astep_assign rfl, trivial⟩
            refine thenA_n ?_
            exact ⟨(1, 1), h, (mor_to (n := 104) [(0, (.dat 2 ((p0 : List GBracket).map c_GBracket))), (1, I p1), (2, I p2), (7, I x7.1), (8, I x7.2), (9, I x11.1), (10, I x11.2), (11, I 1), (12, I 1)] [] [] hφ0 (pc (.rn (.plain _ (nl_dat nl_GBracket _))) (pc rwl (pc rwl (pc rwl (pc rwl (pc rwl (pc rwl (pc rwl (pc rwl pn))))))))) qn)⟩
          · replace h := bif_f hc54 h
            refine awp_ifn hc54 (by kernel_rfl) ?_
            refine awp_skip ?_
            refine thenA_n ?_
            exact ⟨(y12, y14), h, (mor_to (n := 104) [(0, (.dat 2 ((p0 : List GBracket).map c_GBracket))), (1, I p1), (2, I p2), (7, I x7.1), (8, I x7.2), (9, I x11.1), (10, I x11.2), (11, I y12), (12, I y14)] [] [] hφ0 (pc (.rn (.plain _ (nl_dat nl_GBracket _))) (pc rwl (pc rwl (pc rwl (pc rwl (pc rwl (pc rwl (pc rwl (pc rwl pn))))))))) qn)⟩
      · skip
        rcases bft ((y12 != 0)) with hb55 | hb55
        · replace h := bif_t hb55 h
          refine awp_reg [mv 11 (I y12), rp [(.tmp 35, I y12), ci 0] (B ((y12 != 0))), rp [(.tmp 36, (B ((y12 != 0))))] (B true), sk 37 (B true), sk 37 (B true), sk 37 (B true), rp [(.tmp 37, B true), cb true, (.tmp 40, (.lit undef))] (B true), mv 41 (B true), sk 42 (B true), sk 42 (B true), sk 42 (B true), sk 42 (B true), rp [(.tmp 42, B true), cb true, (.tmp 46, (.lit undef))] (B true)] ?_ ?_
          · exact ⟨astep_move rfl, astep_bin rfl rfl, astep_b hb55 (astep_move rfl), trivial, trivial, trivial, astep_pick rfl rfl, astep_move rfl, trivial, trivial, trivial, trivial, astep_pick rfl rfl, trivial⟩
          refine awp_true (by kernel_rfl) ?_
          refine awp_reg1 [mc (.int .i64 2)] ?_ ?_
          · exact ⟨astep_assign rfl, trivial⟩
          refine thenA_n ?_
          exact ⟨(2), h, (mor_to (n := 104) [(0, (.dat 2 ((p0 : List GBracket).map c_GBracket))), (1, I p1), (2, I p2), (7, I x7.1), (8, I x7.2), (9, I x11.1), (10, I x11.2), (11, I y12), (12, I 2)] [] [] hφ0 (pc (.rn (.plain _ (nl_dat nl_GBracket _))) (pc rwl (pc rwl (pc rwl (pc rwl (pc rwl (pc rwl (pc rwl (pc rwl pn))))))))) qn)⟩
        · replace h := bif_f hb55 h
          obtain ⟨x57, hf56, h⟩ := bind_out h
          rcases bft ((!x57)) with hb58 | hb58
          · replace h := bif_t hb58 h
            refine awp_reg [mv 11 (I y12), rp [(.tmp 35, I y12), ci 0] (B ((y12 != 0))), rp [(.tmp 36, (B ((y12 != 0))))] (B false), rp [(.tmp 37, B false), (.tmp 1, I p1)] (I p1), rp [(.tmp 37, B false), fu 27, (.tmp 38, I p1), ci 0, ci 1000000000000] (B x57), rp [(.tmp 37, B false), (.tmp 39, B x57)] (B ((!x57))), rp [(.tmp 37, B false), cb true, (.tmp 40, (B ((!x57))))] (B ((!x57))), rp [(.tmp 41, (B ((!x57))))] (B true), sk 42 (B true), sk 42 (B true), sk 42 (B true), sk 42 (B true), rp [(.tmp 42, B true), cb true, (.tmp 46, (.lit undef))] (B true)] ?_ ?_
            · exact ⟨astep_move rfl, astep_bin rfl rfl, astep_b hb55 (astep_move rfl), astep_guard (astep_move rfl), astep_guard (astep_pcall (first := []) (cap := []) (vs := [I p1, I 0, I 1000000000000]) rfl enter27 (ref10_InX_ok N p1 0 1000000000000 _ hf56) rfl rfl (nl_cons nll (nl_cons nll (nl_cons nll nl_nil))) nll rfl), astep_guard (astep_not rfl), astep_pick rfl rfl, astep_b hb58 (astep_move rfl), trivial, trivial, trivial, trivial, astep_pick rfl rfl, trivial⟩
            refine awp_true (by kernel_rfl) ?_
            refine awp_reg1 [mc (.int .i64 2)] ?_ ?_
            · exact ⟨astep_assign rfl, trivial⟩
            refine thenA_n ?_
            exact ⟨(2), h, (mor_to (n := 104) [(0, (.dat 2 ((p0 : List GBracket).map c_GBracket))), (1, I p1), (2, I p2), (7, I x7.1), (8, I x7.2), (9, I x11.1), (10, I x11.2), (11, I y12), (12, I 2)] [] [] hφ0 (pc (.rn (.plain _ (nl_dat nl_GBracket _))) (pc rwl (pc rwl (pc rwl (pc rwl (pc rwl (pc rwl (pc rwl (pc rwl pn))))))))) qn)⟩
          · replace h := bif_f hb58 h
            refine awp_reg [mv 11 (I y12), rp [(.tmp 35, I y12), ci 0] (B ((y12 != 0))), rp [(.tmp 36, (B ((y12 != 0))))] (B false), rp [(.tmp 37, B false), (.tmp 1, I p1)] (I p1), rp [(.tmp 37, B false), fu 27, (.tmp 38, I p1), ci 0, ci 1000000000000] (B x57), rp [(.tmp 37, B false), (.tmp 39, B x57)] (B ((!x57))), rp [(.tmp 37, B false), cb true, (.tmp 40, (B ((!x57))))] (B ((!x57))), rp [(.tmp 41, (B ((!x57))))] (B false), rp [(.tmp 42, B false), (.tmp 1, I p1)] (I p1), rp [(.tmp 42, B false), (.tmp 2, I p2)] (I p2), rp [(.tmp 42, B false), (.tmp 43, I p1), (.tmp 44, I p2)] (I (w64 (p1 + p2))), rp [(.tmp 42, B false), (.tmp 45, (I (w64 (p1 + p2)))), ci 1000000000000] (B ((decide ((w64 (p1 + p2)) > 1000000000000)))), rp [(.tmp 42, B false), cb true, (.tmp 46, (B ((decide ((w64 (p1 + p2)) > 1000000000000)))))] (B ((decide ((w64 (p1 + p2)) > 1000000000000))))] ?_ ?_
            · exact ⟨astep_move rfl, astep_bin rfl rfl, astep_b hb55 (astep_move rfl), astep_guard (astep_move rfl), astep_guard (astep_pcall (first := []) (cap := []) (vs := [I p1, I 0, I 1000000000000]) rfl enter27 (ref10_InX_ok N p1 0 1000000000000 _ hf56) rfl rfl (nl_cons nll (nl_cons nll (nl_cons nll nl_nil))) nll rfl), astep_guard (astep_not rfl), astep_pick rfl rfl, astep_b hb58 (astep_move rfl), astep_guard (astep_move rfl), astep_guard (astep_move rfl), astep_guard (astep_bin rfl rfl), astep_guard (astep_bin rfl rfl), astep_pick rfl rfl, trivial⟩
            rcases bft ((decide ((w64 (p1 + p2)) > 1000000000000))) with hc59 | hc59
            · replace h := bif_t hc59 h
              refine awp_ift hc59 (by kernel_rfl) ?_
              refine awp_reg1 [mc (.int .i64 2)] ?_ ?_
              · exact ⟨astep_assign rfl, trivial⟩
              refine thenA_n ?_
              exact ⟨(2), h, (mor_to (n := 104) [(0, (.dat 2 ((p0 : List GBracket).map c_GBracket))), (1, I p1), (2, I p2), (7, I x7.1), (8, I x7.2), (9, I x11.1), (10, I x11.2), (11, I y12), (12, I 2)] [] [] hφ0 (pc (.rn (.plain _ (nl_dat nl_GBracket _))) (pc rwl (pc rwl (pc rwl (pc rwl (pc rwl (pc rwl (pc rwl (pc rwl pn))))))))) qn)⟩
            · replace h := bif_f hc59 h
              refine awp_ifn hc59 (by kernel_rfl) ?_
              refine awp_skip ?_
              refine thenA_n ?_
              exact ⟨(0), h, (mor_to (n := 104) [(0, (.dat 2 ((p0 : List GBracket).map c_GBracket))), (1, I p1), (2, I p2), (7, I x7.1), (8, I x7.2), (9, I x11.1), (10, I x11.2), (11, I y12), (12, I 0)] [] [] hφ0 (pc (.rn (.plain _ (nl_dat nl_GBracket _))) (pc rwl (pc rwl (pc rwl (pc rwl (pc rwl (pc rwl (pc rwl (pc rwl pn))))))))) qn)⟩
    · skip
      obtain ⟨x61, hf60, h⟩ := bind_out h
      refine awp_reg [mv 2 (I p2), rp [fu 27, (.tmp 32, I p2), ci 0, ci 1000000000000] (B x61), rp [(.tmp 33, B x61)] (B ((!x61)))] ?_ ?_
      · exact ⟨astep_move rfl, astep_pcall (first := []) (cap := []) (vs := [I p2, I 0, I 1000000000000]) rfl enter27 (ref10_InX_ok N p2 0 1000000000000 _ hf60) rfl rfl (nl_cons nll (nl_cons nll (nl_cons nll nl_nil))) nll rfl, astep_not rfl, trivial⟩
      rcases bft ((!x61)) with hc62 | hc62
      · replace h := bif_t hc62 h
        refine awp_ift hc62 (by kernel_rfl) ?_
        refine awp_reg1 [mc (.int .i64 2)] ?_ ?_
        · exact ⟨astep_assign rfl, trivial⟩
        refine thenA_n ?_
        exact ⟨(2), h, (mor_to (n := 104) [(0, (.dat 2 ((p0 : List GBracket).map c_GBracket))), (1, I p1), (2, I p2), (7, I x7.1), (8, I x7.2), (9, I x11.1), (10, I x11.2), (11, I 2), (12, I 0)] [] [] hφ0 (pc (.rn (.plain _ (nl_dat nl_GBracket _))) (pc rwl (pc rwl (pc rwl (pc rwl (pc rwl (pc rwl (pc rwl (pc rwl pn))))))))) qn)⟩
      · replace h := bif_f hc62 h
        refine awp_ifn hc62 (by kernel_rfl) ?_
        refine awp_skip ?_
        refine thenA_n ?_
        exact ⟨(0), h, (mor_to (n := 104) [(0, (.dat 2 ((p0 : List GBracket).map c_GBracket))), (1, I p1), (2, I p2), (7, I x7.1), (8, I x7.2), (9, I x11.1), (10, I x11.2), (11, I 0), (12, I 0)] [] [] hφ0 (pc (.rn (.plain _ (nl_dat nl_GBracket _))) (pc rwl (pc rwl (pc rwl (pc rwl (pc rwl (pc rwl (pc rwl (pc rwl pn))))))))) qn)⟩

end Go.Proofs.Ytgdepcgbjjgnfaa
