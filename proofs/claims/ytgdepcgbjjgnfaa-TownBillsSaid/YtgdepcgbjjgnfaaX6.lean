/-
  Functions of the program: what they compute, as plain functions, and that they do. No conditions.
-/
import Derived.Test.YtgdepcgbjjgnfaaX5
namespace Go.Proofs.Ytgdepcgbjjgnfaa
open Go.RowKit

def law10_TariffX_loop1 (N : Nat) (p0 : (List GBracket)) (k2 : (List GBracket) → Option (List GBracket)) : Nat → (List GBracket) → Int → Option (List GBracket)
  | 0, _, _ => none
  | n7 + 1, y3, y4 =>
    bif (decide (y4 < (p0.length : Int))) then
      (getI p0 y4).bind fun x9 =>
      chk (decide ((y3.length + ([x9]).length) * 16 ≤ 140737488355328)) <|
      law10_TariffX_loop1 N p0 k2 n7 (y3 ++ ([x9])) (w64 (y4 + 1))
    else
      k2 (y3)
def law10_TariffX (N : Nat) (p0 : (List GBracket)) : Option (List GBracket) :=
  joinK (fun y1 =>
      some y1) fun k2 : (List GBracket) → Option (List GBracket) =>
  law10_TariffX_loop1 N p0 k2 N ([]) 0
set_option maxRecDepth 100000 in
set_option maxHeartbeats 4000000 in
theorem law10_TariffX_ok (N : Nat) (p0 : (List GBracket)) (r : (List GBracket)) (h : law10_TariffX N p0 = some r) : Spec Try.prog 56 [(.dat 2 (p0.map c_GBracket))] [] (.dat 2 (r.map c_GBracket)) [] := by
  refine spec_of_awp Try.func56 rfl 0 (nle rfl) (fun X φ0 w0 hφ0 => ?_)
  unfold law10_TariffX at h
  refine awp_reg [mc (.slice none 0 0)] ?_ ?_
  · exact ⟨astep_assign rfl, trivial⟩
  refine awp_reg [mc (.slice none 0 0)] ?_ ?_
  · exact ⟨astep_assign rfl, trivial⟩
  obtain ⟨k2, hk_k2, h⟩ := joinK_out h
  refine awp_join (τ := (List GBracket)) (fun t => k2 t = some r) (fun y1 => ⟨mk 26 [(3, (.acc 0 136 2 ((y1 : List GBracket).map c_GBracket)))], [.tok]⟩) (fun y1 h => ?_) ?_
  · subst hk_k2
    refine awp_reg [mv 3 (.acc 0 136 2 ((y1 : List GBracket).map c_GBracket)), mv 25 (.acc 0 136 2 ((y1 : List GBracket).map c_GBracket))] ?_ ?_
    · exact ⟨astep_move rfl, astep_assign rfl, trivial⟩
    refine awp_ret ?_
    obtain rfl := osi h
    exact ⟨⟨[(.dat 2 ((y1 : List GBracket).map c_GBracket))], ⟨resOK_less (v := (.acc 0 136 2 ((y1 : List GBracket).map c_GBracket))) (resOK_tmp (by kernel_rfl)) Less.acc, trivial⟩, rfl⟩, (nl_dat nl_GBracket _), Nat.le_refl _, fun n hn => absurd hn (Nat.not_lt_zero n)⟩
  · skip
    refine awp_reg [mc (.int .i64 0)] ?_ ?_
    · exact ⟨astep_assign rfl, trivial⟩
    refine awp_block ?_
    refine awp_mor (Mor.trans (mor_nil 0 136 2 3 (by kernel_rfl) (by kernel_rfl)) (mor_to (n := 26) (l' := [(0, (.dat 2 ((p0 : List GBracket).map c_GBracket))), (3, (.acc 0 136 2 ((([]) : List GBracket).map c_GBracket))), (4, I 0)]) (own' := [.tok]) [(0, (.dat 2 ((p0 : List GBracket).map c_GBracket))), (3, (.acc 0 136 2 (([] : List GBracket).map c_GBracket))), (4, I 0)] [0] [.tok] hφ0 (pc (.rn (.plain _ (nl_dat nl_GBracket _))) (pc (.rn (rnq_acc rfl (nl_rows nl_GBracket _))) (pc rwl pn))) (qc .tok qn))) ?_
    refine awp_ind (τ := (List GBracket) × Int) (fun n t => law10_TariffX_loop1 N p0 k2 n t.1 t.2 = some r) (fun ⟨y3, y4⟩ => ⟨mk 26 [(0, (.dat 2 ((p0 : List GBracket).map c_GBracket))), (3, (.acc 0 136 2 ((y3 : List GBracket).map c_GBracket))), (4, I y4)], [.tok]⟩) (fun t h => by rw [law10_TariffX_loop1] at h; cases h) (fun n7 ih t h => ?_) N ([], 0) h
    obtain ⟨y3, y4⟩ := t
    rw [law10_TariffX_loop1] at h
    skip
    refine awp_seq ?_
    refine awp_reg [mv 4 (I y4), mv 0 (.dat 2 ((p0 : List GBracket).map c_GBracket)), rp [(.tmp 6, (.dat 2 ((p0 : List GBracket).map c_GBracket)))] (I ((p0.length : Int))), rp [(.tmp 5, I y4), (.tmp 7, (I ((p0.length : Int))))] (B ((decide (y4 < (p0.length : Int)))))] ?_ ?_
    · exact ⟨astep_move rfl, astep_move rfl, astep_lenm (c := c_GBracket) (l := p0) (astep_len rfl Try.underlying114 rfl), astep_bin rfl rfl, trivial⟩
    rcases bft ((decide (y4 < (p0.length : Int)))) with hc8 | hc8
    · replace h := bif_t hc8 h
      refine awp_ift hc8 (by kernel_rfl) ?_
      refine awp_skip ?_
      refine thenA_n ?_
      refine awp_seq ?_
      refine awp_block ?_
      obtain ⟨x9, hg10, h⟩ := bind_out h
      obtain ⟨hi11, hj12⟩ := getI_some hg10
      obtain ⟨ha13, h⟩ := chk_out h
      refine awp_regd1 [mv 3 (.acc 0 136 2 ((y3 : List GBracket).map c_GBracket)), mv 0 (.dat 2 ((p0 : List GBracket).map c_GBracket)), mv 4 (I y4), rp [(.tmp 12, (.dat 2 ((p0 : List GBracket).map c_GBracket))), (.tmp 13, I y4)] (.dptr (c_GBracket (x9)) 0), mv 14 (.dptr (c_GBracket (x9)) 0), rp [(.tmp 15, (.dptr (c_GBracket (x9)) 0))] (I x9.Upto), mv 0 (.dat 2 ((p0 : List GBracket).map c_GBracket)), mv 4 (I y4), rp [(.tmp 17, (.dat 2 ((p0 : List GBracket).map c_GBracket))), (.tmp 18, I y4)] (.dptr (c_GBracket (x9)) 0), rp [(.tmp 19, (.dptr (c_GBracket (x9)) 0))] (.dptr (c_GBracket (x9)) 1), rp [(.tmp 20, (.dptr (c_GBracket (x9)) 1))] (I x9.Price), rp [(.tmp 16, I x9.Upto), (.tmp 21, I x9.Price)] (.agg [I x9.Upto, I x9.Price]), rp [(.tmp 22, (.agg [I x9.Upto, I x9.Price]))] (.dat 2 (([x9] : List GBracket).map c_GBracket)), ⟨[(.tmp 11, (.acc 0 136 2 ((y3 : List GBracket).map c_GBracket))), (.tmp 23, (.dat 2 (([x9] : List GBracket).map c_GBracket)))], [(0, .tok), (1, .unused)], (.acc 1 136 2 ((y3 ++ ([x9]) : List GBracket).map c_GBracket)), [(0, .dead), (1, .tok)], false⟩, mv 24 (.acc 1 136 2 ((y3 ++ ([x9]) : List GBracket).map c_GBracket))] ?_ ?_
      · exact ⟨astep_move rfl, astep_move rfl, astep_move rfl, astep_idxd rfl Try.underlying114 ti166 rfl rfl hi11 (map_get c_GBracket hj12) rfl, astep_faddrd rfl Try.underlying166 rfl rfl ti3 (by decide) rfl, astep_loadd rfl ti3 (by decide) (nle rfl) rfl, astep_move rfl, astep_move rfl, astep_idxd rfl Try.underlying114 ti166 rfl rfl hi11 (map_get c_GBracket hj12) rfl, astep_faddrd rfl Try.underlying166 rfl rfl ti3 (by decide) rfl, astep_loadd rfl ti3 (by decide) (nle rfl) rfl, astep_build (vs := [I x9.Upto, I x9.Price]) rfl ts136 tz136 rfl (by rfl) rfl, astep_bslice (vs := [(.agg [I x9.Upto, I x9.Price])]) rfl Try.underlying117 ti136 tz136 rfl (by decide) rfl (by decide) (by rfl) (by rfl) (by rfl) rfl, astep_app rfl Try.underlying117 te136 (Base.acc _ _) rfl rfl (by rfl) (app_le1 c_GBracket ha13) (app_le2 c_GBracket ha13 (by decide)) (app_map c_GBracket) rfl rfl, astep_assign rfl, trivial⟩
      refine blockA_n ?_
      refine thenA_n ?_
      refine awp_reg1 [mv 4 (I y4), rp [(.tmp 9, I y4), ci 1] (I (w64 (y4 + 1))), mv 10 (I (w64 (y4 + 1)))] ?_ ?_
      · exact ⟨astep_move rfl, astep_bin rfl rfl, astep_assign rfl, trivial⟩
      refine thenA_n ?_
      exact around_mor (mor_to (n := 26) [(0, (.dat 2 ((p0 : List GBracket).map c_GBracket))), (3, (.acc 1 136 2 ((y3 ++ ([x9]) : List GBracket).map c_GBracket))), (4, (I (w64 (y4 + 1))))] [1] [.tok] hφ0 (pc (.rn (.plain _ (nl_dat nl_GBracket _))) (pc (.rn (rnq_acc rfl (nl_rows nl_GBracket _))) (pc rwl pn))) (qc .tok qn)) (ih (y3 ++ ([x9]), w64 (y4 + 1)) h)
    · replace h := bif_f hc8 h
      refine awp_ifn hc8 (by kernel_rfl) ?_
      refine awp_exit ?_
      refine thenA_x ?_
      refine thenA_x ?_
      refine blockA_e rfl ?_
      refine thenA_n ?_
      exact ⟨(y3), h, (mor_to (n := 26) [(3, (.acc 0 136 2 ((y3 : List GBracket).map c_GBracket)))] [0] [.tok] hφ0 (pc (.rn (rnq_acc rfl (nl_rows nl_GBracket _))) pn) (qc .tok qn))⟩

def ref10_TariffX_loop1 (N : Nat) (p0 : (List GBracket)) (k1 : Unit → Option Bool) : Nat → Int → Option Bool
  | 0, _ => none
  | n5 + 1, y3 =>
    bif (decide (y3 < (p0.length : Int))) then
      (getI p0 y3).bind fun x7 =>
      (ref10_InX N x7.Upto 1 1000000000000).bind fun x12 =>
      bif (!x12) then
        some false
      else
        (ref10_InX N x7.Price 0 1000).bind fun x15 =>
        bif (!x15) then
          some false
        else
          bif (decide (y3 > 0)) then
            (getI p0 (w64 (y3 - 1))).bind fun x18 =>
            bif (decide (x7.Upto ≤ x18.Upto)) then
              some false
            else
              ref10_TariffX_loop1 N p0 k1 n5 (w64 (y3 + 1))
          else
            ref10_TariffX_loop1 N p0 k1 n5 (w64 (y3 + 1))
    else
      k1 ()
def ref10_TariffX (N : Nat) (p0 : (List GBracket)) : Option Bool :=
  joinK (fun _ =>
      bif (decide ((p0.length : Int) ≥ 1)) then
        some (decide ((p0.length : Int) ≤ 6))
      else
        some false) fun k1 : Unit → Option Bool =>
  ref10_TariffX_loop1 N p0 k1 N 0
set_option maxRecDepth 100000 in
set_option maxHeartbeats 4000000 in
theorem ref10_TariffX_ok (N : Nat) (p0 : (List GBracket)) (r : Bool) (h : ref10_TariffX N p0 = some r) : Spec Try.prog 58 [(.dat 2 (p0.map c_GBracket))] [] (B r) [] := by
  refine spec_of_awp Try.func58 rfl 0 (nle rfl) (fun X φ0 w0 hφ0 => ?_)
  unfold ref10_TariffX at h
  refine awp_reg [mc (.bool false)] ?_ ?_
  · exact ⟨astep_assign rfl, trivial⟩
  obtain ⟨k1, hk_k1, h⟩ := joinK_out h
  refine awp_join (τ := Unit) (fun t => k1 t = some r) (fun _ => ⟨mk 52 [(0, (.dat 2 ((p0 : List GBracket).map c_GBracket)))], []⟩) (fun t h => ?_) ?_
  · subst hk_k1
    rcases bft ((decide ((p0.length : Int) ≥ 1))) with hb2 | hb2
    · replace h := bif_t hb2 h
      refine awp_reg [mv 0 (.dat 2 ((p0 : List GBracket).map c_GBracket)), rp [(.tmp 44, (.dat 2 ((p0 : List GBracket).map c_GBracket)))] (I ((p0.length : Int))), rp [(.tmp 45, (I ((p0.length : Int)))), ci 1] (B ((decide ((p0.length : Int) ≥ 1)))), rp [(.tmp 46, (B ((decide ((p0.length : Int) ≥ 1)))))] (B true), rp [(.tmp 47, B true), (.tmp 0, (.dat 2 ((p0 : List GBracket).map c_GBracket)))] (.dat 2 ((p0 : List GBracket).map c_GBracket)), rp [(.tmp 47, B true), (.tmp 48, (.dat 2 ((p0 : List GBracket).map c_GBracket)))] (I ((p0.length : Int))), rp [(.tmp 47, B true), (.tmp 49, (I ((p0.length : Int)))), ci 6] (B ((decide ((p0.length : Int) ≤ 6)))), rp [(.tmp 47, B true), (.tmp 50, (B ((decide ((p0.length : Int) ≤ 6))))), cb false] (B ((decide ((p0.length : Int) ≤ 6)))), mv 51 (B ((decide ((p0.length : Int) ≤ 6))))] ?_ ?_
      · exact ⟨astep_move rfl, astep_lenm (c := c_GBracket) (l := p0) (astep_len rfl Try.underlying114 rfl), astep_bin rfl rfl, astep_b hb2 (astep_move rfl), astep_guard (astep_move rfl), astep_guard (astep_lenm (c := c_GBracket) (l := p0) (astep_len rfl Try.underlying114 rfl)), astep_guard (astep_bin rfl rfl), astep_pick rfl rfl, astep_assign rfl, trivial⟩
      refine awp_ret ?_
      obtain rfl := osi h
      exact ⟨⟨[(B ((decide ((p0.length : Int) ≤ 6))))], ⟨resOK_tmp (by kernel_rfl), trivial⟩, rfl⟩, nll, Nat.le_refl _, fun n hn => absurd hn (Nat.not_lt_zero n)⟩
    · replace h := bif_f hb2 h
      refine awp_reg [mv 0 (.dat 2 ((p0 : List GBracket).map c_GBracket)), rp [(.tmp 44, (.dat 2 ((p0 : List GBracket).map c_GBracket)))] (I ((p0.length : Int))), rp [(.tmp 45, (I ((p0.length : Int)))), ci 1] (B ((decide ((p0.length : Int) ≥ 1)))), rp [(.tmp 46, (B ((decide ((p0.length : Int) ≥ 1)))))] (B false), sk 47 (B false), sk 47 (B false), sk 47 (B false), rp [(.tmp 47, B false), (.tmp 50, (.lit undef)), cb false] (B false), mv 51 (B false)] ?_ ?_
      · exact ⟨astep_move rfl, astep_lenm (c := c_GBracket) (l := p0) (astep_len rfl Try.underlying114 rfl), astep_bin rfl rfl, astep_b hb2 (astep_move rfl), trivial, trivial, trivial, astep_pick rfl rfl, astep_assign rfl, trivial⟩
      refine awp_ret ?_
      obtain rfl := osi h
      exact ⟨⟨[B false], ⟨resOK_tmp (by kernel_rfl), trivial⟩, rfl⟩, nll, Nat.le_refl _, fun n hn => absurd hn (Nat.not_lt_zero n)⟩
  · skip
    refine awp_reg [mc (.int .i64 0)] ?_ ?_
    · exact ⟨astep_assign rfl, trivial⟩
    refine awp_block ?_
    refine awp_mor (mor_to (n := 52) (l' := [(0, (.dat 2 ((p0 : List GBracket).map c_GBracket))), (3, I 0)]) (own' := []) [(0, (.dat 2 ((p0 : List GBracket).map c_GBracket))), (3, I 0)] [] [] hφ0 (pc (.rn (.plain _ (nl_dat nl_GBracket _))) (pc rwl pn)) qn) ?_
    refine awp_ind (τ := Int) (fun n t => ref10_TariffX_loop1 N p0 k1 n t = some r) (fun y3 => ⟨mk 52 [(0, (.dat 2 ((p0 : List GBracket).map c_GBracket))), (3, I y3)], []⟩) (fun t h => by rw [ref10_TariffX_loop1] at h; cases h) (fun n5 ih y3 h => ?_) N (0) h
    rw [ref10_TariffX_loop1] at h
    skip
    refine awp_seq ?_
    refine awp_reg [mv 3 (I y3), mv 0 (.dat 2 ((p0 : List GBracket).map c_GBracket)), rp [(.tmp 5, (.dat 2 ((p0 : List GBracket).map c_GBracket)))] (I ((p0.length : Int))), rp [(.tmp 4, I y3), (.tmp 6, (I ((p0.length : Int))))] (B ((decide (y3 < (p0.length : Int)))))] ?_ ?_
    · exact ⟨astep_move rfl, astep_move rfl, astep_lenm (c := c_GBracket) (l := p0) (astep_len rfl Try.underlying114 rfl), astep_bin rfl rfl, trivial⟩
    rcases bft ((decide (y3 < (p0.length : Int)))) with hc6 | hc6
    · replace h := bif_t hc6 h
      refine awp_ift hc6 (by kernel_rfl) ?_
      refine awp_skip ?_
      refine thenA_n ?_
      refine awp_seq ?_
      refine awp_block ?_
      obtain ⟨x7, hg8, h⟩ := bind_out h
      obtain ⟨hi9, hj10⟩ := getI_some hg8
      obtain ⟨x12, hf11, h⟩ := bind_out h
      rcases bft ((!x12)) with hb13 | hb13
      · replace h := bif_t hb13 h
        refine awp_regd [mv 0 (.dat 2 ((p0 : List GBracket).map c_GBracket)), mv 3 (I y3), rp [(.tmp 10, (.dat 2 ((p0 : List GBracket).map c_GBracket))), (.tmp 11, I y3)] (.dptr (c_GBracket (x7)) 0), mv 12 (.dptr (c_GBracket (x7)) 0), rp [(.tmp 13, (.dptr (c_GBracket (x7)) 0))] (I x7.Upto), rp [fu 27, (.tmp 14, I x7.Upto), ci 1, ci 1000000000000] (B x12), rp [(.tmp 15, B x12)] (B ((!x12))), rp [(.tmp 16, (B ((!x12))))] (B true), sk 17 (B true), sk 17 (B true), sk 17 (B true), sk 17 (B true), sk 17 (B true), sk 17 (B true), sk 17 (B true), rp [(.tmp 17, B true), cb true, (.tmp 24, (.lit undef))] (B true), mv 25 (B true), sk 26 (B true), sk 26 (B true), sk 26 (B true), sk 29 (.lit undef), sk 29 (.lit undef), sk 29 (.lit undef), sk 29 (.lit undef), sk 29 (.lit undef), sk 29 (.lit undef), sk 29 (.lit undef), sk 29 (.lit undef), sk 29 (.lit undef), sk 29 (.lit undef), sk 29 (.lit undef), sk 29 (.lit undef), sk 26 (B true), rp [(.tmp 26, B true), cb true, (.tmp 42, (.lit undef))] (B true)] ?_ ?_
        · exact ⟨astep_move rfl, astep_move rfl, astep_idxd rfl Try.underlying114 ti166 rfl rfl hi9 (map_get c_GBracket hj10) rfl, astep_faddrd rfl Try.underlying166 rfl rfl ti3 (by decide) rfl, astep_loadd rfl ti3 (by decide) (nle rfl) rfl, astep_pcall (first := []) (cap := []) (vs := [I x7.Upto, I 1, I 1000000000000]) rfl enter27 (ref10_InX_ok N x7.Upto 1 1000000000000 _ hf11) rfl rfl (nl_cons nll (nl_cons nll (nl_cons nll nl_nil))) nll rfl, astep_not rfl, astep_b hb13 (astep_move rfl), trivial, trivial, trivial, trivial, trivial, trivial, trivial, astep_pick rfl rfl, astep_move rfl, trivial, trivial, trivial, trivial, trivial, trivial, trivial, trivial, trivial, trivial, trivial, trivial, trivial, trivial, trivial, trivial, astep_pick rfl rfl, trivial⟩
        refine awp_true (by kernel_rfl) ?_
        refine awp_reg [mc (.bool false)] ?_ ?_
        · exact ⟨astep_assign rfl, trivial⟩
        refine awp_ret ?_
        refine blockA_r ?_
        refine thenA_r ?_
        refine thenA_r ?_
        refine blockA_r ?_
        refine thenA_r ?_
        obtain rfl := osi h
        exact ⟨⟨[B false], ⟨resOK_tmp (by kernel_rfl), trivial⟩, rfl⟩, nll, Nat.le_refl _, fun n hn => absurd hn (Nat.not_lt_zero n)⟩
      · replace h := bif_f hb13 h
        obtain ⟨x15, hf14, h⟩ := bind_out h
        rcases bft ((!x15)) with hb16 | hb16
        · replace h := bif_t hb16 h
          refine awp_regd [mv 0 (.dat 2 ((p0 : List GBracket).map c_GBracket)), mv 3 (I y3), rp [(.tmp 10, (.dat 2 ((p0 : List GBracket).map c_GBracket))), (.tmp 11, I y3)] (.dptr (c_GBracket (x7)) 0), mv 12 (.dptr (c_GBracket (x7)) 0), rp [(.tmp 13, (.dptr (c_GBracket (x7)) 0))] (I x7.Upto), rp [fu 27, (.tmp 14, I x7.Upto), ci 1, ci 1000000000000] (B x12), rp [(.tmp 15, B x12)] (B ((!x12))), rp [(.tmp 16, (B ((!x12))))] (B false), rp [(.tmp 17, B false), (.tmp 0, (.dat 2 ((p0 : List GBracket).map c_GBracket)))] (.dat 2 ((p0 : List GBracket).map c_GBracket)), rp [(.tmp 17, B false), (.tmp 3, I y3)] (I y3), rp [(.tmp 17, B false), (.tmp 18, (.dat 2 ((p0 : List GBracket).map c_GBracket))), (.tmp 19, I y3)] (.dptr (c_GBracket (x7)) 0), rp [(.tmp 17, B false), (.tmp 20, (.dptr (c_GBracket (x7)) 0))] (.dptr (c_GBracket (x7)) 1), rp [(.tmp 17, B false), (.tmp 21, (.dptr (c_GBracket (x7)) 1))] (I x7.Price), rp [(.tmp 17, B false), fu 27, (.tmp 22, I x7.Price), ci 0, ci 1000] (B x15), rp [(.tmp 17, B false), (.tmp 23, B x15)] (B ((!x15))), rp [(.tmp 17, B false), cb true, (.tmp 24, (B ((!x15))))] (B ((!x15))), rp [(.tmp 25, (B ((!x15))))] (B true), sk 26 (B true), sk 26 (B true), sk 26 (B true), sk 29 (.lit undef), sk 29 (.lit undef), sk 29 (.lit undef), sk 29 (.lit undef), sk 29 (.lit undef), sk 29 (.lit undef), sk 29 (.lit undef), sk 29 (.lit undef), sk 29 (.lit undef), sk 29 (.lit undef), sk 29 (.lit undef), sk 29 (.lit undef), sk 26 (B true), rp [(.tmp 26, B true), cb true, (.tmp 42, (.lit undef))] (B true)] ?_ ?_
          · exact ⟨astep_move rfl, astep_move rfl, astep_idxd rfl Try.underlying114 ti166 rfl rfl hi9 (map_get c_GBracket hj10) rfl, astep_faddrd rfl Try.underlying166 rfl rfl ti3 (by decide) rfl, astep_loadd rfl ti3 (by decide) (nle rfl) rfl, astep_pcall (first := []) (cap := []) (vs := [I x7.Upto, I 1, I 1000000000000]) rfl enter27 (ref10_InX_ok N x7.Upto 1 1000000000000 _ hf11) rfl rfl (nl_cons nll (nl_cons nll (nl_cons nll nl_nil))) nll rfl, astep_not rfl, astep_b hb13 (astep_move rfl), astep_guard (astep_move rfl), astep_guard (astep_move rfl), astep_guard (astep_idxd rfl Try.underlying114 ti166 rfl rfl hi9 (map_get c_GBracket hj10) rfl), astep_guard (astep_faddrd rfl Try.underlying166 rfl rfl ti3 (by decide) rfl), astep_guard (astep_loadd rfl ti3 (by decide) (nle rfl) rfl), astep_guard (astep_pcall (first := []) (cap := []) (vs := [I x7.Price, I 0, I 1000]) rfl enter27 (ref10_InX_ok N x7.Price 0 1000 _ hf14) rfl rfl (nl_cons nll (nl_cons nll (nl_cons nll nl_nil))) nll rfl), astep_guard (astep_not rfl), astep_pick rfl rfl, astep_b hb16 (astep_move rfl), trivial, trivial, trivial, trivial, trivial, trivial, trivial, trivial, trivial, trivial, trivial, trivial, trivial, trivial, trivial, trivial, astep_pick rfl rfl, trivial⟩
          refine awp_true (by kernel_rfl) ?_
          refine awp_reg [mc (.bool false)] ?_ ?_
          · exact ⟨astep_assign rfl, trivial⟩
          refine awp_ret ?_
          refine blockA_r ?_
          refine thenA_r ?_
          refine thenA_r ?_
          refine blockA_r ?_
          refine thenA_r ?_
          obtain rfl := osi h
          exact ⟨⟨[B false], ⟨resOK_tmp (by kernel_rfl), trivial⟩, rfl⟩, nll, Nat.le_refl _, fun n hn => absurd hn (Nat.not_lt_zero n)⟩
        · replace h := bif_f hb16 h
          rcases bft ((decide (y3 > 0))) with hb17 | hb17
          · replace h := bif_t hb17 h
            obtain ⟨x18, hg19, h⟩ := bind_out h
            obtain ⟨hi20, hj21⟩ := getI_some hg19
            refine awp_regd [mv 0 (.dat 2 ((p0 : List GBracket).map c_GBracket)), mv 3 (I y3), rp [(.tmp 10, (.dat 2 ((p0 : List GBracket).map c_GBracket))), (.tmp 11, I y3)] (.dptr (c_GBracket (x7)) 0), mv 12 (.dptr (c_GBracket (x7)) 0), rp [(.tmp 13, (.dptr (c_GBracket (x7)) 0))] (I x7.Upto), rp [fu 27, (.tmp 14, I x7.Upto), ci 1, ci 1000000000000] (B x12), rp [(.tmp 15, B x12)] (B ((!x12))), rp [(.tmp 16, (B ((!x12))))] (B false), rp [(.tmp 17, B false), (.tmp 0, (.dat 2 ((p0 : List GBracket).map c_GBracket)))] (.dat 2 ((p0 : List GBracket).map c_GBracket)), rp [(.tmp 17, B false), (.tmp 3, I y3)] (I y3), rp [(.tmp 17, B false), (.tmp 18, (.dat 2 ((p0 : List GBracket).map c_GBracket))), (.tmp 19, I y3)] (.dptr (c_GBracket (x7)) 0), rp [(.tmp 17, B false), (.tmp 20, (.dptr (c_GBracket (x7)) 0))] (.dptr (c_GBracket (x7)) 1), rp [(.tmp 17, B false), (.tmp 21, (.dptr (c_GBracket (x7)) 1))] (I x7.Price), rp [(.tmp 17, B false), fu 27, (.tmp 22, I x7.Price), ci 0, ci 1000] (B x15), rp [(.tmp 17, B false), (.tmp 23, B x15)] (B ((!x15))), rp [(.tmp 17, B false), cb true, (.tmp 24, (B ((!x15))))] (B ((!x15))), rp [(.tmp 25, (B ((!x15))))] (B false), rp [(.tmp 26, B false), (.tmp 3, I y3)] (I y3), rp [(.tmp 26, B false), (.tmp 27, I y3), ci 0] (B ((decide (y3 > 0)))), rp [(.tmp 26, B false), (.tmp 28, (B ((decide (y3 > 0)))))] (B true), rp [(.tmp 29, B true), (.tmp 0, (.dat 2 ((p0 : List GBracket).map c_GBracket)))] (.dat 2 ((p0 : List GBracket).map c_GBracket)), rp [(.tmp 29, B true), (.tmp 3, I y3)] (I y3), rp [(.tmp 29, B true), (.tmp 30, (.dat 2 ((p0 : List GBracket).map c_GBracket))), (.tmp 31, I y3)] (.dptr (c_GBracket (x7)) 0), rp [(.tmp 29, B true), (.tmp 32, (.dptr (c_GBracket (x7)) 0))] (.dptr (c_GBracket (x7)) 0), rp [(.tmp 29, B true), (.tmp 33, (.dptr (c_GBracket (x7)) 0))] (I x7.Upto), rp [(.tmp 29, B true), (.tmp 0, (.dat 2 ((p0 : List GBracket).map c_GBracket)))] (.dat 2 ((p0 : List GBracket).map c_GBracket)), rp [(.tmp 29, B true), (.tmp 3, I y3)] (I y3), rp [(.tmp 29, B true), (.tmp 36, I y3), ci 1] (I (w64 (y3 - 1))), rp [(.tmp 29, B true), (.tmp 35, (.dat 2 ((p0 : List GBracket).map c_GBracket))), (.tmp 37, (I (w64 (y3 - 1))))] (.dptr (c_GBracket (x18)) 0), rp [(.tmp 29, B true), (.tmp 38, (.dptr (c_GBracket (x18)) 0))] (.dptr (c_GBracket (x18)) 0), rp [(.tmp 29, B true), (.tmp 39, (.dptr (c_GBracket (x18)) 0))] (I x18.Upto), rp [(.tmp 29, B true), (.tmp 34, I x7.Upto), (.tmp 40, I x18.Upto)] (B ((decide (x7.Upto ≤ x18.Upto)))), rp [(.tmp 26, B false), (.tmp 29, B true), (.tmp 41, (B ((decide (x7.Upto ≤ x18.Upto))))), cb false] (B ((decide (x7.Upto ≤ x18.Upto)))), rp [(.tmp 26, B false), cb true, (.tmp 42, (B ((decide (x7.Upto ≤ x18.Upto)))))] (B ((decide (x7.Upto ≤ x18.Upto))))] ?_ ?_
            · exact ⟨astep_move rfl, astep_move rfl, astep_idxd rfl Try.underlying114 ti166 rfl rfl hi9 (map_get c_GBracket hj10) rfl, astep_faddrd rfl Try.underlying166 rfl rfl ti3 (by decide) rfl, astep_loadd rfl ti3 (by decide) (nle rfl) rfl, astep_pcall (first := []) (cap := []) (vs := [I x7.Upto, I 1, I 1000000000000]) rfl enter27 (ref10_InX_ok N x7.Upto 1 1000000000000 _ hf11) rfl rfl (nl_cons nll (nl_cons nll (nl_cons nll nl_nil))) nll rfl, astep_not rfl, astep_b hb13 (astep_move rfl), astep_guard (astep_move rfl), astep_guard (astep_move rfl), astep_guard (astep_idxd rfl Try.underlying114 ti166 rfl rfl hi9 (map_get c_GBracket hj10) rfl), astep_guard (astep_faddrd rfl Try.underlying166 rfl rfl ti3 (by decide) rfl), astep_guard (astep_loadd rfl ti3 (by decide) (nle rfl) rfl), astep_guard (astep_pcall (first := []) (cap := []) (vs := [I x7.Price, I 0, I 1000]) rfl enter27 (ref10_InX_ok N x7.Price 0 1000 _ hf14) rfl rfl (nl_cons nll (nl_cons nll (nl_cons nll nl_nil))) nll rfl), astep_guard (astep_not rfl), astep_pick rfl rfl, astep_b hb16 (astep_move rfl), astep_guard (astep_move rfl), astep_guard (astep_bin rfl rfl), astep_b hb17 (astep_guard (astep_move rfl)), astep_guard (astep_move rfl), astep_guard (astep_move rfl), astep_guard (astep_idxd rfl Try.underlying114 ti166 rfl rfl hi9 (map_get c_GBracket hj10) rfl), astep_guard (astep_faddrd rfl Try.underlying166 rfl rfl ti3 (by decide) rfl), astep_guard (astep_loadd rfl ti3 (by decide) (nle rfl) rfl), astep_guard (astep_move rfl), astep_guard (astep_move rfl), astep_guard (astep_bin rfl rfl), astep_guard (astep_idxd rfl Try.underlying114 ti166 rfl rfl hi20 (map_get c_GBracket hj21) rfl), astep_guard (astep_faddrd rfl Try.underlying166 rfl rfl ti3 (by decide) rfl), astep_guard (astep_loadd rfl ti3 (by decide) (nle rfl) rfl), astep_guard (astep_bin rfl rfl), astep_guard (astep_pick rfl rfl), astep_pick rfl rfl, trivial⟩
            rcases bft ((decide (x7.Upto ≤ x18.Upto))) with hc22 | hc22
            · replace h := bif_t hc22 h
              refine awp_ift hc22 (by kernel_rfl) ?_
              refine awp_reg [mc (.bool false)] ?_ ?_
              · exact ⟨astep_assign rfl, trivial⟩
              refine awp_ret ?_
              refine blockA_r ?_
              refine thenA_r ?_
              refine thenA_r ?_
              refine blockA_r ?_
              refine thenA_r ?_
              obtain rfl := osi h
              exact ⟨⟨[B false], ⟨resOK_tmp (by kernel_rfl), trivial⟩, rfl⟩, nll, Nat.le_refl _, fun n hn => absurd hn (Nat.not_lt_zero n)⟩
            · replace h := bif_f hc22 h
              refine awp_ifn hc22 (by kernel_rfl) ?_
              refine awp_skip ?_
              refine blockA_n ?_
              refine thenA_n ?_
              refine awp_reg1 [mv 3 (I y3), rp [(.tmp 8, I y3), ci 1] (I (w64 (y3 + 1))), mv 9 (I (w64 (y3 + 1)))] ?_ ?_
              · exact ⟨astep_move rfl, astep_bin rfl rfl, astep_assign rfl, trivial⟩
              refine thenA_n ?_
              exact around_mor (mor_to (n := 52) [(0, (.dat 2 ((p0 : List GBracket).map c_GBracket))), (3, (I (w64 (y3 + 1))))] [] [] hφ0 (pc (.rn (.plain _ (nl_dat nl_GBracket _))) (pc rwl pn)) qn) (ih (w64 (y3 + 1)) h)
          · replace h := bif_f hb17 h
            refine awp_regd [mv 0 (.dat 2 ((p0 : List GBracket).map c_GBracket)), mv 3 (I y3), rp [(.tmp 10, (.dat 2 ((p0 : List GBracket).map c_GBracket))), (.tmp 11, I y3)] (.dptr (c_GBracket (x7)) 0), mv 12 (.dptr (c_GBracket (x7)) 0), rp [(.tmp 13, (.dptr (c_GBracket (x7)) 0))] (I x7.Upto), rp [fu 27, (.tmp 14, I x7.Upto), ci 1, ci 1000000000000] (B x12), rp [(.tmp 15, B x12)] (B ((!x12))), rp [(.tmp 16, (B ((!x12))))] (B false), rp [(.tmp 17, B false), (.tmp 0, (.dat 2 ((p0 : List GBracket).map c_GBracket)))] (.dat 2 ((p0 : List GBracket).map c_GBracket)), rp [(.tmp 17, B false), (.tmp 3, I y3)] (I y3), rp [(.tmp 17, B false), (.tmp 18, (.dat 2 ((p0 : List GBracket).map c_GBracket))), (.tmp 19, I y3)] (.dptr (c_GBracket (x7)) 0), rp [(.tmp 17, B false), (.tmp 20, (.dptr (c_GBracket (x7)) 0))] (.dptr (c_GBracket (x7)) 1), rp [(.tmp 17, B false), (.tmp 21, (.dptr (c_GBracket (x7)) 1))] (I x7.Price), rp [(.tmp 17, B false), fu 27, (.tmp 22, I x7.Price), ci 0, ci 1000] (B x15), rp [(.tmp 17, B false), (.tmp 23, B x15)] (B ((!x15))), rp [(.tmp 17, B false), cb true, (.tmp 24, (B ((!x15))))] (B ((!x15))), rp [(.tmp 25, (B ((!x15))))] (B false), rp [(.tmp 26, B false), (.tmp 3, I y3)] (I y3), rp [(.tmp 26, B false), (.tmp 27, I y3), ci 0] (B ((decide (y3 > 0)))), rp [(.tmp 26, B false), (.tmp 28, (B ((decide (y3 > 0)))))] (B false), sk 29 (B false), sk 29 (B false), sk 29 (B false), sk 29 (B false), sk 29 (B false), sk 29 (B false), sk 29 (B false), sk 29 (B false), sk 29 (B false), sk 29 (B false), sk 29 (B false), sk 29 (B false), rp [(.tmp 26, B false), (.tmp 29, B false), (.tmp 41, (.lit undef)), cb false] (B false), rp [(.tmp 26, B false), cb true, (.tmp 42, B false)] (B false)] ?_ ?_
            · exact ⟨astep_move rfl, astep_move rfl, astep_idxd rfl Try.underlying114 ti166 rfl rfl hi9 (map_get c_GBracket hj10) rfl, astep_faddrd rfl Try.underlying166 rfl rfl ti3 (by decide) rfl, astep_loadd rfl ti3 (by decide) (nle rfl) rfl, astep_pcall (first := []) (cap := []) (vs := [I x7.Upto, I 1, I 1000000000000]) rfl enter27 (ref10_InX_ok N x7.Upto 1 1000000000000 _ hf11) rfl rfl (nl_cons nll (nl_cons nll (nl_cons nll nl_nil))) nll rfl, astep_not rfl, astep_b hb13 (astep_move rfl), astep_guard (astep_move rfl), astep_guard (astep_move rfl), astep_guard (astep_idxd rfl Try.underlying114 ti166 rfl rfl hi9 (map_get c_GBracket hj10) rfl), astep_guard (astep_faddrd rfl Try.underlying166 rfl rfl ti3 (by decide) rfl), astep_guard (astep_loadd rfl ti3 (by decide) (nle rfl) rfl), astep_guard (astep_pcall (first := []) (cap := []) (vs := [I x7.Price, I 0, I 1000]) rfl enter27 (ref10_InX_ok N x7.Price 0 1000 _ hf14) rfl rfl (nl_cons nll (nl_cons nll (nl_cons nll nl_nil))) nll rfl), astep_guard (astep_not rfl), astep_pick rfl rfl, astep_b hb16 (astep_move rfl), astep_guard (astep_move rfl), astep_guard (astep_bin rfl rfl), astep_b hb17 (astep_guard (astep_move rfl)), trivial, trivial, trivial, trivial, trivial, trivial, trivial, trivial, trivial, trivial, trivial, trivial, astep_guard (astep_pick rfl rfl), astep_pick rfl rfl, trivial⟩
            refine awp_false (by kernel_rfl) ?_
            refine awp_skip ?_
            refine blockA_n ?_
            refine thenA_n ?_
            refine awp_reg1 [mv 3 (I y3), rp [(.tmp 8, I y3), ci 1] (I (w64 (y3 + 1))), mv 9 (I (w64 (y3 + 1)))] ?_ ?_
            · exact ⟨astep_move rfl, astep_bin rfl rfl, astep_assign rfl, trivial⟩
            refine thenA_n ?_
            exact around_mor (mor_to (n := 52) [(0, (.dat 2 ((p0 : List GBracket).map c_GBracket))), (3, (I (w64 (y3 + 1))))] [] [] hφ0 (pc (.rn (.plain _ (nl_dat nl_GBracket _))) (pc rwl pn)) qn) (ih (w64 (y3 + 1)) h)
    · replace h := bif_f hc6 h
      refine awp_ifn hc6 (by kernel_rfl) ?_
      refine awp_exit ?_
      refine thenA_x ?_
      refine thenA_x ?_
      refine blockA_e rfl ?_
      refine thenA_n ?_
      exact ⟨(), h, (mor_to (n := 52) [(0, (.dat 2 ((p0 : List GBracket).map c_GBracket)))] [] [] hφ0 (pc (.rn (.plain _ (nl_dat nl_GBracket _))) pn) qn)⟩

def town_tariffX_loop1 (N : Nat) (p0 : (List GBracket)) (k1 : Unit → Option Bool) : Nat → Int → Option Bool
  | 0, _ => none
  | n6 + 1, y4 =>
    bif (decide (y4 < (p0.length : Int))) then
      (getI p0 y4).bind fun x8 =>
      (town_withinX N x8.Upto 1 1000000000000).bind fun x13 =>
      bif (!x13) then
        some false
      else
        (town_withinX N x8.Price 0 1000).bind fun x16 =>
        bif (!x16) then
          some false
        else
          bif (decide (y4 > 0)) then
            (getI p0 (w64 (y4 - 1))).bind fun x19 =>
            bif (decide (x8.Upto ≤ x19.Upto)) then
              some false
            else
              town_tariffX_loop1 N p0 k1 n6 (w64 (y4 + 1))
          else
            town_tariffX_loop1 N p0 k1 n6 (w64 (y4 + 1))
    else
      k1 ()
def town_tariffX (N : Nat) (p0 : (List GBracket)) : Option Bool :=
  joinK (fun _ =>
      (town_withinX N (p0.length : Int) 1 6).bind fun x3 =>
      some x3) fun k1 : Unit → Option Bool =>
  town_tariffX_loop1 N p0 k1 N 0
set_option maxRecDepth 100000 in
set_option maxHeartbeats 4000000 in
theorem town_tariffX_ok (N : Nat) (p0 : (List GBracket)) (r : Bool) (h : town_tariffX N p0 = some r) : Spec Try.prog 88 [(.dat 2 (p0.map c_GBracket))] [] (B r) [] := by
  refine spec_of_awp Try.func88 rfl 0 (nle rfl) (fun X φ0 w0 hφ0 => ?_)
  unfold town_tariffX at h
  refine awp_reg [mc (.bool false)] ?_ ?_
  · exact ⟨astep_assign rfl, trivial⟩
  obtain ⟨k1, hk_k1, h⟩ := joinK_out h
  refine awp_join (τ := Unit) (fun t => k1 t = some r) (fun _ => ⟨mk 41 [(0, (.dat 2 ((p0 : List GBracket).map c_GBracket)))], []⟩) (fun t h => ?_) ?_
  · subst hk_k1
    obtain ⟨x3, hf2, h⟩ := bind_out h
    refine awp_reg [mv 0 (.dat 2 ((p0 : List GBracket).map c_GBracket)), rp [(.tmp 38, (.dat 2 ((p0 : List GBracket).map c_GBracket)))] (I ((p0.length : Int))), rp [fu 68, (.tmp 39, (I ((p0.length : Int)))), ci 1, ci 6] (B x3), mv 40 (B x3)] ?_ ?_
    · exact ⟨astep_move rfl, astep_lenm (c := c_GBracket) (l := p0) (astep_len rfl Try.underlying117 rfl), astep_pcall (first := []) (cap := []) (vs := [(I ((p0.length : Int))), I 1, I 6]) rfl enter68 (town_withinX_ok N (p0.length : Int) 1 6 _ hf2) rfl rfl (nl_cons nll (nl_cons nll (nl_cons nll nl_nil))) nll rfl, astep_assign rfl, trivial⟩
    refine awp_ret ?_
    obtain rfl := osi h
    exact ⟨⟨[B x3], ⟨resOK_tmp (by kernel_rfl), trivial⟩, rfl⟩, nll, Nat.le_refl _, fun n hn => absurd hn (Nat.not_lt_zero n)⟩
  · skip
    refine awp_reg [mv 0 (.dat 2 ((p0 : List GBracket).map c_GBracket)), rp [(.tmp 5, (.dat 2 ((p0 : List GBracket).map c_GBracket)))] (I ((p0.length : Int))), mc (.int .i64 0)] ?_ ?_
    · exact ⟨astep_move rfl, astep_lenm (c := c_GBracket) (l := p0) (astep_len rfl Try.underlying117 rfl), astep_move rfl, trivial⟩
    refine awp_block ?_
    refine awp_mor (mor_to (n := 41) (l' := [(0, (.dat 2 ((p0 : List GBracket).map c_GBracket))), (5, (.dat 2 ((p0 : List GBracket).map c_GBracket))), (6, (I ((p0.length : Int)))), (7, I 0)]) (own' := []) [(0, (.dat 2 ((p0 : List GBracket).map c_GBracket))), (5, (.dat 2 ((p0 : List GBracket).map c_GBracket))), (6, (I ((p0.length : Int)))), (7, I 0)] [] [] hφ0 (pc (.rn (.plain _ (nl_dat nl_GBracket _))) (pc (.rn (.plain _ (nl_dat nl_GBracket _))) (pc rwl (pc rwl pn)))) qn) ?_
    refine awp_ind (τ := Int) (fun n t => town_tariffX_loop1 N p0 k1 n t = some r) (fun y4 => ⟨mk 41 [(0, (.dat 2 ((p0 : List GBracket).map c_GBracket))), (5, (.dat 2 ((p0 : List GBracket).map c_GBracket))), (6, (I ((p0.length : Int)))), (7, I y4)], []⟩) (fun t h => by rw [town_tariffX_loop1] at h; cases h) (fun n6 ih y4 h => ?_) N (0) h
    rw [town_tariffX_loop1] at h
    skip
    refine awp_reg [rp [(.tmp 7, I y4), (.tmp 6, (I ((p0.length : Int))))] (B ((decide (y4 < (p0.length : Int)))))] ?_ ?_
    · exact ⟨astep_bin rfl rfl, trivial⟩
    refine awp_seq ?_
    rcases bft ((decide (y4 < (p0.length : Int)))) with hc7 | hc7
    · replace h := bif_t hc7 h
      refine awp_ift hc7 (by kernel_rfl) ?_
      refine awp_skip ?_
      refine thenA_n ?_
      refine awp_seq ?_
      refine awp_block ?_
      obtain ⟨x8, hg9, h⟩ := bind_out h
      obtain ⟨hi10, hj11⟩ := getI_some hg9
      refine awp_reg [mv 7 (I y4), rp [(.tmp 5, (.dat 2 ((p0 : List GBracket).map c_GBracket))), (.tmp 7, I y4)] (.dptr (c_GBracket (x8)) 0), rp [(.tmp 10, (.dptr (c_GBracket (x8)) 0))] (.agg [I x8.Upto, I x8.Price]), ⟨[], [(0, .unused)], .ref 0 2 0 0, [(0, .own 2 [[I 0, I 0]])], false⟩, mv 9 (I y4), ⟨[(.tmp 4, .ref 0 2 0 0), (.tmp 11, (.agg [I x8.Upto, I x8.Price]))], [(0, .own 2 [[I 0, I 0]])], .any, [(0, .own 2 [[I x8.Upto, I x8.Price]])], false⟩] ?_ ?_
      · exact ⟨astep_move rfl, astep_idxd rfl Try.underlying117 ti136 rfl rfl hi10 (map_get c_GBracket hj11) rfl, astep_loadd rfl ti136 (by decide) (nle rfl) rfl, astep_alloc rfl tz136 rfl, astep_assign rfl, astep_store rfl ti136 (by rfl) rfl (nle rfl) rfl, trivial⟩
      obtain ⟨x13, hf12, h⟩ := bind_out h
      rcases bft ((!x13)) with hb14 | hb14
      · replace h := bif_t hb14 h
        refine awp_regd [rb [(.tmp 4, .ref 0 2 0 0)] [(0, .own 2 [[I x8.Upto, I x8.Price]])] (.ref 0 2 0 0), rb [(.tmp 12, .ref 0 2 0 0)] [(0, .own 2 [[I x8.Upto, I x8.Price]])] (I x8.Upto), rp [fu 68, (.tmp 13, I x8.Upto), ci 1, ci 1000000000000] (B x13), rp [(.tmp 14, B x13)] (B ((!x13))), rp [(.tmp 15, (B ((!x13))))] (B true), sk 16 (B true), sk 16 (B true), sk 16 (B true), sk 16 (B true), rp [(.tmp 16, B true), cb true, (.tmp 20, (.lit undef))] (B true), mv 21 (B true), sk 22 (B true), sk 22 (B true), sk 22 (B true), sk 25 (.lit undef), sk 25 (.lit undef), sk 25 (.lit undef), sk 25 (.lit undef), sk 25 (.lit undef), sk 25 (.lit undef), sk 25 (.lit undef), sk 25 (.lit undef), sk 25 (.lit undef), sk 22 (B true), rp [(.tmp 22, B true), cb true, (.tmp 35, (.lit undef))] (B true)] ?_ ?_
        · exact ⟨astep_faddr rfl Try.underlying136 rfl rfl ti3 (by decide) rfl, astep_load rfl ti3 (by decide) rfl (nle rfl) rfl, astep_pcall (first := []) (cap := []) (vs := [I x8.Upto, I 1, I 1000000000000]) rfl enter68 (town_withinX_ok N x8.Upto 1 1000000000000 _ hf12) rfl rfl (nl_cons nll (nl_cons nll (nl_cons nll nl_nil))) nll rfl, astep_not rfl, astep_b hb14 (astep_move rfl), trivial, trivial, trivial, trivial, astep_pick rfl rfl, astep_move rfl, trivial, trivial, trivial, trivial, trivial, trivial, trivial, trivial, trivial, trivial, trivial, trivial, trivial, astep_pick rfl rfl, trivial⟩
        refine awp_true (by kernel_rfl) ?_
        refine awp_reg [mc (.bool false)] ?_ ?_
        · exact ⟨astep_assign rfl, trivial⟩
        refine awp_ret ?_
        refine blockA_r ?_
        refine thenA_r ?_
        refine thenA_r ?_
        refine blockA_r ?_
        refine thenA_r ?_
        obtain rfl := osi h
        exact ⟨⟨[B false], ⟨resOK_tmp (by kernel_rfl), trivial⟩, rfl⟩, nll, Nat.le_refl _, fun n hn => absurd hn (Nat.not_lt_zero n)⟩
      · replace h := bif_f hb14 h
        obtain ⟨x16, hf15, h⟩ := bind_out h
        rcases bft ((!x16)) with hb17 | hb17
        · replace h := bif_t hb17 h
          refine awp_regd [rb [(.tmp 4, .ref 0 2 0 0)] [(0, .own 2 [[I x8.Upto, I x8.Price]])] (.ref 0 2 0 0), rb [(.tmp 12, .ref 0 2 0 0)] [(0, .own 2 [[I x8.Upto, I x8.Price]])] (I x8.Upto), rp [fu 68, (.tmp 13, I x8.Upto), ci 1, ci 1000000000000] (B x13), rp [(.tmp 14, B x13)] (B ((!x13))), rp [(.tmp 15, (B ((!x13))))] (B false), rb [(.tmp 16, B false), (.tmp 4, .ref 0 2 0 0)] [(0, .own 2 [[I x8.Upto, I x8.Price]])] (.ref 0 2 0 1), rb [(.tmp 16, B false), (.tmp 17, .ref 0 2 0 1)] [(0, .own 2 [[I x8.Upto, I x8.Price]])] (I x8.Price), rp [(.tmp 16, B false), fu 68, (.tmp 18, I x8.Price), ci 0, ci 1000] (B x16), rp [(.tmp 16, B false), (.tmp 19, B x16)] (B ((!x16))), rp [(.tmp 16, B false), cb true, (.tmp 20, (B ((!x16))))] (B ((!x16))), rp [(.tmp 21, (B ((!x16))))] (B true), sk 22 (B true), sk 22 (B true), sk 22 (B true), sk 25 (.lit undef), sk 25 (.lit undef), sk 25 (.lit undef), sk 25 (.lit undef), sk 25 (.lit undef), sk 25 (.lit undef), sk 25 (.lit undef), sk 25 (.lit undef), sk 25 (.lit undef), sk 22 (B true), rp [(.tmp 22, B true), cb true, (.tmp 35, (.lit undef))] (B true)] ?_ ?_
          · exact ⟨astep_faddr rfl Try.underlying136 rfl rfl ti3 (by decide) rfl, astep_load rfl ti3 (by decide) rfl (nle rfl) rfl, astep_pcall (first := []) (cap := []) (vs := [I x8.Upto, I 1, I 1000000000000]) rfl enter68 (town_withinX_ok N x8.Upto 1 1000000000000 _ hf12) rfl rfl (nl_cons nll (nl_cons nll (nl_cons nll nl_nil))) nll rfl, astep_not rfl, astep_b hb14 (astep_move rfl), astep_guard (astep_faddr rfl Try.underlying136 rfl rfl ti3 (by decide) rfl), astep_guard (astep_load rfl ti3 (by decide) rfl (nle rfl) rfl), astep_guard (astep_pcall (first := []) (cap := []) (vs := [I x8.Price, I 0, I 1000]) rfl enter68 (town_withinX_ok N x8.Price 0 1000 _ hf15) rfl rfl (nl_cons nll (nl_cons nll (nl_cons nll nl_nil))) nll rfl), astep_guard (astep_not rfl), astep_pick rfl rfl, astep_b hb17 (astep_move rfl), trivial, trivial, trivial, trivial, trivial, trivial, trivial, trivial, trivial, trivial, trivial, trivial, trivial, astep_pick rfl rfl, trivial⟩
          refine awp_true (by kernel_rfl) ?_
          refine awp_reg [mc (.bool false)] ?_ ?_
          · exact ⟨astep_assign rfl, trivial⟩
          refine awp_ret ?_
          refine blockA_r ?_
          refine thenA_r ?_
          refine thenA_r ?_
          refine blockA_r ?_
          refine thenA_r ?_
          obtain rfl := osi h
          exact ⟨⟨[B false], ⟨resOK_tmp (by kernel_rfl), trivial⟩, rfl⟩, nll, Nat.le_refl _, fun n hn => absurd hn (Nat.not_lt_zero n)⟩
        · replace h := bif_f hb17 h
          rcases bft ((decide (y4 > 0))) with hb18 | hb18
          · replace h := bif_t hb18 h
            obtain ⟨x19, hg20, h⟩ := bind_out h
            obtain ⟨hi21, hj22⟩ := getI_some hg20
            refine awp_regd [rb [(.tmp 4, .ref 0 2 0 0)] [(0, .own 2 [[I x8.Upto, I x8.Price]])] (.ref 0 2 0 0), rb [(.tmp 12, .ref 0 2 0 0)] [(0, .own 2 [[I x8.Upto, I x8.Price]])] (I x8.Upto), rp [fu 68, (.tmp 13, I x8.Upto), ci 1, ci 1000000000000] (B x13), rp [(.tmp 14, B x13)] (B ((!x13))), rp [(.tmp 15, (B ((!x13))))] (B false), rb [(.tmp 16, B false), (.tmp 4, .ref 0 2 0 0)] [(0, .own 2 [[I x8.Upto, I x8.Price]])] (.ref 0 2 0 1), rb [(.tmp 16, B false), (.tmp 17, .ref 0 2 0 1)] [(0, .own 2 [[I x8.Upto, I x8.Price]])] (I x8.Price), rp [(.tmp 16, B false), fu 68, (.tmp 18, I x8.Price), ci 0, ci 1000] (B x16), rp [(.tmp 16, B false), (.tmp 19, B x16)] (B ((!x16))), rp [(.tmp 16, B false), cb true, (.tmp 20, (B ((!x16))))] (B ((!x16))), rp [(.tmp 21, (B ((!x16))))] (B false), rp [(.tmp 22, B false), (.tmp 3, I y4)] (I y4), rp [(.tmp 22, B false), (.tmp 23, I y4), ci 0] (B ((decide (y4 > 0)))), rp [(.tmp 22, B false), (.tmp 24, (B ((decide (y4 > 0)))))] (B true), rb [(.tmp 25, B true), (.tmp 4, .ref 0 2 0 0)] [(0, .own 2 [[I x8.Upto, I x8.Price]])] (.ref 0 2 0 0), rb [(.tmp 25, B true), (.tmp 26, .ref 0 2 0 0)] [(0, .own 2 [[I x8.Upto, I x8.Price]])] (I x8.Upto), rp [(.tmp 25, B true), (.tmp 0, (.dat 2 ((p0 : List GBracket).map c_GBracket)))] (.dat 2 ((p0 : List GBracket).map c_GBracket)), rp [(.tmp 25, B true), (.tmp 3, I y4)] (I y4), rp [(.tmp 25, B true), (.tmp 29, I y4), ci 1] (I (w64 (y4 - 1))), rp [(.tmp 25, B true), (.tmp 28, (.dat 2 ((p0 : List GBracket).map c_GBracket))), (.tmp 30, (I (w64 (y4 - 1))))] (.dptr (c_GBracket (x19)) 0), rp [(.tmp 25, B true), (.tmp 31, (.dptr (c_GBracket (x19)) 0))] (.dptr (c_GBracket (x19)) 0), rp [(.tmp 25, B true), (.tmp 32, (.dptr (c_GBracket (x19)) 0))] (I x19.Upto), rp [(.tmp 25, B true), (.tmp 27, I x8.Upto), (.tmp 33, I x19.Upto)] (B ((decide (x8.Upto ≤ x19.Upto)))), rp [(.tmp 22, B false), (.tmp 25, B true), (.tmp 34, (B ((decide (x8.Upto ≤ x19.Upto))))), cb false] (B ((decide (x8.Upto ≤ x19.Upto)))), rp [(.tmp 22, B false), cb true, (.tmp 35, (B ((decide (x8.Upto ≤ x19.Upto)))))] (B ((decide (x8.Upto ≤ x19.Upto))))] ?_ ?_
            · exact ⟨astep_faddr rfl Try.underlying136 rfl rfl ti3 (by decide) rfl, astep_load rfl ti3 (by decide) rfl (nle rfl) rfl, astep_pcall (first := []) (cap := []) (vs := [I x8.Upto, I 1, I 1000000000000]) rfl enter68 (town_withinX_ok N x8.Upto 1 1000000000000 _ hf12) rfl rfl (nl_cons nll (nl_cons nll (nl_cons nll nl_nil))) nll rfl, astep_not rfl, astep_b hb14 (astep_move rfl), astep_guard (astep_faddr rfl Try.underlying136 rfl rfl ti3 (by decide) rfl), astep_guard (astep_load rfl ti3 (by decide) rfl (nle rfl) rfl), astep_guard (astep_pcall (first := []) (cap := []) (vs := [I x8.Price, I 0, I 1000]) rfl enter68 (town_withinX_ok N x8.Price 0 1000 _ hf15) rfl rfl (nl_cons nll (nl_cons nll (nl_cons nll nl_nil))) nll rfl), astep_guard (astep_not rfl), astep_pick rfl rfl, astep_b hb17 (astep_move rfl), astep_guard (astep_move rfl), astep_guard (astep_bin rfl rfl), astep_b hb18 (astep_guard (astep_move rfl)), astep_guard (astep_faddr rfl Try.underlying136 rfl rfl ti3 (by decide) rfl), astep_guard (astep_load rfl ti3 (by decide) rfl (nle rfl) rfl), astep_guard (astep_move rfl), astep_guard (astep_move rfl), astep_guard (astep_bin rfl rfl), astep_guard (astep_idxd rfl Try.underlying117 ti136 rfl rfl hi21 (map_get c_GBracket hj22) rfl), astep_guard (astep_faddrd rfl Try.underlying136 rfl rfl ti3 (by decide) rfl), astep_guard (astep_loadd rfl ti3 (by decide) (nle rfl) rfl), astep_guard (astep_bin rfl rfl), astep_guard (astep_pick rfl rfl), astep_pick rfl rfl, trivial⟩
            rcases bft ((decide (x8.Upto ≤ x19.Upto))) with hc23 | hc23
            · replace h := bif_t hc23 h
              refine awp_ift hc23 (by kernel_rfl) ?_
              refine awp_reg [mc (.bool false)] ?_ ?_
              · exact ⟨astep_assign rfl, trivial⟩
              refine awp_ret ?_
              refine blockA_r ?_
              refine thenA_r ?_
              refine thenA_r ?_
              refine blockA_r ?_
              refine thenA_r ?_
              obtain rfl := osi h
              exact ⟨⟨[B false], ⟨resOK_tmp (by kernel_rfl), trivial⟩, rfl⟩, nll, Nat.le_refl _, fun n hn => absurd hn (Nat.not_lt_zero n)⟩
            · replace h := bif_f hc23 h
              refine awp_ifn hc23 (by kernel_rfl) ?_
              refine awp_skip ?_
              refine blockA_n ?_
              refine thenA_n ?_
              refine awp_reg1 [rp [(.tmp 7, I y4), ci 1] (I (w64 (y4 + 1))), mv 37 (I (w64 (y4 + 1)))] ?_ ?_
              · exact ⟨astep_bin rfl rfl, astep_move rfl, trivial⟩
              refine thenA_n ?_
              exact around_mor (mor_to (n := 41) [(0, (.dat 2 ((p0 : List GBracket).map c_GBracket))), (5, (.dat 2 ((p0 : List GBracket).map c_GBracket))), (6, (I ((p0.length : Int)))), (7, (I (w64 (y4 + 1))))] [] [] hφ0 (pc (.rn (.plain _ (nl_dat nl_GBracket _))) (pc (.rn (.plain _ (nl_dat nl_GBracket _))) (pc rwl (pc rwl pn)))) qn) (ih (w64 (y4 + 1)) h)
          · replace h := bif_f hb18 h
            refine awp_regd [rb [(.tmp 4, .ref 0 2 0 0)] [(0, .own 2 [[I x8.Upto, I x8.Price]])] (.ref 0 2 0 0), rb [(.tmp 12, .ref 0 2 0 0)] [(0, .own 2 [[I x8.Upto, I x8.Price]])] (I x8.Upto), rp [fu 68, (.tmp 13, I x8.Upto), ci 1, ci 1000000000000] (B x13), rp [(.tmp 14, B x13)] (B ((!x13))), rp [(.tmp 15, (B ((!x13))))] (B false), rb [(.tmp 16, B false), (.tmp 4, .ref 0 2 0 0)] [(0, .own 2 [[I x8.Upto, I x8.Price]])] (.ref 0 2 0 1), rb [(.tmp 16, B false), (.tmp 17, .ref 0 2 0 1)] [(0, .own 2 [[I x8.Upto, I x8.Price]])] (I x8.Price), rp [(.tmp 16, B false), fu 68, (.tmp 18, I x8.Price), ci 0, ci 1000] (B x16), rp [(.tmp 16, B false), (.tmp 19, B x16)] (B ((!x16))), rp [(.tmp 16, B false), cb true, (.tmp 20, (B ((!x16))))] (B ((!x16))), rp [(.tmp 21, (B ((!x16))))] (B false), rp [(.tmp 22, B false), (.tmp 3, I y4)] (I y4), rp [(.tmp 22, B false), (.tmp 23, I y4), ci 0] (B ((decide (y4 > 0)))), rp [(.tmp 22, B false), (.tmp 24, (B ((decide (y4 > 0)))))] (B false), sk 25 (B false), sk 25 (B false), sk 25 (B false), sk 25 (B false), sk 25 (B false), sk 25 (B false), sk 25 (B false), sk 25 (B false), sk 25 (B false), rp [(.tmp 22, B false), (.tmp 25, B false), (.tmp 34, (.lit undef)), cb false] (B false), rp [(.tmp 22, B false), cb true, (.tmp 35, B false)] (B false)] ?_ ?_
            · exact ⟨astep_faddr rfl Try.underlying136 rfl rfl ti3 (by decide) rfl, astep_load rfl ti3 (by decide) rfl (nle rfl) rfl, astep_pcall (first := []) (cap := []) (vs := [I x8.Upto, I 1, I 1000000000000]) rfl enter68 (town_withinX_ok N x8.Upto 1 1000000000000 _ hf12) rfl rfl (nl_cons nll (nl_cons nll (nl_cons nll nl_nil))) nll rfl, astep_not rfl, astep_b hb14 (astep_move rfl), astep_guard (astep_faddr rfl Try.underlying136 rfl rfl ti3 (by decide) rfl), astep_guard (astep_load rfl ti3 (by decide) rfl (nle rfl) rfl), astep_guard (astep_pcall (first := []) (cap := []) (vs := [I x8.Price, I 0, I 1000]) rfl enter68 (town_withinX_ok N x8.Price 0 1000 _ hf15) rfl rfl (nl_cons nll (nl_cons nll (nl_cons nll nl_nil))) nll rfl), astep_guard (astep_not rfl), astep_pick rfl rfl, astep_b hb17 (astep_move rfl), astep_guard (astep_move rfl), astep_guard (astep_bin rfl rfl), astep_b hb18 (astep_guard (astep_move rfl)), trivial, trivial, trivial, trivial, trivial, trivial, trivial, trivial, trivial, astep_guard (astep_pick rfl rfl), astep_pick rfl rfl, trivial⟩
            refine awp_false (by kernel_rfl) ?_
            refine awp_skip ?_
            refine blockA_n ?_
            refine thenA_n ?_
            refine awp_reg1 [rp [(.tmp 7, I y4), ci 1] (I (w64 (y4 + 1))), mv 37 (I (w64 (y4 + 1)))] ?_ ?_
            · exact ⟨astep_bin rfl rfl, astep_move rfl, trivial⟩
            refine thenA_n ?_
            exact around_mor (mor_to (n := 41) [(0, (.dat 2 ((p0 : List GBracket).map c_GBracket))), (5, (.dat 2 ((p0 : List GBracket).map c_GBracket))), (6, (I ((p0.length : Int)))), (7, (I (w64 (y4 + 1))))] [] [] hφ0 (pc (.rn (.plain _ (nl_dat nl_GBracket _))) (pc (.rn (.plain _ (nl_dat nl_GBracket _))) (pc rwl (pc rwl pn)))) qn) (ih (w64 (y4 + 1)) h)
    · replace h := bif_f hc7 h
      refine awp_ifn hc7 (by kernel_rfl) ?_
      refine awp_exit ?_
      refine thenA_x ?_
      refine thenA_x ?_
      refine blockA_e rfl ?_
      refine thenA_n ?_
      exact ⟨(), h, (mor_to (n := 41) [(0, (.dat 2 ((p0 : List GBracket).map c_GBracket)))] [] [] hφ0 (pc (.rn (.plain _ (nl_dat nl_GBracket _))) pn) qn)⟩

def town_chargeX_loop1 (N : Nat) (p0 : (List GBracket)) (p1 : Int) (k2 : Int → Option Int) : Nat → Int → Int → Int → Option Int
  | 0, _, _, _ => none
  | n9 + 1, y3, y4, y5 =>
    bif (decide (y5 < (p0.length : Int))) then
      (getI p0 y5).bind fun x11 =>
      joinK (fun y15 =>
          (some (w64 ((if (w64 (y15 - y4)) > 0 then w64 (y15 - y4) else 0) * x11.Price))).bind fun x17 =>
          (some (if y15 > y4 then y15 else y4)).bind fun x19 =>
          town_chargeX_loop1 N p0 p1 k2 n9 (w64 (y3 + x17)) x19 (w64 (y5 + 1))) fun k16 : Int → Option Int =>
      bif (y5 == (w64 ((p0.length : Int) - 1))) then
        k16 (p1)
      else
        bif (decide (x11.Upto > p1)) then
          k16 (p1)
        else
          k16 (x11.Upto)
    else
      k2 (y3)
def town_chargeX (N : Nat) (p0 : (List GBracket)) (p1 : Int) : Option Int :=
  joinK (fun y1 =>
      some (w64 (y1.tdiv 1000))) fun k2 : Int → Option Int =>
  town_chargeX_loop1 N p0 p1 k2 N 0 0 0
set_option maxRecDepth 100000 in
set_option maxHeartbeats 4000000 in
theorem town_chargeX_ok (N : Nat) (p0 : (List GBracket)) (p1 : Int) (r : Int) (h : town_chargeX N p0 p1 = some r) : Spec Try.prog 89 [(.dat 2 (p0.map c_GBracket)), (I p1)] [] (I r) [] := by
  refine spec_of_awp Try.func89 rfl 0 (nle rfl) (fun X φ0 w0 hφ0 => ?_)
  unfold town_chargeX at h
  refine awp_reg [mc (.int .i64 0)] ?_ ?_
  · exact ⟨astep_assign rfl, trivial⟩
  refine awp_reg [mc (.int .i64 0), mc (.int .i64 0)] ?_ ?_
  · exact ⟨astep_assign rfl, astep_assign rfl, trivial⟩
  obtain ⟨k2, hk_k2, h⟩ := joinK_out h
  refine awp_join (τ := Int) (fun t => k2 t = some r) (fun y1 => ⟨mk 45 [(5, I y1)], []⟩) (fun y1 h => ?_) ?_
  · subst hk_k2
    refine awp_reg [mv 5 (I y1), rp [(.tmp 43, I y1), ci 1000] (I (w64 (y1.tdiv 1000))), mv 44 (I (w64 (y1.tdiv 1000)))] ?_ ?_
    · exact ⟨astep_move rfl, astep_quo rfl (by decide), astep_assign rfl, trivial⟩
    refine awp_ret ?_
    obtain rfl := osi h
    exact ⟨⟨[(I (w64 (y1.tdiv 1000)))], ⟨resOK_tmp (by kernel_rfl), trivial⟩, rfl⟩, nll, Nat.le_refl _, fun n hn => absurd hn (Nat.not_lt_zero n)⟩
  · skip
    refine awp_reg [mv 0 (.dat 2 ((p0 : List GBracket).map c_GBracket)), rp [(.tmp 10, (.dat 2 ((p0 : List GBracket).map c_GBracket)))] (I ((p0.length : Int))), mc (.int .i64 0)] ?_ ?_
    · exact ⟨astep_move rfl, astep_lenm (c := c_GBracket) (l := p0) (astep_len rfl Try.underlying117 rfl), astep_move rfl, trivial⟩
    refine awp_block ?_
    refine awp_mor (mor_to (n := 45) (l' := [(0, (.dat 2 ((p0 : List GBracket).map c_GBracket))), (1, I p1), (5, I 0), (6, I 0), (10, (.dat 2 ((p0 : List GBracket).map c_GBracket))), (11, (I ((p0.length : Int)))), (12, I 0)]) (own' := []) [(0, (.dat 2 ((p0 : List GBracket).map c_GBracket))), (1, I p1), (5, I 0), (6, I 0), (10, (.dat 2 ((p0 : List GBracket).map c_GBracket))), (11, (I ((p0.length : Int)))), (12, I 0)] [] [] hφ0 (pc (.rn (.plain _ (nl_dat nl_GBracket _))) (pc rwl (pc rwl (pc rwl (pc (.rn (.plain _ (nl_dat nl_GBracket _))) (pc rwl (pc rwl pn))))))) qn) ?_
    refine awp_ind (τ := Int × Int × Int) (fun n t => town_chargeX_loop1 N p0 p1 k2 n t.1 t.2.1 t.2.2 = some r) (fun ⟨y3, y4, y5⟩ => ⟨mk 45 [(0, (.dat 2 ((p0 : List GBracket).map c_GBracket))), (1, I p1), (5, I y3), (6, I y4), (10, (.dat 2 ((p0 : List GBracket).map c_GBracket))), (11, (I ((p0.length : Int)))), (12, I y5)], []⟩) (fun t h => by rw [town_chargeX_loop1] at h; cases h) (fun n9 ih t h => ?_) N (0, 0, 0) h
    obtain ⟨y3, y4, y5⟩ := t
    rw [town_chargeX_loop1] at h
    skip
    refine awp_reg [rp [(.tmp 12, I y5), (.tmp 11, (I ((p0.length : Int))))] (B ((decide (y5 < (p0.length : Int)))))] ?_ ?_
    · exact ⟨astep_bin rfl rfl, trivial⟩
    refine awp_seq ?_
    rcases bft ((decide (y5 < (p0.length : Int)))) with hc10 | hc10
    · replace h := bif_t hc10 h
      refine awp_ift hc10 (by kernel_rfl) ?_
      refine awp_skip ?_
      refine thenA_n ?_
      refine awp_seq ?_
      refine awp_block ?_
      obtain ⟨x11, hg12, h⟩ := bind_out h
      obtain ⟨hi13, hj14⟩ := getI_some hg12
      refine awp_reg [mv 12 (I y5), rp [(.tmp 10, (.dat 2 ((p0 : List GBracket).map c_GBracket))), (.tmp 12, I y5)] (.dptr (c_GBracket (x11)) 0), rp [(.tmp 15, (.dptr (c_GBracket (x11)) 0))] (.agg [I x11.Upto, I x11.Price]), ⟨[], [(0, .unused)], .ref 0 2 0 0, [(0, .own 2 [[I 0, I 0]])], false⟩, mv 14 (I y5), ⟨[(.tmp 8, .ref 0 2 0 0), (.tmp 16, (.agg [I x11.Upto, I x11.Price]))], [(0, .own 2 [[I 0, I 0]])], .any, [(0, .own 2 [[I x11.Upto, I x11.Price]])], false⟩] ?_ ?_
      · exact ⟨astep_move rfl, astep_idxd rfl Try.underlying117 ti136 rfl rfl hi13 (map_get c_GBracket hj14) rfl, astep_loadd rfl ti136 (by decide) (nle rfl) rfl, astep_alloc rfl tz136 rfl, astep_assign rfl, astep_store rfl ti136 (by rfl) rfl (nle rfl) rfl, trivial⟩
      refine awp_reg [rb [(.tmp 8, .ref 0 2 0 0)] [(0, .own 2 [[I x11.Upto, I x11.Price]])] (.ref 0 2 0 0), rb [(.tmp 17, .ref 0 2 0 0)] [(0, .own 2 [[I x11.Upto, I x11.Price]])] (I x11.Upto), mv 18 (I x11.Upto)] ?_ ?_
      · exact ⟨astep_faddr rfl Try.underlying136 rfl rfl ti3 (by decide) rfl, astep_load rfl ti3 (by decide) rfl (nle rfl) rfl, astep_assign rfl, trivial⟩
      obtain ⟨k16, hk_k16, h⟩ := joinK_out h
      refine awp_join (τ := Int) (fun t => k16 t = some r) (fun y15 => ⟨mk 45 [(0, (.dat 2 ((p0 : List GBracket).map c_GBracket))), (1, I p1), (5, I y3), (6, I y4), (8, .ref 0 2 0 0), (9, I y15), (10, (.dat 2 ((p0 : List GBracket).map c_GBracket))), (11, (I ((p0.length : Int)))), (12, I y5)], [(.own 2 [[I x11.Upto, I x11.Price]])]⟩) (fun y15 h => ?_) ?_
      · subst hk_k16
        obtain ⟨x17, hl18, h⟩ := bind_out h
        refine awp_reg [mv 5 (I y3), mv 9 (I y15), mv 6 (I y4), rp [(.tmp 31, I y15), (.tmp 32, I y4)] (I (w64 (y15 - y4))), rp [ci 0, (.tmp 33, (I (w64 (y15 - y4))))] (I ((if (w64 (y15 - y4)) > 0 then w64 (y15 - y4) else 0))), rb [(.tmp 8, .ref 0 2 0 0)] [(0, .own 2 [[I x11.Upto, I x11.Price]])] (.ref 0 2 0 1), rb [(.tmp 35, .ref 0 2 0 1)] [(0, .own 2 [[I x11.Upto, I x11.Price]])] (I x11.Price), rp [(.tmp 34, (I ((if (w64 (y15 - y4)) > 0 then w64 (y15 - y4) else 0)))), (.tmp 36, I x11.Price)] (I x17), rp [(.tmp 30, I y3), (.tmp 37, I x17)] (I (w64 (y3 + x17))), mv 38 (I (w64 (y3 + x17)))] ?_ ?_
        · exact ⟨astep_move rfl, astep_move rfl, astep_move rfl, astep_bin rfl rfl, astep_max rfl, astep_faddr rfl Try.underlying136 rfl rfl ti3 (by decide) rfl, astep_load rfl ti3 (by decide) rfl (nle rfl) rfl, astep_i hl18 (astep_bin rfl rfl), astep_bin rfl rfl, astep_assign rfl, trivial⟩
        obtain ⟨x19, hl20, h⟩ := bind_out h
        refine awp_reg1 [mv 6 (I y4), mv 9 (I y15), rp [(.tmp 39, I y4), (.tmp 40, I y15)] (I ((if y15 > y4 then y15 else y4))), rp [(.tmp 41, (I ((if y15 > y4 then y15 else y4))))] (I x19)] ?_ ?_
        · exact ⟨astep_move rfl, astep_move rfl, astep_max rfl, astep_i hl20 (astep_assign rfl), trivial⟩
        refine blockA_n ?_
        refine thenA_n ?_
        refine awp_reg1 [rp [(.tmp 12, I y5), ci 1] (I (w64 (y5 + 1))), mv 42 (I (w64 (y5 + 1)))] ?_ ?_
        · exact ⟨astep_bin rfl rfl, astep_move rfl, trivial⟩
        refine thenA_n ?_
        exact around_mor (mor_to (n := 45) [(0, (.dat 2 ((p0 : List GBracket).map c_GBracket))), (1, I p1), (5, (I (w64 (y3 + x17)))), (6, I x19), (10, (.dat 2 ((p0 : List GBracket).map c_GBracket))), (11, (I ((p0.length : Int)))), (12, (I (w64 (y5 + 1))))] [] [] hφ0 (pc (.rn (.plain _ (nl_dat nl_GBracket _))) (pc rwl (pc rwl (pc rwl (pc (.rn (.plain _ (nl_dat nl_GBracket _))) (pc rwl (pc rwl pn))))))) qn) (ih (w64 (y3 + x17), x19, w64 (y5 + 1)) h)
      · skip
        rcases bft ((y5 == (w64 ((p0.length : Int) - 1)))) with hb21 | hb21
        · replace h := bif_t hb21 h
          refine awp_reg [mv 7 (I y5), mv 0 (.dat 2 ((p0 : List GBracket).map c_GBracket)), rp [(.tmp 20, (.dat 2 ((p0 : List GBracket).map c_GBracket)))] (I ((p0.length : Int))), rp [(.tmp 21, (I ((p0.length : Int)))), ci 1] (I (w64 ((p0.length : Int) - 1))), rp [(.tmp 19, I y5), (.tmp 22, (I (w64 ((p0.length : Int) - 1))))] (B ((y5 == (w64 ((p0.length : Int) - 1))))), rp [(.tmp 23, (B ((y5 == (w64 ((p0.length : Int) - 1))))))] (B true), sk 24 (B true), sk 24 (B true), sk 24 (B true), rp [(.tmp 24, B true), cb true, (.tmp 27, (.lit undef))] (B true)] ?_ ?_
          · exact ⟨astep_move rfl, astep_move rfl, astep_lenm (c := c_GBracket) (l := p0) (astep_len rfl Try.underlying117 rfl), astep_bin rfl rfl, astep_bin rfl rfl, astep_b hb21 (astep_move rfl), trivial, trivial, trivial, astep_pick rfl rfl, trivial⟩
          refine awp_true (by kernel_rfl) ?_
          refine awp_reg1 [mv 1 (I p1), mv 29 (I p1)] ?_ ?_
          · exact ⟨astep_move rfl, astep_assign rfl, trivial⟩
          refine thenA_n ?_
          exact ⟨(p1), h, (mor_to (n := 45) [(0, (.dat 2 ((p0 : List GBracket).map c_GBracket))), (1, I p1), (5, I y3), (6, I y4), (8, .ref 0 2 0 0), (9, I p1), (10, (.dat 2 ((p0 : List GBracket).map c_GBracket))), (11, (I ((p0.length : Int)))), (12, I y5)] [0] [(.own 2 [[I x11.Upto, I x11.Price]])] hφ0 (pc (.rn (.plain _ (nl_dat nl_GBracket _))) (pc rwl (pc rwl (pc rwl (pc (.rn (rnq_ref rfl)) (pc rwl (pc (.rn (.plain _ (nl_dat nl_GBracket _))) (pc rwl (pc rwl pn))))))))) (qc (spw_box (lc rwl (lc rwl ln))) qn))⟩
        · replace h := bif_f hb21 h
          refine awp_reg [mv 7 (I y5), mv 0 (.dat 2 ((p0 : List GBracket).map c_GBracket)), rp [(.tmp 20, (.dat 2 ((p0 : List GBracket).map c_GBracket)))] (I ((p0.length : Int))), rp [(.tmp 21, (I ((p0.length : Int)))), ci 1] (I (w64 ((p0.length : Int) - 1))), rp [(.tmp 19, I y5), (.tmp 22, (I (w64 ((p0.length : Int) - 1))))] (B ((y5 == (w64 ((p0.length : Int) - 1))))), rp [(.tmp 23, (B ((y5 == (w64 ((p0.length : Int) - 1))))))] (B false), rp [(.tmp 24, B false), (.tmp 9, I x11.Upto)] (I x11.Upto), rp [(.tmp 24, B false), (.tmp 1, I p1)] (I p1), rp [(.tmp 24, B false), (.tmp 25, I x11.Upto), (.tmp 26, I p1)] (B ((decide (x11.Upto > p1)))), rp [(.tmp 24, B false), cb true, (.tmp 27, (B ((decide (x11.Upto > p1)))))] (B ((decide (x11.Upto > p1))))] ?_ ?_
          · exact ⟨astep_move rfl, astep_move rfl, astep_lenm (c := c_GBracket) (l := p0) (astep_len rfl Try.underlying117 rfl), astep_bin rfl rfl, astep_bin rfl rfl, astep_b hb21 (astep_move rfl), astep_guard (astep_move rfl), astep_guard (astep_move rfl), astep_guard (astep_bin rfl rfl), astep_pick rfl rfl, trivial⟩
          rcases bft ((decide (x11.Upto > p1))) with hc22 | hc22
          · replace h := bif_t hc22 h
            refine awp_ift hc22 (by kernel_rfl) ?_
            refine awp_reg1 [mv 1 (I p1), mv 29 (I p1)] ?_ ?_
            · exact ⟨astep_move rfl, astep_assign rfl, trivial⟩
            refine thenA_n ?_
            exact ⟨(p1), h, (mor_to (n := 45) [(0, (.dat 2 ((p0 : List GBracket).map c_GBracket))), (1, I p1), (5, I y3), (6, I y4), (8, .ref 0 2 0 0), (9, I p1), (10, (.dat 2 ((p0 : List GBracket).map c_GBracket))), (11, (I ((p0.length : Int)))), (12, I y5)] [0] [(.own 2 [[I x11.Upto, I x11.Price]])] hφ0 (pc (.rn (.plain _ (nl_dat nl_GBracket _))) (pc rwl (pc rwl (pc rwl (pc (.rn (rnq_ref rfl)) (pc rwl (pc (.rn (.plain _ (nl_dat nl_GBracket _))) (pc rwl (pc rwl pn))))))))) (qc (spw_box (lc rwl (lc rwl ln))) qn))⟩
          · replace h := bif_f hc22 h
            refine awp_ifn hc22 (by kernel_rfl) ?_
            refine awp_skip ?_
            refine thenA_n ?_
            exact ⟨(x11.Upto), h, (mor_to (n := 45) [(0, (.dat 2 ((p0 : List GBracket).map c_GBracket))), (1, I p1), (5, I y3), (6, I y4), (8, .ref 0 2 0 0), (9, I x11.Upto), (10, (.dat 2 ((p0 : List GBracket).map c_GBracket))), (11, (I ((p0.length : Int)))), (12, I y5)] [0] [(.own 2 [[I x11.Upto, I x11.Price]])] hφ0 (pc (.rn (.plain _ (nl_dat nl_GBracket _))) (pc rwl (pc rwl (pc rwl (pc (.rn (rnq_ref rfl)) (pc rwl (pc (.rn (.plain _ (nl_dat nl_GBracket _))) (pc rwl (pc rwl pn))))))))) (qc (spw_box (lc rwl (lc rwl ln))) qn))⟩
    · replace h := bif_f hc10 h
      refine awp_ifn hc10 (by kernel_rfl) ?_
      refine awp_exit ?_
      refine thenA_x ?_
      refine thenA_x ?_
      refine blockA_e rfl ?_
      refine thenA_n ?_
      exact ⟨(y3), h, (mor_to (n := 45) [(5, I y3)] [] [] hφ0 (pc rwl pn) qn)⟩

def town_ChargeX (N : Nat) (p0 : (List GBracket)) (p1 : Int) : Option (Int × Int) :=
  (town_tariffX N p0).bind fun x2 =>
  bif (!x2) then
    some (0, 1)
  else
    (town_withinX N p1 0 1000000000000).bind fun x5 =>
    bif (!x5) then
      some (0, 2)
    else
      (town_chargeX N p0 p1).bind fun x8 =>
      some (x8, 0)
set_option maxRecDepth 100000 in
set_option maxHeartbeats 4000000 in
theorem town_ChargeX_ok (N : Nat) (p0 : (List GBracket)) (p1 : Int) (r : (Int × Int)) (h : town_ChargeX N p0 p1 = some r) : Spec Try.prog 55 [(.dat 2 (p0.map c_GBracket)), (I p1)] [] (.tup [(I r.1), (I r.2)]) [] := by
  refine spec_of_awp Try.func55 rfl 0 (nle rfl) (fun X φ0 w0 hφ0 => ?_)
  unfold town_ChargeX at h
  refine awp_reg [mc (.int .i64 0), mc (.int .i64 0)] ?_ ?_
  · exact ⟨astep_assign rfl, astep_assign rfl, trivial⟩
  refine awp_seq ?_
  refine awp_block ?_
  obtain ⟨x2, hf1, h⟩ := bind_out h
  refine awp_reg [mv 0 (.dat 2 ((p0 : List GBracket).map c_GBracket)), rp [fu 88, (.tmp 7, (.dat 2 ((p0 : List GBracket).map c_GBracket)))] (B x2), rp [(.tmp 8, B x2)] (B ((!x2))), mv 9 (B ((!x2)))] ?_ ?_
  · exact ⟨astep_move rfl, astep_pcall (first := []) (cap := []) (vs := [(.dat 2 ((p0 : List GBracket).map c_GBracket))]) rfl enter88 (town_tariffX_ok N p0 _ hf1) rfl rfl (nl_cons (nl_dat nl_GBracket _) nl_nil) nll rfl, astep_not rfl, astep_assign rfl, trivial⟩
  rcases bft ((!x2)) with hc3 | hc3
  · replace h := bif_t hc3 h
    refine awp_ift hc3 (by kernel_rfl) ?_
    refine awp_reg [mc (.int .i64 0), mc (.int .i64 1)] ?_ ?_
    · exact ⟨astep_assign rfl, astep_assign rfl, trivial⟩
    refine awp_ret ?_
    refine blockA_r ?_
    refine thenA_r ?_
    obtain rfl := osi h
    exact ⟨⟨[I 0, I 1], ⟨resOK_tmp (by kernel_rfl), resOK_tmp (by kernel_rfl), trivial⟩, rfl⟩, (NLt.tup _ (nl_cons nll (nl_cons nll nl_nil))), Nat.le_refl _, fun n hn => absurd hn (Nat.not_lt_zero n)⟩
  · replace h := bif_f hc3 h
    refine awp_ifn hc3 (by kernel_rfl) ?_
    obtain ⟨x5, hf4, h⟩ := bind_out h
    refine awp_reg [mv 1 (I p1), rp [fu 68, (.tmp 11, I p1), ci 0, ci 1000000000000] (B x5), rp [(.tmp 12, B x5)] (B ((!x5))), mv 13 (B ((!x5)))] ?_ ?_
    · exact ⟨astep_move rfl, astep_pcall (first := []) (cap := []) (vs := [I p1, I 0, I 1000000000000]) rfl enter68 (town_withinX_ok N p1 0 1000000000000 _ hf4) rfl rfl (nl_cons nll (nl_cons nll (nl_cons nll nl_nil))) nll rfl, astep_not rfl, astep_assign rfl, trivial⟩
    rcases bft ((!x5)) with hc6 | hc6
    · replace h := bif_t hc6 h
      refine awp_ift hc6 (by kernel_rfl) ?_
      refine awp_reg [mc (.int .i64 0), mc (.int .i64 2)] ?_ ?_
      · exact ⟨astep_assign rfl, astep_assign rfl, trivial⟩
      refine awp_ret ?_
      refine blockA_r ?_
      refine thenA_r ?_
      obtain rfl := osi h
      exact ⟨⟨[I 0, I 2], ⟨resOK_tmp (by kernel_rfl), resOK_tmp (by kernel_rfl), trivial⟩, rfl⟩, (NLt.tup _ (nl_cons nll (nl_cons nll nl_nil))), Nat.le_refl _, fun n hn => absurd hn (Nat.not_lt_zero n)⟩
    · replace h := bif_f hc6 h
      refine awp_ifn hc6 (by kernel_rfl) ?_
      refine awp_skip ?_
      refine blockA_n ?_
      refine thenA_n ?_
      obtain ⟨x8, hf7, h⟩ := bind_out h
      refine awp_reg [mv 0 (.dat 2 ((p0 : List GBracket).map c_GBracket)), mv 1 (I p1), rp [fu 89, (.tmp 14, (.dat 2 ((p0 : List GBracket).map c_GBracket))), (.tmp 15, I p1)] (I x8), mv 16 (I x8), mc (.int .i64 0)] ?_ ?_
      · exact ⟨astep_move rfl, astep_move rfl, astep_pcall (first := []) (cap := []) (vs := [(.dat 2 ((p0 : List GBracket).map c_GBracket)), I p1]) rfl enter89 (town_chargeX_ok N p0 p1 _ hf7) rfl rfl (nl_cons (nl_dat nl_GBracket _) (nl_cons nll nl_nil)) nll rfl, astep_assign rfl, astep_assign rfl, trivial⟩
      refine awp_ret ?_
      obtain rfl := osi h
      exact ⟨⟨[I x8, I 0], ⟨resOK_tmp (by kernel_rfl), resOK_tmp (by kernel_rfl), trivial⟩, rfl⟩, (NLt.tup _ (nl_cons nll (nl_cons nll nl_nil))), Nat.le_refl _, fun n hn => absurd hn (Nat.not_lt_zero n)⟩

def town_BillX (N : Nat) (p0 : (List GBracket)) (p1 : Int) (p2 : Int) : Option (Int × Int) :=
  joinK (fun _ =>
      (town_chargeX N p0 (w64 (p1 + p2))).bind fun x3 =>
      (town_chargeX N p0 p1).bind fun x5 =>
      some (w64 (x3 - x5), 0)) fun k1 : Unit → Option (Int × Int) =>
  (town_tariffX N p0).bind fun x7 =>
  bif (!x7) then
    some (0, 1)
  else
    (town_withinX N p1 0 1000000000000).bind fun x10 =>
    bif (!x10) then
      some (0, 2)
    else
      (town_withinX N p2 0 1000000000000).bind fun x13 =>
      bif (!x13) then
        some (0, 2)
      else
        bif (decide ((w64 (p1 + p2)) > 1000000000000)) then
          some (0, 2)
        else
          k1 ()
set_option maxRecDepth 100000 in
set_option maxHeartbeats 4000000 in
theorem town_BillX_ok (N : Nat) (p0 : (List GBracket)) (p1 : Int) (p2 : Int) (r : (Int × Int)) (h : town_BillX N p0 p1 p2 = some r) : Spec Try.prog 57 [(.dat 2 (p0.map c_GBracket)), (I p1), (I p2)] [] (.tup [(I r.1), (I r.2)]) [] := by
  refine spec_of_awp Try.func57 rfl 0 (nle rfl) (fun X φ0 w0 hφ0 => ?_)
  unfold town_BillX at h
  refine awp_reg [mc (.int .i64 0), mc (.int .i64 0)] ?_ ?_
  · exact ⟨astep_assign rfl, astep_assign rfl, trivial⟩
  obtain ⟨k1, hk_k1, h⟩ := joinK_out h
  refine awp_join (τ := Unit) (fun t => k1 t = some r) (fun _ => ⟨mk 36 [(0, (.dat 2 ((p0 : List GBracket).map c_GBracket))), (1, I p1), (2, I p2)], []⟩) (fun t h => ?_) ?_
  · subst hk_k1
    obtain ⟨x3, hf2, h⟩ := bind_out h
    obtain ⟨x5, hf4, h⟩ := bind_out h
    refine awp_reg [mv 0 (.dat 2 ((p0 : List GBracket).map c_GBracket)), mv 1 (I p1), mv 2 (I p2), rp [(.tmp 28, I p1), (.tmp 29, I p2)] (I (w64 (p1 + p2))), rp [fu 89, (.tmp 27, (.dat 2 ((p0 : List GBracket).map c_GBracket))), (.tmp 30, (I (w64 (p1 + p2))))] (I x3), mv 0 (.dat 2 ((p0 : List GBracket).map c_GBracket)), mv 1 (I p1), rp [fu 89, (.tmp 32, (.dat 2 ((p0 : List GBracket).map c_GBracket))), (.tmp 33, I p1)] (I x5), rp [(.tmp 31, I x3), (.tmp 34, I x5)] (I (w64 (x3 - x5))), mv 35 (I (w64 (x3 - x5))), mc (.int .i64 0)] ?_ ?_
    · exact ⟨astep_move rfl, astep_move rfl, astep_move rfl, astep_bin rfl rfl, astep_pcall (first := []) (cap := []) (vs := [(.dat 2 ((p0 : List GBracket).map c_GBracket)), (I (w64 (p1 + p2)))]) rfl enter89 (town_chargeX_ok N p0 (w64 (p1 + p2)) _ hf2) rfl rfl (nl_cons (nl_dat nl_GBracket _) (nl_cons nll nl_nil)) nll rfl, astep_move rfl, astep_move rfl, astep_pcall (first := []) (cap := []) (vs := [(.dat 2 ((p0 : List GBracket).map c_GBracket)), I p1]) rfl enter89 (town_chargeX_ok N p0 p1 _ hf4) rfl rfl (nl_cons (nl_dat nl_GBracket _) (nl_cons nll nl_nil)) nll rfl, astep_bin rfl rfl, astep_assign rfl, astep_assign rfl, trivial⟩
    refine awp_ret ?_
    obtain rfl := osi h
    exact ⟨⟨[(I (w64 (x3 - x5))), I 0], ⟨resOK_tmp (by kernel_rfl), resOK_tmp (by kernel_rfl), trivial⟩, rfl⟩, (NLt.tup _ (nl_cons nll (nl_cons nll nl_nil))), Nat.le_refl _, fun n hn => absurd hn (Nat.not_lt_zero n)⟩
  · skip
    refine awp_block ?_
    obtain ⟨x7, hf6, h⟩ := bind_out h
    refine awp_reg [mv 0 (.dat 2 ((p0 : List GBracket).map c_GBracket)), rp [fu 88, (.tmp 9, (.dat 2 ((p0 : List GBracket).map c_GBracket)))] (B x7), rp [(.tmp 10, B x7)] (B ((!x7))), mv 11 (B ((!x7)))] ?_ ?_
    · exact ⟨astep_move rfl, astep_pcall (first := []) (cap := []) (vs := [(.dat 2 ((p0 : List GBracket).map c_GBracket))]) rfl enter88 (town_tariffX_ok N p0 _ hf6) rfl rfl (nl_cons (nl_dat nl_GBracket _) nl_nil) nll rfl, astep_not rfl, astep_assign rfl, trivial⟩
    rcases bft ((!x7)) with hc8 | hc8
    · replace h := bif_t hc8 h
      refine awp_ift hc8 (by kernel_rfl) ?_
      refine awp_reg [mc (.int .i64 0), mc (.int .i64 1)] ?_ ?_
      · exact ⟨astep_assign rfl, astep_assign rfl, trivial⟩
      refine awp_ret ?_
      refine blockA_r ?_
      refine thenA_r ?_
      obtain rfl := osi h
      exact ⟨⟨[I 0, I 1], ⟨resOK_tmp (by kernel_rfl), resOK_tmp (by kernel_rfl), trivial⟩, rfl⟩, (NLt.tup _ (nl_cons nll (nl_cons nll nl_nil))), Nat.le_refl _, fun n hn => absurd hn (Nat.not_lt_zero n)⟩
    · replace h := bif_f hc8 h
      refine awp_ifn hc8 (by kernel_rfl) ?_
      obtain ⟨x10, hf9, h⟩ := bind_out h
      rcases bft ((!x10)) with hb11 | hb11
      · replace h := bif_t hb11 h
        refine awp_reg [mv 1 (I p1), rp [fu 68, (.tmp 13, I p1), ci 0, ci 1000000000000] (B x10), rp [(.tmp 14, B x10)] (B ((!x10))), rp [(.tmp 15, (B ((!x10))))] (B true), sk 16 (B true), sk 16 (B true), sk 16 (B true), rp [(.tmp 16, B true), cb true, (.tmp 19, (.lit undef))] (B true), mv 20 (B true), sk 21 (B true), sk 21 (B true), sk 21 (B true), sk 21 (B true), rp [(.tmp 21, B true), cb true, (.tmp 25, (.lit undef))] (B true), mv 26 (B true)] ?_ ?_
        · exact ⟨astep_move rfl, astep_pcall (first := []) (cap := []) (vs := [I p1, I 0, I 1000000000000]) rfl enter68 (town_withinX_ok N p1 0 1000000000000 _ hf9) rfl rfl (nl_cons nll (nl_cons nll (nl_cons nll nl_nil))) nll rfl, astep_not rfl, astep_b hb11 (astep_move rfl), trivial, trivial, trivial, astep_pick rfl rfl, astep_move rfl, trivial, trivial, trivial, trivial, astep_pick rfl rfl, astep_assign rfl, trivial⟩
        refine awp_true (by kernel_rfl) ?_
        refine awp_reg [mc (.int .i64 0), mc (.int .i64 2)] ?_ ?_
        · exact ⟨astep_assign rfl, astep_assign rfl, trivial⟩
        refine awp_ret ?_
        refine blockA_r ?_
        refine thenA_r ?_
        obtain rfl := osi h
        exact ⟨⟨[I 0, I 2], ⟨resOK_tmp (by kernel_rfl), resOK_tmp (by kernel_rfl), trivial⟩, rfl⟩, (NLt.tup _ (nl_cons nll (nl_cons nll nl_nil))), Nat.le_refl _, fun n hn => absurd hn (Nat.not_lt_zero n)⟩
      · replace h := bif_f hb11 h
        obtain ⟨x13, hf12, h⟩ := bind_out h
        rcases bft ((!x13)) with hb14 | hb14
        · replace h := bif_t hb14 h
          refine awp_reg [mv 1 (I p1), rp [fu 68, (.tmp 13, I p1), ci 0, ci 1000000000000] (B x10), rp [(.tmp 14, B x10)] (B ((!x10))), rp [(.tmp 15, (B ((!x10))))] (B false), rp [(.tmp 16, B false), (.tmp 2, I p2)] (I p2), rp [(.tmp 16, B false), fu 68, (.tmp 17, I p2), ci 0, ci 1000000000000] (B x13), rp [(.tmp 16, B false), (.tmp 18, B x13)] (B ((!x13))), rp [(.tmp 16, B false), cb true, (.tmp 19, (B ((!x13))))] (B ((!x13))), rp [(.tmp 20, (B ((!x13))))] (B true), sk 21 (B true), sk 21 (B true), sk 21 (B true), sk 21 (B true), rp [(.tmp 21, B true), cb true, (.tmp 25, (.lit undef))] (B true), mv 26 (B true)] ?_ ?_
          · exact ⟨astep_move rfl, astep_pcall (first := []) (cap := []) (vs := [I p1, I 0, I 1000000000000]) rfl enter68 (town_withinX_ok N p1 0 1000000000000 _ hf9) rfl rfl (nl_cons nll (nl_cons nll (nl_cons nll nl_nil))) nll rfl, astep_not rfl, astep_b hb11 (astep_move rfl), astep_guard (astep_move rfl), astep_guard (astep_pcall (first := []) (cap := []) (vs := [I p2, I 0, I 1000000000000]) rfl enter68 (town_withinX_ok N p2 0 1000000000000 _ hf12) rfl rfl (nl_cons nll (nl_cons nll (nl_cons nll nl_nil))) nll rfl), astep_guard (astep_not rfl), astep_pick rfl rfl, astep_b hb14 (astep_move rfl), trivial, trivial, trivial, trivial, astep_pick rfl rfl, astep_assign rfl, trivial⟩
          refine awp_true (by kernel_rfl) ?_
          refine awp_reg [mc (.int .i64 0), mc (.int .i64 2)] ?_ ?_
          · exact ⟨astep_assign rfl, astep_assign rfl, trivial⟩
          refine awp_ret ?_
          refine blockA_r ?_
          refine thenA_r ?_
          obtain rfl := osi h
          exact ⟨⟨[I 0, I 2], ⟨resOK_tmp (by kernel_rfl), resOK_tmp (by kernel_rfl), trivial⟩, rfl⟩, (NLt.tup _ (nl_cons nll (nl_cons nll nl_nil))), Nat.le_refl _, fun n hn => absurd hn (Nat.not_lt_zero n)⟩
        · replace h := bif_f hb14 h
          refine awp_reg [mv 1 (I p1), rp [fu 68, (.tmp 13, I p1), ci 0, ci 1000000000000] (B x10), rp [(.tmp 14, B x10)] (B ((!x10))), rp [(.tmp 15, (B ((!x10))))] (B false), rp [(.tmp 16, B false), (.tmp 2, I p2)] (I p2), rp [(.tmp 16, B false), fu 68, (.tmp 17, I p2), ci 0, ci 1000000000000] (B x13), rp [(.tmp 16, B false), (.tmp 18, B x13)] (B ((!x13))), rp [(.tmp 16, B false), cb true, (.tmp 19, (B ((!x13))))] (B ((!x13))), rp [(.tmp 20, (B ((!x13))))] (B false), rp [(.tmp 21, B false), (.tmp 1, I p1)] (I p1), rp [(.tmp 21, B false), (.tmp 2, I p2)] (I p2), rp [(.tmp 21, B false), (.tmp 22, I p1), (.tmp 23, I p2)] (I (w64 (p1 + p2))), rp [(.tmp 21, B false), (.tmp 24, (I (w64 (p1 + p2)))), ci 1000000000000] (B ((decide ((w64 (p1 + p2)) > 1000000000000)))), rp [(.tmp 21, B false), cb true, (.tmp 25, (B ((decide ((w64 (p1 + p2)) > 1000000000000)))))] (B ((decide ((w64 (p1 + p2)) > 1000000000000)))), mv 26 (B ((decide ((w64 (p1 + p2)) > 1000000000000))))] ?_ ?_
          · exact ⟨astep_move rfl, astep_pcall (first := []) (cap := []) (vs := [I p1, I 0, I 1000000000000]) rfl enter68 (town_withinX_ok N p1 0 1000000000000 _ hf9) rfl rfl (nl_cons nll (nl_cons nll (nl_cons nll nl_nil))) nll rfl, astep_not rfl, astep_b hb11 (astep_move rfl), astep_guard (astep_move rfl), astep_guard (astep_pcall (first := []) (cap := []) (vs := [I p2, I 0, I 1000000000000]) rfl enter68 (town_withinX_ok N p2 0 1000000000000 _ hf12) rfl rfl (nl_cons nll (nl_cons nll (nl_cons nll nl_nil))) nll rfl), astep_guard (astep_not rfl), astep_pick rfl rfl, astep_b hb14 (astep_move rfl), astep_guard (astep_move rfl), astep_guard (astep_move rfl), astep_guard (astep_bin rfl rfl), astep_guard (astep_bin rfl rfl), astep_pick rfl rfl, astep_assign rfl, trivial⟩
          rcases bft ((decide ((w64 (p1 + p2)) > 1000000000000))) with hc15 | hc15
          · replace h := bif_t hc15 h
            refine awp_ift hc15 (by kernel_rfl) ?_
            refine awp_reg [mc (.int .i64 0), mc (.int .i64 2)] ?_ ?_
            · exact ⟨astep_assign rfl, astep_assign rfl, trivial⟩
            refine awp_ret ?_
            refine blockA_r ?_
            refine thenA_r ?_
            obtain rfl := osi h
            exact ⟨⟨[I 0, I 2], ⟨resOK_tmp (by kernel_rfl), resOK_tmp (by kernel_rfl), trivial⟩, rfl⟩, (NLt.tup _ (nl_cons nll (nl_cons nll nl_nil))), Nat.le_refl _, fun n hn => absurd hn (Nat.not_lt_zero n)⟩
          · replace h := bif_f hc15 h
            refine awp_ifn hc15 (by kernel_rfl) ?_
            refine awp_skip ?_
            refine blockA_n ?_
            refine thenA_n ?_
            exact ⟨(), h, (mor_to (n := 36) [(0, (.dat 2 ((p0 : List GBracket).map c_GBracket))), (1, I p1), (2, I p2)] [] [] hφ0 (pc (.rn (.plain _ (nl_dat nl_GBracket _))) (pc rwl (pc rwl pn))) qn)⟩

def ref10_ChargeX_loop1 (N : Nat) (p0 : (List GBracket)) (k1 : Unit → Option Int) (p1 : Int) : Nat → Int → Int → Int → Option Int
  | 0, _, _, _ => none
  | n8 + 1, y2, y3, y4 =>
    bif (decide (y4 < (p0.length : Int))) then
      joinK (fun _ =>
          (getI p0 y4).bind fun x11 =>
          (some (w64 ((w64 (y2 + (w64 ((w64 (p1 - y3)) * x11.Price)))).tdiv 1000))).bind fun x15 =>
          some x15) fun k10 : Unit → Option Int =>
      (getI p0 y4).bind fun x17 =>
      bif (decide (p1 > x17.Upto)) then
        bif (decide (y4 < (w64 ((p0.length : Int) - 1)))) then
          (some (w64 (y2 + (w64 ((w64 (x17.Upto - y3)) * x17.Price))))).bind fun x23 =>
          ref10_ChargeX_loop1 N p0 k1 p1 n8 x23 x17.Upto (w64 (y4 + 1))
        else
          k10 ()
      else
        k10 ()
    else
      k1 ()
def ref10_ChargeX (N : Nat) (p0 : (List GBracket)) (p1 : Int) : Option Int :=
  joinK (fun _ =>
      some 0) fun k1 : Unit → Option Int =>
  ref10_ChargeX_loop1 N p0 k1 p1 N 0 0 0
set_option maxRecDepth 100000 in
set_option maxHeartbeats 4000000 in
theorem ref10_ChargeX_ok (N : Nat) (p0 : (List GBracket)) (p1 : Int) (r : Int) (h : ref10_ChargeX N p0 p1 = some r) : Spec Try.prog 59 [(.dat 2 (p0.map c_GBracket)), (I p1)] [] (I r) [] := by
  refine spec_of_awp Try.func59 rfl 0 (nle rfl) (fun X φ0 w0 hφ0 => ?_)
  unfold ref10_ChargeX at h
  refine awp_reg [mc (.int .i64 0)] ?_ ?_
  · exact ⟨astep_assign rfl, trivial⟩
  refine awp_reg [mc (.int .i64 0), mc (.int .i64 0)] ?_ ?_
  · exact ⟨astep_assign rfl, astep_assign rfl, trivial⟩
  obtain ⟨k1, hk_k1, h⟩ := joinK_out h
  refine awp_join (τ := Unit) (fun t => k1 t = some r) (fun _ => ⟨mk 60 [], []⟩) (fun t h => ?_) ?_
  · subst hk_k1
    refine awp_reg [mc (.int .i64 0)] ?_ ?_
    · exact ⟨astep_assign rfl, trivial⟩
    refine awp_ret ?_
    obtain rfl := osi h
    exact ⟨⟨[I 0], ⟨resOK_tmp (by kernel_rfl), trivial⟩, rfl⟩, nll, Nat.le_refl _, fun n hn => absurd hn (Nat.not_lt_zero n)⟩
  · skip
    refine awp_reg [mc (.int .i64 0)] ?_ ?_
    · exact ⟨astep_assign rfl, trivial⟩
    refine awp_block ?_
    refine awp_mor (mor_to (n := 60) (l' := [(0, (.dat 2 ((p0 : List GBracket).map c_GBracket))), (1, I p1), (5, I 0), (6, I 0), (7, I 0)]) (own' := []) [(0, (.dat 2 ((p0 : List GBracket).map c_GBracket))), (1, I p1), (5, I 0), (6, I 0), (7, I 0)] [] [] hφ0 (pc (.rn (.plain _ (nl_dat nl_GBracket _))) (pc rwl (pc rwl (pc rwl (pc rwl pn))))) qn) ?_
    refine awp_ind (τ := Int × Int × Int) (fun n t => ref10_ChargeX_loop1 N p0 k1 p1 n t.1 t.2.1 t.2.2 = some r) (fun ⟨y2, y3, y4⟩ => ⟨mk 60 [(0, (.dat 2 ((p0 : List GBracket).map c_GBracket))), (1, I p1), (5, I y2), (6, I y3), (7, I y4)], []⟩) (fun t h => by rw [ref10_ChargeX_loop1] at h; cases h) (fun n8 ih t h => ?_) N (0, 0, 0) h
    obtain ⟨y2, y3, y4⟩ := t
    rw [ref10_ChargeX_loop1] at h
    skip
    refine awp_seq ?_
    refine awp_reg [mv 7 (I y4), mv 0 (.dat 2 ((p0 : List GBracket).map c_GBracket)), rp [(.tmp 9, (.dat 2 ((p0 : List GBracket).map c_GBracket)))] (I ((p0.length : Int))), rp [(.tmp 8, I y4), (.tmp 10, (I ((p0.length : Int))))] (B ((decide (y4 < (p0.length : Int)))))] ?_ ?_
    · exact ⟨astep_move rfl, astep_move rfl, astep_lenm (c := c_GBracket) (l := p0) (astep_len rfl Try.underlying114 rfl), astep_bin rfl rfl, trivial⟩
    rcases bft ((decide (y4 < (p0.length : Int)))) with hc9 | hc9
    · replace h := bif_t hc9 h
      refine awp_ift hc9 (by kernel_rfl) ?_
      refine awp_skip ?_
      refine thenA_n ?_
      refine awp_seq ?_
      refine awp_block ?_
      obtain ⟨k10, hk_k10, h⟩ := joinK_out h
      refine awp_join (τ := Unit) (fun t => k10 t = some r) (fun _ => ⟨mk 60 [(0, (.dat 2 ((p0 : List GBracket).map c_GBracket))), (1, I p1), (5, I y2), (6, I y3), (7, I y4)], []⟩) (fun t h => ?_) ?_
      · subst hk_k10
        obtain ⟨x11, hg12, h⟩ := bind_out h
        obtain ⟨hi13, hj14⟩ := getI_some hg12
        obtain ⟨x15, hl16, h⟩ := bind_out h
        refine awp_reg [mv 5 (I y2), mv 1 (I p1), mv 6 (I y3), rp [(.tmp 49, I p1), (.tmp 50, I y3)] (I (w64 (p1 - y3))), mv 0 (.dat 2 ((p0 : List GBracket).map c_GBracket)), mv 7 (I y4), rp [(.tmp 52, (.dat 2 ((p0 : List GBracket).map c_GBracket))), (.tmp 53, I y4)] (.dptr (c_GBracket (x11)) 0), rp [(.tmp 54, (.dptr (c_GBracket (x11)) 0))] (.dptr (c_GBracket (x11)) 1), rp [(.tmp 55, (.dptr (c_GBracket (x11)) 1))] (I x11.Price), rp [(.tmp 51, (I (w64 (p1 - y3)))), (.tmp 56, I x11.Price)] (I (w64 ((w64 (p1 - y3)) * x11.Price))), rp [(.tmp 48, I y2), (.tmp 57, (I (w64 ((w64 (p1 - y3)) * x11.Price))))] (I (w64 (y2 + (w64 ((w64 (p1 - y3)) * x11.Price))))), rp [(.tmp 58, (I (w64 (y2 + (w64 ((w64 (p1 - y3)) * x11.Price)))))), ci 1000] (I x15), mv 59 (I x15)] ?_ ?_
        · exact ⟨astep_move rfl, astep_move rfl, astep_move rfl, astep_bin rfl rfl, astep_move rfl, astep_move rfl, astep_idxd rfl Try.underlying114 ti166 rfl rfl hi13 (map_get c_GBracket hj14) rfl, astep_faddrd rfl Try.underlying166 rfl rfl ti3 (by decide) rfl, astep_loadd rfl ti3 (by decide) (nle rfl) rfl, astep_bin rfl rfl, astep_bin rfl rfl, astep_i hl16 (astep_quo rfl (by decide)), astep_assign rfl, trivial⟩
        refine awp_ret ?_
        refine blockA_r ?_
        refine thenA_r ?_
        refine thenA_r ?_
        refine blockA_r ?_
        refine thenA_r ?_
        obtain rfl := osi h
        exact ⟨⟨[I x15], ⟨resOK_tmp (by kernel_rfl), trivial⟩, rfl⟩, nll, Nat.le_refl _, fun n hn => absurd hn (Nat.not_lt_zero n)⟩
      · skip
        obtain ⟨x17, hg18, h⟩ := bind_out h
        obtain ⟨hi19, hj20⟩ := getI_some hg18
        rcases bft ((decide (p1 > x17.Upto))) with hb21 | hb21
        · replace h := bif_t hb21 h
          refine awp_reg [mv 1 (I p1), mv 0 (.dat 2 ((p0 : List GBracket).map c_GBracket)), mv 7 (I y4), rp [(.tmp 15, (.dat 2 ((p0 : List GBracket).map c_GBracket))), (.tmp 16, I y4)] (.dptr (c_GBracket (x17)) 0), mv 17 (.dptr (c_GBracket (x17)) 0), rp [(.tmp 18, (.dptr (c_GBracket (x17)) 0))] (I x17.Upto), rp [(.tmp 14, I p1), (.tmp 19, I x17.Upto)] (B ((decide (p1 > x17.Upto)))), rp [(.tmp 20, (B ((decide (p1 > x17.Upto)))))] (B true), rp [(.tmp 21, B true), (.tmp 7, I y4)] (I y4), rp [(.tmp 21, B true), (.tmp 0, (.dat 2 ((p0 : List GBracket).map c_GBracket)))] (.dat 2 ((p0 : List GBracket).map c_GBracket)), rp [(.tmp 21, B true), (.tmp 23, (.dat 2 ((p0 : List GBracket).map c_GBracket)))] (I ((p0.length : Int))), rp [(.tmp 21, B true), (.tmp 24, (I ((p0.length : Int)))), ci 1] (I (w64 ((p0.length : Int) - 1))), rp [(.tmp 21, B true), (.tmp 22, I y4), (.tmp 25, (I (w64 ((p0.length : Int) - 1))))] (B ((decide (y4 < (w64 ((p0.length : Int) - 1)))))), rp [(.tmp 21, B true), (.tmp 26, (B ((decide (y4 < (w64 ((p0.length : Int) - 1))))))), cb false] (B ((decide (y4 < (w64 ((p0.length : Int) - 1))))))] ?_ ?_
          · exact ⟨astep_move rfl, astep_move rfl, astep_move rfl, astep_idxd rfl Try.underlying114 ti166 rfl rfl hi19 (map_get c_GBracket hj20) rfl, astep_faddrd rfl Try.underlying166 rfl rfl ti3 (by decide) rfl, astep_loadd rfl ti3 (by decide) (nle rfl) rfl, astep_bin rfl rfl, astep_b hb21 (astep_move rfl), astep_guard (astep_move rfl), astep_guard (astep_move rfl), astep_guard (astep_lenm (c := c_GBracket) (l := p0) (astep_len rfl Try.underlying114 rfl)), astep_guard (astep_bin rfl rfl), astep_guard (astep_bin rfl rfl), astep_pick rfl rfl, trivial⟩
          rcases bft ((decide (y4 < (w64 ((p0.length : Int) - 1))))) with hc22 | hc22
          · replace h := bif_t hc22 h
            refine awp_ift hc22 (by kernel_rfl) ?_
            obtain ⟨x23, hl24, h⟩ := bind_out h
            refine awp_regd [mv 5 (I y2), mv 0 (.dat 2 ((p0 : List GBracket).map c_GBracket)), mv 7 (I y4), rp [(.tmp 29, (.dat 2 ((p0 : List GBracket).map c_GBracket))), (.tmp 30, I y4)] (.dptr (c_GBracket (x17)) 0), mv 31 (.dptr (c_GBracket (x17)) 0), rp [(.tmp 32, (.dptr (c_GBracket (x17)) 0))] (I x17.Upto), mv 6 (I y3), rp [(.tmp 33, I x17.Upto), (.tmp 34, I y3)] (I (w64 (x17.Upto - y3))), mv 0 (.dat 2 ((p0 : List GBracket).map c_GBracket)), mv 7 (I y4), rp [(.tmp 36, (.dat 2 ((p0 : List GBracket).map c_GBracket))), (.tmp 37, I y4)] (.dptr (c_GBracket (x17)) 0), rp [(.tmp 38, (.dptr (c_GBracket (x17)) 0))] (.dptr (c_GBracket (x17)) 1), rp [(.tmp 39, (.dptr (c_GBracket (x17)) 1))] (I x17.Price), rp [(.tmp 35, (I (w64 (x17.Upto - y3)))), (.tmp 40, I x17.Price)] (I (w64 ((w64 (x17.Upto - y3)) * x17.Price))), rp [(.tmp 28, I y2), (.tmp 41, (I (w64 ((w64 (x17.Upto - y3)) * x17.Price))))] (I (w64 (y2 + (w64 ((w64 (x17.Upto - y3)) * x17.Price))))), rp [(.tmp 42, (I (w64 (y2 + (w64 ((w64 (x17.Upto - y3)) * x17.Price))))))] (I x23)] ?_ ?_
            · exact ⟨astep_move rfl, astep_move rfl, astep_move rfl, astep_idxd rfl Try.underlying114 ti166 rfl rfl hi19 (map_get c_GBracket hj20) rfl, astep_faddrd rfl Try.underlying166 rfl rfl ti3 (by decide) rfl, astep_loadd rfl ti3 (by decide) (nle rfl) rfl, astep_move rfl, astep_bin rfl rfl, astep_move rfl, astep_move rfl, astep_idxd rfl Try.underlying114 ti166 rfl rfl hi19 (map_get c_GBracket hj20) rfl, astep_faddrd rfl Try.underlying166 rfl rfl ti3 (by decide) rfl, astep_loadd rfl ti3 (by decide) (nle rfl) rfl, astep_bin rfl rfl, astep_bin rfl rfl, astep_i hl24 (astep_assign rfl), trivial⟩
            refine awp_reg [mv 0 (.dat 2 ((p0 : List GBracket).map c_GBracket)), mv 7 (I y4), rp [(.tmp 43, (.dat 2 ((p0 : List GBracket).map c_GBracket))), (.tmp 44, I y4)] (.dptr (c_GBracket (x17)) 0), mv 45 (.dptr (c_GBracket (x17)) 0), rp [(.tmp 46, (.dptr (c_GBracket (x17)) 0))] (I x17.Upto), mv 47 (I x17.Upto)] ?_ ?_
            · exact ⟨astep_move rfl, astep_move rfl, astep_idxd rfl Try.underlying114 ti166 rfl rfl hi19 (map_get c_GBracket hj20) rfl, astep_faddrd rfl Try.underlying166 rfl rfl ti3 (by decide) rfl, astep_loadd rfl ti3 (by decide) (nle rfl) rfl, astep_assign rfl, trivial⟩
            refine awp_exit ?_
            refine thenA_x ?_
            refine blockA_e rfl ?_
            refine thenA_n ?_
            refine awp_reg1 [mv 7 (I y4), rp [(.tmp 12, I y4), ci 1] (I (w64 (y4 + 1))), mv 13 (I (w64 (y4 + 1)))] ?_ ?_
            · exact ⟨astep_move rfl, astep_bin rfl rfl, astep_assign rfl, trivial⟩
            refine thenA_n ?_
            exact around_mor (mor_to (n := 60) [(0, (.dat 2 ((p0 : List GBracket).map c_GBracket))), (1, I p1), (5, I x23), (6, I x17.Upto), (7, (I (w64 (y4 + 1))))] [] [] hφ0 (pc (.rn (.plain _ (nl_dat nl_GBracket _))) (pc rwl (pc rwl (pc rwl (pc rwl pn))))) qn) (ih (x23, x17.Upto, w64 (y4 + 1)) h)
          · replace h := bif_f hc22 h
            refine awp_ifn hc22 (by kernel_rfl) ?_
            refine awp_skip ?_
            refine thenA_n ?_
            exact ⟨(), h, (mor_to (n := 60) [(0, (.dat 2 ((p0 : List GBracket).map c_GBracket))), (1, I p1), (5, I y2), (6, I y3), (7, I y4)] [] [] hφ0 (pc (.rn (.plain _ (nl_dat nl_GBracket _))) (pc rwl (pc rwl (pc rwl (pc rwl pn))))) qn)⟩
        · replace h := bif_f hb21 h
          refine awp_reg [mv 1 (I p1), mv 0 (.dat 2 ((p0 : List GBracket).map c_GBracket)), mv 7 (I y4), rp [(.tmp 15, (.dat 2 ((p0 : List GBracket).map c_GBracket))), (.tmp 16, I y4)] (.dptr (c_GBracket (x17)) 0), mv 17 (.dptr (c_GBracket (x17)) 0), rp [(.tmp 18, (.dptr (c_GBracket (x17)) 0))] (I x17.Upto), rp [(.tmp 14, I p1), (.tmp 19, I x17.Upto)] (B ((decide (p1 > x17.Upto)))), rp [(.tmp 20, (B ((decide (p1 > x17.Upto)))))] (B false), sk 21 (B false), sk 21 (B false), sk 21 (B false), sk 21 (B false), sk 21 (B false), rp [(.tmp 21, B false), (.tmp 26, (.lit undef)), cb false] (B false)] ?_ ?_
          · exact ⟨astep_move rfl, astep_move rfl, astep_move rfl, astep_idxd rfl Try.underlying114 ti166 rfl rfl hi19 (map_get c_GBracket hj20) rfl, astep_faddrd rfl Try.underlying166 rfl rfl ti3 (by decide) rfl, astep_loadd rfl ti3 (by decide) (nle rfl) rfl, astep_bin rfl rfl, astep_b hb21 (astep_move rfl), trivial, trivial, trivial, trivial, trivial, astep_pick rfl rfl, trivial⟩
          refine awp_false (by kernel_rfl) ?_
          refine awp_skip ?_
          refine thenA_n ?_
          exact ⟨(), h, (mor_to (n := 60) [(0, (.dat 2 ((p0 : List GBracket).map c_GBracket))), (1, I p1), (5, I y2), (6, I y3), (7, I y4)] [] [] hφ0 (pc (.rn (.plain _ (nl_dat nl_GBracket _))) (pc rwl (pc rwl (pc rwl (pc rwl pn))))) qn)⟩
    · replace h := bif_f hc9 h
      refine awp_ifn hc9 (by kernel_rfl) ?_
      refine awp_exit ?_
      refine thenA_x ?_
      refine thenA_x ?_
      refine blockA_e rfl ?_
      refine thenA_n ?_
      exact ⟨(), h, (mor_to (n := 60) [] [] [] hφ0 pn qn)⟩

end Go.Proofs.Ytgdepcgbjjgnfaa
