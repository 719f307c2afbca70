/-
  Functions of the program: what they compute, as plain functions, and that they do. No conditions.
-/
import Derived.Test.YtenpbiineblcjaaXt
namespace Go.Proofs.Ytenpbiineblcjaa
open Go.RowKit

def ref01_InX (_N : Nat) (p0 : Int) (p1 : Int) (p2 : Int) : Option Bool :=
  bif (decide (p0 ≥ p1)) then
    some (decide (p0 ≤ p2))
  else
    some false
set_option maxRecDepth 100000 in
set_option maxHeartbeats 4000000 in
theorem ref01_InX_ok (N : Nat) (p0 : Int) (p1 : Int) (p2 : Int) (r : Bool) (h : ref01_InX N p0 p1 p2 = some r) : Spec Try.prog 31 [(I p0), (I p1), (I p2)] [] (B r) [] := by
  refine spec_of_awp Try.func31 rfl 0 (Nat.le_of_ble_eq_true rfl) (fun X φ0 w0 hφ0 => ?_)
  unfold ref01_InX at h
  refine awp_reg [⟨[(.const (.bool false), B false)], [], B false, [], false⟩] (by exact ⟨by kernel_rfl, by kernel_rfl⟩) ?_ ?_
  · exact ⟨fun _ => astep_assign rfl, trivial⟩
  rcases Bool.eq_false_or_eq_true ((decide (p0 ≥ p1))) with hb1 | hb1
  · replace h := bif_t hb1 h
    refine awp_reg [⟨[(.tmp 0, I p0)], [], I p0, [], false⟩,
    ⟨[(.tmp 1, I p1)], [], I p1, [], false⟩,
    ⟨[(.tmp 7, I p0), (.tmp 8, I p1)], [], (B ((decide (p0 ≥ p1)))), [], false⟩,
    ⟨[(.tmp 9, (B ((decide (p0 ≥ p1)))))], [], B true, [], false⟩,
    ⟨[(.tmp 10, B true), (.tmp 0, I p0)], [], I p0, [], false⟩,
    ⟨[(.tmp 10, B true), (.tmp 2, I p2)], [], I p2, [], false⟩,
    ⟨[(.tmp 10, B true), (.tmp 11, I p0), (.tmp 12, I p2)], [], (B ((decide (p0 ≤ p2)))), [], false⟩,
    ⟨[(.tmp 10, B true), (.tmp 13, (B ((decide (p0 ≤ p2))))), (.const (.bool false), B false)], [], (B ((decide (p0 ≤ p2)))), [], false⟩,
    ⟨[(.tmp 14, (B ((decide (p0 ≤ p2)))))], [], (B ((decide (p0 ≤ p2)))), [], false⟩] (by exact ⟨by kernel_rfl, by kernel_rfl⟩) ?_ ?_
    · exact ⟨fun _ => astep_move rfl,
    fun _ => astep_move rfl,
    fun _ => astep_bin rfl rfl,
    fun _ => astep_b hb1 (astep_move rfl),
    fun _ => astep_guard (astep_move rfl),
    fun _ => astep_guard (astep_move rfl),
    fun _ => astep_guard (astep_bin rfl rfl),
    fun _ => astep_pick rfl rfl,
    fun _ => astep_assign rfl, trivial⟩
    refine awp_ret ?_
    obtain rfl := Option.some.inj h
    exact ⟨⟨[(B ((decide (p0 ≤ p2))))], ⟨resOK_tmp (by kernel_rfl), trivial⟩, rfl⟩, (NLt.lit _), Nat.le_refl _, fun n hn => absurd hn (Nat.not_lt_zero n)⟩
  · replace h := bif_f hb1 h
    refine awp_reg [⟨[(.tmp 0, I p0)], [], I p0, [], false⟩,
    ⟨[(.tmp 1, I p1)], [], I p1, [], false⟩,
    ⟨[(.tmp 7, I p0), (.tmp 8, I p1)], [], (B ((decide (p0 ≥ p1)))), [], false⟩,
    ⟨[(.tmp 9, (B ((decide (p0 ≥ p1)))))], [], B false, [], false⟩,
    ⟨[(.tmp 10, B false)], [], (.lit undef), [], true⟩,
    ⟨[(.tmp 10, B false)], [], (.lit undef), [], true⟩,
    ⟨[(.tmp 10, B false)], [], (.lit undef), [], true⟩,
    ⟨[(.tmp 10, B false), (.tmp 13, (.lit undef)), (.const (.bool false), B false)], [], B false, [], false⟩,
    ⟨[(.tmp 14, B false)], [], B false, [], false⟩] (by exact ⟨by kernel_rfl, by kernel_rfl⟩) ?_ ?_
    · exact ⟨fun _ => astep_move rfl,
    fun _ => astep_move rfl,
    fun _ => astep_bin rfl rfl,
    fun _ => astep_b hb1 (astep_move rfl),
    fun hs => (Bool.noConfusion hs),
    fun hs => (Bool.noConfusion hs),
    fun hs => (Bool.noConfusion hs),
    fun _ => astep_pick rfl rfl,
    fun _ => astep_assign rfl, trivial⟩
    refine awp_ret ?_
    obtain rfl := Option.some.inj h
    exact ⟨⟨[B false], ⟨resOK_tmp (by kernel_rfl), trivial⟩, rfl⟩, (NLt.lit _), Nat.le_refl _, fun n hn => absurd hn (Nat.not_lt_zero n)⟩

def ref01_RightX_loop1 (N : Nat) (p0 : (List GRow)) (k1 : Unit → Option Bool) : Nat → Int → Option Bool
  | 0, _ => none
  | n5 + 1, y3 =>
    bif (decide (y3 < (p0.length : Int))) then
      (getI p0 y3).bind fun x7 =>
      joinK (fun _ =>
          bif (decide (y3 > 0)) then
            (getI p0 (w64 (y3 - 1))).bind fun x13 =>
            bif (decide (x7.T ≤ x13.T)) then
              some false
            else
              bif (decide (x7.P ≤ x13.P)) then
                some false
              else
                bif (decide (x7.Liquid ≤ x13.Liquid)) then
                  some false
                else
                  bif (decide (x7.Silica < x13.Silica)) then
                    some false
                  else
                    ref01_RightX_loop1 N p0 k1 n5 (w64 (y3 + 1))
          else
            ref01_RightX_loop1 N p0 k1 n5 (w64 (y3 + 1))) fun k11 : Unit → Option Bool =>
      (ref01_InX N x7.T 0 400).bind fun x22 =>
      bif (!x22) then
        some false
      else
        (ref01_InX N x7.P 1 10000).bind fun x25 =>
        bif (!x25) then
          some false
        else
          (ref01_InX N x7.Liquid 0 4000).bind fun x28 =>
          bif (!x28) then
            some false
          else
            (ref01_InX N x7.Silica 0 2000).bind fun x31 =>
            bif (!x31) then
              some false
            else
              bif (decide (x7.Vapour ≤ x7.Liquid)) then
                some false
              else
                bif (decide (x7.Vapour > 4000)) then
                  some false
                else
                  k11 ()
    else
      k1 ()
def ref01_RightX (N : Nat) (p0 : (List GRow)) : Option Bool :=
  joinK (fun _ =>
      bif (decide ((p0.length : Int) ≥ 2)) then
        some (decide ((p0.length : Int) ≤ 20))
      else
        some false) fun k1 : Unit → Option Bool =>
  ref01_RightX_loop1 N p0 k1 N 0
set_option maxRecDepth 100000 in
set_option maxHeartbeats 4000000 in
theorem ref01_RightX_ok (N : Nat) (p0 : (List GRow)) (r : Bool) (h : ref01_RightX N p0 = some r) : Spec Try.prog 21 [(.dat 5 (p0.map c_GRow))] [] (B r) [] := by
  refine spec_of_awp Try.func21 rfl 0 (Nat.le_of_ble_eq_true rfl) (fun X φ0 w0 hφ0 => ?_)
  unfold ref01_RightX at h
  refine awp_reg [⟨[(.const (.bool false), B false)], [], B false, [], false⟩] (by exact ⟨by kernel_rfl, by kernel_rfl⟩) ?_ ?_
  · exact ⟨fun _ => astep_assign rfl, trivial⟩
  obtain ⟨k1, hk_k1, h⟩ := joinK_out h
  refine awp_join (τ := Unit) (fun t => k1 t = some r) (fun _ => ⟨mk 103 [(0, (.dat 5 ((p0 : List GRow).map c_GRow)))], []⟩) (fun t h => ?_) ?_
  · subst hk_k1
    rcases Bool.eq_false_or_eq_true ((decide ((p0.length : Int) ≥ 2))) with hb2 | hb2
    · replace h := bif_t hb2 h
      refine awp_reg [⟨[(.tmp 0, (.dat 5 ((p0 : List GRow).map c_GRow)))], [], (.dat 5 ((p0 : List GRow).map c_GRow)), [], false⟩,
    ⟨[(.tmp 95, (.dat 5 ((p0 : List GRow).map c_GRow)))], [], (I ((p0.length : Int))), [], false⟩,
    ⟨[(.tmp 96, (I ((p0.length : Int)))), (.const (.int .i64 2), I 2)], [], (B ((decide ((p0.length : Int) ≥ 2)))), [], false⟩,
    ⟨[(.tmp 97, (B ((decide ((p0.length : Int) ≥ 2)))))], [], B true, [], false⟩,
    ⟨[(.tmp 98, B true), (.tmp 0, (.dat 5 ((p0 : List GRow).map c_GRow)))], [], (.dat 5 ((p0 : List GRow).map c_GRow)), [], false⟩,
    ⟨[(.tmp 98, B true), (.tmp 99, (.dat 5 ((p0 : List GRow).map c_GRow)))], [], (I ((p0.length : Int))), [], false⟩,
    ⟨[(.tmp 98, B true), (.tmp 100, (I ((p0.length : Int)))), (.const (.int .i64 20), I 20)], [], (B ((decide ((p0.length : Int) ≤ 20)))), [], false⟩,
    ⟨[(.tmp 98, B true), (.tmp 101, (B ((decide ((p0.length : Int) ≤ 20))))), (.const (.bool false), B false)], [], (B ((decide ((p0.length : Int) ≤ 20)))), [], false⟩,
    ⟨[(.tmp 102, (B ((decide ((p0.length : Int) ≤ 20)))))], [], (B ((decide ((p0.length : Int) ≤ 20)))), [], false⟩] (by exact ⟨by kernel_rfl, by kernel_rfl⟩) ?_ ?_
      · exact ⟨fun _ => astep_move rfl,
    fun _ => astep_lenm (c := c_GRow) (l := p0) (astep_len rfl Try.underlying23 rfl),
    fun _ => astep_bin rfl rfl,
    fun _ => astep_b hb2 (astep_move rfl),
    fun _ => astep_guard (astep_move rfl),
    fun _ => astep_guard (astep_lenm (c := c_GRow) (l := p0) (astep_len rfl Try.underlying23 rfl)),
    fun _ => astep_guard (astep_bin rfl rfl),
    fun _ => astep_pick rfl rfl,
    fun _ => astep_assign rfl, trivial⟩
      refine awp_ret ?_
      obtain rfl := Option.some.inj h
      exact ⟨⟨[(B ((decide ((p0.length : Int) ≤ 20))))], ⟨resOK_tmp (by kernel_rfl), trivial⟩, rfl⟩, (NLt.lit _), Nat.le_refl _, fun n hn => absurd hn (Nat.not_lt_zero n)⟩
    · replace h := bif_f hb2 h
      refine awp_reg [⟨[(.tmp 0, (.dat 5 ((p0 : List GRow).map c_GRow)))], [], (.dat 5 ((p0 : List GRow).map c_GRow)), [], false⟩,
    ⟨[(.tmp 95, (.dat 5 ((p0 : List GRow).map c_GRow)))], [], (I ((p0.length : Int))), [], false⟩,
    ⟨[(.tmp 96, (I ((p0.length : Int)))), (.const (.int .i64 2), I 2)], [], (B ((decide ((p0.length : Int) ≥ 2)))), [], false⟩,
    ⟨[(.tmp 97, (B ((decide ((p0.length : Int) ≥ 2)))))], [], B false, [], false⟩,
    ⟨[(.tmp 98, B false)], [], (.lit undef), [], true⟩,
    ⟨[(.tmp 98, B false)], [], (.lit undef), [], true⟩,
    ⟨[(.tmp 98, B false)], [], (.lit undef), [], true⟩,
    ⟨[(.tmp 98, B false), (.tmp 101, (.lit undef)), (.const (.bool false), B false)], [], B false, [], false⟩,
    ⟨[(.tmp 102, B false)], [], B false, [], false⟩] (by exact ⟨by kernel_rfl, by kernel_rfl⟩) ?_ ?_
      · exact ⟨fun _ => astep_move rfl,
    fun _ => astep_lenm (c := c_GRow) (l := p0) (astep_len rfl Try.underlying23 rfl),
    fun _ => astep_bin rfl rfl,
    fun _ => astep_b hb2 (astep_move rfl),
    fun hs => (Bool.noConfusion hs),
    fun hs => (Bool.noConfusion hs),
    fun hs => (Bool.noConfusion hs),
    fun _ => astep_pick rfl rfl,
    fun _ => astep_assign rfl, trivial⟩
      refine awp_ret ?_
      obtain rfl := Option.some.inj h
      exact ⟨⟨[B false], ⟨resOK_tmp (by kernel_rfl), trivial⟩, rfl⟩, (NLt.lit _), Nat.le_refl _, fun n hn => absurd hn (Nat.not_lt_zero n)⟩
  · skip
    refine awp_reg [⟨[(.const (.int .i64 0), I 0)], [], I 0, [], false⟩] (by exact ⟨by kernel_rfl, by kernel_rfl⟩) ?_ ?_
    · exact ⟨fun _ => astep_assign rfl, trivial⟩
    refine awp_block ?_
    refine awp_mor (mor_to (n := 103) (l' := [(0, (.dat 5 ((p0 : List GRow).map c_GRow))), (3, I 0)]) (own' := []) [(0, (.dat 5 ((p0 : List GRow).map c_GRow))), (3, I 0)] [] [] hφ0 (by kernel_rfl) (by kernel_rfl) (by kernel_rfl) ⟨rfl, .rn (.plain _ (nl_dat nl_GRow _)), rfl, .rn (.plain _ (NLt.lit _)), trivial⟩ trivial) ?_
    refine awp_ind (τ := Int) (fun n t => ref01_RightX_loop1 N p0 k1 n t = some r) (fun y3 => ⟨mk 103 [(0, (.dat 5 ((p0 : List GRow).map c_GRow))), (3, I y3)], []⟩) (fun t h => by rw [ref01_RightX_loop1] at h; cases h) (fun n5 ih y3 h => ?_) N (0) h
    rw [ref01_RightX_loop1] at h
    skip
    refine awp_seq ?_
    refine awp_reg [⟨[(.tmp 3, I y3)], [], I y3, [], false⟩,
    ⟨[(.tmp 0, (.dat 5 ((p0 : List GRow).map c_GRow)))], [], (.dat 5 ((p0 : List GRow).map c_GRow)), [], false⟩,
    ⟨[(.tmp 6, (.dat 5 ((p0 : List GRow).map c_GRow)))], [], (I ((p0.length : Int))), [], false⟩,
    ⟨[(.tmp 5, I y3), (.tmp 7, (I ((p0.length : Int))))], [], (B ((decide (y3 < (p0.length : Int))))), [], false⟩] (by exact ⟨by kernel_rfl, by kernel_rfl⟩) ?_ ?_
    · exact ⟨fun _ => astep_move rfl,
    fun _ => astep_move rfl,
    fun _ => astep_lenm (c := c_GRow) (l := p0) (astep_len rfl Try.underlying23 rfl),
    fun _ => astep_bin rfl rfl, trivial⟩
    rcases Bool.eq_false_or_eq_true ((decide (y3 < (p0.length : Int)))) with hc6 | hc6
    · replace h := bif_t hc6 h
      refine awp_ift hc6 (by kernel_rfl) ?_
      refine awp_skip ?_
      refine thenA_n ?_
      refine awp_seq ?_
      refine awp_block ?_
      obtain ⟨x7, hg8, h⟩ := bind_out h
      obtain ⟨hi9, hj10⟩ := getI_some hg8
      refine awp_reg [⟨[(.tmp 0, (.dat 5 ((p0 : List GRow).map c_GRow)))], [], (.dat 5 ((p0 : List GRow).map c_GRow)), [], false⟩,
    ⟨[(.tmp 3, I y3)], [], I y3, [], false⟩,
    ⟨[(.tmp 11, (.dat 5 ((p0 : List GRow).map c_GRow))), (.tmp 12, I y3)], [], (.dptr (c_GRow (x7)) 0), [], false⟩,
    ⟨[(.tmp 13, (.dptr (c_GRow (x7)) 0))], [], (.agg [I x7.T, I x7.P, I x7.Liquid, I x7.Vapour, I x7.Silica]), [], false⟩,
    ⟨[], [(0, .unused)], .ref 0 5 0 0, [(0, .own 5 [[I 0, I 0, I 0, I 0, I 0]])], false⟩,
    ⟨[(.tmp 4, .ref 0 5 0 0), (.tmp 14, (.agg [I x7.T, I x7.P, I x7.Liquid, I x7.Vapour, I x7.Silica]))], [(0, .own 5 [[I 0, I 0, I 0, I 0, I 0]])], .any, [(0, .own 5 [[I x7.T, I x7.P, I x7.Liquid, I x7.Vapour, I x7.Silica]])], false⟩] (by exact ⟨by kernel_rfl, by kernel_rfl⟩) ?_ ?_
      · exact ⟨fun _ => astep_move rfl,
    fun _ => astep_move rfl,
    fun _ => astep_idxd rfl Try.underlying23 ti49 rfl rfl hi9 (map_get c_GRow hj10) rfl,
    fun _ => astep_loadd rfl ti49 (by decide) (Nat.le_of_ble_eq_true rfl) rfl,
    fun _ => astep_alloc rfl tz49 rfl,
    fun _ => astep_store rfl ti49 (by rfl) rfl (Nat.le_of_ble_eq_true rfl) rfl, trivial⟩
      obtain ⟨k11, hk_k11, h⟩ := joinK_out h
      refine awp_join (τ := Unit) (fun t => k11 t = some r) (fun _ => ⟨mk 103 [(0, (.dat 5 ((p0 : List GRow).map c_GRow))), (3, I y3), (4, .ref 0 5 0 0)], [(.own 5 [[I x7.T, I x7.P, I x7.Liquid, I x7.Vapour, I x7.Silica]])]⟩) (fun t h => ?_) ?_
      · subst hk_k11
        rcases Bool.eq_false_or_eq_true ((decide (y3 > 0))) with hb12 | hb12
        · replace h := bif_t hb12 h
          obtain ⟨x13, hg14, h⟩ := bind_out h
          obtain ⟨hi15, hj16⟩ := getI_some hg14
          rcases Bool.eq_false_or_eq_true ((decide (x7.T ≤ x13.T))) with hb17 | hb17
          · replace h := bif_t hb17 h
            refine awp_regd [⟨[(.tmp 3, I y3)], [], I y3, [], false⟩,
    ⟨[(.tmp 49, I y3), (.const (.int .i64 0), I 0)], [], (B ((decide (y3 > 0)))), [], false⟩,
    ⟨[(.tmp 50, (B ((decide (y3 > 0)))))], [], B true, [], false⟩,
    ⟨[(.tmp 51, B true), (.tmp 4, .ref 0 5 0 0)], [(0, .own 5 [[I x7.T, I x7.P, I x7.Liquid, I x7.Vapour, I x7.Silica]])], .ref 0 5 0 0, [], false⟩,
    ⟨[(.tmp 51, B true), (.tmp 52, .ref 0 5 0 0)], [(0, .own 5 [[I x7.T, I x7.P, I x7.Liquid, I x7.Vapour, I x7.Silica]])], I x7.T, [], false⟩,
    ⟨[(.tmp 51, B true), (.tmp 0, (.dat 5 ((p0 : List GRow).map c_GRow)))], [], (.dat 5 ((p0 : List GRow).map c_GRow)), [], false⟩,
    ⟨[(.tmp 51, B true), (.tmp 3, I y3)], [], I y3, [], false⟩,
    ⟨[(.tmp 51, B true), (.tmp 55, I y3), (.const (.int .i64 1), I 1)], [], (I (w64 (y3 - 1))), [], false⟩,
    ⟨[(.tmp 51, B true), (.tmp 54, (.dat 5 ((p0 : List GRow).map c_GRow))), (.tmp 56, (I (w64 (y3 - 1))))], [], (.dptr (c_GRow (x13)) 0), [], false⟩,
    ⟨[(.tmp 51, B true), (.tmp 57, (.dptr (c_GRow (x13)) 0))], [], (.dptr (c_GRow (x13)) 0), [], false⟩,
    ⟨[(.tmp 51, B true), (.tmp 58, (.dptr (c_GRow (x13)) 0))], [], I x13.T, [], false⟩,
    ⟨[(.tmp 51, B true), (.tmp 53, I x7.T), (.tmp 59, I x13.T)], [], (B ((decide (x7.T ≤ x13.T)))), [], false⟩,
    ⟨[(.tmp 51, B true), (.tmp 60, (B ((decide (x7.T ≤ x13.T)))))], [], B true, [], false⟩,
    ⟨[(.tmp 61, B true)], [], (.lit undef), [], true⟩,
    ⟨[(.tmp 61, B true)], [], (.lit undef), [], true⟩,
    ⟨[(.tmp 61, B true)], [], (.lit undef), [], true⟩,
    ⟨[(.tmp 61, B true)], [], (.lit undef), [], true⟩,
    ⟨[(.tmp 61, B true)], [], (.lit undef), [], true⟩,
    ⟨[(.tmp 61, B true)], [], (.lit undef), [], true⟩,
    ⟨[(.tmp 61, B true)], [], (.lit undef), [], true⟩,
    ⟨[(.tmp 61, B true)], [], (.lit undef), [], true⟩,
    ⟨[(.tmp 61, B true)], [], (.lit undef), [], true⟩,
    ⟨[(.tmp 51, B true), (.tmp 61, B true), (.const (.bool true), B true), (.tmp 70, (.lit undef))], [], B true, [], false⟩,
    ⟨[(.tmp 51, B true), (.tmp 71, B true)], [], B true, [], false⟩,
    ⟨[(.tmp 72, B true)], [], (.lit undef), [], true⟩,
    ⟨[(.tmp 72, B true)], [], (.lit undef), [], true⟩,
    ⟨[(.tmp 72, B true)], [], (.lit undef), [], true⟩,
    ⟨[(.tmp 72, B true)], [], (.lit undef), [], true⟩,
    ⟨[(.tmp 72, B true)], [], (.lit undef), [], true⟩,
    ⟨[(.tmp 72, B true)], [], (.lit undef), [], true⟩,
    ⟨[(.tmp 72, B true)], [], (.lit undef), [], true⟩,
    ⟨[(.tmp 72, B true)], [], (.lit undef), [], true⟩,
    ⟨[(.tmp 72, B true)], [], (.lit undef), [], true⟩,
    ⟨[(.tmp 51, B true), (.tmp 72, B true), (.const (.bool true), B true), (.tmp 81, (.lit undef))], [], B true, [], false⟩,
    ⟨[(.tmp 51, B true), (.tmp 82, B true)], [], B true, [], false⟩,
    ⟨[(.tmp 83, B true)], [], (.lit undef), [], true⟩,
    ⟨[(.tmp 83, B true)], [], (.lit undef), [], true⟩,
    ⟨[(.tmp 83, B true)], [], (.lit undef), [], true⟩,
    ⟨[(.tmp 83, B true)], [], (.lit undef), [], true⟩,
    ⟨[(.tmp 83, B true)], [], (.lit undef), [], true⟩,
    ⟨[(.tmp 83, B true)], [], (.lit undef), [], true⟩,
    ⟨[(.tmp 83, B true)], [], (.lit undef), [], true⟩,
    ⟨[(.tmp 83, B true)], [], (.lit undef), [], true⟩,
    ⟨[(.tmp 83, B true)], [], (.lit undef), [], true⟩,
    ⟨[(.tmp 51, B true), (.tmp 83, B true), (.const (.bool true), B true), (.tmp 92, (.lit undef))], [], B true, [], false⟩,
    ⟨[(.tmp 51, B true), (.tmp 93, B true), (.const (.bool false), B false)], [], B true, [], false⟩] (by kernel_rfl) (by exact ⟨by kernel_rfl, by kernel_rfl⟩) (by kernel_rfl) ?_ ?_
            · exact ⟨fun _ => astep_move rfl,
    fun _ => astep_bin rfl rfl,
    fun _ => astep_b hb12 (astep_move rfl),
    fun _ => astep_guard (astep_faddr rfl Try.underlying49 rfl rfl ti3 (by decide) rfl),
    fun _ => astep_guard (astep_load rfl ti3 (by decide) rfl (Nat.le_of_ble_eq_true rfl) rfl),
    fun _ => astep_guard (astep_move rfl),
    fun _ => astep_guard (astep_move rfl),
    fun _ => astep_guard (astep_bin rfl rfl),
    fun _ => astep_guard (astep_idxd rfl Try.underlying23 ti49 rfl rfl hi15 (map_get c_GRow hj16) rfl),
    fun _ => astep_guard (astep_faddrd rfl Try.underlying49 rfl rfl ti3 (by decide) rfl),
    fun _ => astep_guard (astep_loadd rfl ti3 (by decide) (Nat.le_of_ble_eq_true rfl) rfl),
    fun _ => astep_guard (astep_bin rfl rfl),
    fun _ => astep_b hb17 (astep_guard (astep_move rfl)),
    fun hs => (Bool.noConfusion hs),
    fun hs => (Bool.noConfusion hs),
    fun hs => (Bool.noConfusion hs),
    fun hs => (Bool.noConfusion hs),
    fun hs => (Bool.noConfusion hs),
    fun hs => (Bool.noConfusion hs),
    fun hs => (Bool.noConfusion hs),
    fun hs => (Bool.noConfusion hs),
    fun hs => (Bool.noConfusion hs),
    fun _ => astep_guard (astep_pick rfl rfl),
    fun _ => astep_guard (astep_move rfl),
    fun hs => (Bool.noConfusion hs),
    fun hs => (Bool.noConfusion hs),
    fun hs => (Bool.noConfusion hs),
    fun hs => (Bool.noConfusion hs),
    fun hs => (Bool.noConfusion hs),
    fun hs => (Bool.noConfusion hs),
    fun hs => (Bool.noConfusion hs),
    fun hs => (Bool.noConfusion hs),
    fun hs => (Bool.noConfusion hs),
    fun _ => astep_guard (astep_pick rfl rfl),
    fun _ => astep_guard (astep_move rfl),
    fun hs => (Bool.noConfusion hs),
    fun hs => (Bool.noConfusion hs),
    fun hs => (Bool.noConfusion hs),
    fun hs => (Bool.noConfusion hs),
    fun hs => (Bool.noConfusion hs),
    fun hs => (Bool.noConfusion hs),
    fun hs => (Bool.noConfusion hs),
    fun hs => (Bool.noConfusion hs),
    fun hs => (Bool.noConfusion hs),
    fun _ => astep_guard (astep_pick rfl rfl),
    fun _ => astep_pick rfl rfl, trivial⟩
            refine awp_true (by kernel_rfl) ?_
            refine awp_reg [⟨[(.const (.bool false), B false)], [], B false, [], false⟩] (by exact ⟨by kernel_rfl, by kernel_rfl⟩) ?_ ?_
            · exact ⟨fun _ => astep_assign rfl, trivial⟩
            refine awp_ret ?_
            refine blockA_r ?_
            refine thenA_r ?_
            refine thenA_r ?_
            refine blockA_r ?_
            refine thenA_r ?_
            obtain rfl := Option.some.inj h
            exact ⟨⟨[B false], ⟨resOK_tmp (by kernel_rfl), trivial⟩, rfl⟩, (NLt.lit _), Nat.le_refl _, fun n hn => absurd hn (Nat.not_lt_zero n)⟩
          · replace h := bif_f hb17 h
            rcases Bool.eq_false_or_eq_true ((decide (x7.P ≤ x13.P))) with hb18 | hb18
            · replace h := bif_t hb18 h
              refine awp_regd [⟨[(.tmp 3, I y3)], [], I y3, [], false⟩,
    ⟨[(.tmp 49, I y3), (.const (.int .i64 0), I 0)], [], (B ((decide (y3 > 0)))), [], false⟩,
    ⟨[(.tmp 50, (B ((decide (y3 > 0)))))], [], B true, [], false⟩,
    ⟨[(.tmp 51, B true), (.tmp 4, .ref 0 5 0 0)], [(0, .own 5 [[I x7.T, I x7.P, I x7.Liquid, I x7.Vapour, I x7.Silica]])], .ref 0 5 0 0, [], false⟩,
    ⟨[(.tmp 51, B true), (.tmp 52, .ref 0 5 0 0)], [(0, .own 5 [[I x7.T, I x7.P, I x7.Liquid, I x7.Vapour, I x7.Silica]])], I x7.T, [], false⟩,
    ⟨[(.tmp 51, B true), (.tmp 0, (.dat 5 ((p0 : List GRow).map c_GRow)))], [], (.dat 5 ((p0 : List GRow).map c_GRow)), [], false⟩,
    ⟨[(.tmp 51, B true), (.tmp 3, I y3)], [], I y3, [], false⟩,
    ⟨[(.tmp 51, B true), (.tmp 55, I y3), (.const (.int .i64 1), I 1)], [], (I (w64 (y3 - 1))), [], false⟩,
    ⟨[(.tmp 51, B true), (.tmp 54, (.dat 5 ((p0 : List GRow).map c_GRow))), (.tmp 56, (I (w64 (y3 - 1))))], [], (.dptr (c_GRow (x13)) 0), [], false⟩,
    ⟨[(.tmp 51, B true), (.tmp 57, (.dptr (c_GRow (x13)) 0))], [], (.dptr (c_GRow (x13)) 0), [], false⟩,
    ⟨[(.tmp 51, B true), (.tmp 58, (.dptr (c_GRow (x13)) 0))], [], I x13.T, [], false⟩,
    ⟨[(.tmp 51, B true), (.tmp 53, I x7.T), (.tmp 59, I x13.T)], [], (B ((decide (x7.T ≤ x13.T)))), [], false⟩,
    ⟨[(.tmp 51, B true), (.tmp 60, (B ((decide (x7.T ≤ x13.T)))))], [], B false, [], false⟩,
    ⟨[(.tmp 61, B false), (.tmp 4, .ref 0 5 0 0)], [(0, .own 5 [[I x7.T, I x7.P, I x7.Liquid, I x7.Vapour, I x7.Silica]])], .ref 0 5 0 1, [], false⟩,
    ⟨[(.tmp 61, B false), (.tmp 62, .ref 0 5 0 1)], [(0, .own 5 [[I x7.T, I x7.P, I x7.Liquid, I x7.Vapour, I x7.Silica]])], I x7.P, [], false⟩,
    ⟨[(.tmp 61, B false), (.tmp 0, (.dat 5 ((p0 : List GRow).map c_GRow)))], [], (.dat 5 ((p0 : List GRow).map c_GRow)), [], false⟩,
    ⟨[(.tmp 61, B false), (.tmp 3, I y3)], [], I y3, [], false⟩,
    ⟨[(.tmp 61, B false), (.tmp 65, I y3), (.const (.int .i64 1), I 1)], [], (I (w64 (y3 - 1))), [], false⟩,
    ⟨[(.tmp 61, B false), (.tmp 64, (.dat 5 ((p0 : List GRow).map c_GRow))), (.tmp 66, (I (w64 (y3 - 1))))], [], (.dptr (c_GRow (x13)) 0), [], false⟩,
    ⟨[(.tmp 61, B false), (.tmp 67, (.dptr (c_GRow (x13)) 0))], [], (.dptr (c_GRow (x13)) 1), [], false⟩,
    ⟨[(.tmp 61, B false), (.tmp 68, (.dptr (c_GRow (x13)) 1))], [], I x13.P, [], false⟩,
    ⟨[(.tmp 61, B false), (.tmp 63, I x7.P), (.tmp 69, I x13.P)], [], (B ((decide (x7.P ≤ x13.P)))), [], false⟩,
    ⟨[(.tmp 51, B true), (.tmp 61, B false), (.const (.bool true), B true), (.tmp 70, (B ((decide (x7.P ≤ x13.P)))))], [], (B ((decide (x7.P ≤ x13.P)))), [], false⟩,
    ⟨[(.tmp 51, B true), (.tmp 71, (B ((decide (x7.P ≤ x13.P)))))], [], B true, [], false⟩,
    ⟨[(.tmp 72, B true)], [], (.lit undef), [], true⟩,
    ⟨[(.tmp 72, B true)], [], (.lit undef), [], true⟩,
    ⟨[(.tmp 72, B true)], [], (.lit undef), [], true⟩,
    ⟨[(.tmp 72, B true)], [], (.lit undef), [], true⟩,
    ⟨[(.tmp 72, B true)], [], (.lit undef), [], true⟩,
    ⟨[(.tmp 72, B true)], [], (.lit undef), [], true⟩,
    ⟨[(.tmp 72, B true)], [], (.lit undef), [], true⟩,
    ⟨[(.tmp 72, B true)], [], (.lit undef), [], true⟩,
    ⟨[(.tmp 72, B true)], [], (.lit undef), [], true⟩,
    ⟨[(.tmp 51, B true), (.tmp 72, B true), (.const (.bool true), B true), (.tmp 81, (.lit undef))], [], B true, [], false⟩,
    ⟨[(.tmp 51, B true), (.tmp 82, B true)], [], B true, [], false⟩,
    ⟨[(.tmp 83, B true)], [], (.lit undef), [], true⟩,
    ⟨[(.tmp 83, B true)], [], (.lit undef), [], true⟩,
    ⟨[(.tmp 83, B true)], [], (.lit undef), [], true⟩,
    ⟨[(.tmp 83, B true)], [], (.lit undef), [], true⟩,
    ⟨[(.tmp 83, B true)], [], (.lit undef), [], true⟩,
    ⟨[(.tmp 83, B true)], [], (.lit undef), [], true⟩,
    ⟨[(.tmp 83, B true)], [], (.lit undef), [], true⟩,
    ⟨[(.tmp 83, B true)], [], (.lit undef), [], true⟩,
    ⟨[(.tmp 83, B true)], [], (.lit undef), [], true⟩,
    ⟨[(.tmp 51, B true), (.tmp 83, B true), (.const (.bool true), B true), (.tmp 92, (.lit undef))], [], B true, [], false⟩,
    ⟨[(.tmp 51, B true), (.tmp 93, B true), (.const (.bool false), B false)], [], B true, [], false⟩] (by kernel_rfl) (by exact ⟨by kernel_rfl, by kernel_rfl⟩) (by kernel_rfl) ?_ ?_
              · exact ⟨fun _ => astep_move rfl,
    fun _ => astep_bin rfl rfl,
    fun _ => astep_b hb12 (astep_move rfl),
    fun _ => astep_guard (astep_faddr rfl Try.underlying49 rfl rfl ti3 (by decide) rfl),
    fun _ => astep_guard (astep_load rfl ti3 (by decide) rfl (Nat.le_of_ble_eq_true rfl) rfl),
    fun _ => astep_guard (astep_move rfl),
    fun _ => astep_guard (astep_move rfl),
    fun _ => astep_guard (astep_bin rfl rfl),
    fun _ => astep_guard (astep_idxd rfl Try.underlying23 ti49 rfl rfl hi15 (map_get c_GRow hj16) rfl),
    fun _ => astep_guard (astep_faddrd rfl Try.underlying49 rfl rfl ti3 (by decide) rfl),
    fun _ => astep_guard (astep_loadd rfl ti3 (by decide) (Nat.le_of_ble_eq_true rfl) rfl),
    fun _ => astep_guard (astep_bin rfl rfl),
    fun _ => astep_b hb17 (astep_guard (astep_move rfl)),
    fun _ => astep_guard (astep_faddr rfl Try.underlying49 rfl rfl ti3 (by decide) rfl),
    fun _ => astep_guard (astep_load rfl ti3 (by decide) rfl (Nat.le_of_ble_eq_true rfl) rfl),
    fun _ => astep_guard (astep_move rfl),
    fun _ => astep_guard (astep_move rfl),
    fun _ => astep_guard (astep_bin rfl rfl),
    fun _ => astep_guard (astep_idxd rfl Try.underlying23 ti49 rfl rfl hi15 (map_get c_GRow hj16) rfl),
    fun _ => astep_guard (astep_faddrd rfl Try.underlying49 rfl rfl ti3 (by decide) rfl),
    fun _ => astep_guard (astep_loadd rfl ti3 (by decide) (Nat.le_of_ble_eq_true rfl) rfl),
    fun _ => astep_guard (astep_bin rfl rfl),
    fun _ => astep_guard (astep_pick rfl rfl),
    fun _ => astep_b hb18 (astep_guard (astep_move rfl)),
    fun hs => (Bool.noConfusion hs),
    fun hs => (Bool.noConfusion hs),
    fun hs => (Bool.noConfusion hs),
    fun hs => (Bool.noConfusion hs),
    fun hs => (Bool.noConfusion hs),
    fun hs => (Bool.noConfusion hs),
    fun hs => (Bool.noConfusion hs),
    fun hs => (Bool.noConfusion hs),
    fun hs => (Bool.noConfusion hs),
    fun _ => astep_guard (astep_pick rfl rfl),
    fun _ => astep_guard (astep_move rfl),
    fun hs => (Bool.noConfusion hs),
    fun hs => (Bool.noConfusion hs),
    fun hs => (Bool.noConfusion hs),
    fun hs => (Bool.noConfusion hs),
    fun hs => (Bool.noConfusion hs),
    fun hs => (Bool.noConfusion hs),
    fun hs => (Bool.noConfusion hs),
    fun hs => (Bool.noConfusion hs),
    fun hs => (Bool.noConfusion hs),
    fun _ => astep_guard (astep_pick rfl rfl),
    fun _ => astep_pick rfl rfl, trivial⟩
              refine awp_true (by kernel_rfl) ?_
              refine awp_reg [⟨[(.const (.bool false), B false)], [], B false, [], false⟩] (by exact ⟨by kernel_rfl, by kernel_rfl⟩) ?_ ?_
              · exact ⟨fun _ => astep_assign rfl, trivial⟩
              refine awp_ret ?_
              refine blockA_r ?_
              refine thenA_r ?_
              refine thenA_r ?_
              refine blockA_r ?_
              refine thenA_r ?_
              obtain rfl := Option.some.inj h
              exact ⟨⟨[B false], ⟨resOK_tmp (by kernel_rfl), trivial⟩, rfl⟩, (NLt.lit _), Nat.le_refl _, fun n hn => absurd hn (Nat.not_lt_zero n)⟩
            · replace h := bif_f hb18 h
              rcases Bool.eq_false_or_eq_true ((decide (x7.Liquid ≤ x13.Liquid))) with hb19 | hb19
              · replace h := bif_t hb19 h
                refine awp_regd [⟨[(.tmp 3, I y3)], [], I y3, [], false⟩,
    ⟨[(.tmp 49, I y3), (.const (.int .i64 0), I 0)], [], (B ((decide (y3 > 0)))), [], false⟩,
    ⟨[(.tmp 50, (B ((decide (y3 > 0)))))], [], B true, [], false⟩,
    ⟨[(.tmp 51, B true), (.tmp 4, .ref 0 5 0 0)], [(0, .own 5 [[I x7.T, I x7.P, I x7.Liquid, I x7.Vapour, I x7.Silica]])], .ref 0 5 0 0, [], false⟩,
    ⟨[(.tmp 51, B true), (.tmp 52, .ref 0 5 0 0)], [(0, .own 5 [[I x7.T, I x7.P, I x7.Liquid, I x7.Vapour, I x7.Silica]])], I x7.T, [], false⟩,
    ⟨[(.tmp 51, B true), (.tmp 0, (.dat 5 ((p0 : List GRow).map c_GRow)))], [], (.dat 5 ((p0 : List GRow).map c_GRow)), [], false⟩,
    ⟨[(.tmp 51, B true), (.tmp 3, I y3)], [], I y3, [], false⟩,
    ⟨[(.tmp 51, B true), (.tmp 55, I y3), (.const (.int .i64 1), I 1)], [], (I (w64 (y3 - 1))), [], false⟩,
    ⟨[(.tmp 51, B true), (.tmp 54, (.dat 5 ((p0 : List GRow).map c_GRow))), (.tmp 56, (I (w64 (y3 - 1))))], [], (.dptr (c_GRow (x13)) 0), [], false⟩,
    ⟨[(.tmp 51, B true), (.tmp 57, (.dptr (c_GRow (x13)) 0))], [], (.dptr (c_GRow (x13)) 0), [], false⟩,
    ⟨[(.tmp 51, B true), (.tmp 58, (.dptr (c_GRow (x13)) 0))], [], I x13.T, [], false⟩,
    ⟨[(.tmp 51, B true), (.tmp 53, I x7.T), (.tmp 59, I x13.T)], [], (B ((decide (x7.T ≤ x13.T)))), [], false⟩,
    ⟨[(.tmp 51, B true), (.tmp 60, (B ((decide (x7.T ≤ x13.T)))))], [], B false, [], false⟩,
    ⟨[(.tmp 61, B false), (.tmp 4, .ref 0 5 0 0)], [(0, .own 5 [[I x7.T, I x7.P, I x7.Liquid, I x7.Vapour, I x7.Silica]])], .ref 0 5 0 1, [], false⟩,
    ⟨[(.tmp 61, B false), (.tmp 62, .ref 0 5 0 1)], [(0, .own 5 [[I x7.T, I x7.P, I x7.Liquid, I x7.Vapour, I x7.Silica]])], I x7.P, [], false⟩,
    ⟨[(.tmp 61, B false), (.tmp 0, (.dat 5 ((p0 : List GRow).map c_GRow)))], [], (.dat 5 ((p0 : List GRow).map c_GRow)), [], false⟩,
    ⟨[(.tmp 61, B false), (.tmp 3, I y3)], [], I y3, [], false⟩,
    ⟨[(.tmp 61, B false), (.tmp 65, I y3), (.const (.int .i64 1), I 1)], [], (I (w64 (y3 - 1))), [], false⟩,
    ⟨[(.tmp 61, B false), (.tmp 64, (.dat 5 ((p0 : List GRow).map c_GRow))), (.tmp 66, (I (w64 (y3 - 1))))], [], (.dptr (c_GRow (x13)) 0), [], false⟩,
    ⟨[(.tmp 61, B false), (.tmp 67, (.dptr (c_GRow (x13)) 0))], [], (.dptr (c_GRow (x13)) 1), [], false⟩,
    ⟨[(.tmp 61, B false), (.tmp 68, (.dptr (c_GRow (x13)) 1))], [], I x13.P, [], false⟩,
    ⟨[(.tmp 61, B false), (.tmp 63, I x7.P), (.tmp 69, I x13.P)], [], (B ((decide (x7.P ≤ x13.P)))), [], false⟩,
    ⟨[(.tmp 51, B true), (.tmp 61, B false), (.const (.bool true), B true), (.tmp 70, (B ((decide (x7.P ≤ x13.P)))))], [], (B ((decide (x7.P ≤ x13.P)))), [], false⟩,
    ⟨[(.tmp 51, B true), (.tmp 71, (B ((decide (x7.P ≤ x13.P)))))], [], B false, [], false⟩,
    ⟨[(.tmp 72, B false), (.tmp 4, .ref 0 5 0 0)], [(0, .own 5 [[I x7.T, I x7.P, I x7.Liquid, I x7.Vapour, I x7.Silica]])], .ref 0 5 0 2, [], false⟩,
    ⟨[(.tmp 72, B false), (.tmp 73, .ref 0 5 0 2)], [(0, .own 5 [[I x7.T, I x7.P, I x7.Liquid, I x7.Vapour, I x7.Silica]])], I x7.Liquid, [], false⟩,
    ⟨[(.tmp 72, B false), (.tmp 0, (.dat 5 ((p0 : List GRow).map c_GRow)))], [], (.dat 5 ((p0 : List GRow).map c_GRow)), [], false⟩,
    ⟨[(.tmp 72, B false), (.tmp 3, I y3)], [], I y3, [], false⟩,
    ⟨[(.tmp 72, B false), (.tmp 76, I y3), (.const (.int .i64 1), I 1)], [], (I (w64 (y3 - 1))), [], false⟩,
    ⟨[(.tmp 72, B false), (.tmp 75, (.dat 5 ((p0 : List GRow).map c_GRow))), (.tmp 77, (I (w64 (y3 - 1))))], [], (.dptr (c_GRow (x13)) 0), [], false⟩,
    ⟨[(.tmp 72, B false), (.tmp 78, (.dptr (c_GRow (x13)) 0))], [], (.dptr (c_GRow (x13)) 2), [], false⟩,
    ⟨[(.tmp 72, B false), (.tmp 79, (.dptr (c_GRow (x13)) 2))], [], I x13.Liquid, [], false⟩,
    ⟨[(.tmp 72, B false), (.tmp 74, I x7.Liquid), (.tmp 80, I x13.Liquid)], [], (B ((decide (x7.Liquid ≤ x13.Liquid)))), [], false⟩,
    ⟨[(.tmp 51, B true), (.tmp 72, B false), (.const (.bool true), B true), (.tmp 81, (B ((decide (x7.Liquid ≤ x13.Liquid)))))], [], (B ((decide (x7.Liquid ≤ x13.Liquid)))), [], false⟩,
    ⟨[(.tmp 51, B true), (.tmp 82, (B ((decide (x7.Liquid ≤ x13.Liquid)))))], [], B true, [], false⟩,
    ⟨[(.tmp 83, B true)], [], (.lit undef), [], true⟩,
    ⟨[(.tmp 83, B true)], [], (.lit undef), [], true⟩,
    ⟨[(.tmp 83, B true)], [], (.lit undef), [], true⟩,
    ⟨[(.tmp 83, B true)], [], (.lit undef), [], true⟩,
    ⟨[(.tmp 83, B true)], [], (.lit undef), [], true⟩,
    ⟨[(.tmp 83, B true)], [], (.lit undef), [], true⟩,
    ⟨[(.tmp 83, B true)], [], (.lit undef), [], true⟩,
    ⟨[(.tmp 83, B true)], [], (.lit undef), [], true⟩,
    ⟨[(.tmp 83, B true)], [], (.lit undef), [], true⟩,
    ⟨[(.tmp 51, B true), (.tmp 83, B true), (.const (.bool true), B true), (.tmp 92, (.lit undef))], [], B true, [], false⟩,
    ⟨[(.tmp 51, B true), (.tmp 93, B true), (.const (.bool false), B false)], [], B true, [], false⟩] (by kernel_rfl) (by exact ⟨by kernel_rfl, by kernel_rfl⟩) (by kernel_rfl) ?_ ?_
                · exact ⟨fun _ => astep_move rfl,
    fun _ => astep_bin rfl rfl,
    fun _ => astep_b hb12 (astep_move rfl),
    fun _ => astep_guard (astep_faddr rfl Try.underlying49 rfl rfl ti3 (by decide) rfl),
    fun _ => astep_guard (astep_load rfl ti3 (by decide) rfl (Nat.le_of_ble_eq_true rfl) rfl),
    fun _ => astep_guard (astep_move rfl),
    fun _ => astep_guard (astep_move rfl),
    fun _ => astep_guard (astep_bin rfl rfl),
    fun _ => astep_guard (astep_idxd rfl Try.underlying23 ti49 rfl rfl hi15 (map_get c_GRow hj16) rfl),
    fun _ => astep_guard (astep_faddrd rfl Try.underlying49 rfl rfl ti3 (by decide) rfl),
    fun _ => astep_guard (astep_loadd rfl ti3 (by decide) (Nat.le_of_ble_eq_true rfl) rfl),
    fun _ => astep_guard (astep_bin rfl rfl),
    fun _ => astep_b hb17 (astep_guard (astep_move rfl)),
    fun _ => astep_guard (astep_faddr rfl Try.underlying49 rfl rfl ti3 (by decide) rfl),
    fun _ => astep_guard (astep_load rfl ti3 (by decide) rfl (Nat.le_of_ble_eq_true rfl) rfl),
    fun _ => astep_guard (astep_move rfl),
    fun _ => astep_guard (astep_move rfl),
    fun _ => astep_guard (astep_bin rfl rfl),
    fun _ => astep_guard (astep_idxd rfl Try.underlying23 ti49 rfl rfl hi15 (map_get c_GRow hj16) rfl),
    fun _ => astep_guard (astep_faddrd rfl Try.underlying49 rfl rfl ti3 (by decide) rfl),
    fun _ => astep_guard (astep_loadd rfl ti3 (by decide) (Nat.le_of_ble_eq_true rfl) rfl),
    fun _ => astep_guard (astep_bin rfl rfl),
    fun _ => astep_guard (astep_pick rfl rfl),
    fun _ => astep_b hb18 (astep_guard (astep_move rfl)),
    fun _ => astep_guard (astep_faddr rfl Try.underlying49 rfl rfl ti3 (by decide) rfl),
    fun _ => astep_guard (astep_load rfl ti3 (by decide) rfl (Nat.le_of_ble_eq_true rfl) rfl),
    fun _ => astep_guard (astep_move rfl),
    fun _ => astep_guard (astep_move rfl),
    fun _ => astep_guard (astep_bin rfl rfl),
    fun _ => astep_guard (astep_idxd rfl Try.underlying23 ti49 rfl rfl hi15 (map_get c_GRow hj16) rfl),
    fun _ => astep_guard (astep_faddrd rfl Try.underlying49 rfl rfl ti3 (by decide) rfl),
    fun _ => astep_guard (astep_loadd rfl ti3 (by decide) (Nat.le_of_ble_eq_true rfl) rfl),
    fun _ => astep_guard (astep_bin rfl rfl),
    fun _ => astep_guard (astep_pick rfl rfl),
    fun _ => astep_b hb19 (astep_guard (astep_move rfl)),
    fun hs => (Bool.noConfusion hs),
    fun hs => (Bool.noConfusion hs),
    fun hs => (Bool.noConfusion hs),
    fun hs => (Bool.noConfusion hs),
    fun hs => (Bool.noConfusion hs),
    fun hs => (Bool.noConfusion hs),
    fun hs => (Bool.noConfusion hs),
    fun hs => (Bool.noConfusion hs),
    fun hs => (Bool.noConfusion hs),
    fun _ => astep_guard (astep_pick rfl rfl),
    fun _ => astep_pick rfl rfl, trivial⟩
                refine awp_true (by kernel_rfl) ?_
                refine awp_reg [⟨[(.const (.bool false), B false)], [], B false, [], false⟩] (by exact ⟨by kernel_rfl, by kernel_rfl⟩) ?_ ?_
                · exact ⟨fun _ => astep_assign rfl, trivial⟩
                refine awp_ret ?_
                refine blockA_r ?_
                refine thenA_r ?_
                refine thenA_r ?_
                refine blockA_r ?_
                refine thenA_r ?_
                obtain rfl := Option.some.inj h
                exact ⟨⟨[B false], ⟨resOK_tmp (by kernel_rfl), trivial⟩, rfl⟩, (NLt.lit _), Nat.le_refl _, fun n hn => absurd hn (Nat.not_lt_zero n)⟩
              · replace h := bif_f hb19 h
                refine awp_regd [⟨[(.tmp 3, I y3)], [], I y3, [], false⟩,
    ⟨[(.tmp 49, I y3), (.const (.int .i64 0), I 0)], [], (B ((decide (y3 > 0)))), [], false⟩,
    ⟨[(.tmp 50, (B ((decide (y3 > 0)))))], [], B true, [], false⟩,
    ⟨[(.tmp 51, B true), (.tmp 4, .ref 0 5 0 0)], [(0, .own 5 [[I x7.T, I x7.P, I x7.Liquid, I x7.Vapour, I x7.Silica]])], .ref 0 5 0 0, [], false⟩,
    ⟨[(.tmp 51, B true), (.tmp 52, .ref 0 5 0 0)], [(0, .own 5 [[I x7.T, I x7.P, I x7.Liquid, I x7.Vapour, I x7.Silica]])], I x7.T, [], false⟩,
    ⟨[(.tmp 51, B true), (.tmp 0, (.dat 5 ((p0 : List GRow).map c_GRow)))], [], (.dat 5 ((p0 : List GRow).map c_GRow)), [], false⟩,
    ⟨[(.tmp 51, B true), (.tmp 3, I y3)], [], I y3, [], false⟩,
    ⟨[(.tmp 51, B true), (.tmp 55, I y3), (.const (.int .i64 1), I 1)], [], (I (w64 (y3 - 1))), [], false⟩,
    ⟨[(.tmp 51, B true), (.tmp 54, (.dat 5 ((p0 : List GRow).map c_GRow))), (.tmp 56, (I (w64 (y3 - 1))))], [], (.dptr (c_GRow (x13)) 0), [], false⟩,
    ⟨[(.tmp 51, B true), (.tmp 57, (.dptr (c_GRow (x13)) 0))], [], (.dptr (c_GRow (x13)) 0), [], false⟩,
    ⟨[(.tmp 51, B true), (.tmp 58, (.dptr (c_GRow (x13)) 0))], [], I x13.T, [], false⟩,
    ⟨[(.tmp 51, B true), (.tmp 53, I x7.T), (.tmp 59, I x13.T)], [], (B ((decide (x7.T ≤ x13.T)))), [], false⟩,
    ⟨[(.tmp 51, B true), (.tmp 60, (B ((decide (x7.T ≤ x13.T)))))], [], B false, [], false⟩,
    ⟨[(.tmp 61, B false), (.tmp 4, .ref 0 5 0 0)], [(0, .own 5 [[I x7.T, I x7.P, I x7.Liquid, I x7.Vapour, I x7.Silica]])], .ref 0 5 0 1, [], false⟩,
    ⟨[(.tmp 61, B false), (.tmp 62, .ref 0 5 0 1)], [(0, .own 5 [[I x7.T, I x7.P, I x7.Liquid, I x7.Vapour, I x7.Silica]])], I x7.P, [], false⟩,
    ⟨[(.tmp 61, B false), (.tmp 0, (.dat 5 ((p0 : List GRow).map c_GRow)))], [], (.dat 5 ((p0 : List GRow).map c_GRow)), [], false⟩,
    ⟨[(.tmp 61, B false), (.tmp 3, I y3)], [], I y3, [], false⟩,
    ⟨[(.tmp 61, B false), (.tmp 65, I y3), (.const (.int .i64 1), I 1)], [], (I (w64 (y3 - 1))), [], false⟩,
    ⟨[(.tmp 61, B false), (.tmp 64, (.dat 5 ((p0 : List GRow).map c_GRow))), (.tmp 66, (I (w64 (y3 - 1))))], [], (.dptr (c_GRow (x13)) 0), [], false⟩,
    ⟨[(.tmp 61, B false), (.tmp 67, (.dptr (c_GRow (x13)) 0))], [], (.dptr (c_GRow (x13)) 1), [], false⟩,
    ⟨[(.tmp 61, B false), (.tmp 68, (.dptr (c_GRow (x13)) 1))], [], I x13.P, [], false⟩,
    ⟨[(.tmp 61, B false), (.tmp 63, I x7.P), (.tmp 69, I x13.P)], [], (B ((decide (x7.P ≤ x13.P)))), [], false⟩,
    ⟨[(.tmp 51, B true), (.tmp 61, B false), (.const (.bool true), B true), (.tmp 70, (B ((decide (x7.P ≤ x13.P)))))], [], (B ((decide (x7.P ≤ x13.P)))), [], false⟩,
    ⟨[(.tmp 51, B true), (.tmp 71, (B ((decide (x7.P ≤ x13.P)))))], [], B false, [], false⟩,
    ⟨[(.tmp 72, B false), (.tmp 4, .ref 0 5 0 0)], [(0, .own 5 [[I x7.T, I x7.P, I x7.Liquid, I x7.Vapour, I x7.Silica]])], .ref 0 5 0 2, [], false⟩,
    ⟨[(.tmp 72, B false), (.tmp 73, .ref 0 5 0 2)], [(0, .own 5 [[I x7.T, I x7.P, I x7.Liquid, I x7.Vapour, I x7.Silica]])], I x7.Liquid, [], false⟩,
    ⟨[(.tmp 72, B false), (.tmp 0, (.dat 5 ((p0 : List GRow).map c_GRow)))], [], (.dat 5 ((p0 : List GRow).map c_GRow)), [], false⟩,
    ⟨[(.tmp 72, B false), (.tmp 3, I y3)], [], I y3, [], false⟩,
    ⟨[(.tmp 72, B false), (.tmp 76, I y3), (.const (.int .i64 1), I 1)], [], (I (w64 (y3 - 1))), [], false⟩,
    ⟨[(.tmp 72, B false), (.tmp 75, (.dat 5 ((p0 : List GRow).map c_GRow))), (.tmp 77, (I (w64 (y3 - 1))))], [], (.dptr (c_GRow (x13)) 0), [], false⟩,
    ⟨[(.tmp 72, B false), (.tmp 78, (.dptr (c_GRow (x13)) 0))], [], (.dptr (c_GRow (x13)) 2), [], false⟩,
    ⟨[(.tmp 72, B false), (.tmp 79, (.dptr (c_GRow (x13)) 2))], [], I x13.Liquid, [], false⟩,
    ⟨[(.tmp 72, B false), (.tmp 74, I x7.Liquid), (.tmp 80, I x13.Liquid)], [], (B ((decide (x7.Liquid ≤ x13.Liquid)))), [], false⟩,
    ⟨[(.tmp 51, B true), (.tmp 72, B false), (.const (.bool true), B true), (.tmp 81, (B ((decide (x7.Liquid ≤ x13.Liquid)))))], [], (B ((decide (x7.Liquid ≤ x13.Liquid)))), [], false⟩,
    ⟨[(.tmp 51, B true), (.tmp 82, (B ((decide (x7.Liquid ≤ x13.Liquid)))))], [], B false, [], false⟩,
    ⟨[(.tmp 83, B false), (.tmp 4, .ref 0 5 0 0)], [(0, .own 5 [[I x7.T, I x7.P, I x7.Liquid, I x7.Vapour, I x7.Silica]])], .ref 0 5 0 4, [], false⟩,
    ⟨[(.tmp 83, B false), (.tmp 84, .ref 0 5 0 4)], [(0, .own 5 [[I x7.T, I x7.P, I x7.Liquid, I x7.Vapour, I x7.Silica]])], I x7.Silica, [], false⟩,
    ⟨[(.tmp 83, B false), (.tmp 0, (.dat 5 ((p0 : List GRow).map c_GRow)))], [], (.dat 5 ((p0 : List GRow).map c_GRow)), [], false⟩,
    ⟨[(.tmp 83, B false), (.tmp 3, I y3)], [], I y3, [], false⟩,
    ⟨[(.tmp 83, B false), (.tmp 87, I y3), (.const (.int .i64 1), I 1)], [], (I (w64 (y3 - 1))), [], false⟩,
    ⟨[(.tmp 83, B false), (.tmp 86, (.dat 5 ((p0 : List GRow).map c_GRow))), (.tmp 88, (I (w64 (y3 - 1))))], [], (.dptr (c_GRow (x13)) 0), [], false⟩,
    ⟨[(.tmp 83, B false), (.tmp 89, (.dptr (c_GRow (x13)) 0))], [], (.dptr (c_GRow (x13)) 4), [], false⟩,
    ⟨[(.tmp 83, B false), (.tmp 90, (.dptr (c_GRow (x13)) 4))], [], I x13.Silica, [], false⟩,
    ⟨[(.tmp 83, B false), (.tmp 85, I x7.Silica), (.tmp 91, I x13.Silica)], [], (B ((decide (x7.Silica < x13.Silica)))), [], false⟩,
    ⟨[(.tmp 51, B true), (.tmp 83, B false), (.const (.bool true), B true), (.tmp 92, (B ((decide (x7.Silica < x13.Silica)))))], [], (B ((decide (x7.Silica < x13.Silica)))), [], false⟩,
    ⟨[(.tmp 51, B true), (.tmp 93, (B ((decide (x7.Silica < x13.Silica))))), (.const (.bool false), B false)], [], (B ((decide (x7.Silica < x13.Silica)))), [], false⟩] (by kernel_rfl) (by exact ⟨by kernel_rfl, by kernel_rfl⟩) (by kernel_rfl) ?_ ?_
                · exact ⟨fun _ => astep_move rfl,
    fun _ => astep_bin rfl rfl,
    fun _ => astep_b hb12 (astep_move rfl),
    fun _ => astep_guard (astep_faddr rfl Try.underlying49 rfl rfl ti3 (by decide) rfl),
    fun _ => astep_guard (astep_load rfl ti3 (by decide) rfl (Nat.le_of_ble_eq_true rfl) rfl),
    fun _ => astep_guard (astep_move rfl),
    fun _ => astep_guard (astep_move rfl),
    fun _ => astep_guard (astep_bin rfl rfl),
    fun _ => astep_guard (astep_idxd rfl Try.underlying23 ti49 rfl rfl hi15 (map_get c_GRow hj16) rfl),
    fun _ => astep_guard (astep_faddrd rfl Try.underlying49 rfl rfl ti3 (by decide) rfl),
    fun _ => astep_guard (astep_loadd rfl ti3 (by decide) (Nat.le_of_ble_eq_true rfl) rfl),
    fun _ => astep_guard (astep_bin rfl rfl),
    fun _ => astep_b hb17 (astep_guard (astep_move rfl)),
    fun _ => astep_guard (astep_faddr rfl Try.underlying49 rfl rfl ti3 (by decide) rfl),
    fun _ => astep_guard (astep_load rfl ti3 (by decide) rfl (Nat.le_of_ble_eq_true rfl) rfl),
    fun _ => astep_guard (astep_move rfl),
    fun _ => astep_guard (astep_move rfl),
    fun _ => astep_guard (astep_bin rfl rfl),
    fun _ => astep_guard (astep_idxd rfl Try.underlying23 ti49 rfl rfl hi15 (map_get c_GRow hj16) rfl),
    fun _ => astep_guard (astep_faddrd rfl Try.underlying49 rfl rfl ti3 (by decide) rfl),
    fun _ => astep_guard (astep_loadd rfl ti3 (by decide) (Nat.le_of_ble_eq_true rfl) rfl),
    fun _ => astep_guard (astep_bin rfl rfl),
    fun _ => astep_guard (astep_pick rfl rfl),
    fun _ => astep_b hb18 (astep_guard (astep_move rfl)),
    fun _ => astep_guard (astep_faddr rfl Try.underlying49 rfl rfl ti3 (by decide) rfl),
    fun _ => astep_guard (astep_load rfl ti3 (by decide) rfl (Nat.le_of_ble_eq_true rfl) rfl),
    fun _ => astep_guard (astep_move rfl),
    fun _ => astep_guard (astep_move rfl),
    fun _ => astep_guard (astep_bin rfl rfl),
    fun _ => astep_guard (astep_idxd rfl Try.underlying23 ti49 rfl rfl hi15 (map_get c_GRow hj16) rfl),
    fun _ => astep_guard (astep_faddrd rfl Try.underlying49 rfl rfl ti3 (by decide) rfl),
    fun _ => astep_guard (astep_loadd rfl ti3 (by decide) (Nat.le_of_ble_eq_true rfl) rfl),
    fun _ => astep_guard (astep_bin rfl rfl),
    fun _ => astep_guard (astep_pick rfl rfl),
    fun _ => astep_b hb19 (astep_guard (astep_move rfl)),
    fun _ => astep_guard (astep_faddr rfl Try.underlying49 rfl rfl ti3 (by decide) rfl),
    fun _ => astep_guard (astep_load rfl ti3 (by decide) rfl (Nat.le_of_ble_eq_true rfl) rfl),
    fun _ => astep_guard (astep_move rfl),
    fun _ => astep_guard (astep_move rfl),
    fun _ => astep_guard (astep_bin rfl rfl),
    fun _ => astep_guard (astep_idxd rfl Try.underlying23 ti49 rfl rfl hi15 (map_get c_GRow hj16) rfl),
    fun _ => astep_guard (astep_faddrd rfl Try.underlying49 rfl rfl ti3 (by decide) rfl),
    fun _ => astep_guard (astep_loadd rfl ti3 (by decide) (Nat.le_of_ble_eq_true rfl) rfl),
    fun _ => astep_guard (astep_bin rfl rfl),
    fun _ => astep_guard (astep_pick rfl rfl),
    fun _ => astep_pick rfl rfl, trivial⟩
                rcases Bool.eq_false_or_eq_true ((decide (x7.Silica < x13.Silica))) with hc20 | hc20
                · replace h := bif_t hc20 h
                  refine awp_ift hc20 (by kernel_rfl) ?_
                  refine awp_reg [⟨[(.const (.bool false), B false)], [], B false, [], false⟩] (by exact ⟨by kernel_rfl, by kernel_rfl⟩) ?_ ?_
                  · exact ⟨fun _ => astep_assign rfl, trivial⟩
                  refine awp_ret ?_
                  refine blockA_r ?_
                  refine thenA_r ?_
                  refine thenA_r ?_
                  refine blockA_r ?_
                  refine thenA_r ?_
                  obtain rfl := Option.some.inj h
                  exact ⟨⟨[B false], ⟨resOK_tmp (by kernel_rfl), trivial⟩, rfl⟩, (NLt.lit _), Nat.le_refl _, fun n hn => absurd hn (Nat.not_lt_zero n)⟩
                · replace h := bif_f hc20 h
                  refine awp_ifn hc20 (by kernel_rfl) ?_
                  refine awp_skip ?_
                  refine blockA_n ?_
                  refine thenA_n ?_
                  refine awp_reg1 [⟨[(.tmp 3, I y3)], [], I y3, [], false⟩,
    ⟨[(.tmp 9, I y3), (.const (.int .i64 1), I 1)], [], (I (w64 (y3 + 1))), [], false⟩,
    ⟨[(.tmp 10, (I (w64 (y3 + 1))))], [], (I (w64 (y3 + 1))), [], false⟩] (by exact ⟨by kernel_rfl, by kernel_rfl⟩) ?_ ?_
                  · exact ⟨fun _ => astep_move rfl,
    fun _ => astep_bin rfl rfl,
    fun _ => astep_assign rfl, trivial⟩
                  refine thenA_n ?_
                  exact around_mor (mor_to (n := 103) (l' := [(0, (.dat 5 ((p0 : List GRow).map c_GRow))), (3, (I ((w64 (y3 + 1)))))]) (own' := []) [(0, (.dat 5 ((p0 : List GRow).map c_GRow))), (3, (I (w64 (y3 + 1))))] [] [] hφ0 (by kernel_rfl) (by kernel_rfl) (by kernel_rfl) ⟨rfl, .rn (.plain _ (nl_dat nl_GRow _)), rfl, .rn (.plain _ (NLt.lit _)), trivial⟩ trivial) (ih (w64 (y3 + 1)) h)
        · replace h := bif_f hb12 h
          refine awp_regd [⟨[(.tmp 3, I y3)], [], I y3, [], false⟩,
    ⟨[(.tmp 49, I y3), (.const (.int .i64 0), I 0)], [], (B ((decide (y3 > 0)))), [], false⟩,
    ⟨[(.tmp 50, (B ((decide (y3 > 0)))))], [], B false, [], false⟩,
    ⟨[(.tmp 51, B false)], [], (.lit undef), [], true⟩,
    ⟨[(.tmp 51, B false)], [], (.lit undef), [], true⟩,
    ⟨[(.tmp 51, B false)], [], (.lit undef), [], true⟩,
    ⟨[(.tmp 51, B false)], [], (.lit undef), [], true⟩,
    ⟨[(.tmp 51, B false)], [], (.lit undef), [], true⟩,
    ⟨[(.tmp 51, B false)], [], (.lit undef), [], true⟩,
    ⟨[(.tmp 51, B false)], [], (.lit undef), [], true⟩,
    ⟨[(.tmp 51, B false)], [], (.lit undef), [], true⟩,
    ⟨[(.tmp 51, B false)], [], (.lit undef), [], true⟩,
    ⟨[(.tmp 51, B false)], [], (.lit undef), [], true⟩,
    ⟨[(.tmp 61, (.lit undef))], [], (.lit undef), [], true⟩,
    ⟨[(.tmp 61, (.lit undef))], [], (.lit undef), [], true⟩,
    ⟨[(.tmp 61, (.lit undef))], [], (.lit undef), [], true⟩,
    ⟨[(.tmp 61, (.lit undef))], [], (.lit undef), [], true⟩,
    ⟨[(.tmp 61, (.lit undef))], [], (.lit undef), [], true⟩,
    ⟨[(.tmp 61, (.lit undef))], [], (.lit undef), [], true⟩,
    ⟨[(.tmp 61, (.lit undef))], [], (.lit undef), [], true⟩,
    ⟨[(.tmp 61, (.lit undef))], [], (.lit undef), [], true⟩,
    ⟨[(.tmp 61, (.lit undef))], [], (.lit undef), [], true⟩,
    ⟨[(.tmp 51, B false)], [], (.lit undef), [], true⟩,
    ⟨[(.tmp 51, B false)], [], (.lit undef), [], true⟩,
    ⟨[(.tmp 72, (.lit undef))], [], (.lit undef), [], true⟩,
    ⟨[(.tmp 72, (.lit undef))], [], (.lit undef), [], true⟩,
    ⟨[(.tmp 72, (.lit undef))], [], (.lit undef), [], true⟩,
    ⟨[(.tmp 72, (.lit undef))], [], (.lit undef), [], true⟩,
    ⟨[(.tmp 72, (.lit undef))], [], (.lit undef), [], true⟩,
    ⟨[(.tmp 72, (.lit undef))], [], (.lit undef), [], true⟩,
    ⟨[(.tmp 72, (.lit undef))], [], (.lit undef), [], true⟩,
    ⟨[(.tmp 72, (.lit undef))], [], (.lit undef), [], true⟩,
    ⟨[(.tmp 72, (.lit undef))], [], (.lit undef), [], true⟩,
    ⟨[(.tmp 51, B false)], [], (.lit undef), [], true⟩,
    ⟨[(.tmp 51, B false)], [], (.lit undef), [], true⟩,
    ⟨[(.tmp 83, (.lit undef))], [], (.lit undef), [], true⟩,
    ⟨[(.tmp 83, (.lit undef))], [], (.lit undef), [], true⟩,
    ⟨[(.tmp 83, (.lit undef))], [], (.lit undef), [], true⟩,
    ⟨[(.tmp 83, (.lit undef))], [], (.lit undef), [], true⟩,
    ⟨[(.tmp 83, (.lit undef))], [], (.lit undef), [], true⟩,
    ⟨[(.tmp 83, (.lit undef))], [], (.lit undef), [], true⟩,
    ⟨[(.tmp 83, (.lit undef))], [], (.lit undef), [], true⟩,
    ⟨[(.tmp 83, (.lit undef))], [], (.lit undef), [], true⟩,
    ⟨[(.tmp 83, (.lit undef))], [], (.lit undef), [], true⟩,
    ⟨[(.tmp 51, B false)], [], (.lit undef), [], true⟩,
    ⟨[(.tmp 51, B false), (.tmp 93, (.lit undef)), (.const (.bool false), B false)], [], B false, [], false⟩] (by kernel_rfl) (by exact ⟨by kernel_rfl, by kernel_rfl⟩) (by kernel_rfl) ?_ ?_
          · exact ⟨fun _ => astep_move rfl,
    fun _ => astep_bin rfl rfl,
    fun _ => astep_b hb12 (astep_move rfl),
    fun hs => (Bool.noConfusion hs),
    fun hs => (Bool.noConfusion hs),
    fun hs => (Bool.noConfusion hs),
    fun hs => (Bool.noConfusion hs),
    fun hs => (Bool.noConfusion hs),
    fun hs => (Bool.noConfusion hs),
    fun hs => (Bool.noConfusion hs),
    fun hs => (Bool.noConfusion hs),
    fun hs => (Bool.noConfusion hs),
    fun hs => (Bool.noConfusion hs),
    fun hs => (Bool.noConfusion hs),
    fun hs => (Bool.noConfusion hs),
    fun hs => (Bool.noConfusion hs),
    fun hs => (Bool.noConfusion hs),
    fun hs => (Bool.noConfusion hs),
    fun hs => (Bool.noConfusion hs),
    fun hs => (Bool.noConfusion hs),
    fun hs => (Bool.noConfusion hs),
    fun hs => (Bool.noConfusion hs),
    fun hs => (Bool.noConfusion hs),
    fun hs => (Bool.noConfusion hs),
    fun hs => (Bool.noConfusion hs),
    fun hs => (Bool.noConfusion hs),
    fun hs => (Bool.noConfusion hs),
    fun hs => (Bool.noConfusion hs),
    fun hs => (Bool.noConfusion hs),
    fun hs => (Bool.noConfusion hs),
    fun hs => (Bool.noConfusion hs),
    fun hs => (Bool.noConfusion hs),
    fun hs => (Bool.noConfusion hs),
    fun hs => (Bool.noConfusion hs),
    fun hs => (Bool.noConfusion hs),
    fun hs => (Bool.noConfusion hs),
    fun hs => (Bool.noConfusion hs),
    fun hs => (Bool.noConfusion hs),
    fun hs => (Bool.noConfusion hs),
    fun hs => (Bool.noConfusion hs),
    fun hs => (Bool.noConfusion hs),
    fun hs => (Bool.noConfusion hs),
    fun hs => (Bool.noConfusion hs),
    fun hs => (Bool.noConfusion hs),
    fun hs => (Bool.noConfusion hs),
    fun _ => astep_pick rfl rfl, trivial⟩
          refine awp_false (by kernel_rfl) ?_
          refine awp_skip ?_
          refine blockA_n ?_
          refine thenA_n ?_
          refine awp_reg1 [⟨[(.tmp 3, I y3)], [], I y3, [], false⟩,
    ⟨[(.tmp 9, I y3), (.const (.int .i64 1), I 1)], [], (I (w64 (y3 + 1))), [], false⟩,
    ⟨[(.tmp 10, (I (w64 (y3 + 1))))], [], (I (w64 (y3 + 1))), [], false⟩] (by exact ⟨by kernel_rfl, by kernel_rfl⟩) ?_ ?_
          · exact ⟨fun _ => astep_move rfl,
    fun _ => astep_bin rfl rfl,
    fun _ => astep_assign rfl, trivial⟩
          refine thenA_n ?_
          exact around_mor (mor_to (n := 103) (l' := [(0, (.dat 5 ((p0 : List GRow).map c_GRow))), (3, (I ((w64 (y3 + 1)))))]) (own' := []) [(0, (.dat 5 ((p0 : List GRow).map c_GRow))), (3, (I (w64 (y3 + 1))))] [] [] hφ0 (by kernel_rfl) (by kernel_rfl) (by kernel_rfl) ⟨rfl, .rn (.plain _ (nl_dat nl_GRow _)), rfl, .rn (.plain _ (NLt.lit _)), trivial⟩ trivial) (ih (w64 (y3 + 1)) h)
      · skip
        obtain ⟨x22, hf21, h⟩ := bind_out h
        rcases Bool.eq_false_or_eq_true ((!x22)) with hb23 | hb23
        · replace h := bif_t hb23 h
          refine awp_reg [⟨[(.tmp 4, .ref 0 5 0 0)], [(0, .own 5 [[I x7.T, I x7.P, I x7.Liquid, I x7.Vapour, I x7.Silica]])], .ref 0 5 0 0, [], false⟩,
    ⟨[(.tmp 15, .ref 0 5 0 0)], [(0, .own 5 [[I x7.T, I x7.P, I x7.Liquid, I x7.Vapour, I x7.Silica]])], I x7.T, [], false⟩,
    ⟨[(.func 31, (.fn (.func 31) [] [])), (.tmp 16, I x7.T), (.const (.int .i64 0), I 0), (.const (.int .i64 400), I 400)], [], B x22, [], false⟩,
    ⟨[(.tmp 17, B x22)], [], (B ((!x22))), [], false⟩,
    ⟨[(.tmp 18, (B ((!x22))))], [], B true, [], false⟩,
    ⟨[(.tmp 19, B true)], [], (.lit undef), [], true⟩,
    ⟨[(.tmp 19, B true)], [], (.lit undef), [], true⟩,
    ⟨[(.tmp 19, B true)], [], (.lit undef), [], true⟩,
    ⟨[(.tmp 19, B true)], [], (.lit undef), [], true⟩,
    ⟨[(.tmp 19, B true), (.const (.bool true), B true), (.tmp 23, (.lit undef))], [], B true, [], false⟩,
    ⟨[(.tmp 24, B true)], [], B true, [], false⟩,
    ⟨[(.tmp 25, B true)], [], (.lit undef), [], true⟩,
    ⟨[(.tmp 25, B true)], [], (.lit undef), [], true⟩,
    ⟨[(.tmp 25, B true)], [], (.lit undef), [], true⟩,
    ⟨[(.tmp 25, B true)], [], (.lit undef), [], true⟩,
    ⟨[(.tmp 25, B true), (.const (.bool true), B true), (.tmp 29, (.lit undef))], [], B true, [], false⟩,
    ⟨[(.tmp 30, B true)], [], B true, [], false⟩,
    ⟨[(.tmp 31, B true)], [], (.lit undef), [], true⟩,
    ⟨[(.tmp 31, B true)], [], (.lit undef), [], true⟩,
    ⟨[(.tmp 31, B true)], [], (.lit undef), [], true⟩,
    ⟨[(.tmp 31, B true)], [], (.lit undef), [], true⟩,
    ⟨[(.tmp 31, B true), (.const (.bool true), B true), (.tmp 35, (.lit undef))], [], B true, [], false⟩,
    ⟨[(.tmp 36, B true)], [], B true, [], false⟩,
    ⟨[(.tmp 37, B true)], [], (.lit undef), [], true⟩,
    ⟨[(.tmp 37, B true)], [], (.lit undef), [], true⟩,
    ⟨[(.tmp 37, B true)], [], (.lit undef), [], true⟩,
    ⟨[(.tmp 37, B true)], [], (.lit undef), [], true⟩,
    ⟨[(.tmp 37, B true)], [], (.lit undef), [], true⟩,
    ⟨[(.tmp 37, B true), (.const (.bool true), B true), (.tmp 42, (.lit undef))], [], B true, [], false⟩,
    ⟨[(.tmp 43, B true)], [], B true, [], false⟩,
    ⟨[(.tmp 44, B true)], [], (.lit undef), [], true⟩,
    ⟨[(.tmp 44, B true)], [], (.lit undef), [], true⟩,
    ⟨[(.tmp 44, B true)], [], (.lit undef), [], true⟩,
    ⟨[(.tmp 44, B true), (.const (.bool true), B true), (.tmp 47, (.lit undef))], [], B true, [], false⟩] (by exact ⟨by kernel_rfl, by kernel_rfl⟩) ?_ ?_
          · exact ⟨fun _ => astep_faddr rfl Try.underlying49 rfl rfl ti3 (by decide) rfl,
    fun _ => astep_load rfl ti3 (by decide) rfl (Nat.le_of_ble_eq_true rfl) rfl,
    fun _ => astep_pcall (first := []) (cap := []) (vs := [I x7.T, I 0, I 400]) rfl enter31 (ref01_InX_ok N x7.T 0 400 _ hf21) rfl rfl (nl_cons (NLt.lit _) (nl_cons (NLt.lit _) (nl_cons (NLt.lit _) nl_nil))) (NLt.lit _) rfl,
    fun _ => astep_not rfl,
    fun _ => astep_b hb23 (astep_move rfl),
    fun hs => (Bool.noConfusion hs),
    fun hs => (Bool.noConfusion hs),
    fun hs => (Bool.noConfusion hs),
    fun hs => (Bool.noConfusion hs),
    fun _ => astep_pick rfl rfl,
    fun _ => astep_move rfl,
    fun hs => (Bool.noConfusion hs),
    fun hs => (Bool.noConfusion hs),
    fun hs => (Bool.noConfusion hs),
    fun hs => (Bool.noConfusion hs),
    fun _ => astep_pick rfl rfl,
    fun _ => astep_move rfl,
    fun hs => (Bool.noConfusion hs),
    fun hs => (Bool.noConfusion hs),
    fun hs => (Bool.noConfusion hs),
    fun hs => (Bool.noConfusion hs),
    fun _ => astep_pick rfl rfl,
    fun _ => astep_move rfl,
    fun hs => (Bool.noConfusion hs),
    fun hs => (Bool.noConfusion hs),
    fun hs => (Bool.noConfusion hs),
    fun hs => (Bool.noConfusion hs),
    fun hs => (Bool.noConfusion hs),
    fun _ => astep_pick rfl rfl,
    fun _ => astep_move rfl,
    fun hs => (Bool.noConfusion hs),
    fun hs => (Bool.noConfusion hs),
    fun hs => (Bool.noConfusion hs),
    fun _ => astep_pick rfl rfl, trivial⟩
          refine awp_true (by kernel_rfl) ?_
          refine awp_reg [⟨[(.const (.bool false), B false)], [], B false, [], false⟩] (by exact ⟨by kernel_rfl, by kernel_rfl⟩) ?_ ?_
          · exact ⟨fun _ => astep_assign rfl, trivial⟩
          refine awp_ret ?_
          refine thenA_r ?_
          refine blockA_r ?_
          refine thenA_r ?_
          refine thenA_r ?_
          refine blockA_r ?_
          refine thenA_r ?_
          obtain rfl := Option.some.inj h
          exact ⟨⟨[B false], ⟨resOK_tmp (by kernel_rfl), trivial⟩, rfl⟩, (NLt.lit _), Nat.le_refl _, fun n hn => absurd hn (Nat.not_lt_zero n)⟩
        · replace h := bif_f hb23 h
          obtain ⟨x25, hf24, h⟩ := bind_out h
          rcases Bool.eq_false_or_eq_true ((!x25)) with hb26 | hb26
          · replace h := bif_t hb26 h
            refine awp_reg [⟨[(.tmp 4, .ref 0 5 0 0)], [(0, .own 5 [[I x7.T, I x7.P, I x7.Liquid, I x7.Vapour, I x7.Silica]])], .ref 0 5 0 0, [], false⟩,
    ⟨[(.tmp 15, .ref 0 5 0 0)], [(0, .own 5 [[I x7.T, I x7.P, I x7.Liquid, I x7.Vapour, I x7.Silica]])], I x7.T, [], false⟩,
    ⟨[(.func 31, (.fn (.func 31) [] [])), (.tmp 16, I x7.T), (.const (.int .i64 0), I 0), (.const (.int .i64 400), I 400)], [], B x22, [], false⟩,
    ⟨[(.tmp 17, B x22)], [], (B ((!x22))), [], false⟩,
    ⟨[(.tmp 18, (B ((!x22))))], [], B false, [], false⟩,
    ⟨[(.tmp 19, B false), (.tmp 4, .ref 0 5 0 0)], [(0, .own 5 [[I x7.T, I x7.P, I x7.Liquid, I x7.Vapour, I x7.Silica]])], .ref 0 5 0 1, [], false⟩,
    ⟨[(.tmp 19, B false), (.tmp 20, .ref 0 5 0 1)], [(0, .own 5 [[I x7.T, I x7.P, I x7.Liquid, I x7.Vapour, I x7.Silica]])], I x7.P, [], false⟩,
    ⟨[(.tmp 19, B false), (.func 31, (.fn (.func 31) [] [])), (.tmp 21, I x7.P), (.const (.int .i64 1), I 1), (.const (.int .i64 10000), I 10000)], [], B x25, [], false⟩,
    ⟨[(.tmp 19, B false), (.tmp 22, B x25)], [], (B ((!x25))), [], false⟩,
    ⟨[(.tmp 19, B false), (.const (.bool true), B true), (.tmp 23, (B ((!x25))))], [], (B ((!x25))), [], false⟩,
    ⟨[(.tmp 24, (B ((!x25))))], [], B true, [], false⟩,
    ⟨[(.tmp 25, B true)], [], (.lit undef), [], true⟩,
    ⟨[(.tmp 25, B true)], [], (.lit undef), [], true⟩,
    ⟨[(.tmp 25, B true)], [], (.lit undef), [], true⟩,
    ⟨[(.tmp 25, B true)], [], (.lit undef), [], true⟩,
    ⟨[(.tmp 25, B true), (.const (.bool true), B true), (.tmp 29, (.lit undef))], [], B true, [], false⟩,
    ⟨[(.tmp 30, B true)], [], B true, [], false⟩,
    ⟨[(.tmp 31, B true)], [], (.lit undef), [], true⟩,
    ⟨[(.tmp 31, B true)], [], (.lit undef), [], true⟩,
    ⟨[(.tmp 31, B true)], [], (.lit undef), [], true⟩,
    ⟨[(.tmp 31, B true)], [], (.lit undef), [], true⟩,
    ⟨[(.tmp 31, B true), (.const (.bool true), B true), (.tmp 35, (.lit undef))], [], B true, [], false⟩,
    ⟨[(.tmp 36, B true)], [], B true, [], false⟩,
    ⟨[(.tmp 37, B true)], [], (.lit undef), [], true⟩,
    ⟨[(.tmp 37, B true)], [], (.lit undef), [], true⟩,
    ⟨[(.tmp 37, B true)], [], (.lit undef), [], true⟩,
    ⟨[(.tmp 37, B true)], [], (.lit undef), [], true⟩,
    ⟨[(.tmp 37, B true)], [], (.lit undef), [], true⟩,
    ⟨[(.tmp 37, B true), (.const (.bool true), B true), (.tmp 42, (.lit undef))], [], B true, [], false⟩,
    ⟨[(.tmp 43, B true)], [], B true, [], false⟩,
    ⟨[(.tmp 44, B true)], [], (.lit undef), [], true⟩,
    ⟨[(.tmp 44, B true)], [], (.lit undef), [], true⟩,
    ⟨[(.tmp 44, B true)], [], (.lit undef), [], true⟩,
    ⟨[(.tmp 44, B true), (.const (.bool true), B true), (.tmp 47, (.lit undef))], [], B true, [], false⟩] (by exact ⟨by kernel_rfl, by kernel_rfl⟩) ?_ ?_
            · exact ⟨fun _ => astep_faddr rfl Try.underlying49 rfl rfl ti3 (by decide) rfl,
    fun _ => astep_load rfl ti3 (by decide) rfl (Nat.le_of_ble_eq_true rfl) rfl,
    fun _ => astep_pcall (first := []) (cap := []) (vs := [I x7.T, I 0, I 400]) rfl enter31 (ref01_InX_ok N x7.T 0 400 _ hf21) rfl rfl (nl_cons (NLt.lit _) (nl_cons (NLt.lit _) (nl_cons (NLt.lit _) nl_nil))) (NLt.lit _) rfl,
    fun _ => astep_not rfl,
    fun _ => astep_b hb23 (astep_move rfl),
    fun _ => astep_guard (astep_faddr rfl Try.underlying49 rfl rfl ti3 (by decide) rfl),
    fun _ => astep_guard (astep_load rfl ti3 (by decide) rfl (Nat.le_of_ble_eq_true rfl) rfl),
    fun _ => astep_guard (astep_pcall (first := []) (cap := []) (vs := [I x7.P, I 1, I 10000]) rfl enter31 (ref01_InX_ok N x7.P 1 10000 _ hf24) rfl rfl (nl_cons (NLt.lit _) (nl_cons (NLt.lit _) (nl_cons (NLt.lit _) nl_nil))) (NLt.lit _) rfl),
    fun _ => astep_guard (astep_not rfl),
    fun _ => astep_pick rfl rfl,
    fun _ => astep_b hb26 (astep_move rfl),
    fun hs => (Bool.noConfusion hs),
    fun hs => (Bool.noConfusion hs),
    fun hs => (Bool.noConfusion hs),
    fun hs => (Bool.noConfusion hs),
    fun _ => astep_pick rfl rfl,
    fun _ => astep_move rfl,
    fun hs => (Bool.noConfusion hs),
    fun hs => (Bool.noConfusion hs),
    fun hs => (Bool.noConfusion hs),
    fun hs => (Bool.noConfusion hs),
    fun _ => astep_pick rfl rfl,
    fun _ => astep_move rfl,
    fun hs => (Bool.noConfusion hs),
    fun hs => (Bool.noConfusion hs),
    fun hs => (Bool.noConfusion hs),
    fun hs => (Bool.noConfusion hs),
    fun hs => (Bool.noConfusion hs),
    fun _ => astep_pick rfl rfl,
    fun _ => astep_move rfl,
    fun hs => (Bool.noConfusion hs),
    fun hs => (Bool.noConfusion hs),
    fun hs => (Bool.noConfusion hs),
    fun _ => astep_pick rfl rfl, trivial⟩
            refine awp_true (by kernel_rfl) ?_
            refine awp_reg [⟨[(.const (.bool false), B false)], [], B false, [], false⟩] (by exact ⟨by kernel_rfl, by kernel_rfl⟩) ?_ ?_
            · exact ⟨fun _ => astep_assign rfl, trivial⟩
            refine awp_ret ?_
            refine thenA_r ?_
            refine blockA_r ?_
            refine thenA_r ?_
            refine thenA_r ?_
            refine blockA_r ?_
            refine thenA_r ?_
            obtain rfl := Option.some.inj h
            exact ⟨⟨[B false], ⟨resOK_tmp (by kernel_rfl), trivial⟩, rfl⟩, (NLt.lit _), Nat.le_refl _, fun n hn => absurd hn (Nat.not_lt_zero n)⟩
          · replace h := bif_f hb26 h
            obtain ⟨x28, hf27, h⟩ := bind_out h
            rcases Bool.eq_false_or_eq_true ((!x28)) with hb29 | hb29
            · replace h := bif_t hb29 h
              refine awp_reg [⟨[(.tmp 4, .ref 0 5 0 0)], [(0, .own 5 [[I x7.T, I x7.P, I x7.Liquid, I x7.Vapour, I x7.Silica]])], .ref 0 5 0 0, [], false⟩,
    ⟨[(.tmp 15, .ref 0 5 0 0)], [(0, .own 5 [[I x7.T, I x7.P, I x7.Liquid, I x7.Vapour, I x7.Silica]])], I x7.T, [], false⟩,
    ⟨[(.func 31, (.fn (.func 31) [] [])), (.tmp 16, I x7.T), (.const (.int .i64 0), I 0), (.const (.int .i64 400), I 400)], [], B x22, [], false⟩,
    ⟨[(.tmp 17, B x22)], [], (B ((!x22))), [], false⟩,
    ⟨[(.tmp 18, (B ((!x22))))], [], B false, [], false⟩,
    ⟨[(.tmp 19, B false), (.tmp 4, .ref 0 5 0 0)], [(0, .own 5 [[I x7.T, I x7.P, I x7.Liquid, I x7.Vapour, I x7.Silica]])], .ref 0 5 0 1, [], false⟩,
    ⟨[(.tmp 19, B false), (.tmp 20, .ref 0 5 0 1)], [(0, .own 5 [[I x7.T, I x7.P, I x7.Liquid, I x7.Vapour, I x7.Silica]])], I x7.P, [], false⟩,
    ⟨[(.tmp 19, B false), (.func 31, (.fn (.func 31) [] [])), (.tmp 21, I x7.P), (.const (.int .i64 1), I 1), (.const (.int .i64 10000), I 10000)], [], B x25, [], false⟩,
    ⟨[(.tmp 19, B false), (.tmp 22, B x25)], [], (B ((!x25))), [], false⟩,
    ⟨[(.tmp 19, B false), (.const (.bool true), B true), (.tmp 23, (B ((!x25))))], [], (B ((!x25))), [], false⟩,
    ⟨[(.tmp 24, (B ((!x25))))], [], B false, [], false⟩,
    ⟨[(.tmp 25, B false), (.tmp 4, .ref 0 5 0 0)], [(0, .own 5 [[I x7.T, I x7.P, I x7.Liquid, I x7.Vapour, I x7.Silica]])], .ref 0 5 0 2, [], false⟩,
    ⟨[(.tmp 25, B false), (.tmp 26, .ref 0 5 0 2)], [(0, .own 5 [[I x7.T, I x7.P, I x7.Liquid, I x7.Vapour, I x7.Silica]])], I x7.Liquid, [], false⟩,
    ⟨[(.tmp 25, B false), (.func 31, (.fn (.func 31) [] [])), (.tmp 27, I x7.Liquid), (.const (.int .i64 0), I 0), (.const (.int .i64 4000), I 4000)], [], B x28, [], false⟩,
    ⟨[(.tmp 25, B false), (.tmp 28, B x28)], [], (B ((!x28))), [], false⟩,
    ⟨[(.tmp 25, B false), (.const (.bool true), B true), (.tmp 29, (B ((!x28))))], [], (B ((!x28))), [], false⟩,
    ⟨[(.tmp 30, (B ((!x28))))], [], B true, [], false⟩,
    ⟨[(.tmp 31, B true)], [], (.lit undef), [], true⟩,
    ⟨[(.tmp 31, B true)], [], (.lit undef), [], true⟩,
    ⟨[(.tmp 31, B true)], [], (.lit undef), [], true⟩,
    ⟨[(.tmp 31, B true)], [], (.lit undef), [], true⟩,
    ⟨[(.tmp 31, B true), (.const (.bool true), B true), (.tmp 35, (.lit undef))], [], B true, [], false⟩,
    ⟨[(.tmp 36, B true)], [], B true, [], false⟩,
    ⟨[(.tmp 37, B true)], [], (.lit undef), [], true⟩,
    ⟨[(.tmp 37, B true)], [], (.lit undef), [], true⟩,
    ⟨[(.tmp 37, B true)], [], (.lit undef), [], true⟩,
    ⟨[(.tmp 37, B true)], [], (.lit undef), [], true⟩,
    ⟨[(.tmp 37, B true)], [], (.lit undef), [], true⟩,
    ⟨[(.tmp 37, B true), (.const (.bool true), B true), (.tmp 42, (.lit undef))], [], B true, [], false⟩,
    ⟨[(.tmp 43, B true)], [], B true, [], false⟩,
    ⟨[(.tmp 44, B true)], [], (.lit undef), [], true⟩,
    ⟨[(.tmp 44, B true)], [], (.lit undef), [], true⟩,
    ⟨[(.tmp 44, B true)], [], (.lit undef), [], true⟩,
    ⟨[(.tmp 44, B true), (.const (.bool true), B true), (.tmp 47, (.lit undef))], [], B true, [], false⟩] (by exact ⟨by kernel_rfl, by kernel_rfl⟩) ?_ ?_
              · exact ⟨fun _ => astep_faddr rfl Try.underlying49 rfl rfl ti3 (by decide) rfl,
    fun _ => astep_load rfl ti3 (by decide) rfl (Nat.le_of_ble_eq_true rfl) rfl,
    fun _ => astep_pcall (first := []) (cap := []) (vs := [I x7.T, I 0, I 400]) rfl enter31 (ref01_InX_ok N x7.T 0 400 _ hf21) rfl rfl (nl_cons (NLt.lit _) (nl_cons (NLt.lit _) (nl_cons (NLt.lit _) nl_nil))) (NLt.lit _) rfl,
    fun _ => astep_not rfl,
    fun _ => astep_b hb23 (astep_move rfl),
    fun _ => astep_guard (astep_faddr rfl Try.underlying49 rfl rfl ti3 (by decide) rfl),
    fun _ => astep_guard (astep_load rfl ti3 (by decide) rfl (Nat.le_of_ble_eq_true rfl) rfl),
    fun _ => astep_guard (astep_pcall (first := []) (cap := []) (vs := [I x7.P, I 1, I 10000]) rfl enter31 (ref01_InX_ok N x7.P 1 10000 _ hf24) rfl rfl (nl_cons (NLt.lit _) (nl_cons (NLt.lit _) (nl_cons (NLt.lit _) nl_nil))) (NLt.lit _) rfl),
    fun _ => astep_guard (astep_not rfl),
    fun _ => astep_pick rfl rfl,
    fun _ => astep_b hb26 (astep_move rfl),
    fun _ => astep_guard (astep_faddr rfl Try.underlying49 rfl rfl ti3 (by decide) rfl),
    fun _ => astep_guard (astep_load rfl ti3 (by decide) rfl (Nat.le_of_ble_eq_true rfl) rfl),
    fun _ => astep_guard (astep_pcall (first := []) (cap := []) (vs := [I x7.Liquid, I 0, I 4000]) rfl enter31 (ref01_InX_ok N x7.Liquid 0 4000 _ hf27) rfl rfl (nl_cons (NLt.lit _) (nl_cons (NLt.lit _) (nl_cons (NLt.lit _) nl_nil))) (NLt.lit _) rfl),
    fun _ => astep_guard (astep_not rfl),
    fun _ => astep_pick rfl rfl,
    fun _ => astep_b hb29 (astep_move rfl),
    fun hs => (Bool.noConfusion hs),
    fun hs => (Bool.noConfusion hs),
    fun hs => (Bool.noConfusion hs),
    fun hs => (Bool.noConfusion hs),
    fun _ => astep_pick rfl rfl,
    fun _ => astep_move rfl,
    fun hs => (Bool.noConfusion hs),
    fun hs => (Bool.noConfusion hs),
    fun hs => (Bool.noConfusion hs),
    fun hs => (Bool.noConfusion hs),
    fun hs => (Bool.noConfusion hs),
    fun _ => astep_pick rfl rfl,
    fun _ => astep_move rfl,
    fun hs => (Bool.noConfusion hs),
    fun hs => (Bool.noConfusion hs),
    fun hs => (Bool.noConfusion hs),
    fun _ => astep_pick rfl rfl, trivial⟩
              refine awp_true (by kernel_rfl) ?_
              refine awp_reg [⟨[(.const (.bool false), B false)], [], B false, [], false⟩] (by exact ⟨by kernel_rfl, by kernel_rfl⟩) ?_ ?_
              · exact ⟨fun _ => astep_assign rfl, trivial⟩
              refine awp_ret ?_
              refine thenA_r ?_
              refine blockA_r ?_
              refine thenA_r ?_
              refine thenA_r ?_
              refine blockA_r ?_
              refine thenA_r ?_
              obtain rfl := Option.some.inj h
              exact ⟨⟨[B false], ⟨resOK_tmp (by kernel_rfl), trivial⟩, rfl⟩, (NLt.lit _), Nat.le_refl _, fun n hn => absurd hn (Nat.not_lt_zero n)⟩
            · replace h := bif_f hb29 h
              obtain ⟨x31, hf30, h⟩ := bind_out h
              rcases Bool.eq_false_or_eq_true ((!x31)) with hb32 | hb32
              · replace h := bif_t hb32 h
                refine awp_reg [⟨[(.tmp 4, .ref 0 5 0 0)], [(0, .own 5 [[I x7.T, I x7.P, I x7.Liquid, I x7.Vapour, I x7.Silica]])], .ref 0 5 0 0, [], false⟩,
    ⟨[(.tmp 15, .ref 0 5 0 0)], [(0, .own 5 [[I x7.T, I x7.P, I x7.Liquid, I x7.Vapour, I x7.Silica]])], I x7.T, [], false⟩,
    ⟨[(.func 31, (.fn (.func 31) [] [])), (.tmp 16, I x7.T), (.const (.int .i64 0), I 0), (.const (.int .i64 400), I 400)], [], B x22, [], false⟩,
    ⟨[(.tmp 17, B x22)], [], (B ((!x22))), [], false⟩,
    ⟨[(.tmp 18, (B ((!x22))))], [], B false, [], false⟩,
    ⟨[(.tmp 19, B false), (.tmp 4, .ref 0 5 0 0)], [(0, .own 5 [[I x7.T, I x7.P, I x7.Liquid, I x7.Vapour, I x7.Silica]])], .ref 0 5 0 1, [], false⟩,
    ⟨[(.tmp 19, B false), (.tmp 20, .ref 0 5 0 1)], [(0, .own 5 [[I x7.T, I x7.P, I x7.Liquid, I x7.Vapour, I x7.Silica]])], I x7.P, [], false⟩,
    ⟨[(.tmp 19, B false), (.func 31, (.fn (.func 31) [] [])), (.tmp 21, I x7.P), (.const (.int .i64 1), I 1), (.const (.int .i64 10000), I 10000)], [], B x25, [], false⟩,
    ⟨[(.tmp 19, B false), (.tmp 22, B x25)], [], (B ((!x25))), [], false⟩,
    ⟨[(.tmp 19, B false), (.const (.bool true), B true), (.tmp 23, (B ((!x25))))], [], (B ((!x25))), [], false⟩,
    ⟨[(.tmp 24, (B ((!x25))))], [], B false, [], false⟩,
    ⟨[(.tmp 25, B false), (.tmp 4, .ref 0 5 0 0)], [(0, .own 5 [[I x7.T, I x7.P, I x7.Liquid, I x7.Vapour, I x7.Silica]])], .ref 0 5 0 2, [], false⟩,
    ⟨[(.tmp 25, B false), (.tmp 26, .ref 0 5 0 2)], [(0, .own 5 [[I x7.T, I x7.P, I x7.Liquid, I x7.Vapour, I x7.Silica]])], I x7.Liquid, [], false⟩,
    ⟨[(.tmp 25, B false), (.func 31, (.fn (.func 31) [] [])), (.tmp 27, I x7.Liquid), (.const (.int .i64 0), I 0), (.const (.int .i64 4000), I 4000)], [], B x28, [], false⟩,
    ⟨[(.tmp 25, B false), (.tmp 28, B x28)], [], (B ((!x28))), [], false⟩,
    ⟨[(.tmp 25, B false), (.const (.bool true), B true), (.tmp 29, (B ((!x28))))], [], (B ((!x28))), [], false⟩,
    ⟨[(.tmp 30, (B ((!x28))))], [], B false, [], false⟩,
    ⟨[(.tmp 31, B false), (.tmp 4, .ref 0 5 0 0)], [(0, .own 5 [[I x7.T, I x7.P, I x7.Liquid, I x7.Vapour, I x7.Silica]])], .ref 0 5 0 4, [], false⟩,
    ⟨[(.tmp 31, B false), (.tmp 32, .ref 0 5 0 4)], [(0, .own 5 [[I x7.T, I x7.P, I x7.Liquid, I x7.Vapour, I x7.Silica]])], I x7.Silica, [], false⟩,
    ⟨[(.tmp 31, B false), (.func 31, (.fn (.func 31) [] [])), (.tmp 33, I x7.Silica), (.const (.int .i64 0), I 0), (.const (.int .i64 2000), I 2000)], [], B x31, [], false⟩,
    ⟨[(.tmp 31, B false), (.tmp 34, B x31)], [], (B ((!x31))), [], false⟩,
    ⟨[(.tmp 31, B false), (.const (.bool true), B true), (.tmp 35, (B ((!x31))))], [], (B ((!x31))), [], false⟩,
    ⟨[(.tmp 36, (B ((!x31))))], [], B true, [], false⟩,
    ⟨[(.tmp 37, B true)], [], (.lit undef), [], true⟩,
    ⟨[(.tmp 37, B true)], [], (.lit undef), [], true⟩,
    ⟨[(.tmp 37, B true)], [], (.lit undef), [], true⟩,
    ⟨[(.tmp 37, B true)], [], (.lit undef), [], true⟩,
    ⟨[(.tmp 37, B true)], [], (.lit undef), [], true⟩,
    ⟨[(.tmp 37, B true), (.const (.bool true), B true), (.tmp 42, (.lit undef))], [], B true, [], false⟩,
    ⟨[(.tmp 43, B true)], [], B true, [], false⟩,
    ⟨[(.tmp 44, B true)], [], (.lit undef), [], true⟩,
    ⟨[(.tmp 44, B true)], [], (.lit undef), [], true⟩,
    ⟨[(.tmp 44, B true)], [], (.lit undef), [], true⟩,
    ⟨[(.tmp 44, B true), (.const (.bool true), B true), (.tmp 47, (.lit undef))], [], B true, [], false⟩] (by exact ⟨by kernel_rfl, by kernel_rfl⟩) ?_ ?_
                · exact ⟨fun _ => astep_faddr rfl Try.underlying49 rfl rfl ti3 (by decide) rfl,
    fun _ => astep_load rfl ti3 (by decide) rfl (Nat.le_of_ble_eq_true rfl) rfl,
    fun _ => astep_pcall (first := []) (cap := []) (vs := [I x7.T, I 0, I 400]) rfl enter31 (ref01_InX_ok N x7.T 0 400 _ hf21) rfl rfl (nl_cons (NLt.lit _) (nl_cons (NLt.lit _) (nl_cons (NLt.lit _) nl_nil))) (NLt.lit _) rfl,
    fun _ => astep_not rfl,
    fun _ => astep_b hb23 (astep_move rfl),
    fun _ => astep_guard (astep_faddr rfl Try.underlying49 rfl rfl ti3 (by decide) rfl),
    fun _ => astep_guard (astep_load rfl ti3 (by decide) rfl (Nat.le_of_ble_eq_true rfl) rfl),
    fun _ => astep_guard (astep_pcall (first := []) (cap := []) (vs := [I x7.P, I 1, I 10000]) rfl enter31 (ref01_InX_ok N x7.P 1 10000 _ hf24) rfl rfl (nl_cons (NLt.lit _) (nl_cons (NLt.lit _) (nl_cons (NLt.lit _) nl_nil))) (NLt.lit _) rfl),
    fun _ => astep_guard (astep_not rfl),
    fun _ => astep_pick rfl rfl,
    fun _ => astep_b hb26 (astep_move rfl),
    fun _ => astep_guard (astep_faddr rfl Try.underlying49 rfl rfl ti3 (by decide) rfl),
    fun _ => astep_guard (astep_load rfl ti3 (by decide) rfl (Nat.le_of_ble_eq_true rfl) rfl),
    fun _ => astep_guard (astep_pcall (first := []) (cap := []) (vs := [I x7.Liquid, I 0, I 4000]) rfl enter31 (ref01_InX_ok N x7.Liquid 0 4000 _ hf27) rfl rfl (nl_cons (NLt.lit _) (nl_cons (NLt.lit _) (nl_cons (NLt.lit _) nl_nil))) (NLt.lit _) rfl),
    fun _ => astep_guard (astep_not rfl),
    fun _ => astep_pick rfl rfl,
    fun _ => astep_b hb29 (astep_move rfl),
    fun _ => astep_guard (astep_faddr rfl Try.underlying49 rfl rfl ti3 (by decide) rfl),
    fun _ => astep_guard (astep_load rfl ti3 (by decide) rfl (Nat.le_of_ble_eq_true rfl) rfl),
    fun _ => astep_guard (astep_pcall (first := []) (cap := []) (vs := [I x7.Silica, I 0, I 2000]) rfl enter31 (ref01_InX_ok N x7.Silica 0 2000 _ hf30) rfl rfl (nl_cons (NLt.lit _) (nl_cons (NLt.lit _) (nl_cons (NLt.lit _) nl_nil))) (NLt.lit _) rfl),
    fun _ => astep_guard (astep_not rfl),
    fun _ => astep_pick rfl rfl,
    fun _ => astep_b hb32 (astep_move rfl),
    fun hs => (Bool.noConfusion hs),
    fun hs => (Bool.noConfusion hs),
    fun hs => (Bool.noConfusion hs),
    fun hs => (Bool.noConfusion hs),
    fun hs => (Bool.noConfusion hs),
    fun _ => astep_pick rfl rfl,
    fun _ => astep_move rfl,
    fun hs => (Bool.noConfusion hs),
    fun hs => (Bool.noConfusion hs),
    fun hs => (Bool.noConfusion hs),
    fun _ => astep_pick rfl rfl, trivial⟩
                refine awp_true (by kernel_rfl) ?_
                refine awp_reg [⟨[(.const (.bool false), B false)], [], B false, [], false⟩] (by exact ⟨by kernel_rfl, by kernel_rfl⟩) ?_ ?_
                · exact ⟨fun _ => astep_assign rfl, trivial⟩
                refine awp_ret ?_
                refine thenA_r ?_
                refine blockA_r ?_
                refine thenA_r ?_
                refine thenA_r ?_
                refine blockA_r ?_
                refine thenA_r ?_
                obtain rfl := Option.some.inj h
                exact ⟨⟨[B false], ⟨resOK_tmp (by kernel_rfl), trivial⟩, rfl⟩, (NLt.lit _), Nat.le_refl _, fun n hn => absurd hn (Nat.not_lt_zero n)⟩
              · replace h := bif_f hb32 h
                rcases Bool.eq_false_or_eq_true ((decide (x7.Vapour ≤ x7.Liquid))) with hb33 | hb33
                · replace h := bif_t hb33 h
                  refine awp_reg [⟨[(.tmp 4, .ref 0 5 0 0)], [(0, .own 5 [[I x7.T, I x7.P, I x7.Liquid, I x7.Vapour, I x7.Silica]])], .ref 0 5 0 0, [], false⟩,
    ⟨[(.tmp 15, .ref 0 5 0 0)], [(0, .own 5 [[I x7.T, I x7.P, I x7.Liquid, I x7.Vapour, I x7.Silica]])], I x7.T, [], false⟩,
    ⟨[(.func 31, (.fn (.func 31) [] [])), (.tmp 16, I x7.T), (.const (.int .i64 0), I 0), (.const (.int .i64 400), I 400)], [], B x22, [], false⟩,
    ⟨[(.tmp 17, B x22)], [], (B ((!x22))), [], false⟩,
    ⟨[(.tmp 18, (B ((!x22))))], [], B false, [], false⟩,
    ⟨[(.tmp 19, B false), (.tmp 4, .ref 0 5 0 0)], [(0, .own 5 [[I x7.T, I x7.P, I x7.Liquid, I x7.Vapour, I x7.Silica]])], .ref 0 5 0 1, [], false⟩,
    ⟨[(.tmp 19, B false), (.tmp 20, .ref 0 5 0 1)], [(0, .own 5 [[I x7.T, I x7.P, I x7.Liquid, I x7.Vapour, I x7.Silica]])], I x7.P, [], false⟩,
    ⟨[(.tmp 19, B false), (.func 31, (.fn (.func 31) [] [])), (.tmp 21, I x7.P), (.const (.int .i64 1), I 1), (.const (.int .i64 10000), I 10000)], [], B x25, [], false⟩,
    ⟨[(.tmp 19, B false), (.tmp 22, B x25)], [], (B ((!x25))), [], false⟩,
    ⟨[(.tmp 19, B false), (.const (.bool true), B true), (.tmp 23, (B ((!x25))))], [], (B ((!x25))), [], false⟩,
    ⟨[(.tmp 24, (B ((!x25))))], [], B false, [], false⟩,
    ⟨[(.tmp 25, B false), (.tmp 4, .ref 0 5 0 0)], [(0, .own 5 [[I x7.T, I x7.P, I x7.Liquid, I x7.Vapour, I x7.Silica]])], .ref 0 5 0 2, [], false⟩,
    ⟨[(.tmp 25, B false), (.tmp 26, .ref 0 5 0 2)], [(0, .own 5 [[I x7.T, I x7.P, I x7.Liquid, I x7.Vapour, I x7.Silica]])], I x7.Liquid, [], false⟩,
    ⟨[(.tmp 25, B false), (.func 31, (.fn (.func 31) [] [])), (.tmp 27, I x7.Liquid), (.const (.int .i64 0), I 0), (.const (.int .i64 4000), I 4000)], [], B x28, [], false⟩,
    ⟨[(.tmp 25, B false), (.tmp 28, B x28)], [], (B ((!x28))), [], false⟩,
    ⟨[(.tmp 25, B false), (.const (.bool true), B true), (.tmp 29, (B ((!x28))))], [], (B ((!x28))), [], false⟩,
    ⟨[(.tmp 30, (B ((!x28))))], [], B false, [], false⟩,
    ⟨[(.tmp 31, B false), (.tmp 4, .ref 0 5 0 0)], [(0, .own 5 [[I x7.T, I x7.P, I x7.Liquid, I x7.Vapour, I x7.Silica]])], .ref 0 5 0 4, [], false⟩,
    ⟨[(.tmp 31, B false), (.tmp 32, .ref 0 5 0 4)], [(0, .own 5 [[I x7.T, I x7.P, I x7.Liquid, I x7.Vapour, I x7.Silica]])], I x7.Silica, [], false⟩,
    ⟨[(.tmp 31, B false), (.func 31, (.fn (.func 31) [] [])), (.tmp 33, I x7.Silica), (.const (.int .i64 0), I 0), (.const (.int .i64 2000), I 2000)], [], B x31, [], false⟩,
    ⟨[(.tmp 31, B false), (.tmp 34, B x31)], [], (B ((!x31))), [], false⟩,
    ⟨[(.tmp 31, B false), (.const (.bool true), B true), (.tmp 35, (B ((!x31))))], [], (B ((!x31))), [], false⟩,
    ⟨[(.tmp 36, (B ((!x31))))], [], B false, [], false⟩,
    ⟨[(.tmp 37, B false), (.tmp 4, .ref 0 5 0 0)], [(0, .own 5 [[I x7.T, I x7.P, I x7.Liquid, I x7.Vapour, I x7.Silica]])], .ref 0 5 0 3, [], false⟩,
    ⟨[(.tmp 37, B false), (.tmp 38, .ref 0 5 0 3)], [(0, .own 5 [[I x7.T, I x7.P, I x7.Liquid, I x7.Vapour, I x7.Silica]])], I x7.Vapour, [], false⟩,
    ⟨[(.tmp 37, B false), (.tmp 4, .ref 0 5 0 0)], [(0, .own 5 [[I x7.T, I x7.P, I x7.Liquid, I x7.Vapour, I x7.Silica]])], .ref 0 5 0 2, [], false⟩,
    ⟨[(.tmp 37, B false), (.tmp 40, .ref 0 5 0 2)], [(0, .own 5 [[I x7.T, I x7.P, I x7.Liquid, I x7.Vapour, I x7.Silica]])], I x7.Liquid, [], false⟩,
    ⟨[(.tmp 37, B false), (.tmp 39, I x7.Vapour), (.tmp 41, I x7.Liquid)], [], (B ((decide (x7.Vapour ≤ x7.Liquid)))), [], false⟩,
    ⟨[(.tmp 37, B false), (.const (.bool true), B true), (.tmp 42, (B ((decide (x7.Vapour ≤ x7.Liquid)))))], [], (B ((decide (x7.Vapour ≤ x7.Liquid)))), [], false⟩,
    ⟨[(.tmp 43, (B ((decide (x7.Vapour ≤ x7.Liquid)))))], [], B true, [], false⟩,
    ⟨[(.tmp 44, B true)], [], (.lit undef), [], true⟩,
    ⟨[(.tmp 44, B true)], [], (.lit undef), [], true⟩,
    ⟨[(.tmp 44, B true)], [], (.lit undef), [], true⟩,
    ⟨[(.tmp 44, B true), (.const (.bool true), B true), (.tmp 47, (.lit undef))], [], B true, [], false⟩] (by exact ⟨by kernel_rfl, by kernel_rfl⟩) ?_ ?_
                  · exact ⟨fun _ => astep_faddr rfl Try.underlying49 rfl rfl ti3 (by decide) rfl,
    fun _ => astep_load rfl ti3 (by decide) rfl (Nat.le_of_ble_eq_true rfl) rfl,
    fun _ => astep_pcall (first := []) (cap := []) (vs := [I x7.T, I 0, I 400]) rfl enter31 (ref01_InX_ok N x7.T 0 400 _ hf21) rfl rfl (nl_cons (NLt.lit _) (nl_cons (NLt.lit _) (nl_cons (NLt.lit _) nl_nil))) (NLt.lit _) rfl,
    fun _ => astep_not rfl,
    fun _ => astep_b hb23 (astep_move rfl),
    fun _ => astep_guard (astep_faddr rfl Try.underlying49 rfl rfl ti3 (by decide) rfl),
    fun _ => astep_guard (astep_load rfl ti3 (by decide) rfl (Nat.le_of_ble_eq_true rfl) rfl),
    fun _ => astep_guard (astep_pcall (first := []) (cap := []) (vs := [I x7.P, I 1, I 10000]) rfl enter31 (ref01_InX_ok N x7.P 1 10000 _ hf24) rfl rfl (nl_cons (NLt.lit _) (nl_cons (NLt.lit _) (nl_cons (NLt.lit _) nl_nil))) (NLt.lit _) rfl),
    fun _ => astep_guard (astep_not rfl),
    fun _ => astep_pick rfl rfl,
    fun _ => astep_b hb26 (astep_move rfl),
    fun _ => astep_guard (astep_faddr rfl Try.underlying49 rfl rfl ti3 (by decide) rfl),
    fun _ => astep_guard (astep_load rfl ti3 (by decide) rfl (Nat.le_of_ble_eq_true rfl) rfl),
    fun _ => astep_guard (astep_pcall (first := []) (cap := []) (vs := [I x7.Liquid, I 0, I 4000]) rfl enter31 (ref01_InX_ok N x7.Liquid 0 4000 _ hf27) rfl rfl (nl_cons (NLt.lit _) (nl_cons (NLt.lit _) (nl_cons (NLt.lit _) nl_nil))) (NLt.lit _) rfl),
    fun _ => astep_guard (astep_not rfl),
    fun _ => astep_pick rfl rfl,
    fun _ => astep_b hb29 (astep_move rfl),
    fun _ => astep_guard (astep_faddr rfl Try.underlying49 rfl rfl ti3 (by decide) rfl),
    fun _ => astep_guard (astep_load rfl ti3 (by decide) rfl (Nat.le_of_ble_eq_true rfl) rfl),
    fun _ => astep_guard (astep_pcall (first := []) (cap := []) (vs := [I x7.Silica, I 0, I 2000]) rfl enter31 (ref01_InX_ok N x7.Silica 0 2000 _ hf30) rfl rfl (nl_cons (NLt.lit _) (nl_cons (NLt.lit _) (nl_cons (NLt.lit _) nl_nil))) (NLt.lit _) rfl),
    fun _ => astep_guard (astep_not rfl),
    fun _ => astep_pick rfl rfl,
    fun _ => astep_b hb32 (astep_move rfl),
    fun _ => astep_guard (astep_faddr rfl Try.underlying49 rfl rfl ti3 (by decide) rfl),
    fun _ => astep_guard (astep_load rfl ti3 (by decide) rfl (Nat.le_of_ble_eq_true rfl) rfl),
    fun _ => astep_guard (astep_faddr rfl Try.underlying49 rfl rfl ti3 (by decide) rfl),
    fun _ => astep_guard (astep_load rfl ti3 (by decide) rfl (Nat.le_of_ble_eq_true rfl) rfl),
    fun _ => astep_guard (astep_bin rfl rfl),
    fun _ => astep_pick rfl rfl,
    fun _ => astep_b hb33 (astep_move rfl),
    fun hs => (Bool.noConfusion hs),
    fun hs => (Bool.noConfusion hs),
    fun hs => (Bool.noConfusion hs),
    fun _ => astep_pick rfl rfl, trivial⟩
                  refine awp_true (by kernel_rfl) ?_
                  refine awp_reg [⟨[(.const (.bool false), B false)], [], B false, [], false⟩] (by exact ⟨by kernel_rfl, by kernel_rfl⟩) ?_ ?_
                  · exact ⟨fun _ => astep_assign rfl, trivial⟩
                  refine awp_ret ?_
                  refine thenA_r ?_
                  refine blockA_r ?_
                  refine thenA_r ?_
                  refine thenA_r ?_
                  refine blockA_r ?_
                  refine thenA_r ?_
                  obtain rfl := Option.some.inj h
                  exact ⟨⟨[B false], ⟨resOK_tmp (by kernel_rfl), trivial⟩, rfl⟩, (NLt.lit _), Nat.le_refl _, fun n hn => absurd hn (Nat.not_lt_zero n)⟩
                · replace h := bif_f hb33 h
                  refine awp_reg [⟨[(.tmp 4, .ref 0 5 0 0)], [(0, .own 5 [[I x7.T, I x7.P, I x7.Liquid, I x7.Vapour, I x7.Silica]])], .ref 0 5 0 0, [], false⟩,
    ⟨[(.tmp 15, .ref 0 5 0 0)], [(0, .own 5 [[I x7.T, I x7.P, I x7.Liquid, I x7.Vapour, I x7.Silica]])], I x7.T, [], false⟩,
    ⟨[(.func 31, (.fn (.func 31) [] [])), (.tmp 16, I x7.T), (.const (.int .i64 0), I 0), (.const (.int .i64 400), I 400)], [], B x22, [], false⟩,
    ⟨[(.tmp 17, B x22)], [], (B ((!x22))), [], false⟩,
    ⟨[(.tmp 18, (B ((!x22))))], [], B false, [], false⟩,
    ⟨[(.tmp 19, B false), (.tmp 4, .ref 0 5 0 0)], [(0, .own 5 [[I x7.T, I x7.P, I x7.Liquid, I x7.Vapour, I x7.Silica]])], .ref 0 5 0 1, [], false⟩,
    ⟨[(.tmp 19, B false), (.tmp 20, .ref 0 5 0 1)], [(0, .own 5 [[I x7.T, I x7.P, I x7.Liquid, I x7.Vapour, I x7.Silica]])], I x7.P, [], false⟩,
    ⟨[(.tmp 19, B false), (.func 31, (.fn (.func 31) [] [])), (.tmp 21, I x7.P), (.const (.int .i64 1), I 1), (.const (.int .i64 10000), I 10000)], [], B x25, [], false⟩,
    ⟨[(.tmp 19, B false), (.tmp 22, B x25)], [], (B ((!x25))), [], false⟩,
    ⟨[(.tmp 19, B false), (.const (.bool true), B true), (.tmp 23, (B ((!x25))))], [], (B ((!x25))), [], false⟩,
    ⟨[(.tmp 24, (B ((!x25))))], [], B false, [], false⟩,
    ⟨[(.tmp 25, B false), (.tmp 4, .ref 0 5 0 0)], [(0, .own 5 [[I x7.T, I x7.P, I x7.Liquid, I x7.Vapour, I x7.Silica]])], .ref 0 5 0 2, [], false⟩,
    ⟨[(.tmp 25, B false), (.tmp 26, .ref 0 5 0 2)], [(0, .own 5 [[I x7.T, I x7.P, I x7.Liquid, I x7.Vapour, I x7.Silica]])], I x7.Liquid, [], false⟩,
    ⟨[(.tmp 25, B false), (.func 31, (.fn (.func 31) [] [])), (.tmp 27, I x7.Liquid), (.const (.int .i64 0), I 0), (.const (.int .i64 4000), I 4000)], [], B x28, [], false⟩,
    ⟨[(.tmp 25, B false), (.tmp 28, B x28)], [], (B ((!x28))), [], false⟩,
    ⟨[(.tmp 25, B false), (.const (.bool true), B true), (.tmp 29, (B ((!x28))))], [], (B ((!x28))), [], false⟩,
    ⟨[(.tmp 30, (B ((!x28))))], [], B false, [], false⟩,
    ⟨[(.tmp 31, B false), (.tmp 4, .ref 0 5 0 0)], [(0, .own 5 [[I x7.T, I x7.P, I x7.Liquid, I x7.Vapour, I x7.Silica]])], .ref 0 5 0 4, [], false⟩,
    ⟨[(.tmp 31, B false), (.tmp 32, .ref 0 5 0 4)], [(0, .own 5 [[I x7.T, I x7.P, I x7.Liquid, I x7.Vapour, I x7.Silica]])], I x7.Silica, [], false⟩,
    ⟨[(.tmp 31, B false), (.func 31, (.fn (.func 31) [] [])), (.tmp 33, I x7.Silica), (.const (.int .i64 0), I 0), (.const (.int .i64 2000), I 2000)], [], B x31, [], false⟩,
    ⟨[(.tmp 31, B false), (.tmp 34, B x31)], [], (B ((!x31))), [], false⟩,
    ⟨[(.tmp 31, B false), (.const (.bool true), B true), (.tmp 35, (B ((!x31))))], [], (B ((!x31))), [], false⟩,
    ⟨[(.tmp 36, (B ((!x31))))], [], B false, [], false⟩,
    ⟨[(.tmp 37, B false), (.tmp 4, .ref 0 5 0 0)], [(0, .own 5 [[I x7.T, I x7.P, I x7.Liquid, I x7.Vapour, I x7.Silica]])], .ref 0 5 0 3, [], false⟩,
    ⟨[(.tmp 37, B false), (.tmp 38, .ref 0 5 0 3)], [(0, .own 5 [[I x7.T, I x7.P, I x7.Liquid, I x7.Vapour, I x7.Silica]])], I x7.Vapour, [], false⟩,
    ⟨[(.tmp 37, B false), (.tmp 4, .ref 0 5 0 0)], [(0, .own 5 [[I x7.T, I x7.P, I x7.Liquid, I x7.Vapour, I x7.Silica]])], .ref 0 5 0 2, [], false⟩,
    ⟨[(.tmp 37, B false), (.tmp 40, .ref 0 5 0 2)], [(0, .own 5 [[I x7.T, I x7.P, I x7.Liquid, I x7.Vapour, I x7.Silica]])], I x7.Liquid, [], false⟩,
    ⟨[(.tmp 37, B false), (.tmp 39, I x7.Vapour), (.tmp 41, I x7.Liquid)], [], (B ((decide (x7.Vapour ≤ x7.Liquid)))), [], false⟩,
    ⟨[(.tmp 37, B false), (.const (.bool true), B true), (.tmp 42, (B ((decide (x7.Vapour ≤ x7.Liquid)))))], [], (B ((decide (x7.Vapour ≤ x7.Liquid)))), [], false⟩,
    ⟨[(.tmp 43, (B ((decide (x7.Vapour ≤ x7.Liquid)))))], [], B false, [], false⟩,
    ⟨[(.tmp 44, B false), (.tmp 4, .ref 0 5 0 0)], [(0, .own 5 [[I x7.T, I x7.P, I x7.Liquid, I x7.Vapour, I x7.Silica]])], .ref 0 5 0 3, [], false⟩,
    ⟨[(.tmp 44, B false), (.tmp 45, .ref 0 5 0 3)], [(0, .own 5 [[I x7.T, I x7.P, I x7.Liquid, I x7.Vapour, I x7.Silica]])], I x7.Vapour, [], false⟩,
    ⟨[(.tmp 44, B false), (.tmp 46, I x7.Vapour), (.const (.int .i64 4000), I 4000)], [], (B ((decide (x7.Vapour > 4000)))), [], false⟩,
    ⟨[(.tmp 44, B false), (.const (.bool true), B true), (.tmp 47, (B ((decide (x7.Vapour > 4000)))))], [], (B ((decide (x7.Vapour > 4000)))), [], false⟩] (by exact ⟨by kernel_rfl, by kernel_rfl⟩) ?_ ?_
                  · exact ⟨fun _ => astep_faddr rfl Try.underlying49 rfl rfl ti3 (by decide) rfl,
    fun _ => astep_load rfl ti3 (by decide) rfl (Nat.le_of_ble_eq_true rfl) rfl,
    fun _ => astep_pcall (first := []) (cap := []) (vs := [I x7.T, I 0, I 400]) rfl enter31 (ref01_InX_ok N x7.T 0 400 _ hf21) rfl rfl (nl_cons (NLt.lit _) (nl_cons (NLt.lit _) (nl_cons (NLt.lit _) nl_nil))) (NLt.lit _) rfl,
    fun _ => astep_not rfl,
    fun _ => astep_b hb23 (astep_move rfl),
    fun _ => astep_guard (astep_faddr rfl Try.underlying49 rfl rfl ti3 (by decide) rfl),
    fun _ => astep_guard (astep_load rfl ti3 (by decide) rfl (Nat.le_of_ble_eq_true rfl) rfl),
    fun _ => astep_guard (astep_pcall (first := []) (cap := []) (vs := [I x7.P, I 1, I 10000]) rfl enter31 (ref01_InX_ok N x7.P 1 10000 _ hf24) rfl rfl (nl_cons (NLt.lit _) (nl_cons (NLt.lit _) (nl_cons (NLt.lit _) nl_nil))) (NLt.lit _) rfl),
    fun _ => astep_guard (astep_not rfl),
    fun _ => astep_pick rfl rfl,
    fun _ => astep_b hb26 (astep_move rfl),
    fun _ => astep_guard (astep_faddr rfl Try.underlying49 rfl rfl ti3 (by decide) rfl),
    fun _ => astep_guard (astep_load rfl ti3 (by decide) rfl (Nat.le_of_ble_eq_true rfl) rfl),
    fun _ => astep_guard (astep_pcall (first := []) (cap := []) (vs := [I x7.Liquid, I 0, I 4000]) rfl enter31 (ref01_InX_ok N x7.Liquid 0 4000 _ hf27) rfl rfl (nl_cons (NLt.lit _) (nl_cons (NLt.lit _) (nl_cons (NLt.lit _) nl_nil))) (NLt.lit _) rfl),
    fun _ => astep_guard (astep_not rfl),
    fun _ => astep_pick rfl rfl,
    fun _ => astep_b hb29 (astep_move rfl),
    fun _ => astep_guard (astep_faddr rfl Try.underlying49 rfl rfl ti3 (by decide) rfl),
    fun _ => astep_guard (astep_load rfl ti3 (by decide) rfl (Nat.le_of_ble_eq_true rfl) rfl),
    fun _ => astep_guard (astep_pcall (first := []) (cap := []) (vs := [I x7.Silica, I 0, I 2000]) rfl enter31 (ref01_InX_ok N x7.Silica 0 2000 _ hf30) rfl rfl (nl_cons (NLt.lit _) (nl_cons (NLt.lit _) (nl_cons (NLt.lit _) nl_nil))) (NLt.lit _) rfl),
    fun _ => astep_guard (astep_not rfl),
    fun _ => astep_pick rfl rfl,
    fun _ => astep_b hb32 (astep_move rfl),
    fun _ => astep_guard (astep_faddr rfl Try.underlying49 rfl rfl ti3 (by decide) rfl),
    fun _ => astep_guard (astep_load rfl ti3 (by decide) rfl (Nat.le_of_ble_eq_true rfl) rfl),
    fun _ => astep_guard (astep_faddr rfl Try.underlying49 rfl rfl ti3 (by decide) rfl),
    fun _ => astep_guard (astep_load rfl ti3 (by decide) rfl (Nat.le_of_ble_eq_true rfl) rfl),
    fun _ => astep_guard (astep_bin rfl rfl),
    fun _ => astep_pick rfl rfl,
    fun _ => astep_b hb33 (astep_move rfl),
    fun _ => astep_guard (astep_faddr rfl Try.underlying49 rfl rfl ti3 (by decide) rfl),
    fun _ => astep_guard (astep_load rfl ti3 (by decide) rfl (Nat.le_of_ble_eq_true rfl) rfl),
    fun _ => astep_guard (astep_bin rfl rfl),
    fun _ => astep_pick rfl rfl, trivial⟩
                  rcases Bool.eq_false_or_eq_true ((decide (x7.Vapour > 4000))) with hc34 | hc34
                  · replace h := bif_t hc34 h
                    refine awp_ift hc34 (by kernel_rfl) ?_
                    refine awp_reg [⟨[(.const (.bool false), B false)], [], B false, [], false⟩] (by exact ⟨by kernel_rfl, by kernel_rfl⟩) ?_ ?_
                    · exact ⟨fun _ => astep_assign rfl, trivial⟩
                    refine awp_ret ?_
                    refine thenA_r ?_
                    refine blockA_r ?_
                    refine thenA_r ?_
                    refine thenA_r ?_
                    refine blockA_r ?_
                    refine thenA_r ?_
                    obtain rfl := Option.some.inj h
                    exact ⟨⟨[B false], ⟨resOK_tmp (by kernel_rfl), trivial⟩, rfl⟩, (NLt.lit _), Nat.le_refl _, fun n hn => absurd hn (Nat.not_lt_zero n)⟩
                  · replace h := bif_f hc34 h
                    refine awp_ifn hc34 (by kernel_rfl) ?_
                    refine awp_skip ?_
                    refine thenA_n ?_
                    exact ⟨(), h, (mor_to (n := 103) (l' := [(0, (.dat 5 ((p0 : List GRow).map c_GRow))), (3, I y3), (4, .ref 0 5 0 0)]) (own' := [(.own 5 [[I x7.T, I x7.P, I x7.Liquid, I x7.Vapour, I x7.Silica]])]) [(0, (.dat 5 ((p0 : List GRow).map c_GRow))), (3, I y3), (4, .ref 0 5 0 0)] [0] [(.own 5 [[I x7.T, I x7.P, I x7.Liquid, I x7.Vapour, I x7.Silica]])] hφ0 (by kernel_rfl) (by kernel_rfl) (by kernel_rfl) ⟨rfl, .rn (.plain _ (nl_dat nl_GRow _)), rfl, .rn (.plain _ (NLt.lit _)), rfl, .rn (rnq_ref rfl), trivial⟩ ⟨(spw_box ⟨(.rn (.plain _ (NLt.lit _))), (.rn (.plain _ (NLt.lit _))), (.rn (.plain _ (NLt.lit _))), (.rn (.plain _ (NLt.lit _))), (.rn (.plain _ (NLt.lit _))), trivial⟩), trivial⟩)⟩
    · replace h := bif_f hc6 h
      refine awp_ifn hc6 (by kernel_rfl) ?_
      refine awp_exit ?_
      refine thenA_x ?_
      refine thenA_x ?_
      refine blockA_e rfl ?_
      refine thenA_n ?_
      exact ⟨(), h, (mor_to (n := 103) (l' := [(0, (.dat 5 ((p0 : List GRow).map c_GRow)))]) (own' := []) [(0, (.dat 5 ((p0 : List GRow).map c_GRow)))] [] [] hφ0 (by kernel_rfl) (by kernel_rfl) (by kernel_rfl) ⟨rfl, .rn (.plain _ (nl_dat nl_GRow _)), trivial⟩ trivial)⟩

def ref01_LevelsX_loop1 (N : Nat) (p0 : Int) (k1 : Unit → Option Bool) (p1 : (List Int)) : Nat → Int → Option Bool
  | 0, _ => none
  | n5 + 1, y3 =>
    bif (decide (y3 < (p1.length : Int))) then
      (getI p1 y3).bind fun x7 =>
      (ref01_InX N x7 0 (w64 (p0 - 1))).bind fun x12 =>
      bif (!x12) then
        some false
      else
        bif (decide (y3 > 0)) then
          (getI p1 (w64 (y3 - 1))).bind fun x15 =>
          bif (decide (x7 ≥ x15)) then
            some false
          else
            ref01_LevelsX_loop1 N p0 k1 p1 n5 (w64 (y3 + 1))
        else
          ref01_LevelsX_loop1 N p0 k1 p1 n5 (w64 (y3 + 1))
    else
      k1 ()
def ref01_LevelsX (N : Nat) (p0 : Int) (p1 : (List Int)) : Option Bool :=
  joinK (fun _ =>
      bif (decide ((p1.length : Int) ≥ 1)) then
        some (decide ((p1.length : Int) ≤ 20))
      else
        some false) fun k1 : Unit → Option Bool =>
  ref01_LevelsX_loop1 N p0 k1 p1 N 0
set_option maxRecDepth 100000 in
set_option maxHeartbeats 4000000 in
theorem ref01_LevelsX_ok (N : Nat) (p0 : Int) (p1 : (List Int)) (r : Bool) (h : ref01_LevelsX N p0 p1 = some r) : Spec Try.prog 50 [(I p0), (.dat 1 (p1.map c_i64))] [] (B r) [] := by
  refine spec_of_awp Try.func50 rfl 0 (Nat.le_of_ble_eq_true rfl) (fun X φ0 w0 hφ0 => ?_)
  unfold ref01_LevelsX at h
  refine awp_reg [⟨[(.const (.bool false), B false)], [], B false, [], false⟩] (by exact ⟨by kernel_rfl, by kernel_rfl⟩) ?_ ?_
  · exact ⟨fun _ => astep_assign rfl, trivial⟩
  obtain ⟨k1, hk_k1, h⟩ := joinK_out h
  refine awp_join (τ := Unit) (fun t => k1 t = some r) (fun _ => ⟨mk 44 [(1, (.dat 1 ((p1 : List Int).map c_i64)))], []⟩) (fun t h => ?_) ?_
  · subst hk_k1
    rcases Bool.eq_false_or_eq_true ((decide ((p1.length : Int) ≥ 1))) with hb2 | hb2
    · replace h := bif_t hb2 h
      refine awp_reg [⟨[(.tmp 1, (.dat 1 ((p1 : List Int).map c_i64)))], [], (.dat 1 ((p1 : List Int).map c_i64)), [], false⟩,
    ⟨[(.tmp 36, (.dat 1 ((p1 : List Int).map c_i64)))], [], (I ((p1.length : Int))), [], false⟩,
    ⟨[(.tmp 37, (I ((p1.length : Int)))), (.const (.int .i64 1), I 1)], [], (B ((decide ((p1.length : Int) ≥ 1)))), [], false⟩,
    ⟨[(.tmp 38, (B ((decide ((p1.length : Int) ≥ 1)))))], [], B true, [], false⟩,
    ⟨[(.tmp 39, B true), (.tmp 1, (.dat 1 ((p1 : List Int).map c_i64)))], [], (.dat 1 ((p1 : List Int).map c_i64)), [], false⟩,
    ⟨[(.tmp 39, B true), (.tmp 40, (.dat 1 ((p1 : List Int).map c_i64)))], [], (I ((p1.length : Int))), [], false⟩,
    ⟨[(.tmp 39, B true), (.tmp 41, (I ((p1.length : Int)))), (.const (.int .i64 20), I 20)], [], (B ((decide ((p1.length : Int) ≤ 20)))), [], false⟩,
    ⟨[(.tmp 39, B true), (.tmp 42, (B ((decide ((p1.length : Int) ≤ 20))))), (.const (.bool false), B false)], [], (B ((decide ((p1.length : Int) ≤ 20)))), [], false⟩,
    ⟨[(.tmp 43, (B ((decide ((p1.length : Int) ≤ 20)))))], [], (B ((decide ((p1.length : Int) ≤ 20)))), [], false⟩] (by exact ⟨by kernel_rfl, by kernel_rfl⟩) ?_ ?_
      · exact ⟨fun _ => astep_move rfl,
    fun _ => astep_lenm (c := c_i64) (l := p1) (astep_len rfl Try.underlying51 rfl),
    fun _ => astep_bin rfl rfl,
    fun _ => astep_b hb2 (astep_move rfl),
    fun _ => astep_guard (astep_move rfl),
    fun _ => astep_guard (astep_lenm (c := c_i64) (l := p1) (astep_len rfl Try.underlying51 rfl)),
    fun _ => astep_guard (astep_bin rfl rfl),
    fun _ => astep_pick rfl rfl,
    fun _ => astep_assign rfl, trivial⟩
      refine awp_ret ?_
      obtain rfl := Option.some.inj h
      exact ⟨⟨[(B ((decide ((p1.length : Int) ≤ 20))))], ⟨resOK_tmp (by kernel_rfl), trivial⟩, rfl⟩, (NLt.lit _), Nat.le_refl _, fun n hn => absurd hn (Nat.not_lt_zero n)⟩
    · replace h := bif_f hb2 h
      refine awp_reg [⟨[(.tmp 1, (.dat 1 ((p1 : List Int).map c_i64)))], [], (.dat 1 ((p1 : List Int).map c_i64)), [], false⟩,
    ⟨[(.tmp 36, (.dat 1 ((p1 : List Int).map c_i64)))], [], (I ((p1.length : Int))), [], false⟩,
    ⟨[(.tmp 37, (I ((p1.length : Int)))), (.const (.int .i64 1), I 1)], [], (B ((decide ((p1.length : Int) ≥ 1)))), [], false⟩,
    ⟨[(.tmp 38, (B ((decide ((p1.length : Int) ≥ 1)))))], [], B false, [], false⟩,
    ⟨[(.tmp 39, B false)], [], (.lit undef), [], true⟩,
    ⟨[(.tmp 39, B false)], [], (.lit undef), [], true⟩,
    ⟨[(.tmp 39, B false)], [], (.lit undef), [], true⟩,
    ⟨[(.tmp 39, B false), (.tmp 42, (.lit undef)), (.const (.bool false), B false)], [], B false, [], false⟩,
    ⟨[(.tmp 43, B false)], [], B false, [], false⟩] (by exact ⟨by kernel_rfl, by kernel_rfl⟩) ?_ ?_
      · exact ⟨fun _ => astep_move rfl,
    fun _ => astep_lenm (c := c_i64) (l := p1) (astep_len rfl Try.underlying51 rfl),
    fun _ => astep_bin rfl rfl,
    fun _ => astep_b hb2 (astep_move rfl),
    fun hs => (Bool.noConfusion hs),
    fun hs => (Bool.noConfusion hs),
    fun hs => (Bool.noConfusion hs),
    fun _ => astep_pick rfl rfl,
    fun _ => astep_assign rfl, trivial⟩
      refine awp_ret ?_
      obtain rfl := Option.some.inj h
      exact ⟨⟨[B false], ⟨resOK_tmp (by kernel_rfl), trivial⟩, rfl⟩, (NLt.lit _), Nat.le_refl _, fun n hn => absurd hn (Nat.not_lt_zero n)⟩
  · skip
    refine awp_reg [⟨[(.const (.int .i64 0), I 0)], [], I 0, [], false⟩] (by exact ⟨by kernel_rfl, by kernel_rfl⟩) ?_ ?_
    · exact ⟨fun _ => astep_assign rfl, trivial⟩
    refine awp_block ?_
    refine awp_mor (mor_to (n := 44) (l' := [(0, I p0), (1, (.dat 1 ((p1 : List Int).map c_i64))), (5, I 0)]) (own' := []) [(0, I p0), (1, (.dat 1 ((p1 : List Int).map c_i64))), (5, I 0)] [] [] hφ0 (by kernel_rfl) (by kernel_rfl) (by kernel_rfl) ⟨rfl, .rn (.plain _ (NLt.lit _)), rfl, .rn (.plain _ (nl_dat nl_i64 _)), rfl, .rn (.plain _ (NLt.lit _)), trivial⟩ trivial) ?_
    refine awp_ind (τ := Int) (fun n t => ref01_LevelsX_loop1 N p0 k1 p1 n t = some r) (fun y3 => ⟨mk 44 [(0, I p0), (1, (.dat 1 ((p1 : List Int).map c_i64))), (5, I y3)], []⟩) (fun t h => by rw [ref01_LevelsX_loop1] at h; cases h) (fun n5 ih y3 h => ?_) N (0) h
    rw [ref01_LevelsX_loop1] at h
    skip
    refine awp_seq ?_
    refine awp_reg [⟨[(.tmp 5, I y3)], [], I y3, [], false⟩,
    ⟨[(.tmp 1, (.dat 1 ((p1 : List Int).map c_i64)))], [], (.dat 1 ((p1 : List Int).map c_i64)), [], false⟩,
    ⟨[(.tmp 7, (.dat 1 ((p1 : List Int).map c_i64)))], [], (I ((p1.length : Int))), [], false⟩,
    ⟨[(.tmp 6, I y3), (.tmp 8, (I ((p1.length : Int))))], [], (B ((decide (y3 < (p1.length : Int))))), [], false⟩] (by exact ⟨by kernel_rfl, by kernel_rfl⟩) ?_ ?_
    · exact ⟨fun _ => astep_move rfl,
    fun _ => astep_move rfl,
    fun _ => astep_lenm (c := c_i64) (l := p1) (astep_len rfl Try.underlying51 rfl),
    fun _ => astep_bin rfl rfl, trivial⟩
    rcases Bool.eq_false_or_eq_true ((decide (y3 < (p1.length : Int)))) with hc6 | hc6
    · replace h := bif_t hc6 h
      refine awp_ift hc6 (by kernel_rfl) ?_
      refine awp_skip ?_
      refine thenA_n ?_
      refine awp_seq ?_
      refine awp_block ?_
      obtain ⟨x7, hg8, h⟩ := bind_out h
      obtain ⟨hi9, hj10⟩ := getI_some hg8
      obtain ⟨x12, hf11, h⟩ := bind_out h
      rcases Bool.eq_false_or_eq_true ((!x12)) with hb13 | hb13
      · replace h := bif_t hb13 h
        refine awp_regd [⟨[(.tmp 1, (.dat 1 ((p1 : List Int).map c_i64)))], [], (.dat 1 ((p1 : List Int).map c_i64)), [], false⟩,
    ⟨[(.tmp 5, I y3)], [], I y3, [], false⟩,
    ⟨[(.tmp 12, (.dat 1 ((p1 : List Int).map c_i64))), (.tmp 13, I y3)], [], (.dptr (c_i64 (x7)) 0), [], false⟩,
    ⟨[(.tmp 14, (.dptr (c_i64 (x7)) 0))], [], I x7, [], false⟩,
    ⟨[(.tmp 0, I p0)], [], I p0, [], false⟩,
    ⟨[(.tmp 16, I p0), (.const (.int .i64 1), I 1)], [], (I (w64 (p0 - 1))), [], false⟩,
    ⟨[(.func 31, (.fn (.func 31) [] [])), (.tmp 15, I x7), (.const (.int .i64 0), I 0), (.tmp 17, (I (w64 (p0 - 1))))], [], B x12, [], false⟩,
    ⟨[(.tmp 18, B x12)], [], (B ((!x12))), [], false⟩,
    ⟨[(.tmp 19, (B ((!x12))))], [], B true, [], false⟩,
    ⟨[(.tmp 20, B true)], [], (.lit undef), [], true⟩,
    ⟨[(.tmp 20, B true)], [], (.lit undef), [], true⟩,
    ⟨[(.tmp 20, B true)], [], (.lit undef), [], true⟩,
    ⟨[(.tmp 23, (.lit undef))], [], (.lit undef), [], true⟩,
    ⟨[(.tmp 23, (.lit undef))], [], (.lit undef), [], true⟩,
    ⟨[(.tmp 23, (.lit undef))], [], (.lit undef), [], true⟩,
    ⟨[(.tmp 23, (.lit undef))], [], (.lit undef), [], true⟩,
    ⟨[(.tmp 23, (.lit undef))], [], (.lit undef), [], true⟩,
    ⟨[(.tmp 23, (.lit undef))], [], (.lit undef), [], true⟩,
    ⟨[(.tmp 23, (.lit undef))], [], (.lit undef), [], true⟩,
    ⟨[(.tmp 23, (.lit undef))], [], (.lit undef), [], true⟩,
    ⟨[(.tmp 23, (.lit undef))], [], (.lit undef), [], true⟩,
    ⟨[(.tmp 23, (.lit undef))], [], (.lit undef), [], true⟩,
    ⟨[(.tmp 20, B true)], [], (.lit undef), [], true⟩,
    ⟨[(.tmp 20, B true), (.const (.bool true), B true), (.tmp 34, (.lit undef))], [], B true, [], false⟩] (by kernel_rfl) (by exact ⟨by kernel_rfl, by kernel_rfl⟩) (by kernel_rfl) ?_ ?_
        · exact ⟨fun _ => astep_move rfl,
    fun _ => astep_move rfl,
    fun _ => astep_idxd rfl Try.underlying51 ti3 rfl rfl hi9 (map_get c_i64 hj10) rfl,
    fun _ => astep_loadd rfl ti3 (by decide) (Nat.le_of_ble_eq_true rfl) rfl,
    fun _ => astep_move rfl,
    fun _ => astep_bin rfl rfl,
    fun _ => astep_pcall (first := []) (cap := []) (vs := [I x7, I 0, (I (w64 (p0 - 1)))]) rfl enter31 (ref01_InX_ok N x7 0 (w64 (p0 - 1)) _ hf11) rfl rfl (nl_cons (NLt.lit _) (nl_cons (NLt.lit _) (nl_cons (NLt.lit _) nl_nil))) (NLt.lit _) rfl,
    fun _ => astep_not rfl,
    fun _ => astep_b hb13 (astep_move rfl),
    fun hs => (Bool.noConfusion hs),
    fun hs => (Bool.noConfusion hs),
    fun hs => (Bool.noConfusion hs),
    fun hs => (Bool.noConfusion hs),
    fun hs => (Bool.noConfusion hs),
    fun hs => (Bool.noConfusion hs),
    fun hs => (Bool.noConfusion hs),
    fun hs => (Bool.noConfusion hs),
    fun hs => (Bool.noConfusion hs),
    fun hs => (Bool.noConfusion hs),
    fun hs => (Bool.noConfusion hs),
    fun hs => (Bool.noConfusion hs),
    fun hs => (Bool.noConfusion hs),
    fun hs => (Bool.noConfusion hs),
    fun _ => astep_pick rfl rfl, trivial⟩
        refine awp_true (by kernel_rfl) ?_
        refine awp_reg [⟨[(.const (.bool false), B false)], [], B false, [], false⟩] (by exact ⟨by kernel_rfl, by kernel_rfl⟩) ?_ ?_
        · exact ⟨fun _ => astep_assign rfl, trivial⟩
        refine awp_ret ?_
        refine blockA_r ?_
        refine thenA_r ?_
        refine thenA_r ?_
        refine blockA_r ?_
        refine thenA_r ?_
        obtain rfl := Option.some.inj h
        exact ⟨⟨[B false], ⟨resOK_tmp (by kernel_rfl), trivial⟩, rfl⟩, (NLt.lit _), Nat.le_refl _, fun n hn => absurd hn (Nat.not_lt_zero n)⟩
      · replace h := bif_f hb13 h
        rcases Bool.eq_false_or_eq_true ((decide (y3 > 0))) with hb14 | hb14
        · replace h := bif_t hb14 h
          obtain ⟨x15, hg16, h⟩ := bind_out h
          obtain ⟨hi17, hj18⟩ := getI_some hg16
          refine awp_regd [⟨[(.tmp 1, (.dat 1 ((p1 : List Int).map c_i64)))], [], (.dat 1 ((p1 : List Int).map c_i64)), [], false⟩,
    ⟨[(.tmp 5, I y3)], [], I y3, [], false⟩,
    ⟨[(.tmp 12, (.dat 1 ((p1 : List Int).map c_i64))), (.tmp 13, I y3)], [], (.dptr (c_i64 (x7)) 0), [], false⟩,
    ⟨[(.tmp 14, (.dptr (c_i64 (x7)) 0))], [], I x7, [], false⟩,
    ⟨[(.tmp 0, I p0)], [], I p0, [], false⟩,
    ⟨[(.tmp 16, I p0), (.const (.int .i64 1), I 1)], [], (I (w64 (p0 - 1))), [], false⟩,
    ⟨[(.func 31, (.fn (.func 31) [] [])), (.tmp 15, I x7), (.const (.int .i64 0), I 0), (.tmp 17, (I (w64 (p0 - 1))))], [], B x12, [], false⟩,
    ⟨[(.tmp 18, B x12)], [], (B ((!x12))), [], false⟩,
    ⟨[(.tmp 19, (B ((!x12))))], [], B false, [], false⟩,
    ⟨[(.tmp 20, B false), (.tmp 5, I y3)], [], I y3, [], false⟩,
    ⟨[(.tmp 20, B false), (.tmp 21, I y3), (.const (.int .i64 0), I 0)], [], (B ((decide (y3 > 0)))), [], false⟩,
    ⟨[(.tmp 20, B false), (.tmp 22, (B ((decide (y3 > 0)))))], [], B true, [], false⟩,
    ⟨[(.tmp 23, B true), (.tmp 1, (.dat 1 ((p1 : List Int).map c_i64)))], [], (.dat 1 ((p1 : List Int).map c_i64)), [], false⟩,
    ⟨[(.tmp 23, B true), (.tmp 5, I y3)], [], I y3, [], false⟩,
    ⟨[(.tmp 23, B true), (.tmp 24, (.dat 1 ((p1 : List Int).map c_i64))), (.tmp 25, I y3)], [], (.dptr (c_i64 (x7)) 0), [], false⟩,
    ⟨[(.tmp 23, B true), (.tmp 26, (.dptr (c_i64 (x7)) 0))], [], I x7, [], false⟩,
    ⟨[(.tmp 23, B true), (.tmp 1, (.dat 1 ((p1 : List Int).map c_i64)))], [], (.dat 1 ((p1 : List Int).map c_i64)), [], false⟩,
    ⟨[(.tmp 23, B true), (.tmp 5, I y3)], [], I y3, [], false⟩,
    ⟨[(.tmp 23, B true), (.tmp 29, I y3), (.const (.int .i64 1), I 1)], [], (I (w64 (y3 - 1))), [], false⟩,
    ⟨[(.tmp 23, B true), (.tmp 28, (.dat 1 ((p1 : List Int).map c_i64))), (.tmp 30, (I (w64 (y3 - 1))))], [], (.dptr (c_i64 (x15)) 0), [], false⟩,
    ⟨[(.tmp 23, B true), (.tmp 31, (.dptr (c_i64 (x15)) 0))], [], I x15, [], false⟩,
    ⟨[(.tmp 23, B true), (.tmp 27, I x7), (.tmp 32, I x15)], [], (B ((decide (x7 ≥ x15)))), [], false⟩,
    ⟨[(.tmp 20, B false), (.tmp 23, B true), (.tmp 33, (B ((decide (x7 ≥ x15))))), (.const (.bool false), B false)], [], (B ((decide (x7 ≥ x15)))), [], false⟩,
    ⟨[(.tmp 20, B false), (.const (.bool true), B true), (.tmp 34, (B ((decide (x7 ≥ x15)))))], [], (B ((decide (x7 ≥ x15)))), [], false⟩] (by kernel_rfl) (by exact ⟨by kernel_rfl, by kernel_rfl⟩) (by kernel_rfl) ?_ ?_
          · exact ⟨fun _ => astep_move rfl,
    fun _ => astep_move rfl,
    fun _ => astep_idxd rfl Try.underlying51 ti3 rfl rfl hi9 (map_get c_i64 hj10) rfl,
    fun _ => astep_loadd rfl ti3 (by decide) (Nat.le_of_ble_eq_true rfl) rfl,
    fun _ => astep_move rfl,
    fun _ => astep_bin rfl rfl,
    fun _ => astep_pcall (first := []) (cap := []) (vs := [I x7, I 0, (I (w64 (p0 - 1)))]) rfl enter31 (ref01_InX_ok N x7 0 (w64 (p0 - 1)) _ hf11) rfl rfl (nl_cons (NLt.lit _) (nl_cons (NLt.lit _) (nl_cons (NLt.lit _) nl_nil))) (NLt.lit _) rfl,
    fun _ => astep_not rfl,
    fun _ => astep_b hb13 (astep_move rfl),
    fun _ => astep_guard (astep_move rfl),
    fun _ => astep_guard (astep_bin rfl rfl),
    fun _ => astep_b hb14 (astep_guard (astep_move rfl)),
    fun _ => astep_guard (astep_move rfl),
    fun _ => astep_guard (astep_move rfl),
    fun _ => astep_guard (astep_idxd rfl Try.underlying51 ti3 rfl rfl hi9 (map_get c_i64 hj10) rfl),
    fun _ => astep_guard (astep_loadd rfl ti3 (by decide) (Nat.le_of_ble_eq_true rfl) rfl),
    fun _ => astep_guard (astep_move rfl),
    fun _ => astep_guard (astep_move rfl),
    fun _ => astep_guard (astep_bin rfl rfl),
    fun _ => astep_guard (astep_idxd rfl Try.underlying51 ti3 rfl rfl hi17 (map_get c_i64 hj18) rfl),
    fun _ => astep_guard (astep_loadd rfl ti3 (by decide) (Nat.le_of_ble_eq_true rfl) rfl),
    fun _ => astep_guard (astep_bin rfl rfl),
    fun _ => astep_guard (astep_pick rfl rfl),
    fun _ => astep_pick rfl rfl, trivial⟩
          rcases Bool.eq_false_or_eq_true ((decide (x7 ≥ x15))) with hc19 | hc19
          · replace h := bif_t hc19 h
            refine awp_ift hc19 (by kernel_rfl) ?_
            refine awp_reg [⟨[(.const (.bool false), B false)], [], B false, [], false⟩] (by exact ⟨by kernel_rfl, by kernel_rfl⟩) ?_ ?_
            · exact ⟨fun _ => astep_assign rfl, trivial⟩
            refine awp_ret ?_
            refine blockA_r ?_
            refine thenA_r ?_
            refine thenA_r ?_
            refine blockA_r ?_
            refine thenA_r ?_
            obtain rfl := Option.some.inj h
            exact ⟨⟨[B false], ⟨resOK_tmp (by kernel_rfl), trivial⟩, rfl⟩, (NLt.lit _), Nat.le_refl _, fun n hn => absurd hn (Nat.not_lt_zero n)⟩
          · replace h := bif_f hc19 h
            refine awp_ifn hc19 (by kernel_rfl) ?_
            refine awp_skip ?_
            refine blockA_n ?_
            refine thenA_n ?_
            refine awp_reg1 [⟨[(.tmp 5, I y3)], [], I y3, [], false⟩,
    ⟨[(.tmp 10, I y3), (.const (.int .i64 1), I 1)], [], (I (w64 (y3 + 1))), [], false⟩,
    ⟨[(.tmp 11, (I (w64 (y3 + 1))))], [], (I (w64 (y3 + 1))), [], false⟩] (by exact ⟨by kernel_rfl, by kernel_rfl⟩) ?_ ?_
            · exact ⟨fun _ => astep_move rfl,
    fun _ => astep_bin rfl rfl,
    fun _ => astep_assign rfl, trivial⟩
            refine thenA_n ?_
            exact around_mor (mor_to (n := 44) (l' := [(0, I p0), (1, (.dat 1 ((p1 : List Int).map c_i64))), (5, (I ((w64 (y3 + 1)))))]) (own' := []) [(0, I p0), (1, (.dat 1 ((p1 : List Int).map c_i64))), (5, (I (w64 (y3 + 1))))] [] [] hφ0 (by kernel_rfl) (by kernel_rfl) (by kernel_rfl) ⟨rfl, .rn (.plain _ (NLt.lit _)), rfl, .rn (.plain _ (nl_dat nl_i64 _)), rfl, .rn (.plain _ (NLt.lit _)), trivial⟩ trivial) (ih (w64 (y3 + 1)) h)
        · replace h := bif_f hb14 h
          refine awp_regd [⟨[(.tmp 1, (.dat 1 ((p1 : List Int).map c_i64)))], [], (.dat 1 ((p1 : List Int).map c_i64)), [], false⟩,
    ⟨[(.tmp 5, I y3)], [], I y3, [], false⟩,
    ⟨[(.tmp 12, (.dat 1 ((p1 : List Int).map c_i64))), (.tmp 13, I y3)], [], (.dptr (c_i64 (x7)) 0), [], false⟩,
    ⟨[(.tmp 14, (.dptr (c_i64 (x7)) 0))], [], I x7, [], false⟩,
    ⟨[(.tmp 0, I p0)], [], I p0, [], false⟩,
    ⟨[(.tmp 16, I p0), (.const (.int .i64 1), I 1)], [], (I (w64 (p0 - 1))), [], false⟩,
    ⟨[(.func 31, (.fn (.func 31) [] [])), (.tmp 15, I x7), (.const (.int .i64 0), I 0), (.tmp 17, (I (w64 (p0 - 1))))], [], B x12, [], false⟩,
    ⟨[(.tmp 18, B x12)], [], (B ((!x12))), [], false⟩,
    ⟨[(.tmp 19, (B ((!x12))))], [], B false, [], false⟩,
    ⟨[(.tmp 20, B false), (.tmp 5, I y3)], [], I y3, [], false⟩,
    ⟨[(.tmp 20, B false), (.tmp 21, I y3), (.const (.int .i64 0), I 0)], [], (B ((decide (y3 > 0)))), [], false⟩,
    ⟨[(.tmp 20, B false), (.tmp 22, (B ((decide (y3 > 0)))))], [], B false, [], false⟩,
    ⟨[(.tmp 23, B false)], [], (.lit undef), [], true⟩,
    ⟨[(.tmp 23, B false)], [], (.lit undef), [], true⟩,
    ⟨[(.tmp 23, B false)], [], (.lit undef), [], true⟩,
    ⟨[(.tmp 23, B false)], [], (.lit undef), [], true⟩,
    ⟨[(.tmp 23, B false)], [], (.lit undef), [], true⟩,
    ⟨[(.tmp 23, B false)], [], (.lit undef), [], true⟩,
    ⟨[(.tmp 23, B false)], [], (.lit undef), [], true⟩,
    ⟨[(.tmp 23, B false)], [], (.lit undef), [], true⟩,
    ⟨[(.tmp 23, B false)], [], (.lit undef), [], true⟩,
    ⟨[(.tmp 23, B false)], [], (.lit undef), [], true⟩,
    ⟨[(.tmp 20, B false), (.tmp 23, B false), (.tmp 33, (.lit undef)), (.const (.bool false), B false)], [], B false, [], false⟩,
    ⟨[(.tmp 20, B false), (.const (.bool true), B true), (.tmp 34, B false)], [], B false, [], false⟩] (by kernel_rfl) (by exact ⟨by kernel_rfl, by kernel_rfl⟩) (by kernel_rfl) ?_ ?_
          · exact ⟨fun _ => astep_move rfl,
    fun _ => astep_move rfl,
    fun _ => astep_idxd rfl Try.underlying51 ti3 rfl rfl hi9 (map_get c_i64 hj10) rfl,
    fun _ => astep_loadd rfl ti3 (by decide) (Nat.le_of_ble_eq_true rfl) rfl,
    fun _ => astep_move rfl,
    fun _ => astep_bin rfl rfl,
    fun _ => astep_pcall (first := []) (cap := []) (vs := [I x7, I 0, (I (w64 (p0 - 1)))]) rfl enter31 (ref01_InX_ok N x7 0 (w64 (p0 - 1)) _ hf11) rfl rfl (nl_cons (NLt.lit _) (nl_cons (NLt.lit _) (nl_cons (NLt.lit _) nl_nil))) (NLt.lit _) rfl,
    fun _ => astep_not rfl,
    fun _ => astep_b hb13 (astep_move rfl),
    fun _ => astep_guard (astep_move rfl),
    fun _ => astep_guard (astep_bin rfl rfl),
    fun _ => astep_b hb14 (astep_guard (astep_move rfl)),
    fun hs => (Bool.noConfusion hs),
    fun hs => (Bool.noConfusion hs),
    fun hs => (Bool.noConfusion hs),
    fun hs => (Bool.noConfusion hs),
    fun hs => (Bool.noConfusion hs),
    fun hs => (Bool.noConfusion hs),
    fun hs => (Bool.noConfusion hs),
    fun hs => (Bool.noConfusion hs),
    fun hs => (Bool.noConfusion hs),
    fun hs => (Bool.noConfusion hs),
    fun _ => astep_guard (astep_pick rfl rfl),
    fun _ => astep_pick rfl rfl, trivial⟩
          refine awp_false (by kernel_rfl) ?_
          refine awp_skip ?_
          refine blockA_n ?_
          refine thenA_n ?_
          refine awp_reg1 [⟨[(.tmp 5, I y3)], [], I y3, [], false⟩,
    ⟨[(.tmp 10, I y3), (.const (.int .i64 1), I 1)], [], (I (w64 (y3 + 1))), [], false⟩,
    ⟨[(.tmp 11, (I (w64 (y3 + 1))))], [], (I (w64 (y3 + 1))), [], false⟩] (by exact ⟨by kernel_rfl, by kernel_rfl⟩) ?_ ?_
          · exact ⟨fun _ => astep_move rfl,
    fun _ => astep_bin rfl rfl,
    fun _ => astep_assign rfl, trivial⟩
          refine thenA_n ?_
          exact around_mor (mor_to (n := 44) (l' := [(0, I p0), (1, (.dat 1 ((p1 : List Int).map c_i64))), (5, (I ((w64 (y3 + 1)))))]) (own' := []) [(0, I p0), (1, (.dat 1 ((p1 : List Int).map c_i64))), (5, (I (w64 (y3 + 1))))] [] [] hφ0 (by kernel_rfl) (by kernel_rfl) (by kernel_rfl) ⟨rfl, .rn (.plain _ (NLt.lit _)), rfl, .rn (.plain _ (nl_dat nl_i64 _)), rfl, .rn (.plain _ (NLt.lit _)), trivial⟩ trivial) (ih (w64 (y3 + 1)) h)
    · replace h := bif_f hc6 h
      refine awp_ifn hc6 (by kernel_rfl) ?_
      refine awp_exit ?_
      refine thenA_x ?_
      refine thenA_x ?_
      refine blockA_e rfl ?_
      refine thenA_n ?_
      exact ⟨(), h, (mor_to (n := 44) (l' := [(1, (.dat 1 ((p1 : List Int).map c_i64)))]) (own' := []) [(1, (.dat 1 ((p1 : List Int).map c_i64)))] [] [] hφ0 (by kernel_rfl) (by kernel_rfl) (by kernel_rfl) ⟨rfl, .rn (.plain _ (nl_dat nl_i64 _)), trivial⟩ trivial)⟩

def ref01_RightStreamX (N : Nat) (p0 : GStream) : Option Bool :=
  (ref01_InX N p0.Mass 0 1000000).bind fun x2 =>
  bif x2 then
    (ref01_InX N p0.Heat 0 (w64 (4000 * p0.Mass))).bind fun x5 =>
    bif x5 then
      (ref01_InX N p0.Silica 0 (w64 (10000 * p0.Mass))).bind fun x8 =>
      bif x8 then
        (ref01_InX N p0.Gas 0 1000000000).bind fun x11 =>
        some x11
      else
        some false
    else
      some false
  else
    some false
set_option maxRecDepth 100000 in
set_option maxHeartbeats 4000000 in
theorem ref01_RightStreamX_ok (N : Nat) (p0 : GStream) (r : Bool) (h : ref01_RightStreamX N p0 = some r) : Spec Try.prog 24 [(.agg (c_GStream p0))] [] (B r) [] := by
  refine spec_of_awp Try.func24 rfl 0 (Nat.le_of_ble_eq_true rfl) (fun X φ0 w0 hφ0 => ?_)
  unfold ref01_RightStreamX at h
  refine awp_reg [⟨[(.tmp 0, (.agg [I p0.Mass, I p0.Heat, I p0.Silica, I p0.Gas]))], [(0, .unused)], .ref 0 4 0 0, [(0, .own 4 [[I p0.Mass, I p0.Heat, I p0.Silica, I p0.Gas]])], false⟩,
    ⟨[(.const (.bool false), B false)], [], B false, [], false⟩] (by exact ⟨by kernel_rfl, by kernel_rfl⟩) ?_ ?_
  · exact ⟨fun _ => astep_box rfl (by rfl) rfl rfl,
    fun _ => astep_assign rfl, trivial⟩
  obtain ⟨x2, hf1, h⟩ := bind_out h
  rcases Bool.eq_false_or_eq_true (x2) with hb3 | hb3
  · replace h := bif_t hb3 h
    obtain ⟨x5, hf4, h⟩ := bind_out h
    rcases Bool.eq_false_or_eq_true (x5) with hb6 | hb6
    · replace h := bif_t hb6 h
      obtain ⟨x8, hf7, h⟩ := bind_out h
      rcases Bool.eq_false_or_eq_true (x8) with hb9 | hb9
      · replace h := bif_t hb9 h
        obtain ⟨x11, hf10, h⟩ := bind_out h
        refine awp_reg [⟨[(.tmp 1, .ref 0 4 0 0)], [(0, .own 4 [[I p0.Mass, I p0.Heat, I p0.Silica, I p0.Gas]])], .ref 0 4 0 0, [], false⟩,
    ⟨[(.tmp 3, .ref 0 4 0 0)], [(0, .own 4 [[I p0.Mass, I p0.Heat, I p0.Silica, I p0.Gas]])], I p0.Mass, [], false⟩,
    ⟨[(.func 31, (.fn (.func 31) [] [])), (.tmp 4, I p0.Mass), (.const (.int .i64 0), I 0), (.const (.int .i64 1000000), I 1000000)], [], B x2, [], false⟩,
    ⟨[(.tmp 5, B x2)], [], B true, [], false⟩,
    ⟨[(.tmp 6, B true), (.tmp 1, .ref 0 4 0 0)], [(0, .own 4 [[I p0.Mass, I p0.Heat, I p0.Silica, I p0.Gas]])], .ref 0 4 0 1, [], false⟩,
    ⟨[(.tmp 6, B true), (.tmp 7, .ref 0 4 0 1)], [(0, .own 4 [[I p0.Mass, I p0.Heat, I p0.Silica, I p0.Gas]])], I p0.Heat, [], false⟩,
    ⟨[(.tmp 6, B true), (.tmp 1, .ref 0 4 0 0)], [(0, .own 4 [[I p0.Mass, I p0.Heat, I p0.Silica, I p0.Gas]])], .ref 0 4 0 0, [], false⟩,
    ⟨[(.tmp 6, B true), (.tmp 9, .ref 0 4 0 0)], [(0, .own 4 [[I p0.Mass, I p0.Heat, I p0.Silica, I p0.Gas]])], I p0.Mass, [], false⟩,
    ⟨[(.tmp 6, B true), (.const (.int .i64 4000), I 4000), (.tmp 10, I p0.Mass)], [], (I (w64 (4000 * p0.Mass))), [], false⟩,
    ⟨[(.tmp 6, B true), (.func 31, (.fn (.func 31) [] [])), (.tmp 8, I p0.Heat), (.const (.int .i64 0), I 0), (.tmp 11, (I (w64 (4000 * p0.Mass))))], [], B x5, [], false⟩,
    ⟨[(.tmp 6, B true), (.tmp 12, B x5), (.const (.bool false), B false)], [], B x5, [], false⟩,
    ⟨[(.tmp 13, B x5)], [], B true, [], false⟩,
    ⟨[(.tmp 14, B true), (.tmp 1, .ref 0 4 0 0)], [(0, .own 4 [[I p0.Mass, I p0.Heat, I p0.Silica, I p0.Gas]])], .ref 0 4 0 2, [], false⟩,
    ⟨[(.tmp 14, B true), (.tmp 15, .ref 0 4 0 2)], [(0, .own 4 [[I p0.Mass, I p0.Heat, I p0.Silica, I p0.Gas]])], I p0.Silica, [], false⟩,
    ⟨[(.tmp 14, B true), (.tmp 1, .ref 0 4 0 0)], [(0, .own 4 [[I p0.Mass, I p0.Heat, I p0.Silica, I p0.Gas]])], .ref 0 4 0 0, [], false⟩,
    ⟨[(.tmp 14, B true), (.tmp 17, .ref 0 4 0 0)], [(0, .own 4 [[I p0.Mass, I p0.Heat, I p0.Silica, I p0.Gas]])], I p0.Mass, [], false⟩,
    ⟨[(.tmp 14, B true), (.const (.int .i64 10000), I 10000), (.tmp 18, I p0.Mass)], [], (I (w64 (10000 * p0.Mass))), [], false⟩,
    ⟨[(.tmp 14, B true), (.func 31, (.fn (.func 31) [] [])), (.tmp 16, I p0.Silica), (.const (.int .i64 0), I 0), (.tmp 19, (I (w64 (10000 * p0.Mass))))], [], B x8, [], false⟩,
    ⟨[(.tmp 14, B true), (.tmp 20, B x8), (.const (.bool false), B false)], [], B x8, [], false⟩,
    ⟨[(.tmp 21, B x8)], [], B true, [], false⟩,
    ⟨[(.tmp 22, B true), (.tmp 1, .ref 0 4 0 0)], [(0, .own 4 [[I p0.Mass, I p0.Heat, I p0.Silica, I p0.Gas]])], .ref 0 4 0 3, [], false⟩,
    ⟨[(.tmp 22, B true), (.tmp 23, .ref 0 4 0 3)], [(0, .own 4 [[I p0.Mass, I p0.Heat, I p0.Silica, I p0.Gas]])], I p0.Gas, [], false⟩,
    ⟨[(.tmp 22, B true), (.func 31, (.fn (.func 31) [] [])), (.tmp 24, I p0.Gas), (.const (.int .i64 0), I 0), (.const (.int .i64 1000000000), I 1000000000)], [], B x11, [], false⟩,
    ⟨[(.tmp 22, B true), (.tmp 25, B x11), (.const (.bool false), B false)], [], B x11, [], false⟩,
    ⟨[(.tmp 26, B x11)], [], B x11, [], false⟩] (by exact ⟨by kernel_rfl, by kernel_rfl⟩) ?_ ?_
        · exact ⟨fun _ => astep_faddr rfl Try.underlying39 rfl rfl ti3 (by decide) rfl,
    fun _ => astep_load rfl ti3 (by decide) rfl (Nat.le_of_ble_eq_true rfl) rfl,
    fun _ => astep_pcall (first := []) (cap := []) (vs := [I p0.Mass, I 0, I 1000000]) rfl enter31 (ref01_InX_ok N p0.Mass 0 1000000 _ hf1) rfl rfl (nl_cons (NLt.lit _) (nl_cons (NLt.lit _) (nl_cons (NLt.lit _) nl_nil))) (NLt.lit _) rfl,
    fun _ => astep_b hb3 (astep_move rfl),
    fun _ => astep_guard (astep_faddr rfl Try.underlying39 rfl rfl ti3 (by decide) rfl),
    fun _ => astep_guard (astep_load rfl ti3 (by decide) rfl (Nat.le_of_ble_eq_true rfl) rfl),
    fun _ => astep_guard (astep_faddr rfl Try.underlying39 rfl rfl ti3 (by decide) rfl),
    fun _ => astep_guard (astep_load rfl ti3 (by decide) rfl (Nat.le_of_ble_eq_true rfl) rfl),
    fun _ => astep_guard (astep_bin rfl rfl),
    fun _ => astep_guard (astep_pcall (first := []) (cap := []) (vs := [I p0.Heat, I 0, (I (w64 (4000 * p0.Mass)))]) rfl enter31 (ref01_InX_ok N p0.Heat 0 (w64 (4000 * p0.Mass)) _ hf4) rfl rfl (nl_cons (NLt.lit _) (nl_cons (NLt.lit _) (nl_cons (NLt.lit _) nl_nil))) (NLt.lit _) rfl),
    fun _ => astep_pick rfl rfl,
    fun _ => astep_b hb6 (astep_move rfl),
    fun _ => astep_guard (astep_faddr rfl Try.underlying39 rfl rfl ti3 (by decide) rfl),
    fun _ => astep_guard (astep_load rfl ti3 (by decide) rfl (Nat.le_of_ble_eq_true rfl) rfl),
    fun _ => astep_guard (astep_faddr rfl Try.underlying39 rfl rfl ti3 (by decide) rfl),
    fun _ => astep_guard (astep_load rfl ti3 (by decide) rfl (Nat.le_of_ble_eq_true rfl) rfl),
    fun _ => astep_guard (astep_bin rfl rfl),
    fun _ => astep_guard (astep_pcall (first := []) (cap := []) (vs := [I p0.Silica, I 0, (I (w64 (10000 * p0.Mass)))]) rfl enter31 (ref01_InX_ok N p0.Silica 0 (w64 (10000 * p0.Mass)) _ hf7) rfl rfl (nl_cons (NLt.lit _) (nl_cons (NLt.lit _) (nl_cons (NLt.lit _) nl_nil))) (NLt.lit _) rfl),
    fun _ => astep_pick rfl rfl,
    fun _ => astep_b hb9 (astep_move rfl),
    fun _ => astep_guard (astep_faddr rfl Try.underlying39 rfl rfl ti3 (by decide) rfl),
    fun _ => astep_guard (astep_load rfl ti3 (by decide) rfl (Nat.le_of_ble_eq_true rfl) rfl),
    fun _ => astep_guard (astep_pcall (first := []) (cap := []) (vs := [I p0.Gas, I 0, I 1000000000]) rfl enter31 (ref01_InX_ok N p0.Gas 0 1000000000 _ hf10) rfl rfl (nl_cons (NLt.lit _) (nl_cons (NLt.lit _) (nl_cons (NLt.lit _) nl_nil))) (NLt.lit _) rfl),
    fun _ => astep_pick rfl rfl,
    fun _ => astep_assign rfl, trivial⟩
        refine awp_ret ?_
        obtain rfl := Option.some.inj h
        exact ⟨⟨[B x11], ⟨resOK_tmp (by kernel_rfl), trivial⟩, rfl⟩, (NLt.lit _), Nat.le_refl _, fun n hn => absurd hn (Nat.not_lt_zero n)⟩
      · replace h := bif_f hb9 h
        refine awp_reg [⟨[(.tmp 1, .ref 0 4 0 0)], [(0, .own 4 [[I p0.Mass, I p0.Heat, I p0.Silica, I p0.Gas]])], .ref 0 4 0 0, [], false⟩,
    ⟨[(.tmp 3, .ref 0 4 0 0)], [(0, .own 4 [[I p0.Mass, I p0.Heat, I p0.Silica, I p0.Gas]])], I p0.Mass, [], false⟩,
    ⟨[(.func 31, (.fn (.func 31) [] [])), (.tmp 4, I p0.Mass), (.const (.int .i64 0), I 0), (.const (.int .i64 1000000), I 1000000)], [], B x2, [], false⟩,
    ⟨[(.tmp 5, B x2)], [], B true, [], false⟩,
    ⟨[(.tmp 6, B true), (.tmp 1, .ref 0 4 0 0)], [(0, .own 4 [[I p0.Mass, I p0.Heat, I p0.Silica, I p0.Gas]])], .ref 0 4 0 1, [], false⟩,
    ⟨[(.tmp 6, B true), (.tmp 7, .ref 0 4 0 1)], [(0, .own 4 [[I p0.Mass, I p0.Heat, I p0.Silica, I p0.Gas]])], I p0.Heat, [], false⟩,
    ⟨[(.tmp 6, B true), (.tmp 1, .ref 0 4 0 0)], [(0, .own 4 [[I p0.Mass, I p0.Heat, I p0.Silica, I p0.Gas]])], .ref 0 4 0 0, [], false⟩,
    ⟨[(.tmp 6, B true), (.tmp 9, .ref 0 4 0 0)], [(0, .own 4 [[I p0.Mass, I p0.Heat, I p0.Silica, I p0.Gas]])], I p0.Mass, [], false⟩,
    ⟨[(.tmp 6, B true), (.const (.int .i64 4000), I 4000), (.tmp 10, I p0.Mass)], [], (I (w64 (4000 * p0.Mass))), [], false⟩,
    ⟨[(.tmp 6, B true), (.func 31, (.fn (.func 31) [] [])), (.tmp 8, I p0.Heat), (.const (.int .i64 0), I 0), (.tmp 11, (I (w64 (4000 * p0.Mass))))], [], B x5, [], false⟩,
    ⟨[(.tmp 6, B true), (.tmp 12, B x5), (.const (.bool false), B false)], [], B x5, [], false⟩,
    ⟨[(.tmp 13, B x5)], [], B true, [], false⟩,
    ⟨[(.tmp 14, B true), (.tmp 1, .ref 0 4 0 0)], [(0, .own 4 [[I p0.Mass, I p0.Heat, I p0.Silica, I p0.Gas]])], .ref 0 4 0 2, [], false⟩,
    ⟨[(.tmp 14, B true), (.tmp 15, .ref 0 4 0 2)], [(0, .own 4 [[I p0.Mass, I p0.Heat, I p0.Silica, I p0.Gas]])], I p0.Silica, [], false⟩,
    ⟨[(.tmp 14, B true), (.tmp 1, .ref 0 4 0 0)], [(0, .own 4 [[I p0.Mass, I p0.Heat, I p0.Silica, I p0.Gas]])], .ref 0 4 0 0, [], false⟩,
    ⟨[(.tmp 14, B true), (.tmp 17, .ref 0 4 0 0)], [(0, .own 4 [[I p0.Mass, I p0.Heat, I p0.Silica, I p0.Gas]])], I p0.Mass, [], false⟩,
    ⟨[(.tmp 14, B true), (.const (.int .i64 10000), I 10000), (.tmp 18, I p0.Mass)], [], (I (w64 (10000 * p0.Mass))), [], false⟩,
    ⟨[(.tmp 14, B true), (.func 31, (.fn (.func 31) [] [])), (.tmp 16, I p0.Silica), (.const (.int .i64 0), I 0), (.tmp 19, (I (w64 (10000 * p0.Mass))))], [], B x8, [], false⟩,
    ⟨[(.tmp 14, B true), (.tmp 20, B x8), (.const (.bool false), B false)], [], B x8, [], false⟩,
    ⟨[(.tmp 21, B x8)], [], B false, [], false⟩,
    ⟨[(.tmp 22, B false)], [], (.lit undef), [], true⟩,
    ⟨[(.tmp 22, B false)], [], (.lit undef), [], true⟩,
    ⟨[(.tmp 22, B false)], [], (.lit undef), [], true⟩,
    ⟨[(.tmp 22, B false), (.tmp 25, (.lit undef)), (.const (.bool false), B false)], [], B false, [], false⟩,
    ⟨[(.tmp 26, B false)], [], B false, [], false⟩] (by exact ⟨by kernel_rfl, by kernel_rfl⟩) ?_ ?_
        · exact ⟨fun _ => astep_faddr rfl Try.underlying39 rfl rfl ti3 (by decide) rfl,
    fun _ => astep_load rfl ti3 (by decide) rfl (Nat.le_of_ble_eq_true rfl) rfl,
    fun _ => astep_pcall (first := []) (cap := []) (vs := [I p0.Mass, I 0, I 1000000]) rfl enter31 (ref01_InX_ok N p0.Mass 0 1000000 _ hf1) rfl rfl (nl_cons (NLt.lit _) (nl_cons (NLt.lit _) (nl_cons (NLt.lit _) nl_nil))) (NLt.lit _) rfl,
    fun _ => astep_b hb3 (astep_move rfl),
    fun _ => astep_guard (astep_faddr rfl Try.underlying39 rfl rfl ti3 (by decide) rfl),
    fun _ => astep_guard (astep_load rfl ti3 (by decide) rfl (Nat.le_of_ble_eq_true rfl) rfl),
    fun _ => astep_guard (astep_faddr rfl Try.underlying39 rfl rfl ti3 (by decide) rfl),
    fun _ => astep_guard (astep_load rfl ti3 (by decide) rfl (Nat.le_of_ble_eq_true rfl) rfl),
    fun _ => astep_guard (astep_bin rfl rfl),
    fun _ => astep_guard (astep_pcall (first := []) (cap := []) (vs := [I p0.Heat, I 0, (I (w64 (4000 * p0.Mass)))]) rfl enter31 (ref01_InX_ok N p0.Heat 0 (w64 (4000 * p0.Mass)) _ hf4) rfl rfl (nl_cons (NLt.lit _) (nl_cons (NLt.lit _) (nl_cons (NLt.lit _) nl_nil))) (NLt.lit _) rfl),
    fun _ => astep_pick rfl rfl,
    fun _ => astep_b hb6 (astep_move rfl),
    fun _ => astep_guard (astep_faddr rfl Try.underlying39 rfl rfl ti3 (by decide) rfl),
    fun _ => astep_guard (astep_load rfl ti3 (by decide) rfl (Nat.le_of_ble_eq_true rfl) rfl),
    fun _ => astep_guard (astep_faddr rfl Try.underlying39 rfl rfl ti3 (by decide) rfl),
    fun _ => astep_guard (astep_load rfl ti3 (by decide) rfl (Nat.le_of_ble_eq_true rfl) rfl),
    fun _ => astep_guard (astep_bin rfl rfl),
    fun _ => astep_guard (astep_pcall (first := []) (cap := []) (vs := [I p0.Silica, I 0, (I (w64 (10000 * p0.Mass)))]) rfl enter31 (ref01_InX_ok N p0.Silica 0 (w64 (10000 * p0.Mass)) _ hf7) rfl rfl (nl_cons (NLt.lit _) (nl_cons (NLt.lit _) (nl_cons (NLt.lit _) nl_nil))) (NLt.lit _) rfl),
    fun _ => astep_pick rfl rfl,
    fun _ => astep_b hb9 (astep_move rfl),
    fun hs => (Bool.noConfusion hs),
    fun hs => (Bool.noConfusion hs),
    fun hs => (Bool.noConfusion hs),
    fun _ => astep_pick rfl rfl,
    fun _ => astep_assign rfl, trivial⟩
        refine awp_ret ?_
        obtain rfl := Option.some.inj h
        exact ⟨⟨[B false], ⟨resOK_tmp (by kernel_rfl), trivial⟩, rfl⟩, (NLt.lit _), Nat.le_refl _, fun n hn => absurd hn (Nat.not_lt_zero n)⟩
    · replace h := bif_f hb6 h
      refine awp_reg [⟨[(.tmp 1, .ref 0 4 0 0)], [(0, .own 4 [[I p0.Mass, I p0.Heat, I p0.Silica, I p0.Gas]])], .ref 0 4 0 0, [], false⟩,
    ⟨[(.tmp 3, .ref 0 4 0 0)], [(0, .own 4 [[I p0.Mass, I p0.Heat, I p0.Silica, I p0.Gas]])], I p0.Mass, [], false⟩,
    ⟨[(.func 31, (.fn (.func 31) [] [])), (.tmp 4, I p0.Mass), (.const (.int .i64 0), I 0), (.const (.int .i64 1000000), I 1000000)], [], B x2, [], false⟩,
    ⟨[(.tmp 5, B x2)], [], B true, [], false⟩,
    ⟨[(.tmp 6, B true), (.tmp 1, .ref 0 4 0 0)], [(0, .own 4 [[I p0.Mass, I p0.Heat, I p0.Silica, I p0.Gas]])], .ref 0 4 0 1, [], false⟩,
    ⟨[(.tmp 6, B true), (.tmp 7, .ref 0 4 0 1)], [(0, .own 4 [[I p0.Mass, I p0.Heat, I p0.Silica, I p0.Gas]])], I p0.Heat, [], false⟩,
    ⟨[(.tmp 6, B true), (.tmp 1, .ref 0 4 0 0)], [(0, .own 4 [[I p0.Mass, I p0.Heat, I p0.Silica, I p0.Gas]])], .ref 0 4 0 0, [], false⟩,
    ⟨[(.tmp 6, B true), (.tmp 9, .ref 0 4 0 0)], [(0, .own 4 [[I p0.Mass, I p0.Heat, I p0.Silica, I p0.Gas]])], I p0.Mass, [], false⟩,
    ⟨[(.tmp 6, B true), (.const (.int .i64 4000), I 4000), (.tmp 10, I p0.Mass)], [], (I (w64 (4000 * p0.Mass))), [], false⟩,
    ⟨[(.tmp 6, B true), (.func 31, (.fn (.func 31) [] [])), (.tmp 8, I p0.Heat), (.const (.int .i64 0), I 0), (.tmp 11, (I (w64 (4000 * p0.Mass))))], [], B x5, [], false⟩,
    ⟨[(.tmp 6, B true), (.tmp 12, B x5), (.const (.bool false), B false)], [], B x5, [], false⟩,
    ⟨[(.tmp 13, B x5)], [], B false, [], false⟩,
    ⟨[(.tmp 14, B false)], [], (.lit undef), [], true⟩,
    ⟨[(.tmp 14, B false)], [], (.lit undef), [], true⟩,
    ⟨[(.tmp 14, B false)], [], (.lit undef), [], true⟩,
    ⟨[(.tmp 14, B false)], [], (.lit undef), [], true⟩,
    ⟨[(.tmp 14, B false)], [], (.lit undef), [], true⟩,
    ⟨[(.tmp 14, B false)], [], (.lit undef), [], true⟩,
    ⟨[(.tmp 14, B false), (.tmp 20, (.lit undef)), (.const (.bool false), B false)], [], B false, [], false⟩,
    ⟨[(.tmp 21, B false)], [], B false, [], false⟩,
    ⟨[(.tmp 22, B false)], [], (.lit undef), [], true⟩,
    ⟨[(.tmp 22, B false)], [], (.lit undef), [], true⟩,
    ⟨[(.tmp 22, B false)], [], (.lit undef), [], true⟩,
    ⟨[(.tmp 22, B false), (.tmp 25, (.lit undef)), (.const (.bool false), B false)], [], B false, [], false⟩,
    ⟨[(.tmp 26, B false)], [], B false, [], false⟩] (by exact ⟨by kernel_rfl, by kernel_rfl⟩) ?_ ?_
      · exact ⟨fun _ => astep_faddr rfl Try.underlying39 rfl rfl ti3 (by decide) rfl,
    fun _ => astep_load rfl ti3 (by decide) rfl (Nat.le_of_ble_eq_true rfl) rfl,
    fun _ => astep_pcall (first := []) (cap := []) (vs := [I p0.Mass, I 0, I 1000000]) rfl enter31 (ref01_InX_ok N p0.Mass 0 1000000 _ hf1) rfl rfl (nl_cons (NLt.lit _) (nl_cons (NLt.lit _) (nl_cons (NLt.lit _) nl_nil))) (NLt.lit _) rfl,
    fun _ => astep_b hb3 (astep_move rfl),
    fun _ => astep_guard (astep_faddr rfl Try.underlying39 rfl rfl ti3 (by decide) rfl),
    fun _ => astep_guard (astep_load rfl ti3 (by decide) rfl (Nat.le_of_ble_eq_true rfl) rfl),
    fun _ => astep_guard (astep_faddr rfl Try.underlying39 rfl rfl ti3 (by decide) rfl),
    fun _ => astep_guard (astep_load rfl ti3 (by decide) rfl (Nat.le_of_ble_eq_true rfl) rfl),
    fun _ => astep_guard (astep_bin rfl rfl),
    fun _ => astep_guard (astep_pcall (first := []) (cap := []) (vs := [I p0.Heat, I 0, (I (w64 (4000 * p0.Mass)))]) rfl enter31 (ref01_InX_ok N p0.Heat 0 (w64 (4000 * p0.Mass)) _ hf4) rfl rfl (nl_cons (NLt.lit _) (nl_cons (NLt.lit _) (nl_cons (NLt.lit _) nl_nil))) (NLt.lit _) rfl),
    fun _ => astep_pick rfl rfl,
    fun _ => astep_b hb6 (astep_move rfl),
    fun hs => (Bool.noConfusion hs),
    fun hs => (Bool.noConfusion hs),
    fun hs => (Bool.noConfusion hs),
    fun hs => (Bool.noConfusion hs),
    fun hs => (Bool.noConfusion hs),
    fun hs => (Bool.noConfusion hs),
    fun _ => astep_pick rfl rfl,
    fun _ => astep_move rfl,
    fun hs => (Bool.noConfusion hs),
    fun hs => (Bool.noConfusion hs),
    fun hs => (Bool.noConfusion hs),
    fun _ => astep_pick rfl rfl,
    fun _ => astep_assign rfl, trivial⟩
      refine awp_ret ?_
      obtain rfl := Option.some.inj h
      exact ⟨⟨[B false], ⟨resOK_tmp (by kernel_rfl), trivial⟩, rfl⟩, (NLt.lit _), Nat.le_refl _, fun n hn => absurd hn (Nat.not_lt_zero n)⟩
  · replace h := bif_f hb3 h
    refine awp_reg [⟨[(.tmp 1, .ref 0 4 0 0)], [(0, .own 4 [[I p0.Mass, I p0.Heat, I p0.Silica, I p0.Gas]])], .ref 0 4 0 0, [], false⟩,
    ⟨[(.tmp 3, .ref 0 4 0 0)], [(0, .own 4 [[I p0.Mass, I p0.Heat, I p0.Silica, I p0.Gas]])], I p0.Mass, [], false⟩,
    ⟨[(.func 31, (.fn (.func 31) [] [])), (.tmp 4, I p0.Mass), (.const (.int .i64 0), I 0), (.const (.int .i64 1000000), I 1000000)], [], B x2, [], false⟩,
    ⟨[(.tmp 5, B x2)], [], B false, [], false⟩,
    ⟨[(.tmp 6, B false)], [], (.lit undef), [], true⟩,
    ⟨[(.tmp 6, B false)], [], (.lit undef), [], true⟩,
    ⟨[(.tmp 6, B false)], [], (.lit undef), [], true⟩,
    ⟨[(.tmp 6, B false)], [], (.lit undef), [], true⟩,
    ⟨[(.tmp 6, B false)], [], (.lit undef), [], true⟩,
    ⟨[(.tmp 6, B false)], [], (.lit undef), [], true⟩,
    ⟨[(.tmp 6, B false), (.tmp 12, (.lit undef)), (.const (.bool false), B false)], [], B false, [], false⟩,
    ⟨[(.tmp 13, B false)], [], B false, [], false⟩,
    ⟨[(.tmp 14, B false)], [], (.lit undef), [], true⟩,
    ⟨[(.tmp 14, B false)], [], (.lit undef), [], true⟩,
    ⟨[(.tmp 14, B false)], [], (.lit undef), [], true⟩,
    ⟨[(.tmp 14, B false)], [], (.lit undef), [], true⟩,
    ⟨[(.tmp 14, B false)], [], (.lit undef), [], true⟩,
    ⟨[(.tmp 14, B false)], [], (.lit undef), [], true⟩,
    ⟨[(.tmp 14, B false), (.tmp 20, (.lit undef)), (.const (.bool false), B false)], [], B false, [], false⟩,
    ⟨[(.tmp 21, B false)], [], B false, [], false⟩,
    ⟨[(.tmp 22, B false)], [], (.lit undef), [], true⟩,
    ⟨[(.tmp 22, B false)], [], (.lit undef), [], true⟩,
    ⟨[(.tmp 22, B false)], [], (.lit undef), [], true⟩,
    ⟨[(.tmp 22, B false), (.tmp 25, (.lit undef)), (.const (.bool false), B false)], [], B false, [], false⟩,
    ⟨[(.tmp 26, B false)], [], B false, [], false⟩] (by exact ⟨by kernel_rfl, by kernel_rfl⟩) ?_ ?_
    · exact ⟨fun _ => astep_faddr rfl Try.underlying39 rfl rfl ti3 (by decide) rfl,
    fun _ => astep_load rfl ti3 (by decide) rfl (Nat.le_of_ble_eq_true rfl) rfl,
    fun _ => astep_pcall (first := []) (cap := []) (vs := [I p0.Mass, I 0, I 1000000]) rfl enter31 (ref01_InX_ok N p0.Mass 0 1000000 _ hf1) rfl rfl (nl_cons (NLt.lit _) (nl_cons (NLt.lit _) (nl_cons (NLt.lit _) nl_nil))) (NLt.lit _) rfl,
    fun _ => astep_b hb3 (astep_move rfl),
    fun hs => (Bool.noConfusion hs),
    fun hs => (Bool.noConfusion hs),
    fun hs => (Bool.noConfusion hs),
    fun hs => (Bool.noConfusion hs),
    fun hs => (Bool.noConfusion hs),
    fun hs => (Bool.noConfusion hs),
    fun _ => astep_pick rfl rfl,
    fun _ => astep_move rfl,
    fun hs => (Bool.noConfusion hs),
    fun hs => (Bool.noConfusion hs),
    fun hs => (Bool.noConfusion hs),
    fun hs => (Bool.noConfusion hs),
    fun hs => (Bool.noConfusion hs),
    fun hs => (Bool.noConfusion hs),
    fun _ => astep_pick rfl rfl,
    fun _ => astep_move rfl,
    fun hs => (Bool.noConfusion hs),
    fun hs => (Bool.noConfusion hs),
    fun hs => (Bool.noConfusion hs),
    fun _ => astep_pick rfl rfl,
    fun _ => astep_assign rfl, trivial⟩
    refine awp_ret ?_
    obtain rfl := Option.some.inj h
    exact ⟨⟨[B false], ⟨resOK_tmp (by kernel_rfl), trivial⟩, rfl⟩, (NLt.lit _), Nat.le_refl _, fun n hn => absurd hn (Nat.not_lt_zero n)⟩

def law01_TableX_loop1 (N : Nat) (p0 : (List GRow)) (k2 : (List GRow) → Option (List GRow)) : Nat → (List GRow) → Int → Option (List GRow)
  | 0, _, _ => none
  | n7 + 1, y3, y4 =>
    bif (decide (y4 < (p0.length : Int))) then
      (getI p0 y4).bind fun x9 =>
      chk (decide ((y3.length + ([x9]).length) * 40 ≤ 140737488355328)) <|
      law01_TableX_loop1 N p0 k2 n7 (y3 ++ ([x9])) (w64 (y4 + 1))
    else
      k2 (y3)
def law01_TableX (N : Nat) (p0 : (List GRow)) : Option (List GRow) :=
  joinK (fun y1 =>
      some y1) fun k2 : (List GRow) → Option (List GRow) =>
  law01_TableX_loop1 N p0 k2 N ([]) 0
set_option maxRecDepth 100000 in
set_option maxHeartbeats 4000000 in
theorem law01_TableX_ok (N : Nat) (p0 : (List GRow)) (r : (List GRow)) (h : law01_TableX N p0 = some r) : Spec Try.prog 19 [(.dat 5 (p0.map c_GRow))] [] (.dat 5 (r.map c_GRow)) [] := by
  refine spec_of_awp Try.func19 rfl 0 (Nat.le_of_ble_eq_true rfl) (fun X φ0 w0 hφ0 => ?_)
  unfold law01_TableX at h
  refine awp_reg [⟨[((.const (.slice none 0 0)), nilS)], [], nilS, [], false⟩] (by exact ⟨by kernel_rfl, by kernel_rfl⟩) ?_ ?_
  · exact ⟨fun _ => astep_assign rfl, trivial⟩
  refine awp_reg [⟨[((.const (.slice none 0 0)), nilS)], [], nilS, [], false⟩] (by exact ⟨by kernel_rfl, by kernel_rfl⟩) ?_ ?_
  · exact ⟨fun _ => astep_assign rfl, trivial⟩
  obtain ⟨k2, hk_k2, h⟩ := joinK_out h
  refine awp_join (τ := (List GRow)) (fun t => k2 t = some r) (fun y1 => ⟨mk 41 [(3, (.acc 0 115 5 ((y1 : List GRow).map c_GRow)))], [.tok]⟩) (fun y1 h => ?_) ?_
  · subst hk_k2
    refine awp_reg [⟨[(.tmp 3, (.acc 0 115 5 ((y1 : List GRow).map c_GRow)))], [], (.acc 0 115 5 ((y1 : List GRow).map c_GRow)), [], false⟩,
    ⟨[(.tmp 40, (.acc 0 115 5 ((y1 : List GRow).map c_GRow)))], [], (.acc 0 115 5 ((y1 : List GRow).map c_GRow)), [], false⟩] (by exact ⟨by kernel_rfl, by kernel_rfl⟩) ?_ ?_
    · exact ⟨fun _ => astep_move rfl,
    fun _ => astep_assign rfl, trivial⟩
    refine awp_ret ?_
    obtain rfl := Option.some.inj h
    exact ⟨⟨[(.dat 5 ((y1 : List GRow).map c_GRow))], ⟨resOK_less (v := (.acc 0 115 5 ((y1 : List GRow).map c_GRow))) (resOK_tmp (by kernel_rfl)) Less.acc, trivial⟩, rfl⟩, (nl_dat nl_GRow _), Nat.le_refl _, fun n hn => absurd hn (Nat.not_lt_zero n)⟩
  · skip
    refine awp_reg [⟨[(.const (.int .i64 0), I 0)], [], I 0, [], false⟩] (by exact ⟨by kernel_rfl, by kernel_rfl⟩) ?_ ?_
    · exact ⟨fun _ => astep_assign rfl, trivial⟩
    refine awp_block ?_
    refine awp_mor (Mor.trans (mor_nil 0 115 5 3 (by kernel_rfl) (by kernel_rfl)) (mor_to (n := 41) (l' := [(0, (.dat 5 ((p0 : List GRow).map c_GRow))), (3, (.acc 0 115 5 ((([]) : List GRow).map c_GRow))), (4, I 0)]) (own' := [.tok]) [(0, (.dat 5 ((p0 : List GRow).map c_GRow))), (3, (.acc 0 115 5 (([] : List GRow).map c_GRow))), (4, I 0)] [0] [.tok] hφ0 (by kernel_rfl) (by kernel_rfl) (by kernel_rfl) ⟨rfl, .rn (.plain _ (nl_dat nl_GRow _)), rfl, .rn (rnq_acc rfl (nl_rows nl_GRow _)), rfl, .rn (.plain _ (NLt.lit _)), trivial⟩ ⟨.tok, trivial⟩)) ?_
    refine awp_ind (τ := (List GRow) × Int) (fun n t => law01_TableX_loop1 N p0 k2 n t.1 t.2 = some r) (fun ⟨y3, y4⟩ => ⟨mk 41 [(0, (.dat 5 ((p0 : List GRow).map c_GRow))), (3, (.acc 0 115 5 ((y3 : List GRow).map c_GRow))), (4, I y4)], [.tok]⟩) (fun t h => by rw [law01_TableX_loop1] at h; cases h) (fun n7 ih t h => ?_) N ([], 0) h
    obtain ⟨y3, y4⟩ := t
    rw [law01_TableX_loop1] at h
    skip
    refine awp_seq ?_
    refine awp_reg [⟨[(.tmp 4, I y4)], [], I y4, [], false⟩,
    ⟨[(.tmp 0, (.dat 5 ((p0 : List GRow).map c_GRow)))], [], (.dat 5 ((p0 : List GRow).map c_GRow)), [], false⟩,
    ⟨[(.tmp 6, (.dat 5 ((p0 : List GRow).map c_GRow)))], [], (I ((p0.length : Int))), [], false⟩,
    ⟨[(.tmp 5, I y4), (.tmp 7, (I ((p0.length : Int))))], [], (B ((decide (y4 < (p0.length : Int))))), [], false⟩] (by exact ⟨by kernel_rfl, by kernel_rfl⟩) ?_ ?_
    · exact ⟨fun _ => astep_move rfl,
    fun _ => astep_move rfl,
    fun _ => astep_lenm (c := c_GRow) (l := p0) (astep_len rfl Try.underlying23 rfl),
    fun _ => astep_bin rfl rfl, trivial⟩
    rcases Bool.eq_false_or_eq_true ((decide (y4 < (p0.length : Int)))) with hc8 | hc8
    · replace h := bif_t hc8 h
      refine awp_ift hc8 (by kernel_rfl) ?_
      refine awp_skip ?_
      refine thenA_n ?_
      refine awp_seq ?_
      refine awp_block ?_
      obtain ⟨x9, hg10, h⟩ := bind_out h
      obtain ⟨hi11, hj12⟩ := getI_some hg10
      obtain ⟨ha13, h⟩ := chk_out h
      refine awp_regd1 [⟨[(.tmp 3, (.acc 0 115 5 ((y3 : List GRow).map c_GRow)))], [], (.acc 0 115 5 ((y3 : List GRow).map c_GRow)), [], false⟩,
    ⟨[(.tmp 0, (.dat 5 ((p0 : List GRow).map c_GRow)))], [], (.dat 5 ((p0 : List GRow).map c_GRow)), [], false⟩,
    ⟨[(.tmp 4, I y4)], [], I y4, [], false⟩,
    ⟨[(.tmp 12, (.dat 5 ((p0 : List GRow).map c_GRow))), (.tmp 13, I y4)], [], (.dptr (c_GRow (x9)) 0), [], false⟩,
    ⟨[(.tmp 14, (.dptr (c_GRow (x9)) 0))], [], (.dptr (c_GRow (x9)) 0), [], false⟩,
    ⟨[(.tmp 15, (.dptr (c_GRow (x9)) 0))], [], I x9.T, [], false⟩,
    ⟨[(.tmp 0, (.dat 5 ((p0 : List GRow).map c_GRow)))], [], (.dat 5 ((p0 : List GRow).map c_GRow)), [], false⟩,
    ⟨[(.tmp 4, I y4)], [], I y4, [], false⟩,
    ⟨[(.tmp 17, (.dat 5 ((p0 : List GRow).map c_GRow))), (.tmp 18, I y4)], [], (.dptr (c_GRow (x9)) 0), [], false⟩,
    ⟨[(.tmp 19, (.dptr (c_GRow (x9)) 0))], [], (.dptr (c_GRow (x9)) 1), [], false⟩,
    ⟨[(.tmp 20, (.dptr (c_GRow (x9)) 1))], [], I x9.P, [], false⟩,
    ⟨[(.tmp 0, (.dat 5 ((p0 : List GRow).map c_GRow)))], [], (.dat 5 ((p0 : List GRow).map c_GRow)), [], false⟩,
    ⟨[(.tmp 4, I y4)], [], I y4, [], false⟩,
    ⟨[(.tmp 22, (.dat 5 ((p0 : List GRow).map c_GRow))), (.tmp 23, I y4)], [], (.dptr (c_GRow (x9)) 0), [], false⟩,
    ⟨[(.tmp 24, (.dptr (c_GRow (x9)) 0))], [], (.dptr (c_GRow (x9)) 2), [], false⟩,
    ⟨[(.tmp 25, (.dptr (c_GRow (x9)) 2))], [], I x9.Liquid, [], false⟩,
    ⟨[(.tmp 0, (.dat 5 ((p0 : List GRow).map c_GRow)))], [], (.dat 5 ((p0 : List GRow).map c_GRow)), [], false⟩,
    ⟨[(.tmp 4, I y4)], [], I y4, [], false⟩,
    ⟨[(.tmp 27, (.dat 5 ((p0 : List GRow).map c_GRow))), (.tmp 28, I y4)], [], (.dptr (c_GRow (x9)) 0), [], false⟩,
    ⟨[(.tmp 29, (.dptr (c_GRow (x9)) 0))], [], (.dptr (c_GRow (x9)) 3), [], false⟩,
    ⟨[(.tmp 30, (.dptr (c_GRow (x9)) 3))], [], I x9.Vapour, [], false⟩,
    ⟨[(.tmp 0, (.dat 5 ((p0 : List GRow).map c_GRow)))], [], (.dat 5 ((p0 : List GRow).map c_GRow)), [], false⟩,
    ⟨[(.tmp 4, I y4)], [], I y4, [], false⟩,
    ⟨[(.tmp 32, (.dat 5 ((p0 : List GRow).map c_GRow))), (.tmp 33, I y4)], [], (.dptr (c_GRow (x9)) 0), [], false⟩,
    ⟨[(.tmp 34, (.dptr (c_GRow (x9)) 0))], [], (.dptr (c_GRow (x9)) 4), [], false⟩,
    ⟨[(.tmp 35, (.dptr (c_GRow (x9)) 4))], [], I x9.Silica, [], false⟩,
    ⟨[(.tmp 16, I x9.T), (.tmp 21, I x9.P), (.tmp 26, I x9.Liquid), (.tmp 31, I x9.Vapour), (.tmp 36, I x9.Silica)], [], (.agg [I x9.T, I x9.P, I x9.Liquid, I x9.Vapour, I x9.Silica]), [], false⟩,
    ⟨[(.tmp 37, (.agg [I x9.T, I x9.P, I x9.Liquid, I x9.Vapour, I x9.Silica]))], [], (.dat 5 (([x9] : List GRow).map c_GRow)), [], false⟩,
    ⟨[(.tmp 11, (.acc 0 115 5 ((y3 : List GRow).map c_GRow))), (.tmp 38, (.dat 5 (([x9] : List GRow).map c_GRow)))], [(0, .tok), (1, .unused)], (.acc 1 115 5 ((y3 ++ ([x9]) : List GRow).map c_GRow)), [(0, .dead), (1, .tok)], false⟩,
    ⟨[(.tmp 39, (.acc 1 115 5 ((y3 ++ ([x9]) : List GRow).map c_GRow)))], [], (.acc 1 115 5 ((y3 ++ ([x9]) : List GRow).map c_GRow)), [], false⟩] (by kernel_rfl) (by exact ⟨by kernel_rfl, by kernel_rfl⟩) (by kernel_rfl) ?_ ?_
      · exact ⟨fun _ => astep_move rfl,
    fun _ => astep_move rfl,
    fun _ => astep_move rfl,
    fun _ => astep_idxd rfl Try.underlying23 ti49 rfl rfl hi11 (map_get c_GRow hj12) rfl,
    fun _ => astep_faddrd rfl Try.underlying49 rfl rfl ti3 (by decide) rfl,
    fun _ => astep_loadd rfl ti3 (by decide) (Nat.le_of_ble_eq_true rfl) rfl,
    fun _ => astep_move rfl,
    fun _ => astep_move rfl,
    fun _ => astep_idxd rfl Try.underlying23 ti49 rfl rfl hi11 (map_get c_GRow hj12) rfl,
    fun _ => astep_faddrd rfl Try.underlying49 rfl rfl ti3 (by decide) rfl,
    fun _ => astep_loadd rfl ti3 (by decide) (Nat.le_of_ble_eq_true rfl) rfl,
    fun _ => astep_move rfl,
    fun _ => astep_move rfl,
    fun _ => astep_idxd rfl Try.underlying23 ti49 rfl rfl hi11 (map_get c_GRow hj12) rfl,
    fun _ => astep_faddrd rfl Try.underlying49 rfl rfl ti3 (by decide) rfl,
    fun _ => astep_loadd rfl ti3 (by decide) (Nat.le_of_ble_eq_true rfl) rfl,
    fun _ => astep_move rfl,
    fun _ => astep_move rfl,
    fun _ => astep_idxd rfl Try.underlying23 ti49 rfl rfl hi11 (map_get c_GRow hj12) rfl,
    fun _ => astep_faddrd rfl Try.underlying49 rfl rfl ti3 (by decide) rfl,
    fun _ => astep_loadd rfl ti3 (by decide) (Nat.le_of_ble_eq_true rfl) rfl,
    fun _ => astep_move rfl,
    fun _ => astep_move rfl,
    fun _ => astep_idxd rfl Try.underlying23 ti49 rfl rfl hi11 (map_get c_GRow hj12) rfl,
    fun _ => astep_faddrd rfl Try.underlying49 rfl rfl ti3 (by decide) rfl,
    fun _ => astep_loadd rfl ti3 (by decide) (Nat.le_of_ble_eq_true rfl) rfl,
    fun _ => astep_build (vs := [I x9.T, I x9.P, I x9.Liquid, I x9.Vapour, I x9.Silica]) rfl ts115 tz115 rfl (by rfl) rfl,
    fun _ => astep_bslice (vs := [(.agg [I x9.T, I x9.P, I x9.Liquid, I x9.Vapour, I x9.Silica])]) rfl Try.underlying30 ti115 tz115 rfl (by decide) rfl (by decide) (by rfl) (by rfl) (by rfl) rfl,
    fun _ => astep_app rfl Try.underlying30 te115 (Base.acc _ _) rfl rfl (by rfl) (app_le1 c_GRow ha13) (app_le2 c_GRow ha13 (by decide)) (app_map c_GRow) rfl rfl,
    fun _ => astep_assign rfl, trivial⟩
      refine blockA_n ?_
      refine thenA_n ?_
      refine awp_reg1 [⟨[(.tmp 4, I y4)], [], I y4, [], false⟩,
    ⟨[(.tmp 9, I y4), (.const (.int .i64 1), I 1)], [], (I (w64 (y4 + 1))), [], false⟩,
    ⟨[(.tmp 10, (I (w64 (y4 + 1))))], [], (I (w64 (y4 + 1))), [], false⟩] (by exact ⟨by kernel_rfl, by kernel_rfl⟩) ?_ ?_
      · exact ⟨fun _ => astep_move rfl,
    fun _ => astep_bin rfl rfl,
    fun _ => astep_assign rfl, trivial⟩
      refine thenA_n ?_
      exact around_mor (mor_to (n := 41) (l' := [(0, (.dat 5 ((p0 : List GRow).map c_GRow))), (3, (.acc 0 115 5 (((y3 ++ ([x9])) : List GRow).map c_GRow))), (4, (I ((w64 (y4 + 1)))))]) (own' := [.tok]) [(0, (.dat 5 ((p0 : List GRow).map c_GRow))), (3, (.acc 1 115 5 ((y3 ++ ([x9]) : List GRow).map c_GRow))), (4, (I (w64 (y4 + 1))))] [1] [.tok] hφ0 (by kernel_rfl) (by kernel_rfl) (by kernel_rfl) ⟨rfl, .rn (.plain _ (nl_dat nl_GRow _)), rfl, .rn (rnq_acc rfl (nl_rows nl_GRow _)), rfl, .rn (.plain _ (NLt.lit _)), trivial⟩ ⟨.tok, trivial⟩) (ih (y3 ++ ([x9]), w64 (y4 + 1)) h)
    · replace h := bif_f hc8 h
      refine awp_ifn hc8 (by kernel_rfl) ?_
      refine awp_exit ?_
      refine thenA_x ?_
      refine thenA_x ?_
      refine blockA_e rfl ?_
      refine thenA_n ?_
      exact ⟨(y3), h, (mor_to (n := 41) (l' := [(3, (.acc 0 115 5 ((y3 : List GRow).map c_GRow)))]) (own' := [.tok]) [(3, (.acc 0 115 5 ((y3 : List GRow).map c_GRow)))] [0] [.tok] hφ0 (by kernel_rfl) (by kernel_rfl) (by kernel_rfl) ⟨rfl, .rn (rnq_acc rfl (nl_rows nl_GRow _)), trivial⟩ ⟨.tok, trivial⟩)⟩

def law01_StreamX (_N : Nat) (p0 : GStream) : Option GStream :=
  some p0
set_option maxRecDepth 100000 in
set_option maxHeartbeats 4000000 in
theorem law01_StreamX_ok (N : Nat) (p0 : GStream) (r : GStream) (h : law01_StreamX N p0 = some r) : Spec Try.prog 26 [(.agg (c_GStream p0))] [] (.agg (c_GStream r)) [] := by
  refine spec_of_awp Try.func26 rfl 0 (Nat.le_of_ble_eq_true rfl) (fun X φ0 w0 hφ0 => ?_)
  unfold law01_StreamX at h
  refine awp_reg [⟨[(.tmp 0, (.agg [I p0.Mass, I p0.Heat, I p0.Silica, I p0.Gas]))], [(0, .unused)], .ref 0 4 0 0, [(0, .own 4 [[I p0.Mass, I p0.Heat, I p0.Silica, I p0.Gas]])], false⟩,
    ⟨[], [(1, .unused)], .ref 1 4 0 0, [(1, .own 4 [[I 0, I 0, I 0, I 0]])], false⟩] (by exact ⟨by kernel_rfl, by kernel_rfl⟩) ?_ ?_
  · exact ⟨fun _ => astep_box rfl (by rfl) rfl rfl,
    fun _ => astep_alloc rfl tz42 rfl, trivial⟩
  refine awp_reg [⟨[(.tmp 1, .ref 0 4 0 0)], [(0, .own 4 [[I p0.Mass, I p0.Heat, I p0.Silica, I p0.Gas]])], .ref 0 4 0 0, [], false⟩,
    ⟨[(.tmp 3, .ref 0 4 0 0)], [(0, .own 4 [[I p0.Mass, I p0.Heat, I p0.Silica, I p0.Gas]])], I p0.Mass, [], false⟩,
    ⟨[(.tmp 1, .ref 0 4 0 0)], [(0, .own 4 [[I p0.Mass, I p0.Heat, I p0.Silica, I p0.Gas]])], .ref 0 4 0 1, [], false⟩,
    ⟨[(.tmp 5, .ref 0 4 0 1)], [(0, .own 4 [[I p0.Mass, I p0.Heat, I p0.Silica, I p0.Gas]])], I p0.Heat, [], false⟩,
    ⟨[(.tmp 1, .ref 0 4 0 0)], [(0, .own 4 [[I p0.Mass, I p0.Heat, I p0.Silica, I p0.Gas]])], .ref 0 4 0 2, [], false⟩,
    ⟨[(.tmp 7, .ref 0 4 0 2)], [(0, .own 4 [[I p0.Mass, I p0.Heat, I p0.Silica, I p0.Gas]])], I p0.Silica, [], false⟩,
    ⟨[(.tmp 1, .ref 0 4 0 0)], [(0, .own 4 [[I p0.Mass, I p0.Heat, I p0.Silica, I p0.Gas]])], .ref 0 4 0 3, [], false⟩,
    ⟨[(.tmp 9, .ref 0 4 0 3)], [(0, .own 4 [[I p0.Mass, I p0.Heat, I p0.Silica, I p0.Gas]])], I p0.Gas, [], false⟩,
    ⟨[(.tmp 4, I p0.Mass), (.tmp 6, I p0.Heat), (.tmp 8, I p0.Silica), (.tmp 10, I p0.Gas)], [], (.agg [I p0.Mass, I p0.Heat, I p0.Silica, I p0.Gas]), [], false⟩,
    ⟨[(.tmp 2, .ref 1 4 0 0), (.tmp 11, (.agg [I p0.Mass, I p0.Heat, I p0.Silica, I p0.Gas]))], [(1, .own 4 [[I 0, I 0, I 0, I 0]])], .any, [(1, .own 4 [[I p0.Mass, I p0.Heat, I p0.Silica, I p0.Gas]])], false⟩] (by exact ⟨by kernel_rfl, by kernel_rfl⟩) ?_ ?_
  · exact ⟨fun _ => astep_faddr rfl Try.underlying39 rfl rfl ti3 (by decide) rfl,
    fun _ => astep_load rfl ti3 (by decide) rfl (Nat.le_of_ble_eq_true rfl) rfl,
    fun _ => astep_faddr rfl Try.underlying39 rfl rfl ti3 (by decide) rfl,
    fun _ => astep_load rfl ti3 (by decide) rfl (Nat.le_of_ble_eq_true rfl) rfl,
    fun _ => astep_faddr rfl Try.underlying39 rfl rfl ti3 (by decide) rfl,
    fun _ => astep_load rfl ti3 (by decide) rfl (Nat.le_of_ble_eq_true rfl) rfl,
    fun _ => astep_faddr rfl Try.underlying39 rfl rfl ti3 (by decide) rfl,
    fun _ => astep_load rfl ti3 (by decide) rfl (Nat.le_of_ble_eq_true rfl) rfl,
    fun _ => astep_build (vs := [I p0.Mass, I p0.Heat, I p0.Silica, I p0.Gas]) rfl ts42 tz42 rfl (by rfl) rfl,
    fun _ => astep_store rfl ti42 (by rfl) rfl (Nat.le_of_ble_eq_true rfl) rfl, trivial⟩
  refine awp_ret ?_
  obtain rfl := Option.some.inj h
  exact ⟨⟨[(.agg [I p0.Mass, I p0.Heat, I p0.Silica, I p0.Gas])], ⟨resOK_cell (n := 1) (m := 4) (j := 0) (i := 0) (xs := [[I p0.Mass, I p0.Heat, I p0.Silica, I p0.Gas]]) (by kernel_rfl) (by kernel_rfl) ti42 (by decide) rfl (Nat.le_of_ble_eq_true rfl) rfl, trivial⟩, rfl⟩, (NLt.agg _ (nl_cons (NLt.lit _) (nl_cons (NLt.lit _) (nl_cons (NLt.lit _) (nl_cons (NLt.lit _) nl_nil))))), Nat.le_refl _, fun n hn => absurd hn (Nat.not_lt_zero n)⟩

def steam_withinX (_N : Nat) (p0 : Int) (p1 : Int) (p2 : Int) : Option Bool :=
  bif (decide (p1 ≤ p0)) then
    some (decide (p0 ≤ p2))
  else
    some false
set_option maxRecDepth 100000 in
set_option maxHeartbeats 4000000 in
theorem steam_withinX_ok (N : Nat) (p0 : Int) (p1 : Int) (p2 : Int) (r : Bool) (h : steam_withinX N p0 p1 p2 = some r) : Spec Try.prog 65 [(I p0), (I p1), (I p2)] [] (B r) [] := by
  refine spec_of_awp Try.func65 rfl 0 (Nat.le_of_ble_eq_true rfl) (fun X φ0 w0 hφ0 => ?_)
  unfold steam_withinX at h
  refine awp_reg [⟨[(.const (.bool false), B false)], [], B false, [], false⟩] (by exact ⟨by kernel_rfl, by kernel_rfl⟩) ?_ ?_
  · exact ⟨fun _ => astep_assign rfl, trivial⟩
  rcases Bool.eq_false_or_eq_true ((decide (p1 ≤ p0))) with hb1 | hb1
  · replace h := bif_t hb1 h
    refine awp_reg [⟨[(.tmp 1, I p1)], [], I p1, [], false⟩,
    ⟨[(.tmp 0, I p0)], [], I p0, [], false⟩,
    ⟨[(.tmp 7, I p1), (.tmp 8, I p0)], [], (B ((decide (p1 ≤ p0)))), [], false⟩,
    ⟨[(.tmp 9, (B ((decide (p1 ≤ p0)))))], [], B true, [], false⟩,
    ⟨[(.tmp 10, B true), (.tmp 0, I p0)], [], I p0, [], false⟩,
    ⟨[(.tmp 10, B true), (.tmp 2, I p2)], [], I p2, [], false⟩,
    ⟨[(.tmp 10, B true), (.tmp 11, I p0), (.tmp 12, I p2)], [], (B ((decide (p0 ≤ p2)))), [], false⟩,
    ⟨[(.tmp 10, B true), (.tmp 13, (B ((decide (p0 ≤ p2))))), (.const (.bool false), B false)], [], (B ((decide (p0 ≤ p2)))), [], false⟩,
    ⟨[(.tmp 14, (B ((decide (p0 ≤ p2)))))], [], (B ((decide (p0 ≤ p2)))), [], false⟩] (by exact ⟨by kernel_rfl, by kernel_rfl⟩) ?_ ?_
    · exact ⟨fun _ => astep_move rfl,
    fun _ => astep_move rfl,
    fun _ => astep_bin rfl rfl,
    fun _ => astep_b hb1 (astep_move rfl),
    fun _ => astep_guard (astep_move rfl),
    fun _ => astep_guard (astep_move rfl),
    fun _ => astep_guard (astep_bin rfl rfl),
    fun _ => astep_pick rfl rfl,
    fun _ => astep_assign rfl, trivial⟩
    refine awp_ret ?_
    obtain rfl := Option.some.inj h
    exact ⟨⟨[(B ((decide (p0 ≤ p2))))], ⟨resOK_tmp (by kernel_rfl), trivial⟩, rfl⟩, (NLt.lit _), Nat.le_refl _, fun n hn => absurd hn (Nat.not_lt_zero n)⟩
  · replace h := bif_f hb1 h
    refine awp_reg [⟨[(.tmp 1, I p1)], [], I p1, [], false⟩,
    ⟨[(.tmp 0, I p0)], [], I p0, [], false⟩,
    ⟨[(.tmp 7, I p1), (.tmp 8, I p0)], [], (B ((decide (p1 ≤ p0)))), [], false⟩,
    ⟨[(.tmp 9, (B ((decide (p1 ≤ p0)))))], [], B false, [], false⟩,
    ⟨[(.tmp 10, B false)], [], (.lit undef), [], true⟩,
    ⟨[(.tmp 10, B false)], [], (.lit undef), [], true⟩,
    ⟨[(.tmp 10, B false)], [], (.lit undef), [], true⟩,
    ⟨[(.tmp 10, B false), (.tmp 13, (.lit undef)), (.const (.bool false), B false)], [], B false, [], false⟩,
    ⟨[(.tmp 14, B false)], [], B false, [], false⟩] (by exact ⟨by kernel_rfl, by kernel_rfl⟩) ?_ ?_
    · exact ⟨fun _ => astep_move rfl,
    fun _ => astep_move rfl,
    fun _ => astep_bin rfl rfl,
    fun _ => astep_b hb1 (astep_move rfl),
    fun hs => (Bool.noConfusion hs),
    fun hs => (Bool.noConfusion hs),
    fun hs => (Bool.noConfusion hs),
    fun _ => astep_pick rfl rfl,
    fun _ => astep_assign rfl, trivial⟩
    refine awp_ret ?_
    obtain rfl := Option.some.inj h
    exact ⟨⟨[B false], ⟨resOK_tmp (by kernel_rfl), trivial⟩, rfl⟩, (NLt.lit _), Nat.le_refl _, fun n hn => absurd hn (Nat.not_lt_zero n)⟩

def steam_Row_aloneX (N : Nat) (p0 : GRow) : Option Bool :=
  (steam_withinX N p0.T 0 400).bind fun x2 =>
  bif x2 then
    (steam_withinX N p0.P 1 10000).bind fun x5 =>
    bif x5 then
      (steam_withinX N p0.Liquid 0 4000).bind fun x8 =>
      bif x8 then
        (steam_withinX N p0.Silica 0 2000).bind fun x11 =>
        bif x11 then
          bif (decide (p0.Liquid < p0.Vapour)) then
            some (decide (p0.Vapour ≤ 4000))
          else
            some false
        else
          some false
      else
        some false
    else
      some false
  else
    some false
set_option maxRecDepth 100000 in
set_option maxHeartbeats 4000000 in
theorem steam_Row_aloneX_ok (N : Nat) (p0 : GRow) (r : Bool) (h : steam_Row_aloneX N p0 = some r) : Spec Try.prog 81 [(.agg (c_GRow p0))] [] (B r) [] := by
  refine spec_of_awp Try.func81 rfl 0 (Nat.le_of_ble_eq_true rfl) (fun X φ0 w0 hφ0 => ?_)
  unfold steam_Row_aloneX at h
  refine awp_reg [⟨[(.tmp 0, (.agg [I p0.T, I p0.P, I p0.Liquid, I p0.Vapour, I p0.Silica]))], [(0, .unused)], .ref 0 5 0 0, [(0, .own 5 [[I p0.T, I p0.P, I p0.Liquid, I p0.Vapour, I p0.Silica]])], false⟩,
    ⟨[(.const (.bool false), B false)], [], B false, [], false⟩] (by exact ⟨by kernel_rfl, by kernel_rfl⟩) ?_ ?_
  · exact ⟨fun _ => astep_box rfl (by rfl) rfl rfl,
    fun _ => astep_assign rfl, trivial⟩
  obtain ⟨x2, hf1, h⟩ := bind_out h
  rcases Bool.eq_false_or_eq_true (x2) with hb3 | hb3
  · replace h := bif_t hb3 h
    obtain ⟨x5, hf4, h⟩ := bind_out h
    rcases Bool.eq_false_or_eq_true (x5) with hb6 | hb6
    · replace h := bif_t hb6 h
      obtain ⟨x8, hf7, h⟩ := bind_out h
      rcases Bool.eq_false_or_eq_true (x8) with hb9 | hb9
      · replace h := bif_t hb9 h
        obtain ⟨x11, hf10, h⟩ := bind_out h
        rcases Bool.eq_false_or_eq_true (x11) with hb12 | hb12
        · replace h := bif_t hb12 h
          rcases Bool.eq_false_or_eq_true ((decide (p0.Liquid < p0.Vapour))) with hb13 | hb13
          · replace h := bif_t hb13 h
            refine awp_reg [⟨[(.tmp 1, .ref 0 5 0 0)], [(0, .own 5 [[I p0.T, I p0.P, I p0.Liquid, I p0.Vapour, I p0.Silica]])], .ref 0 5 0 0, [], false⟩,
    ⟨[(.tmp 3, .ref 0 5 0 0)], [(0, .own 5 [[I p0.T, I p0.P, I p0.Liquid, I p0.Vapour, I p0.Silica]])], I p0.T, [], false⟩,
    ⟨[(.func 65, (.fn (.func 65) [] [])), (.tmp 4, I p0.T), (.const (.int .i64 0), I 0), (.const (.int .i64 400), I 400)], [], B x2, [], false⟩,
    ⟨[(.tmp 5, B x2)], [], B true, [], false⟩,
    ⟨[(.tmp 6, B true), (.tmp 1, .ref 0 5 0 0)], [(0, .own 5 [[I p0.T, I p0.P, I p0.Liquid, I p0.Vapour, I p0.Silica]])], .ref 0 5 0 1, [], false⟩,
    ⟨[(.tmp 6, B true), (.tmp 7, .ref 0 5 0 1)], [(0, .own 5 [[I p0.T, I p0.P, I p0.Liquid, I p0.Vapour, I p0.Silica]])], I p0.P, [], false⟩,
    ⟨[(.tmp 6, B true), (.func 65, (.fn (.func 65) [] [])), (.tmp 8, I p0.P), (.const (.int .i64 1), I 1), (.const (.int .i64 10000), I 10000)], [], B x5, [], false⟩,
    ⟨[(.tmp 6, B true), (.tmp 9, B x5), (.const (.bool false), B false)], [], B x5, [], false⟩,
    ⟨[(.tmp 10, B x5)], [], B true, [], false⟩,
    ⟨[(.tmp 11, B true), (.tmp 1, .ref 0 5 0 0)], [(0, .own 5 [[I p0.T, I p0.P, I p0.Liquid, I p0.Vapour, I p0.Silica]])], .ref 0 5 0 2, [], false⟩,
    ⟨[(.tmp 11, B true), (.tmp 12, .ref 0 5 0 2)], [(0, .own 5 [[I p0.T, I p0.P, I p0.Liquid, I p0.Vapour, I p0.Silica]])], I p0.Liquid, [], false⟩,
    ⟨[(.tmp 11, B true), (.func 65, (.fn (.func 65) [] [])), (.tmp 13, I p0.Liquid), (.const (.int .i64 0), I 0), (.const (.int .i64 4000), I 4000)], [], B x8, [], false⟩,
    ⟨[(.tmp 11, B true), (.tmp 14, B x8), (.const (.bool false), B false)], [], B x8, [], false⟩,
    ⟨[(.tmp 15, B x8)], [], B true, [], false⟩,
    ⟨[(.tmp 16, B true), (.tmp 1, .ref 0 5 0 0)], [(0, .own 5 [[I p0.T, I p0.P, I p0.Liquid, I p0.Vapour, I p0.Silica]])], .ref 0 5 0 4, [], false⟩,
    ⟨[(.tmp 16, B true), (.tmp 17, .ref 0 5 0 4)], [(0, .own 5 [[I p0.T, I p0.P, I p0.Liquid, I p0.Vapour, I p0.Silica]])], I p0.Silica, [], false⟩,
    ⟨[(.tmp 16, B true), (.func 65, (.fn (.func 65) [] [])), (.tmp 18, I p0.Silica), (.const (.int .i64 0), I 0), (.const (.int .i64 2000), I 2000)], [], B x11, [], false⟩,
    ⟨[(.tmp 16, B true), (.tmp 19, B x11), (.const (.bool false), B false)], [], B x11, [], false⟩,
    ⟨[(.tmp 20, B x11)], [], B true, [], false⟩,
    ⟨[(.tmp 21, B true), (.tmp 1, .ref 0 5 0 0)], [(0, .own 5 [[I p0.T, I p0.P, I p0.Liquid, I p0.Vapour, I p0.Silica]])], .ref 0 5 0 2, [], false⟩,
    ⟨[(.tmp 21, B true), (.tmp 22, .ref 0 5 0 2)], [(0, .own 5 [[I p0.T, I p0.P, I p0.Liquid, I p0.Vapour, I p0.Silica]])], I p0.Liquid, [], false⟩,
    ⟨[(.tmp 21, B true), (.tmp 1, .ref 0 5 0 0)], [(0, .own 5 [[I p0.T, I p0.P, I p0.Liquid, I p0.Vapour, I p0.Silica]])], .ref 0 5 0 3, [], false⟩,
    ⟨[(.tmp 21, B true), (.tmp 24, .ref 0 5 0 3)], [(0, .own 5 [[I p0.T, I p0.P, I p0.Liquid, I p0.Vapour, I p0.Silica]])], I p0.Vapour, [], false⟩,
    ⟨[(.tmp 21, B true), (.tmp 23, I p0.Liquid), (.tmp 25, I p0.Vapour)], [], (B ((decide (p0.Liquid < p0.Vapour)))), [], false⟩,
    ⟨[(.tmp 21, B true), (.tmp 26, (B ((decide (p0.Liquid < p0.Vapour))))), (.const (.bool false), B false)], [], (B ((decide (p0.Liquid < p0.Vapour)))), [], false⟩,
    ⟨[(.tmp 27, (B ((decide (p0.Liquid < p0.Vapour)))))], [], B true, [], false⟩,
    ⟨[(.tmp 28, B true), (.tmp 1, .ref 0 5 0 0)], [(0, .own 5 [[I p0.T, I p0.P, I p0.Liquid, I p0.Vapour, I p0.Silica]])], .ref 0 5 0 3, [], false⟩,
    ⟨[(.tmp 28, B true), (.tmp 29, .ref 0 5 0 3)], [(0, .own 5 [[I p0.T, I p0.P, I p0.Liquid, I p0.Vapour, I p0.Silica]])], I p0.Vapour, [], false⟩,
    ⟨[(.tmp 28, B true), (.tmp 30, I p0.Vapour), (.const (.int .i64 4000), I 4000)], [], (B ((decide (p0.Vapour ≤ 4000)))), [], false⟩,
    ⟨[(.tmp 28, B true), (.tmp 31, (B ((decide (p0.Vapour ≤ 4000))))), (.const (.bool false), B false)], [], (B ((decide (p0.Vapour ≤ 4000)))), [], false⟩,
    ⟨[(.tmp 32, (B ((decide (p0.Vapour ≤ 4000)))))], [], (B ((decide (p0.Vapour ≤ 4000)))), [], false⟩] (by exact ⟨by kernel_rfl, by kernel_rfl⟩) ?_ ?_
            · exact ⟨fun _ => astep_faddr rfl Try.underlying115 rfl rfl ti3 (by decide) rfl,
    fun _ => astep_load rfl ti3 (by decide) rfl (Nat.le_of_ble_eq_true rfl) rfl,
    fun _ => astep_pcall (first := []) (cap := []) (vs := [I p0.T, I 0, I 400]) rfl enter65 (steam_withinX_ok N p0.T 0 400 _ hf1) rfl rfl (nl_cons (NLt.lit _) (nl_cons (NLt.lit _) (nl_cons (NLt.lit _) nl_nil))) (NLt.lit _) rfl,
    fun _ => astep_b hb3 (astep_move rfl),
    fun _ => astep_guard (astep_faddr rfl Try.underlying115 rfl rfl ti3 (by decide) rfl),
    fun _ => astep_guard (astep_load rfl ti3 (by decide) rfl (Nat.le_of_ble_eq_true rfl) rfl),
    fun _ => astep_guard (astep_pcall (first := []) (cap := []) (vs := [I p0.P, I 1, I 10000]) rfl enter65 (steam_withinX_ok N p0.P 1 10000 _ hf4) rfl rfl (nl_cons (NLt.lit _) (nl_cons (NLt.lit _) (nl_cons (NLt.lit _) nl_nil))) (NLt.lit _) rfl),
    fun _ => astep_pick rfl rfl,
    fun _ => astep_b hb6 (astep_move rfl),
    fun _ => astep_guard (astep_faddr rfl Try.underlying115 rfl rfl ti3 (by decide) rfl),
    fun _ => astep_guard (astep_load rfl ti3 (by decide) rfl (Nat.le_of_ble_eq_true rfl) rfl),
    fun _ => astep_guard (astep_pcall (first := []) (cap := []) (vs := [I p0.Liquid, I 0, I 4000]) rfl enter65 (steam_withinX_ok N p0.Liquid 0 4000 _ hf7) rfl rfl (nl_cons (NLt.lit _) (nl_cons (NLt.lit _) (nl_cons (NLt.lit _) nl_nil))) (NLt.lit _) rfl),
    fun _ => astep_pick rfl rfl,
    fun _ => astep_b hb9 (astep_move rfl),
    fun _ => astep_guard (astep_faddr rfl Try.underlying115 rfl rfl ti3 (by decide) rfl),
    fun _ => astep_guard (astep_load rfl ti3 (by decide) rfl (Nat.le_of_ble_eq_true rfl) rfl),
    fun _ => astep_guard (astep_pcall (first := []) (cap := []) (vs := [I p0.Silica, I 0, I 2000]) rfl enter65 (steam_withinX_ok N p0.Silica 0 2000 _ hf10) rfl rfl (nl_cons (NLt.lit _) (nl_cons (NLt.lit _) (nl_cons (NLt.lit _) nl_nil))) (NLt.lit _) rfl),
    fun _ => astep_pick rfl rfl,
    fun _ => astep_b hb12 (astep_move rfl),
    fun _ => astep_guard (astep_faddr rfl Try.underlying115 rfl rfl ti3 (by decide) rfl),
    fun _ => astep_guard (astep_load rfl ti3 (by decide) rfl (Nat.le_of_ble_eq_true rfl) rfl),
    fun _ => astep_guard (astep_faddr rfl Try.underlying115 rfl rfl ti3 (by decide) rfl),
    fun _ => astep_guard (astep_load rfl ti3 (by decide) rfl (Nat.le_of_ble_eq_true rfl) rfl),
    fun _ => astep_guard (astep_bin rfl rfl),
    fun _ => astep_pick rfl rfl,
    fun _ => astep_b hb13 (astep_move rfl),
    fun _ => astep_guard (astep_faddr rfl Try.underlying115 rfl rfl ti3 (by decide) rfl),
    fun _ => astep_guard (astep_load rfl ti3 (by decide) rfl (Nat.le_of_ble_eq_true rfl) rfl),
    fun _ => astep_guard (astep_bin rfl rfl),
    fun _ => astep_pick rfl rfl,
    fun _ => astep_assign rfl, trivial⟩
            refine awp_ret ?_
            obtain rfl := Option.some.inj h
            exact ⟨⟨[(B ((decide (p0.Vapour ≤ 4000))))], ⟨resOK_tmp (by kernel_rfl), trivial⟩, rfl⟩, (NLt.lit _), Nat.le_refl _, fun n hn => absurd hn (Nat.not_lt_zero n)⟩
          · replace h := bif_f hb13 h
            refine awp_reg [⟨[(.tmp 1, .ref 0 5 0 0)], [(0, .own 5 [[I p0.T, I p0.P, I p0.Liquid, I p0.Vapour, I p0.Silica]])], .ref 0 5 0 0, [], false⟩,
    ⟨[(.tmp 3, .ref 0 5 0 0)], [(0, .own 5 [[I p0.T, I p0.P, I p0.Liquid, I p0.Vapour, I p0.Silica]])], I p0.T, [], false⟩,
    ⟨[(.func 65, (.fn (.func 65) [] [])), (.tmp 4, I p0.T), (.const (.int .i64 0), I 0), (.const (.int .i64 400), I 400)], [], B x2, [], false⟩,
    ⟨[(.tmp 5, B x2)], [], B true, [], false⟩,
    ⟨[(.tmp 6, B true), (.tmp 1, .ref 0 5 0 0)], [(0, .own 5 [[I p0.T, I p0.P, I p0.Liquid, I p0.Vapour, I p0.Silica]])], .ref 0 5 0 1, [], false⟩,
    ⟨[(.tmp 6, B true), (.tmp 7, .ref 0 5 0 1)], [(0, .own 5 [[I p0.T, I p0.P, I p0.Liquid, I p0.Vapour, I p0.Silica]])], I p0.P, [], false⟩,
    ⟨[(.tmp 6, B true), (.func 65, (.fn (.func 65) [] [])), (.tmp 8, I p0.P), (.const (.int .i64 1), I 1), (.const (.int .i64 10000), I 10000)], [], B x5, [], false⟩,
    ⟨[(.tmp 6, B true), (.tmp 9, B x5), (.const (.bool false), B false)], [], B x5, [], false⟩,
    ⟨[(.tmp 10, B x5)], [], B true, [], false⟩,
    ⟨[(.tmp 11, B true), (.tmp 1, .ref 0 5 0 0)], [(0, .own 5 [[I p0.T, I p0.P, I p0.Liquid, I p0.Vapour, I p0.Silica]])], .ref 0 5 0 2, [], false⟩,
    ⟨[(.tmp 11, B true), (.tmp 12, .ref 0 5 0 2)], [(0, .own 5 [[I p0.T, I p0.P, I p0.Liquid, I p0.Vapour, I p0.Silica]])], I p0.Liquid, [], false⟩,
    ⟨[(.tmp 11, B true), (.func 65, (.fn (.func 65) [] [])), (.tmp 13, I p0.Liquid), (.const (.int .i64 0), I 0), (.const (.int .i64 4000), I 4000)], [], B x8, [], false⟩,
    ⟨[(.tmp 11, B true), (.tmp 14, B x8), (.const (.bool false), B false)], [], B x8, [], false⟩,
    ⟨[(.tmp 15, B x8)], [], B true, [], false⟩,
    ⟨[(.tmp 16, B true), (.tmp 1, .ref 0 5 0 0)], [(0, .own 5 [[I p0.T, I p0.P, I p0.Liquid, I p0.Vapour, I p0.Silica]])], .ref 0 5 0 4, [], false⟩,
    ⟨[(.tmp 16, B true), (.tmp 17, .ref 0 5 0 4)], [(0, .own 5 [[I p0.T, I p0.P, I p0.Liquid, I p0.Vapour, I p0.Silica]])], I p0.Silica, [], false⟩,
    ⟨[(.tmp 16, B true), (.func 65, (.fn (.func 65) [] [])), (.tmp 18, I p0.Silica), (.const (.int .i64 0), I 0), (.const (.int .i64 2000), I 2000)], [], B x11, [], false⟩,
    ⟨[(.tmp 16, B true), (.tmp 19, B x11), (.const (.bool false), B false)], [], B x11, [], false⟩,
    ⟨[(.tmp 20, B x11)], [], B true, [], false⟩,
    ⟨[(.tmp 21, B true), (.tmp 1, .ref 0 5 0 0)], [(0, .own 5 [[I p0.T, I p0.P, I p0.Liquid, I p0.Vapour, I p0.Silica]])], .ref 0 5 0 2, [], false⟩,
    ⟨[(.tmp 21, B true), (.tmp 22, .ref 0 5 0 2)], [(0, .own 5 [[I p0.T, I p0.P, I p0.Liquid, I p0.Vapour, I p0.Silica]])], I p0.Liquid, [], false⟩,
    ⟨[(.tmp 21, B true), (.tmp 1, .ref 0 5 0 0)], [(0, .own 5 [[I p0.T, I p0.P, I p0.Liquid, I p0.Vapour, I p0.Silica]])], .ref 0 5 0 3, [], false⟩,
    ⟨[(.tmp 21, B true), (.tmp 24, .ref 0 5 0 3)], [(0, .own 5 [[I p0.T, I p0.P, I p0.Liquid, I p0.Vapour, I p0.Silica]])], I p0.Vapour, [], false⟩,
    ⟨[(.tmp 21, B true), (.tmp 23, I p0.Liquid), (.tmp 25, I p0.Vapour)], [], (B ((decide (p0.Liquid < p0.Vapour)))), [], false⟩,
    ⟨[(.tmp 21, B true), (.tmp 26, (B ((decide (p0.Liquid < p0.Vapour))))), (.const (.bool false), B false)], [], (B ((decide (p0.Liquid < p0.Vapour)))), [], false⟩,
    ⟨[(.tmp 27, (B ((decide (p0.Liquid < p0.Vapour)))))], [], B false, [], false⟩,
    ⟨[(.tmp 28, B false)], [], (.lit undef), [], true⟩,
    ⟨[(.tmp 28, B false)], [], (.lit undef), [], true⟩,
    ⟨[(.tmp 28, B false)], [], (.lit undef), [], true⟩,
    ⟨[(.tmp 28, B false), (.tmp 31, (.lit undef)), (.const (.bool false), B false)], [], B false, [], false⟩,
    ⟨[(.tmp 32, B false)], [], B false, [], false⟩] (by exact ⟨by kernel_rfl, by kernel_rfl⟩) ?_ ?_
            · exact ⟨fun _ => astep_faddr rfl Try.underlying115 rfl rfl ti3 (by decide) rfl,
    fun _ => astep_load rfl ti3 (by decide) rfl (Nat.le_of_ble_eq_true rfl) rfl,
    fun _ => astep_pcall (first := []) (cap := []) (vs := [I p0.T, I 0, I 400]) rfl enter65 (steam_withinX_ok N p0.T 0 400 _ hf1) rfl rfl (nl_cons (NLt.lit _) (nl_cons (NLt.lit _) (nl_cons (NLt.lit _) nl_nil))) (NLt.lit _) rfl,
    fun _ => astep_b hb3 (astep_move rfl),
    fun _ => astep_guard (astep_faddr rfl Try.underlying115 rfl rfl ti3 (by decide) rfl),
    fun _ => astep_guard (astep_load rfl ti3 (by decide) rfl (Nat.le_of_ble_eq_true rfl) rfl),
    fun _ => astep_guard (astep_pcall (first := []) (cap := []) (vs := [I p0.P, I 1, I 10000]) rfl enter65 (steam_withinX_ok N p0.P 1 10000 _ hf4) rfl rfl (nl_cons (NLt.lit _) (nl_cons (NLt.lit _) (nl_cons (NLt.lit _) nl_nil))) (NLt.lit _) rfl),
    fun _ => astep_pick rfl rfl,
    fun _ => astep_b hb6 (astep_move rfl),
    fun _ => astep_guard (astep_faddr rfl Try.underlying115 rfl rfl ti3 (by decide) rfl),
    fun _ => astep_guard (astep_load rfl ti3 (by decide) rfl (Nat.le_of_ble_eq_true rfl) rfl),
    fun _ => astep_guard (astep_pcall (first := []) (cap := []) (vs := [I p0.Liquid, I 0, I 4000]) rfl enter65 (steam_withinX_ok N p0.Liquid 0 4000 _ hf7) rfl rfl (nl_cons (NLt.lit _) (nl_cons (NLt.lit _) (nl_cons (NLt.lit _) nl_nil))) (NLt.lit _) rfl),
    fun _ => astep_pick rfl rfl,
    fun _ => astep_b hb9 (astep_move rfl),
    fun _ => astep_guard (astep_faddr rfl Try.underlying115 rfl rfl ti3 (by decide) rfl),
    fun _ => astep_guard (astep_load rfl ti3 (by decide) rfl (Nat.le_of_ble_eq_true rfl) rfl),
    fun _ => astep_guard (astep_pcall (first := []) (cap := []) (vs := [I p0.Silica, I 0, I 2000]) rfl enter65 (steam_withinX_ok N p0.Silica 0 2000 _ hf10) rfl rfl (nl_cons (NLt.lit _) (nl_cons (NLt.lit _) (nl_cons (NLt.lit _) nl_nil))) (NLt.lit _) rfl),
    fun _ => astep_pick rfl rfl,
    fun _ => astep_b hb12 (astep_move rfl),
    fun _ => astep_guard (astep_faddr rfl Try.underlying115 rfl rfl ti3 (by decide) rfl),
    fun _ => astep_guard (astep_load rfl ti3 (by decide) rfl (Nat.le_of_ble_eq_true rfl) rfl),
    fun _ => astep_guard (astep_faddr rfl Try.underlying115 rfl rfl ti3 (by decide) rfl),
    fun _ => astep_guard (astep_load rfl ti3 (by decide) rfl (Nat.le_of_ble_eq_true rfl) rfl),
    fun _ => astep_guard (astep_bin rfl rfl),
    fun _ => astep_pick rfl rfl,
    fun _ => astep_b hb13 (astep_move rfl),
    fun hs => (Bool.noConfusion hs),
    fun hs => (Bool.noConfusion hs),
    fun hs => (Bool.noConfusion hs),
    fun _ => astep_pick rfl rfl,
    fun _ => astep_assign rfl, trivial⟩
            refine awp_ret ?_
            obtain rfl := Option.some.inj h
            exact ⟨⟨[B false], ⟨resOK_tmp (by kernel_rfl), trivial⟩, rfl⟩, (NLt.lit _), Nat.le_refl _, fun n hn => absurd hn (Nat.not_lt_zero n)⟩
        · replace h := bif_f hb12 h
          refine awp_reg [⟨[(.tmp 1, .ref 0 5 0 0)], [(0, .own 5 [[I p0.T, I p0.P, I p0.Liquid, I p0.Vapour, I p0.Silica]])], .ref 0 5 0 0, [], false⟩,
    ⟨[(.tmp 3, .ref 0 5 0 0)], [(0, .own 5 [[I p0.T, I p0.P, I p0.Liquid, I p0.Vapour, I p0.Silica]])], I p0.T, [], false⟩,
    ⟨[(.func 65, (.fn (.func 65) [] [])), (.tmp 4, I p0.T), (.const (.int .i64 0), I 0), (.const (.int .i64 400), I 400)], [], B x2, [], false⟩,
    ⟨[(.tmp 5, B x2)], [], B true, [], false⟩,
    ⟨[(.tmp 6, B true), (.tmp 1, .ref 0 5 0 0)], [(0, .own 5 [[I p0.T, I p0.P, I p0.Liquid, I p0.Vapour, I p0.Silica]])], .ref 0 5 0 1, [], false⟩,
    ⟨[(.tmp 6, B true), (.tmp 7, .ref 0 5 0 1)], [(0, .own 5 [[I p0.T, I p0.P, I p0.Liquid, I p0.Vapour, I p0.Silica]])], I p0.P, [], false⟩,
    ⟨[(.tmp 6, B true), (.func 65, (.fn (.func 65) [] [])), (.tmp 8, I p0.P), (.const (.int .i64 1), I 1), (.const (.int .i64 10000), I 10000)], [], B x5, [], false⟩,
    ⟨[(.tmp 6, B true), (.tmp 9, B x5), (.const (.bool false), B false)], [], B x5, [], false⟩,
    ⟨[(.tmp 10, B x5)], [], B true, [], false⟩,
    ⟨[(.tmp 11, B true), (.tmp 1, .ref 0 5 0 0)], [(0, .own 5 [[I p0.T, I p0.P, I p0.Liquid, I p0.Vapour, I p0.Silica]])], .ref 0 5 0 2, [], false⟩,
    ⟨[(.tmp 11, B true), (.tmp 12, .ref 0 5 0 2)], [(0, .own 5 [[I p0.T, I p0.P, I p0.Liquid, I p0.Vapour, I p0.Silica]])], I p0.Liquid, [], false⟩,
    ⟨[(.tmp 11, B true), (.func 65, (.fn (.func 65) [] [])), (.tmp 13, I p0.Liquid), (.const (.int .i64 0), I 0), (.const (.int .i64 4000), I 4000)], [], B x8, [], false⟩,
    ⟨[(.tmp 11, B true), (.tmp 14, B x8), (.const (.bool false), B false)], [], B x8, [], false⟩,
    ⟨[(.tmp 15, B x8)], [], B true, [], false⟩,
    ⟨[(.tmp 16, B true), (.tmp 1, .ref 0 5 0 0)], [(0, .own 5 [[I p0.T, I p0.P, I p0.Liquid, I p0.Vapour, I p0.Silica]])], .ref 0 5 0 4, [], false⟩,
    ⟨[(.tmp 16, B true), (.tmp 17, .ref 0 5 0 4)], [(0, .own 5 [[I p0.T, I p0.P, I p0.Liquid, I p0.Vapour, I p0.Silica]])], I p0.Silica, [], false⟩,
    ⟨[(.tmp 16, B true), (.func 65, (.fn (.func 65) [] [])), (.tmp 18, I p0.Silica), (.const (.int .i64 0), I 0), (.const (.int .i64 2000), I 2000)], [], B x11, [], false⟩,
    ⟨[(.tmp 16, B true), (.tmp 19, B x11), (.const (.bool false), B false)], [], B x11, [], false⟩,
    ⟨[(.tmp 20, B x11)], [], B false, [], false⟩,
    ⟨[(.tmp 21, B false)], [], (.lit undef), [], true⟩,
    ⟨[(.tmp 21, B false)], [], (.lit undef), [], true⟩,
    ⟨[(.tmp 21, B false)], [], (.lit undef), [], true⟩,
    ⟨[(.tmp 21, B false)], [], (.lit undef), [], true⟩,
    ⟨[(.tmp 21, B false)], [], (.lit undef), [], true⟩,
    ⟨[(.tmp 21, B false), (.tmp 26, (.lit undef)), (.const (.bool false), B false)], [], B false, [], false⟩,
    ⟨[(.tmp 27, B false)], [], B false, [], false⟩,
    ⟨[(.tmp 28, B false)], [], (.lit undef), [], true⟩,
    ⟨[(.tmp 28, B false)], [], (.lit undef), [], true⟩,
    ⟨[(.tmp 28, B false)], [], (.lit undef), [], true⟩,
    ⟨[(.tmp 28, B false), (.tmp 31, (.lit undef)), (.const (.bool false), B false)], [], B false, [], false⟩,
    ⟨[(.tmp 32, B false)], [], B false, [], false⟩] (by exact ⟨by kernel_rfl, by kernel_rfl⟩) ?_ ?_
          · exact ⟨fun _ => astep_faddr rfl Try.underlying115 rfl rfl ti3 (by decide) rfl,
    fun _ => astep_load rfl ti3 (by decide) rfl (Nat.le_of_ble_eq_true rfl) rfl,
    fun _ => astep_pcall (first := []) (cap := []) (vs := [I p0.T, I 0, I 400]) rfl enter65 (steam_withinX_ok N p0.T 0 400 _ hf1) rfl rfl (nl_cons (NLt.lit _) (nl_cons (NLt.lit _) (nl_cons (NLt.lit _) nl_nil))) (NLt.lit _) rfl,
    fun _ => astep_b hb3 (astep_move rfl),
    fun _ => astep_guard (astep_faddr rfl Try.underlying115 rfl rfl ti3 (by decide) rfl),
    fun _ => astep_guard (astep_load rfl ti3 (by decide) rfl (Nat.le_of_ble_eq_true rfl) rfl),
    fun _ => astep_guard (astep_pcall (first := []) (cap := []) (vs := [I p0.P, I 1, I 10000]) rfl enter65 (steam_withinX_ok N p0.P 1 10000 _ hf4) rfl rfl (nl_cons (NLt.lit _) (nl_cons (NLt.lit _) (nl_cons (NLt.lit _) nl_nil))) (NLt.lit _) rfl),
    fun _ => astep_pick rfl rfl,
    fun _ => astep_b hb6 (astep_move rfl),
    fun _ => astep_guard (astep_faddr rfl Try.underlying115 rfl rfl ti3 (by decide) rfl),
    fun _ => astep_guard (astep_load rfl ti3 (by decide) rfl (Nat.le_of_ble_eq_true rfl) rfl),
    fun _ => astep_guard (astep_pcall (first := []) (cap := []) (vs := [I p0.Liquid, I 0, I 4000]) rfl enter65 (steam_withinX_ok N p0.Liquid 0 4000 _ hf7) rfl rfl (nl_cons (NLt.lit _) (nl_cons (NLt.lit _) (nl_cons (NLt.lit _) nl_nil))) (NLt.lit _) rfl),
    fun _ => astep_pick rfl rfl,
    fun _ => astep_b hb9 (astep_move rfl),
    fun _ => astep_guard (astep_faddr rfl Try.underlying115 rfl rfl ti3 (by decide) rfl),
    fun _ => astep_guard (astep_load rfl ti3 (by decide) rfl (Nat.le_of_ble_eq_true rfl) rfl),
    fun _ => astep_guard (astep_pcall (first := []) (cap := []) (vs := [I p0.Silica, I 0, I 2000]) rfl enter65 (steam_withinX_ok N p0.Silica 0 2000 _ hf10) rfl rfl (nl_cons (NLt.lit _) (nl_cons (NLt.lit _) (nl_cons (NLt.lit _) nl_nil))) (NLt.lit _) rfl),
    fun _ => astep_pick rfl rfl,
    fun _ => astep_b hb12 (astep_move rfl),
    fun hs => (Bool.noConfusion hs),
    fun hs => (Bool.noConfusion hs),
    fun hs => (Bool.noConfusion hs),
    fun hs => (Bool.noConfusion hs),
    fun hs => (Bool.noConfusion hs),
    fun _ => astep_pick rfl rfl,
    fun _ => astep_move rfl,
    fun hs => (Bool.noConfusion hs),
    fun hs => (Bool.noConfusion hs),
    fun hs => (Bool.noConfusion hs),
    fun _ => astep_pick rfl rfl,
    fun _ => astep_assign rfl, trivial⟩
          refine awp_ret ?_
          obtain rfl := Option.some.inj h
          exact ⟨⟨[B false], ⟨resOK_tmp (by kernel_rfl), trivial⟩, rfl⟩, (NLt.lit _), Nat.le_refl _, fun n hn => absurd hn (Nat.not_lt_zero n)⟩
      · replace h := bif_f hb9 h
        refine awp_reg [⟨[(.tmp 1, .ref 0 5 0 0)], [(0, .own 5 [[I p0.T, I p0.P, I p0.Liquid, I p0.Vapour, I p0.Silica]])], .ref 0 5 0 0, [], false⟩,
    ⟨[(.tmp 3, .ref 0 5 0 0)], [(0, .own 5 [[I p0.T, I p0.P, I p0.Liquid, I p0.Vapour, I p0.Silica]])], I p0.T, [], false⟩,
    ⟨[(.func 65, (.fn (.func 65) [] [])), (.tmp 4, I p0.T), (.const (.int .i64 0), I 0), (.const (.int .i64 400), I 400)], [], B x2, [], false⟩,
    ⟨[(.tmp 5, B x2)], [], B true, [], false⟩,
    ⟨[(.tmp 6, B true), (.tmp 1, .ref 0 5 0 0)], [(0, .own 5 [[I p0.T, I p0.P, I p0.Liquid, I p0.Vapour, I p0.Silica]])], .ref 0 5 0 1, [], false⟩,
    ⟨[(.tmp 6, B true), (.tmp 7, .ref 0 5 0 1)], [(0, .own 5 [[I p0.T, I p0.P, I p0.Liquid, I p0.Vapour, I p0.Silica]])], I p0.P, [], false⟩,
    ⟨[(.tmp 6, B true), (.func 65, (.fn (.func 65) [] [])), (.tmp 8, I p0.P), (.const (.int .i64 1), I 1), (.const (.int .i64 10000), I 10000)], [], B x5, [], false⟩,
    ⟨[(.tmp 6, B true), (.tmp 9, B x5), (.const (.bool false), B false)], [], B x5, [], false⟩,
    ⟨[(.tmp 10, B x5)], [], B true, [], false⟩,
    ⟨[(.tmp 11, B true), (.tmp 1, .ref 0 5 0 0)], [(0, .own 5 [[I p0.T, I p0.P, I p0.Liquid, I p0.Vapour, I p0.Silica]])], .ref 0 5 0 2, [], false⟩,
    ⟨[(.tmp 11, B true), (.tmp 12, .ref 0 5 0 2)], [(0, .own 5 [[I p0.T, I p0.P, I p0.Liquid, I p0.Vapour, I p0.Silica]])], I p0.Liquid, [], false⟩,
    ⟨[(.tmp 11, B true), (.func 65, (.fn (.func 65) [] [])), (.tmp 13, I p0.Liquid), (.const (.int .i64 0), I 0), (.const (.int .i64 4000), I 4000)], [], B x8, [], false⟩,
    ⟨[(.tmp 11, B true), (.tmp 14, B x8), (.const (.bool false), B false)], [], B x8, [], false⟩,
    ⟨[(.tmp 15, B x8)], [], B false, [], false⟩,
    ⟨[(.tmp 16, B false)], [], (.lit undef), [], true⟩,
    ⟨[(.tmp 16, B false)], [], (.lit undef), [], true⟩,
    ⟨[(.tmp 16, B false)], [], (.lit undef), [], true⟩,
    ⟨[(.tmp 16, B false), (.tmp 19, (.lit undef)), (.const (.bool false), B false)], [], B false, [], false⟩,
    ⟨[(.tmp 20, B false)], [], B false, [], false⟩,
    ⟨[(.tmp 21, B false)], [], (.lit undef), [], true⟩,
    ⟨[(.tmp 21, B false)], [], (.lit undef), [], true⟩,
    ⟨[(.tmp 21, B false)], [], (.lit undef), [], true⟩,
    ⟨[(.tmp 21, B false)], [], (.lit undef), [], true⟩,
    ⟨[(.tmp 21, B false)], [], (.lit undef), [], true⟩,
    ⟨[(.tmp 21, B false), (.tmp 26, (.lit undef)), (.const (.bool false), B false)], [], B false, [], false⟩,
    ⟨[(.tmp 27, B false)], [], B false, [], false⟩,
    ⟨[(.tmp 28, B false)], [], (.lit undef), [], true⟩,
    ⟨[(.tmp 28, B false)], [], (.lit undef), [], true⟩,
    ⟨[(.tmp 28, B false)], [], (.lit undef), [], true⟩,
    ⟨[(.tmp 28, B false), (.tmp 31, (.lit undef)), (.const (.bool false), B false)], [], B false, [], false⟩,
    ⟨[(.tmp 32, B false)], [], B false, [], false⟩] (by exact ⟨by kernel_rfl, by kernel_rfl⟩) ?_ ?_
        · exact ⟨fun _ => astep_faddr rfl Try.underlying115 rfl rfl ti3 (by decide) rfl,
    fun _ => astep_load rfl ti3 (by decide) rfl (Nat.le_of_ble_eq_true rfl) rfl,
    fun _ => astep_pcall (first := []) (cap := []) (vs := [I p0.T, I 0, I 400]) rfl enter65 (steam_withinX_ok N p0.T 0 400 _ hf1) rfl rfl (nl_cons (NLt.lit _) (nl_cons (NLt.lit _) (nl_cons (NLt.lit _) nl_nil))) (NLt.lit _) rfl,
    fun _ => astep_b hb3 (astep_move rfl),
    fun _ => astep_guard (astep_faddr rfl Try.underlying115 rfl rfl ti3 (by decide) rfl),
    fun _ => astep_guard (astep_load rfl ti3 (by decide) rfl (Nat.le_of_ble_eq_true rfl) rfl),
    fun _ => astep_guard (astep_pcall (first := []) (cap := []) (vs := [I p0.P, I 1, I 10000]) rfl enter65 (steam_withinX_ok N p0.P 1 10000 _ hf4) rfl rfl (nl_cons (NLt.lit _) (nl_cons (NLt.lit _) (nl_cons (NLt.lit _) nl_nil))) (NLt.lit _) rfl),
    fun _ => astep_pick rfl rfl,
    fun _ => astep_b hb6 (astep_move rfl),
    fun _ => astep_guard (astep_faddr rfl Try.underlying115 rfl rfl ti3 (by decide) rfl),
    fun _ => astep_guard (astep_load rfl ti3 (by decide) rfl (Nat.le_of_ble_eq_true rfl) rfl),
    fun _ => astep_guard (astep_pcall (first := []) (cap := []) (vs := [I p0.Liquid, I 0, I 4000]) rfl enter65 (steam_withinX_ok N p0.Liquid 0 4000 _ hf7) rfl rfl (nl_cons (NLt.lit _) (nl_cons (NLt.lit _) (nl_cons (NLt.lit _) nl_nil))) (NLt.lit _) rfl),
    fun _ => astep_pick rfl rfl,
    fun _ => astep_b hb9 (astep_move rfl),
    fun hs => (Bool.noConfusion hs),
    fun hs => (Bool.noConfusion hs),
    fun hs => (Bool.noConfusion hs),
    fun _ => astep_pick rfl rfl,
    fun _ => astep_move rfl,
    fun hs => (Bool.noConfusion hs),
    fun hs => (Bool.noConfusion hs),
    fun hs => (Bool.noConfusion hs),
    fun hs => (Bool.noConfusion hs),
    fun hs => (Bool.noConfusion hs),
    fun _ => astep_pick rfl rfl,
    fun _ => astep_move rfl,
    fun hs => (Bool.noConfusion hs),
    fun hs => (Bool.noConfusion hs),
    fun hs => (Bool.noConfusion hs),
    fun _ => astep_pick rfl rfl,
    fun _ => astep_assign rfl, trivial⟩
        refine awp_ret ?_
        obtain rfl := Option.some.inj h
        exact ⟨⟨[B false], ⟨resOK_tmp (by kernel_rfl), trivial⟩, rfl⟩, (NLt.lit _), Nat.le_refl _, fun n hn => absurd hn (Nat.not_lt_zero n)⟩
    · replace h := bif_f hb6 h
      refine awp_reg [⟨[(.tmp 1, .ref 0 5 0 0)], [(0, .own 5 [[I p0.T, I p0.P, I p0.Liquid, I p0.Vapour, I p0.Silica]])], .ref 0 5 0 0, [], false⟩,
    ⟨[(.tmp 3, .ref 0 5 0 0)], [(0, .own 5 [[I p0.T, I p0.P, I p0.Liquid, I p0.Vapour, I p0.Silica]])], I p0.T, [], false⟩,
    ⟨[(.func 65, (.fn (.func 65) [] [])), (.tmp 4, I p0.T), (.const (.int .i64 0), I 0), (.const (.int .i64 400), I 400)], [], B x2, [], false⟩,
    ⟨[(.tmp 5, B x2)], [], B true, [], false⟩,
    ⟨[(.tmp 6, B true), (.tmp 1, .ref 0 5 0 0)], [(0, .own 5 [[I p0.T, I p0.P, I p0.Liquid, I p0.Vapour, I p0.Silica]])], .ref 0 5 0 1, [], false⟩,
    ⟨[(.tmp 6, B true), (.tmp 7, .ref 0 5 0 1)], [(0, .own 5 [[I p0.T, I p0.P, I p0.Liquid, I p0.Vapour, I p0.Silica]])], I p0.P, [], false⟩,
    ⟨[(.tmp 6, B true), (.func 65, (.fn (.func 65) [] [])), (.tmp 8, I p0.P), (.const (.int .i64 1), I 1), (.const (.int .i64 10000), I 10000)], [], B x5, [], false⟩,
    ⟨[(.tmp 6, B true), (.tmp 9, B x5), (.const (.bool false), B false)], [], B x5, [], false⟩,
    ⟨[(.tmp 10, B x5)], [], B false, [], false⟩,
    ⟨[(.tmp 11, B false)], [], (.lit undef), [], true⟩,
    ⟨[(.tmp 11, B false)], [], (.lit undef), [], true⟩,
    ⟨[(.tmp 11, B false)], [], (.lit undef), [], true⟩,
    ⟨[(.tmp 11, B false), (.tmp 14, (.lit undef)), (.const (.bool false), B false)], [], B false, [], false⟩,
    ⟨[(.tmp 15, B false)], [], B false, [], false⟩,
    ⟨[(.tmp 16, B false)], [], (.lit undef), [], true⟩,
    ⟨[(.tmp 16, B false)], [], (.lit undef), [], true⟩,
    ⟨[(.tmp 16, B false)], [], (.lit undef), [], true⟩,
    ⟨[(.tmp 16, B false), (.tmp 19, (.lit undef)), (.const (.bool false), B false)], [], B false, [], false⟩,
    ⟨[(.tmp 20, B false)], [], B false, [], false⟩,
    ⟨[(.tmp 21, B false)], [], (.lit undef), [], true⟩,
    ⟨[(.tmp 21, B false)], [], (.lit undef), [], true⟩,
    ⟨[(.tmp 21, B false)], [], (.lit undef), [], true⟩,
    ⟨[(.tmp 21, B false)], [], (.lit undef), [], true⟩,
    ⟨[(.tmp 21, B false)], [], (.lit undef), [], true⟩,
    ⟨[(.tmp 21, B false), (.tmp 26, (.lit undef)), (.const (.bool false), B false)], [], B false, [], false⟩,
    ⟨[(.tmp 27, B false)], [], B false, [], false⟩,
    ⟨[(.tmp 28, B false)], [], (.lit undef), [], true⟩,
    ⟨[(.tmp 28, B false)], [], (.lit undef), [], true⟩,
    ⟨[(.tmp 28, B false)], [], (.lit undef), [], true⟩,
    ⟨[(.tmp 28, B false), (.tmp 31, (.lit undef)), (.const (.bool false), B false)], [], B false, [], false⟩,
    ⟨[(.tmp 32, B false)], [], B false, [], false⟩] (by exact ⟨by kernel_rfl, by kernel_rfl⟩) ?_ ?_
      · exact ⟨fun _ => astep_faddr rfl Try.underlying115 rfl rfl ti3 (by decide) rfl,
    fun _ => astep_load rfl ti3 (by decide) rfl (Nat.le_of_ble_eq_true rfl) rfl,
    fun _ => astep_pcall (first := []) (cap := []) (vs := [I p0.T, I 0, I 400]) rfl enter65 (steam_withinX_ok N p0.T 0 400 _ hf1) rfl rfl (nl_cons (NLt.lit _) (nl_cons (NLt.lit _) (nl_cons (NLt.lit _) nl_nil))) (NLt.lit _) rfl,
    fun _ => astep_b hb3 (astep_move rfl),
    fun _ => astep_guard (astep_faddr rfl Try.underlying115 rfl rfl ti3 (by decide) rfl),
    fun _ => astep_guard (astep_load rfl ti3 (by decide) rfl (Nat.le_of_ble_eq_true rfl) rfl),
    fun _ => astep_guard (astep_pcall (first := []) (cap := []) (vs := [I p0.P, I 1, I 10000]) rfl enter65 (steam_withinX_ok N p0.P 1 10000 _ hf4) rfl rfl (nl_cons (NLt.lit _) (nl_cons (NLt.lit _) (nl_cons (NLt.lit _) nl_nil))) (NLt.lit _) rfl),
    fun _ => astep_pick rfl rfl,
    fun _ => astep_b hb6 (astep_move rfl),
    fun hs => (Bool.noConfusion hs),
    fun hs => (Bool.noConfusion hs),
    fun hs => (Bool.noConfusion hs),
    fun _ => astep_pick rfl rfl,
    fun _ => astep_move rfl,
    fun hs => (Bool.noConfusion hs),
    fun hs => (Bool.noConfusion hs),
    fun hs => (Bool.noConfusion hs),
    fun _ => astep_pick rfl rfl,
    fun _ => astep_move rfl,
    fun hs => (Bool.noConfusion hs),
    fun hs => (Bool.noConfusion hs),
    fun hs => (Bool.noConfusion hs),
    fun hs => (Bool.noConfusion hs),
    fun hs => (Bool.noConfusion hs),
    fun _ => astep_pick rfl rfl,
    fun _ => astep_move rfl,
    fun hs => (Bool.noConfusion hs),
    fun hs => (Bool.noConfusion hs),
    fun hs => (Bool.noConfusion hs),
    fun _ => astep_pick rfl rfl,
    fun _ => astep_assign rfl, trivial⟩
      refine awp_ret ?_
      obtain rfl := Option.some.inj h
      exact ⟨⟨[B false], ⟨resOK_tmp (by kernel_rfl), trivial⟩, rfl⟩, (NLt.lit _), Nat.le_refl _, fun n hn => absurd hn (Nat.not_lt_zero n)⟩
  · replace h := bif_f hb3 h
    refine awp_reg [⟨[(.tmp 1, .ref 0 5 0 0)], [(0, .own 5 [[I p0.T, I p0.P, I p0.Liquid, I p0.Vapour, I p0.Silica]])], .ref 0 5 0 0, [], false⟩,
    ⟨[(.tmp 3, .ref 0 5 0 0)], [(0, .own 5 [[I p0.T, I p0.P, I p0.Liquid, I p0.Vapour, I p0.Silica]])], I p0.T, [], false⟩,
    ⟨[(.func 65, (.fn (.func 65) [] [])), (.tmp 4, I p0.T), (.const (.int .i64 0), I 0), (.const (.int .i64 400), I 400)], [], B x2, [], false⟩,
    ⟨[(.tmp 5, B x2)], [], B false, [], false⟩,
    ⟨[(.tmp 6, B false)], [], (.lit undef), [], true⟩,
    ⟨[(.tmp 6, B false)], [], (.lit undef), [], true⟩,
    ⟨[(.tmp 6, B false)], [], (.lit undef), [], true⟩,
    ⟨[(.tmp 6, B false), (.tmp 9, (.lit undef)), (.const (.bool false), B false)], [], B false, [], false⟩,
    ⟨[(.tmp 10, B false)], [], B false, [], false⟩,
    ⟨[(.tmp 11, B false)], [], (.lit undef), [], true⟩,
    ⟨[(.tmp 11, B false)], [], (.lit undef), [], true⟩,
    ⟨[(.tmp 11, B false)], [], (.lit undef), [], true⟩,
    ⟨[(.tmp 11, B false), (.tmp 14, (.lit undef)), (.const (.bool false), B false)], [], B false, [], false⟩,
    ⟨[(.tmp 15, B false)], [], B false, [], false⟩,
    ⟨[(.tmp 16, B false)], [], (.lit undef), [], true⟩,
    ⟨[(.tmp 16, B false)], [], (.lit undef), [], true⟩,
    ⟨[(.tmp 16, B false)], [], (.lit undef), [], true⟩,
    ⟨[(.tmp 16, B false), (.tmp 19, (.lit undef)), (.const (.bool false), B false)], [], B false, [], false⟩,
    ⟨[(.tmp 20, B false)], [], B false, [], false⟩,
    ⟨[(.tmp 21, B false)], [], (.lit undef), [], true⟩,
    ⟨[(.tmp 21, B false)], [], (.lit undef), [], true⟩,
    ⟨[(.tmp 21, B false)], [], (.lit undef), [], true⟩,
    ⟨[(.tmp 21, B false)], [], (.lit undef), [], true⟩,
    ⟨[(.tmp 21, B false)], [], (.lit undef), [], true⟩,
    ⟨[(.tmp 21, B false), (.tmp 26, (.lit undef)), (.const (.bool false), B false)], [], B false, [], false⟩,
    ⟨[(.tmp 27, B false)], [], B false, [], false⟩,
    ⟨[(.tmp 28, B false)], [], (.lit undef), [], true⟩,
    ⟨[(.tmp 28, B false)], [], (.lit undef), [], true⟩,
    ⟨[(.tmp 28, B false)], [], (.lit undef), [], true⟩,
    ⟨[(.tmp 28, B false), (.tmp 31, (.lit undef)), (.const (.bool false), B false)], [], B false, [], false⟩,
    ⟨[(.tmp 32, B false)], [], B false, [], false⟩] (by exact ⟨by kernel_rfl, by kernel_rfl⟩) ?_ ?_
    · exact ⟨fun _ => astep_faddr rfl Try.underlying115 rfl rfl ti3 (by decide) rfl,
    fun _ => astep_load rfl ti3 (by decide) rfl (Nat.le_of_ble_eq_true rfl) rfl,
    fun _ => astep_pcall (first := []) (cap := []) (vs := [I p0.T, I 0, I 400]) rfl enter65 (steam_withinX_ok N p0.T 0 400 _ hf1) rfl rfl (nl_cons (NLt.lit _) (nl_cons (NLt.lit _) (nl_cons (NLt.lit _) nl_nil))) (NLt.lit _) rfl,
    fun _ => astep_b hb3 (astep_move rfl),
    fun hs => (Bool.noConfusion hs),
    fun hs => (Bool.noConfusion hs),
    fun hs => (Bool.noConfusion hs),
    fun _ => astep_pick rfl rfl,
    fun _ => astep_move rfl,
    fun hs => (Bool.noConfusion hs),
    fun hs => (Bool.noConfusion hs),
    fun hs => (Bool.noConfusion hs),
    fun _ => astep_pick rfl rfl,
    fun _ => astep_move rfl,
    fun hs => (Bool.noConfusion hs),
    fun hs => (Bool.noConfusion hs),
    fun hs => (Bool.noConfusion hs),
    fun _ => astep_pick rfl rfl,
    fun _ => astep_move rfl,
    fun hs => (Bool.noConfusion hs),
    fun hs => (Bool.noConfusion hs),
    fun hs => (Bool.noConfusion hs),
    fun hs => (Bool.noConfusion hs),
    fun hs => (Bool.noConfusion hs),
    fun _ => astep_pick rfl rfl,
    fun _ => astep_move rfl,
    fun hs => (Bool.noConfusion hs),
    fun hs => (Bool.noConfusion hs),
    fun hs => (Bool.noConfusion hs),
    fun _ => astep_pick rfl rfl,
    fun _ => astep_assign rfl, trivial⟩
    refine awp_ret ?_
    obtain rfl := Option.some.inj h
    exact ⟨⟨[B false], ⟨resOK_tmp (by kernel_rfl), trivial⟩, rfl⟩, (NLt.lit _), Nat.le_refl _, fun n hn => absurd hn (Nat.not_lt_zero n)⟩

def steam_all_steam_Row_1X_1 (N : Nat) (p0 : GRow) : Option Bool :=
  (steam_Row_aloneX N p0).bind fun x3 =>
  some (!x3)
set_option maxRecDepth 100000 in
set_option maxHeartbeats 4000000 in
theorem steam_all_steam_Row_1X_1_ok (N : Nat) (p0 : GRow) (r : Bool) (h : steam_all_steam_Row_1X_1 N p0 = some r) : Spec Try.prog 95 [(.agg [(I (p0.T)), (I (p0.P)), (I (p0.Liquid)), (I (p0.Vapour)), (I (p0.Silica))]), (.ref 0 1 (0) 0)] [(.own 1 [[(.fn (.func 81) [] [])]])] (B (r)) [(.own 1 [[(.fn (.func 81) [] [])]])] := by
  refine spec_of_awp Try.func95 rfl 1 (Nat.le_of_ble_eq_true rfl) (fun X φ0 w0 hφ0 => ?_)
  unfold steam_all_steam_Row_1X_1 at h
  refine awp_finm ?_
  refine awp_reg [⟨[(.tmp 0, (.agg [I p0.T, I p0.P, I p0.Liquid, I p0.Vapour, I p0.Silica]))], [(1, .unused)], .ref 1 5 0 0, [(1, .own 5 [[I p0.T, I p0.P, I p0.Liquid, I p0.Vapour, I p0.Silica]])], false⟩,
    ⟨[(.const (.bool false), B false)], [], B false, [], false⟩] (by exact ⟨by kernel_rfl, by kernel_rfl⟩) ?_ ?_
  · exact ⟨fun _ => astep_box rfl (by rfl) rfl rfl,
    fun _ => astep_assign rfl, trivial⟩
  obtain ⟨x3, hf2, h⟩ := bind_out h
  refine awp_reg [⟨[(.tmp 1, .ref 0 1 0 0)], [(0, (.own 1 [[(.fn (.func 81) [] [])]]))], (.fn (.func 81) [] []), [], false⟩,
    ⟨[(.tmp 2, .ref 1 5 0 0)], [(1, .own 5 [[I p0.T, I p0.P, I p0.Liquid, I p0.Vapour, I p0.Silica]])], (.agg [I p0.T, I p0.P, I p0.Liquid, I p0.Vapour, I p0.Silica]), [], false⟩,
    ⟨[(.tmp 4, (.fn (.func 81) [] [])), (.tmp 5, (.agg [I p0.T, I p0.P, I p0.Liquid, I p0.Vapour, I p0.Silica]))], [], B x3, [], false⟩,
    ⟨[(.tmp 6, B x3)], [], (B ((!x3))), [], false⟩,
    ⟨[(.tmp 7, (B ((!x3))))], [], (B ((!x3))), [], false⟩] (by exact ⟨by kernel_rfl, by kernel_rfl⟩) ?_ ?_
  · exact ⟨fun _ => astep_load rfl ti129 (by decide) rfl (Nat.le_of_ble_eq_true rfl) rfl,
    fun _ => astep_load rfl ti115 (by decide) rfl (Nat.le_of_ble_eq_true rfl) rfl,
    fun _ => astep_pcall (first := []) (cap := []) (vs := [(.agg [I p0.T, I p0.P, I p0.Liquid, I p0.Vapour, I p0.Silica])]) rfl enter81 (steam_Row_aloneX_ok N p0 _ hf2) rfl rfl (nl_cons (NLt.agg _ (nl_cons (NLt.lit _) (nl_cons (NLt.lit _) (nl_cons (NLt.lit _) (nl_cons (NLt.lit _) (nl_cons (NLt.lit _) nl_nil)))))) nl_nil) (NLt.lit _) rfl,
    fun _ => astep_not rfl,
    fun _ => astep_assign rfl, trivial⟩
  refine awp_mor (mor_to (n := 8) (l' := [(3, (B ((!x3))))]) (own' := [(.own 1 [[(.fn (.func 81) [] [])]])]) [(3, (B ((!x3))))] [0] [(.own 1 [[(.fn (.func 81) [] [])]])] hφ0 (by kernel_rfl) (by kernel_rfl) (by kernel_rfl) ⟨rfl, .rn (.plain _ (NLt.lit _)), trivial⟩ ⟨(spw_box ⟨(.rn (rn_fn rnl_nil rnl_nil)), trivial⟩), trivial⟩) ?_
  refine awp_ret ?_
  obtain rfl := Option.some.inj h
  exact ⟨_, Mor.rfl, fin_of (vs := [(B ((!x3)))]) ⟨resOK_tmp (by kernel_rfl), trivial⟩ rfl (NLt.of0 (NLt.lit _)) (by kernel_rfl) (snl_cons (snl_box (nl_cons (NLt.of0 (NLt.fn _ _ _ nl_nil nl_nil)) nl_nil)) snl_nil)⟩

def slices_IndexFunc_steam_Row_steam_RowX_1_loop1 (N : Nat) (p0 : (List GRow)) (k2 : Unit → Option Int) : Nat → Int → Option Int
  | 0, _ => none
  | n5 + 1, y3 =>
    bif (decide (y3 < (p0.length : Int))) then
      (getI p0 y3).bind fun x7 =>
      (steam_all_steam_Row_1X_1 N x7).bind fun x12 =>
      bif x12 then
        some y3
      else
        slices_IndexFunc_steam_Row_steam_RowX_1_loop1 N p0 k2 n5 (w64 (y3 + 1))
    else
      k2 ()
def slices_IndexFunc_steam_Row_steam_RowX_1 (N : Nat) (p0 : (List GRow)) : Option Int :=
  joinK (fun _ =>
      some (-1)) fun k2 : Unit → Option Int =>
  slices_IndexFunc_steam_Row_steam_RowX_1_loop1 N p0 k2 N 0
set_option maxRecDepth 100000 in
set_option maxHeartbeats 4000000 in
theorem slices_IndexFunc_steam_Row_steam_RowX_1_ok (N : Nat) (p0 : (List GRow)) (r : Int) (h : slices_IndexFunc_steam_Row_steam_RowX_1 N p0 = some r) : Spec Try.prog 99 [(.dat 5 ((p0 : List GRow).map c_GRow)), (.fn (.func 95) [] [(.ref 0 1 (0) 0)])] [(.own 1 [[(.fn (.func 81) [] [])]])] (I (r)) [(.own 1 [[(.fn (.func 81) [] [])]])] := by
  refine spec_of_awp Try.func99 rfl 1 (Nat.le_of_ble_eq_true rfl) (fun X φ0 w0 hφ0 => ?_)
  unfold slices_IndexFunc_steam_Row_steam_RowX_1 at h
  refine awp_finm ?_
  refine awp_reg [⟨[(.const (.int .i64 0), I 0)], [], I 0, [], false⟩] (by exact ⟨by kernel_rfl, by kernel_rfl⟩) ?_ ?_
  · exact ⟨fun _ => astep_assign rfl, trivial⟩
  obtain ⟨k2, hk_k2, h⟩ := joinK_out h
  refine awp_join (τ := Unit) (fun t => k2 t = some r) (fun _ => ⟨mk 19 [], [(.own 1 [[(.fn (.func 81) [] [])]])]⟩) (fun t h => ?_) ?_
  · subst hk_k2
    refine awp_reg [⟨[(.const (.int .i64 (-1)), (I ((-1))))], [], (I ((-1))), [], false⟩] (by exact ⟨by kernel_rfl, by kernel_rfl⟩) ?_ ?_
    · exact ⟨fun _ => astep_assign rfl, trivial⟩
    refine awp_mor (mor_to (n := 19) (l' := [(4, (I ((-1))))]) (own' := [(.own 1 [[(.fn (.func 81) [] [])]])]) [(4, (I ((-1))))] [0] [(.own 1 [[(.fn (.func 81) [] [])]])] hφ0 (by kernel_rfl) (by kernel_rfl) (by kernel_rfl) ⟨rfl, .rn (.plain _ (NLt.lit _)), trivial⟩ ⟨(spw_box ⟨(.rn (rn_fn rnl_nil rnl_nil)), trivial⟩), trivial⟩) ?_
    refine awp_ret ?_
    obtain rfl := Option.some.inj h
    exact ⟨_, Mor.rfl, fin_of (vs := [(I ((-1)))]) ⟨resOK_tmp (by kernel_rfl), trivial⟩ rfl (NLt.of0 (NLt.lit _)) (by kernel_rfl) (snl_cons (snl_box (nl_cons (NLt.of0 (NLt.fn _ _ _ nl_nil nl_nil)) nl_nil)) snl_nil)⟩
  · skip
    refine awp_reg [⟨[(.tmp 0, (.dat 5 ((p0 : List GRow).map c_GRow)))], [], (.dat 5 ((p0 : List GRow).map c_GRow)), [], false⟩,
    ⟨[(.tmp 6, (.dat 5 ((p0 : List GRow).map c_GRow)))], [], (I ((p0.length : Int))), [], false⟩,
    ⟨[(.const (.int .i64 0), I 0)], [], I 0, [], false⟩] (by exact ⟨by kernel_rfl, by kernel_rfl⟩) ?_ ?_
    · exact ⟨fun _ => astep_move rfl,
    fun _ => astep_lenm (c := c_GRow) (l := p0) (astep_len rfl Try.underlying29 rfl),
    fun _ => astep_move rfl, trivial⟩
    refine awp_block ?_
    refine awp_mor (mor_to (n := 19) (l' := [(0, (.dat 5 ((p0 : List GRow).map c_GRow))), (1, (.fn (.func 95) [] [.ref 0 1 0 0])), (7, (I ((p0.length : Int)))), (8, I 0)]) (own' := [(.own 1 [[(.fn (.func 81) [] [])]])]) [(0, (.dat 5 ((p0 : List GRow).map c_GRow))), (1, (.fn (.func 95) [] [.ref 0 1 0 0])), (7, (I ((p0.length : Int)))), (8, I 0)] [0] [(.own 1 [[(.fn (.func 81) [] [])]])] hφ0 (by kernel_rfl) (by kernel_rfl) (by kernel_rfl) ⟨rfl, .rn (.plain _ (nl_dat nl_GRow _)), rfl, .rn (rn_fn rnl_nil (rnl_cons (rnq_ref rfl) rnl_nil)), rfl, .rn (.plain _ (NLt.lit _)), rfl, .rn (.plain _ (NLt.lit _)), trivial⟩ ⟨(spw_box ⟨(.rn (rn_fn rnl_nil rnl_nil)), trivial⟩), trivial⟩) ?_
    refine awp_ind (τ := Int) (fun n t => slices_IndexFunc_steam_Row_steam_RowX_1_loop1 N p0 k2 n t = some r) (fun y3 => ⟨mk 19 [(0, (.dat 5 ((p0 : List GRow).map c_GRow))), (1, (.fn (.func 95) [] [.ref 0 1 0 0])), (7, (I ((p0.length : Int)))), (8, I y3)], [(.own 1 [[(.fn (.func 81) [] [])]])]⟩) (fun t h => by rw [slices_IndexFunc_steam_Row_steam_RowX_1_loop1] at h; cases h) (fun n5 ih y3 h => ?_) N (0) h
    rw [slices_IndexFunc_steam_Row_steam_RowX_1_loop1] at h
    skip
    refine awp_reg [⟨[(.tmp 8, I y3), (.tmp 7, (I ((p0.length : Int))))], [], (B ((decide (y3 < (p0.length : Int))))), [], false⟩] (by exact ⟨by kernel_rfl, by kernel_rfl⟩) ?_ ?_
    · exact ⟨fun _ => astep_bin rfl rfl, trivial⟩
    refine awp_seq ?_
    rcases Bool.eq_false_or_eq_true ((decide (y3 < (p0.length : Int)))) with hc6 | hc6
    · replace h := bif_t hc6 h
      refine awp_ift hc6 (by kernel_rfl) ?_
      refine awp_skip ?_
      refine thenA_n ?_
      refine awp_seq ?_
      refine awp_block ?_
      refine awp_reg [⟨[(.tmp 8, I y3)], [], I y3, [], false⟩,
    ⟨[(.tmp 10, I y3)], [], I y3, [], false⟩] (by exact ⟨by kernel_rfl, by kernel_rfl⟩) ?_ ?_
      · exact ⟨fun _ => astep_move rfl,
    fun _ => astep_assign rfl, trivial⟩
      obtain ⟨x7, hg8, h⟩ := bind_out h
      obtain ⟨hi9, hj10⟩ := getI_some hg8
      obtain ⟨x12, hf11, h⟩ := bind_out h
      refine awp_reg [⟨[(.tmp 1, (.fn (.func 95) [] [.ref 0 1 0 0]))], [], (.fn (.func 95) [] [.ref 0 1 0 0]), [], false⟩,
    ⟨[(.tmp 0, (.dat 5 ((p0 : List GRow).map c_GRow)))], [], (.dat 5 ((p0 : List GRow).map c_GRow)), [], false⟩,
    ⟨[(.tmp 5, I y3)], [], I y3, [], false⟩,
    ⟨[(.tmp 12, (.dat 5 ((p0 : List GRow).map c_GRow))), (.tmp 13, I y3)], [], (.dptr (c_GRow (x7)) 0), [], false⟩,
    ⟨[(.tmp 14, (.dptr (c_GRow (x7)) 0))], [], (.agg [I x7.T, I x7.P, I x7.Liquid, I x7.Vapour, I x7.Silica]), [], false⟩,
    ⟨[(.tmp 11, (.fn (.func 95) [] [.ref 0 1 0 0])), (.tmp 15, (.agg [I x7.T, I x7.P, I x7.Liquid, I x7.Vapour, I x7.Silica]))], [(0, (.own 1 [[(.fn (.func 81) [] [])]]))], B x12, [(0, (.own 1 [[(.fn (.func 81) [] [])]]))], false⟩] (by exact ⟨by kernel_rfl, by kernel_rfl⟩) ?_ ?_
      · exact ⟨fun _ => astep_move rfl,
    fun _ => astep_move rfl,
    fun _ => astep_move rfl,
    fun _ => astep_idxd rfl Try.underlying29 ti115 rfl rfl hi9 (map_get c_GRow hj10) rfl,
    fun _ => astep_loadd rfl ti115 (by decide) (Nat.le_of_ble_eq_true rfl) rfl,
    fun _ => astep_callq (first := []) (cap := [.ref 0 1 0 0]) (vs := [(.agg [I x7.T, I x7.P, I x7.Liquid, I x7.Vapour, I x7.Silica])]) (σr := [(.own 1 [[(.fn (.func 81) [] [])]])]) (σr' := [(.own 1 [[(.fn (.func 81) [] [])]])]) (res' := (B x12)) [0] rfl enter95 (steam_all_steam_Row_1X_1_ok N x7 _ hf11) rfl (rn_agg (rnl_cons (.plain _ (NLt.agg _ (nl_cons (NLt.lit _) (nl_cons (NLt.lit _) (nl_cons (NLt.lit _) (nl_cons (NLt.lit _) (nl_cons (NLt.lit _) nl_nil))))))) (rnl_cons (rnk_ref rfl) rnl_nil))) (slw_cons (srn_box (rnl_cons (.plain _ (NLt.fn _ _ _ nl_nil nl_nil)) rnl_nil)) slw_nil) (slw_cons (srn_box (rnl_cons (.plain _ (NLt.fn _ _ _ nl_nil nl_nil)) rnl_nil)) slw_nil) (.plain _ (NLt.lit _)) rfl rfl rfl, trivial⟩
      rcases Bool.eq_false_or_eq_true (x12) with hc13 | hc13
      · replace h := bif_t hc13 h
        refine awp_ift hc13 (by kernel_rfl) ?_
        refine awp_reg [⟨[(.tmp 5, I y3)], [], I y3, [], false⟩,
    ⟨[(.tmp 17, I y3)], [], I y3, [], false⟩] (by exact ⟨by kernel_rfl, by kernel_rfl⟩) ?_ ?_
        · exact ⟨fun _ => astep_move rfl,
    fun _ => astep_assign rfl, trivial⟩
        refine awp_mor (mor_to (n := 19) (l' := [(4, I y3)]) (own' := [(.own 1 [[(.fn (.func 81) [] [])]])]) [(4, I y3)] [0] [(.own 1 [[(.fn (.func 81) [] [])]])] hφ0 (by kernel_rfl) (by kernel_rfl) (by kernel_rfl) ⟨rfl, .rn (.plain _ (NLt.lit _)), trivial⟩ ⟨(spw_box ⟨(.rn (rn_fn rnl_nil rnl_nil)), trivial⟩), trivial⟩) ?_
        refine awp_ret ?_
        refine blockA_r ?_
        refine thenA_r ?_
        refine thenA_r ?_
        refine blockA_r ?_
        refine thenA_r ?_
        obtain rfl := Option.some.inj h
        exact ⟨_, Mor.rfl, fin_of (vs := [I y3]) ⟨resOK_tmp (by kernel_rfl), trivial⟩ rfl (NLt.of0 (NLt.lit _)) (by kernel_rfl) (snl_cons (snl_box (nl_cons (NLt.of0 (NLt.fn _ _ _ nl_nil nl_nil)) nl_nil)) snl_nil)⟩
      · replace h := bif_f hc13 h
        refine awp_ifn hc13 (by kernel_rfl) ?_
        refine awp_skip ?_
        refine blockA_n ?_
        refine thenA_n ?_
        refine awp_reg1 [⟨[(.tmp 8, I y3), (.const (.int .i64 1), I 1)], [], (I (w64 (y3 + 1))), [], false⟩,
    ⟨[(.tmp 18, (I (w64 (y3 + 1))))], [], (I (w64 (y3 + 1))), [], false⟩] (by exact ⟨by kernel_rfl, by kernel_rfl⟩) ?_ ?_
        · exact ⟨fun _ => astep_bin rfl rfl,
    fun _ => astep_move rfl, trivial⟩
        refine thenA_n ?_
        exact around_mor (mor_to (n := 19) (l' := [(0, (.dat 5 ((p0 : List GRow).map c_GRow))), (1, (.fn (.func 95) [] [.ref 0 1 0 0])), (7, (I ((p0.length : Int)))), (8, (I ((w64 (y3 + 1)))))]) (own' := [(.own 1 [[(.fn (.func 81) [] [])]])]) [(0, (.dat 5 ((p0 : List GRow).map c_GRow))), (1, (.fn (.func 95) [] [.ref 0 1 0 0])), (7, (I ((p0.length : Int)))), (8, (I (w64 (y3 + 1))))] [0] [(.own 1 [[(.fn (.func 81) [] [])]])] hφ0 (by kernel_rfl) (by kernel_rfl) (by kernel_rfl) ⟨rfl, .rn (.plain _ (nl_dat nl_GRow _)), rfl, .rn (rn_fn rnl_nil (rnl_cons (rnq_ref rfl) rnl_nil)), rfl, .rn (.plain _ (NLt.lit _)), rfl, .rn (.plain _ (NLt.lit _)), trivial⟩ ⟨(spw_box ⟨(.rn (rn_fn rnl_nil rnl_nil)), trivial⟩), trivial⟩) (ih (w64 (y3 + 1)) h)
    · replace h := bif_f hc6 h
      refine awp_ifn hc6 (by kernel_rfl) ?_
      refine awp_exit ?_
      refine thenA_x ?_
      refine thenA_x ?_
      refine blockA_e rfl ?_
      refine thenA_n ?_
      exact ⟨(), h, (mor_to (n := 19) (l' := []) (own' := [(.own 1 [[(.fn (.func 81) [] [])]])]) [] [0] [(.own 1 [[(.fn (.func 81) [] [])]])] hφ0 (by kernel_rfl) (by kernel_rfl) (by kernel_rfl) trivial ⟨(spw_box ⟨(.rn (rn_fn rnl_nil rnl_nil)), trivial⟩), trivial⟩)⟩

def slices_ContainsFunc_steam_Row_steam_RowX_1 (N : Nat) (p0 : (List GRow)) : Option Bool :=
  (slices_IndexFunc_steam_Row_steam_RowX_1 N p0).bind fun x3 =>
  some (decide (x3 ≥ 0))
set_option maxRecDepth 100000 in
set_option maxHeartbeats 4000000 in
theorem slices_ContainsFunc_steam_Row_steam_RowX_1_ok (N : Nat) (p0 : (List GRow)) (r : Bool) (h : slices_ContainsFunc_steam_Row_steam_RowX_1 N p0 = some r) : Spec Try.prog 94 [(.dat 5 ((p0 : List GRow).map c_GRow)), (.fn (.func 95) [] [(.ref 0 1 (0) 0)])] [(.own 1 [[(.fn (.func 81) [] [])]])] (B (r)) [(.own 1 [[(.fn (.func 81) [] [])]])] := by
  refine spec_of_awp Try.func94 rfl 1 (Nat.le_of_ble_eq_true rfl) (fun X φ0 w0 hφ0 => ?_)
  unfold slices_ContainsFunc_steam_Row_steam_RowX_1 at h
  refine awp_finm ?_
  refine awp_reg [⟨[(.const (.bool false), B false)], [], B false, [], false⟩] (by exact ⟨by kernel_rfl, by kernel_rfl⟩) ?_ ?_
  · exact ⟨fun _ => astep_assign rfl, trivial⟩
  obtain ⟨x3, hf2, h⟩ := bind_out h
  refine awp_reg [⟨[(.tmp 0, (.dat 5 ((p0 : List GRow).map c_GRow)))], [], (.dat 5 ((p0 : List GRow).map c_GRow)), [], false⟩,
    ⟨[(.tmp 1, (.fn (.func 95) [] [.ref 0 1 0 0]))], [], (.fn (.func 95) [] [.ref 0 1 0 0]), [], false⟩,
    ⟨[(.func 99, (.fn (.func 99) [] [])), (.tmp 5, (.dat 5 ((p0 : List GRow).map c_GRow))), (.tmp 6, (.fn (.func 95) [] [.ref 0 1 0 0]))], [(0, (.own 1 [[(.fn (.func 81) [] [])]]))], I x3, [(0, (.own 1 [[(.fn (.func 81) [] [])]]))], false⟩,
    ⟨[(.tmp 7, I x3), (.const (.int .i64 0), I 0)], [], (B ((decide (x3 ≥ 0)))), [], false⟩,
    ⟨[(.tmp 8, (B ((decide (x3 ≥ 0)))))], [], (B ((decide (x3 ≥ 0)))), [], false⟩] (by exact ⟨by kernel_rfl, by kernel_rfl⟩) ?_ ?_
  · exact ⟨fun _ => astep_move rfl,
    fun _ => astep_move rfl,
    fun _ => astep_callq (first := []) (cap := []) (vs := [(.dat 5 ((p0 : List GRow).map c_GRow)), (.fn (.func 95) [] [.ref 0 1 0 0])]) (σr := [(.own 1 [[(.fn (.func 81) [] [])]])]) (σr' := [(.own 1 [[(.fn (.func 81) [] [])]])]) (res' := (I x3)) [0] rfl enter99 (slices_IndexFunc_steam_Row_steam_RowX_1_ok N p0 _ hf2) rfl (rn_agg (rnl_cons (.plain _ (nl_dat nl_GRow _)) (rnl_cons (rn_fn rnl_nil (rnl_cons (rnk_ref rfl) rnl_nil)) rnl_nil))) (slw_cons (srn_box (rnl_cons (.plain _ (NLt.fn _ _ _ nl_nil nl_nil)) rnl_nil)) slw_nil) (slw_cons (srn_box (rnl_cons (.plain _ (NLt.fn _ _ _ nl_nil nl_nil)) rnl_nil)) slw_nil) (.plain _ (NLt.lit _)) rfl rfl rfl,
    fun _ => astep_bin rfl rfl,
    fun _ => astep_assign rfl, trivial⟩
  refine awp_mor (mor_to (n := 9) (l' := [(4, (B ((decide (x3 ≥ 0)))))]) (own' := [(.own 1 [[(.fn (.func 81) [] [])]])]) [(4, (B ((decide (x3 ≥ 0)))))] [0] [(.own 1 [[(.fn (.func 81) [] [])]])] hφ0 (by kernel_rfl) (by kernel_rfl) (by kernel_rfl) ⟨rfl, .rn (.plain _ (NLt.lit _)), trivial⟩ ⟨(spw_box ⟨(.rn (rn_fn rnl_nil rnl_nil)), trivial⟩), trivial⟩) ?_
  refine awp_ret ?_
  obtain rfl := Option.some.inj h
  exact ⟨_, Mor.rfl, fin_of (vs := [(B ((decide (x3 ≥ 0))))]) ⟨resOK_tmp (by kernel_rfl), trivial⟩ rfl (NLt.of0 (NLt.lit _)) (by kernel_rfl) (snl_cons (snl_box (nl_cons (NLt.of0 (NLt.fn _ _ _ nl_nil nl_nil)) nl_nil)) snl_nil)⟩

def steam_all_steam_RowX_1 (N : Nat) (p0 : (List GRow)) : Option Bool :=
  (slices_ContainsFunc_steam_Row_steam_RowX_1 N p0).bind fun x2 =>
  some (!x2)
set_option maxRecDepth 100000 in
set_option maxHeartbeats 4000000 in
theorem steam_all_steam_RowX_1_ok (N : Nat) (p0 : (List GRow)) (r : Bool) (h : steam_all_steam_RowX_1 N p0 = some r) : Spec Try.prog 80 [(.dat 5 ((p0 : List GRow).map c_GRow)), (.fn (.func 81) [] [])] [] (B (r)) [] := by
  refine spec_of_awp Try.func80 rfl 0 (Nat.le_of_ble_eq_true rfl) (fun X φ0 w0 hφ0 => ?_)
  unfold steam_all_steam_RowX_1 at h
  refine awp_reg [⟨[(.tmp 1, (.fn (.func 81) [] []))], [(0, .unused)], .ref 0 1 0 0, [(0, (.own 1 [[(.fn (.func 81) [] [])]]))], false⟩,
    ⟨[(.const (.bool false), B false)], [], B false, [], false⟩] (by exact ⟨by kernel_rfl, by kernel_rfl⟩) ?_ ?_
  · exact ⟨fun _ => astep_box rfl (by rfl) rfl rfl,
    fun _ => astep_assign rfl, trivial⟩
  obtain ⟨x2, hf1, h⟩ := bind_out h
  refine awp_reg [⟨[(.tmp 0, (.dat 5 ((p0 : List GRow).map c_GRow)))], [], (.dat 5 ((p0 : List GRow).map c_GRow)), [], false⟩,
    ⟨[(.tmp 3, .ref 0 1 0 0)], [], (.fn (.func 95) [] [.ref 0 1 0 0]), [], false⟩,
    ⟨[(.func 94, (.fn (.func 94) [] [])), (.tmp 5, (.dat 5 ((p0 : List GRow).map c_GRow))), (.tmp 6, (.fn (.func 95) [] [.ref 0 1 0 0]))], [(0, (.own 1 [[(.fn (.func 81) [] [])]]))], B x2, [(0, (.own 1 [[(.fn (.func 81) [] [])]]))], false⟩,
    ⟨[(.tmp 7, B x2)], [], (B ((!x2))), [], false⟩,
    ⟨[(.tmp 8, (B ((!x2))))], [], (B ((!x2))), [], false⟩] (by exact ⟨by kernel_rfl, by kernel_rfl⟩) ?_ ?_
  · exact ⟨fun _ => astep_move rfl,
    fun _ => astep_func (fs := []) (cs := [.ref 0 1 0 0]) rfl rfl rfl rfl,
    fun _ => astep_callq (first := []) (cap := []) (vs := [(.dat 5 ((p0 : List GRow).map c_GRow)), (.fn (.func 95) [] [.ref 0 1 0 0])]) (σr := [(.own 1 [[(.fn (.func 81) [] [])]])]) (σr' := [(.own 1 [[(.fn (.func 81) [] [])]])]) (res' := (B x2)) [0] rfl enter94 (slices_ContainsFunc_steam_Row_steam_RowX_1_ok N p0 _ hf1) rfl (rn_agg (rnl_cons (.plain _ (nl_dat nl_GRow _)) (rnl_cons (rn_fn rnl_nil (rnl_cons (rnk_ref rfl) rnl_nil)) rnl_nil))) (slw_cons (srn_box (rnl_cons (.plain _ (NLt.fn _ _ _ nl_nil nl_nil)) rnl_nil)) slw_nil) (slw_cons (srn_box (rnl_cons (.plain _ (NLt.fn _ _ _ nl_nil nl_nil)) rnl_nil)) slw_nil) (.plain _ (NLt.lit _)) rfl rfl rfl,
    fun _ => astep_not rfl,
    fun _ => astep_assign rfl, trivial⟩
  refine awp_ret ?_
  obtain rfl := Option.some.inj h
  exact ⟨⟨[(B ((!x2)))], ⟨resOK_tmp (by kernel_rfl), trivial⟩, rfl⟩, (NLt.lit _), Nat.le_refl _, fun n hn => absurd hn (Nat.not_lt_zero n)⟩

def steam_Table_validX_loop1 (N : Nat) (p0 : (List GRow)) (k2 : Unit → Option Bool) : Nat → Int → Option Bool
  | 0, _ => none
  | n6 + 1, y4 =>
    bif (decide (y4 < ((p0.drop (1 : Int).toNat).length : Int))) then
      (getI (p0.drop (1 : Int).toNat) y4).bind fun x8 =>
      (getI p0 y4).bind fun x12 =>
      bif (decide (x8.T ≤ x12.T)) then
        some false
      else
        bif (decide (x8.P ≤ x12.P)) then
          some false
        else
          bif (decide (x8.Liquid ≤ x12.Liquid)) then
            some false
          else
            bif (decide (x8.Silica < x12.Silica)) then
              some false
            else
              steam_Table_validX_loop1 N p0 k2 n6 (w64 (y4 + 1))
    else
      k2 ()
def steam_Table_validX (N : Nat) (p0 : (List GRow)) : Option Bool :=
  joinK (fun _ =>
      joinK (fun _ =>
          some true) fun k2 : Unit → Option Bool =>
      chk (decide (0 ≤ 1) && decide (1 ≤ (p0.length : Int)) && decide ((p0.length : Int) ≤ (p0.length : Int))) <|
      steam_Table_validX_loop1 N p0 k2 N 0) fun k1 : Unit → Option Bool =>
  (steam_withinX N (p0.length : Int) 2 20).bind fun x21 =>
  bif (!x21) then
    some false
  else
    (steam_all_steam_RowX_1 N p0).bind fun x24 =>
    bif (!x24) then
      some false
    else
      k1 ()
set_option maxRecDepth 100000 in
set_option maxHeartbeats 4000000 in
theorem steam_Table_validX_ok (N : Nat) (p0 : (List GRow)) (r : Bool) (h : steam_Table_validX N p0 = some r) : Spec Try.prog 56 [(.dat 5 (p0.map c_GRow))] [] (B r) [] := by
  refine spec_of_awp Try.func56 rfl 0 (Nat.le_of_ble_eq_true rfl) (fun X φ0 w0 hφ0 => ?_)
  unfold steam_Table_validX at h
  refine awp_reg [⟨[(.const (.bool false), B false)], [], B false, [], false⟩] (by exact ⟨by kernel_rfl, by kernel_rfl⟩) ?_ ?_
  · exact ⟨fun _ => astep_assign rfl, trivial⟩
  obtain ⟨k1, hk_k1, h⟩ := joinK_out h
  refine awp_join (τ := Unit) (fun t => k1 t = some r) (fun _ => ⟨mk 54 [(0, (.dat 5 ((p0 : List GRow).map c_GRow)))], []⟩) (fun t h => ?_) ?_
  · subst hk_k1
    obtain ⟨k2, hk_k2, h⟩ := joinK_out h
    refine awp_join (τ := Unit) (fun t => k2 t = some r) (fun _ => ⟨mk 54 [], []⟩) (fun t h => ?_) ?_
    · subst hk_k2
      refine awp_reg [⟨[(.const (.bool true), B true)], [], B true, [], false⟩] (by exact ⟨by kernel_rfl, by kernel_rfl⟩) ?_ ?_
      · exact ⟨fun _ => astep_assign rfl, trivial⟩
      refine awp_ret ?_
      obtain rfl := Option.some.inj h
      exact ⟨⟨[B true], ⟨resOK_tmp (by kernel_rfl), trivial⟩, rfl⟩, (NLt.lit _), Nat.le_refl _, fun n hn => absurd hn (Nat.not_lt_zero n)⟩
    · skip
      obtain ⟨hs3, h⟩ := chk_out h
      refine awp_reg [⟨[(.tmp 0, (.dat 5 ((p0 : List GRow).map c_GRow)))], [], (.dat 5 ((p0 : List GRow).map c_GRow)), [], false⟩,
    ⟨[(.tmp 15, (.dat 5 ((p0 : List GRow).map c_GRow))), (.const (.int .i64 1), I 1)], [], (.dat 5 ((p0.drop (1 : Int).toNat : List GRow).map c_GRow)), [], false⟩,
    ⟨[(.tmp 16, (.dat 5 ((p0.drop (1 : Int).toNat : List GRow).map c_GRow)))], [], (I (((p0.drop (1 : Int).toNat).length : Int))), [], false⟩,
    ⟨[(.const (.int .i64 0), I 0)], [], I 0, [], false⟩] (by exact ⟨by kernel_rfl, by kernel_rfl⟩) ?_ ?_
      · exact ⟨fun _ => astep_move rfl,
    fun _ => astep_sliced (k := .i64) (k' := .i64) (lo := some (.const (.int .i64 1))) (hi := none) (l := 1) (hh := ((p0.length : Nat) : Int)) rfl Try.underlying30 ti115 rfl (fun e => nomatch e) (fun _ => by simp) (and3a hs3) (and3b hs3) (and3c (c_GRow) hs3) (sl_ln c_GRow),
    fun _ => astep_lenm (c := c_GRow) (l := p0.drop (1 : Int).toNat) (astep_len rfl Try.underlying30 rfl),
    fun _ => astep_move rfl, trivial⟩
      refine awp_block ?_
      refine awp_mor (mor_to (n := 54) (l' := [(0, (.dat 5 ((p0 : List GRow).map c_GRow))), (16, (.dat 5 ((p0.drop (1 : Int).toNat : List GRow).map c_GRow))), (17, (I (((p0.drop (1 : Int).toNat).length : Int)))), (18, I 0)]) (own' := []) [(0, (.dat 5 ((p0 : List GRow).map c_GRow))), (16, (.dat 5 ((p0.drop (1 : Int).toNat : List GRow).map c_GRow))), (17, (I (((p0.drop (1 : Int).toNat).length : Int)))), (18, I 0)] [] [] hφ0 (by kernel_rfl) (by kernel_rfl) (by kernel_rfl) ⟨rfl, .rn (.plain _ (nl_dat nl_GRow _)), rfl, .rn (.plain _ (nl_dat nl_GRow _)), rfl, .rn (.plain _ (NLt.lit _)), rfl, .rn (.plain _ (NLt.lit _)), trivial⟩ trivial) ?_
      refine awp_ind (τ := Int) (fun n t => steam_Table_validX_loop1 N p0 k2 n t = some r) (fun y4 => ⟨mk 54 [(0, (.dat 5 ((p0 : List GRow).map c_GRow))), (16, (.dat 5 ((p0.drop (1 : Int).toNat : List GRow).map c_GRow))), (17, (I (((p0.drop (1 : Int).toNat).length : Int)))), (18, I y4)], []⟩) (fun t h => by rw [steam_Table_validX_loop1] at h; cases h) (fun n6 ih y4 h => ?_) N (0) h
      rw [steam_Table_validX_loop1] at h
      skip
      refine awp_reg [⟨[(.tmp 18, I y4), (.tmp 17, (I (((p0.drop (1 : Int).toNat).length : Int))))], [], (B ((decide (y4 < ((p0.drop (1 : Int).toNat).length : Int))))), [], false⟩] (by exact ⟨by kernel_rfl, by kernel_rfl⟩) ?_ ?_
      · exact ⟨fun _ => astep_bin rfl rfl, trivial⟩
      refine awp_seq ?_
      rcases Bool.eq_false_or_eq_true ((decide (y4 < ((p0.drop (1 : Int).toNat).length : Int)))) with hc7 | hc7
      · replace h := bif_t hc7 h
        refine awp_ift hc7 (by kernel_rfl) ?_
        refine awp_skip ?_
        refine thenA_n ?_
        refine awp_seq ?_
        refine awp_block ?_
        obtain ⟨x8, hg9, h⟩ := bind_out h
        obtain ⟨hi10, hj11⟩ := getI_some hg9
        refine awp_reg [⟨[(.tmp 18, I y4)], [], I y4, [], false⟩,
    ⟨[(.tmp 16, (.dat 5 ((p0.drop (1 : Int).toNat : List GRow).map c_GRow))), (.tmp 18, I y4)], [], (.dptr (c_GRow (x8)) 0), [], false⟩,
    ⟨[(.tmp 21, (.dptr (c_GRow (x8)) 0))], [], (.agg [I x8.T, I x8.P, I x8.Liquid, I x8.Vapour, I x8.Silica]), [], false⟩,
    ⟨[], [(0, .unused)], .ref 0 5 0 0, [(0, .own 5 [[I 0, I 0, I 0, I 0, I 0]])], false⟩,
    ⟨[(.tmp 20, I y4)], [], I y4, [], false⟩,
    ⟨[(.tmp 4, .ref 0 5 0 0), (.tmp 22, (.agg [I x8.T, I x8.P, I x8.Liquid, I x8.Vapour, I x8.Silica]))], [(0, .own 5 [[I 0, I 0, I 0, I 0, I 0]])], .any, [(0, .own 5 [[I x8.T, I x8.P, I x8.Liquid, I x8.Vapour, I x8.Silica]])], false⟩] (by exact ⟨by kernel_rfl, by kernel_rfl⟩) ?_ ?_
        · exact ⟨fun _ => astep_move rfl,
    fun _ => astep_idxd rfl Try.underlying30 ti115 rfl rfl hi10 (map_get c_GRow hj11) rfl,
    fun _ => astep_loadd rfl ti115 (by decide) (Nat.le_of_ble_eq_true rfl) rfl,
    fun _ => astep_alloc rfl tz115 rfl,
    fun _ => astep_assign rfl,
    fun _ => astep_store rfl ti115 (by rfl) rfl (Nat.le_of_ble_eq_true rfl) rfl, trivial⟩
        obtain ⟨x12, hg13, h⟩ := bind_out h
        obtain ⟨hi14, hj15⟩ := getI_some hg13
        refine awp_reg [⟨[(.tmp 0, (.dat 5 ((p0 : List GRow).map c_GRow)))], [], (.dat 5 ((p0 : List GRow).map c_GRow)), [], false⟩,
    ⟨[(.tmp 3, I y4)], [], I y4, [], false⟩,
    ⟨[(.tmp 23, (.dat 5 ((p0 : List GRow).map c_GRow))), (.tmp 24, I y4)], [], (.dptr (c_GRow (x12)) 0), [], false⟩,
    ⟨[(.tmp 25, (.dptr (c_GRow (x12)) 0))], [], (.agg [I x12.T, I x12.P, I x12.Liquid, I x12.Vapour, I x12.Silica]), [], false⟩,
    ⟨[], [(1, .unused)], .ref 1 5 0 0, [(1, .own 5 [[I 0, I 0, I 0, I 0, I 0]])], false⟩,
    ⟨[(.tmp 5, .ref 1 5 0 0), (.tmp 26, (.agg [I x12.T, I x12.P, I x12.Liquid, I x12.Vapour, I x12.Silica]))], [(1, .own 5 [[I 0, I 0, I 0, I 0, I 0]])], .any, [(1, .own 5 [[I x12.T, I x12.P, I x12.Liquid, I x12.Vapour, I x12.Silica]])], false⟩] (by exact ⟨by kernel_rfl, by kernel_rfl⟩) ?_ ?_
        · exact ⟨fun _ => astep_move rfl,
    fun _ => astep_move rfl,
    fun _ => astep_idxd rfl Try.underlying30 ti115 rfl rfl hi14 (map_get c_GRow hj15) rfl,
    fun _ => astep_loadd rfl ti115 (by decide) (Nat.le_of_ble_eq_true rfl) rfl,
    fun _ => astep_alloc rfl tz115 rfl,
    fun _ => astep_store rfl ti115 (by rfl) rfl (Nat.le_of_ble_eq_true rfl) rfl, trivial⟩
        rcases Bool.eq_false_or_eq_true ((decide (x8.T ≤ x12.T))) with hb16 | hb16
        · replace h := bif_t hb16 h
          refine awp_reg [⟨[(.tmp 4, .ref 0 5 0 0)], [(0, .own 5 [[I x8.T, I x8.P, I x8.Liquid, I x8.Vapour, I x8.Silica]])], .ref 0 5 0 0, [], false⟩,
    ⟨[(.tmp 27, .ref 0 5 0 0)], [(0, .own 5 [[I x8.T, I x8.P, I x8.Liquid, I x8.Vapour, I x8.Silica]])], I x8.T, [], false⟩,
    ⟨[(.tmp 5, .ref 1 5 0 0)], [(1, .own 5 [[I x12.T, I x12.P, I x12.Liquid, I x12.Vapour, I x12.Silica]])], .ref 1 5 0 0, [], false⟩,
    ⟨[(.tmp 29, .ref 1 5 0 0)], [(1, .own 5 [[I x12.T, I x12.P, I x12.Liquid, I x12.Vapour, I x12.Silica]])], I x12.T, [], false⟩,
    ⟨[(.tmp 28, I x8.T), (.tmp 30, I x12.T)], [], (B ((decide (x8.T ≤ x12.T)))), [], false⟩,
    ⟨[(.tmp 31, (B ((decide (x8.T ≤ x12.T)))))], [], B true, [], false⟩,
    ⟨[(.tmp 32, B true)], [], (.lit undef), [], true⟩,
    ⟨[(.tmp 32, B true)], [], (.lit undef), [], true⟩,
    ⟨[(.tmp 32, B true)], [], (.lit undef), [], true⟩,
    ⟨[(.tmp 32, B true)], [], (.lit undef), [], true⟩,
    ⟨[(.tmp 32, B true)], [], (.lit undef), [], true⟩,
    ⟨[(.tmp 32, B true), (.const (.bool true), B true), (.tmp 37, (.lit undef))], [], B true, [], false⟩,
    ⟨[(.tmp 38, B true)], [], B true, [], false⟩,
    ⟨[(.tmp 39, B true)], [], (.lit undef), [], true⟩,
    ⟨[(.tmp 39, B true)], [], (.lit undef), [], true⟩,
    ⟨[(.tmp 39, B true)], [], (.lit undef), [], true⟩,
    ⟨[(.tmp 39, B true)], [], (.lit undef), [], true⟩,
    ⟨[(.tmp 39, B true)], [], (.lit undef), [], true⟩,
    ⟨[(.tmp 39, B true), (.const (.bool true), B true), (.tmp 44, (.lit undef))], [], B true, [], false⟩,
    ⟨[(.tmp 45, B true)], [], B true, [], false⟩,
    ⟨[(.tmp 46, B true)], [], (.lit undef), [], true⟩,
    ⟨[(.tmp 46, B true)], [], (.lit undef), [], true⟩,
    ⟨[(.tmp 46, B true)], [], (.lit undef), [], true⟩,
    ⟨[(.tmp 46, B true)], [], (.lit undef), [], true⟩,
    ⟨[(.tmp 46, B true)], [], (.lit undef), [], true⟩,
    ⟨[(.tmp 46, B true), (.const (.bool true), B true), (.tmp 51, (.lit undef))], [], B true, [], false⟩] (by exact ⟨by kernel_rfl, by kernel_rfl⟩) ?_ ?_
          · exact ⟨fun _ => astep_faddr rfl Try.underlying115 rfl rfl ti3 (by decide) rfl,
    fun _ => astep_load rfl ti3 (by decide) rfl (Nat.le_of_ble_eq_true rfl) rfl,
    fun _ => astep_faddr rfl Try.underlying115 rfl rfl ti3 (by decide) rfl,
    fun _ => astep_load rfl ti3 (by decide) rfl (Nat.le_of_ble_eq_true rfl) rfl,
    fun _ => astep_bin rfl rfl,
    fun _ => astep_b hb16 (astep_move rfl),
    fun hs => (Bool.noConfusion hs),
    fun hs => (Bool.noConfusion hs),
    fun hs => (Bool.noConfusion hs),
    fun hs => (Bool.noConfusion hs),
    fun hs => (Bool.noConfusion hs),
    fun _ => astep_pick rfl rfl,
    fun _ => astep_move rfl,
    fun hs => (Bool.noConfusion hs),
    fun hs => (Bool.noConfusion hs),
    fun hs => (Bool.noConfusion hs),
    fun hs => (Bool.noConfusion hs),
    fun hs => (Bool.noConfusion hs),
    fun _ => astep_pick rfl rfl,
    fun _ => astep_move rfl,
    fun hs => (Bool.noConfusion hs),
    fun hs => (Bool.noConfusion hs),
    fun hs => (Bool.noConfusion hs),
    fun hs => (Bool.noConfusion hs),
    fun hs => (Bool.noConfusion hs),
    fun _ => astep_pick rfl rfl, trivial⟩
          refine awp_true (by kernel_rfl) ?_
          refine awp_reg [⟨[(.const (.bool false), B false)], [], B false, [], false⟩] (by exact ⟨by kernel_rfl, by kernel_rfl⟩) ?_ ?_
          · exact ⟨fun _ => astep_assign rfl, trivial⟩
          refine awp_ret ?_
          refine blockA_r ?_
          refine thenA_r ?_
          refine thenA_r ?_
          refine blockA_r ?_
          refine thenA_r ?_
          obtain rfl := Option.some.inj h
          exact ⟨⟨[B false], ⟨resOK_tmp (by kernel_rfl), trivial⟩, rfl⟩, (NLt.lit _), Nat.le_refl _, fun n hn => absurd hn (Nat.not_lt_zero n)⟩
        · replace h := bif_f hb16 h
          rcases Bool.eq_false_or_eq_true ((decide (x8.P ≤ x12.P))) with hb17 | hb17
          · replace h := bif_t hb17 h
            refine awp_reg [⟨[(.tmp 4, .ref 0 5 0 0)], [(0, .own 5 [[I x8.T, I x8.P, I x8.Liquid, I x8.Vapour, I x8.Silica]])], .ref 0 5 0 0, [], false⟩,
    ⟨[(.tmp 27, .ref 0 5 0 0)], [(0, .own 5 [[I x8.T, I x8.P, I x8.Liquid, I x8.Vapour, I x8.Silica]])], I x8.T, [], false⟩,
    ⟨[(.tmp 5, .ref 1 5 0 0)], [(1, .own 5 [[I x12.T, I x12.P, I x12.Liquid, I x12.Vapour, I x12.Silica]])], .ref 1 5 0 0, [], false⟩,
    ⟨[(.tmp 29, .ref 1 5 0 0)], [(1, .own 5 [[I x12.T, I x12.P, I x12.Liquid, I x12.Vapour, I x12.Silica]])], I x12.T, [], false⟩,
    ⟨[(.tmp 28, I x8.T), (.tmp 30, I x12.T)], [], (B ((decide (x8.T ≤ x12.T)))), [], false⟩,
    ⟨[(.tmp 31, (B ((decide (x8.T ≤ x12.T)))))], [], B false, [], false⟩,
    ⟨[(.tmp 32, B false), (.tmp 4, .ref 0 5 0 0)], [(0, .own 5 [[I x8.T, I x8.P, I x8.Liquid, I x8.Vapour, I x8.Silica]])], .ref 0 5 0 1, [], false⟩,
    ⟨[(.tmp 32, B false), (.tmp 33, .ref 0 5 0 1)], [(0, .own 5 [[I x8.T, I x8.P, I x8.Liquid, I x8.Vapour, I x8.Silica]])], I x8.P, [], false⟩,
    ⟨[(.tmp 32, B false), (.tmp 5, .ref 1 5 0 0)], [(1, .own 5 [[I x12.T, I x12.P, I x12.Liquid, I x12.Vapour, I x12.Silica]])], .ref 1 5 0 1, [], false⟩,
    ⟨[(.tmp 32, B false), (.tmp 35, .ref 1 5 0 1)], [(1, .own 5 [[I x12.T, I x12.P, I x12.Liquid, I x12.Vapour, I x12.Silica]])], I x12.P, [], false⟩,
    ⟨[(.tmp 32, B false), (.tmp 34, I x8.P), (.tmp 36, I x12.P)], [], (B ((decide (x8.P ≤ x12.P)))), [], false⟩,
    ⟨[(.tmp 32, B false), (.const (.bool true), B true), (.tmp 37, (B ((decide (x8.P ≤ x12.P)))))], [], (B ((decide (x8.P ≤ x12.P)))), [], false⟩,
    ⟨[(.tmp 38, (B ((decide (x8.P ≤ x12.P)))))], [], B true, [], false⟩,
    ⟨[(.tmp 39, B true)], [], (.lit undef), [], true⟩,
    ⟨[(.tmp 39, B true)], [], (.lit undef), [], true⟩,
    ⟨[(.tmp 39, B true)], [], (.lit undef), [], true⟩,
    ⟨[(.tmp 39, B true)], [], (.lit undef), [], true⟩,
    ⟨[(.tmp 39, B true)], [], (.lit undef), [], true⟩,
    ⟨[(.tmp 39, B true), (.const (.bool true), B true), (.tmp 44, (.lit undef))], [], B true, [], false⟩,
    ⟨[(.tmp 45, B true)], [], B true, [], false⟩,
    ⟨[(.tmp 46, B true)], [], (.lit undef), [], true⟩,
    ⟨[(.tmp 46, B true)], [], (.lit undef), [], true⟩,
    ⟨[(.tmp 46, B true)], [], (.lit undef), [], true⟩,
    ⟨[(.tmp 46, B true)], [], (.lit undef), [], true⟩,
    ⟨[(.tmp 46, B true)], [], (.lit undef), [], true⟩,
    ⟨[(.tmp 46, B true), (.const (.bool true), B true), (.tmp 51, (.lit undef))], [], B true, [], false⟩] (by exact ⟨by kernel_rfl, by kernel_rfl⟩) ?_ ?_
            · exact ⟨fun _ => astep_faddr rfl Try.underlying115 rfl rfl ti3 (by decide) rfl,
    fun _ => astep_load rfl ti3 (by decide) rfl (Nat.le_of_ble_eq_true rfl) rfl,
    fun _ => astep_faddr rfl Try.underlying115 rfl rfl ti3 (by decide) rfl,
    fun _ => astep_load rfl ti3 (by decide) rfl (Nat.le_of_ble_eq_true rfl) rfl,
    fun _ => astep_bin rfl rfl,
    fun _ => astep_b hb16 (astep_move rfl),
    fun _ => astep_guard (astep_faddr rfl Try.underlying115 rfl rfl ti3 (by decide) rfl),
    fun _ => astep_guard (astep_load rfl ti3 (by decide) rfl (Nat.le_of_ble_eq_true rfl) rfl),
    fun _ => astep_guard (astep_faddr rfl Try.underlying115 rfl rfl ti3 (by decide) rfl),
    fun _ => astep_guard (astep_load rfl ti3 (by decide) rfl (Nat.le_of_ble_eq_true rfl) rfl),
    fun _ => astep_guard (astep_bin rfl rfl),
    fun _ => astep_pick rfl rfl,
    fun _ => astep_b hb17 (astep_move rfl),
    fun hs => (Bool.noConfusion hs),
    fun hs => (Bool.noConfusion hs),
    fun hs => (Bool.noConfusion hs),
    fun hs => (Bool.noConfusion hs),
    fun hs => (Bool.noConfusion hs),
    fun _ => astep_pick rfl rfl,
    fun _ => astep_move rfl,
    fun hs => (Bool.noConfusion hs),
    fun hs => (Bool.noConfusion hs),
    fun hs => (Bool.noConfusion hs),
    fun hs => (Bool.noConfusion hs),
    fun hs => (Bool.noConfusion hs),
    fun _ => astep_pick rfl rfl, trivial⟩
            refine awp_true (by kernel_rfl) ?_
            refine awp_reg [⟨[(.const (.bool false), B false)], [], B false, [], false⟩] (by exact ⟨by kernel_rfl, by kernel_rfl⟩) ?_ ?_
            · exact ⟨fun _ => astep_assign rfl, trivial⟩
            refine awp_ret ?_
            refine blockA_r ?_
            refine thenA_r ?_
            refine thenA_r ?_
            refine blockA_r ?_
            refine thenA_r ?_
            obtain rfl := Option.some.inj h
            exact ⟨⟨[B false], ⟨resOK_tmp (by kernel_rfl), trivial⟩, rfl⟩, (NLt.lit _), Nat.le_refl _, fun n hn => absurd hn (Nat.not_lt_zero n)⟩
          · replace h := bif_f hb17 h
            rcases Bool.eq_false_or_eq_true ((decide (x8.Liquid ≤ x12.Liquid))) with hb18 | hb18
            · replace h := bif_t hb18 h
              refine awp_reg [⟨[(.tmp 4, .ref 0 5 0 0)], [(0, .own 5 [[I x8.T, I x8.P, I x8.Liquid, I x8.Vapour, I x8.Silica]])], .ref 0 5 0 0, [], false⟩,
    ⟨[(.tmp 27, .ref 0 5 0 0)], [(0, .own 5 [[I x8.T, I x8.P, I x8.Liquid, I x8.Vapour, I x8.Silica]])], I x8.T, [], false⟩,
    ⟨[(.tmp 5, .ref 1 5 0 0)], [(1, .own 5 [[I x12.T, I x12.P, I x12.Liquid, I x12.Vapour, I x12.Silica]])], .ref 1 5 0 0, [], false⟩,
    ⟨[(.tmp 29, .ref 1 5 0 0)], [(1, .own 5 [[I x12.T, I x12.P, I x12.Liquid, I x12.Vapour, I x12.Silica]])], I x12.T, [], false⟩,
    ⟨[(.tmp 28, I x8.T), (.tmp 30, I x12.T)], [], (B ((decide (x8.T ≤ x12.T)))), [], false⟩,
    ⟨[(.tmp 31, (B ((decide (x8.T ≤ x12.T)))))], [], B false, [], false⟩,
    ⟨[(.tmp 32, B false), (.tmp 4, .ref 0 5 0 0)], [(0, .own 5 [[I x8.T, I x8.P, I x8.Liquid, I x8.Vapour, I x8.Silica]])], .ref 0 5 0 1, [], false⟩,
    ⟨[(.tmp 32, B false), (.tmp 33, .ref 0 5 0 1)], [(0, .own 5 [[I x8.T, I x8.P, I x8.Liquid, I x8.Vapour, I x8.Silica]])], I x8.P, [], false⟩,
    ⟨[(.tmp 32, B false), (.tmp 5, .ref 1 5 0 0)], [(1, .own 5 [[I x12.T, I x12.P, I x12.Liquid, I x12.Vapour, I x12.Silica]])], .ref 1 5 0 1, [], false⟩,
    ⟨[(.tmp 32, B false), (.tmp 35, .ref 1 5 0 1)], [(1, .own 5 [[I x12.T, I x12.P, I x12.Liquid, I x12.Vapour, I x12.Silica]])], I x12.P, [], false⟩,
    ⟨[(.tmp 32, B false), (.tmp 34, I x8.P), (.tmp 36, I x12.P)], [], (B ((decide (x8.P ≤ x12.P)))), [], false⟩,
    ⟨[(.tmp 32, B false), (.const (.bool true), B true), (.tmp 37, (B ((decide (x8.P ≤ x12.P)))))], [], (B ((decide (x8.P ≤ x12.P)))), [], false⟩,
    ⟨[(.tmp 38, (B ((decide (x8.P ≤ x12.P)))))], [], B false, [], false⟩,
    ⟨[(.tmp 39, B false), (.tmp 4, .ref 0 5 0 0)], [(0, .own 5 [[I x8.T, I x8.P, I x8.Liquid, I x8.Vapour, I x8.Silica]])], .ref 0 5 0 2, [], false⟩,
    ⟨[(.tmp 39, B false), (.tmp 40, .ref 0 5 0 2)], [(0, .own 5 [[I x8.T, I x8.P, I x8.Liquid, I x8.Vapour, I x8.Silica]])], I x8.Liquid, [], false⟩,
    ⟨[(.tmp 39, B false), (.tmp 5, .ref 1 5 0 0)], [(1, .own 5 [[I x12.T, I x12.P, I x12.Liquid, I x12.Vapour, I x12.Silica]])], .ref 1 5 0 2, [], false⟩,
    ⟨[(.tmp 39, B false), (.tmp 42, .ref 1 5 0 2)], [(1, .own 5 [[I x12.T, I x12.P, I x12.Liquid, I x12.Vapour, I x12.Silica]])], I x12.Liquid, [], false⟩,
    ⟨[(.tmp 39, B false), (.tmp 41, I x8.Liquid), (.tmp 43, I x12.Liquid)], [], (B ((decide (x8.Liquid ≤ x12.Liquid)))), [], false⟩,
    ⟨[(.tmp 39, B false), (.const (.bool true), B true), (.tmp 44, (B ((decide (x8.Liquid ≤ x12.Liquid)))))], [], (B ((decide (x8.Liquid ≤ x12.Liquid)))), [], false⟩,
    ⟨[(.tmp 45, (B ((decide (x8.Liquid ≤ x12.Liquid)))))], [], B true, [], false⟩,
    ⟨[(.tmp 46, B true)], [], (.lit undef), [], true⟩,
    ⟨[(.tmp 46, B true)], [], (.lit undef), [], true⟩,
    ⟨[(.tmp 46, B true)], [], (.lit undef), [], true⟩,
    ⟨[(.tmp 46, B true)], [], (.lit undef), [], true⟩,
    ⟨[(.tmp 46, B true)], [], (.lit undef), [], true⟩,
    ⟨[(.tmp 46, B true), (.const (.bool true), B true), (.tmp 51, (.lit undef))], [], B true, [], false⟩] (by exact ⟨by kernel_rfl, by kernel_rfl⟩) ?_ ?_
              · exact ⟨fun _ => astep_faddr rfl Try.underlying115 rfl rfl ti3 (by decide) rfl,
    fun _ => astep_load rfl ti3 (by decide) rfl (Nat.le_of_ble_eq_true rfl) rfl,
    fun _ => astep_faddr rfl Try.underlying115 rfl rfl ti3 (by decide) rfl,
    fun _ => astep_load rfl ti3 (by decide) rfl (Nat.le_of_ble_eq_true rfl) rfl,
    fun _ => astep_bin rfl rfl,
    fun _ => astep_b hb16 (astep_move rfl),
    fun _ => astep_guard (astep_faddr rfl Try.underlying115 rfl rfl ti3 (by decide) rfl),
    fun _ => astep_guard (astep_load rfl ti3 (by decide) rfl (Nat.le_of_ble_eq_true rfl) rfl),
    fun _ => astep_guard (astep_faddr rfl Try.underlying115 rfl rfl ti3 (by decide) rfl),
    fun _ => astep_guard (astep_load rfl ti3 (by decide) rfl (Nat.le_of_ble_eq_true rfl) rfl),
    fun _ => astep_guard (astep_bin rfl rfl),
    fun _ => astep_pick rfl rfl,
    fun _ => astep_b hb17 (astep_move rfl),
    fun _ => astep_guard (astep_faddr rfl Try.underlying115 rfl rfl ti3 (by decide) rfl),
    fun _ => astep_guard (astep_load rfl ti3 (by decide) rfl (Nat.le_of_ble_eq_true rfl) rfl),
    fun _ => astep_guard (astep_faddr rfl Try.underlying115 rfl rfl ti3 (by decide) rfl),
    fun _ => astep_guard (astep_load rfl ti3 (by decide) rfl (Nat.le_of_ble_eq_true rfl) rfl),
    fun _ => astep_guard (astep_bin rfl rfl),
    fun _ => astep_pick rfl rfl,
    fun _ => astep_b hb18 (astep_move rfl),
    fun hs => (Bool.noConfusion hs),
    fun hs => (Bool.noConfusion hs),
    fun hs => (Bool.noConfusion hs),
    fun hs => (Bool.noConfusion hs),
    fun hs => (Bool.noConfusion hs),
    fun _ => astep_pick rfl rfl, trivial⟩
              refine awp_true (by kernel_rfl) ?_
              refine awp_reg [⟨[(.const (.bool false), B false)], [], B false, [], false⟩] (by exact ⟨by kernel_rfl, by kernel_rfl⟩) ?_ ?_
              · exact ⟨fun _ => astep_assign rfl, trivial⟩
              refine awp_ret ?_
              refine blockA_r ?_
              refine thenA_r ?_
              refine thenA_r ?_
              refine blockA_r ?_
              refine thenA_r ?_
              obtain rfl := Option.some.inj h
              exact ⟨⟨[B false], ⟨resOK_tmp (by kernel_rfl), trivial⟩, rfl⟩, (NLt.lit _), Nat.le_refl _, fun n hn => absurd hn (Nat.not_lt_zero n)⟩
            · replace h := bif_f hb18 h
              refine awp_reg [⟨[(.tmp 4, .ref 0 5 0 0)], [(0, .own 5 [[I x8.T, I x8.P, I x8.Liquid, I x8.Vapour, I x8.Silica]])], .ref 0 5 0 0, [], false⟩,
    ⟨[(.tmp 27, .ref 0 5 0 0)], [(0, .own 5 [[I x8.T, I x8.P, I x8.Liquid, I x8.Vapour, I x8.Silica]])], I x8.T, [], false⟩,
    ⟨[(.tmp 5, .ref 1 5 0 0)], [(1, .own 5 [[I x12.T, I x12.P, I x12.Liquid, I x12.Vapour, I x12.Silica]])], .ref 1 5 0 0, [], false⟩,
    ⟨[(.tmp 29, .ref 1 5 0 0)], [(1, .own 5 [[I x12.T, I x12.P, I x12.Liquid, I x12.Vapour, I x12.Silica]])], I x12.T, [], false⟩,
    ⟨[(.tmp 28, I x8.T), (.tmp 30, I x12.T)], [], (B ((decide (x8.T ≤ x12.T)))), [], false⟩,
    ⟨[(.tmp 31, (B ((decide (x8.T ≤ x12.T)))))], [], B false, [], false⟩,
    ⟨[(.tmp 32, B false), (.tmp 4, .ref 0 5 0 0)], [(0, .own 5 [[I x8.T, I x8.P, I x8.Liquid, I x8.Vapour, I x8.Silica]])], .ref 0 5 0 1, [], false⟩,
    ⟨[(.tmp 32, B false), (.tmp 33, .ref 0 5 0 1)], [(0, .own 5 [[I x8.T, I x8.P, I x8.Liquid, I x8.Vapour, I x8.Silica]])], I x8.P, [], false⟩,
    ⟨[(.tmp 32, B false), (.tmp 5, .ref 1 5 0 0)], [(1, .own 5 [[I x12.T, I x12.P, I x12.Liquid, I x12.Vapour, I x12.Silica]])], .ref 1 5 0 1, [], false⟩,
    ⟨[(.tmp 32, B false), (.tmp 35, .ref 1 5 0 1)], [(1, .own 5 [[I x12.T, I x12.P, I x12.Liquid, I x12.Vapour, I x12.Silica]])], I x12.P, [], false⟩,
    ⟨[(.tmp 32, B false), (.tmp 34, I x8.P), (.tmp 36, I x12.P)], [], (B ((decide (x8.P ≤ x12.P)))), [], false⟩,
    ⟨[(.tmp 32, B false), (.const (.bool true), B true), (.tmp 37, (B ((decide (x8.P ≤ x12.P)))))], [], (B ((decide (x8.P ≤ x12.P)))), [], false⟩,
    ⟨[(.tmp 38, (B ((decide (x8.P ≤ x12.P)))))], [], B false, [], false⟩,
    ⟨[(.tmp 39, B false), (.tmp 4, .ref 0 5 0 0)], [(0, .own 5 [[I x8.T, I x8.P, I x8.Liquid, I x8.Vapour, I x8.Silica]])], .ref 0 5 0 2, [], false⟩,
    ⟨[(.tmp 39, B false), (.tmp 40, .ref 0 5 0 2)], [(0, .own 5 [[I x8.T, I x8.P, I x8.Liquid, I x8.Vapour, I x8.Silica]])], I x8.Liquid, [], false⟩,
    ⟨[(.tmp 39, B false), (.tmp 5, .ref 1 5 0 0)], [(1, .own 5 [[I x12.T, I x12.P, I x12.Liquid, I x12.Vapour, I x12.Silica]])], .ref 1 5 0 2, [], false⟩,
    ⟨[(.tmp 39, B false), (.tmp 42, .ref 1 5 0 2)], [(1, .own 5 [[I x12.T, I x12.P, I x12.Liquid, I x12.Vapour, I x12.Silica]])], I x12.Liquid, [], false⟩,
    ⟨[(.tmp 39, B false), (.tmp 41, I x8.Liquid), (.tmp 43, I x12.Liquid)], [], (B ((decide (x8.Liquid ≤ x12.Liquid)))), [], false⟩,
    ⟨[(.tmp 39, B false), (.const (.bool true), B true), (.tmp 44, (B ((decide (x8.Liquid ≤ x12.Liquid)))))], [], (B ((decide (x8.Liquid ≤ x12.Liquid)))), [], false⟩,
    ⟨[(.tmp 45, (B ((decide (x8.Liquid ≤ x12.Liquid)))))], [], B false, [], false⟩,
    ⟨[(.tmp 46, B false), (.tmp 4, .ref 0 5 0 0)], [(0, .own 5 [[I x8.T, I x8.P, I x8.Liquid, I x8.Vapour, I x8.Silica]])], .ref 0 5 0 4, [], false⟩,
    ⟨[(.tmp 46, B false), (.tmp 47, .ref 0 5 0 4)], [(0, .own 5 [[I x8.T, I x8.P, I x8.Liquid, I x8.Vapour, I x8.Silica]])], I x8.Silica, [], false⟩,
    ⟨[(.tmp 46, B false), (.tmp 5, .ref 1 5 0 0)], [(1, .own 5 [[I x12.T, I x12.P, I x12.Liquid, I x12.Vapour, I x12.Silica]])], .ref 1 5 0 4, [], false⟩,
    ⟨[(.tmp 46, B false), (.tmp 49, .ref 1 5 0 4)], [(1, .own 5 [[I x12.T, I x12.P, I x12.Liquid, I x12.Vapour, I x12.Silica]])], I x12.Silica, [], false⟩,
    ⟨[(.tmp 46, B false), (.tmp 48, I x8.Silica), (.tmp 50, I x12.Silica)], [], (B ((decide (x8.Silica < x12.Silica)))), [], false⟩,
    ⟨[(.tmp 46, B false), (.const (.bool true), B true), (.tmp 51, (B ((decide (x8.Silica < x12.Silica)))))], [], (B ((decide (x8.Silica < x12.Silica)))), [], false⟩] (by exact ⟨by kernel_rfl, by kernel_rfl⟩) ?_ ?_
              · exact ⟨fun _ => astep_faddr rfl Try.underlying115 rfl rfl ti3 (by decide) rfl,
    fun _ => astep_load rfl ti3 (by decide) rfl (Nat.le_of_ble_eq_true rfl) rfl,
    fun _ => astep_faddr rfl Try.underlying115 rfl rfl ti3 (by decide) rfl,
    fun _ => astep_load rfl ti3 (by decide) rfl (Nat.le_of_ble_eq_true rfl) rfl,
    fun _ => astep_bin rfl rfl,
    fun _ => astep_b hb16 (astep_move rfl),
    fun _ => astep_guard (astep_faddr rfl Try.underlying115 rfl rfl ti3 (by decide) rfl),
    fun _ => astep_guard (astep_load rfl ti3 (by decide) rfl (Nat.le_of_ble_eq_true rfl) rfl),
    fun _ => astep_guard (astep_faddr rfl Try.underlying115 rfl rfl ti3 (by decide) rfl),
    fun _ => astep_guard (astep_load rfl ti3 (by decide) rfl (Nat.le_of_ble_eq_true rfl) rfl),
    fun _ => astep_guard (astep_bin rfl rfl),
    fun _ => astep_pick rfl rfl,
    fun _ => astep_b hb17 (astep_move rfl),
    fun _ => astep_guard (astep_faddr rfl Try.underlying115 rfl rfl ti3 (by decide) rfl),
    fun _ => astep_guard (astep_load rfl ti3 (by decide) rfl (Nat.le_of_ble_eq_true rfl) rfl),
    fun _ => astep_guard (astep_faddr rfl Try.underlying115 rfl rfl ti3 (by decide) rfl),
    fun _ => astep_guard (astep_load rfl ti3 (by decide) rfl (Nat.le_of_ble_eq_true rfl) rfl),
    fun _ => astep_guard (astep_bin rfl rfl),
    fun _ => astep_pick rfl rfl,
    fun _ => astep_b hb18 (astep_move rfl),
    fun _ => astep_guard (astep_faddr rfl Try.underlying115 rfl rfl ti3 (by decide) rfl),
    fun _ => astep_guard (astep_load rfl ti3 (by decide) rfl (Nat.le_of_ble_eq_true rfl) rfl),
    fun _ => astep_guard (astep_faddr rfl Try.underlying115 rfl rfl ti3 (by decide) rfl),
    fun _ => astep_guard (astep_load rfl ti3 (by decide) rfl (Nat.le_of_ble_eq_true rfl) rfl),
    fun _ => astep_guard (astep_bin rfl rfl),
    fun _ => astep_pick rfl rfl, trivial⟩
              rcases Bool.eq_false_or_eq_true ((decide (x8.Silica < x12.Silica))) with hc19 | hc19
              · replace h := bif_t hc19 h
                refine awp_ift hc19 (by kernel_rfl) ?_
                refine awp_reg [⟨[(.const (.bool false), B false)], [], B false, [], false⟩] (by exact ⟨by kernel_rfl, by kernel_rfl⟩) ?_ ?_
                · exact ⟨fun _ => astep_assign rfl, trivial⟩
                refine awp_ret ?_
                refine blockA_r ?_
                refine thenA_r ?_
                refine thenA_r ?_
                refine blockA_r ?_
                refine thenA_r ?_
                obtain rfl := Option.some.inj h
                exact ⟨⟨[B false], ⟨resOK_tmp (by kernel_rfl), trivial⟩, rfl⟩, (NLt.lit _), Nat.le_refl _, fun n hn => absurd hn (Nat.not_lt_zero n)⟩
              · replace h := bif_f hc19 h
                refine awp_ifn hc19 (by kernel_rfl) ?_
                refine awp_skip ?_
                refine blockA_n ?_
                refine thenA_n ?_
                refine awp_reg1 [⟨[(.tmp 18, I y4), (.const (.int .i64 1), I 1)], [], (I (w64 (y4 + 1))), [], false⟩,
    ⟨[(.tmp 53, (I (w64 (y4 + 1))))], [], (I (w64 (y4 + 1))), [], false⟩] (by exact ⟨by kernel_rfl, by kernel_rfl⟩) ?_ ?_
                · exact ⟨fun _ => astep_bin rfl rfl,
    fun _ => astep_move rfl, trivial⟩
                refine thenA_n ?_
                exact around_mor (mor_to (n := 54) (l' := [(0, (.dat 5 ((p0 : List GRow).map c_GRow))), (16, (.dat 5 ((p0.drop (1 : Int).toNat : List GRow).map c_GRow))), (17, (I (((p0.drop (1 : Int).toNat).length : Int)))), (18, (I ((w64 (y4 + 1)))))]) (own' := []) [(0, (.dat 5 ((p0 : List GRow).map c_GRow))), (16, (.dat 5 ((p0.drop (1 : Int).toNat : List GRow).map c_GRow))), (17, (I (((p0.drop (1 : Int).toNat).length : Int)))), (18, (I (w64 (y4 + 1))))] [] [] hφ0 (by kernel_rfl) (by kernel_rfl) (by kernel_rfl) ⟨rfl, .rn (.plain _ (nl_dat nl_GRow _)), rfl, .rn (.plain _ (nl_dat nl_GRow _)), rfl, .rn (.plain _ (NLt.lit _)), rfl, .rn (.plain _ (NLt.lit _)), trivial⟩ trivial) (ih (w64 (y4 + 1)) h)
      · replace h := bif_f hc7 h
        refine awp_ifn hc7 (by kernel_rfl) ?_
        refine awp_exit ?_
        refine thenA_x ?_
        refine thenA_x ?_
        refine blockA_e rfl ?_
        refine thenA_n ?_
        exact ⟨(), h, (mor_to (n := 54) (l' := []) (own' := []) [] [] [] hφ0 (by kernel_rfl) (by kernel_rfl) (by kernel_rfl) trivial trivial)⟩
  · skip
    obtain ⟨x21, hf20, h⟩ := bind_out h
    rcases Bool.eq_false_or_eq_true ((!x21)) with hb22 | hb22
    · replace h := bif_t hb22 h
      refine awp_reg [⟨[(.tmp 0, (.dat 5 ((p0 : List GRow).map c_GRow)))], [], (.dat 5 ((p0 : List GRow).map c_GRow)), [], false⟩,
    ⟨[(.tmp 6, (.dat 5 ((p0 : List GRow).map c_GRow)))], [], (I ((p0.length : Int))), [], false⟩,
    ⟨[(.func 65, (.fn (.func 65) [] [])), (.tmp 7, (I ((p0.length : Int)))), (.const (.int .i64 2), I 2), (.const (.int .i64 20), I 20)], [], B x21, [], false⟩,
    ⟨[(.tmp 8, B x21)], [], (B ((!x21))), [], false⟩,
    ⟨[(.tmp 9, (B ((!x21))))], [], B true, [], false⟩,
    ⟨[(.tmp 10, B true)], [], (.lit undef), [], true⟩,
    ⟨[(.tmp 10, B true)], [], (.lit undef), [], true⟩,
    ⟨[(.tmp 10, B true)], [], (.lit undef), [], true⟩,
    ⟨[(.tmp 10, B true), (.const (.bool true), B true), (.tmp 13, (.lit undef))], [], B true, [], false⟩] (by exact ⟨by kernel_rfl, by kernel_rfl⟩) ?_ ?_
      · exact ⟨fun _ => astep_move rfl,
    fun _ => astep_lenm (c := c_GRow) (l := p0) (astep_len rfl Try.underlying30 rfl),
    fun _ => astep_pcall (first := []) (cap := []) (vs := [(I ((p0.length : Int))), I 2, I 20]) rfl enter65 (steam_withinX_ok N (p0.length : Int) 2 20 _ hf20) rfl rfl (nl_cons (NLt.lit _) (nl_cons (NLt.lit _) (nl_cons (NLt.lit _) nl_nil))) (NLt.lit _) rfl,
    fun _ => astep_not rfl,
    fun _ => astep_b hb22 (astep_move rfl),
    fun hs => (Bool.noConfusion hs),
    fun hs => (Bool.noConfusion hs),
    fun hs => (Bool.noConfusion hs),
    fun _ => astep_pick rfl rfl, trivial⟩
      refine awp_true (by kernel_rfl) ?_
      refine awp_reg [⟨[(.const (.bool false), B false)], [], B false, [], false⟩] (by exact ⟨by kernel_rfl, by kernel_rfl⟩) ?_ ?_
      · exact ⟨fun _ => astep_assign rfl, trivial⟩
      refine awp_ret ?_
      refine thenA_r ?_
      obtain rfl := Option.some.inj h
      exact ⟨⟨[B false], ⟨resOK_tmp (by kernel_rfl), trivial⟩, rfl⟩, (NLt.lit _), Nat.le_refl _, fun n hn => absurd hn (Nat.not_lt_zero n)⟩
    · replace h := bif_f hb22 h
      obtain ⟨x24, hf23, h⟩ := bind_out h
      refine awp_reg [⟨[(.tmp 0, (.dat 5 ((p0 : List GRow).map c_GRow)))], [], (.dat 5 ((p0 : List GRow).map c_GRow)), [], false⟩,
    ⟨[(.tmp 6, (.dat 5 ((p0 : List GRow).map c_GRow)))], [], (I ((p0.length : Int))), [], false⟩,
    ⟨[(.func 65, (.fn (.func 65) [] [])), (.tmp 7, (I ((p0.length : Int)))), (.const (.int .i64 2), I 2), (.const (.int .i64 20), I 20)], [], B x21, [], false⟩,
    ⟨[(.tmp 8, B x21)], [], (B ((!x21))), [], false⟩,
    ⟨[(.tmp 9, (B ((!x21))))], [], B false, [], false⟩,
    ⟨[(.tmp 10, B false), (.tmp 0, (.dat 5 ((p0 : List GRow).map c_GRow)))], [], (.dat 5 ((p0 : List GRow).map c_GRow)), [], false⟩,
    ⟨[(.tmp 10, B false), (.func 80, (.fn (.func 80) [] [])), (.tmp 11, (.dat 5 ((p0 : List GRow).map c_GRow))), (.func 81, (.fn (.func 81) [] []))], [], B x24, [], false⟩,
    ⟨[(.tmp 10, B false), (.tmp 12, B x24)], [], (B ((!x24))), [], false⟩,
    ⟨[(.tmp 10, B false), (.const (.bool true), B true), (.tmp 13, (B ((!x24))))], [], (B ((!x24))), [], false⟩] (by exact ⟨by kernel_rfl, by kernel_rfl⟩) ?_ ?_
      · exact ⟨fun _ => astep_move rfl,
    fun _ => astep_lenm (c := c_GRow) (l := p0) (astep_len rfl Try.underlying30 rfl),
    fun _ => astep_pcall (first := []) (cap := []) (vs := [(I ((p0.length : Int))), I 2, I 20]) rfl enter65 (steam_withinX_ok N (p0.length : Int) 2 20 _ hf20) rfl rfl (nl_cons (NLt.lit _) (nl_cons (NLt.lit _) (nl_cons (NLt.lit _) nl_nil))) (NLt.lit _) rfl,
    fun _ => astep_not rfl,
    fun _ => astep_b hb22 (astep_move rfl),
    fun _ => astep_guard (astep_move rfl),
    fun _ => astep_guard (astep_callq (first := []) (cap := []) (vs := [(.dat 5 ((p0 : List GRow).map c_GRow)), (.fn (.func 81) [] [])]) (σr := []) (σr' := []) (res' := (B x24)) [] rfl enter80 (steam_all_steam_RowX_1_ok N p0 _ hf23) rfl (rn_agg (rnl_cons (.plain _ (nl_dat nl_GRow _)) (rnl_cons (.plain _ (NLt.fn _ _ _ nl_nil nl_nil)) rnl_nil))) slw_nil slw_nil (.plain _ (NLt.lit _)) rfl rfl rfl),
    fun _ => astep_guard (astep_not rfl),
    fun _ => astep_pick rfl rfl, trivial⟩
      rcases Bool.eq_false_or_eq_true ((!x24)) with hc25 | hc25
      · replace h := bif_t hc25 h
        refine awp_ift hc25 (by kernel_rfl) ?_
        refine awp_reg [⟨[(.const (.bool false), B false)], [], B false, [], false⟩] (by exact ⟨by kernel_rfl, by kernel_rfl⟩) ?_ ?_
        · exact ⟨fun _ => astep_assign rfl, trivial⟩
        refine awp_ret ?_
        refine thenA_r ?_
        obtain rfl := Option.some.inj h
        exact ⟨⟨[B false], ⟨resOK_tmp (by kernel_rfl), trivial⟩, rfl⟩, (NLt.lit _), Nat.le_refl _, fun n hn => absurd hn (Nat.not_lt_zero n)⟩
      · replace h := bif_f hc25 h
        refine awp_ifn hc25 (by kernel_rfl) ?_
        refine awp_skip ?_
        refine thenA_n ?_
        exact ⟨(), h, (mor_to (n := 54) (l' := [(0, (.dat 5 ((p0 : List GRow).map c_GRow)))]) (own' := []) [(0, (.dat 5 ((p0 : List GRow).map c_GRow)))] [] [] hφ0 (by kernel_rfl) (by kernel_rfl) (by kernel_rfl) ⟨rfl, .rn (.plain _ (nl_dat nl_GRow _)), trivial⟩ trivial)⟩

def steam_Stream_validX (N : Nat) (p0 : GStream) : Option Bool :=
  (steam_withinX N p0.Mass 0 1000000).bind fun x2 =>
  bif x2 then
    (steam_withinX N p0.Heat 0 (w64 (4000 * p0.Mass))).bind fun x5 =>
    bif x5 then
      (steam_withinX N p0.Silica 0 (w64 (10000 * p0.Mass))).bind fun x8 =>
      bif x8 then
        (steam_withinX N p0.Gas 0 1000000000).bind fun x11 =>
        some x11
      else
        some false
    else
      some false
  else
    some false
set_option maxRecDepth 100000 in
set_option maxHeartbeats 4000000 in
theorem steam_Stream_validX_ok (N : Nat) (p0 : GStream) (r : Bool) (h : steam_Stream_validX N p0 = some r) : Spec Try.prog 63 [(.agg (c_GStream p0))] [] (B r) [] := by
  refine spec_of_awp Try.func63 rfl 0 (Nat.le_of_ble_eq_true rfl) (fun X φ0 w0 hφ0 => ?_)
  unfold steam_Stream_validX at h
  refine awp_reg [⟨[(.tmp 0, (.agg [I p0.Mass, I p0.Heat, I p0.Silica, I p0.Gas]))], [(0, .unused)], .ref 0 4 0 0, [(0, .own 4 [[I p0.Mass, I p0.Heat, I p0.Silica, I p0.Gas]])], false⟩,
    ⟨[(.const (.bool false), B false)], [], B false, [], false⟩] (by exact ⟨by kernel_rfl, by kernel_rfl⟩) ?_ ?_
  · exact ⟨fun _ => astep_box rfl (by rfl) rfl rfl,
    fun _ => astep_assign rfl, trivial⟩
  obtain ⟨x2, hf1, h⟩ := bind_out h
  rcases Bool.eq_false_or_eq_true (x2) with hb3 | hb3
  · replace h := bif_t hb3 h
    obtain ⟨x5, hf4, h⟩ := bind_out h
    rcases Bool.eq_false_or_eq_true (x5) with hb6 | hb6
    · replace h := bif_t hb6 h
      obtain ⟨x8, hf7, h⟩ := bind_out h
      rcases Bool.eq_false_or_eq_true (x8) with hb9 | hb9
      · replace h := bif_t hb9 h
        obtain ⟨x11, hf10, h⟩ := bind_out h
        refine awp_reg [⟨[(.tmp 1, .ref 0 4 0 0)], [(0, .own 4 [[I p0.Mass, I p0.Heat, I p0.Silica, I p0.Gas]])], .ref 0 4 0 0, [], false⟩,
    ⟨[(.tmp 3, .ref 0 4 0 0)], [(0, .own 4 [[I p0.Mass, I p0.Heat, I p0.Silica, I p0.Gas]])], I p0.Mass, [], false⟩,
    ⟨[(.func 65, (.fn (.func 65) [] [])), (.tmp 4, I p0.Mass), (.const (.int .i64 0), I 0), (.const (.int .i64 1000000), I 1000000)], [], B x2, [], false⟩,
    ⟨[(.tmp 5, B x2)], [], B true, [], false⟩,
    ⟨[(.tmp 6, B true), (.tmp 1, .ref 0 4 0 0)], [(0, .own 4 [[I p0.Mass, I p0.Heat, I p0.Silica, I p0.Gas]])], .ref 0 4 0 1, [], false⟩,
    ⟨[(.tmp 6, B true), (.tmp 7, .ref 0 4 0 1)], [(0, .own 4 [[I p0.Mass, I p0.Heat, I p0.Silica, I p0.Gas]])], I p0.Heat, [], false⟩,
    ⟨[(.tmp 6, B true), (.tmp 1, .ref 0 4 0 0)], [(0, .own 4 [[I p0.Mass, I p0.Heat, I p0.Silica, I p0.Gas]])], .ref 0 4 0 0, [], false⟩,
    ⟨[(.tmp 6, B true), (.tmp 9, .ref 0 4 0 0)], [(0, .own 4 [[I p0.Mass, I p0.Heat, I p0.Silica, I p0.Gas]])], I p0.Mass, [], false⟩,
    ⟨[(.tmp 6, B true), (.const (.int .i64 4000), I 4000), (.tmp 10, I p0.Mass)], [], (I (w64 (4000 * p0.Mass))), [], false⟩,
    ⟨[(.tmp 6, B true), (.func 65, (.fn (.func 65) [] [])), (.tmp 8, I p0.Heat), (.const (.int .i64 0), I 0), (.tmp 11, (I (w64 (4000 * p0.Mass))))], [], B x5, [], false⟩,
    ⟨[(.tmp 6, B true), (.tmp 12, B x5), (.const (.bool false), B false)], [], B x5, [], false⟩,
    ⟨[(.tmp 13, B x5)], [], B true, [], false⟩,
    ⟨[(.tmp 14, B true), (.tmp 1, .ref 0 4 0 0)], [(0, .own 4 [[I p0.Mass, I p0.Heat, I p0.Silica, I p0.Gas]])], .ref 0 4 0 2, [], false⟩,
    ⟨[(.tmp 14, B true), (.tmp 15, .ref 0 4 0 2)], [(0, .own 4 [[I p0.Mass, I p0.Heat, I p0.Silica, I p0.Gas]])], I p0.Silica, [], false⟩,
    ⟨[(.tmp 14, B true), (.tmp 1, .ref 0 4 0 0)], [(0, .own 4 [[I p0.Mass, I p0.Heat, I p0.Silica, I p0.Gas]])], .ref 0 4 0 0, [], false⟩,
    ⟨[(.tmp 14, B true), (.tmp 17, .ref 0 4 0 0)], [(0, .own 4 [[I p0.Mass, I p0.Heat, I p0.Silica, I p0.Gas]])], I p0.Mass, [], false⟩,
    ⟨[(.tmp 14, B true), (.const (.int .i64 10000), I 10000), (.tmp 18, I p0.Mass)], [], (I (w64 (10000 * p0.Mass))), [], false⟩,
    ⟨[(.tmp 14, B true), (.func 65, (.fn (.func 65) [] [])), (.tmp 16, I p0.Silica), (.const (.int .i64 0), I 0), (.tmp 19, (I (w64 (10000 * p0.Mass))))], [], B x8, [], false⟩,
    ⟨[(.tmp 14, B true), (.tmp 20, B x8), (.const (.bool false), B false)], [], B x8, [], false⟩,
    ⟨[(.tmp 21, B x8)], [], B true, [], false⟩,
    ⟨[(.tmp 22, B true), (.tmp 1, .ref 0 4 0 0)], [(0, .own 4 [[I p0.Mass, I p0.Heat, I p0.Silica, I p0.Gas]])], .ref 0 4 0 3, [], false⟩,
    ⟨[(.tmp 22, B true), (.tmp 23, .ref 0 4 0 3)], [(0, .own 4 [[I p0.Mass, I p0.Heat, I p0.Silica, I p0.Gas]])], I p0.Gas, [], false⟩,
    ⟨[(.tmp 22, B true), (.func 65, (.fn (.func 65) [] [])), (.tmp 24, I p0.Gas), (.const (.int .i64 0), I 0), (.const (.int .i64 1000000000), I 1000000000)], [], B x11, [], false⟩,
    ⟨[(.tmp 22, B true), (.tmp 25, B x11), (.const (.bool false), B false)], [], B x11, [], false⟩,
    ⟨[(.tmp 26, B x11)], [], B x11, [], false⟩] (by exact ⟨by kernel_rfl, by kernel_rfl⟩) ?_ ?_
        · exact ⟨fun _ => astep_faddr rfl Try.underlying42 rfl rfl ti3 (by decide) rfl,
    fun _ => astep_load rfl ti3 (by decide) rfl (Nat.le_of_ble_eq_true rfl) rfl,
    fun _ => astep_pcall (first := []) (cap := []) (vs := [I p0.Mass, I 0, I 1000000]) rfl enter65 (steam_withinX_ok N p0.Mass 0 1000000 _ hf1) rfl rfl (nl_cons (NLt.lit _) (nl_cons (NLt.lit _) (nl_cons (NLt.lit _) nl_nil))) (NLt.lit _) rfl,
    fun _ => astep_b hb3 (astep_move rfl),
    fun _ => astep_guard (astep_faddr rfl Try.underlying42 rfl rfl ti3 (by decide) rfl),
    fun _ => astep_guard (astep_load rfl ti3 (by decide) rfl (Nat.le_of_ble_eq_true rfl) rfl),
    fun _ => astep_guard (astep_faddr rfl Try.underlying42 rfl rfl ti3 (by decide) rfl),
    fun _ => astep_guard (astep_load rfl ti3 (by decide) rfl (Nat.le_of_ble_eq_true rfl) rfl),
    fun _ => astep_guard (astep_bin rfl rfl),
    fun _ => astep_guard (astep_pcall (first := []) (cap := []) (vs := [I p0.Heat, I 0, (I (w64 (4000 * p0.Mass)))]) rfl enter65 (steam_withinX_ok N p0.Heat 0 (w64 (4000 * p0.Mass)) _ hf4) rfl rfl (nl_cons (NLt.lit _) (nl_cons (NLt.lit _) (nl_cons (NLt.lit _) nl_nil))) (NLt.lit _) rfl),
    fun _ => astep_pick rfl rfl,
    fun _ => astep_b hb6 (astep_move rfl),
    fun _ => astep_guard (astep_faddr rfl Try.underlying42 rfl rfl ti3 (by decide) rfl),
    fun _ => astep_guard (astep_load rfl ti3 (by decide) rfl (Nat.le_of_ble_eq_true rfl) rfl),
    fun _ => astep_guard (astep_faddr rfl Try.underlying42 rfl rfl ti3 (by decide) rfl),
    fun _ => astep_guard (astep_load rfl ti3 (by decide) rfl (Nat.le_of_ble_eq_true rfl) rfl),
    fun _ => astep_guard (astep_bin rfl rfl),
    fun _ => astep_guard (astep_pcall (first := []) (cap := []) (vs := [I p0.Silica, I 0, (I (w64 (10000 * p0.Mass)))]) rfl enter65 (steam_withinX_ok N p0.Silica 0 (w64 (10000 * p0.Mass)) _ hf7) rfl rfl (nl_cons (NLt.lit _) (nl_cons (NLt.lit _) (nl_cons (NLt.lit _) nl_nil))) (NLt.lit _) rfl),
    fun _ => astep_pick rfl rfl,
    fun _ => astep_b hb9 (astep_move rfl),
    fun _ => astep_guard (astep_faddr rfl Try.underlying42 rfl rfl ti3 (by decide) rfl),
    fun _ => astep_guard (astep_load rfl ti3 (by decide) rfl (Nat.le_of_ble_eq_true rfl) rfl),
    fun _ => astep_guard (astep_pcall (first := []) (cap := []) (vs := [I p0.Gas, I 0, I 1000000000]) rfl enter65 (steam_withinX_ok N p0.Gas 0 1000000000 _ hf10) rfl rfl (nl_cons (NLt.lit _) (nl_cons (NLt.lit _) (nl_cons (NLt.lit _) nl_nil))) (NLt.lit _) rfl),
    fun _ => astep_pick rfl rfl,
    fun _ => astep_assign rfl, trivial⟩
        refine awp_ret ?_
        obtain rfl := Option.some.inj h
        exact ⟨⟨[B x11], ⟨resOK_tmp (by kernel_rfl), trivial⟩, rfl⟩, (NLt.lit _), Nat.le_refl _, fun n hn => absurd hn (Nat.not_lt_zero n)⟩
      · replace h := bif_f hb9 h
        refine awp_reg [⟨[(.tmp 1, .ref 0 4 0 0)], [(0, .own 4 [[I p0.Mass, I p0.Heat, I p0.Silica, I p0.Gas]])], .ref 0 4 0 0, [], false⟩,
    ⟨[(.tmp 3, .ref 0 4 0 0)], [(0, .own 4 [[I p0.Mass, I p0.Heat, I p0.Silica, I p0.Gas]])], I p0.Mass, [], false⟩,
    ⟨[(.func 65, (.fn (.func 65) [] [])), (.tmp 4, I p0.Mass), (.const (.int .i64 0), I 0), (.const (.int .i64 1000000), I 1000000)], [], B x2, [], false⟩,
    ⟨[(.tmp 5, B x2)], [], B true, [], false⟩,
    ⟨[(.tmp 6, B true), (.tmp 1, .ref 0 4 0 0)], [(0, .own 4 [[I p0.Mass, I p0.Heat, I p0.Silica, I p0.Gas]])], .ref 0 4 0 1, [], false⟩,
    ⟨[(.tmp 6, B true), (.tmp 7, .ref 0 4 0 1)], [(0, .own 4 [[I p0.Mass, I p0.Heat, I p0.Silica, I p0.Gas]])], I p0.Heat, [], false⟩,
    ⟨[(.tmp 6, B true), (.tmp 1, .ref 0 4 0 0)], [(0, .own 4 [[I p0.Mass, I p0.Heat, I p0.Silica, I p0.Gas]])], .ref 0 4 0 0, [], false⟩,
    ⟨[(.tmp 6, B true), (.tmp 9, .ref 0 4 0 0)], [(0, .own 4 [[I p0.Mass, I p0.Heat, I p0.Silica, I p0.Gas]])], I p0.Mass, [], false⟩,
    ⟨[(.tmp 6, B true), (.const (.int .i64 4000), I 4000), (.tmp 10, I p0.Mass)], [], (I (w64 (4000 * p0.Mass))), [], false⟩,
    ⟨[(.tmp 6, B true), (.func 65, (.fn (.func 65) [] [])), (.tmp 8, I p0.Heat), (.const (.int .i64 0), I 0), (.tmp 11, (I (w64 (4000 * p0.Mass))))], [], B x5, [], false⟩,
    ⟨[(.tmp 6, B true), (.tmp 12, B x5), (.const (.bool false), B false)], [], B x5, [], false⟩,
    ⟨[(.tmp 13, B x5)], [], B true, [], false⟩,
    ⟨[(.tmp 14, B true), (.tmp 1, .ref 0 4 0 0)], [(0, .own 4 [[I p0.Mass, I p0.Heat, I p0.Silica, I p0.Gas]])], .ref 0 4 0 2, [], false⟩,
    ⟨[(.tmp 14, B true), (.tmp 15, .ref 0 4 0 2)], [(0, .own 4 [[I p0.Mass, I p0.Heat, I p0.Silica, I p0.Gas]])], I p0.Silica, [], false⟩,
    ⟨[(.tmp 14, B true), (.tmp 1, .ref 0 4 0 0)], [(0, .own 4 [[I p0.Mass, I p0.Heat, I p0.Silica, I p0.Gas]])], .ref 0 4 0 0, [], false⟩,
    ⟨[(.tmp 14, B true), (.tmp 17, .ref 0 4 0 0)], [(0, .own 4 [[I p0.Mass, I p0.Heat, I p0.Silica, I p0.Gas]])], I p0.Mass, [], false⟩,
    ⟨[(.tmp 14, B true), (.const (.int .i64 10000), I 10000), (.tmp 18, I p0.Mass)], [], (I (w64 (10000 * p0.Mass))), [], false⟩,
    ⟨[(.tmp 14, B true), (.func 65, (.fn (.func 65) [] [])), (.tmp 16, I p0.Silica), (.const (.int .i64 0), I 0), (.tmp 19, (I (w64 (10000 * p0.Mass))))], [], B x8, [], false⟩,
    ⟨[(.tmp 14, B true), (.tmp 20, B x8), (.const (.bool false), B false)], [], B x8, [], false⟩,
    ⟨[(.tmp 21, B x8)], [], B false, [], false⟩,
    ⟨[(.tmp 22, B false)], [], (.lit undef), [], true⟩,
    ⟨[(.tmp 22, B false)], [], (.lit undef), [], true⟩,
    ⟨[(.tmp 22, B false)], [], (.lit undef), [], true⟩,
    ⟨[(.tmp 22, B false), (.tmp 25, (.lit undef)), (.const (.bool false), B false)], [], B false, [], false⟩,
    ⟨[(.tmp 26, B false)], [], B false, [], false⟩] (by exact ⟨by kernel_rfl, by kernel_rfl⟩) ?_ ?_
        · exact ⟨fun _ => astep_faddr rfl Try.underlying42 rfl rfl ti3 (by decide) rfl,
    fun _ => astep_load rfl ti3 (by decide) rfl (Nat.le_of_ble_eq_true rfl) rfl,
    fun _ => astep_pcall (first := []) (cap := []) (vs := [I p0.Mass, I 0, I 1000000]) rfl enter65 (steam_withinX_ok N p0.Mass 0 1000000 _ hf1) rfl rfl (nl_cons (NLt.lit _) (nl_cons (NLt.lit _) (nl_cons (NLt.lit _) nl_nil))) (NLt.lit _) rfl,
    fun _ => astep_b hb3 (astep_move rfl),
    fun _ => astep_guard (astep_faddr rfl Try.underlying42 rfl rfl ti3 (by decide) rfl),
    fun _ => astep_guard (astep_load rfl ti3 (by decide) rfl (Nat.le_of_ble_eq_true rfl) rfl),
    fun _ => astep_guard (astep_faddr rfl Try.underlying42 rfl rfl ti3 (by decide) rfl),
    fun _ => astep_guard (astep_load rfl ti3 (by decide) rfl (Nat.le_of_ble_eq_true rfl) rfl),
    fun _ => astep_guard (astep_bin rfl rfl),
    fun _ => astep_guard (astep_pcall (first := []) (cap := []) (vs := [I p0.Heat, I 0, (I (w64 (4000 * p0.Mass)))]) rfl enter65 (steam_withinX_ok N p0.Heat 0 (w64 (4000 * p0.Mass)) _ hf4) rfl rfl (nl_cons (NLt.lit _) (nl_cons (NLt.lit _) (nl_cons (NLt.lit _) nl_nil))) (NLt.lit _) rfl),
    fun _ => astep_pick rfl rfl,
    fun _ => astep_b hb6 (astep_move rfl),
    fun _ => astep_guard (astep_faddr rfl Try.underlying42 rfl rfl ti3 (by decide) rfl),
    fun _ => astep_guard (astep_load rfl ti3 (by decide) rfl (Nat.le_of_ble_eq_true rfl) rfl),
    fun _ => astep_guard (astep_faddr rfl Try.underlying42 rfl rfl ti3 (by decide) rfl),
    fun _ => astep_guard (astep_load rfl ti3 (by decide) rfl (Nat.le_of_ble_eq_true rfl) rfl),
    fun _ => astep_guard (astep_bin rfl rfl),
    fun _ => astep_guard (astep_pcall (first := []) (cap := []) (vs := [I p0.Silica, I 0, (I (w64 (10000 * p0.Mass)))]) rfl enter65 (steam_withinX_ok N p0.Silica 0 (w64 (10000 * p0.Mass)) _ hf7) rfl rfl (nl_cons (NLt.lit _) (nl_cons (NLt.lit _) (nl_cons (NLt.lit _) nl_nil))) (NLt.lit _) rfl),
    fun _ => astep_pick rfl rfl,
    fun _ => astep_b hb9 (astep_move rfl),
    fun hs => (Bool.noConfusion hs),
    fun hs => (Bool.noConfusion hs),
    fun hs => (Bool.noConfusion hs),
    fun _ => astep_pick rfl rfl,
    fun _ => astep_assign rfl, trivial⟩
        refine awp_ret ?_
        obtain rfl := Option.some.inj h
        exact ⟨⟨[B false], ⟨resOK_tmp (by kernel_rfl), trivial⟩, rfl⟩, (NLt.lit _), Nat.le_refl _, fun n hn => absurd hn (Nat.not_lt_zero n)⟩
    · replace h := bif_f hb6 h
      refine awp_reg [⟨[(.tmp 1, .ref 0 4 0 0)], [(0, .own 4 [[I p0.Mass, I p0.Heat, I p0.Silica, I p0.Gas]])], .ref 0 4 0 0, [], false⟩,
    ⟨[(.tmp 3, .ref 0 4 0 0)], [(0, .own 4 [[I p0.Mass, I p0.Heat, I p0.Silica, I p0.Gas]])], I p0.Mass, [], false⟩,
    ⟨[(.func 65, (.fn (.func 65) [] [])), (.tmp 4, I p0.Mass), (.const (.int .i64 0), I 0), (.const (.int .i64 1000000), I 1000000)], [], B x2, [], false⟩,
    ⟨[(.tmp 5, B x2)], [], B true, [], false⟩,
    ⟨[(.tmp 6, B true), (.tmp 1, .ref 0 4 0 0)], [(0, .own 4 [[I p0.Mass, I p0.Heat, I p0.Silica, I p0.Gas]])], .ref 0 4 0 1, [], false⟩,
    ⟨[(.tmp 6, B true), (.tmp 7, .ref 0 4 0 1)], [(0, .own 4 [[I p0.Mass, I p0.Heat, I p0.Silica, I p0.Gas]])], I p0.Heat, [], false⟩,
    ⟨[(.tmp 6, B true), (.tmp 1, .ref 0 4 0 0)], [(0, .own 4 [[I p0.Mass, I p0.Heat, I p0.Silica, I p0.Gas]])], .ref 0 4 0 0, [], false⟩,
    ⟨[(.tmp 6, B true), (.tmp 9, .ref 0 4 0 0)], [(0, .own 4 [[I p0.Mass, I p0.Heat, I p0.Silica, I p0.Gas]])], I p0.Mass, [], false⟩,
    ⟨[(.tmp 6, B true), (.const (.int .i64 4000), I 4000), (.tmp 10, I p0.Mass)], [], (I (w64 (4000 * p0.Mass))), [], false⟩,
    ⟨[(.tmp 6, B true), (.func 65, (.fn (.func 65) [] [])), (.tmp 8, I p0.Heat), (.const (.int .i64 0), I 0), (.tmp 11, (I (w64 (4000 * p0.Mass))))], [], B x5, [], false⟩,
    ⟨[(.tmp 6, B true), (.tmp 12, B x5), (.const (.bool false), B false)], [], B x5, [], false⟩,
    ⟨[(.tmp 13, B x5)], [], B false, [], false⟩,
    ⟨[(.tmp 14, B false)], [], (.lit undef), [], true⟩,
    ⟨[(.tmp 14, B false)], [], (.lit undef), [], true⟩,
    ⟨[(.tmp 14, B false)], [], (.lit undef), [], true⟩,
    ⟨[(.tmp 14, B false)], [], (.lit undef), [], true⟩,
    ⟨[(.tmp 14, B false)], [], (.lit undef), [], true⟩,
    ⟨[(.tmp 14, B false)], [], (.lit undef), [], true⟩,
    ⟨[(.tmp 14, B false), (.tmp 20, (.lit undef)), (.const (.bool false), B false)], [], B false, [], false⟩,
    ⟨[(.tmp 21, B false)], [], B false, [], false⟩,
    ⟨[(.tmp 22, B false)], [], (.lit undef), [], true⟩,
    ⟨[(.tmp 22, B false)], [], (.lit undef), [], true⟩,
    ⟨[(.tmp 22, B false)], [], (.lit undef), [], true⟩,
    ⟨[(.tmp 22, B false), (.tmp 25, (.lit undef)), (.const (.bool false), B false)], [], B false, [], false⟩,
    ⟨[(.tmp 26, B false)], [], B false, [], false⟩] (by exact ⟨by kernel_rfl, by kernel_rfl⟩) ?_ ?_
      · exact ⟨fun _ => astep_faddr rfl Try.underlying42 rfl rfl ti3 (by decide) rfl,
    fun _ => astep_load rfl ti3 (by decide) rfl (Nat.le_of_ble_eq_true rfl) rfl,
    fun _ => astep_pcall (first := []) (cap := []) (vs := [I p0.Mass, I 0, I 1000000]) rfl enter65 (steam_withinX_ok N p0.Mass 0 1000000 _ hf1) rfl rfl (nl_cons (NLt.lit _) (nl_cons (NLt.lit _) (nl_cons (NLt.lit _) nl_nil))) (NLt.lit _) rfl,
    fun _ => astep_b hb3 (astep_move rfl),
    fun _ => astep_guard (astep_faddr rfl Try.underlying42 rfl rfl ti3 (by decide) rfl),
    fun _ => astep_guard (astep_load rfl ti3 (by decide) rfl (Nat.le_of_ble_eq_true rfl) rfl),
    fun _ => astep_guard (astep_faddr rfl Try.underlying42 rfl rfl ti3 (by decide) rfl),
    fun _ => astep_guard (astep_load rfl ti3 (by decide) rfl (Nat.le_of_ble_eq_true rfl) rfl),
    fun _ => astep_guard (astep_bin rfl rfl),
    fun _ => astep_guard (astep_pcall (first := []) (cap := []) (vs := [I p0.Heat, I 0, (I (w64 (4000 * p0.Mass)))]) rfl enter65 (steam_withinX_ok N p0.Heat 0 (w64 (4000 * p0.Mass)) _ hf4) rfl rfl (nl_cons (NLt.lit _) (nl_cons (NLt.lit _) (nl_cons (NLt.lit _) nl_nil))) (NLt.lit _) rfl),
    fun _ => astep_pick rfl rfl,
    fun _ => astep_b hb6 (astep_move rfl),
    fun hs => (Bool.noConfusion hs),
    fun hs => (Bool.noConfusion hs),
    fun hs => (Bool.noConfusion hs),
    fun hs => (Bool.noConfusion hs),
    fun hs => (Bool.noConfusion hs),
    fun hs => (Bool.noConfusion hs),
    fun _ => astep_pick rfl rfl,
    fun _ => astep_move rfl,
    fun hs => (Bool.noConfusion hs),
    fun hs => (Bool.noConfusion hs),
    fun hs => (Bool.noConfusion hs),
    fun _ => astep_pick rfl rfl,
    fun _ => astep_assign rfl, trivial⟩
      refine awp_ret ?_
      obtain rfl := Option.some.inj h
      exact ⟨⟨[B false], ⟨resOK_tmp (by kernel_rfl), trivial⟩, rfl⟩, (NLt.lit _), Nat.le_refl _, fun n hn => absurd hn (Nat.not_lt_zero n)⟩
  · replace h := bif_f hb3 h
    refine awp_reg [⟨[(.tmp 1, .ref 0 4 0 0)], [(0, .own 4 [[I p0.Mass, I p0.Heat, I p0.Silica, I p0.Gas]])], .ref 0 4 0 0, [], false⟩,
    ⟨[(.tmp 3, .ref 0 4 0 0)], [(0, .own 4 [[I p0.Mass, I p0.Heat, I p0.Silica, I p0.Gas]])], I p0.Mass, [], false⟩,
    ⟨[(.func 65, (.fn (.func 65) [] [])), (.tmp 4, I p0.Mass), (.const (.int .i64 0), I 0), (.const (.int .i64 1000000), I 1000000)], [], B x2, [], false⟩,
    ⟨[(.tmp 5, B x2)], [], B false, [], false⟩,
    ⟨[(.tmp 6, B false)], [], (.lit undef), [], true⟩,
    ⟨[(.tmp 6, B false)], [], (.lit undef), [], true⟩,
    ⟨[(.tmp 6, B false)], [], (.lit undef), [], true⟩,
    ⟨[(.tmp 6, B false)], [], (.lit undef), [], true⟩,
    ⟨[(.tmp 6, B false)], [], (.lit undef), [], true⟩,
    ⟨[(.tmp 6, B false)], [], (.lit undef), [], true⟩,
    ⟨[(.tmp 6, B false), (.tmp 12, (.lit undef)), (.const (.bool false), B false)], [], B false, [], false⟩,
    ⟨[(.tmp 13, B false)], [], B false, [], false⟩,
    ⟨[(.tmp 14, B false)], [], (.lit undef), [], true⟩,
    ⟨[(.tmp 14, B false)], [], (.lit undef), [], true⟩,
    ⟨[(.tmp 14, B false)], [], (.lit undef), [], true⟩,
    ⟨[(.tmp 14, B false)], [], (.lit undef), [], true⟩,
    ⟨[(.tmp 14, B false)], [], (.lit undef), [], true⟩,
    ⟨[(.tmp 14, B false)], [], (.lit undef), [], true⟩,
    ⟨[(.tmp 14, B false), (.tmp 20, (.lit undef)), (.const (.bool false), B false)], [], B false, [], false⟩,
    ⟨[(.tmp 21, B false)], [], B false, [], false⟩,
    ⟨[(.tmp 22, B false)], [], (.lit undef), [], true⟩,
    ⟨[(.tmp 22, B false)], [], (.lit undef), [], true⟩,
    ⟨[(.tmp 22, B false)], [], (.lit undef), [], true⟩,
    ⟨[(.tmp 22, B false), (.tmp 25, (.lit undef)), (.const (.bool false), B false)], [], B false, [], false⟩,
    ⟨[(.tmp 26, B false)], [], B false, [], false⟩] (by exact ⟨by kernel_rfl, by kernel_rfl⟩) ?_ ?_
    · exact ⟨fun _ => astep_faddr rfl Try.underlying42 rfl rfl ti3 (by decide) rfl,
    fun _ => astep_load rfl ti3 (by decide) rfl (Nat.le_of_ble_eq_true rfl) rfl,
    fun _ => astep_pcall (first := []) (cap := []) (vs := [I p0.Mass, I 0, I 1000000]) rfl enter65 (steam_withinX_ok N p0.Mass 0 1000000 _ hf1) rfl rfl (nl_cons (NLt.lit _) (nl_cons (NLt.lit _) (nl_cons (NLt.lit _) nl_nil))) (NLt.lit _) rfl,
    fun _ => astep_b hb3 (astep_move rfl),
    fun hs => (Bool.noConfusion hs),
    fun hs => (Bool.noConfusion hs),
    fun hs => (Bool.noConfusion hs),
    fun hs => (Bool.noConfusion hs),
    fun hs => (Bool.noConfusion hs),
    fun hs => (Bool.noConfusion hs),
    fun _ => astep_pick rfl rfl,
    fun _ => astep_move rfl,
    fun hs => (Bool.noConfusion hs),
    fun hs => (Bool.noConfusion hs),
    fun hs => (Bool.noConfusion hs),
    fun hs => (Bool.noConfusion hs),
    fun hs => (Bool.noConfusion hs),
    fun hs => (Bool.noConfusion hs),
    fun _ => astep_pick rfl rfl,
    fun _ => astep_move rfl,
    fun hs => (Bool.noConfusion hs),
    fun hs => (Bool.noConfusion hs),
    fun hs => (Bool.noConfusion hs),
    fun _ => astep_pick rfl rfl,
    fun _ => astep_assign rfl, trivial⟩
    refine awp_ret ?_
    obtain rfl := Option.some.inj h
    exact ⟨⟨[B false], ⟨resOK_tmp (by kernel_rfl), trivial⟩, rfl⟩, (NLt.lit _), Nat.le_refl _, fun n hn => absurd hn (Nat.not_lt_zero n)⟩

end Go.Proofs.Ytenpbiineblcjaa
