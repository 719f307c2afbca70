/-
  Functions of the program: what they compute, as plain functions, and that they do. No conditions.
-/
import Derived.Test.YtenpbiineblcjaaX2
namespace Go.Proofs.Ytenpbiineblcjaa
open Go.RowKit

theorem nle7 {a b : Nat} (h : Nat.ble a b = true) : a ≤ b := Nat.le_of_ble_eq_true h

def ref01_StreamsX_loop1 (N : Nat) (p0 : (List GStream)) (k1 : Unit → Option Bool) : Nat → Int → Option Bool
  | 0, _ => none
  | n4 + 1, y2 =>
    bif (decide (y2 < (p0.length : Int))) then
      (getI p0 y2).bind fun x6 =>
      (ref01_RightStreamX N x6).bind fun x11 =>
      bif (!x11) then
        some false
      else
        ref01_StreamsX_loop1 N p0 k1 n4 (w64 (y2 + 1))
    else
      k1 ()
def ref01_StreamsX (N : Nat) (p0 : (List GStream)) : Option Bool :=
  joinK (fun _ =>
      some true) fun k1 : Unit → Option Bool =>
  ref01_StreamsX_loop1 N p0 k1 N 0
set_option maxRecDepth 100000 in
set_option maxHeartbeats 4000000 in
theorem ref01_StreamsX_ok (N : Nat) (p0 : (List GStream)) (r : Bool) (h : ref01_StreamsX N p0 = some r) : Spec Try.prog 22 [(.dat 4 (p0.map c_GStream))] [] (B r) [] := by
  refine spec_of_awp Try.func22 rfl 0 (nle7 rfl) (fun X φ0 w0 hφ0 => ?_)
  unfold ref01_StreamsX at h
  refine awp_reg [⟨[(.const (.bool false), B false)], [], B false, [], false⟩] (by exact ⟨by kernel_rfl, by kernel_rfl⟩) ?_ ?_
  · exact ⟨fun _ => astep_assign rfl, trivial⟩
  obtain ⟨k1, hk_k1, h⟩ := joinK_out h
  refine awp_join (τ := Unit) (fun t => k1 t = some r) (fun _ => ⟨mk 16 [], []⟩) (fun t h => ?_) ?_
  · subst hk_k1
    refine awp_reg [⟨[(.const (.bool true), B true)], [], B true, [], false⟩] (by exact ⟨by kernel_rfl, by kernel_rfl⟩) ?_ ?_
    · exact ⟨fun _ => astep_assign rfl, trivial⟩
    refine awp_ret ?_
    obtain rfl := Option.some.inj h
    exact ⟨⟨[B true], ⟨resOK_tmp (by kernel_rfl), trivial⟩, rfl⟩, (NLt.lit _), Nat.le_refl _, fun n hn => absurd hn (Nat.not_lt_zero n)⟩
  · skip
    refine awp_reg [⟨[(.const (.int .i64 0), I 0)], [], I 0, [], false⟩] (by exact ⟨by kernel_rfl, by kernel_rfl⟩) ?_ ?_
    · exact ⟨fun _ => astep_assign rfl, trivial⟩
    refine awp_block ?_
    refine awp_mor (mor_to (n := 16) (l' := [(0, (.dat 4 ((p0 : List GStream).map c_GStream))), (3, I 0)]) (own' := []) [(0, (.dat 4 ((p0 : List GStream).map c_GStream))), (3, I 0)] [] [] hφ0 (by kernel_rfl) (by kernel_rfl) (by kernel_rfl) ⟨rfl, .rn (.plain _ (nl_dat nl_GStream _)), rfl, .rn (.plain _ (NLt.lit _)), trivial⟩ trivial) ?_
    refine awp_ind (τ := Int) (fun n t => ref01_StreamsX_loop1 N p0 k1 n t = some r) (fun y2 => ⟨mk 16 [(0, (.dat 4 ((p0 : List GStream).map c_GStream))), (3, I y2)], []⟩) (fun t h => by rw [ref01_StreamsX_loop1] at h; cases h) (fun n4 ih y2 h => ?_) N (0) h
    rw [ref01_StreamsX_loop1] at h
    skip
    refine awp_seq ?_
    refine awp_reg [⟨[(.tmp 3, I y2)], [], I y2, [], false⟩, ⟨[(.tmp 0, (.dat 4 ((p0 : List GStream).map c_GStream)))], [], (.dat 4 ((p0 : List GStream).map c_GStream)), [], false⟩, ⟨[(.tmp 5, (.dat 4 ((p0 : List GStream).map c_GStream)))], [], (I ((p0.length : Int))), [], false⟩, ⟨[(.tmp 4, I y2), (.tmp 6, (I ((p0.length : Int))))], [], (B ((decide (y2 < (p0.length : Int))))), [], false⟩] (by exact ⟨by kernel_rfl, by kernel_rfl⟩) ?_ ?_
    · exact ⟨fun _ => astep_move rfl, fun _ => astep_move rfl, fun _ => astep_lenm (c := c_GStream) (l := p0) (astep_len rfl Try.underlying24 rfl), fun _ => astep_bin rfl rfl, trivial⟩
    rcases Bool.eq_false_or_eq_true ((decide (y2 < (p0.length : Int)))) with hc5 | hc5
    · replace h := bif_t hc5 h
      refine awp_ift hc5 (by kernel_rfl) ?_
      refine awp_skip ?_
      refine thenA_n ?_
      refine awp_seq ?_
      refine awp_block ?_
      obtain ⟨x6, hg7, h⟩ := bind_out h
      obtain ⟨hi8, hj9⟩ := getI_some hg7
      obtain ⟨x11, hf10, h⟩ := bind_out h
      refine awp_reg [⟨[(.tmp 0, (.dat 4 ((p0 : List GStream).map c_GStream)))], [], (.dat 4 ((p0 : List GStream).map c_GStream)), [], false⟩, ⟨[(.tmp 3, I y2)], [], I y2, [], false⟩, ⟨[(.tmp 10, (.dat 4 ((p0 : List GStream).map c_GStream))), (.tmp 11, I y2)], [], (.dptr (c_GStream (x6)) 0), [], false⟩, ⟨[(.tmp 12, (.dptr (c_GStream (x6)) 0))], [], (.agg [I x6.Mass, I x6.Heat, I x6.Silica, I x6.Gas]), [], false⟩, ⟨[(.func 24, (.fn (.func 24) [] [])), (.tmp 13, (.agg [I x6.Mass, I x6.Heat, I x6.Silica, I x6.Gas]))], [], B x11, [], false⟩, ⟨[(.tmp 14, B x11)], [], (B ((!x11))), [], false⟩] (by exact ⟨by kernel_rfl, by kernel_rfl⟩) ?_ ?_
      · exact ⟨fun _ => astep_move rfl, fun _ => astep_move rfl, fun _ => astep_idxd rfl Try.underlying24 ti39 rfl rfl hi8 (map_get c_GStream hj9) rfl, fun _ => astep_loadd rfl ti39 (by decide) (nle7 rfl) rfl, fun _ => astep_pcall (first := []) (cap := []) (vs := [(.agg [I x6.Mass, I x6.Heat, I x6.Silica, I x6.Gas])]) rfl enter24 (ref01_RightStreamX_ok N x6 _ hf10) rfl rfl (nl_cons (NLt.agg _ (nl_cons (NLt.lit _) (nl_cons (NLt.lit _) (nl_cons (NLt.lit _) (nl_cons (NLt.lit _) nl_nil))))) nl_nil) (NLt.lit _) rfl, fun _ => astep_not rfl, trivial⟩
      rcases Bool.eq_false_or_eq_true ((!x11)) with hc12 | hc12
      · replace h := bif_t hc12 h
        refine awp_ift hc12 (by kernel_rfl) ?_
        refine awp_reg [⟨[(.const (.bool false), B false)], [], B false, [], false⟩] (by exact ⟨by kernel_rfl, by kernel_rfl⟩) ?_ ?_
        · exact ⟨fun _ => astep_assign rfl, trivial⟩
        refine awp_ret ?_
        refine blockA_r ?_
        refine thenA_r ?_
        refine thenA_r ?_
        refine blockA_r ?_
        refine thenA_r ?_
        obtain rfl := Option.some.inj h
        exact ⟨⟨[B false], ⟨resOK_tmp (by kernel_rfl), trivial⟩, rfl⟩, (NLt.lit _), Nat.le_refl _, fun n hn => absurd hn (Nat.not_lt_zero n)⟩
      · replace h := bif_f hc12 h
        refine awp_ifn hc12 (by kernel_rfl) ?_
        refine awp_skip ?_
        refine blockA_n ?_
        refine thenA_n ?_
        refine awp_reg1 [⟨[(.tmp 3, I y2)], [], I y2, [], false⟩, ⟨[(.tmp 8, I y2), (.const (.int .i64 1), I 1)], [], (I (w64 (y2 + 1))), [], false⟩, ⟨[(.tmp 9, (I (w64 (y2 + 1))))], [], (I (w64 (y2 + 1))), [], false⟩] (by exact ⟨by kernel_rfl, by kernel_rfl⟩) ?_ ?_
        · exact ⟨fun _ => astep_move rfl, fun _ => astep_bin rfl rfl, fun _ => astep_assign rfl, trivial⟩
        refine thenA_n ?_
        exact around_mor (mor_to (n := 16) (l' := [(0, (.dat 4 ((p0 : List GStream).map c_GStream))), (3, (I ((w64 (y2 + 1)))))]) (own' := []) [(0, (.dat 4 ((p0 : List GStream).map c_GStream))), (3, (I (w64 (y2 + 1))))] [] [] hφ0 (by kernel_rfl) (by kernel_rfl) (by kernel_rfl) ⟨rfl, .rn (.plain _ (nl_dat nl_GStream _)), rfl, .rn (.plain _ (NLt.lit _)), trivial⟩ trivial) (ih (w64 (y2 + 1)) h)
    · replace h := bif_f hc5 h
      refine awp_ifn hc5 (by kernel_rfl) ?_
      refine awp_exit ?_
      refine thenA_x ?_
      refine thenA_x ?_
      refine blockA_e rfl ?_
      refine thenA_n ?_
      exact ⟨(), h, (mor_to (n := 16) (l' := []) (own' := []) [] [] [] hφ0 (by kernel_rfl) (by kernel_rfl) (by kernel_rfl) trivial trivial)⟩

def law01_plusX (_N : Nat) (p0 : GStream) (p1 : GStream) : Option GStream :=
  some (⟨w64 (p0.Mass + p1.Mass), w64 (p0.Heat + p1.Heat), w64 (p0.Silica + p1.Silica), w64 (p0.Gas + p1.Gas)⟩ : GStream)
set_option maxRecDepth 100000 in
set_option maxHeartbeats 4000000 in
theorem law01_plusX_ok (N : Nat) (p0 : GStream) (p1 : GStream) (r : GStream) (h : law01_plusX N p0 p1 = some r) : Spec Try.prog 30 [(.agg (c_GStream p0)), (.agg (c_GStream p1))] [] (.agg (c_GStream r)) [] := by
  refine spec_of_awp Try.func30 rfl 0 (nle7 rfl) (fun X φ0 w0 hφ0 => ?_)
  unfold law01_plusX at h
  refine awp_reg [⟨[(.tmp 0, (.agg [I p0.Mass, I p0.Heat, I p0.Silica, I p0.Gas]))], [(0, .unused)], .ref 0 4 0 0, [(0, .own 4 [[I p0.Mass, I p0.Heat, I p0.Silica, I p0.Gas]])], false⟩, ⟨[(.tmp 1, (.agg [I p1.Mass, I p1.Heat, I p1.Silica, I p1.Gas]))], [(1, .unused)], .ref 1 4 0 0, [(1, .own 4 [[I p1.Mass, I p1.Heat, I p1.Silica, I p1.Gas]])], false⟩, ⟨[], [(2, .unused)], .ref 2 4 0 0, [(2, .own 4 [[I 0, I 0, I 0, I 0]])], false⟩] (by exact ⟨by kernel_rfl, by kernel_rfl⟩) ?_ ?_
  · exact ⟨fun _ => astep_box rfl (by rfl) rfl rfl, fun _ => astep_box rfl (by rfl) rfl rfl, fun _ => astep_alloc rfl tz42 rfl, trivial⟩
  refine awp_reg [⟨[(.tmp 2, .ref 0 4 0 0)], [(0, .own 4 [[I p0.Mass, I p0.Heat, I p0.Silica, I p0.Gas]])], .ref 0 4 0 0, [], false⟩, ⟨[(.tmp 5, .ref 0 4 0 0)], [(0, .own 4 [[I p0.Mass, I p0.Heat, I p0.Silica, I p0.Gas]])], I p0.Mass, [], false⟩, ⟨[(.tmp 3, .ref 1 4 0 0)], [(1, .own 4 [[I p1.Mass, I p1.Heat, I p1.Silica, I p1.Gas]])], .ref 1 4 0 0, [], false⟩, ⟨[(.tmp 7, .ref 1 4 0 0)], [(1, .own 4 [[I p1.Mass, I p1.Heat, I p1.Silica, I p1.Gas]])], I p1.Mass, [], false⟩, ⟨[(.tmp 6, I p0.Mass), (.tmp 8, I p1.Mass)], [], (I (w64 (p0.Mass + p1.Mass))), [], false⟩, ⟨[(.tmp 2, .ref 0 4 0 0)], [(0, .own 4 [[I p0.Mass, I p0.Heat, I p0.Silica, I p0.Gas]])], .ref 0 4 0 1, [], false⟩, ⟨[(.tmp 10, .ref 0 4 0 1)], [(0, .own 4 [[I p0.Mass, I p0.Heat, I p0.Silica, I p0.Gas]])], I p0.Heat, [], false⟩, ⟨[(.tmp 3, .ref 1 4 0 0)], [(1, .own 4 [[I p1.Mass, I p1.Heat, I p1.Silica, I p1.Gas]])], .ref 1 4 0 1, [], false⟩, ⟨[(.tmp 12, .ref 1 4 0 1)], [(1, .own 4 [[I p1.Mass, I p1.Heat, I p1.Silica, I p1.Gas]])], I p1.Heat, [], false⟩, ⟨[(.tmp 11, I p0.Heat), (.tmp 13, I p1.Heat)], [], (I (w64 (p0.Heat + p1.Heat))), [], false⟩, ⟨[(.tmp 2, .ref 0 4 0 0)], [(0, .own 4 [[I p0.Mass, I p0.Heat, I p0.Silica, I p0.Gas]])], .ref 0 4 0 2, [], false⟩, ⟨[(.tmp 15, .ref 0 4 0 2)], [(0, .own 4 [[I p0.Mass, I p0.Heat, I p0.Silica, I p0.Gas]])], I p0.Silica, [], false⟩, ⟨[(.tmp 3, .ref 1 4 0 0)], [(1, .own 4 [[I p1.Mass, I p1.Heat, I p1.Silica, I p1.Gas]])], .ref 1 4 0 2, [], false⟩, ⟨[(.tmp 17, .ref 1 4 0 2)], [(1, .own 4 [[I p1.Mass, I p1.Heat, I p1.Silica, I p1.Gas]])], I p1.Silica, [], false⟩, ⟨[(.tmp 16, I p0.Silica), (.tmp 18, I p1.Silica)], [], (I (w64 (p0.Silica + p1.Silica))), [], false⟩, ⟨[(.tmp 2, .ref 0 4 0 0)], [(0, .own 4 [[I p0.Mass, I p0.Heat, I p0.Silica, I p0.Gas]])], .ref 0 4 0 3, [], false⟩, ⟨[(.tmp 20, .ref 0 4 0 3)], [(0, .own 4 [[I p0.Mass, I p0.Heat, I p0.Silica, I p0.Gas]])], I p0.Gas, [], false⟩, ⟨[(.tmp 3, .ref 1 4 0 0)], [(1, .own 4 [[I p1.Mass, I p1.Heat, I p1.Silica, I p1.Gas]])], .ref 1 4 0 3, [], false⟩, ⟨[(.tmp 22, .ref 1 4 0 3)], [(1, .own 4 [[I p1.Mass, I p1.Heat, I p1.Silica, I p1.Gas]])], I p1.Gas, [], false⟩, ⟨[(.tmp 21, I p0.Gas), (.tmp 23, I p1.Gas)], [], (I (w64 (p0.Gas + p1.Gas))), [], false⟩, ⟨[(.tmp 9, (I (w64 (p0.Mass + p1.Mass)))), (.tmp 14, (I (w64 (p0.Heat + p1.Heat)))), (.tmp 19, (I (w64 (p0.Silica + p1.Silica)))), (.tmp 24, (I (w64 (p0.Gas + p1.Gas))))], [], (.agg [(I (w64 (p0.Mass + p1.Mass))), (I (w64 (p0.Heat + p1.Heat))), (I (w64 (p0.Silica + p1.Silica))), (I (w64 (p0.Gas + p1.Gas)))]), [], false⟩, ⟨[(.tmp 4, .ref 2 4 0 0), (.tmp 25, (.agg [(I (w64 (p0.Mass + p1.Mass))), (I (w64 (p0.Heat + p1.Heat))), (I (w64 (p0.Silica + p1.Silica))), (I (w64 (p0.Gas + p1.Gas)))]))], [(2, .own 4 [[I 0, I 0, I 0, I 0]])], .any, [(2, (.own 4 [[(I (w64 (p0.Mass + p1.Mass))), (I (w64 (p0.Heat + p1.Heat))), (I (w64 (p0.Silica + p1.Silica))), (I (w64 (p0.Gas + p1.Gas)))]]))], false⟩] (by exact ⟨by kernel_rfl, by kernel_rfl⟩) ?_ ?_
  · exact ⟨fun _ => astep_faddr rfl Try.underlying42 rfl rfl ti3 (by decide) rfl, fun _ => astep_load rfl ti3 (by decide) rfl (nle7 rfl) rfl, fun _ => astep_faddr rfl Try.underlying42 rfl rfl ti3 (by decide) rfl, fun _ => astep_load rfl ti3 (by decide) rfl (nle7 rfl) rfl, fun _ => astep_bin rfl rfl, fun _ => astep_faddr rfl Try.underlying42 rfl rfl ti3 (by decide) rfl, fun _ => astep_load rfl ti3 (by decide) rfl (nle7 rfl) rfl, fun _ => astep_faddr rfl Try.underlying42 rfl rfl ti3 (by decide) rfl, fun _ => astep_load rfl ti3 (by decide) rfl (nle7 rfl) rfl, fun _ => astep_bin rfl rfl, fun _ => astep_faddr rfl Try.underlying42 rfl rfl ti3 (by decide) rfl, fun _ => astep_load rfl ti3 (by decide) rfl (nle7 rfl) rfl, fun _ => astep_faddr rfl Try.underlying42 rfl rfl ti3 (by decide) rfl, fun _ => astep_load rfl ti3 (by decide) rfl (nle7 rfl) rfl, fun _ => astep_bin rfl rfl, fun _ => astep_faddr rfl Try.underlying42 rfl rfl ti3 (by decide) rfl, fun _ => astep_load rfl ti3 (by decide) rfl (nle7 rfl) rfl, fun _ => astep_faddr rfl Try.underlying42 rfl rfl ti3 (by decide) rfl, fun _ => astep_load rfl ti3 (by decide) rfl (nle7 rfl) rfl, fun _ => astep_bin rfl rfl, fun _ => astep_build (vs := [(I (w64 (p0.Mass + p1.Mass))), (I (w64 (p0.Heat + p1.Heat))), (I (w64 (p0.Silica + p1.Silica))), (I (w64 (p0.Gas + p1.Gas)))]) rfl ts42 tz42 rfl (by rfl) rfl, fun _ => astep_store rfl ti42 (by rfl) rfl (nle7 rfl) rfl, trivial⟩
  refine awp_ret ?_
  obtain rfl := Option.some.inj h
  exact ⟨⟨[(.agg [(I (w64 (p0.Mass + p1.Mass))), (I (w64 (p0.Heat + p1.Heat))), (I (w64 (p0.Silica + p1.Silica))), (I (w64 (p0.Gas + p1.Gas)))])], ⟨resOK_cell (n := 2) (m := 4) (j := 0) (i := 0) (xs := [[(I (w64 (p0.Mass + p1.Mass))), (I (w64 (p0.Heat + p1.Heat))), (I (w64 (p0.Silica + p1.Silica))), (I (w64 (p0.Gas + p1.Gas)))]]) (by kernel_rfl) (by kernel_rfl) ti42 (by decide) rfl (nle7 rfl) rfl, trivial⟩, rfl⟩, (NLt.agg _ (nl_cons (NLt.lit _) (nl_cons (NLt.lit _) (nl_cons (NLt.lit _) (nl_cons (NLt.lit _) nl_nil))))), Nat.le_refl _, fun n hn => absurd hn (Nat.not_lt_zero n)⟩

def steam_CheckStreamX (N : Nat) (p0 : GStream) : Option Int :=
  (steam_Stream_validX N p0).bind fun x2 =>
  bif (!x2) then
    some 1
  else
    some 0
set_option maxRecDepth 100000 in
set_option maxHeartbeats 4000000 in
theorem steam_CheckStreamX_ok (N : Nat) (p0 : GStream) (r : Int) (h : steam_CheckStreamX N p0 = some r) : Spec Try.prog 29 [(.agg (c_GStream p0))] [] (I r) [] := by
  refine spec_of_awp Try.func29 rfl 0 (nle7 rfl) (fun X φ0 w0 hφ0 => ?_)
  unfold steam_CheckStreamX at h
  refine awp_reg [⟨[(.tmp 0, (.agg [I p0.Mass, I p0.Heat, I p0.Silica, I p0.Gas]))], [(0, .unused)], .ref 0 4 0 0, [(0, .own 4 [[I p0.Mass, I p0.Heat, I p0.Silica, I p0.Gas]])], false⟩, ⟨[(.const (.int .i64 0), I 0)], [], I 0, [], false⟩] (by exact ⟨by kernel_rfl, by kernel_rfl⟩) ?_ ?_
  · exact ⟨fun _ => astep_box rfl (by rfl) rfl rfl, fun _ => astep_assign rfl, trivial⟩
  refine awp_seq ?_
  obtain ⟨x2, hf1, h⟩ := bind_out h
  refine awp_reg [⟨[(.tmp 1, .ref 0 4 0 0)], [(0, .own 4 [[I p0.Mass, I p0.Heat, I p0.Silica, I p0.Gas]])], (.agg [I p0.Mass, I p0.Heat, I p0.Silica, I p0.Gas]), [], false⟩, ⟨[(.func 63, (.fn (.func 63) [] [])), (.tmp 3, (.agg [I p0.Mass, I p0.Heat, I p0.Silica, I p0.Gas]))], [], B x2, [], false⟩, ⟨[(.tmp 4, B x2)], [], (B ((!x2))), [], false⟩] (by exact ⟨by kernel_rfl, by kernel_rfl⟩) ?_ ?_
  · exact ⟨fun _ => astep_load rfl ti42 (by decide) rfl (nle7 rfl) rfl, fun _ => astep_pcall (first := []) (cap := []) (vs := [(.agg [I p0.Mass, I p0.Heat, I p0.Silica, I p0.Gas])]) rfl enter63 (steam_Stream_validX_ok N p0 _ hf1) rfl rfl (nl_cons (NLt.agg _ (nl_cons (NLt.lit _) (nl_cons (NLt.lit _) (nl_cons (NLt.lit _) (nl_cons (NLt.lit _) nl_nil))))) nl_nil) (NLt.lit _) rfl, fun _ => astep_not rfl, trivial⟩
  rcases Bool.eq_false_or_eq_true ((!x2)) with hc3 | hc3
  · replace h := bif_t hc3 h
    refine awp_ift hc3 (by kernel_rfl) ?_
    refine awp_reg [⟨[(.const (.int .i64 1), I 1)], [], I 1, [], false⟩] (by exact ⟨by kernel_rfl, by kernel_rfl⟩) ?_ ?_
    · exact ⟨fun _ => astep_assign rfl, trivial⟩
    refine awp_ret ?_
    refine thenA_r ?_
    obtain rfl := Option.some.inj h
    exact ⟨⟨[I 1], ⟨resOK_tmp (by kernel_rfl), trivial⟩, rfl⟩, (NLt.lit _), Nat.le_refl _, fun n hn => absurd hn (Nat.not_lt_zero n)⟩
  · replace h := bif_f hc3 h
    refine awp_ifn hc3 (by kernel_rfl) ?_
    refine awp_skip ?_
    refine thenA_n ?_
    refine awp_reg [⟨[(.const (.int .i64 0), I 0)], [], I 0, [], false⟩] (by exact ⟨by kernel_rfl, by kernel_rfl⟩) ?_ ?_
    · exact ⟨fun _ => astep_assign rfl, trivial⟩
    refine awp_ret ?_
    obtain rfl := Option.some.inj h
    exact ⟨⟨[I 0], ⟨resOK_tmp (by kernel_rfl), trivial⟩, rfl⟩, (NLt.lit _), Nat.le_refl _, fun n hn => absurd hn (Nat.not_lt_zero n)⟩

def law01_StreamsX_loop1 (N : Nat) (p0 : (List GStream)) (k2 : (List GStream) → Option (List GStream)) : Nat → (List GStream) → Int → Option (List GStream)
  | 0, _, _ => none
  | n7 + 1, y3, y4 =>
    bif (decide (y4 < (p0.length : Int))) then
      (getI p0 y4).bind fun x9 =>
      (law01_StreamX N x9).bind fun x14 =>
      chk (decide ((y3.length + ([x14]).length) * 32 ≤ 140737488355328)) <|
      law01_StreamsX_loop1 N p0 k2 n7 (y3 ++ ([x14])) (w64 (y4 + 1))
    else
      k2 (y3)
def law01_StreamsX (N : Nat) (p0 : (List GStream)) : Option (List GStream) :=
  joinK (fun y1 =>
      some y1) fun k2 : (List GStream) → Option (List GStream) =>
  law01_StreamsX_loop1 N p0 k2 N ([]) 0
set_option maxRecDepth 100000 in
set_option maxHeartbeats 4000000 in
theorem law01_StreamsX_ok (N : Nat) (p0 : (List GStream)) (r : (List GStream)) (h : law01_StreamsX N p0 = some r) : Spec Try.prog 20 [(.dat 4 (p0.map c_GStream))] [] (.dat 4 (r.map c_GStream)) [] := by
  refine spec_of_awp Try.func20 rfl 0 (nle7 rfl) (fun X φ0 w0 hφ0 => ?_)
  unfold law01_StreamsX at h
  refine awp_reg [⟨[((.const (.slice none 0 0)), nilS)], [], nilS, [], false⟩] (by exact ⟨by kernel_rfl, by kernel_rfl⟩) ?_ ?_
  · exact ⟨fun _ => astep_assign rfl, trivial⟩
  refine awp_reg [⟨[((.const (.slice none 0 0)), nilS)], [], nilS, [], false⟩] (by exact ⟨by kernel_rfl, by kernel_rfl⟩) ?_ ?_
  · exact ⟨fun _ => astep_assign rfl, trivial⟩
  obtain ⟨k2, hk_k2, h⟩ := joinK_out h
  refine awp_join (τ := (List GStream)) (fun t => k2 t = some r) (fun y1 => ⟨mk 20 [(3, (.acc 0 42 4 ((y1 : List GStream).map c_GStream)))], [.tok]⟩) (fun y1 h => ?_) ?_
  · subst hk_k2
    refine awp_reg [⟨[(.tmp 3, (.acc 0 42 4 ((y1 : List GStream).map c_GStream)))], [], (.acc 0 42 4 ((y1 : List GStream).map c_GStream)), [], false⟩, ⟨[(.tmp 19, (.acc 0 42 4 ((y1 : List GStream).map c_GStream)))], [], (.acc 0 42 4 ((y1 : List GStream).map c_GStream)), [], false⟩] (by exact ⟨by kernel_rfl, by kernel_rfl⟩) ?_ ?_
    · exact ⟨fun _ => astep_move rfl, fun _ => astep_assign rfl, trivial⟩
    refine awp_ret ?_
    obtain rfl := Option.some.inj h
    exact ⟨⟨[(.dat 4 ((y1 : List GStream).map c_GStream))], ⟨resOK_less (v := (.acc 0 42 4 ((y1 : List GStream).map c_GStream))) (resOK_tmp (by kernel_rfl)) Less.acc, trivial⟩, rfl⟩, (nl_dat nl_GStream _), Nat.le_refl _, fun n hn => absurd hn (Nat.not_lt_zero n)⟩
  · skip
    refine awp_reg [⟨[(.const (.int .i64 0), I 0)], [], I 0, [], false⟩] (by exact ⟨by kernel_rfl, by kernel_rfl⟩) ?_ ?_
    · exact ⟨fun _ => astep_assign rfl, trivial⟩
    refine awp_block ?_
    refine awp_mor (Mor.trans (mor_nil 0 42 4 3 (by kernel_rfl) (by kernel_rfl)) (mor_to (n := 20) (l' := [(0, (.dat 4 ((p0 : List GStream).map c_GStream))), (3, (.acc 0 42 4 ((([]) : List GStream).map c_GStream))), (4, I 0)]) (own' := [.tok]) [(0, (.dat 4 ((p0 : List GStream).map c_GStream))), (3, (.acc 0 42 4 (([] : List GStream).map c_GStream))), (4, I 0)] [0] [.tok] hφ0 (by kernel_rfl) (by kernel_rfl) (by kernel_rfl) ⟨rfl, .rn (.plain _ (nl_dat nl_GStream _)), rfl, .rn (rnq_acc rfl (nl_rows nl_GStream _)), rfl, .rn (.plain _ (NLt.lit _)), trivial⟩ ⟨.tok, trivial⟩)) ?_
    refine awp_ind (τ := (List GStream) × Int) (fun n t => law01_StreamsX_loop1 N p0 k2 n t.1 t.2 = some r) (fun ⟨y3, y4⟩ => ⟨mk 20 [(0, (.dat 4 ((p0 : List GStream).map c_GStream))), (3, (.acc 0 42 4 ((y3 : List GStream).map c_GStream))), (4, I y4)], [.tok]⟩) (fun t h => by rw [law01_StreamsX_loop1] at h; cases h) (fun n7 ih t h => ?_) N ([], 0) h
    obtain ⟨y3, y4⟩ := t
    rw [law01_StreamsX_loop1] at h
    skip
    refine awp_seq ?_
    refine awp_reg [⟨[(.tmp 4, I y4)], [], I y4, [], false⟩, ⟨[(.tmp 0, (.dat 4 ((p0 : List GStream).map c_GStream)))], [], (.dat 4 ((p0 : List GStream).map c_GStream)), [], false⟩, ⟨[(.tmp 6, (.dat 4 ((p0 : List GStream).map c_GStream)))], [], (I ((p0.length : Int))), [], false⟩, ⟨[(.tmp 5, I y4), (.tmp 7, (I ((p0.length : Int))))], [], (B ((decide (y4 < (p0.length : Int))))), [], false⟩] (by exact ⟨by kernel_rfl, by kernel_rfl⟩) ?_ ?_
    · exact ⟨fun _ => astep_move rfl, fun _ => astep_move rfl, fun _ => astep_lenm (c := c_GStream) (l := p0) (astep_len rfl Try.underlying24 rfl), fun _ => astep_bin rfl rfl, trivial⟩
    rcases Bool.eq_false_or_eq_true ((decide (y4 < (p0.length : Int)))) with hc8 | hc8
    · replace h := bif_t hc8 h
      refine awp_ift hc8 (by kernel_rfl) ?_
      refine awp_skip ?_
      refine thenA_n ?_
      refine awp_seq ?_
      refine awp_block ?_
      obtain ⟨x9, hg10, h⟩ := bind_out h
      obtain ⟨hi11, hj12⟩ := getI_some hg10
      obtain ⟨x14, hf13, h⟩ := bind_out h
      obtain ⟨ha15, h⟩ := chk_out h
      refine awp_reg1 [⟨[(.tmp 3, (.acc 0 42 4 ((y3 : List GStream).map c_GStream)))], [], (.acc 0 42 4 ((y3 : List GStream).map c_GStream)), [], false⟩, ⟨[(.tmp 0, (.dat 4 ((p0 : List GStream).map c_GStream)))], [], (.dat 4 ((p0 : List GStream).map c_GStream)), [], false⟩, ⟨[(.tmp 4, I y4)], [], I y4, [], false⟩, ⟨[(.tmp 12, (.dat 4 ((p0 : List GStream).map c_GStream))), (.tmp 13, I y4)], [], (.dptr (c_GStream (x9)) 0), [], false⟩, ⟨[(.tmp 14, (.dptr (c_GStream (x9)) 0))], [], (.agg [I x9.Mass, I x9.Heat, I x9.Silica, I x9.Gas]), [], false⟩, ⟨[(.func 26, (.fn (.func 26) [] [])), (.tmp 15, (.agg [I x9.Mass, I x9.Heat, I x9.Silica, I x9.Gas]))], [], (.agg [I x14.Mass, I x14.Heat, I x14.Silica, I x14.Gas]), [], false⟩, ⟨[(.tmp 16, (.agg [I x14.Mass, I x14.Heat, I x14.Silica, I x14.Gas]))], [], (.dat 4 (([x14] : List GStream).map c_GStream)), [], false⟩, ⟨[(.tmp 11, (.acc 0 42 4 ((y3 : List GStream).map c_GStream))), (.tmp 17, (.dat 4 (([x14] : List GStream).map c_GStream)))], [(0, .tok), (1, .unused)], (.acc 1 42 4 ((y3 ++ ([x14]) : List GStream).map c_GStream)), [(0, .dead), (1, .tok)], false⟩, ⟨[(.tmp 18, (.acc 1 42 4 ((y3 ++ ([x14]) : List GStream).map c_GStream)))], [], (.acc 1 42 4 ((y3 ++ ([x14]) : List GStream).map c_GStream)), [], false⟩] (by exact ⟨by kernel_rfl, by kernel_rfl⟩) ?_ ?_
      · exact ⟨fun _ => astep_move rfl, fun _ => astep_move rfl, fun _ => astep_move rfl, fun _ => astep_idxd rfl Try.underlying24 ti39 rfl rfl hi11 (map_get c_GStream hj12) rfl, fun _ => astep_loadd rfl ti39 (by decide) (nle7 rfl) rfl, fun _ => astep_pcall (first := []) (cap := []) (vs := [(.agg [I x9.Mass, I x9.Heat, I x9.Silica, I x9.Gas])]) rfl enter26 (law01_StreamX_ok N x9 _ hf13) rfl rfl (nl_cons (NLt.agg _ (nl_cons (NLt.lit _) (nl_cons (NLt.lit _) (nl_cons (NLt.lit _) (nl_cons (NLt.lit _) nl_nil))))) nl_nil) (NLt.agg _ (nl_cons (NLt.lit _) (nl_cons (NLt.lit _) (nl_cons (NLt.lit _) (nl_cons (NLt.lit _) nl_nil))))) rfl, fun _ => astep_bslice (vs := [(.agg [I x14.Mass, I x14.Heat, I x14.Silica, I x14.Gas])]) rfl Try.underlying32 ti42 tz42 rfl (by decide) rfl (by decide) (by rfl) (by rfl) (by rfl) rfl, fun _ => astep_app rfl Try.underlying32 te42 (Base.acc _ _) rfl rfl (by rfl) (app_le1 c_GStream ha15) (app_le2 c_GStream ha15 (by decide)) (app_map c_GStream) rfl rfl, fun _ => astep_assign rfl, trivial⟩
      refine blockA_n ?_
      refine thenA_n ?_
      refine awp_reg1 [⟨[(.tmp 4, I y4)], [], I y4, [], false⟩, ⟨[(.tmp 9, I y4), (.const (.int .i64 1), I 1)], [], (I (w64 (y4 + 1))), [], false⟩, ⟨[(.tmp 10, (I (w64 (y4 + 1))))], [], (I (w64 (y4 + 1))), [], false⟩] (by exact ⟨by kernel_rfl, by kernel_rfl⟩) ?_ ?_
      · exact ⟨fun _ => astep_move rfl, fun _ => astep_bin rfl rfl, fun _ => astep_assign rfl, trivial⟩
      refine thenA_n ?_
      exact around_mor (mor_to (n := 20) (l' := [(0, (.dat 4 ((p0 : List GStream).map c_GStream))), (3, (.acc 0 42 4 (((y3 ++ ([x14])) : List GStream).map c_GStream))), (4, (I ((w64 (y4 + 1)))))]) (own' := [.tok]) [(0, (.dat 4 ((p0 : List GStream).map c_GStream))), (3, (.acc 1 42 4 ((y3 ++ ([x14]) : List GStream).map c_GStream))), (4, (I (w64 (y4 + 1))))] [1] [.tok] hφ0 (by kernel_rfl) (by kernel_rfl) (by kernel_rfl) ⟨rfl, .rn (.plain _ (nl_dat nl_GStream _)), rfl, .rn (rnq_acc rfl (nl_rows nl_GStream _)), rfl, .rn (.plain _ (NLt.lit _)), trivial⟩ ⟨.tok, trivial⟩) (ih (y3 ++ ([x14]), w64 (y4 + 1)) h)
    · replace h := bif_f hc8 h
      refine awp_ifn hc8 (by kernel_rfl) ?_
      refine awp_exit ?_
      refine thenA_x ?_
      refine thenA_x ?_
      refine blockA_e rfl ?_
      refine thenA_n ?_
      exact ⟨(y3), h, (mor_to (n := 20) (l' := [(3, (.acc 0 42 4 ((y3 : List GStream).map c_GStream)))]) (own' := [.tok]) [(3, (.acc 0 42 4 ((y3 : List GStream).map c_GStream)))] [0] [.tok] hφ0 (by kernel_rfl) (by kernel_rfl) (by kernel_rfl) ⟨rfl, .rn (rnq_acc rfl (nl_rows nl_GStream _)), trivial⟩ ⟨.tok, trivial⟩)⟩

def steam_all_steam_Stream_1X_1 (N : Nat) (p0 : GStream) : Option Bool :=
  (steam_Stream_validX N p0).bind fun x3 =>
  some (!x3)
set_option maxRecDepth 100000 in
set_option maxHeartbeats 4000000 in
theorem steam_all_steam_Stream_1X_1_ok (N : Nat) (p0 : GStream) (r : Bool) (h : steam_all_steam_Stream_1X_1 N p0 = some r) : Spec Try.prog 83 [(.agg [(I (p0.Mass)), (I (p0.Heat)), (I (p0.Silica)), (I (p0.Gas))]), (.ref 0 1 (0) 0)] [(.own 1 [[(.fn (.func 63) [] [])]])] (B (r)) [(.own 1 [[(.fn (.func 63) [] [])]])] := by
  refine spec_of_awp Try.func83 rfl 1 (nle7 rfl) (fun X φ0 w0 hφ0 => ?_)
  unfold steam_all_steam_Stream_1X_1 at h
  refine awp_finm ?_
  refine awp_reg [⟨[(.tmp 0, (.agg [I p0.Mass, I p0.Heat, I p0.Silica, I p0.Gas]))], [(1, .unused)], .ref 1 4 0 0, [(1, .own 4 [[I p0.Mass, I p0.Heat, I p0.Silica, I p0.Gas]])], false⟩, ⟨[(.const (.bool false), B false)], [], B false, [], false⟩] (by exact ⟨by kernel_rfl, by kernel_rfl⟩) ?_ ?_
  · exact ⟨fun _ => astep_box rfl (by rfl) rfl rfl, fun _ => astep_assign rfl, trivial⟩
  obtain ⟨x3, hf2, h⟩ := bind_out h
  refine awp_reg [⟨[(.tmp 1, .ref 0 1 0 0)], [(0, (.own 1 [[(.fn (.func 63) [] [])]]))], (.fn (.func 63) [] []), [], false⟩, ⟨[(.tmp 2, .ref 1 4 0 0)], [(1, .own 4 [[I p0.Mass, I p0.Heat, I p0.Silica, I p0.Gas]])], (.agg [I p0.Mass, I p0.Heat, I p0.Silica, I p0.Gas]), [], false⟩, ⟨[(.tmp 4, (.fn (.func 63) [] [])), (.tmp 5, (.agg [I p0.Mass, I p0.Heat, I p0.Silica, I p0.Gas]))], [], B x3, [], false⟩, ⟨[(.tmp 6, B x3)], [], (B ((!x3))), [], false⟩, ⟨[(.tmp 7, (B ((!x3))))], [], (B ((!x3))), [], false⟩] (by exact ⟨by kernel_rfl, by kernel_rfl⟩) ?_ ?_
  · exact ⟨fun _ => astep_load rfl ti120 (by decide) rfl (nle7 rfl) rfl, fun _ => astep_load rfl ti42 (by decide) rfl (nle7 rfl) rfl, fun _ => astep_pcall (first := []) (cap := []) (vs := [(.agg [I p0.Mass, I p0.Heat, I p0.Silica, I p0.Gas])]) rfl enter63 (steam_Stream_validX_ok N p0 _ hf2) rfl rfl (nl_cons (NLt.agg _ (nl_cons (NLt.lit _) (nl_cons (NLt.lit _) (nl_cons (NLt.lit _) (nl_cons (NLt.lit _) nl_nil))))) nl_nil) (NLt.lit _) rfl, fun _ => astep_not rfl, fun _ => astep_assign rfl, trivial⟩
  refine awp_mor (mor_to (n := 8) (l' := [(3, (B ((!x3))))]) (own' := [(.own 1 [[(.fn (.func 63) [] [])]])]) [(3, (B ((!x3))))] [0] [(.own 1 [[(.fn (.func 63) [] [])]])] hφ0 (by kernel_rfl) (by kernel_rfl) (by kernel_rfl) ⟨rfl, .rn (.plain _ (NLt.lit _)), trivial⟩ ⟨(spw_box ⟨(.rn (rn_fn rnl_nil rnl_nil)), trivial⟩), trivial⟩) ?_
  refine awp_ret ?_
  obtain rfl := Option.some.inj h
  exact ⟨_, Mor.rfl, fin_of (vs := [(B ((!x3)))]) ⟨resOK_tmp (by kernel_rfl), trivial⟩ rfl (NLt.of0 (NLt.lit _)) (by kernel_rfl) (snl_cons (snl_box (nl_cons (NLt.of0 (NLt.fn _ _ _ nl_nil nl_nil)) nl_nil)) snl_nil)⟩

def slices_IndexFunc_steam_Stream_steam_StreamX_1_loop1 (N : Nat) (p0 : (List GStream)) (k2 : Unit → Option Int) : Nat → Int → Option Int
  | 0, _ => none
  | n5 + 1, y3 =>
    bif (decide (y3 < (p0.length : Int))) then
      (getI p0 y3).bind fun x7 =>
      (steam_all_steam_Stream_1X_1 N x7).bind fun x12 =>
      bif x12 then
        some y3
      else
        slices_IndexFunc_steam_Stream_steam_StreamX_1_loop1 N p0 k2 n5 (w64 (y3 + 1))
    else
      k2 ()
def slices_IndexFunc_steam_Stream_steam_StreamX_1 (N : Nat) (p0 : (List GStream)) : Option Int :=
  joinK (fun _ =>
      some (-1)) fun k2 : Unit → Option Int =>
  slices_IndexFunc_steam_Stream_steam_StreamX_1_loop1 N p0 k2 N 0
set_option maxRecDepth 100000 in
set_option maxHeartbeats 4000000 in
theorem slices_IndexFunc_steam_Stream_steam_StreamX_1_ok (N : Nat) (p0 : (List GStream)) (r : Int) (h : slices_IndexFunc_steam_Stream_steam_StreamX_1 N p0 = some r) : Spec Try.prog 96 [(.dat 4 ((p0 : List GStream).map c_GStream)), (.fn (.func 83) [] [(.ref 0 1 (0) 0)])] [(.own 1 [[(.fn (.func 63) [] [])]])] (I (r)) [(.own 1 [[(.fn (.func 63) [] [])]])] := by
  refine spec_of_awp Try.func96 rfl 1 (nle7 rfl) (fun X φ0 w0 hφ0 => ?_)
  unfold slices_IndexFunc_steam_Stream_steam_StreamX_1 at h
  refine awp_finm ?_
  refine awp_reg [⟨[(.const (.int .i64 0), I 0)], [], I 0, [], false⟩] (by exact ⟨by kernel_rfl, by kernel_rfl⟩) ?_ ?_
  · exact ⟨fun _ => astep_assign rfl, trivial⟩
  obtain ⟨k2, hk_k2, h⟩ := joinK_out h
  refine awp_join (τ := Unit) (fun t => k2 t = some r) (fun _ => ⟨mk 19 [], [(.own 1 [[(.fn (.func 63) [] [])]])]⟩) (fun t h => ?_) ?_
  · subst hk_k2
    refine awp_reg [⟨[(.const (.int .i64 (-1)), (I ((-1))))], [], (I ((-1))), [], false⟩] (by exact ⟨by kernel_rfl, by kernel_rfl⟩) ?_ ?_
    · exact ⟨fun _ => astep_assign rfl, trivial⟩
    refine awp_mor (mor_to (n := 19) (l' := [(4, (I ((-1))))]) (own' := [(.own 1 [[(.fn (.func 63) [] [])]])]) [(4, (I ((-1))))] [0] [(.own 1 [[(.fn (.func 63) [] [])]])] hφ0 (by kernel_rfl) (by kernel_rfl) (by kernel_rfl) ⟨rfl, .rn (.plain _ (NLt.lit _)), trivial⟩ ⟨(spw_box ⟨(.rn (rn_fn rnl_nil rnl_nil)), trivial⟩), trivial⟩) ?_
    refine awp_ret ?_
    obtain rfl := Option.some.inj h
    exact ⟨_, Mor.rfl, fin_of (vs := [(I ((-1)))]) ⟨resOK_tmp (by kernel_rfl), trivial⟩ rfl (NLt.of0 (NLt.lit _)) (by kernel_rfl) (snl_cons (snl_box (nl_cons (NLt.of0 (NLt.fn _ _ _ nl_nil nl_nil)) nl_nil)) snl_nil)⟩
  · skip
    refine awp_reg [⟨[(.tmp 0, (.dat 4 ((p0 : List GStream).map c_GStream)))], [], (.dat 4 ((p0 : List GStream).map c_GStream)), [], false⟩, ⟨[(.tmp 6, (.dat 4 ((p0 : List GStream).map c_GStream)))], [], (I ((p0.length : Int))), [], false⟩, ⟨[(.const (.int .i64 0), I 0)], [], I 0, [], false⟩] (by exact ⟨by kernel_rfl, by kernel_rfl⟩) ?_ ?_
    · exact ⟨fun _ => astep_move rfl, fun _ => astep_lenm (c := c_GStream) (l := p0) (astep_len rfl Try.underlying32 rfl), fun _ => astep_move rfl, trivial⟩
    refine awp_block ?_
    refine awp_mor (mor_to (n := 19) (l' := [(0, (.dat 4 ((p0 : List GStream).map c_GStream))), (1, (.fn (.func 83) [] [.ref 0 1 0 0])), (7, (I ((p0.length : Int)))), (8, I 0)]) (own' := [(.own 1 [[(.fn (.func 63) [] [])]])]) [(0, (.dat 4 ((p0 : List GStream).map c_GStream))), (1, (.fn (.func 83) [] [.ref 0 1 0 0])), (7, (I ((p0.length : Int)))), (8, I 0)] [0] [(.own 1 [[(.fn (.func 63) [] [])]])] hφ0 (by kernel_rfl) (by kernel_rfl) (by kernel_rfl) ⟨rfl, .rn (.plain _ (nl_dat nl_GStream _)), rfl, .rn (rn_fn rnl_nil (rnl_cons (rnq_ref rfl) rnl_nil)), rfl, .rn (.plain _ (NLt.lit _)), rfl, .rn (.plain _ (NLt.lit _)), trivial⟩ ⟨(spw_box ⟨(.rn (rn_fn rnl_nil rnl_nil)), trivial⟩), trivial⟩) ?_
    refine awp_ind (τ := Int) (fun n t => slices_IndexFunc_steam_Stream_steam_StreamX_1_loop1 N p0 k2 n t = some r) (fun y3 => ⟨mk 19 [(0, (.dat 4 ((p0 : List GStream).map c_GStream))), (1, (.fn (.func 83) [] [.ref 0 1 0 0])), (7, (I ((p0.length : Int)))), (8, I y3)], [(.own 1 [[(.fn (.func 63) [] [])]])]⟩) (fun t h => by rw [slices_IndexFunc_steam_Stream_steam_StreamX_1_loop1] at h; cases h) (fun n5 ih y3 h => ?_) N (0) h
    rw [slices_IndexFunc_steam_Stream_steam_StreamX_1_loop1] at h
    skip
    refine awp_reg [⟨[(.tmp 8, I y3), (.tmp 7, (I ((p0.length : Int))))], [], (B ((decide (y3 < (p0.length : Int))))), [], false⟩] (by exact ⟨by kernel_rfl, by kernel_rfl⟩) ?_ ?_
    · exact ⟨fun _ => astep_bin rfl rfl, trivial⟩
    refine awp_seq ?_
    rcases Bool.eq_false_or_eq_true ((decide (y3 < (p0.length : Int)))) with hc6 | hc6
    · replace h := bif_t hc6 h
      refine awp_ift hc6 (by kernel_rfl) ?_
      refine awp_skip ?_
      refine thenA_n ?_
      refine awp_seq ?_
      refine awp_block ?_
      refine awp_reg [⟨[(.tmp 8, I y3)], [], I y3, [], false⟩, ⟨[(.tmp 10, I y3)], [], I y3, [], false⟩] (by exact ⟨by kernel_rfl, by kernel_rfl⟩) ?_ ?_
      · exact ⟨fun _ => astep_move rfl, fun _ => astep_assign rfl, trivial⟩
      obtain ⟨x7, hg8, h⟩ := bind_out h
      obtain ⟨hi9, hj10⟩ := getI_some hg8
      obtain ⟨x12, hf11, h⟩ := bind_out h
      refine awp_reg [⟨[(.tmp 1, (.fn (.func 83) [] [.ref 0 1 0 0]))], [], (.fn (.func 83) [] [.ref 0 1 0 0]), [], false⟩, ⟨[(.tmp 0, (.dat 4 ((p0 : List GStream).map c_GStream)))], [], (.dat 4 ((p0 : List GStream).map c_GStream)), [], false⟩, ⟨[(.tmp 5, I y3)], [], I y3, [], false⟩, ⟨[(.tmp 12, (.dat 4 ((p0 : List GStream).map c_GStream))), (.tmp 13, I y3)], [], (.dptr (c_GStream (x7)) 0), [], false⟩, ⟨[(.tmp 14, (.dptr (c_GStream (x7)) 0))], [], (.agg [I x7.Mass, I x7.Heat, I x7.Silica, I x7.Gas]), [], false⟩, ⟨[(.tmp 11, (.fn (.func 83) [] [.ref 0 1 0 0])), (.tmp 15, (.agg [I x7.Mass, I x7.Heat, I x7.Silica, I x7.Gas]))], [(0, (.own 1 [[(.fn (.func 63) [] [])]]))], B x12, [(0, (.own 1 [[(.fn (.func 63) [] [])]]))], false⟩] (by exact ⟨by kernel_rfl, by kernel_rfl⟩) ?_ ?_
      · exact ⟨fun _ => astep_move rfl, fun _ => astep_move rfl, fun _ => astep_move rfl, fun _ => astep_idxd rfl Try.underlying32 ti42 rfl rfl hi9 (map_get c_GStream hj10) rfl, fun _ => astep_loadd rfl ti42 (by decide) (nle7 rfl) rfl, fun _ => astep_callq (first := []) (cap := [.ref 0 1 0 0]) (vs := [(.agg [I x7.Mass, I x7.Heat, I x7.Silica, I x7.Gas])]) (σr := [(.own 1 [[(.fn (.func 63) [] [])]])]) (σr' := [(.own 1 [[(.fn (.func 63) [] [])]])]) (res' := (B x12)) [0] rfl enter83 (steam_all_steam_Stream_1X_1_ok N x7 _ hf11) rfl (rn_agg (rnl_cons (.plain _ (NLt.agg _ (nl_cons (NLt.lit _) (nl_cons (NLt.lit _) (nl_cons (NLt.lit _) (nl_cons (NLt.lit _) nl_nil)))))) (rnl_cons (rnk_ref rfl) rnl_nil))) (slw_cons (srn_box (rnl_cons (.plain _ (NLt.fn _ _ _ nl_nil nl_nil)) rnl_nil)) slw_nil) (slw_cons (srn_box (rnl_cons (.plain _ (NLt.fn _ _ _ nl_nil nl_nil)) rnl_nil)) slw_nil) (.plain _ (NLt.lit _)) rfl rfl rfl, trivial⟩
      rcases Bool.eq_false_or_eq_true (x12) with hc13 | hc13
      · replace h := bif_t hc13 h
        refine awp_ift hc13 (by kernel_rfl) ?_
        refine awp_reg [⟨[(.tmp 5, I y3)], [], I y3, [], false⟩, ⟨[(.tmp 17, I y3)], [], I y3, [], false⟩] (by exact ⟨by kernel_rfl, by kernel_rfl⟩) ?_ ?_
        · exact ⟨fun _ => astep_move rfl, fun _ => astep_assign rfl, trivial⟩
        refine awp_mor (mor_to (n := 19) (l' := [(4, I y3)]) (own' := [(.own 1 [[(.fn (.func 63) [] [])]])]) [(4, I y3)] [0] [(.own 1 [[(.fn (.func 63) [] [])]])] hφ0 (by kernel_rfl) (by kernel_rfl) (by kernel_rfl) ⟨rfl, .rn (.plain _ (NLt.lit _)), trivial⟩ ⟨(spw_box ⟨(.rn (rn_fn rnl_nil rnl_nil)), trivial⟩), trivial⟩) ?_
        refine awp_ret ?_
        refine blockA_r ?_
        refine thenA_r ?_
        refine thenA_r ?_
        refine blockA_r ?_
        refine thenA_r ?_
        obtain rfl := Option.some.inj h
        exact ⟨_, Mor.rfl, fin_of (vs := [I y3]) ⟨resOK_tmp (by kernel_rfl), trivial⟩ rfl (NLt.of0 (NLt.lit _)) (by kernel_rfl) (snl_cons (snl_box (nl_cons (NLt.of0 (NLt.fn _ _ _ nl_nil nl_nil)) nl_nil)) snl_nil)⟩
      · replace h := bif_f hc13 h
        refine awp_ifn hc13 (by kernel_rfl) ?_
        refine awp_skip ?_
        refine blockA_n ?_
        refine thenA_n ?_
        refine awp_reg1 [⟨[(.tmp 8, I y3), (.const (.int .i64 1), I 1)], [], (I (w64 (y3 + 1))), [], false⟩, ⟨[(.tmp 18, (I (w64 (y3 + 1))))], [], (I (w64 (y3 + 1))), [], false⟩] (by exact ⟨by kernel_rfl, by kernel_rfl⟩) ?_ ?_
        · exact ⟨fun _ => astep_bin rfl rfl, fun _ => astep_move rfl, trivial⟩
        refine thenA_n ?_
        exact around_mor (mor_to (n := 19) (l' := [(0, (.dat 4 ((p0 : List GStream).map c_GStream))), (1, (.fn (.func 83) [] [.ref 0 1 0 0])), (7, (I ((p0.length : Int)))), (8, (I ((w64 (y3 + 1)))))]) (own' := [(.own 1 [[(.fn (.func 63) [] [])]])]) [(0, (.dat 4 ((p0 : List GStream).map c_GStream))), (1, (.fn (.func 83) [] [.ref 0 1 0 0])), (7, (I ((p0.length : Int)))), (8, (I (w64 (y3 + 1))))] [0] [(.own 1 [[(.fn (.func 63) [] [])]])] hφ0 (by kernel_rfl) (by kernel_rfl) (by kernel_rfl) ⟨rfl, .rn (.plain _ (nl_dat nl_GStream _)), rfl, .rn (rn_fn rnl_nil (rnl_cons (rnq_ref rfl) rnl_nil)), rfl, .rn (.plain _ (NLt.lit _)), rfl, .rn (.plain _ (NLt.lit _)), trivial⟩ ⟨(spw_box ⟨(.rn (rn_fn rnl_nil rnl_nil)), trivial⟩), trivial⟩) (ih (w64 (y3 + 1)) h)
    · replace h := bif_f hc6 h
      refine awp_ifn hc6 (by kernel_rfl) ?_
      refine awp_exit ?_
      refine thenA_x ?_
      refine thenA_x ?_
      refine blockA_e rfl ?_
      refine thenA_n ?_
      exact ⟨(), h, (mor_to (n := 19) (l' := []) (own' := [(.own 1 [[(.fn (.func 63) [] [])]])]) [] [0] [(.own 1 [[(.fn (.func 63) [] [])]])] hφ0 (by kernel_rfl) (by kernel_rfl) (by kernel_rfl) trivial ⟨(spw_box ⟨(.rn (rn_fn rnl_nil rnl_nil)), trivial⟩), trivial⟩)⟩

def slices_ContainsFunc_steam_Stream_steam_StreamX_1 (N : Nat) (p0 : (List GStream)) : Option Bool :=
  (slices_IndexFunc_steam_Stream_steam_StreamX_1 N p0).bind fun x3 =>
  some (decide (x3 ≥ 0))
set_option maxRecDepth 100000 in
set_option maxHeartbeats 4000000 in
theorem slices_ContainsFunc_steam_Stream_steam_StreamX_1_ok (N : Nat) (p0 : (List GStream)) (r : Bool) (h : slices_ContainsFunc_steam_Stream_steam_StreamX_1 N p0 = some r) : Spec Try.prog 82 [(.dat 4 ((p0 : List GStream).map c_GStream)), (.fn (.func 83) [] [(.ref 0 1 (0) 0)])] [(.own 1 [[(.fn (.func 63) [] [])]])] (B (r)) [(.own 1 [[(.fn (.func 63) [] [])]])] := by
  refine spec_of_awp Try.func82 rfl 1 (nle7 rfl) (fun X φ0 w0 hφ0 => ?_)
  unfold slices_ContainsFunc_steam_Stream_steam_StreamX_1 at h
  refine awp_finm ?_
  refine awp_reg [⟨[(.const (.bool false), B false)], [], B false, [], false⟩] (by exact ⟨by kernel_rfl, by kernel_rfl⟩) ?_ ?_
  · exact ⟨fun _ => astep_assign rfl, trivial⟩
  obtain ⟨x3, hf2, h⟩ := bind_out h
  refine awp_reg [⟨[(.tmp 0, (.dat 4 ((p0 : List GStream).map c_GStream)))], [], (.dat 4 ((p0 : List GStream).map c_GStream)), [], false⟩, ⟨[(.tmp 1, (.fn (.func 83) [] [.ref 0 1 0 0]))], [], (.fn (.func 83) [] [.ref 0 1 0 0]), [], false⟩, ⟨[(.func 96, (.fn (.func 96) [] [])), (.tmp 5, (.dat 4 ((p0 : List GStream).map c_GStream))), (.tmp 6, (.fn (.func 83) [] [.ref 0 1 0 0]))], [(0, (.own 1 [[(.fn (.func 63) [] [])]]))], I x3, [(0, (.own 1 [[(.fn (.func 63) [] [])]]))], false⟩, ⟨[(.tmp 7, I x3), (.const (.int .i64 0), I 0)], [], (B ((decide (x3 ≥ 0)))), [], false⟩, ⟨[(.tmp 8, (B ((decide (x3 ≥ 0)))))], [], (B ((decide (x3 ≥ 0)))), [], false⟩] (by exact ⟨by kernel_rfl, by kernel_rfl⟩) ?_ ?_
  · exact ⟨fun _ => astep_move rfl, fun _ => astep_move rfl, fun _ => astep_callq (first := []) (cap := []) (vs := [(.dat 4 ((p0 : List GStream).map c_GStream)), (.fn (.func 83) [] [.ref 0 1 0 0])]) (σr := [(.own 1 [[(.fn (.func 63) [] [])]])]) (σr' := [(.own 1 [[(.fn (.func 63) [] [])]])]) (res' := (I x3)) [0] rfl enter96 (slices_IndexFunc_steam_Stream_steam_StreamX_1_ok N p0 _ hf2) rfl (rn_agg (rnl_cons (.plain _ (nl_dat nl_GStream _)) (rnl_cons (rn_fn rnl_nil (rnl_cons (rnk_ref rfl) rnl_nil)) rnl_nil))) (slw_cons (srn_box (rnl_cons (.plain _ (NLt.fn _ _ _ nl_nil nl_nil)) rnl_nil)) slw_nil) (slw_cons (srn_box (rnl_cons (.plain _ (NLt.fn _ _ _ nl_nil nl_nil)) rnl_nil)) slw_nil) (.plain _ (NLt.lit _)) rfl rfl rfl, fun _ => astep_bin rfl rfl, fun _ => astep_assign rfl, trivial⟩
  refine awp_mor (mor_to (n := 9) (l' := [(4, (B ((decide (x3 ≥ 0)))))]) (own' := [(.own 1 [[(.fn (.func 63) [] [])]])]) [(4, (B ((decide (x3 ≥ 0)))))] [0] [(.own 1 [[(.fn (.func 63) [] [])]])] hφ0 (by kernel_rfl) (by kernel_rfl) (by kernel_rfl) ⟨rfl, .rn (.plain _ (NLt.lit _)), trivial⟩ ⟨(spw_box ⟨(.rn (rn_fn rnl_nil rnl_nil)), trivial⟩), trivial⟩) ?_
  refine awp_ret ?_
  obtain rfl := Option.some.inj h
  exact ⟨_, Mor.rfl, fin_of (vs := [(B ((decide (x3 ≥ 0))))]) ⟨resOK_tmp (by kernel_rfl), trivial⟩ rfl (NLt.of0 (NLt.lit _)) (by kernel_rfl) (snl_cons (snl_box (nl_cons (NLt.of0 (NLt.fn _ _ _ nl_nil nl_nil)) nl_nil)) snl_nil)⟩

def steam_all_steam_StreamX_1 (N : Nat) (p0 : (List GStream)) : Option Bool :=
  (slices_ContainsFunc_steam_Stream_steam_StreamX_1 N p0).bind fun x2 =>
  some (!x2)
set_option maxRecDepth 100000 in
set_option maxHeartbeats 4000000 in
theorem steam_all_steam_StreamX_1_ok (N : Nat) (p0 : (List GStream)) (r : Bool) (h : steam_all_steam_StreamX_1 N p0 = some r) : Spec Try.prog 58 [(.dat 4 ((p0 : List GStream).map c_GStream)), (.fn (.func 63) [] [])] [] (B (r)) [] := by
  refine spec_of_awp Try.func58 rfl 0 (nle7 rfl) (fun X φ0 w0 hφ0 => ?_)
  unfold steam_all_steam_StreamX_1 at h
  refine awp_reg [⟨[(.tmp 1, (.fn (.func 63) [] []))], [(0, .unused)], .ref 0 1 0 0, [(0, (.own 1 [[(.fn (.func 63) [] [])]]))], false⟩, ⟨[(.const (.bool false), B false)], [], B false, [], false⟩] (by exact ⟨by kernel_rfl, by kernel_rfl⟩) ?_ ?_
  · exact ⟨fun _ => astep_box rfl (by rfl) rfl rfl, fun _ => astep_assign rfl, trivial⟩
  obtain ⟨x2, hf1, h⟩ := bind_out h
  refine awp_reg [⟨[(.tmp 0, (.dat 4 ((p0 : List GStream).map c_GStream)))], [], (.dat 4 ((p0 : List GStream).map c_GStream)), [], false⟩, ⟨[(.tmp 3, .ref 0 1 0 0)], [], (.fn (.func 83) [] [.ref 0 1 0 0]), [], false⟩, ⟨[(.func 82, (.fn (.func 82) [] [])), (.tmp 5, (.dat 4 ((p0 : List GStream).map c_GStream))), (.tmp 6, (.fn (.func 83) [] [.ref 0 1 0 0]))], [(0, (.own 1 [[(.fn (.func 63) [] [])]]))], B x2, [(0, (.own 1 [[(.fn (.func 63) [] [])]]))], false⟩, ⟨[(.tmp 7, B x2)], [], (B ((!x2))), [], false⟩, ⟨[(.tmp 8, (B ((!x2))))], [], (B ((!x2))), [], false⟩] (by exact ⟨by kernel_rfl, by kernel_rfl⟩) ?_ ?_
  · exact ⟨fun _ => astep_move rfl, fun _ => astep_func (fs := []) (cs := [.ref 0 1 0 0]) rfl rfl rfl rfl, fun _ => astep_callq (first := []) (cap := []) (vs := [(.dat 4 ((p0 : List GStream).map c_GStream)), (.fn (.func 83) [] [.ref 0 1 0 0])]) (σr := [(.own 1 [[(.fn (.func 63) [] [])]])]) (σr' := [(.own 1 [[(.fn (.func 63) [] [])]])]) (res' := (B x2)) [0] rfl enter82 (slices_ContainsFunc_steam_Stream_steam_StreamX_1_ok N p0 _ hf1) rfl (rn_agg (rnl_cons (.plain _ (nl_dat nl_GStream _)) (rnl_cons (rn_fn rnl_nil (rnl_cons (rnk_ref rfl) rnl_nil)) rnl_nil))) (slw_cons (srn_box (rnl_cons (.plain _ (NLt.fn _ _ _ nl_nil nl_nil)) rnl_nil)) slw_nil) (slw_cons (srn_box (rnl_cons (.plain _ (NLt.fn _ _ _ nl_nil nl_nil)) rnl_nil)) slw_nil) (.plain _ (NLt.lit _)) rfl rfl rfl, fun _ => astep_not rfl, fun _ => astep_assign rfl, trivial⟩
  refine awp_ret ?_
  obtain rfl := Option.some.inj h
  exact ⟨⟨[(B ((!x2)))], ⟨resOK_tmp (by kernel_rfl), trivial⟩, rfl⟩, (NLt.lit _), Nat.le_refl _, fun n hn => absurd hn (Nat.not_lt_zero n)⟩

def steam_checkedX (N : Nat) (p0 : (List GStream)) : Option Int :=
  bif (decide ((p0.length : Int) > 40)) then
    some 3
  else
    (steam_all_steam_StreamX_1 N p0).bind fun x3 =>
    bif (!x3) then
      some 1
    else
      some 0
set_option maxRecDepth 100000 in
set_option maxHeartbeats 4000000 in
theorem steam_checkedX_ok (N : Nat) (p0 : (List GStream)) (r : Int) (h : steam_checkedX N p0 = some r) : Spec Try.prog 57 [(.dat 4 (p0.map c_GStream))] [] (I r) [] := by
  refine spec_of_awp Try.func57 rfl 0 (nle7 rfl) (fun X φ0 w0 hφ0 => ?_)
  unfold steam_checkedX at h
  refine awp_reg [⟨[(.const (.int .i64 0), I 0)], [], I 0, [], false⟩] (by exact ⟨by kernel_rfl, by kernel_rfl⟩) ?_ ?_
  · exact ⟨fun _ => astep_assign rfl, trivial⟩
  refine awp_seq ?_
  refine awp_block ?_
  refine awp_reg [⟨[(.tmp 0, (.dat 4 ((p0 : List GStream).map c_GStream)))], [], (.dat 4 ((p0 : List GStream).map c_GStream)), [], false⟩, ⟨[(.tmp 4, (.dat 4 ((p0 : List GStream).map c_GStream)))], [], (I ((p0.length : Int))), [], false⟩, ⟨[(.tmp 5, (I ((p0.length : Int)))), (.const (.int .i64 40), I 40)], [], (B ((decide ((p0.length : Int) > 40)))), [], false⟩, ⟨[(.tmp 6, (B ((decide ((p0.length : Int) > 40)))))], [], (B ((decide ((p0.length : Int) > 40)))), [], false⟩] (by exact ⟨by kernel_rfl, by kernel_rfl⟩) ?_ ?_
  · exact ⟨fun _ => astep_move rfl, fun _ => astep_lenm (c := c_GStream) (l := p0) (astep_len rfl Try.underlying32 rfl), fun _ => astep_bin rfl rfl, fun _ => astep_assign rfl, trivial⟩
  rcases Bool.eq_false_or_eq_true ((decide ((p0.length : Int) > 40))) with hc1 | hc1
  · replace h := bif_t hc1 h
    refine awp_ift hc1 (by kernel_rfl) ?_
    refine awp_reg [⟨[(.const (.int .i64 3), I 3)], [], I 3, [], false⟩] (by exact ⟨by kernel_rfl, by kernel_rfl⟩) ?_ ?_
    · exact ⟨fun _ => astep_assign rfl, trivial⟩
    refine awp_ret ?_
    refine blockA_r ?_
    refine thenA_r ?_
    obtain rfl := Option.some.inj h
    exact ⟨⟨[I 3], ⟨resOK_tmp (by kernel_rfl), trivial⟩, rfl⟩, (NLt.lit _), Nat.le_refl _, fun n hn => absurd hn (Nat.not_lt_zero n)⟩
  · replace h := bif_f hc1 h
    refine awp_ifn hc1 (by kernel_rfl) ?_
    obtain ⟨x3, hf2, h⟩ := bind_out h
    refine awp_reg [⟨[(.tmp 0, (.dat 4 ((p0 : List GStream).map c_GStream)))], [], (.dat 4 ((p0 : List GStream).map c_GStream)), [], false⟩, ⟨[(.func 58, (.fn (.func 58) [] [])), (.tmp 8, (.dat 4 ((p0 : List GStream).map c_GStream))), (.func 63, (.fn (.func 63) [] []))], [], B x3, [], false⟩, ⟨[(.tmp 9, B x3)], [], (B ((!x3))), [], false⟩, ⟨[(.tmp 10, (B ((!x3))))], [], (B ((!x3))), [], false⟩] (by exact ⟨by kernel_rfl, by kernel_rfl⟩) ?_ ?_
    · exact ⟨fun _ => astep_move rfl, fun _ => astep_callq (first := []) (cap := []) (vs := [(.dat 4 ((p0 : List GStream).map c_GStream)), (.fn (.func 63) [] [])]) (σr := []) (σr' := []) (res' := (B x3)) [] rfl enter58 (steam_all_steam_StreamX_1_ok N p0 _ hf2) rfl (rn_agg (rnl_cons (.plain _ (nl_dat nl_GStream _)) (rnl_cons (.plain _ (NLt.fn _ _ _ nl_nil nl_nil)) rnl_nil))) slw_nil slw_nil (.plain _ (NLt.lit _)) rfl rfl rfl, fun _ => astep_not rfl, fun _ => astep_assign rfl, trivial⟩
    rcases Bool.eq_false_or_eq_true ((!x3)) with hc4 | hc4
    · replace h := bif_t hc4 h
      refine awp_ift hc4 (by kernel_rfl) ?_
      refine awp_reg [⟨[(.const (.int .i64 1), I 1)], [], I 1, [], false⟩] (by exact ⟨by kernel_rfl, by kernel_rfl⟩) ?_ ?_
      · exact ⟨fun _ => astep_assign rfl, trivial⟩
      refine awp_ret ?_
      refine blockA_r ?_
      refine thenA_r ?_
      obtain rfl := Option.some.inj h
      exact ⟨⟨[I 1], ⟨resOK_tmp (by kernel_rfl), trivial⟩, rfl⟩, (NLt.lit _), Nat.le_refl _, fun n hn => absurd hn (Nat.not_lt_zero n)⟩
    · replace h := bif_f hc4 h
      refine awp_ifn hc4 (by kernel_rfl) ?_
      refine awp_skip ?_
      refine blockA_n ?_
      refine thenA_n ?_
      refine awp_reg [⟨[(.const (.int .i64 0), I 0)], [], I 0, [], false⟩] (by exact ⟨by kernel_rfl, by kernel_rfl⟩) ?_ ?_
      · exact ⟨fun _ => astep_assign rfl, trivial⟩
      refine awp_ret ?_
      obtain rfl := Option.some.inj h
      exact ⟨⟨[I 0], ⟨resOK_tmp (by kernel_rfl), trivial⟩, rfl⟩, (NLt.lit _), Nat.le_refl _, fun n hn => absurd hn (Nat.not_lt_zero n)⟩

def steam_Stream_numbersX_1 (_N : Nat) (_p0 : Int) (_p1 : Int) (_p2 : Int) (_p3 : Int) : Option Unit :=
  some ()
set_option maxRecDepth 100000 in
set_option maxHeartbeats 4000000 in
theorem steam_Stream_numbersX_1_ok (N : Nat) (p0 : Int) (p1 : Int) (p2 : Int) (p3 : Int) (r : Unit) (h : steam_Stream_numbersX_1 N p0 p1 p2 p3 = some r) : Spec Try.prog 90 [(.ref 0 4 (0) 0)] [(.own 4 [[(I (p0)), (I (p1)), (I (p2)), (I (p3))]])] (.agg [(.ref 0 4 (0) 0), (.ref 0 4 (0) 1), (.ref 0 4 (0) 2), (.ref 0 4 (0) 3)]) [(.own 4 [[(I (p0)), (I (p1)), (I (p2)), (I (p3))]]), (.own 4 [[(.ref 0 4 (0) 0), (.ref 0 4 (0) 1), (.ref 0 4 (0) 2), (.ref 0 4 (0) 3)]])] := by
  refine spec_of_awp Try.func90 rfl 2 (nle7 rfl) (fun X φ0 w0 hφ0 => ?_)
  unfold steam_Stream_numbersX_1 at h
  refine awp_finm ?_
  refine awp_reg [⟨[], [(1, .unused)], .ref 1 4 0 0, [(1, (.own 4 [[(.lit (.pointer none)), (.lit (.pointer none)), (.lit (.pointer none)), (.lit (.pointer none))]]))], false⟩] (by exact ⟨by kernel_rfl, by kernel_rfl⟩) ?_ ?_
  · exact ⟨fun _ => astep_alloc rfl tz142 rfl, trivial⟩
  refine awp_regd [⟨[(.tmp 0, .ref 0 4 0 0)], [], .ref 0 4 0 0, [], false⟩, ⟨[(.tmp 3, .ref 0 4 0 0)], [(0, .own 4 [[I p0, I p1, I p2, I p3]])], .ref 0 4 0 0, [], false⟩, ⟨[(.tmp 4, .ref 0 4 0 0)], [(0, .own 4 [[I p0, I p1, I p2, I p3]])], .ref 0 4 0 0, [], false⟩, ⟨[(.tmp 0, .ref 0 4 0 0)], [], .ref 0 4 0 0, [], false⟩, ⟨[(.tmp 6, .ref 0 4 0 0)], [(0, .own 4 [[I p0, I p1, I p2, I p3]])], .ref 0 4 0 0, [], false⟩, ⟨[(.tmp 7, .ref 0 4 0 0)], [(0, .own 4 [[I p0, I p1, I p2, I p3]])], .ref 0 4 0 1, [], false⟩, ⟨[(.tmp 0, .ref 0 4 0 0)], [], .ref 0 4 0 0, [], false⟩, ⟨[(.tmp 9, .ref 0 4 0 0)], [(0, .own 4 [[I p0, I p1, I p2, I p3]])], .ref 0 4 0 0, [], false⟩, ⟨[(.tmp 10, .ref 0 4 0 0)], [(0, .own 4 [[I p0, I p1, I p2, I p3]])], .ref 0 4 0 2, [], false⟩, ⟨[(.tmp 0, .ref 0 4 0 0)], [], .ref 0 4 0 0, [], false⟩, ⟨[(.tmp 12, .ref 0 4 0 0)], [(0, .own 4 [[I p0, I p1, I p2, I p3]])], .ref 0 4 0 0, [], false⟩, ⟨[(.tmp 13, .ref 0 4 0 0)], [(0, .own 4 [[I p0, I p1, I p2, I p3]])], .ref 0 4 0 3, [], false⟩, ⟨[(.tmp 5, .ref 0 4 0 0), (.tmp 8, .ref 0 4 0 1), (.tmp 11, .ref 0 4 0 2), (.tmp 14, .ref 0 4 0 3)], [], (.agg [.ref 0 4 0 0, .ref 0 4 0 1, .ref 0 4 0 2, .ref 0 4 0 3]), [], false⟩, ⟨[(.tmp 2, .ref 1 4 0 0), (.tmp 15, (.agg [.ref 0 4 0 0, .ref 0 4 0 1, .ref 0 4 0 2, .ref 0 4 0 3]))], [(1, (.own 4 [[(.lit (.pointer none)), (.lit (.pointer none)), (.lit (.pointer none)), (.lit (.pointer none))]]))], .any, [(1, .own 4 [[.ref 0 4 0 0, .ref 0 4 0 1, .ref 0 4 0 2, .ref 0 4 0 3]])], false⟩] (by kernel_rfl) (by exact ⟨by kernel_rfl, by kernel_rfl⟩) (by kernel_rfl) ?_ ?_
  · exact ⟨fun _ => astep_move rfl, fun _ => astep_nilr rfl, fun _ => astep_faddr rfl Try.underlying42 rfl rfl ti3 (by decide) rfl, fun _ => astep_move rfl, fun _ => astep_nilr rfl, fun _ => astep_faddr rfl Try.underlying42 rfl rfl ti3 (by decide) rfl, fun _ => astep_move rfl, fun _ => astep_nilr rfl, fun _ => astep_faddr rfl Try.underlying42 rfl rfl ti3 (by decide) rfl, fun _ => astep_move rfl, fun _ => astep_nilr rfl, fun _ => astep_faddr rfl Try.underlying42 rfl rfl ti3 (by decide) rfl, fun _ => astep_builda (vs := [.ref 0 4 0 0, .ref 0 4 0 1, .ref 0 4 0 2, .ref 0 4 0 3]) rfl Try.underlying142 ti141 tz142 rfl (by rfl) rfl, fun _ => astep_store rfl ti142 (by rfl) rfl (nle7 rfl) rfl, trivial⟩
  refine awp_mor (mor_to (n := 16) (l' := [(2, .ref 1 4 0 0)]) (own' := [(.own 4 [[I p0, I p1, I p2, I p3]]), (.own 4 [[.ref 0 4 0 0, .ref 0 4 0 1, .ref 0 4 0 2, .ref 0 4 0 3]])]) [(2, .ref 1 4 0 0)] [0, 1] [(.own 4 [[I p0, I p1, I p2, I p3]]), (.own 4 [[.ref 0 4 0 0, .ref 0 4 0 1, .ref 0 4 0 2, .ref 0 4 0 3]])] hφ0 (by kernel_rfl) (by kernel_rfl) (by kernel_rfl) ⟨rfl, .rn (rnq_ref rfl), trivial⟩ ⟨(spw_box ⟨(.rn (.plain _ (NLt.lit _))), (.rn (.plain _ (NLt.lit _))), (.rn (.plain _ (NLt.lit _))), (.rn (.plain _ (NLt.lit _))), trivial⟩), (spw_box ⟨(.rn (rnq_ref rfl)), (.rn (rnq_ref rfl)), (.rn (rnq_ref rfl)), (.rn (rnq_ref rfl)), trivial⟩), trivial⟩) ?_
  refine awp_ret ?_
  obtain rfl := Option.some.inj h
  exact ⟨_, Mor.rfl, fin_of (vs := [(.agg [.ref 0 4 0 0, .ref 0 4 0 1, .ref 0 4 0 2, .ref 0 4 0 3])]) ⟨resOK_cell (n := 1) (m := 4) (j := 0) (i := 0) (xs := [[.ref 0 4 0 0, .ref 0 4 0 1, .ref 0 4 0 2, .ref 0 4 0 3]]) (by kernel_rfl) (by kernel_rfl) ti142 (by decide) rfl (nle7 rfl) rfl, trivial⟩ rfl (NLt.agg _ (nl_cons (NLt.ref _ _ _ _ (by decide)) (nl_cons (NLt.ref _ _ _ _ (by decide)) (nl_cons (NLt.ref _ _ _ _ (by decide)) (nl_cons (NLt.ref _ _ _ _ (by decide)) nl_nil))))) (by kernel_rfl) (snl_cons (snl_box (nl_cons (NLt.of0 (NLt.lit _)) (nl_cons (NLt.of0 (NLt.lit _)) (nl_cons (NLt.of0 (NLt.lit _)) (nl_cons (NLt.of0 (NLt.lit _)) nl_nil))))) (snl_cons (snl_box (nl_cons (NLt.ref _ _ _ _ (by decide)) (nl_cons (NLt.ref _ _ _ _ (by decide)) (nl_cons (NLt.ref _ _ _ _ (by decide)) (nl_cons (NLt.ref _ _ _ _ (by decide)) nl_nil))))) snl_nil))⟩

def steam_sum_1X_1 (N : Nat) (p0 : GStream) (p1 : Int) (p2 : Int) (p3 : Int) (p4 : Int) : Option Unit :=
  (steam_Stream_numbersX_1 N p0.Mass p0.Heat p0.Silica p0.Gas).bind fun _ =>
  (steam_Stream_numbersX_1 N p1 p2 p3 p4).bind fun _ =>
  (steam_Stream_numbersX_1 N (w64 (p1 + p0.Mass)) p2 p3 p4).bind fun _ =>
  (steam_Stream_numbersX_1 N (w64 (p1 + p0.Mass)) (w64 (p2 + p0.Heat)) p3 p4).bind fun _ =>
  (steam_Stream_numbersX_1 N (w64 (p1 + p0.Mass)) (w64 (p2 + p0.Heat)) (w64 (p3 + p0.Silica)) p4).bind fun _ =>
  some ()
set_option maxRecDepth 100000 in
set_option maxHeartbeats 4000000 in
theorem steam_sum_1X_1_ok (N : Nat) (p0 : GStream) (p1 : Int) (p2 : Int) (p3 : Int) (p4 : Int) (r : Unit) (h : steam_sum_1X_1 N p0 p1 p2 p3 p4 = some r) : Spec Try.prog 89 [(.agg [(I (p0.Mass)), (I (p0.Heat)), (I (p0.Silica)), (I (p0.Gas))]), (.ref 0 4 (0) 0)] [(.own 4 [[(I (p1)), (I (p2)), (I (p3)), (I (p4))]])] (.tup []) [(.own 4 [[(I ((w64 (p1 + p0.Mass)))), (I ((w64 (p2 + p0.Heat)))), (I ((w64 (p3 + p0.Silica)))), (I (w64 (p4 + p0.Gas)))]])] := by
  refine spec_of_awp Try.func89 rfl 1 (nle7 rfl) (fun X φ0 w0 hφ0 => ?_)
  unfold steam_sum_1X_1 at h
  refine awp_finm ?_
  refine awp_reg [⟨[(.tmp 0, (.agg [I p0.Mass, I p0.Heat, I p0.Silica, I p0.Gas]))], [(1, .unused)], .ref 1 4 0 0, [(1, .own 4 [[I p0.Mass, I p0.Heat, I p0.Silica, I p0.Gas]])], false⟩] (by exact ⟨by kernel_rfl, by kernel_rfl⟩) ?_ ?_
  · exact ⟨fun _ => astep_box rfl (by rfl) rfl rfl, trivial⟩
  obtain ⟨x2, hf1, h⟩ := bind_out h
  refine awp_reg [⟨[(.func 90, (.fn (.func 90) [] [])), (.tmp 2, .ref 1 4 0 0)], [(1, .own 4 [[I p0.Mass, I p0.Heat, I p0.Silica, I p0.Gas]]), (2, .unused)], (.agg [.ref 1 4 0 0, .ref 1 4 0 1, .ref 1 4 0 2, .ref 1 4 0 3]), [(1, .own 4 [[I p0.Mass, I p0.Heat, I p0.Silica, I p0.Gas]]), (2, .own 4 [[.ref 1 4 0 0, .ref 1 4 0 1, .ref 1 4 0 2, .ref 1 4 0 3]])], false⟩, ⟨[(.const (.int .i64 0), I 0)], [], I 0, [], false⟩] (by exact ⟨by kernel_rfl, by kernel_rfl⟩) ?_ ?_
  · exact ⟨fun _ => astep_callq (first := []) (cap := []) (vs := [.ref 1 4 0 0]) (σr := [(.own 4 [[I p0.Mass, I p0.Heat, I p0.Silica, I p0.Gas]])]) (σr' := [(.own 4 [[I p0.Mass, I p0.Heat, I p0.Silica, I p0.Gas]]), (.own 4 [[.ref 1 4 0 0, .ref 1 4 0 1, .ref 1 4 0 2, .ref 1 4 0 3]])]) (res' := (.agg [.ref 1 4 0 0, .ref 1 4 0 1, .ref 1 4 0 2, .ref 1 4 0 3])) [1, 2] rfl enter90 (steam_Stream_numbersX_1_ok N p0.Mass p0.Heat p0.Silica p0.Gas _ hf1) rfl (rn_agg (rnl_cons (rnk_ref rfl) rnl_nil)) (slw_cons (srn_box (rnl_cons (.plain _ (NLt.lit _)) (rnl_cons (.plain _ (NLt.lit _)) (rnl_cons (.plain _ (NLt.lit _)) (rnl_cons (.plain _ (NLt.lit _)) rnl_nil))))) slw_nil) (slw_cons (srn_box (rnl_cons (.plain _ (NLt.lit _)) (rnl_cons (.plain _ (NLt.lit _)) (rnl_cons (.plain _ (NLt.lit _)) (rnl_cons (.plain _ (NLt.lit _)) rnl_nil))))) (slw_cons (srn_box (rnl_cons (rnj_ref rfl) (rnl_cons (rnj_ref rfl) (rnl_cons (rnj_ref rfl) (rnl_cons (rnj_ref rfl) rnl_nil))))) slw_nil)) (rn_agg (rnl_cons (rnj_ref rfl) (rnl_cons (rnj_ref rfl) (rnl_cons (rnj_ref rfl) (rnl_cons (rnj_ref rfl) rnl_nil))))) rfl rfl rfl, fun _ => astep_move rfl, trivial⟩
  refine awp_block ?_
  refine awp_loop 17 ?_
  refine around ?_
  refine awp_reg [⟨[(.tmp 6, I 0), (.const (.int .i64 4), I 4)], [], B true, [], false⟩] (by exact ⟨by kernel_rfl, by kernel_rfl⟩) ?_ ?_
  · exact ⟨fun _ => astep_bin rfl rfl, trivial⟩
  refine awp_seq ?_
  refine awp_true (by kernel_rfl) ?_
  refine awp_skip ?_
  refine thenA_n ?_
  refine awp_seq ?_
  refine awp_block ?_
  refine awp_reg [⟨[(.tmp 6, I 0)], [], I 0, [], false⟩, ⟨[(.tmp 5, (.agg [.ref 1 4 0 0, .ref 1 4 0 1, .ref 1 4 0 2, .ref 1 4 0 3])), (.tmp 6, I 0)], [], .ref 1 4 0 0, [], false⟩, ⟨[(.tmp 8, I 0)], [], I 0, [], false⟩, ⟨[(.tmp 9, .ref 1 4 0 0)], [], .ref 1 4 0 0, [], false⟩] (by exact ⟨by kernel_rfl, by kernel_rfl⟩) ?_ ?_
  · exact ⟨fun _ => astep_move rfl, fun _ => astep_index rfl Try.underlying142 ti141 (by decide) (by decide) (nle7 rfl) (by decide) rfl, fun _ => astep_assign rfl, fun _ => astep_assign rfl, trivial⟩
  obtain ⟨x4, hf3, h⟩ := bind_out h
  refine awp_regd1 [⟨[(.func 90, (.fn (.func 90) [] [])), (.tmp 1, .ref 0 4 0 0)], [(0, .own 4 [[I p1, I p2, I p3, I p4]]), (3, .unused)], (.agg [.ref 0 4 0 0, .ref 0 4 0 1, .ref 0 4 0 2, .ref 0 4 0 3]), [(0, .own 4 [[I p1, I p2, I p3, I p4]]), (3, .own 4 [[.ref 0 4 0 0, .ref 0 4 0 1, .ref 0 4 0 2, .ref 0 4 0 3]])], false⟩, ⟨[(.tmp 3, I 0)], [], I 0, [], false⟩, ⟨[(.tmp 10, (.agg [.ref 0 4 0 0, .ref 0 4 0 1, .ref 0 4 0 2, .ref 0 4 0 3])), (.tmp 11, I 0)], [], .ref 0 4 0 0, [], false⟩, ⟨[(.tmp 12, .ref 0 4 0 0)], [(0, .own 4 [[I p1, I p2, I p3, I p4]])], .ref 0 4 0 0, [], false⟩, ⟨[(.tmp 13, .ref 0 4 0 0)], [(0, .own 4 [[I p1, I p2, I p3, I p4]])], I p1, [], false⟩, ⟨[(.tmp 4, .ref 1 4 0 0)], [], .ref 1 4 0 0, [], false⟩, ⟨[(.tmp 15, .ref 1 4 0 0)], [(1, .own 4 [[I p0.Mass, I p0.Heat, I p0.Silica, I p0.Gas]])], .ref 1 4 0 0, [], false⟩, ⟨[(.tmp 16, .ref 1 4 0 0)], [(1, .own 4 [[I p0.Mass, I p0.Heat, I p0.Silica, I p0.Gas]])], I p0.Mass, [], false⟩, ⟨[(.tmp 14, I p1), (.tmp 17, I p0.Mass)], [], (I (w64 (p1 + p0.Mass))), [], false⟩, ⟨[(.tmp 12, .ref 0 4 0 0)], [(0, .own 4 [[I p1, I p2, I p3, I p4]])], .ref 0 4 0 0, [], false⟩, ⟨[(.tmp 19, .ref 0 4 0 0), (.tmp 18, (I (w64 (p1 + p0.Mass))))], [(0, .own 4 [[I p1, I p2, I p3, I p4]])], .any, [(0, (.own 4 [[(I (w64 (p1 + p0.Mass))), I p2, I p3, I p4]]))], false⟩] (by kernel_rfl) (by exact ⟨by kernel_rfl, by kernel_rfl⟩) (by kernel_rfl) ?_ ?_
  · exact ⟨fun _ => astep_callq (first := []) (cap := []) (vs := [.ref 0 4 0 0]) (σr := [(.own 4 [[I p1, I p2, I p3, I p4]])]) (σr' := [(.own 4 [[I p1, I p2, I p3, I p4]]), (.own 4 [[.ref 0 4 0 0, .ref 0 4 0 1, .ref 0 4 0 2, .ref 0 4 0 3]])]) (res' := (.agg [.ref 0 4 0 0, .ref 0 4 0 1, .ref 0 4 0 2, .ref 0 4 0 3])) [0, 3] rfl enter90 (steam_Stream_numbersX_1_ok N p1 p2 p3 p4 _ hf3) rfl (rn_agg (rnl_cons (rnk_ref rfl) rnl_nil)) (slw_cons (srn_box (rnl_cons (.plain _ (NLt.lit _)) (rnl_cons (.plain _ (NLt.lit _)) (rnl_cons (.plain _ (NLt.lit _)) (rnl_cons (.plain _ (NLt.lit _)) rnl_nil))))) slw_nil) (slw_cons (srn_box (rnl_cons (.plain _ (NLt.lit _)) (rnl_cons (.plain _ (NLt.lit _)) (rnl_cons (.plain _ (NLt.lit _)) (rnl_cons (.plain _ (NLt.lit _)) rnl_nil))))) (slw_cons (srn_box (rnl_cons (rnj_ref rfl) (rnl_cons (rnj_ref rfl) (rnl_cons (rnj_ref rfl) (rnl_cons (rnj_ref rfl) rnl_nil))))) slw_nil)) (rn_agg (rnl_cons (rnj_ref rfl) (rnl_cons (rnj_ref rfl) (rnl_cons (rnj_ref rfl) (rnl_cons (rnj_ref rfl) rnl_nil))))) rfl rfl rfl, fun _ => astep_move rfl, fun _ => astep_index rfl Try.underlying142 ti141 (by decide) (by decide) (nle7 rfl) (by decide) rfl, fun _ => astep_nilr rfl, fun _ => astep_load rfl ti3 (by decide) rfl (nle7 rfl) rfl, fun _ => astep_move rfl, fun _ => astep_nilr rfl, fun _ => astep_load rfl ti3 (by decide) rfl (nle7 rfl) rfl, fun _ => astep_bin rfl rfl, fun _ => astep_nilr rfl, fun _ => astep_store rfl ti3 (by rfl) rfl (nle7 rfl) rfl, trivial⟩
  refine blockA_n ?_
  refine thenA_n ?_
  refine awp_reg1 [⟨[(.tmp 6, I 0), (.const (.int .i64 1), I 1)], [], I 1, [], false⟩, ⟨[(.tmp 20, I 1)], [], I 1, [], false⟩] (by exact ⟨by kernel_rfl, by kernel_rfl⟩) ?_ ?_
  · exact ⟨fun _ => astep_bin rfl rfl, fun _ => astep_move rfl, trivial⟩
  refine thenA_n ?_
  refine around ?_
  refine awp_reg [⟨[(.tmp 6, I 1), (.const (.int .i64 4), I 4)], [], B true, [], false⟩] (by exact ⟨by kernel_rfl, by kernel_rfl⟩) ?_ ?_
  · exact ⟨fun _ => astep_bin rfl rfl, trivial⟩
  refine awp_seq ?_
  refine awp_true (by kernel_rfl) ?_
  refine awp_skip ?_
  refine thenA_n ?_
  refine awp_seq ?_
  refine awp_block ?_
  refine awp_reg [⟨[(.tmp 6, I 1)], [], I 1, [], false⟩, ⟨[(.tmp 5, (.agg [.ref 1 4 0 0, .ref 1 4 0 1, .ref 1 4 0 2, .ref 1 4 0 3])), (.tmp 6, I 1)], [], .ref 1 4 0 1, [], false⟩, ⟨[(.tmp 8, I 1)], [], I 1, [], false⟩, ⟨[(.tmp 9, .ref 1 4 0 1)], [], .ref 1 4 0 1, [], false⟩] (by exact ⟨by kernel_rfl, by kernel_rfl⟩) ?_ ?_
  · exact ⟨fun _ => astep_move rfl, fun _ => astep_index rfl Try.underlying142 ti141 (by decide) (by decide) (nle7 rfl) (by decide) rfl, fun _ => astep_assign rfl, fun _ => astep_assign rfl, trivial⟩
  obtain ⟨x6, hf5, h⟩ := bind_out h
  refine awp_regd1 [⟨[(.func 90, (.fn (.func 90) [] [])), (.tmp 1, .ref 0 4 0 0)], [(0, (.own 4 [[(I (w64 (p1 + p0.Mass))), I p2, I p3, I p4]])), (4, .unused)], (.agg [.ref 0 4 0 0, .ref 0 4 0 1, .ref 0 4 0 2, .ref 0 4 0 3]), [(0, (.own 4 [[(I ((w64 (p1 + p0.Mass)))), I p2, I p3, I p4]])), (4, .own 4 [[.ref 0 4 0 0, .ref 0 4 0 1, .ref 0 4 0 2, .ref 0 4 0 3]])], false⟩, ⟨[(.tmp 3, I 1)], [], I 1, [], false⟩, ⟨[(.tmp 10, (.agg [.ref 0 4 0 0, .ref 0 4 0 1, .ref 0 4 0 2, .ref 0 4 0 3])), (.tmp 11, I 1)], [], .ref 0 4 0 1, [], false⟩, ⟨[(.tmp 12, .ref 0 4 0 1)], [(0, (.own 4 [[(I ((w64 (p1 + p0.Mass)))), I p2, I p3, I p4]]))], .ref 0 4 0 1, [], false⟩, ⟨[(.tmp 13, .ref 0 4 0 1)], [(0, (.own 4 [[(I ((w64 (p1 + p0.Mass)))), I p2, I p3, I p4]]))], I p2, [], false⟩, ⟨[(.tmp 4, .ref 1 4 0 1)], [], .ref 1 4 0 1, [], false⟩, ⟨[(.tmp 15, .ref 1 4 0 1)], [(1, .own 4 [[I p0.Mass, I p0.Heat, I p0.Silica, I p0.Gas]])], .ref 1 4 0 1, [], false⟩, ⟨[(.tmp 16, .ref 1 4 0 1)], [(1, .own 4 [[I p0.Mass, I p0.Heat, I p0.Silica, I p0.Gas]])], I p0.Heat, [], false⟩, ⟨[(.tmp 14, I p2), (.tmp 17, I p0.Heat)], [], (I (w64 (p2 + p0.Heat))), [], false⟩, ⟨[(.tmp 12, .ref 0 4 0 1)], [(0, (.own 4 [[(I ((w64 (p1 + p0.Mass)))), I p2, I p3, I p4]]))], .ref 0 4 0 1, [], false⟩, ⟨[(.tmp 19, .ref 0 4 0 1), (.tmp 18, (I (w64 (p2 + p0.Heat))))], [(0, (.own 4 [[(I ((w64 (p1 + p0.Mass)))), I p2, I p3, I p4]]))], .any, [(0, (.own 4 [[(I ((w64 (p1 + p0.Mass)))), (I (w64 (p2 + p0.Heat))), I p3, I p4]]))], false⟩] (by kernel_rfl) (by exact ⟨by kernel_rfl, by kernel_rfl⟩) (by kernel_rfl) ?_ ?_
  · exact ⟨fun _ => astep_callq (first := []) (cap := []) (vs := [.ref 0 4 0 0]) (σr := [(.own 4 [[(I (w64 (p1 + p0.Mass))), I p2, I p3, I p4]])]) (σr' := [(.own 4 [[(I ((w64 (p1 + p0.Mass)))), I p2, I p3, I p4]]), (.own 4 [[.ref 0 4 0 0, .ref 0 4 0 1, .ref 0 4 0 2, .ref 0 4 0 3]])]) (res' := (.agg [.ref 0 4 0 0, .ref 0 4 0 1, .ref 0 4 0 2, .ref 0 4 0 3])) [0, 4] rfl enter90 (steam_Stream_numbersX_1_ok N (w64 (p1 + p0.Mass)) p2 p3 p4 _ hf5) rfl (rn_agg (rnl_cons (rnk_ref rfl) rnl_nil)) (slw_cons (srn_box (rnl_cons (.plain _ (NLt.lit _)) (rnl_cons (.plain _ (NLt.lit _)) (rnl_cons (.plain _ (NLt.lit _)) (rnl_cons (.plain _ (NLt.lit _)) rnl_nil))))) slw_nil) (slw_cons (srn_box (rnl_cons (.plain _ (NLt.lit _)) (rnl_cons (.plain _ (NLt.lit _)) (rnl_cons (.plain _ (NLt.lit _)) (rnl_cons (.plain _ (NLt.lit _)) rnl_nil))))) (slw_cons (srn_box (rnl_cons (rnj_ref rfl) (rnl_cons (rnj_ref rfl) (rnl_cons (rnj_ref rfl) (rnl_cons (rnj_ref rfl) rnl_nil))))) slw_nil)) (rn_agg (rnl_cons (rnj_ref rfl) (rnl_cons (rnj_ref rfl) (rnl_cons (rnj_ref rfl) (rnl_cons (rnj_ref rfl) rnl_nil))))) rfl rfl rfl, fun _ => astep_move rfl, fun _ => astep_index rfl Try.underlying142 ti141 (by decide) (by decide) (nle7 rfl) (by decide) rfl, fun _ => astep_nilr rfl, fun _ => astep_load rfl ti3 (by decide) rfl (nle7 rfl) rfl, fun _ => astep_move rfl, fun _ => astep_nilr rfl, fun _ => astep_load rfl ti3 (by decide) rfl (nle7 rfl) rfl, fun _ => astep_bin rfl rfl, fun _ => astep_nilr rfl, fun _ => astep_store rfl ti3 (by rfl) rfl (nle7 rfl) rfl, trivial⟩
  refine blockA_n ?_
  refine thenA_n ?_
  refine awp_reg1 [⟨[(.tmp 6, I 1), (.const (.int .i64 1), I 1)], [], I 2, [], false⟩, ⟨[(.tmp 20, I 2)], [], I 2, [], false⟩] (by exact ⟨by kernel_rfl, by kernel_rfl⟩) ?_ ?_
  · exact ⟨fun _ => astep_bin rfl rfl, fun _ => astep_move rfl, trivial⟩
  refine thenA_n ?_
  refine around ?_
  refine awp_reg [⟨[(.tmp 6, I 2), (.const (.int .i64 4), I 4)], [], B true, [], false⟩] (by exact ⟨by kernel_rfl, by kernel_rfl⟩) ?_ ?_
  · exact ⟨fun _ => astep_bin rfl rfl, trivial⟩
  refine awp_seq ?_
  refine awp_true (by kernel_rfl) ?_
  refine awp_skip ?_
  refine thenA_n ?_
  refine awp_seq ?_
  refine awp_block ?_
  refine awp_reg [⟨[(.tmp 6, I 2)], [], I 2, [], false⟩, ⟨[(.tmp 5, (.agg [.ref 1 4 0 0, .ref 1 4 0 1, .ref 1 4 0 2, .ref 1 4 0 3])), (.tmp 6, I 2)], [], .ref 1 4 0 2, [], false⟩, ⟨[(.tmp 8, I 2)], [], I 2, [], false⟩, ⟨[(.tmp 9, .ref 1 4 0 2)], [], .ref 1 4 0 2, [], false⟩] (by exact ⟨by kernel_rfl, by kernel_rfl⟩) ?_ ?_
  · exact ⟨fun _ => astep_move rfl, fun _ => astep_index rfl Try.underlying142 ti141 (by decide) (by decide) (nle7 rfl) (by decide) rfl, fun _ => astep_assign rfl, fun _ => astep_assign rfl, trivial⟩
  obtain ⟨x8, hf7, h⟩ := bind_out h
  refine awp_regd1 [⟨[(.func 90, (.fn (.func 90) [] [])), (.tmp 1, .ref 0 4 0 0)], [(0, (.own 4 [[(I ((w64 (p1 + p0.Mass)))), (I (w64 (p2 + p0.Heat))), I p3, I p4]])), (5, .unused)], (.agg [.ref 0 4 0 0, .ref 0 4 0 1, .ref 0 4 0 2, .ref 0 4 0 3]), [(0, (.own 4 [[(I ((w64 (p1 + p0.Mass)))), (I ((w64 (p2 + p0.Heat)))), I p3, I p4]])), (5, .own 4 [[.ref 0 4 0 0, .ref 0 4 0 1, .ref 0 4 0 2, .ref 0 4 0 3]])], false⟩, ⟨[(.tmp 3, I 2)], [], I 2, [], false⟩, ⟨[(.tmp 10, (.agg [.ref 0 4 0 0, .ref 0 4 0 1, .ref 0 4 0 2, .ref 0 4 0 3])), (.tmp 11, I 2)], [], .ref 0 4 0 2, [], false⟩, ⟨[(.tmp 12, .ref 0 4 0 2)], [(0, (.own 4 [[(I ((w64 (p1 + p0.Mass)))), (I ((w64 (p2 + p0.Heat)))), I p3, I p4]]))], .ref 0 4 0 2, [], false⟩, ⟨[(.tmp 13, .ref 0 4 0 2)], [(0, (.own 4 [[(I ((w64 (p1 + p0.Mass)))), (I ((w64 (p2 + p0.Heat)))), I p3, I p4]]))], I p3, [], false⟩, ⟨[(.tmp 4, .ref 1 4 0 2)], [], .ref 1 4 0 2, [], false⟩, ⟨[(.tmp 15, .ref 1 4 0 2)], [(1, .own 4 [[I p0.Mass, I p0.Heat, I p0.Silica, I p0.Gas]])], .ref 1 4 0 2, [], false⟩, ⟨[(.tmp 16, .ref 1 4 0 2)], [(1, .own 4 [[I p0.Mass, I p0.Heat, I p0.Silica, I p0.Gas]])], I p0.Silica, [], false⟩, ⟨[(.tmp 14, I p3), (.tmp 17, I p0.Silica)], [], (I (w64 (p3 + p0.Silica))), [], false⟩, ⟨[(.tmp 12, .ref 0 4 0 2)], [(0, (.own 4 [[(I ((w64 (p1 + p0.Mass)))), (I ((w64 (p2 + p0.Heat)))), I p3, I p4]]))], .ref 0 4 0 2, [], false⟩, ⟨[(.tmp 19, .ref 0 4 0 2), (.tmp 18, (I (w64 (p3 + p0.Silica))))], [(0, (.own 4 [[(I ((w64 (p1 + p0.Mass)))), (I ((w64 (p2 + p0.Heat)))), I p3, I p4]]))], .any, [(0, (.own 4 [[(I ((w64 (p1 + p0.Mass)))), (I ((w64 (p2 + p0.Heat)))), (I (w64 (p3 + p0.Silica))), I p4]]))], false⟩] (by kernel_rfl) (by exact ⟨by kernel_rfl, by kernel_rfl⟩) (by kernel_rfl) ?_ ?_
  · exact ⟨fun _ => astep_callq (first := []) (cap := []) (vs := [.ref 0 4 0 0]) (σr := [(.own 4 [[(I ((w64 (p1 + p0.Mass)))), (I (w64 (p2 + p0.Heat))), I p3, I p4]])]) (σr' := [(.own 4 [[(I ((w64 (p1 + p0.Mass)))), (I ((w64 (p2 + p0.Heat)))), I p3, I p4]]), (.own 4 [[.ref 0 4 0 0, .ref 0 4 0 1, .ref 0 4 0 2, .ref 0 4 0 3]])]) (res' := (.agg [.ref 0 4 0 0, .ref 0 4 0 1, .ref 0 4 0 2, .ref 0 4 0 3])) [0, 5] rfl enter90 (steam_Stream_numbersX_1_ok N (w64 (p1 + p0.Mass)) (w64 (p2 + p0.Heat)) p3 p4 _ hf7) rfl (rn_agg (rnl_cons (rnk_ref rfl) rnl_nil)) (slw_cons (srn_box (rnl_cons (.plain _ (NLt.lit _)) (rnl_cons (.plain _ (NLt.lit _)) (rnl_cons (.plain _ (NLt.lit _)) (rnl_cons (.plain _ (NLt.lit _)) rnl_nil))))) slw_nil) (slw_cons (srn_box (rnl_cons (.plain _ (NLt.lit _)) (rnl_cons (.plain _ (NLt.lit _)) (rnl_cons (.plain _ (NLt.lit _)) (rnl_cons (.plain _ (NLt.lit _)) rnl_nil))))) (slw_cons (srn_box (rnl_cons (rnj_ref rfl) (rnl_cons (rnj_ref rfl) (rnl_cons (rnj_ref rfl) (rnl_cons (rnj_ref rfl) rnl_nil))))) slw_nil)) (rn_agg (rnl_cons (rnj_ref rfl) (rnl_cons (rnj_ref rfl) (rnl_cons (rnj_ref rfl) (rnl_cons (rnj_ref rfl) rnl_nil))))) rfl rfl rfl, fun _ => astep_move rfl, fun _ => astep_index rfl Try.underlying142 ti141 (by decide) (by decide) (nle7 rfl) (by decide) rfl, fun _ => astep_nilr rfl, fun _ => astep_load rfl ti3 (by decide) rfl (nle7 rfl) rfl, fun _ => astep_move rfl, fun _ => astep_nilr rfl, fun _ => astep_load rfl ti3 (by decide) rfl (nle7 rfl) rfl, fun _ => astep_bin rfl rfl, fun _ => astep_nilr rfl, fun _ => astep_store rfl ti3 (by rfl) rfl (nle7 rfl) rfl, trivial⟩
  refine blockA_n ?_
  refine thenA_n ?_
  refine awp_reg1 [⟨[(.tmp 6, I 2), (.const (.int .i64 1), I 1)], [], I 3, [], false⟩, ⟨[(.tmp 20, I 3)], [], I 3, [], false⟩] (by exact ⟨by kernel_rfl, by kernel_rfl⟩) ?_ ?_
  · exact ⟨fun _ => astep_bin rfl rfl, fun _ => astep_move rfl, trivial⟩
  refine thenA_n ?_
  refine around ?_
  refine awp_reg [⟨[(.tmp 6, I 3), (.const (.int .i64 4), I 4)], [], B true, [], false⟩] (by exact ⟨by kernel_rfl, by kernel_rfl⟩) ?_ ?_
  · exact ⟨fun _ => astep_bin rfl rfl, trivial⟩
  refine awp_seq ?_
  refine awp_true (by kernel_rfl) ?_
  refine awp_skip ?_
  refine thenA_n ?_
  refine awp_seq ?_
  refine awp_block ?_
  refine awp_reg [⟨[(.tmp 6, I 3)], [], I 3, [], false⟩, ⟨[(.tmp 5, (.agg [.ref 1 4 0 0, .ref 1 4 0 1, .ref 1 4 0 2, .ref 1 4 0 3])), (.tmp 6, I 3)], [], .ref 1 4 0 3, [], false⟩, ⟨[(.tmp 8, I 3)], [], I 3, [], false⟩, ⟨[(.tmp 9, .ref 1 4 0 3)], [], .ref 1 4 0 3, [], false⟩] (by exact ⟨by kernel_rfl, by kernel_rfl⟩) ?_ ?_
  · exact ⟨fun _ => astep_move rfl, fun _ => astep_index rfl Try.underlying142 ti141 (by decide) (by decide) (nle7 rfl) (by decide) rfl, fun _ => astep_assign rfl, fun _ => astep_assign rfl, trivial⟩
  obtain ⟨x10, hf9, h⟩ := bind_out h
  refine awp_regd1 [⟨[(.func 90, (.fn (.func 90) [] [])), (.tmp 1, .ref 0 4 0 0)], [(0, (.own 4 [[(I ((w64 (p1 + p0.Mass)))), (I ((w64 (p2 + p0.Heat)))), (I (w64 (p3 + p0.Silica))), I p4]])), (6, .unused)], (.agg [.ref 0 4 0 0, .ref 0 4 0 1, .ref 0 4 0 2, .ref 0 4 0 3]), [(0, (.own 4 [[(I ((w64 (p1 + p0.Mass)))), (I ((w64 (p2 + p0.Heat)))), (I ((w64 (p3 + p0.Silica)))), I p4]])), (6, .own 4 [[.ref 0 4 0 0, .ref 0 4 0 1, .ref 0 4 0 2, .ref 0 4 0 3]])], false⟩, ⟨[(.tmp 3, I 3)], [], I 3, [], false⟩, ⟨[(.tmp 10, (.agg [.ref 0 4 0 0, .ref 0 4 0 1, .ref 0 4 0 2, .ref 0 4 0 3])), (.tmp 11, I 3)], [], .ref 0 4 0 3, [], false⟩, ⟨[(.tmp 12, .ref 0 4 0 3)], [(0, (.own 4 [[(I ((w64 (p1 + p0.Mass)))), (I ((w64 (p2 + p0.Heat)))), (I ((w64 (p3 + p0.Silica)))), I p4]]))], .ref 0 4 0 3, [], false⟩, ⟨[(.tmp 13, .ref 0 4 0 3)], [(0, (.own 4 [[(I ((w64 (p1 + p0.Mass)))), (I ((w64 (p2 + p0.Heat)))), (I ((w64 (p3 + p0.Silica)))), I p4]]))], I p4, [], false⟩, ⟨[(.tmp 4, .ref 1 4 0 3)], [], .ref 1 4 0 3, [], false⟩, ⟨[(.tmp 15, .ref 1 4 0 3)], [(1, .own 4 [[I p0.Mass, I p0.Heat, I p0.Silica, I p0.Gas]])], .ref 1 4 0 3, [], false⟩, ⟨[(.tmp 16, .ref 1 4 0 3)], [(1, .own 4 [[I p0.Mass, I p0.Heat, I p0.Silica, I p0.Gas]])], I p0.Gas, [], false⟩, ⟨[(.tmp 14, I p4), (.tmp 17, I p0.Gas)], [], (I (w64 (p4 + p0.Gas))), [], false⟩, ⟨[(.tmp 12, .ref 0 4 0 3)], [(0, (.own 4 [[(I ((w64 (p1 + p0.Mass)))), (I ((w64 (p2 + p0.Heat)))), (I ((w64 (p3 + p0.Silica)))), I p4]]))], .ref 0 4 0 3, [], false⟩, ⟨[(.tmp 19, .ref 0 4 0 3), (.tmp 18, (I (w64 (p4 + p0.Gas))))], [(0, (.own 4 [[(I ((w64 (p1 + p0.Mass)))), (I ((w64 (p2 + p0.Heat)))), (I ((w64 (p3 + p0.Silica)))), I p4]]))], .any, [(0, (.own 4 [[(I ((w64 (p1 + p0.Mass)))), (I ((w64 (p2 + p0.Heat)))), (I ((w64 (p3 + p0.Silica)))), (I (w64 (p4 + p0.Gas)))]]))], false⟩] (by kernel_rfl) (by exact ⟨by kernel_rfl, by kernel_rfl⟩) (by kernel_rfl) ?_ ?_
  · exact ⟨fun _ => astep_callq (first := []) (cap := []) (vs := [.ref 0 4 0 0]) (σr := [(.own 4 [[(I ((w64 (p1 + p0.Mass)))), (I ((w64 (p2 + p0.Heat)))), (I (w64 (p3 + p0.Silica))), I p4]])]) (σr' := [(.own 4 [[(I ((w64 (p1 + p0.Mass)))), (I ((w64 (p2 + p0.Heat)))), (I ((w64 (p3 + p0.Silica)))), I p4]]), (.own 4 [[.ref 0 4 0 0, .ref 0 4 0 1, .ref 0 4 0 2, .ref 0 4 0 3]])]) (res' := (.agg [.ref 0 4 0 0, .ref 0 4 0 1, .ref 0 4 0 2, .ref 0 4 0 3])) [0, 6] rfl enter90 (steam_Stream_numbersX_1_ok N (w64 (p1 + p0.Mass)) (w64 (p2 + p0.Heat)) (w64 (p3 + p0.Silica)) p4 _ hf9) rfl (rn_agg (rnl_cons (rnk_ref rfl) rnl_nil)) (slw_cons (srn_box (rnl_cons (.plain _ (NLt.lit _)) (rnl_cons (.plain _ (NLt.lit _)) (rnl_cons (.plain _ (NLt.lit _)) (rnl_cons (.plain _ (NLt.lit _)) rnl_nil))))) slw_nil) (slw_cons (srn_box (rnl_cons (.plain _ (NLt.lit _)) (rnl_cons (.plain _ (NLt.lit _)) (rnl_cons (.plain _ (NLt.lit _)) (rnl_cons (.plain _ (NLt.lit _)) rnl_nil))))) (slw_cons (srn_box (rnl_cons (rnj_ref rfl) (rnl_cons (rnj_ref rfl) (rnl_cons (rnj_ref rfl) (rnl_cons (rnj_ref rfl) rnl_nil))))) slw_nil)) (rn_agg (rnl_cons (rnj_ref rfl) (rnl_cons (rnj_ref rfl) (rnl_cons (rnj_ref rfl) (rnl_cons (rnj_ref rfl) rnl_nil))))) rfl rfl rfl, fun _ => astep_move rfl, fun _ => astep_index rfl Try.underlying142 ti141 (by decide) (by decide) (nle7 rfl) (by decide) rfl, fun _ => astep_nilr rfl, fun _ => astep_load rfl ti3 (by decide) rfl (nle7 rfl) rfl, fun _ => astep_move rfl, fun _ => astep_nilr rfl, fun _ => astep_load rfl ti3 (by decide) rfl (nle7 rfl) rfl, fun _ => astep_bin rfl rfl, fun _ => astep_nilr rfl, fun _ => astep_store rfl ti3 (by rfl) rfl (nle7 rfl) rfl, trivial⟩
  refine blockA_n ?_
  refine thenA_n ?_
  refine awp_reg1 [⟨[(.tmp 6, I 3), (.const (.int .i64 1), I 1)], [], I 4, [], false⟩, ⟨[(.tmp 20, I 4)], [], I 4, [], false⟩] (by exact ⟨by kernel_rfl, by kernel_rfl⟩) ?_ ?_
  · exact ⟨fun _ => astep_bin rfl rfl, fun _ => astep_move rfl, trivial⟩
  refine thenA_n ?_
  refine around ?_
  refine awp_reg [⟨[(.tmp 6, I 4), (.const (.int .i64 4), I 4)], [], B false, [], false⟩] (by exact ⟨by kernel_rfl, by kernel_rfl⟩) ?_ ?_
  · exact ⟨fun _ => astep_bin rfl rfl, trivial⟩
  refine awp_seq ?_
  refine awp_false (by kernel_rfl) ?_
  refine awp_exit ?_
  refine thenA_x ?_
  refine thenA_x ?_
  refine blockA_e rfl ?_
  obtain rfl := Option.some.inj h
  exact ⟨_, (mor_to (n := 21) (l' := []) (own' := [(.own 4 [[(I ((w64 (p1 + p0.Mass)))), (I ((w64 (p2 + p0.Heat)))), (I ((w64 (p3 + p0.Silica)))), (I (w64 (p4 + p0.Gas)))]])]) [] [0] [(.own 4 [[(I ((w64 (p1 + p0.Mass)))), (I ((w64 (p2 + p0.Heat)))), (I ((w64 (p3 + p0.Silica)))), (I (w64 (p4 + p0.Gas)))]])] hφ0 (by kernel_rfl) (by kernel_rfl) (by kernel_rfl) trivial ⟨(spw_box ⟨(.rn (.plain _ (NLt.lit _))), (.rn (.plain _ (NLt.lit _))), (.rn (.plain _ (NLt.lit _))), (.rn (.plain _ (NLt.lit _))), trivial⟩), trivial⟩), fin_of (vs := []) trivial rfl (NLt.tup _ nl_nil) (by kernel_rfl) (snl_cons (snl_box (nl_cons (NLt.of0 (NLt.lit _)) (nl_cons (NLt.of0 (NLt.lit _)) (nl_cons (NLt.of0 (NLt.lit _)) (nl_cons (NLt.of0 (NLt.lit _)) nl_nil))))) snl_nil)⟩

def steam_sumX_loop1 (N : Nat) (p0 : (List GStream)) (k5 : Int × Int × Int × Int → Option GStream) : Nat → Int → Int → Int → Int → Int → Option GStream
  | 0, _, _, _, _, _ => none
  | n16 + 1, y6, y7, y8, y9, y10 =>
    bif (decide (y6 < (p0.length : Int))) then
      (getI p0 y6).bind fun x18 =>
      (steam_sum_1X_1 N x18 y7 y8 y9 y10).bind fun _ =>
      steam_sumX_loop1 N p0 k5 n16 (w64 (y6 + 1)) (w64 (y7 + x18.Mass)) (w64 (y8 + x18.Heat)) (w64 (y9 + x18.Silica)) (w64 (y10 + x18.Gas))
    else
      k5 (y7, y8, y9, y10)
def steam_sumX (N : Nat) (p0 : (List GStream)) : Option GStream :=
  joinK (fun ⟨y1, y2, y3, y4⟩ =>
      some (⟨y1, y2, y3, y4⟩ : GStream)) fun k5 : Int × Int × Int × Int → Option GStream =>
  steam_sumX_loop1 N p0 k5 N 0 0 0 0 0
set_option maxRecDepth 100000 in
set_option maxHeartbeats 4000000 in
theorem steam_sumX_ok (N : Nat) (p0 : (List GStream)) (r : GStream) (h : steam_sumX N p0 = some r) : Spec Try.prog 71 [(.dat 4 (p0.map c_GStream))] [] (.agg (c_GStream r)) [] := by
  refine spec_of_awp Try.func71 rfl 0 (nle7 rfl) (fun X φ0 w0 hφ0 => ?_)
  unfold steam_sumX at h
  refine awp_reg [⟨[], [(0, .unused)], .ref 0 4 0 0, [(0, .own 4 [[I 0, I 0, I 0, I 0]])], false⟩] (by exact ⟨by kernel_rfl, by kernel_rfl⟩) ?_ ?_
  · exact ⟨fun _ => astep_alloc rfl tz42 rfl, trivial⟩
  refine awp_reg [⟨[(.tmp 2, .ref 0 4 0 0)], [], (.fn (.func 89) [] [.ref 0 4 0 0]), [], false⟩, ⟨[(.tmp 6, (.fn (.func 89) [] [.ref 0 4 0 0]))], [], (.fn (.func 89) [] [.ref 0 4 0 0]), [], false⟩] (by exact ⟨by kernel_rfl, by kernel_rfl⟩) ?_ ?_
  · exact ⟨fun _ => astep_func (fs := []) (cs := [.ref 0 4 0 0]) rfl rfl rfl rfl, fun _ => astep_assign rfl, trivial⟩
  obtain ⟨k5, hk_k5, h⟩ := joinK_out h
  refine awp_join (τ := Int × Int × Int × Int) (fun t => k5 t = some r) (fun ⟨y1, y2, y3, y4⟩ => ⟨mk 18 [(2, .ref 0 4 0 0)], [(.own 4 [[I y1, I y2, I y3, I y4]])]⟩) (fun t h => ?_) ?_
  · subst hk_k5
    obtain ⟨y1, y2, y3, y4⟩ := t
    refine awp_reg [⟨[(.tmp 2, .ref 0 4 0 0)], [(0, .own 4 [[I y1, I y2, I y3, I y4]])], (.agg [I y1, I y2, I y3, I y4]), [], false⟩, ⟨[(.tmp 2, .ref 0 4 0 0), (.tmp 17, (.agg [I y1, I y2, I y3, I y4]))], [(0, .own 4 [[I y1, I y2, I y3, I y4]])], .any, [(0, .own 4 [[I y1, I y2, I y3, I y4]])], false⟩] (by exact ⟨by kernel_rfl, by kernel_rfl⟩) ?_ ?_
    · exact ⟨fun _ => astep_load rfl ti42 (by decide) rfl (nle7 rfl) rfl, fun _ => astep_store rfl ti42 (by rfl) rfl (nle7 rfl) rfl, trivial⟩
    refine awp_ret ?_
    obtain rfl := Option.some.inj h
    exact ⟨⟨[(.agg [I y1, I y2, I y3, I y4])], ⟨resOK_cell (n := 0) (m := 4) (j := 0) (i := 0) (xs := [[I y1, I y2, I y3, I y4]]) (by kernel_rfl) (by kernel_rfl) ti42 (by decide) rfl (nle7 rfl) rfl, trivial⟩, rfl⟩, (NLt.agg _ (nl_cons (NLt.lit _) (nl_cons (NLt.lit _) (nl_cons (NLt.lit _) (nl_cons (NLt.lit _) nl_nil))))), Nat.le_refl _, fun n hn => absurd hn (Nat.not_lt_zero n)⟩
  · skip
    refine awp_reg [⟨[(.tmp 0, (.dat 4 ((p0 : List GStream).map c_GStream)))], [], (.dat 4 ((p0 : List GStream).map c_GStream)), [], false⟩, ⟨[(.tmp 7, (.dat 4 ((p0 : List GStream).map c_GStream)))], [], (I ((p0.length : Int))), [], false⟩, ⟨[(.const (.int .i64 0), I 0)], [], I 0, [], false⟩] (by exact ⟨by kernel_rfl, by kernel_rfl⟩) ?_ ?_
    · exact ⟨fun _ => astep_move rfl, fun _ => astep_lenm (c := c_GStream) (l := p0) (astep_len rfl Try.underlying32 rfl), fun _ => astep_move rfl, trivial⟩
    refine awp_block ?_
    refine awp_mor (mor_to (n := 18) (l' := [(2, .ref 0 4 0 0), (3, (.fn (.func 89) [] [.ref 0 4 0 0])), (7, (.dat 4 ((p0 : List GStream).map c_GStream))), (8, (I ((p0.length : Int)))), (9, I 0)]) (own' := [(.own 4 [[I 0, I 0, I 0, I 0]])]) [(2, .ref 0 4 0 0), (3, (.fn (.func 89) [] [.ref 0 4 0 0])), (7, (.dat 4 ((p0 : List GStream).map c_GStream))), (8, (I ((p0.length : Int)))), (9, I 0)] [0] [(.own 4 [[I 0, I 0, I 0, I 0]])] hφ0 (by kernel_rfl) (by kernel_rfl) (by kernel_rfl) ⟨rfl, .rn (rnq_ref rfl), rfl, .rn (rn_fn rnl_nil (rnl_cons (rnq_ref rfl) rnl_nil)), rfl, .rn (.plain _ (nl_dat nl_GStream _)), rfl, .rn (.plain _ (NLt.lit _)), rfl, .rn (.plain _ (NLt.lit _)), trivial⟩ ⟨(spw_box ⟨(.rn (.plain _ (NLt.lit _))), (.rn (.plain _ (NLt.lit _))), (.rn (.plain _ (NLt.lit _))), (.rn (.plain _ (NLt.lit _))), trivial⟩), trivial⟩) ?_
    refine awp_ind (τ := Int × Int × Int × Int × Int) (fun n t => steam_sumX_loop1 N p0 k5 n t.1 t.2.1 t.2.2.1 t.2.2.2.1 t.2.2.2.2 = some r) (fun ⟨y6, y7, y8, y9, y10⟩ => ⟨mk 18 [(2, .ref 0 4 0 0), (3, (.fn (.func 89) [] [.ref 0 4 0 0])), (7, (.dat 4 ((p0 : List GStream).map c_GStream))), (8, (I ((p0.length : Int)))), (9, I y6)], [(.own 4 [[I y7, I y8, I y9, I y10]])]⟩) (fun t h => by rw [steam_sumX_loop1] at h; cases h) (fun n16 ih t h => ?_) N (0, 0, 0, 0, 0) h
    obtain ⟨y6, y7, y8, y9, y10⟩ := t
    rw [steam_sumX_loop1] at h
    skip
    refine awp_reg [⟨[(.tmp 9, I y6), (.tmp 8, (I ((p0.length : Int))))], [], (B ((decide (y6 < (p0.length : Int))))), [], false⟩] (by exact ⟨by kernel_rfl, by kernel_rfl⟩) ?_ ?_
    · exact ⟨fun _ => astep_bin rfl rfl, trivial⟩
    refine awp_seq ?_
    rcases Bool.eq_false_or_eq_true ((decide (y6 < (p0.length : Int)))) with hc17 | hc17
    · replace h := bif_t hc17 h
      refine awp_ift hc17 (by kernel_rfl) ?_
      refine awp_skip ?_
      refine thenA_n ?_
      refine awp_seq ?_
      refine awp_block ?_
      obtain ⟨x18, hg19, h⟩ := bind_out h
      obtain ⟨hi20, hj21⟩ := getI_some hg19
      refine awp_reg [⟨[(.tmp 7, (.dat 4 ((p0 : List GStream).map c_GStream))), (.tmp 9, I y6)], [], (.dptr (c_GStream (x18)) 0), [], false⟩, ⟨[(.tmp 11, (.dptr (c_GStream (x18)) 0))], [], (.agg [I x18.Mass, I x18.Heat, I x18.Silica, I x18.Gas]), [], false⟩, ⟨[], [(1, .unused)], .ref 1 4 0 0, [(1, .own 4 [[I 0, I 0, I 0, I 0]])], false⟩, ⟨[(.tmp 5, .ref 1 4 0 0), (.tmp 12, (.agg [I x18.Mass, I x18.Heat, I x18.Silica, I x18.Gas]))], [(1, .own 4 [[I 0, I 0, I 0, I 0]])], .any, [(1, .own 4 [[I x18.Mass, I x18.Heat, I x18.Silica, I x18.Gas]])], false⟩] (by exact ⟨by kernel_rfl, by kernel_rfl⟩) ?_ ?_
      · exact ⟨fun _ => astep_idxd rfl Try.underlying32 ti42 rfl rfl hi20 (map_get c_GStream hj21) rfl, fun _ => astep_loadd rfl ti42 (by decide) (nle7 rfl) rfl, fun _ => astep_alloc rfl tz42 rfl, fun _ => astep_store rfl ti42 (by rfl) rfl (nle7 rfl) rfl, trivial⟩
      obtain ⟨x23, hf22, h⟩ := bind_out h
      refine awp_reg1 [⟨[(.tmp 3, (.fn (.func 89) [] [.ref 0 4 0 0]))], [], (.fn (.func 89) [] [.ref 0 4 0 0]), [], false⟩, ⟨[(.tmp 5, .ref 1 4 0 0)], [(1, .own 4 [[I x18.Mass, I x18.Heat, I x18.Silica, I x18.Gas]])], (.agg [I x18.Mass, I x18.Heat, I x18.Silica, I x18.Gas]), [], false⟩, ⟨[(.tmp 13, (.fn (.func 89) [] [.ref 0 4 0 0])), (.tmp 14, (.agg [I x18.Mass, I x18.Heat, I x18.Silica, I x18.Gas]))], [(0, .own 4 [[I y7, I y8, I y9, I y10]])], (.tup []), [(0, (.own 4 [[(I ((w64 (y7 + x18.Mass)))), (I ((w64 (y8 + x18.Heat)))), (I ((w64 (y9 + x18.Silica)))), (I (w64 (y10 + x18.Gas)))]]))], false⟩] (by exact ⟨by kernel_rfl, by kernel_rfl⟩) ?_ ?_
      · exact ⟨fun _ => astep_move rfl, fun _ => astep_load rfl ti42 (by decide) rfl (nle7 rfl) rfl, fun _ => astep_callq (first := []) (cap := [.ref 0 4 0 0]) (vs := [(.agg [I x18.Mass, I x18.Heat, I x18.Silica, I x18.Gas])]) (σr := [(.own 4 [[I y7, I y8, I y9, I y10]])]) (σr' := [(.own 4 [[(I ((w64 (y7 + x18.Mass)))), (I ((w64 (y8 + x18.Heat)))), (I ((w64 (y9 + x18.Silica)))), (I (w64 (y10 + x18.Gas)))]])]) (res' := (.tup [])) [0] rfl enter89 (steam_sum_1X_1_ok N x18 y7 y8 y9 y10 _ hf22) rfl (rn_agg (rnl_cons (.plain _ (NLt.agg _ (nl_cons (NLt.lit _) (nl_cons (NLt.lit _) (nl_cons (NLt.lit _) (nl_cons (NLt.lit _) nl_nil)))))) (rnl_cons (rnk_ref rfl) rnl_nil))) (slw_cons (srn_box (rnl_cons (.plain _ (NLt.lit _)) (rnl_cons (.plain _ (NLt.lit _)) (rnl_cons (.plain _ (NLt.lit _)) (rnl_cons (.plain _ (NLt.lit _)) rnl_nil))))) slw_nil) (slw_cons (srn_box (rnl_cons (.plain _ (NLt.lit _)) (rnl_cons (.plain _ (NLt.lit _)) (rnl_cons (.plain _ (NLt.lit _)) (rnl_cons (.plain _ (NLt.lit _)) rnl_nil))))) slw_nil) (.plain _ (NLt.tup _ nl_nil)) rfl rfl rfl, trivial⟩
      refine blockA_n ?_
      refine thenA_n ?_
      refine awp_reg1 [⟨[(.tmp 9, I y6), (.const (.int .i64 1), I 1)], [], (I (w64 (y6 + 1))), [], false⟩, ⟨[(.tmp 16, (I (w64 (y6 + 1))))], [], (I (w64 (y6 + 1))), [], false⟩] (by exact ⟨by kernel_rfl, by kernel_rfl⟩) ?_ ?_
      · exact ⟨fun _ => astep_bin rfl rfl, fun _ => astep_move rfl, trivial⟩
      refine thenA_n ?_
      exact around_mor (mor_to (n := 18) (l' := [(2, .ref 0 4 0 0), (3, (.fn (.func 89) [] [.ref 0 4 0 0])), (7, (.dat 4 ((p0 : List GStream).map c_GStream))), (8, (I ((p0.length : Int)))), (9, (I ((w64 (y6 + 1)))))]) (own' := [(.own 4 [[(I ((w64 (y7 + x18.Mass)))), (I ((w64 (y8 + x18.Heat)))), (I ((w64 (y9 + x18.Silica)))), (I ((w64 (y10 + x18.Gas))))]])]) [(2, .ref 0 4 0 0), (3, (.fn (.func 89) [] [.ref 0 4 0 0])), (7, (.dat 4 ((p0 : List GStream).map c_GStream))), (8, (I ((p0.length : Int)))), (9, (I (w64 (y6 + 1))))] [0] [(.own 4 [[(I ((w64 (y7 + x18.Mass)))), (I ((w64 (y8 + x18.Heat)))), (I ((w64 (y9 + x18.Silica)))), (I (w64 (y10 + x18.Gas)))]])] hφ0 (by kernel_rfl) (by kernel_rfl) (by kernel_rfl) ⟨rfl, .rn (rnq_ref rfl), rfl, .rn (rn_fn rnl_nil (rnl_cons (rnq_ref rfl) rnl_nil)), rfl, .rn (.plain _ (nl_dat nl_GStream _)), rfl, .rn (.plain _ (NLt.lit _)), rfl, .rn (.plain _ (NLt.lit _)), trivial⟩ ⟨(spw_box ⟨(.rn (.plain _ (NLt.lit _))), (.rn (.plain _ (NLt.lit _))), (.rn (.plain _ (NLt.lit _))), (.rn (.plain _ (NLt.lit _))), trivial⟩), trivial⟩) (ih (w64 (y6 + 1), (w64 (y7 + x18.Mass)), (w64 (y8 + x18.Heat)), (w64 (y9 + x18.Silica)), w64 (y10 + x18.Gas)) h)
    · replace h := bif_f hc17 h
      refine awp_ifn hc17 (by kernel_rfl) ?_
      refine awp_exit ?_
      refine thenA_x ?_
      refine thenA_x ?_
      refine blockA_e rfl ?_
      refine thenA_n ?_
      exact ⟨(y7, y8, y9, y10), h, (mor_to (n := 18) (l' := [(2, .ref 0 4 0 0)]) (own' := [(.own 4 [[I y7, I y8, I y9, I y10]])]) [(2, .ref 0 4 0 0)] [0] [(.own 4 [[I y7, I y8, I y9, I y10]])] hφ0 (by kernel_rfl) (by kernel_rfl) (by kernel_rfl) ⟨rfl, .rn (rnq_ref rfl), trivial⟩ ⟨(spw_box ⟨(.rn (.plain _ (NLt.lit _))), (.rn (.plain _ (NLt.lit _))), (.rn (.plain _ (NLt.lit _))), (.rn (.plain _ (NLt.lit _))), trivial⟩), trivial⟩)⟩

def steam_MixX (N : Nat) (p0 : (List GStream)) : Option (GStream × Int) :=
  (steam_checkedX N p0).bind fun x2 =>
  bif (x2 != 0) then
    some ((⟨0, 0, 0, 0⟩ : GStream), x2)
  else
    (steam_sumX N p0).bind fun x5 =>
    bif (decide (x5.Mass > 1000000)) then
      some ((⟨0, 0, 0, 0⟩ : GStream), 3)
    else
      bif (decide (x5.Gas > 1000000000)) then
        some ((⟨0, 0, 0, 0⟩ : GStream), 3)
      else
        some (x5, 0)
set_option maxRecDepth 100000 in
set_option maxHeartbeats 4000000 in
theorem steam_MixX_ok (N : Nat) (p0 : (List GStream)) (r : (GStream × Int)) (h : steam_MixX N p0 = some r) : Spec Try.prog 32 [(.dat 4 (p0.map c_GStream))] [] (.tup [(.agg (c_GStream r.1)), (I r.2)]) [] := by
  refine spec_of_awp Try.func32 rfl 0 (nle7 rfl) (fun X φ0 w0 hφ0 => ?_)
  unfold steam_MixX at h
  refine awp_reg [⟨[], [(0, .unused)], .ref 0 4 0 0, [(0, .own 4 [[I 0, I 0, I 0, I 0]])], false⟩, ⟨[(.const (.int .i64 0), I 0)], [], I 0, [], false⟩] (by exact ⟨by kernel_rfl, by kernel_rfl⟩) ?_ ?_
  · exact ⟨fun _ => astep_alloc rfl tz42 rfl, fun _ => astep_assign rfl, trivial⟩
  refine awp_seq ?_
  obtain ⟨x2, hf1, h⟩ := bind_out h
  refine awp_reg [⟨[(.tmp 0, (.dat 4 ((p0 : List GStream).map c_GStream)))], [], (.dat 4 ((p0 : List GStream).map c_GStream)), [], false⟩, ⟨[(.func 57, (.fn (.func 57) [] [])), (.tmp 6, (.dat 4 ((p0 : List GStream).map c_GStream)))], [], I x2, [], false⟩, ⟨[(.tmp 7, I x2)], [], I x2, [], false⟩] (by exact ⟨by kernel_rfl, by kernel_rfl⟩) ?_ ?_
  · exact ⟨fun _ => astep_move rfl, fun _ => astep_pcall (first := []) (cap := []) (vs := [(.dat 4 ((p0 : List GStream).map c_GStream))]) rfl enter57 (steam_checkedX_ok N p0 _ hf1) rfl rfl (nl_cons (nl_dat nl_GStream _) nl_nil) (NLt.lit _) rfl, fun _ => astep_assign rfl, trivial⟩
  refine awp_reg [⟨[(.tmp 4, I x2)], [], I x2, [], false⟩, ⟨[(.tmp 8, I x2), (.const (.int .i64 0), I 0)], [], (B ((x2 != 0))), [], false⟩] (by exact ⟨by kernel_rfl, by kernel_rfl⟩) ?_ ?_
  · exact ⟨fun _ => astep_move rfl, fun _ => astep_bin rfl rfl, trivial⟩
  rcases Bool.eq_false_or_eq_true ((x2 != 0)) with hc3 | hc3
  · replace h := bif_t hc3 h
    refine awp_ift hc3 (by kernel_rfl) ?_
    refine awp_reg [⟨[], [], (.agg [I 0, I 0, I 0, I 0]), [], false⟩, ⟨[(.tmp 4, I x2)], [], I x2, [], false⟩, ⟨[(.tmp 2, .ref 0 4 0 0), (.tmp 10, (.agg [I 0, I 0, I 0, I 0]))], [(0, .own 4 [[I 0, I 0, I 0, I 0]])], .any, [(0, .own 4 [[I 0, I 0, I 0, I 0]])], false⟩, ⟨[(.tmp 11, I x2)], [], I x2, [], false⟩] (by exact ⟨by kernel_rfl, by kernel_rfl⟩) ?_ ?_
    · exact ⟨fun _ => astep_build (vs := []) rfl ts42 tz42 rfl (by rfl) rfl, fun _ => astep_move rfl, fun _ => astep_store rfl ti42 (by rfl) rfl (nle7 rfl) rfl, fun _ => astep_assign rfl, trivial⟩
    refine awp_ret ?_
    refine thenA_r ?_
    obtain rfl := Option.some.inj h
    exact ⟨⟨[(.agg [I 0, I 0, I 0, I 0]), I x2], ⟨resOK_cell (n := 0) (m := 4) (j := 0) (i := 0) (xs := [[I 0, I 0, I 0, I 0]]) (by kernel_rfl) (by kernel_rfl) ti42 (by decide) rfl (nle7 rfl) rfl, resOK_tmp (by kernel_rfl), trivial⟩, rfl⟩, (NLt.tup _ (nl_cons (NLt.agg _ (nl_cons (NLt.lit _) (nl_cons (NLt.lit _) (nl_cons (NLt.lit _) (nl_cons (NLt.lit _) nl_nil))))) (nl_cons (NLt.lit _) nl_nil))), Nat.le_refl _, fun n hn => absurd hn (Nat.not_lt_zero n)⟩
  · replace h := bif_f hc3 h
    refine awp_ifn hc3 (by kernel_rfl) ?_
    refine awp_skip ?_
    refine thenA_n ?_
    obtain ⟨x5, hf4, h⟩ := bind_out h
    refine awp_reg [⟨[(.tmp 0, (.dat 4 ((p0 : List GStream).map c_GStream)))], [], (.dat 4 ((p0 : List GStream).map c_GStream)), [], false⟩, ⟨[(.func 71, (.fn (.func 71) [] [])), (.tmp 12, (.dat 4 ((p0 : List GStream).map c_GStream)))], [], (.agg [I x5.Mass, I x5.Heat, I x5.Silica, I x5.Gas]), [], false⟩, ⟨[], [(1, .unused)], .ref 1 4 0 0, [(1, .own 4 [[I 0, I 0, I 0, I 0]])], false⟩, ⟨[(.tmp 5, .ref 1 4 0 0), (.tmp 13, (.agg [I x5.Mass, I x5.Heat, I x5.Silica, I x5.Gas]))], [(1, .own 4 [[I 0, I 0, I 0, I 0]])], .any, [(1, .own 4 [[I x5.Mass, I x5.Heat, I x5.Silica, I x5.Gas]])], false⟩] (by exact ⟨by kernel_rfl, by kernel_rfl⟩) ?_ ?_
    · exact ⟨fun _ => astep_move rfl, fun _ => astep_pcall (first := []) (cap := []) (vs := [(.dat 4 ((p0 : List GStream).map c_GStream))]) rfl enter71 (steam_sumX_ok N p0 _ hf4) rfl rfl (nl_cons (nl_dat nl_GStream _) nl_nil) (NLt.agg _ (nl_cons (NLt.lit _) (nl_cons (NLt.lit _) (nl_cons (NLt.lit _) (nl_cons (NLt.lit _) nl_nil))))) rfl, fun _ => astep_alloc rfl tz42 rfl, fun _ => astep_store rfl ti42 (by rfl) rfl (nle7 rfl) rfl, trivial⟩
    refine awp_seq ?_
    rcases Bool.eq_false_or_eq_true ((decide (x5.Mass > 1000000))) with hb6 | hb6
    · replace h := bif_t hb6 h
      refine awp_reg [⟨[(.tmp 5, .ref 1 4 0 0)], [(1, .own 4 [[I x5.Mass, I x5.Heat, I x5.Silica, I x5.Gas]])], .ref 1 4 0 0, [], false⟩, ⟨[(.tmp 14, .ref 1 4 0 0)], [(1, .own 4 [[I x5.Mass, I x5.Heat, I x5.Silica, I x5.Gas]])], I x5.Mass, [], false⟩, ⟨[(.tmp 15, I x5.Mass), (.const (.int .i64 1000000), I 1000000)], [], (B ((decide (x5.Mass > 1000000)))), [], false⟩, ⟨[(.tmp 16, (B ((decide (x5.Mass > 1000000)))))], [], B true, [], false⟩, ⟨[(.tmp 17, B true)], [], (.lit undef), [], true⟩, ⟨[(.tmp 17, B true)], [], (.lit undef), [], true⟩, ⟨[(.tmp 17, B true)], [], (.lit undef), [], true⟩, ⟨[(.tmp 17, B true), (.const (.bool true), B true), (.tmp 20, (.lit undef))], [], B true, [], false⟩] (by exact ⟨by kernel_rfl, by kernel_rfl⟩) ?_ ?_
      · exact ⟨fun _ => astep_faddr rfl Try.underlying42 rfl rfl ti3 (by decide) rfl, fun _ => astep_load rfl ti3 (by decide) rfl (nle7 rfl) rfl, fun _ => astep_bin rfl rfl, fun _ => astep_b hb6 (astep_move rfl),
    fun hs => (Bool.noConfusion hs),
    fun hs => (Bool.noConfusion hs),
    fun hs => (Bool.noConfusion hs), fun _ => astep_pick rfl rfl, trivial⟩
      refine awp_true (by kernel_rfl) ?_
      refine awp_reg [⟨[], [], (.agg [I 0, I 0, I 0, I 0]), [], false⟩, ⟨[(.tmp 2, .ref 0 4 0 0), (.tmp 22, (.agg [I 0, I 0, I 0, I 0]))], [(0, .own 4 [[I 0, I 0, I 0, I 0]])], .any, [(0, .own 4 [[I 0, I 0, I 0, I 0]])], false⟩, ⟨[(.const (.int .i64 3), I 3)], [], I 3, [], false⟩] (by exact ⟨by kernel_rfl, by kernel_rfl⟩) ?_ ?_
      · exact ⟨fun _ => astep_build (vs := []) rfl ts42 tz42 rfl (by rfl) rfl, fun _ => astep_store rfl ti42 (by rfl) rfl (nle7 rfl) rfl, fun _ => astep_assign rfl, trivial⟩
      refine awp_ret ?_
      refine thenA_r ?_
      obtain rfl := Option.some.inj h
      exact ⟨⟨[(.agg [I 0, I 0, I 0, I 0]), I 3], ⟨resOK_cell (n := 0) (m := 4) (j := 0) (i := 0) (xs := [[I 0, I 0, I 0, I 0]]) (by kernel_rfl) (by kernel_rfl) ti42 (by decide) rfl (nle7 rfl) rfl, resOK_tmp (by kernel_rfl), trivial⟩, rfl⟩, (NLt.tup _ (nl_cons (NLt.agg _ (nl_cons (NLt.lit _) (nl_cons (NLt.lit _) (nl_cons (NLt.lit _) (nl_cons (NLt.lit _) nl_nil))))) (nl_cons (NLt.lit _) nl_nil))), Nat.le_refl _, fun n hn => absurd hn (Nat.not_lt_zero n)⟩
    · replace h := bif_f hb6 h
      refine awp_reg [⟨[(.tmp 5, .ref 1 4 0 0)], [(1, .own 4 [[I x5.Mass, I x5.Heat, I x5.Silica, I x5.Gas]])], .ref 1 4 0 0, [], false⟩, ⟨[(.tmp 14, .ref 1 4 0 0)], [(1, .own 4 [[I x5.Mass, I x5.Heat, I x5.Silica, I x5.Gas]])], I x5.Mass, [], false⟩, ⟨[(.tmp 15, I x5.Mass), (.const (.int .i64 1000000), I 1000000)], [], (B ((decide (x5.Mass > 1000000)))), [], false⟩, ⟨[(.tmp 16, (B ((decide (x5.Mass > 1000000)))))], [], B false, [], false⟩, ⟨[(.tmp 17, B false), (.tmp 5, .ref 1 4 0 0)], [(1, .own 4 [[I x5.Mass, I x5.Heat, I x5.Silica, I x5.Gas]])], .ref 1 4 0 3, [], false⟩, ⟨[(.tmp 17, B false), (.tmp 18, .ref 1 4 0 3)], [(1, .own 4 [[I x5.Mass, I x5.Heat, I x5.Silica, I x5.Gas]])], I x5.Gas, [], false⟩, ⟨[(.tmp 17, B false), (.tmp 19, I x5.Gas), (.const (.int .i64 1000000000), I 1000000000)], [], (B ((decide (x5.Gas > 1000000000)))), [], false⟩, ⟨[(.tmp 17, B false), (.const (.bool true), B true), (.tmp 20, (B ((decide (x5.Gas > 1000000000)))))], [], (B ((decide (x5.Gas > 1000000000)))), [], false⟩] (by exact ⟨by kernel_rfl, by kernel_rfl⟩) ?_ ?_
      · exact ⟨fun _ => astep_faddr rfl Try.underlying42 rfl rfl ti3 (by decide) rfl, fun _ => astep_load rfl ti3 (by decide) rfl (nle7 rfl) rfl, fun _ => astep_bin rfl rfl, fun _ => astep_b hb6 (astep_move rfl), fun _ => astep_guard (astep_faddr rfl Try.underlying42 rfl rfl ti3 (by decide) rfl), fun _ => astep_guard (astep_load rfl ti3 (by decide) rfl (nle7 rfl) rfl), fun _ => astep_guard (astep_bin rfl rfl), fun _ => astep_pick rfl rfl, trivial⟩
      rcases Bool.eq_false_or_eq_true ((decide (x5.Gas > 1000000000))) with hc7 | hc7
      · replace h := bif_t hc7 h
        refine awp_ift hc7 (by kernel_rfl) ?_
        refine awp_reg [⟨[], [], (.agg [I 0, I 0, I 0, I 0]), [], false⟩, ⟨[(.tmp 2, .ref 0 4 0 0), (.tmp 22, (.agg [I 0, I 0, I 0, I 0]))], [(0, .own 4 [[I 0, I 0, I 0, I 0]])], .any, [(0, .own 4 [[I 0, I 0, I 0, I 0]])], false⟩, ⟨[(.const (.int .i64 3), I 3)], [], I 3, [], false⟩] (by exact ⟨by kernel_rfl, by kernel_rfl⟩) ?_ ?_
        · exact ⟨fun _ => astep_build (vs := []) rfl ts42 tz42 rfl (by rfl) rfl, fun _ => astep_store rfl ti42 (by rfl) rfl (nle7 rfl) rfl, fun _ => astep_assign rfl, trivial⟩
        refine awp_ret ?_
        refine thenA_r ?_
        obtain rfl := Option.some.inj h
        exact ⟨⟨[(.agg [I 0, I 0, I 0, I 0]), I 3], ⟨resOK_cell (n := 0) (m := 4) (j := 0) (i := 0) (xs := [[I 0, I 0, I 0, I 0]]) (by kernel_rfl) (by kernel_rfl) ti42 (by decide) rfl (nle7 rfl) rfl, resOK_tmp (by kernel_rfl), trivial⟩, rfl⟩, (NLt.tup _ (nl_cons (NLt.agg _ (nl_cons (NLt.lit _) (nl_cons (NLt.lit _) (nl_cons (NLt.lit _) (nl_cons (NLt.lit _) nl_nil))))) (nl_cons (NLt.lit _) nl_nil))), Nat.le_refl _, fun n hn => absurd hn (Nat.not_lt_zero n)⟩
      · replace h := bif_f hc7 h
        refine awp_ifn hc7 (by kernel_rfl) ?_
        refine awp_skip ?_
        refine thenA_n ?_
        refine awp_reg [⟨[(.tmp 5, .ref 1 4 0 0)], [(1, .own 4 [[I x5.Mass, I x5.Heat, I x5.Silica, I x5.Gas]])], (.agg [I x5.Mass, I x5.Heat, I x5.Silica, I x5.Gas]), [], false⟩, ⟨[(.tmp 2, .ref 0 4 0 0), (.tmp 23, (.agg [I x5.Mass, I x5.Heat, I x5.Silica, I x5.Gas]))], [(0, .own 4 [[I 0, I 0, I 0, I 0]])], .any, [(0, .own 4 [[I x5.Mass, I x5.Heat, I x5.Silica, I x5.Gas]])], false⟩, ⟨[(.const (.int .i64 0), I 0)], [], I 0, [], false⟩] (by exact ⟨by kernel_rfl, by kernel_rfl⟩) ?_ ?_
        · exact ⟨fun _ => astep_load rfl ti42 (by decide) rfl (nle7 rfl) rfl, fun _ => astep_store rfl ti42 (by rfl) rfl (nle7 rfl) rfl, fun _ => astep_assign rfl, trivial⟩
        refine awp_ret ?_
        obtain rfl := Option.some.inj h
        exact ⟨⟨[(.agg [I x5.Mass, I x5.Heat, I x5.Silica, I x5.Gas]), I 0], ⟨resOK_cell (n := 0) (m := 4) (j := 0) (i := 0) (xs := [[I x5.Mass, I x5.Heat, I x5.Silica, I x5.Gas]]) (by kernel_rfl) (by kernel_rfl) ti42 (by decide) rfl (nle7 rfl) rfl, resOK_tmp (by kernel_rfl), trivial⟩, rfl⟩, (NLt.tup _ (nl_cons (NLt.agg _ (nl_cons (NLt.lit _) (nl_cons (NLt.lit _) (nl_cons (NLt.lit _) (nl_cons (NLt.lit _) nl_nil))))) (nl_cons (NLt.lit _) nl_nil))), Nat.le_refl _, fun n hn => absurd hn (Nat.not_lt_zero n)⟩

def steam_ExchangeX (N : Nat) (p0 : GStream) (p1 : GStream) (p2 : Int) : Option (GStream × GStream × Int) :=
  joinK (fun _ =>
      joinK (fun _ =>
          some ((⟨p0.Mass, w64 (p0.Heat - p2), p0.Silica, p0.Gas⟩ : GStream), (⟨p1.Mass, w64 (p1.Heat + p2), p1.Silica, p1.Gas⟩ : GStream), 0)) fun k2 : Unit → Option (GStream × GStream × Int) =>
      bif (decide (p2 < 0)) then
        some ((⟨0, 0, 0, 0⟩ : GStream), (⟨0, 0, 0, 0⟩ : GStream), 2)
      else
        bif (decide (p2 > p0.Heat)) then
          some ((⟨0, 0, 0, 0⟩ : GStream), (⟨0, 0, 0, 0⟩ : GStream), 2)
        else
          bif (decide (p2 > (w64 ((w64 (4000 * p1.Mass)) - p1.Heat)))) then
            some ((⟨0, 0, 0, 0⟩ : GStream), (⟨0, 0, 0, 0⟩ : GStream), 2)
          else
            k2 ()) fun k1 : Unit → Option (GStream × GStream × Int) =>
  (steam_Stream_validX N p0).bind fun x7 =>
  bif (!x7) then
    some ((⟨0, 0, 0, 0⟩ : GStream), (⟨0, 0, 0, 0⟩ : GStream), 1)
  else
    (steam_Stream_validX N p1).bind fun x10 =>
    bif (!x10) then
      some ((⟨0, 0, 0, 0⟩ : GStream), (⟨0, 0, 0, 0⟩ : GStream), 1)
    else
      k1 ()
set_option maxRecDepth 100000 in
set_option maxHeartbeats 4000000 in
theorem steam_ExchangeX_ok (N : Nat) (p0 : GStream) (p1 : GStream) (p2 : Int) (r : (GStream × GStream × Int)) (h : steam_ExchangeX N p0 p1 p2 = some r) : Spec Try.prog 45 [(.agg (c_GStream p0)), (.agg (c_GStream p1)), (I p2)] [] (.tup [(.agg (c_GStream r.1)), (.agg (c_GStream r.2.1)), (I r.2.2)]) [] := by
  refine spec_of_awp Try.func45 rfl 0 (nle7 rfl) (fun X φ0 w0 hφ0 => ?_)
  unfold steam_ExchangeX at h
  refine awp_reg [⟨[(.tmp 0, (.agg [I p0.Mass, I p0.Heat, I p0.Silica, I p0.Gas]))], [(0, .unused)], .ref 0 4 0 0, [(0, .own 4 [[I p0.Mass, I p0.Heat, I p0.Silica, I p0.Gas]])], false⟩, ⟨[(.tmp 1, (.agg [I p1.Mass, I p1.Heat, I p1.Silica, I p1.Gas]))], [(1, .unused)], .ref 1 4 0 0, [(1, .own 4 [[I p1.Mass, I p1.Heat, I p1.Silica, I p1.Gas]])], false⟩, ⟨[], [(2, .unused)], .ref 2 4 0 0, [(2, .own 4 [[I 0, I 0, I 0, I 0]])], false⟩, ⟨[], [(3, .unused)], .ref 3 4 0 0, [(3, .own 4 [[I 0, I 0, I 0, I 0]])], false⟩, ⟨[(.const (.int .i64 0), I 0)], [], I 0, [], false⟩] (by exact ⟨by kernel_rfl, by kernel_rfl⟩) ?_ ?_
  · exact ⟨fun _ => astep_box rfl (by rfl) rfl rfl, fun _ => astep_box rfl (by rfl) rfl rfl, fun _ => astep_alloc rfl tz42 rfl, fun _ => astep_alloc rfl tz42 rfl, fun _ => astep_assign rfl, trivial⟩
  obtain ⟨k1, hk_k1, h⟩ := joinK_out h
  refine awp_join (τ := Unit) (fun t => k1 t = some r) (fun _ => ⟨mk 51 [(2, I p2), (3, .ref 0 4 0 0), (4, .ref 1 4 0 0), (6, .ref 2 4 0 0), (7, .ref 3 4 0 0)], [(.own 4 [[I p0.Mass, I p0.Heat, I p0.Silica, I p0.Gas]]), (.own 4 [[I p1.Mass, I p1.Heat, I p1.Silica, I p1.Gas]]), (.own 4 [[I 0, I 0, I 0, I 0]]), (.own 4 [[I 0, I 0, I 0, I 0]])]⟩) (fun t h => ?_) ?_
  · subst hk_k1
    obtain ⟨k2, hk_k2, h⟩ := joinK_out h
    refine awp_join (τ := Unit) (fun t => k2 t = some r) (fun _ => ⟨mk 51 [(2, I p2), (3, .ref 0 4 0 0), (4, .ref 1 4 0 0), (6, .ref 2 4 0 0), (7, .ref 3 4 0 0)], [(.own 4 [[I p0.Mass, I p0.Heat, I p0.Silica, I p0.Gas]]), (.own 4 [[I p1.Mass, I p1.Heat, I p1.Silica, I p1.Gas]]), (.own 4 [[I 0, I 0, I 0, I 0]]), (.own 4 [[I 0, I 0, I 0, I 0]])]⟩) (fun t h => ?_) ?_
    · subst hk_k2
      refine awp_reg [⟨[(.tmp 3, .ref 0 4 0 0)], [(0, .own 4 [[I p0.Mass, I p0.Heat, I p0.Silica, I p0.Gas]])], .ref 0 4 0 1, [], false⟩, ⟨[(.tmp 39, .ref 0 4 0 1)], [(0, .own 4 [[I p0.Mass, I p0.Heat, I p0.Silica, I p0.Gas]])], I p0.Heat, [], false⟩, ⟨[(.tmp 2, I p2)], [], I p2, [], false⟩, ⟨[(.tmp 40, I p0.Heat), (.tmp 41, I p2)], [], (I (w64 (p0.Heat - p2))), [], false⟩, ⟨[(.tmp 3, .ref 0 4 0 0)], [(0, .own 4 [[I p0.Mass, I p0.Heat, I p0.Silica, I p0.Gas]])], .ref 0 4 0 1, [], false⟩, ⟨[(.tmp 43, .ref 0 4 0 1), (.tmp 42, (I (w64 (p0.Heat - p2))))], [(0, .own 4 [[I p0.Mass, I p0.Heat, I p0.Silica, I p0.Gas]])], .any, [(0, (.own 4 [[I p0.Mass, (I (w64 (p0.Heat - p2))), I p0.Silica, I p0.Gas]]))], false⟩] (by exact ⟨by kernel_rfl, by kernel_rfl⟩) ?_ ?_
      · exact ⟨fun _ => astep_faddr rfl Try.underlying42 rfl rfl ti3 (by decide) rfl, fun _ => astep_load rfl ti3 (by decide) rfl (nle7 rfl) rfl, fun _ => astep_move rfl, fun _ => astep_bin rfl rfl, fun _ => astep_faddr rfl Try.underlying42 rfl rfl ti3 (by decide) rfl, fun _ => astep_store rfl ti3 (by rfl) rfl (nle7 rfl) rfl, trivial⟩
      refine awp_reg [⟨[(.tmp 4, .ref 1 4 0 0)], [(1, .own 4 [[I p1.Mass, I p1.Heat, I p1.Silica, I p1.Gas]])], .ref 1 4 0 1, [], false⟩, ⟨[(.tmp 44, .ref 1 4 0 1)], [(1, .own 4 [[I p1.Mass, I p1.Heat, I p1.Silica, I p1.Gas]])], I p1.Heat, [], false⟩, ⟨[(.tmp 2, I p2)], [], I p2, [], false⟩, ⟨[(.tmp 45, I p1.Heat), (.tmp 46, I p2)], [], (I (w64 (p1.Heat + p2))), [], false⟩, ⟨[(.tmp 4, .ref 1 4 0 0)], [(1, .own 4 [[I p1.Mass, I p1.Heat, I p1.Silica, I p1.Gas]])], .ref 1 4 0 1, [], false⟩, ⟨[(.tmp 48, .ref 1 4 0 1), (.tmp 47, (I (w64 (p1.Heat + p2))))], [(1, .own 4 [[I p1.Mass, I p1.Heat, I p1.Silica, I p1.Gas]])], .any, [(1, (.own 4 [[I p1.Mass, (I (w64 (p1.Heat + p2))), I p1.Silica, I p1.Gas]]))], false⟩] (by exact ⟨by kernel_rfl, by kernel_rfl⟩) ?_ ?_
      · exact ⟨fun _ => astep_faddr rfl Try.underlying42 rfl rfl ti3 (by decide) rfl, fun _ => astep_load rfl ti3 (by decide) rfl (nle7 rfl) rfl, fun _ => astep_move rfl, fun _ => astep_bin rfl rfl, fun _ => astep_faddr rfl Try.underlying42 rfl rfl ti3 (by decide) rfl, fun _ => astep_store rfl ti3 (by rfl) rfl (nle7 rfl) rfl, trivial⟩
      refine awp_regd [⟨[(.tmp 3, .ref 0 4 0 0)], [(0, (.own 4 [[I p0.Mass, (I (w64 (p0.Heat - p2))), I p0.Silica, I p0.Gas]]))], (.agg [I p0.Mass, (I (w64 (p0.Heat - p2))), I p0.Silica, I p0.Gas]), [], false⟩, ⟨[(.tmp 4, .ref 1 4 0 0)], [(1, (.own 4 [[I p1.Mass, (I (w64 (p1.Heat + p2))), I p1.Silica, I p1.Gas]]))], (.agg [I p1.Mass, (I (w64 (p1.Heat + p2))), I p1.Silica, I p1.Gas]), [], false⟩, ⟨[(.tmp 6, .ref 2 4 0 0), (.tmp 49, (.agg [I p0.Mass, (I (w64 (p0.Heat - p2))), I p0.Silica, I p0.Gas]))], [(2, .own 4 [[I 0, I 0, I 0, I 0]])], .any, [(2, (.own 4 [[I p0.Mass, (I (w64 (p0.Heat - p2))), I p0.Silica, I p0.Gas]]))], false⟩, ⟨[(.tmp 7, .ref 3 4 0 0), (.tmp 50, (.agg [I p1.Mass, (I (w64 (p1.Heat + p2))), I p1.Silica, I p1.Gas]))], [(3, .own 4 [[I 0, I 0, I 0, I 0]])], .any, [(3, (.own 4 [[I p1.Mass, (I (w64 (p1.Heat + p2))), I p1.Silica, I p1.Gas]]))], false⟩, ⟨[(.const (.int .i64 0), I 0)], [], I 0, [], false⟩] (by kernel_rfl) (by exact ⟨by kernel_rfl, by kernel_rfl⟩) (by kernel_rfl) ?_ ?_
      · exact ⟨fun _ => astep_load rfl ti42 (by decide) rfl (nle7 rfl) rfl, fun _ => astep_load rfl ti42 (by decide) rfl (nle7 rfl) rfl, fun _ => astep_store rfl ti42 (by rfl) rfl (nle7 rfl) rfl, fun _ => astep_store rfl ti42 (by rfl) rfl (nle7 rfl) rfl, fun _ => astep_assign rfl, trivial⟩
      refine awp_ret ?_
      obtain rfl := Option.some.inj h
      exact ⟨⟨[(.agg [I p0.Mass, (I (w64 (p0.Heat - p2))), I p0.Silica, I p0.Gas]), (.agg [I p1.Mass, (I (w64 (p1.Heat + p2))), I p1.Silica, I p1.Gas]), I 0], ⟨resOK_cell (n := 2) (m := 4) (j := 0) (i := 0) (xs := [[I p0.Mass, (I (w64 (p0.Heat - p2))), I p0.Silica, I p0.Gas]]) (by kernel_rfl) (by kernel_rfl) ti42 (by decide) rfl (nle7 rfl) rfl, resOK_cell (n := 3) (m := 4) (j := 0) (i := 0) (xs := [[I p1.Mass, (I (w64 (p1.Heat + p2))), I p1.Silica, I p1.Gas]]) (by kernel_rfl) (by kernel_rfl) ti42 (by decide) rfl (nle7 rfl) rfl, resOK_tmp (by kernel_rfl), trivial⟩, rfl⟩, (NLt.tup _ (nl_cons (NLt.agg _ (nl_cons (NLt.lit _) (nl_cons (NLt.lit _) (nl_cons (NLt.lit _) (nl_cons (NLt.lit _) nl_nil))))) (nl_cons (NLt.agg _ (nl_cons (NLt.lit _) (nl_cons (NLt.lit _) (nl_cons (NLt.lit _) (nl_cons (NLt.lit _) nl_nil))))) (nl_cons (NLt.lit _) nl_nil)))), Nat.le_refl _, fun n hn => absurd hn (Nat.not_lt_zero n)⟩
    · skip
      rcases Bool.eq_false_or_eq_true ((decide (p2 < 0))) with hb3 | hb3
      · replace h := bif_t hb3 h
        refine awp_reg [⟨[(.tmp 2, I p2)], [], I p2, [], false⟩, ⟨[(.tmp 19, I p2), (.const (.int .i64 0), I 0)], [], (B ((decide (p2 < 0)))), [], false⟩, ⟨[(.tmp 20, (B ((decide (p2 < 0)))))], [], B true, [], false⟩, ⟨[(.tmp 21, B true)], [], (.lit undef), [], true⟩, ⟨[(.tmp 21, B true)], [], (.lit undef), [], true⟩, ⟨[(.tmp 21, B true)], [], (.lit undef), [], true⟩, ⟨[(.tmp 21, B true)], [], (.lit undef), [], true⟩, ⟨[(.tmp 21, B true), (.const (.bool true), B true), (.tmp 25, (.lit undef))], [], B true, [], false⟩, ⟨[(.tmp 26, B true)], [], B true, [], false⟩, ⟨[(.tmp 27, B true)], [], (.lit undef), [], true⟩, ⟨[(.tmp 27, B true)], [], (.lit undef), [], true⟩, ⟨[(.tmp 27, B true)], [], (.lit undef), [], true⟩, ⟨[(.tmp 27, B true)], [], (.lit undef), [], true⟩, ⟨[(.tmp 27, B true)], [], (.lit undef), [], true⟩, ⟨[(.tmp 27, B true)], [], (.lit undef), [], true⟩, ⟨[(.tmp 27, B true)], [], (.lit undef), [], true⟩, ⟨[(.tmp 27, B true)], [], (.lit undef), [], true⟩, ⟨[(.tmp 27, B true), (.const (.bool true), B true), (.tmp 35, (.lit undef))], [], B true, [], false⟩] (by exact ⟨by kernel_rfl, by kernel_rfl⟩) ?_ ?_
        · exact ⟨fun _ => astep_move rfl, fun _ => astep_bin rfl rfl, fun _ => astep_b hb3 (astep_move rfl),
    fun hs => (Bool.noConfusion hs),
    fun hs => (Bool.noConfusion hs),
    fun hs => (Bool.noConfusion hs),
    fun hs => (Bool.noConfusion hs), fun _ => astep_pick rfl rfl, fun _ => astep_move rfl,
    fun hs => (Bool.noConfusion hs),
    fun hs => (Bool.noConfusion hs),
    fun hs => (Bool.noConfusion hs),
    fun hs => (Bool.noConfusion hs),
    fun hs => (Bool.noConfusion hs),
    fun hs => (Bool.noConfusion hs),
    fun hs => (Bool.noConfusion hs),
    fun hs => (Bool.noConfusion hs), fun _ => astep_pick rfl rfl, trivial⟩
        refine awp_true (by kernel_rfl) ?_
        refine awp_reg [⟨[], [], (.agg [I 0, I 0, I 0, I 0]), [], false⟩, ⟨[], [], (.agg [I 0, I 0, I 0, I 0]), [], false⟩, ⟨[(.tmp 6, .ref 2 4 0 0), (.tmp 37, (.agg [I 0, I 0, I 0, I 0]))], [(2, .own 4 [[I 0, I 0, I 0, I 0]])], .any, [(2, .own 4 [[I 0, I 0, I 0, I 0]])], false⟩, ⟨[(.tmp 7, .ref 3 4 0 0), (.tmp 38, (.agg [I 0, I 0, I 0, I 0]))], [(3, .own 4 [[I 0, I 0, I 0, I 0]])], .any, [(3, .own 4 [[I 0, I 0, I 0, I 0]])], false⟩, ⟨[(.const (.int .i64 2), I 2)], [], I 2, [], false⟩] (by exact ⟨by kernel_rfl, by kernel_rfl⟩) ?_ ?_
        · exact ⟨fun _ => astep_build (vs := []) rfl ts42 tz42 rfl (by rfl) rfl, fun _ => astep_build (vs := []) rfl ts42 tz42 rfl (by rfl) rfl, fun _ => astep_store rfl ti42 (by rfl) rfl (nle7 rfl) rfl, fun _ => astep_store rfl ti42 (by rfl) rfl (nle7 rfl) rfl, fun _ => astep_assign rfl, trivial⟩
        refine awp_ret ?_
        refine thenA_r ?_
        obtain rfl := Option.some.inj h
        exact ⟨⟨[(.agg [I 0, I 0, I 0, I 0]), (.agg [I 0, I 0, I 0, I 0]), I 2], ⟨resOK_cell (n := 2) (m := 4) (j := 0) (i := 0) (xs := [[I 0, I 0, I 0, I 0]]) (by kernel_rfl) (by kernel_rfl) ti42 (by decide) rfl (nle7 rfl) rfl, resOK_cell (n := 3) (m := 4) (j := 0) (i := 0) (xs := [[I 0, I 0, I 0, I 0]]) (by kernel_rfl) (by kernel_rfl) ti42 (by decide) rfl (nle7 rfl) rfl, resOK_tmp (by kernel_rfl), trivial⟩, rfl⟩, (NLt.tup _ (nl_cons (NLt.agg _ (nl_cons (NLt.lit _) (nl_cons (NLt.lit _) (nl_cons (NLt.lit _) (nl_cons (NLt.lit _) nl_nil))))) (nl_cons (NLt.agg _ (nl_cons (NLt.lit _) (nl_cons (NLt.lit _) (nl_cons (NLt.lit _) (nl_cons (NLt.lit _) nl_nil))))) (nl_cons (NLt.lit _) nl_nil)))), Nat.le_refl _, fun n hn => absurd hn (Nat.not_lt_zero n)⟩
      · replace h := bif_f hb3 h
        rcases Bool.eq_false_or_eq_true ((decide (p2 > p0.Heat))) with hb4 | hb4
        · replace h := bif_t hb4 h
          refine awp_reg [⟨[(.tmp 2, I p2)], [], I p2, [], false⟩, ⟨[(.tmp 19, I p2), (.const (.int .i64 0), I 0)], [], (B ((decide (p2 < 0)))), [], false⟩, ⟨[(.tmp 20, (B ((decide (p2 < 0)))))], [], B false, [], false⟩, ⟨[(.tmp 21, B false), (.tmp 2, I p2)], [], I p2, [], false⟩, ⟨[(.tmp 21, B false), (.tmp 3, .ref 0 4 0 0)], [(0, .own 4 [[I p0.Mass, I p0.Heat, I p0.Silica, I p0.Gas]])], .ref 0 4 0 1, [], false⟩, ⟨[(.tmp 21, B false), (.tmp 23, .ref 0 4 0 1)], [(0, .own 4 [[I p0.Mass, I p0.Heat, I p0.Silica, I p0.Gas]])], I p0.Heat, [], false⟩, ⟨[(.tmp 21, B false), (.tmp 22, I p2), (.tmp 24, I p0.Heat)], [], (B ((decide (p2 > p0.Heat)))), [], false⟩, ⟨[(.tmp 21, B false), (.const (.bool true), B true), (.tmp 25, (B ((decide (p2 > p0.Heat)))))], [], (B ((decide (p2 > p0.Heat)))), [], false⟩, ⟨[(.tmp 26, (B ((decide (p2 > p0.Heat)))))], [], B true, [], false⟩, ⟨[(.tmp 27, B true)], [], (.lit undef), [], true⟩, ⟨[(.tmp 27, B true)], [], (.lit undef), [], true⟩, ⟨[(.tmp 27, B true)], [], (.lit undef), [], true⟩, ⟨[(.tmp 27, B true)], [], (.lit undef), [], true⟩, ⟨[(.tmp 27, B true)], [], (.lit undef), [], true⟩, ⟨[(.tmp 27, B true)], [], (.lit undef), [], true⟩, ⟨[(.tmp 27, B true)], [], (.lit undef), [], true⟩, ⟨[(.tmp 27, B true)], [], (.lit undef), [], true⟩, ⟨[(.tmp 27, B true), (.const (.bool true), B true), (.tmp 35, (.lit undef))], [], B true, [], false⟩] (by exact ⟨by kernel_rfl, by kernel_rfl⟩) ?_ ?_
          · exact ⟨fun _ => astep_move rfl, fun _ => astep_bin rfl rfl, fun _ => astep_b hb3 (astep_move rfl), fun _ => astep_guard (astep_move rfl), fun _ => astep_guard (astep_faddr rfl Try.underlying42 rfl rfl ti3 (by decide) rfl), fun _ => astep_guard (astep_load rfl ti3 (by decide) rfl (nle7 rfl) rfl), fun _ => astep_guard (astep_bin rfl rfl), fun _ => astep_pick rfl rfl, fun _ => astep_b hb4 (astep_move rfl),
    fun hs => (Bool.noConfusion hs),
    fun hs => (Bool.noConfusion hs),
    fun hs => (Bool.noConfusion hs),
    fun hs => (Bool.noConfusion hs),
    fun hs => (Bool.noConfusion hs),
    fun hs => (Bool.noConfusion hs),
    fun hs => (Bool.noConfusion hs),
    fun hs => (Bool.noConfusion hs), fun _ => astep_pick rfl rfl, trivial⟩
          refine awp_true (by kernel_rfl) ?_
          refine awp_reg [⟨[], [], (.agg [I 0, I 0, I 0, I 0]), [], false⟩, ⟨[], [], (.agg [I 0, I 0, I 0, I 0]), [], false⟩, ⟨[(.tmp 6, .ref 2 4 0 0), (.tmp 37, (.agg [I 0, I 0, I 0, I 0]))], [(2, .own 4 [[I 0, I 0, I 0, I 0]])], .any, [(2, .own 4 [[I 0, I 0, I 0, I 0]])], false⟩, ⟨[(.tmp 7, .ref 3 4 0 0), (.tmp 38, (.agg [I 0, I 0, I 0, I 0]))], [(3, .own 4 [[I 0, I 0, I 0, I 0]])], .any, [(3, .own 4 [[I 0, I 0, I 0, I 0]])], false⟩, ⟨[(.const (.int .i64 2), I 2)], [], I 2, [], false⟩] (by exact ⟨by kernel_rfl, by kernel_rfl⟩) ?_ ?_
          · exact ⟨fun _ => astep_build (vs := []) rfl ts42 tz42 rfl (by rfl) rfl, fun _ => astep_build (vs := []) rfl ts42 tz42 rfl (by rfl) rfl, fun _ => astep_store rfl ti42 (by rfl) rfl (nle7 rfl) rfl, fun _ => astep_store rfl ti42 (by rfl) rfl (nle7 rfl) rfl, fun _ => astep_assign rfl, trivial⟩
          refine awp_ret ?_
          refine thenA_r ?_
          obtain rfl := Option.some.inj h
          exact ⟨⟨[(.agg [I 0, I 0, I 0, I 0]), (.agg [I 0, I 0, I 0, I 0]), I 2], ⟨resOK_cell (n := 2) (m := 4) (j := 0) (i := 0) (xs := [[I 0, I 0, I 0, I 0]]) (by kernel_rfl) (by kernel_rfl) ti42 (by decide) rfl (nle7 rfl) rfl, resOK_cell (n := 3) (m := 4) (j := 0) (i := 0) (xs := [[I 0, I 0, I 0, I 0]]) (by kernel_rfl) (by kernel_rfl) ti42 (by decide) rfl (nle7 rfl) rfl, resOK_tmp (by kernel_rfl), trivial⟩, rfl⟩, (NLt.tup _ (nl_cons (NLt.agg _ (nl_cons (NLt.lit _) (nl_cons (NLt.lit _) (nl_cons (NLt.lit _) (nl_cons (NLt.lit _) nl_nil))))) (nl_cons (NLt.agg _ (nl_cons (NLt.lit _) (nl_cons (NLt.lit _) (nl_cons (NLt.lit _) (nl_cons (NLt.lit _) nl_nil))))) (nl_cons (NLt.lit _) nl_nil)))), Nat.le_refl _, fun n hn => absurd hn (Nat.not_lt_zero n)⟩
        · replace h := bif_f hb4 h
          refine awp_reg [⟨[(.tmp 2, I p2)], [], I p2, [], false⟩, ⟨[(.tmp 19, I p2), (.const (.int .i64 0), I 0)], [], (B ((decide (p2 < 0)))), [], false⟩, ⟨[(.tmp 20, (B ((decide (p2 < 0)))))], [], B false, [], false⟩, ⟨[(.tmp 21, B false), (.tmp 2, I p2)], [], I p2, [], false⟩, ⟨[(.tmp 21, B false), (.tmp 3, .ref 0 4 0 0)], [(0, .own 4 [[I p0.Mass, I p0.Heat, I p0.Silica, I p0.Gas]])], .ref 0 4 0 1, [], false⟩, ⟨[(.tmp 21, B false), (.tmp 23, .ref 0 4 0 1)], [(0, .own 4 [[I p0.Mass, I p0.Heat, I p0.Silica, I p0.Gas]])], I p0.Heat, [], false⟩, ⟨[(.tmp 21, B false), (.tmp 22, I p2), (.tmp 24, I p0.Heat)], [], (B ((decide (p2 > p0.Heat)))), [], false⟩, ⟨[(.tmp 21, B false), (.const (.bool true), B true), (.tmp 25, (B ((decide (p2 > p0.Heat)))))], [], (B ((decide (p2 > p0.Heat)))), [], false⟩, ⟨[(.tmp 26, (B ((decide (p2 > p0.Heat)))))], [], B false, [], false⟩, ⟨[(.tmp 27, B false), (.tmp 2, I p2)], [], I p2, [], false⟩, ⟨[(.tmp 27, B false), (.tmp 4, .ref 1 4 0 0)], [(1, .own 4 [[I p1.Mass, I p1.Heat, I p1.Silica, I p1.Gas]])], .ref 1 4 0 0, [], false⟩, ⟨[(.tmp 27, B false), (.tmp 29, .ref 1 4 0 0)], [(1, .own 4 [[I p1.Mass, I p1.Heat, I p1.Silica, I p1.Gas]])], I p1.Mass, [], false⟩, ⟨[(.tmp 27, B false), (.const (.int .i64 4000), I 4000), (.tmp 30, I p1.Mass)], [], (I (w64 (4000 * p1.Mass))), [], false⟩, ⟨[(.tmp 27, B false), (.tmp 4, .ref 1 4 0 0)], [(1, .own 4 [[I p1.Mass, I p1.Heat, I p1.Silica, I p1.Gas]])], .ref 1 4 0 1, [], false⟩, ⟨[(.tmp 27, B false), (.tmp 32, .ref 1 4 0 1)], [(1, .own 4 [[I p1.Mass, I p1.Heat, I p1.Silica, I p1.Gas]])], I p1.Heat, [], false⟩, ⟨[(.tmp 27, B false), (.tmp 31, (I (w64 (4000 * p1.Mass)))), (.tmp 33, I p1.Heat)], [], (I (w64 ((w64 (4000 * p1.Mass)) - p1.Heat))), [], false⟩, ⟨[(.tmp 27, B false), (.tmp 28, I p2), (.tmp 34, (I (w64 ((w64 (4000 * p1.Mass)) - p1.Heat))))], [], (B ((decide (p2 > (w64 ((w64 (4000 * p1.Mass)) - p1.Heat)))))), [], false⟩, ⟨[(.tmp 27, B false), (.const (.bool true), B true), (.tmp 35, (B ((decide (p2 > (w64 ((w64 (4000 * p1.Mass)) - p1.Heat)))))))], [], (B ((decide (p2 > (w64 ((w64 (4000 * p1.Mass)) - p1.Heat)))))), [], false⟩] (by exact ⟨by kernel_rfl, by kernel_rfl⟩) ?_ ?_
          · exact ⟨fun _ => astep_move rfl, fun _ => astep_bin rfl rfl, fun _ => astep_b hb3 (astep_move rfl), fun _ => astep_guard (astep_move rfl), fun _ => astep_guard (astep_faddr rfl Try.underlying42 rfl rfl ti3 (by decide) rfl), fun _ => astep_guard (astep_load rfl ti3 (by decide) rfl (nle7 rfl) rfl), fun _ => astep_guard (astep_bin rfl rfl), fun _ => astep_pick rfl rfl, fun _ => astep_b hb4 (astep_move rfl), fun _ => astep_guard (astep_move rfl), fun _ => astep_guard (astep_faddr rfl Try.underlying42 rfl rfl ti3 (by decide) rfl), fun _ => astep_guard (astep_load rfl ti3 (by decide) rfl (nle7 rfl) rfl), fun _ => astep_guard (astep_bin rfl rfl), fun _ => astep_guard (astep_faddr rfl Try.underlying42 rfl rfl ti3 (by decide) rfl), fun _ => astep_guard (astep_load rfl ti3 (by decide) rfl (nle7 rfl) rfl), fun _ => astep_guard (astep_bin rfl rfl), fun _ => astep_guard (astep_bin rfl rfl), fun _ => astep_pick rfl rfl, trivial⟩
          rcases Bool.eq_false_or_eq_true ((decide (p2 > (w64 ((w64 (4000 * p1.Mass)) - p1.Heat))))) with hc5 | hc5
          · replace h := bif_t hc5 h
            refine awp_ift hc5 (by kernel_rfl) ?_
            refine awp_reg [⟨[], [], (.agg [I 0, I 0, I 0, I 0]), [], false⟩, ⟨[], [], (.agg [I 0, I 0, I 0, I 0]), [], false⟩, ⟨[(.tmp 6, .ref 2 4 0 0), (.tmp 37, (.agg [I 0, I 0, I 0, I 0]))], [(2, .own 4 [[I 0, I 0, I 0, I 0]])], .any, [(2, .own 4 [[I 0, I 0, I 0, I 0]])], false⟩, ⟨[(.tmp 7, .ref 3 4 0 0), (.tmp 38, (.agg [I 0, I 0, I 0, I 0]))], [(3, .own 4 [[I 0, I 0, I 0, I 0]])], .any, [(3, .own 4 [[I 0, I 0, I 0, I 0]])], false⟩, ⟨[(.const (.int .i64 2), I 2)], [], I 2, [], false⟩] (by exact ⟨by kernel_rfl, by kernel_rfl⟩) ?_ ?_
            · exact ⟨fun _ => astep_build (vs := []) rfl ts42 tz42 rfl (by rfl) rfl, fun _ => astep_build (vs := []) rfl ts42 tz42 rfl (by rfl) rfl, fun _ => astep_store rfl ti42 (by rfl) rfl (nle7 rfl) rfl, fun _ => astep_store rfl ti42 (by rfl) rfl (nle7 rfl) rfl, fun _ => astep_assign rfl, trivial⟩
            refine awp_ret ?_
            refine thenA_r ?_
            obtain rfl := Option.some.inj h
            exact ⟨⟨[(.agg [I 0, I 0, I 0, I 0]), (.agg [I 0, I 0, I 0, I 0]), I 2], ⟨resOK_cell (n := 2) (m := 4) (j := 0) (i := 0) (xs := [[I 0, I 0, I 0, I 0]]) (by kernel_rfl) (by kernel_rfl) ti42 (by decide) rfl (nle7 rfl) rfl, resOK_cell (n := 3) (m := 4) (j := 0) (i := 0) (xs := [[I 0, I 0, I 0, I 0]]) (by kernel_rfl) (by kernel_rfl) ti42 (by decide) rfl (nle7 rfl) rfl, resOK_tmp (by kernel_rfl), trivial⟩, rfl⟩, (NLt.tup _ (nl_cons (NLt.agg _ (nl_cons (NLt.lit _) (nl_cons (NLt.lit _) (nl_cons (NLt.lit _) (nl_cons (NLt.lit _) nl_nil))))) (nl_cons (NLt.agg _ (nl_cons (NLt.lit _) (nl_cons (NLt.lit _) (nl_cons (NLt.lit _) (nl_cons (NLt.lit _) nl_nil))))) (nl_cons (NLt.lit _) nl_nil)))), Nat.le_refl _, fun n hn => absurd hn (Nat.not_lt_zero n)⟩
          · replace h := bif_f hc5 h
            refine awp_ifn hc5 (by kernel_rfl) ?_
            refine awp_skip ?_
            refine thenA_n ?_
            exact ⟨(), h, (mor_to (n := 51) (l' := [(2, I p2), (3, .ref 0 4 0 0), (4, .ref 1 4 0 0), (6, .ref 2 4 0 0), (7, .ref 3 4 0 0)]) (own' := [(.own 4 [[I p0.Mass, I p0.Heat, I p0.Silica, I p0.Gas]]), (.own 4 [[I p1.Mass, I p1.Heat, I p1.Silica, I p1.Gas]]), (.own 4 [[I 0, I 0, I 0, I 0]]), (.own 4 [[I 0, I 0, I 0, I 0]])]) [(2, I p2), (3, .ref 0 4 0 0), (4, .ref 1 4 0 0), (6, .ref 2 4 0 0), (7, .ref 3 4 0 0)] [0, 1, 2, 3] [(.own 4 [[I p0.Mass, I p0.Heat, I p0.Silica, I p0.Gas]]), (.own 4 [[I p1.Mass, I p1.Heat, I p1.Silica, I p1.Gas]]), (.own 4 [[I 0, I 0, I 0, I 0]]), (.own 4 [[I 0, I 0, I 0, I 0]])] hφ0 (by kernel_rfl) (by kernel_rfl) (by kernel_rfl) ⟨rfl, .rn (.plain _ (NLt.lit _)), rfl, .rn (rnq_ref rfl), rfl, .rn (rnq_ref rfl), rfl, .rn (rnq_ref rfl), rfl, .rn (rnq_ref rfl), trivial⟩ ⟨(spw_box ⟨(.rn (.plain _ (NLt.lit _))), (.rn (.plain _ (NLt.lit _))), (.rn (.plain _ (NLt.lit _))), (.rn (.plain _ (NLt.lit _))), trivial⟩), (spw_box ⟨(.rn (.plain _ (NLt.lit _))), (.rn (.plain _ (NLt.lit _))), (.rn (.plain _ (NLt.lit _))), (.rn (.plain _ (NLt.lit _))), trivial⟩), (spw_box ⟨(.rn (.plain _ (NLt.lit _))), (.rn (.plain _ (NLt.lit _))), (.rn (.plain _ (NLt.lit _))), (.rn (.plain _ (NLt.lit _))), trivial⟩), (spw_box ⟨(.rn (.plain _ (NLt.lit _))), (.rn (.plain _ (NLt.lit _))), (.rn (.plain _ (NLt.lit _))), (.rn (.plain _ (NLt.lit _))), trivial⟩), trivial⟩)⟩
  · skip
    obtain ⟨x7, hf6, h⟩ := bind_out h
    rcases Bool.eq_false_or_eq_true ((!x7)) with hb8 | hb8
    · replace h := bif_t hb8 h
      refine awp_reg [⟨[(.tmp 3, .ref 0 4 0 0)], [(0, .own 4 [[I p0.Mass, I p0.Heat, I p0.Silica, I p0.Gas]])], (.agg [I p0.Mass, I p0.Heat, I p0.Silica, I p0.Gas]), [], false⟩, ⟨[(.func 63, (.fn (.func 63) [] [])), (.tmp 9, (.agg [I p0.Mass, I p0.Heat, I p0.Silica, I p0.Gas]))], [], B x7, [], false⟩, ⟨[(.tmp 10, B x7)], [], (B ((!x7))), [], false⟩, ⟨[(.tmp 11, (B ((!x7))))], [], B true, [], false⟩, ⟨[(.tmp 12, B true)], [], (.lit undef), [], true⟩, ⟨[(.tmp 12, B true)], [], (.lit undef), [], true⟩, ⟨[(.tmp 12, B true)], [], (.lit undef), [], true⟩, ⟨[(.tmp 12, B true), (.const (.bool true), B true), (.tmp 15, (.lit undef))], [], B true, [], false⟩] (by exact ⟨by kernel_rfl, by kernel_rfl⟩) ?_ ?_
      · exact ⟨fun _ => astep_load rfl ti42 (by decide) rfl (nle7 rfl) rfl, fun _ => astep_pcall (first := []) (cap := []) (vs := [(.agg [I p0.Mass, I p0.Heat, I p0.Silica, I p0.Gas])]) rfl enter63 (steam_Stream_validX_ok N p0 _ hf6) rfl rfl (nl_cons (NLt.agg _ (nl_cons (NLt.lit _) (nl_cons (NLt.lit _) (nl_cons (NLt.lit _) (nl_cons (NLt.lit _) nl_nil))))) nl_nil) (NLt.lit _) rfl, fun _ => astep_not rfl, fun _ => astep_b hb8 (astep_move rfl),
    fun hs => (Bool.noConfusion hs),
    fun hs => (Bool.noConfusion hs),
    fun hs => (Bool.noConfusion hs), fun _ => astep_pick rfl rfl, trivial⟩
      refine awp_true (by kernel_rfl) ?_
      refine awp_reg [⟨[], [], (.agg [I 0, I 0, I 0, I 0]), [], false⟩, ⟨[], [], (.agg [I 0, I 0, I 0, I 0]), [], false⟩, ⟨[(.tmp 6, .ref 2 4 0 0), (.tmp 17, (.agg [I 0, I 0, I 0, I 0]))], [(2, .own 4 [[I 0, I 0, I 0, I 0]])], .any, [(2, .own 4 [[I 0, I 0, I 0, I 0]])], false⟩, ⟨[(.tmp 7, .ref 3 4 0 0), (.tmp 18, (.agg [I 0, I 0, I 0, I 0]))], [(3, .own 4 [[I 0, I 0, I 0, I 0]])], .any, [(3, .own 4 [[I 0, I 0, I 0, I 0]])], false⟩, ⟨[(.const (.int .i64 1), I 1)], [], I 1, [], false⟩] (by exact ⟨by kernel_rfl, by kernel_rfl⟩) ?_ ?_
      · exact ⟨fun _ => astep_build (vs := []) rfl ts42 tz42 rfl (by rfl) rfl, fun _ => astep_build (vs := []) rfl ts42 tz42 rfl (by rfl) rfl, fun _ => astep_store rfl ti42 (by rfl) rfl (nle7 rfl) rfl, fun _ => astep_store rfl ti42 (by rfl) rfl (nle7 rfl) rfl, fun _ => astep_assign rfl, trivial⟩
      refine awp_ret ?_
      refine thenA_r ?_
      obtain rfl := Option.some.inj h
      exact ⟨⟨[(.agg [I 0, I 0, I 0, I 0]), (.agg [I 0, I 0, I 0, I 0]), I 1], ⟨resOK_cell (n := 2) (m := 4) (j := 0) (i := 0) (xs := [[I 0, I 0, I 0, I 0]]) (by kernel_rfl) (by kernel_rfl) ti42 (by decide) rfl (nle7 rfl) rfl, resOK_cell (n := 3) (m := 4) (j := 0) (i := 0) (xs := [[I 0, I 0, I 0, I 0]]) (by kernel_rfl) (by kernel_rfl) ti42 (by decide) rfl (nle7 rfl) rfl, resOK_tmp (by kernel_rfl), trivial⟩, rfl⟩, (NLt.tup _ (nl_cons (NLt.agg _ (nl_cons (NLt.lit _) (nl_cons (NLt.lit _) (nl_cons (NLt.lit _) (nl_cons (NLt.lit _) nl_nil))))) (nl_cons (NLt.agg _ (nl_cons (NLt.lit _) (nl_cons (NLt.lit _) (nl_cons (NLt.lit _) (nl_cons (NLt.lit _) nl_nil))))) (nl_cons (NLt.lit _) nl_nil)))), Nat.le_refl _, fun n hn => absurd hn (Nat.not_lt_zero n)⟩
    · replace h := bif_f hb8 h
      obtain ⟨x10, hf9, h⟩ := bind_out h
      refine awp_reg [⟨[(.tmp 3, .ref 0 4 0 0)], [(0, .own 4 [[I p0.Mass, I p0.Heat, I p0.Silica, I p0.Gas]])], (.agg [I p0.Mass, I p0.Heat, I p0.Silica, I p0.Gas]), [], false⟩, ⟨[(.func 63, (.fn (.func 63) [] [])), (.tmp 9, (.agg [I p0.Mass, I p0.Heat, I p0.Silica, I p0.Gas]))], [], B x7, [], false⟩, ⟨[(.tmp 10, B x7)], [], (B ((!x7))), [], false⟩, ⟨[(.tmp 11, (B ((!x7))))], [], B false, [], false⟩, ⟨[(.tmp 12, B false), (.tmp 4, .ref 1 4 0 0)], [(1, .own 4 [[I p1.Mass, I p1.Heat, I p1.Silica, I p1.Gas]])], (.agg [I p1.Mass, I p1.Heat, I p1.Silica, I p1.Gas]), [], false⟩, ⟨[(.tmp 12, B false), (.func 63, (.fn (.func 63) [] [])), (.tmp 13, (.agg [I p1.Mass, I p1.Heat, I p1.Silica, I p1.Gas]))], [], B x10, [], false⟩, ⟨[(.tmp 12, B false), (.tmp 14, B x10)], [], (B ((!x10))), [], false⟩, ⟨[(.tmp 12, B false), (.const (.bool true), B true), (.tmp 15, (B ((!x10))))], [], (B ((!x10))), [], false⟩] (by exact ⟨by kernel_rfl, by kernel_rfl⟩) ?_ ?_
      · exact ⟨fun _ => astep_load rfl ti42 (by decide) rfl (nle7 rfl) rfl, fun _ => astep_pcall (first := []) (cap := []) (vs := [(.agg [I p0.Mass, I p0.Heat, I p0.Silica, I p0.Gas])]) rfl enter63 (steam_Stream_validX_ok N p0 _ hf6) rfl rfl (nl_cons (NLt.agg _ (nl_cons (NLt.lit _) (nl_cons (NLt.lit _) (nl_cons (NLt.lit _) (nl_cons (NLt.lit _) nl_nil))))) nl_nil) (NLt.lit _) rfl, fun _ => astep_not rfl, fun _ => astep_b hb8 (astep_move rfl), fun _ => astep_guard (astep_load rfl ti42 (by decide) rfl (nle7 rfl) rfl), fun _ => astep_guard (astep_pcall (first := []) (cap := []) (vs := [(.agg [I p1.Mass, I p1.Heat, I p1.Silica, I p1.Gas])]) rfl enter63 (steam_Stream_validX_ok N p1 _ hf9) rfl rfl (nl_cons (NLt.agg _ (nl_cons (NLt.lit _) (nl_cons (NLt.lit _) (nl_cons (NLt.lit _) (nl_cons (NLt.lit _) nl_nil))))) nl_nil) (NLt.lit _) rfl), fun _ => astep_guard (astep_not rfl), fun _ => astep_pick rfl rfl, trivial⟩
      rcases Bool.eq_false_or_eq_true ((!x10)) with hc11 | hc11
      · replace h := bif_t hc11 h
        refine awp_ift hc11 (by kernel_rfl) ?_
        refine awp_reg [⟨[], [], (.agg [I 0, I 0, I 0, I 0]), [], false⟩, ⟨[], [], (.agg [I 0, I 0, I 0, I 0]), [], false⟩, ⟨[(.tmp 6, .ref 2 4 0 0), (.tmp 17, (.agg [I 0, I 0, I 0, I 0]))], [(2, .own 4 [[I 0, I 0, I 0, I 0]])], .any, [(2, .own 4 [[I 0, I 0, I 0, I 0]])], false⟩, ⟨[(.tmp 7, .ref 3 4 0 0), (.tmp 18, (.agg [I 0, I 0, I 0, I 0]))], [(3, .own 4 [[I 0, I 0, I 0, I 0]])], .any, [(3, .own 4 [[I 0, I 0, I 0, I 0]])], false⟩, ⟨[(.const (.int .i64 1), I 1)], [], I 1, [], false⟩] (by exact ⟨by kernel_rfl, by kernel_rfl⟩) ?_ ?_
        · exact ⟨fun _ => astep_build (vs := []) rfl ts42 tz42 rfl (by rfl) rfl, fun _ => astep_build (vs := []) rfl ts42 tz42 rfl (by rfl) rfl, fun _ => astep_store rfl ti42 (by rfl) rfl (nle7 rfl) rfl, fun _ => astep_store rfl ti42 (by rfl) rfl (nle7 rfl) rfl, fun _ => astep_assign rfl, trivial⟩
        refine awp_ret ?_
        refine thenA_r ?_
        obtain rfl := Option.some.inj h
        exact ⟨⟨[(.agg [I 0, I 0, I 0, I 0]), (.agg [I 0, I 0, I 0, I 0]), I 1], ⟨resOK_cell (n := 2) (m := 4) (j := 0) (i := 0) (xs := [[I 0, I 0, I 0, I 0]]) (by kernel_rfl) (by kernel_rfl) ti42 (by decide) rfl (nle7 rfl) rfl, resOK_cell (n := 3) (m := 4) (j := 0) (i := 0) (xs := [[I 0, I 0, I 0, I 0]]) (by kernel_rfl) (by kernel_rfl) ti42 (by decide) rfl (nle7 rfl) rfl, resOK_tmp (by kernel_rfl), trivial⟩, rfl⟩, (NLt.tup _ (nl_cons (NLt.agg _ (nl_cons (NLt.lit _) (nl_cons (NLt.lit _) (nl_cons (NLt.lit _) (nl_cons (NLt.lit _) nl_nil))))) (nl_cons (NLt.agg _ (nl_cons (NLt.lit _) (nl_cons (NLt.lit _) (nl_cons (NLt.lit _) (nl_cons (NLt.lit _) nl_nil))))) (nl_cons (NLt.lit _) nl_nil)))), Nat.le_refl _, fun n hn => absurd hn (Nat.not_lt_zero n)⟩
      · replace h := bif_f hc11 h
        refine awp_ifn hc11 (by kernel_rfl) ?_
        refine awp_skip ?_
        refine thenA_n ?_
        exact ⟨(), h, (mor_to (n := 51) (l' := [(2, I p2), (3, .ref 0 4 0 0), (4, .ref 1 4 0 0), (6, .ref 2 4 0 0), (7, .ref 3 4 0 0)]) (own' := [(.own 4 [[I p0.Mass, I p0.Heat, I p0.Silica, I p0.Gas]]), (.own 4 [[I p1.Mass, I p1.Heat, I p1.Silica, I p1.Gas]]), (.own 4 [[I 0, I 0, I 0, I 0]]), (.own 4 [[I 0, I 0, I 0, I 0]])]) [(2, I p2), (3, .ref 0 4 0 0), (4, .ref 1 4 0 0), (6, .ref 2 4 0 0), (7, .ref 3 4 0 0)] [0, 1, 2, 3] [(.own 4 [[I p0.Mass, I p0.Heat, I p0.Silica, I p0.Gas]]), (.own 4 [[I p1.Mass, I p1.Heat, I p1.Silica, I p1.Gas]]), (.own 4 [[I 0, I 0, I 0, I 0]]), (.own 4 [[I 0, I 0, I 0, I 0]])] hφ0 (by kernel_rfl) (by kernel_rfl) (by kernel_rfl) ⟨rfl, .rn (.plain _ (NLt.lit _)), rfl, .rn (rnq_ref rfl), rfl, .rn (rnq_ref rfl), rfl, .rn (rnq_ref rfl), rfl, .rn (rnq_ref rfl), trivial⟩ ⟨(spw_box ⟨(.rn (.plain _ (NLt.lit _))), (.rn (.plain _ (NLt.lit _))), (.rn (.plain _ (NLt.lit _))), (.rn (.plain _ (NLt.lit _))), trivial⟩), (spw_box ⟨(.rn (.plain _ (NLt.lit _))), (.rn (.plain _ (NLt.lit _))), (.rn (.plain _ (NLt.lit _))), (.rn (.plain _ (NLt.lit _))), trivial⟩), (spw_box ⟨(.rn (.plain _ (NLt.lit _))), (.rn (.plain _ (NLt.lit _))), (.rn (.plain _ (NLt.lit _))), (.rn (.plain _ (NLt.lit _))), trivial⟩), (spw_box ⟨(.rn (.plain _ (NLt.lit _))), (.rn (.plain _ (NLt.lit _))), (.rn (.plain _ (NLt.lit _))), (.rn (.plain _ (NLt.lit _))), trivial⟩), trivial⟩)⟩

end Go.Proofs.Ytenpbiineblcjaa
