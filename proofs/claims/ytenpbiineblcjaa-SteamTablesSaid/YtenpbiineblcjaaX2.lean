/-
  Functions of the program: what they compute, as plain functions, and that they do. No conditions.
-/
import Derived.Test.YtenpbiineblcjaaX1
import Derived.Test.YtenpbiineblcjaaIterAt
import Derived.Test.YtenpbiineblcjaaAwakeX
namespace Go.Proofs.Ytenpbiineblcjaa
open Go.RowKit

def law01_TableX_loop1 (N : Nat) (p0 : (List GRow)) (k3 : (List GRow) → Option (List GRow)) : Nat → (List GRow) → Int → Option (List GRow)
  | 0, _, _ => none
  | n8 + 1, y4, y5 =>
    bif (decide (y5 < (p0.length : Int))) then
      (getI p0 y5).bind fun x10 =>
      chk (decide ((y4.length + ([x10]).length) * 40 ≤ 140737488355328)) <|
      law01_TableX_loop1 N p0 k3 n8 (y4 ++ ([x10])) (w64 (y5 + 1))
    else
      k3 (y4)
def law01_TableX (N : Nat) (p0 : (List GRow)) : Option (List GRow) :=
  joinK (fun y2 =>
      some y2) fun k3 : (List GRow) → Option (List GRow) =>
  law01_TableX_loop1 N p0 k3 N ([]) 0
set_option maxRecDepth 100000 in
set_option maxHeartbeats 4000000 in
theorem law01_TableX_ok (N : Nat) (p0 : (List GRow)) (r : (List GRow)) (h : law01_TableX N p0 = some r) : Spec Try.prog 19 [(.dat 5 (p0.map c_GRow))] [] (.dat 5 ((r : List GRow).map c_GRow)) [] := by
  refine spec_of_awp Try.func19 rfl 0 (Nat.le_of_ble_eq_true rfl) (fun X φ0 w0 hφ0 => ?_)
  unfold law01_TableX at h
  refine awp_reg [⟨[((.const (.slice none 0 0)), nilS)], [], nilS, [], false⟩] (by exact ⟨by kernel_rfl, by kernel_rfl⟩) ?_ ?_
  · exact ⟨fun _ => astep_assign rfl, trivial⟩
  refine awp_reg [⟨[((.const (.slice none 0 0)), nilS)], [], nilS, [], false⟩] (by exact ⟨by kernel_rfl, by kernel_rfl⟩) ?_ ?_
  · exact ⟨fun _ => astep_assign rfl, trivial⟩
  obtain ⟨k3, hk_k3, h⟩ := joinK_out h
  refine awp_join (τ := (List GRow)) (fun t => k3 t = some r) (fun y2 => ⟨mk 41 [(3, (.acc 0 115 5 ((y2 : List GRow).map c_GRow)))], [.tok]⟩) (fun y2 h => ?_) ?_
  · subst hk_k3
    refine awp_reg [⟨[((.tmp 3), (.acc 0 115 5 ((y2 : List GRow).map c_GRow)))], [], (.acc 0 115 5 ((y2 : List GRow).map c_GRow)), [], false⟩,
    ⟨[((.tmp 40), (.acc 0 115 5 ((y2 : List GRow).map c_GRow)))], [], (.acc 0 115 5 ((y2 : List GRow).map c_GRow)), [], false⟩] (by exact ⟨by kernel_rfl, by kernel_rfl⟩) ?_ ?_
    · exact ⟨fun _ => astep_move rfl,
    fun _ => astep_assign rfl, trivial⟩
    refine awp_mor (mor_to (n := 41) (l' := [(2, (.dat 5 ((y2 : List GRow).map c_GRow)))]) (own' := []) [(2, (.acc 0 115 5 ((y2 : List GRow).map c_GRow)))] [] [] hφ0 (by kernel_rfl) (by kernel_rfl) (by kernel_rfl) ⟨rfl, .dat _ _ _ _ (nl_rows nl_GRow _), trivial⟩ trivial) ?_
    refine awp_ret ?_
    obtain rfl := Option.some.inj h
    exact fin_of (vs := [(.dat 5 ((y2 : List GRow).map c_GRow))]) ⟨resOK_tmp (by kernel_rfl), trivial⟩ rfl (nl_dat nl_GRow _) (by kernel_rfl) snl_nil
  · skip
    refine awp_reg [⟨[((.const (.int .i64 0)), (I (0)))], [], (I (0)), [], false⟩] (by exact ⟨by kernel_rfl, by kernel_rfl⟩) ?_ ?_
    · exact ⟨fun _ => astep_assign rfl, trivial⟩
    refine awp_block ?_
    refine awp_mor (Mor.trans (mor_nil 0 115 5 3 (by kernel_rfl) (by kernel_rfl)) (mor_to (n := 41) (l' := [(0, (.dat 5 ((p0 : List GRow).map c_GRow))), (3, (.acc 0 115 5 ((([]) : List GRow).map c_GRow))), (4, (I (0)))]) (own' := [.tok]) [(0, (.dat 5 ((p0 : List GRow).map c_GRow))), (3, (.acc 0 115 5 (([] : List GRow).map c_GRow))), (4, (I (0)))] [0] [.tok] hφ0 (by kernel_rfl) (by kernel_rfl) (by kernel_rfl) ⟨rfl, .rn (.plain _ (nl_dat nl_GRow _)), rfl, .rn (rnq_acc rfl (nl_rows nl_GRow _)), rfl, .rn (.plain _ (NLt.lit _)), trivial⟩ ⟨.tok, trivial⟩)) ?_
    refine awp_ind (τ := (List GRow) × Int) (fun n t => law01_TableX_loop1 N p0 k3 n t.1 t.2 = some r) (fun ⟨y4, y5⟩ => ⟨mk 41 [(0, (.dat 5 ((p0 : List GRow).map c_GRow))), (3, (.acc 0 115 5 ((y4 : List GRow).map c_GRow))), (4, (I (y5)))], [.tok]⟩) (fun t h => by rw [law01_TableX_loop1] at h; cases h) (fun n8 ih t h => ?_) N ([], 0) h
    obtain ⟨y4, y5⟩ := t
    rw [law01_TableX_loop1] at h
    skip
    refine awp_seq ?_
    refine awp_reg [⟨[((.tmp 4), (I (y5)))], [], (I (y5)), [], false⟩,
    ⟨[((.tmp 0), (.dat 5 ((p0 : List GRow).map c_GRow)))], [], (.dat 5 ((p0 : List GRow).map c_GRow)), [], false⟩,
    ⟨[((.tmp 6), (.dat 5 ((p0 : List GRow).map c_GRow)))], [], (I ((p0.length : Int))), [], false⟩,
    ⟨[((.tmp 5), (I (y5))), ((.tmp 7), (I ((p0.length : Int))))], [], (B ((decide (y5 < (p0.length : Int))))), [], false⟩] (by exact ⟨by kernel_rfl, by kernel_rfl⟩) ?_ ?_
    · exact ⟨fun _ => astep_move rfl,
    fun _ => astep_move rfl,
    fun _ => astep_lenm (c := c_GRow) (l := p0) (astep_len rfl Try.underlying23 rfl),
    fun _ => astep_bin rfl rfl, trivial⟩
    rcases Bool.eq_false_or_eq_true ((decide (y5 < (p0.length : Int)))) with hc9 | hc9
    · replace h := bif_t hc9 h
      refine awp_ift hc9 (by kernel_rfl) ?_
      refine awp_skip ?_
      refine thenA_n ?_
      refine awp_seq ?_
      refine awp_block ?_
      obtain ⟨x10, hg11, h⟩ := bind_out h
      obtain ⟨hi12, hj13⟩ := getI_some hg11
      obtain ⟨ha14, h⟩ := chk_out h
      refine awp_regd1 [⟨[((.tmp 3), (.acc 0 115 5 ((y4 : List GRow).map c_GRow)))], [], (.acc 0 115 5 ((y4 : List GRow).map c_GRow)), [], false⟩,
    ⟨[((.tmp 0), (.dat 5 ((p0 : List GRow).map c_GRow)))], [], (.dat 5 ((p0 : List GRow).map c_GRow)), [], false⟩,
    ⟨[((.tmp 4), (I (y5)))], [], (I (y5)), [], false⟩,
    ⟨[((.tmp 12), (.dat 5 ((p0 : List GRow).map c_GRow))), ((.tmp 13), (I (y5)))], [], (.dptr (c_GRow (x10)) 0), [], false⟩,
    ⟨[((.tmp 14), (.dptr (c_GRow (x10)) 0))], [], (.dptr (c_GRow (x10)) 0), [], false⟩,
    ⟨[((.tmp 15), (.dptr (c_GRow (x10)) 0))], [], (I (x10.T)), [], false⟩,
    ⟨[((.tmp 0), (.dat 5 ((p0 : List GRow).map c_GRow)))], [], (.dat 5 ((p0 : List GRow).map c_GRow)), [], false⟩,
    ⟨[((.tmp 4), (I (y5)))], [], (I (y5)), [], false⟩,
    ⟨[((.tmp 17), (.dat 5 ((p0 : List GRow).map c_GRow))), ((.tmp 18), (I (y5)))], [], (.dptr (c_GRow (x10)) 0), [], false⟩,
    ⟨[((.tmp 19), (.dptr (c_GRow (x10)) 0))], [], (.dptr (c_GRow (x10)) 1), [], false⟩,
    ⟨[((.tmp 20), (.dptr (c_GRow (x10)) 1))], [], (I (x10.P)), [], false⟩,
    ⟨[((.tmp 0), (.dat 5 ((p0 : List GRow).map c_GRow)))], [], (.dat 5 ((p0 : List GRow).map c_GRow)), [], false⟩,
    ⟨[((.tmp 4), (I (y5)))], [], (I (y5)), [], false⟩,
    ⟨[((.tmp 22), (.dat 5 ((p0 : List GRow).map c_GRow))), ((.tmp 23), (I (y5)))], [], (.dptr (c_GRow (x10)) 0), [], false⟩,
    ⟨[((.tmp 24), (.dptr (c_GRow (x10)) 0))], [], (.dptr (c_GRow (x10)) 2), [], false⟩,
    ⟨[((.tmp 25), (.dptr (c_GRow (x10)) 2))], [], (I (x10.Liquid)), [], false⟩,
    ⟨[((.tmp 0), (.dat 5 ((p0 : List GRow).map c_GRow)))], [], (.dat 5 ((p0 : List GRow).map c_GRow)), [], false⟩,
    ⟨[((.tmp 4), (I (y5)))], [], (I (y5)), [], false⟩,
    ⟨[((.tmp 27), (.dat 5 ((p0 : List GRow).map c_GRow))), ((.tmp 28), (I (y5)))], [], (.dptr (c_GRow (x10)) 0), [], false⟩,
    ⟨[((.tmp 29), (.dptr (c_GRow (x10)) 0))], [], (.dptr (c_GRow (x10)) 3), [], false⟩,
    ⟨[((.tmp 30), (.dptr (c_GRow (x10)) 3))], [], (I (x10.Vapour)), [], false⟩,
    ⟨[((.tmp 0), (.dat 5 ((p0 : List GRow).map c_GRow)))], [], (.dat 5 ((p0 : List GRow).map c_GRow)), [], false⟩,
    ⟨[((.tmp 4), (I (y5)))], [], (I (y5)), [], false⟩,
    ⟨[((.tmp 32), (.dat 5 ((p0 : List GRow).map c_GRow))), ((.tmp 33), (I (y5)))], [], (.dptr (c_GRow (x10)) 0), [], false⟩,
    ⟨[((.tmp 34), (.dptr (c_GRow (x10)) 0))], [], (.dptr (c_GRow (x10)) 4), [], false⟩,
    ⟨[((.tmp 35), (.dptr (c_GRow (x10)) 4))], [], (I (x10.Silica)), [], false⟩,
    ⟨[((.tmp 16), (I (x10.T))), ((.tmp 21), (I (x10.P))), ((.tmp 26), (I (x10.Liquid))), ((.tmp 31), (I (x10.Vapour))), ((.tmp 36), (I (x10.Silica)))], [], (.agg [(I (x10.T)), (I (x10.P)), (I (x10.Liquid)), (I (x10.Vapour)), (I (x10.Silica))]), [], false⟩,
    ⟨[((.tmp 37), (.agg [(I (x10.T)), (I (x10.P)), (I (x10.Liquid)), (I (x10.Vapour)), (I (x10.Silica))]))], [], (.dat 5 (([x10] : List GRow).map c_GRow)), [], false⟩,
    ⟨[((.tmp 11), (.acc 0 115 5 ((y4 : List GRow).map c_GRow))), ((.tmp 38), (.dat 5 (([x10] : List GRow).map c_GRow)))], [(0, .tok), (1, .unused)], (.acc 1 115 5 ((y4 ++ ([x10]) : List GRow).map c_GRow)), [(0, .dead), (1, .tok)], false⟩,
    ⟨[((.tmp 39), (.acc 1 115 5 ((y4 ++ ([x10]) : List GRow).map c_GRow)))], [], (.acc 1 115 5 ((y4 ++ ([x10]) : List GRow).map c_GRow)), [], false⟩] (by kernel_rfl) (by exact ⟨by kernel_rfl, by kernel_rfl⟩) (by kernel_rfl) ?_ ?_
      · exact ⟨fun _ => astep_move rfl,
    fun _ => astep_move rfl,
    fun _ => astep_move rfl,
    fun _ => astep_idxd rfl Try.underlying23 ti49 rfl rfl hi12 (map_get c_GRow hj13) rfl,
    fun _ => astep_faddrd rfl Try.underlying49 rfl rfl ti3 (by decide) rfl,
    fun _ => astep_loadd rfl ti3 (by decide) (Nat.le_of_ble_eq_true rfl) rfl,
    fun _ => astep_move rfl,
    fun _ => astep_move rfl,
    fun _ => astep_idxd rfl Try.underlying23 ti49 rfl rfl hi12 (map_get c_GRow hj13) rfl,
    fun _ => astep_faddrd rfl Try.underlying49 rfl rfl ti3 (by decide) rfl,
    fun _ => astep_loadd rfl ti3 (by decide) (Nat.le_of_ble_eq_true rfl) rfl,
    fun _ => astep_move rfl,
    fun _ => astep_move rfl,
    fun _ => astep_idxd rfl Try.underlying23 ti49 rfl rfl hi12 (map_get c_GRow hj13) rfl,
    fun _ => astep_faddrd rfl Try.underlying49 rfl rfl ti3 (by decide) rfl,
    fun _ => astep_loadd rfl ti3 (by decide) (Nat.le_of_ble_eq_true rfl) rfl,
    fun _ => astep_move rfl,
    fun _ => astep_move rfl,
    fun _ => astep_idxd rfl Try.underlying23 ti49 rfl rfl hi12 (map_get c_GRow hj13) rfl,
    fun _ => astep_faddrd rfl Try.underlying49 rfl rfl ti3 (by decide) rfl,
    fun _ => astep_loadd rfl ti3 (by decide) (Nat.le_of_ble_eq_true rfl) rfl,
    fun _ => astep_move rfl,
    fun _ => astep_move rfl,
    fun _ => astep_idxd rfl Try.underlying23 ti49 rfl rfl hi12 (map_get c_GRow hj13) rfl,
    fun _ => astep_faddrd rfl Try.underlying49 rfl rfl ti3 (by decide) rfl,
    fun _ => astep_loadd rfl ti3 (by decide) (Nat.le_of_ble_eq_true rfl) rfl,
    fun _ => astep_build (vs := [(I (x10.T)), (I (x10.P)), (I (x10.Liquid)), (I (x10.Vapour)), (I (x10.Silica))]) rfl ts115 tz115 rfl (by rfl) rfl,
    fun _ => astep_bslice (vs := [(.agg [(I (x10.T)), (I (x10.P)), (I (x10.Liquid)), (I (x10.Vapour)), (I (x10.Silica))])]) rfl Try.underlying30 ti115 tz115 rfl (by decide) rfl (by decide) (by rfl) (by rfl) (by rfl) rfl,
    fun _ => astep_app rfl Try.underlying30 te115 (Base.acc _ _) rfl rfl (by rfl) (app_le1 c_GRow ha14) (app_le2 c_GRow ha14 (by decide)) (app_map c_GRow) rfl rfl,
    fun _ => astep_assign rfl, trivial⟩
      refine blockA_n ?_
      refine thenA_n ?_
      refine awp_reg1 [⟨[((.tmp 4), (I (y5)))], [], (I (y5)), [], false⟩,
    ⟨[((.tmp 9), (I (y5))), ((.const (.int .i64 1)), (I (1)))], [], (I (w64 (y5 + 1))), [], false⟩,
    ⟨[((.tmp 10), (I (w64 (y5 + 1))))], [], (I (w64 (y5 + 1))), [], false⟩] (by exact ⟨by kernel_rfl, by kernel_rfl⟩) ?_ ?_
      · exact ⟨fun _ => astep_move rfl,
    fun _ => astep_bin rfl rfl,
    fun _ => astep_assign rfl, trivial⟩
      refine thenA_n ?_
      exact around_mor (mor_to (n := 41) (l' := [(0, (.dat 5 ((p0 : List GRow).map c_GRow))), (3, (.acc 0 115 5 (((y4 ++ ([x10])) : List GRow).map c_GRow))), (4, (I ((w64 (y5 + 1)))))]) (own' := [.tok]) [(0, (.dat 5 ((p0 : List GRow).map c_GRow))), (3, (.acc 1 115 5 ((y4 ++ ([x10]) : List GRow).map c_GRow))), (4, (I (w64 (y5 + 1))))] [1] [.tok] hφ0 (by kernel_rfl) (by kernel_rfl) (by kernel_rfl) ⟨rfl, .rn (.plain _ (nl_dat nl_GRow _)), rfl, .rn (rnq_acc rfl (nl_rows nl_GRow _)), rfl, .rn (.plain _ (NLt.lit _)), trivial⟩ ⟨.tok, trivial⟩) (ih (y4 ++ ([x10]), w64 (y5 + 1)) h)
    · replace h := bif_f hc9 h
      refine awp_ifn hc9 (by kernel_rfl) ?_
      refine awp_exit ?_
      refine thenA_x ?_
      refine thenA_x ?_
      refine blockA_e rfl ?_
      refine thenA_n ?_
      exact ⟨(y4), h, (mor_to (n := 41) (l' := [(3, (.acc 0 115 5 ((y4 : List GRow).map c_GRow)))]) (own' := [.tok]) [(3, (.acc 0 115 5 ((y4 : List GRow).map c_GRow)))] [0] [.tok] hφ0 (by kernel_rfl) (by kernel_rfl) (by kernel_rfl) ⟨rfl, .rn (rnq_acc rfl (nl_rows nl_GRow _)), trivial⟩ ⟨.tok, trivial⟩)⟩

def steam_Saturation_1X_1 (_N : Nat) (p0 : GRow) (p1 : Int) : Option Bool :=
  some (decide (p1 ≤ p0.T))
set_option maxRecDepth 100000 in
set_option maxHeartbeats 4000000 in
theorem steam_Saturation_1X_1_ok (N : Nat) (p0 : GRow) (p1 : Int) (r : Bool) (h : steam_Saturation_1X_1 N p0 p1 = some r) : Spec Try.prog 75 [(.agg [(I (p0.T)), (I (p0.P)), (I (p0.Liquid)), (I (p0.Vapour)), (I (p0.Silica))]), (.ref 0 1 (0) 0)] [(.own 1 [[(I (p1))]])] (B (r)) [(.own 1 [[(I (p1))]])] := by
  refine spec_of_awp Try.func75 rfl 1 (Nat.le_of_ble_eq_true rfl) (fun X φ0 w0 hφ0 => ?_)
  unfold steam_Saturation_1X_1 at h
  refine awp_reg [⟨[((.tmp 0), (.agg [(I (p0.T)), (I (p0.P)), (I (p0.Liquid)), (I (p0.Vapour)), (I (p0.Silica))]))], [(1, .unused)], (.ref 1 5 (0) 0), [(1, (.own 5 [[(I (p0.T)), (I (p0.P)), (I (p0.Liquid)), (I (p0.Vapour)), (I (p0.Silica))]]))], false⟩,
    ⟨[((.const (.bool false)), (B (false)))], [], (B (false)), [], false⟩] (by exact ⟨by kernel_rfl, by kernel_rfl⟩) ?_ ?_
  · exact ⟨fun _ => astep_box rfl (by rfl) rfl rfl,
    fun _ => astep_assign rfl, trivial⟩
  refine awp_reg [⟨[((.tmp 1), (.ref 0 1 (0) 0))], [(0, (.own 1 [[(I (p1))]]))], (I (p1)), [], false⟩,
    ⟨[((.tmp 2), (.ref 1 5 (0) 0))], [(1, (.own 5 [[(I (p0.T)), (I (p0.P)), (I (p0.Liquid)), (I (p0.Vapour)), (I (p0.Silica))]]))], (.ref 1 5 (0) 0), [], false⟩,
    ⟨[((.tmp 5), (.ref 1 5 (0) 0))], [(1, (.own 5 [[(I (p0.T)), (I (p0.P)), (I (p0.Liquid)), (I (p0.Vapour)), (I (p0.Silica))]]))], (I (p0.T)), [], false⟩,
    ⟨[((.tmp 4), (I (p1))), ((.tmp 6), (I (p0.T)))], [], (B ((decide (p1 ≤ p0.T)))), [], false⟩,
    ⟨[((.tmp 7), (B ((decide (p1 ≤ p0.T)))))], [], (B ((decide (p1 ≤ p0.T)))), [], false⟩] (by exact ⟨by kernel_rfl, by kernel_rfl⟩) ?_ ?_
  · exact ⟨fun _ => astep_load rfl ti3 (by decide) rfl (Nat.le_of_ble_eq_true rfl) rfl,
    fun _ => astep_faddr rfl Try.underlying115 rfl rfl ti3 (by decide) rfl,
    fun _ => astep_load rfl ti3 (by decide) rfl (Nat.le_of_ble_eq_true rfl) rfl,
    fun _ => astep_bin rfl rfl,
    fun _ => astep_assign rfl, trivial⟩
  refine awp_mor (mor_to (n := 8) (l' := [(3, (B ((decide (p1 ≤ p0.T)))))]) (own' := [(.own 1 [[(I (p1))]])]) [(3, (B ((decide (p1 ≤ p0.T)))))] [0] [(.own 1 [[(I (p1))]])] hφ0 (by kernel_rfl) (by kernel_rfl) (by kernel_rfl) ⟨rfl, .rn (.plain _ (NLt.lit _)), trivial⟩ ⟨(spw_box ⟨(.rn (.plain _ (NLt.lit _))), trivial⟩), trivial⟩) ?_
  refine awp_ret ?_
  obtain rfl := Option.some.inj h
  exact fin_of (vs := [(B ((decide (p1 ≤ p0.T))))]) ⟨resOK_tmp (by kernel_rfl), trivial⟩ rfl (NLt.of0 (NLt.lit _)) (by kernel_rfl) (snl_cons (snl_box (nl_cons (NLt.of0 (NLt.lit _)) nl_nil)) snl_nil)

def slices_IndexFunc_steam_Table_steam_RowX_1_loop1 (N : Nat) (p0 : (List GRow)) (p1 : Int) (k2 : Unit → Option Int) : Nat → Int → Option Int
  | 0, _ => none
  | n5 + 1, y3 =>
    bif (decide (y3 < (p0.length : Int))) then
      (getI p0 y3).bind fun x7 =>
      (steam_Saturation_1X_1 N x7 p1).bind fun x12 =>
      bif x12 then
        some y3
      else
        slices_IndexFunc_steam_Table_steam_RowX_1_loop1 N p0 p1 k2 n5 (w64 (y3 + 1))
    else
      k2 ()
def slices_IndexFunc_steam_Table_steam_RowX_1 (N : Nat) (p0 : (List GRow)) (p1 : Int) : Option Int :=
  joinK (fun _ =>
      some (-1)) fun k2 : Unit → Option Int =>
  slices_IndexFunc_steam_Table_steam_RowX_1_loop1 N p0 p1 k2 N 0
set_option maxRecDepth 100000 in
set_option maxHeartbeats 4000000 in
theorem slices_IndexFunc_steam_Table_steam_RowX_1_ok (N : Nat) (p0 : (List GRow)) (p1 : Int) (r : Int) (h : slices_IndexFunc_steam_Table_steam_RowX_1 N p0 p1 = some r) : Spec Try.prog 74 [(.dat 5 ((p0 : List GRow).map c_GRow)), (.fn (.func 75) [] [(.ref 0 1 (0) 0)])] [(.own 1 [[(I (p1))]])] (I (r)) [(.own 1 [[(I (p1))]])] := by
  refine spec_of_awp Try.func74 rfl 1 (Nat.le_of_ble_eq_true rfl) (fun X φ0 w0 hφ0 => ?_)
  unfold slices_IndexFunc_steam_Table_steam_RowX_1 at h
  refine awp_reg [⟨[((.const (.int .i64 0)), (I (0)))], [], (I (0)), [], false⟩] (by exact ⟨by kernel_rfl, by kernel_rfl⟩) ?_ ?_
  · exact ⟨fun _ => astep_assign rfl, trivial⟩
  obtain ⟨k2, hk_k2, h⟩ := joinK_out h
  refine awp_join (τ := Unit) (fun t => k2 t = some r) (fun _ => ⟨mk 19 [], [(.own 1 [[(I (p1))]])]⟩) (fun t h => ?_) ?_
  · subst hk_k2
    refine awp_reg [⟨[((.const (.int .i64 (-1))), (I ((-1))))], [], (I ((-1))), [], false⟩] (by exact ⟨by kernel_rfl, by kernel_rfl⟩) ?_ ?_
    · exact ⟨fun _ => astep_assign rfl, trivial⟩
    refine awp_mor (mor_to (n := 19) (l' := [(4, (I ((-1))))]) (own' := [(.own 1 [[(I (p1))]])]) [(4, (I ((-1))))] [0] [(.own 1 [[(I (p1))]])] hφ0 (by kernel_rfl) (by kernel_rfl) (by kernel_rfl) ⟨rfl, .rn (.plain _ (NLt.lit _)), trivial⟩ ⟨(spw_box ⟨(.rn (.plain _ (NLt.lit _))), trivial⟩), trivial⟩) ?_
    refine awp_ret ?_
    obtain rfl := Option.some.inj h
    exact fin_of (vs := [(I ((-1)))]) ⟨resOK_tmp (by kernel_rfl), trivial⟩ rfl (NLt.of0 (NLt.lit _)) (by kernel_rfl) (snl_cons (snl_box (nl_cons (NLt.of0 (NLt.lit _)) nl_nil)) snl_nil)
  · skip
    refine awp_reg [⟨[((.tmp 0), (.dat 5 ((p0 : List GRow).map c_GRow)))], [], (.dat 5 ((p0 : List GRow).map c_GRow)), [], false⟩,
    ⟨[((.tmp 6), (.dat 5 ((p0 : List GRow).map c_GRow)))], [], (I ((p0.length : Int))), [], false⟩,
    ⟨[((.const (.int .i64 0)), (I (0)))], [], (I (0)), [], false⟩] (by exact ⟨by kernel_rfl, by kernel_rfl⟩) ?_ ?_
    · exact ⟨fun _ => astep_move rfl,
    fun _ => astep_lenm (c := c_GRow) (l := p0) (astep_len rfl Try.underlying30 rfl),
    fun _ => astep_move rfl, trivial⟩
    refine awp_block ?_
    refine awp_mor (mor_to (n := 19) (l' := [(0, (.dat 5 ((p0 : List GRow).map c_GRow))), (1, (.fn (.func 75) [] [(.ref 0 1 (0) 0)])), (7, (I ((p0.length : Int)))), (8, (I (0)))]) (own' := [(.own 1 [[(I (p1))]])]) [(0, (.dat 5 ((p0 : List GRow).map c_GRow))), (1, (.fn (.func 75) [] [(.ref 0 1 (0) 0)])), (7, (I ((p0.length : Int)))), (8, (I (0)))] [0] [(.own 1 [[(I (p1))]])] hφ0 (by kernel_rfl) (by kernel_rfl) (by kernel_rfl) ⟨rfl, .rn (.plain _ (nl_dat nl_GRow _)), rfl, .rn (rn_fn rnl_nil (rnl_cons (rnq_ref rfl) rnl_nil)), rfl, .rn (.plain _ (NLt.lit _)), rfl, .rn (.plain _ (NLt.lit _)), trivial⟩ ⟨(spw_box ⟨(.rn (.plain _ (NLt.lit _))), trivial⟩), trivial⟩) ?_
    refine awp_ind (τ := Int) (fun n t => slices_IndexFunc_steam_Table_steam_RowX_1_loop1 N p0 p1 k2 n t = some r) (fun y3 => ⟨mk 19 [(0, (.dat 5 ((p0 : List GRow).map c_GRow))), (1, (.fn (.func 75) [] [(.ref 0 1 (0) 0)])), (7, (I ((p0.length : Int)))), (8, (I (y3)))], [(.own 1 [[(I (p1))]])]⟩) (fun t h => by rw [slices_IndexFunc_steam_Table_steam_RowX_1_loop1] at h; cases h) (fun n5 ih y3 h => ?_) N (0) h
    rw [slices_IndexFunc_steam_Table_steam_RowX_1_loop1] at h
    skip
    refine awp_reg [⟨[((.tmp 8), (I (y3))), ((.tmp 7), (I ((p0.length : Int))))], [], (B ((decide (y3 < (p0.length : Int))))), [], false⟩] (by exact ⟨by kernel_rfl, by kernel_rfl⟩) ?_ ?_
    · exact ⟨fun _ => astep_bin rfl rfl, trivial⟩
    refine awp_seq ?_
    rcases Bool.eq_false_or_eq_true ((decide (y3 < (p0.length : Int)))) with hc6 | hc6
    · replace h := bif_t hc6 h
      refine awp_ift hc6 (by kernel_rfl) ?_
      refine awp_skip ?_
      refine thenA_n ?_
      refine awp_seq ?_
      refine awp_block ?_
      refine awp_reg [⟨[((.tmp 8), (I (y3)))], [], (I (y3)), [], false⟩,
    ⟨[((.tmp 10), (I (y3)))], [], (I (y3)), [], false⟩] (by exact ⟨by kernel_rfl, by kernel_rfl⟩) ?_ ?_
      · exact ⟨fun _ => astep_move rfl,
    fun _ => astep_assign rfl, trivial⟩
      obtain ⟨x7, hg8, h⟩ := bind_out h
      obtain ⟨hi9, hj10⟩ := getI_some hg8
      obtain ⟨x12, hf11, h⟩ := bind_out h
      refine awp_reg [⟨[((.tmp 1), (.fn (.func 75) [] [(.ref 0 1 (0) 0)]))], [], (.fn (.func 75) [] [(.ref 0 1 (0) 0)]), [], false⟩,
    ⟨[((.tmp 0), (.dat 5 ((p0 : List GRow).map c_GRow)))], [], (.dat 5 ((p0 : List GRow).map c_GRow)), [], false⟩,
    ⟨[((.tmp 5), (I (y3)))], [], (I (y3)), [], false⟩,
    ⟨[((.tmp 12), (.dat 5 ((p0 : List GRow).map c_GRow))), ((.tmp 13), (I (y3)))], [], (.dptr (c_GRow (x7)) 0), [], false⟩,
    ⟨[((.tmp 14), (.dptr (c_GRow (x7)) 0))], [], (.agg [(I (x7.T)), (I (x7.P)), (I (x7.Liquid)), (I (x7.Vapour)), (I (x7.Silica))]), [], false⟩,
    ⟨[((.tmp 11), (.fn (.func 75) [] [(.ref 0 1 (0) 0)])), ((.tmp 15), (.agg [(I (x7.T)), (I (x7.P)), (I (x7.Liquid)), (I (x7.Vapour)), (I (x7.Silica))]))], [(0, (.own 1 [[(I (p1))]]))], (B (x12)), [(0, (.own 1 [[(I (p1))]]))], false⟩] (by exact ⟨by kernel_rfl, by kernel_rfl⟩) ?_ ?_
      · exact ⟨fun _ => astep_move rfl,
    fun _ => astep_move rfl,
    fun _ => astep_move rfl,
    fun _ => astep_idxd rfl Try.underlying30 ti115 rfl rfl hi9 (map_get c_GRow hj10) rfl,
    fun _ => astep_loadd rfl ti115 (by decide) (Nat.le_of_ble_eq_true rfl) rfl,
    fun _ => astep_callq (first := []) (cap := [(.ref 0 1 (0) 0)]) (vs := [(.agg [(I (x7.T)), (I (x7.P)), (I (x7.Liquid)), (I (x7.Vapour)), (I (x7.Silica))])]) (σr := [(.own 1 [[(I (p1))]])]) (σr' := [(.own 1 [[(I (p1))]])]) (res' := (B (x12))) [0] rfl enter75 (steam_Saturation_1X_1_ok N x7 p1 _ hf11) rfl (rn_agg (rnl_cons (.plain _ (NLt.agg _ (nl_cons (NLt.lit _) (nl_cons (NLt.lit _) (nl_cons (NLt.lit _) (nl_cons (NLt.lit _) (nl_cons (NLt.lit _) nl_nil))))))) (rnl_cons (rnk_ref rfl) rnl_nil))) (slw_cons (srn_box (rnl_cons (.plain _ (NLt.lit _)) rnl_nil)) slw_nil) (slw_cons (srn_box (rnl_cons (.plain _ (NLt.lit _)) rnl_nil)) slw_nil) (.plain _ (NLt.lit _)) rfl rfl rfl, trivial⟩
      rcases Bool.eq_false_or_eq_true (x12) with hc13 | hc13
      · replace h := bif_t hc13 h
        refine awp_ift hc13 (by kernel_rfl) ?_
        refine awp_reg [⟨[((.tmp 5), (I (y3)))], [], (I (y3)), [], false⟩,
    ⟨[((.tmp 17), (I (y3)))], [], (I (y3)), [], false⟩] (by exact ⟨by kernel_rfl, by kernel_rfl⟩) ?_ ?_
        · exact ⟨fun _ => astep_move rfl,
    fun _ => astep_assign rfl, trivial⟩
        refine awp_mor (mor_to (n := 19) (l' := [(4, (I (y3)))]) (own' := [(.own 1 [[(I (p1))]])]) [(4, (I (y3)))] [0] [(.own 1 [[(I (p1))]])] hφ0 (by kernel_rfl) (by kernel_rfl) (by kernel_rfl) ⟨rfl, .rn (.plain _ (NLt.lit _)), trivial⟩ ⟨(spw_box ⟨(.rn (.plain _ (NLt.lit _))), trivial⟩), trivial⟩) ?_
        refine awp_ret ?_
        refine blockA_r ?_
        refine thenA_r ?_
        refine thenA_r ?_
        refine blockA_r ?_
        refine thenA_r ?_
        obtain rfl := Option.some.inj h
        exact fin_of (vs := [(I (y3))]) ⟨resOK_tmp (by kernel_rfl), trivial⟩ rfl (NLt.of0 (NLt.lit _)) (by kernel_rfl) (snl_cons (snl_box (nl_cons (NLt.of0 (NLt.lit _)) nl_nil)) snl_nil)
      · replace h := bif_f hc13 h
        refine awp_ifn hc13 (by kernel_rfl) ?_
        refine awp_skip ?_
        refine blockA_n ?_
        refine thenA_n ?_
        refine awp_reg1 [⟨[((.tmp 8), (I (y3))), ((.const (.int .i64 1)), (I (1)))], [], (I (w64 (y3 + 1))), [], false⟩,
    ⟨[((.tmp 18), (I (w64 (y3 + 1))))], [], (I (w64 (y3 + 1))), [], false⟩] (by exact ⟨by kernel_rfl, by kernel_rfl⟩) ?_ ?_
        · exact ⟨fun _ => astep_bin rfl rfl,
    fun _ => astep_move rfl, trivial⟩
        refine thenA_n ?_
        exact around_mor (mor_to (n := 19) (l' := [(0, (.dat 5 ((p0 : List GRow).map c_GRow))), (1, (.fn (.func 75) [] [(.ref 0 1 (0) 0)])), (7, (I ((p0.length : Int)))), (8, (I ((w64 (y3 + 1)))))]) (own' := [(.own 1 [[(I (p1))]])]) [(0, (.dat 5 ((p0 : List GRow).map c_GRow))), (1, (.fn (.func 75) [] [(.ref 0 1 (0) 0)])), (7, (I ((p0.length : Int)))), (8, (I (w64 (y3 + 1))))] [0] [(.own 1 [[(I (p1))]])] hφ0 (by kernel_rfl) (by kernel_rfl) (by kernel_rfl) ⟨rfl, .rn (.plain _ (nl_dat nl_GRow _)), rfl, .rn (rn_fn rnl_nil (rnl_cons (rnq_ref rfl) rnl_nil)), rfl, .rn (.plain _ (NLt.lit _)), rfl, .rn (.plain _ (NLt.lit _)), trivial⟩ ⟨(spw_box ⟨(.rn (.plain _ (NLt.lit _))), trivial⟩), trivial⟩) (ih (w64 (y3 + 1)) h)
    · replace h := bif_f hc6 h
      refine awp_ifn hc6 (by kernel_rfl) ?_
      refine awp_exit ?_
      refine thenA_x ?_
      refine thenA_x ?_
      refine blockA_e rfl ?_
      refine thenA_n ?_
      exact ⟨(), h, (mor_to (n := 19) (l' := []) (own' := [(.own 1 [[(I (p1))]])]) [] [0] [(.own 1 [[(I (p1))]])] hφ0 (by kernel_rfl) (by kernel_rfl) (by kernel_rfl) trivial ⟨(spw_box ⟨(.rn (.plain _ (NLt.lit _))), trivial⟩), trivial⟩)⟩

def steam_gcdX_loop1 (N : Nat) (k2 : Int → Option Int) : Nat → Int → Int → Option Int
  | 0, _, _ => none
  | n7 + 1, y3, y4 =>
    bif (decide (y4 > 0)) then
      chk (y4 != 0) <|
      steam_gcdX_loop1 N k2 n7 y4 (y3.tmod y4)
    else
      k2 (y3)
def steam_gcdX (N : Nat) (p0 : Int) (p1 : Int) : Option Int :=
  joinK (fun y1 =>
      some y1) fun k2 : Int → Option Int =>
  steam_gcdX_loop1 N k2 N p0 p1
set_option maxRecDepth 100000 in
set_option maxHeartbeats 4000000 in
theorem steam_gcdX_ok (N : Nat) (p0 : Int) (p1 : Int) (r : Int) (h : steam_gcdX N p0 p1 = some r) : Spec Try.prog 76 [(I p0), (I p1)] [] (I r) [] := by
  refine spec_of_awp Try.func76 rfl 0 (Nat.le_of_ble_eq_true rfl) (fun X φ0 w0 hφ0 => ?_)
  unfold steam_gcdX at h
  refine awp_reg [⟨[((.const (.int .i64 0)), (I (0)))], [], (I (0)), [], false⟩] (by exact ⟨by kernel_rfl, by kernel_rfl⟩) ?_ ?_
  · exact ⟨fun _ => astep_assign rfl, trivial⟩
  obtain ⟨k2, hk_k2, h⟩ := joinK_out h
  refine awp_join (τ := Int) (fun t => k2 t = some r) (fun y1 => ⟨mk 12 [(0, (I (y1)))], []⟩) (fun y1 h => ?_) ?_
  · subst hk_k2
    refine awp_reg [⟨[((.tmp 0), (I (y1)))], [], (I (y1)), [], false⟩,
    ⟨[((.tmp 11), (I (y1)))], [], (I (y1)), [], false⟩] (by exact ⟨by kernel_rfl, by kernel_rfl⟩) ?_ ?_
    · exact ⟨fun _ => astep_move rfl,
    fun _ => astep_assign rfl, trivial⟩
    refine awp_ret ?_
    obtain rfl := Option.some.inj h
    exact ⟨⟨[(I (y1))], ⟨resOK_tmp (by kernel_rfl), trivial⟩, rfl⟩, (NLt.lit _), Nat.le_refl _, fun n hn => absurd hn (Nat.not_lt_zero n)⟩
  · skip
    refine awp_block ?_
    refine awp_mor (mor_to (n := 12) (l' := [(0, (I (p0))), (1, (I (p1)))]) (own' := []) [(0, (I (p0))), (1, (I (p1)))] [] [] hφ0 (by kernel_rfl) (by kernel_rfl) (by kernel_rfl) ⟨rfl, .rn (.plain _ (NLt.lit _)), rfl, .rn (.plain _ (NLt.lit _)), trivial⟩ trivial) ?_
    refine awp_ind (τ := Int × Int) (fun n t => steam_gcdX_loop1 N k2 n t.1 t.2 = some r) (fun ⟨y3, y4⟩ => ⟨mk 12 [(0, (I (y3))), (1, (I (y4)))], []⟩) (fun t h => by rw [steam_gcdX_loop1] at h; cases h) (fun n7 ih t h => ?_) N (p0, p1) h
    obtain ⟨y3, y4⟩ := t
    rw [steam_gcdX_loop1] at h
    skip
    refine awp_seq ?_
    refine awp_reg [⟨[((.tmp 1), (I (y4)))], [], (I (y4)), [], false⟩,
    ⟨[((.tmp 5), (I (y4))), ((.const (.int .i64 0)), (I (0)))], [], (B ((decide (y4 > 0)))), [], false⟩] (by exact ⟨by kernel_rfl, by kernel_rfl⟩) ?_ ?_
    · exact ⟨fun _ => astep_move rfl,
    fun _ => astep_bin rfl rfl, trivial⟩
    rcases Bool.eq_false_or_eq_true ((decide (y4 > 0))) with hc8 | hc8
    · replace h := bif_t hc8 h
      refine awp_ift hc8 (by kernel_rfl) ?_
      refine awp_skip ?_
      refine thenA_n ?_
      refine awp_block ?_
      obtain ⟨hz9, h⟩ := chk_out h
      refine awp_regd1 [⟨[((.tmp 1), (I (y4)))], [], (I (y4)), [], false⟩,
    ⟨[((.tmp 0), (I (y3)))], [], (I (y3)), [], false⟩,
    ⟨[((.tmp 1), (I (y4)))], [], (I (y4)), [], false⟩,
    ⟨[((.tmp 8), (I (y3))), ((.tmp 9), (I (y4)))], [], (I (y3.tmod y4)), [], false⟩,
    ⟨[((.tmp 7), (I (y4)))], [], (I (y4)), [], false⟩,
    ⟨[((.tmp 10), (I (y3.tmod y4)))], [], (I (y3.tmod y4)), [], false⟩] (by kernel_rfl) (by exact ⟨by kernel_rfl, by kernel_rfl⟩) (by kernel_rfl) ?_ ?_
      · exact ⟨fun _ => astep_move rfl,
    fun _ => astep_move rfl,
    fun _ => astep_move rfl,
    fun _ => astep_rem rfl (bne_out hz9),
    fun _ => astep_assign rfl,
    fun _ => astep_assign rfl, trivial⟩
      refine blockA_n ?_
      refine thenA_n ?_
      exact around_mor (mor_to (n := 12) (l' := [(0, (I (y4))), (1, (I ((y3.tmod y4))))]) (own' := []) [(0, (I (y4))), (1, (I (y3.tmod y4)))] [] [] hφ0 (by kernel_rfl) (by kernel_rfl) (by kernel_rfl) ⟨rfl, .rn (.plain _ (NLt.lit _)), rfl, .rn (.plain _ (NLt.lit _)), trivial⟩ trivial) (ih (y4, y3.tmod y4) h)
    · replace h := bif_f hc8 h
      refine awp_ifn hc8 (by kernel_rfl) ?_
      refine awp_exit ?_
      refine thenA_x ?_
      refine thenA_x ?_
      refine blockA_e rfl ?_
      refine thenA_n ?_
      exact ⟨(y3), h, (mor_to (n := 12) (l' := [(0, (I (y3)))]) (own' := []) [(0, (I (y3)))] [] [] hφ0 (by kernel_rfl) (by kernel_rfl) (by kernel_rfl) ⟨rfl, .rn (.plain _ (NLt.lit _)), trivial⟩ trivial)⟩

def steam_SaturationX (N : Nat) (p0 : (List GRow)) (p1 : Int) : Option (GRatio × Int) :=
  (steam_Table_validX N p0).bind fun x2 =>
  bif (!x2) then
    some ((⟨0, 0⟩ : GRatio), 1)
  else
    (getI p0 0).bind fun x4 =>
    (getI p0 (w64 ((p0.length : Int) - 1))).bind fun x8 =>
    (steam_withinX N p1 x4.T x8.T).bind fun x13 =>
    bif (!x13) then
      some ((⟨0, 0⟩ : GRatio), 2)
    else
      chk (decide (0 ≤ 1) && decide (1 ≤ (p0.length : Int)) && decide ((p0.length : Int) ≤ (p0.length : Int))) <|
      (slices_IndexFunc_steam_Table_steam_RowX_1 N (p0.drop (1 : Int).toNat) p1).bind fun x17 =>
      (getI p0 x17).bind fun x18 =>
      (getI p0 (w64 (x17 + 1))).bind fun x22 =>
      (some (w64 ((w64 (x18.P * (w64 (x22.T - p1)))) + (w64 (x22.P * (w64 (p1 - x18.T))))))).bind fun x26 =>
      (steam_gcdX N x26 (w64 (x22.T - x18.T))).bind fun x29 =>
      chk (x29 != 0) <|
      chk (x29 != 0) <|
      some ((⟨w64 (x26.tdiv x29), w64 ((w64 (x22.T - x18.T)).tdiv x29)⟩ : GRatio), 0)
set_option maxRecDepth 100000 in
set_option maxHeartbeats 4000000 in
theorem steam_SaturationX_ok (N : Nat) (p0 : (List GRow)) (p1 : Int) (r : (GRatio × Int)) (h : steam_SaturationX N p0 p1 = some r) : Spec Try.prog 41 [(.dat 5 (p0.map c_GRow)), (I p1)] [] (.tup [(.agg (c_GRatio r.1)), (I r.2)]) [] := by
  refine spec_of_awp Try.func41 rfl 0 (Nat.le_of_ble_eq_true rfl) (fun X φ0 w0 hφ0 => ?_)
  unfold steam_SaturationX at h
  refine awp_reg [⟨[((.tmp 1), (I (p1)))], [(0, .unused)], (.ref 0 1 (0) 0), [(0, (.own 1 [[(I (p1))]]))], false⟩,
    ⟨[], [(1, .unused)], (.ref 1 2 (0) 0), [(1, (.own 2 [[(I (0)), (I (0))]]))], false⟩,
    ⟨[((.const (.int .i64 0)), (I (0)))], [], (I (0)), [], false⟩] (by exact ⟨by kernel_rfl, by kernel_rfl⟩) ?_ ?_
  · exact ⟨fun _ => astep_box rfl (by rfl) rfl rfl,
    fun _ => astep_alloc rfl tz83 rfl,
    fun _ => astep_assign rfl, trivial⟩
  refine awp_seq ?_
  obtain ⟨x2, hf1, h⟩ := bind_out h
  refine awp_reg [⟨[((.tmp 0), (.dat 5 ((p0 : List GRow).map c_GRow)))], [], (.dat 5 ((p0 : List GRow).map c_GRow)), [], false⟩,
    ⟨[((.func 56), (.fn (.func 56) [] [])), ((.tmp 12), (.dat 5 ((p0 : List GRow).map c_GRow)))], [], (B (x2)), [], false⟩,
    ⟨[((.tmp 13), (B (x2)))], [], (B ((!x2))), [], false⟩] (by exact ⟨by kernel_rfl, by kernel_rfl⟩) ?_ ?_
  · exact ⟨fun _ => astep_move rfl,
    fun _ => astep_pcall (first := []) (cap := []) (vs := [(.dat 5 ((p0 : List GRow).map c_GRow))]) rfl enter56 (steam_Table_validX_ok N p0 _ hf1) rfl rfl (nl_cons (nl_dat nl_GRow _) nl_nil) (NLt.lit _) rfl,
    fun _ => astep_not rfl, trivial⟩
  rcases Bool.eq_false_or_eq_true ((!x2)) with hc3 | hc3
  · replace h := bif_t hc3 h
    refine awp_ift hc3 (by kernel_rfl) ?_
    refine awp_reg [⟨[], [], (.agg [(I (0)), (I (0))]), [], false⟩,
    ⟨[((.tmp 4), (.ref 1 2 (0) 0)), ((.tmp 15), (.agg [(I (0)), (I (0))]))], [(1, (.own 2 [[(I (0)), (I (0))]]))], .any, [(1, (.own 2 [[(I (0)), (I (0))]]))], false⟩,
    ⟨[((.const (.int .i64 1)), (I (1)))], [], (I (1)), [], false⟩] (by exact ⟨by kernel_rfl, by kernel_rfl⟩) ?_ ?_
    · exact ⟨fun _ => astep_build (vs := []) rfl ts83 tz83 rfl (by rfl) rfl,
    fun _ => astep_store rfl ti83 (by rfl) rfl (Nat.le_of_ble_eq_true rfl) rfl,
    fun _ => astep_assign rfl, trivial⟩
    refine awp_ret ?_
    refine thenA_r ?_
    obtain rfl := Option.some.inj h
    exact ⟨⟨[(.agg [(I (0)), (I (0))]), (I (1))], ⟨resOK_cell (n := 1) (m := 2) (j := 0) (i := 0) (xs := [[(I (0)), (I (0))]]) (by kernel_rfl) (by kernel_rfl) ti83 (by decide) rfl (Nat.le_of_ble_eq_true rfl) rfl, resOK_tmp (by kernel_rfl), trivial⟩, rfl⟩, (NLt.tup _ (nl_cons (NLt.agg _ (nl_cons (NLt.lit _) (nl_cons (NLt.lit _) nl_nil))) (nl_cons (NLt.lit _) nl_nil))), Nat.le_refl _, fun n hn => absurd hn (Nat.not_lt_zero n)⟩
  · replace h := bif_f hc3 h
    refine awp_ifn hc3 (by kernel_rfl) ?_
    refine awp_skip ?_
    refine thenA_n ?_
    refine awp_seq ?_
    obtain ⟨x4, hg5, h⟩ := bind_out h
    obtain ⟨hi6, hj7⟩ := getI_some hg5
    obtain ⟨x8, hg9, h⟩ := bind_out h
    obtain ⟨hi10, hj11⟩ := getI_some hg9
    obtain ⟨x13, hf12, h⟩ := bind_out h
    refine awp_regd [⟨[((.tmp 3), (.ref 0 1 (0) 0))], [(0, (.own 1 [[(I (p1))]]))], (I (p1)), [], false⟩,
    ⟨[((.tmp 0), (.dat 5 ((p0 : List GRow).map c_GRow)))], [], (.dat 5 ((p0 : List GRow).map c_GRow)), [], false⟩,
    ⟨[((.tmp 17), (.dat 5 ((p0 : List GRow).map c_GRow))), ((.const (.int .i64 0)), (I (0)))], [], (.dptr (c_GRow (x4)) 0), [], false⟩,
    ⟨[((.tmp 18), (.dptr (c_GRow (x4)) 0))], [], (.dptr (c_GRow (x4)) 0), [], false⟩,
    ⟨[((.tmp 19), (.dptr (c_GRow (x4)) 0))], [], (I (x4.T)), [], false⟩,
    ⟨[((.tmp 0), (.dat 5 ((p0 : List GRow).map c_GRow)))], [], (.dat 5 ((p0 : List GRow).map c_GRow)), [], false⟩,
    ⟨[((.tmp 0), (.dat 5 ((p0 : List GRow).map c_GRow)))], [], (.dat 5 ((p0 : List GRow).map c_GRow)), [], false⟩,
    ⟨[((.tmp 22), (.dat 5 ((p0 : List GRow).map c_GRow)))], [], (I ((p0.length : Int))), [], false⟩,
    ⟨[((.tmp 23), (I ((p0.length : Int)))), ((.const (.int .i64 1)), (I (1)))], [], (I (w64 ((p0.length : Int) - 1))), [], false⟩,
    ⟨[((.tmp 21), (.dat 5 ((p0 : List GRow).map c_GRow))), ((.tmp 24), (I (w64 ((p0.length : Int) - 1))))], [], (.dptr (c_GRow (x8)) 0), [], false⟩,
    ⟨[((.tmp 25), (.dptr (c_GRow (x8)) 0))], [], (.dptr (c_GRow (x8)) 0), [], false⟩,
    ⟨[((.tmp 26), (.dptr (c_GRow (x8)) 0))], [], (I (x8.T)), [], false⟩,
    ⟨[((.func 65), (.fn (.func 65) [] [])), ((.tmp 16), (I (p1))), ((.tmp 20), (I (x4.T))), ((.tmp 27), (I (x8.T)))], [], (B (x13)), [], false⟩,
    ⟨[((.tmp 28), (B (x13)))], [], (B ((!x13))), [], false⟩] (by kernel_rfl) (by exact ⟨by kernel_rfl, by kernel_rfl⟩) (by kernel_rfl) ?_ ?_
    · exact ⟨fun _ => astep_load rfl ti3 (by decide) rfl (Nat.le_of_ble_eq_true rfl) rfl,
    fun _ => astep_move rfl,
    fun _ => astep_idxd rfl Try.underlying30 ti115 rfl rfl hi6 (map_get c_GRow hj7) rfl,
    fun _ => astep_faddrd rfl Try.underlying115 rfl rfl ti3 (by decide) rfl,
    fun _ => astep_loadd rfl ti3 (by decide) (Nat.le_of_ble_eq_true rfl) rfl,
    fun _ => astep_move rfl,
    fun _ => astep_move rfl,
    fun _ => astep_lenm (c := c_GRow) (l := p0) (astep_len rfl Try.underlying30 rfl),
    fun _ => astep_bin rfl rfl,
    fun _ => astep_idxd rfl Try.underlying30 ti115 rfl rfl hi10 (map_get c_GRow hj11) rfl,
    fun _ => astep_faddrd rfl Try.underlying115 rfl rfl ti3 (by decide) rfl,
    fun _ => astep_loadd rfl ti3 (by decide) (Nat.le_of_ble_eq_true rfl) rfl,
    fun _ => astep_pcall (first := []) (cap := []) (vs := [(I (p1)), (I (x4.T)), (I (x8.T))]) rfl enter65 (steam_withinX_ok N p1 x4.T x8.T _ hf12) rfl rfl (nl_cons (NLt.lit _) (nl_cons (NLt.lit _) (nl_cons (NLt.lit _) nl_nil))) (NLt.lit _) rfl,
    fun _ => astep_not rfl, trivial⟩
    rcases Bool.eq_false_or_eq_true ((!x13)) with hc14 | hc14
    · replace h := bif_t hc14 h
      refine awp_ift hc14 (by kernel_rfl) ?_
      refine awp_reg [⟨[], [], (.agg [(I (0)), (I (0))]), [], false⟩,
    ⟨[((.tmp 4), (.ref 1 2 (0) 0)), ((.tmp 30), (.agg [(I (0)), (I (0))]))], [(1, (.own 2 [[(I (0)), (I (0))]]))], .any, [(1, (.own 2 [[(I (0)), (I (0))]]))], false⟩,
    ⟨[((.const (.int .i64 2)), (I (2)))], [], (I (2)), [], false⟩] (by exact ⟨by kernel_rfl, by kernel_rfl⟩) ?_ ?_
      · exact ⟨fun _ => astep_build (vs := []) rfl ts83 tz83 rfl (by rfl) rfl,
    fun _ => astep_store rfl ti83 (by rfl) rfl (Nat.le_of_ble_eq_true rfl) rfl,
    fun _ => astep_assign rfl, trivial⟩
      refine awp_ret ?_
      refine thenA_r ?_
      obtain rfl := Option.some.inj h
      exact ⟨⟨[(.agg [(I (0)), (I (0))]), (I (2))], ⟨resOK_cell (n := 1) (m := 2) (j := 0) (i := 0) (xs := [[(I (0)), (I (0))]]) (by kernel_rfl) (by kernel_rfl) ti83 (by decide) rfl (Nat.le_of_ble_eq_true rfl) rfl, resOK_tmp (by kernel_rfl), trivial⟩, rfl⟩, (NLt.tup _ (nl_cons (NLt.agg _ (nl_cons (NLt.lit _) (nl_cons (NLt.lit _) nl_nil))) (nl_cons (NLt.lit _) nl_nil))), Nat.le_refl _, fun n hn => absurd hn (Nat.not_lt_zero n)⟩
    · replace h := bif_f hc14 h
      refine awp_ifn hc14 (by kernel_rfl) ?_
      refine awp_skip ?_
      refine thenA_n ?_
      obtain ⟨hs15, h⟩ := chk_out h
      obtain ⟨x17, hf16, h⟩ := bind_out h
      refine awp_reg [⟨[((.tmp 0), (.dat 5 ((p0 : List GRow).map c_GRow)))], [], (.dat 5 ((p0 : List GRow).map c_GRow)), [], false⟩,
    ⟨[((.tmp 31), (.dat 5 ((p0 : List GRow).map c_GRow))), ((.const (.int .i64 1)), (I (1)))], [], (.dat 5 ((p0.drop (1 : Int).toNat : List GRow).map c_GRow)), [], false⟩,
    ⟨[((.tmp 3), (.ref 0 1 (0) 0))], [], (.fn (.func 75) [] [(.ref 0 1 (0) 0)]), [], false⟩,
    ⟨[((.func 74), (.fn (.func 74) [] [])), ((.tmp 32), (.dat 5 ((p0.drop (1 : Int).toNat : List GRow).map c_GRow))), ((.tmp 33), (.fn (.func 75) [] [(.ref 0 1 (0) 0)]))], [(0, (.own 1 [[(I (p1))]]))], (I (x17)), [(0, (.own 1 [[(I (p1))]]))], false⟩,
    ⟨[((.tmp 34), (I (x17)))], [], (I (x17)), [], false⟩] (by exact ⟨by kernel_rfl, by kernel_rfl⟩) ?_ ?_
      · exact ⟨fun _ => astep_move rfl,
    fun _ => astep_sliced (k := .i64) (k' := .i64) (lo := some (.const (.int .i64 1))) (hi := none) (l := 1) (hh := ((p0.length : Nat) : Int)) rfl Try.underlying30 ti115 rfl (fun e => nomatch e) (fun _ => by simp) (and3a hs15) (and3b hs15) (and3c (c_GRow) hs15) (sl_ln c_GRow),
    fun _ => astep_func (fs := []) (cs := [(.ref 0 1 (0) 0)]) rfl rfl rfl rfl,
    fun _ => astep_callq (first := []) (cap := []) (vs := [(.dat 5 (((p0.drop (1 : Int).toNat) : List GRow).map c_GRow)), (.fn (.func 75) [] [(.ref 0 1 (0) 0)])]) (σr := [(.own 1 [[(I (p1))]])]) (σr' := [(.own 1 [[(I (p1))]])]) (res' := (I (x17))) [0] rfl enter74 (slices_IndexFunc_steam_Table_steam_RowX_1_ok N (p0.drop (1 : Int).toNat) p1 _ hf16) rfl (rn_agg (rnl_cons (.plain _ (nl_dat nl_GRow _)) (rnl_cons (rn_fn rnl_nil (rnl_cons (rnk_ref rfl) rnl_nil)) rnl_nil))) (slw_cons (srn_box (rnl_cons (.plain _ (NLt.lit _)) rnl_nil)) slw_nil) (slw_cons (srn_box (rnl_cons (.plain _ (NLt.lit _)) rnl_nil)) slw_nil) (.plain _ (NLt.lit _)) rfl rfl rfl,
    fun _ => astep_assign rfl, trivial⟩
      obtain ⟨x18, hg19, h⟩ := bind_out h
      obtain ⟨hi20, hj21⟩ := getI_some hg19
      obtain ⟨x22, hg23, h⟩ := bind_out h
      obtain ⟨hi24, hj25⟩ := getI_some hg23
      refine awp_regd [⟨[((.tmp 0), (.dat 5 ((p0 : List GRow).map c_GRow)))], [], (.dat 5 ((p0 : List GRow).map c_GRow)), [], false⟩,
    ⟨[((.tmp 6), (I (x17)))], [], (I (x17)), [], false⟩,
    ⟨[((.tmp 35), (.dat 5 ((p0 : List GRow).map c_GRow))), ((.tmp 36), (I (x17)))], [], (.dptr (c_GRow (x18)) 0), [], false⟩,
    ⟨[((.tmp 37), (.dptr (c_GRow (x18)) 0))], [], (.agg [(I (x18.T)), (I (x18.P)), (I (x18.Liquid)), (I (x18.Vapour)), (I (x18.Silica))]), [], false⟩,
    ⟨[((.tmp 0), (.dat 5 ((p0 : List GRow).map c_GRow)))], [], (.dat 5 ((p0 : List GRow).map c_GRow)), [], false⟩,
    ⟨[((.tmp 6), (I (x17)))], [], (I (x17)), [], false⟩,
    ⟨[((.tmp 40), (I (x17))), ((.const (.int .i64 1)), (I (1)))], [], (I (w64 (x17 + 1))), [], false⟩,
    ⟨[((.tmp 39), (.dat 5 ((p0 : List GRow).map c_GRow))), ((.tmp 41), (I (w64 (x17 + 1))))], [], (.dptr (c_GRow (x22)) 0), [], false⟩,
    ⟨[((.tmp 42), (.dptr (c_GRow (x22)) 0))], [], (.agg [(I (x22.T)), (I (x22.P)), (I (x22.Liquid)), (I (x22.Vapour)), (I (x22.Silica))]), [], false⟩,
    ⟨[], [(2, .unused)], (.ref 2 5 (0) 0), [(2, (.own 5 [[(I (0)), (I (0)), (I (0)), (I (0)), (I (0))]]))], false⟩,
    ⟨[], [(3, .unused)], (.ref 3 5 (0) 0), [(3, (.own 5 [[(I (0)), (I (0)), (I (0)), (I (0)), (I (0))]]))], false⟩,
    ⟨[((.tmp 7), (.ref 2 5 (0) 0)), ((.tmp 38), (.agg [(I (x18.T)), (I (x18.P)), (I (x18.Liquid)), (I (x18.Vapour)), (I (x18.Silica))]))], [(2, (.own 5 [[(I (0)), (I (0)), (I (0)), (I (0)), (I (0))]]))], .any, [(2, (.own 5 [[(I (x18.T)), (I (x18.P)), (I (x18.Liquid)), (I (x18.Vapour)), (I (x18.Silica))]]))], false⟩,
    ⟨[((.tmp 8), (.ref 3 5 (0) 0)), ((.tmp 43), (.agg [(I (x22.T)), (I (x22.P)), (I (x22.Liquid)), (I (x22.Vapour)), (I (x22.Silica))]))], [(3, (.own 5 [[(I (0)), (I (0)), (I (0)), (I (0)), (I (0))]]))], .any, [(3, (.own 5 [[(I (x22.T)), (I (x22.P)), (I (x22.Liquid)), (I (x22.Vapour)), (I (x22.Silica))]]))], false⟩] (by kernel_rfl) (by exact ⟨by kernel_rfl, by kernel_rfl⟩) (by kernel_rfl) ?_ ?_
      · exact ⟨fun _ => astep_move rfl,
    fun _ => astep_move rfl,
    fun _ => astep_idxd rfl Try.underlying30 ti115 rfl rfl hi20 (map_get c_GRow hj21) rfl,
    fun _ => astep_loadd rfl ti115 (by decide) (Nat.le_of_ble_eq_true rfl) rfl,
    fun _ => astep_move rfl,
    fun _ => astep_move rfl,
    fun _ => astep_bin rfl rfl,
    fun _ => astep_idxd rfl Try.underlying30 ti115 rfl rfl hi24 (map_get c_GRow hj25) rfl,
    fun _ => astep_loadd rfl ti115 (by decide) (Nat.le_of_ble_eq_true rfl) rfl,
    fun _ => astep_alloc rfl tz115 rfl,
    fun _ => astep_alloc rfl tz115 rfl,
    fun _ => astep_store rfl ti115 (by rfl) rfl (Nat.le_of_ble_eq_true rfl) rfl,
    fun _ => astep_store rfl ti115 (by rfl) rfl (Nat.le_of_ble_eq_true rfl) rfl, trivial⟩
      obtain ⟨x26, hl27, h⟩ := bind_out h
      refine awp_regd [⟨[((.tmp 7), (.ref 2 5 (0) 0))], [(2, (.own 5 [[(I (x18.T)), (I (x18.P)), (I (x18.Liquid)), (I (x18.Vapour)), (I (x18.Silica))]]))], (.ref 2 5 (0) 1), [], false⟩,
    ⟨[((.tmp 44), (.ref 2 5 (0) 1))], [(2, (.own 5 [[(I (x18.T)), (I (x18.P)), (I (x18.Liquid)), (I (x18.Vapour)), (I (x18.Silica))]]))], (I (x18.P)), [], false⟩,
    ⟨[((.tmp 8), (.ref 3 5 (0) 0))], [(3, (.own 5 [[(I (x22.T)), (I (x22.P)), (I (x22.Liquid)), (I (x22.Vapour)), (I (x22.Silica))]]))], (.ref 3 5 (0) 0), [], false⟩,
    ⟨[((.tmp 46), (.ref 3 5 (0) 0))], [(3, (.own 5 [[(I (x22.T)), (I (x22.P)), (I (x22.Liquid)), (I (x22.Vapour)), (I (x22.Silica))]]))], (I (x22.T)), [], false⟩,
    ⟨[((.tmp 3), (.ref 0 1 (0) 0))], [(0, (.own 1 [[(I (p1))]]))], (I (p1)), [], false⟩,
    ⟨[((.tmp 47), (I (x22.T))), ((.tmp 48), (I (p1)))], [], (I (w64 (x22.T - p1))), [], false⟩,
    ⟨[((.tmp 45), (I (x18.P))), ((.tmp 49), (I (w64 (x22.T - p1))))], [], (I (w64 (x18.P * (w64 (x22.T - p1))))), [], false⟩,
    ⟨[((.tmp 8), (.ref 3 5 (0) 0))], [(3, (.own 5 [[(I (x22.T)), (I (x22.P)), (I (x22.Liquid)), (I (x22.Vapour)), (I (x22.Silica))]]))], (.ref 3 5 (0) 1), [], false⟩,
    ⟨[((.tmp 51), (.ref 3 5 (0) 1))], [(3, (.own 5 [[(I (x22.T)), (I (x22.P)), (I (x22.Liquid)), (I (x22.Vapour)), (I (x22.Silica))]]))], (I (x22.P)), [], false⟩,
    ⟨[((.tmp 3), (.ref 0 1 (0) 0))], [(0, (.own 1 [[(I (p1))]]))], (I (p1)), [], false⟩,
    ⟨[((.tmp 7), (.ref 2 5 (0) 0))], [(2, (.own 5 [[(I (x18.T)), (I (x18.P)), (I (x18.Liquid)), (I (x18.Vapour)), (I (x18.Silica))]]))], (.ref 2 5 (0) 0), [], false⟩,
    ⟨[((.tmp 54), (.ref 2 5 (0) 0))], [(2, (.own 5 [[(I (x18.T)), (I (x18.P)), (I (x18.Liquid)), (I (x18.Vapour)), (I (x18.Silica))]]))], (I (x18.T)), [], false⟩,
    ⟨[((.tmp 53), (I (p1))), ((.tmp 55), (I (x18.T)))], [], (I (w64 (p1 - x18.T))), [], false⟩,
    ⟨[((.tmp 52), (I (x22.P))), ((.tmp 56), (I (w64 (p1 - x18.T))))], [], (I (w64 (x22.P * (w64 (p1 - x18.T))))), [], false⟩,
    ⟨[((.tmp 50), (I (w64 (x18.P * (w64 (x22.T - p1)))))), ((.tmp 57), (I (w64 (x22.P * (w64 (p1 - x18.T))))))], [], (I (x26)), [], false⟩,
    ⟨[((.tmp 8), (.ref 3 5 (0) 0))], [(3, (.own 5 [[(I (x22.T)), (I (x22.P)), (I (x22.Liquid)), (I (x22.Vapour)), (I (x22.Silica))]]))], (.ref 3 5 (0) 0), [], false⟩,
    ⟨[((.tmp 59), (.ref 3 5 (0) 0))], [(3, (.own 5 [[(I (x22.T)), (I (x22.P)), (I (x22.Liquid)), (I (x22.Vapour)), (I (x22.Silica))]]))], (I (x22.T)), [], false⟩,
    ⟨[((.tmp 7), (.ref 2 5 (0) 0))], [(2, (.own 5 [[(I (x18.T)), (I (x18.P)), (I (x18.Liquid)), (I (x18.Vapour)), (I (x18.Silica))]]))], (.ref 2 5 (0) 0), [], false⟩,
    ⟨[((.tmp 61), (.ref 2 5 (0) 0))], [(2, (.own 5 [[(I (x18.T)), (I (x18.P)), (I (x18.Liquid)), (I (x18.Vapour)), (I (x18.Silica))]]))], (I (x18.T)), [], false⟩,
    ⟨[((.tmp 60), (I (x22.T))), ((.tmp 62), (I (x18.T)))], [], (I (w64 (x22.T - x18.T))), [], false⟩,
    ⟨[((.tmp 58), (I (x26)))], [], (I (x26)), [], false⟩,
    ⟨[((.tmp 63), (I (w64 (x22.T - x18.T))))], [], (I (w64 (x22.T - x18.T))), [], false⟩] (by kernel_rfl) (by exact ⟨by kernel_rfl, by kernel_rfl⟩) (by kernel_rfl) ?_ ?_
      · exact ⟨fun _ => astep_faddr rfl Try.underlying115 rfl rfl ti3 (by decide) rfl,
    fun _ => astep_load rfl ti3 (by decide) rfl (Nat.le_of_ble_eq_true rfl) rfl,
    fun _ => astep_faddr rfl Try.underlying115 rfl rfl ti3 (by decide) rfl,
    fun _ => astep_load rfl ti3 (by decide) rfl (Nat.le_of_ble_eq_true rfl) rfl,
    fun _ => astep_load rfl ti3 (by decide) rfl (Nat.le_of_ble_eq_true rfl) rfl,
    fun _ => astep_bin rfl rfl,
    fun _ => astep_bin rfl rfl,
    fun _ => astep_faddr rfl Try.underlying115 rfl rfl ti3 (by decide) rfl,
    fun _ => astep_load rfl ti3 (by decide) rfl (Nat.le_of_ble_eq_true rfl) rfl,
    fun _ => astep_load rfl ti3 (by decide) rfl (Nat.le_of_ble_eq_true rfl) rfl,
    fun _ => astep_faddr rfl Try.underlying115 rfl rfl ti3 (by decide) rfl,
    fun _ => astep_load rfl ti3 (by decide) rfl (Nat.le_of_ble_eq_true rfl) rfl,
    fun _ => astep_bin rfl rfl,
    fun _ => astep_bin rfl rfl,
    fun _ => astep_i hl27 (astep_bin rfl rfl),
    fun _ => astep_faddr rfl Try.underlying115 rfl rfl ti3 (by decide) rfl,
    fun _ => astep_load rfl ti3 (by decide) rfl (Nat.le_of_ble_eq_true rfl) rfl,
    fun _ => astep_faddr rfl Try.underlying115 rfl rfl ti3 (by decide) rfl,
    fun _ => astep_load rfl ti3 (by decide) rfl (Nat.le_of_ble_eq_true rfl) rfl,
    fun _ => astep_bin rfl rfl,
    fun _ => astep_assign rfl,
    fun _ => astep_assign rfl, trivial⟩
      obtain ⟨x29, hf28, h⟩ := bind_out h
      refine awp_reg [⟨[((.tmp 9), (I (x26)))], [], (I (x26)), [], false⟩,
    ⟨[((.tmp 10), (I (w64 (x22.T - x18.T))))], [], (I (w64 (x22.T - x18.T))), [], false⟩,
    ⟨[((.func 76), (.fn (.func 76) [] [])), ((.tmp 64), (I (x26))), ((.tmp 65), (I (w64 (x22.T - x18.T))))], [], (I (x29)), [], false⟩,
    ⟨[((.tmp 66), (I (x29)))], [], (I (x29)), [], false⟩] (by exact ⟨by kernel_rfl, by kernel_rfl⟩) ?_ ?_
      · exact ⟨fun _ => astep_move rfl,
    fun _ => astep_move rfl,
    fun _ => astep_pcall (first := []) (cap := []) (vs := [(I (x26)), (I (w64 (x22.T - x18.T)))]) rfl enter76 (steam_gcdX_ok N x26 (w64 (x22.T - x18.T)) _ hf28) rfl rfl (nl_cons (NLt.lit _) (nl_cons (NLt.lit _) nl_nil)) (NLt.lit _) rfl,
    fun _ => astep_assign rfl, trivial⟩
      obtain ⟨hz30, h⟩ := chk_out h
      obtain ⟨hz31, h⟩ := chk_out h
      refine awp_regd [⟨[((.tmp 9), (I (x26)))], [], (I (x26)), [], false⟩,
    ⟨[((.tmp 11), (I (x29)))], [], (I (x29)), [], false⟩,
    ⟨[((.tmp 67), (I (x26))), ((.tmp 68), (I (x29)))], [], (I (w64 (x26.tdiv x29))), [], false⟩,
    ⟨[((.tmp 10), (I (w64 (x22.T - x18.T))))], [], (I (w64 (x22.T - x18.T))), [], false⟩,
    ⟨[((.tmp 11), (I (x29)))], [], (I (x29)), [], false⟩,
    ⟨[((.tmp 70), (I (w64 (x22.T - x18.T)))), ((.tmp 71), (I (x29)))], [], (I (w64 ((w64 (x22.T - x18.T)).tdiv x29))), [], false⟩,
    ⟨[((.tmp 69), (I (w64 (x26.tdiv x29)))), ((.tmp 72), (I (w64 ((w64 (x22.T - x18.T)).tdiv x29))))], [], (.agg [(I (w64 (x26.tdiv x29))), (I (w64 ((w64 (x22.T - x18.T)).tdiv x29)))]), [], false⟩,
    ⟨[((.tmp 4), (.ref 1 2 (0) 0)), ((.tmp 73), (.agg [(I (w64 (x26.tdiv x29))), (I (w64 ((w64 (x22.T - x18.T)).tdiv x29)))]))], [(1, (.own 2 [[(I (0)), (I (0))]]))], .any, [(1, (.own 2 [[(I (w64 (x26.tdiv x29))), (I (w64 ((w64 (x22.T - x18.T)).tdiv x29)))]]))], false⟩,
    ⟨[((.const (.int .i64 0)), (I (0)))], [], (I (0)), [], false⟩] (by kernel_rfl) (by exact ⟨by kernel_rfl, by kernel_rfl⟩) (by kernel_rfl) ?_ ?_
      · exact ⟨fun _ => astep_move rfl,
    fun _ => astep_move rfl,
    fun _ => astep_quo rfl (bne_out hz30),
    fun _ => astep_move rfl,
    fun _ => astep_move rfl,
    fun _ => astep_quo rfl (bne_out hz31),
    fun _ => astep_build (vs := [(I (w64 (x26.tdiv x29))), (I (w64 ((w64 (x22.T - x18.T)).tdiv x29)))]) rfl ts83 tz83 rfl (by rfl) rfl,
    fun _ => astep_store rfl ti83 (by rfl) rfl (Nat.le_of_ble_eq_true rfl) rfl,
    fun _ => astep_assign rfl, trivial⟩
      refine awp_ret ?_
      obtain rfl := Option.some.inj h
      exact ⟨⟨[(.agg [(I (w64 (x26.tdiv x29))), (I (w64 ((w64 (x22.T - x18.T)).tdiv x29)))]), (I (0))], ⟨resOK_cell (n := 1) (m := 2) (j := 0) (i := 0) (xs := [[(I (w64 (x26.tdiv x29))), (I (w64 ((w64 (x22.T - x18.T)).tdiv x29)))]]) (by kernel_rfl) (by kernel_rfl) ti83 (by decide) rfl (Nat.le_of_ble_eq_true rfl) rfl, resOK_tmp (by kernel_rfl), trivial⟩, rfl⟩, (NLt.tup _ (nl_cons (NLt.agg _ (nl_cons (NLt.lit _) (nl_cons (NLt.lit _) nl_nil))) (nl_cons (NLt.lit _) nl_nil))), Nat.le_refl _, fun n hn => absurd hn (Nat.not_lt_zero n)⟩

def law01_StreamX (_N : Nat) (p0 : GStream) : Option GStream :=
  some p0
set_option maxRecDepth 100000 in
set_option maxHeartbeats 4000000 in
theorem law01_StreamX_ok (N : Nat) (p0 : GStream) (r : GStream) (h : law01_StreamX N p0 = some r) : Spec Try.prog 26 [(.agg (c_GStream p0))] [] (.agg (c_GStream r)) [] := by
  refine spec_of_awp Try.func26 rfl 0 (Nat.le_of_ble_eq_true rfl) (fun X φ0 w0 hφ0 => ?_)
  unfold law01_StreamX at h
  refine awp_reg [⟨[((.tmp 0), (.agg [(I (p0.Mass)), (I (p0.Heat)), (I (p0.Silica)), (I (p0.Gas))]))], [(0, .unused)], (.ref 0 4 (0) 0), [(0, (.own 4 [[(I (p0.Mass)), (I (p0.Heat)), (I (p0.Silica)), (I (p0.Gas))]]))], false⟩,
    ⟨[], [(1, .unused)], (.ref 1 4 (0) 0), [(1, (.own 4 [[(I (0)), (I (0)), (I (0)), (I (0))]]))], false⟩] (by exact ⟨by kernel_rfl, by kernel_rfl⟩) ?_ ?_
  · exact ⟨fun _ => astep_box rfl (by rfl) rfl rfl,
    fun _ => astep_alloc rfl tz42 rfl, trivial⟩
  refine awp_reg [⟨[((.tmp 1), (.ref 0 4 (0) 0))], [(0, (.own 4 [[(I (p0.Mass)), (I (p0.Heat)), (I (p0.Silica)), (I (p0.Gas))]]))], (.ref 0 4 (0) 0), [], false⟩,
    ⟨[((.tmp 3), (.ref 0 4 (0) 0))], [(0, (.own 4 [[(I (p0.Mass)), (I (p0.Heat)), (I (p0.Silica)), (I (p0.Gas))]]))], (I (p0.Mass)), [], false⟩,
    ⟨[((.tmp 1), (.ref 0 4 (0) 0))], [(0, (.own 4 [[(I (p0.Mass)), (I (p0.Heat)), (I (p0.Silica)), (I (p0.Gas))]]))], (.ref 0 4 (0) 1), [], false⟩,
    ⟨[((.tmp 5), (.ref 0 4 (0) 1))], [(0, (.own 4 [[(I (p0.Mass)), (I (p0.Heat)), (I (p0.Silica)), (I (p0.Gas))]]))], (I (p0.Heat)), [], false⟩,
    ⟨[((.tmp 1), (.ref 0 4 (0) 0))], [(0, (.own 4 [[(I (p0.Mass)), (I (p0.Heat)), (I (p0.Silica)), (I (p0.Gas))]]))], (.ref 0 4 (0) 2), [], false⟩,
    ⟨[((.tmp 7), (.ref 0 4 (0) 2))], [(0, (.own 4 [[(I (p0.Mass)), (I (p0.Heat)), (I (p0.Silica)), (I (p0.Gas))]]))], (I (p0.Silica)), [], false⟩,
    ⟨[((.tmp 1), (.ref 0 4 (0) 0))], [(0, (.own 4 [[(I (p0.Mass)), (I (p0.Heat)), (I (p0.Silica)), (I (p0.Gas))]]))], (.ref 0 4 (0) 3), [], false⟩,
    ⟨[((.tmp 9), (.ref 0 4 (0) 3))], [(0, (.own 4 [[(I (p0.Mass)), (I (p0.Heat)), (I (p0.Silica)), (I (p0.Gas))]]))], (I (p0.Gas)), [], false⟩,
    ⟨[((.tmp 4), (I (p0.Mass))), ((.tmp 6), (I (p0.Heat))), ((.tmp 8), (I (p0.Silica))), ((.tmp 10), (I (p0.Gas)))], [], (.agg [(I (p0.Mass)), (I (p0.Heat)), (I (p0.Silica)), (I (p0.Gas))]), [], false⟩,
    ⟨[((.tmp 2), (.ref 1 4 (0) 0)), ((.tmp 11), (.agg [(I (p0.Mass)), (I (p0.Heat)), (I (p0.Silica)), (I (p0.Gas))]))], [(1, (.own 4 [[(I (0)), (I (0)), (I (0)), (I (0))]]))], .any, [(1, (.own 4 [[(I (p0.Mass)), (I (p0.Heat)), (I (p0.Silica)), (I (p0.Gas))]]))], false⟩] (by exact ⟨by kernel_rfl, by kernel_rfl⟩) ?_ ?_
  · exact ⟨fun _ => astep_faddr rfl Try.underlying39 rfl rfl ti3 (by decide) rfl,
    fun _ => astep_load rfl ti3 (by decide) rfl (Nat.le_of_ble_eq_true rfl) rfl,
    fun _ => astep_faddr rfl Try.underlying39 rfl rfl ti3 (by decide) rfl,
    fun _ => astep_load rfl ti3 (by decide) rfl (Nat.le_of_ble_eq_true rfl) rfl,
    fun _ => astep_faddr rfl Try.underlying39 rfl rfl ti3 (by decide) rfl,
    fun _ => astep_load rfl ti3 (by decide) rfl (Nat.le_of_ble_eq_true rfl) rfl,
    fun _ => astep_faddr rfl Try.underlying39 rfl rfl ti3 (by decide) rfl,
    fun _ => astep_load rfl ti3 (by decide) rfl (Nat.le_of_ble_eq_true rfl) rfl,
    fun _ => astep_build (vs := [(I (p0.Mass)), (I (p0.Heat)), (I (p0.Silica)), (I (p0.Gas))]) rfl ts42 tz42 rfl (by rfl) rfl,
    fun _ => astep_store rfl ti42 (by rfl) rfl (Nat.le_of_ble_eq_true rfl) rfl, trivial⟩
  refine awp_ret ?_
  obtain rfl := Option.some.inj h
  exact ⟨⟨[(.agg [(I (p0.Mass)), (I (p0.Heat)), (I (p0.Silica)), (I (p0.Gas))])], ⟨resOK_cell (n := 1) (m := 4) (j := 0) (i := 0) (xs := [[(I (p0.Mass)), (I (p0.Heat)), (I (p0.Silica)), (I (p0.Gas))]]) (by kernel_rfl) (by kernel_rfl) ti42 (by decide) rfl (Nat.le_of_ble_eq_true rfl) rfl, trivial⟩, rfl⟩, (NLt.agg _ (nl_cons (NLt.lit _) (nl_cons (NLt.lit _) (nl_cons (NLt.lit _) (nl_cons (NLt.lit _) nl_nil))))), Nat.le_refl _, fun n hn => absurd hn (Nat.not_lt_zero n)⟩

def steam_Stream_validX (N : Nat) (p0 : GStream) : Option Bool :=
  (steam_withinX N p0.Mass 0 1000000).bind fun x2 =>
  bif x2 then
    (steam_withinX N p0.Heat 0 (w64 (4000 * p0.Mass))).bind fun x5 =>
    bif x5 then
      (steam_withinX N p0.Silica 0 (w64 (10000 * p0.Mass))).bind fun x8 =>
      bif x8 then
        (steam_withinX N p0.Gas 0 1000000000).bind fun x11 =>
        some x11
      else
        some false
    else
      some false
  else
    some false
set_option maxRecDepth 100000 in
set_option maxHeartbeats 4000000 in
theorem steam_Stream_validX_ok (N : Nat) (p0 : GStream) (r : Bool) (h : steam_Stream_validX N p0 = some r) : Spec Try.prog 63 [(.agg (c_GStream p0))] [] (B r) [] := by
  refine spec_of_awp Try.func63 rfl 0 (Nat.le_of_ble_eq_true rfl) (fun X φ0 w0 hφ0 => ?_)
  unfold steam_Stream_validX at h
  refine awp_reg [⟨[((.tmp 0), (.agg [(I (p0.Mass)), (I (p0.Heat)), (I (p0.Silica)), (I (p0.Gas))]))], [(0, .unused)], (.ref 0 4 (0) 0), [(0, (.own 4 [[(I (p0.Mass)), (I (p0.Heat)), (I (p0.Silica)), (I (p0.Gas))]]))], false⟩,
    ⟨[((.const (.bool false)), (B (false)))], [], (B (false)), [], false⟩] (by exact ⟨by kernel_rfl, by kernel_rfl⟩) ?_ ?_
  · exact ⟨fun _ => astep_box rfl (by rfl) rfl rfl,
    fun _ => astep_assign rfl, trivial⟩
  obtain ⟨x2, hf1, h⟩ := bind_out h
  rcases Bool.eq_false_or_eq_true (x2) with hb3 | hb3
  · replace h := bif_t hb3 h
    obtain ⟨x5, hf4, h⟩ := bind_out h
    rcases Bool.eq_false_or_eq_true (x5) with hb6 | hb6
    · replace h := bif_t hb6 h
      obtain ⟨x8, hf7, h⟩ := bind_out h
      rcases Bool.eq_false_or_eq_true (x8) with hb9 | hb9
      · replace h := bif_t hb9 h
        obtain ⟨x11, hf10, h⟩ := bind_out h
        refine awp_reg [⟨[((.tmp 1), (.ref 0 4 (0) 0))], [(0, (.own 4 [[(I (p0.Mass)), (I (p0.Heat)), (I (p0.Silica)), (I (p0.Gas))]]))], (.ref 0 4 (0) 0), [], false⟩,
    ⟨[((.tmp 3), (.ref 0 4 (0) 0))], [(0, (.own 4 [[(I (p0.Mass)), (I (p0.Heat)), (I (p0.Silica)), (I (p0.Gas))]]))], (I (p0.Mass)), [], false⟩,
    ⟨[((.func 65), (.fn (.func 65) [] [])), ((.tmp 4), (I (p0.Mass))), ((.const (.int .i64 0)), (I (0))), ((.const (.int .i64 1000000)), (I (1000000)))], [], (B (x2)), [], false⟩,
    ⟨[((.tmp 5), (B (x2)))], [], (B (true)), [], false⟩,
    ⟨[((.tmp 6), (B (true))), ((.tmp 1), (.ref 0 4 (0) 0))], [(0, (.own 4 [[(I (p0.Mass)), (I (p0.Heat)), (I (p0.Silica)), (I (p0.Gas))]]))], (.ref 0 4 (0) 1), [], false⟩,
    ⟨[((.tmp 6), (B (true))), ((.tmp 7), (.ref 0 4 (0) 1))], [(0, (.own 4 [[(I (p0.Mass)), (I (p0.Heat)), (I (p0.Silica)), (I (p0.Gas))]]))], (I (p0.Heat)), [], false⟩,
    ⟨[((.tmp 6), (B (true))), ((.tmp 1), (.ref 0 4 (0) 0))], [(0, (.own 4 [[(I (p0.Mass)), (I (p0.Heat)), (I (p0.Silica)), (I (p0.Gas))]]))], (.ref 0 4 (0) 0), [], false⟩,
    ⟨[((.tmp 6), (B (true))), ((.tmp 9), (.ref 0 4 (0) 0))], [(0, (.own 4 [[(I (p0.Mass)), (I (p0.Heat)), (I (p0.Silica)), (I (p0.Gas))]]))], (I (p0.Mass)), [], false⟩,
    ⟨[((.tmp 6), (B (true))), ((.const (.int .i64 4000)), (I (4000))), ((.tmp 10), (I (p0.Mass)))], [], (I (w64 (4000 * p0.Mass))), [], false⟩,
    ⟨[((.tmp 6), (B (true))), ((.func 65), (.fn (.func 65) [] [])), ((.tmp 8), (I (p0.Heat))), ((.const (.int .i64 0)), (I (0))), ((.tmp 11), (I (w64 (4000 * p0.Mass))))], [], (B (x5)), [], false⟩,
    ⟨[((.tmp 6), (B (true))), ((.tmp 12), (B (x5))), ((.const (.bool false)), (B (false)))], [], (B (x5)), [], false⟩,
    ⟨[((.tmp 13), (B (x5)))], [], (B (true)), [], false⟩,
    ⟨[((.tmp 14), (B (true))), ((.tmp 1), (.ref 0 4 (0) 0))], [(0, (.own 4 [[(I (p0.Mass)), (I (p0.Heat)), (I (p0.Silica)), (I (p0.Gas))]]))], (.ref 0 4 (0) 2), [], false⟩,
    ⟨[((.tmp 14), (B (true))), ((.tmp 15), (.ref 0 4 (0) 2))], [(0, (.own 4 [[(I (p0.Mass)), (I (p0.Heat)), (I (p0.Silica)), (I (p0.Gas))]]))], (I (p0.Silica)), [], false⟩,
    ⟨[((.tmp 14), (B (true))), ((.tmp 1), (.ref 0 4 (0) 0))], [(0, (.own 4 [[(I (p0.Mass)), (I (p0.Heat)), (I (p0.Silica)), (I (p0.Gas))]]))], (.ref 0 4 (0) 0), [], false⟩,
    ⟨[((.tmp 14), (B (true))), ((.tmp 17), (.ref 0 4 (0) 0))], [(0, (.own 4 [[(I (p0.Mass)), (I (p0.Heat)), (I (p0.Silica)), (I (p0.Gas))]]))], (I (p0.Mass)), [], false⟩,
    ⟨[((.tmp 14), (B (true))), ((.const (.int .i64 10000)), (I (10000))), ((.tmp 18), (I (p0.Mass)))], [], (I (w64 (10000 * p0.Mass))), [], false⟩,
    ⟨[((.tmp 14), (B (true))), ((.func 65), (.fn (.func 65) [] [])), ((.tmp 16), (I (p0.Silica))), ((.const (.int .i64 0)), (I (0))), ((.tmp 19), (I (w64 (10000 * p0.Mass))))], [], (B (x8)), [], false⟩,
    ⟨[((.tmp 14), (B (true))), ((.tmp 20), (B (x8))), ((.const (.bool false)), (B (false)))], [], (B (x8)), [], false⟩,
    ⟨[((.tmp 21), (B (x8)))], [], (B (true)), [], false⟩,
    ⟨[((.tmp 22), (B (true))), ((.tmp 1), (.ref 0 4 (0) 0))], [(0, (.own 4 [[(I (p0.Mass)), (I (p0.Heat)), (I (p0.Silica)), (I (p0.Gas))]]))], (.ref 0 4 (0) 3), [], false⟩,
    ⟨[((.tmp 22), (B (true))), ((.tmp 23), (.ref 0 4 (0) 3))], [(0, (.own 4 [[(I (p0.Mass)), (I (p0.Heat)), (I (p0.Silica)), (I (p0.Gas))]]))], (I (p0.Gas)), [], false⟩,
    ⟨[((.tmp 22), (B (true))), ((.func 65), (.fn (.func 65) [] [])), ((.tmp 24), (I (p0.Gas))), ((.const (.int .i64 0)), (I (0))), ((.const (.int .i64 1000000000)), (I (1000000000)))], [], (B (x11)), [], false⟩,
    ⟨[((.tmp 22), (B (true))), ((.tmp 25), (B (x11))), ((.const (.bool false)), (B (false)))], [], (B (x11)), [], false⟩,
    ⟨[((.tmp 26), (B (x11)))], [], (B (x11)), [], false⟩] (by exact ⟨by kernel_rfl, by kernel_rfl⟩) ?_ ?_
        · exact ⟨fun _ => astep_faddr rfl Try.underlying42 rfl rfl ti3 (by decide) rfl,
    fun _ => astep_load rfl ti3 (by decide) rfl (Nat.le_of_ble_eq_true rfl) rfl,
    fun _ => astep_pcall (first := []) (cap := []) (vs := [(I (p0.Mass)), (I (0)), (I (1000000))]) rfl enter65 (steam_withinX_ok N p0.Mass 0 1000000 _ hf1) rfl rfl (nl_cons (NLt.lit _) (nl_cons (NLt.lit _) (nl_cons (NLt.lit _) nl_nil))) (NLt.lit _) rfl,
    fun _ => astep_b hb3 (astep_move rfl),
    fun _ => astep_guard (astep_faddr rfl Try.underlying42 rfl rfl ti3 (by decide) rfl),
    fun _ => astep_guard (astep_load rfl ti3 (by decide) rfl (Nat.le_of_ble_eq_true rfl) rfl),
    fun _ => astep_guard (astep_faddr rfl Try.underlying42 rfl rfl ti3 (by decide) rfl),
    fun _ => astep_guard (astep_load rfl ti3 (by decide) rfl (Nat.le_of_ble_eq_true rfl) rfl),
    fun _ => astep_guard (astep_bin rfl rfl),
    fun _ => astep_guard (astep_pcall (first := []) (cap := []) (vs := [(I (p0.Heat)), (I (0)), (I (w64 (4000 * p0.Mass)))]) rfl enter65 (steam_withinX_ok N p0.Heat 0 (w64 (4000 * p0.Mass)) _ hf4) rfl rfl (nl_cons (NLt.lit _) (nl_cons (NLt.lit _) (nl_cons (NLt.lit _) nl_nil))) (NLt.lit _) rfl),
    fun _ => astep_pick rfl rfl,
    fun _ => astep_b hb6 (astep_move rfl),
    fun _ => astep_guard (astep_faddr rfl Try.underlying42 rfl rfl ti3 (by decide) rfl),
    fun _ => astep_guard (astep_load rfl ti3 (by decide) rfl (Nat.le_of_ble_eq_true rfl) rfl),
    fun _ => astep_guard (astep_faddr rfl Try.underlying42 rfl rfl ti3 (by decide) rfl),
    fun _ => astep_guard (astep_load rfl ti3 (by decide) rfl (Nat.le_of_ble_eq_true rfl) rfl),
    fun _ => astep_guard (astep_bin rfl rfl),
    fun _ => astep_guard (astep_pcall (first := []) (cap := []) (vs := [(I (p0.Silica)), (I (0)), (I (w64 (10000 * p0.Mass)))]) rfl enter65 (steam_withinX_ok N p0.Silica 0 (w64 (10000 * p0.Mass)) _ hf7) rfl rfl (nl_cons (NLt.lit _) (nl_cons (NLt.lit _) (nl_cons (NLt.lit _) nl_nil))) (NLt.lit _) rfl),
    fun _ => astep_pick rfl rfl,
    fun _ => astep_b hb9 (astep_move rfl),
    fun _ => astep_guard (astep_faddr rfl Try.underlying42 rfl rfl ti3 (by decide) rfl),
    fun _ => astep_guard (astep_load rfl ti3 (by decide) rfl (Nat.le_of_ble_eq_true rfl) rfl),
    fun _ => astep_guard (astep_pcall (first := []) (cap := []) (vs := [(I (p0.Gas)), (I (0)), (I (1000000000))]) rfl enter65 (steam_withinX_ok N p0.Gas 0 1000000000 _ hf10) rfl rfl (nl_cons (NLt.lit _) (nl_cons (NLt.lit _) (nl_cons (NLt.lit _) nl_nil))) (NLt.lit _) rfl),
    fun _ => astep_pick rfl rfl,
    fun _ => astep_assign rfl, trivial⟩
        refine awp_ret ?_
        obtain rfl := Option.some.inj h
        exact ⟨⟨[(B (x11))], ⟨resOK_tmp (by kernel_rfl), trivial⟩, rfl⟩, (NLt.lit _), Nat.le_refl _, fun n hn => absurd hn (Nat.not_lt_zero n)⟩
      · replace h := bif_f hb9 h
        refine awp_reg [⟨[((.tmp 1), (.ref 0 4 (0) 0))], [(0, (.own 4 [[(I (p0.Mass)), (I (p0.Heat)), (I (p0.Silica)), (I (p0.Gas))]]))], (.ref 0 4 (0) 0), [], false⟩,
    ⟨[((.tmp 3), (.ref 0 4 (0) 0))], [(0, (.own 4 [[(I (p0.Mass)), (I (p0.Heat)), (I (p0.Silica)), (I (p0.Gas))]]))], (I (p0.Mass)), [], false⟩,
    ⟨[((.func 65), (.fn (.func 65) [] [])), ((.tmp 4), (I (p0.Mass))), ((.const (.int .i64 0)), (I (0))), ((.const (.int .i64 1000000)), (I (1000000)))], [], (B (x2)), [], false⟩,
    ⟨[((.tmp 5), (B (x2)))], [], (B (true)), [], false⟩,
    ⟨[((.tmp 6), (B (true))), ((.tmp 1), (.ref 0 4 (0) 0))], [(0, (.own 4 [[(I (p0.Mass)), (I (p0.Heat)), (I (p0.Silica)), (I (p0.Gas))]]))], (.ref 0 4 (0) 1), [], false⟩,
    ⟨[((.tmp 6), (B (true))), ((.tmp 7), (.ref 0 4 (0) 1))], [(0, (.own 4 [[(I (p0.Mass)), (I (p0.Heat)), (I (p0.Silica)), (I (p0.Gas))]]))], (I (p0.Heat)), [], false⟩,
    ⟨[((.tmp 6), (B (true))), ((.tmp 1), (.ref 0 4 (0) 0))], [(0, (.own 4 [[(I (p0.Mass)), (I (p0.Heat)), (I (p0.Silica)), (I (p0.Gas))]]))], (.ref 0 4 (0) 0), [], false⟩,
    ⟨[((.tmp 6), (B (true))), ((.tmp 9), (.ref 0 4 (0) 0))], [(0, (.own 4 [[(I (p0.Mass)), (I (p0.Heat)), (I (p0.Silica)), (I (p0.Gas))]]))], (I (p0.Mass)), [], false⟩,
    ⟨[((.tmp 6), (B (true))), ((.const (.int .i64 4000)), (I (4000))), ((.tmp 10), (I (p0.Mass)))], [], (I (w64 (4000 * p0.Mass))), [], false⟩,
    ⟨[((.tmp 6), (B (true))), ((.func 65), (.fn (.func 65) [] [])), ((.tmp 8), (I (p0.Heat))), ((.const (.int .i64 0)), (I (0))), ((.tmp 11), (I (w64 (4000 * p0.Mass))))], [], (B (x5)), [], false⟩,
    ⟨[((.tmp 6), (B (true))), ((.tmp 12), (B (x5))), ((.const (.bool false)), (B (false)))], [], (B (x5)), [], false⟩,
    ⟨[((.tmp 13), (B (x5)))], [], (B (true)), [], false⟩,
    ⟨[((.tmp 14), (B (true))), ((.tmp 1), (.ref 0 4 (0) 0))], [(0, (.own 4 [[(I (p0.Mass)), (I (p0.Heat)), (I (p0.Silica)), (I (p0.Gas))]]))], (.ref 0 4 (0) 2), [], false⟩,
    ⟨[((.tmp 14), (B (true))), ((.tmp 15), (.ref 0 4 (0) 2))], [(0, (.own 4 [[(I (p0.Mass)), (I (p0.Heat)), (I (p0.Silica)), (I (p0.Gas))]]))], (I (p0.Silica)), [], false⟩,
    ⟨[((.tmp 14), (B (true))), ((.tmp 1), (.ref 0 4 (0) 0))], [(0, (.own 4 [[(I (p0.Mass)), (I (p0.Heat)), (I (p0.Silica)), (I (p0.Gas))]]))], (.ref 0 4 (0) 0), [], false⟩,
    ⟨[((.tmp 14), (B (true))), ((.tmp 17), (.ref 0 4 (0) 0))], [(0, (.own 4 [[(I (p0.Mass)), (I (p0.Heat)), (I (p0.Silica)), (I (p0.Gas))]]))], (I (p0.Mass)), [], false⟩,
    ⟨[((.tmp 14), (B (true))), ((.const (.int .i64 10000)), (I (10000))), ((.tmp 18), (I (p0.Mass)))], [], (I (w64 (10000 * p0.Mass))), [], false⟩,
    ⟨[((.tmp 14), (B (true))), ((.func 65), (.fn (.func 65) [] [])), ((.tmp 16), (I (p0.Silica))), ((.const (.int .i64 0)), (I (0))), ((.tmp 19), (I (w64 (10000 * p0.Mass))))], [], (B (x8)), [], false⟩,
    ⟨[((.tmp 14), (B (true))), ((.tmp 20), (B (x8))), ((.const (.bool false)), (B (false)))], [], (B (x8)), [], false⟩,
    ⟨[((.tmp 21), (B (x8)))], [], (B (false)), [], false⟩,
    ⟨[((.tmp 22), (B (false)))], [], (.lit undef), [], true⟩,
    ⟨[((.tmp 22), (B (false)))], [], (.lit undef), [], true⟩,
    ⟨[((.tmp 22), (B (false)))], [], (.lit undef), [], true⟩,
    ⟨[((.tmp 22), (B (false))), ((.tmp 25), (.lit undef)), ((.const (.bool false)), (B (false)))], [], (B (false)), [], false⟩,
    ⟨[((.tmp 26), (B (false)))], [], (B (false)), [], false⟩] (by exact ⟨by kernel_rfl, by kernel_rfl⟩) ?_ ?_
        · exact ⟨fun _ => astep_faddr rfl Try.underlying42 rfl rfl ti3 (by decide) rfl,
    fun _ => astep_load rfl ti3 (by decide) rfl (Nat.le_of_ble_eq_true rfl) rfl,
    fun _ => astep_pcall (first := []) (cap := []) (vs := [(I (p0.Mass)), (I (0)), (I (1000000))]) rfl enter65 (steam_withinX_ok N p0.Mass 0 1000000 _ hf1) rfl rfl (nl_cons (NLt.lit _) (nl_cons (NLt.lit _) (nl_cons (NLt.lit _) nl_nil))) (NLt.lit _) rfl,
    fun _ => astep_b hb3 (astep_move rfl),
    fun _ => astep_guard (astep_faddr rfl Try.underlying42 rfl rfl ti3 (by decide) rfl),
    fun _ => astep_guard (astep_load rfl ti3 (by decide) rfl (Nat.le_of_ble_eq_true rfl) rfl),
    fun _ => astep_guard (astep_faddr rfl Try.underlying42 rfl rfl ti3 (by decide) rfl),
    fun _ => astep_guard (astep_load rfl ti3 (by decide) rfl (Nat.le_of_ble_eq_true rfl) rfl),
    fun _ => astep_guard (astep_bin rfl rfl),
    fun _ => astep_guard (astep_pcall (first := []) (cap := []) (vs := [(I (p0.Heat)), (I (0)), (I (w64 (4000 * p0.Mass)))]) rfl enter65 (steam_withinX_ok N p0.Heat 0 (w64 (4000 * p0.Mass)) _ hf4) rfl rfl (nl_cons (NLt.lit _) (nl_cons (NLt.lit _) (nl_cons (NLt.lit _) nl_nil))) (NLt.lit _) rfl),
    fun _ => astep_pick rfl rfl,
    fun _ => astep_b hb6 (astep_move rfl),
    fun _ => astep_guard (astep_faddr rfl Try.underlying42 rfl rfl ti3 (by decide) rfl),
    fun _ => astep_guard (astep_load rfl ti3 (by decide) rfl (Nat.le_of_ble_eq_true rfl) rfl),
    fun _ => astep_guard (astep_faddr rfl Try.underlying42 rfl rfl ti3 (by decide) rfl),
    fun _ => astep_guard (astep_load rfl ti3 (by decide) rfl (Nat.le_of_ble_eq_true rfl) rfl),
    fun _ => astep_guard (astep_bin rfl rfl),
    fun _ => astep_guard (astep_pcall (first := []) (cap := []) (vs := [(I (p0.Silica)), (I (0)), (I (w64 (10000 * p0.Mass)))]) rfl enter65 (steam_withinX_ok N p0.Silica 0 (w64 (10000 * p0.Mass)) _ hf7) rfl rfl (nl_cons (NLt.lit _) (nl_cons (NLt.lit _) (nl_cons (NLt.lit _) nl_nil))) (NLt.lit _) rfl),
    fun _ => astep_pick rfl rfl,
    fun _ => astep_b hb9 (astep_move rfl),
    fun hs => (Bool.noConfusion hs),
    fun hs => (Bool.noConfusion hs),
    fun hs => (Bool.noConfusion hs),
    fun _ => astep_pick rfl rfl,
    fun _ => astep_assign rfl, trivial⟩
        refine awp_ret ?_
        obtain rfl := Option.some.inj h
        exact ⟨⟨[(B (false))], ⟨resOK_tmp (by kernel_rfl), trivial⟩, rfl⟩, (NLt.lit _), Nat.le_refl _, fun n hn => absurd hn (Nat.not_lt_zero n)⟩
    · replace h := bif_f hb6 h
      refine awp_reg [⟨[((.tmp 1), (.ref 0 4 (0) 0))], [(0, (.own 4 [[(I (p0.Mass)), (I (p0.Heat)), (I (p0.Silica)), (I (p0.Gas))]]))], (.ref 0 4 (0) 0), [], false⟩,
    ⟨[((.tmp 3), (.ref 0 4 (0) 0))], [(0, (.own 4 [[(I (p0.Mass)), (I (p0.Heat)), (I (p0.Silica)), (I (p0.Gas))]]))], (I (p0.Mass)), [], false⟩,
    ⟨[((.func 65), (.fn (.func 65) [] [])), ((.tmp 4), (I (p0.Mass))), ((.const (.int .i64 0)), (I (0))), ((.const (.int .i64 1000000)), (I (1000000)))], [], (B (x2)), [], false⟩,
    ⟨[((.tmp 5), (B (x2)))], [], (B (true)), [], false⟩,
    ⟨[((.tmp 6), (B (true))), ((.tmp 1), (.ref 0 4 (0) 0))], [(0, (.own 4 [[(I (p0.Mass)), (I (p0.Heat)), (I (p0.Silica)), (I (p0.Gas))]]))], (.ref 0 4 (0) 1), [], false⟩,
    ⟨[((.tmp 6), (B (true))), ((.tmp 7), (.ref 0 4 (0) 1))], [(0, (.own 4 [[(I (p0.Mass)), (I (p0.Heat)), (I (p0.Silica)), (I (p0.Gas))]]))], (I (p0.Heat)), [], false⟩,
    ⟨[((.tmp 6), (B (true))), ((.tmp 1), (.ref 0 4 (0) 0))], [(0, (.own 4 [[(I (p0.Mass)), (I (p0.Heat)), (I (p0.Silica)), (I (p0.Gas))]]))], (.ref 0 4 (0) 0), [], false⟩,
    ⟨[((.tmp 6), (B (true))), ((.tmp 9), (.ref 0 4 (0) 0))], [(0, (.own 4 [[(I (p0.Mass)), (I (p0.Heat)), (I (p0.Silica)), (I (p0.Gas))]]))], (I (p0.Mass)), [], false⟩,
    ⟨[((.tmp 6), (B (true))), ((.const (.int .i64 4000)), (I (4000))), ((.tmp 10), (I (p0.Mass)))], [], (I (w64 (4000 * p0.Mass))), [], false⟩,
    ⟨[((.tmp 6), (B (true))), ((.func 65), (.fn (.func 65) [] [])), ((.tmp 8), (I (p0.Heat))), ((.const (.int .i64 0)), (I (0))), ((.tmp 11), (I (w64 (4000 * p0.Mass))))], [], (B (x5)), [], false⟩,
    ⟨[((.tmp 6), (B (true))), ((.tmp 12), (B (x5))), ((.const (.bool false)), (B (false)))], [], (B (x5)), [], false⟩,
    ⟨[((.tmp 13), (B (x5)))], [], (B (false)), [], false⟩,
    ⟨[((.tmp 14), (B (false)))], [], (.lit undef), [], true⟩,
    ⟨[((.tmp 14), (B (false)))], [], (.lit undef), [], true⟩,
    ⟨[((.tmp 14), (B (false)))], [], (.lit undef), [], true⟩,
    ⟨[((.tmp 14), (B (false)))], [], (.lit undef), [], true⟩,
    ⟨[((.tmp 14), (B (false)))], [], (.lit undef), [], true⟩,
    ⟨[((.tmp 14), (B (false)))], [], (.lit undef), [], true⟩,
    ⟨[((.tmp 14), (B (false))), ((.tmp 20), (.lit undef)), ((.const (.bool false)), (B (false)))], [], (B (false)), [], false⟩,
    ⟨[((.tmp 21), (B (false)))], [], (B (false)), [], false⟩,
    ⟨[((.tmp 22), (B (false)))], [], (.lit undef), [], true⟩,
    ⟨[((.tmp 22), (B (false)))], [], (.lit undef), [], true⟩,
    ⟨[((.tmp 22), (B (false)))], [], (.lit undef), [], true⟩,
    ⟨[((.tmp 22), (B (false))), ((.tmp 25), (.lit undef)), ((.const (.bool false)), (B (false)))], [], (B (false)), [], false⟩,
    ⟨[((.tmp 26), (B (false)))], [], (B (false)), [], false⟩] (by exact ⟨by kernel_rfl, by kernel_rfl⟩) ?_ ?_
      · exact ⟨fun _ => astep_faddr rfl Try.underlying42 rfl rfl ti3 (by decide) rfl,
    fun _ => astep_load rfl ti3 (by decide) rfl (Nat.le_of_ble_eq_true rfl) rfl,
    fun _ => astep_pcall (first := []) (cap := []) (vs := [(I (p0.Mass)), (I (0)), (I (1000000))]) rfl enter65 (steam_withinX_ok N p0.Mass 0 1000000 _ hf1) rfl rfl (nl_cons (NLt.lit _) (nl_cons (NLt.lit _) (nl_cons (NLt.lit _) nl_nil))) (NLt.lit _) rfl,
    fun _ => astep_b hb3 (astep_move rfl),
    fun _ => astep_guard (astep_faddr rfl Try.underlying42 rfl rfl ti3 (by decide) rfl),
    fun _ => astep_guard (astep_load rfl ti3 (by decide) rfl (Nat.le_of_ble_eq_true rfl) rfl),
    fun _ => astep_guard (astep_faddr rfl Try.underlying42 rfl rfl ti3 (by decide) rfl),
    fun _ => astep_guard (astep_load rfl ti3 (by decide) rfl (Nat.le_of_ble_eq_true rfl) rfl),
    fun _ => astep_guard (astep_bin rfl rfl),
    fun _ => astep_guard (astep_pcall (first := []) (cap := []) (vs := [(I (p0.Heat)), (I (0)), (I (w64 (4000 * p0.Mass)))]) rfl enter65 (steam_withinX_ok N p0.Heat 0 (w64 (4000 * p0.Mass)) _ hf4) rfl rfl (nl_cons (NLt.lit _) (nl_cons (NLt.lit _) (nl_cons (NLt.lit _) nl_nil))) (NLt.lit _) rfl),
    fun _ => astep_pick rfl rfl,
    fun _ => astep_b hb6 (astep_move rfl),
    fun hs => (Bool.noConfusion hs),
    fun hs => (Bool.noConfusion hs),
    fun hs => (Bool.noConfusion hs),
    fun hs => (Bool.noConfusion hs),
    fun hs => (Bool.noConfusion hs),
    fun hs => (Bool.noConfusion hs),
    fun _ => astep_pick rfl rfl,
    fun _ => astep_move rfl,
    fun hs => (Bool.noConfusion hs),
    fun hs => (Bool.noConfusion hs),
    fun hs => (Bool.noConfusion hs),
    fun _ => astep_pick rfl rfl,
    fun _ => astep_assign rfl, trivial⟩
      refine awp_ret ?_
      obtain rfl := Option.some.inj h
      exact ⟨⟨[(B (false))], ⟨resOK_tmp (by kernel_rfl), trivial⟩, rfl⟩, (NLt.lit _), Nat.le_refl _, fun n hn => absurd hn (Nat.not_lt_zero n)⟩
  · replace h := bif_f hb3 h
    refine awp_reg [⟨[((.tmp 1), (.ref 0 4 (0) 0))], [(0, (.own 4 [[(I (p0.Mass)), (I (p0.Heat)), (I (p0.Silica)), (I (p0.Gas))]]))], (.ref 0 4 (0) 0), [], false⟩,
    ⟨[((.tmp 3), (.ref 0 4 (0) 0))], [(0, (.own 4 [[(I (p0.Mass)), (I (p0.Heat)), (I (p0.Silica)), (I (p0.Gas))]]))], (I (p0.Mass)), [], false⟩,
    ⟨[((.func 65), (.fn (.func 65) [] [])), ((.tmp 4), (I (p0.Mass))), ((.const (.int .i64 0)), (I (0))), ((.const (.int .i64 1000000)), (I (1000000)))], [], (B (x2)), [], false⟩,
    ⟨[((.tmp 5), (B (x2)))], [], (B (false)), [], false⟩,
    ⟨[((.tmp 6), (B (false)))], [], (.lit undef), [], true⟩,
    ⟨[((.tmp 6), (B (false)))], [], (.lit undef), [], true⟩,
    ⟨[((.tmp 6), (B (false)))], [], (.lit undef), [], true⟩,
    ⟨[((.tmp 6), (B (false)))], [], (.lit undef), [], true⟩,
    ⟨[((.tmp 6), (B (false)))], [], (.lit undef), [], true⟩,
    ⟨[((.tmp 6), (B (false)))], [], (.lit undef), [], true⟩,
    ⟨[((.tmp 6), (B (false))), ((.tmp 12), (.lit undef)), ((.const (.bool false)), (B (false)))], [], (B (false)), [], false⟩,
    ⟨[((.tmp 13), (B (false)))], [], (B (false)), [], false⟩,
    ⟨[((.tmp 14), (B (false)))], [], (.lit undef), [], true⟩,
    ⟨[((.tmp 14), (B (false)))], [], (.lit undef), [], true⟩,
    ⟨[((.tmp 14), (B (false)))], [], (.lit undef), [], true⟩,
    ⟨[((.tmp 14), (B (false)))], [], (.lit undef), [], true⟩,
    ⟨[((.tmp 14), (B (false)))], [], (.lit undef), [], true⟩,
    ⟨[((.tmp 14), (B (false)))], [], (.lit undef), [], true⟩,
    ⟨[((.tmp 14), (B (false))), ((.tmp 20), (.lit undef)), ((.const (.bool false)), (B (false)))], [], (B (false)), [], false⟩,
    ⟨[((.tmp 21), (B (false)))], [], (B (false)), [], false⟩,
    ⟨[((.tmp 22), (B (false)))], [], (.lit undef), [], true⟩,
    ⟨[((.tmp 22), (B (false)))], [], (.lit undef), [], true⟩,
    ⟨[((.tmp 22), (B (false)))], [], (.lit undef), [], true⟩,
    ⟨[((.tmp 22), (B (false))), ((.tmp 25), (.lit undef)), ((.const (.bool false)), (B (false)))], [], (B (false)), [], false⟩,
    ⟨[((.tmp 26), (B (false)))], [], (B (false)), [], false⟩] (by exact ⟨by kernel_rfl, by kernel_rfl⟩) ?_ ?_
    · exact ⟨fun _ => astep_faddr rfl Try.underlying42 rfl rfl ti3 (by decide) rfl,
    fun _ => astep_load rfl ti3 (by decide) rfl (Nat.le_of_ble_eq_true rfl) rfl,
    fun _ => astep_pcall (first := []) (cap := []) (vs := [(I (p0.Mass)), (I (0)), (I (1000000))]) rfl enter65 (steam_withinX_ok N p0.Mass 0 1000000 _ hf1) rfl rfl (nl_cons (NLt.lit _) (nl_cons (NLt.lit _) (nl_cons (NLt.lit _) nl_nil))) (NLt.lit _) rfl,
    fun _ => astep_b hb3 (astep_move rfl),
    fun hs => (Bool.noConfusion hs),
    fun hs => (Bool.noConfusion hs),
    fun hs => (Bool.noConfusion hs),
    fun hs => (Bool.noConfusion hs),
    fun hs => (Bool.noConfusion hs),
    fun hs => (Bool.noConfusion hs),
    fun _ => astep_pick rfl rfl,
    fun _ => astep_move rfl,
    fun hs => (Bool.noConfusion hs),
    fun hs => (Bool.noConfusion hs),
    fun hs => (Bool.noConfusion hs),
    fun hs => (Bool.noConfusion hs),
    fun hs => (Bool.noConfusion hs),
    fun hs => (Bool.noConfusion hs),
    fun _ => astep_pick rfl rfl,
    fun _ => astep_move rfl,
    fun hs => (Bool.noConfusion hs),
    fun hs => (Bool.noConfusion hs),
    fun hs => (Bool.noConfusion hs),
    fun _ => astep_pick rfl rfl,
    fun _ => astep_assign rfl, trivial⟩
    refine awp_ret ?_
    obtain rfl := Option.some.inj h
    exact ⟨⟨[(B (false))], ⟨resOK_tmp (by kernel_rfl), trivial⟩, rfl⟩, (NLt.lit _), Nat.le_refl _, fun n hn => absurd hn (Nat.not_lt_zero n)⟩

def steam_CheckStreamX (N : Nat) (p0 : GStream) : Option Int :=
  (steam_Stream_validX N p0).bind fun x2 =>
  bif (!x2) then
    some 1
  else
    some 0
set_option maxRecDepth 100000 in
set_option maxHeartbeats 4000000 in
theorem steam_CheckStreamX_ok (N : Nat) (p0 : GStream) (r : Int) (h : steam_CheckStreamX N p0 = some r) : Spec Try.prog 29 [(.agg (c_GStream p0))] [] (I r) [] := by
  refine spec_of_awp Try.func29 rfl 0 (Nat.le_of_ble_eq_true rfl) (fun X φ0 w0 hφ0 => ?_)
  unfold steam_CheckStreamX at h
  refine awp_reg [⟨[((.tmp 0), (.agg [(I (p0.Mass)), (I (p0.Heat)), (I (p0.Silica)), (I (p0.Gas))]))], [(0, .unused)], (.ref 0 4 (0) 0), [(0, (.own 4 [[(I (p0.Mass)), (I (p0.Heat)), (I (p0.Silica)), (I (p0.Gas))]]))], false⟩,
    ⟨[((.const (.int .i64 0)), (I (0)))], [], (I (0)), [], false⟩] (by exact ⟨by kernel_rfl, by kernel_rfl⟩) ?_ ?_
  · exact ⟨fun _ => astep_box rfl (by rfl) rfl rfl,
    fun _ => astep_assign rfl, trivial⟩
  refine awp_seq ?_
  obtain ⟨x2, hf1, h⟩ := bind_out h
  refine awp_reg [⟨[((.tmp 1), (.ref 0 4 (0) 0))], [(0, (.own 4 [[(I (p0.Mass)), (I (p0.Heat)), (I (p0.Silica)), (I (p0.Gas))]]))], (.agg [(I (p0.Mass)), (I (p0.Heat)), (I (p0.Silica)), (I (p0.Gas))]), [], false⟩,
    ⟨[((.func 63), (.fn (.func 63) [] [])), ((.tmp 3), (.agg [(I (p0.Mass)), (I (p0.Heat)), (I (p0.Silica)), (I (p0.Gas))]))], [], (B (x2)), [], false⟩,
    ⟨[((.tmp 4), (B (x2)))], [], (B ((!x2))), [], false⟩] (by exact ⟨by kernel_rfl, by kernel_rfl⟩) ?_ ?_
  · exact ⟨fun _ => astep_load rfl ti42 (by decide) rfl (Nat.le_of_ble_eq_true rfl) rfl,
    fun _ => astep_pcall (first := []) (cap := []) (vs := [(.agg [(I (p0.Mass)), (I (p0.Heat)), (I (p0.Silica)), (I (p0.Gas))])]) rfl enter63 (steam_Stream_validX_ok N p0 _ hf1) rfl rfl (nl_cons (NLt.agg _ (nl_cons (NLt.lit _) (nl_cons (NLt.lit _) (nl_cons (NLt.lit _) (nl_cons (NLt.lit _) nl_nil))))) nl_nil) (NLt.lit _) rfl,
    fun _ => astep_not rfl, trivial⟩
  rcases Bool.eq_false_or_eq_true ((!x2)) with hc3 | hc3
  · replace h := bif_t hc3 h
    refine awp_ift hc3 (by kernel_rfl) ?_
    refine awp_reg [⟨[((.const (.int .i64 1)), (I (1)))], [], (I (1)), [], false⟩] (by exact ⟨by kernel_rfl, by kernel_rfl⟩) ?_ ?_
    · exact ⟨fun _ => astep_assign rfl, trivial⟩
    refine awp_ret ?_
    refine thenA_r ?_
    obtain rfl := Option.some.inj h
    exact ⟨⟨[(I (1))], ⟨resOK_tmp (by kernel_rfl), trivial⟩, rfl⟩, (NLt.lit _), Nat.le_refl _, fun n hn => absurd hn (Nat.not_lt_zero n)⟩
  · replace h := bif_f hc3 h
    refine awp_ifn hc3 (by kernel_rfl) ?_
    refine awp_skip ?_
    refine thenA_n ?_
    refine awp_reg [⟨[((.const (.int .i64 0)), (I (0)))], [], (I (0)), [], false⟩] (by exact ⟨by kernel_rfl, by kernel_rfl⟩) ?_ ?_
    · exact ⟨fun _ => astep_assign rfl, trivial⟩
    refine awp_ret ?_
    obtain rfl := Option.some.inj h
    exact ⟨⟨[(I (0))], ⟨resOK_tmp (by kernel_rfl), trivial⟩, rfl⟩, (NLt.lit _), Nat.le_refl _, fun n hn => absurd hn (Nat.not_lt_zero n)⟩

def ref01_RightStreamX (N : Nat) (p0 : GStream) : Option Bool :=
  (ref01_InX N p0.Mass 0 1000000).bind fun x2 =>
  bif x2 then
    (ref01_InX N p0.Heat 0 (w64 (4000 * p0.Mass))).bind fun x5 =>
    bif x5 then
      (ref01_InX N p0.Silica 0 (w64 (10000 * p0.Mass))).bind fun x8 =>
      bif x8 then
        (ref01_InX N p0.Gas 0 1000000000).bind fun x11 =>
        some x11
      else
        some false
    else
      some false
  else
    some false
set_option maxRecDepth 100000 in
set_option maxHeartbeats 4000000 in
theorem ref01_RightStreamX_ok (N : Nat) (p0 : GStream) (r : Bool) (h : ref01_RightStreamX N p0 = some r) : Spec Try.prog 24 [(.agg (c_GStream p0))] [] (B r) [] := by
  refine spec_of_awp Try.func24 rfl 0 (Nat.le_of_ble_eq_true rfl) (fun X φ0 w0 hφ0 => ?_)
  unfold ref01_RightStreamX at h
  refine awp_reg [⟨[((.tmp 0), (.agg [(I (p0.Mass)), (I (p0.Heat)), (I (p0.Silica)), (I (p0.Gas))]))], [(0, .unused)], (.ref 0 4 (0) 0), [(0, (.own 4 [[(I (p0.Mass)), (I (p0.Heat)), (I (p0.Silica)), (I (p0.Gas))]]))], false⟩,
    ⟨[((.const (.bool false)), (B (false)))], [], (B (false)), [], false⟩] (by exact ⟨by kernel_rfl, by kernel_rfl⟩) ?_ ?_
  · exact ⟨fun _ => astep_box rfl (by rfl) rfl rfl,
    fun _ => astep_assign rfl, trivial⟩
  obtain ⟨x2, hf1, h⟩ := bind_out h
  rcases Bool.eq_false_or_eq_true (x2) with hb3 | hb3
  · replace h := bif_t hb3 h
    obtain ⟨x5, hf4, h⟩ := bind_out h
    rcases Bool.eq_false_or_eq_true (x5) with hb6 | hb6
    · replace h := bif_t hb6 h
      obtain ⟨x8, hf7, h⟩ := bind_out h
      rcases Bool.eq_false_or_eq_true (x8) with hb9 | hb9
      · replace h := bif_t hb9 h
        obtain ⟨x11, hf10, h⟩ := bind_out h
        refine awp_reg [⟨[((.tmp 1), (.ref 0 4 (0) 0))], [(0, (.own 4 [[(I (p0.Mass)), (I (p0.Heat)), (I (p0.Silica)), (I (p0.Gas))]]))], (.ref 0 4 (0) 0), [], false⟩,
    ⟨[((.tmp 3), (.ref 0 4 (0) 0))], [(0, (.own 4 [[(I (p0.Mass)), (I (p0.Heat)), (I (p0.Silica)), (I (p0.Gas))]]))], (I (p0.Mass)), [], false⟩,
    ⟨[((.func 31), (.fn (.func 31) [] [])), ((.tmp 4), (I (p0.Mass))), ((.const (.int .i64 0)), (I (0))), ((.const (.int .i64 1000000)), (I (1000000)))], [], (B (x2)), [], false⟩,
    ⟨[((.tmp 5), (B (x2)))], [], (B (true)), [], false⟩,
    ⟨[((.tmp 6), (B (true))), ((.tmp 1), (.ref 0 4 (0) 0))], [(0, (.own 4 [[(I (p0.Mass)), (I (p0.Heat)), (I (p0.Silica)), (I (p0.Gas))]]))], (.ref 0 4 (0) 1), [], false⟩,
    ⟨[((.tmp 6), (B (true))), ((.tmp 7), (.ref 0 4 (0) 1))], [(0, (.own 4 [[(I (p0.Mass)), (I (p0.Heat)), (I (p0.Silica)), (I (p0.Gas))]]))], (I (p0.Heat)), [], false⟩,
    ⟨[((.tmp 6), (B (true))), ((.tmp 1), (.ref 0 4 (0) 0))], [(0, (.own 4 [[(I (p0.Mass)), (I (p0.Heat)), (I (p0.Silica)), (I (p0.Gas))]]))], (.ref 0 4 (0) 0), [], false⟩,
    ⟨[((.tmp 6), (B (true))), ((.tmp 9), (.ref 0 4 (0) 0))], [(0, (.own 4 [[(I (p0.Mass)), (I (p0.Heat)), (I (p0.Silica)), (I (p0.Gas))]]))], (I (p0.Mass)), [], false⟩,
    ⟨[((.tmp 6), (B (true))), ((.const (.int .i64 4000)), (I (4000))), ((.tmp 10), (I (p0.Mass)))], [], (I (w64 (4000 * p0.Mass))), [], false⟩,
    ⟨[((.tmp 6), (B (true))), ((.func 31), (.fn (.func 31) [] [])), ((.tmp 8), (I (p0.Heat))), ((.const (.int .i64 0)), (I (0))), ((.tmp 11), (I (w64 (4000 * p0.Mass))))], [], (B (x5)), [], false⟩,
    ⟨[((.tmp 6), (B (true))), ((.tmp 12), (B (x5))), ((.const (.bool false)), (B (false)))], [], (B (x5)), [], false⟩,
    ⟨[((.tmp 13), (B (x5)))], [], (B (true)), [], false⟩,
    ⟨[((.tmp 14), (B (true))), ((.tmp 1), (.ref 0 4 (0) 0))], [(0, (.own 4 [[(I (p0.Mass)), (I (p0.Heat)), (I (p0.Silica)), (I (p0.Gas))]]))], (.ref 0 4 (0) 2), [], false⟩,
    ⟨[((.tmp 14), (B (true))), ((.tmp 15), (.ref 0 4 (0) 2))], [(0, (.own 4 [[(I (p0.Mass)), (I (p0.Heat)), (I (p0.Silica)), (I (p0.Gas))]]))], (I (p0.Silica)), [], false⟩,
    ⟨[((.tmp 14), (B (true))), ((.tmp 1), (.ref 0 4 (0) 0))], [(0, (.own 4 [[(I (p0.Mass)), (I (p0.Heat)), (I (p0.Silica)), (I (p0.Gas))]]))], (.ref 0 4 (0) 0), [], false⟩,
    ⟨[((.tmp 14), (B (true))), ((.tmp 17), (.ref 0 4 (0) 0))], [(0, (.own 4 [[(I (p0.Mass)), (I (p0.Heat)), (I (p0.Silica)), (I (p0.Gas))]]))], (I (p0.Mass)), [], false⟩,
    ⟨[((.tmp 14), (B (true))), ((.const (.int .i64 10000)), (I (10000))), ((.tmp 18), (I (p0.Mass)))], [], (I (w64 (10000 * p0.Mass))), [], false⟩,
    ⟨[((.tmp 14), (B (true))), ((.func 31), (.fn (.func 31) [] [])), ((.tmp 16), (I (p0.Silica))), ((.const (.int .i64 0)), (I (0))), ((.tmp 19), (I (w64 (10000 * p0.Mass))))], [], (B (x8)), [], false⟩,
    ⟨[((.tmp 14), (B (true))), ((.tmp 20), (B (x8))), ((.const (.bool false)), (B (false)))], [], (B (x8)), [], false⟩,
    ⟨[((.tmp 21), (B (x8)))], [], (B (true)), [], false⟩,
    ⟨[((.tmp 22), (B (true))), ((.tmp 1), (.ref 0 4 (0) 0))], [(0, (.own 4 [[(I (p0.Mass)), (I (p0.Heat)), (I (p0.Silica)), (I (p0.Gas))]]))], (.ref 0 4 (0) 3), [], false⟩,
    ⟨[((.tmp 22), (B (true))), ((.tmp 23), (.ref 0 4 (0) 3))], [(0, (.own 4 [[(I (p0.Mass)), (I (p0.Heat)), (I (p0.Silica)), (I (p0.Gas))]]))], (I (p0.Gas)), [], false⟩,
    ⟨[((.tmp 22), (B (true))), ((.func 31), (.fn (.func 31) [] [])), ((.tmp 24), (I (p0.Gas))), ((.const (.int .i64 0)), (I (0))), ((.const (.int .i64 1000000000)), (I (1000000000)))], [], (B (x11)), [], false⟩,
    ⟨[((.tmp 22), (B (true))), ((.tmp 25), (B (x11))), ((.const (.bool false)), (B (false)))], [], (B (x11)), [], false⟩,
    ⟨[((.tmp 26), (B (x11)))], [], (B (x11)), [], false⟩] (by exact ⟨by kernel_rfl, by kernel_rfl⟩) ?_ ?_
        · exact ⟨fun _ => astep_faddr rfl Try.underlying39 rfl rfl ti3 (by decide) rfl,
    fun _ => astep_load rfl ti3 (by decide) rfl (Nat.le_of_ble_eq_true rfl) rfl,
    fun _ => astep_pcall (first := []) (cap := []) (vs := [(I (p0.Mass)), (I (0)), (I (1000000))]) rfl enter31 (ref01_InX_ok N p0.Mass 0 1000000 _ hf1) rfl rfl (nl_cons (NLt.lit _) (nl_cons (NLt.lit _) (nl_cons (NLt.lit _) nl_nil))) (NLt.lit _) rfl,
    fun _ => astep_b hb3 (astep_move rfl),
    fun _ => astep_guard (astep_faddr rfl Try.underlying39 rfl rfl ti3 (by decide) rfl),
    fun _ => astep_guard (astep_load rfl ti3 (by decide) rfl (Nat.le_of_ble_eq_true rfl) rfl),
    fun _ => astep_guard (astep_faddr rfl Try.underlying39 rfl rfl ti3 (by decide) rfl),
    fun _ => astep_guard (astep_load rfl ti3 (by decide) rfl (Nat.le_of_ble_eq_true rfl) rfl),
    fun _ => astep_guard (astep_bin rfl rfl),
    fun _ => astep_guard (astep_pcall (first := []) (cap := []) (vs := [(I (p0.Heat)), (I (0)), (I (w64 (4000 * p0.Mass)))]) rfl enter31 (ref01_InX_ok N p0.Heat 0 (w64 (4000 * p0.Mass)) _ hf4) rfl rfl (nl_cons (NLt.lit _) (nl_cons (NLt.lit _) (nl_cons (NLt.lit _) nl_nil))) (NLt.lit _) rfl),
    fun _ => astep_pick rfl rfl,
    fun _ => astep_b hb6 (astep_move rfl),
    fun _ => astep_guard (astep_faddr rfl Try.underlying39 rfl rfl ti3 (by decide) rfl),
    fun _ => astep_guard (astep_load rfl ti3 (by decide) rfl (Nat.le_of_ble_eq_true rfl) rfl),
    fun _ => astep_guard (astep_faddr rfl Try.underlying39 rfl rfl ti3 (by decide) rfl),
    fun _ => astep_guard (astep_load rfl ti3 (by decide) rfl (Nat.le_of_ble_eq_true rfl) rfl),
    fun _ => astep_guard (astep_bin rfl rfl),
    fun _ => astep_guard (astep_pcall (first := []) (cap := []) (vs := [(I (p0.Silica)), (I (0)), (I (w64 (10000 * p0.Mass)))]) rfl enter31 (ref01_InX_ok N p0.Silica 0 (w64 (10000 * p0.Mass)) _ hf7) rfl rfl (nl_cons (NLt.lit _) (nl_cons (NLt.lit _) (nl_cons (NLt.lit _) nl_nil))) (NLt.lit _) rfl),
    fun _ => astep_pick rfl rfl,
    fun _ => astep_b hb9 (astep_move rfl),
    fun _ => astep_guard (astep_faddr rfl Try.underlying39 rfl rfl ti3 (by decide) rfl),
    fun _ => astep_guard (astep_load rfl ti3 (by decide) rfl (Nat.le_of_ble_eq_true rfl) rfl),
    fun _ => astep_guard (astep_pcall (first := []) (cap := []) (vs := [(I (p0.Gas)), (I (0)), (I (1000000000))]) rfl enter31 (ref01_InX_ok N p0.Gas 0 1000000000 _ hf10) rfl rfl (nl_cons (NLt.lit _) (nl_cons (NLt.lit _) (nl_cons (NLt.lit _) nl_nil))) (NLt.lit _) rfl),
    fun _ => astep_pick rfl rfl,
    fun _ => astep_assign rfl, trivial⟩
        refine awp_ret ?_
        obtain rfl := Option.some.inj h
        exact ⟨⟨[(B (x11))], ⟨resOK_tmp (by kernel_rfl), trivial⟩, rfl⟩, (NLt.lit _), Nat.le_refl _, fun n hn => absurd hn (Nat.not_lt_zero n)⟩
      · replace h := bif_f hb9 h
        refine awp_reg [⟨[((.tmp 1), (.ref 0 4 (0) 0))], [(0, (.own 4 [[(I (p0.Mass)), (I (p0.Heat)), (I (p0.Silica)), (I (p0.Gas))]]))], (.ref 0 4 (0) 0), [], false⟩,
    ⟨[((.tmp 3), (.ref 0 4 (0) 0))], [(0, (.own 4 [[(I (p0.Mass)), (I (p0.Heat)), (I (p0.Silica)), (I (p0.Gas))]]))], (I (p0.Mass)), [], false⟩,
    ⟨[((.func 31), (.fn (.func 31) [] [])), ((.tmp 4), (I (p0.Mass))), ((.const (.int .i64 0)), (I (0))), ((.const (.int .i64 1000000)), (I (1000000)))], [], (B (x2)), [], false⟩,
    ⟨[((.tmp 5), (B (x2)))], [], (B (true)), [], false⟩,
    ⟨[((.tmp 6), (B (true))), ((.tmp 1), (.ref 0 4 (0) 0))], [(0, (.own 4 [[(I (p0.Mass)), (I (p0.Heat)), (I (p0.Silica)), (I (p0.Gas))]]))], (.ref 0 4 (0) 1), [], false⟩,
    ⟨[((.tmp 6), (B (true))), ((.tmp 7), (.ref 0 4 (0) 1))], [(0, (.own 4 [[(I (p0.Mass)), (I (p0.Heat)), (I (p0.Silica)), (I (p0.Gas))]]))], (I (p0.Heat)), [], false⟩,
    ⟨[((.tmp 6), (B (true))), ((.tmp 1), (.ref 0 4 (0) 0))], [(0, (.own 4 [[(I (p0.Mass)), (I (p0.Heat)), (I (p0.Silica)), (I (p0.Gas))]]))], (.ref 0 4 (0) 0), [], false⟩,
    ⟨[((.tmp 6), (B (true))), ((.tmp 9), (.ref 0 4 (0) 0))], [(0, (.own 4 [[(I (p0.Mass)), (I (p0.Heat)), (I (p0.Silica)), (I (p0.Gas))]]))], (I (p0.Mass)), [], false⟩,
    ⟨[((.tmp 6), (B (true))), ((.const (.int .i64 4000)), (I (4000))), ((.tmp 10), (I (p0.Mass)))], [], (I (w64 (4000 * p0.Mass))), [], false⟩,
    ⟨[((.tmp 6), (B (true))), ((.func 31), (.fn (.func 31) [] [])), ((.tmp 8), (I (p0.Heat))), ((.const (.int .i64 0)), (I (0))), ((.tmp 11), (I (w64 (4000 * p0.Mass))))], [], (B (x5)), [], false⟩,
    ⟨[((.tmp 6), (B (true))), ((.tmp 12), (B (x5))), ((.const (.bool false)), (B (false)))], [], (B (x5)), [], false⟩,
    ⟨[((.tmp 13), (B (x5)))], [], (B (true)), [], false⟩,
    ⟨[((.tmp 14), (B (true))), ((.tmp 1), (.ref 0 4 (0) 0))], [(0, (.own 4 [[(I (p0.Mass)), (I (p0.Heat)), (I (p0.Silica)), (I (p0.Gas))]]))], (.ref 0 4 (0) 2), [], false⟩,
    ⟨[((.tmp 14), (B (true))), ((.tmp 15), (.ref 0 4 (0) 2))], [(0, (.own 4 [[(I (p0.Mass)), (I (p0.Heat)), (I (p0.Silica)), (I (p0.Gas))]]))], (I (p0.Silica)), [], false⟩,
    ⟨[((.tmp 14), (B (true))), ((.tmp 1), (.ref 0 4 (0) 0))], [(0, (.own 4 [[(I (p0.Mass)), (I (p0.Heat)), (I (p0.Silica)), (I (p0.Gas))]]))], (.ref 0 4 (0) 0), [], false⟩,
    ⟨[((.tmp 14), (B (true))), ((.tmp 17), (.ref 0 4 (0) 0))], [(0, (.own 4 [[(I (p0.Mass)), (I (p0.Heat)), (I (p0.Silica)), (I (p0.Gas))]]))], (I (p0.Mass)), [], false⟩,
    ⟨[((.tmp 14), (B (true))), ((.const (.int .i64 10000)), (I (10000))), ((.tmp 18), (I (p0.Mass)))], [], (I (w64 (10000 * p0.Mass))), [], false⟩,
    ⟨[((.tmp 14), (B (true))), ((.func 31), (.fn (.func 31) [] [])), ((.tmp 16), (I (p0.Silica))), ((.const (.int .i64 0)), (I (0))), ((.tmp 19), (I (w64 (10000 * p0.Mass))))], [], (B (x8)), [], false⟩,
    ⟨[((.tmp 14), (B (true))), ((.tmp 20), (B (x8))), ((.const (.bool false)), (B (false)))], [], (B (x8)), [], false⟩,
    ⟨[((.tmp 21), (B (x8)))], [], (B (false)), [], false⟩,
    ⟨[((.tmp 22), (B (false)))], [], (.lit undef), [], true⟩,
    ⟨[((.tmp 22), (B (false)))], [], (.lit undef), [], true⟩,
    ⟨[((.tmp 22), (B (false)))], [], (.lit undef), [], true⟩,
    ⟨[((.tmp 22), (B (false))), ((.tmp 25), (.lit undef)), ((.const (.bool false)), (B (false)))], [], (B (false)), [], false⟩,
    ⟨[((.tmp 26), (B (false)))], [], (B (false)), [], false⟩] (by exact ⟨by kernel_rfl, by kernel_rfl⟩) ?_ ?_
        · exact ⟨fun _ => astep_faddr rfl Try.underlying39 rfl rfl ti3 (by decide) rfl,
    fun _ => astep_load rfl ti3 (by decide) rfl (Nat.le_of_ble_eq_true rfl) rfl,
    fun _ => astep_pcall (first := []) (cap := []) (vs := [(I (p0.Mass)), (I (0)), (I (1000000))]) rfl enter31 (ref01_InX_ok N p0.Mass 0 1000000 _ hf1) rfl rfl (nl_cons (NLt.lit _) (nl_cons (NLt.lit _) (nl_cons (NLt.lit _) nl_nil))) (NLt.lit _) rfl,
    fun _ => astep_b hb3 (astep_move rfl),
    fun _ => astep_guard (astep_faddr rfl Try.underlying39 rfl rfl ti3 (by decide) rfl),
    fun _ => astep_guard (astep_load rfl ti3 (by decide) rfl (Nat.le_of_ble_eq_true rfl) rfl),
    fun _ => astep_guard (astep_faddr rfl Try.underlying39 rfl rfl ti3 (by decide) rfl),
    fun _ => astep_guard (astep_load rfl ti3 (by decide) rfl (Nat.le_of_ble_eq_true rfl) rfl),
    fun _ => astep_guard (astep_bin rfl rfl),
    fun _ => astep_guard (astep_pcall (first := []) (cap := []) (vs := [(I (p0.Heat)), (I (0)), (I (w64 (4000 * p0.Mass)))]) rfl enter31 (ref01_InX_ok N p0.Heat 0 (w64 (4000 * p0.Mass)) _ hf4) rfl rfl (nl_cons (NLt.lit _) (nl_cons (NLt.lit _) (nl_cons (NLt.lit _) nl_nil))) (NLt.lit _) rfl),
    fun _ => astep_pick rfl rfl,
    fun _ => astep_b hb6 (astep_move rfl),
    fun _ => astep_guard (astep_faddr rfl Try.underlying39 rfl rfl ti3 (by decide) rfl),
    fun _ => astep_guard (astep_load rfl ti3 (by decide) rfl (Nat.le_of_ble_eq_true rfl) rfl),
    fun _ => astep_guard (astep_faddr rfl Try.underlying39 rfl rfl ti3 (by decide) rfl),
    fun _ => astep_guard (astep_load rfl ti3 (by decide) rfl (Nat.le_of_ble_eq_true rfl) rfl),
    fun _ => astep_guard (astep_bin rfl rfl),
    fun _ => astep_guard (astep_pcall (first := []) (cap := []) (vs := [(I (p0.Silica)), (I (0)), (I (w64 (10000 * p0.Mass)))]) rfl enter31 (ref01_InX_ok N p0.Silica 0 (w64 (10000 * p0.Mass)) _ hf7) rfl rfl (nl_cons (NLt.lit _) (nl_cons (NLt.lit _) (nl_cons (NLt.lit _) nl_nil))) (NLt.lit _) rfl),
    fun _ => astep_pick rfl rfl,
    fun _ => astep_b hb9 (astep_move rfl),
    fun hs => (Bool.noConfusion hs),
    fun hs => (Bool.noConfusion hs),
    fun hs => (Bool.noConfusion hs),
    fun _ => astep_pick rfl rfl,
    fun _ => astep_assign rfl, trivial⟩
        refine awp_ret ?_
        obtain rfl := Option.some.inj h
        exact ⟨⟨[(B (false))], ⟨resOK_tmp (by kernel_rfl), trivial⟩, rfl⟩, (NLt.lit _), Nat.le_refl _, fun n hn => absurd hn (Nat.not_lt_zero n)⟩
    · replace h := bif_f hb6 h
      refine awp_reg [⟨[((.tmp 1), (.ref 0 4 (0) 0))], [(0, (.own 4 [[(I (p0.Mass)), (I (p0.Heat)), (I (p0.Silica)), (I (p0.Gas))]]))], (.ref 0 4 (0) 0), [], false⟩,
    ⟨[((.tmp 3), (.ref 0 4 (0) 0))], [(0, (.own 4 [[(I (p0.Mass)), (I (p0.Heat)), (I (p0.Silica)), (I (p0.Gas))]]))], (I (p0.Mass)), [], false⟩,
    ⟨[((.func 31), (.fn (.func 31) [] [])), ((.tmp 4), (I (p0.Mass))), ((.const (.int .i64 0)), (I (0))), ((.const (.int .i64 1000000)), (I (1000000)))], [], (B (x2)), [], false⟩,
    ⟨[((.tmp 5), (B (x2)))], [], (B (true)), [], false⟩,
    ⟨[((.tmp 6), (B (true))), ((.tmp 1), (.ref 0 4 (0) 0))], [(0, (.own 4 [[(I (p0.Mass)), (I (p0.Heat)), (I (p0.Silica)), (I (p0.Gas))]]))], (.ref 0 4 (0) 1), [], false⟩,
    ⟨[((.tmp 6), (B (true))), ((.tmp 7), (.ref 0 4 (0) 1))], [(0, (.own 4 [[(I (p0.Mass)), (I (p0.Heat)), (I (p0.Silica)), (I (p0.Gas))]]))], (I (p0.Heat)), [], false⟩,
    ⟨[((.tmp 6), (B (true))), ((.tmp 1), (.ref 0 4 (0) 0))], [(0, (.own 4 [[(I (p0.Mass)), (I (p0.Heat)), (I (p0.Silica)), (I (p0.Gas))]]))], (.ref 0 4 (0) 0), [], false⟩,
    ⟨[((.tmp 6), (B (true))), ((.tmp 9), (.ref 0 4 (0) 0))], [(0, (.own 4 [[(I (p0.Mass)), (I (p0.Heat)), (I (p0.Silica)), (I (p0.Gas))]]))], (I (p0.Mass)), [], false⟩,
    ⟨[((.tmp 6), (B (true))), ((.const (.int .i64 4000)), (I (4000))), ((.tmp 10), (I (p0.Mass)))], [], (I (w64 (4000 * p0.Mass))), [], false⟩,
    ⟨[((.tmp 6), (B (true))), ((.func 31), (.fn (.func 31) [] [])), ((.tmp 8), (I (p0.Heat))), ((.const (.int .i64 0)), (I (0))), ((.tmp 11), (I (w64 (4000 * p0.Mass))))], [], (B (x5)), [], false⟩,
    ⟨[((.tmp 6), (B (true))), ((.tmp 12), (B (x5))), ((.const (.bool false)), (B (false)))], [], (B (x5)), [], false⟩,
    ⟨[((.tmp 13), (B (x5)))], [], (B (false)), [], false⟩,
    ⟨[((.tmp 14), (B (false)))], [], (.lit undef), [], true⟩,
    ⟨[((.tmp 14), (B (false)))], [], (.lit undef), [], true⟩,
    ⟨[((.tmp 14), (B (false)))], [], (.lit undef), [], true⟩,
    ⟨[((.tmp 14), (B (false)))], [], (.lit undef), [], true⟩,
    ⟨[((.tmp 14), (B (false)))], [], (.lit undef), [], true⟩,
    ⟨[((.tmp 14), (B (false)))], [], (.lit undef), [], true⟩,
    ⟨[((.tmp 14), (B (false))), ((.tmp 20), (.lit undef)), ((.const (.bool false)), (B (false)))], [], (B (false)), [], false⟩,
    ⟨[((.tmp 21), (B (false)))], [], (B (false)), [], false⟩,
    ⟨[((.tmp 22), (B (false)))], [], (.lit undef), [], true⟩,
    ⟨[((.tmp 22), (B (false)))], [], (.lit undef), [], true⟩,
    ⟨[((.tmp 22), (B (false)))], [], (.lit undef), [], true⟩,
    ⟨[((.tmp 22), (B (false))), ((.tmp 25), (.lit undef)), ((.const (.bool false)), (B (false)))], [], (B (false)), [], false⟩,
    ⟨[((.tmp 26), (B (false)))], [], (B (false)), [], false⟩] (by exact ⟨by kernel_rfl, by kernel_rfl⟩) ?_ ?_
      · exact ⟨fun _ => astep_faddr rfl Try.underlying39 rfl rfl ti3 (by decide) rfl,
    fun _ => astep_load rfl ti3 (by decide) rfl (Nat.le_of_ble_eq_true rfl) rfl,
    fun _ => astep_pcall (first := []) (cap := []) (vs := [(I (p0.Mass)), (I (0)), (I (1000000))]) rfl enter31 (ref01_InX_ok N p0.Mass 0 1000000 _ hf1) rfl rfl (nl_cons (NLt.lit _) (nl_cons (NLt.lit _) (nl_cons (NLt.lit _) nl_nil))) (NLt.lit _) rfl,
    fun _ => astep_b hb3 (astep_move rfl),
    fun _ => astep_guard (astep_faddr rfl Try.underlying39 rfl rfl ti3 (by decide) rfl),
    fun _ => astep_guard (astep_load rfl ti3 (by decide) rfl (Nat.le_of_ble_eq_true rfl) rfl),
    fun _ => astep_guard (astep_faddr rfl Try.underlying39 rfl rfl ti3 (by decide) rfl),
    fun _ => astep_guard (astep_load rfl ti3 (by decide) rfl (Nat.le_of_ble_eq_true rfl) rfl),
    fun _ => astep_guard (astep_bin rfl rfl),
    fun _ => astep_guard (astep_pcall (first := []) (cap := []) (vs := [(I (p0.Heat)), (I (0)), (I (w64 (4000 * p0.Mass)))]) rfl enter31 (ref01_InX_ok N p0.Heat 0 (w64 (4000 * p0.Mass)) _ hf4) rfl rfl (nl_cons (NLt.lit _) (nl_cons (NLt.lit _) (nl_cons (NLt.lit _) nl_nil))) (NLt.lit _) rfl),
    fun _ => astep_pick rfl rfl,
    fun _ => astep_b hb6 (astep_move rfl),
    fun hs => (Bool.noConfusion hs),
    fun hs => (Bool.noConfusion hs),
    fun hs => (Bool.noConfusion hs),
    fun hs => (Bool.noConfusion hs),
    fun hs => (Bool.noConfusion hs),
    fun hs => (Bool.noConfusion hs),
    fun _ => astep_pick rfl rfl,
    fun _ => astep_move rfl,
    fun hs => (Bool.noConfusion hs),
    fun hs => (Bool.noConfusion hs),
    fun hs => (Bool.noConfusion hs),
    fun _ => astep_pick rfl rfl,
    fun _ => astep_assign rfl, trivial⟩
      refine awp_ret ?_
      obtain rfl := Option.some.inj h
      exact ⟨⟨[(B (false))], ⟨resOK_tmp (by kernel_rfl), trivial⟩, rfl⟩, (NLt.lit _), Nat.le_refl _, fun n hn => absurd hn (Nat.not_lt_zero n)⟩
  · replace h := bif_f hb3 h
    refine awp_reg [⟨[((.tmp 1), (.ref 0 4 (0) 0))], [(0, (.own 4 [[(I (p0.Mass)), (I (p0.Heat)), (I (p0.Silica)), (I (p0.Gas))]]))], (.ref 0 4 (0) 0), [], false⟩,
    ⟨[((.tmp 3), (.ref 0 4 (0) 0))], [(0, (.own 4 [[(I (p0.Mass)), (I (p0.Heat)), (I (p0.Silica)), (I (p0.Gas))]]))], (I (p0.Mass)), [], false⟩,
    ⟨[((.func 31), (.fn (.func 31) [] [])), ((.tmp 4), (I (p0.Mass))), ((.const (.int .i64 0)), (I (0))), ((.const (.int .i64 1000000)), (I (1000000)))], [], (B (x2)), [], false⟩,
    ⟨[((.tmp 5), (B (x2)))], [], (B (false)), [], false⟩,
    ⟨[((.tmp 6), (B (false)))], [], (.lit undef), [], true⟩,
    ⟨[((.tmp 6), (B (false)))], [], (.lit undef), [], true⟩,
    ⟨[((.tmp 6), (B (false)))], [], (.lit undef), [], true⟩,
    ⟨[((.tmp 6), (B (false)))], [], (.lit undef), [], true⟩,
    ⟨[((.tmp 6), (B (false)))], [], (.lit undef), [], true⟩,
    ⟨[((.tmp 6), (B (false)))], [], (.lit undef), [], true⟩,
    ⟨[((.tmp 6), (B (false))), ((.tmp 12), (.lit undef)), ((.const (.bool false)), (B (false)))], [], (B (false)), [], false⟩,
    ⟨[((.tmp 13), (B (false)))], [], (B (false)), [], false⟩,
    ⟨[((.tmp 14), (B (false)))], [], (.lit undef), [], true⟩,
    ⟨[((.tmp 14), (B (false)))], [], (.lit undef), [], true⟩,
    ⟨[((.tmp 14), (B (false)))], [], (.lit undef), [], true⟩,
    ⟨[((.tmp 14), (B (false)))], [], (.lit undef), [], true⟩,
    ⟨[((.tmp 14), (B (false)))], [], (.lit undef), [], true⟩,
    ⟨[((.tmp 14), (B (false)))], [], (.lit undef), [], true⟩,
    ⟨[((.tmp 14), (B (false))), ((.tmp 20), (.lit undef)), ((.const (.bool false)), (B (false)))], [], (B (false)), [], false⟩,
    ⟨[((.tmp 21), (B (false)))], [], (B (false)), [], false⟩,
    ⟨[((.tmp 22), (B (false)))], [], (.lit undef), [], true⟩,
    ⟨[((.tmp 22), (B (false)))], [], (.lit undef), [], true⟩,
    ⟨[((.tmp 22), (B (false)))], [], (.lit undef), [], true⟩,
    ⟨[((.tmp 22), (B (false))), ((.tmp 25), (.lit undef)), ((.const (.bool false)), (B (false)))], [], (B (false)), [], false⟩,
    ⟨[((.tmp 26), (B (false)))], [], (B (false)), [], false⟩] (by exact ⟨by kernel_rfl, by kernel_rfl⟩) ?_ ?_
    · exact ⟨fun _ => astep_faddr rfl Try.underlying39 rfl rfl ti3 (by decide) rfl,
    fun _ => astep_load rfl ti3 (by decide) rfl (Nat.le_of_ble_eq_true rfl) rfl,
    fun _ => astep_pcall (first := []) (cap := []) (vs := [(I (p0.Mass)), (I (0)), (I (1000000))]) rfl enter31 (ref01_InX_ok N p0.Mass 0 1000000 _ hf1) rfl rfl (nl_cons (NLt.lit _) (nl_cons (NLt.lit _) (nl_cons (NLt.lit _) nl_nil))) (NLt.lit _) rfl,
    fun _ => astep_b hb3 (astep_move rfl),
    fun hs => (Bool.noConfusion hs),
    fun hs => (Bool.noConfusion hs),
    fun hs => (Bool.noConfusion hs),
    fun hs => (Bool.noConfusion hs),
    fun hs => (Bool.noConfusion hs),
    fun hs => (Bool.noConfusion hs),
    fun _ => astep_pick rfl rfl,
    fun _ => astep_move rfl,
    fun hs => (Bool.noConfusion hs),
    fun hs => (Bool.noConfusion hs),
    fun hs => (Bool.noConfusion hs),
    fun hs => (Bool.noConfusion hs),
    fun hs => (Bool.noConfusion hs),
    fun hs => (Bool.noConfusion hs),
    fun _ => astep_pick rfl rfl,
    fun _ => astep_move rfl,
    fun hs => (Bool.noConfusion hs),
    fun hs => (Bool.noConfusion hs),
    fun hs => (Bool.noConfusion hs),
    fun _ => astep_pick rfl rfl,
    fun _ => astep_assign rfl, trivial⟩
    refine awp_ret ?_
    obtain rfl := Option.some.inj h
    exact ⟨⟨[(B (false))], ⟨resOK_tmp (by kernel_rfl), trivial⟩, rfl⟩, (NLt.lit _), Nat.le_refl _, fun n hn => absurd hn (Nat.not_lt_zero n)⟩

def ref01_RightX_loop1 (N : Nat) (p0 : (List GRow)) (k1 : Unit → Option Bool) : Nat → Int → Option Bool
  | 0, _ => none
  | n5 + 1, y3 =>
    bif (decide (y3 < (p0.length : Int))) then
      (getI p0 y3).bind fun x7 =>
      joinK (fun _ =>
          bif (decide (y3 > 0)) then
            (getI p0 (w64 (y3 - 1))).bind fun x13 =>
            bif (decide (x7.T ≤ x13.T)) then
              some false
            else
              bif (decide (x7.P ≤ x13.P)) then
                some false
              else
                bif (decide (x7.Liquid ≤ x13.Liquid)) then
                  some false
                else
                  bif (decide (x7.Silica < x13.Silica)) then
                    some false
                  else
                    ref01_RightX_loop1 N p0 k1 n5 (w64 (y3 + 1))
          else
            ref01_RightX_loop1 N p0 k1 n5 (w64 (y3 + 1))) fun k11 : Unit → Option Bool =>
      (ref01_InX N x7.T 0 400).bind fun x22 =>
      bif (!x22) then
        some false
      else
        (ref01_InX N x7.P 1 10000).bind fun x25 =>
        bif (!x25) then
          some false
        else
          (ref01_InX N x7.Liquid 0 4000).bind fun x28 =>
          bif (!x28) then
            some false
          else
            (ref01_InX N x7.Silica 0 2000).bind fun x31 =>
            bif (!x31) then
              some false
            else
              bif (decide (x7.Vapour ≤ x7.Liquid)) then
                some false
              else
                bif (decide (x7.Vapour > 4000)) then
                  some false
                else
                  k11 ()
    else
      k1 ()
def ref01_RightX (N : Nat) (p0 : (List GRow)) : Option Bool :=
  joinK (fun _ =>
      bif (decide ((p0.length : Int) ≥ 2)) then
        some (decide ((p0.length : Int) ≤ 20))
      else
        some false) fun k1 : Unit → Option Bool =>
  ref01_RightX_loop1 N p0 k1 N 0
set_option maxRecDepth 100000 in
set_option maxHeartbeats 4000000 in
theorem ref01_RightX_ok (N : Nat) (p0 : (List GRow)) (r : Bool) (h : ref01_RightX N p0 = some r) : Spec Try.prog 21 [(.dat 5 (p0.map c_GRow))] [] (B r) [] := by
  refine spec_of_awp Try.func21 rfl 0 (Nat.le_of_ble_eq_true rfl) (fun X φ0 w0 hφ0 => ?_)
  unfold ref01_RightX at h
  refine awp_reg [⟨[((.const (.bool false)), (B (false)))], [], (B (false)), [], false⟩] (by exact ⟨by kernel_rfl, by kernel_rfl⟩) ?_ ?_
  · exact ⟨fun _ => astep_assign rfl, trivial⟩
  obtain ⟨k1, hk_k1, h⟩ := joinK_out h
  refine awp_join (τ := Unit) (fun t => k1 t = some r) (fun _ => ⟨mk 103 [(0, (.dat 5 ((p0 : List GRow).map c_GRow)))], []⟩) (fun t h => ?_) ?_
  · subst hk_k1
    rcases Bool.eq_false_or_eq_true ((decide ((p0.length : Int) ≥ 2))) with hb2 | hb2
    · replace h := bif_t hb2 h
      refine awp_reg [⟨[((.tmp 0), (.dat 5 ((p0 : List GRow).map c_GRow)))], [], (.dat 5 ((p0 : List GRow).map c_GRow)), [], false⟩,
    ⟨[((.tmp 95), (.dat 5 ((p0 : List GRow).map c_GRow)))], [], (I ((p0.length : Int))), [], false⟩,
    ⟨[((.tmp 96), (I ((p0.length : Int)))), ((.const (.int .i64 2)), (I (2)))], [], (B ((decide ((p0.length : Int) ≥ 2)))), [], false⟩,
    ⟨[((.tmp 97), (B ((decide ((p0.length : Int) ≥ 2)))))], [], (B (true)), [], false⟩,
    ⟨[((.tmp 98), (B (true))), ((.tmp 0), (.dat 5 ((p0 : List GRow).map c_GRow)))], [], (.dat 5 ((p0 : List GRow).map c_GRow)), [], false⟩,
    ⟨[((.tmp 98), (B (true))), ((.tmp 99), (.dat 5 ((p0 : List GRow).map c_GRow)))], [], (I ((p0.length : Int))), [], false⟩,
    ⟨[((.tmp 98), (B (true))), ((.tmp 100), (I ((p0.length : Int)))), ((.const (.int .i64 20)), (I (20)))], [], (B ((decide ((p0.length : Int) ≤ 20)))), [], false⟩,
    ⟨[((.tmp 98), (B (true))), ((.tmp 101), (B ((decide ((p0.length : Int) ≤ 20))))), ((.const (.bool false)), (B (false)))], [], (B ((decide ((p0.length : Int) ≤ 20)))), [], false⟩,
    ⟨[((.tmp 102), (B ((decide ((p0.length : Int) ≤ 20)))))], [], (B ((decide ((p0.length : Int) ≤ 20)))), [], false⟩] (by exact ⟨by kernel_rfl, by kernel_rfl⟩) ?_ ?_
      · exact ⟨fun _ => astep_move rfl,
    fun _ => astep_lenm (c := c_GRow) (l := p0) (astep_len rfl Try.underlying23 rfl),
    fun _ => astep_bin rfl rfl,
    fun _ => astep_b hb2 (astep_move rfl),
    fun _ => astep_guard (astep_move rfl),
    fun _ => astep_guard (astep_lenm (c := c_GRow) (l := p0) (astep_len rfl Try.underlying23 rfl)),
    fun _ => astep_guard (astep_bin rfl rfl),
    fun _ => astep_pick rfl rfl,
    fun _ => astep_assign rfl, trivial⟩
      refine awp_ret ?_
      obtain rfl := Option.some.inj h
      exact ⟨⟨[(B ((decide ((p0.length : Int) ≤ 20))))], ⟨resOK_tmp (by kernel_rfl), trivial⟩, rfl⟩, (NLt.lit _), Nat.le_refl _, fun n hn => absurd hn (Nat.not_lt_zero n)⟩
    · replace h := bif_f hb2 h
      refine awp_reg [⟨[((.tmp 0), (.dat 5 ((p0 : List GRow).map c_GRow)))], [], (.dat 5 ((p0 : List GRow).map c_GRow)), [], false⟩,
    ⟨[((.tmp 95), (.dat 5 ((p0 : List GRow).map c_GRow)))], [], (I ((p0.length : Int))), [], false⟩,
    ⟨[((.tmp 96), (I ((p0.length : Int)))), ((.const (.int .i64 2)), (I (2)))], [], (B ((decide ((p0.length : Int) ≥ 2)))), [], false⟩,
    ⟨[((.tmp 97), (B ((decide ((p0.length : Int) ≥ 2)))))], [], (B (false)), [], false⟩,
    ⟨[((.tmp 98), (B (false)))], [], (.lit undef), [], true⟩,
    ⟨[((.tmp 98), (B (false)))], [], (.lit undef), [], true⟩,
    ⟨[((.tmp 98), (B (false)))], [], (.lit undef), [], true⟩,
    ⟨[((.tmp 98), (B (false))), ((.tmp 101), (.lit undef)), ((.const (.bool false)), (B (false)))], [], (B (false)), [], false⟩,
    ⟨[((.tmp 102), (B (false)))], [], (B (false)), [], false⟩] (by exact ⟨by kernel_rfl, by kernel_rfl⟩) ?_ ?_
      · exact ⟨fun _ => astep_move rfl,
    fun _ => astep_lenm (c := c_GRow) (l := p0) (astep_len rfl Try.underlying23 rfl),
    fun _ => astep_bin rfl rfl,
    fun _ => astep_b hb2 (astep_move rfl),
    fun hs => (Bool.noConfusion hs),
    fun hs => (Bool.noConfusion hs),
    fun hs => (Bool.noConfusion hs),
    fun _ => astep_pick rfl rfl,
    fun _ => astep_assign rfl, trivial⟩
      refine awp_ret ?_
      obtain rfl := Option.some.inj h
      exact ⟨⟨[(B (false))], ⟨resOK_tmp (by kernel_rfl), trivial⟩, rfl⟩, (NLt.lit _), Nat.le_refl _, fun n hn => absurd hn (Nat.not_lt_zero n)⟩
  · skip
    refine awp_reg [⟨[((.const (.int .i64 0)), (I (0)))], [], (I (0)), [], false⟩] (by exact ⟨by kernel_rfl, by kernel_rfl⟩) ?_ ?_
    · exact ⟨fun _ => astep_assign rfl, trivial⟩
    refine awp_block ?_
    refine awp_mor (mor_to (n := 103) (l' := [(0, (.dat 5 ((p0 : List GRow).map c_GRow))), (3, (I (0)))]) (own' := []) [(0, (.dat 5 ((p0 : List GRow).map c_GRow))), (3, (I (0)))] [] [] hφ0 (by kernel_rfl) (by kernel_rfl) (by kernel_rfl) ⟨rfl, .rn (.plain _ (nl_dat nl_GRow _)), rfl, .rn (.plain _ (NLt.lit _)), trivial⟩ trivial) ?_
    refine awp_ind (τ := Int) (fun n t => ref01_RightX_loop1 N p0 k1 n t = some r) (fun y3 => ⟨mk 103 [(0, (.dat 5 ((p0 : List GRow).map c_GRow))), (3, (I (y3)))], []⟩) (fun t h => by rw [ref01_RightX_loop1] at h; cases h) (fun n5 ih y3 h => ?_) N (0) h
    rw [ref01_RightX_loop1] at h
    skip
    refine awp_seq ?_
    refine awp_reg [⟨[((.tmp 3), (I (y3)))], [], (I (y3)), [], false⟩,
    ⟨[((.tmp 0), (.dat 5 ((p0 : List GRow).map c_GRow)))], [], (.dat 5 ((p0 : List GRow).map c_GRow)), [], false⟩,
    ⟨[((.tmp 6), (.dat 5 ((p0 : List GRow).map c_GRow)))], [], (I ((p0.length : Int))), [], false⟩,
    ⟨[((.tmp 5), (I (y3))), ((.tmp 7), (I ((p0.length : Int))))], [], (B ((decide (y3 < (p0.length : Int))))), [], false⟩] (by exact ⟨by kernel_rfl, by kernel_rfl⟩) ?_ ?_
    · exact ⟨fun _ => astep_move rfl,
    fun _ => astep_move rfl,
    fun _ => astep_lenm (c := c_GRow) (l := p0) (astep_len rfl Try.underlying23 rfl),
    fun _ => astep_bin rfl rfl, trivial⟩
    rcases Bool.eq_false_or_eq_true ((decide (y3 < (p0.length : Int)))) with hc6 | hc6
    · replace h := bif_t hc6 h
      refine awp_ift hc6 (by kernel_rfl) ?_
      refine awp_skip ?_
      refine thenA_n ?_
      refine awp_seq ?_
      refine awp_block ?_
      obtain ⟨x7, hg8, h⟩ := bind_out h
      obtain ⟨hi9, hj10⟩ := getI_some hg8
      refine awp_reg [⟨[((.tmp 0), (.dat 5 ((p0 : List GRow).map c_GRow)))], [], (.dat 5 ((p0 : List GRow).map c_GRow)), [], false⟩,
    ⟨[((.tmp 3), (I (y3)))], [], (I (y3)), [], false⟩,
    ⟨[((.tmp 11), (.dat 5 ((p0 : List GRow).map c_GRow))), ((.tmp 12), (I (y3)))], [], (.dptr (c_GRow (x7)) 0), [], false⟩,
    ⟨[((.tmp 13), (.dptr (c_GRow (x7)) 0))], [], (.agg [(I (x7.T)), (I (x7.P)), (I (x7.Liquid)), (I (x7.Vapour)), (I (x7.Silica))]), [], false⟩,
    ⟨[], [(0, .unused)], (.ref 0 5 (0) 0), [(0, (.own 5 [[(I (0)), (I (0)), (I (0)), (I (0)), (I (0))]]))], false⟩,
    ⟨[((.tmp 4), (.ref 0 5 (0) 0)), ((.tmp 14), (.agg [(I (x7.T)), (I (x7.P)), (I (x7.Liquid)), (I (x7.Vapour)), (I (x7.Silica))]))], [(0, (.own 5 [[(I (0)), (I (0)), (I (0)), (I (0)), (I (0))]]))], .any, [(0, (.own 5 [[(I (x7.T)), (I (x7.P)), (I (x7.Liquid)), (I (x7.Vapour)), (I (x7.Silica))]]))], false⟩] (by exact ⟨by kernel_rfl, by kernel_rfl⟩) ?_ ?_
      · exact ⟨fun _ => astep_move rfl,
    fun _ => astep_move rfl,
    fun _ => astep_idxd rfl Try.underlying23 ti49 rfl rfl hi9 (map_get c_GRow hj10) rfl,
    fun _ => astep_loadd rfl ti49 (by decide) (Nat.le_of_ble_eq_true rfl) rfl,
    fun _ => astep_alloc rfl tz49 rfl,
    fun _ => astep_store rfl ti49 (by rfl) rfl (Nat.le_of_ble_eq_true rfl) rfl, trivial⟩
      obtain ⟨k11, hk_k11, h⟩ := joinK_out h
      refine awp_join (τ := Unit) (fun t => k11 t = some r) (fun _ => ⟨mk 103 [(0, (.dat 5 ((p0 : List GRow).map c_GRow))), (3, (I (y3))), (4, (.ref 0 5 (0) 0))], [(.own 5 [[(I (x7.T)), (I (x7.P)), (I (x7.Liquid)), (I (x7.Vapour)), (I (x7.Silica))]])]⟩) (fun t h => ?_) ?_
      · subst hk_k11
        rcases Bool.eq_false_or_eq_true ((decide (y3 > 0))) with hb12 | hb12
        · replace h := bif_t hb12 h
          obtain ⟨x13, hg14, h⟩ := bind_out h
          obtain ⟨hi15, hj16⟩ := getI_some hg14
          rcases Bool.eq_false_or_eq_true ((decide (x7.T ≤ x13.T))) with hb17 | hb17
          · replace h := bif_t hb17 h
            refine awp_regd [⟨[((.tmp 3), (I (y3)))], [], (I (y3)), [], false⟩,
    ⟨[((.tmp 49), (I (y3))), ((.const (.int .i64 0)), (I (0)))], [], (B ((decide (y3 > 0)))), [], false⟩,
    ⟨[((.tmp 50), (B ((decide (y3 > 0)))))], [], (B (true)), [], false⟩,
    ⟨[((.tmp 51), (B (true))), ((.tmp 4), (.ref 0 5 (0) 0))], [(0, (.own 5 [[(I (x7.T)), (I (x7.P)), (I (x7.Liquid)), (I (x7.Vapour)), (I (x7.Silica))]]))], (.ref 0 5 (0) 0), [], false⟩,
    ⟨[((.tmp 51), (B (true))), ((.tmp 52), (.ref 0 5 (0) 0))], [(0, (.own 5 [[(I (x7.T)), (I (x7.P)), (I (x7.Liquid)), (I (x7.Vapour)), (I (x7.Silica))]]))], (I (x7.T)), [], false⟩,
    ⟨[((.tmp 51), (B (true))), ((.tmp 0), (.dat 5 ((p0 : List GRow).map c_GRow)))], [], (.dat 5 ((p0 : List GRow).map c_GRow)), [], false⟩,
    ⟨[((.tmp 51), (B (true))), ((.tmp 3), (I (y3)))], [], (I (y3)), [], false⟩,
    ⟨[((.tmp 51), (B (true))), ((.tmp 55), (I (y3))), ((.const (.int .i64 1)), (I (1)))], [], (I (w64 (y3 - 1))), [], false⟩,
    ⟨[((.tmp 51), (B (true))), ((.tmp 54), (.dat 5 ((p0 : List GRow).map c_GRow))), ((.tmp 56), (I (w64 (y3 - 1))))], [], (.dptr (c_GRow (x13)) 0), [], false⟩,
    ⟨[((.tmp 51), (B (true))), ((.tmp 57), (.dptr (c_GRow (x13)) 0))], [], (.dptr (c_GRow (x13)) 0), [], false⟩,
    ⟨[((.tmp 51), (B (true))), ((.tmp 58), (.dptr (c_GRow (x13)) 0))], [], (I (x13.T)), [], false⟩,
    ⟨[((.tmp 51), (B (true))), ((.tmp 53), (I (x7.T))), ((.tmp 59), (I (x13.T)))], [], (B ((decide (x7.T ≤ x13.T)))), [], false⟩,
    ⟨[((.tmp 51), (B (true))), ((.tmp 60), (B ((decide (x7.T ≤ x13.T)))))], [], (B (true)), [], false⟩,
    ⟨[((.tmp 61), (B (true)))], [], (.lit undef), [], true⟩,
    ⟨[((.tmp 61), (B (true)))], [], (.lit undef), [], true⟩,
    ⟨[((.tmp 61), (B (true)))], [], (.lit undef), [], true⟩,
    ⟨[((.tmp 61), (B (true)))], [], (.lit undef), [], true⟩,
    ⟨[((.tmp 61), (B (true)))], [], (.lit undef), [], true⟩,
    ⟨[((.tmp 61), (B (true)))], [], (.lit undef), [], true⟩,
    ⟨[((.tmp 61), (B (true)))], [], (.lit undef), [], true⟩,
    ⟨[((.tmp 61), (B (true)))], [], (.lit undef), [], true⟩,
    ⟨[((.tmp 61), (B (true)))], [], (.lit undef), [], true⟩,
    ⟨[((.tmp 51), (B (true))), ((.tmp 61), (B (true))), ((.const (.bool true)), (B (true))), ((.tmp 70), (.lit undef))], [], (B (true)), [], false⟩,
    ⟨[((.tmp 51), (B (true))), ((.tmp 71), (B (true)))], [], (B (true)), [], false⟩,
    ⟨[((.tmp 72), (B (true)))], [], (.lit undef), [], true⟩,
    ⟨[((.tmp 72), (B (true)))], [], (.lit undef), [], true⟩,
    ⟨[((.tmp 72), (B (true)))], [], (.lit undef), [], true⟩,
    ⟨[((.tmp 72), (B (true)))], [], (.lit undef), [], true⟩,
    ⟨[((.tmp 72), (B (true)))], [], (.lit undef), [], true⟩,
    ⟨[((.tmp 72), (B (true)))], [], (.lit undef), [], true⟩,
    ⟨[((.tmp 72), (B (true)))], [], (.lit undef), [], true⟩,
    ⟨[((.tmp 72), (B (true)))], [], (.lit undef), [], true⟩,
    ⟨[((.tmp 72), (B (true)))], [], (.lit undef), [], true⟩,
    ⟨[((.tmp 51), (B (true))), ((.tmp 72), (B (true))), ((.const (.bool true)), (B (true))), ((.tmp 81), (.lit undef))], [], (B (true)), [], false⟩,
    ⟨[((.tmp 51), (B (true))), ((.tmp 82), (B (true)))], [], (B (true)), [], false⟩,
    ⟨[((.tmp 83), (B (true)))], [], (.lit undef), [], true⟩,
    ⟨[((.tmp 83), (B (true)))], [], (.lit undef), [], true⟩,
    ⟨[((.tmp 83), (B (true)))], [], (.lit undef), [], true⟩,
    ⟨[((.tmp 83), (B (true)))], [], (.lit undef), [], true⟩,
    ⟨[((.tmp 83), (B (true)))], [], (.lit undef), [], true⟩,
    ⟨[((.tmp 83), (B (true)))], [], (.lit undef), [], true⟩,
    ⟨[((.tmp 83), (B (true)))], [], (.lit undef), [], true⟩,
    ⟨[((.tmp 83), (B (true)))], [], (.lit undef), [], true⟩,
    ⟨[((.tmp 83), (B (true)))], [], (.lit undef), [], true⟩,
    ⟨[((.tmp 51), (B (true))), ((.tmp 83), (B (true))), ((.const (.bool true)), (B (true))), ((.tmp 92), (.lit undef))], [], (B (true)), [], false⟩,
    ⟨[((.tmp 51), (B (true))), ((.tmp 93), (B (true))), ((.const (.bool false)), (B (false)))], [], (B (true)), [], false⟩] (by kernel_rfl) (by exact ⟨by kernel_rfl, by kernel_rfl⟩) (by kernel_rfl) ?_ ?_
            · exact ⟨fun _ => astep_move rfl,
    fun _ => astep_bin rfl rfl,
    fun _ => astep_b hb12 (astep_move rfl),
    fun _ => astep_guard (astep_faddr rfl Try.underlying49 rfl rfl ti3 (by decide) rfl),
    fun _ => astep_guard (astep_load rfl ti3 (by decide) rfl (Nat.le_of_ble_eq_true rfl) rfl),
    fun _ => astep_guard (astep_move rfl),
    fun _ => astep_guard (astep_move rfl),
    fun _ => astep_guard (astep_bin rfl rfl),
    fun _ => astep_guard (astep_idxd rfl Try.underlying23 ti49 rfl rfl hi15 (map_get c_GRow hj16) rfl),
    fun _ => astep_guard (astep_faddrd rfl Try.underlying49 rfl rfl ti3 (by decide) rfl),
    fun _ => astep_guard (astep_loadd rfl ti3 (by decide) (Nat.le_of_ble_eq_true rfl) rfl),
    fun _ => astep_guard (astep_bin rfl rfl),
    fun _ => astep_b hb17 (astep_guard (astep_move rfl)),
    fun hs => (Bool.noConfusion hs),
    fun hs => (Bool.noConfusion hs),
    fun hs => (Bool.noConfusion hs),
    fun hs => (Bool.noConfusion hs),
    fun hs => (Bool.noConfusion hs),
    fun hs => (Bool.noConfusion hs),
    fun hs => (Bool.noConfusion hs),
    fun hs => (Bool.noConfusion hs),
    fun hs => (Bool.noConfusion hs),
    fun _ => astep_guard (astep_pick rfl rfl),
    fun _ => astep_guard (astep_move rfl),
    fun hs => (Bool.noConfusion hs),
    fun hs => (Bool.noConfusion hs),
    fun hs => (Bool.noConfusion hs),
    fun hs => (Bool.noConfusion hs),
    fun hs => (Bool.noConfusion hs),
    fun hs => (Bool.noConfusion hs),
    fun hs => (Bool.noConfusion hs),
    fun hs => (Bool.noConfusion hs),
    fun hs => (Bool.noConfusion hs),
    fun _ => astep_guard (astep_pick rfl rfl),
    fun _ => astep_guard (astep_move rfl),
    fun hs => (Bool.noConfusion hs),
    fun hs => (Bool.noConfusion hs),
    fun hs => (Bool.noConfusion hs),
    fun hs => (Bool.noConfusion hs),
    fun hs => (Bool.noConfusion hs),
    fun hs => (Bool.noConfusion hs),
    fun hs => (Bool.noConfusion hs),
    fun hs => (Bool.noConfusion hs),
    fun hs => (Bool.noConfusion hs),
    fun _ => astep_guard (astep_pick rfl rfl),
    fun _ => astep_pick rfl rfl, trivial⟩
            refine awp_true (by kernel_rfl) ?_
            refine awp_reg [⟨[((.const (.bool false)), (B (false)))], [], (B (false)), [], false⟩] (by exact ⟨by kernel_rfl, by kernel_rfl⟩) ?_ ?_
            · exact ⟨fun _ => astep_assign rfl, trivial⟩
            refine awp_ret ?_
            refine blockA_r ?_
            refine thenA_r ?_
            refine thenA_r ?_
            refine blockA_r ?_
            refine thenA_r ?_
            obtain rfl := Option.some.inj h
            exact ⟨⟨[(B (false))], ⟨resOK_tmp (by kernel_rfl), trivial⟩, rfl⟩, (NLt.lit _), Nat.le_refl _, fun n hn => absurd hn (Nat.not_lt_zero n)⟩
          · replace h := bif_f hb17 h
            rcases Bool.eq_false_or_eq_true ((decide (x7.P ≤ x13.P))) with hb18 | hb18
            · replace h := bif_t hb18 h
              refine awp_regd [⟨[((.tmp 3), (I (y3)))], [], (I (y3)), [], false⟩,
    ⟨[((.tmp 49), (I (y3))), ((.const (.int .i64 0)), (I (0)))], [], (B ((decide (y3 > 0)))), [], false⟩,
    ⟨[((.tmp 50), (B ((decide (y3 > 0)))))], [], (B (true)), [], false⟩,
    ⟨[((.tmp 51), (B (true))), ((.tmp 4), (.ref 0 5 (0) 0))], [(0, (.own 5 [[(I (x7.T)), (I (x7.P)), (I (x7.Liquid)), (I (x7.Vapour)), (I (x7.Silica))]]))], (.ref 0 5 (0) 0), [], false⟩,
    ⟨[((.tmp 51), (B (true))), ((.tmp 52), (.ref 0 5 (0) 0))], [(0, (.own 5 [[(I (x7.T)), (I (x7.P)), (I (x7.Liquid)), (I (x7.Vapour)), (I (x7.Silica))]]))], (I (x7.T)), [], false⟩,
    ⟨[((.tmp 51), (B (true))), ((.tmp 0), (.dat 5 ((p0 : List GRow).map c_GRow)))], [], (.dat 5 ((p0 : List GRow).map c_GRow)), [], false⟩,
    ⟨[((.tmp 51), (B (true))), ((.tmp 3), (I (y3)))], [], (I (y3)), [], false⟩,
    ⟨[((.tmp 51), (B (true))), ((.tmp 55), (I (y3))), ((.const (.int .i64 1)), (I (1)))], [], (I (w64 (y3 - 1))), [], false⟩,
    ⟨[((.tmp 51), (B (true))), ((.tmp 54), (.dat 5 ((p0 : List GRow).map c_GRow))), ((.tmp 56), (I (w64 (y3 - 1))))], [], (.dptr (c_GRow (x13)) 0), [], false⟩,
    ⟨[((.tmp 51), (B (true))), ((.tmp 57), (.dptr (c_GRow (x13)) 0))], [], (.dptr (c_GRow (x13)) 0), [], false⟩,
    ⟨[((.tmp 51), (B (true))), ((.tmp 58), (.dptr (c_GRow (x13)) 0))], [], (I (x13.T)), [], false⟩,
    ⟨[((.tmp 51), (B (true))), ((.tmp 53), (I (x7.T))), ((.tmp 59), (I (x13.T)))], [], (B ((decide (x7.T ≤ x13.T)))), [], false⟩,
    ⟨[((.tmp 51), (B (true))), ((.tmp 60), (B ((decide (x7.T ≤ x13.T)))))], [], (B (false)), [], false⟩,
    ⟨[((.tmp 61), (B (false))), ((.tmp 4), (.ref 0 5 (0) 0))], [(0, (.own 5 [[(I (x7.T)), (I (x7.P)), (I (x7.Liquid)), (I (x7.Vapour)), (I (x7.Silica))]]))], (.ref 0 5 (0) 1), [], false⟩,
    ⟨[((.tmp 61), (B (false))), ((.tmp 62), (.ref 0 5 (0) 1))], [(0, (.own 5 [[(I (x7.T)), (I (x7.P)), (I (x7.Liquid)), (I (x7.Vapour)), (I (x7.Silica))]]))], (I (x7.P)), [], false⟩,
    ⟨[((.tmp 61), (B (false))), ((.tmp 0), (.dat 5 ((p0 : List GRow).map c_GRow)))], [], (.dat 5 ((p0 : List GRow).map c_GRow)), [], false⟩,
    ⟨[((.tmp 61), (B (false))), ((.tmp 3), (I (y3)))], [], (I (y3)), [], false⟩,
    ⟨[((.tmp 61), (B (false))), ((.tmp 65), (I (y3))), ((.const (.int .i64 1)), (I (1)))], [], (I (w64 (y3 - 1))), [], false⟩,
    ⟨[((.tmp 61), (B (false))), ((.tmp 64), (.dat 5 ((p0 : List GRow).map c_GRow))), ((.tmp 66), (I (w64 (y3 - 1))))], [], (.dptr (c_GRow (x13)) 0), [], false⟩,
    ⟨[((.tmp 61), (B (false))), ((.tmp 67), (.dptr (c_GRow (x13)) 0))], [], (.dptr (c_GRow (x13)) 1), [], false⟩,
    ⟨[((.tmp 61), (B (false))), ((.tmp 68), (.dptr (c_GRow (x13)) 1))], [], (I (x13.P)), [], false⟩,
    ⟨[((.tmp 61), (B (false))), ((.tmp 63), (I (x7.P))), ((.tmp 69), (I (x13.P)))], [], (B ((decide (x7.P ≤ x13.P)))), [], false⟩,
    ⟨[((.tmp 51), (B (true))), ((.tmp 61), (B (false))), ((.const (.bool true)), (B (true))), ((.tmp 70), (B ((decide (x7.P ≤ x13.P)))))], [], (B ((decide (x7.P ≤ x13.P)))), [], false⟩,
    ⟨[((.tmp 51), (B (true))), ((.tmp 71), (B ((decide (x7.P ≤ x13.P)))))], [], (B (true)), [], false⟩,
    ⟨[((.tmp 72), (B (true)))], [], (.lit undef), [], true⟩,
    ⟨[((.tmp 72), (B (true)))], [], (.lit undef), [], true⟩,
    ⟨[((.tmp 72), (B (true)))], [], (.lit undef), [], true⟩,
    ⟨[((.tmp 72), (B (true)))], [], (.lit undef), [], true⟩,
    ⟨[((.tmp 72), (B (true)))], [], (.lit undef), [], true⟩,
    ⟨[((.tmp 72), (B (true)))], [], (.lit undef), [], true⟩,
    ⟨[((.tmp 72), (B (true)))], [], (.lit undef), [], true⟩,
    ⟨[((.tmp 72), (B (true)))], [], (.lit undef), [], true⟩,
    ⟨[((.tmp 72), (B (true)))], [], (.lit undef), [], true⟩,
    ⟨[((.tmp 51), (B (true))), ((.tmp 72), (B (true))), ((.const (.bool true)), (B (true))), ((.tmp 81), (.lit undef))], [], (B (true)), [], false⟩,
    ⟨[((.tmp 51), (B (true))), ((.tmp 82), (B (true)))], [], (B (true)), [], false⟩,
    ⟨[((.tmp 83), (B (true)))], [], (.lit undef), [], true⟩,
    ⟨[((.tmp 83), (B (true)))], [], (.lit undef), [], true⟩,
    ⟨[((.tmp 83), (B (true)))], [], (.lit undef), [], true⟩,
    ⟨[((.tmp 83), (B (true)))], [], (.lit undef), [], true⟩,
    ⟨[((.tmp 83), (B (true)))], [], (.lit undef), [], true⟩,
    ⟨[((.tmp 83), (B (true)))], [], (.lit undef), [], true⟩,
    ⟨[((.tmp 83), (B (true)))], [], (.lit undef), [], true⟩,
    ⟨[((.tmp 83), (B (true)))], [], (.lit undef), [], true⟩,
    ⟨[((.tmp 83), (B (true)))], [], (.lit undef), [], true⟩,
    ⟨[((.tmp 51), (B (true))), ((.tmp 83), (B (true))), ((.const (.bool true)), (B (true))), ((.tmp 92), (.lit undef))], [], (B (true)), [], false⟩,
    ⟨[((.tmp 51), (B (true))), ((.tmp 93), (B (true))), ((.const (.bool false)), (B (false)))], [], (B (true)), [], false⟩] (by kernel_rfl) (by exact ⟨by kernel_rfl, by kernel_rfl⟩) (by kernel_rfl) ?_ ?_
              · exact ⟨fun _ => astep_move rfl,
    fun _ => astep_bin rfl rfl,
    fun _ => astep_b hb12 (astep_move rfl),
    fun _ => astep_guard (astep_faddr rfl Try.underlying49 rfl rfl ti3 (by decide) rfl),
    fun _ => astep_guard (astep_load rfl ti3 (by decide) rfl (Nat.le_of_ble_eq_true rfl) rfl),
    fun _ => astep_guard (astep_move rfl),
    fun _ => astep_guard (astep_move rfl),
    fun _ => astep_guard (astep_bin rfl rfl),
    fun _ => astep_guard (astep_idxd rfl Try.underlying23 ti49 rfl rfl hi15 (map_get c_GRow hj16) rfl),
    fun _ => astep_guard (astep_faddrd rfl Try.underlying49 rfl rfl ti3 (by decide) rfl),
    fun _ => astep_guard (astep_loadd rfl ti3 (by decide) (Nat.le_of_ble_eq_true rfl) rfl),
    fun _ => astep_guard (astep_bin rfl rfl),
    fun _ => astep_b hb17 (astep_guard (astep_move rfl)),
    fun _ => astep_guard (astep_faddr rfl Try.underlying49 rfl rfl ti3 (by decide) rfl),
    fun _ => astep_guard (astep_load rfl ti3 (by decide) rfl (Nat.le_of_ble_eq_true rfl) rfl),
    fun _ => astep_guard (astep_move rfl),
    fun _ => astep_guard (astep_move rfl),
    fun _ => astep_guard (astep_bin rfl rfl),
    fun _ => astep_guard (astep_idxd rfl Try.underlying23 ti49 rfl rfl hi15 (map_get c_GRow hj16) rfl),
    fun _ => astep_guard (astep_faddrd rfl Try.underlying49 rfl rfl ti3 (by decide) rfl),
    fun _ => astep_guard (astep_loadd rfl ti3 (by decide) (Nat.le_of_ble_eq_true rfl) rfl),
    fun _ => astep_guard (astep_bin rfl rfl),
    fun _ => astep_guard (astep_pick rfl rfl),
    fun _ => astep_b hb18 (astep_guard (astep_move rfl)),
    fun hs => (Bool.noConfusion hs),
    fun hs => (Bool.noConfusion hs),
    fun hs => (Bool.noConfusion hs),
    fun hs => (Bool.noConfusion hs),
    fun hs => (Bool.noConfusion hs),
    fun hs => (Bool.noConfusion hs),
    fun hs => (Bool.noConfusion hs),
    fun hs => (Bool.noConfusion hs),
    fun hs => (Bool.noConfusion hs),
    fun _ => astep_guard (astep_pick rfl rfl),
    fun _ => astep_guard (astep_move rfl),
    fun hs => (Bool.noConfusion hs),
    fun hs => (Bool.noConfusion hs),
    fun hs => (Bool.noConfusion hs),
    fun hs => (Bool.noConfusion hs),
    fun hs => (Bool.noConfusion hs),
    fun hs => (Bool.noConfusion hs),
    fun hs => (Bool.noConfusion hs),
    fun hs => (Bool.noConfusion hs),
    fun hs => (Bool.noConfusion hs),
    fun _ => astep_guard (astep_pick rfl rfl),
    fun _ => astep_pick rfl rfl, trivial⟩
              refine awp_true (by kernel_rfl) ?_
              refine awp_reg [⟨[((.const (.bool false)), (B (false)))], [], (B (false)), [], false⟩] (by exact ⟨by kernel_rfl, by kernel_rfl⟩) ?_ ?_
              · exact ⟨fun _ => astep_assign rfl, trivial⟩
              refine awp_ret ?_
              refine blockA_r ?_
              refine thenA_r ?_
              refine thenA_r ?_
              refine blockA_r ?_
              refine thenA_r ?_
              obtain rfl := Option.some.inj h
              exact ⟨⟨[(B (false))], ⟨resOK_tmp (by kernel_rfl), trivial⟩, rfl⟩, (NLt.lit _), Nat.le_refl _, fun n hn => absurd hn (Nat.not_lt_zero n)⟩
            · replace h := bif_f hb18 h
              rcases Bool.eq_false_or_eq_true ((decide (x7.Liquid ≤ x13.Liquid))) with hb19 | hb19
              · replace h := bif_t hb19 h
                refine awp_regd [⟨[((.tmp 3), (I (y3)))], [], (I (y3)), [], false⟩,
    ⟨[((.tmp 49), (I (y3))), ((.const (.int .i64 0)), (I (0)))], [], (B ((decide (y3 > 0)))), [], false⟩,
    ⟨[((.tmp 50), (B ((decide (y3 > 0)))))], [], (B (true)), [], false⟩,
    ⟨[((.tmp 51), (B (true))), ((.tmp 4), (.ref 0 5 (0) 0))], [(0, (.own 5 [[(I (x7.T)), (I (x7.P)), (I (x7.Liquid)), (I (x7.Vapour)), (I (x7.Silica))]]))], (.ref 0 5 (0) 0), [], false⟩,
    ⟨[((.tmp 51), (B (true))), ((.tmp 52), (.ref 0 5 (0) 0))], [(0, (.own 5 [[(I (x7.T)), (I (x7.P)), (I (x7.Liquid)), (I (x7.Vapour)), (I (x7.Silica))]]))], (I (x7.T)), [], false⟩,
    ⟨[((.tmp 51), (B (true))), ((.tmp 0), (.dat 5 ((p0 : List GRow).map c_GRow)))], [], (.dat 5 ((p0 : List GRow).map c_GRow)), [], false⟩,
    ⟨[((.tmp 51), (B (true))), ((.tmp 3), (I (y3)))], [], (I (y3)), [], false⟩,
    ⟨[((.tmp 51), (B (true))), ((.tmp 55), (I (y3))), ((.const (.int .i64 1)), (I (1)))], [], (I (w64 (y3 - 1))), [], false⟩,
    ⟨[((.tmp 51), (B (true))), ((.tmp 54), (.dat 5 ((p0 : List GRow).map c_GRow))), ((.tmp 56), (I (w64 (y3 - 1))))], [], (.dptr (c_GRow (x13)) 0), [], false⟩,
    ⟨[((.tmp 51), (B (true))), ((.tmp 57), (.dptr (c_GRow (x13)) 0))], [], (.dptr (c_GRow (x13)) 0), [], false⟩,
    ⟨[((.tmp 51), (B (true))), ((.tmp 58), (.dptr (c_GRow (x13)) 0))], [], (I (x13.T)), [], false⟩,
    ⟨[((.tmp 51), (B (true))), ((.tmp 53), (I (x7.T))), ((.tmp 59), (I (x13.T)))], [], (B ((decide (x7.T ≤ x13.T)))), [], false⟩,
    ⟨[((.tmp 51), (B (true))), ((.tmp 60), (B ((decide (x7.T ≤ x13.T)))))], [], (B (false)), [], false⟩,
    ⟨[((.tmp 61), (B (false))), ((.tmp 4), (.ref 0 5 (0) 0))], [(0, (.own 5 [[(I (x7.T)), (I (x7.P)), (I (x7.Liquid)), (I (x7.Vapour)), (I (x7.Silica))]]))], (.ref 0 5 (0) 1), [], false⟩,
    ⟨[((.tmp 61), (B (false))), ((.tmp 62), (.ref 0 5 (0) 1))], [(0, (.own 5 [[(I (x7.T)), (I (x7.P)), (I (x7.Liquid)), (I (x7.Vapour)), (I (x7.Silica))]]))], (I (x7.P)), [], false⟩,
    ⟨[((.tmp 61), (B (false))), ((.tmp 0), (.dat 5 ((p0 : List GRow).map c_GRow)))], [], (.dat 5 ((p0 : List GRow).map c_GRow)), [], false⟩,
    ⟨[((.tmp 61), (B (false))), ((.tmp 3), (I (y3)))], [], (I (y3)), [], false⟩,
    ⟨[((.tmp 61), (B (false))), ((.tmp 65), (I (y3))), ((.const (.int .i64 1)), (I (1)))], [], (I (w64 (y3 - 1))), [], false⟩,
    ⟨[((.tmp 61), (B (false))), ((.tmp 64), (.dat 5 ((p0 : List GRow).map c_GRow))), ((.tmp 66), (I (w64 (y3 - 1))))], [], (.dptr (c_GRow (x13)) 0), [], false⟩,
    ⟨[((.tmp 61), (B (false))), ((.tmp 67), (.dptr (c_GRow (x13)) 0))], [], (.dptr (c_GRow (x13)) 1), [], false⟩,
    ⟨[((.tmp 61), (B (false))), ((.tmp 68), (.dptr (c_GRow (x13)) 1))], [], (I (x13.P)), [], false⟩,
    ⟨[((.tmp 61), (B (false))), ((.tmp 63), (I (x7.P))), ((.tmp 69), (I (x13.P)))], [], (B ((decide (x7.P ≤ x13.P)))), [], false⟩,
    ⟨[((.tmp 51), (B (true))), ((.tmp 61), (B (false))), ((.const (.bool true)), (B (true))), ((.tmp 70), (B ((decide (x7.P ≤ x13.P)))))], [], (B ((decide (x7.P ≤ x13.P)))), [], false⟩,
    ⟨[((.tmp 51), (B (true))), ((.tmp 71), (B ((decide (x7.P ≤ x13.P)))))], [], (B (false)), [], false⟩,
    ⟨[((.tmp 72), (B (false))), ((.tmp 4), (.ref 0 5 (0) 0))], [(0, (.own 5 [[(I (x7.T)), (I (x7.P)), (I (x7.Liquid)), (I (x7.Vapour)), (I (x7.Silica))]]))], (.ref 0 5 (0) 2), [], false⟩,
    ⟨[((.tmp 72), (B (false))), ((.tmp 73), (.ref 0 5 (0) 2))], [(0, (.own 5 [[(I (x7.T)), (I (x7.P)), (I (x7.Liquid)), (I (x7.Vapour)), (I (x7.Silica))]]))], (I (x7.Liquid)), [], false⟩,
    ⟨[((.tmp 72), (B (false))), ((.tmp 0), (.dat 5 ((p0 : List GRow).map c_GRow)))], [], (.dat 5 ((p0 : List GRow).map c_GRow)), [], false⟩,
    ⟨[((.tmp 72), (B (false))), ((.tmp 3), (I (y3)))], [], (I (y3)), [], false⟩,
    ⟨[((.tmp 72), (B (false))), ((.tmp 76), (I (y3))), ((.const (.int .i64 1)), (I (1)))], [], (I (w64 (y3 - 1))), [], false⟩,
    ⟨[((.tmp 72), (B (false))), ((.tmp 75), (.dat 5 ((p0 : List GRow).map c_GRow))), ((.tmp 77), (I (w64 (y3 - 1))))], [], (.dptr (c_GRow (x13)) 0), [], false⟩,
    ⟨[((.tmp 72), (B (false))), ((.tmp 78), (.dptr (c_GRow (x13)) 0))], [], (.dptr (c_GRow (x13)) 2), [], false⟩,
    ⟨[((.tmp 72), (B (false))), ((.tmp 79), (.dptr (c_GRow (x13)) 2))], [], (I (x13.Liquid)), [], false⟩,
    ⟨[((.tmp 72), (B (false))), ((.tmp 74), (I (x7.Liquid))), ((.tmp 80), (I (x13.Liquid)))], [], (B ((decide (x7.Liquid ≤ x13.Liquid)))), [], false⟩,
    ⟨[((.tmp 51), (B (true))), ((.tmp 72), (B (false))), ((.const (.bool true)), (B (true))), ((.tmp 81), (B ((decide (x7.Liquid ≤ x13.Liquid)))))], [], (B ((decide (x7.Liquid ≤ x13.Liquid)))), [], false⟩,
    ⟨[((.tmp 51), (B (true))), ((.tmp 82), (B ((decide (x7.Liquid ≤ x13.Liquid)))))], [], (B (true)), [], false⟩,
    ⟨[((.tmp 83), (B (true)))], [], (.lit undef), [], true⟩,
    ⟨[((.tmp 83), (B (true)))], [], (.lit undef), [], true⟩,
    ⟨[((.tmp 83), (B (true)))], [], (.lit undef), [], true⟩,
    ⟨[((.tmp 83), (B (true)))], [], (.lit undef), [], true⟩,
    ⟨[((.tmp 83), (B (true)))], [], (.lit undef), [], true⟩,
    ⟨[((.tmp 83), (B (true)))], [], (.lit undef), [], true⟩,
    ⟨[((.tmp 83), (B (true)))], [], (.lit undef), [], true⟩,
    ⟨[((.tmp 83), (B (true)))], [], (.lit undef), [], true⟩,
    ⟨[((.tmp 83), (B (true)))], [], (.lit undef), [], true⟩,
    ⟨[((.tmp 51), (B (true))), ((.tmp 83), (B (true))), ((.const (.bool true)), (B (true))), ((.tmp 92), (.lit undef))], [], (B (true)), [], false⟩,
    ⟨[((.tmp 51), (B (true))), ((.tmp 93), (B (true))), ((.const (.bool false)), (B (false)))], [], (B (true)), [], false⟩] (by kernel_rfl) (by exact ⟨by kernel_rfl, by kernel_rfl⟩) (by kernel_rfl) ?_ ?_
                · exact ⟨fun _ => astep_move rfl,
    fun _ => astep_bin rfl rfl,
    fun _ => astep_b hb12 (astep_move rfl),
    fun _ => astep_guard (astep_faddr rfl Try.underlying49 rfl rfl ti3 (by decide) rfl),
    fun _ => astep_guard (astep_load rfl ti3 (by decide) rfl (Nat.le_of_ble_eq_true rfl) rfl),
    fun _ => astep_guard (astep_move rfl),
    fun _ => astep_guard (astep_move rfl),
    fun _ => astep_guard (astep_bin rfl rfl),
    fun _ => astep_guard (astep_idxd rfl Try.underlying23 ti49 rfl rfl hi15 (map_get c_GRow hj16) rfl),
    fun _ => astep_guard (astep_faddrd rfl Try.underlying49 rfl rfl ti3 (by decide) rfl),
    fun _ => astep_guard (astep_loadd rfl ti3 (by decide) (Nat.le_of_ble_eq_true rfl) rfl),
    fun _ => astep_guard (astep_bin rfl rfl),
    fun _ => astep_b hb17 (astep_guard (astep_move rfl)),
    fun _ => astep_guard (astep_faddr rfl Try.underlying49 rfl rfl ti3 (by decide) rfl),
    fun _ => astep_guard (astep_load rfl ti3 (by decide) rfl (Nat.le_of_ble_eq_true rfl) rfl),
    fun _ => astep_guard (astep_move rfl),
    fun _ => astep_guard (astep_move rfl),
    fun _ => astep_guard (astep_bin rfl rfl),
    fun _ => astep_guard (astep_idxd rfl Try.underlying23 ti49 rfl rfl hi15 (map_get c_GRow hj16) rfl),
    fun _ => astep_guard (astep_faddrd rfl Try.underlying49 rfl rfl ti3 (by decide) rfl),
    fun _ => astep_guard (astep_loadd rfl ti3 (by decide) (Nat.le_of_ble_eq_true rfl) rfl),
    fun _ => astep_guard (astep_bin rfl rfl),
    fun _ => astep_guard (astep_pick rfl rfl),
    fun _ => astep_b hb18 (astep_guard (astep_move rfl)),
    fun _ => astep_guard (astep_faddr rfl Try.underlying49 rfl rfl ti3 (by decide) rfl),
    fun _ => astep_guard (astep_load rfl ti3 (by decide) rfl (Nat.le_of_ble_eq_true rfl) rfl),
    fun _ => astep_guard (astep_move rfl),
    fun _ => astep_guard (astep_move rfl),
    fun _ => astep_guard (astep_bin rfl rfl),
    fun _ => astep_guard (astep_idxd rfl Try.underlying23 ti49 rfl rfl hi15 (map_get c_GRow hj16) rfl),
    fun _ => astep_guard (astep_faddrd rfl Try.underlying49 rfl rfl ti3 (by decide) rfl),
    fun _ => astep_guard (astep_loadd rfl ti3 (by decide) (Nat.le_of_ble_eq_true rfl) rfl),
    fun _ => astep_guard (astep_bin rfl rfl),
    fun _ => astep_guard (astep_pick rfl rfl),
    fun _ => astep_b hb19 (astep_guard (astep_move rfl)),
    fun hs => (Bool.noConfusion hs),
    fun hs => (Bool.noConfusion hs),
    fun hs => (Bool.noConfusion hs),
    fun hs => (Bool.noConfusion hs),
    fun hs => (Bool.noConfusion hs),
    fun hs => (Bool.noConfusion hs),
    fun hs => (Bool.noConfusion hs),
    fun hs => (Bool.noConfusion hs),
    fun hs => (Bool.noConfusion hs),
    fun _ => astep_guard (astep_pick rfl rfl),
    fun _ => astep_pick rfl rfl, trivial⟩
                refine awp_true (by kernel_rfl) ?_
                refine awp_reg [⟨[((.const (.bool false)), (B (false)))], [], (B (false)), [], false⟩] (by exact ⟨by kernel_rfl, by kernel_rfl⟩) ?_ ?_
                · exact ⟨fun _ => astep_assign rfl, trivial⟩
                refine awp_ret ?_
                refine blockA_r ?_
                refine thenA_r ?_
                refine thenA_r ?_
                refine blockA_r ?_
                refine thenA_r ?_
                obtain rfl := Option.some.inj h
                exact ⟨⟨[(B (false))], ⟨resOK_tmp (by kernel_rfl), trivial⟩, rfl⟩, (NLt.lit _), Nat.le_refl _, fun n hn => absurd hn (Nat.not_lt_zero n)⟩
              · replace h := bif_f hb19 h
                refine awp_regd [⟨[((.tmp 3), (I (y3)))], [], (I (y3)), [], false⟩,
    ⟨[((.tmp 49), (I (y3))), ((.const (.int .i64 0)), (I (0)))], [], (B ((decide (y3 > 0)))), [], false⟩,
    ⟨[((.tmp 50), (B ((decide (y3 > 0)))))], [], (B (true)), [], false⟩,
    ⟨[((.tmp 51), (B (true))), ((.tmp 4), (.ref 0 5 (0) 0))], [(0, (.own 5 [[(I (x7.T)), (I (x7.P)), (I (x7.Liquid)), (I (x7.Vapour)), (I (x7.Silica))]]))], (.ref 0 5 (0) 0), [], false⟩,
    ⟨[((.tmp 51), (B (true))), ((.tmp 52), (.ref 0 5 (0) 0))], [(0, (.own 5 [[(I (x7.T)), (I (x7.P)), (I (x7.Liquid)), (I (x7.Vapour)), (I (x7.Silica))]]))], (I (x7.T)), [], false⟩,
    ⟨[((.tmp 51), (B (true))), ((.tmp 0), (.dat 5 ((p0 : List GRow).map c_GRow)))], [], (.dat 5 ((p0 : List GRow).map c_GRow)), [], false⟩,
    ⟨[((.tmp 51), (B (true))), ((.tmp 3), (I (y3)))], [], (I (y3)), [], false⟩,
    ⟨[((.tmp 51), (B (true))), ((.tmp 55), (I (y3))), ((.const (.int .i64 1)), (I (1)))], [], (I (w64 (y3 - 1))), [], false⟩,
    ⟨[((.tmp 51), (B (true))), ((.tmp 54), (.dat 5 ((p0 : List GRow).map c_GRow))), ((.tmp 56), (I (w64 (y3 - 1))))], [], (.dptr (c_GRow (x13)) 0), [], false⟩,
    ⟨[((.tmp 51), (B (true))), ((.tmp 57), (.dptr (c_GRow (x13)) 0))], [], (.dptr (c_GRow (x13)) 0), [], false⟩,
    ⟨[((.tmp 51), (B (true))), ((.tmp 58), (.dptr (c_GRow (x13)) 0))], [], (I (x13.T)), [], false⟩,
    ⟨[((.tmp 51), (B (true))), ((.tmp 53), (I (x7.T))), ((.tmp 59), (I (x13.T)))], [], (B ((decide (x7.T ≤ x13.T)))), [], false⟩,
    ⟨[((.tmp 51), (B (true))), ((.tmp 60), (B ((decide (x7.T ≤ x13.T)))))], [], (B (false)), [], false⟩,
    ⟨[((.tmp 61), (B (false))), ((.tmp 4), (.ref 0 5 (0) 0))], [(0, (.own 5 [[(I (x7.T)), (I (x7.P)), (I (x7.Liquid)), (I (x7.Vapour)), (I (x7.Silica))]]))], (.ref 0 5 (0) 1), [], false⟩,
    ⟨[((.tmp 61), (B (false))), ((.tmp 62), (.ref 0 5 (0) 1))], [(0, (.own 5 [[(I (x7.T)), (I (x7.P)), (I (x7.Liquid)), (I (x7.Vapour)), (I (x7.Silica))]]))], (I (x7.P)), [], false⟩,
    ⟨[((.tmp 61), (B (false))), ((.tmp 0), (.dat 5 ((p0 : List GRow).map c_GRow)))], [], (.dat 5 ((p0 : List GRow).map c_GRow)), [], false⟩,
    ⟨[((.tmp 61), (B (false))), ((.tmp 3), (I (y3)))], [], (I (y3)), [], false⟩,
    ⟨[((.tmp 61), (B (false))), ((.tmp 65), (I (y3))), ((.const (.int .i64 1)), (I (1)))], [], (I (w64 (y3 - 1))), [], false⟩,
    ⟨[((.tmp 61), (B (false))), ((.tmp 64), (.dat 5 ((p0 : List GRow).map c_GRow))), ((.tmp 66), (I (w64 (y3 - 1))))], [], (.dptr (c_GRow (x13)) 0), [], false⟩,
    ⟨[((.tmp 61), (B (false))), ((.tmp 67), (.dptr (c_GRow (x13)) 0))], [], (.dptr (c_GRow (x13)) 1), [], false⟩,
    ⟨[((.tmp 61), (B (false))), ((.tmp 68), (.dptr (c_GRow (x13)) 1))], [], (I (x13.P)), [], false⟩,
    ⟨[((.tmp 61), (B (false))), ((.tmp 63), (I (x7.P))), ((.tmp 69), (I (x13.P)))], [], (B ((decide (x7.P ≤ x13.P)))), [], false⟩,
    ⟨[((.tmp 51), (B (true))), ((.tmp 61), (B (false))), ((.const (.bool true)), (B (true))), ((.tmp 70), (B ((decide (x7.P ≤ x13.P)))))], [], (B ((decide (x7.P ≤ x13.P)))), [], false⟩,
    ⟨[((.tmp 51), (B (true))), ((.tmp 71), (B ((decide (x7.P ≤ x13.P)))))], [], (B (false)), [], false⟩,
    ⟨[((.tmp 72), (B (false))), ((.tmp 4), (.ref 0 5 (0) 0))], [(0, (.own 5 [[(I (x7.T)), (I (x7.P)), (I (x7.Liquid)), (I (x7.Vapour)), (I (x7.Silica))]]))], (.ref 0 5 (0) 2), [], false⟩,
    ⟨[((.tmp 72), (B (false))), ((.tmp 73), (.ref 0 5 (0) 2))], [(0, (.own 5 [[(I (x7.T)), (I (x7.P)), (I (x7.Liquid)), (I (x7.Vapour)), (I (x7.Silica))]]))], (I (x7.Liquid)), [], false⟩,
    ⟨[((.tmp 72), (B (false))), ((.tmp 0), (.dat 5 ((p0 : List GRow).map c_GRow)))], [], (.dat 5 ((p0 : List GRow).map c_GRow)), [], false⟩,
    ⟨[((.tmp 72), (B (false))), ((.tmp 3), (I (y3)))], [], (I (y3)), [], false⟩,
    ⟨[((.tmp 72), (B (false))), ((.tmp 76), (I (y3))), ((.const (.int .i64 1)), (I (1)))], [], (I (w64 (y3 - 1))), [], false⟩,
    ⟨[((.tmp 72), (B (false))), ((.tmp 75), (.dat 5 ((p0 : List GRow).map c_GRow))), ((.tmp 77), (I (w64 (y3 - 1))))], [], (.dptr (c_GRow (x13)) 0), [], false⟩,
    ⟨[((.tmp 72), (B (false))), ((.tmp 78), (.dptr (c_GRow (x13)) 0))], [], (.dptr (c_GRow (x13)) 2), [], false⟩,
    ⟨[((.tmp 72), (B (false))), ((.tmp 79), (.dptr (c_GRow (x13)) 2))], [], (I (x13.Liquid)), [], false⟩,
    ⟨[((.tmp 72), (B (false))), ((.tmp 74), (I (x7.Liquid))), ((.tmp 80), (I (x13.Liquid)))], [], (B ((decide (x7.Liquid ≤ x13.Liquid)))), [], false⟩,
    ⟨[((.tmp 51), (B (true))), ((.tmp 72), (B (false))), ((.const (.bool true)), (B (true))), ((.tmp 81), (B ((decide (x7.Liquid ≤ x13.Liquid)))))], [], (B ((decide (x7.Liquid ≤ x13.Liquid)))), [], false⟩,
    ⟨[((.tmp 51), (B (true))), ((.tmp 82), (B ((decide (x7.Liquid ≤ x13.Liquid)))))], [], (B (false)), [], false⟩,
    ⟨[((.tmp 83), (B (false))), ((.tmp 4), (.ref 0 5 (0) 0))], [(0, (.own 5 [[(I (x7.T)), (I (x7.P)), (I (x7.Liquid)), (I (x7.Vapour)), (I (x7.Silica))]]))], (.ref 0 5 (0) 4), [], false⟩,
    ⟨[((.tmp 83), (B (false))), ((.tmp 84), (.ref 0 5 (0) 4))], [(0, (.own 5 [[(I (x7.T)), (I (x7.P)), (I (x7.Liquid)), (I (x7.Vapour)), (I (x7.Silica))]]))], (I (x7.Silica)), [], false⟩,
    ⟨[((.tmp 83), (B (false))), ((.tmp 0), (.dat 5 ((p0 : List GRow).map c_GRow)))], [], (.dat 5 ((p0 : List GRow).map c_GRow)), [], false⟩,
    ⟨[((.tmp 83), (B (false))), ((.tmp 3), (I (y3)))], [], (I (y3)), [], false⟩,
    ⟨[((.tmp 83), (B (false))), ((.tmp 87), (I (y3))), ((.const (.int .i64 1)), (I (1)))], [], (I (w64 (y3 - 1))), [], false⟩,
    ⟨[((.tmp 83), (B (false))), ((.tmp 86), (.dat 5 ((p0 : List GRow).map c_GRow))), ((.tmp 88), (I (w64 (y3 - 1))))], [], (.dptr (c_GRow (x13)) 0), [], false⟩,
    ⟨[((.tmp 83), (B (false))), ((.tmp 89), (.dptr (c_GRow (x13)) 0))], [], (.dptr (c_GRow (x13)) 4), [], false⟩,
    ⟨[((.tmp 83), (B (false))), ((.tmp 90), (.dptr (c_GRow (x13)) 4))], [], (I (x13.Silica)), [], false⟩,
    ⟨[((.tmp 83), (B (false))), ((.tmp 85), (I (x7.Silica))), ((.tmp 91), (I (x13.Silica)))], [], (B ((decide (x7.Silica < x13.Silica)))), [], false⟩,
    ⟨[((.tmp 51), (B (true))), ((.tmp 83), (B (false))), ((.const (.bool true)), (B (true))), ((.tmp 92), (B ((decide (x7.Silica < x13.Silica)))))], [], (B ((decide (x7.Silica < x13.Silica)))), [], false⟩,
    ⟨[((.tmp 51), (B (true))), ((.tmp 93), (B ((decide (x7.Silica < x13.Silica))))), ((.const (.bool false)), (B (false)))], [], (B ((decide (x7.Silica < x13.Silica)))), [], false⟩] (by kernel_rfl) (by exact ⟨by kernel_rfl, by kernel_rfl⟩) (by kernel_rfl) ?_ ?_
                · exact ⟨fun _ => astep_move rfl,
    fun _ => astep_bin rfl rfl,
    fun _ => astep_b hb12 (astep_move rfl),
    fun _ => astep_guard (astep_faddr rfl Try.underlying49 rfl rfl ti3 (by decide) rfl),
    fun _ => astep_guard (astep_load rfl ti3 (by decide) rfl (Nat.le_of_ble_eq_true rfl) rfl),
    fun _ => astep_guard (astep_move rfl),
    fun _ => astep_guard (astep_move rfl),
    fun _ => astep_guard (astep_bin rfl rfl),
    fun _ => astep_guard (astep_idxd rfl Try.underlying23 ti49 rfl rfl hi15 (map_get c_GRow hj16) rfl),
    fun _ => astep_guard (astep_faddrd rfl Try.underlying49 rfl rfl ti3 (by decide) rfl),
    fun _ => astep_guard (astep_loadd rfl ti3 (by decide) (Nat.le_of_ble_eq_true rfl) rfl),
    fun _ => astep_guard (astep_bin rfl rfl),
    fun _ => astep_b hb17 (astep_guard (astep_move rfl)),
    fun _ => astep_guard (astep_faddr rfl Try.underlying49 rfl rfl ti3 (by decide) rfl),
    fun _ => astep_guard (astep_load rfl ti3 (by decide) rfl (Nat.le_of_ble_eq_true rfl) rfl),
    fun _ => astep_guard (astep_move rfl),
    fun _ => astep_guard (astep_move rfl),
    fun _ => astep_guard (astep_bin rfl rfl),
    fun _ => astep_guard (astep_idxd rfl Try.underlying23 ti49 rfl rfl hi15 (map_get c_GRow hj16) rfl),
    fun _ => astep_guard (astep_faddrd rfl Try.underlying49 rfl rfl ti3 (by decide) rfl),
    fun _ => astep_guard (astep_loadd rfl ti3 (by decide) (Nat.le_of_ble_eq_true rfl) rfl),
    fun _ => astep_guard (astep_bin rfl rfl),
    fun _ => astep_guard (astep_pick rfl rfl),
    fun _ => astep_b hb18 (astep_guard (astep_move rfl)),
    fun _ => astep_guard (astep_faddr rfl Try.underlying49 rfl rfl ti3 (by decide) rfl),
    fun _ => astep_guard (astep_load rfl ti3 (by decide) rfl (Nat.le_of_ble_eq_true rfl) rfl),
    fun _ => astep_guard (astep_move rfl),
    fun _ => astep_guard (astep_move rfl),
    fun _ => astep_guard (astep_bin rfl rfl),
    fun _ => astep_guard (astep_idxd rfl Try.underlying23 ti49 rfl rfl hi15 (map_get c_GRow hj16) rfl),
    fun _ => astep_guard (astep_faddrd rfl Try.underlying49 rfl rfl ti3 (by decide) rfl),
    fun _ => astep_guard (astep_loadd rfl ti3 (by decide) (Nat.le_of_ble_eq_true rfl) rfl),
    fun _ => astep_guard (astep_bin rfl rfl),
    fun _ => astep_guard (astep_pick rfl rfl),
    fun _ => astep_b hb19 (astep_guard (astep_move rfl)),
    fun _ => astep_guard (astep_faddr rfl Try.underlying49 rfl rfl ti3 (by decide) rfl),
    fun _ => astep_guard (astep_load rfl ti3 (by decide) rfl (Nat.le_of_ble_eq_true rfl) rfl),
    fun _ => astep_guard (astep_move rfl),
    fun _ => astep_guard (astep_move rfl),
    fun _ => astep_guard (astep_bin rfl rfl),
    fun _ => astep_guard (astep_idxd rfl Try.underlying23 ti49 rfl rfl hi15 (map_get c_GRow hj16) rfl),
    fun _ => astep_guard (astep_faddrd rfl Try.underlying49 rfl rfl ti3 (by decide) rfl),
    fun _ => astep_guard (astep_loadd rfl ti3 (by decide) (Nat.le_of_ble_eq_true rfl) rfl),
    fun _ => astep_guard (astep_bin rfl rfl),
    fun _ => astep_guard (astep_pick rfl rfl),
    fun _ => astep_pick rfl rfl, trivial⟩
                rcases Bool.eq_false_or_eq_true ((decide (x7.Silica < x13.Silica))) with hc20 | hc20
                · replace h := bif_t hc20 h
                  refine awp_ift hc20 (by kernel_rfl) ?_
                  refine awp_reg [⟨[((.const (.bool false)), (B (false)))], [], (B (false)), [], false⟩] (by exact ⟨by kernel_rfl, by kernel_rfl⟩) ?_ ?_
                  · exact ⟨fun _ => astep_assign rfl, trivial⟩
                  refine awp_ret ?_
                  refine blockA_r ?_
                  refine thenA_r ?_
                  refine thenA_r ?_
                  refine blockA_r ?_
                  refine thenA_r ?_
                  obtain rfl := Option.some.inj h
                  exact ⟨⟨[(B (false))], ⟨resOK_tmp (by kernel_rfl), trivial⟩, rfl⟩, (NLt.lit _), Nat.le_refl _, fun n hn => absurd hn (Nat.not_lt_zero n)⟩
                · replace h := bif_f hc20 h
                  refine awp_ifn hc20 (by kernel_rfl) ?_
                  refine awp_skip ?_
                  refine blockA_n ?_
                  refine thenA_n ?_
                  refine awp_reg1 [⟨[((.tmp 3), (I (y3)))], [], (I (y3)), [], false⟩,
    ⟨[((.tmp 9), (I (y3))), ((.const (.int .i64 1)), (I (1)))], [], (I (w64 (y3 + 1))), [], false⟩,
    ⟨[((.tmp 10), (I (w64 (y3 + 1))))], [], (I (w64 (y3 + 1))), [], false⟩] (by exact ⟨by kernel_rfl, by kernel_rfl⟩) ?_ ?_
                  · exact ⟨fun _ => astep_move rfl,
    fun _ => astep_bin rfl rfl,
    fun _ => astep_assign rfl, trivial⟩
                  refine thenA_n ?_
                  exact around_mor (mor_to (n := 103) (l' := [(0, (.dat 5 ((p0 : List GRow).map c_GRow))), (3, (I ((w64 (y3 + 1)))))]) (own' := []) [(0, (.dat 5 ((p0 : List GRow).map c_GRow))), (3, (I (w64 (y3 + 1))))] [] [] hφ0 (by kernel_rfl) (by kernel_rfl) (by kernel_rfl) ⟨rfl, .rn (.plain _ (nl_dat nl_GRow _)), rfl, .rn (.plain _ (NLt.lit _)), trivial⟩ trivial) (ih (w64 (y3 + 1)) h)
        · replace h := bif_f hb12 h
          refine awp_regd [⟨[((.tmp 3), (I (y3)))], [], (I (y3)), [], false⟩,
    ⟨[((.tmp 49), (I (y3))), ((.const (.int .i64 0)), (I (0)))], [], (B ((decide (y3 > 0)))), [], false⟩,
    ⟨[((.tmp 50), (B ((decide (y3 > 0)))))], [], (B (false)), [], false⟩,
    ⟨[((.tmp 51), (B (false)))], [], (.lit undef), [], true⟩,
    ⟨[((.tmp 51), (B (false)))], [], (.lit undef), [], true⟩,
    ⟨[((.tmp 51), (B (false)))], [], (.lit undef), [], true⟩,
    ⟨[((.tmp 51), (B (false)))], [], (.lit undef), [], true⟩,
    ⟨[((.tmp 51), (B (false)))], [], (.lit undef), [], true⟩,
    ⟨[((.tmp 51), (B (false)))], [], (.lit undef), [], true⟩,
    ⟨[((.tmp 51), (B (false)))], [], (.lit undef), [], true⟩,
    ⟨[((.tmp 51), (B (false)))], [], (.lit undef), [], true⟩,
    ⟨[((.tmp 51), (B (false)))], [], (.lit undef), [], true⟩,
    ⟨[((.tmp 51), (B (false)))], [], (.lit undef), [], true⟩,
    ⟨[((.tmp 61), (.lit undef))], [], (.lit undef), [], true⟩,
    ⟨[((.tmp 61), (.lit undef))], [], (.lit undef), [], true⟩,
    ⟨[((.tmp 61), (.lit undef))], [], (.lit undef), [], true⟩,
    ⟨[((.tmp 61), (.lit undef))], [], (.lit undef), [], true⟩,
    ⟨[((.tmp 61), (.lit undef))], [], (.lit undef), [], true⟩,
    ⟨[((.tmp 61), (.lit undef))], [], (.lit undef), [], true⟩,
    ⟨[((.tmp 61), (.lit undef))], [], (.lit undef), [], true⟩,
    ⟨[((.tmp 61), (.lit undef))], [], (.lit undef), [], true⟩,
    ⟨[((.tmp 61), (.lit undef))], [], (.lit undef), [], true⟩,
    ⟨[((.tmp 51), (B (false)))], [], (.lit undef), [], true⟩,
    ⟨[((.tmp 51), (B (false)))], [], (.lit undef), [], true⟩,
    ⟨[((.tmp 72), (.lit undef))], [], (.lit undef), [], true⟩,
    ⟨[((.tmp 72), (.lit undef))], [], (.lit undef), [], true⟩,
    ⟨[((.tmp 72), (.lit undef))], [], (.lit undef), [], true⟩,
    ⟨[((.tmp 72), (.lit undef))], [], (.lit undef), [], true⟩,
    ⟨[((.tmp 72), (.lit undef))], [], (.lit undef), [], true⟩,
    ⟨[((.tmp 72), (.lit undef))], [], (.lit undef), [], true⟩,
    ⟨[((.tmp 72), (.lit undef))], [], (.lit undef), [], true⟩,
    ⟨[((.tmp 72), (.lit undef))], [], (.lit undef), [], true⟩,
    ⟨[((.tmp 72), (.lit undef))], [], (.lit undef), [], true⟩,
    ⟨[((.tmp 51), (B (false)))], [], (.lit undef), [], true⟩,
    ⟨[((.tmp 51), (B (false)))], [], (.lit undef), [], true⟩,
    ⟨[((.tmp 83), (.lit undef))], [], (.lit undef), [], true⟩,
    ⟨[((.tmp 83), (.lit undef))], [], (.lit undef), [], true⟩,
    ⟨[((.tmp 83), (.lit undef))], [], (.lit undef), [], true⟩,
    ⟨[((.tmp 83), (.lit undef))], [], (.lit undef), [], true⟩,
    ⟨[((.tmp 83), (.lit undef))], [], (.lit undef), [], true⟩,
    ⟨[((.tmp 83), (.lit undef))], [], (.lit undef), [], true⟩,
    ⟨[((.tmp 83), (.lit undef))], [], (.lit undef), [], true⟩,
    ⟨[((.tmp 83), (.lit undef))], [], (.lit undef), [], true⟩,
    ⟨[((.tmp 83), (.lit undef))], [], (.lit undef), [], true⟩,
    ⟨[((.tmp 51), (B (false)))], [], (.lit undef), [], true⟩,
    ⟨[((.tmp 51), (B (false))), ((.tmp 93), (.lit undef)), ((.const (.bool false)), (B (false)))], [], (B (false)), [], false⟩] (by kernel_rfl) (by exact ⟨by kernel_rfl, by kernel_rfl⟩) (by kernel_rfl) ?_ ?_
          · exact ⟨fun _ => astep_move rfl,
    fun _ => astep_bin rfl rfl,
    fun _ => astep_b hb12 (astep_move rfl),
    fun hs => (Bool.noConfusion hs),
    fun hs => (Bool.noConfusion hs),
    fun hs => (Bool.noConfusion hs),
    fun hs => (Bool.noConfusion hs),
    fun hs => (Bool.noConfusion hs),
    fun hs => (Bool.noConfusion hs),
    fun hs => (Bool.noConfusion hs),
    fun hs => (Bool.noConfusion hs),
    fun hs => (Bool.noConfusion hs),
    fun hs => (Bool.noConfusion hs),
    fun hs => (Bool.noConfusion hs),
    fun hs => (Bool.noConfusion hs),
    fun hs => (Bool.noConfusion hs),
    fun hs => (Bool.noConfusion hs),
    fun hs => (Bool.noConfusion hs),
    fun hs => (Bool.noConfusion hs),
    fun hs => (Bool.noConfusion hs),
    fun hs => (Bool.noConfusion hs),
    fun hs => (Bool.noConfusion hs),
    fun hs => (Bool.noConfusion hs),
    fun hs => (Bool.noConfusion hs),
    fun hs => (Bool.noConfusion hs),
    fun hs => (Bool.noConfusion hs),
    fun hs => (Bool.noConfusion hs),
    fun hs => (Bool.noConfusion hs),
    fun hs => (Bool.noConfusion hs),
    fun hs => (Bool.noConfusion hs),
    fun hs => (Bool.noConfusion hs),
    fun hs => (Bool.noConfusion hs),
    fun hs => (Bool.noConfusion hs),
    fun hs => (Bool.noConfusion hs),
    fun hs => (Bool.noConfusion hs),
    fun hs => (Bool.noConfusion hs),
    fun hs => (Bool.noConfusion hs),
    fun hs => (Bool.noConfusion hs),
    fun hs => (Bool.noConfusion hs),
    fun hs => (Bool.noConfusion hs),
    fun hs => (Bool.noConfusion hs),
    fun hs => (Bool.noConfusion hs),
    fun hs => (Bool.noConfusion hs),
    fun hs => (Bool.noConfusion hs),
    fun hs => (Bool.noConfusion hs),
    fun _ => astep_pick rfl rfl, trivial⟩
          refine awp_false (by kernel_rfl) ?_
          refine awp_skip ?_
          refine blockA_n ?_
          refine thenA_n ?_
          refine awp_reg1 [⟨[((.tmp 3), (I (y3)))], [], (I (y3)), [], false⟩,
    ⟨[((.tmp 9), (I (y3))), ((.const (.int .i64 1)), (I (1)))], [], (I (w64 (y3 + 1))), [], false⟩,
    ⟨[((.tmp 10), (I (w64 (y3 + 1))))], [], (I (w64 (y3 + 1))), [], false⟩] (by exact ⟨by kernel_rfl, by kernel_rfl⟩) ?_ ?_
          · exact ⟨fun _ => astep_move rfl,
    fun _ => astep_bin rfl rfl,
    fun _ => astep_assign rfl, trivial⟩
          refine thenA_n ?_
          exact around_mor (mor_to (n := 103) (l' := [(0, (.dat 5 ((p0 : List GRow).map c_GRow))), (3, (I ((w64 (y3 + 1)))))]) (own' := []) [(0, (.dat 5 ((p0 : List GRow).map c_GRow))), (3, (I (w64 (y3 + 1))))] [] [] hφ0 (by kernel_rfl) (by kernel_rfl) (by kernel_rfl) ⟨rfl, .rn (.plain _ (nl_dat nl_GRow _)), rfl, .rn (.plain _ (NLt.lit _)), trivial⟩ trivial) (ih (w64 (y3 + 1)) h)
      · skip
        obtain ⟨x22, hf21, h⟩ := bind_out h
        rcases Bool.eq_false_or_eq_true ((!x22)) with hb23 | hb23
        · replace h := bif_t hb23 h
          refine awp_reg [⟨[((.tmp 4), (.ref 0 5 (0) 0))], [(0, (.own 5 [[(I (x7.T)), (I (x7.P)), (I (x7.Liquid)), (I (x7.Vapour)), (I (x7.Silica))]]))], (.ref 0 5 (0) 0), [], false⟩,
    ⟨[((.tmp 15), (.ref 0 5 (0) 0))], [(0, (.own 5 [[(I (x7.T)), (I (x7.P)), (I (x7.Liquid)), (I (x7.Vapour)), (I (x7.Silica))]]))], (I (x7.T)), [], false⟩,
    ⟨[((.func 31), (.fn (.func 31) [] [])), ((.tmp 16), (I (x7.T))), ((.const (.int .i64 0)), (I (0))), ((.const (.int .i64 400)), (I (400)))], [], (B (x22)), [], false⟩,
    ⟨[((.tmp 17), (B (x22)))], [], (B ((!x22))), [], false⟩,
    ⟨[((.tmp 18), (B ((!x22))))], [], (B (true)), [], false⟩,
    ⟨[((.tmp 19), (B (true)))], [], (.lit undef), [], true⟩,
    ⟨[((.tmp 19), (B (true)))], [], (.lit undef), [], true⟩,
    ⟨[((.tmp 19), (B (true)))], [], (.lit undef), [], true⟩,
    ⟨[((.tmp 19), (B (true)))], [], (.lit undef), [], true⟩,
    ⟨[((.tmp 19), (B (true))), ((.const (.bool true)), (B (true))), ((.tmp 23), (.lit undef))], [], (B (true)), [], false⟩,
    ⟨[((.tmp 24), (B (true)))], [], (B (true)), [], false⟩,
    ⟨[((.tmp 25), (B (true)))], [], (.lit undef), [], true⟩,
    ⟨[((.tmp 25), (B (true)))], [], (.lit undef), [], true⟩,
    ⟨[((.tmp 25), (B (true)))], [], (.lit undef), [], true⟩,
    ⟨[((.tmp 25), (B (true)))], [], (.lit undef), [], true⟩,
    ⟨[((.tmp 25), (B (true))), ((.const (.bool true)), (B (true))), ((.tmp 29), (.lit undef))], [], (B (true)), [], false⟩,
    ⟨[((.tmp 30), (B (true)))], [], (B (true)), [], false⟩,
    ⟨[((.tmp 31), (B (true)))], [], (.lit undef), [], true⟩,
    ⟨[((.tmp 31), (B (true)))], [], (.lit undef), [], true⟩,
    ⟨[((.tmp 31), (B (true)))], [], (.lit undef), [], true⟩,
    ⟨[((.tmp 31), (B (true)))], [], (.lit undef), [], true⟩,
    ⟨[((.tmp 31), (B (true))), ((.const (.bool true)), (B (true))), ((.tmp 35), (.lit undef))], [], (B (true)), [], false⟩,
    ⟨[((.tmp 36), (B (true)))], [], (B (true)), [], false⟩,
    ⟨[((.tmp 37), (B (true)))], [], (.lit undef), [], true⟩,
    ⟨[((.tmp 37), (B (true)))], [], (.lit undef), [], true⟩,
    ⟨[((.tmp 37), (B (true)))], [], (.lit undef), [], true⟩,
    ⟨[((.tmp 37), (B (true)))], [], (.lit undef), [], true⟩,
    ⟨[((.tmp 37), (B (true)))], [], (.lit undef), [], true⟩,
    ⟨[((.tmp 37), (B (true))), ((.const (.bool true)), (B (true))), ((.tmp 42), (.lit undef))], [], (B (true)), [], false⟩,
    ⟨[((.tmp 43), (B (true)))], [], (B (true)), [], false⟩,
    ⟨[((.tmp 44), (B (true)))], [], (.lit undef), [], true⟩,
    ⟨[((.tmp 44), (B (true)))], [], (.lit undef), [], true⟩,
    ⟨[((.tmp 44), (B (true)))], [], (.lit undef), [], true⟩,
    ⟨[((.tmp 44), (B (true))), ((.const (.bool true)), (B (true))), ((.tmp 47), (.lit undef))], [], (B (true)), [], false⟩] (by exact ⟨by kernel_rfl, by kernel_rfl⟩) ?_ ?_
          · exact ⟨fun _ => astep_faddr rfl Try.underlying49 rfl rfl ti3 (by decide) rfl,
    fun _ => astep_load rfl ti3 (by decide) rfl (Nat.le_of_ble_eq_true rfl) rfl,
    fun _ => astep_pcall (first := []) (cap := []) (vs := [(I (x7.T)), (I (0)), (I (400))]) rfl enter31 (ref01_InX_ok N x7.T 0 400 _ hf21) rfl rfl (nl_cons (NLt.lit _) (nl_cons (NLt.lit _) (nl_cons (NLt.lit _) nl_nil))) (NLt.lit _) rfl,
    fun _ => astep_not rfl,
    fun _ => astep_b hb23 (astep_move rfl),
    fun hs => (Bool.noConfusion hs),
    fun hs => (Bool.noConfusion hs),
    fun hs => (Bool.noConfusion hs),
    fun hs => (Bool.noConfusion hs),
    fun _ => astep_pick rfl rfl,
    fun _ => astep_move rfl,
    fun hs => (Bool.noConfusion hs),
    fun hs => (Bool.noConfusion hs),
    fun hs => (Bool.noConfusion hs),
    fun hs => (Bool.noConfusion hs),
    fun _ => astep_pick rfl rfl,
    fun _ => astep_move rfl,
    fun hs => (Bool.noConfusion hs),
    fun hs => (Bool.noConfusion hs),
    fun hs => (Bool.noConfusion hs),
    fun hs => (Bool.noConfusion hs),
    fun _ => astep_pick rfl rfl,
    fun _ => astep_move rfl,
    fun hs => (Bool.noConfusion hs),
    fun hs => (Bool.noConfusion hs),
    fun hs => (Bool.noConfusion hs),
    fun hs => (Bool.noConfusion hs),
    fun hs => (Bool.noConfusion hs),
    fun _ => astep_pick rfl rfl,
    fun _ => astep_move rfl,
    fun hs => (Bool.noConfusion hs),
    fun hs => (Bool.noConfusion hs),
    fun hs => (Bool.noConfusion hs),
    fun _ => astep_pick rfl rfl, trivial⟩
          refine awp_true (by kernel_rfl) ?_
          refine awp_reg [⟨[((.const (.bool false)), (B (false)))], [], (B (false)), [], false⟩] (by exact ⟨by kernel_rfl, by kernel_rfl⟩) ?_ ?_
          · exact ⟨fun _ => astep_assign rfl, trivial⟩
          refine awp_ret ?_
          refine thenA_r ?_
          refine blockA_r ?_
          refine thenA_r ?_
          refine thenA_r ?_
          refine blockA_r ?_
          refine thenA_r ?_
          obtain rfl := Option.some.inj h
          exact ⟨⟨[(B (false))], ⟨resOK_tmp (by kernel_rfl), trivial⟩, rfl⟩, (NLt.lit _), Nat.le_refl _, fun n hn => absurd hn (Nat.not_lt_zero n)⟩
        · replace h := bif_f hb23 h
          obtain ⟨x25, hf24, h⟩ := bind_out h
          rcases Bool.eq_false_or_eq_true ((!x25)) with hb26 | hb26
          · replace h := bif_t hb26 h
            refine awp_reg [⟨[((.tmp 4), (.ref 0 5 (0) 0))], [(0, (.own 5 [[(I (x7.T)), (I (x7.P)), (I (x7.Liquid)), (I (x7.Vapour)), (I (x7.Silica))]]))], (.ref 0 5 (0) 0), [], false⟩,
    ⟨[((.tmp 15), (.ref 0 5 (0) 0))], [(0, (.own 5 [[(I (x7.T)), (I (x7.P)), (I (x7.Liquid)), (I (x7.Vapour)), (I (x7.Silica))]]))], (I (x7.T)), [], false⟩,
    ⟨[((.func 31), (.fn (.func 31) [] [])), ((.tmp 16), (I (x7.T))), ((.const (.int .i64 0)), (I (0))), ((.const (.int .i64 400)), (I (400)))], [], (B (x22)), [], false⟩,
    ⟨[((.tmp 17), (B (x22)))], [], (B ((!x22))), [], false⟩,
    ⟨[((.tmp 18), (B ((!x22))))], [], (B (false)), [], false⟩,
    ⟨[((.tmp 19), (B (false))), ((.tmp 4), (.ref 0 5 (0) 0))], [(0, (.own 5 [[(I (x7.T)), (I (x7.P)), (I (x7.Liquid)), (I (x7.Vapour)), (I (x7.Silica))]]))], (.ref 0 5 (0) 1), [], false⟩,
    ⟨[((.tmp 19), (B (false))), ((.tmp 20), (.ref 0 5 (0) 1))], [(0, (.own 5 [[(I (x7.T)), (I (x7.P)), (I (x7.Liquid)), (I (x7.Vapour)), (I (x7.Silica))]]))], (I (x7.P)), [], false⟩,
    ⟨[((.tmp 19), (B (false))), ((.func 31), (.fn (.func 31) [] [])), ((.tmp 21), (I (x7.P))), ((.const (.int .i64 1)), (I (1))), ((.const (.int .i64 10000)), (I (10000)))], [], (B (x25)), [], false⟩,
    ⟨[((.tmp 19), (B (false))), ((.tmp 22), (B (x25)))], [], (B ((!x25))), [], false⟩,
    ⟨[((.tmp 19), (B (false))), ((.const (.bool true)), (B (true))), ((.tmp 23), (B ((!x25))))], [], (B ((!x25))), [], false⟩,
    ⟨[((.tmp 24), (B ((!x25))))], [], (B (true)), [], false⟩,
    ⟨[((.tmp 25), (B (true)))], [], (.lit undef), [], true⟩,
    ⟨[((.tmp 25), (B (true)))], [], (.lit undef), [], true⟩,
    ⟨[((.tmp 25), (B (true)))], [], (.lit undef), [], true⟩,
    ⟨[((.tmp 25), (B (true)))], [], (.lit undef), [], true⟩,
    ⟨[((.tmp 25), (B (true))), ((.const (.bool true)), (B (true))), ((.tmp 29), (.lit undef))], [], (B (true)), [], false⟩,
    ⟨[((.tmp 30), (B (true)))], [], (B (true)), [], false⟩,
    ⟨[((.tmp 31), (B (true)))], [], (.lit undef), [], true⟩,
    ⟨[((.tmp 31), (B (true)))], [], (.lit undef), [], true⟩,
    ⟨[((.tmp 31), (B (true)))], [], (.lit undef), [], true⟩,
    ⟨[((.tmp 31), (B (true)))], [], (.lit undef), [], true⟩,
    ⟨[((.tmp 31), (B (true))), ((.const (.bool true)), (B (true))), ((.tmp 35), (.lit undef))], [], (B (true)), [], false⟩,
    ⟨[((.tmp 36), (B (true)))], [], (B (true)), [], false⟩,
    ⟨[((.tmp 37), (B (true)))], [], (.lit undef), [], true⟩,
    ⟨[((.tmp 37), (B (true)))], [], (.lit undef), [], true⟩,
    ⟨[((.tmp 37), (B (true)))], [], (.lit undef), [], true⟩,
    ⟨[((.tmp 37), (B (true)))], [], (.lit undef), [], true⟩,
    ⟨[((.tmp 37), (B (true)))], [], (.lit undef), [], true⟩,
    ⟨[((.tmp 37), (B (true))), ((.const (.bool true)), (B (true))), ((.tmp 42), (.lit undef))], [], (B (true)), [], false⟩,
    ⟨[((.tmp 43), (B (true)))], [], (B (true)), [], false⟩,
    ⟨[((.tmp 44), (B (true)))], [], (.lit undef), [], true⟩,
    ⟨[((.tmp 44), (B (true)))], [], (.lit undef), [], true⟩,
    ⟨[((.tmp 44), (B (true)))], [], (.lit undef), [], true⟩,
    ⟨[((.tmp 44), (B (true))), ((.const (.bool true)), (B (true))), ((.tmp 47), (.lit undef))], [], (B (true)), [], false⟩] (by exact ⟨by kernel_rfl, by kernel_rfl⟩) ?_ ?_
            · exact ⟨fun _ => astep_faddr rfl Try.underlying49 rfl rfl ti3 (by decide) rfl,
    fun _ => astep_load rfl ti3 (by decide) rfl (Nat.le_of_ble_eq_true rfl) rfl,
    fun _ => astep_pcall (first := []) (cap := []) (vs := [(I (x7.T)), (I (0)), (I (400))]) rfl enter31 (ref01_InX_ok N x7.T 0 400 _ hf21) rfl rfl (nl_cons (NLt.lit _) (nl_cons (NLt.lit _) (nl_cons (NLt.lit _) nl_nil))) (NLt.lit _) rfl,
    fun _ => astep_not rfl,
    fun _ => astep_b hb23 (astep_move rfl),
    fun _ => astep_guard (astep_faddr rfl Try.underlying49 rfl rfl ti3 (by decide) rfl),
    fun _ => astep_guard (astep_load rfl ti3 (by decide) rfl (Nat.le_of_ble_eq_true rfl) rfl),
    fun _ => astep_guard (astep_pcall (first := []) (cap := []) (vs := [(I (x7.P)), (I (1)), (I (10000))]) rfl enter31 (ref01_InX_ok N x7.P 1 10000 _ hf24) rfl rfl (nl_cons (NLt.lit _) (nl_cons (NLt.lit _) (nl_cons (NLt.lit _) nl_nil))) (NLt.lit _) rfl),
    fun _ => astep_guard (astep_not rfl),
    fun _ => astep_pick rfl rfl,
    fun _ => astep_b hb26 (astep_move rfl),
    fun hs => (Bool.noConfusion hs),
    fun hs => (Bool.noConfusion hs),
    fun hs => (Bool.noConfusion hs),
    fun hs => (Bool.noConfusion hs),
    fun _ => astep_pick rfl rfl,
    fun _ => astep_move rfl,
    fun hs => (Bool.noConfusion hs),
    fun hs => (Bool.noConfusion hs),
    fun hs => (Bool.noConfusion hs),
    fun hs => (Bool.noConfusion hs),
    fun _ => astep_pick rfl rfl,
    fun _ => astep_move rfl,
    fun hs => (Bool.noConfusion hs),
    fun hs => (Bool.noConfusion hs),
    fun hs => (Bool.noConfusion hs),
    fun hs => (Bool.noConfusion hs),
    fun hs => (Bool.noConfusion hs),
    fun _ => astep_pick rfl rfl,
    fun _ => astep_move rfl,
    fun hs => (Bool.noConfusion hs),
    fun hs => (Bool.noConfusion hs),
    fun hs => (Bool.noConfusion hs),
    fun _ => astep_pick rfl rfl, trivial⟩
            refine awp_true (by kernel_rfl) ?_
            refine awp_reg [⟨[((.const (.bool false)), (B (false)))], [], (B (false)), [], false⟩] (by exact ⟨by kernel_rfl, by kernel_rfl⟩) ?_ ?_
            · exact ⟨fun _ => astep_assign rfl, trivial⟩
            refine awp_ret ?_
            refine thenA_r ?_
            refine blockA_r ?_
            refine thenA_r ?_
            refine thenA_r ?_
            refine blockA_r ?_
            refine thenA_r ?_
            obtain rfl := Option.some.inj h
            exact ⟨⟨[(B (false))], ⟨resOK_tmp (by kernel_rfl), trivial⟩, rfl⟩, (NLt.lit _), Nat.le_refl _, fun n hn => absurd hn (Nat.not_lt_zero n)⟩
          · replace h := bif_f hb26 h
            obtain ⟨x28, hf27, h⟩ := bind_out h
            rcases Bool.eq_false_or_eq_true ((!x28)) with hb29 | hb29
            · replace h := bif_t hb29 h
              refine awp_reg [⟨[((.tmp 4), (.ref 0 5 (0) 0))], [(0, (.own 5 [[(I (x7.T)), (I (x7.P)), (I (x7.Liquid)), (I (x7.Vapour)), (I (x7.Silica))]]))], (.ref 0 5 (0) 0), [], false⟩,
    ⟨[((.tmp 15), (.ref 0 5 (0) 0))], [(0, (.own 5 [[(I (x7.T)), (I (x7.P)), (I (x7.Liquid)), (I (x7.Vapour)), (I (x7.Silica))]]))], (I (x7.T)), [], false⟩,
    ⟨[((.func 31), (.fn (.func 31) [] [])), ((.tmp 16), (I (x7.T))), ((.const (.int .i64 0)), (I (0))), ((.const (.int .i64 400)), (I (400)))], [], (B (x22)), [], false⟩,
    ⟨[((.tmp 17), (B (x22)))], [], (B ((!x22))), [], false⟩,
    ⟨[((.tmp 18), (B ((!x22))))], [], (B (false)), [], false⟩,
    ⟨[((.tmp 19), (B (false))), ((.tmp 4), (.ref 0 5 (0) 0))], [(0, (.own 5 [[(I (x7.T)), (I (x7.P)), (I (x7.Liquid)), (I (x7.Vapour)), (I (x7.Silica))]]))], (.ref 0 5 (0) 1), [], false⟩,
    ⟨[((.tmp 19), (B (false))), ((.tmp 20), (.ref 0 5 (0) 1))], [(0, (.own 5 [[(I (x7.T)), (I (x7.P)), (I (x7.Liquid)), (I (x7.Vapour)), (I (x7.Silica))]]))], (I (x7.P)), [], false⟩,
    ⟨[((.tmp 19), (B (false))), ((.func 31), (.fn (.func 31) [] [])), ((.tmp 21), (I (x7.P))), ((.const (.int .i64 1)), (I (1))), ((.const (.int .i64 10000)), (I (10000)))], [], (B (x25)), [], false⟩,
    ⟨[((.tmp 19), (B (false))), ((.tmp 22), (B (x25)))], [], (B ((!x25))), [], false⟩,
    ⟨[((.tmp 19), (B (false))), ((.const (.bool true)), (B (true))), ((.tmp 23), (B ((!x25))))], [], (B ((!x25))), [], false⟩,
    ⟨[((.tmp 24), (B ((!x25))))], [], (B (false)), [], false⟩,
    ⟨[((.tmp 25), (B (false))), ((.tmp 4), (.ref 0 5 (0) 0))], [(0, (.own 5 [[(I (x7.T)), (I (x7.P)), (I (x7.Liquid)), (I (x7.Vapour)), (I (x7.Silica))]]))], (.ref 0 5 (0) 2), [], false⟩,
    ⟨[((.tmp 25), (B (false))), ((.tmp 26), (.ref 0 5 (0) 2))], [(0, (.own 5 [[(I (x7.T)), (I (x7.P)), (I (x7.Liquid)), (I (x7.Vapour)), (I (x7.Silica))]]))], (I (x7.Liquid)), [], false⟩,
    ⟨[((.tmp 25), (B (false))), ((.func 31), (.fn (.func 31) [] [])), ((.tmp 27), (I (x7.Liquid))), ((.const (.int .i64 0)), (I (0))), ((.const (.int .i64 4000)), (I (4000)))], [], (B (x28)), [], false⟩,
    ⟨[((.tmp 25), (B (false))), ((.tmp 28), (B (x28)))], [], (B ((!x28))), [], false⟩,
    ⟨[((.tmp 25), (B (false))), ((.const (.bool true)), (B (true))), ((.tmp 29), (B ((!x28))))], [], (B ((!x28))), [], false⟩,
    ⟨[((.tmp 30), (B ((!x28))))], [], (B (true)), [], false⟩,
    ⟨[((.tmp 31), (B (true)))], [], (.lit undef), [], true⟩,
    ⟨[((.tmp 31), (B (true)))], [], (.lit undef), [], true⟩,
    ⟨[((.tmp 31), (B (true)))], [], (.lit undef), [], true⟩,
    ⟨[((.tmp 31), (B (true)))], [], (.lit undef), [], true⟩,
    ⟨[((.tmp 31), (B (true))), ((.const (.bool true)), (B (true))), ((.tmp 35), (.lit undef))], [], (B (true)), [], false⟩,
    ⟨[((.tmp 36), (B (true)))], [], (B (true)), [], false⟩,
    ⟨[((.tmp 37), (B (true)))], [], (.lit undef), [], true⟩,
    ⟨[((.tmp 37), (B (true)))], [], (.lit undef), [], true⟩,
    ⟨[((.tmp 37), (B (true)))], [], (.lit undef), [], true⟩,
    ⟨[((.tmp 37), (B (true)))], [], (.lit undef), [], true⟩,
    ⟨[((.tmp 37), (B (true)))], [], (.lit undef), [], true⟩,
    ⟨[((.tmp 37), (B (true))), ((.const (.bool true)), (B (true))), ((.tmp 42), (.lit undef))], [], (B (true)), [], false⟩,
    ⟨[((.tmp 43), (B (true)))], [], (B (true)), [], false⟩,
    ⟨[((.tmp 44), (B (true)))], [], (.lit undef), [], true⟩,
    ⟨[((.tmp 44), (B (true)))], [], (.lit undef), [], true⟩,
    ⟨[((.tmp 44), (B (true)))], [], (.lit undef), [], true⟩,
    ⟨[((.tmp 44), (B (true))), ((.const (.bool true)), (B (true))), ((.tmp 47), (.lit undef))], [], (B (true)), [], false⟩] (by exact ⟨by kernel_rfl, by kernel_rfl⟩) ?_ ?_
              · exact ⟨fun _ => astep_faddr rfl Try.underlying49 rfl rfl ti3 (by decide) rfl,
    fun _ => astep_load rfl ti3 (by decide) rfl (Nat.le_of_ble_eq_true rfl) rfl,
    fun _ => astep_pcall (first := []) (cap := []) (vs := [(I (x7.T)), (I (0)), (I (400))]) rfl enter31 (ref01_InX_ok N x7.T 0 400 _ hf21) rfl rfl (nl_cons (NLt.lit _) (nl_cons (NLt.lit _) (nl_cons (NLt.lit _) nl_nil))) (NLt.lit _) rfl,
    fun _ => astep_not rfl,
    fun _ => astep_b hb23 (astep_move rfl),
    fun _ => astep_guard (astep_faddr rfl Try.underlying49 rfl rfl ti3 (by decide) rfl),
    fun _ => astep_guard (astep_load rfl ti3 (by decide) rfl (Nat.le_of_ble_eq_true rfl) rfl),
    fun _ => astep_guard (astep_pcall (first := []) (cap := []) (vs := [(I (x7.P)), (I (1)), (I (10000))]) rfl enter31 (ref01_InX_ok N x7.P 1 10000 _ hf24) rfl rfl (nl_cons (NLt.lit _) (nl_cons (NLt.lit _) (nl_cons (NLt.lit _) nl_nil))) (NLt.lit _) rfl),
    fun _ => astep_guard (astep_not rfl),
    fun _ => astep_pick rfl rfl,
    fun _ => astep_b hb26 (astep_move rfl),
    fun _ => astep_guard (astep_faddr rfl Try.underlying49 rfl rfl ti3 (by decide) rfl),
    fun _ => astep_guard (astep_load rfl ti3 (by decide) rfl (Nat.le_of_ble_eq_true rfl) rfl),
    fun _ => astep_guard (astep_pcall (first := []) (cap := []) (vs := [(I (x7.Liquid)), (I (0)), (I (4000))]) rfl enter31 (ref01_InX_ok N x7.Liquid 0 4000 _ hf27) rfl rfl (nl_cons (NLt.lit _) (nl_cons (NLt.lit _) (nl_cons (NLt.lit _) nl_nil))) (NLt.lit _) rfl),
    fun _ => astep_guard (astep_not rfl),
    fun _ => astep_pick rfl rfl,
    fun _ => astep_b hb29 (astep_move rfl),
    fun hs => (Bool.noConfusion hs),
    fun hs => (Bool.noConfusion hs),
    fun hs => (Bool.noConfusion hs),
    fun hs => (Bool.noConfusion hs),
    fun _ => astep_pick rfl rfl,
    fun _ => astep_move rfl,
    fun hs => (Bool.noConfusion hs),
    fun hs => (Bool.noConfusion hs),
    fun hs => (Bool.noConfusion hs),
    fun hs => (Bool.noConfusion hs),
    fun hs => (Bool.noConfusion hs),
    fun _ => astep_pick rfl rfl,
    fun _ => astep_move rfl,
    fun hs => (Bool.noConfusion hs),
    fun hs => (Bool.noConfusion hs),
    fun hs => (Bool.noConfusion hs),
    fun _ => astep_pick rfl rfl, trivial⟩
              refine awp_true (by kernel_rfl) ?_
              refine awp_reg [⟨[((.const (.bool false)), (B (false)))], [], (B (false)), [], false⟩] (by exact ⟨by kernel_rfl, by kernel_rfl⟩) ?_ ?_
              · exact ⟨fun _ => astep_assign rfl, trivial⟩
              refine awp_ret ?_
              refine thenA_r ?_
              refine blockA_r ?_
              refine thenA_r ?_
              refine thenA_r ?_
              refine blockA_r ?_
              refine thenA_r ?_
              obtain rfl := Option.some.inj h
              exact ⟨⟨[(B (false))], ⟨resOK_tmp (by kernel_rfl), trivial⟩, rfl⟩, (NLt.lit _), Nat.le_refl _, fun n hn => absurd hn (Nat.not_lt_zero n)⟩
            · replace h := bif_f hb29 h
              obtain ⟨x31, hf30, h⟩ := bind_out h
              rcases Bool.eq_false_or_eq_true ((!x31)) with hb32 | hb32
              · replace h := bif_t hb32 h
                refine awp_reg [⟨[((.tmp 4), (.ref 0 5 (0) 0))], [(0, (.own 5 [[(I (x7.T)), (I (x7.P)), (I (x7.Liquid)), (I (x7.Vapour)), (I (x7.Silica))]]))], (.ref 0 5 (0) 0), [], false⟩,
    ⟨[((.tmp 15), (.ref 0 5 (0) 0))], [(0, (.own 5 [[(I (x7.T)), (I (x7.P)), (I (x7.Liquid)), (I (x7.Vapour)), (I (x7.Silica))]]))], (I (x7.T)), [], false⟩,
    ⟨[((.func 31), (.fn (.func 31) [] [])), ((.tmp 16), (I (x7.T))), ((.const (.int .i64 0)), (I (0))), ((.const (.int .i64 400)), (I (400)))], [], (B (x22)), [], false⟩,
    ⟨[((.tmp 17), (B (x22)))], [], (B ((!x22))), [], false⟩,
    ⟨[((.tmp 18), (B ((!x22))))], [], (B (false)), [], false⟩,
    ⟨[((.tmp 19), (B (false))), ((.tmp 4), (.ref 0 5 (0) 0))], [(0, (.own 5 [[(I (x7.T)), (I (x7.P)), (I (x7.Liquid)), (I (x7.Vapour)), (I (x7.Silica))]]))], (.ref 0 5 (0) 1), [], false⟩,
    ⟨[((.tmp 19), (B (false))), ((.tmp 20), (.ref 0 5 (0) 1))], [(0, (.own 5 [[(I (x7.T)), (I (x7.P)), (I (x7.Liquid)), (I (x7.Vapour)), (I (x7.Silica))]]))], (I (x7.P)), [], false⟩,
    ⟨[((.tmp 19), (B (false))), ((.func 31), (.fn (.func 31) [] [])), ((.tmp 21), (I (x7.P))), ((.const (.int .i64 1)), (I (1))), ((.const (.int .i64 10000)), (I (10000)))], [], (B (x25)), [], false⟩,
    ⟨[((.tmp 19), (B (false))), ((.tmp 22), (B (x25)))], [], (B ((!x25))), [], false⟩,
    ⟨[((.tmp 19), (B (false))), ((.const (.bool true)), (B (true))), ((.tmp 23), (B ((!x25))))], [], (B ((!x25))), [], false⟩,
    ⟨[((.tmp 24), (B ((!x25))))], [], (B (false)), [], false⟩,
    ⟨[((.tmp 25), (B (false))), ((.tmp 4), (.ref 0 5 (0) 0))], [(0, (.own 5 [[(I (x7.T)), (I (x7.P)), (I (x7.Liquid)), (I (x7.Vapour)), (I (x7.Silica))]]))], (.ref 0 5 (0) 2), [], false⟩,
    ⟨[((.tmp 25), (B (false))), ((.tmp 26), (.ref 0 5 (0) 2))], [(0, (.own 5 [[(I (x7.T)), (I (x7.P)), (I (x7.Liquid)), (I (x7.Vapour)), (I (x7.Silica))]]))], (I (x7.Liquid)), [], false⟩,
    ⟨[((.tmp 25), (B (false))), ((.func 31), (.fn (.func 31) [] [])), ((.tmp 27), (I (x7.Liquid))), ((.const (.int .i64 0)), (I (0))), ((.const (.int .i64 4000)), (I (4000)))], [], (B (x28)), [], false⟩,
    ⟨[((.tmp 25), (B (false))), ((.tmp 28), (B (x28)))], [], (B ((!x28))), [], false⟩,
    ⟨[((.tmp 25), (B (false))), ((.const (.bool true)), (B (true))), ((.tmp 29), (B ((!x28))))], [], (B ((!x28))), [], false⟩,
    ⟨[((.tmp 30), (B ((!x28))))], [], (B (false)), [], false⟩,
    ⟨[((.tmp 31), (B (false))), ((.tmp 4), (.ref 0 5 (0) 0))], [(0, (.own 5 [[(I (x7.T)), (I (x7.P)), (I (x7.Liquid)), (I (x7.Vapour)), (I (x7.Silica))]]))], (.ref 0 5 (0) 4), [], false⟩,
    ⟨[((.tmp 31), (B (false))), ((.tmp 32), (.ref 0 5 (0) 4))], [(0, (.own 5 [[(I (x7.T)), (I (x7.P)), (I (x7.Liquid)), (I (x7.Vapour)), (I (x7.Silica))]]))], (I (x7.Silica)), [], false⟩,
    ⟨[((.tmp 31), (B (false))), ((.func 31), (.fn (.func 31) [] [])), ((.tmp 33), (I (x7.Silica))), ((.const (.int .i64 0)), (I (0))), ((.const (.int .i64 2000)), (I (2000)))], [], (B (x31)), [], false⟩,
    ⟨[((.tmp 31), (B (false))), ((.tmp 34), (B (x31)))], [], (B ((!x31))), [], false⟩,
    ⟨[((.tmp 31), (B (false))), ((.const (.bool true)), (B (true))), ((.tmp 35), (B ((!x31))))], [], (B ((!x31))), [], false⟩,
    ⟨[((.tmp 36), (B ((!x31))))], [], (B (true)), [], false⟩,
    ⟨[((.tmp 37), (B (true)))], [], (.lit undef), [], true⟩,
    ⟨[((.tmp 37), (B (true)))], [], (.lit undef), [], true⟩,
    ⟨[((.tmp 37), (B (true)))], [], (.lit undef), [], true⟩,
    ⟨[((.tmp 37), (B (true)))], [], (.lit undef), [], true⟩,
    ⟨[((.tmp 37), (B (true)))], [], (.lit undef), [], true⟩,
    ⟨[((.tmp 37), (B (true))), ((.const (.bool true)), (B (true))), ((.tmp 42), (.lit undef))], [], (B (true)), [], false⟩,
    ⟨[((.tmp 43), (B (true)))], [], (B (true)), [], false⟩,
    ⟨[((.tmp 44), (B (true)))], [], (.lit undef), [], true⟩,
    ⟨[((.tmp 44), (B (true)))], [], (.lit undef), [], true⟩,
    ⟨[((.tmp 44), (B (true)))], [], (.lit undef), [], true⟩,
    ⟨[((.tmp 44), (B (true))), ((.const (.bool true)), (B (true))), ((.tmp 47), (.lit undef))], [], (B (true)), [], false⟩] (by exact ⟨by kernel_rfl, by kernel_rfl⟩) ?_ ?_
                · exact ⟨fun _ => astep_faddr rfl Try.underlying49 rfl rfl ti3 (by decide) rfl,
    fun _ => astep_load rfl ti3 (by decide) rfl (Nat.le_of_ble_eq_true rfl) rfl,
    fun _ => astep_pcall (first := []) (cap := []) (vs := [(I (x7.T)), (I (0)), (I (400))]) rfl enter31 (ref01_InX_ok N x7.T 0 400 _ hf21) rfl rfl (nl_cons (NLt.lit _) (nl_cons (NLt.lit _) (nl_cons (NLt.lit _) nl_nil))) (NLt.lit _) rfl,
    fun _ => astep_not rfl,
    fun _ => astep_b hb23 (astep_move rfl),
    fun _ => astep_guard (astep_faddr rfl Try.underlying49 rfl rfl ti3 (by decide) rfl),
    fun _ => astep_guard (astep_load rfl ti3 (by decide) rfl (Nat.le_of_ble_eq_true rfl) rfl),
    fun _ => astep_guard (astep_pcall (first := []) (cap := []) (vs := [(I (x7.P)), (I (1)), (I (10000))]) rfl enter31 (ref01_InX_ok N x7.P 1 10000 _ hf24) rfl rfl (nl_cons (NLt.lit _) (nl_cons (NLt.lit _) (nl_cons (NLt.lit _) nl_nil))) (NLt.lit _) rfl),
    fun _ => astep_guard (astep_not rfl),
    fun _ => astep_pick rfl rfl,
    fun _ => astep_b hb26 (astep_move rfl),
    fun _ => astep_guard (astep_faddr rfl Try.underlying49 rfl rfl ti3 (by decide) rfl),
    fun _ => astep_guard (astep_load rfl ti3 (by decide) rfl (Nat.le_of_ble_eq_true rfl) rfl),
    fun _ => astep_guard (astep_pcall (first := []) (cap := []) (vs := [(I (x7.Liquid)), (I (0)), (I (4000))]) rfl enter31 (ref01_InX_ok N x7.Liquid 0 4000 _ hf27) rfl rfl (nl_cons (NLt.lit _) (nl_cons (NLt.lit _) (nl_cons (NLt.lit _) nl_nil))) (NLt.lit _) rfl),
    fun _ => astep_guard (astep_not rfl),
    fun _ => astep_pick rfl rfl,
    fun _ => astep_b hb29 (astep_move rfl),
    fun _ => astep_guard (astep_faddr rfl Try.underlying49 rfl rfl ti3 (by decide) rfl),
    fun _ => astep_guard (astep_load rfl ti3 (by decide) rfl (Nat.le_of_ble_eq_true rfl) rfl),
    fun _ => astep_guard (astep_pcall (first := []) (cap := []) (vs := [(I (x7.Silica)), (I (0)), (I (2000))]) rfl enter31 (ref01_InX_ok N x7.Silica 0 2000 _ hf30) rfl rfl (nl_cons (NLt.lit _) (nl_cons (NLt.lit _) (nl_cons (NLt.lit _) nl_nil))) (NLt.lit _) rfl),
    fun _ => astep_guard (astep_not rfl),
    fun _ => astep_pick rfl rfl,
    fun _ => astep_b hb32 (astep_move rfl),
    fun hs => (Bool.noConfusion hs),
    fun hs => (Bool.noConfusion hs),
    fun hs => (Bool.noConfusion hs),
    fun hs => (Bool.noConfusion hs),
    fun hs => (Bool.noConfusion hs),
    fun _ => astep_pick rfl rfl,
    fun _ => astep_move rfl,
    fun hs => (Bool.noConfusion hs),
    fun hs => (Bool.noConfusion hs),
    fun hs => (Bool.noConfusion hs),
    fun _ => astep_pick rfl rfl, trivial⟩
                refine awp_true (by kernel_rfl) ?_
                refine awp_reg [⟨[((.const (.bool false)), (B (false)))], [], (B (false)), [], false⟩] (by exact ⟨by kernel_rfl, by kernel_rfl⟩) ?_ ?_
                · exact ⟨fun _ => astep_assign rfl, trivial⟩
                refine awp_ret ?_
                refine thenA_r ?_
                refine blockA_r ?_
                refine thenA_r ?_
                refine thenA_r ?_
                refine blockA_r ?_
                refine thenA_r ?_
                obtain rfl := Option.some.inj h
                exact ⟨⟨[(B (false))], ⟨resOK_tmp (by kernel_rfl), trivial⟩, rfl⟩, (NLt.lit _), Nat.le_refl _, fun n hn => absurd hn (Nat.not_lt_zero n)⟩
              · replace h := bif_f hb32 h
                rcases Bool.eq_false_or_eq_true ((decide (x7.Vapour ≤ x7.Liquid))) with hb33 | hb33
                · replace h := bif_t hb33 h
                  refine awp_reg [⟨[((.tmp 4), (.ref 0 5 (0) 0))], [(0, (.own 5 [[(I (x7.T)), (I (x7.P)), (I (x7.Liquid)), (I (x7.Vapour)), (I (x7.Silica))]]))], (.ref 0 5 (0) 0), [], false⟩,
    ⟨[((.tmp 15), (.ref 0 5 (0) 0))], [(0, (.own 5 [[(I (x7.T)), (I (x7.P)), (I (x7.Liquid)), (I (x7.Vapour)), (I (x7.Silica))]]))], (I (x7.T)), [], false⟩,
    ⟨[((.func 31), (.fn (.func 31) [] [])), ((.tmp 16), (I (x7.T))), ((.const (.int .i64 0)), (I (0))), ((.const (.int .i64 400)), (I (400)))], [], (B (x22)), [], false⟩,
    ⟨[((.tmp 17), (B (x22)))], [], (B ((!x22))), [], false⟩,
    ⟨[((.tmp 18), (B ((!x22))))], [], (B (false)), [], false⟩,
    ⟨[((.tmp 19), (B (false))), ((.tmp 4), (.ref 0 5 (0) 0))], [(0, (.own 5 [[(I (x7.T)), (I (x7.P)), (I (x7.Liquid)), (I (x7.Vapour)), (I (x7.Silica))]]))], (.ref 0 5 (0) 1), [], false⟩,
    ⟨[((.tmp 19), (B (false))), ((.tmp 20), (.ref 0 5 (0) 1))], [(0, (.own 5 [[(I (x7.T)), (I (x7.P)), (I (x7.Liquid)), (I (x7.Vapour)), (I (x7.Silica))]]))], (I (x7.P)), [], false⟩,
    ⟨[((.tmp 19), (B (false))), ((.func 31), (.fn (.func 31) [] [])), ((.tmp 21), (I (x7.P))), ((.const (.int .i64 1)), (I (1))), ((.const (.int .i64 10000)), (I (10000)))], [], (B (x25)), [], false⟩,
    ⟨[((.tmp 19), (B (false))), ((.tmp 22), (B (x25)))], [], (B ((!x25))), [], false⟩,
    ⟨[((.tmp 19), (B (false))), ((.const (.bool true)), (B (true))), ((.tmp 23), (B ((!x25))))], [], (B ((!x25))), [], false⟩,
    ⟨[((.tmp 24), (B ((!x25))))], [], (B (false)), [], false⟩,
    ⟨[((.tmp 25), (B (false))), ((.tmp 4), (.ref 0 5 (0) 0))], [(0, (.own 5 [[(I (x7.T)), (I (x7.P)), (I (x7.Liquid)), (I (x7.Vapour)), (I (x7.Silica))]]))], (.ref 0 5 (0) 2), [], false⟩,
    ⟨[((.tmp 25), (B (false))), ((.tmp 26), (.ref 0 5 (0) 2))], [(0, (.own 5 [[(I (x7.T)), (I (x7.P)), (I (x7.Liquid)), (I (x7.Vapour)), (I (x7.Silica))]]))], (I (x7.Liquid)), [], false⟩,
    ⟨[((.tmp 25), (B (false))), ((.func 31), (.fn (.func 31) [] [])), ((.tmp 27), (I (x7.Liquid))), ((.const (.int .i64 0)), (I (0))), ((.const (.int .i64 4000)), (I (4000)))], [], (B (x28)), [], false⟩,
    ⟨[((.tmp 25), (B (false))), ((.tmp 28), (B (x28)))], [], (B ((!x28))), [], false⟩,
    ⟨[((.tmp 25), (B (false))), ((.const (.bool true)), (B (true))), ((.tmp 29), (B ((!x28))))], [], (B ((!x28))), [], false⟩,
    ⟨[((.tmp 30), (B ((!x28))))], [], (B (false)), [], false⟩,
    ⟨[((.tmp 31), (B (false))), ((.tmp 4), (.ref 0 5 (0) 0))], [(0, (.own 5 [[(I (x7.T)), (I (x7.P)), (I (x7.Liquid)), (I (x7.Vapour)), (I (x7.Silica))]]))], (.ref 0 5 (0) 4), [], false⟩,
    ⟨[((.tmp 31), (B (false))), ((.tmp 32), (.ref 0 5 (0) 4))], [(0, (.own 5 [[(I (x7.T)), (I (x7.P)), (I (x7.Liquid)), (I (x7.Vapour)), (I (x7.Silica))]]))], (I (x7.Silica)), [], false⟩,
    ⟨[((.tmp 31), (B (false))), ((.func 31), (.fn (.func 31) [] [])), ((.tmp 33), (I (x7.Silica))), ((.const (.int .i64 0)), (I (0))), ((.const (.int .i64 2000)), (I (2000)))], [], (B (x31)), [], false⟩,
    ⟨[((.tmp 31), (B (false))), ((.tmp 34), (B (x31)))], [], (B ((!x31))), [], false⟩,
    ⟨[((.tmp 31), (B (false))), ((.const (.bool true)), (B (true))), ((.tmp 35), (B ((!x31))))], [], (B ((!x31))), [], false⟩,
    ⟨[((.tmp 36), (B ((!x31))))], [], (B (false)), [], false⟩,
    ⟨[((.tmp 37), (B (false))), ((.tmp 4), (.ref 0 5 (0) 0))], [(0, (.own 5 [[(I (x7.T)), (I (x7.P)), (I (x7.Liquid)), (I (x7.Vapour)), (I (x7.Silica))]]))], (.ref 0 5 (0) 3), [], false⟩,
    ⟨[((.tmp 37), (B (false))), ((.tmp 38), (.ref 0 5 (0) 3))], [(0, (.own 5 [[(I (x7.T)), (I (x7.P)), (I (x7.Liquid)), (I (x7.Vapour)), (I (x7.Silica))]]))], (I (x7.Vapour)), [], false⟩,
    ⟨[((.tmp 37), (B (false))), ((.tmp 4), (.ref 0 5 (0) 0))], [(0, (.own 5 [[(I (x7.T)), (I (x7.P)), (I (x7.Liquid)), (I (x7.Vapour)), (I (x7.Silica))]]))], (.ref 0 5 (0) 2), [], false⟩,
    ⟨[((.tmp 37), (B (false))), ((.tmp 40), (.ref 0 5 (0) 2))], [(0, (.own 5 [[(I (x7.T)), (I (x7.P)), (I (x7.Liquid)), (I (x7.Vapour)), (I (x7.Silica))]]))], (I (x7.Liquid)), [], false⟩,
    ⟨[((.tmp 37), (B (false))), ((.tmp 39), (I (x7.Vapour))), ((.tmp 41), (I (x7.Liquid)))], [], (B ((decide (x7.Vapour ≤ x7.Liquid)))), [], false⟩,
    ⟨[((.tmp 37), (B (false))), ((.const (.bool true)), (B (true))), ((.tmp 42), (B ((decide (x7.Vapour ≤ x7.Liquid)))))], [], (B ((decide (x7.Vapour ≤ x7.Liquid)))), [], false⟩,
    ⟨[((.tmp 43), (B ((decide (x7.Vapour ≤ x7.Liquid)))))], [], (B (true)), [], false⟩,
    ⟨[((.tmp 44), (B (true)))], [], (.lit undef), [], true⟩,
    ⟨[((.tmp 44), (B (true)))], [], (.lit undef), [], true⟩,
    ⟨[((.tmp 44), (B (true)))], [], (.lit undef), [], true⟩,
    ⟨[((.tmp 44), (B (true))), ((.const (.bool true)), (B (true))), ((.tmp 47), (.lit undef))], [], (B (true)), [], false⟩] (by exact ⟨by kernel_rfl, by kernel_rfl⟩) ?_ ?_
                  · exact ⟨fun _ => astep_faddr rfl Try.underlying49 rfl rfl ti3 (by decide) rfl,
    fun _ => astep_load rfl ti3 (by decide) rfl (Nat.le_of_ble_eq_true rfl) rfl,
    fun _ => astep_pcall (first := []) (cap := []) (vs := [(I (x7.T)), (I (0)), (I (400))]) rfl enter31 (ref01_InX_ok N x7.T 0 400 _ hf21) rfl rfl (nl_cons (NLt.lit _) (nl_cons (NLt.lit _) (nl_cons (NLt.lit _) nl_nil))) (NLt.lit _) rfl,
    fun _ => astep_not rfl,
    fun _ => astep_b hb23 (astep_move rfl),
    fun _ => astep_guard (astep_faddr rfl Try.underlying49 rfl rfl ti3 (by decide) rfl),
    fun _ => astep_guard (astep_load rfl ti3 (by decide) rfl (Nat.le_of_ble_eq_true rfl) rfl),
    fun _ => astep_guard (astep_pcall (first := []) (cap := []) (vs := [(I (x7.P)), (I (1)), (I (10000))]) rfl enter31 (ref01_InX_ok N x7.P 1 10000 _ hf24) rfl rfl (nl_cons (NLt.lit _) (nl_cons (NLt.lit _) (nl_cons (NLt.lit _) nl_nil))) (NLt.lit _) rfl),
    fun _ => astep_guard (astep_not rfl),
    fun _ => astep_pick rfl rfl,
    fun _ => astep_b hb26 (astep_move rfl),
    fun _ => astep_guard (astep_faddr rfl Try.underlying49 rfl rfl ti3 (by decide) rfl),
    fun _ => astep_guard (astep_load rfl ti3 (by decide) rfl (Nat.le_of_ble_eq_true rfl) rfl),
    fun _ => astep_guard (astep_pcall (first := []) (cap := []) (vs := [(I (x7.Liquid)), (I (0)), (I (4000))]) rfl enter31 (ref01_InX_ok N x7.Liquid 0 4000 _ hf27) rfl rfl (nl_cons (NLt.lit _) (nl_cons (NLt.lit _) (nl_cons (NLt.lit _) nl_nil))) (NLt.lit _) rfl),
    fun _ => astep_guard (astep_not rfl),
    fun _ => astep_pick rfl rfl,
    fun _ => astep_b hb29 (astep_move rfl),
    fun _ => astep_guard (astep_faddr rfl Try.underlying49 rfl rfl ti3 (by decide) rfl),
    fun _ => astep_guard (astep_load rfl ti3 (by decide) rfl (Nat.le_of_ble_eq_true rfl) rfl),
    fun _ => astep_guard (astep_pcall (first := []) (cap := []) (vs := [(I (x7.Silica)), (I (0)), (I (2000))]) rfl enter31 (ref01_InX_ok N x7.Silica 0 2000 _ hf30) rfl rfl (nl_cons (NLt.lit _) (nl_cons (NLt.lit _) (nl_cons (NLt.lit _) nl_nil))) (NLt.lit _) rfl),
    fun _ => astep_guard (astep_not rfl),
    fun _ => astep_pick rfl rfl,
    fun _ => astep_b hb32 (astep_move rfl),
    fun _ => astep_guard (astep_faddr rfl Try.underlying49 rfl rfl ti3 (by decide) rfl),
    fun _ => astep_guard (astep_load rfl ti3 (by decide) rfl (Nat.le_of_ble_eq_true rfl) rfl),
    fun _ => astep_guard (astep_faddr rfl Try.underlying49 rfl rfl ti3 (by decide) rfl),
    fun _ => astep_guard (astep_load rfl ti3 (by decide) rfl (Nat.le_of_ble_eq_true rfl) rfl),
    fun _ => astep_guard (astep_bin rfl rfl),
    fun _ => astep_pick rfl rfl,
    fun _ => astep_b hb33 (astep_move rfl),
    fun hs => (Bool.noConfusion hs),
    fun hs => (Bool.noConfusion hs),
    fun hs => (Bool.noConfusion hs),
    fun _ => astep_pick rfl rfl, trivial⟩
                  refine awp_true (by kernel_rfl) ?_
                  refine awp_reg [⟨[((.const (.bool false)), (B (false)))], [], (B (false)), [], false⟩] (by exact ⟨by kernel_rfl, by kernel_rfl⟩) ?_ ?_
                  · exact ⟨fun _ => astep_assign rfl, trivial⟩
                  refine awp_ret ?_
                  refine thenA_r ?_
                  refine blockA_r ?_
                  refine thenA_r ?_
                  refine thenA_r ?_
                  refine blockA_r ?_
                  refine thenA_r ?_
                  obtain rfl := Option.some.inj h
                  exact ⟨⟨[(B (false))], ⟨resOK_tmp (by kernel_rfl), trivial⟩, rfl⟩, (NLt.lit _), Nat.le_refl _, fun n hn => absurd hn (Nat.not_lt_zero n)⟩
                · replace h := bif_f hb33 h
                  refine awp_reg [⟨[((.tmp 4), (.ref 0 5 (0) 0))], [(0, (.own 5 [[(I (x7.T)), (I (x7.P)), (I (x7.Liquid)), (I (x7.Vapour)), (I (x7.Silica))]]))], (.ref 0 5 (0) 0), [], false⟩,
    ⟨[((.tmp 15), (.ref 0 5 (0) 0))], [(0, (.own 5 [[(I (x7.T)), (I (x7.P)), (I (x7.Liquid)), (I (x7.Vapour)), (I (x7.Silica))]]))], (I (x7.T)), [], false⟩,
    ⟨[((.func 31), (.fn (.func 31) [] [])), ((.tmp 16), (I (x7.T))), ((.const (.int .i64 0)), (I (0))), ((.const (.int .i64 400)), (I (400)))], [], (B (x22)), [], false⟩,
    ⟨[((.tmp 17), (B (x22)))], [], (B ((!x22))), [], false⟩,
    ⟨[((.tmp 18), (B ((!x22))))], [], (B (false)), [], false⟩,
    ⟨[((.tmp 19), (B (false))), ((.tmp 4), (.ref 0 5 (0) 0))], [(0, (.own 5 [[(I (x7.T)), (I (x7.P)), (I (x7.Liquid)), (I (x7.Vapour)), (I (x7.Silica))]]))], (.ref 0 5 (0) 1), [], false⟩,
    ⟨[((.tmp 19), (B (false))), ((.tmp 20), (.ref 0 5 (0) 1))], [(0, (.own 5 [[(I (x7.T)), (I (x7.P)), (I (x7.Liquid)), (I (x7.Vapour)), (I (x7.Silica))]]))], (I (x7.P)), [], false⟩,
    ⟨[((.tmp 19), (B (false))), ((.func 31), (.fn (.func 31) [] [])), ((.tmp 21), (I (x7.P))), ((.const (.int .i64 1)), (I (1))), ((.const (.int .i64 10000)), (I (10000)))], [], (B (x25)), [], false⟩,
    ⟨[((.tmp 19), (B (false))), ((.tmp 22), (B (x25)))], [], (B ((!x25))), [], false⟩,
    ⟨[((.tmp 19), (B (false))), ((.const (.bool true)), (B (true))), ((.tmp 23), (B ((!x25))))], [], (B ((!x25))), [], false⟩,
    ⟨[((.tmp 24), (B ((!x25))))], [], (B (false)), [], false⟩,
    ⟨[((.tmp 25), (B (false))), ((.tmp 4), (.ref 0 5 (0) 0))], [(0, (.own 5 [[(I (x7.T)), (I (x7.P)), (I (x7.Liquid)), (I (x7.Vapour)), (I (x7.Silica))]]))], (.ref 0 5 (0) 2), [], false⟩,
    ⟨[((.tmp 25), (B (false))), ((.tmp 26), (.ref 0 5 (0) 2))], [(0, (.own 5 [[(I (x7.T)), (I (x7.P)), (I (x7.Liquid)), (I (x7.Vapour)), (I (x7.Silica))]]))], (I (x7.Liquid)), [], false⟩,
    ⟨[((.tmp 25), (B (false))), ((.func 31), (.fn (.func 31) [] [])), ((.tmp 27), (I (x7.Liquid))), ((.const (.int .i64 0)), (I (0))), ((.const (.int .i64 4000)), (I (4000)))], [], (B (x28)), [], false⟩,
    ⟨[((.tmp 25), (B (false))), ((.tmp 28), (B (x28)))], [], (B ((!x28))), [], false⟩,
    ⟨[((.tmp 25), (B (false))), ((.const (.bool true)), (B (true))), ((.tmp 29), (B ((!x28))))], [], (B ((!x28))), [], false⟩,
    ⟨[((.tmp 30), (B ((!x28))))], [], (B (false)), [], false⟩,
    ⟨[((.tmp 31), (B (false))), ((.tmp 4), (.ref 0 5 (0) 0))], [(0, (.own 5 [[(I (x7.T)), (I (x7.P)), (I (x7.Liquid)), (I (x7.Vapour)), (I (x7.Silica))]]))], (.ref 0 5 (0) 4), [], false⟩,
    ⟨[((.tmp 31), (B (false))), ((.tmp 32), (.ref 0 5 (0) 4))], [(0, (.own 5 [[(I (x7.T)), (I (x7.P)), (I (x7.Liquid)), (I (x7.Vapour)), (I (x7.Silica))]]))], (I (x7.Silica)), [], false⟩,
    ⟨[((.tmp 31), (B (false))), ((.func 31), (.fn (.func 31) [] [])), ((.tmp 33), (I (x7.Silica))), ((.const (.int .i64 0)), (I (0))), ((.const (.int .i64 2000)), (I (2000)))], [], (B (x31)), [], false⟩,
    ⟨[((.tmp 31), (B (false))), ((.tmp 34), (B (x31)))], [], (B ((!x31))), [], false⟩,
    ⟨[((.tmp 31), (B (false))), ((.const (.bool true)), (B (true))), ((.tmp 35), (B ((!x31))))], [], (B ((!x31))), [], false⟩,
    ⟨[((.tmp 36), (B ((!x31))))], [], (B (false)), [], false⟩,
    ⟨[((.tmp 37), (B (false))), ((.tmp 4), (.ref 0 5 (0) 0))], [(0, (.own 5 [[(I (x7.T)), (I (x7.P)), (I (x7.Liquid)), (I (x7.Vapour)), (I (x7.Silica))]]))], (.ref 0 5 (0) 3), [], false⟩,
    ⟨[((.tmp 37), (B (false))), ((.tmp 38), (.ref 0 5 (0) 3))], [(0, (.own 5 [[(I (x7.T)), (I (x7.P)), (I (x7.Liquid)), (I (x7.Vapour)), (I (x7.Silica))]]))], (I (x7.Vapour)), [], false⟩,
    ⟨[((.tmp 37), (B (false))), ((.tmp 4), (.ref 0 5 (0) 0))], [(0, (.own 5 [[(I (x7.T)), (I (x7.P)), (I (x7.Liquid)), (I (x7.Vapour)), (I (x7.Silica))]]))], (.ref 0 5 (0) 2), [], false⟩,
    ⟨[((.tmp 37), (B (false))), ((.tmp 40), (.ref 0 5 (0) 2))], [(0, (.own 5 [[(I (x7.T)), (I (x7.P)), (I (x7.Liquid)), (I (x7.Vapour)), (I (x7.Silica))]]))], (I (x7.Liquid)), [], false⟩,
    ⟨[((.tmp 37), (B (false))), ((.tmp 39), (I (x7.Vapour))), ((.tmp 41), (I (x7.Liquid)))], [], (B ((decide (x7.Vapour ≤ x7.Liquid)))), [], false⟩,
    ⟨[((.tmp 37), (B (false))), ((.const (.bool true)), (B (true))), ((.tmp 42), (B ((decide (x7.Vapour ≤ x7.Liquid)))))], [], (B ((decide (x7.Vapour ≤ x7.Liquid)))), [], false⟩,
    ⟨[((.tmp 43), (B ((decide (x7.Vapour ≤ x7.Liquid)))))], [], (B (false)), [], false⟩,
    ⟨[((.tmp 44), (B (false))), ((.tmp 4), (.ref 0 5 (0) 0))], [(0, (.own 5 [[(I (x7.T)), (I (x7.P)), (I (x7.Liquid)), (I (x7.Vapour)), (I (x7.Silica))]]))], (.ref 0 5 (0) 3), [], false⟩,
    ⟨[((.tmp 44), (B (false))), ((.tmp 45), (.ref 0 5 (0) 3))], [(0, (.own 5 [[(I (x7.T)), (I (x7.P)), (I (x7.Liquid)), (I (x7.Vapour)), (I (x7.Silica))]]))], (I (x7.Vapour)), [], false⟩,
    ⟨[((.tmp 44), (B (false))), ((.tmp 46), (I (x7.Vapour))), ((.const (.int .i64 4000)), (I (4000)))], [], (B ((decide (x7.Vapour > 4000)))), [], false⟩,
    ⟨[((.tmp 44), (B (false))), ((.const (.bool true)), (B (true))), ((.tmp 47), (B ((decide (x7.Vapour > 4000)))))], [], (B ((decide (x7.Vapour > 4000)))), [], false⟩] (by exact ⟨by kernel_rfl, by kernel_rfl⟩) ?_ ?_
                  · exact ⟨fun _ => astep_faddr rfl Try.underlying49 rfl rfl ti3 (by decide) rfl,
    fun _ => astep_load rfl ti3 (by decide) rfl (Nat.le_of_ble_eq_true rfl) rfl,
    fun _ => astep_pcall (first := []) (cap := []) (vs := [(I (x7.T)), (I (0)), (I (400))]) rfl enter31 (ref01_InX_ok N x7.T 0 400 _ hf21) rfl rfl (nl_cons (NLt.lit _) (nl_cons (NLt.lit _) (nl_cons (NLt.lit _) nl_nil))) (NLt.lit _) rfl,
    fun _ => astep_not rfl,
    fun _ => astep_b hb23 (astep_move rfl),
    fun _ => astep_guard (astep_faddr rfl Try.underlying49 rfl rfl ti3 (by decide) rfl),
    fun _ => astep_guard (astep_load rfl ti3 (by decide) rfl (Nat.le_of_ble_eq_true rfl) rfl),
    fun _ => astep_guard (astep_pcall (first := []) (cap := []) (vs := [(I (x7.P)), (I (1)), (I (10000))]) rfl enter31 (ref01_InX_ok N x7.P 1 10000 _ hf24) rfl rfl (nl_cons (NLt.lit _) (nl_cons (NLt.lit _) (nl_cons (NLt.lit _) nl_nil))) (NLt.lit _) rfl),
    fun _ => astep_guard (astep_not rfl),
    fun _ => astep_pick rfl rfl,
    fun _ => astep_b hb26 (astep_move rfl),
    fun _ => astep_guard (astep_faddr rfl Try.underlying49 rfl rfl ti3 (by decide) rfl),
    fun _ => astep_guard (astep_load rfl ti3 (by decide) rfl (Nat.le_of_ble_eq_true rfl) rfl),
    fun _ => astep_guard (astep_pcall (first := []) (cap := []) (vs := [(I (x7.Liquid)), (I (0)), (I (4000))]) rfl enter31 (ref01_InX_ok N x7.Liquid 0 4000 _ hf27) rfl rfl (nl_cons (NLt.lit _) (nl_cons (NLt.lit _) (nl_cons (NLt.lit _) nl_nil))) (NLt.lit _) rfl),
    fun _ => astep_guard (astep_not rfl),
    fun _ => astep_pick rfl rfl,
    fun _ => astep_b hb29 (astep_move rfl),
    fun _ => astep_guard (astep_faddr rfl Try.underlying49 rfl rfl ti3 (by decide) rfl),
    fun _ => astep_guard (astep_load rfl ti3 (by decide) rfl (Nat.le_of_ble_eq_true rfl) rfl),
    fun _ => astep_guard (astep_pcall (first := []) (cap := []) (vs := [(I (x7.Silica)), (I (0)), (I (2000))]) rfl enter31 (ref01_InX_ok N x7.Silica 0 2000 _ hf30) rfl rfl (nl_cons (NLt.lit _) (nl_cons (NLt.lit _) (nl_cons (NLt.lit _) nl_nil))) (NLt.lit _) rfl),
    fun _ => astep_guard (astep_not rfl),
    fun _ => astep_pick rfl rfl,
    fun _ => astep_b hb32 (astep_move rfl),
    fun _ => astep_guard (astep_faddr rfl Try.underlying49 rfl rfl ti3 (by decide) rfl),
    fun _ => astep_guard (astep_load rfl ti3 (by decide) rfl (Nat.le_of_ble_eq_true rfl) rfl),
    fun _ => astep_guard (astep_faddr rfl Try.underlying49 rfl rfl ti3 (by decide) rfl),
    fun _ => astep_guard (astep_load rfl ti3 (by decide) rfl (Nat.le_of_ble_eq_true rfl) rfl),
    fun _ => astep_guard (astep_bin rfl rfl),
    fun _ => astep_pick rfl rfl,
    fun _ => astep_b hb33 (astep_move rfl),
    fun _ => astep_guard (astep_faddr rfl Try.underlying49 rfl rfl ti3 (by decide) rfl),
    fun _ => astep_guard (astep_load rfl ti3 (by decide) rfl (Nat.le_of_ble_eq_true rfl) rfl),
    fun _ => astep_guard (astep_bin rfl rfl),
    fun _ => astep_pick rfl rfl, trivial⟩
                  rcases Bool.eq_false_or_eq_true ((decide (x7.Vapour > 4000))) with hc34 | hc34
                  · replace h := bif_t hc34 h
                    refine awp_ift hc34 (by kernel_rfl) ?_
                    refine awp_reg [⟨[((.const (.bool false)), (B (false)))], [], (B (false)), [], false⟩] (by exact ⟨by kernel_rfl, by kernel_rfl⟩) ?_ ?_
                    · exact ⟨fun _ => astep_assign rfl, trivial⟩
                    refine awp_ret ?_
                    refine thenA_r ?_
                    refine blockA_r ?_
                    refine thenA_r ?_
                    refine thenA_r ?_
                    refine blockA_r ?_
                    refine thenA_r ?_
                    obtain rfl := Option.some.inj h
                    exact ⟨⟨[(B (false))], ⟨resOK_tmp (by kernel_rfl), trivial⟩, rfl⟩, (NLt.lit _), Nat.le_refl _, fun n hn => absurd hn (Nat.not_lt_zero n)⟩
                  · replace h := bif_f hc34 h
                    refine awp_ifn hc34 (by kernel_rfl) ?_
                    refine awp_skip ?_
                    refine thenA_n ?_
                    exact ⟨(), h, (mor_to (n := 103) (l' := [(0, (.dat 5 ((p0 : List GRow).map c_GRow))), (3, (I (y3))), (4, (.ref 0 5 (0) 0))]) (own' := [(.own 5 [[(I (x7.T)), (I (x7.P)), (I (x7.Liquid)), (I (x7.Vapour)), (I (x7.Silica))]])]) [(0, (.dat 5 ((p0 : List GRow).map c_GRow))), (3, (I (y3))), (4, (.ref 0 5 (0) 0))] [0] [(.own 5 [[(I (x7.T)), (I (x7.P)), (I (x7.Liquid)), (I (x7.Vapour)), (I (x7.Silica))]])] hφ0 (by kernel_rfl) (by kernel_rfl) (by kernel_rfl) ⟨rfl, .rn (.plain _ (nl_dat nl_GRow _)), rfl, .rn (.plain _ (NLt.lit _)), rfl, .rn (rnq_ref rfl), trivial⟩ ⟨(spw_box ⟨(.rn (.plain _ (NLt.lit _))), (.rn (.plain _ (NLt.lit _))), (.rn (.plain _ (NLt.lit _))), (.rn (.plain _ (NLt.lit _))), (.rn (.plain _ (NLt.lit _))), trivial⟩), trivial⟩)⟩
    · replace h := bif_f hc6 h
      refine awp_ifn hc6 (by kernel_rfl) ?_
      refine awp_exit ?_
      refine thenA_x ?_
      refine thenA_x ?_
      refine blockA_e rfl ?_
      refine thenA_n ?_
      exact ⟨(), h, (mor_to (n := 103) (l' := [(0, (.dat 5 ((p0 : List GRow).map c_GRow)))]) (own' := []) [(0, (.dat 5 ((p0 : List GRow).map c_GRow)))] [] [] hφ0 (by kernel_rfl) (by kernel_rfl) (by kernel_rfl) ⟨rfl, .rn (.plain _ (nl_dat nl_GRow _)), trivial⟩ trivial)⟩

def steam_CheckTableX (N : Nat) (p0 : (List GRow)) : Option Int :=
  (steam_Table_validX N p0).bind fun x2 =>
  bif (!x2) then
    some 1
  else
    some 0
set_option maxRecDepth 100000 in
set_option maxHeartbeats 4000000 in
theorem steam_CheckTableX_ok (N : Nat) (p0 : (List GRow)) (r : Int) (h : steam_CheckTableX N p0 = some r) : Spec Try.prog 46 [(.dat 5 (p0.map c_GRow))] [] (I r) [] := by
  refine spec_of_awp Try.func46 rfl 0 (Nat.le_of_ble_eq_true rfl) (fun X φ0 w0 hφ0 => ?_)
  unfold steam_CheckTableX at h
  refine awp_reg [⟨[((.const (.int .i64 0)), (I (0)))], [], (I (0)), [], false⟩] (by exact ⟨by kernel_rfl, by kernel_rfl⟩) ?_ ?_
  · exact ⟨fun _ => astep_assign rfl, trivial⟩
  refine awp_seq ?_
  obtain ⟨x2, hf1, h⟩ := bind_out h
  refine awp_reg [⟨[((.tmp 0), (.dat 5 ((p0 : List GRow).map c_GRow)))], [], (.dat 5 ((p0 : List GRow).map c_GRow)), [], false⟩,
    ⟨[((.func 56), (.fn (.func 56) [] [])), ((.tmp 3), (.dat 5 ((p0 : List GRow).map c_GRow)))], [], (B (x2)), [], false⟩,
    ⟨[((.tmp 4), (B (x2)))], [], (B ((!x2))), [], false⟩] (by exact ⟨by kernel_rfl, by kernel_rfl⟩) ?_ ?_
  · exact ⟨fun _ => astep_move rfl,
    fun _ => astep_pcall (first := []) (cap := []) (vs := [(.dat 5 ((p0 : List GRow).map c_GRow))]) rfl enter56 (steam_Table_validX_ok N p0 _ hf1) rfl rfl (nl_cons (nl_dat nl_GRow _) nl_nil) (NLt.lit _) rfl,
    fun _ => astep_not rfl, trivial⟩
  rcases Bool.eq_false_or_eq_true ((!x2)) with hc3 | hc3
  · replace h := bif_t hc3 h
    refine awp_ift hc3 (by kernel_rfl) ?_
    refine awp_reg [⟨[((.const (.int .i64 1)), (I (1)))], [], (I (1)), [], false⟩] (by exact ⟨by kernel_rfl, by kernel_rfl⟩) ?_ ?_
    · exact ⟨fun _ => astep_assign rfl, trivial⟩
    refine awp_ret ?_
    refine thenA_r ?_
    obtain rfl := Option.some.inj h
    exact ⟨⟨[(I (1))], ⟨resOK_tmp (by kernel_rfl), trivial⟩, rfl⟩, (NLt.lit _), Nat.le_refl _, fun n hn => absurd hn (Nat.not_lt_zero n)⟩
  · replace h := bif_f hc3 h
    refine awp_ifn hc3 (by kernel_rfl) ?_
    refine awp_skip ?_
    refine thenA_n ?_
    refine awp_reg [⟨[((.const (.int .i64 0)), (I (0)))], [], (I (0)), [], false⟩] (by exact ⟨by kernel_rfl, by kernel_rfl⟩) ?_ ?_
    · exact ⟨fun _ => astep_assign rfl, trivial⟩
    refine awp_ret ?_
    obtain rfl := Option.some.inj h
    exact ⟨⟨[(I (0))], ⟨resOK_tmp (by kernel_rfl), trivial⟩, rfl⟩, (NLt.lit _), Nat.le_refl _, fun n hn => absurd hn (Nat.not_lt_zero n)⟩

def ref01_AtX_loop1 (N : Nat) (p0 : (List GRow)) (p1 : Int) (k2 : Int → Option Int) : Nat → Int → Int → Option Int
  | 0, _, _ => none
  | n7 + 1, y3, y4 =>
    bif (decide (y4 < (p0.length : Int))) then
      (getI p0 y4).bind fun x9 =>
      bif (decide (x9.P ≤ p1)) then
        ref01_AtX_loop1 N p0 p1 k2 n7 y4 (w64 (y4 + 1))
      else
        ref01_AtX_loop1 N p0 p1 k2 n7 y3 (w64 (y4 + 1))
    else
      k2 (y3)
def ref01_AtX (N : Nat) (p0 : (List GRow)) (p1 : Int) : Option Int :=
  joinK (fun y1 =>
      some y1) fun k2 : Int → Option Int =>
  ref01_AtX_loop1 N p0 p1 k2 N (-1) 0
set_option maxRecDepth 100000 in
set_option maxHeartbeats 4000000 in
theorem ref01_AtX_ok (N : Nat) (p0 : (List GRow)) (p1 : Int) (r : Int) (h : ref01_AtX N p0 p1 = some r) : Spec Try.prog 47 [(.dat 5 (p0.map c_GRow)), (I p1)] [] (I r) [] := by
  refine spec_of_awp Try.func47 rfl 0 (Nat.le_of_ble_eq_true rfl) (fun X φ0 w0 hφ0 => ?_)
  unfold ref01_AtX at h
  refine awp_reg [⟨[((.const (.int .i64 0)), (I (0)))], [], (I (0)), [], false⟩] (by exact ⟨by kernel_rfl, by kernel_rfl⟩) ?_ ?_
  · exact ⟨fun _ => astep_assign rfl, trivial⟩
  refine awp_reg [⟨[((.const (.int .i64 (-1))), (I ((-1))))], [], (I ((-1))), [], false⟩] (by exact ⟨by kernel_rfl, by kernel_rfl⟩) ?_ ?_
  · exact ⟨fun _ => astep_assign rfl, trivial⟩
  obtain ⟨k2, hk_k2, h⟩ := joinK_out h
  refine awp_join (τ := Int) (fun t => k2 t = some r) (fun y1 => ⟨mk 22 [(5, (I (y1)))], []⟩) (fun y1 h => ?_) ?_
  · subst hk_k2
    refine awp_reg [⟨[((.tmp 5), (I (y1)))], [], (I (y1)), [], false⟩,
    ⟨[((.tmp 21), (I (y1)))], [], (I (y1)), [], false⟩] (by exact ⟨by kernel_rfl, by kernel_rfl⟩) ?_ ?_
    · exact ⟨fun _ => astep_move rfl,
    fun _ => astep_assign rfl, trivial⟩
    refine awp_ret ?_
    obtain rfl := Option.some.inj h
    exact ⟨⟨[(I (y1))], ⟨resOK_tmp (by kernel_rfl), trivial⟩, rfl⟩, (NLt.lit _), Nat.le_refl _, fun n hn => absurd hn (Nat.not_lt_zero n)⟩
  · skip
    refine awp_reg [⟨[((.const (.int .i64 0)), (I (0)))], [], (I (0)), [], false⟩] (by exact ⟨by kernel_rfl, by kernel_rfl⟩) ?_ ?_
    · exact ⟨fun _ => astep_assign rfl, trivial⟩
    refine awp_block ?_
    refine awp_mor (mor_to (n := 22) (l' := [(0, (.dat 5 ((p0 : List GRow).map c_GRow))), (1, (I (p1))), (5, (I ((-1)))), (6, (I (0)))]) (own' := []) [(0, (.dat 5 ((p0 : List GRow).map c_GRow))), (1, (I (p1))), (5, (I ((-1)))), (6, (I (0)))] [] [] hφ0 (by kernel_rfl) (by kernel_rfl) (by kernel_rfl) ⟨rfl, .rn (.plain _ (nl_dat nl_GRow _)), rfl, .rn (.plain _ (NLt.lit _)), rfl, .rn (.plain _ (NLt.lit _)), rfl, .rn (.plain _ (NLt.lit _)), trivial⟩ trivial) ?_
    refine awp_ind (τ := Int × Int) (fun n t => ref01_AtX_loop1 N p0 p1 k2 n t.1 t.2 = some r) (fun ⟨y3, y4⟩ => ⟨mk 22 [(0, (.dat 5 ((p0 : List GRow).map c_GRow))), (1, (I (p1))), (5, (I (y3))), (6, (I (y4)))], []⟩) (fun t h => by rw [ref01_AtX_loop1] at h; cases h) (fun n7 ih t h => ?_) N ((-1), 0) h
    obtain ⟨y3, y4⟩ := t
    rw [ref01_AtX_loop1] at h
    skip
    refine awp_seq ?_
    refine awp_reg [⟨[((.tmp 6), (I (y4)))], [], (I (y4)), [], false⟩,
    ⟨[((.tmp 0), (.dat 5 ((p0 : List GRow).map c_GRow)))], [], (.dat 5 ((p0 : List GRow).map c_GRow)), [], false⟩,
    ⟨[((.tmp 8), (.dat 5 ((p0 : List GRow).map c_GRow)))], [], (I ((p0.length : Int))), [], false⟩,
    ⟨[((.tmp 7), (I (y4))), ((.tmp 9), (I ((p0.length : Int))))], [], (B ((decide (y4 < (p0.length : Int))))), [], false⟩] (by exact ⟨by kernel_rfl, by kernel_rfl⟩) ?_ ?_
    · exact ⟨fun _ => astep_move rfl,
    fun _ => astep_move rfl,
    fun _ => astep_lenm (c := c_GRow) (l := p0) (astep_len rfl Try.underlying23 rfl),
    fun _ => astep_bin rfl rfl, trivial⟩
    rcases Bool.eq_false_or_eq_true ((decide (y4 < (p0.length : Int)))) with hc8 | hc8
    · replace h := bif_t hc8 h
      refine awp_ift hc8 (by kernel_rfl) ?_
      refine awp_skip ?_
      refine thenA_n ?_
      refine awp_seq ?_
      refine awp_block ?_
      obtain ⟨x9, hg10, h⟩ := bind_out h
      obtain ⟨hi11, hj12⟩ := getI_some hg10
      refine awp_reg [⟨[((.tmp 0), (.dat 5 ((p0 : List GRow).map c_GRow)))], [], (.dat 5 ((p0 : List GRow).map c_GRow)), [], false⟩,
    ⟨[((.tmp 6), (I (y4)))], [], (I (y4)), [], false⟩,
    ⟨[((.tmp 13), (.dat 5 ((p0 : List GRow).map c_GRow))), ((.tmp 14), (I (y4)))], [], (.dptr (c_GRow (x9)) 0), [], false⟩,
    ⟨[((.tmp 15), (.dptr (c_GRow (x9)) 0))], [], (.dptr (c_GRow (x9)) 1), [], false⟩,
    ⟨[((.tmp 16), (.dptr (c_GRow (x9)) 1))], [], (I (x9.P)), [], false⟩,
    ⟨[((.tmp 1), (I (p1)))], [], (I (p1)), [], false⟩,
    ⟨[((.tmp 17), (I (x9.P))), ((.tmp 18), (I (p1)))], [], (B ((decide (x9.P ≤ p1)))), [], false⟩] (by exact ⟨by kernel_rfl, by kernel_rfl⟩) ?_ ?_
      · exact ⟨fun _ => astep_move rfl,
    fun _ => astep_move rfl,
    fun _ => astep_idxd rfl Try.underlying23 ti49 rfl rfl hi11 (map_get c_GRow hj12) rfl,
    fun _ => astep_faddrd rfl Try.underlying49 rfl rfl ti3 (by decide) rfl,
    fun _ => astep_loadd rfl ti3 (by decide) (Nat.le_of_ble_eq_true rfl) rfl,
    fun _ => astep_move rfl,
    fun _ => astep_bin rfl rfl, trivial⟩
      rcases Bool.eq_false_or_eq_true ((decide (x9.P ≤ p1))) with hc13 | hc13
      · replace h := bif_t hc13 h
        refine awp_ift hc13 (by kernel_rfl) ?_
        refine awp_reg1 [⟨[((.tmp 6), (I (y4)))], [], (I (y4)), [], false⟩,
    ⟨[((.tmp 20), (I (y4)))], [], (I (y4)), [], false⟩] (by exact ⟨by kernel_rfl, by kernel_rfl⟩) ?_ ?_
        · exact ⟨fun _ => astep_move rfl,
    fun _ => astep_assign rfl, trivial⟩
        refine blockA_n ?_
        refine thenA_n ?_
        refine awp_reg1 [⟨[((.tmp 6), (I (y4)))], [], (I (y4)), [], false⟩,
    ⟨[((.tmp 11), (I (y4))), ((.const (.int .i64 1)), (I (1)))], [], (I (w64 (y4 + 1))), [], false⟩,
    ⟨[((.tmp 12), (I (w64 (y4 + 1))))], [], (I (w64 (y4 + 1))), [], false⟩] (by exact ⟨by kernel_rfl, by kernel_rfl⟩) ?_ ?_
        · exact ⟨fun _ => astep_move rfl,
    fun _ => astep_bin rfl rfl,
    fun _ => astep_assign rfl, trivial⟩
        refine thenA_n ?_
        exact around_mor (mor_to (n := 22) (l' := [(0, (.dat 5 ((p0 : List GRow).map c_GRow))), (1, (I (p1))), (5, (I (y4))), (6, (I ((w64 (y4 + 1)))))]) (own' := []) [(0, (.dat 5 ((p0 : List GRow).map c_GRow))), (1, (I (p1))), (5, (I (y4))), (6, (I (w64 (y4 + 1))))] [] [] hφ0 (by kernel_rfl) (by kernel_rfl) (by kernel_rfl) ⟨rfl, .rn (.plain _ (nl_dat nl_GRow _)), rfl, .rn (.plain _ (NLt.lit _)), rfl, .rn (.plain _ (NLt.lit _)), rfl, .rn (.plain _ (NLt.lit _)), trivial⟩ trivial) (ih (y4, w64 (y4 + 1)) h)
      · replace h := bif_f hc13 h
        refine awp_ifn hc13 (by kernel_rfl) ?_
        refine awp_skip ?_
        refine blockA_n ?_
        refine thenA_n ?_
        refine awp_reg1 [⟨[((.tmp 6), (I (y4)))], [], (I (y4)), [], false⟩,
    ⟨[((.tmp 11), (I (y4))), ((.const (.int .i64 1)), (I (1)))], [], (I (w64 (y4 + 1))), [], false⟩,
    ⟨[((.tmp 12), (I (w64 (y4 + 1))))], [], (I (w64 (y4 + 1))), [], false⟩] (by exact ⟨by kernel_rfl, by kernel_rfl⟩) ?_ ?_
        · exact ⟨fun _ => astep_move rfl,
    fun _ => astep_bin rfl rfl,
    fun _ => astep_assign rfl, trivial⟩
        refine thenA_n ?_
        exact around_mor (mor_to (n := 22) (l' := [(0, (.dat 5 ((p0 : List GRow).map c_GRow))), (1, (I (p1))), (5, (I (y3))), (6, (I ((w64 (y4 + 1)))))]) (own' := []) [(0, (.dat 5 ((p0 : List GRow).map c_GRow))), (1, (I (p1))), (5, (I (y3))), (6, (I (w64 (y4 + 1))))] [] [] hφ0 (by kernel_rfl) (by kernel_rfl) (by kernel_rfl) ⟨rfl, .rn (.plain _ (nl_dat nl_GRow _)), rfl, .rn (.plain _ (NLt.lit _)), rfl, .rn (.plain _ (NLt.lit _)), rfl, .rn (.plain _ (NLt.lit _)), trivial⟩ trivial) (ih (y3, w64 (y4 + 1)) h)
    · replace h := bif_f hc8 h
      refine awp_ifn hc8 (by kernel_rfl) ?_
      refine awp_exit ?_
      refine thenA_x ?_
      refine thenA_x ?_
      refine blockA_e rfl ?_
      refine thenA_n ?_
      exact ⟨(y3), h, (mor_to (n := 22) (l' := [(5, (I (y3)))]) (own' := []) [(5, (I (y3)))] [] [] hφ0 (by kernel_rfl) (by kernel_rfl) (by kernel_rfl) ⟨rfl, .rn (.plain _ (NLt.lit _)), trivial⟩ trivial)⟩

def ref01_GcdX_loop1 (N : Nat) (k6 : Int → Option Int) : Nat → Int → Int → Option Int
  | 0, _, _ => none
  | n11 + 1, y7, y8 =>
    bif (decide (y8 > 0)) then
      chk (y8 != 0) <|
      ref01_GcdX_loop1 N k6 n11 y8 (y7.tmod y8)
    else
      k6 (y7)
def ref01_GcdX (N : Nat) (p0 : Int) (p1 : Int) : Option Int :=
  (some (if (w64 (0 - p0)) > p0 then w64 (0 - p0) else p0)).bind fun x1 =>
  (some (if (w64 (0 - p1)) > p1 then w64 (0 - p1) else p1)).bind fun x3 =>
  joinK (fun y5 =>
      some y5) fun k6 : Int → Option Int =>
  ref01_GcdX_loop1 N k6 N x1 x3
set_option maxRecDepth 100000 in
set_option maxHeartbeats 4000000 in
theorem ref01_GcdX_ok (N : Nat) (p0 : Int) (p1 : Int) (r : Int) (h : ref01_GcdX N p0 p1 = some r) : Spec Try.prog 43 [(I p0), (I p1)] [] (I r) [] := by
  refine spec_of_awp Try.func43 rfl 0 (Nat.le_of_ble_eq_true rfl) (fun X φ0 w0 hφ0 => ?_)
  unfold ref01_GcdX at h
  refine awp_reg [⟨[((.const (.int .i64 0)), (I (0)))], [], (I (0)), [], false⟩] (by exact ⟨by kernel_rfl, by kernel_rfl⟩) ?_ ?_
  · exact ⟨fun _ => astep_assign rfl, trivial⟩
  obtain ⟨x1, hl2, h⟩ := bind_out h
  obtain ⟨x3, hl4, h⟩ := bind_out h
  refine awp_reg [⟨[((.tmp 0), (I (p0)))], [], (I (p0)), [], false⟩,
    ⟨[((.tmp 0), (I (p0)))], [], (I (p0)), [], false⟩,
    ⟨[((.tmp 6), (I (p0)))], [], (I (w64 (0 - p0))), [], false⟩,
    ⟨[((.tmp 5), (I (p0))), ((.tmp 7), (I (w64 (0 - p0))))], [], (I ((if (w64 (0 - p0)) > p0 then w64 (0 - p0) else p0))), [], false⟩,
    ⟨[((.tmp 1), (I (p1)))], [], (I (p1)), [], false⟩,
    ⟨[((.tmp 1), (I (p1)))], [], (I (p1)), [], false⟩,
    ⟨[((.tmp 10), (I (p1)))], [], (I (w64 (0 - p1))), [], false⟩,
    ⟨[((.tmp 9), (I (p1))), ((.tmp 11), (I (w64 (0 - p1))))], [], (I ((if (w64 (0 - p1)) > p1 then w64 (0 - p1) else p1))), [], false⟩,
    ⟨[((.tmp 8), (I ((if (w64 (0 - p0)) > p0 then w64 (0 - p0) else p0))))], [], (I (x1)), [], false⟩,
    ⟨[((.tmp 12), (I ((if (w64 (0 - p1)) > p1 then w64 (0 - p1) else p1))))], [], (I (x3)), [], false⟩] (by exact ⟨by kernel_rfl, by kernel_rfl⟩) ?_ ?_
  · exact ⟨fun _ => astep_move rfl,
    fun _ => astep_move rfl,
    fun _ => astep_neg rfl,
    fun _ => astep_max rfl,
    fun _ => astep_move rfl,
    fun _ => astep_move rfl,
    fun _ => astep_neg rfl,
    fun _ => astep_max rfl,
    fun _ => astep_i hl2 (astep_assign rfl),
    fun _ => astep_i hl4 (astep_assign rfl), trivial⟩
  obtain ⟨k6, hk_k6, h⟩ := joinK_out h
  refine awp_join (τ := Int) (fun t => k6 t = some r) (fun y5 => ⟨mk 20 [(0, (I (y5)))], []⟩) (fun y5 h => ?_) ?_
  · subst hk_k6
    refine awp_reg [⟨[((.tmp 0), (I (y5)))], [], (I (y5)), [], false⟩,
    ⟨[((.tmp 19), (I (y5)))], [], (I (y5)), [], false⟩] (by exact ⟨by kernel_rfl, by kernel_rfl⟩) ?_ ?_
    · exact ⟨fun _ => astep_move rfl,
    fun _ => astep_assign rfl, trivial⟩
    refine awp_ret ?_
    obtain rfl := Option.some.inj h
    exact ⟨⟨[(I (y5))], ⟨resOK_tmp (by kernel_rfl), trivial⟩, rfl⟩, (NLt.lit _), Nat.le_refl _, fun n hn => absurd hn (Nat.not_lt_zero n)⟩
  · skip
    refine awp_block ?_
    refine awp_mor (mor_to (n := 20) (l' := [(0, (I (x1))), (1, (I (x3)))]) (own' := []) [(0, (I (x1))), (1, (I (x3)))] [] [] hφ0 (by kernel_rfl) (by kernel_rfl) (by kernel_rfl) ⟨rfl, .rn (.plain _ (NLt.lit _)), rfl, .rn (.plain _ (NLt.lit _)), trivial⟩ trivial) ?_
    refine awp_ind (τ := Int × Int) (fun n t => ref01_GcdX_loop1 N k6 n t.1 t.2 = some r) (fun ⟨y7, y8⟩ => ⟨mk 20 [(0, (I (y7))), (1, (I (y8)))], []⟩) (fun t h => by rw [ref01_GcdX_loop1] at h; cases h) (fun n11 ih t h => ?_) N (x1, x3) h
    obtain ⟨y7, y8⟩ := t
    rw [ref01_GcdX_loop1] at h
    skip
    refine awp_seq ?_
    refine awp_reg [⟨[((.tmp 1), (I (y8)))], [], (I (y8)), [], false⟩,
    ⟨[((.tmp 13), (I (y8))), ((.const (.int .i64 0)), (I (0)))], [], (B ((decide (y8 > 0)))), [], false⟩] (by exact ⟨by kernel_rfl, by kernel_rfl⟩) ?_ ?_
    · exact ⟨fun _ => astep_move rfl,
    fun _ => astep_bin rfl rfl, trivial⟩
    rcases Bool.eq_false_or_eq_true ((decide (y8 > 0))) with hc12 | hc12
    · replace h := bif_t hc12 h
      refine awp_ift hc12 (by kernel_rfl) ?_
      refine awp_skip ?_
      refine thenA_n ?_
      refine awp_block ?_
      obtain ⟨hz13, h⟩ := chk_out h
      refine awp_regd1 [⟨[((.tmp 1), (I (y8)))], [], (I (y8)), [], false⟩,
    ⟨[((.tmp 0), (I (y7)))], [], (I (y7)), [], false⟩,
    ⟨[((.tmp 1), (I (y8)))], [], (I (y8)), [], false⟩,
    ⟨[((.tmp 16), (I (y7))), ((.tmp 17), (I (y8)))], [], (I (y7.tmod y8)), [], false⟩,
    ⟨[((.tmp 15), (I (y8)))], [], (I (y8)), [], false⟩,
    ⟨[((.tmp 18), (I (y7.tmod y8)))], [], (I (y7.tmod y8)), [], false⟩] (by kernel_rfl) (by exact ⟨by kernel_rfl, by kernel_rfl⟩) (by kernel_rfl) ?_ ?_
      · exact ⟨fun _ => astep_move rfl,
    fun _ => astep_move rfl,
    fun _ => astep_move rfl,
    fun _ => astep_rem rfl (bne_out hz13),
    fun _ => astep_assign rfl,
    fun _ => astep_assign rfl, trivial⟩
      refine blockA_n ?_
      refine thenA_n ?_
      exact around_mor (mor_to (n := 20) (l' := [(0, (I (y8))), (1, (I ((y7.tmod y8))))]) (own' := []) [(0, (I (y8))), (1, (I (y7.tmod y8)))] [] [] hφ0 (by kernel_rfl) (by kernel_rfl) (by kernel_rfl) ⟨rfl, .rn (.plain _ (NLt.lit _)), rfl, .rn (.plain _ (NLt.lit _)), trivial⟩ trivial) (ih (y8, y7.tmod y8) h)
    · replace h := bif_f hc12 h
      refine awp_ifn hc12 (by kernel_rfl) ?_
      refine awp_exit ?_
      refine thenA_x ?_
      refine thenA_x ?_
      refine blockA_e rfl ?_
      refine thenA_n ?_
      exact ⟨(y7), h, (mor_to (n := 20) (l' := [(0, (I (y7)))]) (own' := []) [(0, (I (y7)))] [] [] hφ0 (by kernel_rfl) (by kernel_rfl) (by kernel_rfl) ⟨rfl, .rn (.plain _ (NLt.lit _)), trivial⟩ trivial)⟩

def ref01_SaturationX_loop1 (N : Nat) (p0 : (List GRow)) (p1 : Int) (k3 : Int → Option GRatio) : Nat → Int → Option GRatio
  | 0, _ => none
  | n20 + 1, y18 =>
    (getI p0 (w64 (y18 + 1))).bind fun x21 =>
    bif (decide (x21.T < p1)) then
      ref01_SaturationX_loop1 N p0 p1 k3 n20 (w64 (y18 + 1))
    else
      k3 (y18)
def ref01_SaturationX_loop2 (N : Nat) (p0 : (List GRow)) (k1 : Unit → Option GRatio) (p1 : Int) : Nat → Int → Option GRatio
  | 0, _ => none
  | n28 + 1, y26 =>
    bif (decide (y26 < (p0.length : Int))) then
      (getI p0 y26).bind fun x30 =>
      bif (x30.T == p1) then
        some (⟨x30.P, 1⟩ : GRatio)
      else
        ref01_SaturationX_loop2 N p0 k1 p1 n28 (w64 (y26 + 1))
    else
      k1 ()
def ref01_SaturationX (N : Nat) (p0 : (List GRow)) (p1 : Int) : Option GRatio :=
  joinK (fun _ =>
      joinK (fun y2 =>
          (getI p0 y2).bind fun x4 =>
          (getI p0 (w64 (y2 + 1))).bind fun x8 =>
          (some (w64 ((w64 (x4.P * (w64 (x8.T - x4.T)))) + (w64 ((w64 (x8.P - x4.P)) * (w64 (p1 - x4.T))))))).bind fun x12 =>
          (ref01_GcdX N x12 (w64 (x8.T - x4.T))).bind fun x15 =>
          chk (x15 != 0) <|
          chk (x15 != 0) <|
          some (⟨w64 (x12.tdiv x15), w64 ((w64 (x8.T - x4.T)).tdiv x15)⟩ : GRatio)) fun k3 : Int → Option GRatio =>
      ref01_SaturationX_loop1 N p0 p1 k3 N 0) fun k1 : Unit → Option GRatio =>
  ref01_SaturationX_loop2 N p0 k1 p1 N 0
set_option maxRecDepth 100000 in
set_option maxHeartbeats 4000000 in
theorem ref01_SaturationX_ok (N : Nat) (p0 : (List GRow)) (p1 : Int) (r : GRatio) (h : ref01_SaturationX N p0 p1 = some r) : Spec Try.prog 48 [(.dat 5 (p0.map c_GRow)), (I p1)] [] (.agg (c_GRatio r)) [] := by
  refine spec_of_awp Try.func48 rfl 0 (Nat.le_of_ble_eq_true rfl) (fun X φ0 w0 hφ0 => ?_)
  unfold ref01_SaturationX at h
  refine awp_reg [⟨[], [(0, .unused)], (.ref 0 2 (0) 0), [(0, (.own 2 [[(I (0)), (I (0))]]))], false⟩] (by exact ⟨by kernel_rfl, by kernel_rfl⟩) ?_ ?_
  · exact ⟨fun _ => astep_alloc rfl tz95 rfl, trivial⟩
  obtain ⟨k1, hk_k1, h⟩ := joinK_out h
  refine awp_join (τ := Unit) (fun t => k1 t = some r) (fun _ => ⟨mk 84 [(0, (.dat 5 ((p0 : List GRow).map c_GRow))), (1, (I (p1))), (4, (.ref 0 2 (0) 0))], [(.own 2 [[(I (0)), (I (0))]])]⟩) (fun t h => ?_) ?_
  · subst hk_k1
    refine awp_reg [⟨[((.const (.int .i64 0)), (I (0)))], [], (I (0)), [], false⟩] (by exact ⟨by kernel_rfl, by kernel_rfl⟩) ?_ ?_
    · exact ⟨fun _ => astep_assign rfl, trivial⟩
    obtain ⟨k3, hk_k3, h⟩ := joinK_out h
    refine awp_join (τ := Int) (fun t => k3 t = some r) (fun y2 => ⟨mk 84 [(0, (.dat 5 ((p0 : List GRow).map c_GRow))), (1, (I (p1))), (4, (.ref 0 2 (0) 0)), (6, (I (y2)))], [(.own 2 [[(I (0)), (I (0))]])]⟩) (fun y2 h => ?_) ?_
    · subst hk_k3
      obtain ⟨x4, hg5, h⟩ := bind_out h
      obtain ⟨hi6, hj7⟩ := getI_some hg5
      obtain ⟨x8, hg9, h⟩ := bind_out h
      obtain ⟨hi10, hj11⟩ := getI_some hg9
      refine awp_regd [⟨[((.tmp 0), (.dat 5 ((p0 : List GRow).map c_GRow)))], [], (.dat 5 ((p0 : List GRow).map c_GRow)), [], false⟩,
    ⟨[((.tmp 6), (I (y2)))], [], (I (y2)), [], false⟩,
    ⟨[((.tmp 41), (.dat 5 ((p0 : List GRow).map c_GRow))), ((.tmp 42), (I (y2)))], [], (.dptr (c_GRow (x4)) 0), [], false⟩,
    ⟨[((.tmp 43), (.dptr (c_GRow (x4)) 0))], [], (.agg [(I (x4.T)), (I (x4.P)), (I (x4.Liquid)), (I (x4.Vapour)), (I (x4.Silica))]), [], false⟩,
    ⟨[((.tmp 0), (.dat 5 ((p0 : List GRow).map c_GRow)))], [], (.dat 5 ((p0 : List GRow).map c_GRow)), [], false⟩,
    ⟨[((.tmp 6), (I (y2)))], [], (I (y2)), [], false⟩,
    ⟨[((.tmp 46), (I (y2))), ((.const (.int .i64 1)), (I (1)))], [], (I (w64 (y2 + 1))), [], false⟩,
    ⟨[((.tmp 45), (.dat 5 ((p0 : List GRow).map c_GRow))), ((.tmp 47), (I (w64 (y2 + 1))))], [], (.dptr (c_GRow (x8)) 0), [], false⟩,
    ⟨[((.tmp 48), (.dptr (c_GRow (x8)) 0))], [], (.agg [(I (x8.T)), (I (x8.P)), (I (x8.Liquid)), (I (x8.Vapour)), (I (x8.Silica))]), [], false⟩,
    ⟨[], [(1, .unused)], (.ref 1 5 (0) 0), [(1, (.own 5 [[(I (0)), (I (0)), (I (0)), (I (0)), (I (0))]]))], false⟩,
    ⟨[], [(2, .unused)], (.ref 2 5 (0) 0), [(2, (.own 5 [[(I (0)), (I (0)), (I (0)), (I (0)), (I (0))]]))], false⟩,
    ⟨[((.tmp 7), (.ref 1 5 (0) 0)), ((.tmp 44), (.agg [(I (x4.T)), (I (x4.P)), (I (x4.Liquid)), (I (x4.Vapour)), (I (x4.Silica))]))], [(1, (.own 5 [[(I (0)), (I (0)), (I (0)), (I (0)), (I (0))]]))], .any, [(1, (.own 5 [[(I (x4.T)), (I (x4.P)), (I (x4.Liquid)), (I (x4.Vapour)), (I (x4.Silica))]]))], false⟩,
    ⟨[((.tmp 8), (.ref 2 5 (0) 0)), ((.tmp 49), (.agg [(I (x8.T)), (I (x8.P)), (I (x8.Liquid)), (I (x8.Vapour)), (I (x8.Silica))]))], [(2, (.own 5 [[(I (0)), (I (0)), (I (0)), (I (0)), (I (0))]]))], .any, [(2, (.own 5 [[(I (x8.T)), (I (x8.P)), (I (x8.Liquid)), (I (x8.Vapour)), (I (x8.Silica))]]))], false⟩] (by kernel_rfl) (by exact ⟨by kernel_rfl, by kernel_rfl⟩) (by kernel_rfl) ?_ ?_
      · exact ⟨fun _ => astep_move rfl,
    fun _ => astep_move rfl,
    fun _ => astep_idxd rfl Try.underlying23 ti49 rfl rfl hi6 (map_get c_GRow hj7) rfl,
    fun _ => astep_loadd rfl ti49 (by decide) (Nat.le_of_ble_eq_true rfl) rfl,
    fun _ => astep_move rfl,
    fun _ => astep_move rfl,
    fun _ => astep_bin rfl rfl,
    fun _ => astep_idxd rfl Try.underlying23 ti49 rfl rfl hi10 (map_get c_GRow hj11) rfl,
    fun _ => astep_loadd rfl ti49 (by decide) (Nat.le_of_ble_eq_true rfl) rfl,
    fun _ => astep_alloc rfl tz49 rfl,
    fun _ => astep_alloc rfl tz49 rfl,
    fun _ => astep_store rfl ti49 (by rfl) rfl (Nat.le_of_ble_eq_true rfl) rfl,
    fun _ => astep_store rfl ti49 (by rfl) rfl (Nat.le_of_ble_eq_true rfl) rfl, trivial⟩
      obtain ⟨x12, hl13, h⟩ := bind_out h
      refine awp_regd [⟨[((.tmp 7), (.ref 1 5 (0) 0))], [(1, (.own 5 [[(I (x4.T)), (I (x4.P)), (I (x4.Liquid)), (I (x4.Vapour)), (I (x4.Silica))]]))], (.ref 1 5 (0) 1), [], false⟩,
    ⟨[((.tmp 50), (.ref 1 5 (0) 1))], [(1, (.own 5 [[(I (x4.T)), (I (x4.P)), (I (x4.Liquid)), (I (x4.Vapour)), (I (x4.Silica))]]))], (I (x4.P)), [], false⟩,
    ⟨[((.tmp 8), (.ref 2 5 (0) 0))], [(2, (.own 5 [[(I (x8.T)), (I (x8.P)), (I (x8.Liquid)), (I (x8.Vapour)), (I (x8.Silica))]]))], (.ref 2 5 (0) 0), [], false⟩,
    ⟨[((.tmp 52), (.ref 2 5 (0) 0))], [(2, (.own 5 [[(I (x8.T)), (I (x8.P)), (I (x8.Liquid)), (I (x8.Vapour)), (I (x8.Silica))]]))], (I (x8.T)), [], false⟩,
    ⟨[((.tmp 7), (.ref 1 5 (0) 0))], [(1, (.own 5 [[(I (x4.T)), (I (x4.P)), (I (x4.Liquid)), (I (x4.Vapour)), (I (x4.Silica))]]))], (.ref 1 5 (0) 0), [], false⟩,
    ⟨[((.tmp 54), (.ref 1 5 (0) 0))], [(1, (.own 5 [[(I (x4.T)), (I (x4.P)), (I (x4.Liquid)), (I (x4.Vapour)), (I (x4.Silica))]]))], (I (x4.T)), [], false⟩,
    ⟨[((.tmp 53), (I (x8.T))), ((.tmp 55), (I (x4.T)))], [], (I (w64 (x8.T - x4.T))), [], false⟩,
    ⟨[((.tmp 51), (I (x4.P))), ((.tmp 56), (I (w64 (x8.T - x4.T))))], [], (I (w64 (x4.P * (w64 (x8.T - x4.T))))), [], false⟩,
    ⟨[((.tmp 8), (.ref 2 5 (0) 0))], [(2, (.own 5 [[(I (x8.T)), (I (x8.P)), (I (x8.Liquid)), (I (x8.Vapour)), (I (x8.Silica))]]))], (.ref 2 5 (0) 1), [], false⟩,
    ⟨[((.tmp 58), (.ref 2 5 (0) 1))], [(2, (.own 5 [[(I (x8.T)), (I (x8.P)), (I (x8.Liquid)), (I (x8.Vapour)), (I (x8.Silica))]]))], (I (x8.P)), [], false⟩,
    ⟨[((.tmp 7), (.ref 1 5 (0) 0))], [(1, (.own 5 [[(I (x4.T)), (I (x4.P)), (I (x4.Liquid)), (I (x4.Vapour)), (I (x4.Silica))]]))], (.ref 1 5 (0) 1), [], false⟩,
    ⟨[((.tmp 60), (.ref 1 5 (0) 1))], [(1, (.own 5 [[(I (x4.T)), (I (x4.P)), (I (x4.Liquid)), (I (x4.Vapour)), (I (x4.Silica))]]))], (I (x4.P)), [], false⟩,
    ⟨[((.tmp 59), (I (x8.P))), ((.tmp 61), (I (x4.P)))], [], (I (w64 (x8.P - x4.P))), [], false⟩,
    ⟨[((.tmp 1), (I (p1)))], [], (I (p1)), [], false⟩,
    ⟨[((.tmp 7), (.ref 1 5 (0) 0))], [(1, (.own 5 [[(I (x4.T)), (I (x4.P)), (I (x4.Liquid)), (I (x4.Vapour)), (I (x4.Silica))]]))], (.ref 1 5 (0) 0), [], false⟩,
    ⟨[((.tmp 64), (.ref 1 5 (0) 0))], [(1, (.own 5 [[(I (x4.T)), (I (x4.P)), (I (x4.Liquid)), (I (x4.Vapour)), (I (x4.Silica))]]))], (I (x4.T)), [], false⟩,
    ⟨[((.tmp 63), (I (p1))), ((.tmp 65), (I (x4.T)))], [], (I (w64 (p1 - x4.T))), [], false⟩,
    ⟨[((.tmp 62), (I (w64 (x8.P - x4.P)))), ((.tmp 66), (I (w64 (p1 - x4.T))))], [], (I (w64 ((w64 (x8.P - x4.P)) * (w64 (p1 - x4.T))))), [], false⟩,
    ⟨[((.tmp 57), (I (w64 (x4.P * (w64 (x8.T - x4.T)))))), ((.tmp 67), (I (w64 ((w64 (x8.P - x4.P)) * (w64 (p1 - x4.T))))))], [], (I (x12)), [], false⟩,
    ⟨[((.tmp 8), (.ref 2 5 (0) 0))], [(2, (.own 5 [[(I (x8.T)), (I (x8.P)), (I (x8.Liquid)), (I (x8.Vapour)), (I (x8.Silica))]]))], (.ref 2 5 (0) 0), [], false⟩,
    ⟨[((.tmp 69), (.ref 2 5 (0) 0))], [(2, (.own 5 [[(I (x8.T)), (I (x8.P)), (I (x8.Liquid)), (I (x8.Vapour)), (I (x8.Silica))]]))], (I (x8.T)), [], false⟩,
    ⟨[((.tmp 7), (.ref 1 5 (0) 0))], [(1, (.own 5 [[(I (x4.T)), (I (x4.P)), (I (x4.Liquid)), (I (x4.Vapour)), (I (x4.Silica))]]))], (.ref 1 5 (0) 0), [], false⟩,
    ⟨[((.tmp 71), (.ref 1 5 (0) 0))], [(1, (.own 5 [[(I (x4.T)), (I (x4.P)), (I (x4.Liquid)), (I (x4.Vapour)), (I (x4.Silica))]]))], (I (x4.T)), [], false⟩,
    ⟨[((.tmp 70), (I (x8.T))), ((.tmp 72), (I (x4.T)))], [], (I (w64 (x8.T - x4.T))), [], false⟩,
    ⟨[((.tmp 68), (I (x12)))], [], (I (x12)), [], false⟩,
    ⟨[((.tmp 73), (I (w64 (x8.T - x4.T))))], [], (I (w64 (x8.T - x4.T))), [], false⟩] (by kernel_rfl) (by exact ⟨by kernel_rfl, by kernel_rfl⟩) (by kernel_rfl) ?_ ?_
      · exact ⟨fun _ => astep_faddr rfl Try.underlying49 rfl rfl ti3 (by decide) rfl,
    fun _ => astep_load rfl ti3 (by decide) rfl (Nat.le_of_ble_eq_true rfl) rfl,
    fun _ => astep_faddr rfl Try.underlying49 rfl rfl ti3 (by decide) rfl,
    fun _ => astep_load rfl ti3 (by decide) rfl (Nat.le_of_ble_eq_true rfl) rfl,
    fun _ => astep_faddr rfl Try.underlying49 rfl rfl ti3 (by decide) rfl,
    fun _ => astep_load rfl ti3 (by decide) rfl (Nat.le_of_ble_eq_true rfl) rfl,
    fun _ => astep_bin rfl rfl,
    fun _ => astep_bin rfl rfl,
    fun _ => astep_faddr rfl Try.underlying49 rfl rfl ti3 (by decide) rfl,
    fun _ => astep_load rfl ti3 (by decide) rfl (Nat.le_of_ble_eq_true rfl) rfl,
    fun _ => astep_faddr rfl Try.underlying49 rfl rfl ti3 (by decide) rfl,
    fun _ => astep_load rfl ti3 (by decide) rfl (Nat.le_of_ble_eq_true rfl) rfl,
    fun _ => astep_bin rfl rfl,
    fun _ => astep_move rfl,
    fun _ => astep_faddr rfl Try.underlying49 rfl rfl ti3 (by decide) rfl,
    fun _ => astep_load rfl ti3 (by decide) rfl (Nat.le_of_ble_eq_true rfl) rfl,
    fun _ => astep_bin rfl rfl,
    fun _ => astep_bin rfl rfl,
    fun _ => astep_i hl13 (astep_bin rfl rfl),
    fun _ => astep_faddr rfl Try.underlying49 rfl rfl ti3 (by decide) rfl,
    fun _ => astep_load rfl ti3 (by decide) rfl (Nat.le_of_ble_eq_true rfl) rfl,
    fun _ => astep_faddr rfl Try.underlying49 rfl rfl ti3 (by decide) rfl,
    fun _ => astep_load rfl ti3 (by decide) rfl (Nat.le_of_ble_eq_true rfl) rfl,
    fun _ => astep_bin rfl rfl,
    fun _ => astep_assign rfl,
    fun _ => astep_assign rfl, trivial⟩
      obtain ⟨x15, hf14, h⟩ := bind_out h
      refine awp_reg [⟨[((.tmp 9), (I (x12)))], [], (I (x12)), [], false⟩,
    ⟨[((.tmp 10), (I (w64 (x8.T - x4.T))))], [], (I (w64 (x8.T - x4.T))), [], false⟩,
    ⟨[((.func 43), (.fn (.func 43) [] [])), ((.tmp 74), (I (x12))), ((.tmp 75), (I (w64 (x8.T - x4.T))))], [], (I (x15)), [], false⟩,
    ⟨[((.tmp 76), (I (x15)))], [], (I (x15)), [], false⟩] (by exact ⟨by kernel_rfl, by kernel_rfl⟩) ?_ ?_
      · exact ⟨fun _ => astep_move rfl,
    fun _ => astep_move rfl,
    fun _ => astep_pcall (first := []) (cap := []) (vs := [(I (x12)), (I (w64 (x8.T - x4.T)))]) rfl enter43 (ref01_GcdX_ok N x12 (w64 (x8.T - x4.T)) _ hf14) rfl rfl (nl_cons (NLt.lit _) (nl_cons (NLt.lit _) nl_nil)) (NLt.lit _) rfl,
    fun _ => astep_assign rfl, trivial⟩
      obtain ⟨hz16, h⟩ := chk_out h
      obtain ⟨hz17, h⟩ := chk_out h
      refine awp_regd [⟨[((.tmp 9), (I (x12)))], [], (I (x12)), [], false⟩,
    ⟨[((.tmp 11), (I (x15)))], [], (I (x15)), [], false⟩,
    ⟨[((.tmp 77), (I (x12))), ((.tmp 78), (I (x15)))], [], (I (w64 (x12.tdiv x15))), [], false⟩,
    ⟨[((.tmp 10), (I (w64 (x8.T - x4.T))))], [], (I (w64 (x8.T - x4.T))), [], false⟩,
    ⟨[((.tmp 11), (I (x15)))], [], (I (x15)), [], false⟩,
    ⟨[((.tmp 80), (I (w64 (x8.T - x4.T)))), ((.tmp 81), (I (x15)))], [], (I (w64 ((w64 (x8.T - x4.T)).tdiv x15))), [], false⟩,
    ⟨[((.tmp 79), (I (w64 (x12.tdiv x15)))), ((.tmp 82), (I (w64 ((w64 (x8.T - x4.T)).tdiv x15))))], [], (.agg [(I (w64 (x12.tdiv x15))), (I (w64 ((w64 (x8.T - x4.T)).tdiv x15)))]), [], false⟩,
    ⟨[((.tmp 4), (.ref 0 2 (0) 0)), ((.tmp 83), (.agg [(I (w64 (x12.tdiv x15))), (I (w64 ((w64 (x8.T - x4.T)).tdiv x15)))]))], [(0, (.own 2 [[(I (0)), (I (0))]]))], .any, [(0, (.own 2 [[(I (w64 (x12.tdiv x15))), (I (w64 ((w64 (x8.T - x4.T)).tdiv x15)))]]))], false⟩] (by kernel_rfl) (by exact ⟨by kernel_rfl, by kernel_rfl⟩) (by kernel_rfl) ?_ ?_
      · exact ⟨fun _ => astep_move rfl,
    fun _ => astep_move rfl,
    fun _ => astep_quo rfl (bne_out hz16),
    fun _ => astep_move rfl,
    fun _ => astep_move rfl,
    fun _ => astep_quo rfl (bne_out hz17),
    fun _ => astep_build (vs := [(I (w64 (x12.tdiv x15))), (I (w64 ((w64 (x8.T - x4.T)).tdiv x15)))]) rfl ts95 tz95 rfl (by rfl) rfl,
    fun _ => astep_store rfl ti95 (by rfl) rfl (Nat.le_of_ble_eq_true rfl) rfl, trivial⟩
      refine awp_ret ?_
      obtain rfl := Option.some.inj h
      exact ⟨⟨[(.agg [(I (w64 (x12.tdiv x15))), (I (w64 ((w64 (x8.T - x4.T)).tdiv x15)))])], ⟨resOK_cell (n := 0) (m := 2) (j := 0) (i := 0) (xs := [[(I (w64 (x12.tdiv x15))), (I (w64 ((w64 (x8.T - x4.T)).tdiv x15)))]]) (by kernel_rfl) (by kernel_rfl) ti95 (by decide) rfl (Nat.le_of_ble_eq_true rfl) rfl, trivial⟩, rfl⟩, (NLt.agg _ (nl_cons (NLt.lit _) (nl_cons (NLt.lit _) nl_nil))), Nat.le_refl _, fun n hn => absurd hn (Nat.not_lt_zero n)⟩
    · skip
      refine awp_block ?_
      refine awp_mor (mor_to (n := 84) (l' := [(0, (.dat 5 ((p0 : List GRow).map c_GRow))), (1, (I (p1))), (4, (.ref 0 2 (0) 0)), (6, (I (0)))]) (own' := [(.own 2 [[(I (0)), (I (0))]])]) [(0, (.dat 5 ((p0 : List GRow).map c_GRow))), (1, (I (p1))), (4, (.ref 0 2 (0) 0)), (6, (I (0)))] [0] [(.own 2 [[(I (0)), (I (0))]])] hφ0 (by kernel_rfl) (by kernel_rfl) (by kernel_rfl) ⟨rfl, .rn (.plain _ (nl_dat nl_GRow _)), rfl, .rn (.plain _ (NLt.lit _)), rfl, .rn (rnq_ref rfl), rfl, .rn (.plain _ (NLt.lit _)), trivial⟩ ⟨(spw_box ⟨(.rn (.plain _ (NLt.lit _))), (.rn (.plain _ (NLt.lit _))), trivial⟩), trivial⟩) ?_
      refine awp_ind (τ := Int) (fun n t => ref01_SaturationX_loop1 N p0 p1 k3 n t = some r) (fun y18 => ⟨mk 84 [(0, (.dat 5 ((p0 : List GRow).map c_GRow))), (1, (I (p1))), (4, (.ref 0 2 (0) 0)), (6, (I (y18)))], [(.own 2 [[(I (0)), (I (0))]])]⟩) (fun t h => by rw [ref01_SaturationX_loop1] at h; cases h) (fun n20 ih y18 h => ?_) N (0) h
      rw [ref01_SaturationX_loop1] at h
      skip
      refine awp_seq ?_
      obtain ⟨x21, hg22, h⟩ := bind_out h
      obtain ⟨hi23, hj24⟩ := getI_some hg22
      refine awp_reg [⟨[((.tmp 0), (.dat 5 ((p0 : List GRow).map c_GRow)))], [], (.dat 5 ((p0 : List GRow).map c_GRow)), [], false⟩,
    ⟨[((.tmp 6), (I (y18)))], [], (I (y18)), [], false⟩,
    ⟨[((.tmp 32), (I (y18))), ((.const (.int .i64 1)), (I (1)))], [], (I (w64 (y18 + 1))), [], false⟩,
    ⟨[((.tmp 31), (.dat 5 ((p0 : List GRow).map c_GRow))), ((.tmp 33), (I (w64 (y18 + 1))))], [], (.dptr (c_GRow (x21)) 0), [], false⟩,
    ⟨[((.tmp 34), (.dptr (c_GRow (x21)) 0))], [], (.dptr (c_GRow (x21)) 0), [], false⟩,
    ⟨[((.tmp 35), (.dptr (c_GRow (x21)) 0))], [], (I (x21.T)), [], false⟩,
    ⟨[((.tmp 1), (I (p1)))], [], (I (p1)), [], false⟩,
    ⟨[((.tmp 36), (I (x21.T))), ((.tmp 37), (I (p1)))], [], (B ((decide (x21.T < p1)))), [], false⟩] (by exact ⟨by kernel_rfl, by kernel_rfl⟩) ?_ ?_
      · exact ⟨fun _ => astep_move rfl,
    fun _ => astep_move rfl,
    fun _ => astep_bin rfl rfl,
    fun _ => astep_idxd rfl Try.underlying23 ti49 rfl rfl hi23 (map_get c_GRow hj24) rfl,
    fun _ => astep_faddrd rfl Try.underlying49 rfl rfl ti3 (by decide) rfl,
    fun _ => astep_loadd rfl ti3 (by decide) (Nat.le_of_ble_eq_true rfl) rfl,
    fun _ => astep_move rfl,
    fun _ => astep_bin rfl rfl, trivial⟩
      rcases Bool.eq_false_or_eq_true ((decide (x21.T < p1))) with hc25 | hc25
      · replace h := bif_t hc25 h
        refine awp_ift hc25 (by kernel_rfl) ?_
        refine awp_skip ?_
        refine thenA_n ?_
        refine awp_block ?_
        refine awp_reg1 [⟨[((.tmp 6), (I (y18)))], [], (I (y18)), [], false⟩,
    ⟨[((.tmp 39), (I (y18))), ((.const (.int .i64 1)), (I (1)))], [], (I (w64 (y18 + 1))), [], false⟩,
    ⟨[((.tmp 40), (I (w64 (y18 + 1))))], [], (I (w64 (y18 + 1))), [], false⟩] (by exact ⟨by kernel_rfl, by kernel_rfl⟩) ?_ ?_
        · exact ⟨fun _ => astep_move rfl,
    fun _ => astep_bin rfl rfl,
    fun _ => astep_assign rfl, trivial⟩
        refine blockA_n ?_
        refine thenA_n ?_
        exact around_mor (mor_to (n := 84) (l' := [(0, (.dat 5 ((p0 : List GRow).map c_GRow))), (1, (I (p1))), (4, (.ref 0 2 (0) 0)), (6, (I ((w64 (y18 + 1)))))]) (own' := [(.own 2 [[(I (0)), (I (0))]])]) [(0, (.dat 5 ((p0 : List GRow).map c_GRow))), (1, (I (p1))), (4, (.ref 0 2 (0) 0)), (6, (I (w64 (y18 + 1))))] [0] [(.own 2 [[(I (0)), (I (0))]])] hφ0 (by kernel_rfl) (by kernel_rfl) (by kernel_rfl) ⟨rfl, .rn (.plain _ (nl_dat nl_GRow _)), rfl, .rn (.plain _ (NLt.lit _)), rfl, .rn (rnq_ref rfl), rfl, .rn (.plain _ (NLt.lit _)), trivial⟩ ⟨(spw_box ⟨(.rn (.plain _ (NLt.lit _))), (.rn (.plain _ (NLt.lit _))), trivial⟩), trivial⟩) (ih (w64 (y18 + 1)) h)
      · replace h := bif_f hc25 h
        refine awp_ifn hc25 (by kernel_rfl) ?_
        refine awp_exit ?_
        refine thenA_x ?_
        refine thenA_x ?_
        refine blockA_e rfl ?_
        refine thenA_n ?_
        exact ⟨(y18), h, (mor_to (n := 84) (l' := [(0, (.dat 5 ((p0 : List GRow).map c_GRow))), (1, (I (p1))), (4, (.ref 0 2 (0) 0)), (6, (I (y18)))]) (own' := [(.own 2 [[(I (0)), (I (0))]])]) [(0, (.dat 5 ((p0 : List GRow).map c_GRow))), (1, (I (p1))), (4, (.ref 0 2 (0) 0)), (6, (I (y18)))] [0] [(.own 2 [[(I (0)), (I (0))]])] hφ0 (by kernel_rfl) (by kernel_rfl) (by kernel_rfl) ⟨rfl, .rn (.plain _ (nl_dat nl_GRow _)), rfl, .rn (.plain _ (NLt.lit _)), rfl, .rn (rnq_ref rfl), rfl, .rn (.plain _ (NLt.lit _)), trivial⟩ ⟨(spw_box ⟨(.rn (.plain _ (NLt.lit _))), (.rn (.plain _ (NLt.lit _))), trivial⟩), trivial⟩)⟩
  · skip
    refine awp_reg [⟨[((.const (.int .i64 0)), (I (0)))], [], (I (0)), [], false⟩] (by exact ⟨by kernel_rfl, by kernel_rfl⟩) ?_ ?_
    · exact ⟨fun _ => astep_assign rfl, trivial⟩
    refine awp_block ?_
    refine awp_mor (mor_to (n := 84) (l' := [(0, (.dat 5 ((p0 : List GRow).map c_GRow))), (1, (I (p1))), (4, (.ref 0 2 (0) 0)), (5, (I (0)))]) (own' := [(.own 2 [[(I (0)), (I (0))]])]) [(0, (.dat 5 ((p0 : List GRow).map c_GRow))), (1, (I (p1))), (4, (.ref 0 2 (0) 0)), (5, (I (0)))] [0] [(.own 2 [[(I (0)), (I (0))]])] hφ0 (by kernel_rfl) (by kernel_rfl) (by kernel_rfl) ⟨rfl, .rn (.plain _ (nl_dat nl_GRow _)), rfl, .rn (.plain _ (NLt.lit _)), rfl, .rn (rnq_ref rfl), rfl, .rn (.plain _ (NLt.lit _)), trivial⟩ ⟨(spw_box ⟨(.rn (.plain _ (NLt.lit _))), (.rn (.plain _ (NLt.lit _))), trivial⟩), trivial⟩) ?_
    refine awp_ind (τ := Int) (fun n t => ref01_SaturationX_loop2 N p0 k1 p1 n t = some r) (fun y26 => ⟨mk 84 [(0, (.dat 5 ((p0 : List GRow).map c_GRow))), (1, (I (p1))), (4, (.ref 0 2 (0) 0)), (5, (I (y26)))], [(.own 2 [[(I (0)), (I (0))]])]⟩) (fun t h => by rw [ref01_SaturationX_loop2] at h; cases h) (fun n28 ih y26 h => ?_) N (0) h
    rw [ref01_SaturationX_loop2] at h
    skip
    refine awp_seq ?_
    refine awp_reg [⟨[((.tmp 5), (I (y26)))], [], (I (y26)), [], false⟩,
    ⟨[((.tmp 0), (.dat 5 ((p0 : List GRow).map c_GRow)))], [], (.dat 5 ((p0 : List GRow).map c_GRow)), [], false⟩,
    ⟨[((.tmp 13), (.dat 5 ((p0 : List GRow).map c_GRow)))], [], (I ((p0.length : Int))), [], false⟩,
    ⟨[((.tmp 12), (I (y26))), ((.tmp 14), (I ((p0.length : Int))))], [], (B ((decide (y26 < (p0.length : Int))))), [], false⟩] (by exact ⟨by kernel_rfl, by kernel_rfl⟩) ?_ ?_
    · exact ⟨fun _ => astep_move rfl,
    fun _ => astep_move rfl,
    fun _ => astep_lenm (c := c_GRow) (l := p0) (astep_len rfl Try.underlying23 rfl),
    fun _ => astep_bin rfl rfl, trivial⟩
    rcases Bool.eq_false_or_eq_true ((decide (y26 < (p0.length : Int)))) with hc29 | hc29
    · replace h := bif_t hc29 h
      refine awp_ift hc29 (by kernel_rfl) ?_
      refine awp_skip ?_
      refine thenA_n ?_
      refine awp_seq ?_
      refine awp_block ?_
      obtain ⟨x30, hg31, h⟩ := bind_out h
      obtain ⟨hi32, hj33⟩ := getI_some hg31
      refine awp_reg [⟨[((.tmp 0), (.dat 5 ((p0 : List GRow).map c_GRow)))], [], (.dat 5 ((p0 : List GRow).map c_GRow)), [], false⟩,
    ⟨[((.tmp 5), (I (y26)))], [], (I (y26)), [], false⟩,
    ⟨[((.tmp 18), (.dat 5 ((p0 : List GRow).map c_GRow))), ((.tmp 19), (I (y26)))], [], (.dptr (c_GRow (x30)) 0), [], false⟩,
    ⟨[((.tmp 20), (.dptr (c_GRow (x30)) 0))], [], (.dptr (c_GRow (x30)) 0), [], false⟩,
    ⟨[((.tmp 21), (.dptr (c_GRow (x30)) 0))], [], (I (x30.T)), [], false⟩,
    ⟨[((.tmp 1), (I (p1)))], [], (I (p1)), [], false⟩,
    ⟨[((.tmp 22), (I (x30.T))), ((.tmp 23), (I (p1)))], [], (B ((x30.T == p1))), [], false⟩] (by exact ⟨by kernel_rfl, by kernel_rfl⟩) ?_ ?_
      · exact ⟨fun _ => astep_move rfl,
    fun _ => astep_move rfl,
    fun _ => astep_idxd rfl Try.underlying23 ti49 rfl rfl hi32 (map_get c_GRow hj33) rfl,
    fun _ => astep_faddrd rfl Try.underlying49 rfl rfl ti3 (by decide) rfl,
    fun _ => astep_loadd rfl ti3 (by decide) (Nat.le_of_ble_eq_true rfl) rfl,
    fun _ => astep_move rfl,
    fun _ => astep_bin rfl rfl, trivial⟩
      rcases Bool.eq_false_or_eq_true ((x30.T == p1)) with hc34 | hc34
      · replace h := bif_t hc34 h
        refine awp_ift hc34 (by kernel_rfl) ?_
        refine awp_reg [⟨[((.tmp 0), (.dat 5 ((p0 : List GRow).map c_GRow)))], [], (.dat 5 ((p0 : List GRow).map c_GRow)), [], false⟩,
    ⟨[((.tmp 5), (I (y26)))], [], (I (y26)), [], false⟩,
    ⟨[((.tmp 25), (.dat 5 ((p0 : List GRow).map c_GRow))), ((.tmp 26), (I (y26)))], [], (.dptr (c_GRow (x30)) 0), [], false⟩,
    ⟨[((.tmp 27), (.dptr (c_GRow (x30)) 0))], [], (.dptr (c_GRow (x30)) 1), [], false⟩,
    ⟨[((.tmp 28), (.dptr (c_GRow (x30)) 1))], [], (I (x30.P)), [], false⟩,
    ⟨[((.tmp 29), (I (x30.P))), ((.const (.int .i64 1)), (I (1)))], [], (.agg [(I (x30.P)), (I (1))]), [], false⟩,
    ⟨[((.tmp 4), (.ref 0 2 (0) 0)), ((.tmp 30), (.agg [(I (x30.P)), (I (1))]))], [(0, (.own 2 [[(I (0)), (I (0))]]))], .any, [(0, (.own 2 [[(I (x30.P)), (I (1))]]))], false⟩] (by exact ⟨by kernel_rfl, by kernel_rfl⟩) ?_ ?_
        · exact ⟨fun _ => astep_move rfl,
    fun _ => astep_move rfl,
    fun _ => astep_idxd rfl Try.underlying23 ti49 rfl rfl hi32 (map_get c_GRow hj33) rfl,
    fun _ => astep_faddrd rfl Try.underlying49 rfl rfl ti3 (by decide) rfl,
    fun _ => astep_loadd rfl ti3 (by decide) (Nat.le_of_ble_eq_true rfl) rfl,
    fun _ => astep_build (vs := [(I (x30.P)), (I (1))]) rfl ts95 tz95 rfl (by rfl) rfl,
    fun _ => astep_store rfl ti95 (by rfl) rfl (Nat.le_of_ble_eq_true rfl) rfl, trivial⟩
        refine awp_ret ?_
        refine blockA_r ?_
        refine thenA_r ?_
        refine thenA_r ?_
        refine blockA_r ?_
        refine thenA_r ?_
        obtain rfl := Option.some.inj h
        exact ⟨⟨[(.agg [(I (x30.P)), (I (1))])], ⟨resOK_cell (n := 0) (m := 2) (j := 0) (i := 0) (xs := [[(I (x30.P)), (I (1))]]) (by kernel_rfl) (by kernel_rfl) ti95 (by decide) rfl (Nat.le_of_ble_eq_true rfl) rfl, trivial⟩, rfl⟩, (NLt.agg _ (nl_cons (NLt.lit _) (nl_cons (NLt.lit _) nl_nil))), Nat.le_refl _, fun n hn => absurd hn (Nat.not_lt_zero n)⟩
      · replace h := bif_f hc34 h
        refine awp_ifn hc34 (by kernel_rfl) ?_
        refine awp_skip ?_
        refine blockA_n ?_
        refine thenA_n ?_
        refine awp_reg1 [⟨[((.tmp 5), (I (y26)))], [], (I (y26)), [], false⟩,
    ⟨[((.tmp 16), (I (y26))), ((.const (.int .i64 1)), (I (1)))], [], (I (w64 (y26 + 1))), [], false⟩,
    ⟨[((.tmp 17), (I (w64 (y26 + 1))))], [], (I (w64 (y26 + 1))), [], false⟩] (by exact ⟨by kernel_rfl, by kernel_rfl⟩) ?_ ?_
        · exact ⟨fun _ => astep_move rfl,
    fun _ => astep_bin rfl rfl,
    fun _ => astep_assign rfl, trivial⟩
        refine thenA_n ?_
        exact around_mor (mor_to (n := 84) (l' := [(0, (.dat 5 ((p0 : List GRow).map c_GRow))), (1, (I (p1))), (4, (.ref 0 2 (0) 0)), (5, (I ((w64 (y26 + 1)))))]) (own' := [(.own 2 [[(I (0)), (I (0))]])]) [(0, (.dat 5 ((p0 : List GRow).map c_GRow))), (1, (I (p1))), (4, (.ref 0 2 (0) 0)), (5, (I (w64 (y26 + 1))))] [0] [(.own 2 [[(I (0)), (I (0))]])] hφ0 (by kernel_rfl) (by kernel_rfl) (by kernel_rfl) ⟨rfl, .rn (.plain _ (nl_dat nl_GRow _)), rfl, .rn (.plain _ (NLt.lit _)), rfl, .rn (rnq_ref rfl), rfl, .rn (.plain _ (NLt.lit _)), trivial⟩ ⟨(spw_box ⟨(.rn (.plain _ (NLt.lit _))), (.rn (.plain _ (NLt.lit _))), trivial⟩), trivial⟩) (ih (w64 (y26 + 1)) h)
    · replace h := bif_f hc29 h
      refine awp_ifn hc29 (by kernel_rfl) ?_
      refine awp_exit ?_
      refine thenA_x ?_
      refine thenA_x ?_
      refine blockA_e rfl ?_
      refine thenA_n ?_
      exact ⟨(), h, (mor_to (n := 84) (l' := [(0, (.dat 5 ((p0 : List GRow).map c_GRow))), (1, (I (p1))), (4, (.ref 0 2 (0) 0))]) (own' := [(.own 2 [[(I (0)), (I (0))]])]) [(0, (.dat 5 ((p0 : List GRow).map c_GRow))), (1, (I (p1))), (4, (.ref 0 2 (0) 0))] [0] [(.own 2 [[(I (0)), (I (0))]])] hφ0 (by kernel_rfl) (by kernel_rfl) (by kernel_rfl) ⟨rfl, .rn (.plain _ (nl_dat nl_GRow _)), rfl, .rn (.plain _ (NLt.lit _)), rfl, .rn (rnq_ref rfl), trivial⟩ ⟨(spw_box ⟨(.rn (.plain _ (NLt.lit _))), (.rn (.plain _ (NLt.lit _))), trivial⟩), trivial⟩)⟩

end Go.Proofs.Ytenpbiineblcjaa
