/-
  Functions of the program: what they compute, as plain functions, and that they do. No conditions.
-/
import Derived.Test.YtenpbiineblcjaaX2
import Derived.Test.YtenpbiineblcjaaAwakeX
namespace Go.Proofs.Ytenpbiineblcjaa
open Go.RowKit

def law01_SteamStepsX_loop1 (N : Nat) (x8 : ((List GParts) × Int)) (x21 : Int) (x45 : ((List GParts) × Int)) (k47 : Unit → Option Bool) : Nat → Int → Option Bool
  | 0, _ => none
  | n52 + 1, y50 =>
    bif (decide (y50 < (x45.1.length : Int))) then
      (getI x45.1 y50).bind fun x54 =>
      (getI x8.1 (w64 (x21 + y50))).bind fun x58 =>
      bif (!(([x54.Steam.Mass, x54.Steam.Heat, x54.Steam.Silica, x54.Steam.Gas, x54.Water.Mass, x54.Water.Heat, x54.Water.Silica, x54.Water.Gas, x54.Rest, x54.Scale] : List Int) == [x58.Steam.Mass, x58.Steam.Heat, x58.Steam.Silica, x58.Steam.Gas, x58.Water.Mass, x58.Water.Heat, x58.Water.Silica, x58.Water.Gas, x58.Rest, x58.Scale])) then
        some false
      else
        law01_SteamStepsX_loop1 N x8 x21 x45 k47 n52 (w64 (y50 + 1))
    else
      k47 ()
def law01_SteamStepsX_loop2 (N : Nat) (x8 : ((List GParts) × Int)) (x21 : Int) (x30 : ((List GParts) × Int)) (k32 : Unit → Option Bool) : Nat → Int → Option Bool
  | 0, _ => none
  | n67 + 1, y65 =>
    bif (decide (y65 < x21)) then
      (getI x30.1 y65).bind fun x69 =>
      (getI x8.1 y65).bind fun x73 =>
      bif (!(([x69.Steam.Mass, x69.Steam.Heat, x69.Steam.Silica, x69.Steam.Gas, x69.Water.Mass, x69.Water.Heat, x69.Water.Silica, x69.Water.Gas, x69.Rest, x69.Scale] : List Int) == [x73.Steam.Mass, x73.Steam.Heat, x73.Steam.Silica, x73.Steam.Gas, x73.Water.Mass, x73.Water.Heat, x73.Water.Silica, x73.Water.Gas, x73.Rest, x73.Scale])) then
        some false
      else
        law01_SteamStepsX_loop2 N x8 x21 x30 k32 n67 (w64 (y65 + 1))
    else
      k32 ()
def law01_SteamStepsX (N : Nat) (p0 : (List GRow)) (p1 : (List Int)) (p2 : GStream) (p3 : Int) : Option Bool :=
  joinK (fun _ =>
      (law01_TableX N p0).bind fun x3 =>
      chk (decide ((0 + p1.length) * 8 ≤ 140737488355328)) <|
      (law01_StreamX N p2).bind fun x6 =>
      (steam_TrainX N x3 p1 x6).bind fun x8 =>
      (law01_TableX N p0).bind fun x10 =>
      (getI p1 0).bind fun x11 =>
      (law01_StreamX N p2).bind fun x16 =>
      (steam_FlashX N x10 x11 x16).bind fun x18 =>
      joinK (fun _ =>
          chk ((p1.length : Int) != 0) <|
          (some (w64 (1 + ((w64 p3).tmod (p1.length : Int))))).bind fun x21 =>
          (law01_TableX N p0).bind fun x24 =>
          chk (decide (0 ≤ 0) && decide (0 ≤ x21) && decide (x21 ≤ (p1.length : Int))) <|
          chk (decide ((0 + ((p1).take (x21.toNat - 0)).length) * 8 ≤ 140737488355328)) <|
          (law01_StreamX N p2).bind fun x28 =>
          (steam_TrainX N x24 ((p1).take (x21.toNat - 0)) x28).bind fun x30 =>
          joinK (fun _ =>
              joinK (fun _ =>
                  bif (x21 == (p1.length : Int)) then
                    (law01_awakeX N ).bind fun x35 =>
                    some x35
                  else
                    (law01_TableX N p0).bind fun x37 =>
                    chk (decide (0 ≤ x21) && decide (x21 ≤ (p1.length : Int)) && decide ((p1.length : Int) ≤ (p1.length : Int))) <|
                    chk (decide ((0 + (p1.drop x21.toNat).length) * 8 ≤ 140737488355328)) <|
                    (getI x30.1 (w64 (x21 - 1))).bind fun x40 =>
                    (steam_TrainX N x37 (p1.drop x21.toNat) (⟨x40.Water.Mass, x40.Water.Heat, x40.Water.Silica, x40.Water.Gas⟩ : GStream)).bind fun x45 =>
                    joinK (fun _ =>
                        joinK (fun _ =>
                            (law01_awakeX N ).bind fun x49 =>
                            some x49) fun k47 : Unit → Option Bool =>
                        law01_SteamStepsX_loop1 N x8 x21 x45 k47 N 0) fun k46 : Unit → Option Bool =>
                    bif (x45.2 != 0) then
                      some false
                    else
                      bif ((x45.1.length : Int) != (w64 ((p1.length : Int) - x21))) then
                        some false
                      else
                        k46 ()) fun k32 : Unit → Option Bool =>
              law01_SteamStepsX_loop2 N x8 x21 x30 k32 N 0) fun k31 : Unit → Option Bool =>
          bif (x30.2 != 0) then
            some false
          else
            bif ((x30.1.length : Int) != x21) then
              some false
            else
              k31 ()) fun k19 : Unit → Option Bool =>
      bif (x8.2 != 0) then
        some false
      else
        bif (x18.2 != 0) then
          some false
        else
          bif ((x8.1.length : Int) != (p1.length : Int)) then
            some false
          else
            (getI x8.1 0).bind fun x83 =>
            bif (!(([x83.Steam.Mass, x83.Steam.Heat, x83.Steam.Silica, x83.Steam.Gas, x83.Water.Mass, x83.Water.Heat, x83.Water.Silica, x83.Water.Gas, x83.Rest, x83.Scale] : List Int) == [x18.1.Steam.Mass, x18.1.Steam.Heat, x18.1.Steam.Silica, x18.1.Steam.Gas, x18.1.Water.Mass, x18.1.Water.Heat, x18.1.Water.Silica, x18.1.Water.Gas, x18.1.Rest, x18.1.Scale])) then
              some false
            else
              k19 ()) fun k1 : Unit → Option Bool =>
  (ref01_RightX N p0).bind fun x89 =>
  bif (!x89) then
    (law01_awakeX N ).bind fun x92 =>
    some x92
  else
    (ref01_LevelsX N (p0.length : Int) p1).bind fun x94 =>
    bif (!x94) then
      (law01_awakeX N ).bind fun x97 =>
      some x97
    else
      (ref01_RightStreamX N p2).bind fun x99 =>
      bif (!x99) then
        (law01_awakeX N ).bind fun x102 =>
        some x102
      else
        k1 ()
set_option maxRecDepth 100000 in
set_option maxHeartbeats 4000000 in
theorem law01_SteamStepsX_ok (N : Nat) (p0 : (List GRow)) (p1 : (List Int)) (p2 : GStream) (p3 : Int) (r : Bool) (h : law01_SteamStepsX N p0 p1 p2 p3 = some r) : Spec Try.prog 14 [(.dat 5 (p0.map c_GRow)), (.dat 1 (p1.map c_i64)), (.agg (c_GStream p2)), (K .u8 p3)] [] (B r) [] := by
  refine spec_of_awp Try.func14 rfl 0 (Nat.le_of_ble_eq_true rfl) (fun X φ0 w0 hφ0 => ?_)
  unfold law01_SteamStepsX at h
  refine awp_reg [⟨[(.tmp 2, (.agg [I p2.Mass, I p2.Heat, I p2.Silica, I p2.Gas]))], [(0, .unused)], .ref 0 4 0 0, [(0, .own 4 [[I p2.Mass, I p2.Heat, I p2.Silica, I p2.Gas]])], false⟩,
    ⟨[(.const (.bool false), B false)], [], B false, [], false⟩] (by exact ⟨by kernel_rfl, by kernel_rfl⟩) ?_ ?_
  · exact ⟨fun _ => astep_box rfl (by rfl) rfl rfl,
    fun _ => astep_assign rfl, trivial⟩
  obtain ⟨k1, hk_k1, h⟩ := joinK_out h
  refine awp_join (τ := Unit) (fun t => k1 t = some r) (fun _ => ⟨mk 167 [(0, (.dat 5 ((p0 : List GRow).map c_GRow))), (1, (.dat 1 ((p1 : List Int).map c_i64))), (3, (K .u8 (p3))), (6, .ref 0 4 0 0)], [(.own 4 [[I p2.Mass, I p2.Heat, I p2.Silica, I p2.Gas]])]⟩) (fun t h => ?_) ?_
  · subst hk_k1
    obtain ⟨x3, hf2, h⟩ := bind_out h
    obtain ⟨ha4, h⟩ := chk_out h
    obtain ⟨x6, hf5, h⟩ := bind_out h
    obtain ⟨x8, hf7, h⟩ := bind_out h
    refine awp_regd [⟨[(.tmp 0, (.dat 5 ((p0 : List GRow).map c_GRow)))], [], (.dat 5 ((p0 : List GRow).map c_GRow)), [], false⟩,
    ⟨[(.func 19, (.fn (.func 19) [] [])), (.tmp 37, (.dat 5 ((p0 : List GRow).map c_GRow)))], [], (.dat 5 ((x3 : List GRow).map c_GRow)), [], false⟩,
    ⟨[(.tmp 1, (.dat 1 ((p1 : List Int).map c_i64)))], [], (.dat 1 ((p1 : List Int).map c_i64)), [], false⟩,
    ⟨[((.const (.slice none 0 0)), nilS), (.tmp 39, (.dat 1 ((p1 : List Int).map c_i64)))], [(1, .unused)], (.acc 1 3 1 ((p1 : List Int).map c_i64)), [(1, .tok)], false⟩,
    ⟨[(.tmp 6, .ref 0 4 0 0)], [(0, .own 4 [[I p2.Mass, I p2.Heat, I p2.Silica, I p2.Gas]])], (.agg [I p2.Mass, I p2.Heat, I p2.Silica, I p2.Gas]), [], false⟩,
    ⟨[(.func 26, (.fn (.func 26) [] [])), (.tmp 41, (.agg [I p2.Mass, I p2.Heat, I p2.Silica, I p2.Gas]))], [], (.agg [I x6.Mass, I x6.Heat, I x6.Silica, I x6.Gas]), [], false⟩,
    ⟨[(.func 49, (.fn (.func 49) [] [])), (.tmp 38, (.dat 5 ((x3 : List GRow).map c_GRow))), (.tmp 40, (.acc 1 3 1 ((p1 : List Int).map c_i64))), (.tmp 42, (.agg [I x6.Mass, I x6.Heat, I x6.Silica, I x6.Gas]))], [], (.tup [(.dat 10 ((x8.1 : List GParts).map c_GParts)), I x8.2]), [], false⟩,
    ⟨[(.tmp 43, (.tup [(.dat 10 ((x8.1 : List GParts).map c_GParts)), I x8.2]))], [], (.tup [(.dat 10 ((x8.1 : List GParts).map c_GParts)), I x8.2]), [], false⟩,
    ⟨[(.tmp 36, (.tup [(.dat 10 ((x8.1 : List GParts).map c_GParts)), I x8.2]))], [], (.dat 10 ((x8.1 : List GParts).map c_GParts)), [], false⟩,
    ⟨[(.tmp 36, (.tup [(.dat 10 ((x8.1 : List GParts).map c_GParts)), I x8.2]))], [], I x8.2, [], false⟩,
    ⟨[(.tmp 44, (.dat 10 ((x8.1 : List GParts).map c_GParts)))], [], (.dat 10 ((x8.1 : List GParts).map c_GParts)), [], false⟩,
    ⟨[(.tmp 45, I x8.2)], [], I x8.2, [], false⟩] (by kernel_rfl) (by exact ⟨by kernel_rfl, by kernel_rfl⟩) (by kernel_rfl) ?_ ?_
    · exact ⟨fun _ => astep_move rfl,
    fun _ => astep_pcall (first := []) (cap := []) (vs := [(.dat 5 ((p0 : List GRow).map c_GRow))]) rfl enter19 (law01_TableX_ok N p0 _ hf2) rfl rfl (nl_cons (nl_dat nl_GRow _) nl_nil) (nl_dat nl_GRow _) rfl,
    fun _ => astep_move rfl,
    fun _ => astep_app rfl Try.underlying51 te3 (Base.nil) rfl rfl (ones_map c_i64 one_i64 _) (app_le1n c_i64 ha4) (app_le2n c_i64 ha4 (by decide)) (app_map0 c_i64) rfl rfl,
    fun _ => astep_load rfl ti39 (by decide) rfl (Nat.le_of_ble_eq_true rfl) rfl,
    fun _ => astep_pcall (first := []) (cap := []) (vs := [(.agg [I p2.Mass, I p2.Heat, I p2.Silica, I p2.Gas])]) rfl enter26 (law01_StreamX_ok N p2 _ hf5) rfl rfl (nl_cons (NLt.agg _ (nl_cons (NLt.lit _) (nl_cons (NLt.lit _) (nl_cons (NLt.lit _) (nl_cons (NLt.lit _) nl_nil))))) nl_nil) (NLt.agg _ (nl_cons (NLt.lit _) (nl_cons (NLt.lit _) (nl_cons (NLt.lit _) (nl_cons (NLt.lit _) nl_nil))))) rfl,
    fun _ => astep_weak (rd' := (.func 49, (.fn (.func 49) [] [])) :: [(.tmp 38, (.dat 5 ((x3 : List GRow).map c_GRow))), (.tmp 40, (.dat 1 ((p1 : List Int).map c_i64))), (.tmp 42, (.agg [I x6.Mass, I x6.Heat, I x6.Silica, I x6.Gas]))]) ⟨rfl, Less.rfl, rfl, Less.rfl, rfl, Less.acc, rfl, Less.rfl, trivial⟩ (astep_pcall (first := []) (cap := []) (vs := [(.dat 5 ((x3 : List GRow).map c_GRow)), (.dat 1 ((p1 : List Int).map c_i64)), (.agg [I x6.Mass, I x6.Heat, I x6.Silica, I x6.Gas])]) rfl enter49 (steam_TrainX_ok N x3 p1 x6 _ hf7) rfl rfl (nl_cons (nl_dat nl_GRow _) (nl_cons (nl_dat nl_i64 _) (nl_cons (NLt.agg _ (nl_cons (NLt.lit _) (nl_cons (NLt.lit _) (nl_cons (NLt.lit _) (nl_cons (NLt.lit _) nl_nil))))) nl_nil))) (NLt.tup _ (nl_cons (nl_dat nl_GParts _) (nl_cons (NLt.lit _) nl_nil))) rfl),
    fun _ => astep_move rfl,
    fun _ => astep_extract rfl rfl,
    fun _ => astep_extract rfl rfl,
    fun _ => astep_assign rfl,
    fun _ => astep_assign rfl, trivial⟩
    obtain ⟨x10, hf9, h⟩ := bind_out h
    obtain ⟨x11, hg12, h⟩ := bind_out h
    obtain ⟨hi13, hj14⟩ := getI_some hg12
    obtain ⟨x16, hf15, h⟩ := bind_out h
    obtain ⟨x18, hf17, h⟩ := bind_out h
    refine awp_regd [⟨[(.tmp 0, (.dat 5 ((p0 : List GRow).map c_GRow)))], [], (.dat 5 ((p0 : List GRow).map c_GRow)), [], false⟩,
    ⟨[(.func 19, (.fn (.func 19) [] [])), (.tmp 47, (.dat 5 ((p0 : List GRow).map c_GRow)))], [], (.dat 5 ((x10 : List GRow).map c_GRow)), [], false⟩,
    ⟨[(.tmp 1, (.dat 1 ((p1 : List Int).map c_i64)))], [], (.dat 1 ((p1 : List Int).map c_i64)), [], false⟩,
    ⟨[(.tmp 49, (.dat 1 ((p1 : List Int).map c_i64))), (.const (.int .i64 0), I 0)], [], (.dptr (c_i64 (x11)) 0), [], false⟩,
    ⟨[(.tmp 50, (.dptr (c_i64 (x11)) 0))], [], I x11, [], false⟩,
    ⟨[(.tmp 6, .ref 0 4 0 0)], [(0, .own 4 [[I p2.Mass, I p2.Heat, I p2.Silica, I p2.Gas]])], (.agg [I p2.Mass, I p2.Heat, I p2.Silica, I p2.Gas]), [], false⟩,
    ⟨[(.func 26, (.fn (.func 26) [] [])), (.tmp 52, (.agg [I p2.Mass, I p2.Heat, I p2.Silica, I p2.Gas]))], [], (.agg [I x16.Mass, I x16.Heat, I x16.Silica, I x16.Gas]), [], false⟩,
    ⟨[(.func 25, (.fn (.func 25) [] [])), (.tmp 48, (.dat 5 ((x10 : List GRow).map c_GRow))), (.tmp 51, I x11), (.tmp 53, (.agg [I x16.Mass, I x16.Heat, I x16.Silica, I x16.Gas]))], [], (.tup [(.agg [I x18.1.Steam.Mass, I x18.1.Steam.Heat, I x18.1.Steam.Silica, I x18.1.Steam.Gas, I x18.1.Water.Mass, I x18.1.Water.Heat, I x18.1.Water.Silica, I x18.1.Water.Gas, I x18.1.Rest, I x18.1.Scale]), I x18.2]), [], false⟩,
    ⟨[(.tmp 54, (.tup [(.agg [I x18.1.Steam.Mass, I x18.1.Steam.Heat, I x18.1.Steam.Silica, I x18.1.Steam.Gas, I x18.1.Water.Mass, I x18.1.Water.Heat, I x18.1.Water.Silica, I x18.1.Water.Gas, I x18.1.Rest, I x18.1.Scale]), I x18.2]))], [], (.tup [(.agg [I x18.1.Steam.Mass, I x18.1.Steam.Heat, I x18.1.Steam.Silica, I x18.1.Steam.Gas, I x18.1.Water.Mass, I x18.1.Water.Heat, I x18.1.Water.Silica, I x18.1.Water.Gas, I x18.1.Rest, I x18.1.Scale]), I x18.2]), [], false⟩,
    ⟨[(.tmp 46, (.tup [(.agg [I x18.1.Steam.Mass, I x18.1.Steam.Heat, I x18.1.Steam.Silica, I x18.1.Steam.Gas, I x18.1.Water.Mass, I x18.1.Water.Heat, I x18.1.Water.Silica, I x18.1.Water.Gas, I x18.1.Rest, I x18.1.Scale]), I x18.2]))], [], (.agg [I x18.1.Steam.Mass, I x18.1.Steam.Heat, I x18.1.Steam.Silica, I x18.1.Steam.Gas, I x18.1.Water.Mass, I x18.1.Water.Heat, I x18.1.Water.Silica, I x18.1.Water.Gas, I x18.1.Rest, I x18.1.Scale]), [], false⟩,
    ⟨[(.tmp 46, (.tup [(.agg [I x18.1.Steam.Mass, I x18.1.Steam.Heat, I x18.1.Steam.Silica, I x18.1.Steam.Gas, I x18.1.Water.Mass, I x18.1.Water.Heat, I x18.1.Water.Silica, I x18.1.Water.Gas, I x18.1.Rest, I x18.1.Scale]), I x18.2]))], [], I x18.2, [], false⟩,
    ⟨[], [(2, .unused)], .ref 2 10 0 0, [(2, .own 10 [[I 0, I 0, I 0, I 0, I 0, I 0, I 0, I 0, I 0, I 0]])], false⟩,
    ⟨[(.tmp 11, .ref 2 10 0 0), (.tmp 55, (.agg [I x18.1.Steam.Mass, I x18.1.Steam.Heat, I x18.1.Steam.Silica, I x18.1.Steam.Gas, I x18.1.Water.Mass, I x18.1.Water.Heat, I x18.1.Water.Silica, I x18.1.Water.Gas, I x18.1.Rest, I x18.1.Scale]))], [(2, .own 10 [[I 0, I 0, I 0, I 0, I 0, I 0, I 0, I 0, I 0, I 0]])], .any, [(2, .own 10 [[I x18.1.Steam.Mass, I x18.1.Steam.Heat, I x18.1.Steam.Silica, I x18.1.Steam.Gas, I x18.1.Water.Mass, I x18.1.Water.Heat, I x18.1.Water.Silica, I x18.1.Water.Gas, I x18.1.Rest, I x18.1.Scale]])], false⟩,
    ⟨[(.tmp 56, I x18.2)], [], I x18.2, [], false⟩] (by kernel_rfl) (by exact ⟨by kernel_rfl, by kernel_rfl⟩) (by kernel_rfl) ?_ ?_
    · exact ⟨fun _ => astep_move rfl,
    fun _ => astep_pcall (first := []) (cap := []) (vs := [(.dat 5 ((p0 : List GRow).map c_GRow))]) rfl enter19 (law01_TableX_ok N p0 _ hf9) rfl rfl (nl_cons (nl_dat nl_GRow _) nl_nil) (nl_dat nl_GRow _) rfl,
    fun _ => astep_move rfl,
    fun _ => astep_idxd rfl Try.underlying51 ti3 rfl rfl hi13 (map_get c_i64 hj14) rfl,
    fun _ => astep_loadd rfl ti3 (by decide) (Nat.le_of_ble_eq_true rfl) rfl,
    fun _ => astep_load rfl ti39 (by decide) rfl (Nat.le_of_ble_eq_true rfl) rfl,
    fun _ => astep_pcall (first := []) (cap := []) (vs := [(.agg [I p2.Mass, I p2.Heat, I p2.Silica, I p2.Gas])]) rfl enter26 (law01_StreamX_ok N p2 _ hf15) rfl rfl (nl_cons (NLt.agg _ (nl_cons (NLt.lit _) (nl_cons (NLt.lit _) (nl_cons (NLt.lit _) (nl_cons (NLt.lit _) nl_nil))))) nl_nil) (NLt.agg _ (nl_cons (NLt.lit _) (nl_cons (NLt.lit _) (nl_cons (NLt.lit _) (nl_cons (NLt.lit _) nl_nil))))) rfl,
    fun _ => astep_pcall (first := []) (cap := []) (vs := [(.dat 5 ((x10 : List GRow).map c_GRow)), I x11, (.agg [I x16.Mass, I x16.Heat, I x16.Silica, I x16.Gas])]) rfl enter25 (steam_FlashX_ok N x10 x11 x16 _ hf17) rfl rfl (nl_cons (nl_dat nl_GRow _) (nl_cons (NLt.lit _) (nl_cons (NLt.agg _ (nl_cons (NLt.lit _) (nl_cons (NLt.lit _) (nl_cons (NLt.lit _) (nl_cons (NLt.lit _) nl_nil))))) nl_nil))) (NLt.tup _ (nl_cons (NLt.agg _ (nl_cons (NLt.lit _) (nl_cons (NLt.lit _) (nl_cons (NLt.lit _) (nl_cons (NLt.lit _) (nl_cons (NLt.lit _) (nl_cons (NLt.lit _) (nl_cons (NLt.lit _) (nl_cons (NLt.lit _) (nl_cons (NLt.lit _) (nl_cons (NLt.lit _) nl_nil))))))))))) (nl_cons (NLt.lit _) nl_nil))) rfl,
    fun _ => astep_move rfl,
    fun _ => astep_extract rfl rfl,
    fun _ => astep_extract rfl rfl,
    fun _ => astep_alloc rfl tz44 rfl,
    fun _ => astep_store rfl ti44 (by rfl) rfl (Nat.le_of_ble_eq_true rfl) rfl,
    fun _ => astep_assign rfl, trivial⟩
    obtain ⟨k19, hk_k19, h⟩ := joinK_out h
    refine awp_join (τ := Unit) (fun t => k19 t = some r) (fun _ => ⟨mk 167 [(0, (.dat 5 ((p0 : List GRow).map c_GRow))), (1, (.dat 1 ((p1 : List Int).map c_i64))), (3, (K .u8 (p3))), (6, .ref 0 4 0 0), (9, (.dat 10 ((x8.1 : List GParts).map c_GParts)))], [(.own 4 [[I p2.Mass, I p2.Heat, I p2.Silica, I p2.Gas]])]⟩) (fun t h => ?_) ?_
    · subst hk_k19
      obtain ⟨hz20, h⟩ := chk_out h
      obtain ⟨x21, hl22, h⟩ := bind_out h
      refine awp_reg [⟨[(.tmp 3, (K .u8 (p3)))], [], (K .u8 (p3)), [], false⟩,
    ⟨[(.tmp 77, (K .u8 (p3)))], [], I (w64 p3), [], false⟩,
    ⟨[(.tmp 1, (.dat 1 ((p1 : List Int).map c_i64)))], [], (.dat 1 ((p1 : List Int).map c_i64)), [], false⟩,
    ⟨[(.tmp 79, (.dat 1 ((p1 : List Int).map c_i64)))], [], (I ((p1.length : Int))), [], false⟩,
    ⟨[(.tmp 78, I (w64 p3)), (.tmp 80, (I ((p1.length : Int))))], [], (I ((w64 p3).tmod (p1.length : Int))), [], false⟩,
    ⟨[(.const (.int .i64 1), I 1), (.tmp 81, (I ((w64 p3).tmod (p1.length : Int))))], [], (I (w64 (1 + ((w64 p3).tmod (p1.length : Int))))), [], false⟩,
    ⟨[(.tmp 82, (I (w64 (1 + ((w64 p3).tmod (p1.length : Int))))))], [], I x21, [], false⟩] (by exact ⟨by kernel_rfl, by kernel_rfl⟩) ?_ ?_
      · exact ⟨fun _ => astep_move rfl,
    fun _ => astep_conv rfl (by rw [Try.underlying5]; rfl) Try.underlying3,
    fun _ => astep_move rfl,
    fun _ => astep_lenm (c := c_i64) (l := p1) (astep_len rfl Try.underlying51 rfl),
    fun _ => astep_rem rfl (bne_out hz20),
    fun _ => astep_bin rfl rfl,
    fun _ => astep_i hl22 (astep_assign rfl), trivial⟩
      obtain ⟨x24, hf23, h⟩ := bind_out h
      obtain ⟨hs25, h⟩ := chk_out h
      obtain ⟨ha26, h⟩ := chk_out h
      obtain ⟨x28, hf27, h⟩ := bind_out h
      obtain ⟨x30, hf29, h⟩ := bind_out h
      refine awp_regd [⟨[(.tmp 0, (.dat 5 ((p0 : List GRow).map c_GRow)))], [], (.dat 5 ((p0 : List GRow).map c_GRow)), [], false⟩,
    ⟨[(.func 19, (.fn (.func 19) [] [])), (.tmp 84, (.dat 5 ((p0 : List GRow).map c_GRow)))], [], (.dat 5 ((x24 : List GRow).map c_GRow)), [], false⟩,
    ⟨[(.tmp 1, (.dat 1 ((p1 : List Int).map c_i64)))], [], (.dat 1 ((p1 : List Int).map c_i64)), [], false⟩,
    ⟨[(.tmp 13, I x21)], [], I x21, [], false⟩,
    ⟨[(.tmp 86, (.dat 1 ((p1 : List Int).map c_i64))), (.tmp 87, I x21)], [], (.dat 1 (((p1).take (x21.toNat - 0) : List Int).map c_i64)), [], false⟩,
    ⟨[((.const (.slice none 0 0)), nilS), (.tmp 88, (.dat 1 (((p1).take (x21.toNat - 0) : List Int).map c_i64)))], [(1, .unused)], (.acc 1 3 1 (((p1).take (x21.toNat - 0) : List Int).map c_i64)), [(1, .tok)], false⟩,
    ⟨[(.tmp 6, .ref 0 4 0 0)], [(0, .own 4 [[I p2.Mass, I p2.Heat, I p2.Silica, I p2.Gas]])], (.agg [I p2.Mass, I p2.Heat, I p2.Silica, I p2.Gas]), [], false⟩,
    ⟨[(.func 26, (.fn (.func 26) [] [])), (.tmp 90, (.agg [I p2.Mass, I p2.Heat, I p2.Silica, I p2.Gas]))], [], (.agg [I x28.Mass, I x28.Heat, I x28.Silica, I x28.Gas]), [], false⟩,
    ⟨[(.func 49, (.fn (.func 49) [] [])), (.tmp 85, (.dat 5 ((x24 : List GRow).map c_GRow))), (.tmp 89, (.acc 1 3 1 (((p1).take (x21.toNat - 0) : List Int).map c_i64))), (.tmp 91, (.agg [I x28.Mass, I x28.Heat, I x28.Silica, I x28.Gas]))], [], (.tup [(.dat 10 ((x30.1 : List GParts).map c_GParts)), I x30.2]), [], false⟩,
    ⟨[(.tmp 92, (.tup [(.dat 10 ((x30.1 : List GParts).map c_GParts)), I x30.2]))], [], (.tup [(.dat 10 ((x30.1 : List GParts).map c_GParts)), I x30.2]), [], false⟩,
    ⟨[(.tmp 83, (.tup [(.dat 10 ((x30.1 : List GParts).map c_GParts)), I x30.2]))], [], (.dat 10 ((x30.1 : List GParts).map c_GParts)), [], false⟩,
    ⟨[(.tmp 83, (.tup [(.dat 10 ((x30.1 : List GParts).map c_GParts)), I x30.2]))], [], I x30.2, [], false⟩,
    ⟨[(.tmp 93, (.dat 10 ((x30.1 : List GParts).map c_GParts)))], [], (.dat 10 ((x30.1 : List GParts).map c_GParts)), [], false⟩,
    ⟨[(.tmp 94, I x30.2)], [], I x30.2, [], false⟩] (by kernel_rfl) (by exact ⟨by kernel_rfl, by kernel_rfl⟩) (by kernel_rfl) ?_ ?_
      · exact ⟨fun _ => astep_move rfl,
    fun _ => astep_pcall (first := []) (cap := []) (vs := [(.dat 5 ((p0 : List GRow).map c_GRow))]) rfl enter19 (law01_TableX_ok N p0 _ hf23) rfl rfl (nl_cons (nl_dat nl_GRow _) nl_nil) (nl_dat nl_GRow _) rfl,
    fun _ => astep_move rfl,
    fun _ => astep_move rfl,
    fun _ => astep_sliced (k := .i64) (k' := .i64) (lo := none) (hi := some (.tmp 87)) (l := 0) (hh := x21) rfl Try.underlying51 ti3 rfl (fun _ => rfl) (fun e => nomatch e) (and3a hs25) (and3b hs25) (and3c (c_i64) hs25) (sl_nh c_i64),
    fun _ => astep_app rfl Try.underlying51 te3 (Base.nil) rfl rfl (ones_map c_i64 one_i64 _) (app_le1n c_i64 ha26) (app_le2n c_i64 ha26 (by decide)) (app_map0 c_i64) rfl rfl,
    fun _ => astep_load rfl ti39 (by decide) rfl (Nat.le_of_ble_eq_true rfl) rfl,
    fun _ => astep_pcall (first := []) (cap := []) (vs := [(.agg [I p2.Mass, I p2.Heat, I p2.Silica, I p2.Gas])]) rfl enter26 (law01_StreamX_ok N p2 _ hf27) rfl rfl (nl_cons (NLt.agg _ (nl_cons (NLt.lit _) (nl_cons (NLt.lit _) (nl_cons (NLt.lit _) (nl_cons (NLt.lit _) nl_nil))))) nl_nil) (NLt.agg _ (nl_cons (NLt.lit _) (nl_cons (NLt.lit _) (nl_cons (NLt.lit _) (nl_cons (NLt.lit _) nl_nil))))) rfl,
    fun _ => astep_weak (rd' := (.func 49, (.fn (.func 49) [] [])) :: [(.tmp 85, (.dat 5 ((x24 : List GRow).map c_GRow))), (.tmp 89, (.dat 1 (((p1).take (x21.toNat - 0) : List Int).map c_i64))), (.tmp 91, (.agg [I x28.Mass, I x28.Heat, I x28.Silica, I x28.Gas]))]) ⟨rfl, Less.rfl, rfl, Less.rfl, rfl, Less.acc, rfl, Less.rfl, trivial⟩ (astep_pcall (first := []) (cap := []) (vs := [(.dat 5 ((x24 : List GRow).map c_GRow)), (.dat 1 (((p1).take (x21.toNat - 0) : List Int).map c_i64)), (.agg [I x28.Mass, I x28.Heat, I x28.Silica, I x28.Gas])]) rfl enter49 (steam_TrainX_ok N x24 ((p1).take (x21.toNat - 0)) x28 _ hf29) rfl rfl (nl_cons (nl_dat nl_GRow _) (nl_cons (nl_dat nl_i64 _) (nl_cons (NLt.agg _ (nl_cons (NLt.lit _) (nl_cons (NLt.lit _) (nl_cons (NLt.lit _) (nl_cons (NLt.lit _) nl_nil))))) nl_nil))) (NLt.tup _ (nl_cons (nl_dat nl_GParts _) (nl_cons (NLt.lit _) nl_nil))) rfl),
    fun _ => astep_move rfl,
    fun _ => astep_extract rfl rfl,
    fun _ => astep_extract rfl rfl,
    fun _ => astep_assign rfl,
    fun _ => astep_assign rfl, trivial⟩
      obtain ⟨k31, hk_k31, h⟩ := joinK_out h
      refine awp_join (τ := Unit) (fun t => k31 t = some r) (fun _ => ⟨mk 167 [(0, (.dat 5 ((p0 : List GRow).map c_GRow))), (1, (.dat 1 ((p1 : List Int).map c_i64))), (9, (.dat 10 ((x8.1 : List GParts).map c_GParts))), (13, I x21), (14, (.dat 10 ((x30.1 : List GParts).map c_GParts)))], []⟩) (fun t h => ?_) ?_
      · subst hk_k31
        obtain ⟨k32, hk_k32, h⟩ := joinK_out h
        refine awp_join (τ := Unit) (fun t => k32 t = some r) (fun _ => ⟨mk 167 [(0, (.dat 5 ((p0 : List GRow).map c_GRow))), (1, (.dat 1 ((p1 : List Int).map c_i64))), (9, (.dat 10 ((x8.1 : List GParts).map c_GParts))), (13, I x21), (14, (.dat 10 ((x30.1 : List GParts).map c_GParts)))], []⟩) (fun t h => ?_) ?_
        · subst hk_k32
          refine awp_seq ?_
          refine awp_reg [⟨[(.tmp 13, I x21)], [], I x21, [], false⟩,
    ⟨[(.tmp 1, (.dat 1 ((p1 : List Int).map c_i64)))], [], (.dat 1 ((p1 : List Int).map c_i64)), [], false⟩,
    ⟨[(.tmp 118, (.dat 1 ((p1 : List Int).map c_i64)))], [], (I ((p1.length : Int))), [], false⟩,
    ⟨[(.tmp 117, I x21), (.tmp 119, (I ((p1.length : Int))))], [], (B ((x21 == (p1.length : Int)))), [], false⟩] (by exact ⟨by kernel_rfl, by kernel_rfl⟩) ?_ ?_
          · exact ⟨fun _ => astep_move rfl,
    fun _ => astep_move rfl,
    fun _ => astep_lenm (c := c_i64) (l := p1) (astep_len rfl Try.underlying51 rfl),
    fun _ => astep_bin rfl rfl, trivial⟩
          rcases Bool.eq_false_or_eq_true ((x21 == (p1.length : Int))) with hc33 | hc33
          · replace h := bif_t hc33 h
            refine awp_ift hc33 (by kernel_rfl) ?_
            obtain ⟨x35, hf34, h⟩ := bind_out h
            refine awp_reg [⟨[(.func 17, (.fn (.func 17) [] []))], [], B x35, [], false⟩,
    ⟨[(.tmp 121, B x35)], [], B x35, [], false⟩] (by exact ⟨by kernel_rfl, by kernel_rfl⟩) ?_ ?_
            · exact ⟨fun _ => astep_pcall (first := []) (cap := []) (vs := []) rfl enter17 (law01_awakeX_ok N  _ hf34) rfl rfl nl_nil (NLt.lit _) rfl,
    fun _ => astep_assign rfl, trivial⟩
            refine awp_ret ?_
            refine thenA_r ?_
            obtain rfl := Option.some.inj h
            exact ⟨⟨[B x35], ⟨resOK_tmp (by kernel_rfl), trivial⟩, rfl⟩, (NLt.lit _), Nat.le_refl _, fun n hn => absurd hn (Nat.not_lt_zero n)⟩
          · replace h := bif_f hc33 h
            refine awp_ifn hc33 (by kernel_rfl) ?_
            refine awp_skip ?_
            refine thenA_n ?_
            obtain ⟨x37, hf36, h⟩ := bind_out h
            obtain ⟨hs38, h⟩ := chk_out h
            obtain ⟨ha39, h⟩ := chk_out h
            obtain ⟨x40, hg41, h⟩ := bind_out h
            obtain ⟨hi42, hj43⟩ := getI_some hg41
            obtain ⟨x45, hf44, h⟩ := bind_out h
            refine awp_regd [⟨[(.tmp 0, (.dat 5 ((p0 : List GRow).map c_GRow)))], [], (.dat 5 ((p0 : List GRow).map c_GRow)), [], false⟩,
    ⟨[(.func 19, (.fn (.func 19) [] [])), (.tmp 123, (.dat 5 ((p0 : List GRow).map c_GRow)))], [], (.dat 5 ((x37 : List GRow).map c_GRow)), [], false⟩,
    ⟨[(.tmp 1, (.dat 1 ((p1 : List Int).map c_i64)))], [], (.dat 1 ((p1 : List Int).map c_i64)), [], false⟩,
    ⟨[(.tmp 13, I x21)], [], I x21, [], false⟩,
    ⟨[(.tmp 125, (.dat 1 ((p1 : List Int).map c_i64))), (.tmp 126, I x21)], [], (.dat 1 ((p1.drop x21.toNat : List Int).map c_i64)), [], false⟩,
    ⟨[((.const (.slice none 0 0)), nilS), (.tmp 127, (.dat 1 ((p1.drop x21.toNat : List Int).map c_i64)))], [(0, .unused)], (.acc 0 3 1 ((p1.drop x21.toNat : List Int).map c_i64)), [(0, .tok)], false⟩,
    ⟨[(.tmp 14, (.dat 10 ((x30.1 : List GParts).map c_GParts)))], [], (.dat 10 ((x30.1 : List GParts).map c_GParts)), [], false⟩,
    ⟨[(.tmp 13, I x21)], [], I x21, [], false⟩,
    ⟨[(.tmp 130, I x21), (.const (.int .i64 1), I 1)], [], (I (w64 (x21 - 1))), [], false⟩,
    ⟨[(.tmp 129, (.dat 10 ((x30.1 : List GParts).map c_GParts))), (.tmp 131, (I (w64 (x21 - 1))))], [], (.dptr (c_GParts (x40)) 0), [], false⟩,
    ⟨[(.tmp 132, (.dptr (c_GParts (x40)) 0))], [], (.dptr (c_GParts (x40)) 4), [], false⟩,
    ⟨[(.tmp 133, (.dptr (c_GParts (x40)) 4))], [], (.agg [I x40.Water.Mass, I x40.Water.Heat, I x40.Water.Silica, I x40.Water.Gas]), [], false⟩,
    ⟨[(.func 49, (.fn (.func 49) [] [])), (.tmp 124, (.dat 5 ((x37 : List GRow).map c_GRow))), (.tmp 128, (.acc 0 3 1 ((p1.drop x21.toNat : List Int).map c_i64))), (.tmp 134, (.agg [I x40.Water.Mass, I x40.Water.Heat, I x40.Water.Silica, I x40.Water.Gas]))], [], (.tup [(.dat 10 ((x45.1 : List GParts).map c_GParts)), I x45.2]), [], false⟩,
    ⟨[(.tmp 135, (.tup [(.dat 10 ((x45.1 : List GParts).map c_GParts)), I x45.2]))], [], (.tup [(.dat 10 ((x45.1 : List GParts).map c_GParts)), I x45.2]), [], false⟩,
    ⟨[(.tmp 122, (.tup [(.dat 10 ((x45.1 : List GParts).map c_GParts)), I x45.2]))], [], (.dat 10 ((x45.1 : List GParts).map c_GParts)), [], false⟩,
    ⟨[(.tmp 122, (.tup [(.dat 10 ((x45.1 : List GParts).map c_GParts)), I x45.2]))], [], I x45.2, [], false⟩,
    ⟨[(.tmp 136, (.dat 10 ((x45.1 : List GParts).map c_GParts)))], [], (.dat 10 ((x45.1 : List GParts).map c_GParts)), [], false⟩,
    ⟨[(.tmp 137, I x45.2)], [], I x45.2, [], false⟩] (by kernel_rfl) (by exact ⟨by kernel_rfl, by kernel_rfl⟩) (by kernel_rfl) ?_ ?_
            · exact ⟨fun _ => astep_move rfl,
    fun _ => astep_pcall (first := []) (cap := []) (vs := [(.dat 5 ((p0 : List GRow).map c_GRow))]) rfl enter19 (law01_TableX_ok N p0 _ hf36) rfl rfl (nl_cons (nl_dat nl_GRow _) nl_nil) (nl_dat nl_GRow _) rfl,
    fun _ => astep_move rfl,
    fun _ => astep_move rfl,
    fun _ => astep_sliced (k := .i64) (k' := .i64) (lo := some (.tmp 126)) (hi := none) (l := x21) (hh := ((p1.length : Nat) : Int)) rfl Try.underlying51 ti3 rfl (fun e => nomatch e) (fun _ => by simp) (and3a hs38) (and3b hs38) (and3c (c_i64) hs38) (sl_ln c_i64),
    fun _ => astep_app rfl Try.underlying51 te3 (Base.nil) rfl rfl (ones_map c_i64 one_i64 _) (app_le1n c_i64 ha39) (app_le2n c_i64 ha39 (by decide)) (app_map0 c_i64) rfl rfl,
    fun _ => astep_move rfl,
    fun _ => astep_move rfl,
    fun _ => astep_bin rfl rfl,
    fun _ => astep_idxd rfl Try.underlying98 ti44 rfl rfl hi42 (map_get c_GParts hj43) rfl,
    fun _ => astep_faddrd rfl Try.underlying44 rfl rfl ti42 (by decide) rfl,
    fun _ => astep_loadd rfl ti42 (by decide) (Nat.le_of_ble_eq_true rfl) rfl,
    fun _ => astep_weak (rd' := (.func 49, (.fn (.func 49) [] [])) :: [(.tmp 124, (.dat 5 ((x37 : List GRow).map c_GRow))), (.tmp 128, (.dat 1 ((p1.drop x21.toNat : List Int).map c_i64))), (.tmp 134, (.agg [I x40.Water.Mass, I x40.Water.Heat, I x40.Water.Silica, I x40.Water.Gas]))]) ⟨rfl, Less.rfl, rfl, Less.rfl, rfl, Less.acc, rfl, Less.rfl, trivial⟩ (astep_pcall (first := []) (cap := []) (vs := [(.dat 5 ((x37 : List GRow).map c_GRow)), (.dat 1 ((p1.drop x21.toNat : List Int).map c_i64)), (.agg [I x40.Water.Mass, I x40.Water.Heat, I x40.Water.Silica, I x40.Water.Gas])]) rfl enter49 (steam_TrainX_ok N x37 (p1.drop x21.toNat) (⟨x40.Water.Mass, x40.Water.Heat, x40.Water.Silica, x40.Water.Gas⟩ : GStream) _ hf44) rfl rfl (nl_cons (nl_dat nl_GRow _) (nl_cons (nl_dat nl_i64 _) (nl_cons (NLt.agg _ (nl_cons (NLt.lit _) (nl_cons (NLt.lit _) (nl_cons (NLt.lit _) (nl_cons (NLt.lit _) nl_nil))))) nl_nil))) (NLt.tup _ (nl_cons (nl_dat nl_GParts _) (nl_cons (NLt.lit _) nl_nil))) rfl),
    fun _ => astep_move rfl,
    fun _ => astep_extract rfl rfl,
    fun _ => astep_extract rfl rfl,
    fun _ => astep_assign rfl,
    fun _ => astep_assign rfl, trivial⟩
            obtain ⟨k46, hk_k46, h⟩ := joinK_out h
            refine awp_join (τ := Unit) (fun t => k46 t = some r) (fun _ => ⟨mk 167 [(9, (.dat 10 ((x8.1 : List GParts).map c_GParts))), (13, I x21), (17, (.dat 10 ((x45.1 : List GParts).map c_GParts)))], []⟩) (fun t h => ?_) ?_
            · subst hk_k46
              obtain ⟨k47, hk_k47, h⟩ := joinK_out h
              refine awp_join (τ := Unit) (fun t => k47 t = some r) (fun _ => ⟨mk 167 [], []⟩) (fun t h => ?_) ?_
              · subst hk_k47
                obtain ⟨x49, hf48, h⟩ := bind_out h
                refine awp_reg [⟨[(.func 17, (.fn (.func 17) [] []))], [], B x49, [], false⟩,
    ⟨[(.tmp 166, B x49)], [], B x49, [], false⟩] (by exact ⟨by kernel_rfl, by kernel_rfl⟩) ?_ ?_
                · exact ⟨fun _ => astep_pcall (first := []) (cap := []) (vs := []) rfl enter17 (law01_awakeX_ok N  _ hf48) rfl rfl nl_nil (NLt.lit _) rfl,
    fun _ => astep_assign rfl, trivial⟩
                refine awp_ret ?_
                obtain rfl := Option.some.inj h
                exact ⟨⟨[B x49], ⟨resOK_tmp (by kernel_rfl), trivial⟩, rfl⟩, (NLt.lit _), Nat.le_refl _, fun n hn => absurd hn (Nat.not_lt_zero n)⟩
              · skip
                refine awp_reg [⟨[(.const (.int .i64 0), I 0)], [], I 0, [], false⟩] (by exact ⟨by kernel_rfl, by kernel_rfl⟩) ?_ ?_
                · exact ⟨fun _ => astep_assign rfl, trivial⟩
                refine awp_block ?_
                refine awp_mor (mor_to (n := 167) (l' := [(9, (.dat 10 ((x8.1 : List GParts).map c_GParts))), (13, I x21), (17, (.dat 10 ((x45.1 : List GParts).map c_GParts))), (19, I 0)]) (own' := []) [(9, (.dat 10 ((x8.1 : List GParts).map c_GParts))), (13, I x21), (17, (.dat 10 ((x45.1 : List GParts).map c_GParts))), (19, I 0)] [] [] hφ0 (by kernel_rfl) (by kernel_rfl) (by kernel_rfl) ⟨rfl, .rn (.plain _ (nl_dat nl_GParts _)), rfl, .rn (.plain _ (NLt.lit _)), rfl, .rn (.plain _ (nl_dat nl_GParts _)), rfl, .rn (.plain _ (NLt.lit _)), trivial⟩ trivial) ?_
                refine awp_ind (τ := Int) (fun n t => law01_SteamStepsX_loop1 N x8 x21 x45 k47 n t = some r) (fun y50 => ⟨mk 167 [(9, (.dat 10 ((x8.1 : List GParts).map c_GParts))), (13, I x21), (17, (.dat 10 ((x45.1 : List GParts).map c_GParts))), (19, I y50)], []⟩) (fun t h => by rw [law01_SteamStepsX_loop1] at h; cases h) (fun n52 ih y50 h => ?_) N (0) h
                rw [law01_SteamStepsX_loop1] at h
                skip
                refine awp_seq ?_
                refine awp_reg [⟨[(.tmp 19, I y50)], [], I y50, [], false⟩,
    ⟨[(.tmp 17, (.dat 10 ((x45.1 : List GParts).map c_GParts)))], [], (.dat 10 ((x45.1 : List GParts).map c_GParts)), [], false⟩,
    ⟨[(.tmp 150, (.dat 10 ((x45.1 : List GParts).map c_GParts)))], [], (I ((x45.1.length : Int))), [], false⟩,
    ⟨[(.tmp 149, I y50), (.tmp 151, (I ((x45.1.length : Int))))], [], (B ((decide (y50 < (x45.1.length : Int))))), [], false⟩] (by exact ⟨by kernel_rfl, by kernel_rfl⟩) ?_ ?_
                · exact ⟨fun _ => astep_move rfl,
    fun _ => astep_move rfl,
    fun _ => astep_lenm (c := c_GParts) (l := x45.1) (astep_len rfl Try.underlying98 rfl),
    fun _ => astep_bin rfl rfl, trivial⟩
                rcases Bool.eq_false_or_eq_true ((decide (y50 < (x45.1.length : Int)))) with hc53 | hc53
                · replace h := bif_t hc53 h
                  refine awp_ift hc53 (by kernel_rfl) ?_
                  refine awp_skip ?_
                  refine thenA_n ?_
                  refine awp_seq ?_
                  refine awp_block ?_
                  obtain ⟨x54, hg55, h⟩ := bind_out h
                  obtain ⟨hi56, hj57⟩ := getI_some hg55
                  obtain ⟨x58, hg59, h⟩ := bind_out h
                  obtain ⟨hi60, hj61⟩ := getI_some hg59
                  refine awp_regd [⟨[(.tmp 17, (.dat 10 ((x45.1 : List GParts).map c_GParts)))], [], (.dat 10 ((x45.1 : List GParts).map c_GParts)), [], false⟩,
    ⟨[(.tmp 19, I y50)], [], I y50, [], false⟩,
    ⟨[(.tmp 155, (.dat 10 ((x45.1 : List GParts).map c_GParts))), (.tmp 156, I y50)], [], (.dptr (c_GParts (x54)) 0), [], false⟩,
    ⟨[(.tmp 157, (.dptr (c_GParts (x54)) 0))], [], (.agg [I x54.Steam.Mass, I x54.Steam.Heat, I x54.Steam.Silica, I x54.Steam.Gas, I x54.Water.Mass, I x54.Water.Heat, I x54.Water.Silica, I x54.Water.Gas, I x54.Rest, I x54.Scale]), [], false⟩,
    ⟨[(.tmp 9, (.dat 10 ((x8.1 : List GParts).map c_GParts)))], [], (.dat 10 ((x8.1 : List GParts).map c_GParts)), [], false⟩,
    ⟨[(.tmp 13, I x21)], [], I x21, [], false⟩,
    ⟨[(.tmp 19, I y50)], [], I y50, [], false⟩,
    ⟨[(.tmp 160, I x21), (.tmp 161, I y50)], [], (I (w64 (x21 + y50))), [], false⟩,
    ⟨[(.tmp 159, (.dat 10 ((x8.1 : List GParts).map c_GParts))), (.tmp 162, (I (w64 (x21 + y50))))], [], (.dptr (c_GParts (x58)) 0), [], false⟩,
    ⟨[(.tmp 163, (.dptr (c_GParts (x58)) 0))], [], (.agg [I x58.Steam.Mass, I x58.Steam.Heat, I x58.Steam.Silica, I x58.Steam.Gas, I x58.Water.Mass, I x58.Water.Heat, I x58.Water.Silica, I x58.Water.Gas, I x58.Rest, I x58.Scale]), [], false⟩,
    ⟨[(.tmp 158, (.agg [I x54.Steam.Mass, I x54.Steam.Heat, I x54.Steam.Silica, I x54.Steam.Gas, I x54.Water.Mass, I x54.Water.Heat, I x54.Water.Silica, I x54.Water.Gas, I x54.Rest, I x54.Scale])), (.tmp 164, (.agg [I x58.Steam.Mass, I x58.Steam.Heat, I x58.Steam.Silica, I x58.Steam.Gas, I x58.Water.Mass, I x58.Water.Heat, I x58.Water.Silica, I x58.Water.Gas, I x58.Rest, I x58.Scale]))], [], (B ((!(([x54.Steam.Mass, x54.Steam.Heat, x54.Steam.Silica, x54.Steam.Gas, x54.Water.Mass, x54.Water.Heat, x54.Water.Silica, x54.Water.Gas, x54.Rest, x54.Scale] : List Int) == [x58.Steam.Mass, x58.Steam.Heat, x58.Steam.Silica, x58.Steam.Gas, x58.Water.Mass, x58.Water.Heat, x58.Water.Silica, x58.Water.Gas, x58.Rest, x58.Scale])))), [], false⟩] (by kernel_rfl) (by exact ⟨by kernel_rfl, by kernel_rfl⟩) (by kernel_rfl) ?_ ?_
                  · exact ⟨fun _ => astep_move rfl,
    fun _ => astep_move rfl,
    fun _ => astep_idxd rfl Try.underlying98 ti44 rfl rfl hi56 (map_get c_GParts hj57) rfl,
    fun _ => astep_loadd rfl ti44 (by decide) (Nat.le_of_ble_eq_true rfl) rfl,
    fun _ => astep_move rfl,
    fun _ => astep_move rfl,
    fun _ => astep_move rfl,
    fun _ => astep_bin rfl rfl,
    fun _ => astep_idxd rfl Try.underlying98 ti44 rfl rfl hi60 (map_get c_GParts hj61) rfl,
    fun _ => astep_loadd rfl ti44 (by decide) (Nat.le_of_ble_eq_true rfl) rfl,
    fun _ => astep_nes (ls := [x54.Steam.Mass, x54.Steam.Heat, x54.Steam.Silica, x54.Steam.Gas, x54.Water.Mass, x54.Water.Heat, x54.Water.Silica, x54.Water.Gas, x54.Rest, x54.Scale]) (ks := [x58.Steam.Mass, x58.Steam.Heat, x58.Steam.Silica, x58.Steam.Gas, x58.Water.Mass, x58.Water.Heat, x58.Water.Silica, x58.Water.Gas, x58.Rest, x58.Scale]) rfl rfl eqt44 (by kernel_rfl) rfl rfl, trivial⟩
                  rcases Bool.eq_false_or_eq_true ((!(([x54.Steam.Mass, x54.Steam.Heat, x54.Steam.Silica, x54.Steam.Gas, x54.Water.Mass, x54.Water.Heat, x54.Water.Silica, x54.Water.Gas, x54.Rest, x54.Scale] : List Int) == [x58.Steam.Mass, x58.Steam.Heat, x58.Steam.Silica, x58.Steam.Gas, x58.Water.Mass, x58.Water.Heat, x58.Water.Silica, x58.Water.Gas, x58.Rest, x58.Scale]))) with hc62 | hc62
                  · replace h := bif_t hc62 h
                    refine awp_ift hc62 (by kernel_rfl) ?_
                    refine awp_reg [⟨[(.const (.bool false), B false)], [], B false, [], false⟩] (by exact ⟨by kernel_rfl, by kernel_rfl⟩) ?_ ?_
                    · exact ⟨fun _ => astep_assign rfl, trivial⟩
                    refine awp_ret ?_
                    refine blockA_r ?_
                    refine thenA_r ?_
                    refine thenA_r ?_
                    refine blockA_r ?_
                    refine thenA_r ?_
                    obtain rfl := Option.some.inj h
                    exact ⟨⟨[B false], ⟨resOK_tmp (by kernel_rfl), trivial⟩, rfl⟩, (NLt.lit _), Nat.le_refl _, fun n hn => absurd hn (Nat.not_lt_zero n)⟩
                  · replace h := bif_f hc62 h
                    refine awp_ifn hc62 (by kernel_rfl) ?_
                    refine awp_skip ?_
                    refine blockA_n ?_
                    refine thenA_n ?_
                    refine awp_reg1 [⟨[(.tmp 19, I y50)], [], I y50, [], false⟩,
    ⟨[(.tmp 153, I y50), (.const (.int .i64 1), I 1)], [], (I (w64 (y50 + 1))), [], false⟩,
    ⟨[(.tmp 154, (I (w64 (y50 + 1))))], [], (I (w64 (y50 + 1))), [], false⟩] (by exact ⟨by kernel_rfl, by kernel_rfl⟩) ?_ ?_
                    · exact ⟨fun _ => astep_move rfl,
    fun _ => astep_bin rfl rfl,
    fun _ => astep_assign rfl, trivial⟩
                    refine thenA_n ?_
                    exact around_mor (mor_to (n := 167) (l' := [(9, (.dat 10 ((x8.1 : List GParts).map c_GParts))), (13, I x21), (17, (.dat 10 ((x45.1 : List GParts).map c_GParts))), (19, (I ((w64 (y50 + 1)))))]) (own' := []) [(9, (.dat 10 ((x8.1 : List GParts).map c_GParts))), (13, I x21), (17, (.dat 10 ((x45.1 : List GParts).map c_GParts))), (19, (I (w64 (y50 + 1))))] [] [] hφ0 (by kernel_rfl) (by kernel_rfl) (by kernel_rfl) ⟨rfl, .rn (.plain _ (nl_dat nl_GParts _)), rfl, .rn (.plain _ (NLt.lit _)), rfl, .rn (.plain _ (nl_dat nl_GParts _)), rfl, .rn (.plain _ (NLt.lit _)), trivial⟩ trivial) (ih (w64 (y50 + 1)) h)
                · replace h := bif_f hc53 h
                  refine awp_ifn hc53 (by kernel_rfl) ?_
                  refine awp_exit ?_
                  refine thenA_x ?_
                  refine thenA_x ?_
                  refine blockA_e rfl ?_
                  refine thenA_n ?_
                  exact ⟨(), h, (mor_to (n := 167) (l' := []) (own' := []) [] [] [] hφ0 (by kernel_rfl) (by kernel_rfl) (by kernel_rfl) trivial trivial)⟩
            · skip
              rcases Bool.eq_false_or_eq_true ((x45.2 != 0)) with hb63 | hb63
              · replace h := bif_t hb63 h
                refine awp_reg [⟨[(.tmp 18, I x45.2)], [], I x45.2, [], false⟩,
    ⟨[(.tmp 138, I x45.2), (.const (.int .i64 0), I 0)], [], (B ((x45.2 != 0))), [], false⟩,
    ⟨[(.tmp 139, (B ((x45.2 != 0))))], [], B true, [], false⟩,
    ⟨[(.tmp 140, B true)], [], (.lit undef), [], true⟩,
    ⟨[(.tmp 140, B true)], [], (.lit undef), [], true⟩,
    ⟨[(.tmp 140, B true)], [], (.lit undef), [], true⟩,
    ⟨[(.tmp 140, B true)], [], (.lit undef), [], true⟩,
    ⟨[(.tmp 140, B true)], [], (.lit undef), [], true⟩,
    ⟨[(.tmp 140, B true)], [], (.lit undef), [], true⟩,
    ⟨[(.tmp 140, B true)], [], (.lit undef), [], true⟩,
    ⟨[(.tmp 140, B true), (.const (.bool true), B true), (.tmp 147, (.lit undef))], [], B true, [], false⟩] (by exact ⟨by kernel_rfl, by kernel_rfl⟩) ?_ ?_
                · exact ⟨fun _ => astep_move rfl,
    fun _ => astep_bin rfl rfl,
    fun _ => astep_b hb63 (astep_move rfl),
    fun hs => (Bool.noConfusion hs),
    fun hs => (Bool.noConfusion hs),
    fun hs => (Bool.noConfusion hs),
    fun hs => (Bool.noConfusion hs),
    fun hs => (Bool.noConfusion hs),
    fun hs => (Bool.noConfusion hs),
    fun hs => (Bool.noConfusion hs),
    fun _ => astep_pick rfl rfl, trivial⟩
                refine awp_true (by kernel_rfl) ?_
                refine awp_reg [⟨[(.const (.bool false), B false)], [], B false, [], false⟩] (by exact ⟨by kernel_rfl, by kernel_rfl⟩) ?_ ?_
                · exact ⟨fun _ => astep_assign rfl, trivial⟩
                refine awp_ret ?_
                refine thenA_r ?_
                obtain rfl := Option.some.inj h
                exact ⟨⟨[B false], ⟨resOK_tmp (by kernel_rfl), trivial⟩, rfl⟩, (NLt.lit _), Nat.le_refl _, fun n hn => absurd hn (Nat.not_lt_zero n)⟩
              · replace h := bif_f hb63 h
                refine awp_reg [⟨[(.tmp 18, I x45.2)], [], I x45.2, [], false⟩,
    ⟨[(.tmp 138, I x45.2), (.const (.int .i64 0), I 0)], [], (B ((x45.2 != 0))), [], false⟩,
    ⟨[(.tmp 139, (B ((x45.2 != 0))))], [], B false, [], false⟩,
    ⟨[(.tmp 140, B false), (.tmp 17, (.dat 10 ((x45.1 : List GParts).map c_GParts)))], [], (.dat 10 ((x45.1 : List GParts).map c_GParts)), [], false⟩,
    ⟨[(.tmp 140, B false), (.tmp 141, (.dat 10 ((x45.1 : List GParts).map c_GParts)))], [], (I ((x45.1.length : Int))), [], false⟩,
    ⟨[(.tmp 140, B false), (.tmp 1, (.dat 1 ((p1 : List Int).map c_i64)))], [], (.dat 1 ((p1 : List Int).map c_i64)), [], false⟩,
    ⟨[(.tmp 140, B false), (.tmp 143, (.dat 1 ((p1 : List Int).map c_i64)))], [], (I ((p1.length : Int))), [], false⟩,
    ⟨[(.tmp 140, B false), (.tmp 13, I x21)], [], I x21, [], false⟩,
    ⟨[(.tmp 140, B false), (.tmp 144, (I ((p1.length : Int)))), (.tmp 145, I x21)], [], (I (w64 ((p1.length : Int) - x21))), [], false⟩,
    ⟨[(.tmp 140, B false), (.tmp 142, (I ((x45.1.length : Int)))), (.tmp 146, (I (w64 ((p1.length : Int) - x21))))], [], (B (((x45.1.length : Int) != (w64 ((p1.length : Int) - x21))))), [], false⟩,
    ⟨[(.tmp 140, B false), (.const (.bool true), B true), (.tmp 147, (B (((x45.1.length : Int) != (w64 ((p1.length : Int) - x21))))))], [], (B (((x45.1.length : Int) != (w64 ((p1.length : Int) - x21))))), [], false⟩] (by exact ⟨by kernel_rfl, by kernel_rfl⟩) ?_ ?_
                · exact ⟨fun _ => astep_move rfl,
    fun _ => astep_bin rfl rfl,
    fun _ => astep_b hb63 (astep_move rfl),
    fun _ => astep_guard (astep_move rfl),
    fun _ => astep_guard (astep_lenm (c := c_GParts) (l := x45.1) (astep_len rfl Try.underlying98 rfl)),
    fun _ => astep_guard (astep_move rfl),
    fun _ => astep_guard (astep_lenm (c := c_i64) (l := p1) (astep_len rfl Try.underlying51 rfl)),
    fun _ => astep_guard (astep_move rfl),
    fun _ => astep_guard (astep_bin rfl rfl),
    fun _ => astep_guard (astep_bin rfl rfl),
    fun _ => astep_pick rfl rfl, trivial⟩
                rcases Bool.eq_false_or_eq_true (((x45.1.length : Int) != (w64 ((p1.length : Int) - x21)))) with hc64 | hc64
                · replace h := bif_t hc64 h
                  refine awp_ift hc64 (by kernel_rfl) ?_
                  refine awp_reg [⟨[(.const (.bool false), B false)], [], B false, [], false⟩] (by exact ⟨by kernel_rfl, by kernel_rfl⟩) ?_ ?_
                  · exact ⟨fun _ => astep_assign rfl, trivial⟩
                  refine awp_ret ?_
                  refine thenA_r ?_
                  obtain rfl := Option.some.inj h
                  exact ⟨⟨[B false], ⟨resOK_tmp (by kernel_rfl), trivial⟩, rfl⟩, (NLt.lit _), Nat.le_refl _, fun n hn => absurd hn (Nat.not_lt_zero n)⟩
                · replace h := bif_f hc64 h
                  refine awp_ifn hc64 (by kernel_rfl) ?_
                  refine awp_skip ?_
                  refine thenA_n ?_
                  exact ⟨(), h, (mor_to (n := 167) (l' := [(9, (.dat 10 ((x8.1 : List GParts).map c_GParts))), (13, I x21), (17, (.dat 10 ((x45.1 : List GParts).map c_GParts)))]) (own' := []) [(9, (.dat 10 ((x8.1 : List GParts).map c_GParts))), (13, I x21), (17, (.dat 10 ((x45.1 : List GParts).map c_GParts)))] [] [] hφ0 (by kernel_rfl) (by kernel_rfl) (by kernel_rfl) ⟨rfl, .rn (.plain _ (nl_dat nl_GParts _)), rfl, .rn (.plain _ (NLt.lit _)), rfl, .rn (.plain _ (nl_dat nl_GParts _)), trivial⟩ trivial)⟩
        · skip
          refine awp_reg [⟨[(.const (.int .i64 0), I 0)], [], I 0, [], false⟩] (by exact ⟨by kernel_rfl, by kernel_rfl⟩) ?_ ?_
          · exact ⟨fun _ => astep_assign rfl, trivial⟩
          refine awp_block ?_
          refine awp_mor (mor_to (n := 167) (l' := [(0, (.dat 5 ((p0 : List GRow).map c_GRow))), (1, (.dat 1 ((p1 : List Int).map c_i64))), (9, (.dat 10 ((x8.1 : List GParts).map c_GParts))), (13, I x21), (14, (.dat 10 ((x30.1 : List GParts).map c_GParts))), (16, I 0)]) (own' := []) [(0, (.dat 5 ((p0 : List GRow).map c_GRow))), (1, (.dat 1 ((p1 : List Int).map c_i64))), (9, (.dat 10 ((x8.1 : List GParts).map c_GParts))), (13, I x21), (14, (.dat 10 ((x30.1 : List GParts).map c_GParts))), (16, I 0)] [] [] hφ0 (by kernel_rfl) (by kernel_rfl) (by kernel_rfl) ⟨rfl, .rn (.plain _ (nl_dat nl_GRow _)), rfl, .rn (.plain _ (nl_dat nl_i64 _)), rfl, .rn (.plain _ (nl_dat nl_GParts _)), rfl, .rn (.plain _ (NLt.lit _)), rfl, .rn (.plain _ (nl_dat nl_GParts _)), rfl, .rn (.plain _ (NLt.lit _)), trivial⟩ trivial) ?_
          refine awp_ind (τ := Int) (fun n t => law01_SteamStepsX_loop2 N x8 x21 x30 k32 n t = some r) (fun y65 => ⟨mk 167 [(0, (.dat 5 ((p0 : List GRow).map c_GRow))), (1, (.dat 1 ((p1 : List Int).map c_i64))), (9, (.dat 10 ((x8.1 : List GParts).map c_GParts))), (13, I x21), (14, (.dat 10 ((x30.1 : List GParts).map c_GParts))), (16, I y65)], []⟩) (fun t h => by rw [law01_SteamStepsX_loop2] at h; cases h) (fun n67 ih y65 h => ?_) N (0) h
          rw [law01_SteamStepsX_loop2] at h
          skip
          refine awp_seq ?_
          refine awp_reg [⟨[(.tmp 16, I y65)], [], I y65, [], false⟩,
    ⟨[(.tmp 13, I x21)], [], I x21, [], false⟩,
    ⟨[(.tmp 103, I y65), (.tmp 104, I x21)], [], (B ((decide (y65 < x21)))), [], false⟩] (by exact ⟨by kernel_rfl, by kernel_rfl⟩) ?_ ?_
          · exact ⟨fun _ => astep_move rfl,
    fun _ => astep_move rfl,
    fun _ => astep_bin rfl rfl, trivial⟩
          rcases Bool.eq_false_or_eq_true ((decide (y65 < x21))) with hc68 | hc68
          · replace h := bif_t hc68 h
            refine awp_ift hc68 (by kernel_rfl) ?_
            refine awp_skip ?_
            refine thenA_n ?_
            refine awp_seq ?_
            refine awp_block ?_
            obtain ⟨x69, hg70, h⟩ := bind_out h
            obtain ⟨hi71, hj72⟩ := getI_some hg70
            obtain ⟨x73, hg74, h⟩ := bind_out h
            obtain ⟨hi75, hj76⟩ := getI_some hg74
            refine awp_regd [⟨[(.tmp 14, (.dat 10 ((x30.1 : List GParts).map c_GParts)))], [], (.dat 10 ((x30.1 : List GParts).map c_GParts)), [], false⟩,
    ⟨[(.tmp 16, I y65)], [], I y65, [], false⟩,
    ⟨[(.tmp 108, (.dat 10 ((x30.1 : List GParts).map c_GParts))), (.tmp 109, I y65)], [], (.dptr (c_GParts (x69)) 0), [], false⟩,
    ⟨[(.tmp 110, (.dptr (c_GParts (x69)) 0))], [], (.agg [I x69.Steam.Mass, I x69.Steam.Heat, I x69.Steam.Silica, I x69.Steam.Gas, I x69.Water.Mass, I x69.Water.Heat, I x69.Water.Silica, I x69.Water.Gas, I x69.Rest, I x69.Scale]), [], false⟩,
    ⟨[(.tmp 9, (.dat 10 ((x8.1 : List GParts).map c_GParts)))], [], (.dat 10 ((x8.1 : List GParts).map c_GParts)), [], false⟩,
    ⟨[(.tmp 16, I y65)], [], I y65, [], false⟩,
    ⟨[(.tmp 112, (.dat 10 ((x8.1 : List GParts).map c_GParts))), (.tmp 113, I y65)], [], (.dptr (c_GParts (x73)) 0), [], false⟩,
    ⟨[(.tmp 114, (.dptr (c_GParts (x73)) 0))], [], (.agg [I x73.Steam.Mass, I x73.Steam.Heat, I x73.Steam.Silica, I x73.Steam.Gas, I x73.Water.Mass, I x73.Water.Heat, I x73.Water.Silica, I x73.Water.Gas, I x73.Rest, I x73.Scale]), [], false⟩,
    ⟨[(.tmp 111, (.agg [I x69.Steam.Mass, I x69.Steam.Heat, I x69.Steam.Silica, I x69.Steam.Gas, I x69.Water.Mass, I x69.Water.Heat, I x69.Water.Silica, I x69.Water.Gas, I x69.Rest, I x69.Scale])), (.tmp 115, (.agg [I x73.Steam.Mass, I x73.Steam.Heat, I x73.Steam.Silica, I x73.Steam.Gas, I x73.Water.Mass, I x73.Water.Heat, I x73.Water.Silica, I x73.Water.Gas, I x73.Rest, I x73.Scale]))], [], (B ((!(([x69.Steam.Mass, x69.Steam.Heat, x69.Steam.Silica, x69.Steam.Gas, x69.Water.Mass, x69.Water.Heat, x69.Water.Silica, x69.Water.Gas, x69.Rest, x69.Scale] : List Int) == [x73.Steam.Mass, x73.Steam.Heat, x73.Steam.Silica, x73.Steam.Gas, x73.Water.Mass, x73.Water.Heat, x73.Water.Silica, x73.Water.Gas, x73.Rest, x73.Scale])))), [], false⟩] (by kernel_rfl) (by exact ⟨by kernel_rfl, by kernel_rfl⟩) (by kernel_rfl) ?_ ?_
            · exact ⟨fun _ => astep_move rfl,
    fun _ => astep_move rfl,
    fun _ => astep_idxd rfl Try.underlying98 ti44 rfl rfl hi71 (map_get c_GParts hj72) rfl,
    fun _ => astep_loadd rfl ti44 (by decide) (Nat.le_of_ble_eq_true rfl) rfl,
    fun _ => astep_move rfl,
    fun _ => astep_move rfl,
    fun _ => astep_idxd rfl Try.underlying98 ti44 rfl rfl hi75 (map_get c_GParts hj76) rfl,
    fun _ => astep_loadd rfl ti44 (by decide) (Nat.le_of_ble_eq_true rfl) rfl,
    fun _ => astep_nes (ls := [x69.Steam.Mass, x69.Steam.Heat, x69.Steam.Silica, x69.Steam.Gas, x69.Water.Mass, x69.Water.Heat, x69.Water.Silica, x69.Water.Gas, x69.Rest, x69.Scale]) (ks := [x73.Steam.Mass, x73.Steam.Heat, x73.Steam.Silica, x73.Steam.Gas, x73.Water.Mass, x73.Water.Heat, x73.Water.Silica, x73.Water.Gas, x73.Rest, x73.Scale]) rfl rfl eqt44 (by kernel_rfl) rfl rfl, trivial⟩
            rcases Bool.eq_false_or_eq_true ((!(([x69.Steam.Mass, x69.Steam.Heat, x69.Steam.Silica, x69.Steam.Gas, x69.Water.Mass, x69.Water.Heat, x69.Water.Silica, x69.Water.Gas, x69.Rest, x69.Scale] : List Int) == [x73.Steam.Mass, x73.Steam.Heat, x73.Steam.Silica, x73.Steam.Gas, x73.Water.Mass, x73.Water.Heat, x73.Water.Silica, x73.Water.Gas, x73.Rest, x73.Scale]))) with hc77 | hc77
            · replace h := bif_t hc77 h
              refine awp_ift hc77 (by kernel_rfl) ?_
              refine awp_reg [⟨[(.const (.bool false), B false)], [], B false, [], false⟩] (by exact ⟨by kernel_rfl, by kernel_rfl⟩) ?_ ?_
              · exact ⟨fun _ => astep_assign rfl, trivial⟩
              refine awp_ret ?_
              refine blockA_r ?_
              refine thenA_r ?_
              refine thenA_r ?_
              refine blockA_r ?_
              refine thenA_r ?_
              obtain rfl := Option.some.inj h
              exact ⟨⟨[B false], ⟨resOK_tmp (by kernel_rfl), trivial⟩, rfl⟩, (NLt.lit _), Nat.le_refl _, fun n hn => absurd hn (Nat.not_lt_zero n)⟩
            · replace h := bif_f hc77 h
              refine awp_ifn hc77 (by kernel_rfl) ?_
              refine awp_skip ?_
              refine blockA_n ?_
              refine thenA_n ?_
              refine awp_reg1 [⟨[(.tmp 16, I y65)], [], I y65, [], false⟩,
    ⟨[(.tmp 106, I y65), (.const (.int .i64 1), I 1)], [], (I (w64 (y65 + 1))), [], false⟩,
    ⟨[(.tmp 107, (I (w64 (y65 + 1))))], [], (I (w64 (y65 + 1))), [], false⟩] (by exact ⟨by kernel_rfl, by kernel_rfl⟩) ?_ ?_
              · exact ⟨fun _ => astep_move rfl,
    fun _ => astep_bin rfl rfl,
    fun _ => astep_assign rfl, trivial⟩
              refine thenA_n ?_
              exact around_mor (mor_to (n := 167) (l' := [(0, (.dat 5 ((p0 : List GRow).map c_GRow))), (1, (.dat 1 ((p1 : List Int).map c_i64))), (9, (.dat 10 ((x8.1 : List GParts).map c_GParts))), (13, I x21), (14, (.dat 10 ((x30.1 : List GParts).map c_GParts))), (16, (I ((w64 (y65 + 1)))))]) (own' := []) [(0, (.dat 5 ((p0 : List GRow).map c_GRow))), (1, (.dat 1 ((p1 : List Int).map c_i64))), (9, (.dat 10 ((x8.1 : List GParts).map c_GParts))), (13, I x21), (14, (.dat 10 ((x30.1 : List GParts).map c_GParts))), (16, (I (w64 (y65 + 1))))] [] [] hφ0 (by kernel_rfl) (by kernel_rfl) (by kernel_rfl) ⟨rfl, .rn (.plain _ (nl_dat nl_GRow _)), rfl, .rn (.plain _ (nl_dat nl_i64 _)), rfl, .rn (.plain _ (nl_dat nl_GParts _)), rfl, .rn (.plain _ (NLt.lit _)), rfl, .rn (.plain _ (nl_dat nl_GParts _)), rfl, .rn (.plain _ (NLt.lit _)), trivial⟩ trivial) (ih (w64 (y65 + 1)) h)
          · replace h := bif_f hc68 h
            refine awp_ifn hc68 (by kernel_rfl) ?_
            refine awp_exit ?_
            refine thenA_x ?_
            refine thenA_x ?_
            refine blockA_e rfl ?_
            refine thenA_n ?_
            exact ⟨(), h, (mor_to (n := 167) (l' := [(0, (.dat 5 ((p0 : List GRow).map c_GRow))), (1, (.dat 1 ((p1 : List Int).map c_i64))), (9, (.dat 10 ((x8.1 : List GParts).map c_GParts))), (13, I x21), (14, (.dat 10 ((x30.1 : List GParts).map c_GParts)))]) (own' := []) [(0, (.dat 5 ((p0 : List GRow).map c_GRow))), (1, (.dat 1 ((p1 : List Int).map c_i64))), (9, (.dat 10 ((x8.1 : List GParts).map c_GParts))), (13, I x21), (14, (.dat 10 ((x30.1 : List GParts).map c_GParts)))] [] [] hφ0 (by kernel_rfl) (by kernel_rfl) (by kernel_rfl) ⟨rfl, .rn (.plain _ (nl_dat nl_GRow _)), rfl, .rn (.plain _ (nl_dat nl_i64 _)), rfl, .rn (.plain _ (nl_dat nl_GParts _)), rfl, .rn (.plain _ (NLt.lit _)), rfl, .rn (.plain _ (nl_dat nl_GParts _)), trivial⟩ trivial)⟩
      · skip
        rcases Bool.eq_false_or_eq_true ((x30.2 != 0)) with hb78 | hb78
        · replace h := bif_t hb78 h
          refine awp_reg [⟨[(.tmp 15, I x30.2)], [], I x30.2, [], false⟩,
    ⟨[(.tmp 95, I x30.2), (.const (.int .i64 0), I 0)], [], (B ((x30.2 != 0))), [], false⟩,
    ⟨[(.tmp 96, (B ((x30.2 != 0))))], [], B true, [], false⟩,
    ⟨[(.tmp 97, B true)], [], (.lit undef), [], true⟩,
    ⟨[(.tmp 97, B true)], [], (.lit undef), [], true⟩,
    ⟨[(.tmp 97, B true)], [], (.lit undef), [], true⟩,
    ⟨[(.tmp 97, B true)], [], (.lit undef), [], true⟩,
    ⟨[(.tmp 97, B true), (.const (.bool true), B true), (.tmp 101, (.lit undef))], [], B true, [], false⟩] (by exact ⟨by kernel_rfl, by kernel_rfl⟩) ?_ ?_
          · exact ⟨fun _ => astep_move rfl,
    fun _ => astep_bin rfl rfl,
    fun _ => astep_b hb78 (astep_move rfl),
    fun hs => (Bool.noConfusion hs),
    fun hs => (Bool.noConfusion hs),
    fun hs => (Bool.noConfusion hs),
    fun hs => (Bool.noConfusion hs),
    fun _ => astep_pick rfl rfl, trivial⟩
          refine awp_true (by kernel_rfl) ?_
          refine awp_reg [⟨[(.const (.bool false), B false)], [], B false, [], false⟩] (by exact ⟨by kernel_rfl, by kernel_rfl⟩) ?_ ?_
          · exact ⟨fun _ => astep_assign rfl, trivial⟩
          refine awp_ret ?_
          refine thenA_r ?_
          obtain rfl := Option.some.inj h
          exact ⟨⟨[B false], ⟨resOK_tmp (by kernel_rfl), trivial⟩, rfl⟩, (NLt.lit _), Nat.le_refl _, fun n hn => absurd hn (Nat.not_lt_zero n)⟩
        · replace h := bif_f hb78 h
          refine awp_reg [⟨[(.tmp 15, I x30.2)], [], I x30.2, [], false⟩,
    ⟨[(.tmp 95, I x30.2), (.const (.int .i64 0), I 0)], [], (B ((x30.2 != 0))), [], false⟩,
    ⟨[(.tmp 96, (B ((x30.2 != 0))))], [], B false, [], false⟩,
    ⟨[(.tmp 97, B false), (.tmp 14, (.dat 10 ((x30.1 : List GParts).map c_GParts)))], [], (.dat 10 ((x30.1 : List GParts).map c_GParts)), [], false⟩,
    ⟨[(.tmp 97, B false), (.tmp 98, (.dat 10 ((x30.1 : List GParts).map c_GParts)))], [], (I ((x30.1.length : Int))), [], false⟩,
    ⟨[(.tmp 97, B false), (.tmp 13, I x21)], [], I x21, [], false⟩,
    ⟨[(.tmp 97, B false), (.tmp 99, (I ((x30.1.length : Int)))), (.tmp 100, I x21)], [], (B (((x30.1.length : Int) != x21))), [], false⟩,
    ⟨[(.tmp 97, B false), (.const (.bool true), B true), (.tmp 101, (B (((x30.1.length : Int) != x21))))], [], (B (((x30.1.length : Int) != x21))), [], false⟩] (by exact ⟨by kernel_rfl, by kernel_rfl⟩) ?_ ?_
          · exact ⟨fun _ => astep_move rfl,
    fun _ => astep_bin rfl rfl,
    fun _ => astep_b hb78 (astep_move rfl),
    fun _ => astep_guard (astep_move rfl),
    fun _ => astep_guard (astep_lenm (c := c_GParts) (l := x30.1) (astep_len rfl Try.underlying98 rfl)),
    fun _ => astep_guard (astep_move rfl),
    fun _ => astep_guard (astep_bin rfl rfl),
    fun _ => astep_pick rfl rfl, trivial⟩
          rcases Bool.eq_false_or_eq_true (((x30.1.length : Int) != x21)) with hc79 | hc79
          · replace h := bif_t hc79 h
            refine awp_ift hc79 (by kernel_rfl) ?_
            refine awp_reg [⟨[(.const (.bool false), B false)], [], B false, [], false⟩] (by exact ⟨by kernel_rfl, by kernel_rfl⟩) ?_ ?_
            · exact ⟨fun _ => astep_assign rfl, trivial⟩
            refine awp_ret ?_
            refine thenA_r ?_
            obtain rfl := Option.some.inj h
            exact ⟨⟨[B false], ⟨resOK_tmp (by kernel_rfl), trivial⟩, rfl⟩, (NLt.lit _), Nat.le_refl _, fun n hn => absurd hn (Nat.not_lt_zero n)⟩
          · replace h := bif_f hc79 h
            refine awp_ifn hc79 (by kernel_rfl) ?_
            refine awp_skip ?_
            refine thenA_n ?_
            exact ⟨(), h, (mor_to (n := 167) (l' := [(0, (.dat 5 ((p0 : List GRow).map c_GRow))), (1, (.dat 1 ((p1 : List Int).map c_i64))), (9, (.dat 10 ((x8.1 : List GParts).map c_GParts))), (13, I x21), (14, (.dat 10 ((x30.1 : List GParts).map c_GParts)))]) (own' := []) [(0, (.dat 5 ((p0 : List GRow).map c_GRow))), (1, (.dat 1 ((p1 : List Int).map c_i64))), (9, (.dat 10 ((x8.1 : List GParts).map c_GParts))), (13, I x21), (14, (.dat 10 ((x30.1 : List GParts).map c_GParts)))] [] [] hφ0 (by kernel_rfl) (by kernel_rfl) (by kernel_rfl) ⟨rfl, .rn (.plain _ (nl_dat nl_GRow _)), rfl, .rn (.plain _ (nl_dat nl_i64 _)), rfl, .rn (.plain _ (nl_dat nl_GParts _)), rfl, .rn (.plain _ (NLt.lit _)), rfl, .rn (.plain _ (nl_dat nl_GParts _)), trivial⟩ trivial)⟩
    · skip
      rcases Bool.eq_false_or_eq_true ((x8.2 != 0)) with hb80 | hb80
      · replace h := bif_t hb80 h
        refine awp_regd [⟨[(.tmp 10, I x8.2)], [], I x8.2, [], false⟩,
    ⟨[(.tmp 57, I x8.2), (.const (.int .i64 0), I 0)], [], (B ((x8.2 != 0))), [], false⟩,
    ⟨[(.tmp 58, (B ((x8.2 != 0))))], [], B true, [], false⟩,
    ⟨[(.tmp 59, B true)], [], (.lit undef), [], true⟩,
    ⟨[(.tmp 59, B true)], [], (.lit undef), [], true⟩,
    ⟨[(.tmp 59, B true), (.const (.bool true), B true), (.tmp 61, (.lit undef))], [], B true, [], false⟩,
    ⟨[(.tmp 62, B true)], [], B true, [], false⟩,
    ⟨[(.tmp 63, B true)], [], (.lit undef), [], true⟩,
    ⟨[(.tmp 63, B true)], [], (.lit undef), [], true⟩,
    ⟨[(.tmp 63, B true)], [], (.lit undef), [], true⟩,
    ⟨[(.tmp 63, B true)], [], (.lit undef), [], true⟩,
    ⟨[(.tmp 63, B true)], [], (.lit undef), [], true⟩,
    ⟨[(.tmp 63, B true), (.const (.bool true), B true), (.tmp 68, (.lit undef))], [], B true, [], false⟩,
    ⟨[(.tmp 69, B true)], [], B true, [], false⟩,
    ⟨[(.tmp 70, B true)], [], (.lit undef), [], true⟩,
    ⟨[(.tmp 70, B true)], [], (.lit undef), [], true⟩,
    ⟨[(.tmp 70, B true)], [], (.lit undef), [], true⟩,
    ⟨[(.tmp 70, B true)], [], (.lit undef), [], true⟩,
    ⟨[(.tmp 70, B true)], [], (.lit undef), [], true⟩,
    ⟨[(.tmp 70, B true), (.const (.bool true), B true), (.tmp 75, (.lit undef))], [], B true, [], false⟩] (by kernel_rfl) (by exact ⟨by kernel_rfl, by kernel_rfl⟩) (by kernel_rfl) ?_ ?_
        · exact ⟨fun _ => astep_move rfl,
    fun _ => astep_bin rfl rfl,
    fun _ => astep_b hb80 (astep_move rfl),
    fun hs => (Bool.noConfusion hs),
    fun hs => (Bool.noConfusion hs),
    fun _ => astep_pick rfl rfl,
    fun _ => astep_move rfl,
    fun hs => (Bool.noConfusion hs),
    fun hs => (Bool.noConfusion hs),
    fun hs => (Bool.noConfusion hs),
    fun hs => (Bool.noConfusion hs),
    fun hs => (Bool.noConfusion hs),
    fun _ => astep_pick rfl rfl,
    fun _ => astep_move rfl,
    fun hs => (Bool.noConfusion hs),
    fun hs => (Bool.noConfusion hs),
    fun hs => (Bool.noConfusion hs),
    fun hs => (Bool.noConfusion hs),
    fun hs => (Bool.noConfusion hs),
    fun _ => astep_pick rfl rfl, trivial⟩
        refine awp_true (by kernel_rfl) ?_
        refine awp_reg [⟨[(.const (.bool false), B false)], [], B false, [], false⟩] (by exact ⟨by kernel_rfl, by kernel_rfl⟩) ?_ ?_
        · exact ⟨fun _ => astep_assign rfl, trivial⟩
        refine awp_ret ?_
        refine thenA_r ?_
        obtain rfl := Option.some.inj h
        exact ⟨⟨[B false], ⟨resOK_tmp (by kernel_rfl), trivial⟩, rfl⟩, (NLt.lit _), Nat.le_refl _, fun n hn => absurd hn (Nat.not_lt_zero n)⟩
      · replace h := bif_f hb80 h
        rcases Bool.eq_false_or_eq_true ((x18.2 != 0)) with hb81 | hb81
        · replace h := bif_t hb81 h
          refine awp_regd [⟨[(.tmp 10, I x8.2)], [], I x8.2, [], false⟩,
    ⟨[(.tmp 57, I x8.2), (.const (.int .i64 0), I 0)], [], (B ((x8.2 != 0))), [], false⟩,
    ⟨[(.tmp 58, (B ((x8.2 != 0))))], [], B false, [], false⟩,
    ⟨[(.tmp 59, B false), (.tmp 12, I x18.2)], [], I x18.2, [], false⟩,
    ⟨[(.tmp 59, B false), (.tmp 60, I x18.2), (.const (.int .i64 0), I 0)], [], (B ((x18.2 != 0))), [], false⟩,
    ⟨[(.tmp 59, B false), (.const (.bool true), B true), (.tmp 61, (B ((x18.2 != 0))))], [], (B ((x18.2 != 0))), [], false⟩,
    ⟨[(.tmp 62, (B ((x18.2 != 0))))], [], B true, [], false⟩,
    ⟨[(.tmp 63, B true)], [], (.lit undef), [], true⟩,
    ⟨[(.tmp 63, B true)], [], (.lit undef), [], true⟩,
    ⟨[(.tmp 63, B true)], [], (.lit undef), [], true⟩,
    ⟨[(.tmp 63, B true)], [], (.lit undef), [], true⟩,
    ⟨[(.tmp 63, B true)], [], (.lit undef), [], true⟩,
    ⟨[(.tmp 63, B true), (.const (.bool true), B true), (.tmp 68, (.lit undef))], [], B true, [], false⟩,
    ⟨[(.tmp 69, B true)], [], B true, [], false⟩,
    ⟨[(.tmp 70, B true)], [], (.lit undef), [], true⟩,
    ⟨[(.tmp 70, B true)], [], (.lit undef), [], true⟩,
    ⟨[(.tmp 70, B true)], [], (.lit undef), [], true⟩,
    ⟨[(.tmp 70, B true)], [], (.lit undef), [], true⟩,
    ⟨[(.tmp 70, B true)], [], (.lit undef), [], true⟩,
    ⟨[(.tmp 70, B true), (.const (.bool true), B true), (.tmp 75, (.lit undef))], [], B true, [], false⟩] (by kernel_rfl) (by exact ⟨by kernel_rfl, by kernel_rfl⟩) (by kernel_rfl) ?_ ?_
          · exact ⟨fun _ => astep_move rfl,
    fun _ => astep_bin rfl rfl,
    fun _ => astep_b hb80 (astep_move rfl),
    fun _ => astep_guard (astep_move rfl),
    fun _ => astep_guard (astep_bin rfl rfl),
    fun _ => astep_pick rfl rfl,
    fun _ => astep_b hb81 (astep_move rfl),
    fun hs => (Bool.noConfusion hs),
    fun hs => (Bool.noConfusion hs),
    fun hs => (Bool.noConfusion hs),
    fun hs => (Bool.noConfusion hs),
    fun hs => (Bool.noConfusion hs),
    fun _ => astep_pick rfl rfl,
    fun _ => astep_move rfl,
    fun hs => (Bool.noConfusion hs),
    fun hs => (Bool.noConfusion hs),
    fun hs => (Bool.noConfusion hs),
    fun hs => (Bool.noConfusion hs),
    fun hs => (Bool.noConfusion hs),
    fun _ => astep_pick rfl rfl, trivial⟩
          refine awp_true (by kernel_rfl) ?_
          refine awp_reg [⟨[(.const (.bool false), B false)], [], B false, [], false⟩] (by exact ⟨by kernel_rfl, by kernel_rfl⟩) ?_ ?_
          · exact ⟨fun _ => astep_assign rfl, trivial⟩
          refine awp_ret ?_
          refine thenA_r ?_
          obtain rfl := Option.some.inj h
          exact ⟨⟨[B false], ⟨resOK_tmp (by kernel_rfl), trivial⟩, rfl⟩, (NLt.lit _), Nat.le_refl _, fun n hn => absurd hn (Nat.not_lt_zero n)⟩
        · replace h := bif_f hb81 h
          rcases Bool.eq_false_or_eq_true (((x8.1.length : Int) != (p1.length : Int))) with hb82 | hb82
          · replace h := bif_t hb82 h
            refine awp_regd [⟨[(.tmp 10, I x8.2)], [], I x8.2, [], false⟩,
    ⟨[(.tmp 57, I x8.2), (.const (.int .i64 0), I 0)], [], (B ((x8.2 != 0))), [], false⟩,
    ⟨[(.tmp 58, (B ((x8.2 != 0))))], [], B false, [], false⟩,
    ⟨[(.tmp 59, B false), (.tmp 12, I x18.2)], [], I x18.2, [], false⟩,
    ⟨[(.tmp 59, B false), (.tmp 60, I x18.2), (.const (.int .i64 0), I 0)], [], (B ((x18.2 != 0))), [], false⟩,
    ⟨[(.tmp 59, B false), (.const (.bool true), B true), (.tmp 61, (B ((x18.2 != 0))))], [], (B ((x18.2 != 0))), [], false⟩,
    ⟨[(.tmp 62, (B ((x18.2 != 0))))], [], B false, [], false⟩,
    ⟨[(.tmp 63, B false), (.tmp 9, (.dat 10 ((x8.1 : List GParts).map c_GParts)))], [], (.dat 10 ((x8.1 : List GParts).map c_GParts)), [], false⟩,
    ⟨[(.tmp 63, B false), (.tmp 64, (.dat 10 ((x8.1 : List GParts).map c_GParts)))], [], (I ((x8.1.length : Int))), [], false⟩,
    ⟨[(.tmp 63, B false), (.tmp 1, (.dat 1 ((p1 : List Int).map c_i64)))], [], (.dat 1 ((p1 : List Int).map c_i64)), [], false⟩,
    ⟨[(.tmp 63, B false), (.tmp 66, (.dat 1 ((p1 : List Int).map c_i64)))], [], (I ((p1.length : Int))), [], false⟩,
    ⟨[(.tmp 63, B false), (.tmp 65, (I ((x8.1.length : Int)))), (.tmp 67, (I ((p1.length : Int))))], [], (B (((x8.1.length : Int) != (p1.length : Int)))), [], false⟩,
    ⟨[(.tmp 63, B false), (.const (.bool true), B true), (.tmp 68, (B (((x8.1.length : Int) != (p1.length : Int)))))], [], (B (((x8.1.length : Int) != (p1.length : Int)))), [], false⟩,
    ⟨[(.tmp 69, (B (((x8.1.length : Int) != (p1.length : Int)))))], [], B true, [], false⟩,
    ⟨[(.tmp 70, B true)], [], (.lit undef), [], true⟩,
    ⟨[(.tmp 70, B true)], [], (.lit undef), [], true⟩,
    ⟨[(.tmp 70, B true)], [], (.lit undef), [], true⟩,
    ⟨[(.tmp 70, B true)], [], (.lit undef), [], true⟩,
    ⟨[(.tmp 70, B true)], [], (.lit undef), [], true⟩,
    ⟨[(.tmp 70, B true), (.const (.bool true), B true), (.tmp 75, (.lit undef))], [], B true, [], false⟩] (by kernel_rfl) (by exact ⟨by kernel_rfl, by kernel_rfl⟩) (by kernel_rfl) ?_ ?_
            · exact ⟨fun _ => astep_move rfl,
    fun _ => astep_bin rfl rfl,
    fun _ => astep_b hb80 (astep_move rfl),
    fun _ => astep_guard (astep_move rfl),
    fun _ => astep_guard (astep_bin rfl rfl),
    fun _ => astep_pick rfl rfl,
    fun _ => astep_b hb81 (astep_move rfl),
    fun _ => astep_guard (astep_move rfl),
    fun _ => astep_guard (astep_lenm (c := c_GParts) (l := x8.1) (astep_len rfl Try.underlying98 rfl)),
    fun _ => astep_guard (astep_move rfl),
    fun _ => astep_guard (astep_lenm (c := c_i64) (l := p1) (astep_len rfl Try.underlying51 rfl)),
    fun _ => astep_guard (astep_bin rfl rfl),
    fun _ => astep_pick rfl rfl,
    fun _ => astep_b hb82 (astep_move rfl),
    fun hs => (Bool.noConfusion hs),
    fun hs => (Bool.noConfusion hs),
    fun hs => (Bool.noConfusion hs),
    fun hs => (Bool.noConfusion hs),
    fun hs => (Bool.noConfusion hs),
    fun _ => astep_pick rfl rfl, trivial⟩
            refine awp_true (by kernel_rfl) ?_
            refine awp_reg [⟨[(.const (.bool false), B false)], [], B false, [], false⟩] (by exact ⟨by kernel_rfl, by kernel_rfl⟩) ?_ ?_
            · exact ⟨fun _ => astep_assign rfl, trivial⟩
            refine awp_ret ?_
            refine thenA_r ?_
            obtain rfl := Option.some.inj h
            exact ⟨⟨[B false], ⟨resOK_tmp (by kernel_rfl), trivial⟩, rfl⟩, (NLt.lit _), Nat.le_refl _, fun n hn => absurd hn (Nat.not_lt_zero n)⟩
          · replace h := bif_f hb82 h
            obtain ⟨x83, hg84, h⟩ := bind_out h
            obtain ⟨hi85, hj86⟩ := getI_some hg84
            refine awp_regd [⟨[(.tmp 10, I x8.2)], [], I x8.2, [], false⟩,
    ⟨[(.tmp 57, I x8.2), (.const (.int .i64 0), I 0)], [], (B ((x8.2 != 0))), [], false⟩,
    ⟨[(.tmp 58, (B ((x8.2 != 0))))], [], B false, [], false⟩,
    ⟨[(.tmp 59, B false), (.tmp 12, I x18.2)], [], I x18.2, [], false⟩,
    ⟨[(.tmp 59, B false), (.tmp 60, I x18.2), (.const (.int .i64 0), I 0)], [], (B ((x18.2 != 0))), [], false⟩,
    ⟨[(.tmp 59, B false), (.const (.bool true), B true), (.tmp 61, (B ((x18.2 != 0))))], [], (B ((x18.2 != 0))), [], false⟩,
    ⟨[(.tmp 62, (B ((x18.2 != 0))))], [], B false, [], false⟩,
    ⟨[(.tmp 63, B false), (.tmp 9, (.dat 10 ((x8.1 : List GParts).map c_GParts)))], [], (.dat 10 ((x8.1 : List GParts).map c_GParts)), [], false⟩,
    ⟨[(.tmp 63, B false), (.tmp 64, (.dat 10 ((x8.1 : List GParts).map c_GParts)))], [], (I ((x8.1.length : Int))), [], false⟩,
    ⟨[(.tmp 63, B false), (.tmp 1, (.dat 1 ((p1 : List Int).map c_i64)))], [], (.dat 1 ((p1 : List Int).map c_i64)), [], false⟩,
    ⟨[(.tmp 63, B false), (.tmp 66, (.dat 1 ((p1 : List Int).map c_i64)))], [], (I ((p1.length : Int))), [], false⟩,
    ⟨[(.tmp 63, B false), (.tmp 65, (I ((x8.1.length : Int)))), (.tmp 67, (I ((p1.length : Int))))], [], (B (((x8.1.length : Int) != (p1.length : Int)))), [], false⟩,
    ⟨[(.tmp 63, B false), (.const (.bool true), B true), (.tmp 68, (B (((x8.1.length : Int) != (p1.length : Int)))))], [], (B (((x8.1.length : Int) != (p1.length : Int)))), [], false⟩,
    ⟨[(.tmp 69, (B (((x8.1.length : Int) != (p1.length : Int)))))], [], B false, [], false⟩,
    ⟨[(.tmp 70, B false), (.tmp 9, (.dat 10 ((x8.1 : List GParts).map c_GParts)))], [], (.dat 10 ((x8.1 : List GParts).map c_GParts)), [], false⟩,
    ⟨[(.tmp 70, B false), (.tmp 71, (.dat 10 ((x8.1 : List GParts).map c_GParts))), (.const (.int .i64 0), I 0)], [], (.dptr (c_GParts (x83)) 0), [], false⟩,
    ⟨[(.tmp 70, B false), (.tmp 72, (.dptr (c_GParts (x83)) 0))], [], (.agg [I x83.Steam.Mass, I x83.Steam.Heat, I x83.Steam.Silica, I x83.Steam.Gas, I x83.Water.Mass, I x83.Water.Heat, I x83.Water.Silica, I x83.Water.Gas, I x83.Rest, I x83.Scale]), [], false⟩,
    ⟨[(.tmp 70, B false), (.tmp 11, .ref 2 10 0 0)], [(2, .own 10 [[I x18.1.Steam.Mass, I x18.1.Steam.Heat, I x18.1.Steam.Silica, I x18.1.Steam.Gas, I x18.1.Water.Mass, I x18.1.Water.Heat, I x18.1.Water.Silica, I x18.1.Water.Gas, I x18.1.Rest, I x18.1.Scale]])], (.agg [I x18.1.Steam.Mass, I x18.1.Steam.Heat, I x18.1.Steam.Silica, I x18.1.Steam.Gas, I x18.1.Water.Mass, I x18.1.Water.Heat, I x18.1.Water.Silica, I x18.1.Water.Gas, I x18.1.Rest, I x18.1.Scale]), [], false⟩,
    ⟨[(.tmp 70, B false), (.tmp 73, (.agg [I x83.Steam.Mass, I x83.Steam.Heat, I x83.Steam.Silica, I x83.Steam.Gas, I x83.Water.Mass, I x83.Water.Heat, I x83.Water.Silica, I x83.Water.Gas, I x83.Rest, I x83.Scale])), (.tmp 74, (.agg [I x18.1.Steam.Mass, I x18.1.Steam.Heat, I x18.1.Steam.Silica, I x18.1.Steam.Gas, I x18.1.Water.Mass, I x18.1.Water.Heat, I x18.1.Water.Silica, I x18.1.Water.Gas, I x18.1.Rest, I x18.1.Scale]))], [], (B ((!(([x83.Steam.Mass, x83.Steam.Heat, x83.Steam.Silica, x83.Steam.Gas, x83.Water.Mass, x83.Water.Heat, x83.Water.Silica, x83.Water.Gas, x83.Rest, x83.Scale] : List Int) == [x18.1.Steam.Mass, x18.1.Steam.Heat, x18.1.Steam.Silica, x18.1.Steam.Gas, x18.1.Water.Mass, x18.1.Water.Heat, x18.1.Water.Silica, x18.1.Water.Gas, x18.1.Rest, x18.1.Scale])))), [], false⟩,
    ⟨[(.tmp 70, B false), (.const (.bool true), B true), (.tmp 75, (B ((!(([x83.Steam.Mass, x83.Steam.Heat, x83.Steam.Silica, x83.Steam.Gas, x83.Water.Mass, x83.Water.Heat, x83.Water.Silica, x83.Water.Gas, x83.Rest, x83.Scale] : List Int) == [x18.1.Steam.Mass, x18.1.Steam.Heat, x18.1.Steam.Silica, x18.1.Steam.Gas, x18.1.Water.Mass, x18.1.Water.Heat, x18.1.Water.Silica, x18.1.Water.Gas, x18.1.Rest, x18.1.Scale])))))], [], (B ((!(([x83.Steam.Mass, x83.Steam.Heat, x83.Steam.Silica, x83.Steam.Gas, x83.Water.Mass, x83.Water.Heat, x83.Water.Silica, x83.Water.Gas, x83.Rest, x83.Scale] : List Int) == [x18.1.Steam.Mass, x18.1.Steam.Heat, x18.1.Steam.Silica, x18.1.Steam.Gas, x18.1.Water.Mass, x18.1.Water.Heat, x18.1.Water.Silica, x18.1.Water.Gas, x18.1.Rest, x18.1.Scale])))), [], false⟩] (by kernel_rfl) (by exact ⟨by kernel_rfl, by kernel_rfl⟩) (by kernel_rfl) ?_ ?_
            · exact ⟨fun _ => astep_move rfl,
    fun _ => astep_bin rfl rfl,
    fun _ => astep_b hb80 (astep_move rfl),
    fun _ => astep_guard (astep_move rfl),
    fun _ => astep_guard (astep_bin rfl rfl),
    fun _ => astep_pick rfl rfl,
    fun _ => astep_b hb81 (astep_move rfl),
    fun _ => astep_guard (astep_move rfl),
    fun _ => astep_guard (astep_lenm (c := c_GParts) (l := x8.1) (astep_len rfl Try.underlying98 rfl)),
    fun _ => astep_guard (astep_move rfl),
    fun _ => astep_guard (astep_lenm (c := c_i64) (l := p1) (astep_len rfl Try.underlying51 rfl)),
    fun _ => astep_guard (astep_bin rfl rfl),
    fun _ => astep_pick rfl rfl,
    fun _ => astep_b hb82 (astep_move rfl),
    fun _ => astep_guard (astep_move rfl),
    fun _ => astep_guard (astep_idxd rfl Try.underlying98 ti44 rfl rfl hi85 (map_get c_GParts hj86) rfl),
    fun _ => astep_guard (astep_loadd rfl ti44 (by decide) (Nat.le_of_ble_eq_true rfl) rfl),
    fun _ => astep_guard (astep_load rfl ti44 (by decide) rfl (Nat.le_of_ble_eq_true rfl) rfl),
    fun _ => astep_guard (astep_nes (ls := [x83.Steam.Mass, x83.Steam.Heat, x83.Steam.Silica, x83.Steam.Gas, x83.Water.Mass, x83.Water.Heat, x83.Water.Silica, x83.Water.Gas, x83.Rest, x83.Scale]) (ks := [x18.1.Steam.Mass, x18.1.Steam.Heat, x18.1.Steam.Silica, x18.1.Steam.Gas, x18.1.Water.Mass, x18.1.Water.Heat, x18.1.Water.Silica, x18.1.Water.Gas, x18.1.Rest, x18.1.Scale]) rfl rfl eqt44 (by kernel_rfl) rfl rfl),
    fun _ => astep_pick rfl rfl, trivial⟩
            rcases Bool.eq_false_or_eq_true ((!(([x83.Steam.Mass, x83.Steam.Heat, x83.Steam.Silica, x83.Steam.Gas, x83.Water.Mass, x83.Water.Heat, x83.Water.Silica, x83.Water.Gas, x83.Rest, x83.Scale] : List Int) == [x18.1.Steam.Mass, x18.1.Steam.Heat, x18.1.Steam.Silica, x18.1.Steam.Gas, x18.1.Water.Mass, x18.1.Water.Heat, x18.1.Water.Silica, x18.1.Water.Gas, x18.1.Rest, x18.1.Scale]))) with hc87 | hc87
            · replace h := bif_t hc87 h
              refine awp_ift hc87 (by kernel_rfl) ?_
              refine awp_reg [⟨[(.const (.bool false), B false)], [], B false, [], false⟩] (by exact ⟨by kernel_rfl, by kernel_rfl⟩) ?_ ?_
              · exact ⟨fun _ => astep_assign rfl, trivial⟩
              refine awp_ret ?_
              refine thenA_r ?_
              obtain rfl := Option.some.inj h
              exact ⟨⟨[B false], ⟨resOK_tmp (by kernel_rfl), trivial⟩, rfl⟩, (NLt.lit _), Nat.le_refl _, fun n hn => absurd hn (Nat.not_lt_zero n)⟩
            · replace h := bif_f hc87 h
              refine awp_ifn hc87 (by kernel_rfl) ?_
              refine awp_skip ?_
              refine thenA_n ?_
              exact ⟨(), h, (mor_to (n := 167) (l' := [(0, (.dat 5 ((p0 : List GRow).map c_GRow))), (1, (.dat 1 ((p1 : List Int).map c_i64))), (3, (K .u8 (p3))), (6, .ref 0 4 0 0), (9, (.dat 10 ((x8.1 : List GParts).map c_GParts)))]) (own' := [(.own 4 [[I p2.Mass, I p2.Heat, I p2.Silica, I p2.Gas]])]) [(0, (.dat 5 ((p0 : List GRow).map c_GRow))), (1, (.dat 1 ((p1 : List Int).map c_i64))), (3, (K .u8 (p3))), (6, .ref 0 4 0 0), (9, (.dat 10 ((x8.1 : List GParts).map c_GParts)))] [0] [(.own 4 [[I p2.Mass, I p2.Heat, I p2.Silica, I p2.Gas]])] hφ0 (by kernel_rfl) (by kernel_rfl) (by kernel_rfl) ⟨rfl, .rn (.plain _ (nl_dat nl_GRow _)), rfl, .rn (.plain _ (nl_dat nl_i64 _)), rfl, .rn (.plain _ (NLt.lit _)), rfl, .rn (rnq_ref rfl), rfl, .rn (.plain _ (nl_dat nl_GParts _)), trivial⟩ ⟨(spw_box ⟨(.rn (.plain _ (NLt.lit _))), (.rn (.plain _ (NLt.lit _))), (.rn (.plain _ (NLt.lit _))), (.rn (.plain _ (NLt.lit _))), trivial⟩), trivial⟩)⟩
  · skip
    obtain ⟨x89, hf88, h⟩ := bind_out h
    rcases Bool.eq_false_or_eq_true ((!x89)) with hb90 | hb90
    · replace h := bif_t hb90 h
      refine awp_reg [⟨[(.tmp 0, (.dat 5 ((p0 : List GRow).map c_GRow)))], [], (.dat 5 ((p0 : List GRow).map c_GRow)), [], false⟩,
    ⟨[(.func 21, (.fn (.func 21) [] [])), (.tmp 20, (.dat 5 ((p0 : List GRow).map c_GRow)))], [], B x89, [], false⟩,
    ⟨[(.tmp 21, B x89)], [], (B ((!x89))), [], false⟩,
    ⟨[(.tmp 22, (B ((!x89))))], [], B true, [], false⟩,
    ⟨[(.tmp 23, B true)], [], (.lit undef), [], true⟩,
    ⟨[(.tmp 23, B true)], [], (.lit undef), [], true⟩,
    ⟨[(.tmp 23, B true)], [], (.lit undef), [], true⟩,
    ⟨[(.tmp 23, B true)], [], (.lit undef), [], true⟩,
    ⟨[(.tmp 23, B true)], [], (.lit undef), [], true⟩,
    ⟨[(.tmp 23, B true), (.const (.bool true), B true), (.tmp 28, (.lit undef))], [], B true, [], false⟩,
    ⟨[(.tmp 29, B true)], [], B true, [], false⟩,
    ⟨[(.tmp 30, B true)], [], (.lit undef), [], true⟩,
    ⟨[(.tmp 30, B true)], [], (.lit undef), [], true⟩,
    ⟨[(.tmp 30, B true)], [], (.lit undef), [], true⟩,
    ⟨[(.tmp 30, B true), (.const (.bool true), B true), (.tmp 33, (.lit undef))], [], B true, [], false⟩] (by exact ⟨by kernel_rfl, by kernel_rfl⟩) ?_ ?_
      · exact ⟨fun _ => astep_move rfl,
    fun _ => astep_pcall (first := []) (cap := []) (vs := [(.dat 5 ((p0 : List GRow).map c_GRow))]) rfl enter21 (ref01_RightX_ok N p0 _ hf88) rfl rfl (nl_cons (nl_dat nl_GRow _) nl_nil) (NLt.lit _) rfl,
    fun _ => astep_not rfl,
    fun _ => astep_b hb90 (astep_move rfl),
    fun hs => (Bool.noConfusion hs),
    fun hs => (Bool.noConfusion hs),
    fun hs => (Bool.noConfusion hs),
    fun hs => (Bool.noConfusion hs),
    fun hs => (Bool.noConfusion hs),
    fun _ => astep_pick rfl rfl,
    fun _ => astep_move rfl,
    fun hs => (Bool.noConfusion hs),
    fun hs => (Bool.noConfusion hs),
    fun hs => (Bool.noConfusion hs),
    fun _ => astep_pick rfl rfl, trivial⟩
      refine awp_true (by kernel_rfl) ?_
      obtain ⟨x92, hf91, h⟩ := bind_out h
      refine awp_reg [⟨[(.func 17, (.fn (.func 17) [] []))], [], B x92, [], false⟩,
    ⟨[(.tmp 35, B x92)], [], B x92, [], false⟩] (by exact ⟨by kernel_rfl, by kernel_rfl⟩) ?_ ?_
      · exact ⟨fun _ => astep_pcall (first := []) (cap := []) (vs := []) rfl enter17 (law01_awakeX_ok N  _ hf91) rfl rfl nl_nil (NLt.lit _) rfl,
    fun _ => astep_assign rfl, trivial⟩
      refine awp_ret ?_
      refine thenA_r ?_
      obtain rfl := Option.some.inj h
      exact ⟨⟨[B x92], ⟨resOK_tmp (by kernel_rfl), trivial⟩, rfl⟩, (NLt.lit _), Nat.le_refl _, fun n hn => absurd hn (Nat.not_lt_zero n)⟩
    · replace h := bif_f hb90 h
      obtain ⟨x94, hf93, h⟩ := bind_out h
      rcases Bool.eq_false_or_eq_true ((!x94)) with hb95 | hb95
      · replace h := bif_t hb95 h
        refine awp_reg [⟨[(.tmp 0, (.dat 5 ((p0 : List GRow).map c_GRow)))], [], (.dat 5 ((p0 : List GRow).map c_GRow)), [], false⟩,
    ⟨[(.func 21, (.fn (.func 21) [] [])), (.tmp 20, (.dat 5 ((p0 : List GRow).map c_GRow)))], [], B x89, [], false⟩,
    ⟨[(.tmp 21, B x89)], [], (B ((!x89))), [], false⟩,
    ⟨[(.tmp 22, (B ((!x89))))], [], B false, [], false⟩,
    ⟨[(.tmp 23, B false), (.tmp 0, (.dat 5 ((p0 : List GRow).map c_GRow)))], [], (.dat 5 ((p0 : List GRow).map c_GRow)), [], false⟩,
    ⟨[(.tmp 23, B false), (.tmp 24, (.dat 5 ((p0 : List GRow).map c_GRow)))], [], (I ((p0.length : Int))), [], false⟩,
    ⟨[(.tmp 23, B false), (.tmp 1, (.dat 1 ((p1 : List Int).map c_i64)))], [], (.dat 1 ((p1 : List Int).map c_i64)), [], false⟩,
    ⟨[(.tmp 23, B false), (.func 50, (.fn (.func 50) [] [])), (.tmp 25, (I ((p0.length : Int)))), (.tmp 26, (.dat 1 ((p1 : List Int).map c_i64)))], [], B x94, [], false⟩,
    ⟨[(.tmp 23, B false), (.tmp 27, B x94)], [], (B ((!x94))), [], false⟩,
    ⟨[(.tmp 23, B false), (.const (.bool true), B true), (.tmp 28, (B ((!x94))))], [], (B ((!x94))), [], false⟩,
    ⟨[(.tmp 29, (B ((!x94))))], [], B true, [], false⟩,
    ⟨[(.tmp 30, B true)], [], (.lit undef), [], true⟩,
    ⟨[(.tmp 30, B true)], [], (.lit undef), [], true⟩,
    ⟨[(.tmp 30, B true)], [], (.lit undef), [], true⟩,
    ⟨[(.tmp 30, B true), (.const (.bool true), B true), (.tmp 33, (.lit undef))], [], B true, [], false⟩] (by exact ⟨by kernel_rfl, by kernel_rfl⟩) ?_ ?_
        · exact ⟨fun _ => astep_move rfl,
    fun _ => astep_pcall (first := []) (cap := []) (vs := [(.dat 5 ((p0 : List GRow).map c_GRow))]) rfl enter21 (ref01_RightX_ok N p0 _ hf88) rfl rfl (nl_cons (nl_dat nl_GRow _) nl_nil) (NLt.lit _) rfl,
    fun _ => astep_not rfl,
    fun _ => astep_b hb90 (astep_move rfl),
    fun _ => astep_guard (astep_move rfl),
    fun _ => astep_guard (astep_lenm (c := c_GRow) (l := p0) (astep_len rfl Try.underlying23 rfl)),
    fun _ => astep_guard (astep_move rfl),
    fun _ => astep_guard (astep_pcall (first := []) (cap := []) (vs := [(I ((p0.length : Int))), (.dat 1 ((p1 : List Int).map c_i64))]) rfl enter50 (ref01_LevelsX_ok N (p0.length : Int) p1 _ hf93) rfl rfl (nl_cons (NLt.lit _) (nl_cons (nl_dat nl_i64 _) nl_nil)) (NLt.lit _) rfl),
    fun _ => astep_guard (astep_not rfl),
    fun _ => astep_pick rfl rfl,
    fun _ => astep_b hb95 (astep_move rfl),
    fun hs => (Bool.noConfusion hs),
    fun hs => (Bool.noConfusion hs),
    fun hs => (Bool.noConfusion hs),
    fun _ => astep_pick rfl rfl, trivial⟩
        refine awp_true (by kernel_rfl) ?_
        obtain ⟨x97, hf96, h⟩ := bind_out h
        refine awp_reg [⟨[(.func 17, (.fn (.func 17) [] []))], [], B x97, [], false⟩,
    ⟨[(.tmp 35, B x97)], [], B x97, [], false⟩] (by exact ⟨by kernel_rfl, by kernel_rfl⟩) ?_ ?_
        · exact ⟨fun _ => astep_pcall (first := []) (cap := []) (vs := []) rfl enter17 (law01_awakeX_ok N  _ hf96) rfl rfl nl_nil (NLt.lit _) rfl,
    fun _ => astep_assign rfl, trivial⟩
        refine awp_ret ?_
        refine thenA_r ?_
        obtain rfl := Option.some.inj h
        exact ⟨⟨[B x97], ⟨resOK_tmp (by kernel_rfl), trivial⟩, rfl⟩, (NLt.lit _), Nat.le_refl _, fun n hn => absurd hn (Nat.not_lt_zero n)⟩
      · replace h := bif_f hb95 h
        obtain ⟨x99, hf98, h⟩ := bind_out h
        refine awp_reg [⟨[(.tmp 0, (.dat 5 ((p0 : List GRow).map c_GRow)))], [], (.dat 5 ((p0 : List GRow).map c_GRow)), [], false⟩,
    ⟨[(.func 21, (.fn (.func 21) [] [])), (.tmp 20, (.dat 5 ((p0 : List GRow).map c_GRow)))], [], B x89, [], false⟩,
    ⟨[(.tmp 21, B x89)], [], (B ((!x89))), [], false⟩,
    ⟨[(.tmp 22, (B ((!x89))))], [], B false, [], false⟩,
    ⟨[(.tmp 23, B false), (.tmp 0, (.dat 5 ((p0 : List GRow).map c_GRow)))], [], (.dat 5 ((p0 : List GRow).map c_GRow)), [], false⟩,
    ⟨[(.tmp 23, B false), (.tmp 24, (.dat 5 ((p0 : List GRow).map c_GRow)))], [], (I ((p0.length : Int))), [], false⟩,
    ⟨[(.tmp 23, B false), (.tmp 1, (.dat 1 ((p1 : List Int).map c_i64)))], [], (.dat 1 ((p1 : List Int).map c_i64)), [], false⟩,
    ⟨[(.tmp 23, B false), (.func 50, (.fn (.func 50) [] [])), (.tmp 25, (I ((p0.length : Int)))), (.tmp 26, (.dat 1 ((p1 : List Int).map c_i64)))], [], B x94, [], false⟩,
    ⟨[(.tmp 23, B false), (.tmp 27, B x94)], [], (B ((!x94))), [], false⟩,
    ⟨[(.tmp 23, B false), (.const (.bool true), B true), (.tmp 28, (B ((!x94))))], [], (B ((!x94))), [], false⟩,
    ⟨[(.tmp 29, (B ((!x94))))], [], B false, [], false⟩,
    ⟨[(.tmp 30, B false), (.tmp 6, .ref 0 4 0 0)], [(0, .own 4 [[I p2.Mass, I p2.Heat, I p2.Silica, I p2.Gas]])], (.agg [I p2.Mass, I p2.Heat, I p2.Silica, I p2.Gas]), [], false⟩,
    ⟨[(.tmp 30, B false), (.func 24, (.fn (.func 24) [] [])), (.tmp 31, (.agg [I p2.Mass, I p2.Heat, I p2.Silica, I p2.Gas]))], [], B x99, [], false⟩,
    ⟨[(.tmp 30, B false), (.tmp 32, B x99)], [], (B ((!x99))), [], false⟩,
    ⟨[(.tmp 30, B false), (.const (.bool true), B true), (.tmp 33, (B ((!x99))))], [], (B ((!x99))), [], false⟩] (by exact ⟨by kernel_rfl, by kernel_rfl⟩) ?_ ?_
        · exact ⟨fun _ => astep_move rfl,
    fun _ => astep_pcall (first := []) (cap := []) (vs := [(.dat 5 ((p0 : List GRow).map c_GRow))]) rfl enter21 (ref01_RightX_ok N p0 _ hf88) rfl rfl (nl_cons (nl_dat nl_GRow _) nl_nil) (NLt.lit _) rfl,
    fun _ => astep_not rfl,
    fun _ => astep_b hb90 (astep_move rfl),
    fun _ => astep_guard (astep_move rfl),
    fun _ => astep_guard (astep_lenm (c := c_GRow) (l := p0) (astep_len rfl Try.underlying23 rfl)),
    fun _ => astep_guard (astep_move rfl),
    fun _ => astep_guard (astep_pcall (first := []) (cap := []) (vs := [(I ((p0.length : Int))), (.dat 1 ((p1 : List Int).map c_i64))]) rfl enter50 (ref01_LevelsX_ok N (p0.length : Int) p1 _ hf93) rfl rfl (nl_cons (NLt.lit _) (nl_cons (nl_dat nl_i64 _) nl_nil)) (NLt.lit _) rfl),
    fun _ => astep_guard (astep_not rfl),
    fun _ => astep_pick rfl rfl,
    fun _ => astep_b hb95 (astep_move rfl),
    fun _ => astep_guard (astep_load rfl ti39 (by decide) rfl (Nat.le_of_ble_eq_true rfl) rfl),
    fun _ => astep_guard (astep_pcall (first := []) (cap := []) (vs := [(.agg [I p2.Mass, I p2.Heat, I p2.Silica, I p2.Gas])]) rfl enter24 (ref01_RightStreamX_ok N p2 _ hf98) rfl rfl (nl_cons (NLt.agg _ (nl_cons (NLt.lit _) (nl_cons (NLt.lit _) (nl_cons (NLt.lit _) (nl_cons (NLt.lit _) nl_nil))))) nl_nil) (NLt.lit _) rfl),
    fun _ => astep_guard (astep_not rfl),
    fun _ => astep_pick rfl rfl, trivial⟩
        rcases Bool.eq_false_or_eq_true ((!x99)) with hc100 | hc100
        · replace h := bif_t hc100 h
          refine awp_ift hc100 (by kernel_rfl) ?_
          obtain ⟨x102, hf101, h⟩ := bind_out h
          refine awp_reg [⟨[(.func 17, (.fn (.func 17) [] []))], [], B x102, [], false⟩,
    ⟨[(.tmp 35, B x102)], [], B x102, [], false⟩] (by exact ⟨by kernel_rfl, by kernel_rfl⟩) ?_ ?_
          · exact ⟨fun _ => astep_pcall (first := []) (cap := []) (vs := []) rfl enter17 (law01_awakeX_ok N  _ hf101) rfl rfl nl_nil (NLt.lit _) rfl,
    fun _ => astep_assign rfl, trivial⟩
          refine awp_ret ?_
          refine thenA_r ?_
          obtain rfl := Option.some.inj h
          exact ⟨⟨[B x102], ⟨resOK_tmp (by kernel_rfl), trivial⟩, rfl⟩, (NLt.lit _), Nat.le_refl _, fun n hn => absurd hn (Nat.not_lt_zero n)⟩
        · replace h := bif_f hc100 h
          refine awp_ifn hc100 (by kernel_rfl) ?_
          refine awp_skip ?_
          refine thenA_n ?_
          exact ⟨(), h, (mor_to (n := 167) (l' := [(0, (.dat 5 ((p0 : List GRow).map c_GRow))), (1, (.dat 1 ((p1 : List Int).map c_i64))), (3, (K .u8 (p3))), (6, .ref 0 4 0 0)]) (own' := [(.own 4 [[I p2.Mass, I p2.Heat, I p2.Silica, I p2.Gas]])]) [(0, (.dat 5 ((p0 : List GRow).map c_GRow))), (1, (.dat 1 ((p1 : List Int).map c_i64))), (3, (K .u8 (p3))), (6, .ref 0 4 0 0)] [0] [(.own 4 [[I p2.Mass, I p2.Heat, I p2.Silica, I p2.Gas]])] hφ0 (by kernel_rfl) (by kernel_rfl) (by kernel_rfl) ⟨rfl, .rn (.plain _ (nl_dat nl_GRow _)), rfl, .rn (.plain _ (nl_dat nl_i64 _)), rfl, .rn (.plain _ (NLt.lit _)), rfl, .rn (rnq_ref rfl), trivial⟩ ⟨(spw_box ⟨(.rn (.plain _ (NLt.lit _))), (.rn (.plain _ (NLt.lit _))), (.rn (.plain _ (NLt.lit _))), (.rn (.plain _ (NLt.lit _))), trivial⟩), trivial⟩)⟩

end Go.Proofs.Ytenpbiineblcjaa
