/-
  Functions of the program: what they compute, as plain functions, and that they do. No conditions.
-/
import Derived.Test.YtenpbiineblcjaaX3
import Derived.Test.YtenpbiineblcjaaAwakeX
namespace Go.Proofs.Ytenpbiineblcjaa
open Go.RowKit

def law01_SteamFlashesX_loop1 (N : Nat) (x14 : ((List GParts) × Int)) (x25 : (List GParts)) (k27 : Unit → Option Bool) : Nat → Int → Option Bool
  | 0, _ => none
  | n32 + 1, y30 =>
    bif (decide (y30 < (x25.length : Int))) then
      (getI x14.1 y30).bind fun x34 =>
      (getI x25 y30).bind fun x38 =>
      (law01_PartsX N (⟨(⟨x38.Steam.Mass, x38.Steam.Heat, x38.Steam.Silica, x38.Steam.Gas⟩ : GStream), (⟨x38.Water.Mass, x38.Water.Heat, x38.Water.Silica, x38.Water.Gas⟩ : GStream), x38.Rest, x38.Scale⟩ : GParts)).bind fun x43 =>
      bif (!(([x34.Steam.Mass, x34.Steam.Heat, x34.Steam.Silica, x34.Steam.Gas, x34.Water.Mass, x34.Water.Heat, x34.Water.Silica, x34.Water.Gas, x34.Rest, x34.Scale] : List Int) == [x43.Steam.Mass, x43.Steam.Heat, x43.Steam.Silica, x43.Steam.Gas, x43.Water.Mass, x43.Water.Heat, x43.Water.Silica, x43.Water.Gas, x43.Rest, x43.Scale])) then
        some false
      else
        law01_SteamFlashesX_loop1 N x14 x25 k27 n32 (w64 (y30 + 1))
    else
      k27 ()
def law01_SteamFlashesX (N : Nat) (p0 : (List GRow)) (p1 : Int) (p2 : (List Int)) (p3 : GStream) : Option Bool :=
  joinK (fun _ =>
      (law01_TableX N p0).bind fun x3 =>
      (law01_StreamX N p3).bind fun x5 =>
      (steam_FlashX N x3 p1 x5).bind fun x7 =>
      (law01_TableX N p0).bind fun x9 =>
      chk (decide ((0 + p2.length) * 8 ≤ 140737488355328)) <|
      (law01_StreamX N p3).bind fun x12 =>
      (steam_TrainX N x9 p2 x12).bind fun x14 =>
      joinK (fun ⟨y15, y16⟩ =>
          joinK (fun _ =>
              bif (y16 != 0) then
                bif (x14.2 == y16) then
                  bif ((x14.1.length : Int) == 0) then
                    (law01_awakeX N ).bind fun x23 =>
                    some x23
                  else
                    some false
                else
                  some false
              else
                (ref01_TrainX N p0 p2 p3).bind fun x25 =>
                joinK (fun _ =>
                    joinK (fun _ =>
                        (law01_awakeX N ).bind fun x29 =>
                        some x29) fun k27 : Unit → Option Bool =>
                    law01_SteamFlashesX_loop1 N x14 x25 k27 N 0) fun k26 : Unit → Option Bool =>
                bif (x14.2 != 0) then
                  some false
                else
                  bif ((x14.1.length : Int) != (x25.length : Int)) then
                    some false
                  else
                    k26 ()) fun k18 : Unit → Option Bool =>
          bif (y15 == 0) then
            bif (x7.2 != 0) then
              some false
            else
              (getI p0 p1).bind fun x49 =>
              (ref01_FlashX N x49 p3).bind fun x54 =>
              (law01_PartsX N (⟨(⟨x54.Steam.Mass, x54.Steam.Heat, x54.Steam.Silica, x54.Steam.Gas⟩ : GStream), (⟨x54.Water.Mass, x54.Water.Heat, x54.Water.Silica, x54.Water.Gas⟩ : GStream), x54.Rest, x54.Scale⟩ : GParts)).bind fun x56 =>
              bif (!(([x7.1.Steam.Mass, x7.1.Steam.Heat, x7.1.Steam.Silica, x7.1.Steam.Gas, x7.1.Water.Mass, x7.1.Water.Heat, x7.1.Water.Silica, x7.1.Water.Gas, x7.1.Rest, x7.1.Scale] : List Int) == [x56.Steam.Mass, x56.Steam.Heat, x56.Steam.Silica, x56.Steam.Gas, x56.Water.Mass, x56.Water.Heat, x56.Water.Silica, x56.Water.Gas, x56.Rest, x56.Scale])) then
                some false
              else
                bif (y15 != 0) then
                  bif (x7.2 != y15) then
                    some false
                  else
                    bif (!(([x7.1.Steam.Mass, x7.1.Steam.Heat, x7.1.Steam.Silica, x7.1.Steam.Gas, x7.1.Water.Mass, x7.1.Water.Heat, x7.1.Water.Silica, x7.1.Water.Gas, x7.1.Rest, x7.1.Scale] : List Int) == [0, 0, 0, 0, 0, 0, 0, 0, 0, 0])) then
                      some false
                    else
                      k18 ()
                else
                  k18 ()
          else
            bif (y15 != 0) then
              bif (x7.2 != y15) then
                some false
              else
                bif (!(([x7.1.Steam.Mass, x7.1.Steam.Heat, x7.1.Steam.Silica, x7.1.Steam.Gas, x7.1.Water.Mass, x7.1.Water.Heat, x7.1.Water.Silica, x7.1.Water.Gas, x7.1.Rest, x7.1.Scale] : List Int) == [0, 0, 0, 0, 0, 0, 0, 0, 0, 0])) then
                  some false
                else
                  k18 ()
            else
              k18 ()) fun k17 : Int × Int → Option Bool =>
      (ref01_RightX N p0).bind fun x65 =>
      bif (!x65) then
        k17 (1, 1)
      else
        joinK (fun y67 =>
            (ref01_LevelsX N (p0.length : Int) p2).bind fun x70 =>
            bif (!x70) then
              k17 (y67, 2)
            else
              (ref01_RightStreamX N p3).bind fun x73 =>
              bif (!x73) then
                k17 (y67, 1)
              else
                k17 (y67, 0)) fun k68 : Int → Option Bool =>
        (ref01_InX N p1 0 (w64 ((p0.length : Int) - 1))).bind fun x76 =>
        bif (!x76) then
          k68 (2)
        else
          (ref01_RightStreamX N p3).bind fun x79 =>
          bif (!x79) then
            k68 (1)
          else
            k68 (0)) fun k1 : Unit → Option Bool =>
  bif (decide ((p0.length : Int) > 30)) then
    (law01_awakeX N ).bind fun x83 =>
    some x83
  else
    bif (decide ((p2.length : Int) > 30)) then
      (law01_awakeX N ).bind fun x86 =>
      some x86
    else
      k1 ()
set_option maxRecDepth 100000 in
set_option maxHeartbeats 4000000 in
theorem law01_SteamFlashesX_ok (N : Nat) (p0 : (List GRow)) (p1 : Int) (p2 : (List Int)) (p3 : GStream) (r : Bool) (h : law01_SteamFlashesX N p0 p1 p2 p3 = some r) : Spec Try.prog 13 [(.dat 5 (p0.map c_GRow)), (I p1), (.dat 1 (p2.map c_i64)), (.agg (c_GStream p3))] [] (B r) [] := by
  refine spec_of_awp Try.func13 rfl 0 (Nat.le_of_ble_eq_true rfl) (fun X φ0 w0 hφ0 => ?_)
  unfold law01_SteamFlashesX at h
  refine awp_reg [⟨[(.tmp 3, (.agg [I p3.Mass, I p3.Heat, I p3.Silica, I p3.Gas]))], [(0, .unused)], .ref 0 4 0 0, [(0, .own 4 [[I p3.Mass, I p3.Heat, I p3.Silica, I p3.Gas]])], false⟩,
    ⟨[(.const (.bool false), B false)], [], B false, [], false⟩] (by exact ⟨by kernel_rfl, by kernel_rfl⟩) ?_ ?_
  · exact ⟨fun _ => astep_box rfl (by rfl) rfl rfl,
    fun _ => astep_assign rfl, trivial⟩
  obtain ⟨k1, hk_k1, h⟩ := joinK_out h
  refine awp_join (τ := Unit) (fun t => k1 t = some r) (fun _ => ⟨mk 139 [(0, (.dat 5 ((p0 : List GRow).map c_GRow))), (1, I p1), (2, (.dat 1 ((p2 : List Int).map c_i64))), (7, .ref 0 4 0 0)], [(.own 4 [[I p3.Mass, I p3.Heat, I p3.Silica, I p3.Gas]])]⟩) (fun t h => ?_) ?_
  · subst hk_k1
    obtain ⟨x3, hf2, h⟩ := bind_out h
    obtain ⟨x5, hf4, h⟩ := bind_out h
    obtain ⟨x7, hf6, h⟩ := bind_out h
    refine awp_regd [⟨[(.tmp 0, (.dat 5 ((p0 : List GRow).map c_GRow)))], [], (.dat 5 ((p0 : List GRow).map c_GRow)), [], false⟩,
    ⟨[(.func 19, (.fn (.func 19) [] [])), (.tmp 27, (.dat 5 ((p0 : List GRow).map c_GRow)))], [], (.dat 5 ((x3 : List GRow).map c_GRow)), [], false⟩,
    ⟨[(.tmp 1, I p1)], [], I p1, [], false⟩,
    ⟨[(.tmp 7, .ref 0 4 0 0)], [(0, .own 4 [[I p3.Mass, I p3.Heat, I p3.Silica, I p3.Gas]])], (.agg [I p3.Mass, I p3.Heat, I p3.Silica, I p3.Gas]), [], false⟩,
    ⟨[(.func 26, (.fn (.func 26) [] [])), (.tmp 30, (.agg [I p3.Mass, I p3.Heat, I p3.Silica, I p3.Gas]))], [], (.agg [I x5.Mass, I x5.Heat, I x5.Silica, I x5.Gas]), [], false⟩,
    ⟨[(.func 25, (.fn (.func 25) [] [])), (.tmp 28, (.dat 5 ((x3 : List GRow).map c_GRow))), (.tmp 29, I p1), (.tmp 31, (.agg [I x5.Mass, I x5.Heat, I x5.Silica, I x5.Gas]))], [], (.tup [(.agg [I x7.1.Steam.Mass, I x7.1.Steam.Heat, I x7.1.Steam.Silica, I x7.1.Steam.Gas, I x7.1.Water.Mass, I x7.1.Water.Heat, I x7.1.Water.Silica, I x7.1.Water.Gas, I x7.1.Rest, I x7.1.Scale]), I x7.2]), [], false⟩,
    ⟨[(.tmp 32, (.tup [(.agg [I x7.1.Steam.Mass, I x7.1.Steam.Heat, I x7.1.Steam.Silica, I x7.1.Steam.Gas, I x7.1.Water.Mass, I x7.1.Water.Heat, I x7.1.Water.Silica, I x7.1.Water.Gas, I x7.1.Rest, I x7.1.Scale]), I x7.2]))], [], (.tup [(.agg [I x7.1.Steam.Mass, I x7.1.Steam.Heat, I x7.1.Steam.Silica, I x7.1.Steam.Gas, I x7.1.Water.Mass, I x7.1.Water.Heat, I x7.1.Water.Silica, I x7.1.Water.Gas, I x7.1.Rest, I x7.1.Scale]), I x7.2]), [], false⟩,
    ⟨[(.tmp 26, (.tup [(.agg [I x7.1.Steam.Mass, I x7.1.Steam.Heat, I x7.1.Steam.Silica, I x7.1.Steam.Gas, I x7.1.Water.Mass, I x7.1.Water.Heat, I x7.1.Water.Silica, I x7.1.Water.Gas, I x7.1.Rest, I x7.1.Scale]), I x7.2]))], [], (.agg [I x7.1.Steam.Mass, I x7.1.Steam.Heat, I x7.1.Steam.Silica, I x7.1.Steam.Gas, I x7.1.Water.Mass, I x7.1.Water.Heat, I x7.1.Water.Silica, I x7.1.Water.Gas, I x7.1.Rest, I x7.1.Scale]), [], false⟩,
    ⟨[(.tmp 26, (.tup [(.agg [I x7.1.Steam.Mass, I x7.1.Steam.Heat, I x7.1.Steam.Silica, I x7.1.Steam.Gas, I x7.1.Water.Mass, I x7.1.Water.Heat, I x7.1.Water.Silica, I x7.1.Water.Gas, I x7.1.Rest, I x7.1.Scale]), I x7.2]))], [], I x7.2, [], false⟩,
    ⟨[], [(1, .unused)], .ref 1 10 0 0, [(1, .own 10 [[I 0, I 0, I 0, I 0, I 0, I 0, I 0, I 0, I 0, I 0]])], false⟩,
    ⟨[(.tmp 9, .ref 1 10 0 0), (.tmp 33, (.agg [I x7.1.Steam.Mass, I x7.1.Steam.Heat, I x7.1.Steam.Silica, I x7.1.Steam.Gas, I x7.1.Water.Mass, I x7.1.Water.Heat, I x7.1.Water.Silica, I x7.1.Water.Gas, I x7.1.Rest, I x7.1.Scale]))], [(1, .own 10 [[I 0, I 0, I 0, I 0, I 0, I 0, I 0, I 0, I 0, I 0]])], .any, [(1, .own 10 [[I x7.1.Steam.Mass, I x7.1.Steam.Heat, I x7.1.Steam.Silica, I x7.1.Steam.Gas, I x7.1.Water.Mass, I x7.1.Water.Heat, I x7.1.Water.Silica, I x7.1.Water.Gas, I x7.1.Rest, I x7.1.Scale]])], false⟩,
    ⟨[(.tmp 34, I x7.2)], [], I x7.2, [], false⟩] (by kernel_rfl) (by exact ⟨by kernel_rfl, by kernel_rfl⟩) (by kernel_rfl) ?_ ?_
    · exact ⟨fun _ => astep_move rfl,
    fun _ => astep_pcall (first := []) (cap := []) (vs := [(.dat 5 ((p0 : List GRow).map c_GRow))]) rfl enter19 (law01_TableX_ok N p0 _ hf2) rfl rfl (nl_cons (nl_dat nl_GRow _) nl_nil) (nl_dat nl_GRow _) rfl,
    fun _ => astep_move rfl,
    fun _ => astep_load rfl ti39 (by decide) rfl (Nat.le_of_ble_eq_true rfl) rfl,
    fun _ => astep_pcall (first := []) (cap := []) (vs := [(.agg [I p3.Mass, I p3.Heat, I p3.Silica, I p3.Gas])]) rfl enter26 (law01_StreamX_ok N p3 _ hf4) rfl rfl (nl_cons (NLt.agg _ (nl_cons (NLt.lit _) (nl_cons (NLt.lit _) (nl_cons (NLt.lit _) (nl_cons (NLt.lit _) nl_nil))))) nl_nil) (NLt.agg _ (nl_cons (NLt.lit _) (nl_cons (NLt.lit _) (nl_cons (NLt.lit _) (nl_cons (NLt.lit _) nl_nil))))) rfl,
    fun _ => astep_pcall (first := []) (cap := []) (vs := [(.dat 5 ((x3 : List GRow).map c_GRow)), I p1, (.agg [I x5.Mass, I x5.Heat, I x5.Silica, I x5.Gas])]) rfl enter25 (steam_FlashX_ok N x3 p1 x5 _ hf6) rfl rfl (nl_cons (nl_dat nl_GRow _) (nl_cons (NLt.lit _) (nl_cons (NLt.agg _ (nl_cons (NLt.lit _) (nl_cons (NLt.lit _) (nl_cons (NLt.lit _) (nl_cons (NLt.lit _) nl_nil))))) nl_nil))) (NLt.tup _ (nl_cons (NLt.agg _ (nl_cons (NLt.lit _) (nl_cons (NLt.lit _) (nl_cons (NLt.lit _) (nl_cons (NLt.lit _) (nl_cons (NLt.lit _) (nl_cons (NLt.lit _) (nl_cons (NLt.lit _) (nl_cons (NLt.lit _) (nl_cons (NLt.lit _) (nl_cons (NLt.lit _) nl_nil))))))))))) (nl_cons (NLt.lit _) nl_nil))) rfl,
    fun _ => astep_move rfl,
    fun _ => astep_extract rfl rfl,
    fun _ => astep_extract rfl rfl,
    fun _ => astep_alloc rfl tz44 rfl,
    fun _ => astep_store rfl ti44 (by rfl) rfl (Nat.le_of_ble_eq_true rfl) rfl,
    fun _ => astep_assign rfl, trivial⟩
    obtain ⟨x9, hf8, h⟩ := bind_out h
    obtain ⟨ha10, h⟩ := chk_out h
    obtain ⟨x12, hf11, h⟩ := bind_out h
    obtain ⟨x14, hf13, h⟩ := bind_out h
    refine awp_regd [⟨[(.tmp 0, (.dat 5 ((p0 : List GRow).map c_GRow)))], [], (.dat 5 ((p0 : List GRow).map c_GRow)), [], false⟩,
    ⟨[(.func 19, (.fn (.func 19) [] [])), (.tmp 36, (.dat 5 ((p0 : List GRow).map c_GRow)))], [], (.dat 5 ((x9 : List GRow).map c_GRow)), [], false⟩,
    ⟨[(.tmp 2, (.dat 1 ((p2 : List Int).map c_i64)))], [], (.dat 1 ((p2 : List Int).map c_i64)), [], false⟩,
    ⟨[((.const (.slice none 0 0)), nilS), (.tmp 38, (.dat 1 ((p2 : List Int).map c_i64)))], [(2, .unused)], (.acc 2 3 1 ((p2 : List Int).map c_i64)), [(2, .tok)], false⟩,
    ⟨[(.tmp 7, .ref 0 4 0 0)], [(0, .own 4 [[I p3.Mass, I p3.Heat, I p3.Silica, I p3.Gas]])], (.agg [I p3.Mass, I p3.Heat, I p3.Silica, I p3.Gas]), [], false⟩,
    ⟨[(.func 26, (.fn (.func 26) [] [])), (.tmp 40, (.agg [I p3.Mass, I p3.Heat, I p3.Silica, I p3.Gas]))], [], (.agg [I x12.Mass, I x12.Heat, I x12.Silica, I x12.Gas]), [], false⟩,
    ⟨[(.func 49, (.fn (.func 49) [] [])), (.tmp 37, (.dat 5 ((x9 : List GRow).map c_GRow))), (.tmp 39, (.acc 2 3 1 ((p2 : List Int).map c_i64))), (.tmp 41, (.agg [I x12.Mass, I x12.Heat, I x12.Silica, I x12.Gas]))], [], (.tup [(.dat 10 ((x14.1 : List GParts).map c_GParts)), I x14.2]), [], false⟩,
    ⟨[(.tmp 42, (.tup [(.dat 10 ((x14.1 : List GParts).map c_GParts)), I x14.2]))], [], (.tup [(.dat 10 ((x14.1 : List GParts).map c_GParts)), I x14.2]), [], false⟩,
    ⟨[(.tmp 35, (.tup [(.dat 10 ((x14.1 : List GParts).map c_GParts)), I x14.2]))], [], (.dat 10 ((x14.1 : List GParts).map c_GParts)), [], false⟩,
    ⟨[(.tmp 35, (.tup [(.dat 10 ((x14.1 : List GParts).map c_GParts)), I x14.2]))], [], I x14.2, [], false⟩,
    ⟨[(.tmp 43, (.dat 10 ((x14.1 : List GParts).map c_GParts)))], [], (.dat 10 ((x14.1 : List GParts).map c_GParts)), [], false⟩,
    ⟨[(.tmp 44, I x14.2)], [], I x14.2, [], false⟩] (by kernel_rfl) (by exact ⟨by kernel_rfl, by kernel_rfl⟩) (by kernel_rfl) ?_ ?_
    · exact ⟨fun _ => astep_move rfl,
    fun _ => astep_pcall (first := []) (cap := []) (vs := [(.dat 5 ((p0 : List GRow).map c_GRow))]) rfl enter19 (law01_TableX_ok N p0 _ hf8) rfl rfl (nl_cons (nl_dat nl_GRow _) nl_nil) (nl_dat nl_GRow _) rfl,
    fun _ => astep_move rfl,
    fun _ => astep_app rfl Try.underlying51 te3 (Base.nil) rfl rfl (ones_map c_i64 one_i64 _) (app_le1n c_i64 ha10) (app_le2n c_i64 ha10 (by decide)) (app_map0 c_i64) rfl rfl,
    fun _ => astep_load rfl ti39 (by decide) rfl (Nat.le_of_ble_eq_true rfl) rfl,
    fun _ => astep_pcall (first := []) (cap := []) (vs := [(.agg [I p3.Mass, I p3.Heat, I p3.Silica, I p3.Gas])]) rfl enter26 (law01_StreamX_ok N p3 _ hf11) rfl rfl (nl_cons (NLt.agg _ (nl_cons (NLt.lit _) (nl_cons (NLt.lit _) (nl_cons (NLt.lit _) (nl_cons (NLt.lit _) nl_nil))))) nl_nil) (NLt.agg _ (nl_cons (NLt.lit _) (nl_cons (NLt.lit _) (nl_cons (NLt.lit _) (nl_cons (NLt.lit _) nl_nil))))) rfl,
    fun _ => astep_weak (rd' := (.func 49, (.fn (.func 49) [] [])) :: [(.tmp 37, (.dat 5 ((x9 : List GRow).map c_GRow))), (.tmp 39, (.dat 1 ((p2 : List Int).map c_i64))), (.tmp 41, (.agg [I x12.Mass, I x12.Heat, I x12.Silica, I x12.Gas]))]) ⟨rfl, Less.rfl, rfl, Less.rfl, rfl, Less.acc, rfl, Less.rfl, trivial⟩ (astep_pcall (first := []) (cap := []) (vs := [(.dat 5 ((x9 : List GRow).map c_GRow)), (.dat 1 ((p2 : List Int).map c_i64)), (.agg [I x12.Mass, I x12.Heat, I x12.Silica, I x12.Gas])]) rfl enter49 (steam_TrainX_ok N x9 p2 x12 _ hf13) rfl rfl (nl_cons (nl_dat nl_GRow _) (nl_cons (nl_dat nl_i64 _) (nl_cons (NLt.agg _ (nl_cons (NLt.lit _) (nl_cons (NLt.lit _) (nl_cons (NLt.lit _) (nl_cons (NLt.lit _) nl_nil))))) nl_nil))) (NLt.tup _ (nl_cons (nl_dat nl_GParts _) (nl_cons (NLt.lit _) nl_nil))) rfl),
    fun _ => astep_move rfl,
    fun _ => astep_extract rfl rfl,
    fun _ => astep_extract rfl rfl,
    fun _ => astep_assign rfl,
    fun _ => astep_assign rfl, trivial⟩
    refine awp_reg [⟨[(.const (.int .i64 0), I 0)], [], I 0, [], false⟩,
    ⟨[(.const (.int .i64 0), I 0)], [], I 0, [], false⟩] (by exact ⟨by kernel_rfl, by kernel_rfl⟩) ?_ ?_
    · exact ⟨fun _ => astep_assign rfl,
    fun _ => astep_assign rfl, trivial⟩
    obtain ⟨k17, hk_k17, h⟩ := joinK_out h
    refine awp_join (τ := Int × Int) (fun t => k17 t = some r) (fun ⟨y15, y16⟩ => ⟨mk 139 [(0, (.dat 5 ((p0 : List GRow).map c_GRow))), (1, I p1), (2, (.dat 1 ((p2 : List Int).map c_i64))), (7, .ref 0 4 0 0), (9, .ref 1 10 0 0), (10, I x7.2), (11, (.dat 10 ((x14.1 : List GParts).map c_GParts))), (12, I x14.2), (13, I y15), (14, I y16)], [(.own 4 [[I p3.Mass, I p3.Heat, I p3.Silica, I p3.Gas]]), (.own 10 [[I x7.1.Steam.Mass, I x7.1.Steam.Heat, I x7.1.Steam.Silica, I x7.1.Steam.Gas, I x7.1.Water.Mass, I x7.1.Water.Heat, I x7.1.Water.Silica, I x7.1.Water.Gas, I x7.1.Rest, I x7.1.Scale]])]⟩) (fun t h => ?_) ?_
    · subst hk_k17
      obtain ⟨y15, y16⟩ := t
      obtain ⟨k18, hk_k18, h⟩ := joinK_out h
      refine awp_join (τ := Unit) (fun t => k18 t = some r) (fun _ => ⟨mk 139 [(0, (.dat 5 ((p0 : List GRow).map c_GRow))), (2, (.dat 1 ((p2 : List Int).map c_i64))), (7, .ref 0 4 0 0), (11, (.dat 10 ((x14.1 : List GParts).map c_GParts))), (12, I x14.2), (14, I y16)], [(.own 4 [[I p3.Mass, I p3.Heat, I p3.Silica, I p3.Gas]])]⟩) (fun t h => ?_) ?_
      · subst hk_k18
        refine awp_seq ?_
        refine awp_reg [⟨[(.tmp 14, I y16)], [], I y16, [], false⟩,
    ⟨[(.tmp 96, I y16), (.const (.int .i64 0), I 0)], [], (B ((y16 != 0))), [], false⟩] (by exact ⟨by kernel_rfl, by kernel_rfl⟩) ?_ ?_
        · exact ⟨fun _ => astep_move rfl,
    fun _ => astep_bin rfl rfl, trivial⟩
        rcases Bool.eq_false_or_eq_true ((y16 != 0)) with hc19 | hc19
        · replace h := bif_t hc19 h
          refine awp_ift hc19 (by kernel_rfl) ?_
          rcases Bool.eq_false_or_eq_true ((x14.2 == y16)) with hb20 | hb20
          · replace h := bif_t hb20 h
            rcases Bool.eq_false_or_eq_true (((x14.1.length : Int) == 0)) with hb21 | hb21
            · replace h := bif_t hb21 h
              obtain ⟨x23, hf22, h⟩ := bind_out h
              refine awp_reg [⟨[(.tmp 12, I x14.2)], [], I x14.2, [], false⟩,
    ⟨[(.tmp 14, I y16)], [], I y16, [], false⟩,
    ⟨[(.tmp 98, I x14.2), (.tmp 99, I y16)], [], (B ((x14.2 == y16))), [], false⟩,
    ⟨[(.tmp 100, (B ((x14.2 == y16))))], [], B true, [], false⟩,
    ⟨[(.tmp 101, B true), (.tmp 11, (.dat 10 ((x14.1 : List GParts).map c_GParts)))], [], (.dat 10 ((x14.1 : List GParts).map c_GParts)), [], false⟩,
    ⟨[(.tmp 101, B true), (.tmp 102, (.dat 10 ((x14.1 : List GParts).map c_GParts)))], [], (I ((x14.1.length : Int))), [], false⟩,
    ⟨[(.tmp 101, B true), (.tmp 103, (I ((x14.1.length : Int)))), (.const (.int .i64 0), I 0)], [], (B (((x14.1.length : Int) == 0))), [], false⟩,
    ⟨[(.tmp 101, B true), (.tmp 104, (B (((x14.1.length : Int) == 0)))), (.const (.bool false), B false)], [], (B (((x14.1.length : Int) == 0))), [], false⟩,
    ⟨[(.tmp 105, (B (((x14.1.length : Int) == 0))))], [], B true, [], false⟩,
    ⟨[(.tmp 106, B true), (.func 17, (.fn (.func 17) [] []))], [], B x23, [], false⟩,
    ⟨[(.tmp 106, B true), (.tmp 107, B x23), (.const (.bool false), B false)], [], B x23, [], false⟩,
    ⟨[(.tmp 108, B x23)], [], B x23, [], false⟩] (by exact ⟨by kernel_rfl, by kernel_rfl⟩) ?_ ?_
              · exact ⟨fun _ => astep_move rfl,
    fun _ => astep_move rfl,
    fun _ => astep_bin rfl rfl,
    fun _ => astep_b hb20 (astep_move rfl),
    fun _ => astep_guard (astep_move rfl),
    fun _ => astep_guard (astep_lenm (c := c_GParts) (l := x14.1) (astep_len rfl Try.underlying98 rfl)),
    fun _ => astep_guard (astep_bin rfl rfl),
    fun _ => astep_pick rfl rfl,
    fun _ => astep_b hb21 (astep_move rfl),
    fun _ => astep_guard (astep_pcall (first := []) (cap := []) (vs := []) rfl enter17 (law01_awakeX_ok N  _ hf22) rfl rfl nl_nil (NLt.lit _) rfl),
    fun _ => astep_pick rfl rfl,
    fun _ => astep_assign rfl, trivial⟩
              refine awp_ret ?_
              refine thenA_r ?_
              obtain rfl := Option.some.inj h
              exact ⟨⟨[B x23], ⟨resOK_tmp (by kernel_rfl), trivial⟩, rfl⟩, (NLt.lit _), Nat.le_refl _, fun n hn => absurd hn (Nat.not_lt_zero n)⟩
            · replace h := bif_f hb21 h
              refine awp_reg [⟨[(.tmp 12, I x14.2)], [], I x14.2, [], false⟩,
    ⟨[(.tmp 14, I y16)], [], I y16, [], false⟩,
    ⟨[(.tmp 98, I x14.2), (.tmp 99, I y16)], [], (B ((x14.2 == y16))), [], false⟩,
    ⟨[(.tmp 100, (B ((x14.2 == y16))))], [], B true, [], false⟩,
    ⟨[(.tmp 101, B true), (.tmp 11, (.dat 10 ((x14.1 : List GParts).map c_GParts)))], [], (.dat 10 ((x14.1 : List GParts).map c_GParts)), [], false⟩,
    ⟨[(.tmp 101, B true), (.tmp 102, (.dat 10 ((x14.1 : List GParts).map c_GParts)))], [], (I ((x14.1.length : Int))), [], false⟩,
    ⟨[(.tmp 101, B true), (.tmp 103, (I ((x14.1.length : Int)))), (.const (.int .i64 0), I 0)], [], (B (((x14.1.length : Int) == 0))), [], false⟩,
    ⟨[(.tmp 101, B true), (.tmp 104, (B (((x14.1.length : Int) == 0)))), (.const (.bool false), B false)], [], (B (((x14.1.length : Int) == 0))), [], false⟩,
    ⟨[(.tmp 105, (B (((x14.1.length : Int) == 0))))], [], B false, [], false⟩,
    ⟨[(.tmp 106, B false)], [], (.lit undef), [], true⟩,
    ⟨[(.tmp 106, B false), (.tmp 107, (.lit undef)), (.const (.bool false), B false)], [], B false, [], false⟩,
    ⟨[(.tmp 108, B false)], [], B false, [], false⟩] (by exact ⟨by kernel_rfl, by kernel_rfl⟩) ?_ ?_
              · exact ⟨fun _ => astep_move rfl,
    fun _ => astep_move rfl,
    fun _ => astep_bin rfl rfl,
    fun _ => astep_b hb20 (astep_move rfl),
    fun _ => astep_guard (astep_move rfl),
    fun _ => astep_guard (astep_lenm (c := c_GParts) (l := x14.1) (astep_len rfl Try.underlying98 rfl)),
    fun _ => astep_guard (astep_bin rfl rfl),
    fun _ => astep_pick rfl rfl,
    fun _ => astep_b hb21 (astep_move rfl),
    fun hs => (Bool.noConfusion hs),
    fun _ => astep_pick rfl rfl,
    fun _ => astep_assign rfl, trivial⟩
              refine awp_ret ?_
              refine thenA_r ?_
              obtain rfl := Option.some.inj h
              exact ⟨⟨[B false], ⟨resOK_tmp (by kernel_rfl), trivial⟩, rfl⟩, (NLt.lit _), Nat.le_refl _, fun n hn => absurd hn (Nat.not_lt_zero n)⟩
          · replace h := bif_f hb20 h
            refine awp_reg [⟨[(.tmp 12, I x14.2)], [], I x14.2, [], false⟩,
    ⟨[(.tmp 14, I y16)], [], I y16, [], false⟩,
    ⟨[(.tmp 98, I x14.2), (.tmp 99, I y16)], [], (B ((x14.2 == y16))), [], false⟩,
    ⟨[(.tmp 100, (B ((x14.2 == y16))))], [], B false, [], false⟩,
    ⟨[(.tmp 101, B false)], [], (.lit undef), [], true⟩,
    ⟨[(.tmp 101, B false)], [], (.lit undef), [], true⟩,
    ⟨[(.tmp 101, B false)], [], (.lit undef), [], true⟩,
    ⟨[(.tmp 101, B false), (.tmp 104, (.lit undef)), (.const (.bool false), B false)], [], B false, [], false⟩,
    ⟨[(.tmp 105, B false)], [], B false, [], false⟩,
    ⟨[(.tmp 106, B false)], [], (.lit undef), [], true⟩,
    ⟨[(.tmp 106, B false), (.tmp 107, (.lit undef)), (.const (.bool false), B false)], [], B false, [], false⟩,
    ⟨[(.tmp 108, B false)], [], B false, [], false⟩] (by exact ⟨by kernel_rfl, by kernel_rfl⟩) ?_ ?_
            · exact ⟨fun _ => astep_move rfl,
    fun _ => astep_move rfl,
    fun _ => astep_bin rfl rfl,
    fun _ => astep_b hb20 (astep_move rfl),
    fun hs => (Bool.noConfusion hs),
    fun hs => (Bool.noConfusion hs),
    fun hs => (Bool.noConfusion hs),
    fun _ => astep_pick rfl rfl,
    fun _ => astep_move rfl,
    fun hs => (Bool.noConfusion hs),
    fun _ => astep_pick rfl rfl,
    fun _ => astep_assign rfl, trivial⟩
            refine awp_ret ?_
            refine thenA_r ?_
            obtain rfl := Option.some.inj h
            exact ⟨⟨[B false], ⟨resOK_tmp (by kernel_rfl), trivial⟩, rfl⟩, (NLt.lit _), Nat.le_refl _, fun n hn => absurd hn (Nat.not_lt_zero n)⟩
        · replace h := bif_f hc19 h
          refine awp_ifn hc19 (by kernel_rfl) ?_
          refine awp_skip ?_
          refine thenA_n ?_
          obtain ⟨x25, hf24, h⟩ := bind_out h
          refine awp_reg [⟨[(.tmp 0, (.dat 5 ((p0 : List GRow).map c_GRow)))], [], (.dat 5 ((p0 : List GRow).map c_GRow)), [], false⟩,
    ⟨[(.tmp 2, (.dat 1 ((p2 : List Int).map c_i64)))], [], (.dat 1 ((p2 : List Int).map c_i64)), [], false⟩,
    ⟨[(.tmp 7, .ref 0 4 0 0)], [(0, .own 4 [[I p3.Mass, I p3.Heat, I p3.Silica, I p3.Gas]])], (.agg [I p3.Mass, I p3.Heat, I p3.Silica, I p3.Gas]), [], false⟩,
    ⟨[(.func 53, (.fn (.func 53) [] [])), (.tmp 109, (.dat 5 ((p0 : List GRow).map c_GRow))), (.tmp 110, (.dat 1 ((p2 : List Int).map c_i64))), (.tmp 111, (.agg [I p3.Mass, I p3.Heat, I p3.Silica, I p3.Gas]))], [], (.dat 10 ((x25 : List GParts).map c_GParts)), [], false⟩,
    ⟨[(.tmp 112, (.dat 10 ((x25 : List GParts).map c_GParts)))], [], (.dat 10 ((x25 : List GParts).map c_GParts)), [], false⟩] (by exact ⟨by kernel_rfl, by kernel_rfl⟩) ?_ ?_
          · exact ⟨fun _ => astep_move rfl,
    fun _ => astep_move rfl,
    fun _ => astep_load rfl ti39 (by decide) rfl (Nat.le_of_ble_eq_true rfl) rfl,
    fun _ => astep_pcall (first := []) (cap := []) (vs := [(.dat 5 ((p0 : List GRow).map c_GRow)), (.dat 1 ((p2 : List Int).map c_i64)), (.agg [I p3.Mass, I p3.Heat, I p3.Silica, I p3.Gas])]) rfl enter53 (ref01_TrainX_ok N p0 p2 p3 _ hf24) rfl rfl (nl_cons (nl_dat nl_GRow _) (nl_cons (nl_dat nl_i64 _) (nl_cons (NLt.agg _ (nl_cons (NLt.lit _) (nl_cons (NLt.lit _) (nl_cons (NLt.lit _) (nl_cons (NLt.lit _) nl_nil))))) nl_nil))) (nl_dat nl_GParts _) rfl,
    fun _ => astep_assign rfl, trivial⟩
          obtain ⟨k26, hk_k26, h⟩ := joinK_out h
          refine awp_join (τ := Unit) (fun t => k26 t = some r) (fun _ => ⟨mk 139 [(11, (.dat 10 ((x14.1 : List GParts).map c_GParts))), (15, (.dat 10 ((x25 : List GParts).map c_GParts)))], []⟩) (fun t h => ?_) ?_
          · subst hk_k26
            obtain ⟨k27, hk_k27, h⟩ := joinK_out h
            refine awp_join (τ := Unit) (fun t => k27 t = some r) (fun _ => ⟨mk 139 [], []⟩) (fun t h => ?_) ?_
            · subst hk_k27
              obtain ⟨x29, hf28, h⟩ := bind_out h
              refine awp_reg [⟨[(.func 17, (.fn (.func 17) [] []))], [], B x29, [], false⟩,
    ⟨[(.tmp 138, B x29)], [], B x29, [], false⟩] (by exact ⟨by kernel_rfl, by kernel_rfl⟩) ?_ ?_
              · exact ⟨fun _ => astep_pcall (first := []) (cap := []) (vs := []) rfl enter17 (law01_awakeX_ok N  _ hf28) rfl rfl nl_nil (NLt.lit _) rfl,
    fun _ => astep_assign rfl, trivial⟩
              refine awp_ret ?_
              obtain rfl := Option.some.inj h
              exact ⟨⟨[B x29], ⟨resOK_tmp (by kernel_rfl), trivial⟩, rfl⟩, (NLt.lit _), Nat.le_refl _, fun n hn => absurd hn (Nat.not_lt_zero n)⟩
            · skip
              refine awp_reg [⟨[(.const (.int .i64 0), I 0)], [], I 0, [], false⟩] (by exact ⟨by kernel_rfl, by kernel_rfl⟩) ?_ ?_
              · exact ⟨fun _ => astep_assign rfl, trivial⟩
              refine awp_block ?_
              refine awp_mor (mor_to (n := 139) (l' := [(11, (.dat 10 ((x14.1 : List GParts).map c_GParts))), (15, (.dat 10 ((x25 : List GParts).map c_GParts))), (16, I 0)]) (own' := []) [(11, (.dat 10 ((x14.1 : List GParts).map c_GParts))), (15, (.dat 10 ((x25 : List GParts).map c_GParts))), (16, I 0)] [] [] hφ0 (by kernel_rfl) (by kernel_rfl) (by kernel_rfl) ⟨rfl, .rn (.plain _ (nl_dat nl_GParts _)), rfl, .rn (.plain _ (nl_dat nl_GParts _)), rfl, .rn (.plain _ (NLt.lit _)), trivial⟩ trivial) ?_
              refine awp_ind (τ := Int) (fun n t => law01_SteamFlashesX_loop1 N x14 x25 k27 n t = some r) (fun y30 => ⟨mk 139 [(11, (.dat 10 ((x14.1 : List GParts).map c_GParts))), (15, (.dat 10 ((x25 : List GParts).map c_GParts))), (16, I y30)], []⟩) (fun t h => by rw [law01_SteamFlashesX_loop1] at h; cases h) (fun n32 ih y30 h => ?_) N (0) h
              rw [law01_SteamFlashesX_loop1] at h
              skip
              refine awp_seq ?_
              refine awp_reg [⟨[(.tmp 16, I y30)], [], I y30, [], false⟩,
    ⟨[(.tmp 15, (.dat 10 ((x25 : List GParts).map c_GParts)))], [], (.dat 10 ((x25 : List GParts).map c_GParts)), [], false⟩,
    ⟨[(.tmp 123, (.dat 10 ((x25 : List GParts).map c_GParts)))], [], (I ((x25.length : Int))), [], false⟩,
    ⟨[(.tmp 122, I y30), (.tmp 124, (I ((x25.length : Int))))], [], (B ((decide (y30 < (x25.length : Int))))), [], false⟩] (by exact ⟨by kernel_rfl, by kernel_rfl⟩) ?_ ?_
              · exact ⟨fun _ => astep_move rfl,
    fun _ => astep_move rfl,
    fun _ => astep_lenm (c := c_GParts) (l := x25) (astep_len rfl Try.underlying106 rfl),
    fun _ => astep_bin rfl rfl, trivial⟩
              rcases Bool.eq_false_or_eq_true ((decide (y30 < (x25.length : Int)))) with hc33 | hc33
              · replace h := bif_t hc33 h
                refine awp_ift hc33 (by kernel_rfl) ?_
                refine awp_skip ?_
                refine thenA_n ?_
                refine awp_seq ?_
                refine awp_block ?_
                obtain ⟨x34, hg35, h⟩ := bind_out h
                obtain ⟨hi36, hj37⟩ := getI_some hg35
                obtain ⟨x38, hg39, h⟩ := bind_out h
                obtain ⟨hi40, hj41⟩ := getI_some hg39
                obtain ⟨x43, hf42, h⟩ := bind_out h
                refine awp_regd [⟨[(.tmp 11, (.dat 10 ((x14.1 : List GParts).map c_GParts)))], [], (.dat 10 ((x14.1 : List GParts).map c_GParts)), [], false⟩,
    ⟨[(.tmp 16, I y30)], [], I y30, [], false⟩,
    ⟨[(.tmp 128, (.dat 10 ((x14.1 : List GParts).map c_GParts))), (.tmp 129, I y30)], [], (.dptr (c_GParts (x34)) 0), [], false⟩,
    ⟨[(.tmp 130, (.dptr (c_GParts (x34)) 0))], [], (.agg [I x34.Steam.Mass, I x34.Steam.Heat, I x34.Steam.Silica, I x34.Steam.Gas, I x34.Water.Mass, I x34.Water.Heat, I x34.Water.Silica, I x34.Water.Gas, I x34.Rest, I x34.Scale]), [], false⟩,
    ⟨[(.tmp 15, (.dat 10 ((x25 : List GParts).map c_GParts)))], [], (.dat 10 ((x25 : List GParts).map c_GParts)), [], false⟩,
    ⟨[(.tmp 16, I y30)], [], I y30, [], false⟩,
    ⟨[(.tmp 132, (.dat 10 ((x25 : List GParts).map c_GParts))), (.tmp 133, I y30)], [], (.dptr (c_GParts (x38)) 0), [], false⟩,
    ⟨[(.tmp 134, (.dptr (c_GParts (x38)) 0))], [], (.agg [I x38.Steam.Mass, I x38.Steam.Heat, I x38.Steam.Silica, I x38.Steam.Gas, I x38.Water.Mass, I x38.Water.Heat, I x38.Water.Silica, I x38.Water.Gas, I x38.Rest, I x38.Scale]), [], false⟩,
    ⟨[(.func 51, (.fn (.func 51) [] [])), (.tmp 135, (.agg [I x38.Steam.Mass, I x38.Steam.Heat, I x38.Steam.Silica, I x38.Steam.Gas, I x38.Water.Mass, I x38.Water.Heat, I x38.Water.Silica, I x38.Water.Gas, I x38.Rest, I x38.Scale]))], [], (.agg [I x43.Steam.Mass, I x43.Steam.Heat, I x43.Steam.Silica, I x43.Steam.Gas, I x43.Water.Mass, I x43.Water.Heat, I x43.Water.Silica, I x43.Water.Gas, I x43.Rest, I x43.Scale]), [], false⟩,
    ⟨[(.tmp 131, (.agg [I x34.Steam.Mass, I x34.Steam.Heat, I x34.Steam.Silica, I x34.Steam.Gas, I x34.Water.Mass, I x34.Water.Heat, I x34.Water.Silica, I x34.Water.Gas, I x34.Rest, I x34.Scale])), (.tmp 136, (.agg [I x43.Steam.Mass, I x43.Steam.Heat, I x43.Steam.Silica, I x43.Steam.Gas, I x43.Water.Mass, I x43.Water.Heat, I x43.Water.Silica, I x43.Water.Gas, I x43.Rest, I x43.Scale]))], [], (B ((!(([x34.Steam.Mass, x34.Steam.Heat, x34.Steam.Silica, x34.Steam.Gas, x34.Water.Mass, x34.Water.Heat, x34.Water.Silica, x34.Water.Gas, x34.Rest, x34.Scale] : List Int) == [x43.Steam.Mass, x43.Steam.Heat, x43.Steam.Silica, x43.Steam.Gas, x43.Water.Mass, x43.Water.Heat, x43.Water.Silica, x43.Water.Gas, x43.Rest, x43.Scale])))), [], false⟩] (by kernel_rfl) (by exact ⟨by kernel_rfl, by kernel_rfl⟩) (by kernel_rfl) ?_ ?_
                · exact ⟨fun _ => astep_move rfl,
    fun _ => astep_move rfl,
    fun _ => astep_idxd rfl Try.underlying98 ti44 rfl rfl hi36 (map_get c_GParts hj37) rfl,
    fun _ => astep_loadd rfl ti44 (by decide) (Nat.le_of_ble_eq_true rfl) rfl,
    fun _ => astep_move rfl,
    fun _ => astep_move rfl,
    fun _ => astep_idxd rfl Try.underlying106 ti104 rfl rfl hi40 (map_get c_GParts hj41) rfl,
    fun _ => astep_loadd rfl ti104 (by decide) (Nat.le_of_ble_eq_true rfl) rfl,
    fun _ => astep_pcall (first := []) (cap := []) (vs := [(.agg [I x38.Steam.Mass, I x38.Steam.Heat, I x38.Steam.Silica, I x38.Steam.Gas, I x38.Water.Mass, I x38.Water.Heat, I x38.Water.Silica, I x38.Water.Gas, I x38.Rest, I x38.Scale])]) rfl enter51 (law01_PartsX_ok N (⟨(⟨x38.Steam.Mass, x38.Steam.Heat, x38.Steam.Silica, x38.Steam.Gas⟩ : GStream), (⟨x38.Water.Mass, x38.Water.Heat, x38.Water.Silica, x38.Water.Gas⟩ : GStream), x38.Rest, x38.Scale⟩ : GParts) _ hf42) rfl rfl (nl_cons (NLt.agg _ (nl_cons (NLt.lit _) (nl_cons (NLt.lit _) (nl_cons (NLt.lit _) (nl_cons (NLt.lit _) (nl_cons (NLt.lit _) (nl_cons (NLt.lit _) (nl_cons (NLt.lit _) (nl_cons (NLt.lit _) (nl_cons (NLt.lit _) (nl_cons (NLt.lit _) nl_nil))))))))))) nl_nil) (NLt.agg _ (nl_cons (NLt.lit _) (nl_cons (NLt.lit _) (nl_cons (NLt.lit _) (nl_cons (NLt.lit _) (nl_cons (NLt.lit _) (nl_cons (NLt.lit _) (nl_cons (NLt.lit _) (nl_cons (NLt.lit _) (nl_cons (NLt.lit _) (nl_cons (NLt.lit _) nl_nil))))))))))) rfl,
    fun _ => astep_nes (ls := [x34.Steam.Mass, x34.Steam.Heat, x34.Steam.Silica, x34.Steam.Gas, x34.Water.Mass, x34.Water.Heat, x34.Water.Silica, x34.Water.Gas, x34.Rest, x34.Scale]) (ks := [x43.Steam.Mass, x43.Steam.Heat, x43.Steam.Silica, x43.Steam.Gas, x43.Water.Mass, x43.Water.Heat, x43.Water.Silica, x43.Water.Gas, x43.Rest, x43.Scale]) rfl rfl eqt44 (by kernel_rfl) rfl rfl, trivial⟩
                rcases Bool.eq_false_or_eq_true ((!(([x34.Steam.Mass, x34.Steam.Heat, x34.Steam.Silica, x34.Steam.Gas, x34.Water.Mass, x34.Water.Heat, x34.Water.Silica, x34.Water.Gas, x34.Rest, x34.Scale] : List Int) == [x43.Steam.Mass, x43.Steam.Heat, x43.Steam.Silica, x43.Steam.Gas, x43.Water.Mass, x43.Water.Heat, x43.Water.Silica, x43.Water.Gas, x43.Rest, x43.Scale]))) with hc44 | hc44
                · replace h := bif_t hc44 h
                  refine awp_ift hc44 (by kernel_rfl) ?_
                  refine awp_reg [⟨[(.const (.bool false), B false)], [], B false, [], false⟩] (by exact ⟨by kernel_rfl, by kernel_rfl⟩) ?_ ?_
                  · exact ⟨fun _ => astep_assign rfl, trivial⟩
                  refine awp_ret ?_
                  refine blockA_r ?_
                  refine thenA_r ?_
                  refine thenA_r ?_
                  refine blockA_r ?_
                  refine thenA_r ?_
                  obtain rfl := Option.some.inj h
                  exact ⟨⟨[B false], ⟨resOK_tmp (by kernel_rfl), trivial⟩, rfl⟩, (NLt.lit _), Nat.le_refl _, fun n hn => absurd hn (Nat.not_lt_zero n)⟩
                · replace h := bif_f hc44 h
                  refine awp_ifn hc44 (by kernel_rfl) ?_
                  refine awp_skip ?_
                  refine blockA_n ?_
                  refine thenA_n ?_
                  refine awp_reg1 [⟨[(.tmp 16, I y30)], [], I y30, [], false⟩,
    ⟨[(.tmp 126, I y30), (.const (.int .i64 1), I 1)], [], (I (w64 (y30 + 1))), [], false⟩,
    ⟨[(.tmp 127, (I (w64 (y30 + 1))))], [], (I (w64 (y30 + 1))), [], false⟩] (by exact ⟨by kernel_rfl, by kernel_rfl⟩) ?_ ?_
                  · exact ⟨fun _ => astep_move rfl,
    fun _ => astep_bin rfl rfl,
    fun _ => astep_assign rfl, trivial⟩
                  refine thenA_n ?_
                  exact around_mor (mor_to (n := 139) (l' := [(11, (.dat 10 ((x14.1 : List GParts).map c_GParts))), (15, (.dat 10 ((x25 : List GParts).map c_GParts))), (16, (I ((w64 (y30 + 1)))))]) (own' := []) [(11, (.dat 10 ((x14.1 : List GParts).map c_GParts))), (15, (.dat 10 ((x25 : List GParts).map c_GParts))), (16, (I (w64 (y30 + 1))))] [] [] hφ0 (by kernel_rfl) (by kernel_rfl) (by kernel_rfl) ⟨rfl, .rn (.plain _ (nl_dat nl_GParts _)), rfl, .rn (.plain _ (nl_dat nl_GParts _)), rfl, .rn (.plain _ (NLt.lit _)), trivial⟩ trivial) (ih (w64 (y30 + 1)) h)
              · replace h := bif_f hc33 h
                refine awp_ifn hc33 (by kernel_rfl) ?_
                refine awp_exit ?_
                refine thenA_x ?_
                refine thenA_x ?_
                refine blockA_e rfl ?_
                refine thenA_n ?_
                exact ⟨(), h, (mor_to (n := 139) (l' := []) (own' := []) [] [] [] hφ0 (by kernel_rfl) (by kernel_rfl) (by kernel_rfl) trivial trivial)⟩
          · skip
            rcases Bool.eq_false_or_eq_true ((x14.2 != 0)) with hb45 | hb45
            · replace h := bif_t hb45 h
              refine awp_reg [⟨[(.tmp 12, I x14.2)], [], I x14.2, [], false⟩,
    ⟨[(.tmp 113, I x14.2), (.const (.int .i64 0), I 0)], [], (B ((x14.2 != 0))), [], false⟩,
    ⟨[(.tmp 114, (B ((x14.2 != 0))))], [], B true, [], false⟩,
    ⟨[(.tmp 115, B true)], [], (.lit undef), [], true⟩,
    ⟨[(.tmp 115, B true)], [], (.lit undef), [], true⟩,
    ⟨[(.tmp 115, B true)], [], (.lit undef), [], true⟩,
    ⟨[(.tmp 115, B true)], [], (.lit undef), [], true⟩,
    ⟨[(.tmp 115, B true)], [], (.lit undef), [], true⟩,
    ⟨[(.tmp 115, B true), (.const (.bool true), B true), (.tmp 120, (.lit undef))], [], B true, [], false⟩] (by exact ⟨by kernel_rfl, by kernel_rfl⟩) ?_ ?_
              · exact ⟨fun _ => astep_move rfl,
    fun _ => astep_bin rfl rfl,
    fun _ => astep_b hb45 (astep_move rfl),
    fun hs => (Bool.noConfusion hs),
    fun hs => (Bool.noConfusion hs),
    fun hs => (Bool.noConfusion hs),
    fun hs => (Bool.noConfusion hs),
    fun hs => (Bool.noConfusion hs),
    fun _ => astep_pick rfl rfl, trivial⟩
              refine awp_true (by kernel_rfl) ?_
              refine awp_reg [⟨[(.const (.bool false), B false)], [], B false, [], false⟩] (by exact ⟨by kernel_rfl, by kernel_rfl⟩) ?_ ?_
              · exact ⟨fun _ => astep_assign rfl, trivial⟩
              refine awp_ret ?_
              refine thenA_r ?_
              obtain rfl := Option.some.inj h
              exact ⟨⟨[B false], ⟨resOK_tmp (by kernel_rfl), trivial⟩, rfl⟩, (NLt.lit _), Nat.le_refl _, fun n hn => absurd hn (Nat.not_lt_zero n)⟩
            · replace h := bif_f hb45 h
              refine awp_reg [⟨[(.tmp 12, I x14.2)], [], I x14.2, [], false⟩,
    ⟨[(.tmp 113, I x14.2), (.const (.int .i64 0), I 0)], [], (B ((x14.2 != 0))), [], false⟩,
    ⟨[(.tmp 114, (B ((x14.2 != 0))))], [], B false, [], false⟩,
    ⟨[(.tmp 115, B false), (.tmp 11, (.dat 10 ((x14.1 : List GParts).map c_GParts)))], [], (.dat 10 ((x14.1 : List GParts).map c_GParts)), [], false⟩,
    ⟨[(.tmp 115, B false), (.tmp 116, (.dat 10 ((x14.1 : List GParts).map c_GParts)))], [], (I ((x14.1.length : Int))), [], false⟩,
    ⟨[(.tmp 115, B false), (.tmp 15, (.dat 10 ((x25 : List GParts).map c_GParts)))], [], (.dat 10 ((x25 : List GParts).map c_GParts)), [], false⟩,
    ⟨[(.tmp 115, B false), (.tmp 118, (.dat 10 ((x25 : List GParts).map c_GParts)))], [], (I ((x25.length : Int))), [], false⟩,
    ⟨[(.tmp 115, B false), (.tmp 117, (I ((x14.1.length : Int)))), (.tmp 119, (I ((x25.length : Int))))], [], (B (((x14.1.length : Int) != (x25.length : Int)))), [], false⟩,
    ⟨[(.tmp 115, B false), (.const (.bool true), B true), (.tmp 120, (B (((x14.1.length : Int) != (x25.length : Int)))))], [], (B (((x14.1.length : Int) != (x25.length : Int)))), [], false⟩] (by exact ⟨by kernel_rfl, by kernel_rfl⟩) ?_ ?_
              · exact ⟨fun _ => astep_move rfl,
    fun _ => astep_bin rfl rfl,
    fun _ => astep_b hb45 (astep_move rfl),
    fun _ => astep_guard (astep_move rfl),
    fun _ => astep_guard (astep_lenm (c := c_GParts) (l := x14.1) (astep_len rfl Try.underlying98 rfl)),
    fun _ => astep_guard (astep_move rfl),
    fun _ => astep_guard (astep_lenm (c := c_GParts) (l := x25) (astep_len rfl Try.underlying106 rfl)),
    fun _ => astep_guard (astep_bin rfl rfl),
    fun _ => astep_pick rfl rfl, trivial⟩
              rcases Bool.eq_false_or_eq_true (((x14.1.length : Int) != (x25.length : Int))) with hc46 | hc46
              · replace h := bif_t hc46 h
                refine awp_ift hc46 (by kernel_rfl) ?_
                refine awp_reg [⟨[(.const (.bool false), B false)], [], B false, [], false⟩] (by exact ⟨by kernel_rfl, by kernel_rfl⟩) ?_ ?_
                · exact ⟨fun _ => astep_assign rfl, trivial⟩
                refine awp_ret ?_
                refine thenA_r ?_
                obtain rfl := Option.some.inj h
                exact ⟨⟨[B false], ⟨resOK_tmp (by kernel_rfl), trivial⟩, rfl⟩, (NLt.lit _), Nat.le_refl _, fun n hn => absurd hn (Nat.not_lt_zero n)⟩
              · replace h := bif_f hc46 h
                refine awp_ifn hc46 (by kernel_rfl) ?_
                refine awp_skip ?_
                refine thenA_n ?_
                exact ⟨(), h, (mor_to (n := 139) (l' := [(11, (.dat 10 ((x14.1 : List GParts).map c_GParts))), (15, (.dat 10 ((x25 : List GParts).map c_GParts)))]) (own' := []) [(11, (.dat 10 ((x14.1 : List GParts).map c_GParts))), (15, (.dat 10 ((x25 : List GParts).map c_GParts)))] [] [] hφ0 (by kernel_rfl) (by kernel_rfl) (by kernel_rfl) ⟨rfl, .rn (.plain _ (nl_dat nl_GParts _)), rfl, .rn (.plain _ (nl_dat nl_GParts _)), trivial⟩ trivial)⟩
      · skip
        rcases Bool.eq_false_or_eq_true ((y15 == 0)) with hb47 | hb47
        · replace h := bif_t hb47 h
          rcases Bool.eq_false_or_eq_true ((x7.2 != 0)) with hb48 | hb48
          · replace h := bif_t hb48 h
            refine awp_regd [⟨[(.tmp 13, I y15)], [], I y15, [], false⟩,
    ⟨[(.tmp 65, I y15), (.const (.int .i64 0), I 0)], [], (B ((y15 == 0))), [], false⟩,
    ⟨[(.tmp 66, (B ((y15 == 0))))], [], B true, [], false⟩,
    ⟨[(.tmp 67, B true), (.tmp 10, I x7.2)], [], I x7.2, [], false⟩,
    ⟨[(.tmp 67, B true), (.tmp 68, I x7.2), (.const (.int .i64 0), I 0)], [], (B ((x7.2 != 0))), [], false⟩,
    ⟨[(.tmp 67, B true), (.tmp 69, (B ((x7.2 != 0))))], [], B true, [], false⟩,
    ⟨[(.tmp 70, B true)], [], (.lit undef), [], true⟩,
    ⟨[(.tmp 70, B true)], [], (.lit undef), [], true⟩,
    ⟨[(.tmp 70, B true)], [], (.lit undef), [], true⟩,
    ⟨[(.tmp 70, B true)], [], (.lit undef), [], true⟩,
    ⟨[(.tmp 70, B true)], [], (.lit undef), [], true⟩,
    ⟨[(.tmp 70, B true)], [], (.lit undef), [], true⟩,
    ⟨[(.tmp 70, B true)], [], (.lit undef), [], true⟩,
    ⟨[(.tmp 70, B true)], [], (.lit undef), [], true⟩,
    ⟨[(.tmp 70, B true)], [], (.lit undef), [], true⟩,
    ⟨[(.tmp 67, B true), (.tmp 70, B true), (.const (.bool true), B true), (.tmp 79, (.lit undef))], [], B true, [], false⟩,
    ⟨[(.tmp 67, B true), (.tmp 80, B true), (.const (.bool false), B false)], [], B true, [], false⟩,
    ⟨[(.tmp 81, B true)], [], B true, [], false⟩,
    ⟨[(.tmp 82, B true)], [], (.lit undef), [], true⟩,
    ⟨[(.tmp 82, B true)], [], (.lit undef), [], true⟩,
    ⟨[(.tmp 82, B true)], [], (.lit undef), [], true⟩,
    ⟨[(.tmp 85, (.lit undef))], [], (.lit undef), [], true⟩,
    ⟨[(.tmp 85, (.lit undef))], [], (.lit undef), [], true⟩,
    ⟨[(.tmp 85, (.lit undef))], [], (.lit undef), [], true⟩,
    ⟨[(.tmp 85, (.lit undef))], [], (.lit undef), [], true⟩,
    ⟨[(.tmp 89, (.lit undef))], [], (.lit undef), [], true⟩,
    ⟨[(.tmp 89, (.lit undef))], [], (.lit undef), [], true⟩,
    ⟨[(.tmp 89, (.lit undef))], [], (.lit undef), [], true⟩,
    ⟨[(.tmp 85, (.lit undef))], [], (.lit undef), [], true⟩,
    ⟨[(.tmp 82, B true)], [], (.lit undef), [], true⟩,
    ⟨[(.tmp 82, B true), (.const (.bool true), B true), (.tmp 94, (.lit undef))], [], B true, [], false⟩] (by kernel_rfl) (by exact ⟨by kernel_rfl, by kernel_rfl⟩) (by kernel_rfl) ?_ ?_
            · exact ⟨fun _ => astep_move rfl,
    fun _ => astep_bin rfl rfl,
    fun _ => astep_b hb47 (astep_move rfl),
    fun _ => astep_guard (astep_move rfl),
    fun _ => astep_guard (astep_bin rfl rfl),
    fun _ => astep_b hb48 (astep_guard (astep_move rfl)),
    fun hs => (Bool.noConfusion hs),
    fun hs => (Bool.noConfusion hs),
    fun hs => (Bool.noConfusion hs),
    fun hs => (Bool.noConfusion hs),
    fun hs => (Bool.noConfusion hs),
    fun hs => (Bool.noConfusion hs),
    fun hs => (Bool.noConfusion hs),
    fun hs => (Bool.noConfusion hs),
    fun hs => (Bool.noConfusion hs),
    fun _ => astep_guard (astep_pick rfl rfl),
    fun _ => astep_pick rfl rfl,
    fun _ => astep_move rfl,
    fun hs => (Bool.noConfusion hs),
    fun hs => (Bool.noConfusion hs),
    fun hs => (Bool.noConfusion hs),
    fun hs => (Bool.noConfusion hs),
    fun hs => (Bool.noConfusion hs),
    fun hs => (Bool.noConfusion hs),
    fun hs => (Bool.noConfusion hs),
    fun hs => (Bool.noConfusion hs),
    fun hs => (Bool.noConfusion hs),
    fun hs => (Bool.noConfusion hs),
    fun hs => (Bool.noConfusion hs),
    fun hs => (Bool.noConfusion hs),
    fun _ => astep_pick rfl rfl, trivial⟩
            refine awp_true (by kernel_rfl) ?_
            refine awp_reg [⟨[(.const (.bool false), B false)], [], B false, [], false⟩] (by exact ⟨by kernel_rfl, by kernel_rfl⟩) ?_ ?_
            · exact ⟨fun _ => astep_assign rfl, trivial⟩
            refine awp_ret ?_
            refine thenA_r ?_
            obtain rfl := Option.some.inj h
            exact ⟨⟨[B false], ⟨resOK_tmp (by kernel_rfl), trivial⟩, rfl⟩, (NLt.lit _), Nat.le_refl _, fun n hn => absurd hn (Nat.not_lt_zero n)⟩
          · replace h := bif_f hb48 h
            obtain ⟨x49, hg50, h⟩ := bind_out h
            obtain ⟨hi51, hj52⟩ := getI_some hg50
            obtain ⟨x54, hf53, h⟩ := bind_out h
            obtain ⟨x56, hf55, h⟩ := bind_out h
            rcases Bool.eq_false_or_eq_true ((!(([x7.1.Steam.Mass, x7.1.Steam.Heat, x7.1.Steam.Silica, x7.1.Steam.Gas, x7.1.Water.Mass, x7.1.Water.Heat, x7.1.Water.Silica, x7.1.Water.Gas, x7.1.Rest, x7.1.Scale] : List Int) == [x56.Steam.Mass, x56.Steam.Heat, x56.Steam.Silica, x56.Steam.Gas, x56.Water.Mass, x56.Water.Heat, x56.Water.Silica, x56.Water.Gas, x56.Rest, x56.Scale]))) with hb57 | hb57
            · replace h := bif_t hb57 h
              refine awp_regd [⟨[(.tmp 13, I y15)], [], I y15, [], false⟩,
    ⟨[(.tmp 65, I y15), (.const (.int .i64 0), I 0)], [], (B ((y15 == 0))), [], false⟩,
    ⟨[(.tmp 66, (B ((y15 == 0))))], [], B true, [], false⟩,
    ⟨[(.tmp 67, B true), (.tmp 10, I x7.2)], [], I x7.2, [], false⟩,
    ⟨[(.tmp 67, B true), (.tmp 68, I x7.2), (.const (.int .i64 0), I 0)], [], (B ((x7.2 != 0))), [], false⟩,
    ⟨[(.tmp 67, B true), (.tmp 69, (B ((x7.2 != 0))))], [], B false, [], false⟩,
    ⟨[(.tmp 70, B false), (.tmp 9, .ref 1 10 0 0)], [(1, .own 10 [[I x7.1.Steam.Mass, I x7.1.Steam.Heat, I x7.1.Steam.Silica, I x7.1.Steam.Gas, I x7.1.Water.Mass, I x7.1.Water.Heat, I x7.1.Water.Silica, I x7.1.Water.Gas, I x7.1.Rest, I x7.1.Scale]])], (.agg [I x7.1.Steam.Mass, I x7.1.Steam.Heat, I x7.1.Steam.Silica, I x7.1.Steam.Gas, I x7.1.Water.Mass, I x7.1.Water.Heat, I x7.1.Water.Silica, I x7.1.Water.Gas, I x7.1.Rest, I x7.1.Scale]), [], false⟩,
    ⟨[(.tmp 70, B false), (.tmp 0, (.dat 5 ((p0 : List GRow).map c_GRow)))], [], (.dat 5 ((p0 : List GRow).map c_GRow)), [], false⟩,
    ⟨[(.tmp 70, B false), (.tmp 1, I p1)], [], I p1, [], false⟩,
    ⟨[(.tmp 70, B false), (.tmp 72, (.dat 5 ((p0 : List GRow).map c_GRow))), (.tmp 73, I p1)], [], (.dptr (c_GRow (x49)) 0), [], false⟩,
    ⟨[(.tmp 70, B false), (.tmp 74, (.dptr (c_GRow (x49)) 0))], [], (.agg [I x49.T, I x49.P, I x49.Liquid, I x49.Vapour, I x49.Silica]), [], false⟩,
    ⟨[(.tmp 70, B false), (.tmp 7, .ref 0 4 0 0)], [(0, .own 4 [[I p3.Mass, I p3.Heat, I p3.Silica, I p3.Gas]])], (.agg [I p3.Mass, I p3.Heat, I p3.Silica, I p3.Gas]), [], false⟩,
    ⟨[(.tmp 70, B false), (.func 52, (.fn (.func 52) [] [])), (.tmp 75, (.agg [I x49.T, I x49.P, I x49.Liquid, I x49.Vapour, I x49.Silica])), (.tmp 76, (.agg [I p3.Mass, I p3.Heat, I p3.Silica, I p3.Gas]))], [], (.agg [I x54.Steam.Mass, I x54.Steam.Heat, I x54.Steam.Silica, I x54.Steam.Gas, I x54.Water.Mass, I x54.Water.Heat, I x54.Water.Silica, I x54.Water.Gas, I x54.Rest, I x54.Scale]), [], false⟩,
    ⟨[(.tmp 70, B false), (.func 51, (.fn (.func 51) [] [])), (.tmp 77, (.agg [I x54.Steam.Mass, I x54.Steam.Heat, I x54.Steam.Silica, I x54.Steam.Gas, I x54.Water.Mass, I x54.Water.Heat, I x54.Water.Silica, I x54.Water.Gas, I x54.Rest, I x54.Scale]))], [], (.agg [I x56.Steam.Mass, I x56.Steam.Heat, I x56.Steam.Silica, I x56.Steam.Gas, I x56.Water.Mass, I x56.Water.Heat, I x56.Water.Silica, I x56.Water.Gas, I x56.Rest, I x56.Scale]), [], false⟩,
    ⟨[(.tmp 70, B false), (.tmp 71, (.agg [I x7.1.Steam.Mass, I x7.1.Steam.Heat, I x7.1.Steam.Silica, I x7.1.Steam.Gas, I x7.1.Water.Mass, I x7.1.Water.Heat, I x7.1.Water.Silica, I x7.1.Water.Gas, I x7.1.Rest, I x7.1.Scale])), (.tmp 78, (.agg [I x56.Steam.Mass, I x56.Steam.Heat, I x56.Steam.Silica, I x56.Steam.Gas, I x56.Water.Mass, I x56.Water.Heat, I x56.Water.Silica, I x56.Water.Gas, I x56.Rest, I x56.Scale]))], [], (B ((!(([x7.1.Steam.Mass, x7.1.Steam.Heat, x7.1.Steam.Silica, x7.1.Steam.Gas, x7.1.Water.Mass, x7.1.Water.Heat, x7.1.Water.Silica, x7.1.Water.Gas, x7.1.Rest, x7.1.Scale] : List Int) == [x56.Steam.Mass, x56.Steam.Heat, x56.Steam.Silica, x56.Steam.Gas, x56.Water.Mass, x56.Water.Heat, x56.Water.Silica, x56.Water.Gas, x56.Rest, x56.Scale])))), [], false⟩,
    ⟨[(.tmp 67, B true), (.tmp 70, B false), (.const (.bool true), B true), (.tmp 79, (B ((!(([x7.1.Steam.Mass, x7.1.Steam.Heat, x7.1.Steam.Silica, x7.1.Steam.Gas, x7.1.Water.Mass, x7.1.Water.Heat, x7.1.Water.Silica, x7.1.Water.Gas, x7.1.Rest, x7.1.Scale] : List Int) == [x56.Steam.Mass, x56.Steam.Heat, x56.Steam.Silica, x56.Steam.Gas, x56.Water.Mass, x56.Water.Heat, x56.Water.Silica, x56.Water.Gas, x56.Rest, x56.Scale])))))], [], (B ((!(([x7.1.Steam.Mass, x7.1.Steam.Heat, x7.1.Steam.Silica, x7.1.Steam.Gas, x7.1.Water.Mass, x7.1.Water.Heat, x7.1.Water.Silica, x7.1.Water.Gas, x7.1.Rest, x7.1.Scale] : List Int) == [x56.Steam.Mass, x56.Steam.Heat, x56.Steam.Silica, x56.Steam.Gas, x56.Water.Mass, x56.Water.Heat, x56.Water.Silica, x56.Water.Gas, x56.Rest, x56.Scale])))), [], false⟩,
    ⟨[(.tmp 67, B true), (.tmp 80, (B ((!(([x7.1.Steam.Mass, x7.1.Steam.Heat, x7.1.Steam.Silica, x7.1.Steam.Gas, x7.1.Water.Mass, x7.1.Water.Heat, x7.1.Water.Silica, x7.1.Water.Gas, x7.1.Rest, x7.1.Scale] : List Int) == [x56.Steam.Mass, x56.Steam.Heat, x56.Steam.Silica, x56.Steam.Gas, x56.Water.Mass, x56.Water.Heat, x56.Water.Silica, x56.Water.Gas, x56.Rest, x56.Scale]))))), (.const (.bool false), B false)], [], (B ((!(([x7.1.Steam.Mass, x7.1.Steam.Heat, x7.1.Steam.Silica, x7.1.Steam.Gas, x7.1.Water.Mass, x7.1.Water.Heat, x7.1.Water.Silica, x7.1.Water.Gas, x7.1.Rest, x7.1.Scale] : List Int) == [x56.Steam.Mass, x56.Steam.Heat, x56.Steam.Silica, x56.Steam.Gas, x56.Water.Mass, x56.Water.Heat, x56.Water.Silica, x56.Water.Gas, x56.Rest, x56.Scale])))), [], false⟩,
    ⟨[(.tmp 81, (B ((!(([x7.1.Steam.Mass, x7.1.Steam.Heat, x7.1.Steam.Silica, x7.1.Steam.Gas, x7.1.Water.Mass, x7.1.Water.Heat, x7.1.Water.Silica, x7.1.Water.Gas, x7.1.Rest, x7.1.Scale] : List Int) == [x56.Steam.Mass, x56.Steam.Heat, x56.Steam.Silica, x56.Steam.Gas, x56.Water.Mass, x56.Water.Heat, x56.Water.Silica, x56.Water.Gas, x56.Rest, x56.Scale])))))], [], B true, [], false⟩,
    ⟨[(.tmp 82, B true)], [], (.lit undef), [], true⟩,
    ⟨[(.tmp 82, B true)], [], (.lit undef), [], true⟩,
    ⟨[(.tmp 82, B true)], [], (.lit undef), [], true⟩,
    ⟨[(.tmp 85, (.lit undef))], [], (.lit undef), [], true⟩,
    ⟨[(.tmp 85, (.lit undef))], [], (.lit undef), [], true⟩,
    ⟨[(.tmp 85, (.lit undef))], [], (.lit undef), [], true⟩,
    ⟨[(.tmp 85, (.lit undef))], [], (.lit undef), [], true⟩,
    ⟨[(.tmp 89, (.lit undef))], [], (.lit undef), [], true⟩,
    ⟨[(.tmp 89, (.lit undef))], [], (.lit undef), [], true⟩,
    ⟨[(.tmp 89, (.lit undef))], [], (.lit undef), [], true⟩,
    ⟨[(.tmp 85, (.lit undef))], [], (.lit undef), [], true⟩,
    ⟨[(.tmp 82, B true)], [], (.lit undef), [], true⟩,
    ⟨[(.tmp 82, B true), (.const (.bool true), B true), (.tmp 94, (.lit undef))], [], B true, [], false⟩] (by kernel_rfl) (by exact ⟨by kernel_rfl, by kernel_rfl⟩) (by kernel_rfl) ?_ ?_
              · exact ⟨fun _ => astep_move rfl,
    fun _ => astep_bin rfl rfl,
    fun _ => astep_b hb47 (astep_move rfl),
    fun _ => astep_guard (astep_move rfl),
    fun _ => astep_guard (astep_bin rfl rfl),
    fun _ => astep_b hb48 (astep_guard (astep_move rfl)),
    fun _ => astep_guard (astep_load rfl ti44 (by decide) rfl (Nat.le_of_ble_eq_true rfl) rfl),
    fun _ => astep_guard (astep_move rfl),
    fun _ => astep_guard (astep_move rfl),
    fun _ => astep_guard (astep_idxd rfl Try.underlying23 ti49 rfl rfl hi51 (map_get c_GRow hj52) rfl),
    fun _ => astep_guard (astep_loadd rfl ti49 (by decide) (Nat.le_of_ble_eq_true rfl) rfl),
    fun _ => astep_guard (astep_load rfl ti39 (by decide) rfl (Nat.le_of_ble_eq_true rfl) rfl),
    fun _ => astep_guard (astep_pcall (first := []) (cap := []) (vs := [(.agg [I x49.T, I x49.P, I x49.Liquid, I x49.Vapour, I x49.Silica]), (.agg [I p3.Mass, I p3.Heat, I p3.Silica, I p3.Gas])]) rfl enter52 (ref01_FlashX_ok N x49 p3 _ hf53) rfl rfl (nl_cons (NLt.agg _ (nl_cons (NLt.lit _) (nl_cons (NLt.lit _) (nl_cons (NLt.lit _) (nl_cons (NLt.lit _) (nl_cons (NLt.lit _) nl_nil)))))) (nl_cons (NLt.agg _ (nl_cons (NLt.lit _) (nl_cons (NLt.lit _) (nl_cons (NLt.lit _) (nl_cons (NLt.lit _) nl_nil))))) nl_nil)) (NLt.agg _ (nl_cons (NLt.lit _) (nl_cons (NLt.lit _) (nl_cons (NLt.lit _) (nl_cons (NLt.lit _) (nl_cons (NLt.lit _) (nl_cons (NLt.lit _) (nl_cons (NLt.lit _) (nl_cons (NLt.lit _) (nl_cons (NLt.lit _) (nl_cons (NLt.lit _) nl_nil))))))))))) rfl),
    fun _ => astep_guard (astep_pcall (first := []) (cap := []) (vs := [(.agg [I x54.Steam.Mass, I x54.Steam.Heat, I x54.Steam.Silica, I x54.Steam.Gas, I x54.Water.Mass, I x54.Water.Heat, I x54.Water.Silica, I x54.Water.Gas, I x54.Rest, I x54.Scale])]) rfl enter51 (law01_PartsX_ok N (⟨(⟨x54.Steam.Mass, x54.Steam.Heat, x54.Steam.Silica, x54.Steam.Gas⟩ : GStream), (⟨x54.Water.Mass, x54.Water.Heat, x54.Water.Silica, x54.Water.Gas⟩ : GStream), x54.Rest, x54.Scale⟩ : GParts) _ hf55) rfl rfl (nl_cons (NLt.agg _ (nl_cons (NLt.lit _) (nl_cons (NLt.lit _) (nl_cons (NLt.lit _) (nl_cons (NLt.lit _) (nl_cons (NLt.lit _) (nl_cons (NLt.lit _) (nl_cons (NLt.lit _) (nl_cons (NLt.lit _) (nl_cons (NLt.lit _) (nl_cons (NLt.lit _) nl_nil))))))))))) nl_nil) (NLt.agg _ (nl_cons (NLt.lit _) (nl_cons (NLt.lit _) (nl_cons (NLt.lit _) (nl_cons (NLt.lit _) (nl_cons (NLt.lit _) (nl_cons (NLt.lit _) (nl_cons (NLt.lit _) (nl_cons (NLt.lit _) (nl_cons (NLt.lit _) (nl_cons (NLt.lit _) nl_nil))))))))))) rfl),
    fun _ => astep_guard (astep_nes (ls := [x7.1.Steam.Mass, x7.1.Steam.Heat, x7.1.Steam.Silica, x7.1.Steam.Gas, x7.1.Water.Mass, x7.1.Water.Heat, x7.1.Water.Silica, x7.1.Water.Gas, x7.1.Rest, x7.1.Scale]) (ks := [x56.Steam.Mass, x56.Steam.Heat, x56.Steam.Silica, x56.Steam.Gas, x56.Water.Mass, x56.Water.Heat, x56.Water.Silica, x56.Water.Gas, x56.Rest, x56.Scale]) rfl rfl eqt44 (by kernel_rfl) rfl rfl),
    fun _ => astep_guard (astep_pick rfl rfl),
    fun _ => astep_pick rfl rfl,
    fun _ => astep_b hb57 (astep_move rfl),
    fun hs => (Bool.noConfusion hs),
    fun hs => (Bool.noConfusion hs),
    fun hs => (Bool.noConfusion hs),
    fun hs => (Bool.noConfusion hs),
    fun hs => (Bool.noConfusion hs),
    fun hs => (Bool.noConfusion hs),
    fun hs => (Bool.noConfusion hs),
    fun hs => (Bool.noConfusion hs),
    fun hs => (Bool.noConfusion hs),
    fun hs => (Bool.noConfusion hs),
    fun hs => (Bool.noConfusion hs),
    fun hs => (Bool.noConfusion hs),
    fun _ => astep_pick rfl rfl, trivial⟩
              refine awp_true (by kernel_rfl) ?_
              refine awp_reg [⟨[(.const (.bool false), B false)], [], B false, [], false⟩] (by exact ⟨by kernel_rfl, by kernel_rfl⟩) ?_ ?_
              · exact ⟨fun _ => astep_assign rfl, trivial⟩
              refine awp_ret ?_
              refine thenA_r ?_
              obtain rfl := Option.some.inj h
              exact ⟨⟨[B false], ⟨resOK_tmp (by kernel_rfl), trivial⟩, rfl⟩, (NLt.lit _), Nat.le_refl _, fun n hn => absurd hn (Nat.not_lt_zero n)⟩
            · replace h := bif_f hb57 h
              rcases Bool.eq_false_or_eq_true ((y15 != 0)) with hb58 | hb58
              · replace h := bif_t hb58 h
                rcases Bool.eq_false_or_eq_true ((x7.2 != y15)) with hb59 | hb59
                · replace h := bif_t hb59 h
                  refine awp_regd [⟨[(.tmp 13, I y15)], [], I y15, [], false⟩,
    ⟨[(.tmp 65, I y15), (.const (.int .i64 0), I 0)], [], (B ((y15 == 0))), [], false⟩,
    ⟨[(.tmp 66, (B ((y15 == 0))))], [], B true, [], false⟩,
    ⟨[(.tmp 67, B true), (.tmp 10, I x7.2)], [], I x7.2, [], false⟩,
    ⟨[(.tmp 67, B true), (.tmp 68, I x7.2), (.const (.int .i64 0), I 0)], [], (B ((x7.2 != 0))), [], false⟩,
    ⟨[(.tmp 67, B true), (.tmp 69, (B ((x7.2 != 0))))], [], B false, [], false⟩,
    ⟨[(.tmp 70, B false), (.tmp 9, .ref 1 10 0 0)], [(1, .own 10 [[I x7.1.Steam.Mass, I x7.1.Steam.Heat, I x7.1.Steam.Silica, I x7.1.Steam.Gas, I x7.1.Water.Mass, I x7.1.Water.Heat, I x7.1.Water.Silica, I x7.1.Water.Gas, I x7.1.Rest, I x7.1.Scale]])], (.agg [I x7.1.Steam.Mass, I x7.1.Steam.Heat, I x7.1.Steam.Silica, I x7.1.Steam.Gas, I x7.1.Water.Mass, I x7.1.Water.Heat, I x7.1.Water.Silica, I x7.1.Water.Gas, I x7.1.Rest, I x7.1.Scale]), [], false⟩,
    ⟨[(.tmp 70, B false), (.tmp 0, (.dat 5 ((p0 : List GRow).map c_GRow)))], [], (.dat 5 ((p0 : List GRow).map c_GRow)), [], false⟩,
    ⟨[(.tmp 70, B false), (.tmp 1, I p1)], [], I p1, [], false⟩,
    ⟨[(.tmp 70, B false), (.tmp 72, (.dat 5 ((p0 : List GRow).map c_GRow))), (.tmp 73, I p1)], [], (.dptr (c_GRow (x49)) 0), [], false⟩,
    ⟨[(.tmp 70, B false), (.tmp 74, (.dptr (c_GRow (x49)) 0))], [], (.agg [I x49.T, I x49.P, I x49.Liquid, I x49.Vapour, I x49.Silica]), [], false⟩,
    ⟨[(.tmp 70, B false), (.tmp 7, .ref 0 4 0 0)], [(0, .own 4 [[I p3.Mass, I p3.Heat, I p3.Silica, I p3.Gas]])], (.agg [I p3.Mass, I p3.Heat, I p3.Silica, I p3.Gas]), [], false⟩,
    ⟨[(.tmp 70, B false), (.func 52, (.fn (.func 52) [] [])), (.tmp 75, (.agg [I x49.T, I x49.P, I x49.Liquid, I x49.Vapour, I x49.Silica])), (.tmp 76, (.agg [I p3.Mass, I p3.Heat, I p3.Silica, I p3.Gas]))], [], (.agg [I x54.Steam.Mass, I x54.Steam.Heat, I x54.Steam.Silica, I x54.Steam.Gas, I x54.Water.Mass, I x54.Water.Heat, I x54.Water.Silica, I x54.Water.Gas, I x54.Rest, I x54.Scale]), [], false⟩,
    ⟨[(.tmp 70, B false), (.func 51, (.fn (.func 51) [] [])), (.tmp 77, (.agg [I x54.Steam.Mass, I x54.Steam.Heat, I x54.Steam.Silica, I x54.Steam.Gas, I x54.Water.Mass, I x54.Water.Heat, I x54.Water.Silica, I x54.Water.Gas, I x54.Rest, I x54.Scale]))], [], (.agg [I x56.Steam.Mass, I x56.Steam.Heat, I x56.Steam.Silica, I x56.Steam.Gas, I x56.Water.Mass, I x56.Water.Heat, I x56.Water.Silica, I x56.Water.Gas, I x56.Rest, I x56.Scale]), [], false⟩,
    ⟨[(.tmp 70, B false), (.tmp 71, (.agg [I x7.1.Steam.Mass, I x7.1.Steam.Heat, I x7.1.Steam.Silica, I x7.1.Steam.Gas, I x7.1.Water.Mass, I x7.1.Water.Heat, I x7.1.Water.Silica, I x7.1.Water.Gas, I x7.1.Rest, I x7.1.Scale])), (.tmp 78, (.agg [I x56.Steam.Mass, I x56.Steam.Heat, I x56.Steam.Silica, I x56.Steam.Gas, I x56.Water.Mass, I x56.Water.Heat, I x56.Water.Silica, I x56.Water.Gas, I x56.Rest, I x56.Scale]))], [], (B ((!(([x7.1.Steam.Mass, x7.1.Steam.Heat, x7.1.Steam.Silica, x7.1.Steam.Gas, x7.1.Water.Mass, x7.1.Water.Heat, x7.1.Water.Silica, x7.1.Water.Gas, x7.1.Rest, x7.1.Scale] : List Int) == [x56.Steam.Mass, x56.Steam.Heat, x56.Steam.Silica, x56.Steam.Gas, x56.Water.Mass, x56.Water.Heat, x56.Water.Silica, x56.Water.Gas, x56.Rest, x56.Scale])))), [], false⟩,
    ⟨[(.tmp 67, B true), (.tmp 70, B false), (.const (.bool true), B true), (.tmp 79, (B ((!(([x7.1.Steam.Mass, x7.1.Steam.Heat, x7.1.Steam.Silica, x7.1.Steam.Gas, x7.1.Water.Mass, x7.1.Water.Heat, x7.1.Water.Silica, x7.1.Water.Gas, x7.1.Rest, x7.1.Scale] : List Int) == [x56.Steam.Mass, x56.Steam.Heat, x56.Steam.Silica, x56.Steam.Gas, x56.Water.Mass, x56.Water.Heat, x56.Water.Silica, x56.Water.Gas, x56.Rest, x56.Scale])))))], [], (B ((!(([x7.1.Steam.Mass, x7.1.Steam.Heat, x7.1.Steam.Silica, x7.1.Steam.Gas, x7.1.Water.Mass, x7.1.Water.Heat, x7.1.Water.Silica, x7.1.Water.Gas, x7.1.Rest, x7.1.Scale] : List Int) == [x56.Steam.Mass, x56.Steam.Heat, x56.Steam.Silica, x56.Steam.Gas, x56.Water.Mass, x56.Water.Heat, x56.Water.Silica, x56.Water.Gas, x56.Rest, x56.Scale])))), [], false⟩,
    ⟨[(.tmp 67, B true), (.tmp 80, (B ((!(([x7.1.Steam.Mass, x7.1.Steam.Heat, x7.1.Steam.Silica, x7.1.Steam.Gas, x7.1.Water.Mass, x7.1.Water.Heat, x7.1.Water.Silica, x7.1.Water.Gas, x7.1.Rest, x7.1.Scale] : List Int) == [x56.Steam.Mass, x56.Steam.Heat, x56.Steam.Silica, x56.Steam.Gas, x56.Water.Mass, x56.Water.Heat, x56.Water.Silica, x56.Water.Gas, x56.Rest, x56.Scale]))))), (.const (.bool false), B false)], [], (B ((!(([x7.1.Steam.Mass, x7.1.Steam.Heat, x7.1.Steam.Silica, x7.1.Steam.Gas, x7.1.Water.Mass, x7.1.Water.Heat, x7.1.Water.Silica, x7.1.Water.Gas, x7.1.Rest, x7.1.Scale] : List Int) == [x56.Steam.Mass, x56.Steam.Heat, x56.Steam.Silica, x56.Steam.Gas, x56.Water.Mass, x56.Water.Heat, x56.Water.Silica, x56.Water.Gas, x56.Rest, x56.Scale])))), [], false⟩,
    ⟨[(.tmp 81, (B ((!(([x7.1.Steam.Mass, x7.1.Steam.Heat, x7.1.Steam.Silica, x7.1.Steam.Gas, x7.1.Water.Mass, x7.1.Water.Heat, x7.1.Water.Silica, x7.1.Water.Gas, x7.1.Rest, x7.1.Scale] : List Int) == [x56.Steam.Mass, x56.Steam.Heat, x56.Steam.Silica, x56.Steam.Gas, x56.Water.Mass, x56.Water.Heat, x56.Water.Silica, x56.Water.Gas, x56.Rest, x56.Scale])))))], [], B false, [], false⟩,
    ⟨[(.tmp 82, B false), (.tmp 13, I y15)], [], I y15, [], false⟩,
    ⟨[(.tmp 82, B false), (.tmp 83, I y15), (.const (.int .i64 0), I 0)], [], (B ((y15 != 0))), [], false⟩,
    ⟨[(.tmp 82, B false), (.tmp 84, (B ((y15 != 0))))], [], B true, [], false⟩,
    ⟨[(.tmp 85, B true), (.tmp 10, I x7.2)], [], I x7.2, [], false⟩,
    ⟨[(.tmp 85, B true), (.tmp 13, I y15)], [], I y15, [], false⟩,
    ⟨[(.tmp 85, B true), (.tmp 86, I x7.2), (.tmp 87, I y15)], [], (B ((x7.2 != y15))), [], false⟩,
    ⟨[(.tmp 85, B true), (.tmp 88, (B ((x7.2 != y15))))], [], B true, [], false⟩,
    ⟨[(.tmp 89, B true)], [], (.lit undef), [], true⟩,
    ⟨[(.tmp 89, B true)], [], (.lit undef), [], true⟩,
    ⟨[(.tmp 89, B true)], [], (.lit undef), [], true⟩,
    ⟨[(.tmp 85, B true), (.tmp 89, B true), (.const (.bool true), B true), (.tmp 92, (.lit undef))], [], B true, [], false⟩,
    ⟨[(.tmp 82, B false), (.tmp 85, B true), (.tmp 93, B true), (.const (.bool false), B false)], [], B true, [], false⟩,
    ⟨[(.tmp 82, B false), (.const (.bool true), B true), (.tmp 94, B true)], [], B true, [], false⟩] (by kernel_rfl) (by exact ⟨by kernel_rfl, by kernel_rfl⟩) (by kernel_rfl) ?_ ?_
                  · exact ⟨fun _ => astep_move rfl,
    fun _ => astep_bin rfl rfl,
    fun _ => astep_b hb47 (astep_move rfl),
    fun _ => astep_guard (astep_move rfl),
    fun _ => astep_guard (astep_bin rfl rfl),
    fun _ => astep_b hb48 (astep_guard (astep_move rfl)),
    fun _ => astep_guard (astep_load rfl ti44 (by decide) rfl (Nat.le_of_ble_eq_true rfl) rfl),
    fun _ => astep_guard (astep_move rfl),
    fun _ => astep_guard (astep_move rfl),
    fun _ => astep_guard (astep_idxd rfl Try.underlying23 ti49 rfl rfl hi51 (map_get c_GRow hj52) rfl),
    fun _ => astep_guard (astep_loadd rfl ti49 (by decide) (Nat.le_of_ble_eq_true rfl) rfl),
    fun _ => astep_guard (astep_load rfl ti39 (by decide) rfl (Nat.le_of_ble_eq_true rfl) rfl),
    fun _ => astep_guard (astep_pcall (first := []) (cap := []) (vs := [(.agg [I x49.T, I x49.P, I x49.Liquid, I x49.Vapour, I x49.Silica]), (.agg [I p3.Mass, I p3.Heat, I p3.Silica, I p3.Gas])]) rfl enter52 (ref01_FlashX_ok N x49 p3 _ hf53) rfl rfl (nl_cons (NLt.agg _ (nl_cons (NLt.lit _) (nl_cons (NLt.lit _) (nl_cons (NLt.lit _) (nl_cons (NLt.lit _) (nl_cons (NLt.lit _) nl_nil)))))) (nl_cons (NLt.agg _ (nl_cons (NLt.lit _) (nl_cons (NLt.lit _) (nl_cons (NLt.lit _) (nl_cons (NLt.lit _) nl_nil))))) nl_nil)) (NLt.agg _ (nl_cons (NLt.lit _) (nl_cons (NLt.lit _) (nl_cons (NLt.lit _) (nl_cons (NLt.lit _) (nl_cons (NLt.lit _) (nl_cons (NLt.lit _) (nl_cons (NLt.lit _) (nl_cons (NLt.lit _) (nl_cons (NLt.lit _) (nl_cons (NLt.lit _) nl_nil))))))))))) rfl),
    fun _ => astep_guard (astep_pcall (first := []) (cap := []) (vs := [(.agg [I x54.Steam.Mass, I x54.Steam.Heat, I x54.Steam.Silica, I x54.Steam.Gas, I x54.Water.Mass, I x54.Water.Heat, I x54.Water.Silica, I x54.Water.Gas, I x54.Rest, I x54.Scale])]) rfl enter51 (law01_PartsX_ok N (⟨(⟨x54.Steam.Mass, x54.Steam.Heat, x54.Steam.Silica, x54.Steam.Gas⟩ : GStream), (⟨x54.Water.Mass, x54.Water.Heat, x54.Water.Silica, x54.Water.Gas⟩ : GStream), x54.Rest, x54.Scale⟩ : GParts) _ hf55) rfl rfl (nl_cons (NLt.agg _ (nl_cons (NLt.lit _) (nl_cons (NLt.lit _) (nl_cons (NLt.lit _) (nl_cons (NLt.lit _) (nl_cons (NLt.lit _) (nl_cons (NLt.lit _) (nl_cons (NLt.lit _) (nl_cons (NLt.lit _) (nl_cons (NLt.lit _) (nl_cons (NLt.lit _) nl_nil))))))))))) nl_nil) (NLt.agg _ (nl_cons (NLt.lit _) (nl_cons (NLt.lit _) (nl_cons (NLt.lit _) (nl_cons (NLt.lit _) (nl_cons (NLt.lit _) (nl_cons (NLt.lit _) (nl_cons (NLt.lit _) (nl_cons (NLt.lit _) (nl_cons (NLt.lit _) (nl_cons (NLt.lit _) nl_nil))))))))))) rfl),
    fun _ => astep_guard (astep_nes (ls := [x7.1.Steam.Mass, x7.1.Steam.Heat, x7.1.Steam.Silica, x7.1.Steam.Gas, x7.1.Water.Mass, x7.1.Water.Heat, x7.1.Water.Silica, x7.1.Water.Gas, x7.1.Rest, x7.1.Scale]) (ks := [x56.Steam.Mass, x56.Steam.Heat, x56.Steam.Silica, x56.Steam.Gas, x56.Water.Mass, x56.Water.Heat, x56.Water.Silica, x56.Water.Gas, x56.Rest, x56.Scale]) rfl rfl eqt44 (by kernel_rfl) rfl rfl),
    fun _ => astep_guard (astep_pick rfl rfl),
    fun _ => astep_pick rfl rfl,
    fun _ => astep_b hb57 (astep_move rfl),
    fun _ => astep_guard (astep_move rfl),
    fun _ => astep_guard (astep_bin rfl rfl),
    fun _ => astep_b hb58 (astep_guard (astep_move rfl)),
    fun _ => astep_guard (astep_move rfl),
    fun _ => astep_guard (astep_move rfl),
    fun _ => astep_guard (astep_bin rfl rfl),
    fun _ => astep_b hb59 (astep_guard (astep_move rfl)),
    fun hs => (Bool.noConfusion hs),
    fun hs => (Bool.noConfusion hs),
    fun hs => (Bool.noConfusion hs),
    fun _ => astep_guard (astep_pick rfl rfl),
    fun _ => astep_guard (astep_pick rfl rfl),
    fun _ => astep_pick rfl rfl, trivial⟩
                  refine awp_true (by kernel_rfl) ?_
                  refine awp_reg [⟨[(.const (.bool false), B false)], [], B false, [], false⟩] (by exact ⟨by kernel_rfl, by kernel_rfl⟩) ?_ ?_
                  · exact ⟨fun _ => astep_assign rfl, trivial⟩
                  refine awp_ret ?_
                  refine thenA_r ?_
                  obtain rfl := Option.some.inj h
                  exact ⟨⟨[B false], ⟨resOK_tmp (by kernel_rfl), trivial⟩, rfl⟩, (NLt.lit _), Nat.le_refl _, fun n hn => absurd hn (Nat.not_lt_zero n)⟩
                · replace h := bif_f hb59 h
                  refine awp_regd [⟨[(.tmp 13, I y15)], [], I y15, [], false⟩,
    ⟨[(.tmp 65, I y15), (.const (.int .i64 0), I 0)], [], (B ((y15 == 0))), [], false⟩,
    ⟨[(.tmp 66, (B ((y15 == 0))))], [], B true, [], false⟩,
    ⟨[(.tmp 67, B true), (.tmp 10, I x7.2)], [], I x7.2, [], false⟩,
    ⟨[(.tmp 67, B true), (.tmp 68, I x7.2), (.const (.int .i64 0), I 0)], [], (B ((x7.2 != 0))), [], false⟩,
    ⟨[(.tmp 67, B true), (.tmp 69, (B ((x7.2 != 0))))], [], B false, [], false⟩,
    ⟨[(.tmp 70, B false), (.tmp 9, .ref 1 10 0 0)], [(1, .own 10 [[I x7.1.Steam.Mass, I x7.1.Steam.Heat, I x7.1.Steam.Silica, I x7.1.Steam.Gas, I x7.1.Water.Mass, I x7.1.Water.Heat, I x7.1.Water.Silica, I x7.1.Water.Gas, I x7.1.Rest, I x7.1.Scale]])], (.agg [I x7.1.Steam.Mass, I x7.1.Steam.Heat, I x7.1.Steam.Silica, I x7.1.Steam.Gas, I x7.1.Water.Mass, I x7.1.Water.Heat, I x7.1.Water.Silica, I x7.1.Water.Gas, I x7.1.Rest, I x7.1.Scale]), [], false⟩,
    ⟨[(.tmp 70, B false), (.tmp 0, (.dat 5 ((p0 : List GRow).map c_GRow)))], [], (.dat 5 ((p0 : List GRow).map c_GRow)), [], false⟩,
    ⟨[(.tmp 70, B false), (.tmp 1, I p1)], [], I p1, [], false⟩,
    ⟨[(.tmp 70, B false), (.tmp 72, (.dat 5 ((p0 : List GRow).map c_GRow))), (.tmp 73, I p1)], [], (.dptr (c_GRow (x49)) 0), [], false⟩,
    ⟨[(.tmp 70, B false), (.tmp 74, (.dptr (c_GRow (x49)) 0))], [], (.agg [I x49.T, I x49.P, I x49.Liquid, I x49.Vapour, I x49.Silica]), [], false⟩,
    ⟨[(.tmp 70, B false), (.tmp 7, .ref 0 4 0 0)], [(0, .own 4 [[I p3.Mass, I p3.Heat, I p3.Silica, I p3.Gas]])], (.agg [I p3.Mass, I p3.Heat, I p3.Silica, I p3.Gas]), [], false⟩,
    ⟨[(.tmp 70, B false), (.func 52, (.fn (.func 52) [] [])), (.tmp 75, (.agg [I x49.T, I x49.P, I x49.Liquid, I x49.Vapour, I x49.Silica])), (.tmp 76, (.agg [I p3.Mass, I p3.Heat, I p3.Silica, I p3.Gas]))], [], (.agg [I x54.Steam.Mass, I x54.Steam.Heat, I x54.Steam.Silica, I x54.Steam.Gas, I x54.Water.Mass, I x54.Water.Heat, I x54.Water.Silica, I x54.Water.Gas, I x54.Rest, I x54.Scale]), [], false⟩,
    ⟨[(.tmp 70, B false), (.func 51, (.fn (.func 51) [] [])), (.tmp 77, (.agg [I x54.Steam.Mass, I x54.Steam.Heat, I x54.Steam.Silica, I x54.Steam.Gas, I x54.Water.Mass, I x54.Water.Heat, I x54.Water.Silica, I x54.Water.Gas, I x54.Rest, I x54.Scale]))], [], (.agg [I x56.Steam.Mass, I x56.Steam.Heat, I x56.Steam.Silica, I x56.Steam.Gas, I x56.Water.Mass, I x56.Water.Heat, I x56.Water.Silica, I x56.Water.Gas, I x56.Rest, I x56.Scale]), [], false⟩,
    ⟨[(.tmp 70, B false), (.tmp 71, (.agg [I x7.1.Steam.Mass, I x7.1.Steam.Heat, I x7.1.Steam.Silica, I x7.1.Steam.Gas, I x7.1.Water.Mass, I x7.1.Water.Heat, I x7.1.Water.Silica, I x7.1.Water.Gas, I x7.1.Rest, I x7.1.Scale])), (.tmp 78, (.agg [I x56.Steam.Mass, I x56.Steam.Heat, I x56.Steam.Silica, I x56.Steam.Gas, I x56.Water.Mass, I x56.Water.Heat, I x56.Water.Silica, I x56.Water.Gas, I x56.Rest, I x56.Scale]))], [], (B ((!(([x7.1.Steam.Mass, x7.1.Steam.Heat, x7.1.Steam.Silica, x7.1.Steam.Gas, x7.1.Water.Mass, x7.1.Water.Heat, x7.1.Water.Silica, x7.1.Water.Gas, x7.1.Rest, x7.1.Scale] : List Int) == [x56.Steam.Mass, x56.Steam.Heat, x56.Steam.Silica, x56.Steam.Gas, x56.Water.Mass, x56.Water.Heat, x56.Water.Silica, x56.Water.Gas, x56.Rest, x56.Scale])))), [], false⟩,
    ⟨[(.tmp 67, B true), (.tmp 70, B false), (.const (.bool true), B true), (.tmp 79, (B ((!(([x7.1.Steam.Mass, x7.1.Steam.Heat, x7.1.Steam.Silica, x7.1.Steam.Gas, x7.1.Water.Mass, x7.1.Water.Heat, x7.1.Water.Silica, x7.1.Water.Gas, x7.1.Rest, x7.1.Scale] : List Int) == [x56.Steam.Mass, x56.Steam.Heat, x56.Steam.Silica, x56.Steam.Gas, x56.Water.Mass, x56.Water.Heat, x56.Water.Silica, x56.Water.Gas, x56.Rest, x56.Scale])))))], [], (B ((!(([x7.1.Steam.Mass, x7.1.Steam.Heat, x7.1.Steam.Silica, x7.1.Steam.Gas, x7.1.Water.Mass, x7.1.Water.Heat, x7.1.Water.Silica, x7.1.Water.Gas, x7.1.Rest, x7.1.Scale] : List Int) == [x56.Steam.Mass, x56.Steam.Heat, x56.Steam.Silica, x56.Steam.Gas, x56.Water.Mass, x56.Water.Heat, x56.Water.Silica, x56.Water.Gas, x56.Rest, x56.Scale])))), [], false⟩,
    ⟨[(.tmp 67, B true), (.tmp 80, (B ((!(([x7.1.Steam.Mass, x7.1.Steam.Heat, x7.1.Steam.Silica, x7.1.Steam.Gas, x7.1.Water.Mass, x7.1.Water.Heat, x7.1.Water.Silica, x7.1.Water.Gas, x7.1.Rest, x7.1.Scale] : List Int) == [x56.Steam.Mass, x56.Steam.Heat, x56.Steam.Silica, x56.Steam.Gas, x56.Water.Mass, x56.Water.Heat, x56.Water.Silica, x56.Water.Gas, x56.Rest, x56.Scale]))))), (.const (.bool false), B false)], [], (B ((!(([x7.1.Steam.Mass, x7.1.Steam.Heat, x7.1.Steam.Silica, x7.1.Steam.Gas, x7.1.Water.Mass, x7.1.Water.Heat, x7.1.Water.Silica, x7.1.Water.Gas, x7.1.Rest, x7.1.Scale] : List Int) == [x56.Steam.Mass, x56.Steam.Heat, x56.Steam.Silica, x56.Steam.Gas, x56.Water.Mass, x56.Water.Heat, x56.Water.Silica, x56.Water.Gas, x56.Rest, x56.Scale])))), [], false⟩,
    ⟨[(.tmp 81, (B ((!(([x7.1.Steam.Mass, x7.1.Steam.Heat, x7.1.Steam.Silica, x7.1.Steam.Gas, x7.1.Water.Mass, x7.1.Water.Heat, x7.1.Water.Silica, x7.1.Water.Gas, x7.1.Rest, x7.1.Scale] : List Int) == [x56.Steam.Mass, x56.Steam.Heat, x56.Steam.Silica, x56.Steam.Gas, x56.Water.Mass, x56.Water.Heat, x56.Water.Silica, x56.Water.Gas, x56.Rest, x56.Scale])))))], [], B false, [], false⟩,
    ⟨[(.tmp 82, B false), (.tmp 13, I y15)], [], I y15, [], false⟩,
    ⟨[(.tmp 82, B false), (.tmp 83, I y15), (.const (.int .i64 0), I 0)], [], (B ((y15 != 0))), [], false⟩,
    ⟨[(.tmp 82, B false), (.tmp 84, (B ((y15 != 0))))], [], B true, [], false⟩,
    ⟨[(.tmp 85, B true), (.tmp 10, I x7.2)], [], I x7.2, [], false⟩,
    ⟨[(.tmp 85, B true), (.tmp 13, I y15)], [], I y15, [], false⟩,
    ⟨[(.tmp 85, B true), (.tmp 86, I x7.2), (.tmp 87, I y15)], [], (B ((x7.2 != y15))), [], false⟩,
    ⟨[(.tmp 85, B true), (.tmp 88, (B ((x7.2 != y15))))], [], B false, [], false⟩,
    ⟨[(.tmp 89, B false), (.tmp 9, .ref 1 10 0 0)], [(1, .own 10 [[I x7.1.Steam.Mass, I x7.1.Steam.Heat, I x7.1.Steam.Silica, I x7.1.Steam.Gas, I x7.1.Water.Mass, I x7.1.Water.Heat, I x7.1.Water.Silica, I x7.1.Water.Gas, I x7.1.Rest, I x7.1.Scale]])], (.agg [I x7.1.Steam.Mass, I x7.1.Steam.Heat, I x7.1.Steam.Silica, I x7.1.Steam.Gas, I x7.1.Water.Mass, I x7.1.Water.Heat, I x7.1.Water.Silica, I x7.1.Water.Gas, I x7.1.Rest, I x7.1.Scale]), [], false⟩,
    ⟨[(.tmp 89, B false)], [], (.agg [I 0, I 0, I 0, I 0, I 0, I 0, I 0, I 0, I 0, I 0]), [], false⟩,
    ⟨[(.tmp 89, B false), (.tmp 90, (.agg [I x7.1.Steam.Mass, I x7.1.Steam.Heat, I x7.1.Steam.Silica, I x7.1.Steam.Gas, I x7.1.Water.Mass, I x7.1.Water.Heat, I x7.1.Water.Silica, I x7.1.Water.Gas, I x7.1.Rest, I x7.1.Scale])), (.tmp 91, (.agg [I 0, I 0, I 0, I 0, I 0, I 0, I 0, I 0, I 0, I 0]))], [], (B ((!(([x7.1.Steam.Mass, x7.1.Steam.Heat, x7.1.Steam.Silica, x7.1.Steam.Gas, x7.1.Water.Mass, x7.1.Water.Heat, x7.1.Water.Silica, x7.1.Water.Gas, x7.1.Rest, x7.1.Scale] : List Int) == [0, 0, 0, 0, 0, 0, 0, 0, 0, 0])))), [], false⟩,
    ⟨[(.tmp 85, B true), (.tmp 89, B false), (.const (.bool true), B true), (.tmp 92, (B ((!(([x7.1.Steam.Mass, x7.1.Steam.Heat, x7.1.Steam.Silica, x7.1.Steam.Gas, x7.1.Water.Mass, x7.1.Water.Heat, x7.1.Water.Silica, x7.1.Water.Gas, x7.1.Rest, x7.1.Scale] : List Int) == [0, 0, 0, 0, 0, 0, 0, 0, 0, 0])))))], [], (B ((!(([x7.1.Steam.Mass, x7.1.Steam.Heat, x7.1.Steam.Silica, x7.1.Steam.Gas, x7.1.Water.Mass, x7.1.Water.Heat, x7.1.Water.Silica, x7.1.Water.Gas, x7.1.Rest, x7.1.Scale] : List Int) == [0, 0, 0, 0, 0, 0, 0, 0, 0, 0])))), [], false⟩,
    ⟨[(.tmp 82, B false), (.tmp 85, B true), (.tmp 93, (B ((!(([x7.1.Steam.Mass, x7.1.Steam.Heat, x7.1.Steam.Silica, x7.1.Steam.Gas, x7.1.Water.Mass, x7.1.Water.Heat, x7.1.Water.Silica, x7.1.Water.Gas, x7.1.Rest, x7.1.Scale] : List Int) == [0, 0, 0, 0, 0, 0, 0, 0, 0, 0]))))), (.const (.bool false), B false)], [], (B ((!(([x7.1.Steam.Mass, x7.1.Steam.Heat, x7.1.Steam.Silica, x7.1.Steam.Gas, x7.1.Water.Mass, x7.1.Water.Heat, x7.1.Water.Silica, x7.1.Water.Gas, x7.1.Rest, x7.1.Scale] : List Int) == [0, 0, 0, 0, 0, 0, 0, 0, 0, 0])))), [], false⟩,
    ⟨[(.tmp 82, B false), (.const (.bool true), B true), (.tmp 94, (B ((!(([x7.1.Steam.Mass, x7.1.Steam.Heat, x7.1.Steam.Silica, x7.1.Steam.Gas, x7.1.Water.Mass, x7.1.Water.Heat, x7.1.Water.Silica, x7.1.Water.Gas, x7.1.Rest, x7.1.Scale] : List Int) == [0, 0, 0, 0, 0, 0, 0, 0, 0, 0])))))], [], (B ((!(([x7.1.Steam.Mass, x7.1.Steam.Heat, x7.1.Steam.Silica, x7.1.Steam.Gas, x7.1.Water.Mass, x7.1.Water.Heat, x7.1.Water.Silica, x7.1.Water.Gas, x7.1.Rest, x7.1.Scale] : List Int) == [0, 0, 0, 0, 0, 0, 0, 0, 0, 0])))), [], false⟩] (by kernel_rfl) (by exact ⟨by kernel_rfl, by kernel_rfl⟩) (by kernel_rfl) ?_ ?_
                  · exact ⟨fun _ => astep_move rfl,
    fun _ => astep_bin rfl rfl,
    fun _ => astep_b hb47 (astep_move rfl),
    fun _ => astep_guard (astep_move rfl),
    fun _ => astep_guard (astep_bin rfl rfl),
    fun _ => astep_b hb48 (astep_guard (astep_move rfl)),
    fun _ => astep_guard (astep_load rfl ti44 (by decide) rfl (Nat.le_of_ble_eq_true rfl) rfl),
    fun _ => astep_guard (astep_move rfl),
    fun _ => astep_guard (astep_move rfl),
    fun _ => astep_guard (astep_idxd rfl Try.underlying23 ti49 rfl rfl hi51 (map_get c_GRow hj52) rfl),
    fun _ => astep_guard (astep_loadd rfl ti49 (by decide) (Nat.le_of_ble_eq_true rfl) rfl),
    fun _ => astep_guard (astep_load rfl ti39 (by decide) rfl (Nat.le_of_ble_eq_true rfl) rfl),
    fun _ => astep_guard (astep_pcall (first := []) (cap := []) (vs := [(.agg [I x49.T, I x49.P, I x49.Liquid, I x49.Vapour, I x49.Silica]), (.agg [I p3.Mass, I p3.Heat, I p3.Silica, I p3.Gas])]) rfl enter52 (ref01_FlashX_ok N x49 p3 _ hf53) rfl rfl (nl_cons (NLt.agg _ (nl_cons (NLt.lit _) (nl_cons (NLt.lit _) (nl_cons (NLt.lit _) (nl_cons (NLt.lit _) (nl_cons (NLt.lit _) nl_nil)))))) (nl_cons (NLt.agg _ (nl_cons (NLt.lit _) (nl_cons (NLt.lit _) (nl_cons (NLt.lit _) (nl_cons (NLt.lit _) nl_nil))))) nl_nil)) (NLt.agg _ (nl_cons (NLt.lit _) (nl_cons (NLt.lit _) (nl_cons (NLt.lit _) (nl_cons (NLt.lit _) (nl_cons (NLt.lit _) (nl_cons (NLt.lit _) (nl_cons (NLt.lit _) (nl_cons (NLt.lit _) (nl_cons (NLt.lit _) (nl_cons (NLt.lit _) nl_nil))))))))))) rfl),
    fun _ => astep_guard (astep_pcall (first := []) (cap := []) (vs := [(.agg [I x54.Steam.Mass, I x54.Steam.Heat, I x54.Steam.Silica, I x54.Steam.Gas, I x54.Water.Mass, I x54.Water.Heat, I x54.Water.Silica, I x54.Water.Gas, I x54.Rest, I x54.Scale])]) rfl enter51 (law01_PartsX_ok N (⟨(⟨x54.Steam.Mass, x54.Steam.Heat, x54.Steam.Silica, x54.Steam.Gas⟩ : GStream), (⟨x54.Water.Mass, x54.Water.Heat, x54.Water.Silica, x54.Water.Gas⟩ : GStream), x54.Rest, x54.Scale⟩ : GParts) _ hf55) rfl rfl (nl_cons (NLt.agg _ (nl_cons (NLt.lit _) (nl_cons (NLt.lit _) (nl_cons (NLt.lit _) (nl_cons (NLt.lit _) (nl_cons (NLt.lit _) (nl_cons (NLt.lit _) (nl_cons (NLt.lit _) (nl_cons (NLt.lit _) (nl_cons (NLt.lit _) (nl_cons (NLt.lit _) nl_nil))))))))))) nl_nil) (NLt.agg _ (nl_cons (NLt.lit _) (nl_cons (NLt.lit _) (nl_cons (NLt.lit _) (nl_cons (NLt.lit _) (nl_cons (NLt.lit _) (nl_cons (NLt.lit _) (nl_cons (NLt.lit _) (nl_cons (NLt.lit _) (nl_cons (NLt.lit _) (nl_cons (NLt.lit _) nl_nil))))))))))) rfl),
    fun _ => astep_guard (astep_nes (ls := [x7.1.Steam.Mass, x7.1.Steam.Heat, x7.1.Steam.Silica, x7.1.Steam.Gas, x7.1.Water.Mass, x7.1.Water.Heat, x7.1.Water.Silica, x7.1.Water.Gas, x7.1.Rest, x7.1.Scale]) (ks := [x56.Steam.Mass, x56.Steam.Heat, x56.Steam.Silica, x56.Steam.Gas, x56.Water.Mass, x56.Water.Heat, x56.Water.Silica, x56.Water.Gas, x56.Rest, x56.Scale]) rfl rfl eqt44 (by kernel_rfl) rfl rfl),
    fun _ => astep_guard (astep_pick rfl rfl),
    fun _ => astep_pick rfl rfl,
    fun _ => astep_b hb57 (astep_move rfl),
    fun _ => astep_guard (astep_move rfl),
    fun _ => astep_guard (astep_bin rfl rfl),
    fun _ => astep_b hb58 (astep_guard (astep_move rfl)),
    fun _ => astep_guard (astep_move rfl),
    fun _ => astep_guard (astep_move rfl),
    fun _ => astep_guard (astep_bin rfl rfl),
    fun _ => astep_b hb59 (astep_guard (astep_move rfl)),
    fun _ => astep_guard (astep_load rfl ti44 (by decide) rfl (Nat.le_of_ble_eq_true rfl) rfl),
    fun _ => astep_guard (astep_build (vs := []) rfl ts44 tz44 rfl (by rfl) rfl),
    fun _ => astep_guard (astep_nes (ls := [x7.1.Steam.Mass, x7.1.Steam.Heat, x7.1.Steam.Silica, x7.1.Steam.Gas, x7.1.Water.Mass, x7.1.Water.Heat, x7.1.Water.Silica, x7.1.Water.Gas, x7.1.Rest, x7.1.Scale]) (ks := [0, 0, 0, 0, 0, 0, 0, 0, 0, 0]) rfl rfl eqt44 (by kernel_rfl) rfl rfl),
    fun _ => astep_guard (astep_pick rfl rfl),
    fun _ => astep_guard (astep_pick rfl rfl),
    fun _ => astep_pick rfl rfl, trivial⟩
                  rcases Bool.eq_false_or_eq_true ((!(([x7.1.Steam.Mass, x7.1.Steam.Heat, x7.1.Steam.Silica, x7.1.Steam.Gas, x7.1.Water.Mass, x7.1.Water.Heat, x7.1.Water.Silica, x7.1.Water.Gas, x7.1.Rest, x7.1.Scale] : List Int) == [0, 0, 0, 0, 0, 0, 0, 0, 0, 0]))) with hc60 | hc60
                  · replace h := bif_t hc60 h
                    refine awp_ift hc60 (by kernel_rfl) ?_
                    refine awp_reg [⟨[(.const (.bool false), B false)], [], B false, [], false⟩] (by exact ⟨by kernel_rfl, by kernel_rfl⟩) ?_ ?_
                    · exact ⟨fun _ => astep_assign rfl, trivial⟩
                    refine awp_ret ?_
                    refine thenA_r ?_
                    obtain rfl := Option.some.inj h
                    exact ⟨⟨[B false], ⟨resOK_tmp (by kernel_rfl), trivial⟩, rfl⟩, (NLt.lit _), Nat.le_refl _, fun n hn => absurd hn (Nat.not_lt_zero n)⟩
                  · replace h := bif_f hc60 h
                    refine awp_ifn hc60 (by kernel_rfl) ?_
                    refine awp_skip ?_
                    refine thenA_n ?_
                    exact ⟨(), h, (mor_to (n := 139) (l' := [(0, (.dat 5 ((p0 : List GRow).map c_GRow))), (2, (.dat 1 ((p2 : List Int).map c_i64))), (7, .ref 0 4 0 0), (11, (.dat 10 ((x14.1 : List GParts).map c_GParts))), (12, I x14.2), (14, I y16)]) (own' := [(.own 4 [[I p3.Mass, I p3.Heat, I p3.Silica, I p3.Gas]])]) [(0, (.dat 5 ((p0 : List GRow).map c_GRow))), (2, (.dat 1 ((p2 : List Int).map c_i64))), (7, .ref 0 4 0 0), (11, (.dat 10 ((x14.1 : List GParts).map c_GParts))), (12, I x14.2), (14, I y16)] [0] [(.own 4 [[I p3.Mass, I p3.Heat, I p3.Silica, I p3.Gas]])] hφ0 (by kernel_rfl) (by kernel_rfl) (by kernel_rfl) ⟨rfl, .rn (.plain _ (nl_dat nl_GRow _)), rfl, .rn (.plain _ (nl_dat nl_i64 _)), rfl, .rn (rnq_ref rfl), rfl, .rn (.plain _ (nl_dat nl_GParts _)), rfl, .rn (.plain _ (NLt.lit _)), rfl, .rn (.plain _ (NLt.lit _)), trivial⟩ ⟨(spw_box ⟨(.rn (.plain _ (NLt.lit _))), (.rn (.plain _ (NLt.lit _))), (.rn (.plain _ (NLt.lit _))), (.rn (.plain _ (NLt.lit _))), trivial⟩), trivial⟩)⟩
              · replace h := bif_f hb58 h
                refine awp_regd [⟨[(.tmp 13, I y15)], [], I y15, [], false⟩,
    ⟨[(.tmp 65, I y15), (.const (.int .i64 0), I 0)], [], (B ((y15 == 0))), [], false⟩,
    ⟨[(.tmp 66, (B ((y15 == 0))))], [], B true, [], false⟩,
    ⟨[(.tmp 67, B true), (.tmp 10, I x7.2)], [], I x7.2, [], false⟩,
    ⟨[(.tmp 67, B true), (.tmp 68, I x7.2), (.const (.int .i64 0), I 0)], [], (B ((x7.2 != 0))), [], false⟩,
    ⟨[(.tmp 67, B true), (.tmp 69, (B ((x7.2 != 0))))], [], B false, [], false⟩,
    ⟨[(.tmp 70, B false), (.tmp 9, .ref 1 10 0 0)], [(1, .own 10 [[I x7.1.Steam.Mass, I x7.1.Steam.Heat, I x7.1.Steam.Silica, I x7.1.Steam.Gas, I x7.1.Water.Mass, I x7.1.Water.Heat, I x7.1.Water.Silica, I x7.1.Water.Gas, I x7.1.Rest, I x7.1.Scale]])], (.agg [I x7.1.Steam.Mass, I x7.1.Steam.Heat, I x7.1.Steam.Silica, I x7.1.Steam.Gas, I x7.1.Water.Mass, I x7.1.Water.Heat, I x7.1.Water.Silica, I x7.1.Water.Gas, I x7.1.Rest, I x7.1.Scale]), [], false⟩,
    ⟨[(.tmp 70, B false), (.tmp 0, (.dat 5 ((p0 : List GRow).map c_GRow)))], [], (.dat 5 ((p0 : List GRow).map c_GRow)), [], false⟩,
    ⟨[(.tmp 70, B false), (.tmp 1, I p1)], [], I p1, [], false⟩,
    ⟨[(.tmp 70, B false), (.tmp 72, (.dat 5 ((p0 : List GRow).map c_GRow))), (.tmp 73, I p1)], [], (.dptr (c_GRow (x49)) 0), [], false⟩,
    ⟨[(.tmp 70, B false), (.tmp 74, (.dptr (c_GRow (x49)) 0))], [], (.agg [I x49.T, I x49.P, I x49.Liquid, I x49.Vapour, I x49.Silica]), [], false⟩,
    ⟨[(.tmp 70, B false), (.tmp 7, .ref 0 4 0 0)], [(0, .own 4 [[I p3.Mass, I p3.Heat, I p3.Silica, I p3.Gas]])], (.agg [I p3.Mass, I p3.Heat, I p3.Silica, I p3.Gas]), [], false⟩,
    ⟨[(.tmp 70, B false), (.func 52, (.fn (.func 52) [] [])), (.tmp 75, (.agg [I x49.T, I x49.P, I x49.Liquid, I x49.Vapour, I x49.Silica])), (.tmp 76, (.agg [I p3.Mass, I p3.Heat, I p3.Silica, I p3.Gas]))], [], (.agg [I x54.Steam.Mass, I x54.Steam.Heat, I x54.Steam.Silica, I x54.Steam.Gas, I x54.Water.Mass, I x54.Water.Heat, I x54.Water.Silica, I x54.Water.Gas, I x54.Rest, I x54.Scale]), [], false⟩,
    ⟨[(.tmp 70, B false), (.func 51, (.fn (.func 51) [] [])), (.tmp 77, (.agg [I x54.Steam.Mass, I x54.Steam.Heat, I x54.Steam.Silica, I x54.Steam.Gas, I x54.Water.Mass, I x54.Water.Heat, I x54.Water.Silica, I x54.Water.Gas, I x54.Rest, I x54.Scale]))], [], (.agg [I x56.Steam.Mass, I x56.Steam.Heat, I x56.Steam.Silica, I x56.Steam.Gas, I x56.Water.Mass, I x56.Water.Heat, I x56.Water.Silica, I x56.Water.Gas, I x56.Rest, I x56.Scale]), [], false⟩,
    ⟨[(.tmp 70, B false), (.tmp 71, (.agg [I x7.1.Steam.Mass, I x7.1.Steam.Heat, I x7.1.Steam.Silica, I x7.1.Steam.Gas, I x7.1.Water.Mass, I x7.1.Water.Heat, I x7.1.Water.Silica, I x7.1.Water.Gas, I x7.1.Rest, I x7.1.Scale])), (.tmp 78, (.agg [I x56.Steam.Mass, I x56.Steam.Heat, I x56.Steam.Silica, I x56.Steam.Gas, I x56.Water.Mass, I x56.Water.Heat, I x56.Water.Silica, I x56.Water.Gas, I x56.Rest, I x56.Scale]))], [], (B ((!(([x7.1.Steam.Mass, x7.1.Steam.Heat, x7.1.Steam.Silica, x7.1.Steam.Gas, x7.1.Water.Mass, x7.1.Water.Heat, x7.1.Water.Silica, x7.1.Water.Gas, x7.1.Rest, x7.1.Scale] : List Int) == [x56.Steam.Mass, x56.Steam.Heat, x56.Steam.Silica, x56.Steam.Gas, x56.Water.Mass, x56.Water.Heat, x56.Water.Silica, x56.Water.Gas, x56.Rest, x56.Scale])))), [], false⟩,
    ⟨[(.tmp 67, B true), (.tmp 70, B false), (.const (.bool true), B true), (.tmp 79, (B ((!(([x7.1.Steam.Mass, x7.1.Steam.Heat, x7.1.Steam.Silica, x7.1.Steam.Gas, x7.1.Water.Mass, x7.1.Water.Heat, x7.1.Water.Silica, x7.1.Water.Gas, x7.1.Rest, x7.1.Scale] : List Int) == [x56.Steam.Mass, x56.Steam.Heat, x56.Steam.Silica, x56.Steam.Gas, x56.Water.Mass, x56.Water.Heat, x56.Water.Silica, x56.Water.Gas, x56.Rest, x56.Scale])))))], [], (B ((!(([x7.1.Steam.Mass, x7.1.Steam.Heat, x7.1.Steam.Silica, x7.1.Steam.Gas, x7.1.Water.Mass, x7.1.Water.Heat, x7.1.Water.Silica, x7.1.Water.Gas, x7.1.Rest, x7.1.Scale] : List Int) == [x56.Steam.Mass, x56.Steam.Heat, x56.Steam.Silica, x56.Steam.Gas, x56.Water.Mass, x56.Water.Heat, x56.Water.Silica, x56.Water.Gas, x56.Rest, x56.Scale])))), [], false⟩,
    ⟨[(.tmp 67, B true), (.tmp 80, (B ((!(([x7.1.Steam.Mass, x7.1.Steam.Heat, x7.1.Steam.Silica, x7.1.Steam.Gas, x7.1.Water.Mass, x7.1.Water.Heat, x7.1.Water.Silica, x7.1.Water.Gas, x7.1.Rest, x7.1.Scale] : List Int) == [x56.Steam.Mass, x56.Steam.Heat, x56.Steam.Silica, x56.Steam.Gas, x56.Water.Mass, x56.Water.Heat, x56.Water.Silica, x56.Water.Gas, x56.Rest, x56.Scale]))))), (.const (.bool false), B false)], [], (B ((!(([x7.1.Steam.Mass, x7.1.Steam.Heat, x7.1.Steam.Silica, x7.1.Steam.Gas, x7.1.Water.Mass, x7.1.Water.Heat, x7.1.Water.Silica, x7.1.Water.Gas, x7.1.Rest, x7.1.Scale] : List Int) == [x56.Steam.Mass, x56.Steam.Heat, x56.Steam.Silica, x56.Steam.Gas, x56.Water.Mass, x56.Water.Heat, x56.Water.Silica, x56.Water.Gas, x56.Rest, x56.Scale])))), [], false⟩,
    ⟨[(.tmp 81, (B ((!(([x7.1.Steam.Mass, x7.1.Steam.Heat, x7.1.Steam.Silica, x7.1.Steam.Gas, x7.1.Water.Mass, x7.1.Water.Heat, x7.1.Water.Silica, x7.1.Water.Gas, x7.1.Rest, x7.1.Scale] : List Int) == [x56.Steam.Mass, x56.Steam.Heat, x56.Steam.Silica, x56.Steam.Gas, x56.Water.Mass, x56.Water.Heat, x56.Water.Silica, x56.Water.Gas, x56.Rest, x56.Scale])))))], [], B false, [], false⟩,
    ⟨[(.tmp 82, B false), (.tmp 13, I y15)], [], I y15, [], false⟩,
    ⟨[(.tmp 82, B false), (.tmp 83, I y15), (.const (.int .i64 0), I 0)], [], (B ((y15 != 0))), [], false⟩,
    ⟨[(.tmp 82, B false), (.tmp 84, (B ((y15 != 0))))], [], B false, [], false⟩,
    ⟨[(.tmp 85, B false)], [], (.lit undef), [], true⟩,
    ⟨[(.tmp 85, B false)], [], (.lit undef), [], true⟩,
    ⟨[(.tmp 85, B false)], [], (.lit undef), [], true⟩,
    ⟨[(.tmp 85, B false)], [], (.lit undef), [], true⟩,
    ⟨[(.tmp 89, (.lit undef))], [], (.lit undef), [], true⟩,
    ⟨[(.tmp 89, (.lit undef))], [], (.lit undef), [], true⟩,
    ⟨[(.tmp 89, (.lit undef))], [], (.lit undef), [], true⟩,
    ⟨[(.tmp 85, B false)], [], (.lit undef), [], true⟩,
    ⟨[(.tmp 82, B false), (.tmp 85, B false), (.tmp 93, (.lit undef)), (.const (.bool false), B false)], [], B false, [], false⟩,
    ⟨[(.tmp 82, B false), (.const (.bool true), B true), (.tmp 94, B false)], [], B false, [], false⟩] (by kernel_rfl) (by exact ⟨by kernel_rfl, by kernel_rfl⟩) (by kernel_rfl) ?_ ?_
                · exact ⟨fun _ => astep_move rfl,
    fun _ => astep_bin rfl rfl,
    fun _ => astep_b hb47 (astep_move rfl),
    fun _ => astep_guard (astep_move rfl),
    fun _ => astep_guard (astep_bin rfl rfl),
    fun _ => astep_b hb48 (astep_guard (astep_move rfl)),
    fun _ => astep_guard (astep_load rfl ti44 (by decide) rfl (Nat.le_of_ble_eq_true rfl) rfl),
    fun _ => astep_guard (astep_move rfl),
    fun _ => astep_guard (astep_move rfl),
    fun _ => astep_guard (astep_idxd rfl Try.underlying23 ti49 rfl rfl hi51 (map_get c_GRow hj52) rfl),
    fun _ => astep_guard (astep_loadd rfl ti49 (by decide) (Nat.le_of_ble_eq_true rfl) rfl),
    fun _ => astep_guard (astep_load rfl ti39 (by decide) rfl (Nat.le_of_ble_eq_true rfl) rfl),
    fun _ => astep_guard (astep_pcall (first := []) (cap := []) (vs := [(.agg [I x49.T, I x49.P, I x49.Liquid, I x49.Vapour, I x49.Silica]), (.agg [I p3.Mass, I p3.Heat, I p3.Silica, I p3.Gas])]) rfl enter52 (ref01_FlashX_ok N x49 p3 _ hf53) rfl rfl (nl_cons (NLt.agg _ (nl_cons (NLt.lit _) (nl_cons (NLt.lit _) (nl_cons (NLt.lit _) (nl_cons (NLt.lit _) (nl_cons (NLt.lit _) nl_nil)))))) (nl_cons (NLt.agg _ (nl_cons (NLt.lit _) (nl_cons (NLt.lit _) (nl_cons (NLt.lit _) (nl_cons (NLt.lit _) nl_nil))))) nl_nil)) (NLt.agg _ (nl_cons (NLt.lit _) (nl_cons (NLt.lit _) (nl_cons (NLt.lit _) (nl_cons (NLt.lit _) (nl_cons (NLt.lit _) (nl_cons (NLt.lit _) (nl_cons (NLt.lit _) (nl_cons (NLt.lit _) (nl_cons (NLt.lit _) (nl_cons (NLt.lit _) nl_nil))))))))))) rfl),
    fun _ => astep_guard (astep_pcall (first := []) (cap := []) (vs := [(.agg [I x54.Steam.Mass, I x54.Steam.Heat, I x54.Steam.Silica, I x54.Steam.Gas, I x54.Water.Mass, I x54.Water.Heat, I x54.Water.Silica, I x54.Water.Gas, I x54.Rest, I x54.Scale])]) rfl enter51 (law01_PartsX_ok N (⟨(⟨x54.Steam.Mass, x54.Steam.Heat, x54.Steam.Silica, x54.Steam.Gas⟩ : GStream), (⟨x54.Water.Mass, x54.Water.Heat, x54.Water.Silica, x54.Water.Gas⟩ : GStream), x54.Rest, x54.Scale⟩ : GParts) _ hf55) rfl rfl (nl_cons (NLt.agg _ (nl_cons (NLt.lit _) (nl_cons (NLt.lit _) (nl_cons (NLt.lit _) (nl_cons (NLt.lit _) (nl_cons (NLt.lit _) (nl_cons (NLt.lit _) (nl_cons (NLt.lit _) (nl_cons (NLt.lit _) (nl_cons (NLt.lit _) (nl_cons (NLt.lit _) nl_nil))))))))))) nl_nil) (NLt.agg _ (nl_cons (NLt.lit _) (nl_cons (NLt.lit _) (nl_cons (NLt.lit _) (nl_cons (NLt.lit _) (nl_cons (NLt.lit _) (nl_cons (NLt.lit _) (nl_cons (NLt.lit _) (nl_cons (NLt.lit _) (nl_cons (NLt.lit _) (nl_cons (NLt.lit _) nl_nil))))))))))) rfl),
    fun _ => astep_guard (astep_nes (ls := [x7.1.Steam.Mass, x7.1.Steam.Heat, x7.1.Steam.Silica, x7.1.Steam.Gas, x7.1.Water.Mass, x7.1.Water.Heat, x7.1.Water.Silica, x7.1.Water.Gas, x7.1.Rest, x7.1.Scale]) (ks := [x56.Steam.Mass, x56.Steam.Heat, x56.Steam.Silica, x56.Steam.Gas, x56.Water.Mass, x56.Water.Heat, x56.Water.Silica, x56.Water.Gas, x56.Rest, x56.Scale]) rfl rfl eqt44 (by kernel_rfl) rfl rfl),
    fun _ => astep_guard (astep_pick rfl rfl),
    fun _ => astep_pick rfl rfl,
    fun _ => astep_b hb57 (astep_move rfl),
    fun _ => astep_guard (astep_move rfl),
    fun _ => astep_guard (astep_bin rfl rfl),
    fun _ => astep_b hb58 (astep_guard (astep_move rfl)),
    fun hs => (Bool.noConfusion hs),
    fun hs => (Bool.noConfusion hs),
    fun hs => (Bool.noConfusion hs),
    fun hs => (Bool.noConfusion hs),
    fun hs => (Bool.noConfusion hs),
    fun hs => (Bool.noConfusion hs),
    fun hs => (Bool.noConfusion hs),
    fun hs => (Bool.noConfusion hs),
    fun _ => astep_guard (astep_pick rfl rfl),
    fun _ => astep_pick rfl rfl, trivial⟩
                refine awp_false (by kernel_rfl) ?_
                refine awp_skip ?_
                refine thenA_n ?_
                exact ⟨(), h, (mor_to (n := 139) (l' := [(0, (.dat 5 ((p0 : List GRow).map c_GRow))), (2, (.dat 1 ((p2 : List Int).map c_i64))), (7, .ref 0 4 0 0), (11, (.dat 10 ((x14.1 : List GParts).map c_GParts))), (12, I x14.2), (14, I y16)]) (own' := [(.own 4 [[I p3.Mass, I p3.Heat, I p3.Silica, I p3.Gas]])]) [(0, (.dat 5 ((p0 : List GRow).map c_GRow))), (2, (.dat 1 ((p2 : List Int).map c_i64))), (7, .ref 0 4 0 0), (11, (.dat 10 ((x14.1 : List GParts).map c_GParts))), (12, I x14.2), (14, I y16)] [0] [(.own 4 [[I p3.Mass, I p3.Heat, I p3.Silica, I p3.Gas]])] hφ0 (by kernel_rfl) (by kernel_rfl) (by kernel_rfl) ⟨rfl, .rn (.plain _ (nl_dat nl_GRow _)), rfl, .rn (.plain _ (nl_dat nl_i64 _)), rfl, .rn (rnq_ref rfl), rfl, .rn (.plain _ (nl_dat nl_GParts _)), rfl, .rn (.plain _ (NLt.lit _)), rfl, .rn (.plain _ (NLt.lit _)), trivial⟩ ⟨(spw_box ⟨(.rn (.plain _ (NLt.lit _))), (.rn (.plain _ (NLt.lit _))), (.rn (.plain _ (NLt.lit _))), (.rn (.plain _ (NLt.lit _))), trivial⟩), trivial⟩)⟩
        · replace h := bif_f hb47 h
          rcases Bool.eq_false_or_eq_true ((y15 != 0)) with hb61 | hb61
          · replace h := bif_t hb61 h
            rcases Bool.eq_false_or_eq_true ((x7.2 != y15)) with hb62 | hb62
            · replace h := bif_t hb62 h
              refine awp_regd [⟨[(.tmp 13, I y15)], [], I y15, [], false⟩,
    ⟨[(.tmp 65, I y15), (.const (.int .i64 0), I 0)], [], (B ((y15 == 0))), [], false⟩,
    ⟨[(.tmp 66, (B ((y15 == 0))))], [], B false, [], false⟩,
    ⟨[(.tmp 67, B false)], [], (.lit undef), [], true⟩,
    ⟨[(.tmp 67, B false)], [], (.lit undef), [], true⟩,
    ⟨[(.tmp 67, B false)], [], (.lit undef), [], true⟩,
    ⟨[(.tmp 70, (.lit undef))], [], (.lit undef), [], true⟩,
    ⟨[(.tmp 70, (.lit undef))], [], (.lit undef), [], true⟩,
    ⟨[(.tmp 70, (.lit undef))], [], (.lit undef), [], true⟩,
    ⟨[(.tmp 70, (.lit undef))], [], (.lit undef), [], true⟩,
    ⟨[(.tmp 70, (.lit undef))], [], (.lit undef), [], true⟩,
    ⟨[(.tmp 70, (.lit undef))], [], (.lit undef), [], true⟩,
    ⟨[(.tmp 70, (.lit undef))], [], (.lit undef), [], true⟩,
    ⟨[(.tmp 70, (.lit undef))], [], (.lit undef), [], true⟩,
    ⟨[(.tmp 70, (.lit undef))], [], (.lit undef), [], true⟩,
    ⟨[(.tmp 67, B false)], [], (.lit undef), [], true⟩,
    ⟨[(.tmp 67, B false), (.tmp 80, (.lit undef)), (.const (.bool false), B false)], [], B false, [], false⟩,
    ⟨[(.tmp 81, B false)], [], B false, [], false⟩,
    ⟨[(.tmp 82, B false), (.tmp 13, I y15)], [], I y15, [], false⟩,
    ⟨[(.tmp 82, B false), (.tmp 83, I y15), (.const (.int .i64 0), I 0)], [], (B ((y15 != 0))), [], false⟩,
    ⟨[(.tmp 82, B false), (.tmp 84, (B ((y15 != 0))))], [], B true, [], false⟩,
    ⟨[(.tmp 85, B true), (.tmp 10, I x7.2)], [], I x7.2, [], false⟩,
    ⟨[(.tmp 85, B true), (.tmp 13, I y15)], [], I y15, [], false⟩,
    ⟨[(.tmp 85, B true), (.tmp 86, I x7.2), (.tmp 87, I y15)], [], (B ((x7.2 != y15))), [], false⟩,
    ⟨[(.tmp 85, B true), (.tmp 88, (B ((x7.2 != y15))))], [], B true, [], false⟩,
    ⟨[(.tmp 89, B true)], [], (.lit undef), [], true⟩,
    ⟨[(.tmp 89, B true)], [], (.lit undef), [], true⟩,
    ⟨[(.tmp 89, B true)], [], (.lit undef), [], true⟩,
    ⟨[(.tmp 85, B true), (.tmp 89, B true), (.const (.bool true), B true), (.tmp 92, (.lit undef))], [], B true, [], false⟩,
    ⟨[(.tmp 82, B false), (.tmp 85, B true), (.tmp 93, B true), (.const (.bool false), B false)], [], B true, [], false⟩,
    ⟨[(.tmp 82, B false), (.const (.bool true), B true), (.tmp 94, B true)], [], B true, [], false⟩] (by kernel_rfl) (by exact ⟨by kernel_rfl, by kernel_rfl⟩) (by kernel_rfl) ?_ ?_
              · exact ⟨fun _ => astep_move rfl,
    fun _ => astep_bin rfl rfl,
    fun _ => astep_b hb47 (astep_move rfl),
    fun hs => (Bool.noConfusion hs),
    fun hs => (Bool.noConfusion hs),
    fun hs => (Bool.noConfusion hs),
    fun hs => (Bool.noConfusion hs),
    fun hs => (Bool.noConfusion hs),
    fun hs => (Bool.noConfusion hs),
    fun hs => (Bool.noConfusion hs),
    fun hs => (Bool.noConfusion hs),
    fun hs => (Bool.noConfusion hs),
    fun hs => (Bool.noConfusion hs),
    fun hs => (Bool.noConfusion hs),
    fun hs => (Bool.noConfusion hs),
    fun hs => (Bool.noConfusion hs),
    fun _ => astep_pick rfl rfl,
    fun _ => astep_move rfl,
    fun _ => astep_guard (astep_move rfl),
    fun _ => astep_guard (astep_bin rfl rfl),
    fun _ => astep_b hb61 (astep_guard (astep_move rfl)),
    fun _ => astep_guard (astep_move rfl),
    fun _ => astep_guard (astep_move rfl),
    fun _ => astep_guard (astep_bin rfl rfl),
    fun _ => astep_b hb62 (astep_guard (astep_move rfl)),
    fun hs => (Bool.noConfusion hs),
    fun hs => (Bool.noConfusion hs),
    fun hs => (Bool.noConfusion hs),
    fun _ => astep_guard (astep_pick rfl rfl),
    fun _ => astep_guard (astep_pick rfl rfl),
    fun _ => astep_pick rfl rfl, trivial⟩
              refine awp_true (by kernel_rfl) ?_
              refine awp_reg [⟨[(.const (.bool false), B false)], [], B false, [], false⟩] (by exact ⟨by kernel_rfl, by kernel_rfl⟩) ?_ ?_
              · exact ⟨fun _ => astep_assign rfl, trivial⟩
              refine awp_ret ?_
              refine thenA_r ?_
              obtain rfl := Option.some.inj h
              exact ⟨⟨[B false], ⟨resOK_tmp (by kernel_rfl), trivial⟩, rfl⟩, (NLt.lit _), Nat.le_refl _, fun n hn => absurd hn (Nat.not_lt_zero n)⟩
            · replace h := bif_f hb62 h
              refine awp_regd [⟨[(.tmp 13, I y15)], [], I y15, [], false⟩,
    ⟨[(.tmp 65, I y15), (.const (.int .i64 0), I 0)], [], (B ((y15 == 0))), [], false⟩,
    ⟨[(.tmp 66, (B ((y15 == 0))))], [], B false, [], false⟩,
    ⟨[(.tmp 67, B false)], [], (.lit undef), [], true⟩,
    ⟨[(.tmp 67, B false)], [], (.lit undef), [], true⟩,
    ⟨[(.tmp 67, B false)], [], (.lit undef), [], true⟩,
    ⟨[(.tmp 70, (.lit undef))], [], (.lit undef), [], true⟩,
    ⟨[(.tmp 70, (.lit undef))], [], (.lit undef), [], true⟩,
    ⟨[(.tmp 70, (.lit undef))], [], (.lit undef), [], true⟩,
    ⟨[(.tmp 70, (.lit undef))], [], (.lit undef), [], true⟩,
    ⟨[(.tmp 70, (.lit undef))], [], (.lit undef), [], true⟩,
    ⟨[(.tmp 70, (.lit undef))], [], (.lit undef), [], true⟩,
    ⟨[(.tmp 70, (.lit undef))], [], (.lit undef), [], true⟩,
    ⟨[(.tmp 70, (.lit undef))], [], (.lit undef), [], true⟩,
    ⟨[(.tmp 70, (.lit undef))], [], (.lit undef), [], true⟩,
    ⟨[(.tmp 67, B false)], [], (.lit undef), [], true⟩,
    ⟨[(.tmp 67, B false), (.tmp 80, (.lit undef)), (.const (.bool false), B false)], [], B false, [], false⟩,
    ⟨[(.tmp 81, B false)], [], B false, [], false⟩,
    ⟨[(.tmp 82, B false), (.tmp 13, I y15)], [], I y15, [], false⟩,
    ⟨[(.tmp 82, B false), (.tmp 83, I y15), (.const (.int .i64 0), I 0)], [], (B ((y15 != 0))), [], false⟩,
    ⟨[(.tmp 82, B false), (.tmp 84, (B ((y15 != 0))))], [], B true, [], false⟩,
    ⟨[(.tmp 85, B true), (.tmp 10, I x7.2)], [], I x7.2, [], false⟩,
    ⟨[(.tmp 85, B true), (.tmp 13, I y15)], [], I y15, [], false⟩,
    ⟨[(.tmp 85, B true), (.tmp 86, I x7.2), (.tmp 87, I y15)], [], (B ((x7.2 != y15))), [], false⟩,
    ⟨[(.tmp 85, B true), (.tmp 88, (B ((x7.2 != y15))))], [], B false, [], false⟩,
    ⟨[(.tmp 89, B false), (.tmp 9, .ref 1 10 0 0)], [(1, .own 10 [[I x7.1.Steam.Mass, I x7.1.Steam.Heat, I x7.1.Steam.Silica, I x7.1.Steam.Gas, I x7.1.Water.Mass, I x7.1.Water.Heat, I x7.1.Water.Silica, I x7.1.Water.Gas, I x7.1.Rest, I x7.1.Scale]])], (.agg [I x7.1.Steam.Mass, I x7.1.Steam.Heat, I x7.1.Steam.Silica, I x7.1.Steam.Gas, I x7.1.Water.Mass, I x7.1.Water.Heat, I x7.1.Water.Silica, I x7.1.Water.Gas, I x7.1.Rest, I x7.1.Scale]), [], false⟩,
    ⟨[(.tmp 89, B false)], [], (.agg [I 0, I 0, I 0, I 0, I 0, I 0, I 0, I 0, I 0, I 0]), [], false⟩,
    ⟨[(.tmp 89, B false), (.tmp 90, (.agg [I x7.1.Steam.Mass, I x7.1.Steam.Heat, I x7.1.Steam.Silica, I x7.1.Steam.Gas, I x7.1.Water.Mass, I x7.1.Water.Heat, I x7.1.Water.Silica, I x7.1.Water.Gas, I x7.1.Rest, I x7.1.Scale])), (.tmp 91, (.agg [I 0, I 0, I 0, I 0, I 0, I 0, I 0, I 0, I 0, I 0]))], [], (B ((!(([x7.1.Steam.Mass, x7.1.Steam.Heat, x7.1.Steam.Silica, x7.1.Steam.Gas, x7.1.Water.Mass, x7.1.Water.Heat, x7.1.Water.Silica, x7.1.Water.Gas, x7.1.Rest, x7.1.Scale] : List Int) == [0, 0, 0, 0, 0, 0, 0, 0, 0, 0])))), [], false⟩,
    ⟨[(.tmp 85, B true), (.tmp 89, B false), (.const (.bool true), B true), (.tmp 92, (B ((!(([x7.1.Steam.Mass, x7.1.Steam.Heat, x7.1.Steam.Silica, x7.1.Steam.Gas, x7.1.Water.Mass, x7.1.Water.Heat, x7.1.Water.Silica, x7.1.Water.Gas, x7.1.Rest, x7.1.Scale] : List Int) == [0, 0, 0, 0, 0, 0, 0, 0, 0, 0])))))], [], (B ((!(([x7.1.Steam.Mass, x7.1.Steam.Heat, x7.1.Steam.Silica, x7.1.Steam.Gas, x7.1.Water.Mass, x7.1.Water.Heat, x7.1.Water.Silica, x7.1.Water.Gas, x7.1.Rest, x7.1.Scale] : List Int) == [0, 0, 0, 0, 0, 0, 0, 0, 0, 0])))), [], false⟩,
    ⟨[(.tmp 82, B false), (.tmp 85, B true), (.tmp 93, (B ((!(([x7.1.Steam.Mass, x7.1.Steam.Heat, x7.1.Steam.Silica, x7.1.Steam.Gas, x7.1.Water.Mass, x7.1.Water.Heat, x7.1.Water.Silica, x7.1.Water.Gas, x7.1.Rest, x7.1.Scale] : List Int) == [0, 0, 0, 0, 0, 0, 0, 0, 0, 0]))))), (.const (.bool false), B false)], [], (B ((!(([x7.1.Steam.Mass, x7.1.Steam.Heat, x7.1.Steam.Silica, x7.1.Steam.Gas, x7.1.Water.Mass, x7.1.Water.Heat, x7.1.Water.Silica, x7.1.Water.Gas, x7.1.Rest, x7.1.Scale] : List Int) == [0, 0, 0, 0, 0, 0, 0, 0, 0, 0])))), [], false⟩,
    ⟨[(.tmp 82, B false), (.const (.bool true), B true), (.tmp 94, (B ((!(([x7.1.Steam.Mass, x7.1.Steam.Heat, x7.1.Steam.Silica, x7.1.Steam.Gas, x7.1.Water.Mass, x7.1.Water.Heat, x7.1.Water.Silica, x7.1.Water.Gas, x7.1.Rest, x7.1.Scale] : List Int) == [0, 0, 0, 0, 0, 0, 0, 0, 0, 0])))))], [], (B ((!(([x7.1.Steam.Mass, x7.1.Steam.Heat, x7.1.Steam.Silica, x7.1.Steam.Gas, x7.1.Water.Mass, x7.1.Water.Heat, x7.1.Water.Silica, x7.1.Water.Gas, x7.1.Rest, x7.1.Scale] : List Int) == [0, 0, 0, 0, 0, 0, 0, 0, 0, 0])))), [], false⟩] (by kernel_rfl) (by exact ⟨by kernel_rfl, by kernel_rfl⟩) (by kernel_rfl) ?_ ?_
              · exact ⟨fun _ => astep_move rfl,
    fun _ => astep_bin rfl rfl,
    fun _ => astep_b hb47 (astep_move rfl),
    fun hs => (Bool.noConfusion hs),
    fun hs => (Bool.noConfusion hs),
    fun hs => (Bool.noConfusion hs),
    fun hs => (Bool.noConfusion hs),
    fun hs => (Bool.noConfusion hs),
    fun hs => (Bool.noConfusion hs),
    fun hs => (Bool.noConfusion hs),
    fun hs => (Bool.noConfusion hs),
    fun hs => (Bool.noConfusion hs),
    fun hs => (Bool.noConfusion hs),
    fun hs => (Bool.noConfusion hs),
    fun hs => (Bool.noConfusion hs),
    fun hs => (Bool.noConfusion hs),
    fun _ => astep_pick rfl rfl,
    fun _ => astep_move rfl,
    fun _ => astep_guard (astep_move rfl),
    fun _ => astep_guard (astep_bin rfl rfl),
    fun _ => astep_b hb61 (astep_guard (astep_move rfl)),
    fun _ => astep_guard (astep_move rfl),
    fun _ => astep_guard (astep_move rfl),
    fun _ => astep_guard (astep_bin rfl rfl),
    fun _ => astep_b hb62 (astep_guard (astep_move rfl)),
    fun _ => astep_guard (astep_load rfl ti44 (by decide) rfl (Nat.le_of_ble_eq_true rfl) rfl),
    fun _ => astep_guard (astep_build (vs := []) rfl ts44 tz44 rfl (by rfl) rfl),
    fun _ => astep_guard (astep_nes (ls := [x7.1.Steam.Mass, x7.1.Steam.Heat, x7.1.Steam.Silica, x7.1.Steam.Gas, x7.1.Water.Mass, x7.1.Water.Heat, x7.1.Water.Silica, x7.1.Water.Gas, x7.1.Rest, x7.1.Scale]) (ks := [0, 0, 0, 0, 0, 0, 0, 0, 0, 0]) rfl rfl eqt44 (by kernel_rfl) rfl rfl),
    fun _ => astep_guard (astep_pick rfl rfl),
    fun _ => astep_guard (astep_pick rfl rfl),
    fun _ => astep_pick rfl rfl, trivial⟩
              rcases Bool.eq_false_or_eq_true ((!(([x7.1.Steam.Mass, x7.1.Steam.Heat, x7.1.Steam.Silica, x7.1.Steam.Gas, x7.1.Water.Mass, x7.1.Water.Heat, x7.1.Water.Silica, x7.1.Water.Gas, x7.1.Rest, x7.1.Scale] : List Int) == [0, 0, 0, 0, 0, 0, 0, 0, 0, 0]))) with hc63 | hc63
              · replace h := bif_t hc63 h
                refine awp_ift hc63 (by kernel_rfl) ?_
                refine awp_reg [⟨[(.const (.bool false), B false)], [], B false, [], false⟩] (by exact ⟨by kernel_rfl, by kernel_rfl⟩) ?_ ?_
                · exact ⟨fun _ => astep_assign rfl, trivial⟩
                refine awp_ret ?_
                refine thenA_r ?_
                obtain rfl := Option.some.inj h
                exact ⟨⟨[B false], ⟨resOK_tmp (by kernel_rfl), trivial⟩, rfl⟩, (NLt.lit _), Nat.le_refl _, fun n hn => absurd hn (Nat.not_lt_zero n)⟩
              · replace h := bif_f hc63 h
                refine awp_ifn hc63 (by kernel_rfl) ?_
                refine awp_skip ?_
                refine thenA_n ?_
                exact ⟨(), h, (mor_to (n := 139) (l' := [(0, (.dat 5 ((p0 : List GRow).map c_GRow))), (2, (.dat 1 ((p2 : List Int).map c_i64))), (7, .ref 0 4 0 0), (11, (.dat 10 ((x14.1 : List GParts).map c_GParts))), (12, I x14.2), (14, I y16)]) (own' := [(.own 4 [[I p3.Mass, I p3.Heat, I p3.Silica, I p3.Gas]])]) [(0, (.dat 5 ((p0 : List GRow).map c_GRow))), (2, (.dat 1 ((p2 : List Int).map c_i64))), (7, .ref 0 4 0 0), (11, (.dat 10 ((x14.1 : List GParts).map c_GParts))), (12, I x14.2), (14, I y16)] [0] [(.own 4 [[I p3.Mass, I p3.Heat, I p3.Silica, I p3.Gas]])] hφ0 (by kernel_rfl) (by kernel_rfl) (by kernel_rfl) ⟨rfl, .rn (.plain _ (nl_dat nl_GRow _)), rfl, .rn (.plain _ (nl_dat nl_i64 _)), rfl, .rn (rnq_ref rfl), rfl, .rn (.plain _ (nl_dat nl_GParts _)), rfl, .rn (.plain _ (NLt.lit _)), rfl, .rn (.plain _ (NLt.lit _)), trivial⟩ ⟨(spw_box ⟨(.rn (.plain _ (NLt.lit _))), (.rn (.plain _ (NLt.lit _))), (.rn (.plain _ (NLt.lit _))), (.rn (.plain _ (NLt.lit _))), trivial⟩), trivial⟩)⟩
          · replace h := bif_f hb61 h
            refine awp_regd [⟨[(.tmp 13, I y15)], [], I y15, [], false⟩,
    ⟨[(.tmp 65, I y15), (.const (.int .i64 0), I 0)], [], (B ((y15 == 0))), [], false⟩,
    ⟨[(.tmp 66, (B ((y15 == 0))))], [], B false, [], false⟩,
    ⟨[(.tmp 67, B false)], [], (.lit undef), [], true⟩,
    ⟨[(.tmp 67, B false)], [], (.lit undef), [], true⟩,
    ⟨[(.tmp 67, B false)], [], (.lit undef), [], true⟩,
    ⟨[(.tmp 70, (.lit undef))], [], (.lit undef), [], true⟩,
    ⟨[(.tmp 70, (.lit undef))], [], (.lit undef), [], true⟩,
    ⟨[(.tmp 70, (.lit undef))], [], (.lit undef), [], true⟩,
    ⟨[(.tmp 70, (.lit undef))], [], (.lit undef), [], true⟩,
    ⟨[(.tmp 70, (.lit undef))], [], (.lit undef), [], true⟩,
    ⟨[(.tmp 70, (.lit undef))], [], (.lit undef), [], true⟩,
    ⟨[(.tmp 70, (.lit undef))], [], (.lit undef), [], true⟩,
    ⟨[(.tmp 70, (.lit undef))], [], (.lit undef), [], true⟩,
    ⟨[(.tmp 70, (.lit undef))], [], (.lit undef), [], true⟩,
    ⟨[(.tmp 67, B false)], [], (.lit undef), [], true⟩,
    ⟨[(.tmp 67, B false), (.tmp 80, (.lit undef)), (.const (.bool false), B false)], [], B false, [], false⟩,
    ⟨[(.tmp 81, B false)], [], B false, [], false⟩,
    ⟨[(.tmp 82, B false), (.tmp 13, I y15)], [], I y15, [], false⟩,
    ⟨[(.tmp 82, B false), (.tmp 83, I y15), (.const (.int .i64 0), I 0)], [], (B ((y15 != 0))), [], false⟩,
    ⟨[(.tmp 82, B false), (.tmp 84, (B ((y15 != 0))))], [], B false, [], false⟩,
    ⟨[(.tmp 85, B false)], [], (.lit undef), [], true⟩,
    ⟨[(.tmp 85, B false)], [], (.lit undef), [], true⟩,
    ⟨[(.tmp 85, B false)], [], (.lit undef), [], true⟩,
    ⟨[(.tmp 85, B false)], [], (.lit undef), [], true⟩,
    ⟨[(.tmp 89, (.lit undef))], [], (.lit undef), [], true⟩,
    ⟨[(.tmp 89, (.lit undef))], [], (.lit undef), [], true⟩,
    ⟨[(.tmp 89, (.lit undef))], [], (.lit undef), [], true⟩,
    ⟨[(.tmp 85, B false)], [], (.lit undef), [], true⟩,
    ⟨[(.tmp 82, B false), (.tmp 85, B false), (.tmp 93, (.lit undef)), (.const (.bool false), B false)], [], B false, [], false⟩,
    ⟨[(.tmp 82, B false), (.const (.bool true), B true), (.tmp 94, B false)], [], B false, [], false⟩] (by kernel_rfl) (by exact ⟨by kernel_rfl, by kernel_rfl⟩) (by kernel_rfl) ?_ ?_
            · exact ⟨fun _ => astep_move rfl,
    fun _ => astep_bin rfl rfl,
    fun _ => astep_b hb47 (astep_move rfl),
    fun hs => (Bool.noConfusion hs),
    fun hs => (Bool.noConfusion hs),
    fun hs => (Bool.noConfusion hs),
    fun hs => (Bool.noConfusion hs),
    fun hs => (Bool.noConfusion hs),
    fun hs => (Bool.noConfusion hs),
    fun hs => (Bool.noConfusion hs),
    fun hs => (Bool.noConfusion hs),
    fun hs => (Bool.noConfusion hs),
    fun hs => (Bool.noConfusion hs),
    fun hs => (Bool.noConfusion hs),
    fun hs => (Bool.noConfusion hs),
    fun hs => (Bool.noConfusion hs),
    fun _ => astep_pick rfl rfl,
    fun _ => astep_move rfl,
    fun _ => astep_guard (astep_move rfl),
    fun _ => astep_guard (astep_bin rfl rfl),
    fun _ => astep_b hb61 (astep_guard (astep_move rfl)),
    fun hs => (Bool.noConfusion hs),
    fun hs => (Bool.noConfusion hs),
    fun hs => (Bool.noConfusion hs),
    fun hs => (Bool.noConfusion hs),
    fun hs => (Bool.noConfusion hs),
    fun hs => (Bool.noConfusion hs),
    fun hs => (Bool.noConfusion hs),
    fun hs => (Bool.noConfusion hs),
    fun _ => astep_guard (astep_pick rfl rfl),
    fun _ => astep_pick rfl rfl, trivial⟩
            refine awp_false (by kernel_rfl) ?_
            refine awp_skip ?_
            refine thenA_n ?_
            exact ⟨(), h, (mor_to (n := 139) (l' := [(0, (.dat 5 ((p0 : List GRow).map c_GRow))), (2, (.dat 1 ((p2 : List Int).map c_i64))), (7, .ref 0 4 0 0), (11, (.dat 10 ((x14.1 : List GParts).map c_GParts))), (12, I x14.2), (14, I y16)]) (own' := [(.own 4 [[I p3.Mass, I p3.Heat, I p3.Silica, I p3.Gas]])]) [(0, (.dat 5 ((p0 : List GRow).map c_GRow))), (2, (.dat 1 ((p2 : List Int).map c_i64))), (7, .ref 0 4 0 0), (11, (.dat 10 ((x14.1 : List GParts).map c_GParts))), (12, I x14.2), (14, I y16)] [0] [(.own 4 [[I p3.Mass, I p3.Heat, I p3.Silica, I p3.Gas]])] hφ0 (by kernel_rfl) (by kernel_rfl) (by kernel_rfl) ⟨rfl, .rn (.plain _ (nl_dat nl_GRow _)), rfl, .rn (.plain _ (nl_dat nl_i64 _)), rfl, .rn (rnq_ref rfl), rfl, .rn (.plain _ (nl_dat nl_GParts _)), rfl, .rn (.plain _ (NLt.lit _)), rfl, .rn (.plain _ (NLt.lit _)), trivial⟩ ⟨(spw_box ⟨(.rn (.plain _ (NLt.lit _))), (.rn (.plain _ (NLt.lit _))), (.rn (.plain _ (NLt.lit _))), (.rn (.plain _ (NLt.lit _))), trivial⟩), trivial⟩)⟩
    · skip
      obtain ⟨x65, hf64, h⟩ := bind_out h
      refine awp_reg [⟨[(.tmp 0, (.dat 5 ((p0 : List GRow).map c_GRow)))], [], (.dat 5 ((p0 : List GRow).map c_GRow)), [], false⟩,
    ⟨[(.func 21, (.fn (.func 21) [] [])), (.tmp 45, (.dat 5 ((p0 : List GRow).map c_GRow)))], [], B x65, [], false⟩,
    ⟨[(.tmp 46, B x65)], [], (B ((!x65))), [], false⟩] (by exact ⟨by kernel_rfl, by kernel_rfl⟩) ?_ ?_
      · exact ⟨fun _ => astep_move rfl,
    fun _ => astep_pcall (first := []) (cap := []) (vs := [(.dat 5 ((p0 : List GRow).map c_GRow))]) rfl enter21 (ref01_RightX_ok N p0 _ hf64) rfl rfl (nl_cons (nl_dat nl_GRow _) nl_nil) (NLt.lit _) rfl,
    fun _ => astep_not rfl, trivial⟩
      rcases Bool.eq_false_or_eq_true ((!x65)) with hc66 | hc66
      · replace h := bif_t hc66 h
        refine awp_ift hc66 (by kernel_rfl) ?_
        refine awp_reg1 [⟨[(.const (.int .i64 1), I 1)], [], I 1, [], false⟩,
    ⟨[(.const (.int .i64 1), I 1)], [], I 1, [], false⟩] (by exact ⟨by kernel_rfl, by kernel_rfl⟩) ?_ ?_
        · exact ⟨fun _ => astep_assign rfl,
    fun _ => astep_assign rfl, trivial⟩
        refine thenA_n ?_
        exact ⟨(1, 1), h, (mor_to (n := 139) (l' := [(0, (.dat 5 ((p0 : List GRow).map c_GRow))), (1, I p1), (2, (.dat 1 ((p2 : List Int).map c_i64))), (7, .ref 0 4 0 0), (9, .ref 1 10 0 0), (10, I x7.2), (11, (.dat 10 ((x14.1 : List GParts).map c_GParts))), (12, I x14.2), (13, I 1), (14, I 1)]) (own' := [(.own 4 [[I p3.Mass, I p3.Heat, I p3.Silica, I p3.Gas]]), (.own 10 [[I x7.1.Steam.Mass, I x7.1.Steam.Heat, I x7.1.Steam.Silica, I x7.1.Steam.Gas, I x7.1.Water.Mass, I x7.1.Water.Heat, I x7.1.Water.Silica, I x7.1.Water.Gas, I x7.1.Rest, I x7.1.Scale]])]) [(0, (.dat 5 ((p0 : List GRow).map c_GRow))), (1, I p1), (2, (.dat 1 ((p2 : List Int).map c_i64))), (7, .ref 0 4 0 0), (9, .ref 1 10 0 0), (10, I x7.2), (11, (.dat 10 ((x14.1 : List GParts).map c_GParts))), (12, I x14.2), (13, I 1), (14, I 1)] [0, 1] [(.own 4 [[I p3.Mass, I p3.Heat, I p3.Silica, I p3.Gas]]), (.own 10 [[I x7.1.Steam.Mass, I x7.1.Steam.Heat, I x7.1.Steam.Silica, I x7.1.Steam.Gas, I x7.1.Water.Mass, I x7.1.Water.Heat, I x7.1.Water.Silica, I x7.1.Water.Gas, I x7.1.Rest, I x7.1.Scale]])] hφ0 (by kernel_rfl) (by kernel_rfl) (by kernel_rfl) ⟨rfl, .rn (.plain _ (nl_dat nl_GRow _)), rfl, .rn (.plain _ (NLt.lit _)), rfl, .rn (.plain _ (nl_dat nl_i64 _)), rfl, .rn (rnq_ref rfl), rfl, .rn (rnq_ref rfl), rfl, .rn (.plain _ (NLt.lit _)), rfl, .rn (.plain _ (nl_dat nl_GParts _)), rfl, .rn (.plain _ (NLt.lit _)), rfl, .rn (.plain _ (NLt.lit _)), rfl, .rn (.plain _ (NLt.lit _)), trivial⟩ ⟨(spw_box ⟨(.rn (.plain _ (NLt.lit _))), (.rn (.plain _ (NLt.lit _))), (.rn (.plain _ (NLt.lit _))), (.rn (.plain _ (NLt.lit _))), trivial⟩), (spw_box ⟨(.rn (.plain _ (NLt.lit _))), (.rn (.plain _ (NLt.lit _))), (.rn (.plain _ (NLt.lit _))), (.rn (.plain _ (NLt.lit _))), (.rn (.plain _ (NLt.lit _))), (.rn (.plain _ (NLt.lit _))), (.rn (.plain _ (NLt.lit _))), (.rn (.plain _ (NLt.lit _))), (.rn (.plain _ (NLt.lit _))), (.rn (.plain _ (NLt.lit _))), trivial⟩), trivial⟩)⟩
      · replace h := bif_f hc66 h
        refine awp_ifn hc66 (by kernel_rfl) ?_
        obtain ⟨k68, hk_k68, h⟩ := joinK_out h
        refine awp_join (τ := Int) (fun t => k68 t = some r) (fun y67 => ⟨mk 139 [(0, (.dat 5 ((p0 : List GRow).map c_GRow))), (1, I p1), (2, (.dat 1 ((p2 : List Int).map c_i64))), (7, .ref 0 4 0 0), (9, .ref 1 10 0 0), (10, I x7.2), (11, (.dat 10 ((x14.1 : List GParts).map c_GParts))), (12, I x14.2), (13, I y67), (14, I 0)], [(.own 4 [[I p3.Mass, I p3.Heat, I p3.Silica, I p3.Gas]]), (.own 10 [[I x7.1.Steam.Mass, I x7.1.Steam.Heat, I x7.1.Steam.Silica, I x7.1.Steam.Gas, I x7.1.Water.Mass, I x7.1.Water.Heat, I x7.1.Water.Silica, I x7.1.Water.Gas, I x7.1.Rest, I x7.1.Scale]])]⟩) (fun y67 h => ?_) ?_
        · subst hk_k68
          obtain ⟨x70, hf69, h⟩ := bind_out h
          refine awp_reg [⟨[(.tmp 0, (.dat 5 ((p0 : List GRow).map c_GRow)))], [], (.dat 5 ((p0 : List GRow).map c_GRow)), [], false⟩,
    ⟨[(.tmp 57, (.dat 5 ((p0 : List GRow).map c_GRow)))], [], (I ((p0.length : Int))), [], false⟩,
    ⟨[(.tmp 2, (.dat 1 ((p2 : List Int).map c_i64)))], [], (.dat 1 ((p2 : List Int).map c_i64)), [], false⟩,
    ⟨[(.func 50, (.fn (.func 50) [] [])), (.tmp 58, (I ((p0.length : Int)))), (.tmp 59, (.dat 1 ((p2 : List Int).map c_i64)))], [], B x70, [], false⟩,
    ⟨[(.tmp 60, B x70)], [], (B ((!x70))), [], false⟩] (by exact ⟨by kernel_rfl, by kernel_rfl⟩) ?_ ?_
          · exact ⟨fun _ => astep_move rfl,
    fun _ => astep_lenm (c := c_GRow) (l := p0) (astep_len rfl Try.underlying23 rfl),
    fun _ => astep_move rfl,
    fun _ => astep_pcall (first := []) (cap := []) (vs := [(I ((p0.length : Int))), (.dat 1 ((p2 : List Int).map c_i64))]) rfl enter50 (ref01_LevelsX_ok N (p0.length : Int) p2 _ hf69) rfl rfl (nl_cons (NLt.lit _) (nl_cons (nl_dat nl_i64 _) nl_nil)) (NLt.lit _) rfl,
    fun _ => astep_not rfl, trivial⟩
          rcases Bool.eq_false_or_eq_true ((!x70)) with hc71 | hc71
          · replace h := bif_t hc71 h
            refine awp_ift hc71 (by kernel_rfl) ?_
            refine awp_reg1 [⟨[(.const (.int .i64 2), I 2)], [], I 2, [], false⟩] (by exact ⟨by kernel_rfl, by kernel_rfl⟩) ?_ ?_
            · exact ⟨fun _ => astep_assign rfl, trivial⟩
            refine thenA_n ?_
            exact ⟨(y67, 2), h, (mor_to (n := 139) (l' := [(0, (.dat 5 ((p0 : List GRow).map c_GRow))), (1, I p1), (2, (.dat 1 ((p2 : List Int).map c_i64))), (7, .ref 0 4 0 0), (9, .ref 1 10 0 0), (10, I x7.2), (11, (.dat 10 ((x14.1 : List GParts).map c_GParts))), (12, I x14.2), (13, I y67), (14, I 2)]) (own' := [(.own 4 [[I p3.Mass, I p3.Heat, I p3.Silica, I p3.Gas]]), (.own 10 [[I x7.1.Steam.Mass, I x7.1.Steam.Heat, I x7.1.Steam.Silica, I x7.1.Steam.Gas, I x7.1.Water.Mass, I x7.1.Water.Heat, I x7.1.Water.Silica, I x7.1.Water.Gas, I x7.1.Rest, I x7.1.Scale]])]) [(0, (.dat 5 ((p0 : List GRow).map c_GRow))), (1, I p1), (2, (.dat 1 ((p2 : List Int).map c_i64))), (7, .ref 0 4 0 0), (9, .ref 1 10 0 0), (10, I x7.2), (11, (.dat 10 ((x14.1 : List GParts).map c_GParts))), (12, I x14.2), (13, I y67), (14, I 2)] [0, 1] [(.own 4 [[I p3.Mass, I p3.Heat, I p3.Silica, I p3.Gas]]), (.own 10 [[I x7.1.Steam.Mass, I x7.1.Steam.Heat, I x7.1.Steam.Silica, I x7.1.Steam.Gas, I x7.1.Water.Mass, I x7.1.Water.Heat, I x7.1.Water.Silica, I x7.1.Water.Gas, I x7.1.Rest, I x7.1.Scale]])] hφ0 (by kernel_rfl) (by kernel_rfl) (by kernel_rfl) ⟨rfl, .rn (.plain _ (nl_dat nl_GRow _)), rfl, .rn (.plain _ (NLt.lit _)), rfl, .rn (.plain _ (nl_dat nl_i64 _)), rfl, .rn (rnq_ref rfl), rfl, .rn (rnq_ref rfl), rfl, .rn (.plain _ (NLt.lit _)), rfl, .rn (.plain _ (nl_dat nl_GParts _)), rfl, .rn (.plain _ (NLt.lit _)), rfl, .rn (.plain _ (NLt.lit _)), rfl, .rn (.plain _ (NLt.lit _)), trivial⟩ ⟨(spw_box ⟨(.rn (.plain _ (NLt.lit _))), (.rn (.plain _ (NLt.lit _))), (.rn (.plain _ (NLt.lit _))), (.rn (.plain _ (NLt.lit _))), trivial⟩), (spw_box ⟨(.rn (.plain _ (NLt.lit _))), (.rn (.plain _ (NLt.lit _))), (.rn (.plain _ (NLt.lit _))), (.rn (.plain _ (NLt.lit _))), (.rn (.plain _ (NLt.lit _))), (.rn (.plain _ (NLt.lit _))), (.rn (.plain _ (NLt.lit _))), (.rn (.plain _ (NLt.lit _))), (.rn (.plain _ (NLt.lit _))), (.rn (.plain _ (NLt.lit _))), trivial⟩), trivial⟩)⟩
          · replace h := bif_f hc71 h
            refine awp_ifn hc71 (by kernel_rfl) ?_
            obtain ⟨x73, hf72, h⟩ := bind_out h
            refine awp_reg [⟨[(.tmp 7, .ref 0 4 0 0)], [(0, .own 4 [[I p3.Mass, I p3.Heat, I p3.Silica, I p3.Gas]])], (.agg [I p3.Mass, I p3.Heat, I p3.Silica, I p3.Gas]), [], false⟩,
    ⟨[(.func 24, (.fn (.func 24) [] [])), (.tmp 62, (.agg [I p3.Mass, I p3.Heat, I p3.Silica, I p3.Gas]))], [], B x73, [], false⟩,
    ⟨[(.tmp 63, B x73)], [], (B ((!x73))), [], false⟩] (by exact ⟨by kernel_rfl, by kernel_rfl⟩) ?_ ?_
            · exact ⟨fun _ => astep_load rfl ti39 (by decide) rfl (Nat.le_of_ble_eq_true rfl) rfl,
    fun _ => astep_pcall (first := []) (cap := []) (vs := [(.agg [I p3.Mass, I p3.Heat, I p3.Silica, I p3.Gas])]) rfl enter24 (ref01_RightStreamX_ok N p3 _ hf72) rfl rfl (nl_cons (NLt.agg _ (nl_cons (NLt.lit _) (nl_cons (NLt.lit _) (nl_cons (NLt.lit _) (nl_cons (NLt.lit _) nl_nil))))) nl_nil) (NLt.lit _) rfl,
    fun _ => astep_not rfl, trivial⟩
            rcases Bool.eq_false_or_eq_true ((!x73)) with hc74 | hc74
            · replace h := bif_t hc74 h
              refine awp_ift hc74 (by kernel_rfl) ?_
              refine awp_reg1 [⟨[(.const (.int .i64 1), I 1)], [], I 1, [], false⟩] (by exact ⟨by kernel_rfl, by kernel_rfl⟩) ?_ ?_
              · exact ⟨fun _ => astep_assign rfl, trivial⟩
              refine thenA_n ?_
              exact ⟨(y67, 1), h, (mor_to (n := 139) (l' := [(0, (.dat 5 ((p0 : List GRow).map c_GRow))), (1, I p1), (2, (.dat 1 ((p2 : List Int).map c_i64))), (7, .ref 0 4 0 0), (9, .ref 1 10 0 0), (10, I x7.2), (11, (.dat 10 ((x14.1 : List GParts).map c_GParts))), (12, I x14.2), (13, I y67), (14, I 1)]) (own' := [(.own 4 [[I p3.Mass, I p3.Heat, I p3.Silica, I p3.Gas]]), (.own 10 [[I x7.1.Steam.Mass, I x7.1.Steam.Heat, I x7.1.Steam.Silica, I x7.1.Steam.Gas, I x7.1.Water.Mass, I x7.1.Water.Heat, I x7.1.Water.Silica, I x7.1.Water.Gas, I x7.1.Rest, I x7.1.Scale]])]) [(0, (.dat 5 ((p0 : List GRow).map c_GRow))), (1, I p1), (2, (.dat 1 ((p2 : List Int).map c_i64))), (7, .ref 0 4 0 0), (9, .ref 1 10 0 0), (10, I x7.2), (11, (.dat 10 ((x14.1 : List GParts).map c_GParts))), (12, I x14.2), (13, I y67), (14, I 1)] [0, 1] [(.own 4 [[I p3.Mass, I p3.Heat, I p3.Silica, I p3.Gas]]), (.own 10 [[I x7.1.Steam.Mass, I x7.1.Steam.Heat, I x7.1.Steam.Silica, I x7.1.Steam.Gas, I x7.1.Water.Mass, I x7.1.Water.Heat, I x7.1.Water.Silica, I x7.1.Water.Gas, I x7.1.Rest, I x7.1.Scale]])] hφ0 (by kernel_rfl) (by kernel_rfl) (by kernel_rfl) ⟨rfl, .rn (.plain _ (nl_dat nl_GRow _)), rfl, .rn (.plain _ (NLt.lit _)), rfl, .rn (.plain _ (nl_dat nl_i64 _)), rfl, .rn (rnq_ref rfl), rfl, .rn (rnq_ref rfl), rfl, .rn (.plain _ (NLt.lit _)), rfl, .rn (.plain _ (nl_dat nl_GParts _)), rfl, .rn (.plain _ (NLt.lit _)), rfl, .rn (.plain _ (NLt.lit _)), rfl, .rn (.plain _ (NLt.lit _)), trivial⟩ ⟨(spw_box ⟨(.rn (.plain _ (NLt.lit _))), (.rn (.plain _ (NLt.lit _))), (.rn (.plain _ (NLt.lit _))), (.rn (.plain _ (NLt.lit _))), trivial⟩), (spw_box ⟨(.rn (.plain _ (NLt.lit _))), (.rn (.plain _ (NLt.lit _))), (.rn (.plain _ (NLt.lit _))), (.rn (.plain _ (NLt.lit _))), (.rn (.plain _ (NLt.lit _))), (.rn (.plain _ (NLt.lit _))), (.rn (.plain _ (NLt.lit _))), (.rn (.plain _ (NLt.lit _))), (.rn (.plain _ (NLt.lit _))), (.rn (.plain _ (NLt.lit _))), trivial⟩), trivial⟩)⟩
            · replace h := bif_f hc74 h
              refine awp_ifn hc74 (by kernel_rfl) ?_
              refine awp_skip ?_
              refine thenA_n ?_
              exact ⟨(y67, 0), h, (mor_to (n := 139) (l' := [(0, (.dat 5 ((p0 : List GRow).map c_GRow))), (1, I p1), (2, (.dat 1 ((p2 : List Int).map c_i64))), (7, .ref 0 4 0 0), (9, .ref 1 10 0 0), (10, I x7.2), (11, (.dat 10 ((x14.1 : List GParts).map c_GParts))), (12, I x14.2), (13, I y67), (14, I 0)]) (own' := [(.own 4 [[I p3.Mass, I p3.Heat, I p3.Silica, I p3.Gas]]), (.own 10 [[I x7.1.Steam.Mass, I x7.1.Steam.Heat, I x7.1.Steam.Silica, I x7.1.Steam.Gas, I x7.1.Water.Mass, I x7.1.Water.Heat, I x7.1.Water.Silica, I x7.1.Water.Gas, I x7.1.Rest, I x7.1.Scale]])]) [(0, (.dat 5 ((p0 : List GRow).map c_GRow))), (1, I p1), (2, (.dat 1 ((p2 : List Int).map c_i64))), (7, .ref 0 4 0 0), (9, .ref 1 10 0 0), (10, I x7.2), (11, (.dat 10 ((x14.1 : List GParts).map c_GParts))), (12, I x14.2), (13, I y67), (14, I 0)] [0, 1] [(.own 4 [[I p3.Mass, I p3.Heat, I p3.Silica, I p3.Gas]]), (.own 10 [[I x7.1.Steam.Mass, I x7.1.Steam.Heat, I x7.1.Steam.Silica, I x7.1.Steam.Gas, I x7.1.Water.Mass, I x7.1.Water.Heat, I x7.1.Water.Silica, I x7.1.Water.Gas, I x7.1.Rest, I x7.1.Scale]])] hφ0 (by kernel_rfl) (by kernel_rfl) (by kernel_rfl) ⟨rfl, .rn (.plain _ (nl_dat nl_GRow _)), rfl, .rn (.plain _ (NLt.lit _)), rfl, .rn (.plain _ (nl_dat nl_i64 _)), rfl, .rn (rnq_ref rfl), rfl, .rn (rnq_ref rfl), rfl, .rn (.plain _ (NLt.lit _)), rfl, .rn (.plain _ (nl_dat nl_GParts _)), rfl, .rn (.plain _ (NLt.lit _)), rfl, .rn (.plain _ (NLt.lit _)), rfl, .rn (.plain _ (NLt.lit _)), trivial⟩ ⟨(spw_box ⟨(.rn (.plain _ (NLt.lit _))), (.rn (.plain _ (NLt.lit _))), (.rn (.plain _ (NLt.lit _))), (.rn (.plain _ (NLt.lit _))), trivial⟩), (spw_box ⟨(.rn (.plain _ (NLt.lit _))), (.rn (.plain _ (NLt.lit _))), (.rn (.plain _ (NLt.lit _))), (.rn (.plain _ (NLt.lit _))), (.rn (.plain _ (NLt.lit _))), (.rn (.plain _ (NLt.lit _))), (.rn (.plain _ (NLt.lit _))), (.rn (.plain _ (NLt.lit _))), (.rn (.plain _ (NLt.lit _))), (.rn (.plain _ (NLt.lit _))), trivial⟩), trivial⟩)⟩
        · skip
          obtain ⟨x76, hf75, h⟩ := bind_out h
          refine awp_reg [⟨[(.tmp 1, I p1)], [], I p1, [], false⟩,
    ⟨[(.tmp 0, (.dat 5 ((p0 : List GRow).map c_GRow)))], [], (.dat 5 ((p0 : List GRow).map c_GRow)), [], false⟩,
    ⟨[(.tmp 49, (.dat 5 ((p0 : List GRow).map c_GRow)))], [], (I ((p0.length : Int))), [], false⟩,
    ⟨[(.tmp 50, (I ((p0.length : Int)))), (.const (.int .i64 1), I 1)], [], (I (w64 ((p0.length : Int) - 1))), [], false⟩,
    ⟨[(.func 31, (.fn (.func 31) [] [])), (.tmp 48, I p1), (.const (.int .i64 0), I 0), (.tmp 51, (I (w64 ((p0.length : Int) - 1))))], [], B x76, [], false⟩,
    ⟨[(.tmp 52, B x76)], [], (B ((!x76))), [], false⟩] (by exact ⟨by kernel_rfl, by kernel_rfl⟩) ?_ ?_
          · exact ⟨fun _ => astep_move rfl,
    fun _ => astep_move rfl,
    fun _ => astep_lenm (c := c_GRow) (l := p0) (astep_len rfl Try.underlying23 rfl),
    fun _ => astep_bin rfl rfl,
    fun _ => astep_pcall (first := []) (cap := []) (vs := [I p1, I 0, (I (w64 ((p0.length : Int) - 1)))]) rfl enter31 (ref01_InX_ok N p1 0 (w64 ((p0.length : Int) - 1)) _ hf75) rfl rfl (nl_cons (NLt.lit _) (nl_cons (NLt.lit _) (nl_cons (NLt.lit _) nl_nil))) (NLt.lit _) rfl,
    fun _ => astep_not rfl, trivial⟩
          rcases Bool.eq_false_or_eq_true ((!x76)) with hc77 | hc77
          · replace h := bif_t hc77 h
            refine awp_ift hc77 (by kernel_rfl) ?_
            refine awp_reg1 [⟨[(.const (.int .i64 2), I 2)], [], I 2, [], false⟩] (by exact ⟨by kernel_rfl, by kernel_rfl⟩) ?_ ?_
            · exact ⟨fun _ => astep_assign rfl, trivial⟩
            refine thenA_n ?_
            exact ⟨(2), h, (mor_to (n := 139) (l' := [(0, (.dat 5 ((p0 : List GRow).map c_GRow))), (1, I p1), (2, (.dat 1 ((p2 : List Int).map c_i64))), (7, .ref 0 4 0 0), (9, .ref 1 10 0 0), (10, I x7.2), (11, (.dat 10 ((x14.1 : List GParts).map c_GParts))), (12, I x14.2), (13, I 2), (14, I 0)]) (own' := [(.own 4 [[I p3.Mass, I p3.Heat, I p3.Silica, I p3.Gas]]), (.own 10 [[I x7.1.Steam.Mass, I x7.1.Steam.Heat, I x7.1.Steam.Silica, I x7.1.Steam.Gas, I x7.1.Water.Mass, I x7.1.Water.Heat, I x7.1.Water.Silica, I x7.1.Water.Gas, I x7.1.Rest, I x7.1.Scale]])]) [(0, (.dat 5 ((p0 : List GRow).map c_GRow))), (1, I p1), (2, (.dat 1 ((p2 : List Int).map c_i64))), (7, .ref 0 4 0 0), (9, .ref 1 10 0 0), (10, I x7.2), (11, (.dat 10 ((x14.1 : List GParts).map c_GParts))), (12, I x14.2), (13, I 2), (14, I 0)] [0, 1] [(.own 4 [[I p3.Mass, I p3.Heat, I p3.Silica, I p3.Gas]]), (.own 10 [[I x7.1.Steam.Mass, I x7.1.Steam.Heat, I x7.1.Steam.Silica, I x7.1.Steam.Gas, I x7.1.Water.Mass, I x7.1.Water.Heat, I x7.1.Water.Silica, I x7.1.Water.Gas, I x7.1.Rest, I x7.1.Scale]])] hφ0 (by kernel_rfl) (by kernel_rfl) (by kernel_rfl) ⟨rfl, .rn (.plain _ (nl_dat nl_GRow _)), rfl, .rn (.plain _ (NLt.lit _)), rfl, .rn (.plain _ (nl_dat nl_i64 _)), rfl, .rn (rnq_ref rfl), rfl, .rn (rnq_ref rfl), rfl, .rn (.plain _ (NLt.lit _)), rfl, .rn (.plain _ (nl_dat nl_GParts _)), rfl, .rn (.plain _ (NLt.lit _)), rfl, .rn (.plain _ (NLt.lit _)), rfl, .rn (.plain _ (NLt.lit _)), trivial⟩ ⟨(spw_box ⟨(.rn (.plain _ (NLt.lit _))), (.rn (.plain _ (NLt.lit _))), (.rn (.plain _ (NLt.lit _))), (.rn (.plain _ (NLt.lit _))), trivial⟩), (spw_box ⟨(.rn (.plain _ (NLt.lit _))), (.rn (.plain _ (NLt.lit _))), (.rn (.plain _ (NLt.lit _))), (.rn (.plain _ (NLt.lit _))), (.rn (.plain _ (NLt.lit _))), (.rn (.plain _ (NLt.lit _))), (.rn (.plain _ (NLt.lit _))), (.rn (.plain _ (NLt.lit _))), (.rn (.plain _ (NLt.lit _))), (.rn (.plain _ (NLt.lit _))), trivial⟩), trivial⟩)⟩
          · replace h := bif_f hc77 h
            refine awp_ifn hc77 (by kernel_rfl) ?_
            obtain ⟨x79, hf78, h⟩ := bind_out h
            refine awp_reg [⟨[(.tmp 7, .ref 0 4 0 0)], [(0, .own 4 [[I p3.Mass, I p3.Heat, I p3.Silica, I p3.Gas]])], (.agg [I p3.Mass, I p3.Heat, I p3.Silica, I p3.Gas]), [], false⟩,
    ⟨[(.func 24, (.fn (.func 24) [] [])), (.tmp 54, (.agg [I p3.Mass, I p3.Heat, I p3.Silica, I p3.Gas]))], [], B x79, [], false⟩,
    ⟨[(.tmp 55, B x79)], [], (B ((!x79))), [], false⟩] (by exact ⟨by kernel_rfl, by kernel_rfl⟩) ?_ ?_
            · exact ⟨fun _ => astep_load rfl ti39 (by decide) rfl (Nat.le_of_ble_eq_true rfl) rfl,
    fun _ => astep_pcall (first := []) (cap := []) (vs := [(.agg [I p3.Mass, I p3.Heat, I p3.Silica, I p3.Gas])]) rfl enter24 (ref01_RightStreamX_ok N p3 _ hf78) rfl rfl (nl_cons (NLt.agg _ (nl_cons (NLt.lit _) (nl_cons (NLt.lit _) (nl_cons (NLt.lit _) (nl_cons (NLt.lit _) nl_nil))))) nl_nil) (NLt.lit _) rfl,
    fun _ => astep_not rfl, trivial⟩
            rcases Bool.eq_false_or_eq_true ((!x79)) with hc80 | hc80
            · replace h := bif_t hc80 h
              refine awp_ift hc80 (by kernel_rfl) ?_
              refine awp_reg1 [⟨[(.const (.int .i64 1), I 1)], [], I 1, [], false⟩] (by exact ⟨by kernel_rfl, by kernel_rfl⟩) ?_ ?_
              · exact ⟨fun _ => astep_assign rfl, trivial⟩
              refine thenA_n ?_
              exact ⟨(1), h, (mor_to (n := 139) (l' := [(0, (.dat 5 ((p0 : List GRow).map c_GRow))), (1, I p1), (2, (.dat 1 ((p2 : List Int).map c_i64))), (7, .ref 0 4 0 0), (9, .ref 1 10 0 0), (10, I x7.2), (11, (.dat 10 ((x14.1 : List GParts).map c_GParts))), (12, I x14.2), (13, I 1), (14, I 0)]) (own' := [(.own 4 [[I p3.Mass, I p3.Heat, I p3.Silica, I p3.Gas]]), (.own 10 [[I x7.1.Steam.Mass, I x7.1.Steam.Heat, I x7.1.Steam.Silica, I x7.1.Steam.Gas, I x7.1.Water.Mass, I x7.1.Water.Heat, I x7.1.Water.Silica, I x7.1.Water.Gas, I x7.1.Rest, I x7.1.Scale]])]) [(0, (.dat 5 ((p0 : List GRow).map c_GRow))), (1, I p1), (2, (.dat 1 ((p2 : List Int).map c_i64))), (7, .ref 0 4 0 0), (9, .ref 1 10 0 0), (10, I x7.2), (11, (.dat 10 ((x14.1 : List GParts).map c_GParts))), (12, I x14.2), (13, I 1), (14, I 0)] [0, 1] [(.own 4 [[I p3.Mass, I p3.Heat, I p3.Silica, I p3.Gas]]), (.own 10 [[I x7.1.Steam.Mass, I x7.1.Steam.Heat, I x7.1.Steam.Silica, I x7.1.Steam.Gas, I x7.1.Water.Mass, I x7.1.Water.Heat, I x7.1.Water.Silica, I x7.1.Water.Gas, I x7.1.Rest, I x7.1.Scale]])] hφ0 (by kernel_rfl) (by kernel_rfl) (by kernel_rfl) ⟨rfl, .rn (.plain _ (nl_dat nl_GRow _)), rfl, .rn (.plain _ (NLt.lit _)), rfl, .rn (.plain _ (nl_dat nl_i64 _)), rfl, .rn (rnq_ref rfl), rfl, .rn (rnq_ref rfl), rfl, .rn (.plain _ (NLt.lit _)), rfl, .rn (.plain _ (nl_dat nl_GParts _)), rfl, .rn (.plain _ (NLt.lit _)), rfl, .rn (.plain _ (NLt.lit _)), rfl, .rn (.plain _ (NLt.lit _)), trivial⟩ ⟨(spw_box ⟨(.rn (.plain _ (NLt.lit _))), (.rn (.plain _ (NLt.lit _))), (.rn (.plain _ (NLt.lit _))), (.rn (.plain _ (NLt.lit _))), trivial⟩), (spw_box ⟨(.rn (.plain _ (NLt.lit _))), (.rn (.plain _ (NLt.lit _))), (.rn (.plain _ (NLt.lit _))), (.rn (.plain _ (NLt.lit _))), (.rn (.plain _ (NLt.lit _))), (.rn (.plain _ (NLt.lit _))), (.rn (.plain _ (NLt.lit _))), (.rn (.plain _ (NLt.lit _))), (.rn (.plain _ (NLt.lit _))), (.rn (.plain _ (NLt.lit _))), trivial⟩), trivial⟩)⟩
            · replace h := bif_f hc80 h
              refine awp_ifn hc80 (by kernel_rfl) ?_
              refine awp_skip ?_
              refine thenA_n ?_
              exact ⟨(0), h, (mor_to (n := 139) (l' := [(0, (.dat 5 ((p0 : List GRow).map c_GRow))), (1, I p1), (2, (.dat 1 ((p2 : List Int).map c_i64))), (7, .ref 0 4 0 0), (9, .ref 1 10 0 0), (10, I x7.2), (11, (.dat 10 ((x14.1 : List GParts).map c_GParts))), (12, I x14.2), (13, I 0), (14, I 0)]) (own' := [(.own 4 [[I p3.Mass, I p3.Heat, I p3.Silica, I p3.Gas]]), (.own 10 [[I x7.1.Steam.Mass, I x7.1.Steam.Heat, I x7.1.Steam.Silica, I x7.1.Steam.Gas, I x7.1.Water.Mass, I x7.1.Water.Heat, I x7.1.Water.Silica, I x7.1.Water.Gas, I x7.1.Rest, I x7.1.Scale]])]) [(0, (.dat 5 ((p0 : List GRow).map c_GRow))), (1, I p1), (2, (.dat 1 ((p2 : List Int).map c_i64))), (7, .ref 0 4 0 0), (9, .ref 1 10 0 0), (10, I x7.2), (11, (.dat 10 ((x14.1 : List GParts).map c_GParts))), (12, I x14.2), (13, I 0), (14, I 0)] [0, 1] [(.own 4 [[I p3.Mass, I p3.Heat, I p3.Silica, I p3.Gas]]), (.own 10 [[I x7.1.Steam.Mass, I x7.1.Steam.Heat, I x7.1.Steam.Silica, I x7.1.Steam.Gas, I x7.1.Water.Mass, I x7.1.Water.Heat, I x7.1.Water.Silica, I x7.1.Water.Gas, I x7.1.Rest, I x7.1.Scale]])] hφ0 (by kernel_rfl) (by kernel_rfl) (by kernel_rfl) ⟨rfl, .rn (.plain _ (nl_dat nl_GRow _)), rfl, .rn (.plain _ (NLt.lit _)), rfl, .rn (.plain _ (nl_dat nl_i64 _)), rfl, .rn (rnq_ref rfl), rfl, .rn (rnq_ref rfl), rfl, .rn (.plain _ (NLt.lit _)), rfl, .rn (.plain _ (nl_dat nl_GParts _)), rfl, .rn (.plain _ (NLt.lit _)), rfl, .rn (.plain _ (NLt.lit _)), rfl, .rn (.plain _ (NLt.lit _)), trivial⟩ ⟨(spw_box ⟨(.rn (.plain _ (NLt.lit _))), (.rn (.plain _ (NLt.lit _))), (.rn (.plain _ (NLt.lit _))), (.rn (.plain _ (NLt.lit _))), trivial⟩), (spw_box ⟨(.rn (.plain _ (NLt.lit _))), (.rn (.plain _ (NLt.lit _))), (.rn (.plain _ (NLt.lit _))), (.rn (.plain _ (NLt.lit _))), (.rn (.plain _ (NLt.lit _))), (.rn (.plain _ (NLt.lit _))), (.rn (.plain _ (NLt.lit _))), (.rn (.plain _ (NLt.lit _))), (.rn (.plain _ (NLt.lit _))), (.rn (.plain _ (NLt.lit _))), trivial⟩), trivial⟩)⟩
  · skip
    rcases Bool.eq_false_or_eq_true ((decide ((p0.length : Int) > 30))) with hb81 | hb81
    · replace h := bif_t hb81 h
      refine awp_reg [⟨[(.tmp 0, (.dat 5 ((p0 : List GRow).map c_GRow)))], [], (.dat 5 ((p0 : List GRow).map c_GRow)), [], false⟩,
    ⟨[(.tmp 17, (.dat 5 ((p0 : List GRow).map c_GRow)))], [], (I ((p0.length : Int))), [], false⟩,
    ⟨[(.tmp 18, (I ((p0.length : Int)))), (.const (.int .i64 30), I 30)], [], (B ((decide ((p0.length : Int) > 30)))), [], false⟩,
    ⟨[(.tmp 19, (B ((decide ((p0.length : Int) > 30)))))], [], B true, [], false⟩,
    ⟨[(.tmp 20, B true)], [], (.lit undef), [], true⟩,
    ⟨[(.tmp 20, B true)], [], (.lit undef), [], true⟩,
    ⟨[(.tmp 20, B true)], [], (.lit undef), [], true⟩,
    ⟨[(.tmp 20, B true), (.const (.bool true), B true), (.tmp 23, (.lit undef))], [], B true, [], false⟩] (by exact ⟨by kernel_rfl, by kernel_rfl⟩) ?_ ?_
      · exact ⟨fun _ => astep_move rfl,
    fun _ => astep_lenm (c := c_GRow) (l := p0) (astep_len rfl Try.underlying23 rfl),
    fun _ => astep_bin rfl rfl,
    fun _ => astep_b hb81 (astep_move rfl),
    fun hs => (Bool.noConfusion hs),
    fun hs => (Bool.noConfusion hs),
    fun hs => (Bool.noConfusion hs),
    fun _ => astep_pick rfl rfl, trivial⟩
      refine awp_true (by kernel_rfl) ?_
      obtain ⟨x83, hf82, h⟩ := bind_out h
      refine awp_reg [⟨[(.func 17, (.fn (.func 17) [] []))], [], B x83, [], false⟩,
    ⟨[(.tmp 25, B x83)], [], B x83, [], false⟩] (by exact ⟨by kernel_rfl, by kernel_rfl⟩) ?_ ?_
      · exact ⟨fun _ => astep_pcall (first := []) (cap := []) (vs := []) rfl enter17 (law01_awakeX_ok N  _ hf82) rfl rfl nl_nil (NLt.lit _) rfl,
    fun _ => astep_assign rfl, trivial⟩
      refine awp_ret ?_
      refine thenA_r ?_
      obtain rfl := Option.some.inj h
      exact ⟨⟨[B x83], ⟨resOK_tmp (by kernel_rfl), trivial⟩, rfl⟩, (NLt.lit _), Nat.le_refl _, fun n hn => absurd hn (Nat.not_lt_zero n)⟩
    · replace h := bif_f hb81 h
      refine awp_reg [⟨[(.tmp 0, (.dat 5 ((p0 : List GRow).map c_GRow)))], [], (.dat 5 ((p0 : List GRow).map c_GRow)), [], false⟩,
    ⟨[(.tmp 17, (.dat 5 ((p0 : List GRow).map c_GRow)))], [], (I ((p0.length : Int))), [], false⟩,
    ⟨[(.tmp 18, (I ((p0.length : Int)))), (.const (.int .i64 30), I 30)], [], (B ((decide ((p0.length : Int) > 30)))), [], false⟩,
    ⟨[(.tmp 19, (B ((decide ((p0.length : Int) > 30)))))], [], B false, [], false⟩,
    ⟨[(.tmp 20, B false), (.tmp 2, (.dat 1 ((p2 : List Int).map c_i64)))], [], (.dat 1 ((p2 : List Int).map c_i64)), [], false⟩,
    ⟨[(.tmp 20, B false), (.tmp 21, (.dat 1 ((p2 : List Int).map c_i64)))], [], (I ((p2.length : Int))), [], false⟩,
    ⟨[(.tmp 20, B false), (.tmp 22, (I ((p2.length : Int)))), (.const (.int .i64 30), I 30)], [], (B ((decide ((p2.length : Int) > 30)))), [], false⟩,
    ⟨[(.tmp 20, B false), (.const (.bool true), B true), (.tmp 23, (B ((decide ((p2.length : Int) > 30)))))], [], (B ((decide ((p2.length : Int) > 30)))), [], false⟩] (by exact ⟨by kernel_rfl, by kernel_rfl⟩) ?_ ?_
      · exact ⟨fun _ => astep_move rfl,
    fun _ => astep_lenm (c := c_GRow) (l := p0) (astep_len rfl Try.underlying23 rfl),
    fun _ => astep_bin rfl rfl,
    fun _ => astep_b hb81 (astep_move rfl),
    fun _ => astep_guard (astep_move rfl),
    fun _ => astep_guard (astep_lenm (c := c_i64) (l := p2) (astep_len rfl Try.underlying51 rfl)),
    fun _ => astep_guard (astep_bin rfl rfl),
    fun _ => astep_pick rfl rfl, trivial⟩
      rcases Bool.eq_false_or_eq_true ((decide ((p2.length : Int) > 30))) with hc84 | hc84
      · replace h := bif_t hc84 h
        refine awp_ift hc84 (by kernel_rfl) ?_
        obtain ⟨x86, hf85, h⟩ := bind_out h
        refine awp_reg [⟨[(.func 17, (.fn (.func 17) [] []))], [], B x86, [], false⟩,
    ⟨[(.tmp 25, B x86)], [], B x86, [], false⟩] (by exact ⟨by kernel_rfl, by kernel_rfl⟩) ?_ ?_
        · exact ⟨fun _ => astep_pcall (first := []) (cap := []) (vs := []) rfl enter17 (law01_awakeX_ok N  _ hf85) rfl rfl nl_nil (NLt.lit _) rfl,
    fun _ => astep_assign rfl, trivial⟩
        refine awp_ret ?_
        refine thenA_r ?_
        obtain rfl := Option.some.inj h
        exact ⟨⟨[B x86], ⟨resOK_tmp (by kernel_rfl), trivial⟩, rfl⟩, (NLt.lit _), Nat.le_refl _, fun n hn => absurd hn (Nat.not_lt_zero n)⟩
      · replace h := bif_f hc84 h
        refine awp_ifn hc84 (by kernel_rfl) ?_
        refine awp_skip ?_
        refine thenA_n ?_
        exact ⟨(), h, (mor_to (n := 139) (l' := [(0, (.dat 5 ((p0 : List GRow).map c_GRow))), (1, I p1), (2, (.dat 1 ((p2 : List Int).map c_i64))), (7, .ref 0 4 0 0)]) (own' := [(.own 4 [[I p3.Mass, I p3.Heat, I p3.Silica, I p3.Gas]])]) [(0, (.dat 5 ((p0 : List GRow).map c_GRow))), (1, I p1), (2, (.dat 1 ((p2 : List Int).map c_i64))), (7, .ref 0 4 0 0)] [0] [(.own 4 [[I p3.Mass, I p3.Heat, I p3.Silica, I p3.Gas]])] hφ0 (by kernel_rfl) (by kernel_rfl) (by kernel_rfl) ⟨rfl, .rn (.plain _ (nl_dat nl_GRow _)), rfl, .rn (.plain _ (NLt.lit _)), rfl, .rn (.plain _ (nl_dat nl_i64 _)), rfl, .rn (rnq_ref rfl), trivial⟩ ⟨(spw_box ⟨(.rn (.plain _ (NLt.lit _))), (.rn (.plain _ (NLt.lit _))), (.rn (.plain _ (NLt.lit _))), (.rn (.plain _ (NLt.lit _))), trivial⟩), trivial⟩)⟩

end Go.Proofs.Ytenpbiineblcjaa
