/-
  Functions of the program: what they compute, as plain functions, and that they do. No conditions.
-/
import Derived.Test.YtenpbiineblcjaaX2
namespace Go.Proofs.Ytenpbiineblcjaa
open Go.RowKit

def ref01_FlashX (_N : Nat) (p0 : GRow) (p1 : GStream) : Option GParts :=
  (some (w64 (p1.Heat - (w64 (p1.Mass * p0.Liquid))))).bind fun x1 =>
  joinK (fun y3 =>
      joinK (fun _ =>
          joinK (fun ⟨y6, y7, y8, y9, y10, y11⟩ =>
              joinK (fun y13 =>
                  (some (if (w64 (p1.Silica - (w64 (y9 * p0.Silica)))) > 0 then w64 (p1.Silica - (w64 (y9 * p0.Silica))) else 0)).bind fun x15 =>
                  some (⟨(⟨y6, y7, 0, y8⟩ : GStream), (⟨y9, y10, w64 (p1.Silica - x15), y11⟩ : GStream), y13, x15⟩ : GParts)) fun k14 : Int → Option GParts =>
              bif (decide (x1 > 0)) then
                k14 (w64 (y10 - (w64 (y9 * p0.Liquid))))
              else
                k14 (0)) fun k12 : Int × Int × Int × Int × Int × Int → Option GParts =>
          bif (decide (y3 > 0)) then
            k12 (y3, w64 (y3 * p0.Vapour), p1.Gas, w64 (p1.Mass - y3), w64 (p1.Heat - (w64 (y3 * p0.Vapour))), 0)
          else
            k12 (0, 0, 0, p1.Mass, p1.Heat, p1.Gas)) fun k5 : Unit → Option GParts =>
      bif (y3 == p1.Mass) then
        bif (decide (y3 > 0)) then
          some (⟨(⟨y3, p1.Heat, 0, p1.Gas⟩ : GStream), (⟨0, 0, 0, 0⟩ : GStream), 0, p1.Silica⟩ : GParts)
        else
          k5 ()
      else
        k5 ()) fun k4 : Int → Option GParts =>
  bif (decide (x1 > 0)) then
    bif (decide (p1.Heat ≥ (w64 (p1.Mass * p0.Vapour)))) then
      k4 (p1.Mass)
    else
      chk ((w64 (p0.Vapour - p0.Liquid)) != 0) <|
      (some (w64 (x1.tdiv (w64 (p0.Vapour - p0.Liquid))))).bind fun x24 =>
      k4 (x24)
  else
    k4 (0)
set_option maxRecDepth 100000 in
set_option maxHeartbeats 4000000 in
theorem ref01_FlashX_ok (N : Nat) (p0 : GRow) (p1 : GStream) (r : GParts) (h : ref01_FlashX N p0 p1 = some r) : Spec Try.prog 52 [(.agg (c_GRow p0)), (.agg (c_GStream p1))] [] (.agg (c_GParts r)) [] := by
  refine spec_of_awp Try.func52 rfl 0 (Nat.le_of_ble_eq_true rfl) (fun X φ0 w0 hφ0 => ?_)
  unfold ref01_FlashX at h
  refine awp_reg [⟨[(.tmp 0, (.agg [I p0.T, I p0.P, I p0.Liquid, I p0.Vapour, I p0.Silica]))], [(0, .unused)], .ref 0 5 0 0, [(0, .own 5 [[I p0.T, I p0.P, I p0.Liquid, I p0.Vapour, I p0.Silica]])], false⟩,
    ⟨[(.tmp 1, (.agg [I p1.Mass, I p1.Heat, I p1.Silica, I p1.Gas]))], [(1, .unused)], .ref 1 4 0 0, [(1, .own 4 [[I p1.Mass, I p1.Heat, I p1.Silica, I p1.Gas]])], false⟩,
    ⟨[], [(2, .unused)], .ref 2 10 0 0, [(2, .own 10 [[I 0, I 0, I 0, I 0, I 0, I 0, I 0, I 0, I 0, I 0]])], false⟩] (by exact ⟨by kernel_rfl, by kernel_rfl⟩) ?_ ?_
  · exact ⟨fun _ => astep_box rfl (by rfl) rfl rfl,
    fun _ => astep_box rfl (by rfl) rfl rfl,
    fun _ => astep_alloc rfl tz104 rfl, trivial⟩
  obtain ⟨x1, hl2, h⟩ := bind_out h
  refine awp_reg [⟨[(.tmp 3, .ref 1 4 0 0)], [(1, .own 4 [[I p1.Mass, I p1.Heat, I p1.Silica, I p1.Gas]])], .ref 1 4 0 1, [], false⟩,
    ⟨[(.tmp 8, .ref 1 4 0 1)], [(1, .own 4 [[I p1.Mass, I p1.Heat, I p1.Silica, I p1.Gas]])], I p1.Heat, [], false⟩,
    ⟨[(.tmp 3, .ref 1 4 0 0)], [(1, .own 4 [[I p1.Mass, I p1.Heat, I p1.Silica, I p1.Gas]])], .ref 1 4 0 0, [], false⟩,
    ⟨[(.tmp 10, .ref 1 4 0 0)], [(1, .own 4 [[I p1.Mass, I p1.Heat, I p1.Silica, I p1.Gas]])], I p1.Mass, [], false⟩,
    ⟨[(.tmp 2, .ref 0 5 0 0)], [(0, .own 5 [[I p0.T, I p0.P, I p0.Liquid, I p0.Vapour, I p0.Silica]])], .ref 0 5 0 2, [], false⟩,
    ⟨[(.tmp 12, .ref 0 5 0 2)], [(0, .own 5 [[I p0.T, I p0.P, I p0.Liquid, I p0.Vapour, I p0.Silica]])], I p0.Liquid, [], false⟩,
    ⟨[(.tmp 11, I p1.Mass), (.tmp 13, I p0.Liquid)], [], (I (w64 (p1.Mass * p0.Liquid))), [], false⟩,
    ⟨[(.tmp 9, I p1.Heat), (.tmp 14, (I (w64 (p1.Mass * p0.Liquid))))], [], (I (w64 (p1.Heat - (w64 (p1.Mass * p0.Liquid))))), [], false⟩,
    ⟨[(.tmp 15, (I (w64 (p1.Heat - (w64 (p1.Mass * p0.Liquid))))))], [], I x1, [], false⟩] (by exact ⟨by kernel_rfl, by kernel_rfl⟩) ?_ ?_
  · exact ⟨fun _ => astep_faddr rfl Try.underlying39 rfl rfl ti3 (by decide) rfl,
    fun _ => astep_load rfl ti3 (by decide) rfl (Nat.le_of_ble_eq_true rfl) rfl,
    fun _ => astep_faddr rfl Try.underlying39 rfl rfl ti3 (by decide) rfl,
    fun _ => astep_load rfl ti3 (by decide) rfl (Nat.le_of_ble_eq_true rfl) rfl,
    fun _ => astep_faddr rfl Try.underlying49 rfl rfl ti3 (by decide) rfl,
    fun _ => astep_load rfl ti3 (by decide) rfl (Nat.le_of_ble_eq_true rfl) rfl,
    fun _ => astep_bin rfl rfl,
    fun _ => astep_bin rfl rfl,
    fun _ => astep_i hl2 (astep_assign rfl), trivial⟩
  refine awp_reg [⟨[(.const (.int .i64 0), I 0)], [], I 0, [], false⟩] (by exact ⟨by kernel_rfl, by kernel_rfl⟩) ?_ ?_
  · exact ⟨fun _ => astep_assign rfl, trivial⟩
  obtain ⟨k4, hk_k4, h⟩ := joinK_out h
  refine awp_join (τ := Int) (fun t => k4 t = some r) (fun y3 => ⟨mk 118 [(2, .ref 0 5 0 0), (3, .ref 1 4 0 0), (4, .ref 2 10 0 0), (5, I x1), (6, I y3)], [(.own 5 [[I p0.T, I p0.P, I p0.Liquid, I p0.Vapour, I p0.Silica]]), (.own 4 [[I p1.Mass, I p1.Heat, I p1.Silica, I p1.Gas]]), (.own 10 [[I 0, I 0, I 0, I 0, I 0, I 0, I 0, I 0, I 0, I 0]])]⟩) (fun y3 h => ?_) ?_
  · subst hk_k4
    refine awp_reg [⟨[], [(3, .unused)], .ref 3 10 0 0, [(3, .own 10 [[I 0, I 0, I 0, I 0, I 0, I 0, I 0, I 0, I 0, I 0]])], false⟩] (by exact ⟨by kernel_rfl, by kernel_rfl⟩) ?_ ?_
    · exact ⟨fun _ => astep_alloc rfl tz104 rfl, trivial⟩
    obtain ⟨k5, hk_k5, h⟩ := joinK_out h
    refine awp_join (τ := Unit) (fun t => k5 t = some r) (fun _ => ⟨mk 118 [(2, .ref 0 5 0 0), (3, .ref 1 4 0 0), (4, .ref 2 10 0 0), (5, I x1), (6, I y3), (7, .ref 3 10 0 0)], [(.own 5 [[I p0.T, I p0.P, I p0.Liquid, I p0.Vapour, I p0.Silica]]), (.own 4 [[I p1.Mass, I p1.Heat, I p1.Silica, I p1.Gas]]), (.own 10 [[I 0, I 0, I 0, I 0, I 0, I 0, I 0, I 0, I 0, I 0]]), (.own 10 [[I 0, I 0, I 0, I 0, I 0, I 0, I 0, I 0, I 0, I 0]])]⟩) (fun t h => ?_) ?_
    · subst hk_k5
      refine awp_reg [⟨[(.tmp 3, .ref 1 4 0 0)], [(1, .own 4 [[I p1.Mass, I p1.Heat, I p1.Silica, I p1.Gas]])], (.agg [I p1.Mass, I p1.Heat, I p1.Silica, I p1.Gas]), [], false⟩,
    ⟨[(.tmp 7, .ref 3 10 0 0)], [(3, .own 10 [[I 0, I 0, I 0, I 0, I 0, I 0, I 0, I 0, I 0, I 0]])], .ref 3 10 0 4, [], false⟩,
    ⟨[(.tmp 59, .ref 3 10 0 4), (.tmp 58, (.agg [I p1.Mass, I p1.Heat, I p1.Silica, I p1.Gas]))], [(3, .own 10 [[I 0, I 0, I 0, I 0, I 0, I 0, I 0, I 0, I 0, I 0]])], .any, [(3, .own 10 [[I 0, I 0, I 0, I 0, I p1.Mass, I p1.Heat, I p1.Silica, I p1.Gas, I 0, I 0]])], false⟩] (by exact ⟨by kernel_rfl, by kernel_rfl⟩) ?_ ?_
      · exact ⟨fun _ => astep_load rfl ti39 (by decide) rfl (Nat.le_of_ble_eq_true rfl) rfl,
    fun _ => astep_faddr rfl Try.underlying104 rfl rfl ti39 (by decide) rfl,
    fun _ => astep_store rfl ti39 (by rfl) rfl (Nat.le_of_ble_eq_true rfl) rfl, trivial⟩
      obtain ⟨k12, hk_k12, h⟩ := joinK_out h
      refine awp_join (τ := Int × Int × Int × Int × Int × Int) (fun t => k12 t = some r) (fun ⟨y6, y7, y8, y9, y10, y11⟩ => ⟨mk 118 [(2, .ref 0 5 0 0), (3, .ref 1 4 0 0), (4, .ref 2 10 0 0), (5, I x1), (7, .ref 3 10 0 0)], [(.own 5 [[I p0.T, I p0.P, I p0.Liquid, I p0.Vapour, I p0.Silica]]), (.own 4 [[I p1.Mass, I p1.Heat, I p1.Silica, I p1.Gas]]), (.own 10 [[I 0, I 0, I 0, I 0, I 0, I 0, I 0, I 0, I 0, I 0]]), (.own 10 [[I y6, I y7, I 0, I y8, I y9, I y10, I p1.Silica, I y11, I 0, I 0]])]⟩) (fun t h => ?_) ?_
      · subst hk_k12
        obtain ⟨y6, y7, y8, y9, y10, y11⟩ := t
        obtain ⟨k14, hk_k14, h⟩ := joinK_out h
        refine awp_join (τ := Int) (fun t => k14 t = some r) (fun y13 => ⟨mk 118 [(2, .ref 0 5 0 0), (3, .ref 1 4 0 0), (4, .ref 2 10 0 0), (7, .ref 3 10 0 0)], [(.own 5 [[I p0.T, I p0.P, I p0.Liquid, I p0.Vapour, I p0.Silica]]), (.own 4 [[I p1.Mass, I p1.Heat, I p1.Silica, I p1.Gas]]), (.own 10 [[I 0, I 0, I 0, I 0, I 0, I 0, I 0, I 0, I 0, I 0]]), (.own 10 [[I y6, I y7, I 0, I y8, I y9, I y10, I p1.Silica, I y11, I y13, I 0]])]⟩) (fun y13 h => ?_) ?_
        · subst hk_k14
          obtain ⟨x15, hl16, h⟩ := bind_out h
          refine awp_reg [⟨[(.tmp 3, .ref 1 4 0 0)], [(1, .own 4 [[I p1.Mass, I p1.Heat, I p1.Silica, I p1.Gas]])], .ref 1 4 0 2, [], false⟩,
    ⟨[(.tmp 99, .ref 1 4 0 2)], [(1, .own 4 [[I p1.Mass, I p1.Heat, I p1.Silica, I p1.Gas]])], I p1.Silica, [], false⟩,
    ⟨[(.tmp 7, .ref 3 10 0 0)], [(3, .own 10 [[I y6, I y7, I 0, I y8, I y9, I y10, I p1.Silica, I y11, I y13, I 0]])], .ref 3 10 0 4, [], false⟩,
    ⟨[(.tmp 101, .ref 3 10 0 4)], [(3, .own 10 [[I y6, I y7, I 0, I y8, I y9, I y10, I p1.Silica, I y11, I y13, I 0]])], .ref 3 10 0 4, [], false⟩,
    ⟨[(.tmp 102, .ref 3 10 0 4)], [(3, .own 10 [[I y6, I y7, I 0, I y8, I y9, I y10, I p1.Silica, I y11, I y13, I 0]])], I y9, [], false⟩,
    ⟨[(.tmp 2, .ref 0 5 0 0)], [(0, .own 5 [[I p0.T, I p0.P, I p0.Liquid, I p0.Vapour, I p0.Silica]])], .ref 0 5 0 4, [], false⟩,
    ⟨[(.tmp 104, .ref 0 5 0 4)], [(0, .own 5 [[I p0.T, I p0.P, I p0.Liquid, I p0.Vapour, I p0.Silica]])], I p0.Silica, [], false⟩,
    ⟨[(.tmp 103, I y9), (.tmp 105, I p0.Silica)], [], (I (w64 (y9 * p0.Silica))), [], false⟩,
    ⟨[(.tmp 100, I p1.Silica), (.tmp 106, (I (w64 (y9 * p0.Silica))))], [], (I (w64 (p1.Silica - (w64 (y9 * p0.Silica))))), [], false⟩,
    ⟨[(.const (.int .i64 0), I 0), (.tmp 107, (I (w64 (p1.Silica - (w64 (y9 * p0.Silica))))))], [], I x15, [], false⟩,
    ⟨[(.tmp 7, .ref 3 10 0 0)], [(3, .own 10 [[I y6, I y7, I 0, I y8, I y9, I y10, I p1.Silica, I y11, I y13, I 0]])], .ref 3 10 0 9, [], false⟩,
    ⟨[(.tmp 109, .ref 3 10 0 9), (.tmp 108, I x15)], [(3, .own 10 [[I y6, I y7, I 0, I y8, I y9, I y10, I p1.Silica, I y11, I y13, I 0]])], .any, [(3, .own 10 [[I y6, I y7, I 0, I y8, I y9, I y10, I p1.Silica, I y11, I y13, I x15]])], false⟩] (by exact ⟨by kernel_rfl, by kernel_rfl⟩) ?_ ?_
          · exact ⟨fun _ => astep_faddr rfl Try.underlying39 rfl rfl ti3 (by decide) rfl,
    fun _ => astep_load rfl ti3 (by decide) rfl (Nat.le_of_ble_eq_true rfl) rfl,
    fun _ => astep_faddr rfl Try.underlying104 rfl rfl ti39 (by decide) rfl,
    fun _ => astep_faddr rfl Try.underlying39 rfl rfl ti3 (by decide) rfl,
    fun _ => astep_load rfl ti3 (by decide) rfl (Nat.le_of_ble_eq_true rfl) rfl,
    fun _ => astep_faddr rfl Try.underlying49 rfl rfl ti3 (by decide) rfl,
    fun _ => astep_load rfl ti3 (by decide) rfl (Nat.le_of_ble_eq_true rfl) rfl,
    fun _ => astep_bin rfl rfl,
    fun _ => astep_bin rfl rfl,
    fun _ => astep_i hl16 (astep_max rfl),
    fun _ => astep_faddr rfl Try.underlying104 rfl rfl ti3 (by decide) rfl,
    fun _ => astep_store rfl ti3 (by rfl) rfl (Nat.le_of_ble_eq_true rfl) rfl, trivial⟩
          refine awp_reg [⟨[(.tmp 3, .ref 1 4 0 0)], [(1, .own 4 [[I p1.Mass, I p1.Heat, I p1.Silica, I p1.Gas]])], .ref 1 4 0 2, [], false⟩,
    ⟨[(.tmp 110, .ref 1 4 0 2)], [(1, .own 4 [[I p1.Mass, I p1.Heat, I p1.Silica, I p1.Gas]])], I p1.Silica, [], false⟩,
    ⟨[(.tmp 7, .ref 3 10 0 0)], [(3, .own 10 [[I y6, I y7, I 0, I y8, I y9, I y10, I p1.Silica, I y11, I y13, I x15]])], .ref 3 10 0 9, [], false⟩,
    ⟨[(.tmp 112, .ref 3 10 0 9)], [(3, .own 10 [[I y6, I y7, I 0, I y8, I y9, I y10, I p1.Silica, I y11, I y13, I x15]])], I x15, [], false⟩,
    ⟨[(.tmp 111, I p1.Silica), (.tmp 113, I x15)], [], (I (w64 (p1.Silica - x15))), [], false⟩,
    ⟨[(.tmp 7, .ref 3 10 0 0)], [(3, .own 10 [[I y6, I y7, I 0, I y8, I y9, I y10, I p1.Silica, I y11, I y13, I x15]])], .ref 3 10 0 4, [], false⟩,
    ⟨[(.tmp 115, .ref 3 10 0 4)], [(3, .own 10 [[I y6, I y7, I 0, I y8, I y9, I y10, I p1.Silica, I y11, I y13, I x15]])], .ref 3 10 0 6, [], false⟩,
    ⟨[(.tmp 116, .ref 3 10 0 6), (.tmp 114, (I (w64 (p1.Silica - x15))))], [(3, .own 10 [[I y6, I y7, I 0, I y8, I y9, I y10, I p1.Silica, I y11, I y13, I x15]])], .any, [(3, (.own 10 [[I y6, I y7, I 0, I y8, I y9, I y10, (I (w64 (p1.Silica - x15))), I y11, I y13, I x15]]))], false⟩] (by exact ⟨by kernel_rfl, by kernel_rfl⟩) ?_ ?_
          · exact ⟨fun _ => astep_faddr rfl Try.underlying39 rfl rfl ti3 (by decide) rfl,
    fun _ => astep_load rfl ti3 (by decide) rfl (Nat.le_of_ble_eq_true rfl) rfl,
    fun _ => astep_faddr rfl Try.underlying104 rfl rfl ti3 (by decide) rfl,
    fun _ => astep_load rfl ti3 (by decide) rfl (Nat.le_of_ble_eq_true rfl) rfl,
    fun _ => astep_bin rfl rfl,
    fun _ => astep_faddr rfl Try.underlying104 rfl rfl ti39 (by decide) rfl,
    fun _ => astep_faddr rfl Try.underlying39 rfl rfl ti3 (by decide) rfl,
    fun _ => astep_store rfl ti3 (by rfl) rfl (Nat.le_of_ble_eq_true rfl) rfl, trivial⟩
          refine awp_reg [⟨[(.tmp 7, .ref 3 10 0 0)], [(3, (.own 10 [[I y6, I y7, I 0, I y8, I y9, I y10, (I (w64 (p1.Silica - x15))), I y11, I y13, I x15]]))], (.agg [I y6, I y7, I 0, I y8, I y9, I y10, (I (w64 (p1.Silica - x15))), I y11, I y13, I x15]), [], false⟩,
    ⟨[(.tmp 4, .ref 2 10 0 0), (.tmp 117, (.agg [I y6, I y7, I 0, I y8, I y9, I y10, (I (w64 (p1.Silica - x15))), I y11, I y13, I x15]))], [(2, .own 10 [[I 0, I 0, I 0, I 0, I 0, I 0, I 0, I 0, I 0, I 0]])], .any, [(2, (.own 10 [[I y6, I y7, I 0, I y8, I y9, I y10, (I (w64 (p1.Silica - x15))), I y11, I y13, I x15]]))], false⟩] (by exact ⟨by kernel_rfl, by kernel_rfl⟩) ?_ ?_
          · exact ⟨fun _ => astep_load rfl ti104 (by decide) rfl (Nat.le_of_ble_eq_true rfl) rfl,
    fun _ => astep_store rfl ti104 (by rfl) rfl (Nat.le_of_ble_eq_true rfl) rfl, trivial⟩
          refine awp_ret ?_
          obtain rfl := Option.some.inj h
          exact ⟨⟨[(.agg [I y6, I y7, I 0, I y8, I y9, I y10, (I (w64 (p1.Silica - x15))), I y11, I y13, I x15])], ⟨resOK_cell (n := 2) (m := 10) (j := 0) (i := 0) (xs := [[I y6, I y7, I 0, I y8, I y9, I y10, (I (w64 (p1.Silica - x15))), I y11, I y13, I x15]]) (by kernel_rfl) (by kernel_rfl) ti104 (by decide) rfl (Nat.le_of_ble_eq_true rfl) rfl, trivial⟩, rfl⟩, (NLt.agg _ (nl_cons (NLt.lit _) (nl_cons (NLt.lit _) (nl_cons (NLt.lit _) (nl_cons (NLt.lit _) (nl_cons (NLt.lit _) (nl_cons (NLt.lit _) (nl_cons (NLt.lit _) (nl_cons (NLt.lit _) (nl_cons (NLt.lit _) (nl_cons (NLt.lit _) nl_nil))))))))))), Nat.le_refl _, fun n hn => absurd hn (Nat.not_lt_zero n)⟩
        · skip
          refine awp_reg [⟨[(.tmp 5, I x1)], [], I x1, [], false⟩,
    ⟨[(.tmp 86, I x1), (.const (.int .i64 0), I 0)], [], (B ((decide (x1 > 0)))), [], false⟩] (by exact ⟨by kernel_rfl, by kernel_rfl⟩) ?_ ?_
          · exact ⟨fun _ => astep_move rfl,
    fun _ => astep_bin rfl rfl, trivial⟩
          rcases Bool.eq_false_or_eq_true ((decide (x1 > 0))) with hc17 | hc17
          · replace h := bif_t hc17 h
            refine awp_ift hc17 (by kernel_rfl) ?_
            refine awp_reg1 [⟨[(.tmp 7, .ref 3 10 0 0)], [(3, .own 10 [[I y6, I y7, I 0, I y8, I y9, I y10, I p1.Silica, I y11, I 0, I 0]])], .ref 3 10 0 4, [], false⟩,
    ⟨[(.tmp 88, .ref 3 10 0 4)], [(3, .own 10 [[I y6, I y7, I 0, I y8, I y9, I y10, I p1.Silica, I y11, I 0, I 0]])], .ref 3 10 0 5, [], false⟩,
    ⟨[(.tmp 89, .ref 3 10 0 5)], [(3, .own 10 [[I y6, I y7, I 0, I y8, I y9, I y10, I p1.Silica, I y11, I 0, I 0]])], I y10, [], false⟩,
    ⟨[(.tmp 7, .ref 3 10 0 0)], [(3, .own 10 [[I y6, I y7, I 0, I y8, I y9, I y10, I p1.Silica, I y11, I 0, I 0]])], .ref 3 10 0 4, [], false⟩,
    ⟨[(.tmp 91, .ref 3 10 0 4)], [(3, .own 10 [[I y6, I y7, I 0, I y8, I y9, I y10, I p1.Silica, I y11, I 0, I 0]])], .ref 3 10 0 4, [], false⟩,
    ⟨[(.tmp 92, .ref 3 10 0 4)], [(3, .own 10 [[I y6, I y7, I 0, I y8, I y9, I y10, I p1.Silica, I y11, I 0, I 0]])], I y9, [], false⟩,
    ⟨[(.tmp 2, .ref 0 5 0 0)], [(0, .own 5 [[I p0.T, I p0.P, I p0.Liquid, I p0.Vapour, I p0.Silica]])], .ref 0 5 0 2, [], false⟩,
    ⟨[(.tmp 94, .ref 0 5 0 2)], [(0, .own 5 [[I p0.T, I p0.P, I p0.Liquid, I p0.Vapour, I p0.Silica]])], I p0.Liquid, [], false⟩,
    ⟨[(.tmp 93, I y9), (.tmp 95, I p0.Liquid)], [], (I (w64 (y9 * p0.Liquid))), [], false⟩,
    ⟨[(.tmp 90, I y10), (.tmp 96, (I (w64 (y9 * p0.Liquid))))], [], (I (w64 (y10 - (w64 (y9 * p0.Liquid))))), [], false⟩,
    ⟨[(.tmp 7, .ref 3 10 0 0)], [(3, .own 10 [[I y6, I y7, I 0, I y8, I y9, I y10, I p1.Silica, I y11, I 0, I 0]])], .ref 3 10 0 8, [], false⟩,
    ⟨[(.tmp 98, .ref 3 10 0 8), (.tmp 97, (I (w64 (y10 - (w64 (y9 * p0.Liquid))))))], [(3, .own 10 [[I y6, I y7, I 0, I y8, I y9, I y10, I p1.Silica, I y11, I 0, I 0]])], .any, [(3, (.own 10 [[I y6, I y7, I 0, I y8, I y9, I y10, I p1.Silica, I y11, (I (w64 (y10 - (w64 (y9 * p0.Liquid))))), I 0]]))], false⟩] (by exact ⟨by kernel_rfl, by kernel_rfl⟩) ?_ ?_
            · exact ⟨fun _ => astep_faddr rfl Try.underlying104 rfl rfl ti39 (by decide) rfl,
    fun _ => astep_faddr rfl Try.underlying39 rfl rfl ti3 (by decide) rfl,
    fun _ => astep_load rfl ti3 (by decide) rfl (Nat.le_of_ble_eq_true rfl) rfl,
    fun _ => astep_faddr rfl Try.underlying104 rfl rfl ti39 (by decide) rfl,
    fun _ => astep_faddr rfl Try.underlying39 rfl rfl ti3 (by decide) rfl,
    fun _ => astep_load rfl ti3 (by decide) rfl (Nat.le_of_ble_eq_true rfl) rfl,
    fun _ => astep_faddr rfl Try.underlying49 rfl rfl ti3 (by decide) rfl,
    fun _ => astep_load rfl ti3 (by decide) rfl (Nat.le_of_ble_eq_true rfl) rfl,
    fun _ => astep_bin rfl rfl,
    fun _ => astep_bin rfl rfl,
    fun _ => astep_faddr rfl Try.underlying104 rfl rfl ti3 (by decide) rfl,
    fun _ => astep_store rfl ti3 (by rfl) rfl (Nat.le_of_ble_eq_true rfl) rfl, trivial⟩
            refine thenA_n ?_
            exact ⟨(w64 (y10 - (w64 (y9 * p0.Liquid)))), h, (mor_to (n := 118) (l' := [(2, .ref 0 5 0 0), (3, .ref 1 4 0 0), (4, .ref 2 10 0 0), (7, .ref 3 10 0 0)]) (own' := [(.own 5 [[I p0.T, I p0.P, I p0.Liquid, I p0.Vapour, I p0.Silica]]), (.own 4 [[I p1.Mass, I p1.Heat, I p1.Silica, I p1.Gas]]), (.own 10 [[I 0, I 0, I 0, I 0, I 0, I 0, I 0, I 0, I 0, I 0]]), (.own 10 [[I y6, I y7, I 0, I y8, I y9, I y10, I p1.Silica, I y11, (I ((w64 (y10 - (w64 (y9 * p0.Liquid)))))), I 0]])]) [(2, .ref 0 5 0 0), (3, .ref 1 4 0 0), (4, .ref 2 10 0 0), (7, .ref 3 10 0 0)] [0, 1, 2, 3] [(.own 5 [[I p0.T, I p0.P, I p0.Liquid, I p0.Vapour, I p0.Silica]]), (.own 4 [[I p1.Mass, I p1.Heat, I p1.Silica, I p1.Gas]]), (.own 10 [[I 0, I 0, I 0, I 0, I 0, I 0, I 0, I 0, I 0, I 0]]), (.own 10 [[I y6, I y7, I 0, I y8, I y9, I y10, I p1.Silica, I y11, (I (w64 (y10 - (w64 (y9 * p0.Liquid))))), I 0]])] hφ0 (by kernel_rfl) (by kernel_rfl) (by kernel_rfl) ⟨rfl, .rn (rnq_ref rfl), rfl, .rn (rnq_ref rfl), rfl, .rn (rnq_ref rfl), rfl, .rn (rnq_ref rfl), trivial⟩ ⟨(spw_box ⟨(.rn (.plain _ (NLt.lit _))), (.rn (.plain _ (NLt.lit _))), (.rn (.plain _ (NLt.lit _))), (.rn (.plain _ (NLt.lit _))), (.rn (.plain _ (NLt.lit _))), trivial⟩), (spw_box ⟨(.rn (.plain _ (NLt.lit _))), (.rn (.plain _ (NLt.lit _))), (.rn (.plain _ (NLt.lit _))), (.rn (.plain _ (NLt.lit _))), trivial⟩), (spw_box ⟨(.rn (.plain _ (NLt.lit _))), (.rn (.plain _ (NLt.lit _))), (.rn (.plain _ (NLt.lit _))), (.rn (.plain _ (NLt.lit _))), (.rn (.plain _ (NLt.lit _))), (.rn (.plain _ (NLt.lit _))), (.rn (.plain _ (NLt.lit _))), (.rn (.plain _ (NLt.lit _))), (.rn (.plain _ (NLt.lit _))), (.rn (.plain _ (NLt.lit _))), trivial⟩), (spw_box ⟨(.rn (.plain _ (NLt.lit _))), (.rn (.plain _ (NLt.lit _))), (.rn (.plain _ (NLt.lit _))), (.rn (.plain _ (NLt.lit _))), (.rn (.plain _ (NLt.lit _))), (.rn (.plain _ (NLt.lit _))), (.rn (.plain _ (NLt.lit _))), (.rn (.plain _ (NLt.lit _))), (.rn (.plain _ (NLt.lit _))), (.rn (.plain _ (NLt.lit _))), trivial⟩), trivial⟩)⟩
          · replace h := bif_f hc17 h
            refine awp_ifn hc17 (by kernel_rfl) ?_
            refine awp_skip ?_
            refine thenA_n ?_
            exact ⟨(0), h, (mor_to (n := 118) (l' := [(2, .ref 0 5 0 0), (3, .ref 1 4 0 0), (4, .ref 2 10 0 0), (7, .ref 3 10 0 0)]) (own' := [(.own 5 [[I p0.T, I p0.P, I p0.Liquid, I p0.Vapour, I p0.Silica]]), (.own 4 [[I p1.Mass, I p1.Heat, I p1.Silica, I p1.Gas]]), (.own 10 [[I 0, I 0, I 0, I 0, I 0, I 0, I 0, I 0, I 0, I 0]]), (.own 10 [[I y6, I y7, I 0, I y8, I y9, I y10, I p1.Silica, I y11, I 0, I 0]])]) [(2, .ref 0 5 0 0), (3, .ref 1 4 0 0), (4, .ref 2 10 0 0), (7, .ref 3 10 0 0)] [0, 1, 2, 3] [(.own 5 [[I p0.T, I p0.P, I p0.Liquid, I p0.Vapour, I p0.Silica]]), (.own 4 [[I p1.Mass, I p1.Heat, I p1.Silica, I p1.Gas]]), (.own 10 [[I 0, I 0, I 0, I 0, I 0, I 0, I 0, I 0, I 0, I 0]]), (.own 10 [[I y6, I y7, I 0, I y8, I y9, I y10, I p1.Silica, I y11, I 0, I 0]])] hφ0 (by kernel_rfl) (by kernel_rfl) (by kernel_rfl) ⟨rfl, .rn (rnq_ref rfl), rfl, .rn (rnq_ref rfl), rfl, .rn (rnq_ref rfl), rfl, .rn (rnq_ref rfl), trivial⟩ ⟨(spw_box ⟨(.rn (.plain _ (NLt.lit _))), (.rn (.plain _ (NLt.lit _))), (.rn (.plain _ (NLt.lit _))), (.rn (.plain _ (NLt.lit _))), (.rn (.plain _ (NLt.lit _))), trivial⟩), (spw_box ⟨(.rn (.plain _ (NLt.lit _))), (.rn (.plain _ (NLt.lit _))), (.rn (.plain _ (NLt.lit _))), (.rn (.plain _ (NLt.lit _))), trivial⟩), (spw_box ⟨(.rn (.plain _ (NLt.lit _))), (.rn (.plain _ (NLt.lit _))), (.rn (.plain _ (NLt.lit _))), (.rn (.plain _ (NLt.lit _))), (.rn (.plain _ (NLt.lit _))), (.rn (.plain _ (NLt.lit _))), (.rn (.plain _ (NLt.lit _))), (.rn (.plain _ (NLt.lit _))), (.rn (.plain _ (NLt.lit _))), (.rn (.plain _ (NLt.lit _))), trivial⟩), (spw_box ⟨(.rn (.plain _ (NLt.lit _))), (.rn (.plain _ (NLt.lit _))), (.rn (.plain _ (NLt.lit _))), (.rn (.plain _ (NLt.lit _))), (.rn (.plain _ (NLt.lit _))), (.rn (.plain _ (NLt.lit _))), (.rn (.plain _ (NLt.lit _))), (.rn (.plain _ (NLt.lit _))), (.rn (.plain _ (NLt.lit _))), (.rn (.plain _ (NLt.lit _))), trivial⟩), trivial⟩)⟩
      · skip
        refine awp_reg [⟨[(.tmp 6, I y3)], [], I y3, [], false⟩,
    ⟨[(.tmp 60, I y3), (.const (.int .i64 0), I 0)], [], (B ((decide (y3 > 0)))), [], false⟩] (by exact ⟨by kernel_rfl, by kernel_rfl⟩) ?_ ?_
        · exact ⟨fun _ => astep_move rfl,
    fun _ => astep_bin rfl rfl, trivial⟩
        rcases Bool.eq_false_or_eq_true ((decide (y3 > 0))) with hc18 | hc18
        · replace h := bif_t hc18 h
          refine awp_ift hc18 (by kernel_rfl) ?_
          refine awp_reg [⟨[(.tmp 6, I y3)], [], I y3, [], false⟩,
    ⟨[(.tmp 6, I y3)], [], I y3, [], false⟩,
    ⟨[(.tmp 2, .ref 0 5 0 0)], [(0, .own 5 [[I p0.T, I p0.P, I p0.Liquid, I p0.Vapour, I p0.Silica]])], .ref 0 5 0 3, [], false⟩,
    ⟨[(.tmp 64, .ref 0 5 0 3)], [(0, .own 5 [[I p0.T, I p0.P, I p0.Liquid, I p0.Vapour, I p0.Silica]])], I p0.Vapour, [], false⟩,
    ⟨[(.tmp 63, I y3), (.tmp 65, I p0.Vapour)], [], (I (w64 (y3 * p0.Vapour))), [], false⟩,
    ⟨[(.tmp 3, .ref 1 4 0 0)], [(1, .own 4 [[I p1.Mass, I p1.Heat, I p1.Silica, I p1.Gas]])], .ref 1 4 0 3, [], false⟩,
    ⟨[(.tmp 67, .ref 1 4 0 3)], [(1, .own 4 [[I p1.Mass, I p1.Heat, I p1.Silica, I p1.Gas]])], I p1.Gas, [], false⟩,
    ⟨[(.tmp 62, I y3), (.tmp 66, (I (w64 (y3 * p0.Vapour)))), (.tmp 68, I p1.Gas)], [], (.agg [I y3, (I (w64 (y3 * p0.Vapour))), I 0, I p1.Gas]), [], false⟩,
    ⟨[(.tmp 7, .ref 3 10 0 0)], [(3, .own 10 [[I 0, I 0, I 0, I 0, I p1.Mass, I p1.Heat, I p1.Silica, I p1.Gas, I 0, I 0]])], .ref 3 10 0 0, [], false⟩,
    ⟨[(.tmp 70, .ref 3 10 0 0), (.tmp 69, (.agg [I y3, (I (w64 (y3 * p0.Vapour))), I 0, I p1.Gas]))], [(3, .own 10 [[I 0, I 0, I 0, I 0, I p1.Mass, I p1.Heat, I p1.Silica, I p1.Gas, I 0, I 0]])], .any, [(3, (.own 10 [[I y3, (I (w64 (y3 * p0.Vapour))), I 0, I p1.Gas, I p1.Mass, I p1.Heat, I p1.Silica, I p1.Gas, I 0, I 0]]))], false⟩] (by exact ⟨by kernel_rfl, by kernel_rfl⟩) ?_ ?_
          · exact ⟨fun _ => astep_move rfl,
    fun _ => astep_move rfl,
    fun _ => astep_faddr rfl Try.underlying49 rfl rfl ti3 (by decide) rfl,
    fun _ => astep_load rfl ti3 (by decide) rfl (Nat.le_of_ble_eq_true rfl) rfl,
    fun _ => astep_bin rfl rfl,
    fun _ => astep_faddr rfl Try.underlying39 rfl rfl ti3 (by decide) rfl,
    fun _ => astep_load rfl ti3 (by decide) rfl (Nat.le_of_ble_eq_true rfl) rfl,
    fun _ => astep_build (vs := [I y3, (I (w64 (y3 * p0.Vapour))), I p1.Gas]) rfl ts39 tz39 rfl (by rfl) rfl,
    fun _ => astep_faddr rfl Try.underlying104 rfl rfl ti39 (by decide) rfl,
    fun _ => astep_store rfl ti39 (by rfl) rfl (Nat.le_of_ble_eq_true rfl) rfl, trivial⟩
          refine awp_reg1 [⟨[(.tmp 3, .ref 1 4 0 0)], [(1, .own 4 [[I p1.Mass, I p1.Heat, I p1.Silica, I p1.Gas]])], .ref 1 4 0 0, [], false⟩,
    ⟨[(.tmp 71, .ref 1 4 0 0)], [(1, .own 4 [[I p1.Mass, I p1.Heat, I p1.Silica, I p1.Gas]])], I p1.Mass, [], false⟩,
    ⟨[(.tmp 6, I y3)], [], I y3, [], false⟩,
    ⟨[(.tmp 72, I p1.Mass), (.tmp 73, I y3)], [], (I (w64 (p1.Mass - y3))), [], false⟩,
    ⟨[(.tmp 3, .ref 1 4 0 0)], [(1, .own 4 [[I p1.Mass, I p1.Heat, I p1.Silica, I p1.Gas]])], .ref 1 4 0 1, [], false⟩,
    ⟨[(.tmp 75, .ref 1 4 0 1)], [(1, .own 4 [[I p1.Mass, I p1.Heat, I p1.Silica, I p1.Gas]])], I p1.Heat, [], false⟩,
    ⟨[(.tmp 6, I y3)], [], I y3, [], false⟩,
    ⟨[(.tmp 2, .ref 0 5 0 0)], [(0, .own 5 [[I p0.T, I p0.P, I p0.Liquid, I p0.Vapour, I p0.Silica]])], .ref 0 5 0 3, [], false⟩,
    ⟨[(.tmp 78, .ref 0 5 0 3)], [(0, .own 5 [[I p0.T, I p0.P, I p0.Liquid, I p0.Vapour, I p0.Silica]])], I p0.Vapour, [], false⟩,
    ⟨[(.tmp 77, I y3), (.tmp 79, I p0.Vapour)], [], (I (w64 (y3 * p0.Vapour))), [], false⟩,
    ⟨[(.tmp 76, I p1.Heat), (.tmp 80, (I (w64 (y3 * p0.Vapour))))], [], (I (w64 (p1.Heat - (w64 (y3 * p0.Vapour))))), [], false⟩,
    ⟨[(.tmp 3, .ref 1 4 0 0)], [(1, .own 4 [[I p1.Mass, I p1.Heat, I p1.Silica, I p1.Gas]])], .ref 1 4 0 2, [], false⟩,
    ⟨[(.tmp 82, .ref 1 4 0 2)], [(1, .own 4 [[I p1.Mass, I p1.Heat, I p1.Silica, I p1.Gas]])], I p1.Silica, [], false⟩,
    ⟨[(.tmp 74, (I (w64 (p1.Mass - y3)))), (.tmp 81, (I (w64 (p1.Heat - (w64 (y3 * p0.Vapour)))))), (.tmp 83, I p1.Silica)], [], (.agg [(I (w64 (p1.Mass - y3))), (I (w64 (p1.Heat - (w64 (y3 * p0.Vapour))))), I p1.Silica, I 0]), [], false⟩,
    ⟨[(.tmp 7, .ref 3 10 0 0)], [(3, (.own 10 [[I y3, (I (w64 (y3 * p0.Vapour))), I 0, I p1.Gas, I p1.Mass, I p1.Heat, I p1.Silica, I p1.Gas, I 0, I 0]]))], .ref 3 10 0 4, [], false⟩,
    ⟨[(.tmp 85, .ref 3 10 0 4), (.tmp 84, (.agg [(I (w64 (p1.Mass - y3))), (I (w64 (p1.Heat - (w64 (y3 * p0.Vapour))))), I p1.Silica, I 0]))], [(3, (.own 10 [[I y3, (I (w64 (y3 * p0.Vapour))), I 0, I p1.Gas, I p1.Mass, I p1.Heat, I p1.Silica, I p1.Gas, I 0, I 0]]))], .any, [(3, (.own 10 [[I y3, (I (w64 (y3 * p0.Vapour))), I 0, I p1.Gas, (I (w64 (p1.Mass - y3))), (I (w64 (p1.Heat - (w64 (y3 * p0.Vapour))))), I p1.Silica, I 0, I 0, I 0]]))], false⟩] (by exact ⟨by kernel_rfl, by kernel_rfl⟩) ?_ ?_
          · exact ⟨fun _ => astep_faddr rfl Try.underlying39 rfl rfl ti3 (by decide) rfl,
    fun _ => astep_load rfl ti3 (by decide) rfl (Nat.le_of_ble_eq_true rfl) rfl,
    fun _ => astep_move rfl,
    fun _ => astep_bin rfl rfl,
    fun _ => astep_faddr rfl Try.underlying39 rfl rfl ti3 (by decide) rfl,
    fun _ => astep_load rfl ti3 (by decide) rfl (Nat.le_of_ble_eq_true rfl) rfl,
    fun _ => astep_move rfl,
    fun _ => astep_faddr rfl Try.underlying49 rfl rfl ti3 (by decide) rfl,
    fun _ => astep_load rfl ti3 (by decide) rfl (Nat.le_of_ble_eq_true rfl) rfl,
    fun _ => astep_bin rfl rfl,
    fun _ => astep_bin rfl rfl,
    fun _ => astep_faddr rfl Try.underlying39 rfl rfl ti3 (by decide) rfl,
    fun _ => astep_load rfl ti3 (by decide) rfl (Nat.le_of_ble_eq_true rfl) rfl,
    fun _ => astep_build (vs := [(I (w64 (p1.Mass - y3))), (I (w64 (p1.Heat - (w64 (y3 * p0.Vapour))))), I p1.Silica]) rfl ts39 tz39 rfl (by rfl) rfl,
    fun _ => astep_faddr rfl Try.underlying104 rfl rfl ti39 (by decide) rfl,
    fun _ => astep_store rfl ti39 (by rfl) rfl (Nat.le_of_ble_eq_true rfl) rfl, trivial⟩
          refine thenA_n ?_
          exact ⟨(y3, w64 (y3 * p0.Vapour), p1.Gas, w64 (p1.Mass - y3), w64 (p1.Heat - (w64 (y3 * p0.Vapour))), 0), h, (mor_to (n := 118) (l' := [(2, .ref 0 5 0 0), (3, .ref 1 4 0 0), (4, .ref 2 10 0 0), (5, I x1), (7, .ref 3 10 0 0)]) (own' := [(.own 5 [[I p0.T, I p0.P, I p0.Liquid, I p0.Vapour, I p0.Silica]]), (.own 4 [[I p1.Mass, I p1.Heat, I p1.Silica, I p1.Gas]]), (.own 10 [[I 0, I 0, I 0, I 0, I 0, I 0, I 0, I 0, I 0, I 0]]), (.own 10 [[I y3, (I ((w64 (y3 * p0.Vapour)))), I 0, I p1.Gas, (I ((w64 (p1.Mass - y3)))), (I ((w64 (p1.Heat - (w64 (y3 * p0.Vapour)))))), I p1.Silica, I 0, I 0, I 0]])]) [(2, .ref 0 5 0 0), (3, .ref 1 4 0 0), (4, .ref 2 10 0 0), (5, I x1), (7, .ref 3 10 0 0)] [0, 1, 2, 3] [(.own 5 [[I p0.T, I p0.P, I p0.Liquid, I p0.Vapour, I p0.Silica]]), (.own 4 [[I p1.Mass, I p1.Heat, I p1.Silica, I p1.Gas]]), (.own 10 [[I 0, I 0, I 0, I 0, I 0, I 0, I 0, I 0, I 0, I 0]]), (.own 10 [[I y3, (I (w64 (y3 * p0.Vapour))), I 0, I p1.Gas, (I (w64 (p1.Mass - y3))), (I (w64 (p1.Heat - (w64 (y3 * p0.Vapour))))), I p1.Silica, I 0, I 0, I 0]])] hφ0 (by kernel_rfl) (by kernel_rfl) (by kernel_rfl) ⟨rfl, .rn (rnq_ref rfl), rfl, .rn (rnq_ref rfl), rfl, .rn (rnq_ref rfl), rfl, .rn (.plain _ (NLt.lit _)), rfl, .rn (rnq_ref rfl), trivial⟩ ⟨(spw_box ⟨(.rn (.plain _ (NLt.lit _))), (.rn (.plain _ (NLt.lit _))), (.rn (.plain _ (NLt.lit _))), (.rn (.plain _ (NLt.lit _))), (.rn (.plain _ (NLt.lit _))), trivial⟩), (spw_box ⟨(.rn (.plain _ (NLt.lit _))), (.rn (.plain _ (NLt.lit _))), (.rn (.plain _ (NLt.lit _))), (.rn (.plain _ (NLt.lit _))), trivial⟩), (spw_box ⟨(.rn (.plain _ (NLt.lit _))), (.rn (.plain _ (NLt.lit _))), (.rn (.plain _ (NLt.lit _))), (.rn (.plain _ (NLt.lit _))), (.rn (.plain _ (NLt.lit _))), (.rn (.plain _ (NLt.lit _))), (.rn (.plain _ (NLt.lit _))), (.rn (.plain _ (NLt.lit _))), (.rn (.plain _ (NLt.lit _))), (.rn (.plain _ (NLt.lit _))), trivial⟩), (spw_box ⟨(.rn (.plain _ (NLt.lit _))), (.rn (.plain _ (NLt.lit _))), (.rn (.plain _ (NLt.lit _))), (.rn (.plain _ (NLt.lit _))), (.rn (.plain _ (NLt.lit _))), (.rn (.plain _ (NLt.lit _))), (.rn (.plain _ (NLt.lit _))), (.rn (.plain _ (NLt.lit _))), (.rn (.plain _ (NLt.lit _))), (.rn (.plain _ (NLt.lit _))), trivial⟩), trivial⟩)⟩
        · replace h := bif_f hc18 h
          refine awp_ifn hc18 (by kernel_rfl) ?_
          refine awp_skip ?_
          refine thenA_n ?_
          exact ⟨(0, 0, 0, p1.Mass, p1.Heat, p1.Gas), h, (mor_to (n := 118) (l' := [(2, .ref 0 5 0 0), (3, .ref 1 4 0 0), (4, .ref 2 10 0 0), (5, I x1), (7, .ref 3 10 0 0)]) (own' := [(.own 5 [[I p0.T, I p0.P, I p0.Liquid, I p0.Vapour, I p0.Silica]]), (.own 4 [[I p1.Mass, I p1.Heat, I p1.Silica, I p1.Gas]]), (.own 10 [[I 0, I 0, I 0, I 0, I 0, I 0, I 0, I 0, I 0, I 0]]), (.own 10 [[I 0, I 0, I 0, I 0, I p1.Mass, I p1.Heat, I p1.Silica, I p1.Gas, I 0, I 0]])]) [(2, .ref 0 5 0 0), (3, .ref 1 4 0 0), (4, .ref 2 10 0 0), (5, I x1), (7, .ref 3 10 0 0)] [0, 1, 2, 3] [(.own 5 [[I p0.T, I p0.P, I p0.Liquid, I p0.Vapour, I p0.Silica]]), (.own 4 [[I p1.Mass, I p1.Heat, I p1.Silica, I p1.Gas]]), (.own 10 [[I 0, I 0, I 0, I 0, I 0, I 0, I 0, I 0, I 0, I 0]]), (.own 10 [[I 0, I 0, I 0, I 0, I p1.Mass, I p1.Heat, I p1.Silica, I p1.Gas, I 0, I 0]])] hφ0 (by kernel_rfl) (by kernel_rfl) (by kernel_rfl) ⟨rfl, .rn (rnq_ref rfl), rfl, .rn (rnq_ref rfl), rfl, .rn (rnq_ref rfl), rfl, .rn (.plain _ (NLt.lit _)), rfl, .rn (rnq_ref rfl), trivial⟩ ⟨(spw_box ⟨(.rn (.plain _ (NLt.lit _))), (.rn (.plain _ (NLt.lit _))), (.rn (.plain _ (NLt.lit _))), (.rn (.plain _ (NLt.lit _))), (.rn (.plain _ (NLt.lit _))), trivial⟩), (spw_box ⟨(.rn (.plain _ (NLt.lit _))), (.rn (.plain _ (NLt.lit _))), (.rn (.plain _ (NLt.lit _))), (.rn (.plain _ (NLt.lit _))), trivial⟩), (spw_box ⟨(.rn (.plain _ (NLt.lit _))), (.rn (.plain _ (NLt.lit _))), (.rn (.plain _ (NLt.lit _))), (.rn (.plain _ (NLt.lit _))), (.rn (.plain _ (NLt.lit _))), (.rn (.plain _ (NLt.lit _))), (.rn (.plain _ (NLt.lit _))), (.rn (.plain _ (NLt.lit _))), (.rn (.plain _ (NLt.lit _))), (.rn (.plain _ (NLt.lit _))), trivial⟩), (spw_box ⟨(.rn (.plain _ (NLt.lit _))), (.rn (.plain _ (NLt.lit _))), (.rn (.plain _ (NLt.lit _))), (.rn (.plain _ (NLt.lit _))), (.rn (.plain _ (NLt.lit _))), (.rn (.plain _ (NLt.lit _))), (.rn (.plain _ (NLt.lit _))), (.rn (.plain _ (NLt.lit _))), (.rn (.plain _ (NLt.lit _))), (.rn (.plain _ (NLt.lit _))), trivial⟩), trivial⟩)⟩
    · skip
      rcases Bool.eq_false_or_eq_true ((y3 == p1.Mass)) with hb19 | hb19
      · replace h := bif_t hb19 h
        refine awp_reg [⟨[(.tmp 6, I y3)], [], I y3, [], false⟩,
    ⟨[(.tmp 3, .ref 1 4 0 0)], [(1, .own 4 [[I p1.Mass, I p1.Heat, I p1.Silica, I p1.Gas]])], .ref 1 4 0 0, [], false⟩,
    ⟨[(.tmp 40, .ref 1 4 0 0)], [(1, .own 4 [[I p1.Mass, I p1.Heat, I p1.Silica, I p1.Gas]])], I p1.Mass, [], false⟩,
    ⟨[(.tmp 39, I y3), (.tmp 41, I p1.Mass)], [], (B ((y3 == p1.Mass))), [], false⟩,
    ⟨[(.tmp 42, (B ((y3 == p1.Mass))))], [], B true, [], false⟩,
    ⟨[(.tmp 43, B true), (.tmp 6, I y3)], [], I y3, [], false⟩,
    ⟨[(.tmp 43, B true), (.tmp 44, I y3), (.const (.int .i64 0), I 0)], [], (B ((decide (y3 > 0)))), [], false⟩,
    ⟨[(.tmp 43, B true), (.tmp 45, (B ((decide (y3 > 0))))), (.const (.bool false), B false)], [], (B ((decide (y3 > 0)))), [], false⟩] (by exact ⟨by kernel_rfl, by kernel_rfl⟩) ?_ ?_
        · exact ⟨fun _ => astep_move rfl,
    fun _ => astep_faddr rfl Try.underlying39 rfl rfl ti3 (by decide) rfl,
    fun _ => astep_load rfl ti3 (by decide) rfl (Nat.le_of_ble_eq_true rfl) rfl,
    fun _ => astep_bin rfl rfl,
    fun _ => astep_b hb19 (astep_move rfl),
    fun _ => astep_guard (astep_move rfl),
    fun _ => astep_guard (astep_bin rfl rfl),
    fun _ => astep_pick rfl rfl, trivial⟩
        rcases Bool.eq_false_or_eq_true ((decide (y3 > 0))) with hc20 | hc20
        · replace h := bif_t hc20 h
          refine awp_ift hc20 (by kernel_rfl) ?_
          refine awp_reg [⟨[(.tmp 6, I y3)], [], I y3, [], false⟩,
    ⟨[(.tmp 3, .ref 1 4 0 0)], [(1, .own 4 [[I p1.Mass, I p1.Heat, I p1.Silica, I p1.Gas]])], .ref 1 4 0 1, [], false⟩,
    ⟨[(.tmp 48, .ref 1 4 0 1)], [(1, .own 4 [[I p1.Mass, I p1.Heat, I p1.Silica, I p1.Gas]])], I p1.Heat, [], false⟩,
    ⟨[(.tmp 3, .ref 1 4 0 0)], [(1, .own 4 [[I p1.Mass, I p1.Heat, I p1.Silica, I p1.Gas]])], .ref 1 4 0 3, [], false⟩,
    ⟨[(.tmp 50, .ref 1 4 0 3)], [(1, .own 4 [[I p1.Mass, I p1.Heat, I p1.Silica, I p1.Gas]])], I p1.Gas, [], false⟩,
    ⟨[(.tmp 47, I y3), (.tmp 49, I p1.Heat), (.tmp 51, I p1.Gas)], [], (.agg [I y3, I p1.Heat, I 0, I p1.Gas]), [], false⟩,
    ⟨[(.tmp 7, .ref 3 10 0 0)], [(3, .own 10 [[I 0, I 0, I 0, I 0, I 0, I 0, I 0, I 0, I 0, I 0]])], .ref 3 10 0 0, [], false⟩,
    ⟨[(.tmp 53, .ref 3 10 0 0), (.tmp 52, (.agg [I y3, I p1.Heat, I 0, I p1.Gas]))], [(3, .own 10 [[I 0, I 0, I 0, I 0, I 0, I 0, I 0, I 0, I 0, I 0]])], .any, [(3, .own 10 [[I y3, I p1.Heat, I 0, I p1.Gas, I 0, I 0, I 0, I 0, I 0, I 0]])], false⟩] (by exact ⟨by kernel_rfl, by kernel_rfl⟩) ?_ ?_
          · exact ⟨fun _ => astep_move rfl,
    fun _ => astep_faddr rfl Try.underlying39 rfl rfl ti3 (by decide) rfl,
    fun _ => astep_load rfl ti3 (by decide) rfl (Nat.le_of_ble_eq_true rfl) rfl,
    fun _ => astep_faddr rfl Try.underlying39 rfl rfl ti3 (by decide) rfl,
    fun _ => astep_load rfl ti3 (by decide) rfl (Nat.le_of_ble_eq_true rfl) rfl,
    fun _ => astep_build (vs := [I y3, I p1.Heat, I p1.Gas]) rfl ts39 tz39 rfl (by rfl) rfl,
    fun _ => astep_faddr rfl Try.underlying104 rfl rfl ti39 (by decide) rfl,
    fun _ => astep_store rfl ti39 (by rfl) rfl (Nat.le_of_ble_eq_true rfl) rfl, trivial⟩
          refine awp_reg [⟨[(.tmp 3, .ref 1 4 0 0)], [(1, .own 4 [[I p1.Mass, I p1.Heat, I p1.Silica, I p1.Gas]])], .ref 1 4 0 2, [], false⟩,
    ⟨[(.tmp 54, .ref 1 4 0 2)], [(1, .own 4 [[I p1.Mass, I p1.Heat, I p1.Silica, I p1.Gas]])], I p1.Silica, [], false⟩,
    ⟨[(.tmp 7, .ref 3 10 0 0)], [(3, .own 10 [[I y3, I p1.Heat, I 0, I p1.Gas, I 0, I 0, I 0, I 0, I 0, I 0]])], .ref 3 10 0 9, [], false⟩,
    ⟨[(.tmp 56, .ref 3 10 0 9), (.tmp 55, I p1.Silica)], [(3, .own 10 [[I y3, I p1.Heat, I 0, I p1.Gas, I 0, I 0, I 0, I 0, I 0, I 0]])], .any, [(3, .own 10 [[I y3, I p1.Heat, I 0, I p1.Gas, I 0, I 0, I 0, I 0, I 0, I p1.Silica]])], false⟩] (by exact ⟨by kernel_rfl, by kernel_rfl⟩) ?_ ?_
          · exact ⟨fun _ => astep_faddr rfl Try.underlying39 rfl rfl ti3 (by decide) rfl,
    fun _ => astep_load rfl ti3 (by decide) rfl (Nat.le_of_ble_eq_true rfl) rfl,
    fun _ => astep_faddr rfl Try.underlying104 rfl rfl ti3 (by decide) rfl,
    fun _ => astep_store rfl ti3 (by rfl) rfl (Nat.le_of_ble_eq_true rfl) rfl, trivial⟩
          refine awp_reg [⟨[(.tmp 7, .ref 3 10 0 0)], [(3, .own 10 [[I y3, I p1.Heat, I 0, I p1.Gas, I 0, I 0, I 0, I 0, I 0, I p1.Silica]])], (.agg [I y3, I p1.Heat, I 0, I p1.Gas, I 0, I 0, I 0, I 0, I 0, I p1.Silica]), [], false⟩,
    ⟨[(.tmp 4, .ref 2 10 0 0), (.tmp 57, (.agg [I y3, I p1.Heat, I 0, I p1.Gas, I 0, I 0, I 0, I 0, I 0, I p1.Silica]))], [(2, .own 10 [[I 0, I 0, I 0, I 0, I 0, I 0, I 0, I 0, I 0, I 0]])], .any, [(2, .own 10 [[I y3, I p1.Heat, I 0, I p1.Gas, I 0, I 0, I 0, I 0, I 0, I p1.Silica]])], false⟩] (by exact ⟨by kernel_rfl, by kernel_rfl⟩) ?_ ?_
          · exact ⟨fun _ => astep_load rfl ti104 (by decide) rfl (Nat.le_of_ble_eq_true rfl) rfl,
    fun _ => astep_store rfl ti104 (by rfl) rfl (Nat.le_of_ble_eq_true rfl) rfl, trivial⟩
          refine awp_ret ?_
          refine thenA_r ?_
          obtain rfl := Option.some.inj h
          exact ⟨⟨[(.agg [I y3, I p1.Heat, I 0, I p1.Gas, I 0, I 0, I 0, I 0, I 0, I p1.Silica])], ⟨resOK_cell (n := 2) (m := 10) (j := 0) (i := 0) (xs := [[I y3, I p1.Heat, I 0, I p1.Gas, I 0, I 0, I 0, I 0, I 0, I p1.Silica]]) (by kernel_rfl) (by kernel_rfl) ti104 (by decide) rfl (Nat.le_of_ble_eq_true rfl) rfl, trivial⟩, rfl⟩, (NLt.agg _ (nl_cons (NLt.lit _) (nl_cons (NLt.lit _) (nl_cons (NLt.lit _) (nl_cons (NLt.lit _) (nl_cons (NLt.lit _) (nl_cons (NLt.lit _) (nl_cons (NLt.lit _) (nl_cons (NLt.lit _) (nl_cons (NLt.lit _) (nl_cons (NLt.lit _) nl_nil))))))))))), Nat.le_refl _, fun n hn => absurd hn (Nat.not_lt_zero n)⟩
        · replace h := bif_f hc20 h
          refine awp_ifn hc20 (by kernel_rfl) ?_
          refine awp_skip ?_
          refine thenA_n ?_
          exact ⟨(), h, (mor_to (n := 118) (l' := [(2, .ref 0 5 0 0), (3, .ref 1 4 0 0), (4, .ref 2 10 0 0), (5, I x1), (6, I y3), (7, .ref 3 10 0 0)]) (own' := [(.own 5 [[I p0.T, I p0.P, I p0.Liquid, I p0.Vapour, I p0.Silica]]), (.own 4 [[I p1.Mass, I p1.Heat, I p1.Silica, I p1.Gas]]), (.own 10 [[I 0, I 0, I 0, I 0, I 0, I 0, I 0, I 0, I 0, I 0]]), (.own 10 [[I 0, I 0, I 0, I 0, I 0, I 0, I 0, I 0, I 0, I 0]])]) [(2, .ref 0 5 0 0), (3, .ref 1 4 0 0), (4, .ref 2 10 0 0), (5, I x1), (6, I y3), (7, .ref 3 10 0 0)] [0, 1, 2, 3] [(.own 5 [[I p0.T, I p0.P, I p0.Liquid, I p0.Vapour, I p0.Silica]]), (.own 4 [[I p1.Mass, I p1.Heat, I p1.Silica, I p1.Gas]]), (.own 10 [[I 0, I 0, I 0, I 0, I 0, I 0, I 0, I 0, I 0, I 0]]), (.own 10 [[I 0, I 0, I 0, I 0, I 0, I 0, I 0, I 0, I 0, I 0]])] hφ0 (by kernel_rfl) (by kernel_rfl) (by kernel_rfl) ⟨rfl, .rn (rnq_ref rfl), rfl, .rn (rnq_ref rfl), rfl, .rn (rnq_ref rfl), rfl, .rn (.plain _ (NLt.lit _)), rfl, .rn (.plain _ (NLt.lit _)), rfl, .rn (rnq_ref rfl), trivial⟩ ⟨(spw_box ⟨(.rn (.plain _ (NLt.lit _))), (.rn (.plain _ (NLt.lit _))), (.rn (.plain _ (NLt.lit _))), (.rn (.plain _ (NLt.lit _))), (.rn (.plain _ (NLt.lit _))), trivial⟩), (spw_box ⟨(.rn (.plain _ (NLt.lit _))), (.rn (.plain _ (NLt.lit _))), (.rn (.plain _ (NLt.lit _))), (.rn (.plain _ (NLt.lit _))), trivial⟩), (spw_box ⟨(.rn (.plain _ (NLt.lit _))), (.rn (.plain _ (NLt.lit _))), (.rn (.plain _ (NLt.lit _))), (.rn (.plain _ (NLt.lit _))), (.rn (.plain _ (NLt.lit _))), (.rn (.plain _ (NLt.lit _))), (.rn (.plain _ (NLt.lit _))), (.rn (.plain _ (NLt.lit _))), (.rn (.plain _ (NLt.lit _))), (.rn (.plain _ (NLt.lit _))), trivial⟩), (spw_box ⟨(.rn (.plain _ (NLt.lit _))), (.rn (.plain _ (NLt.lit _))), (.rn (.plain _ (NLt.lit _))), (.rn (.plain _ (NLt.lit _))), (.rn (.plain _ (NLt.lit _))), (.rn (.plain _ (NLt.lit _))), (.rn (.plain _ (NLt.lit _))), (.rn (.plain _ (NLt.lit _))), (.rn (.plain _ (NLt.lit _))), (.rn (.plain _ (NLt.lit _))), trivial⟩), trivial⟩)⟩
      · replace h := bif_f hb19 h
        refine awp_reg [⟨[(.tmp 6, I y3)], [], I y3, [], false⟩,
    ⟨[(.tmp 3, .ref 1 4 0 0)], [(1, .own 4 [[I p1.Mass, I p1.Heat, I p1.Silica, I p1.Gas]])], .ref 1 4 0 0, [], false⟩,
    ⟨[(.tmp 40, .ref 1 4 0 0)], [(1, .own 4 [[I p1.Mass, I p1.Heat, I p1.Silica, I p1.Gas]])], I p1.Mass, [], false⟩,
    ⟨[(.tmp 39, I y3), (.tmp 41, I p1.Mass)], [], (B ((y3 == p1.Mass))), [], false⟩,
    ⟨[(.tmp 42, (B ((y3 == p1.Mass))))], [], B false, [], false⟩,
    ⟨[(.tmp 43, B false)], [], (.lit undef), [], true⟩,
    ⟨[(.tmp 43, B false)], [], (.lit undef), [], true⟩,
    ⟨[(.tmp 43, B false), (.tmp 45, (.lit undef)), (.const (.bool false), B false)], [], B false, [], false⟩] (by exact ⟨by kernel_rfl, by kernel_rfl⟩) ?_ ?_
        · exact ⟨fun _ => astep_move rfl,
    fun _ => astep_faddr rfl Try.underlying39 rfl rfl ti3 (by decide) rfl,
    fun _ => astep_load rfl ti3 (by decide) rfl (Nat.le_of_ble_eq_true rfl) rfl,
    fun _ => astep_bin rfl rfl,
    fun _ => astep_b hb19 (astep_move rfl),
    fun hs => (Bool.noConfusion hs),
    fun hs => (Bool.noConfusion hs),
    fun _ => astep_pick rfl rfl, trivial⟩
        refine awp_false (by kernel_rfl) ?_
        refine awp_skip ?_
        refine thenA_n ?_
        exact ⟨(), h, (mor_to (n := 118) (l' := [(2, .ref 0 5 0 0), (3, .ref 1 4 0 0), (4, .ref 2 10 0 0), (5, I x1), (6, I y3), (7, .ref 3 10 0 0)]) (own' := [(.own 5 [[I p0.T, I p0.P, I p0.Liquid, I p0.Vapour, I p0.Silica]]), (.own 4 [[I p1.Mass, I p1.Heat, I p1.Silica, I p1.Gas]]), (.own 10 [[I 0, I 0, I 0, I 0, I 0, I 0, I 0, I 0, I 0, I 0]]), (.own 10 [[I 0, I 0, I 0, I 0, I 0, I 0, I 0, I 0, I 0, I 0]])]) [(2, .ref 0 5 0 0), (3, .ref 1 4 0 0), (4, .ref 2 10 0 0), (5, I x1), (6, I y3), (7, .ref 3 10 0 0)] [0, 1, 2, 3] [(.own 5 [[I p0.T, I p0.P, I p0.Liquid, I p0.Vapour, I p0.Silica]]), (.own 4 [[I p1.Mass, I p1.Heat, I p1.Silica, I p1.Gas]]), (.own 10 [[I 0, I 0, I 0, I 0, I 0, I 0, I 0, I 0, I 0, I 0]]), (.own 10 [[I 0, I 0, I 0, I 0, I 0, I 0, I 0, I 0, I 0, I 0]])] hφ0 (by kernel_rfl) (by kernel_rfl) (by kernel_rfl) ⟨rfl, .rn (rnq_ref rfl), rfl, .rn (rnq_ref rfl), rfl, .rn (rnq_ref rfl), rfl, .rn (.plain _ (NLt.lit _)), rfl, .rn (.plain _ (NLt.lit _)), rfl, .rn (rnq_ref rfl), trivial⟩ ⟨(spw_box ⟨(.rn (.plain _ (NLt.lit _))), (.rn (.plain _ (NLt.lit _))), (.rn (.plain _ (NLt.lit _))), (.rn (.plain _ (NLt.lit _))), (.rn (.plain _ (NLt.lit _))), trivial⟩), (spw_box ⟨(.rn (.plain _ (NLt.lit _))), (.rn (.plain _ (NLt.lit _))), (.rn (.plain _ (NLt.lit _))), (.rn (.plain _ (NLt.lit _))), trivial⟩), (spw_box ⟨(.rn (.plain _ (NLt.lit _))), (.rn (.plain _ (NLt.lit _))), (.rn (.plain _ (NLt.lit _))), (.rn (.plain _ (NLt.lit _))), (.rn (.plain _ (NLt.lit _))), (.rn (.plain _ (NLt.lit _))), (.rn (.plain _ (NLt.lit _))), (.rn (.plain _ (NLt.lit _))), (.rn (.plain _ (NLt.lit _))), (.rn (.plain _ (NLt.lit _))), trivial⟩), (spw_box ⟨(.rn (.plain _ (NLt.lit _))), (.rn (.plain _ (NLt.lit _))), (.rn (.plain _ (NLt.lit _))), (.rn (.plain _ (NLt.lit _))), (.rn (.plain _ (NLt.lit _))), (.rn (.plain _ (NLt.lit _))), (.rn (.plain _ (NLt.lit _))), (.rn (.plain _ (NLt.lit _))), (.rn (.plain _ (NLt.lit _))), (.rn (.plain _ (NLt.lit _))), trivial⟩), trivial⟩)⟩
  · skip
    rcases Bool.eq_false_or_eq_true ((decide (x1 > 0))) with hb21 | hb21
    · replace h := bif_t hb21 h
      refine awp_reg [⟨[(.tmp 5, I x1)], [], I x1, [], false⟩,
    ⟨[(.tmp 16, I x1), (.const (.int .i64 0), I 0)], [], (B ((decide (x1 > 0)))), [], false⟩,
    ⟨[(.tmp 17, (B ((decide (x1 > 0)))))], [], B true, [], false⟩,
    ⟨[(.tmp 18, B true), (.tmp 3, .ref 1 4 0 0)], [(1, .own 4 [[I p1.Mass, I p1.Heat, I p1.Silica, I p1.Gas]])], .ref 1 4 0 1, [], false⟩,
    ⟨[(.tmp 18, B true), (.tmp 19, .ref 1 4 0 1)], [(1, .own 4 [[I p1.Mass, I p1.Heat, I p1.Silica, I p1.Gas]])], I p1.Heat, [], false⟩,
    ⟨[(.tmp 18, B true), (.tmp 3, .ref 1 4 0 0)], [(1, .own 4 [[I p1.Mass, I p1.Heat, I p1.Silica, I p1.Gas]])], .ref 1 4 0 0, [], false⟩,
    ⟨[(.tmp 18, B true), (.tmp 21, .ref 1 4 0 0)], [(1, .own 4 [[I p1.Mass, I p1.Heat, I p1.Silica, I p1.Gas]])], I p1.Mass, [], false⟩,
    ⟨[(.tmp 18, B true), (.tmp 2, .ref 0 5 0 0)], [(0, .own 5 [[I p0.T, I p0.P, I p0.Liquid, I p0.Vapour, I p0.Silica]])], .ref 0 5 0 3, [], false⟩,
    ⟨[(.tmp 18, B true), (.tmp 23, .ref 0 5 0 3)], [(0, .own 5 [[I p0.T, I p0.P, I p0.Liquid, I p0.Vapour, I p0.Silica]])], I p0.Vapour, [], false⟩,
    ⟨[(.tmp 18, B true), (.tmp 22, I p1.Mass), (.tmp 24, I p0.Vapour)], [], (I (w64 (p1.Mass * p0.Vapour))), [], false⟩,
    ⟨[(.tmp 18, B true), (.tmp 20, I p1.Heat), (.tmp 25, (I (w64 (p1.Mass * p0.Vapour))))], [], (B ((decide (p1.Heat ≥ (w64 (p1.Mass * p0.Vapour)))))), [], false⟩,
    ⟨[(.tmp 18, B true), (.tmp 26, (B ((decide (p1.Heat ≥ (w64 (p1.Mass * p0.Vapour))))))), (.const (.bool false), B false)], [], (B ((decide (p1.Heat ≥ (w64 (p1.Mass * p0.Vapour)))))), [], false⟩] (by exact ⟨by kernel_rfl, by kernel_rfl⟩) ?_ ?_
      · exact ⟨fun _ => astep_move rfl,
    fun _ => astep_bin rfl rfl,
    fun _ => astep_b hb21 (astep_move rfl),
    fun _ => astep_guard (astep_faddr rfl Try.underlying39 rfl rfl ti3 (by decide) rfl),
    fun _ => astep_guard (astep_load rfl ti3 (by decide) rfl (Nat.le_of_ble_eq_true rfl) rfl),
    fun _ => astep_guard (astep_faddr rfl Try.underlying39 rfl rfl ti3 (by decide) rfl),
    fun _ => astep_guard (astep_load rfl ti3 (by decide) rfl (Nat.le_of_ble_eq_true rfl) rfl),
    fun _ => astep_guard (astep_faddr rfl Try.underlying49 rfl rfl ti3 (by decide) rfl),
    fun _ => astep_guard (astep_load rfl ti3 (by decide) rfl (Nat.le_of_ble_eq_true rfl) rfl),
    fun _ => astep_guard (astep_bin rfl rfl),
    fun _ => astep_guard (astep_bin rfl rfl),
    fun _ => astep_pick rfl rfl, trivial⟩
      rcases Bool.eq_false_or_eq_true ((decide (p1.Heat ≥ (w64 (p1.Mass * p0.Vapour))))) with hc22 | hc22
      · replace h := bif_t hc22 h
        refine awp_ift hc22 (by kernel_rfl) ?_
        refine awp_reg1 [⟨[(.tmp 3, .ref 1 4 0 0)], [(1, .own 4 [[I p1.Mass, I p1.Heat, I p1.Silica, I p1.Gas]])], .ref 1 4 0 0, [], false⟩,
    ⟨[(.tmp 28, .ref 1 4 0 0)], [(1, .own 4 [[I p1.Mass, I p1.Heat, I p1.Silica, I p1.Gas]])], I p1.Mass, [], false⟩,
    ⟨[(.tmp 29, I p1.Mass)], [], I p1.Mass, [], false⟩] (by exact ⟨by kernel_rfl, by kernel_rfl⟩) ?_ ?_
        · exact ⟨fun _ => astep_faddr rfl Try.underlying39 rfl rfl ti3 (by decide) rfl,
    fun _ => astep_load rfl ti3 (by decide) rfl (Nat.le_of_ble_eq_true rfl) rfl,
    fun _ => astep_assign rfl, trivial⟩
        refine thenA_n ?_
        exact ⟨(p1.Mass), h, (mor_to (n := 118) (l' := [(2, .ref 0 5 0 0), (3, .ref 1 4 0 0), (4, .ref 2 10 0 0), (5, I x1), (6, I p1.Mass)]) (own' := [(.own 5 [[I p0.T, I p0.P, I p0.Liquid, I p0.Vapour, I p0.Silica]]), (.own 4 [[I p1.Mass, I p1.Heat, I p1.Silica, I p1.Gas]]), (.own 10 [[I 0, I 0, I 0, I 0, I 0, I 0, I 0, I 0, I 0, I 0]])]) [(2, .ref 0 5 0 0), (3, .ref 1 4 0 0), (4, .ref 2 10 0 0), (5, I x1), (6, I p1.Mass)] [0, 1, 2] [(.own 5 [[I p0.T, I p0.P, I p0.Liquid, I p0.Vapour, I p0.Silica]]), (.own 4 [[I p1.Mass, I p1.Heat, I p1.Silica, I p1.Gas]]), (.own 10 [[I 0, I 0, I 0, I 0, I 0, I 0, I 0, I 0, I 0, I 0]])] hφ0 (by kernel_rfl) (by kernel_rfl) (by kernel_rfl) ⟨rfl, .rn (rnq_ref rfl), rfl, .rn (rnq_ref rfl), rfl, .rn (rnq_ref rfl), rfl, .rn (.plain _ (NLt.lit _)), rfl, .rn (.plain _ (NLt.lit _)), trivial⟩ ⟨(spw_box ⟨(.rn (.plain _ (NLt.lit _))), (.rn (.plain _ (NLt.lit _))), (.rn (.plain _ (NLt.lit _))), (.rn (.plain _ (NLt.lit _))), (.rn (.plain _ (NLt.lit _))), trivial⟩), (spw_box ⟨(.rn (.plain _ (NLt.lit _))), (.rn (.plain _ (NLt.lit _))), (.rn (.plain _ (NLt.lit _))), (.rn (.plain _ (NLt.lit _))), trivial⟩), (spw_box ⟨(.rn (.plain _ (NLt.lit _))), (.rn (.plain _ (NLt.lit _))), (.rn (.plain _ (NLt.lit _))), (.rn (.plain _ (NLt.lit _))), (.rn (.plain _ (NLt.lit _))), (.rn (.plain _ (NLt.lit _))), (.rn (.plain _ (NLt.lit _))), (.rn (.plain _ (NLt.lit _))), (.rn (.plain _ (NLt.lit _))), (.rn (.plain _ (NLt.lit _))), trivial⟩), trivial⟩)⟩
      · replace h := bif_f hc22 h
        refine awp_ifn hc22 (by kernel_rfl) ?_
        refine awp_reg [⟨[(.tmp 5, I x1)], [], I x1, [], false⟩,
    ⟨[(.tmp 30, I x1), (.const (.int .i64 0), I 0)], [], (B ((decide (x1 > 0)))), [], false⟩] (by exact ⟨by kernel_rfl, by kernel_rfl⟩) ?_ ?_
        · exact ⟨fun _ => astep_move rfl,
    fun _ => astep_bin rfl rfl, trivial⟩
        refine awp_ift hb21 (by kernel_rfl) ?_
        obtain ⟨hz23, h⟩ := chk_out h
        obtain ⟨x24, hl25, h⟩ := bind_out h
        refine awp_reg1 [⟨[(.tmp 5, I x1)], [], I x1, [], false⟩,
    ⟨[(.tmp 2, .ref 0 5 0 0)], [(0, .own 5 [[I p0.T, I p0.P, I p0.Liquid, I p0.Vapour, I p0.Silica]])], .ref 0 5 0 3, [], false⟩,
    ⟨[(.tmp 33, .ref 0 5 0 3)], [(0, .own 5 [[I p0.T, I p0.P, I p0.Liquid, I p0.Vapour, I p0.Silica]])], I p0.Vapour, [], false⟩,
    ⟨[(.tmp 2, .ref 0 5 0 0)], [(0, .own 5 [[I p0.T, I p0.P, I p0.Liquid, I p0.Vapour, I p0.Silica]])], .ref 0 5 0 2, [], false⟩,
    ⟨[(.tmp 35, .ref 0 5 0 2)], [(0, .own 5 [[I p0.T, I p0.P, I p0.Liquid, I p0.Vapour, I p0.Silica]])], I p0.Liquid, [], false⟩,
    ⟨[(.tmp 34, I p0.Vapour), (.tmp 36, I p0.Liquid)], [], (I (w64 (p0.Vapour - p0.Liquid))), [], false⟩,
    ⟨[(.tmp 32, I x1), (.tmp 37, (I (w64 (p0.Vapour - p0.Liquid))))], [], (I (w64 (x1.tdiv (w64 (p0.Vapour - p0.Liquid))))), [], false⟩,
    ⟨[(.tmp 38, (I (w64 (x1.tdiv (w64 (p0.Vapour - p0.Liquid))))))], [], I x24, [], false⟩] (by exact ⟨by kernel_rfl, by kernel_rfl⟩) ?_ ?_
        · exact ⟨fun _ => astep_move rfl,
    fun _ => astep_faddr rfl Try.underlying49 rfl rfl ti3 (by decide) rfl,
    fun _ => astep_load rfl ti3 (by decide) rfl (Nat.le_of_ble_eq_true rfl) rfl,
    fun _ => astep_faddr rfl Try.underlying49 rfl rfl ti3 (by decide) rfl,
    fun _ => astep_load rfl ti3 (by decide) rfl (Nat.le_of_ble_eq_true rfl) rfl,
    fun _ => astep_bin rfl rfl,
    fun _ => astep_quo rfl (bne_out hz23),
    fun _ => astep_i hl25 (astep_assign rfl), trivial⟩
        refine thenA_n ?_
        exact ⟨(x24), h, (mor_to (n := 118) (l' := [(2, .ref 0 5 0 0), (3, .ref 1 4 0 0), (4, .ref 2 10 0 0), (5, I x1), (6, I x24)]) (own' := [(.own 5 [[I p0.T, I p0.P, I p0.Liquid, I p0.Vapour, I p0.Silica]]), (.own 4 [[I p1.Mass, I p1.Heat, I p1.Silica, I p1.Gas]]), (.own 10 [[I 0, I 0, I 0, I 0, I 0, I 0, I 0, I 0, I 0, I 0]])]) [(2, .ref 0 5 0 0), (3, .ref 1 4 0 0), (4, .ref 2 10 0 0), (5, I x1), (6, I x24)] [0, 1, 2] [(.own 5 [[I p0.T, I p0.P, I p0.Liquid, I p0.Vapour, I p0.Silica]]), (.own 4 [[I p1.Mass, I p1.Heat, I p1.Silica, I p1.Gas]]), (.own 10 [[I 0, I 0, I 0, I 0, I 0, I 0, I 0, I 0, I 0, I 0]])] hφ0 (by kernel_rfl) (by kernel_rfl) (by kernel_rfl) ⟨rfl, .rn (rnq_ref rfl), rfl, .rn (rnq_ref rfl), rfl, .rn (rnq_ref rfl), rfl, .rn (.plain _ (NLt.lit _)), rfl, .rn (.plain _ (NLt.lit _)), trivial⟩ ⟨(spw_box ⟨(.rn (.plain _ (NLt.lit _))), (.rn (.plain _ (NLt.lit _))), (.rn (.plain _ (NLt.lit _))), (.rn (.plain _ (NLt.lit _))), (.rn (.plain _ (NLt.lit _))), trivial⟩), (spw_box ⟨(.rn (.plain _ (NLt.lit _))), (.rn (.plain _ (NLt.lit _))), (.rn (.plain _ (NLt.lit _))), (.rn (.plain _ (NLt.lit _))), trivial⟩), (spw_box ⟨(.rn (.plain _ (NLt.lit _))), (.rn (.plain _ (NLt.lit _))), (.rn (.plain _ (NLt.lit _))), (.rn (.plain _ (NLt.lit _))), (.rn (.plain _ (NLt.lit _))), (.rn (.plain _ (NLt.lit _))), (.rn (.plain _ (NLt.lit _))), (.rn (.plain _ (NLt.lit _))), (.rn (.plain _ (NLt.lit _))), (.rn (.plain _ (NLt.lit _))), trivial⟩), trivial⟩)⟩
    · replace h := bif_f hb21 h
      refine awp_reg [⟨[(.tmp 5, I x1)], [], I x1, [], false⟩,
    ⟨[(.tmp 16, I x1), (.const (.int .i64 0), I 0)], [], (B ((decide (x1 > 0)))), [], false⟩,
    ⟨[(.tmp 17, (B ((decide (x1 > 0)))))], [], B false, [], false⟩,
    ⟨[(.tmp 18, B false)], [], (.lit undef), [], true⟩,
    ⟨[(.tmp 18, B false)], [], (.lit undef), [], true⟩,
    ⟨[(.tmp 18, B false)], [], (.lit undef), [], true⟩,
    ⟨[(.tmp 18, B false)], [], (.lit undef), [], true⟩,
    ⟨[(.tmp 18, B false)], [], (.lit undef), [], true⟩,
    ⟨[(.tmp 18, B false)], [], (.lit undef), [], true⟩,
    ⟨[(.tmp 18, B false)], [], (.lit undef), [], true⟩,
    ⟨[(.tmp 18, B false)], [], (.lit undef), [], true⟩,
    ⟨[(.tmp 18, B false), (.tmp 26, (.lit undef)), (.const (.bool false), B false)], [], B false, [], false⟩] (by exact ⟨by kernel_rfl, by kernel_rfl⟩) ?_ ?_
      · exact ⟨fun _ => astep_move rfl,
    fun _ => astep_bin rfl rfl,
    fun _ => astep_b hb21 (astep_move rfl),
    fun hs => (Bool.noConfusion hs),
    fun hs => (Bool.noConfusion hs),
    fun hs => (Bool.noConfusion hs),
    fun hs => (Bool.noConfusion hs),
    fun hs => (Bool.noConfusion hs),
    fun hs => (Bool.noConfusion hs),
    fun hs => (Bool.noConfusion hs),
    fun hs => (Bool.noConfusion hs),
    fun _ => astep_pick rfl rfl, trivial⟩
      refine awp_false (by kernel_rfl) ?_
      refine awp_reg [⟨[(.tmp 5, I x1)], [], I x1, [], false⟩,
    ⟨[(.tmp 30, I x1), (.const (.int .i64 0), I 0)], [], (B ((decide (x1 > 0)))), [], false⟩] (by exact ⟨by kernel_rfl, by kernel_rfl⟩) ?_ ?_
      · exact ⟨fun _ => astep_move rfl,
    fun _ => astep_bin rfl rfl, trivial⟩
      refine awp_ifn hb21 (by kernel_rfl) ?_
      refine awp_skip ?_
      refine thenA_n ?_
      exact ⟨(0), h, (mor_to (n := 118) (l' := [(2, .ref 0 5 0 0), (3, .ref 1 4 0 0), (4, .ref 2 10 0 0), (5, I x1), (6, I 0)]) (own' := [(.own 5 [[I p0.T, I p0.P, I p0.Liquid, I p0.Vapour, I p0.Silica]]), (.own 4 [[I p1.Mass, I p1.Heat, I p1.Silica, I p1.Gas]]), (.own 10 [[I 0, I 0, I 0, I 0, I 0, I 0, I 0, I 0, I 0, I 0]])]) [(2, .ref 0 5 0 0), (3, .ref 1 4 0 0), (4, .ref 2 10 0 0), (5, I x1), (6, I 0)] [0, 1, 2] [(.own 5 [[I p0.T, I p0.P, I p0.Liquid, I p0.Vapour, I p0.Silica]]), (.own 4 [[I p1.Mass, I p1.Heat, I p1.Silica, I p1.Gas]]), (.own 10 [[I 0, I 0, I 0, I 0, I 0, I 0, I 0, I 0, I 0, I 0]])] hφ0 (by kernel_rfl) (by kernel_rfl) (by kernel_rfl) ⟨rfl, .rn (rnq_ref rfl), rfl, .rn (rnq_ref rfl), rfl, .rn (rnq_ref rfl), rfl, .rn (.plain _ (NLt.lit _)), rfl, .rn (.plain _ (NLt.lit _)), trivial⟩ ⟨(spw_box ⟨(.rn (.plain _ (NLt.lit _))), (.rn (.plain _ (NLt.lit _))), (.rn (.plain _ (NLt.lit _))), (.rn (.plain _ (NLt.lit _))), (.rn (.plain _ (NLt.lit _))), trivial⟩), (spw_box ⟨(.rn (.plain _ (NLt.lit _))), (.rn (.plain _ (NLt.lit _))), (.rn (.plain _ (NLt.lit _))), (.rn (.plain _ (NLt.lit _))), trivial⟩), (spw_box ⟨(.rn (.plain _ (NLt.lit _))), (.rn (.plain _ (NLt.lit _))), (.rn (.plain _ (NLt.lit _))), (.rn (.plain _ (NLt.lit _))), (.rn (.plain _ (NLt.lit _))), (.rn (.plain _ (NLt.lit _))), (.rn (.plain _ (NLt.lit _))), (.rn (.plain _ (NLt.lit _))), (.rn (.plain _ (NLt.lit _))), (.rn (.plain _ (NLt.lit _))), trivial⟩), trivial⟩)⟩

def ref01_TrainX_loop1 (N : Nat) (p0 : (List GRow)) (p1 : (List Int)) (k2 : (List GParts) → Option (List GParts)) : Nat → (List GParts) → Int → Int → Int → Int → Int → Option (List GParts)
  | 0, _, _, _, _, _, _ => none
  | n15 + 1, y3, y4, y5, y6, y7, y8 =>
    bif (decide (y4 < (p1.length : Int))) then
      (getI p1 y4).bind fun x17 =>
      (getI p0 x17).bind fun x21 =>
      (ref01_FlashX N x21 (⟨y5, y6, y7, y8⟩ : GStream)).bind fun x26 =>
      chk (decide ((y3.length + ([(⟨(⟨x26.Steam.Mass, x26.Steam.Heat, x26.Steam.Silica, x26.Steam.Gas⟩ : GStream), (⟨x26.Water.Mass, x26.Water.Heat, x26.Water.Silica, x26.Water.Gas⟩ : GStream), x26.Rest, x26.Scale⟩ : GParts)]).length) * 80 ≤ 140737488355328)) <|
      ref01_TrainX_loop1 N p0 p1 k2 n15 (y3 ++ ([(⟨(⟨x26.Steam.Mass, x26.Steam.Heat, x26.Steam.Silica, x26.Steam.Gas⟩ : GStream), (⟨x26.Water.Mass, x26.Water.Heat, x26.Water.Silica, x26.Water.Gas⟩ : GStream), x26.Rest, x26.Scale⟩ : GParts)])) (w64 (y4 + 1)) x26.Water.Mass x26.Water.Heat x26.Water.Silica x26.Water.Gas
    else
      k2 (y3)
def ref01_TrainX (N : Nat) (p0 : (List GRow)) (p1 : (List Int)) (p2 : GStream) : Option (List GParts) :=
  joinK (fun y1 =>
      some y1) fun k2 : (List GParts) → Option (List GParts) =>
  ref01_TrainX_loop1 N p0 p1 k2 N ([]) 0 p2.Mass p2.Heat p2.Silica p2.Gas
set_option maxRecDepth 100000 in
set_option maxHeartbeats 4000000 in
theorem ref01_TrainX_ok (N : Nat) (p0 : (List GRow)) (p1 : (List Int)) (p2 : GStream) (r : (List GParts)) (h : ref01_TrainX N p0 p1 p2 = some r) : Spec Try.prog 53 [(.dat 5 (p0.map c_GRow)), (.dat 1 (p1.map c_i64)), (.agg (c_GStream p2))] [] (.dat 10 (r.map c_GParts)) [] := by
  refine spec_of_awp Try.func53 rfl 0 (Nat.le_of_ble_eq_true rfl) (fun X φ0 w0 hφ0 => ?_)
  unfold ref01_TrainX at h
  refine awp_reg [⟨[(.tmp 2, (.agg [I p2.Mass, I p2.Heat, I p2.Silica, I p2.Gas]))], [(0, .unused)], .ref 0 4 0 0, [(0, .own 4 [[I p2.Mass, I p2.Heat, I p2.Silica, I p2.Gas]])], false⟩,
    ⟨[((.const (.slice none 0 0)), nilS)], [], nilS, [], false⟩] (by exact ⟨by kernel_rfl, by kernel_rfl⟩) ?_ ?_
  · exact ⟨fun _ => astep_box rfl (by rfl) rfl rfl,
    fun _ => astep_assign rfl, trivial⟩
  refine awp_reg [⟨[((.const (.slice none 0 0)), nilS)], [], nilS, [], false⟩] (by exact ⟨by kernel_rfl, by kernel_rfl⟩) ?_ ?_
  · exact ⟨fun _ => astep_assign rfl, trivial⟩
  obtain ⟨k2, hk_k2, h⟩ := joinK_out h
  refine awp_join (τ := (List GParts)) (fun t => k2 t = some r) (fun y1 => ⟨mk 32 [(7, (.acc 0 104 10 ((y1 : List GParts).map c_GParts)))], [.tok]⟩) (fun y1 h => ?_) ?_
  · subst hk_k2
    refine awp_reg [⟨[(.tmp 7, (.acc 0 104 10 ((y1 : List GParts).map c_GParts)))], [], (.acc 0 104 10 ((y1 : List GParts).map c_GParts)), [], false⟩,
    ⟨[(.tmp 31, (.acc 0 104 10 ((y1 : List GParts).map c_GParts)))], [], (.acc 0 104 10 ((y1 : List GParts).map c_GParts)), [], false⟩] (by exact ⟨by kernel_rfl, by kernel_rfl⟩) ?_ ?_
    · exact ⟨fun _ => astep_move rfl,
    fun _ => astep_assign rfl, trivial⟩
    refine awp_ret ?_
    obtain rfl := Option.some.inj h
    exact ⟨⟨[(.dat 10 ((y1 : List GParts).map c_GParts))], ⟨resOK_less (v := (.acc 0 104 10 ((y1 : List GParts).map c_GParts))) (resOK_tmp (by kernel_rfl)) Less.acc, trivial⟩, rfl⟩, (nl_dat nl_GParts _), Nat.le_refl _, fun n hn => absurd hn (Nat.not_lt_zero n)⟩
  · skip
    refine awp_reg [⟨[(.const (.int .i64 0), I 0)], [], I 0, [], false⟩] (by exact ⟨by kernel_rfl, by kernel_rfl⟩) ?_ ?_
    · exact ⟨fun _ => astep_assign rfl, trivial⟩
    refine awp_block ?_
    refine awp_mor (Mor.trans (mor_nil 1 104 10 7 (by kernel_rfl) (by kernel_rfl)) (mor_to (n := 32) (l' := [(0, (.dat 5 ((p0 : List GRow).map c_GRow))), (1, (.dat 1 ((p1 : List Int).map c_i64))), (5, .ref 0 4 0 0), (7, (.acc 1 104 10 ((([]) : List GParts).map c_GParts))), (8, I 0)]) (own' := [(.own 4 [[I p2.Mass, I p2.Heat, I p2.Silica, I p2.Gas]]), .tok]) [(0, (.dat 5 ((p0 : List GRow).map c_GRow))), (1, (.dat 1 ((p1 : List Int).map c_i64))), (5, .ref 0 4 0 0), (7, (.acc 1 104 10 (([] : List GParts).map c_GParts))), (8, I 0)] [0, 1] [(.own 4 [[I p2.Mass, I p2.Heat, I p2.Silica, I p2.Gas]]), .tok] hφ0 (by kernel_rfl) (by kernel_rfl) (by kernel_rfl) ⟨rfl, .rn (.plain _ (nl_dat nl_GRow _)), rfl, .rn (.plain _ (nl_dat nl_i64 _)), rfl, .rn (rnq_ref rfl), rfl, .rn (rnq_acc rfl (nl_rows nl_GParts _)), rfl, .rn (.plain _ (NLt.lit _)), trivial⟩ ⟨(spw_box ⟨(.rn (.plain _ (NLt.lit _))), (.rn (.plain _ (NLt.lit _))), (.rn (.plain _ (NLt.lit _))), (.rn (.plain _ (NLt.lit _))), trivial⟩), .tok, trivial⟩)) ?_
    refine awp_ind (τ := (List GParts) × Int × Int × Int × Int × Int) (fun n t => ref01_TrainX_loop1 N p0 p1 k2 n t.1 t.2.1 t.2.2.1 t.2.2.2.1 t.2.2.2.2.1 t.2.2.2.2.2 = some r) (fun ⟨y3, y4, y5, y6, y7, y8⟩ => ⟨mk 32 [(0, (.dat 5 ((p0 : List GRow).map c_GRow))), (1, (.dat 1 ((p1 : List Int).map c_i64))), (5, .ref 0 4 0 0), (7, (.acc 1 104 10 ((y3 : List GParts).map c_GParts))), (8, I y4)], [(.own 4 [[I y5, I y6, I y7, I y8]]), .tok]⟩) (fun t h => by rw [ref01_TrainX_loop1] at h; cases h) (fun n15 ih t h => ?_) N ([], 0, p2.Mass, p2.Heat, p2.Silica, p2.Gas) h
    obtain ⟨y3, y4, y5, y6, y7, y8⟩ := t
    rw [ref01_TrainX_loop1] at h
    skip
    refine awp_seq ?_
    refine awp_reg [⟨[(.tmp 8, I y4)], [], I y4, [], false⟩,
    ⟨[(.tmp 1, (.dat 1 ((p1 : List Int).map c_i64)))], [], (.dat 1 ((p1 : List Int).map c_i64)), [], false⟩,
    ⟨[(.tmp 11, (.dat 1 ((p1 : List Int).map c_i64)))], [], (I ((p1.length : Int))), [], false⟩,
    ⟨[(.tmp 10, I y4), (.tmp 12, (I ((p1.length : Int))))], [], (B ((decide (y4 < (p1.length : Int))))), [], false⟩] (by exact ⟨by kernel_rfl, by kernel_rfl⟩) ?_ ?_
    · exact ⟨fun _ => astep_move rfl,
    fun _ => astep_move rfl,
    fun _ => astep_lenm (c := c_i64) (l := p1) (astep_len rfl Try.underlying51 rfl),
    fun _ => astep_bin rfl rfl, trivial⟩
    rcases Bool.eq_false_or_eq_true ((decide (y4 < (p1.length : Int)))) with hc16 | hc16
    · replace h := bif_t hc16 h
      refine awp_ift hc16 (by kernel_rfl) ?_
      refine awp_skip ?_
      refine thenA_n ?_
      refine awp_seq ?_
      refine awp_block ?_
      obtain ⟨x17, hg18, h⟩ := bind_out h
      obtain ⟨hi19, hj20⟩ := getI_some hg18
      obtain ⟨x21, hg22, h⟩ := bind_out h
      obtain ⟨hi23, hj24⟩ := getI_some hg22
      obtain ⟨x26, hf25, h⟩ := bind_out h
      refine awp_regd [⟨[(.tmp 0, (.dat 5 ((p0 : List GRow).map c_GRow)))], [], (.dat 5 ((p0 : List GRow).map c_GRow)), [], false⟩,
    ⟨[(.tmp 1, (.dat 1 ((p1 : List Int).map c_i64)))], [], (.dat 1 ((p1 : List Int).map c_i64)), [], false⟩,
    ⟨[(.tmp 8, I y4)], [], I y4, [], false⟩,
    ⟨[(.tmp 17, (.dat 1 ((p1 : List Int).map c_i64))), (.tmp 18, I y4)], [], (.dptr (c_i64 (x17)) 0), [], false⟩,
    ⟨[(.tmp 19, (.dptr (c_i64 (x17)) 0))], [], I x17, [], false⟩,
    ⟨[(.tmp 16, (.dat 5 ((p0 : List GRow).map c_GRow))), (.tmp 20, I x17)], [], (.dptr (c_GRow (x21)) 0), [], false⟩,
    ⟨[(.tmp 21, (.dptr (c_GRow (x21)) 0))], [], (.agg [I x21.T, I x21.P, I x21.Liquid, I x21.Vapour, I x21.Silica]), [], false⟩,
    ⟨[(.tmp 5, .ref 0 4 0 0)], [(0, .own 4 [[I y5, I y6, I y7, I y8]])], (.agg [I y5, I y6, I y7, I y8]), [], false⟩,
    ⟨[(.func 52, (.fn (.func 52) [] [])), (.tmp 22, (.agg [I x21.T, I x21.P, I x21.Liquid, I x21.Vapour, I x21.Silica])), (.tmp 23, (.agg [I y5, I y6, I y7, I y8]))], [], (.agg [I x26.Steam.Mass, I x26.Steam.Heat, I x26.Steam.Silica, I x26.Steam.Gas, I x26.Water.Mass, I x26.Water.Heat, I x26.Water.Silica, I x26.Water.Gas, I x26.Rest, I x26.Scale]), [], false⟩,
    ⟨[], [(2, .unused)], .ref 2 10 0 0, [(2, .own 10 [[I 0, I 0, I 0, I 0, I 0, I 0, I 0, I 0, I 0, I 0]])], false⟩,
    ⟨[(.tmp 9, .ref 2 10 0 0), (.tmp 24, (.agg [I x26.Steam.Mass, I x26.Steam.Heat, I x26.Steam.Silica, I x26.Steam.Gas, I x26.Water.Mass, I x26.Water.Heat, I x26.Water.Silica, I x26.Water.Gas, I x26.Rest, I x26.Scale]))], [(2, .own 10 [[I 0, I 0, I 0, I 0, I 0, I 0, I 0, I 0, I 0, I 0]])], .any, [(2, .own 10 [[I x26.Steam.Mass, I x26.Steam.Heat, I x26.Steam.Silica, I x26.Steam.Gas, I x26.Water.Mass, I x26.Water.Heat, I x26.Water.Silica, I x26.Water.Gas, I x26.Rest, I x26.Scale]])], false⟩] (by kernel_rfl) (by exact ⟨by kernel_rfl, by kernel_rfl⟩) (by kernel_rfl) ?_ ?_
      · exact ⟨fun _ => astep_move rfl,
    fun _ => astep_move rfl,
    fun _ => astep_move rfl,
    fun _ => astep_idxd rfl Try.underlying51 ti3 rfl rfl hi19 (map_get c_i64 hj20) rfl,
    fun _ => astep_loadd rfl ti3 (by decide) (Nat.le_of_ble_eq_true rfl) rfl,
    fun _ => astep_idxd rfl Try.underlying23 ti49 rfl rfl hi23 (map_get c_GRow hj24) rfl,
    fun _ => astep_loadd rfl ti49 (by decide) (Nat.le_of_ble_eq_true rfl) rfl,
    fun _ => astep_load rfl ti39 (by decide) rfl (Nat.le_of_ble_eq_true rfl) rfl,
    fun _ => astep_pcall (first := []) (cap := []) (vs := [(.agg [I x21.T, I x21.P, I x21.Liquid, I x21.Vapour, I x21.Silica]), (.agg [I y5, I y6, I y7, I y8])]) rfl enter52 (ref01_FlashX_ok N x21 (⟨y5, y6, y7, y8⟩ : GStream) _ hf25) rfl rfl (nl_cons (NLt.agg _ (nl_cons (NLt.lit _) (nl_cons (NLt.lit _) (nl_cons (NLt.lit _) (nl_cons (NLt.lit _) (nl_cons (NLt.lit _) nl_nil)))))) (nl_cons (NLt.agg _ (nl_cons (NLt.lit _) (nl_cons (NLt.lit _) (nl_cons (NLt.lit _) (nl_cons (NLt.lit _) nl_nil))))) nl_nil)) (NLt.agg _ (nl_cons (NLt.lit _) (nl_cons (NLt.lit _) (nl_cons (NLt.lit _) (nl_cons (NLt.lit _) (nl_cons (NLt.lit _) (nl_cons (NLt.lit _) (nl_cons (NLt.lit _) (nl_cons (NLt.lit _) (nl_cons (NLt.lit _) (nl_cons (NLt.lit _) nl_nil))))))))))) rfl,
    fun _ => astep_alloc rfl tz104 rfl,
    fun _ => astep_store rfl ti104 (by rfl) rfl (Nat.le_of_ble_eq_true rfl) rfl, trivial⟩
      obtain ⟨ha27, h⟩ := chk_out h
      refine awp_reg [⟨[(.tmp 7, (.acc 1 104 10 ((y3 : List GParts).map c_GParts)))], [], (.acc 1 104 10 ((y3 : List GParts).map c_GParts)), [], false⟩,
    ⟨[(.tmp 9, .ref 2 10 0 0)], [(2, .own 10 [[I x26.Steam.Mass, I x26.Steam.Heat, I x26.Steam.Silica, I x26.Steam.Gas, I x26.Water.Mass, I x26.Water.Heat, I x26.Water.Silica, I x26.Water.Gas, I x26.Rest, I x26.Scale]])], (.agg [I x26.Steam.Mass, I x26.Steam.Heat, I x26.Steam.Silica, I x26.Steam.Gas, I x26.Water.Mass, I x26.Water.Heat, I x26.Water.Silica, I x26.Water.Gas, I x26.Rest, I x26.Scale]), [], false⟩,
    ⟨[(.tmp 26, (.agg [I x26.Steam.Mass, I x26.Steam.Heat, I x26.Steam.Silica, I x26.Steam.Gas, I x26.Water.Mass, I x26.Water.Heat, I x26.Water.Silica, I x26.Water.Gas, I x26.Rest, I x26.Scale]))], [], (.dat 10 (([(⟨(⟨x26.Steam.Mass, x26.Steam.Heat, x26.Steam.Silica, x26.Steam.Gas⟩ : GStream), (⟨x26.Water.Mass, x26.Water.Heat, x26.Water.Silica, x26.Water.Gas⟩ : GStream), x26.Rest, x26.Scale⟩ : GParts)] : List GParts).map c_GParts)), [], false⟩,
    ⟨[(.tmp 25, (.acc 1 104 10 ((y3 : List GParts).map c_GParts))), (.tmp 27, (.dat 10 (([(⟨(⟨x26.Steam.Mass, x26.Steam.Heat, x26.Steam.Silica, x26.Steam.Gas⟩ : GStream), (⟨x26.Water.Mass, x26.Water.Heat, x26.Water.Silica, x26.Water.Gas⟩ : GStream), x26.Rest, x26.Scale⟩ : GParts)] : List GParts).map c_GParts)))], [(1, .tok), (3, .unused)], (.acc 3 104 10 ((y3 ++ ([(⟨(⟨x26.Steam.Mass, x26.Steam.Heat, x26.Steam.Silica, x26.Steam.Gas⟩ : GStream), (⟨x26.Water.Mass, x26.Water.Heat, x26.Water.Silica, x26.Water.Gas⟩ : GStream), x26.Rest, x26.Scale⟩ : GParts)]) : List GParts).map c_GParts)), [(1, .dead), (3, .tok)], false⟩,
    ⟨[(.tmp 28, (.acc 3 104 10 ((y3 ++ ([(⟨(⟨x26.Steam.Mass, x26.Steam.Heat, x26.Steam.Silica, x26.Steam.Gas⟩ : GStream), (⟨x26.Water.Mass, x26.Water.Heat, x26.Water.Silica, x26.Water.Gas⟩ : GStream), x26.Rest, x26.Scale⟩ : GParts)]) : List GParts).map c_GParts)))], [], (.acc 3 104 10 ((y3 ++ ([(⟨(⟨x26.Steam.Mass, x26.Steam.Heat, x26.Steam.Silica, x26.Steam.Gas⟩ : GStream), (⟨x26.Water.Mass, x26.Water.Heat, x26.Water.Silica, x26.Water.Gas⟩ : GStream), x26.Rest, x26.Scale⟩ : GParts)]) : List GParts).map c_GParts)), [], false⟩] (by exact ⟨by kernel_rfl, by kernel_rfl⟩) ?_ ?_
      · exact ⟨fun _ => astep_move rfl,
    fun _ => astep_load rfl ti104 (by decide) rfl (Nat.le_of_ble_eq_true rfl) rfl,
    fun _ => astep_bslice (vs := [(.agg [I x26.Steam.Mass, I x26.Steam.Heat, I x26.Steam.Silica, I x26.Steam.Gas, I x26.Water.Mass, I x26.Water.Heat, I x26.Water.Silica, I x26.Water.Gas, I x26.Rest, I x26.Scale])]) rfl Try.underlying106 ti104 tz104 rfl (by decide) rfl (by decide) (by rfl) (by rfl) (by rfl) rfl,
    fun _ => astep_app rfl Try.underlying106 te104 (Base.acc _ _) rfl rfl (by rfl) (app_le1 c_GParts ha27) (app_le2 c_GParts ha27 (by decide)) (app_map c_GParts) rfl rfl,
    fun _ => astep_assign rfl, trivial⟩
      refine awp_reg1 [⟨[(.tmp 9, .ref 2 10 0 0)], [(2, .own 10 [[I x26.Steam.Mass, I x26.Steam.Heat, I x26.Steam.Silica, I x26.Steam.Gas, I x26.Water.Mass, I x26.Water.Heat, I x26.Water.Silica, I x26.Water.Gas, I x26.Rest, I x26.Scale]])], .ref 2 10 0 4, [], false⟩,
    ⟨[(.tmp 29, .ref 2 10 0 4)], [(2, .own 10 [[I x26.Steam.Mass, I x26.Steam.Heat, I x26.Steam.Silica, I x26.Steam.Gas, I x26.Water.Mass, I x26.Water.Heat, I x26.Water.Silica, I x26.Water.Gas, I x26.Rest, I x26.Scale]])], (.agg [I x26.Water.Mass, I x26.Water.Heat, I x26.Water.Silica, I x26.Water.Gas]), [], false⟩,
    ⟨[(.tmp 5, .ref 0 4 0 0), (.tmp 30, (.agg [I x26.Water.Mass, I x26.Water.Heat, I x26.Water.Silica, I x26.Water.Gas]))], [(0, .own 4 [[I y5, I y6, I y7, I y8]])], .any, [(0, .own 4 [[I x26.Water.Mass, I x26.Water.Heat, I x26.Water.Silica, I x26.Water.Gas]])], false⟩] (by exact ⟨by kernel_rfl, by kernel_rfl⟩) ?_ ?_
      · exact ⟨fun _ => astep_faddr rfl Try.underlying104 rfl rfl ti39 (by decide) rfl,
    fun _ => astep_load rfl ti39 (by decide) rfl (Nat.le_of_ble_eq_true rfl) rfl,
    fun _ => astep_store rfl ti39 (by rfl) rfl (Nat.le_of_ble_eq_true rfl) rfl, trivial⟩
      refine blockA_n ?_
      refine thenA_n ?_
      refine awp_reg1 [⟨[(.tmp 8, I y4)], [], I y4, [], false⟩,
    ⟨[(.tmp 14, I y4), (.const (.int .i64 1), I 1)], [], (I (w64 (y4 + 1))), [], false⟩,
    ⟨[(.tmp 15, (I (w64 (y4 + 1))))], [], (I (w64 (y4 + 1))), [], false⟩] (by exact ⟨by kernel_rfl, by kernel_rfl⟩) ?_ ?_
      · exact ⟨fun _ => astep_move rfl,
    fun _ => astep_bin rfl rfl,
    fun _ => astep_assign rfl, trivial⟩
      refine thenA_n ?_
      exact around_mor (mor_to (n := 32) (l' := [(0, (.dat 5 ((p0 : List GRow).map c_GRow))), (1, (.dat 1 ((p1 : List Int).map c_i64))), (5, .ref 0 4 0 0), (7, (.acc 1 104 10 (((y3 ++ ([(⟨(⟨x26.Steam.Mass, x26.Steam.Heat, x26.Steam.Silica, x26.Steam.Gas⟩ : GStream), (⟨x26.Water.Mass, x26.Water.Heat, x26.Water.Silica, x26.Water.Gas⟩ : GStream), x26.Rest, x26.Scale⟩ : GParts)])) : List GParts).map c_GParts))), (8, (I ((w64 (y4 + 1)))))]) (own' := [(.own 4 [[I x26.Water.Mass, I x26.Water.Heat, I x26.Water.Silica, I x26.Water.Gas]]), .tok]) [(0, (.dat 5 ((p0 : List GRow).map c_GRow))), (1, (.dat 1 ((p1 : List Int).map c_i64))), (5, .ref 0 4 0 0), (7, (.acc 3 104 10 ((y3 ++ ([(⟨(⟨x26.Steam.Mass, x26.Steam.Heat, x26.Steam.Silica, x26.Steam.Gas⟩ : GStream), (⟨x26.Water.Mass, x26.Water.Heat, x26.Water.Silica, x26.Water.Gas⟩ : GStream), x26.Rest, x26.Scale⟩ : GParts)]) : List GParts).map c_GParts))), (8, (I (w64 (y4 + 1))))] [0, 3] [(.own 4 [[I x26.Water.Mass, I x26.Water.Heat, I x26.Water.Silica, I x26.Water.Gas]]), .tok] hφ0 (by kernel_rfl) (by kernel_rfl) (by kernel_rfl) ⟨rfl, .rn (.plain _ (nl_dat nl_GRow _)), rfl, .rn (.plain _ (nl_dat nl_i64 _)), rfl, .rn (rnq_ref rfl), rfl, .rn (rnq_acc rfl (nl_rows nl_GParts _)), rfl, .rn (.plain _ (NLt.lit _)), trivial⟩ ⟨(spw_box ⟨(.rn (.plain _ (NLt.lit _))), (.rn (.plain _ (NLt.lit _))), (.rn (.plain _ (NLt.lit _))), (.rn (.plain _ (NLt.lit _))), trivial⟩), .tok, trivial⟩) (ih (y3 ++ ([(⟨(⟨x26.Steam.Mass, x26.Steam.Heat, x26.Steam.Silica, x26.Steam.Gas⟩ : GStream), (⟨x26.Water.Mass, x26.Water.Heat, x26.Water.Silica, x26.Water.Gas⟩ : GStream), x26.Rest, x26.Scale⟩ : GParts)]), w64 (y4 + 1), x26.Water.Mass, x26.Water.Heat, x26.Water.Silica, x26.Water.Gas) h)
    · replace h := bif_f hc16 h
      refine awp_ifn hc16 (by kernel_rfl) ?_
      refine awp_exit ?_
      refine thenA_x ?_
      refine thenA_x ?_
      refine blockA_e rfl ?_
      refine thenA_n ?_
      exact ⟨(y3), h, (mor_to (n := 32) (l' := [(7, (.acc 0 104 10 ((y3 : List GParts).map c_GParts)))]) (own' := [.tok]) [(7, (.acc 1 104 10 ((y3 : List GParts).map c_GParts)))] [1] [.tok] hφ0 (by kernel_rfl) (by kernel_rfl) (by kernel_rfl) ⟨rfl, .rn (rnq_acc rfl (nl_rows nl_GParts _)), trivial⟩ ⟨.tok, trivial⟩)⟩

def law01_PartsX (N : Nat) (p0 : GParts) : Option GParts :=
  (law01_StreamX N (⟨p0.Steam.Mass, p0.Steam.Heat, p0.Steam.Silica, p0.Steam.Gas⟩ : GStream)).bind fun x2 =>
  (law01_StreamX N (⟨p0.Water.Mass, p0.Water.Heat, p0.Water.Silica, p0.Water.Gas⟩ : GStream)).bind fun x4 =>
  some (⟨x2, x4, p0.Rest, p0.Scale⟩ : GParts)
set_option maxRecDepth 100000 in
set_option maxHeartbeats 4000000 in
theorem law01_PartsX_ok (N : Nat) (p0 : GParts) (r : GParts) (h : law01_PartsX N p0 = some r) : Spec Try.prog 51 [(.agg (c_GParts p0))] [] (.agg (c_GParts r)) [] := by
  refine spec_of_awp Try.func51 rfl 0 (Nat.le_of_ble_eq_true rfl) (fun X φ0 w0 hφ0 => ?_)
  unfold law01_PartsX at h
  refine awp_reg [⟨[(.tmp 0, (.agg [I p0.Steam.Mass, I p0.Steam.Heat, I p0.Steam.Silica, I p0.Steam.Gas, I p0.Water.Mass, I p0.Water.Heat, I p0.Water.Silica, I p0.Water.Gas, I p0.Rest, I p0.Scale]))], [(0, .unused)], .ref 0 10 0 0, [(0, .own 10 [[I p0.Steam.Mass, I p0.Steam.Heat, I p0.Steam.Silica, I p0.Steam.Gas, I p0.Water.Mass, I p0.Water.Heat, I p0.Water.Silica, I p0.Water.Gas, I p0.Rest, I p0.Scale]])], false⟩,
    ⟨[], [(1, .unused)], .ref 1 10 0 0, [(1, .own 10 [[I 0, I 0, I 0, I 0, I 0, I 0, I 0, I 0, I 0, I 0]])], false⟩] (by exact ⟨by kernel_rfl, by kernel_rfl⟩) ?_ ?_
  · exact ⟨fun _ => astep_box rfl (by rfl) rfl rfl,
    fun _ => astep_alloc rfl tz44 rfl, trivial⟩
  obtain ⟨x2, hf1, h⟩ := bind_out h
  obtain ⟨x4, hf3, h⟩ := bind_out h
  refine awp_regd [⟨[(.tmp 1, .ref 0 10 0 0)], [(0, .own 10 [[I p0.Steam.Mass, I p0.Steam.Heat, I p0.Steam.Silica, I p0.Steam.Gas, I p0.Water.Mass, I p0.Water.Heat, I p0.Water.Silica, I p0.Water.Gas, I p0.Rest, I p0.Scale]])], .ref 0 10 0 0, [], false⟩,
    ⟨[(.tmp 3, .ref 0 10 0 0)], [(0, .own 10 [[I p0.Steam.Mass, I p0.Steam.Heat, I p0.Steam.Silica, I p0.Steam.Gas, I p0.Water.Mass, I p0.Water.Heat, I p0.Water.Silica, I p0.Water.Gas, I p0.Rest, I p0.Scale]])], (.agg [I p0.Steam.Mass, I p0.Steam.Heat, I p0.Steam.Silica, I p0.Steam.Gas]), [], false⟩,
    ⟨[(.func 26, (.fn (.func 26) [] [])), (.tmp 4, (.agg [I p0.Steam.Mass, I p0.Steam.Heat, I p0.Steam.Silica, I p0.Steam.Gas]))], [], (.agg [I x2.Mass, I x2.Heat, I x2.Silica, I x2.Gas]), [], false⟩,
    ⟨[(.tmp 1, .ref 0 10 0 0)], [(0, .own 10 [[I p0.Steam.Mass, I p0.Steam.Heat, I p0.Steam.Silica, I p0.Steam.Gas, I p0.Water.Mass, I p0.Water.Heat, I p0.Water.Silica, I p0.Water.Gas, I p0.Rest, I p0.Scale]])], .ref 0 10 0 4, [], false⟩,
    ⟨[(.tmp 6, .ref 0 10 0 4)], [(0, .own 10 [[I p0.Steam.Mass, I p0.Steam.Heat, I p0.Steam.Silica, I p0.Steam.Gas, I p0.Water.Mass, I p0.Water.Heat, I p0.Water.Silica, I p0.Water.Gas, I p0.Rest, I p0.Scale]])], (.agg [I p0.Water.Mass, I p0.Water.Heat, I p0.Water.Silica, I p0.Water.Gas]), [], false⟩,
    ⟨[(.func 26, (.fn (.func 26) [] [])), (.tmp 7, (.agg [I p0.Water.Mass, I p0.Water.Heat, I p0.Water.Silica, I p0.Water.Gas]))], [], (.agg [I x4.Mass, I x4.Heat, I x4.Silica, I x4.Gas]), [], false⟩,
    ⟨[(.tmp 1, .ref 0 10 0 0)], [(0, .own 10 [[I p0.Steam.Mass, I p0.Steam.Heat, I p0.Steam.Silica, I p0.Steam.Gas, I p0.Water.Mass, I p0.Water.Heat, I p0.Water.Silica, I p0.Water.Gas, I p0.Rest, I p0.Scale]])], .ref 0 10 0 8, [], false⟩,
    ⟨[(.tmp 9, .ref 0 10 0 8)], [(0, .own 10 [[I p0.Steam.Mass, I p0.Steam.Heat, I p0.Steam.Silica, I p0.Steam.Gas, I p0.Water.Mass, I p0.Water.Heat, I p0.Water.Silica, I p0.Water.Gas, I p0.Rest, I p0.Scale]])], I p0.Rest, [], false⟩,
    ⟨[(.tmp 1, .ref 0 10 0 0)], [(0, .own 10 [[I p0.Steam.Mass, I p0.Steam.Heat, I p0.Steam.Silica, I p0.Steam.Gas, I p0.Water.Mass, I p0.Water.Heat, I p0.Water.Silica, I p0.Water.Gas, I p0.Rest, I p0.Scale]])], .ref 0 10 0 9, [], false⟩,
    ⟨[(.tmp 11, .ref 0 10 0 9)], [(0, .own 10 [[I p0.Steam.Mass, I p0.Steam.Heat, I p0.Steam.Silica, I p0.Steam.Gas, I p0.Water.Mass, I p0.Water.Heat, I p0.Water.Silica, I p0.Water.Gas, I p0.Rest, I p0.Scale]])], I p0.Scale, [], false⟩,
    ⟨[(.tmp 5, (.agg [I x2.Mass, I x2.Heat, I x2.Silica, I x2.Gas])), (.tmp 8, (.agg [I x4.Mass, I x4.Heat, I x4.Silica, I x4.Gas])), (.tmp 10, I p0.Rest), (.tmp 12, I p0.Scale)], [], (.agg [I x2.Mass, I x2.Heat, I x2.Silica, I x2.Gas, I x4.Mass, I x4.Heat, I x4.Silica, I x4.Gas, I p0.Rest, I p0.Scale]), [], false⟩,
    ⟨[(.tmp 2, .ref 1 10 0 0), (.tmp 13, (.agg [I x2.Mass, I x2.Heat, I x2.Silica, I x2.Gas, I x4.Mass, I x4.Heat, I x4.Silica, I x4.Gas, I p0.Rest, I p0.Scale]))], [(1, .own 10 [[I 0, I 0, I 0, I 0, I 0, I 0, I 0, I 0, I 0, I 0]])], .any, [(1, .own 10 [[I x2.Mass, I x2.Heat, I x2.Silica, I x2.Gas, I x4.Mass, I x4.Heat, I x4.Silica, I x4.Gas, I p0.Rest, I p0.Scale]])], false⟩] (by kernel_rfl) (by exact ⟨by kernel_rfl, by kernel_rfl⟩) (by kernel_rfl) ?_ ?_
  · exact ⟨fun _ => astep_faddr rfl Try.underlying104 rfl rfl ti39 (by decide) rfl,
    fun _ => astep_load rfl ti39 (by decide) rfl (Nat.le_of_ble_eq_true rfl) rfl,
    fun _ => astep_pcall (first := []) (cap := []) (vs := [(.agg [I p0.Steam.Mass, I p0.Steam.Heat, I p0.Steam.Silica, I p0.Steam.Gas])]) rfl enter26 (law01_StreamX_ok N (⟨p0.Steam.Mass, p0.Steam.Heat, p0.Steam.Silica, p0.Steam.Gas⟩ : GStream) _ hf1) rfl rfl (nl_cons (NLt.agg _ (nl_cons (NLt.lit _) (nl_cons (NLt.lit _) (nl_cons (NLt.lit _) (nl_cons (NLt.lit _) nl_nil))))) nl_nil) (NLt.agg _ (nl_cons (NLt.lit _) (nl_cons (NLt.lit _) (nl_cons (NLt.lit _) (nl_cons (NLt.lit _) nl_nil))))) rfl,
    fun _ => astep_faddr rfl Try.underlying104 rfl rfl ti39 (by decide) rfl,
    fun _ => astep_load rfl ti39 (by decide) rfl (Nat.le_of_ble_eq_true rfl) rfl,
    fun _ => astep_pcall (first := []) (cap := []) (vs := [(.agg [I p0.Water.Mass, I p0.Water.Heat, I p0.Water.Silica, I p0.Water.Gas])]) rfl enter26 (law01_StreamX_ok N (⟨p0.Water.Mass, p0.Water.Heat, p0.Water.Silica, p0.Water.Gas⟩ : GStream) _ hf3) rfl rfl (nl_cons (NLt.agg _ (nl_cons (NLt.lit _) (nl_cons (NLt.lit _) (nl_cons (NLt.lit _) (nl_cons (NLt.lit _) nl_nil))))) nl_nil) (NLt.agg _ (nl_cons (NLt.lit _) (nl_cons (NLt.lit _) (nl_cons (NLt.lit _) (nl_cons (NLt.lit _) nl_nil))))) rfl,
    fun _ => astep_faddr rfl Try.underlying104 rfl rfl ti3 (by decide) rfl,
    fun _ => astep_load rfl ti3 (by decide) rfl (Nat.le_of_ble_eq_true rfl) rfl,
    fun _ => astep_faddr rfl Try.underlying104 rfl rfl ti3 (by decide) rfl,
    fun _ => astep_load rfl ti3 (by decide) rfl (Nat.le_of_ble_eq_true rfl) rfl,
    fun _ => astep_build (vs := [(.agg [I x2.Mass, I x2.Heat, I x2.Silica, I x2.Gas]), (.agg [I x4.Mass, I x4.Heat, I x4.Silica, I x4.Gas]), I p0.Rest, I p0.Scale]) rfl ts44 tz44 rfl (by rfl) rfl,
    fun _ => astep_store rfl ti44 (by rfl) rfl (Nat.le_of_ble_eq_true rfl) rfl, trivial⟩
  refine awp_ret ?_
  obtain rfl := Option.some.inj h
  exact ⟨⟨[(.agg [I x2.Mass, I x2.Heat, I x2.Silica, I x2.Gas, I x4.Mass, I x4.Heat, I x4.Silica, I x4.Gas, I p0.Rest, I p0.Scale])], ⟨resOK_cell (n := 1) (m := 10) (j := 0) (i := 0) (xs := [[I x2.Mass, I x2.Heat, I x2.Silica, I x2.Gas, I x4.Mass, I x4.Heat, I x4.Silica, I x4.Gas, I p0.Rest, I p0.Scale]]) (by kernel_rfl) (by kernel_rfl) ti44 (by decide) rfl (Nat.le_of_ble_eq_true rfl) rfl, trivial⟩, rfl⟩, (NLt.agg _ (nl_cons (NLt.lit _) (nl_cons (NLt.lit _) (nl_cons (NLt.lit _) (nl_cons (NLt.lit _) (nl_cons (NLt.lit _) (nl_cons (NLt.lit _) (nl_cons (NLt.lit _) (nl_cons (NLt.lit _) (nl_cons (NLt.lit _) (nl_cons (NLt.lit _) nl_nil))))))))))), Nat.le_refl _, fun n hn => absurd hn (Nat.not_lt_zero n)⟩

end Go.Proofs.Ytenpbiineblcjaa
