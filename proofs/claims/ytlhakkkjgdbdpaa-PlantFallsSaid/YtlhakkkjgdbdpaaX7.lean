/-
  Functions of the program: what they compute, as plain functions, and that they do. No conditions.
-/
import Derived.Test.YtlhakkkjgdbdpaaX6
namespace Go.Proofs.Ytlhakkkjgdbdpaa
open Go.RowKit

def law07_PlantFallsX (N : Nat) (p0 : GUnit) (p1 : Int) : Option Bool :=
  joinK (fun _ =>
    (ref07_CapacityX N p0).bind fun x3 =>
    chk ((w64 (x3 - 1)) != 0) <|
    (some ((w64 p1).tmod (w64 (x3 - 1)))).bind fun x5 =>
    (law07_UnitX N p0).bind fun x8 =>
    (plant_PowerX N x8 x5).bind fun x10 =>
    (law07_UnitX N p0).bind fun x12 =>
    (plant_PowerX N x12 (w64 (x5 + 1))).bind fun x14 =>
    (law07_UnitX N p0).bind fun x16 =>
    (plant_PowerX N x16 (w64 (x5 + 2))).bind fun x18 =>
    (law07_UnitX N p0).bind fun x20 =>
    (plant_PowerX N x20 0).bind fun x22 =>
    bif (x10.2 == 0) then
     bif (x14.2 == 0) then
      bif (x18.2 == 0) then
       bif (x22.2 == 0) then
        bif (x22.1 == 0) then
         bif (decide (x10.1 ≤ x14.1)) then
          bif (decide (x14.1 ≤ x18.1)) then
           bif (decide ((w64 (x18.1 - x14.1)) ≤ (w64 (x14.1 - x10.1)))) then
            (law07_awakeX 2000 ).bind fun x32 =>
            some x32
           else
            some false
          else
           some false
         else
          some false
        else
         some false
       else
        some false
      else
       some false
     else
      some false
    else
     some false) fun k1 : Unit → Option Bool =>
  (ref07_RightX N p0).bind fun x34 =>
  bif (!x34) then
   (law07_awakeX 2000 ).bind fun x37 =>
   some x37
  else
   (ref07_CapacityX N p0).bind fun x39 =>
   bif (decide (x39 < 2)) then
    (law07_awakeX 2000 ).bind fun x42 =>
    some x42
   else
    k1 ()
def z79_0 (p0 : GUnit) : AV := .dat 2 ((p0.Parts : List GPart).map c_GPart)
def z79_1 (x8 : GUnit) : AV := .dat 2 ((x8.Parts : List GPart).map c_GPart)
def z79_2 (x12 : GUnit) : AV := .dat 2 ((x12.Parts : List GPart).map c_GPart)
def z79_3 (x16 : GUnit) : AV := .dat 2 ((x16.Parts : List GPart).map c_GPart)
def z79_4 (x20 : GUnit) : AV := .dat 2 ((x20.Parts : List GPart).map c_GPart)
set_option maxRecDepth 100000 in
set_option maxHeartbeats 4000000 in
theorem law07_PlantFallsX_ok (N : Nat) (p0 : GUnit) (p1 : Int) (r : Bool) (h : law07_PlantFallsX N p0 p1 = some r) : Spec Try.prog 3 [(.agg (c_GUnit p0)), (K .u32 p1)] [] (B r) [] := by
  refine spec_of_awp Try.func3 rfl 0 (nle rfl) (fun X φ0 w0 hφ0 => ?_)
  unfold law07_PlantFallsX at h
  refine wrg [⟨[(.tmp 0, (.agg [I p0.Inlet, (z79_0 p0)]))], [(0, .unused)], .ref 0 2 0 0, [(0, (.own 2 [[I p0.Inlet, (z79_0 p0)]]))], false⟩, mc (.bool false)] ?_ ?_
  ·exact ⟨astep_box rfl (by rfl) rfl rfl, aas rfl, trivial⟩
  obtain ⟨k1, hk_k1, h⟩ := jko h
  refine wjn (τ := Unit) (fun t => k1 t = some r) (fun _ => ⟨mk 98 [(1, (K .u32 (p1))), (2, .ref 0 2 0 0)], [(.own 2 [[I p0.Inlet, (z79_0 p0)]])]⟩) (fun t h => ?_) ?_
  ·subst hk_k1
   obtain ⟨x3, hf2, h⟩ := bno h
   obtain ⟨hz4, h⟩ := cko h
   obtain ⟨x5, hl6, h⟩ := bno h
   refine wrg [mv 1 (K .u32 (p1)), rp [(.tmp 23, (K .u32 (p1)))] (I (w64 p1)), rb [(.tmp 2, .ref 0 2 0 0)] [(0, (.own 2 [[I p0.Inlet, (z79_0 p0)]]))] (.agg [I p0.Inlet, (z79_0 p0)]), rp [fu 16, (.tmp 25, (.agg [I p0.Inlet, (z79_0 p0)]))] (I x3), rp [(.tmp 26, I x3), ci 1] (I (w64 (x3 - 1))), rp [(.tmp 24, I (w64 p1)), (.tmp 27, (I (w64 (x3 - 1))))] (I ((w64 p1).tmod (w64 (x3 - 1)))), rp [(.tmp 28, (I ((w64 p1).tmod (w64 (x3 - 1)))))] (I x5)] ?_ ?_
   ·exact ⟨amv rfl, acv rfl (by rw [Try.underlying25]; rfl) Try.underlying3, ald rfl ti24 (by decide) rfl (nle rfl) rfl, apc (first := []) (cap := []) (vs := [(.agg [I p0.Inlet, (z79_0 p0)])]) rfl enter16 (ref07_CapacityX_ok N p0 _ hf2) rfl rfl (nlc (NLt.agg _ (nlc nll (nlc (nld nl_GPart _) nl0))) nl0) nll rfl, abn rfl rfl, astep_rem rfl (bne_out hz4), astep_i hl6 (aas rfl), trivial⟩
   obtain ⟨x8, hf7, h⟩ := bno h
   obtain ⟨x10, hf9, h⟩ := bno h
   refine wrg [rb [(.tmp 2, .ref 0 2 0 0)] [(0, (.own 2 [[I p0.Inlet, (z79_0 p0)]]))] (.agg [I p0.Inlet, (z79_0 p0)]), rp [fu 19, (.tmp 30, (.agg [I p0.Inlet, (z79_0 p0)]))] (.agg [I x8.Inlet, (z79_1 x8)]), mv 5 (I x5), rp [fu 18, (.tmp 31, (.agg [I x8.Inlet, (z79_1 x8)])), (.tmp 32, I x5)] (.tup [I x10.1, I x10.2]), mv 33 (.tup [I x10.1, I x10.2]), rp [(.tmp 29, (.tup [I x10.1, I x10.2]))] (I x10.1), rp [(.tmp 29, (.tup [I x10.1, I x10.2]))] (I x10.2), mv 34 (I x10.1), mv 35 (I x10.2)] ?_ ?_
   ·exact ⟨ald rfl ti24 (by decide) rfl (nle rfl) rfl, apc (first := []) (cap := []) (vs := [(.agg [I p0.Inlet, (z79_0 p0)])]) rfl enter19 (law07_UnitX_ok N p0 _ hf7) rfl rfl (nlc (NLt.agg _ (nlc nll (nlc (nld nl_GPart _) nl0))) nl0) (NLt.agg _ (nlc nll (nlc (nld nl_GPart _) nl0))) rfl, amv rfl, apc (first := []) (cap := []) (vs := [(.agg [I x8.Inlet, (z79_1 x8)]), I x5]) rfl enter18 (plant_PowerX_ok N x8 x5 _ hf9) rfl rfl (nlc (NLt.agg _ (nlc nll (nlc (nld nl_GPart _) nl0))) (nlc nll nl0)) (NLt.tup _ (nlc nll (nlc nll nl0))) rfl, amv rfl, astep_extract rfl rfl, astep_extract rfl rfl, aas rfl, aas rfl, trivial⟩
   obtain ⟨x12, hf11, h⟩ := bno h
   obtain ⟨x14, hf13, h⟩ := bno h
   refine wrg [rb [(.tmp 2, .ref 0 2 0 0)] [(0, (.own 2 [[I p0.Inlet, (z79_0 p0)]]))] (.agg [I p0.Inlet, (z79_0 p0)]), rp [fu 19, (.tmp 37, (.agg [I p0.Inlet, (z79_0 p0)]))] (.agg [I x12.Inlet, (z79_2 x12)]), mv 5 (I x5), rp [(.tmp 39, I x5), ci 1] (I (w64 (x5 + 1))), rp [fu 18, (.tmp 38, (.agg [I x12.Inlet, (z79_2 x12)])), (.tmp 40, (I (w64 (x5 + 1))))] (.tup [I x14.1, I x14.2]), mv 41 (.tup [I x14.1, I x14.2]), rp [(.tmp 36, (.tup [I x14.1, I x14.2]))] (I x14.1), rp [(.tmp 36, (.tup [I x14.1, I x14.2]))] (I x14.2), mv 42 (I x14.1), mv 43 (I x14.2)] ?_ ?_
   ·exact ⟨ald rfl ti24 (by decide) rfl (nle rfl) rfl, apc (first := []) (cap := []) (vs := [(.agg [I p0.Inlet, (z79_0 p0)])]) rfl enter19 (law07_UnitX_ok N p0 _ hf11) rfl rfl (nlc (NLt.agg _ (nlc nll (nlc (nld nl_GPart _) nl0))) nl0) (NLt.agg _ (nlc nll (nlc (nld nl_GPart _) nl0))) rfl, amv rfl, abn rfl rfl, apc (first := []) (cap := []) (vs := [(.agg [I x12.Inlet, (z79_2 x12)]), (I (w64 (x5 + 1)))]) rfl enter18 (plant_PowerX_ok N x12 (w64 (x5 + 1)) _ hf13) rfl rfl (nlc (NLt.agg _ (nlc nll (nlc (nld nl_GPart _) nl0))) (nlc nll nl0)) (NLt.tup _ (nlc nll (nlc nll nl0))) rfl, amv rfl, astep_extract rfl rfl, astep_extract rfl rfl, aas rfl, aas rfl, trivial⟩
   obtain ⟨x16, hf15, h⟩ := bno h
   obtain ⟨x18, hf17, h⟩ := bno h
   refine wrg [rb [(.tmp 2, .ref 0 2 0 0)] [(0, (.own 2 [[I p0.Inlet, (z79_0 p0)]]))] (.agg [I p0.Inlet, (z79_0 p0)]), rp [fu 19, (.tmp 45, (.agg [I p0.Inlet, (z79_0 p0)]))] (.agg [I x16.Inlet, (z79_3 x16)]), mv 5 (I x5), rp [(.tmp 47, I x5), ci 2] (I (w64 (x5 + 2))), rp [fu 18, (.tmp 46, (.agg [I x16.Inlet, (z79_3 x16)])), (.tmp 48, (I (w64 (x5 + 2))))] (.tup [I x18.1, I x18.2]), mv 49 (.tup [I x18.1, I x18.2]), rp [(.tmp 44, (.tup [I x18.1, I x18.2]))] (I x18.1), rp [(.tmp 44, (.tup [I x18.1, I x18.2]))] (I x18.2), mv 50 (I x18.1), mv 51 (I x18.2)] ?_ ?_
   ·exact ⟨ald rfl ti24 (by decide) rfl (nle rfl) rfl, apc (first := []) (cap := []) (vs := [(.agg [I p0.Inlet, (z79_0 p0)])]) rfl enter19 (law07_UnitX_ok N p0 _ hf15) rfl rfl (nlc (NLt.agg _ (nlc nll (nlc (nld nl_GPart _) nl0))) nl0) (NLt.agg _ (nlc nll (nlc (nld nl_GPart _) nl0))) rfl, amv rfl, abn rfl rfl, apc (first := []) (cap := []) (vs := [(.agg [I x16.Inlet, (z79_3 x16)]), (I (w64 (x5 + 2)))]) rfl enter18 (plant_PowerX_ok N x16 (w64 (x5 + 2)) _ hf17) rfl rfl (nlc (NLt.agg _ (nlc nll (nlc (nld nl_GPart _) nl0))) (nlc nll nl0)) (NLt.tup _ (nlc nll (nlc nll nl0))) rfl, amv rfl, astep_extract rfl rfl, astep_extract rfl rfl, aas rfl, aas rfl, trivial⟩
   obtain ⟨x20, hf19, h⟩ := bno h
   obtain ⟨x22, hf21, h⟩ := bno h
   refine wrg [rb [(.tmp 2, .ref 0 2 0 0)] [(0, (.own 2 [[I p0.Inlet, (z79_0 p0)]]))] (.agg [I p0.Inlet, (z79_0 p0)]), rp [fu 19, (.tmp 53, (.agg [I p0.Inlet, (z79_0 p0)]))] (.agg [I x20.Inlet, (z79_4 x20)]), rp [fu 18, (.tmp 54, (.agg [I x20.Inlet, (z79_4 x20)])), ci 0] (.tup [I x22.1, I x22.2]), mv 55 (.tup [I x22.1, I x22.2]), rp [(.tmp 52, (.tup [I x22.1, I x22.2]))] (I x22.1), rp [(.tmp 52, (.tup [I x22.1, I x22.2]))] (I x22.2), mv 56 (I x22.1), mv 57 (I x22.2)] ?_ ?_
   ·exact ⟨ald rfl ti24 (by decide) rfl (nle rfl) rfl, apc (first := []) (cap := []) (vs := [(.agg [I p0.Inlet, (z79_0 p0)])]) rfl enter19 (law07_UnitX_ok N p0 _ hf19) rfl rfl (nlc (NLt.agg _ (nlc nll (nlc (nld nl_GPart _) nl0))) nl0) (NLt.agg _ (nlc nll (nlc (nld nl_GPart _) nl0))) rfl, apc (first := []) (cap := []) (vs := [(.agg [I x20.Inlet, (z79_4 x20)]), I 0]) rfl enter18 (plant_PowerX_ok N x20 0 _ hf21) rfl rfl (nlc (NLt.agg _ (nlc nll (nlc (nld nl_GPart _) nl0))) (nlc nll nl0)) (NLt.tup _ (nlc nll (nlc nll nl0))) rfl, amv rfl, astep_extract rfl rfl, astep_extract rfl rfl, aas rfl, aas rfl, trivial⟩
   rcases bft ((x10.2 == 0)) with hb23 | hb23
   ·replace h := bif_t hb23 h
    rcases bft ((x14.2 == 0)) with hb24 | hb24
    ·replace h := bif_t hb24 h
     rcases bft ((x18.2 == 0)) with hb25 | hb25
     ·replace h := bif_t hb25 h
      rcases bft ((x22.2 == 0)) with hb26 | hb26
      ·replace h := bif_t hb26 h
       rcases bft ((x22.1 == 0)) with hb27 | hb27
       ·replace h := bif_t hb27 h
        rcases bft ((decide (x10.1 ≤ x14.1))) with hb28 | hb28
        ·replace h := bif_t hb28 h
         rcases bft ((decide (x14.1 ≤ x18.1))) with hb29 | hb29
         ·replace h := bif_t hb29 h
          rcases bft ((decide ((w64 (x18.1 - x14.1)) ≤ (w64 (x14.1 - x10.1))))) with hb30 | hb30
          ·replace h := bif_t hb30 h
           obtain ⟨x32, hf31, h⟩ := bno h
           refine wrg [mv 7 (I x10.2), rp [(.tmp 58, I x10.2), ci 0] (B ((x10.2 == 0))), rp [(.tmp 59, (B ((x10.2 == 0))))] (B true), rp [(.tmp 60, B true), (.tmp 9, I x14.2)] (I x14.2), rp [(.tmp 60, B true), (.tmp 61, I x14.2), ci 0] (B ((x14.2 == 0))), rp [(.tmp 60, B true), (.tmp 62, (B ((x14.2 == 0)))), cb false] (B ((x14.2 == 0))), rp [(.tmp 63, (B ((x14.2 == 0))))] (B true), rp [(.tmp 64, B true), (.tmp 11, I x18.2)] (I x18.2), rp [(.tmp 64, B true), (.tmp 65, I x18.2), ci 0] (B ((x18.2 == 0))), rp [(.tmp 64, B true), (.tmp 66, (B ((x18.2 == 0)))), cb false] (B ((x18.2 == 0))), rp [(.tmp 67, (B ((x18.2 == 0))))] (B true), rp [(.tmp 68, B true), (.tmp 13, I x22.2)] (I x22.2), rp [(.tmp 68, B true), (.tmp 69, I x22.2), ci 0] (B ((x22.2 == 0))), rp [(.tmp 68, B true), (.tmp 70, (B ((x22.2 == 0)))), cb false] (B ((x22.2 == 0))), rp [(.tmp 71, (B ((x22.2 == 0))))] (B true), rp [(.tmp 72, B true), (.tmp 12, I x22.1)] (I x22.1), rp [(.tmp 72, B true), (.tmp 73, I x22.1), ci 0] (B ((x22.1 == 0))), rp [(.tmp 72, B true), (.tmp 74, (B ((x22.1 == 0)))), cb false] (B ((x22.1 == 0))), rp [(.tmp 75, (B ((x22.1 == 0))))] (B true), rp [(.tmp 76, B true), (.tmp 6, I x10.1)] (I x10.1), rp [(.tmp 76, B true), (.tmp 8, I x14.1)] (I x14.1), rp [(.tmp 76, B true), (.tmp 77, I x10.1), (.tmp 78, I x14.1)] (B ((decide (x10.1 ≤ x14.1)))), rp [(.tmp 76, B true), (.tmp 79, (B ((decide (x10.1 ≤ x14.1))))), cb false] (B ((decide (x10.1 ≤ x14.1)))), rp [(.tmp 80, (B ((decide (x10.1 ≤ x14.1)))))] (B true), rp [(.tmp 81, B true), (.tmp 8, I x14.1)] (I x14.1), rp [(.tmp 81, B true), (.tmp 10, I x18.1)] (I x18.1), rp [(.tmp 81, B true), (.tmp 82, I x14.1), (.tmp 83, I x18.1)] (B ((decide (x14.1 ≤ x18.1)))), rp [(.tmp 81, B true), (.tmp 84, (B ((decide (x14.1 ≤ x18.1))))), cb false] (B ((decide (x14.1 ≤ x18.1)))), rp [(.tmp 85, (B ((decide (x14.1 ≤ x18.1)))))] (B true), rp [(.tmp 86, B true), (.tmp 10, I x18.1)] (I x18.1), rp [(.tmp 86, B true), (.tmp 8, I x14.1)] (I x14.1), rp [(.tmp 86, B true), (.tmp 87, I x18.1), (.tmp 88, I x14.1)] (I (w64 (x18.1 - x14.1))), rp [(.tmp 86, B true), (.tmp 8, I x14.1)] (I x14.1), rp [(.tmp 86, B true), (.tmp 6, I x10.1)] (I x10.1), rp [(.tmp 86, B true), (.tmp 90, I x14.1), (.tmp 91, I x10.1)] (I (w64 (x14.1 - x10.1))), rp [(.tmp 86, B true), (.tmp 89, (I (w64 (x18.1 - x14.1)))), (.tmp 92, (I (w64 (x14.1 - x10.1))))] (B ((decide ((w64 (x18.1 - x14.1)) ≤ (w64 (x14.1 - x10.1)))))), rp [(.tmp 86, B true), (.tmp 93, (B ((decide ((w64 (x18.1 - x14.1)) ≤ (w64 (x14.1 - x10.1))))))), cb false] (B ((decide ((w64 (x18.1 - x14.1)) ≤ (w64 (x14.1 - x10.1)))))), rp [(.tmp 94, (B ((decide ((w64 (x18.1 - x14.1)) ≤ (w64 (x14.1 - x10.1)))))))] (B true), rp [(.tmp 95, B true), fu 17] (B x32), rp [(.tmp 95, B true), (.tmp 96, B x32), cb false] (B x32), mv 97 (B x32)] ?_ ?_
           ·exact ⟨amv rfl, abn rfl rfl, asb hb23 (amv rfl), ag_ (amv rfl), ag_ (abn rfl rfl), apk rfl rfl, asb hb24 (amv rfl), ag_ (amv rfl), ag_ (abn rfl rfl), apk rfl rfl, asb hb25 (amv rfl), ag_ (amv rfl), ag_ (abn rfl rfl), apk rfl rfl, asb hb26 (amv rfl), ag_ (amv rfl), ag_ (abn rfl rfl), apk rfl rfl, asb hb27 (amv rfl), ag_ (amv rfl), ag_ (amv rfl), ag_ (abn rfl rfl), apk rfl rfl, asb hb28 (amv rfl), ag_ (amv rfl), ag_ (amv rfl), ag_ (abn rfl rfl), apk rfl rfl, asb hb29 (amv rfl), ag_ (amv rfl), ag_ (amv rfl), ag_ (abn rfl rfl), ag_ (amv rfl), ag_ (amv rfl), ag_ (abn rfl rfl), ag_ (abn rfl rfl), apk rfl rfl, asb hb30 (amv rfl), ag_ (apc (first := []) (cap := []) (vs := []) rfl enter17 (law07_awakeX_ok 2000  _ hf31) rfl rfl nl0 nll rfl), apk rfl rfl, aas rfl, trivial⟩
           refine awp_ret ?_
           obtain rfl := osi h
           exact ⟨⟨[B x32], ⟨rot (by kernel_rfl), trivial⟩, rfl⟩, nll, Nat.le_refl _, fun n hn => absurd hn (Nat.not_lt_zero n)⟩
          ·replace h := bif_f hb30 h
           refine wrg [mv 7 (I x10.2), rp [(.tmp 58, I x10.2), ci 0] (B ((x10.2 == 0))), rp [(.tmp 59, (B ((x10.2 == 0))))] (B true), rp [(.tmp 60, B true), (.tmp 9, I x14.2)] (I x14.2), rp [(.tmp 60, B true), (.tmp 61, I x14.2), ci 0] (B ((x14.2 == 0))), rp [(.tmp 60, B true), (.tmp 62, (B ((x14.2 == 0)))), cb false] (B ((x14.2 == 0))), rp [(.tmp 63, (B ((x14.2 == 0))))] (B true), rp [(.tmp 64, B true), (.tmp 11, I x18.2)] (I x18.2), rp [(.tmp 64, B true), (.tmp 65, I x18.2), ci 0] (B ((x18.2 == 0))), rp [(.tmp 64, B true), (.tmp 66, (B ((x18.2 == 0)))), cb false] (B ((x18.2 == 0))), rp [(.tmp 67, (B ((x18.2 == 0))))] (B true), rp [(.tmp 68, B true), (.tmp 13, I x22.2)] (I x22.2), rp [(.tmp 68, B true), (.tmp 69, I x22.2), ci 0] (B ((x22.2 == 0))), rp [(.tmp 68, B true), (.tmp 70, (B ((x22.2 == 0)))), cb false] (B ((x22.2 == 0))), rp [(.tmp 71, (B ((x22.2 == 0))))] (B true), rp [(.tmp 72, B true), (.tmp 12, I x22.1)] (I x22.1), rp [(.tmp 72, B true), (.tmp 73, I x22.1), ci 0] (B ((x22.1 == 0))), rp [(.tmp 72, B true), (.tmp 74, (B ((x22.1 == 0)))), cb false] (B ((x22.1 == 0))), rp [(.tmp 75, (B ((x22.1 == 0))))] (B true), rp [(.tmp 76, B true), (.tmp 6, I x10.1)] (I x10.1), rp [(.tmp 76, B true), (.tmp 8, I x14.1)] (I x14.1), rp [(.tmp 76, B true), (.tmp 77, I x10.1), (.tmp 78, I x14.1)] (B ((decide (x10.1 ≤ x14.1)))), rp [(.tmp 76, B true), (.tmp 79, (B ((decide (x10.1 ≤ x14.1))))), cb false] (B ((decide (x10.1 ≤ x14.1)))), rp [(.tmp 80, (B ((decide (x10.1 ≤ x14.1)))))] (B true), rp [(.tmp 81, B true), (.tmp 8, I x14.1)] (I x14.1), rp [(.tmp 81, B true), (.tmp 10, I x18.1)] (I x18.1), rp [(.tmp 81, B true), (.tmp 82, I x14.1), (.tmp 83, I x18.1)] (B ((decide (x14.1 ≤ x18.1)))), rp [(.tmp 81, B true), (.tmp 84, (B ((decide (x14.1 ≤ x18.1))))), cb false] (B ((decide (x14.1 ≤ x18.1)))), rp [(.tmp 85, (B ((decide (x14.1 ≤ x18.1)))))] (B true), rp [(.tmp 86, B true), (.tmp 10, I x18.1)] (I x18.1), rp [(.tmp 86, B true), (.tmp 8, I x14.1)] (I x14.1), rp [(.tmp 86, B true), (.tmp 87, I x18.1), (.tmp 88, I x14.1)] (I (w64 (x18.1 - x14.1))), rp [(.tmp 86, B true), (.tmp 8, I x14.1)] (I x14.1), rp [(.tmp 86, B true), (.tmp 6, I x10.1)] (I x10.1), rp [(.tmp 86, B true), (.tmp 90, I x14.1), (.tmp 91, I x10.1)] (I (w64 (x14.1 - x10.1))), rp [(.tmp 86, B true), (.tmp 89, (I (w64 (x18.1 - x14.1)))), (.tmp 92, (I (w64 (x14.1 - x10.1))))] (B ((decide ((w64 (x18.1 - x14.1)) ≤ (w64 (x14.1 - x10.1)))))), rp [(.tmp 86, B true), (.tmp 93, (B ((decide ((w64 (x18.1 - x14.1)) ≤ (w64 (x14.1 - x10.1))))))), cb false] (B ((decide ((w64 (x18.1 - x14.1)) ≤ (w64 (x14.1 - x10.1)))))), rp [(.tmp 94, (B ((decide ((w64 (x18.1 - x14.1)) ≤ (w64 (x14.1 - x10.1)))))))] (B false), sk 95 (B false), rp [(.tmp 95, B false), (.tmp 96, (.lit undef)), cb false] (B false), mv 97 (B false)] ?_ ?_
           ·exact ⟨amv rfl, abn rfl rfl, asb hb23 (amv rfl), ag_ (amv rfl), ag_ (abn rfl rfl), apk rfl rfl, asb hb24 (amv rfl), ag_ (amv rfl), ag_ (abn rfl rfl), apk rfl rfl, asb hb25 (amv rfl), ag_ (amv rfl), ag_ (abn rfl rfl), apk rfl rfl, asb hb26 (amv rfl), ag_ (amv rfl), ag_ (abn rfl rfl), apk rfl rfl, asb hb27 (amv rfl), ag_ (amv rfl), ag_ (amv rfl), ag_ (abn rfl rfl), apk rfl rfl, asb hb28 (amv rfl), ag_ (amv rfl), ag_ (amv rfl), ag_ (abn rfl rfl), apk rfl rfl, asb hb29 (amv rfl), ag_ (amv rfl), ag_ (amv rfl), ag_ (abn rfl rfl), ag_ (amv rfl), ag_ (amv rfl), ag_ (abn rfl rfl), ag_ (abn rfl rfl), apk rfl rfl, asb hb30 (amv rfl), trivial, apk rfl rfl, aas rfl, trivial⟩
           refine awp_ret ?_
           obtain rfl := osi h
           exact ⟨⟨[B false], ⟨rot (by kernel_rfl), trivial⟩, rfl⟩, nll, Nat.le_refl _, fun n hn => absurd hn (Nat.not_lt_zero n)⟩
         ·replace h := bif_f hb29 h
          refine wrg [mv 7 (I x10.2), rp [(.tmp 58, I x10.2), ci 0] (B ((x10.2 == 0))), rp [(.tmp 59, (B ((x10.2 == 0))))] (B true), rp [(.tmp 60, B true), (.tmp 9, I x14.2)] (I x14.2), rp [(.tmp 60, B true), (.tmp 61, I x14.2), ci 0] (B ((x14.2 == 0))), rp [(.tmp 60, B true), (.tmp 62, (B ((x14.2 == 0)))), cb false] (B ((x14.2 == 0))), rp [(.tmp 63, (B ((x14.2 == 0))))] (B true), rp [(.tmp 64, B true), (.tmp 11, I x18.2)] (I x18.2), rp [(.tmp 64, B true), (.tmp 65, I x18.2), ci 0] (B ((x18.2 == 0))), rp [(.tmp 64, B true), (.tmp 66, (B ((x18.2 == 0)))), cb false] (B ((x18.2 == 0))), rp [(.tmp 67, (B ((x18.2 == 0))))] (B true), rp [(.tmp 68, B true), (.tmp 13, I x22.2)] (I x22.2), rp [(.tmp 68, B true), (.tmp 69, I x22.2), ci 0] (B ((x22.2 == 0))), rp [(.tmp 68, B true), (.tmp 70, (B ((x22.2 == 0)))), cb false] (B ((x22.2 == 0))), rp [(.tmp 71, (B ((x22.2 == 0))))] (B true), rp [(.tmp 72, B true), (.tmp 12, I x22.1)] (I x22.1), rp [(.tmp 72, B true), (.tmp 73, I x22.1), ci 0] (B ((x22.1 == 0))), rp [(.tmp 72, B true), (.tmp 74, (B ((x22.1 == 0)))), cb false] (B ((x22.1 == 0))), rp [(.tmp 75, (B ((x22.1 == 0))))] (B true), rp [(.tmp 76, B true), (.tmp 6, I x10.1)] (I x10.1), rp [(.tmp 76, B true), (.tmp 8, I x14.1)] (I x14.1), rp [(.tmp 76, B true), (.tmp 77, I x10.1), (.tmp 78, I x14.1)] (B ((decide (x10.1 ≤ x14.1)))), rp [(.tmp 76, B true), (.tmp 79, (B ((decide (x10.1 ≤ x14.1))))), cb false] (B ((decide (x10.1 ≤ x14.1)))), rp [(.tmp 80, (B ((decide (x10.1 ≤ x14.1)))))] (B true), rp [(.tmp 81, B true), (.tmp 8, I x14.1)] (I x14.1), rp [(.tmp 81, B true), (.tmp 10, I x18.1)] (I x18.1), rp [(.tmp 81, B true), (.tmp 82, I x14.1), (.tmp 83, I x18.1)] (B ((decide (x14.1 ≤ x18.1)))), rp [(.tmp 81, B true), (.tmp 84, (B ((decide (x14.1 ≤ x18.1))))), cb false] (B ((decide (x14.1 ≤ x18.1)))), rp [(.tmp 85, (B ((decide (x14.1 ≤ x18.1)))))] (B false), sk 86 (B false), sk 86 (B false), sk 86 (B false), sk 86 (B false), sk 86 (B false), sk 86 (B false), sk 86 (B false), rp [(.tmp 86, B false), (.tmp 93, (.lit undef)), cb false] (B false), mv 94 (B false), sk 95 (B false), rp [(.tmp 95, B false), (.tmp 96, (.lit undef)), cb false] (B false), mv 97 (B false)] ?_ ?_
          ·exact ⟨amv rfl, abn rfl rfl, asb hb23 (amv rfl), ag_ (amv rfl), ag_ (abn rfl rfl), apk rfl rfl, asb hb24 (amv rfl), ag_ (amv rfl), ag_ (abn rfl rfl), apk rfl rfl, asb hb25 (amv rfl), ag_ (amv rfl), ag_ (abn rfl rfl), apk rfl rfl, asb hb26 (amv rfl), ag_ (amv rfl), ag_ (abn rfl rfl), apk rfl rfl, asb hb27 (amv rfl), ag_ (amv rfl), ag_ (amv rfl), ag_ (abn rfl rfl), apk rfl rfl, asb hb28 (amv rfl), ag_ (amv rfl), ag_ (amv rfl), ag_ (abn rfl rfl), apk rfl rfl, asb hb29 (amv rfl), trivial, trivial, trivial, trivial, trivial, trivial, trivial, apk rfl rfl, amv rfl, trivial, apk rfl rfl, aas rfl, trivial⟩
          refine awp_ret ?_
          obtain rfl := osi h
          exact ⟨⟨[B false], ⟨rot (by kernel_rfl), trivial⟩, rfl⟩, nll, Nat.le_refl _, fun n hn => absurd hn (Nat.not_lt_zero n)⟩
        ·replace h := bif_f hb28 h
         refine wrg [mv 7 (I x10.2), rp [(.tmp 58, I x10.2), ci 0] (B ((x10.2 == 0))), rp [(.tmp 59, (B ((x10.2 == 0))))] (B true), rp [(.tmp 60, B true), (.tmp 9, I x14.2)] (I x14.2), rp [(.tmp 60, B true), (.tmp 61, I x14.2), ci 0] (B ((x14.2 == 0))), rp [(.tmp 60, B true), (.tmp 62, (B ((x14.2 == 0)))), cb false] (B ((x14.2 == 0))), rp [(.tmp 63, (B ((x14.2 == 0))))] (B true), rp [(.tmp 64, B true), (.tmp 11, I x18.2)] (I x18.2), rp [(.tmp 64, B true), (.tmp 65, I x18.2), ci 0] (B ((x18.2 == 0))), rp [(.tmp 64, B true), (.tmp 66, (B ((x18.2 == 0)))), cb false] (B ((x18.2 == 0))), rp [(.tmp 67, (B ((x18.2 == 0))))] (B true), rp [(.tmp 68, B true), (.tmp 13, I x22.2)] (I x22.2), rp [(.tmp 68, B true), (.tmp 69, I x22.2), ci 0] (B ((x22.2 == 0))), rp [(.tmp 68, B true), (.tmp 70, (B ((x22.2 == 0)))), cb false] (B ((x22.2 == 0))), rp [(.tmp 71, (B ((x22.2 == 0))))] (B true), rp [(.tmp 72, B true), (.tmp 12, I x22.1)] (I x22.1), rp [(.tmp 72, B true), (.tmp 73, I x22.1), ci 0] (B ((x22.1 == 0))), rp [(.tmp 72, B true), (.tmp 74, (B ((x22.1 == 0)))), cb false] (B ((x22.1 == 0))), rp [(.tmp 75, (B ((x22.1 == 0))))] (B true), rp [(.tmp 76, B true), (.tmp 6, I x10.1)] (I x10.1), rp [(.tmp 76, B true), (.tmp 8, I x14.1)] (I x14.1), rp [(.tmp 76, B true), (.tmp 77, I x10.1), (.tmp 78, I x14.1)] (B ((decide (x10.1 ≤ x14.1)))), rp [(.tmp 76, B true), (.tmp 79, (B ((decide (x10.1 ≤ x14.1))))), cb false] (B ((decide (x10.1 ≤ x14.1)))), rp [(.tmp 80, (B ((decide (x10.1 ≤ x14.1)))))] (B false), sk 81 (B false), sk 81 (B false), sk 81 (B false), rp [(.tmp 81, B false), (.tmp 84, (.lit undef)), cb false] (B false), mv 85 (B false), sk 86 (B false), sk 86 (B false), sk 86 (B false), sk 86 (B false), sk 86 (B false), sk 86 (B false), sk 86 (B false), rp [(.tmp 86, B false), (.tmp 93, (.lit undef)), cb false] (B false), mv 94 (B false), sk 95 (B false), rp [(.tmp 95, B false), (.tmp 96, (.lit undef)), cb false] (B false), mv 97 (B false)] ?_ ?_
         ·exact ⟨amv rfl, abn rfl rfl, asb hb23 (amv rfl), ag_ (amv rfl), ag_ (abn rfl rfl), apk rfl rfl, asb hb24 (amv rfl), ag_ (amv rfl), ag_ (abn rfl rfl), apk rfl rfl, asb hb25 (amv rfl), ag_ (amv rfl), ag_ (abn rfl rfl), apk rfl rfl, asb hb26 (amv rfl), ag_ (amv rfl), ag_ (abn rfl rfl), apk rfl rfl, asb hb27 (amv rfl), ag_ (amv rfl), ag_ (amv rfl), ag_ (abn rfl rfl), apk rfl rfl, asb hb28 (amv rfl), trivial, trivial, trivial, apk rfl rfl, amv rfl, trivial, trivial, trivial, trivial, trivial, trivial, trivial, apk rfl rfl, amv rfl, trivial, apk rfl rfl, aas rfl, trivial⟩
         refine awp_ret ?_
         obtain rfl := osi h
         exact ⟨⟨[B false], ⟨rot (by kernel_rfl), trivial⟩, rfl⟩, nll, Nat.le_refl _, fun n hn => absurd hn (Nat.not_lt_zero n)⟩
       ·replace h := bif_f hb27 h
        refine wrg [mv 7 (I x10.2), rp [(.tmp 58, I x10.2), ci 0] (B ((x10.2 == 0))), rp [(.tmp 59, (B ((x10.2 == 0))))] (B true), rp [(.tmp 60, B true), (.tmp 9, I x14.2)] (I x14.2), rp [(.tmp 60, B true), (.tmp 61, I x14.2), ci 0] (B ((x14.2 == 0))), rp [(.tmp 60, B true), (.tmp 62, (B ((x14.2 == 0)))), cb false] (B ((x14.2 == 0))), rp [(.tmp 63, (B ((x14.2 == 0))))] (B true), rp [(.tmp 64, B true), (.tmp 11, I x18.2)] (I x18.2), rp [(.tmp 64, B true), (.tmp 65, I x18.2), ci 0] (B ((x18.2 == 0))), rp [(.tmp 64, B true), (.tmp 66, (B ((x18.2 == 0)))), cb false] (B ((x18.2 == 0))), rp [(.tmp 67, (B ((x18.2 == 0))))] (B true), rp [(.tmp 68, B true), (.tmp 13, I x22.2)] (I x22.2), rp [(.tmp 68, B true), (.tmp 69, I x22.2), ci 0] (B ((x22.2 == 0))), rp [(.tmp 68, B true), (.tmp 70, (B ((x22.2 == 0)))), cb false] (B ((x22.2 == 0))), rp [(.tmp 71, (B ((x22.2 == 0))))] (B true), rp [(.tmp 72, B true), (.tmp 12, I x22.1)] (I x22.1), rp [(.tmp 72, B true), (.tmp 73, I x22.1), ci 0] (B ((x22.1 == 0))), rp [(.tmp 72, B true), (.tmp 74, (B ((x22.1 == 0)))), cb false] (B ((x22.1 == 0))), rp [(.tmp 75, (B ((x22.1 == 0))))] (B false), sk 76 (B false), sk 76 (B false), sk 76 (B false), rp [(.tmp 76, B false), (.tmp 79, (.lit undef)), cb false] (B false), mv 80 (B false), sk 81 (B false), sk 81 (B false), sk 81 (B false), rp [(.tmp 81, B false), (.tmp 84, (.lit undef)), cb false] (B false), mv 85 (B false), sk 86 (B false), sk 86 (B false), sk 86 (B false), sk 86 (B false), sk 86 (B false), sk 86 (B false), sk 86 (B false), rp [(.tmp 86, B false), (.tmp 93, (.lit undef)), cb false] (B false), mv 94 (B false), sk 95 (B false), rp [(.tmp 95, B false), (.tmp 96, (.lit undef)), cb false] (B false), mv 97 (B false)] ?_ ?_
        ·exact ⟨amv rfl, abn rfl rfl, asb hb23 (amv rfl), ag_ (amv rfl), ag_ (abn rfl rfl), apk rfl rfl, asb hb24 (amv rfl), ag_ (amv rfl), ag_ (abn rfl rfl), apk rfl rfl, asb hb25 (amv rfl), ag_ (amv rfl), ag_ (abn rfl rfl), apk rfl rfl, asb hb26 (amv rfl), ag_ (amv rfl), ag_ (abn rfl rfl), apk rfl rfl, asb hb27 (amv rfl), trivial, trivial, trivial, apk rfl rfl, amv rfl, trivial, trivial, trivial, apk rfl rfl, amv rfl, trivial, trivial, trivial, trivial, trivial, trivial, trivial, apk rfl rfl, amv rfl, trivial, apk rfl rfl, aas rfl, trivial⟩
        refine awp_ret ?_
        obtain rfl := osi h
        exact ⟨⟨[B false], ⟨rot (by kernel_rfl), trivial⟩, rfl⟩, nll, Nat.le_refl _, fun n hn => absurd hn (Nat.not_lt_zero n)⟩
      ·replace h := bif_f hb26 h
       refine wrg [mv 7 (I x10.2), rp [(.tmp 58, I x10.2), ci 0] (B ((x10.2 == 0))), rp [(.tmp 59, (B ((x10.2 == 0))))] (B true), rp [(.tmp 60, B true), (.tmp 9, I x14.2)] (I x14.2), rp [(.tmp 60, B true), (.tmp 61, I x14.2), ci 0] (B ((x14.2 == 0))), rp [(.tmp 60, B true), (.tmp 62, (B ((x14.2 == 0)))), cb false] (B ((x14.2 == 0))), rp [(.tmp 63, (B ((x14.2 == 0))))] (B true), rp [(.tmp 64, B true), (.tmp 11, I x18.2)] (I x18.2), rp [(.tmp 64, B true), (.tmp 65, I x18.2), ci 0] (B ((x18.2 == 0))), rp [(.tmp 64, B true), (.tmp 66, (B ((x18.2 == 0)))), cb false] (B ((x18.2 == 0))), rp [(.tmp 67, (B ((x18.2 == 0))))] (B true), rp [(.tmp 68, B true), (.tmp 13, I x22.2)] (I x22.2), rp [(.tmp 68, B true), (.tmp 69, I x22.2), ci 0] (B ((x22.2 == 0))), rp [(.tmp 68, B true), (.tmp 70, (B ((x22.2 == 0)))), cb false] (B ((x22.2 == 0))), rp [(.tmp 71, (B ((x22.2 == 0))))] (B false), sk 72 (B false), sk 72 (B false), rp [(.tmp 72, B false), (.tmp 74, (.lit undef)), cb false] (B false), mv 75 (B false), sk 76 (B false), sk 76 (B false), sk 76 (B false), rp [(.tmp 76, B false), (.tmp 79, (.lit undef)), cb false] (B false), mv 80 (B false), sk 81 (B false), sk 81 (B false), sk 81 (B false), rp [(.tmp 81, B false), (.tmp 84, (.lit undef)), cb false] (B false), mv 85 (B false), sk 86 (B false), sk 86 (B false), sk 86 (B false), sk 86 (B false), sk 86 (B false), sk 86 (B false), sk 86 (B false), rp [(.tmp 86, B false), (.tmp 93, (.lit undef)), cb false] (B false), mv 94 (B false), sk 95 (B false), rp [(.tmp 95, B false), (.tmp 96, (.lit undef)), cb false] (B false), mv 97 (B false)] ?_ ?_
       ·exact ⟨amv rfl, abn rfl rfl, asb hb23 (amv rfl), ag_ (amv rfl), ag_ (abn rfl rfl), apk rfl rfl, asb hb24 (amv rfl), ag_ (amv rfl), ag_ (abn rfl rfl), apk rfl rfl, asb hb25 (amv rfl), ag_ (amv rfl), ag_ (abn rfl rfl), apk rfl rfl, asb hb26 (amv rfl), trivial, trivial, apk rfl rfl, amv rfl, trivial, trivial, trivial, apk rfl rfl, amv rfl, trivial, trivial, trivial, apk rfl rfl, amv rfl, trivial, trivial, trivial, trivial, trivial, trivial, trivial, apk rfl rfl, amv rfl, trivial, apk rfl rfl, aas rfl, trivial⟩
       refine awp_ret ?_
       obtain rfl := osi h
       exact ⟨⟨[B false], ⟨rot (by kernel_rfl), trivial⟩, rfl⟩, nll, Nat.le_refl _, fun n hn => absurd hn (Nat.not_lt_zero n)⟩
     ·replace h := bif_f hb25 h
      refine wrg [mv 7 (I x10.2), rp [(.tmp 58, I x10.2), ci 0] (B ((x10.2 == 0))), rp [(.tmp 59, (B ((x10.2 == 0))))] (B true), rp [(.tmp 60, B true), (.tmp 9, I x14.2)] (I x14.2), rp [(.tmp 60, B true), (.tmp 61, I x14.2), ci 0] (B ((x14.2 == 0))), rp [(.tmp 60, B true), (.tmp 62, (B ((x14.2 == 0)))), cb false] (B ((x14.2 == 0))), rp [(.tmp 63, (B ((x14.2 == 0))))] (B true), rp [(.tmp 64, B true), (.tmp 11, I x18.2)] (I x18.2), rp [(.tmp 64, B true), (.tmp 65, I x18.2), ci 0] (B ((x18.2 == 0))), rp [(.tmp 64, B true), (.tmp 66, (B ((x18.2 == 0)))), cb false] (B ((x18.2 == 0))), rp [(.tmp 67, (B ((x18.2 == 0))))] (B false), sk 68 (B false), sk 68 (B false), rp [(.tmp 68, B false), (.tmp 70, (.lit undef)), cb false] (B false), mv 71 (B false), sk 72 (B false), sk 72 (B false), rp [(.tmp 72, B false), (.tmp 74, (.lit undef)), cb false] (B false), mv 75 (B false), sk 76 (B false), sk 76 (B false), sk 76 (B false), rp [(.tmp 76, B false), (.tmp 79, (.lit undef)), cb false] (B false), mv 80 (B false), sk 81 (B false), sk 81 (B false), sk 81 (B false), rp [(.tmp 81, B false), (.tmp 84, (.lit undef)), cb false] (B false), mv 85 (B false), sk 86 (B false), sk 86 (B false), sk 86 (B false), sk 86 (B false), sk 86 (B false), sk 86 (B false), sk 86 (B false), rp [(.tmp 86, B false), (.tmp 93, (.lit undef)), cb false] (B false), mv 94 (B false), sk 95 (B false), rp [(.tmp 95, B false), (.tmp 96, (.lit undef)), cb false] (B false), mv 97 (B false)] ?_ ?_
      ·exact ⟨amv rfl, abn rfl rfl, asb hb23 (amv rfl), ag_ (amv rfl), ag_ (abn rfl rfl), apk rfl rfl, asb hb24 (amv rfl), ag_ (amv rfl), ag_ (abn rfl rfl), apk rfl rfl, asb hb25 (amv rfl), trivial, trivial, apk rfl rfl, amv rfl, trivial, trivial, apk rfl rfl, amv rfl, trivial, trivial, trivial, apk rfl rfl, amv rfl, trivial, trivial, trivial, apk rfl rfl, amv rfl, trivial, trivial, trivial, trivial, trivial, trivial, trivial, apk rfl rfl, amv rfl, trivial, apk rfl rfl, aas rfl, trivial⟩
      refine awp_ret ?_
      obtain rfl := osi h
      exact ⟨⟨[B false], ⟨rot (by kernel_rfl), trivial⟩, rfl⟩, nll, Nat.le_refl _, fun n hn => absurd hn (Nat.not_lt_zero n)⟩
    ·replace h := bif_f hb24 h
     refine wrg [mv 7 (I x10.2), rp [(.tmp 58, I x10.2), ci 0] (B ((x10.2 == 0))), rp [(.tmp 59, (B ((x10.2 == 0))))] (B true), rp [(.tmp 60, B true), (.tmp 9, I x14.2)] (I x14.2), rp [(.tmp 60, B true), (.tmp 61, I x14.2), ci 0] (B ((x14.2 == 0))), rp [(.tmp 60, B true), (.tmp 62, (B ((x14.2 == 0)))), cb false] (B ((x14.2 == 0))), rp [(.tmp 63, (B ((x14.2 == 0))))] (B false), sk 64 (B false), sk 64 (B false), rp [(.tmp 64, B false), (.tmp 66, (.lit undef)), cb false] (B false), mv 67 (B false), sk 68 (B false), sk 68 (B false), rp [(.tmp 68, B false), (.tmp 70, (.lit undef)), cb false] (B false), mv 71 (B false), sk 72 (B false), sk 72 (B false), rp [(.tmp 72, B false), (.tmp 74, (.lit undef)), cb false] (B false), mv 75 (B false), sk 76 (B false), sk 76 (B false), sk 76 (B false), rp [(.tmp 76, B false), (.tmp 79, (.lit undef)), cb false] (B false), mv 80 (B false), sk 81 (B false), sk 81 (B false), sk 81 (B false), rp [(.tmp 81, B false), (.tmp 84, (.lit undef)), cb false] (B false), mv 85 (B false), sk 86 (B false), sk 86 (B false), sk 86 (B false), sk 86 (B false), sk 86 (B false), sk 86 (B false), sk 86 (B false), rp [(.tmp 86, B false), (.tmp 93, (.lit undef)), cb false] (B false), mv 94 (B false), sk 95 (B false), rp [(.tmp 95, B false), (.tmp 96, (.lit undef)), cb false] (B false), mv 97 (B false)] ?_ ?_
     ·exact ⟨amv rfl, abn rfl rfl, asb hb23 (amv rfl), ag_ (amv rfl), ag_ (abn rfl rfl), apk rfl rfl, asb hb24 (amv rfl), trivial, trivial, apk rfl rfl, amv rfl, trivial, trivial, apk rfl rfl, amv rfl, trivial, trivial, apk rfl rfl, amv rfl, trivial, trivial, trivial, apk rfl rfl, amv rfl, trivial, trivial, trivial, apk rfl rfl, amv rfl, trivial, trivial, trivial, trivial, trivial, trivial, trivial, apk rfl rfl, amv rfl, trivial, apk rfl rfl, aas rfl, trivial⟩
     refine awp_ret ?_
     obtain rfl := osi h
     exact ⟨⟨[B false], ⟨rot (by kernel_rfl), trivial⟩, rfl⟩, nll, Nat.le_refl _, fun n hn => absurd hn (Nat.not_lt_zero n)⟩
   ·replace h := bif_f hb23 h
    refine wrg [mv 7 (I x10.2), rp [(.tmp 58, I x10.2), ci 0] (B ((x10.2 == 0))), rp [(.tmp 59, (B ((x10.2 == 0))))] (B false), sk 60 (B false), sk 60 (B false), rp [(.tmp 60, B false), (.tmp 62, (.lit undef)), cb false] (B false), mv 63 (B false), sk 64 (B false), sk 64 (B false), rp [(.tmp 64, B false), (.tmp 66, (.lit undef)), cb false] (B false), mv 67 (B false), sk 68 (B false), sk 68 (B false), rp [(.tmp 68, B false), (.tmp 70, (.lit undef)), cb false] (B false), mv 71 (B false), sk 72 (B false), sk 72 (B false), rp [(.tmp 72, B false), (.tmp 74, (.lit undef)), cb false] (B false), mv 75 (B false), sk 76 (B false), sk 76 (B false), sk 76 (B false), rp [(.tmp 76, B false), (.tmp 79, (.lit undef)), cb false] (B false), mv 80 (B false), sk 81 (B false), sk 81 (B false), sk 81 (B false), rp [(.tmp 81, B false), (.tmp 84, (.lit undef)), cb false] (B false), mv 85 (B false), sk 86 (B false), sk 86 (B false), sk 86 (B false), sk 86 (B false), sk 86 (B false), sk 86 (B false), sk 86 (B false), rp [(.tmp 86, B false), (.tmp 93, (.lit undef)), cb false] (B false), mv 94 (B false), sk 95 (B false), rp [(.tmp 95, B false), (.tmp 96, (.lit undef)), cb false] (B false), mv 97 (B false)] ?_ ?_
    ·exact ⟨amv rfl, abn rfl rfl, asb hb23 (amv rfl), trivial, trivial, apk rfl rfl, amv rfl, trivial, trivial, apk rfl rfl, amv rfl, trivial, trivial, apk rfl rfl, amv rfl, trivial, trivial, apk rfl rfl, amv rfl, trivial, trivial, trivial, apk rfl rfl, amv rfl, trivial, trivial, trivial, apk rfl rfl, amv rfl, trivial, trivial, trivial, trivial, trivial, trivial, trivial, apk rfl rfl, amv rfl, trivial, apk rfl rfl, aas rfl, trivial⟩
    refine awp_ret ?_
    obtain rfl := osi h
    exact ⟨⟨[B false], ⟨rot (by kernel_rfl), trivial⟩, rfl⟩, nll, Nat.le_refl _, fun n hn => absurd hn (Nat.not_lt_zero n)⟩
  ·skip
   obtain ⟨x34, hf33, h⟩ := bno h
   rcases bft ((!x34)) with hb35 | hb35
   ·replace h := bif_t hb35 h
    refine wrg [rb [(.tmp 2, .ref 0 2 0 0)] [(0, (.own 2 [[I p0.Inlet, (z79_0 p0)]]))] (.agg [I p0.Inlet, (z79_0 p0)]), rp [fu 15, (.tmp 14, (.agg [I p0.Inlet, (z79_0 p0)]))] (B x34), rp [(.tmp 15, B x34)] (B ((!x34))), rp [(.tmp 16, (B ((!x34))))] (B true), sk 17 (B true), sk 17 (B true), sk 17 (B true), rp [(.tmp 17, B true), cb true, (.tmp 20, (.lit undef))] (B true)] ?_ ?_
    ·exact ⟨ald rfl ti24 (by decide) rfl (nle rfl) rfl, apc (first := []) (cap := []) (vs := [(.agg [I p0.Inlet, (z79_0 p0)])]) rfl enter15 (ref07_RightX_ok N p0 _ hf33) rfl rfl (nlc (NLt.agg _ (nlc nll (nlc (nld nl_GPart _) nl0))) nl0) nll rfl, astep_not rfl, asb hb35 (amv rfl), trivial, trivial, trivial, apk rfl rfl, trivial⟩
    refine awp_true (by kernel_rfl) ?_
    obtain ⟨x37, hf36, h⟩ := bno h
    refine wrg [rp [fu 17] (B x37), mv 22 (B x37)] ?_ ?_
    ·exact ⟨apc (first := []) (cap := []) (vs := []) rfl enter17 (law07_awakeX_ok 2000  _ hf36) rfl rfl nl0 nll rfl, aas rfl, trivial⟩
    refine awp_ret ?_
    refine thenA_r ?_
    obtain rfl := osi h
    exact ⟨⟨[B x37], ⟨rot (by kernel_rfl), trivial⟩, rfl⟩, nll, Nat.le_refl _, fun n hn => absurd hn (Nat.not_lt_zero n)⟩
   ·replace h := bif_f hb35 h
    obtain ⟨x39, hf38, h⟩ := bno h
    refine wrg [rb [(.tmp 2, .ref 0 2 0 0)] [(0, (.own 2 [[I p0.Inlet, (z79_0 p0)]]))] (.agg [I p0.Inlet, (z79_0 p0)]), rp [fu 15, (.tmp 14, (.agg [I p0.Inlet, (z79_0 p0)]))] (B x34), rp [(.tmp 15, B x34)] (B ((!x34))), rp [(.tmp 16, (B ((!x34))))] (B false), rb [(.tmp 17, B false), (.tmp 2, .ref 0 2 0 0)] [(0, (.own 2 [[I p0.Inlet, (z79_0 p0)]]))] (.agg [I p0.Inlet, (z79_0 p0)]), rp [(.tmp 17, B false), fu 16, (.tmp 18, (.agg [I p0.Inlet, (z79_0 p0)]))] (I x39), rp [(.tmp 17, B false), (.tmp 19, I x39), ci 2] (B ((decide (x39 < 2)))), rp [(.tmp 17, B false), cb true, (.tmp 20, (B ((decide (x39 < 2)))))] (B ((decide (x39 < 2))))] ?_ ?_
    ·exact ⟨ald rfl ti24 (by decide) rfl (nle rfl) rfl, apc (first := []) (cap := []) (vs := [(.agg [I p0.Inlet, (z79_0 p0)])]) rfl enter15 (ref07_RightX_ok N p0 _ hf33) rfl rfl (nlc (NLt.agg _ (nlc nll (nlc (nld nl_GPart _) nl0))) nl0) nll rfl, astep_not rfl, asb hb35 (amv rfl), ag_ (ald rfl ti24 (by decide) rfl (nle rfl) rfl), ag_ (apc (first := []) (cap := []) (vs := [(.agg [I p0.Inlet, (z79_0 p0)])]) rfl enter16 (ref07_CapacityX_ok N p0 _ hf38) rfl rfl (nlc (NLt.agg _ (nlc nll (nlc (nld nl_GPart _) nl0))) nl0) nll rfl), ag_ (abn rfl rfl), apk rfl rfl, trivial⟩
    rcases bft ((decide (x39 < 2))) with hc40 | hc40
    ·replace h := bif_t hc40 h
     refine wft hc40 (by kernel_rfl) ?_
     obtain ⟨x42, hf41, h⟩ := bno h
     refine wrg [rp [fu 17] (B x42), mv 22 (B x42)] ?_ ?_
     ·exact ⟨apc (first := []) (cap := []) (vs := []) rfl enter17 (law07_awakeX_ok 2000  _ hf41) rfl rfl nl0 nll rfl, aas rfl, trivial⟩
     refine awp_ret ?_
     refine thenA_r ?_
     obtain rfl := osi h
     exact ⟨⟨[B x42], ⟨rot (by kernel_rfl), trivial⟩, rfl⟩, nll, Nat.le_refl _, fun n hn => absurd hn (Nat.not_lt_zero n)⟩
    ·replace h := bif_f hc40 h
     refine wfn hc40 (by kernel_rfl) ?_
     refine awp_skip ?_
     refine thn ?_
     exact ⟨(), h, (mto (n := 98) [(1, (K .u32 (p1))), (2, .ref 0 2 0 0)] [0] [(.own 2 [[I p0.Inlet, (z79_0 p0)]])] hφ0 (pc rwl (pc (.rn (rqr rfl)) pn)) (qc (spb (lc rwl (lc (.rn (.plain _ (nld nl_GPart _))) ln))) qn))⟩

end Go.Proofs.Ytlhakkkjgdbdpaa
