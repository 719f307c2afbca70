/-
  Functions of the program: what they compute, as plain functions, and that they do. No conditions.
-/
import Derived.Test.YtlhakkkjgdbdpaaX6
namespace Go.Proofs.Ytlhakkkjgdbdpaa
open Go.RowKit

def law07_PlantPowersX (N : Nat) (p0 : GUnit) (p1 : Int) : Option Bool :=
  (law07_smallX N p0).bind fun x2 =>
  bif (!x2) then
   (law07_awakeX 2000 ).bind fun x5 =>
   some x5
  else
   (law07_UnitX N p0).bind fun x7 =>
   (plant_PowerX N x7 p1).bind fun x9 =>
   (ref07_RightX N p0).bind fun x11 =>
   bif (!x11) then
    (law07_UnitX N p0).bind fun x14 =>
    (plant_CheckUnitX N x14).bind fun x16 =>
    bif (x16 == 1) then
     bif (x9.2 == 1) then
      bif (x9.1 == 0) then
       (law07_awakeX 2000 ).bind fun x21 =>
       some x21
      else
       some false
     else
      some false
    else
     some false
   else
    (law07_UnitX N p0).bind fun x23 =>
    (plant_CheckUnitX N x23).bind fun x25 =>
    bif (x25 != 0) then
     some false
    else
     (ref07_CapacityX N p0).bind fun x28 =>
     (ref01_InX N p1 0 x28).bind fun x30 =>
     bif (!x30) then
      bif (x9.2 == 2) then
       bif (x9.1 == 0) then
        (law07_awakeX 2000 ).bind fun x35 =>
        some x35
       else
        some false
      else
       some false
     else
      bif (x9.2 == 0) then
       (ref07_PowerX N p0 p1).bind fun x38 =>
       bif (x9.1 == x38) then
        (law07_awakeX 2000 ).bind fun x41 =>
        some x41
       else
        some false
      else
       some false
def z80_0 (p0 : GUnit) : AV := .dat 2 ((p0.Parts : List GPart).map c_GPart)
def z80_1 (x7 : GUnit) : AV := .dat 2 ((x7.Parts : List GPart).map c_GPart)
def z80_2 (x14 : GUnit) : AV := .dat 2 ((x14.Parts : List GPart).map c_GPart)
def z80_3 (x23 : GUnit) : AV := .dat 2 ((x23.Parts : List GPart).map c_GPart)
set_option maxRecDepth 100000 in
set_option maxHeartbeats 4000000 in
theorem law07_PlantPowersX_ok (N : Nat) (p0 : GUnit) (p1 : Int) (r : Bool) (h : law07_PlantPowersX N p0 p1 = some r) : Spec Try.prog 5 [(.agg (c_GUnit p0)), (I p1)] [] (B r) [] := by
  refine spec_of_awp Try.func5 rfl 0 (nle rfl) (fun X φ0 w0 hφ0 => ?_)
  unfold law07_PlantPowersX at h
  refine wrg [⟨[(.tmp 0, (.agg [I p0.Inlet, (z80_0 p0)]))], [(0, .unused)], .ref 0 2 0 0, [(0, (.own 2 [[I p0.Inlet, (z80_0 p0)]]))], false⟩, mc (.bool false)] ?_ ?_
  ·exact ⟨astep_box rfl (by rfl) rfl rfl, aas rfl, trivial⟩
  refine wsq ?_
  obtain ⟨x2, hf1, h⟩ := bno h
  refine wrg [rb [(.tmp 2, .ref 0 2 0 0)] [(0, (.own 2 [[I p0.Inlet, (z80_0 p0)]]))] (.agg [I p0.Inlet, (z80_0 p0)]), rp [fu 23, (.tmp 7, (.agg [I p0.Inlet, (z80_0 p0)]))] (B x2), rp [(.tmp 8, B x2)] (B ((!x2)))] ?_ ?_
  ·exact ⟨ald rfl ti24 (by decide) rfl (nle rfl) rfl, apc (first := []) (cap := []) (vs := [(.agg [I p0.Inlet, (z80_0 p0)])]) rfl enter23 (law07_smallX_ok N p0 _ hf1) rfl rfl (nlc (NLt.agg _ (nlc nll (nlc (nld nl_GPart _) nl0))) nl0) nll rfl, astep_not rfl, trivial⟩
  rcases bft ((!x2)) with hc3 | hc3
  ·replace h := bif_t hc3 h
   refine wft hc3 (by kernel_rfl) ?_
   obtain ⟨x5, hf4, h⟩ := bno h
   refine wrg [rp [fu 17] (B x5), mv 10 (B x5)] ?_ ?_
   ·exact ⟨apc (first := []) (cap := []) (vs := []) rfl enter17 (law07_awakeX_ok 2000  _ hf4) rfl rfl nl0 nll rfl, aas rfl, trivial⟩
   refine awp_ret ?_
   refine thenA_r ?_
   obtain rfl := osi h
   exact ⟨⟨[B x5], ⟨rot (by kernel_rfl), trivial⟩, rfl⟩, nll, Nat.le_refl _, fun n hn => absurd hn (Nat.not_lt_zero n)⟩
  ·replace h := bif_f hc3 h
   refine wfn hc3 (by kernel_rfl) ?_
   refine awp_skip ?_
   refine thn ?_
   obtain ⟨x7, hf6, h⟩ := bno h
   obtain ⟨x9, hf8, h⟩ := bno h
   refine wrg [rb [(.tmp 2, .ref 0 2 0 0)] [(0, (.own 2 [[I p0.Inlet, (z80_0 p0)]]))] (.agg [I p0.Inlet, (z80_0 p0)]), rp [fu 19, (.tmp 12, (.agg [I p0.Inlet, (z80_0 p0)]))] (.agg [I x7.Inlet, (z80_1 x7)]), mv 1 (I p1), rp [fu 18, (.tmp 13, (.agg [I x7.Inlet, (z80_1 x7)])), (.tmp 14, I p1)] (.tup [I x9.1, I x9.2]), mv 15 (.tup [I x9.1, I x9.2]), rp [(.tmp 11, (.tup [I x9.1, I x9.2]))] (I x9.1), rp [(.tmp 11, (.tup [I x9.1, I x9.2]))] (I x9.2), mv 16 (I x9.1), mv 17 (I x9.2)] ?_ ?_
   ·exact ⟨ald rfl ti24 (by decide) rfl (nle rfl) rfl, apc (first := []) (cap := []) (vs := [(.agg [I p0.Inlet, (z80_0 p0)])]) rfl enter19 (law07_UnitX_ok N p0 _ hf6) rfl rfl (nlc (NLt.agg _ (nlc nll (nlc (nld nl_GPart _) nl0))) nl0) (NLt.agg _ (nlc nll (nlc (nld nl_GPart _) nl0))) rfl, amv rfl, apc (first := []) (cap := []) (vs := [(.agg [I x7.Inlet, (z80_1 x7)]), I p1]) rfl enter18 (plant_PowerX_ok N x7 p1 _ hf8) rfl rfl (nlc (NLt.agg _ (nlc nll (nlc (nld nl_GPart _) nl0))) (nlc nll nl0)) (NLt.tup _ (nlc nll (nlc nll nl0))) rfl, amv rfl, astep_extract rfl rfl, astep_extract rfl rfl, aas rfl, aas rfl, trivial⟩
   refine wsq ?_
   obtain ⟨x11, hf10, h⟩ := bno h
   refine wrg [rb [(.tmp 2, .ref 0 2 0 0)] [(0, (.own 2 [[I p0.Inlet, (z80_0 p0)]]))] (.agg [I p0.Inlet, (z80_0 p0)]), rp [fu 15, (.tmp 18, (.agg [I p0.Inlet, (z80_0 p0)]))] (B x11), rp [(.tmp 19, B x11)] (B ((!x11)))] ?_ ?_
   ·exact ⟨ald rfl ti24 (by decide) rfl (nle rfl) rfl, apc (first := []) (cap := []) (vs := [(.agg [I p0.Inlet, (z80_0 p0)])]) rfl enter15 (ref07_RightX_ok N p0 _ hf10) rfl rfl (nlc (NLt.agg _ (nlc nll (nlc (nld nl_GPart _) nl0))) nl0) nll rfl, astep_not rfl, trivial⟩
   rcases bft ((!x11)) with hc12 | hc12
   ·replace h := bif_t hc12 h
    refine wft hc12 (by kernel_rfl) ?_
    obtain ⟨x14, hf13, h⟩ := bno h
    obtain ⟨x16, hf15, h⟩ := bno h
    rcases bft ((x16 == 1)) with hb17 | hb17
    ·replace h := bif_t hb17 h
     rcases bft ((x9.2 == 1)) with hb18 | hb18
     ·replace h := bif_t hb18 h
      rcases bft ((x9.1 == 0)) with hb19 | hb19
      ·replace h := bif_t hb19 h
       obtain ⟨x21, hf20, h⟩ := bno h
       refine wrg [rb [(.tmp 2, .ref 0 2 0 0)] [(0, (.own 2 [[I p0.Inlet, (z80_0 p0)]]))] (.agg [I p0.Inlet, (z80_0 p0)]), rp [fu 19, (.tmp 21, (.agg [I p0.Inlet, (z80_0 p0)]))] (.agg [I x14.Inlet, (z80_2 x14)]), rp [fu 24, (.tmp 22, (.agg [I x14.Inlet, (z80_2 x14)]))] (I x16), rp [(.tmp 23, I x16), ci 1] (B ((x16 == 1))), rp [(.tmp 24, (B ((x16 == 1))))] (B true), rp [(.tmp 25, B true), (.tmp 6, I x9.2)] (I x9.2), rp [(.tmp 25, B true), (.tmp 26, I x9.2), ci 1] (B ((x9.2 == 1))), rp [(.tmp 25, B true), (.tmp 27, (B ((x9.2 == 1)))), cb false] (B ((x9.2 == 1))), rp [(.tmp 28, (B ((x9.2 == 1))))] (B true), rp [(.tmp 29, B true), (.tmp 5, I x9.1)] (I x9.1), rp [(.tmp 29, B true), (.tmp 30, I x9.1), ci 0] (B ((x9.1 == 0))), rp [(.tmp 29, B true), (.tmp 31, (B ((x9.1 == 0)))), cb false] (B ((x9.1 == 0))), rp [(.tmp 32, (B ((x9.1 == 0))))] (B true), rp [(.tmp 33, B true), fu 17] (B x21), rp [(.tmp 33, B true), (.tmp 34, B x21), cb false] (B x21), mv 35 (B x21)] ?_ ?_
       ·exact ⟨ald rfl ti24 (by decide) rfl (nle rfl) rfl, apc (first := []) (cap := []) (vs := [(.agg [I p0.Inlet, (z80_0 p0)])]) rfl enter19 (law07_UnitX_ok N p0 _ hf13) rfl rfl (nlc (NLt.agg _ (nlc nll (nlc (nld nl_GPart _) nl0))) nl0) (NLt.agg _ (nlc nll (nlc (nld nl_GPart _) nl0))) rfl, apc (first := []) (cap := []) (vs := [(.agg [I x14.Inlet, (z80_2 x14)])]) rfl enter24 (plant_CheckUnitX_ok N x14 _ hf15) rfl rfl (nlc (NLt.agg _ (nlc nll (nlc (nld nl_GPart _) nl0))) nl0) nll rfl, abn rfl rfl, asb hb17 (amv rfl), ag_ (amv rfl), ag_ (abn rfl rfl), apk rfl rfl, asb hb18 (amv rfl), ag_ (amv rfl), ag_ (abn rfl rfl), apk rfl rfl, asb hb19 (amv rfl), ag_ (apc (first := []) (cap := []) (vs := []) rfl enter17 (law07_awakeX_ok 2000  _ hf20) rfl rfl nl0 nll rfl), apk rfl rfl, aas rfl, trivial⟩
       refine awp_ret ?_
       refine thenA_r ?_
       obtain rfl := osi h
       exact ⟨⟨[B x21], ⟨rot (by kernel_rfl), trivial⟩, rfl⟩, nll, Nat.le_refl _, fun n hn => absurd hn (Nat.not_lt_zero n)⟩
      ·replace h := bif_f hb19 h
       refine wrg [rb [(.tmp 2, .ref 0 2 0 0)] [(0, (.own 2 [[I p0.Inlet, (z80_0 p0)]]))] (.agg [I p0.Inlet, (z80_0 p0)]), rp [fu 19, (.tmp 21, (.agg [I p0.Inlet, (z80_0 p0)]))] (.agg [I x14.Inlet, (z80_2 x14)]), rp [fu 24, (.tmp 22, (.agg [I x14.Inlet, (z80_2 x14)]))] (I x16), rp [(.tmp 23, I x16), ci 1] (B ((x16 == 1))), rp [(.tmp 24, (B ((x16 == 1))))] (B true), rp [(.tmp 25, B true), (.tmp 6, I x9.2)] (I x9.2), rp [(.tmp 25, B true), (.tmp 26, I x9.2), ci 1] (B ((x9.2 == 1))), rp [(.tmp 25, B true), (.tmp 27, (B ((x9.2 == 1)))), cb false] (B ((x9.2 == 1))), rp [(.tmp 28, (B ((x9.2 == 1))))] (B true), rp [(.tmp 29, B true), (.tmp 5, I x9.1)] (I x9.1), rp [(.tmp 29, B true), (.tmp 30, I x9.1), ci 0] (B ((x9.1 == 0))), rp [(.tmp 29, B true), (.tmp 31, (B ((x9.1 == 0)))), cb false] (B ((x9.1 == 0))), rp [(.tmp 32, (B ((x9.1 == 0))))] (B false), sk 33 (B false), rp [(.tmp 33, B false), (.tmp 34, (.lit undef)), cb false] (B false), mv 35 (B false)] ?_ ?_
       ·exact ⟨ald rfl ti24 (by decide) rfl (nle rfl) rfl, apc (first := []) (cap := []) (vs := [(.agg [I p0.Inlet, (z80_0 p0)])]) rfl enter19 (law07_UnitX_ok N p0 _ hf13) rfl rfl (nlc (NLt.agg _ (nlc nll (nlc (nld nl_GPart _) nl0))) nl0) (NLt.agg _ (nlc nll (nlc (nld nl_GPart _) nl0))) rfl, apc (first := []) (cap := []) (vs := [(.agg [I x14.Inlet, (z80_2 x14)])]) rfl enter24 (plant_CheckUnitX_ok N x14 _ hf15) rfl rfl (nlc (NLt.agg _ (nlc nll (nlc (nld nl_GPart _) nl0))) nl0) nll rfl, abn rfl rfl, asb hb17 (amv rfl), ag_ (amv rfl), ag_ (abn rfl rfl), apk rfl rfl, asb hb18 (amv rfl), ag_ (amv rfl), ag_ (abn rfl rfl), apk rfl rfl, asb hb19 (amv rfl), trivial, apk rfl rfl, aas rfl, trivial⟩
       refine awp_ret ?_
       refine thenA_r ?_
       obtain rfl := osi h
       exact ⟨⟨[B false], ⟨rot (by kernel_rfl), trivial⟩, rfl⟩, nll, Nat.le_refl _, fun n hn => absurd hn (Nat.not_lt_zero n)⟩
     ·replace h := bif_f hb18 h
      refine wrg [rb [(.tmp 2, .ref 0 2 0 0)] [(0, (.own 2 [[I p0.Inlet, (z80_0 p0)]]))] (.agg [I p0.Inlet, (z80_0 p0)]), rp [fu 19, (.tmp 21, (.agg [I p0.Inlet, (z80_0 p0)]))] (.agg [I x14.Inlet, (z80_2 x14)]), rp [fu 24, (.tmp 22, (.agg [I x14.Inlet, (z80_2 x14)]))] (I x16), rp [(.tmp 23, I x16), ci 1] (B ((x16 == 1))), rp [(.tmp 24, (B ((x16 == 1))))] (B true), rp [(.tmp 25, B true), (.tmp 6, I x9.2)] (I x9.2), rp [(.tmp 25, B true), (.tmp 26, I x9.2), ci 1] (B ((x9.2 == 1))), rp [(.tmp 25, B true), (.tmp 27, (B ((x9.2 == 1)))), cb false] (B ((x9.2 == 1))), rp [(.tmp 28, (B ((x9.2 == 1))))] (B false), sk 29 (B false), sk 29 (B false), rp [(.tmp 29, B false), (.tmp 31, (.lit undef)), cb false] (B false), mv 32 (B false), sk 33 (B false), rp [(.tmp 33, B false), (.tmp 34, (.lit undef)), cb false] (B false), mv 35 (B false)] ?_ ?_
      ·exact ⟨ald rfl ti24 (by decide) rfl (nle rfl) rfl, apc (first := []) (cap := []) (vs := [(.agg [I p0.Inlet, (z80_0 p0)])]) rfl enter19 (law07_UnitX_ok N p0 _ hf13) rfl rfl (nlc (NLt.agg _ (nlc nll (nlc (nld nl_GPart _) nl0))) nl0) (NLt.agg _ (nlc nll (nlc (nld nl_GPart _) nl0))) rfl, apc (first := []) (cap := []) (vs := [(.agg [I x14.Inlet, (z80_2 x14)])]) rfl enter24 (plant_CheckUnitX_ok N x14 _ hf15) rfl rfl (nlc (NLt.agg _ (nlc nll (nlc (nld nl_GPart _) nl0))) nl0) nll rfl, abn rfl rfl, asb hb17 (amv rfl), ag_ (amv rfl), ag_ (abn rfl rfl), apk rfl rfl, asb hb18 (amv rfl), trivial, trivial, apk rfl rfl, amv rfl, trivial, apk rfl rfl, aas rfl, trivial⟩
      refine awp_ret ?_
      refine thenA_r ?_
      obtain rfl := osi h
      exact ⟨⟨[B false], ⟨rot (by kernel_rfl), trivial⟩, rfl⟩, nll, Nat.le_refl _, fun n hn => absurd hn (Nat.not_lt_zero n)⟩
    ·replace h := bif_f hb17 h
     refine wrg [rb [(.tmp 2, .ref 0 2 0 0)] [(0, (.own 2 [[I p0.Inlet, (z80_0 p0)]]))] (.agg [I p0.Inlet, (z80_0 p0)]), rp [fu 19, (.tmp 21, (.agg [I p0.Inlet, (z80_0 p0)]))] (.agg [I x14.Inlet, (z80_2 x14)]), rp [fu 24, (.tmp 22, (.agg [I x14.Inlet, (z80_2 x14)]))] (I x16), rp [(.tmp 23, I x16), ci 1] (B ((x16 == 1))), rp [(.tmp 24, (B ((x16 == 1))))] (B false), sk 25 (B false), sk 25 (B false), rp [(.tmp 25, B false), (.tmp 27, (.lit undef)), cb false] (B false), mv 28 (B false), sk 29 (B false), sk 29 (B false), rp [(.tmp 29, B false), (.tmp 31, (.lit undef)), cb false] (B false), mv 32 (B false), sk 33 (B false), rp [(.tmp 33, B false), (.tmp 34, (.lit undef)), cb false] (B false), mv 35 (B false)] ?_ ?_
     ·exact ⟨ald rfl ti24 (by decide) rfl (nle rfl) rfl, apc (first := []) (cap := []) (vs := [(.agg [I p0.Inlet, (z80_0 p0)])]) rfl enter19 (law07_UnitX_ok N p0 _ hf13) rfl rfl (nlc (NLt.agg _ (nlc nll (nlc (nld nl_GPart _) nl0))) nl0) (NLt.agg _ (nlc nll (nlc (nld nl_GPart _) nl0))) rfl, apc (first := []) (cap := []) (vs := [(.agg [I x14.Inlet, (z80_2 x14)])]) rfl enter24 (plant_CheckUnitX_ok N x14 _ hf15) rfl rfl (nlc (NLt.agg _ (nlc nll (nlc (nld nl_GPart _) nl0))) nl0) nll rfl, abn rfl rfl, asb hb17 (amv rfl), trivial, trivial, apk rfl rfl, amv rfl, trivial, trivial, apk rfl rfl, amv rfl, trivial, apk rfl rfl, aas rfl, trivial⟩
     refine awp_ret ?_
     refine thenA_r ?_
     obtain rfl := osi h
     exact ⟨⟨[B false], ⟨rot (by kernel_rfl), trivial⟩, rfl⟩, nll, Nat.le_refl _, fun n hn => absurd hn (Nat.not_lt_zero n)⟩
   ·replace h := bif_f hc12 h
    refine wfn hc12 (by kernel_rfl) ?_
    refine awp_skip ?_
    refine thn ?_
    refine wsq ?_
    obtain ⟨x23, hf22, h⟩ := bno h
    obtain ⟨x25, hf24, h⟩ := bno h
    refine wrg [rb [(.tmp 2, .ref 0 2 0 0)] [(0, (.own 2 [[I p0.Inlet, (z80_0 p0)]]))] (.agg [I p0.Inlet, (z80_0 p0)]), rp [fu 19, (.tmp 36, (.agg [I p0.Inlet, (z80_0 p0)]))] (.agg [I x23.Inlet, (z80_3 x23)]), rp [fu 24, (.tmp 37, (.agg [I x23.Inlet, (z80_3 x23)]))] (I x25), rp [(.tmp 38, I x25), ci 0] (B ((x25 != 0)))] ?_ ?_
    ·exact ⟨ald rfl ti24 (by decide) rfl (nle rfl) rfl, apc (first := []) (cap := []) (vs := [(.agg [I p0.Inlet, (z80_0 p0)])]) rfl enter19 (law07_UnitX_ok N p0 _ hf22) rfl rfl (nlc (NLt.agg _ (nlc nll (nlc (nld nl_GPart _) nl0))) nl0) (NLt.agg _ (nlc nll (nlc (nld nl_GPart _) nl0))) rfl, apc (first := []) (cap := []) (vs := [(.agg [I x23.Inlet, (z80_3 x23)])]) rfl enter24 (plant_CheckUnitX_ok N x23 _ hf24) rfl rfl (nlc (NLt.agg _ (nlc nll (nlc (nld nl_GPart _) nl0))) nl0) nll rfl, abn rfl rfl, trivial⟩
    rcases bft ((x25 != 0)) with hc26 | hc26
    ·replace h := bif_t hc26 h
     refine wft hc26 (by kernel_rfl) ?_
     refine wrg [mc (.bool false)] ?_ ?_
     ·exact ⟨aas rfl, trivial⟩
     refine awp_ret ?_
     refine thenA_r ?_
     obtain rfl := osi h
     exact ⟨⟨[B false], ⟨rot (by kernel_rfl), trivial⟩, rfl⟩, nll, Nat.le_refl _, fun n hn => absurd hn (Nat.not_lt_zero n)⟩
    ·replace h := bif_f hc26 h
     refine wfn hc26 (by kernel_rfl) ?_
     refine awp_skip ?_
     refine thn ?_
     refine wsq ?_
     obtain ⟨x28, hf27, h⟩ := bno h
     obtain ⟨x30, hf29, h⟩ := bno h
     refine wrg [mv 1 (I p1), rb [(.tmp 2, .ref 0 2 0 0)] [(0, (.own 2 [[I p0.Inlet, (z80_0 p0)]]))] (.agg [I p0.Inlet, (z80_0 p0)]), rp [fu 16, (.tmp 41, (.agg [I p0.Inlet, (z80_0 p0)]))] (I x28), rp [fu 25, (.tmp 40, I p1), ci 0, (.tmp 42, I x28)] (B x30), rp [(.tmp 43, B x30)] (B ((!x30)))] ?_ ?_
     ·exact ⟨amv rfl, ald rfl ti24 (by decide) rfl (nle rfl) rfl, apc (first := []) (cap := []) (vs := [(.agg [I p0.Inlet, (z80_0 p0)])]) rfl enter16 (ref07_CapacityX_ok N p0 _ hf27) rfl rfl (nlc (NLt.agg _ (nlc nll (nlc (nld nl_GPart _) nl0))) nl0) nll rfl, apc (first := []) (cap := []) (vs := [I p1, I 0, I x28]) rfl enter25 (ref01_InX_ok N p1 0 x28 _ hf29) rfl rfl (nlc nll (nlc nll (nlc nll nl0))) nll rfl, astep_not rfl, trivial⟩
     rcases bft ((!x30)) with hc31 | hc31
     ·replace h := bif_t hc31 h
      refine wft hc31 (by kernel_rfl) ?_
      rcases bft ((x9.2 == 2)) with hb32 | hb32
      ·replace h := bif_t hb32 h
       rcases bft ((x9.1 == 0)) with hb33 | hb33
       ·replace h := bif_t hb33 h
        obtain ⟨x35, hf34, h⟩ := bno h
        refine wrg [mv 6 (I x9.2), rp [(.tmp 45, I x9.2), ci 2] (B ((x9.2 == 2))), rp [(.tmp 46, (B ((x9.2 == 2))))] (B true), rp [(.tmp 47, B true), (.tmp 5, I x9.1)] (I x9.1), rp [(.tmp 47, B true), (.tmp 48, I x9.1), ci 0] (B ((x9.1 == 0))), rp [(.tmp 47, B true), (.tmp 49, (B ((x9.1 == 0)))), cb false] (B ((x9.1 == 0))), rp [(.tmp 50, (B ((x9.1 == 0))))] (B true), rp [(.tmp 51, B true), fu 17] (B x35), rp [(.tmp 51, B true), (.tmp 52, B x35), cb false] (B x35), mv 53 (B x35)] ?_ ?_
        ·exact ⟨amv rfl, abn rfl rfl, asb hb32 (amv rfl), ag_ (amv rfl), ag_ (abn rfl rfl), apk rfl rfl, asb hb33 (amv rfl), ag_ (apc (first := []) (cap := []) (vs := []) rfl enter17 (law07_awakeX_ok 2000  _ hf34) rfl rfl nl0 nll rfl), apk rfl rfl, aas rfl, trivial⟩
        refine awp_ret ?_
        refine thenA_r ?_
        obtain rfl := osi h
        exact ⟨⟨[B x35], ⟨rot (by kernel_rfl), trivial⟩, rfl⟩, nll, Nat.le_refl _, fun n hn => absurd hn (Nat.not_lt_zero n)⟩
       ·replace h := bif_f hb33 h
        refine wrg [mv 6 (I x9.2), rp [(.tmp 45, I x9.2), ci 2] (B ((x9.2 == 2))), rp [(.tmp 46, (B ((x9.2 == 2))))] (B true), rp [(.tmp 47, B true), (.tmp 5, I x9.1)] (I x9.1), rp [(.tmp 47, B true), (.tmp 48, I x9.1), ci 0] (B ((x9.1 == 0))), rp [(.tmp 47, B true), (.tmp 49, (B ((x9.1 == 0)))), cb false] (B ((x9.1 == 0))), rp [(.tmp 50, (B ((x9.1 == 0))))] (B false), sk 51 (B false), rp [(.tmp 51, B false), (.tmp 52, (.lit undef)), cb false] (B false), mv 53 (B false)] ?_ ?_
        ·exact ⟨amv rfl, abn rfl rfl, asb hb32 (amv rfl), ag_ (amv rfl), ag_ (abn rfl rfl), apk rfl rfl, asb hb33 (amv rfl), trivial, apk rfl rfl, aas rfl, trivial⟩
        refine awp_ret ?_
        refine thenA_r ?_
        obtain rfl := osi h
        exact ⟨⟨[B false], ⟨rot (by kernel_rfl), trivial⟩, rfl⟩, nll, Nat.le_refl _, fun n hn => absurd hn (Nat.not_lt_zero n)⟩
      ·replace h := bif_f hb32 h
       refine wrg [mv 6 (I x9.2), rp [(.tmp 45, I x9.2), ci 2] (B ((x9.2 == 2))), rp [(.tmp 46, (B ((x9.2 == 2))))] (B false), sk 47 (B false), sk 47 (B false), rp [(.tmp 47, B false), (.tmp 49, (.lit undef)), cb false] (B false), mv 50 (B false), sk 51 (B false), rp [(.tmp 51, B false), (.tmp 52, (.lit undef)), cb false] (B false), mv 53 (B false)] ?_ ?_
       ·exact ⟨amv rfl, abn rfl rfl, asb hb32 (amv rfl), trivial, trivial, apk rfl rfl, amv rfl, trivial, apk rfl rfl, aas rfl, trivial⟩
       refine awp_ret ?_
       refine thenA_r ?_
       obtain rfl := osi h
       exact ⟨⟨[B false], ⟨rot (by kernel_rfl), trivial⟩, rfl⟩, nll, Nat.le_refl _, fun n hn => absurd hn (Nat.not_lt_zero n)⟩
     ·replace h := bif_f hc31 h
      refine wfn hc31 (by kernel_rfl) ?_
      refine awp_skip ?_
      refine thn ?_
      rcases bft ((x9.2 == 0)) with hb36 | hb36
      ·replace h := bif_t hb36 h
       obtain ⟨x38, hf37, h⟩ := bno h
       rcases bft ((x9.1 == x38)) with hb39 | hb39
       ·replace h := bif_t hb39 h
        obtain ⟨x41, hf40, h⟩ := bno h
        refine wrg [mv 6 (I x9.2), rp [(.tmp 54, I x9.2), ci 0] (B ((x9.2 == 0))), rp [(.tmp 55, (B ((x9.2 == 0))))] (B true), rp [(.tmp 56, B true), (.tmp 5, I x9.1)] (I x9.1), rb [(.tmp 56, B true), (.tmp 2, .ref 0 2 0 0)] [(0, (.own 2 [[I p0.Inlet, (z80_0 p0)]]))] (.agg [I p0.Inlet, (z80_0 p0)]), rp [(.tmp 56, B true), (.tmp 1, I p1)] (I p1), rp [(.tmp 56, B true), fu 26, (.tmp 58, (.agg [I p0.Inlet, (z80_0 p0)])), (.tmp 59, I p1)] (I x38), rp [(.tmp 56, B true), (.tmp 57, I x9.1), (.tmp 60, I x38)] (B ((x9.1 == x38))), rp [(.tmp 56, B true), (.tmp 61, (B ((x9.1 == x38)))), cb false] (B ((x9.1 == x38))), rp [(.tmp 62, (B ((x9.1 == x38))))] (B true), rp [(.tmp 63, B true), fu 17] (B x41), rp [(.tmp 63, B true), (.tmp 64, B x41), cb false] (B x41), mv 65 (B x41)] ?_ ?_
        ·exact ⟨amv rfl, abn rfl rfl, asb hb36 (amv rfl), ag_ (amv rfl), ag_ (ald rfl ti24 (by decide) rfl (nle rfl) rfl), ag_ (amv rfl), ag_ (apc (first := []) (cap := []) (vs := [(.agg [I p0.Inlet, (z80_0 p0)]), I p1]) rfl enter26 (ref07_PowerX_ok N p0 p1 _ hf37) rfl rfl (nlc (NLt.agg _ (nlc nll (nlc (nld nl_GPart _) nl0))) (nlc nll nl0)) nll rfl), ag_ (abn rfl rfl), apk rfl rfl, asb hb39 (amv rfl), ag_ (apc (first := []) (cap := []) (vs := []) rfl enter17 (law07_awakeX_ok 2000  _ hf40) rfl rfl nl0 nll rfl), apk rfl rfl, aas rfl, trivial⟩
        refine awp_ret ?_
        obtain rfl := osi h
        exact ⟨⟨[B x41], ⟨rot (by kernel_rfl), trivial⟩, rfl⟩, nll, Nat.le_refl _, fun n hn => absurd hn (Nat.not_lt_zero n)⟩
       ·replace h := bif_f hb39 h
        refine wrg [mv 6 (I x9.2), rp [(.tmp 54, I x9.2), ci 0] (B ((x9.2 == 0))), rp [(.tmp 55, (B ((x9.2 == 0))))] (B true), rp [(.tmp 56, B true), (.tmp 5, I x9.1)] (I x9.1), rb [(.tmp 56, B true), (.tmp 2, .ref 0 2 0 0)] [(0, (.own 2 [[I p0.Inlet, (z80_0 p0)]]))] (.agg [I p0.Inlet, (z80_0 p0)]), rp [(.tmp 56, B true), (.tmp 1, I p1)] (I p1), rp [(.tmp 56, B true), fu 26, (.tmp 58, (.agg [I p0.Inlet, (z80_0 p0)])), (.tmp 59, I p1)] (I x38), rp [(.tmp 56, B true), (.tmp 57, I x9.1), (.tmp 60, I x38)] (B ((x9.1 == x38))), rp [(.tmp 56, B true), (.tmp 61, (B ((x9.1 == x38)))), cb false] (B ((x9.1 == x38))), rp [(.tmp 62, (B ((x9.1 == x38))))] (B false), sk 63 (B false), rp [(.tmp 63, B false), (.tmp 64, (.lit undef)), cb false] (B false), mv 65 (B false)] ?_ ?_
        ·exact ⟨amv rfl, abn rfl rfl, asb hb36 (amv rfl), ag_ (amv rfl), ag_ (ald rfl ti24 (by decide) rfl (nle rfl) rfl), ag_ (amv rfl), ag_ (apc (first := []) (cap := []) (vs := [(.agg [I p0.Inlet, (z80_0 p0)]), I p1]) rfl enter26 (ref07_PowerX_ok N p0 p1 _ hf37) rfl rfl (nlc (NLt.agg _ (nlc nll (nlc (nld nl_GPart _) nl0))) (nlc nll nl0)) nll rfl), ag_ (abn rfl rfl), apk rfl rfl, asb hb39 (amv rfl), trivial, apk rfl rfl, aas rfl, trivial⟩
        refine awp_ret ?_
        obtain rfl := osi h
        exact ⟨⟨[B false], ⟨rot (by kernel_rfl), trivial⟩, rfl⟩, nll, Nat.le_refl _, fun n hn => absurd hn (Nat.not_lt_zero n)⟩
      ·replace h := bif_f hb36 h
       refine wrg [mv 6 (I x9.2), rp [(.tmp 54, I x9.2), ci 0] (B ((x9.2 == 0))), rp [(.tmp 55, (B ((x9.2 == 0))))] (B false), sk 56 (B false), sk 56 (B false), sk 56 (B false), sk 56 (B false), sk 56 (B false), rp [(.tmp 56, B false), (.tmp 61, (.lit undef)), cb false] (B false), mv 62 (B false), sk 63 (B false), rp [(.tmp 63, B false), (.tmp 64, (.lit undef)), cb false] (B false), mv 65 (B false)] ?_ ?_
       ·exact ⟨amv rfl, abn rfl rfl, asb hb36 (amv rfl), trivial, trivial, trivial, trivial, trivial, apk rfl rfl, amv rfl, trivial, apk rfl rfl, aas rfl, trivial⟩
       refine awp_ret ?_
       obtain rfl := osi h
       exact ⟨⟨[B false], ⟨rot (by kernel_rfl), trivial⟩, rfl⟩, nll, Nat.le_refl _, fun n hn => absurd hn (Nat.not_lt_zero n)⟩

end Go.Proofs.Ytlhakkkjgdbdpaa
