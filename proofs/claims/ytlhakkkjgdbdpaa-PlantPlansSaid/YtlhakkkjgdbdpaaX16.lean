/-
  Functions of the program: what they compute, as plain functions, and that they do. No conditions.
-/
import Derived.Test.YtlhakkkjgdbdpaaX14
namespace Go.Proofs.Ytlhakkkjgdbdpaa
open Go.RowKit

def law07_PlantPlansX (N : Nat) (p0 : GJob) (p1 : (List Int)) (p2 : Int) (p3 : (List (List Int))) : Option Bool :=
  joinK (fun _ =>
    (law07_JobX N p0).bind fun x3 =>
    (plant_DispatchX N x3).bind fun x5 =>
    (law07_JobX N p0).bind fun x7 =>
    (law07_listX N p1).bind fun x9 =>
    (plant_ProfitX N x7 x9).bind fun x11 =>
    bif (x5.2.2.2 != 0) then
     bif (x5.2.2.2 == 7) then
      bif (x11.2 == 1) then
       (law07_awakeX 2000 ).bind fun x16 =>
       some x16
      else
       some false
     else
      some false
    else
     (law07_JobX N p0).bind fun x18 =>
     (law07_listX N x5.1).bind fun x20 =>
     (plant_ProfitX N x18 x20).bind fun x22 =>
     joinK (fun _ =>
       (law07_JobX N p0).bind fun x25 =>
       (law07_listX N p1).bind fun x27 =>
       (law07_rowsX N p3).bind fun x29 =>
       (plant_ProveDispatchX N x25 x27 p2 x29).bind fun x31 =>
       bif (!x31) then
        (law07_awakeX 2000 ).bind fun x34 =>
        some x34
       else
        bif (p2 == x5.2.1) then
         (law07_awakeX 2000 ).bind fun x37 =>
         some x37
        else
         some false) fun k23 : Unit → Option Bool =>
     bif (x22.2 != 0) then
      some false
     else
      bif (x22.1 != x5.2.1) then
       some false
      else
       (law07_JobX N p0).bind fun x41 =>
       (plant_ProveDispatchX N x41 x5.1 x5.2.1 x5.2.2.1).bind fun x43 =>
       bif (!x43) then
        some false
       else
        bif (x11.2 == 0) then
         bif (decide (x11.1 > x5.2.1)) then
          some false
         else
          bif (x11.2 != 0) then
           bif (x11.2 != 1) then
            some false
           else
            k23 ()
          else
           k23 ()
        else
         bif (x11.2 != 0) then
          bif (x11.2 != 1) then
           some false
          else
           k23 ()
         else
          k23 ()) fun k1 : Unit → Option Bool =>
  (ref07_RightJobX N p0).bind fun x52 =>
  bif (!x52) then
   (law07_awakeX 2000 ).bind fun x55 =>
   some x55
  else
   bif (decide ((p1.length : Int) > 120)) then
    (law07_awakeX 2000 ).bind fun x58 =>
    some x58
   else
    bif (decide ((p3.length : Int) > 8)) then
     (law07_awakeX 2000 ).bind fun x61 =>
     some x61
    else
     k1 ()
def z146_0 (p0 : GJob) : AV := .dat 2 ((p0.Hours : List GHour).map c_GHour)
def z146_1 (p0 : GJob) : Slot := .own 5 [[(.dat 1 ((p0.Levels : List Int).map c_i64)), (I (p0.Ramp)), (I (p0.Start)), (I (p0.First)), (z146_0 p0)]]
def z146_2 (p0 : GJob) : AV := .agg [(.dat 1 ((p0.Levels : List Int).map c_i64)), (I (p0.Ramp)), (I (p0.Start)), (I (p0.First)), (z146_0 p0)]
def z146_3 (x3 : GJob) : AV := .dat 2 ((x3.Hours : List GHour).map c_GHour)
def z146_4 (x3 : GJob) : AV := .agg [(.dat 1 ((x3.Levels : List Int).map c_i64)), (I (x3.Ramp)), (I (x3.Start)), (I (x3.First)), (z146_3 x3)]
def z146_5 (x5 : ((List Int) × Int × (List (List Int)) × Int)) : AV := .dat 1 ((x5.2.2.1 : List (List Int)).map c_Li64)
def z146_6 (x7 : GJob) : AV := .dat 2 ((x7.Hours : List GHour).map c_GHour)
def z146_7 (x7 : GJob) : AV := .agg [(.dat 1 ((x7.Levels : List Int).map c_i64)), (I (x7.Ramp)), (I (x7.Start)), (I (x7.First)), (z146_6 x7)]
def z146_8 (x18 : GJob) : AV := .dat 2 ((x18.Hours : List GHour).map c_GHour)
def z146_9 (x18 : GJob) : AV := .agg [(.dat 1 ((x18.Levels : List Int).map c_i64)), (I (x18.Ramp)), (I (x18.Start)), (I (x18.First)), (z146_8 x18)]
def z146_12 (x25 : GJob) : AV := .dat 2 ((x25.Hours : List GHour).map c_GHour)
def z146_13 (x25 : GJob) : AV := .agg [(.dat 1 ((x25.Levels : List Int).map c_i64)), (I (x25.Ramp)), (I (x25.Start)), (I (x25.First)), (z146_12 x25)]
def z146_14 (x29 : (List (List Int))) : AV := .dat 1 ((x29 : List (List Int)).map c_Li64)
def z146_15 (x41 : GJob) : AV := .dat 2 ((x41.Hours : List GHour).map c_GHour)
def z146_16 (x41 : GJob) : AV := .agg [(.dat 1 ((x41.Levels : List Int).map c_i64)), (I (x41.Ramp)), (I (x41.Start)), (I (x41.First)), (z146_15 x41)]
set_option maxRecDepth 100000 in
set_option maxHeartbeats 4000000 in
theorem law07_PlantPlansX_ok (N : Nat) (p0 : GJob) (p1 : (List Int)) (p2 : Int) (p3 : (List (List Int))) (r : Bool) (h : law07_PlantPlansX N p0 p1 p2 p3 = some r) : Spec Try.prog 12 [(.agg (c_GJob p0)), (.dat 1 (p1.map c_i64)), (I p2), (.dat 1 (p3.map c_Li64))] [] (B r) [] := by
  refine spec_of_awp Try.func12 rfl 0 (nle rfl) (fun X φ0 w0 hφ0 => ?_)
  unfold law07_PlantPlansX at h
  refine wx tbk [] trivial ?_
  obtain ⟨k1, hk_k1, h⟩ := jko h
  refine wjn (τ := Unit) (fun t => k1 t = some r) (fun _ => ⟨mk 116 [(1, (.dat 1 ((p1 : List Int).map c_i64))), (2, I p2), (3, (.dat 1 ((p3 : List (List Int)).map c_Li64))), (4, .ref 0 5 0 0)], [(z146_1 p0)]⟩) (fun t h => ?_) ?_
  ·subst hk_k1
   obtain ⟨x3, hf2, h⟩ := bno h
   obtain ⟨x5, hf4, h⟩ := bno h
   refine wx tbk [(1, rp [fu 22, (.tmp 32, (z146_2 p0))] (z146_4 x3)), (2, rp [fu 21, (.tmp 33, (z146_4 x3))] (.tup [(.dat 1 ((x5.1 : List Int).map c_i64)), I x5.2.1, (z146_5 x5), I x5.2.2.2]))] ⟨apc (first := []) (cap := []) (vs := [(z146_2 p0)]) rfl enter22 (law07_JobX_ok N p0 _ hf2) rfl rfl (nlc (NLt.agg _ (nlc (nld nl_i64 _) (nlc nll (nlc nll (nlc nll (nlc (nld nl_GHour _) nl0)))))) nl0) (NLt.agg _ (nlc (nld nl_i64 _) (nlc nll (nlc nll (nlc nll (nlc (nld nl_GHour _) nl0)))))) rfl, apc (first := []) (cap := []) (vs := [(z146_4 x3)]) rfl enter21 (plant_DispatchX_ok N x3 _ hf4) rfl rfl (nlc (NLt.agg _ (nlc (nld nl_i64 _) (nlc nll (nlc nll (nlc nll (nlc (nld nl_GHour _) nl0)))))) nl0) (NLt.tup _ (nlc (nld nl_i64 _) (nlc nll (nlc (nld nl_Li64 _) (nlc nll nl0))))) rfl, trivial⟩ ?_
   obtain ⟨x7, hf6, h⟩ := bno h
   obtain ⟨x9, hf8, h⟩ := bno h
   obtain ⟨x11, hf10, h⟩ := bno h
   refine wx tbk [(1, rp [fu 22, (.tmp 40, (z146_2 p0))] (z146_7 x7)), (3, rp [fu 37, (.tmp 42, (.dat 1 ((p1 : List Int).map c_i64)))] (.dat 1 ((x9 : List Int).map c_i64))), (4, rp [fu 36, (.tmp 41, (z146_7 x7)), (.tmp 43, (.dat 1 ((x9 : List Int).map c_i64)))] (.tup [I x11.1, I x11.2]))] ⟨apc (first := []) (cap := []) (vs := [(z146_2 p0)]) rfl enter22 (law07_JobX_ok N p0 _ hf6) rfl rfl (nlc (NLt.agg _ (nlc (nld nl_i64 _) (nlc nll (nlc nll (nlc nll (nlc (nld nl_GHour _) nl0)))))) nl0) (NLt.agg _ (nlc (nld nl_i64 _) (nlc nll (nlc nll (nlc nll (nlc (nld nl_GHour _) nl0)))))) rfl, apc (first := []) (cap := []) (vs := [(.dat 1 ((p1 : List Int).map c_i64))]) rfl enter37 (law07_listX_ok N p1 _ hf8) rfl rfl (nlc (nld nl_i64 _) nl0) (nld nl_i64 _) rfl, apc (first := []) (cap := []) (vs := [(z146_7 x7), (.dat 1 ((x9 : List Int).map c_i64))]) rfl enter36 (plant_ProfitX_ok N x7 x9 _ hf10) rfl rfl (nlc (NLt.agg _ (nlc (nld nl_i64 _) (nlc nll (nlc nll (nlc nll (nlc (nld nl_GHour _) nl0)))))) (nlc (nld nl_i64 _) nl0)) (NLt.tup _ (nlc nll (nlc nll nl0))) rfl, trivial⟩ ?_
   refine wsq ?_
   refine wx tbk [] trivial ?_
   rcases bft ((x5.2.2.2 != 0)) with hc12 | hc12
   ·replace h := bif_t hc12 h
    refine wft hc12 (by kernel_rfl) ?_
    rcases bft ((x5.2.2.2 == 7)) with hb13 | hb13
    ·replace h := bif_t hb13 h
     rcases bft ((x11.2 == 1)) with hb14 | hb14
     ·replace h := bif_t hb14 h
      obtain ⟨x16, hf15, h⟩ := bno h
      refine wx tbk [(2, rp [(.tmp 50, (B ((x5.2.2.2 == 7))))] (B true)), (6, rp [(.tmp 54, (B ((x11.2 == 1))))] (B true)), (7, rp [(.tmp 55, B true), fu 17] (B x16))] ⟨asb hb13 (amv rfl), asb hb14 (amv rfl), ag_ (apc (first := []) (cap := []) (vs := []) rfl enter17 (law07_awakeX_ok 2000  _ hf15) rfl rfl nl0 nll rfl), trivial⟩ ?_
      refine awp_ret ?_
      refine thenA_r ?_
      obtain rfl := osi h
      exact ⟨⟨[B x16], ⟨rot (by kernel_rfl), trivial⟩, rfl⟩, nll, Nat.le_refl _, fun n hn => absurd hn (Nat.not_lt_zero n)⟩
     ·replace h := bif_f hb14 h
      refine wx tbk [(2, rp [(.tmp 50, (B ((x5.2.2.2 == 7))))] (B true)), (6, rp [(.tmp 54, (B ((x11.2 == 1))))] (B false))] ⟨asb hb13 (amv rfl), asb hb14 (amv rfl), trivial⟩ ?_
      refine awp_ret ?_
      refine thenA_r ?_
      obtain rfl := osi h
      exact ⟨⟨[B false], ⟨rot (by kernel_rfl), trivial⟩, rfl⟩, nll, Nat.le_refl _, fun n hn => absurd hn (Nat.not_lt_zero n)⟩
    ·replace h := bif_f hb13 h
     refine wx tbk [(2, rp [(.tmp 50, (B ((x5.2.2.2 == 7))))] (B false))] ⟨asb hb13 (amv rfl), trivial⟩ ?_
     refine awp_ret ?_
     refine thenA_r ?_
     obtain rfl := osi h
     exact ⟨⟨[B false], ⟨rot (by kernel_rfl), trivial⟩, rfl⟩, nll, Nat.le_refl _, fun n hn => absurd hn (Nat.not_lt_zero n)⟩
   ·replace h := bif_f hc12 h
    refine wfn hc12 (by kernel_rfl) ?_
    refine awp_skip ?_
    refine thn ?_
    obtain ⟨x18, hf17, h⟩ := bno h
    obtain ⟨x20, hf19, h⟩ := bno h
    obtain ⟨x22, hf21, h⟩ := bno h
    refine wx tbk [(1, rp [fu 22, (.tmp 59, (z146_2 p0))] (z146_9 x18)), (3, rp [fu 37, (.tmp 61, (.dat 1 ((x5.1 : List Int).map c_i64)))] (.dat 1 ((x20 : List Int).map c_i64))), (4, rp [fu 36, (.tmp 60, (z146_9 x18)), (.tmp 62, (.dat 1 ((x20 : List Int).map c_i64)))] (.tup [I x22.1, I x22.2]))] ⟨apc (first := []) (cap := []) (vs := [(z146_2 p0)]) rfl enter22 (law07_JobX_ok N p0 _ hf17) rfl rfl (nlc (NLt.agg _ (nlc (nld nl_i64 _) (nlc nll (nlc nll (nlc nll (nlc (nld nl_GHour _) nl0)))))) nl0) (NLt.agg _ (nlc (nld nl_i64 _) (nlc nll (nlc nll (nlc nll (nlc (nld nl_GHour _) nl0)))))) rfl, apc (first := []) (cap := []) (vs := [(.dat 1 ((x5.1 : List Int).map c_i64))]) rfl enter37 (law07_listX_ok N x5.1 _ hf19) rfl rfl (nlc (nld nl_i64 _) nl0) (nld nl_i64 _) rfl, apc (first := []) (cap := []) (vs := [(z146_9 x18), (.dat 1 ((x20 : List Int).map c_i64))]) rfl enter36 (plant_ProfitX_ok N x18 x20 _ hf21) rfl rfl (nlc (NLt.agg _ (nlc (nld nl_i64 _) (nlc nll (nlc nll (nlc nll (nlc (nld nl_GHour _) nl0)))))) (nlc (nld nl_i64 _) nl0)) (NLt.tup _ (nlc nll (nlc nll nl0))) rfl, trivial⟩ ?_
    obtain ⟨k23, hk_k23, h⟩ := jko h
    refine wjn (τ := Unit) (fun t => k23 t = some r) (fun _ => ⟨mk 116 [(1, (.dat 1 ((p1 : List Int).map c_i64))), (2, I p2), (3, (.dat 1 ((p3 : List (List Int)).map c_Li64))), (4, .ref 0 5 0 0), (10, I x5.2.1)], [(z146_1 p0)]⟩) (fun t h => ?_) ?_
    ·subst hk_k23
     obtain ⟨x25, hf24, h⟩ := bno h
     obtain ⟨x27, hf26, h⟩ := bno h
     obtain ⟨x29, hf28, h⟩ := bno h
     obtain ⟨x31, hf30, h⟩ := bno h
     rcases bft ((!x31)) with hb32 | hb32
     ·replace h := bif_t hb32 h
      obtain ⟨x34, hf33, h⟩ := bno h
      refine wx tbk [(1, rp [fu 22, (.tmp 99, (z146_2 p0))] (z146_13 x25)), (3, rp [fu 37, (.tmp 101, (.dat 1 ((p1 : List Int).map c_i64)))] (.dat 1 ((x27 : List Int).map c_i64))), (6, rp [fu 56, (.tmp 104, (.dat 1 ((p3 : List (List Int)).map c_Li64)))] (z146_14 x29)), (7, rp [fu 55, (.tmp 100, (z146_13 x25)), (.tmp 102, (.dat 1 ((x27 : List Int).map c_i64))), (.tmp 103, I p2), (.tmp 105, (z146_14 x29))] (B x31)), (9, rp [(.tmp 107, (B ((!x31))))] (B true)), (15, rp [(.tmp 113, B true), fu 17] (B x34))] ⟨apc (first := []) (cap := []) (vs := [(z146_2 p0)]) rfl enter22 (law07_JobX_ok N p0 _ hf24) rfl rfl (nlc (NLt.agg _ (nlc (nld nl_i64 _) (nlc nll (nlc nll (nlc nll (nlc (nld nl_GHour _) nl0)))))) nl0) (NLt.agg _ (nlc (nld nl_i64 _) (nlc nll (nlc nll (nlc nll (nlc (nld nl_GHour _) nl0)))))) rfl, apc (first := []) (cap := []) (vs := [(.dat 1 ((p1 : List Int).map c_i64))]) rfl enter37 (law07_listX_ok N p1 _ hf26) rfl rfl (nlc (nld nl_i64 _) nl0) (nld nl_i64 _) rfl, apc (first := []) (cap := []) (vs := [(.dat 1 ((p3 : List (List Int)).map c_Li64))]) rfl enter56 (law07_rowsX_ok N p3 _ hf28) rfl rfl (nlc (nld nl_Li64 _) nl0) (nld nl_Li64 _) rfl, apc (first := []) (cap := []) (vs := [(z146_13 x25), (.dat 1 ((x27 : List Int).map c_i64)), I p2, (z146_14 x29)]) rfl enter55 (plant_ProveDispatchX_ok N x25 x27 p2 x29 _ hf30) rfl rfl (nlc (NLt.agg _ (nlc (nld nl_i64 _) (nlc nll (nlc nll (nlc nll (nlc (nld nl_GHour _) nl0)))))) (nlc (nld nl_i64 _) (nlc nll (nlc (nld nl_Li64 _) nl0)))) nll rfl, asb hb32 (amv rfl), ag_ (apc (first := []) (cap := []) (vs := []) rfl enter17 (law07_awakeX_ok 2000  _ hf33) rfl rfl nl0 nll rfl), trivial⟩ ?_
      refine awp_ret ?_
      obtain rfl := osi h
      exact ⟨⟨[B x34], ⟨rot (by kernel_rfl), trivial⟩, rfl⟩, nll, Nat.le_refl _, fun n hn => absurd hn (Nat.not_lt_zero n)⟩
     ·replace h := bif_f hb32 h
      rcases bft ((p2 == x5.2.1)) with hb35 | hb35
      ·replace h := bif_t hb35 h
       obtain ⟨x37, hf36, h⟩ := bno h
       refine wx tbk [(1, rp [fu 22, (.tmp 99, (z146_2 p0))] (z146_13 x25)), (3, rp [fu 37, (.tmp 101, (.dat 1 ((p1 : List Int).map c_i64)))] (.dat 1 ((x27 : List Int).map c_i64))), (6, rp [fu 56, (.tmp 104, (.dat 1 ((p3 : List (List Int)).map c_Li64)))] (z146_14 x29)), (7, rp [fu 55, (.tmp 100, (z146_13 x25)), (.tmp 102, (.dat 1 ((x27 : List Int).map c_i64))), (.tmp 103, I p2), (.tmp 105, (z146_14 x29))] (B x31)), (9, rp [(.tmp 107, (B ((!x31))))] (B false)), (14, rp [(.tmp 112, (B ((p2 == x5.2.1))))] (B true)), (15, rp [(.tmp 113, B true), fu 17] (B x37))] ⟨apc (first := []) (cap := []) (vs := [(z146_2 p0)]) rfl enter22 (law07_JobX_ok N p0 _ hf24) rfl rfl (nlc (NLt.agg _ (nlc (nld nl_i64 _) (nlc nll (nlc nll (nlc nll (nlc (nld nl_GHour _) nl0)))))) nl0) (NLt.agg _ (nlc (nld nl_i64 _) (nlc nll (nlc nll (nlc nll (nlc (nld nl_GHour _) nl0)))))) rfl, apc (first := []) (cap := []) (vs := [(.dat 1 ((p1 : List Int).map c_i64))]) rfl enter37 (law07_listX_ok N p1 _ hf26) rfl rfl (nlc (nld nl_i64 _) nl0) (nld nl_i64 _) rfl, apc (first := []) (cap := []) (vs := [(.dat 1 ((p3 : List (List Int)).map c_Li64))]) rfl enter56 (law07_rowsX_ok N p3 _ hf28) rfl rfl (nlc (nld nl_Li64 _) nl0) (nld nl_Li64 _) rfl, apc (first := []) (cap := []) (vs := [(z146_13 x25), (.dat 1 ((x27 : List Int).map c_i64)), I p2, (z146_14 x29)]) rfl enter55 (plant_ProveDispatchX_ok N x25 x27 p2 x29 _ hf30) rfl rfl (nlc (NLt.agg _ (nlc (nld nl_i64 _) (nlc nll (nlc nll (nlc nll (nlc (nld nl_GHour _) nl0)))))) (nlc (nld nl_i64 _) (nlc nll (nlc (nld nl_Li64 _) nl0)))) nll rfl, asb hb32 (amv rfl), asb hb35 (amv rfl), ag_ (apc (first := []) (cap := []) (vs := []) rfl enter17 (law07_awakeX_ok 2000  _ hf36) rfl rfl nl0 nll rfl), trivial⟩ ?_
       refine awp_ret ?_
       obtain rfl := osi h
       exact ⟨⟨[B x37], ⟨rot (by kernel_rfl), trivial⟩, rfl⟩, nll, Nat.le_refl _, fun n hn => absurd hn (Nat.not_lt_zero n)⟩
      ·replace h := bif_f hb35 h
       refine wx tbk [(1, rp [fu 22, (.tmp 99, (z146_2 p0))] (z146_13 x25)), (3, rp [fu 37, (.tmp 101, (.dat 1 ((p1 : List Int).map c_i64)))] (.dat 1 ((x27 : List Int).map c_i64))), (6, rp [fu 56, (.tmp 104, (.dat 1 ((p3 : List (List Int)).map c_Li64)))] (z146_14 x29)), (7, rp [fu 55, (.tmp 100, (z146_13 x25)), (.tmp 102, (.dat 1 ((x27 : List Int).map c_i64))), (.tmp 103, I p2), (.tmp 105, (z146_14 x29))] (B x31)), (9, rp [(.tmp 107, (B ((!x31))))] (B false)), (14, rp [(.tmp 112, (B ((p2 == x5.2.1))))] (B false))] ⟨apc (first := []) (cap := []) (vs := [(z146_2 p0)]) rfl enter22 (law07_JobX_ok N p0 _ hf24) rfl rfl (nlc (NLt.agg _ (nlc (nld nl_i64 _) (nlc nll (nlc nll (nlc nll (nlc (nld nl_GHour _) nl0)))))) nl0) (NLt.agg _ (nlc (nld nl_i64 _) (nlc nll (nlc nll (nlc nll (nlc (nld nl_GHour _) nl0)))))) rfl, apc (first := []) (cap := []) (vs := [(.dat 1 ((p1 : List Int).map c_i64))]) rfl enter37 (law07_listX_ok N p1 _ hf26) rfl rfl (nlc (nld nl_i64 _) nl0) (nld nl_i64 _) rfl, apc (first := []) (cap := []) (vs := [(.dat 1 ((p3 : List (List Int)).map c_Li64))]) rfl enter56 (law07_rowsX_ok N p3 _ hf28) rfl rfl (nlc (nld nl_Li64 _) nl0) (nld nl_Li64 _) rfl, apc (first := []) (cap := []) (vs := [(z146_13 x25), (.dat 1 ((x27 : List Int).map c_i64)), I p2, (z146_14 x29)]) rfl enter55 (plant_ProveDispatchX_ok N x25 x27 p2 x29 _ hf30) rfl rfl (nlc (NLt.agg _ (nlc (nld nl_i64 _) (nlc nll (nlc nll (nlc nll (nlc (nld nl_GHour _) nl0)))))) (nlc (nld nl_i64 _) (nlc nll (nlc (nld nl_Li64 _) nl0)))) nll rfl, asb hb32 (amv rfl), asb hb35 (amv rfl), trivial⟩ ?_
       refine awp_ret ?_
       obtain rfl := osi h
       exact ⟨⟨[B false], ⟨rot (by kernel_rfl), trivial⟩, rfl⟩, nll, Nat.le_refl _, fun n hn => absurd hn (Nat.not_lt_zero n)⟩
    ·skip
     rcases bft ((x22.2 != 0)) with hb38 | hb38
     ·replace h := bif_t hb38 h
      refine wx tbk [(2, rp [(.tmp 67, (B ((x22.2 != 0))))] (B true))] ⟨asb hb38 (amv rfl), trivial⟩ ?_
      refine awp_true (by kernel_rfl) ?_
      refine wx tbk [] trivial ?_
      refine awp_ret ?_
      refine thenA_r ?_
      obtain rfl := osi h
      exact ⟨⟨[B false], ⟨rot (by kernel_rfl), trivial⟩, rfl⟩, nll, Nat.le_refl _, fun n hn => absurd hn (Nat.not_lt_zero n)⟩
     ·replace h := bif_f hb38 h
      rcases bft ((x22.1 != x5.2.1)) with hb39 | hb39
      ·replace h := bif_t hb39 h
       refine wx tbk [(2, rp [(.tmp 67, (B ((x22.2 != 0))))] (B false)), (7, rp [(.tmp 72, (B ((x22.1 != x5.2.1))))] (B true))] ⟨asb hb38 (amv rfl), asb hb39 (amv rfl), trivial⟩ ?_
       refine awp_true (by kernel_rfl) ?_
       refine wx tbk [] trivial ?_
       refine awp_ret ?_
       refine thenA_r ?_
       obtain rfl := osi h
       exact ⟨⟨[B false], ⟨rot (by kernel_rfl), trivial⟩, rfl⟩, nll, Nat.le_refl _, fun n hn => absurd hn (Nat.not_lt_zero n)⟩
      ·replace h := bif_f hb39 h
       obtain ⟨x41, hf40, h⟩ := bno h
       obtain ⟨x43, hf42, h⟩ := bno h
       rcases bft ((!x43)) with hb44 | hb44
       ·replace h := bif_t hb44 h
        refine wx tbk [(2, rp [(.tmp 67, (B ((x22.2 != 0))))] (B false)), (7, rp [(.tmp 72, (B ((x22.1 != x5.2.1))))] (B false)), (9, rp [(.tmp 73, B false), fu 22, (.tmp 74, (z146_2 p0))] (z146_16 x41)), (13, rp [(.tmp 73, B false), fu 55, (.tmp 75, (z146_16 x41)), (.tmp 76, (.dat 1 ((x5.1 : List Int).map c_i64))), (.tmp 77, I x5.2.1), (.tmp 78, (z146_5 x5))] (B x43)), (16, rp [(.tmp 81, (B ((!x43))))] (B true))] ⟨asb hb38 (amv rfl), asb hb39 (amv rfl), ag_ (apc (first := []) (cap := []) (vs := [(z146_2 p0)]) rfl enter22 (law07_JobX_ok N p0 _ hf40) rfl rfl (nlc (NLt.agg _ (nlc (nld nl_i64 _) (nlc nll (nlc nll (nlc nll (nlc (nld nl_GHour _) nl0)))))) nl0) (NLt.agg _ (nlc (nld nl_i64 _) (nlc nll (nlc nll (nlc nll (nlc (nld nl_GHour _) nl0)))))) rfl), ag_ (apc (first := []) (cap := []) (vs := [(z146_16 x41), (.dat 1 ((x5.1 : List Int).map c_i64)), I x5.2.1, (z146_5 x5)]) rfl enter55 (plant_ProveDispatchX_ok N x41 x5.1 x5.2.1 x5.2.2.1 _ hf42) rfl rfl (nlc (NLt.agg _ (nlc (nld nl_i64 _) (nlc nll (nlc nll (nlc nll (nlc (nld nl_GHour _) nl0)))))) (nlc (nld nl_i64 _) (nlc nll (nlc (nld nl_Li64 _) nl0)))) nll rfl), asb hb44 (amv rfl), trivial⟩ ?_
        refine awp_true (by kernel_rfl) ?_
        refine wx tbk [] trivial ?_
        refine awp_ret ?_
        refine thenA_r ?_
        obtain rfl := osi h
        exact ⟨⟨[B false], ⟨rot (by kernel_rfl), trivial⟩, rfl⟩, nll, Nat.le_refl _, fun n hn => absurd hn (Nat.not_lt_zero n)⟩
       ·replace h := bif_f hb44 h
        rcases bft ((x11.2 == 0)) with hb45 | hb45
        ·replace h := bif_t hb45 h
         rcases bft ((decide (x11.1 > x5.2.1))) with hb46 | hb46
         ·replace h := bif_t hb46 h
          refine wx tbk [(2, rp [(.tmp 67, (B ((x22.2 != 0))))] (B false)), (7, rp [(.tmp 72, (B ((x22.1 != x5.2.1))))] (B false)), (9, rp [(.tmp 73, B false), fu 22, (.tmp 74, (z146_2 p0))] (z146_16 x41)), (13, rp [(.tmp 73, B false), fu 55, (.tmp 75, (z146_16 x41)), (.tmp 76, (.dat 1 ((x5.1 : List Int).map c_i64))), (.tmp 77, I x5.2.1), (.tmp 78, (z146_5 x5))] (B x43)), (16, rp [(.tmp 81, (B ((!x43))))] (B false)), (19, rp [(.tmp 82, B false), (.tmp 84, (B ((x11.2 == 0))))] (B true)), (25, rp [(.tmp 90, (B ((decide (x11.1 > x5.2.1)))))] (B true))] ⟨asb hb38 (amv rfl), asb hb39 (amv rfl), ag_ (apc (first := []) (cap := []) (vs := [(z146_2 p0)]) rfl enter22 (law07_JobX_ok N p0 _ hf40) rfl rfl (nlc (NLt.agg _ (nlc (nld nl_i64 _) (nlc nll (nlc nll (nlc nll (nlc (nld nl_GHour _) nl0)))))) nl0) (NLt.agg _ (nlc (nld nl_i64 _) (nlc nll (nlc nll (nlc nll (nlc (nld nl_GHour _) nl0)))))) rfl), ag_ (apc (first := []) (cap := []) (vs := [(z146_16 x41), (.dat 1 ((x5.1 : List Int).map c_i64)), I x5.2.1, (z146_5 x5)]) rfl enter55 (plant_ProveDispatchX_ok N x41 x5.1 x5.2.1 x5.2.2.1 _ hf42) rfl rfl (nlc (NLt.agg _ (nlc (nld nl_i64 _) (nlc nll (nlc nll (nlc nll (nlc (nld nl_GHour _) nl0)))))) (nlc (nld nl_i64 _) (nlc nll (nlc (nld nl_Li64 _) nl0)))) nll rfl), asb hb44 (amv rfl), asb hb45 (ag_ (amv rfl)), asb hb46 (amv rfl), trivial⟩ ?_
          refine awp_true (by kernel_rfl) ?_
          refine wx tbk [] trivial ?_
          refine awp_ret ?_
          refine thenA_r ?_
          obtain rfl := osi h
          exact ⟨⟨[B false], ⟨rot (by kernel_rfl), trivial⟩, rfl⟩, nll, Nat.le_refl _, fun n hn => absurd hn (Nat.not_lt_zero n)⟩
         ·replace h := bif_f hb46 h
          rcases bft ((x11.2 != 0)) with hb47 | hb47
          ·replace h := bif_t hb47 h
           refine wx tbk [(2, rp [(.tmp 67, (B ((x22.2 != 0))))] (B false)), (7, rp [(.tmp 72, (B ((x22.1 != x5.2.1))))] (B false)), (9, rp [(.tmp 73, B false), fu 22, (.tmp 74, (z146_2 p0))] (z146_16 x41)), (13, rp [(.tmp 73, B false), fu 55, (.tmp 75, (z146_16 x41)), (.tmp 76, (.dat 1 ((x5.1 : List Int).map c_i64))), (.tmp 77, I x5.2.1), (.tmp 78, (z146_5 x5))] (B x43)), (16, rp [(.tmp 81, (B ((!x43))))] (B false)), (19, rp [(.tmp 82, B false), (.tmp 84, (B ((x11.2 == 0))))] (B true)), (25, rp [(.tmp 90, (B ((decide (x11.1 > x5.2.1)))))] (B false)), (28, rp [(.tmp 91, B false), (.tmp 93, (B ((x11.2 != 0))))] (B true))] ⟨asb hb38 (amv rfl), asb hb39 (amv rfl), ag_ (apc (first := []) (cap := []) (vs := [(z146_2 p0)]) rfl enter22 (law07_JobX_ok N p0 _ hf40) rfl rfl (nlc (NLt.agg _ (nlc (nld nl_i64 _) (nlc nll (nlc nll (nlc nll (nlc (nld nl_GHour _) nl0)))))) nl0) (NLt.agg _ (nlc (nld nl_i64 _) (nlc nll (nlc nll (nlc nll (nlc (nld nl_GHour _) nl0)))))) rfl), ag_ (apc (first := []) (cap := []) (vs := [(z146_16 x41), (.dat 1 ((x5.1 : List Int).map c_i64)), I x5.2.1, (z146_5 x5)]) rfl enter55 (plant_ProveDispatchX_ok N x41 x5.1 x5.2.1 x5.2.2.1 _ hf42) rfl rfl (nlc (NLt.agg _ (nlc (nld nl_i64 _) (nlc nll (nlc nll (nlc nll (nlc (nld nl_GHour _) nl0)))))) (nlc (nld nl_i64 _) (nlc nll (nlc (nld nl_Li64 _) nl0)))) nll rfl), asb hb44 (amv rfl), asb hb45 (ag_ (amv rfl)), asb hb46 (amv rfl), asb hb47 (ag_ (amv rfl)), trivial⟩ ?_
           rcases bft ((x11.2 != 1)) with hc48 | hc48
           ·replace h := bif_t hc48 h
            refine wft hc48 (by kernel_rfl) ?_
            refine wx tbk [] trivial ?_
            refine awp_ret ?_
            refine thenA_r ?_
            obtain rfl := osi h
            exact ⟨⟨[B false], ⟨rot (by kernel_rfl), trivial⟩, rfl⟩, nll, Nat.le_refl _, fun n hn => absurd hn (Nat.not_lt_zero n)⟩
           ·replace h := bif_f hc48 h
            refine wfn hc48 (by kernel_rfl) ?_
            refine awp_skip ?_
            refine thn ?_
            exact ⟨(), h, (mto (n := 116) [(1, (.dat 1 ((p1 : List Int).map c_i64))), (2, I p2), (3, (.dat 1 ((p3 : List (List Int)).map c_Li64))), (4, .ref 0 5 0 0), (10, I x5.2.1)] [0] [(z146_1 p0)] hφ0 (pc (.rn (.plain _ (nld nl_i64 _))) (pc rwl (pc (.rn (.plain _ (nld nl_Li64 _))) (pc (.rn (rqr rfl)) (pc rwl pn))))) (qc (spb (lc (.rn (.plain _ (nld nl_i64 _))) (lc rwl (lc rwl (lc rwl (lc (.rn (.plain _ (nld nl_GHour _))) ln)))))) qn))⟩
          ·replace h := bif_f hb47 h
           refine wx tbk [(2, rp [(.tmp 67, (B ((x22.2 != 0))))] (B false)), (7, rp [(.tmp 72, (B ((x22.1 != x5.2.1))))] (B false)), (9, rp [(.tmp 73, B false), fu 22, (.tmp 74, (z146_2 p0))] (z146_16 x41)), (13, rp [(.tmp 73, B false), fu 55, (.tmp 75, (z146_16 x41)), (.tmp 76, (.dat 1 ((x5.1 : List Int).map c_i64))), (.tmp 77, I x5.2.1), (.tmp 78, (z146_5 x5))] (B x43)), (16, rp [(.tmp 81, (B ((!x43))))] (B false)), (19, rp [(.tmp 82, B false), (.tmp 84, (B ((x11.2 == 0))))] (B true)), (25, rp [(.tmp 90, (B ((decide (x11.1 > x5.2.1)))))] (B false)), (28, rp [(.tmp 91, B false), (.tmp 93, (B ((x11.2 != 0))))] (B false))] ⟨asb hb38 (amv rfl), asb hb39 (amv rfl), ag_ (apc (first := []) (cap := []) (vs := [(z146_2 p0)]) rfl enter22 (law07_JobX_ok N p0 _ hf40) rfl rfl (nlc (NLt.agg _ (nlc (nld nl_i64 _) (nlc nll (nlc nll (nlc nll (nlc (nld nl_GHour _) nl0)))))) nl0) (NLt.agg _ (nlc (nld nl_i64 _) (nlc nll (nlc nll (nlc nll (nlc (nld nl_GHour _) nl0)))))) rfl), ag_ (apc (first := []) (cap := []) (vs := [(z146_16 x41), (.dat 1 ((x5.1 : List Int).map c_i64)), I x5.2.1, (z146_5 x5)]) rfl enter55 (plant_ProveDispatchX_ok N x41 x5.1 x5.2.1 x5.2.2.1 _ hf42) rfl rfl (nlc (NLt.agg _ (nlc (nld nl_i64 _) (nlc nll (nlc nll (nlc nll (nlc (nld nl_GHour _) nl0)))))) (nlc (nld nl_i64 _) (nlc nll (nlc (nld nl_Li64 _) nl0)))) nll rfl), asb hb44 (amv rfl), asb hb45 (ag_ (amv rfl)), asb hb46 (amv rfl), asb hb47 (ag_ (amv rfl)), trivial⟩ ?_
           refine awp_false (by kernel_rfl) ?_
           refine awp_skip ?_
           refine thn ?_
           exact ⟨(), h, (mto (n := 116) [(1, (.dat 1 ((p1 : List Int).map c_i64))), (2, I p2), (3, (.dat 1 ((p3 : List (List Int)).map c_Li64))), (4, .ref 0 5 0 0), (10, I x5.2.1)] [0] [(z146_1 p0)] hφ0 (pc (.rn (.plain _ (nld nl_i64 _))) (pc rwl (pc (.rn (.plain _ (nld nl_Li64 _))) (pc (.rn (rqr rfl)) (pc rwl pn))))) (qc (spb (lc (.rn (.plain _ (nld nl_i64 _))) (lc rwl (lc rwl (lc rwl (lc (.rn (.plain _ (nld nl_GHour _))) ln)))))) qn))⟩
        ·replace h := bif_f hb45 h
         rcases bft ((x11.2 != 0)) with hb49 | hb49
         ·replace h := bif_t hb49 h
          refine wx tbk [(2, rp [(.tmp 67, (B ((x22.2 != 0))))] (B false)), (7, rp [(.tmp 72, (B ((x22.1 != x5.2.1))))] (B false)), (9, rp [(.tmp 73, B false), fu 22, (.tmp 74, (z146_2 p0))] (z146_16 x41)), (13, rp [(.tmp 73, B false), fu 55, (.tmp 75, (z146_16 x41)), (.tmp 76, (.dat 1 ((x5.1 : List Int).map c_i64))), (.tmp 77, I x5.2.1), (.tmp 78, (z146_5 x5))] (B x43)), (16, rp [(.tmp 81, (B ((!x43))))] (B false)), (19, rp [(.tmp 82, B false), (.tmp 84, (B ((x11.2 == 0))))] (B false)), (28, rp [(.tmp 91, B false), (.tmp 93, (B ((x11.2 != 0))))] (B true))] ⟨asb hb38 (amv rfl), asb hb39 (amv rfl), ag_ (apc (first := []) (cap := []) (vs := [(z146_2 p0)]) rfl enter22 (law07_JobX_ok N p0 _ hf40) rfl rfl (nlc (NLt.agg _ (nlc (nld nl_i64 _) (nlc nll (nlc nll (nlc nll (nlc (nld nl_GHour _) nl0)))))) nl0) (NLt.agg _ (nlc (nld nl_i64 _) (nlc nll (nlc nll (nlc nll (nlc (nld nl_GHour _) nl0)))))) rfl), ag_ (apc (first := []) (cap := []) (vs := [(z146_16 x41), (.dat 1 ((x5.1 : List Int).map c_i64)), I x5.2.1, (z146_5 x5)]) rfl enter55 (plant_ProveDispatchX_ok N x41 x5.1 x5.2.1 x5.2.2.1 _ hf42) rfl rfl (nlc (NLt.agg _ (nlc (nld nl_i64 _) (nlc nll (nlc nll (nlc nll (nlc (nld nl_GHour _) nl0)))))) (nlc (nld nl_i64 _) (nlc nll (nlc (nld nl_Li64 _) nl0)))) nll rfl), asb hb44 (amv rfl), asb hb45 (ag_ (amv rfl)), asb hb49 (ag_ (amv rfl)), trivial⟩ ?_
          rcases bft ((x11.2 != 1)) with hc50 | hc50
          ·replace h := bif_t hc50 h
           refine wft hc50 (by kernel_rfl) ?_
           refine wx tbk [] trivial ?_
           refine awp_ret ?_
           refine thenA_r ?_
           obtain rfl := osi h
           exact ⟨⟨[B false], ⟨rot (by kernel_rfl), trivial⟩, rfl⟩, nll, Nat.le_refl _, fun n hn => absurd hn (Nat.not_lt_zero n)⟩
          ·replace h := bif_f hc50 h
           refine wfn hc50 (by kernel_rfl) ?_
           refine awp_skip ?_
           refine thn ?_
           exact ⟨(), h, (mto (n := 116) [(1, (.dat 1 ((p1 : List Int).map c_i64))), (2, I p2), (3, (.dat 1 ((p3 : List (List Int)).map c_Li64))), (4, .ref 0 5 0 0), (10, I x5.2.1)] [0] [(z146_1 p0)] hφ0 (pc (.rn (.plain _ (nld nl_i64 _))) (pc rwl (pc (.rn (.plain _ (nld nl_Li64 _))) (pc (.rn (rqr rfl)) (pc rwl pn))))) (qc (spb (lc (.rn (.plain _ (nld nl_i64 _))) (lc rwl (lc rwl (lc rwl (lc (.rn (.plain _ (nld nl_GHour _))) ln)))))) qn))⟩
         ·replace h := bif_f hb49 h
          refine wx tbk [(2, rp [(.tmp 67, (B ((x22.2 != 0))))] (B false)), (7, rp [(.tmp 72, (B ((x22.1 != x5.2.1))))] (B false)), (9, rp [(.tmp 73, B false), fu 22, (.tmp 74, (z146_2 p0))] (z146_16 x41)), (13, rp [(.tmp 73, B false), fu 55, (.tmp 75, (z146_16 x41)), (.tmp 76, (.dat 1 ((x5.1 : List Int).map c_i64))), (.tmp 77, I x5.2.1), (.tmp 78, (z146_5 x5))] (B x43)), (16, rp [(.tmp 81, (B ((!x43))))] (B false)), (19, rp [(.tmp 82, B false), (.tmp 84, (B ((x11.2 == 0))))] (B false)), (28, rp [(.tmp 91, B false), (.tmp 93, (B ((x11.2 != 0))))] (B false))] ⟨asb hb38 (amv rfl), asb hb39 (amv rfl), ag_ (apc (first := []) (cap := []) (vs := [(z146_2 p0)]) rfl enter22 (law07_JobX_ok N p0 _ hf40) rfl rfl (nlc (NLt.agg _ (nlc (nld nl_i64 _) (nlc nll (nlc nll (nlc nll (nlc (nld nl_GHour _) nl0)))))) nl0) (NLt.agg _ (nlc (nld nl_i64 _) (nlc nll (nlc nll (nlc nll (nlc (nld nl_GHour _) nl0)))))) rfl), ag_ (apc (first := []) (cap := []) (vs := [(z146_16 x41), (.dat 1 ((x5.1 : List Int).map c_i64)), I x5.2.1, (z146_5 x5)]) rfl enter55 (plant_ProveDispatchX_ok N x41 x5.1 x5.2.1 x5.2.2.1 _ hf42) rfl rfl (nlc (NLt.agg _ (nlc (nld nl_i64 _) (nlc nll (nlc nll (nlc nll (nlc (nld nl_GHour _) nl0)))))) (nlc (nld nl_i64 _) (nlc nll (nlc (nld nl_Li64 _) nl0)))) nll rfl), asb hb44 (amv rfl), asb hb45 (ag_ (amv rfl)), asb hb49 (ag_ (amv rfl)), trivial⟩ ?_
          refine awp_false (by kernel_rfl) ?_
          refine awp_skip ?_
          refine thn ?_
          exact ⟨(), h, (mto (n := 116) [(1, (.dat 1 ((p1 : List Int).map c_i64))), (2, I p2), (3, (.dat 1 ((p3 : List (List Int)).map c_Li64))), (4, .ref 0 5 0 0), (10, I x5.2.1)] [0] [(z146_1 p0)] hφ0 (pc (.rn (.plain _ (nld nl_i64 _))) (pc rwl (pc (.rn (.plain _ (nld nl_Li64 _))) (pc (.rn (rqr rfl)) (pc rwl pn))))) (qc (spb (lc (.rn (.plain _ (nld nl_i64 _))) (lc rwl (lc rwl (lc rwl (lc (.rn (.plain _ (nld nl_GHour _))) ln)))))) qn))⟩
  ·skip
   obtain ⟨x52, hf51, h⟩ := bno h
   rcases bft ((!x52)) with hb53 | hb53
   ·replace h := bif_t hb53 h
    refine wx tbk [(1, rp [fu 20, (.tmp 17, (z146_2 p0))] (B x52)), (3, rp [(.tmp 19, (B ((!x52))))] (B true))] ⟨apc (first := []) (cap := []) (vs := [(z146_2 p0)]) rfl enter20 (ref07_RightJobX_ok N p0 _ hf51) rfl rfl (nlc (NLt.agg _ (nlc (nld nl_i64 _) (nlc nll (nlc nll (nlc nll (nlc (nld nl_GHour _) nl0)))))) nl0) nll rfl, asb hb53 (amv rfl), trivial⟩ ?_
    refine awp_true (by kernel_rfl) ?_
    obtain ⟨x55, hf54, h⟩ := bno h
    refine wx tbk [(0, rp [fu 17] (B x55))] ⟨apc (first := []) (cap := []) (vs := []) rfl enter17 (law07_awakeX_ok 2000  _ hf54) rfl rfl nl0 nll rfl, trivial⟩ ?_
    refine awp_ret ?_
    refine thenA_r ?_
    obtain rfl := osi h
    exact ⟨⟨[B x55], ⟨rot (by kernel_rfl), trivial⟩, rfl⟩, nll, Nat.le_refl _, fun n hn => absurd hn (Nat.not_lt_zero n)⟩
   ·replace h := bif_f hb53 h
    rcases bft ((decide ((p1.length : Int) > 120))) with hb56 | hb56
    ·replace h := bif_t hb56 h
     refine wx tbk [(1, rp [fu 20, (.tmp 17, (z146_2 p0))] (B x52)), (3, rp [(.tmp 19, (B ((!x52))))] (B false)), (5, rp [(.tmp 20, B false), (.tmp 21, (.dat 1 ((p1 : List Int).map c_i64)))] (I ((p1.length : Int)))), (8, rp [(.tmp 24, (B ((decide ((p1.length : Int) > 120)))))] (B true))] ⟨apc (first := []) (cap := []) (vs := [(z146_2 p0)]) rfl enter20 (ref07_RightJobX_ok N p0 _ hf51) rfl rfl (nlc (NLt.agg _ (nlc (nld nl_i64 _) (nlc nll (nlc nll (nlc nll (nlc (nld nl_GHour _) nl0)))))) nl0) nll rfl, asb hb53 (amv rfl), ag_ (alm (c := c_i64) (l := p1) (aln rfl Try.underlying37 rfl)), asb hb56 (amv rfl), trivial⟩ ?_
     refine awp_true (by kernel_rfl) ?_
     obtain ⟨x58, hf57, h⟩ := bno h
     refine wx tbk [(0, rp [fu 17] (B x58))] ⟨apc (first := []) (cap := []) (vs := []) rfl enter17 (law07_awakeX_ok 2000  _ hf57) rfl rfl nl0 nll rfl, trivial⟩ ?_
     refine awp_ret ?_
     refine thenA_r ?_
     obtain rfl := osi h
     exact ⟨⟨[B x58], ⟨rot (by kernel_rfl), trivial⟩, rfl⟩, nll, Nat.le_refl _, fun n hn => absurd hn (Nat.not_lt_zero n)⟩
    ·replace h := bif_f hb56 h
     refine wx tbk [(1, rp [fu 20, (.tmp 17, (z146_2 p0))] (B x52)), (3, rp [(.tmp 19, (B ((!x52))))] (B false)), (5, rp [(.tmp 20, B false), (.tmp 21, (.dat 1 ((p1 : List Int).map c_i64)))] (I ((p1.length : Int)))), (8, rp [(.tmp 24, (B ((decide ((p1.length : Int) > 120)))))] (B false)), (10, rp [(.tmp 25, B false), (.tmp 26, (.dat 1 ((p3 : List (List Int)).map c_Li64)))] (I ((p3.length : Int))))] ⟨apc (first := []) (cap := []) (vs := [(z146_2 p0)]) rfl enter20 (ref07_RightJobX_ok N p0 _ hf51) rfl rfl (nlc (NLt.agg _ (nlc (nld nl_i64 _) (nlc nll (nlc nll (nlc nll (nlc (nld nl_GHour _) nl0)))))) nl0) nll rfl, asb hb53 (amv rfl), ag_ (alm (c := c_i64) (l := p1) (aln rfl Try.underlying37 rfl)), asb hb56 (amv rfl), ag_ (alm (c := c_Li64) (l := p3) (aln rfl Try.underlying42 rfl)), trivial⟩ ?_
     rcases bft ((decide ((p3.length : Int) > 8))) with hc59 | hc59
     ·replace h := bif_t hc59 h
      refine wft hc59 (by kernel_rfl) ?_
      obtain ⟨x61, hf60, h⟩ := bno h
      refine wx tbk [(0, rp [fu 17] (B x61))] ⟨apc (first := []) (cap := []) (vs := []) rfl enter17 (law07_awakeX_ok 2000  _ hf60) rfl rfl nl0 nll rfl, trivial⟩ ?_
      refine awp_ret ?_
      refine thenA_r ?_
      obtain rfl := osi h
      exact ⟨⟨[B x61], ⟨rot (by kernel_rfl), trivial⟩, rfl⟩, nll, Nat.le_refl _, fun n hn => absurd hn (Nat.not_lt_zero n)⟩
     ·replace h := bif_f hc59 h
      refine wfn hc59 (by kernel_rfl) ?_
      refine awp_skip ?_
      refine thn ?_
      exact ⟨(), h, (mto (n := 116) [(1, (.dat 1 ((p1 : List Int).map c_i64))), (2, I p2), (3, (.dat 1 ((p3 : List (List Int)).map c_Li64))), (4, .ref 0 5 0 0)] [0] [(z146_1 p0)] hφ0 (pc (.rn (.plain _ (nld nl_i64 _))) (pc rwl (pc (.rn (.plain _ (nld nl_Li64 _))) (pc (.rn (rqr rfl)) pn)))) (qc (spb (lc (.rn (.plain _ (nld nl_i64 _))) (lc rwl (lc rwl (lc rwl (lc (.rn (.plain _ (nld nl_GHour _))) ln)))))) qn))⟩

end Go.Proofs.Ytlhakkkjgdbdpaa
