/-
  Functions of the program: what they compute, as plain functions, and that they do. No conditions.
-/
import Derived.Test.YtgdepcgbjjgnfaaX17
namespace Go.Proofs.Ytgdepcgbjjgnfaa
open Go.RowKit

def law10_TownDaysX (N : Nat) (p0 : GDay) (p1 : (List Int)) : Option Bool :=
  joinK (fun _ =>
    (law10_DayX N p0).bind fun x3 =>
    (town_ShortX N x3).bind fun x5 =>
    (law10_DayX N p0).bind fun x7 =>
    (law10_listX N p1).bind fun x9 =>
    (town_CostX N x7 x9).bind fun x11 =>
    (ref10_RightDayX N p0).bind fun x13 =>
    bif (!x13) then
     (law10_DayX N p0).bind fun x16 =>
     (town_CheckDayX N x16).bind fun x18 =>
     bif (x18 == 1) then
      bif (x5.2.2 == 1) then
       bif (x11.2 == 1) then
        bif (x5.1 == 0) then
         bif (x5.2.1 == 0) then
          bif (x11.1 == 0) then
           (law10_wakesX 2000 ).bind fun x26 =>
           some x26
          else
           some false
         else
          some false
        else
         some false
       else
        some false
      else
       some false
     else
      some false
    else
     joinK (fun _ =>
       (ref10_LevelsX N p0 p1).bind fun x29 =>
       bif (!x29.2) then
        (law10_DayX N p0).bind fun x32 =>
        (town_CheckDayX N x32).bind fun x34 =>
        bif (x34 == 0) then
         bif (x11.2 == 2) then
          bif (x11.1 == 0) then
           (law10_wakesX 2000 ).bind fun x39 =>
           some x39
          else
           some false
         else
          some false
        else
         some false
       else
        (law10_DayX N p0).bind fun x41 =>
        (town_CheckDayX N x41).bind fun x43 =>
        bif (x43 == 0) then
         bif (x11.2 == 0) then
          (ref10_CostX N p0 p1).bind fun x47 =>
          bif (x11.1 == x47) then
           (law10_wakesX 2000 ).bind fun x50 =>
           some x50
          else
           some false
         else
          some false
        else
         some false) fun k27 : Unit → Option Bool =>
     (ref10_ShortX N p0).bind fun x52 =>
     bif (decide (x52.1 < 0)) then
      bif (x5.2.2 != 7) then
       some false
      else
       bif (x5.1 != 0) then
        some false
       else
        bif (x5.2.1 != 0) then
         some false
        else
         k27 ()
     else
      bif (x5.2.2 != 0) then
       some false
      else
       bif (x5.1 != x52.1) then
        some false
       else
        bif (x5.2.1 != x52.2) then
         some false
        else
         k27 ()) fun k1 : Unit → Option Bool =>
  (law10_FewX N p0).bind fun x61 =>
  bif (!x61) then
   (law10_wakesX 2000 ).bind fun x64 =>
   some x64
  else
   bif (decide ((p1.length : Int) > 35)) then
    (law10_wakesX 2000 ).bind fun x67 =>
    some x67
   else
    k1 ()
set_option maxRecDepth 100000 in
set_option maxHeartbeats 4000000 in
theorem law10_TownDaysX_ok (N : Nat) (p0 : GDay) (p1 : (List Int)) (r : Bool) (h : law10_TownDaysX N p0 p1 = some r) : Spec Try.prog 17 [(.agg (c_GDay p0)), (.dat 1 (p1.map c_i64))] [] (B r) [] := by
  refine spec_of_awp Try.func17 rfl 0 (nle rfl) (fun X φ0 w0 hφ0 => ?_)
  unfold law10_TownDaysX at h
  refine wrg [⟨[(.tmp 0, (.agg [I p0.Tank, I p0.Start, (.dat 2 ((p0.Hours : List GHour).map c_GHour))]))], [(0, .unused)], .ref 0 3 0 0, [(0, (.own 3 [[I p0.Tank, I p0.Start, (.dat 2 ((p0.Hours : List GHour).map c_GHour))]]))], false⟩, mc (.bool false)] ?_ ?_
  ·exact ⟨astep_box rfl (by rfl) rfl rfl, aas rfl, trivial⟩
  obtain ⟨k1, hk_k1, h⟩ := jko h
  refine wjn (τ := Unit) (fun t => k1 t = some r) (fun _ => ⟨mk 138 [(1, (.dat 1 ((p1 : List Int).map c_i64))), (2, .ref 0 3 0 0)], [(.own 3 [[I p0.Tank, I p0.Start, (.dat 2 ((p0.Hours : List GHour).map c_GHour))]])]⟩) (fun t h => ?_) ?_
  ·subst hk_k1
   obtain ⟨x3, hf2, h⟩ := bno h
   obtain ⟨x5, hf4, h⟩ := bno h
   refine wrg [rb [(.tmp 2, .ref 0 3 0 0)] [(0, (.own 3 [[I p0.Tank, I p0.Start, (.dat 2 ((p0.Hours : List GHour).map c_GHour))]]))] (.agg [I p0.Tank, I p0.Start, (.dat 2 ((p0.Hours : List GHour).map c_GHour))]), rp [fu 31, (.tmp 24, (.agg [I p0.Tank, I p0.Start, (.dat 2 ((p0.Hours : List GHour).map c_GHour))]))] (.agg [I x3.Tank, I x3.Start, (.dat 2 ((x3.Hours : List GHour).map c_GHour))]), rp [fu 40, (.tmp 25, (.agg [I x3.Tank, I x3.Start, (.dat 2 ((x3.Hours : List GHour).map c_GHour))]))] (.tup [I x5.1, I x5.2.1, I x5.2.2]), mv 26 (.tup [I x5.1, I x5.2.1, I x5.2.2]), rp [(.tmp 23, (.tup [I x5.1, I x5.2.1, I x5.2.2]))] (I x5.1), rp [(.tmp 23, (.tup [I x5.1, I x5.2.1, I x5.2.2]))] (I x5.2.1), rp [(.tmp 23, (.tup [I x5.1, I x5.2.1, I x5.2.2]))] (I x5.2.2), mv 27 (I x5.1), mv 28 (I x5.2.1), mv 29 (I x5.2.2)] ?_ ?_
   ·exact ⟨ald rfl ti41 (by decide) rfl (nle rfl) rfl, apc (first := []) (cap := []) (vs := [(.agg [I p0.Tank, I p0.Start, (.dat 2 ((p0.Hours : List GHour).map c_GHour))])]) rfl enter31 (law10_DayX_ok N p0 _ hf2) rfl rfl (nlc (NLt.agg _ (nlc nll (nlc nll (nlc (nld nl_GHour _) nl0)))) nl0) (NLt.agg _ (nlc nll (nlc nll (nlc (nld nl_GHour _) nl0)))) rfl, apc (first := []) (cap := []) (vs := [(.agg [I x3.Tank, I x3.Start, (.dat 2 ((x3.Hours : List GHour).map c_GHour))])]) rfl enter40 (town_ShortX_ok N x3 _ hf4) rfl rfl (nlc (NLt.agg _ (nlc nll (nlc nll (nlc (nld nl_GHour _) nl0)))) nl0) (NLt.tup _ (nlc nll (nlc nll (nlc nll nl0)))) rfl, amv rfl, astep_extract rfl rfl, astep_extract rfl rfl, astep_extract rfl rfl, aas rfl, aas rfl, aas rfl, trivial⟩
   obtain ⟨x7, hf6, h⟩ := bno h
   obtain ⟨x9, hf8, h⟩ := bno h
   obtain ⟨x11, hf10, h⟩ := bno h
   refine wrg [rb [(.tmp 2, .ref 0 3 0 0)] [(0, (.own 3 [[I p0.Tank, I p0.Start, (.dat 2 ((p0.Hours : List GHour).map c_GHour))]]))] (.agg [I p0.Tank, I p0.Start, (.dat 2 ((p0.Hours : List GHour).map c_GHour))]), rp [fu 31, (.tmp 31, (.agg [I p0.Tank, I p0.Start, (.dat 2 ((p0.Hours : List GHour).map c_GHour))]))] (.agg [I x7.Tank, I x7.Start, (.dat 2 ((x7.Hours : List GHour).map c_GHour))]), mv 1 (.dat 1 ((p1 : List Int).map c_i64)), rp [fu 24, (.tmp 33, (.dat 1 ((p1 : List Int).map c_i64)))] (.dat 1 ((x9 : List Int).map c_i64)), rp [fu 61, (.tmp 32, (.agg [I x7.Tank, I x7.Start, (.dat 2 ((x7.Hours : List GHour).map c_GHour))])), (.tmp 34, (.dat 1 ((x9 : List Int).map c_i64)))] (.tup [I x11.1, I x11.2]), mv 35 (.tup [I x11.1, I x11.2]), rp [(.tmp 30, (.tup [I x11.1, I x11.2]))] (I x11.1), rp [(.tmp 30, (.tup [I x11.1, I x11.2]))] (I x11.2), mv 36 (I x11.1), mv 37 (I x11.2)] ?_ ?_
   ·exact ⟨ald rfl ti41 (by decide) rfl (nle rfl) rfl, apc (first := []) (cap := []) (vs := [(.agg [I p0.Tank, I p0.Start, (.dat 2 ((p0.Hours : List GHour).map c_GHour))])]) rfl enter31 (law10_DayX_ok N p0 _ hf6) rfl rfl (nlc (NLt.agg _ (nlc nll (nlc nll (nlc (nld nl_GHour _) nl0)))) nl0) (NLt.agg _ (nlc nll (nlc nll (nlc (nld nl_GHour _) nl0)))) rfl, amv rfl, apc (first := []) (cap := []) (vs := [(.dat 1 ((p1 : List Int).map c_i64))]) rfl enter24 (law10_listX_ok N p1 _ hf8) rfl rfl (nlc (nld nl_i64 _) nl0) (nld nl_i64 _) rfl, apc (first := []) (cap := []) (vs := [(.agg [I x7.Tank, I x7.Start, (.dat 2 ((x7.Hours : List GHour).map c_GHour))]), (.dat 1 ((x9 : List Int).map c_i64))]) rfl enter61 (town_CostX_ok N x7 x9 _ hf10) rfl rfl (nlc (NLt.agg _ (nlc nll (nlc nll (nlc (nld nl_GHour _) nl0)))) (nlc (nld nl_i64 _) nl0)) (NLt.tup _ (nlc nll (nlc nll nl0))) rfl, amv rfl, astep_extract rfl rfl, astep_extract rfl rfl, aas rfl, aas rfl, trivial⟩
   refine wsq ?_
   obtain ⟨x13, hf12, h⟩ := bno h
   refine wrg [rb [(.tmp 2, .ref 0 3 0 0)] [(0, (.own 3 [[I p0.Tank, I p0.Start, (.dat 2 ((p0.Hours : List GHour).map c_GHour))]]))] (.agg [I p0.Tank, I p0.Start, (.dat 2 ((p0.Hours : List GHour).map c_GHour))]), rp [fu 32, (.tmp 38, (.agg [I p0.Tank, I p0.Start, (.dat 2 ((p0.Hours : List GHour).map c_GHour))]))] (B x13), rp [(.tmp 39, B x13)] (B ((!x13)))] ?_ ?_
   ·exact ⟨ald rfl ti41 (by decide) rfl (nle rfl) rfl, apc (first := []) (cap := []) (vs := [(.agg [I p0.Tank, I p0.Start, (.dat 2 ((p0.Hours : List GHour).map c_GHour))])]) rfl enter32 (ref10_RightDayX_ok N p0 _ hf12) rfl rfl (nlc (NLt.agg _ (nlc nll (nlc nll (nlc (nld nl_GHour _) nl0)))) nl0) nll rfl, astep_not rfl, trivial⟩
   rcases bft ((!x13)) with hc14 | hc14
   ·replace h := bif_t hc14 h
    refine wft hc14 (by kernel_rfl) ?_
    obtain ⟨x16, hf15, h⟩ := bno h
    obtain ⟨x18, hf17, h⟩ := bno h
    rcases bft ((x18 == 1)) with hb19 | hb19
    ·replace h := bif_t hb19 h
     rcases bft ((x5.2.2 == 1)) with hb20 | hb20
     ·replace h := bif_t hb20 h
      rcases bft ((x11.2 == 1)) with hb21 | hb21
      ·replace h := bif_t hb21 h
       rcases bft ((x5.1 == 0)) with hb22 | hb22
       ·replace h := bif_t hb22 h
        rcases bft ((x5.2.1 == 0)) with hb23 | hb23
        ·replace h := bif_t hb23 h
         rcases bft ((x11.1 == 0)) with hb24 | hb24
         ·replace h := bif_t hb24 h
          obtain ⟨x26, hf25, h⟩ := bno h
          refine wrg [rb [(.tmp 2, .ref 0 3 0 0)] [(0, (.own 3 [[I p0.Tank, I p0.Start, (.dat 2 ((p0.Hours : List GHour).map c_GHour))]]))] (.agg [I p0.Tank, I p0.Start, (.dat 2 ((p0.Hours : List GHour).map c_GHour))]), rp [fu 31, (.tmp 41, (.agg [I p0.Tank, I p0.Start, (.dat 2 ((p0.Hours : List GHour).map c_GHour))]))] (.agg [I x16.Tank, I x16.Start, (.dat 2 ((x16.Hours : List GHour).map c_GHour))]), rp [fu 62, (.tmp 42, (.agg [I x16.Tank, I x16.Start, (.dat 2 ((x16.Hours : List GHour).map c_GHour))]))] (I x18), rp [(.tmp 43, I x18), ci 1] (B ((x18 == 1))), rp [(.tmp 44, (B ((x18 == 1))))] (B true), rp [(.tmp 45, B true), (.tmp 7, I x5.2.2)] (I x5.2.2), rp [(.tmp 45, B true), (.tmp 46, I x5.2.2), ci 1] (B ((x5.2.2 == 1))), rp [(.tmp 45, B true), (.tmp 47, (B ((x5.2.2 == 1)))), cb false] (B ((x5.2.2 == 1))), rp [(.tmp 48, (B ((x5.2.2 == 1))))] (B true), rp [(.tmp 49, B true), (.tmp 9, I x11.2)] (I x11.2), rp [(.tmp 49, B true), (.tmp 50, I x11.2), ci 1] (B ((x11.2 == 1))), rp [(.tmp 49, B true), (.tmp 51, (B ((x11.2 == 1)))), cb false] (B ((x11.2 == 1))), rp [(.tmp 52, (B ((x11.2 == 1))))] (B true), rp [(.tmp 53, B true), (.tmp 5, I x5.1)] (I x5.1), rp [(.tmp 53, B true), (.tmp 54, I x5.1), ci 0] (B ((x5.1 == 0))), rp [(.tmp 53, B true), (.tmp 55, (B ((x5.1 == 0)))), cb false] (B ((x5.1 == 0))), rp [(.tmp 56, (B ((x5.1 == 0))))] (B true), rp [(.tmp 57, B true), (.tmp 6, I x5.2.1)] (I x5.2.1), rp [(.tmp 57, B true), (.tmp 58, I x5.2.1), ci 0] (B ((x5.2.1 == 0))), rp [(.tmp 57, B true), (.tmp 59, (B ((x5.2.1 == 0)))), cb false] (B ((x5.2.1 == 0))), rp [(.tmp 60, (B ((x5.2.1 == 0))))] (B true), rp [(.tmp 61, B true), (.tmp 8, I x11.1)] (I x11.1), rp [(.tmp 61, B true), (.tmp 62, I x11.1), ci 0] (B ((x11.1 == 0))), rp [(.tmp 61, B true), (.tmp 63, (B ((x11.1 == 0)))), cb false] (B ((x11.1 == 0))), rp [(.tmp 64, (B ((x11.1 == 0))))] (B true), rp [(.tmp 65, B true), fu 21] (B x26), rp [(.tmp 65, B true), (.tmp 66, B x26), cb false] (B x26), mv 67 (B x26)] ?_ ?_
          ·exact ⟨ald rfl ti41 (by decide) rfl (nle rfl) rfl, apc (first := []) (cap := []) (vs := [(.agg [I p0.Tank, I p0.Start, (.dat 2 ((p0.Hours : List GHour).map c_GHour))])]) rfl enter31 (law10_DayX_ok N p0 _ hf15) rfl rfl (nlc (NLt.agg _ (nlc nll (nlc nll (nlc (nld nl_GHour _) nl0)))) nl0) (NLt.agg _ (nlc nll (nlc nll (nlc (nld nl_GHour _) nl0)))) rfl, apc (first := []) (cap := []) (vs := [(.agg [I x16.Tank, I x16.Start, (.dat 2 ((x16.Hours : List GHour).map c_GHour))])]) rfl enter62 (town_CheckDayX_ok N x16 _ hf17) rfl rfl (nlc (NLt.agg _ (nlc nll (nlc nll (nlc (nld nl_GHour _) nl0)))) nl0) nll rfl, abn rfl rfl, asb hb19 (amv rfl), ag_ (amv rfl), ag_ (abn rfl rfl), apk rfl rfl, asb hb20 (amv rfl), ag_ (amv rfl), ag_ (abn rfl rfl), apk rfl rfl, asb hb21 (amv rfl), ag_ (amv rfl), ag_ (abn rfl rfl), apk rfl rfl, asb hb22 (amv rfl), ag_ (amv rfl), ag_ (abn rfl rfl), apk rfl rfl, asb hb23 (amv rfl), ag_ (amv rfl), ag_ (abn rfl rfl), apk rfl rfl, asb hb24 (amv rfl), ag_ (apc (first := []) (cap := []) (vs := []) rfl enter21 (law10_wakesX_ok 2000  _ hf25) rfl rfl nl0 nll rfl), apk rfl rfl, aas rfl, trivial⟩
          refine awp_ret ?_
          refine thenA_r ?_
          obtain rfl := osi h
          exact ⟨⟨[B x26], ⟨rot (by kernel_rfl), trivial⟩, rfl⟩, nll, Nat.le_refl _, fun n hn => absurd hn (Nat.not_lt_zero n)⟩
         ·replace h := bif_f hb24 h
          refine wrg [rb [(.tmp 2, .ref 0 3 0 0)] [(0, (.own 3 [[I p0.Tank, I p0.Start, (.dat 2 ((p0.Hours : List GHour).map c_GHour))]]))] (.agg [I p0.Tank, I p0.Start, (.dat 2 ((p0.Hours : List GHour).map c_GHour))]), rp [fu 31, (.tmp 41, (.agg [I p0.Tank, I p0.Start, (.dat 2 ((p0.Hours : List GHour).map c_GHour))]))] (.agg [I x16.Tank, I x16.Start, (.dat 2 ((x16.Hours : List GHour).map c_GHour))]), rp [fu 62, (.tmp 42, (.agg [I x16.Tank, I x16.Start, (.dat 2 ((x16.Hours : List GHour).map c_GHour))]))] (I x18), rp [(.tmp 43, I x18), ci 1] (B ((x18 == 1))), rp [(.tmp 44, (B ((x18 == 1))))] (B true), rp [(.tmp 45, B true), (.tmp 7, I x5.2.2)] (I x5.2.2), rp [(.tmp 45, B true), (.tmp 46, I x5.2.2), ci 1] (B ((x5.2.2 == 1))), rp [(.tmp 45, B true), (.tmp 47, (B ((x5.2.2 == 1)))), cb false] (B ((x5.2.2 == 1))), rp [(.tmp 48, (B ((x5.2.2 == 1))))] (B true), rp [(.tmp 49, B true), (.tmp 9, I x11.2)] (I x11.2), rp [(.tmp 49, B true), (.tmp 50, I x11.2), ci 1] (B ((x11.2 == 1))), rp [(.tmp 49, B true), (.tmp 51, (B ((x11.2 == 1)))), cb false] (B ((x11.2 == 1))), rp [(.tmp 52, (B ((x11.2 == 1))))] (B true), rp [(.tmp 53, B true), (.tmp 5, I x5.1)] (I x5.1), rp [(.tmp 53, B true), (.tmp 54, I x5.1), ci 0] (B ((x5.1 == 0))), rp [(.tmp 53, B true), (.tmp 55, (B ((x5.1 == 0)))), cb false] (B ((x5.1 == 0))), rp [(.tmp 56, (B ((x5.1 == 0))))] (B true), rp [(.tmp 57, B true), (.tmp 6, I x5.2.1)] (I x5.2.1), rp [(.tmp 57, B true), (.tmp 58, I x5.2.1), ci 0] (B ((x5.2.1 == 0))), rp [(.tmp 57, B true), (.tmp 59, (B ((x5.2.1 == 0)))), cb false] (B ((x5.2.1 == 0))), rp [(.tmp 60, (B ((x5.2.1 == 0))))] (B true), rp [(.tmp 61, B true), (.tmp 8, I x11.1)] (I x11.1), rp [(.tmp 61, B true), (.tmp 62, I x11.1), ci 0] (B ((x11.1 == 0))), rp [(.tmp 61, B true), (.tmp 63, (B ((x11.1 == 0)))), cb false] (B ((x11.1 == 0))), rp [(.tmp 64, (B ((x11.1 == 0))))] (B false), sk 65 (B false), rp [(.tmp 65, B false), (.tmp 66, (.lit undef)), cb false] (B false), mv 67 (B false)] ?_ ?_
          ·exact ⟨ald rfl ti41 (by decide) rfl (nle rfl) rfl, apc (first := []) (cap := []) (vs := [(.agg [I p0.Tank, I p0.Start, (.dat 2 ((p0.Hours : List GHour).map c_GHour))])]) rfl enter31 (law10_DayX_ok N p0 _ hf15) rfl rfl (nlc (NLt.agg _ (nlc nll (nlc nll (nlc (nld nl_GHour _) nl0)))) nl0) (NLt.agg _ (nlc nll (nlc nll (nlc (nld nl_GHour _) nl0)))) rfl, apc (first := []) (cap := []) (vs := [(.agg [I x16.Tank, I x16.Start, (.dat 2 ((x16.Hours : List GHour).map c_GHour))])]) rfl enter62 (town_CheckDayX_ok N x16 _ hf17) rfl rfl (nlc (NLt.agg _ (nlc nll (nlc nll (nlc (nld nl_GHour _) nl0)))) nl0) nll rfl, abn rfl rfl, asb hb19 (amv rfl), ag_ (amv rfl), ag_ (abn rfl rfl), apk rfl rfl, asb hb20 (amv rfl), ag_ (amv rfl), ag_ (abn rfl rfl), apk rfl rfl, asb hb21 (amv rfl), ag_ (amv rfl), ag_ (abn rfl rfl), apk rfl rfl, asb hb22 (amv rfl), ag_ (amv rfl), ag_ (abn rfl rfl), apk rfl rfl, asb hb23 (amv rfl), ag_ (amv rfl), ag_ (abn rfl rfl), apk rfl rfl, asb hb24 (amv rfl), trivial, apk rfl rfl, aas rfl, trivial⟩
          refine awp_ret ?_
          refine thenA_r ?_
          obtain rfl := osi h
          exact ⟨⟨[B false], ⟨rot (by kernel_rfl), trivial⟩, rfl⟩, nll, Nat.le_refl _, fun n hn => absurd hn (Nat.not_lt_zero n)⟩
        ·replace h := bif_f hb23 h
         refine wrg [rb [(.tmp 2, .ref 0 3 0 0)] [(0, (.own 3 [[I p0.Tank, I p0.Start, (.dat 2 ((p0.Hours : List GHour).map c_GHour))]]))] (.agg [I p0.Tank, I p0.Start, (.dat 2 ((p0.Hours : List GHour).map c_GHour))]), rp [fu 31, (.tmp 41, (.agg [I p0.Tank, I p0.Start, (.dat 2 ((p0.Hours : List GHour).map c_GHour))]))] (.agg [I x16.Tank, I x16.Start, (.dat 2 ((x16.Hours : List GHour).map c_GHour))]), rp [fu 62, (.tmp 42, (.agg [I x16.Tank, I x16.Start, (.dat 2 ((x16.Hours : List GHour).map c_GHour))]))] (I x18), rp [(.tmp 43, I x18), ci 1] (B ((x18 == 1))), rp [(.tmp 44, (B ((x18 == 1))))] (B true), rp [(.tmp 45, B true), (.tmp 7, I x5.2.2)] (I x5.2.2), rp [(.tmp 45, B true), (.tmp 46, I x5.2.2), ci 1] (B ((x5.2.2 == 1))), rp [(.tmp 45, B true), (.tmp 47, (B ((x5.2.2 == 1)))), cb false] (B ((x5.2.2 == 1))), rp [(.tmp 48, (B ((x5.2.2 == 1))))] (B true), rp [(.tmp 49, B true), (.tmp 9, I x11.2)] (I x11.2), rp [(.tmp 49, B true), (.tmp 50, I x11.2), ci 1] (B ((x11.2 == 1))), rp [(.tmp 49, B true), (.tmp 51, (B ((x11.2 == 1)))), cb false] (B ((x11.2 == 1))), rp [(.tmp 52, (B ((x11.2 == 1))))] (B true), rp [(.tmp 53, B true), (.tmp 5, I x5.1)] (I x5.1), rp [(.tmp 53, B true), (.tmp 54, I x5.1), ci 0] (B ((x5.1 == 0))), rp [(.tmp 53, B true), (.tmp 55, (B ((x5.1 == 0)))), cb false] (B ((x5.1 == 0))), rp [(.tmp 56, (B ((x5.1 == 0))))] (B true), rp [(.tmp 57, B true), (.tmp 6, I x5.2.1)] (I x5.2.1), rp [(.tmp 57, B true), (.tmp 58, I x5.2.1), ci 0] (B ((x5.2.1 == 0))), rp [(.tmp 57, B true), (.tmp 59, (B ((x5.2.1 == 0)))), cb false] (B ((x5.2.1 == 0))), rp [(.tmp 60, (B ((x5.2.1 == 0))))] (B false), sk 61 (B false), sk 61 (B false), rp [(.tmp 61, B false), (.tmp 63, (.lit undef)), cb false] (B false), mv 64 (B false), sk 65 (B false), rp [(.tmp 65, B false), (.tmp 66, (.lit undef)), cb false] (B false), mv 67 (B false)] ?_ ?_
         ·exact ⟨ald rfl ti41 (by decide) rfl (nle rfl) rfl, apc (first := []) (cap := []) (vs := [(.agg [I p0.Tank, I p0.Start, (.dat 2 ((p0.Hours : List GHour).map c_GHour))])]) rfl enter31 (law10_DayX_ok N p0 _ hf15) rfl rfl (nlc (NLt.agg _ (nlc nll (nlc nll (nlc (nld nl_GHour _) nl0)))) nl0) (NLt.agg _ (nlc nll (nlc nll (nlc (nld nl_GHour _) nl0)))) rfl, apc (first := []) (cap := []) (vs := [(.agg [I x16.Tank, I x16.Start, (.dat 2 ((x16.Hours : List GHour).map c_GHour))])]) rfl enter62 (town_CheckDayX_ok N x16 _ hf17) rfl rfl (nlc (NLt.agg _ (nlc nll (nlc nll (nlc (nld nl_GHour _) nl0)))) nl0) nll rfl, abn rfl rfl, asb hb19 (amv rfl), ag_ (amv rfl), ag_ (abn rfl rfl), apk rfl rfl, asb hb20 (amv rfl), ag_ (amv rfl), ag_ (abn rfl rfl), apk rfl rfl, asb hb21 (amv rfl), ag_ (amv rfl), ag_ (abn rfl rfl), apk rfl rfl, asb hb22 (amv rfl), ag_ (amv rfl), ag_ (abn rfl rfl), apk rfl rfl, asb hb23 (amv rfl), trivial, trivial, apk rfl rfl, amv rfl, trivial, apk rfl rfl, aas rfl, trivial⟩
         refine awp_ret ?_
         refine thenA_r ?_
         obtain rfl := osi h
         exact ⟨⟨[B false], ⟨rot (by kernel_rfl), trivial⟩, rfl⟩, nll, Nat.le_refl _, fun n hn => absurd hn (Nat.not_lt_zero n)⟩
       ·replace h := bif_f hb22 h
        refine wrg [rb [(.tmp 2, .ref 0 3 0 0)] [(0, (.own 3 [[I p0.Tank, I p0.Start, (.dat 2 ((p0.Hours : List GHour).map c_GHour))]]))] (.agg [I p0.Tank, I p0.Start, (.dat 2 ((p0.Hours : List GHour).map c_GHour))]), rp [fu 31, (.tmp 41, (.agg [I p0.Tank, I p0.Start, (.dat 2 ((p0.Hours : List GHour).map c_GHour))]))] (.agg [I x16.Tank, I x16.Start, (.dat 2 ((x16.Hours : List GHour).map c_GHour))]), rp [fu 62, (.tmp 42, (.agg [I x16.Tank, I x16.Start, (.dat 2 ((x16.Hours : List GHour).map c_GHour))]))] (I x18), rp [(.tmp 43, I x18), ci 1] (B ((x18 == 1))), rp [(.tmp 44, (B ((x18 == 1))))] (B true), rp [(.tmp 45, B true), (.tmp 7, I x5.2.2)] (I x5.2.2), rp [(.tmp 45, B true), (.tmp 46, I x5.2.2), ci 1] (B ((x5.2.2 == 1))), rp [(.tmp 45, B true), (.tmp 47, (B ((x5.2.2 == 1)))), cb false] (B ((x5.2.2 == 1))), rp [(.tmp 48, (B ((x5.2.2 == 1))))] (B true), rp [(.tmp 49, B true), (.tmp 9, I x11.2)] (I x11.2), rp [(.tmp 49, B true), (.tmp 50, I x11.2), ci 1] (B ((x11.2 == 1))), rp [(.tmp 49, B true), (.tmp 51, (B ((x11.2 == 1)))), cb false] (B ((x11.2 == 1))), rp [(.tmp 52, (B ((x11.2 == 1))))] (B true), rp [(.tmp 53, B true), (.tmp 5, I x5.1)] (I x5.1), rp [(.tmp 53, B true), (.tmp 54, I x5.1), ci 0] (B ((x5.1 == 0))), rp [(.tmp 53, B true), (.tmp 55, (B ((x5.1 == 0)))), cb false] (B ((x5.1 == 0))), rp [(.tmp 56, (B ((x5.1 == 0))))] (B false), sk 57 (B false), sk 57 (B false), rp [(.tmp 57, B false), (.tmp 59, (.lit undef)), cb false] (B false), mv 60 (B false), sk 61 (B false), sk 61 (B false), rp [(.tmp 61, B false), (.tmp 63, (.lit undef)), cb false] (B false), mv 64 (B false), sk 65 (B false), rp [(.tmp 65, B false), (.tmp 66, (.lit undef)), cb false] (B false), mv 67 (B false)] ?_ ?_
        ·exact ⟨ald rfl ti41 (by decide) rfl (nle rfl) rfl, apc (first := []) (cap := []) (vs := [(.agg [I p0.Tank, I p0.Start, (.dat 2 ((p0.Hours : List GHour).map c_GHour))])]) rfl enter31 (law10_DayX_ok N p0 _ hf15) rfl rfl (nlc (NLt.agg _ (nlc nll (nlc nll (nlc (nld nl_GHour _) nl0)))) nl0) (NLt.agg _ (nlc nll (nlc nll (nlc (nld nl_GHour _) nl0)))) rfl, apc (first := []) (cap := []) (vs := [(.agg [I x16.Tank, I x16.Start, (.dat 2 ((x16.Hours : List GHour).map c_GHour))])]) rfl enter62 (town_CheckDayX_ok N x16 _ hf17) rfl rfl (nlc (NLt.agg _ (nlc nll (nlc nll (nlc (nld nl_GHour _) nl0)))) nl0) nll rfl, abn rfl rfl, asb hb19 (amv rfl), ag_ (amv rfl), ag_ (abn rfl rfl), apk rfl rfl, asb hb20 (amv rfl), ag_ (amv rfl), ag_ (abn rfl rfl), apk rfl rfl, asb hb21 (amv rfl), ag_ (amv rfl), ag_ (abn rfl rfl), apk rfl rfl, asb hb22 (amv rfl), trivial, trivial, apk rfl rfl, amv rfl, trivial, trivial, apk rfl rfl, amv rfl, trivial, apk rfl rfl, aas rfl, trivial⟩
        refine awp_ret ?_
        refine thenA_r ?_
        obtain rfl := osi h
        exact ⟨⟨[B false], ⟨rot (by kernel_rfl), trivial⟩, rfl⟩, nll, Nat.le_refl _, fun n hn => absurd hn (Nat.not_lt_zero n)⟩
      ·replace h := bif_f hb21 h
       refine wrg [rb [(.tmp 2, .ref 0 3 0 0)] [(0, (.own 3 [[I p0.Tank, I p0.Start, (.dat 2 ((p0.Hours : List GHour).map c_GHour))]]))] (.agg [I p0.Tank, I p0.Start, (.dat 2 ((p0.Hours : List GHour).map c_GHour))]), rp [fu 31, (.tmp 41, (.agg [I p0.Tank, I p0.Start, (.dat 2 ((p0.Hours : List GHour).map c_GHour))]))] (.agg [I x16.Tank, I x16.Start, (.dat 2 ((x16.Hours : List GHour).map c_GHour))]), rp [fu 62, (.tmp 42, (.agg [I x16.Tank, I x16.Start, (.dat 2 ((x16.Hours : List GHour).map c_GHour))]))] (I x18), rp [(.tmp 43, I x18), ci 1] (B ((x18 == 1))), rp [(.tmp 44, (B ((x18 == 1))))] (B true), rp [(.tmp 45, B true), (.tmp 7, I x5.2.2)] (I x5.2.2), rp [(.tmp 45, B true), (.tmp 46, I x5.2.2), ci 1] (B ((x5.2.2 == 1))), rp [(.tmp 45, B true), (.tmp 47, (B ((x5.2.2 == 1)))), cb false] (B ((x5.2.2 == 1))), rp [(.tmp 48, (B ((x5.2.2 == 1))))] (B true), rp [(.tmp 49, B true), (.tmp 9, I x11.2)] (I x11.2), rp [(.tmp 49, B true), (.tmp 50, I x11.2), ci 1] (B ((x11.2 == 1))), rp [(.tmp 49, B true), (.tmp 51, (B ((x11.2 == 1)))), cb false] (B ((x11.2 == 1))), rp [(.tmp 52, (B ((x11.2 == 1))))] (B false), sk 53 (B false), sk 53 (B false), rp [(.tmp 53, B false), (.tmp 55, (.lit undef)), cb false] (B false), mv 56 (B false), sk 57 (B false), sk 57 (B false), rp [(.tmp 57, B false), (.tmp 59, (.lit undef)), cb false] (B false), mv 60 (B false), sk 61 (B false), sk 61 (B false), rp [(.tmp 61, B false), (.tmp 63, (.lit undef)), cb false] (B false), mv 64 (B false), sk 65 (B false), rp [(.tmp 65, B false), (.tmp 66, (.lit undef)), cb false] (B false), mv 67 (B false)] ?_ ?_
       ·exact ⟨ald rfl ti41 (by decide) rfl (nle rfl) rfl, apc (first := []) (cap := []) (vs := [(.agg [I p0.Tank, I p0.Start, (.dat 2 ((p0.Hours : List GHour).map c_GHour))])]) rfl enter31 (law10_DayX_ok N p0 _ hf15) rfl rfl (nlc (NLt.agg _ (nlc nll (nlc nll (nlc (nld nl_GHour _) nl0)))) nl0) (NLt.agg _ (nlc nll (nlc nll (nlc (nld nl_GHour _) nl0)))) rfl, apc (first := []) (cap := []) (vs := [(.agg [I x16.Tank, I x16.Start, (.dat 2 ((x16.Hours : List GHour).map c_GHour))])]) rfl enter62 (town_CheckDayX_ok N x16 _ hf17) rfl rfl (nlc (NLt.agg _ (nlc nll (nlc nll (nlc (nld nl_GHour _) nl0)))) nl0) nll rfl, abn rfl rfl, asb hb19 (amv rfl), ag_ (amv rfl), ag_ (abn rfl rfl), apk rfl rfl, asb hb20 (amv rfl), ag_ (amv rfl), ag_ (abn rfl rfl), apk rfl rfl, asb hb21 (amv rfl), trivial, trivial, apk rfl rfl, amv rfl, trivial, trivial, apk rfl rfl, amv rfl, trivial, trivial, apk rfl rfl, amv rfl, trivial, apk rfl rfl, aas rfl, trivial⟩
       refine awp_ret ?_
       refine thenA_r ?_
       obtain rfl := osi h
       exact ⟨⟨[B false], ⟨rot (by kernel_rfl), trivial⟩, rfl⟩, nll, Nat.le_refl _, fun n hn => absurd hn (Nat.not_lt_zero n)⟩
     ·replace h := bif_f hb20 h
      refine wrg [rb [(.tmp 2, .ref 0 3 0 0)] [(0, (.own 3 [[I p0.Tank, I p0.Start, (.dat 2 ((p0.Hours : List GHour).map c_GHour))]]))] (.agg [I p0.Tank, I p0.Start, (.dat 2 ((p0.Hours : List GHour).map c_GHour))]), rp [fu 31, (.tmp 41, (.agg [I p0.Tank, I p0.Start, (.dat 2 ((p0.Hours : List GHour).map c_GHour))]))] (.agg [I x16.Tank, I x16.Start, (.dat 2 ((x16.Hours : List GHour).map c_GHour))]), rp [fu 62, (.tmp 42, (.agg [I x16.Tank, I x16.Start, (.dat 2 ((x16.Hours : List GHour).map c_GHour))]))] (I x18), rp [(.tmp 43, I x18), ci 1] (B ((x18 == 1))), rp [(.tmp 44, (B ((x18 == 1))))] (B true), rp [(.tmp 45, B true), (.tmp 7, I x5.2.2)] (I x5.2.2), rp [(.tmp 45, B true), (.tmp 46, I x5.2.2), ci 1] (B ((x5.2.2 == 1))), rp [(.tmp 45, B true), (.tmp 47, (B ((x5.2.2 == 1)))), cb false] (B ((x5.2.2 == 1))), rp [(.tmp 48, (B ((x5.2.2 == 1))))] (B false), sk 49 (B false), sk 49 (B false), rp [(.tmp 49, B false), (.tmp 51, (.lit undef)), cb false] (B false), mv 52 (B false), sk 53 (B false), sk 53 (B false), rp [(.tmp 53, B false), (.tmp 55, (.lit undef)), cb false] (B false), mv 56 (B false), sk 57 (B false), sk 57 (B false), rp [(.tmp 57, B false), (.tmp 59, (.lit undef)), cb false] (B false), mv 60 (B false), sk 61 (B false), sk 61 (B false), rp [(.tmp 61, B false), (.tmp 63, (.lit undef)), cb false] (B false), mv 64 (B false), sk 65 (B false), rp [(.tmp 65, B false), (.tmp 66, (.lit undef)), cb false] (B false), mv 67 (B false)] ?_ ?_
      ·exact ⟨ald rfl ti41 (by decide) rfl (nle rfl) rfl, apc (first := []) (cap := []) (vs := [(.agg [I p0.Tank, I p0.Start, (.dat 2 ((p0.Hours : List GHour).map c_GHour))])]) rfl enter31 (law10_DayX_ok N p0 _ hf15) rfl rfl (nlc (NLt.agg _ (nlc nll (nlc nll (nlc (nld nl_GHour _) nl0)))) nl0) (NLt.agg _ (nlc nll (nlc nll (nlc (nld nl_GHour _) nl0)))) rfl, apc (first := []) (cap := []) (vs := [(.agg [I x16.Tank, I x16.Start, (.dat 2 ((x16.Hours : List GHour).map c_GHour))])]) rfl enter62 (town_CheckDayX_ok N x16 _ hf17) rfl rfl (nlc (NLt.agg _ (nlc nll (nlc nll (nlc (nld nl_GHour _) nl0)))) nl0) nll rfl, abn rfl rfl, asb hb19 (amv rfl), ag_ (amv rfl), ag_ (abn rfl rfl), apk rfl rfl, asb hb20 (amv rfl), trivial, trivial, apk rfl rfl, amv rfl, trivial, trivial, apk rfl rfl, amv rfl, trivial, trivial, apk rfl rfl, amv rfl, trivial, trivial, apk rfl rfl, amv rfl, trivial, apk rfl rfl, aas rfl, trivial⟩
      refine awp_ret ?_
      refine thenA_r ?_
      obtain rfl := osi h
      exact ⟨⟨[B false], ⟨rot (by kernel_rfl), trivial⟩, rfl⟩, nll, Nat.le_refl _, fun n hn => absurd hn (Nat.not_lt_zero n)⟩
    ·replace h := bif_f hb19 h
     refine wrg [rb [(.tmp 2, .ref 0 3 0 0)] [(0, (.own 3 [[I p0.Tank, I p0.Start, (.dat 2 ((p0.Hours : List GHour).map c_GHour))]]))] (.agg [I p0.Tank, I p0.Start, (.dat 2 ((p0.Hours : List GHour).map c_GHour))]), rp [fu 31, (.tmp 41, (.agg [I p0.Tank, I p0.Start, (.dat 2 ((p0.Hours : List GHour).map c_GHour))]))] (.agg [I x16.Tank, I x16.Start, (.dat 2 ((x16.Hours : List GHour).map c_GHour))]), rp [fu 62, (.tmp 42, (.agg [I x16.Tank, I x16.Start, (.dat 2 ((x16.Hours : List GHour).map c_GHour))]))] (I x18), rp [(.tmp 43, I x18), ci 1] (B ((x18 == 1))), rp [(.tmp 44, (B ((x18 == 1))))] (B false), sk 45 (B false), sk 45 (B false), rp [(.tmp 45, B false), (.tmp 47, (.lit undef)), cb false] (B false), mv 48 (B false), sk 49 (B false), sk 49 (B false), rp [(.tmp 49, B false), (.tmp 51, (.lit undef)), cb false] (B false), mv 52 (B false), sk 53 (B false), sk 53 (B false), rp [(.tmp 53, B false), (.tmp 55, (.lit undef)), cb false] (B false), mv 56 (B false), sk 57 (B false), sk 57 (B false), rp [(.tmp 57, B false), (.tmp 59, (.lit undef)), cb false] (B false), mv 60 (B false), sk 61 (B false), sk 61 (B false), rp [(.tmp 61, B false), (.tmp 63, (.lit undef)), cb false] (B false), mv 64 (B false), sk 65 (B false), rp [(.tmp 65, B false), (.tmp 66, (.lit undef)), cb false] (B false), mv 67 (B false)] ?_ ?_
     ·exact ⟨ald rfl ti41 (by decide) rfl (nle rfl) rfl, apc (first := []) (cap := []) (vs := [(.agg [I p0.Tank, I p0.Start, (.dat 2 ((p0.Hours : List GHour).map c_GHour))])]) rfl enter31 (law10_DayX_ok N p0 _ hf15) rfl rfl (nlc (NLt.agg _ (nlc nll (nlc nll (nlc (nld nl_GHour _) nl0)))) nl0) (NLt.agg _ (nlc nll (nlc nll (nlc (nld nl_GHour _) nl0)))) rfl, apc (first := []) (cap := []) (vs := [(.agg [I x16.Tank, I x16.Start, (.dat 2 ((x16.Hours : List GHour).map c_GHour))])]) rfl enter62 (town_CheckDayX_ok N x16 _ hf17) rfl rfl (nlc (NLt.agg _ (nlc nll (nlc nll (nlc (nld nl_GHour _) nl0)))) nl0) nll rfl, abn rfl rfl, asb hb19 (amv rfl), trivial, trivial, apk rfl rfl, amv rfl, trivial, trivial, apk rfl rfl, amv rfl, trivial, trivial, apk rfl rfl, amv rfl, trivial, trivial, apk rfl rfl, amv rfl, trivial, trivial, apk rfl rfl, amv rfl, trivial, apk rfl rfl, aas rfl, trivial⟩
     refine awp_ret ?_
     refine thenA_r ?_
     obtain rfl := osi h
     exact ⟨⟨[B false], ⟨rot (by kernel_rfl), trivial⟩, rfl⟩, nll, Nat.le_refl _, fun n hn => absurd hn (Nat.not_lt_zero n)⟩
   ·replace h := bif_f hc14 h
    refine wfn hc14 (by kernel_rfl) ?_
    refine awp_skip ?_
    refine thn ?_
    obtain ⟨k27, hk_k27, h⟩ := jko h
    refine wjn (τ := Unit) (fun t => k27 t = some r) (fun _ => ⟨mk 138 [(1, (.dat 1 ((p1 : List Int).map c_i64))), (2, .ref 0 3 0 0), (8, I x11.1), (9, I x11.2)], [(.own 3 [[I p0.Tank, I p0.Start, (.dat 2 ((p0.Hours : List GHour).map c_GHour))]])]⟩) (fun t h => ?_) ?_
    ·subst hk_k27
     refine wsq ?_
     obtain ⟨x29, hf28, h⟩ := bno h
     refine wrg [rb [(.tmp 2, .ref 0 3 0 0)] [(0, (.own 3 [[I p0.Tank, I p0.Start, (.dat 2 ((p0.Hours : List GHour).map c_GHour))]]))] (.agg [I p0.Tank, I p0.Start, (.dat 2 ((p0.Hours : List GHour).map c_GHour))]), mv 1 (.dat 1 ((p1 : List Int).map c_i64)), rp [fu 63, (.tmp 98, (.agg [I p0.Tank, I p0.Start, (.dat 2 ((p0.Hours : List GHour).map c_GHour))])), (.tmp 99, (.dat 1 ((p1 : List Int).map c_i64)))] (.tup [(.dat 1 ((x29.1 : List Int).map c_i64)), B x29.2]), mv 100 (.tup [(.dat 1 ((x29.1 : List Int).map c_i64)), B x29.2]), rp [(.tmp 97, (.tup [(.dat 1 ((x29.1 : List Int).map c_i64)), B x29.2]))] (.dat 1 ((x29.1 : List Int).map c_i64)), rp [(.tmp 97, (.tup [(.dat 1 ((x29.1 : List Int).map c_i64)), B x29.2]))] (B x29.2), mv 101 (.dat 1 ((x29.1 : List Int).map c_i64)), mv 102 (B x29.2)] ?_ ?_
     ·exact ⟨ald rfl ti41 (by decide) rfl (nle rfl) rfl, amv rfl, apc (first := []) (cap := []) (vs := [(.agg [I p0.Tank, I p0.Start, (.dat 2 ((p0.Hours : List GHour).map c_GHour))]), (.dat 1 ((p1 : List Int).map c_i64))]) rfl enter63 (ref10_LevelsX_ok N p0 p1 _ hf28) rfl rfl (nlc (NLt.agg _ (nlc nll (nlc nll (nlc (nld nl_GHour _) nl0)))) (nlc (nld nl_i64 _) nl0)) (NLt.tup _ (nlc (nld nl_i64 _) (nlc nll nl0))) rfl, amv rfl, astep_extract rfl rfl, astep_extract rfl rfl, aas rfl, aas rfl, trivial⟩
     refine wrg [mv 13 (B x29.2), rp [(.tmp 103, B x29.2)] (B ((!x29.2)))] ?_ ?_
     ·exact ⟨amv rfl, astep_not rfl, trivial⟩
     rcases bft ((!x29.2)) with hc30 | hc30
     ·replace h := bif_t hc30 h
      refine wft hc30 (by kernel_rfl) ?_
      obtain ⟨x32, hf31, h⟩ := bno h
      obtain ⟨x34, hf33, h⟩ := bno h
      rcases bft ((x34 == 0)) with hb35 | hb35
      ·replace h := bif_t hb35 h
       rcases bft ((x11.2 == 2)) with hb36 | hb36
       ·replace h := bif_t hb36 h
        rcases bft ((x11.1 == 0)) with hb37 | hb37
        ·replace h := bif_t hb37 h
         obtain ⟨x39, hf38, h⟩ := bno h
         refine wrg [rb [(.tmp 2, .ref 0 3 0 0)] [(0, (.own 3 [[I p0.Tank, I p0.Start, (.dat 2 ((p0.Hours : List GHour).map c_GHour))]]))] (.agg [I p0.Tank, I p0.Start, (.dat 2 ((p0.Hours : List GHour).map c_GHour))]), rp [fu 31, (.tmp 105, (.agg [I p0.Tank, I p0.Start, (.dat 2 ((p0.Hours : List GHour).map c_GHour))]))] (.agg [I x32.Tank, I x32.Start, (.dat 2 ((x32.Hours : List GHour).map c_GHour))]), rp [fu 62, (.tmp 106, (.agg [I x32.Tank, I x32.Start, (.dat 2 ((x32.Hours : List GHour).map c_GHour))]))] (I x34), rp [(.tmp 107, I x34), ci 0] (B ((x34 == 0))), rp [(.tmp 108, (B ((x34 == 0))))] (B true), rp [(.tmp 109, B true), (.tmp 9, I x11.2)] (I x11.2), rp [(.tmp 109, B true), (.tmp 110, I x11.2), ci 2] (B ((x11.2 == 2))), rp [(.tmp 109, B true), (.tmp 111, (B ((x11.2 == 2)))), cb false] (B ((x11.2 == 2))), rp [(.tmp 112, (B ((x11.2 == 2))))] (B true), rp [(.tmp 113, B true), (.tmp 8, I x11.1)] (I x11.1), rp [(.tmp 113, B true), (.tmp 114, I x11.1), ci 0] (B ((x11.1 == 0))), rp [(.tmp 113, B true), (.tmp 115, (B ((x11.1 == 0)))), cb false] (B ((x11.1 == 0))), rp [(.tmp 116, (B ((x11.1 == 0))))] (B true), rp [(.tmp 117, B true), fu 21] (B x39), rp [(.tmp 117, B true), (.tmp 118, B x39), cb false] (B x39), mv 119 (B x39)] ?_ ?_
         ·exact ⟨ald rfl ti41 (by decide) rfl (nle rfl) rfl, apc (first := []) (cap := []) (vs := [(.agg [I p0.Tank, I p0.Start, (.dat 2 ((p0.Hours : List GHour).map c_GHour))])]) rfl enter31 (law10_DayX_ok N p0 _ hf31) rfl rfl (nlc (NLt.agg _ (nlc nll (nlc nll (nlc (nld nl_GHour _) nl0)))) nl0) (NLt.agg _ (nlc nll (nlc nll (nlc (nld nl_GHour _) nl0)))) rfl, apc (first := []) (cap := []) (vs := [(.agg [I x32.Tank, I x32.Start, (.dat 2 ((x32.Hours : List GHour).map c_GHour))])]) rfl enter62 (town_CheckDayX_ok N x32 _ hf33) rfl rfl (nlc (NLt.agg _ (nlc nll (nlc nll (nlc (nld nl_GHour _) nl0)))) nl0) nll rfl, abn rfl rfl, asb hb35 (amv rfl), ag_ (amv rfl), ag_ (abn rfl rfl), apk rfl rfl, asb hb36 (amv rfl), ag_ (amv rfl), ag_ (abn rfl rfl), apk rfl rfl, asb hb37 (amv rfl), ag_ (apc (first := []) (cap := []) (vs := []) rfl enter21 (law10_wakesX_ok 2000  _ hf38) rfl rfl nl0 nll rfl), apk rfl rfl, aas rfl, trivial⟩
         refine awp_ret ?_
         refine thenA_r ?_
         obtain rfl := osi h
         exact ⟨⟨[B x39], ⟨rot (by kernel_rfl), trivial⟩, rfl⟩, nll, Nat.le_refl _, fun n hn => absurd hn (Nat.not_lt_zero n)⟩
        ·replace h := bif_f hb37 h
         refine wrg [rb [(.tmp 2, .ref 0 3 0 0)] [(0, (.own 3 [[I p0.Tank, I p0.Start, (.dat 2 ((p0.Hours : List GHour).map c_GHour))]]))] (.agg [I p0.Tank, I p0.Start, (.dat 2 ((p0.Hours : List GHour).map c_GHour))]), rp [fu 31, (.tmp 105, (.agg [I p0.Tank, I p0.Start, (.dat 2 ((p0.Hours : List GHour).map c_GHour))]))] (.agg [I x32.Tank, I x32.Start, (.dat 2 ((x32.Hours : List GHour).map c_GHour))]), rp [fu 62, (.tmp 106, (.agg [I x32.Tank, I x32.Start, (.dat 2 ((x32.Hours : List GHour).map c_GHour))]))] (I x34), rp [(.tmp 107, I x34), ci 0] (B ((x34 == 0))), rp [(.tmp 108, (B ((x34 == 0))))] (B true), rp [(.tmp 109, B true), (.tmp 9, I x11.2)] (I x11.2), rp [(.tmp 109, B true), (.tmp 110, I x11.2), ci 2] (B ((x11.2 == 2))), rp [(.tmp 109, B true), (.tmp 111, (B ((x11.2 == 2)))), cb false] (B ((x11.2 == 2))), rp [(.tmp 112, (B ((x11.2 == 2))))] (B true), rp [(.tmp 113, B true), (.tmp 8, I x11.1)] (I x11.1), rp [(.tmp 113, B true), (.tmp 114, I x11.1), ci 0] (B ((x11.1 == 0))), rp [(.tmp 113, B true), (.tmp 115, (B ((x11.1 == 0)))), cb false] (B ((x11.1 == 0))), rp [(.tmp 116, (B ((x11.1 == 0))))] (B false), sk 117 (B false), rp [(.tmp 117, B false), (.tmp 118, (.lit undef)), cb false] (B false), mv 119 (B false)] ?_ ?_
         ·exact ⟨ald rfl ti41 (by decide) rfl (nle rfl) rfl, apc (first := []) (cap := []) (vs := [(.agg [I p0.Tank, I p0.Start, (.dat 2 ((p0.Hours : List GHour).map c_GHour))])]) rfl enter31 (law10_DayX_ok N p0 _ hf31) rfl rfl (nlc (NLt.agg _ (nlc nll (nlc nll (nlc (nld nl_GHour _) nl0)))) nl0) (NLt.agg _ (nlc nll (nlc nll (nlc (nld nl_GHour _) nl0)))) rfl, apc (first := []) (cap := []) (vs := [(.agg [I x32.Tank, I x32.Start, (.dat 2 ((x32.Hours : List GHour).map c_GHour))])]) rfl enter62 (town_CheckDayX_ok N x32 _ hf33) rfl rfl (nlc (NLt.agg _ (nlc nll (nlc nll (nlc (nld nl_GHour _) nl0)))) nl0) nll rfl, abn rfl rfl, asb hb35 (amv rfl), ag_ (amv rfl), ag_ (abn rfl rfl), apk rfl rfl, asb hb36 (amv rfl), ag_ (amv rfl), ag_ (abn rfl rfl), apk rfl rfl, asb hb37 (amv rfl), trivial, apk rfl rfl, aas rfl, trivial⟩
         refine awp_ret ?_
         refine thenA_r ?_
         obtain rfl := osi h
         exact ⟨⟨[B false], ⟨rot (by kernel_rfl), trivial⟩, rfl⟩, nll, Nat.le_refl _, fun n hn => absurd hn (Nat.not_lt_zero n)⟩
       ·replace h := bif_f hb36 h
        refine wrg [rb [(.tmp 2, .ref 0 3 0 0)] [(0, (.own 3 [[I p0.Tank, I p0.Start, (.dat 2 ((p0.Hours : List GHour).map c_GHour))]]))] (.agg [I p0.Tank, I p0.Start, (.dat 2 ((p0.Hours : List GHour).map c_GHour))]), rp [fu 31, (.tmp 105, (.agg [I p0.Tank, I p0.Start, (.dat 2 ((p0.Hours : List GHour).map c_GHour))]))] (.agg [I x32.Tank, I x32.Start, (.dat 2 ((x32.Hours : List GHour).map c_GHour))]), rp [fu 62, (.tmp 106, (.agg [I x32.Tank, I x32.Start, (.dat 2 ((x32.Hours : List GHour).map c_GHour))]))] (I x34), rp [(.tmp 107, I x34), ci 0] (B ((x34 == 0))), rp [(.tmp 108, (B ((x34 == 0))))] (B true), rp [(.tmp 109, B true), (.tmp 9, I x11.2)] (I x11.2), rp [(.tmp 109, B true), (.tmp 110, I x11.2), ci 2] (B ((x11.2 == 2))), rp [(.tmp 109, B true), (.tmp 111, (B ((x11.2 == 2)))), cb false] (B ((x11.2 == 2))), rp [(.tmp 112, (B ((x11.2 == 2))))] (B false), sk 113 (B false), sk 113 (B false), rp [(.tmp 113, B false), (.tmp 115, (.lit undef)), cb false] (B false), mv 116 (B false), sk 117 (B false), rp [(.tmp 117, B false), (.tmp 118, (.lit undef)), cb false] (B false), mv 119 (B false)] ?_ ?_
        ·exact ⟨ald rfl ti41 (by decide) rfl (nle rfl) rfl, apc (first := []) (cap := []) (vs := [(.agg [I p0.Tank, I p0.Start, (.dat 2 ((p0.Hours : List GHour).map c_GHour))])]) rfl enter31 (law10_DayX_ok N p0 _ hf31) rfl rfl (nlc (NLt.agg _ (nlc nll (nlc nll (nlc (nld nl_GHour _) nl0)))) nl0) (NLt.agg _ (nlc nll (nlc nll (nlc (nld nl_GHour _) nl0)))) rfl, apc (first := []) (cap := []) (vs := [(.agg [I x32.Tank, I x32.Start, (.dat 2 ((x32.Hours : List GHour).map c_GHour))])]) rfl enter62 (town_CheckDayX_ok N x32 _ hf33) rfl rfl (nlc (NLt.agg _ (nlc nll (nlc nll (nlc (nld nl_GHour _) nl0)))) nl0) nll rfl, abn rfl rfl, asb hb35 (amv rfl), ag_ (amv rfl), ag_ (abn rfl rfl), apk rfl rfl, asb hb36 (amv rfl), trivial, trivial, apk rfl rfl, amv rfl, trivial, apk rfl rfl, aas rfl, trivial⟩
        refine awp_ret ?_
        refine thenA_r ?_
        obtain rfl := osi h
        exact ⟨⟨[B false], ⟨rot (by kernel_rfl), trivial⟩, rfl⟩, nll, Nat.le_refl _, fun n hn => absurd hn (Nat.not_lt_zero n)⟩
      ·replace h := bif_f hb35 h
       refine wrg [rb [(.tmp 2, .ref 0 3 0 0)] [(0, (.own 3 [[I p0.Tank, I p0.Start, (.dat 2 ((p0.Hours : List GHour).map c_GHour))]]))] (.agg [I p0.Tank, I p0.Start, (.dat 2 ((p0.Hours : List GHour).map c_GHour))]), rp [fu 31, (.tmp 105, (.agg [I p0.Tank, I p0.Start, (.dat 2 ((p0.Hours : List GHour).map c_GHour))]))] (.agg [I x32.Tank, I x32.Start, (.dat 2 ((x32.Hours : List GHour).map c_GHour))]), rp [fu 62, (.tmp 106, (.agg [I x32.Tank, I x32.Start, (.dat 2 ((x32.Hours : List GHour).map c_GHour))]))] (I x34), rp [(.tmp 107, I x34), ci 0] (B ((x34 == 0))), rp [(.tmp 108, (B ((x34 == 0))))] (B false), sk 109 (B false), sk 109 (B false), rp [(.tmp 109, B false), (.tmp 111, (.lit undef)), cb false] (B false), mv 112 (B false), sk 113 (B false), sk 113 (B false), rp [(.tmp 113, B false), (.tmp 115, (.lit undef)), cb false] (B false), mv 116 (B false), sk 117 (B false), rp [(.tmp 117, B false), (.tmp 118, (.lit undef)), cb false] (B false), mv 119 (B false)] ?_ ?_
       ·exact ⟨ald rfl ti41 (by decide) rfl (nle rfl) rfl, apc (first := []) (cap := []) (vs := [(.agg [I p0.Tank, I p0.Start, (.dat 2 ((p0.Hours : List GHour).map c_GHour))])]) rfl enter31 (law10_DayX_ok N p0 _ hf31) rfl rfl (nlc (NLt.agg _ (nlc nll (nlc nll (nlc (nld nl_GHour _) nl0)))) nl0) (NLt.agg _ (nlc nll (nlc nll (nlc (nld nl_GHour _) nl0)))) rfl, apc (first := []) (cap := []) (vs := [(.agg [I x32.Tank, I x32.Start, (.dat 2 ((x32.Hours : List GHour).map c_GHour))])]) rfl enter62 (town_CheckDayX_ok N x32 _ hf33) rfl rfl (nlc (NLt.agg _ (nlc nll (nlc nll (nlc (nld nl_GHour _) nl0)))) nl0) nll rfl, abn rfl rfl, asb hb35 (amv rfl), trivial, trivial, apk rfl rfl, amv rfl, trivial, trivial, apk rfl rfl, amv rfl, trivial, apk rfl rfl, aas rfl, trivial⟩
       refine awp_ret ?_
       refine thenA_r ?_
       obtain rfl := osi h
       exact ⟨⟨[B false], ⟨rot (by kernel_rfl), trivial⟩, rfl⟩, nll, Nat.le_refl _, fun n hn => absurd hn (Nat.not_lt_zero n)⟩
     ·replace h := bif_f hc30 h
      refine wfn hc30 (by kernel_rfl) ?_
      refine awp_skip ?_
      refine thn ?_
      obtain ⟨x41, hf40, h⟩ := bno h
      obtain ⟨x43, hf42, h⟩ := bno h
      rcases bft ((x43 == 0)) with hb44 | hb44
      ·replace h := bif_t hb44 h
       rcases bft ((x11.2 == 0)) with hb45 | hb45
       ·replace h := bif_t hb45 h
        obtain ⟨x47, hf46, h⟩ := bno h
        rcases bft ((x11.1 == x47)) with hb48 | hb48
        ·replace h := bif_t hb48 h
         obtain ⟨x50, hf49, h⟩ := bno h
         refine wrg [rb [(.tmp 2, .ref 0 3 0 0)] [(0, (.own 3 [[I p0.Tank, I p0.Start, (.dat 2 ((p0.Hours : List GHour).map c_GHour))]]))] (.agg [I p0.Tank, I p0.Start, (.dat 2 ((p0.Hours : List GHour).map c_GHour))]), rp [fu 31, (.tmp 120, (.agg [I p0.Tank, I p0.Start, (.dat 2 ((p0.Hours : List GHour).map c_GHour))]))] (.agg [I x41.Tank, I x41.Start, (.dat 2 ((x41.Hours : List GHour).map c_GHour))]), rp [fu 62, (.tmp 121, (.agg [I x41.Tank, I x41.Start, (.dat 2 ((x41.Hours : List GHour).map c_GHour))]))] (I x43), rp [(.tmp 122, I x43), ci 0] (B ((x43 == 0))), rp [(.tmp 123, (B ((x43 == 0))))] (B true), rp [(.tmp 124, B true), (.tmp 9, I x11.2)] (I x11.2), rp [(.tmp 124, B true), (.tmp 125, I x11.2), ci 0] (B ((x11.2 == 0))), rp [(.tmp 124, B true), (.tmp 126, (B ((x11.2 == 0)))), cb false] (B ((x11.2 == 0))), rp [(.tmp 127, (B ((x11.2 == 0))))] (B true), rp [(.tmp 128, B true), (.tmp 8, I x11.1)] (I x11.1), rb [(.tmp 128, B true), (.tmp 2, .ref 0 3 0 0)] [(0, (.own 3 [[I p0.Tank, I p0.Start, (.dat 2 ((p0.Hours : List GHour).map c_GHour))]]))] (.agg [I p0.Tank, I p0.Start, (.dat 2 ((p0.Hours : List GHour).map c_GHour))]), rp [(.tmp 128, B true), (.tmp 1, (.dat 1 ((p1 : List Int).map c_i64)))] (.dat 1 ((p1 : List Int).map c_i64)), rp [(.tmp 128, B true), fu 35, (.tmp 130, (.agg [I p0.Tank, I p0.Start, (.dat 2 ((p0.Hours : List GHour).map c_GHour))])), (.tmp 131, (.dat 1 ((p1 : List Int).map c_i64)))] (I x47), rp [(.tmp 128, B true), (.tmp 129, I x11.1), (.tmp 132, I x47)] (B ((x11.1 == x47))), rp [(.tmp 128, B true), (.tmp 133, (B ((x11.1 == x47)))), cb false] (B ((x11.1 == x47))), rp [(.tmp 134, (B ((x11.1 == x47))))] (B true), rp [(.tmp 135, B true), fu 21] (B x50), rp [(.tmp 135, B true), (.tmp 136, B x50), cb false] (B x50), mv 137 (B x50)] ?_ ?_
         ·exact ⟨ald rfl ti41 (by decide) rfl (nle rfl) rfl, apc (first := []) (cap := []) (vs := [(.agg [I p0.Tank, I p0.Start, (.dat 2 ((p0.Hours : List GHour).map c_GHour))])]) rfl enter31 (law10_DayX_ok N p0 _ hf40) rfl rfl (nlc (NLt.agg _ (nlc nll (nlc nll (nlc (nld nl_GHour _) nl0)))) nl0) (NLt.agg _ (nlc nll (nlc nll (nlc (nld nl_GHour _) nl0)))) rfl, apc (first := []) (cap := []) (vs := [(.agg [I x41.Tank, I x41.Start, (.dat 2 ((x41.Hours : List GHour).map c_GHour))])]) rfl enter62 (town_CheckDayX_ok N x41 _ hf42) rfl rfl (nlc (NLt.agg _ (nlc nll (nlc nll (nlc (nld nl_GHour _) nl0)))) nl0) nll rfl, abn rfl rfl, asb hb44 (amv rfl), ag_ (amv rfl), ag_ (abn rfl rfl), apk rfl rfl, asb hb45 (amv rfl), ag_ (amv rfl), ag_ (ald rfl ti41 (by decide) rfl (nle rfl) rfl), ag_ (amv rfl), ag_ (apc (first := []) (cap := []) (vs := [(.agg [I p0.Tank, I p0.Start, (.dat 2 ((p0.Hours : List GHour).map c_GHour))]), (.dat 1 ((p1 : List Int).map c_i64))]) rfl enter35 (ref10_CostX_ok N p0 p1 _ hf46) rfl rfl (nlc (NLt.agg _ (nlc nll (nlc nll (nlc (nld nl_GHour _) nl0)))) (nlc (nld nl_i64 _) nl0)) nll rfl), ag_ (abn rfl rfl), apk rfl rfl, asb hb48 (amv rfl), ag_ (apc (first := []) (cap := []) (vs := []) rfl enter21 (law10_wakesX_ok 2000  _ hf49) rfl rfl nl0 nll rfl), apk rfl rfl, aas rfl, trivial⟩
         refine awp_ret ?_
         obtain rfl := osi h
         exact ⟨⟨[B x50], ⟨rot (by kernel_rfl), trivial⟩, rfl⟩, nll, Nat.le_refl _, fun n hn => absurd hn (Nat.not_lt_zero n)⟩
        ·replace h := bif_f hb48 h
         refine wrg [rb [(.tmp 2, .ref 0 3 0 0)] [(0, (.own 3 [[I p0.Tank, I p0.Start, (.dat 2 ((p0.Hours : List GHour).map c_GHour))]]))] (.agg [I p0.Tank, I p0.Start, (.dat 2 ((p0.Hours : List GHour).map c_GHour))]), rp [fu 31, (.tmp 120, (.agg [I p0.Tank, I p0.Start, (.dat 2 ((p0.Hours : List GHour).map c_GHour))]))] (.agg [I x41.Tank, I x41.Start, (.dat 2 ((x41.Hours : List GHour).map c_GHour))]), rp [fu 62, (.tmp 121, (.agg [I x41.Tank, I x41.Start, (.dat 2 ((x41.Hours : List GHour).map c_GHour))]))] (I x43), rp [(.tmp 122, I x43), ci 0] (B ((x43 == 0))), rp [(.tmp 123, (B ((x43 == 0))))] (B true), rp [(.tmp 124, B true), (.tmp 9, I x11.2)] (I x11.2), rp [(.tmp 124, B true), (.tmp 125, I x11.2), ci 0] (B ((x11.2 == 0))), rp [(.tmp 124, B true), (.tmp 126, (B ((x11.2 == 0)))), cb false] (B ((x11.2 == 0))), rp [(.tmp 127, (B ((x11.2 == 0))))] (B true), rp [(.tmp 128, B true), (.tmp 8, I x11.1)] (I x11.1), rb [(.tmp 128, B true), (.tmp 2, .ref 0 3 0 0)] [(0, (.own 3 [[I p0.Tank, I p0.Start, (.dat 2 ((p0.Hours : List GHour).map c_GHour))]]))] (.agg [I p0.Tank, I p0.Start, (.dat 2 ((p0.Hours : List GHour).map c_GHour))]), rp [(.tmp 128, B true), (.tmp 1, (.dat 1 ((p1 : List Int).map c_i64)))] (.dat 1 ((p1 : List Int).map c_i64)), rp [(.tmp 128, B true), fu 35, (.tmp 130, (.agg [I p0.Tank, I p0.Start, (.dat 2 ((p0.Hours : List GHour).map c_GHour))])), (.tmp 131, (.dat 1 ((p1 : List Int).map c_i64)))] (I x47), rp [(.tmp 128, B true), (.tmp 129, I x11.1), (.tmp 132, I x47)] (B ((x11.1 == x47))), rp [(.tmp 128, B true), (.tmp 133, (B ((x11.1 == x47)))), cb false] (B ((x11.1 == x47))), rp [(.tmp 134, (B ((x11.1 == x47))))] (B false), sk 135 (B false), rp [(.tmp 135, B false), (.tmp 136, (.lit undef)), cb false] (B false), mv 137 (B false)] ?_ ?_
         ·exact ⟨ald rfl ti41 (by decide) rfl (nle rfl) rfl, apc (first := []) (cap := []) (vs := [(.agg [I p0.Tank, I p0.Start, (.dat 2 ((p0.Hours : List GHour).map c_GHour))])]) rfl enter31 (law10_DayX_ok N p0 _ hf40) rfl rfl (nlc (NLt.agg _ (nlc nll (nlc nll (nlc (nld nl_GHour _) nl0)))) nl0) (NLt.agg _ (nlc nll (nlc nll (nlc (nld nl_GHour _) nl0)))) rfl, apc (first := []) (cap := []) (vs := [(.agg [I x41.Tank, I x41.Start, (.dat 2 ((x41.Hours : List GHour).map c_GHour))])]) rfl enter62 (town_CheckDayX_ok N x41 _ hf42) rfl rfl (nlc (NLt.agg _ (nlc nll (nlc nll (nlc (nld nl_GHour _) nl0)))) nl0) nll rfl, abn rfl rfl, asb hb44 (amv rfl), ag_ (amv rfl), ag_ (abn rfl rfl), apk rfl rfl, asb hb45 (amv rfl), ag_ (amv rfl), ag_ (ald rfl ti41 (by decide) rfl (nle rfl) rfl), ag_ (amv rfl), ag_ (apc (first := []) (cap := []) (vs := [(.agg [I p0.Tank, I p0.Start, (.dat 2 ((p0.Hours : List GHour).map c_GHour))]), (.dat 1 ((p1 : List Int).map c_i64))]) rfl enter35 (ref10_CostX_ok N p0 p1 _ hf46) rfl rfl (nlc (NLt.agg _ (nlc nll (nlc nll (nlc (nld nl_GHour _) nl0)))) (nlc (nld nl_i64 _) nl0)) nll rfl), ag_ (abn rfl rfl), apk rfl rfl, asb hb48 (amv rfl), trivial, apk rfl rfl, aas rfl, trivial⟩
         refine awp_ret ?_
         obtain rfl := osi h
         exact ⟨⟨[B false], ⟨rot (by kernel_rfl), trivial⟩, rfl⟩, nll, Nat.le_refl _, fun n hn => absurd hn (Nat.not_lt_zero n)⟩
       ·replace h := bif_f hb45 h
        refine wrg [rb [(.tmp 2, .ref 0 3 0 0)] [(0, (.own 3 [[I p0.Tank, I p0.Start, (.dat 2 ((p0.Hours : List GHour).map c_GHour))]]))] (.agg [I p0.Tank, I p0.Start, (.dat 2 ((p0.Hours : List GHour).map c_GHour))]), rp [fu 31, (.tmp 120, (.agg [I p0.Tank, I p0.Start, (.dat 2 ((p0.Hours : List GHour).map c_GHour))]))] (.agg [I x41.Tank, I x41.Start, (.dat 2 ((x41.Hours : List GHour).map c_GHour))]), rp [fu 62, (.tmp 121, (.agg [I x41.Tank, I x41.Start, (.dat 2 ((x41.Hours : List GHour).map c_GHour))]))] (I x43), rp [(.tmp 122, I x43), ci 0] (B ((x43 == 0))), rp [(.tmp 123, (B ((x43 == 0))))] (B true), rp [(.tmp 124, B true), (.tmp 9, I x11.2)] (I x11.2), rp [(.tmp 124, B true), (.tmp 125, I x11.2), ci 0] (B ((x11.2 == 0))), rp [(.tmp 124, B true), (.tmp 126, (B ((x11.2 == 0)))), cb false] (B ((x11.2 == 0))), rp [(.tmp 127, (B ((x11.2 == 0))))] (B false), sk 128 (B false), sk 128 (B false), sk 128 (B false), sk 128 (B false), sk 128 (B false), rp [(.tmp 128, B false), (.tmp 133, (.lit undef)), cb false] (B false), mv 134 (B false), sk 135 (B false), rp [(.tmp 135, B false), (.tmp 136, (.lit undef)), cb false] (B false), mv 137 (B false)] ?_ ?_
        ·exact ⟨ald rfl ti41 (by decide) rfl (nle rfl) rfl, apc (first := []) (cap := []) (vs := [(.agg [I p0.Tank, I p0.Start, (.dat 2 ((p0.Hours : List GHour).map c_GHour))])]) rfl enter31 (law10_DayX_ok N p0 _ hf40) rfl rfl (nlc (NLt.agg _ (nlc nll (nlc nll (nlc (nld nl_GHour _) nl0)))) nl0) (NLt.agg _ (nlc nll (nlc nll (nlc (nld nl_GHour _) nl0)))) rfl, apc (first := []) (cap := []) (vs := [(.agg [I x41.Tank, I x41.Start, (.dat 2 ((x41.Hours : List GHour).map c_GHour))])]) rfl enter62 (town_CheckDayX_ok N x41 _ hf42) rfl rfl (nlc (NLt.agg _ (nlc nll (nlc nll (nlc (nld nl_GHour _) nl0)))) nl0) nll rfl, abn rfl rfl, asb hb44 (amv rfl), ag_ (amv rfl), ag_ (abn rfl rfl), apk rfl rfl, asb hb45 (amv rfl), trivial, trivial, trivial, trivial, trivial, apk rfl rfl, amv rfl, trivial, apk rfl rfl, aas rfl, trivial⟩
        refine awp_ret ?_
        obtain rfl := osi h
        exact ⟨⟨[B false], ⟨rot (by kernel_rfl), trivial⟩, rfl⟩, nll, Nat.le_refl _, fun n hn => absurd hn (Nat.not_lt_zero n)⟩
      ·replace h := bif_f hb44 h
       refine wrg [rb [(.tmp 2, .ref 0 3 0 0)] [(0, (.own 3 [[I p0.Tank, I p0.Start, (.dat 2 ((p0.Hours : List GHour).map c_GHour))]]))] (.agg [I p0.Tank, I p0.Start, (.dat 2 ((p0.Hours : List GHour).map c_GHour))]), rp [fu 31, (.tmp 120, (.agg [I p0.Tank, I p0.Start, (.dat 2 ((p0.Hours : List GHour).map c_GHour))]))] (.agg [I x41.Tank, I x41.Start, (.dat 2 ((x41.Hours : List GHour).map c_GHour))]), rp [fu 62, (.tmp 121, (.agg [I x41.Tank, I x41.Start, (.dat 2 ((x41.Hours : List GHour).map c_GHour))]))] (I x43), rp [(.tmp 122, I x43), ci 0] (B ((x43 == 0))), rp [(.tmp 123, (B ((x43 == 0))))] (B false), sk 124 (B false), sk 124 (B false), rp [(.tmp 124, B false), (.tmp 126, (.lit undef)), cb false] (B false), mv 127 (B false), sk 128 (B false), sk 128 (B false), sk 128 (B false), sk 128 (B false), sk 128 (B false), rp [(.tmp 128, B false), (.tmp 133, (.lit undef)), cb false] (B false), mv 134 (B false), sk 135 (B false), rp [(.tmp 135, B false), (.tmp 136, (.lit undef)), cb false] (B false), mv 137 (B false)] ?_ ?_
       ·exact ⟨ald rfl ti41 (by decide) rfl (nle rfl) rfl, apc (first := []) (cap := []) (vs := [(.agg [I p0.Tank, I p0.Start, (.dat 2 ((p0.Hours : List GHour).map c_GHour))])]) rfl enter31 (law10_DayX_ok N p0 _ hf40) rfl rfl (nlc (NLt.agg _ (nlc nll (nlc nll (nlc (nld nl_GHour _) nl0)))) nl0) (NLt.agg _ (nlc nll (nlc nll (nlc (nld nl_GHour _) nl0)))) rfl, apc (first := []) (cap := []) (vs := [(.agg [I x41.Tank, I x41.Start, (.dat 2 ((x41.Hours : List GHour).map c_GHour))])]) rfl enter62 (town_CheckDayX_ok N x41 _ hf42) rfl rfl (nlc (NLt.agg _ (nlc nll (nlc nll (nlc (nld nl_GHour _) nl0)))) nl0) nll rfl, abn rfl rfl, asb hb44 (amv rfl), trivial, trivial, apk rfl rfl, amv rfl, trivial, trivial, trivial, trivial, trivial, apk rfl rfl, amv rfl, trivial, apk rfl rfl, aas rfl, trivial⟩
       refine awp_ret ?_
       obtain rfl := osi h
       exact ⟨⟨[B false], ⟨rot (by kernel_rfl), trivial⟩, rfl⟩, nll, Nat.le_refl _, fun n hn => absurd hn (Nat.not_lt_zero n)⟩
    ·skip
     obtain ⟨x52, hf51, h⟩ := bno h
     refine wrg [rb [(.tmp 2, .ref 0 3 0 0)] [(0, (.own 3 [[I p0.Tank, I p0.Start, (.dat 2 ((p0.Hours : List GHour).map c_GHour))]]))] (.agg [I p0.Tank, I p0.Start, (.dat 2 ((p0.Hours : List GHour).map c_GHour))]), rp [fu 33, (.tmp 69, (.agg [I p0.Tank, I p0.Start, (.dat 2 ((p0.Hours : List GHour).map c_GHour))]))] (.tup [I x52.1, I x52.2]), mv 70 (.tup [I x52.1, I x52.2]), rp [(.tmp 68, (.tup [I x52.1, I x52.2]))] (I x52.1), rp [(.tmp 68, (.tup [I x52.1, I x52.2]))] (I x52.2), mv 71 (I x52.1), mv 72 (I x52.2)] ?_ ?_
     ·exact ⟨ald rfl ti41 (by decide) rfl (nle rfl) rfl, apc (first := []) (cap := []) (vs := [(.agg [I p0.Tank, I p0.Start, (.dat 2 ((p0.Hours : List GHour).map c_GHour))])]) rfl enter33 (ref10_ShortX_ok N p0 _ hf51) rfl rfl (nlc (NLt.agg _ (nlc nll (nlc nll (nlc (nld nl_GHour _) nl0)))) nl0) (NLt.tup _ (nlc nll (nlc nll nl0))) rfl, amv rfl, astep_extract rfl rfl, astep_extract rfl rfl, aas rfl, aas rfl, trivial⟩
     refine wrg [mv 10 (I x52.1), rp [(.tmp 73, I x52.1), ci 0] (B ((decide (x52.1 < 0))))] ?_ ?_
     ·exact ⟨amv rfl, abn rfl rfl, trivial⟩
     rcases bft ((decide (x52.1 < 0))) with hc53 | hc53
     ·replace h := bif_t hc53 h
      refine wft hc53 (by kernel_rfl) ?_
      rcases bft ((x5.2.2 != 7)) with hb54 | hb54
      ·replace h := bif_t hb54 h
       refine wrg [mv 7 (I x5.2.2), rp [(.tmp 75, I x5.2.2), ci 7] (B ((x5.2.2 != 7))), rp [(.tmp 76, (B ((x5.2.2 != 7))))] (B true), sk 77 (B true), sk 77 (B true), rp [(.tmp 77, B true), cb true, (.tmp 79, (.lit undef))] (B true), mv 80 (B true), sk 81 (B true), sk 81 (B true), rp [(.tmp 81, B true), cb true, (.tmp 83, (.lit undef))] (B true)] ?_ ?_
       ·exact ⟨amv rfl, abn rfl rfl, asb hb54 (amv rfl), trivial, trivial, apk rfl rfl, amv rfl, trivial, trivial, apk rfl rfl, trivial⟩
       refine awp_true (by kernel_rfl) ?_
       refine wrg [mc (.bool false)] ?_ ?_
       ·exact ⟨aas rfl, trivial⟩
       refine awp_ret ?_
       refine thenA_r ?_
       obtain rfl := osi h
       exact ⟨⟨[B false], ⟨rot (by kernel_rfl), trivial⟩, rfl⟩, nll, Nat.le_refl _, fun n hn => absurd hn (Nat.not_lt_zero n)⟩
      ·replace h := bif_f hb54 h
       rcases bft ((x5.1 != 0)) with hb55 | hb55
       ·replace h := bif_t hb55 h
        refine wrg [mv 7 (I x5.2.2), rp [(.tmp 75, I x5.2.2), ci 7] (B ((x5.2.2 != 7))), rp [(.tmp 76, (B ((x5.2.2 != 7))))] (B false), rp [(.tmp 77, B false), (.tmp 5, I x5.1)] (I x5.1), rp [(.tmp 77, B false), (.tmp 78, I x5.1), ci 0] (B ((x5.1 != 0))), rp [(.tmp 77, B false), cb true, (.tmp 79, (B ((x5.1 != 0))))] (B ((x5.1 != 0))), rp [(.tmp 80, (B ((x5.1 != 0))))] (B true), sk 81 (B true), sk 81 (B true), rp [(.tmp 81, B true), cb true, (.tmp 83, (.lit undef))] (B true)] ?_ ?_
        ·exact ⟨amv rfl, abn rfl rfl, asb hb54 (amv rfl), ag_ (amv rfl), ag_ (abn rfl rfl), apk rfl rfl, asb hb55 (amv rfl), trivial, trivial, apk rfl rfl, trivial⟩
        refine awp_true (by kernel_rfl) ?_
        refine wrg [mc (.bool false)] ?_ ?_
        ·exact ⟨aas rfl, trivial⟩
        refine awp_ret ?_
        refine thenA_r ?_
        obtain rfl := osi h
        exact ⟨⟨[B false], ⟨rot (by kernel_rfl), trivial⟩, rfl⟩, nll, Nat.le_refl _, fun n hn => absurd hn (Nat.not_lt_zero n)⟩
       ·replace h := bif_f hb55 h
        refine wrg [mv 7 (I x5.2.2), rp [(.tmp 75, I x5.2.2), ci 7] (B ((x5.2.2 != 7))), rp [(.tmp 76, (B ((x5.2.2 != 7))))] (B false), rp [(.tmp 77, B false), (.tmp 5, I x5.1)] (I x5.1), rp [(.tmp 77, B false), (.tmp 78, I x5.1), ci 0] (B ((x5.1 != 0))), rp [(.tmp 77, B false), cb true, (.tmp 79, (B ((x5.1 != 0))))] (B ((x5.1 != 0))), rp [(.tmp 80, (B ((x5.1 != 0))))] (B false), rp [(.tmp 81, B false), (.tmp 6, I x5.2.1)] (I x5.2.1), rp [(.tmp 81, B false), (.tmp 82, I x5.2.1), ci 0] (B ((x5.2.1 != 0))), rp [(.tmp 81, B false), cb true, (.tmp 83, (B ((x5.2.1 != 0))))] (B ((x5.2.1 != 0)))] ?_ ?_
        ·exact ⟨amv rfl, abn rfl rfl, asb hb54 (amv rfl), ag_ (amv rfl), ag_ (abn rfl rfl), apk rfl rfl, asb hb55 (amv rfl), ag_ (amv rfl), ag_ (abn rfl rfl), apk rfl rfl, trivial⟩
        rcases bft ((x5.2.1 != 0)) with hc56 | hc56
        ·replace h := bif_t hc56 h
         refine wft hc56 (by kernel_rfl) ?_
         refine wrg [mc (.bool false)] ?_ ?_
         ·exact ⟨aas rfl, trivial⟩
         refine awp_ret ?_
         refine thenA_r ?_
         obtain rfl := osi h
         exact ⟨⟨[B false], ⟨rot (by kernel_rfl), trivial⟩, rfl⟩, nll, Nat.le_refl _, fun n hn => absurd hn (Nat.not_lt_zero n)⟩
        ·replace h := bif_f hc56 h
         refine wfn hc56 (by kernel_rfl) ?_
         refine awp_skip ?_
         refine thn ?_
         exact ⟨(), h, (mto (n := 138) [(1, (.dat 1 ((p1 : List Int).map c_i64))), (2, .ref 0 3 0 0), (8, I x11.1), (9, I x11.2)] [0] [(.own 3 [[I p0.Tank, I p0.Start, (.dat 2 ((p0.Hours : List GHour).map c_GHour))]])] hφ0 (pc (.rn (.plain _ (nld nl_i64 _))) (pc (.rn (rqr rfl)) (pc rwl (pc rwl pn)))) (qc (spb (lc rwl (lc rwl (lc (.rn (.plain _ (nld nl_GHour _))) ln)))) qn))⟩
     ·replace h := bif_f hc53 h
      refine wfn hc53 (by kernel_rfl) ?_
      rcases bft ((x5.2.2 != 0)) with hb57 | hb57
      ·replace h := bif_t hb57 h
       refine wrg [mv 7 (I x5.2.2), rp [(.tmp 85, I x5.2.2), ci 0] (B ((x5.2.2 != 0))), rp [(.tmp 86, (B ((x5.2.2 != 0))))] (B true), sk 87 (B true), sk 87 (B true), sk 87 (B true), rp [(.tmp 87, B true), cb true, (.tmp 90, (.lit undef))] (B true), mv 91 (B true), sk 92 (B true), sk 92 (B true), sk 92 (B true), rp [(.tmp 92, B true), cb true, (.tmp 95, (.lit undef))] (B true)] ?_ ?_
       ·exact ⟨amv rfl, abn rfl rfl, asb hb57 (amv rfl), trivial, trivial, trivial, apk rfl rfl, amv rfl, trivial, trivial, trivial, apk rfl rfl, trivial⟩
       refine awp_true (by kernel_rfl) ?_
       refine wrg [mc (.bool false)] ?_ ?_
       ·exact ⟨aas rfl, trivial⟩
       refine awp_ret ?_
       refine thenA_r ?_
       obtain rfl := osi h
       exact ⟨⟨[B false], ⟨rot (by kernel_rfl), trivial⟩, rfl⟩, nll, Nat.le_refl _, fun n hn => absurd hn (Nat.not_lt_zero n)⟩
      ·replace h := bif_f hb57 h
       rcases bft ((x5.1 != x52.1)) with hb58 | hb58
       ·replace h := bif_t hb58 h
        refine wrg [mv 7 (I x5.2.2), rp [(.tmp 85, I x5.2.2), ci 0] (B ((x5.2.2 != 0))), rp [(.tmp 86, (B ((x5.2.2 != 0))))] (B false), rp [(.tmp 87, B false), (.tmp 5, I x5.1)] (I x5.1), rp [(.tmp 87, B false), (.tmp 10, I x52.1)] (I x52.1), rp [(.tmp 87, B false), (.tmp 88, I x5.1), (.tmp 89, I x52.1)] (B ((x5.1 != x52.1))), rp [(.tmp 87, B false), cb true, (.tmp 90, (B ((x5.1 != x52.1))))] (B ((x5.1 != x52.1))), rp [(.tmp 91, (B ((x5.1 != x52.1))))] (B true), sk 92 (B true), sk 92 (B true), sk 92 (B true), rp [(.tmp 92, B true), cb true, (.tmp 95, (.lit undef))] (B true)] ?_ ?_
        ·exact ⟨amv rfl, abn rfl rfl, asb hb57 (amv rfl), ag_ (amv rfl), ag_ (amv rfl), ag_ (abn rfl rfl), apk rfl rfl, asb hb58 (amv rfl), trivial, trivial, trivial, apk rfl rfl, trivial⟩
        refine awp_true (by kernel_rfl) ?_
        refine wrg [mc (.bool false)] ?_ ?_
        ·exact ⟨aas rfl, trivial⟩
        refine awp_ret ?_
        refine thenA_r ?_
        obtain rfl := osi h
        exact ⟨⟨[B false], ⟨rot (by kernel_rfl), trivial⟩, rfl⟩, nll, Nat.le_refl _, fun n hn => absurd hn (Nat.not_lt_zero n)⟩
       ·replace h := bif_f hb58 h
        refine wrg [mv 7 (I x5.2.2), rp [(.tmp 85, I x5.2.2), ci 0] (B ((x5.2.2 != 0))), rp [(.tmp 86, (B ((x5.2.2 != 0))))] (B false), rp [(.tmp 87, B false), (.tmp 5, I x5.1)] (I x5.1), rp [(.tmp 87, B false), (.tmp 10, I x52.1)] (I x52.1), rp [(.tmp 87, B false), (.tmp 88, I x5.1), (.tmp 89, I x52.1)] (B ((x5.1 != x52.1))), rp [(.tmp 87, B false), cb true, (.tmp 90, (B ((x5.1 != x52.1))))] (B ((x5.1 != x52.1))), rp [(.tmp 91, (B ((x5.1 != x52.1))))] (B false), rp [(.tmp 92, B false), (.tmp 6, I x5.2.1)] (I x5.2.1), rp [(.tmp 92, B false), (.tmp 11, I x52.2)] (I x52.2), rp [(.tmp 92, B false), (.tmp 93, I x5.2.1), (.tmp 94, I x52.2)] (B ((x5.2.1 != x52.2))), rp [(.tmp 92, B false), cb true, (.tmp 95, (B ((x5.2.1 != x52.2))))] (B ((x5.2.1 != x52.2)))] ?_ ?_
        ·exact ⟨amv rfl, abn rfl rfl, asb hb57 (amv rfl), ag_ (amv rfl), ag_ (amv rfl), ag_ (abn rfl rfl), apk rfl rfl, asb hb58 (amv rfl), ag_ (amv rfl), ag_ (amv rfl), ag_ (abn rfl rfl), apk rfl rfl, trivial⟩
        rcases bft ((x5.2.1 != x52.2)) with hc59 | hc59
        ·replace h := bif_t hc59 h
         refine wft hc59 (by kernel_rfl) ?_
         refine wrg [mc (.bool false)] ?_ ?_
         ·exact ⟨aas rfl, trivial⟩
         refine awp_ret ?_
         refine thenA_r ?_
         obtain rfl := osi h
         exact ⟨⟨[B false], ⟨rot (by kernel_rfl), trivial⟩, rfl⟩, nll, Nat.le_refl _, fun n hn => absurd hn (Nat.not_lt_zero n)⟩
        ·replace h := bif_f hc59 h
         refine wfn hc59 (by kernel_rfl) ?_
         refine awp_skip ?_
         refine thn ?_
         exact ⟨(), h, (mto (n := 138) [(1, (.dat 1 ((p1 : List Int).map c_i64))), (2, .ref 0 3 0 0), (8, I x11.1), (9, I x11.2)] [0] [(.own 3 [[I p0.Tank, I p0.Start, (.dat 2 ((p0.Hours : List GHour).map c_GHour))]])] hφ0 (pc (.rn (.plain _ (nld nl_i64 _))) (pc (.rn (rqr rfl)) (pc rwl (pc rwl pn)))) (qc (spb (lc rwl (lc rwl (lc (.rn (.plain _ (nld nl_GHour _))) ln)))) qn))⟩
  ·skip
   obtain ⟨x61, hf60, h⟩ := bno h
   rcases bft ((!x61)) with hb62 | hb62
   ·replace h := bif_t hb62 h
    refine wrg [rb [(.tmp 2, .ref 0 3 0 0)] [(0, (.own 3 [[I p0.Tank, I p0.Start, (.dat 2 ((p0.Hours : List GHour).map c_GHour))]]))] (.agg [I p0.Tank, I p0.Start, (.dat 2 ((p0.Hours : List GHour).map c_GHour))]), rp [fu 29, (.tmp 14, (.agg [I p0.Tank, I p0.Start, (.dat 2 ((p0.Hours : List GHour).map c_GHour))]))] (B x61), rp [(.tmp 15, B x61)] (B ((!x61))), rp [(.tmp 16, (B ((!x61))))] (B true), sk 17 (B true), sk 17 (B true), sk 17 (B true), rp [(.tmp 17, B true), cb true, (.tmp 20, (.lit undef))] (B true)] ?_ ?_
    ·exact ⟨ald rfl ti41 (by decide) rfl (nle rfl) rfl, apc (first := []) (cap := []) (vs := [(.agg [I p0.Tank, I p0.Start, (.dat 2 ((p0.Hours : List GHour).map c_GHour))])]) rfl enter29 (law10_FewX_ok N p0 _ hf60) rfl rfl (nlc (NLt.agg _ (nlc nll (nlc nll (nlc (nld nl_GHour _) nl0)))) nl0) nll rfl, astep_not rfl, asb hb62 (amv rfl), trivial, trivial, trivial, apk rfl rfl, trivial⟩
    refine awp_true (by kernel_rfl) ?_
    obtain ⟨x64, hf63, h⟩ := bno h
    refine wrg [rp [fu 21] (B x64), mv 22 (B x64)] ?_ ?_
    ·exact ⟨apc (first := []) (cap := []) (vs := []) rfl enter21 (law10_wakesX_ok 2000  _ hf63) rfl rfl nl0 nll rfl, aas rfl, trivial⟩
    refine awp_ret ?_
    refine thenA_r ?_
    obtain rfl := osi h
    exact ⟨⟨[B x64], ⟨rot (by kernel_rfl), trivial⟩, rfl⟩, nll, Nat.le_refl _, fun n hn => absurd hn (Nat.not_lt_zero n)⟩
   ·replace h := bif_f hb62 h
    refine wrg [rb [(.tmp 2, .ref 0 3 0 0)] [(0, (.own 3 [[I p0.Tank, I p0.Start, (.dat 2 ((p0.Hours : List GHour).map c_GHour))]]))] (.agg [I p0.Tank, I p0.Start, (.dat 2 ((p0.Hours : List GHour).map c_GHour))]), rp [fu 29, (.tmp 14, (.agg [I p0.Tank, I p0.Start, (.dat 2 ((p0.Hours : List GHour).map c_GHour))]))] (B x61), rp [(.tmp 15, B x61)] (B ((!x61))), rp [(.tmp 16, (B ((!x61))))] (B false), rp [(.tmp 17, B false), (.tmp 1, (.dat 1 ((p1 : List Int).map c_i64)))] (.dat 1 ((p1 : List Int).map c_i64)), rp [(.tmp 17, B false), (.tmp 18, (.dat 1 ((p1 : List Int).map c_i64)))] (I ((p1.length : Int))), rp [(.tmp 17, B false), (.tmp 19, (I ((p1.length : Int)))), ci 35] (B ((decide ((p1.length : Int) > 35)))), rp [(.tmp 17, B false), cb true, (.tmp 20, (B ((decide ((p1.length : Int) > 35)))))] (B ((decide ((p1.length : Int) > 35))))] ?_ ?_
    ·exact ⟨ald rfl ti41 (by decide) rfl (nle rfl) rfl, apc (first := []) (cap := []) (vs := [(.agg [I p0.Tank, I p0.Start, (.dat 2 ((p0.Hours : List GHour).map c_GHour))])]) rfl enter29 (law10_FewX_ok N p0 _ hf60) rfl rfl (nlc (NLt.agg _ (nlc nll (nlc nll (nlc (nld nl_GHour _) nl0)))) nl0) nll rfl, astep_not rfl, asb hb62 (amv rfl), ag_ (amv rfl), ag_ (alm (c := c_i64) (l := p1) (aln rfl Try.underlying23 rfl)), ag_ (abn rfl rfl), apk rfl rfl, trivial⟩
    rcases bft ((decide ((p1.length : Int) > 35))) with hc65 | hc65
    ·replace h := bif_t hc65 h
     refine wft hc65 (by kernel_rfl) ?_
     obtain ⟨x67, hf66, h⟩ := bno h
     refine wrg [rp [fu 21] (B x67), mv 22 (B x67)] ?_ ?_
     ·exact ⟨apc (first := []) (cap := []) (vs := []) rfl enter21 (law10_wakesX_ok 2000  _ hf66) rfl rfl nl0 nll rfl, aas rfl, trivial⟩
     refine awp_ret ?_
     refine thenA_r ?_
     obtain rfl := osi h
     exact ⟨⟨[B x67], ⟨rot (by kernel_rfl), trivial⟩, rfl⟩, nll, Nat.le_refl _, fun n hn => absurd hn (Nat.not_lt_zero n)⟩
    ·replace h := bif_f hc65 h
     refine wfn hc65 (by kernel_rfl) ?_
     refine awp_skip ?_
     refine thn ?_
     exact ⟨(), h, (mto (n := 138) [(1, (.dat 1 ((p1 : List Int).map c_i64))), (2, .ref 0 3 0 0)] [0] [(.own 3 [[I p0.Tank, I p0.Start, (.dat 2 ((p0.Hours : List GHour).map c_GHour))]])] hφ0 (pc (.rn (.plain _ (nld nl_i64 _))) (pc (.rn (rqr rfl)) pn)) (qc (spb (lc rwl (lc rwl (lc (.rn (.plain _ (nld nl_GHour _))) ln)))) qn))⟩

end Go.Proofs.Ytgdepcgbjjgnfaa
