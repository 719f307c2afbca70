/-
  Functions of the program: what they compute, as plain functions, and that they do. No conditions.
-/
import Derived.Test.YtgdepcgbjjgnfaaX5
namespace Go.Proofs.Ytgdepcgbjjgnfaa
open Go.RowKit

def ref10_RightDayX_loop2 (N : Nat) (k7 : Unit → Option Bool) (x8 : GHour) : Nat → Int → Option Bool
  | 0, _ => none
  | n15 + 1, y13 =>
    bif (decide (y13 < (x8.Stairs.length : Int))) then
     (getI x8.Stairs y13).bind fun x17 =>
     (ref10_InX N x17.Amount 1 1000000000).bind fun x22 =>
     bif (!x22) then
      some false
     else
      (ref10_InX N x17.Price 0 1000).bind fun x25 =>
      bif (!x25) then
       some false
      else
       bif (decide (y13 > 0)) then
        (getI x8.Stairs (w64 (y13 - 1))).bind fun x28 =>
        bif (decide (x17.Price ≤ x28.Price)) then
         some false
        else
         ref10_RightDayX_loop2 N k7 x8 n15 (w64 (y13 + 1))
       else
        ref10_RightDayX_loop2 N k7 x8 n15 (w64 (y13 + 1))
    else
     k7 ()
def ref10_RightDayX_loop1 (N : Nat) (p0 : GDay) (k2 : Unit → Option Bool) : Nat → Int → Option Bool
  | 0, _ => none
  | n5 + 1, y3 =>
    bif (decide (y3 < (p0.Hours.length : Int))) then
     joinK (fun _ =>
       ref10_RightDayX_loop1 N p0 k2 n5 (w64 (y3 + 1))) fun k7 : Unit → Option Bool =>
     (getI p0.Hours y3).bind fun x8 =>
     joinK (fun _ =>
       ref10_RightDayX_loop2 N k7 x8 N 0) fun k12 : Unit → Option Bool =>
     (ref10_InX N x8.Use 0 1000000000).bind fun x34 =>
     bif (!x34) then
      some false
     else
      bif (decide ((x8.Stairs.length : Int) > 6)) then
       some false
      else
       k12 ()
    else
     k2 ()
def ref10_RightDayX (N : Nat) (p0 : GDay) : Option Bool :=
  joinK (fun _ =>
    joinK (fun _ =>
      some true) fun k2 : Unit → Option Bool =>
    ref10_RightDayX_loop1 N p0 k2 N 0) fun k1 : Unit → Option Bool =>
  (ref10_InX N p0.Tank 0 1000000000).bind fun x38 =>
  bif (!x38) then
   some false
  else
   (ref10_InX N p0.Start 0 p0.Tank).bind fun x41 =>
   bif (!x41) then
    some false
   else
    bif (decide ((p0.Hours.length : Int) < 1)) then
     some false
    else
     bif (decide ((p0.Hours.length : Int) > 24)) then
      some false
     else
      k1 ()
set_option maxRecDepth 100000 in
set_option maxHeartbeats 4000000 in
theorem ref10_RightDayX_ok (N : Nat) (p0 : GDay) (r : Bool) (h : ref10_RightDayX N p0 = some r) : Spec Try.prog 32 [(.agg (c_GDay p0))] [] (B r) [] := by
  refine spec_of_awp Try.func32 rfl 0 (nle rfl) (fun X φ0 w0 hφ0 => ?_)
  unfold ref10_RightDayX at h
  refine wrg [⟨[(.tmp 0, (.agg [I p0.Tank, I p0.Start, (.dat 2 ((p0.Hours : List GHour).map c_GHour))]))], [(0, .unused)], .ref 0 3 0 0, [(0, (.own 3 [[I p0.Tank, I p0.Start, (.dat 2 ((p0.Hours : List GHour).map c_GHour))]]))], false⟩, mc (.bool false)] ?_ ?_
  ·exact ⟨astep_box rfl (by rfl) rfl rfl, aas rfl, trivial⟩
  obtain ⟨k1, hk_k1, h⟩ := jko h
  refine wjn (τ := Unit) (fun t => k1 t = some r) (fun _ => ⟨mk 91 [(1, .ref 0 3 0 0)], [(.own 3 [[I p0.Tank, I p0.Start, (.dat 2 ((p0.Hours : List GHour).map c_GHour))]])]⟩) (fun t h => ?_) ?_
  ·subst hk_k1
   obtain ⟨k2, hk_k2, h⟩ := jko h
   refine wjn (τ := Unit) (fun t => k2 t = some r) (fun _ => ⟨mk 91 [], []⟩) (fun t h => ?_) ?_
   ·subst hk_k2
    refine wrg [mc (.bool true)] ?_ ?_
    ·exact ⟨aas rfl, trivial⟩
    refine awp_ret ?_
    obtain rfl := osi h
    exact ⟨⟨[B true], ⟨rot (by kernel_rfl), trivial⟩, rfl⟩, nll, Nat.le_refl _, fun n hn => absurd hn (Nat.not_lt_zero n)⟩
   ·skip
    refine wrg [mc (.int .i64 0)] ?_ ?_
    ·exact ⟨aas rfl, trivial⟩
    refine awp_block ?_
    refine wmr (mto (n := 91) (l' := [(1, .ref 0 3 0 0), (3, I 0)]) (own' := [(.own 3 [[I p0.Tank, I p0.Start, (.dat 2 ((p0.Hours : List GHour).map c_GHour))]])]) [(1, .ref 0 3 0 0), (3, I 0)] [0] [(.own 3 [[I p0.Tank, I p0.Start, (.dat 2 ((p0.Hours : List GHour).map c_GHour))]])] hφ0 (pc (.rn (rqr rfl)) (pc rwl pn)) (qc (spb (lc rwl (lc rwl (lc (.rn (.plain _ (nld nl_GHour _))) ln)))) qn)) ?_
    refine awp_ind (τ := Int) (fun n t => ref10_RightDayX_loop1 N p0 k2 n t = some r) (fun y3 => ⟨mk 91 [(1, .ref 0 3 0 0), (3, I y3)], [(.own 3 [[I p0.Tank, I p0.Start, (.dat 2 ((p0.Hours : List GHour).map c_GHour))]])]⟩) (fun t h => by rw [ref10_RightDayX_loop1] at h; cases h) (fun n5 ih y3 h => ?_) N (0) h
    rw [ref10_RightDayX_loop1] at h
    skip
    refine wsq ?_
    refine wrg [mv 3 (I y3), rb [(.tmp 1, .ref 0 3 0 0)] [(0, (.own 3 [[I p0.Tank, I p0.Start, (.dat 2 ((p0.Hours : List GHour).map c_GHour))]]))] (.ref 0 3 0 2), rb [(.tmp 32, .ref 0 3 0 2)] [(0, (.own 3 [[I p0.Tank, I p0.Start, (.dat 2 ((p0.Hours : List GHour).map c_GHour))]]))] (.dat 2 ((p0.Hours : List GHour).map c_GHour)), rp [(.tmp 33, (.dat 2 ((p0.Hours : List GHour).map c_GHour)))] (I ((p0.Hours.length : Int))), rp [(.tmp 31, I y3), (.tmp 34, (I ((p0.Hours.length : Int))))] (B ((decide (y3 < (p0.Hours.length : Int)))))] ?_ ?_
    ·exact ⟨amv rfl, afa rfl Try.underlying41 rfl rfl ti39 (by decide) rfl, ald rfl ti39 (by decide) rfl (nle rfl) rfl, alm (c := c_GHour) (l := p0.Hours) (aln rfl Try.underlying39 rfl), abn rfl rfl, trivial⟩
    rcases bft ((decide (y3 < (p0.Hours.length : Int)))) with hc6 | hc6
    ·replace h := bif_t hc6 h
     refine wft hc6 (by kernel_rfl) ?_
     refine awp_skip ?_
     refine thn ?_
     obtain ⟨k7, hk_k7, h⟩ := jko h
     refine wjn (τ := Unit) (fun t => k7 t = some r) (fun _ => ⟨mk 91 [(1, .ref 0 3 0 0), (3, I y3)], [(.own 3 [[I p0.Tank, I p0.Start, (.dat 2 ((p0.Hours : List GHour).map c_GHour))]])]⟩) (fun t h => ?_) ?_
     ·subst hk_k7
      refine awp_reg1 [mv 3 (I y3), rp [(.tmp 36, I y3), ci 1] (I (w64 (y3 + 1))), mv 37 (I (w64 (y3 + 1)))] ?_ ?_
      ·exact ⟨amv rfl, abn rfl rfl, aas rfl, trivial⟩
      refine thn ?_
      exact arm (mto (n := 91) [(1, .ref 0 3 0 0), (3, (I (w64 (y3 + 1))))] [0] [(.own 3 [[I p0.Tank, I p0.Start, (.dat 2 ((p0.Hours : List GHour).map c_GHour))]])] hφ0 (pc (.rn (rqr rfl)) (pc rwl pn)) (qc (spb (lc rwl (lc rwl (lc (.rn (.plain _ (nld nl_GHour _))) ln)))) qn)) (ih (w64 (y3 + 1)) h)
     ·skip
      refine awp_block ?_
      obtain ⟨x8, hg9, h⟩ := bno h
      obtain ⟨hi10, hj11⟩ := gsm hg9
      refine wrg [rb [(.tmp 1, .ref 0 3 0 0)] [(0, (.own 3 [[I p0.Tank, I p0.Start, (.dat 2 ((p0.Hours : List GHour).map c_GHour))]]))] (.ref 0 3 0 2), rb [(.tmp 38, .ref 0 3 0 2)] [(0, (.own 3 [[I p0.Tank, I p0.Start, (.dat 2 ((p0.Hours : List GHour).map c_GHour))]]))] (.dat 2 ((p0.Hours : List GHour).map c_GHour)), mv 3 (I y3), rp [(.tmp 39, (.dat 2 ((p0.Hours : List GHour).map c_GHour))), (.tmp 40, I y3)] (.dptr (c_GHour (x8)) 0), rp [(.tmp 41, (.dptr (c_GHour (x8)) 0))] (.agg [I x8.Use, (.dat 2 ((x8.Stairs : List GStair).map c_GStair))]), ⟨[], [(1, .unused)], .ref 1 2 0 0, [(1, .own 2 [[I 0, nilS]])], false⟩, ⟨[(.tmp 4, .ref 1 2 0 0), (.tmp 42, (.agg [I x8.Use, (.dat 2 ((x8.Stairs : List GStair).map c_GStair))]))], [(1, .own 2 [[I 0, nilS]])], .any, [(1, (.own 2 [[I x8.Use, (.dat 2 ((x8.Stairs : List GStair).map c_GStair))]]))], false⟩] ?_ ?_
      ·exact ⟨afa rfl Try.underlying41 rfl rfl ti39 (by decide) rfl, ald rfl ti39 (by decide) rfl (nle rfl) rfl, amv rfl, aid rfl Try.underlying39 ti147 rfl rfl hi10 (mgt c_GHour hj11) rfl, ald_ rfl ti147 (by decide) (nle rfl) rfl, astep_alloc rfl tz147 rfl, ast rfl ti147 (by rfl) rfl (nle rfl) rfl, trivial⟩
      obtain ⟨k12, hk_k12, h⟩ := jko h
      refine wjn (τ := Unit) (fun t => k12 t = some r) (fun _ => ⟨mk 91 [(1, .ref 0 3 0 0), (3, I y3), (4, .ref 1 2 0 0)], [(.own 3 [[I p0.Tank, I p0.Start, (.dat 2 ((p0.Hours : List GHour).map c_GHour))]]), (.own 2 [[I x8.Use, (.dat 2 ((x8.Stairs : List GStair).map c_GStair))]])]⟩) (fun t h => ?_) ?_
      ·subst hk_k12
       refine wrg [mc (.int .i64 0)] ?_ ?_
       ·exact ⟨aas rfl, trivial⟩
       refine awp_block ?_
       refine wmr (mto (n := 91) (l' := [(1, .ref 0 3 0 0), (3, I y3), (4, .ref 1 2 0 0), (5, I 0)]) (own' := [(.own 3 [[I p0.Tank, I p0.Start, (.dat 2 ((p0.Hours : List GHour).map c_GHour))]]), (.own 2 [[I x8.Use, (.dat 2 ((x8.Stairs : List GStair).map c_GStair))]])]) [(1, .ref 0 3 0 0), (3, I y3), (4, .ref 1 2 0 0), (5, I 0)] [0, 1] [(.own 3 [[I p0.Tank, I p0.Start, (.dat 2 ((p0.Hours : List GHour).map c_GHour))]]), (.own 2 [[I x8.Use, (.dat 2 ((x8.Stairs : List GStair).map c_GStair))]])] hφ0 (pc (.rn (rqr rfl)) (pc rwl (pc (.rn (rqr rfl)) (pc rwl pn)))) (qc (spb (lc rwl (lc rwl (lc (.rn (.plain _ (nld nl_GHour _))) ln)))) (qc (spb (lc rwl (lc (.rn (.plain _ (nld nl_GStair _))) ln))) qn))) ?_
       refine awp_ind (τ := Int) (fun n t => ref10_RightDayX_loop2 N k7 x8 n t = some r) (fun y13 => ⟨mk 91 [(1, .ref 0 3 0 0), (3, I y3), (4, .ref 1 2 0 0), (5, I y13)], [(.own 3 [[I p0.Tank, I p0.Start, (.dat 2 ((p0.Hours : List GHour).map c_GHour))]]), (.own 2 [[I x8.Use, (.dat 2 ((x8.Stairs : List GStair).map c_GStair))]])]⟩) (fun t h => by rw [ref10_RightDayX_loop2] at h; cases h) (fun n15 ih y13 h => ?_) N (0) h
       rw [ref10_RightDayX_loop2] at h
       skip
       refine wsq ?_
       refine wrg [mv 5 (I y13), rb [(.tmp 4, .ref 1 2 0 0)] [(1, (.own 2 [[I x8.Use, (.dat 2 ((x8.Stairs : List GStair).map c_GStair))]]))] (.ref 1 2 0 1), rb [(.tmp 54, .ref 1 2 0 1)] [(1, (.own 2 [[I x8.Use, (.dat 2 ((x8.Stairs : List GStair).map c_GStair))]]))] (.dat 2 ((x8.Stairs : List GStair).map c_GStair)), rp [(.tmp 55, (.dat 2 ((x8.Stairs : List GStair).map c_GStair)))] (I ((x8.Stairs.length : Int))), rp [(.tmp 53, I y13), (.tmp 56, (I ((x8.Stairs.length : Int))))] (B ((decide (y13 < (x8.Stairs.length : Int)))))] ?_ ?_
       ·exact ⟨amv rfl, afa rfl Try.underlying147 rfl rfl ti145 (by decide) rfl, ald rfl ti145 (by decide) rfl (nle rfl) rfl, alm (c := c_GStair) (l := x8.Stairs) (aln rfl Try.underlying145 rfl), abn rfl rfl, trivial⟩
       rcases bft ((decide (y13 < (x8.Stairs.length : Int)))) with hc16 | hc16
       ·replace h := bif_t hc16 h
        refine wft hc16 (by kernel_rfl) ?_
        refine awp_skip ?_
        refine thn ?_
        refine wsq ?_
        refine awp_block ?_
        obtain ⟨x17, hg18, h⟩ := bno h
        obtain ⟨hi19, hj20⟩ := gsm hg18
        refine wrg [rb [(.tmp 4, .ref 1 2 0 0)] [(1, (.own 2 [[I x8.Use, (.dat 2 ((x8.Stairs : List GStair).map c_GStair))]]))] (.ref 1 2 0 1), rb [(.tmp 60, .ref 1 2 0 1)] [(1, (.own 2 [[I x8.Use, (.dat 2 ((x8.Stairs : List GStair).map c_GStair))]]))] (.dat 2 ((x8.Stairs : List GStair).map c_GStair)), mv 5 (I y13), rp [(.tmp 61, (.dat 2 ((x8.Stairs : List GStair).map c_GStair))), (.tmp 62, I y13)] (.dptr (c_GStair (x17)) 0), rp [(.tmp 63, (.dptr (c_GStair (x17)) 0))] (.agg [I x17.Amount, I x17.Price]), ⟨[], [(2, .unused)], .ref 2 2 0 0, [(2, .own 2 [[I 0, I 0]])], false⟩, ⟨[(.tmp 6, .ref 2 2 0 0), (.tmp 64, (.agg [I x17.Amount, I x17.Price]))], [(2, .own 2 [[I 0, I 0]])], .any, [(2, .own 2 [[I x17.Amount, I x17.Price]])], false⟩] ?_ ?_
        ·exact ⟨afa rfl Try.underlying147 rfl rfl ti145 (by decide) rfl, ald rfl ti145 (by decide) rfl (nle rfl) rfl, amv rfl, aid rfl Try.underlying145 ti156 rfl rfl hi19 (mgt c_GStair hj20) rfl, ald_ rfl ti156 (by decide) (nle rfl) rfl, astep_alloc rfl tz156 rfl, ast rfl ti156 (by rfl) rfl (nle rfl) rfl, trivial⟩
        obtain ⟨x22, hf21, h⟩ := bno h
        rcases bft ((!x22)) with hb23 | hb23
        ·replace h := bif_t hb23 h
         refine awp_regd [rb [(.tmp 6, .ref 2 2 0 0)] [(2, .own 2 [[I x17.Amount, I x17.Price]])] (.ref 2 2 0 0), rb [(.tmp 65, .ref 2 2 0 0)] [(2, .own 2 [[I x17.Amount, I x17.Price]])] (I x17.Amount), rp [fu 27, (.tmp 66, I x17.Amount), ci 1, ci 1000000000] (B x22), rp [(.tmp 67, B x22)] (B ((!x22))), rp [(.tmp 68, (B ((!x22))))] (B true), sk 69 (B true), sk 69 (B true), sk 69 (B true), sk 69 (B true), rp [(.tmp 69, B true), cb true, (.tmp 73, (.lit undef))] (B true), mv 74 (B true), sk 75 (B true), sk 75 (B true), sk 75 (B true), sk 78 (.lit undef), sk 78 (.lit undef), sk 78 (.lit undef), sk 78 (.lit undef), sk 78 (.lit undef), sk 78 (.lit undef), sk 78 (.lit undef), sk 78 (.lit undef), sk 78 (.lit undef), sk 78 (.lit undef), sk 75 (B true), rp [(.tmp 75, B true), cb true, (.tmp 89, (.lit undef))] (B true)] ?_ ?_
         ·exact ⟨afa rfl Try.underlying156 rfl rfl ti3 (by decide) rfl, ald rfl ti3 (by decide) rfl (nle rfl) rfl, apc (first := []) (cap := []) (vs := [I x17.Amount, I 1, I 1000000000]) rfl enter27 (ref10_InX_ok N x17.Amount 1 1000000000 _ hf21) rfl rfl (nlc nll (nlc nll (nlc nll nl0))) nll rfl, astep_not rfl, asb hb23 (amv rfl), trivial, trivial, trivial, trivial, apk rfl rfl, amv rfl, trivial, trivial, trivial, trivial, trivial, trivial, trivial, trivial, trivial, trivial, trivial, trivial, trivial, trivial, apk rfl rfl, trivial⟩
         refine awp_true (by kernel_rfl) ?_
         refine wrg [mc (.bool false)] ?_ ?_
         ·exact ⟨aas rfl, trivial⟩
         refine awp_ret ?_
         refine blockA_r ?_
         refine thenA_r ?_
         refine thenA_r ?_
         refine blockA_r ?_
         refine blockA_r ?_
         refine thenA_r ?_
         refine thenA_r ?_
         refine blockA_r ?_
         refine thenA_r ?_
         obtain rfl := osi h
         exact ⟨⟨[B false], ⟨rot (by kernel_rfl), trivial⟩, rfl⟩, nll, Nat.le_refl _, fun n hn => absurd hn (Nat.not_lt_zero n)⟩
        ·replace h := bif_f hb23 h
         obtain ⟨x25, hf24, h⟩ := bno h
         rcases bft ((!x25)) with hb26 | hb26
         ·replace h := bif_t hb26 h
          refine awp_regd [rb [(.tmp 6, .ref 2 2 0 0)] [(2, .own 2 [[I x17.Amount, I x17.Price]])] (.ref 2 2 0 0), rb [(.tmp 65, .ref 2 2 0 0)] [(2, .own 2 [[I x17.Amount, I x17.Price]])] (I x17.Amount), rp [fu 27, (.tmp 66, I x17.Amount), ci 1, ci 1000000000] (B x22), rp [(.tmp 67, B x22)] (B ((!x22))), rp [(.tmp 68, (B ((!x22))))] (B false), rb [(.tmp 69, B false), (.tmp 6, .ref 2 2 0 0)] [(2, .own 2 [[I x17.Amount, I x17.Price]])] (.ref 2 2 0 1), rb [(.tmp 69, B false), (.tmp 70, .ref 2 2 0 1)] [(2, .own 2 [[I x17.Amount, I x17.Price]])] (I x17.Price), rp [(.tmp 69, B false), fu 27, (.tmp 71, I x17.Price), ci 0, ci 1000] (B x25), rp [(.tmp 69, B false), (.tmp 72, B x25)] (B ((!x25))), rp [(.tmp 69, B false), cb true, (.tmp 73, (B ((!x25))))] (B ((!x25))), rp [(.tmp 74, (B ((!x25))))] (B true), sk 75 (B true), sk 75 (B true), sk 75 (B true), sk 78 (.lit undef), sk 78 (.lit undef), sk 78 (.lit undef), sk 78 (.lit undef), sk 78 (.lit undef), sk 78 (.lit undef), sk 78 (.lit undef), sk 78 (.lit undef), sk 78 (.lit undef), sk 78 (.lit undef), sk 75 (B true), rp [(.tmp 75, B true), cb true, (.tmp 89, (.lit undef))] (B true)] ?_ ?_
          ·exact ⟨afa rfl Try.underlying156 rfl rfl ti3 (by decide) rfl, ald rfl ti3 (by decide) rfl (nle rfl) rfl, apc (first := []) (cap := []) (vs := [I x17.Amount, I 1, I 1000000000]) rfl enter27 (ref10_InX_ok N x17.Amount 1 1000000000 _ hf21) rfl rfl (nlc nll (nlc nll (nlc nll nl0))) nll rfl, astep_not rfl, asb hb23 (amv rfl), ag_ (afa rfl Try.underlying156 rfl rfl ti3 (by decide) rfl), ag_ (ald rfl ti3 (by decide) rfl (nle rfl) rfl), ag_ (apc (first := []) (cap := []) (vs := [I x17.Price, I 0, I 1000]) rfl enter27 (ref10_InX_ok N x17.Price 0 1000 _ hf24) rfl rfl (nlc nll (nlc nll (nlc nll nl0))) nll rfl), ag_ (astep_not rfl), apk rfl rfl, asb hb26 (amv rfl), trivial, trivial, trivial, trivial, trivial, trivial, trivial, trivial, trivial, trivial, trivial, trivial, trivial, trivial, apk rfl rfl, trivial⟩
          refine awp_true (by kernel_rfl) ?_
          refine wrg [mc (.bool false)] ?_ ?_
          ·exact ⟨aas rfl, trivial⟩
          refine awp_ret ?_
          refine blockA_r ?_
          refine thenA_r ?_
          refine thenA_r ?_
          refine blockA_r ?_
          refine blockA_r ?_
          refine thenA_r ?_
          refine thenA_r ?_
          refine blockA_r ?_
          refine thenA_r ?_
          obtain rfl := osi h
          exact ⟨⟨[B false], ⟨rot (by kernel_rfl), trivial⟩, rfl⟩, nll, Nat.le_refl _, fun n hn => absurd hn (Nat.not_lt_zero n)⟩
         ·replace h := bif_f hb26 h
          rcases bft ((decide (y13 > 0))) with hb27 | hb27
          ·replace h := bif_t hb27 h
           obtain ⟨x28, hg29, h⟩ := bno h
           obtain ⟨hi30, hj31⟩ := gsm hg29
           refine awp_regd [rb [(.tmp 6, .ref 2 2 0 0)] [(2, .own 2 [[I x17.Amount, I x17.Price]])] (.ref 2 2 0 0), rb [(.tmp 65, .ref 2 2 0 0)] [(2, .own 2 [[I x17.Amount, I x17.Price]])] (I x17.Amount), rp [fu 27, (.tmp 66, I x17.Amount), ci 1, ci 1000000000] (B x22), rp [(.tmp 67, B x22)] (B ((!x22))), rp [(.tmp 68, (B ((!x22))))] (B false), rb [(.tmp 69, B false), (.tmp 6, .ref 2 2 0 0)] [(2, .own 2 [[I x17.Amount, I x17.Price]])] (.ref 2 2 0 1), rb [(.tmp 69, B false), (.tmp 70, .ref 2 2 0 1)] [(2, .own 2 [[I x17.Amount, I x17.Price]])] (I x17.Price), rp [(.tmp 69, B false), fu 27, (.tmp 71, I x17.Price), ci 0, ci 1000] (B x25), rp [(.tmp 69, B false), (.tmp 72, B x25)] (B ((!x25))), rp [(.tmp 69, B false), cb true, (.tmp 73, (B ((!x25))))] (B ((!x25))), rp [(.tmp 74, (B ((!x25))))] (B false), rp [(.tmp 75, B false), (.tmp 5, I y13)] (I y13), rp [(.tmp 75, B false), (.tmp 76, I y13), ci 0] (B ((decide (y13 > 0)))), rp [(.tmp 75, B false), (.tmp 77, (B ((decide (y13 > 0)))))] (B true), rb [(.tmp 78, B true), (.tmp 6, .ref 2 2 0 0)] [(2, .own 2 [[I x17.Amount, I x17.Price]])] (.ref 2 2 0 1), rb [(.tmp 78, B true), (.tmp 79, .ref 2 2 0 1)] [(2, .own 2 [[I x17.Amount, I x17.Price]])] (I x17.Price), rb [(.tmp 78, B true), (.tmp 4, .ref 1 2 0 0)] [(1, (.own 2 [[I x8.Use, (.dat 2 ((x8.Stairs : List GStair).map c_GStair))]]))] (.ref 1 2 0 1), rb [(.tmp 78, B true), (.tmp 81, .ref 1 2 0 1)] [(1, (.own 2 [[I x8.Use, (.dat 2 ((x8.Stairs : List GStair).map c_GStair))]]))] (.dat 2 ((x8.Stairs : List GStair).map c_GStair)), rp [(.tmp 78, B true), (.tmp 5, I y13)] (I y13), rp [(.tmp 78, B true), (.tmp 83, I y13), ci 1] (I (w64 (y13 - 1))), rp [(.tmp 78, B true), (.tmp 82, (.dat 2 ((x8.Stairs : List GStair).map c_GStair))), (.tmp 84, (I (w64 (y13 - 1))))] (.dptr (c_GStair (x28)) 0), rp [(.tmp 78, B true), (.tmp 85, (.dptr (c_GStair (x28)) 0))] (.dptr (c_GStair (x28)) 1), rp [(.tmp 78, B true), (.tmp 86, (.dptr (c_GStair (x28)) 1))] (I x28.Price), rp [(.tmp 78, B true), (.tmp 80, I x17.Price), (.tmp 87, I x28.Price)] (B ((decide (x17.Price ≤ x28.Price)))), rp [(.tmp 75, B false), (.tmp 78, B true), (.tmp 88, (B ((decide (x17.Price ≤ x28.Price))))), cb false] (B ((decide (x17.Price ≤ x28.Price)))), rp [(.tmp 75, B false), cb true, (.tmp 89, (B ((decide (x17.Price ≤ x28.Price)))))] (B ((decide (x17.Price ≤ x28.Price))))] ?_ ?_
           ·exact ⟨afa rfl Try.underlying156 rfl rfl ti3 (by decide) rfl, ald rfl ti3 (by decide) rfl (nle rfl) rfl, apc (first := []) (cap := []) (vs := [I x17.Amount, I 1, I 1000000000]) rfl enter27 (ref10_InX_ok N x17.Amount 1 1000000000 _ hf21) rfl rfl (nlc nll (nlc nll (nlc nll nl0))) nll rfl, astep_not rfl, asb hb23 (amv rfl), ag_ (afa rfl Try.underlying156 rfl rfl ti3 (by decide) rfl), ag_ (ald rfl ti3 (by decide) rfl (nle rfl) rfl), ag_ (apc (first := []) (cap := []) (vs := [I x17.Price, I 0, I 1000]) rfl enter27 (ref10_InX_ok N x17.Price 0 1000 _ hf24) rfl rfl (nlc nll (nlc nll (nlc nll nl0))) nll rfl), ag_ (astep_not rfl), apk rfl rfl, asb hb26 (amv rfl), ag_ (amv rfl), ag_ (abn rfl rfl), asb hb27 (ag_ (amv rfl)), ag_ (afa rfl Try.underlying156 rfl rfl ti3 (by decide) rfl), ag_ (ald rfl ti3 (by decide) rfl (nle rfl) rfl), ag_ (afa rfl Try.underlying147 rfl rfl ti145 (by decide) rfl), ag_ (ald rfl ti145 (by decide) rfl (nle rfl) rfl), ag_ (amv rfl), ag_ (abn rfl rfl), ag_ (aid rfl Try.underlying145 ti156 rfl rfl hi30 (mgt c_GStair hj31) rfl), ag_ (afd rfl Try.underlying156 rfl rfl ti3 (by decide) rfl), ag_ (ald_ rfl ti3 (by decide) (nle rfl) rfl), ag_ (abn rfl rfl), ag_ (apk rfl rfl), apk rfl rfl, trivial⟩
           rcases bft ((decide (x17.Price ≤ x28.Price))) with hc32 | hc32
           ·replace h := bif_t hc32 h
            refine wft hc32 (by kernel_rfl) ?_
            refine wrg [mc (.bool false)] ?_ ?_
            ·exact ⟨aas rfl, trivial⟩
            refine awp_ret ?_
            refine blockA_r ?_
            refine thenA_r ?_
            refine thenA_r ?_
            refine blockA_r ?_
            refine blockA_r ?_
            refine thenA_r ?_
            refine thenA_r ?_
            refine blockA_r ?_
            refine thenA_r ?_
            obtain rfl := osi h
            exact ⟨⟨[B false], ⟨rot (by kernel_rfl), trivial⟩, rfl⟩, nll, Nat.le_refl _, fun n hn => absurd hn (Nat.not_lt_zero n)⟩
           ·replace h := bif_f hc32 h
            refine wfn hc32 (by kernel_rfl) ?_
            refine awp_skip ?_
            refine bln ?_
            refine thn ?_
            refine awp_reg1 [mv 5 (I y13), rp [(.tmp 58, I y13), ci 1] (I (w64 (y13 + 1))), mv 59 (I (w64 (y13 + 1)))] ?_ ?_
            ·exact ⟨amv rfl, abn rfl rfl, aas rfl, trivial⟩
            refine thn ?_
            exact arm (mto (n := 91) [(1, .ref 0 3 0 0), (3, I y3), (4, .ref 1 2 0 0), (5, (I (w64 (y13 + 1))))] [0, 1] [(.own 3 [[I p0.Tank, I p0.Start, (.dat 2 ((p0.Hours : List GHour).map c_GHour))]]), (.own 2 [[I x8.Use, (.dat 2 ((x8.Stairs : List GStair).map c_GStair))]])] hφ0 (pc (.rn (rqr rfl)) (pc rwl (pc (.rn (rqr rfl)) (pc rwl pn)))) (qc (spb (lc rwl (lc rwl (lc (.rn (.plain _ (nld nl_GHour _))) ln)))) (qc (spb (lc rwl (lc (.rn (.plain _ (nld nl_GStair _))) ln))) qn))) (ih (w64 (y13 + 1)) h)
          ·replace h := bif_f hb27 h
           refine awp_regd [rb [(.tmp 6, .ref 2 2 0 0)] [(2, .own 2 [[I x17.Amount, I x17.Price]])] (.ref 2 2 0 0), rb [(.tmp 65, .ref 2 2 0 0)] [(2, .own 2 [[I x17.Amount, I x17.Price]])] (I x17.Amount), rp [fu 27, (.tmp 66, I x17.Amount), ci 1, ci 1000000000] (B x22), rp [(.tmp 67, B x22)] (B ((!x22))), rp [(.tmp 68, (B ((!x22))))] (B false), rb [(.tmp 69, B false), (.tmp 6, .ref 2 2 0 0)] [(2, .own 2 [[I x17.Amount, I x17.Price]])] (.ref 2 2 0 1), rb [(.tmp 69, B false), (.tmp 70, .ref 2 2 0 1)] [(2, .own 2 [[I x17.Amount, I x17.Price]])] (I x17.Price), rp [(.tmp 69, B false), fu 27, (.tmp 71, I x17.Price), ci 0, ci 1000] (B x25), rp [(.tmp 69, B false), (.tmp 72, B x25)] (B ((!x25))), rp [(.tmp 69, B false), cb true, (.tmp 73, (B ((!x25))))] (B ((!x25))), rp [(.tmp 74, (B ((!x25))))] (B false), rp [(.tmp 75, B false), (.tmp 5, I y13)] (I y13), rp [(.tmp 75, B false), (.tmp 76, I y13), ci 0] (B ((decide (y13 > 0)))), rp [(.tmp 75, B false), (.tmp 77, (B ((decide (y13 > 0)))))] (B false), sk 78 (B false), sk 78 (B false), sk 78 (B false), sk 78 (B false), sk 78 (B false), sk 78 (B false), sk 78 (B false), sk 78 (B false), sk 78 (B false), sk 78 (B false), rp [(.tmp 75, B false), (.tmp 78, B false), (.tmp 88, (.lit undef)), cb false] (B false), rp [(.tmp 75, B false), cb true, (.tmp 89, B false)] (B false)] ?_ ?_
           ·exact ⟨afa rfl Try.underlying156 rfl rfl ti3 (by decide) rfl, ald rfl ti3 (by decide) rfl (nle rfl) rfl, apc (first := []) (cap := []) (vs := [I x17.Amount, I 1, I 1000000000]) rfl enter27 (ref10_InX_ok N x17.Amount 1 1000000000 _ hf21) rfl rfl (nlc nll (nlc nll (nlc nll nl0))) nll rfl, astep_not rfl, asb hb23 (amv rfl), ag_ (afa rfl Try.underlying156 rfl rfl ti3 (by decide) rfl), ag_ (ald rfl ti3 (by decide) rfl (nle rfl) rfl), ag_ (apc (first := []) (cap := []) (vs := [I x17.Price, I 0, I 1000]) rfl enter27 (ref10_InX_ok N x17.Price 0 1000 _ hf24) rfl rfl (nlc nll (nlc nll (nlc nll nl0))) nll rfl), ag_ (astep_not rfl), apk rfl rfl, asb hb26 (amv rfl), ag_ (amv rfl), ag_ (abn rfl rfl), asb hb27 (ag_ (amv rfl)), trivial, trivial, trivial, trivial, trivial, trivial, trivial, trivial, trivial, trivial, ag_ (apk rfl rfl), apk rfl rfl, trivial⟩
           refine awp_false (by kernel_rfl) ?_
           refine awp_skip ?_
           refine bln ?_
           refine thn ?_
           refine awp_reg1 [mv 5 (I y13), rp [(.tmp 58, I y13), ci 1] (I (w64 (y13 + 1))), mv 59 (I (w64 (y13 + 1)))] ?_ ?_
           ·exact ⟨amv rfl, abn rfl rfl, aas rfl, trivial⟩
           refine thn ?_
           exact arm (mto (n := 91) [(1, .ref 0 3 0 0), (3, I y3), (4, .ref 1 2 0 0), (5, (I (w64 (y13 + 1))))] [0, 1] [(.own 3 [[I p0.Tank, I p0.Start, (.dat 2 ((p0.Hours : List GHour).map c_GHour))]]), (.own 2 [[I x8.Use, (.dat 2 ((x8.Stairs : List GStair).map c_GStair))]])] hφ0 (pc (.rn (rqr rfl)) (pc rwl (pc (.rn (rqr rfl)) (pc rwl pn)))) (qc (spb (lc rwl (lc rwl (lc (.rn (.plain _ (nld nl_GHour _))) ln)))) (qc (spb (lc rwl (lc (.rn (.plain _ (nld nl_GStair _))) ln))) qn))) (ih (w64 (y13 + 1)) h)
       ·replace h := bif_f hc16 h
        refine wfn hc16 (by kernel_rfl) ?_
        refine awp_exit ?_
        refine thenA_x ?_
        refine thenA_x ?_
        refine blockA_e rfl ?_
        refine bln ?_
        refine thn ?_
        exact ⟨(), h, (mto (n := 91) [(1, .ref 0 3 0 0), (3, I y3)] [0] [(.own 3 [[I p0.Tank, I p0.Start, (.dat 2 ((p0.Hours : List GHour).map c_GHour))]])] hφ0 (pc (.rn (rqr rfl)) (pc rwl pn)) (qc (spb (lc rwl (lc rwl (lc (.rn (.plain _ (nld nl_GHour _))) ln)))) qn))⟩
      ·skip
       obtain ⟨x34, hf33, h⟩ := bno h
       rcases bft ((!x34)) with hb35 | hb35
       ·replace h := bif_t hb35 h
        refine wrg [rb [(.tmp 4, .ref 1 2 0 0)] [(1, (.own 2 [[I x8.Use, (.dat 2 ((x8.Stairs : List GStair).map c_GStair))]]))] (.ref 1 2 0 0), rb [(.tmp 43, .ref 1 2 0 0)] [(1, (.own 2 [[I x8.Use, (.dat 2 ((x8.Stairs : List GStair).map c_GStair))]]))] (I x8.Use), rp [fu 27, (.tmp 44, I x8.Use), ci 0, ci 1000000000] (B x34), rp [(.tmp 45, B x34)] (B ((!x34))), rp [(.tmp 46, (B ((!x34))))] (B true), sk 47 (B true), sk 47 (B true), sk 47 (B true), sk 47 (B true), rp [(.tmp 47, B true), cb true, (.tmp 51, (.lit undef))] (B true)] ?_ ?_
        ·exact ⟨afa rfl Try.underlying147 rfl rfl ti3 (by decide) rfl, ald rfl ti3 (by decide) rfl (nle rfl) rfl, apc (first := []) (cap := []) (vs := [I x8.Use, I 0, I 1000000000]) rfl enter27 (ref10_InX_ok N x8.Use 0 1000000000 _ hf33) rfl rfl (nlc nll (nlc nll (nlc nll nl0))) nll rfl, astep_not rfl, asb hb35 (amv rfl), trivial, trivial, trivial, trivial, apk rfl rfl, trivial⟩
        refine awp_true (by kernel_rfl) ?_
        refine wrg [mc (.bool false)] ?_ ?_
        ·exact ⟨aas rfl, trivial⟩
        refine awp_ret ?_
        refine thenA_r ?_
        refine blockA_r ?_
        refine thenA_r ?_
        refine thenA_r ?_
        refine blockA_r ?_
        refine thenA_r ?_
        obtain rfl := osi h
        exact ⟨⟨[B false], ⟨rot (by kernel_rfl), trivial⟩, rfl⟩, nll, Nat.le_refl _, fun n hn => absurd hn (Nat.not_lt_zero n)⟩
       ·replace h := bif_f hb35 h
        refine wrg [rb [(.tmp 4, .ref 1 2 0 0)] [(1, (.own 2 [[I x8.Use, (.dat 2 ((x8.Stairs : List GStair).map c_GStair))]]))] (.ref 1 2 0 0), rb [(.tmp 43, .ref 1 2 0 0)] [(1, (.own 2 [[I x8.Use, (.dat 2 ((x8.Stairs : List GStair).map c_GStair))]]))] (I x8.Use), rp [fu 27, (.tmp 44, I x8.Use), ci 0, ci 1000000000] (B x34), rp [(.tmp 45, B x34)] (B ((!x34))), rp [(.tmp 46, (B ((!x34))))] (B false), rb [(.tmp 47, B false), (.tmp 4, .ref 1 2 0 0)] [(1, (.own 2 [[I x8.Use, (.dat 2 ((x8.Stairs : List GStair).map c_GStair))]]))] (.ref 1 2 0 1), rb [(.tmp 47, B false), (.tmp 48, .ref 1 2 0 1)] [(1, (.own 2 [[I x8.Use, (.dat 2 ((x8.Stairs : List GStair).map c_GStair))]]))] (.dat 2 ((x8.Stairs : List GStair).map c_GStair)), rp [(.tmp 47, B false), (.tmp 49, (.dat 2 ((x8.Stairs : List GStair).map c_GStair)))] (I ((x8.Stairs.length : Int))), rp [(.tmp 47, B false), (.tmp 50, (I ((x8.Stairs.length : Int)))), ci 6] (B ((decide ((x8.Stairs.length : Int) > 6)))), rp [(.tmp 47, B false), cb true, (.tmp 51, (B ((decide ((x8.Stairs.length : Int) > 6)))))] (B ((decide ((x8.Stairs.length : Int) > 6))))] ?_ ?_
        ·exact ⟨afa rfl Try.underlying147 rfl rfl ti3 (by decide) rfl, ald rfl ti3 (by decide) rfl (nle rfl) rfl, apc (first := []) (cap := []) (vs := [I x8.Use, I 0, I 1000000000]) rfl enter27 (ref10_InX_ok N x8.Use 0 1000000000 _ hf33) rfl rfl (nlc nll (nlc nll (nlc nll nl0))) nll rfl, astep_not rfl, asb hb35 (amv rfl), ag_ (afa rfl Try.underlying147 rfl rfl ti145 (by decide) rfl), ag_ (ald rfl ti145 (by decide) rfl (nle rfl) rfl), ag_ (alm (c := c_GStair) (l := x8.Stairs) (aln rfl Try.underlying145 rfl)), ag_ (abn rfl rfl), apk rfl rfl, trivial⟩
        rcases bft ((decide ((x8.Stairs.length : Int) > 6))) with hc36 | hc36
        ·replace h := bif_t hc36 h
         refine wft hc36 (by kernel_rfl) ?_
         refine wrg [mc (.bool false)] ?_ ?_
         ·exact ⟨aas rfl, trivial⟩
         refine awp_ret ?_
         refine thenA_r ?_
         refine blockA_r ?_
         refine thenA_r ?_
         refine thenA_r ?_
         refine blockA_r ?_
         refine thenA_r ?_
         obtain rfl := osi h
         exact ⟨⟨[B false], ⟨rot (by kernel_rfl), trivial⟩, rfl⟩, nll, Nat.le_refl _, fun n hn => absurd hn (Nat.not_lt_zero n)⟩
        ·replace h := bif_f hc36 h
         refine wfn hc36 (by kernel_rfl) ?_
         refine awp_skip ?_
         refine thn ?_
         exact ⟨(), h, (mto (n := 91) [(1, .ref 0 3 0 0), (3, I y3), (4, .ref 1 2 0 0)] [0, 1] [(.own 3 [[I p0.Tank, I p0.Start, (.dat 2 ((p0.Hours : List GHour).map c_GHour))]]), (.own 2 [[I x8.Use, (.dat 2 ((x8.Stairs : List GStair).map c_GStair))]])] hφ0 (pc (.rn (rqr rfl)) (pc rwl (pc (.rn (rqr rfl)) pn))) (qc (spb (lc rwl (lc rwl (lc (.rn (.plain _ (nld nl_GHour _))) ln)))) (qc (spb (lc rwl (lc (.rn (.plain _ (nld nl_GStair _))) ln))) qn)))⟩
    ·replace h := bif_f hc6 h
     refine wfn hc6 (by kernel_rfl) ?_
     refine awp_exit ?_
     refine thenA_x ?_
     refine thenA_x ?_
     refine blockA_e rfl ?_
     refine thn ?_
     exact ⟨(), h, (mto (n := 91) [] [] [] hφ0 pn qn)⟩
  ·skip
   obtain ⟨x38, hf37, h⟩ := bno h
   rcases bft ((!x38)) with hb39 | hb39
   ·replace h := bif_t hb39 h
    refine wrg [rb [(.tmp 1, .ref 0 3 0 0)] [(0, (.own 3 [[I p0.Tank, I p0.Start, (.dat 2 ((p0.Hours : List GHour).map c_GHour))]]))] (.ref 0 3 0 0), rb [(.tmp 7, .ref 0 3 0 0)] [(0, (.own 3 [[I p0.Tank, I p0.Start, (.dat 2 ((p0.Hours : List GHour).map c_GHour))]]))] (I p0.Tank), rp [fu 27, (.tmp 8, I p0.Tank), ci 0, ci 1000000000] (B x38), rp [(.tmp 9, B x38)] (B ((!x38))), rp [(.tmp 10, (B ((!x38))))] (B true), sk 11 (B true), sk 11 (B true), sk 11 (B true), sk 11 (B true), sk 11 (B true), sk 11 (B true), rp [(.tmp 11, B true), cb true, (.tmp 17, (.lit undef))] (B true), mv 18 (B true), sk 19 (B true), sk 19 (B true), sk 19 (B true), sk 19 (B true), rp [(.tmp 19, B true), cb true, (.tmp 23, (.lit undef))] (B true), mv 24 (B true), sk 25 (B true), sk 25 (B true), sk 25 (B true), sk 25 (B true), rp [(.tmp 25, B true), cb true, (.tmp 29, (.lit undef))] (B true)] ?_ ?_
    ·exact ⟨afa rfl Try.underlying41 rfl rfl ti3 (by decide) rfl, ald rfl ti3 (by decide) rfl (nle rfl) rfl, apc (first := []) (cap := []) (vs := [I p0.Tank, I 0, I 1000000000]) rfl enter27 (ref10_InX_ok N p0.Tank 0 1000000000 _ hf37) rfl rfl (nlc nll (nlc nll (nlc nll nl0))) nll rfl, astep_not rfl, asb hb39 (amv rfl), trivial, trivial, trivial, trivial, trivial, trivial, apk rfl rfl, amv rfl, trivial, trivial, trivial, trivial, apk rfl rfl, amv rfl, trivial, trivial, trivial, trivial, apk rfl rfl, trivial⟩
    refine awp_true (by kernel_rfl) ?_
    refine wrg [mc (.bool false)] ?_ ?_
    ·exact ⟨aas rfl, trivial⟩
    refine awp_ret ?_
    refine thenA_r ?_
    obtain rfl := osi h
    exact ⟨⟨[B false], ⟨rot (by kernel_rfl), trivial⟩, rfl⟩, nll, Nat.le_refl _, fun n hn => absurd hn (Nat.not_lt_zero n)⟩
   ·replace h := bif_f hb39 h
    obtain ⟨x41, hf40, h⟩ := bno h
    rcases bft ((!x41)) with hb42 | hb42
    ·replace h := bif_t hb42 h
     refine wrg [rb [(.tmp 1, .ref 0 3 0 0)] [(0, (.own 3 [[I p0.Tank, I p0.Start, (.dat 2 ((p0.Hours : List GHour).map c_GHour))]]))] (.ref 0 3 0 0), rb [(.tmp 7, .ref 0 3 0 0)] [(0, (.own 3 [[I p0.Tank, I p0.Start, (.dat 2 ((p0.Hours : List GHour).map c_GHour))]]))] (I p0.Tank), rp [fu 27, (.tmp 8, I p0.Tank), ci 0, ci 1000000000] (B x38), rp [(.tmp 9, B x38)] (B ((!x38))), rp [(.tmp 10, (B ((!x38))))] (B false), rb [(.tmp 11, B false), (.tmp 1, .ref 0 3 0 0)] [(0, (.own 3 [[I p0.Tank, I p0.Start, (.dat 2 ((p0.Hours : List GHour).map c_GHour))]]))] (.ref 0 3 0 1), rb [(.tmp 11, B false), (.tmp 12, .ref 0 3 0 1)] [(0, (.own 3 [[I p0.Tank, I p0.Start, (.dat 2 ((p0.Hours : List GHour).map c_GHour))]]))] (I p0.Start), rb [(.tmp 11, B false), (.tmp 1, .ref 0 3 0 0)] [(0, (.own 3 [[I p0.Tank, I p0.Start, (.dat 2 ((p0.Hours : List GHour).map c_GHour))]]))] (.ref 0 3 0 0), rb [(.tmp 11, B false), (.tmp 14, .ref 0 3 0 0)] [(0, (.own 3 [[I p0.Tank, I p0.Start, (.dat 2 ((p0.Hours : List GHour).map c_GHour))]]))] (I p0.Tank), rp [(.tmp 11, B false), fu 27, (.tmp 13, I p0.Start), ci 0, (.tmp 15, I p0.Tank)] (B x41), rp [(.tmp 11, B false), (.tmp 16, B x41)] (B ((!x41))), rp [(.tmp 11, B false), cb true, (.tmp 17, (B ((!x41))))] (B ((!x41))), rp [(.tmp 18, (B ((!x41))))] (B true), sk 19 (B true), sk 19 (B true), sk 19 (B true), sk 19 (B true), rp [(.tmp 19, B true), cb true, (.tmp 23, (.lit undef))] (B true), mv 24 (B true), sk 25 (B true), sk 25 (B true), sk 25 (B true), sk 25 (B true), rp [(.tmp 25, B true), cb true, (.tmp 29, (.lit undef))] (B true)] ?_ ?_
     ·exact ⟨afa rfl Try.underlying41 rfl rfl ti3 (by decide) rfl, ald rfl ti3 (by decide) rfl (nle rfl) rfl, apc (first := []) (cap := []) (vs := [I p0.Tank, I 0, I 1000000000]) rfl enter27 (ref10_InX_ok N p0.Tank 0 1000000000 _ hf37) rfl rfl (nlc nll (nlc nll (nlc nll nl0))) nll rfl, astep_not rfl, asb hb39 (amv rfl), ag_ (afa rfl Try.underlying41 rfl rfl ti3 (by decide) rfl), ag_ (ald rfl ti3 (by decide) rfl (nle rfl) rfl), ag_ (afa rfl Try.underlying41 rfl rfl ti3 (by decide) rfl), ag_ (ald rfl ti3 (by decide) rfl (nle rfl) rfl), ag_ (apc (first := []) (cap := []) (vs := [I p0.Start, I 0, I p0.Tank]) rfl enter27 (ref10_InX_ok N p0.Start 0 p0.Tank _ hf40) rfl rfl (nlc nll (nlc nll (nlc nll nl0))) nll rfl), ag_ (astep_not rfl), apk rfl rfl, asb hb42 (amv rfl), trivial, trivial, trivial, trivial, apk rfl rfl, amv rfl, trivial, trivial, trivial, trivial, apk rfl rfl, trivial⟩
     refine awp_true (by kernel_rfl) ?_
     refine wrg [mc (.bool false)] ?_ ?_
     ·exact ⟨aas rfl, trivial⟩
     refine awp_ret ?_
     refine thenA_r ?_
     obtain rfl := osi h
     exact ⟨⟨[B false], ⟨rot (by kernel_rfl), trivial⟩, rfl⟩, nll, Nat.le_refl _, fun n hn => absurd hn (Nat.not_lt_zero n)⟩
    ·replace h := bif_f hb42 h
     rcases bft ((decide ((p0.Hours.length : Int) < 1))) with hb43 | hb43
     ·replace h := bif_t hb43 h
      refine wrg [rb [(.tmp 1, .ref 0 3 0 0)] [(0, (.own 3 [[I p0.Tank, I p0.Start, (.dat 2 ((p0.Hours : List GHour).map c_GHour))]]))] (.ref 0 3 0 0), rb [(.tmp 7, .ref 0 3 0 0)] [(0, (.own 3 [[I p0.Tank, I p0.Start, (.dat 2 ((p0.Hours : List GHour).map c_GHour))]]))] (I p0.Tank), rp [fu 27, (.tmp 8, I p0.Tank), ci 0, ci 1000000000] (B x38), rp [(.tmp 9, B x38)] (B ((!x38))), rp [(.tmp 10, (B ((!x38))))] (B false), rb [(.tmp 11, B false), (.tmp 1, .ref 0 3 0 0)] [(0, (.own 3 [[I p0.Tank, I p0.Start, (.dat 2 ((p0.Hours : List GHour).map c_GHour))]]))] (.ref 0 3 0 1), rb [(.tmp 11, B false), (.tmp 12, .ref 0 3 0 1)] [(0, (.own 3 [[I p0.Tank, I p0.Start, (.dat 2 ((p0.Hours : List GHour).map c_GHour))]]))] (I p0.Start), rb [(.tmp 11, B false), (.tmp 1, .ref 0 3 0 0)] [(0, (.own 3 [[I p0.Tank, I p0.Start, (.dat 2 ((p0.Hours : List GHour).map c_GHour))]]))] (.ref 0 3 0 0), rb [(.tmp 11, B false), (.tmp 14, .ref 0 3 0 0)] [(0, (.own 3 [[I p0.Tank, I p0.Start, (.dat 2 ((p0.Hours : List GHour).map c_GHour))]]))] (I p0.Tank), rp [(.tmp 11, B false), fu 27, (.tmp 13, I p0.Start), ci 0, (.tmp 15, I p0.Tank)] (B x41), rp [(.tmp 11, B false), (.tmp 16, B x41)] (B ((!x41))), rp [(.tmp 11, B false), cb true, (.tmp 17, (B ((!x41))))] (B ((!x41))), rp [(.tmp 18, (B ((!x41))))] (B false), rb [(.tmp 19, B false), (.tmp 1, .ref 0 3 0 0)] [(0, (.own 3 [[I p0.Tank, I p0.Start, (.dat 2 ((p0.Hours : List GHour).map c_GHour))]]))] (.ref 0 3 0 2), rb [(.tmp 19, B false), (.tmp 20, .ref 0 3 0 2)] [(0, (.own 3 [[I p0.Tank, I p0.Start, (.dat 2 ((p0.Hours : List GHour).map c_GHour))]]))] (.dat 2 ((p0.Hours : List GHour).map c_GHour)), rp [(.tmp 19, B false), (.tmp 21, (.dat 2 ((p0.Hours : List GHour).map c_GHour)))] (I ((p0.Hours.length : Int))), rp [(.tmp 19, B false), (.tmp 22, (I ((p0.Hours.length : Int)))), ci 1] (B ((decide ((p0.Hours.length : Int) < 1)))), rp [(.tmp 19, B false), cb true, (.tmp 23, (B ((decide ((p0.Hours.length : Int) < 1)))))] (B ((decide ((p0.Hours.length : Int) < 1)))), rp [(.tmp 24, (B ((decide ((p0.Hours.length : Int) < 1)))))] (B true), sk 25 (B true), sk 25 (B true), sk 25 (B true), sk 25 (B true), rp [(.tmp 25, B true), cb true, (.tmp 29, (.lit undef))] (B true)] ?_ ?_
      ·exact ⟨afa rfl Try.underlying41 rfl rfl ti3 (by decide) rfl, ald rfl ti3 (by decide) rfl (nle rfl) rfl, apc (first := []) (cap := []) (vs := [I p0.Tank, I 0, I 1000000000]) rfl enter27 (ref10_InX_ok N p0.Tank 0 1000000000 _ hf37) rfl rfl (nlc nll (nlc nll (nlc nll nl0))) nll rfl, astep_not rfl, asb hb39 (amv rfl), ag_ (afa rfl Try.underlying41 rfl rfl ti3 (by decide) rfl), ag_ (ald rfl ti3 (by decide) rfl (nle rfl) rfl), ag_ (afa rfl Try.underlying41 rfl rfl ti3 (by decide) rfl), ag_ (ald rfl ti3 (by decide) rfl (nle rfl) rfl), ag_ (apc (first := []) (cap := []) (vs := [I p0.Start, I 0, I p0.Tank]) rfl enter27 (ref10_InX_ok N p0.Start 0 p0.Tank _ hf40) rfl rfl (nlc nll (nlc nll (nlc nll nl0))) nll rfl), ag_ (astep_not rfl), apk rfl rfl, asb hb42 (amv rfl), ag_ (afa rfl Try.underlying41 rfl rfl ti39 (by decide) rfl), ag_ (ald rfl ti39 (by decide) rfl (nle rfl) rfl), ag_ (alm (c := c_GHour) (l := p0.Hours) (aln rfl Try.underlying39 rfl)), ag_ (abn rfl rfl), apk rfl rfl, asb hb43 (amv rfl), trivial, trivial, trivial, trivial, apk rfl rfl, trivial⟩
      refine awp_true (by kernel_rfl) ?_
      refine wrg [mc (.bool false)] ?_ ?_
      ·exact ⟨aas rfl, trivial⟩
      refine awp_ret ?_
      refine thenA_r ?_
      obtain rfl := osi h
      exact ⟨⟨[B false], ⟨rot (by kernel_rfl), trivial⟩, rfl⟩, nll, Nat.le_refl _, fun n hn => absurd hn (Nat.not_lt_zero n)⟩
     ·replace h := bif_f hb43 h
      refine wrg [rb [(.tmp 1, .ref 0 3 0 0)] [(0, (.own 3 [[I p0.Tank, I p0.Start, (.dat 2 ((p0.Hours : List GHour).map c_GHour))]]))] (.ref 0 3 0 0), rb [(.tmp 7, .ref 0 3 0 0)] [(0, (.own 3 [[I p0.Tank, I p0.Start, (.dat 2 ((p0.Hours : List GHour).map c_GHour))]]))] (I p0.Tank), rp [fu 27, (.tmp 8, I p0.Tank), ci 0, ci 1000000000] (B x38), rp [(.tmp 9, B x38)] (B ((!x38))), rp [(.tmp 10, (B ((!x38))))] (B false), rb [(.tmp 11, B false), (.tmp 1, .ref 0 3 0 0)] [(0, (.own 3 [[I p0.Tank, I p0.Start, (.dat 2 ((p0.Hours : List GHour).map c_GHour))]]))] (.ref 0 3 0 1), rb [(.tmp 11, B false), (.tmp 12, .ref 0 3 0 1)] [(0, (.own 3 [[I p0.Tank, I p0.Start, (.dat 2 ((p0.Hours : List GHour).map c_GHour))]]))] (I p0.Start), rb [(.tmp 11, B false), (.tmp 1, .ref 0 3 0 0)] [(0, (.own 3 [[I p0.Tank, I p0.Start, (.dat 2 ((p0.Hours : List GHour).map c_GHour))]]))] (.ref 0 3 0 0), rb [(.tmp 11, B false), (.tmp 14, .ref 0 3 0 0)] [(0, (.own 3 [[I p0.Tank, I p0.Start, (.dat 2 ((p0.Hours : List GHour).map c_GHour))]]))] (I p0.Tank), rp [(.tmp 11, B false), fu 27, (.tmp 13, I p0.Start), ci 0, (.tmp 15, I p0.Tank)] (B x41), rp [(.tmp 11, B false), (.tmp 16, B x41)] (B ((!x41))), rp [(.tmp 11, B false), cb true, (.tmp 17, (B ((!x41))))] (B ((!x41))), rp [(.tmp 18, (B ((!x41))))] (B false), rb [(.tmp 19, B false), (.tmp 1, .ref 0 3 0 0)] [(0, (.own 3 [[I p0.Tank, I p0.Start, (.dat 2 ((p0.Hours : List GHour).map c_GHour))]]))] (.ref 0 3 0 2), rb [(.tmp 19, B false), (.tmp 20, .ref 0 3 0 2)] [(0, (.own 3 [[I p0.Tank, I p0.Start, (.dat 2 ((p0.Hours : List GHour).map c_GHour))]]))] (.dat 2 ((p0.Hours : List GHour).map c_GHour)), rp [(.tmp 19, B false), (.tmp 21, (.dat 2 ((p0.Hours : List GHour).map c_GHour)))] (I ((p0.Hours.length : Int))), rp [(.tmp 19, B false), (.tmp 22, (I ((p0.Hours.length : Int)))), ci 1] (B ((decide ((p0.Hours.length : Int) < 1)))), rp [(.tmp 19, B false), cb true, (.tmp 23, (B ((decide ((p0.Hours.length : Int) < 1)))))] (B ((decide ((p0.Hours.length : Int) < 1)))), rp [(.tmp 24, (B ((decide ((p0.Hours.length : Int) < 1)))))] (B false), rb [(.tmp 25, B false), (.tmp 1, .ref 0 3 0 0)] [(0, (.own 3 [[I p0.Tank, I p0.Start, (.dat 2 ((p0.Hours : List GHour).map c_GHour))]]))] (.ref 0 3 0 2), rb [(.tmp 25, B false), (.tmp 26, .ref 0 3 0 2)] [(0, (.own 3 [[I p0.Tank, I p0.Start, (.dat 2 ((p0.Hours : List GHour).map c_GHour))]]))] (.dat 2 ((p0.Hours : List GHour).map c_GHour)), rp [(.tmp 25, B false), (.tmp 27, (.dat 2 ((p0.Hours : List GHour).map c_GHour)))] (I ((p0.Hours.length : Int))), rp [(.tmp 25, B false), (.tmp 28, (I ((p0.Hours.length : Int)))), ci 24] (B ((decide ((p0.Hours.length : Int) > 24)))), rp [(.tmp 25, B false), cb true, (.tmp 29, (B ((decide ((p0.Hours.length : Int) > 24)))))] (B ((decide ((p0.Hours.length : Int) > 24))))] ?_ ?_
      ·exact ⟨afa rfl Try.underlying41 rfl rfl ti3 (by decide) rfl, ald rfl ti3 (by decide) rfl (nle rfl) rfl, apc (first := []) (cap := []) (vs := [I p0.Tank, I 0, I 1000000000]) rfl enter27 (ref10_InX_ok N p0.Tank 0 1000000000 _ hf37) rfl rfl (nlc nll (nlc nll (nlc nll nl0))) nll rfl, astep_not rfl, asb hb39 (amv rfl), ag_ (afa rfl Try.underlying41 rfl rfl ti3 (by decide) rfl), ag_ (ald rfl ti3 (by decide) rfl (nle rfl) rfl), ag_ (afa rfl Try.underlying41 rfl rfl ti3 (by decide) rfl), ag_ (ald rfl ti3 (by decide) rfl (nle rfl) rfl), ag_ (apc (first := []) (cap := []) (vs := [I p0.Start, I 0, I p0.Tank]) rfl enter27 (ref10_InX_ok N p0.Start 0 p0.Tank _ hf40) rfl rfl (nlc nll (nlc nll (nlc nll nl0))) nll rfl), ag_ (astep_not rfl), apk rfl rfl, asb hb42 (amv rfl), ag_ (afa rfl Try.underlying41 rfl rfl ti39 (by decide) rfl), ag_ (ald rfl ti39 (by decide) rfl (nle rfl) rfl), ag_ (alm (c := c_GHour) (l := p0.Hours) (aln rfl Try.underlying39 rfl)), ag_ (abn rfl rfl), apk rfl rfl, asb hb43 (amv rfl), ag_ (afa rfl Try.underlying41 rfl rfl ti39 (by decide) rfl), ag_ (ald rfl ti39 (by decide) rfl (nle rfl) rfl), ag_ (alm (c := c_GHour) (l := p0.Hours) (aln rfl Try.underlying39 rfl)), ag_ (abn rfl rfl), apk rfl rfl, trivial⟩
      rcases bft ((decide ((p0.Hours.length : Int) > 24))) with hc44 | hc44
      ·replace h := bif_t hc44 h
       refine wft hc44 (by kernel_rfl) ?_
       refine wrg [mc (.bool false)] ?_ ?_
       ·exact ⟨aas rfl, trivial⟩
       refine awp_ret ?_
       refine thenA_r ?_
       obtain rfl := osi h
       exact ⟨⟨[B false], ⟨rot (by kernel_rfl), trivial⟩, rfl⟩, nll, Nat.le_refl _, fun n hn => absurd hn (Nat.not_lt_zero n)⟩
      ·replace h := bif_f hc44 h
       refine wfn hc44 (by kernel_rfl) ?_
       refine awp_skip ?_
       refine thn ?_
       exact ⟨(), h, (mto (n := 91) [(1, .ref 0 3 0 0)] [0] [(.own 3 [[I p0.Tank, I p0.Start, (.dat 2 ((p0.Hours : List GHour).map c_GHour))]])] hφ0 (pc (.rn (rqr rfl)) pn) (qc (spb (lc rwl (lc rwl (lc (.rn (.plain _ (nld nl_GHour _))) ln)))) qn))⟩

def ref10_WholeX_loop1 (N : Nat) (p0 : GHour) (k2 : Int → Option Int) : Nat → Int → Int → Option Int
  | 0, _, _ => none
  | n7 + 1, y3, y4 =>
    bif (decide (y4 < (p0.Stairs.length : Int))) then
     (getI p0.Stairs y4).bind fun x9 =>
     ref10_WholeX_loop1 N p0 k2 n7 (w64 (y3 + x9.Amount)) (w64 (y4 + 1))
    else
     k2 (y3)
def ref10_WholeX (N : Nat) (p0 : GHour) : Option Int :=
  joinK (fun y1 =>
    some y1) fun k2 : Int → Option Int =>
  ref10_WholeX_loop1 N p0 k2 N 0 0
set_option maxRecDepth 100000 in
set_option maxHeartbeats 4000000 in
theorem ref10_WholeX_ok (N : Nat) (p0 : GHour) (r : Int) (h : ref10_WholeX N p0 = some r) : Spec Try.prog 79 [(.agg (c_GHour p0))] [] (I r) [] := by
  refine spec_of_awp Try.func79 rfl 0 (nle rfl) (fun X φ0 w0 hφ0 => ?_)
  unfold ref10_WholeX at h
  refine wrg [⟨[(.tmp 0, (.agg [I p0.Use, (.dat 2 ((p0.Stairs : List GStair).map c_GStair))]))], [(0, .unused)], .ref 0 2 0 0, [(0, (.own 2 [[I p0.Use, (.dat 2 ((p0.Stairs : List GStair).map c_GStair))]]))], false⟩, mc (.int .i64 0)] ?_ ?_
  ·exact ⟨astep_box rfl (by rfl) rfl rfl, aas rfl, trivial⟩
  refine wrg [mc (.int .i64 0)] ?_ ?_
  ·exact ⟨aas rfl, trivial⟩
  obtain ⟨k2, hk_k2, h⟩ := jko h
  refine wjn (τ := Int) (fun t => k2 t = some r) (fun y1 => ⟨mk 21 [(3, I y1)], []⟩) (fun y1 h => ?_) ?_
  ·subst hk_k2
   refine wrg [mv 3 (I y1), mv 20 (I y1)] ?_ ?_
   ·exact ⟨amv rfl, aas rfl, trivial⟩
   refine awp_ret ?_
   obtain rfl := osi h
   exact ⟨⟨[I y1], ⟨rot (by kernel_rfl), trivial⟩, rfl⟩, nll, Nat.le_refl _, fun n hn => absurd hn (Nat.not_lt_zero n)⟩
  ·skip
   refine wrg [mc (.int .i64 0)] ?_ ?_
   ·exact ⟨aas rfl, trivial⟩
   refine awp_block ?_
   refine wmr (mto (n := 21) (l' := [(1, .ref 0 2 0 0), (3, I 0), (4, I 0)]) (own' := [(.own 2 [[I p0.Use, (.dat 2 ((p0.Stairs : List GStair).map c_GStair))]])]) [(1, .ref 0 2 0 0), (3, I 0), (4, I 0)] [0] [(.own 2 [[I p0.Use, (.dat 2 ((p0.Stairs : List GStair).map c_GStair))]])] hφ0 (pc (.rn (rqr rfl)) (pc rwl (pc rwl pn))) (qc (spb (lc rwl (lc (.rn (.plain _ (nld nl_GStair _))) ln))) qn)) ?_
   refine awp_ind (τ := Int × Int) (fun n t => ref10_WholeX_loop1 N p0 k2 n t.1 t.2 = some r) (fun ⟨y3, y4⟩ => ⟨mk 21 [(1, .ref 0 2 0 0), (3, I y3), (4, I y4)], [(.own 2 [[I p0.Use, (.dat 2 ((p0.Stairs : List GStair).map c_GStair))]])]⟩) (fun t h => by rw [ref10_WholeX_loop1] at h; cases h) (fun n7 ih t h => ?_) N (0, 0) h
   obtain ⟨y3, y4⟩ := t
   rw [ref10_WholeX_loop1] at h
   skip
   refine wsq ?_
   refine wrg [mv 4 (I y4), rb [(.tmp 1, .ref 0 2 0 0)] [(0, (.own 2 [[I p0.Use, (.dat 2 ((p0.Stairs : List GStair).map c_GStair))]]))] (.ref 0 2 0 1), rb [(.tmp 6, .ref 0 2 0 1)] [(0, (.own 2 [[I p0.Use, (.dat 2 ((p0.Stairs : List GStair).map c_GStair))]]))] (.dat 2 ((p0.Stairs : List GStair).map c_GStair)), rp [(.tmp 7, (.dat 2 ((p0.Stairs : List GStair).map c_GStair)))] (I ((p0.Stairs.length : Int))), rp [(.tmp 5, I y4), (.tmp 8, (I ((p0.Stairs.length : Int))))] (B ((decide (y4 < (p0.Stairs.length : Int)))))] ?_ ?_
   ·exact ⟨amv rfl, afa rfl Try.underlying147 rfl rfl ti145 (by decide) rfl, ald rfl ti145 (by decide) rfl (nle rfl) rfl, alm (c := c_GStair) (l := p0.Stairs) (aln rfl Try.underlying145 rfl), abn rfl rfl, trivial⟩
   rcases bft ((decide (y4 < (p0.Stairs.length : Int)))) with hc8 | hc8
   ·replace h := bif_t hc8 h
    refine wft hc8 (by kernel_rfl) ?_
    refine awp_skip ?_
    refine thn ?_
    refine wsq ?_
    refine awp_block ?_
    obtain ⟨x9, hg10, h⟩ := bno h
    obtain ⟨hi11, hj12⟩ := gsm hg10
    refine awp_reg1 [mv 3 (I y3), rb [(.tmp 1, .ref 0 2 0 0)] [(0, (.own 2 [[I p0.Use, (.dat 2 ((p0.Stairs : List GStair).map c_GStair))]]))] (.ref 0 2 0 1), rb [(.tmp 13, .ref 0 2 0 1)] [(0, (.own 2 [[I p0.Use, (.dat 2 ((p0.Stairs : List GStair).map c_GStair))]]))] (.dat 2 ((p0.Stairs : List GStair).map c_GStair)), mv 4 (I y4), rp [(.tmp 14, (.dat 2 ((p0.Stairs : List GStair).map c_GStair))), (.tmp 15, I y4)] (.dptr (c_GStair (x9)) 0), mv 16 (.dptr (c_GStair (x9)) 0), rp [(.tmp 17, (.dptr (c_GStair (x9)) 0))] (I x9.Amount), rp [(.tmp 12, I y3), (.tmp 18, I x9.Amount)] (I (w64 (y3 + x9.Amount))), mv 19 (I (w64 (y3 + x9.Amount)))] ?_ ?_
    ·exact ⟨amv rfl, afa rfl Try.underlying147 rfl rfl ti145 (by decide) rfl, ald rfl ti145 (by decide) rfl (nle rfl) rfl, amv rfl, aid rfl Try.underlying145 ti156 rfl rfl hi11 (mgt c_GStair hj12) rfl, afd rfl Try.underlying156 rfl rfl ti3 (by decide) rfl, ald_ rfl ti3 (by decide) (nle rfl) rfl, abn rfl rfl, aas rfl, trivial⟩
    refine bln ?_
    refine thn ?_
    refine awp_reg1 [mv 4 (I y4), rp [(.tmp 10, I y4), ci 1] (I (w64 (y4 + 1))), mv 11 (I (w64 (y4 + 1)))] ?_ ?_
    ·exact ⟨amv rfl, abn rfl rfl, aas rfl, trivial⟩
    refine thn ?_
    exact arm (mto (n := 21) [(1, .ref 0 2 0 0), (3, (I (w64 (y3 + x9.Amount)))), (4, (I (w64 (y4 + 1))))] [0] [(.own 2 [[I p0.Use, (.dat 2 ((p0.Stairs : List GStair).map c_GStair))]])] hφ0 (pc (.rn (rqr rfl)) (pc rwl (pc rwl pn))) (qc (spb (lc rwl (lc (.rn (.plain _ (nld nl_GStair _))) ln))) qn)) (ih (w64 (y3 + x9.Amount), w64 (y4 + 1)) h)
   ·replace h := bif_f hc8 h
    refine wfn hc8 (by kernel_rfl) ?_
    refine awp_exit ?_
    refine thenA_x ?_
    refine thenA_x ?_
    refine blockA_e rfl ?_
    refine thn ?_
    exact ⟨(y3), h, (mto (n := 21) [(3, I y3)] [] [] hφ0 (pc rwl pn) qn)⟩

def ref10_ShortX_loop1 (N : Nat) (p0 : GDay) (k1 : Unit → Option (Int × Int)) : Nat → Int → Int → Option (Int × Int)
  | 0, _, _ => none
  | n6 + 1, y2, y3 =>
    bif (decide (y3 < (p0.Hours.length : Int))) then
     (getI p0.Hours y3).bind fun x8 =>
     (ref10_WholeX N x8).bind fun x13 =>
     (some (w64 ((w64 (y2 + x13)) - x8.Use))).bind fun x14 =>
     bif (decide (x14 < 0)) then
      some (y3, w64 (0 - x14))
     else
      (some (if p0.Tank < x14 then p0.Tank else x14)).bind fun x17 =>
      ref10_ShortX_loop1 N p0 k1 n6 x17 (w64 (y3 + 1))
    else
     k1 ()
def ref10_ShortX (N : Nat) (p0 : GDay) : Option (Int × Int) :=
  joinK (fun _ =>
    some ((-1), 0)) fun k1 : Unit → Option (Int × Int) =>
  ref10_ShortX_loop1 N p0 k1 N p0.Start 0
set_option maxRecDepth 100000 in
set_option maxHeartbeats 4000000 in
theorem ref10_ShortX_ok (N : Nat) (p0 : GDay) (r : (Int × Int)) (h : ref10_ShortX N p0 = some r) : Spec Try.prog 33 [(.agg (c_GDay p0))] [] (.tup [(I r.1), (I r.2)]) [] := by
  refine spec_of_awp Try.func33 rfl 0 (nle rfl) (fun X φ0 w0 hφ0 => ?_)
  unfold ref10_ShortX at h
  refine wrg [⟨[(.tmp 0, (.agg [I p0.Tank, I p0.Start, (.dat 2 ((p0.Hours : List GHour).map c_GHour))]))], [(0, .unused)], .ref 0 3 0 0, [(0, (.own 3 [[I p0.Tank, I p0.Start, (.dat 2 ((p0.Hours : List GHour).map c_GHour))]]))], false⟩, mc (.int .i64 0), mc (.int .i64 0)] ?_ ?_
  ·exact ⟨astep_box rfl (by rfl) rfl rfl, aas rfl, aas rfl, trivial⟩
  refine wrg [rb [(.tmp 1, .ref 0 3 0 0)] [(0, (.own 3 [[I p0.Tank, I p0.Start, (.dat 2 ((p0.Hours : List GHour).map c_GHour))]]))] (.ref 0 3 0 1), rb [(.tmp 6, .ref 0 3 0 1)] [(0, (.own 3 [[I p0.Tank, I p0.Start, (.dat 2 ((p0.Hours : List GHour).map c_GHour))]]))] (I p0.Start), mv 7 (I p0.Start)] ?_ ?_
  ·exact ⟨afa rfl Try.underlying41 rfl rfl ti3 (by decide) rfl, ald rfl ti3 (by decide) rfl (nle rfl) rfl, aas rfl, trivial⟩
  obtain ⟨k1, hk_k1, h⟩ := jko h
  refine wjn (τ := Unit) (fun t => k1 t = some r) (fun _ => ⟨mk 39 [], []⟩) (fun t h => ?_) ?_
  ·subst hk_k1
   refine wrg [mc (.int .i64 (-1)), mc (.int .i64 0)] ?_ ?_
   ·exact ⟨aas rfl, aas rfl, trivial⟩
   refine awp_ret ?_
   obtain rfl := osi h
   exact ⟨⟨[(I ((-1))), I 0], ⟨rot (by kernel_rfl), rot (by kernel_rfl), trivial⟩, rfl⟩, (NLt.tup _ (nlc nll (nlc nll nl0))), Nat.le_refl _, fun n hn => absurd hn (Nat.not_lt_zero n)⟩
  ·skip
   refine wrg [mc (.int .i64 0)] ?_ ?_
   ·exact ⟨aas rfl, trivial⟩
   refine awp_block ?_
   refine wmr (mto (n := 39) (l' := [(1, .ref 0 3 0 0), (4, I p0.Start), (5, I 0)]) (own' := [(.own 3 [[I p0.Tank, I p0.Start, (.dat 2 ((p0.Hours : List GHour).map c_GHour))]])]) [(1, .ref 0 3 0 0), (4, I p0.Start), (5, I 0)] [0] [(.own 3 [[I p0.Tank, I p0.Start, (.dat 2 ((p0.Hours : List GHour).map c_GHour))]])] hφ0 (pc (.rn (rqr rfl)) (pc rwl (pc rwl pn))) (qc (spb (lc rwl (lc rwl (lc (.rn (.plain _ (nld nl_GHour _))) ln)))) qn)) ?_
   refine awp_ind (τ := Int × Int) (fun n t => ref10_ShortX_loop1 N p0 k1 n t.1 t.2 = some r) (fun ⟨y2, y3⟩ => ⟨mk 39 [(1, .ref 0 3 0 0), (4, I y2), (5, I y3)], [(.own 3 [[I p0.Tank, I p0.Start, (.dat 2 ((p0.Hours : List GHour).map c_GHour))]])]⟩) (fun t h => by rw [ref10_ShortX_loop1] at h; cases h) (fun n6 ih t h => ?_) N (p0.Start, 0) h
   obtain ⟨y2, y3⟩ := t
   rw [ref10_ShortX_loop1] at h
   skip
   refine wsq ?_
   refine wrg [mv 5 (I y3), rb [(.tmp 1, .ref 0 3 0 0)] [(0, (.own 3 [[I p0.Tank, I p0.Start, (.dat 2 ((p0.Hours : List GHour).map c_GHour))]]))] (.ref 0 3 0 2), rb [(.tmp 9, .ref 0 3 0 2)] [(0, (.own 3 [[I p0.Tank, I p0.Start, (.dat 2 ((p0.Hours : List GHour).map c_GHour))]]))] (.dat 2 ((p0.Hours : List GHour).map c_GHour)), rp [(.tmp 10, (.dat 2 ((p0.Hours : List GHour).map c_GHour)))] (I ((p0.Hours.length : Int))), rp [(.tmp 8, I y3), (.tmp 11, (I ((p0.Hours.length : Int))))] (B ((decide (y3 < (p0.Hours.length : Int)))))] ?_ ?_
   ·exact ⟨amv rfl, afa rfl Try.underlying41 rfl rfl ti39 (by decide) rfl, ald rfl ti39 (by decide) rfl (nle rfl) rfl, alm (c := c_GHour) (l := p0.Hours) (aln rfl Try.underlying39 rfl), abn rfl rfl, trivial⟩
   rcases bft ((decide (y3 < (p0.Hours.length : Int)))) with hc7 | hc7
   ·replace h := bif_t hc7 h
    refine wft hc7 (by kernel_rfl) ?_
    refine awp_skip ?_
    refine thn ?_
    refine wsq ?_
    refine awp_block ?_
    obtain ⟨x8, hg9, h⟩ := bno h
    obtain ⟨hi10, hj11⟩ := gsm hg9
    obtain ⟨x13, hf12, h⟩ := bno h
    obtain ⟨x14, hl15, h⟩ := bno h
    refine awp_regd [mv 4 (I y2), rb [(.tmp 1, .ref 0 3 0 0)] [(0, (.own 3 [[I p0.Tank, I p0.Start, (.dat 2 ((p0.Hours : List GHour).map c_GHour))]]))] (.ref 0 3 0 2), rb [(.tmp 16, .ref 0 3 0 2)] [(0, (.own 3 [[I p0.Tank, I p0.Start, (.dat 2 ((p0.Hours : List GHour).map c_GHour))]]))] (.dat 2 ((p0.Hours : List GHour).map c_GHour)), mv 5 (I y3), rp [(.tmp 17, (.dat 2 ((p0.Hours : List GHour).map c_GHour))), (.tmp 18, I y3)] (.dptr (c_GHour (x8)) 0), rp [(.tmp 19, (.dptr (c_GHour (x8)) 0))] (.agg [I x8.Use, (.dat 2 ((x8.Stairs : List GStair).map c_GStair))]), rp [fu 79, (.tmp 20, (.agg [I x8.Use, (.dat 2 ((x8.Stairs : List GStair).map c_GStair))]))] (I x13), rp [(.tmp 15, I y2), (.tmp 21, I x13)] (I (w64 (y2 + x13))), rb [(.tmp 1, .ref 0 3 0 0)] [(0, (.own 3 [[I p0.Tank, I p0.Start, (.dat 2 ((p0.Hours : List GHour).map c_GHour))]]))] (.ref 0 3 0 2), rb [(.tmp 23, .ref 0 3 0 2)] [(0, (.own 3 [[I p0.Tank, I p0.Start, (.dat 2 ((p0.Hours : List GHour).map c_GHour))]]))] (.dat 2 ((p0.Hours : List GHour).map c_GHour)), mv 5 (I y3), rp [(.tmp 24, (.dat 2 ((p0.Hours : List GHour).map c_GHour))), (.tmp 25, I y3)] (.dptr (c_GHour (x8)) 0), mv 26 (.dptr (c_GHour (x8)) 0), rp [(.tmp 27, (.dptr (c_GHour (x8)) 0))] (I x8.Use), rp [(.tmp 22, (I (w64 (y2 + x13)))), (.tmp 28, I x8.Use)] (I (w64 ((w64 (y2 + x13)) - x8.Use))), rp [(.tmp 29, (I (w64 ((w64 (y2 + x13)) - x8.Use))))] (I x14)] ?_ ?_
    ·exact ⟨amv rfl, afa rfl Try.underlying41 rfl rfl ti39 (by decide) rfl, ald rfl ti39 (by decide) rfl (nle rfl) rfl, amv rfl, aid rfl Try.underlying39 ti147 rfl rfl hi10 (mgt c_GHour hj11) rfl, ald_ rfl ti147 (by decide) (nle rfl) rfl, apc (first := []) (cap := []) (vs := [(.agg [I x8.Use, (.dat 2 ((x8.Stairs : List GStair).map c_GStair))])]) rfl enter79 (ref10_WholeX_ok N x8 _ hf12) rfl rfl (nlc (NLt.agg _ (nlc nll (nlc (nld nl_GStair _) nl0))) nl0) nll rfl, abn rfl rfl, afa rfl Try.underlying41 rfl rfl ti39 (by decide) rfl, ald rfl ti39 (by decide) rfl (nle rfl) rfl, amv rfl, aid rfl Try.underlying39 ti147 rfl rfl hi10 (mgt c_GHour hj11) rfl, afd rfl Try.underlying147 rfl rfl ti3 (by decide) rfl, ald_ rfl ti3 (by decide) (nle rfl) rfl, abn rfl rfl, astep_i hl15 (aas rfl), trivial⟩
    refine wsq ?_
    refine wrg [mv 4 (I x14), rp [(.tmp 30, I x14), ci 0] (B ((decide (x14 < 0))))] ?_ ?_
    ·exact ⟨amv rfl, abn rfl rfl, trivial⟩
    rcases bft ((decide (x14 < 0))) with hc16 | hc16
    ·replace h := bif_t hc16 h
     refine wft hc16 (by kernel_rfl) ?_
     refine wrg [mv 5 (I y3), mv 4 (I x14), rp [(.tmp 33, I x14)] (I (w64 (0 - x14))), mv 32 (I y3), mv 34 (I (w64 (0 - x14)))] ?_ ?_
     ·exact ⟨amv rfl, amv rfl, astep_neg rfl, aas rfl, aas rfl, trivial⟩
     refine awp_ret ?_
     refine thenA_r ?_
     refine blockA_r ?_
     refine thenA_r ?_
     refine thenA_r ?_
     refine blockA_r ?_
     refine thenA_r ?_
     obtain rfl := osi h
     exact ⟨⟨[I y3, (I (w64 (0 - x14)))], ⟨rot (by kernel_rfl), rot (by kernel_rfl), trivial⟩, rfl⟩, (NLt.tup _ (nlc nll (nlc nll nl0))), Nat.le_refl _, fun n hn => absurd hn (Nat.not_lt_zero n)⟩
    ·replace h := bif_f hc16 h
     refine wfn hc16 (by kernel_rfl) ?_
     refine awp_skip ?_
     refine thn ?_
     obtain ⟨x17, hl18, h⟩ := bno h
     refine awp_reg1 [mv 4 (I x14), rb [(.tmp 1, .ref 0 3 0 0)] [(0, (.own 3 [[I p0.Tank, I p0.Start, (.dat 2 ((p0.Hours : List GHour).map c_GHour))]]))] (.ref 0 3 0 0), rb [(.tmp 36, .ref 0 3 0 0)] [(0, (.own 3 [[I p0.Tank, I p0.Start, (.dat 2 ((p0.Hours : List GHour).map c_GHour))]]))] (I p0.Tank), rp [(.tmp 35, I x14), (.tmp 37, I p0.Tank)] (I ((if p0.Tank < x14 then p0.Tank else x14))), rp [(.tmp 38, (I ((if p0.Tank < x14 then p0.Tank else x14))))] (I x17)] ?_ ?_
     ·exact ⟨amv rfl, afa rfl Try.underlying41 rfl rfl ti3 (by decide) rfl, ald rfl ti3 (by decide) rfl (nle rfl) rfl, astep_min rfl, astep_i hl18 (aas rfl), trivial⟩
     refine bln ?_
     refine thn ?_
     refine awp_reg1 [mv 5 (I y3), rp [(.tmp 13, I y3), ci 1] (I (w64 (y3 + 1))), mv 14 (I (w64 (y3 + 1)))] ?_ ?_
     ·exact ⟨amv rfl, abn rfl rfl, aas rfl, trivial⟩
     refine thn ?_
     exact arm (mto (n := 39) [(1, .ref 0 3 0 0), (4, I x17), (5, (I (w64 (y3 + 1))))] [0] [(.own 3 [[I p0.Tank, I p0.Start, (.dat 2 ((p0.Hours : List GHour).map c_GHour))]])] hφ0 (pc (.rn (rqr rfl)) (pc rwl (pc rwl pn))) (qc (spb (lc rwl (lc rwl (lc (.rn (.plain _ (nld nl_GHour _))) ln)))) qn)) (ih (x17, w64 (y3 + 1)) h)
   ·replace h := bif_f hc7 h
    refine wfn hc7 (by kernel_rfl) ?_
    refine awp_exit ?_
    refine thenA_x ?_
    refine thenA_x ?_
    refine blockA_e rfl ?_
    refine thn ?_
    exact ⟨(), h, (mto (n := 39) [] [] [] hφ0 pn qn)⟩

def ref10_LevelsX_loop1 (N : Nat) (p0 : GDay) (p1 : (List Int)) (k3 : (List Int) → Option ((List Int) × Bool)) : Nat → (List Int) → Int → Int → Option ((List Int) × Bool)
  | 0, _, _, _ => none
  | n10 + 1, y4, y5, y6 =>
    bif (decide (y6 < (p1.length : Int))) then
     (getI p1 y6).bind fun x12 =>
     (getI p0.Hours y6).bind fun x16 =>
     (ref10_WholeX N x16).bind fun x21 =>
     (ref10_InX N x12 0 x21).bind fun x23 =>
     bif (!x23) then
      some ([], false)
     else
      (some (w64 ((w64 (y5 + x12)) - x16.Use))).bind fun x25 =>
      (ref10_InX N x25 0 p0.Tank).bind fun x28 =>
      bif (!x28) then
       some ([], false)
      else
       chk (decide ((y4.length + ([x25]).length) * 8 ≤ 140737488355328)) <|
       ref10_LevelsX_loop1 N p0 p1 k3 n10 (y4 ++ ([x25])) x25 (w64 (y6 + 1))
    else
     k3 (y4)
def ref10_LevelsX (N : Nat) (p0 : GDay) (p1 : (List Int)) : Option ((List Int) × Bool) :=
  bif ((p1.length : Int) != (p0.Hours.length : Int)) then
   some ([], false)
  else
   joinK (fun y2 =>
     some (y2, true)) fun k3 : (List Int) → Option ((List Int) × Bool) =>
   ref10_LevelsX_loop1 N p0 p1 k3 N ([]) p0.Start 0
set_option maxRecDepth 100000 in
set_option maxHeartbeats 4000000 in
theorem ref10_LevelsX_ok (N : Nat) (p0 : GDay) (p1 : (List Int)) (r : ((List Int) × Bool)) (h : ref10_LevelsX N p0 p1 = some r) : Spec Try.prog 63 [(.agg (c_GDay p0)), (.dat 1 (p1.map c_i64))] [] (.tup [(.dat 1 (r.1.map c_i64)), (B r.2)]) [] := by
  refine spec_of_awp Try.func63 rfl 0 (nle rfl) (fun X φ0 w0 hφ0 => ?_)
  unfold ref10_LevelsX at h
  refine wrg [⟨[(.tmp 0, (.agg [I p0.Tank, I p0.Start, (.dat 2 ((p0.Hours : List GHour).map c_GHour))]))], [(0, .unused)], .ref 0 3 0 0, [(0, (.own 3 [[I p0.Tank, I p0.Start, (.dat 2 ((p0.Hours : List GHour).map c_GHour))]]))], false⟩, mc (.slice none 0 0), mc (.bool false)] ?_ ?_
  ·exact ⟨astep_box rfl (by rfl) rfl rfl, aas rfl, aas rfl, trivial⟩
  refine wsq ?_
  refine wrg [mv 1 (.dat 1 ((p1 : List Int).map c_i64)), rp [(.tmp 9, (.dat 1 ((p1 : List Int).map c_i64)))] (I ((p1.length : Int))), rb [(.tmp 2, .ref 0 3 0 0)] [(0, (.own 3 [[I p0.Tank, I p0.Start, (.dat 2 ((p0.Hours : List GHour).map c_GHour))]]))] (.ref 0 3 0 2), rb [(.tmp 11, .ref 0 3 0 2)] [(0, (.own 3 [[I p0.Tank, I p0.Start, (.dat 2 ((p0.Hours : List GHour).map c_GHour))]]))] (.dat 2 ((p0.Hours : List GHour).map c_GHour)), rp [(.tmp 12, (.dat 2 ((p0.Hours : List GHour).map c_GHour)))] (I ((p0.Hours.length : Int))), rp [(.tmp 10, (I ((p1.length : Int)))), (.tmp 13, (I ((p0.Hours.length : Int))))] (B (((p1.length : Int) != (p0.Hours.length : Int))))] ?_ ?_
  ·exact ⟨amv rfl, alm (c := c_i64) (l := p1) (aln rfl Try.underlying23 rfl), afa rfl Try.underlying41 rfl rfl ti39 (by decide) rfl, ald rfl ti39 (by decide) rfl (nle rfl) rfl, alm (c := c_GHour) (l := p0.Hours) (aln rfl Try.underlying39 rfl), abn rfl rfl, trivial⟩
  rcases bft (((p1.length : Int) != (p0.Hours.length : Int))) with hc1 | hc1
  ·replace h := bif_t hc1 h
   refine wft hc1 (by kernel_rfl) ?_
   refine wrg [mc (.slice none 0 0), mc (.bool false)] ?_ ?_
   ·exact ⟨aas rfl, aas rfl, trivial⟩
   refine awp_ret ?_
   refine thenA_r ?_
   obtain rfl := osi h
   exact ⟨⟨[(.dat 1 (([] : List Int).map c_i64)), B false], ⟨resOK_less (v := nilS) (rot (by kernel_rfl)) Less.nil, rot (by kernel_rfl), trivial⟩, rfl⟩, (NLt.tup _ (nlc (nld nl_i64 _) (nlc nll nl0))), Nat.le_refl _, fun n hn => absurd hn (Nat.not_lt_zero n)⟩
  ·replace h := bif_f hc1 h
   refine wfn hc1 (by kernel_rfl) ?_
   refine awp_skip ?_
   refine thn ?_
   refine wrg [mc (.slice none 0 0)] ?_ ?_
   ·exact ⟨aas rfl, trivial⟩
   refine wrg [rb [(.tmp 2, .ref 0 3 0 0)] [(0, (.own 3 [[I p0.Tank, I p0.Start, (.dat 2 ((p0.Hours : List GHour).map c_GHour))]]))] (.ref 0 3 0 1), rb [(.tmp 15, .ref 0 3 0 1)] [(0, (.own 3 [[I p0.Tank, I p0.Start, (.dat 2 ((p0.Hours : List GHour).map c_GHour))]]))] (I p0.Start), mv 16 (I p0.Start)] ?_ ?_
   ·exact ⟨afa rfl Try.underlying41 rfl rfl ti3 (by decide) rfl, ald rfl ti3 (by decide) rfl (nle rfl) rfl, aas rfl, trivial⟩
   obtain ⟨k3, hk_k3, h⟩ := jko h
   refine wjn (τ := (List Int)) (fun t => k3 t = some r) (fun y2 => ⟨mk 58 [(6, (.acc 0 3 1 ((y2 : List Int).map c_i64)))], [.tok]⟩) (fun y2 h => ?_) ?_
   ·subst hk_k3
    refine wrg [mv 6 (.acc 0 3 1 ((y2 : List Int).map c_i64)), mv 57 (.acc 0 3 1 ((y2 : List Int).map c_i64)), mc (.bool true)] ?_ ?_
    ·exact ⟨amv rfl, aas rfl, aas rfl, trivial⟩
    refine awp_ret ?_
    obtain rfl := osi h
    exact ⟨⟨[(.dat 1 ((y2 : List Int).map c_i64)), B true], ⟨resOK_less (v := (.acc 0 3 1 ((y2 : List Int).map c_i64))) (rot (by kernel_rfl)) Less.acc, rot (by kernel_rfl), trivial⟩, rfl⟩, (NLt.tup _ (nlc (nld nl_i64 _) (nlc nll nl0))), Nat.le_refl _, fun n hn => absurd hn (Nat.not_lt_zero n)⟩
   ·skip
    refine wrg [mc (.int .i64 0)] ?_ ?_
    ·exact ⟨aas rfl, trivial⟩
    refine awp_block ?_
    refine wmr (Mor.trans (mor_nil 1 3 1 6 (by kernel_rfl) (by kernel_rfl)) (mto (n := 58) (l' := [(1, (.dat 1 ((p1 : List Int).map c_i64))), (2, .ref 0 3 0 0), (6, (.acc 1 3 1 ((([]) : List Int).map c_i64))), (7, I p0.Start), (8, I 0)]) (own' := [(.own 3 [[I p0.Tank, I p0.Start, (.dat 2 ((p0.Hours : List GHour).map c_GHour))]]), .tok]) [(1, (.dat 1 ((p1 : List Int).map c_i64))), (2, .ref 0 3 0 0), (6, (.acc 1 3 1 (([] : List Int).map c_i64))), (7, I p0.Start), (8, I 0)] [0, 1] [(.own 3 [[I p0.Tank, I p0.Start, (.dat 2 ((p0.Hours : List GHour).map c_GHour))]]), .tok] hφ0 (pc (.rn (.plain _ (nld nl_i64 _))) (pc (.rn (rqr rfl)) (pc (.rn (rnq_acc rfl (nl_rows nl_i64 _))) (pc rwl (pc rwl pn))))) (qc (spb (lc rwl (lc rwl (lc (.rn (.plain _ (nld nl_GHour _))) ln)))) (qc .tok qn)))) ?_
    refine awp_ind (τ := (List Int) × Int × Int) (fun n t => ref10_LevelsX_loop1 N p0 p1 k3 n t.1 t.2.1 t.2.2 = some r) (fun ⟨y4, y5, y6⟩ => ⟨mk 58 [(1, (.dat 1 ((p1 : List Int).map c_i64))), (2, .ref 0 3 0 0), (6, (.acc 1 3 1 ((y4 : List Int).map c_i64))), (7, I y5), (8, I y6)], [(.own 3 [[I p0.Tank, I p0.Start, (.dat 2 ((p0.Hours : List GHour).map c_GHour))]]), .tok]⟩) (fun t h => by rw [ref10_LevelsX_loop1] at h; cases h) (fun n10 ih t h => ?_) N ([], p0.Start, 0) h
    obtain ⟨y4, y5, y6⟩ := t
    rw [ref10_LevelsX_loop1] at h
    skip
    refine wsq ?_
    refine wrg [mv 8 (I y6), mv 1 (.dat 1 ((p1 : List Int).map c_i64)), rp [(.tmp 18, (.dat 1 ((p1 : List Int).map c_i64)))] (I ((p1.length : Int))), rp [(.tmp 17, I y6), (.tmp 19, (I ((p1.length : Int))))] (B ((decide (y6 < (p1.length : Int)))))] ?_ ?_
    ·exact ⟨amv rfl, amv rfl, alm (c := c_i64) (l := p1) (aln rfl Try.underlying23 rfl), abn rfl rfl, trivial⟩
    rcases bft ((decide (y6 < (p1.length : Int)))) with hc11 | hc11
    ·replace h := bif_t hc11 h
     refine wft hc11 (by kernel_rfl) ?_
     refine awp_skip ?_
     refine thn ?_
     refine wsq ?_
     refine awp_block ?_
     refine wsq ?_
     obtain ⟨x12, hg13, h⟩ := bno h
     obtain ⟨hi14, hj15⟩ := gsm hg13
     obtain ⟨x16, hg17, h⟩ := bno h
     obtain ⟨hi18, hj19⟩ := gsm hg17
     obtain ⟨x21, hf20, h⟩ := bno h
     obtain ⟨x23, hf22, h⟩ := bno h
     refine awp_regd [mv 1 (.dat 1 ((p1 : List Int).map c_i64)), mv 8 (I y6), rp [(.tmp 23, (.dat 1 ((p1 : List Int).map c_i64))), (.tmp 24, I y6)] (.dptr (c_i64 (x12)) 0), rp [(.tmp 25, (.dptr (c_i64 (x12)) 0))] (I x12), rb [(.tmp 2, .ref 0 3 0 0)] [(0, (.own 3 [[I p0.Tank, I p0.Start, (.dat 2 ((p0.Hours : List GHour).map c_GHour))]]))] (.ref 0 3 0 2), rb [(.tmp 27, .ref 0 3 0 2)] [(0, (.own 3 [[I p0.Tank, I p0.Start, (.dat 2 ((p0.Hours : List GHour).map c_GHour))]]))] (.dat 2 ((p0.Hours : List GHour).map c_GHour)), mv 8 (I y6), rp [(.tmp 28, (.dat 2 ((p0.Hours : List GHour).map c_GHour))), (.tmp 29, I y6)] (.dptr (c_GHour (x16)) 0), rp [(.tmp 30, (.dptr (c_GHour (x16)) 0))] (.agg [I x16.Use, (.dat 2 ((x16.Stairs : List GStair).map c_GStair))]), rp [fu 79, (.tmp 31, (.agg [I x16.Use, (.dat 2 ((x16.Stairs : List GStair).map c_GStair))]))] (I x21), rp [fu 27, (.tmp 26, I x12), ci 0, (.tmp 32, I x21)] (B x23), rp [(.tmp 33, B x23)] (B ((!x23)))] ?_ ?_
     ·exact ⟨amv rfl, amv rfl, aid rfl Try.underlying23 ti3 rfl rfl hi14 (mgt c_i64 hj15) rfl, ald_ rfl ti3 (by decide) (nle rfl) rfl, afa rfl Try.underlying41 rfl rfl ti39 (by decide) rfl, ald rfl ti39 (by decide) rfl (nle rfl) rfl, amv rfl, aid rfl Try.underlying39 ti147 rfl rfl hi18 (mgt c_GHour hj19) rfl, ald_ rfl ti147 (by decide) (nle rfl) rfl, apc (first := []) (cap := []) (vs := [(.agg [I x16.Use, (.dat 2 ((x16.Stairs : List GStair).map c_GStair))])]) rfl enter79 (ref10_WholeX_ok N x16 _ hf20) rfl rfl (nlc (NLt.agg _ (nlc nll (nlc (nld nl_GStair _) nl0))) nl0) nll rfl, apc (first := []) (cap := []) (vs := [I x12, I 0, I x21]) rfl enter27 (ref10_InX_ok N x12 0 x21 _ hf22) rfl rfl (nlc nll (nlc nll (nlc nll nl0))) nll rfl, astep_not rfl, trivial⟩
     rcases bft ((!x23)) with hc24 | hc24
     ·replace h := bif_t hc24 h
      refine wft hc24 (by kernel_rfl) ?_
      refine wrg [mc (.slice none 0 0), mc (.bool false)] ?_ ?_
      ·exact ⟨aas rfl, aas rfl, trivial⟩
      refine awp_ret ?_
      refine thenA_r ?_
      refine blockA_r ?_
      refine thenA_r ?_
      refine thenA_r ?_
      refine blockA_r ?_
      refine thenA_r ?_
      obtain rfl := osi h
      exact ⟨⟨[(.dat 1 (([] : List Int).map c_i64)), B false], ⟨resOK_less (v := nilS) (rot (by kernel_rfl)) Less.nil, rot (by kernel_rfl), trivial⟩, rfl⟩, (NLt.tup _ (nlc (nld nl_i64 _) (nlc nll nl0))), Nat.le_refl _, fun n hn => absurd hn (Nat.not_lt_zero n)⟩
     ·replace h := bif_f hc24 h
      refine wfn hc24 (by kernel_rfl) ?_
      refine awp_skip ?_
      refine thn ?_
      obtain ⟨x25, hl26, h⟩ := bno h
      refine awp_regd [mv 7 (I y5), mv 1 (.dat 1 ((p1 : List Int).map c_i64)), mv 8 (I y6), rp [(.tmp 36, (.dat 1 ((p1 : List Int).map c_i64))), (.tmp 37, I y6)] (.dptr (c_i64 (x12)) 0), rp [(.tmp 38, (.dptr (c_i64 (x12)) 0))] (I x12), rp [(.tmp 35, I y5), (.tmp 39, I x12)] (I (w64 (y5 + x12))), rb [(.tmp 2, .ref 0 3 0 0)] [(0, (.own 3 [[I p0.Tank, I p0.Start, (.dat 2 ((p0.Hours : List GHour).map c_GHour))]]))] (.ref 0 3 0 2), rb [(.tmp 41, .ref 0 3 0 2)] [(0, (.own 3 [[I p0.Tank, I p0.Start, (.dat 2 ((p0.Hours : List GHour).map c_GHour))]]))] (.dat 2 ((p0.Hours : List GHour).map c_GHour)), mv 8 (I y6), rp [(.tmp 42, (.dat 2 ((p0.Hours : List GHour).map c_GHour))), (.tmp 43, I y6)] (.dptr (c_GHour (x16)) 0), mv 44 (.dptr (c_GHour (x16)) 0), rp [(.tmp 45, (.dptr (c_GHour (x16)) 0))] (I x16.Use), rp [(.tmp 40, (I (w64 (y5 + x12)))), (.tmp 46, I x16.Use)] (I (w64 ((w64 (y5 + x12)) - x16.Use))), rp [(.tmp 47, (I (w64 ((w64 (y5 + x12)) - x16.Use))))] (I x25)] ?_ ?_
      ·exact ⟨amv rfl, amv rfl, amv rfl, aid rfl Try.underlying23 ti3 rfl rfl hi14 (mgt c_i64 hj15) rfl, ald_ rfl ti3 (by decide) (nle rfl) rfl, abn rfl rfl, afa rfl Try.underlying41 rfl rfl ti39 (by decide) rfl, ald rfl ti39 (by decide) rfl (nle rfl) rfl, amv rfl, aid rfl Try.underlying39 ti147 rfl rfl hi18 (mgt c_GHour hj19) rfl, afd rfl Try.underlying147 rfl rfl ti3 (by decide) rfl, ald_ rfl ti3 (by decide) (nle rfl) rfl, abn rfl rfl, astep_i hl26 (aas rfl), trivial⟩
      refine wsq ?_
      obtain ⟨x28, hf27, h⟩ := bno h
      refine wrg [mv 7 (I x25), rb [(.tmp 2, .ref 0 3 0 0)] [(0, (.own 3 [[I p0.Tank, I p0.Start, (.dat 2 ((p0.Hours : List GHour).map c_GHour))]]))] (.ref 0 3 0 0), rb [(.tmp 49, .ref 0 3 0 0)] [(0, (.own 3 [[I p0.Tank, I p0.Start, (.dat 2 ((p0.Hours : List GHour).map c_GHour))]]))] (I p0.Tank), rp [fu 27, (.tmp 48, I x25), ci 0, (.tmp 50, I p0.Tank)] (B x28), rp [(.tmp 51, B x28)] (B ((!x28)))] ?_ ?_
      ·exact ⟨amv rfl, afa rfl Try.underlying41 rfl rfl ti3 (by decide) rfl, ald rfl ti3 (by decide) rfl (nle rfl) rfl, apc (first := []) (cap := []) (vs := [I x25, I 0, I p0.Tank]) rfl enter27 (ref10_InX_ok N x25 0 p0.Tank _ hf27) rfl rfl (nlc nll (nlc nll (nlc nll nl0))) nll rfl, astep_not rfl, trivial⟩
      rcases bft ((!x28)) with hc29 | hc29
      ·replace h := bif_t hc29 h
       refine wft hc29 (by kernel_rfl) ?_
       refine wrg [mc (.slice none 0 0), mc (.bool false)] ?_ ?_
       ·exact ⟨aas rfl, aas rfl, trivial⟩
       refine awp_ret ?_
       refine thenA_r ?_
       refine blockA_r ?_
       refine thenA_r ?_
       refine thenA_r ?_
       refine blockA_r ?_
       refine thenA_r ?_
       obtain rfl := osi h
       exact ⟨⟨[(.dat 1 (([] : List Int).map c_i64)), B false], ⟨resOK_less (v := nilS) (rot (by kernel_rfl)) Less.nil, rot (by kernel_rfl), trivial⟩, rfl⟩, (NLt.tup _ (nlc (nld nl_i64 _) (nlc nll nl0))), Nat.le_refl _, fun n hn => absurd hn (Nat.not_lt_zero n)⟩
      ·replace h := bif_f hc29 h
       refine wfn hc29 (by kernel_rfl) ?_
       refine awp_skip ?_
       refine thn ?_
       obtain ⟨ha30, h⟩ := cko h
       refine awp_reg1 [mv 6 (.acc 1 3 1 ((y4 : List Int).map c_i64)), mv 7 (I x25), rp [(.tmp 54, I x25)] (.dat 1 (([x25] : List Int).map c_i64)), ⟨[(.tmp 53, (.acc 1 3 1 ((y4 : List Int).map c_i64))), (.tmp 55, (.dat 1 (([x25] : List Int).map c_i64)))], [(1, .tok), (2, .unused)], (.acc 2 3 1 ((y4 ++ ([x25]) : List Int).map c_i64)), [(1, .dead), (2, .tok)], false⟩, mv 56 (.acc 2 3 1 ((y4 ++ ([x25]) : List Int).map c_i64))] ?_ ?_
       ·exact ⟨amv rfl, amv rfl, astep_bslice (vs := [I x25]) rfl Try.underlying23 ti3 tz3 rfl (by decide) rfl (by decide) (by rfl) (by rfl) (by rfl) rfl, astep_app rfl Try.underlying23 te3 (Base.acc _ _) rfl rfl (by rfl) (app_le1 c_i64 ha30) (app_le2 c_i64 ha30 (by decide)) (app_map c_i64) rfl rfl, aas rfl, trivial⟩
       refine bln ?_
       refine thn ?_
       refine awp_reg1 [mv 8 (I y6), rp [(.tmp 21, I y6), ci 1] (I (w64 (y6 + 1))), mv 22 (I (w64 (y6 + 1)))] ?_ ?_
       ·exact ⟨amv rfl, abn rfl rfl, aas rfl, trivial⟩
       refine thn ?_
       exact arm (mto (n := 58) [(1, (.dat 1 ((p1 : List Int).map c_i64))), (2, .ref 0 3 0 0), (6, (.acc 2 3 1 ((y4 ++ ([x25]) : List Int).map c_i64))), (7, I x25), (8, (I (w64 (y6 + 1))))] [0, 2] [(.own 3 [[I p0.Tank, I p0.Start, (.dat 2 ((p0.Hours : List GHour).map c_GHour))]]), .tok] hφ0 (pc (.rn (.plain _ (nld nl_i64 _))) (pc (.rn (rqr rfl)) (pc (.rn (rnq_acc rfl (nl_rows nl_i64 _))) (pc rwl (pc rwl pn))))) (qc (spb (lc rwl (lc rwl (lc (.rn (.plain _ (nld nl_GHour _))) ln)))) (qc .tok qn))) (ih (y4 ++ ([x25]), x25, w64 (y6 + 1)) h)
    ·replace h := bif_f hc11 h
     refine wfn hc11 (by kernel_rfl) ?_
     refine awp_exit ?_
     refine thenA_x ?_
     refine thenA_x ?_
     refine blockA_e rfl ?_
     refine thn ?_
     exact ⟨(y4), h, (mto (n := 58) [(6, (.acc 1 3 1 ((y4 : List Int).map c_i64)))] [1] [.tok] hφ0 (pc (.rn (rnq_acc rfl (nl_rows nl_i64 _))) pn) (qc .tok qn))⟩

def ref10_CostX_loop2 (N : Nat) (p0 : GDay) (y4 : Int) (k10 : Int → Option Int) : Nat → Int → Int → Int → Option Int
  | 0, _, _, _ => none
  | n21 + 1, y15, y16, y17 =>
    (getI p0.Hours y4).bind fun x22 =>
    bif (decide (y17 < (x22.Stairs.length : Int))) then
     (getI x22.Stairs y17).bind fun x27 =>
     (some (if x27.Amount < y16 then x27.Amount else y16)).bind fun x31 =>
     (some (w64 (y15 + (w64 (x31 * x27.Price))))).bind fun x33 =>
     ref10_CostX_loop2 N p0 y4 k10 n21 x33 (w64 (y16 - x31)) (w64 (y17 + 1))
    else
     k10 (y15)
def ref10_CostX_loop1 (N : Nat) (p0 : GDay) (p1 : (List Int)) (k2 : Int → Option Int) : Nat → Int → Int → Option Int
  | 0, _, _ => none
  | n7 + 1, y3, y4 =>
    bif (decide (y4 < (p1.length : Int))) then
     joinK (fun y9 =>
       ref10_CostX_loop1 N p0 p1 k2 n7 y9 (w64 (y4 + 1))) fun k10 : Int → Option Int =>
     (getI p1 y4).bind fun x11 =>
     ref10_CostX_loop2 N p0 y4 k10 N y3 x11 0
    else
     k2 (y3)
def ref10_CostX (N : Nat) (p0 : GDay) (p1 : (List Int)) : Option Int :=
  joinK (fun y1 =>
    some y1) fun k2 : Int → Option Int =>
  ref10_CostX_loop1 N p0 p1 k2 N 0 0
set_option maxRecDepth 100000 in
set_option maxHeartbeats 4000000 in
theorem ref10_CostX_ok (N : Nat) (p0 : GDay) (p1 : (List Int)) (r : Int) (h : ref10_CostX N p0 p1 = some r) : Spec Try.prog 35 [(.agg (c_GDay p0)), (.dat 1 (p1.map c_i64))] [] (I r) [] := by
  refine spec_of_awp Try.func35 rfl 0 (nle rfl) (fun X φ0 w0 hφ0 => ?_)
  unfold ref10_CostX at h
  refine wrg [⟨[(.tmp 0, (.agg [I p0.Tank, I p0.Start, (.dat 2 ((p0.Hours : List GHour).map c_GHour))]))], [(0, .unused)], .ref 0 3 0 0, [(0, (.own 3 [[I p0.Tank, I p0.Start, (.dat 2 ((p0.Hours : List GHour).map c_GHour))]]))], false⟩, mc (.int .i64 0)] ?_ ?_
  ·exact ⟨astep_box rfl (by rfl) rfl rfl, aas rfl, trivial⟩
  refine wrg [mc (.int .i64 0)] ?_ ?_
  ·exact ⟨aas rfl, trivial⟩
  obtain ⟨k2, hk_k2, h⟩ := jko h
  refine wjn (τ := Int) (fun t => k2 t = some r) (fun y1 => ⟨mk 55 [(5, I y1)], []⟩) (fun y1 h => ?_) ?_
  ·subst hk_k2
   refine wrg [mv 5 (I y1), mv 54 (I y1)] ?_ ?_
   ·exact ⟨amv rfl, aas rfl, trivial⟩
   refine awp_ret ?_
   obtain rfl := osi h
   exact ⟨⟨[I y1], ⟨rot (by kernel_rfl), trivial⟩, rfl⟩, nll, Nat.le_refl _, fun n hn => absurd hn (Nat.not_lt_zero n)⟩
  ·skip
   refine wrg [mc (.int .i64 0)] ?_ ?_
   ·exact ⟨aas rfl, trivial⟩
   refine awp_block ?_
   refine wmr (mto (n := 55) (l' := [(1, (.dat 1 ((p1 : List Int).map c_i64))), (2, .ref 0 3 0 0), (5, I 0), (6, I 0)]) (own' := [(.own 3 [[I p0.Tank, I p0.Start, (.dat 2 ((p0.Hours : List GHour).map c_GHour))]])]) [(1, (.dat 1 ((p1 : List Int).map c_i64))), (2, .ref 0 3 0 0), (5, I 0), (6, I 0)] [0] [(.own 3 [[I p0.Tank, I p0.Start, (.dat 2 ((p0.Hours : List GHour).map c_GHour))]])] hφ0 (pc (.rn (.plain _ (nld nl_i64 _))) (pc (.rn (rqr rfl)) (pc rwl (pc rwl pn)))) (qc (spb (lc rwl (lc rwl (lc (.rn (.plain _ (nld nl_GHour _))) ln)))) qn)) ?_
   refine awp_ind (τ := Int × Int) (fun n t => ref10_CostX_loop1 N p0 p1 k2 n t.1 t.2 = some r) (fun ⟨y3, y4⟩ => ⟨mk 55 [(1, (.dat 1 ((p1 : List Int).map c_i64))), (2, .ref 0 3 0 0), (5, I y3), (6, I y4)], [(.own 3 [[I p0.Tank, I p0.Start, (.dat 2 ((p0.Hours : List GHour).map c_GHour))]])]⟩) (fun t h => by rw [ref10_CostX_loop1] at h; cases h) (fun n7 ih t h => ?_) N (0, 0) h
   obtain ⟨y3, y4⟩ := t
   rw [ref10_CostX_loop1] at h
   skip
   refine wsq ?_
   refine wrg [mv 6 (I y4), mv 1 (.dat 1 ((p1 : List Int).map c_i64)), rp [(.tmp 12, (.dat 1 ((p1 : List Int).map c_i64)))] (I ((p1.length : Int))), rp [(.tmp 11, I y4), (.tmp 13, (I ((p1.length : Int))))] (B ((decide (y4 < (p1.length : Int)))))] ?_ ?_
   ·exact ⟨amv rfl, amv rfl, alm (c := c_i64) (l := p1) (aln rfl Try.underlying23 rfl), abn rfl rfl, trivial⟩
   rcases bft ((decide (y4 < (p1.length : Int)))) with hc8 | hc8
   ·replace h := bif_t hc8 h
    refine wft hc8 (by kernel_rfl) ?_
    refine awp_skip ?_
    refine thn ?_
    obtain ⟨k10, hk_k10, h⟩ := jko h
    refine wjn (τ := Int) (fun t => k10 t = some r) (fun y9 => ⟨mk 55 [(1, (.dat 1 ((p1 : List Int).map c_i64))), (2, .ref 0 3 0 0), (5, I y9), (6, I y4)], [(.own 3 [[I p0.Tank, I p0.Start, (.dat 2 ((p0.Hours : List GHour).map c_GHour))]])]⟩) (fun y9 h => ?_) ?_
    ·subst hk_k10
     refine awp_reg1 [mv 6 (I y4), rp [(.tmp 15, I y4), ci 1] (I (w64 (y4 + 1))), mv 16 (I (w64 (y4 + 1)))] ?_ ?_
     ·exact ⟨amv rfl, abn rfl rfl, aas rfl, trivial⟩
     refine thn ?_
     exact arm (mto (n := 55) [(1, (.dat 1 ((p1 : List Int).map c_i64))), (2, .ref 0 3 0 0), (5, I y9), (6, (I (w64 (y4 + 1))))] [0] [(.own 3 [[I p0.Tank, I p0.Start, (.dat 2 ((p0.Hours : List GHour).map c_GHour))]])] hφ0 (pc (.rn (.plain _ (nld nl_i64 _))) (pc (.rn (rqr rfl)) (pc rwl (pc rwl pn)))) (qc (spb (lc rwl (lc rwl (lc (.rn (.plain _ (nld nl_GHour _))) ln)))) qn)) (ih (y9, w64 (y4 + 1)) h)
    ·skip
     refine awp_block ?_
     obtain ⟨x11, hg12, h⟩ := bno h
     obtain ⟨hi13, hj14⟩ := gsm hg12
     refine wrg [mv 1 (.dat 1 ((p1 : List Int).map c_i64)), mv 6 (I y4), rp [(.tmp 17, (.dat 1 ((p1 : List Int).map c_i64))), (.tmp 18, I y4)] (.dptr (c_i64 (x11)) 0), rp [(.tmp 19, (.dptr (c_i64 (x11)) 0))] (I x11), mv 20 (I x11)] ?_ ?_
     ·exact ⟨amv rfl, amv rfl, aid rfl Try.underlying23 ti3 rfl rfl hi13 (mgt c_i64 hj14) rfl, ald_ rfl ti3 (by decide) (nle rfl) rfl, aas rfl, trivial⟩
     refine wrg [mc (.int .i64 0)] ?_ ?_
     ·exact ⟨aas rfl, trivial⟩
     refine awp_block ?_
     refine wmr (mto (n := 55) (l' := [(1, (.dat 1 ((p1 : List Int).map c_i64))), (2, .ref 0 3 0 0), (5, I y3), (6, I y4), (7, I x11), (8, I 0)]) (own' := [(.own 3 [[I p0.Tank, I p0.Start, (.dat 2 ((p0.Hours : List GHour).map c_GHour))]])]) [(1, (.dat 1 ((p1 : List Int).map c_i64))), (2, .ref 0 3 0 0), (5, I y3), (6, I y4), (7, I x11), (8, I 0)] [0] [(.own 3 [[I p0.Tank, I p0.Start, (.dat 2 ((p0.Hours : List GHour).map c_GHour))]])] hφ0 (pc (.rn (.plain _ (nld nl_i64 _))) (pc (.rn (rqr rfl)) (pc rwl (pc rwl (pc rwl (pc rwl pn)))))) (qc (spb (lc rwl (lc rwl (lc (.rn (.plain _ (nld nl_GHour _))) ln)))) qn)) ?_
     refine awp_ind (τ := Int × Int × Int) (fun n t => ref10_CostX_loop2 N p0 y4 k10 n t.1 t.2.1 t.2.2 = some r) (fun ⟨y15, y16, y17⟩ => ⟨mk 55 [(1, (.dat 1 ((p1 : List Int).map c_i64))), (2, .ref 0 3 0 0), (5, I y15), (6, I y4), (7, I y16), (8, I y17)], [(.own 3 [[I p0.Tank, I p0.Start, (.dat 2 ((p0.Hours : List GHour).map c_GHour))]])]⟩) (fun t h => by rw [ref10_CostX_loop2] at h; cases h) (fun n21 ih t h => ?_) N (y3, x11, 0) h
     obtain ⟨y15, y16, y17⟩ := t
     rw [ref10_CostX_loop2] at h
     skip
     refine wsq ?_
     obtain ⟨x22, hg23, h⟩ := bno h
     obtain ⟨hi24, hj25⟩ := gsm hg23
     refine wrg [mv 8 (I y17), rb [(.tmp 2, .ref 0 3 0 0)] [(0, (.own 3 [[I p0.Tank, I p0.Start, (.dat 2 ((p0.Hours : List GHour).map c_GHour))]]))] (.ref 0 3 0 2), rb [(.tmp 22, .ref 0 3 0 2)] [(0, (.own 3 [[I p0.Tank, I p0.Start, (.dat 2 ((p0.Hours : List GHour).map c_GHour))]]))] (.dat 2 ((p0.Hours : List GHour).map c_GHour)), mv 6 (I y4), rp [(.tmp 23, (.dat 2 ((p0.Hours : List GHour).map c_GHour))), (.tmp 24, I y4)] (.dptr (c_GHour (x22)) 0), rp [(.tmp 25, (.dptr (c_GHour (x22)) 0))] (.dptr (c_GHour (x22)) 1), rp [(.tmp 26, (.dptr (c_GHour (x22)) 1))] (.dat 2 ((x22.Stairs : List GStair).map c_GStair)), rp [(.tmp 27, (.dat 2 ((x22.Stairs : List GStair).map c_GStair)))] (I ((x22.Stairs.length : Int))), rp [(.tmp 21, I y17), (.tmp 28, (I ((x22.Stairs.length : Int))))] (B ((decide (y17 < (x22.Stairs.length : Int)))))] ?_ ?_
     ·exact ⟨amv rfl, afa rfl Try.underlying41 rfl rfl ti39 (by decide) rfl, ald rfl ti39 (by decide) rfl (nle rfl) rfl, amv rfl, aid rfl Try.underlying39 ti147 rfl rfl hi24 (mgt c_GHour hj25) rfl, afd rfl Try.underlying147 rfl rfl ti145 (by decide) rfl, ald_ rfl ti145 (by decide) (nle rfl) rfl, alm (c := c_GStair) (l := x22.Stairs) (aln rfl Try.underlying145 rfl), abn rfl rfl, trivial⟩
     rcases bft ((decide (y17 < (x22.Stairs.length : Int)))) with hc26 | hc26
     ·replace h := bif_t hc26 h
      refine wft hc26 (by kernel_rfl) ?_
      refine awp_skip ?_
      refine thn ?_
      refine wsq ?_
      refine awp_block ?_
      obtain ⟨x27, hg28, h⟩ := bno h
      obtain ⟨hi29, hj30⟩ := gsm hg28
      refine wrg [rb [(.tmp 2, .ref 0 3 0 0)] [(0, (.own 3 [[I p0.Tank, I p0.Start, (.dat 2 ((p0.Hours : List GHour).map c_GHour))]]))] (.ref 0 3 0 2), rb [(.tmp 32, .ref 0 3 0 2)] [(0, (.own 3 [[I p0.Tank, I p0.Start, (.dat 2 ((p0.Hours : List GHour).map c_GHour))]]))] (.dat 2 ((p0.Hours : List GHour).map c_GHour)), mv 6 (I y4), rp [(.tmp 33, (.dat 2 ((p0.Hours : List GHour).map c_GHour))), (.tmp 34, I y4)] (.dptr (c_GHour (x22)) 0), rp [(.tmp 35, (.dptr (c_GHour (x22)) 0))] (.dptr (c_GHour (x22)) 1), rp [(.tmp 36, (.dptr (c_GHour (x22)) 1))] (.dat 2 ((x22.Stairs : List GStair).map c_GStair)), mv 8 (I y17), rp [(.tmp 37, (.dat 2 ((x22.Stairs : List GStair).map c_GStair))), (.tmp 38, I y17)] (.dptr (c_GStair (x27)) 0), rp [(.tmp 39, (.dptr (c_GStair (x27)) 0))] (.agg [I x27.Amount, I x27.Price]), ⟨[], [(1, .unused)], .ref 1 2 0 0, [(1, .own 2 [[I 0, I 0]])], false⟩, ⟨[(.tmp 9, .ref 1 2 0 0), (.tmp 40, (.agg [I x27.Amount, I x27.Price]))], [(1, .own 2 [[I 0, I 0]])], .any, [(1, .own 2 [[I x27.Amount, I x27.Price]])], false⟩] ?_ ?_
      ·exact ⟨afa rfl Try.underlying41 rfl rfl ti39 (by decide) rfl, ald rfl ti39 (by decide) rfl (nle rfl) rfl, amv rfl, aid rfl Try.underlying39 ti147 rfl rfl hi24 (mgt c_GHour hj25) rfl, afd rfl Try.underlying147 rfl rfl ti145 (by decide) rfl, ald_ rfl ti145 (by decide) (nle rfl) rfl, amv rfl, aid rfl Try.underlying145 ti156 rfl rfl hi29 (mgt c_GStair hj30) rfl, ald_ rfl ti156 (by decide) (nle rfl) rfl, astep_alloc rfl tz156 rfl, ast rfl ti156 (by rfl) rfl (nle rfl) rfl, trivial⟩
      obtain ⟨x31, hl32, h⟩ := bno h
      refine wrg [mv 7 (I y16), rb [(.tmp 9, .ref 1 2 0 0)] [(1, .own 2 [[I x27.Amount, I x27.Price]])] (.ref 1 2 0 0), rb [(.tmp 42, .ref 1 2 0 0)] [(1, .own 2 [[I x27.Amount, I x27.Price]])] (I x27.Amount), rp [(.tmp 41, I y16), (.tmp 43, I x27.Amount)] (I ((if x27.Amount < y16 then x27.Amount else y16))), rp [(.tmp 44, (I ((if x27.Amount < y16 then x27.Amount else y16))))] (I x31)] ?_ ?_
      ·exact ⟨amv rfl, afa rfl Try.underlying156 rfl rfl ti3 (by decide) rfl, ald rfl ti3 (by decide) rfl (nle rfl) rfl, astep_min rfl, astep_i hl32 (aas rfl), trivial⟩
      obtain ⟨x33, hl34, h⟩ := bno h
      refine wrg [mv 5 (I y15), mv 10 (I x31), rb [(.tmp 9, .ref 1 2 0 0)] [(1, .own 2 [[I x27.Amount, I x27.Price]])] (.ref 1 2 0 1), rb [(.tmp 47, .ref 1 2 0 1)] [(1, .own 2 [[I x27.Amount, I x27.Price]])] (I x27.Price), rp [(.tmp 46, I x31), (.tmp 48, I x27.Price)] (I (w64 (x31 * x27.Price))), rp [(.tmp 45, I y15), (.tmp 49, (I (w64 (x31 * x27.Price))))] (I (w64 (y15 + (w64 (x31 * x27.Price))))), rp [(.tmp 50, (I (w64 (y15 + (w64 (x31 * x27.Price))))))] (I x33)] ?_ ?_
      ·exact ⟨amv rfl, amv rfl, afa rfl Try.underlying156 rfl rfl ti3 (by decide) rfl, ald rfl ti3 (by decide) rfl (nle rfl) rfl, abn rfl rfl, abn rfl rfl, astep_i hl34 (aas rfl), trivial⟩
      refine awp_reg1 [mv 7 (I y16), mv 10 (I x31), rp [(.tmp 51, I y16), (.tmp 52, I x31)] (I (w64 (y16 - x31))), mv 53 (I (w64 (y16 - x31)))] ?_ ?_
      ·exact ⟨amv rfl, amv rfl, abn rfl rfl, aas rfl, trivial⟩
      refine bln ?_
      refine thn ?_
      refine awp_reg1 [mv 8 (I y17), rp [(.tmp 30, I y17), ci 1] (I (w64 (y17 + 1))), mv 31 (I (w64 (y17 + 1)))] ?_ ?_
      ·exact ⟨amv rfl, abn rfl rfl, aas rfl, trivial⟩
      refine thn ?_
      exact arm (mto (n := 55) [(1, (.dat 1 ((p1 : List Int).map c_i64))), (2, .ref 0 3 0 0), (5, I x33), (6, I y4), (7, (I (w64 (y16 - x31)))), (8, (I (w64 (y17 + 1))))] [0] [(.own 3 [[I p0.Tank, I p0.Start, (.dat 2 ((p0.Hours : List GHour).map c_GHour))]])] hφ0 (pc (.rn (.plain _ (nld nl_i64 _))) (pc (.rn (rqr rfl)) (pc rwl (pc rwl (pc rwl (pc rwl pn)))))) (qc (spb (lc rwl (lc rwl (lc (.rn (.plain _ (nld nl_GHour _))) ln)))) qn)) (ih (x33, w64 (y16 - x31), w64 (y17 + 1)) h)
     ·replace h := bif_f hc26 h
      refine wfn hc26 (by kernel_rfl) ?_
      refine awp_exit ?_
      refine thenA_x ?_
      refine thenA_x ?_
      refine blockA_e rfl ?_
      refine bln ?_
      refine thn ?_
      exact ⟨(y15), h, (mto (n := 55) [(1, (.dat 1 ((p1 : List Int).map c_i64))), (2, .ref 0 3 0 0), (5, I y15), (6, I y4)] [0] [(.own 3 [[I p0.Tank, I p0.Start, (.dat 2 ((p0.Hours : List GHour).map c_GHour))]])] hφ0 (pc (.rn (.plain _ (nld nl_i64 _))) (pc (.rn (rqr rfl)) (pc rwl (pc rwl pn)))) (qc (spb (lc rwl (lc rwl (lc (.rn (.plain _ (nld nl_GHour _))) ln)))) qn))⟩
   ·replace h := bif_f hc8 h
    refine wfn hc8 (by kernel_rfl) ?_
    refine awp_exit ?_
    refine thenA_x ?_
    refine thenA_x ?_
    refine blockA_e rfl ?_
    refine thn ?_
    exact ⟨(y3), h, (mto (n := 55) [(5, I y3)] [] [] hφ0 (pc rwl pn) qn)⟩

def law10_DayX_loop2 (N : Nat) (x11 : GHour) (k17 : (List GHour) × (List GStair) → Option GDay) : Nat → Int → (List GHour) → (List GStair) → Option GDay
  | 0, _, _, _ => none
  | n25 + 1, y19, y20, y21 =>
    bif (decide (y19 < (x11.Stairs.length : Int))) then
     (getI x11.Stairs y19).bind fun x27 =>
     chk (decide ((y21.length + ([x27]).length) * 16 ≤ 140737488355328)) <|
     law10_DayX_loop2 N x11 k17 n25 (w64 (y19 + 1)) y20 (y21 ++ ([x27]))
    else
     k17 (y20, y21)
def law10_DayX_loop1 (N : Nat) (p0 : GDay) (k2 : (List GHour) → Option GDay) : Nat → Int → (List GHour) → Option GDay
  | 0, _, _ => none
  | n7 + 1, y3, y4 =>
    bif (decide (y3 < (p0.Hours.length : Int))) then
     joinK (fun y9 =>
       law10_DayX_loop1 N p0 k2 n7 (w64 (y3 + 1)) y9) fun k10 : (List GHour) → Option GDay =>
     (getI p0.Hours y3).bind fun x11 =>
     joinK (fun ⟨y15, y16⟩ =>
       chk (decide ((y15.length + ([(⟨x11.Use, y16⟩ : GHour)]).length) * 32 ≤ 140737488355328)) <|
       k10 (y15 ++ ([(⟨x11.Use, y16⟩ : GHour)]))) fun k17 : (List GHour) × (List GStair) → Option GDay =>
     law10_DayX_loop2 N x11 k17 N 0 y4 ([])
    else
     k2 (y4)
def law10_DayX (N : Nat) (p0 : GDay) : Option GDay :=
  joinK (fun y1 =>
    some (⟨p0.Tank, p0.Start, y1⟩ : GDay)) fun k2 : (List GHour) → Option GDay =>
  law10_DayX_loop1 N p0 k2 N 0 ([])
set_option maxRecDepth 100000 in
set_option maxHeartbeats 4000000 in
theorem law10_DayX_ok (N : Nat) (p0 : GDay) (r : GDay) (h : law10_DayX N p0 = some r) : Spec Try.prog 31 [(.agg (c_GDay p0))] [] (.agg (c_GDay r)) [] := by
  refine spec_of_awp Try.func31 rfl 0 (nle rfl) (fun X φ0 w0 hφ0 => ?_)
  unfold law10_DayX at h
  refine wrg [⟨[(.tmp 0, (.agg [I p0.Tank, I p0.Start, (.dat 2 ((p0.Hours : List GHour).map c_GHour))]))], [(0, .unused)], .ref 0 3 0 0, [(0, (.own 3 [[I p0.Tank, I p0.Start, (.dat 2 ((p0.Hours : List GHour).map c_GHour))]]))], false⟩, ⟨[], [(1, .unused)], .ref 1 3 0 0, [(1, .own 3 [[I 0, I 0, nilS]])], false⟩] ?_ ?_
  ·exact ⟨astep_box rfl (by rfl) rfl rfl, astep_alloc rfl tz47 rfl, trivial⟩
  refine wrg [rb [(.tmp 1, .ref 0 3 0 0)] [(0, (.own 3 [[I p0.Tank, I p0.Start, (.dat 2 ((p0.Hours : List GHour).map c_GHour))]]))] (.ref 0 3 0 0), rb [(.tmp 8, .ref 0 3 0 0)] [(0, (.own 3 [[I p0.Tank, I p0.Start, (.dat 2 ((p0.Hours : List GHour).map c_GHour))]]))] (I p0.Tank), rb [(.tmp 1, .ref 0 3 0 0)] [(0, (.own 3 [[I p0.Tank, I p0.Start, (.dat 2 ((p0.Hours : List GHour).map c_GHour))]]))] (.ref 0 3 0 1), rb [(.tmp 10, .ref 0 3 0 1)] [(0, (.own 3 [[I p0.Tank, I p0.Start, (.dat 2 ((p0.Hours : List GHour).map c_GHour))]]))] (I p0.Start), rp [(.tmp 9, I p0.Tank), (.tmp 11, I p0.Start)] (.agg [I p0.Tank, I p0.Start, nilS]), ⟨[], [(2, .unused)], .ref 2 3 0 0, [(2, .own 3 [[I 0, I 0, nilS]])], false⟩, ⟨[(.tmp 3, .ref 2 3 0 0), (.tmp 12, (.agg [I p0.Tank, I p0.Start, nilS]))], [(2, .own 3 [[I 0, I 0, nilS]])], .any, [(2, .own 3 [[I p0.Tank, I p0.Start, nilS]])], false⟩] ?_ ?_
  ·exact ⟨afa rfl Try.underlying41 rfl rfl ti3 (by decide) rfl, ald rfl ti3 (by decide) rfl (nle rfl) rfl, afa rfl Try.underlying41 rfl rfl ti3 (by decide) rfl, ald rfl ti3 (by decide) rfl (nle rfl) rfl, astep_build (vs := [I p0.Tank, I p0.Start]) rfl ts47 tz47 rfl (by rfl) rfl, astep_alloc rfl tz47 rfl, ast rfl ti47 (by rfl) rfl (nle rfl) rfl, trivial⟩
  obtain ⟨k2, hk_k2, h⟩ := jko h
  refine wjn (τ := (List GHour)) (fun t => k2 t = some r) (fun y1 => ⟨mk 64 [(2, .ref 0 3 0 0), (3, .ref 1 3 0 0)], [(.own 3 [[I 0, I 0, nilS]]), (.own 3 [[I p0.Tank, I p0.Start, (.acc 2 62 2 ((y1 : List GHour).map c_GHour))]]), .tok]⟩) (fun y1 h => ?_) ?_
  ·subst hk_k2
   refine wrg [rb [(.tmp 3, .ref 1 3 0 0)] [(1, (.own 3 [[I p0.Tank, I p0.Start, (.acc 2 62 2 ((y1 : List GHour).map c_GHour))]]))] (.agg [I p0.Tank, I p0.Start, (.acc 2 62 2 ((y1 : List GHour).map c_GHour))]), ⟨[(.tmp 2, .ref 0 3 0 0), (.tmp 63, (.agg [I p0.Tank, I p0.Start, (.acc 2 62 2 ((y1 : List GHour).map c_GHour))]))], [(0, .own 3 [[I 0, I 0, nilS]])], .any, [(0, (.own 3 [[I p0.Tank, I p0.Start, (.acc 2 62 2 ((y1 : List GHour).map c_GHour))]]))], false⟩] ?_ ?_
   ·exact ⟨ald rfl ti47 (by decide) rfl (nle rfl) rfl, ast rfl ti47 (by rfl) rfl (nle rfl) rfl, trivial⟩
   refine awp_ret ?_
   obtain rfl := osi h
   exact ⟨⟨[(.agg [I p0.Tank, I p0.Start, (.dat 2 ((y1 : List GHour).map c_GHour))])], ⟨resOK_less (v := (.agg [I p0.Tank, I p0.Start, (.acc 2 62 2 ((y1 : List GHour).map c_GHour))])) (resOK_cell (n := 0) (m := 3) (j := 0) (i := 0) (xs := [[I p0.Tank, I p0.Start, (.acc 2 62 2 ((y1 : List GHour).map c_GHour))]]) (by kernel_rfl) (by kernel_rfl) ti47 (by decide) rfl (nle rfl) rfl) (Less.agg ⟨lrf, lrf, Less.acc, trivial⟩), trivial⟩, rfl⟩, (NLt.agg _ (nlc nll (nlc nll (nlc (nld nl_GHour _) nl0)))), Nat.le_refl _, fun n hn => absurd hn (Nat.not_lt_zero n)⟩
  ·skip
   refine wrg [mc (.int .i64 0)] ?_ ?_
   ·exact ⟨aas rfl, trivial⟩
   refine awp_block ?_
   refine wmr (Mor.trans (mor_nilb (n := 3) (ty := 62) (m := 2) (q := 2) (mq := 3) (c := [I p0.Tank, I p0.Start, nilS]) 2 (by kernel_rfl) (by kernel_rfl) (by kernel_rfl) (by decide)) (mto (n := 64) (l' := [(1, .ref 0 3 0 0), (2, .ref 1 3 0 0), (3, .ref 2 3 0 0), (4, I 0)]) (own' := [(.own 3 [[I p0.Tank, I p0.Start, (.dat 2 ((p0.Hours : List GHour).map c_GHour))]]), (.own 3 [[I 0, I 0, nilS]]), (.own 3 [[I p0.Tank, I p0.Start, (.acc 3 62 2 ((([]) : List GHour).map c_GHour))]]), .tok]) [(1, .ref 0 3 0 0), (2, .ref 1 3 0 0), (3, .ref 2 3 0 0), (4, I 0)] [0, 1, 2, 3] [(.own 3 [[I p0.Tank, I p0.Start, (.dat 2 ((p0.Hours : List GHour).map c_GHour))]]), (.own 3 [[I 0, I 0, nilS]]), (.own 3 [[I p0.Tank, I p0.Start, (.acc 3 62 2 (([] : List GHour).map c_GHour))]]), .tok] hφ0 (pc (.rn (rqr rfl)) (pc (.rn (rqr rfl)) (pc (.rn (rqr rfl)) (pc rwl pn)))) (qc (spb (lc rwl (lc rwl (lc (.rn (.plain _ (nld nl_GHour _))) ln)))) (qc (spb (lc rwl (lc rwl (lc rwl ln)))) (qc (spb (lc rwl (lc rwl (lc (.rn (rnq_acc rfl (nl_rows nl_GHour _))) ln)))) (qc .tok qn)))))) ?_
   refine awp_ind (τ := Int × (List GHour)) (fun n t => law10_DayX_loop1 N p0 k2 n t.1 t.2 = some r) (fun ⟨y3, y4⟩ => ⟨mk 64 [(1, .ref 0 3 0 0), (2, .ref 1 3 0 0), (3, .ref 2 3 0 0), (4, I y3)], [(.own 3 [[I p0.Tank, I p0.Start, (.dat 2 ((p0.Hours : List GHour).map c_GHour))]]), (.own 3 [[I 0, I 0, nilS]]), (.own 3 [[I p0.Tank, I p0.Start, (.acc 3 62 2 ((y4 : List GHour).map c_GHour))]]), .tok]⟩) (fun t h => by rw [law10_DayX_loop1] at h; cases h) (fun n7 ih t h => ?_) N (0, []) h
   obtain ⟨y3, y4⟩ := t
   rw [law10_DayX_loop1] at h
   skip
   refine wsq ?_
   refine wrg [mv 4 (I y3), rb [(.tmp 1, .ref 0 3 0 0)] [(0, (.own 3 [[I p0.Tank, I p0.Start, (.dat 2 ((p0.Hours : List GHour).map c_GHour))]]))] (.ref 0 3 0 2), rb [(.tmp 14, .ref 0 3 0 2)] [(0, (.own 3 [[I p0.Tank, I p0.Start, (.dat 2 ((p0.Hours : List GHour).map c_GHour))]]))] (.dat 2 ((p0.Hours : List GHour).map c_GHour)), rp [(.tmp 15, (.dat 2 ((p0.Hours : List GHour).map c_GHour)))] (I ((p0.Hours.length : Int))), rp [(.tmp 13, I y3), (.tmp 16, (I ((p0.Hours.length : Int))))] (B ((decide (y3 < (p0.Hours.length : Int)))))] ?_ ?_
   ·exact ⟨amv rfl, afa rfl Try.underlying41 rfl rfl ti39 (by decide) rfl, ald rfl ti39 (by decide) rfl (nle rfl) rfl, alm (c := c_GHour) (l := p0.Hours) (aln rfl Try.underlying39 rfl), abn rfl rfl, trivial⟩
   rcases bft ((decide (y3 < (p0.Hours.length : Int)))) with hc8 | hc8
   ·replace h := bif_t hc8 h
    refine wft hc8 (by kernel_rfl) ?_
    refine awp_skip ?_
    refine thn ?_
    obtain ⟨k10, hk_k10, h⟩ := jko h
    refine wjn (τ := (List GHour)) (fun t => k10 t = some r) (fun y9 => ⟨mk 64 [(1, .ref 0 3 0 0), (2, .ref 1 3 0 0), (3, .ref 2 3 0 0), (4, I y3)], [(.own 3 [[I p0.Tank, I p0.Start, (.dat 2 ((p0.Hours : List GHour).map c_GHour))]]), (.own 3 [[I 0, I 0, nilS]]), (.own 3 [[I p0.Tank, I p0.Start, (.acc 3 62 2 ((y9 : List GHour).map c_GHour))]]), .tok]⟩) (fun y9 h => ?_) ?_
    ·subst hk_k10
     refine awp_reg1 [mv 4 (I y3), rp [(.tmp 18, I y3), ci 1] (I (w64 (y3 + 1))), mv 19 (I (w64 (y3 + 1)))] ?_ ?_
     ·exact ⟨amv rfl, abn rfl rfl, aas rfl, trivial⟩
     refine thn ?_
     exact arm (mto (n := 64) [(1, .ref 0 3 0 0), (2, .ref 1 3 0 0), (3, .ref 2 3 0 0), (4, (I (w64 (y3 + 1))))] [0, 1, 2, 3] [(.own 3 [[I p0.Tank, I p0.Start, (.dat 2 ((p0.Hours : List GHour).map c_GHour))]]), (.own 3 [[I 0, I 0, nilS]]), (.own 3 [[I p0.Tank, I p0.Start, (.acc 3 62 2 ((y9 : List GHour).map c_GHour))]]), .tok] hφ0 (pc (.rn (rqr rfl)) (pc (.rn (rqr rfl)) (pc (.rn (rqr rfl)) (pc rwl pn)))) (qc (spb (lc rwl (lc rwl (lc (.rn (.plain _ (nld nl_GHour _))) ln)))) (qc (spb (lc rwl (lc rwl (lc rwl ln)))) (qc (spb (lc rwl (lc rwl (lc (.rn (rnq_acc rfl (nl_rows nl_GHour _))) ln)))) (qc .tok qn))))) (ih (w64 (y3 + 1), y9) h)
    ·skip
     refine awp_block ?_
     obtain ⟨x11, hg12, h⟩ := bno h
     obtain ⟨hi13, hj14⟩ := gsm hg12
     refine wrg [rb [(.tmp 1, .ref 0 3 0 0)] [(0, (.own 3 [[I p0.Tank, I p0.Start, (.dat 2 ((p0.Hours : List GHour).map c_GHour))]]))] (.ref 0 3 0 2), rb [(.tmp 20, .ref 0 3 0 2)] [(0, (.own 3 [[I p0.Tank, I p0.Start, (.dat 2 ((p0.Hours : List GHour).map c_GHour))]]))] (.dat 2 ((p0.Hours : List GHour).map c_GHour)), mv 4 (I y3), rp [(.tmp 21, (.dat 2 ((p0.Hours : List GHour).map c_GHour))), (.tmp 22, I y3)] (.dptr (c_GHour (x11)) 0), mv 23 (.dptr (c_GHour (x11)) 0), rp [(.tmp 24, (.dptr (c_GHour (x11)) 0))] (I x11.Use), rp [(.tmp 25, I x11.Use)] (.agg [I x11.Use, nilS]), ⟨[], [(4, .unused)], .ref 4 2 0 0, [(4, .own 2 [[I 0, nilS]])], false⟩, ⟨[(.tmp 5, .ref 4 2 0 0), (.tmp 26, (.agg [I x11.Use, nilS]))], [(4, .own 2 [[I 0, nilS]])], .any, [(4, .own 2 [[I x11.Use, nilS]])], false⟩] ?_ ?_
     ·exact ⟨afa rfl Try.underlying41 rfl rfl ti39 (by decide) rfl, ald rfl ti39 (by decide) rfl (nle rfl) rfl, amv rfl, aid rfl Try.underlying39 ti147 rfl rfl hi13 (mgt c_GHour hj14) rfl, afd rfl Try.underlying147 rfl rfl ti3 (by decide) rfl, ald_ rfl ti3 (by decide) (nle rfl) rfl, astep_build (vs := [I x11.Use]) rfl ts62 tz62 rfl (by rfl) rfl, astep_alloc rfl tz62 rfl, ast rfl ti62 (by rfl) rfl (nle rfl) rfl, trivial⟩
     obtain ⟨k17, hk_k17, h⟩ := jko h
     refine wjn (τ := (List GHour) × (List GStair)) (fun t => k17 t = some r) (fun ⟨y15, y16⟩ => ⟨mk 64 [(1, .ref 0 3 0 0), (2, .ref 1 3 0 0), (3, .ref 2 3 0 0), (4, I y3), (5, .ref 3 2 0 0)], [(.own 3 [[I p0.Tank, I p0.Start, (.dat 2 ((p0.Hours : List GHour).map c_GHour))]]), (.own 3 [[I 0, I 0, nilS]]), (.own 3 [[I p0.Tank, I p0.Start, (.acc 4 62 2 ((y15 : List GHour).map c_GHour))]]), (.own 2 [[I x11.Use, (.acc 5 64 2 ((y16 : List GStair).map c_GStair))]]), .tok, .tok]⟩) (fun t h => ?_) ?_
     ·subst hk_k17
      obtain ⟨y15, y16⟩ := t
      obtain ⟨ha18, h⟩ := cko h
      refine awp_reg1 [rb [(.tmp 3, .ref 2 3 0 0)] [(2, (.own 3 [[I p0.Tank, I p0.Start, (.acc 4 62 2 ((y15 : List GHour).map c_GHour))]]))] (.ref 2 3 0 2), rb [(.tmp 57, .ref 2 3 0 2)] [(2, (.own 3 [[I p0.Tank, I p0.Start, (.acc 4 62 2 ((y15 : List GHour).map c_GHour))]]))] (.acc 4 62 2 ((y15 : List GHour).map c_GHour)), rb [(.tmp 5, .ref 3 2 0 0)] [(3, (.own 2 [[I x11.Use, (.acc 5 64 2 ((y16 : List GStair).map c_GStair))]]))] (.agg [I x11.Use, (.acc 5 64 2 ((y16 : List GStair).map c_GStair))]), rp [(.tmp 59, (.agg [I x11.Use, (.acc 5 64 2 ((y16 : List GStair).map c_GStair))]))] (.dat 2 (([(⟨x11.Use, y16⟩ : GHour)] : List GHour).map c_GHour)), ⟨[(.tmp 58, (.acc 4 62 2 ((y15 : List GHour).map c_GHour))), (.tmp 60, (.dat 2 (([(⟨x11.Use, y16⟩ : GHour)] : List GHour).map c_GHour)))], [(4, .tok), (6, .unused)], (.acc 6 62 2 ((y15 ++ ([(⟨x11.Use, y16⟩ : GHour)]) : List GHour).map c_GHour)), [(4, .dead), (6, .tok)], false⟩, rb [(.tmp 3, .ref 2 3 0 0)] [(2, (.own 3 [[I p0.Tank, I p0.Start, (.acc 4 62 2 ((y15 : List GHour).map c_GHour))]]))] (.ref 2 3 0 2), ⟨[(.tmp 62, .ref 2 3 0 2), (.tmp 61, (.acc 6 62 2 ((y15 ++ ([(⟨x11.Use, y16⟩ : GHour)]) : List GHour).map c_GHour)))], [(2, (.own 3 [[I p0.Tank, I p0.Start, (.acc 4 62 2 ((y15 : List GHour).map c_GHour))]]))], .any, [(2, (.own 3 [[I p0.Tank, I p0.Start, (.acc 6 62 2 ((y15 ++ ([(⟨x11.Use, y16⟩ : GHour)]) : List GHour).map c_GHour))]]))], false⟩] ?_ ?_
      ·exact ⟨afa rfl Try.underlying47 rfl rfl ti45 (by decide) rfl, ald rfl ti45 (by decide) rfl (nle rfl) rfl, ald rfl ti62 (by decide) rfl (nle rfl) rfl, awk (rd' := [(.tmp 59, (.agg [I x11.Use, (.dat 2 ((y16 : List GStair).map c_GStair))]))]) ⟨rfl, (Less.agg ⟨lrf, Less.acc, trivial⟩), trivial⟩ (astep_bslice (vs := [(.agg [I x11.Use, (.dat 2 ((y16 : List GStair).map c_GStair))])]) rfl Try.underlying45 ti62 tz62 rfl (by decide) rfl (by decide) (by rfl) (by rfl) (by rfl) rfl), astep_app rfl Try.underlying45 te62 (Base.acc _ _) rfl rfl (by rfl) (app_le1 c_GHour ha18) (app_le2 c_GHour ha18 (by decide)) (app_map c_GHour) rfl rfl, afa rfl Try.underlying47 rfl rfl ti45 (by decide) rfl, ast rfl ti45 (by rfl) rfl (nle rfl) rfl, trivial⟩
      refine bln ?_
      refine thn ?_
      exact ⟨(y15 ++ ([(⟨x11.Use, y16⟩ : GHour)])), h, (mto (n := 64) [(1, .ref 0 3 0 0), (2, .ref 1 3 0 0), (3, .ref 2 3 0 0), (4, I y3)] [0, 1, 2, 6] [(.own 3 [[I p0.Tank, I p0.Start, (.dat 2 ((p0.Hours : List GHour).map c_GHour))]]), (.own 3 [[I 0, I 0, nilS]]), (.own 3 [[I p0.Tank, I p0.Start, (.acc 6 62 2 ((y15 ++ ([(⟨x11.Use, y16⟩ : GHour)]) : List GHour).map c_GHour))]]), .tok] hφ0 (pc (.rn (rqr rfl)) (pc (.rn (rqr rfl)) (pc (.rn (rqr rfl)) (pc rwl pn)))) (qc (spb (lc rwl (lc rwl (lc (.rn (.plain _ (nld nl_GHour _))) ln)))) (qc (spb (lc rwl (lc rwl (lc rwl ln)))) (qc (spb (lc rwl (lc rwl (lc (.rn (rnq_acc rfl (nl_rows nl_GHour _))) ln)))) (qc .tok qn)))))⟩
     ·skip
      refine wrg [mc (.int .i64 0)] ?_ ?_
      ·exact ⟨aas rfl, trivial⟩
      refine awp_block ?_
      refine wmr (Mor.trans (mor_nilb (n := 5) (ty := 64) (m := 2) (q := 4) (mq := 2) (c := [I x11.Use, nilS]) 1 (by kernel_rfl) (by kernel_rfl) (by kernel_rfl) (by decide)) (mto (n := 64) (l' := [(1, .ref 0 3 0 0), (2, .ref 1 3 0 0), (3, .ref 2 3 0 0), (4, I y3), (5, .ref 3 2 0 0), (6, I 0)]) (own' := [(.own 3 [[I p0.Tank, I p0.Start, (.dat 2 ((p0.Hours : List GHour).map c_GHour))]]), (.own 3 [[I 0, I 0, nilS]]), (.own 3 [[I p0.Tank, I p0.Start, (.acc 4 62 2 ((y4 : List GHour).map c_GHour))]]), (.own 2 [[I x11.Use, (.acc 5 64 2 ((([]) : List GStair).map c_GStair))]]), .tok, .tok]) [(1, .ref 0 3 0 0), (2, .ref 1 3 0 0), (3, .ref 2 3 0 0), (4, I y3), (5, .ref 4 2 0 0), (6, I 0)] [0, 1, 2, 4, 3, 5] [(.own 3 [[I p0.Tank, I p0.Start, (.dat 2 ((p0.Hours : List GHour).map c_GHour))]]), (.own 3 [[I 0, I 0, nilS]]), (.own 3 [[I p0.Tank, I p0.Start, (.acc 3 62 2 ((y4 : List GHour).map c_GHour))]]), (.own 2 [[I x11.Use, (.acc 5 64 2 (([] : List GStair).map c_GStair))]]), .tok, .tok] hφ0 (pc (.rn (rqr rfl)) (pc (.rn (rqr rfl)) (pc (.rn (rqr rfl)) (pc rwl (pc (.rn (rqr rfl)) (pc rwl pn)))))) (qc (spb (lc rwl (lc rwl (lc (.rn (.plain _ (nld nl_GHour _))) ln)))) (qc (spb (lc rwl (lc rwl (lc rwl ln)))) (qc (spb (lc rwl (lc rwl (lc (.rn (rnq_acc rfl (nl_rows nl_GHour _))) ln)))) (qc (spb (lc rwl (lc (.rn (rnq_acc rfl (nl_rows nl_GStair _))) ln))) (qc .tok (qc .tok qn)))))))) ?_
      refine awp_ind (τ := Int × (List GHour) × (List GStair)) (fun n t => law10_DayX_loop2 N x11 k17 n t.1 t.2.1 t.2.2 = some r) (fun ⟨y19, y20, y21⟩ => ⟨mk 64 [(1, .ref 0 3 0 0), (2, .ref 1 3 0 0), (3, .ref 2 3 0 0), (4, I y3), (5, .ref 3 2 0 0), (6, I y19)], [(.own 3 [[I p0.Tank, I p0.Start, (.dat 2 ((p0.Hours : List GHour).map c_GHour))]]), (.own 3 [[I 0, I 0, nilS]]), (.own 3 [[I p0.Tank, I p0.Start, (.acc 4 62 2 ((y20 : List GHour).map c_GHour))]]), (.own 2 [[I x11.Use, (.acc 5 64 2 ((y21 : List GStair).map c_GStair))]]), .tok, .tok]⟩) (fun t h => by rw [law10_DayX_loop2] at h; cases h) (fun n25 ih t h => ?_) N (0, y4, []) h
      obtain ⟨y19, y20, y21⟩ := t
      rw [law10_DayX_loop2] at h
      skip
      refine wsq ?_
      refine wrg [mv 6 (I y19), rb [(.tmp 1, .ref 0 3 0 0)] [(0, (.own 3 [[I p0.Tank, I p0.Start, (.dat 2 ((p0.Hours : List GHour).map c_GHour))]]))] (.ref 0 3 0 2), rb [(.tmp 28, .ref 0 3 0 2)] [(0, (.own 3 [[I p0.Tank, I p0.Start, (.dat 2 ((p0.Hours : List GHour).map c_GHour))]]))] (.dat 2 ((p0.Hours : List GHour).map c_GHour)), mv 4 (I y3), rp [(.tmp 29, (.dat 2 ((p0.Hours : List GHour).map c_GHour))), (.tmp 30, I y3)] (.dptr (c_GHour (x11)) 0), rp [(.tmp 31, (.dptr (c_GHour (x11)) 0))] (.dptr (c_GHour (x11)) 1), rp [(.tmp 32, (.dptr (c_GHour (x11)) 1))] (.dat 2 ((x11.Stairs : List GStair).map c_GStair)), rp [(.tmp 33, (.dat 2 ((x11.Stairs : List GStair).map c_GStair)))] (I ((x11.Stairs.length : Int))), rp [(.tmp 27, I y19), (.tmp 34, (I ((x11.Stairs.length : Int))))] (B ((decide (y19 < (x11.Stairs.length : Int)))))] ?_ ?_
      ·exact ⟨amv rfl, afa rfl Try.underlying41 rfl rfl ti39 (by decide) rfl, ald rfl ti39 (by decide) rfl (nle rfl) rfl, amv rfl, aid rfl Try.underlying39 ti147 rfl rfl hi13 (mgt c_GHour hj14) rfl, afd rfl Try.underlying147 rfl rfl ti145 (by decide) rfl, ald_ rfl ti145 (by decide) (nle rfl) rfl, alm (c := c_GStair) (l := x11.Stairs) (aln rfl Try.underlying145 rfl), abn rfl rfl, trivial⟩
      rcases bft ((decide (y19 < (x11.Stairs.length : Int)))) with hc26 | hc26
      ·replace h := bif_t hc26 h
       refine wft hc26 (by kernel_rfl) ?_
       refine awp_skip ?_
       refine thn ?_
       refine wsq ?_
       refine awp_block ?_
       obtain ⟨x27, hg28, h⟩ := bno h
       obtain ⟨hi29, hj30⟩ := gsm hg28
       refine wrg [rb [(.tmp 1, .ref 0 3 0 0)] [(0, (.own 3 [[I p0.Tank, I p0.Start, (.dat 2 ((p0.Hours : List GHour).map c_GHour))]]))] (.ref 0 3 0 2), rb [(.tmp 38, .ref 0 3 0 2)] [(0, (.own 3 [[I p0.Tank, I p0.Start, (.dat 2 ((p0.Hours : List GHour).map c_GHour))]]))] (.dat 2 ((p0.Hours : List GHour).map c_GHour)), mv 4 (I y3), rp [(.tmp 39, (.dat 2 ((p0.Hours : List GHour).map c_GHour))), (.tmp 40, I y3)] (.dptr (c_GHour (x11)) 0), rp [(.tmp 41, (.dptr (c_GHour (x11)) 0))] (.dptr (c_GHour (x11)) 1), rp [(.tmp 42, (.dptr (c_GHour (x11)) 1))] (.dat 2 ((x11.Stairs : List GStair).map c_GStair)), mv 6 (I y19), rp [(.tmp 43, (.dat 2 ((x11.Stairs : List GStair).map c_GStair))), (.tmp 44, I y19)] (.dptr (c_GStair (x27)) 0), rp [(.tmp 45, (.dptr (c_GStair (x27)) 0))] (.agg [I x27.Amount, I x27.Price]), ⟨[], [(6, .unused)], .ref 6 2 0 0, [(6, .own 2 [[I 0, I 0]])], false⟩, ⟨[(.tmp 7, .ref 6 2 0 0), (.tmp 46, (.agg [I x27.Amount, I x27.Price]))], [(6, .own 2 [[I 0, I 0]])], .any, [(6, .own 2 [[I x27.Amount, I x27.Price]])], false⟩] ?_ ?_
       ·exact ⟨afa rfl Try.underlying41 rfl rfl ti39 (by decide) rfl, ald rfl ti39 (by decide) rfl (nle rfl) rfl, amv rfl, aid rfl Try.underlying39 ti147 rfl rfl hi13 (mgt c_GHour hj14) rfl, afd rfl Try.underlying147 rfl rfl ti145 (by decide) rfl, ald_ rfl ti145 (by decide) (nle rfl) rfl, amv rfl, aid rfl Try.underlying145 ti156 rfl rfl hi29 (mgt c_GStair hj30) rfl, ald_ rfl ti156 (by decide) (nle rfl) rfl, astep_alloc rfl tz156 rfl, ast rfl ti156 (by rfl) rfl (nle rfl) rfl, trivial⟩
       obtain ⟨ha31, h⟩ := cko h
       refine awp_reg1 [rb [(.tmp 5, .ref 3 2 0 0)] [(3, (.own 2 [[I x11.Use, (.acc 5 64 2 ((y21 : List GStair).map c_GStair))]]))] (.ref 3 2 0 1), rb [(.tmp 47, .ref 3 2 0 1)] [(3, (.own 2 [[I x11.Use, (.acc 5 64 2 ((y21 : List GStair).map c_GStair))]]))] (.acc 5 64 2 ((y21 : List GStair).map c_GStair)), rb [(.tmp 7, .ref 6 2 0 0)] [(6, .own 2 [[I x27.Amount, I x27.Price]])] (.ref 6 2 0 0), rb [(.tmp 49, .ref 6 2 0 0)] [(6, .own 2 [[I x27.Amount, I x27.Price]])] (I x27.Amount), rb [(.tmp 7, .ref 6 2 0 0)] [(6, .own 2 [[I x27.Amount, I x27.Price]])] (.ref 6 2 0 1), rb [(.tmp 51, .ref 6 2 0 1)] [(6, .own 2 [[I x27.Amount, I x27.Price]])] (I x27.Price), rp [(.tmp 50, I x27.Amount), (.tmp 52, I x27.Price)] (.agg [I x27.Amount, I x27.Price]), rp [(.tmp 53, (.agg [I x27.Amount, I x27.Price]))] (.dat 2 (([x27] : List GStair).map c_GStair)), ⟨[(.tmp 48, (.acc 5 64 2 ((y21 : List GStair).map c_GStair))), (.tmp 54, (.dat 2 (([x27] : List GStair).map c_GStair)))], [(5, .tok), (7, .unused)], (.acc 7 64 2 ((y21 ++ ([x27]) : List GStair).map c_GStair)), [(5, .dead), (7, .tok)], false⟩, rb [(.tmp 5, .ref 3 2 0 0)] [(3, (.own 2 [[I x11.Use, (.acc 5 64 2 ((y21 : List GStair).map c_GStair))]]))] (.ref 3 2 0 1), ⟨[(.tmp 56, .ref 3 2 0 1), (.tmp 55, (.acc 7 64 2 ((y21 ++ ([x27]) : List GStair).map c_GStair)))], [(3, (.own 2 [[I x11.Use, (.acc 5 64 2 ((y21 : List GStair).map c_GStair))]]))], .any, [(3, (.own 2 [[I x11.Use, (.acc 7 64 2 ((y21 ++ ([x27]) : List GStair).map c_GStair))]]))], false⟩] ?_ ?_
       ·exact ⟨afa rfl Try.underlying62 rfl rfl ti60 (by decide) rfl, ald rfl ti60 (by decide) rfl (nle rfl) rfl, afa rfl Try.underlying156 rfl rfl ti3 (by decide) rfl, ald rfl ti3 (by decide) rfl (nle rfl) rfl, afa rfl Try.underlying156 rfl rfl ti3 (by decide) rfl, ald rfl ti3 (by decide) rfl (nle rfl) rfl, astep_build (vs := [I x27.Amount, I x27.Price]) rfl ts64 tz64 rfl (by rfl) rfl, astep_bslice (vs := [(.agg [I x27.Amount, I x27.Price])]) rfl Try.underlying60 ti64 tz64 rfl (by decide) rfl (by decide) (by rfl) (by rfl) (by rfl) rfl, astep_app rfl Try.underlying60 te64 (Base.acc _ _) rfl rfl (by rfl) (app_le1 c_GStair ha31) (app_le2 c_GStair ha31 (by decide)) (app_map c_GStair) rfl rfl, afa rfl Try.underlying62 rfl rfl ti60 (by decide) rfl, ast rfl ti60 (by rfl) rfl (nle rfl) rfl, trivial⟩
       refine bln ?_
       refine thn ?_
       refine awp_reg1 [mv 6 (I y19), rp [(.tmp 36, I y19), ci 1] (I (w64 (y19 + 1))), mv 37 (I (w64 (y19 + 1)))] ?_ ?_
       ·exact ⟨amv rfl, abn rfl rfl, aas rfl, trivial⟩
       refine thn ?_
       exact arm (mto (n := 64) [(1, .ref 0 3 0 0), (2, .ref 1 3 0 0), (3, .ref 2 3 0 0), (4, I y3), (5, .ref 3 2 0 0), (6, (I (w64 (y19 + 1))))] [0, 1, 2, 3, 4, 7] [(.own 3 [[I p0.Tank, I p0.Start, (.dat 2 ((p0.Hours : List GHour).map c_GHour))]]), (.own 3 [[I 0, I 0, nilS]]), (.own 3 [[I p0.Tank, I p0.Start, (.acc 4 62 2 ((y20 : List GHour).map c_GHour))]]), (.own 2 [[I x11.Use, (.acc 7 64 2 ((y21 ++ ([x27]) : List GStair).map c_GStair))]]), .tok, .tok] hφ0 (pc (.rn (rqr rfl)) (pc (.rn (rqr rfl)) (pc (.rn (rqr rfl)) (pc rwl (pc (.rn (rqr rfl)) (pc rwl pn)))))) (qc (spb (lc rwl (lc rwl (lc (.rn (.plain _ (nld nl_GHour _))) ln)))) (qc (spb (lc rwl (lc rwl (lc rwl ln)))) (qc (spb (lc rwl (lc rwl (lc (.rn (rnq_acc rfl (nl_rows nl_GHour _))) ln)))) (qc (spb (lc rwl (lc (.rn (rnq_acc rfl (nl_rows nl_GStair _))) ln))) (qc .tok (qc .tok qn))))))) (ih (w64 (y19 + 1), y20, y21 ++ ([x27])) h)
      ·replace h := bif_f hc26 h
       refine wfn hc26 (by kernel_rfl) ?_
       refine awp_exit ?_
       refine thenA_x ?_
       refine thenA_x ?_
       refine blockA_e rfl ?_
       refine thn ?_
       exact ⟨(y20, y21), h, (mto (n := 64) [(1, .ref 0 3 0 0), (2, .ref 1 3 0 0), (3, .ref 2 3 0 0), (4, I y3), (5, .ref 3 2 0 0)] [0, 1, 2, 3, 4, 5] [(.own 3 [[I p0.Tank, I p0.Start, (.dat 2 ((p0.Hours : List GHour).map c_GHour))]]), (.own 3 [[I 0, I 0, nilS]]), (.own 3 [[I p0.Tank, I p0.Start, (.acc 4 62 2 ((y20 : List GHour).map c_GHour))]]), (.own 2 [[I x11.Use, (.acc 5 64 2 ((y21 : List GStair).map c_GStair))]]), .tok, .tok] hφ0 (pc (.rn (rqr rfl)) (pc (.rn (rqr rfl)) (pc (.rn (rqr rfl)) (pc rwl (pc (.rn (rqr rfl)) pn))))) (qc (spb (lc rwl (lc rwl (lc (.rn (.plain _ (nld nl_GHour _))) ln)))) (qc (spb (lc rwl (lc rwl (lc rwl ln)))) (qc (spb (lc rwl (lc rwl (lc (.rn (rnq_acc rfl (nl_rows nl_GHour _))) ln)))) (qc (spb (lc rwl (lc (.rn (rnq_acc rfl (nl_rows nl_GStair _))) ln))) (qc .tok (qc .tok qn)))))))⟩
   ·replace h := bif_f hc8 h
    refine wfn hc8 (by kernel_rfl) ?_
    refine awp_exit ?_
    refine thenA_x ?_
    refine thenA_x ?_
    refine blockA_e rfl ?_
    refine thn ?_
    exact ⟨(y4), h, (mto (n := 64) [(2, .ref 1 3 0 0), (3, .ref 2 3 0 0)] [1, 2, 3] [(.own 3 [[I 0, I 0, nilS]]), (.own 3 [[I p0.Tank, I p0.Start, (.acc 3 62 2 ((y4 : List GHour).map c_GHour))]]), .tok] hφ0 (pc (.rn (rqr rfl)) (pc (.rn (rqr rfl)) pn)) (qc (spb (lc rwl (lc rwl (lc rwl ln)))) (qc (spb (lc rwl (lc rwl (lc (.rn (rnq_acc rfl (nl_rows nl_GHour _))) ln)))) (qc .tok qn))))⟩

def law10_FewX_loop1 (N : Nat) (p0 : GDay) (k1 : Unit → Option Bool) : Nat → Int → Option Bool
  | 0, _ => none
  | n4 + 1, y2 =>
    bif (decide (y2 < (p0.Hours.length : Int))) then
     (getI p0.Hours y2).bind fun x6 =>
     bif (decide ((x6.Stairs.length : Int) > 10)) then
      some false
     else
      law10_FewX_loop1 N p0 k1 n4 (w64 (y2 + 1))
    else
     k1 ()
def law10_FewX (N : Nat) (p0 : GDay) : Option Bool :=
  joinK (fun _ =>
    some (decide ((p0.Hours.length : Int) ≤ 30))) fun k1 : Unit → Option Bool =>
  law10_FewX_loop1 N p0 k1 N 0
set_option maxRecDepth 100000 in
set_option maxHeartbeats 4000000 in
theorem law10_FewX_ok (N : Nat) (p0 : GDay) (r : Bool) (h : law10_FewX N p0 = some r) : Spec Try.prog 29 [(.agg (c_GDay p0))] [] (B r) [] := by
  refine spec_of_awp Try.func29 rfl 0 (nle rfl) (fun X φ0 w0 hφ0 => ?_)
  unfold law10_FewX at h
  refine wrg [⟨[(.tmp 0, (.agg [I p0.Tank, I p0.Start, (.dat 2 ((p0.Hours : List GHour).map c_GHour))]))], [(0, .unused)], .ref 0 3 0 0, [(0, (.own 3 [[I p0.Tank, I p0.Start, (.dat 2 ((p0.Hours : List GHour).map c_GHour))]]))], false⟩, mc (.bool false)] ?_ ?_
  ·exact ⟨astep_box rfl (by rfl) rfl rfl, aas rfl, trivial⟩
  obtain ⟨k1, hk_k1, h⟩ := jko h
  refine wjn (τ := Unit) (fun t => k1 t = some r) (fun _ => ⟨mk 23 [(1, .ref 0 3 0 0)], [(.own 3 [[I p0.Tank, I p0.Start, (.dat 2 ((p0.Hours : List GHour).map c_GHour))]])]⟩) (fun t h => ?_) ?_
  ·subst hk_k1
   refine wrg [rb [(.tmp 1, .ref 0 3 0 0)] [(0, (.own 3 [[I p0.Tank, I p0.Start, (.dat 2 ((p0.Hours : List GHour).map c_GHour))]]))] (.ref 0 3 0 2), rb [(.tmp 19, .ref 0 3 0 2)] [(0, (.own 3 [[I p0.Tank, I p0.Start, (.dat 2 ((p0.Hours : List GHour).map c_GHour))]]))] (.dat 2 ((p0.Hours : List GHour).map c_GHour)), rp [(.tmp 20, (.dat 2 ((p0.Hours : List GHour).map c_GHour)))] (I ((p0.Hours.length : Int))), rp [(.tmp 21, (I ((p0.Hours.length : Int)))), ci 30] (B ((decide ((p0.Hours.length : Int) ≤ 30)))), mv 22 (B ((decide ((p0.Hours.length : Int) ≤ 30))))] ?_ ?_
   ·exact ⟨afa rfl Try.underlying41 rfl rfl ti39 (by decide) rfl, ald rfl ti39 (by decide) rfl (nle rfl) rfl, alm (c := c_GHour) (l := p0.Hours) (aln rfl Try.underlying39 rfl), abn rfl rfl, aas rfl, trivial⟩
   refine awp_ret ?_
   obtain rfl := osi h
   exact ⟨⟨[(B ((decide ((p0.Hours.length : Int) ≤ 30))))], ⟨rot (by kernel_rfl), trivial⟩, rfl⟩, nll, Nat.le_refl _, fun n hn => absurd hn (Nat.not_lt_zero n)⟩
  ·skip
   refine wrg [mc (.int .i64 0)] ?_ ?_
   ·exact ⟨aas rfl, trivial⟩
   refine awp_block ?_
   refine wmr (mto (n := 23) (l' := [(1, .ref 0 3 0 0), (3, I 0)]) (own' := [(.own 3 [[I p0.Tank, I p0.Start, (.dat 2 ((p0.Hours : List GHour).map c_GHour))]])]) [(1, .ref 0 3 0 0), (3, I 0)] [0] [(.own 3 [[I p0.Tank, I p0.Start, (.dat 2 ((p0.Hours : List GHour).map c_GHour))]])] hφ0 (pc (.rn (rqr rfl)) (pc rwl pn)) (qc (spb (lc rwl (lc rwl (lc (.rn (.plain _ (nld nl_GHour _))) ln)))) qn)) ?_
   refine awp_ind (τ := Int) (fun n t => law10_FewX_loop1 N p0 k1 n t = some r) (fun y2 => ⟨mk 23 [(1, .ref 0 3 0 0), (3, I y2)], [(.own 3 [[I p0.Tank, I p0.Start, (.dat 2 ((p0.Hours : List GHour).map c_GHour))]])]⟩) (fun t h => by rw [law10_FewX_loop1] at h; cases h) (fun n4 ih y2 h => ?_) N (0) h
   rw [law10_FewX_loop1] at h
   skip
   refine wsq ?_
   refine wrg [mv 3 (I y2), rb [(.tmp 1, .ref 0 3 0 0)] [(0, (.own 3 [[I p0.Tank, I p0.Start, (.dat 2 ((p0.Hours : List GHour).map c_GHour))]]))] (.ref 0 3 0 2), rb [(.tmp 5, .ref 0 3 0 2)] [(0, (.own 3 [[I p0.Tank, I p0.Start, (.dat 2 ((p0.Hours : List GHour).map c_GHour))]]))] (.dat 2 ((p0.Hours : List GHour).map c_GHour)), rp [(.tmp 6, (.dat 2 ((p0.Hours : List GHour).map c_GHour)))] (I ((p0.Hours.length : Int))), rp [(.tmp 4, I y2), (.tmp 7, (I ((p0.Hours.length : Int))))] (B ((decide (y2 < (p0.Hours.length : Int)))))] ?_ ?_
   ·exact ⟨amv rfl, afa rfl Try.underlying41 rfl rfl ti39 (by decide) rfl, ald rfl ti39 (by decide) rfl (nle rfl) rfl, alm (c := c_GHour) (l := p0.Hours) (aln rfl Try.underlying39 rfl), abn rfl rfl, trivial⟩
   rcases bft ((decide (y2 < (p0.Hours.length : Int)))) with hc5 | hc5
   ·replace h := bif_t hc5 h
    refine wft hc5 (by kernel_rfl) ?_
    refine awp_skip ?_
    refine thn ?_
    refine wsq ?_
    refine awp_block ?_
    obtain ⟨x6, hg7, h⟩ := bno h
    obtain ⟨hi8, hj9⟩ := gsm hg7
    refine wrg [rb [(.tmp 1, .ref 0 3 0 0)] [(0, (.own 3 [[I p0.Tank, I p0.Start, (.dat 2 ((p0.Hours : List GHour).map c_GHour))]]))] (.ref 0 3 0 2), rb [(.tmp 11, .ref 0 3 0 2)] [(0, (.own 3 [[I p0.Tank, I p0.Start, (.dat 2 ((p0.Hours : List GHour).map c_GHour))]]))] (.dat 2 ((p0.Hours : List GHour).map c_GHour)), mv 3 (I y2), rp [(.tmp 12, (.dat 2 ((p0.Hours : List GHour).map c_GHour))), (.tmp 13, I y2)] (.dptr (c_GHour (x6)) 0), rp [(.tmp 14, (.dptr (c_GHour (x6)) 0))] (.dptr (c_GHour (x6)) 1), rp [(.tmp 15, (.dptr (c_GHour (x6)) 1))] (.dat 2 ((x6.Stairs : List GStair).map c_GStair)), rp [(.tmp 16, (.dat 2 ((x6.Stairs : List GStair).map c_GStair)))] (I ((x6.Stairs.length : Int))), rp [(.tmp 17, (I ((x6.Stairs.length : Int)))), ci 10] (B ((decide ((x6.Stairs.length : Int) > 10))))] ?_ ?_
    ·exact ⟨afa rfl Try.underlying41 rfl rfl ti39 (by decide) rfl, ald rfl ti39 (by decide) rfl (nle rfl) rfl, amv rfl, aid rfl Try.underlying39 ti147 rfl rfl hi8 (mgt c_GHour hj9) rfl, afd rfl Try.underlying147 rfl rfl ti145 (by decide) rfl, ald_ rfl ti145 (by decide) (nle rfl) rfl, alm (c := c_GStair) (l := x6.Stairs) (aln rfl Try.underlying145 rfl), abn rfl rfl, trivial⟩
    rcases bft ((decide ((x6.Stairs.length : Int) > 10))) with hc10 | hc10
    ·replace h := bif_t hc10 h
     refine wft hc10 (by kernel_rfl) ?_
     refine wrg [mc (.bool false)] ?_ ?_
     ·exact ⟨aas rfl, trivial⟩
     refine awp_ret ?_
     refine blockA_r ?_
     refine thenA_r ?_
     refine thenA_r ?_
     refine blockA_r ?_
     refine thenA_r ?_
     obtain rfl := osi h
     exact ⟨⟨[B false], ⟨rot (by kernel_rfl), trivial⟩, rfl⟩, nll, Nat.le_refl _, fun n hn => absurd hn (Nat.not_lt_zero n)⟩
    ·replace h := bif_f hc10 h
     refine wfn hc10 (by kernel_rfl) ?_
     refine awp_skip ?_
     refine bln ?_
     refine thn ?_
     refine awp_reg1 [mv 3 (I y2), rp [(.tmp 9, I y2), ci 1] (I (w64 (y2 + 1))), mv 10 (I (w64 (y2 + 1)))] ?_ ?_
     ·exact ⟨amv rfl, abn rfl rfl, aas rfl, trivial⟩
     refine thn ?_
     exact arm (mto (n := 23) [(1, .ref 0 3 0 0), (3, (I (w64 (y2 + 1))))] [0] [(.own 3 [[I p0.Tank, I p0.Start, (.dat 2 ((p0.Hours : List GHour).map c_GHour))]])] hφ0 (pc (.rn (rqr rfl)) (pc rwl pn)) (qc (spb (lc rwl (lc rwl (lc (.rn (.plain _ (nld nl_GHour _))) ln)))) qn)) (ih (w64 (y2 + 1)) h)
   ·replace h := bif_f hc5 h
    refine wfn hc5 (by kernel_rfl) ?_
    refine awp_exit ?_
    refine thenA_x ?_
    refine thenA_x ?_
    refine blockA_e rfl ?_
    refine thn ?_
    exact ⟨(), h, (mto (n := 23) [(1, .ref 0 3 0 0)] [0] [(.own 3 [[I p0.Tank, I p0.Start, (.dat 2 ((p0.Hours : List GHour).map c_GHour))]])] hφ0 (pc (.rn (rqr rfl)) pn) (qc (spb (lc rwl (lc rwl (lc (.rn (.plain _ (nld nl_GHour _))) ln)))) qn))⟩

def town_CheckDayX (N : Nat) (p0 : GDay) : Option Int :=
  (town_Day_validX N p0).bind fun x2 =>
  bif (!x2) then
   some 1
  else
   some 0
set_option maxRecDepth 100000 in
set_option maxHeartbeats 4000000 in
theorem town_CheckDayX_ok (N : Nat) (p0 : GDay) (r : Int) (h : town_CheckDayX N p0 = some r) : Spec Try.prog 62 [(.agg (c_GDay p0))] [] (I r) [] := by
  refine spec_of_awp Try.func62 rfl 0 (nle rfl) (fun X φ0 w0 hφ0 => ?_)
  unfold town_CheckDayX at h
  refine wrg [⟨[(.tmp 0, (.agg [I p0.Tank, I p0.Start, (.dat 2 ((p0.Hours : List GHour).map c_GHour))]))], [(0, .unused)], .ref 0 3 0 0, [(0, (.own 3 [[I p0.Tank, I p0.Start, (.dat 2 ((p0.Hours : List GHour).map c_GHour))]]))], false⟩, mc (.int .i64 0)] ?_ ?_
  ·exact ⟨astep_box rfl (by rfl) rfl rfl, aas rfl, trivial⟩
  refine wsq ?_
  obtain ⟨x2, hf1, h⟩ := bno h
  refine wrg [rb [(.tmp 1, .ref 0 3 0 0)] [(0, (.own 3 [[I p0.Tank, I p0.Start, (.dat 2 ((p0.Hours : List GHour).map c_GHour))]]))] (.agg [I p0.Tank, I p0.Start, (.dat 2 ((p0.Hours : List GHour).map c_GHour))]), rp [fu 74, (.tmp 3, (.agg [I p0.Tank, I p0.Start, (.dat 2 ((p0.Hours : List GHour).map c_GHour))]))] (B x2), rp [(.tmp 4, B x2)] (B ((!x2)))] ?_ ?_
  ·exact ⟨ald rfl ti47 (by decide) rfl (nle rfl) rfl, apc (first := []) (cap := []) (vs := [(.agg [I p0.Tank, I p0.Start, (.dat 2 ((p0.Hours : List GHour).map c_GHour))])]) rfl enter74 (town_Day_validX_ok N p0 _ hf1) rfl rfl (nlc (NLt.agg _ (nlc nll (nlc nll (nlc (nld nl_GHour _) nl0)))) nl0) nll rfl, astep_not rfl, trivial⟩
  rcases bft ((!x2)) with hc3 | hc3
  ·replace h := bif_t hc3 h
   refine wft hc3 (by kernel_rfl) ?_
   refine wrg [mc (.int .i64 1)] ?_ ?_
   ·exact ⟨aas rfl, trivial⟩
   refine awp_ret ?_
   refine thenA_r ?_
   obtain rfl := osi h
   exact ⟨⟨[I 1], ⟨rot (by kernel_rfl), trivial⟩, rfl⟩, nll, Nat.le_refl _, fun n hn => absurd hn (Nat.not_lt_zero n)⟩
  ·replace h := bif_f hc3 h
   refine wfn hc3 (by kernel_rfl) ?_
   refine awp_skip ?_
   refine thn ?_
   refine wrg [mc (.int .i64 0)] ?_ ?_
   ·exact ⟨aas rfl, trivial⟩
   refine awp_ret ?_
   obtain rfl := osi h
   exact ⟨⟨[I 0], ⟨rot (by kernel_rfl), trivial⟩, rfl⟩, nll, Nat.le_refl _, fun n hn => absurd hn (Nat.not_lt_zero n)⟩

def town_Day_levelsX_loop1 (N : Nat) (p0 : GDay) (p1 : (List Int)) (k3 : (List Int) → Option ((List Int) × Bool)) : Nat → (List Int) → Int → Int → Option ((List Int) × Bool)
  | 0, _, _, _ => none
  | n10 + 1, y4, y5, y6 =>
    bif (decide (y6 < (p0.Hours.length : Int))) then
     (getI p0.Hours y6).bind fun x12 =>
     (getI p1 y6).bind fun x16 =>
     (town_Hour_wholeX N x12).bind fun x21 =>
     (town_withinX N x16 0 x21).bind fun x23 =>
     bif (!x23) then
      some ([], false)
     else
      (some (w64 (y5 + (w64 (x16 - x12.Use))))).bind fun x25 =>
      (town_withinX N x25 0 p0.Tank).bind fun x28 =>
      bif (!x28) then
       some ([], false)
      else
       chk (decide ((y4.length + ([x25]).length) * 8 ≤ 140737488355328)) <|
       town_Day_levelsX_loop1 N p0 p1 k3 n10 (y4 ++ ([x25])) x25 (w64 (y6 + 1))
    else
     k3 (y4)
def town_Day_levelsX (N : Nat) (p0 : GDay) (p1 : (List Int)) : Option ((List Int) × Bool) :=
  bif ((p1.length : Int) != (p0.Hours.length : Int)) then
   some ([], false)
  else
   joinK (fun y2 =>
     some (y2, true)) fun k3 : (List Int) → Option ((List Int) × Bool) =>
   town_Day_levelsX_loop1 N p0 p1 k3 N ([]) p0.Start 0
set_option maxRecDepth 100000 in
set_option maxHeartbeats 4000000 in
theorem town_Day_levelsX_ok (N : Nat) (p0 : GDay) (p1 : (List Int)) (r : ((List Int) × Bool)) (h : town_Day_levelsX N p0 p1 = some r) : Spec Try.prog 92 [(.agg (c_GDay p0)), (.dat 1 (p1.map c_i64))] [] (.tup [(.dat 1 (r.1.map c_i64)), (B r.2)]) [] := by
  refine spec_of_awp Try.func92 rfl 0 (nle rfl) (fun X φ0 w0 hφ0 => ?_)
  unfold town_Day_levelsX at h
  refine wrg [⟨[(.tmp 0, (.agg [I p0.Tank, I p0.Start, (.dat 2 ((p0.Hours : List GHour).map c_GHour))]))], [(0, .unused)], .ref 0 3 0 0, [(0, (.own 3 [[I p0.Tank, I p0.Start, (.dat 2 ((p0.Hours : List GHour).map c_GHour))]]))], false⟩, mc (.slice none 0 0), mc (.bool false)] ?_ ?_
  ·exact ⟨astep_box rfl (by rfl) rfl rfl, aas rfl, aas rfl, trivial⟩
  refine wsq ?_
  refine wrg [mv 1 (.dat 1 ((p1 : List Int).map c_i64)), rp [(.tmp 10, (.dat 1 ((p1 : List Int).map c_i64)))] (I ((p1.length : Int))), rb [(.tmp 2, .ref 0 3 0 0)] [(0, (.own 3 [[I p0.Tank, I p0.Start, (.dat 2 ((p0.Hours : List GHour).map c_GHour))]]))] (.ref 0 3 0 2), rb [(.tmp 12, .ref 0 3 0 2)] [(0, (.own 3 [[I p0.Tank, I p0.Start, (.dat 2 ((p0.Hours : List GHour).map c_GHour))]]))] (.dat 2 ((p0.Hours : List GHour).map c_GHour)), rp [(.tmp 13, (.dat 2 ((p0.Hours : List GHour).map c_GHour)))] (I ((p0.Hours.length : Int))), rp [(.tmp 11, (I ((p1.length : Int)))), (.tmp 14, (I ((p0.Hours.length : Int))))] (B (((p1.length : Int) != (p0.Hours.length : Int))))] ?_ ?_
  ·exact ⟨amv rfl, alm (c := c_i64) (l := p1) (aln rfl Try.underlying23 rfl), afa rfl Try.underlying47 rfl rfl ti45 (by decide) rfl, ald rfl ti45 (by decide) rfl (nle rfl) rfl, alm (c := c_GHour) (l := p0.Hours) (aln rfl Try.underlying45 rfl), abn rfl rfl, trivial⟩
  rcases bft (((p1.length : Int) != (p0.Hours.length : Int))) with hc1 | hc1
  ·replace h := bif_t hc1 h
   refine wft hc1 (by kernel_rfl) ?_
   refine wrg [mc (.slice none 0 0), mc (.bool false)] ?_ ?_
   ·exact ⟨aas rfl, aas rfl, trivial⟩
   refine awp_ret ?_
   refine thenA_r ?_
   obtain rfl := osi h
   exact ⟨⟨[(.dat 1 (([] : List Int).map c_i64)), B false], ⟨resOK_less (v := nilS) (rot (by kernel_rfl)) Less.nil, rot (by kernel_rfl), trivial⟩, rfl⟩, (NLt.tup _ (nlc (nld nl_i64 _) (nlc nll nl0))), Nat.le_refl _, fun n hn => absurd hn (Nat.not_lt_zero n)⟩
  ·replace h := bif_f hc1 h
   refine wfn hc1 (by kernel_rfl) ?_
   refine awp_skip ?_
   refine thn ?_
   refine wrg [mc (.slice none 0 0)] ?_ ?_
   ·exact ⟨aas rfl, trivial⟩
   refine wrg [rb [(.tmp 2, .ref 0 3 0 0)] [(0, (.own 3 [[I p0.Tank, I p0.Start, (.dat 2 ((p0.Hours : List GHour).map c_GHour))]]))] (.ref 0 3 0 1), rb [(.tmp 16, .ref 0 3 0 1)] [(0, (.own 3 [[I p0.Tank, I p0.Start, (.dat 2 ((p0.Hours : List GHour).map c_GHour))]]))] (I p0.Start), mv 17 (I p0.Start)] ?_ ?_
   ·exact ⟨afa rfl Try.underlying47 rfl rfl ti3 (by decide) rfl, ald rfl ti3 (by decide) rfl (nle rfl) rfl, aas rfl, trivial⟩
   obtain ⟨k3, hk_k3, h⟩ := jko h
   refine wjn (τ := (List Int)) (fun t => k3 t = some r) (fun y2 => ⟨mk 54 [(6, (.acc 0 3 1 ((y2 : List Int).map c_i64)))], [.tok]⟩) (fun y2 h => ?_) ?_
   ·subst hk_k3
    refine wrg [mv 6 (.acc 0 3 1 ((y2 : List Int).map c_i64)), mv 53 (.acc 0 3 1 ((y2 : List Int).map c_i64)), mc (.bool true)] ?_ ?_
    ·exact ⟨amv rfl, aas rfl, aas rfl, trivial⟩
    refine awp_ret ?_
    obtain rfl := osi h
    exact ⟨⟨[(.dat 1 ((y2 : List Int).map c_i64)), B true], ⟨resOK_less (v := (.acc 0 3 1 ((y2 : List Int).map c_i64))) (rot (by kernel_rfl)) Less.acc, rot (by kernel_rfl), trivial⟩, rfl⟩, (NLt.tup _ (nlc (nld nl_i64 _) (nlc nll nl0))), Nat.le_refl _, fun n hn => absurd hn (Nat.not_lt_zero n)⟩
   ·skip
    refine wrg [rb [(.tmp 2, .ref 0 3 0 0)] [(0, (.own 3 [[I p0.Tank, I p0.Start, (.dat 2 ((p0.Hours : List GHour).map c_GHour))]]))] (.ref 0 3 0 2), rb [(.tmp 18, .ref 0 3 0 2)] [(0, (.own 3 [[I p0.Tank, I p0.Start, (.dat 2 ((p0.Hours : List GHour).map c_GHour))]]))] (.dat 2 ((p0.Hours : List GHour).map c_GHour)), rp [(.tmp 19, (.dat 2 ((p0.Hours : List GHour).map c_GHour)))] (I ((p0.Hours.length : Int))), mc (.int .i64 0)] ?_ ?_
    ·exact ⟨afa rfl Try.underlying47 rfl rfl ti45 (by decide) rfl, ald rfl ti45 (by decide) rfl (nle rfl) rfl, alm (c := c_GHour) (l := p0.Hours) (aln rfl Try.underlying45 rfl), amv rfl, trivial⟩
    refine awp_block ?_
    refine wmr (Mor.trans (mor_nil 1 3 1 6 (by kernel_rfl) (by kernel_rfl)) (mto (n := 54) (l' := [(1, (.dat 1 ((p1 : List Int).map c_i64))), (2, .ref 0 3 0 0), (6, (.acc 1 3 1 ((([]) : List Int).map c_i64))), (7, I p0.Start), (19, (.dat 2 ((p0.Hours : List GHour).map c_GHour))), (20, (I ((p0.Hours.length : Int)))), (21, I 0)]) (own' := [(.own 3 [[I p0.Tank, I p0.Start, (.dat 2 ((p0.Hours : List GHour).map c_GHour))]]), .tok]) [(1, (.dat 1 ((p1 : List Int).map c_i64))), (2, .ref 0 3 0 0), (6, (.acc 1 3 1 (([] : List Int).map c_i64))), (7, I p0.Start), (19, (.dat 2 ((p0.Hours : List GHour).map c_GHour))), (20, (I ((p0.Hours.length : Int)))), (21, I 0)] [0, 1] [(.own 3 [[I p0.Tank, I p0.Start, (.dat 2 ((p0.Hours : List GHour).map c_GHour))]]), .tok] hφ0 (pc (.rn (.plain _ (nld nl_i64 _))) (pc (.rn (rqr rfl)) (pc (.rn (rnq_acc rfl (nl_rows nl_i64 _))) (pc rwl (pc (.rn (.plain _ (nld nl_GHour _))) (pc rwl (pc rwl pn))))))) (qc (spb (lc rwl (lc rwl (lc (.rn (.plain _ (nld nl_GHour _))) ln)))) (qc .tok qn)))) ?_
    refine awp_ind (τ := (List Int) × Int × Int) (fun n t => town_Day_levelsX_loop1 N p0 p1 k3 n t.1 t.2.1 t.2.2 = some r) (fun ⟨y4, y5, y6⟩ => ⟨mk 54 [(1, (.dat 1 ((p1 : List Int).map c_i64))), (2, .ref 0 3 0 0), (6, (.acc 1 3 1 ((y4 : List Int).map c_i64))), (7, I y5), (19, (.dat 2 ((p0.Hours : List GHour).map c_GHour))), (20, (I ((p0.Hours.length : Int)))), (21, I y6)], [(.own 3 [[I p0.Tank, I p0.Start, (.dat 2 ((p0.Hours : List GHour).map c_GHour))]]), .tok]⟩) (fun t h => by rw [town_Day_levelsX_loop1] at h; cases h) (fun n10 ih t h => ?_) N ([], p0.Start, 0) h
    obtain ⟨y4, y5, y6⟩ := t
    rw [town_Day_levelsX_loop1] at h
    skip
    refine wrg [rp [(.tmp 21, I y6), (.tmp 20, (I ((p0.Hours.length : Int))))] (B ((decide (y6 < (p0.Hours.length : Int)))))] ?_ ?_
    ·exact ⟨abn rfl rfl, trivial⟩
    refine wsq ?_
    rcases bft ((decide (y6 < (p0.Hours.length : Int)))) with hc11 | hc11
    ·replace h := bif_t hc11 h
     refine wft hc11 (by kernel_rfl) ?_
     refine awp_skip ?_
     refine thn ?_
     refine wsq ?_
     refine awp_block ?_
     obtain ⟨x12, hg13, h⟩ := bno h
     obtain ⟨hi14, hj15⟩ := gsm hg13
     refine wrg [mv 21 (I y6), rp [(.tmp 19, (.dat 2 ((p0.Hours : List GHour).map c_GHour))), (.tmp 21, I y6)] (.dptr (c_GHour (x12)) 0), rp [(.tmp 24, (.dptr (c_GHour (x12)) 0))] (.agg [I x12.Use, (.dat 2 ((x12.Stairs : List GStair).map c_GStair))]), ⟨[], [(2, .unused)], .ref 2 2 0 0, [(2, .own 2 [[I 0, nilS]])], false⟩, mv 23 (I y6), ⟨[(.tmp 9, .ref 2 2 0 0), (.tmp 25, (.agg [I x12.Use, (.dat 2 ((x12.Stairs : List GStair).map c_GStair))]))], [(2, .own 2 [[I 0, nilS]])], .any, [(2, (.own 2 [[I x12.Use, (.dat 2 ((x12.Stairs : List GStair).map c_GStair))]]))], false⟩] ?_ ?_
     ·exact ⟨amv rfl, aid rfl Try.underlying45 ti62 rfl rfl hi14 (mgt c_GHour hj15) rfl, ald_ rfl ti62 (by decide) (nle rfl) rfl, astep_alloc rfl tz62 rfl, aas rfl, ast rfl ti62 (by rfl) rfl (nle rfl) rfl, trivial⟩
     refine wsq ?_
     obtain ⟨x16, hg17, h⟩ := bno h
     obtain ⟨hi18, hj19⟩ := gsm hg17
     obtain ⟨x21, hf20, h⟩ := bno h
     obtain ⟨x23, hf22, h⟩ := bno h
     refine awp_regd [mv 1 (.dat 1 ((p1 : List Int).map c_i64)), mv 8 (I y6), rp [(.tmp 26, (.dat 1 ((p1 : List Int).map c_i64))), (.tmp 27, I y6)] (.dptr (c_i64 (x16)) 0), rp [(.tmp 28, (.dptr (c_i64 (x16)) 0))] (I x16), rb [(.tmp 9, .ref 2 2 0 0)] [(2, (.own 2 [[I x12.Use, (.dat 2 ((x12.Stairs : List GStair).map c_GStair))]]))] (.agg [I x12.Use, (.dat 2 ((x12.Stairs : List GStair).map c_GStair))]), rp [fu 101, (.tmp 30, (.agg [I x12.Use, (.dat 2 ((x12.Stairs : List GStair).map c_GStair))]))] (I x21), rp [fu 68, (.tmp 29, I x16), ci 0, (.tmp 31, I x21)] (B x23), rp [(.tmp 32, B x23)] (B ((!x23)))] ?_ ?_
     ·exact ⟨amv rfl, amv rfl, aid rfl Try.underlying23 ti3 rfl rfl hi18 (mgt c_i64 hj19) rfl, ald_ rfl ti3 (by decide) (nle rfl) rfl, ald rfl ti62 (by decide) rfl (nle rfl) rfl, apc (first := []) (cap := []) (vs := [(.agg [I x12.Use, (.dat 2 ((x12.Stairs : List GStair).map c_GStair))])]) rfl enter101 (town_Hour_wholeX_ok N x12 _ hf20) rfl rfl (nlc (NLt.agg _ (nlc nll (nlc (nld nl_GStair _) nl0))) nl0) nll rfl, apc (first := []) (cap := []) (vs := [I x16, I 0, I x21]) rfl enter68 (town_withinX_ok N x16 0 x21 _ hf22) rfl rfl (nlc nll (nlc nll (nlc nll nl0))) nll rfl, astep_not rfl, trivial⟩
     rcases bft ((!x23)) with hc24 | hc24
     ·replace h := bif_t hc24 h
      refine wft hc24 (by kernel_rfl) ?_
      refine wrg [mc (.slice none 0 0), mc (.bool false)] ?_ ?_
      ·exact ⟨aas rfl, aas rfl, trivial⟩
      refine awp_ret ?_
      refine thenA_r ?_
      refine blockA_r ?_
      refine thenA_r ?_
      refine thenA_r ?_
      refine blockA_r ?_
      refine thenA_r ?_
      obtain rfl := osi h
      exact ⟨⟨[(.dat 1 (([] : List Int).map c_i64)), B false], ⟨resOK_less (v := nilS) (rot (by kernel_rfl)) Less.nil, rot (by kernel_rfl), trivial⟩, rfl⟩, (NLt.tup _ (nlc (nld nl_i64 _) (nlc nll nl0))), Nat.le_refl _, fun n hn => absurd hn (Nat.not_lt_zero n)⟩
     ·replace h := bif_f hc24 h
      refine wfn hc24 (by kernel_rfl) ?_
      refine awp_skip ?_
      refine thn ?_
      obtain ⟨x25, hl26, h⟩ := bno h
      refine awp_regd [mv 7 (I y5), mv 1 (.dat 1 ((p1 : List Int).map c_i64)), mv 8 (I y6), rp [(.tmp 35, (.dat 1 ((p1 : List Int).map c_i64))), (.tmp 36, I y6)] (.dptr (c_i64 (x16)) 0), rp [(.tmp 37, (.dptr (c_i64 (x16)) 0))] (I x16), rb [(.tmp 9, .ref 2 2 0 0)] [(2, (.own 2 [[I x12.Use, (.dat 2 ((x12.Stairs : List GStair).map c_GStair))]]))] (.ref 2 2 0 0), rb [(.tmp 39, .ref 2 2 0 0)] [(2, (.own 2 [[I x12.Use, (.dat 2 ((x12.Stairs : List GStair).map c_GStair))]]))] (I x12.Use), rp [(.tmp 38, I x16), (.tmp 40, I x12.Use)] (I (w64 (x16 - x12.Use))), rp [(.tmp 34, I y5), (.tmp 41, (I (w64 (x16 - x12.Use))))] (I (w64 (y5 + (w64 (x16 - x12.Use))))), rp [(.tmp 42, (I (w64 (y5 + (w64 (x16 - x12.Use))))))] (I x25)] ?_ ?_
      ·exact ⟨amv rfl, amv rfl, amv rfl, aid rfl Try.underlying23 ti3 rfl rfl hi18 (mgt c_i64 hj19) rfl, ald_ rfl ti3 (by decide) (nle rfl) rfl, afa rfl Try.underlying62 rfl rfl ti3 (by decide) rfl, ald rfl ti3 (by decide) rfl (nle rfl) rfl, abn rfl rfl, abn rfl rfl, astep_i hl26 (aas rfl), trivial⟩
      refine wsq ?_
      obtain ⟨x28, hf27, h⟩ := bno h
      refine wrg [mv 7 (I x25), rb [(.tmp 2, .ref 0 3 0 0)] [(0, (.own 3 [[I p0.Tank, I p0.Start, (.dat 2 ((p0.Hours : List GHour).map c_GHour))]]))] (.ref 0 3 0 0), rb [(.tmp 44, .ref 0 3 0 0)] [(0, (.own 3 [[I p0.Tank, I p0.Start, (.dat 2 ((p0.Hours : List GHour).map c_GHour))]]))] (I p0.Tank), rp [fu 68, (.tmp 43, I x25), ci 0, (.tmp 45, I p0.Tank)] (B x28), rp [(.tmp 46, B x28)] (B ((!x28)))] ?_ ?_
      ·exact ⟨amv rfl, afa rfl Try.underlying47 rfl rfl ti3 (by decide) rfl, ald rfl ti3 (by decide) rfl (nle rfl) rfl, apc (first := []) (cap := []) (vs := [I x25, I 0, I p0.Tank]) rfl enter68 (town_withinX_ok N x25 0 p0.Tank _ hf27) rfl rfl (nlc nll (nlc nll (nlc nll nl0))) nll rfl, astep_not rfl, trivial⟩
      rcases bft ((!x28)) with hc29 | hc29
      ·replace h := bif_t hc29 h
       refine wft hc29 (by kernel_rfl) ?_
       refine wrg [mc (.slice none 0 0), mc (.bool false)] ?_ ?_
       ·exact ⟨aas rfl, aas rfl, trivial⟩
       refine awp_ret ?_
       refine thenA_r ?_
       refine blockA_r ?_
       refine thenA_r ?_
       refine thenA_r ?_
       refine blockA_r ?_
       refine thenA_r ?_
       obtain rfl := osi h
       exact ⟨⟨[(.dat 1 (([] : List Int).map c_i64)), B false], ⟨resOK_less (v := nilS) (rot (by kernel_rfl)) Less.nil, rot (by kernel_rfl), trivial⟩, rfl⟩, (NLt.tup _ (nlc (nld nl_i64 _) (nlc nll nl0))), Nat.le_refl _, fun n hn => absurd hn (Nat.not_lt_zero n)⟩
      ·replace h := bif_f hc29 h
       refine wfn hc29 (by kernel_rfl) ?_
       refine awp_skip ?_
       refine thn ?_
       obtain ⟨ha30, h⟩ := cko h
       refine awp_reg1 [mv 6 (.acc 1 3 1 ((y4 : List Int).map c_i64)), mv 7 (I x25), rp [(.tmp 49, I x25)] (.dat 1 (([x25] : List Int).map c_i64)), ⟨[(.tmp 48, (.acc 1 3 1 ((y4 : List Int).map c_i64))), (.tmp 50, (.dat 1 (([x25] : List Int).map c_i64)))], [(1, .tok), (3, .unused)], (.acc 3 3 1 ((y4 ++ ([x25]) : List Int).map c_i64)), [(1, .dead), (3, .tok)], false⟩, mv 51 (.acc 3 3 1 ((y4 ++ ([x25]) : List Int).map c_i64))] ?_ ?_
       ·exact ⟨amv rfl, amv rfl, astep_bslice (vs := [I x25]) rfl Try.underlying23 ti3 tz3 rfl (by decide) rfl (by decide) (by rfl) (by rfl) (by rfl) rfl, astep_app rfl Try.underlying23 te3 (Base.acc _ _) rfl rfl (by rfl) (app_le1 c_i64 ha30) (app_le2 c_i64 ha30 (by decide)) (app_map c_i64) rfl rfl, aas rfl, trivial⟩
       refine bln ?_
       refine thn ?_
       refine awp_reg1 [rp [(.tmp 21, I y6), ci 1] (I (w64 (y6 + 1))), mv 52 (I (w64 (y6 + 1)))] ?_ ?_
       ·exact ⟨abn rfl rfl, amv rfl, trivial⟩
       refine thn ?_
       exact arm (mto (n := 54) [(1, (.dat 1 ((p1 : List Int).map c_i64))), (2, .ref 0 3 0 0), (6, (.acc 3 3 1 ((y4 ++ ([x25]) : List Int).map c_i64))), (7, I x25), (19, (.dat 2 ((p0.Hours : List GHour).map c_GHour))), (20, (I ((p0.Hours.length : Int)))), (21, (I (w64 (y6 + 1))))] [0, 3] [(.own 3 [[I p0.Tank, I p0.Start, (.dat 2 ((p0.Hours : List GHour).map c_GHour))]]), .tok] hφ0 (pc (.rn (.plain _ (nld nl_i64 _))) (pc (.rn (rqr rfl)) (pc (.rn (rnq_acc rfl (nl_rows nl_i64 _))) (pc rwl (pc (.rn (.plain _ (nld nl_GHour _))) (pc rwl (pc rwl pn))))))) (qc (spb (lc rwl (lc rwl (lc (.rn (.plain _ (nld nl_GHour _))) ln)))) (qc .tok qn))) (ih (y4 ++ ([x25]), x25, w64 (y6 + 1)) h)
    ·replace h := bif_f hc11 h
     refine wfn hc11 (by kernel_rfl) ?_
     refine awp_exit ?_
     refine thenA_x ?_
     refine thenA_x ?_
     refine blockA_e rfl ?_
     refine thn ?_
     exact ⟨(y4), h, (mto (n := 54) [(6, (.acc 1 3 1 ((y4 : List Int).map c_i64)))] [1] [.tok] hφ0 (pc (.rn (rnq_acc rfl (nl_rows nl_i64 _))) pn) (qc .tok qn))⟩

def town_CostX_loop1 (N : Nat) (p0 : GDay) (p1 : (List Int)) (k8 : Int → Option (Int × Int)) : Nat → Int → Int → Option (Int × Int)
  | 0, _, _ => none
  | n13 + 1, y9, y10 =>
    bif (decide (y10 < (p0.Hours.length : Int))) then
     (getI p0.Hours y10).bind fun x15 =>
     (getI p1 y10).bind fun x19 =>
     (town_Hour_costX N x15 x19).bind fun x24 =>
     town_CostX_loop1 N p0 p1 k8 n13 (w64 (y9 + x24)) (w64 (y10 + 1))
    else
     k8 (y9)
def town_CostX (N : Nat) (p0 : GDay) (p1 : (List Int)) : Option (Int × Int) :=
  (town_Day_validX N p0).bind fun x2 =>
  bif (!x2) then
   some (0, 1)
  else
   (town_Day_levelsX N p0 p1).bind fun x5 =>
   bif (!x5.2) then
    some (0, 2)
   else
    joinK (fun y7 =>
      some (y7, 0)) fun k8 : Int → Option (Int × Int) =>
    town_CostX_loop1 N p0 p1 k8 N 0 0
set_option maxRecDepth 100000 in
set_option maxHeartbeats 4000000 in
theorem town_CostX_ok (N : Nat) (p0 : GDay) (p1 : (List Int)) (r : (Int × Int)) (h : town_CostX N p0 p1 = some r) : Spec Try.prog 61 [(.agg (c_GDay p0)), (.dat 1 (p1.map c_i64))] [] (.tup [(I r.1), (I r.2)]) [] := by
  refine spec_of_awp Try.func61 rfl 0 (nle rfl) (fun X φ0 w0 hφ0 => ?_)
  unfold town_CostX at h
  refine wrg [⟨[(.tmp 0, (.agg [I p0.Tank, I p0.Start, (.dat 2 ((p0.Hours : List GHour).map c_GHour))]))], [(0, .unused)], .ref 0 3 0 0, [(0, (.own 3 [[I p0.Tank, I p0.Start, (.dat 2 ((p0.Hours : List GHour).map c_GHour))]]))], false⟩, mc (.int .i64 0), mc (.int .i64 0)] ?_ ?_
  ·exact ⟨astep_box rfl (by rfl) rfl rfl, aas rfl, aas rfl, trivial⟩
  refine wsq ?_
  obtain ⟨x2, hf1, h⟩ := bno h
  refine wrg [rb [(.tmp 2, .ref 0 3 0 0)] [(0, (.own 3 [[I p0.Tank, I p0.Start, (.dat 2 ((p0.Hours : List GHour).map c_GHour))]]))] (.agg [I p0.Tank, I p0.Start, (.dat 2 ((p0.Hours : List GHour).map c_GHour))]), rp [fu 74, (.tmp 11, (.agg [I p0.Tank, I p0.Start, (.dat 2 ((p0.Hours : List GHour).map c_GHour))]))] (B x2), rp [(.tmp 12, B x2)] (B ((!x2)))] ?_ ?_
  ·exact ⟨ald rfl ti47 (by decide) rfl (nle rfl) rfl, apc (first := []) (cap := []) (vs := [(.agg [I p0.Tank, I p0.Start, (.dat 2 ((p0.Hours : List GHour).map c_GHour))])]) rfl enter74 (town_Day_validX_ok N p0 _ hf1) rfl rfl (nlc (NLt.agg _ (nlc nll (nlc nll (nlc (nld nl_GHour _) nl0)))) nl0) nll rfl, astep_not rfl, trivial⟩
  rcases bft ((!x2)) with hc3 | hc3
  ·replace h := bif_t hc3 h
   refine wft hc3 (by kernel_rfl) ?_
   refine wrg [mc (.int .i64 0), mc (.int .i64 1)] ?_ ?_
   ·exact ⟨aas rfl, aas rfl, trivial⟩
   refine awp_ret ?_
   refine thenA_r ?_
   obtain rfl := osi h
   exact ⟨⟨[I 0, I 1], ⟨rot (by kernel_rfl), rot (by kernel_rfl), trivial⟩, rfl⟩, (NLt.tup _ (nlc nll (nlc nll nl0))), Nat.le_refl _, fun n hn => absurd hn (Nat.not_lt_zero n)⟩
  ·replace h := bif_f hc3 h
   refine wfn hc3 (by kernel_rfl) ?_
   refine awp_skip ?_
   refine thn ?_
   refine wsq ?_
   obtain ⟨x5, hf4, h⟩ := bno h
   refine wrg [rb [(.tmp 2, .ref 0 3 0 0)] [(0, (.own 3 [[I p0.Tank, I p0.Start, (.dat 2 ((p0.Hours : List GHour).map c_GHour))]]))] (.agg [I p0.Tank, I p0.Start, (.dat 2 ((p0.Hours : List GHour).map c_GHour))]), mv 1 (.dat 1 ((p1 : List Int).map c_i64)), rp [fu 92, (.tmp 15, (.agg [I p0.Tank, I p0.Start, (.dat 2 ((p0.Hours : List GHour).map c_GHour))])), (.tmp 16, (.dat 1 ((p1 : List Int).map c_i64)))] (.tup [(.dat 1 ((x5.1 : List Int).map c_i64)), B x5.2]), mv 17 (.tup [(.dat 1 ((x5.1 : List Int).map c_i64)), B x5.2]), rp [(.tmp 14, (.tup [(.dat 1 ((x5.1 : List Int).map c_i64)), B x5.2]))] (.dat 1 ((x5.1 : List Int).map c_i64)), rp [(.tmp 14, (.tup [(.dat 1 ((x5.1 : List Int).map c_i64)), B x5.2]))] (B x5.2), mv 18 (.dat 1 ((x5.1 : List Int).map c_i64)), mv 19 (B x5.2)] ?_ ?_
   ·exact ⟨ald rfl ti47 (by decide) rfl (nle rfl) rfl, amv rfl, apc (first := []) (cap := []) (vs := [(.agg [I p0.Tank, I p0.Start, (.dat 2 ((p0.Hours : List GHour).map c_GHour))]), (.dat 1 ((p1 : List Int).map c_i64))]) rfl enter92 (town_Day_levelsX_ok N p0 p1 _ hf4) rfl rfl (nlc (NLt.agg _ (nlc nll (nlc nll (nlc (nld nl_GHour _) nl0)))) (nlc (nld nl_i64 _) nl0)) (NLt.tup _ (nlc (nld nl_i64 _) (nlc nll nl0))) rfl, amv rfl, astep_extract rfl rfl, astep_extract rfl rfl, aas rfl, aas rfl, trivial⟩
   refine wrg [mv 7 (B x5.2), rp [(.tmp 20, B x5.2)] (B ((!x5.2)))] ?_ ?_
   ·exact ⟨amv rfl, astep_not rfl, trivial⟩
   rcases bft ((!x5.2)) with hc6 | hc6
   ·replace h := bif_t hc6 h
    refine wft hc6 (by kernel_rfl) ?_
    refine wrg [mc (.int .i64 0), mc (.int .i64 2)] ?_ ?_
    ·exact ⟨aas rfl, aas rfl, trivial⟩
    refine awp_ret ?_
    refine thenA_r ?_
    obtain rfl := osi h
    exact ⟨⟨[I 0, I 2], ⟨rot (by kernel_rfl), rot (by kernel_rfl), trivial⟩, rfl⟩, (NLt.tup _ (nlc nll (nlc nll nl0))), Nat.le_refl _, fun n hn => absurd hn (Nat.not_lt_zero n)⟩
   ·replace h := bif_f hc6 h
    refine wfn hc6 (by kernel_rfl) ?_
    refine awp_skip ?_
    refine thn ?_
    refine wrg [mc (.int .i64 0)] ?_ ?_
    ·exact ⟨aas rfl, trivial⟩
    obtain ⟨k8, hk_k8, h⟩ := jko h
    refine wjn (τ := Int) (fun t => k8 t = some r) (fun y7 => ⟨mk 40 [(8, I y7)], []⟩) (fun y7 h => ?_) ?_
    ·subst hk_k8
     refine wrg [mv 8 (I y7), mv 39 (I y7), mc (.int .i64 0)] ?_ ?_
     ·exact ⟨amv rfl, aas rfl, aas rfl, trivial⟩
     refine awp_ret ?_
     obtain rfl := osi h
     exact ⟨⟨[I y7, I 0], ⟨rot (by kernel_rfl), rot (by kernel_rfl), trivial⟩, rfl⟩, (NLt.tup _ (nlc nll (nlc nll nl0))), Nat.le_refl _, fun n hn => absurd hn (Nat.not_lt_zero n)⟩
    ·skip
     refine wrg [rb [(.tmp 2, .ref 0 3 0 0)] [(0, (.own 3 [[I p0.Tank, I p0.Start, (.dat 2 ((p0.Hours : List GHour).map c_GHour))]]))] (.ref 0 3 0 2), rb [(.tmp 22, .ref 0 3 0 2)] [(0, (.own 3 [[I p0.Tank, I p0.Start, (.dat 2 ((p0.Hours : List GHour).map c_GHour))]]))] (.dat 2 ((p0.Hours : List GHour).map c_GHour)), rp [(.tmp 23, (.dat 2 ((p0.Hours : List GHour).map c_GHour)))] (I ((p0.Hours.length : Int))), mc (.int .i64 0)] ?_ ?_
     ·exact ⟨afa rfl Try.underlying47 rfl rfl ti45 (by decide) rfl, ald rfl ti45 (by decide) rfl (nle rfl) rfl, alm (c := c_GHour) (l := p0.Hours) (aln rfl Try.underlying45 rfl), amv rfl, trivial⟩
     refine awp_block ?_
     refine wmr (mto (n := 40) (l' := [(1, (.dat 1 ((p1 : List Int).map c_i64))), (8, I 0), (23, (.dat 2 ((p0.Hours : List GHour).map c_GHour))), (24, (I ((p0.Hours.length : Int)))), (25, I 0)]) (own' := []) [(1, (.dat 1 ((p1 : List Int).map c_i64))), (8, I 0), (23, (.dat 2 ((p0.Hours : List GHour).map c_GHour))), (24, (I ((p0.Hours.length : Int)))), (25, I 0)] [] [] hφ0 (pc (.rn (.plain _ (nld nl_i64 _))) (pc rwl (pc (.rn (.plain _ (nld nl_GHour _))) (pc rwl (pc rwl pn))))) qn) ?_
     refine awp_ind (τ := Int × Int) (fun n t => town_CostX_loop1 N p0 p1 k8 n t.1 t.2 = some r) (fun ⟨y9, y10⟩ => ⟨mk 40 [(1, (.dat 1 ((p1 : List Int).map c_i64))), (8, I y9), (23, (.dat 2 ((p0.Hours : List GHour).map c_GHour))), (24, (I ((p0.Hours.length : Int)))), (25, I y10)], []⟩) (fun t h => by rw [town_CostX_loop1] at h; cases h) (fun n13 ih t h => ?_) N (0, 0) h
     obtain ⟨y9, y10⟩ := t
     rw [town_CostX_loop1] at h
     skip
     refine wrg [rp [(.tmp 25, I y10), (.tmp 24, (I ((p0.Hours.length : Int))))] (B ((decide (y10 < (p0.Hours.length : Int)))))] ?_ ?_
     ·exact ⟨abn rfl rfl, trivial⟩
     refine wsq ?_
     rcases bft ((decide (y10 < (p0.Hours.length : Int)))) with hc14 | hc14
     ·replace h := bif_t hc14 h
      refine wft hc14 (by kernel_rfl) ?_
      refine awp_skip ?_
      refine thn ?_
      refine wsq ?_
      refine awp_block ?_
      obtain ⟨x15, hg16, h⟩ := bno h
      obtain ⟨hi17, hj18⟩ := gsm hg16
      refine wrg [mv 25 (I y10), rp [(.tmp 23, (.dat 2 ((p0.Hours : List GHour).map c_GHour))), (.tmp 25, I y10)] (.dptr (c_GHour (x15)) 0), rp [(.tmp 28, (.dptr (c_GHour (x15)) 0))] (.agg [I x15.Use, (.dat 2 ((x15.Stairs : List GStair).map c_GStair))]), ⟨[], [(0, .unused)], .ref 0 2 0 0, [(0, .own 2 [[I 0, nilS]])], false⟩, mv 27 (I y10), ⟨[(.tmp 10, .ref 0 2 0 0), (.tmp 29, (.agg [I x15.Use, (.dat 2 ((x15.Stairs : List GStair).map c_GStair))]))], [(0, .own 2 [[I 0, nilS]])], .any, [(0, (.own 2 [[I x15.Use, (.dat 2 ((x15.Stairs : List GStair).map c_GStair))]]))], false⟩] ?_ ?_
      ·exact ⟨amv rfl, aid rfl Try.underlying45 ti62 rfl rfl hi17 (mgt c_GHour hj18) rfl, ald_ rfl ti62 (by decide) (nle rfl) rfl, astep_alloc rfl tz62 rfl, aas rfl, ast rfl ti62 (by rfl) rfl (nle rfl) rfl, trivial⟩
      obtain ⟨x19, hg20, h⟩ := bno h
      obtain ⟨hi21, hj22⟩ := gsm hg20
      obtain ⟨x24, hf23, h⟩ := bno h
      refine awp_regd1 [mv 8 (I y9), rb [(.tmp 10, .ref 0 2 0 0)] [(0, (.own 2 [[I x15.Use, (.dat 2 ((x15.Stairs : List GStair).map c_GStair))]]))] (.agg [I x15.Use, (.dat 2 ((x15.Stairs : List GStair).map c_GStair))]), mv 1 (.dat 1 ((p1 : List Int).map c_i64)), mv 9 (I y10), rp [(.tmp 32, (.dat 1 ((p1 : List Int).map c_i64))), (.tmp 33, I y10)] (.dptr (c_i64 (x19)) 0), rp [(.tmp 34, (.dptr (c_i64 (x19)) 0))] (I x19), rp [fu 77, (.tmp 31, (.agg [I x15.Use, (.dat 2 ((x15.Stairs : List GStair).map c_GStair))])), (.tmp 35, I x19)] (I x24), rp [(.tmp 30, I y9), (.tmp 36, I x24)] (I (w64 (y9 + x24))), mv 37 (I (w64 (y9 + x24)))] ?_ ?_
      ·exact ⟨amv rfl, ald rfl ti62 (by decide) rfl (nle rfl) rfl, amv rfl, amv rfl, aid rfl Try.underlying23 ti3 rfl rfl hi21 (mgt c_i64 hj22) rfl, ald_ rfl ti3 (by decide) (nle rfl) rfl, apc (first := []) (cap := []) (vs := [(.agg [I x15.Use, (.dat 2 ((x15.Stairs : List GStair).map c_GStair))]), I x19]) rfl enter77 (town_Hour_costX_ok N x15 x19 _ hf23) rfl rfl (nlc (NLt.agg _ (nlc nll (nlc (nld nl_GStair _) nl0))) (nlc nll nl0)) nll rfl, abn rfl rfl, aas rfl, trivial⟩
      refine bln ?_
      refine thn ?_
      refine awp_reg1 [rp [(.tmp 25, I y10), ci 1] (I (w64 (y10 + 1))), mv 38 (I (w64 (y10 + 1)))] ?_ ?_
      ·exact ⟨abn rfl rfl, amv rfl, trivial⟩
      refine thn ?_
      exact arm (mto (n := 40) [(1, (.dat 1 ((p1 : List Int).map c_i64))), (8, (I (w64 (y9 + x24)))), (23, (.dat 2 ((p0.Hours : List GHour).map c_GHour))), (24, (I ((p0.Hours.length : Int)))), (25, (I (w64 (y10 + 1))))] [] [] hφ0 (pc (.rn (.plain _ (nld nl_i64 _))) (pc rwl (pc (.rn (.plain _ (nld nl_GHour _))) (pc rwl (pc rwl pn))))) qn) (ih (w64 (y9 + x24), w64 (y10 + 1)) h)
     ·replace h := bif_f hc14 h
      refine wfn hc14 (by kernel_rfl) ?_
      refine awp_exit ?_
      refine thenA_x ?_
      refine thenA_x ?_
      refine blockA_e rfl ?_
      refine thn ?_
      exact ⟨(y9), h, (mto (n := 40) [(8, I y9)] [] [] hφ0 (pc rwl pn) qn)⟩

end Go.Proofs.Ytgdepcgbjjgnfaa
