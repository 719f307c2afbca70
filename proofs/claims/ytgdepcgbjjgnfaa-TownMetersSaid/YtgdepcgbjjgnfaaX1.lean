/-
  Functions of the program: what they compute, as plain functions, and that they do. No conditions.
-/
import Derived.Test.YtgdepcgbjjgnfaaXt
namespace Go.Proofs.Ytgdepcgbjjgnfaa
open Go.RowKit

def Qcu (_N : Nat) (p0 : Int) (p1 : Int) (p2 : Int) : Option Bool :=
  bif (decide (p1 ≤ p0)) then
   some (decide (p0 ≤ p2))
  else
   some false
set_option maxRecDepth 100000 in
set_option maxHeartbeats 4000000 in
theorem Qa5 (N : Nat) (p0 : Int) (p1 : Int) (p2 : Int) (r : Bool) (h : Qcu N p0 p1 p2 = some r) : Spec Try.prog 68 [(I p0), (I p1), (I p2)] [] (B r) [] := by
  refine Qaq Try.func68 rfl 0 (nle rfl) (fun X φ0 w0 hφ0 => ?_)
  unfold Qcu at h
  refine wrg [mc (.bool false)] ?_ ?_
  ·exact ⟨aas rfl, trivial⟩
  rcases bft ((decide (p1 ≤ p0))) with hb1 | hb1
  ·replace h := Qav hb1 h
   refine wrg [mv 1 (I p1), mv 0 (I p0), rp [(.tmp 7, I p1), (.tmp 8, I p0)] (B ((decide (p1 ≤ p0)))), rp [(.tmp 9, (B ((decide (p1 ≤ p0)))))] (B true), rp [(.tmp 10, B true), (.tmp 0, I p0)] (I p0), rp [(.tmp 10, B true), (.tmp 2, I p2)] (I p2), rp [(.tmp 10, B true), (.tmp 11, I p0), (.tmp 12, I p2)] (B ((decide (p0 ≤ p2)))), rp [(.tmp 10, B true), (.tmp 13, (B ((decide (p0 ≤ p2))))), cb false] (B ((decide (p0 ≤ p2)))), mv 14 (B ((decide (p0 ≤ p2))))] ?_ ?_
   ·exact ⟨amv rfl, amv rfl, abn rfl rfl, asb hb1 (amv rfl), ag_ (amv rfl), ag_ (amv rfl), ag_ (abn rfl rfl), apk rfl rfl, aas rfl, trivial⟩
   refine Qak ?_
   obtain rfl := osi h
   exact ⟨⟨[(B ((decide (p0 ≤ p2))))], ⟨rot (by kernel_rfl), trivial⟩, rfl⟩, nll, Nat.le_refl _, fun n hn => absurd hn (Nat.not_lt_zero n)⟩
  ·replace h := Qaw hb1 h
   refine wrg [mv 1 (I p1), mv 0 (I p0), rp [(.tmp 7, I p1), (.tmp 8, I p0)] (B ((decide (p1 ≤ p0)))), rp [(.tmp 9, (B ((decide (p1 ≤ p0)))))] (B false), sk 10 (B false), sk 10 (B false), sk 10 (B false), rp [(.tmp 10, B false), (.tmp 13, (.lit undef)), cb false] (B false), mv 14 (B false)] ?_ ?_
   ·exact ⟨amv rfl, amv rfl, abn rfl rfl, asb hb1 (amv rfl), trivial, trivial, trivial, apk rfl rfl, aas rfl, trivial⟩
   refine Qak ?_
   obtain rfl := osi h
   exact ⟨⟨[B false], ⟨rot (by kernel_rfl), trivial⟩, rfl⟩, nll, Nat.le_refl _, fun n hn => absurd hn (Nat.not_lt_zero n)⟩

def Qe3 (N : Nat) (p0 : Int) : Option Bool :=
  (Qcu N p0 0 1000000000).bind fun x2 =>
  some x2
set_option maxRecDepth 100000 in
set_option maxHeartbeats 4000000 in
theorem Qb1 (N : Nat) (p0 : Int) (r : Bool) (h : Qe3 N p0 = some r) : Spec Try.prog 94 [(I p0)] [] (B r) [] := by
  refine Qaq Try.func94 rfl 0 (nle rfl) (fun X φ0 w0 hφ0 => ?_)
  unfold Qe3 at h
  refine wrg [mc (.bool false)] ?_ ?_
  ·exact ⟨aas rfl, trivial⟩
  obtain ⟨x2, hf1, h⟩ := bno h
  refine wrg [mv 0 (I p0), rp [fu 68, (.tmp 3, I p0), ci 0, ci 1000000000] (B x2), mv 4 (B x2)] ?_ ?_
  ·exact ⟨amv rfl, apc (first := []) (cap := []) (vs := [I p0, I 0, I 1000000000]) rfl Qd1 (Qa5 N p0 0 1000000000 _ hf1) rfl rfl (nlc nll (nlc nll (nlc nll nl0))) nll rfl, aas rfl, trivial⟩
  refine Qak ?_
  obtain rfl := osi h
  exact ⟨⟨[B x2], ⟨rot (by kernel_rfl), trivial⟩, rfl⟩, nll, Nat.le_refl _, fun n hn => absurd hn (Nat.not_lt_zero n)⟩

def Qcb (N : Nat) (p0 : (List GNode)) (k2 : Unit → Option Bool) : Nat → Int → Option Bool
  | 0, _ => none
  | n5 + 1, y3 =>
    bif (decide (y3 < (p0.length : Int))) then
     (getI p0 y3).bind fun x7 =>
     bif (decide (y3 > 0)) then
      (Qcu N x7.Parent 0 (w64 (y3 - 1))).bind fun x13 =>
      bif (!x13) then
       some false
      else
       (Qe3 N x7.Loss).bind fun x16 =>
       bif (!x16) then
        some false
       else
        (Qe3 N x7.Limit).bind fun x19 =>
        bif (!x19) then
         some false
        else
         (Qcu N x7.Rank 0 100).bind fun x22 =>
         bif (!x22) then
          some false
         else
          Qcb N p0 k2 n5 (w64 (y3 + 1))
     else
      (Qe3 N x7.Loss).bind fun x25 =>
      bif (!x25) then
       some false
      else
       (Qe3 N x7.Limit).bind fun x28 =>
       bif (!x28) then
        some false
       else
        (Qcu N x7.Rank 0 100).bind fun x31 =>
        bif (!x31) then
         some false
        else
         Qcb N p0 k2 n5 (w64 (y3 + 1))
    else
     k2 ()
def Qej (N : Nat) (p0 : (List GNode)) : Option Bool :=
  Qca (fun _ =>
    Qca (fun _ =>
      some true) fun k2 : Unit → Option Bool =>
    Qcb N p0 k2 N 0) fun k1 : Unit → Option Bool =>
  (Qcu N (p0.length : Int) 1 30).bind fun x34 =>
  bif (!x34) then
   some false
  else
   (getI p0 0).bind fun x36 =>
   bif (x36.Parent != (-1)) then
    some false
   else
    bif (x36.Loss != 0) then
     some false
    else
     bif (x36.Limit != 0) then
      some false
     else
      k1 ()
set_option maxRecDepth 100000 in
set_option maxHeartbeats 4000000 in
theorem Qgq (N : Nat) (p0 : (List GNode)) (r : Bool) (h : Qej N p0 = some r) : Spec Try.prog 80 [(.dat 4 (p0.map Qaa))] [] (B r) [] := by
  refine Qaq Try.func80 rfl 0 (nle rfl) (fun X φ0 w0 hφ0 => ?_)
  unfold Qej at h
  refine wrg [mc (.bool false)] ?_ ?_
  ·exact ⟨aas rfl, trivial⟩
  obtain ⟨k1, hk_k1, h⟩ := jko h
  refine wjn (τ := Unit) (fun t => k1 t = some r) (fun _ => ⟨mk 66 [(0, (.dat 4 ((p0 : List GNode).map Qaa)))], []⟩) (fun t h => ?_) ?_
  ·subst hk_k1
   obtain ⟨k2, hk_k2, h⟩ := jko h
   refine wjn (τ := Unit) (fun t => k2 t = some r) (fun _ => ⟨mk 66 [], []⟩) (fun t h => ?_) ?_
   ·subst hk_k2
    refine wrg [mc (.bool true)] ?_ ?_
    ·exact ⟨aas rfl, trivial⟩
    refine Qak ?_
    obtain rfl := osi h
    exact ⟨⟨[B true], ⟨rot (by kernel_rfl), trivial⟩, rfl⟩, nll, Nat.le_refl _, fun n hn => absurd hn (Nat.not_lt_zero n)⟩
   ·skip
    refine wrg [mv 0 (.dat 4 ((p0 : List GNode).map Qaa)), rp [(.tmp 30, (.dat 4 ((p0 : List GNode).map Qaa)))] (I ((p0.length : Int))), mc (.int .i64 0)] ?_ ?_
    ·exact ⟨amv rfl, alm (c := Qaa) (l := p0) (aln rfl Try.underlying31 rfl), amv rfl, trivial⟩
    refine Qan ?_
    refine wmr (mto (n := 66) (l' := [(30, (.dat 4 ((p0 : List GNode).map Qaa))), (31, (I ((p0.length : Int)))), (32, I 0)]) (own' := []) [(30, (.dat 4 ((p0 : List GNode).map Qaa))), (31, (I ((p0.length : Int)))), (32, I 0)] [] [] hφ0 (pc (.rn (.plain _ (nld Qag _))) (pc rwl (pc rwl pn))) qn) ?_
    refine Qcc (τ := Int) (fun n t => Qcb N p0 k2 n t = some r) (fun y3 => ⟨mk 66 [(30, (.dat 4 ((p0 : List GNode).map Qaa))), (31, (I ((p0.length : Int)))), (32, I y3)], []⟩) (fun t h => by rw [Qcb] at h; cases h) (fun n5 ih y3 h => ?_) N (0) h
    rw [Qcb] at h
    skip
    refine wrg [rp [(.tmp 32, I y3), (.tmp 31, (I ((p0.length : Int))))] (B ((decide (y3 < (p0.length : Int)))))] ?_ ?_
    ·exact ⟨abn rfl rfl, trivial⟩
    refine wsq ?_
    rcases bft ((decide (y3 < (p0.length : Int)))) with hc6 | hc6
    ·replace h := Qav hc6 h
     refine wft hc6 (by kernel_rfl) ?_
     refine Qam ?_
     refine thn ?_
     refine wsq ?_
     refine Qan ?_
     obtain ⟨x7, hg8, h⟩ := bno h
     obtain ⟨hi9, hj10⟩ := gsm hg8
     refine wrg [mv 32 (I y3), rp [(.tmp 30, (.dat 4 ((p0 : List GNode).map Qaa))), (.tmp 32, I y3)] (.dptr (Qaa (x7)) 0), rp [(.tmp 35, (.dptr (Qaa (x7)) 0))] (.agg [I x7.Parent, I x7.Loss, I x7.Limit, I x7.Rank]), ⟨[], [(0, .unused)], .ref 0 4 0 0, [(0, .own 4 [[I 0, I 0, I 0, I 0]])], false⟩, mv 34 (I y3), ⟨[(.tmp 4, .ref 0 4 0 0), (.tmp 36, (.agg [I x7.Parent, I x7.Loss, I x7.Limit, I x7.Rank]))], [(0, .own 4 [[I 0, I 0, I 0, I 0]])], .any, [(0, .own 4 [[I x7.Parent, I x7.Loss, I x7.Limit, I x7.Rank]])], false⟩] ?_ ?_
     ·exact ⟨amv rfl, aid rfl Try.underlying31 Qgu rfl rfl hi9 (mgt Qaa hj10) rfl, ald_ rfl Qgu (by decide) (nle rfl) rfl, Qaz rfl tz141 rfl, aas rfl, ast rfl Qgu (by rfl) rfl (nle rfl) rfl, trivial⟩
     rcases bft ((decide (y3 > 0))) with hb11 | hb11
     ·replace h := Qav hb11 h
      obtain ⟨x13, hf12, h⟩ := bno h
      rcases bft ((!x13)) with hb14 | hb14
      ·replace h := Qav hb14 h
       refine wrg [mv 3 (I y3), rp [(.tmp 37, I y3), ci 0] (B ((decide (y3 > 0)))), rp [(.tmp 38, (B ((decide (y3 > 0)))))] (B true), rb [(.tmp 39, B true), (.tmp 4, .ref 0 4 0 0)] [(0, .own 4 [[I x7.Parent, I x7.Loss, I x7.Limit, I x7.Rank]])] (.ref 0 4 0 0), rb [(.tmp 39, B true), (.tmp 40, .ref 0 4 0 0)] [(0, .own 4 [[I x7.Parent, I x7.Loss, I x7.Limit, I x7.Rank]])] (I x7.Parent), rp [(.tmp 39, B true), (.tmp 3, I y3)] (I y3), rp [(.tmp 39, B true), (.tmp 42, I y3), ci 1] (I (w64 (y3 - 1))), rp [(.tmp 39, B true), fu 68, (.tmp 41, I x7.Parent), ci 0, (.tmp 43, (I (w64 (y3 - 1))))] (B x13), rp [(.tmp 39, B true), (.tmp 44, B x13)] (B ((!x13))), rp [(.tmp 39, B true), (.tmp 45, (B ((!x13)))), cb false] (B ((!x13))), rp [(.tmp 46, (B ((!x13))))] (B true), sk 47 (B true), sk 47 (B true), sk 47 (B true), sk 47 (B true), rp [(.tmp 47, B true), cb true, (.tmp 51, (.lit undef))] (B true), mv 52 (B true), sk 53 (B true), sk 53 (B true), sk 53 (B true), sk 53 (B true), rp [(.tmp 53, B true), cb true, (.tmp 57, (.lit undef))] (B true), mv 58 (B true), sk 59 (B true), sk 59 (B true), sk 59 (B true), sk 59 (B true), rp [(.tmp 59, B true), cb true, (.tmp 63, (.lit undef))] (B true)] ?_ ?_
       ·exact ⟨amv rfl, abn rfl rfl, asb hb11 (amv rfl), ag_ (afa rfl Try.underlying141 rfl rfl ti3 (by decide) rfl), ag_ (ald rfl ti3 (by decide) rfl (nle rfl) rfl), ag_ (amv rfl), ag_ (abn rfl rfl), ag_ (apc (first := []) (cap := []) (vs := [I x7.Parent, I 0, (I (w64 (y3 - 1)))]) rfl Qd1 (Qa5 N x7.Parent 0 (w64 (y3 - 1)) _ hf12) rfl rfl (nlc nll (nlc nll (nlc nll nl0))) nll rfl), ag_ (Qap rfl), apk rfl rfl, asb hb14 (amv rfl), trivial, trivial, trivial, trivial, apk rfl rfl, amv rfl, trivial, trivial, trivial, trivial, apk rfl rfl, amv rfl, trivial, trivial, trivial, trivial, apk rfl rfl, trivial⟩
       refine Qbq (by kernel_rfl) ?_
       refine wrg [mc (.bool false)] ?_ ?_
       ·exact ⟨aas rfl, trivial⟩
       refine Qak ?_
       refine Qa3 ?_
       refine Qao ?_
       refine Qao ?_
       refine Qa3 ?_
       refine Qao ?_
       obtain rfl := osi h
       exact ⟨⟨[B false], ⟨rot (by kernel_rfl), trivial⟩, rfl⟩, nll, Nat.le_refl _, fun n hn => absurd hn (Nat.not_lt_zero n)⟩
      ·replace h := Qaw hb14 h
       obtain ⟨x16, hf15, h⟩ := bno h
       rcases bft ((!x16)) with hb17 | hb17
       ·replace h := Qav hb17 h
        refine wrg [mv 3 (I y3), rp [(.tmp 37, I y3), ci 0] (B ((decide (y3 > 0)))), rp [(.tmp 38, (B ((decide (y3 > 0)))))] (B true), rb [(.tmp 39, B true), (.tmp 4, .ref 0 4 0 0)] [(0, .own 4 [[I x7.Parent, I x7.Loss, I x7.Limit, I x7.Rank]])] (.ref 0 4 0 0), rb [(.tmp 39, B true), (.tmp 40, .ref 0 4 0 0)] [(0, .own 4 [[I x7.Parent, I x7.Loss, I x7.Limit, I x7.Rank]])] (I x7.Parent), rp [(.tmp 39, B true), (.tmp 3, I y3)] (I y3), rp [(.tmp 39, B true), (.tmp 42, I y3), ci 1] (I (w64 (y3 - 1))), rp [(.tmp 39, B true), fu 68, (.tmp 41, I x7.Parent), ci 0, (.tmp 43, (I (w64 (y3 - 1))))] (B x13), rp [(.tmp 39, B true), (.tmp 44, B x13)] (B ((!x13))), rp [(.tmp 39, B true), (.tmp 45, (B ((!x13)))), cb false] (B ((!x13))), rp [(.tmp 46, (B ((!x13))))] (B false), rb [(.tmp 47, B false), (.tmp 4, .ref 0 4 0 0)] [(0, .own 4 [[I x7.Parent, I x7.Loss, I x7.Limit, I x7.Rank]])] (.ref 0 4 0 1), rb [(.tmp 47, B false), (.tmp 48, .ref 0 4 0 1)] [(0, .own 4 [[I x7.Parent, I x7.Loss, I x7.Limit, I x7.Rank]])] (I x7.Loss), rp [(.tmp 47, B false), fu 94, (.tmp 49, I x7.Loss)] (B x16), rp [(.tmp 47, B false), (.tmp 50, B x16)] (B ((!x16))), rp [(.tmp 47, B false), cb true, (.tmp 51, (B ((!x16))))] (B ((!x16))), rp [(.tmp 52, (B ((!x16))))] (B true), sk 53 (B true), sk 53 (B true), sk 53 (B true), sk 53 (B true), rp [(.tmp 53, B true), cb true, (.tmp 57, (.lit undef))] (B true), mv 58 (B true), sk 59 (B true), sk 59 (B true), sk 59 (B true), sk 59 (B true), rp [(.tmp 59, B true), cb true, (.tmp 63, (.lit undef))] (B true)] ?_ ?_
        ·exact ⟨amv rfl, abn rfl rfl, asb hb11 (amv rfl), ag_ (afa rfl Try.underlying141 rfl rfl ti3 (by decide) rfl), ag_ (ald rfl ti3 (by decide) rfl (nle rfl) rfl), ag_ (amv rfl), ag_ (abn rfl rfl), ag_ (apc (first := []) (cap := []) (vs := [I x7.Parent, I 0, (I (w64 (y3 - 1)))]) rfl Qd1 (Qa5 N x7.Parent 0 (w64 (y3 - 1)) _ hf12) rfl rfl (nlc nll (nlc nll (nlc nll nl0))) nll rfl), ag_ (Qap rfl), apk rfl rfl, asb hb14 (amv rfl), ag_ (afa rfl Try.underlying141 rfl rfl ti3 (by decide) rfl), ag_ (ald rfl ti3 (by decide) rfl (nle rfl) rfl), ag_ (apc (first := []) (cap := []) (vs := [I x7.Loss]) rfl Qe0 (Qb1 N x7.Loss _ hf15) rfl rfl (nlc nll nl0) nll rfl), ag_ (Qap rfl), apk rfl rfl, asb hb17 (amv rfl), trivial, trivial, trivial, trivial, apk rfl rfl, amv rfl, trivial, trivial, trivial, trivial, apk rfl rfl, trivial⟩
        refine Qbq (by kernel_rfl) ?_
        refine wrg [mc (.bool false)] ?_ ?_
        ·exact ⟨aas rfl, trivial⟩
        refine Qak ?_
        refine Qa3 ?_
        refine Qao ?_
        refine Qao ?_
        refine Qa3 ?_
        refine Qao ?_
        obtain rfl := osi h
        exact ⟨⟨[B false], ⟨rot (by kernel_rfl), trivial⟩, rfl⟩, nll, Nat.le_refl _, fun n hn => absurd hn (Nat.not_lt_zero n)⟩
       ·replace h := Qaw hb17 h
        obtain ⟨x19, hf18, h⟩ := bno h
        rcases bft ((!x19)) with hb20 | hb20
        ·replace h := Qav hb20 h
         refine wrg [mv 3 (I y3), rp [(.tmp 37, I y3), ci 0] (B ((decide (y3 > 0)))), rp [(.tmp 38, (B ((decide (y3 > 0)))))] (B true), rb [(.tmp 39, B true), (.tmp 4, .ref 0 4 0 0)] [(0, .own 4 [[I x7.Parent, I x7.Loss, I x7.Limit, I x7.Rank]])] (.ref 0 4 0 0), rb [(.tmp 39, B true), (.tmp 40, .ref 0 4 0 0)] [(0, .own 4 [[I x7.Parent, I x7.Loss, I x7.Limit, I x7.Rank]])] (I x7.Parent), rp [(.tmp 39, B true), (.tmp 3, I y3)] (I y3), rp [(.tmp 39, B true), (.tmp 42, I y3), ci 1] (I (w64 (y3 - 1))), rp [(.tmp 39, B true), fu 68, (.tmp 41, I x7.Parent), ci 0, (.tmp 43, (I (w64 (y3 - 1))))] (B x13), rp [(.tmp 39, B true), (.tmp 44, B x13)] (B ((!x13))), rp [(.tmp 39, B true), (.tmp 45, (B ((!x13)))), cb false] (B ((!x13))), rp [(.tmp 46, (B ((!x13))))] (B false), rb [(.tmp 47, B false), (.tmp 4, .ref 0 4 0 0)] [(0, .own 4 [[I x7.Parent, I x7.Loss, I x7.Limit, I x7.Rank]])] (.ref 0 4 0 1), rb [(.tmp 47, B false), (.tmp 48, .ref 0 4 0 1)] [(0, .own 4 [[I x7.Parent, I x7.Loss, I x7.Limit, I x7.Rank]])] (I x7.Loss), rp [(.tmp 47, B false), fu 94, (.tmp 49, I x7.Loss)] (B x16), rp [(.tmp 47, B false), (.tmp 50, B x16)] (B ((!x16))), rp [(.tmp 47, B false), cb true, (.tmp 51, (B ((!x16))))] (B ((!x16))), rp [(.tmp 52, (B ((!x16))))] (B false), rb [(.tmp 53, B false), (.tmp 4, .ref 0 4 0 0)] [(0, .own 4 [[I x7.Parent, I x7.Loss, I x7.Limit, I x7.Rank]])] (.ref 0 4 0 2), rb [(.tmp 53, B false), (.tmp 54, .ref 0 4 0 2)] [(0, .own 4 [[I x7.Parent, I x7.Loss, I x7.Limit, I x7.Rank]])] (I x7.Limit), rp [(.tmp 53, B false), fu 94, (.tmp 55, I x7.Limit)] (B x19), rp [(.tmp 53, B false), (.tmp 56, B x19)] (B ((!x19))), rp [(.tmp 53, B false), cb true, (.tmp 57, (B ((!x19))))] (B ((!x19))), rp [(.tmp 58, (B ((!x19))))] (B true), sk 59 (B true), sk 59 (B true), sk 59 (B true), sk 59 (B true), rp [(.tmp 59, B true), cb true, (.tmp 63, (.lit undef))] (B true)] ?_ ?_
         ·exact ⟨amv rfl, abn rfl rfl, asb hb11 (amv rfl), ag_ (afa rfl Try.underlying141 rfl rfl ti3 (by decide) rfl), ag_ (ald rfl ti3 (by decide) rfl (nle rfl) rfl), ag_ (amv rfl), ag_ (abn rfl rfl), ag_ (apc (first := []) (cap := []) (vs := [I x7.Parent, I 0, (I (w64 (y3 - 1)))]) rfl Qd1 (Qa5 N x7.Parent 0 (w64 (y3 - 1)) _ hf12) rfl rfl (nlc nll (nlc nll (nlc nll nl0))) nll rfl), ag_ (Qap rfl), apk rfl rfl, asb hb14 (amv rfl), ag_ (afa rfl Try.underlying141 rfl rfl ti3 (by decide) rfl), ag_ (ald rfl ti3 (by decide) rfl (nle rfl) rfl), ag_ (apc (first := []) (cap := []) (vs := [I x7.Loss]) rfl Qe0 (Qb1 N x7.Loss _ hf15) rfl rfl (nlc nll nl0) nll rfl), ag_ (Qap rfl), apk rfl rfl, asb hb17 (amv rfl), ag_ (afa rfl Try.underlying141 rfl rfl ti3 (by decide) rfl), ag_ (ald rfl ti3 (by decide) rfl (nle rfl) rfl), ag_ (apc (first := []) (cap := []) (vs := [I x7.Limit]) rfl Qe0 (Qb1 N x7.Limit _ hf18) rfl rfl (nlc nll nl0) nll rfl), ag_ (Qap rfl), apk rfl rfl, asb hb20 (amv rfl), trivial, trivial, trivial, trivial, apk rfl rfl, trivial⟩
         refine Qbq (by kernel_rfl) ?_
         refine wrg [mc (.bool false)] ?_ ?_
         ·exact ⟨aas rfl, trivial⟩
         refine Qak ?_
         refine Qa3 ?_
         refine Qao ?_
         refine Qao ?_
         refine Qa3 ?_
         refine Qao ?_
         obtain rfl := osi h
         exact ⟨⟨[B false], ⟨rot (by kernel_rfl), trivial⟩, rfl⟩, nll, Nat.le_refl _, fun n hn => absurd hn (Nat.not_lt_zero n)⟩
        ·replace h := Qaw hb20 h
         obtain ⟨x22, hf21, h⟩ := bno h
         refine wrg [mv 3 (I y3), rp [(.tmp 37, I y3), ci 0] (B ((decide (y3 > 0)))), rp [(.tmp 38, (B ((decide (y3 > 0)))))] (B true), rb [(.tmp 39, B true), (.tmp 4, .ref 0 4 0 0)] [(0, .own 4 [[I x7.Parent, I x7.Loss, I x7.Limit, I x7.Rank]])] (.ref 0 4 0 0), rb [(.tmp 39, B true), (.tmp 40, .ref 0 4 0 0)] [(0, .own 4 [[I x7.Parent, I x7.Loss, I x7.Limit, I x7.Rank]])] (I x7.Parent), rp [(.tmp 39, B true), (.tmp 3, I y3)] (I y3), rp [(.tmp 39, B true), (.tmp 42, I y3), ci 1] (I (w64 (y3 - 1))), rp [(.tmp 39, B true), fu 68, (.tmp 41, I x7.Parent), ci 0, (.tmp 43, (I (w64 (y3 - 1))))] (B x13), rp [(.tmp 39, B true), (.tmp 44, B x13)] (B ((!x13))), rp [(.tmp 39, B true), (.tmp 45, (B ((!x13)))), cb false] (B ((!x13))), rp [(.tmp 46, (B ((!x13))))] (B false), rb [(.tmp 47, B false), (.tmp 4, .ref 0 4 0 0)] [(0, .own 4 [[I x7.Parent, I x7.Loss, I x7.Limit, I x7.Rank]])] (.ref 0 4 0 1), rb [(.tmp 47, B false), (.tmp 48, .ref 0 4 0 1)] [(0, .own 4 [[I x7.Parent, I x7.Loss, I x7.Limit, I x7.Rank]])] (I x7.Loss), rp [(.tmp 47, B false), fu 94, (.tmp 49, I x7.Loss)] (B x16), rp [(.tmp 47, B false), (.tmp 50, B x16)] (B ((!x16))), rp [(.tmp 47, B false), cb true, (.tmp 51, (B ((!x16))))] (B ((!x16))), rp [(.tmp 52, (B ((!x16))))] (B false), rb [(.tmp 53, B false), (.tmp 4, .ref 0 4 0 0)] [(0, .own 4 [[I x7.Parent, I x7.Loss, I x7.Limit, I x7.Rank]])] (.ref 0 4 0 2), rb [(.tmp 53, B false), (.tmp 54, .ref 0 4 0 2)] [(0, .own 4 [[I x7.Parent, I x7.Loss, I x7.Limit, I x7.Rank]])] (I x7.Limit), rp [(.tmp 53, B false), fu 94, (.tmp 55, I x7.Limit)] (B x19), rp [(.tmp 53, B false), (.tmp 56, B x19)] (B ((!x19))), rp [(.tmp 53, B false), cb true, (.tmp 57, (B ((!x19))))] (B ((!x19))), rp [(.tmp 58, (B ((!x19))))] (B false), rb [(.tmp 59, B false), (.tmp 4, .ref 0 4 0 0)] [(0, .own 4 [[I x7.Parent, I x7.Loss, I x7.Limit, I x7.Rank]])] (.ref 0 4 0 3), rb [(.tmp 59, B false), (.tmp 60, .ref 0 4 0 3)] [(0, .own 4 [[I x7.Parent, I x7.Loss, I x7.Limit, I x7.Rank]])] (I x7.Rank), rp [(.tmp 59, B false), fu 68, (.tmp 61, I x7.Rank), ci 0, ci 100] (B x22), rp [(.tmp 59, B false), (.tmp 62, B x22)] (B ((!x22))), rp [(.tmp 59, B false), cb true, (.tmp 63, (B ((!x22))))] (B ((!x22)))] ?_ ?_
         ·exact ⟨amv rfl, abn rfl rfl, asb hb11 (amv rfl), ag_ (afa rfl Try.underlying141 rfl rfl ti3 (by decide) rfl), ag_ (ald rfl ti3 (by decide) rfl (nle rfl) rfl), ag_ (amv rfl), ag_ (abn rfl rfl), ag_ (apc (first := []) (cap := []) (vs := [I x7.Parent, I 0, (I (w64 (y3 - 1)))]) rfl Qd1 (Qa5 N x7.Parent 0 (w64 (y3 - 1)) _ hf12) rfl rfl (nlc nll (nlc nll (nlc nll nl0))) nll rfl), ag_ (Qap rfl), apk rfl rfl, asb hb14 (amv rfl), ag_ (afa rfl Try.underlying141 rfl rfl ti3 (by decide) rfl), ag_ (ald rfl ti3 (by decide) rfl (nle rfl) rfl), ag_ (apc (first := []) (cap := []) (vs := [I x7.Loss]) rfl Qe0 (Qb1 N x7.Loss _ hf15) rfl rfl (nlc nll nl0) nll rfl), ag_ (Qap rfl), apk rfl rfl, asb hb17 (amv rfl), ag_ (afa rfl Try.underlying141 rfl rfl ti3 (by decide) rfl), ag_ (ald rfl ti3 (by decide) rfl (nle rfl) rfl), ag_ (apc (first := []) (cap := []) (vs := [I x7.Limit]) rfl Qe0 (Qb1 N x7.Limit _ hf18) rfl rfl (nlc nll nl0) nll rfl), ag_ (Qap rfl), apk rfl rfl, asb hb20 (amv rfl), ag_ (afa rfl Try.underlying141 rfl rfl ti3 (by decide) rfl), ag_ (ald rfl ti3 (by decide) rfl (nle rfl) rfl), ag_ (apc (first := []) (cap := []) (vs := [I x7.Rank, I 0, I 100]) rfl Qd1 (Qa5 N x7.Rank 0 100 _ hf21) rfl rfl (nlc nll (nlc nll (nlc nll nl0))) nll rfl), ag_ (Qap rfl), apk rfl rfl, trivial⟩
         rcases bft ((!x22)) with hc23 | hc23
         ·replace h := Qav hc23 h
          refine wft hc23 (by kernel_rfl) ?_
          refine wrg [mc (.bool false)] ?_ ?_
          ·exact ⟨aas rfl, trivial⟩
          refine Qak ?_
          refine Qa3 ?_
          refine Qao ?_
          refine Qao ?_
          refine Qa3 ?_
          refine Qao ?_
          obtain rfl := osi h
          exact ⟨⟨[B false], ⟨rot (by kernel_rfl), trivial⟩, rfl⟩, nll, Nat.le_refl _, fun n hn => absurd hn (Nat.not_lt_zero n)⟩
         ·replace h := Qaw hc23 h
          refine wfn hc23 (by kernel_rfl) ?_
          refine Qam ?_
          refine bln ?_
          refine thn ?_
          refine Qar [rp [(.tmp 32, I y3), ci 1] (I (w64 (y3 + 1))), mv 65 (I (w64 (y3 + 1)))] ?_ ?_
          ·exact ⟨abn rfl rfl, amv rfl, trivial⟩
          refine thn ?_
          exact arm (mto (n := 66) [(30, (.dat 4 ((p0 : List GNode).map Qaa))), (31, (I ((p0.length : Int)))), (32, (I (w64 (y3 + 1))))] [] [] hφ0 (pc (.rn (.plain _ (nld Qag _))) (pc rwl (pc rwl pn))) qn) (ih (w64 (y3 + 1)) h)
     ·replace h := Qaw hb11 h
      obtain ⟨x25, hf24, h⟩ := bno h
      rcases bft ((!x25)) with hb26 | hb26
      ·replace h := Qav hb26 h
       refine wrg [mv 3 (I y3), rp [(.tmp 37, I y3), ci 0] (B ((decide (y3 > 0)))), rp [(.tmp 38, (B ((decide (y3 > 0)))))] (B false), sk 39 (B false), sk 39 (B false), sk 39 (B false), sk 39 (B false), sk 39 (B false), sk 39 (B false), rp [(.tmp 39, B false), (.tmp 45, (.lit undef)), cb false] (B false), mv 46 (B false), rb [(.tmp 47, B false), (.tmp 4, .ref 0 4 0 0)] [(0, .own 4 [[I x7.Parent, I x7.Loss, I x7.Limit, I x7.Rank]])] (.ref 0 4 0 1), rb [(.tmp 47, B false), (.tmp 48, .ref 0 4 0 1)] [(0, .own 4 [[I x7.Parent, I x7.Loss, I x7.Limit, I x7.Rank]])] (I x7.Loss), rp [(.tmp 47, B false), fu 94, (.tmp 49, I x7.Loss)] (B x25), rp [(.tmp 47, B false), (.tmp 50, B x25)] (B ((!x25))), rp [(.tmp 47, B false), cb true, (.tmp 51, (B ((!x25))))] (B ((!x25))), rp [(.tmp 52, (B ((!x25))))] (B true), sk 53 (B true), sk 53 (B true), sk 53 (B true), sk 53 (B true), rp [(.tmp 53, B true), cb true, (.tmp 57, (.lit undef))] (B true), mv 58 (B true), sk 59 (B true), sk 59 (B true), sk 59 (B true), sk 59 (B true), rp [(.tmp 59, B true), cb true, (.tmp 63, (.lit undef))] (B true)] ?_ ?_
       ·exact ⟨amv rfl, abn rfl rfl, asb hb11 (amv rfl), trivial, trivial, trivial, trivial, trivial, trivial, apk rfl rfl, amv rfl, ag_ (afa rfl Try.underlying141 rfl rfl ti3 (by decide) rfl), ag_ (ald rfl ti3 (by decide) rfl (nle rfl) rfl), ag_ (apc (first := []) (cap := []) (vs := [I x7.Loss]) rfl Qe0 (Qb1 N x7.Loss _ hf24) rfl rfl (nlc nll nl0) nll rfl), ag_ (Qap rfl), apk rfl rfl, asb hb26 (amv rfl), trivial, trivial, trivial, trivial, apk rfl rfl, amv rfl, trivial, trivial, trivial, trivial, apk rfl rfl, trivial⟩
       refine Qbq (by kernel_rfl) ?_
       refine wrg [mc (.bool false)] ?_ ?_
       ·exact ⟨aas rfl, trivial⟩
       refine Qak ?_
       refine Qa3 ?_
       refine Qao ?_
       refine Qao ?_
       refine Qa3 ?_
       refine Qao ?_
       obtain rfl := osi h
       exact ⟨⟨[B false], ⟨rot (by kernel_rfl), trivial⟩, rfl⟩, nll, Nat.le_refl _, fun n hn => absurd hn (Nat.not_lt_zero n)⟩
      ·replace h := Qaw hb26 h
       obtain ⟨x28, hf27, h⟩ := bno h
       rcases bft ((!x28)) with hb29 | hb29
       ·replace h := Qav hb29 h
        refine wrg [mv 3 (I y3), rp [(.tmp 37, I y3), ci 0] (B ((decide (y3 > 0)))), rp [(.tmp 38, (B ((decide (y3 > 0)))))] (B false), sk 39 (B false), sk 39 (B false), sk 39 (B false), sk 39 (B false), sk 39 (B false), sk 39 (B false), rp [(.tmp 39, B false), (.tmp 45, (.lit undef)), cb false] (B false), mv 46 (B false), rb [(.tmp 47, B false), (.tmp 4, .ref 0 4 0 0)] [(0, .own 4 [[I x7.Parent, I x7.Loss, I x7.Limit, I x7.Rank]])] (.ref 0 4 0 1), rb [(.tmp 47, B false), (.tmp 48, .ref 0 4 0 1)] [(0, .own 4 [[I x7.Parent, I x7.Loss, I x7.Limit, I x7.Rank]])] (I x7.Loss), rp [(.tmp 47, B false), fu 94, (.tmp 49, I x7.Loss)] (B x25), rp [(.tmp 47, B false), (.tmp 50, B x25)] (B ((!x25))), rp [(.tmp 47, B false), cb true, (.tmp 51, (B ((!x25))))] (B ((!x25))), rp [(.tmp 52, (B ((!x25))))] (B false), rb [(.tmp 53, B false), (.tmp 4, .ref 0 4 0 0)] [(0, .own 4 [[I x7.Parent, I x7.Loss, I x7.Limit, I x7.Rank]])] (.ref 0 4 0 2), rb [(.tmp 53, B false), (.tmp 54, .ref 0 4 0 2)] [(0, .own 4 [[I x7.Parent, I x7.Loss, I x7.Limit, I x7.Rank]])] (I x7.Limit), rp [(.tmp 53, B false), fu 94, (.tmp 55, I x7.Limit)] (B x28), rp [(.tmp 53, B false), (.tmp 56, B x28)] (B ((!x28))), rp [(.tmp 53, B false), cb true, (.tmp 57, (B ((!x28))))] (B ((!x28))), rp [(.tmp 58, (B ((!x28))))] (B true), sk 59 (B true), sk 59 (B true), sk 59 (B true), sk 59 (B true), rp [(.tmp 59, B true), cb true, (.tmp 63, (.lit undef))] (B true)] ?_ ?_
        ·exact ⟨amv rfl, abn rfl rfl, asb hb11 (amv rfl), trivial, trivial, trivial, trivial, trivial, trivial, apk rfl rfl, amv rfl, ag_ (afa rfl Try.underlying141 rfl rfl ti3 (by decide) rfl), ag_ (ald rfl ti3 (by decide) rfl (nle rfl) rfl), ag_ (apc (first := []) (cap := []) (vs := [I x7.Loss]) rfl Qe0 (Qb1 N x7.Loss _ hf24) rfl rfl (nlc nll nl0) nll rfl), ag_ (Qap rfl), apk rfl rfl, asb hb26 (amv rfl), ag_ (afa rfl Try.underlying141 rfl rfl ti3 (by decide) rfl), ag_ (ald rfl ti3 (by decide) rfl (nle rfl) rfl), ag_ (apc (first := []) (cap := []) (vs := [I x7.Limit]) rfl Qe0 (Qb1 N x7.Limit _ hf27) rfl rfl (nlc nll nl0) nll rfl), ag_ (Qap rfl), apk rfl rfl, asb hb29 (amv rfl), trivial, trivial, trivial, trivial, apk rfl rfl, trivial⟩
        refine Qbq (by kernel_rfl) ?_
        refine wrg [mc (.bool false)] ?_ ?_
        ·exact ⟨aas rfl, trivial⟩
        refine Qak ?_
        refine Qa3 ?_
        refine Qao ?_
        refine Qao ?_
        refine Qa3 ?_
        refine Qao ?_
        obtain rfl := osi h
        exact ⟨⟨[B false], ⟨rot (by kernel_rfl), trivial⟩, rfl⟩, nll, Nat.le_refl _, fun n hn => absurd hn (Nat.not_lt_zero n)⟩
       ·replace h := Qaw hb29 h
        obtain ⟨x31, hf30, h⟩ := bno h
        refine wrg [mv 3 (I y3), rp [(.tmp 37, I y3), ci 0] (B ((decide (y3 > 0)))), rp [(.tmp 38, (B ((decide (y3 > 0)))))] (B false), sk 39 (B false), sk 39 (B false), sk 39 (B false), sk 39 (B false), sk 39 (B false), sk 39 (B false), rp [(.tmp 39, B false), (.tmp 45, (.lit undef)), cb false] (B false), mv 46 (B false), rb [(.tmp 47, B false), (.tmp 4, .ref 0 4 0 0)] [(0, .own 4 [[I x7.Parent, I x7.Loss, I x7.Limit, I x7.Rank]])] (.ref 0 4 0 1), rb [(.tmp 47, B false), (.tmp 48, .ref 0 4 0 1)] [(0, .own 4 [[I x7.Parent, I x7.Loss, I x7.Limit, I x7.Rank]])] (I x7.Loss), rp [(.tmp 47, B false), fu 94, (.tmp 49, I x7.Loss)] (B x25), rp [(.tmp 47, B false), (.tmp 50, B x25)] (B ((!x25))), rp [(.tmp 47, B false), cb true, (.tmp 51, (B ((!x25))))] (B ((!x25))), rp [(.tmp 52, (B ((!x25))))] (B false), rb [(.tmp 53, B false), (.tmp 4, .ref 0 4 0 0)] [(0, .own 4 [[I x7.Parent, I x7.Loss, I x7.Limit, I x7.Rank]])] (.ref 0 4 0 2), rb [(.tmp 53, B false), (.tmp 54, .ref 0 4 0 2)] [(0, .own 4 [[I x7.Parent, I x7.Loss, I x7.Limit, I x7.Rank]])] (I x7.Limit), rp [(.tmp 53, B false), fu 94, (.tmp 55, I x7.Limit)] (B x28), rp [(.tmp 53, B false), (.tmp 56, B x28)] (B ((!x28))), rp [(.tmp 53, B false), cb true, (.tmp 57, (B ((!x28))))] (B ((!x28))), rp [(.tmp 58, (B ((!x28))))] (B false), rb [(.tmp 59, B false), (.tmp 4, .ref 0 4 0 0)] [(0, .own 4 [[I x7.Parent, I x7.Loss, I x7.Limit, I x7.Rank]])] (.ref 0 4 0 3), rb [(.tmp 59, B false), (.tmp 60, .ref 0 4 0 3)] [(0, .own 4 [[I x7.Parent, I x7.Loss, I x7.Limit, I x7.Rank]])] (I x7.Rank), rp [(.tmp 59, B false), fu 68, (.tmp 61, I x7.Rank), ci 0, ci 100] (B x31), rp [(.tmp 59, B false), (.tmp 62, B x31)] (B ((!x31))), rp [(.tmp 59, B false), cb true, (.tmp 63, (B ((!x31))))] (B ((!x31)))] ?_ ?_
        ·exact ⟨amv rfl, abn rfl rfl, asb hb11 (amv rfl), trivial, trivial, trivial, trivial, trivial, trivial, apk rfl rfl, amv rfl, ag_ (afa rfl Try.underlying141 rfl rfl ti3 (by decide) rfl), ag_ (ald rfl ti3 (by decide) rfl (nle rfl) rfl), ag_ (apc (first := []) (cap := []) (vs := [I x7.Loss]) rfl Qe0 (Qb1 N x7.Loss _ hf24) rfl rfl (nlc nll nl0) nll rfl), ag_ (Qap rfl), apk rfl rfl, asb hb26 (amv rfl), ag_ (afa rfl Try.underlying141 rfl rfl ti3 (by decide) rfl), ag_ (ald rfl ti3 (by decide) rfl (nle rfl) rfl), ag_ (apc (first := []) (cap := []) (vs := [I x7.Limit]) rfl Qe0 (Qb1 N x7.Limit _ hf27) rfl rfl (nlc nll nl0) nll rfl), ag_ (Qap rfl), apk rfl rfl, asb hb29 (amv rfl), ag_ (afa rfl Try.underlying141 rfl rfl ti3 (by decide) rfl), ag_ (ald rfl ti3 (by decide) rfl (nle rfl) rfl), ag_ (apc (first := []) (cap := []) (vs := [I x7.Rank, I 0, I 100]) rfl Qd1 (Qa5 N x7.Rank 0 100 _ hf30) rfl rfl (nlc nll (nlc nll (nlc nll nl0))) nll rfl), ag_ (Qap rfl), apk rfl rfl, trivial⟩
        rcases bft ((!x31)) with hc32 | hc32
        ·replace h := Qav hc32 h
         refine wft hc32 (by kernel_rfl) ?_
         refine wrg [mc (.bool false)] ?_ ?_
         ·exact ⟨aas rfl, trivial⟩
         refine Qak ?_
         refine Qa3 ?_
         refine Qao ?_
         refine Qao ?_
         refine Qa3 ?_
         refine Qao ?_
         obtain rfl := osi h
         exact ⟨⟨[B false], ⟨rot (by kernel_rfl), trivial⟩, rfl⟩, nll, Nat.le_refl _, fun n hn => absurd hn (Nat.not_lt_zero n)⟩
        ·replace h := Qaw hc32 h
         refine wfn hc32 (by kernel_rfl) ?_
         refine Qam ?_
         refine bln ?_
         refine thn ?_
         refine Qar [rp [(.tmp 32, I y3), ci 1] (I (w64 (y3 + 1))), mv 65 (I (w64 (y3 + 1)))] ?_ ?_
         ·exact ⟨abn rfl rfl, amv rfl, trivial⟩
         refine thn ?_
         exact arm (mto (n := 66) [(30, (.dat 4 ((p0 : List GNode).map Qaa))), (31, (I ((p0.length : Int)))), (32, (I (w64 (y3 + 1))))] [] [] hφ0 (pc (.rn (.plain _ (nld Qag _))) (pc rwl (pc rwl pn))) qn) (ih (w64 (y3 + 1)) h)
    ·replace h := Qaw hc6 h
     refine wfn hc6 (by kernel_rfl) ?_
     refine Qbf ?_
     refine Qau ?_
     refine Qau ?_
     refine Qbe rfl ?_
     refine thn ?_
     exact ⟨(), h, (mto (n := 66) [] [] [] hφ0 pn qn)⟩
  ·skip
   obtain ⟨x34, hf33, h⟩ := bno h
   rcases bft ((!x34)) with hb35 | hb35
   ·replace h := Qav hb35 h
    refine wrg [mv 0 (.dat 4 ((p0 : List GNode).map Qaa)), rp [(.tmp 5, (.dat 4 ((p0 : List GNode).map Qaa)))] (I ((p0.length : Int))), rp [fu 68, (.tmp 6, (I ((p0.length : Int)))), ci 1, ci 30] (B x34), rp [(.tmp 7, B x34)] (B ((!x34))), rp [(.tmp 8, (B ((!x34))))] (B true), sk 9 (B true), sk 9 (B true), sk 9 (B true), sk 9 (B true), sk 9 (B true), rp [(.tmp 9, B true), cb true, (.tmp 14, (.lit undef))] (B true), mv 15 (B true), sk 16 (B true), sk 16 (B true), sk 16 (B true), sk 16 (B true), sk 16 (B true), rp [(.tmp 16, B true), cb true, (.tmp 21, (.lit undef))] (B true), mv 22 (B true), sk 23 (B true), sk 23 (B true), sk 23 (B true), sk 23 (B true), sk 23 (B true), rp [(.tmp 23, B true), cb true, (.tmp 28, (.lit undef))] (B true)] ?_ ?_
    ·exact ⟨amv rfl, alm (c := Qaa) (l := p0) (aln rfl Try.underlying31 rfl), apc (first := []) (cap := []) (vs := [(I ((p0.length : Int))), I 1, I 30]) rfl Qd1 (Qa5 N (p0.length : Int) 1 30 _ hf33) rfl rfl (nlc nll (nlc nll (nlc nll nl0))) nll rfl, Qap rfl, asb hb35 (amv rfl), trivial, trivial, trivial, trivial, trivial, apk rfl rfl, amv rfl, trivial, trivial, trivial, trivial, trivial, apk rfl rfl, amv rfl, trivial, trivial, trivial, trivial, trivial, apk rfl rfl, trivial⟩
    refine Qbq (by kernel_rfl) ?_
    refine wrg [mc (.bool false)] ?_ ?_
    ·exact ⟨aas rfl, trivial⟩
    refine Qak ?_
    refine Qao ?_
    obtain rfl := osi h
    exact ⟨⟨[B false], ⟨rot (by kernel_rfl), trivial⟩, rfl⟩, nll, Nat.le_refl _, fun n hn => absurd hn (Nat.not_lt_zero n)⟩
   ·replace h := Qaw hb35 h
    obtain ⟨x36, hg37, h⟩ := bno h
    obtain ⟨hi38, hj39⟩ := gsm hg37
    rcases bft ((x36.Parent != (-1))) with hb40 | hb40
    ·replace h := Qav hb40 h
     refine wrg [mv 0 (.dat 4 ((p0 : List GNode).map Qaa)), rp [(.tmp 5, (.dat 4 ((p0 : List GNode).map Qaa)))] (I ((p0.length : Int))), rp [fu 68, (.tmp 6, (I ((p0.length : Int)))), ci 1, ci 30] (B x34), rp [(.tmp 7, B x34)] (B ((!x34))), rp [(.tmp 8, (B ((!x34))))] (B false), rp [(.tmp 9, B false), (.tmp 0, (.dat 4 ((p0 : List GNode).map Qaa)))] (.dat 4 ((p0 : List GNode).map Qaa)), rp [(.tmp 9, B false), (.tmp 10, (.dat 4 ((p0 : List GNode).map Qaa))), ci 0] (.dptr (Qaa (x36)) 0), rp [(.tmp 9, B false), (.tmp 11, (.dptr (Qaa (x36)) 0))] (.dptr (Qaa (x36)) 0), rp [(.tmp 9, B false), (.tmp 12, (.dptr (Qaa (x36)) 0))] (I x36.Parent), rp [(.tmp 9, B false), (.tmp 13, I x36.Parent), ci (-1)] (B ((x36.Parent != (-1)))), rp [(.tmp 9, B false), cb true, (.tmp 14, (B ((x36.Parent != (-1)))))] (B ((x36.Parent != (-1)))), rp [(.tmp 15, (B ((x36.Parent != (-1)))))] (B true), sk 16 (B true), sk 16 (B true), sk 16 (B true), sk 16 (B true), sk 16 (B true), rp [(.tmp 16, B true), cb true, (.tmp 21, (.lit undef))] (B true), mv 22 (B true), sk 23 (B true), sk 23 (B true), sk 23 (B true), sk 23 (B true), sk 23 (B true), rp [(.tmp 23, B true), cb true, (.tmp 28, (.lit undef))] (B true)] ?_ ?_
     ·exact ⟨amv rfl, alm (c := Qaa) (l := p0) (aln rfl Try.underlying31 rfl), apc (first := []) (cap := []) (vs := [(I ((p0.length : Int))), I 1, I 30]) rfl Qd1 (Qa5 N (p0.length : Int) 1 30 _ hf33) rfl rfl (nlc nll (nlc nll (nlc nll nl0))) nll rfl, Qap rfl, asb hb35 (amv rfl), ag_ (amv rfl), ag_ (aid rfl Try.underlying31 Qgu rfl rfl hi38 (mgt Qaa hj39) rfl), ag_ (afd rfl Try.underlying141 rfl rfl ti3 (by decide) rfl), ag_ (ald_ rfl ti3 (by decide) (nle rfl) rfl), ag_ (abn rfl rfl), apk rfl rfl, asb hb40 (amv rfl), trivial, trivial, trivial, trivial, trivial, apk rfl rfl, amv rfl, trivial, trivial, trivial, trivial, trivial, apk rfl rfl, trivial⟩
     refine Qbq (by kernel_rfl) ?_
     refine wrg [mc (.bool false)] ?_ ?_
     ·exact ⟨aas rfl, trivial⟩
     refine Qak ?_
     refine Qao ?_
     obtain rfl := osi h
     exact ⟨⟨[B false], ⟨rot (by kernel_rfl), trivial⟩, rfl⟩, nll, Nat.le_refl _, fun n hn => absurd hn (Nat.not_lt_zero n)⟩
    ·replace h := Qaw hb40 h
     rcases bft ((x36.Loss != 0)) with hb41 | hb41
     ·replace h := Qav hb41 h
      refine wrg [mv 0 (.dat 4 ((p0 : List GNode).map Qaa)), rp [(.tmp 5, (.dat 4 ((p0 : List GNode).map Qaa)))] (I ((p0.length : Int))), rp [fu 68, (.tmp 6, (I ((p0.length : Int)))), ci 1, ci 30] (B x34), rp [(.tmp 7, B x34)] (B ((!x34))), rp [(.tmp 8, (B ((!x34))))] (B false), rp [(.tmp 9, B false), (.tmp 0, (.dat 4 ((p0 : List GNode).map Qaa)))] (.dat 4 ((p0 : List GNode).map Qaa)), rp [(.tmp 9, B false), (.tmp 10, (.dat 4 ((p0 : List GNode).map Qaa))), ci 0] (.dptr (Qaa (x36)) 0), rp [(.tmp 9, B false), (.tmp 11, (.dptr (Qaa (x36)) 0))] (.dptr (Qaa (x36)) 0), rp [(.tmp 9, B false), (.tmp 12, (.dptr (Qaa (x36)) 0))] (I x36.Parent), rp [(.tmp 9, B false), (.tmp 13, I x36.Parent), ci (-1)] (B ((x36.Parent != (-1)))), rp [(.tmp 9, B false), cb true, (.tmp 14, (B ((x36.Parent != (-1)))))] (B ((x36.Parent != (-1)))), rp [(.tmp 15, (B ((x36.Parent != (-1)))))] (B false), rp [(.tmp 16, B false), (.tmp 0, (.dat 4 ((p0 : List GNode).map Qaa)))] (.dat 4 ((p0 : List GNode).map Qaa)), rp [(.tmp 16, B false), (.tmp 17, (.dat 4 ((p0 : List GNode).map Qaa))), ci 0] (.dptr (Qaa (x36)) 0), rp [(.tmp 16, B false), (.tmp 18, (.dptr (Qaa (x36)) 0))] (.dptr (Qaa (x36)) 1), rp [(.tmp 16, B false), (.tmp 19, (.dptr (Qaa (x36)) 1))] (I x36.Loss), rp [(.tmp 16, B false), (.tmp 20, I x36.Loss), ci 0] (B ((x36.Loss != 0))), rp [(.tmp 16, B false), cb true, (.tmp 21, (B ((x36.Loss != 0))))] (B ((x36.Loss != 0))), rp [(.tmp 22, (B ((x36.Loss != 0))))] (B true), sk 23 (B true), sk 23 (B true), sk 23 (B true), sk 23 (B true), sk 23 (B true), rp [(.tmp 23, B true), cb true, (.tmp 28, (.lit undef))] (B true)] ?_ ?_
      ·exact ⟨amv rfl, alm (c := Qaa) (l := p0) (aln rfl Try.underlying31 rfl), apc (first := []) (cap := []) (vs := [(I ((p0.length : Int))), I 1, I 30]) rfl Qd1 (Qa5 N (p0.length : Int) 1 30 _ hf33) rfl rfl (nlc nll (nlc nll (nlc nll nl0))) nll rfl, Qap rfl, asb hb35 (amv rfl), ag_ (amv rfl), ag_ (aid rfl Try.underlying31 Qgu rfl rfl hi38 (mgt Qaa hj39) rfl), ag_ (afd rfl Try.underlying141 rfl rfl ti3 (by decide) rfl), ag_ (ald_ rfl ti3 (by decide) (nle rfl) rfl), ag_ (abn rfl rfl), apk rfl rfl, asb hb40 (amv rfl), ag_ (amv rfl), ag_ (aid rfl Try.underlying31 Qgu rfl rfl hi38 (mgt Qaa hj39) rfl), ag_ (afd rfl Try.underlying141 rfl rfl ti3 (by decide) rfl), ag_ (ald_ rfl ti3 (by decide) (nle rfl) rfl), ag_ (abn rfl rfl), apk rfl rfl, asb hb41 (amv rfl), trivial, trivial, trivial, trivial, trivial, apk rfl rfl, trivial⟩
      refine Qbq (by kernel_rfl) ?_
      refine wrg [mc (.bool false)] ?_ ?_
      ·exact ⟨aas rfl, trivial⟩
      refine Qak ?_
      refine Qao ?_
      obtain rfl := osi h
      exact ⟨⟨[B false], ⟨rot (by kernel_rfl), trivial⟩, rfl⟩, nll, Nat.le_refl _, fun n hn => absurd hn (Nat.not_lt_zero n)⟩
     ·replace h := Qaw hb41 h
      refine wrg [mv 0 (.dat 4 ((p0 : List GNode).map Qaa)), rp [(.tmp 5, (.dat 4 ((p0 : List GNode).map Qaa)))] (I ((p0.length : Int))), rp [fu 68, (.tmp 6, (I ((p0.length : Int)))), ci 1, ci 30] (B x34), rp [(.tmp 7, B x34)] (B ((!x34))), rp [(.tmp 8, (B ((!x34))))] (B false), rp [(.tmp 9, B false), (.tmp 0, (.dat 4 ((p0 : List GNode).map Qaa)))] (.dat 4 ((p0 : List GNode).map Qaa)), rp [(.tmp 9, B false), (.tmp 10, (.dat 4 ((p0 : List GNode).map Qaa))), ci 0] (.dptr (Qaa (x36)) 0), rp [(.tmp 9, B false), (.tmp 11, (.dptr (Qaa (x36)) 0))] (.dptr (Qaa (x36)) 0), rp [(.tmp 9, B false), (.tmp 12, (.dptr (Qaa (x36)) 0))] (I x36.Parent), rp [(.tmp 9, B false), (.tmp 13, I x36.Parent), ci (-1)] (B ((x36.Parent != (-1)))), rp [(.tmp 9, B false), cb true, (.tmp 14, (B ((x36.Parent != (-1)))))] (B ((x36.Parent != (-1)))), rp [(.tmp 15, (B ((x36.Parent != (-1)))))] (B false), rp [(.tmp 16, B false), (.tmp 0, (.dat 4 ((p0 : List GNode).map Qaa)))] (.dat 4 ((p0 : List GNode).map Qaa)), rp [(.tmp 16, B false), (.tmp 17, (.dat 4 ((p0 : List GNode).map Qaa))), ci 0] (.dptr (Qaa (x36)) 0), rp [(.tmp 16, B false), (.tmp 18, (.dptr (Qaa (x36)) 0))] (.dptr (Qaa (x36)) 1), rp [(.tmp 16, B false), (.tmp 19, (.dptr (Qaa (x36)) 1))] (I x36.Loss), rp [(.tmp 16, B false), (.tmp 20, I x36.Loss), ci 0] (B ((x36.Loss != 0))), rp [(.tmp 16, B false), cb true, (.tmp 21, (B ((x36.Loss != 0))))] (B ((x36.Loss != 0))), rp [(.tmp 22, (B ((x36.Loss != 0))))] (B false), rp [(.tmp 23, B false), (.tmp 0, (.dat 4 ((p0 : List GNode).map Qaa)))] (.dat 4 ((p0 : List GNode).map Qaa)), rp [(.tmp 23, B false), (.tmp 24, (.dat 4 ((p0 : List GNode).map Qaa))), ci 0] (.dptr (Qaa (x36)) 0), rp [(.tmp 23, B false), (.tmp 25, (.dptr (Qaa (x36)) 0))] (.dptr (Qaa (x36)) 2), rp [(.tmp 23, B false), (.tmp 26, (.dptr (Qaa (x36)) 2))] (I x36.Limit), rp [(.tmp 23, B false), (.tmp 27, I x36.Limit), ci 0] (B ((x36.Limit != 0))), rp [(.tmp 23, B false), cb true, (.tmp 28, (B ((x36.Limit != 0))))] (B ((x36.Limit != 0)))] ?_ ?_
      ·exact ⟨amv rfl, alm (c := Qaa) (l := p0) (aln rfl Try.underlying31 rfl), apc (first := []) (cap := []) (vs := [(I ((p0.length : Int))), I 1, I 30]) rfl Qd1 (Qa5 N (p0.length : Int) 1 30 _ hf33) rfl rfl (nlc nll (nlc nll (nlc nll nl0))) nll rfl, Qap rfl, asb hb35 (amv rfl), ag_ (amv rfl), ag_ (aid rfl Try.underlying31 Qgu rfl rfl hi38 (mgt Qaa hj39) rfl), ag_ (afd rfl Try.underlying141 rfl rfl ti3 (by decide) rfl), ag_ (ald_ rfl ti3 (by decide) (nle rfl) rfl), ag_ (abn rfl rfl), apk rfl rfl, asb hb40 (amv rfl), ag_ (amv rfl), ag_ (aid rfl Try.underlying31 Qgu rfl rfl hi38 (mgt Qaa hj39) rfl), ag_ (afd rfl Try.underlying141 rfl rfl ti3 (by decide) rfl), ag_ (ald_ rfl ti3 (by decide) (nle rfl) rfl), ag_ (abn rfl rfl), apk rfl rfl, asb hb41 (amv rfl), ag_ (amv rfl), ag_ (aid rfl Try.underlying31 Qgu rfl rfl hi38 (mgt Qaa hj39) rfl), ag_ (afd rfl Try.underlying141 rfl rfl ti3 (by decide) rfl), ag_ (ald_ rfl ti3 (by decide) (nle rfl) rfl), ag_ (abn rfl rfl), apk rfl rfl, trivial⟩
      rcases bft ((x36.Limit != 0)) with hc42 | hc42
      ·replace h := Qav hc42 h
       refine wft hc42 (by kernel_rfl) ?_
       refine wrg [mc (.bool false)] ?_ ?_
       ·exact ⟨aas rfl, trivial⟩
       refine Qak ?_
       refine Qao ?_
       obtain rfl := osi h
       exact ⟨⟨[B false], ⟨rot (by kernel_rfl), trivial⟩, rfl⟩, nll, Nat.le_refl _, fun n hn => absurd hn (Nat.not_lt_zero n)⟩
      ·replace h := Qaw hc42 h
       refine wfn hc42 (by kernel_rfl) ?_
       refine Qam ?_
       refine thn ?_
       exact ⟨(), h, (mto (n := 66) [(0, (.dat 4 ((p0 : List GNode).map Qaa)))] [] [] hφ0 (pc (.rn (.plain _ (nld Qag _))) pn) qn)⟩

def Qf2 (N : Nat) (p0 : Int) : Option Bool :=
  (Qe3 N p0).bind fun x3 =>
  some (!x3)
set_option maxRecDepth 100000 in
set_option maxHeartbeats 4000000 in
theorem Qhz (N : Nat) (p0 : Int) (r : Bool) (h : Qf2 N p0 = some r) : Spec Try.prog 108 [(I (p0)), (.ref 0 1 (0) 0)] [(.own 1 [[(.fn (.func 94) [] [])]])] (B (r)) [(.own 1 [[(.fn (.func 94) [] [])]])] := by
  refine Qaq Try.func108 rfl 1 (nle rfl) (fun X φ0 w0 hφ0 => ?_)
  unfold Qf2 at h
  refine Qc1 ?_
  refine wrg [mc (.bool false)] ?_ ?_
  ·exact ⟨aas rfl, trivial⟩
  obtain ⟨x3, hf2, h⟩ := bno h
  refine wrg [rb [(.tmp 1, .ref 0 1 0 0)] [(0, (.own 1 [[(.fn (.func 94) [] [])]]))] (.fn (.func 94) [] []), mv 0 (I p0), rp [(.tmp 4, (.fn (.func 94) [] [])), (.tmp 5, I p0)] (B x3), rp [(.tmp 6, B x3)] (B ((!x3))), mv 7 (B ((!x3)))] ?_ ?_
  ·exact ⟨ald rfl ti168 (by decide) rfl (nle rfl) rfl, amv rfl, apc (first := []) (cap := []) (vs := [I p0]) rfl Qe0 (Qb1 N p0 _ hf2) rfl rfl (nlc nll nl0) nll rfl, Qap rfl, aas rfl, trivial⟩
  refine wmr (mto (n := 8) (l' := [(3, (B ((!x3))))]) (own' := [(.own 1 [[(.fn (.func 94) [] [])]])]) [(3, (B ((!x3))))] [0] [(.own 1 [[(.fn (.func 94) [] [])]])] hφ0 (pc rwl pn) (qc (spb (lc (.rn (Qa2 rn0 rn0)) ln)) qn)) ?_
  refine Qak ?_
  obtain rfl := osi h
  exact ⟨_, Mor.rfl, Qc0 (vs := [(B ((!x3)))]) ⟨rot (by kernel_rfl), trivial⟩ rfl (NLt.of0 nll) (by kernel_rfl) (Qay (Qb2 (nlc (NLt.of0 (NLt.fn _ _ _ nl0 nl0)) nl0)) Qbx)⟩

def Qb5 (N : Nat) (p0 : (List Int)) (k2 : Unit → Option Int) : Nat → Int → Option Int
  | 0, _ => none
  | n5 + 1, y3 =>
    bif (decide (y3 < (p0.length : Int))) then
     (getI p0 y3).bind fun x7 =>
     (Qf2 N x7).bind fun x12 =>
     bif x12 then
      some y3
     else
      Qb5 N p0 k2 n5 (w64 (y3 + 1))
    else
     k2 ()
def Qed (N : Nat) (p0 : (List Int)) : Option Int :=
  Qca (fun _ =>
    some (-1)) fun k2 : Unit → Option Int =>
  Qb5 N p0 k2 N 0
set_option maxRecDepth 100000 in
set_option maxHeartbeats 4000000 in
theorem Qgd (N : Nat) (p0 : (List Int)) (r : Int) (h : Qed N p0 = some r) : Spec Try.prog 113 [(.dat 1 ((p0 : List Int).map Qac)), (.fn (.func 108) [] [(.ref 0 1 (0) 0)])] [(.own 1 [[(.fn (.func 94) [] [])]])] (I (r)) [(.own 1 [[(.fn (.func 94) [] [])]])] := by
  refine Qaq Try.func113 rfl 1 (nle rfl) (fun X φ0 w0 hφ0 => ?_)
  unfold Qed at h
  refine Qc1 ?_
  refine wrg [mc (.int .i64 0)] ?_ ?_
  ·exact ⟨aas rfl, trivial⟩
  obtain ⟨k2, hk_k2, h⟩ := jko h
  refine wjn (τ := Unit) (fun t => k2 t = some r) (fun _ => ⟨mk 19 [], [(.own 1 [[(.fn (.func 94) [] [])]])]⟩) (fun t h => ?_) ?_
  ·subst hk_k2
   refine wrg [mc (.int .i64 (-1))] ?_ ?_
   ·exact ⟨aas rfl, trivial⟩
   refine wmr (mto (n := 19) (l' := [(4, (I ((-1))))]) (own' := [(.own 1 [[(.fn (.func 94) [] [])]])]) [(4, (I ((-1))))] [0] [(.own 1 [[(.fn (.func 94) [] [])]])] hφ0 (pc rwl pn) (qc (spb (lc (.rn (Qa2 rn0 rn0)) ln)) qn)) ?_
   refine Qak ?_
   obtain rfl := osi h
   exact ⟨_, Mor.rfl, Qc0 (vs := [(I ((-1)))]) ⟨rot (by kernel_rfl), trivial⟩ rfl (NLt.of0 nll) (by kernel_rfl) (Qay (Qb2 (nlc (NLt.of0 (NLt.fn _ _ _ nl0 nl0)) nl0)) Qbx)⟩
  ·skip
   refine wrg [mv 0 (.dat 1 ((p0 : List Int).map Qac)), rp [(.tmp 6, (.dat 1 ((p0 : List Int).map Qac)))] (I ((p0.length : Int))), mc (.int .i64 0)] ?_ ?_
   ·exact ⟨amv rfl, alm (c := Qac) (l := p0) (aln rfl Try.underlying23 rfl), amv rfl, trivial⟩
   refine Qan ?_
   refine wmr (mto (n := 19) (l' := [(0, (.dat 1 ((p0 : List Int).map Qac))), (1, (.fn (.func 108) [] [.ref 0 1 0 0])), (7, (I ((p0.length : Int)))), (8, I 0)]) (own' := [(.own 1 [[(.fn (.func 94) [] [])]])]) [(0, (.dat 1 ((p0 : List Int).map Qac))), (1, (.fn (.func 108) [] [.ref 0 1 0 0])), (7, (I ((p0.length : Int)))), (8, I 0)] [0] [(.own 1 [[(.fn (.func 94) [] [])]])] hφ0 (pc (.rn (.plain _ (nld Qaf _))) (pc (.rn (Qa2 rn0 (rnc (rqr rfl) rn0))) (pc rwl (pc rwl pn)))) (qc (spb (lc (.rn (Qa2 rn0 rn0)) ln)) qn)) ?_
   refine Qcc (τ := Int) (fun n t => Qb5 N p0 k2 n t = some r) (fun y3 => ⟨mk 19 [(0, (.dat 1 ((p0 : List Int).map Qac))), (1, (.fn (.func 108) [] [.ref 0 1 0 0])), (7, (I ((p0.length : Int)))), (8, I y3)], [(.own 1 [[(.fn (.func 94) [] [])]])]⟩) (fun t h => by rw [Qb5] at h; cases h) (fun n5 ih y3 h => ?_) N (0) h
   rw [Qb5] at h
   skip
   refine wrg [rp [(.tmp 8, I y3), (.tmp 7, (I ((p0.length : Int))))] (B ((decide (y3 < (p0.length : Int)))))] ?_ ?_
   ·exact ⟨abn rfl rfl, trivial⟩
   refine wsq ?_
   rcases bft ((decide (y3 < (p0.length : Int)))) with hc6 | hc6
   ·replace h := Qav hc6 h
    refine wft hc6 (by kernel_rfl) ?_
    refine Qam ?_
    refine thn ?_
    refine wsq ?_
    refine Qan ?_
    refine wrg [mv 8 (I y3), mv 10 (I y3)] ?_ ?_
    ·exact ⟨amv rfl, aas rfl, trivial⟩
    obtain ⟨x7, hg8, h⟩ := bno h
    obtain ⟨hi9, hj10⟩ := gsm hg8
    obtain ⟨x12, hf11, h⟩ := bno h
    refine wrg [mv 1 (.fn (.func 108) [] [.ref 0 1 0 0]), mv 0 (.dat 1 ((p0 : List Int).map Qac)), mv 5 (I y3), rp [(.tmp 12, (.dat 1 ((p0 : List Int).map Qac))), (.tmp 13, I y3)] (.dptr (Qac (x7)) 0), rp [(.tmp 14, (.dptr (Qac (x7)) 0))] (I x7), ⟨[(.tmp 11, (.fn (.func 108) [] [.ref 0 1 0 0])), (.tmp 15, I x7)], [(0, (.own 1 [[(.fn (.func 94) [] [])]]))], B x12, [(0, (.own 1 [[(.fn (.func 94) [] [])]]))], false⟩] ?_ ?_
    ·exact ⟨amv rfl, amv rfl, amv rfl, aid rfl Try.underlying23 ti3 rfl rfl hi9 (mgt Qac hj10) rfl, ald_ rfl ti3 (by decide) (nle rfl) rfl, Qa4 (first := []) (cap := [.ref 0 1 0 0]) (vs := [I x7]) (σr := [(.own 1 [[(.fn (.func 94) [] [])]])]) (σr' := [(.own 1 [[(.fn (.func 94) [] [])]])]) (res' := (B x12)) [0] rfl enter108 (Qhz N x7 _ hf11) rfl (Qc3 (rnc (.plain _ nll) (rnc (Qbz rfl) rn0))) (slc (Qat (rnc (.plain _ (NLt.fn _ _ _ nl0 nl0)) rn0)) Qa0) (slc (Qat (rnc (.plain _ (NLt.fn _ _ _ nl0 nl0)) rn0)) Qa0) (.plain _ nll) rfl rfl rfl, trivial⟩
    rcases bft (x12) with hc13 | hc13
    ·replace h := Qav hc13 h
     refine wft hc13 (by kernel_rfl) ?_
     refine wrg [mv 5 (I y3), mv 17 (I y3)] ?_ ?_
     ·exact ⟨amv rfl, aas rfl, trivial⟩
     refine wmr (mto (n := 19) (l' := [(4, I y3)]) (own' := [(.own 1 [[(.fn (.func 94) [] [])]])]) [(4, I y3)] [0] [(.own 1 [[(.fn (.func 94) [] [])]])] hφ0 (pc rwl pn) (qc (spb (lc (.rn (Qa2 rn0 rn0)) ln)) qn)) ?_
     refine Qak ?_
     refine Qa3 ?_
     refine Qao ?_
     refine Qao ?_
     refine Qa3 ?_
     refine Qao ?_
     obtain rfl := osi h
     exact ⟨_, Mor.rfl, Qc0 (vs := [I y3]) ⟨rot (by kernel_rfl), trivial⟩ rfl (NLt.of0 nll) (by kernel_rfl) (Qay (Qb2 (nlc (NLt.of0 (NLt.fn _ _ _ nl0 nl0)) nl0)) Qbx)⟩
    ·replace h := Qaw hc13 h
     refine wfn hc13 (by kernel_rfl) ?_
     refine Qam ?_
     refine bln ?_
     refine thn ?_
     refine Qar [rp [(.tmp 8, I y3), ci 1] (I (w64 (y3 + 1))), mv 18 (I (w64 (y3 + 1)))] ?_ ?_
     ·exact ⟨abn rfl rfl, amv rfl, trivial⟩
     refine thn ?_
     exact arm (mto (n := 19) [(0, (.dat 1 ((p0 : List Int).map Qac))), (1, (.fn (.func 108) [] [.ref 0 1 0 0])), (7, (I ((p0.length : Int)))), (8, (I (w64 (y3 + 1))))] [0] [(.own 1 [[(.fn (.func 94) [] [])]])] hφ0 (pc (.rn (.plain _ (nld Qaf _))) (pc (.rn (Qa2 rn0 (rnc (rqr rfl) rn0))) (pc rwl (pc rwl pn)))) (qc (spb (lc (.rn (Qa2 rn0 rn0)) ln)) qn)) (ih (w64 (y3 + 1)) h)
   ·replace h := Qaw hc6 h
    refine wfn hc6 (by kernel_rfl) ?_
    refine Qbf ?_
    refine Qau ?_
    refine Qau ?_
    refine Qbe rfl ?_
    refine thn ?_
    exact ⟨(), h, (mto (n := 19) [] [0] [(.own 1 [[(.fn (.func 94) [] [])]])] hφ0 pn (qc (spb (lc (.rn (Qa2 rn0 rn0)) ln)) qn))⟩

def Qdy (N : Nat) (p0 : (List Int)) : Option Bool :=
  (Qed N p0).bind fun x3 =>
  some (decide (x3 ≥ 0))
set_option maxRecDepth 100000 in
set_option maxHeartbeats 4000000 in
theorem Qfv (N : Nat) (p0 : (List Int)) (r : Bool) (h : Qdy N p0 = some r) : Spec Try.prog 107 [(.dat 1 ((p0 : List Int).map Qac)), (.fn (.func 108) [] [(.ref 0 1 (0) 0)])] [(.own 1 [[(.fn (.func 94) [] [])]])] (B (r)) [(.own 1 [[(.fn (.func 94) [] [])]])] := by
  refine Qaq Try.func107 rfl 1 (nle rfl) (fun X φ0 w0 hφ0 => ?_)
  unfold Qdy at h
  refine Qc1 ?_
  refine wrg [mc (.bool false)] ?_ ?_
  ·exact ⟨aas rfl, trivial⟩
  obtain ⟨x3, hf2, h⟩ := bno h
  refine wrg [mv 0 (.dat 1 ((p0 : List Int).map Qac)), mv 1 (.fn (.func 108) [] [.ref 0 1 0 0]), ⟨[fu 113, (.tmp 5, (.dat 1 ((p0 : List Int).map Qac))), (.tmp 6, (.fn (.func 108) [] [.ref 0 1 0 0]))], [(0, (.own 1 [[(.fn (.func 94) [] [])]]))], I x3, [(0, (.own 1 [[(.fn (.func 94) [] [])]]))], false⟩, rp [(.tmp 7, I x3), ci 0] (B ((decide (x3 ≥ 0)))), mv 8 (B ((decide (x3 ≥ 0))))] ?_ ?_
  ·exact ⟨amv rfl, amv rfl, Qa4 (first := []) (cap := []) (vs := [(.dat 1 ((p0 : List Int).map Qac)), (.fn (.func 108) [] [.ref 0 1 0 0])]) (σr := [(.own 1 [[(.fn (.func 94) [] [])]])]) (σr' := [(.own 1 [[(.fn (.func 94) [] [])]])]) (res' := (I x3)) [0] rfl enter113 (Qgd N p0 _ hf2) rfl (Qc3 (rnc (.plain _ (nld Qaf _)) (rnc (Qa2 rn0 (rnc (Qbz rfl) rn0)) rn0))) (slc (Qat (rnc (.plain _ (NLt.fn _ _ _ nl0 nl0)) rn0)) Qa0) (slc (Qat (rnc (.plain _ (NLt.fn _ _ _ nl0 nl0)) rn0)) Qa0) (.plain _ nll) rfl rfl rfl, abn rfl rfl, aas rfl, trivial⟩
  refine wmr (mto (n := 9) (l' := [(4, (B ((decide (x3 ≥ 0)))))]) (own' := [(.own 1 [[(.fn (.func 94) [] [])]])]) [(4, (B ((decide (x3 ≥ 0)))))] [0] [(.own 1 [[(.fn (.func 94) [] [])]])] hφ0 (pc rwl pn) (qc (spb (lc (.rn (Qa2 rn0 rn0)) ln)) qn)) ?_
  refine Qak ?_
  obtain rfl := osi h
  exact ⟨_, Mor.rfl, Qc0 (vs := [(B ((decide (x3 ≥ 0))))]) ⟨rot (by kernel_rfl), trivial⟩ rfl (NLt.of0 nll) (by kernel_rfl) (Qay (Qb2 (nlc (NLt.of0 (NLt.fn _ _ _ nl0 nl0)) nl0)) Qbx)⟩

def Qgp (N : Nat) (p0 : (List Int)) : Option Bool :=
  (Qdy N p0).bind fun x2 =>
  some (!x2)
set_option maxRecDepth 100000 in
set_option maxHeartbeats 4000000 in
theorem Qio (N : Nat) (p0 : (List Int)) (r : Bool) (h : Qgp N p0 = some r) : Spec Try.prog 90 [(.dat 1 ((p0 : List Int).map Qac)), (.fn (.func 94) [] [])] [] (B (r)) [] := by
  refine Qaq Try.func90 rfl 0 (nle rfl) (fun X φ0 w0 hφ0 => ?_)
  unfold Qgp at h
  refine wrg [⟨[(.tmp 1, (.fn (.func 94) [] []))], [(0, .unused)], .ref 0 1 0 0, [(0, (.own 1 [[(.fn (.func 94) [] [])]]))], false⟩, mc (.bool false)] ?_ ?_
  ·exact ⟨Qbu rfl (by rfl) rfl rfl, aas rfl, trivial⟩
  obtain ⟨x2, hf1, h⟩ := bno h
  refine wrg [mv 0 (.dat 1 ((p0 : List Int).map Qac)), rp [(.tmp 3, .ref 0 1 0 0)] (.fn (.func 108) [] [.ref 0 1 0 0]), ⟨[fu 107, (.tmp 5, (.dat 1 ((p0 : List Int).map Qac))), (.tmp 6, (.fn (.func 108) [] [.ref 0 1 0 0]))], [(0, (.own 1 [[(.fn (.func 94) [] [])]]))], B x2, [(0, (.own 1 [[(.fn (.func 94) [] [])]]))], false⟩, rp [(.tmp 7, B x2)] (B ((!x2))), mv 8 (B ((!x2)))] ?_ ?_
  ·exact ⟨amv rfl, Qfq (fs := []) (cs := [.ref 0 1 0 0]) rfl rfl rfl rfl, Qa4 (first := []) (cap := []) (vs := [(.dat 1 ((p0 : List Int).map Qac)), (.fn (.func 108) [] [.ref 0 1 0 0])]) (σr := [(.own 1 [[(.fn (.func 94) [] [])]])]) (σr' := [(.own 1 [[(.fn (.func 94) [] [])]])]) (res' := (B x2)) [0] rfl enter107 (Qfv N p0 _ hf1) rfl (Qc3 (rnc (.plain _ (nld Qaf _)) (rnc (Qa2 rn0 (rnc (Qbz rfl) rn0)) rn0))) (slc (Qat (rnc (.plain _ (NLt.fn _ _ _ nl0 nl0)) rn0)) Qa0) (slc (Qat (rnc (.plain _ (NLt.fn _ _ _ nl0 nl0)) rn0)) Qa0) (.plain _ nll) rfl rfl rfl, Qap rfl, aas rfl, trivial⟩
  refine Qak ?_
  obtain rfl := osi h
  exact ⟨⟨[(B ((!x2)))], ⟨rot (by kernel_rfl), trivial⟩, rfl⟩, nll, Nat.le_refl _, fun n hn => absurd hn (Nat.not_lt_zero n)⟩

def Qhq (N : Nat) (p0 : (List GNode)) (p1 : (List Int)) : Option Int :=
  (Qej N p0).bind fun x2 =>
  bif (!x2) then
   some 1
  else
   bif ((p1.length : Int) != (p0.length : Int)) then
    some 2
   else
    (Qgp N p1).bind fun x6 =>
    bif (!x6) then
     some 2
    else
     some 0
set_option maxRecDepth 100000 in
set_option maxHeartbeats 4000000 in
theorem Qim (N : Nat) (p0 : (List GNode)) (p1 : (List Int)) (r : Int) (h : Qhq N p0 p1 = some r) : Spec Try.prog 67 [(.dat 4 (p0.map Qaa)), (.dat 1 (p1.map Qac))] [] (I r) [] := by
  refine Qaq Try.func67 rfl 0 (nle rfl) (fun X φ0 w0 hφ0 => ?_)
  unfold Qhq at h
  refine wrg [mc (.int .i64 0)] ?_ ?_
  ·exact ⟨aas rfl, trivial⟩
  refine wsq ?_
  refine Qan ?_
  obtain ⟨x2, hf1, h⟩ := bno h
  refine wrg [mv 0 (.dat 4 ((p0 : List GNode).map Qaa)), rp [fu 80, (.tmp 6, (.dat 4 ((p0 : List GNode).map Qaa)))] (B x2), rp [(.tmp 7, B x2)] (B ((!x2))), mv 8 (B ((!x2)))] ?_ ?_
  ·exact ⟨amv rfl, apc (first := []) (cap := []) (vs := [(.dat 4 ((p0 : List GNode).map Qaa))]) rfl enter80 (Qgq N p0 _ hf1) rfl rfl (nlc (nld Qag _) nl0) nll rfl, Qap rfl, aas rfl, trivial⟩
  rcases bft ((!x2)) with hc3 | hc3
  ·replace h := Qav hc3 h
   refine wft hc3 (by kernel_rfl) ?_
   refine wrg [mc (.int .i64 1)] ?_ ?_
   ·exact ⟨aas rfl, trivial⟩
   refine Qak ?_
   refine Qa3 ?_
   refine Qao ?_
   obtain rfl := osi h
   exact ⟨⟨[I 1], ⟨rot (by kernel_rfl), trivial⟩, rfl⟩, nll, Nat.le_refl _, fun n hn => absurd hn (Nat.not_lt_zero n)⟩
  ·replace h := Qaw hc3 h
   refine wfn hc3 (by kernel_rfl) ?_
   rcases bft (((p1.length : Int) != (p0.length : Int))) with hb4 | hb4
   ·replace h := Qav hb4 h
    refine wrg [mv 1 (.dat 1 ((p1 : List Int).map Qac)), rp [(.tmp 10, (.dat 1 ((p1 : List Int).map Qac)))] (I ((p1.length : Int))), mv 0 (.dat 4 ((p0 : List GNode).map Qaa)), rp [(.tmp 12, (.dat 4 ((p0 : List GNode).map Qaa)))] (I ((p0.length : Int))), rp [(.tmp 11, (I ((p1.length : Int)))), (.tmp 13, (I ((p0.length : Int))))] (B (((p1.length : Int) != (p0.length : Int)))), rp [(.tmp 14, (B (((p1.length : Int) != (p0.length : Int)))))] (B true), sk 15 (B true), sk 15 (B true), sk 15 (B true), rp [(.tmp 15, B true), cb true, (.tmp 18, (.lit undef))] (B true), mv 19 (B true)] ?_ ?_
    ·exact ⟨amv rfl, alm (c := Qac) (l := p1) (aln rfl Try.underlying23 rfl), amv rfl, alm (c := Qaa) (l := p0) (aln rfl Try.underlying31 rfl), abn rfl rfl, asb hb4 (amv rfl), trivial, trivial, trivial, apk rfl rfl, aas rfl, trivial⟩
    refine Qbq (by kernel_rfl) ?_
    refine wrg [mc (.int .i64 2)] ?_ ?_
    ·exact ⟨aas rfl, trivial⟩
    refine Qak ?_
    refine Qa3 ?_
    refine Qao ?_
    obtain rfl := osi h
    exact ⟨⟨[I 2], ⟨rot (by kernel_rfl), trivial⟩, rfl⟩, nll, Nat.le_refl _, fun n hn => absurd hn (Nat.not_lt_zero n)⟩
   ·replace h := Qaw hb4 h
    obtain ⟨x6, hf5, h⟩ := bno h
    refine wrg [mv 1 (.dat 1 ((p1 : List Int).map Qac)), rp [(.tmp 10, (.dat 1 ((p1 : List Int).map Qac)))] (I ((p1.length : Int))), mv 0 (.dat 4 ((p0 : List GNode).map Qaa)), rp [(.tmp 12, (.dat 4 ((p0 : List GNode).map Qaa)))] (I ((p0.length : Int))), rp [(.tmp 11, (I ((p1.length : Int)))), (.tmp 13, (I ((p0.length : Int))))] (B (((p1.length : Int) != (p0.length : Int)))), rp [(.tmp 14, (B (((p1.length : Int) != (p0.length : Int)))))] (B false), rp [(.tmp 15, B false), (.tmp 1, (.dat 1 ((p1 : List Int).map Qac)))] (.dat 1 ((p1 : List Int).map Qac)), rp [(.tmp 15, B false), fu 90, (.tmp 16, (.dat 1 ((p1 : List Int).map Qac))), fu 94] (B x6), rp [(.tmp 15, B false), (.tmp 17, B x6)] (B ((!x6))), rp [(.tmp 15, B false), cb true, (.tmp 18, (B ((!x6))))] (B ((!x6))), mv 19 (B ((!x6)))] ?_ ?_
    ·exact ⟨amv rfl, alm (c := Qac) (l := p1) (aln rfl Try.underlying23 rfl), amv rfl, alm (c := Qaa) (l := p0) (aln rfl Try.underlying31 rfl), abn rfl rfl, asb hb4 (amv rfl), ag_ (amv rfl), ag_ (Qa4 (first := []) (cap := []) (vs := [(.dat 1 ((p1 : List Int).map Qac)), (.fn (.func 94) [] [])]) (σr := []) (σr' := []) (res' := (B x6)) [] rfl enter90 (Qio N p1 _ hf5) rfl (Qc3 (rnc (.plain _ (nld Qaf _)) (rnc (.plain _ (NLt.fn _ _ _ nl0 nl0)) rn0))) Qa0 Qa0 (.plain _ nll) rfl rfl rfl), ag_ (Qap rfl), apk rfl rfl, aas rfl, trivial⟩
    rcases bft ((!x6)) with hc7 | hc7
    ·replace h := Qav hc7 h
     refine wft hc7 (by kernel_rfl) ?_
     refine wrg [mc (.int .i64 2)] ?_ ?_
     ·exact ⟨aas rfl, trivial⟩
     refine Qak ?_
     refine Qa3 ?_
     refine Qao ?_
     obtain rfl := osi h
     exact ⟨⟨[I 2], ⟨rot (by kernel_rfl), trivial⟩, rfl⟩, nll, Nat.le_refl _, fun n hn => absurd hn (Nat.not_lt_zero n)⟩
    ·replace h := Qaw hc7 h
     refine wfn hc7 (by kernel_rfl) ?_
     refine Qam ?_
     refine bln ?_
     refine thn ?_
     refine wrg [mc (.int .i64 0)] ?_ ?_
     ·exact ⟨aas rfl, trivial⟩
     refine Qak ?_
     obtain rfl := osi h
     exact ⟨⟨[I 0], ⟨rot (by kernel_rfl), trivial⟩, rfl⟩, nll, Nat.le_refl _, fun n hn => absurd hn (Nat.not_lt_zero n)⟩

def Qd8 (_N : Nat) (p0 : (List Int)) : Option Unit :=
  chk (!p0.isEmpty) <|
  chk (!p0.isEmpty) <|
  chk (decide ((0 + p0.length) * 8 ≤ 140737488355328)) <|
  some ()
set_option maxRecDepth 100000 in
set_option maxHeartbeats 4000000 in
theorem Qff (N : Nat) (p0 : (List Int)) (r : Unit) (h : Qd8 N p0 = some r) : Spec Try.prog 97 [(.dat 1 ((p0 : List Int).map Qac))] [] (.own 0 1 (0) (p0.length)) [(.own 1 ((p0 : List Int).map Qac))] := by
  refine Qaq Try.func97 rfl 1 (nle rfl) (fun X φ0 w0 hφ0 => ?_)
  unfold Qd8 at h
  refine Qc1 ?_
  refine wrg [mc (.slice none 0 0)] ?_ ?_
  ·exact ⟨aas rfl, trivial⟩
  refine wsq ?_
  obtain ⟨hz1, h⟩ := cko h
  refine wrg [mv 0 (.dat 1 ((p0 : List Int).map Qac)), rp [(.tmp 3, (.dat 1 ((p0 : List Int).map Qac))), ((.const (.slice none 0 0)), nilS)] (B false)] ?_ ?_
  ·exact ⟨amv rfl, astep_eqnil rfl Try.underlying23 rfl (Qhb hz1), trivial⟩
  refine Qey (by kernel_rfl) ?_
  refine Qam ?_
  refine thn ?_
  obtain ⟨ha3, h⟩ := cko h
  obtain ⟨ha2, h⟩ := cko h
  refine wrg [⟨[], [(0, .unused)], (.acc 0 3 1 ((([] : List Int) : List Int).map Qac)), [(0, .tok)], false⟩, mv 0 (.dat 1 ((p0 : List Int).map Qac)), ⟨[(.tmp 5, (.acc 0 3 1 ((([] : List Int) : List Int).map Qac))), (.tmp 6, (.dat 1 ((p0 : List Int).map Qac)))], [(0, .tok), (1, .unused)], (.own 1 1 (0) (p0.length)), [(0, .dead), (1, (.own 1 ((p0 : List Int).map Qac)))], false⟩, mv 7 (.own 1 1 (0) (p0.length))] ?_ ?_
  ·exact ⟨Qi0 rfl Try.underlying23 ti3 tz3, amv rfl, astep_appO rfl Try.underlying23 te3 (Base.acc _ _) rfl rfl (Qhb ha3) (ones_map Qac one_i64 _) (app_le1n Qac ha2) (app_le2n Qac ha2 (by decide)) (List.length_map _), aas rfl, trivial⟩
  refine wmr (mto (n := 8) (l' := [(2, (.own 0 1 (0) (p0.length)))]) (own' := [(.own 1 ((p0 : List Int).map Qac))]) [(2, (.own 1 1 (0) (p0.length)))] [1] [(.own 1 ((p0 : List Int).map Qac))] hφ0 (pc (.rn (Qaj rfl)) pn) (qc (spr Qaf) qn)) ?_
  refine Qak ?_
  obtain rfl := osi h
  exact ⟨_, Mor.rfl, Qc0 (vs := [(.own 0 1 (0) (p0.length))]) ⟨rot (by kernel_rfl), trivial⟩ rfl (NLt.own _ _ _ _ (by decide)) (by kernel_rfl) (Qay (Qd0 Qaf _) Qbx)⟩

def Qa8 (_N : Nat) (_p0 : (List GNode)) : Option Unit :=
  some ()
set_option maxRecDepth 100000 in
set_option maxHeartbeats 4000000 in
theorem Qcs (N : Nat) (p0 : (List GNode)) (r : Unit) (h : Qa8 N p0 = some r) : Spec Try.prog 86 [(.dat 4 ((p0 : List GNode).map Qaa))] [] (.fn (.func 105) [] [(.ref 0 1 (0) 0)]) [(.own 1 [[(.dat 4 ((p0 : List GNode).map Qaa))]])] := by
  refine Qaq Try.func86 rfl 1 (nle rfl) (fun X φ0 w0 hφ0 => ?_)
  unfold Qa8 at h
  refine Qc1 ?_
  refine wrg [⟨[(.tmp 0, (.dat 4 ((p0 : List GNode).map Qaa)))], [(0, .unused)], .ref 0 1 0 0, [(0, (.own 1 [[(.dat 4 ((p0 : List GNode).map Qaa))]]))], false⟩, mc .nilFunc] ?_ ?_
  ·exact ⟨Qbu rfl (by rfl) rfl rfl, aas rfl, trivial⟩
  refine wrg [rp [(.tmp 1, .ref 0 1 0 0)] (.fn (.func 105) [] [.ref 0 1 0 0]), mv 3 (.fn (.func 105) [] [.ref 0 1 0 0])] ?_ ?_
  ·exact ⟨Qfq (fs := []) (cs := [.ref 0 1 0 0]) rfl rfl rfl rfl, aas rfl, trivial⟩
  refine wmr (mto (n := 4) (l' := [(2, (.fn (.func 105) [] [.ref 0 1 0 0]))]) (own' := [(.own 1 [[(.dat 4 ((p0 : List GNode).map Qaa))]])]) [(2, (.fn (.func 105) [] [.ref 0 1 0 0]))] [0] [(.own 1 [[(.dat 4 ((p0 : List GNode).map Qaa))]])] hφ0 (pc (.rn (Qa2 rn0 (rnc (rqr rfl) rn0))) pn) (qc (spb (lc (.rn (.plain _ (nld Qag _))) ln)) qn)) ?_
  refine Qak ?_
  obtain rfl := osi h
  exact ⟨_, Mor.rfl, Qc0 (vs := [(.fn (.func 105) [] [.ref 0 1 0 0])]) ⟨rot (by kernel_rfl), trivial⟩ rfl (NLt.fn _ _ _ nl0 (nlc (NLt.ref _ _ _ _ (by decide)) nl0)) (by kernel_rfl) (Qay (Qb2 (nlc (NLt.of0 (nld Qag _)) nl0)) Qbx)⟩

def Qa1 (N : Nat) (p0 : (List GNode)) : Nat → Int → Option (List (Int × GNode))
  | 0, _ => none
  | n7 + 1, y3 =>
    bif (decide (y3 ≥ 0)) then
     (getI p0 y3).bind fun x9 =>
     yld (y3, x9) <|
     Qa1 N p0 n7 (w64 (y3 - 1))
    else
     some ([])
def Qa7 (N : Nat) (p0 : (List GNode)) : Option (List (Int × GNode)) :=
  (some (w64 ((p0.length : Int) - 1))).bind fun x1 =>
  Qa1 N p0 N x1
set_option maxRecDepth 100000 in
set_option maxHeartbeats 4000000 in
theorem Qcr (N : Nat) (p0 : (List GNode)) (r : (List (Int × GNode))) (h : Qa7 N p0 = some r) : SeqSpec Try.prog 105 [(.ref 0 1 (0) 0)] [(.own 1 [[(.dat 4 ((p0 : List GNode).map Qaa))]])] (fun x => [(.int .i64 (x.1)), (.agg #[(.int .i64 (x.2.Parent)), (.int .i64 (x.2.Loss)), (.int .i64 (x.2.Limit)), (.int .i64 (x.2.Rank))])]) r := by
  refine seq_of_awp Try.func105 rfl rfl (fun X φ0 w0 l J hφ0 hy => ?_)
  unfold Qa7 at h
  obtain ⟨x1, hl2, h⟩ := bno h
  refine wrg [rb [(.tmp 1, .ref 0 1 0 0)] [(0, (.own 1 [[(.dat 4 ((p0 : List GNode).map Qaa))]]))] (.dat 4 ((p0 : List GNode).map Qaa)), rp [(.tmp 4, (.dat 4 ((p0 : List GNode).map Qaa)))] (I ((p0.length : Int))), rp [(.tmp 5, (I ((p0.length : Int)))), ci 1] (I (w64 ((p0.length : Int) - 1))), rp [(.tmp 6, (I (w64 ((p0.length : Int) - 1))))] (I x1)] ?_ ?_
  ·exact ⟨ald rfl ti31 (by decide) rfl (nle rfl) rfl, alm (c := Qaa) (l := p0) (aln rfl Try.underlying31 rfl), abn rfl rfl, Qe2 hl2 (aas rfl), trivial⟩
  refine Qan ?_
  refine wmr (mto (n := 19) (l' := [(0, (.lit (.func (.yield l) #[] #[]))), (1, .ref 0 1 0 0), (3, I x1)]) (own' := [(.own 1 [[(.dat 4 ((p0 : List GNode).map Qaa))]]), (.far (J (some (r))))]) [(0, (.lit (.func (.yield l) #[] #[]))), (1, .ref 0 1 0 0), (3, I x1)] [0, 1] [(.own 1 [[(.dat 4 ((p0 : List GNode).map Qaa))]]), (.far (J (some (r))))] hφ0 (pc rwl (pc (.rn (rqr rfl)) (pc rwl pn))) (qc (spb (lc (.rn (.plain _ (nld Qag _))) ln)) (qc (.far _) qn))) ?_
  refine Qcc (τ := (Int) × List (Int × GNode)) (fun n t => Qa1 N p0 n t.1 = some t.2) (fun ⟨y3, q4⟩ => ⟨mk 19 [(0, (.lit (.func (.yield l) #[] #[]))), (1, .ref 0 1 0 0), (3, I y3)], [(.own 1 [[(.dat 4 ((p0 : List GNode).map Qaa))]]), (.far (J (some (q4))))]⟩) (fun t h => by rw [Qa1] at h; cases h) (fun n7 ih t h => ?_) N ((x1), r) h
  obtain ⟨y3, q4⟩ := t
  rw [Qa1] at h
  try dsimp only at h
  refine wsq ?_
  refine wrg [mv 3 (I y3), rp [(.tmp 7, I y3), ci 0] (B ((decide (y3 ≥ 0))))] ?_ ?_
  ·exact ⟨amv rfl, abn rfl rfl, trivial⟩
  rcases bft ((decide (y3 ≥ 0))) with hc8 | hc8
  ·replace h := Qav hc8 h
   refine wft hc8 (by kernel_rfl) ?_
   refine Qam ?_
   refine thn ?_
   refine wsq ?_
   refine Qan ?_
   obtain ⟨x9, hg10, h⟩ := bno h
   obtain ⟨hi11, hj12⟩ := gsm hg10
   obtain ⟨q13, hy_, hq_⟩ := yld_out h
   clear h
   subst hq_
   have h := hy_
   clear hy_
   refine awp_regy 6 [mv 0 (.lit (.func (.yield l) #[] #[])), mv 3 (I y3), rb [(.tmp 1, .ref 0 1 0 0)] [(0, (.own 1 [[(.dat 4 ((p0 : List GNode).map Qaa))]]))] (.dat 4 ((p0 : List GNode).map Qaa)), mv 3 (I y3), rp [(.tmp 13, (.dat 4 ((p0 : List GNode).map Qaa))), (.tmp 14, I y3)] (.dptr (Qaa (x9)) 0), rp [(.tmp 15, (.dptr (Qaa (x9)) 0))] (.agg [I x9.Parent, I x9.Loss, I x9.Limit, I x9.Rank]), ⟨[(.tmp 11, (.lit (.func (.yield l) #[] #[]))), (.tmp 12, I y3), (.tmp 16, (.agg [I x9.Parent, I x9.Loss, I x9.Limit, I x9.Rank]))], [(1, (.far (J (some ((y3, x9) :: q13)))))], B true, [(1, (.far (J (some (q13)))))], false⟩, rp [(.tmp 17, B true)] (B false)] [mv 0 (.lit (.func (.yield l) #[] #[])), mv 3 (I y3), rb [(.tmp 1, .ref 0 1 0 0)] [(0, (.own 1 [[(.dat 4 ((p0 : List GNode).map Qaa))]]))] (.dat 4 ((p0 : List GNode).map Qaa)), mv 3 (I y3), rp [(.tmp 13, (.dat 4 ((p0 : List GNode).map Qaa))), (.tmp 14, I y3)] (.dptr (Qaa (x9)) 0), rp [(.tmp 15, (.dptr (Qaa (x9)) 0))] (.agg [I x9.Parent, I x9.Loss, I x9.Limit, I x9.Rank]), ⟨[(.tmp 11, (.lit (.func (.yield l) #[] #[]))), (.tmp 12, I y3), (.tmp 16, (.agg [I x9.Parent, I x9.Loss, I x9.Limit, I x9.Rank]))], [(1, (.far (J (some ((y3, x9) :: q13)))))], B false, [(1, (.far (J none)))], false⟩, rp [(.tmp 17, B false)] (B true)] (by exact ⟨by kernel_rfl, by kernel_rfl⟩) (by exact ⟨by kernel_rfl, by kernel_rfl⟩) rfl rfl rfl rfl (astep2_weak (rd' := (.tmp 11, .lit (.func (.yield l) #[] #[])) :: [(.tmp 12, .lit (.int .i64 (y3))), (.tmp 16, .lit (.agg #[(.int .i64 (x9.Parent)), (.int .i64 (x9.Loss)), (.int .i64 (x9.Limit)), (.int .i64 (x9.Rank))]))]) ⟨rfl, lrf, rfl, lrf, rfl, (Less.lits [(.int .i64 (x9.Parent)), (.int .i64 (x9.Loss)), (.int .i64 (x9.Limit)), (.int .i64 (x9.Rank))]), trivial⟩ (astep_yieldq (x := (y3, x9)) (rest := q13) rfl rfl hy rfl)) (⟨fun _ _ => amv rfl, fun _ _ => amv rfl, fun _ _ => ald rfl ti31 (by decide) rfl (nle rfl) rfl, fun _ _ => amv rfl, fun _ _ => aid rfl Try.underlying31 Qgu rfl rfl hi11 (mgt Qaa hj12) rfl, fun _ _ => ald_ rfl Qgu (by decide) (nle rfl) rfl, fun _ h => absurd rfl h, fun _ _ => Qap rfl, trivial⟩) (⟨fun _ _ => amv rfl, fun _ _ => amv rfl, fun _ _ => ald rfl ti31 (by decide) rfl (nle rfl) rfl, fun _ _ => amv rfl, fun _ _ => aid rfl Try.underlying31 Qgu rfl rfl hi11 (mgt Qaa hj12) rfl, fun _ _ => ald_ rfl Qgu (by decide) (nle rfl) rfl, fun _ h => absurd rfl h, fun _ _ => Qap rfl, trivial⟩) ?_ ?_
   ·skip
    refine Qey (by kernel_rfl) ?_
    refine Qam ?_
    refine bln ?_
    refine thn ?_
    refine Qar [mv 3 (I y3), rp [(.tmp 9, I y3), ci 1] (I (w64 (y3 - 1))), mv 10 (I (w64 (y3 - 1)))] ?_ ?_
    ·exact ⟨amv rfl, abn rfl rfl, aas rfl, trivial⟩
    refine thn ?_
    exact arm (mto (n := 19) [(0, (.lit (.func (.yield l) #[] #[]))), (1, .ref 0 1 0 0), (3, (I (w64 (y3 - 1))))] [0, 1] [(.own 1 [[(.dat 4 ((p0 : List GNode).map Qaa))]]), (.far (J (some (q13))))] hφ0 (pc rwl (pc (.rn (rqr rfl)) (pc rwl pn))) (qc (spb (lc (.rn (.plain _ (nld Qag _))) ln)) (qc (.far _) qn))) (ih ((w64 (y3 - 1)), q13) h)
   ·clear h
    refine Qbq (by kernel_rfl) ?_
    refine Qak ?_
    refine Qa3 ?_
    refine Qao ?_
    refine Qao ?_
    refine Qa3 ?_
    exact Or.inr rfl
  ·replace h := Qaw hc8 h
   refine wfn hc8 (by kernel_rfl) ?_
   refine Qbf ?_
   refine Qau ?_
   refine Qau ?_
   refine Qbe rfl ?_
   obtain rfl := osi h
   exact Or.inl rfl

def Qep (_N : Nat) (p0 : Int) (p1 : Nat) (p2 : (List GNode)) (p3 : (List Int)) : Option (List Int) :=
  Qca (fun y2 =>
    (getI p2 p0).bind fun x4 =>
    bif (decide (x4.Parent ≥ 0)) then
     chk (decide (0 ≤ x4.Parent) && decide (x4.Parent.toNat < p1)) <|
     (y2[x4.Parent.toNat]?).bind fun x10 =>
     chk (decide (0 ≤ p0) && decide (p0.toNat < p1)) <|
     (y2[p0.toNat]?).bind fun x13 =>
     chk (decide (0 ≤ x4.Parent) && decide (x4.Parent.toNat < p1)) <|
     (y2[x4.Parent.toNat]?).bind fun _ =>
     some (y2.set x4.Parent.toNat (w64 (x10 + x13)))
    else
     some y2) fun k3 : (List Int) → Option (List Int) =>
  chk (decide (0 ≤ p0) && decide (p0.toNat < p1)) <|
  (p3[p0.toNat]?).bind fun x19 =>
  bif (decide (x19 > 0)) then
   chk (decide (0 ≤ p0) && decide (p0.toNat < p1)) <|
   (p3[p0.toNat]?).bind fun x23 =>
   (getI p2 p0).bind fun x25 =>
   chk (decide (0 ≤ p0) && decide (p0.toNat < p1)) <|
   (p3[p0.toNat]?).bind fun _ =>
   k3 (p3.set p0.toNat (w64 (x23 + x25.Loss)))
  else
   k3 (p3)
set_option maxRecDepth 100000 in
set_option maxHeartbeats 4000000 in
theorem Qft (N : Nat) (p0 : Int) (p1 : Nat) (p2 : (List GNode)) (p3 : (List Int)) (r : (List Int)) (h : Qep N p0 p1 p2 p3 = some r) : Spec Try.prog 98 [(I (p0)), (.ref 0 1 (0) 0), (.ref 1 1 (0) 0)] [(.own 1 [[(.own 2 1 (0) (p1))]]), (.own 1 [[(.dat 4 ((p2 : List GNode).map Qaa))]]), (.own 1 ((p3 : List Int).map Qac))] (.tup []) [(.own 1 [[(.own 2 1 (0) (p1))]]), (.own 1 [[(.dat 4 ((p2 : List GNode).map Qaa))]]), (.own 1 ((r : List Int).map Qac))] := by
  refine Qaq Try.func98 rfl 3 (nle rfl) (fun X φ0 w0 hφ0 => ?_)
  unfold Qep at h
  refine Qc1 ?_
  obtain ⟨k3, hk_k3, h⟩ := jko h
  refine wjn (τ := (List Int)) (fun t => k3 t = some r) (fun y2 => ⟨mk 38 [(0, I p0), (1, .ref 0 1 0 0), (2, .ref 1 1 0 0)], [(.own 1 [[(.own 2 1 (0) (p1))]]), (.own 1 [[(.dat 4 ((p2 : List GNode).map Qaa))]]), (.own 1 ((y2 : List Int).map Qac))]⟩) (fun y2 h => ?_) ?_
  ·subst hk_k3
   obtain ⟨x4, hg5, h⟩ := bno h
   obtain ⟨hi6, hj7⟩ := gsm hg5
   refine wrg [rb [(.tmp 2, .ref 1 1 0 0)] [(1, (.own 1 [[(.dat 4 ((p2 : List GNode).map Qaa))]]))] (.dat 4 ((p2 : List GNode).map Qaa)), mv 0 (I p0), rp [(.tmp 21, (.dat 4 ((p2 : List GNode).map Qaa))), (.tmp 22, I p0)] (.dptr (Qaa (x4)) 0), mv 23 (.dptr (Qaa (x4)) 0), rp [(.tmp 24, (.dptr (Qaa (x4)) 0))] (I x4.Parent), mv 25 (I x4.Parent)] ?_ ?_
   ·exact ⟨ald rfl ti31 (by decide) rfl (nle rfl) rfl, amv rfl, aid rfl Try.underlying31 Qgu rfl rfl hi6 (mgt Qaa hj7) rfl, afd rfl Try.underlying141 rfl rfl ti3 (by decide) rfl, ald_ rfl ti3 (by decide) (nle rfl) rfl, aas rfl, trivial⟩
   refine wrg [mv 4 (I x4.Parent), rp [(.tmp 26, I x4.Parent), ci 0] (B ((decide (x4.Parent ≥ 0))))] ?_ ?_
   ·exact ⟨amv rfl, abn rfl rfl, trivial⟩
   rcases bft ((decide (x4.Parent ≥ 0))) with hc8 | hc8
   ·replace h := Qav hc8 h
    refine wft hc8 (by kernel_rfl) ?_
    obtain ⟨hi9, h⟩ := cko h
    obtain ⟨hi9a, hi9b⟩ := Qba hi9
    obtain ⟨x10, hg11, h⟩ := bno h
    obtain ⟨hi12, h⟩ := cko h
    obtain ⟨hi12a, hi12b⟩ := Qba hi12
    obtain ⟨x13, hg14, h⟩ := bno h
    obtain ⟨hi15, h⟩ := cko h
    obtain ⟨hi15a, hi15b⟩ := Qba hi15
    obtain ⟨x16, hg17, h⟩ := bno h
    refine Qde [rb [(.tmp 1, .ref 0 1 0 0)] [(0, (.own 1 [[(.own 2 1 (0) (p1))]]))] (.own 2 1 (0) (p1)), mv 4 (I x4.Parent), rb [(.tmp 28, (.own 2 1 (0) (p1))), (.tmp 29, I x4.Parent)] [(2, (.own 1 ((y2 : List Int).map Qac)))] (.ref 2 1 (x4.Parent.toNat) 0), rb [(.tmp 30, (.ref 2 1 (x4.Parent.toNat) 0))] [(2, (.own 1 ((y2 : List Int).map Qac)))] (I x10), rb [(.tmp 1, .ref 0 1 0 0)] [(0, (.own 1 [[(.own 2 1 (0) (p1))]]))] (.own 2 1 (0) (p1)), mv 0 (I p0), rb [(.tmp 32, (.own 2 1 (0) (p1))), (.tmp 33, I p0)] [(2, (.own 1 ((y2 : List Int).map Qac)))] (.ref 2 1 (p0.toNat) 0), rb [(.tmp 34, (.ref 2 1 (p0.toNat) 0))] [(2, (.own 1 ((y2 : List Int).map Qac)))] (I x13), rp [(.tmp 31, I x10), (.tmp 35, I x13)] (I (w64 (x10 + x13))), rb [(.tmp 28, (.own 2 1 (0) (p1))), (.tmp 29, I x4.Parent)] [(2, (.own 1 ((y2 : List Int).map Qac)))] (.ref 2 1 (x4.Parent.toNat) 0), ⟨[(.tmp 37, (.ref 2 1 (x4.Parent.toNat) 0)), (.tmp 36, (I (w64 (x10 + x13))))], [(2, (.own 1 ((y2 : List Int).map Qac)))], .any, [(2, (.own 1 ((y2.set x4.Parent.toNat (w64 (x10 + x13)) : List Int).map Qac)))], false⟩] ?_ ?_
    ·exact ⟨ald rfl ti23 (by decide) rfl (nle rfl) rfl, amv rfl, aio rfl Try.underlying23 ti3 (odt hi9a) (odt hi9b) (Nat.zero_add _), ald rfl ti3 (by decide) (mgt Qac hg11) (nle rfl) rfl, ald rfl ti23 (by decide) rfl (nle rfl) rfl, amv rfl, aio rfl Try.underlying23 ti3 (odt hi12a) (odt hi12b) (Nat.zero_add _), ald rfl ti3 (by decide) (mgt Qac hg14) (nle rfl) rfl, abn rfl rfl, aio rfl Try.underlying23 ti3 (odt hi15a) (odt hi15b) (Nat.zero_add _), ast rfl ti3 (by rfl) (mgt Qac hg17) (nle rfl) (Qei Qac rfl), trivial⟩
    obtain rfl := osi h
    exact ⟨_, (mto (n := 38) (l' := []) (own' := [(.own 1 [[(.own 2 1 (0) (p1))]]), (.own 1 [[(.dat 4 ((p2 : List GNode).map Qaa))]]), (.own 1 (((y2.set x4.Parent.toNat (w64 (x10 + x13))) : List Int).map Qac))]) [] [0, 1, 2] [(.own 1 [[(.own 2 1 (0) (p1))]]), (.own 1 [[(.dat 4 ((p2 : List GNode).map Qaa))]]), (.own 1 ((y2.set x4.Parent.toNat (w64 (x10 + x13)) : List Int).map Qac))] hφ0 pn (qc (spb (lc (.rn (Qaj rfl)) ln)) (qc (spb (lc (.rn (.plain _ (nld Qag _))) ln)) (qc (spr Qaf) qn)))), Qc0 (vs := []) trivial rfl (NLt.tup _ nl0) (by kernel_rfl) (Qay (Qb2 (nlc (NLt.own _ _ _ _ (by decide)) nl0)) (Qay (Qb2 (nlc (NLt.of0 (nld Qag _)) nl0)) (Qay (Qd0 Qaf _) Qbx)))⟩
   ·replace h := Qaw hc8 h
    refine wfn hc8 (by kernel_rfl) ?_
    refine Qam ?_
    obtain rfl := osi h
    exact ⟨_, (mto (n := 38) (l' := []) (own' := [(.own 1 [[(.own 2 1 (0) (p1))]]), (.own 1 [[(.dat 4 ((p2 : List GNode).map Qaa))]]), (.own 1 ((y2 : List Int).map Qac))]) [] [0, 1, 2] [(.own 1 [[(.own 2 1 (0) (p1))]]), (.own 1 [[(.dat 4 ((p2 : List GNode).map Qaa))]]), (.own 1 ((y2 : List Int).map Qac))] hφ0 pn (qc (spb (lc (.rn (Qaj rfl)) ln)) (qc (spb (lc (.rn (.plain _ (nld Qag _))) ln)) (qc (spr Qaf) qn)))), Qc0 (vs := []) trivial rfl (NLt.tup _ nl0) (by kernel_rfl) (Qay (Qb2 (nlc (NLt.own _ _ _ _ (by decide)) nl0)) (Qay (Qb2 (nlc (NLt.of0 (nld Qag _)) nl0)) (Qay (Qd0 Qaf _) Qbx)))⟩
  ·skip
   obtain ⟨hi18, h⟩ := cko h
   obtain ⟨hi18a, hi18b⟩ := Qba hi18
   obtain ⟨x19, hg20, h⟩ := bno h
   refine wrg [rb [(.tmp 1, .ref 0 1 0 0)] [(0, (.own 1 [[(.own 2 1 (0) (p1))]]))] (.own 2 1 (0) (p1)), mv 0 (I p0), rb [(.tmp 5, (.own 2 1 (0) (p1))), (.tmp 6, I p0)] [(2, (.own 1 ((p3 : List Int).map Qac)))] (.ref 2 1 (p0.toNat) 0), rb [(.tmp 7, (.ref 2 1 (p0.toNat) 0))] [(2, (.own 1 ((p3 : List Int).map Qac)))] (I x19), rp [(.tmp 8, I x19), ci 0] (B ((decide (x19 > 0))))] ?_ ?_
   ·exact ⟨ald rfl ti23 (by decide) rfl (nle rfl) rfl, amv rfl, aio rfl Try.underlying23 ti3 (odt hi18a) (odt hi18b) (Nat.zero_add _), ald rfl ti3 (by decide) (mgt Qac hg20) (nle rfl) rfl, abn rfl rfl, trivial⟩
   rcases bft ((decide (x19 > 0))) with hc21 | hc21
   ·replace h := Qav hc21 h
    refine wft hc21 (by kernel_rfl) ?_
    obtain ⟨hi22, h⟩ := cko h
    obtain ⟨hi22a, hi22b⟩ := Qba hi22
    obtain ⟨x23, hg24, h⟩ := bno h
    obtain ⟨x25, hg26, h⟩ := bno h
    obtain ⟨hi27, hj28⟩ := gsm hg26
    obtain ⟨hi29, h⟩ := cko h
    obtain ⟨hi29a, hi29b⟩ := Qba hi29
    obtain ⟨x30, hg31, h⟩ := bno h
    refine Qde [rb [(.tmp 1, .ref 0 1 0 0)] [(0, (.own 1 [[(.own 2 1 (0) (p1))]]))] (.own 2 1 (0) (p1)), mv 0 (I p0), rb [(.tmp 10, (.own 2 1 (0) (p1))), (.tmp 11, I p0)] [(2, (.own 1 ((p3 : List Int).map Qac)))] (.ref 2 1 (p0.toNat) 0), rb [(.tmp 12, (.ref 2 1 (p0.toNat) 0))] [(2, (.own 1 ((p3 : List Int).map Qac)))] (I x23), rb [(.tmp 2, .ref 1 1 0 0)] [(1, (.own 1 [[(.dat 4 ((p2 : List GNode).map Qaa))]]))] (.dat 4 ((p2 : List GNode).map Qaa)), mv 0 (I p0), rp [(.tmp 14, (.dat 4 ((p2 : List GNode).map Qaa))), (.tmp 15, I p0)] (.dptr (Qaa (x25)) 0), rp [(.tmp 16, (.dptr (Qaa (x25)) 0))] (.dptr (Qaa (x25)) 1), rp [(.tmp 17, (.dptr (Qaa (x25)) 1))] (I x25.Loss), rp [(.tmp 13, I x23), (.tmp 18, I x25.Loss)] (I (w64 (x23 + x25.Loss))), rb [(.tmp 10, (.own 2 1 (0) (p1))), (.tmp 11, I p0)] [(2, (.own 1 ((p3 : List Int).map Qac)))] (.ref 2 1 (p0.toNat) 0), ⟨[(.tmp 20, (.ref 2 1 (p0.toNat) 0)), (.tmp 19, (I (w64 (x23 + x25.Loss))))], [(2, (.own 1 ((p3 : List Int).map Qac)))], .any, [(2, (.own 1 ((p3.set p0.toNat (w64 (x23 + x25.Loss)) : List Int).map Qac)))], false⟩] ?_ ?_
    ·exact ⟨ald rfl ti23 (by decide) rfl (nle rfl) rfl, amv rfl, aio rfl Try.underlying23 ti3 (odt hi22a) (odt hi22b) (Nat.zero_add _), ald rfl ti3 (by decide) (mgt Qac hg24) (nle rfl) rfl, ald rfl ti31 (by decide) rfl (nle rfl) rfl, amv rfl, aid rfl Try.underlying31 Qgu rfl rfl hi27 (mgt Qaa hj28) rfl, afd rfl Try.underlying141 rfl rfl ti3 (by decide) rfl, ald_ rfl ti3 (by decide) (nle rfl) rfl, abn rfl rfl, aio rfl Try.underlying23 ti3 (odt hi29a) (odt hi29b) (Nat.zero_add _), ast rfl ti3 (by rfl) (mgt Qac hg31) (nle rfl) (Qei Qac rfl), trivial⟩
    refine thn ?_
    exact ⟨(p3.set p0.toNat (w64 (x23 + x25.Loss))), h, (mto (n := 38) [(0, I p0), (1, .ref 0 1 0 0), (2, .ref 1 1 0 0)] [0, 1, 2] [(.own 1 [[(.own 2 1 (0) (p1))]]), (.own 1 [[(.dat 4 ((p2 : List GNode).map Qaa))]]), (.own 1 ((p3.set p0.toNat (w64 (x23 + x25.Loss)) : List Int).map Qac))] hφ0 (pc rwl (pc (.rn (rqr rfl)) (pc (.rn (rqr rfl)) pn))) (qc (spb (lc (.rn (Qaj rfl)) ln)) (qc (spb (lc (.rn (.plain _ (nld Qag _))) ln)) (qc (spr Qaf) qn))))⟩
   ·replace h := Qaw hc21 h
    refine wfn hc21 (by kernel_rfl) ?_
    refine Qam ?_
    refine thn ?_
    exact ⟨(p3), h, (mto (n := 38) [(0, I p0), (1, .ref 0 1 0 0), (2, .ref 1 1 0 0)] [0, 1, 2] [(.own 1 [[(.own 2 1 (0) (p1))]]), (.own 1 [[(.dat 4 ((p2 : List GNode).map Qaa))]]), (.own 1 ((p3 : List Int).map Qac))] hφ0 (pc rwl (pc (.rn (rqr rfl)) (pc (.rn (rqr rfl)) pn))) (qc (spb (lc (.rn (Qaj rfl)) ln)) (qc (spb (lc (.rn (.plain _ (nld Qag _))) ln)) (qc (spr Qaf) qn))))⟩

def Qdj (N : Nat) (p0 : (List GNode)) (p1 : (List Int)) (k6 : (List Int) → Option (List Int)) : (List (Int × GNode)) → (List Int) → Option (List Int)
  | [], y12 =>
    k6 (y12)
  | x15 :: q16, y12 =>
    (Qep N x15.1 p1.length p0 y12).bind fun x25 =>
    Qdj N p0 p1 k6 q16 x25
def Qgf (N : Nat) (p0 : (List GNode)) (p1 : (List Int)) : Option (List Int) :=
  (Qd8 N p1).bind fun _ =>
  Qca (fun y5 =>
    chk (decide (p1.length ≤ y5.length)) <|
    some (y5.take p1.length)) fun k6 : (List Int) → Option (List Int) =>
  (Qa8 N p0).bind fun _ =>
  (Qa7 N p0).bind fun q10 =>
  Qdj N p0 p1 k6 q10 p1
set_option maxRecDepth 100000 in
set_option maxHeartbeats 4000000 in
theorem Qh2 (N : Nat) (p0 : (List GNode)) (p1 : (List Int)) (r : (List Int)) (h : Qgf N p0 p1 = some r) : Spec Try.prog 71 [(.dat 4 (p0.map Qaa)), (.dat 1 (p1.map Qac))] [] (.dat 1 ((r : List Int).map Qac)) [] := by
  refine Qaq Try.func71 rfl 0 (nle rfl) (fun X φ0 w0 hφ0 => ?_)
  unfold Qgf at h
  refine Qc1 ?_
  refine wrg [⟨[(.tmp 0, (.dat 4 ((p0 : List GNode).map Qaa)))], [(0, .unused)], .ref 0 1 0 0, [(0, (.own 1 [[(.dat 4 ((p0 : List GNode).map Qaa))]]))], false⟩, mc (.slice none 0 0)] ?_ ?_
  ·exact ⟨Qbu rfl (by rfl) rfl rfl, aas rfl, trivial⟩
  obtain ⟨x4, hf3, h⟩ := bno h
  refine wrg [mv 1 (.dat 1 ((p1 : List Int).map Qac)), ⟨[fu 97, (.tmp 8, (.dat 1 ((p1 : List Int).map Qac)))], [(1, .unused)], (.own 1 1 (0) (p1.length)), [(1, (.own 1 ((p1 : List Int).map Qac)))], false⟩, ⟨[], [(2, .unused)], .ref 2 1 0 0, [(2, .own 1 [[nilS]])], false⟩, ⟨[(.tmp 5, .ref 2 1 0 0), (.tmp 9, (.own 1 1 (0) (p1.length)))], [(2, .own 1 [[nilS]])], .any, [(2, (.own 1 [[(.own 1 1 (0) (p1.length))]]))], false⟩] ?_ ?_
  ·exact ⟨amv rfl, Qa4 (first := []) (cap := []) (vs := [(.dat 1 ((p1 : List Int).map Qac))]) (σr := []) (σr' := [(.own 1 ((p1 : List Int).map Qac))]) (res' := (.own 1 1 (0) (p1.length))) [1] rfl enter97 (Qff N p1 _ hf3) rfl (Qc3 (rnc (.plain _ (nld Qaf _)) rn0)) Qa0 (slc (Qby Qaf) Qa0) (Qgw rfl) rfl rfl rfl, Qaz rfl tz23 rfl, ast rfl ti23 (by rfl) rfl (nle rfl) rfl, trivial⟩
  refine wrg [rp [(.tmp 5, .ref 2 1 0 0), (.tmp 2, .ref 0 1 0 0)] (.fn (.func 98) [] [.ref 2 1 0 0, .ref 0 1 0 0]), ⟨[], [(3, .unused)], .ref 3 1 0 0, [(3, (.own 1 [[(.lit .nilFunc)]]))], false⟩, ⟨[(.tmp 6, .ref 3 1 0 0), (.tmp 10, (.fn (.func 98) [] [.ref 2 1 0 0, .ref 0 1 0 0]))], [(3, (.own 1 [[(.lit .nilFunc)]]))], .any, [(3, (.own 1 [[(.fn (.func 98) [] [.ref 2 1 0 0, .ref 0 1 0 0])]]))], false⟩] ?_ ?_
  ·exact ⟨Qfq (fs := []) (cs := [.ref 2 1 0 0, .ref 0 1 0 0]) rfl rfl rfl rfl, Qaz rfl tz175 rfl, ast rfl ti175 (by rfl) rfl (nle rfl) rfl, trivial⟩
  obtain ⟨k6, hk_k6, h⟩ := jko h
  refine wjn (τ := (List Int)) (fun t => k6 t = some r) (fun y5 => ⟨mk 19 [(5, .ref 0 1 0 0)], [(.own 1 [[(.own 1 1 (0) (p1.length))]]), (.own 1 ((y5 : List Int).map Qac))]⟩) (fun y5 h => ?_) ?_
  ·subst hk_k6
   refine wrg [rb [(.tmp 5, .ref 0 1 0 0)] [(0, (.own 1 [[(.own 1 1 (0) (p1.length))]]))] (.own 1 1 (0) (p1.length)), mv 18 (.own 1 1 (0) (p1.length))] ?_ ?_
   ·exact ⟨ald rfl ti23 (by decide) rfl (nle rfl) rfl, aas rfl, trivial⟩
   obtain ⟨hz7, h⟩ := cko h
   refine wmr (mor_fz (n := 19) (l' := [(4, (.dat 1 ((y5.take p1.length : List Int).map Qac)))]) 1 [(4, (.own 1 1 (0) (p1.length)))] (by kernel_rfl) (by kernel_rfl) (by kernel_rfl) ⟨rfl, (Qig hz7), trivial⟩ rfl) ?_
   refine wmr (mto (n := 19) (l' := [(4, (.dat 1 ((y5.take p1.length : List Int).map Qac)))]) (own' := []) [(4, (.dat 1 ((y5.take p1.length : List Int).map Qac)))] [] [] hφ0 (pc (.rn (.plain _ (nld Qaf _))) pn) qn) ?_
   refine Qak ?_
   obtain rfl := osi h
   exact ⟨_, Mor.rfl, Qc0 (vs := [(.dat 1 ((y5.take p1.length : List Int).map Qac))]) ⟨rot (by kernel_rfl), trivial⟩ rfl (nld Qaf _) (by kernel_rfl) Qbx⟩
  ·skip
   obtain ⟨x9, hf8, h⟩ := bno h
   refine wrg [rb [(.tmp 2, .ref 0 1 0 0)] [(0, (.own 1 [[(.dat 4 ((p0 : List GNode).map Qaa))]]))] (.dat 4 ((p0 : List GNode).map Qaa)), ⟨[fu 86, (.tmp 11, (.dat 4 ((p0 : List GNode).map Qaa)))], [(4, .unused)], (.fn (.func 105) [] [.ref 4 1 0 0]), [(4, (.own 1 [[(.dat 4 ((p0 : List GNode).map Qaa))]]))], false⟩] ?_ ?_
   ·exact ⟨ald rfl ti31 (by decide) rfl (nle rfl) rfl, Qa4 (first := []) (cap := []) (vs := [(.dat 4 ((p0 : List GNode).map Qaa))]) (σr := []) (σr' := [(.own 1 [[(.dat 4 ((p0 : List GNode).map Qaa))]])]) (res' := (.fn (.func 105) [] [.ref 4 1 0 0])) [4] rfl enter86 (Qcs N p0 _ hf8) rfl (Qc3 (rnc (.plain _ (nld Qag _)) rn0)) Qa0 (slc (Qat (rnc (.plain _ (nld Qag _)) rn0)) Qa0) (Qa2 rn0 (rnc (Qfw rfl) rn0)) rfl rfl rfl, trivial⟩
   refine Qan ?_
   obtain ⟨q10, hL11, h⟩ := bno h
   refine wmr (mto (n := 19) (l' := [(5, .ref 0 1 0 0), (6, .ref 1 1 0 0), (12, (.fn (.func 105) [] [.ref 2 1 0 0]))]) (own' := [(.own 1 [[(.own 3 1 (0) (p1.length))]]), (.own 1 [[(.fn (.func 98) [] [.ref 0 1 0 0, .ref 4 1 0 0])]]), (.own 1 [[(.dat 4 ((p0 : List GNode).map Qaa))]]), (.own 1 ((p1 : List Int).map Qac)), (.own 1 [[(.dat 4 ((p0 : List GNode).map Qaa))]])]) [(5, .ref 2 1 0 0), (6, .ref 3 1 0 0), (12, (.fn (.func 105) [] [.ref 4 1 0 0]))] [2, 3, 4, 1, 0] [(.own 1 [[(.own 1 1 (0) (p1.length))]]), (.own 1 [[(.fn (.func 98) [] [.ref 2 1 0 0, .ref 0 1 0 0])]]), (.own 1 [[(.dat 4 ((p0 : List GNode).map Qaa))]]), (.own 1 ((p1 : List Int).map Qac)), (.own 1 [[(.dat 4 ((p0 : List GNode).map Qaa))]])] hφ0 (pc (.rn (rqr rfl)) (pc (.rn (rqr rfl)) (pc (.rn (Qa2 rn0 (rnc (rqr rfl) rn0))) pn))) (qc (spb (lc (.rn (Qaj rfl)) ln)) (qc (spb (lc (.rn (Qa2 rn0 (rnc (rqr rfl) (rnc (rqr rfl) rn0)))) ln)) (qc (spb (lc (.rn (.plain _ (nld Qag _))) ln)) (qc (spr Qaf) (qc (spb (lc (.rn (.plain _ (nld Qag _))) ln)) qn)))))) ?_
   refine Qg5 (τ := ((List Int))) (kb := 5) (caps := [.ref 2 1 0 0]) (σr := [(.own 1 [[(.dat 4 ((p0 : List GNode).map Qaa))]])]) (encs := fun x => [(.int .i64 (x.1)), (.agg #[(.int .i64 (x.2.Parent)), (.int .i64 (x.2.Loss)), (.int .i64 (x.2.Limit)), (.int .i64 (x.2.Rank))])]) (fun x => [I x.1, (.agg [I x.2.Parent, I x.2.Loss, I x.2.Limit, I x.2.Rank])]) [2] (fun n hn => hφ0 n (Nat.le_trans (nle rfl) hn)) (Qcr N p0 _ hL11) enter105 (by kernel_rfl) (by kernel_rfl) (Qc3 (rnc (Qfw rfl) rn0)) (slc (Qat (rnc (.plain _ (nld Qag _)) rn0)) Qa0) (by kernel_rfl) (fun _ => rfl) (fun x => ⟨lrf, (Less.unlits [(.int .i64 (x.2.Parent)), (.int .i64 (x.2.Loss)), (.int .i64 (x.2.Limit)), (.int .i64 (x.2.Rank))]), trivial⟩) (nlt_mk (Qd9 (NLt.ref _ _ _ _ (by decide)) (Qd9 (NLt.ref _ _ _ _ (by decide)) (Qd9 (NLt.fn _ _ _ nl0 (nlc (NLt.ref _ _ _ _ (by decide)) nl0)) nlp_nil)))) (fun y12 => [(.own 1 [[(.own 3 1 (0) (p1.length))]]), (.own 1 [[(.fn (.func 98) [] [.ref 0 1 0 0, .ref 4 1 0 0])]]), .dead, (.own 1 ((y12 : List Int).map Qac)), (.own 1 [[(.dat 4 ((p0 : List GNode).map Qaa))]])]) (fun _ => rfl) (fun _ => rfl) (fun l t => Qdj N p0 p1 k6 l t = some r) (p1) h (by kernel_rfl) ?_ ?_
   ·intro l17 o18 X21 φ22 w23 hφ20 x15 q16 y12 h
    rw [Qdj] at h
    refine Qar [mv 13 (I x15.1)] ?_ ?_
    ·exact ⟨aas rfl, trivial⟩
    refine ⟨by kernel_rfl, fun o19 => ?_⟩
    refine Qan ?_
    obtain ⟨x25, hf24, h⟩ := bno h
    refine Qar [rb [(.tmp 6, .ref 1 1 0 0)] [(1, (.own 1 [[(.fn (.func 98) [] [.ref 0 1 0 0, .ref 4 1 0 0])]]))] (.fn (.func 98) [] [.ref 0 1 0 0, .ref 4 1 0 0]), mv 7 (I x15.1), ⟨[(.tmp 15, (.fn (.func 98) [] [.ref 0 1 0 0, .ref 4 1 0 0])), (.tmp 16, I x15.1)], [(0, (.own 1 [[(.own 3 1 (0) (p1.length))]])), (4, (.own 1 [[(.dat 4 ((p0 : List GNode).map Qaa))]])), (3, (.own 1 ((y12 : List Int).map Qac)))], (.tup []), [(0, (.own 1 [[(.own 3 1 (0) (p1.length))]])), (4, (.own 1 [[(.dat 4 ((p0 : List GNode).map Qaa))]])), (3, (.own 1 ((x25 : List Int).map Qac)))], false⟩] ?_ ?_
    ·exact ⟨ald rfl ti175 (by decide) rfl (nle rfl) rfl, amv rfl, Qa4 (first := []) (cap := [.ref 0 1 0 0, .ref 4 1 0 0]) (vs := [I x15.1]) (σr := [(.own 1 [[(.own 3 1 (0) (p1.length))]]), (.own 1 [[(.dat 4 ((p0 : List GNode).map Qaa))]]), (.own 1 ((y12 : List Int).map Qac))]) (σr' := [(.own 1 [[(.own 3 1 (0) (p1.length))]]), (.own 1 [[(.dat 4 ((p0 : List GNode).map Qaa))]]), (.own 1 ((x25 : List Int).map Qac))]) (res' := (.tup [])) [0, 4, 3] rfl enter98 (Qft N x15.1 p1.length p0 y12 _ hf24) rfl (Qc3 (rnc (.plain _ nll) (rnc (Qbz rfl) (rnc (Qbz rfl) rn0)))) (slc (Qat (rnc (Qen rfl) rn0)) (slc (Qat (rnc (.plain _ (nld Qag _)) rn0)) (slc (Qby Qaf) Qa0))) (slc (Qat (rnc (Qgw rfl) rn0)) (slc (Qat (rnc (.plain _ (nld Qag _)) rn0)) (slc (Qby Qaf) Qa0))) (.plain _ (NLt.tup _ nl0)) rfl rfl rfl, trivial⟩
    refine bln ?_
    exact ⟨(x25), h, ren_to (own' := [(.own 1 [[(.own 3 1 (0) (p1.length))]]), (.own 1 [[(.fn (.func 98) [] [.ref 0 1 0 0, .ref 4 1 0 0])]]), .dead, (.own 1 ((x25 : List Int).map Qac)), (.own 1 [[(.dat 4 ((p0 : List GNode).map Qaa))]]), (.far (farL l17 o19))]) [0, 1, 2, 3, 4, 5] [(.own 1 [[(.own 3 1 (0) (p1.length))]]), (.own 1 [[(.fn (.func 98) [] [.ref 0 1 0 0, .ref 4 1 0 0])]]), .dead, (.own 1 ((x25 : List Int).map Qac)), (.own 1 [[(.dat 4 ((p0 : List GNode).map Qaa))]]), (.far (farL l17 o19))] (by kernel_rfl) (by kernel_rfl) ⟨(spb (lc (.rn (Qaj rfl)) ln)), (spb (lc (.rn (Qa2 rn0 (rnc (rqr rfl) (rnc (rqr rfl) rn0)))) ln)), .dead, (spr Qaf), (spb (lc (.rn (.plain _ (nld Qag _))) ln)), .far _, trivial⟩⟩
   ·intro y12 h
    rw [Qdj] at h
    refine bln ?_
    refine thn ?_
    exact ⟨(y12), h, (mto (n := 19) [(5, .ref 0 1 0 0)] [0, 3] [(.own 1 [[(.own 3 1 (0) (p1.length))]]), (.own 1 ((y12 : List Int).map Qac))] hφ0 (pc (.rn (rqr rfl)) pn) (qc (spb (lc (.rn (Qaj rfl)) ln)) (qc (spr Qaf) qn)))⟩

def Qdb (N : Nat) (p0 : (List GNode)) (k1 : Unit → Option Int) (p1 : (List Int)) : Nat → Int → Option Int
  | 0, _ => none
  | n4 + 1, y2 =>
    bif (decide (y2 < (p1.length : Int))) then
     (getI p1 y2).bind fun x6 =>
     bif (decide (y2 > 0)) then
      (getI p0 y2).bind fun x11 =>
      bif (decide (x6 > x11.Limit)) then
       some y2
      else
       Qdb N p0 k1 p1 n4 (w64 (y2 + 1))
     else
      Qdb N p0 k1 p1 n4 (w64 (y2 + 1))
    else
     k1 ()
def Qfs (N : Nat) (p0 : (List GNode)) (p1 : (List Int)) : Option Int :=
  Qca (fun _ =>
    some (-1)) fun k1 : Unit → Option Int =>
  Qdb N p0 k1 p1 N 0
set_option maxRecDepth 100000 in
set_option maxHeartbeats 4000000 in
theorem Qfr (N : Nat) (p0 : (List GNode)) (p1 : (List Int)) (r : Int) (h : Qfs N p0 p1 = some r) : Spec Try.prog 72 [(.dat 4 (p0.map Qaa)), (.dat 1 (p1.map Qac))] [] (I r) [] := by
  refine Qaq Try.func72 rfl 0 (nle rfl) (fun X φ0 w0 hφ0 => ?_)
  unfold Qfs at h
  refine wrg [mc (.int .i64 0)] ?_ ?_
  ·exact ⟨aas rfl, trivial⟩
  obtain ⟨k1, hk_k1, h⟩ := jko h
  refine wjn (τ := Unit) (fun t => k1 t = some r) (fun _ => ⟨mk 27 [], []⟩) (fun t h => ?_) ?_
  ·subst hk_k1
   refine wrg [mc (.int .i64 (-1))] ?_ ?_
   ·exact ⟨aas rfl, trivial⟩
   refine Qak ?_
   obtain rfl := osi h
   exact ⟨⟨[(I ((-1)))], ⟨rot (by kernel_rfl), trivial⟩, rfl⟩, nll, Nat.le_refl _, fun n hn => absurd hn (Nat.not_lt_zero n)⟩
  ·skip
   refine wrg [mv 1 (.dat 1 ((p1 : List Int).map Qac)), rp [(.tmp 7, (.dat 1 ((p1 : List Int).map Qac)))] (I ((p1.length : Int))), mc (.int .i64 0)] ?_ ?_
   ·exact ⟨amv rfl, alm (c := Qac) (l := p1) (aln rfl Try.underlying23 rfl), amv rfl, trivial⟩
   refine Qan ?_
   refine wmr (mto (n := 27) (l' := [(0, (.dat 4 ((p0 : List GNode).map Qaa))), (7, (.dat 1 ((p1 : List Int).map Qac))), (8, (I ((p1.length : Int)))), (9, I 0)]) (own' := []) [(0, (.dat 4 ((p0 : List GNode).map Qaa))), (7, (.dat 1 ((p1 : List Int).map Qac))), (8, (I ((p1.length : Int)))), (9, I 0)] [] [] hφ0 (pc (.rn (.plain _ (nld Qag _))) (pc (.rn (.plain _ (nld Qaf _))) (pc rwl (pc rwl pn)))) qn) ?_
   refine Qcc (τ := Int) (fun n t => Qdb N p0 k1 p1 n t = some r) (fun y2 => ⟨mk 27 [(0, (.dat 4 ((p0 : List GNode).map Qaa))), (7, (.dat 1 ((p1 : List Int).map Qac))), (8, (I ((p1.length : Int)))), (9, I y2)], []⟩) (fun t h => by rw [Qdb] at h; cases h) (fun n4 ih y2 h => ?_) N (0) h
   rw [Qdb] at h
   skip
   refine wrg [rp [(.tmp 9, I y2), (.tmp 8, (I ((p1.length : Int))))] (B ((decide (y2 < (p1.length : Int)))))] ?_ ?_
   ·exact ⟨abn rfl rfl, trivial⟩
   refine wsq ?_
   rcases bft ((decide (y2 < (p1.length : Int)))) with hc5 | hc5
   ·replace h := Qav hc5 h
    refine wft hc5 (by kernel_rfl) ?_
    refine Qam ?_
    refine thn ?_
    refine wsq ?_
    refine Qan ?_
    obtain ⟨x6, hg7, h⟩ := bno h
    obtain ⟨hi8, hj9⟩ := gsm hg7
    refine wrg [mv 9 (I y2), rp [(.tmp 7, (.dat 1 ((p1 : List Int).map Qac))), (.tmp 9, I y2)] (.dptr (Qac (x6)) 0), rp [(.tmp 12, (.dptr (Qac (x6)) 0))] (I x6), mv 11 (I y2), mv 13 (I x6)] ?_ ?_
    ·exact ⟨amv rfl, aid rfl Try.underlying23 ti3 rfl rfl hi8 (mgt Qac hj9) rfl, ald_ rfl ti3 (by decide) (nle rfl) rfl, aas rfl, aas rfl, trivial⟩
    rcases bft ((decide (y2 > 0))) with hb10 | hb10
    ·replace h := Qav hb10 h
     obtain ⟨x11, hg12, h⟩ := bno h
     obtain ⟨hi13, hj14⟩ := gsm hg12
     refine wrg [mv 5 (I y2), rp [(.tmp 14, I y2), ci 0] (B ((decide (y2 > 0)))), rp [(.tmp 15, (B ((decide (y2 > 0)))))] (B true), rp [(.tmp 16, B true), (.tmp 6, I x6)] (I x6), rp [(.tmp 16, B true), (.tmp 0, (.dat 4 ((p0 : List GNode).map Qaa)))] (.dat 4 ((p0 : List GNode).map Qaa)), rp [(.tmp 16, B true), (.tmp 5, I y2)] (I y2), rp [(.tmp 16, B true), (.tmp 18, (.dat 4 ((p0 : List GNode).map Qaa))), (.tmp 19, I y2)] (.dptr (Qaa (x11)) 0), rp [(.tmp 16, B true), (.tmp 20, (.dptr (Qaa (x11)) 0))] (.dptr (Qaa (x11)) 2), rp [(.tmp 16, B true), (.tmp 21, (.dptr (Qaa (x11)) 2))] (I x11.Limit), rp [(.tmp 16, B true), (.tmp 17, I x6), (.tmp 22, I x11.Limit)] (B ((decide (x6 > x11.Limit)))), rp [(.tmp 16, B true), (.tmp 23, (B ((decide (x6 > x11.Limit))))), cb false] (B ((decide (x6 > x11.Limit))))] ?_ ?_
     ·exact ⟨amv rfl, abn rfl rfl, asb hb10 (amv rfl), ag_ (amv rfl), ag_ (amv rfl), ag_ (amv rfl), ag_ (aid rfl Try.underlying31 Qgu rfl rfl hi13 (mgt Qaa hj14) rfl), ag_ (afd rfl Try.underlying141 rfl rfl ti3 (by decide) rfl), ag_ (ald_ rfl ti3 (by decide) (nle rfl) rfl), ag_ (abn rfl rfl), apk rfl rfl, trivial⟩
     rcases bft ((decide (x6 > x11.Limit))) with hc15 | hc15
     ·replace h := Qav hc15 h
      refine wft hc15 (by kernel_rfl) ?_
      refine wrg [mv 5 (I y2), mv 25 (I y2)] ?_ ?_
      ·exact ⟨amv rfl, aas rfl, trivial⟩
      refine Qak ?_
      refine Qa3 ?_
      refine Qao ?_
      refine Qao ?_
      refine Qa3 ?_
      refine Qao ?_
      obtain rfl := osi h
      exact ⟨⟨[I y2], ⟨rot (by kernel_rfl), trivial⟩, rfl⟩, nll, Nat.le_refl _, fun n hn => absurd hn (Nat.not_lt_zero n)⟩
     ·replace h := Qaw hc15 h
      refine wfn hc15 (by kernel_rfl) ?_
      refine Qam ?_
      refine bln ?_
      refine thn ?_
      refine Qar [rp [(.tmp 9, I y2), ci 1] (I (w64 (y2 + 1))), mv 26 (I (w64 (y2 + 1)))] ?_ ?_
      ·exact ⟨abn rfl rfl, amv rfl, trivial⟩
      refine thn ?_
      exact arm (mto (n := 27) [(0, (.dat 4 ((p0 : List GNode).map Qaa))), (7, (.dat 1 ((p1 : List Int).map Qac))), (8, (I ((p1.length : Int)))), (9, (I (w64 (y2 + 1))))] [] [] hφ0 (pc (.rn (.plain _ (nld Qag _))) (pc (.rn (.plain _ (nld Qaf _))) (pc rwl (pc rwl pn)))) qn) (ih (w64 (y2 + 1)) h)
    ·replace h := Qaw hb10 h
     refine wrg [mv 5 (I y2), rp [(.tmp 14, I y2), ci 0] (B ((decide (y2 > 0)))), rp [(.tmp 15, (B ((decide (y2 > 0)))))] (B false), sk 16 (B false), sk 16 (B false), sk 16 (B false), sk 16 (B false), sk 16 (B false), sk 16 (B false), sk 16 (B false), rp [(.tmp 16, B false), (.tmp 23, (.lit undef)), cb false] (B false)] ?_ ?_
     ·exact ⟨amv rfl, abn rfl rfl, asb hb10 (amv rfl), trivial, trivial, trivial, trivial, trivial, trivial, trivial, apk rfl rfl, trivial⟩
     refine Qey (by kernel_rfl) ?_
     refine Qam ?_
     refine bln ?_
     refine thn ?_
     refine Qar [rp [(.tmp 9, I y2), ci 1] (I (w64 (y2 + 1))), mv 26 (I (w64 (y2 + 1)))] ?_ ?_
     ·exact ⟨abn rfl rfl, amv rfl, trivial⟩
     refine thn ?_
     exact arm (mto (n := 27) [(0, (.dat 4 ((p0 : List GNode).map Qaa))), (7, (.dat 1 ((p1 : List Int).map Qac))), (8, (I ((p1.length : Int)))), (9, (I (w64 (y2 + 1))))] [] [] hφ0 (pc (.rn (.plain _ (nld Qag _))) (pc (.rn (.plain _ (nld Qaf _))) (pc rwl (pc rwl pn)))) qn) (ih (w64 (y2 + 1)) h)
   ·replace h := Qaw hc5 h
    refine wfn hc5 (by kernel_rfl) ?_
    refine Qbf ?_
    refine Qau ?_
    refine Qau ?_
    refine Qbe rfl ?_
    refine thn ?_
    exact ⟨(), h, (mto (n := 27) [] [] [] hφ0 pn qn)⟩

def Qh6 (N : Nat) (p0 : (List GNode)) (p1 : (List Int)) : Option ((List Int) × Int × Int) :=
  (Qhq N p0 p1).bind fun x2 =>
  bif (x2 != 0) then
   some ([], 0, x2)
  else
   (Qgf N p0 p1).bind fun x5 =>
   (Qfs N p0 x5).bind fun x7 =>
   bif (decide (x7 ≥ 0)) then
    some ([], x7, 11)
   else
    some (x5, 0, 0)
set_option maxRecDepth 100000 in
set_option maxHeartbeats 4000000 in
theorem town_FlowsX_ok (N : Nat) (p0 : (List GNode)) (p1 : (List Int)) (r : ((List Int) × Int × Int)) (h : Qh6 N p0 p1 = some r) : Spec Try.prog 36 [(.dat 4 (p0.map Qaa)), (.dat 1 (p1.map Qac))] [] (.tup [(.dat 1 (r.1.map Qac)), (I r.2.1), (I r.2.2)]) [] := by
  refine Qaq Try.func36 rfl 0 (nle rfl) (fun X φ0 w0 hφ0 => ?_)
  unfold Qh6 at h
  refine wrg [mc (.slice none 0 0), mc (.int .i64 0), mc (.int .i64 0)] ?_ ?_
  ·exact ⟨aas rfl, aas rfl, aas rfl, trivial⟩
  refine wsq ?_
  obtain ⟨x2, hf1, h⟩ := bno h
  refine wrg [mv 0 (.dat 4 ((p0 : List GNode).map Qaa)), mv 1 (.dat 1 ((p1 : List Int).map Qac)), rp [fu 67, (.tmp 10, (.dat 4 ((p0 : List GNode).map Qaa))), (.tmp 11, (.dat 1 ((p1 : List Int).map Qac)))] (I x2), mv 12 (I x2)] ?_ ?_
  ·exact ⟨amv rfl, amv rfl, apc (first := []) (cap := []) (vs := [(.dat 4 ((p0 : List GNode).map Qaa)), (.dat 1 ((p1 : List Int).map Qac))]) rfl enter67 (Qim N p0 p1 _ hf1) rfl rfl (nlc (nld Qag _) (nlc (nld Qaf _) nl0)) nll rfl, aas rfl, trivial⟩
  refine wrg [mv 7 (I x2), rp [(.tmp 13, I x2), ci 0] (B ((x2 != 0)))] ?_ ?_
  ·exact ⟨amv rfl, abn rfl rfl, trivial⟩
  rcases bft ((x2 != 0)) with hc3 | hc3
  ·replace h := Qav hc3 h
   refine wft hc3 (by kernel_rfl) ?_
   refine wrg [mv 7 (I x2), mc (.slice none 0 0), mc (.int .i64 0), mv 15 (I x2)] ?_ ?_
   ·exact ⟨amv rfl, aas rfl, aas rfl, aas rfl, trivial⟩
   refine Qak ?_
   refine Qao ?_
   obtain rfl := osi h
   exact ⟨⟨[(.dat 1 (([] : List Int).map Qac)), I 0, I x2], ⟨Qhs (v := nilS) (rot (by kernel_rfl)) Less.nil, rot (by kernel_rfl), rot (by kernel_rfl), trivial⟩, rfl⟩, (NLt.tup _ (nlc (nld Qaf _) (nlc nll (nlc nll nl0)))), Nat.le_refl _, fun n hn => absurd hn (Nat.not_lt_zero n)⟩
  ·replace h := Qaw hc3 h
   refine wfn hc3 (by kernel_rfl) ?_
   refine Qam ?_
   refine thn ?_
   obtain ⟨x5, hf4, h⟩ := bno h
   refine wrg [mv 0 (.dat 4 ((p0 : List GNode).map Qaa)), mv 1 (.dat 1 ((p1 : List Int).map Qac)), rp [fu 71, (.tmp 16, (.dat 4 ((p0 : List GNode).map Qaa))), (.tmp 17, (.dat 1 ((p1 : List Int).map Qac)))] (.dat 1 ((x5 : List Int).map Qac)), mv 18 (.dat 1 ((x5 : List Int).map Qac))] ?_ ?_
   ·exact ⟨amv rfl, amv rfl, apc (first := []) (cap := []) (vs := [(.dat 4 ((p0 : List GNode).map Qaa)), (.dat 1 ((p1 : List Int).map Qac))]) rfl enter71 (Qh2 N p0 p1 _ hf4) rfl rfl (nlc (nld Qag _) (nlc (nld Qaf _) nl0)) (nld Qaf _) rfl, aas rfl, trivial⟩
   refine wsq ?_
   obtain ⟨x7, hf6, h⟩ := bno h
   refine wrg [mv 0 (.dat 4 ((p0 : List GNode).map Qaa)), mv 8 (.dat 1 ((x5 : List Int).map Qac)), rp [fu 72, (.tmp 19, (.dat 4 ((p0 : List GNode).map Qaa))), (.tmp 20, (.dat 1 ((x5 : List Int).map Qac)))] (I x7), mv 21 (I x7)] ?_ ?_
   ·exact ⟨amv rfl, amv rfl, apc (first := []) (cap := []) (vs := [(.dat 4 ((p0 : List GNode).map Qaa)), (.dat 1 ((x5 : List Int).map Qac))]) rfl enter72 (Qfr N p0 x5 _ hf6) rfl rfl (nlc (nld Qag _) (nlc (nld Qaf _) nl0)) nll rfl, aas rfl, trivial⟩
   refine wrg [mv 9 (I x7), rp [(.tmp 22, I x7), ci 0] (B ((decide (x7 ≥ 0))))] ?_ ?_
   ·exact ⟨amv rfl, abn rfl rfl, trivial⟩
   rcases bft ((decide (x7 ≥ 0))) with hc8 | hc8
   ·replace h := Qav hc8 h
    refine wft hc8 (by kernel_rfl) ?_
    refine wrg [mv 9 (I x7), mc (.slice none 0 0), mv 24 (I x7), mc (.int .i64 11)] ?_ ?_
    ·exact ⟨amv rfl, aas rfl, aas rfl, aas rfl, trivial⟩
    refine Qak ?_
    refine Qao ?_
    obtain rfl := osi h
    exact ⟨⟨[(.dat 1 (([] : List Int).map Qac)), I x7, I 11], ⟨Qhs (v := nilS) (rot (by kernel_rfl)) Less.nil, rot (by kernel_rfl), rot (by kernel_rfl), trivial⟩, rfl⟩, (NLt.tup _ (nlc (nld Qaf _) (nlc nll (nlc nll nl0)))), Nat.le_refl _, fun n hn => absurd hn (Nat.not_lt_zero n)⟩
   ·replace h := Qaw hc8 h
    refine wfn hc8 (by kernel_rfl) ?_
    refine Qam ?_
    refine thn ?_
    refine wrg [mv 8 (.dat 1 ((x5 : List Int).map Qac)), mv 25 (.dat 1 ((x5 : List Int).map Qac)), mc (.int .i64 0), mc (.int .i64 0)] ?_ ?_
    ·exact ⟨amv rfl, aas rfl, aas rfl, aas rfl, trivial⟩
    refine Qak ?_
    obtain rfl := osi h
    exact ⟨⟨[(.dat 1 ((x5 : List Int).map Qac)), I 0, I 0], ⟨rot (by kernel_rfl), rot (by kernel_rfl), rot (by kernel_rfl), trivial⟩, rfl⟩, (NLt.tup _ (nlc (nld Qaf _) (nlc nll (nlc nll nl0)))), Nat.le_refl _, fun n hn => absurd hn (Nat.not_lt_zero n)⟩

def Qdr (N : Nat) (p0 : GMeter) : Option Bool :=
  (Qe3 N p0.Reading).bind fun x2 =>
  bif x2 then
   (Qcu N p0.Off 0 500).bind fun x5 =>
   some x5
  else
   some false
set_option maxRecDepth 100000 in
set_option maxHeartbeats 4000000 in
theorem Qd2 (N : Nat) (p0 : GMeter) (r : Bool) (h : Qdr N p0 = some r) : Spec Try.prog 84 [(.agg (Qab p0))] [] (B r) [] := by
  refine Qaq Try.func84 rfl 0 (nle rfl) (fun X φ0 w0 hφ0 => ?_)
  unfold Qdr at h
  refine wrg [⟨[(.tmp 0, (.agg [I p0.Reading, I p0.Off]))], [(0, .unused)], .ref 0 2 0 0, [(0, .own 2 [[I p0.Reading, I p0.Off]])], false⟩, mc (.bool false)] ?_ ?_
  ·exact ⟨Qbu rfl (by rfl) rfl rfl, aas rfl, trivial⟩
  obtain ⟨x2, hf1, h⟩ := bno h
  rcases bft (x2) with hb3 | hb3
  ·replace h := Qav hb3 h
   obtain ⟨x5, hf4, h⟩ := bno h
   refine wrg [rb [(.tmp 1, .ref 0 2 0 0)] [(0, .own 2 [[I p0.Reading, I p0.Off]])] (.ref 0 2 0 0), rb [(.tmp 3, .ref 0 2 0 0)] [(0, .own 2 [[I p0.Reading, I p0.Off]])] (I p0.Reading), rp [fu 94, (.tmp 4, I p0.Reading)] (B x2), rp [(.tmp 5, B x2)] (B true), rb [(.tmp 6, B true), (.tmp 1, .ref 0 2 0 0)] [(0, .own 2 [[I p0.Reading, I p0.Off]])] (.ref 0 2 0 1), rb [(.tmp 6, B true), (.tmp 7, .ref 0 2 0 1)] [(0, .own 2 [[I p0.Reading, I p0.Off]])] (I p0.Off), rp [(.tmp 6, B true), fu 68, (.tmp 8, I p0.Off), ci 0, ci 500] (B x5), rp [(.tmp 6, B true), (.tmp 9, B x5), cb false] (B x5), mv 10 (B x5)] ?_ ?_
   ·exact ⟨afa rfl Try.underlying96 rfl rfl ti3 (by decide) rfl, ald rfl ti3 (by decide) rfl (nle rfl) rfl, apc (first := []) (cap := []) (vs := [I p0.Reading]) rfl Qe0 (Qb1 N p0.Reading _ hf1) rfl rfl (nlc nll nl0) nll rfl, asb hb3 (amv rfl), ag_ (afa rfl Try.underlying96 rfl rfl ti3 (by decide) rfl), ag_ (ald rfl ti3 (by decide) rfl (nle rfl) rfl), ag_ (apc (first := []) (cap := []) (vs := [I p0.Off, I 0, I 500]) rfl Qd1 (Qa5 N p0.Off 0 500 _ hf4) rfl rfl (nlc nll (nlc nll (nlc nll nl0))) nll rfl), apk rfl rfl, aas rfl, trivial⟩
   refine Qak ?_
   obtain rfl := osi h
   exact ⟨⟨[B x5], ⟨rot (by kernel_rfl), trivial⟩, rfl⟩, nll, Nat.le_refl _, fun n hn => absurd hn (Nat.not_lt_zero n)⟩
  ·replace h := Qaw hb3 h
   refine wrg [rb [(.tmp 1, .ref 0 2 0 0)] [(0, .own 2 [[I p0.Reading, I p0.Off]])] (.ref 0 2 0 0), rb [(.tmp 3, .ref 0 2 0 0)] [(0, .own 2 [[I p0.Reading, I p0.Off]])] (I p0.Reading), rp [fu 94, (.tmp 4, I p0.Reading)] (B x2), rp [(.tmp 5, B x2)] (B false), sk 6 (B false), sk 6 (B false), sk 6 (B false), rp [(.tmp 6, B false), (.tmp 9, (.lit undef)), cb false] (B false), mv 10 (B false)] ?_ ?_
   ·exact ⟨afa rfl Try.underlying96 rfl rfl ti3 (by decide) rfl, ald rfl ti3 (by decide) rfl (nle rfl) rfl, apc (first := []) (cap := []) (vs := [I p0.Reading]) rfl Qe0 (Qb1 N p0.Reading _ hf1) rfl rfl (nlc nll nl0) nll rfl, asb hb3 (amv rfl), trivial, trivial, trivial, apk rfl rfl, aas rfl, trivial⟩
   refine Qak ?_
   obtain rfl := osi h
   exact ⟨⟨[B false], ⟨rot (by kernel_rfl), trivial⟩, rfl⟩, nll, Nat.le_refl _, fun n hn => absurd hn (Nat.not_lt_zero n)⟩

def Qcw (_N : Nat) (p0 : GMeter) : Option GRange :=
  (some (w64 ((w64 ((w64 (1000 * p0.Reading)) + (w64 (1000 + p0.Off)))) - 1))).bind fun x1 =>
  chk ((w64 (1000 + p0.Off)) != 0) <|
  chk ((w64 (1000 - p0.Off)) != 0) <|
  some (⟨w64 (x1.tdiv (w64 (1000 + p0.Off))), w64 ((w64 (1000 * p0.Reading)).tdiv (w64 (1000 - p0.Off)))⟩ : GRange)
set_option maxRecDepth 100000 in
set_option maxHeartbeats 4000000 in
theorem Qeg (N : Nat) (p0 : GMeter) (r : GRange) (h : Qcw N p0 = some r) : Spec Try.prog 85 [(.agg (Qab p0))] [] (.agg (Qai r)) [] := by
  refine Qaq Try.func85 rfl 0 (nle rfl) (fun X φ0 w0 hφ0 => ?_)
  unfold Qcw at h
  refine wrg [⟨[(.tmp 0, (.agg [I p0.Reading, I p0.Off]))], [(0, .unused)], .ref 0 2 0 0, [(0, .own 2 [[I p0.Reading, I p0.Off]])], false⟩, ⟨[], [(1, .unused)], .ref 1 2 0 0, [(1, .own 2 [[I 0, I 0]])], false⟩] ?_ ?_
  ·exact ⟨Qbu rfl (by rfl) rfl rfl, Qaz rfl tz93 rfl, trivial⟩
  refine Qct [rb [(.tmp 1, .ref 0 2 0 0)] [(0, .own 2 [[I p0.Reading, I p0.Off]])] (.ref 0 2 0 1), rb [(.tmp 5, .ref 0 2 0 1)] [(0, .own 2 [[I p0.Reading, I p0.Off]])] (I p0.Off), rp [ci 1000, (.tmp 6, I p0.Off)] (I (w64 (1000 + p0.Off))), rb [(.tmp 1, .ref 0 2 0 0)] [(0, .own 2 [[I p0.Reading, I p0.Off]])] (.ref 0 2 0 1), rb [(.tmp 8, .ref 0 2 0 1)] [(0, .own 2 [[I p0.Reading, I p0.Off]])] (I p0.Off), rp [ci 1000, (.tmp 9, I p0.Off)] (I (w64 (1000 - p0.Off))), mv 7 (I (w64 (1000 + p0.Off))), mv 10 (I (w64 (1000 - p0.Off)))] ?_ ?_
  ·exact ⟨afa rfl Try.underlying96 rfl rfl ti3 (by decide) rfl, ald rfl ti3 (by decide) rfl (nle rfl) rfl, abn rfl rfl, afa rfl Try.underlying96 rfl rfl ti3 (by decide) rfl, ald rfl ti3 (by decide) rfl (nle rfl) rfl, abn rfl rfl, aas rfl, aas rfl, trivial⟩
  obtain ⟨x1, hl2, h⟩ := bno h
  obtain ⟨hz3, h⟩ := cko h
  obtain ⟨hz4, h⟩ := cko h
  refine Qct [rb [(.tmp 1, .ref 0 2 0 0)] [(0, .own 2 [[I p0.Reading, I p0.Off]])] (.ref 0 2 0 0), rb [(.tmp 11, .ref 0 2 0 0)] [(0, .own 2 [[I p0.Reading, I p0.Off]])] (I p0.Reading), rp [ci 1000, (.tmp 12, I p0.Reading)] (I (w64 (1000 * p0.Reading))), mv 3 (I (w64 (1000 + p0.Off))), rp [(.tmp 13, (I (w64 (1000 * p0.Reading)))), (.tmp 14, (I (w64 (1000 + p0.Off))))] (I (w64 ((w64 (1000 * p0.Reading)) + (w64 (1000 + p0.Off))))), rp [(.tmp 15, (I (w64 ((w64 (1000 * p0.Reading)) + (w64 (1000 + p0.Off)))))), ci 1] (I x1), mv 3 (I (w64 (1000 + p0.Off))), rp [(.tmp 16, I x1), (.tmp 17, (I (w64 (1000 + p0.Off))))] (I (w64 (x1.tdiv (w64 (1000 + p0.Off))))), rb [(.tmp 1, .ref 0 2 0 0)] [(0, .own 2 [[I p0.Reading, I p0.Off]])] (.ref 0 2 0 0), rb [(.tmp 19, .ref 0 2 0 0)] [(0, .own 2 [[I p0.Reading, I p0.Off]])] (I p0.Reading), rp [ci 1000, (.tmp 20, I p0.Reading)] (I (w64 (1000 * p0.Reading))), mv 4 (I (w64 (1000 - p0.Off))), rp [(.tmp 21, (I (w64 (1000 * p0.Reading)))), (.tmp 22, (I (w64 (1000 - p0.Off))))] (I (w64 ((w64 (1000 * p0.Reading)).tdiv (w64 (1000 - p0.Off))))), rp [(.tmp 18, (I (w64 (x1.tdiv (w64 (1000 + p0.Off)))))), (.tmp 23, (I (w64 ((w64 (1000 * p0.Reading)).tdiv (w64 (1000 - p0.Off))))))] (.agg [(I (w64 (x1.tdiv (w64 (1000 + p0.Off))))), (I (w64 ((w64 (1000 * p0.Reading)).tdiv (w64 (1000 - p0.Off)))))]), ⟨[(.tmp 2, .ref 1 2 0 0), (.tmp 24, (.agg [(I (w64 (x1.tdiv (w64 (1000 + p0.Off))))), (I (w64 ((w64 (1000 * p0.Reading)).tdiv (w64 (1000 - p0.Off)))))]))], [(1, .own 2 [[I 0, I 0]])], .any, [(1, (.own 2 [[(I (w64 (x1.tdiv (w64 (1000 + p0.Off))))), (I (w64 ((w64 (1000 * p0.Reading)).tdiv (w64 (1000 - p0.Off)))))]]))], false⟩] ?_ ?_
  ·exact ⟨afa rfl Try.underlying96 rfl rfl ti3 (by decide) rfl, ald rfl ti3 (by decide) rfl (nle rfl) rfl, abn rfl rfl, amv rfl, abn rfl rfl, Qe2 hl2 (abn rfl rfl), amv rfl, Qix rfl (bne_out hz3), afa rfl Try.underlying96 rfl rfl ti3 (by decide) rfl, ald rfl ti3 (by decide) rfl (nle rfl) rfl, abn rfl rfl, amv rfl, Qix rfl (bne_out hz4), Qa9 (vs := [(I (w64 (x1.tdiv (w64 (1000 + p0.Off))))), (I (w64 ((w64 (1000 * p0.Reading)).tdiv (w64 (1000 - p0.Off)))))]) rfl ts93 tz93 rfl (by rfl) rfl, ast rfl ti93 (by rfl) rfl (nle rfl) rfl, trivial⟩
  refine Qak ?_
  obtain rfl := osi h
  exact ⟨⟨[(.agg [(I (w64 (x1.tdiv (w64 (1000 + p0.Off))))), (I (w64 ((w64 (1000 * p0.Reading)).tdiv (w64 (1000 - p0.Off)))))])], ⟨Qds (n := 1) (m := 2) (j := 0) (i := 0) (xs := [[(I (w64 (x1.tdiv (w64 (1000 + p0.Off))))), (I (w64 ((w64 (1000 * p0.Reading)).tdiv (w64 (1000 - p0.Off)))))]]) (by kernel_rfl) (by kernel_rfl) ti93 (by decide) rfl (nle rfl) rfl, trivial⟩, rfl⟩, (NLt.agg _ (nlc nll (nlc nll nl0))), Nat.le_refl _, fun n hn => absurd hn (Nat.not_lt_zero n)⟩

def Qfa (N : Nat) (p0 : GMeter) : Option (GRange × Int) :=
  (Qdr N p0).bind fun x2 =>
  bif (!x2) then
   some ((⟨0, 0⟩ : GRange), 2)
  else
   (Qcw N p0).bind fun x5 =>
   some (x5, 0)
set_option maxRecDepth 100000 in
set_option maxHeartbeats 4000000 in
theorem Qhg (N : Nat) (p0 : GMeter) (r : (GRange × Int)) (h : Qfa N p0 = some r) : Spec Try.prog 47 [(.agg (Qab p0))] [] (.tup [(.agg (Qai r.1)), (I r.2)]) [] := by
  refine Qaq Try.func47 rfl 0 (nle rfl) (fun X φ0 w0 hφ0 => ?_)
  unfold Qfa at h
  refine wrg [⟨[(.tmp 0, (.agg [I p0.Reading, I p0.Off]))], [(0, .unused)], .ref 0 2 0 0, [(0, .own 2 [[I p0.Reading, I p0.Off]])], false⟩, ⟨[], [(1, .unused)], .ref 1 2 0 0, [(1, .own 2 [[I 0, I 0]])], false⟩, mc (.int .i64 0)] ?_ ?_
  ·exact ⟨Qbu rfl (by rfl) rfl rfl, Qaz rfl tz93 rfl, aas rfl, trivial⟩
  refine wsq ?_
  obtain ⟨x2, hf1, h⟩ := bno h
  refine wrg [rb [(.tmp 1, .ref 0 2 0 0)] [(0, .own 2 [[I p0.Reading, I p0.Off]])] (.agg [I p0.Reading, I p0.Off]), rp [fu 84, (.tmp 4, (.agg [I p0.Reading, I p0.Off]))] (B x2), rp [(.tmp 5, B x2)] (B ((!x2)))] ?_ ?_
  ·exact ⟨ald rfl ti96 (by decide) rfl (nle rfl) rfl, apc (first := []) (cap := []) (vs := [(.agg [I p0.Reading, I p0.Off])]) rfl enter84 (Qd2 N p0 _ hf1) rfl rfl (nlc (NLt.agg _ (nlc nll (nlc nll nl0))) nl0) nll rfl, Qap rfl, trivial⟩
  rcases bft ((!x2)) with hc3 | hc3
  ·replace h := Qav hc3 h
   refine wft hc3 (by kernel_rfl) ?_
   refine wrg [rp [] (.agg [I 0, I 0]), ⟨[(.tmp 2, .ref 1 2 0 0), (.tmp 7, (.agg [I 0, I 0]))], [(1, .own 2 [[I 0, I 0]])], .any, [(1, .own 2 [[I 0, I 0]])], false⟩, mc (.int .i64 2)] ?_ ?_
   ·exact ⟨Qa9 (vs := []) rfl ts93 tz93 rfl (by rfl) rfl, ast rfl ti93 (by rfl) rfl (nle rfl) rfl, aas rfl, trivial⟩
   refine Qak ?_
   refine Qao ?_
   obtain rfl := osi h
   exact ⟨⟨[(.agg [I 0, I 0]), I 2], ⟨Qds (n := 1) (m := 2) (j := 0) (i := 0) (xs := [[I 0, I 0]]) (by kernel_rfl) (by kernel_rfl) ti93 (by decide) rfl (nle rfl) rfl, rot (by kernel_rfl), trivial⟩, rfl⟩, (NLt.tup _ (nlc (NLt.agg _ (nlc nll (nlc nll nl0))) (nlc nll nl0))), Nat.le_refl _, fun n hn => absurd hn (Nat.not_lt_zero n)⟩
  ·replace h := Qaw hc3 h
   refine wfn hc3 (by kernel_rfl) ?_
   refine Qam ?_
   refine thn ?_
   obtain ⟨x5, hf4, h⟩ := bno h
   refine wrg [rb [(.tmp 1, .ref 0 2 0 0)] [(0, .own 2 [[I p0.Reading, I p0.Off]])] (.agg [I p0.Reading, I p0.Off]), rp [fu 85, (.tmp 8, (.agg [I p0.Reading, I p0.Off]))] (.agg [I x5.Lo, I x5.Hi]), ⟨[(.tmp 2, .ref 1 2 0 0), (.tmp 9, (.agg [I x5.Lo, I x5.Hi]))], [(1, .own 2 [[I 0, I 0]])], .any, [(1, .own 2 [[I x5.Lo, I x5.Hi]])], false⟩, mc (.int .i64 0)] ?_ ?_
   ·exact ⟨ald rfl ti96 (by decide) rfl (nle rfl) rfl, apc (first := []) (cap := []) (vs := [(.agg [I p0.Reading, I p0.Off])]) rfl enter85 (Qeg N p0 _ hf4) rfl rfl (nlc (NLt.agg _ (nlc nll (nlc nll nl0))) nl0) (NLt.agg _ (nlc nll (nlc nll nl0))) rfl, ast rfl ti93 (by rfl) rfl (nle rfl) rfl, aas rfl, trivial⟩
   refine Qak ?_
   obtain rfl := osi h
   exact ⟨⟨[(.agg [I x5.Lo, I x5.Hi]), I 0], ⟨Qds (n := 1) (m := 2) (j := 0) (i := 0) (xs := [[I x5.Lo, I x5.Hi]]) (by kernel_rfl) (by kernel_rfl) ti93 (by decide) rfl (nle rfl) rfl, rot (by kernel_rfl), trivial⟩, rfl⟩, (NLt.tup _ (nlc (NLt.agg _ (nlc nll (nlc nll nl0))) (nlc nll nl0))), Nat.le_refl _, fun n hn => absurd hn (Nat.not_lt_zero n)⟩

def Qet (_N : Nat) (p0 : Int) (p1 : Int) (p2 : Int) : Option Bool :=
  bif (decide (p0 ≥ p1)) then
   some (decide (p0 ≤ p2))
  else
   some false
set_option maxRecDepth 100000 in
set_option maxHeartbeats 4000000 in
theorem Qb6 (N : Nat) (p0 : Int) (p1 : Int) (p2 : Int) (r : Bool) (h : Qet N p0 p1 p2 = some r) : Spec Try.prog 27 [(I p0), (I p1), (I p2)] [] (B r) [] := by
  refine Qaq Try.func27 rfl 0 (nle rfl) (fun X φ0 w0 hφ0 => ?_)
  unfold Qet at h
  refine wrg [mc (.bool false)] ?_ ?_
  ·exact ⟨aas rfl, trivial⟩
  rcases bft ((decide (p0 ≥ p1))) with hb1 | hb1
  ·replace h := Qav hb1 h
   refine wrg [mv 0 (I p0), mv 1 (I p1), rp [(.tmp 7, I p0), (.tmp 8, I p1)] (B ((decide (p0 ≥ p1)))), rp [(.tmp 9, (B ((decide (p0 ≥ p1)))))] (B true), rp [(.tmp 10, B true), (.tmp 0, I p0)] (I p0), rp [(.tmp 10, B true), (.tmp 2, I p2)] (I p2), rp [(.tmp 10, B true), (.tmp 11, I p0), (.tmp 12, I p2)] (B ((decide (p0 ≤ p2)))), rp [(.tmp 10, B true), (.tmp 13, (B ((decide (p0 ≤ p2))))), cb false] (B ((decide (p0 ≤ p2)))), mv 14 (B ((decide (p0 ≤ p2))))] ?_ ?_
   ·exact ⟨amv rfl, amv rfl, abn rfl rfl, asb hb1 (amv rfl), ag_ (amv rfl), ag_ (amv rfl), ag_ (abn rfl rfl), apk rfl rfl, aas rfl, trivial⟩
   refine Qak ?_
   obtain rfl := osi h
   exact ⟨⟨[(B ((decide (p0 ≤ p2))))], ⟨rot (by kernel_rfl), trivial⟩, rfl⟩, nll, Nat.le_refl _, fun n hn => absurd hn (Nat.not_lt_zero n)⟩
  ·replace h := Qaw hb1 h
   refine wrg [mv 0 (I p0), mv 1 (I p1), rp [(.tmp 7, I p0), (.tmp 8, I p1)] (B ((decide (p0 ≥ p1)))), rp [(.tmp 9, (B ((decide (p0 ≥ p1)))))] (B false), sk 10 (B false), sk 10 (B false), sk 10 (B false), rp [(.tmp 10, B false), (.tmp 13, (.lit undef)), cb false] (B false), mv 14 (B false)] ?_ ?_
   ·exact ⟨amv rfl, amv rfl, abn rfl rfl, asb hb1 (amv rfl), trivial, trivial, trivial, apk rfl rfl, aas rfl, trivial⟩
   refine Qak ?_
   obtain rfl := osi h
   exact ⟨⟨[B false], ⟨rot (by kernel_rfl), trivial⟩, rfl⟩, nll, Nat.le_refl _, fun n hn => absurd hn (Nat.not_lt_zero n)⟩

end Go.Proofs.Ytgdepcgbjjgnfaa
