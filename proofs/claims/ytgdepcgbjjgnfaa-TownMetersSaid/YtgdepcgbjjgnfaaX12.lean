/-
  Functions of the program: what they compute, as plain functions, and that they do. No conditions.
-/
import Derived.Test.YtgdepcgbjjgnfaaX5
namespace Go.Proofs.Ytgdepcgbjjgnfaa
open Go.RowKit

def Qc4 (N : Nat) (p0 : (List GNode)) (k2 : Unit → Option Bool) : Nat → Int → Option Bool
  | 0, _ => none
  | n5 + 1, y3 =>
    bif (decide (y3 < (p0.length : Int))) then
     bif (decide (y3 > 0)) then
      (getI p0 y3).bind fun x8 =>
      (Qet N x8.Parent 0 (w64 (y3 - 1))).bind fun x13 =>
      bif (!x13) then
       some false
      else
       (Qet N x8.Loss 0 1000000000).bind fun x16 =>
       bif (!x16) then
        some false
       else
        (Qet N x8.Limit 0 1000000000).bind fun x19 =>
        bif (!x19) then
         some false
        else
         (Qet N x8.Rank 0 100).bind fun x22 =>
         bif (!x22) then
          some false
         else
          Qc4 N p0 k2 n5 (w64 (y3 + 1))
     else
      (getI p0 y3).bind fun x24 =>
      (Qet N x24.Loss 0 1000000000).bind fun x29 =>
      bif (!x29) then
       some false
      else
       (Qet N x24.Limit 0 1000000000).bind fun x32 =>
       bif (!x32) then
        some false
       else
        (Qet N x24.Rank 0 100).bind fun x35 =>
        bif (!x35) then
         some false
        else
         Qc4 N p0 k2 n5 (w64 (y3 + 1))
    else
     k2 ()
def Qfn (N : Nat) (p0 : (List GNode)) : Option Bool :=
  Qca (fun _ =>
    Qca (fun _ =>
      some true) fun k2 : Unit → Option Bool =>
    Qc4 N p0 k2 N 0) fun k1 : Unit → Option Bool =>
  bif (decide ((p0.length : Int) < 1)) then
   some false
  else
   bif (decide ((p0.length : Int) > 30)) then
    some false
   else
    (getI p0 0).bind fun x39 =>
    bif (x39.Parent != (-1)) then
     some false
    else
     bif (x39.Loss != 0) then
      some false
     else
      bif (x39.Limit != 0) then
       some false
      else
       k1 ()
set_option maxRecDepth 100000 in
set_option maxHeartbeats 4000000 in
theorem ref10_RightX_ok (N : Nat) (p0 : (List GNode)) (r : Bool) (h : Qfn N p0 = some r) : Spec Try.prog 25 [(.dat 4 (p0.map Qaa))] [] (B r) [] := by
  refine Qaq Try.func25 rfl 0 (nle rfl) (fun X φ0 w0 hφ0 => ?_)
  unfold Qfn at h
  refine wrg [mc (.bool false)] ?_ ?_
  ·exact ⟨aas rfl, trivial⟩
  obtain ⟨k1, hk_k1, h⟩ := jko h
  refine wjn (τ := Unit) (fun t => k1 t = some r) (fun _ => ⟨mk 79 [(0, (.dat 4 ((p0 : List GNode).map Qaa)))], []⟩) (fun t h => ?_) ?_
  ·subst hk_k1
   obtain ⟨k2, hk_k2, h⟩ := jko h
   refine wjn (τ := Unit) (fun t => k2 t = some r) (fun _ => ⟨mk 79 [], []⟩) (fun t h => ?_) ?_
   ·subst hk_k2
    refine wrg [mc (.bool true)] ?_ ?_
    ·exact ⟨aas rfl, trivial⟩
    refine Qak ?_
    obtain rfl := osi h
    exact ⟨⟨[B true], ⟨rot (by kernel_rfl), trivial⟩, rfl⟩, nll, Nat.le_refl _, fun n hn => absurd hn (Nat.not_lt_zero n)⟩
   ·skip
    refine wrg [mc (.int .i64 0)] ?_ ?_
    ·exact ⟨aas rfl, trivial⟩
    refine Qan ?_
    refine wmr (mto (n := 79) (l' := [(0, (.dat 4 ((p0 : List GNode).map Qaa))), (3, I 0)]) (own' := []) [(0, (.dat 4 ((p0 : List GNode).map Qaa))), (3, I 0)] [] [] hφ0 (pc (.rn (.plain _ (nld Qag _))) (pc rwl pn)) qn) ?_
    refine Qcc (τ := Int) (fun n t => Qc4 N p0 k2 n t = some r) (fun y3 => ⟨mk 79 [(0, (.dat 4 ((p0 : List GNode).map Qaa))), (3, I y3)], []⟩) (fun t h => by rw [Qc4] at h; cases h) (fun n5 ih y3 h => ?_) N (0) h
    rw [Qc4] at h
    skip
    refine wsq ?_
    refine wrg [mv 3 (I y3), mv 0 (.dat 4 ((p0 : List GNode).map Qaa)), rp [(.tmp 34, (.dat 4 ((p0 : List GNode).map Qaa)))] (I ((p0.length : Int))), rp [(.tmp 33, I y3), (.tmp 35, (I ((p0.length : Int))))] (B ((decide (y3 < (p0.length : Int)))))] ?_ ?_
    ·exact ⟨amv rfl, amv rfl, alm (c := Qaa) (l := p0) (aln rfl Try.underlying22 rfl), abn rfl rfl, trivial⟩
    rcases bft ((decide (y3 < (p0.length : Int)))) with hc6 | hc6
    ·replace h := Qav hc6 h
     refine wft hc6 (by kernel_rfl) ?_
     refine Qam ?_
     refine thn ?_
     refine wsq ?_
     refine Qan ?_
     rcases bft ((decide (y3 > 0))) with hb7 | hb7
     ·replace h := Qav hb7 h
      obtain ⟨x8, hg9, h⟩ := bno h
      obtain ⟨hi10, hj11⟩ := gsm hg9
      obtain ⟨x13, hf12, h⟩ := bno h
      rcases bft ((!x13)) with hb14 | hb14
      ·replace h := Qav hb14 h
       refine wrg [mv 3 (I y3), rp [(.tmp 39, I y3), ci 0] (B ((decide (y3 > 0)))), rp [(.tmp 40, (B ((decide (y3 > 0)))))] (B true), rp [(.tmp 41, B true), (.tmp 0, (.dat 4 ((p0 : List GNode).map Qaa)))] (.dat 4 ((p0 : List GNode).map Qaa)), rp [(.tmp 41, B true), (.tmp 3, I y3)] (I y3), rp [(.tmp 41, B true), (.tmp 42, (.dat 4 ((p0 : List GNode).map Qaa))), (.tmp 43, I y3)] (.dptr (Qaa (x8)) 0), rp [(.tmp 41, B true), (.tmp 44, (.dptr (Qaa (x8)) 0))] (.dptr (Qaa (x8)) 0), rp [(.tmp 41, B true), (.tmp 45, (.dptr (Qaa (x8)) 0))] (I x8.Parent), rp [(.tmp 41, B true), (.tmp 3, I y3)] (I y3), rp [(.tmp 41, B true), (.tmp 47, I y3), ci 1] (I (w64 (y3 - 1))), rp [(.tmp 41, B true), fu 27, (.tmp 46, I x8.Parent), ci 0, (.tmp 48, (I (w64 (y3 - 1))))] (B x13), rp [(.tmp 41, B true), (.tmp 49, B x13)] (B ((!x13))), rp [(.tmp 41, B true), (.tmp 50, (B ((!x13)))), cb false] (B ((!x13))), rp [(.tmp 51, (B ((!x13))))] (B true), sk 52 (B true), sk 52 (B true), sk 52 (B true), sk 52 (B true), sk 52 (B true), sk 52 (B true), sk 52 (B true), rp [(.tmp 52, B true), cb true, (.tmp 59, (.lit undef))] (B true), mv 60 (B true), sk 61 (B true), sk 61 (B true), sk 61 (B true), sk 61 (B true), sk 61 (B true), sk 61 (B true), sk 61 (B true), rp [(.tmp 61, B true), cb true, (.tmp 68, (.lit undef))] (B true), mv 69 (B true), sk 70 (B true), sk 70 (B true), sk 70 (B true), sk 70 (B true), sk 70 (B true), sk 70 (B true), sk 70 (B true), rp [(.tmp 70, B true), cb true, (.tmp 77, (.lit undef))] (B true)] ?_ ?_
       ·exact ⟨amv rfl, abn rfl rfl, asb hb7 (amv rfl), ag_ (amv rfl), ag_ (amv rfl), ag_ (aid rfl Try.underlying22 ti56 rfl rfl hi10 (mgt Qaa hj11) rfl), ag_ (afd rfl Try.underlying56 rfl rfl ti3 (by decide) rfl), ag_ (ald_ rfl ti3 (by decide) (nle rfl) rfl), ag_ (amv rfl), ag_ (abn rfl rfl), ag_ (apc (first := []) (cap := []) (vs := [I x8.Parent, I 0, (I (w64 (y3 - 1)))]) rfl Qe1 (Qb6 N x8.Parent 0 (w64 (y3 - 1)) _ hf12) rfl rfl (nlc nll (nlc nll (nlc nll nl0))) nll rfl), ag_ (Qap rfl), apk rfl rfl, asb hb14 (amv rfl), trivial, trivial, trivial, trivial, trivial, trivial, trivial, apk rfl rfl, amv rfl, trivial, trivial, trivial, trivial, trivial, trivial, trivial, apk rfl rfl, amv rfl, trivial, trivial, trivial, trivial, trivial, trivial, trivial, apk rfl rfl, trivial⟩
       refine Qbq (by kernel_rfl) ?_
       refine wrg [mc (.bool false)] ?_ ?_
       ·exact ⟨aas rfl, trivial⟩
       refine Qak ?_
       refine Qa3 ?_
       refine Qao ?_
       refine Qao ?_
       refine Qa3 ?_
       refine Qao ?_
       obtain rfl := osi h
       exact ⟨⟨[B false], ⟨rot (by kernel_rfl), trivial⟩, rfl⟩, nll, Nat.le_refl _, fun n hn => absurd hn (Nat.not_lt_zero n)⟩
      ·replace h := Qaw hb14 h
       obtain ⟨x16, hf15, h⟩ := bno h
       rcases bft ((!x16)) with hb17 | hb17
       ·replace h := Qav hb17 h
        refine wrg [mv 3 (I y3), rp [(.tmp 39, I y3), ci 0] (B ((decide (y3 > 0)))), rp [(.tmp 40, (B ((decide (y3 > 0)))))] (B true), rp [(.tmp 41, B true), (.tmp 0, (.dat 4 ((p0 : List GNode).map Qaa)))] (.dat 4 ((p0 : List GNode).map Qaa)), rp [(.tmp 41, B true), (.tmp 3, I y3)] (I y3), rp [(.tmp 41, B true), (.tmp 42, (.dat 4 ((p0 : List GNode).map Qaa))), (.tmp 43, I y3)] (.dptr (Qaa (x8)) 0), rp [(.tmp 41, B true), (.tmp 44, (.dptr (Qaa (x8)) 0))] (.dptr (Qaa (x8)) 0), rp [(.tmp 41, B true), (.tmp 45, (.dptr (Qaa (x8)) 0))] (I x8.Parent), rp [(.tmp 41, B true), (.tmp 3, I y3)] (I y3), rp [(.tmp 41, B true), (.tmp 47, I y3), ci 1] (I (w64 (y3 - 1))), rp [(.tmp 41, B true), fu 27, (.tmp 46, I x8.Parent), ci 0, (.tmp 48, (I (w64 (y3 - 1))))] (B x13), rp [(.tmp 41, B true), (.tmp 49, B x13)] (B ((!x13))), rp [(.tmp 41, B true), (.tmp 50, (B ((!x13)))), cb false] (B ((!x13))), rp [(.tmp 51, (B ((!x13))))] (B false), rp [(.tmp 52, B false), (.tmp 0, (.dat 4 ((p0 : List GNode).map Qaa)))] (.dat 4 ((p0 : List GNode).map Qaa)), rp [(.tmp 52, B false), (.tmp 3, I y3)] (I y3), rp [(.tmp 52, B false), (.tmp 53, (.dat 4 ((p0 : List GNode).map Qaa))), (.tmp 54, I y3)] (.dptr (Qaa (x8)) 0), rp [(.tmp 52, B false), (.tmp 55, (.dptr (Qaa (x8)) 0))] (.dptr (Qaa (x8)) 1), rp [(.tmp 52, B false), (.tmp 56, (.dptr (Qaa (x8)) 1))] (I x8.Loss), rp [(.tmp 52, B false), fu 27, (.tmp 57, I x8.Loss), ci 0, ci 1000000000] (B x16), rp [(.tmp 52, B false), (.tmp 58, B x16)] (B ((!x16))), rp [(.tmp 52, B false), cb true, (.tmp 59, (B ((!x16))))] (B ((!x16))), rp [(.tmp 60, (B ((!x16))))] (B true), sk 61 (B true), sk 61 (B true), sk 61 (B true), sk 61 (B true), sk 61 (B true), sk 61 (B true), sk 61 (B true), rp [(.tmp 61, B true), cb true, (.tmp 68, (.lit undef))] (B true), mv 69 (B true), sk 70 (B true), sk 70 (B true), sk 70 (B true), sk 70 (B true), sk 70 (B true), sk 70 (B true), sk 70 (B true), rp [(.tmp 70, B true), cb true, (.tmp 77, (.lit undef))] (B true)] ?_ ?_
        ·exact ⟨amv rfl, abn rfl rfl, asb hb7 (amv rfl), ag_ (amv rfl), ag_ (amv rfl), ag_ (aid rfl Try.underlying22 ti56 rfl rfl hi10 (mgt Qaa hj11) rfl), ag_ (afd rfl Try.underlying56 rfl rfl ti3 (by decide) rfl), ag_ (ald_ rfl ti3 (by decide) (nle rfl) rfl), ag_ (amv rfl), ag_ (abn rfl rfl), ag_ (apc (first := []) (cap := []) (vs := [I x8.Parent, I 0, (I (w64 (y3 - 1)))]) rfl Qe1 (Qb6 N x8.Parent 0 (w64 (y3 - 1)) _ hf12) rfl rfl (nlc nll (nlc nll (nlc nll nl0))) nll rfl), ag_ (Qap rfl), apk rfl rfl, asb hb14 (amv rfl), ag_ (amv rfl), ag_ (amv rfl), ag_ (aid rfl Try.underlying22 ti56 rfl rfl hi10 (mgt Qaa hj11) rfl), ag_ (afd rfl Try.underlying56 rfl rfl ti3 (by decide) rfl), ag_ (ald_ rfl ti3 (by decide) (nle rfl) rfl), ag_ (apc (first := []) (cap := []) (vs := [I x8.Loss, I 0, I 1000000000]) rfl Qe1 (Qb6 N x8.Loss 0 1000000000 _ hf15) rfl rfl (nlc nll (nlc nll (nlc nll nl0))) nll rfl), ag_ (Qap rfl), apk rfl rfl, asb hb17 (amv rfl), trivial, trivial, trivial, trivial, trivial, trivial, trivial, apk rfl rfl, amv rfl, trivial, trivial, trivial, trivial, trivial, trivial, trivial, apk rfl rfl, trivial⟩
        refine Qbq (by kernel_rfl) ?_
        refine wrg [mc (.bool false)] ?_ ?_
        ·exact ⟨aas rfl, trivial⟩
        refine Qak ?_
        refine Qa3 ?_
        refine Qao ?_
        refine Qao ?_
        refine Qa3 ?_
        refine Qao ?_
        obtain rfl := osi h
        exact ⟨⟨[B false], ⟨rot (by kernel_rfl), trivial⟩, rfl⟩, nll, Nat.le_refl _, fun n hn => absurd hn (Nat.not_lt_zero n)⟩
       ·replace h := Qaw hb17 h
        obtain ⟨x19, hf18, h⟩ := bno h
        rcases bft ((!x19)) with hb20 | hb20
        ·replace h := Qav hb20 h
         refine wrg [mv 3 (I y3), rp [(.tmp 39, I y3), ci 0] (B ((decide (y3 > 0)))), rp [(.tmp 40, (B ((decide (y3 > 0)))))] (B true), rp [(.tmp 41, B true), (.tmp 0, (.dat 4 ((p0 : List GNode).map Qaa)))] (.dat 4 ((p0 : List GNode).map Qaa)), rp [(.tmp 41, B true), (.tmp 3, I y3)] (I y3), rp [(.tmp 41, B true), (.tmp 42, (.dat 4 ((p0 : List GNode).map Qaa))), (.tmp 43, I y3)] (.dptr (Qaa (x8)) 0), rp [(.tmp 41, B true), (.tmp 44, (.dptr (Qaa (x8)) 0))] (.dptr (Qaa (x8)) 0), rp [(.tmp 41, B true), (.tmp 45, (.dptr (Qaa (x8)) 0))] (I x8.Parent), rp [(.tmp 41, B true), (.tmp 3, I y3)] (I y3), rp [(.tmp 41, B true), (.tmp 47, I y3), ci 1] (I (w64 (y3 - 1))), rp [(.tmp 41, B true), fu 27, (.tmp 46, I x8.Parent), ci 0, (.tmp 48, (I (w64 (y3 - 1))))] (B x13), rp [(.tmp 41, B true), (.tmp 49, B x13)] (B ((!x13))), rp [(.tmp 41, B true), (.tmp 50, (B ((!x13)))), cb false] (B ((!x13))), rp [(.tmp 51, (B ((!x13))))] (B false), rp [(.tmp 52, B false), (.tmp 0, (.dat 4 ((p0 : List GNode).map Qaa)))] (.dat 4 ((p0 : List GNode).map Qaa)), rp [(.tmp 52, B false), (.tmp 3, I y3)] (I y3), rp [(.tmp 52, B false), (.tmp 53, (.dat 4 ((p0 : List GNode).map Qaa))), (.tmp 54, I y3)] (.dptr (Qaa (x8)) 0), rp [(.tmp 52, B false), (.tmp 55, (.dptr (Qaa (x8)) 0))] (.dptr (Qaa (x8)) 1), rp [(.tmp 52, B false), (.tmp 56, (.dptr (Qaa (x8)) 1))] (I x8.Loss), rp [(.tmp 52, B false), fu 27, (.tmp 57, I x8.Loss), ci 0, ci 1000000000] (B x16), rp [(.tmp 52, B false), (.tmp 58, B x16)] (B ((!x16))), rp [(.tmp 52, B false), cb true, (.tmp 59, (B ((!x16))))] (B ((!x16))), rp [(.tmp 60, (B ((!x16))))] (B false), rp [(.tmp 61, B false), (.tmp 0, (.dat 4 ((p0 : List GNode).map Qaa)))] (.dat 4 ((p0 : List GNode).map Qaa)), rp [(.tmp 61, B false), (.tmp 3, I y3)] (I y3), rp [(.tmp 61, B false), (.tmp 62, (.dat 4 ((p0 : List GNode).map Qaa))), (.tmp 63, I y3)] (.dptr (Qaa (x8)) 0), rp [(.tmp 61, B false), (.tmp 64, (.dptr (Qaa (x8)) 0))] (.dptr (Qaa (x8)) 2), rp [(.tmp 61, B false), (.tmp 65, (.dptr (Qaa (x8)) 2))] (I x8.Limit), rp [(.tmp 61, B false), fu 27, (.tmp 66, I x8.Limit), ci 0, ci 1000000000] (B x19), rp [(.tmp 61, B false), (.tmp 67, B x19)] (B ((!x19))), rp [(.tmp 61, B false), cb true, (.tmp 68, (B ((!x19))))] (B ((!x19))), rp [(.tmp 69, (B ((!x19))))] (B true), sk 70 (B true), sk 70 (B true), sk 70 (B true), sk 70 (B true), sk 70 (B true), sk 70 (B true), sk 70 (B true), rp [(.tmp 70, B true), cb true, (.tmp 77, (.lit undef))] (B true)] ?_ ?_
         ·exact ⟨amv rfl, abn rfl rfl, asb hb7 (amv rfl), ag_ (amv rfl), ag_ (amv rfl), ag_ (aid rfl Try.underlying22 ti56 rfl rfl hi10 (mgt Qaa hj11) rfl), ag_ (afd rfl Try.underlying56 rfl rfl ti3 (by decide) rfl), ag_ (ald_ rfl ti3 (by decide) (nle rfl) rfl), ag_ (amv rfl), ag_ (abn rfl rfl), ag_ (apc (first := []) (cap := []) (vs := [I x8.Parent, I 0, (I (w64 (y3 - 1)))]) rfl Qe1 (Qb6 N x8.Parent 0 (w64 (y3 - 1)) _ hf12) rfl rfl (nlc nll (nlc nll (nlc nll nl0))) nll rfl), ag_ (Qap rfl), apk rfl rfl, asb hb14 (amv rfl), ag_ (amv rfl), ag_ (amv rfl), ag_ (aid rfl Try.underlying22 ti56 rfl rfl hi10 (mgt Qaa hj11) rfl), ag_ (afd rfl Try.underlying56 rfl rfl ti3 (by decide) rfl), ag_ (ald_ rfl ti3 (by decide) (nle rfl) rfl), ag_ (apc (first := []) (cap := []) (vs := [I x8.Loss, I 0, I 1000000000]) rfl Qe1 (Qb6 N x8.Loss 0 1000000000 _ hf15) rfl rfl (nlc nll (nlc nll (nlc nll nl0))) nll rfl), ag_ (Qap rfl), apk rfl rfl, asb hb17 (amv rfl), ag_ (amv rfl), ag_ (amv rfl), ag_ (aid rfl Try.underlying22 ti56 rfl rfl hi10 (mgt Qaa hj11) rfl), ag_ (afd rfl Try.underlying56 rfl rfl ti3 (by decide) rfl), ag_ (ald_ rfl ti3 (by decide) (nle rfl) rfl), ag_ (apc (first := []) (cap := []) (vs := [I x8.Limit, I 0, I 1000000000]) rfl Qe1 (Qb6 N x8.Limit 0 1000000000 _ hf18) rfl rfl (nlc nll (nlc nll (nlc nll nl0))) nll rfl), ag_ (Qap rfl), apk rfl rfl, asb hb20 (amv rfl), trivial, trivial, trivial, trivial, trivial, trivial, trivial, apk rfl rfl, trivial⟩
         refine Qbq (by kernel_rfl) ?_
         refine wrg [mc (.bool false)] ?_ ?_
         ·exact ⟨aas rfl, trivial⟩
         refine Qak ?_
         refine Qa3 ?_
         refine Qao ?_
         refine Qao ?_
         refine Qa3 ?_
         refine Qao ?_
         obtain rfl := osi h
         exact ⟨⟨[B false], ⟨rot (by kernel_rfl), trivial⟩, rfl⟩, nll, Nat.le_refl _, fun n hn => absurd hn (Nat.not_lt_zero n)⟩
        ·replace h := Qaw hb20 h
         obtain ⟨x22, hf21, h⟩ := bno h
         refine wrg [mv 3 (I y3), rp [(.tmp 39, I y3), ci 0] (B ((decide (y3 > 0)))), rp [(.tmp 40, (B ((decide (y3 > 0)))))] (B true), rp [(.tmp 41, B true), (.tmp 0, (.dat 4 ((p0 : List GNode).map Qaa)))] (.dat 4 ((p0 : List GNode).map Qaa)), rp [(.tmp 41, B true), (.tmp 3, I y3)] (I y3), rp [(.tmp 41, B true), (.tmp 42, (.dat 4 ((p0 : List GNode).map Qaa))), (.tmp 43, I y3)] (.dptr (Qaa (x8)) 0), rp [(.tmp 41, B true), (.tmp 44, (.dptr (Qaa (x8)) 0))] (.dptr (Qaa (x8)) 0), rp [(.tmp 41, B true), (.tmp 45, (.dptr (Qaa (x8)) 0))] (I x8.Parent), rp [(.tmp 41, B true), (.tmp 3, I y3)] (I y3), rp [(.tmp 41, B true), (.tmp 47, I y3), ci 1] (I (w64 (y3 - 1))), rp [(.tmp 41, B true), fu 27, (.tmp 46, I x8.Parent), ci 0, (.tmp 48, (I (w64 (y3 - 1))))] (B x13), rp [(.tmp 41, B true), (.tmp 49, B x13)] (B ((!x13))), rp [(.tmp 41, B true), (.tmp 50, (B ((!x13)))), cb false] (B ((!x13))), rp [(.tmp 51, (B ((!x13))))] (B false), rp [(.tmp 52, B false), (.tmp 0, (.dat 4 ((p0 : List GNode).map Qaa)))] (.dat 4 ((p0 : List GNode).map Qaa)), rp [(.tmp 52, B false), (.tmp 3, I y3)] (I y3), rp [(.tmp 52, B false), (.tmp 53, (.dat 4 ((p0 : List GNode).map Qaa))), (.tmp 54, I y3)] (.dptr (Qaa (x8)) 0), rp [(.tmp 52, B false), (.tmp 55, (.dptr (Qaa (x8)) 0))] (.dptr (Qaa (x8)) 1), rp [(.tmp 52, B false), (.tmp 56, (.dptr (Qaa (x8)) 1))] (I x8.Loss), rp [(.tmp 52, B false), fu 27, (.tmp 57, I x8.Loss), ci 0, ci 1000000000] (B x16), rp [(.tmp 52, B false), (.tmp 58, B x16)] (B ((!x16))), rp [(.tmp 52, B false), cb true, (.tmp 59, (B ((!x16))))] (B ((!x16))), rp [(.tmp 60, (B ((!x16))))] (B false), rp [(.tmp 61, B false), (.tmp 0, (.dat 4 ((p0 : List GNode).map Qaa)))] (.dat 4 ((p0 : List GNode).map Qaa)), rp [(.tmp 61, B false), (.tmp 3, I y3)] (I y3), rp [(.tmp 61, B false), (.tmp 62, (.dat 4 ((p0 : List GNode).map Qaa))), (.tmp 63, I y3)] (.dptr (Qaa (x8)) 0), rp [(.tmp 61, B false), (.tmp 64, (.dptr (Qaa (x8)) 0))] (.dptr (Qaa (x8)) 2), rp [(.tmp 61, B false), (.tmp 65, (.dptr (Qaa (x8)) 2))] (I x8.Limit), rp [(.tmp 61, B false), fu 27, (.tmp 66, I x8.Limit), ci 0, ci 1000000000] (B x19), rp [(.tmp 61, B false), (.tmp 67, B x19)] (B ((!x19))), rp [(.tmp 61, B false), cb true, (.tmp 68, (B ((!x19))))] (B ((!x19))), rp [(.tmp 69, (B ((!x19))))] (B false), rp [(.tmp 70, B false), (.tmp 0, (.dat 4 ((p0 : List GNode).map Qaa)))] (.dat 4 ((p0 : List GNode).map Qaa)), rp [(.tmp 70, B false), (.tmp 3, I y3)] (I y3), rp [(.tmp 70, B false), (.tmp 71, (.dat 4 ((p0 : List GNode).map Qaa))), (.tmp 72, I y3)] (.dptr (Qaa (x8)) 0), rp [(.tmp 70, B false), (.tmp 73, (.dptr (Qaa (x8)) 0))] (.dptr (Qaa (x8)) 3), rp [(.tmp 70, B false), (.tmp 74, (.dptr (Qaa (x8)) 3))] (I x8.Rank), rp [(.tmp 70, B false), fu 27, (.tmp 75, I x8.Rank), ci 0, ci 100] (B x22), rp [(.tmp 70, B false), (.tmp 76, B x22)] (B ((!x22))), rp [(.tmp 70, B false), cb true, (.tmp 77, (B ((!x22))))] (B ((!x22)))] ?_ ?_
         ·exact ⟨amv rfl, abn rfl rfl, asb hb7 (amv rfl), ag_ (amv rfl), ag_ (amv rfl), ag_ (aid rfl Try.underlying22 ti56 rfl rfl hi10 (mgt Qaa hj11) rfl), ag_ (afd rfl Try.underlying56 rfl rfl ti3 (by decide) rfl), ag_ (ald_ rfl ti3 (by decide) (nle rfl) rfl), ag_ (amv rfl), ag_ (abn rfl rfl), ag_ (apc (first := []) (cap := []) (vs := [I x8.Parent, I 0, (I (w64 (y3 - 1)))]) rfl Qe1 (Qb6 N x8.Parent 0 (w64 (y3 - 1)) _ hf12) rfl rfl (nlc nll (nlc nll (nlc nll nl0))) nll rfl), ag_ (Qap rfl), apk rfl rfl, asb hb14 (amv rfl), ag_ (amv rfl), ag_ (amv rfl), ag_ (aid rfl Try.underlying22 ti56 rfl rfl hi10 (mgt Qaa hj11) rfl), ag_ (afd rfl Try.underlying56 rfl rfl ti3 (by decide) rfl), ag_ (ald_ rfl ti3 (by decide) (nle rfl) rfl), ag_ (apc (first := []) (cap := []) (vs := [I x8.Loss, I 0, I 1000000000]) rfl Qe1 (Qb6 N x8.Loss 0 1000000000 _ hf15) rfl rfl (nlc nll (nlc nll (nlc nll nl0))) nll rfl), ag_ (Qap rfl), apk rfl rfl, asb hb17 (amv rfl), ag_ (amv rfl), ag_ (amv rfl), ag_ (aid rfl Try.underlying22 ti56 rfl rfl hi10 (mgt Qaa hj11) rfl), ag_ (afd rfl Try.underlying56 rfl rfl ti3 (by decide) rfl), ag_ (ald_ rfl ti3 (by decide) (nle rfl) rfl), ag_ (apc (first := []) (cap := []) (vs := [I x8.Limit, I 0, I 1000000000]) rfl Qe1 (Qb6 N x8.Limit 0 1000000000 _ hf18) rfl rfl (nlc nll (nlc nll (nlc nll nl0))) nll rfl), ag_ (Qap rfl), apk rfl rfl, asb hb20 (amv rfl), ag_ (amv rfl), ag_ (amv rfl), ag_ (aid rfl Try.underlying22 ti56 rfl rfl hi10 (mgt Qaa hj11) rfl), ag_ (afd rfl Try.underlying56 rfl rfl ti3 (by decide) rfl), ag_ (ald_ rfl ti3 (by decide) (nle rfl) rfl), ag_ (apc (first := []) (cap := []) (vs := [I x8.Rank, I 0, I 100]) rfl Qe1 (Qb6 N x8.Rank 0 100 _ hf21) rfl rfl (nlc nll (nlc nll (nlc nll nl0))) nll rfl), ag_ (Qap rfl), apk rfl rfl, trivial⟩
         rcases bft ((!x22)) with hc23 | hc23
         ·replace h := Qav hc23 h
          refine wft hc23 (by kernel_rfl) ?_
          refine wrg [mc (.bool false)] ?_ ?_
          ·exact ⟨aas rfl, trivial⟩
          refine Qak ?_
          refine Qa3 ?_
          refine Qao ?_
          refine Qao ?_
          refine Qa3 ?_
          refine Qao ?_
          obtain rfl := osi h
          exact ⟨⟨[B false], ⟨rot (by kernel_rfl), trivial⟩, rfl⟩, nll, Nat.le_refl _, fun n hn => absurd hn (Nat.not_lt_zero n)⟩
         ·replace h := Qaw hc23 h
          refine wfn hc23 (by kernel_rfl) ?_
          refine Qam ?_
          refine bln ?_
          refine thn ?_
          refine Qar [mv 3 (I y3), rp [(.tmp 37, I y3), ci 1] (I (w64 (y3 + 1))), mv 38 (I (w64 (y3 + 1)))] ?_ ?_
          ·exact ⟨amv rfl, abn rfl rfl, aas rfl, trivial⟩
          refine thn ?_
          exact arm (mto (n := 79) [(0, (.dat 4 ((p0 : List GNode).map Qaa))), (3, (I (w64 (y3 + 1))))] [] [] hφ0 (pc (.rn (.plain _ (nld Qag _))) (pc rwl pn)) qn) (ih (w64 (y3 + 1)) h)
     ·replace h := Qaw hb7 h
      obtain ⟨x24, hg25, h⟩ := bno h
      obtain ⟨hi26, hj27⟩ := gsm hg25
      obtain ⟨x29, hf28, h⟩ := bno h
      rcases bft ((!x29)) with hb30 | hb30
      ·replace h := Qav hb30 h
       refine wrg [mv 3 (I y3), rp [(.tmp 39, I y3), ci 0] (B ((decide (y3 > 0)))), rp [(.tmp 40, (B ((decide (y3 > 0)))))] (B false), sk 41 (B false), sk 41 (B false), sk 41 (B false), sk 41 (B false), sk 41 (B false), sk 41 (B false), sk 41 (B false), sk 41 (B false), sk 41 (B false), rp [(.tmp 41, B false), (.tmp 50, (.lit undef)), cb false] (B false), mv 51 (B false), rp [(.tmp 52, B false), (.tmp 0, (.dat 4 ((p0 : List GNode).map Qaa)))] (.dat 4 ((p0 : List GNode).map Qaa)), rp [(.tmp 52, B false), (.tmp 3, I y3)] (I y3), rp [(.tmp 52, B false), (.tmp 53, (.dat 4 ((p0 : List GNode).map Qaa))), (.tmp 54, I y3)] (.dptr (Qaa (x24)) 0), rp [(.tmp 52, B false), (.tmp 55, (.dptr (Qaa (x24)) 0))] (.dptr (Qaa (x24)) 1), rp [(.tmp 52, B false), (.tmp 56, (.dptr (Qaa (x24)) 1))] (I x24.Loss), rp [(.tmp 52, B false), fu 27, (.tmp 57, I x24.Loss), ci 0, ci 1000000000] (B x29), rp [(.tmp 52, B false), (.tmp 58, B x29)] (B ((!x29))), rp [(.tmp 52, B false), cb true, (.tmp 59, (B ((!x29))))] (B ((!x29))), rp [(.tmp 60, (B ((!x29))))] (B true), sk 61 (B true), sk 61 (B true), sk 61 (B true), sk 61 (B true), sk 61 (B true), sk 61 (B true), sk 61 (B true), rp [(.tmp 61, B true), cb true, (.tmp 68, (.lit undef))] (B true), mv 69 (B true), sk 70 (B true), sk 70 (B true), sk 70 (B true), sk 70 (B true), sk 70 (B true), sk 70 (B true), sk 70 (B true), rp [(.tmp 70, B true), cb true, (.tmp 77, (.lit undef))] (B true)] ?_ ?_
       ·exact ⟨amv rfl, abn rfl rfl, asb hb7 (amv rfl), trivial, trivial, trivial, trivial, trivial, trivial, trivial, trivial, trivial, apk rfl rfl, amv rfl, ag_ (amv rfl), ag_ (amv rfl), ag_ (aid rfl Try.underlying22 ti56 rfl rfl hi26 (mgt Qaa hj27) rfl), ag_ (afd rfl Try.underlying56 rfl rfl ti3 (by decide) rfl), ag_ (ald_ rfl ti3 (by decide) (nle rfl) rfl), ag_ (apc (first := []) (cap := []) (vs := [I x24.Loss, I 0, I 1000000000]) rfl Qe1 (Qb6 N x24.Loss 0 1000000000 _ hf28) rfl rfl (nlc nll (nlc nll (nlc nll nl0))) nll rfl), ag_ (Qap rfl), apk rfl rfl, asb hb30 (amv rfl), trivial, trivial, trivial, trivial, trivial, trivial, trivial, apk rfl rfl, amv rfl, trivial, trivial, trivial, trivial, trivial, trivial, trivial, apk rfl rfl, trivial⟩
       refine Qbq (by kernel_rfl) ?_
       refine wrg [mc (.bool false)] ?_ ?_
       ·exact ⟨aas rfl, trivial⟩
       refine Qak ?_
       refine Qa3 ?_
       refine Qao ?_
       refine Qao ?_
       refine Qa3 ?_
       refine Qao ?_
       obtain rfl := osi h
       exact ⟨⟨[B false], ⟨rot (by kernel_rfl), trivial⟩, rfl⟩, nll, Nat.le_refl _, fun n hn => absurd hn (Nat.not_lt_zero n)⟩
      ·replace h := Qaw hb30 h
       obtain ⟨x32, hf31, h⟩ := bno h
       rcases bft ((!x32)) with hb33 | hb33
       ·replace h := Qav hb33 h
        refine wrg [mv 3 (I y3), rp [(.tmp 39, I y3), ci 0] (B ((decide (y3 > 0)))), rp [(.tmp 40, (B ((decide (y3 > 0)))))] (B false), sk 41 (B false), sk 41 (B false), sk 41 (B false), sk 41 (B false), sk 41 (B false), sk 41 (B false), sk 41 (B false), sk 41 (B false), sk 41 (B false), rp [(.tmp 41, B false), (.tmp 50, (.lit undef)), cb false] (B false), mv 51 (B false), rp [(.tmp 52, B false), (.tmp 0, (.dat 4 ((p0 : List GNode).map Qaa)))] (.dat 4 ((p0 : List GNode).map Qaa)), rp [(.tmp 52, B false), (.tmp 3, I y3)] (I y3), rp [(.tmp 52, B false), (.tmp 53, (.dat 4 ((p0 : List GNode).map Qaa))), (.tmp 54, I y3)] (.dptr (Qaa (x24)) 0), rp [(.tmp 52, B false), (.tmp 55, (.dptr (Qaa (x24)) 0))] (.dptr (Qaa (x24)) 1), rp [(.tmp 52, B false), (.tmp 56, (.dptr (Qaa (x24)) 1))] (I x24.Loss), rp [(.tmp 52, B false), fu 27, (.tmp 57, I x24.Loss), ci 0, ci 1000000000] (B x29), rp [(.tmp 52, B false), (.tmp 58, B x29)] (B ((!x29))), rp [(.tmp 52, B false), cb true, (.tmp 59, (B ((!x29))))] (B ((!x29))), rp [(.tmp 60, (B ((!x29))))] (B false), rp [(.tmp 61, B false), (.tmp 0, (.dat 4 ((p0 : List GNode).map Qaa)))] (.dat 4 ((p0 : List GNode).map Qaa)), rp [(.tmp 61, B false), (.tmp 3, I y3)] (I y3), rp [(.tmp 61, B false), (.tmp 62, (.dat 4 ((p0 : List GNode).map Qaa))), (.tmp 63, I y3)] (.dptr (Qaa (x24)) 0), rp [(.tmp 61, B false), (.tmp 64, (.dptr (Qaa (x24)) 0))] (.dptr (Qaa (x24)) 2), rp [(.tmp 61, B false), (.tmp 65, (.dptr (Qaa (x24)) 2))] (I x24.Limit), rp [(.tmp 61, B false), fu 27, (.tmp 66, I x24.Limit), ci 0, ci 1000000000] (B x32), rp [(.tmp 61, B false), (.tmp 67, B x32)] (B ((!x32))), rp [(.tmp 61, B false), cb true, (.tmp 68, (B ((!x32))))] (B ((!x32))), rp [(.tmp 69, (B ((!x32))))] (B true), sk 70 (B true), sk 70 (B true), sk 70 (B true), sk 70 (B true), sk 70 (B true), sk 70 (B true), sk 70 (B true), rp [(.tmp 70, B true), cb true, (.tmp 77, (.lit undef))] (B true)] ?_ ?_
        ·exact ⟨amv rfl, abn rfl rfl, asb hb7 (amv rfl), trivial, trivial, trivial, trivial, trivial, trivial, trivial, trivial, trivial, apk rfl rfl, amv rfl, ag_ (amv rfl), ag_ (amv rfl), ag_ (aid rfl Try.underlying22 ti56 rfl rfl hi26 (mgt Qaa hj27) rfl), ag_ (afd rfl Try.underlying56 rfl rfl ti3 (by decide) rfl), ag_ (ald_ rfl ti3 (by decide) (nle rfl) rfl), ag_ (apc (first := []) (cap := []) (vs := [I x24.Loss, I 0, I 1000000000]) rfl Qe1 (Qb6 N x24.Loss 0 1000000000 _ hf28) rfl rfl (nlc nll (nlc nll (nlc nll nl0))) nll rfl), ag_ (Qap rfl), apk rfl rfl, asb hb30 (amv rfl), ag_ (amv rfl), ag_ (amv rfl), ag_ (aid rfl Try.underlying22 ti56 rfl rfl hi26 (mgt Qaa hj27) rfl), ag_ (afd rfl Try.underlying56 rfl rfl ti3 (by decide) rfl), ag_ (ald_ rfl ti3 (by decide) (nle rfl) rfl), ag_ (apc (first := []) (cap := []) (vs := [I x24.Limit, I 0, I 1000000000]) rfl Qe1 (Qb6 N x24.Limit 0 1000000000 _ hf31) rfl rfl (nlc nll (nlc nll (nlc nll nl0))) nll rfl), ag_ (Qap rfl), apk rfl rfl, asb hb33 (amv rfl), trivial, trivial, trivial, trivial, trivial, trivial, trivial, apk rfl rfl, trivial⟩
        refine Qbq (by kernel_rfl) ?_
        refine wrg [mc (.bool false)] ?_ ?_
        ·exact ⟨aas rfl, trivial⟩
        refine Qak ?_
        refine Qa3 ?_
        refine Qao ?_
        refine Qao ?_
        refine Qa3 ?_
        refine Qao ?_
        obtain rfl := osi h
        exact ⟨⟨[B false], ⟨rot (by kernel_rfl), trivial⟩, rfl⟩, nll, Nat.le_refl _, fun n hn => absurd hn (Nat.not_lt_zero n)⟩
       ·replace h := Qaw hb33 h
        obtain ⟨x35, hf34, h⟩ := bno h
        refine wrg [mv 3 (I y3), rp [(.tmp 39, I y3), ci 0] (B ((decide (y3 > 0)))), rp [(.tmp 40, (B ((decide (y3 > 0)))))] (B false), sk 41 (B false), sk 41 (B false), sk 41 (B false), sk 41 (B false), sk 41 (B false), sk 41 (B false), sk 41 (B false), sk 41 (B false), sk 41 (B false), rp [(.tmp 41, B false), (.tmp 50, (.lit undef)), cb false] (B false), mv 51 (B false), rp [(.tmp 52, B false), (.tmp 0, (.dat 4 ((p0 : List GNode).map Qaa)))] (.dat 4 ((p0 : List GNode).map Qaa)), rp [(.tmp 52, B false), (.tmp 3, I y3)] (I y3), rp [(.tmp 52, B false), (.tmp 53, (.dat 4 ((p0 : List GNode).map Qaa))), (.tmp 54, I y3)] (.dptr (Qaa (x24)) 0), rp [(.tmp 52, B false), (.tmp 55, (.dptr (Qaa (x24)) 0))] (.dptr (Qaa (x24)) 1), rp [(.tmp 52, B false), (.tmp 56, (.dptr (Qaa (x24)) 1))] (I x24.Loss), rp [(.tmp 52, B false), fu 27, (.tmp 57, I x24.Loss), ci 0, ci 1000000000] (B x29), rp [(.tmp 52, B false), (.tmp 58, B x29)] (B ((!x29))), rp [(.tmp 52, B false), cb true, (.tmp 59, (B ((!x29))))] (B ((!x29))), rp [(.tmp 60, (B ((!x29))))] (B false), rp [(.tmp 61, B false), (.tmp 0, (.dat 4 ((p0 : List GNode).map Qaa)))] (.dat 4 ((p0 : List GNode).map Qaa)), rp [(.tmp 61, B false), (.tmp 3, I y3)] (I y3), rp [(.tmp 61, B false), (.tmp 62, (.dat 4 ((p0 : List GNode).map Qaa))), (.tmp 63, I y3)] (.dptr (Qaa (x24)) 0), rp [(.tmp 61, B false), (.tmp 64, (.dptr (Qaa (x24)) 0))] (.dptr (Qaa (x24)) 2), rp [(.tmp 61, B false), (.tmp 65, (.dptr (Qaa (x24)) 2))] (I x24.Limit), rp [(.tmp 61, B false), fu 27, (.tmp 66, I x24.Limit), ci 0, ci 1000000000] (B x32), rp [(.tmp 61, B false), (.tmp 67, B x32)] (B ((!x32))), rp [(.tmp 61, B false), cb true, (.tmp 68, (B ((!x32))))] (B ((!x32))), rp [(.tmp 69, (B ((!x32))))] (B false), rp [(.tmp 70, B false), (.tmp 0, (.dat 4 ((p0 : List GNode).map Qaa)))] (.dat 4 ((p0 : List GNode).map Qaa)), rp [(.tmp 70, B false), (.tmp 3, I y3)] (I y3), rp [(.tmp 70, B false), (.tmp 71, (.dat 4 ((p0 : List GNode).map Qaa))), (.tmp 72, I y3)] (.dptr (Qaa (x24)) 0), rp [(.tmp 70, B false), (.tmp 73, (.dptr (Qaa (x24)) 0))] (.dptr (Qaa (x24)) 3), rp [(.tmp 70, B false), (.tmp 74, (.dptr (Qaa (x24)) 3))] (I x24.Rank), rp [(.tmp 70, B false), fu 27, (.tmp 75, I x24.Rank), ci 0, ci 100] (B x35), rp [(.tmp 70, B false), (.tmp 76, B x35)] (B ((!x35))), rp [(.tmp 70, B false), cb true, (.tmp 77, (B ((!x35))))] (B ((!x35)))] ?_ ?_
        ·exact ⟨amv rfl, abn rfl rfl, asb hb7 (amv rfl), trivial, trivial, trivial, trivial, trivial, trivial, trivial, trivial, trivial, apk rfl rfl, amv rfl, ag_ (amv rfl), ag_ (amv rfl), ag_ (aid rfl Try.underlying22 ti56 rfl rfl hi26 (mgt Qaa hj27) rfl), ag_ (afd rfl Try.underlying56 rfl rfl ti3 (by decide) rfl), ag_ (ald_ rfl ti3 (by decide) (nle rfl) rfl), ag_ (apc (first := []) (cap := []) (vs := [I x24.Loss, I 0, I 1000000000]) rfl Qe1 (Qb6 N x24.Loss 0 1000000000 _ hf28) rfl rfl (nlc nll (nlc nll (nlc nll nl0))) nll rfl), ag_ (Qap rfl), apk rfl rfl, asb hb30 (amv rfl), ag_ (amv rfl), ag_ (amv rfl), ag_ (aid rfl Try.underlying22 ti56 rfl rfl hi26 (mgt Qaa hj27) rfl), ag_ (afd rfl Try.underlying56 rfl rfl ti3 (by decide) rfl), ag_ (ald_ rfl ti3 (by decide) (nle rfl) rfl), ag_ (apc (first := []) (cap := []) (vs := [I x24.Limit, I 0, I 1000000000]) rfl Qe1 (Qb6 N x24.Limit 0 1000000000 _ hf31) rfl rfl (nlc nll (nlc nll (nlc nll nl0))) nll rfl), ag_ (Qap rfl), apk rfl rfl, asb hb33 (amv rfl), ag_ (amv rfl), ag_ (amv rfl), ag_ (aid rfl Try.underlying22 ti56 rfl rfl hi26 (mgt Qaa hj27) rfl), ag_ (afd rfl Try.underlying56 rfl rfl ti3 (by decide) rfl), ag_ (ald_ rfl ti3 (by decide) (nle rfl) rfl), ag_ (apc (first := []) (cap := []) (vs := [I x24.Rank, I 0, I 100]) rfl Qe1 (Qb6 N x24.Rank 0 100 _ hf34) rfl rfl (nlc nll (nlc nll (nlc nll nl0))) nll rfl), ag_ (Qap rfl), apk rfl rfl, trivial⟩
        rcases bft ((!x35)) with hc36 | hc36
        ·replace h := Qav hc36 h
         refine wft hc36 (by kernel_rfl) ?_
         refine wrg [mc (.bool false)] ?_ ?_
         ·exact ⟨aas rfl, trivial⟩
         refine Qak ?_
         refine Qa3 ?_
         refine Qao ?_
         refine Qao ?_
         refine Qa3 ?_
         refine Qao ?_
         obtain rfl := osi h
         exact ⟨⟨[B false], ⟨rot (by kernel_rfl), trivial⟩, rfl⟩, nll, Nat.le_refl _, fun n hn => absurd hn (Nat.not_lt_zero n)⟩
        ·replace h := Qaw hc36 h
         refine wfn hc36 (by kernel_rfl) ?_
         refine Qam ?_
         refine bln ?_
         refine thn ?_
         refine Qar [mv 3 (I y3), rp [(.tmp 37, I y3), ci 1] (I (w64 (y3 + 1))), mv 38 (I (w64 (y3 + 1)))] ?_ ?_
         ·exact ⟨amv rfl, abn rfl rfl, aas rfl, trivial⟩
         refine thn ?_
         exact arm (mto (n := 79) [(0, (.dat 4 ((p0 : List GNode).map Qaa))), (3, (I (w64 (y3 + 1))))] [] [] hφ0 (pc (.rn (.plain _ (nld Qag _))) (pc rwl pn)) qn) (ih (w64 (y3 + 1)) h)
    ·replace h := Qaw hc6 h
     refine wfn hc6 (by kernel_rfl) ?_
     refine Qbf ?_
     refine Qau ?_
     refine Qau ?_
     refine Qbe rfl ?_
     refine thn ?_
     exact ⟨(), h, (mto (n := 79) [] [] [] hφ0 pn qn)⟩
  ·skip
   rcases bft ((decide ((p0.length : Int) < 1))) with hb37 | hb37
   ·replace h := Qav hb37 h
    refine wrg [mv 0 (.dat 4 ((p0 : List GNode).map Qaa)), rp [(.tmp 4, (.dat 4 ((p0 : List GNode).map Qaa)))] (I ((p0.length : Int))), rp [(.tmp 5, (I ((p0.length : Int)))), ci 1] (B ((decide ((p0.length : Int) < 1)))), rp [(.tmp 6, (B ((decide ((p0.length : Int) < 1)))))] (B true), sk 7 (B true), sk 7 (B true), sk 7 (B true), rp [(.tmp 7, B true), cb true, (.tmp 10, (.lit undef))] (B true), mv 11 (B true), sk 12 (B true), sk 12 (B true), sk 12 (B true), sk 12 (B true), sk 12 (B true), rp [(.tmp 12, B true), cb true, (.tmp 17, (.lit undef))] (B true), mv 18 (B true), sk 19 (B true), sk 19 (B true), sk 19 (B true), sk 19 (B true), sk 19 (B true), rp [(.tmp 19, B true), cb true, (.tmp 24, (.lit undef))] (B true), mv 25 (B true), sk 26 (B true), sk 26 (B true), sk 26 (B true), sk 26 (B true), sk 26 (B true), rp [(.tmp 26, B true), cb true, (.tmp 31, (.lit undef))] (B true)] ?_ ?_
    ·exact ⟨amv rfl, alm (c := Qaa) (l := p0) (aln rfl Try.underlying22 rfl), abn rfl rfl, asb hb37 (amv rfl), trivial, trivial, trivial, apk rfl rfl, amv rfl, trivial, trivial, trivial, trivial, trivial, apk rfl rfl, amv rfl, trivial, trivial, trivial, trivial, trivial, apk rfl rfl, amv rfl, trivial, trivial, trivial, trivial, trivial, apk rfl rfl, trivial⟩
    refine Qbq (by kernel_rfl) ?_
    refine wrg [mc (.bool false)] ?_ ?_
    ·exact ⟨aas rfl, trivial⟩
    refine Qak ?_
    refine Qao ?_
    obtain rfl := osi h
    exact ⟨⟨[B false], ⟨rot (by kernel_rfl), trivial⟩, rfl⟩, nll, Nat.le_refl _, fun n hn => absurd hn (Nat.not_lt_zero n)⟩
   ·replace h := Qaw hb37 h
    rcases bft ((decide ((p0.length : Int) > 30))) with hb38 | hb38
    ·replace h := Qav hb38 h
     refine wrg [mv 0 (.dat 4 ((p0 : List GNode).map Qaa)), rp [(.tmp 4, (.dat 4 ((p0 : List GNode).map Qaa)))] (I ((p0.length : Int))), rp [(.tmp 5, (I ((p0.length : Int)))), ci 1] (B ((decide ((p0.length : Int) < 1)))), rp [(.tmp 6, (B ((decide ((p0.length : Int) < 1)))))] (B false), rp [(.tmp 7, B false), (.tmp 0, (.dat 4 ((p0 : List GNode).map Qaa)))] (.dat 4 ((p0 : List GNode).map Qaa)), rp [(.tmp 7, B false), (.tmp 8, (.dat 4 ((p0 : List GNode).map Qaa)))] (I ((p0.length : Int))), rp [(.tmp 7, B false), (.tmp 9, (I ((p0.length : Int)))), ci 30] (B ((decide ((p0.length : Int) > 30)))), rp [(.tmp 7, B false), cb true, (.tmp 10, (B ((decide ((p0.length : Int) > 30)))))] (B ((decide ((p0.length : Int) > 30)))), rp [(.tmp 11, (B ((decide ((p0.length : Int) > 30)))))] (B true), sk 12 (B true), sk 12 (B true), sk 12 (B true), sk 12 (B true), sk 12 (B true), rp [(.tmp 12, B true), cb true, (.tmp 17, (.lit undef))] (B true), mv 18 (B true), sk 19 (B true), sk 19 (B true), sk 19 (B true), sk 19 (B true), sk 19 (B true), rp [(.tmp 19, B true), cb true, (.tmp 24, (.lit undef))] (B true), mv 25 (B true), sk 26 (B true), sk 26 (B true), sk 26 (B true), sk 26 (B true), sk 26 (B true), rp [(.tmp 26, B true), cb true, (.tmp 31, (.lit undef))] (B true)] ?_ ?_
     ·exact ⟨amv rfl, alm (c := Qaa) (l := p0) (aln rfl Try.underlying22 rfl), abn rfl rfl, asb hb37 (amv rfl), ag_ (amv rfl), ag_ (alm (c := Qaa) (l := p0) (aln rfl Try.underlying22 rfl)), ag_ (abn rfl rfl), apk rfl rfl, asb hb38 (amv rfl), trivial, trivial, trivial, trivial, trivial, apk rfl rfl, amv rfl, trivial, trivial, trivial, trivial, trivial, apk rfl rfl, amv rfl, trivial, trivial, trivial, trivial, trivial, apk rfl rfl, trivial⟩
     refine Qbq (by kernel_rfl) ?_
     refine wrg [mc (.bool false)] ?_ ?_
     ·exact ⟨aas rfl, trivial⟩
     refine Qak ?_
     refine Qao ?_
     obtain rfl := osi h
     exact ⟨⟨[B false], ⟨rot (by kernel_rfl), trivial⟩, rfl⟩, nll, Nat.le_refl _, fun n hn => absurd hn (Nat.not_lt_zero n)⟩
    ·replace h := Qaw hb38 h
     obtain ⟨x39, hg40, h⟩ := bno h
     obtain ⟨hi41, hj42⟩ := gsm hg40
     rcases bft ((x39.Parent != (-1))) with hb43 | hb43
     ·replace h := Qav hb43 h
      refine wrg [mv 0 (.dat 4 ((p0 : List GNode).map Qaa)), rp [(.tmp 4, (.dat 4 ((p0 : List GNode).map Qaa)))] (I ((p0.length : Int))), rp [(.tmp 5, (I ((p0.length : Int)))), ci 1] (B ((decide ((p0.length : Int) < 1)))), rp [(.tmp 6, (B ((decide ((p0.length : Int) < 1)))))] (B false), rp [(.tmp 7, B false), (.tmp 0, (.dat 4 ((p0 : List GNode).map Qaa)))] (.dat 4 ((p0 : List GNode).map Qaa)), rp [(.tmp 7, B false), (.tmp 8, (.dat 4 ((p0 : List GNode).map Qaa)))] (I ((p0.length : Int))), rp [(.tmp 7, B false), (.tmp 9, (I ((p0.length : Int)))), ci 30] (B ((decide ((p0.length : Int) > 30)))), rp [(.tmp 7, B false), cb true, (.tmp 10, (B ((decide ((p0.length : Int) > 30)))))] (B ((decide ((p0.length : Int) > 30)))), rp [(.tmp 11, (B ((decide ((p0.length : Int) > 30)))))] (B false), rp [(.tmp 12, B false), (.tmp 0, (.dat 4 ((p0 : List GNode).map Qaa)))] (.dat 4 ((p0 : List GNode).map Qaa)), rp [(.tmp 12, B false), (.tmp 13, (.dat 4 ((p0 : List GNode).map Qaa))), ci 0] (.dptr (Qaa (x39)) 0), rp [(.tmp 12, B false), (.tmp 14, (.dptr (Qaa (x39)) 0))] (.dptr (Qaa (x39)) 0), rp [(.tmp 12, B false), (.tmp 15, (.dptr (Qaa (x39)) 0))] (I x39.Parent), rp [(.tmp 12, B false), (.tmp 16, I x39.Parent), ci (-1)] (B ((x39.Parent != (-1)))), rp [(.tmp 12, B false), cb true, (.tmp 17, (B ((x39.Parent != (-1)))))] (B ((x39.Parent != (-1)))), rp [(.tmp 18, (B ((x39.Parent != (-1)))))] (B true), sk 19 (B true), sk 19 (B true), sk 19 (B true), sk 19 (B true), sk 19 (B true), rp [(.tmp 19, B true), cb true, (.tmp 24, (.lit undef))] (B true), mv 25 (B true), sk 26 (B true), sk 26 (B true), sk 26 (B true), sk 26 (B true), sk 26 (B true), rp [(.tmp 26, B true), cb true, (.tmp 31, (.lit undef))] (B true)] ?_ ?_
      ·exact ⟨amv rfl, alm (c := Qaa) (l := p0) (aln rfl Try.underlying22 rfl), abn rfl rfl, asb hb37 (amv rfl), ag_ (amv rfl), ag_ (alm (c := Qaa) (l := p0) (aln rfl Try.underlying22 rfl)), ag_ (abn rfl rfl), apk rfl rfl, asb hb38 (amv rfl), ag_ (amv rfl), ag_ (aid rfl Try.underlying22 ti56 rfl rfl hi41 (mgt Qaa hj42) rfl), ag_ (afd rfl Try.underlying56 rfl rfl ti3 (by decide) rfl), ag_ (ald_ rfl ti3 (by decide) (nle rfl) rfl), ag_ (abn rfl rfl), apk rfl rfl, asb hb43 (amv rfl), trivial, trivial, trivial, trivial, trivial, apk rfl rfl, amv rfl, trivial, trivial, trivial, trivial, trivial, apk rfl rfl, trivial⟩
      refine Qbq (by kernel_rfl) ?_
      refine wrg [mc (.bool false)] ?_ ?_
      ·exact ⟨aas rfl, trivial⟩
      refine Qak ?_
      refine Qao ?_
      obtain rfl := osi h
      exact ⟨⟨[B false], ⟨rot (by kernel_rfl), trivial⟩, rfl⟩, nll, Nat.le_refl _, fun n hn => absurd hn (Nat.not_lt_zero n)⟩
     ·replace h := Qaw hb43 h
      rcases bft ((x39.Loss != 0)) with hb44 | hb44
      ·replace h := Qav hb44 h
       refine wrg [mv 0 (.dat 4 ((p0 : List GNode).map Qaa)), rp [(.tmp 4, (.dat 4 ((p0 : List GNode).map Qaa)))] (I ((p0.length : Int))), rp [(.tmp 5, (I ((p0.length : Int)))), ci 1] (B ((decide ((p0.length : Int) < 1)))), rp [(.tmp 6, (B ((decide ((p0.length : Int) < 1)))))] (B false), rp [(.tmp 7, B false), (.tmp 0, (.dat 4 ((p0 : List GNode).map Qaa)))] (.dat 4 ((p0 : List GNode).map Qaa)), rp [(.tmp 7, B false), (.tmp 8, (.dat 4 ((p0 : List GNode).map Qaa)))] (I ((p0.length : Int))), rp [(.tmp 7, B false), (.tmp 9, (I ((p0.length : Int)))), ci 30] (B ((decide ((p0.length : Int) > 30)))), rp [(.tmp 7, B false), cb true, (.tmp 10, (B ((decide ((p0.length : Int) > 30)))))] (B ((decide ((p0.length : Int) > 30)))), rp [(.tmp 11, (B ((decide ((p0.length : Int) > 30)))))] (B false), rp [(.tmp 12, B false), (.tmp 0, (.dat 4 ((p0 : List GNode).map Qaa)))] (.dat 4 ((p0 : List GNode).map Qaa)), rp [(.tmp 12, B false), (.tmp 13, (.dat 4 ((p0 : List GNode).map Qaa))), ci 0] (.dptr (Qaa (x39)) 0), rp [(.tmp 12, B false), (.tmp 14, (.dptr (Qaa (x39)) 0))] (.dptr (Qaa (x39)) 0), rp [(.tmp 12, B false), (.tmp 15, (.dptr (Qaa (x39)) 0))] (I x39.Parent), rp [(.tmp 12, B false), (.tmp 16, I x39.Parent), ci (-1)] (B ((x39.Parent != (-1)))), rp [(.tmp 12, B false), cb true, (.tmp 17, (B ((x39.Parent != (-1)))))] (B ((x39.Parent != (-1)))), rp [(.tmp 18, (B ((x39.Parent != (-1)))))] (B false), rp [(.tmp 19, B false), (.tmp 0, (.dat 4 ((p0 : List GNode).map Qaa)))] (.dat 4 ((p0 : List GNode).map Qaa)), rp [(.tmp 19, B false), (.tmp 20, (.dat 4 ((p0 : List GNode).map Qaa))), ci 0] (.dptr (Qaa (x39)) 0), rp [(.tmp 19, B false), (.tmp 21, (.dptr (Qaa (x39)) 0))] (.dptr (Qaa (x39)) 1), rp [(.tmp 19, B false), (.tmp 22, (.dptr (Qaa (x39)) 1))] (I x39.Loss), rp [(.tmp 19, B false), (.tmp 23, I x39.Loss), ci 0] (B ((x39.Loss != 0))), rp [(.tmp 19, B false), cb true, (.tmp 24, (B ((x39.Loss != 0))))] (B ((x39.Loss != 0))), rp [(.tmp 25, (B ((x39.Loss != 0))))] (B true), sk 26 (B true), sk 26 (B true), sk 26 (B true), sk 26 (B true), sk 26 (B true), rp [(.tmp 26, B true), cb true, (.tmp 31, (.lit undef))] (B true)] ?_ ?_
       ·exact ⟨amv rfl, alm (c := Qaa) (l := p0) (aln rfl Try.underlying22 rfl), abn rfl rfl, asb hb37 (amv rfl), ag_ (amv rfl), ag_ (alm (c := Qaa) (l := p0) (aln rfl Try.underlying22 rfl)), ag_ (abn rfl rfl), apk rfl rfl, asb hb38 (amv rfl), ag_ (amv rfl), ag_ (aid rfl Try.underlying22 ti56 rfl rfl hi41 (mgt Qaa hj42) rfl), ag_ (afd rfl Try.underlying56 rfl rfl ti3 (by decide) rfl), ag_ (ald_ rfl ti3 (by decide) (nle rfl) rfl), ag_ (abn rfl rfl), apk rfl rfl, asb hb43 (amv rfl), ag_ (amv rfl), ag_ (aid rfl Try.underlying22 ti56 rfl rfl hi41 (mgt Qaa hj42) rfl), ag_ (afd rfl Try.underlying56 rfl rfl ti3 (by decide) rfl), ag_ (ald_ rfl ti3 (by decide) (nle rfl) rfl), ag_ (abn rfl rfl), apk rfl rfl, asb hb44 (amv rfl), trivial, trivial, trivial, trivial, trivial, apk rfl rfl, trivial⟩
       refine Qbq (by kernel_rfl) ?_
       refine wrg [mc (.bool false)] ?_ ?_
       ·exact ⟨aas rfl, trivial⟩
       refine Qak ?_
       refine Qao ?_
       obtain rfl := osi h
       exact ⟨⟨[B false], ⟨rot (by kernel_rfl), trivial⟩, rfl⟩, nll, Nat.le_refl _, fun n hn => absurd hn (Nat.not_lt_zero n)⟩
      ·replace h := Qaw hb44 h
       refine wrg [mv 0 (.dat 4 ((p0 : List GNode).map Qaa)), rp [(.tmp 4, (.dat 4 ((p0 : List GNode).map Qaa)))] (I ((p0.length : Int))), rp [(.tmp 5, (I ((p0.length : Int)))), ci 1] (B ((decide ((p0.length : Int) < 1)))), rp [(.tmp 6, (B ((decide ((p0.length : Int) < 1)))))] (B false), rp [(.tmp 7, B false), (.tmp 0, (.dat 4 ((p0 : List GNode).map Qaa)))] (.dat 4 ((p0 : List GNode).map Qaa)), rp [(.tmp 7, B false), (.tmp 8, (.dat 4 ((p0 : List GNode).map Qaa)))] (I ((p0.length : Int))), rp [(.tmp 7, B false), (.tmp 9, (I ((p0.length : Int)))), ci 30] (B ((decide ((p0.length : Int) > 30)))), rp [(.tmp 7, B false), cb true, (.tmp 10, (B ((decide ((p0.length : Int) > 30)))))] (B ((decide ((p0.length : Int) > 30)))), rp [(.tmp 11, (B ((decide ((p0.length : Int) > 30)))))] (B false), rp [(.tmp 12, B false), (.tmp 0, (.dat 4 ((p0 : List GNode).map Qaa)))] (.dat 4 ((p0 : List GNode).map Qaa)), rp [(.tmp 12, B false), (.tmp 13, (.dat 4 ((p0 : List GNode).map Qaa))), ci 0] (.dptr (Qaa (x39)) 0), rp [(.tmp 12, B false), (.tmp 14, (.dptr (Qaa (x39)) 0))] (.dptr (Qaa (x39)) 0), rp [(.tmp 12, B false), (.tmp 15, (.dptr (Qaa (x39)) 0))] (I x39.Parent), rp [(.tmp 12, B false), (.tmp 16, I x39.Parent), ci (-1)] (B ((x39.Parent != (-1)))), rp [(.tmp 12, B false), cb true, (.tmp 17, (B ((x39.Parent != (-1)))))] (B ((x39.Parent != (-1)))), rp [(.tmp 18, (B ((x39.Parent != (-1)))))] (B false), rp [(.tmp 19, B false), (.tmp 0, (.dat 4 ((p0 : List GNode).map Qaa)))] (.dat 4 ((p0 : List GNode).map Qaa)), rp [(.tmp 19, B false), (.tmp 20, (.dat 4 ((p0 : List GNode).map Qaa))), ci 0] (.dptr (Qaa (x39)) 0), rp [(.tmp 19, B false), (.tmp 21, (.dptr (Qaa (x39)) 0))] (.dptr (Qaa (x39)) 1), rp [(.tmp 19, B false), (.tmp 22, (.dptr (Qaa (x39)) 1))] (I x39.Loss), rp [(.tmp 19, B false), (.tmp 23, I x39.Loss), ci 0] (B ((x39.Loss != 0))), rp [(.tmp 19, B false), cb true, (.tmp 24, (B ((x39.Loss != 0))))] (B ((x39.Loss != 0))), rp [(.tmp 25, (B ((x39.Loss != 0))))] (B false), rp [(.tmp 26, B false), (.tmp 0, (.dat 4 ((p0 : List GNode).map Qaa)))] (.dat 4 ((p0 : List GNode).map Qaa)), rp [(.tmp 26, B false), (.tmp 27, (.dat 4 ((p0 : List GNode).map Qaa))), ci 0] (.dptr (Qaa (x39)) 0), rp [(.tmp 26, B false), (.tmp 28, (.dptr (Qaa (x39)) 0))] (.dptr (Qaa (x39)) 2), rp [(.tmp 26, B false), (.tmp 29, (.dptr (Qaa (x39)) 2))] (I x39.Limit), rp [(.tmp 26, B false), (.tmp 30, I x39.Limit), ci 0] (B ((x39.Limit != 0))), rp [(.tmp 26, B false), cb true, (.tmp 31, (B ((x39.Limit != 0))))] (B ((x39.Limit != 0)))] ?_ ?_
       ·exact ⟨amv rfl, alm (c := Qaa) (l := p0) (aln rfl Try.underlying22 rfl), abn rfl rfl, asb hb37 (amv rfl), ag_ (amv rfl), ag_ (alm (c := Qaa) (l := p0) (aln rfl Try.underlying22 rfl)), ag_ (abn rfl rfl), apk rfl rfl, asb hb38 (amv rfl), ag_ (amv rfl), ag_ (aid rfl Try.underlying22 ti56 rfl rfl hi41 (mgt Qaa hj42) rfl), ag_ (afd rfl Try.underlying56 rfl rfl ti3 (by decide) rfl), ag_ (ald_ rfl ti3 (by decide) (nle rfl) rfl), ag_ (abn rfl rfl), apk rfl rfl, asb hb43 (amv rfl), ag_ (amv rfl), ag_ (aid rfl Try.underlying22 ti56 rfl rfl hi41 (mgt Qaa hj42) rfl), ag_ (afd rfl Try.underlying56 rfl rfl ti3 (by decide) rfl), ag_ (ald_ rfl ti3 (by decide) (nle rfl) rfl), ag_ (abn rfl rfl), apk rfl rfl, asb hb44 (amv rfl), ag_ (amv rfl), ag_ (aid rfl Try.underlying22 ti56 rfl rfl hi41 (mgt Qaa hj42) rfl), ag_ (afd rfl Try.underlying56 rfl rfl ti3 (by decide) rfl), ag_ (ald_ rfl ti3 (by decide) (nle rfl) rfl), ag_ (abn rfl rfl), apk rfl rfl, trivial⟩
       rcases bft ((x39.Limit != 0)) with hc45 | hc45
       ·replace h := Qav hc45 h
        refine wft hc45 (by kernel_rfl) ?_
        refine wrg [mc (.bool false)] ?_ ?_
        ·exact ⟨aas rfl, trivial⟩
        refine Qak ?_
        refine Qao ?_
        obtain rfl := osi h
        exact ⟨⟨[B false], ⟨rot (by kernel_rfl), trivial⟩, rfl⟩, nll, Nat.le_refl _, fun n hn => absurd hn (Nat.not_lt_zero n)⟩
       ·replace h := Qaw hc45 h
        refine wfn hc45 (by kernel_rfl) ?_
        refine Qam ?_
        refine thn ?_
        exact ⟨(), h, (mto (n := 79) [(0, (.dat 4 ((p0 : List GNode).map Qaa)))] [] [] hφ0 (pc (.rn (.plain _ (nld Qag _))) pn) qn)⟩

def Qdu (N : Nat) (p0 : (List GNode)) (k2 : (List GNode) → Option (List GNode)) : Nat → (List GNode) → Int → Option (List GNode)
  | 0, _, _ => none
  | n7 + 1, y3, y4 =>
    bif (decide (y4 < (p0.length : Int))) then
     (getI p0 y4).bind fun x9 =>
     chk (decide ((y3.length + ([x9]).length) * 32 ≤ 140737488355328)) <|
     Qdu N p0 k2 n7 (y3 ++ ([x9])) (w64 (y4 + 1))
    else
     k2 (y3)
def Qf4 (N : Nat) (p0 : (List GNode)) : Option (List GNode) :=
  Qca (fun y1 =>
    some y1) fun k2 : (List GNode) → Option (List GNode) =>
  Qdu N p0 k2 N ([]) 0
set_option maxRecDepth 100000 in
set_option maxHeartbeats 4000000 in
theorem law10_TownX_ok (N : Nat) (p0 : (List GNode)) (r : (List GNode)) (h : Qf4 N p0 = some r) : Spec Try.prog 23 [(.dat 4 (p0.map Qaa))] [] (.dat 4 (r.map Qaa)) [] := by
  refine Qaq Try.func23 rfl 0 (nle rfl) (fun X φ0 w0 hφ0 => ?_)
  unfold Qf4 at h
  refine wrg [mc (.slice none 0 0)] ?_ ?_
  ·exact ⟨aas rfl, trivial⟩
  refine wrg [mc (.slice none 0 0)] ?_ ?_
  ·exact ⟨aas rfl, trivial⟩
  obtain ⟨k2, hk_k2, h⟩ := jko h
  refine wjn (τ := (List GNode)) (fun t => k2 t = some r) (fun y1 => ⟨mk 36 [(3, (.acc 0 141 4 ((y1 : List GNode).map Qaa)))], [.tok]⟩) (fun y1 h => ?_) ?_
  ·subst hk_k2
   refine wrg [mv 3 (.acc 0 141 4 ((y1 : List GNode).map Qaa)), mv 35 (.acc 0 141 4 ((y1 : List GNode).map Qaa))] ?_ ?_
   ·exact ⟨amv rfl, aas rfl, trivial⟩
   refine Qak ?_
   obtain rfl := osi h
   exact ⟨⟨[(.dat 4 ((y1 : List GNode).map Qaa))], ⟨Qhs (v := (.acc 0 141 4 ((y1 : List GNode).map Qaa))) (rot (by kernel_rfl)) Less.acc, trivial⟩, rfl⟩, (nld Qag _), Nat.le_refl _, fun n hn => absurd hn (Nat.not_lt_zero n)⟩
  ·skip
   refine wrg [mc (.int .i64 0)] ?_ ?_
   ·exact ⟨aas rfl, trivial⟩
   refine Qan ?_
   refine wmr (Mor.trans (mor_nil 0 141 4 3 (by kernel_rfl) (by kernel_rfl)) (mto (n := 36) (l' := [(0, (.dat 4 ((p0 : List GNode).map Qaa))), (3, (.acc 0 141 4 ((([]) : List GNode).map Qaa))), (4, I 0)]) (own' := [.tok]) [(0, (.dat 4 ((p0 : List GNode).map Qaa))), (3, (.acc 0 141 4 (([] : List GNode).map Qaa))), (4, I 0)] [0] [.tok] hφ0 (pc (.rn (.plain _ (nld Qag _))) (pc (.rn (Qe6 rfl (Qef Qag _))) (pc rwl pn))) (qc .tok qn))) ?_
   refine Qcc (τ := (List GNode) × Int) (fun n t => Qdu N p0 k2 n t.1 t.2 = some r) (fun ⟨y3, y4⟩ => ⟨mk 36 [(0, (.dat 4 ((p0 : List GNode).map Qaa))), (3, (.acc 0 141 4 ((y3 : List GNode).map Qaa))), (4, I y4)], [.tok]⟩) (fun t h => by rw [Qdu] at h; cases h) (fun n7 ih t h => ?_) N ([], 0) h
   obtain ⟨y3, y4⟩ := t
   rw [Qdu] at h
   skip
   refine wsq ?_
   refine wrg [mv 4 (I y4), mv 0 (.dat 4 ((p0 : List GNode).map Qaa)), rp [(.tmp 6, (.dat 4 ((p0 : List GNode).map Qaa)))] (I ((p0.length : Int))), rp [(.tmp 5, I y4), (.tmp 7, (I ((p0.length : Int))))] (B ((decide (y4 < (p0.length : Int)))))] ?_ ?_
   ·exact ⟨amv rfl, amv rfl, alm (c := Qaa) (l := p0) (aln rfl Try.underlying22 rfl), abn rfl rfl, trivial⟩
   rcases bft ((decide (y4 < (p0.length : Int)))) with hc8 | hc8
   ·replace h := Qav hc8 h
    refine wft hc8 (by kernel_rfl) ?_
    refine Qam ?_
    refine thn ?_
    refine wsq ?_
    refine Qan ?_
    obtain ⟨x9, hg10, h⟩ := bno h
    obtain ⟨hi11, hj12⟩ := gsm hg10
    obtain ⟨ha13, h⟩ := cko h
    refine Qde [mv 3 (.acc 0 141 4 ((y3 : List GNode).map Qaa)), mv 0 (.dat 4 ((p0 : List GNode).map Qaa)), mv 4 (I y4), rp [(.tmp 12, (.dat 4 ((p0 : List GNode).map Qaa))), (.tmp 13, I y4)] (.dptr (Qaa (x9)) 0), mv 14 (.dptr (Qaa (x9)) 0), rp [(.tmp 15, (.dptr (Qaa (x9)) 0))] (I x9.Parent), mv 0 (.dat 4 ((p0 : List GNode).map Qaa)), mv 4 (I y4), rp [(.tmp 17, (.dat 4 ((p0 : List GNode).map Qaa))), (.tmp 18, I y4)] (.dptr (Qaa (x9)) 0), rp [(.tmp 19, (.dptr (Qaa (x9)) 0))] (.dptr (Qaa (x9)) 1), rp [(.tmp 20, (.dptr (Qaa (x9)) 1))] (I x9.Loss), mv 0 (.dat 4 ((p0 : List GNode).map Qaa)), mv 4 (I y4), rp [(.tmp 22, (.dat 4 ((p0 : List GNode).map Qaa))), (.tmp 23, I y4)] (.dptr (Qaa (x9)) 0), rp [(.tmp 24, (.dptr (Qaa (x9)) 0))] (.dptr (Qaa (x9)) 2), rp [(.tmp 25, (.dptr (Qaa (x9)) 2))] (I x9.Limit), mv 0 (.dat 4 ((p0 : List GNode).map Qaa)), mv 4 (I y4), rp [(.tmp 27, (.dat 4 ((p0 : List GNode).map Qaa))), (.tmp 28, I y4)] (.dptr (Qaa (x9)) 0), rp [(.tmp 29, (.dptr (Qaa (x9)) 0))] (.dptr (Qaa (x9)) 3), rp [(.tmp 30, (.dptr (Qaa (x9)) 3))] (I x9.Rank), rp [(.tmp 16, I x9.Parent), (.tmp 21, I x9.Loss), (.tmp 26, I x9.Limit), (.tmp 31, I x9.Rank)] (.agg [I x9.Parent, I x9.Loss, I x9.Limit, I x9.Rank]), rp [(.tmp 32, (.agg [I x9.Parent, I x9.Loss, I x9.Limit, I x9.Rank]))] (.dat 4 (([x9] : List GNode).map Qaa)), ⟨[(.tmp 11, (.acc 0 141 4 ((y3 : List GNode).map Qaa))), (.tmp 33, (.dat 4 (([x9] : List GNode).map Qaa)))], [(0, .tok), (1, .unused)], (.acc 1 141 4 ((y3 ++ ([x9]) : List GNode).map Qaa)), [(0, .dead), (1, .tok)], false⟩, mv 34 (.acc 1 141 4 ((y3 ++ ([x9]) : List GNode).map Qaa))] ?_ ?_
    ·exact ⟨amv rfl, amv rfl, amv rfl, aid rfl Try.underlying22 ti56 rfl rfl hi11 (mgt Qaa hj12) rfl, afd rfl Try.underlying56 rfl rfl ti3 (by decide) rfl, ald_ rfl ti3 (by decide) (nle rfl) rfl, amv rfl, amv rfl, aid rfl Try.underlying22 ti56 rfl rfl hi11 (mgt Qaa hj12) rfl, afd rfl Try.underlying56 rfl rfl ti3 (by decide) rfl, ald_ rfl ti3 (by decide) (nle rfl) rfl, amv rfl, amv rfl, aid rfl Try.underlying22 ti56 rfl rfl hi11 (mgt Qaa hj12) rfl, afd rfl Try.underlying56 rfl rfl ti3 (by decide) rfl, ald_ rfl ti3 (by decide) (nle rfl) rfl, amv rfl, amv rfl, aid rfl Try.underlying22 ti56 rfl rfl hi11 (mgt Qaa hj12) rfl, afd rfl Try.underlying56 rfl rfl ti3 (by decide) rfl, ald_ rfl ti3 (by decide) (nle rfl) rfl, Qa9 (vs := [I x9.Parent, I x9.Loss, I x9.Limit, I x9.Rank]) rfl ts141 tz141 rfl (by rfl) rfl, Qbg (vs := [(.agg [I x9.Parent, I x9.Loss, I x9.Limit, I x9.Rank])]) rfl Try.underlying31 Qgu tz141 rfl (by decide) rfl (by decide) (by rfl) (by rfl) (by rfl) rfl, Qi2 rfl Try.underlying31 te141 (Base.acc _ _) rfl rfl (by rfl) (app_le1 Qaa ha13) (app_le2 Qaa ha13 (by decide)) (app_map Qaa) rfl rfl, aas rfl, trivial⟩
    refine bln ?_
    refine thn ?_
    refine Qar [mv 4 (I y4), rp [(.tmp 9, I y4), ci 1] (I (w64 (y4 + 1))), mv 10 (I (w64 (y4 + 1)))] ?_ ?_
    ·exact ⟨amv rfl, abn rfl rfl, aas rfl, trivial⟩
    refine thn ?_
    exact arm (mto (n := 36) [(0, (.dat 4 ((p0 : List GNode).map Qaa))), (3, (.acc 1 141 4 ((y3 ++ ([x9]) : List GNode).map Qaa))), (4, (I (w64 (y4 + 1))))] [1] [.tok] hφ0 (pc (.rn (.plain _ (nld Qag _))) (pc (.rn (Qe6 rfl (Qef Qag _))) (pc rwl pn))) (qc .tok qn)) (ih (y3 ++ ([x9]), w64 (y4 + 1)) h)
   ·replace h := Qaw hc8 h
    refine wfn hc8 (by kernel_rfl) ?_
    refine Qbf ?_
    refine Qau ?_
    refine Qau ?_
    refine Qbe rfl ?_
    refine thn ?_
    exact ⟨(y3), h, (mto (n := 36) [(3, (.acc 0 141 4 ((y3 : List GNode).map Qaa)))] [0] [.tok] hφ0 (pc (.rn (Qe6 rfl (Qef Qag _))) pn) (qc .tok qn))⟩

def Qg3 (_N : Nat) (p0 : (List GNode)) (p1 : (List Int)) : Option Bool :=
  bif (decide ((p0.length : Int) ≤ 35)) then
   some (decide ((p1.length : Int) ≤ 35))
  else
   some false
set_option maxRecDepth 100000 in
set_option maxHeartbeats 4000000 in
theorem Qgk (N : Nat) (p0 : (List GNode)) (p1 : (List Int)) (r : Bool) (h : Qg3 N p0 p1 = some r) : Spec Try.prog 20 [(.dat 4 (p0.map Qaa)), (.dat 1 (p1.map Qac))] [] (B r) [] := by
  refine Qaq Try.func20 rfl 0 (nle rfl) (fun X φ0 w0 hφ0 => ?_)
  unfold Qg3 at h
  refine wrg [mc (.bool false)] ?_ ?_
  ·exact ⟨aas rfl, trivial⟩
  rcases bft ((decide ((p0.length : Int) ≤ 35))) with hb1 | hb1
  ·replace h := Qav hb1 h
   refine wrg [mv 0 (.dat 4 ((p0 : List GNode).map Qaa)), rp [(.tmp 5, (.dat 4 ((p0 : List GNode).map Qaa)))] (I ((p0.length : Int))), rp [(.tmp 6, (I ((p0.length : Int)))), ci 35] (B ((decide ((p0.length : Int) ≤ 35)))), rp [(.tmp 7, (B ((decide ((p0.length : Int) ≤ 35)))))] (B true), rp [(.tmp 8, B true), (.tmp 1, (.dat 1 ((p1 : List Int).map Qac)))] (.dat 1 ((p1 : List Int).map Qac)), rp [(.tmp 8, B true), (.tmp 9, (.dat 1 ((p1 : List Int).map Qac)))] (I ((p1.length : Int))), rp [(.tmp 8, B true), (.tmp 10, (I ((p1.length : Int)))), ci 35] (B ((decide ((p1.length : Int) ≤ 35)))), rp [(.tmp 8, B true), (.tmp 11, (B ((decide ((p1.length : Int) ≤ 35))))), cb false] (B ((decide ((p1.length : Int) ≤ 35)))), mv 12 (B ((decide ((p1.length : Int) ≤ 35))))] ?_ ?_
   ·exact ⟨amv rfl, alm (c := Qaa) (l := p0) (aln rfl Try.underlying22 rfl), abn rfl rfl, asb hb1 (amv rfl), ag_ (amv rfl), ag_ (alm (c := Qac) (l := p1) (aln rfl Try.underlying23 rfl)), ag_ (abn rfl rfl), apk rfl rfl, aas rfl, trivial⟩
   refine Qak ?_
   obtain rfl := osi h
   exact ⟨⟨[(B ((decide ((p1.length : Int) ≤ 35))))], ⟨rot (by kernel_rfl), trivial⟩, rfl⟩, nll, Nat.le_refl _, fun n hn => absurd hn (Nat.not_lt_zero n)⟩
  ·replace h := Qaw hb1 h
   refine wrg [mv 0 (.dat 4 ((p0 : List GNode).map Qaa)), rp [(.tmp 5, (.dat 4 ((p0 : List GNode).map Qaa)))] (I ((p0.length : Int))), rp [(.tmp 6, (I ((p0.length : Int)))), ci 35] (B ((decide ((p0.length : Int) ≤ 35)))), rp [(.tmp 7, (B ((decide ((p0.length : Int) ≤ 35)))))] (B false), sk 8 (B false), sk 8 (B false), sk 8 (B false), rp [(.tmp 8, B false), (.tmp 11, (.lit undef)), cb false] (B false), mv 12 (B false)] ?_ ?_
   ·exact ⟨amv rfl, alm (c := Qaa) (l := p0) (aln rfl Try.underlying22 rfl), abn rfl rfl, asb hb1 (amv rfl), trivial, trivial, trivial, apk rfl rfl, aas rfl, trivial⟩
   refine Qak ?_
   obtain rfl := osi h
   exact ⟨⟨[B false], ⟨rot (by kernel_rfl), trivial⟩, rfl⟩, nll, Nat.le_refl _, fun n hn => absurd hn (Nat.not_lt_zero n)⟩

end Go.Proofs.Ytgdepcgbjjgnfaa
