/-
  Functions of the program: what they compute, as plain functions, and that they do. No conditions.
-/
import Derived.Test.YtgdepcgbjjgnfaaX2
namespace Go.Proofs.Ytgdepcgbjjgnfaa
open Go.RowKit

def Qc5 (N : Nat) (p0 : GHour) (k1 : Unit → Option Bool) : Nat → Int → Option Bool
  | 0, _ => none
  | n7 + 1, y5 =>
    bif (decide (y5 < (p0.Stairs.length : Int))) then
     (getI p0.Stairs y5).bind fun x9 =>
     (Qcu N x9.Amount 1 1000000000).bind fun x14 =>
     bif (!x14) then
      some false
     else
      (Qcu N x9.Price 0 1000).bind fun x17 =>
      bif (!x17) then
       some false
      else
       bif (decide (y5 > 0)) then
        (getI p0.Stairs (w64 (y5 - 1))).bind fun x20 =>
        bif (decide (x9.Price ≤ x20.Price)) then
         some false
        else
         Qc5 N p0 k1 n7 (w64 (y5 + 1))
       else
        Qc5 N p0 k1 n7 (w64 (y5 + 1))
    else
     k1 ()
def Qgh (N : Nat) (p0 : GHour) : Option Bool :=
  Qca (fun _ =>
    (Qe3 N p0.Use).bind fun x3 =>
    bif x3 then
     some (decide ((p0.Stairs.length : Int) ≤ 6))
    else
     some false) fun k1 : Unit → Option Bool =>
  Qc5 N p0 k1 N 0
set_option maxRecDepth 100000 in
set_option maxHeartbeats 4000000 in
theorem Qh5 (N : Nat) (p0 : GHour) (r : Bool) (h : Qgh N p0 = some r) : Spec Try.prog 100 [(.agg (Qad p0))] [] (B r) [] := by
  refine Qaq Try.func100 rfl 0 (nle rfl) (fun X φ0 w0 hφ0 => ?_)
  unfold Qgh at h
  refine wrg [⟨[(.tmp 0, (.agg [I p0.Use, (.dat 2 ((p0.Stairs : List GStair).map Qah))]))], [(0, .unused)], .ref 0 2 0 0, [(0, (.own 2 [[I p0.Use, (.dat 2 ((p0.Stairs : List GStair).map Qah))]]))], false⟩, mc (.bool false)] ?_ ?_
  ·exact ⟨Qbu rfl (by rfl) rfl rfl, aas rfl, trivial⟩
  obtain ⟨k1, hk_k1, h⟩ := jko h
  refine wjn (τ := Unit) (fun t => k1 t = some r) (fun _ => ⟨mk 49 [(1, .ref 0 2 0 0)], [(.own 2 [[I p0.Use, (.dat 2 ((p0.Stairs : List GStair).map Qah))]])]⟩) (fun t h => ?_) ?_
  ·subst hk_k1
   obtain ⟨x3, hf2, h⟩ := bno h
   rcases bft (x3) with hb4 | hb4
   ·replace h := Qav hb4 h
    refine wrg [rb [(.tmp 1, .ref 0 2 0 0)] [(0, (.own 2 [[I p0.Use, (.dat 2 ((p0.Stairs : List GStair).map Qah))]]))] (.ref 0 2 0 0), rb [(.tmp 40, .ref 0 2 0 0)] [(0, (.own 2 [[I p0.Use, (.dat 2 ((p0.Stairs : List GStair).map Qah))]]))] (I p0.Use), rp [fu 94, (.tmp 41, I p0.Use)] (B x3), rp [(.tmp 42, B x3)] (B true), rb [(.tmp 43, B true), (.tmp 1, .ref 0 2 0 0)] [(0, (.own 2 [[I p0.Use, (.dat 2 ((p0.Stairs : List GStair).map Qah))]]))] (.ref 0 2 0 1), rb [(.tmp 43, B true), (.tmp 44, .ref 0 2 0 1)] [(0, (.own 2 [[I p0.Use, (.dat 2 ((p0.Stairs : List GStair).map Qah))]]))] (.dat 2 ((p0.Stairs : List GStair).map Qah)), rp [(.tmp 43, B true), (.tmp 45, (.dat 2 ((p0.Stairs : List GStair).map Qah)))] (I ((p0.Stairs.length : Int))), rp [(.tmp 43, B true), (.tmp 46, (I ((p0.Stairs.length : Int)))), ci 6] (B ((decide ((p0.Stairs.length : Int) ≤ 6)))), rp [(.tmp 43, B true), (.tmp 47, (B ((decide ((p0.Stairs.length : Int) ≤ 6))))), cb false] (B ((decide ((p0.Stairs.length : Int) ≤ 6)))), mv 48 (B ((decide ((p0.Stairs.length : Int) ≤ 6))))] ?_ ?_
    ·exact ⟨afa rfl Try.underlying62 rfl rfl ti3 (by decide) rfl, ald rfl ti3 (by decide) rfl (nle rfl) rfl, apc (first := []) (cap := []) (vs := [I p0.Use]) rfl Qe0 (Qb1 N p0.Use _ hf2) rfl rfl (nlc nll nl0) nll rfl, asb hb4 (amv rfl), ag_ (afa rfl Try.underlying62 rfl rfl ti60 (by decide) rfl), ag_ (ald rfl ti60 (by decide) rfl (nle rfl) rfl), ag_ (alm (c := Qah) (l := p0.Stairs) (aln rfl Try.underlying60 rfl)), ag_ (abn rfl rfl), apk rfl rfl, aas rfl, trivial⟩
    refine Qak ?_
    obtain rfl := osi h
    exact ⟨⟨[(B ((decide ((p0.Stairs.length : Int) ≤ 6))))], ⟨rot (by kernel_rfl), trivial⟩, rfl⟩, nll, Nat.le_refl _, fun n hn => absurd hn (Nat.not_lt_zero n)⟩
   ·replace h := Qaw hb4 h
    refine wrg [rb [(.tmp 1, .ref 0 2 0 0)] [(0, (.own 2 [[I p0.Use, (.dat 2 ((p0.Stairs : List GStair).map Qah))]]))] (.ref 0 2 0 0), rb [(.tmp 40, .ref 0 2 0 0)] [(0, (.own 2 [[I p0.Use, (.dat 2 ((p0.Stairs : List GStair).map Qah))]]))] (I p0.Use), rp [fu 94, (.tmp 41, I p0.Use)] (B x3), rp [(.tmp 42, B x3)] (B false), sk 43 (B false), sk 43 (B false), sk 43 (B false), sk 43 (B false), rp [(.tmp 43, B false), (.tmp 47, (.lit undef)), cb false] (B false), mv 48 (B false)] ?_ ?_
    ·exact ⟨afa rfl Try.underlying62 rfl rfl ti3 (by decide) rfl, ald rfl ti3 (by decide) rfl (nle rfl) rfl, apc (first := []) (cap := []) (vs := [I p0.Use]) rfl Qe0 (Qb1 N p0.Use _ hf2) rfl rfl (nlc nll nl0) nll rfl, asb hb4 (amv rfl), trivial, trivial, trivial, trivial, apk rfl rfl, aas rfl, trivial⟩
    refine Qak ?_
    obtain rfl := osi h
    exact ⟨⟨[B false], ⟨rot (by kernel_rfl), trivial⟩, rfl⟩, nll, Nat.le_refl _, fun n hn => absurd hn (Nat.not_lt_zero n)⟩
  ·skip
   refine wrg [rb [(.tmp 1, .ref 0 2 0 0)] [(0, (.own 2 [[I p0.Use, (.dat 2 ((p0.Stairs : List GStair).map Qah))]]))] (.ref 0 2 0 1), rb [(.tmp 5, .ref 0 2 0 1)] [(0, (.own 2 [[I p0.Use, (.dat 2 ((p0.Stairs : List GStair).map Qah))]]))] (.dat 2 ((p0.Stairs : List GStair).map Qah)), rp [(.tmp 6, (.dat 2 ((p0.Stairs : List GStair).map Qah)))] (I ((p0.Stairs.length : Int))), mc (.int .i64 0)] ?_ ?_
   ·exact ⟨afa rfl Try.underlying62 rfl rfl ti60 (by decide) rfl, ald rfl ti60 (by decide) rfl (nle rfl) rfl, alm (c := Qah) (l := p0.Stairs) (aln rfl Try.underlying60 rfl), amv rfl, trivial⟩
   refine Qan ?_
   refine wmr (mto (n := 49) (l' := [(1, .ref 0 2 0 0), (6, (.dat 2 ((p0.Stairs : List GStair).map Qah))), (7, (I ((p0.Stairs.length : Int)))), (8, I 0)]) (own' := [(.own 2 [[I p0.Use, (.dat 2 ((p0.Stairs : List GStair).map Qah))]])]) [(1, .ref 0 2 0 0), (6, (.dat 2 ((p0.Stairs : List GStair).map Qah))), (7, (I ((p0.Stairs.length : Int)))), (8, I 0)] [0] [(.own 2 [[I p0.Use, (.dat 2 ((p0.Stairs : List GStair).map Qah))]])] hφ0 (pc (.rn (rqr rfl)) (pc (.rn (.plain _ (nld Qb8 _))) (pc rwl (pc rwl pn)))) (qc (spb (lc rwl (lc (.rn (.plain _ (nld Qb8 _))) ln))) qn)) ?_
   refine Qcc (τ := Int) (fun n t => Qc5 N p0 k1 n t = some r) (fun y5 => ⟨mk 49 [(1, .ref 0 2 0 0), (6, (.dat 2 ((p0.Stairs : List GStair).map Qah))), (7, (I ((p0.Stairs.length : Int)))), (8, I y5)], [(.own 2 [[I p0.Use, (.dat 2 ((p0.Stairs : List GStair).map Qah))]])]⟩) (fun t h => by rw [Qc5] at h; cases h) (fun n7 ih y5 h => ?_) N (0) h
   rw [Qc5] at h
   skip
   refine wrg [rp [(.tmp 8, I y5), (.tmp 7, (I ((p0.Stairs.length : Int))))] (B ((decide (y5 < (p0.Stairs.length : Int)))))] ?_ ?_
   ·exact ⟨abn rfl rfl, trivial⟩
   refine wsq ?_
   rcases bft ((decide (y5 < (p0.Stairs.length : Int)))) with hc8 | hc8
   ·replace h := Qav hc8 h
    refine wft hc8 (by kernel_rfl) ?_
    refine Qam ?_
    refine thn ?_
    refine wsq ?_
    refine Qan ?_
    obtain ⟨x9, hg10, h⟩ := bno h
    obtain ⟨hi11, hj12⟩ := gsm hg10
    refine wrg [mv 8 (I y5), rp [(.tmp 6, (.dat 2 ((p0.Stairs : List GStair).map Qah))), (.tmp 8, I y5)] (.dptr (Qah (x9)) 0), rp [(.tmp 11, (.dptr (Qah (x9)) 0))] (.agg [I x9.Amount, I x9.Price]), ⟨[], [(1, .unused)], .ref 1 2 0 0, [(1, .own 2 [[I 0, I 0]])], false⟩, mv 10 (I y5), ⟨[(.tmp 4, .ref 1 2 0 0), (.tmp 12, (.agg [I x9.Amount, I x9.Price]))], [(1, .own 2 [[I 0, I 0]])], .any, [(1, .own 2 [[I x9.Amount, I x9.Price]])], false⟩] ?_ ?_
    ·exact ⟨amv rfl, aid rfl Try.underlying60 ti64 rfl rfl hi11 (mgt Qah hj12) rfl, ald_ rfl ti64 (by decide) (nle rfl) rfl, Qaz rfl tz64 rfl, aas rfl, ast rfl ti64 (by rfl) rfl (nle rfl) rfl, trivial⟩
    obtain ⟨x14, hf13, h⟩ := bno h
    rcases bft ((!x14)) with hb15 | hb15
    ·replace h := Qav hb15 h
     refine Qct [rb [(.tmp 4, .ref 1 2 0 0)] [(1, .own 2 [[I x9.Amount, I x9.Price]])] (.ref 1 2 0 0), rb [(.tmp 13, .ref 1 2 0 0)] [(1, .own 2 [[I x9.Amount, I x9.Price]])] (I x9.Amount), rp [fu 68, (.tmp 14, I x9.Amount), ci 1, ci 1000000000] (B x14), rp [(.tmp 15, B x14)] (B ((!x14))), rp [(.tmp 16, (B ((!x14))))] (B true), sk 17 (B true), sk 17 (B true), sk 17 (B true), sk 17 (B true), rp [(.tmp 17, B true), cb true, (.tmp 21, (.lit undef))] (B true), mv 22 (B true), sk 23 (B true), sk 23 (B true), sk 23 (B true), sk 26 (.lit undef), sk 26 (.lit undef), sk 26 (.lit undef), sk 26 (.lit undef), sk 26 (.lit undef), sk 26 (.lit undef), sk 26 (.lit undef), sk 26 (.lit undef), sk 26 (.lit undef), sk 26 (.lit undef), sk 23 (B true), rp [(.tmp 23, B true), cb true, (.tmp 37, (.lit undef))] (B true)] ?_ ?_
     ·exact ⟨afa rfl Try.underlying64 rfl rfl ti3 (by decide) rfl, ald rfl ti3 (by decide) rfl (nle rfl) rfl, apc (first := []) (cap := []) (vs := [I x9.Amount, I 1, I 1000000000]) rfl Qd1 (Qa5 N x9.Amount 1 1000000000 _ hf13) rfl rfl (nlc nll (nlc nll (nlc nll nl0))) nll rfl, Qap rfl, asb hb15 (amv rfl), trivial, trivial, trivial, trivial, apk rfl rfl, amv rfl, trivial, trivial, trivial, trivial, trivial, trivial, trivial, trivial, trivial, trivial, trivial, trivial, trivial, trivial, apk rfl rfl, trivial⟩
     refine Qbq (by kernel_rfl) ?_
     refine wrg [mc (.bool false)] ?_ ?_
     ·exact ⟨aas rfl, trivial⟩
     refine Qak ?_
     refine Qa3 ?_
     refine Qao ?_
     refine Qao ?_
     refine Qa3 ?_
     refine Qao ?_
     obtain rfl := osi h
     exact ⟨⟨[B false], ⟨rot (by kernel_rfl), trivial⟩, rfl⟩, nll, Nat.le_refl _, fun n hn => absurd hn (Nat.not_lt_zero n)⟩
    ·replace h := Qaw hb15 h
     obtain ⟨x17, hf16, h⟩ := bno h
     rcases bft ((!x17)) with hb18 | hb18
     ·replace h := Qav hb18 h
      refine Qct [rb [(.tmp 4, .ref 1 2 0 0)] [(1, .own 2 [[I x9.Amount, I x9.Price]])] (.ref 1 2 0 0), rb [(.tmp 13, .ref 1 2 0 0)] [(1, .own 2 [[I x9.Amount, I x9.Price]])] (I x9.Amount), rp [fu 68, (.tmp 14, I x9.Amount), ci 1, ci 1000000000] (B x14), rp [(.tmp 15, B x14)] (B ((!x14))), rp [(.tmp 16, (B ((!x14))))] (B false), rb [(.tmp 17, B false), (.tmp 4, .ref 1 2 0 0)] [(1, .own 2 [[I x9.Amount, I x9.Price]])] (.ref 1 2 0 1), rb [(.tmp 17, B false), (.tmp 18, .ref 1 2 0 1)] [(1, .own 2 [[I x9.Amount, I x9.Price]])] (I x9.Price), rp [(.tmp 17, B false), fu 68, (.tmp 19, I x9.Price), ci 0, ci 1000] (B x17), rp [(.tmp 17, B false), (.tmp 20, B x17)] (B ((!x17))), rp [(.tmp 17, B false), cb true, (.tmp 21, (B ((!x17))))] (B ((!x17))), rp [(.tmp 22, (B ((!x17))))] (B true), sk 23 (B true), sk 23 (B true), sk 23 (B true), sk 26 (.lit undef), sk 26 (.lit undef), sk 26 (.lit undef), sk 26 (.lit undef), sk 26 (.lit undef), sk 26 (.lit undef), sk 26 (.lit undef), sk 26 (.lit undef), sk 26 (.lit undef), sk 26 (.lit undef), sk 23 (B true), rp [(.tmp 23, B true), cb true, (.tmp 37, (.lit undef))] (B true)] ?_ ?_
      ·exact ⟨afa rfl Try.underlying64 rfl rfl ti3 (by decide) rfl, ald rfl ti3 (by decide) rfl (nle rfl) rfl, apc (first := []) (cap := []) (vs := [I x9.Amount, I 1, I 1000000000]) rfl Qd1 (Qa5 N x9.Amount 1 1000000000 _ hf13) rfl rfl (nlc nll (nlc nll (nlc nll nl0))) nll rfl, Qap rfl, asb hb15 (amv rfl), ag_ (afa rfl Try.underlying64 rfl rfl ti3 (by decide) rfl), ag_ (ald rfl ti3 (by decide) rfl (nle rfl) rfl), ag_ (apc (first := []) (cap := []) (vs := [I x9.Price, I 0, I 1000]) rfl Qd1 (Qa5 N x9.Price 0 1000 _ hf16) rfl rfl (nlc nll (nlc nll (nlc nll nl0))) nll rfl), ag_ (Qap rfl), apk rfl rfl, asb hb18 (amv rfl), trivial, trivial, trivial, trivial, trivial, trivial, trivial, trivial, trivial, trivial, trivial, trivial, trivial, trivial, apk rfl rfl, trivial⟩
      refine Qbq (by kernel_rfl) ?_
      refine wrg [mc (.bool false)] ?_ ?_
      ·exact ⟨aas rfl, trivial⟩
      refine Qak ?_
      refine Qa3 ?_
      refine Qao ?_
      refine Qao ?_
      refine Qa3 ?_
      refine Qao ?_
      obtain rfl := osi h
      exact ⟨⟨[B false], ⟨rot (by kernel_rfl), trivial⟩, rfl⟩, nll, Nat.le_refl _, fun n hn => absurd hn (Nat.not_lt_zero n)⟩
     ·replace h := Qaw hb18 h
      rcases bft ((decide (y5 > 0))) with hb19 | hb19
      ·replace h := Qav hb19 h
       obtain ⟨x20, hg21, h⟩ := bno h
       obtain ⟨hi22, hj23⟩ := gsm hg21
       refine Qct [rb [(.tmp 4, .ref 1 2 0 0)] [(1, .own 2 [[I x9.Amount, I x9.Price]])] (.ref 1 2 0 0), rb [(.tmp 13, .ref 1 2 0 0)] [(1, .own 2 [[I x9.Amount, I x9.Price]])] (I x9.Amount), rp [fu 68, (.tmp 14, I x9.Amount), ci 1, ci 1000000000] (B x14), rp [(.tmp 15, B x14)] (B ((!x14))), rp [(.tmp 16, (B ((!x14))))] (B false), rb [(.tmp 17, B false), (.tmp 4, .ref 1 2 0 0)] [(1, .own 2 [[I x9.Amount, I x9.Price]])] (.ref 1 2 0 1), rb [(.tmp 17, B false), (.tmp 18, .ref 1 2 0 1)] [(1, .own 2 [[I x9.Amount, I x9.Price]])] (I x9.Price), rp [(.tmp 17, B false), fu 68, (.tmp 19, I x9.Price), ci 0, ci 1000] (B x17), rp [(.tmp 17, B false), (.tmp 20, B x17)] (B ((!x17))), rp [(.tmp 17, B false), cb true, (.tmp 21, (B ((!x17))))] (B ((!x17))), rp [(.tmp 22, (B ((!x17))))] (B false), rp [(.tmp 23, B false), (.tmp 3, I y5)] (I y5), rp [(.tmp 23, B false), (.tmp 24, I y5), ci 0] (B ((decide (y5 > 0)))), rp [(.tmp 23, B false), (.tmp 25, (B ((decide (y5 > 0)))))] (B true), rb [(.tmp 26, B true), (.tmp 4, .ref 1 2 0 0)] [(1, .own 2 [[I x9.Amount, I x9.Price]])] (.ref 1 2 0 1), rb [(.tmp 26, B true), (.tmp 27, .ref 1 2 0 1)] [(1, .own 2 [[I x9.Amount, I x9.Price]])] (I x9.Price), rb [(.tmp 26, B true), (.tmp 1, .ref 0 2 0 0)] [(0, (.own 2 [[I p0.Use, (.dat 2 ((p0.Stairs : List GStair).map Qah))]]))] (.ref 0 2 0 1), rb [(.tmp 26, B true), (.tmp 29, .ref 0 2 0 1)] [(0, (.own 2 [[I p0.Use, (.dat 2 ((p0.Stairs : List GStair).map Qah))]]))] (.dat 2 ((p0.Stairs : List GStair).map Qah)), rp [(.tmp 26, B true), (.tmp 3, I y5)] (I y5), rp [(.tmp 26, B true), (.tmp 31, I y5), ci 1] (I (w64 (y5 - 1))), rp [(.tmp 26, B true), (.tmp 30, (.dat 2 ((p0.Stairs : List GStair).map Qah))), (.tmp 32, (I (w64 (y5 - 1))))] (.dptr (Qah (x20)) 0), rp [(.tmp 26, B true), (.tmp 33, (.dptr (Qah (x20)) 0))] (.dptr (Qah (x20)) 1), rp [(.tmp 26, B true), (.tmp 34, (.dptr (Qah (x20)) 1))] (I x20.Price), rp [(.tmp 26, B true), (.tmp 28, I x9.Price), (.tmp 35, I x20.Price)] (B ((decide (x9.Price ≤ x20.Price)))), rp [(.tmp 23, B false), (.tmp 26, B true), (.tmp 36, (B ((decide (x9.Price ≤ x20.Price))))), cb false] (B ((decide (x9.Price ≤ x20.Price)))), rp [(.tmp 23, B false), cb true, (.tmp 37, (B ((decide (x9.Price ≤ x20.Price)))))] (B ((decide (x9.Price ≤ x20.Price))))] ?_ ?_
       ·exact ⟨afa rfl Try.underlying64 rfl rfl ti3 (by decide) rfl, ald rfl ti3 (by decide) rfl (nle rfl) rfl, apc (first := []) (cap := []) (vs := [I x9.Amount, I 1, I 1000000000]) rfl Qd1 (Qa5 N x9.Amount 1 1000000000 _ hf13) rfl rfl (nlc nll (nlc nll (nlc nll nl0))) nll rfl, Qap rfl, asb hb15 (amv rfl), ag_ (afa rfl Try.underlying64 rfl rfl ti3 (by decide) rfl), ag_ (ald rfl ti3 (by decide) rfl (nle rfl) rfl), ag_ (apc (first := []) (cap := []) (vs := [I x9.Price, I 0, I 1000]) rfl Qd1 (Qa5 N x9.Price 0 1000 _ hf16) rfl rfl (nlc nll (nlc nll (nlc nll nl0))) nll rfl), ag_ (Qap rfl), apk rfl rfl, asb hb18 (amv rfl), ag_ (amv rfl), ag_ (abn rfl rfl), asb hb19 (ag_ (amv rfl)), ag_ (afa rfl Try.underlying64 rfl rfl ti3 (by decide) rfl), ag_ (ald rfl ti3 (by decide) rfl (nle rfl) rfl), ag_ (afa rfl Try.underlying62 rfl rfl ti60 (by decide) rfl), ag_ (ald rfl ti60 (by decide) rfl (nle rfl) rfl), ag_ (amv rfl), ag_ (abn rfl rfl), ag_ (aid rfl Try.underlying60 ti64 rfl rfl hi22 (mgt Qah hj23) rfl), ag_ (afd rfl Try.underlying64 rfl rfl ti3 (by decide) rfl), ag_ (ald_ rfl ti3 (by decide) (nle rfl) rfl), ag_ (abn rfl rfl), ag_ (apk rfl rfl), apk rfl rfl, trivial⟩
       rcases bft ((decide (x9.Price ≤ x20.Price))) with hc24 | hc24
       ·replace h := Qav hc24 h
        refine wft hc24 (by kernel_rfl) ?_
        refine wrg [mc (.bool false)] ?_ ?_
        ·exact ⟨aas rfl, trivial⟩
        refine Qak ?_
        refine Qa3 ?_
        refine Qao ?_
        refine Qao ?_
        refine Qa3 ?_
        refine Qao ?_
        obtain rfl := osi h
        exact ⟨⟨[B false], ⟨rot (by kernel_rfl), trivial⟩, rfl⟩, nll, Nat.le_refl _, fun n hn => absurd hn (Nat.not_lt_zero n)⟩
       ·replace h := Qaw hc24 h
        refine wfn hc24 (by kernel_rfl) ?_
        refine Qam ?_
        refine bln ?_
        refine thn ?_
        refine Qar [rp [(.tmp 8, I y5), ci 1] (I (w64 (y5 + 1))), mv 39 (I (w64 (y5 + 1)))] ?_ ?_
        ·exact ⟨abn rfl rfl, amv rfl, trivial⟩
        refine thn ?_
        exact arm (mto (n := 49) [(1, .ref 0 2 0 0), (6, (.dat 2 ((p0.Stairs : List GStair).map Qah))), (7, (I ((p0.Stairs.length : Int)))), (8, (I (w64 (y5 + 1))))] [0] [(.own 2 [[I p0.Use, (.dat 2 ((p0.Stairs : List GStair).map Qah))]])] hφ0 (pc (.rn (rqr rfl)) (pc (.rn (.plain _ (nld Qb8 _))) (pc rwl (pc rwl pn)))) (qc (spb (lc rwl (lc (.rn (.plain _ (nld Qb8 _))) ln))) qn)) (ih (w64 (y5 + 1)) h)
      ·replace h := Qaw hb19 h
       refine Qct [rb [(.tmp 4, .ref 1 2 0 0)] [(1, .own 2 [[I x9.Amount, I x9.Price]])] (.ref 1 2 0 0), rb [(.tmp 13, .ref 1 2 0 0)] [(1, .own 2 [[I x9.Amount, I x9.Price]])] (I x9.Amount), rp [fu 68, (.tmp 14, I x9.Amount), ci 1, ci 1000000000] (B x14), rp [(.tmp 15, B x14)] (B ((!x14))), rp [(.tmp 16, (B ((!x14))))] (B false), rb [(.tmp 17, B false), (.tmp 4, .ref 1 2 0 0)] [(1, .own 2 [[I x9.Amount, I x9.Price]])] (.ref 1 2 0 1), rb [(.tmp 17, B false), (.tmp 18, .ref 1 2 0 1)] [(1, .own 2 [[I x9.Amount, I x9.Price]])] (I x9.Price), rp [(.tmp 17, B false), fu 68, (.tmp 19, I x9.Price), ci 0, ci 1000] (B x17), rp [(.tmp 17, B false), (.tmp 20, B x17)] (B ((!x17))), rp [(.tmp 17, B false), cb true, (.tmp 21, (B ((!x17))))] (B ((!x17))), rp [(.tmp 22, (B ((!x17))))] (B false), rp [(.tmp 23, B false), (.tmp 3, I y5)] (I y5), rp [(.tmp 23, B false), (.tmp 24, I y5), ci 0] (B ((decide (y5 > 0)))), rp [(.tmp 23, B false), (.tmp 25, (B ((decide (y5 > 0)))))] (B false), sk 26 (B false), sk 26 (B false), sk 26 (B false), sk 26 (B false), sk 26 (B false), sk 26 (B false), sk 26 (B false), sk 26 (B false), sk 26 (B false), sk 26 (B false), rp [(.tmp 23, B false), (.tmp 26, B false), (.tmp 36, (.lit undef)), cb false] (B false), rp [(.tmp 23, B false), cb true, (.tmp 37, B false)] (B false)] ?_ ?_
       ·exact ⟨afa rfl Try.underlying64 rfl rfl ti3 (by decide) rfl, ald rfl ti3 (by decide) rfl (nle rfl) rfl, apc (first := []) (cap := []) (vs := [I x9.Amount, I 1, I 1000000000]) rfl Qd1 (Qa5 N x9.Amount 1 1000000000 _ hf13) rfl rfl (nlc nll (nlc nll (nlc nll nl0))) nll rfl, Qap rfl, asb hb15 (amv rfl), ag_ (afa rfl Try.underlying64 rfl rfl ti3 (by decide) rfl), ag_ (ald rfl ti3 (by decide) rfl (nle rfl) rfl), ag_ (apc (first := []) (cap := []) (vs := [I x9.Price, I 0, I 1000]) rfl Qd1 (Qa5 N x9.Price 0 1000 _ hf16) rfl rfl (nlc nll (nlc nll (nlc nll nl0))) nll rfl), ag_ (Qap rfl), apk rfl rfl, asb hb18 (amv rfl), ag_ (amv rfl), ag_ (abn rfl rfl), asb hb19 (ag_ (amv rfl)), trivial, trivial, trivial, trivial, trivial, trivial, trivial, trivial, trivial, trivial, ag_ (apk rfl rfl), apk rfl rfl, trivial⟩
       refine Qey (by kernel_rfl) ?_
       refine Qam ?_
       refine bln ?_
       refine thn ?_
       refine Qar [rp [(.tmp 8, I y5), ci 1] (I (w64 (y5 + 1))), mv 39 (I (w64 (y5 + 1)))] ?_ ?_
       ·exact ⟨abn rfl rfl, amv rfl, trivial⟩
       refine thn ?_
       exact arm (mto (n := 49) [(1, .ref 0 2 0 0), (6, (.dat 2 ((p0.Stairs : List GStair).map Qah))), (7, (I ((p0.Stairs.length : Int)))), (8, (I (w64 (y5 + 1))))] [0] [(.own 2 [[I p0.Use, (.dat 2 ((p0.Stairs : List GStair).map Qah))]])] hφ0 (pc (.rn (rqr rfl)) (pc (.rn (.plain _ (nld Qb8 _))) (pc rwl (pc rwl pn)))) (qc (spb (lc rwl (lc (.rn (.plain _ (nld Qb8 _))) ln))) qn)) (ih (w64 (y5 + 1)) h)
   ·replace h := Qaw hc8 h
    refine wfn hc8 (by kernel_rfl) ?_
    refine Qbf ?_
    refine Qau ?_
    refine Qau ?_
    refine Qbe rfl ?_
    refine thn ?_
    exact ⟨(), h, (mto (n := 49) [(1, .ref 0 2 0 0)] [0] [(.own 2 [[I p0.Use, (.dat 2 ((p0.Stairs : List GStair).map Qah))]])] hφ0 (pc (.rn (rqr rfl)) pn) (qc (spb (lc rwl (lc (.rn (.plain _ (nld Qb8 _))) ln))) qn))⟩

def Qez (N : Nat) (p0 : GHour) : Option Bool :=
  (Qgh N p0).bind fun x3 =>
  some (!x3)
set_option maxRecDepth 100000 in
set_option maxHeartbeats 4000000 in
theorem Qgy (N : Nat) (p0 : GHour) (r : Bool) (h : Qez N p0 = some r) : Spec Try.prog 112 [(.agg [(I (p0.Use)), (.dat 2 ((p0.Stairs : List GStair).map Qah))]), (.ref 0 1 (0) 0)] [(.own 1 [[(.fn (.func 100) [] [])]])] (B (r)) [(.own 1 [[(.fn (.func 100) [] [])]])] := by
  refine Qaq Try.func112 rfl 1 (nle rfl) (fun X φ0 w0 hφ0 => ?_)
  unfold Qez at h
  refine Qc1 ?_
  refine wrg [⟨[(.tmp 0, (.agg [I p0.Use, (.dat 2 ((p0.Stairs : List GStair).map Qah))]))], [(1, .unused)], .ref 1 2 0 0, [(1, (.own 2 [[I p0.Use, (.dat 2 ((p0.Stairs : List GStair).map Qah))]]))], false⟩, mc (.bool false)] ?_ ?_
  ·exact ⟨Qbu rfl (by rfl) rfl rfl, aas rfl, trivial⟩
  obtain ⟨x3, hf2, h⟩ := bno h
  refine wrg [rb [(.tmp 1, .ref 0 1 0 0)] [(0, (.own 1 [[(.fn (.func 100) [] [])]]))] (.fn (.func 100) [] []), rb [(.tmp 2, .ref 1 2 0 0)] [(1, (.own 2 [[I p0.Use, (.dat 2 ((p0.Stairs : List GStair).map Qah))]]))] (.agg [I p0.Use, (.dat 2 ((p0.Stairs : List GStair).map Qah))]), rp [(.tmp 4, (.fn (.func 100) [] [])), (.tmp 5, (.agg [I p0.Use, (.dat 2 ((p0.Stairs : List GStair).map Qah))]))] (B x3), rp [(.tmp 6, B x3)] (B ((!x3))), mv 7 (B ((!x3)))] ?_ ?_
  ·exact ⟨ald rfl ti177 (by decide) rfl (nle rfl) rfl, ald rfl ti62 (by decide) rfl (nle rfl) rfl, apc (first := []) (cap := []) (vs := [(.agg [I p0.Use, (.dat 2 ((p0.Stairs : List GStair).map Qah))])]) rfl enter100 (Qh5 N p0 _ hf2) rfl rfl (nlc (NLt.agg _ (nlc nll (nlc (nld Qb8 _) nl0))) nl0) nll rfl, Qap rfl, aas rfl, trivial⟩
  refine wmr (mto (n := 8) (l' := [(3, (B ((!x3))))]) (own' := [(.own 1 [[(.fn (.func 100) [] [])]])]) [(3, (B ((!x3))))] [0] [(.own 1 [[(.fn (.func 100) [] [])]])] hφ0 (pc rwl pn) (qc (spb (lc (.rn (Qa2 rn0 rn0)) ln)) qn)) ?_
  refine Qak ?_
  obtain rfl := osi h
  exact ⟨_, Mor.rfl, Qc0 (vs := [(B ((!x3)))]) ⟨rot (by kernel_rfl), trivial⟩ rfl (NLt.of0 nll) (by kernel_rfl) (Qay (Qb2 (nlc (NLt.of0 (NLt.fn _ _ _ nl0 nl0)) nl0)) Qbx)⟩

def Qbc (N : Nat) (p0 : (List GHour)) (k2 : Unit → Option Int) : Nat → Int → Option Int
  | 0, _ => none
  | n5 + 1, y3 =>
    bif (decide (y3 < (p0.length : Int))) then
     (getI p0 y3).bind fun x7 =>
     (Qez N x7).bind fun x12 =>
     bif x12 then
      some y3
     else
      Qbc N p0 k2 n5 (w64 (y3 + 1))
    else
     k2 ()
def Qcx (N : Nat) (p0 : (List GHour)) : Option Int :=
  Qca (fun _ =>
    some (-1)) fun k2 : Unit → Option Int =>
  Qbc N p0 k2 N 0
set_option maxRecDepth 100000 in
set_option maxHeartbeats 4000000 in
theorem Qe4 (N : Nat) (p0 : (List GHour)) (r : Int) (h : Qcx N p0 = some r) : Spec Try.prog 116 [(.dat 2 ((p0 : List GHour).map Qad)), (.fn (.func 112) [] [(.ref 0 1 (0) 0)])] [(.own 1 [[(.fn (.func 100) [] [])]])] (I (r)) [(.own 1 [[(.fn (.func 100) [] [])]])] := by
  refine Qaq Try.func116 rfl 1 (nle rfl) (fun X φ0 w0 hφ0 => ?_)
  unfold Qcx at h
  refine Qc1 ?_
  refine wrg [mc (.int .i64 0)] ?_ ?_
  ·exact ⟨aas rfl, trivial⟩
  obtain ⟨k2, hk_k2, h⟩ := jko h
  refine wjn (τ := Unit) (fun t => k2 t = some r) (fun _ => ⟨mk 19 [], [(.own 1 [[(.fn (.func 100) [] [])]])]⟩) (fun t h => ?_) ?_
  ·subst hk_k2
   refine wrg [mc (.int .i64 (-1))] ?_ ?_
   ·exact ⟨aas rfl, trivial⟩
   refine wmr (mto (n := 19) (l' := [(4, (I ((-1))))]) (own' := [(.own 1 [[(.fn (.func 100) [] [])]])]) [(4, (I ((-1))))] [0] [(.own 1 [[(.fn (.func 100) [] [])]])] hφ0 (pc rwl pn) (qc (spb (lc (.rn (Qa2 rn0 rn0)) ln)) qn)) ?_
   refine Qak ?_
   obtain rfl := osi h
   exact ⟨_, Mor.rfl, Qc0 (vs := [(I ((-1)))]) ⟨rot (by kernel_rfl), trivial⟩ rfl (NLt.of0 nll) (by kernel_rfl) (Qay (Qb2 (nlc (NLt.of0 (NLt.fn _ _ _ nl0 nl0)) nl0)) Qbx)⟩
  ·skip
   refine wrg [mv 0 (.dat 2 ((p0 : List GHour).map Qad)), rp [(.tmp 6, (.dat 2 ((p0 : List GHour).map Qad)))] (I ((p0.length : Int))), mc (.int .i64 0)] ?_ ?_
   ·exact ⟨amv rfl, alm (c := Qad) (l := p0) (aln rfl Try.underlying45 rfl), amv rfl, trivial⟩
   refine Qan ?_
   refine wmr (mto (n := 19) (l' := [(0, (.dat 2 ((p0 : List GHour).map Qad))), (1, (.fn (.func 112) [] [.ref 0 1 0 0])), (7, (I ((p0.length : Int)))), (8, I 0)]) (own' := [(.own 1 [[(.fn (.func 100) [] [])]])]) [(0, (.dat 2 ((p0 : List GHour).map Qad))), (1, (.fn (.func 112) [] [.ref 0 1 0 0])), (7, (I ((p0.length : Int)))), (8, I 0)] [0] [(.own 1 [[(.fn (.func 100) [] [])]])] hφ0 (pc (.rn (.plain _ (nld Qas _))) (pc (.rn (Qa2 rn0 (rnc (rqr rfl) rn0))) (pc rwl (pc rwl pn)))) (qc (spb (lc (.rn (Qa2 rn0 rn0)) ln)) qn)) ?_
   refine Qcc (τ := Int) (fun n t => Qbc N p0 k2 n t = some r) (fun y3 => ⟨mk 19 [(0, (.dat 2 ((p0 : List GHour).map Qad))), (1, (.fn (.func 112) [] [.ref 0 1 0 0])), (7, (I ((p0.length : Int)))), (8, I y3)], [(.own 1 [[(.fn (.func 100) [] [])]])]⟩) (fun t h => by rw [Qbc] at h; cases h) (fun n5 ih y3 h => ?_) N (0) h
   rw [Qbc] at h
   skip
   refine wrg [rp [(.tmp 8, I y3), (.tmp 7, (I ((p0.length : Int))))] (B ((decide (y3 < (p0.length : Int)))))] ?_ ?_
   ·exact ⟨abn rfl rfl, trivial⟩
   refine wsq ?_
   rcases bft ((decide (y3 < (p0.length : Int)))) with hc6 | hc6
   ·replace h := Qav hc6 h
    refine wft hc6 (by kernel_rfl) ?_
    refine Qam ?_
    refine thn ?_
    refine wsq ?_
    refine Qan ?_
    refine wrg [mv 8 (I y3), mv 10 (I y3)] ?_ ?_
    ·exact ⟨amv rfl, aas rfl, trivial⟩
    obtain ⟨x7, hg8, h⟩ := bno h
    obtain ⟨hi9, hj10⟩ := gsm hg8
    obtain ⟨x12, hf11, h⟩ := bno h
    refine wrg [mv 1 (.fn (.func 112) [] [.ref 0 1 0 0]), mv 0 (.dat 2 ((p0 : List GHour).map Qad)), mv 5 (I y3), rp [(.tmp 12, (.dat 2 ((p0 : List GHour).map Qad))), (.tmp 13, I y3)] (.dptr (Qad (x7)) 0), rp [(.tmp 14, (.dptr (Qad (x7)) 0))] (.agg [I x7.Use, (.dat 2 ((x7.Stairs : List GStair).map Qah))]), ⟨[(.tmp 11, (.fn (.func 112) [] [.ref 0 1 0 0])), (.tmp 15, (.agg [I x7.Use, (.dat 2 ((x7.Stairs : List GStair).map Qah))]))], [(0, (.own 1 [[(.fn (.func 100) [] [])]]))], B x12, [(0, (.own 1 [[(.fn (.func 100) [] [])]]))], false⟩] ?_ ?_
    ·exact ⟨amv rfl, amv rfl, amv rfl, aid rfl Try.underlying45 ti62 rfl rfl hi9 (mgt Qad hj10) rfl, ald_ rfl ti62 (by decide) (nle rfl) rfl, Qa4 (first := []) (cap := [.ref 0 1 0 0]) (vs := [(.agg [I x7.Use, (.dat 2 ((x7.Stairs : List GStair).map Qah))])]) (σr := [(.own 1 [[(.fn (.func 100) [] [])]])]) (σr' := [(.own 1 [[(.fn (.func 100) [] [])]])]) (res' := (B x12)) [0] rfl enter112 (Qgy N x7 _ hf11) rfl (Qc3 (rnc (.plain _ (NLt.agg _ (nlc nll (nlc (nld Qb8 _) nl0)))) (rnc (Qbz rfl) rn0))) (slc (Qat (rnc (.plain _ (NLt.fn _ _ _ nl0 nl0)) rn0)) Qa0) (slc (Qat (rnc (.plain _ (NLt.fn _ _ _ nl0 nl0)) rn0)) Qa0) (.plain _ nll) rfl rfl rfl, trivial⟩
    rcases bft (x12) with hc13 | hc13
    ·replace h := Qav hc13 h
     refine wft hc13 (by kernel_rfl) ?_
     refine wrg [mv 5 (I y3), mv 17 (I y3)] ?_ ?_
     ·exact ⟨amv rfl, aas rfl, trivial⟩
     refine wmr (mto (n := 19) (l' := [(4, I y3)]) (own' := [(.own 1 [[(.fn (.func 100) [] [])]])]) [(4, I y3)] [0] [(.own 1 [[(.fn (.func 100) [] [])]])] hφ0 (pc rwl pn) (qc (spb (lc (.rn (Qa2 rn0 rn0)) ln)) qn)) ?_
     refine Qak ?_
     refine Qa3 ?_
     refine Qao ?_
     refine Qao ?_
     refine Qa3 ?_
     refine Qao ?_
     obtain rfl := osi h
     exact ⟨_, Mor.rfl, Qc0 (vs := [I y3]) ⟨rot (by kernel_rfl), trivial⟩ rfl (NLt.of0 nll) (by kernel_rfl) (Qay (Qb2 (nlc (NLt.of0 (NLt.fn _ _ _ nl0 nl0)) nl0)) Qbx)⟩
    ·replace h := Qaw hc13 h
     refine wfn hc13 (by kernel_rfl) ?_
     refine Qam ?_
     refine bln ?_
     refine thn ?_
     refine Qar [rp [(.tmp 8, I y3), ci 1] (I (w64 (y3 + 1))), mv 18 (I (w64 (y3 + 1)))] ?_ ?_
     ·exact ⟨abn rfl rfl, amv rfl, trivial⟩
     refine thn ?_
     exact arm (mto (n := 19) [(0, (.dat 2 ((p0 : List GHour).map Qad))), (1, (.fn (.func 112) [] [.ref 0 1 0 0])), (7, (I ((p0.length : Int)))), (8, (I (w64 (y3 + 1))))] [0] [(.own 1 [[(.fn (.func 100) [] [])]])] hφ0 (pc (.rn (.plain _ (nld Qas _))) (pc (.rn (Qa2 rn0 (rnc (rqr rfl) rn0))) (pc rwl (pc rwl pn)))) (qc (spb (lc (.rn (Qa2 rn0 rn0)) ln)) qn)) (ih (w64 (y3 + 1)) h)
   ·replace h := Qaw hc6 h
    refine wfn hc6 (by kernel_rfl) ?_
    refine Qbf ?_
    refine Qau ?_
    refine Qau ?_
    refine Qbe rfl ?_
    refine thn ?_
    exact ⟨(), h, (mto (n := 19) [] [0] [(.own 1 [[(.fn (.func 100) [] [])]])] hφ0 pn (qc (spb (lc (.rn (Qa2 rn0 rn0)) ln)) qn))⟩

def Qcm (N : Nat) (p0 : (List GHour)) : Option Bool :=
  (Qcx N p0).bind fun x3 =>
  some (decide (x3 ≥ 0))
set_option maxRecDepth 100000 in
set_option maxHeartbeats 4000000 in
theorem Qes (N : Nat) (p0 : (List GHour)) (r : Bool) (h : Qcm N p0 = some r) : Spec Try.prog 111 [(.dat 2 ((p0 : List GHour).map Qad)), (.fn (.func 112) [] [(.ref 0 1 (0) 0)])] [(.own 1 [[(.fn (.func 100) [] [])]])] (B (r)) [(.own 1 [[(.fn (.func 100) [] [])]])] := by
  refine Qaq Try.func111 rfl 1 (nle rfl) (fun X φ0 w0 hφ0 => ?_)
  unfold Qcm at h
  refine Qc1 ?_
  refine wrg [mc (.bool false)] ?_ ?_
  ·exact ⟨aas rfl, trivial⟩
  obtain ⟨x3, hf2, h⟩ := bno h
  refine wrg [mv 0 (.dat 2 ((p0 : List GHour).map Qad)), mv 1 (.fn (.func 112) [] [.ref 0 1 0 0]), ⟨[fu 116, (.tmp 5, (.dat 2 ((p0 : List GHour).map Qad))), (.tmp 6, (.fn (.func 112) [] [.ref 0 1 0 0]))], [(0, (.own 1 [[(.fn (.func 100) [] [])]]))], I x3, [(0, (.own 1 [[(.fn (.func 100) [] [])]]))], false⟩, rp [(.tmp 7, I x3), ci 0] (B ((decide (x3 ≥ 0)))), mv 8 (B ((decide (x3 ≥ 0))))] ?_ ?_
  ·exact ⟨amv rfl, amv rfl, Qa4 (first := []) (cap := []) (vs := [(.dat 2 ((p0 : List GHour).map Qad)), (.fn (.func 112) [] [.ref 0 1 0 0])]) (σr := [(.own 1 [[(.fn (.func 100) [] [])]])]) (σr' := [(.own 1 [[(.fn (.func 100) [] [])]])]) (res' := (I x3)) [0] rfl enter116 (Qe4 N p0 _ hf2) rfl (Qc3 (rnc (.plain _ (nld Qas _)) (rnc (Qa2 rn0 (rnc (Qbz rfl) rn0)) rn0))) (slc (Qat (rnc (.plain _ (NLt.fn _ _ _ nl0 nl0)) rn0)) Qa0) (slc (Qat (rnc (.plain _ (NLt.fn _ _ _ nl0 nl0)) rn0)) Qa0) (.plain _ nll) rfl rfl rfl, abn rfl rfl, aas rfl, trivial⟩
  refine wmr (mto (n := 9) (l' := [(4, (B ((decide (x3 ≥ 0)))))]) (own' := [(.own 1 [[(.fn (.func 100) [] [])]])]) [(4, (B ((decide (x3 ≥ 0)))))] [0] [(.own 1 [[(.fn (.func 100) [] [])]])] hφ0 (pc rwl pn) (qc (spb (lc (.rn (Qa2 rn0 rn0)) ln)) qn)) ?_
  refine Qak ?_
  obtain rfl := osi h
  exact ⟨_, Mor.rfl, Qc0 (vs := [(B ((decide (x3 ≥ 0))))]) ⟨rot (by kernel_rfl), trivial⟩ rfl (NLt.of0 nll) (by kernel_rfl) (Qay (Qb2 (nlc (NLt.of0 (NLt.fn _ _ _ nl0 nl0)) nl0)) Qbx)⟩

def Qe9 (N : Nat) (p0 : (List GHour)) : Option Bool :=
  (Qcm N p0).bind fun x2 =>
  some (!x2)
set_option maxRecDepth 100000 in
set_option maxHeartbeats 4000000 in
theorem Qg2 (N : Nat) (p0 : (List GHour)) (r : Bool) (h : Qe9 N p0 = some r) : Spec Try.prog 99 [(.dat 2 ((p0 : List GHour).map Qad)), (.fn (.func 100) [] [])] [] (B (r)) [] := by
  refine Qaq Try.func99 rfl 0 (nle rfl) (fun X φ0 w0 hφ0 => ?_)
  unfold Qe9 at h
  refine wrg [⟨[(.tmp 1, (.fn (.func 100) [] []))], [(0, .unused)], .ref 0 1 0 0, [(0, (.own 1 [[(.fn (.func 100) [] [])]]))], false⟩, mc (.bool false)] ?_ ?_
  ·exact ⟨Qbu rfl (by rfl) rfl rfl, aas rfl, trivial⟩
  obtain ⟨x2, hf1, h⟩ := bno h
  refine wrg [mv 0 (.dat 2 ((p0 : List GHour).map Qad)), rp [(.tmp 3, .ref 0 1 0 0)] (.fn (.func 112) [] [.ref 0 1 0 0]), ⟨[fu 111, (.tmp 5, (.dat 2 ((p0 : List GHour).map Qad))), (.tmp 6, (.fn (.func 112) [] [.ref 0 1 0 0]))], [(0, (.own 1 [[(.fn (.func 100) [] [])]]))], B x2, [(0, (.own 1 [[(.fn (.func 100) [] [])]]))], false⟩, rp [(.tmp 7, B x2)] (B ((!x2))), mv 8 (B ((!x2)))] ?_ ?_
  ·exact ⟨amv rfl, Qfq (fs := []) (cs := [.ref 0 1 0 0]) rfl rfl rfl rfl, Qa4 (first := []) (cap := []) (vs := [(.dat 2 ((p0 : List GHour).map Qad)), (.fn (.func 112) [] [.ref 0 1 0 0])]) (σr := [(.own 1 [[(.fn (.func 100) [] [])]])]) (σr' := [(.own 1 [[(.fn (.func 100) [] [])]])]) (res' := (B x2)) [0] rfl enter111 (Qes N p0 _ hf1) rfl (Qc3 (rnc (.plain _ (nld Qas _)) (rnc (Qa2 rn0 (rnc (Qbz rfl) rn0)) rn0))) (slc (Qat (rnc (.plain _ (NLt.fn _ _ _ nl0 nl0)) rn0)) Qa0) (slc (Qat (rnc (.plain _ (NLt.fn _ _ _ nl0 nl0)) rn0)) Qa0) (.plain _ nll) rfl rfl rfl, Qap rfl, aas rfl, trivial⟩
  refine Qak ?_
  obtain rfl := osi h
  exact ⟨⟨[(B ((!x2)))], ⟨rot (by kernel_rfl), trivial⟩, rfl⟩, nll, Nat.le_refl _, fun n hn => absurd hn (Nat.not_lt_zero n)⟩

def Qgs (N : Nat) (p0 : GDay) : Option Bool :=
  (Qe3 N p0.Tank).bind fun x2 =>
  bif x2 then
   (Qcu N p0.Start 0 p0.Tank).bind fun x5 =>
   bif x5 then
    (Qcu N (p0.Hours.length : Int) 1 24).bind fun x8 =>
    bif x8 then
     (Qe9 N p0.Hours).bind fun x11 =>
     some x11
    else
     some false
   else
    some false
  else
   some false
set_option maxRecDepth 100000 in
set_option maxHeartbeats 4000000 in
theorem Qiq (N : Nat) (p0 : GDay) (r : Bool) (h : Qgs N p0 = some r) : Spec Try.prog 74 [(.agg (c_GDay p0))] [] (B r) [] := by
  refine Qaq Try.func74 rfl 0 (nle rfl) (fun X φ0 w0 hφ0 => ?_)
  unfold Qgs at h
  refine wrg [⟨[(.tmp 0, (.agg [I p0.Tank, I p0.Start, (.dat 2 ((p0.Hours : List GHour).map Qad))]))], [(0, .unused)], .ref 0 3 0 0, [(0, (.own 3 [[I p0.Tank, I p0.Start, (.dat 2 ((p0.Hours : List GHour).map Qad))]]))], false⟩, mc (.bool false)] ?_ ?_
  ·exact ⟨Qbu rfl (by rfl) rfl rfl, aas rfl, trivial⟩
  obtain ⟨x2, hf1, h⟩ := bno h
  rcases bft (x2) with hb3 | hb3
  ·replace h := Qav hb3 h
   obtain ⟨x5, hf4, h⟩ := bno h
   rcases bft (x5) with hb6 | hb6
   ·replace h := Qav hb6 h
    obtain ⟨x8, hf7, h⟩ := bno h
    rcases bft (x8) with hb9 | hb9
    ·replace h := Qav hb9 h
     obtain ⟨x11, hf10, h⟩ := bno h
     refine wrg [rb [(.tmp 1, .ref 0 3 0 0)] [(0, (.own 3 [[I p0.Tank, I p0.Start, (.dat 2 ((p0.Hours : List GHour).map Qad))]]))] (.ref 0 3 0 0), rb [(.tmp 3, .ref 0 3 0 0)] [(0, (.own 3 [[I p0.Tank, I p0.Start, (.dat 2 ((p0.Hours : List GHour).map Qad))]]))] (I p0.Tank), rp [fu 94, (.tmp 4, I p0.Tank)] (B x2), rp [(.tmp 5, B x2)] (B true), rb [(.tmp 6, B true), (.tmp 1, .ref 0 3 0 0)] [(0, (.own 3 [[I p0.Tank, I p0.Start, (.dat 2 ((p0.Hours : List GHour).map Qad))]]))] (.ref 0 3 0 1), rb [(.tmp 6, B true), (.tmp 7, .ref 0 3 0 1)] [(0, (.own 3 [[I p0.Tank, I p0.Start, (.dat 2 ((p0.Hours : List GHour).map Qad))]]))] (I p0.Start), rb [(.tmp 6, B true), (.tmp 1, .ref 0 3 0 0)] [(0, (.own 3 [[I p0.Tank, I p0.Start, (.dat 2 ((p0.Hours : List GHour).map Qad))]]))] (.ref 0 3 0 0), rb [(.tmp 6, B true), (.tmp 9, .ref 0 3 0 0)] [(0, (.own 3 [[I p0.Tank, I p0.Start, (.dat 2 ((p0.Hours : List GHour).map Qad))]]))] (I p0.Tank), rp [(.tmp 6, B true), fu 68, (.tmp 8, I p0.Start), ci 0, (.tmp 10, I p0.Tank)] (B x5), rp [(.tmp 6, B true), (.tmp 11, B x5), cb false] (B x5), rp [(.tmp 12, B x5)] (B true), rb [(.tmp 13, B true), (.tmp 1, .ref 0 3 0 0)] [(0, (.own 3 [[I p0.Tank, I p0.Start, (.dat 2 ((p0.Hours : List GHour).map Qad))]]))] (.ref 0 3 0 2), rb [(.tmp 13, B true), (.tmp 14, .ref 0 3 0 2)] [(0, (.own 3 [[I p0.Tank, I p0.Start, (.dat 2 ((p0.Hours : List GHour).map Qad))]]))] (.dat 2 ((p0.Hours : List GHour).map Qad)), rp [(.tmp 13, B true), (.tmp 15, (.dat 2 ((p0.Hours : List GHour).map Qad)))] (I ((p0.Hours.length : Int))), rp [(.tmp 13, B true), fu 68, (.tmp 16, (I ((p0.Hours.length : Int)))), ci 1, ci 24] (B x8), rp [(.tmp 13, B true), (.tmp 17, B x8), cb false] (B x8), rp [(.tmp 18, B x8)] (B true), rb [(.tmp 19, B true), (.tmp 1, .ref 0 3 0 0)] [(0, (.own 3 [[I p0.Tank, I p0.Start, (.dat 2 ((p0.Hours : List GHour).map Qad))]]))] (.ref 0 3 0 2), rb [(.tmp 19, B true), (.tmp 20, .ref 0 3 0 2)] [(0, (.own 3 [[I p0.Tank, I p0.Start, (.dat 2 ((p0.Hours : List GHour).map Qad))]]))] (.dat 2 ((p0.Hours : List GHour).map Qad)), rp [(.tmp 19, B true), fu 99, (.tmp 21, (.dat 2 ((p0.Hours : List GHour).map Qad))), fu 100] (B x11), rp [(.tmp 19, B true), (.tmp 22, B x11), cb false] (B x11), mv 23 (B x11)] ?_ ?_
     ·exact ⟨afa rfl Try.underlying47 rfl rfl ti3 (by decide) rfl, ald rfl ti3 (by decide) rfl (nle rfl) rfl, apc (first := []) (cap := []) (vs := [I p0.Tank]) rfl Qe0 (Qb1 N p0.Tank _ hf1) rfl rfl (nlc nll nl0) nll rfl, asb hb3 (amv rfl), ag_ (afa rfl Try.underlying47 rfl rfl ti3 (by decide) rfl), ag_ (ald rfl ti3 (by decide) rfl (nle rfl) rfl), ag_ (afa rfl Try.underlying47 rfl rfl ti3 (by decide) rfl), ag_ (ald rfl ti3 (by decide) rfl (nle rfl) rfl), ag_ (apc (first := []) (cap := []) (vs := [I p0.Start, I 0, I p0.Tank]) rfl Qd1 (Qa5 N p0.Start 0 p0.Tank _ hf4) rfl rfl (nlc nll (nlc nll (nlc nll nl0))) nll rfl), apk rfl rfl, asb hb6 (amv rfl), ag_ (afa rfl Try.underlying47 rfl rfl ti45 (by decide) rfl), ag_ (ald rfl ti45 (by decide) rfl (nle rfl) rfl), ag_ (alm (c := Qad) (l := p0.Hours) (aln rfl Try.underlying45 rfl)), ag_ (apc (first := []) (cap := []) (vs := [(I ((p0.Hours.length : Int))), I 1, I 24]) rfl Qd1 (Qa5 N (p0.Hours.length : Int) 1 24 _ hf7) rfl rfl (nlc nll (nlc nll (nlc nll nl0))) nll rfl), apk rfl rfl, asb hb9 (amv rfl), ag_ (afa rfl Try.underlying47 rfl rfl ti45 (by decide) rfl), ag_ (ald rfl ti45 (by decide) rfl (nle rfl) rfl), ag_ (Qa4 (first := []) (cap := []) (vs := [(.dat 2 ((p0.Hours : List GHour).map Qad)), (.fn (.func 100) [] [])]) (σr := []) (σr' := []) (res' := (B x11)) [] rfl enter99 (Qg2 N p0.Hours _ hf10) rfl (Qc3 (rnc (.plain _ (nld Qas _)) (rnc (.plain _ (NLt.fn _ _ _ nl0 nl0)) rn0))) Qa0 Qa0 (.plain _ nll) rfl rfl rfl), apk rfl rfl, aas rfl, trivial⟩
     refine Qak ?_
     obtain rfl := osi h
     exact ⟨⟨[B x11], ⟨rot (by kernel_rfl), trivial⟩, rfl⟩, nll, Nat.le_refl _, fun n hn => absurd hn (Nat.not_lt_zero n)⟩
    ·replace h := Qaw hb9 h
     refine wrg [rb [(.tmp 1, .ref 0 3 0 0)] [(0, (.own 3 [[I p0.Tank, I p0.Start, (.dat 2 ((p0.Hours : List GHour).map Qad))]]))] (.ref 0 3 0 0), rb [(.tmp 3, .ref 0 3 0 0)] [(0, (.own 3 [[I p0.Tank, I p0.Start, (.dat 2 ((p0.Hours : List GHour).map Qad))]]))] (I p0.Tank), rp [fu 94, (.tmp 4, I p0.Tank)] (B x2), rp [(.tmp 5, B x2)] (B true), rb [(.tmp 6, B true), (.tmp 1, .ref 0 3 0 0)] [(0, (.own 3 [[I p0.Tank, I p0.Start, (.dat 2 ((p0.Hours : List GHour).map Qad))]]))] (.ref 0 3 0 1), rb [(.tmp 6, B true), (.tmp 7, .ref 0 3 0 1)] [(0, (.own 3 [[I p0.Tank, I p0.Start, (.dat 2 ((p0.Hours : List GHour).map Qad))]]))] (I p0.Start), rb [(.tmp 6, B true), (.tmp 1, .ref 0 3 0 0)] [(0, (.own 3 [[I p0.Tank, I p0.Start, (.dat 2 ((p0.Hours : List GHour).map Qad))]]))] (.ref 0 3 0 0), rb [(.tmp 6, B true), (.tmp 9, .ref 0 3 0 0)] [(0, (.own 3 [[I p0.Tank, I p0.Start, (.dat 2 ((p0.Hours : List GHour).map Qad))]]))] (I p0.Tank), rp [(.tmp 6, B true), fu 68, (.tmp 8, I p0.Start), ci 0, (.tmp 10, I p0.Tank)] (B x5), rp [(.tmp 6, B true), (.tmp 11, B x5), cb false] (B x5), rp [(.tmp 12, B x5)] (B true), rb [(.tmp 13, B true), (.tmp 1, .ref 0 3 0 0)] [(0, (.own 3 [[I p0.Tank, I p0.Start, (.dat 2 ((p0.Hours : List GHour).map Qad))]]))] (.ref 0 3 0 2), rb [(.tmp 13, B true), (.tmp 14, .ref 0 3 0 2)] [(0, (.own 3 [[I p0.Tank, I p0.Start, (.dat 2 ((p0.Hours : List GHour).map Qad))]]))] (.dat 2 ((p0.Hours : List GHour).map Qad)), rp [(.tmp 13, B true), (.tmp 15, (.dat 2 ((p0.Hours : List GHour).map Qad)))] (I ((p0.Hours.length : Int))), rp [(.tmp 13, B true), fu 68, (.tmp 16, (I ((p0.Hours.length : Int)))), ci 1, ci 24] (B x8), rp [(.tmp 13, B true), (.tmp 17, B x8), cb false] (B x8), rp [(.tmp 18, B x8)] (B false), sk 19 (B false), sk 19 (B false), sk 19 (B false), rp [(.tmp 19, B false), (.tmp 22, (.lit undef)), cb false] (B false), mv 23 (B false)] ?_ ?_
     ·exact ⟨afa rfl Try.underlying47 rfl rfl ti3 (by decide) rfl, ald rfl ti3 (by decide) rfl (nle rfl) rfl, apc (first := []) (cap := []) (vs := [I p0.Tank]) rfl Qe0 (Qb1 N p0.Tank _ hf1) rfl rfl (nlc nll nl0) nll rfl, asb hb3 (amv rfl), ag_ (afa rfl Try.underlying47 rfl rfl ti3 (by decide) rfl), ag_ (ald rfl ti3 (by decide) rfl (nle rfl) rfl), ag_ (afa rfl Try.underlying47 rfl rfl ti3 (by decide) rfl), ag_ (ald rfl ti3 (by decide) rfl (nle rfl) rfl), ag_ (apc (first := []) (cap := []) (vs := [I p0.Start, I 0, I p0.Tank]) rfl Qd1 (Qa5 N p0.Start 0 p0.Tank _ hf4) rfl rfl (nlc nll (nlc nll (nlc nll nl0))) nll rfl), apk rfl rfl, asb hb6 (amv rfl), ag_ (afa rfl Try.underlying47 rfl rfl ti45 (by decide) rfl), ag_ (ald rfl ti45 (by decide) rfl (nle rfl) rfl), ag_ (alm (c := Qad) (l := p0.Hours) (aln rfl Try.underlying45 rfl)), ag_ (apc (first := []) (cap := []) (vs := [(I ((p0.Hours.length : Int))), I 1, I 24]) rfl Qd1 (Qa5 N (p0.Hours.length : Int) 1 24 _ hf7) rfl rfl (nlc nll (nlc nll (nlc nll nl0))) nll rfl), apk rfl rfl, asb hb9 (amv rfl), trivial, trivial, trivial, apk rfl rfl, aas rfl, trivial⟩
     refine Qak ?_
     obtain rfl := osi h
     exact ⟨⟨[B false], ⟨rot (by kernel_rfl), trivial⟩, rfl⟩, nll, Nat.le_refl _, fun n hn => absurd hn (Nat.not_lt_zero n)⟩
   ·replace h := Qaw hb6 h
    refine wrg [rb [(.tmp 1, .ref 0 3 0 0)] [(0, (.own 3 [[I p0.Tank, I p0.Start, (.dat 2 ((p0.Hours : List GHour).map Qad))]]))] (.ref 0 3 0 0), rb [(.tmp 3, .ref 0 3 0 0)] [(0, (.own 3 [[I p0.Tank, I p0.Start, (.dat 2 ((p0.Hours : List GHour).map Qad))]]))] (I p0.Tank), rp [fu 94, (.tmp 4, I p0.Tank)] (B x2), rp [(.tmp 5, B x2)] (B true), rb [(.tmp 6, B true), (.tmp 1, .ref 0 3 0 0)] [(0, (.own 3 [[I p0.Tank, I p0.Start, (.dat 2 ((p0.Hours : List GHour).map Qad))]]))] (.ref 0 3 0 1), rb [(.tmp 6, B true), (.tmp 7, .ref 0 3 0 1)] [(0, (.own 3 [[I p0.Tank, I p0.Start, (.dat 2 ((p0.Hours : List GHour).map Qad))]]))] (I p0.Start), rb [(.tmp 6, B true), (.tmp 1, .ref 0 3 0 0)] [(0, (.own 3 [[I p0.Tank, I p0.Start, (.dat 2 ((p0.Hours : List GHour).map Qad))]]))] (.ref 0 3 0 0), rb [(.tmp 6, B true), (.tmp 9, .ref 0 3 0 0)] [(0, (.own 3 [[I p0.Tank, I p0.Start, (.dat 2 ((p0.Hours : List GHour).map Qad))]]))] (I p0.Tank), rp [(.tmp 6, B true), fu 68, (.tmp 8, I p0.Start), ci 0, (.tmp 10, I p0.Tank)] (B x5), rp [(.tmp 6, B true), (.tmp 11, B x5), cb false] (B x5), rp [(.tmp 12, B x5)] (B false), sk 13 (B false), sk 13 (B false), sk 13 (B false), sk 13 (B false), rp [(.tmp 13, B false), (.tmp 17, (.lit undef)), cb false] (B false), mv 18 (B false), sk 19 (B false), sk 19 (B false), sk 19 (B false), rp [(.tmp 19, B false), (.tmp 22, (.lit undef)), cb false] (B false), mv 23 (B false)] ?_ ?_
    ·exact ⟨afa rfl Try.underlying47 rfl rfl ti3 (by decide) rfl, ald rfl ti3 (by decide) rfl (nle rfl) rfl, apc (first := []) (cap := []) (vs := [I p0.Tank]) rfl Qe0 (Qb1 N p0.Tank _ hf1) rfl rfl (nlc nll nl0) nll rfl, asb hb3 (amv rfl), ag_ (afa rfl Try.underlying47 rfl rfl ti3 (by decide) rfl), ag_ (ald rfl ti3 (by decide) rfl (nle rfl) rfl), ag_ (afa rfl Try.underlying47 rfl rfl ti3 (by decide) rfl), ag_ (ald rfl ti3 (by decide) rfl (nle rfl) rfl), ag_ (apc (first := []) (cap := []) (vs := [I p0.Start, I 0, I p0.Tank]) rfl Qd1 (Qa5 N p0.Start 0 p0.Tank _ hf4) rfl rfl (nlc nll (nlc nll (nlc nll nl0))) nll rfl), apk rfl rfl, asb hb6 (amv rfl), trivial, trivial, trivial, trivial, apk rfl rfl, amv rfl, trivial, trivial, trivial, apk rfl rfl, aas rfl, trivial⟩
    refine Qak ?_
    obtain rfl := osi h
    exact ⟨⟨[B false], ⟨rot (by kernel_rfl), trivial⟩, rfl⟩, nll, Nat.le_refl _, fun n hn => absurd hn (Nat.not_lt_zero n)⟩
  ·replace h := Qaw hb3 h
   refine wrg [rb [(.tmp 1, .ref 0 3 0 0)] [(0, (.own 3 [[I p0.Tank, I p0.Start, (.dat 2 ((p0.Hours : List GHour).map Qad))]]))] (.ref 0 3 0 0), rb [(.tmp 3, .ref 0 3 0 0)] [(0, (.own 3 [[I p0.Tank, I p0.Start, (.dat 2 ((p0.Hours : List GHour).map Qad))]]))] (I p0.Tank), rp [fu 94, (.tmp 4, I p0.Tank)] (B x2), rp [(.tmp 5, B x2)] (B false), sk 6 (B false), sk 6 (B false), sk 6 (B false), sk 6 (B false), sk 6 (B false), rp [(.tmp 6, B false), (.tmp 11, (.lit undef)), cb false] (B false), mv 12 (B false), sk 13 (B false), sk 13 (B false), sk 13 (B false), sk 13 (B false), rp [(.tmp 13, B false), (.tmp 17, (.lit undef)), cb false] (B false), mv 18 (B false), sk 19 (B false), sk 19 (B false), sk 19 (B false), rp [(.tmp 19, B false), (.tmp 22, (.lit undef)), cb false] (B false), mv 23 (B false)] ?_ ?_
   ·exact ⟨afa rfl Try.underlying47 rfl rfl ti3 (by decide) rfl, ald rfl ti3 (by decide) rfl (nle rfl) rfl, apc (first := []) (cap := []) (vs := [I p0.Tank]) rfl Qe0 (Qb1 N p0.Tank _ hf1) rfl rfl (nlc nll nl0) nll rfl, asb hb3 (amv rfl), trivial, trivial, trivial, trivial, trivial, apk rfl rfl, amv rfl, trivial, trivial, trivial, trivial, apk rfl rfl, amv rfl, trivial, trivial, trivial, apk rfl rfl, aas rfl, trivial⟩
   refine Qak ?_
   obtain rfl := osi h
   exact ⟨⟨[B false], ⟨rot (by kernel_rfl), trivial⟩, rfl⟩, nll, Nat.le_refl _, fun n hn => absurd hn (Nat.not_lt_zero n)⟩

def Qdp (N : Nat) (p0 : GHour) (k2 : Int → Option Int) : Nat → Int → Int → Option Int
  | 0, _, _ => none
  | n7 + 1, y3, y4 =>
    bif (decide (y4 < (p0.Stairs.length : Int))) then
     (getI p0.Stairs y4).bind fun x9 =>
     Qdp N p0 k2 n7 (w64 (y3 + x9.Amount)) (w64 (y4 + 1))
    else
     k2 (y3)
def Qgg (N : Nat) (p0 : GHour) : Option Int :=
  Qca (fun y1 =>
    some y1) fun k2 : Int → Option Int =>
  Qdp N p0 k2 N 0 0
set_option maxRecDepth 100000 in
set_option maxHeartbeats 4000000 in
theorem Qh4 (N : Nat) (p0 : GHour) (r : Int) (h : Qgg N p0 = some r) : Spec Try.prog 101 [(.agg (Qad p0))] [] (I r) [] := by
  refine Qaq Try.func101 rfl 0 (nle rfl) (fun X φ0 w0 hφ0 => ?_)
  unfold Qgg at h
  refine wrg [⟨[(.tmp 0, (.agg [I p0.Use, (.dat 2 ((p0.Stairs : List GStair).map Qah))]))], [(0, .unused)], .ref 0 2 0 0, [(0, (.own 2 [[I p0.Use, (.dat 2 ((p0.Stairs : List GStair).map Qah))]]))], false⟩, mc (.int .i64 0)] ?_ ?_
  ·exact ⟨Qbu rfl (by rfl) rfl rfl, aas rfl, trivial⟩
  obtain ⟨k2, hk_k2, h⟩ := jko h
  refine wjn (τ := Int) (fun t => k2 t = some r) (fun y1 => ⟨mk 18 [(2, I y1)], []⟩) (fun y1 h => ?_) ?_
  ·subst hk_k2
   refine wrg [mv 2 (I y1), mv 17 (I y1)] ?_ ?_
   ·exact ⟨amv rfl, aas rfl, trivial⟩
   refine Qak ?_
   obtain rfl := osi h
   exact ⟨⟨[I y1], ⟨rot (by kernel_rfl), trivial⟩, rfl⟩, nll, Nat.le_refl _, fun n hn => absurd hn (Nat.not_lt_zero n)⟩
  ·skip
   refine wrg [rb [(.tmp 1, .ref 0 2 0 0)] [(0, (.own 2 [[I p0.Use, (.dat 2 ((p0.Stairs : List GStair).map Qah))]]))] (.ref 0 2 0 1), rb [(.tmp 5, .ref 0 2 0 1)] [(0, (.own 2 [[I p0.Use, (.dat 2 ((p0.Stairs : List GStair).map Qah))]]))] (.dat 2 ((p0.Stairs : List GStair).map Qah)), rp [(.tmp 6, (.dat 2 ((p0.Stairs : List GStair).map Qah)))] (I ((p0.Stairs.length : Int))), mc (.int .i64 0)] ?_ ?_
   ·exact ⟨afa rfl Try.underlying62 rfl rfl ti60 (by decide) rfl, ald rfl ti60 (by decide) rfl (nle rfl) rfl, alm (c := Qah) (l := p0.Stairs) (aln rfl Try.underlying60 rfl), amv rfl, trivial⟩
   refine Qan ?_
   refine wmr (mto (n := 18) (l' := [(2, I 0), (6, (.dat 2 ((p0.Stairs : List GStair).map Qah))), (7, (I ((p0.Stairs.length : Int)))), (8, I 0)]) (own' := []) [(2, I 0), (6, (.dat 2 ((p0.Stairs : List GStair).map Qah))), (7, (I ((p0.Stairs.length : Int)))), (8, I 0)] [] [] hφ0 (pc rwl (pc (.rn (.plain _ (nld Qb8 _))) (pc rwl (pc rwl pn)))) qn) ?_
   refine Qcc (τ := Int × Int) (fun n t => Qdp N p0 k2 n t.1 t.2 = some r) (fun ⟨y3, y4⟩ => ⟨mk 18 [(2, I y3), (6, (.dat 2 ((p0.Stairs : List GStair).map Qah))), (7, (I ((p0.Stairs.length : Int)))), (8, I y4)], []⟩) (fun t h => by rw [Qdp] at h; cases h) (fun n7 ih t h => ?_) N (0, 0) h
   obtain ⟨y3, y4⟩ := t
   rw [Qdp] at h
   skip
   refine wrg [rp [(.tmp 8, I y4), (.tmp 7, (I ((p0.Stairs.length : Int))))] (B ((decide (y4 < (p0.Stairs.length : Int)))))] ?_ ?_
   ·exact ⟨abn rfl rfl, trivial⟩
   refine wsq ?_
   rcases bft ((decide (y4 < (p0.Stairs.length : Int)))) with hc8 | hc8
   ·replace h := Qav hc8 h
    refine wft hc8 (by kernel_rfl) ?_
    refine Qam ?_
    refine thn ?_
    refine wsq ?_
    refine Qan ?_
    obtain ⟨x9, hg10, h⟩ := bno h
    obtain ⟨hi11, hj12⟩ := gsm hg10
    refine wrg [rp [(.tmp 6, (.dat 2 ((p0.Stairs : List GStair).map Qah))), (.tmp 8, I y4)] (.dptr (Qah (x9)) 0), rp [(.tmp 10, (.dptr (Qah (x9)) 0))] (.agg [I x9.Amount, I x9.Price]), ⟨[], [(0, .unused)], .ref 0 2 0 0, [(0, .own 2 [[I 0, I 0]])], false⟩, ⟨[(.tmp 4, .ref 0 2 0 0), (.tmp 11, (.agg [I x9.Amount, I x9.Price]))], [(0, .own 2 [[I 0, I 0]])], .any, [(0, .own 2 [[I x9.Amount, I x9.Price]])], false⟩] ?_ ?_
    ·exact ⟨aid rfl Try.underlying60 ti64 rfl rfl hi11 (mgt Qah hj12) rfl, ald_ rfl ti64 (by decide) (nle rfl) rfl, Qaz rfl tz64 rfl, ast rfl ti64 (by rfl) rfl (nle rfl) rfl, trivial⟩
    refine Qar [mv 2 (I y3), rb [(.tmp 4, .ref 0 2 0 0)] [(0, .own 2 [[I x9.Amount, I x9.Price]])] (.ref 0 2 0 0), rb [(.tmp 13, .ref 0 2 0 0)] [(0, .own 2 [[I x9.Amount, I x9.Price]])] (I x9.Amount), rp [(.tmp 12, I y3), (.tmp 14, I x9.Amount)] (I (w64 (y3 + x9.Amount))), mv 15 (I (w64 (y3 + x9.Amount)))] ?_ ?_
    ·exact ⟨amv rfl, afa rfl Try.underlying64 rfl rfl ti3 (by decide) rfl, ald rfl ti3 (by decide) rfl (nle rfl) rfl, abn rfl rfl, aas rfl, trivial⟩
    refine bln ?_
    refine thn ?_
    refine Qar [rp [(.tmp 8, I y4), ci 1] (I (w64 (y4 + 1))), mv 16 (I (w64 (y4 + 1)))] ?_ ?_
    ·exact ⟨abn rfl rfl, amv rfl, trivial⟩
    refine thn ?_
    exact arm (mto (n := 18) [(2, (I (w64 (y3 + x9.Amount)))), (6, (.dat 2 ((p0.Stairs : List GStair).map Qah))), (7, (I ((p0.Stairs.length : Int)))), (8, (I (w64 (y4 + 1))))] [] [] hφ0 (pc rwl (pc (.rn (.plain _ (nld Qb8 _))) (pc rwl (pc rwl pn)))) qn) (ih (w64 (y3 + x9.Amount), w64 (y4 + 1)) h)
   ·replace h := Qaw hc8 h
    refine wfn hc8 (by kernel_rfl) ?_
    refine Qbf ?_
    refine Qau ?_
    refine Qau ?_
    refine Qbe rfl ?_
    refine thn ?_
    exact ⟨(y3), h, (mto (n := 18) [(2, I y3)] [] [] hφ0 (pc rwl pn) qn)⟩

def Qdx (N : Nat) (p0 : GDay) (k1 : Unit → Option (Int × Int)) : Nat → Int → Int → Option (Int × Int)
  | 0, _, _ => none
  | n6 + 1, y2, y3 =>
    bif (decide (y3 < (p0.Hours.length : Int))) then
     (getI p0.Hours y3).bind fun x8 =>
     (Qgg N x8).bind fun x13 =>
     (some (w64 (y2 + (w64 (x13 - x8.Use))))).bind fun x14 =>
     bif (decide (x14 < 0)) then
      some (y3, w64 (0 - x14))
     else
      (some (if p0.Tank < x14 then p0.Tank else x14)).bind fun x17 =>
      Qdx N p0 k1 n6 x17 (w64 (y3 + 1))
    else
     k1 ()
def Qgt (N : Nat) (p0 : GDay) : Option (Int × Int) :=
  Qca (fun _ =>
    some ((-1), 0)) fun k1 : Unit → Option (Int × Int) =>
  Qdx N p0 k1 N p0.Start 0
set_option maxRecDepth 100000 in
set_option maxHeartbeats 4000000 in
theorem Qir (N : Nat) (p0 : GDay) (r : (Int × Int)) (h : Qgt N p0 = some r) : Spec Try.prog 75 [(.agg (c_GDay p0))] [] (.tup [(I r.1), (I r.2)]) [] := by
  refine Qaq Try.func75 rfl 0 (nle rfl) (fun X φ0 w0 hφ0 => ?_)
  unfold Qgt at h
  refine wrg [⟨[(.tmp 0, (.agg [I p0.Tank, I p0.Start, (.dat 2 ((p0.Hours : List GHour).map Qad))]))], [(0, .unused)], .ref 0 3 0 0, [(0, (.own 3 [[I p0.Tank, I p0.Start, (.dat 2 ((p0.Hours : List GHour).map Qad))]]))], false⟩, mc (.int .i64 0), mc (.int .i64 0)] ?_ ?_
  ·exact ⟨Qbu rfl (by rfl) rfl rfl, aas rfl, aas rfl, trivial⟩
  refine wrg [rb [(.tmp 1, .ref 0 3 0 0)] [(0, (.own 3 [[I p0.Tank, I p0.Start, (.dat 2 ((p0.Hours : List GHour).map Qad))]]))] (.ref 0 3 0 1), rb [(.tmp 7, .ref 0 3 0 1)] [(0, (.own 3 [[I p0.Tank, I p0.Start, (.dat 2 ((p0.Hours : List GHour).map Qad))]]))] (I p0.Start), mv 8 (I p0.Start)] ?_ ?_
  ·exact ⟨afa rfl Try.underlying47 rfl rfl ti3 (by decide) rfl, ald rfl ti3 (by decide) rfl (nle rfl) rfl, aas rfl, trivial⟩
  obtain ⟨k1, hk_k1, h⟩ := jko h
  refine wjn (τ := Unit) (fun t => k1 t = some r) (fun _ => ⟨mk 34 [], []⟩) (fun t h => ?_) ?_
  ·subst hk_k1
   refine wrg [mc (.int .i64 (-1)), mc (.int .i64 0)] ?_ ?_
   ·exact ⟨aas rfl, aas rfl, trivial⟩
   refine Qak ?_
   obtain rfl := osi h
   exact ⟨⟨[(I ((-1))), I 0], ⟨rot (by kernel_rfl), rot (by kernel_rfl), trivial⟩, rfl⟩, (NLt.tup _ (nlc nll (nlc nll nl0))), Nat.le_refl _, fun n hn => absurd hn (Nat.not_lt_zero n)⟩
  ·skip
   refine wrg [rb [(.tmp 1, .ref 0 3 0 0)] [(0, (.own 3 [[I p0.Tank, I p0.Start, (.dat 2 ((p0.Hours : List GHour).map Qad))]]))] (.ref 0 3 0 2), rb [(.tmp 9, .ref 0 3 0 2)] [(0, (.own 3 [[I p0.Tank, I p0.Start, (.dat 2 ((p0.Hours : List GHour).map Qad))]]))] (.dat 2 ((p0.Hours : List GHour).map Qad)), rp [(.tmp 10, (.dat 2 ((p0.Hours : List GHour).map Qad)))] (I ((p0.Hours.length : Int))), mc (.int .i64 0)] ?_ ?_
   ·exact ⟨afa rfl Try.underlying47 rfl rfl ti45 (by decide) rfl, ald rfl ti45 (by decide) rfl (nle rfl) rfl, alm (c := Qad) (l := p0.Hours) (aln rfl Try.underlying45 rfl), amv rfl, trivial⟩
   refine Qan ?_
   refine wmr (mto (n := 34) (l' := [(1, .ref 0 3 0 0), (4, I p0.Start), (10, (.dat 2 ((p0.Hours : List GHour).map Qad))), (11, (I ((p0.Hours.length : Int)))), (12, I 0)]) (own' := [(.own 3 [[I p0.Tank, I p0.Start, (.dat 2 ((p0.Hours : List GHour).map Qad))]])]) [(1, .ref 0 3 0 0), (4, I p0.Start), (10, (.dat 2 ((p0.Hours : List GHour).map Qad))), (11, (I ((p0.Hours.length : Int)))), (12, I 0)] [0] [(.own 3 [[I p0.Tank, I p0.Start, (.dat 2 ((p0.Hours : List GHour).map Qad))]])] hφ0 (pc (.rn (rqr rfl)) (pc rwl (pc (.rn (.plain _ (nld Qas _))) (pc rwl (pc rwl pn))))) (qc (spb (lc rwl (lc rwl (lc (.rn (.plain _ (nld Qas _))) ln)))) qn)) ?_
   refine Qcc (τ := Int × Int) (fun n t => Qdx N p0 k1 n t.1 t.2 = some r) (fun ⟨y2, y3⟩ => ⟨mk 34 [(1, .ref 0 3 0 0), (4, I y2), (10, (.dat 2 ((p0.Hours : List GHour).map Qad))), (11, (I ((p0.Hours.length : Int)))), (12, I y3)], [(.own 3 [[I p0.Tank, I p0.Start, (.dat 2 ((p0.Hours : List GHour).map Qad))]])]⟩) (fun t h => by rw [Qdx] at h; cases h) (fun n6 ih t h => ?_) N (p0.Start, 0) h
   obtain ⟨y2, y3⟩ := t
   rw [Qdx] at h
   skip
   refine wrg [rp [(.tmp 12, I y3), (.tmp 11, (I ((p0.Hours.length : Int))))] (B ((decide (y3 < (p0.Hours.length : Int)))))] ?_ ?_
   ·exact ⟨abn rfl rfl, trivial⟩
   refine wsq ?_
   rcases bft ((decide (y3 < (p0.Hours.length : Int)))) with hc7 | hc7
   ·replace h := Qav hc7 h
    refine wft hc7 (by kernel_rfl) ?_
    refine Qam ?_
    refine thn ?_
    refine wsq ?_
    refine Qan ?_
    obtain ⟨x8, hg9, h⟩ := bno h
    obtain ⟨hi10, hj11⟩ := gsm hg9
    refine wrg [mv 12 (I y3), rp [(.tmp 10, (.dat 2 ((p0.Hours : List GHour).map Qad))), (.tmp 12, I y3)] (.dptr (Qad (x8)) 0), rp [(.tmp 15, (.dptr (Qad (x8)) 0))] (.agg [I x8.Use, (.dat 2 ((x8.Stairs : List GStair).map Qah))]), ⟨[], [(1, .unused)], .ref 1 2 0 0, [(1, .own 2 [[I 0, nilS]])], false⟩, mv 14 (I y3), ⟨[(.tmp 6, .ref 1 2 0 0), (.tmp 16, (.agg [I x8.Use, (.dat 2 ((x8.Stairs : List GStair).map Qah))]))], [(1, .own 2 [[I 0, nilS]])], .any, [(1, (.own 2 [[I x8.Use, (.dat 2 ((x8.Stairs : List GStair).map Qah))]]))], false⟩] ?_ ?_
    ·exact ⟨amv rfl, aid rfl Try.underlying45 ti62 rfl rfl hi10 (mgt Qad hj11) rfl, ald_ rfl ti62 (by decide) (nle rfl) rfl, Qaz rfl tz62 rfl, aas rfl, ast rfl ti62 (by rfl) rfl (nle rfl) rfl, trivial⟩
    obtain ⟨x13, hf12, h⟩ := bno h
    obtain ⟨x14, hl15, h⟩ := bno h
    refine Qct [mv 4 (I y2), rb [(.tmp 6, .ref 1 2 0 0)] [(1, (.own 2 [[I x8.Use, (.dat 2 ((x8.Stairs : List GStair).map Qah))]]))] (.agg [I x8.Use, (.dat 2 ((x8.Stairs : List GStair).map Qah))]), rp [fu 101, (.tmp 18, (.agg [I x8.Use, (.dat 2 ((x8.Stairs : List GStair).map Qah))]))] (I x13), rb [(.tmp 6, .ref 1 2 0 0)] [(1, (.own 2 [[I x8.Use, (.dat 2 ((x8.Stairs : List GStair).map Qah))]]))] (.ref 1 2 0 0), rb [(.tmp 20, .ref 1 2 0 0)] [(1, (.own 2 [[I x8.Use, (.dat 2 ((x8.Stairs : List GStair).map Qah))]]))] (I x8.Use), rp [(.tmp 19, I x13), (.tmp 21, I x8.Use)] (I (w64 (x13 - x8.Use))), rp [(.tmp 17, I y2), (.tmp 22, (I (w64 (x13 - x8.Use))))] (I (w64 (y2 + (w64 (x13 - x8.Use))))), rp [(.tmp 23, (I (w64 (y2 + (w64 (x13 - x8.Use))))))] (I x14)] ?_ ?_
    ·exact ⟨amv rfl, ald rfl ti62 (by decide) rfl (nle rfl) rfl, apc (first := []) (cap := []) (vs := [(.agg [I x8.Use, (.dat 2 ((x8.Stairs : List GStair).map Qah))])]) rfl enter101 (Qh4 N x8 _ hf12) rfl rfl (nlc (NLt.agg _ (nlc nll (nlc (nld Qb8 _) nl0))) nl0) nll rfl, afa rfl Try.underlying62 rfl rfl ti3 (by decide) rfl, ald rfl ti3 (by decide) rfl (nle rfl) rfl, abn rfl rfl, abn rfl rfl, Qe2 hl15 (aas rfl), trivial⟩
    refine wsq ?_
    refine wrg [mv 4 (I x14), rp [(.tmp 24, I x14), ci 0] (B ((decide (x14 < 0))))] ?_ ?_
    ·exact ⟨amv rfl, abn rfl rfl, trivial⟩
    rcases bft ((decide (x14 < 0))) with hc16 | hc16
    ·replace h := Qav hc16 h
     refine wft hc16 (by kernel_rfl) ?_
     refine wrg [mv 5 (I y3), mv 4 (I x14), rp [(.tmp 27, I x14)] (I (w64 (0 - x14))), mv 26 (I y3), mv 28 (I (w64 (0 - x14)))] ?_ ?_
     ·exact ⟨amv rfl, amv rfl, astep_neg rfl, aas rfl, aas rfl, trivial⟩
     refine Qak ?_
     refine Qao ?_
     refine Qa3 ?_
     refine Qao ?_
     refine Qao ?_
     refine Qa3 ?_
     refine Qao ?_
     obtain rfl := osi h
     exact ⟨⟨[I y3, (I (w64 (0 - x14)))], ⟨rot (by kernel_rfl), rot (by kernel_rfl), trivial⟩, rfl⟩, (NLt.tup _ (nlc nll (nlc nll nl0))), Nat.le_refl _, fun n hn => absurd hn (Nat.not_lt_zero n)⟩
    ·replace h := Qaw hc16 h
     refine wfn hc16 (by kernel_rfl) ?_
     refine Qam ?_
     refine thn ?_
     obtain ⟨x17, hl18, h⟩ := bno h
     refine Qar [mv 4 (I x14), rb [(.tmp 1, .ref 0 3 0 0)] [(0, (.own 3 [[I p0.Tank, I p0.Start, (.dat 2 ((p0.Hours : List GHour).map Qad))]]))] (.ref 0 3 0 0), rb [(.tmp 30, .ref 0 3 0 0)] [(0, (.own 3 [[I p0.Tank, I p0.Start, (.dat 2 ((p0.Hours : List GHour).map Qad))]]))] (I p0.Tank), rp [(.tmp 29, I x14), (.tmp 31, I p0.Tank)] (I ((if p0.Tank < x14 then p0.Tank else x14))), rp [(.tmp 32, (I ((if p0.Tank < x14 then p0.Tank else x14))))] (I x17)] ?_ ?_
     ·exact ⟨amv rfl, afa rfl Try.underlying47 rfl rfl ti3 (by decide) rfl, ald rfl ti3 (by decide) rfl (nle rfl) rfl, Qho rfl, Qe2 hl18 (aas rfl), trivial⟩
     refine bln ?_
     refine thn ?_
     refine Qar [rp [(.tmp 12, I y3), ci 1] (I (w64 (y3 + 1))), mv 33 (I (w64 (y3 + 1)))] ?_ ?_
     ·exact ⟨abn rfl rfl, amv rfl, trivial⟩
     refine thn ?_
     exact arm (mto (n := 34) [(1, .ref 0 3 0 0), (4, I x17), (10, (.dat 2 ((p0.Hours : List GHour).map Qad))), (11, (I ((p0.Hours.length : Int)))), (12, (I (w64 (y3 + 1))))] [0] [(.own 3 [[I p0.Tank, I p0.Start, (.dat 2 ((p0.Hours : List GHour).map Qad))]])] hφ0 (pc (.rn (rqr rfl)) (pc rwl (pc (.rn (.plain _ (nld Qas _))) (pc rwl (pc rwl pn))))) (qc (spb (lc rwl (lc rwl (lc (.rn (.plain _ (nld Qas _))) ln)))) qn)) (ih (x17, w64 (y3 + 1)) h)
   ·replace h := Qaw hc7 h
    refine wfn hc7 (by kernel_rfl) ?_
    refine Qbf ?_
    refine Qau ?_
    refine Qau ?_
    refine Qbe rfl ?_
    refine thn ?_
    exact ⟨(), h, (mto (n := 34) [] [] [] hφ0 pn qn)⟩

def Qe8 (_N : Nat) (_p0 : GHour) (_p1 : Int) : Option Unit :=
  some ()
set_option maxRecDepth 100000 in
set_option maxHeartbeats 4000000 in
theorem Qga (N : Nat) (p0 : GHour) (p1 : Int) (r : Unit) (h : Qe8 N p0 p1 = some r) : Spec Try.prog 93 [(.agg [(I (p0.Use)), (.dat 2 ((p0.Stairs : List GStair).map Qah))]), (I (p1))] [] (.fn (.func 109) [] [(.ref 0 2 (0) 0), (.ref 1 1 (0) 0)]) [(.own 2 [[(I (p0.Use)), (.dat 2 ((p0.Stairs : List GStair).map Qah))]]), (.own 1 [[(I (p1))]])] := by
  refine Qaq Try.func93 rfl 2 (nle rfl) (fun X φ0 w0 hφ0 => ?_)
  unfold Qe8 at h
  refine Qc1 ?_
  refine wrg [⟨[(.tmp 0, (.agg [I p0.Use, (.dat 2 ((p0.Stairs : List GStair).map Qah))]))], [(0, .unused)], .ref 0 2 0 0, [(0, (.own 2 [[I p0.Use, (.dat 2 ((p0.Stairs : List GStair).map Qah))]]))], false⟩, ⟨[(.tmp 1, I p1)], [(1, .unused)], .ref 1 1 0 0, [(1, .own 1 [[I p1]])], false⟩, mc .nilFunc] ?_ ?_
  ·exact ⟨Qbu rfl (by rfl) rfl rfl, Qbu rfl (by rfl) rfl rfl, aas rfl, trivial⟩
  refine wrg [rp [(.tmp 2, .ref 0 2 0 0), (.tmp 3, .ref 1 1 0 0)] (.fn (.func 109) [] [.ref 0 2 0 0, .ref 1 1 0 0]), mv 5 (.fn (.func 109) [] [.ref 0 2 0 0, .ref 1 1 0 0])] ?_ ?_
  ·exact ⟨Qfq (fs := []) (cs := [.ref 0 2 0 0, .ref 1 1 0 0]) rfl rfl rfl rfl, aas rfl, trivial⟩
  refine wmr (mto (n := 6) (l' := [(4, (.fn (.func 109) [] [.ref 0 2 0 0, .ref 1 1 0 0]))]) (own' := [(.own 2 [[I p0.Use, (.dat 2 ((p0.Stairs : List GStair).map Qah))]]), (.own 1 [[I p1]])]) [(4, (.fn (.func 109) [] [.ref 0 2 0 0, .ref 1 1 0 0]))] [0, 1] [(.own 2 [[I p0.Use, (.dat 2 ((p0.Stairs : List GStair).map Qah))]]), (.own 1 [[I p1]])] hφ0 (pc (.rn (Qa2 rn0 (rnc (rqr rfl) (rnc (rqr rfl) rn0)))) pn) (qc (spb (lc rwl (lc (.rn (.plain _ (nld Qb8 _))) ln))) (qc (spb (lc rwl ln)) qn))) ?_
  refine Qak ?_
  obtain rfl := osi h
  exact ⟨_, Mor.rfl, Qc0 (vs := [(.fn (.func 109) [] [.ref 0 2 0 0, .ref 1 1 0 0])]) ⟨rot (by kernel_rfl), trivial⟩ rfl (NLt.fn _ _ _ nl0 (nlc (NLt.ref _ _ _ _ (by decide)) (nlc (NLt.ref _ _ _ _ (by decide)) nl0))) (by kernel_rfl) (Qay (Qb2 (nlc (NLt.of0 nll) (nlc (NLt.of0 (nld Qb8 _)) nl0))) (Qay (Qb2 (nlc (NLt.of0 nll) nl0)) Qbx))⟩

def Qdd (N : Nat) (p1 : (List GStair)) : Nat → Int → Int → Option (List (GStair × Int))
  | 0, _, _ => none
  | n7 + 1, y1, y2 =>
    bif (decide (y1 < (p1.length : Int))) then
     (getI p1 y1).bind fun x9 =>
     (some (if x9.Amount < y2 then x9.Amount else y2)).bind fun x13 =>
     yld (x9, x13) <|
     Qdd N p1 n7 (w64 (y1 + 1)) (w64 (y2 - x13))
    else
     some ([])
def Qe7 (N : Nat) (_p0 : Int) (p1 : (List GStair)) (p2 : Int) : Option (List (GStair × Int)) :=
  Qdd N p1 N 0 p2
set_option maxRecDepth 100000 in
set_option maxHeartbeats 4000000 in
theorem Qf9 (N : Nat) (p0 : Int) (p1 : (List GStair)) (p2 : Int) (r : (List (GStair × Int))) (h : Qe7 N p0 p1 p2 = some r) : SeqSpec Try.prog 109 [(.ref 0 2 (0) 0), (.ref 1 1 (0) 0)] [(.own 2 [[(I (p0)), (.dat 2 ((p1 : List GStair).map Qah))]]), (.own 1 [[(I (p2))]])] (fun x => [(.agg #[(.int .i64 (x.1.Amount)), (.int .i64 (x.1.Price))]), (.int .i64 (x.2))]) r := by
  refine seq_of_awp Try.func109 rfl rfl (fun X φ0 w0 l J hφ0 hy => ?_)
  unfold Qe7 at h
  refine wrg [rb [(.tmp 1, .ref 0 2 0 0)] [(0, (.own 2 [[I p0, (.dat 2 ((p1 : List GStair).map Qah))]]))] (.ref 0 2 0 1), rb [(.tmp 7, .ref 0 2 0 1)] [(0, (.own 2 [[I p0, (.dat 2 ((p1 : List GStair).map Qah))]]))] (.dat 2 ((p1 : List GStair).map Qah)), rp [(.tmp 8, (.dat 2 ((p1 : List GStair).map Qah)))] (I ((p1.length : Int))), mc (.int .i64 0)] ?_ ?_
  ·exact ⟨afa rfl Try.underlying62 rfl rfl ti60 (by decide) rfl, ald rfl ti60 (by decide) rfl (nle rfl) rfl, alm (c := Qah) (l := p1) (aln rfl Try.underlying60 rfl), amv rfl, trivial⟩
  refine Qan ?_
  refine wmr (mto (n := 27) (l' := [(0, (.lit (.func (.yield l) #[] #[]))), (2, .ref 1 1 0 0), (8, (.dat 2 ((p1 : List GStair).map Qah))), (9, (I ((p1.length : Int)))), (10, I 0)]) (own' := [(.own 2 [[I p0, (.dat 2 ((p1 : List GStair).map Qah))]]), (.own 1 [[I p2]]), (.far (J (some (r))))]) [(0, (.lit (.func (.yield l) #[] #[]))), (2, .ref 1 1 0 0), (8, (.dat 2 ((p1 : List GStair).map Qah))), (9, (I ((p1.length : Int)))), (10, I 0)] [0, 1, 2] [(.own 2 [[I p0, (.dat 2 ((p1 : List GStair).map Qah))]]), (.own 1 [[I p2]]), (.far (J (some (r))))] hφ0 (pc rwl (pc (.rn (rqr rfl)) (pc (.rn (.plain _ (nld Qb8 _))) (pc rwl (pc rwl pn))))) (qc (spb (lc rwl (lc (.rn (.plain _ (nld Qb8 _))) ln))) (qc (spb (lc rwl ln)) (qc (.far _) qn)))) ?_
  refine Qcc (τ := (Int × Int) × List (GStair × Int)) (fun n t => Qdd N p1 n t.1.1 t.1.2 = some t.2) (fun ⟨⟨y1, y2⟩, q3⟩ => ⟨mk 27 [(0, (.lit (.func (.yield l) #[] #[]))), (2, .ref 1 1 0 0), (8, (.dat 2 ((p1 : List GStair).map Qah))), (9, (I ((p1.length : Int)))), (10, I y1)], [(.own 2 [[I p0, (.dat 2 ((p1 : List GStair).map Qah))]]), (.own 1 [[I y2]]), (.far (J (some (q3))))]⟩) (fun t h => by rw [Qdd] at h; cases h) (fun n7 ih t h => ?_) N ((0, p2), r) h
  obtain ⟨⟨y1, y2⟩, q3⟩ := t
  rw [Qdd] at h
  try dsimp only at h
  refine wrg [rp [(.tmp 10, I y1), (.tmp 9, (I ((p1.length : Int))))] (B ((decide (y1 < (p1.length : Int)))))] ?_ ?_
  ·exact ⟨abn rfl rfl, trivial⟩
  refine wsq ?_
  rcases bft ((decide (y1 < (p1.length : Int)))) with hc8 | hc8
  ·replace h := Qav hc8 h
   refine wft hc8 (by kernel_rfl) ?_
   refine Qam ?_
   refine thn ?_
   refine wsq ?_
   refine Qan ?_
   obtain ⟨x9, hg10, h⟩ := bno h
   obtain ⟨hi11, hj12⟩ := gsm hg10
   refine wrg [rp [(.tmp 8, (.dat 2 ((p1 : List GStair).map Qah))), (.tmp 10, I y1)] (.dptr (Qah (x9)) 0), rp [(.tmp 12, (.dptr (Qah (x9)) 0))] (.agg [I x9.Amount, I x9.Price]), ⟨[], [(3, .unused)], .ref 3 2 0 0, [(3, .own 2 [[I 0, I 0]])], false⟩, ⟨[(.tmp 5, .ref 3 2 0 0), (.tmp 13, (.agg [I x9.Amount, I x9.Price]))], [(3, .own 2 [[I 0, I 0]])], .any, [(3, .own 2 [[I x9.Amount, I x9.Price]])], false⟩] ?_ ?_
   ·exact ⟨aid rfl Try.underlying60 ti64 rfl rfl hi11 (mgt Qah hj12) rfl, ald_ rfl ti64 (by decide) (nle rfl) rfl, Qaz rfl tz64 rfl, ast rfl ti64 (by rfl) rfl (nle rfl) rfl, trivial⟩
   obtain ⟨x13, hl14, h⟩ := bno h
   refine wrg [rb [(.tmp 2, .ref 1 1 0 0)] [(1, .own 1 [[I y2]])] (I y2), rb [(.tmp 5, .ref 3 2 0 0)] [(3, .own 2 [[I x9.Amount, I x9.Price]])] (.ref 3 2 0 0), rb [(.tmp 15, .ref 3 2 0 0)] [(3, .own 2 [[I x9.Amount, I x9.Price]])] (I x9.Amount), rp [(.tmp 14, I y2), (.tmp 16, I x9.Amount)] (I ((if x9.Amount < y2 then x9.Amount else y2))), rp [(.tmp 17, (I ((if x9.Amount < y2 then x9.Amount else y2))))] (I x13)] ?_ ?_
   ·exact ⟨ald rfl ti3 (by decide) rfl (nle rfl) rfl, afa rfl Try.underlying64 rfl rfl ti3 (by decide) rfl, ald rfl ti3 (by decide) rfl (nle rfl) rfl, Qho rfl, Qe2 hl14 (aas rfl), trivial⟩
   refine wsq ?_
   obtain ⟨q15, hy_, hq_⟩ := yld_out h
   clear h
   subst hq_
   have h := hy_
   clear hy_
   refine awp_regy 3 [mv 0 (.lit (.func (.yield l) #[] #[])), rb [(.tmp 5, .ref 3 2 0 0)] [(3, .own 2 [[I x9.Amount, I x9.Price]])] (.agg [I x9.Amount, I x9.Price]), mv 6 (I x13), ⟨[(.tmp 18, (.lit (.func (.yield l) #[] #[]))), (.tmp 19, (.agg [I x9.Amount, I x9.Price])), (.tmp 20, I x13)], [(2, (.far (J (some ((x9, x13) :: q15)))))], B true, [(2, (.far (J (some (q15)))))], false⟩, rp [(.tmp 21, B true)] (B false)] [mv 0 (.lit (.func (.yield l) #[] #[])), rb [(.tmp 5, .ref 3 2 0 0)] [(3, .own 2 [[I x9.Amount, I x9.Price]])] (.agg [I x9.Amount, I x9.Price]), mv 6 (I x13), ⟨[(.tmp 18, (.lit (.func (.yield l) #[] #[]))), (.tmp 19, (.agg [I x9.Amount, I x9.Price])), (.tmp 20, I x13)], [(2, (.far (J (some ((x9, x13) :: q15)))))], B false, [(2, (.far (J none)))], false⟩, rp [(.tmp 21, B false)] (B true)] (by exact ⟨by kernel_rfl, by kernel_rfl⟩) (by exact ⟨by kernel_rfl, by kernel_rfl⟩) rfl rfl rfl rfl (astep2_weak (rd' := (.tmp 18, .lit (.func (.yield l) #[] #[])) :: [(.tmp 19, .lit (.agg #[(.int .i64 (x9.Amount)), (.int .i64 (x9.Price))])), (.tmp 20, .lit (.int .i64 (x13)))]) ⟨rfl, lrf, rfl, (Less.lits [(.int .i64 (x9.Amount)), (.int .i64 (x9.Price))]), rfl, lrf, trivial⟩ (astep_yieldq (x := (x9, x13)) (rest := q15) rfl rfl hy rfl)) (⟨fun _ _ => amv rfl, fun _ _ => ald rfl ti64 (by decide) rfl (nle rfl) rfl, fun _ _ => amv rfl, fun _ h => absurd rfl h, fun _ _ => Qap rfl, trivial⟩) (⟨fun _ _ => amv rfl, fun _ _ => ald rfl ti64 (by decide) rfl (nle rfl) rfl, fun _ _ => amv rfl, fun _ h => absurd rfl h, fun _ _ => Qap rfl, trivial⟩) ?_ ?_
   ·skip
    refine Qey (by kernel_rfl) ?_
    refine Qam ?_
    refine thn ?_
    refine Qar [rb [(.tmp 2, .ref 1 1 0 0)] [(1, .own 1 [[I y2]])] (I y2), mv 6 (I x13), rp [(.tmp 23, I y2), (.tmp 24, I x13)] (I (w64 (y2 - x13))), ⟨[(.tmp 2, .ref 1 1 0 0), (.tmp 25, (I (w64 (y2 - x13))))], [(1, .own 1 [[I y2]])], .any, [(1, (.own 1 [[(I (w64 (y2 - x13)))]]))], false⟩] ?_ ?_
    ·exact ⟨ald rfl ti3 (by decide) rfl (nle rfl) rfl, amv rfl, abn rfl rfl, ast rfl ti3 (by rfl) rfl (nle rfl) rfl, trivial⟩
    refine bln ?_
    refine thn ?_
    refine Qar [rp [(.tmp 10, I y1), ci 1] (I (w64 (y1 + 1))), mv 26 (I (w64 (y1 + 1)))] ?_ ?_
    ·exact ⟨abn rfl rfl, amv rfl, trivial⟩
    refine thn ?_
    exact arm (mto (n := 27) [(0, (.lit (.func (.yield l) #[] #[]))), (2, .ref 1 1 0 0), (8, (.dat 2 ((p1 : List GStair).map Qah))), (9, (I ((p1.length : Int)))), (10, (I (w64 (y1 + 1))))] [0, 1, 2] [(.own 2 [[I p0, (.dat 2 ((p1 : List GStair).map Qah))]]), (.own 1 [[(I (w64 (y2 - x13)))]]), (.far (J (some (q15))))] hφ0 (pc rwl (pc (.rn (rqr rfl)) (pc (.rn (.plain _ (nld Qb8 _))) (pc rwl (pc rwl pn))))) (qc (spb (lc rwl (lc (.rn (.plain _ (nld Qb8 _))) ln))) (qc (spb (lc rwl ln)) (qc (.far _) qn)))) (ih ((w64 (y1 + 1), w64 (y2 - x13)), q15) h)
   ·clear h
    refine Qbq (by kernel_rfl) ?_
    refine Qak ?_
    refine Qao ?_
    refine Qa3 ?_
    refine Qao ?_
    refine Qao ?_
    refine Qa3 ?_
    exact Or.inr rfl
  ·replace h := Qaw hc8 h
   refine wfn hc8 (by kernel_rfl) ?_
   refine Qbf ?_
   refine Qau ?_
   refine Qau ?_
   refine Qbe rfl ?_
   obtain rfl := osi h
   exact Or.inl rfl

def Qdq (N : Nat) (k2 : Int → Option Int) : (List (GStair × Int)) → Int → Option Int
  | [], y7 =>
    k2 (y7)
  | x10 :: q11, y7 =>
    Qdq N k2 q11 (w64 (y7 + (w64 (x10.1.Price * x10.2))))
def Qgr (N : Nat) (p0 : GHour) (p1 : Int) : Option Int :=
  Qca (fun y1 =>
    some y1) fun k2 : Int → Option Int =>
  (Qe8 N p0 p1).bind fun _ =>
  (Qe7 N p0.Use p0.Stairs p1).bind fun q5 =>
  Qdq N k2 q5 0
set_option maxRecDepth 100000 in
set_option maxHeartbeats 4000000 in
theorem Qip (N : Nat) (p0 : GHour) (p1 : Int) (r : Int) (h : Qgr N p0 p1 = some r) : Spec Try.prog 77 [(.agg (Qad p0)), (I p1)] [] (I r) [] := by
  refine Qaq Try.func77 rfl 0 (nle rfl) (fun X φ0 w0 hφ0 => ?_)
  unfold Qgr at h
  refine wrg [⟨[(.tmp 0, (.agg [I p0.Use, (.dat 2 ((p0.Stairs : List GStair).map Qah))]))], [(0, .unused)], .ref 0 2 0 0, [(0, (.own 2 [[I p0.Use, (.dat 2 ((p0.Stairs : List GStair).map Qah))]]))], false⟩, ⟨[], [(1, .unused)], .ref 1 1 0 0, [(1, .own 1 [[I 0]])], false⟩] ?_ ?_
  ·exact ⟨Qbu rfl (by rfl) rfl rfl, Qaz rfl tz3 rfl, trivial⟩
  obtain ⟨k2, hk_k2, h⟩ := jko h
  refine wjn (τ := Int) (fun t => k2 t = some r) (fun y1 => ⟨mk 19 [(4, .ref 0 1 0 0)], [(.own 1 [[I y1]])]⟩) (fun y1 h => ?_) ?_
  ·subst hk_k2
   refine wrg [rb [(.tmp 4, .ref 0 1 0 0)] [(0, .own 1 [[I y1]])] (I y1), ⟨[(.tmp 4, .ref 0 1 0 0), (.tmp 18, I y1)], [(0, .own 1 [[I y1]])], .any, [(0, .own 1 [[I y1]])], false⟩] ?_ ?_
   ·exact ⟨ald rfl ti3 (by decide) rfl (nle rfl) rfl, ast rfl ti3 (by rfl) rfl (nle rfl) rfl, trivial⟩
   refine Qak ?_
   obtain rfl := osi h
   exact ⟨⟨[I y1], ⟨Qds (n := 0) (m := 1) (j := 0) (i := 0) (xs := [[I y1]]) (by kernel_rfl) (by kernel_rfl) ti3 (by decide) rfl (nle rfl) rfl, trivial⟩, rfl⟩, nll, Nat.le_refl _, fun n hn => absurd hn (Nat.not_lt_zero n)⟩
  ·skip
   obtain ⟨x4, hf3, h⟩ := bno h
   refine wrg [rb [(.tmp 2, .ref 0 2 0 0)] [(0, (.own 2 [[I p0.Use, (.dat 2 ((p0.Stairs : List GStair).map Qah))]]))] (.agg [I p0.Use, (.dat 2 ((p0.Stairs : List GStair).map Qah))]), mv 1 (I p1), ⟨[fu 93, (.tmp 7, (.agg [I p0.Use, (.dat 2 ((p0.Stairs : List GStair).map Qah))])), (.tmp 8, I p1)], [(2, .unused), (3, .unused)], (.fn (.func 109) [] [.ref 2 2 0 0, .ref 3 1 0 0]), [(2, (.own 2 [[I p0.Use, (.dat 2 ((p0.Stairs : List GStair).map Qah))]])), (3, .own 1 [[I p1]])], false⟩] ?_ ?_
   ·exact ⟨ald rfl ti62 (by decide) rfl (nle rfl) rfl, amv rfl, Qa4 (first := []) (cap := []) (vs := [(.agg [I p0.Use, (.dat 2 ((p0.Stairs : List GStair).map Qah))]), I p1]) (σr := []) (σr' := [(.own 2 [[I p0.Use, (.dat 2 ((p0.Stairs : List GStair).map Qah))]]), (.own 1 [[I p1]])]) (res' := (.fn (.func 109) [] [.ref 2 2 0 0, .ref 3 1 0 0])) [2, 3] rfl enter93 (Qga N p0 p1 _ hf3) rfl (Qc3 (rnc (.plain _ (NLt.agg _ (nlc nll (nlc (nld Qb8 _) nl0)))) (rnc (.plain _ nll) rn0))) Qa0 (slc (Qat (rnc (.plain _ nll) (rnc (.plain _ (nld Qb8 _)) rn0))) (slc (Qat (rnc (.plain _ nll) rn0)) Qa0)) (Qa2 rn0 (rnc (Qfw rfl) (rnc (Qfw rfl) rn0))) rfl rfl rfl, trivial⟩
   refine Qan ?_
   obtain ⟨q5, hL6, h⟩ := bno h
   refine wmr (mto (n := 19) (l' := [(4, .ref 0 1 0 0), (9, (.fn (.func 109) [] [.ref 1 2 0 0, .ref 2 1 0 0]))]) (own' := [(.own 1 [[I 0]]), (.own 2 [[I p0.Use, (.dat 2 ((p0.Stairs : List GStair).map Qah))]]), (.own 1 [[I p1]])]) [(4, .ref 1 1 0 0), (9, (.fn (.func 109) [] [.ref 2 2 0 0, .ref 3 1 0 0]))] [1, 2, 3] [(.own 1 [[I 0]]), (.own 2 [[I p0.Use, (.dat 2 ((p0.Stairs : List GStair).map Qah))]]), (.own 1 [[I p1]])] hφ0 (pc (.rn (rqr rfl)) (pc (.rn (Qa2 rn0 (rnc (rqr rfl) (rnc (rqr rfl) rn0)))) pn)) (qc (spb (lc rwl ln)) (qc (spb (lc rwl (lc (.rn (.plain _ (nld Qb8 _))) ln))) (qc (spb (lc rwl ln)) qn)))) ?_
   refine Qg5 (τ := (Int)) (kb := 3) (caps := [.ref 1 2 0 0, .ref 2 1 0 0]) (σr := [(.own 2 [[I p0.Use, (.dat 2 ((p0.Stairs : List GStair).map Qah))]]), (.own 1 [[I p1]])]) (encs := fun x => [(.agg #[(.int .i64 (x.1.Amount)), (.int .i64 (x.1.Price))]), (.int .i64 (x.2))]) (fun x => [(.agg [I x.1.Amount, I x.1.Price]), I x.2]) [1, 2] (fun n hn => hφ0 n (Nat.le_trans (nle rfl) hn)) (Qf9 N p0.Use p0.Stairs p1 _ hL6) enter109 (by kernel_rfl) (by kernel_rfl) (Qc3 (rnc (Qfw rfl) (rnc (Qfw rfl) rn0))) (slc (Qat (rnc (.plain _ nll) (rnc (.plain _ (nld Qb8 _)) rn0))) (slc (Qat (rnc (.plain _ nll) rn0)) Qa0)) (by kernel_rfl) (fun _ => rfl) (fun x => ⟨(Less.unlits [(.int .i64 (x.1.Amount)), (.int .i64 (x.1.Price))]), lrf, trivial⟩) (nlt_mk (Qd9 (NLt.ref _ _ _ _ (by decide)) (Qd9 (NLt.fn _ _ _ nl0 (nlc (NLt.ref _ _ _ _ (by decide)) (nlc (NLt.ref _ _ _ _ (by decide)) nl0))) nlp_nil))) (fun y7 => [(.own 1 [[I y7]]), .dead, .dead]) (fun _ => rfl) (fun _ => rfl) (fun l t => Qdq N k2 l t = some r) (0) h (by kernel_rfl) ?_ ?_
   ·intro l12 o13 X16 φ17 w18 hφ15 x10 q11 y7 h
    rw [Qdq] at h
    refine wrg [⟨[], [(4, .unused)], .ref 4 2 0 0, [(4, .own 2 [[I 0, I 0]])], false⟩, ⟨[(.tmp 5, .ref 4 2 0 0), (.tmp 10, (.agg [I x10.1.Amount, I x10.1.Price]))], [(4, .own 2 [[I 0, I 0]])], .any, [(4, .own 2 [[I x10.1.Amount, I x10.1.Price]])], false⟩] ?_ ?_
    ·exact ⟨Qaz rfl tz64 rfl, ast rfl ti64 (by rfl) rfl (nle rfl) rfl, trivial⟩
    refine Qar [mv 11 (I x10.2)] ?_ ?_
    ·exact ⟨aas rfl, trivial⟩
    refine ⟨by kernel_rfl, fun o14 => ?_⟩
    refine Qan ?_
    refine Qar [rb [(.tmp 4, .ref 0 1 0 0)] [(0, .own 1 [[I y7]])] (I y7), rb [(.tmp 5, .ref 4 2 0 0)] [(4, .own 2 [[I x10.1.Amount, I x10.1.Price]])] (.ref 4 2 0 1), rb [(.tmp 13, .ref 4 2 0 1)] [(4, .own 2 [[I x10.1.Amount, I x10.1.Price]])] (I x10.1.Price), mv 6 (I x10.2), rp [(.tmp 14, I x10.1.Price), (.tmp 15, I x10.2)] (I (w64 (x10.1.Price * x10.2))), rp [(.tmp 12, I y7), (.tmp 16, (I (w64 (x10.1.Price * x10.2))))] (I (w64 (y7 + (w64 (x10.1.Price * x10.2))))), ⟨[(.tmp 4, .ref 0 1 0 0), (.tmp 17, (I (w64 (y7 + (w64 (x10.1.Price * x10.2))))))], [(0, .own 1 [[I y7]])], .any, [(0, (.own 1 [[(I (w64 (y7 + (w64 (x10.1.Price * x10.2)))))]]))], false⟩] ?_ ?_
    ·exact ⟨ald rfl ti3 (by decide) rfl (nle rfl) rfl, afa rfl Try.underlying64 rfl rfl ti3 (by decide) rfl, ald rfl ti3 (by decide) rfl (nle rfl) rfl, amv rfl, abn rfl rfl, abn rfl rfl, ast rfl ti3 (by rfl) rfl (nle rfl) rfl, trivial⟩
    refine bln ?_
    exact ⟨(w64 (y7 + (w64 (x10.1.Price * x10.2)))), h, ren_to (own' := [(.own 1 [[(I ((w64 (y7 + (w64 (x10.1.Price * x10.2))))))]]), .dead, .dead, (.far (farL l12 o14))]) [0, 1, 2, 3] [(.own 1 [[(I (w64 (y7 + (w64 (x10.1.Price * x10.2)))))]]), .dead, .dead, (.far (farL l12 o14))] (by kernel_rfl) (by kernel_rfl) ⟨(spb (lc rwl ln)), .dead, .dead, .far _, trivial⟩⟩
   ·intro y7 h
    rw [Qdq] at h
    refine bln ?_
    refine thn ?_
    exact ⟨(y7), h, (mto (n := 19) [(4, .ref 0 1 0 0)] [0] [(.own 1 [[I y7]])] hφ0 (pc (.rn (rqr rfl)) pn) (qc (spb (lc rwl ln)) qn))⟩

end Go.Proofs.Ytgdepcgbjjgnfaa
