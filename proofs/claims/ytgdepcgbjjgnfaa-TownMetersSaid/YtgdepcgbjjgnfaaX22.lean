/-
  Functions of the program: what they compute, as plain functions, and that they do. No conditions.
-/
import Derived.Test.YtgdepcgbjjgnfaaX21
namespace Go.Proofs.Ytgdepcgbjjgnfaa
open Go.RowKit

def Qb7 (N : Nat) (p0 : (List GNode)) (p1 : GMeters) (x10 : ((List GRange) × Int)) (k19 : Unit → Option Bool) : Nat → Int → Option Bool
  | 0, _ => none
  | n24 + 1, y22 =>
    bif (decide (y22 < (p0.length : Int))) then
     (Qfh N p0 p1 y22).bind fun x27 =>
     (getI x10.1 y22).bind fun x28 =>
     bif (x28.Lo != x27.Lo) then
      some false
     else
      bif (x28.Hi != x27.Hi) then
       some false
      else
       Qb7 N p0 p1 x10 k19 n24 (w64 (y22 + 1))
    else
     k19 ()
def Qfd (N : Nat) (p0 : (List GNode)) (p1 : GMeters) (p2 : GMeter) : Option Bool :=
  Qca (fun _ =>
    (Qfa N p2).bind fun x3 =>
    Qca (fun _ =>
      (Qf4 N p0).bind fun x6 =>
      (Qfc N p1).bind fun x8 =>
      (Qdv N x6 x8).bind fun x10 =>
      Qca (fun y11 =>
        bif (y11 != 0) then
         bif (x10.2 == y11) then
          bif ((x10.1.length : Int) == 0) then
           (Qel 2000 ).bind fun x17 =>
           some x17
          else
           some false
         else
          some false
        else
         Qca (fun _ =>
           Qca (fun _ =>
             (Qel 2000 ).bind fun x21 =>
             some x21) fun k19 : Unit → Option Bool =>
           Qb7 N p0 p1 x10 k19 N 0) fun k18 : Unit → Option Bool =>
         bif (x10.2 != 0) then
          some false
         else
          bif ((x10.1.length : Int) != (p0.length : Int)) then
           some false
          else
           k18 ()) fun k12 : Int → Option Bool =>
      (Qfn N p0).bind fun x37 =>
      bif (!x37) then
       k12 (1)
      else
       (Qdz N p0 p1).bind fun x40 =>
       bif (!x40) then
        k12 (2)
       else
        k12 (0)) fun k4 : Unit → Option Bool =>
    (Qdt N p2).bind fun x43 =>
    bif (!x43) then
     bif (x3.2 != 2) then
      some false
     else
      bif (!(([x3.1.Lo, x3.1.Hi] : List Int) == [0, 0])) then
       some false
      else
       k4 ()
    else
     (Qea N p2).bind fun x48 =>
     bif (x3.2 != 0) then
      some false
     else
      bif (x3.1.Lo != x48.Lo) then
       some false
      else
       bif (x3.1.Hi != x48.Hi) then
        some false
       else
        k4 ()) fun k1 : Unit → Option Bool =>
  (Qg3 N p0 ([])).bind fun x53 =>
  bif (!x53) then
   (Qel 2000 ).bind fun x56 =>
   some x56
  else
   bif (decide ((p1.Use.length : Int) > 35)) then
    (Qel 2000 ).bind fun x59 =>
    some x59
   else
    bif (decide ((p1.Flow.length : Int) > 35)) then
     (Qel 2000 ).bind fun x62 =>
     some x62
    else
     bif (decide ((p1.Has.length : Int) > 35)) then
      (Qel 2000 ).bind fun x65 =>
      some x65
     else
      k1 ()
set_option maxRecDepth 100000 in
set_option maxHeartbeats 4000000 in
theorem Qh0 (N : Nat) (p0 : (List GNode)) (p1 : GMeters) (p2 : GMeter) (r : Bool) (h : Qfd N p0 p1 p2 = some r) : Spec Try.prog 12 [(.dat 4 (p0.map Qaa)), (.agg (Qfi p1)), (.agg (Qab p2))] [] (B r) [] := by
  refine Qaq Try.func12 rfl 0 (nle rfl) (fun X φ0 w0 hφ0 => ?_)
  unfold Qfd at h
  refine wrg [⟨[(.tmp 1, (.agg [(.dat 2 ((p1.Use : List GMeter).map Qab)), (.dat 2 ((p1.Flow : List GMeter).map Qab)), (.dat 1 ((p1.Has : List Bool).map Qae))]))], [(0, .unused)], .ref 0 3 0 0, [(0, (.own 3 [[(.dat 2 ((p1.Use : List GMeter).map Qab)), (.dat 2 ((p1.Flow : List GMeter).map Qab)), (.dat 1 ((p1.Has : List Bool).map Qae))]]))], false⟩, ⟨[(.tmp 2, (.agg [I p2.Reading, I p2.Off]))], [(1, .unused)], .ref 1 2 0 0, [(1, .own 2 [[I p2.Reading, I p2.Off]])], false⟩, mc (.bool false)] ?_ ?_
  ·exact ⟨Qbu rfl (by rfl) rfl rfl, Qbu rfl (by rfl) rfl rfl, aas rfl, trivial⟩
  obtain ⟨k1, hk_k1, h⟩ := jko h
  refine wjn (τ := Unit) (fun t => k1 t = some r) (fun _ => ⟨mk 140 [(0, (.dat 4 ((p0 : List GNode).map Qaa))), (4, .ref 0 3 0 0), (5, .ref 1 2 0 0)], [(.own 3 [[(.dat 2 ((p1.Use : List GMeter).map Qab)), (.dat 2 ((p1.Flow : List GMeter).map Qab)), (.dat 1 ((p1.Has : List Bool).map Qae))]]), (.own 2 [[I p2.Reading, I p2.Off]])]⟩) (fun t h => ?_) ?_
  ·subst hk_k1
   obtain ⟨x3, hf2, h⟩ := bno h
   refine wrg [rb [(.tmp 5, .ref 1 2 0 0)] [(1, .own 2 [[I p2.Reading, I p2.Off]])] (.ref 1 2 0 0), rb [(.tmp 38, .ref 1 2 0 0)] [(1, .own 2 [[I p2.Reading, I p2.Off]])] (I p2.Reading), rb [(.tmp 5, .ref 1 2 0 0)] [(1, .own 2 [[I p2.Reading, I p2.Off]])] (.ref 1 2 0 1), rb [(.tmp 40, .ref 1 2 0 1)] [(1, .own 2 [[I p2.Reading, I p2.Off]])] (I p2.Off), rp [(.tmp 39, I p2.Reading), (.tmp 41, I p2.Off)] (.agg [I p2.Reading, I p2.Off]), rp [fu 47, (.tmp 42, (.agg [I p2.Reading, I p2.Off]))] (.tup [(.agg [I x3.1.Lo, I x3.1.Hi]), I x3.2]), mv 43 (.tup [(.agg [I x3.1.Lo, I x3.1.Hi]), I x3.2]), rp [(.tmp 37, (.tup [(.agg [I x3.1.Lo, I x3.1.Hi]), I x3.2]))] (.agg [I x3.1.Lo, I x3.1.Hi]), rp [(.tmp 37, (.tup [(.agg [I x3.1.Lo, I x3.1.Hi]), I x3.2]))] (I x3.2), ⟨[], [(2, .unused)], .ref 2 2 0 0, [(2, .own 2 [[I 0, I 0]])], false⟩, ⟨[(.tmp 7, .ref 2 2 0 0), (.tmp 44, (.agg [I x3.1.Lo, I x3.1.Hi]))], [(2, .own 2 [[I 0, I 0]])], .any, [(2, .own 2 [[I x3.1.Lo, I x3.1.Hi]])], false⟩, mv 45 (I x3.2)] ?_ ?_
   ·exact ⟨afa rfl Try.underlying91 rfl rfl ti3 (by decide) rfl, ald rfl ti3 (by decide) rfl (nle rfl) rfl, afa rfl Try.underlying91 rfl rfl ti3 (by decide) rfl, ald rfl ti3 (by decide) rfl (nle rfl) rfl, Qa9 (vs := [I p2.Reading, I p2.Off]) rfl ts96 tz96 rfl (by rfl) rfl, apc (first := []) (cap := []) (vs := [(.agg [I p2.Reading, I p2.Off])]) rfl enter47 (Qhg N p2 _ hf2) rfl rfl (nlc (NLt.agg _ (nlc nll (nlc nll nl0))) nl0) (NLt.tup _ (nlc (NLt.agg _ (nlc nll (nlc nll nl0))) (nlc nll nl0))) rfl, amv rfl, Qbp rfl rfl, Qbp rfl rfl, Qaz rfl tz93 rfl, ast rfl ti93 (by rfl) rfl (nle rfl) rfl, aas rfl, trivial⟩
   obtain ⟨k4, hk_k4, h⟩ := jko h
   refine wjn (τ := Unit) (fun t => k4 t = some r) (fun _ => ⟨mk 140 [(0, (.dat 4 ((p0 : List GNode).map Qaa))), (4, .ref 0 3 0 0)], [(.own 3 [[(.dat 2 ((p1.Use : List GMeter).map Qab)), (.dat 2 ((p1.Flow : List GMeter).map Qab)), (.dat 1 ((p1.Has : List Bool).map Qae))]])]⟩) (fun t h => ?_) ?_
   ·subst hk_k4
    obtain ⟨x6, hf5, h⟩ := bno h
    obtain ⟨x8, hf7, h⟩ := bno h
    obtain ⟨x10, hf9, h⟩ := bno h
    refine Qct [mv 0 (.dat 4 ((p0 : List GNode).map Qaa)), rp [fu 23, (.tmp 75, (.dat 4 ((p0 : List GNode).map Qaa)))] (.dat 4 ((x6 : List GNode).map Qaa)), rb [(.tmp 4, .ref 0 3 0 0)] [(0, (.own 3 [[(.dat 2 ((p1.Use : List GMeter).map Qab)), (.dat 2 ((p1.Flow : List GMeter).map Qab)), (.dat 1 ((p1.Has : List Bool).map Qae))]]))] (.agg [(.dat 2 ((p1.Use : List GMeter).map Qab)), (.dat 2 ((p1.Flow : List GMeter).map Qab)), (.dat 1 ((p1.Has : List Bool).map Qae))]), rp [fu 51, (.tmp 77, (.agg [(.dat 2 ((p1.Use : List GMeter).map Qab)), (.dat 2 ((p1.Flow : List GMeter).map Qab)), (.dat 1 ((p1.Has : List Bool).map Qae))]))] (.agg [(.dat 2 ((x8.Use : List GMeter).map Qab)), (.dat 2 ((x8.Flow : List GMeter).map Qab)), (.dat 1 ((x8.Has : List Bool).map Qae))]), rp [fu 50, (.tmp 76, (.dat 4 ((x6 : List GNode).map Qaa))), (.tmp 78, (.agg [(.dat 2 ((x8.Use : List GMeter).map Qab)), (.dat 2 ((x8.Flow : List GMeter).map Qab)), (.dat 1 ((x8.Has : List Bool).map Qae))]))] (.tup [(.dat 2 ((x10.1 : List GRange).map Qai)), I x10.2]), mv 79 (.tup [(.dat 2 ((x10.1 : List GRange).map Qai)), I x10.2]), rp [(.tmp 74, (.tup [(.dat 2 ((x10.1 : List GRange).map Qai)), I x10.2]))] (.dat 2 ((x10.1 : List GRange).map Qai)), rp [(.tmp 74, (.tup [(.dat 2 ((x10.1 : List GRange).map Qai)), I x10.2]))] (I x10.2), mv 80 (.dat 2 ((x10.1 : List GRange).map Qai)), mv 81 (I x10.2)] ?_ ?_
    ·exact ⟨amv rfl, apc (first := []) (cap := []) (vs := [(.dat 4 ((p0 : List GNode).map Qaa))]) rfl enter23 (law10_TownX_ok N p0 _ hf5) rfl rfl (nlc (nld Qag _) nl0) (nld Qag _) rfl, ald rfl ti89 (by decide) rfl (nle rfl) rfl, apc (first := []) (cap := []) (vs := [(.agg [(.dat 2 ((p1.Use : List GMeter).map Qab)), (.dat 2 ((p1.Flow : List GMeter).map Qab)), (.dat 1 ((p1.Has : List Bool).map Qae))])]) rfl enter51 (law10_metersX_ok N p1 _ hf7) rfl rfl (nlc (NLt.agg _ (nlc (nld Qal _) (nlc (nld Qal _) (nlc (nld Qbd _) nl0)))) nl0) (NLt.agg _ (nlc (nld Qal _) (nlc (nld Qal _) (nlc (nld Qbd _) nl0)))) rfl, apc (first := []) (cap := []) (vs := [(.dat 4 ((x6 : List GNode).map Qaa)), (.agg [(.dat 2 ((x8.Use : List GMeter).map Qab)), (.dat 2 ((x8.Flow : List GMeter).map Qab)), (.dat 1 ((x8.Has : List Bool).map Qae))])]) rfl enter50 (town_MissingX_ok N x6 x8 _ hf9) rfl rfl (nlc (nld Qag _) (nlc (NLt.agg _ (nlc (nld Qal _) (nlc (nld Qal _) (nlc (nld Qbd _) nl0)))) nl0)) (NLt.tup _ (nlc (nld Qbo _) (nlc nll nl0))) rfl, amv rfl, Qbp rfl rfl, Qbp rfl rfl, aas rfl, aas rfl, trivial⟩
    refine wrg [mc (.int .i64 0)] ?_ ?_
    ·exact ⟨aas rfl, trivial⟩
    obtain ⟨k12, hk_k12, h⟩ := jko h
    refine wjn (τ := Int) (fun t => k12 t = some r) (fun y11 => ⟨mk 140 [(0, (.dat 4 ((p0 : List GNode).map Qaa))), (4, .ref 0 3 0 0), (10, (.dat 2 ((x10.1 : List GRange).map Qai))), (11, I x10.2), (12, I y11)], [(.own 3 [[(.dat 2 ((p1.Use : List GMeter).map Qab)), (.dat 2 ((p1.Flow : List GMeter).map Qab)), (.dat 1 ((p1.Has : List Bool).map Qae))]])]⟩) (fun y11 h => ?_) ?_
    ·subst hk_k12
     refine wsq ?_
     refine wrg [mv 12 (I y11), rp [(.tmp 89, I y11), ci 0] (B ((y11 != 0)))] ?_ ?_
     ·exact ⟨amv rfl, abn rfl rfl, trivial⟩
     rcases bft ((y11 != 0)) with hc13 | hc13
     ·replace h := Qav hc13 h
      refine wft hc13 (by kernel_rfl) ?_
      rcases bft ((x10.2 == y11)) with hb14 | hb14
      ·replace h := Qav hb14 h
       rcases bft (((x10.1.length : Int) == 0)) with hb15 | hb15
       ·replace h := Qav hb15 h
        obtain ⟨x17, hf16, h⟩ := bno h
        refine wrg [mv 11 (I x10.2), mv 12 (I y11), rp [(.tmp 91, I x10.2), (.tmp 92, I y11)] (B ((x10.2 == y11))), rp [(.tmp 93, (B ((x10.2 == y11))))] (B true), rp [(.tmp 94, B true), (.tmp 10, (.dat 2 ((x10.1 : List GRange).map Qai)))] (.dat 2 ((x10.1 : List GRange).map Qai)), rp [(.tmp 94, B true), (.tmp 95, (.dat 2 ((x10.1 : List GRange).map Qai)))] (I ((x10.1.length : Int))), rp [(.tmp 94, B true), (.tmp 96, (I ((x10.1.length : Int)))), ci 0] (B (((x10.1.length : Int) == 0))), rp [(.tmp 94, B true), (.tmp 97, (B (((x10.1.length : Int) == 0)))), cb false] (B (((x10.1.length : Int) == 0))), rp [(.tmp 98, (B (((x10.1.length : Int) == 0))))] (B true), rp [(.tmp 99, B true), fu 21] (B x17), rp [(.tmp 99, B true), (.tmp 100, B x17), cb false] (B x17), mv 101 (B x17)] ?_ ?_
        ·exact ⟨amv rfl, amv rfl, abn rfl rfl, asb hb14 (amv rfl), ag_ (amv rfl), ag_ (alm (c := Qai) (l := x10.1) (aln rfl Try.underlying100 rfl)), ag_ (abn rfl rfl), apk rfl rfl, asb hb15 (amv rfl), ag_ (apc (first := []) (cap := []) (vs := []) rfl Qjc (Qev 2000  _ hf16) rfl rfl nl0 nll rfl), apk rfl rfl, aas rfl, trivial⟩
        refine Qak ?_
        refine Qao ?_
        obtain rfl := osi h
        exact ⟨⟨[B x17], ⟨rot (by kernel_rfl), trivial⟩, rfl⟩, nll, Nat.le_refl _, fun n hn => absurd hn (Nat.not_lt_zero n)⟩
       ·replace h := Qaw hb15 h
        refine wrg [mv 11 (I x10.2), mv 12 (I y11), rp [(.tmp 91, I x10.2), (.tmp 92, I y11)] (B ((x10.2 == y11))), rp [(.tmp 93, (B ((x10.2 == y11))))] (B true), rp [(.tmp 94, B true), (.tmp 10, (.dat 2 ((x10.1 : List GRange).map Qai)))] (.dat 2 ((x10.1 : List GRange).map Qai)), rp [(.tmp 94, B true), (.tmp 95, (.dat 2 ((x10.1 : List GRange).map Qai)))] (I ((x10.1.length : Int))), rp [(.tmp 94, B true), (.tmp 96, (I ((x10.1.length : Int)))), ci 0] (B (((x10.1.length : Int) == 0))), rp [(.tmp 94, B true), (.tmp 97, (B (((x10.1.length : Int) == 0)))), cb false] (B (((x10.1.length : Int) == 0))), rp [(.tmp 98, (B (((x10.1.length : Int) == 0))))] (B false), sk 99 (B false), rp [(.tmp 99, B false), (.tmp 100, (.lit undef)), cb false] (B false), mv 101 (B false)] ?_ ?_
        ·exact ⟨amv rfl, amv rfl, abn rfl rfl, asb hb14 (amv rfl), ag_ (amv rfl), ag_ (alm (c := Qai) (l := x10.1) (aln rfl Try.underlying100 rfl)), ag_ (abn rfl rfl), apk rfl rfl, asb hb15 (amv rfl), trivial, apk rfl rfl, aas rfl, trivial⟩
        refine Qak ?_
        refine Qao ?_
        obtain rfl := osi h
        exact ⟨⟨[B false], ⟨rot (by kernel_rfl), trivial⟩, rfl⟩, nll, Nat.le_refl _, fun n hn => absurd hn (Nat.not_lt_zero n)⟩
      ·replace h := Qaw hb14 h
       refine wrg [mv 11 (I x10.2), mv 12 (I y11), rp [(.tmp 91, I x10.2), (.tmp 92, I y11)] (B ((x10.2 == y11))), rp [(.tmp 93, (B ((x10.2 == y11))))] (B false), sk 94 (B false), sk 94 (B false), sk 94 (B false), rp [(.tmp 94, B false), (.tmp 97, (.lit undef)), cb false] (B false), mv 98 (B false), sk 99 (B false), rp [(.tmp 99, B false), (.tmp 100, (.lit undef)), cb false] (B false), mv 101 (B false)] ?_ ?_
       ·exact ⟨amv rfl, amv rfl, abn rfl rfl, asb hb14 (amv rfl), trivial, trivial, trivial, apk rfl rfl, amv rfl, trivial, apk rfl rfl, aas rfl, trivial⟩
       refine Qak ?_
       refine Qao ?_
       obtain rfl := osi h
       exact ⟨⟨[B false], ⟨rot (by kernel_rfl), trivial⟩, rfl⟩, nll, Nat.le_refl _, fun n hn => absurd hn (Nat.not_lt_zero n)⟩
     ·replace h := Qaw hc13 h
      refine wfn hc13 (by kernel_rfl) ?_
      refine Qam ?_
      refine thn ?_
      obtain ⟨k18, hk_k18, h⟩ := jko h
      refine wjn (τ := Unit) (fun t => k18 t = some r) (fun _ => ⟨mk 140 [(0, (.dat 4 ((p0 : List GNode).map Qaa))), (4, .ref 0 3 0 0), (10, (.dat 2 ((x10.1 : List GRange).map Qai)))], [(.own 3 [[(.dat 2 ((p1.Use : List GMeter).map Qab)), (.dat 2 ((p1.Flow : List GMeter).map Qab)), (.dat 1 ((p1.Has : List Bool).map Qae))]])]⟩) (fun t h => ?_) ?_
      ·subst hk_k18
       obtain ⟨k19, hk_k19, h⟩ := jko h
       refine wjn (τ := Unit) (fun t => k19 t = some r) (fun _ => ⟨mk 140 [], []⟩) (fun t h => ?_) ?_
       ·subst hk_k19
        obtain ⟨x21, hf20, h⟩ := bno h
        refine wrg [rp [fu 21] (B x21), mv 139 (B x21)] ?_ ?_
        ·exact ⟨apc (first := []) (cap := []) (vs := []) rfl Qjc (Qev 2000  _ hf20) rfl rfl nl0 nll rfl, aas rfl, trivial⟩
        refine Qak ?_
        obtain rfl := osi h
        exact ⟨⟨[B x21], ⟨rot (by kernel_rfl), trivial⟩, rfl⟩, nll, Nat.le_refl _, fun n hn => absurd hn (Nat.not_lt_zero n)⟩
       ·skip
        refine wrg [mc (.int .i64 0)] ?_ ?_
        ·exact ⟨aas rfl, trivial⟩
        refine Qan ?_
        refine wmr (mto (n := 140) (l' := [(0, (.dat 4 ((p0 : List GNode).map Qaa))), (4, .ref 0 3 0 0), (10, (.dat 2 ((x10.1 : List GRange).map Qai))), (13, I 0)]) (own' := [(.own 3 [[(.dat 2 ((p1.Use : List GMeter).map Qab)), (.dat 2 ((p1.Flow : List GMeter).map Qab)), (.dat 1 ((p1.Has : List Bool).map Qae))]])]) [(0, (.dat 4 ((p0 : List GNode).map Qaa))), (4, .ref 0 3 0 0), (10, (.dat 2 ((x10.1 : List GRange).map Qai))), (13, I 0)] [0] [(.own 3 [[(.dat 2 ((p1.Use : List GMeter).map Qab)), (.dat 2 ((p1.Flow : List GMeter).map Qab)), (.dat 1 ((p1.Has : List Bool).map Qae))]])] hφ0 (pc (.rn (.plain _ (nld Qag _))) (pc (.rn (rqr rfl)) (pc (.rn (.plain _ (nld Qbo _))) (pc rwl pn)))) (qc (spb (lc (.rn (.plain _ (nld Qal _))) (lc (.rn (.plain _ (nld Qal _))) (lc (.rn (.plain _ (nld Qbd _))) ln)))) qn)) ?_
        refine Qcc (τ := Int) (fun n t => Qb7 N p0 p1 x10 k19 n t = some r) (fun y22 => ⟨mk 140 [(0, (.dat 4 ((p0 : List GNode).map Qaa))), (4, .ref 0 3 0 0), (10, (.dat 2 ((x10.1 : List GRange).map Qai))), (13, I y22)], [(.own 3 [[(.dat 2 ((p1.Use : List GMeter).map Qab)), (.dat 2 ((p1.Flow : List GMeter).map Qab)), (.dat 1 ((p1.Has : List Bool).map Qae))]])]⟩) (fun t h => by rw [Qb7] at h; cases h) (fun n24 ih y22 h => ?_) N (0) h
        rw [Qb7] at h
        skip
        refine wsq ?_
        refine wrg [mv 13 (I y22), mv 0 (.dat 4 ((p0 : List GNode).map Qaa)), rp [(.tmp 112, (.dat 4 ((p0 : List GNode).map Qaa)))] (I ((p0.length : Int))), rp [(.tmp 111, I y22), (.tmp 113, (I ((p0.length : Int))))] (B ((decide (y22 < (p0.length : Int)))))] ?_ ?_
        ·exact ⟨amv rfl, amv rfl, alm (c := Qaa) (l := p0) (aln rfl Try.underlying22 rfl), abn rfl rfl, trivial⟩
        rcases bft ((decide (y22 < (p0.length : Int)))) with hc25 | hc25
        ·replace h := Qav hc25 h
         refine wft hc25 (by kernel_rfl) ?_
         refine Qam ?_
         refine thn ?_
         refine wsq ?_
         refine Qan ?_
         obtain ⟨x27, hf26, h⟩ := bno h
         refine wrg [mv 0 (.dat 4 ((p0 : List GNode).map Qaa)), rb [(.tmp 4, .ref 0 3 0 0)] [(0, (.own 3 [[(.dat 2 ((p1.Use : List GMeter).map Qab)), (.dat 2 ((p1.Flow : List GMeter).map Qab)), (.dat 1 ((p1.Has : List Bool).map Qae))]]))] (.agg [(.dat 2 ((p1.Use : List GMeter).map Qab)), (.dat 2 ((p1.Flow : List GMeter).map Qab)), (.dat 1 ((p1.Has : List Bool).map Qae))]), mv 13 (I y22), rp [fu 53, (.tmp 117, (.dat 4 ((p0 : List GNode).map Qaa))), (.tmp 118, (.agg [(.dat 2 ((p1.Use : List GMeter).map Qab)), (.dat 2 ((p1.Flow : List GMeter).map Qab)), (.dat 1 ((p1.Has : List Bool).map Qae))])), (.tmp 119, I y22)] (.agg [I x27.Lo, I x27.Hi]), ⟨[], [(1, .unused)], .ref 1 2 0 0, [(1, .own 2 [[I 0, I 0]])], false⟩, ⟨[(.tmp 14, .ref 1 2 0 0), (.tmp 120, (.agg [I x27.Lo, I x27.Hi]))], [(1, .own 2 [[I 0, I 0]])], .any, [(1, .own 2 [[I x27.Lo, I x27.Hi]])], false⟩] ?_ ?_
         ·exact ⟨amv rfl, ald rfl ti89 (by decide) rfl (nle rfl) rfl, amv rfl, apc (first := []) (cap := []) (vs := [(.dat 4 ((p0 : List GNode).map Qaa)), (.agg [(.dat 2 ((p1.Use : List GMeter).map Qab)), (.dat 2 ((p1.Flow : List GMeter).map Qab)), (.dat 1 ((p1.Has : List Bool).map Qae))]), I y22]) rfl enter53 (Qi8 N p0 p1 y22 _ hf26) rfl rfl (nlc (nld Qag _) (nlc (NLt.agg _ (nlc (nld Qal _) (nlc (nld Qal _) (nlc (nld Qbd _) nl0)))) (nlc nll nl0))) (NLt.agg _ (nlc nll (nlc nll nl0))) rfl, Qaz rfl tz98 rfl, ast rfl ti98 (by rfl) rfl (nle rfl) rfl, trivial⟩
         obtain ⟨x28, hg29, h⟩ := bno h
         obtain ⟨hi30, hj31⟩ := gsm hg29
         rcases bft ((x28.Lo != x27.Lo)) with hb32 | hb32
         ·replace h := Qav hb32 h
          refine Qct [mv 10 (.dat 2 ((x10.1 : List GRange).map Qai)), mv 13 (I y22), rp [(.tmp 121, (.dat 2 ((x10.1 : List GRange).map Qai))), (.tmp 122, I y22)] (.dptr (Qai (x28)) 0), mv 123 (.dptr (Qai (x28)) 0), rp [(.tmp 124, (.dptr (Qai (x28)) 0))] (I x28.Lo), rb [(.tmp 14, .ref 1 2 0 0)] [(1, .own 2 [[I x27.Lo, I x27.Hi]])] (.ref 1 2 0 0), rb [(.tmp 126, .ref 1 2 0 0)] [(1, .own 2 [[I x27.Lo, I x27.Hi]])] (I x27.Lo), rp [(.tmp 125, I x28.Lo), (.tmp 127, I x27.Lo)] (B ((x28.Lo != x27.Lo))), rp [(.tmp 128, (B ((x28.Lo != x27.Lo))))] (B true), sk 129 (B true), sk 129 (B true), sk 129 (B true), sk 129 (B true), sk 129 (B true), sk 129 (B true), sk 129 (B true), sk 129 (B true), rp [(.tmp 129, B true), cb true, (.tmp 137, (.lit undef))] (B true)] ?_ ?_
          ·exact ⟨amv rfl, amv rfl, aid rfl Try.underlying100 ti93 rfl rfl hi30 (mgt Qai hj31) rfl, afd rfl Try.underlying93 rfl rfl ti3 (by decide) rfl, ald_ rfl ti3 (by decide) (nle rfl) rfl, afa rfl Try.underlying98 rfl rfl ti3 (by decide) rfl, ald rfl ti3 (by decide) rfl (nle rfl) rfl, abn rfl rfl, asb hb32 (amv rfl), trivial, trivial, trivial, trivial, trivial, trivial, trivial, trivial, apk rfl rfl, trivial⟩
          refine Qbq (by kernel_rfl) ?_
          refine wrg [mc (.bool false)] ?_ ?_
          ·exact ⟨aas rfl, trivial⟩
          refine Qak ?_
          refine Qa3 ?_
          refine Qao ?_
          refine Qao ?_
          refine Qa3 ?_
          refine Qao ?_
          obtain rfl := osi h
          exact ⟨⟨[B false], ⟨rot (by kernel_rfl), trivial⟩, rfl⟩, nll, Nat.le_refl _, fun n hn => absurd hn (Nat.not_lt_zero n)⟩
         ·replace h := Qaw hb32 h
          refine Qct [mv 10 (.dat 2 ((x10.1 : List GRange).map Qai)), mv 13 (I y22), rp [(.tmp 121, (.dat 2 ((x10.1 : List GRange).map Qai))), (.tmp 122, I y22)] (.dptr (Qai (x28)) 0), mv 123 (.dptr (Qai (x28)) 0), rp [(.tmp 124, (.dptr (Qai (x28)) 0))] (I x28.Lo), rb [(.tmp 14, .ref 1 2 0 0)] [(1, .own 2 [[I x27.Lo, I x27.Hi]])] (.ref 1 2 0 0), rb [(.tmp 126, .ref 1 2 0 0)] [(1, .own 2 [[I x27.Lo, I x27.Hi]])] (I x27.Lo), rp [(.tmp 125, I x28.Lo), (.tmp 127, I x27.Lo)] (B ((x28.Lo != x27.Lo))), rp [(.tmp 128, (B ((x28.Lo != x27.Lo))))] (B false), rp [(.tmp 129, B false), (.tmp 10, (.dat 2 ((x10.1 : List GRange).map Qai)))] (.dat 2 ((x10.1 : List GRange).map Qai)), rp [(.tmp 129, B false), (.tmp 13, I y22)] (I y22), rp [(.tmp 129, B false), (.tmp 130, (.dat 2 ((x10.1 : List GRange).map Qai))), (.tmp 131, I y22)] (.dptr (Qai (x28)) 0), rp [(.tmp 129, B false), (.tmp 132, (.dptr (Qai (x28)) 0))] (.dptr (Qai (x28)) 1), rp [(.tmp 129, B false), (.tmp 133, (.dptr (Qai (x28)) 1))] (I x28.Hi), rb [(.tmp 129, B false), (.tmp 14, .ref 1 2 0 0)] [(1, .own 2 [[I x27.Lo, I x27.Hi]])] (.ref 1 2 0 1), rb [(.tmp 129, B false), (.tmp 135, .ref 1 2 0 1)] [(1, .own 2 [[I x27.Lo, I x27.Hi]])] (I x27.Hi), rp [(.tmp 129, B false), (.tmp 134, I x28.Hi), (.tmp 136, I x27.Hi)] (B ((x28.Hi != x27.Hi))), rp [(.tmp 129, B false), cb true, (.tmp 137, (B ((x28.Hi != x27.Hi))))] (B ((x28.Hi != x27.Hi)))] ?_ ?_
          ·exact ⟨amv rfl, amv rfl, aid rfl Try.underlying100 ti93 rfl rfl hi30 (mgt Qai hj31) rfl, afd rfl Try.underlying93 rfl rfl ti3 (by decide) rfl, ald_ rfl ti3 (by decide) (nle rfl) rfl, afa rfl Try.underlying98 rfl rfl ti3 (by decide) rfl, ald rfl ti3 (by decide) rfl (nle rfl) rfl, abn rfl rfl, asb hb32 (amv rfl), ag_ (amv rfl), ag_ (amv rfl), ag_ (aid rfl Try.underlying100 ti93 rfl rfl hi30 (mgt Qai hj31) rfl), ag_ (afd rfl Try.underlying93 rfl rfl ti3 (by decide) rfl), ag_ (ald_ rfl ti3 (by decide) (nle rfl) rfl), ag_ (afa rfl Try.underlying98 rfl rfl ti3 (by decide) rfl), ag_ (ald rfl ti3 (by decide) rfl (nle rfl) rfl), ag_ (abn rfl rfl), apk rfl rfl, trivial⟩
          rcases bft ((x28.Hi != x27.Hi)) with hc33 | hc33
          ·replace h := Qav hc33 h
           refine wft hc33 (by kernel_rfl) ?_
           refine wrg [mc (.bool false)] ?_ ?_
           ·exact ⟨aas rfl, trivial⟩
           refine Qak ?_
           refine Qa3 ?_
           refine Qao ?_
           refine Qao ?_
           refine Qa3 ?_
           refine Qao ?_
           obtain rfl := osi h
           exact ⟨⟨[B false], ⟨rot (by kernel_rfl), trivial⟩, rfl⟩, nll, Nat.le_refl _, fun n hn => absurd hn (Nat.not_lt_zero n)⟩
          ·replace h := Qaw hc33 h
           refine wfn hc33 (by kernel_rfl) ?_
           refine Qam ?_
           refine bln ?_
           refine thn ?_
           refine Qar [mv 13 (I y22), rp [(.tmp 115, I y22), ci 1] (I (w64 (y22 + 1))), mv 116 (I (w64 (y22 + 1)))] ?_ ?_
           ·exact ⟨amv rfl, abn rfl rfl, aas rfl, trivial⟩
           refine thn ?_
           exact arm (mto (n := 140) [(0, (.dat 4 ((p0 : List GNode).map Qaa))), (4, .ref 0 3 0 0), (10, (.dat 2 ((x10.1 : List GRange).map Qai))), (13, (I (w64 (y22 + 1))))] [0] [(.own 3 [[(.dat 2 ((p1.Use : List GMeter).map Qab)), (.dat 2 ((p1.Flow : List GMeter).map Qab)), (.dat 1 ((p1.Has : List Bool).map Qae))]])] hφ0 (pc (.rn (.plain _ (nld Qag _))) (pc (.rn (rqr rfl)) (pc (.rn (.plain _ (nld Qbo _))) (pc rwl pn)))) (qc (spb (lc (.rn (.plain _ (nld Qal _))) (lc (.rn (.plain _ (nld Qal _))) (lc (.rn (.plain _ (nld Qbd _))) ln)))) qn)) (ih (w64 (y22 + 1)) h)
        ·replace h := Qaw hc25 h
         refine wfn hc25 (by kernel_rfl) ?_
         refine Qbf ?_
         refine Qau ?_
         refine Qau ?_
         refine Qbe rfl ?_
         refine thn ?_
         exact ⟨(), h, (mto (n := 140) [] [] [] hφ0 pn qn)⟩
      ·skip
       rcases bft ((x10.2 != 0)) with hb34 | hb34
       ·replace h := Qav hb34 h
        refine wrg [mv 11 (I x10.2), rp [(.tmp 102, I x10.2), ci 0] (B ((x10.2 != 0))), rp [(.tmp 103, (B ((x10.2 != 0))))] (B true), sk 104 (B true), sk 104 (B true), sk 104 (B true), sk 104 (B true), sk 104 (B true), rp [(.tmp 104, B true), cb true, (.tmp 109, (.lit undef))] (B true)] ?_ ?_
        ·exact ⟨amv rfl, abn rfl rfl, asb hb34 (amv rfl), trivial, trivial, trivial, trivial, trivial, apk rfl rfl, trivial⟩
        refine Qbq (by kernel_rfl) ?_
        refine wrg [mc (.bool false)] ?_ ?_
        ·exact ⟨aas rfl, trivial⟩
        refine Qak ?_
        refine Qao ?_
        obtain rfl := osi h
        exact ⟨⟨[B false], ⟨rot (by kernel_rfl), trivial⟩, rfl⟩, nll, Nat.le_refl _, fun n hn => absurd hn (Nat.not_lt_zero n)⟩
       ·replace h := Qaw hb34 h
        refine wrg [mv 11 (I x10.2), rp [(.tmp 102, I x10.2), ci 0] (B ((x10.2 != 0))), rp [(.tmp 103, (B ((x10.2 != 0))))] (B false), rp [(.tmp 104, B false), (.tmp 10, (.dat 2 ((x10.1 : List GRange).map Qai)))] (.dat 2 ((x10.1 : List GRange).map Qai)), rp [(.tmp 104, B false), (.tmp 105, (.dat 2 ((x10.1 : List GRange).map Qai)))] (I ((x10.1.length : Int))), rp [(.tmp 104, B false), (.tmp 0, (.dat 4 ((p0 : List GNode).map Qaa)))] (.dat 4 ((p0 : List GNode).map Qaa)), rp [(.tmp 104, B false), (.tmp 107, (.dat 4 ((p0 : List GNode).map Qaa)))] (I ((p0.length : Int))), rp [(.tmp 104, B false), (.tmp 106, (I ((x10.1.length : Int)))), (.tmp 108, (I ((p0.length : Int))))] (B (((x10.1.length : Int) != (p0.length : Int)))), rp [(.tmp 104, B false), cb true, (.tmp 109, (B (((x10.1.length : Int) != (p0.length : Int)))))] (B (((x10.1.length : Int) != (p0.length : Int))))] ?_ ?_
        ·exact ⟨amv rfl, abn rfl rfl, asb hb34 (amv rfl), ag_ (amv rfl), ag_ (alm (c := Qai) (l := x10.1) (aln rfl Try.underlying100 rfl)), ag_ (amv rfl), ag_ (alm (c := Qaa) (l := p0) (aln rfl Try.underlying22 rfl)), ag_ (abn rfl rfl), apk rfl rfl, trivial⟩
        rcases bft (((x10.1.length : Int) != (p0.length : Int))) with hc35 | hc35
        ·replace h := Qav hc35 h
         refine wft hc35 (by kernel_rfl) ?_
         refine wrg [mc (.bool false)] ?_ ?_
         ·exact ⟨aas rfl, trivial⟩
         refine Qak ?_
         refine Qao ?_
         obtain rfl := osi h
         exact ⟨⟨[B false], ⟨rot (by kernel_rfl), trivial⟩, rfl⟩, nll, Nat.le_refl _, fun n hn => absurd hn (Nat.not_lt_zero n)⟩
        ·replace h := Qaw hc35 h
         refine wfn hc35 (by kernel_rfl) ?_
         refine Qam ?_
         refine thn ?_
         exact ⟨(), h, (mto (n := 140) [(0, (.dat 4 ((p0 : List GNode).map Qaa))), (4, .ref 0 3 0 0), (10, (.dat 2 ((x10.1 : List GRange).map Qai)))] [0] [(.own 3 [[(.dat 2 ((p1.Use : List GMeter).map Qab)), (.dat 2 ((p1.Flow : List GMeter).map Qab)), (.dat 1 ((p1.Has : List Bool).map Qae))]])] hφ0 (pc (.rn (.plain _ (nld Qag _))) (pc (.rn (rqr rfl)) (pc (.rn (.plain _ (nld Qbo _))) pn))) (qc (spb (lc (.rn (.plain _ (nld Qal _))) (lc (.rn (.plain _ (nld Qal _))) (lc (.rn (.plain _ (nld Qbd _))) ln)))) qn))⟩
    ·skip
     obtain ⟨x37, hf36, h⟩ := bno h
     refine wrg [mv 0 (.dat 4 ((p0 : List GNode).map Qaa)), rp [fu 25, (.tmp 82, (.dat 4 ((p0 : List GNode).map Qaa)))] (B x37), rp [(.tmp 83, B x37)] (B ((!x37)))] ?_ ?_
     ·exact ⟨amv rfl, apc (first := []) (cap := []) (vs := [(.dat 4 ((p0 : List GNode).map Qaa))]) rfl enter25 (ref10_RightX_ok N p0 _ hf36) rfl rfl (nlc (nld Qag _) nl0) nll rfl, Qap rfl, trivial⟩
     rcases bft ((!x37)) with hc38 | hc38
     ·replace h := Qav hc38 h
      refine wft hc38 (by kernel_rfl) ?_
      refine Qar [mc (.int .i64 1)] ?_ ?_
      ·exact ⟨aas rfl, trivial⟩
      refine thn ?_
      exact ⟨(1), h, (mto (n := 140) [(0, (.dat 4 ((p0 : List GNode).map Qaa))), (4, .ref 0 3 0 0), (10, (.dat 2 ((x10.1 : List GRange).map Qai))), (11, I x10.2), (12, I 1)] [0] [(.own 3 [[(.dat 2 ((p1.Use : List GMeter).map Qab)), (.dat 2 ((p1.Flow : List GMeter).map Qab)), (.dat 1 ((p1.Has : List Bool).map Qae))]])] hφ0 (pc (.rn (.plain _ (nld Qag _))) (pc (.rn (rqr rfl)) (pc (.rn (.plain _ (nld Qbo _))) (pc rwl (pc rwl pn))))) (qc (spb (lc (.rn (.plain _ (nld Qal _))) (lc (.rn (.plain _ (nld Qal _))) (lc (.rn (.plain _ (nld Qbd _))) ln)))) qn))⟩
     ·replace h := Qaw hc38 h
      refine wfn hc38 (by kernel_rfl) ?_
      obtain ⟨x40, hf39, h⟩ := bno h
      refine wrg [mv 0 (.dat 4 ((p0 : List GNode).map Qaa)), rb [(.tmp 4, .ref 0 3 0 0)] [(0, (.own 3 [[(.dat 2 ((p1.Use : List GMeter).map Qab)), (.dat 2 ((p1.Flow : List GMeter).map Qab)), (.dat 1 ((p1.Has : List Bool).map Qae))]]))] (.agg [(.dat 2 ((p1.Use : List GMeter).map Qab)), (.dat 2 ((p1.Flow : List GMeter).map Qab)), (.dat 1 ((p1.Has : List Bool).map Qae))]), rp [fu 52, (.tmp 85, (.dat 4 ((p0 : List GNode).map Qaa))), (.tmp 86, (.agg [(.dat 2 ((p1.Use : List GMeter).map Qab)), (.dat 2 ((p1.Flow : List GMeter).map Qab)), (.dat 1 ((p1.Has : List Bool).map Qae))]))] (B x40), rp [(.tmp 87, B x40)] (B ((!x40)))] ?_ ?_
      ·exact ⟨amv rfl, ald rfl ti89 (by decide) rfl (nle rfl) rfl, apc (first := []) (cap := []) (vs := [(.dat 4 ((p0 : List GNode).map Qaa)), (.agg [(.dat 2 ((p1.Use : List GMeter).map Qab)), (.dat 2 ((p1.Flow : List GMeter).map Qab)), (.dat 1 ((p1.Has : List Bool).map Qae))])]) rfl enter52 (Qhl N p0 p1 _ hf39) rfl rfl (nlc (nld Qag _) (nlc (NLt.agg _ (nlc (nld Qal _) (nlc (nld Qal _) (nlc (nld Qbd _) nl0)))) nl0)) nll rfl, Qap rfl, trivial⟩
      rcases bft ((!x40)) with hc41 | hc41
      ·replace h := Qav hc41 h
       refine wft hc41 (by kernel_rfl) ?_
       refine Qar [mc (.int .i64 2)] ?_ ?_
       ·exact ⟨aas rfl, trivial⟩
       refine thn ?_
       exact ⟨(2), h, (mto (n := 140) [(0, (.dat 4 ((p0 : List GNode).map Qaa))), (4, .ref 0 3 0 0), (10, (.dat 2 ((x10.1 : List GRange).map Qai))), (11, I x10.2), (12, I 2)] [0] [(.own 3 [[(.dat 2 ((p1.Use : List GMeter).map Qab)), (.dat 2 ((p1.Flow : List GMeter).map Qab)), (.dat 1 ((p1.Has : List Bool).map Qae))]])] hφ0 (pc (.rn (.plain _ (nld Qag _))) (pc (.rn (rqr rfl)) (pc (.rn (.plain _ (nld Qbo _))) (pc rwl (pc rwl pn))))) (qc (spb (lc (.rn (.plain _ (nld Qal _))) (lc (.rn (.plain _ (nld Qal _))) (lc (.rn (.plain _ (nld Qbd _))) ln)))) qn))⟩
      ·replace h := Qaw hc41 h
       refine wfn hc41 (by kernel_rfl) ?_
       refine Qam ?_
       refine thn ?_
       exact ⟨(0), h, (mto (n := 140) [(0, (.dat 4 ((p0 : List GNode).map Qaa))), (4, .ref 0 3 0 0), (10, (.dat 2 ((x10.1 : List GRange).map Qai))), (11, I x10.2), (12, I 0)] [0] [(.own 3 [[(.dat 2 ((p1.Use : List GMeter).map Qab)), (.dat 2 ((p1.Flow : List GMeter).map Qab)), (.dat 1 ((p1.Has : List Bool).map Qae))]])] hφ0 (pc (.rn (.plain _ (nld Qag _))) (pc (.rn (rqr rfl)) (pc (.rn (.plain _ (nld Qbo _))) (pc rwl (pc rwl pn))))) (qc (spb (lc (.rn (.plain _ (nld Qal _))) (lc (.rn (.plain _ (nld Qal _))) (lc (.rn (.plain _ (nld Qbd _))) ln)))) qn))⟩
   ·skip
    obtain ⟨x43, hf42, h⟩ := bno h
    refine wrg [rb [(.tmp 5, .ref 1 2 0 0)] [(1, .own 2 [[I p2.Reading, I p2.Off]])] (.agg [I p2.Reading, I p2.Off]), rp [fu 48, (.tmp 46, (.agg [I p2.Reading, I p2.Off]))] (B x43), rp [(.tmp 47, B x43)] (B ((!x43)))] ?_ ?_
    ·exact ⟨ald rfl ti91 (by decide) rfl (nle rfl) rfl, apc (first := []) (cap := []) (vs := [(.agg [I p2.Reading, I p2.Off])]) rfl enter48 (Qd6 N p2 _ hf42) rfl rfl (nlc (NLt.agg _ (nlc nll (nlc nll nl0))) nl0) nll rfl, Qap rfl, trivial⟩
    rcases bft ((!x43)) with hc44 | hc44
    ·replace h := Qav hc44 h
     refine wft hc44 (by kernel_rfl) ?_
     rcases bft ((x3.2 != 2)) with hb45 | hb45
     ·replace h := Qav hb45 h
      refine wrg [mv 8 (I x3.2), rp [(.tmp 49, I x3.2), ci 2] (B ((x3.2 != 2))), rp [(.tmp 50, (B ((x3.2 != 2))))] (B true), sk 51 (B true), sk 51 (B true), sk 51 (B true), rp [(.tmp 51, B true), cb true, (.tmp 54, (.lit undef))] (B true)] ?_ ?_
      ·exact ⟨amv rfl, abn rfl rfl, asb hb45 (amv rfl), trivial, trivial, trivial, apk rfl rfl, trivial⟩
      refine Qbq (by kernel_rfl) ?_
      refine wrg [mc (.bool false)] ?_ ?_
      ·exact ⟨aas rfl, trivial⟩
      refine Qak ?_
      refine Qao ?_
      obtain rfl := osi h
      exact ⟨⟨[B false], ⟨rot (by kernel_rfl), trivial⟩, rfl⟩, nll, Nat.le_refl _, fun n hn => absurd hn (Nat.not_lt_zero n)⟩
     ·replace h := Qaw hb45 h
      refine wrg [mv 8 (I x3.2), rp [(.tmp 49, I x3.2), ci 2] (B ((x3.2 != 2))), rp [(.tmp 50, (B ((x3.2 != 2))))] (B false), rb [(.tmp 51, B false), (.tmp 7, .ref 2 2 0 0)] [(2, .own 2 [[I x3.1.Lo, I x3.1.Hi]])] (.agg [I x3.1.Lo, I x3.1.Hi]), rp [(.tmp 51, B false)] (.agg [I 0, I 0]), rp [(.tmp 51, B false), (.tmp 52, (.agg [I x3.1.Lo, I x3.1.Hi])), (.tmp 53, (.agg [I 0, I 0]))] (B ((!(([x3.1.Lo, x3.1.Hi] : List Int) == [0, 0])))), rp [(.tmp 51, B false), cb true, (.tmp 54, (B ((!(([x3.1.Lo, x3.1.Hi] : List Int) == [0, 0])))))] (B ((!(([x3.1.Lo, x3.1.Hi] : List Int) == [0, 0]))))] ?_ ?_
      ·exact ⟨amv rfl, abn rfl rfl, asb hb45 (amv rfl), ag_ (ald rfl ti93 (by decide) rfl (nle rfl) rfl), ag_ (Qa9 (vs := []) rfl ts93 tz93 rfl (by rfl) rfl), ag_ (astep_nes (ls := [x3.1.Lo, x3.1.Hi]) (ks := [0, 0]) rfl rfl eqt93 (by kernel_rfl) rfl rfl), apk rfl rfl, trivial⟩
      rcases bft ((!(([x3.1.Lo, x3.1.Hi] : List Int) == [0, 0]))) with hc46 | hc46
      ·replace h := Qav hc46 h
       refine wft hc46 (by kernel_rfl) ?_
       refine wrg [mc (.bool false)] ?_ ?_
       ·exact ⟨aas rfl, trivial⟩
       refine Qak ?_
       refine Qao ?_
       obtain rfl := osi h
       exact ⟨⟨[B false], ⟨rot (by kernel_rfl), trivial⟩, rfl⟩, nll, Nat.le_refl _, fun n hn => absurd hn (Nat.not_lt_zero n)⟩
      ·replace h := Qaw hc46 h
       refine wfn hc46 (by kernel_rfl) ?_
       refine Qam ?_
       refine thn ?_
       exact ⟨(), h, (mto (n := 140) [(0, (.dat 4 ((p0 : List GNode).map Qaa))), (4, .ref 0 3 0 0)] [0] [(.own 3 [[(.dat 2 ((p1.Use : List GMeter).map Qab)), (.dat 2 ((p1.Flow : List GMeter).map Qab)), (.dat 1 ((p1.Has : List Bool).map Qae))]])] hφ0 (pc (.rn (.plain _ (nld Qag _))) (pc (.rn (rqr rfl)) pn)) (qc (spb (lc (.rn (.plain _ (nld Qal _))) (lc (.rn (.plain _ (nld Qal _))) (lc (.rn (.plain _ (nld Qbd _))) ln)))) qn))⟩
    ·replace h := Qaw hc44 h
     refine wfn hc44 (by kernel_rfl) ?_
     obtain ⟨x48, hf47, h⟩ := bno h
     refine wrg [rb [(.tmp 5, .ref 1 2 0 0)] [(1, .own 2 [[I p2.Reading, I p2.Off]])] (.agg [I p2.Reading, I p2.Off]), rp [fu 49, (.tmp 56, (.agg [I p2.Reading, I p2.Off]))] (.agg [I x48.Lo, I x48.Hi]), ⟨[], [(3, .unused)], .ref 3 2 0 0, [(3, .own 2 [[I 0, I 0]])], false⟩, ⟨[(.tmp 9, .ref 3 2 0 0), (.tmp 57, (.agg [I x48.Lo, I x48.Hi]))], [(3, .own 2 [[I 0, I 0]])], .any, [(3, .own 2 [[I x48.Lo, I x48.Hi]])], false⟩] ?_ ?_
     ·exact ⟨ald rfl ti91 (by decide) rfl (nle rfl) rfl, apc (first := []) (cap := []) (vs := [(.agg [I p2.Reading, I p2.Off])]) rfl enter49 (Qfb N p2 _ hf47) rfl rfl (nlc (NLt.agg _ (nlc nll (nlc nll nl0))) nl0) (NLt.agg _ (nlc nll (nlc nll nl0))) rfl, Qaz rfl tz98 rfl, ast rfl ti98 (by rfl) rfl (nle rfl) rfl, trivial⟩
     rcases bft ((x3.2 != 0)) with hb49 | hb49
     ·replace h := Qav hb49 h
      refine wrg [mv 8 (I x3.2), rp [(.tmp 58, I x3.2), ci 0] (B ((x3.2 != 0))), rp [(.tmp 59, (B ((x3.2 != 0))))] (B true), sk 60 (B true), sk 60 (B true), sk 60 (B true), sk 60 (B true), sk 60 (B true), rp [(.tmp 60, B true), cb true, (.tmp 65, (.lit undef))] (B true), mv 66 (B true), sk 67 (B true), sk 67 (B true), sk 67 (B true), sk 67 (B true), sk 67 (B true), rp [(.tmp 67, B true), cb true, (.tmp 72, (.lit undef))] (B true)] ?_ ?_
      ·exact ⟨amv rfl, abn rfl rfl, asb hb49 (amv rfl), trivial, trivial, trivial, trivial, trivial, apk rfl rfl, amv rfl, trivial, trivial, trivial, trivial, trivial, apk rfl rfl, trivial⟩
      refine Qbq (by kernel_rfl) ?_
      refine wrg [mc (.bool false)] ?_ ?_
      ·exact ⟨aas rfl, trivial⟩
      refine Qak ?_
      refine Qao ?_
      obtain rfl := osi h
      exact ⟨⟨[B false], ⟨rot (by kernel_rfl), trivial⟩, rfl⟩, nll, Nat.le_refl _, fun n hn => absurd hn (Nat.not_lt_zero n)⟩
     ·replace h := Qaw hb49 h
      rcases bft ((x3.1.Lo != x48.Lo)) with hb50 | hb50
      ·replace h := Qav hb50 h
       refine wrg [mv 8 (I x3.2), rp [(.tmp 58, I x3.2), ci 0] (B ((x3.2 != 0))), rp [(.tmp 59, (B ((x3.2 != 0))))] (B false), rb [(.tmp 60, B false), (.tmp 7, .ref 2 2 0 0)] [(2, .own 2 [[I x3.1.Lo, I x3.1.Hi]])] (.ref 2 2 0 0), rb [(.tmp 60, B false), (.tmp 61, .ref 2 2 0 0)] [(2, .own 2 [[I x3.1.Lo, I x3.1.Hi]])] (I x3.1.Lo), rb [(.tmp 60, B false), (.tmp 9, .ref 3 2 0 0)] [(3, .own 2 [[I x48.Lo, I x48.Hi]])] (.ref 3 2 0 0), rb [(.tmp 60, B false), (.tmp 63, .ref 3 2 0 0)] [(3, .own 2 [[I x48.Lo, I x48.Hi]])] (I x48.Lo), rp [(.tmp 60, B false), (.tmp 62, I x3.1.Lo), (.tmp 64, I x48.Lo)] (B ((x3.1.Lo != x48.Lo))), rp [(.tmp 60, B false), cb true, (.tmp 65, (B ((x3.1.Lo != x48.Lo))))] (B ((x3.1.Lo != x48.Lo))), rp [(.tmp 66, (B ((x3.1.Lo != x48.Lo))))] (B true), sk 67 (B true), sk 67 (B true), sk 67 (B true), sk 67 (B true), sk 67 (B true), rp [(.tmp 67, B true), cb true, (.tmp 72, (.lit undef))] (B true)] ?_ ?_
       ·exact ⟨amv rfl, abn rfl rfl, asb hb49 (amv rfl), ag_ (afa rfl Try.underlying93 rfl rfl ti3 (by decide) rfl), ag_ (ald rfl ti3 (by decide) rfl (nle rfl) rfl), ag_ (afa rfl Try.underlying98 rfl rfl ti3 (by decide) rfl), ag_ (ald rfl ti3 (by decide) rfl (nle rfl) rfl), ag_ (abn rfl rfl), apk rfl rfl, asb hb50 (amv rfl), trivial, trivial, trivial, trivial, trivial, apk rfl rfl, trivial⟩
       refine Qbq (by kernel_rfl) ?_
       refine wrg [mc (.bool false)] ?_ ?_
       ·exact ⟨aas rfl, trivial⟩
       refine Qak ?_
       refine Qao ?_
       obtain rfl := osi h
       exact ⟨⟨[B false], ⟨rot (by kernel_rfl), trivial⟩, rfl⟩, nll, Nat.le_refl _, fun n hn => absurd hn (Nat.not_lt_zero n)⟩
      ·replace h := Qaw hb50 h
       refine wrg [mv 8 (I x3.2), rp [(.tmp 58, I x3.2), ci 0] (B ((x3.2 != 0))), rp [(.tmp 59, (B ((x3.2 != 0))))] (B false), rb [(.tmp 60, B false), (.tmp 7, .ref 2 2 0 0)] [(2, .own 2 [[I x3.1.Lo, I x3.1.Hi]])] (.ref 2 2 0 0), rb [(.tmp 60, B false), (.tmp 61, .ref 2 2 0 0)] [(2, .own 2 [[I x3.1.Lo, I x3.1.Hi]])] (I x3.1.Lo), rb [(.tmp 60, B false), (.tmp 9, .ref 3 2 0 0)] [(3, .own 2 [[I x48.Lo, I x48.Hi]])] (.ref 3 2 0 0), rb [(.tmp 60, B false), (.tmp 63, .ref 3 2 0 0)] [(3, .own 2 [[I x48.Lo, I x48.Hi]])] (I x48.Lo), rp [(.tmp 60, B false), (.tmp 62, I x3.1.Lo), (.tmp 64, I x48.Lo)] (B ((x3.1.Lo != x48.Lo))), rp [(.tmp 60, B false), cb true, (.tmp 65, (B ((x3.1.Lo != x48.Lo))))] (B ((x3.1.Lo != x48.Lo))), rp [(.tmp 66, (B ((x3.1.Lo != x48.Lo))))] (B false), rb [(.tmp 67, B false), (.tmp 7, .ref 2 2 0 0)] [(2, .own 2 [[I x3.1.Lo, I x3.1.Hi]])] (.ref 2 2 0 1), rb [(.tmp 67, B false), (.tmp 68, .ref 2 2 0 1)] [(2, .own 2 [[I x3.1.Lo, I x3.1.Hi]])] (I x3.1.Hi), rb [(.tmp 67, B false), (.tmp 9, .ref 3 2 0 0)] [(3, .own 2 [[I x48.Lo, I x48.Hi]])] (.ref 3 2 0 1), rb [(.tmp 67, B false), (.tmp 70, .ref 3 2 0 1)] [(3, .own 2 [[I x48.Lo, I x48.Hi]])] (I x48.Hi), rp [(.tmp 67, B false), (.tmp 69, I x3.1.Hi), (.tmp 71, I x48.Hi)] (B ((x3.1.Hi != x48.Hi))), rp [(.tmp 67, B false), cb true, (.tmp 72, (B ((x3.1.Hi != x48.Hi))))] (B ((x3.1.Hi != x48.Hi)))] ?_ ?_
       ·exact ⟨amv rfl, abn rfl rfl, asb hb49 (amv rfl), ag_ (afa rfl Try.underlying93 rfl rfl ti3 (by decide) rfl), ag_ (ald rfl ti3 (by decide) rfl (nle rfl) rfl), ag_ (afa rfl Try.underlying98 rfl rfl ti3 (by decide) rfl), ag_ (ald rfl ti3 (by decide) rfl (nle rfl) rfl), ag_ (abn rfl rfl), apk rfl rfl, asb hb50 (amv rfl), ag_ (afa rfl Try.underlying93 rfl rfl ti3 (by decide) rfl), ag_ (ald rfl ti3 (by decide) rfl (nle rfl) rfl), ag_ (afa rfl Try.underlying98 rfl rfl ti3 (by decide) rfl), ag_ (ald rfl ti3 (by decide) rfl (nle rfl) rfl), ag_ (abn rfl rfl), apk rfl rfl, trivial⟩
       rcases bft ((x3.1.Hi != x48.Hi)) with hc51 | hc51
       ·replace h := Qav hc51 h
        refine wft hc51 (by kernel_rfl) ?_
        refine wrg [mc (.bool false)] ?_ ?_
        ·exact ⟨aas rfl, trivial⟩
        refine Qak ?_
        refine Qao ?_
        obtain rfl := osi h
        exact ⟨⟨[B false], ⟨rot (by kernel_rfl), trivial⟩, rfl⟩, nll, Nat.le_refl _, fun n hn => absurd hn (Nat.not_lt_zero n)⟩
       ·replace h := Qaw hc51 h
        refine wfn hc51 (by kernel_rfl) ?_
        refine Qam ?_
        refine thn ?_
        exact ⟨(), h, (mto (n := 140) [(0, (.dat 4 ((p0 : List GNode).map Qaa))), (4, .ref 0 3 0 0)] [0] [(.own 3 [[(.dat 2 ((p1.Use : List GMeter).map Qab)), (.dat 2 ((p1.Flow : List GMeter).map Qab)), (.dat 1 ((p1.Has : List Bool).map Qae))]])] hφ0 (pc (.rn (.plain _ (nld Qag _))) (pc (.rn (rqr rfl)) pn)) (qc (spb (lc (.rn (.plain _ (nld Qal _))) (lc (.rn (.plain _ (nld Qal _))) (lc (.rn (.plain _ (nld Qbd _))) ln)))) qn))⟩
  ·skip
   obtain ⟨x53, hf52, h⟩ := bno h
   rcases bft ((!x53)) with hb54 | hb54
   ·replace h := Qav hb54 h
    refine wrg [mv 0 (.dat 4 ((p0 : List GNode).map Qaa)), rp [fu 20, (.tmp 15, (.dat 4 ((p0 : List GNode).map Qaa))), ((.const (.slice none 0 0)), nilS)] (B x53), rp [(.tmp 16, B x53)] (B ((!x53))), rp [(.tmp 17, (B ((!x53))))] (B true), sk 18 (B true), sk 18 (B true), sk 18 (B true), sk 18 (B true), rp [(.tmp 18, B true), cb true, (.tmp 22, (.lit undef))] (B true), mv 23 (B true), sk 24 (B true), sk 24 (B true), sk 24 (B true), sk 24 (B true), rp [(.tmp 24, B true), cb true, (.tmp 28, (.lit undef))] (B true), mv 29 (B true), sk 30 (B true), sk 30 (B true), sk 30 (B true), sk 30 (B true), rp [(.tmp 30, B true), cb true, (.tmp 34, (.lit undef))] (B true)] ?_ ?_
    ·exact ⟨amv rfl, awk (rd' := (.func 20, (.fn (.func 20) [] [])) :: [(.tmp 15, (.dat 4 ((p0 : List GNode).map Qaa))), (.const (.slice none 0 0), (.dat 1 (([] : List Int).map Qac)))]) ⟨rfl, lrf, rfl, lrf, rfl, Less.nil, trivial⟩ (apc (first := []) (cap := []) (vs := [(.dat 4 ((p0 : List GNode).map Qaa)), (.dat 1 (([] : List Int).map Qac))]) rfl enter20 (Qgk N p0 ([]) _ hf52) rfl rfl (nlc (nld Qag _) (nlc (nld Qaf _) nl0)) nll rfl), Qap rfl, asb hb54 (amv rfl), trivial, trivial, trivial, trivial, apk rfl rfl, amv rfl, trivial, trivial, trivial, trivial, apk rfl rfl, amv rfl, trivial, trivial, trivial, trivial, apk rfl rfl, trivial⟩
    refine Qbq (by kernel_rfl) ?_
    obtain ⟨x56, hf55, h⟩ := bno h
    refine wrg [rp [fu 21] (B x56), mv 36 (B x56)] ?_ ?_
    ·exact ⟨apc (first := []) (cap := []) (vs := []) rfl Qjc (Qev 2000  _ hf55) rfl rfl nl0 nll rfl, aas rfl, trivial⟩
    refine Qak ?_
    refine Qao ?_
    obtain rfl := osi h
    exact ⟨⟨[B x56], ⟨rot (by kernel_rfl), trivial⟩, rfl⟩, nll, Nat.le_refl _, fun n hn => absurd hn (Nat.not_lt_zero n)⟩
   ·replace h := Qaw hb54 h
    rcases bft ((decide ((p1.Use.length : Int) > 35))) with hb57 | hb57
    ·replace h := Qav hb57 h
     refine wrg [mv 0 (.dat 4 ((p0 : List GNode).map Qaa)), rp [fu 20, (.tmp 15, (.dat 4 ((p0 : List GNode).map Qaa))), ((.const (.slice none 0 0)), nilS)] (B x53), rp [(.tmp 16, B x53)] (B ((!x53))), rp [(.tmp 17, (B ((!x53))))] (B false), rb [(.tmp 18, B false), (.tmp 4, .ref 0 3 0 0)] [(0, (.own 3 [[(.dat 2 ((p1.Use : List GMeter).map Qab)), (.dat 2 ((p1.Flow : List GMeter).map Qab)), (.dat 1 ((p1.Has : List Bool).map Qae))]]))] (.ref 0 3 0 0), rb [(.tmp 18, B false), (.tmp 19, .ref 0 3 0 0)] [(0, (.own 3 [[(.dat 2 ((p1.Use : List GMeter).map Qab)), (.dat 2 ((p1.Flow : List GMeter).map Qab)), (.dat 1 ((p1.Has : List Bool).map Qae))]]))] (.dat 2 ((p1.Use : List GMeter).map Qab)), rp [(.tmp 18, B false), (.tmp 20, (.dat 2 ((p1.Use : List GMeter).map Qab)))] (I ((p1.Use.length : Int))), rp [(.tmp 18, B false), (.tmp 21, (I ((p1.Use.length : Int)))), ci 35] (B ((decide ((p1.Use.length : Int) > 35)))), rp [(.tmp 18, B false), cb true, (.tmp 22, (B ((decide ((p1.Use.length : Int) > 35)))))] (B ((decide ((p1.Use.length : Int) > 35)))), rp [(.tmp 23, (B ((decide ((p1.Use.length : Int) > 35)))))] (B true), sk 24 (B true), sk 24 (B true), sk 24 (B true), sk 24 (B true), rp [(.tmp 24, B true), cb true, (.tmp 28, (.lit undef))] (B true), mv 29 (B true), sk 30 (B true), sk 30 (B true), sk 30 (B true), sk 30 (B true), rp [(.tmp 30, B true), cb true, (.tmp 34, (.lit undef))] (B true)] ?_ ?_
     ·exact ⟨amv rfl, awk (rd' := (.func 20, (.fn (.func 20) [] [])) :: [(.tmp 15, (.dat 4 ((p0 : List GNode).map Qaa))), (.const (.slice none 0 0), (.dat 1 (([] : List Int).map Qac)))]) ⟨rfl, lrf, rfl, lrf, rfl, Less.nil, trivial⟩ (apc (first := []) (cap := []) (vs := [(.dat 4 ((p0 : List GNode).map Qaa)), (.dat 1 (([] : List Int).map Qac))]) rfl enter20 (Qgk N p0 ([]) _ hf52) rfl rfl (nlc (nld Qag _) (nlc (nld Qaf _) nl0)) nll rfl), Qap rfl, asb hb54 (amv rfl), ag_ (afa rfl Try.underlying89 rfl rfl ti87 (by decide) rfl), ag_ (ald rfl ti87 (by decide) rfl (nle rfl) rfl), ag_ (alm (c := Qab) (l := p1.Use) (aln rfl Try.underlying87 rfl)), ag_ (abn rfl rfl), apk rfl rfl, asb hb57 (amv rfl), trivial, trivial, trivial, trivial, apk rfl rfl, amv rfl, trivial, trivial, trivial, trivial, apk rfl rfl, trivial⟩
     refine Qbq (by kernel_rfl) ?_
     obtain ⟨x59, hf58, h⟩ := bno h
     refine wrg [rp [fu 21] (B x59), mv 36 (B x59)] ?_ ?_
     ·exact ⟨apc (first := []) (cap := []) (vs := []) rfl Qjc (Qev 2000  _ hf58) rfl rfl nl0 nll rfl, aas rfl, trivial⟩
     refine Qak ?_
     refine Qao ?_
     obtain rfl := osi h
     exact ⟨⟨[B x59], ⟨rot (by kernel_rfl), trivial⟩, rfl⟩, nll, Nat.le_refl _, fun n hn => absurd hn (Nat.not_lt_zero n)⟩
    ·replace h := Qaw hb57 h
     rcases bft ((decide ((p1.Flow.length : Int) > 35))) with hb60 | hb60
     ·replace h := Qav hb60 h
      refine wrg [mv 0 (.dat 4 ((p0 : List GNode).map Qaa)), rp [fu 20, (.tmp 15, (.dat 4 ((p0 : List GNode).map Qaa))), ((.const (.slice none 0 0)), nilS)] (B x53), rp [(.tmp 16, B x53)] (B ((!x53))), rp [(.tmp 17, (B ((!x53))))] (B false), rb [(.tmp 18, B false), (.tmp 4, .ref 0 3 0 0)] [(0, (.own 3 [[(.dat 2 ((p1.Use : List GMeter).map Qab)), (.dat 2 ((p1.Flow : List GMeter).map Qab)), (.dat 1 ((p1.Has : List Bool).map Qae))]]))] (.ref 0 3 0 0), rb [(.tmp 18, B false), (.tmp 19, .ref 0 3 0 0)] [(0, (.own 3 [[(.dat 2 ((p1.Use : List GMeter).map Qab)), (.dat 2 ((p1.Flow : List GMeter).map Qab)), (.dat 1 ((p1.Has : List Bool).map Qae))]]))] (.dat 2 ((p1.Use : List GMeter).map Qab)), rp [(.tmp 18, B false), (.tmp 20, (.dat 2 ((p1.Use : List GMeter).map Qab)))] (I ((p1.Use.length : Int))), rp [(.tmp 18, B false), (.tmp 21, (I ((p1.Use.length : Int)))), ci 35] (B ((decide ((p1.Use.length : Int) > 35)))), rp [(.tmp 18, B false), cb true, (.tmp 22, (B ((decide ((p1.Use.length : Int) > 35)))))] (B ((decide ((p1.Use.length : Int) > 35)))), rp [(.tmp 23, (B ((decide ((p1.Use.length : Int) > 35)))))] (B false), rb [(.tmp 24, B false), (.tmp 4, .ref 0 3 0 0)] [(0, (.own 3 [[(.dat 2 ((p1.Use : List GMeter).map Qab)), (.dat 2 ((p1.Flow : List GMeter).map Qab)), (.dat 1 ((p1.Has : List Bool).map Qae))]]))] (.ref 0 3 0 1), rb [(.tmp 24, B false), (.tmp 25, .ref 0 3 0 1)] [(0, (.own 3 [[(.dat 2 ((p1.Use : List GMeter).map Qab)), (.dat 2 ((p1.Flow : List GMeter).map Qab)), (.dat 1 ((p1.Has : List Bool).map Qae))]]))] (.dat 2 ((p1.Flow : List GMeter).map Qab)), rp [(.tmp 24, B false), (.tmp 26, (.dat 2 ((p1.Flow : List GMeter).map Qab)))] (I ((p1.Flow.length : Int))), rp [(.tmp 24, B false), (.tmp 27, (I ((p1.Flow.length : Int)))), ci 35] (B ((decide ((p1.Flow.length : Int) > 35)))), rp [(.tmp 24, B false), cb true, (.tmp 28, (B ((decide ((p1.Flow.length : Int) > 35)))))] (B ((decide ((p1.Flow.length : Int) > 35)))), rp [(.tmp 29, (B ((decide ((p1.Flow.length : Int) > 35)))))] (B true), sk 30 (B true), sk 30 (B true), sk 30 (B true), sk 30 (B true), rp [(.tmp 30, B true), cb true, (.tmp 34, (.lit undef))] (B true)] ?_ ?_
      ·exact ⟨amv rfl, awk (rd' := (.func 20, (.fn (.func 20) [] [])) :: [(.tmp 15, (.dat 4 ((p0 : List GNode).map Qaa))), (.const (.slice none 0 0), (.dat 1 (([] : List Int).map Qac)))]) ⟨rfl, lrf, rfl, lrf, rfl, Less.nil, trivial⟩ (apc (first := []) (cap := []) (vs := [(.dat 4 ((p0 : List GNode).map Qaa)), (.dat 1 (([] : List Int).map Qac))]) rfl enter20 (Qgk N p0 ([]) _ hf52) rfl rfl (nlc (nld Qag _) (nlc (nld Qaf _) nl0)) nll rfl), Qap rfl, asb hb54 (amv rfl), ag_ (afa rfl Try.underlying89 rfl rfl ti87 (by decide) rfl), ag_ (ald rfl ti87 (by decide) rfl (nle rfl) rfl), ag_ (alm (c := Qab) (l := p1.Use) (aln rfl Try.underlying87 rfl)), ag_ (abn rfl rfl), apk rfl rfl, asb hb57 (amv rfl), ag_ (afa rfl Try.underlying89 rfl rfl ti87 (by decide) rfl), ag_ (ald rfl ti87 (by decide) rfl (nle rfl) rfl), ag_ (alm (c := Qab) (l := p1.Flow) (aln rfl Try.underlying87 rfl)), ag_ (abn rfl rfl), apk rfl rfl, asb hb60 (amv rfl), trivial, trivial, trivial, trivial, apk rfl rfl, trivial⟩
      refine Qbq (by kernel_rfl) ?_
      obtain ⟨x62, hf61, h⟩ := bno h
      refine wrg [rp [fu 21] (B x62), mv 36 (B x62)] ?_ ?_
      ·exact ⟨apc (first := []) (cap := []) (vs := []) rfl Qjc (Qev 2000  _ hf61) rfl rfl nl0 nll rfl, aas rfl, trivial⟩
      refine Qak ?_
      refine Qao ?_
      obtain rfl := osi h
      exact ⟨⟨[B x62], ⟨rot (by kernel_rfl), trivial⟩, rfl⟩, nll, Nat.le_refl _, fun n hn => absurd hn (Nat.not_lt_zero n)⟩
     ·replace h := Qaw hb60 h
      refine wrg [mv 0 (.dat 4 ((p0 : List GNode).map Qaa)), rp [fu 20, (.tmp 15, (.dat 4 ((p0 : List GNode).map Qaa))), ((.const (.slice none 0 0)), nilS)] (B x53), rp [(.tmp 16, B x53)] (B ((!x53))), rp [(.tmp 17, (B ((!x53))))] (B false), rb [(.tmp 18, B false), (.tmp 4, .ref 0 3 0 0)] [(0, (.own 3 [[(.dat 2 ((p1.Use : List GMeter).map Qab)), (.dat 2 ((p1.Flow : List GMeter).map Qab)), (.dat 1 ((p1.Has : List Bool).map Qae))]]))] (.ref 0 3 0 0), rb [(.tmp 18, B false), (.tmp 19, .ref 0 3 0 0)] [(0, (.own 3 [[(.dat 2 ((p1.Use : List GMeter).map Qab)), (.dat 2 ((p1.Flow : List GMeter).map Qab)), (.dat 1 ((p1.Has : List Bool).map Qae))]]))] (.dat 2 ((p1.Use : List GMeter).map Qab)), rp [(.tmp 18, B false), (.tmp 20, (.dat 2 ((p1.Use : List GMeter).map Qab)))] (I ((p1.Use.length : Int))), rp [(.tmp 18, B false), (.tmp 21, (I ((p1.Use.length : Int)))), ci 35] (B ((decide ((p1.Use.length : Int) > 35)))), rp [(.tmp 18, B false), cb true, (.tmp 22, (B ((decide ((p1.Use.length : Int) > 35)))))] (B ((decide ((p1.Use.length : Int) > 35)))), rp [(.tmp 23, (B ((decide ((p1.Use.length : Int) > 35)))))] (B false), rb [(.tmp 24, B false), (.tmp 4, .ref 0 3 0 0)] [(0, (.own 3 [[(.dat 2 ((p1.Use : List GMeter).map Qab)), (.dat 2 ((p1.Flow : List GMeter).map Qab)), (.dat 1 ((p1.Has : List Bool).map Qae))]]))] (.ref 0 3 0 1), rb [(.tmp 24, B false), (.tmp 25, .ref 0 3 0 1)] [(0, (.own 3 [[(.dat 2 ((p1.Use : List GMeter).map Qab)), (.dat 2 ((p1.Flow : List GMeter).map Qab)), (.dat 1 ((p1.Has : List Bool).map Qae))]]))] (.dat 2 ((p1.Flow : List GMeter).map Qab)), rp [(.tmp 24, B false), (.tmp 26, (.dat 2 ((p1.Flow : List GMeter).map Qab)))] (I ((p1.Flow.length : Int))), rp [(.tmp 24, B false), (.tmp 27, (I ((p1.Flow.length : Int)))), ci 35] (B ((decide ((p1.Flow.length : Int) > 35)))), rp [(.tmp 24, B false), cb true, (.tmp 28, (B ((decide ((p1.Flow.length : Int) > 35)))))] (B ((decide ((p1.Flow.length : Int) > 35)))), rp [(.tmp 29, (B ((decide ((p1.Flow.length : Int) > 35)))))] (B false), rb [(.tmp 30, B false), (.tmp 4, .ref 0 3 0 0)] [(0, (.own 3 [[(.dat 2 ((p1.Use : List GMeter).map Qab)), (.dat 2 ((p1.Flow : List GMeter).map Qab)), (.dat 1 ((p1.Has : List Bool).map Qae))]]))] (.ref 0 3 0 2), rb [(.tmp 30, B false), (.tmp 31, .ref 0 3 0 2)] [(0, (.own 3 [[(.dat 2 ((p1.Use : List GMeter).map Qab)), (.dat 2 ((p1.Flow : List GMeter).map Qab)), (.dat 1 ((p1.Has : List Bool).map Qae))]]))] (.dat 1 ((p1.Has : List Bool).map Qae)), rp [(.tmp 30, B false), (.tmp 32, (.dat 1 ((p1.Has : List Bool).map Qae)))] (I ((p1.Has.length : Int))), rp [(.tmp 30, B false), (.tmp 33, (I ((p1.Has.length : Int)))), ci 35] (B ((decide ((p1.Has.length : Int) > 35)))), rp [(.tmp 30, B false), cb true, (.tmp 34, (B ((decide ((p1.Has.length : Int) > 35)))))] (B ((decide ((p1.Has.length : Int) > 35))))] ?_ ?_
      ·exact ⟨amv rfl, awk (rd' := (.func 20, (.fn (.func 20) [] [])) :: [(.tmp 15, (.dat 4 ((p0 : List GNode).map Qaa))), (.const (.slice none 0 0), (.dat 1 (([] : List Int).map Qac)))]) ⟨rfl, lrf, rfl, lrf, rfl, Less.nil, trivial⟩ (apc (first := []) (cap := []) (vs := [(.dat 4 ((p0 : List GNode).map Qaa)), (.dat 1 (([] : List Int).map Qac))]) rfl enter20 (Qgk N p0 ([]) _ hf52) rfl rfl (nlc (nld Qag _) (nlc (nld Qaf _) nl0)) nll rfl), Qap rfl, asb hb54 (amv rfl), ag_ (afa rfl Try.underlying89 rfl rfl ti87 (by decide) rfl), ag_ (ald rfl ti87 (by decide) rfl (nle rfl) rfl), ag_ (alm (c := Qab) (l := p1.Use) (aln rfl Try.underlying87 rfl)), ag_ (abn rfl rfl), apk rfl rfl, asb hb57 (amv rfl), ag_ (afa rfl Try.underlying89 rfl rfl ti87 (by decide) rfl), ag_ (ald rfl ti87 (by decide) rfl (nle rfl) rfl), ag_ (alm (c := Qab) (l := p1.Flow) (aln rfl Try.underlying87 rfl)), ag_ (abn rfl rfl), apk rfl rfl, asb hb60 (amv rfl), ag_ (afa rfl Try.underlying89 rfl rfl ti26 (by decide) rfl), ag_ (ald rfl ti26 (by decide) rfl (nle rfl) rfl), ag_ (alm (c := Qae) (l := p1.Has) (aln rfl Try.underlying26 rfl)), ag_ (abn rfl rfl), apk rfl rfl, trivial⟩
      rcases bft ((decide ((p1.Has.length : Int) > 35))) with hc63 | hc63
      ·replace h := Qav hc63 h
       refine wft hc63 (by kernel_rfl) ?_
       obtain ⟨x65, hf64, h⟩ := bno h
       refine wrg [rp [fu 21] (B x65), mv 36 (B x65)] ?_ ?_
       ·exact ⟨apc (first := []) (cap := []) (vs := []) rfl Qjc (Qev 2000  _ hf64) rfl rfl nl0 nll rfl, aas rfl, trivial⟩
       refine Qak ?_
       refine Qao ?_
       obtain rfl := osi h
       exact ⟨⟨[B x65], ⟨rot (by kernel_rfl), trivial⟩, rfl⟩, nll, Nat.le_refl _, fun n hn => absurd hn (Nat.not_lt_zero n)⟩
      ·replace h := Qaw hc63 h
       refine wfn hc63 (by kernel_rfl) ?_
       refine Qam ?_
       refine thn ?_
       exact ⟨(), h, (mto (n := 140) [(0, (.dat 4 ((p0 : List GNode).map Qaa))), (4, .ref 0 3 0 0), (5, .ref 1 2 0 0)] [0, 1] [(.own 3 [[(.dat 2 ((p1.Use : List GMeter).map Qab)), (.dat 2 ((p1.Flow : List GMeter).map Qab)), (.dat 1 ((p1.Has : List Bool).map Qae))]]), (.own 2 [[I p2.Reading, I p2.Off]])] hφ0 (pc (.rn (.plain _ (nld Qag _))) (pc (.rn (rqr rfl)) (pc (.rn (rqr rfl)) pn))) (qc (spb (lc (.rn (.plain _ (nld Qal _))) (lc (.rn (.plain _ (nld Qal _))) (lc (.rn (.plain _ (nld Qbd _))) ln)))) (qc (spb (lc rwl (lc rwl ln))) qn)))⟩

end Go.Proofs.Ytgdepcgbjjgnfaa
