/-
  Functions of the program: what they compute, as plain functions, and that they do. No conditions.
-/
import Derived.Test.YtgdepcgbjjgnfaaX3
namespace Go.Proofs.Ytgdepcgbjjgnfaa
open Go.RowKit

def Qf0 (_N : Nat) (p0 : Int) (_p1 : Int) (_p2 : Int) (p3 : (List GHour)) (_p4 : Nat) (_p5 : Nat) (p6 : (Nat → Int)) (p7 : (Nat → Int)) (_p8 : (List Int)) (_p9 : (List Int)) : Option (Bool × Int × Int) :=
  chk (decide (0 ≤ p0) && decide (p0.toNat < 24)) <|
  (getI p3 p0).bind fun x5 =>
  bif ((p6 p0.toNat) == (x5.Stairs.length : Int)) then
   some (false, 0, 0)
  else
   chk (decide (0 ≤ p0) && decide (p0.toNat < 24)) <|
   chk (decide (0 ≤ p0) && decide (p0.toNat < 24)) <|
   (getI x5.Stairs (p6 p0.toNat)).bind fun x12 =>
   some (true, p7 p0.toNat, x12.Price)
set_option maxRecDepth 100000 in
set_option maxHeartbeats 4000000 in
theorem Qhx (N : Nat) (p0 : Int) (p1 : Int) (p2 : Int) (p3 : (List GHour)) (p4 : Nat) (p5 : Nat) (p6 : (Nat → Int)) (p7 : (Nat → Int)) (p8 : (List Int)) (p9 : (List Int)) (r : (Bool × Int × Int)) (h : Qf0 N p0 p1 p2 p3 p4 p5 p6 p7 p8 p9 = some r) : Spec Try.prog 102 [(.ref 0 53 (0) 0), (I (p0))] [(.own 53 [((I (p1)) :: (I (p2)) :: (.dat 2 ((p3 : List GHour).map Qad)) :: (.own 1 1 (0) (p4)) :: (.own 2 1 (0) (p5)) :: (arrF 24 p6 ++ arrF 24 p7))]), (.own 1 ((p8 : List Int).map Qac)), (.own 1 ((p9 : List Int).map Qac))] (.tup [(.agg [(I (r.2.1)), (I (r.2.2))]), (B (r.1))]) [(.own 53 [((I (p1)) :: (I (p2)) :: (.dat 2 ((p3 : List GHour).map Qad)) :: (.own 1 1 (0) (p4)) :: (.own 2 1 (0) (p5)) :: (arrF 24 p6 ++ arrF 24 p7))]), (.own 1 ((p8 : List Int).map Qac)), (.own 1 ((p9 : List Int).map Qac)), (.own 2 [[(I (r.2.1)), (I (r.2.2))]])] := by
  refine Qaq Try.func102 rfl 4 (nle rfl) (fun X φ0 w0 hφ0 => ?_)
  unfold Qf0 at h
  refine Qc1 ?_
  refine wrg [⟨[], [(3, .unused)], .ref 3 2 0 0, [(3, .own 2 [[I 0, I 0]])], false⟩, mc (.bool false)] ?_ ?_
  ·exact ⟨Qaz rfl tz64 rfl, aas rfl, trivial⟩
  refine wsq ?_
  obtain ⟨hi4, h⟩ := cko h
  obtain ⟨hi4a, hi4b⟩ := Qba hi4
  obtain ⟨x5, hg6, h⟩ := bno h
  obtain ⟨hi7, hj8⟩ := gsm hg6
  refine Qct [mv 0 (.ref 0 53 0 0), mv 1 (I p0), rb [(.tmp 6, .ref 0 53 0 0)] [(0, (.own 53 [((I p1) :: (I p2) :: (.dat 2 ((p3 : List GHour).map Qad)) :: (.own 1 1 (0) (p4)) :: (.own 2 1 (0) (p5)) :: (arrF 24 p6 ++ arrF 24 p7))]))] (.ref 0 53 0 0), rb [(.tmp 8, .ref 0 53 0 0)] [(0, (.own 53 [((I p1) :: (I p2) :: (.dat 2 ((p3 : List GHour).map Qad)) :: (.own 1 1 (0) (p4)) :: (.own 2 1 (0) (p5)) :: (arrF 24 p6 ++ arrF 24 p7))]))] (.ref 0 53 0 5), rb [(.tmp 9, .ref 0 53 0 5), (.tmp 7, I p0)] [(0, (.own 53 [((I p1) :: (I p2) :: (.dat 2 ((p3 : List GHour).map Qad)) :: (.own 1 1 (0) (p4)) :: (.own 2 1 (0) (p5)) :: (arrF 24 p6 ++ arrF 24 p7))]))] (.ref 0 53 0 (5 + p0.toNat * 1)), rb [(.tmp 10, (.ref 0 53 0 (5 + p0.toNat * 1)))] [(0, (.own 53 [((I p1) :: (I p2) :: (.dat 2 ((p3 : List GHour).map Qad)) :: (.own 1 1 (0) (p4)) :: (.own 2 1 (0) (p5)) :: (arrF 24 p6 ++ arrF 24 p7))]))] (I (p6 p0.toNat)), mv 0 (.ref 0 53 0 0), rb [(.tmp 12, .ref 0 53 0 0)] [(0, (.own 53 [((I p1) :: (I p2) :: (.dat 2 ((p3 : List GHour).map Qad)) :: (.own 1 1 (0) (p4)) :: (.own 2 1 (0) (p5)) :: (arrF 24 p6 ++ arrF 24 p7))]))] (.ref 0 53 0 0), rb [(.tmp 13, .ref 0 53 0 0)] [(0, (.own 53 [((I p1) :: (I p2) :: (.dat 2 ((p3 : List GHour).map Qad)) :: (.own 1 1 (0) (p4)) :: (.own 2 1 (0) (p5)) :: (arrF 24 p6 ++ arrF 24 p7))]))] (.ref 0 53 0 0), rb [(.tmp 14, .ref 0 53 0 0)] [(0, (.own 53 [((I p1) :: (I p2) :: (.dat 2 ((p3 : List GHour).map Qad)) :: (.own 1 1 (0) (p4)) :: (.own 2 1 (0) (p5)) :: (arrF 24 p6 ++ arrF 24 p7))]))] (.ref 0 53 0 2), rb [(.tmp 15, .ref 0 53 0 2)] [(0, (.own 53 [((I p1) :: (I p2) :: (.dat 2 ((p3 : List GHour).map Qad)) :: (.own 1 1 (0) (p4)) :: (.own 2 1 (0) (p5)) :: (arrF 24 p6 ++ arrF 24 p7))]))] (.dat 2 ((p3 : List GHour).map Qad)), mv 1 (I p0), rp [(.tmp 16, (.dat 2 ((p3 : List GHour).map Qad))), (.tmp 17, I p0)] (.dptr (Qad (x5)) 0), rp [(.tmp 18, (.dptr (Qad (x5)) 0))] (.dptr (Qad (x5)) 1), rp [(.tmp 19, (.dptr (Qad (x5)) 1))] (.dat 2 ((x5.Stairs : List GStair).map Qah)), rp [(.tmp 20, (.dat 2 ((x5.Stairs : List GStair).map Qah)))] (I ((x5.Stairs.length : Int))), rp [(.tmp 11, I (p6 p0.toNat)), (.tmp 21, (I ((x5.Stairs.length : Int))))] (B (((p6 p0.toNat) == (x5.Stairs.length : Int))))] ?_ ?_
  ·exact ⟨amv rfl, amv rfl, Qci rfl, afa rfl Try.underlying152 rfl rfl Qis (by decide) rfl, Qek rfl Try.underlying150 ti3 (odt hi4a) (odt hi4b) rfl, ald rfl ti3 (by decide) rfl (Qhi (n := 24) (odt hi4b) (nle rfl)) (Qjf (pre := [I p1, I p2, (.dat 2 ((p3 : List GHour).map Qad)), (.own 1 1 (0) (p4)), (.own 2 1 (0) (p5))]) (post := arrF 24 p7) (n := 24) (f := p6) (by kernel_rfl) rfl (odt hi4b)), amv rfl, Qci rfl, afa rfl Try.underlying152 rfl rfl ti47 (by decide) rfl, afa rfl Try.underlying47 rfl rfl ti45 (by decide) rfl, ald rfl ti45 (by decide) rfl (nle rfl) rfl, amv rfl, aid rfl Try.underlying45 ti62 rfl rfl hi7 (mgt Qad hj8) rfl, afd rfl Try.underlying62 rfl rfl ti60 (by decide) rfl, ald_ rfl ti60 (by decide) (nle rfl) rfl, alm (c := Qah) (l := x5.Stairs) (aln rfl Try.underlying60 rfl), abn rfl rfl, trivial⟩
  rcases bft (((p6 p0.toNat) == (x5.Stairs.length : Int))) with hc9 | hc9
  ·replace h := Qav hc9 h
   refine wft hc9 (by kernel_rfl) ?_
   refine wrg [rp [] (.agg [I 0, I 0]), ⟨[(.tmp 4, .ref 3 2 0 0), (.tmp 23, (.agg [I 0, I 0]))], [(3, .own 2 [[I 0, I 0]])], .any, [(3, .own 2 [[I 0, I 0]])], false⟩, mc (.bool false)] ?_ ?_
   ·exact ⟨Qa9 (vs := []) rfl ts64 tz64 rfl (by rfl) rfl, ast rfl ti64 (by rfl) rfl (nle rfl) rfl, aas rfl, trivial⟩
   refine wmr (mto (n := 49) (l' := [(4, .ref 3 2 0 0), (5, B false)]) (own' := [(.own 53 [((I p1) :: (I p2) :: (.dat 2 ((p3 : List GHour).map Qad)) :: (.own 1 1 (0) (p4)) :: (.own 2 1 (0) (p5)) :: (arrF 24 p6 ++ arrF 24 p7))]), (.own 1 ((p8 : List Int).map Qac)), (.own 1 ((p9 : List Int).map Qac)), (.own 2 [[I 0, I 0]])]) [(4, .ref 3 2 0 0), (5, B false)] [0, 1, 2, 3] [(.own 53 [((I p1) :: (I p2) :: (.dat 2 ((p3 : List GHour).map Qad)) :: (.own 1 1 (0) (p4)) :: (.own 2 1 (0) (p5)) :: (arrF 24 p6 ++ arrF 24 p7))]), (.own 1 ((p8 : List Int).map Qac)), (.own 1 ((p9 : List Int).map Qac)), (.own 2 [[I 0, I 0]])] hφ0 (pc (.rn (rqr rfl)) (pc rwl pn)) (qc (spb (lc rwl (lc rwl (lc (.rn (.plain _ (nld Qas _))) (lc (.rn (Qaj rfl)) (lc (.rn (Qaj rfl)) (Qck (Qa6 fun _ => rwl) (Qa6 fun _ => rwl)))))))) (qc (spr Qaf) (qc (spr Qaf) (qc (spb (lc rwl (lc rwl ln))) qn))))) ?_
   refine Qak ?_
   refine Qao ?_
   obtain rfl := osi h
   exact ⟨_, Mor.rfl, Qc0 (vs := [(.agg [I 0, I 0]), B false]) ⟨Qds (n := 3) (m := 2) (j := 0) (i := 0) (xs := [[I 0, I 0]]) (by kernel_rfl) (by kernel_rfl) ti64 (by decide) rfl (nle rfl) rfl, rot (by kernel_rfl), trivial⟩ rfl (NLt.tup _ (nlc (NLt.of0 (NLt.agg _ (nlc nll (nlc nll nl0)))) (nlc (NLt.of0 nll) nl0))) (by kernel_rfl) (Qay (Qb2 (nlc (NLt.of0 nll) (nlc (NLt.of0 nll) (nlc (NLt.of0 (nld Qas _)) (nlc (NLt.own _ _ _ _ (by decide)) (nlc (NLt.own _ _ _ _ (by decide)) (Qeu Qdg Qdg))))))) (Qay (Qd0 Qaf _) (Qay (Qd0 Qaf _) (Qay (Qb2 (nlc (NLt.of0 nll) (nlc (NLt.of0 nll) nl0))) Qbx))))⟩
  ·replace h := Qaw hc9 h
   refine wfn hc9 (by kernel_rfl) ?_
   refine Qam ?_
   refine thn ?_
   obtain ⟨hi10, h⟩ := cko h
   obtain ⟨hi10a, hi10b⟩ := Qba hi10
   obtain ⟨hi11, h⟩ := cko h
   obtain ⟨hi11a, hi11b⟩ := Qba hi11
   obtain ⟨x12, hg13, h⟩ := bno h
   obtain ⟨hi14, hj15⟩ := gsm hg13
   refine Qct [mv 0 (.ref 0 53 0 0), mv 1 (I p0), rb [(.tmp 24, .ref 0 53 0 0)] [(0, (.own 53 [((I p1) :: (I p2) :: (.dat 2 ((p3 : List GHour).map Qad)) :: (.own 1 1 (0) (p4)) :: (.own 2 1 (0) (p5)) :: (arrF 24 p6 ++ arrF 24 p7))]))] (.ref 0 53 0 0), rb [(.tmp 26, .ref 0 53 0 0)] [(0, (.own 53 [((I p1) :: (I p2) :: (.dat 2 ((p3 : List GHour).map Qad)) :: (.own 1 1 (0) (p4)) :: (.own 2 1 (0) (p5)) :: (arrF 24 p6 ++ arrF 24 p7))]))] (.ref 0 53 0 29), rb [(.tmp 27, .ref 0 53 0 29), (.tmp 25, I p0)] [(0, (.own 53 [((I p1) :: (I p2) :: (.dat 2 ((p3 : List GHour).map Qad)) :: (.own 1 1 (0) (p4)) :: (.own 2 1 (0) (p5)) :: (arrF 24 p6 ++ arrF 24 p7))]))] (.ref 0 53 0 (29 + p0.toNat * 1)), rb [(.tmp 28, (.ref 0 53 0 (29 + p0.toNat * 1)))] [(0, (.own 53 [((I p1) :: (I p2) :: (.dat 2 ((p3 : List GHour).map Qad)) :: (.own 1 1 (0) (p4)) :: (.own 2 1 (0) (p5)) :: (arrF 24 p6 ++ arrF 24 p7))]))] (I (p7 p0.toNat)), mv 0 (.ref 0 53 0 0), rb [(.tmp 30, .ref 0 53 0 0)] [(0, (.own 53 [((I p1) :: (I p2) :: (.dat 2 ((p3 : List GHour).map Qad)) :: (.own 1 1 (0) (p4)) :: (.own 2 1 (0) (p5)) :: (arrF 24 p6 ++ arrF 24 p7))]))] (.ref 0 53 0 0), rb [(.tmp 31, .ref 0 53 0 0)] [(0, (.own 53 [((I p1) :: (I p2) :: (.dat 2 ((p3 : List GHour).map Qad)) :: (.own 1 1 (0) (p4)) :: (.own 2 1 (0) (p5)) :: (arrF 24 p6 ++ arrF 24 p7))]))] (.ref 0 53 0 0), rb [(.tmp 32, .ref 0 53 0 0)] [(0, (.own 53 [((I p1) :: (I p2) :: (.dat 2 ((p3 : List GHour).map Qad)) :: (.own 1 1 (0) (p4)) :: (.own 2 1 (0) (p5)) :: (arrF 24 p6 ++ arrF 24 p7))]))] (.ref 0 53 0 2), rb [(.tmp 33, .ref 0 53 0 2)] [(0, (.own 53 [((I p1) :: (I p2) :: (.dat 2 ((p3 : List GHour).map Qad)) :: (.own 1 1 (0) (p4)) :: (.own 2 1 (0) (p5)) :: (arrF 24 p6 ++ arrF 24 p7))]))] (.dat 2 ((p3 : List GHour).map Qad)), mv 1 (I p0), rp [(.tmp 34, (.dat 2 ((p3 : List GHour).map Qad))), (.tmp 35, I p0)] (.dptr (Qad (x5)) 0), rp [(.tmp 36, (.dptr (Qad (x5)) 0))] (.dptr (Qad (x5)) 1), rp [(.tmp 37, (.dptr (Qad (x5)) 1))] (.dat 2 ((x5.Stairs : List GStair).map Qah)), mv 0 (.ref 0 53 0 0), mv 1 (I p0), rb [(.tmp 39, .ref 0 53 0 0)] [(0, (.own 53 [((I p1) :: (I p2) :: (.dat 2 ((p3 : List GHour).map Qad)) :: (.own 1 1 (0) (p4)) :: (.own 2 1 (0) (p5)) :: (arrF 24 p6 ++ arrF 24 p7))]))] (.ref 0 53 0 0), rb [(.tmp 41, .ref 0 53 0 0)] [(0, (.own 53 [((I p1) :: (I p2) :: (.dat 2 ((p3 : List GHour).map Qad)) :: (.own 1 1 (0) (p4)) :: (.own 2 1 (0) (p5)) :: (arrF 24 p6 ++ arrF 24 p7))]))] (.ref 0 53 0 5), rb [(.tmp 42, .ref 0 53 0 5), (.tmp 40, I p0)] [(0, (.own 53 [((I p1) :: (I p2) :: (.dat 2 ((p3 : List GHour).map Qad)) :: (.own 1 1 (0) (p4)) :: (.own 2 1 (0) (p5)) :: (arrF 24 p6 ++ arrF 24 p7))]))] (.ref 0 53 0 (5 + p0.toNat * 1)), rb [(.tmp 43, (.ref 0 53 0 (5 + p0.toNat * 1)))] [(0, (.own 53 [((I p1) :: (I p2) :: (.dat 2 ((p3 : List GHour).map Qad)) :: (.own 1 1 (0) (p4)) :: (.own 2 1 (0) (p5)) :: (arrF 24 p6 ++ arrF 24 p7))]))] (I (p6 p0.toNat)), rp [(.tmp 38, (.dat 2 ((x5.Stairs : List GStair).map Qah))), (.tmp 44, I (p6 p0.toNat))] (.dptr (Qah (x12)) 0), rp [(.tmp 45, (.dptr (Qah (x12)) 0))] (.dptr (Qah (x12)) 1), rp [(.tmp 46, (.dptr (Qah (x12)) 1))] (I x12.Price), rp [(.tmp 29, I (p7 p0.toNat)), (.tmp 47, I x12.Price)] (.agg [I (p7 p0.toNat), I x12.Price]), ⟨[(.tmp 4, .ref 3 2 0 0), (.tmp 48, (.agg [I (p7 p0.toNat), I x12.Price]))], [(3, .own 2 [[I 0, I 0]])], .any, [(3, (.own 2 [[I (p7 p0.toNat), I x12.Price]]))], false⟩, mc (.bool true)] ?_ ?_
   ·exact ⟨amv rfl, amv rfl, Qci rfl, afa rfl Try.underlying152 rfl rfl Qis (by decide) rfl, Qek rfl Try.underlying150 ti3 (odt hi10a) (odt hi10b) rfl, ald rfl ti3 (by decide) rfl (Qhi (n := 24) (odt hi10b) (nle rfl)) (Qjf (pre := ((I p1) :: (I p2) :: (.dat 2 ((p3 : List GHour).map Qad)) :: (.own 1 1 (0) (p4)) :: (.own 2 1 (0) (p5)) :: arrF 24 p6)) (post := []) (n := 24) (f := p7) (by kernel_rfl) rfl (odt hi10b)), amv rfl, Qci rfl, afa rfl Try.underlying152 rfl rfl ti47 (by decide) rfl, afa rfl Try.underlying47 rfl rfl ti45 (by decide) rfl, ald rfl ti45 (by decide) rfl (nle rfl) rfl, amv rfl, aid rfl Try.underlying45 ti62 rfl rfl hi7 (mgt Qad hj8) rfl, afd rfl Try.underlying62 rfl rfl ti60 (by decide) rfl, ald_ rfl ti60 (by decide) (nle rfl) rfl, amv rfl, amv rfl, Qci rfl, afa rfl Try.underlying152 rfl rfl Qis (by decide) rfl, Qek rfl Try.underlying150 ti3 (odt hi11a) (odt hi11b) rfl, ald rfl ti3 (by decide) rfl (Qhi (n := 24) (odt hi11b) (nle rfl)) (Qjf (pre := [I p1, I p2, (.dat 2 ((p3 : List GHour).map Qad)), (.own 1 1 (0) (p4)), (.own 2 1 (0) (p5))]) (post := arrF 24 p7) (n := 24) (f := p6) (by kernel_rfl) rfl (odt hi11b)), aid rfl Try.underlying60 ti64 rfl rfl hi14 (mgt Qah hj15) rfl, afd rfl Try.underlying64 rfl rfl ti3 (by decide) rfl, ald_ rfl ti3 (by decide) (nle rfl) rfl, Qa9 (vs := [I (p7 p0.toNat), I x12.Price]) rfl ts64 tz64 rfl (by rfl) rfl, ast rfl ti64 (by rfl) rfl (nle rfl) rfl, aas rfl, trivial⟩
   refine wmr (mto (n := 49) (l' := [(4, .ref 3 2 0 0), (5, B true)]) (own' := [(.own 53 [((I p1) :: (I p2) :: (.dat 2 ((p3 : List GHour).map Qad)) :: (.own 1 1 (0) (p4)) :: (.own 2 1 (0) (p5)) :: (arrF 24 p6 ++ arrF 24 p7))]), (.own 1 ((p8 : List Int).map Qac)), (.own 1 ((p9 : List Int).map Qac)), (.own 2 [[(I ((p7 p0.toNat))), I x12.Price]])]) [(4, .ref 3 2 0 0), (5, B true)] [0, 1, 2, 3] [(.own 53 [((I p1) :: (I p2) :: (.dat 2 ((p3 : List GHour).map Qad)) :: (.own 1 1 (0) (p4)) :: (.own 2 1 (0) (p5)) :: (arrF 24 p6 ++ arrF 24 p7))]), (.own 1 ((p8 : List Int).map Qac)), (.own 1 ((p9 : List Int).map Qac)), (.own 2 [[I (p7 p0.toNat), I x12.Price]])] hφ0 (pc (.rn (rqr rfl)) (pc rwl pn)) (qc (spb (lc rwl (lc rwl (lc (.rn (.plain _ (nld Qas _))) (lc (.rn (Qaj rfl)) (lc (.rn (Qaj rfl)) (Qck (Qa6 fun _ => rwl) (Qa6 fun _ => rwl)))))))) (qc (spr Qaf) (qc (spr Qaf) (qc (spb (lc rwl (lc rwl ln))) qn))))) ?_
   refine Qak ?_
   obtain rfl := osi h
   exact ⟨_, Mor.rfl, Qc0 (vs := [(.agg [I (p7 p0.toNat), I x12.Price]), B true]) ⟨Qds (n := 3) (m := 2) (j := 0) (i := 0) (xs := [[I (p7 p0.toNat), I x12.Price]]) (by kernel_rfl) (by kernel_rfl) ti64 (by decide) rfl (nle rfl) rfl, rot (by kernel_rfl), trivial⟩ rfl (NLt.tup _ (nlc (NLt.of0 (NLt.agg _ (nlc nll (nlc nll nl0)))) (nlc (NLt.of0 nll) nl0))) (by kernel_rfl) (Qay (Qb2 (nlc (NLt.of0 nll) (nlc (NLt.of0 nll) (nlc (NLt.of0 (nld Qas _)) (nlc (NLt.own _ _ _ _ (by decide)) (nlc (NLt.own _ _ _ _ (by decide)) (Qeu Qdg Qdg))))))) (Qay (Qd0 Qaf _) (Qay (Qd0 Qaf _) (Qay (Qb2 (nlc (NLt.of0 nll) (nlc (NLt.of0 nll) nl0))) Qbx))))⟩

def Qdh (N : Nat) (p0 : Int) (p1 : Int) (p2 : Int) (x6 : Int) (p7 : Nat) (p10 : (List Int)) (y13 : (Nat → Int)) (y14 : (Nat → Int)) : Nat → Int → (List Int) → Option ((Nat → Int) × (Nat → Int) × (List Int) × (List Int))
  | 0, _, _ => none
  | n20 + 1, y16, y17 =>
    bif (decide (y16 < p1)) then
     chk (decide (0 ≤ y16) && decide (y16.toNat < p7)) <|
     (y17[y16.toNat]?).bind fun x23 =>
     chk (decide (0 ≤ y16) && decide (y16.toNat < p7)) <|
     (y17[y16.toNat]?).bind fun _ =>
     Qdh N p0 p1 p2 x6 p7 p10 y13 y14 n20 (w64 (y16 + 1)) (y17.set y16.toNat (w64 (x23 + p2)))
    else
     some (y13, y14, p10.set p0.toNat (w64 (x6 + p2)), y17)
def Qfz (N : Nat) (p0 : Int) (p1 : Int) (p2 : Int) (_p3 : Int) (_p4 : Int) (p5 : (List GHour)) (p6 : Nat) (p7 : Nat) (p8 : (Nat → Int)) (p9 : (Nat → Int)) (p10 : (List Int)) (p11 : (List Int)) : Option ((Nat → Int) × (Nat → Int) × (List Int) × (List Int)) :=
  chk (decide (0 ≤ p0) && decide (p0.toNat < p6)) <|
  (p10[p0.toNat]?).bind fun x6 =>
  chk (decide (0 ≤ p0) && decide (p0.toNat < p6)) <|
  (p10[p0.toNat]?).bind fun _ =>
  chk (decide (0 ≤ p0) && decide (p0.toNat < 24)) <|
  chk (decide (0 ≤ p0) && decide (p0.toNat < 24)) <|
  Qca (fun ⟨y13, y14⟩ =>
    Qdh N p0 p1 p2 x6 p7 p10 y13 y14 N p0 p11) fun k15 : (Nat → Int) × (Nat → Int) → Option ((Nat → Int) × (Nat → Int) × (List Int) × (List Int)) =>
  chk (decide (0 ≤ p0) && decide (p0.toNat < 24)) <|
  bif (((setF p9 p0.toNat (w64 ((p9 p0.toNat) - p2))) p0.toNat) == 0) then
   chk (decide (0 ≤ p0) && decide (p0.toNat < 24)) <|
   chk (decide (0 ≤ p0) && decide (p0.toNat < 24)) <|
   (getI p5 p0).bind fun x32 =>
   chk (decide (0 ≤ p0) && decide (p0.toNat < 24)) <|
   bif (decide (((setF p8 p0.toNat (w64 ((p8 p0.toNat) + 1))) p0.toNat) < (x32.Stairs.length : Int))) then
    chk (decide (0 ≤ p0) && decide (p0.toNat < 24)) <|
    (getI x32.Stairs ((setF p8 p0.toNat (w64 ((p8 p0.toNat) + 1))) p0.toNat)).bind fun x39 =>
    chk (decide (0 ≤ p0) && decide (p0.toNat < 24)) <|
    k15 (setF p8 p0.toNat (w64 ((p8 p0.toNat) + 1)), setF (setF p9 p0.toNat (w64 ((p9 p0.toNat) - p2))) p0.toNat x39.Amount)
   else
    k15 (setF p8 p0.toNat (w64 ((p8 p0.toNat) + 1)), setF p9 p0.toNat (w64 ((p9 p0.toNat) - p2)))
  else
   k15 (p8, setF p9 p0.toNat (w64 ((p9 p0.toNat) - p2)))
set_option maxRecDepth 100000 in
set_option maxHeartbeats 4000000 in
theorem Qhw (N : Nat) (p0 : Int) (p1 : Int) (p2 : Int) (p3 : Int) (p4 : Int) (p5 : (List GHour)) (p6 : Nat) (p7 : Nat) (p8 : (Nat → Int)) (p9 : (Nat → Int)) (p10 : (List Int)) (p11 : (List Int)) (r : ((Nat → Int) × (Nat → Int) × (List Int) × (List Int))) (h : Qfz N p0 p1 p2 p3 p4 p5 p6 p7 p8 p9 p10 p11 = some r) : Spec Try.prog 103 [(.ref 0 53 (0) 0), (I (p0)), (I (p1)), (I (p2))] [(.own 53 [((I (p3)) :: (I (p4)) :: (.dat 2 ((p5 : List GHour).map Qad)) :: (.own 1 1 (0) (p6)) :: (.own 2 1 (0) (p7)) :: (arrF 24 p8 ++ arrF 24 p9))]), (.own 1 ((p10 : List Int).map Qac)), (.own 1 ((p11 : List Int).map Qac))] (.tup []) [(.own 53 [((I (p3)) :: (I (p4)) :: (.dat 2 ((p5 : List GHour).map Qad)) :: (.own 1 1 (0) (p6)) :: (.own 2 1 (0) (p7)) :: (arrF 24 r.1 ++ arrF 24 r.2.1))]), (.own 1 ((r.2.2.1 : List Int).map Qac)), (.own 1 ((r.2.2.2 : List Int).map Qac))] := by
  refine Qaq Try.func103 rfl 3 (nle rfl) (fun X φ0 w0 hφ0 => ?_)
  unfold Qfz at h
  refine Qc1 ?_
  obtain ⟨hi5, h⟩ := cko h
  obtain ⟨hi5a, hi5b⟩ := Qba hi5
  obtain ⟨x6, hg7, h⟩ := bno h
  obtain ⟨hi8, h⟩ := cko h
  obtain ⟨hi8a, hi8b⟩ := Qba hi8
  obtain ⟨x9, hg10, h⟩ := bno h
  refine wrg [mv 0 (.ref 0 53 0 0), rb [(.tmp 10, .ref 0 53 0 0)] [(0, (.own 53 [((I p3) :: (I p4) :: (.dat 2 ((p5 : List GHour).map Qad)) :: (.own 1 1 (0) (p6)) :: (.own 2 1 (0) (p7)) :: (arrF 24 p8 ++ arrF 24 p9))]))] (.ref 0 53 0 0), rb [(.tmp 11, .ref 0 53 0 0)] [(0, (.own 53 [((I p3) :: (I p4) :: (.dat 2 ((p5 : List GHour).map Qad)) :: (.own 1 1 (0) (p6)) :: (.own 2 1 (0) (p7)) :: (arrF 24 p8 ++ arrF 24 p9))]))] (.ref 0 53 0 3), rb [(.tmp 12, .ref 0 53 0 3)] [(0, (.own 53 [((I p3) :: (I p4) :: (.dat 2 ((p5 : List GHour).map Qad)) :: (.own 1 1 (0) (p6)) :: (.own 2 1 (0) (p7)) :: (arrF 24 p8 ++ arrF 24 p9))]))] (.own 1 1 (0) (p6)), mv 1 (I p0), rb [(.tmp 13, (.own 1 1 (0) (p6))), (.tmp 14, I p0)] [(1, (.own 1 ((p10 : List Int).map Qac)))] (.ref 1 1 (p0.toNat) 0), rb [(.tmp 15, (.ref 1 1 (p0.toNat) 0))] [(1, (.own 1 ((p10 : List Int).map Qac)))] (I x6), mv 3 (I p2), rp [(.tmp 16, I x6), (.tmp 17, I p2)] (I (w64 (x6 + p2))), rb [(.tmp 13, (.own 1 1 (0) (p6))), (.tmp 14, I p0)] [(1, (.own 1 ((p10 : List Int).map Qac)))] (.ref 1 1 (p0.toNat) 0), ⟨[(.tmp 19, (.ref 1 1 (p0.toNat) 0)), (.tmp 18, (I (w64 (x6 + p2))))], [(1, (.own 1 ((p10 : List Int).map Qac)))], .any, [(1, (.own 1 ((p10.set p0.toNat (w64 (x6 + p2)) : List Int).map Qac)))], false⟩] ?_ ?_
  ·exact ⟨amv rfl, Qci rfl, afa rfl Try.underlying152 rfl rfl ti23 (by decide) rfl, ald rfl ti23 (by decide) rfl (nle rfl) rfl, amv rfl, aio rfl Try.underlying23 ti3 (odt hi5a) (odt hi5b) (Nat.zero_add _), ald rfl ti3 (by decide) (mgt Qac hg7) (nle rfl) rfl, amv rfl, abn rfl rfl, aio rfl Try.underlying23 ti3 (odt hi8a) (odt hi8b) (Nat.zero_add _), ast rfl ti3 (by rfl) (mgt Qac hg10) (nle rfl) (Qei Qac rfl), trivial⟩
  obtain ⟨hi11, h⟩ := cko h
  obtain ⟨hi11a, hi11b⟩ := Qba hi11
  obtain ⟨hi12, h⟩ := cko h
  obtain ⟨hi12a, hi12b⟩ := Qba hi12
  refine Qct [mv 0 (.ref 0 53 0 0), mv 1 (I p0), rb [(.tmp 20, .ref 0 53 0 0)] [(0, (.own 53 [((I p3) :: (I p4) :: (.dat 2 ((p5 : List GHour).map Qad)) :: (.own 1 1 (0) (p6)) :: (.own 2 1 (0) (p7)) :: (arrF 24 p8 ++ arrF 24 p9))]))] (.ref 0 53 0 0), rb [(.tmp 22, .ref 0 53 0 0)] [(0, (.own 53 [((I p3) :: (I p4) :: (.dat 2 ((p5 : List GHour).map Qad)) :: (.own 1 1 (0) (p6)) :: (.own 2 1 (0) (p7)) :: (arrF 24 p8 ++ arrF 24 p9))]))] (.ref 0 53 0 29), rb [(.tmp 23, .ref 0 53 0 29), (.tmp 21, I p0)] [(0, (.own 53 [((I p3) :: (I p4) :: (.dat 2 ((p5 : List GHour).map Qad)) :: (.own 1 1 (0) (p6)) :: (.own 2 1 (0) (p7)) :: (arrF 24 p8 ++ arrF 24 p9))]))] (.ref 0 53 0 (29 + p0.toNat * 1)), rb [(.tmp 24, (.ref 0 53 0 (29 + p0.toNat * 1)))] [(0, (.own 53 [((I p3) :: (I p4) :: (.dat 2 ((p5 : List GHour).map Qad)) :: (.own 1 1 (0) (p6)) :: (.own 2 1 (0) (p7)) :: (arrF 24 p8 ++ arrF 24 p9))]))] (I (p9 p0.toNat)), mv 3 (I p2), rp [(.tmp 25, I (p9 p0.toNat)), (.tmp 26, I p2)] (I (w64 ((p9 p0.toNat) - p2))), rb [(.tmp 20, .ref 0 53 0 0)] [(0, (.own 53 [((I p3) :: (I p4) :: (.dat 2 ((p5 : List GHour).map Qad)) :: (.own 1 1 (0) (p6)) :: (.own 2 1 (0) (p7)) :: (arrF 24 p8 ++ arrF 24 p9))]))] (.ref 0 53 0 0), rb [(.tmp 28, .ref 0 53 0 0)] [(0, (.own 53 [((I p3) :: (I p4) :: (.dat 2 ((p5 : List GHour).map Qad)) :: (.own 1 1 (0) (p6)) :: (.own 2 1 (0) (p7)) :: (arrF 24 p8 ++ arrF 24 p9))]))] (.ref 0 53 0 29), rb [(.tmp 29, .ref 0 53 0 29), (.tmp 21, I p0)] [(0, (.own 53 [((I p3) :: (I p4) :: (.dat 2 ((p5 : List GHour).map Qad)) :: (.own 1 1 (0) (p6)) :: (.own 2 1 (0) (p7)) :: (arrF 24 p8 ++ arrF 24 p9))]))] (.ref 0 53 0 (29 + p0.toNat * 1)), ⟨[(.tmp 30, (.ref 0 53 0 (29 + p0.toNat * 1))), (.tmp 27, (I (w64 ((p9 p0.toNat) - p2))))], [(0, (.own 53 [((I p3) :: (I p4) :: (.dat 2 ((p5 : List GHour).map Qad)) :: (.own 1 1 (0) (p6)) :: (.own 2 1 (0) (p7)) :: (arrF 24 p8 ++ arrF 24 p9))]))], .any, [(0, (.own 53 [((I p3) :: (I p4) :: (.dat 2 ((p5 : List GHour).map Qad)) :: (.own 1 1 (0) (p6)) :: (.own 2 1 (0) (p7)) :: (arrF 24 p8 ++ arrF 24 (setF p9 p0.toNat (w64 ((p9 p0.toNat) - p2)))))]))], false⟩] ?_ ?_
  ·exact ⟨amv rfl, amv rfl, Qci rfl, afa rfl Try.underlying152 rfl rfl Qis (by decide) rfl, Qek rfl Try.underlying150 ti3 (odt hi11a) (odt hi11b) rfl, ald rfl ti3 (by decide) rfl (Qhi (n := 24) (odt hi11b) (nle rfl)) (Qjf (pre := ((I p3) :: (I p4) :: (.dat 2 ((p5 : List GHour).map Qad)) :: (.own 1 1 (0) (p6)) :: (.own 2 1 (0) (p7)) :: arrF 24 p8)) (post := []) (n := 24) (f := p9) (by kernel_rfl) rfl (odt hi11b)), amv rfl, abn rfl rfl, Qci rfl, afa rfl Try.underlying152 rfl rfl Qis (by decide) rfl, Qek rfl Try.underlying150 ti3 (odt hi12a) (odt hi12b) rfl, ast rfl ti3 (by rfl) rfl (Qhi (n := 24) (odt hi12b) (nle rfl)) (st_arr (pre := ((I p3) :: (I p4) :: (.dat 2 ((p5 : List GHour).map Qad)) :: (.own 1 1 (0) (p6)) :: (.own 2 1 (0) (p7)) :: arrF 24 p8)) (post := []) (n := 24) (f := p9) (by kernel_rfl) rfl (by kernel_rfl) (odt hi12b)), trivial⟩
  obtain ⟨k15, hk_k15, h⟩ := jko h
  refine wjn (τ := (Nat → Int) × (Nat → Int)) (fun t => k15 t = some r) (fun ⟨y13, y14⟩ => ⟨mk 97 [(0, .ref 0 53 0 0), (1, I p0), (2, I p1), (3, I p2)], [(.own 53 [((I p3) :: (I p4) :: (.dat 2 ((p5 : List GHour).map Qad)) :: (.own 1 1 (0) (p6)) :: (.own 2 1 (0) (p7)) :: (arrF 24 y13 ++ arrF 24 y14))]), (.own 1 ((p10.set p0.toNat (w64 (x6 + p2)) : List Int).map Qac)), (.own 1 ((p11 : List Int).map Qac))]⟩) (fun t h => ?_) ?_
  ·subst hk_k15
   obtain ⟨y13, y14⟩ := t
   refine wrg [mv 1 (I p0), mv 81 (I p0)] ?_ ?_
   ·exact ⟨amv rfl, aas rfl, trivial⟩
   refine Qan ?_
   refine wmr (mto (n := 97) (l' := [(0, .ref 0 53 0 0), (2, I p1), (3, I p2), (9, I p0)]) (own' := [(.own 53 [((I p3) :: (I p4) :: (.dat 2 ((p5 : List GHour).map Qad)) :: (.own 1 1 (0) (p6)) :: (.own 2 1 (0) (p7)) :: (arrF 24 y13 ++ arrF 24 y14))]), (.own 1 ((p10.set p0.toNat (w64 (x6 + p2)) : List Int).map Qac)), (.own 1 ((p11 : List Int).map Qac))]) [(0, .ref 0 53 0 0), (2, I p1), (3, I p2), (9, I p0)] [0, 1, 2] [(.own 53 [((I p3) :: (I p4) :: (.dat 2 ((p5 : List GHour).map Qad)) :: (.own 1 1 (0) (p6)) :: (.own 2 1 (0) (p7)) :: (arrF 24 y13 ++ arrF 24 y14))]), (.own 1 ((p10.set p0.toNat (w64 (x6 + p2)) : List Int).map Qac)), (.own 1 ((p11 : List Int).map Qac))] hφ0 (pc (.rn (rqr rfl)) (pc rwl (pc rwl (pc rwl pn)))) (qc (spb (lc rwl (lc rwl (lc (.rn (.plain _ (nld Qas _))) (lc (.rn (Qaj rfl)) (lc (.rn (Qaj rfl)) (Qck (Qa6 fun _ => rwl) (Qa6 fun _ => rwl)))))))) (qc (spr Qaf) (qc (spr Qaf) qn)))) ?_
   refine Qcc (τ := Int × (List Int)) (fun n t => Qdh N p0 p1 p2 x6 p7 p10 y13 y14 n t.1 t.2 = some r) (fun ⟨y16, y17⟩ => ⟨mk 97 [(0, .ref 0 53 0 0), (2, I p1), (3, I p2), (9, I y16)], [(.own 53 [((I p3) :: (I p4) :: (.dat 2 ((p5 : List GHour).map Qad)) :: (.own 1 1 (0) (p6)) :: (.own 2 1 (0) (p7)) :: (arrF 24 y13 ++ arrF 24 y14))]), (.own 1 ((p10.set p0.toNat (w64 (x6 + p2)) : List Int).map Qac)), (.own 1 ((y17 : List Int).map Qac))]⟩) (fun t h => by rw [Qdh] at h; cases h) (fun n20 ih t h => ?_) N (p0, p11) h
   obtain ⟨y16, y17⟩ := t
   rw [Qdh] at h
   skip
   refine wsq ?_
   refine wrg [mv 9 (I y16), mv 2 (I p1), rp [(.tmp 82, I y16), (.tmp 83, I p1)] (B ((decide (y16 < p1))))] ?_ ?_
   ·exact ⟨amv rfl, amv rfl, abn rfl rfl, trivial⟩
   rcases bft ((decide (y16 < p1))) with hc21 | hc21
   ·replace h := Qav hc21 h
    refine wft hc21 (by kernel_rfl) ?_
    refine Qam ?_
    refine thn ?_
    refine wsq ?_
    refine Qan ?_
    obtain ⟨hi22, h⟩ := cko h
    obtain ⟨hi22a, hi22b⟩ := Qba hi22
    obtain ⟨x23, hg24, h⟩ := bno h
    obtain ⟨hi25, h⟩ := cko h
    obtain ⟨hi25a, hi25b⟩ := Qba hi25
    obtain ⟨x26, hg27, h⟩ := bno h
    refine Qar [mv 0 (.ref 0 53 0 0), rb [(.tmp 87, .ref 0 53 0 0)] [(0, (.own 53 [((I p3) :: (I p4) :: (.dat 2 ((p5 : List GHour).map Qad)) :: (.own 1 1 (0) (p6)) :: (.own 2 1 (0) (p7)) :: (arrF 24 y13 ++ arrF 24 y14))]))] (.ref 0 53 0 0), rb [(.tmp 88, .ref 0 53 0 0)] [(0, (.own 53 [((I p3) :: (I p4) :: (.dat 2 ((p5 : List GHour).map Qad)) :: (.own 1 1 (0) (p6)) :: (.own 2 1 (0) (p7)) :: (arrF 24 y13 ++ arrF 24 y14))]))] (.ref 0 53 0 4), rb [(.tmp 89, .ref 0 53 0 4)] [(0, (.own 53 [((I p3) :: (I p4) :: (.dat 2 ((p5 : List GHour).map Qad)) :: (.own 1 1 (0) (p6)) :: (.own 2 1 (0) (p7)) :: (arrF 24 y13 ++ arrF 24 y14))]))] (.own 2 1 (0) (p7)), mv 9 (I y16), rb [(.tmp 90, (.own 2 1 (0) (p7))), (.tmp 91, I y16)] [(2, (.own 1 ((y17 : List Int).map Qac)))] (.ref 2 1 (y16.toNat) 0), rb [(.tmp 92, (.ref 2 1 (y16.toNat) 0))] [(2, (.own 1 ((y17 : List Int).map Qac)))] (I x23), mv 3 (I p2), rp [(.tmp 93, I x23), (.tmp 94, I p2)] (I (w64 (x23 + p2))), rb [(.tmp 90, (.own 2 1 (0) (p7))), (.tmp 91, I y16)] [(2, (.own 1 ((y17 : List Int).map Qac)))] (.ref 2 1 (y16.toNat) 0), ⟨[(.tmp 96, (.ref 2 1 (y16.toNat) 0)), (.tmp 95, (I (w64 (x23 + p2))))], [(2, (.own 1 ((y17 : List Int).map Qac)))], .any, [(2, (.own 1 ((y17.set y16.toNat (w64 (x23 + p2)) : List Int).map Qac)))], false⟩] ?_ ?_
    ·exact ⟨amv rfl, Qci rfl, afa rfl Try.underlying152 rfl rfl ti23 (by decide) rfl, ald rfl ti23 (by decide) rfl (nle rfl) rfl, amv rfl, aio rfl Try.underlying23 ti3 (odt hi22a) (odt hi22b) (Nat.zero_add _), ald rfl ti3 (by decide) (mgt Qac hg24) (nle rfl) rfl, amv rfl, abn rfl rfl, aio rfl Try.underlying23 ti3 (odt hi25a) (odt hi25b) (Nat.zero_add _), ast rfl ti3 (by rfl) (mgt Qac hg27) (nle rfl) (Qei Qac rfl), trivial⟩
    refine bln ?_
    refine thn ?_
    refine Qar [mv 9 (I y16), rp [(.tmp 85, I y16), ci 1] (I (w64 (y16 + 1))), mv 86 (I (w64 (y16 + 1)))] ?_ ?_
    ·exact ⟨amv rfl, abn rfl rfl, aas rfl, trivial⟩
    refine thn ?_
    exact arm (mto (n := 97) [(0, .ref 0 53 0 0), (2, I p1), (3, I p2), (9, (I (w64 (y16 + 1))))] [0, 1, 2] [(.own 53 [((I p3) :: (I p4) :: (.dat 2 ((p5 : List GHour).map Qad)) :: (.own 1 1 (0) (p6)) :: (.own 2 1 (0) (p7)) :: (arrF 24 y13 ++ arrF 24 y14))]), (.own 1 ((p10.set p0.toNat (w64 (x6 + p2)) : List Int).map Qac)), (.own 1 ((y17.set y16.toNat (w64 (x23 + p2)) : List Int).map Qac))] hφ0 (pc (.rn (rqr rfl)) (pc rwl (pc rwl (pc rwl pn)))) (qc (spb (lc rwl (lc rwl (lc (.rn (.plain _ (nld Qas _))) (lc (.rn (Qaj rfl)) (lc (.rn (Qaj rfl)) (Qck (Qa6 fun _ => rwl) (Qa6 fun _ => rwl)))))))) (qc (spr Qaf) (qc (spr Qaf) qn)))) (ih (w64 (y16 + 1), y17.set y16.toNat (w64 (x23 + p2))) h)
   ·replace h := Qaw hc21 h
    refine wfn hc21 (by kernel_rfl) ?_
    refine Qbf ?_
    refine Qau ?_
    refine Qau ?_
    refine Qbe rfl ?_
    obtain rfl := osi h
    exact ⟨_, (mto (n := 97) (l' := []) (own' := [(.own 53 [((I p3) :: (I p4) :: (.dat 2 ((p5 : List GHour).map Qad)) :: (.own 1 1 (0) (p6)) :: (.own 2 1 (0) (p7)) :: (arrF 24 y13 ++ arrF 24 y14))]), (.own 1 (((p10.set p0.toNat (w64 (x6 + p2))) : List Int).map Qac)), (.own 1 ((y17 : List Int).map Qac))]) [] [0, 1, 2] [(.own 53 [((I p3) :: (I p4) :: (.dat 2 ((p5 : List GHour).map Qad)) :: (.own 1 1 (0) (p6)) :: (.own 2 1 (0) (p7)) :: (arrF 24 y13 ++ arrF 24 y14))]), (.own 1 ((p10.set p0.toNat (w64 (x6 + p2)) : List Int).map Qac)), (.own 1 ((y17 : List Int).map Qac))] hφ0 pn (qc (spb (lc rwl (lc rwl (lc (.rn (.plain _ (nld Qas _))) (lc (.rn (Qaj rfl)) (lc (.rn (Qaj rfl)) (Qck (Qa6 fun _ => rwl) (Qa6 fun _ => rwl)))))))) (qc (spr Qaf) (qc (spr Qaf) qn)))), Qc0 (vs := []) trivial rfl (NLt.tup _ nl0) (by kernel_rfl) (Qay (Qb2 (nlc (NLt.of0 nll) (nlc (NLt.of0 nll) (nlc (NLt.of0 (nld Qas _)) (nlc (NLt.own _ _ _ _ (by decide)) (nlc (NLt.own _ _ _ _ (by decide)) (Qeu Qdg Qdg))))))) (Qay (Qd0 Qaf _) (Qay (Qd0 Qaf _) Qbx)))⟩
  ·skip
   obtain ⟨hi28, h⟩ := cko h
   obtain ⟨hi28a, hi28b⟩ := Qba hi28
   refine wrg [mv 0 (.ref 0 53 0 0), mv 1 (I p0), rb [(.tmp 31, .ref 0 53 0 0)] [(0, (.own 53 [((I p3) :: (I p4) :: (.dat 2 ((p5 : List GHour).map Qad)) :: (.own 1 1 (0) (p6)) :: (.own 2 1 (0) (p7)) :: (arrF 24 p8 ++ arrF 24 (setF p9 p0.toNat (w64 ((p9 p0.toNat) - p2)))))]))] (.ref 0 53 0 0), rb [(.tmp 33, .ref 0 53 0 0)] [(0, (.own 53 [((I p3) :: (I p4) :: (.dat 2 ((p5 : List GHour).map Qad)) :: (.own 1 1 (0) (p6)) :: (.own 2 1 (0) (p7)) :: (arrF 24 p8 ++ arrF 24 (setF p9 p0.toNat (w64 ((p9 p0.toNat) - p2)))))]))] (.ref 0 53 0 29), rb [(.tmp 34, .ref 0 53 0 29), (.tmp 32, I p0)] [(0, (.own 53 [((I p3) :: (I p4) :: (.dat 2 ((p5 : List GHour).map Qad)) :: (.own 1 1 (0) (p6)) :: (.own 2 1 (0) (p7)) :: (arrF 24 p8 ++ arrF 24 (setF p9 p0.toNat (w64 ((p9 p0.toNat) - p2)))))]))] (.ref 0 53 0 (29 + p0.toNat * 1)), rb [(.tmp 35, (.ref 0 53 0 (29 + p0.toNat * 1)))] [(0, (.own 53 [((I p3) :: (I p4) :: (.dat 2 ((p5 : List GHour).map Qad)) :: (.own 1 1 (0) (p6)) :: (.own 2 1 (0) (p7)) :: (arrF 24 p8 ++ arrF 24 (setF p9 p0.toNat (w64 ((p9 p0.toNat) - p2)))))]))] (I ((setF p9 p0.toNat (w64 ((p9 p0.toNat) - p2))) p0.toNat)), rp [(.tmp 36, (I ((setF p9 p0.toNat (w64 ((p9 p0.toNat) - p2))) p0.toNat))), ci 0] (B ((((setF p9 p0.toNat (w64 ((p9 p0.toNat) - p2))) p0.toNat) == 0)))] ?_ ?_
   ·exact ⟨amv rfl, amv rfl, Qci rfl, afa rfl Try.underlying152 rfl rfl Qis (by decide) rfl, Qek rfl Try.underlying150 ti3 (odt hi28a) (odt hi28b) rfl, ald rfl ti3 (by decide) rfl (Qhi (n := 24) (odt hi28b) (nle rfl)) (Qjf (pre := ((I p3) :: (I p4) :: (.dat 2 ((p5 : List GHour).map Qad)) :: (.own 1 1 (0) (p6)) :: (.own 2 1 (0) (p7)) :: arrF 24 p8)) (post := []) (n := 24) (f := setF p9 p0.toNat (w64 ((p9 p0.toNat) - p2))) (by kernel_rfl) rfl (odt hi28b)), abn rfl rfl, trivial⟩
   rcases bft ((((setF p9 p0.toNat (w64 ((p9 p0.toNat) - p2))) p0.toNat) == 0)) with hc29 | hc29
   ·replace h := Qav hc29 h
    refine wft hc29 (by kernel_rfl) ?_
    obtain ⟨hi30, h⟩ := cko h
    obtain ⟨hi30a, hi30b⟩ := Qba hi30
    obtain ⟨hi31, h⟩ := cko h
    obtain ⟨hi31a, hi31b⟩ := Qba hi31
    refine Qct [mv 0 (.ref 0 53 0 0), mv 1 (I p0), rb [(.tmp 38, .ref 0 53 0 0)] [(0, (.own 53 [((I p3) :: (I p4) :: (.dat 2 ((p5 : List GHour).map Qad)) :: (.own 1 1 (0) (p6)) :: (.own 2 1 (0) (p7)) :: (arrF 24 p8 ++ arrF 24 (setF p9 p0.toNat (w64 ((p9 p0.toNat) - p2)))))]))] (.ref 0 53 0 0), rb [(.tmp 40, .ref 0 53 0 0)] [(0, (.own 53 [((I p3) :: (I p4) :: (.dat 2 ((p5 : List GHour).map Qad)) :: (.own 1 1 (0) (p6)) :: (.own 2 1 (0) (p7)) :: (arrF 24 p8 ++ arrF 24 (setF p9 p0.toNat (w64 ((p9 p0.toNat) - p2)))))]))] (.ref 0 53 0 5), rb [(.tmp 41, .ref 0 53 0 5), (.tmp 39, I p0)] [(0, (.own 53 [((I p3) :: (I p4) :: (.dat 2 ((p5 : List GHour).map Qad)) :: (.own 1 1 (0) (p6)) :: (.own 2 1 (0) (p7)) :: (arrF 24 p8 ++ arrF 24 (setF p9 p0.toNat (w64 ((p9 p0.toNat) - p2)))))]))] (.ref 0 53 0 (5 + p0.toNat * 1)), rb [(.tmp 42, (.ref 0 53 0 (5 + p0.toNat * 1)))] [(0, (.own 53 [((I p3) :: (I p4) :: (.dat 2 ((p5 : List GHour).map Qad)) :: (.own 1 1 (0) (p6)) :: (.own 2 1 (0) (p7)) :: (arrF 24 p8 ++ arrF 24 (setF p9 p0.toNat (w64 ((p9 p0.toNat) - p2)))))]))] (I (p8 p0.toNat)), rp [(.tmp 43, I (p8 p0.toNat)), ci 1] (I (w64 ((p8 p0.toNat) + 1))), rb [(.tmp 38, .ref 0 53 0 0)] [(0, (.own 53 [((I p3) :: (I p4) :: (.dat 2 ((p5 : List GHour).map Qad)) :: (.own 1 1 (0) (p6)) :: (.own 2 1 (0) (p7)) :: (arrF 24 p8 ++ arrF 24 (setF p9 p0.toNat (w64 ((p9 p0.toNat) - p2)))))]))] (.ref 0 53 0 0), rb [(.tmp 45, .ref 0 53 0 0)] [(0, (.own 53 [((I p3) :: (I p4) :: (.dat 2 ((p5 : List GHour).map Qad)) :: (.own 1 1 (0) (p6)) :: (.own 2 1 (0) (p7)) :: (arrF 24 p8 ++ arrF 24 (setF p9 p0.toNat (w64 ((p9 p0.toNat) - p2)))))]))] (.ref 0 53 0 5), rb [(.tmp 46, .ref 0 53 0 5), (.tmp 39, I p0)] [(0, (.own 53 [((I p3) :: (I p4) :: (.dat 2 ((p5 : List GHour).map Qad)) :: (.own 1 1 (0) (p6)) :: (.own 2 1 (0) (p7)) :: (arrF 24 p8 ++ arrF 24 (setF p9 p0.toNat (w64 ((p9 p0.toNat) - p2)))))]))] (.ref 0 53 0 (5 + p0.toNat * 1)), ⟨[(.tmp 47, (.ref 0 53 0 (5 + p0.toNat * 1))), (.tmp 44, (I (w64 ((p8 p0.toNat) + 1))))], [(0, (.own 53 [((I p3) :: (I p4) :: (.dat 2 ((p5 : List GHour).map Qad)) :: (.own 1 1 (0) (p6)) :: (.own 2 1 (0) (p7)) :: (arrF 24 p8 ++ arrF 24 (setF p9 p0.toNat (w64 ((p9 p0.toNat) - p2)))))]))], .any, [(0, (.own 53 [((I p3) :: (I p4) :: (.dat 2 ((p5 : List GHour).map Qad)) :: (.own 1 1 (0) (p6)) :: (.own 2 1 (0) (p7)) :: (arrF 24 (setF p8 p0.toNat (w64 ((p8 p0.toNat) + 1))) ++ arrF 24 (setF p9 p0.toNat (w64 ((p9 p0.toNat) - p2)))))]))], false⟩] ?_ ?_
    ·exact ⟨amv rfl, amv rfl, Qci rfl, afa rfl Try.underlying152 rfl rfl Qis (by decide) rfl, Qek rfl Try.underlying150 ti3 (odt hi30a) (odt hi30b) rfl, ald rfl ti3 (by decide) rfl (Qhi (n := 24) (odt hi30b) (nle rfl)) (Qjf (pre := [I p3, I p4, (.dat 2 ((p5 : List GHour).map Qad)), (.own 1 1 (0) (p6)), (.own 2 1 (0) (p7))]) (post := arrF 24 (setF p9 p0.toNat (w64 ((p9 p0.toNat) - p2)))) (n := 24) (f := p8) (by kernel_rfl) rfl (odt hi30b)), abn rfl rfl, Qci rfl, afa rfl Try.underlying152 rfl rfl Qis (by decide) rfl, Qek rfl Try.underlying150 ti3 (odt hi31a) (odt hi31b) rfl, ast rfl ti3 (by rfl) rfl (Qhi (n := 24) (odt hi31b) (nle rfl)) (st_arr (pre := [I p3, I p4, (.dat 2 ((p5 : List GHour).map Qad)), (.own 1 1 (0) (p6)), (.own 2 1 (0) (p7))]) (post := arrF 24 (setF p9 p0.toNat (w64 ((p9 p0.toNat) - p2)))) (n := 24) (f := p8) (by kernel_rfl) rfl (by kernel_rfl) (odt hi31b)), trivial⟩
    obtain ⟨x32, hg33, h⟩ := bno h
    obtain ⟨hi34, hj35⟩ := gsm hg33
    refine wrg [mv 0 (.ref 0 53 0 0), rb [(.tmp 48, .ref 0 53 0 0)] [(0, (.own 53 [((I p3) :: (I p4) :: (.dat 2 ((p5 : List GHour).map Qad)) :: (.own 1 1 (0) (p6)) :: (.own 2 1 (0) (p7)) :: (arrF 24 (setF p8 p0.toNat (w64 ((p8 p0.toNat) + 1))) ++ arrF 24 (setF p9 p0.toNat (w64 ((p9 p0.toNat) - p2)))))]))] (.ref 0 53 0 0), rb [(.tmp 49, .ref 0 53 0 0)] [(0, (.own 53 [((I p3) :: (I p4) :: (.dat 2 ((p5 : List GHour).map Qad)) :: (.own 1 1 (0) (p6)) :: (.own 2 1 (0) (p7)) :: (arrF 24 (setF p8 p0.toNat (w64 ((p8 p0.toNat) + 1))) ++ arrF 24 (setF p9 p0.toNat (w64 ((p9 p0.toNat) - p2)))))]))] (.ref 0 53 0 0), rb [(.tmp 50, .ref 0 53 0 0)] [(0, (.own 53 [((I p3) :: (I p4) :: (.dat 2 ((p5 : List GHour).map Qad)) :: (.own 1 1 (0) (p6)) :: (.own 2 1 (0) (p7)) :: (arrF 24 (setF p8 p0.toNat (w64 ((p8 p0.toNat) + 1))) ++ arrF 24 (setF p9 p0.toNat (w64 ((p9 p0.toNat) - p2)))))]))] (.ref 0 53 0 2), rb [(.tmp 51, .ref 0 53 0 2)] [(0, (.own 53 [((I p3) :: (I p4) :: (.dat 2 ((p5 : List GHour).map Qad)) :: (.own 1 1 (0) (p6)) :: (.own 2 1 (0) (p7)) :: (arrF 24 (setF p8 p0.toNat (w64 ((p8 p0.toNat) + 1))) ++ arrF 24 (setF p9 p0.toNat (w64 ((p9 p0.toNat) - p2)))))]))] (.dat 2 ((p5 : List GHour).map Qad)), mv 1 (I p0), rp [(.tmp 52, (.dat 2 ((p5 : List GHour).map Qad))), (.tmp 53, I p0)] (.dptr (Qad (x32)) 0), rp [(.tmp 54, (.dptr (Qad (x32)) 0))] (.dptr (Qad (x32)) 1), rp [(.tmp 55, (.dptr (Qad (x32)) 1))] (.dat 2 ((x32.Stairs : List GStair).map Qah)), mv 56 (.dat 2 ((x32.Stairs : List GStair).map Qah))] ?_ ?_
    ·exact ⟨amv rfl, Qci rfl, afa rfl Try.underlying152 rfl rfl ti47 (by decide) rfl, afa rfl Try.underlying47 rfl rfl ti45 (by decide) rfl, ald rfl ti45 (by decide) rfl (nle rfl) rfl, amv rfl, aid rfl Try.underlying45 ti62 rfl rfl hi34 (mgt Qad hj35) rfl, afd rfl Try.underlying62 rfl rfl ti60 (by decide) rfl, ald_ rfl ti60 (by decide) (nle rfl) rfl, aas rfl, trivial⟩
    obtain ⟨hi36, h⟩ := cko h
    obtain ⟨hi36a, hi36b⟩ := Qba hi36
    refine wrg [mv 0 (.ref 0 53 0 0), mv 1 (I p0), rb [(.tmp 57, .ref 0 53 0 0)] [(0, (.own 53 [((I p3) :: (I p4) :: (.dat 2 ((p5 : List GHour).map Qad)) :: (.own 1 1 (0) (p6)) :: (.own 2 1 (0) (p7)) :: (arrF 24 (setF p8 p0.toNat (w64 ((p8 p0.toNat) + 1))) ++ arrF 24 (setF p9 p0.toNat (w64 ((p9 p0.toNat) - p2)))))]))] (.ref 0 53 0 0), rb [(.tmp 59, .ref 0 53 0 0)] [(0, (.own 53 [((I p3) :: (I p4) :: (.dat 2 ((p5 : List GHour).map Qad)) :: (.own 1 1 (0) (p6)) :: (.own 2 1 (0) (p7)) :: (arrF 24 (setF p8 p0.toNat (w64 ((p8 p0.toNat) + 1))) ++ arrF 24 (setF p9 p0.toNat (w64 ((p9 p0.toNat) - p2)))))]))] (.ref 0 53 0 5), rb [(.tmp 60, .ref 0 53 0 5), (.tmp 58, I p0)] [(0, (.own 53 [((I p3) :: (I p4) :: (.dat 2 ((p5 : List GHour).map Qad)) :: (.own 1 1 (0) (p6)) :: (.own 2 1 (0) (p7)) :: (arrF 24 (setF p8 p0.toNat (w64 ((p8 p0.toNat) + 1))) ++ arrF 24 (setF p9 p0.toNat (w64 ((p9 p0.toNat) - p2)))))]))] (.ref 0 53 0 (5 + p0.toNat * 1)), rb [(.tmp 61, (.ref 0 53 0 (5 + p0.toNat * 1)))] [(0, (.own 53 [((I p3) :: (I p4) :: (.dat 2 ((p5 : List GHour).map Qad)) :: (.own 1 1 (0) (p6)) :: (.own 2 1 (0) (p7)) :: (arrF 24 (setF p8 p0.toNat (w64 ((p8 p0.toNat) + 1))) ++ arrF 24 (setF p9 p0.toNat (w64 ((p9 p0.toNat) - p2)))))]))] (I ((setF p8 p0.toNat (w64 ((p8 p0.toNat) + 1))) p0.toNat)), mv 8 (.dat 2 ((x32.Stairs : List GStair).map Qah)), rp [(.tmp 63, (.dat 2 ((x32.Stairs : List GStair).map Qah)))] (I ((x32.Stairs.length : Int))), rp [(.tmp 62, (I ((setF p8 p0.toNat (w64 ((p8 p0.toNat) + 1))) p0.toNat))), (.tmp 64, (I ((x32.Stairs.length : Int))))] (B ((decide (((setF p8 p0.toNat (w64 ((p8 p0.toNat) + 1))) p0.toNat) < (x32.Stairs.length : Int)))))] ?_ ?_
    ·exact ⟨amv rfl, amv rfl, Qci rfl, afa rfl Try.underlying152 rfl rfl Qis (by decide) rfl, Qek rfl Try.underlying150 ti3 (odt hi36a) (odt hi36b) rfl, ald rfl ti3 (by decide) rfl (Qhi (n := 24) (odt hi36b) (nle rfl)) (Qjf (pre := [I p3, I p4, (.dat 2 ((p5 : List GHour).map Qad)), (.own 1 1 (0) (p6)), (.own 2 1 (0) (p7))]) (post := arrF 24 (setF p9 p0.toNat (w64 ((p9 p0.toNat) - p2)))) (n := 24) (f := setF p8 p0.toNat (w64 ((p8 p0.toNat) + 1))) (by kernel_rfl) rfl (odt hi36b)), amv rfl, alm (c := Qah) (l := x32.Stairs) (aln rfl Try.underlying60 rfl), abn rfl rfl, trivial⟩
    rcases bft ((decide (((setF p8 p0.toNat (w64 ((p8 p0.toNat) + 1))) p0.toNat) < (x32.Stairs.length : Int)))) with hc37 | hc37
    ·replace h := Qav hc37 h
     refine wft hc37 (by kernel_rfl) ?_
     obtain ⟨hi38, h⟩ := cko h
     obtain ⟨hi38a, hi38b⟩ := Qba hi38
     obtain ⟨x39, hg40, h⟩ := bno h
     obtain ⟨hi41, hj42⟩ := gsm hg40
     obtain ⟨hi43, h⟩ := cko h
     obtain ⟨hi43a, hi43b⟩ := Qba hi43
     refine Qde [mv 0 (.ref 0 53 0 0), mv 1 (I p0), mv 8 (.dat 2 ((x32.Stairs : List GStair).map Qah)), mv 0 (.ref 0 53 0 0), mv 1 (I p0), rb [(.tmp 69, .ref 0 53 0 0)] [(0, (.own 53 [((I p3) :: (I p4) :: (.dat 2 ((p5 : List GHour).map Qad)) :: (.own 1 1 (0) (p6)) :: (.own 2 1 (0) (p7)) :: (arrF 24 (setF p8 p0.toNat (w64 ((p8 p0.toNat) + 1))) ++ arrF 24 (setF p9 p0.toNat (w64 ((p9 p0.toNat) - p2)))))]))] (.ref 0 53 0 0), rb [(.tmp 71, .ref 0 53 0 0)] [(0, (.own 53 [((I p3) :: (I p4) :: (.dat 2 ((p5 : List GHour).map Qad)) :: (.own 1 1 (0) (p6)) :: (.own 2 1 (0) (p7)) :: (arrF 24 (setF p8 p0.toNat (w64 ((p8 p0.toNat) + 1))) ++ arrF 24 (setF p9 p0.toNat (w64 ((p9 p0.toNat) - p2)))))]))] (.ref 0 53 0 5), rb [(.tmp 72, .ref 0 53 0 5), (.tmp 70, I p0)] [(0, (.own 53 [((I p3) :: (I p4) :: (.dat 2 ((p5 : List GHour).map Qad)) :: (.own 1 1 (0) (p6)) :: (.own 2 1 (0) (p7)) :: (arrF 24 (setF p8 p0.toNat (w64 ((p8 p0.toNat) + 1))) ++ arrF 24 (setF p9 p0.toNat (w64 ((p9 p0.toNat) - p2)))))]))] (.ref 0 53 0 (5 + p0.toNat * 1)), rb [(.tmp 73, (.ref 0 53 0 (5 + p0.toNat * 1)))] [(0, (.own 53 [((I p3) :: (I p4) :: (.dat 2 ((p5 : List GHour).map Qad)) :: (.own 1 1 (0) (p6)) :: (.own 2 1 (0) (p7)) :: (arrF 24 (setF p8 p0.toNat (w64 ((p8 p0.toNat) + 1))) ++ arrF 24 (setF p9 p0.toNat (w64 ((p9 p0.toNat) - p2)))))]))] (I ((setF p8 p0.toNat (w64 ((p8 p0.toNat) + 1))) p0.toNat)), rp [(.tmp 68, (.dat 2 ((x32.Stairs : List GStair).map Qah))), (.tmp 74, (I ((setF p8 p0.toNat (w64 ((p8 p0.toNat) + 1))) p0.toNat)))] (.dptr (Qah (x39)) 0), mv 75 (.dptr (Qah (x39)) 0), rp [(.tmp 76, (.dptr (Qah (x39)) 0))] (I x39.Amount), rb [(.tmp 66, .ref 0 53 0 0)] [(0, (.own 53 [((I p3) :: (I p4) :: (.dat 2 ((p5 : List GHour).map Qad)) :: (.own 1 1 (0) (p6)) :: (.own 2 1 (0) (p7)) :: (arrF 24 (setF p8 p0.toNat (w64 ((p8 p0.toNat) + 1))) ++ arrF 24 (setF p9 p0.toNat (w64 ((p9 p0.toNat) - p2)))))]))] (.ref 0 53 0 0), rb [(.tmp 78, .ref 0 53 0 0)] [(0, (.own 53 [((I p3) :: (I p4) :: (.dat 2 ((p5 : List GHour).map Qad)) :: (.own 1 1 (0) (p6)) :: (.own 2 1 (0) (p7)) :: (arrF 24 (setF p8 p0.toNat (w64 ((p8 p0.toNat) + 1))) ++ arrF 24 (setF p9 p0.toNat (w64 ((p9 p0.toNat) - p2)))))]))] (.ref 0 53 0 29), rb [(.tmp 79, .ref 0 53 0 29), (.tmp 67, I p0)] [(0, (.own 53 [((I p3) :: (I p4) :: (.dat 2 ((p5 : List GHour).map Qad)) :: (.own 1 1 (0) (p6)) :: (.own 2 1 (0) (p7)) :: (arrF 24 (setF p8 p0.toNat (w64 ((p8 p0.toNat) + 1))) ++ arrF 24 (setF p9 p0.toNat (w64 ((p9 p0.toNat) - p2)))))]))] (.ref 0 53 0 (29 + p0.toNat * 1)), ⟨[(.tmp 80, (.ref 0 53 0 (29 + p0.toNat * 1))), (.tmp 77, I x39.Amount)], [(0, (.own 53 [((I p3) :: (I p4) :: (.dat 2 ((p5 : List GHour).map Qad)) :: (.own 1 1 (0) (p6)) :: (.own 2 1 (0) (p7)) :: (arrF 24 (setF p8 p0.toNat (w64 ((p8 p0.toNat) + 1))) ++ arrF 24 (setF p9 p0.toNat (w64 ((p9 p0.toNat) - p2)))))]))], .any, [(0, (.own 53 [((I p3) :: (I p4) :: (.dat 2 ((p5 : List GHour).map Qad)) :: (.own 1 1 (0) (p6)) :: (.own 2 1 (0) (p7)) :: (arrF 24 (setF p8 p0.toNat (w64 ((p8 p0.toNat) + 1))) ++ arrF 24 (setF (setF p9 p0.toNat (w64 ((p9 p0.toNat) - p2))) p0.toNat x39.Amount)))]))], false⟩] ?_ ?_
     ·exact ⟨amv rfl, amv rfl, amv rfl, amv rfl, amv rfl, Qci rfl, afa rfl Try.underlying152 rfl rfl Qis (by decide) rfl, Qek rfl Try.underlying150 ti3 (odt hi38a) (odt hi38b) rfl, ald rfl ti3 (by decide) rfl (Qhi (n := 24) (odt hi38b) (nle rfl)) (Qjf (pre := [I p3, I p4, (.dat 2 ((p5 : List GHour).map Qad)), (.own 1 1 (0) (p6)), (.own 2 1 (0) (p7))]) (post := arrF 24 (setF p9 p0.toNat (w64 ((p9 p0.toNat) - p2)))) (n := 24) (f := setF p8 p0.toNat (w64 ((p8 p0.toNat) + 1))) (by kernel_rfl) rfl (odt hi38b)), aid rfl Try.underlying60 ti64 rfl rfl hi41 (mgt Qah hj42) rfl, afd rfl Try.underlying64 rfl rfl ti3 (by decide) rfl, ald_ rfl ti3 (by decide) (nle rfl) rfl, Qci rfl, afa rfl Try.underlying152 rfl rfl Qis (by decide) rfl, Qek rfl Try.underlying150 ti3 (odt hi43a) (odt hi43b) rfl, ast rfl ti3 (by rfl) rfl (Qhi (n := 24) (odt hi43b) (nle rfl)) (st_arr (pre := ((I p3) :: (I p4) :: (.dat 2 ((p5 : List GHour).map Qad)) :: (.own 1 1 (0) (p6)) :: (.own 2 1 (0) (p7)) :: arrF 24 (setF p8 p0.toNat (w64 ((p8 p0.toNat) + 1))))) (post := []) (n := 24) (f := setF p9 p0.toNat (w64 ((p9 p0.toNat) - p2))) (by kernel_rfl) rfl (by kernel_rfl) (odt hi43b)), trivial⟩
     refine thn ?_
     exact ⟨(setF p8 p0.toNat (w64 ((p8 p0.toNat) + 1)), setF (setF p9 p0.toNat (w64 ((p9 p0.toNat) - p2))) p0.toNat x39.Amount), h, (mto (n := 97) [(0, .ref 0 53 0 0), (1, I p0), (2, I p1), (3, I p2)] [0, 1, 2] [(.own 53 [((I p3) :: (I p4) :: (.dat 2 ((p5 : List GHour).map Qad)) :: (.own 1 1 (0) (p6)) :: (.own 2 1 (0) (p7)) :: (arrF 24 (setF p8 p0.toNat (w64 ((p8 p0.toNat) + 1))) ++ arrF 24 (setF (setF p9 p0.toNat (w64 ((p9 p0.toNat) - p2))) p0.toNat x39.Amount)))]), (.own 1 ((p10.set p0.toNat (w64 (x6 + p2)) : List Int).map Qac)), (.own 1 ((p11 : List Int).map Qac))] hφ0 (pc (.rn (rqr rfl)) (pc rwl (pc rwl (pc rwl pn)))) (qc (spb (lc rwl (lc rwl (lc (.rn (.plain _ (nld Qas _))) (lc (.rn (Qaj rfl)) (lc (.rn (Qaj rfl)) (Qck (Qa6 fun _ => rwl) (Qa6 fun _ => rwl)))))))) (qc (spr Qaf) (qc (spr Qaf) qn))))⟩
    ·replace h := Qaw hc37 h
     refine wfn hc37 (by kernel_rfl) ?_
     refine Qam ?_
     refine thn ?_
     exact ⟨(setF p8 p0.toNat (w64 ((p8 p0.toNat) + 1)), setF p9 p0.toNat (w64 ((p9 p0.toNat) - p2))), h, (mto (n := 97) [(0, .ref 0 53 0 0), (1, I p0), (2, I p1), (3, I p2)] [0, 1, 2] [(.own 53 [((I p3) :: (I p4) :: (.dat 2 ((p5 : List GHour).map Qad)) :: (.own 1 1 (0) (p6)) :: (.own 2 1 (0) (p7)) :: (arrF 24 (setF p8 p0.toNat (w64 ((p8 p0.toNat) + 1))) ++ arrF 24 (setF p9 p0.toNat (w64 ((p9 p0.toNat) - p2)))))]), (.own 1 ((p10.set p0.toNat (w64 (x6 + p2)) : List Int).map Qac)), (.own 1 ((p11 : List Int).map Qac))] hφ0 (pc (.rn (rqr rfl)) (pc rwl (pc rwl (pc rwl pn)))) (qc (spb (lc rwl (lc rwl (lc (.rn (.plain _ (nld Qas _))) (lc (.rn (Qaj rfl)) (lc (.rn (Qaj rfl)) (Qck (Qa6 fun _ => rwl) (Qa6 fun _ => rwl)))))))) (qc (spr Qaf) (qc (spr Qaf) qn))))⟩
   ·replace h := Qaw hc29 h
    refine wfn hc29 (by kernel_rfl) ?_
    refine Qam ?_
    refine thn ?_
    exact ⟨(p8, setF p9 p0.toNat (w64 ((p9 p0.toNat) - p2))), h, (mto (n := 97) [(0, .ref 0 53 0 0), (1, I p0), (2, I p1), (3, I p2)] [0, 1, 2] [(.own 53 [((I p3) :: (I p4) :: (.dat 2 ((p5 : List GHour).map Qad)) :: (.own 1 1 (0) (p6)) :: (.own 2 1 (0) (p7)) :: (arrF 24 p8 ++ arrF 24 (setF p9 p0.toNat (w64 ((p9 p0.toNat) - p2)))))]), (.own 1 ((p10.set p0.toNat (w64 (x6 + p2)) : List Int).map Qac)), (.own 1 ((p11 : List Int).map Qac))] hφ0 (pc (.rn (rqr rfl)) (pc rwl (pc rwl (pc rwl pn)))) (qc (spb (lc rwl (lc rwl (lc (.rn (.plain _ (nld Qas _))) (lc (.rn (Qaj rfl)) (lc (.rn (Qaj rfl)) (Qck (Qa6 fun _ => rwl) (Qa6 fun _ => rwl)))))))) (qc (spr Qaf) (qc (spr Qaf) qn))))⟩

def Qb0 (N : Nat) (p0 : Int) (p2 : Int) (p3 : Int) (p4 : (List GHour)) (p5 : Nat) (p6 : Nat) (y6 : (Nat → Int)) (y7 : (Nat → Int)) (y8 : (List Int)) (y9 : (List Int)) (k19 : Int × Int → Option ((Nat → Int) × (Nat → Int) × (List Int) × (List Int))) : Nat → Int → Int → Int → Int → Int → Option ((Nat → Int) × (Nat → Int) × (List Int) × (List Int))
  | 0, _, _, _, _, _ => none
  | n33 + 1, y23, y24, y25, y26, y27 =>
    bif (decide (y27 ≥ 0)) then
     Qca (fun y35 =>
       bif (y35 == 0) then
        k19 (y23, y25)
       else
        (Qf0 N y27 p2 p3 p4 p5 p6 y6 y7 y8 y9).bind fun x39 =>
        bif x39.1 then
         bif (decide (y23 < 0)) then
          (some (if x39.2.1 < y35 then x39.2.1 else y35)).bind fun x42 =>
          Qb0 N p0 p2 p3 p4 p5 p6 y6 y7 y8 y9 k19 n33 y27 x39.2.2 x42 y35 (w64 (y27 - 1))
         else
          bif (decide (x39.2.2 < y24)) then
           (some (if x39.2.1 < y35 then x39.2.1 else y35)).bind fun x45 =>
           Qb0 N p0 p2 p3 p4 p5 p6 y6 y7 y8 y9 k19 n33 y27 x39.2.2 x45 y35 (w64 (y27 - 1))
          else
           Qb0 N p0 p2 p3 p4 p5 p6 y6 y7 y8 y9 k19 n33 y23 y24 y25 y35 (w64 (y27 - 1))
        else
         Qb0 N p0 p2 p3 p4 p5 p6 y6 y7 y8 y9 k19 n33 y23 y24 y25 y35 (w64 (y27 - 1))) fun k36 : Int → Option ((Nat → Int) × (Nat → Int) × (List Int) × (List Int)) =>
     bif (decide (y27 < p0)) then
      chk (decide (0 ≤ y27) && decide (y27.toNat < p6)) <|
      (y9[y27.toNat]?).bind fun x49 =>
      (some (if (w64 (p2 - x49)) < y26 then w64 (p2 - x49) else y26)).bind fun x51 =>
      k36 (x51)
     else
      k36 (y26)
    else
     k19 (y23, y25)
def Qdi (N : Nat) (p0 : Int) (p2 : Int) (p3 : Int) (p4 : (List GHour)) (p5 : Nat) (p6 : Nat) : Nat → Int → (Nat → Int) → (Nat → Int) → (List Int) → (List Int) → Option ((Nat → Int) × (Nat → Int) × (List Int) × (List Int))
  | 0, _, _, _, _, _ => none
  | n15 + 1, y5, y6, y7, y8, y9 =>
    bif (decide (y5 > 0)) then
     Qca (fun ⟨y17, y18⟩ =>
       bif (decide (y17 < 0)) then
        some (y6, y7, y8, y9)
       else
        (Qfz N y17 p0 y18 p2 p3 p4 p5 p6 y6 y7 y8 y9).bind fun x22 =>
        Qdi N p0 p2 p3 p4 p5 p6 n15 (w64 (y5 - y18)) x22.1 x22.2.1 x22.2.2.1 x22.2.2.2) fun k19 : Int × Int → Option ((Nat → Int) × (Nat → Int) × (List Int) × (List Int)) =>
     Qb0 N p0 p2 p3 p4 p5 p6 y6 y7 y8 y9 k19 N (-1) 0 0 y5 p0
    else
     some (y6, y7, y8, y9)
def Qf1 (N : Nat) (p0 : Int) (p1 : Int) (p2 : Int) (p3 : Int) (p4 : (List GHour)) (p5 : Nat) (p6 : Nat) (p7 : (Nat → Int)) (p8 : (Nat → Int)) (p9 : (List Int)) (p10 : (List Int)) : Option ((Nat → Int) × (Nat → Int) × (List Int) × (List Int)) :=
  Qdi N p0 p2 p3 p4 p5 p6 N p1 p7 p8 p9 p10
set_option maxRecDepth 100000 in
set_option maxHeartbeats 4000000 in
theorem Qhy (N : Nat) (p0 : Int) (p1 : Int) (p2 : Int) (p3 : Int) (p4 : (List GHour)) (p5 : Nat) (p6 : Nat) (p7 : (Nat → Int)) (p8 : (Nat → Int)) (p9 : (List Int)) (p10 : (List Int)) (r : ((Nat → Int) × (Nat → Int) × (List Int) × (List Int))) (h : Qf1 N p0 p1 p2 p3 p4 p5 p6 p7 p8 p9 p10 = some r) : Spec Try.prog 76 [(.ref 0 53 (0) 0), (I (p0)), (I (p1))] [(.own 53 [((I (p2)) :: (I (p3)) :: (.dat 2 ((p4 : List GHour).map Qad)) :: (.own 1 1 (0) (p5)) :: (.own 2 1 (0) (p6)) :: (arrF 24 p7 ++ arrF 24 p8))]), (.own 1 ((p9 : List Int).map Qac)), (.own 1 ((p10 : List Int).map Qac))] (.tup []) [(.own 53 [((I (p2)) :: (I (p3)) :: (.dat 2 ((p4 : List GHour).map Qad)) :: (.own 1 1 (0) (p5)) :: (.own 2 1 (0) (p6)) :: (arrF 24 r.1 ++ arrF 24 r.2.1))]), (.own 1 ((r.2.2.1 : List Int).map Qac)), (.own 1 ((r.2.2.2 : List Int).map Qac))] := by
  refine Qaq Try.func76 rfl 3 (nle rfl) (fun X φ0 w0 hφ0 => ?_)
  unfold Qf1 at h
  refine Qc1 ?_
  refine awp_scope ?_
  refine wsq ?_
  refine awp_label ?_
  refine thn ?_
  refine Qan ?_
  refine wmr (mto (n := 75) (l' := [(0, .ref 0 53 0 0), (1, I p0), (2, I p1)]) (own' := [(.own 53 [((I p2) :: (I p3) :: (.dat 2 ((p4 : List GHour).map Qad)) :: (.own 1 1 (0) (p5)) :: (.own 2 1 (0) (p6)) :: (arrF 24 p7 ++ arrF 24 p8))]), (.own 1 ((p9 : List Int).map Qac)), (.own 1 ((p10 : List Int).map Qac))]) [(0, .ref 0 53 0 0), (1, I p0), (2, I p1)] [0, 1, 2] [(.own 53 [((I p2) :: (I p3) :: (.dat 2 ((p4 : List GHour).map Qad)) :: (.own 1 1 (0) (p5)) :: (.own 2 1 (0) (p6)) :: (arrF 24 p7 ++ arrF 24 p8))]), (.own 1 ((p9 : List Int).map Qac)), (.own 1 ((p10 : List Int).map Qac))] hφ0 (pc (.rn (rqr rfl)) (pc rwl (pc rwl pn))) (qc (spb (lc rwl (lc rwl (lc (.rn (.plain _ (nld Qas _))) (lc (.rn (Qaj rfl)) (lc (.rn (Qaj rfl)) (Qck (Qa6 fun _ => rwl) (Qa6 fun _ => rwl)))))))) (qc (spr Qaf) (qc (spr Qaf) qn)))) ?_
  refine Qcc (τ := Int × (Nat → Int) × (Nat → Int) × (List Int) × (List Int)) (fun n t => Qdi N p0 p2 p3 p4 p5 p6 n t.1 t.2.1 t.2.2.1 t.2.2.2.1 t.2.2.2.2 = some r) (fun ⟨y5, y6, y7, y8, y9⟩ => ⟨mk 75 [(0, .ref 0 53 0 0), (1, I p0), (2, I y5)], [(.own 53 [((I p2) :: (I p3) :: (.dat 2 ((p4 : List GHour).map Qad)) :: (.own 1 1 (0) (p5)) :: (.own 2 1 (0) (p6)) :: (arrF 24 y6 ++ arrF 24 y7))]), (.own 1 ((y8 : List Int).map Qac)), (.own 1 ((y9 : List Int).map Qac))]⟩) (fun t h => by rw [Qdi] at h; cases h) (fun n15 ih t h => ?_) N (p1, p7, p8, p9, p10) h
  obtain ⟨y5, y6, y7, y8, y9⟩ := t
  rw [Qdi] at h
  skip
  refine wsq ?_
  refine wrg [mv 2 (I y5), rp [(.tmp 13, I y5), ci 0] (B ((decide (y5 > 0))))] ?_ ?_
  ·exact ⟨amv rfl, abn rfl rfl, trivial⟩
  rcases bft ((decide (y5 > 0))) with hc16 | hc16
  ·replace h := Qav hc16 h
   refine wft hc16 (by kernel_rfl) ?_
   refine Qam ?_
   refine thn ?_
   refine Qan ?_
   refine wrg [mc (.int .i64 (-1)), mc (.int .i64 0), mc (.int .i64 0)] ?_ ?_
   ·exact ⟨aas rfl, aas rfl, aas rfl, trivial⟩
   refine wrg [mv 2 (I y5), mv 15 (I y5)] ?_ ?_
   ·exact ⟨amv rfl, aas rfl, trivial⟩
   obtain ⟨k19, hk_k19, h⟩ := jko h
   refine wjn (τ := Int × Int) (fun t => k19 t = some r) (fun ⟨y17, y18⟩ => ⟨mk 75 [(0, .ref 0 53 0 0), (1, I p0), (2, I y5), (6, I y17), (8, I y18)], [(.own 53 [((I p2) :: (I p3) :: (.dat 2 ((p4 : List GHour).map Qad)) :: (.own 1 1 (0) (p5)) :: (.own 2 1 (0) (p6)) :: (arrF 24 y6 ++ arrF 24 y7))]), (.own 1 ((y8 : List Int).map Qac)), (.own 1 ((y9 : List Int).map Qac))]⟩) (fun t h => ?_) ?_
   ·subst hk_k19
    obtain ⟨y17, y18⟩ := t
    refine wsq ?_
    refine wrg [mv 6 (I y17), rp [(.tmp 65, I y17), ci 0] (B ((decide (y17 < 0))))] ?_ ?_
    ·exact ⟨amv rfl, abn rfl rfl, trivial⟩
    rcases bft ((decide (y17 < 0))) with hc20 | hc20
    ·replace h := Qav hc20 h
     refine wft hc20 (by kernel_rfl) ?_
     refine Qbf ?_
     refine Qau ?_
     refine blockA_o (by decide) ?_
     refine Qau ?_
     refine Qbe rfl ?_
     refine scopeA_n ?_
     obtain rfl := osi h
     exact ⟨_, (mto (n := 75) (l' := []) (own' := [(.own 53 [((I p2) :: (I p3) :: (.dat 2 ((p4 : List GHour).map Qad)) :: (.own 1 1 (0) (p5)) :: (.own 2 1 (0) (p6)) :: (arrF 24 y6 ++ arrF 24 y7))]), (.own 1 ((y8 : List Int).map Qac)), (.own 1 ((y9 : List Int).map Qac))]) [] [0, 1, 2] [(.own 53 [((I p2) :: (I p3) :: (.dat 2 ((p4 : List GHour).map Qad)) :: (.own 1 1 (0) (p5)) :: (.own 2 1 (0) (p6)) :: (arrF 24 y6 ++ arrF 24 y7))]), (.own 1 ((y8 : List Int).map Qac)), (.own 1 ((y9 : List Int).map Qac))] hφ0 pn (qc (spb (lc rwl (lc rwl (lc (.rn (.plain _ (nld Qas _))) (lc (.rn (Qaj rfl)) (lc (.rn (Qaj rfl)) (Qck (Qa6 fun _ => rwl) (Qa6 fun _ => rwl)))))))) (qc (spr Qaf) (qc (spr Qaf) qn)))), Qc0 (vs := []) trivial rfl (NLt.tup _ nl0) (by kernel_rfl) (Qay (Qb2 (nlc (NLt.of0 nll) (nlc (NLt.of0 nll) (nlc (NLt.of0 (nld Qas _)) (nlc (NLt.own _ _ _ _ (by decide)) (nlc (NLt.own _ _ _ _ (by decide)) (Qeu Qdg Qdg))))))) (Qay (Qd0 Qaf _) (Qay (Qd0 Qaf _) Qbx)))⟩
    ·replace h := Qaw hc20 h
     refine wfn hc20 (by kernel_rfl) ?_
     refine Qam ?_
     refine thn ?_
     obtain ⟨x22, hf21, h⟩ := bno h
     refine wrg [mv 0 (.ref 0 53 0 0), mv 6 (I y17), mv 1 (I p0), mv 8 (I y18), ⟨[fu 103, (.tmp 67, .ref 0 53 0 0), (.tmp 68, I y17), (.tmp 69, I p0), (.tmp 70, I y18)], [(0, (.own 53 [((I p2) :: (I p3) :: (.dat 2 ((p4 : List GHour).map Qad)) :: (.own 1 1 (0) (p5)) :: (.own 2 1 (0) (p6)) :: (arrF 24 y6 ++ arrF 24 y7))])), (1, (.own 1 ((y8 : List Int).map Qac))), (2, (.own 1 ((y9 : List Int).map Qac)))], (.tup []), [(0, (.own 53 [((I p2) :: (I p3) :: (.dat 2 ((p4 : List GHour).map Qad)) :: (.own 1 1 (0) (p5)) :: (.own 2 1 (0) (p6)) :: (arrF 24 x22.1 ++ arrF 24 x22.2.1))])), (1, (.own 1 ((x22.2.2.1 : List Int).map Qac))), (2, (.own 1 ((x22.2.2.2 : List Int).map Qac)))], false⟩] ?_ ?_
     ·exact ⟨amv rfl, amv rfl, amv rfl, amv rfl, Qa4 (first := []) (cap := []) (vs := [.ref 0 53 0 0, I y17, I p0, I y18]) (σr := [(.own 53 [((I p2) :: (I p3) :: (.dat 2 ((p4 : List GHour).map Qad)) :: (.own 1 1 (0) (p5)) :: (.own 2 1 (0) (p6)) :: (arrF 24 y6 ++ arrF 24 y7))]), (.own 1 ((y8 : List Int).map Qac)), (.own 1 ((y9 : List Int).map Qac))]) (σr' := [(.own 53 [((I p2) :: (I p3) :: (.dat 2 ((p4 : List GHour).map Qad)) :: (.own 1 1 (0) (p5)) :: (.own 2 1 (0) (p6)) :: (arrF 24 x22.1 ++ arrF 24 x22.2.1))]), (.own 1 ((x22.2.2.1 : List Int).map Qac)), (.own 1 ((x22.2.2.2 : List Int).map Qac))]) (res' := (.tup [])) [0, 1, 2] rfl enter103 (Qhw N y17 p0 y18 p2 p3 p4 p5 p6 y6 y7 y8 y9 _ hf21) rfl (Qc3 (rnc (Qbz rfl) (rnc (.plain _ nll) (rnc (.plain _ nll) (rnc (.plain _ nll) rn0))))) (slc (Qat (rnc (.plain _ nll) (rnc (.plain _ nll) (rnc (.plain _ (nld Qas _)) (rnc (Qen rfl) (rnc (Qen rfl) (Qck (Qa6 fun _ => (.plain _ nll)) (Qa6 fun _ => (.plain _ nll))))))))) (slc (Qby Qaf) (slc (Qby Qaf) Qa0))) (slc (Qat (rnc (.plain _ nll) (rnc (.plain _ nll) (rnc (.plain _ (nld Qas _)) (rnc (Qgw rfl) (rnc (Qgw rfl) (Qck (Qa6 fun _ => (.plain _ nll)) (Qa6 fun _ => (.plain _ nll))))))))) (slc (Qby Qaf) (slc (Qby Qaf) Qa0))) (.plain _ (NLt.tup _ nl0)) rfl rfl rfl, trivial⟩
     refine Qar [mv 2 (I y5), mv 8 (I y18), rp [(.tmp 72, I y5), (.tmp 73, I y18)] (I (w64 (y5 - y18))), mv 74 (I (w64 (y5 - y18)))] ?_ ?_
     ·exact ⟨amv rfl, amv rfl, abn rfl rfl, aas rfl, trivial⟩
     refine bln ?_
     refine thn ?_
     exact arm (mto (n := 75) [(0, .ref 0 53 0 0), (1, I p0), (2, (I (w64 (y5 - y18))))] [0, 1, 2] [(.own 53 [((I p2) :: (I p3) :: (.dat 2 ((p4 : List GHour).map Qad)) :: (.own 1 1 (0) (p5)) :: (.own 2 1 (0) (p6)) :: (arrF 24 x22.1 ++ arrF 24 x22.2.1))]), (.own 1 ((x22.2.2.1 : List Int).map Qac)), (.own 1 ((x22.2.2.2 : List Int).map Qac))] hφ0 (pc (.rn (rqr rfl)) (pc rwl (pc rwl pn))) (qc (spb (lc rwl (lc rwl (lc (.rn (.plain _ (nld Qas _))) (lc (.rn (Qaj rfl)) (lc (.rn (Qaj rfl)) (Qck (Qa6 fun _ => rwl) (Qa6 fun _ => rwl)))))))) (qc (spr Qaf) (qc (spr Qaf) qn)))) (ih (w64 (y5 - y18), x22.1, x22.2.1, x22.2.2.1, x22.2.2.2) h)
   ·skip
    refine wrg [mv 1 (I p0), mv 16 (I p0)] ?_ ?_
    ·exact ⟨amv rfl, aas rfl, trivial⟩
    refine Qan ?_
    refine wmr (mto (n := 75) (l' := [(0, .ref 0 53 0 0), (1, I p0), (2, I y5), (6, (I ((-1)))), (7, I 0), (8, I 0), (9, I y5), (10, I p0)]) (own' := [(.own 53 [((I p2) :: (I p3) :: (.dat 2 ((p4 : List GHour).map Qad)) :: (.own 1 1 (0) (p5)) :: (.own 2 1 (0) (p6)) :: (arrF 24 y6 ++ arrF 24 y7))]), (.own 1 ((y8 : List Int).map Qac)), (.own 1 ((y9 : List Int).map Qac))]) [(0, .ref 0 53 0 0), (1, I p0), (2, I y5), (6, (I ((-1)))), (7, I 0), (8, I 0), (9, I y5), (10, I p0)] [0, 1, 2] [(.own 53 [((I p2) :: (I p3) :: (.dat 2 ((p4 : List GHour).map Qad)) :: (.own 1 1 (0) (p5)) :: (.own 2 1 (0) (p6)) :: (arrF 24 y6 ++ arrF 24 y7))]), (.own 1 ((y8 : List Int).map Qac)), (.own 1 ((y9 : List Int).map Qac))] hφ0 (pc (.rn (rqr rfl)) (pc rwl (pc rwl (pc rwl (pc rwl (pc rwl (pc rwl (pc rwl pn)))))))) (qc (spb (lc rwl (lc rwl (lc (.rn (.plain _ (nld Qas _))) (lc (.rn (Qaj rfl)) (lc (.rn (Qaj rfl)) (Qck (Qa6 fun _ => rwl) (Qa6 fun _ => rwl)))))))) (qc (spr Qaf) (qc (spr Qaf) qn)))) ?_
    refine Qcc (τ := Int × Int × Int × Int × Int) (fun n t => Qb0 N p0 p2 p3 p4 p5 p6 y6 y7 y8 y9 k19 n t.1 t.2.1 t.2.2.1 t.2.2.2.1 t.2.2.2.2 = some r) (fun ⟨y23, y24, y25, y26, y27⟩ => ⟨mk 75 [(0, .ref 0 53 0 0), (1, I p0), (2, I y5), (6, I y23), (7, I y24), (8, I y25), (9, I y26), (10, I y27)], [(.own 53 [((I p2) :: (I p3) :: (.dat 2 ((p4 : List GHour).map Qad)) :: (.own 1 1 (0) (p5)) :: (.own 2 1 (0) (p6)) :: (arrF 24 y6 ++ arrF 24 y7))]), (.own 1 ((y8 : List Int).map Qac)), (.own 1 ((y9 : List Int).map Qac))]⟩) (fun t h => by rw [Qb0] at h; cases h) (fun n33 ih t h => ?_) N ((-1), 0, 0, y5, p0) h
    obtain ⟨y23, y24, y25, y26, y27⟩ := t
    rw [Qb0] at h
    skip
    refine wsq ?_
    refine wrg [mv 10 (I y27), rp [(.tmp 17, I y27), ci 0] (B ((decide (y27 ≥ 0))))] ?_ ?_
    ·exact ⟨amv rfl, abn rfl rfl, trivial⟩
    rcases bft ((decide (y27 ≥ 0))) with hc34 | hc34
    ·replace h := Qav hc34 h
     refine wft hc34 (by kernel_rfl) ?_
     refine Qam ?_
     refine thn ?_
     refine wsq ?_
     refine Qan ?_
     obtain ⟨k36, hk_k36, h⟩ := jko h
     refine wjn (τ := Int) (fun t => k36 t = some r) (fun y35 => ⟨mk 75 [(0, .ref 0 53 0 0), (1, I p0), (2, I y5), (6, I y23), (7, I y24), (8, I y25), (9, I y35), (10, I y27)], [(.own 53 [((I p2) :: (I p3) :: (.dat 2 ((p4 : List GHour).map Qad)) :: (.own 1 1 (0) (p5)) :: (.own 2 1 (0) (p6)) :: (arrF 24 y6 ++ arrF 24 y7))]), (.own 1 ((y8 : List Int).map Qac)), (.own 1 ((y9 : List Int).map Qac))]⟩) (fun y35 h => ?_) ?_
     ·subst hk_k36
      refine wsq ?_
      refine wrg [mv 9 (I y35), rp [(.tmp 39, I y35), ci 0] (B ((y35 == 0)))] ?_ ?_
      ·exact ⟨amv rfl, abn rfl rfl, trivial⟩
      rcases bft ((y35 == 0)) with hc37 | hc37
      ·replace h := Qav hc37 h
       refine wft hc37 (by kernel_rfl) ?_
       refine Qbf ?_
       refine Qau ?_
       refine blockA_o (by decide) ?_
       refine Qau ?_
       refine Qau ?_
       refine Qbe rfl ?_
       refine thn ?_
       exact ⟨(y23, y25), h, (mto (n := 75) [(0, .ref 0 53 0 0), (1, I p0), (2, I y5), (6, I y23), (8, I y25)] [0, 1, 2] [(.own 53 [((I p2) :: (I p3) :: (.dat 2 ((p4 : List GHour).map Qad)) :: (.own 1 1 (0) (p5)) :: (.own 2 1 (0) (p6)) :: (arrF 24 y6 ++ arrF 24 y7))]), (.own 1 ((y8 : List Int).map Qac)), (.own 1 ((y9 : List Int).map Qac))] hφ0 (pc (.rn (rqr rfl)) (pc rwl (pc rwl (pc rwl (pc rwl pn))))) (qc (spb (lc rwl (lc rwl (lc (.rn (.plain _ (nld Qas _))) (lc (.rn (Qaj rfl)) (lc (.rn (Qaj rfl)) (Qck (Qa6 fun _ => rwl) (Qa6 fun _ => rwl)))))))) (qc (spr Qaf) (qc (spr Qaf) qn))))⟩
      ·replace h := Qaw hc37 h
       refine wfn hc37 (by kernel_rfl) ?_
       refine Qam ?_
       refine thn ?_
       obtain ⟨x39, hf38, h⟩ := bno h
       refine wrg [mv 0 (.ref 0 53 0 0), mv 10 (I y27), ⟨[fu 102, (.tmp 42, .ref 0 53 0 0), (.tmp 43, I y27)], [(0, (.own 53 [((I p2) :: (I p3) :: (.dat 2 ((p4 : List GHour).map Qad)) :: (.own 1 1 (0) (p5)) :: (.own 2 1 (0) (p6)) :: (arrF 24 y6 ++ arrF 24 y7))])), (1, (.own 1 ((y8 : List Int).map Qac))), (2, (.own 1 ((y9 : List Int).map Qac))), (3, .unused)], (.tup [(.agg [I x39.2.1, I x39.2.2]), B x39.1]), [(0, (.own 53 [((I p2) :: (I p3) :: (.dat 2 ((p4 : List GHour).map Qad)) :: (.own 1 1 (0) (p5)) :: (.own 2 1 (0) (p6)) :: (arrF 24 y6 ++ arrF 24 y7))])), (1, (.own 1 ((y8 : List Int).map Qac))), (2, (.own 1 ((y9 : List Int).map Qac))), (3, .own 2 [[I x39.2.1, I x39.2.2]])], false⟩, mv 44 (.tup [(.agg [I x39.2.1, I x39.2.2]), B x39.1]), rp [(.tmp 41, (.tup [(.agg [I x39.2.1, I x39.2.2]), B x39.1]))] (.agg [I x39.2.1, I x39.2.2]), rp [(.tmp 41, (.tup [(.agg [I x39.2.1, I x39.2.2]), B x39.1]))] (B x39.1), ⟨[], [(4, .unused)], .ref 4 2 0 0, [(4, .own 2 [[I 0, I 0]])], false⟩, ⟨[(.tmp 11, .ref 4 2 0 0), (.tmp 45, (.agg [I x39.2.1, I x39.2.2]))], [(4, .own 2 [[I 0, I 0]])], .any, [(4, .own 2 [[I x39.2.1, I x39.2.2]])], false⟩, mv 46 (B x39.1)] ?_ ?_
       ·exact ⟨amv rfl, amv rfl, Qa4 (first := []) (cap := []) (vs := [.ref 0 53 0 0, I y27]) (σr := [(.own 53 [((I p2) :: (I p3) :: (.dat 2 ((p4 : List GHour).map Qad)) :: (.own 1 1 (0) (p5)) :: (.own 2 1 (0) (p6)) :: (arrF 24 y6 ++ arrF 24 y7))]), (.own 1 ((y8 : List Int).map Qac)), (.own 1 ((y9 : List Int).map Qac))]) (σr' := [(.own 53 [((I p2) :: (I p3) :: (.dat 2 ((p4 : List GHour).map Qad)) :: (.own 1 1 (0) (p5)) :: (.own 2 1 (0) (p6)) :: (arrF 24 y6 ++ arrF 24 y7))]), (.own 1 ((y8 : List Int).map Qac)), (.own 1 ((y9 : List Int).map Qac)), (.own 2 [[I x39.2.1, I x39.2.2]])]) (res' := (.tup [(.agg [I x39.2.1, I x39.2.2]), B x39.1])) [0, 1, 2, 3] rfl enter102 (Qhx N y27 p2 p3 p4 p5 p6 y6 y7 y8 y9 _ hf38) rfl (Qc3 (rnc (Qbz rfl) (rnc (.plain _ nll) rn0))) (slc (Qat (rnc (.plain _ nll) (rnc (.plain _ nll) (rnc (.plain _ (nld Qas _)) (rnc (Qen rfl) (rnc (Qen rfl) (Qck (Qa6 fun _ => (.plain _ nll)) (Qa6 fun _ => (.plain _ nll))))))))) (slc (Qby Qaf) (slc (Qby Qaf) Qa0))) (slc (Qat (rnc (.plain _ nll) (rnc (.plain _ nll) (rnc (.plain _ (nld Qas _)) (rnc (Qgw rfl) (rnc (Qgw rfl) (Qck (Qa6 fun _ => (.plain _ nll)) (Qa6 fun _ => (.plain _ nll))))))))) (slc (Qby Qaf) (slc (Qby Qaf) (slc (Qat (rnc (.plain _ nll) (rnc (.plain _ nll) rn0))) Qa0)))) (.plain _ (NLt.tup _ (nlc (NLt.agg _ (nlc nll (nlc nll nl0))) (nlc nll nl0)))) rfl rfl rfl, amv rfl, Qbp rfl rfl, Qbp rfl rfl, Qaz rfl tz64 rfl, ast rfl ti64 (by rfl) rfl (nle rfl) rfl, aas rfl, trivial⟩
       rcases bft (x39.1) with hb40 | hb40
       ·replace h := Qav hb40 h
        rcases bft ((decide (y23 < 0))) with hb41 | hb41
        ·replace h := Qav hb41 h
         refine wrg [mv 12 (B x39.1), rp [(.tmp 47, B x39.1)] (B true), rp [(.tmp 48, B true), (.tmp 6, I y23)] (I y23), rp [(.tmp 48, B true), (.tmp 49, I y23), ci 0] (B ((decide (y23 < 0)))), rp [(.tmp 48, B true), (.tmp 50, (B ((decide (y23 < 0)))))] (B true), sk 51 (B true), sk 51 (B true), sk 51 (B true), sk 51 (B true), rp [(.tmp 48, B true), (.tmp 51, B true), cb true, (.tmp 55, (.lit undef))] (B true), rp [(.tmp 48, B true), (.tmp 56, B true), cb false] (B true)] ?_ ?_
         ·exact ⟨amv rfl, asb hb40 (amv rfl), ag_ (amv rfl), ag_ (abn rfl rfl), asb hb41 (ag_ (amv rfl)), trivial, trivial, trivial, trivial, ag_ (apk rfl rfl), apk rfl rfl, trivial⟩
         refine Qbq (by kernel_rfl) ?_
         obtain ⟨x42, hl43, h⟩ := bno h
         refine Qde [mv 10 (I y27), rb [(.tmp 11, .ref 4 2 0 0)] [(4, .own 2 [[I x39.2.1, I x39.2.2]])] (.ref 4 2 0 1), rb [(.tmp 59, .ref 4 2 0 1)] [(4, .own 2 [[I x39.2.1, I x39.2.2]])] (I x39.2.2), mv 9 (I y35), rb [(.tmp 11, .ref 4 2 0 0)] [(4, .own 2 [[I x39.2.1, I x39.2.2]])] (.ref 4 2 0 0), rb [(.tmp 62, .ref 4 2 0 0)] [(4, .own 2 [[I x39.2.1, I x39.2.2]])] (I x39.2.1), rp [(.tmp 61, I y35), (.tmp 63, I x39.2.1)] (I ((if x39.2.1 < y35 then x39.2.1 else y35))), mv 58 (I y27), mv 60 (I x39.2.2), rp [(.tmp 64, (I ((if x39.2.1 < y35 then x39.2.1 else y35))))] (I x42)] ?_ ?_
         ·exact ⟨amv rfl, afa rfl Try.underlying64 rfl rfl ti3 (by decide) rfl, ald rfl ti3 (by decide) rfl (nle rfl) rfl, amv rfl, afa rfl Try.underlying64 rfl rfl ti3 (by decide) rfl, ald rfl ti3 (by decide) rfl (nle rfl) rfl, Qho rfl, aas rfl, aas rfl, Qe2 hl43 (aas rfl), trivial⟩
         refine bln ?_
         refine thn ?_
         refine Qar [mv 10 (I y27), rp [(.tmp 19, I y27), ci 1] (I (w64 (y27 - 1))), mv 20 (I (w64 (y27 - 1)))] ?_ ?_
         ·exact ⟨amv rfl, abn rfl rfl, aas rfl, trivial⟩
         refine thn ?_
         exact arm (mto (n := 75) [(0, .ref 0 53 0 0), (1, I p0), (2, I y5), (6, I y27), (7, I x39.2.2), (8, I x42), (9, I y35), (10, (I (w64 (y27 - 1))))] [0, 1, 2] [(.own 53 [((I p2) :: (I p3) :: (.dat 2 ((p4 : List GHour).map Qad)) :: (.own 1 1 (0) (p5)) :: (.own 2 1 (0) (p6)) :: (arrF 24 y6 ++ arrF 24 y7))]), (.own 1 ((y8 : List Int).map Qac)), (.own 1 ((y9 : List Int).map Qac))] hφ0 (pc (.rn (rqr rfl)) (pc rwl (pc rwl (pc rwl (pc rwl (pc rwl (pc rwl (pc rwl pn)))))))) (qc (spb (lc rwl (lc rwl (lc (.rn (.plain _ (nld Qas _))) (lc (.rn (Qaj rfl)) (lc (.rn (Qaj rfl)) (Qck (Qa6 fun _ => rwl) (Qa6 fun _ => rwl)))))))) (qc (spr Qaf) (qc (spr Qaf) qn)))) (ih (y27, x39.2.2, x42, y35, w64 (y27 - 1)) h)
        ·replace h := Qaw hb41 h
         refine wrg [mv 12 (B x39.1), rp [(.tmp 47, B x39.1)] (B true), rp [(.tmp 48, B true), (.tmp 6, I y23)] (I y23), rp [(.tmp 48, B true), (.tmp 49, I y23), ci 0] (B ((decide (y23 < 0)))), rp [(.tmp 48, B true), (.tmp 50, (B ((decide (y23 < 0)))))] (B false), rb [(.tmp 51, B false), (.tmp 11, .ref 4 2 0 0)] [(4, .own 2 [[I x39.2.1, I x39.2.2]])] (.ref 4 2 0 1), rb [(.tmp 51, B false), (.tmp 52, .ref 4 2 0 1)] [(4, .own 2 [[I x39.2.1, I x39.2.2]])] (I x39.2.2), rp [(.tmp 51, B false), (.tmp 7, I y24)] (I y24), rp [(.tmp 51, B false), (.tmp 53, I x39.2.2), (.tmp 54, I y24)] (B ((decide (x39.2.2 < y24)))), rp [(.tmp 48, B true), (.tmp 51, B false), cb true, (.tmp 55, (B ((decide (x39.2.2 < y24)))))] (B ((decide (x39.2.2 < y24)))), rp [(.tmp 48, B true), (.tmp 56, (B ((decide (x39.2.2 < y24))))), cb false] (B ((decide (x39.2.2 < y24))))] ?_ ?_
         ·exact ⟨amv rfl, asb hb40 (amv rfl), ag_ (amv rfl), ag_ (abn rfl rfl), asb hb41 (ag_ (amv rfl)), ag_ (afa rfl Try.underlying64 rfl rfl ti3 (by decide) rfl), ag_ (ald rfl ti3 (by decide) rfl (nle rfl) rfl), ag_ (amv rfl), ag_ (abn rfl rfl), ag_ (apk rfl rfl), apk rfl rfl, trivial⟩
         rcases bft ((decide (x39.2.2 < y24))) with hc44 | hc44
         ·replace h := Qav hc44 h
          refine wft hc44 (by kernel_rfl) ?_
          obtain ⟨x45, hl46, h⟩ := bno h
          refine Qde [mv 10 (I y27), rb [(.tmp 11, .ref 4 2 0 0)] [(4, .own 2 [[I x39.2.1, I x39.2.2]])] (.ref 4 2 0 1), rb [(.tmp 59, .ref 4 2 0 1)] [(4, .own 2 [[I x39.2.1, I x39.2.2]])] (I x39.2.2), mv 9 (I y35), rb [(.tmp 11, .ref 4 2 0 0)] [(4, .own 2 [[I x39.2.1, I x39.2.2]])] (.ref 4 2 0 0), rb [(.tmp 62, .ref 4 2 0 0)] [(4, .own 2 [[I x39.2.1, I x39.2.2]])] (I x39.2.1), rp [(.tmp 61, I y35), (.tmp 63, I x39.2.1)] (I ((if x39.2.1 < y35 then x39.2.1 else y35))), mv 58 (I y27), mv 60 (I x39.2.2), rp [(.tmp 64, (I ((if x39.2.1 < y35 then x39.2.1 else y35))))] (I x45)] ?_ ?_
          ·exact ⟨amv rfl, afa rfl Try.underlying64 rfl rfl ti3 (by decide) rfl, ald rfl ti3 (by decide) rfl (nle rfl) rfl, amv rfl, afa rfl Try.underlying64 rfl rfl ti3 (by decide) rfl, ald rfl ti3 (by decide) rfl (nle rfl) rfl, Qho rfl, aas rfl, aas rfl, Qe2 hl46 (aas rfl), trivial⟩
          refine bln ?_
          refine thn ?_
          refine Qar [mv 10 (I y27), rp [(.tmp 19, I y27), ci 1] (I (w64 (y27 - 1))), mv 20 (I (w64 (y27 - 1)))] ?_ ?_
          ·exact ⟨amv rfl, abn rfl rfl, aas rfl, trivial⟩
          refine thn ?_
          exact arm (mto (n := 75) [(0, .ref 0 53 0 0), (1, I p0), (2, I y5), (6, I y27), (7, I x39.2.2), (8, I x45), (9, I y35), (10, (I (w64 (y27 - 1))))] [0, 1, 2] [(.own 53 [((I p2) :: (I p3) :: (.dat 2 ((p4 : List GHour).map Qad)) :: (.own 1 1 (0) (p5)) :: (.own 2 1 (0) (p6)) :: (arrF 24 y6 ++ arrF 24 y7))]), (.own 1 ((y8 : List Int).map Qac)), (.own 1 ((y9 : List Int).map Qac))] hφ0 (pc (.rn (rqr rfl)) (pc rwl (pc rwl (pc rwl (pc rwl (pc rwl (pc rwl (pc rwl pn)))))))) (qc (spb (lc rwl (lc rwl (lc (.rn (.plain _ (nld Qas _))) (lc (.rn (Qaj rfl)) (lc (.rn (Qaj rfl)) (Qck (Qa6 fun _ => rwl) (Qa6 fun _ => rwl)))))))) (qc (spr Qaf) (qc (spr Qaf) qn)))) (ih (y27, x39.2.2, x45, y35, w64 (y27 - 1)) h)
         ·replace h := Qaw hc44 h
          refine wfn hc44 (by kernel_rfl) ?_
          refine Qam ?_
          refine bln ?_
          refine thn ?_
          refine Qar [mv 10 (I y27), rp [(.tmp 19, I y27), ci 1] (I (w64 (y27 - 1))), mv 20 (I (w64 (y27 - 1)))] ?_ ?_
          ·exact ⟨amv rfl, abn rfl rfl, aas rfl, trivial⟩
          refine thn ?_
          exact arm (mto (n := 75) [(0, .ref 0 53 0 0), (1, I p0), (2, I y5), (6, I y23), (7, I y24), (8, I y25), (9, I y35), (10, (I (w64 (y27 - 1))))] [0, 1, 2] [(.own 53 [((I p2) :: (I p3) :: (.dat 2 ((p4 : List GHour).map Qad)) :: (.own 1 1 (0) (p5)) :: (.own 2 1 (0) (p6)) :: (arrF 24 y6 ++ arrF 24 y7))]), (.own 1 ((y8 : List Int).map Qac)), (.own 1 ((y9 : List Int).map Qac))] hφ0 (pc (.rn (rqr rfl)) (pc rwl (pc rwl (pc rwl (pc rwl (pc rwl (pc rwl (pc rwl pn)))))))) (qc (spb (lc rwl (lc rwl (lc (.rn (.plain _ (nld Qas _))) (lc (.rn (Qaj rfl)) (lc (.rn (Qaj rfl)) (Qck (Qa6 fun _ => rwl) (Qa6 fun _ => rwl)))))))) (qc (spr Qaf) (qc (spr Qaf) qn)))) (ih (y23, y24, y25, y35, w64 (y27 - 1)) h)
       ·replace h := Qaw hb40 h
        refine wrg [mv 12 (B x39.1), rp [(.tmp 47, B x39.1)] (B false), sk 48 (B false), sk 48 (B false), sk 48 (B false), sk 51 (.lit undef), sk 51 (.lit undef), sk 51 (.lit undef), sk 51 (.lit undef), sk 48 (B false), rp [(.tmp 48, B false), (.tmp 56, (.lit undef)), cb false] (B false)] ?_ ?_
        ·exact ⟨amv rfl, asb hb40 (amv rfl), trivial, trivial, trivial, trivial, trivial, trivial, trivial, trivial, apk rfl rfl, trivial⟩
        refine Qey (by kernel_rfl) ?_
        refine Qam ?_
        refine bln ?_
        refine thn ?_
        refine Qar [mv 10 (I y27), rp [(.tmp 19, I y27), ci 1] (I (w64 (y27 - 1))), mv 20 (I (w64 (y27 - 1)))] ?_ ?_
        ·exact ⟨amv rfl, abn rfl rfl, aas rfl, trivial⟩
        refine thn ?_
        exact arm (mto (n := 75) [(0, .ref 0 53 0 0), (1, I p0), (2, I y5), (6, I y23), (7, I y24), (8, I y25), (9, I y35), (10, (I (w64 (y27 - 1))))] [0, 1, 2] [(.own 53 [((I p2) :: (I p3) :: (.dat 2 ((p4 : List GHour).map Qad)) :: (.own 1 1 (0) (p5)) :: (.own 2 1 (0) (p6)) :: (arrF 24 y6 ++ arrF 24 y7))]), (.own 1 ((y8 : List Int).map Qac)), (.own 1 ((y9 : List Int).map Qac))] hφ0 (pc (.rn (rqr rfl)) (pc rwl (pc rwl (pc rwl (pc rwl (pc rwl (pc rwl (pc rwl pn)))))))) (qc (spb (lc rwl (lc rwl (lc (.rn (.plain _ (nld Qas _))) (lc (.rn (Qaj rfl)) (lc (.rn (Qaj rfl)) (Qck (Qa6 fun _ => rwl) (Qa6 fun _ => rwl)))))))) (qc (spr Qaf) (qc (spr Qaf) qn)))) (ih (y23, y24, y25, y35, w64 (y27 - 1)) h)
     ·skip
      refine wrg [mv 10 (I y27), mv 1 (I p0), rp [(.tmp 21, I y27), (.tmp 22, I p0)] (B ((decide (y27 < p0))))] ?_ ?_
      ·exact ⟨amv rfl, amv rfl, abn rfl rfl, trivial⟩
      rcases bft ((decide (y27 < p0))) with hc47 | hc47
      ·replace h := Qav hc47 h
       refine wft hc47 (by kernel_rfl) ?_
       obtain ⟨hi48, h⟩ := cko h
       obtain ⟨hi48a, hi48b⟩ := Qba hi48
       obtain ⟨x49, hg50, h⟩ := bno h
       obtain ⟨x51, hl52, h⟩ := bno h
       refine Qde [mv 9 (I y26), mv 0 (.ref 0 53 0 0), rb [(.tmp 25, .ref 0 53 0 0)] [(0, (.own 53 [((I p2) :: (I p3) :: (.dat 2 ((p4 : List GHour).map Qad)) :: (.own 1 1 (0) (p5)) :: (.own 2 1 (0) (p6)) :: (arrF 24 y6 ++ arrF 24 y7))]))] (.ref 0 53 0 0), rb [(.tmp 26, .ref 0 53 0 0)] [(0, (.own 53 [((I p2) :: (I p3) :: (.dat 2 ((p4 : List GHour).map Qad)) :: (.own 1 1 (0) (p5)) :: (.own 2 1 (0) (p6)) :: (arrF 24 y6 ++ arrF 24 y7))]))] (.ref 0 53 0 0), rb [(.tmp 27, .ref 0 53 0 0)] [(0, (.own 53 [((I p2) :: (I p3) :: (.dat 2 ((p4 : List GHour).map Qad)) :: (.own 1 1 (0) (p5)) :: (.own 2 1 (0) (p6)) :: (arrF 24 y6 ++ arrF 24 y7))]))] (.ref 0 53 0 0), rb [(.tmp 28, .ref 0 53 0 0)] [(0, (.own 53 [((I p2) :: (I p3) :: (.dat 2 ((p4 : List GHour).map Qad)) :: (.own 1 1 (0) (p5)) :: (.own 2 1 (0) (p6)) :: (arrF 24 y6 ++ arrF 24 y7))]))] (I p2), mv 0 (.ref 0 53 0 0), rb [(.tmp 30, .ref 0 53 0 0)] [(0, (.own 53 [((I p2) :: (I p3) :: (.dat 2 ((p4 : List GHour).map Qad)) :: (.own 1 1 (0) (p5)) :: (.own 2 1 (0) (p6)) :: (arrF 24 y6 ++ arrF 24 y7))]))] (.ref 0 53 0 0), rb [(.tmp 31, .ref 0 53 0 0)] [(0, (.own 53 [((I p2) :: (I p3) :: (.dat 2 ((p4 : List GHour).map Qad)) :: (.own 1 1 (0) (p5)) :: (.own 2 1 (0) (p6)) :: (arrF 24 y6 ++ arrF 24 y7))]))] (.ref 0 53 0 4), rb [(.tmp 32, .ref 0 53 0 4)] [(0, (.own 53 [((I p2) :: (I p3) :: (.dat 2 ((p4 : List GHour).map Qad)) :: (.own 1 1 (0) (p5)) :: (.own 2 1 (0) (p6)) :: (arrF 24 y6 ++ arrF 24 y7))]))] (.own 2 1 (0) (p6)), mv 10 (I y27), rb [(.tmp 33, (.own 2 1 (0) (p6))), (.tmp 34, I y27)] [(2, (.own 1 ((y9 : List Int).map Qac)))] (.ref 2 1 (y27.toNat) 0), rb [(.tmp 35, (.ref 2 1 (y27.toNat) 0))] [(2, (.own 1 ((y9 : List Int).map Qac)))] (I x49), rp [(.tmp 29, I p2), (.tmp 36, I x49)] (I (w64 (p2 - x49))), rp [(.tmp 24, I y26), (.tmp 37, (I (w64 (p2 - x49))))] (I ((if (w64 (p2 - x49)) < y26 then w64 (p2 - x49) else y26))), rp [(.tmp 38, (I ((if (w64 (p2 - x49)) < y26 then w64 (p2 - x49) else y26))))] (I x51)] ?_ ?_
       ·exact ⟨amv rfl, amv rfl, Qci rfl, afa rfl Try.underlying152 rfl rfl ti47 (by decide) rfl, afa rfl Try.underlying47 rfl rfl ti3 (by decide) rfl, ald rfl ti3 (by decide) rfl (nle rfl) rfl, amv rfl, Qci rfl, afa rfl Try.underlying152 rfl rfl ti23 (by decide) rfl, ald rfl ti23 (by decide) rfl (nle rfl) rfl, amv rfl, aio rfl Try.underlying23 ti3 (odt hi48a) (odt hi48b) (Nat.zero_add _), ald rfl ti3 (by decide) (mgt Qac hg50) (nle rfl) rfl, abn rfl rfl, Qho rfl, Qe2 hl52 (aas rfl), trivial⟩
       refine thn ?_
       exact ⟨(x51), h, (mto (n := 75) [(0, .ref 0 53 0 0), (1, I p0), (2, I y5), (6, I y23), (7, I y24), (8, I y25), (9, I x51), (10, I y27)] [0, 1, 2] [(.own 53 [((I p2) :: (I p3) :: (.dat 2 ((p4 : List GHour).map Qad)) :: (.own 1 1 (0) (p5)) :: (.own 2 1 (0) (p6)) :: (arrF 24 y6 ++ arrF 24 y7))]), (.own 1 ((y8 : List Int).map Qac)), (.own 1 ((y9 : List Int).map Qac))] hφ0 (pc (.rn (rqr rfl)) (pc rwl (pc rwl (pc rwl (pc rwl (pc rwl (pc rwl (pc rwl pn)))))))) (qc (spb (lc rwl (lc rwl (lc (.rn (.plain _ (nld Qas _))) (lc (.rn (Qaj rfl)) (lc (.rn (Qaj rfl)) (Qck (Qa6 fun _ => rwl) (Qa6 fun _ => rwl)))))))) (qc (spr Qaf) (qc (spr Qaf) qn))))⟩
      ·replace h := Qaw hc47 h
       refine wfn hc47 (by kernel_rfl) ?_
       refine Qam ?_
       refine thn ?_
       exact ⟨(y26), h, (mto (n := 75) [(0, .ref 0 53 0 0), (1, I p0), (2, I y5), (6, I y23), (7, I y24), (8, I y25), (9, I y26), (10, I y27)] [0, 1, 2] [(.own 53 [((I p2) :: (I p3) :: (.dat 2 ((p4 : List GHour).map Qad)) :: (.own 1 1 (0) (p5)) :: (.own 2 1 (0) (p6)) :: (arrF 24 y6 ++ arrF 24 y7))]), (.own 1 ((y8 : List Int).map Qac)), (.own 1 ((y9 : List Int).map Qac))] hφ0 (pc (.rn (rqr rfl)) (pc rwl (pc rwl (pc rwl (pc rwl (pc rwl (pc rwl (pc rwl pn)))))))) (qc (spb (lc rwl (lc rwl (lc (.rn (.plain _ (nld Qas _))) (lc (.rn (Qaj rfl)) (lc (.rn (Qaj rfl)) (Qck (Qa6 fun _ => rwl) (Qa6 fun _ => rwl)))))))) (qc (spr Qaf) (qc (spr Qaf) qn))))⟩
    ·replace h := Qaw hc34 h
     refine wfn hc34 (by kernel_rfl) ?_
     refine Qbf ?_
     refine Qau ?_
     refine Qau ?_
     refine Qbe rfl ?_
     refine thn ?_
     exact ⟨(y23, y25), h, (mto (n := 75) [(0, .ref 0 53 0 0), (1, I p0), (2, I y5), (6, I y23), (8, I y25)] [0, 1, 2] [(.own 53 [((I p2) :: (I p3) :: (.dat 2 ((p4 : List GHour).map Qad)) :: (.own 1 1 (0) (p5)) :: (.own 2 1 (0) (p6)) :: (arrF 24 y6 ++ arrF 24 y7))]), (.own 1 ((y8 : List Int).map Qac)), (.own 1 ((y9 : List Int).map Qac))] hφ0 (pc (.rn (rqr rfl)) (pc rwl (pc rwl (pc rwl (pc rwl pn))))) (qc (spb (lc rwl (lc rwl (lc (.rn (.plain _ (nld Qas _))) (lc (.rn (Qaj rfl)) (lc (.rn (Qaj rfl)) (Qck (Qa6 fun _ => rwl) (Qa6 fun _ => rwl)))))))) (qc (spr Qaf) (qc (spr Qaf) qn))))⟩
  ·replace h := Qaw hc16 h
   refine wfn hc16 (by kernel_rfl) ?_
   refine Qbf ?_
   refine Qau ?_
   refine Qau ?_
   refine Qbe rfl ?_
   refine scopeA_n ?_
   obtain rfl := osi h
   exact ⟨_, (mto (n := 75) (l' := []) (own' := [(.own 53 [((I p2) :: (I p3) :: (.dat 2 ((p4 : List GHour).map Qad)) :: (.own 1 1 (0) (p5)) :: (.own 2 1 (0) (p6)) :: (arrF 24 y6 ++ arrF 24 y7))]), (.own 1 ((y8 : List Int).map Qac)), (.own 1 ((y9 : List Int).map Qac))]) [] [0, 1, 2] [(.own 53 [((I p2) :: (I p3) :: (.dat 2 ((p4 : List GHour).map Qad)) :: (.own 1 1 (0) (p5)) :: (.own 2 1 (0) (p6)) :: (arrF 24 y6 ++ arrF 24 y7))]), (.own 1 ((y8 : List Int).map Qac)), (.own 1 ((y9 : List Int).map Qac))] hφ0 pn (qc (spb (lc rwl (lc rwl (lc (.rn (.plain _ (nld Qas _))) (lc (.rn (Qaj rfl)) (lc (.rn (Qaj rfl)) (Qck (Qa6 fun _ => rwl) (Qa6 fun _ => rwl)))))))) (qc (spr Qaf) (qc (spr Qaf) qn)))), Qc0 (vs := []) trivial rfl (NLt.tup _ nl0) (by kernel_rfl) (Qay (Qb2 (nlc (NLt.of0 nll) (nlc (NLt.of0 nll) (nlc (NLt.of0 (nld Qas _)) (nlc (NLt.own _ _ _ _ (by decide)) (nlc (NLt.own _ _ _ _ (by decide)) (Qeu Qdg Qdg))))))) (Qay (Qd0 Qaf _) (Qay (Qd0 Qaf _) Qbx)))⟩

def Qco (N : Nat) (p0 : Int) (p2 : (List GHour)) (p4 : (List Int)) (k14 : (List Int) → Option (List Int)) : Nat → Int → (List Int) → Option (List Int)
  | 0, _, _ => none
  | n19 + 1, y15, y16 =>
    bif (decide (y15 < (w64 ((((p2.length : Int).toNat : Nat) : Int) - 1)))) then
     Qca (fun y21 =>
       (getI p4 y15).bind fun x23 =>
       bif (decide (x23 < p0)) then
        chk (decide (0 ≤ y15) && decide (y15.toNat < (p2.length : Int).toNat)) <|
        (y21[y15.toNat]?).bind fun x29 =>
        chk (decide (0 ≤ w64 (y15 + 1)) && decide ((w64 (y15 + 1)).toNat < (p2.length : Int).toNat)) <|
        (y21[(w64 (y15 + 1)).toNat]?).bind fun x32 =>
        chk (decide (0 ≤ y15) && decide (y15.toNat < (p2.length : Int).toNat)) <|
        (y21[y15.toNat]?).bind fun _ =>
        Qco N p0 p2 p4 k14 n19 (w64 (y15 + 1)) (y21.set y15.toNat (if x32 > x29 then x32 else x29))
       else
        Qco N p0 p2 p4 k14 n19 (w64 (y15 + 1)) y21) fun k22 : (List Int) → Option (List Int) =>
     (getI p4 y15).bind fun x37 =>
     bif (decide (x37 > 0)) then
      chk (decide (0 ≤ w64 (y15 + 1)) && decide ((w64 (y15 + 1)).toNat < (p2.length : Int).toNat)) <|
      (y16[(w64 (y15 + 1)).toNat]?).bind fun x43 =>
      chk (decide (0 ≤ y15) && decide (y15.toNat < (p2.length : Int).toNat)) <|
      (y16[y15.toNat]?).bind fun x46 =>
      chk (decide (0 ≤ w64 (y15 + 1)) && decide ((w64 (y15 + 1)).toNat < (p2.length : Int).toNat)) <|
      (y16[(w64 (y15 + 1)).toNat]?).bind fun _ =>
      k22 (y16.set ((w64 (y15 + 1)).toNat) (if x46 > x43 then x46 else x43))
     else
      k22 (y16)
    else
     k14 (y16)
def Qc7 (N : Nat) (p0 : Int) (p2 : (List GHour)) (p4 : (List Int)) (k6 : (List Int) → Option (List Int)) : Nat → Int → (List Int) → Option (List Int)
  | 0, _, _ => none
  | n11 + 1, y7, y8 =>
    bif (decide (y7 < (p2.length : Int))) then
     Qca (fun y13 =>
       Qc7 N p0 p2 p4 k6 n11 (w64 (y7 + 1)) y13) fun k14 : (List Int) → Option (List Int) =>
     Qco N p0 p2 p4 k14 N 0 y8
    else
     k6 (y8)
def Qcg (N : Nat) (p2 : (List GHour)) (y51 : Int) (k58 : (List Int) → Option (List Int)) : (List (GStair × Int)) → (List Int) → Option (List Int)
  | [], y71 =>
    k58 (y71)
  | x74 :: q75, y71 =>
    bif (decide (x74.2 > 0)) then
     chk (decide (0 ≤ y51) && decide (y51.toNat < (p2.length : Int).toNat)) <|
     (y71[y51.toNat]?).bind fun _ =>
     Qcg N p2 y51 k58 q75 (y71.set y51.toNat x74.1.Price)
    else
     Qcg N p2 y51 k58 q75 y71
def Qc6 (N : Nat) (p2 : (List GHour)) (p3 : (List Int)) (k4 : (List Int) → Option (List Int)) : Nat → Int → (List Int) → Option (List Int)
  | 0, _, _ => none
  | n55 + 1, y51, y52 =>
    bif (decide (y51 < (p2.length : Int))) then
     Qca (fun y57 =>
       Qc6 N p2 p3 k4 n55 (w64 (y51 + 1)) y57) fun k58 : (List Int) → Option (List Int) =>
     (getI p2 y51).bind fun x59 =>
     (getI p3 y51).bind fun x63 =>
     (Qe8 N x59 x63).bind fun _ =>
     (Qe7 N x59.Use x59.Stairs x63).bind fun q69 =>
     Qcg N p2 y51 k58 q69 y52
    else
     k4 (y52)
def Qfj (N : Nat) (p0 : Int) (_p1 : Int) (p2 : (List GHour)) (p3 : (List Int)) (p4 : (List Int)) (_p5 : (Nat → Int)) (_p6 : (Nat → Int)) : Option (List Int) :=
  chk (decide (0 ≤ (p2.length : Int)) && decide (8 * (p2.length : Int) ≤ 281474976710656) && decide ((p2.length : Int) ≤ 9223372036854775807)) <|
  Qca (fun y3 =>
    Qca (fun y5 =>
      some y5) fun k6 : (List Int) → Option (List Int) =>
    Qc7 N p0 p2 p4 k6 N 0 y3) fun k4 : (List Int) → Option (List Int) =>
  Qc6 N p2 p3 k4 N 0 (List.replicate (p2.length : Int).toNat 0)
set_option maxRecDepth 100000 in
set_option maxHeartbeats 4000000 in
theorem Qhj (N : Nat) (p0 : Int) (p1 : Int) (p2 : (List GHour)) (p3 : (List Int)) (p4 : (List Int)) (p5 : (Nat → Int)) (p6 : (Nat → Int)) (r : (List Int)) (h : Qfj N p0 p1 p2 p3 p4 p5 p6 = some r) : Spec Try.prog 78 [(.dptr ((I (p0)) :: (I (p1)) :: (.dat 2 ((p2 : List GHour).map Qad)) :: (.dat 1 ((p3 : List Int).map Qac)) :: (.dat 1 ((p4 : List Int).map Qac)) :: (arrF 24 p5 ++ arrF 24 p6)) 0)] [] (.own 0 1 (0) ((p2.length : Int).toNat)) [(.own 1 ((r : List Int).map Qac))] := by
  refine Qaq Try.func78 rfl 1 (nle rfl) (fun X φ0 w0 hφ0 => ?_)
  unfold Qfj at h
  refine Qc1 ?_
  refine wrg [mc (.slice none 0 0)] ?_ ?_
  ·exact ⟨aas rfl, trivial⟩
  obtain ⟨hm2, h⟩ := cko h
  refine wrg [mv 0 (.dptr ((I p0) :: (I p1) :: (.dat 2 ((p2 : List GHour).map Qad)) :: (.dat 1 ((p3 : List Int).map Qac)) :: (.dat 1 ((p4 : List Int).map Qac)) :: (arrF 24 p5 ++ arrF 24 p6)) 0), mv 9 (.dptr ((I p0) :: (I p1) :: (.dat 2 ((p2 : List GHour).map Qad)) :: (.dat 1 ((p3 : List Int).map Qac)) :: (.dat 1 ((p4 : List Int).map Qac)) :: (arrF 24 p5 ++ arrF 24 p6)) 0), mv 10 (.dptr ((I p0) :: (I p1) :: (.dat 2 ((p2 : List GHour).map Qad)) :: (.dat 1 ((p3 : List Int).map Qac)) :: (.dat 1 ((p4 : List Int).map Qac)) :: (arrF 24 p5 ++ arrF 24 p6)) 0), rp [(.tmp 11, (.dptr ((I p0) :: (I p1) :: (.dat 2 ((p2 : List GHour).map Qad)) :: (.dat 1 ((p3 : List Int).map Qac)) :: (.dat 1 ((p4 : List Int).map Qac)) :: (arrF 24 p5 ++ arrF 24 p6)) 0))] (.dptr ((I p0) :: (I p1) :: (.dat 2 ((p2 : List GHour).map Qad)) :: (.dat 1 ((p3 : List Int).map Qac)) :: (.dat 1 ((p4 : List Int).map Qac)) :: (arrF 24 p5 ++ arrF 24 p6)) 2), rp [(.tmp 12, (.dptr ((I p0) :: (I p1) :: (.dat 2 ((p2 : List GHour).map Qad)) :: (.dat 1 ((p3 : List Int).map Qac)) :: (.dat 1 ((p4 : List Int).map Qac)) :: (arrF 24 p5 ++ arrF 24 p6)) 2))] (.dat 2 ((p2 : List GHour).map Qad)), rp [(.tmp 13, (.dat 2 ((p2 : List GHour).map Qad)))] (I ((p2.length : Int))), ⟨[(.tmp 14, (I ((p2.length : Int)))), (.tmp 14, (I ((p2.length : Int))))], [(0, .unused)], (.own 0 1 (0) ((p2.length : Int).toNat)), [(0, (.own 1 ((List.replicate (p2.length : Int).toNat 0 : List Int).map Qac)))], false⟩, ⟨[], [(1, .unused)], .ref 1 1 0 0, [(1, .own 1 [[nilS]])], false⟩, ⟨[(.tmp 3, .ref 1 1 0 0), (.tmp 15, (.own 0 1 (0) ((p2.length : Int).toNat)))], [(1, .own 1 [[nilS]])], .any, [(1, (.own 1 [[(.own 0 1 (0) ((p2.length : Int).toNat))]]))], false⟩] ?_ ?_
  ·exact ⟨amv rfl, anc rfl rfl, afd rfl Try.underlying152 rfl rfl ti47 (by decide) rfl, afd rfl Try.underlying47 rfl rfl ti45 (by decide) rfl, ald_ rfl ti45 (by decide) (nle rfl) rfl, alm (c := Qad) (l := p2) (aln rfl Try.underlying45 rfl), Qf7 rfl Try.underlying23 te3 tz3 rfl (and3a hm2) rfl (and3b hm2) (and3c' hm2) (Qia Qac rfl), Qaz rfl tz23 rfl, ast rfl ti23 (by rfl) rfl (nle rfl) rfl, trivial⟩
  obtain ⟨k4, hk_k4, h⟩ := jko h
  refine wjn (τ := (List Int)) (fun t => k4 t = some r) (fun y3 => ⟨mk 111 [(0, (.dptr ((I p0) :: (I p1) :: (.dat 2 ((p2 : List GHour).map Qad)) :: (.dat 1 ((p3 : List Int).map Qac)) :: (.dat 1 ((p4 : List Int).map Qac)) :: (arrF 24 p5 ++ arrF 24 p6)) 0)), (3, .ref 0 1 0 0)], [(.own 1 [[(.own 1 1 (0) ((p2.length : Int).toNat))]]), (.own 1 ((y3 : List Int).map Qac))]⟩) (fun y3 h => ?_) ?_
  ·subst hk_k4
   obtain ⟨k6, hk_k6, h⟩ := jko h
   refine wjn (τ := (List Int)) (fun t => k6 t = some r) (fun y5 => ⟨mk 111 [(3, .ref 0 1 0 0)], [(.own 1 [[(.own 1 1 (0) ((p2.length : Int).toNat))]]), (.own 1 ((y5 : List Int).map Qac))]⟩) (fun y5 h => ?_) ?_
   ·subst hk_k6
    refine wrg [rb [(.tmp 3, .ref 0 1 0 0)] [(0, (.own 1 [[(.own 1 1 (0) ((p2.length : Int).toNat))]]))] (.own 1 1 (0) ((p2.length : Int).toNat)), mv 110 (.own 1 1 (0) ((p2.length : Int).toNat))] ?_ ?_
    ·exact ⟨ald rfl ti23 (by decide) rfl (nle rfl) rfl, aas rfl, trivial⟩
    refine wmr (mto (n := 111) (l' := [(2, (.own 0 1 (0) ((p2.length : Int).toNat)))]) (own' := [(.own 1 ((y5 : List Int).map Qac))]) [(2, (.own 1 1 (0) ((p2.length : Int).toNat)))] [1] [(.own 1 ((y5 : List Int).map Qac))] hφ0 (pc (.rn (Qaj rfl)) pn) (qc (spr Qaf) qn)) ?_
    refine Qak ?_
    obtain rfl := osi h
    exact ⟨_, Mor.rfl, Qc0 (vs := [(.own 0 1 (0) ((p2.length : Int).toNat))]) ⟨rot (by kernel_rfl), trivial⟩ rfl (NLt.own _ _ _ _ (by decide)) (by kernel_rfl) (Qay (Qd0 Qaf _) Qbx)⟩
   ·skip
    refine wrg [mv 0 (.dptr ((I p0) :: (I p1) :: (.dat 2 ((p2 : List GHour).map Qad)) :: (.dat 1 ((p3 : List Int).map Qac)) :: (.dat 1 ((p4 : List Int).map Qac)) :: (arrF 24 p5 ++ arrF 24 p6)) 0), mv 46 (.dptr ((I p0) :: (I p1) :: (.dat 2 ((p2 : List GHour).map Qad)) :: (.dat 1 ((p3 : List Int).map Qac)) :: (.dat 1 ((p4 : List Int).map Qac)) :: (arrF 24 p5 ++ arrF 24 p6)) 0), mv 47 (.dptr ((I p0) :: (I p1) :: (.dat 2 ((p2 : List GHour).map Qad)) :: (.dat 1 ((p3 : List Int).map Qac)) :: (.dat 1 ((p4 : List Int).map Qac)) :: (arrF 24 p5 ++ arrF 24 p6)) 0), rp [(.tmp 48, (.dptr ((I p0) :: (I p1) :: (.dat 2 ((p2 : List GHour).map Qad)) :: (.dat 1 ((p3 : List Int).map Qac)) :: (.dat 1 ((p4 : List Int).map Qac)) :: (arrF 24 p5 ++ arrF 24 p6)) 0))] (.dptr ((I p0) :: (I p1) :: (.dat 2 ((p2 : List GHour).map Qad)) :: (.dat 1 ((p3 : List Int).map Qac)) :: (.dat 1 ((p4 : List Int).map Qac)) :: (arrF 24 p5 ++ arrF 24 p6)) 2), rp [(.tmp 49, (.dptr ((I p0) :: (I p1) :: (.dat 2 ((p2 : List GHour).map Qad)) :: (.dat 1 ((p3 : List Int).map Qac)) :: (.dat 1 ((p4 : List Int).map Qac)) :: (arrF 24 p5 ++ arrF 24 p6)) 2))] (.dat 2 ((p2 : List GHour).map Qad)), rp [(.tmp 50, (.dat 2 ((p2 : List GHour).map Qad)))] (I ((p2.length : Int))), mc (.int .i64 0)] ?_ ?_
    ·exact ⟨amv rfl, anc rfl rfl, afd rfl Try.underlying152 rfl rfl ti47 (by decide) rfl, afd rfl Try.underlying47 rfl rfl ti45 (by decide) rfl, ald_ rfl ti45 (by decide) (nle rfl) rfl, alm (c := Qad) (l := p2) (aln rfl Try.underlying45 rfl), amv rfl, trivial⟩
    refine Qan ?_
    refine wmr (mto (n := 111) (l' := [(0, (.dptr ((I p0) :: (I p1) :: (.dat 2 ((p2 : List GHour).map Qad)) :: (.dat 1 ((p3 : List Int).map Qac)) :: (.dat 1 ((p4 : List Int).map Qac)) :: (arrF 24 p5 ++ arrF 24 p6)) 0)), (3, .ref 0 1 0 0), (51, (I ((p2.length : Int)))), (52, I 0)]) (own' := [(.own 1 [[(.own 1 1 (0) ((p2.length : Int).toNat))]]), (.own 1 ((y3 : List Int).map Qac))]) [(0, (.dptr ((I p0) :: (I p1) :: (.dat 2 ((p2 : List GHour).map Qad)) :: (.dat 1 ((p3 : List Int).map Qac)) :: (.dat 1 ((p4 : List Int).map Qac)) :: (arrF 24 p5 ++ arrF 24 p6)) 0)), (3, .ref 0 1 0 0), (51, (I ((p2.length : Int)))), (52, I 0)] [0, 1] [(.own 1 [[(.own 1 1 (0) ((p2.length : Int).toNat))]]), (.own 1 ((y3 : List Int).map Qac))] hφ0 (pc (.rn (.plain _ (NLt.dptr _ _ (nlc nll (nlc nll (nlc (nld Qas _) (nlc (nld Qaf _) (nlc (nld Qaf _) (Qeu Qdg Qdg))))))))) (pc (.rn (rqr rfl)) (pc rwl (pc rwl pn)))) (qc (spb (lc (.rn (Qaj rfl)) ln)) (qc (spr Qaf) qn))) ?_
    refine Qcc (τ := Int × (List Int)) (fun n t => Qc7 N p0 p2 p4 k6 n t.1 t.2 = some r) (fun ⟨y7, y8⟩ => ⟨mk 111 [(0, (.dptr ((I p0) :: (I p1) :: (.dat 2 ((p2 : List GHour).map Qad)) :: (.dat 1 ((p3 : List Int).map Qac)) :: (.dat 1 ((p4 : List Int).map Qac)) :: (arrF 24 p5 ++ arrF 24 p6)) 0)), (3, .ref 0 1 0 0), (51, (I ((p2.length : Int)))), (52, I y7)], [(.own 1 [[(.own 1 1 (0) ((p2.length : Int).toNat))]]), (.own 1 ((y8 : List Int).map Qac))]⟩) (fun t h => by rw [Qc7] at h; cases h) (fun n11 ih t h => ?_) N (0, y3) h
    obtain ⟨y7, y8⟩ := t
    rw [Qc7] at h
    skip
    refine wrg [rp [(.tmp 52, I y7), (.tmp 51, (I ((p2.length : Int))))] (B ((decide (y7 < (p2.length : Int)))))] ?_ ?_
    ·exact ⟨abn rfl rfl, trivial⟩
    refine wsq ?_
    rcases bft ((decide (y7 < (p2.length : Int)))) with hc12 | hc12
    ·replace h := Qav hc12 h
     refine wft hc12 (by kernel_rfl) ?_
     refine Qam ?_
     refine thn ?_
     obtain ⟨k14, hk_k14, h⟩ := jko h
     refine wjn (τ := (List Int)) (fun t => k14 t = some r) (fun y13 => ⟨mk 111 [(0, (.dptr ((I p0) :: (I p1) :: (.dat 2 ((p2 : List GHour).map Qad)) :: (.dat 1 ((p3 : List Int).map Qac)) :: (.dat 1 ((p4 : List Int).map Qac)) :: (arrF 24 p5 ++ arrF 24 p6)) 0)), (3, .ref 0 1 0 0), (51, (I ((p2.length : Int)))), (52, I y7)], [(.own 1 [[(.own 1 1 (0) ((p2.length : Int).toNat))]]), (.own 1 ((y13 : List Int).map Qac))]⟩) (fun y13 h => ?_) ?_
     ·subst hk_k14
      refine Qar [rp [(.tmp 52, I y7), ci 1] (I (w64 (y7 + 1))), mv 109 (I (w64 (y7 + 1)))] ?_ ?_
      ·exact ⟨abn rfl rfl, amv rfl, trivial⟩
      refine thn ?_
      exact arm (mto (n := 111) [(0, (.dptr ((I p0) :: (I p1) :: (.dat 2 ((p2 : List GHour).map Qad)) :: (.dat 1 ((p3 : List Int).map Qac)) :: (.dat 1 ((p4 : List Int).map Qac)) :: (arrF 24 p5 ++ arrF 24 p6)) 0)), (3, .ref 0 1 0 0), (51, (I ((p2.length : Int)))), (52, (I (w64 (y7 + 1))))] [0, 1] [(.own 1 [[(.own 1 1 (0) ((p2.length : Int).toNat))]]), (.own 1 ((y13 : List Int).map Qac))] hφ0 (pc (.rn (.plain _ (NLt.dptr _ _ (nlc nll (nlc nll (nlc (nld Qas _) (nlc (nld Qaf _) (nlc (nld Qaf _) (Qeu Qdg Qdg))))))))) (pc (.rn (rqr rfl)) (pc rwl (pc rwl pn)))) (qc (spb (lc (.rn (Qaj rfl)) ln)) (qc (spr Qaf) qn))) (ih (w64 (y7 + 1), y13) h)
     ·skip
      refine Qan ?_
      refine wrg [rb [(.tmp 3, .ref 0 1 0 0)] [(0, (.own 1 [[(.own 1 1 (0) ((p2.length : Int).toNat))]]))] (.own 1 1 (0) ((p2.length : Int).toNat)), rp [(.tmp 54, (.own 1 1 (0) ((p2.length : Int).toNat)))] (I ((((p2.length : Int).toNat : Nat) : Int))), rp [(.tmp 55, (I ((((p2.length : Int).toNat : Nat) : Int)))), ci 1] (I (w64 ((((p2.length : Int).toNat : Nat) : Int) - 1))), mc (.int .i64 0)] ?_ ?_
      ·exact ⟨ald rfl ti23 (by decide) rfl (nle rfl) rfl, aln rfl Try.underlying23 rfl, abn rfl rfl, amv rfl, trivial⟩
      refine Qan ?_
      refine wmr (mto (n := 111) (l' := [(0, (.dptr ((I p0) :: (I p1) :: (.dat 2 ((p2 : List GHour).map Qad)) :: (.dat 1 ((p3 : List Int).map Qac)) :: (.dat 1 ((p4 : List Int).map Qac)) :: (arrF 24 p5 ++ arrF 24 p6)) 0)), (3, .ref 0 1 0 0), (51, (I ((p2.length : Int)))), (52, I y7), (56, (I (w64 ((((p2.length : Int).toNat : Nat) : Int) - 1)))), (57, I 0)]) (own' := [(.own 1 [[(.own 1 1 (0) ((p2.length : Int).toNat))]]), (.own 1 ((y8 : List Int).map Qac))]) [(0, (.dptr ((I p0) :: (I p1) :: (.dat 2 ((p2 : List GHour).map Qad)) :: (.dat 1 ((p3 : List Int).map Qac)) :: (.dat 1 ((p4 : List Int).map Qac)) :: (arrF 24 p5 ++ arrF 24 p6)) 0)), (3, .ref 0 1 0 0), (51, (I ((p2.length : Int)))), (52, I y7), (56, (I (w64 ((((p2.length : Int).toNat : Nat) : Int) - 1)))), (57, I 0)] [0, 1] [(.own 1 [[(.own 1 1 (0) ((p2.length : Int).toNat))]]), (.own 1 ((y8 : List Int).map Qac))] hφ0 (pc (.rn (.plain _ (NLt.dptr _ _ (nlc nll (nlc nll (nlc (nld Qas _) (nlc (nld Qaf _) (nlc (nld Qaf _) (Qeu Qdg Qdg))))))))) (pc (.rn (rqr rfl)) (pc rwl (pc rwl (pc rwl (pc rwl pn)))))) (qc (spb (lc (.rn (Qaj rfl)) ln)) (qc (spr Qaf) qn))) ?_
      refine Qcc (τ := Int × (List Int)) (fun n t => Qco N p0 p2 p4 k14 n t.1 t.2 = some r) (fun ⟨y15, y16⟩ => ⟨mk 111 [(0, (.dptr ((I p0) :: (I p1) :: (.dat 2 ((p2 : List GHour).map Qad)) :: (.dat 1 ((p3 : List Int).map Qac)) :: (.dat 1 ((p4 : List Int).map Qac)) :: (arrF 24 p5 ++ arrF 24 p6)) 0)), (3, .ref 0 1 0 0), (51, (I ((p2.length : Int)))), (52, I y7), (56, (I (w64 ((((p2.length : Int).toNat : Nat) : Int) - 1)))), (57, I y15)], [(.own 1 [[(.own 1 1 (0) ((p2.length : Int).toNat))]]), (.own 1 ((y16 : List Int).map Qac))]⟩) (fun t h => by rw [Qco] at h; cases h) (fun n19 ih t h => ?_) N (0, y8) h
      obtain ⟨y15, y16⟩ := t
      rw [Qco] at h
      skip
      refine wrg [rp [(.tmp 57, I y15), (.tmp 56, (I (w64 ((((p2.length : Int).toNat : Nat) : Int) - 1))))] (B ((decide (y15 < (w64 ((((p2.length : Int).toNat : Nat) : Int) - 1))))))] ?_ ?_
      ·exact ⟨abn rfl rfl, trivial⟩
      refine wsq ?_
      rcases bft ((decide (y15 < (w64 ((((p2.length : Int).toNat : Nat) : Int) - 1))))) with hc20 | hc20
      ·replace h := Qav hc20 h
       refine wft hc20 (by kernel_rfl) ?_
       refine Qam ?_
       refine thn ?_
       refine wsq ?_
       refine Qan ?_
       refine wrg [mv 57 (I y15), mv 59 (I y15)] ?_ ?_
       ·exact ⟨amv rfl, aas rfl, trivial⟩
       obtain ⟨k22, hk_k22, h⟩ := jko h
       refine wjn (τ := (List Int)) (fun t => k22 t = some r) (fun y21 => ⟨mk 111 [(0, (.dptr ((I p0) :: (I p1) :: (.dat 2 ((p2 : List GHour).map Qad)) :: (.dat 1 ((p3 : List Int).map Qac)) :: (.dat 1 ((p4 : List Int).map Qac)) :: (arrF 24 p5 ++ arrF 24 p6)) 0)), (3, .ref 0 1 0 0), (8, I y15), (51, (I ((p2.length : Int)))), (52, I y7), (56, (I (w64 ((((p2.length : Int).toNat : Nat) : Int) - 1)))), (57, I y15)], [(.own 1 [[(.own 1 1 (0) ((p2.length : Int).toNat))]]), (.own 1 ((y21 : List Int).map Qac))]⟩) (fun y21 h => ?_) ?_
       ·subst hk_k22
        obtain ⟨x23, hg24, h⟩ := bno h
        obtain ⟨hi25, hj26⟩ := gsm hg24
        refine Qct [mv 0 (.dptr ((I p0) :: (I p1) :: (.dat 2 ((p2 : List GHour).map Qad)) :: (.dat 1 ((p3 : List Int).map Qac)) :: (.dat 1 ((p4 : List Int).map Qac)) :: (arrF 24 p5 ++ arrF 24 p6)) 0), mv 82 (.dptr ((I p0) :: (I p1) :: (.dat 2 ((p2 : List GHour).map Qad)) :: (.dat 1 ((p3 : List Int).map Qac)) :: (.dat 1 ((p4 : List Int).map Qac)) :: (arrF 24 p5 ++ arrF 24 p6)) 0), rp [(.tmp 83, (.dptr ((I p0) :: (I p1) :: (.dat 2 ((p2 : List GHour).map Qad)) :: (.dat 1 ((p3 : List Int).map Qac)) :: (.dat 1 ((p4 : List Int).map Qac)) :: (arrF 24 p5 ++ arrF 24 p6)) 0))] (.dptr ((I p0) :: (I p1) :: (.dat 2 ((p2 : List GHour).map Qad)) :: (.dat 1 ((p3 : List Int).map Qac)) :: (.dat 1 ((p4 : List Int).map Qac)) :: (arrF 24 p5 ++ arrF 24 p6)) 4), rp [(.tmp 84, (.dptr ((I p0) :: (I p1) :: (.dat 2 ((p2 : List GHour).map Qad)) :: (.dat 1 ((p3 : List Int).map Qac)) :: (.dat 1 ((p4 : List Int).map Qac)) :: (arrF 24 p5 ++ arrF 24 p6)) 4))] (.dat 1 ((p4 : List Int).map Qac)), mv 8 (I y15), rp [(.tmp 85, (.dat 1 ((p4 : List Int).map Qac))), (.tmp 86, I y15)] (.dptr (Qac (x23)) 0), rp [(.tmp 87, (.dptr (Qac (x23)) 0))] (I x23), mv 0 (.dptr ((I p0) :: (I p1) :: (.dat 2 ((p2 : List GHour).map Qad)) :: (.dat 1 ((p3 : List Int).map Qac)) :: (.dat 1 ((p4 : List Int).map Qac)) :: (arrF 24 p5 ++ arrF 24 p6)) 0), mv 89 (.dptr ((I p0) :: (I p1) :: (.dat 2 ((p2 : List GHour).map Qad)) :: (.dat 1 ((p3 : List Int).map Qac)) :: (.dat 1 ((p4 : List Int).map Qac)) :: (arrF 24 p5 ++ arrF 24 p6)) 0), mv 90 (.dptr ((I p0) :: (I p1) :: (.dat 2 ((p2 : List GHour).map Qad)) :: (.dat 1 ((p3 : List Int).map Qac)) :: (.dat 1 ((p4 : List Int).map Qac)) :: (arrF 24 p5 ++ arrF 24 p6)) 0), mv 91 (.dptr ((I p0) :: (I p1) :: (.dat 2 ((p2 : List GHour).map Qad)) :: (.dat 1 ((p3 : List Int).map Qac)) :: (.dat 1 ((p4 : List Int).map Qac)) :: (arrF 24 p5 ++ arrF 24 p6)) 0), rp [(.tmp 92, (.dptr ((I p0) :: (I p1) :: (.dat 2 ((p2 : List GHour).map Qad)) :: (.dat 1 ((p3 : List Int).map Qac)) :: (.dat 1 ((p4 : List Int).map Qac)) :: (arrF 24 p5 ++ arrF 24 p6)) 0))] (I p0), rp [(.tmp 88, I x23), (.tmp 93, I p0)] (B ((decide (x23 < p0))))] ?_ ?_
        ·exact ⟨amv rfl, anc rfl rfl, afd rfl Try.underlying152 rfl rfl ti23 (by decide) rfl, ald_ rfl ti23 (by decide) (nle rfl) rfl, amv rfl, aid rfl Try.underlying23 ti3 rfl rfl hi25 (mgt Qac hj26) rfl, ald_ rfl ti3 (by decide) (nle rfl) rfl, amv rfl, anc rfl rfl, afd rfl Try.underlying152 rfl rfl ti47 (by decide) rfl, afd rfl Try.underlying47 rfl rfl ti3 (by decide) rfl, ald_ rfl ti3 (by decide) (nle rfl) rfl, abn rfl rfl, trivial⟩
        rcases bft ((decide (x23 < p0))) with hc27 | hc27
        ·replace h := Qav hc27 h
         refine wft hc27 (by kernel_rfl) ?_
         obtain ⟨hi28, h⟩ := cko h
         obtain ⟨hi28a, hi28b⟩ := Qba hi28
         obtain ⟨x29, hg30, h⟩ := bno h
         obtain ⟨hi31, h⟩ := cko h
         obtain ⟨hi31a, hi31b⟩ := Qba hi31
         obtain ⟨x32, hg33, h⟩ := bno h
         obtain ⟨hi34, h⟩ := cko h
         obtain ⟨hi34a, hi34b⟩ := Qba hi34
         obtain ⟨x35, hg36, h⟩ := bno h
         refine Qde [rb [(.tmp 3, .ref 0 1 0 0)] [(0, (.own 1 [[(.own 1 1 (0) ((p2.length : Int).toNat))]]))] (.own 1 1 (0) ((p2.length : Int).toNat)), mv 8 (I y15), rb [(.tmp 3, .ref 0 1 0 0)] [(0, (.own 1 [[(.own 1 1 (0) ((p2.length : Int).toNat))]]))] (.own 1 1 (0) ((p2.length : Int).toNat)), mv 8 (I y15), rb [(.tmp 97, (.own 1 1 (0) ((p2.length : Int).toNat))), (.tmp 98, I y15)] [(1, (.own 1 ((y21 : List Int).map Qac)))] (.ref 1 1 (y15.toNat) 0), rb [(.tmp 99, (.ref 1 1 (y15.toNat) 0))] [(1, (.own 1 ((y21 : List Int).map Qac)))] (I x29), rb [(.tmp 3, .ref 0 1 0 0)] [(0, (.own 1 [[(.own 1 1 (0) ((p2.length : Int).toNat))]]))] (.own 1 1 (0) ((p2.length : Int).toNat)), mv 8 (I y15), rp [(.tmp 102, I y15), ci 1] (I (w64 (y15 + 1))), rb [(.tmp 101, (.own 1 1 (0) ((p2.length : Int).toNat))), (.tmp 103, (I (w64 (y15 + 1))))] [(1, (.own 1 ((y21 : List Int).map Qac)))] (.ref 1 1 ((w64 (y15 + 1)).toNat) 0), rb [(.tmp 104, (.ref 1 1 ((w64 (y15 + 1)).toNat) 0))] [(1, (.own 1 ((y21 : List Int).map Qac)))] (I x32), rp [(.tmp 100, I x29), (.tmp 105, I x32)] (I ((if x32 > x29 then x32 else x29))), rb [(.tmp 95, (.own 1 1 (0) ((p2.length : Int).toNat))), (.tmp 96, I y15)] [(1, (.own 1 ((y21 : List Int).map Qac)))] (.ref 1 1 (y15.toNat) 0), ⟨[(.tmp 107, (.ref 1 1 (y15.toNat) 0)), (.tmp 106, (I ((if x32 > x29 then x32 else x29))))], [(1, (.own 1 ((y21 : List Int).map Qac)))], .any, [(1, (.own 1 ((y21.set y15.toNat (if x32 > x29 then x32 else x29) : List Int).map Qac)))], false⟩] ?_ ?_
         ·exact ⟨ald rfl ti23 (by decide) rfl (nle rfl) rfl, amv rfl, ald rfl ti23 (by decide) rfl (nle rfl) rfl, amv rfl, aio rfl Try.underlying23 ti3 (odt hi28a) (odt hi28b) (Nat.zero_add _), ald rfl ti3 (by decide) (mgt Qac hg30) (nle rfl) rfl, ald rfl ti23 (by decide) rfl (nle rfl) rfl, amv rfl, abn rfl rfl, aio rfl Try.underlying23 ti3 (odt hi31a) (odt hi31b) (Nat.zero_add _), ald rfl ti3 (by decide) (mgt Qac hg33) (nle rfl) rfl, Qiy rfl, aio rfl Try.underlying23 ti3 (odt hi34a) (odt hi34b) (Nat.zero_add _), ast rfl ti3 (by rfl) (mgt Qac hg36) (nle rfl) (Qei Qac rfl), trivial⟩
         refine bln ?_
         refine thn ?_
         refine Qar [rp [(.tmp 57, I y15), ci 1] (I (w64 (y15 + 1))), mv 108 (I (w64 (y15 + 1)))] ?_ ?_
         ·exact ⟨abn rfl rfl, amv rfl, trivial⟩
         refine thn ?_
         exact arm (mto (n := 111) [(0, (.dptr ((I p0) :: (I p1) :: (.dat 2 ((p2 : List GHour).map Qad)) :: (.dat 1 ((p3 : List Int).map Qac)) :: (.dat 1 ((p4 : List Int).map Qac)) :: (arrF 24 p5 ++ arrF 24 p6)) 0)), (3, .ref 0 1 0 0), (51, (I ((p2.length : Int)))), (52, I y7), (56, (I (w64 ((((p2.length : Int).toNat : Nat) : Int) - 1)))), (57, (I (w64 (y15 + 1))))] [0, 1] [(.own 1 [[(.own 1 1 (0) ((p2.length : Int).toNat))]]), (.own 1 ((y21.set y15.toNat (if x32 > x29 then x32 else x29) : List Int).map Qac))] hφ0 (pc (.rn (.plain _ (NLt.dptr _ _ (nlc nll (nlc nll (nlc (nld Qas _) (nlc (nld Qaf _) (nlc (nld Qaf _) (Qeu Qdg Qdg))))))))) (pc (.rn (rqr rfl)) (pc rwl (pc rwl (pc rwl (pc rwl pn)))))) (qc (spb (lc (.rn (Qaj rfl)) ln)) (qc (spr Qaf) qn))) (ih (w64 (y15 + 1), y21.set y15.toNat (if x32 > x29 then x32 else x29)) h)
        ·replace h := Qaw hc27 h
         refine wfn hc27 (by kernel_rfl) ?_
         refine Qam ?_
         refine bln ?_
         refine thn ?_
         refine Qar [rp [(.tmp 57, I y15), ci 1] (I (w64 (y15 + 1))), mv 108 (I (w64 (y15 + 1)))] ?_ ?_
         ·exact ⟨abn rfl rfl, amv rfl, trivial⟩
         refine thn ?_
         exact arm (mto (n := 111) [(0, (.dptr ((I p0) :: (I p1) :: (.dat 2 ((p2 : List GHour).map Qad)) :: (.dat 1 ((p3 : List Int).map Qac)) :: (.dat 1 ((p4 : List Int).map Qac)) :: (arrF 24 p5 ++ arrF 24 p6)) 0)), (3, .ref 0 1 0 0), (51, (I ((p2.length : Int)))), (52, I y7), (56, (I (w64 ((((p2.length : Int).toNat : Nat) : Int) - 1)))), (57, (I (w64 (y15 + 1))))] [0, 1] [(.own 1 [[(.own 1 1 (0) ((p2.length : Int).toNat))]]), (.own 1 ((y21 : List Int).map Qac))] hφ0 (pc (.rn (.plain _ (NLt.dptr _ _ (nlc nll (nlc nll (nlc (nld Qas _) (nlc (nld Qaf _) (nlc (nld Qaf _) (Qeu Qdg Qdg))))))))) (pc (.rn (rqr rfl)) (pc rwl (pc rwl (pc rwl (pc rwl pn)))))) (qc (spb (lc (.rn (Qaj rfl)) ln)) (qc (spr Qaf) qn))) (ih (w64 (y15 + 1), y21) h)
       ·skip
        obtain ⟨x37, hg38, h⟩ := bno h
        obtain ⟨hi39, hj40⟩ := gsm hg38
        refine wrg [mv 0 (.dptr ((I p0) :: (I p1) :: (.dat 2 ((p2 : List GHour).map Qad)) :: (.dat 1 ((p3 : List Int).map Qac)) :: (.dat 1 ((p4 : List Int).map Qac)) :: (arrF 24 p5 ++ arrF 24 p6)) 0), mv 60 (.dptr ((I p0) :: (I p1) :: (.dat 2 ((p2 : List GHour).map Qad)) :: (.dat 1 ((p3 : List Int).map Qac)) :: (.dat 1 ((p4 : List Int).map Qac)) :: (arrF 24 p5 ++ arrF 24 p6)) 0), rp [(.tmp 61, (.dptr ((I p0) :: (I p1) :: (.dat 2 ((p2 : List GHour).map Qad)) :: (.dat 1 ((p3 : List Int).map Qac)) :: (.dat 1 ((p4 : List Int).map Qac)) :: (arrF 24 p5 ++ arrF 24 p6)) 0))] (.dptr ((I p0) :: (I p1) :: (.dat 2 ((p2 : List GHour).map Qad)) :: (.dat 1 ((p3 : List Int).map Qac)) :: (.dat 1 ((p4 : List Int).map Qac)) :: (arrF 24 p5 ++ arrF 24 p6)) 4), rp [(.tmp 62, (.dptr ((I p0) :: (I p1) :: (.dat 2 ((p2 : List GHour).map Qad)) :: (.dat 1 ((p3 : List Int).map Qac)) :: (.dat 1 ((p4 : List Int).map Qac)) :: (arrF 24 p5 ++ arrF 24 p6)) 4))] (.dat 1 ((p4 : List Int).map Qac)), mv 8 (I y15), rp [(.tmp 63, (.dat 1 ((p4 : List Int).map Qac))), (.tmp 64, I y15)] (.dptr (Qac (x37)) 0), rp [(.tmp 65, (.dptr (Qac (x37)) 0))] (I x37), rp [(.tmp 66, I x37), ci 0] (B ((decide (x37 > 0))))] ?_ ?_
        ·exact ⟨amv rfl, anc rfl rfl, afd rfl Try.underlying152 rfl rfl ti23 (by decide) rfl, ald_ rfl ti23 (by decide) (nle rfl) rfl, amv rfl, aid rfl Try.underlying23 ti3 rfl rfl hi39 (mgt Qac hj40) rfl, ald_ rfl ti3 (by decide) (nle rfl) rfl, abn rfl rfl, trivial⟩
        rcases bft ((decide (x37 > 0))) with hc41 | hc41
        ·replace h := Qav hc41 h
         refine wft hc41 (by kernel_rfl) ?_
         obtain ⟨hi42, h⟩ := cko h
         obtain ⟨hi42a, hi42b⟩ := Qba hi42
         obtain ⟨x43, hg44, h⟩ := bno h
         obtain ⟨hi45, h⟩ := cko h
         obtain ⟨hi45a, hi45b⟩ := Qba hi45
         obtain ⟨x46, hg47, h⟩ := bno h
         obtain ⟨hi48, h⟩ := cko h
         obtain ⟨hi48a, hi48b⟩ := Qba hi48
         obtain ⟨x49, hg50, h⟩ := bno h
         refine Qde [rb [(.tmp 3, .ref 0 1 0 0)] [(0, (.own 1 [[(.own 1 1 (0) ((p2.length : Int).toNat))]]))] (.own 1 1 (0) ((p2.length : Int).toNat)), mv 8 (I y15), rp [(.tmp 69, I y15), ci 1] (I (w64 (y15 + 1))), rb [(.tmp 3, .ref 0 1 0 0)] [(0, (.own 1 [[(.own 1 1 (0) ((p2.length : Int).toNat))]]))] (.own 1 1 (0) ((p2.length : Int).toNat)), mv 8 (I y15), rp [(.tmp 72, I y15), ci 1] (I (w64 (y15 + 1))), rb [(.tmp 71, (.own 1 1 (0) ((p2.length : Int).toNat))), (.tmp 73, (I (w64 (y15 + 1))))] [(1, (.own 1 ((y16 : List Int).map Qac)))] (.ref 1 1 ((w64 (y15 + 1)).toNat) 0), rb [(.tmp 74, (.ref 1 1 ((w64 (y15 + 1)).toNat) 0))] [(1, (.own 1 ((y16 : List Int).map Qac)))] (I x43), rb [(.tmp 3, .ref 0 1 0 0)] [(0, (.own 1 [[(.own 1 1 (0) ((p2.length : Int).toNat))]]))] (.own 1 1 (0) ((p2.length : Int).toNat)), mv 8 (I y15), rb [(.tmp 76, (.own 1 1 (0) ((p2.length : Int).toNat))), (.tmp 77, I y15)] [(1, (.own 1 ((y16 : List Int).map Qac)))] (.ref 1 1 (y15.toNat) 0), rb [(.tmp 78, (.ref 1 1 (y15.toNat) 0))] [(1, (.own 1 ((y16 : List Int).map Qac)))] (I x46), rp [(.tmp 75, I x43), (.tmp 79, I x46)] (I ((if x46 > x43 then x46 else x43))), rb [(.tmp 68, (.own 1 1 (0) ((p2.length : Int).toNat))), (.tmp 70, (I (w64 (y15 + 1))))] [(1, (.own 1 ((y16 : List Int).map Qac)))] (.ref 1 1 ((w64 (y15 + 1)).toNat) 0), ⟨[(.tmp 81, (.ref 1 1 ((w64 (y15 + 1)).toNat) 0)), (.tmp 80, (I ((if x46 > x43 then x46 else x43))))], [(1, (.own 1 ((y16 : List Int).map Qac)))], .any, [(1, (.own 1 ((y16.set ((w64 (y15 + 1)).toNat) (if x46 > x43 then x46 else x43) : List Int).map Qac)))], false⟩] ?_ ?_
         ·exact ⟨ald rfl ti23 (by decide) rfl (nle rfl) rfl, amv rfl, abn rfl rfl, ald rfl ti23 (by decide) rfl (nle rfl) rfl, amv rfl, abn rfl rfl, aio rfl Try.underlying23 ti3 (odt hi42a) (odt hi42b) (Nat.zero_add _), ald rfl ti3 (by decide) (mgt Qac hg44) (nle rfl) rfl, ald rfl ti23 (by decide) rfl (nle rfl) rfl, amv rfl, aio rfl Try.underlying23 ti3 (odt hi45a) (odt hi45b) (Nat.zero_add _), ald rfl ti3 (by decide) (mgt Qac hg47) (nle rfl) rfl, Qiy rfl, aio rfl Try.underlying23 ti3 (odt hi48a) (odt hi48b) (Nat.zero_add _), ast rfl ti3 (by rfl) (mgt Qac hg50) (nle rfl) (Qei Qac rfl), trivial⟩
         refine thn ?_
         exact ⟨(y16.set ((w64 (y15 + 1)).toNat) (if x46 > x43 then x46 else x43)), h, (mto (n := 111) [(0, (.dptr ((I p0) :: (I p1) :: (.dat 2 ((p2 : List GHour).map Qad)) :: (.dat 1 ((p3 : List Int).map Qac)) :: (.dat 1 ((p4 : List Int).map Qac)) :: (arrF 24 p5 ++ arrF 24 p6)) 0)), (3, .ref 0 1 0 0), (8, I y15), (51, (I ((p2.length : Int)))), (52, I y7), (56, (I (w64 ((((p2.length : Int).toNat : Nat) : Int) - 1)))), (57, I y15)] [0, 1] [(.own 1 [[(.own 1 1 (0) ((p2.length : Int).toNat))]]), (.own 1 ((y16.set ((w64 (y15 + 1)).toNat) (if x46 > x43 then x46 else x43) : List Int).map Qac))] hφ0 (pc (.rn (.plain _ (NLt.dptr _ _ (nlc nll (nlc nll (nlc (nld Qas _) (nlc (nld Qaf _) (nlc (nld Qaf _) (Qeu Qdg Qdg))))))))) (pc (.rn (rqr rfl)) (pc rwl (pc rwl (pc rwl (pc rwl (pc rwl pn))))))) (qc (spb (lc (.rn (Qaj rfl)) ln)) (qc (spr Qaf) qn)))⟩
        ·replace h := Qaw hc41 h
         refine wfn hc41 (by kernel_rfl) ?_
         refine Qam ?_
         refine thn ?_
         exact ⟨(y16), h, (mto (n := 111) [(0, (.dptr ((I p0) :: (I p1) :: (.dat 2 ((p2 : List GHour).map Qad)) :: (.dat 1 ((p3 : List Int).map Qac)) :: (.dat 1 ((p4 : List Int).map Qac)) :: (arrF 24 p5 ++ arrF 24 p6)) 0)), (3, .ref 0 1 0 0), (8, I y15), (51, (I ((p2.length : Int)))), (52, I y7), (56, (I (w64 ((((p2.length : Int).toNat : Nat) : Int) - 1)))), (57, I y15)] [0, 1] [(.own 1 [[(.own 1 1 (0) ((p2.length : Int).toNat))]]), (.own 1 ((y16 : List Int).map Qac))] hφ0 (pc (.rn (.plain _ (NLt.dptr _ _ (nlc nll (nlc nll (nlc (nld Qas _) (nlc (nld Qaf _) (nlc (nld Qaf _) (Qeu Qdg Qdg))))))))) (pc (.rn (rqr rfl)) (pc rwl (pc rwl (pc rwl (pc rwl (pc rwl pn))))))) (qc (spb (lc (.rn (Qaj rfl)) ln)) (qc (spr Qaf) qn)))⟩
      ·replace h := Qaw hc20 h
       refine wfn hc20 (by kernel_rfl) ?_
       refine Qbf ?_
       refine Qau ?_
       refine Qau ?_
       refine Qbe rfl ?_
       refine bln ?_
       refine thn ?_
       exact ⟨(y16), h, (mto (n := 111) [(0, (.dptr ((I p0) :: (I p1) :: (.dat 2 ((p2 : List GHour).map Qad)) :: (.dat 1 ((p3 : List Int).map Qac)) :: (.dat 1 ((p4 : List Int).map Qac)) :: (arrF 24 p5 ++ arrF 24 p6)) 0)), (3, .ref 0 1 0 0), (51, (I ((p2.length : Int)))), (52, I y7)] [0, 1] [(.own 1 [[(.own 1 1 (0) ((p2.length : Int).toNat))]]), (.own 1 ((y16 : List Int).map Qac))] hφ0 (pc (.rn (.plain _ (NLt.dptr _ _ (nlc nll (nlc nll (nlc (nld Qas _) (nlc (nld Qaf _) (nlc (nld Qaf _) (Qeu Qdg Qdg))))))))) (pc (.rn (rqr rfl)) (pc rwl (pc rwl pn)))) (qc (spb (lc (.rn (Qaj rfl)) ln)) (qc (spr Qaf) qn)))⟩
    ·replace h := Qaw hc12 h
     refine wfn hc12 (by kernel_rfl) ?_
     refine Qbf ?_
     refine Qau ?_
     refine Qau ?_
     refine Qbe rfl ?_
     refine thn ?_
     exact ⟨(y8), h, (mto (n := 111) [(3, .ref 0 1 0 0)] [0, 1] [(.own 1 [[(.own 1 1 (0) ((p2.length : Int).toNat))]]), (.own 1 ((y8 : List Int).map Qac))] hφ0 (pc (.rn (rqr rfl)) pn) (qc (spb (lc (.rn (Qaj rfl)) ln)) (qc (spr Qaf) qn)))⟩
  ·skip
   refine wrg [mv 0 (.dptr ((I p0) :: (I p1) :: (.dat 2 ((p2 : List GHour).map Qad)) :: (.dat 1 ((p3 : List Int).map Qac)) :: (.dat 1 ((p4 : List Int).map Qac)) :: (arrF 24 p5 ++ arrF 24 p6)) 0), mv 16 (.dptr ((I p0) :: (I p1) :: (.dat 2 ((p2 : List GHour).map Qad)) :: (.dat 1 ((p3 : List Int).map Qac)) :: (.dat 1 ((p4 : List Int).map Qac)) :: (arrF 24 p5 ++ arrF 24 p6)) 0), mv 17 (.dptr ((I p0) :: (I p1) :: (.dat 2 ((p2 : List GHour).map Qad)) :: (.dat 1 ((p3 : List Int).map Qac)) :: (.dat 1 ((p4 : List Int).map Qac)) :: (arrF 24 p5 ++ arrF 24 p6)) 0), rp [(.tmp 18, (.dptr ((I p0) :: (I p1) :: (.dat 2 ((p2 : List GHour).map Qad)) :: (.dat 1 ((p3 : List Int).map Qac)) :: (.dat 1 ((p4 : List Int).map Qac)) :: (arrF 24 p5 ++ arrF 24 p6)) 0))] (.dptr ((I p0) :: (I p1) :: (.dat 2 ((p2 : List GHour).map Qad)) :: (.dat 1 ((p3 : List Int).map Qac)) :: (.dat 1 ((p4 : List Int).map Qac)) :: (arrF 24 p5 ++ arrF 24 p6)) 2), rp [(.tmp 19, (.dptr ((I p0) :: (I p1) :: (.dat 2 ((p2 : List GHour).map Qad)) :: (.dat 1 ((p3 : List Int).map Qac)) :: (.dat 1 ((p4 : List Int).map Qac)) :: (arrF 24 p5 ++ arrF 24 p6)) 2))] (.dat 2 ((p2 : List GHour).map Qad)), rp [(.tmp 20, (.dat 2 ((p2 : List GHour).map Qad)))] (I ((p2.length : Int))), mc (.int .i64 0)] ?_ ?_
   ·exact ⟨amv rfl, anc rfl rfl, afd rfl Try.underlying152 rfl rfl ti47 (by decide) rfl, afd rfl Try.underlying47 rfl rfl ti45 (by decide) rfl, ald_ rfl ti45 (by decide) (nle rfl) rfl, alm (c := Qad) (l := p2) (aln rfl Try.underlying45 rfl), amv rfl, trivial⟩
   refine Qan ?_
   refine wmr (mto (n := 111) (l' := [(0, (.dptr ((I p0) :: (I p1) :: (.dat 2 ((p2 : List GHour).map Qad)) :: (.dat 1 ((p3 : List Int).map Qac)) :: (.dat 1 ((p4 : List Int).map Qac)) :: (arrF 24 p5 ++ arrF 24 p6)) 0)), (3, .ref 0 1 0 0), (20, (.dat 2 ((p2 : List GHour).map Qad))), (21, (I ((p2.length : Int)))), (22, I 0)]) (own' := [(.own 1 [[(.own 1 1 (0) ((p2.length : Int).toNat))]]), (.own 1 (((List.replicate (p2.length : Int).toNat 0) : List Int).map Qac))]) [(0, (.dptr ((I p0) :: (I p1) :: (.dat 2 ((p2 : List GHour).map Qad)) :: (.dat 1 ((p3 : List Int).map Qac)) :: (.dat 1 ((p4 : List Int).map Qac)) :: (arrF 24 p5 ++ arrF 24 p6)) 0)), (3, .ref 1 1 0 0), (20, (.dat 2 ((p2 : List GHour).map Qad))), (21, (I ((p2.length : Int)))), (22, I 0)] [1, 0] [(.own 1 [[(.own 0 1 (0) ((p2.length : Int).toNat))]]), (.own 1 ((List.replicate (p2.length : Int).toNat 0 : List Int).map Qac))] hφ0 (pc (.rn (.plain _ (NLt.dptr _ _ (nlc nll (nlc nll (nlc (nld Qas _) (nlc (nld Qaf _) (nlc (nld Qaf _) (Qeu Qdg Qdg))))))))) (pc (.rn (rqr rfl)) (pc (.rn (.plain _ (nld Qas _))) (pc rwl (pc rwl pn))))) (qc (spb (lc (.rn (Qaj rfl)) ln)) (qc (spr Qaf) qn))) ?_
   refine Qcc (τ := Int × (List Int)) (fun n t => Qc6 N p2 p3 k4 n t.1 t.2 = some r) (fun ⟨y51, y52⟩ => ⟨mk 111 [(0, (.dptr ((I p0) :: (I p1) :: (.dat 2 ((p2 : List GHour).map Qad)) :: (.dat 1 ((p3 : List Int).map Qac)) :: (.dat 1 ((p4 : List Int).map Qac)) :: (arrF 24 p5 ++ arrF 24 p6)) 0)), (3, .ref 0 1 0 0), (20, (.dat 2 ((p2 : List GHour).map Qad))), (21, (I ((p2.length : Int)))), (22, I y51)], [(.own 1 [[(.own 1 1 (0) ((p2.length : Int).toNat))]]), (.own 1 ((y52 : List Int).map Qac))]⟩) (fun t h => by rw [Qc6] at h; cases h) (fun n55 ih t h => ?_) N (0, List.replicate (p2.length : Int).toNat 0) h
   obtain ⟨y51, y52⟩ := t
   rw [Qc6] at h
   skip
   refine wrg [rp [(.tmp 22, I y51), (.tmp 21, (I ((p2.length : Int))))] (B ((decide (y51 < (p2.length : Int)))))] ?_ ?_
   ·exact ⟨abn rfl rfl, trivial⟩
   refine wsq ?_
   rcases bft ((decide (y51 < (p2.length : Int)))) with hc56 | hc56
   ·replace h := Qav hc56 h
    refine wft hc56 (by kernel_rfl) ?_
    refine Qam ?_
    refine thn ?_
    obtain ⟨k58, hk_k58, h⟩ := jko h
    refine wjn (τ := (List Int)) (fun t => k58 t = some r) (fun y57 => ⟨mk 111 [(0, (.dptr ((I p0) :: (I p1) :: (.dat 2 ((p2 : List GHour).map Qad)) :: (.dat 1 ((p3 : List Int).map Qac)) :: (.dat 1 ((p4 : List Int).map Qac)) :: (arrF 24 p5 ++ arrF 24 p6)) 0)), (3, .ref 0 1 0 0), (20, (.dat 2 ((p2 : List GHour).map Qad))), (21, (I ((p2.length : Int)))), (22, I y51)], [(.own 1 [[(.own 1 1 (0) ((p2.length : Int).toNat))]]), (.own 1 ((y57 : List Int).map Qac))]⟩) (fun y57 h => ?_) ?_
    ·subst hk_k58
     refine Qar [rp [(.tmp 22, I y51), ci 1] (I (w64 (y51 + 1))), mv 45 (I (w64 (y51 + 1)))] ?_ ?_
     ·exact ⟨abn rfl rfl, amv rfl, trivial⟩
     refine thn ?_
     exact arm (mto (n := 111) [(0, (.dptr ((I p0) :: (I p1) :: (.dat 2 ((p2 : List GHour).map Qad)) :: (.dat 1 ((p3 : List Int).map Qac)) :: (.dat 1 ((p4 : List Int).map Qac)) :: (arrF 24 p5 ++ arrF 24 p6)) 0)), (3, .ref 0 1 0 0), (20, (.dat 2 ((p2 : List GHour).map Qad))), (21, (I ((p2.length : Int)))), (22, (I (w64 (y51 + 1))))] [0, 1] [(.own 1 [[(.own 1 1 (0) ((p2.length : Int).toNat))]]), (.own 1 ((y57 : List Int).map Qac))] hφ0 (pc (.rn (.plain _ (NLt.dptr _ _ (nlc nll (nlc nll (nlc (nld Qas _) (nlc (nld Qaf _) (nlc (nld Qaf _) (Qeu Qdg Qdg))))))))) (pc (.rn (rqr rfl)) (pc (.rn (.plain _ (nld Qas _))) (pc rwl (pc rwl pn))))) (qc (spb (lc (.rn (Qaj rfl)) ln)) (qc (spr Qaf) qn))) (ih (w64 (y51 + 1), y57) h)
    ·skip
     refine Qan ?_
     obtain ⟨x59, hg60, h⟩ := bno h
     obtain ⟨hi61, hj62⟩ := gsm hg60
     refine wrg [mv 22 (I y51), rp [(.tmp 20, (.dat 2 ((p2 : List GHour).map Qad))), (.tmp 22, I y51)] (.dptr (Qad (x59)) 0), rp [(.tmp 25, (.dptr (Qad (x59)) 0))] (.agg [I x59.Use, (.dat 2 ((x59.Stairs : List GStair).map Qah))]), ⟨[], [(2, .unused)], .ref 2 1 0 0, [(2, .own 1 [[I 0]])], false⟩, ⟨[], [(3, .unused)], .ref 3 2 0 0, [(3, .own 2 [[I 0, nilS]])], false⟩, ⟨[(.tmp 4, .ref 2 1 0 0), (.tmp 24, I y51)], [(2, .own 1 [[I 0]])], .any, [(2, .own 1 [[I y51]])], false⟩, ⟨[(.tmp 5, .ref 3 2 0 0), (.tmp 26, (.agg [I x59.Use, (.dat 2 ((x59.Stairs : List GStair).map Qah))]))], [(3, .own 2 [[I 0, nilS]])], .any, [(3, (.own 2 [[I x59.Use, (.dat 2 ((x59.Stairs : List GStair).map Qah))]]))], false⟩] ?_ ?_
     ·exact ⟨amv rfl, aid rfl Try.underlying45 ti62 rfl rfl hi61 (mgt Qad hj62) rfl, ald_ rfl ti62 (by decide) (nle rfl) rfl, Qaz rfl tz3 rfl, Qaz rfl tz62 rfl, ast rfl ti3 (by rfl) rfl (nle rfl) rfl, ast rfl ti62 (by rfl) rfl (nle rfl) rfl, trivial⟩
     obtain ⟨x63, hg64, h⟩ := bno h
     obtain ⟨hi65, hj66⟩ := gsm hg64
     obtain ⟨x68, hf67, h⟩ := bno h
     refine Qct [rb [(.tmp 5, .ref 3 2 0 0)] [(3, (.own 2 [[I x59.Use, (.dat 2 ((x59.Stairs : List GStair).map Qah))]]))] (.agg [I x59.Use, (.dat 2 ((x59.Stairs : List GStair).map Qah))]), mv 0 (.dptr ((I p0) :: (I p1) :: (.dat 2 ((p2 : List GHour).map Qad)) :: (.dat 1 ((p3 : List Int).map Qac)) :: (.dat 1 ((p4 : List Int).map Qac)) :: (arrF 24 p5 ++ arrF 24 p6)) 0), mv 28 (.dptr ((I p0) :: (I p1) :: (.dat 2 ((p2 : List GHour).map Qad)) :: (.dat 1 ((p3 : List Int).map Qac)) :: (.dat 1 ((p4 : List Int).map Qac)) :: (arrF 24 p5 ++ arrF 24 p6)) 0), rp [(.tmp 29, (.dptr ((I p0) :: (I p1) :: (.dat 2 ((p2 : List GHour).map Qad)) :: (.dat 1 ((p3 : List Int).map Qac)) :: (.dat 1 ((p4 : List Int).map Qac)) :: (arrF 24 p5 ++ arrF 24 p6)) 0))] (.dptr ((I p0) :: (I p1) :: (.dat 2 ((p2 : List GHour).map Qad)) :: (.dat 1 ((p3 : List Int).map Qac)) :: (.dat 1 ((p4 : List Int).map Qac)) :: (arrF 24 p5 ++ arrF 24 p6)) 3), rp [(.tmp 30, (.dptr ((I p0) :: (I p1) :: (.dat 2 ((p2 : List GHour).map Qad)) :: (.dat 1 ((p3 : List Int).map Qac)) :: (.dat 1 ((p4 : List Int).map Qac)) :: (arrF 24 p5 ++ arrF 24 p6)) 3))] (.dat 1 ((p3 : List Int).map Qac)), rb [(.tmp 4, .ref 2 1 0 0)] [(2, .own 1 [[I y51]])] (I y51), rp [(.tmp 31, (.dat 1 ((p3 : List Int).map Qac))), (.tmp 32, I y51)] (.dptr (Qac (x63)) 0), rp [(.tmp 33, (.dptr (Qac (x63)) 0))] (I x63), ⟨[fu 93, (.tmp 27, (.agg [I x59.Use, (.dat 2 ((x59.Stairs : List GStair).map Qah))])), (.tmp 34, I x63)], [(4, .unused), (5, .unused)], (.fn (.func 109) [] [.ref 4 2 0 0, .ref 5 1 0 0]), [(4, (.own 2 [[I x59.Use, (.dat 2 ((x59.Stairs : List GStair).map Qah))]])), (5, .own 1 [[I x63]])], false⟩] ?_ ?_
     ·exact ⟨ald rfl ti62 (by decide) rfl (nle rfl) rfl, amv rfl, anc rfl rfl, afd rfl Try.underlying152 rfl rfl ti23 (by decide) rfl, ald_ rfl ti23 (by decide) (nle rfl) rfl, ald rfl ti3 (by decide) rfl (nle rfl) rfl, aid rfl Try.underlying23 ti3 rfl rfl hi65 (mgt Qac hj66) rfl, ald_ rfl ti3 (by decide) (nle rfl) rfl, Qa4 (first := []) (cap := []) (vs := [(.agg [I x59.Use, (.dat 2 ((x59.Stairs : List GStair).map Qah))]), I x63]) (σr := []) (σr' := [(.own 2 [[I x59.Use, (.dat 2 ((x59.Stairs : List GStair).map Qah))]]), (.own 1 [[I x63]])]) (res' := (.fn (.func 109) [] [.ref 4 2 0 0, .ref 5 1 0 0])) [4, 5] rfl enter93 (Qga N x59 x63 _ hf67) rfl (Qc3 (rnc (.plain _ (NLt.agg _ (nlc nll (nlc (nld Qb8 _) nl0)))) (rnc (.plain _ nll) rn0))) Qa0 (slc (Qat (rnc (.plain _ nll) (rnc (.plain _ (nld Qb8 _)) rn0))) (slc (Qat (rnc (.plain _ nll) rn0)) Qa0)) (Qa2 rn0 (rnc (Qfw rfl) (rnc (Qfw rfl) rn0))) rfl rfl rfl, trivial⟩
     refine Qan ?_
     obtain ⟨q69, hL70, h⟩ := bno h
     refine wmr (mto (n := 111) (l' := [(0, (.dptr ((I p0) :: (I p1) :: (.dat 2 ((p2 : List GHour).map Qad)) :: (.dat 1 ((p3 : List Int).map Qac)) :: (.dat 1 ((p4 : List Int).map Qac)) :: (arrF 24 p5 ++ arrF 24 p6)) 0)), (3, .ref 0 1 0 0), (4, .ref 1 1 0 0), (20, (.dat 2 ((p2 : List GHour).map Qad))), (21, (I ((p2.length : Int)))), (22, I y51), (35, (.fn (.func 109) [] [.ref 2 2 0 0, .ref 3 1 0 0]))]) (own' := [(.own 1 [[(.own 4 1 (0) ((p2.length : Int).toNat))]]), (.own 1 [[I y51]]), (.own 2 [[I x59.Use, (.dat 2 ((x59.Stairs : List GStair).map Qah))]]), (.own 1 [[I x63]]), (.own 1 ((y52 : List Int).map Qac))]) [(0, (.dptr ((I p0) :: (I p1) :: (.dat 2 ((p2 : List GHour).map Qad)) :: (.dat 1 ((p3 : List Int).map Qac)) :: (.dat 1 ((p4 : List Int).map Qac)) :: (arrF 24 p5 ++ arrF 24 p6)) 0)), (3, .ref 0 1 0 0), (4, .ref 2 1 0 0), (20, (.dat 2 ((p2 : List GHour).map Qad))), (21, (I ((p2.length : Int)))), (22, I y51), (35, (.fn (.func 109) [] [.ref 4 2 0 0, .ref 5 1 0 0]))] [0, 2, 4, 5, 1] [(.own 1 [[(.own 1 1 (0) ((p2.length : Int).toNat))]]), (.own 1 [[I y51]]), (.own 2 [[I x59.Use, (.dat 2 ((x59.Stairs : List GStair).map Qah))]]), (.own 1 [[I x63]]), (.own 1 ((y52 : List Int).map Qac))] hφ0 (pc (.rn (.plain _ (NLt.dptr _ _ (nlc nll (nlc nll (nlc (nld Qas _) (nlc (nld Qaf _) (nlc (nld Qaf _) (Qeu Qdg Qdg))))))))) (pc (.rn (rqr rfl)) (pc (.rn (rqr rfl)) (pc (.rn (.plain _ (nld Qas _))) (pc rwl (pc rwl (pc (.rn (Qa2 rn0 (rnc (rqr rfl) (rnc (rqr rfl) rn0)))) pn))))))) (qc (spb (lc (.rn (Qaj rfl)) ln)) (qc (spb (lc rwl ln)) (qc (spb (lc rwl (lc (.rn (.plain _ (nld Qb8 _))) ln))) (qc (spb (lc rwl ln)) (qc (spr Qaf) qn)))))) ?_
     refine Qg5 (τ := ((List Int))) (kb := 5) (caps := [.ref 2 2 0 0, .ref 3 1 0 0]) (σr := [(.own 2 [[I x59.Use, (.dat 2 ((x59.Stairs : List GStair).map Qah))]]), (.own 1 [[I x63]])]) (encs := fun x => [(.agg #[(.int .i64 (x.1.Amount)), (.int .i64 (x.1.Price))]), (.int .i64 (x.2))]) (fun x => [(.agg [I x.1.Amount, I x.1.Price]), I x.2]) [2, 3] (fun n hn => hφ0 n (Nat.le_trans (nle rfl) hn)) (Qf9 N x59.Use x59.Stairs x63 _ hL70) enter109 (by kernel_rfl) (by kernel_rfl) (Qc3 (rnc (Qfw rfl) (rnc (Qfw rfl) rn0))) (slc (Qat (rnc (.plain _ nll) (rnc (.plain _ (nld Qb8 _)) rn0))) (slc (Qat (rnc (.plain _ nll) rn0)) Qa0)) (by kernel_rfl) (fun _ => rfl) (fun x => ⟨(Less.unlits [(.int .i64 (x.1.Amount)), (.int .i64 (x.1.Price))]), lrf, trivial⟩) (nlt_mk (Qd9 (NLt.of0 (NLt.dptr _ _ (nlc nll (nlc nll (nlc (nld Qas _) (nlc (nld Qaf _) (nlc (nld Qaf _) (Qeu Qdg Qdg)))))))) (Qd9 (NLt.ref _ _ _ _ (by decide)) (Qd9 (NLt.ref _ _ _ _ (by decide)) (Qd9 (NLt.of0 (nld Qas _)) (Qd9 (NLt.of0 nll) (Qd9 (NLt.of0 nll) (Qd9 (NLt.fn _ _ _ nl0 (nlc (NLt.ref _ _ _ _ (by decide)) (nlc (NLt.ref _ _ _ _ (by decide)) nl0))) nlp_nil)))))))) (fun y71 => [(.own 1 [[(.own 4 1 (0) ((p2.length : Int).toNat))]]), (.own 1 [[I y51]]), .dead, .dead, (.own 1 ((y71 : List Int).map Qac))]) (fun _ => rfl) (fun _ => rfl) (fun l t => Qcg N p2 y51 k58 l t = some r) (y52) h (by kernel_rfl) ?_ ?_
     ·intro l76 o77 X80 φ81 w82 hφ79 x74 q75 y71 h
      rw [Qcg] at h
      refine wrg [⟨[], [(6, .unused)], .ref 6 2 0 0, [(6, .own 2 [[I 0, I 0]])], false⟩, ⟨[(.tmp 6, .ref 6 2 0 0), (.tmp 36, (.agg [I x74.1.Amount, I x74.1.Price]))], [(6, .own 2 [[I 0, I 0]])], .any, [(6, .own 2 [[I x74.1.Amount, I x74.1.Price]])], false⟩] ?_ ?_
      ·exact ⟨Qaz rfl tz64 rfl, ast rfl ti64 (by rfl) rfl (nle rfl) rfl, trivial⟩
      refine Qar [mv 37 (I x74.2)] ?_ ?_
      ·exact ⟨aas rfl, trivial⟩
      refine ⟨by kernel_rfl, fun o78 => ?_⟩
      refine Qan ?_
      refine wrg [mv 7 (I x74.2), rp [(.tmp 38, I x74.2), ci 0] (B ((decide (x74.2 > 0))))] ?_ ?_
      ·exact ⟨amv rfl, abn rfl rfl, trivial⟩
      rcases bft ((decide (x74.2 > 0))) with hc83 | hc83
      ·replace h := Qav hc83 h
       refine wft hc83 (by kernel_rfl) ?_
       obtain ⟨hi84, h⟩ := cko h
       obtain ⟨hi84a, hi84b⟩ := Qba hi84
       obtain ⟨x85, hg86, h⟩ := bno h
       refine Qar [rb [(.tmp 3, .ref 0 1 0 0)] [(0, (.own 1 [[(.own 4 1 (0) ((p2.length : Int).toNat))]]))] (.own 4 1 (0) ((p2.length : Int).toNat)), rb [(.tmp 4, .ref 1 1 0 0)] [(1, .own 1 [[I y51]])] (I y51), rb [(.tmp 6, .ref 6 2 0 0)] [(6, .own 2 [[I x74.1.Amount, I x74.1.Price]])] (.ref 6 2 0 1), rb [(.tmp 42, .ref 6 2 0 1)] [(6, .own 2 [[I x74.1.Amount, I x74.1.Price]])] (I x74.1.Price), rb [(.tmp 40, (.own 4 1 (0) ((p2.length : Int).toNat))), (.tmp 41, I y51)] [(4, (.own 1 ((y71 : List Int).map Qac)))] (.ref 4 1 (y51.toNat) 0), ⟨[(.tmp 44, (.ref 4 1 (y51.toNat) 0)), (.tmp 43, I x74.1.Price)], [(4, (.own 1 ((y71 : List Int).map Qac)))], .any, [(4, (.own 1 ((y71.set y51.toNat x74.1.Price : List Int).map Qac)))], false⟩] ?_ ?_
       ·exact ⟨ald rfl ti23 (by decide) rfl (nle rfl) rfl, ald rfl ti3 (by decide) rfl (nle rfl) rfl, afa rfl Try.underlying64 rfl rfl ti3 (by decide) rfl, ald rfl ti3 (by decide) rfl (nle rfl) rfl, aio rfl Try.underlying23 ti3 (odt hi84a) (odt hi84b) (Nat.zero_add _), ast rfl ti3 (by rfl) (mgt Qac hg86) (nle rfl) (Qei Qac rfl), trivial⟩
       refine bln ?_
       exact ⟨(y71.set y51.toNat x74.1.Price), h, ren_to (own' := [(.own 1 [[(.own 4 1 (0) ((p2.length : Int).toNat))]]), (.own 1 [[I y51]]), .dead, .dead, (.own 1 (((y71.set y51.toNat x74.1.Price) : List Int).map Qac)), (.far (farL l76 o78))]) [0, 1, 2, 3, 4, 5] [(.own 1 [[(.own 4 1 (0) ((p2.length : Int).toNat))]]), (.own 1 [[I y51]]), .dead, .dead, (.own 1 ((y71.set y51.toNat x74.1.Price : List Int).map Qac)), (.far (farL l76 o78))] (by kernel_rfl) (by kernel_rfl) ⟨(spb (lc (.rn (Qaj rfl)) ln)), (spb (lc rwl ln)), .dead, .dead, (spr Qaf), .far _, trivial⟩⟩
      ·replace h := Qaw hc83 h
       refine wfn hc83 (by kernel_rfl) ?_
       refine Qam ?_
       refine bln ?_
       exact ⟨(y71), h, ren_to (own' := [(.own 1 [[(.own 4 1 (0) ((p2.length : Int).toNat))]]), (.own 1 [[I y51]]), .dead, .dead, (.own 1 ((y71 : List Int).map Qac)), (.far (farL l76 o78))]) [0, 1, 2, 3, 4, 5] [(.own 1 [[(.own 4 1 (0) ((p2.length : Int).toNat))]]), (.own 1 [[I y51]]), .dead, .dead, (.own 1 ((y71 : List Int).map Qac)), (.far (farL l76 o78))] (by kernel_rfl) (by kernel_rfl) ⟨(spb (lc (.rn (Qaj rfl)) ln)), (spb (lc rwl ln)), .dead, .dead, (spr Qaf), .far _, trivial⟩⟩
     ·intro y71 h
      rw [Qcg] at h
      refine bln ?_
      refine bln ?_
      refine thn ?_
      exact ⟨(y71), h, (mto (n := 111) [(0, (.dptr ((I p0) :: (I p1) :: (.dat 2 ((p2 : List GHour).map Qad)) :: (.dat 1 ((p3 : List Int).map Qac)) :: (.dat 1 ((p4 : List Int).map Qac)) :: (arrF 24 p5 ++ arrF 24 p6)) 0)), (3, .ref 0 1 0 0), (20, (.dat 2 ((p2 : List GHour).map Qad))), (21, (I ((p2.length : Int)))), (22, I y51)] [0, 4] [(.own 1 [[(.own 4 1 (0) ((p2.length : Int).toNat))]]), (.own 1 ((y71 : List Int).map Qac))] hφ0 (pc (.rn (.plain _ (NLt.dptr _ _ (nlc nll (nlc nll (nlc (nld Qas _) (nlc (nld Qaf _) (nlc (nld Qaf _) (Qeu Qdg Qdg))))))))) (pc (.rn (rqr rfl)) (pc (.rn (.plain _ (nld Qas _))) (pc rwl (pc rwl pn))))) (qc (spb (lc (.rn (Qaj rfl)) ln)) (qc (spr Qaf) qn)))⟩
   ·replace h := Qaw hc56 h
    refine wfn hc56 (by kernel_rfl) ?_
    refine Qbf ?_
    refine Qau ?_
    refine Qau ?_
    refine Qbe rfl ?_
    refine thn ?_
    exact ⟨(y52), h, (mto (n := 111) [(0, (.dptr ((I p0) :: (I p1) :: (.dat 2 ((p2 : List GHour).map Qad)) :: (.dat 1 ((p3 : List Int).map Qac)) :: (.dat 1 ((p4 : List Int).map Qac)) :: (arrF 24 p5 ++ arrF 24 p6)) 0)), (3, .ref 0 1 0 0)] [0, 1] [(.own 1 [[(.own 1 1 (0) ((p2.length : Int).toNat))]]), (.own 1 ((y52 : List Int).map Qac))] hφ0 (pc (.rn (.plain _ (NLt.dptr _ _ (nlc nll (nlc nll (nlc (nld Qas _) (nlc (nld Qaf _) (nlc (nld Qaf _) (Qeu Qdg Qdg))))))))) (pc (.rn (rqr rfl)) pn)) (qc (spb (lc (.rn (Qaj rfl)) ln)) (qc (spr Qaf) qn)))⟩

def Qd4 (N : Nat) (p0 : GDay) (y19 : (List Int)) (k23 : Int → Option ((List Int) × (List Int) × Int × Int)) : Nat → Int → Int → Option ((List Int) × (List Int) × Int × Int)
  | 0, _, _ => none
  | n34 + 1, y30, y31 =>
    bif (decide (y31 < (p0.Hours.length : Int))) then
     (getI p0.Hours y31).bind fun x36 =>
     chk (decide (0 ≤ y31) && decide (y31.toNat < (p0.Hours.length : Int).toNat)) <|
     (y19[y31.toNat]?).bind fun x41 =>
     (Qgr N x36 x41).bind fun x44 =>
     Qd4 N p0 y19 k23 n34 (w64 (y30 + x44)) (w64 (y31 + 1))
    else
     k23 (y30)
def Qd3 (N : Nat) (p0 : GDay) (k21 : (Nat → Int) × (Nat → Int) × (List Int) × (List Int) → Option ((List Int) × (List Int) × Int × Int)) : Nat → Int → Int → (Nat → Int) → (Nat → Int) → (List Int) → (List Int) → Option ((List Int) × (List Int) × Int × Int)
  | 0, _, _, _, _, _, _ => none
  | n57 + 1, y45, y46, y47, y48, y49, y50 =>
    bif (decide (y46 < (p0.Hours.length : Int))) then
     (getI p0.Hours y46).bind fun x59 =>
     (some (if (w64 (x59.Use - y45)) > 0 then w64 (x59.Use - y45) else 0)).bind fun x63 =>
     (Qf1 N y46 x63 p0.Tank p0.Start p0.Hours ((p0.Hours.length : Int).toNat) ((p0.Hours.length : Int).toNat) y47 y48 y49 y50).bind fun x66 =>
     (some (if (w64 (y45 - x59.Use)) > 0 then w64 (y45 - x59.Use) else 0)).bind fun x67 =>
     chk (decide (0 ≤ y46) && decide (y46.toNat < ((p0.Hours.length : Int).toNat))) <|
     (x66.2.2.2[y46.toNat]?).bind fun x70 =>
     chk (decide (0 ≤ y46) && decide (y46.toNat < ((p0.Hours.length : Int).toNat))) <|
     (x66.2.2.2[y46.toNat]?).bind fun _ =>
     Qd3 N p0 k21 n57 x67 (w64 (y46 + 1)) x66.1 x66.2.1 x66.2.2.1 (x66.2.2.2.set y46.toNat (w64 (x70 + x67)))
    else
     k21 (y47, y48, y49, y50)
def Qdn (N : Nat) (p0 : GDay) (k16 : (Nat → Int) → Option ((List Int) × (List Int) × Int × Int)) : Nat → Int → (Nat → Int) → Option ((List Int) × (List Int) × Int × Int)
  | 0, _, _ => none
  | n79 + 1, y75, y76 =>
    bif (decide (y75 < (p0.Hours.length : Int))) then
     (getI p0.Hours y75).bind fun x81 =>
     bif (decide ((x81.Stairs.length : Int) > 0)) then
      (getI x81.Stairs 0).bind fun x86 =>
      chk (decide (0 ≤ y75) && decide (y75.toNat < 24)) <|
      Qdn N p0 k16 n79 (w64 (y75 + 1)) (setF y76 y75.toNat x86.Amount)
     else
      Qdn N p0 k16 n79 (w64 (y75 + 1)) y76
    else
     k16 (y76)
def Qg0 (N : Nat) (p0 : GDay) : Option ((List Int) × (List Int) × Int × Int) :=
  (Qgs N p0).bind fun x8 =>
  bif (!x8) then
   some ([], [], 0, 1)
  else
   (Qgt N p0).bind fun x11 =>
   bif (decide (x11.1 ≥ 0)) then
    some ([], [], 0, 7)
   else
    chk (decide (0 ≤ (p0.Hours.length : Int)) && decide (8 * (p0.Hours.length : Int) ≤ 281474976710656) && decide ((p0.Hours.length : Int) ≤ 9223372036854775807)) <|
    chk (decide (0 ≤ (p0.Hours.length : Int)) && decide (8 * (p0.Hours.length : Int) ≤ 281474976710656) && decide ((p0.Hours.length : Int) ≤ 9223372036854775807)) <|
    Qca (fun y15 =>
      Qca (fun ⟨y17, y18, y19, y20⟩ =>
        Qca (fun y22 =>
          chk (decide ((p0.Hours.length : Int).toNat ≤ y19.length)) <|
          chk (decide ((p0.Hours.length : Int).toNat ≤ y20.length)) <|
          (Qfj N p0.Tank p0.Start p0.Hours (y19.take ((p0.Hours.length : Int).toNat)) (y20.take ((p0.Hours.length : Int).toNat)) y17 y18).bind fun x27 =>
          chk (decide ((p0.Hours.length : Int).toNat ≤ y19.length)) <|
          chk (decide ((p0.Hours.length : Int).toNat ≤ x27.length)) <|
          some (y19.take ((p0.Hours.length : Int).toNat), x27.take ((p0.Hours.length : Int).toNat), y22, 0)) fun k23 : Int → Option ((List Int) × (List Int) × Int × Int) =>
        Qd4 N p0 y19 k23 N 0 0) fun k21 : (Nat → Int) × (Nat → Int) × (List Int) × (List Int) → Option ((List Int) × (List Int) × Int × Int) =>
      Qd3 N p0 k21 N p0.Start 0 (fun _ => 0) y15 (List.replicate (p0.Hours.length : Int).toNat 0) (List.replicate (p0.Hours.length : Int).toNat 0)) fun k16 : (Nat → Int) → Option ((List Int) × (List Int) × Int × Int) =>
    Qdn N p0 k16 N 0 (fun _ => 0)
set_option maxRecDepth 100000 in
set_option maxHeartbeats 4000000 in
theorem Qi4 (N : Nat) (p0 : GDay) (r : ((List Int) × (List Int) × Int × Int)) (h : Qg0 N p0 = some r) : Spec Try.prog 30 [(.agg (c_GDay p0))] [] (.tup [(.dat 1 ((r.1 : List Int).map Qac)), (.dat 1 ((r.2.1 : List Int).map Qac)), (I (r.2.2.1)), (I (r.2.2.2))]) [] := by
  refine Qaq Try.func30 rfl 0 (nle rfl) (fun X φ0 w0 hφ0 => ?_)
  unfold Qg0 at h
  refine Qc1 ?_
  refine wrg [⟨[(.tmp 0, (.agg [I p0.Tank, I p0.Start, (.dat 2 ((p0.Hours : List GHour).map Qad))]))], [(0, .unused)], .ref 0 3 0 0, [(0, (.own 3 [[I p0.Tank, I p0.Start, (.dat 2 ((p0.Hours : List GHour).map Qad))]]))], false⟩, mc (.slice none 0 0), mc (.slice none 0 0), mc (.int .i64 0), mc (.int .i64 0)] ?_ ?_
  ·exact ⟨Qbu rfl (by rfl) rfl rfl, aas rfl, aas rfl, aas rfl, aas rfl, trivial⟩
  refine wsq ?_
  obtain ⟨x8, hf7, h⟩ := bno h
  refine wrg [rb [(.tmp 1, .ref 0 3 0 0)] [(0, (.own 3 [[I p0.Tank, I p0.Start, (.dat 2 ((p0.Hours : List GHour).map Qad))]]))] (.agg [I p0.Tank, I p0.Start, (.dat 2 ((p0.Hours : List GHour).map Qad))]), rp [fu 74, (.tmp 16, (.agg [I p0.Tank, I p0.Start, (.dat 2 ((p0.Hours : List GHour).map Qad))]))] (B x8), rp [(.tmp 17, B x8)] (B ((!x8)))] ?_ ?_
  ·exact ⟨ald rfl ti47 (by decide) rfl (nle rfl) rfl, apc (first := []) (cap := []) (vs := [(.agg [I p0.Tank, I p0.Start, (.dat 2 ((p0.Hours : List GHour).map Qad))])]) rfl enter74 (Qiq N p0 _ hf7) rfl rfl (nlc (NLt.agg _ (nlc nll (nlc nll (nlc (nld Qas _) nl0)))) nl0) nll rfl, Qap rfl, trivial⟩
  rcases bft ((!x8)) with hc9 | hc9
  ·replace h := Qav hc9 h
   refine wft hc9 (by kernel_rfl) ?_
   refine wrg [mc (.slice none 0 0), mc (.slice none 0 0), mc (.int .i64 0), mc (.int .i64 1)] ?_ ?_
   ·exact ⟨aas rfl, aas rfl, aas rfl, aas rfl, trivial⟩
   refine wmr (mto (n := 121) (l' := [(2, (.dat 1 (([] : List Int).map Qac))), (3, (.dat 1 (([] : List Int).map Qac))), (4, I 0), (5, I 1)]) (own' := []) [(2, nilS), (3, nilS), (4, I 0), (5, I 1)] [] [] hφ0 (pc (.nil _) (pc (.nil _) (pc rwl (pc rwl pn)))) qn) ?_
   refine Qak ?_
   refine Qao ?_
   obtain rfl := osi h
   exact ⟨_, Mor.rfl, Qc0 (vs := [(.dat 1 (([] : List Int).map Qac)), (.dat 1 (([] : List Int).map Qac)), I 0, I 1]) ⟨rot (by kernel_rfl), rot (by kernel_rfl), rot (by kernel_rfl), rot (by kernel_rfl), trivial⟩ rfl (NLt.tup _ (nlc (nld Qaf _) (nlc (nld Qaf _) (nlc nll (nlc nll nl0))))) (by kernel_rfl) Qbx⟩
  ·replace h := Qaw hc9 h
   refine wfn hc9 (by kernel_rfl) ?_
   refine Qam ?_
   refine thn ?_
   refine wsq ?_
   obtain ⟨x11, hf10, h⟩ := bno h
   refine wrg [rb [(.tmp 1, .ref 0 3 0 0)] [(0, (.own 3 [[I p0.Tank, I p0.Start, (.dat 2 ((p0.Hours : List GHour).map Qad))]]))] (.agg [I p0.Tank, I p0.Start, (.dat 2 ((p0.Hours : List GHour).map Qad))]), rp [fu 75, (.tmp 20, (.agg [I p0.Tank, I p0.Start, (.dat 2 ((p0.Hours : List GHour).map Qad))]))] (.tup [I x11.1, I x11.2]), mv 21 (.tup [I x11.1, I x11.2]), rp [(.tmp 19, (.tup [I x11.1, I x11.2]))] (I x11.1), rp [(.tmp 19, (.tup [I x11.1, I x11.2]))] (I x11.2), mv 22 (I x11.1), mv 23 (I x11.2)] ?_ ?_
   ·exact ⟨ald rfl ti47 (by decide) rfl (nle rfl) rfl, apc (first := []) (cap := []) (vs := [(.agg [I p0.Tank, I p0.Start, (.dat 2 ((p0.Hours : List GHour).map Qad))])]) rfl enter75 (Qir N p0 _ hf10) rfl rfl (nlc (NLt.agg _ (nlc nll (nlc nll (nlc (nld Qas _) nl0)))) nl0) (NLt.tup _ (nlc nll (nlc nll nl0))) rfl, amv rfl, Qbp rfl rfl, Qbp rfl rfl, aas rfl, aas rfl, trivial⟩
   refine wrg [mv 6 (I x11.1), rp [(.tmp 24, I x11.1), ci 0] (B ((decide (x11.1 ≥ 0))))] ?_ ?_
   ·exact ⟨amv rfl, abn rfl rfl, trivial⟩
   rcases bft ((decide (x11.1 ≥ 0))) with hc12 | hc12
   ·replace h := Qav hc12 h
    refine wft hc12 (by kernel_rfl) ?_
    refine wrg [mc (.slice none 0 0), mc (.slice none 0 0), mc (.int .i64 0), mc (.int .i64 7)] ?_ ?_
    ·exact ⟨aas rfl, aas rfl, aas rfl, aas rfl, trivial⟩
    refine wmr (mto (n := 121) (l' := [(2, (.dat 1 (([] : List Int).map Qac))), (3, (.dat 1 (([] : List Int).map Qac))), (4, I 0), (5, I 7)]) (own' := []) [(2, nilS), (3, nilS), (4, I 0), (5, I 7)] [] [] hφ0 (pc (.nil _) (pc (.nil _) (pc rwl (pc rwl pn)))) qn) ?_
    refine Qak ?_
    refine Qao ?_
    obtain rfl := osi h
    exact ⟨_, Mor.rfl, Qc0 (vs := [(.dat 1 (([] : List Int).map Qac)), (.dat 1 (([] : List Int).map Qac)), I 0, I 7]) ⟨rot (by kernel_rfl), rot (by kernel_rfl), rot (by kernel_rfl), rot (by kernel_rfl), trivial⟩ rfl (NLt.tup _ (nlc (nld Qaf _) (nlc (nld Qaf _) (nlc nll (nlc nll nl0))))) (by kernel_rfl) Qbx⟩
   ·replace h := Qaw hc12 h
    refine wfn hc12 (by kernel_rfl) ?_
    refine Qam ?_
    refine thn ?_
    obtain ⟨hm13, h⟩ := cko h
    obtain ⟨hm14, h⟩ := cko h
    refine Qct [rb [(.tmp 1, .ref 0 3 0 0)] [(0, (.own 3 [[I p0.Tank, I p0.Start, (.dat 2 ((p0.Hours : List GHour).map Qad))]]))] (.agg [I p0.Tank, I p0.Start, (.dat 2 ((p0.Hours : List GHour).map Qad))]), rb [(.tmp 1, .ref 0 3 0 0)] [(0, (.own 3 [[I p0.Tank, I p0.Start, (.dat 2 ((p0.Hours : List GHour).map Qad))]]))] (.ref 0 3 0 2), rb [(.tmp 27, .ref 0 3 0 2)] [(0, (.own 3 [[I p0.Tank, I p0.Start, (.dat 2 ((p0.Hours : List GHour).map Qad))]]))] (.dat 2 ((p0.Hours : List GHour).map Qad)), rp [(.tmp 28, (.dat 2 ((p0.Hours : List GHour).map Qad)))] (I ((p0.Hours.length : Int))), ⟨[(.tmp 29, (I ((p0.Hours.length : Int)))), (.tmp 29, (I ((p0.Hours.length : Int))))], [(1, .unused)], (.own 1 1 (0) ((p0.Hours.length : Int).toNat)), [(1, (.own 1 ((List.replicate (p0.Hours.length : Int).toNat 0 : List Int).map Qac)))], false⟩, rb [(.tmp 1, .ref 0 3 0 0)] [(0, (.own 3 [[I p0.Tank, I p0.Start, (.dat 2 ((p0.Hours : List GHour).map Qad))]]))] (.ref 0 3 0 2), rb [(.tmp 31, .ref 0 3 0 2)] [(0, (.own 3 [[I p0.Tank, I p0.Start, (.dat 2 ((p0.Hours : List GHour).map Qad))]]))] (.dat 2 ((p0.Hours : List GHour).map Qad)), rp [(.tmp 32, (.dat 2 ((p0.Hours : List GHour).map Qad)))] (I ((p0.Hours.length : Int))), ⟨[(.tmp 33, (I ((p0.Hours.length : Int)))), (.tmp 33, (I ((p0.Hours.length : Int))))], [(2, .unused)], (.own 2 1 (0) ((p0.Hours.length : Int).toNat)), [(2, (.own 1 ((List.replicate (p0.Hours.length : Int).toNat 0 : List Int).map Qac)))], false⟩, rp [(.tmp 26, (.agg [I p0.Tank, I p0.Start, (.dat 2 ((p0.Hours : List GHour).map Qad))])), (.tmp 30, (.own 1 1 (0) ((p0.Hours.length : Int).toNat))), (.tmp 34, (.own 2 1 (0) ((p0.Hours.length : Int).toNat)))] (.agg ((I p0.Tank) :: (I p0.Start) :: (.dat 2 ((p0.Hours : List GHour).map Qad)) :: (.own 1 1 (0) ((p0.Hours.length : Int).toNat)) :: (.own 2 1 (0) ((p0.Hours.length : Int).toNat)) :: (arrF 24 (fun _ => 0) ++ arrF 24 (fun _ => 0)))), ⟨[(.tmp 35, (.agg ((I p0.Tank) :: (I p0.Start) :: (.dat 2 ((p0.Hours : List GHour).map Qad)) :: (.own 1 1 (0) ((p0.Hours.length : Int).toNat)) :: (.own 2 1 (0) ((p0.Hours.length : Int).toNat)) :: (arrF 24 (fun _ => 0) ++ arrF 24 (fun _ => 0)))))], [(3, .unused)], .ref 3 53 0 0, [(3, (.own 53 [((I p0.Tank) :: (I p0.Start) :: (.dat 2 ((p0.Hours : List GHour).map Qad)) :: (.own 1 1 (0) ((p0.Hours.length : Int).toNat)) :: (.own 2 1 (0) ((p0.Hours.length : Int).toNat)) :: (arrF 24 (fun _ => 0) ++ arrF 24 (fun _ => 0)))]))], false⟩, mv 36 (.ref 3 53 0 0)] ?_ ?_
    ·exact ⟨ald rfl ti47 (by decide) rfl (nle rfl) rfl, afa rfl Try.underlying47 rfl rfl ti45 (by decide) rfl, ald rfl ti45 (by decide) rfl (nle rfl) rfl, alm (c := Qad) (l := p0.Hours) (aln rfl Try.underlying45 rfl), Qf7 rfl Try.underlying23 te3 tz3 rfl (and3a hm13) rfl (and3b hm13) (and3c' hm13) (Qia Qac rfl), afa rfl Try.underlying47 rfl rfl ti45 (by decide) rfl, ald rfl ti45 (by decide) rfl (nle rfl) rfl, alm (c := Qad) (l := p0.Hours) (aln rfl Try.underlying45 rfl), Qf7 rfl Try.underlying23 te3 tz3 rfl (and3a hm14) rfl (and3b hm14) (and3c' hm14) (Qia Qac rfl), Qa9 (vs := [(.agg [I p0.Tank, I p0.Start, (.dat 2 ((p0.Hours : List GHour).map Qad))]), (.own 1 1 (0) ((p0.Hours.length : Int).toNat)), (.own 2 1 (0) ((p0.Hours.length : Int).toNat))]) rfl ts152 tz152 rfl (by rfl) rfl, Qbu rfl (by rfl) rfl rfl, aas rfl, trivial⟩
    obtain ⟨k16, hk_k16, h⟩ := jko h
    refine wjn (τ := (Nat → Int)) (fun t => k16 t = some r) (fun y15 => ⟨mk 121 [(1, .ref 0 3 0 0), (4, I 0), (8, .ref 1 53 0 0)], [(.own 3 [[I p0.Tank, I p0.Start, (.dat 2 ((p0.Hours : List GHour).map Qad))]]), (.own 53 [((I p0.Tank) :: (I p0.Start) :: (.dat 2 ((p0.Hours : List GHour).map Qad)) :: (.own 2 1 (0) ((p0.Hours.length : Int).toNat)) :: (.own 3 1 (0) ((p0.Hours.length : Int).toNat)) :: (arrF 24 (fun _ => 0) ++ arrF 24 y15))]), (.own 1 ((List.replicate (p0.Hours.length : Int).toNat 0 : List Int).map Qac)), (.own 1 ((List.replicate (p0.Hours.length : Int).toNat 0 : List Int).map Qac))]⟩) (fun y15 h => ?_) ?_
    ·subst hk_k16
     refine wrg [rb [(.tmp 1, .ref 0 3 0 0)] [(0, (.own 3 [[I p0.Tank, I p0.Start, (.dat 2 ((p0.Hours : List GHour).map Qad))]]))] (.ref 0 3 0 1), rb [(.tmp 60, .ref 0 3 0 1)] [(0, (.own 3 [[I p0.Tank, I p0.Start, (.dat 2 ((p0.Hours : List GHour).map Qad))]]))] (I p0.Start), mv 61 (I p0.Start)] ?_ ?_
     ·exact ⟨afa rfl Try.underlying47 rfl rfl ti3 (by decide) rfl, ald rfl ti3 (by decide) rfl (nle rfl) rfl, aas rfl, trivial⟩
     obtain ⟨k21, hk_k21, h⟩ := jko h
     refine wjn (τ := (Nat → Int) × (Nat → Int) × (List Int) × (List Int)) (fun t => k21 t = some r) (fun ⟨y17, y18, y19, y20⟩ => ⟨mk 121 [(1, .ref 0 3 0 0), (4, I 0), (8, .ref 1 53 0 0)], [(.own 3 [[I p0.Tank, I p0.Start, (.dat 2 ((p0.Hours : List GHour).map Qad))]]), (.own 53 [((I p0.Tank) :: (I p0.Start) :: (.dat 2 ((p0.Hours : List GHour).map Qad)) :: (.own 2 1 (0) ((p0.Hours.length : Int).toNat)) :: (.own 3 1 (0) ((p0.Hours.length : Int).toNat)) :: (arrF 24 y17 ++ arrF 24 y18))]), (.own 1 ((y19 : List Int).map Qac)), (.own 1 ((y20 : List Int).map Qac))]⟩) (fun t h => ?_) ?_
     ·subst hk_k21
      obtain ⟨y17, y18, y19, y20⟩ := t
      obtain ⟨k23, hk_k23, h⟩ := jko h
      refine wjn (τ := Int) (fun t => k23 t = some r) (fun y22 => ⟨mk 121 [(4, I y22), (8, .ref 0 53 0 0)], [(.own 53 [((I p0.Tank) :: (I p0.Start) :: (.dat 2 ((p0.Hours : List GHour).map Qad)) :: (.own 1 1 (0) ((p0.Hours.length : Int).toNat)) :: (.own 2 1 (0) ((p0.Hours.length : Int).toNat)) :: (arrF 24 y17 ++ arrF 24 y18))]), (.own 1 ((y19 : List Int).map Qac)), (.own 1 ((y20 : List Int).map Qac))]⟩) (fun y22 h => ?_) ?_
      ·subst hk_k23
       obtain ⟨hz24, h⟩ := cko h
       obtain ⟨hz25, h⟩ := cko h
       obtain ⟨x27, hf26, h⟩ := bno h
       refine Qct [mv 8 (.ref 0 53 0 0), rb [(.tmp 114, .ref 0 53 0 0)] [(0, (.own 53 [((I p0.Tank) :: (I p0.Start) :: (.dat 2 ((p0.Hours : List GHour).map Qad)) :: (.own 1 1 (0) ((p0.Hours.length : Int).toNat)) :: (.own 2 1 (0) ((p0.Hours.length : Int).toNat)) :: (arrF 24 y17 ++ arrF 24 y18))]))] (.ref 0 53 0 0), rb [(.tmp 115, .ref 0 53 0 0)] [(0, (.own 53 [((I p0.Tank) :: (I p0.Start) :: (.dat 2 ((p0.Hours : List GHour).map Qad)) :: (.own 1 1 (0) ((p0.Hours.length : Int).toNat)) :: (.own 2 1 (0) ((p0.Hours.length : Int).toNat)) :: (arrF 24 y17 ++ arrF 24 y18))]))] (.ref 0 53 0 3), rb [(.tmp 116, .ref 0 53 0 3)] [(0, (.own 53 [((I p0.Tank) :: (I p0.Start) :: (.dat 2 ((p0.Hours : List GHour).map Qad)) :: (.own 1 1 (0) ((p0.Hours.length : Int).toNat)) :: (.own 2 1 (0) ((p0.Hours.length : Int).toNat)) :: (arrF 24 y17 ++ arrF 24 y18))]))] (.own 1 1 (0) ((p0.Hours.length : Int).toNat)), mv 8 (.ref 0 53 0 0), ⟨[fu 78, (.tmp 118, .ref 0 53 0 0)], [(0, (.own 53 [((I p0.Tank) :: (I p0.Start) :: (.dat 2 ((p0.Hours : List GHour).map Qad)) :: (.own 1 1 (0) ((p0.Hours.length : Int).toNat)) :: (.own 2 1 (0) ((p0.Hours.length : Int).toNat)) :: (arrF 24 y17 ++ arrF 24 y18))])), (1, (.own 1 ((y19 : List Int).map Qac))), (2, (.own 1 ((y20 : List Int).map Qac))), (3, .unused)], (.own 3 1 (0) ((p0.Hours.length : Int).toNat)), [(3, (.own 1 ((x27 : List Int).map Qac)))], false⟩, mv 4 (I y22), mv 117 (.own 1 1 (0) ((p0.Hours.length : Int).toNat)), mv 119 (.own 3 1 (0) ((p0.Hours.length : Int).toNat)), mv 120 (I y22), mc (.int .i64 0)] ?_ ?_
       ·exact ⟨amv rfl, Qci rfl, afa rfl Try.underlying152 rfl rfl ti23 (by decide) rfl, ald rfl ti23 (by decide) rfl (nle rfl) rfl, amv rfl, Qi1 (rd' := [fu 78, (.tmp 118, (.dptr ((I p0.Tank) :: (I p0.Start) :: (.dat 2 ((p0.Hours : List GHour).map Qad)) :: (.dat 1 ((y19.take ((p0.Hours.length : Int).toNat) : List Int).map Qac)) :: (.dat 1 ((y20.take ((p0.Hours.length : Int).toNat) : List Int).map Qac)) :: (arrF 24 y17 ++ arrF 24 y18)) 0))]) [(0, 53, [((I p0.Tank) :: (I p0.Start) :: (.dat 2 ((p0.Hours : List GHour).map Qad)) :: (.own 1 1 (0) ((p0.Hours.length : Int).toNat)) :: (.own 2 1 (0) ((p0.Hours.length : Int).toNat)) :: (arrF 24 y17 ++ arrF 24 y18))]), (1, 1, (y19 : List Int).map Qac), (2, 1, (y20 : List Int).map Qac)] ⟨rfl, .same _, rfl, (cv_box 0 rfl (lc (.same _) (lc (.same _) (lc (.same _) (lc (cv_take 1 rfl hz24) (lc (cv_take 2 rfl hz25) (Qck (Qa6 fun _ => (.same _)) (Qa6 fun _ => (.same _))))))))), trivial⟩ (by rfl) (.own _ _ _ _ (nin rfl)) (sfr_cons (.own _ _ (fresh_rows lit_i64 _)) sfr_nil) (Qa4 (first := []) (cap := []) (vs := [(.dptr ((I p0.Tank) :: (I p0.Start) :: (.dat 2 ((p0.Hours : List GHour).map Qad)) :: (.dat 1 (((y19.take ((p0.Hours.length : Int).toNat)) : List Int).map Qac)) :: (.dat 1 (((y20.take ((p0.Hours.length : Int).toNat)) : List Int).map Qac)) :: (arrF 24 y17 ++ arrF 24 y18)) 0)]) (σr := []) (σr' := [(.own 1 ((x27 : List Int).map Qac))]) (res' := (.own 3 1 (0) ((p0.Hours.length : Int).toNat))) [3] rfl enter78 (Qhj N p0.Tank p0.Start p0.Hours (y19.take ((p0.Hours.length : Int).toNat)) (y20.take ((p0.Hours.length : Int).toNat)) y17 y18 _ hf26) rfl (Qc3 (rnc (.plain _ (NLt.dptr _ _ (nlc nll (nlc nll (nlc (nld Qas _) (nlc (nld Qaf _) (nlc (nld Qaf _) (Qeu Qdg Qdg)))))))) rn0)) Qa0 (slc (Qby Qaf) Qa0) (Qgw rfl) rfl rfl rfl), amv rfl, aas rfl, aas rfl, aas rfl, aas rfl, trivial⟩
       obtain ⟨hz28, h⟩ := cko h
       refine wmr (mor_fz (n := 121) (l' := [(2, (.dat 1 ((y19.take ((p0.Hours.length : Int).toNat) : List Int).map Qac))), (3, (.own 3 1 (0) ((p0.Hours.length : Int).toNat))), (4, I y22), (5, I 0)]) 1 [(2, (.own 1 1 (0) ((p0.Hours.length : Int).toNat))), (3, (.own 3 1 (0) ((p0.Hours.length : Int).toNat))), (4, I y22), (5, I 0)] (by kernel_rfl) (by kernel_rfl) (by kernel_rfl) ⟨rfl, (Qig hz28), rfl, (.same _), rfl, (.same _), rfl, (.same _), trivial⟩ rfl) ?_
       obtain ⟨hz29, h⟩ := cko h
       refine wmr (mor_fz (n := 121) (l' := [(2, (.dat 1 ((y19.take ((p0.Hours.length : Int).toNat) : List Int).map Qac))), (3, (.dat 1 ((x27.take ((p0.Hours.length : Int).toNat) : List Int).map Qac))), (4, I y22), (5, I 0)]) 3 [(2, (.dat 1 ((y19.take ((p0.Hours.length : Int).toNat) : List Int).map Qac))), (3, (.own 3 1 (0) ((p0.Hours.length : Int).toNat))), (4, I y22), (5, I 0)] (by kernel_rfl) (by kernel_rfl) (by kernel_rfl) ⟨rfl, (.same _), rfl, (Qig hz29), rfl, (.same _), rfl, (.same _), trivial⟩ rfl) ?_
       refine wmr (mto (n := 121) (l' := [(2, (.dat 1 ((y19.take ((p0.Hours.length : Int).toNat) : List Int).map Qac))), (3, (.dat 1 ((x27.take ((p0.Hours.length : Int).toNat) : List Int).map Qac))), (4, I y22), (5, I 0)]) (own' := []) [(2, (.dat 1 ((y19.take ((p0.Hours.length : Int).toNat) : List Int).map Qac))), (3, (.dat 1 ((x27.take ((p0.Hours.length : Int).toNat) : List Int).map Qac))), (4, I y22), (5, I 0)] [] [] hφ0 (pc (.rn (.plain _ (nld Qaf _))) (pc (.rn (.plain _ (nld Qaf _))) (pc rwl (pc rwl pn)))) qn) ?_
       refine Qak ?_
       obtain rfl := osi h
       exact ⟨_, Mor.rfl, Qc0 (vs := [(.dat 1 ((y19.take ((p0.Hours.length : Int).toNat) : List Int).map Qac)), (.dat 1 ((x27.take ((p0.Hours.length : Int).toNat) : List Int).map Qac)), I y22, I 0]) ⟨rot (by kernel_rfl), rot (by kernel_rfl), rot (by kernel_rfl), rot (by kernel_rfl), trivial⟩ rfl (NLt.tup _ (nlc (nld Qaf _) (nlc (nld Qaf _) (nlc nll (nlc nll nl0))))) (by kernel_rfl) Qbx⟩
      ·skip
       refine wrg [rb [(.tmp 1, .ref 0 3 0 0)] [(0, (.own 3 [[I p0.Tank, I p0.Start, (.dat 2 ((p0.Hours : List GHour).map Qad))]]))] (.ref 0 3 0 2), rb [(.tmp 94, .ref 0 3 0 2)] [(0, (.own 3 [[I p0.Tank, I p0.Start, (.dat 2 ((p0.Hours : List GHour).map Qad))]]))] (.dat 2 ((p0.Hours : List GHour).map Qad)), rp [(.tmp 95, (.dat 2 ((p0.Hours : List GHour).map Qad)))] (I ((p0.Hours.length : Int))), mc (.int .i64 0)] ?_ ?_
       ·exact ⟨afa rfl Try.underlying47 rfl rfl ti45 (by decide) rfl, ald rfl ti45 (by decide) rfl (nle rfl) rfl, alm (c := Qad) (l := p0.Hours) (aln rfl Try.underlying45 rfl), amv rfl, trivial⟩
       refine Qan ?_
       refine wmr (mto (n := 121) (l' := [(4, I 0), (8, .ref 0 53 0 0), (95, (.dat 2 ((p0.Hours : List GHour).map Qad))), (96, (I ((p0.Hours.length : Int)))), (97, I 0)]) (own' := [(.own 53 [((I p0.Tank) :: (I p0.Start) :: (.dat 2 ((p0.Hours : List GHour).map Qad)) :: (.own 1 1 (0) ((p0.Hours.length : Int).toNat)) :: (.own 2 1 (0) ((p0.Hours.length : Int).toNat)) :: (arrF 24 y17 ++ arrF 24 y18))]), (.own 1 ((y19 : List Int).map Qac)), (.own 1 ((y20 : List Int).map Qac))]) [(4, I 0), (8, .ref 1 53 0 0), (95, (.dat 2 ((p0.Hours : List GHour).map Qad))), (96, (I ((p0.Hours.length : Int)))), (97, I 0)] [1, 2, 3] [(.own 53 [((I p0.Tank) :: (I p0.Start) :: (.dat 2 ((p0.Hours : List GHour).map Qad)) :: (.own 2 1 (0) ((p0.Hours.length : Int).toNat)) :: (.own 3 1 (0) ((p0.Hours.length : Int).toNat)) :: (arrF 24 y17 ++ arrF 24 y18))]), (.own 1 ((y19 : List Int).map Qac)), (.own 1 ((y20 : List Int).map Qac))] hφ0 (pc rwl (pc (.rn (rqr rfl)) (pc (.rn (.plain _ (nld Qas _))) (pc rwl (pc rwl pn))))) (qc (spb (lc rwl (lc rwl (lc (.rn (.plain _ (nld Qas _))) (lc (.rn (Qaj rfl)) (lc (.rn (Qaj rfl)) (Qck (Qa6 fun _ => rwl) (Qa6 fun _ => rwl)))))))) (qc (spr Qaf) (qc (spr Qaf) qn)))) ?_
       refine Qcc (τ := Int × Int) (fun n t => Qd4 N p0 y19 k23 n t.1 t.2 = some r) (fun ⟨y30, y31⟩ => ⟨mk 121 [(4, I y30), (8, .ref 0 53 0 0), (95, (.dat 2 ((p0.Hours : List GHour).map Qad))), (96, (I ((p0.Hours.length : Int)))), (97, I y31)], [(.own 53 [((I p0.Tank) :: (I p0.Start) :: (.dat 2 ((p0.Hours : List GHour).map Qad)) :: (.own 1 1 (0) ((p0.Hours.length : Int).toNat)) :: (.own 2 1 (0) ((p0.Hours.length : Int).toNat)) :: (arrF 24 y17 ++ arrF 24 y18))]), (.own 1 ((y19 : List Int).map Qac)), (.own 1 ((y20 : List Int).map Qac))]⟩) (fun t h => by rw [Qd4] at h; cases h) (fun n34 ih t h => ?_) N (0, 0) h
       obtain ⟨y30, y31⟩ := t
       rw [Qd4] at h
       skip
       refine wrg [rp [(.tmp 97, I y31), (.tmp 96, (I ((p0.Hours.length : Int))))] (B ((decide (y31 < (p0.Hours.length : Int)))))] ?_ ?_
       ·exact ⟨abn rfl rfl, trivial⟩
       refine wsq ?_
       rcases bft ((decide (y31 < (p0.Hours.length : Int)))) with hc35 | hc35
       ·replace h := Qav hc35 h
        refine wft hc35 (by kernel_rfl) ?_
        refine Qam ?_
        refine thn ?_
        refine wsq ?_
        refine Qan ?_
        obtain ⟨x36, hg37, h⟩ := bno h
        obtain ⟨hi38, hj39⟩ := gsm hg37
        refine wrg [mv 97 (I y31), rp [(.tmp 95, (.dat 2 ((p0.Hours : List GHour).map Qad))), (.tmp 97, I y31)] (.dptr (Qad (x36)) 0), rp [(.tmp 100, (.dptr (Qad (x36)) 0))] (.agg [I x36.Use, (.dat 2 ((x36.Stairs : List GStair).map Qah))]), ⟨[], [(3, .unused)], .ref 3 2 0 0, [(3, .own 2 [[I 0, nilS]])], false⟩, mv 99 (I y31), ⟨[(.tmp 15, .ref 3 2 0 0), (.tmp 101, (.agg [I x36.Use, (.dat 2 ((x36.Stairs : List GStair).map Qah))]))], [(3, .own 2 [[I 0, nilS]])], .any, [(3, (.own 2 [[I x36.Use, (.dat 2 ((x36.Stairs : List GStair).map Qah))]]))], false⟩] ?_ ?_
        ·exact ⟨amv rfl, aid rfl Try.underlying45 ti62 rfl rfl hi38 (mgt Qad hj39) rfl, ald_ rfl ti62 (by decide) (nle rfl) rfl, Qaz rfl tz62 rfl, aas rfl, ast rfl ti62 (by rfl) rfl (nle rfl) rfl, trivial⟩
        obtain ⟨hi40, h⟩ := cko h
        obtain ⟨hi40a, hi40b⟩ := Qba hi40
        obtain ⟨x41, hg42, h⟩ := bno h
        obtain ⟨x44, hf43, h⟩ := bno h
        refine Qde [mv 4 (I y30), rb [(.tmp 15, .ref 3 2 0 0)] [(3, (.own 2 [[I x36.Use, (.dat 2 ((x36.Stairs : List GStair).map Qah))]]))] (.agg [I x36.Use, (.dat 2 ((x36.Stairs : List GStair).map Qah))]), mv 8 (.ref 0 53 0 0), rb [(.tmp 104, .ref 0 53 0 0)] [(0, (.own 53 [((I p0.Tank) :: (I p0.Start) :: (.dat 2 ((p0.Hours : List GHour).map Qad)) :: (.own 1 1 (0) ((p0.Hours.length : Int).toNat)) :: (.own 2 1 (0) ((p0.Hours.length : Int).toNat)) :: (arrF 24 y17 ++ arrF 24 y18))]))] (.ref 0 53 0 0), rb [(.tmp 105, .ref 0 53 0 0)] [(0, (.own 53 [((I p0.Tank) :: (I p0.Start) :: (.dat 2 ((p0.Hours : List GHour).map Qad)) :: (.own 1 1 (0) ((p0.Hours.length : Int).toNat)) :: (.own 2 1 (0) ((p0.Hours.length : Int).toNat)) :: (arrF 24 y17 ++ arrF 24 y18))]))] (.ref 0 53 0 3), rb [(.tmp 106, .ref 0 53 0 3)] [(0, (.own 53 [((I p0.Tank) :: (I p0.Start) :: (.dat 2 ((p0.Hours : List GHour).map Qad)) :: (.own 1 1 (0) ((p0.Hours.length : Int).toNat)) :: (.own 2 1 (0) ((p0.Hours.length : Int).toNat)) :: (arrF 24 y17 ++ arrF 24 y18))]))] (.own 1 1 (0) ((p0.Hours.length : Int).toNat)), mv 14 (I y31), rb [(.tmp 107, (.own 1 1 (0) ((p0.Hours.length : Int).toNat))), (.tmp 108, I y31)] [(1, (.own 1 ((y19 : List Int).map Qac)))] (.ref 1 1 (y31.toNat) 0), rb [(.tmp 109, (.ref 1 1 (y31.toNat) 0))] [(1, (.own 1 ((y19 : List Int).map Qac)))] (I x41), rp [fu 77, (.tmp 103, (.agg [I x36.Use, (.dat 2 ((x36.Stairs : List GStair).map Qah))])), (.tmp 110, I x41)] (I x44), rp [(.tmp 102, I y30), (.tmp 111, I x44)] (I (w64 (y30 + x44))), mv 112 (I (w64 (y30 + x44)))] ?_ ?_
        ·exact ⟨amv rfl, ald rfl ti62 (by decide) rfl (nle rfl) rfl, amv rfl, Qci rfl, afa rfl Try.underlying152 rfl rfl ti23 (by decide) rfl, ald rfl ti23 (by decide) rfl (nle rfl) rfl, amv rfl, aio rfl Try.underlying23 ti3 (odt hi40a) (odt hi40b) (Nat.zero_add _), ald rfl ti3 (by decide) (mgt Qac hg42) (nle rfl) rfl, apc (first := []) (cap := []) (vs := [(.agg [I x36.Use, (.dat 2 ((x36.Stairs : List GStair).map Qah))]), I x41]) rfl enter77 (Qip N x36 x41 _ hf43) rfl rfl (nlc (NLt.agg _ (nlc nll (nlc (nld Qb8 _) nl0))) (nlc nll nl0)) nll rfl, abn rfl rfl, aas rfl, trivial⟩
        refine bln ?_
        refine thn ?_
        refine Qar [rp [(.tmp 97, I y31), ci 1] (I (w64 (y31 + 1))), mv 113 (I (w64 (y31 + 1)))] ?_ ?_
        ·exact ⟨abn rfl rfl, amv rfl, trivial⟩
        refine thn ?_
        exact arm (mto (n := 121) [(4, (I (w64 (y30 + x44)))), (8, .ref 0 53 0 0), (95, (.dat 2 ((p0.Hours : List GHour).map Qad))), (96, (I ((p0.Hours.length : Int)))), (97, (I (w64 (y31 + 1))))] [0, 1, 2] [(.own 53 [((I p0.Tank) :: (I p0.Start) :: (.dat 2 ((p0.Hours : List GHour).map Qad)) :: (.own 1 1 (0) ((p0.Hours.length : Int).toNat)) :: (.own 2 1 (0) ((p0.Hours.length : Int).toNat)) :: (arrF 24 y17 ++ arrF 24 y18))]), (.own 1 ((y19 : List Int).map Qac)), (.own 1 ((y20 : List Int).map Qac))] hφ0 (pc rwl (pc (.rn (rqr rfl)) (pc (.rn (.plain _ (nld Qas _))) (pc rwl (pc rwl pn))))) (qc (spb (lc rwl (lc rwl (lc (.rn (.plain _ (nld Qas _))) (lc (.rn (Qaj rfl)) (lc (.rn (Qaj rfl)) (Qck (Qa6 fun _ => rwl) (Qa6 fun _ => rwl)))))))) (qc (spr Qaf) (qc (spr Qaf) qn)))) (ih (w64 (y30 + x44), w64 (y31 + 1)) h)
       ·replace h := Qaw hc35 h
        refine wfn hc35 (by kernel_rfl) ?_
        refine Qbf ?_
        refine Qau ?_
        refine Qau ?_
        refine Qbe rfl ?_
        refine thn ?_
        exact ⟨(y30), h, (mto (n := 121) [(4, I y30), (8, .ref 0 53 0 0)] [0, 1, 2] [(.own 53 [((I p0.Tank) :: (I p0.Start) :: (.dat 2 ((p0.Hours : List GHour).map Qad)) :: (.own 1 1 (0) ((p0.Hours.length : Int).toNat)) :: (.own 2 1 (0) ((p0.Hours.length : Int).toNat)) :: (arrF 24 y17 ++ arrF 24 y18))]), (.own 1 ((y19 : List Int).map Qac)), (.own 1 ((y20 : List Int).map Qac))] hφ0 (pc rwl (pc (.rn (rqr rfl)) pn)) (qc (spb (lc rwl (lc rwl (lc (.rn (.plain _ (nld Qas _))) (lc (.rn (Qaj rfl)) (lc (.rn (Qaj rfl)) (Qck (Qa6 fun _ => rwl) (Qa6 fun _ => rwl)))))))) (qc (spr Qaf) (qc (spr Qaf) qn))))⟩
     ·skip
      refine wrg [rb [(.tmp 1, .ref 0 3 0 0)] [(0, (.own 3 [[I p0.Tank, I p0.Start, (.dat 2 ((p0.Hours : List GHour).map Qad))]]))] (.ref 0 3 0 2), rb [(.tmp 62, .ref 0 3 0 2)] [(0, (.own 3 [[I p0.Tank, I p0.Start, (.dat 2 ((p0.Hours : List GHour).map Qad))]]))] (.dat 2 ((p0.Hours : List GHour).map Qad)), rp [(.tmp 63, (.dat 2 ((p0.Hours : List GHour).map Qad)))] (I ((p0.Hours.length : Int))), mc (.int .i64 0)] ?_ ?_
      ·exact ⟨afa rfl Try.underlying47 rfl rfl ti45 (by decide) rfl, ald rfl ti45 (by decide) rfl (nle rfl) rfl, alm (c := Qad) (l := p0.Hours) (aln rfl Try.underlying45 rfl), amv rfl, trivial⟩
      refine Qan ?_
      refine wmr (mto (n := 121) (l' := [(1, .ref 0 3 0 0), (4, I 0), (8, .ref 1 53 0 0), (11, I p0.Start), (63, (.dat 2 ((p0.Hours : List GHour).map Qad))), (64, (I ((p0.Hours.length : Int)))), (65, I 0)]) (own' := [(.own 3 [[I p0.Tank, I p0.Start, (.dat 2 ((p0.Hours : List GHour).map Qad))]]), (.own 53 [((I p0.Tank) :: (I p0.Start) :: (.dat 2 ((p0.Hours : List GHour).map Qad)) :: (.own 2 1 (0) ((p0.Hours.length : Int).toNat)) :: (.own 3 1 (0) ((p0.Hours.length : Int).toNat)) :: (arrF 24 (fun _ => 0) ++ arrF 24 y15))]), (.own 1 (((List.replicate (p0.Hours.length : Int).toNat 0) : List Int).map Qac)), (.own 1 (((List.replicate (p0.Hours.length : Int).toNat 0) : List Int).map Qac))]) [(1, .ref 0 3 0 0), (4, I 0), (8, .ref 1 53 0 0), (11, I p0.Start), (63, (.dat 2 ((p0.Hours : List GHour).map Qad))), (64, (I ((p0.Hours.length : Int)))), (65, I 0)] [0, 1, 2, 3] [(.own 3 [[I p0.Tank, I p0.Start, (.dat 2 ((p0.Hours : List GHour).map Qad))]]), (.own 53 [((I p0.Tank) :: (I p0.Start) :: (.dat 2 ((p0.Hours : List GHour).map Qad)) :: (.own 2 1 (0) ((p0.Hours.length : Int).toNat)) :: (.own 3 1 (0) ((p0.Hours.length : Int).toNat)) :: (arrF 24 (fun _ => 0) ++ arrF 24 y15))]), (.own 1 ((List.replicate (p0.Hours.length : Int).toNat 0 : List Int).map Qac)), (.own 1 ((List.replicate (p0.Hours.length : Int).toNat 0 : List Int).map Qac))] hφ0 (pc (.rn (rqr rfl)) (pc rwl (pc (.rn (rqr rfl)) (pc rwl (pc (.rn (.plain _ (nld Qas _))) (pc rwl (pc rwl pn))))))) (qc (spb (lc rwl (lc rwl (lc (.rn (.plain _ (nld Qas _))) ln)))) (qc (spb (lc rwl (lc rwl (lc (.rn (.plain _ (nld Qas _))) (lc (.rn (Qaj rfl)) (lc (.rn (Qaj rfl)) (Qck (Qa6 fun _ => rwl) (Qa6 fun _ => rwl)))))))) (qc (spr Qaf) (qc (spr Qaf) qn))))) ?_
      refine Qcc (τ := Int × Int × (Nat → Int) × (Nat → Int) × (List Int) × (List Int)) (fun n t => Qd3 N p0 k21 n t.1 t.2.1 t.2.2.1 t.2.2.2.1 t.2.2.2.2.1 t.2.2.2.2.2 = some r) (fun ⟨y45, y46, y47, y48, y49, y50⟩ => ⟨mk 121 [(1, .ref 0 3 0 0), (4, I 0), (8, .ref 1 53 0 0), (11, I y45), (63, (.dat 2 ((p0.Hours : List GHour).map Qad))), (64, (I ((p0.Hours.length : Int)))), (65, I y46)], [(.own 3 [[I p0.Tank, I p0.Start, (.dat 2 ((p0.Hours : List GHour).map Qad))]]), (.own 53 [((I p0.Tank) :: (I p0.Start) :: (.dat 2 ((p0.Hours : List GHour).map Qad)) :: (.own 2 1 (0) ((p0.Hours.length : Int).toNat)) :: (.own 3 1 (0) ((p0.Hours.length : Int).toNat)) :: (arrF 24 y47 ++ arrF 24 y48))]), (.own 1 ((y49 : List Int).map Qac)), (.own 1 ((y50 : List Int).map Qac))]⟩) (fun t h => by rw [Qd3] at h; cases h) (fun n57 ih t h => ?_) N (p0.Start, 0, fun _ => 0, y15, List.replicate (p0.Hours.length : Int).toNat 0, List.replicate (p0.Hours.length : Int).toNat 0) h
      obtain ⟨y45, y46, y47, y48, y49, y50⟩ := t
      rw [Qd3] at h
      skip
      refine wrg [rp [(.tmp 65, I y46), (.tmp 64, (I ((p0.Hours.length : Int))))] (B ((decide (y46 < (p0.Hours.length : Int)))))] ?_ ?_
      ·exact ⟨abn rfl rfl, trivial⟩
      refine wsq ?_
      rcases bft ((decide (y46 < (p0.Hours.length : Int)))) with hc58 | hc58
      ·replace h := Qav hc58 h
       refine wft hc58 (by kernel_rfl) ?_
       refine Qam ?_
       refine thn ?_
       refine wsq ?_
       refine Qan ?_
       obtain ⟨x59, hg60, h⟩ := bno h
       obtain ⟨hi61, hj62⟩ := gsm hg60
       refine wrg [mv 65 (I y46), rp [(.tmp 63, (.dat 2 ((p0.Hours : List GHour).map Qad))), (.tmp 65, I y46)] (.dptr (Qad (x59)) 0), rp [(.tmp 68, (.dptr (Qad (x59)) 0))] (.agg [I x59.Use, (.dat 2 ((x59.Stairs : List GStair).map Qah))]), ⟨[], [(4, .unused)], .ref 4 2 0 0, [(4, .own 2 [[I 0, nilS]])], false⟩, mv 67 (I y46), ⟨[(.tmp 13, .ref 4 2 0 0), (.tmp 69, (.agg [I x59.Use, (.dat 2 ((x59.Stairs : List GStair).map Qah))]))], [(4, .own 2 [[I 0, nilS]])], .any, [(4, (.own 2 [[I x59.Use, (.dat 2 ((x59.Stairs : List GStair).map Qah))]]))], false⟩] ?_ ?_
       ·exact ⟨amv rfl, aid rfl Try.underlying45 ti62 rfl rfl hi61 (mgt Qad hj62) rfl, ald_ rfl ti62 (by decide) (nle rfl) rfl, Qaz rfl tz62 rfl, aas rfl, ast rfl ti62 (by rfl) rfl (nle rfl) rfl, trivial⟩
       obtain ⟨x63, hl64, h⟩ := bno h
       obtain ⟨x66, hf65, h⟩ := bno h
       refine wrg [mv 8 (.ref 1 53 0 0), mv 12 (I y46), rb [(.tmp 13, .ref 4 2 0 0)] [(4, (.own 2 [[I x59.Use, (.dat 2 ((x59.Stairs : List GStair).map Qah))]]))] (.ref 4 2 0 0), rb [(.tmp 72, .ref 4 2 0 0)] [(4, (.own 2 [[I x59.Use, (.dat 2 ((x59.Stairs : List GStair).map Qah))]]))] (I x59.Use), mv 11 (I y45), rp [(.tmp 73, I x59.Use), (.tmp 74, I y45)] (I (w64 (x59.Use - y45))), rp [ci 0, (.tmp 75, (I (w64 (x59.Use - y45))))] (I x63), ⟨[fu 76, (.tmp 70, .ref 1 53 0 0), (.tmp 71, I y46), (.tmp 76, I x63)], [(1, (.own 53 [((I p0.Tank) :: (I p0.Start) :: (.dat 2 ((p0.Hours : List GHour).map Qad)) :: (.own 2 1 (0) ((p0.Hours.length : Int).toNat)) :: (.own 3 1 (0) ((p0.Hours.length : Int).toNat)) :: (arrF 24 y47 ++ arrF 24 y48))])), (2, (.own 1 ((y49 : List Int).map Qac))), (3, (.own 1 ((y50 : List Int).map Qac)))], (.tup []), [(1, (.own 53 [((I p0.Tank) :: (I p0.Start) :: (.dat 2 ((p0.Hours : List GHour).map Qad)) :: (.own 2 1 (0) (((p0.Hours.length : Int).toNat))) :: (.own 3 1 (0) (((p0.Hours.length : Int).toNat))) :: (arrF 24 x66.1 ++ arrF 24 x66.2.1))])), (2, (.own 1 ((x66.2.2.1 : List Int).map Qac))), (3, (.own 1 ((x66.2.2.2 : List Int).map Qac)))], false⟩] ?_ ?_
       ·exact ⟨amv rfl, amv rfl, afa rfl Try.underlying62 rfl rfl ti3 (by decide) rfl, ald rfl ti3 (by decide) rfl (nle rfl) rfl, amv rfl, abn rfl rfl, Qe2 hl64 (Qiy rfl), Qa4 (first := []) (cap := []) (vs := [.ref 1 53 0 0, I y46, I x63]) (σr := [(.own 53 [((I p0.Tank) :: (I p0.Start) :: (.dat 2 ((p0.Hours : List GHour).map Qad)) :: (.own 2 1 (0) ((p0.Hours.length : Int).toNat)) :: (.own 3 1 (0) ((p0.Hours.length : Int).toNat)) :: (arrF 24 y47 ++ arrF 24 y48))]), (.own 1 ((y49 : List Int).map Qac)), (.own 1 ((y50 : List Int).map Qac))]) (σr' := [(.own 53 [((I p0.Tank) :: (I p0.Start) :: (.dat 2 ((p0.Hours : List GHour).map Qad)) :: (.own 2 1 (0) (((p0.Hours.length : Int).toNat))) :: (.own 3 1 (0) (((p0.Hours.length : Int).toNat))) :: (arrF 24 x66.1 ++ arrF 24 x66.2.1))]), (.own 1 ((x66.2.2.1 : List Int).map Qac)), (.own 1 ((x66.2.2.2 : List Int).map Qac))]) (res' := (.tup [])) [1, 2, 3] rfl enter76 (Qhy N y46 x63 p0.Tank p0.Start p0.Hours ((p0.Hours.length : Int).toNat) ((p0.Hours.length : Int).toNat) y47 y48 y49 y50 _ hf65) rfl (Qc3 (rnc (Qbz rfl) (rnc (.plain _ nll) (rnc (.plain _ nll) rn0)))) (slc (Qat (rnc (.plain _ nll) (rnc (.plain _ nll) (rnc (.plain _ (nld Qas _)) (rnc (Qen rfl) (rnc (Qen rfl) (Qck (Qa6 fun _ => (.plain _ nll)) (Qa6 fun _ => (.plain _ nll))))))))) (slc (Qby Qaf) (slc (Qby Qaf) Qa0))) (slc (Qat (rnc (.plain _ nll) (rnc (.plain _ nll) (rnc (.plain _ (nld Qas _)) (rnc (Qgw rfl) (rnc (Qgw rfl) (Qck (Qa6 fun _ => (.plain _ nll)) (Qa6 fun _ => (.plain _ nll))))))))) (slc (Qby Qaf) (slc (Qby Qaf) Qa0))) (.plain _ (NLt.tup _ nl0)) rfl rfl rfl, trivial⟩
       obtain ⟨x67, hl68, h⟩ := bno h
       refine wrg [mv 11 (I y45), rb [(.tmp 13, .ref 4 2 0 0)] [(4, (.own 2 [[I x59.Use, (.dat 2 ((x59.Stairs : List GStair).map Qah))]]))] (.ref 4 2 0 0), rb [(.tmp 79, .ref 4 2 0 0)] [(4, (.own 2 [[I x59.Use, (.dat 2 ((x59.Stairs : List GStair).map Qah))]]))] (I x59.Use), rp [(.tmp 78, I y45), (.tmp 80, I x59.Use)] (I (w64 (y45 - x59.Use))), rp [ci 0, (.tmp 81, (I (w64 (y45 - x59.Use))))] (I x67), mv 82 (I x67)] ?_ ?_
       ·exact ⟨amv rfl, afa rfl Try.underlying62 rfl rfl ti3 (by decide) rfl, ald rfl ti3 (by decide) rfl (nle rfl) rfl, abn rfl rfl, Qe2 hl68 (Qiy rfl), aas rfl, trivial⟩
       obtain ⟨hi69, h⟩ := cko h
       obtain ⟨hi69a, hi69b⟩ := Qba hi69
       obtain ⟨x70, hg71, h⟩ := bno h
       obtain ⟨hi72, h⟩ := cko h
       obtain ⟨hi72a, hi72b⟩ := Qba hi72
       obtain ⟨x73, hg74, h⟩ := bno h
       refine Qar [mv 8 (.ref 1 53 0 0), rb [(.tmp 83, .ref 1 53 0 0)] [(1, (.own 53 [((I p0.Tank) :: (I p0.Start) :: (.dat 2 ((p0.Hours : List GHour).map Qad)) :: (.own 2 1 (0) (((p0.Hours.length : Int).toNat))) :: (.own 3 1 (0) (((p0.Hours.length : Int).toNat))) :: (arrF 24 x66.1 ++ arrF 24 x66.2.1))]))] (.ref 1 53 0 0), rb [(.tmp 84, .ref 1 53 0 0)] [(1, (.own 53 [((I p0.Tank) :: (I p0.Start) :: (.dat 2 ((p0.Hours : List GHour).map Qad)) :: (.own 2 1 (0) (((p0.Hours.length : Int).toNat))) :: (.own 3 1 (0) (((p0.Hours.length : Int).toNat))) :: (arrF 24 x66.1 ++ arrF 24 x66.2.1))]))] (.ref 1 53 0 4), rb [(.tmp 85, .ref 1 53 0 4)] [(1, (.own 53 [((I p0.Tank) :: (I p0.Start) :: (.dat 2 ((p0.Hours : List GHour).map Qad)) :: (.own 2 1 (0) (((p0.Hours.length : Int).toNat))) :: (.own 3 1 (0) (((p0.Hours.length : Int).toNat))) :: (arrF 24 x66.1 ++ arrF 24 x66.2.1))]))] (.own 3 1 (0) (((p0.Hours.length : Int).toNat))), mv 12 (I y46), rb [(.tmp 86, (.own 3 1 (0) (((p0.Hours.length : Int).toNat)))), (.tmp 87, I y46)] [(3, (.own 1 ((x66.2.2.2 : List Int).map Qac)))] (.ref 3 1 (y46.toNat) 0), rb [(.tmp 88, (.ref 3 1 (y46.toNat) 0))] [(3, (.own 1 ((x66.2.2.2 : List Int).map Qac)))] (I x70), mv 11 (I x67), rp [(.tmp 89, I x70), (.tmp 90, I x67)] (I (w64 (x70 + x67))), rb [(.tmp 86, (.own 3 1 (0) (((p0.Hours.length : Int).toNat)))), (.tmp 87, I y46)] [(3, (.own 1 ((x66.2.2.2 : List Int).map Qac)))] (.ref 3 1 (y46.toNat) 0), ⟨[(.tmp 92, (.ref 3 1 (y46.toNat) 0)), (.tmp 91, (I (w64 (x70 + x67))))], [(3, (.own 1 ((x66.2.2.2 : List Int).map Qac)))], .any, [(3, (.own 1 ((x66.2.2.2.set y46.toNat (w64 (x70 + x67)) : List Int).map Qac)))], false⟩] ?_ ?_
       ·exact ⟨amv rfl, Qci rfl, afa rfl Try.underlying152 rfl rfl ti23 (by decide) rfl, ald rfl ti23 (by decide) rfl (nle rfl) rfl, amv rfl, aio rfl Try.underlying23 ti3 (odt hi69a) (odt hi69b) (Nat.zero_add _), ald rfl ti3 (by decide) (mgt Qac hg71) (nle rfl) rfl, amv rfl, abn rfl rfl, aio rfl Try.underlying23 ti3 (odt hi72a) (odt hi72b) (Nat.zero_add _), ast rfl ti3 (by rfl) (mgt Qac hg74) (nle rfl) (Qei Qac rfl), trivial⟩
       refine bln ?_
       refine thn ?_
       refine Qar [rp [(.tmp 65, I y46), ci 1] (I (w64 (y46 + 1))), mv 93 (I (w64 (y46 + 1)))] ?_ ?_
       ·exact ⟨abn rfl rfl, amv rfl, trivial⟩
       refine thn ?_
       exact arm (mto (n := 121) [(1, .ref 0 3 0 0), (4, I 0), (8, .ref 1 53 0 0), (11, I x67), (63, (.dat 2 ((p0.Hours : List GHour).map Qad))), (64, (I ((p0.Hours.length : Int)))), (65, (I (w64 (y46 + 1))))] [0, 1, 2, 3] [(.own 3 [[I p0.Tank, I p0.Start, (.dat 2 ((p0.Hours : List GHour).map Qad))]]), (.own 53 [((I p0.Tank) :: (I p0.Start) :: (.dat 2 ((p0.Hours : List GHour).map Qad)) :: (.own 2 1 (0) (((p0.Hours.length : Int).toNat))) :: (.own 3 1 (0) (((p0.Hours.length : Int).toNat))) :: (arrF 24 x66.1 ++ arrF 24 x66.2.1))]), (.own 1 ((x66.2.2.1 : List Int).map Qac)), (.own 1 ((x66.2.2.2.set y46.toNat (w64 (x70 + x67)) : List Int).map Qac))] hφ0 (pc (.rn (rqr rfl)) (pc rwl (pc (.rn (rqr rfl)) (pc rwl (pc (.rn (.plain _ (nld Qas _))) (pc rwl (pc rwl pn))))))) (qc (spb (lc rwl (lc rwl (lc (.rn (.plain _ (nld Qas _))) ln)))) (qc (spb (lc rwl (lc rwl (lc (.rn (.plain _ (nld Qas _))) (lc (.rn (Qaj rfl)) (lc (.rn (Qaj rfl)) (Qck (Qa6 fun _ => rwl) (Qa6 fun _ => rwl)))))))) (qc (spr Qaf) (qc (spr Qaf) qn))))) (ih (x67, w64 (y46 + 1), x66.1, x66.2.1, x66.2.2.1, x66.2.2.2.set y46.toNat (w64 (x70 + x67))) h)
      ·replace h := Qaw hc58 h
       refine wfn hc58 (by kernel_rfl) ?_
       refine Qbf ?_
       refine Qau ?_
       refine Qau ?_
       refine Qbe rfl ?_
       refine thn ?_
       exact ⟨(y47, y48, y49, y50), h, (mto (n := 121) [(1, .ref 0 3 0 0), (4, I 0), (8, .ref 1 53 0 0)] [0, 1, 2, 3] [(.own 3 [[I p0.Tank, I p0.Start, (.dat 2 ((p0.Hours : List GHour).map Qad))]]), (.own 53 [((I p0.Tank) :: (I p0.Start) :: (.dat 2 ((p0.Hours : List GHour).map Qad)) :: (.own 2 1 (0) ((p0.Hours.length : Int).toNat)) :: (.own 3 1 (0) ((p0.Hours.length : Int).toNat)) :: (arrF 24 y47 ++ arrF 24 y48))]), (.own 1 ((y49 : List Int).map Qac)), (.own 1 ((y50 : List Int).map Qac))] hφ0 (pc (.rn (rqr rfl)) (pc rwl (pc (.rn (rqr rfl)) pn))) (qc (spb (lc rwl (lc rwl (lc (.rn (.plain _ (nld Qas _))) ln)))) (qc (spb (lc rwl (lc rwl (lc (.rn (.plain _ (nld Qas _))) (lc (.rn (Qaj rfl)) (lc (.rn (Qaj rfl)) (Qck (Qa6 fun _ => rwl) (Qa6 fun _ => rwl)))))))) (qc (spr Qaf) (qc (spr Qaf) qn)))))⟩
    ·skip
     refine wrg [rb [(.tmp 1, .ref 0 3 0 0)] [(0, (.own 3 [[I p0.Tank, I p0.Start, (.dat 2 ((p0.Hours : List GHour).map Qad))]]))] (.ref 0 3 0 2), rb [(.tmp 37, .ref 0 3 0 2)] [(0, (.own 3 [[I p0.Tank, I p0.Start, (.dat 2 ((p0.Hours : List GHour).map Qad))]]))] (.dat 2 ((p0.Hours : List GHour).map Qad)), rp [(.tmp 38, (.dat 2 ((p0.Hours : List GHour).map Qad)))] (I ((p0.Hours.length : Int))), mc (.int .i64 0)] ?_ ?_
     ·exact ⟨afa rfl Try.underlying47 rfl rfl ti45 (by decide) rfl, ald rfl ti45 (by decide) rfl (nle rfl) rfl, alm (c := Qad) (l := p0.Hours) (aln rfl Try.underlying45 rfl), amv rfl, trivial⟩
     refine Qan ?_
     refine wmr (mto (n := 121) (l' := [(1, .ref 0 3 0 0), (4, I 0), (8, .ref 1 53 0 0), (38, (.dat 2 ((p0.Hours : List GHour).map Qad))), (39, (I ((p0.Hours.length : Int)))), (40, I 0)]) (own' := [(.own 3 [[I p0.Tank, I p0.Start, (.dat 2 ((p0.Hours : List GHour).map Qad))]]), (.own 53 [((I p0.Tank) :: (I p0.Start) :: (.dat 2 ((p0.Hours : List GHour).map Qad)) :: (.own 2 1 (0) ((p0.Hours.length : Int).toNat)) :: (.own 3 1 (0) ((p0.Hours.length : Int).toNat)) :: (arrF 24 (fun _ => 0) ++ arrF 24 (fun _ => 0)))]), (.own 1 ((List.replicate (p0.Hours.length : Int).toNat 0 : List Int).map Qac)), (.own 1 ((List.replicate (p0.Hours.length : Int).toNat 0 : List Int).map Qac))]) [(1, .ref 0 3 0 0), (4, I 0), (8, .ref 3 53 0 0), (38, (.dat 2 ((p0.Hours : List GHour).map Qad))), (39, (I ((p0.Hours.length : Int)))), (40, I 0)] [0, 3, 1, 2] [(.own 3 [[I p0.Tank, I p0.Start, (.dat 2 ((p0.Hours : List GHour).map Qad))]]), (.own 53 [((I p0.Tank) :: (I p0.Start) :: (.dat 2 ((p0.Hours : List GHour).map Qad)) :: (.own 1 1 (0) ((p0.Hours.length : Int).toNat)) :: (.own 2 1 (0) ((p0.Hours.length : Int).toNat)) :: (arrF 24 (fun _ => 0) ++ arrF 24 (fun _ => 0)))]), (.own 1 ((List.replicate (p0.Hours.length : Int).toNat 0 : List Int).map Qac)), (.own 1 ((List.replicate (p0.Hours.length : Int).toNat 0 : List Int).map Qac))] hφ0 (pc (.rn (rqr rfl)) (pc rwl (pc (.rn (rqr rfl)) (pc (.rn (.plain _ (nld Qas _))) (pc rwl (pc rwl pn)))))) (qc (spb (lc rwl (lc rwl (lc (.rn (.plain _ (nld Qas _))) ln)))) (qc (spb (lc rwl (lc rwl (lc (.rn (.plain _ (nld Qas _))) (lc (.rn (Qaj rfl)) (lc (.rn (Qaj rfl)) (Qck (Qa6 fun _ => rwl) (Qa6 fun _ => rwl)))))))) (qc (spr Qaf) (qc (spr Qaf) qn))))) ?_
     refine Qcc (τ := Int × (Nat → Int)) (fun n t => Qdn N p0 k16 n t.1 t.2 = some r) (fun ⟨y75, y76⟩ => ⟨mk 121 [(1, .ref 0 3 0 0), (4, I 0), (8, .ref 1 53 0 0), (38, (.dat 2 ((p0.Hours : List GHour).map Qad))), (39, (I ((p0.Hours.length : Int)))), (40, I y75)], [(.own 3 [[I p0.Tank, I p0.Start, (.dat 2 ((p0.Hours : List GHour).map Qad))]]), (.own 53 [((I p0.Tank) :: (I p0.Start) :: (.dat 2 ((p0.Hours : List GHour).map Qad)) :: (.own 2 1 (0) ((p0.Hours.length : Int).toNat)) :: (.own 3 1 (0) ((p0.Hours.length : Int).toNat)) :: (arrF 24 (fun _ => 0) ++ arrF 24 y76))]), (.own 1 ((List.replicate (p0.Hours.length : Int).toNat 0 : List Int).map Qac)), (.own 1 ((List.replicate (p0.Hours.length : Int).toNat 0 : List Int).map Qac))]⟩) (fun t h => by rw [Qdn] at h; cases h) (fun n79 ih t h => ?_) N (0, fun _ => 0) h
     obtain ⟨y75, y76⟩ := t
     rw [Qdn] at h
     skip
     refine wrg [rp [(.tmp 40, I y75), (.tmp 39, (I ((p0.Hours.length : Int))))] (B ((decide (y75 < (p0.Hours.length : Int)))))] ?_ ?_
     ·exact ⟨abn rfl rfl, trivial⟩
     refine wsq ?_
     rcases bft ((decide (y75 < (p0.Hours.length : Int)))) with hc80 | hc80
     ·replace h := Qav hc80 h
      refine wft hc80 (by kernel_rfl) ?_
      refine Qam ?_
      refine thn ?_
      refine wsq ?_
      refine Qan ?_
      obtain ⟨x81, hg82, h⟩ := bno h
      obtain ⟨hi83, hj84⟩ := gsm hg82
      refine wrg [mv 40 (I y75), rp [(.tmp 38, (.dat 2 ((p0.Hours : List GHour).map Qad))), (.tmp 40, I y75)] (.dptr (Qad (x81)) 0), rp [(.tmp 43, (.dptr (Qad (x81)) 0))] (.agg [I x81.Use, (.dat 2 ((x81.Stairs : List GStair).map Qah))]), ⟨[], [(4, .unused)], .ref 4 2 0 0, [(4, .own 2 [[I 0, nilS]])], false⟩, mv 42 (I y75), ⟨[(.tmp 10, .ref 4 2 0 0), (.tmp 44, (.agg [I x81.Use, (.dat 2 ((x81.Stairs : List GStair).map Qah))]))], [(4, .own 2 [[I 0, nilS]])], .any, [(4, (.own 2 [[I x81.Use, (.dat 2 ((x81.Stairs : List GStair).map Qah))]]))], false⟩] ?_ ?_
      ·exact ⟨amv rfl, aid rfl Try.underlying45 ti62 rfl rfl hi83 (mgt Qad hj84) rfl, ald_ rfl ti62 (by decide) (nle rfl) rfl, Qaz rfl tz62 rfl, aas rfl, ast rfl ti62 (by rfl) rfl (nle rfl) rfl, trivial⟩
      refine wrg [rb [(.tmp 10, .ref 4 2 0 0)] [(4, (.own 2 [[I x81.Use, (.dat 2 ((x81.Stairs : List GStair).map Qah))]]))] (.ref 4 2 0 1), rb [(.tmp 45, .ref 4 2 0 1)] [(4, (.own 2 [[I x81.Use, (.dat 2 ((x81.Stairs : List GStair).map Qah))]]))] (.dat 2 ((x81.Stairs : List GStair).map Qah)), rp [(.tmp 46, (.dat 2 ((x81.Stairs : List GStair).map Qah)))] (I ((x81.Stairs.length : Int))), rp [(.tmp 47, (I ((x81.Stairs.length : Int)))), ci 0] (B ((decide ((x81.Stairs.length : Int) > 0))))] ?_ ?_
      ·exact ⟨afa rfl Try.underlying62 rfl rfl ti60 (by decide) rfl, ald rfl ti60 (by decide) rfl (nle rfl) rfl, alm (c := Qah) (l := x81.Stairs) (aln rfl Try.underlying60 rfl), abn rfl rfl, trivial⟩
      rcases bft ((decide ((x81.Stairs.length : Int) > 0))) with hc85 | hc85
      ·replace h := Qav hc85 h
       refine wft hc85 (by kernel_rfl) ?_
       obtain ⟨x86, hg87, h⟩ := bno h
       obtain ⟨hi88, hj89⟩ := gsm hg87
       obtain ⟨hi90, h⟩ := cko h
       obtain ⟨hi90a, hi90b⟩ := Qba hi90
       refine Qde [mv 8 (.ref 1 53 0 0), mv 9 (I y75), rb [(.tmp 10, .ref 4 2 0 0)] [(4, (.own 2 [[I x81.Use, (.dat 2 ((x81.Stairs : List GStair).map Qah))]]))] (.ref 4 2 0 1), rb [(.tmp 51, .ref 4 2 0 1)] [(4, (.own 2 [[I x81.Use, (.dat 2 ((x81.Stairs : List GStair).map Qah))]]))] (.dat 2 ((x81.Stairs : List GStair).map Qah)), rp [(.tmp 52, (.dat 2 ((x81.Stairs : List GStair).map Qah))), ci 0] (.dptr (Qah (x86)) 0), mv 53 (.dptr (Qah (x86)) 0), rp [(.tmp 54, (.dptr (Qah (x86)) 0))] (I x86.Amount), rb [(.tmp 49, .ref 1 53 0 0)] [(1, (.own 53 [((I p0.Tank) :: (I p0.Start) :: (.dat 2 ((p0.Hours : List GHour).map Qad)) :: (.own 2 1 (0) ((p0.Hours.length : Int).toNat)) :: (.own 3 1 (0) ((p0.Hours.length : Int).toNat)) :: (arrF 24 (fun _ => 0) ++ arrF 24 y76))]))] (.ref 1 53 0 0), rb [(.tmp 56, .ref 1 53 0 0)] [(1, (.own 53 [((I p0.Tank) :: (I p0.Start) :: (.dat 2 ((p0.Hours : List GHour).map Qad)) :: (.own 2 1 (0) ((p0.Hours.length : Int).toNat)) :: (.own 3 1 (0) ((p0.Hours.length : Int).toNat)) :: (arrF 24 (fun _ => 0) ++ arrF 24 y76))]))] (.ref 1 53 0 29), rb [(.tmp 57, .ref 1 53 0 29), (.tmp 50, I y75)] [(1, (.own 53 [((I p0.Tank) :: (I p0.Start) :: (.dat 2 ((p0.Hours : List GHour).map Qad)) :: (.own 2 1 (0) ((p0.Hours.length : Int).toNat)) :: (.own 3 1 (0) ((p0.Hours.length : Int).toNat)) :: (arrF 24 (fun _ => 0) ++ arrF 24 y76))]))] (.ref 1 53 0 (29 + y75.toNat * 1)), ⟨[(.tmp 58, (.ref 1 53 0 (29 + y75.toNat * 1))), (.tmp 55, I x86.Amount)], [(1, (.own 53 [((I p0.Tank) :: (I p0.Start) :: (.dat 2 ((p0.Hours : List GHour).map Qad)) :: (.own 2 1 (0) ((p0.Hours.length : Int).toNat)) :: (.own 3 1 (0) ((p0.Hours.length : Int).toNat)) :: (arrF 24 (fun _ => 0) ++ arrF 24 y76))]))], .any, [(1, (.own 53 [((I p0.Tank) :: (I p0.Start) :: (.dat 2 ((p0.Hours : List GHour).map Qad)) :: (.own 2 1 (0) ((p0.Hours.length : Int).toNat)) :: (.own 3 1 (0) ((p0.Hours.length : Int).toNat)) :: (arrF 24 (fun _ => 0) ++ arrF 24 (setF y76 y75.toNat x86.Amount)))]))], false⟩] ?_ ?_
       ·exact ⟨amv rfl, amv rfl, afa rfl Try.underlying62 rfl rfl ti60 (by decide) rfl, ald rfl ti60 (by decide) rfl (nle rfl) rfl, aid rfl Try.underlying60 ti64 rfl rfl hi88 (mgt Qah hj89) rfl, afd rfl Try.underlying64 rfl rfl ti3 (by decide) rfl, ald_ rfl ti3 (by decide) (nle rfl) rfl, Qci rfl, afa rfl Try.underlying152 rfl rfl Qis (by decide) rfl, Qek rfl Try.underlying150 ti3 (odt hi90a) (odt hi90b) rfl, ast rfl ti3 (by rfl) rfl (Qhi (n := 24) (odt hi90b) (nle rfl)) (st_arr (pre := ((I p0.Tank) :: (I p0.Start) :: (.dat 2 ((p0.Hours : List GHour).map Qad)) :: (.own 2 1 (0) ((p0.Hours.length : Int).toNat)) :: (.own 3 1 (0) ((p0.Hours.length : Int).toNat)) :: arrF 24 (fun _ => 0))) (post := []) (n := 24) (f := y76) (by kernel_rfl) rfl (by kernel_rfl) (odt hi90b)), trivial⟩
       refine bln ?_
       refine thn ?_
       refine Qar [rp [(.tmp 40, I y75), ci 1] (I (w64 (y75 + 1))), mv 59 (I (w64 (y75 + 1)))] ?_ ?_
       ·exact ⟨abn rfl rfl, amv rfl, trivial⟩
       refine thn ?_
       exact arm (mto (n := 121) [(1, .ref 0 3 0 0), (4, I 0), (8, .ref 1 53 0 0), (38, (.dat 2 ((p0.Hours : List GHour).map Qad))), (39, (I ((p0.Hours.length : Int)))), (40, (I (w64 (y75 + 1))))] [0, 1, 2, 3] [(.own 3 [[I p0.Tank, I p0.Start, (.dat 2 ((p0.Hours : List GHour).map Qad))]]), (.own 53 [((I p0.Tank) :: (I p0.Start) :: (.dat 2 ((p0.Hours : List GHour).map Qad)) :: (.own 2 1 (0) ((p0.Hours.length : Int).toNat)) :: (.own 3 1 (0) ((p0.Hours.length : Int).toNat)) :: (arrF 24 (fun _ => 0) ++ arrF 24 (setF y76 y75.toNat x86.Amount)))]), (.own 1 ((List.replicate (p0.Hours.length : Int).toNat 0 : List Int).map Qac)), (.own 1 ((List.replicate (p0.Hours.length : Int).toNat 0 : List Int).map Qac))] hφ0 (pc (.rn (rqr rfl)) (pc rwl (pc (.rn (rqr rfl)) (pc (.rn (.plain _ (nld Qas _))) (pc rwl (pc rwl pn)))))) (qc (spb (lc rwl (lc rwl (lc (.rn (.plain _ (nld Qas _))) ln)))) (qc (spb (lc rwl (lc rwl (lc (.rn (.plain _ (nld Qas _))) (lc (.rn (Qaj rfl)) (lc (.rn (Qaj rfl)) (Qck (Qa6 fun _ => rwl) (Qa6 fun _ => rwl)))))))) (qc (spr Qaf) (qc (spr Qaf) qn))))) (ih (w64 (y75 + 1), setF y76 y75.toNat x86.Amount) h)
      ·replace h := Qaw hc85 h
       refine wfn hc85 (by kernel_rfl) ?_
       refine Qam ?_
       refine bln ?_
       refine thn ?_
       refine Qar [rp [(.tmp 40, I y75), ci 1] (I (w64 (y75 + 1))), mv 59 (I (w64 (y75 + 1)))] ?_ ?_
       ·exact ⟨abn rfl rfl, amv rfl, trivial⟩
       refine thn ?_
       exact arm (mto (n := 121) [(1, .ref 0 3 0 0), (4, I 0), (8, .ref 1 53 0 0), (38, (.dat 2 ((p0.Hours : List GHour).map Qad))), (39, (I ((p0.Hours.length : Int)))), (40, (I (w64 (y75 + 1))))] [0, 1, 2, 3] [(.own 3 [[I p0.Tank, I p0.Start, (.dat 2 ((p0.Hours : List GHour).map Qad))]]), (.own 53 [((I p0.Tank) :: (I p0.Start) :: (.dat 2 ((p0.Hours : List GHour).map Qad)) :: (.own 2 1 (0) ((p0.Hours.length : Int).toNat)) :: (.own 3 1 (0) ((p0.Hours.length : Int).toNat)) :: (arrF 24 (fun _ => 0) ++ arrF 24 y76))]), (.own 1 ((List.replicate (p0.Hours.length : Int).toNat 0 : List Int).map Qac)), (.own 1 ((List.replicate (p0.Hours.length : Int).toNat 0 : List Int).map Qac))] hφ0 (pc (.rn (rqr rfl)) (pc rwl (pc (.rn (rqr rfl)) (pc (.rn (.plain _ (nld Qas _))) (pc rwl (pc rwl pn)))))) (qc (spb (lc rwl (lc rwl (lc (.rn (.plain _ (nld Qas _))) ln)))) (qc (spb (lc rwl (lc rwl (lc (.rn (.plain _ (nld Qas _))) (lc (.rn (Qaj rfl)) (lc (.rn (Qaj rfl)) (Qck (Qa6 fun _ => rwl) (Qa6 fun _ => rwl)))))))) (qc (spr Qaf) (qc (spr Qaf) qn))))) (ih (w64 (y75 + 1), y76) h)
     ·replace h := Qaw hc80 h
      refine wfn hc80 (by kernel_rfl) ?_
      refine Qbf ?_
      refine Qau ?_
      refine Qau ?_
      refine Qbe rfl ?_
      refine thn ?_
      exact ⟨(y76), h, (mto (n := 121) [(1, .ref 0 3 0 0), (4, I 0), (8, .ref 1 53 0 0)] [0, 1, 2, 3] [(.own 3 [[I p0.Tank, I p0.Start, (.dat 2 ((p0.Hours : List GHour).map Qad))]]), (.own 53 [((I p0.Tank) :: (I p0.Start) :: (.dat 2 ((p0.Hours : List GHour).map Qad)) :: (.own 2 1 (0) ((p0.Hours.length : Int).toNat)) :: (.own 3 1 (0) ((p0.Hours.length : Int).toNat)) :: (arrF 24 (fun _ => 0) ++ arrF 24 y76))]), (.own 1 ((List.replicate (p0.Hours.length : Int).toNat 0 : List Int).map Qac)), (.own 1 ((List.replicate (p0.Hours.length : Int).toNat 0 : List Int).map Qac))] hφ0 (pc (.rn (rqr rfl)) (pc rwl (pc (.rn (rqr rfl)) pn))) (qc (spb (lc rwl (lc rwl (lc (.rn (.plain _ (nld Qas _))) ln)))) (qc (spb (lc rwl (lc rwl (lc (.rn (.plain _ (nld Qas _))) (lc (.rn (Qaj rfl)) (lc (.rn (Qaj rfl)) (Qck (Qa6 fun _ => rwl) (Qa6 fun _ => rwl)))))))) (qc (spr Qaf) (qc (spr Qaf) qn)))))⟩

end Go.Proofs.Ytgdepcgbjjgnfaa
