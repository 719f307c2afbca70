/-
  Functions of the program: what they compute, as plain functions, and that they do. No conditions.
-/
import Derived.Test.YtgdepcgbjjgnfaaX1
namespace Go.Proofs.Ytgdepcgbjjgnfaa
open Go.RowKit

def Qgj (_N : Nat) (p0 : GNode) : Option Int :=
  some p0.Rank
set_option maxRecDepth 100000 in
set_option maxHeartbeats 4000000 in
theorem Qhh (N : Nat) (p0 : GNode) (r : Int) (h : Qgj N p0 = some r) : Spec Try.prog 70 [(.agg (Qaa p0))] [] (I r) [] := by
  refine Qaq Try.func70 rfl 0 (nle rfl) (fun X φ0 w0 hφ0 => ?_)
  unfold Qgj at h
  refine wrg [⟨[(.tmp 0, (.agg [I p0.Parent, I p0.Loss, I p0.Limit, I p0.Rank]))], [(0, .unused)], .ref 0 4 0 0, [(0, .own 4 [[I p0.Parent, I p0.Loss, I p0.Limit, I p0.Rank]])], false⟩, mc (.int .i64 0)] ?_ ?_
  ·exact ⟨Qbu rfl (by rfl) rfl rfl, aas rfl, trivial⟩
  refine wrg [rb [(.tmp 1, .ref 0 4 0 0)] [(0, .own 4 [[I p0.Parent, I p0.Loss, I p0.Limit, I p0.Rank]])] (.ref 0 4 0 3), rb [(.tmp 3, .ref 0 4 0 3)] [(0, .own 4 [[I p0.Parent, I p0.Loss, I p0.Limit, I p0.Rank]])] (I p0.Rank), mv 4 (I p0.Rank)] ?_ ?_
  ·exact ⟨afa rfl Try.underlying141 rfl rfl ti3 (by decide) rfl, ald rfl ti3 (by decide) rfl (nle rfl) rfl, aas rfl, trivial⟩
  refine Qak ?_
  obtain rfl := osi h
  exact ⟨⟨[I p0.Rank], ⟨rot (by kernel_rfl), trivial⟩, rfl⟩, nll, Nat.le_refl _, fun n hn => absurd hn (Nat.not_lt_zero n)⟩

def Qch (N : Nat) (p0 : Int) (p1 : Int) (p2 : (List GNode)) : Option Int :=
  (getI p2 p0).bind fun x2 =>
  (Qgj N x2).bind fun x7 =>
  (getI p2 p1).bind fun x8 =>
  (Qgj N x8).bind fun x13 =>
  some (w64 (x7 - x13))
set_option maxRecDepth 100000 in
set_option maxHeartbeats 4000000 in
theorem Qc9 (N : Nat) (p0 : Int) (p1 : Int) (p2 : (List GNode)) (r : Int) (h : Qch N p0 p1 p2 = some r) : Spec Try.prog 96 [(I (p0)), (I (p1)), (.ref 0 1 (0) 0), (.ref 1 1 (0) 0)] [(.own 1 [[(.fn (.func 70) [] [])]]), (.own 1 [[(.dat 4 ((p2 : List GNode).map Qaa))]])] (I (r)) [(.own 1 [[(.fn (.func 70) [] [])]]), (.own 1 [[(.dat 4 ((p2 : List GNode).map Qaa))]])] := by
  refine Qaq Try.func96 rfl 2 (nle rfl) (fun X φ0 w0 hφ0 => ?_)
  unfold Qch at h
  refine Qc1 ?_
  refine wrg [mc (.int .i64 0)] ?_ ?_
  ·exact ⟨aas rfl, trivial⟩
  obtain ⟨x2, hg3, h⟩ := bno h
  obtain ⟨hi4, hj5⟩ := gsm hg3
  obtain ⟨x7, hf6, h⟩ := bno h
  obtain ⟨x8, hg9, h⟩ := bno h
  obtain ⟨hi10, hj11⟩ := gsm hg9
  obtain ⟨x13, hf12, h⟩ := bno h
  refine Qct [rb [(.tmp 2, .ref 0 1 0 0)] [(0, (.own 1 [[(.fn (.func 70) [] [])]]))] (.fn (.func 70) [] []), rb [(.tmp 3, .ref 1 1 0 0)] [(1, (.own 1 [[(.dat 4 ((p2 : List GNode).map Qaa))]]))] (.dat 4 ((p2 : List GNode).map Qaa)), mv 0 (I p0), rp [(.tmp 8, (.dat 4 ((p2 : List GNode).map Qaa))), (.tmp 9, I p0)] (.dptr (Qaa (x2)) 0), rp [(.tmp 10, (.dptr (Qaa (x2)) 0))] (.agg [I x2.Parent, I x2.Loss, I x2.Limit, I x2.Rank]), rp [(.tmp 7, (.fn (.func 70) [] [])), (.tmp 11, (.agg [I x2.Parent, I x2.Loss, I x2.Limit, I x2.Rank]))] (I x7), rb [(.tmp 2, .ref 0 1 0 0)] [(0, (.own 1 [[(.fn (.func 70) [] [])]]))] (.fn (.func 70) [] []), rb [(.tmp 3, .ref 1 1 0 0)] [(1, (.own 1 [[(.dat 4 ((p2 : List GNode).map Qaa))]]))] (.dat 4 ((p2 : List GNode).map Qaa)), mv 1 (I p1), rp [(.tmp 14, (.dat 4 ((p2 : List GNode).map Qaa))), (.tmp 15, I p1)] (.dptr (Qaa (x8)) 0), rp [(.tmp 16, (.dptr (Qaa (x8)) 0))] (.agg [I x8.Parent, I x8.Loss, I x8.Limit, I x8.Rank]), rp [(.tmp 13, (.fn (.func 70) [] [])), (.tmp 17, (.agg [I x8.Parent, I x8.Loss, I x8.Limit, I x8.Rank]))] (I x13), rp [(.tmp 12, I x7), (.tmp 18, I x13)] (I (w64 (x7 - x13))), mv 19 (I (w64 (x7 - x13)))] ?_ ?_
  ·exact ⟨ald rfl ti142 (by decide) rfl (nle rfl) rfl, ald rfl ti30 (by decide) rfl (nle rfl) rfl, amv rfl, aid rfl Try.underlying30 Qgu rfl rfl hi4 (mgt Qaa hj5) rfl, ald_ rfl Qgu (by decide) (nle rfl) rfl, apc (first := []) (cap := []) (vs := [(.agg [I x2.Parent, I x2.Loss, I x2.Limit, I x2.Rank])]) rfl enter70 (Qhh N x2 _ hf6) rfl rfl (nlc (NLt.agg _ (nlc nll (nlc nll (nlc nll (nlc nll nl0))))) nl0) nll rfl, ald rfl ti142 (by decide) rfl (nle rfl) rfl, ald rfl ti30 (by decide) rfl (nle rfl) rfl, amv rfl, aid rfl Try.underlying30 Qgu rfl rfl hi10 (mgt Qaa hj11) rfl, ald_ rfl Qgu (by decide) (nle rfl) rfl, apc (first := []) (cap := []) (vs := [(.agg [I x8.Parent, I x8.Loss, I x8.Limit, I x8.Rank])]) rfl enter70 (Qhh N x8 _ hf12) rfl rfl (nlc (NLt.agg _ (nlc nll (nlc nll (nlc nll (nlc nll nl0))))) nl0) nll rfl, abn rfl rfl, aas rfl, trivial⟩
  refine wmr (mto (n := 20) (l' := [(6, (I (w64 (x7 - x13))))]) (own' := [(.own 1 [[(.fn (.func 70) [] [])]]), (.own 1 [[(.dat 4 ((p2 : List GNode).map Qaa))]])]) [(6, (I (w64 (x7 - x13))))] [0, 1] [(.own 1 [[(.fn (.func 70) [] [])]]), (.own 1 [[(.dat 4 ((p2 : List GNode).map Qaa))]])] hφ0 (pc rwl pn) (qc (spb (lc (.rn (Qa2 rn0 rn0)) ln)) (qc (spb (lc (.rn (.plain _ (nld Qag _))) ln)) qn))) ?_
  refine Qak ?_
  obtain rfl := osi h
  exact ⟨_, Mor.rfl, Qc0 (vs := [(I (w64 (x7 - x13)))]) ⟨rot (by kernel_rfl), trivial⟩ rfl (NLt.of0 nll) (by kernel_rfl) (Qay (Qb2 (nlc (NLt.of0 (NLt.fn _ _ _ nl0 nl0)) nl0)) (Qay (Qb2 (nlc (NLt.of0 (nld Qag _)) nl0)) Qbx))⟩

def Qbk (N : Nat) (p0 : Nat) (p1 : Int) (p4 : (List GNode)) (k9 : (List Int) → Option (List Int)) : Nat → Int → (List Int) → Option (List Int)
  | 0, _, _ => none
  | n14 + 1, y10, y11 =>
    Qca (fun _ =>
      chk (decide (0 ≤ w64 (y10 - 1)) && decide ((w64 (y10 - 1)).toNat < p0)) <|
      (y11[(w64 (y10 - 1)).toNat]?).bind fun x17 =>
      chk (decide (0 ≤ y10) && decide (y10.toNat < p0)) <|
      (y11[y10.toNat]?).bind fun x20 =>
      chk (decide (0 ≤ y10) && decide (y10.toNat < p0)) <|
      (y11[y10.toNat]?).bind fun _ =>
      chk (decide (0 ≤ w64 (y10 - 1)) && decide ((w64 (y10 - 1)).toNat < p0)) <|
      ((y11.set y10.toNat x17)[(w64 (y10 - 1)).toNat]?).bind fun _ =>
      Qbk N p0 p1 p4 k9 n14 (w64 (y10 - 1)) ((y11.set y10.toNat x17).set ((w64 (y10 - 1)).toNat) x20)) fun k15 : Unit → Option (List Int) =>
    bif (decide (y10 > p1)) then
     chk (decide (0 ≤ y10) && decide (y10.toNat < p0)) <|
     (y11[y10.toNat]?).bind fun x30 =>
     chk (decide (0 ≤ w64 (y10 - 1)) && decide ((w64 (y10 - 1)).toNat < p0)) <|
     (y11[(w64 (y10 - 1)).toNat]?).bind fun x33 =>
     (Qch N x30 x33 p4).bind fun x36 =>
     bif (decide (x36 < 0)) then
      k15 ()
     else
      k9 (y11)
    else
     k9 (y11)
def Qbl (N : Nat) (p0 : Nat) (p1 : Int) (p2 : Int) (p4 : (List GNode)) : Nat → Int → (List Int) → Option (List Int)
  | 0, _, _ => none
  | n6 + 1, y2, y3 =>
    bif (decide (y2 < p2)) then
     Qca (fun y8 =>
       Qbl N p0 p1 p2 p4 n6 (w64 (y2 + 1)) y8) fun k9 : (List Int) → Option (List Int) =>
     Qbk N p0 p1 p4 k9 N y2 y3
    else
     some y3
def Qcn (N : Nat) (p0 : Nat) (p1 : Int) (p2 : Int) (p3 : (List Int)) (p4 : (List GNode)) : Option (List Int) :=
  Qbl N p0 p1 p2 p4 N (w64 (p1 + 1)) p3
set_option maxRecDepth 100000 in
set_option maxHeartbeats 4000000 in
theorem Qd5 (N : Nat) (p0 : Nat) (p1 : Int) (p2 : Int) (p3 : (List Int)) (p4 : (List GNode)) (r : (List Int)) (h : Qcn N p0 p1 p2 p3 p4 = some r) : Spec Try.prog 114 [(.own 0 1 (0) (p0)), (I (p1)), (I (p2)), (.fn (.func 96) [] [(.ref 1 1 (0) 0), (.ref 2 1 (0) 0)])] [(.own 1 ((p3 : List Int).map Qac)), (.own 1 [[(.fn (.func 70) [] [])]]), (.own 1 [[(.dat 4 ((p4 : List GNode).map Qaa))]])] (.tup []) [(.own 1 ((r : List Int).map Qac)), (.own 1 [[(.fn (.func 70) [] [])]]), (.own 1 [[(.dat 4 ((p4 : List GNode).map Qaa))]])] := by
  refine Qaq Try.func114 rfl 3 (nle rfl) (fun X φ0 w0 hφ0 => ?_)
  unfold Qcn at h
  refine Qc1 ?_
  refine wrg [mv 1 (I p1), rp [(.tmp 10, I p1), ci 1] (I (w64 (p1 + 1))), mv 11 (I (w64 (p1 + 1)))] ?_ ?_
  ·exact ⟨amv rfl, abn rfl rfl, aas rfl, trivial⟩
  refine Qan ?_
  refine wmr (mto (n := 53) (l' := [(0, (.own 0 1 (0) (p0))), (1, I p1), (2, I p2), (3, (.fn (.func 96) [] [.ref 1 1 0 0, .ref 2 1 0 0])), (8, (I ((w64 (p1 + 1)))))]) (own' := [(.own 1 ((p3 : List Int).map Qac)), (.own 1 [[(.fn (.func 70) [] [])]]), (.own 1 [[(.dat 4 ((p4 : List GNode).map Qaa))]])]) [(0, (.own 0 1 (0) (p0))), (1, I p1), (2, I p2), (3, (.fn (.func 96) [] [.ref 1 1 0 0, .ref 2 1 0 0])), (8, (I (w64 (p1 + 1))))] [0, 1, 2] [(.own 1 ((p3 : List Int).map Qac)), (.own 1 [[(.fn (.func 70) [] [])]]), (.own 1 [[(.dat 4 ((p4 : List GNode).map Qaa))]])] hφ0 (pc (.rn (Qaj rfl)) (pc rwl (pc rwl (pc (.rn (Qa2 rn0 (rnc (rqr rfl) (rnc (rqr rfl) rn0)))) (pc rwl pn))))) (qc (spr Qaf) (qc (spb (lc (.rn (Qa2 rn0 rn0)) ln)) (qc (spb (lc (.rn (.plain _ (nld Qag _))) ln)) qn)))) ?_
  refine Qcc (τ := Int × (List Int)) (fun n t => Qbl N p0 p1 p2 p4 n t.1 t.2 = some r) (fun ⟨y2, y3⟩ => ⟨mk 53 [(0, (.own 0 1 (0) (p0))), (1, I p1), (2, I p2), (3, (.fn (.func 96) [] [.ref 1 1 0 0, .ref 2 1 0 0])), (8, I y2)], [(.own 1 ((y3 : List Int).map Qac)), (.own 1 [[(.fn (.func 70) [] [])]]), (.own 1 [[(.dat 4 ((p4 : List GNode).map Qaa))]])]⟩) (fun t h => by rw [Qbl] at h; cases h) (fun n6 ih t h => ?_) N (w64 (p1 + 1), p3) h
  obtain ⟨y2, y3⟩ := t
  rw [Qbl] at h
  skip
  refine wsq ?_
  refine wrg [mv 8 (I y2), mv 2 (I p2), rp [(.tmp 12, I y2), (.tmp 13, I p2)] (B ((decide (y2 < p2))))] ?_ ?_
  ·exact ⟨amv rfl, amv rfl, abn rfl rfl, trivial⟩
  rcases bft ((decide (y2 < p2))) with hc7 | hc7
  ·replace h := Qav hc7 h
   refine wft hc7 (by kernel_rfl) ?_
   refine Qam ?_
   refine thn ?_
   obtain ⟨k9, hk_k9, h⟩ := jko h
   refine wjn (τ := (List Int)) (fun t => k9 t = some r) (fun y8 => ⟨mk 53 [(0, (.own 0 1 (0) (p0))), (1, I p1), (2, I p2), (3, (.fn (.func 96) [] [.ref 1 1 0 0, .ref 2 1 0 0])), (8, I y2)], [(.own 1 ((y8 : List Int).map Qac)), (.own 1 [[(.fn (.func 70) [] [])]]), (.own 1 [[(.dat 4 ((p4 : List GNode).map Qaa))]])]⟩) (fun y8 h => ?_) ?_
   ·subst hk_k9
    refine Qar [mv 8 (I y2), rp [(.tmp 15, I y2), ci 1] (I (w64 (y2 + 1))), mv 16 (I (w64 (y2 + 1)))] ?_ ?_
    ·exact ⟨amv rfl, abn rfl rfl, aas rfl, trivial⟩
    refine thn ?_
    exact arm (mto (n := 53) [(0, (.own 0 1 (0) (p0))), (1, I p1), (2, I p2), (3, (.fn (.func 96) [] [.ref 1 1 0 0, .ref 2 1 0 0])), (8, (I (w64 (y2 + 1))))] [0, 1, 2] [(.own 1 ((y8 : List Int).map Qac)), (.own 1 [[(.fn (.func 70) [] [])]]), (.own 1 [[(.dat 4 ((p4 : List GNode).map Qaa))]])] hφ0 (pc (.rn (Qaj rfl)) (pc rwl (pc rwl (pc (.rn (Qa2 rn0 (rnc (rqr rfl) (rnc (rqr rfl) rn0)))) (pc rwl pn))))) (qc (spr Qaf) (qc (spb (lc (.rn (Qa2 rn0 rn0)) ln)) (qc (spb (lc (.rn (.plain _ (nld Qag _))) ln)) qn)))) (ih (w64 (y2 + 1), y8) h)
   ·skip
    refine Qan ?_
    refine wrg [mv 8 (I y2), mv 17 (I y2)] ?_ ?_
    ·exact ⟨amv rfl, aas rfl, trivial⟩
    refine Qan ?_
    refine wmr (mto (n := 53) (l' := [(0, (.own 0 1 (0) (p0))), (1, I p1), (2, I p2), (3, (.fn (.func 96) [] [.ref 1 1 0 0, .ref 2 1 0 0])), (8, I y2), (9, I y2)]) (own' := [(.own 1 ((y3 : List Int).map Qac)), (.own 1 [[(.fn (.func 70) [] [])]]), (.own 1 [[(.dat 4 ((p4 : List GNode).map Qaa))]])]) [(0, (.own 0 1 (0) (p0))), (1, I p1), (2, I p2), (3, (.fn (.func 96) [] [.ref 1 1 0 0, .ref 2 1 0 0])), (8, I y2), (9, I y2)] [0, 1, 2] [(.own 1 ((y3 : List Int).map Qac)), (.own 1 [[(.fn (.func 70) [] [])]]), (.own 1 [[(.dat 4 ((p4 : List GNode).map Qaa))]])] hφ0 (pc (.rn (Qaj rfl)) (pc rwl (pc rwl (pc (.rn (Qa2 rn0 (rnc (rqr rfl) (rnc (rqr rfl) rn0)))) (pc rwl (pc rwl pn)))))) (qc (spr Qaf) (qc (spb (lc (.rn (Qa2 rn0 rn0)) ln)) (qc (spb (lc (.rn (.plain _ (nld Qag _))) ln)) qn)))) ?_
    refine Qcc (τ := Int × (List Int)) (fun n t => Qbk N p0 p1 p4 k9 n t.1 t.2 = some r) (fun ⟨y10, y11⟩ => ⟨mk 53 [(0, (.own 0 1 (0) (p0))), (1, I p1), (2, I p2), (3, (.fn (.func 96) [] [.ref 1 1 0 0, .ref 2 1 0 0])), (8, I y2), (9, I y10)], [(.own 1 ((y11 : List Int).map Qac)), (.own 1 [[(.fn (.func 70) [] [])]]), (.own 1 [[(.dat 4 ((p4 : List GNode).map Qaa))]])]⟩) (fun t h => by rw [Qbk] at h; cases h) (fun n14 ih t h => ?_) N (y2, y3) h
    obtain ⟨y10, y11⟩ := t
    rw [Qbk] at h
    skip
    obtain ⟨k15, hk_k15, h⟩ := jko h
    refine wjn (τ := Unit) (fun t => k15 t = some r) (fun _ => ⟨mk 53 [(0, (.own 0 1 (0) (p0))), (1, I p1), (2, I p2), (3, (.fn (.func 96) [] [.ref 1 1 0 0, .ref 2 1 0 0])), (8, I y2), (9, I y10)], [(.own 1 ((y11 : List Int).map Qac)), (.own 1 [[(.fn (.func 70) [] [])]]), (.own 1 [[(.dat 4 ((p4 : List GNode).map Qaa))]])]⟩) (fun t h => ?_) ?_
    ·subst hk_k15
     refine wsq ?_
     refine Qan ?_
     obtain ⟨hi16, h⟩ := cko h
     obtain ⟨hi16a, hi16b⟩ := Qba hi16
     obtain ⟨x17, hg18, h⟩ := bno h
     obtain ⟨hi19, h⟩ := cko h
     obtain ⟨hi19a, hi19b⟩ := Qba hi19
     obtain ⟨x20, hg21, h⟩ := bno h
     obtain ⟨hi22, h⟩ := cko h
     obtain ⟨hi22a, hi22b⟩ := Qba hi22
     obtain ⟨x23, hg24, h⟩ := bno h
     obtain ⟨hi25, h⟩ := cko h
     obtain ⟨hi25a, hi25b⟩ := Qba hi25
     obtain ⟨x26, hg27, h⟩ := bno h
     refine Qde [mv 0 (.own 0 1 (0) (p0)), mv 9 (I y10), mv 0 (.own 0 1 (0) (p0)), mv 9 (I y10), rp [(.tmp 40, I y10), ci 1] (I (w64 (y10 - 1))), mv 0 (.own 0 1 (0) (p0)), mv 9 (I y10), rp [(.tmp 43, I y10), ci 1] (I (w64 (y10 - 1))), rb [(.tmp 42, (.own 0 1 (0) (p0))), (.tmp 44, (I (w64 (y10 - 1))))] [(0, (.own 1 ((y11 : List Int).map Qac)))] (.ref 0 1 ((w64 (y10 - 1)).toNat) 0), rb [(.tmp 45, (.ref 0 1 ((w64 (y10 - 1)).toNat) 0))] [(0, (.own 1 ((y11 : List Int).map Qac)))] (I x17), mv 0 (.own 0 1 (0) (p0)), mv 9 (I y10), rb [(.tmp 47, (.own 0 1 (0) (p0))), (.tmp 48, I y10)] [(0, (.own 1 ((y11 : List Int).map Qac)))] (.ref 0 1 (y10.toNat) 0), rb [(.tmp 49, (.ref 0 1 (y10.toNat) 0))] [(0, (.own 1 ((y11 : List Int).map Qac)))] (I x20), rb [(.tmp 37, (.own 0 1 (0) (p0))), (.tmp 38, I y10)] [(0, (.own 1 ((y11 : List Int).map Qac)))] (.ref 0 1 (y10.toNat) 0), ⟨[(.tmp 51, (.ref 0 1 (y10.toNat) 0)), (.tmp 46, I x17)], [(0, (.own 1 ((y11 : List Int).map Qac)))], .any, [(0, (.own 1 ((y11.set y10.toNat x17 : List Int).map Qac)))], false⟩, rb [(.tmp 39, (.own 0 1 (0) (p0))), (.tmp 41, (I (w64 (y10 - 1))))] [(0, (.own 1 ((y11.set y10.toNat x17 : List Int).map Qac)))] (.ref 0 1 ((w64 (y10 - 1)).toNat) 0), ⟨[(.tmp 52, (.ref 0 1 ((w64 (y10 - 1)).toNat) 0)), (.tmp 50, I x20)], [(0, (.own 1 ((y11.set y10.toNat x17 : List Int).map Qac)))], .any, [(0, (.own 1 (((y11.set y10.toNat x17).set ((w64 (y10 - 1)).toNat) x20 : List Int).map Qac)))], false⟩] ?_ ?_
     ·exact ⟨amv rfl, amv rfl, amv rfl, amv rfl, abn rfl rfl, amv rfl, amv rfl, abn rfl rfl, aio rfl Try.underlying23 ti3 (odt hi16a) (odt hi16b) (Nat.zero_add _), ald rfl ti3 (by decide) (mgt Qac hg18) (nle rfl) rfl, amv rfl, amv rfl, aio rfl Try.underlying23 ti3 (odt hi19a) (odt hi19b) (Nat.zero_add _), ald rfl ti3 (by decide) (mgt Qac hg21) (nle rfl) rfl, aio rfl Try.underlying23 ti3 (odt hi22a) (odt hi22b) (Nat.zero_add _), ast rfl ti3 (by rfl) (mgt Qac hg24) (nle rfl) (Qei Qac rfl), aio rfl Try.underlying23 ti3 (odt hi25a) (odt hi25b) (Nat.zero_add _), ast rfl ti3 (by rfl) (mgt Qac hg27) (nle rfl) (Qei Qac rfl), trivial⟩
     refine bln ?_
     refine thn ?_
     refine Qar [mv 9 (I y10), rp [(.tmp 35, I y10), ci 1] (I (w64 (y10 - 1))), mv 36 (I (w64 (y10 - 1)))] ?_ ?_
     ·exact ⟨amv rfl, abn rfl rfl, aas rfl, trivial⟩
     refine thn ?_
     exact arm (mto (n := 53) [(0, (.own 0 1 (0) (p0))), (1, I p1), (2, I p2), (3, (.fn (.func 96) [] [.ref 1 1 0 0, .ref 2 1 0 0])), (8, I y2), (9, (I (w64 (y10 - 1))))] [0, 1, 2] [(.own 1 (((y11.set y10.toNat x17).set ((w64 (y10 - 1)).toNat) x20 : List Int).map Qac)), (.own 1 [[(.fn (.func 70) [] [])]]), (.own 1 [[(.dat 4 ((p4 : List GNode).map Qaa))]])] hφ0 (pc (.rn (Qaj rfl)) (pc rwl (pc rwl (pc (.rn (Qa2 rn0 (rnc (rqr rfl) (rnc (rqr rfl) rn0)))) (pc rwl (pc rwl pn)))))) (qc (spr Qaf) (qc (spb (lc (.rn (Qa2 rn0 rn0)) ln)) (qc (spb (lc (.rn (.plain _ (nld Qag _))) ln)) qn)))) (ih (w64 (y10 - 1), (y11.set y10.toNat x17).set ((w64 (y10 - 1)).toNat) x20) h)
    ·skip
     rcases bft ((decide (y10 > p1))) with hb28 | hb28
     ·replace h := Qav hb28 h
      obtain ⟨hi29, h⟩ := cko h
      obtain ⟨hi29a, hi29b⟩ := Qba hi29
      obtain ⟨x30, hg31, h⟩ := bno h
      obtain ⟨hi32, h⟩ := cko h
      obtain ⟨hi32a, hi32b⟩ := Qba hi32
      obtain ⟨x33, hg34, h⟩ := bno h
      obtain ⟨x36, hf35, h⟩ := bno h
      refine Qct [mv 9 (I y10), mv 1 (I p1), rp [(.tmp 18, I y10), (.tmp 19, I p1)] (B ((decide (y10 > p1)))), rp [(.tmp 20, (B ((decide (y10 > p1)))))] (B true), rp [(.tmp 21, B true), (.tmp 3, (.fn (.func 96) [] [.ref 1 1 0 0, .ref 2 1 0 0]))] (.fn (.func 96) [] [.ref 1 1 0 0, .ref 2 1 0 0]), rp [(.tmp 21, B true), (.tmp 0, (.own 0 1 (0) (p0)))] (.own 0 1 (0) (p0)), rp [(.tmp 21, B true), (.tmp 9, I y10)] (I y10), rb [(.tmp 21, B true), (.tmp 23, (.own 0 1 (0) (p0))), (.tmp 24, I y10)] [(0, (.own 1 ((y11 : List Int).map Qac)))] (.ref 0 1 (y10.toNat) 0), rb [(.tmp 21, B true), (.tmp 25, (.ref 0 1 (y10.toNat) 0))] [(0, (.own 1 ((y11 : List Int).map Qac)))] (I x30), rp [(.tmp 21, B true), (.tmp 0, (.own 0 1 (0) (p0)))] (.own 0 1 (0) (p0)), rp [(.tmp 21, B true), (.tmp 9, I y10)] (I y10), rp [(.tmp 21, B true), (.tmp 28, I y10), ci 1] (I (w64 (y10 - 1))), rb [(.tmp 21, B true), (.tmp 27, (.own 0 1 (0) (p0))), (.tmp 29, (I (w64 (y10 - 1))))] [(0, (.own 1 ((y11 : List Int).map Qac)))] (.ref 0 1 ((w64 (y10 - 1)).toNat) 0), rb [(.tmp 21, B true), (.tmp 30, (.ref 0 1 ((w64 (y10 - 1)).toNat) 0))] [(0, (.own 1 ((y11 : List Int).map Qac)))] (I x33), ⟨[(.tmp 21, B true), (.tmp 22, (.fn (.func 96) [] [.ref 1 1 0 0, .ref 2 1 0 0])), (.tmp 26, I x30), (.tmp 31, I x33)], [(1, (.own 1 [[(.fn (.func 70) [] [])]])), (2, (.own 1 [[(.dat 4 ((p4 : List GNode).map Qaa))]]))], I x36, [(1, (.own 1 [[(.fn (.func 70) [] [])]])), (2, (.own 1 [[(.dat 4 ((p4 : List GNode).map Qaa))]]))], false⟩, rp [(.tmp 21, B true), (.tmp 32, I x36), ci 0] (B ((decide (x36 < 0)))), rp [(.tmp 21, B true), (.tmp 33, (B ((decide (x36 < 0))))), cb false] (B ((decide (x36 < 0))))] ?_ ?_
      ·exact ⟨amv rfl, amv rfl, abn rfl rfl, asb hb28 (amv rfl), ag_ (amv rfl), ag_ (amv rfl), ag_ (amv rfl), ag_ (aio rfl Try.underlying23 ti3 (odt hi29a) (odt hi29b) (Nat.zero_add _)), ag_ (ald rfl ti3 (by decide) (mgt Qac hg31) (nle rfl) rfl), ag_ (amv rfl), ag_ (amv rfl), ag_ (abn rfl rfl), ag_ (aio rfl Try.underlying23 ti3 (odt hi32a) (odt hi32b) (Nat.zero_add _)), ag_ (ald rfl ti3 (by decide) (mgt Qac hg34) (nle rfl) rfl), ag_ (Qa4 (first := []) (cap := [.ref 1 1 0 0, .ref 2 1 0 0]) (vs := [I x30, I x33]) (σr := [(.own 1 [[(.fn (.func 70) [] [])]]), (.own 1 [[(.dat 4 ((p4 : List GNode).map Qaa))]])]) (σr' := [(.own 1 [[(.fn (.func 70) [] [])]]), (.own 1 [[(.dat 4 ((p4 : List GNode).map Qaa))]])]) (res' := (I x36)) [1, 2] rfl enter96 (Qc9 N x30 x33 p4 _ hf35) rfl (Qc3 (rnc (.plain _ nll) (rnc (.plain _ nll) (rnc (Qbz rfl) (rnc (Qbz rfl) rn0))))) (slc (Qat (rnc (.plain _ (NLt.fn _ _ _ nl0 nl0)) rn0)) (slc (Qat (rnc (.plain _ (nld Qag _)) rn0)) Qa0)) (slc (Qat (rnc (.plain _ (NLt.fn _ _ _ nl0 nl0)) rn0)) (slc (Qat (rnc (.plain _ (nld Qag _)) rn0)) Qa0)) (.plain _ nll) rfl rfl rfl), ag_ (abn rfl rfl), apk rfl rfl, trivial⟩
      rcases bft ((decide (x36 < 0))) with hc37 | hc37
      ·replace h := Qav hc37 h
       refine wft hc37 (by kernel_rfl) ?_
       refine Qam ?_
       refine thn ?_
       exact ⟨(), h, (mto (n := 53) [(0, (.own 0 1 (0) (p0))), (1, I p1), (2, I p2), (3, (.fn (.func 96) [] [.ref 1 1 0 0, .ref 2 1 0 0])), (8, I y2), (9, I y10)] [0, 1, 2] [(.own 1 ((y11 : List Int).map Qac)), (.own 1 [[(.fn (.func 70) [] [])]]), (.own 1 [[(.dat 4 ((p4 : List GNode).map Qaa))]])] hφ0 (pc (.rn (Qaj rfl)) (pc rwl (pc rwl (pc (.rn (Qa2 rn0 (rnc (rqr rfl) (rnc (rqr rfl) rn0)))) (pc rwl (pc rwl pn)))))) (qc (spr Qaf) (qc (spb (lc (.rn (Qa2 rn0 rn0)) ln)) (qc (spb (lc (.rn (.plain _ (nld Qag _))) ln)) qn))))⟩
      ·replace h := Qaw hc37 h
       refine wfn hc37 (by kernel_rfl) ?_
       refine Qbf ?_
       refine Qau ?_
       refine Qau ?_
       refine Qbe rfl ?_
       refine bln ?_
       refine thn ?_
       exact ⟨(y11), h, (mto (n := 53) [(0, (.own 0 1 (0) (p0))), (1, I p1), (2, I p2), (3, (.fn (.func 96) [] [.ref 1 1 0 0, .ref 2 1 0 0])), (8, I y2)] [0, 1, 2] [(.own 1 ((y11 : List Int).map Qac)), (.own 1 [[(.fn (.func 70) [] [])]]), (.own 1 [[(.dat 4 ((p4 : List GNode).map Qaa))]])] hφ0 (pc (.rn (Qaj rfl)) (pc rwl (pc rwl (pc (.rn (Qa2 rn0 (rnc (rqr rfl) (rnc (rqr rfl) rn0)))) (pc rwl pn))))) (qc (spr Qaf) (qc (spb (lc (.rn (Qa2 rn0 rn0)) ln)) (qc (spb (lc (.rn (.plain _ (nld Qag _))) ln)) qn))))⟩
     ·replace h := Qaw hb28 h
      refine Qct [mv 9 (I y10), mv 1 (I p1), rp [(.tmp 18, I y10), (.tmp 19, I p1)] (B ((decide (y10 > p1)))), rp [(.tmp 20, (B ((decide (y10 > p1)))))] (B false), sk 21 (B false), sk 21 (B false), sk 21 (B false), sk 21 (B false), sk 21 (B false), sk 21 (B false), sk 21 (B false), sk 21 (B false), sk 21 (B false), sk 21 (B false), sk 21 (B false), sk 21 (B false), rp [(.tmp 21, B false), (.tmp 33, (.lit undef)), cb false] (B false)] ?_ ?_
      ·exact ⟨amv rfl, amv rfl, abn rfl rfl, asb hb28 (amv rfl), trivial, trivial, trivial, trivial, trivial, trivial, trivial, trivial, trivial, trivial, trivial, trivial, apk rfl rfl, trivial⟩
      refine Qey (by kernel_rfl) ?_
      refine Qbf ?_
      refine Qau ?_
      refine Qau ?_
      refine Qbe rfl ?_
      refine bln ?_
      refine thn ?_
      exact ⟨(y11), h, (mto (n := 53) [(0, (.own 0 1 (0) (p0))), (1, I p1), (2, I p2), (3, (.fn (.func 96) [] [.ref 1 1 0 0, .ref 2 1 0 0])), (8, I y2)] [0, 1, 2] [(.own 1 ((y11 : List Int).map Qac)), (.own 1 [[(.fn (.func 70) [] [])]]), (.own 1 [[(.dat 4 ((p4 : List GNode).map Qaa))]])] hφ0 (pc (.rn (Qaj rfl)) (pc rwl (pc rwl (pc (.rn (Qa2 rn0 (rnc (rqr rfl) (rnc (rqr rfl) rn0)))) (pc rwl pn))))) (qc (spr Qaf) (qc (spb (lc (.rn (Qa2 rn0 rn0)) ln)) (qc (spb (lc (.rn (.plain _ (nld Qag _))) ln)) qn))))⟩
  ·replace h := Qaw hc7 h
   refine wfn hc7 (by kernel_rfl) ?_
   refine Qbf ?_
   refine Qau ?_
   refine Qau ?_
   refine Qbe rfl ?_
   obtain rfl := osi h
   exact ⟨_, (mto (n := 53) (l' := []) (own' := [(.own 1 ((y3 : List Int).map Qac)), (.own 1 [[(.fn (.func 70) [] [])]]), (.own 1 [[(.dat 4 ((p4 : List GNode).map Qaa))]])]) [] [0, 1, 2] [(.own 1 ((y3 : List Int).map Qac)), (.own 1 [[(.fn (.func 70) [] [])]]), (.own 1 [[(.dat 4 ((p4 : List GNode).map Qaa))]])] hφ0 pn (qc (spr Qaf) (qc (spb (lc (.rn (Qa2 rn0 rn0)) ln)) (qc (spb (lc (.rn (.plain _ (nld Qag _))) ln)) qn)))), Qc0 (vs := []) trivial rfl (NLt.tup _ nl0) (by kernel_rfl) (Qay (Qd0 Qaf _) (Qay (Qb2 (nlc (NLt.of0 (NLt.fn _ _ _ nl0 nl0)) nl0)) (Qay (Qb2 (nlc (NLt.of0 (nld Qag _)) nl0)) Qbx)))⟩

def Qbr (N : Nat) (p0 : Nat) (p1 : Int) (p2 : Int) (p3 : Int) : Nat → Int → (List Int) → Option (List Int)
  | 0, _, _ => none
  | n6 + 1, y2, y3 =>
    bif (decide (y2 < p3)) then
     chk (decide (0 ≤ w64 (p2 + y2)) && decide ((w64 (p2 + y2)).toNat < p0)) <|
     (y3[(w64 (p2 + y2)).toNat]?).bind fun x9 =>
     chk (decide (0 ≤ w64 (p1 + y2)) && decide ((w64 (p1 + y2)).toNat < p0)) <|
     (y3[(w64 (p1 + y2)).toNat]?).bind fun x12 =>
     chk (decide (0 ≤ w64 (p1 + y2)) && decide ((w64 (p1 + y2)).toNat < p0)) <|
     (y3[(w64 (p1 + y2)).toNat]?).bind fun _ =>
     chk (decide (0 ≤ w64 (p2 + y2)) && decide ((w64 (p2 + y2)).toNat < p0)) <|
     ((y3.set ((w64 (p1 + y2)).toNat) x9)[(w64 (p2 + y2)).toNat]?).bind fun _ =>
     Qbr N p0 p1 p2 p3 n6 (w64 (y2 + 1)) ((y3.set ((w64 (p1 + y2)).toNat) x9).set ((w64 (p2 + y2)).toNat) x12)
    else
     some y3
def Qcf (N : Nat) (p0 : Nat) (p1 : Int) (p2 : Int) (p3 : Int) (p4 : (List Int)) (_p5 : (List GNode)) : Option (List Int) :=
  Qbr N p0 p1 p2 p3 N 0 p4
set_option maxRecDepth 100000 in
set_option maxHeartbeats 4000000 in
theorem Qdk (N : Nat) (p0 : Nat) (p1 : Int) (p2 : Int) (p3 : Int) (p4 : (List Int)) (p5 : (List GNode)) (r : (List Int)) (h : Qcf N p0 p1 p2 p3 p4 p5 = some r) : Spec Try.prog 118 [(.own 0 1 (0) (p0)), (I (p1)), (I (p2)), (I (p3)), (.fn (.func 96) [] [(.ref 1 1 (0) 0), (.ref 2 1 (0) 0)])] [(.own 1 ((p4 : List Int).map Qac)), (.own 1 [[(.fn (.func 70) [] [])]]), (.own 1 [[(.dat 4 ((p5 : List GNode).map Qaa))]])] (.tup []) [(.own 1 ((r : List Int).map Qac)), (.own 1 [[(.fn (.func 70) [] [])]]), (.own 1 [[(.dat 4 ((p5 : List GNode).map Qaa))]])] := by
  refine Qaq Try.func118 rfl 3 (nle rfl) (fun X φ0 w0 hφ0 => ?_)
  unfold Qcf at h
  refine Qc1 ?_
  refine wrg [mc (.int .i64 0)] ?_ ?_
  ·exact ⟨aas rfl, trivial⟩
  refine Qan ?_
  refine wmr (mto (n := 38) (l' := [(0, (.own 0 1 (0) (p0))), (1, I p1), (2, I p2), (3, I p3), (10, I 0)]) (own' := [(.own 1 ((p4 : List Int).map Qac)), (.own 1 [[(.fn (.func 70) [] [])]]), (.own 1 [[(.dat 4 ((p5 : List GNode).map Qaa))]])]) [(0, (.own 0 1 (0) (p0))), (1, I p1), (2, I p2), (3, I p3), (10, I 0)] [0, 1, 2] [(.own 1 ((p4 : List Int).map Qac)), (.own 1 [[(.fn (.func 70) [] [])]]), (.own 1 [[(.dat 4 ((p5 : List GNode).map Qaa))]])] hφ0 (pc (.rn (Qaj rfl)) (pc rwl (pc rwl (pc rwl (pc rwl pn))))) (qc (spr Qaf) (qc (spb (lc (.rn (Qa2 rn0 rn0)) ln)) (qc (spb (lc (.rn (.plain _ (nld Qag _))) ln)) qn)))) ?_
  refine Qcc (τ := Int × (List Int)) (fun n t => Qbr N p0 p1 p2 p3 n t.1 t.2 = some r) (fun ⟨y2, y3⟩ => ⟨mk 38 [(0, (.own 0 1 (0) (p0))), (1, I p1), (2, I p2), (3, I p3), (10, I y2)], [(.own 1 ((y3 : List Int).map Qac)), (.own 1 [[(.fn (.func 70) [] [])]]), (.own 1 [[(.dat 4 ((p5 : List GNode).map Qaa))]])]⟩) (fun t h => by rw [Qbr] at h; cases h) (fun n6 ih t h => ?_) N (0, p4) h
  obtain ⟨y2, y3⟩ := t
  rw [Qbr] at h
  skip
  refine wsq ?_
  refine wrg [mv 10 (I y2), mv 3 (I p3), rp [(.tmp 11, I y2), (.tmp 12, I p3)] (B ((decide (y2 < p3))))] ?_ ?_
  ·exact ⟨amv rfl, amv rfl, abn rfl rfl, trivial⟩
  rcases bft ((decide (y2 < p3))) with hc7 | hc7
  ·replace h := Qav hc7 h
   refine wft hc7 (by kernel_rfl) ?_
   refine Qam ?_
   refine thn ?_
   refine wsq ?_
   refine Qan ?_
   obtain ⟨hi8, h⟩ := cko h
   obtain ⟨hi8a, hi8b⟩ := Qba hi8
   obtain ⟨x9, hg10, h⟩ := bno h
   obtain ⟨hi11, h⟩ := cko h
   obtain ⟨hi11a, hi11b⟩ := Qba hi11
   obtain ⟨x12, hg13, h⟩ := bno h
   obtain ⟨hi14, h⟩ := cko h
   obtain ⟨hi14a, hi14b⟩ := Qba hi14
   obtain ⟨x15, hg16, h⟩ := bno h
   obtain ⟨hi17, h⟩ := cko h
   obtain ⟨hi17a, hi17b⟩ := Qba hi17
   obtain ⟨x18, hg19, h⟩ := bno h
   refine Qde [mv 0 (.own 0 1 (0) (p0)), mv 1 (I p1), mv 10 (I y2), rp [(.tmp 17, I p1), (.tmp 18, I y2)] (I (w64 (p1 + y2))), mv 0 (.own 0 1 (0) (p0)), mv 2 (I p2), mv 10 (I y2), rp [(.tmp 21, I p2), (.tmp 22, I y2)] (I (w64 (p2 + y2))), mv 0 (.own 0 1 (0) (p0)), mv 2 (I p2), mv 10 (I y2), rp [(.tmp 25, I p2), (.tmp 26, I y2)] (I (w64 (p2 + y2))), rb [(.tmp 24, (.own 0 1 (0) (p0))), (.tmp 27, (I (w64 (p2 + y2))))] [(0, (.own 1 ((y3 : List Int).map Qac)))] (.ref 0 1 ((w64 (p2 + y2)).toNat) 0), rb [(.tmp 28, (.ref 0 1 ((w64 (p2 + y2)).toNat) 0))] [(0, (.own 1 ((y3 : List Int).map Qac)))] (I x9), mv 0 (.own 0 1 (0) (p0)), mv 1 (I p1), mv 10 (I y2), rp [(.tmp 31, I p1), (.tmp 32, I y2)] (I (w64 (p1 + y2))), rb [(.tmp 30, (.own 0 1 (0) (p0))), (.tmp 33, (I (w64 (p1 + y2))))] [(0, (.own 1 ((y3 : List Int).map Qac)))] (.ref 0 1 ((w64 (p1 + y2)).toNat) 0), rb [(.tmp 34, (.ref 0 1 ((w64 (p1 + y2)).toNat) 0))] [(0, (.own 1 ((y3 : List Int).map Qac)))] (I x12), rb [(.tmp 16, (.own 0 1 (0) (p0))), (.tmp 19, (I (w64 (p1 + y2))))] [(0, (.own 1 ((y3 : List Int).map Qac)))] (.ref 0 1 ((w64 (p1 + y2)).toNat) 0), ⟨[(.tmp 36, (.ref 0 1 ((w64 (p1 + y2)).toNat) 0)), (.tmp 29, I x9)], [(0, (.own 1 ((y3 : List Int).map Qac)))], .any, [(0, (.own 1 ((y3.set ((w64 (p1 + y2)).toNat) x9 : List Int).map Qac)))], false⟩, rb [(.tmp 20, (.own 0 1 (0) (p0))), (.tmp 23, (I (w64 (p2 + y2))))] [(0, (.own 1 ((y3.set ((w64 (p1 + y2)).toNat) x9 : List Int).map Qac)))] (.ref 0 1 ((w64 (p2 + y2)).toNat) 0), ⟨[(.tmp 37, (.ref 0 1 ((w64 (p2 + y2)).toNat) 0)), (.tmp 35, I x12)], [(0, (.own 1 ((y3.set ((w64 (p1 + y2)).toNat) x9 : List Int).map Qac)))], .any, [(0, (.own 1 (((y3.set ((w64 (p1 + y2)).toNat) x9).set ((w64 (p2 + y2)).toNat) x12 : List Int).map Qac)))], false⟩] ?_ ?_
   ·exact ⟨amv rfl, amv rfl, amv rfl, abn rfl rfl, amv rfl, amv rfl, amv rfl, abn rfl rfl, amv rfl, amv rfl, amv rfl, abn rfl rfl, aio rfl Try.underlying23 ti3 (odt hi8a) (odt hi8b) (Nat.zero_add _), ald rfl ti3 (by decide) (mgt Qac hg10) (nle rfl) rfl, amv rfl, amv rfl, amv rfl, abn rfl rfl, aio rfl Try.underlying23 ti3 (odt hi11a) (odt hi11b) (Nat.zero_add _), ald rfl ti3 (by decide) (mgt Qac hg13) (nle rfl) rfl, aio rfl Try.underlying23 ti3 (odt hi14a) (odt hi14b) (Nat.zero_add _), ast rfl ti3 (by rfl) (mgt Qac hg16) (nle rfl) (Qei Qac rfl), aio rfl Try.underlying23 ti3 (odt hi17a) (odt hi17b) (Nat.zero_add _), ast rfl ti3 (by rfl) (mgt Qac hg19) (nle rfl) (Qei Qac rfl), trivial⟩
   refine bln ?_
   refine thn ?_
   refine Qar [mv 10 (I y2), rp [(.tmp 14, I y2), ci 1] (I (w64 (y2 + 1))), mv 15 (I (w64 (y2 + 1)))] ?_ ?_
   ·exact ⟨amv rfl, abn rfl rfl, aas rfl, trivial⟩
   refine thn ?_
   exact arm (mto (n := 38) [(0, (.own 0 1 (0) (p0))), (1, I p1), (2, I p2), (3, I p3), (10, (I (w64 (y2 + 1))))] [0, 1, 2] [(.own 1 (((y3.set ((w64 (p1 + y2)).toNat) x9).set ((w64 (p2 + y2)).toNat) x12 : List Int).map Qac)), (.own 1 [[(.fn (.func 70) [] [])]]), (.own 1 [[(.dat 4 ((p5 : List GNode).map Qaa))]])] hφ0 (pc (.rn (Qaj rfl)) (pc rwl (pc rwl (pc rwl (pc rwl pn))))) (qc (spr Qaf) (qc (spb (lc (.rn (Qa2 rn0 rn0)) ln)) (qc (spb (lc (.rn (.plain _ (nld Qag _))) ln)) qn)))) (ih (w64 (y2 + 1), (y3.set ((w64 (p1 + y2)).toNat) x9).set ((w64 (p2 + y2)).toNat) x12) h)
  ·replace h := Qaw hc7 h
   refine wfn hc7 (by kernel_rfl) ?_
   refine Qbf ?_
   refine Qau ?_
   refine Qau ?_
   refine Qbe rfl ?_
   obtain rfl := osi h
   exact ⟨_, (mto (n := 38) (l' := []) (own' := [(.own 1 ((y3 : List Int).map Qac)), (.own 1 [[(.fn (.func 70) [] [])]]), (.own 1 [[(.dat 4 ((p5 : List GNode).map Qaa))]])]) [] [0, 1, 2] [(.own 1 ((y3 : List Int).map Qac)), (.own 1 [[(.fn (.func 70) [] [])]]), (.own 1 [[(.dat 4 ((p5 : List GNode).map Qaa))]])] hφ0 pn (qc (spr Qaf) (qc (spb (lc (.rn (Qa2 rn0 rn0)) ln)) (qc (spb (lc (.rn (.plain _ (nld Qag _))) ln)) qn)))), Qc0 (vs := []) trivial rfl (NLt.tup _ nl0) (by kernel_rfl) (Qay (Qd0 Qaf _) (Qay (Qb2 (nlc (NLt.of0 (NLt.fn _ _ _ nl0 nl0)) nl0)) (Qay (Qb2 (nlc (NLt.of0 (nld Qag _)) nl0)) Qbx)))⟩

def Qbn (N : Nat) (p0 : Nat) (p2 : Int) (k4 : Int × (List Int) → Option (List Int)) (p5 : (List GNode)) : Nat → Int → Int → (List Int) → Option (List Int)
  | 0, _, _, _ => none
  | n13 + 1, y7, y8, y9 =>
    bif (y7 != y8) then
     bif (decide (y7 > y8)) then
      (Qcf N p0 (w64 (p2 - y7)) p2 y8 y9 p5).bind fun x17 =>
      Qbn N p0 p2 k4 p5 n13 (w64 (y7 - y8)) y8 x17
     else
      (Qcf N p0 (w64 (p2 - y7)) (w64 ((w64 (p2 + y8)) - y7)) y7 y9 p5).bind fun x19 =>
      Qbn N p0 p2 k4 p5 n13 y7 (w64 (y8 - y7)) x19
    else
     k4 (y7, y9)
def Qec (N : Nat) (p0 : Nat) (p1 : Int) (p2 : Int) (p3 : Int) (p4 : (List Int)) (p5 : (List GNode)) : Option (List Int) :=
  Qca (fun ⟨y2, y3⟩ =>
    (Qcf N p0 (w64 (p2 - y2)) p2 y2 y3 p5).bind fun x6 =>
    some x6) fun k4 : Int × (List Int) → Option (List Int) =>
  Qbn N p0 p2 k4 p5 N (w64 (p2 - p1)) (w64 (p3 - p2)) p4
set_option maxRecDepth 100000 in
set_option maxHeartbeats 4000000 in
theorem Qgc (N : Nat) (p0 : Nat) (p1 : Int) (p2 : Int) (p3 : Int) (p4 : (List Int)) (p5 : (List GNode)) (r : (List Int)) (h : Qec N p0 p1 p2 p3 p4 p5 = some r) : Spec Try.prog 117 [(.own 0 1 (0) (p0)), (I (p1)), (I (p2)), (I (p3)), (.fn (.func 96) [] [(.ref 1 1 (0) 0), (.ref 2 1 (0) 0)])] [(.own 1 ((p4 : List Int).map Qac)), (.own 1 [[(.fn (.func 70) [] [])]]), (.own 1 [[(.dat 4 ((p5 : List GNode).map Qaa))]])] (.tup []) [(.own 1 ((r : List Int).map Qac)), (.own 1 [[(.fn (.func 70) [] [])]]), (.own 1 [[(.dat 4 ((p5 : List GNode).map Qaa))]])] := by
  refine Qaq Try.func117 rfl 3 (nle rfl) (fun X φ0 w0 hφ0 => ?_)
  unfold Qec at h
  refine Qc1 ?_
  refine wrg [mv 2 (I p2), mv 1 (I p1), rp [(.tmp 12, I p2), (.tmp 13, I p1)] (I (w64 (p2 - p1))), mv 14 (I (w64 (p2 - p1)))] ?_ ?_
  ·exact ⟨amv rfl, amv rfl, abn rfl rfl, aas rfl, trivial⟩
  refine wrg [mv 3 (I p3), mv 2 (I p2), rp [(.tmp 15, I p3), (.tmp 16, I p2)] (I (w64 (p3 - p2))), mv 17 (I (w64 (p3 - p2)))] ?_ ?_
  ·exact ⟨amv rfl, amv rfl, abn rfl rfl, aas rfl, trivial⟩
  obtain ⟨k4, hk_k4, h⟩ := jko h
  refine wjn (τ := Int × (List Int)) (fun t => k4 t = some r) (fun ⟨y2, y3⟩ => ⟨mk 58 [(0, (.own 0 1 (0) (p0))), (2, I p2), (4, (.fn (.func 96) [] [.ref 1 1 0 0, .ref 2 1 0 0])), (10, I y2)], [(.own 1 ((y3 : List Int).map Qac)), (.own 1 [[(.fn (.func 70) [] [])]]), (.own 1 [[(.dat 4 ((p5 : List GNode).map Qaa))]])]⟩) (fun t h => ?_) ?_
  ·subst hk_k4
   obtain ⟨y2, y3⟩ := t
   obtain ⟨x6, hf5, h⟩ := bno h
   refine Qar [mv 0 (.own 0 1 (0) (p0)), mv 2 (I p2), mv 10 (I y2), rp [(.tmp 51, I p2), (.tmp 52, I y2)] (I (w64 (p2 - y2))), mv 2 (I p2), mv 10 (I y2), mv 4 (.fn (.func 96) [] [.ref 1 1 0 0, .ref 2 1 0 0]), ⟨[fu 118, (.tmp 50, (.own 0 1 (0) (p0))), (.tmp 53, (I (w64 (p2 - y2)))), (.tmp 54, I p2), (.tmp 55, I y2), (.tmp 56, (.fn (.func 96) [] [.ref 1 1 0 0, .ref 2 1 0 0]))], [(0, (.own 1 ((y3 : List Int).map Qac))), (1, (.own 1 [[(.fn (.func 70) [] [])]])), (2, (.own 1 [[(.dat 4 ((p5 : List GNode).map Qaa))]]))], (.tup []), [(0, (.own 1 ((x6 : List Int).map Qac))), (1, (.own 1 [[(.fn (.func 70) [] [])]])), (2, (.own 1 [[(.dat 4 ((p5 : List GNode).map Qaa))]]))], false⟩] ?_ ?_
   ·exact ⟨amv rfl, amv rfl, amv rfl, abn rfl rfl, amv rfl, amv rfl, amv rfl, Qa4 (first := []) (cap := []) (vs := [(.own 0 1 (0) (p0)), (I (w64 (p2 - y2))), I p2, I y2, (.fn (.func 96) [] [.ref 1 1 0 0, .ref 2 1 0 0])]) (σr := [(.own 1 ((y3 : List Int).map Qac)), (.own 1 [[(.fn (.func 70) [] [])]]), (.own 1 [[(.dat 4 ((p5 : List GNode).map Qaa))]])]) (σr' := [(.own 1 ((x6 : List Int).map Qac)), (.own 1 [[(.fn (.func 70) [] [])]]), (.own 1 [[(.dat 4 ((p5 : List GNode).map Qaa))]])]) (res' := (.tup [])) [0, 1, 2] rfl enter118 (Qdk N p0 (w64 (p2 - y2)) p2 y2 y3 p5 _ hf5) rfl (Qc3 (rnc (Qen rfl) (rnc (.plain _ nll) (rnc (.plain _ nll) (rnc (.plain _ nll) (rnc (Qa2 rn0 (rnc (Qbz rfl) (rnc (Qbz rfl) rn0))) rn0)))))) (slc (Qby Qaf) (slc (Qat (rnc (.plain _ (NLt.fn _ _ _ nl0 nl0)) rn0)) (slc (Qat (rnc (.plain _ (nld Qag _)) rn0)) Qa0))) (slc (Qby Qaf) (slc (Qat (rnc (.plain _ (NLt.fn _ _ _ nl0 nl0)) rn0)) (slc (Qat (rnc (.plain _ (nld Qag _)) rn0)) Qa0))) (.plain _ (NLt.tup _ nl0)) rfl rfl rfl, trivial⟩
   obtain rfl := osi h
   exact ⟨_, (mto (n := 58) (l' := []) (own' := [(.own 1 ((x6 : List Int).map Qac)), (.own 1 [[(.fn (.func 70) [] [])]]), (.own 1 [[(.dat 4 ((p5 : List GNode).map Qaa))]])]) [] [0, 1, 2] [(.own 1 ((x6 : List Int).map Qac)), (.own 1 [[(.fn (.func 70) [] [])]]), (.own 1 [[(.dat 4 ((p5 : List GNode).map Qaa))]])] hφ0 pn (qc (spr Qaf) (qc (spb (lc (.rn (Qa2 rn0 rn0)) ln)) (qc (spb (lc (.rn (.plain _ (nld Qag _))) ln)) qn)))), Qc0 (vs := []) trivial rfl (NLt.tup _ nl0) (by kernel_rfl) (Qay (Qd0 Qaf _) (Qay (Qb2 (nlc (NLt.of0 (NLt.fn _ _ _ nl0 nl0)) nl0)) (Qay (Qb2 (nlc (NLt.of0 (nld Qag _)) nl0)) Qbx)))⟩
  ·skip
   refine Qan ?_
   refine wmr (mto (n := 58) (l' := [(0, (.own 0 1 (0) (p0))), (2, I p2), (4, (.fn (.func 96) [] [.ref 1 1 0 0, .ref 2 1 0 0])), (10, (I ((w64 (p2 - p1))))), (11, (I ((w64 (p3 - p2)))))]) (own' := [(.own 1 ((p4 : List Int).map Qac)), (.own 1 [[(.fn (.func 70) [] [])]]), (.own 1 [[(.dat 4 ((p5 : List GNode).map Qaa))]])]) [(0, (.own 0 1 (0) (p0))), (2, I p2), (4, (.fn (.func 96) [] [.ref 1 1 0 0, .ref 2 1 0 0])), (10, (I (w64 (p2 - p1)))), (11, (I (w64 (p3 - p2))))] [0, 1, 2] [(.own 1 ((p4 : List Int).map Qac)), (.own 1 [[(.fn (.func 70) [] [])]]), (.own 1 [[(.dat 4 ((p5 : List GNode).map Qaa))]])] hφ0 (pc (.rn (Qaj rfl)) (pc rwl (pc (.rn (Qa2 rn0 (rnc (rqr rfl) (rnc (rqr rfl) rn0)))) (pc rwl (pc rwl pn))))) (qc (spr Qaf) (qc (spb (lc (.rn (Qa2 rn0 rn0)) ln)) (qc (spb (lc (.rn (.plain _ (nld Qag _))) ln)) qn)))) ?_
   refine Qcc (τ := Int × Int × (List Int)) (fun n t => Qbn N p0 p2 k4 p5 n t.1 t.2.1 t.2.2 = some r) (fun ⟨y7, y8, y9⟩ => ⟨mk 58 [(0, (.own 0 1 (0) (p0))), (2, I p2), (4, (.fn (.func 96) [] [.ref 1 1 0 0, .ref 2 1 0 0])), (10, I y7), (11, I y8)], [(.own 1 ((y9 : List Int).map Qac)), (.own 1 [[(.fn (.func 70) [] [])]]), (.own 1 [[(.dat 4 ((p5 : List GNode).map Qaa))]])]⟩) (fun t h => by rw [Qbn] at h; cases h) (fun n13 ih t h => ?_) N (w64 (p2 - p1), w64 (p3 - p2), p4) h
   obtain ⟨y7, y8, y9⟩ := t
   rw [Qbn] at h
   skip
   refine wsq ?_
   refine wrg [mv 10 (I y7), mv 11 (I y8), rp [(.tmp 18, I y7), (.tmp 19, I y8)] (B ((y7 != y8)))] ?_ ?_
   ·exact ⟨amv rfl, amv rfl, abn rfl rfl, trivial⟩
   rcases bft ((y7 != y8)) with hc14 | hc14
   ·replace h := Qav hc14 h
    refine wft hc14 (by kernel_rfl) ?_
    refine Qam ?_
    refine thn ?_
    refine Qan ?_
    refine wrg [mv 10 (I y7), mv 11 (I y8), rp [(.tmp 21, I y7), (.tmp 22, I y8)] (B ((decide (y7 > y8))))] ?_ ?_
    ·exact ⟨amv rfl, amv rfl, abn rfl rfl, trivial⟩
    rcases bft ((decide (y7 > y8))) with hc15 | hc15
    ·replace h := Qav hc15 h
     refine wft hc15 (by kernel_rfl) ?_
     obtain ⟨x17, hf16, h⟩ := bno h
     refine wrg [mv 0 (.own 0 1 (0) (p0)), mv 2 (I p2), mv 10 (I y7), rp [(.tmp 25, I p2), (.tmp 26, I y7)] (I (w64 (p2 - y7))), mv 2 (I p2), mv 11 (I y8), mv 4 (.fn (.func 96) [] [.ref 1 1 0 0, .ref 2 1 0 0]), ⟨[fu 118, (.tmp 24, (.own 0 1 (0) (p0))), (.tmp 27, (I (w64 (p2 - y7)))), (.tmp 28, I p2), (.tmp 29, I y8), (.tmp 30, (.fn (.func 96) [] [.ref 1 1 0 0, .ref 2 1 0 0]))], [(0, (.own 1 ((y9 : List Int).map Qac))), (1, (.own 1 [[(.fn (.func 70) [] [])]])), (2, (.own 1 [[(.dat 4 ((p5 : List GNode).map Qaa))]]))], (.tup []), [(0, (.own 1 ((x17 : List Int).map Qac))), (1, (.own 1 [[(.fn (.func 70) [] [])]])), (2, (.own 1 [[(.dat 4 ((p5 : List GNode).map Qaa))]]))], false⟩] ?_ ?_
     ·exact ⟨amv rfl, amv rfl, amv rfl, abn rfl rfl, amv rfl, amv rfl, amv rfl, Qa4 (first := []) (cap := []) (vs := [(.own 0 1 (0) (p0)), (I (w64 (p2 - y7))), I p2, I y8, (.fn (.func 96) [] [.ref 1 1 0 0, .ref 2 1 0 0])]) (σr := [(.own 1 ((y9 : List Int).map Qac)), (.own 1 [[(.fn (.func 70) [] [])]]), (.own 1 [[(.dat 4 ((p5 : List GNode).map Qaa))]])]) (σr' := [(.own 1 ((x17 : List Int).map Qac)), (.own 1 [[(.fn (.func 70) [] [])]]), (.own 1 [[(.dat 4 ((p5 : List GNode).map Qaa))]])]) (res' := (.tup [])) [0, 1, 2] rfl enter118 (Qdk N p0 (w64 (p2 - y7)) p2 y8 y9 p5 _ hf16) rfl (Qc3 (rnc (Qen rfl) (rnc (.plain _ nll) (rnc (.plain _ nll) (rnc (.plain _ nll) (rnc (Qa2 rn0 (rnc (Qbz rfl) (rnc (Qbz rfl) rn0))) rn0)))))) (slc (Qby Qaf) (slc (Qat (rnc (.plain _ (NLt.fn _ _ _ nl0 nl0)) rn0)) (slc (Qat (rnc (.plain _ (nld Qag _)) rn0)) Qa0))) (slc (Qby Qaf) (slc (Qat (rnc (.plain _ (NLt.fn _ _ _ nl0 nl0)) rn0)) (slc (Qat (rnc (.plain _ (nld Qag _)) rn0)) Qa0))) (.plain _ (NLt.tup _ nl0)) rfl rfl rfl, trivial⟩
     refine Qar [mv 10 (I y7), mv 11 (I y8), rp [(.tmp 32, I y7), (.tmp 33, I y8)] (I (w64 (y7 - y8))), mv 34 (I (w64 (y7 - y8)))] ?_ ?_
     ·exact ⟨amv rfl, amv rfl, abn rfl rfl, aas rfl, trivial⟩
     refine bln ?_
     refine thn ?_
     exact arm (mto (n := 58) [(0, (.own 0 1 (0) (p0))), (2, I p2), (4, (.fn (.func 96) [] [.ref 1 1 0 0, .ref 2 1 0 0])), (10, (I (w64 (y7 - y8)))), (11, I y8)] [0, 1, 2] [(.own 1 ((x17 : List Int).map Qac)), (.own 1 [[(.fn (.func 70) [] [])]]), (.own 1 [[(.dat 4 ((p5 : List GNode).map Qaa))]])] hφ0 (pc (.rn (Qaj rfl)) (pc rwl (pc (.rn (Qa2 rn0 (rnc (rqr rfl) (rnc (rqr rfl) rn0)))) (pc rwl (pc rwl pn))))) (qc (spr Qaf) (qc (spb (lc (.rn (Qa2 rn0 rn0)) ln)) (qc (spb (lc (.rn (.plain _ (nld Qag _))) ln)) qn)))) (ih (w64 (y7 - y8), y8, x17) h)
    ·replace h := Qaw hc15 h
     refine wfn hc15 (by kernel_rfl) ?_
     obtain ⟨x19, hf18, h⟩ := bno h
     refine wrg [mv 0 (.own 0 1 (0) (p0)), mv 2 (I p2), mv 10 (I y7), rp [(.tmp 36, I p2), (.tmp 37, I y7)] (I (w64 (p2 - y7))), mv 2 (I p2), mv 11 (I y8), rp [(.tmp 39, I p2), (.tmp 40, I y8)] (I (w64 (p2 + y8))), mv 10 (I y7), rp [(.tmp 41, (I (w64 (p2 + y8)))), (.tmp 42, I y7)] (I (w64 ((w64 (p2 + y8)) - y7))), mv 10 (I y7), mv 4 (.fn (.func 96) [] [.ref 1 1 0 0, .ref 2 1 0 0]), ⟨[fu 118, (.tmp 35, (.own 0 1 (0) (p0))), (.tmp 38, (I (w64 (p2 - y7)))), (.tmp 43, (I (w64 ((w64 (p2 + y8)) - y7)))), (.tmp 44, I y7), (.tmp 45, (.fn (.func 96) [] [.ref 1 1 0 0, .ref 2 1 0 0]))], [(0, (.own 1 ((y9 : List Int).map Qac))), (1, (.own 1 [[(.fn (.func 70) [] [])]])), (2, (.own 1 [[(.dat 4 ((p5 : List GNode).map Qaa))]]))], (.tup []), [(0, (.own 1 ((x19 : List Int).map Qac))), (1, (.own 1 [[(.fn (.func 70) [] [])]])), (2, (.own 1 [[(.dat 4 ((p5 : List GNode).map Qaa))]]))], false⟩] ?_ ?_
     ·exact ⟨amv rfl, amv rfl, amv rfl, abn rfl rfl, amv rfl, amv rfl, abn rfl rfl, amv rfl, abn rfl rfl, amv rfl, amv rfl, Qa4 (first := []) (cap := []) (vs := [(.own 0 1 (0) (p0)), (I (w64 (p2 - y7))), (I (w64 ((w64 (p2 + y8)) - y7))), I y7, (.fn (.func 96) [] [.ref 1 1 0 0, .ref 2 1 0 0])]) (σr := [(.own 1 ((y9 : List Int).map Qac)), (.own 1 [[(.fn (.func 70) [] [])]]), (.own 1 [[(.dat 4 ((p5 : List GNode).map Qaa))]])]) (σr' := [(.own 1 ((x19 : List Int).map Qac)), (.own 1 [[(.fn (.func 70) [] [])]]), (.own 1 [[(.dat 4 ((p5 : List GNode).map Qaa))]])]) (res' := (.tup [])) [0, 1, 2] rfl enter118 (Qdk N p0 (w64 (p2 - y7)) (w64 ((w64 (p2 + y8)) - y7)) y7 y9 p5 _ hf18) rfl (Qc3 (rnc (Qen rfl) (rnc (.plain _ nll) (rnc (.plain _ nll) (rnc (.plain _ nll) (rnc (Qa2 rn0 (rnc (Qbz rfl) (rnc (Qbz rfl) rn0))) rn0)))))) (slc (Qby Qaf) (slc (Qat (rnc (.plain _ (NLt.fn _ _ _ nl0 nl0)) rn0)) (slc (Qat (rnc (.plain _ (nld Qag _)) rn0)) Qa0))) (slc (Qby Qaf) (slc (Qat (rnc (.plain _ (NLt.fn _ _ _ nl0 nl0)) rn0)) (slc (Qat (rnc (.plain _ (nld Qag _)) rn0)) Qa0))) (.plain _ (NLt.tup _ nl0)) rfl rfl rfl, trivial⟩
     refine Qar [mv 11 (I y8), mv 10 (I y7), rp [(.tmp 47, I y8), (.tmp 48, I y7)] (I (w64 (y8 - y7))), mv 49 (I (w64 (y8 - y7)))] ?_ ?_
     ·exact ⟨amv rfl, amv rfl, abn rfl rfl, aas rfl, trivial⟩
     refine bln ?_
     refine thn ?_
     exact arm (mto (n := 58) [(0, (.own 0 1 (0) (p0))), (2, I p2), (4, (.fn (.func 96) [] [.ref 1 1 0 0, .ref 2 1 0 0])), (10, I y7), (11, (I (w64 (y8 - y7))))] [0, 1, 2] [(.own 1 ((x19 : List Int).map Qac)), (.own 1 [[(.fn (.func 70) [] [])]]), (.own 1 [[(.dat 4 ((p5 : List GNode).map Qaa))]])] hφ0 (pc (.rn (Qaj rfl)) (pc rwl (pc (.rn (Qa2 rn0 (rnc (rqr rfl) (rnc (rqr rfl) rn0)))) (pc rwl (pc rwl pn))))) (qc (spr Qaf) (qc (spb (lc (.rn (Qa2 rn0 rn0)) ln)) (qc (spb (lc (.rn (.plain _ (nld Qag _))) ln)) qn)))) (ih (y7, w64 (y8 - y7), x19) h)
   ·replace h := Qaw hc14 h
    refine wfn hc14 (by kernel_rfl) ?_
    refine Qbf ?_
    refine Qau ?_
    refine Qau ?_
    refine Qbe rfl ?_
    refine thn ?_
    exact ⟨(y7, y9), h, (mto (n := 58) [(0, (.own 0 1 (0) (p0))), (2, I p2), (4, (.fn (.func 96) [] [.ref 1 1 0 0, .ref 2 1 0 0])), (10, I y7)] [0, 1, 2] [(.own 1 ((y9 : List Int).map Qac)), (.own 1 [[(.fn (.func 70) [] [])]]), (.own 1 [[(.dat 4 ((p5 : List GNode).map Qaa))]])] hφ0 (pc (.rn (Qaj rfl)) (pc rwl (pc (.rn (Qa2 rn0 (rnc (rqr rfl) (rnc (rqr rfl) rn0)))) (pc rwl pn)))) (qc (spr Qaf) (qc (spb (lc (.rn (Qa2 rn0 rn0)) ln)) (qc (spb (lc (.rn (.plain _ (nld Qag _))) ln)) qn))))⟩

def Qbj (N : Nat) (p0 : Nat) (p4 : (List Int)) (p5 : (List GNode)) (x10 : Int) (k13 : Int → Option (List Int)) : Nat → Int → Int → Option (List Int)
  | 0, _, _ => none
  | n36 + 1, y32, y33 =>
    bif (decide (y32 < y33)) then
     (some (w64 ((IntKind.wrap .u64 (w64 (y32 + y33))) / 2))).bind fun x38 =>
     chk (decide (0 ≤ w64 (x10 - x38)) && decide ((w64 (x10 - x38)).toNat < p0)) <|
     (p4[(w64 (x10 - x38)).toNat]?).bind fun x41 =>
     chk (decide (0 ≤ x38) && decide (x38.toNat < p0)) <|
     (p4[x38.toNat]?).bind fun x44 =>
     (Qch N x41 x44 p5).bind fun x47 =>
     bif (!(decide (x47 < 0))) then
      Qbj N p0 p4 p5 x10 k13 n36 (w64 (x38 + 1)) y33
     else
      Qbj N p0 p4 p5 x10 k13 n36 y32 x38
    else
     k13 (y32)
def Qbt (N : Nat) (p0 : Nat) (y53 : Int) (k56 : (List Int) → Option (List Int)) : Nat → Int → (List Int) → Option (List Int)
  | 0, _, _ => none
  | n61 + 1, y57, y58 =>
    bif (decide (y57 > y53)) then
     chk (decide (0 ≤ w64 (y57 - 1)) && decide ((w64 (y57 - 1)).toNat < p0)) <|
     (y58[(w64 (y57 - 1)).toNat]?).bind fun x64 =>
     chk (decide (0 ≤ y57) && decide (y57.toNat < p0)) <|
     (y58[y57.toNat]?).bind fun x67 =>
     chk (decide (0 ≤ y57) && decide (y57.toNat < p0)) <|
     (y58[y57.toNat]?).bind fun _ =>
     chk (decide (0 ≤ w64 (y57 - 1)) && decide ((w64 (y57 - 1)).toNat < p0)) <|
     ((y58.set y57.toNat x64)[(w64 (y57 - 1)).toNat]?).bind fun _ =>
     Qbt N p0 y53 k56 n61 (w64 (y57 - 1)) ((y58.set y57.toNat x64).set ((w64 (y57 - 1)).toNat) x67)
    else
     k56 (y58)
def Qbi (N : Nat) (p0 : Nat) (p2 : Int) (p4 : (List Int)) (p5 : (List GNode)) (k54 : Int → Option (List Int)) : Nat → Int → Int → Option (List Int)
  | 0, _, _ => none
  | n79 + 1, y75, y76 =>
    bif (decide (y75 < y76)) then
     (some (w64 ((IntKind.wrap .u64 (w64 (y75 + y76))) / 2))).bind fun x81 =>
     chk (decide (0 ≤ p2) && decide (p2.toNat < p0)) <|
     (p4[p2.toNat]?).bind fun x84 =>
     chk (decide (0 ≤ x81) && decide (x81.toNat < p0)) <|
     (p4[x81.toNat]?).bind fun x87 =>
     (Qch N x84 x87 p5).bind fun x90 =>
     bif (!(decide (x90 < 0))) then
      Qbi N p0 p2 p4 p5 k54 n79 (w64 (x81 + 1)) y76
     else
      Qbi N p0 p2 p4 p5 k54 n79 y75 x81
    else
     k54 (y75)
def Qbs (N : Nat) (p0 : Nat) (y93 : Int) (k96 : (List Int) → Option (List Int)) : Nat → Int → (List Int) → Option (List Int)
  | 0, _, _ => none
  | n101 + 1, y97, y98 =>
    bif (decide (y97 < (w64 (y93 - 1)))) then
     chk (decide (0 ≤ w64 (y97 + 1)) && decide ((w64 (y97 + 1)).toNat < p0)) <|
     (y98[(w64 (y97 + 1)).toNat]?).bind fun x104 =>
     chk (decide (0 ≤ y97) && decide (y97.toNat < p0)) <|
     (y98[y97.toNat]?).bind fun x107 =>
     chk (decide (0 ≤ y97) && decide (y97.toNat < p0)) <|
     (y98[y97.toNat]?).bind fun _ =>
     chk (decide (0 ≤ w64 (y97 + 1)) && decide ((w64 (y97 + 1)).toNat < p0)) <|
     ((y98.set y97.toNat x104)[(w64 (y97 + 1)).toNat]?).bind fun _ =>
     Qbs N p0 y93 k96 n101 (w64 (y97 + 1)) ((y98.set y97.toNat x104).set ((w64 (y97 + 1)).toNat) x107)
    else
     k96 (y98)
def Qbh (N : Nat) (p0 : Nat) (p1 : Int) (p4 : (List Int)) (p5 : (List GNode)) (k94 : Int → Option (List Int)) : Nat → Int → Int → Option (List Int)
  | 0, _, _ => none
  | n119 + 1, y115, y116 =>
    bif (decide (y115 < y116)) then
     (some (w64 ((IntKind.wrap .u64 (w64 (y115 + y116))) / 2))).bind fun x121 =>
     chk (decide (0 ≤ x121) && decide (x121.toNat < p0)) <|
     (p4[x121.toNat]?).bind fun x124 =>
     chk (decide (0 ≤ p1) && decide (p1.toNat < p0)) <|
     (p4[p1.toNat]?).bind fun x127 =>
     (Qch N x124 x127 p5).bind fun x130 =>
     bif (decide (x130 < 0)) then
      Qbh N p0 p1 p4 p5 k94 n119 (w64 (x121 + 1)) y116
     else
      Qbh N p0 p1 p4 p5 k94 n119 y115 x121
    else
     k94 (y115)
def Qdf (N : Nat) (rec_ : Nat → Int → Int → Int → (List Int) → (List GNode) → Option (List Int)) (p0 : Nat) (p1 : Int) (p2 : Int) (p3 : Int) (p4 : (List Int)) (p5 : (List GNode)) : Option (List Int) :=
  Qca (fun _ =>
    Qca (fun _ =>
      (some (w64 ((IntKind.wrap .u64 (w64 (p1 + p3))) / 2))).bind fun x5 =>
      Qca (fun ⟨y7, y8⟩ =>
        (some (w64 ((w64 (x5 + p2)) - 1))).bind fun x10 =>
        Qca (fun y12 =>
          (some (w64 ((w64 (x5 + p2)) - y12))).bind fun x14 =>
          Qca (fun y16 =>
            Qca (fun y18 =>
              bif (decide (x5 < x14)) then
               bif (decide (x14 < p3)) then
                (rec_ p0 x5 x14 p3 y18 p5).bind fun x23 =>
                some x23
               else
                some y18
              else
               some y18) fun k19 : (List Int) → Option (List Int) =>
            bif (decide (p1 < y12)) then
             bif (decide (y12 < x5)) then
              (rec_ p0 p1 y12 x5 y16 p5).bind fun x27 =>
              k19 (x27)
             else
              k19 (y16)
            else
             k19 (y16)) fun k17 : (List Int) → Option (List Int) =>
          bif (decide (y12 < p2)) then
           bif (decide (p2 < x14)) then
            (Qec N p0 y12 p2 x14 p4 p5).bind fun x31 =>
            k17 (x31)
           else
            k17 (p4)
          else
           k17 (p4)) fun k13 : Int → Option (List Int) =>
        Qbj N p0 p4 p5 x10 k13 N y7 y8) fun k9 : Int × Int → Option (List Int) =>
      bif (decide (p2 > x5)) then
       (some (w64 ((w64 (x5 + p2)) - p3))).bind fun x50 =>
       k9 (x50, x5)
      else
       k9 (p1, p2)) fun k4 : Unit → Option (List Int) =>
    bif ((w64 (p3 - p2)) == 1) then
     Qca (fun y53 =>
       Qca (fun y55 =>
         some y55) fun k56 : (List Int) → Option (List Int) =>
       Qbt N p0 y53 k56 N p2 p4) fun k54 : Int → Option (List Int) =>
     Qbi N p0 p2 p4 p5 k54 N p1 p2
    else
     k4 ()) fun k3 : Unit → Option (List Int) =>
  bif ((w64 (p2 - p1)) == 1) then
   Qca (fun y93 =>
     Qca (fun y95 =>
       some y95) fun k96 : (List Int) → Option (List Int) =>
     Qbs N p0 y93 k96 N p1 p4) fun k94 : Int → Option (List Int) =>
   Qbh N p0 p1 p4 p5 k94 N p2 p3
  else
   k3 ()
def Qcl : Nat → Nat → Int → Int → Int → (List Int) → (List GNode) → Option (List Int)
  | 0, _, _, _, _, _, _ => none
  | N + 1, p0, p1, p2, p3, p4, p5 => Qdf N (Qcl N) p0 p1 p2 p3 p4 p5
set_option maxRecDepth 100000 in
set_option maxHeartbeats 4000000 in
theorem Qeo : ∀ (N : Nat) (p0 : Nat) (p1 : Int) (p2 : Int) (p3 : Int) (p4 : (List Int)) (p5 : (List GNode)) (r : (List Int)) (_ : Qcl N p0 p1 p2 p3 p4 p5 = some r), Spec Try.prog 115 [(.own 0 1 (0) (p0)), (I (p1)), (I (p2)), (I (p3)), (.fn (.func 96) [] [(.ref 1 1 (0) 0), (.ref 2 1 (0) 0)])] [(.own 1 ((p4 : List Int).map Qac)), (.own 1 [[(.fn (.func 70) [] [])]]), (.own 1 [[(.dat 4 ((p5 : List GNode).map Qaa))]])] (.tup []) [(.own 1 ((r : List Int).map Qac)), (.own 1 [[(.fn (.func 70) [] [])]]), (.own 1 [[(.dat 4 ((p5 : List GNode).map Qaa))]])] := by
  intro N
  induction N with
  | zero => intro p0 p1 p2 p3 p4 p5 r h; exact nomatch (show (none : Option (List Int)) = some r from h)
  | succ N ihX =>
  intro p0 p1 p2 p3 p4 p5 r h
  replace h : Qdf N (Qcl N) p0 p1 p2 p3 p4 p5 = some r := h
  refine Qaq Try.func115 rfl 3 (nle rfl) (fun X φ0 w0 hφ0 => ?_)
  unfold Qdf at h
  refine Qc1 ?_
  obtain ⟨k3, hk_k3, h⟩ := jko h
  refine wjn (τ := Unit) (fun t => k3 t = some r) (fun _ => ⟨mk 220 [(0, (.own 0 1 (0) (p0))), (1, I p1), (2, I p2), (3, I p3), (4, (.fn (.func 96) [] [.ref 1 1 0 0, .ref 2 1 0 0]))], [(.own 1 ((p4 : List Int).map Qac)), (.own 1 [[(.fn (.func 70) [] [])]]), (.own 1 [[(.dat 4 ((p5 : List GNode).map Qaa))]])]⟩) (fun t h => ?_) ?_
  ·subst hk_k3
   obtain ⟨k4, hk_k4, h⟩ := jko h
   refine wjn (τ := Unit) (fun t => k4 t = some r) (fun _ => ⟨mk 220 [(0, (.own 0 1 (0) (p0))), (1, I p1), (2, I p2), (3, I p3), (4, (.fn (.func 96) [] [.ref 1 1 0 0, .ref 2 1 0 0]))], [(.own 1 ((p4 : List Int).map Qac)), (.own 1 [[(.fn (.func 70) [] [])]]), (.own 1 [[(.dat 4 ((p5 : List GNode).map Qaa))]])]⟩) (fun t h => ?_) ?_
   ·subst hk_k4
    obtain ⟨x5, hl6, h⟩ := bno h
    refine wrg [mv 1 (I p1), mv 3 (I p3), rp [(.tmp 129, I p1), (.tmp 130, I p3)] (I (w64 (p1 + p3))), rp [(.tmp 131, (I (w64 (p1 + p3))))] (K .u64 (IntKind.wrap .u64 (w64 (p1 + p3)))), rp [(.tmp 132, (K .u64 (IntKind.wrap .u64 (w64 (p1 + p3))))), (.const (.int .u64 1), (K .u64 (1)))] (K .u64 ((IntKind.wrap .u64 (w64 (p1 + p3))) / 2)), rp [(.tmp 133, (K .u64 ((IntKind.wrap .u64 (w64 (p1 + p3))) / 2)))] (I (w64 ((IntKind.wrap .u64 (w64 (p1 + p3))) / 2))), rp [(.tmp 134, (I (w64 ((IntKind.wrap .u64 (w64 (p1 + p3))) / 2))))] (I x5)] ?_ ?_
    ·exact ⟨amv rfl, amv rfl, abn rfl rfl, acv rfl (by rw [Try.underlying3]; rfl) Try.underlying112, Qiw rfl (by decide) (by decide), acv rfl (by rw [Try.underlying112]; rfl) Try.underlying3, Qe2 hl6 (aas rfl), trivial⟩
    refine wrg [mv 18 (I x5), mv 2 (I p2), rp [(.tmp 135, I x5), (.tmp 136, I p2)] (I (w64 (x5 + p2))), mv 137 (I (w64 (x5 + p2)))] ?_ ?_
    ·exact ⟨amv rfl, amv rfl, abn rfl rfl, aas rfl, trivial⟩
    refine wrg [mc (.int .i64 0), mc (.int .i64 0)] ?_ ?_
    ·exact ⟨aas rfl, aas rfl, trivial⟩
    obtain ⟨k9, hk_k9, h⟩ := jko h
    refine wjn (τ := Int × Int) (fun t => k9 t = some r) (fun ⟨y7, y8⟩ => ⟨mk 220 [(0, (.own 0 1 (0) (p0))), (1, I p1), (2, I p2), (3, I p3), (4, (.fn (.func 96) [] [.ref 1 1 0 0, .ref 2 1 0 0])), (18, I x5), (19, (I (w64 (x5 + p2)))), (20, I y7), (21, I y8)], [(.own 1 ((p4 : List Int).map Qac)), (.own 1 [[(.fn (.func 70) [] [])]]), (.own 1 [[(.dat 4 ((p5 : List GNode).map Qaa))]])]⟩) (fun t h => ?_) ?_
    ·subst hk_k9
     obtain ⟨y7, y8⟩ := t
     obtain ⟨x10, hl11, h⟩ := bno h
     refine wrg [mv 19 (I (w64 (x5 + p2))), rp [(.tmp 147, (I (w64 (x5 + p2)))), ci 1] (I (w64 ((w64 (x5 + p2)) - 1))), rp [(.tmp 148, (I (w64 ((w64 (x5 + p2)) - 1))))] (I x10)] ?_ ?_
     ·exact ⟨amv rfl, abn rfl rfl, Qe2 hl11 (aas rfl), trivial⟩
     obtain ⟨k13, hk_k13, h⟩ := jko h
     refine wjn (τ := Int) (fun t => k13 t = some r) (fun y12 => ⟨mk 220 [(0, (.own 0 1 (0) (p0))), (1, I p1), (2, I p2), (3, I p3), (4, (.fn (.func 96) [] [.ref 1 1 0 0, .ref 2 1 0 0])), (18, I x5), (19, (I (w64 (x5 + p2)))), (20, I y12)], [(.own 1 ((p4 : List Int).map Qac)), (.own 1 [[(.fn (.func 70) [] [])]]), (.own 1 [[(.dat 4 ((p5 : List GNode).map Qaa))]])]⟩) (fun y12 h => ?_) ?_
     ·subst hk_k13
      obtain ⟨x14, hl15, h⟩ := bno h
      refine wrg [mv 19 (I (w64 (x5 + p2))), mv 20 (I y12), rp [(.tmp 175, (I (w64 (x5 + p2)))), (.tmp 176, I y12)] (I (w64 ((w64 (x5 + p2)) - y12))), rp [(.tmp 177, (I (w64 ((w64 (x5 + p2)) - y12))))] (I x14)] ?_ ?_
      ·exact ⟨amv rfl, amv rfl, abn rfl rfl, Qe2 hl15 (aas rfl), trivial⟩
      obtain ⟨k17, hk_k17, h⟩ := jko h
      refine wjn (τ := (List Int)) (fun t => k17 t = some r) (fun y16 => ⟨mk 220 [(0, (.own 0 1 (0) (p0))), (1, I p1), (3, I p3), (4, (.fn (.func 96) [] [.ref 1 1 0 0, .ref 2 1 0 0])), (18, I x5), (20, I y12), (24, I x14)], [(.own 1 ((y16 : List Int).map Qac)), (.own 1 [[(.fn (.func 70) [] [])]]), (.own 1 [[(.dat 4 ((p5 : List GNode).map Qaa))]])]⟩) (fun y16 h => ?_) ?_
      ·subst hk_k17
       obtain ⟨k19, hk_k19, h⟩ := jko h
       refine wjn (τ := (List Int)) (fun t => k19 t = some r) (fun y18 => ⟨mk 220 [(0, (.own 0 1 (0) (p0))), (3, I p3), (4, (.fn (.func 96) [] [.ref 1 1 0 0, .ref 2 1 0 0])), (18, I x5), (24, I x14)], [(.own 1 ((y18 : List Int).map Qac)), (.own 1 [[(.fn (.func 70) [] [])]]), (.own 1 [[(.dat 4 ((p5 : List GNode).map Qaa))]])]⟩) (fun y18 h => ?_) ?_
       ·subst hk_k19
        rcases bft ((decide (x5 < x14))) with hb20 | hb20
        ·replace h := Qav hb20 h
         refine wrg [mv 18 (I x5), mv 24 (I x14), rp [(.tmp 206, I x5), (.tmp 207, I x14)] (B ((decide (x5 < x14)))), rp [(.tmp 208, (B ((decide (x5 < x14)))))] (B true), rp [(.tmp 209, B true), (.tmp 24, I x14)] (I x14), rp [(.tmp 209, B true), (.tmp 3, I p3)] (I p3), rp [(.tmp 209, B true), (.tmp 210, I x14), (.tmp 211, I p3)] (B ((decide (x14 < p3)))), rp [(.tmp 209, B true), (.tmp 212, (B ((decide (x14 < p3))))), cb false] (B ((decide (x14 < p3))))] ?_ ?_
         ·exact ⟨amv rfl, amv rfl, abn rfl rfl, asb hb20 (amv rfl), ag_ (amv rfl), ag_ (amv rfl), ag_ (abn rfl rfl), apk rfl rfl, trivial⟩
         rcases bft ((decide (x14 < p3))) with hc21 | hc21
         ·replace h := Qav hc21 h
          refine wft hc21 (by kernel_rfl) ?_
          obtain ⟨x23, hf22, h⟩ := bno h
          refine Qar [mv 0 (.own 0 1 (0) (p0)), mv 18 (I x5), mv 24 (I x14), mv 3 (I p3), mv 4 (.fn (.func 96) [] [.ref 1 1 0 0, .ref 2 1 0 0]), ⟨[fu 115, (.tmp 214, (.own 0 1 (0) (p0))), (.tmp 215, I x5), (.tmp 216, I x14), (.tmp 217, I p3), (.tmp 218, (.fn (.func 96) [] [.ref 1 1 0 0, .ref 2 1 0 0]))], [(0, (.own 1 ((y18 : List Int).map Qac))), (1, (.own 1 [[(.fn (.func 70) [] [])]])), (2, (.own 1 [[(.dat 4 ((p5 : List GNode).map Qaa))]]))], (.tup []), [(0, (.own 1 ((x23 : List Int).map Qac))), (1, (.own 1 [[(.fn (.func 70) [] [])]])), (2, (.own 1 [[(.dat 4 ((p5 : List GNode).map Qaa))]]))], false⟩] ?_ ?_
          ·exact ⟨amv rfl, amv rfl, amv rfl, amv rfl, amv rfl, Qa4 (first := []) (cap := []) (vs := [(.own 0 1 (0) (p0)), I x5, I x14, I p3, (.fn (.func 96) [] [.ref 1 1 0 0, .ref 2 1 0 0])]) (σr := [(.own 1 ((y18 : List Int).map Qac)), (.own 1 [[(.fn (.func 70) [] [])]]), (.own 1 [[(.dat 4 ((p5 : List GNode).map Qaa))]])]) (σr' := [(.own 1 ((x23 : List Int).map Qac)), (.own 1 [[(.fn (.func 70) [] [])]]), (.own 1 [[(.dat 4 ((p5 : List GNode).map Qaa))]])]) (res' := (.tup [])) [0, 1, 2] rfl enter115 (ihX p0 x5 x14 p3 y18 p5 _ hf22) rfl (Qc3 (rnc (Qen rfl) (rnc (.plain _ nll) (rnc (.plain _ nll) (rnc (.plain _ nll) (rnc (Qa2 rn0 (rnc (Qbz rfl) (rnc (Qbz rfl) rn0))) rn0)))))) (slc (Qby Qaf) (slc (Qat (rnc (.plain _ (NLt.fn _ _ _ nl0 nl0)) rn0)) (slc (Qat (rnc (.plain _ (nld Qag _)) rn0)) Qa0))) (slc (Qby Qaf) (slc (Qat (rnc (.plain _ (NLt.fn _ _ _ nl0 nl0)) rn0)) (slc (Qat (rnc (.plain _ (nld Qag _)) rn0)) Qa0))) (.plain _ (NLt.tup _ nl0)) rfl rfl rfl, trivial⟩
          obtain rfl := osi h
          exact ⟨_, (mto (n := 220) (l' := []) (own' := [(.own 1 ((x23 : List Int).map Qac)), (.own 1 [[(.fn (.func 70) [] [])]]), (.own 1 [[(.dat 4 ((p5 : List GNode).map Qaa))]])]) [] [0, 1, 2] [(.own 1 ((x23 : List Int).map Qac)), (.own 1 [[(.fn (.func 70) [] [])]]), (.own 1 [[(.dat 4 ((p5 : List GNode).map Qaa))]])] hφ0 pn (qc (spr Qaf) (qc (spb (lc (.rn (Qa2 rn0 rn0)) ln)) (qc (spb (lc (.rn (.plain _ (nld Qag _))) ln)) qn)))), Qc0 (vs := []) trivial rfl (NLt.tup _ nl0) (by kernel_rfl) (Qay (Qd0 Qaf _) (Qay (Qb2 (nlc (NLt.of0 (NLt.fn _ _ _ nl0 nl0)) nl0)) (Qay (Qb2 (nlc (NLt.of0 (nld Qag _)) nl0)) Qbx)))⟩
         ·replace h := Qaw hc21 h
          refine wfn hc21 (by kernel_rfl) ?_
          refine Qam ?_
          obtain rfl := osi h
          exact ⟨_, (mto (n := 220) (l' := []) (own' := [(.own 1 ((y18 : List Int).map Qac)), (.own 1 [[(.fn (.func 70) [] [])]]), (.own 1 [[(.dat 4 ((p5 : List GNode).map Qaa))]])]) [] [0, 1, 2] [(.own 1 ((y18 : List Int).map Qac)), (.own 1 [[(.fn (.func 70) [] [])]]), (.own 1 [[(.dat 4 ((p5 : List GNode).map Qaa))]])] hφ0 pn (qc (spr Qaf) (qc (spb (lc (.rn (Qa2 rn0 rn0)) ln)) (qc (spb (lc (.rn (.plain _ (nld Qag _))) ln)) qn)))), Qc0 (vs := []) trivial rfl (NLt.tup _ nl0) (by kernel_rfl) (Qay (Qd0 Qaf _) (Qay (Qb2 (nlc (NLt.of0 (NLt.fn _ _ _ nl0 nl0)) nl0)) (Qay (Qb2 (nlc (NLt.of0 (nld Qag _)) nl0)) Qbx)))⟩
        ·replace h := Qaw hb20 h
         refine wrg [mv 18 (I x5), mv 24 (I x14), rp [(.tmp 206, I x5), (.tmp 207, I x14)] (B ((decide (x5 < x14)))), rp [(.tmp 208, (B ((decide (x5 < x14)))))] (B false), sk 209 (B false), sk 209 (B false), sk 209 (B false), rp [(.tmp 209, B false), (.tmp 212, (.lit undef)), cb false] (B false)] ?_ ?_
         ·exact ⟨amv rfl, amv rfl, abn rfl rfl, asb hb20 (amv rfl), trivial, trivial, trivial, apk rfl rfl, trivial⟩
         refine Qey (by kernel_rfl) ?_
         refine Qam ?_
         obtain rfl := osi h
         exact ⟨_, (mto (n := 220) (l' := []) (own' := [(.own 1 ((y18 : List Int).map Qac)), (.own 1 [[(.fn (.func 70) [] [])]]), (.own 1 [[(.dat 4 ((p5 : List GNode).map Qaa))]])]) [] [0, 1, 2] [(.own 1 ((y18 : List Int).map Qac)), (.own 1 [[(.fn (.func 70) [] [])]]), (.own 1 [[(.dat 4 ((p5 : List GNode).map Qaa))]])] hφ0 pn (qc (spr Qaf) (qc (spb (lc (.rn (Qa2 rn0 rn0)) ln)) (qc (spb (lc (.rn (.plain _ (nld Qag _))) ln)) qn)))), Qc0 (vs := []) trivial rfl (NLt.tup _ nl0) (by kernel_rfl) (Qay (Qd0 Qaf _) (Qay (Qb2 (nlc (NLt.of0 (NLt.fn _ _ _ nl0 nl0)) nl0)) (Qay (Qb2 (nlc (NLt.of0 (nld Qag _)) nl0)) Qbx)))⟩
       ·skip
        rcases bft ((decide (p1 < y12))) with hb24 | hb24
        ·replace h := Qav hb24 h
         refine wrg [mv 1 (I p1), mv 20 (I y12), rp [(.tmp 192, I p1), (.tmp 193, I y12)] (B ((decide (p1 < y12)))), rp [(.tmp 194, (B ((decide (p1 < y12)))))] (B true), rp [(.tmp 195, B true), (.tmp 20, I y12)] (I y12), rp [(.tmp 195, B true), (.tmp 18, I x5)] (I x5), rp [(.tmp 195, B true), (.tmp 196, I y12), (.tmp 197, I x5)] (B ((decide (y12 < x5)))), rp [(.tmp 195, B true), (.tmp 198, (B ((decide (y12 < x5))))), cb false] (B ((decide (y12 < x5))))] ?_ ?_
         ·exact ⟨amv rfl, amv rfl, abn rfl rfl, asb hb24 (amv rfl), ag_ (amv rfl), ag_ (amv rfl), ag_ (abn rfl rfl), apk rfl rfl, trivial⟩
         rcases bft ((decide (y12 < x5))) with hc25 | hc25
         ·replace h := Qav hc25 h
          refine wft hc25 (by kernel_rfl) ?_
          obtain ⟨x27, hf26, h⟩ := bno h
          refine Qar [mv 0 (.own 0 1 (0) (p0)), mv 1 (I p1), mv 20 (I y12), mv 18 (I x5), mv 4 (.fn (.func 96) [] [.ref 1 1 0 0, .ref 2 1 0 0]), ⟨[fu 115, (.tmp 200, (.own 0 1 (0) (p0))), (.tmp 201, I p1), (.tmp 202, I y12), (.tmp 203, I x5), (.tmp 204, (.fn (.func 96) [] [.ref 1 1 0 0, .ref 2 1 0 0]))], [(0, (.own 1 ((y16 : List Int).map Qac))), (1, (.own 1 [[(.fn (.func 70) [] [])]])), (2, (.own 1 [[(.dat 4 ((p5 : List GNode).map Qaa))]]))], (.tup []), [(0, (.own 1 ((x27 : List Int).map Qac))), (1, (.own 1 [[(.fn (.func 70) [] [])]])), (2, (.own 1 [[(.dat 4 ((p5 : List GNode).map Qaa))]]))], false⟩] ?_ ?_
          ·exact ⟨amv rfl, amv rfl, amv rfl, amv rfl, amv rfl, Qa4 (first := []) (cap := []) (vs := [(.own 0 1 (0) (p0)), I p1, I y12, I x5, (.fn (.func 96) [] [.ref 1 1 0 0, .ref 2 1 0 0])]) (σr := [(.own 1 ((y16 : List Int).map Qac)), (.own 1 [[(.fn (.func 70) [] [])]]), (.own 1 [[(.dat 4 ((p5 : List GNode).map Qaa))]])]) (σr' := [(.own 1 ((x27 : List Int).map Qac)), (.own 1 [[(.fn (.func 70) [] [])]]), (.own 1 [[(.dat 4 ((p5 : List GNode).map Qaa))]])]) (res' := (.tup [])) [0, 1, 2] rfl enter115 (ihX p0 p1 y12 x5 y16 p5 _ hf26) rfl (Qc3 (rnc (Qen rfl) (rnc (.plain _ nll) (rnc (.plain _ nll) (rnc (.plain _ nll) (rnc (Qa2 rn0 (rnc (Qbz rfl) (rnc (Qbz rfl) rn0))) rn0)))))) (slc (Qby Qaf) (slc (Qat (rnc (.plain _ (NLt.fn _ _ _ nl0 nl0)) rn0)) (slc (Qat (rnc (.plain _ (nld Qag _)) rn0)) Qa0))) (slc (Qby Qaf) (slc (Qat (rnc (.plain _ (NLt.fn _ _ _ nl0 nl0)) rn0)) (slc (Qat (rnc (.plain _ (nld Qag _)) rn0)) Qa0))) (.plain _ (NLt.tup _ nl0)) rfl rfl rfl, trivial⟩
          refine thn ?_
          exact ⟨(x27), h, (mto (n := 220) [(0, (.own 0 1 (0) (p0))), (3, I p3), (4, (.fn (.func 96) [] [.ref 1 1 0 0, .ref 2 1 0 0])), (18, I x5), (24, I x14)] [0, 1, 2] [(.own 1 ((x27 : List Int).map Qac)), (.own 1 [[(.fn (.func 70) [] [])]]), (.own 1 [[(.dat 4 ((p5 : List GNode).map Qaa))]])] hφ0 (pc (.rn (Qaj rfl)) (pc rwl (pc (.rn (Qa2 rn0 (rnc (rqr rfl) (rnc (rqr rfl) rn0)))) (pc rwl (pc rwl pn))))) (qc (spr Qaf) (qc (spb (lc (.rn (Qa2 rn0 rn0)) ln)) (qc (spb (lc (.rn (.plain _ (nld Qag _))) ln)) qn))))⟩
         ·replace h := Qaw hc25 h
          refine wfn hc25 (by kernel_rfl) ?_
          refine Qam ?_
          refine thn ?_
          exact ⟨(y16), h, (mto (n := 220) [(0, (.own 0 1 (0) (p0))), (3, I p3), (4, (.fn (.func 96) [] [.ref 1 1 0 0, .ref 2 1 0 0])), (18, I x5), (24, I x14)] [0, 1, 2] [(.own 1 ((y16 : List Int).map Qac)), (.own 1 [[(.fn (.func 70) [] [])]]), (.own 1 [[(.dat 4 ((p5 : List GNode).map Qaa))]])] hφ0 (pc (.rn (Qaj rfl)) (pc rwl (pc (.rn (Qa2 rn0 (rnc (rqr rfl) (rnc (rqr rfl) rn0)))) (pc rwl (pc rwl pn))))) (qc (spr Qaf) (qc (spb (lc (.rn (Qa2 rn0 rn0)) ln)) (qc (spb (lc (.rn (.plain _ (nld Qag _))) ln)) qn))))⟩
        ·replace h := Qaw hb24 h
         refine wrg [mv 1 (I p1), mv 20 (I y12), rp [(.tmp 192, I p1), (.tmp 193, I y12)] (B ((decide (p1 < y12)))), rp [(.tmp 194, (B ((decide (p1 < y12)))))] (B false), sk 195 (B false), sk 195 (B false), sk 195 (B false), rp [(.tmp 195, B false), (.tmp 198, (.lit undef)), cb false] (B false)] ?_ ?_
         ·exact ⟨amv rfl, amv rfl, abn rfl rfl, asb hb24 (amv rfl), trivial, trivial, trivial, apk rfl rfl, trivial⟩
         refine Qey (by kernel_rfl) ?_
         refine Qam ?_
         refine thn ?_
         exact ⟨(y16), h, (mto (n := 220) [(0, (.own 0 1 (0) (p0))), (3, I p3), (4, (.fn (.func 96) [] [.ref 1 1 0 0, .ref 2 1 0 0])), (18, I x5), (24, I x14)] [0, 1, 2] [(.own 1 ((y16 : List Int).map Qac)), (.own 1 [[(.fn (.func 70) [] [])]]), (.own 1 [[(.dat 4 ((p5 : List GNode).map Qaa))]])] hφ0 (pc (.rn (Qaj rfl)) (pc rwl (pc (.rn (Qa2 rn0 (rnc (rqr rfl) (rnc (rqr rfl) rn0)))) (pc rwl (pc rwl pn))))) (qc (spr Qaf) (qc (spb (lc (.rn (Qa2 rn0 rn0)) ln)) (qc (spb (lc (.rn (.plain _ (nld Qag _))) ln)) qn))))⟩
      ·skip
       rcases bft ((decide (y12 < p2))) with hb28 | hb28
       ·replace h := Qav hb28 h
        refine wrg [mv 20 (I y12), mv 2 (I p2), rp [(.tmp 178, I y12), (.tmp 179, I p2)] (B ((decide (y12 < p2)))), rp [(.tmp 180, (B ((decide (y12 < p2)))))] (B true), rp [(.tmp 181, B true), (.tmp 2, I p2)] (I p2), rp [(.tmp 181, B true), (.tmp 24, I x14)] (I x14), rp [(.tmp 181, B true), (.tmp 182, I p2), (.tmp 183, I x14)] (B ((decide (p2 < x14)))), rp [(.tmp 181, B true), (.tmp 184, (B ((decide (p2 < x14))))), cb false] (B ((decide (p2 < x14))))] ?_ ?_
        ·exact ⟨amv rfl, amv rfl, abn rfl rfl, asb hb28 (amv rfl), ag_ (amv rfl), ag_ (amv rfl), ag_ (abn rfl rfl), apk rfl rfl, trivial⟩
        rcases bft ((decide (p2 < x14))) with hc29 | hc29
        ·replace h := Qav hc29 h
         refine wft hc29 (by kernel_rfl) ?_
         obtain ⟨x31, hf30, h⟩ := bno h
         refine Qar [mv 0 (.own 0 1 (0) (p0)), mv 20 (I y12), mv 2 (I p2), mv 24 (I x14), mv 4 (.fn (.func 96) [] [.ref 1 1 0 0, .ref 2 1 0 0]), ⟨[fu 117, (.tmp 186, (.own 0 1 (0) (p0))), (.tmp 187, I y12), (.tmp 188, I p2), (.tmp 189, I x14), (.tmp 190, (.fn (.func 96) [] [.ref 1 1 0 0, .ref 2 1 0 0]))], [(0, (.own 1 ((p4 : List Int).map Qac))), (1, (.own 1 [[(.fn (.func 70) [] [])]])), (2, (.own 1 [[(.dat 4 ((p5 : List GNode).map Qaa))]]))], (.tup []), [(0, (.own 1 ((x31 : List Int).map Qac))), (1, (.own 1 [[(.fn (.func 70) [] [])]])), (2, (.own 1 [[(.dat 4 ((p5 : List GNode).map Qaa))]]))], false⟩] ?_ ?_
         ·exact ⟨amv rfl, amv rfl, amv rfl, amv rfl, amv rfl, Qa4 (first := []) (cap := []) (vs := [(.own 0 1 (0) (p0)), I y12, I p2, I x14, (.fn (.func 96) [] [.ref 1 1 0 0, .ref 2 1 0 0])]) (σr := [(.own 1 ((p4 : List Int).map Qac)), (.own 1 [[(.fn (.func 70) [] [])]]), (.own 1 [[(.dat 4 ((p5 : List GNode).map Qaa))]])]) (σr' := [(.own 1 ((x31 : List Int).map Qac)), (.own 1 [[(.fn (.func 70) [] [])]]), (.own 1 [[(.dat 4 ((p5 : List GNode).map Qaa))]])]) (res' := (.tup [])) [0, 1, 2] rfl enter117 (Qgc N p0 y12 p2 x14 p4 p5 _ hf30) rfl (Qc3 (rnc (Qen rfl) (rnc (.plain _ nll) (rnc (.plain _ nll) (rnc (.plain _ nll) (rnc (Qa2 rn0 (rnc (Qbz rfl) (rnc (Qbz rfl) rn0))) rn0)))))) (slc (Qby Qaf) (slc (Qat (rnc (.plain _ (NLt.fn _ _ _ nl0 nl0)) rn0)) (slc (Qat (rnc (.plain _ (nld Qag _)) rn0)) Qa0))) (slc (Qby Qaf) (slc (Qat (rnc (.plain _ (NLt.fn _ _ _ nl0 nl0)) rn0)) (slc (Qat (rnc (.plain _ (nld Qag _)) rn0)) Qa0))) (.plain _ (NLt.tup _ nl0)) rfl rfl rfl, trivial⟩
         refine thn ?_
         exact ⟨(x31), h, (mto (n := 220) [(0, (.own 0 1 (0) (p0))), (1, I p1), (3, I p3), (4, (.fn (.func 96) [] [.ref 1 1 0 0, .ref 2 1 0 0])), (18, I x5), (20, I y12), (24, I x14)] [0, 1, 2] [(.own 1 ((x31 : List Int).map Qac)), (.own 1 [[(.fn (.func 70) [] [])]]), (.own 1 [[(.dat 4 ((p5 : List GNode).map Qaa))]])] hφ0 (pc (.rn (Qaj rfl)) (pc rwl (pc rwl (pc (.rn (Qa2 rn0 (rnc (rqr rfl) (rnc (rqr rfl) rn0)))) (pc rwl (pc rwl (pc rwl pn))))))) (qc (spr Qaf) (qc (spb (lc (.rn (Qa2 rn0 rn0)) ln)) (qc (spb (lc (.rn (.plain _ (nld Qag _))) ln)) qn))))⟩
        ·replace h := Qaw hc29 h
         refine wfn hc29 (by kernel_rfl) ?_
         refine Qam ?_
         refine thn ?_
         exact ⟨(p4), h, (mto (n := 220) [(0, (.own 0 1 (0) (p0))), (1, I p1), (3, I p3), (4, (.fn (.func 96) [] [.ref 1 1 0 0, .ref 2 1 0 0])), (18, I x5), (20, I y12), (24, I x14)] [0, 1, 2] [(.own 1 ((p4 : List Int).map Qac)), (.own 1 [[(.fn (.func 70) [] [])]]), (.own 1 [[(.dat 4 ((p5 : List GNode).map Qaa))]])] hφ0 (pc (.rn (Qaj rfl)) (pc rwl (pc rwl (pc (.rn (Qa2 rn0 (rnc (rqr rfl) (rnc (rqr rfl) rn0)))) (pc rwl (pc rwl (pc rwl pn))))))) (qc (spr Qaf) (qc (spb (lc (.rn (Qa2 rn0 rn0)) ln)) (qc (spb (lc (.rn (.plain _ (nld Qag _))) ln)) qn))))⟩
       ·replace h := Qaw hb28 h
        refine wrg [mv 20 (I y12), mv 2 (I p2), rp [(.tmp 178, I y12), (.tmp 179, I p2)] (B ((decide (y12 < p2)))), rp [(.tmp 180, (B ((decide (y12 < p2)))))] (B false), sk 181 (B false), sk 181 (B false), sk 181 (B false), rp [(.tmp 181, B false), (.tmp 184, (.lit undef)), cb false] (B false)] ?_ ?_
        ·exact ⟨amv rfl, amv rfl, abn rfl rfl, asb hb28 (amv rfl), trivial, trivial, trivial, apk rfl rfl, trivial⟩
        refine Qey (by kernel_rfl) ?_
        refine Qam ?_
        refine thn ?_
        exact ⟨(p4), h, (mto (n := 220) [(0, (.own 0 1 (0) (p0))), (1, I p1), (3, I p3), (4, (.fn (.func 96) [] [.ref 1 1 0 0, .ref 2 1 0 0])), (18, I x5), (20, I y12), (24, I x14)] [0, 1, 2] [(.own 1 ((p4 : List Int).map Qac)), (.own 1 [[(.fn (.func 70) [] [])]]), (.own 1 [[(.dat 4 ((p5 : List GNode).map Qaa))]])] hφ0 (pc (.rn (Qaj rfl)) (pc rwl (pc rwl (pc (.rn (Qa2 rn0 (rnc (rqr rfl) (rnc (rqr rfl) rn0)))) (pc rwl (pc rwl (pc rwl pn))))))) (qc (spr Qaf) (qc (spb (lc (.rn (Qa2 rn0 rn0)) ln)) (qc (spb (lc (.rn (.plain _ (nld Qag _))) ln)) qn))))⟩
     ·skip
      refine Qan ?_
      refine wmr (mto (n := 220) (l' := [(0, (.own 0 1 (0) (p0))), (1, I p1), (2, I p2), (3, I p3), (4, (.fn (.func 96) [] [.ref 1 1 0 0, .ref 2 1 0 0])), (18, I x5), (19, (I (w64 (x5 + p2)))), (20, I y7), (21, I y8), (22, I x10)]) (own' := [(.own 1 ((p4 : List Int).map Qac)), (.own 1 [[(.fn (.func 70) [] [])]]), (.own 1 [[(.dat 4 ((p5 : List GNode).map Qaa))]])]) [(0, (.own 0 1 (0) (p0))), (1, I p1), (2, I p2), (3, I p3), (4, (.fn (.func 96) [] [.ref 1 1 0 0, .ref 2 1 0 0])), (18, I x5), (19, (I (w64 (x5 + p2)))), (20, I y7), (21, I y8), (22, I x10)] [0, 1, 2] [(.own 1 ((p4 : List Int).map Qac)), (.own 1 [[(.fn (.func 70) [] [])]]), (.own 1 [[(.dat 4 ((p5 : List GNode).map Qaa))]])] hφ0 (pc (.rn (Qaj rfl)) (pc rwl (pc rwl (pc rwl (pc (.rn (Qa2 rn0 (rnc (rqr rfl) (rnc (rqr rfl) rn0)))) (pc rwl (pc rwl (pc rwl (pc rwl (pc rwl pn)))))))))) (qc (spr Qaf) (qc (spb (lc (.rn (Qa2 rn0 rn0)) ln)) (qc (spb (lc (.rn (.plain _ (nld Qag _))) ln)) qn)))) ?_
      refine Qcc (τ := Int × Int) (fun n t => Qbj N p0 p4 p5 x10 k13 n t.1 t.2 = some r) (fun ⟨y32, y33⟩ => ⟨mk 220 [(0, (.own 0 1 (0) (p0))), (1, I p1), (2, I p2), (3, I p3), (4, (.fn (.func 96) [] [.ref 1 1 0 0, .ref 2 1 0 0])), (18, I x5), (19, (I (w64 (x5 + p2)))), (20, I y32), (21, I y33), (22, I x10)], [(.own 1 ((p4 : List Int).map Qac)), (.own 1 [[(.fn (.func 70) [] [])]]), (.own 1 [[(.dat 4 ((p5 : List GNode).map Qaa))]])]⟩) (fun t h => by rw [Qbj] at h; cases h) (fun n36 ih t h => ?_) N (y7, y8) h
      obtain ⟨y32, y33⟩ := t
      rw [Qbj] at h
      skip
      refine wsq ?_
      refine wrg [mv 20 (I y32), mv 21 (I y33), rp [(.tmp 149, I y32), (.tmp 150, I y33)] (B ((decide (y32 < y33))))] ?_ ?_
      ·exact ⟨amv rfl, amv rfl, abn rfl rfl, trivial⟩
      rcases bft ((decide (y32 < y33))) with hc37 | hc37
      ·replace h := Qav hc37 h
       refine wft hc37 (by kernel_rfl) ?_
       refine Qam ?_
       refine thn ?_
       refine Qan ?_
       obtain ⟨x38, hl39, h⟩ := bno h
       refine wrg [mv 20 (I y32), mv 21 (I y33), rp [(.tmp 152, I y32), (.tmp 153, I y33)] (I (w64 (y32 + y33))), rp [(.tmp 154, (I (w64 (y32 + y33))))] (K .u64 (IntKind.wrap .u64 (w64 (y32 + y33)))), rp [(.tmp 155, (K .u64 (IntKind.wrap .u64 (w64 (y32 + y33))))), (.const (.int .u64 1), (K .u64 (1)))] (K .u64 ((IntKind.wrap .u64 (w64 (y32 + y33))) / 2)), rp [(.tmp 156, (K .u64 ((IntKind.wrap .u64 (w64 (y32 + y33))) / 2)))] (I (w64 ((IntKind.wrap .u64 (w64 (y32 + y33))) / 2))), rp [(.tmp 157, (I (w64 ((IntKind.wrap .u64 (w64 (y32 + y33))) / 2))))] (I x38)] ?_ ?_
       ·exact ⟨amv rfl, amv rfl, abn rfl rfl, acv rfl (by rw [Try.underlying3]; rfl) Try.underlying112, Qiw rfl (by decide) (by decide), acv rfl (by rw [Try.underlying112]; rfl) Try.underlying3, Qe2 hl39 (aas rfl), trivial⟩
       obtain ⟨hi40, h⟩ := cko h
       obtain ⟨hi40a, hi40b⟩ := Qba hi40
       obtain ⟨x41, hg42, h⟩ := bno h
       obtain ⟨hi43, h⟩ := cko h
       obtain ⟨hi43a, hi43b⟩ := Qba hi43
       obtain ⟨x44, hg45, h⟩ := bno h
       obtain ⟨x47, hf46, h⟩ := bno h
       refine Qct [mv 4 (.fn (.func 96) [] [.ref 1 1 0 0, .ref 2 1 0 0]), mv 0 (.own 0 1 (0) (p0)), mv 22 (I x10), mv 23 (I x38), rp [(.tmp 160, I x10), (.tmp 161, I x38)] (I (w64 (x10 - x38))), rb [(.tmp 159, (.own 0 1 (0) (p0))), (.tmp 162, (I (w64 (x10 - x38))))] [(0, (.own 1 ((p4 : List Int).map Qac)))] (.ref 0 1 ((w64 (x10 - x38)).toNat) 0), rb [(.tmp 163, (.ref 0 1 ((w64 (x10 - x38)).toNat) 0))] [(0, (.own 1 ((p4 : List Int).map Qac)))] (I x41), mv 0 (.own 0 1 (0) (p0)), mv 23 (I x38), rb [(.tmp 165, (.own 0 1 (0) (p0))), (.tmp 166, I x38)] [(0, (.own 1 ((p4 : List Int).map Qac)))] (.ref 0 1 (x38.toNat) 0), rb [(.tmp 167, (.ref 0 1 (x38.toNat) 0))] [(0, (.own 1 ((p4 : List Int).map Qac)))] (I x44), ⟨[(.tmp 158, (.fn (.func 96) [] [.ref 1 1 0 0, .ref 2 1 0 0])), (.tmp 164, I x41), (.tmp 168, I x44)], [(1, (.own 1 [[(.fn (.func 70) [] [])]])), (2, (.own 1 [[(.dat 4 ((p5 : List GNode).map Qaa))]]))], I x47, [(1, (.own 1 [[(.fn (.func 70) [] [])]])), (2, (.own 1 [[(.dat 4 ((p5 : List GNode).map Qaa))]]))], false⟩, rp [(.tmp 169, I x47), ci 0] (B ((decide (x47 < 0)))), rp [(.tmp 170, (B ((decide (x47 < 0)))))] (B ((!(decide (x47 < 0)))))] ?_ ?_
       ·exact ⟨amv rfl, amv rfl, amv rfl, amv rfl, abn rfl rfl, aio rfl Try.underlying23 ti3 (odt hi40a) (odt hi40b) (Nat.zero_add _), ald rfl ti3 (by decide) (mgt Qac hg42) (nle rfl) rfl, amv rfl, amv rfl, aio rfl Try.underlying23 ti3 (odt hi43a) (odt hi43b) (Nat.zero_add _), ald rfl ti3 (by decide) (mgt Qac hg45) (nle rfl) rfl, Qa4 (first := []) (cap := [.ref 1 1 0 0, .ref 2 1 0 0]) (vs := [I x41, I x44]) (σr := [(.own 1 [[(.fn (.func 70) [] [])]]), (.own 1 [[(.dat 4 ((p5 : List GNode).map Qaa))]])]) (σr' := [(.own 1 [[(.fn (.func 70) [] [])]]), (.own 1 [[(.dat 4 ((p5 : List GNode).map Qaa))]])]) (res' := (I x47)) [1, 2] rfl enter96 (Qc9 N x41 x44 p5 _ hf46) rfl (Qc3 (rnc (.plain _ nll) (rnc (.plain _ nll) (rnc (Qbz rfl) (rnc (Qbz rfl) rn0))))) (slc (Qat (rnc (.plain _ (NLt.fn _ _ _ nl0 nl0)) rn0)) (slc (Qat (rnc (.plain _ (nld Qag _)) rn0)) Qa0)) (slc (Qat (rnc (.plain _ (NLt.fn _ _ _ nl0 nl0)) rn0)) (slc (Qat (rnc (.plain _ (nld Qag _)) rn0)) Qa0)) (.plain _ nll) rfl rfl rfl, abn rfl rfl, Qap rfl, trivial⟩
       rcases bft ((!(decide (x47 < 0)))) with hc48 | hc48
       ·replace h := Qav hc48 h
        refine wft hc48 (by kernel_rfl) ?_
        refine Qar [mv 23 (I x38), rp [(.tmp 172, I x38), ci 1] (I (w64 (x38 + 1))), mv 173 (I (w64 (x38 + 1)))] ?_ ?_
        ·exact ⟨amv rfl, abn rfl rfl, aas rfl, trivial⟩
        refine bln ?_
        refine thn ?_
        exact arm (mto (n := 220) [(0, (.own 0 1 (0) (p0))), (1, I p1), (2, I p2), (3, I p3), (4, (.fn (.func 96) [] [.ref 1 1 0 0, .ref 2 1 0 0])), (18, I x5), (19, (I (w64 (x5 + p2)))), (20, (I (w64 (x38 + 1)))), (21, I y33), (22, I x10)] [0, 1, 2] [(.own 1 ((p4 : List Int).map Qac)), (.own 1 [[(.fn (.func 70) [] [])]]), (.own 1 [[(.dat 4 ((p5 : List GNode).map Qaa))]])] hφ0 (pc (.rn (Qaj rfl)) (pc rwl (pc rwl (pc rwl (pc (.rn (Qa2 rn0 (rnc (rqr rfl) (rnc (rqr rfl) rn0)))) (pc rwl (pc rwl (pc rwl (pc rwl (pc rwl pn)))))))))) (qc (spr Qaf) (qc (spb (lc (.rn (Qa2 rn0 rn0)) ln)) (qc (spb (lc (.rn (.plain _ (nld Qag _))) ln)) qn)))) (ih (w64 (x38 + 1), y33) h)
       ·replace h := Qaw hc48 h
        refine wfn hc48 (by kernel_rfl) ?_
        refine Qar [mv 23 (I x38), mv 174 (I x38)] ?_ ?_
        ·exact ⟨amv rfl, aas rfl, trivial⟩
        refine bln ?_
        refine thn ?_
        exact arm (mto (n := 220) [(0, (.own 0 1 (0) (p0))), (1, I p1), (2, I p2), (3, I p3), (4, (.fn (.func 96) [] [.ref 1 1 0 0, .ref 2 1 0 0])), (18, I x5), (19, (I (w64 (x5 + p2)))), (20, I y32), (21, I x38), (22, I x10)] [0, 1, 2] [(.own 1 ((p4 : List Int).map Qac)), (.own 1 [[(.fn (.func 70) [] [])]]), (.own 1 [[(.dat 4 ((p5 : List GNode).map Qaa))]])] hφ0 (pc (.rn (Qaj rfl)) (pc rwl (pc rwl (pc rwl (pc (.rn (Qa2 rn0 (rnc (rqr rfl) (rnc (rqr rfl) rn0)))) (pc rwl (pc rwl (pc rwl (pc rwl (pc rwl pn)))))))))) (qc (spr Qaf) (qc (spb (lc (.rn (Qa2 rn0 rn0)) ln)) (qc (spb (lc (.rn (.plain _ (nld Qag _))) ln)) qn)))) (ih (y32, x38) h)
      ·replace h := Qaw hc37 h
       refine wfn hc37 (by kernel_rfl) ?_
       refine Qbf ?_
       refine Qau ?_
       refine Qau ?_
       refine Qbe rfl ?_
       refine thn ?_
       exact ⟨(y32), h, (mto (n := 220) [(0, (.own 0 1 (0) (p0))), (1, I p1), (2, I p2), (3, I p3), (4, (.fn (.func 96) [] [.ref 1 1 0 0, .ref 2 1 0 0])), (18, I x5), (19, (I (w64 (x5 + p2)))), (20, I y32)] [0, 1, 2] [(.own 1 ((p4 : List Int).map Qac)), (.own 1 [[(.fn (.func 70) [] [])]]), (.own 1 [[(.dat 4 ((p5 : List GNode).map Qaa))]])] hφ0 (pc (.rn (Qaj rfl)) (pc rwl (pc rwl (pc rwl (pc (.rn (Qa2 rn0 (rnc (rqr rfl) (rnc (rqr rfl) rn0)))) (pc rwl (pc rwl (pc rwl pn)))))))) (qc (spr Qaf) (qc (spb (lc (.rn (Qa2 rn0 rn0)) ln)) (qc (spb (lc (.rn (.plain _ (nld Qag _))) ln)) qn))))⟩
    ·skip
     refine wrg [mv 2 (I p2), mv 18 (I x5), rp [(.tmp 138, I p2), (.tmp 139, I x5)] (B ((decide (p2 > x5))))] ?_ ?_
     ·exact ⟨amv rfl, amv rfl, abn rfl rfl, trivial⟩
     rcases bft ((decide (p2 > x5))) with hc49 | hc49
     ·replace h := Qav hc49 h
      refine wft hc49 (by kernel_rfl) ?_
      obtain ⟨x50, hl51, h⟩ := bno h
      refine wrg [mv 19 (I (w64 (x5 + p2))), mv 3 (I p3), rp [(.tmp 141, (I (w64 (x5 + p2)))), (.tmp 142, I p3)] (I (w64 ((w64 (x5 + p2)) - p3))), rp [(.tmp 143, (I (w64 ((w64 (x5 + p2)) - p3))))] (I x50)] ?_ ?_
      ·exact ⟨amv rfl, amv rfl, abn rfl rfl, Qe2 hl51 (aas rfl), trivial⟩
      refine Qar [mv 18 (I x5), mv 144 (I x5)] ?_ ?_
      ·exact ⟨amv rfl, aas rfl, trivial⟩
      refine thn ?_
      exact ⟨(x50, x5), h, (mto (n := 220) [(0, (.own 0 1 (0) (p0))), (1, I p1), (2, I p2), (3, I p3), (4, (.fn (.func 96) [] [.ref 1 1 0 0, .ref 2 1 0 0])), (18, I x5), (19, (I (w64 (x5 + p2)))), (20, I x50), (21, I x5)] [0, 1, 2] [(.own 1 ((p4 : List Int).map Qac)), (.own 1 [[(.fn (.func 70) [] [])]]), (.own 1 [[(.dat 4 ((p5 : List GNode).map Qaa))]])] hφ0 (pc (.rn (Qaj rfl)) (pc rwl (pc rwl (pc rwl (pc (.rn (Qa2 rn0 (rnc (rqr rfl) (rnc (rqr rfl) rn0)))) (pc rwl (pc rwl (pc rwl (pc rwl pn))))))))) (qc (spr Qaf) (qc (spb (lc (.rn (Qa2 rn0 rn0)) ln)) (qc (spb (lc (.rn (.plain _ (nld Qag _))) ln)) qn))))⟩
     ·replace h := Qaw hc49 h
      refine wfn hc49 (by kernel_rfl) ?_
      refine wrg [mv 1 (I p1), mv 145 (I p1)] ?_ ?_
      ·exact ⟨amv rfl, aas rfl, trivial⟩
      refine Qar [mv 2 (I p2), mv 146 (I p2)] ?_ ?_
      ·exact ⟨amv rfl, aas rfl, trivial⟩
      refine thn ?_
      exact ⟨(p1, p2), h, (mto (n := 220) [(0, (.own 0 1 (0) (p0))), (1, I p1), (2, I p2), (3, I p3), (4, (.fn (.func 96) [] [.ref 1 1 0 0, .ref 2 1 0 0])), (18, I x5), (19, (I (w64 (x5 + p2)))), (20, I p1), (21, I p2)] [0, 1, 2] [(.own 1 ((p4 : List Int).map Qac)), (.own 1 [[(.fn (.func 70) [] [])]]), (.own 1 [[(.dat 4 ((p5 : List GNode).map Qaa))]])] hφ0 (pc (.rn (Qaj rfl)) (pc rwl (pc rwl (pc rwl (pc (.rn (Qa2 rn0 (rnc (rqr rfl) (rnc (rqr rfl) rn0)))) (pc rwl (pc rwl (pc rwl (pc rwl pn))))))))) (qc (spr Qaf) (qc (spb (lc (.rn (Qa2 rn0 rn0)) ln)) (qc (spb (lc (.rn (.plain _ (nld Qag _))) ln)) qn))))⟩
   ·skip
    refine wrg [mv 3 (I p3), mv 2 (I p2), rp [(.tmp 77, I p3), (.tmp 78, I p2)] (I (w64 (p3 - p2))), rp [(.tmp 79, (I (w64 (p3 - p2)))), ci 1] (B (((w64 (p3 - p2)) == 1)))] ?_ ?_
    ·exact ⟨amv rfl, amv rfl, abn rfl rfl, abn rfl rfl, trivial⟩
    rcases bft (((w64 (p3 - p2)) == 1)) with hc52 | hc52
    ·replace h := Qav hc52 h
     refine wft hc52 (by kernel_rfl) ?_
     refine wrg [mv 1 (I p1), mv 81 (I p1)] ?_ ?_
     ·exact ⟨amv rfl, aas rfl, trivial⟩
     refine wrg [mv 2 (I p2), mv 82 (I p2)] ?_ ?_
     ·exact ⟨amv rfl, aas rfl, trivial⟩
     obtain ⟨k54, hk_k54, h⟩ := jko h
     refine wjn (τ := Int) (fun t => k54 t = some r) (fun y53 => ⟨mk 220 [(0, (.own 0 1 (0) (p0))), (2, I p2), (14, I y53)], [(.own 1 ((p4 : List Int).map Qac)), (.own 1 [[(.fn (.func 70) [] [])]]), (.own 1 [[(.dat 4 ((p5 : List GNode).map Qaa))]])]⟩) (fun y53 h => ?_) ?_
     ·subst hk_k54
      obtain ⟨k56, hk_k56, h⟩ := jko h
      refine wjn (τ := (List Int)) (fun t => k56 t = some r) (fun y55 => ⟨mk 220 [], [(.own 1 ((y55 : List Int).map Qac)), (.own 1 [[(.fn (.func 70) [] [])]]), (.own 1 [[(.dat 4 ((p5 : List GNode).map Qaa))]])]⟩) (fun y55 h => ?_) ?_
      ·subst hk_k56
       refine wmr (mto (n := 220) (l' := []) (own' := [(.own 1 ((y55 : List Int).map Qac)), (.own 1 [[(.fn (.func 70) [] [])]]), (.own 1 [[(.dat 4 ((p5 : List GNode).map Qaa))]])]) [] [0, 1, 2] [(.own 1 ((y55 : List Int).map Qac)), (.own 1 [[(.fn (.func 70) [] [])]]), (.own 1 [[(.dat 4 ((p5 : List GNode).map Qaa))]])] hφ0 pn (qc (spr Qaf) (qc (spb (lc (.rn (Qa2 rn0 rn0)) ln)) (qc (spb (lc (.rn (.plain _ (nld Qag _))) ln)) qn)))) ?_
       refine Qak ?_
       refine Qao ?_
       obtain rfl := osi h
       exact ⟨_, Mor.rfl, Qc0 (vs := []) trivial rfl (NLt.tup _ nl0) (by kernel_rfl) (Qay (Qd0 Qaf _) (Qay (Qb2 (nlc (NLt.of0 (NLt.fn _ _ _ nl0 nl0)) nl0)) (Qay (Qb2 (nlc (NLt.of0 (nld Qag _)) nl0)) Qbx)))⟩
      ·skip
       refine wrg [mv 2 (I p2), mv 107 (I p2)] ?_ ?_
       ·exact ⟨amv rfl, aas rfl, trivial⟩
       refine Qan ?_
       refine wmr (mto (n := 220) (l' := [(0, (.own 0 1 (0) (p0))), (14, I y53), (17, I p2)]) (own' := [(.own 1 ((p4 : List Int).map Qac)), (.own 1 [[(.fn (.func 70) [] [])]]), (.own 1 [[(.dat 4 ((p5 : List GNode).map Qaa))]])]) [(0, (.own 0 1 (0) (p0))), (14, I y53), (17, I p2)] [0, 1, 2] [(.own 1 ((p4 : List Int).map Qac)), (.own 1 [[(.fn (.func 70) [] [])]]), (.own 1 [[(.dat 4 ((p5 : List GNode).map Qaa))]])] hφ0 (pc (.rn (Qaj rfl)) (pc rwl (pc rwl pn))) (qc (spr Qaf) (qc (spb (lc (.rn (Qa2 rn0 rn0)) ln)) (qc (spb (lc (.rn (.plain _ (nld Qag _))) ln)) qn)))) ?_
       refine Qcc (τ := Int × (List Int)) (fun n t => Qbt N p0 y53 k56 n t.1 t.2 = some r) (fun ⟨y57, y58⟩ => ⟨mk 220 [(0, (.own 0 1 (0) (p0))), (14, I y53), (17, I y57)], [(.own 1 ((y58 : List Int).map Qac)), (.own 1 [[(.fn (.func 70) [] [])]]), (.own 1 [[(.dat 4 ((p5 : List GNode).map Qaa))]])]⟩) (fun t h => by rw [Qbt] at h; cases h) (fun n61 ih t h => ?_) N (p2, p4) h
       obtain ⟨y57, y58⟩ := t
       rw [Qbt] at h
       skip
       refine wsq ?_
       refine wrg [mv 17 (I y57), mv 14 (I y53), rp [(.tmp 108, I y57), (.tmp 109, I y53)] (B ((decide (y57 > y53))))] ?_ ?_
       ·exact ⟨amv rfl, amv rfl, abn rfl rfl, trivial⟩
       rcases bft ((decide (y57 > y53))) with hc62 | hc62
       ·replace h := Qav hc62 h
        refine wft hc62 (by kernel_rfl) ?_
        refine Qam ?_
        refine thn ?_
        refine wsq ?_
        refine Qan ?_
        obtain ⟨hi63, h⟩ := cko h
        obtain ⟨hi63a, hi63b⟩ := Qba hi63
        obtain ⟨x64, hg65, h⟩ := bno h
        obtain ⟨hi66, h⟩ := cko h
        obtain ⟨hi66a, hi66b⟩ := Qba hi66
        obtain ⟨x67, hg68, h⟩ := bno h
        obtain ⟨hi69, h⟩ := cko h
        obtain ⟨hi69a, hi69b⟩ := Qba hi69
        obtain ⟨x70, hg71, h⟩ := bno h
        obtain ⟨hi72, h⟩ := cko h
        obtain ⟨hi72a, hi72b⟩ := Qba hi72
        obtain ⟨x73, hg74, h⟩ := bno h
        refine Qde [mv 0 (.own 0 1 (0) (p0)), mv 17 (I y57), mv 0 (.own 0 1 (0) (p0)), mv 17 (I y57), rp [(.tmp 116, I y57), ci 1] (I (w64 (y57 - 1))), mv 0 (.own 0 1 (0) (p0)), mv 17 (I y57), rp [(.tmp 119, I y57), ci 1] (I (w64 (y57 - 1))), rb [(.tmp 118, (.own 0 1 (0) (p0))), (.tmp 120, (I (w64 (y57 - 1))))] [(0, (.own 1 ((y58 : List Int).map Qac)))] (.ref 0 1 ((w64 (y57 - 1)).toNat) 0), rb [(.tmp 121, (.ref 0 1 ((w64 (y57 - 1)).toNat) 0))] [(0, (.own 1 ((y58 : List Int).map Qac)))] (I x64), mv 0 (.own 0 1 (0) (p0)), mv 17 (I y57), rb [(.tmp 123, (.own 0 1 (0) (p0))), (.tmp 124, I y57)] [(0, (.own 1 ((y58 : List Int).map Qac)))] (.ref 0 1 (y57.toNat) 0), rb [(.tmp 125, (.ref 0 1 (y57.toNat) 0))] [(0, (.own 1 ((y58 : List Int).map Qac)))] (I x67), rb [(.tmp 113, (.own 0 1 (0) (p0))), (.tmp 114, I y57)] [(0, (.own 1 ((y58 : List Int).map Qac)))] (.ref 0 1 (y57.toNat) 0), ⟨[(.tmp 127, (.ref 0 1 (y57.toNat) 0)), (.tmp 122, I x64)], [(0, (.own 1 ((y58 : List Int).map Qac)))], .any, [(0, (.own 1 ((y58.set y57.toNat x64 : List Int).map Qac)))], false⟩, rb [(.tmp 115, (.own 0 1 (0) (p0))), (.tmp 117, (I (w64 (y57 - 1))))] [(0, (.own 1 ((y58.set y57.toNat x64 : List Int).map Qac)))] (.ref 0 1 ((w64 (y57 - 1)).toNat) 0), ⟨[(.tmp 128, (.ref 0 1 ((w64 (y57 - 1)).toNat) 0)), (.tmp 126, I x67)], [(0, (.own 1 ((y58.set y57.toNat x64 : List Int).map Qac)))], .any, [(0, (.own 1 (((y58.set y57.toNat x64).set ((w64 (y57 - 1)).toNat) x67 : List Int).map Qac)))], false⟩] ?_ ?_
        ·exact ⟨amv rfl, amv rfl, amv rfl, amv rfl, abn rfl rfl, amv rfl, amv rfl, abn rfl rfl, aio rfl Try.underlying23 ti3 (odt hi63a) (odt hi63b) (Nat.zero_add _), ald rfl ti3 (by decide) (mgt Qac hg65) (nle rfl) rfl, amv rfl, amv rfl, aio rfl Try.underlying23 ti3 (odt hi66a) (odt hi66b) (Nat.zero_add _), ald rfl ti3 (by decide) (mgt Qac hg68) (nle rfl) rfl, aio rfl Try.underlying23 ti3 (odt hi69a) (odt hi69b) (Nat.zero_add _), ast rfl ti3 (by rfl) (mgt Qac hg71) (nle rfl) (Qei Qac rfl), aio rfl Try.underlying23 ti3 (odt hi72a) (odt hi72b) (Nat.zero_add _), ast rfl ti3 (by rfl) (mgt Qac hg74) (nle rfl) (Qei Qac rfl), trivial⟩
        refine bln ?_
        refine thn ?_
        refine Qar [mv 17 (I y57), rp [(.tmp 111, I y57), ci 1] (I (w64 (y57 - 1))), mv 112 (I (w64 (y57 - 1)))] ?_ ?_
        ·exact ⟨amv rfl, abn rfl rfl, aas rfl, trivial⟩
        refine thn ?_
        exact arm (mto (n := 220) [(0, (.own 0 1 (0) (p0))), (14, I y53), (17, (I (w64 (y57 - 1))))] [0, 1, 2] [(.own 1 (((y58.set y57.toNat x64).set ((w64 (y57 - 1)).toNat) x67 : List Int).map Qac)), (.own 1 [[(.fn (.func 70) [] [])]]), (.own 1 [[(.dat 4 ((p5 : List GNode).map Qaa))]])] hφ0 (pc (.rn (Qaj rfl)) (pc rwl (pc rwl pn))) (qc (spr Qaf) (qc (spb (lc (.rn (Qa2 rn0 rn0)) ln)) (qc (spb (lc (.rn (.plain _ (nld Qag _))) ln)) qn)))) (ih (w64 (y57 - 1), (y58.set y57.toNat x64).set ((w64 (y57 - 1)).toNat) x67) h)
       ·replace h := Qaw hc62 h
        refine wfn hc62 (by kernel_rfl) ?_
        refine Qbf ?_
        refine Qau ?_
        refine Qau ?_
        refine Qbe rfl ?_
        refine thn ?_
        exact ⟨(y58), h, (mto (n := 220) [] [0, 1, 2] [(.own 1 ((y58 : List Int).map Qac)), (.own 1 [[(.fn (.func 70) [] [])]]), (.own 1 [[(.dat 4 ((p5 : List GNode).map Qaa))]])] hφ0 pn (qc (spr Qaf) (qc (spb (lc (.rn (Qa2 rn0 rn0)) ln)) (qc (spb (lc (.rn (.plain _ (nld Qag _))) ln)) qn))))⟩
     ·skip
      refine Qan ?_
      refine wmr (mto (n := 220) (l' := [(0, (.own 0 1 (0) (p0))), (2, I p2), (4, (.fn (.func 96) [] [.ref 1 1 0 0, .ref 2 1 0 0])), (14, I p1), (15, I p2)]) (own' := [(.own 1 ((p4 : List Int).map Qac)), (.own 1 [[(.fn (.func 70) [] [])]]), (.own 1 [[(.dat 4 ((p5 : List GNode).map Qaa))]])]) [(0, (.own 0 1 (0) (p0))), (2, I p2), (4, (.fn (.func 96) [] [.ref 1 1 0 0, .ref 2 1 0 0])), (14, I p1), (15, I p2)] [0, 1, 2] [(.own 1 ((p4 : List Int).map Qac)), (.own 1 [[(.fn (.func 70) [] [])]]), (.own 1 [[(.dat 4 ((p5 : List GNode).map Qaa))]])] hφ0 (pc (.rn (Qaj rfl)) (pc rwl (pc (.rn (Qa2 rn0 (rnc (rqr rfl) (rnc (rqr rfl) rn0)))) (pc rwl (pc rwl pn))))) (qc (spr Qaf) (qc (spb (lc (.rn (Qa2 rn0 rn0)) ln)) (qc (spb (lc (.rn (.plain _ (nld Qag _))) ln)) qn)))) ?_
      refine Qcc (τ := Int × Int) (fun n t => Qbi N p0 p2 p4 p5 k54 n t.1 t.2 = some r) (fun ⟨y75, y76⟩ => ⟨mk 220 [(0, (.own 0 1 (0) (p0))), (2, I p2), (4, (.fn (.func 96) [] [.ref 1 1 0 0, .ref 2 1 0 0])), (14, I y75), (15, I y76)], [(.own 1 ((p4 : List Int).map Qac)), (.own 1 [[(.fn (.func 70) [] [])]]), (.own 1 [[(.dat 4 ((p5 : List GNode).map Qaa))]])]⟩) (fun t h => by rw [Qbi] at h; cases h) (fun n79 ih t h => ?_) N (p1, p2) h
      obtain ⟨y75, y76⟩ := t
      rw [Qbi] at h
      skip
      refine wsq ?_
      refine wrg [mv 14 (I y75), mv 15 (I y76), rp [(.tmp 83, I y75), (.tmp 84, I y76)] (B ((decide (y75 < y76))))] ?_ ?_
      ·exact ⟨amv rfl, amv rfl, abn rfl rfl, trivial⟩
      rcases bft ((decide (y75 < y76))) with hc80 | hc80
      ·replace h := Qav hc80 h
       refine wft hc80 (by kernel_rfl) ?_
       refine Qam ?_
       refine thn ?_
       refine Qan ?_
       obtain ⟨x81, hl82, h⟩ := bno h
       refine wrg [mv 14 (I y75), mv 15 (I y76), rp [(.tmp 86, I y75), (.tmp 87, I y76)] (I (w64 (y75 + y76))), rp [(.tmp 88, (I (w64 (y75 + y76))))] (K .u64 (IntKind.wrap .u64 (w64 (y75 + y76)))), rp [(.tmp 89, (K .u64 (IntKind.wrap .u64 (w64 (y75 + y76))))), (.const (.int .u64 1), (K .u64 (1)))] (K .u64 ((IntKind.wrap .u64 (w64 (y75 + y76))) / 2)), rp [(.tmp 90, (K .u64 ((IntKind.wrap .u64 (w64 (y75 + y76))) / 2)))] (I (w64 ((IntKind.wrap .u64 (w64 (y75 + y76))) / 2))), rp [(.tmp 91, (I (w64 ((IntKind.wrap .u64 (w64 (y75 + y76))) / 2))))] (I x81)] ?_ ?_
       ·exact ⟨amv rfl, amv rfl, abn rfl rfl, acv rfl (by rw [Try.underlying3]; rfl) Try.underlying112, Qiw rfl (by decide) (by decide), acv rfl (by rw [Try.underlying112]; rfl) Try.underlying3, Qe2 hl82 (aas rfl), trivial⟩
       obtain ⟨hi83, h⟩ := cko h
       obtain ⟨hi83a, hi83b⟩ := Qba hi83
       obtain ⟨x84, hg85, h⟩ := bno h
       obtain ⟨hi86, h⟩ := cko h
       obtain ⟨hi86a, hi86b⟩ := Qba hi86
       obtain ⟨x87, hg88, h⟩ := bno h
       obtain ⟨x90, hf89, h⟩ := bno h
       refine Qct [mv 4 (.fn (.func 96) [] [.ref 1 1 0 0, .ref 2 1 0 0]), mv 0 (.own 0 1 (0) (p0)), mv 2 (I p2), rb [(.tmp 93, (.own 0 1 (0) (p0))), (.tmp 94, I p2)] [(0, (.own 1 ((p4 : List Int).map Qac)))] (.ref 0 1 (p2.toNat) 0), rb [(.tmp 95, (.ref 0 1 (p2.toNat) 0))] [(0, (.own 1 ((p4 : List Int).map Qac)))] (I x84), mv 0 (.own 0 1 (0) (p0)), mv 16 (I x81), rb [(.tmp 97, (.own 0 1 (0) (p0))), (.tmp 98, I x81)] [(0, (.own 1 ((p4 : List Int).map Qac)))] (.ref 0 1 (x81.toNat) 0), rb [(.tmp 99, (.ref 0 1 (x81.toNat) 0))] [(0, (.own 1 ((p4 : List Int).map Qac)))] (I x87), ⟨[(.tmp 92, (.fn (.func 96) [] [.ref 1 1 0 0, .ref 2 1 0 0])), (.tmp 96, I x84), (.tmp 100, I x87)], [(1, (.own 1 [[(.fn (.func 70) [] [])]])), (2, (.own 1 [[(.dat 4 ((p5 : List GNode).map Qaa))]]))], I x90, [(1, (.own 1 [[(.fn (.func 70) [] [])]])), (2, (.own 1 [[(.dat 4 ((p5 : List GNode).map Qaa))]]))], false⟩, rp [(.tmp 101, I x90), ci 0] (B ((decide (x90 < 0)))), rp [(.tmp 102, (B ((decide (x90 < 0)))))] (B ((!(decide (x90 < 0)))))] ?_ ?_
       ·exact ⟨amv rfl, amv rfl, amv rfl, aio rfl Try.underlying23 ti3 (odt hi83a) (odt hi83b) (Nat.zero_add _), ald rfl ti3 (by decide) (mgt Qac hg85) (nle rfl) rfl, amv rfl, amv rfl, aio rfl Try.underlying23 ti3 (odt hi86a) (odt hi86b) (Nat.zero_add _), ald rfl ti3 (by decide) (mgt Qac hg88) (nle rfl) rfl, Qa4 (first := []) (cap := [.ref 1 1 0 0, .ref 2 1 0 0]) (vs := [I x84, I x87]) (σr := [(.own 1 [[(.fn (.func 70) [] [])]]), (.own 1 [[(.dat 4 ((p5 : List GNode).map Qaa))]])]) (σr' := [(.own 1 [[(.fn (.func 70) [] [])]]), (.own 1 [[(.dat 4 ((p5 : List GNode).map Qaa))]])]) (res' := (I x90)) [1, 2] rfl enter96 (Qc9 N x84 x87 p5 _ hf89) rfl (Qc3 (rnc (.plain _ nll) (rnc (.plain _ nll) (rnc (Qbz rfl) (rnc (Qbz rfl) rn0))))) (slc (Qat (rnc (.plain _ (NLt.fn _ _ _ nl0 nl0)) rn0)) (slc (Qat (rnc (.plain _ (nld Qag _)) rn0)) Qa0)) (slc (Qat (rnc (.plain _ (NLt.fn _ _ _ nl0 nl0)) rn0)) (slc (Qat (rnc (.plain _ (nld Qag _)) rn0)) Qa0)) (.plain _ nll) rfl rfl rfl, abn rfl rfl, Qap rfl, trivial⟩
       rcases bft ((!(decide (x90 < 0)))) with hc91 | hc91
       ·replace h := Qav hc91 h
        refine wft hc91 (by kernel_rfl) ?_
        refine Qar [mv 16 (I x81), rp [(.tmp 104, I x81), ci 1] (I (w64 (x81 + 1))), mv 105 (I (w64 (x81 + 1)))] ?_ ?_
        ·exact ⟨amv rfl, abn rfl rfl, aas rfl, trivial⟩
        refine bln ?_
        refine thn ?_
        exact arm (mto (n := 220) [(0, (.own 0 1 (0) (p0))), (2, I p2), (4, (.fn (.func 96) [] [.ref 1 1 0 0, .ref 2 1 0 0])), (14, (I (w64 (x81 + 1)))), (15, I y76)] [0, 1, 2] [(.own 1 ((p4 : List Int).map Qac)), (.own 1 [[(.fn (.func 70) [] [])]]), (.own 1 [[(.dat 4 ((p5 : List GNode).map Qaa))]])] hφ0 (pc (.rn (Qaj rfl)) (pc rwl (pc (.rn (Qa2 rn0 (rnc (rqr rfl) (rnc (rqr rfl) rn0)))) (pc rwl (pc rwl pn))))) (qc (spr Qaf) (qc (spb (lc (.rn (Qa2 rn0 rn0)) ln)) (qc (spb (lc (.rn (.plain _ (nld Qag _))) ln)) qn)))) (ih (w64 (x81 + 1), y76) h)
       ·replace h := Qaw hc91 h
        refine wfn hc91 (by kernel_rfl) ?_
        refine Qar [mv 16 (I x81), mv 106 (I x81)] ?_ ?_
        ·exact ⟨amv rfl, aas rfl, trivial⟩
        refine bln ?_
        refine thn ?_
        exact arm (mto (n := 220) [(0, (.own 0 1 (0) (p0))), (2, I p2), (4, (.fn (.func 96) [] [.ref 1 1 0 0, .ref 2 1 0 0])), (14, I y75), (15, I x81)] [0, 1, 2] [(.own 1 ((p4 : List Int).map Qac)), (.own 1 [[(.fn (.func 70) [] [])]]), (.own 1 [[(.dat 4 ((p5 : List GNode).map Qaa))]])] hφ0 (pc (.rn (Qaj rfl)) (pc rwl (pc (.rn (Qa2 rn0 (rnc (rqr rfl) (rnc (rqr rfl) rn0)))) (pc rwl (pc rwl pn))))) (qc (spr Qaf) (qc (spb (lc (.rn (Qa2 rn0 rn0)) ln)) (qc (spb (lc (.rn (.plain _ (nld Qag _))) ln)) qn)))) (ih (y75, x81) h)
      ·replace h := Qaw hc80 h
       refine wfn hc80 (by kernel_rfl) ?_
       refine Qbf ?_
       refine Qau ?_
       refine Qau ?_
       refine Qbe rfl ?_
       refine thn ?_
       exact ⟨(y75), h, (mto (n := 220) [(0, (.own 0 1 (0) (p0))), (2, I p2), (14, I y75)] [0, 1, 2] [(.own 1 ((p4 : List Int).map Qac)), (.own 1 [[(.fn (.func 70) [] [])]]), (.own 1 [[(.dat 4 ((p5 : List GNode).map Qaa))]])] hφ0 (pc (.rn (Qaj rfl)) (pc rwl (pc rwl pn))) (qc (spr Qaf) (qc (spb (lc (.rn (Qa2 rn0 rn0)) ln)) (qc (spb (lc (.rn (.plain _ (nld Qag _))) ln)) qn))))⟩
    ·replace h := Qaw hc52 h
     refine wfn hc52 (by kernel_rfl) ?_
     refine Qam ?_
     refine thn ?_
     exact ⟨(), h, (mto (n := 220) [(0, (.own 0 1 (0) (p0))), (1, I p1), (2, I p2), (3, I p3), (4, (.fn (.func 96) [] [.ref 1 1 0 0, .ref 2 1 0 0]))] [0, 1, 2] [(.own 1 ((p4 : List Int).map Qac)), (.own 1 [[(.fn (.func 70) [] [])]]), (.own 1 [[(.dat 4 ((p5 : List GNode).map Qaa))]])] hφ0 (pc (.rn (Qaj rfl)) (pc rwl (pc rwl (pc rwl (pc (.rn (Qa2 rn0 (rnc (rqr rfl) (rnc (rqr rfl) rn0)))) pn))))) (qc (spr Qaf) (qc (spb (lc (.rn (Qa2 rn0 rn0)) ln)) (qc (spb (lc (.rn (.plain _ (nld Qag _))) ln)) qn))))⟩
  ·skip
   refine wrg [mv 2 (I p2), mv 1 (I p1), rp [(.tmp 25, I p2), (.tmp 26, I p1)] (I (w64 (p2 - p1))), rp [(.tmp 27, (I (w64 (p2 - p1)))), ci 1] (B (((w64 (p2 - p1)) == 1)))] ?_ ?_
   ·exact ⟨amv rfl, amv rfl, abn rfl rfl, abn rfl rfl, trivial⟩
   rcases bft (((w64 (p2 - p1)) == 1)) with hc92 | hc92
   ·replace h := Qav hc92 h
    refine wft hc92 (by kernel_rfl) ?_
    refine wrg [mv 2 (I p2), mv 29 (I p2)] ?_ ?_
    ·exact ⟨amv rfl, aas rfl, trivial⟩
    refine wrg [mv 3 (I p3), mv 30 (I p3)] ?_ ?_
    ·exact ⟨amv rfl, aas rfl, trivial⟩
    obtain ⟨k94, hk_k94, h⟩ := jko h
    refine wjn (τ := Int) (fun t => k94 t = some r) (fun y93 => ⟨mk 220 [(0, (.own 0 1 (0) (p0))), (1, I p1), (10, I y93)], [(.own 1 ((p4 : List Int).map Qac)), (.own 1 [[(.fn (.func 70) [] [])]]), (.own 1 [[(.dat 4 ((p5 : List GNode).map Qaa))]])]⟩) (fun y93 h => ?_) ?_
    ·subst hk_k94
     obtain ⟨k96, hk_k96, h⟩ := jko h
     refine wjn (τ := (List Int)) (fun t => k96 t = some r) (fun y95 => ⟨mk 220 [], [(.own 1 ((y95 : List Int).map Qac)), (.own 1 [[(.fn (.func 70) [] [])]]), (.own 1 [[(.dat 4 ((p5 : List GNode).map Qaa))]])]⟩) (fun y95 h => ?_) ?_
     ·subst hk_k96
      refine wmr (mto (n := 220) (l' := []) (own' := [(.own 1 ((y95 : List Int).map Qac)), (.own 1 [[(.fn (.func 70) [] [])]]), (.own 1 [[(.dat 4 ((p5 : List GNode).map Qaa))]])]) [] [0, 1, 2] [(.own 1 ((y95 : List Int).map Qac)), (.own 1 [[(.fn (.func 70) [] [])]]), (.own 1 [[(.dat 4 ((p5 : List GNode).map Qaa))]])] hφ0 pn (qc (spr Qaf) (qc (spb (lc (.rn (Qa2 rn0 rn0)) ln)) (qc (spb (lc (.rn (.plain _ (nld Qag _))) ln)) qn)))) ?_
      refine Qak ?_
      refine Qao ?_
      obtain rfl := osi h
      exact ⟨_, Mor.rfl, Qc0 (vs := []) trivial rfl (NLt.tup _ nl0) (by kernel_rfl) (Qay (Qd0 Qaf _) (Qay (Qb2 (nlc (NLt.of0 (NLt.fn _ _ _ nl0 nl0)) nl0)) (Qay (Qb2 (nlc (NLt.of0 (nld Qag _)) nl0)) Qbx)))⟩
     ·skip
      refine wrg [mv 1 (I p1), mv 54 (I p1)] ?_ ?_
      ·exact ⟨amv rfl, aas rfl, trivial⟩
      refine Qan ?_
      refine wmr (mto (n := 220) (l' := [(0, (.own 0 1 (0) (p0))), (10, I y93), (13, I p1)]) (own' := [(.own 1 ((p4 : List Int).map Qac)), (.own 1 [[(.fn (.func 70) [] [])]]), (.own 1 [[(.dat 4 ((p5 : List GNode).map Qaa))]])]) [(0, (.own 0 1 (0) (p0))), (10, I y93), (13, I p1)] [0, 1, 2] [(.own 1 ((p4 : List Int).map Qac)), (.own 1 [[(.fn (.func 70) [] [])]]), (.own 1 [[(.dat 4 ((p5 : List GNode).map Qaa))]])] hφ0 (pc (.rn (Qaj rfl)) (pc rwl (pc rwl pn))) (qc (spr Qaf) (qc (spb (lc (.rn (Qa2 rn0 rn0)) ln)) (qc (spb (lc (.rn (.plain _ (nld Qag _))) ln)) qn)))) ?_
      refine Qcc (τ := Int × (List Int)) (fun n t => Qbs N p0 y93 k96 n t.1 t.2 = some r) (fun ⟨y97, y98⟩ => ⟨mk 220 [(0, (.own 0 1 (0) (p0))), (10, I y93), (13, I y97)], [(.own 1 ((y98 : List Int).map Qac)), (.own 1 [[(.fn (.func 70) [] [])]]), (.own 1 [[(.dat 4 ((p5 : List GNode).map Qaa))]])]⟩) (fun t h => by rw [Qbs] at h; cases h) (fun n101 ih t h => ?_) N (p1, p4) h
      obtain ⟨y97, y98⟩ := t
      rw [Qbs] at h
      skip
      refine wsq ?_
      refine wrg [mv 13 (I y97), mv 10 (I y93), rp [(.tmp 56, I y93), ci 1] (I (w64 (y93 - 1))), rp [(.tmp 55, I y97), (.tmp 57, (I (w64 (y93 - 1))))] (B ((decide (y97 < (w64 (y93 - 1))))))] ?_ ?_
      ·exact ⟨amv rfl, amv rfl, abn rfl rfl, abn rfl rfl, trivial⟩
      rcases bft ((decide (y97 < (w64 (y93 - 1))))) with hc102 | hc102
      ·replace h := Qav hc102 h
       refine wft hc102 (by kernel_rfl) ?_
       refine Qam ?_
       refine thn ?_
       refine wsq ?_
       refine Qan ?_
       obtain ⟨hi103, h⟩ := cko h
       obtain ⟨hi103a, hi103b⟩ := Qba hi103
       obtain ⟨x104, hg105, h⟩ := bno h
       obtain ⟨hi106, h⟩ := cko h
       obtain ⟨hi106a, hi106b⟩ := Qba hi106
       obtain ⟨x107, hg108, h⟩ := bno h
       obtain ⟨hi109, h⟩ := cko h
       obtain ⟨hi109a, hi109b⟩ := Qba hi109
       obtain ⟨x110, hg111, h⟩ := bno h
       obtain ⟨hi112, h⟩ := cko h
       obtain ⟨hi112a, hi112b⟩ := Qba hi112
       obtain ⟨x113, hg114, h⟩ := bno h
       refine Qde [mv 0 (.own 0 1 (0) (p0)), mv 13 (I y97), mv 0 (.own 0 1 (0) (p0)), mv 13 (I y97), rp [(.tmp 64, I y97), ci 1] (I (w64 (y97 + 1))), mv 0 (.own 0 1 (0) (p0)), mv 13 (I y97), rp [(.tmp 67, I y97), ci 1] (I (w64 (y97 + 1))), rb [(.tmp 66, (.own 0 1 (0) (p0))), (.tmp 68, (I (w64 (y97 + 1))))] [(0, (.own 1 ((y98 : List Int).map Qac)))] (.ref 0 1 ((w64 (y97 + 1)).toNat) 0), rb [(.tmp 69, (.ref 0 1 ((w64 (y97 + 1)).toNat) 0))] [(0, (.own 1 ((y98 : List Int).map Qac)))] (I x104), mv 0 (.own 0 1 (0) (p0)), mv 13 (I y97), rb [(.tmp 71, (.own 0 1 (0) (p0))), (.tmp 72, I y97)] [(0, (.own 1 ((y98 : List Int).map Qac)))] (.ref 0 1 (y97.toNat) 0), rb [(.tmp 73, (.ref 0 1 (y97.toNat) 0))] [(0, (.own 1 ((y98 : List Int).map Qac)))] (I x107), rb [(.tmp 61, (.own 0 1 (0) (p0))), (.tmp 62, I y97)] [(0, (.own 1 ((y98 : List Int).map Qac)))] (.ref 0 1 (y97.toNat) 0), ⟨[(.tmp 75, (.ref 0 1 (y97.toNat) 0)), (.tmp 70, I x104)], [(0, (.own 1 ((y98 : List Int).map Qac)))], .any, [(0, (.own 1 ((y98.set y97.toNat x104 : List Int).map Qac)))], false⟩, rb [(.tmp 63, (.own 0 1 (0) (p0))), (.tmp 65, (I (w64 (y97 + 1))))] [(0, (.own 1 ((y98.set y97.toNat x104 : List Int).map Qac)))] (.ref 0 1 ((w64 (y97 + 1)).toNat) 0), ⟨[(.tmp 76, (.ref 0 1 ((w64 (y97 + 1)).toNat) 0)), (.tmp 74, I x107)], [(0, (.own 1 ((y98.set y97.toNat x104 : List Int).map Qac)))], .any, [(0, (.own 1 (((y98.set y97.toNat x104).set ((w64 (y97 + 1)).toNat) x107 : List Int).map Qac)))], false⟩] ?_ ?_
       ·exact ⟨amv rfl, amv rfl, amv rfl, amv rfl, abn rfl rfl, amv rfl, amv rfl, abn rfl rfl, aio rfl Try.underlying23 ti3 (odt hi103a) (odt hi103b) (Nat.zero_add _), ald rfl ti3 (by decide) (mgt Qac hg105) (nle rfl) rfl, amv rfl, amv rfl, aio rfl Try.underlying23 ti3 (odt hi106a) (odt hi106b) (Nat.zero_add _), ald rfl ti3 (by decide) (mgt Qac hg108) (nle rfl) rfl, aio rfl Try.underlying23 ti3 (odt hi109a) (odt hi109b) (Nat.zero_add _), ast rfl ti3 (by rfl) (mgt Qac hg111) (nle rfl) (Qei Qac rfl), aio rfl Try.underlying23 ti3 (odt hi112a) (odt hi112b) (Nat.zero_add _), ast rfl ti3 (by rfl) (mgt Qac hg114) (nle rfl) (Qei Qac rfl), trivial⟩
       refine bln ?_
       refine thn ?_
       refine Qar [mv 13 (I y97), rp [(.tmp 59, I y97), ci 1] (I (w64 (y97 + 1))), mv 60 (I (w64 (y97 + 1)))] ?_ ?_
       ·exact ⟨amv rfl, abn rfl rfl, aas rfl, trivial⟩
       refine thn ?_
       exact arm (mto (n := 220) [(0, (.own 0 1 (0) (p0))), (10, I y93), (13, (I (w64 (y97 + 1))))] [0, 1, 2] [(.own 1 (((y98.set y97.toNat x104).set ((w64 (y97 + 1)).toNat) x107 : List Int).map Qac)), (.own 1 [[(.fn (.func 70) [] [])]]), (.own 1 [[(.dat 4 ((p5 : List GNode).map Qaa))]])] hφ0 (pc (.rn (Qaj rfl)) (pc rwl (pc rwl pn))) (qc (spr Qaf) (qc (spb (lc (.rn (Qa2 rn0 rn0)) ln)) (qc (spb (lc (.rn (.plain _ (nld Qag _))) ln)) qn)))) (ih (w64 (y97 + 1), (y98.set y97.toNat x104).set ((w64 (y97 + 1)).toNat) x107) h)
      ·replace h := Qaw hc102 h
       refine wfn hc102 (by kernel_rfl) ?_
       refine Qbf ?_
       refine Qau ?_
       refine Qau ?_
       refine Qbe rfl ?_
       refine thn ?_
       exact ⟨(y98), h, (mto (n := 220) [] [0, 1, 2] [(.own 1 ((y98 : List Int).map Qac)), (.own 1 [[(.fn (.func 70) [] [])]]), (.own 1 [[(.dat 4 ((p5 : List GNode).map Qaa))]])] hφ0 pn (qc (spr Qaf) (qc (spb (lc (.rn (Qa2 rn0 rn0)) ln)) (qc (spb (lc (.rn (.plain _ (nld Qag _))) ln)) qn))))⟩
    ·skip
     refine Qan ?_
     refine wmr (mto (n := 220) (l' := [(0, (.own 0 1 (0) (p0))), (1, I p1), (4, (.fn (.func 96) [] [.ref 1 1 0 0, .ref 2 1 0 0])), (10, I p2), (11, I p3)]) (own' := [(.own 1 ((p4 : List Int).map Qac)), (.own 1 [[(.fn (.func 70) [] [])]]), (.own 1 [[(.dat 4 ((p5 : List GNode).map Qaa))]])]) [(0, (.own 0 1 (0) (p0))), (1, I p1), (4, (.fn (.func 96) [] [.ref 1 1 0 0, .ref 2 1 0 0])), (10, I p2), (11, I p3)] [0, 1, 2] [(.own 1 ((p4 : List Int).map Qac)), (.own 1 [[(.fn (.func 70) [] [])]]), (.own 1 [[(.dat 4 ((p5 : List GNode).map Qaa))]])] hφ0 (pc (.rn (Qaj rfl)) (pc rwl (pc (.rn (Qa2 rn0 (rnc (rqr rfl) (rnc (rqr rfl) rn0)))) (pc rwl (pc rwl pn))))) (qc (spr Qaf) (qc (spb (lc (.rn (Qa2 rn0 rn0)) ln)) (qc (spb (lc (.rn (.plain _ (nld Qag _))) ln)) qn)))) ?_
     refine Qcc (τ := Int × Int) (fun n t => Qbh N p0 p1 p4 p5 k94 n t.1 t.2 = some r) (fun ⟨y115, y116⟩ => ⟨mk 220 [(0, (.own 0 1 (0) (p0))), (1, I p1), (4, (.fn (.func 96) [] [.ref 1 1 0 0, .ref 2 1 0 0])), (10, I y115), (11, I y116)], [(.own 1 ((p4 : List Int).map Qac)), (.own 1 [[(.fn (.func 70) [] [])]]), (.own 1 [[(.dat 4 ((p5 : List GNode).map Qaa))]])]⟩) (fun t h => by rw [Qbh] at h; cases h) (fun n119 ih t h => ?_) N (p2, p3) h
     obtain ⟨y115, y116⟩ := t
     rw [Qbh] at h
     skip
     refine wsq ?_
     refine wrg [mv 10 (I y115), mv 11 (I y116), rp [(.tmp 31, I y115), (.tmp 32, I y116)] (B ((decide (y115 < y116))))] ?_ ?_
     ·exact ⟨amv rfl, amv rfl, abn rfl rfl, trivial⟩
     rcases bft ((decide (y115 < y116))) with hc120 | hc120
     ·replace h := Qav hc120 h
      refine wft hc120 (by kernel_rfl) ?_
      refine Qam ?_
      refine thn ?_
      refine Qan ?_
      obtain ⟨x121, hl122, h⟩ := bno h
      refine wrg [mv 10 (I y115), mv 11 (I y116), rp [(.tmp 34, I y115), (.tmp 35, I y116)] (I (w64 (y115 + y116))), rp [(.tmp 36, (I (w64 (y115 + y116))))] (K .u64 (IntKind.wrap .u64 (w64 (y115 + y116)))), rp [(.tmp 37, (K .u64 (IntKind.wrap .u64 (w64 (y115 + y116))))), (.const (.int .u64 1), (K .u64 (1)))] (K .u64 ((IntKind.wrap .u64 (w64 (y115 + y116))) / 2)), rp [(.tmp 38, (K .u64 ((IntKind.wrap .u64 (w64 (y115 + y116))) / 2)))] (I (w64 ((IntKind.wrap .u64 (w64 (y115 + y116))) / 2))), rp [(.tmp 39, (I (w64 ((IntKind.wrap .u64 (w64 (y115 + y116))) / 2))))] (I x121)] ?_ ?_
      ·exact ⟨amv rfl, amv rfl, abn rfl rfl, acv rfl (by rw [Try.underlying3]; rfl) Try.underlying112, Qiw rfl (by decide) (by decide), acv rfl (by rw [Try.underlying112]; rfl) Try.underlying3, Qe2 hl122 (aas rfl), trivial⟩
      obtain ⟨hi123, h⟩ := cko h
      obtain ⟨hi123a, hi123b⟩ := Qba hi123
      obtain ⟨x124, hg125, h⟩ := bno h
      obtain ⟨hi126, h⟩ := cko h
      obtain ⟨hi126a, hi126b⟩ := Qba hi126
      obtain ⟨x127, hg128, h⟩ := bno h
      obtain ⟨x130, hf129, h⟩ := bno h
      refine Qct [mv 4 (.fn (.func 96) [] [.ref 1 1 0 0, .ref 2 1 0 0]), mv 0 (.own 0 1 (0) (p0)), mv 12 (I x121), rb [(.tmp 41, (.own 0 1 (0) (p0))), (.tmp 42, I x121)] [(0, (.own 1 ((p4 : List Int).map Qac)))] (.ref 0 1 (x121.toNat) 0), rb [(.tmp 43, (.ref 0 1 (x121.toNat) 0))] [(0, (.own 1 ((p4 : List Int).map Qac)))] (I x124), mv 0 (.own 0 1 (0) (p0)), mv 1 (I p1), rb [(.tmp 45, (.own 0 1 (0) (p0))), (.tmp 46, I p1)] [(0, (.own 1 ((p4 : List Int).map Qac)))] (.ref 0 1 (p1.toNat) 0), rb [(.tmp 47, (.ref 0 1 (p1.toNat) 0))] [(0, (.own 1 ((p4 : List Int).map Qac)))] (I x127), ⟨[(.tmp 40, (.fn (.func 96) [] [.ref 1 1 0 0, .ref 2 1 0 0])), (.tmp 44, I x124), (.tmp 48, I x127)], [(1, (.own 1 [[(.fn (.func 70) [] [])]])), (2, (.own 1 [[(.dat 4 ((p5 : List GNode).map Qaa))]]))], I x130, [(1, (.own 1 [[(.fn (.func 70) [] [])]])), (2, (.own 1 [[(.dat 4 ((p5 : List GNode).map Qaa))]]))], false⟩, rp [(.tmp 49, I x130), ci 0] (B ((decide (x130 < 0))))] ?_ ?_
      ·exact ⟨amv rfl, amv rfl, amv rfl, aio rfl Try.underlying23 ti3 (odt hi123a) (odt hi123b) (Nat.zero_add _), ald rfl ti3 (by decide) (mgt Qac hg125) (nle rfl) rfl, amv rfl, amv rfl, aio rfl Try.underlying23 ti3 (odt hi126a) (odt hi126b) (Nat.zero_add _), ald rfl ti3 (by decide) (mgt Qac hg128) (nle rfl) rfl, Qa4 (first := []) (cap := [.ref 1 1 0 0, .ref 2 1 0 0]) (vs := [I x124, I x127]) (σr := [(.own 1 [[(.fn (.func 70) [] [])]]), (.own 1 [[(.dat 4 ((p5 : List GNode).map Qaa))]])]) (σr' := [(.own 1 [[(.fn (.func 70) [] [])]]), (.own 1 [[(.dat 4 ((p5 : List GNode).map Qaa))]])]) (res' := (I x130)) [1, 2] rfl enter96 (Qc9 N x124 x127 p5 _ hf129) rfl (Qc3 (rnc (.plain _ nll) (rnc (.plain _ nll) (rnc (Qbz rfl) (rnc (Qbz rfl) rn0))))) (slc (Qat (rnc (.plain _ (NLt.fn _ _ _ nl0 nl0)) rn0)) (slc (Qat (rnc (.plain _ (nld Qag _)) rn0)) Qa0)) (slc (Qat (rnc (.plain _ (NLt.fn _ _ _ nl0 nl0)) rn0)) (slc (Qat (rnc (.plain _ (nld Qag _)) rn0)) Qa0)) (.plain _ nll) rfl rfl rfl, abn rfl rfl, trivial⟩
      rcases bft ((decide (x130 < 0))) with hc131 | hc131
      ·replace h := Qav hc131 h
       refine wft hc131 (by kernel_rfl) ?_
       refine Qar [mv 12 (I x121), rp [(.tmp 51, I x121), ci 1] (I (w64 (x121 + 1))), mv 52 (I (w64 (x121 + 1)))] ?_ ?_
       ·exact ⟨amv rfl, abn rfl rfl, aas rfl, trivial⟩
       refine bln ?_
       refine thn ?_
       exact arm (mto (n := 220) [(0, (.own 0 1 (0) (p0))), (1, I p1), (4, (.fn (.func 96) [] [.ref 1 1 0 0, .ref 2 1 0 0])), (10, (I (w64 (x121 + 1)))), (11, I y116)] [0, 1, 2] [(.own 1 ((p4 : List Int).map Qac)), (.own 1 [[(.fn (.func 70) [] [])]]), (.own 1 [[(.dat 4 ((p5 : List GNode).map Qaa))]])] hφ0 (pc (.rn (Qaj rfl)) (pc rwl (pc (.rn (Qa2 rn0 (rnc (rqr rfl) (rnc (rqr rfl) rn0)))) (pc rwl (pc rwl pn))))) (qc (spr Qaf) (qc (spb (lc (.rn (Qa2 rn0 rn0)) ln)) (qc (spb (lc (.rn (.plain _ (nld Qag _))) ln)) qn)))) (ih (w64 (x121 + 1), y116) h)
      ·replace h := Qaw hc131 h
       refine wfn hc131 (by kernel_rfl) ?_
       refine Qar [mv 12 (I x121), mv 53 (I x121)] ?_ ?_
       ·exact ⟨amv rfl, aas rfl, trivial⟩
       refine bln ?_
       refine thn ?_
       exact arm (mto (n := 220) [(0, (.own 0 1 (0) (p0))), (1, I p1), (4, (.fn (.func 96) [] [.ref 1 1 0 0, .ref 2 1 0 0])), (10, I y115), (11, I x121)] [0, 1, 2] [(.own 1 ((p4 : List Int).map Qac)), (.own 1 [[(.fn (.func 70) [] [])]]), (.own 1 [[(.dat 4 ((p5 : List GNode).map Qaa))]])] hφ0 (pc (.rn (Qaj rfl)) (pc rwl (pc (.rn (Qa2 rn0 (rnc (rqr rfl) (rnc (rqr rfl) rn0)))) (pc rwl (pc rwl pn))))) (qc (spr Qaf) (qc (spb (lc (.rn (Qa2 rn0 rn0)) ln)) (qc (spb (lc (.rn (.plain _ (nld Qag _))) ln)) qn)))) (ih (y115, x121) h)
     ·replace h := Qaw hc120 h
      refine wfn hc120 (by kernel_rfl) ?_
      refine Qbf ?_
      refine Qau ?_
      refine Qau ?_
      refine Qbe rfl ?_
      refine thn ?_
      exact ⟨(y115), h, (mto (n := 220) [(0, (.own 0 1 (0) (p0))), (1, I p1), (10, I y115)] [0, 1, 2] [(.own 1 ((p4 : List Int).map Qac)), (.own 1 [[(.fn (.func 70) [] [])]]), (.own 1 [[(.dat 4 ((p5 : List GNode).map Qaa))]])] hφ0 (pc (.rn (Qaj rfl)) (pc rwl (pc rwl pn))) (qc (spr Qaf) (qc (spb (lc (.rn (Qa2 rn0 rn0)) ln)) (qc (spb (lc (.rn (.plain _ (nld Qag _))) ln)) qn))))⟩
   ·replace h := Qaw hc92 h
    refine wfn hc92 (by kernel_rfl) ?_
    refine Qam ?_
    refine thn ?_
    exact ⟨(), h, (mto (n := 220) [(0, (.own 0 1 (0) (p0))), (1, I p1), (2, I p2), (3, I p3), (4, (.fn (.func 96) [] [.ref 1 1 0 0, .ref 2 1 0 0]))] [0, 1, 2] [(.own 1 ((p4 : List Int).map Qac)), (.own 1 [[(.fn (.func 70) [] [])]]), (.own 1 [[(.dat 4 ((p5 : List GNode).map Qaa))]])] hφ0 (pc (.rn (Qaj rfl)) (pc rwl (pc rwl (pc rwl (pc (.rn (Qa2 rn0 (rnc (rqr rfl) (rnc (rqr rfl) rn0)))) pn))))) (qc (spr Qaf) (qc (spb (lc (.rn (Qa2 rn0 rn0)) ln)) (qc (spb (lc (.rn (.plain _ (nld Qag _))) ln)) qn))))⟩

def Qb4 (N : Nat) (p0 : Nat) (p1 : Int) (p3 : (List GNode)) (y7 : Int) (k15 : Int × (List Int) → Option (List Int)) : Nat → Int → Int → (List Int) → Option (List Int)
  | 0, _, _, _ => none
  | n25 + 1, y19, y20, y21 =>
    bif (decide (y20 ≤ p1)) then
     (Qcl N p0 y19 (w64 (y19 + y7)) y20 y21 p3).bind fun x28 =>
     (some (w64 (y20 + (w64 (2 * y7))))).bind fun x29 =>
     Qb4 N p0 p1 p3 y7 k15 n25 y20 x29 x28
    else
     k15 (y19, y21)
def Qbm (N : Nat) (p0 : Nat) (p1 : Int) (p3 : (List GNode)) : Nat → Int → (List Int) → Option (List Int)
  | 0, _, _ => none
  | n11 + 1, y7, y8 =>
    bif (decide (y7 < p1)) then
     Qca (fun ⟨y13, y14⟩ =>
       bif (decide ((w64 (y13 + y7)) < p1)) then
        (Qcl N p0 y13 (w64 (y13 + y7)) p1 y14 p3).bind fun x18 =>
        Qbm N p0 p1 p3 n11 (w64 (y7 * 2)) x18
       else
        Qbm N p0 p1 p3 n11 (w64 (y7 * 2)) y14) fun k15 : Int × (List Int) → Option (List Int) =>
     Qb4 N p0 p1 p3 y7 k15 N 0 (w64 (2 * y7)) y8
    else
     some y8
def Qb3 (N : Nat) (p0 : Nat) (p1 : Int) (p3 : (List GNode)) (k4 : Int × (List Int) → Option (List Int)) : Nat → Int → Int → (List Int) → Option (List Int)
  | 0, _, _, _ => none
  | n37 + 1, y31, y32, y33 =>
    bif (decide (y32 ≤ p1)) then
     (Qcn N p0 y31 y32 y33 p3).bind fun x40 =>
     Qb3 N p0 p1 p3 k4 n37 y32 (w64 (y32 + 20)) x40
    else
     k4 (y31, y33)
def Qeb (N : Nat) (p0 : Nat) (p1 : Int) (p2 : (List Int)) (p3 : (List GNode)) : Option (List Int) :=
  Qca (fun ⟨y2, y3⟩ =>
    (Qcn N p0 y2 p1 y3 p3).bind fun x6 =>
    Qbm N p0 p1 p3 N 20 x6) fun k4 : Int × (List Int) → Option (List Int) =>
  Qb3 N p0 p1 p3 k4 N 0 20 p2
set_option maxRecDepth 100000 in
set_option maxHeartbeats 4000000 in
theorem Qgb (N : Nat) (p0 : Nat) (p1 : Int) (p2 : (List Int)) (p3 : (List GNode)) (r : (List Int)) (h : Qeb N p0 p1 p2 p3 = some r) : Spec Try.prog 110 [(.own 0 1 (0) (p0)), (I (p1)), (.fn (.func 96) [] [(.ref 1 1 (0) 0), (.ref 2 1 (0) 0)])] [(.own 1 ((p2 : List Int).map Qac)), (.own 1 [[(.fn (.func 70) [] [])]]), (.own 1 [[(.dat 4 ((p3 : List GNode).map Qaa))]])] (.tup []) [(.own 1 ((r : List Int).map Qac)), (.own 1 [[(.fn (.func 70) [] [])]]), (.own 1 [[(.dat 4 ((p3 : List GNode).map Qaa))]])] := by
  refine Qaq Try.func110 rfl 3 (nle rfl) (fun X φ0 w0 hφ0 => ?_)
  unfold Qeb at h
  refine Qc1 ?_
  refine wrg [mc (.int .i64 20)] ?_ ?_
  ·exact ⟨aas rfl, trivial⟩
  refine wrg [mv 6 (I 20), mc (.int .i64 0), mv 10 (I 20)] ?_ ?_
  ·exact ⟨amv rfl, aas rfl, aas rfl, trivial⟩
  obtain ⟨k4, hk_k4, h⟩ := jko h
  refine wjn (τ := Int × (List Int)) (fun t => k4 t = some r) (fun ⟨y2, y3⟩ => ⟨mk 63 [(0, (.own 0 1 (0) (p0))), (1, I p1), (2, (.fn (.func 96) [] [.ref 1 1 0 0, .ref 2 1 0 0])), (6, I 20), (7, I y2)], [(.own 1 ((y3 : List Int).map Qac)), (.own 1 [[(.fn (.func 70) [] [])]]), (.own 1 [[(.dat 4 ((p3 : List GNode).map Qaa))]])]⟩) (fun t h => ?_) ?_
  ·subst hk_k4
   obtain ⟨y2, y3⟩ := t
   obtain ⟨x6, hf5, h⟩ := bno h
   refine wrg [mv 0 (.own 0 1 (0) (p0)), mv 7 (I y2), mv 1 (I p1), mv 2 (.fn (.func 96) [] [.ref 1 1 0 0, .ref 2 1 0 0]), ⟨[fu 114, (.tmp 23, (.own 0 1 (0) (p0))), (.tmp 24, I y2), (.tmp 25, I p1), (.tmp 26, (.fn (.func 96) [] [.ref 1 1 0 0, .ref 2 1 0 0]))], [(0, (.own 1 ((y3 : List Int).map Qac))), (1, (.own 1 [[(.fn (.func 70) [] [])]])), (2, (.own 1 [[(.dat 4 ((p3 : List GNode).map Qaa))]]))], (.tup []), [(0, (.own 1 ((x6 : List Int).map Qac))), (1, (.own 1 [[(.fn (.func 70) [] [])]])), (2, (.own 1 [[(.dat 4 ((p3 : List GNode).map Qaa))]]))], false⟩] ?_ ?_
   ·exact ⟨amv rfl, amv rfl, amv rfl, amv rfl, Qa4 (first := []) (cap := []) (vs := [(.own 0 1 (0) (p0)), I y2, I p1, (.fn (.func 96) [] [.ref 1 1 0 0, .ref 2 1 0 0])]) (σr := [(.own 1 ((y3 : List Int).map Qac)), (.own 1 [[(.fn (.func 70) [] [])]]), (.own 1 [[(.dat 4 ((p3 : List GNode).map Qaa))]])]) (σr' := [(.own 1 ((x6 : List Int).map Qac)), (.own 1 [[(.fn (.func 70) [] [])]]), (.own 1 [[(.dat 4 ((p3 : List GNode).map Qaa))]])]) (res' := (.tup [])) [0, 1, 2] rfl enter114 (Qd5 N p0 y2 p1 y3 p3 _ hf5) rfl (Qc3 (rnc (Qen rfl) (rnc (.plain _ nll) (rnc (.plain _ nll) (rnc (Qa2 rn0 (rnc (Qbz rfl) (rnc (Qbz rfl) rn0))) rn0))))) (slc (Qby Qaf) (slc (Qat (rnc (.plain _ (NLt.fn _ _ _ nl0 nl0)) rn0)) (slc (Qat (rnc (.plain _ (nld Qag _)) rn0)) Qa0))) (slc (Qby Qaf) (slc (Qat (rnc (.plain _ (NLt.fn _ _ _ nl0 nl0)) rn0)) (slc (Qat (rnc (.plain _ (nld Qag _)) rn0)) Qa0))) (.plain _ (NLt.tup _ nl0)) rfl rfl rfl, trivial⟩
   refine Qan ?_
   refine wmr (mto (n := 63) (l' := [(0, (.own 0 1 (0) (p0))), (1, I p1), (2, (.fn (.func 96) [] [.ref 1 1 0 0, .ref 2 1 0 0])), (6, I 20)]) (own' := [(.own 1 ((x6 : List Int).map Qac)), (.own 1 [[(.fn (.func 70) [] [])]]), (.own 1 [[(.dat 4 ((p3 : List GNode).map Qaa))]])]) [(0, (.own 0 1 (0) (p0))), (1, I p1), (2, (.fn (.func 96) [] [.ref 1 1 0 0, .ref 2 1 0 0])), (6, I 20)] [0, 1, 2] [(.own 1 ((x6 : List Int).map Qac)), (.own 1 [[(.fn (.func 70) [] [])]]), (.own 1 [[(.dat 4 ((p3 : List GNode).map Qaa))]])] hφ0 (pc (.rn (Qaj rfl)) (pc rwl (pc (.rn (Qa2 rn0 (rnc (rqr rfl) (rnc (rqr rfl) rn0)))) (pc rwl pn)))) (qc (spr Qaf) (qc (spb (lc (.rn (Qa2 rn0 rn0)) ln)) (qc (spb (lc (.rn (.plain _ (nld Qag _))) ln)) qn)))) ?_
   refine Qcc (τ := Int × (List Int)) (fun n t => Qbm N p0 p1 p3 n t.1 t.2 = some r) (fun ⟨y7, y8⟩ => ⟨mk 63 [(0, (.own 0 1 (0) (p0))), (1, I p1), (2, (.fn (.func 96) [] [.ref 1 1 0 0, .ref 2 1 0 0])), (6, I y7)], [(.own 1 ((y8 : List Int).map Qac)), (.own 1 [[(.fn (.func 70) [] [])]]), (.own 1 [[(.dat 4 ((p3 : List GNode).map Qaa))]])]⟩) (fun t h => by rw [Qbm] at h; cases h) (fun n11 ih t h => ?_) N (20, x6) h
   obtain ⟨y7, y8⟩ := t
   rw [Qbm] at h
   skip
   refine wsq ?_
   refine wrg [mv 6 (I y7), mv 1 (I p1), rp [(.tmp 28, I y7), (.tmp 29, I p1)] (B ((decide (y7 < p1))))] ?_ ?_
   ·exact ⟨amv rfl, amv rfl, abn rfl rfl, trivial⟩
   rcases bft ((decide (y7 < p1))) with hc12 | hc12
   ·replace h := Qav hc12 h
    refine wft hc12 (by kernel_rfl) ?_
    refine Qam ?_
    refine thn ?_
    refine Qan ?_
    refine wrg [mv 6 (I y7), rp [ci 2, (.tmp 31, I y7)] (I (w64 (2 * y7))), mc (.int .i64 0), mv 32 (I (w64 (2 * y7)))] ?_ ?_
    ·exact ⟨amv rfl, abn rfl rfl, aas rfl, aas rfl, trivial⟩
    obtain ⟨k15, hk_k15, h⟩ := jko h
    refine wjn (τ := Int × (List Int)) (fun t => k15 t = some r) (fun ⟨y13, y14⟩ => ⟨mk 63 [(0, (.own 0 1 (0) (p0))), (1, I p1), (2, (.fn (.func 96) [] [.ref 1 1 0 0, .ref 2 1 0 0])), (6, I y7), (7, I y13)], [(.own 1 ((y14 : List Int).map Qac)), (.own 1 [[(.fn (.func 70) [] [])]]), (.own 1 [[(.dat 4 ((p3 : List GNode).map Qaa))]])]⟩) (fun t h => ?_) ?_
    ·subst hk_k15
     obtain ⟨y13, y14⟩ := t
     refine wsq ?_
     refine wrg [mv 7 (I y13), mv 6 (I y7), rp [(.tmp 49, I y13), (.tmp 50, I y7)] (I (w64 (y13 + y7))), mv 51 (I (w64 (y13 + y7)))] ?_ ?_
     ·exact ⟨amv rfl, amv rfl, abn rfl rfl, aas rfl, trivial⟩
     refine wrg [mv 9 (I (w64 (y13 + y7))), mv 1 (I p1), rp [(.tmp 52, (I (w64 (y13 + y7)))), (.tmp 53, I p1)] (B ((decide ((w64 (y13 + y7)) < p1))))] ?_ ?_
     ·exact ⟨amv rfl, amv rfl, abn rfl rfl, trivial⟩
     rcases bft ((decide ((w64 (y13 + y7)) < p1))) with hc16 | hc16
     ·replace h := Qav hc16 h
      refine wft hc16 (by kernel_rfl) ?_
      obtain ⟨x18, hf17, h⟩ := bno h
      refine Qar [mv 0 (.own 0 1 (0) (p0)), mv 7 (I y13), mv 9 (I (w64 (y13 + y7))), mv 1 (I p1), mv 2 (.fn (.func 96) [] [.ref 1 1 0 0, .ref 2 1 0 0]), ⟨[fu 115, (.tmp 55, (.own 0 1 (0) (p0))), (.tmp 56, I y13), (.tmp 57, (I (w64 (y13 + y7)))), (.tmp 58, I p1), (.tmp 59, (.fn (.func 96) [] [.ref 1 1 0 0, .ref 2 1 0 0]))], [(0, (.own 1 ((y14 : List Int).map Qac))), (1, (.own 1 [[(.fn (.func 70) [] [])]])), (2, (.own 1 [[(.dat 4 ((p3 : List GNode).map Qaa))]]))], (.tup []), [(0, (.own 1 ((x18 : List Int).map Qac))), (1, (.own 1 [[(.fn (.func 70) [] [])]])), (2, (.own 1 [[(.dat 4 ((p3 : List GNode).map Qaa))]]))], false⟩] ?_ ?_
      ·exact ⟨amv rfl, amv rfl, amv rfl, amv rfl, amv rfl, Qa4 (first := []) (cap := []) (vs := [(.own 0 1 (0) (p0)), I y13, (I (w64 (y13 + y7))), I p1, (.fn (.func 96) [] [.ref 1 1 0 0, .ref 2 1 0 0])]) (σr := [(.own 1 ((y14 : List Int).map Qac)), (.own 1 [[(.fn (.func 70) [] [])]]), (.own 1 [[(.dat 4 ((p3 : List GNode).map Qaa))]])]) (σr' := [(.own 1 ((x18 : List Int).map Qac)), (.own 1 [[(.fn (.func 70) [] [])]]), (.own 1 [[(.dat 4 ((p3 : List GNode).map Qaa))]])]) (res' := (.tup [])) [0, 1, 2] rfl enter115 (Qeo N p0 y13 (w64 (y13 + y7)) p1 y14 p3 _ hf17) rfl (Qc3 (rnc (Qen rfl) (rnc (.plain _ nll) (rnc (.plain _ nll) (rnc (.plain _ nll) (rnc (Qa2 rn0 (rnc (Qbz rfl) (rnc (Qbz rfl) rn0))) rn0)))))) (slc (Qby Qaf) (slc (Qat (rnc (.plain _ (NLt.fn _ _ _ nl0 nl0)) rn0)) (slc (Qat (rnc (.plain _ (nld Qag _)) rn0)) Qa0))) (slc (Qby Qaf) (slc (Qat (rnc (.plain _ (NLt.fn _ _ _ nl0 nl0)) rn0)) (slc (Qat (rnc (.plain _ (nld Qag _)) rn0)) Qa0))) (.plain _ (NLt.tup _ nl0)) rfl rfl rfl, trivial⟩
      refine thn ?_
      refine Qar [mv 6 (I y7), rp [(.tmp 61, I y7), ci 2] (I (w64 (y7 * 2))), mv 62 (I (w64 (y7 * 2)))] ?_ ?_
      ·exact ⟨amv rfl, abn rfl rfl, aas rfl, trivial⟩
      refine bln ?_
      refine thn ?_
      exact arm (mto (n := 63) [(0, (.own 0 1 (0) (p0))), (1, I p1), (2, (.fn (.func 96) [] [.ref 1 1 0 0, .ref 2 1 0 0])), (6, (I (w64 (y7 * 2))))] [0, 1, 2] [(.own 1 ((x18 : List Int).map Qac)), (.own 1 [[(.fn (.func 70) [] [])]]), (.own 1 [[(.dat 4 ((p3 : List GNode).map Qaa))]])] hφ0 (pc (.rn (Qaj rfl)) (pc rwl (pc (.rn (Qa2 rn0 (rnc (rqr rfl) (rnc (rqr rfl) rn0)))) (pc rwl pn)))) (qc (spr Qaf) (qc (spb (lc (.rn (Qa2 rn0 rn0)) ln)) (qc (spb (lc (.rn (.plain _ (nld Qag _))) ln)) qn)))) (ih (w64 (y7 * 2), x18) h)
     ·replace h := Qaw hc16 h
      refine wfn hc16 (by kernel_rfl) ?_
      refine Qam ?_
      refine thn ?_
      refine Qar [mv 6 (I y7), rp [(.tmp 61, I y7), ci 2] (I (w64 (y7 * 2))), mv 62 (I (w64 (y7 * 2)))] ?_ ?_
      ·exact ⟨amv rfl, abn rfl rfl, aas rfl, trivial⟩
      refine bln ?_
      refine thn ?_
      exact arm (mto (n := 63) [(0, (.own 0 1 (0) (p0))), (1, I p1), (2, (.fn (.func 96) [] [.ref 1 1 0 0, .ref 2 1 0 0])), (6, (I (w64 (y7 * 2))))] [0, 1, 2] [(.own 1 ((y14 : List Int).map Qac)), (.own 1 [[(.fn (.func 70) [] [])]]), (.own 1 [[(.dat 4 ((p3 : List GNode).map Qaa))]])] hφ0 (pc (.rn (Qaj rfl)) (pc rwl (pc (.rn (Qa2 rn0 (rnc (rqr rfl) (rnc (rqr rfl) rn0)))) (pc rwl pn)))) (qc (spr Qaf) (qc (spb (lc (.rn (Qa2 rn0 rn0)) ln)) (qc (spb (lc (.rn (.plain _ (nld Qag _))) ln)) qn)))) (ih (w64 (y7 * 2), y14) h)
    ·skip
     refine Qan ?_
     refine wmr (mto (n := 63) (l' := [(0, (.own 0 1 (0) (p0))), (1, I p1), (2, (.fn (.func 96) [] [.ref 1 1 0 0, .ref 2 1 0 0])), (6, I y7), (7, I 0), (8, (I ((w64 (2 * y7)))))]) (own' := [(.own 1 ((y8 : List Int).map Qac)), (.own 1 [[(.fn (.func 70) [] [])]]), (.own 1 [[(.dat 4 ((p3 : List GNode).map Qaa))]])]) [(0, (.own 0 1 (0) (p0))), (1, I p1), (2, (.fn (.func 96) [] [.ref 1 1 0 0, .ref 2 1 0 0])), (6, I y7), (7, I 0), (8, (I (w64 (2 * y7))))] [0, 1, 2] [(.own 1 ((y8 : List Int).map Qac)), (.own 1 [[(.fn (.func 70) [] [])]]), (.own 1 [[(.dat 4 ((p3 : List GNode).map Qaa))]])] hφ0 (pc (.rn (Qaj rfl)) (pc rwl (pc (.rn (Qa2 rn0 (rnc (rqr rfl) (rnc (rqr rfl) rn0)))) (pc rwl (pc rwl (pc rwl pn)))))) (qc (spr Qaf) (qc (spb (lc (.rn (Qa2 rn0 rn0)) ln)) (qc (spb (lc (.rn (.plain _ (nld Qag _))) ln)) qn)))) ?_
     refine Qcc (τ := Int × Int × (List Int)) (fun n t => Qb4 N p0 p1 p3 y7 k15 n t.1 t.2.1 t.2.2 = some r) (fun ⟨y19, y20, y21⟩ => ⟨mk 63 [(0, (.own 0 1 (0) (p0))), (1, I p1), (2, (.fn (.func 96) [] [.ref 1 1 0 0, .ref 2 1 0 0])), (6, I y7), (7, I y19), (8, I y20)], [(.own 1 ((y21 : List Int).map Qac)), (.own 1 [[(.fn (.func 70) [] [])]]), (.own 1 [[(.dat 4 ((p3 : List GNode).map Qaa))]])]⟩) (fun t h => by rw [Qb4] at h; cases h) (fun n25 ih t h => ?_) N (0, w64 (2 * y7), y8) h
     obtain ⟨y19, y20, y21⟩ := t
     rw [Qb4] at h
     skip
     refine wsq ?_
     refine wrg [mv 8 (I y20), mv 1 (I p1), rp [(.tmp 33, I y20), (.tmp 34, I p1)] (B ((decide (y20 ≤ p1))))] ?_ ?_
     ·exact ⟨amv rfl, amv rfl, abn rfl rfl, trivial⟩
     rcases bft ((decide (y20 ≤ p1))) with hc26 | hc26
     ·replace h := Qav hc26 h
      refine wft hc26 (by kernel_rfl) ?_
      refine Qam ?_
      refine thn ?_
      refine Qan ?_
      obtain ⟨x28, hf27, h⟩ := bno h
      refine wrg [mv 0 (.own 0 1 (0) (p0)), mv 7 (I y19), mv 7 (I y19), mv 6 (I y7), rp [(.tmp 38, I y19), (.tmp 39, I y7)] (I (w64 (y19 + y7))), mv 8 (I y20), mv 2 (.fn (.func 96) [] [.ref 1 1 0 0, .ref 2 1 0 0]), ⟨[fu 115, (.tmp 36, (.own 0 1 (0) (p0))), (.tmp 37, I y19), (.tmp 40, (I (w64 (y19 + y7)))), (.tmp 41, I y20), (.tmp 42, (.fn (.func 96) [] [.ref 1 1 0 0, .ref 2 1 0 0]))], [(0, (.own 1 ((y21 : List Int).map Qac))), (1, (.own 1 [[(.fn (.func 70) [] [])]])), (2, (.own 1 [[(.dat 4 ((p3 : List GNode).map Qaa))]]))], (.tup []), [(0, (.own 1 ((x28 : List Int).map Qac))), (1, (.own 1 [[(.fn (.func 70) [] [])]])), (2, (.own 1 [[(.dat 4 ((p3 : List GNode).map Qaa))]]))], false⟩] ?_ ?_
      ·exact ⟨amv rfl, amv rfl, amv rfl, amv rfl, abn rfl rfl, amv rfl, amv rfl, Qa4 (first := []) (cap := []) (vs := [(.own 0 1 (0) (p0)), I y19, (I (w64 (y19 + y7))), I y20, (.fn (.func 96) [] [.ref 1 1 0 0, .ref 2 1 0 0])]) (σr := [(.own 1 ((y21 : List Int).map Qac)), (.own 1 [[(.fn (.func 70) [] [])]]), (.own 1 [[(.dat 4 ((p3 : List GNode).map Qaa))]])]) (σr' := [(.own 1 ((x28 : List Int).map Qac)), (.own 1 [[(.fn (.func 70) [] [])]]), (.own 1 [[(.dat 4 ((p3 : List GNode).map Qaa))]])]) (res' := (.tup [])) [0, 1, 2] rfl enter115 (Qeo N p0 y19 (w64 (y19 + y7)) y20 y21 p3 _ hf27) rfl (Qc3 (rnc (Qen rfl) (rnc (.plain _ nll) (rnc (.plain _ nll) (rnc (.plain _ nll) (rnc (Qa2 rn0 (rnc (Qbz rfl) (rnc (Qbz rfl) rn0))) rn0)))))) (slc (Qby Qaf) (slc (Qat (rnc (.plain _ (NLt.fn _ _ _ nl0 nl0)) rn0)) (slc (Qat (rnc (.plain _ (nld Qag _)) rn0)) Qa0))) (slc (Qby Qaf) (slc (Qat (rnc (.plain _ (NLt.fn _ _ _ nl0 nl0)) rn0)) (slc (Qat (rnc (.plain _ (nld Qag _)) rn0)) Qa0))) (.plain _ (NLt.tup _ nl0)) rfl rfl rfl, trivial⟩
      refine wrg [mv 8 (I y20), mv 44 (I y20)] ?_ ?_
      ·exact ⟨amv rfl, aas rfl, trivial⟩
      obtain ⟨x29, hl30, h⟩ := bno h
      refine Qar [mv 8 (I y20), mv 6 (I y7), rp [ci 2, (.tmp 46, I y7)] (I (w64 (2 * y7))), rp [(.tmp 45, I y20), (.tmp 47, (I (w64 (2 * y7))))] (I (w64 (y20 + (w64 (2 * y7))))), rp [(.tmp 48, (I (w64 (y20 + (w64 (2 * y7))))))] (I x29)] ?_ ?_
      ·exact ⟨amv rfl, amv rfl, abn rfl rfl, abn rfl rfl, Qe2 hl30 (aas rfl), trivial⟩
      refine bln ?_
      refine thn ?_
      exact arm (mto (n := 63) [(0, (.own 0 1 (0) (p0))), (1, I p1), (2, (.fn (.func 96) [] [.ref 1 1 0 0, .ref 2 1 0 0])), (6, I y7), (7, I y20), (8, I x29)] [0, 1, 2] [(.own 1 ((x28 : List Int).map Qac)), (.own 1 [[(.fn (.func 70) [] [])]]), (.own 1 [[(.dat 4 ((p3 : List GNode).map Qaa))]])] hφ0 (pc (.rn (Qaj rfl)) (pc rwl (pc (.rn (Qa2 rn0 (rnc (rqr rfl) (rnc (rqr rfl) rn0)))) (pc rwl (pc rwl (pc rwl pn)))))) (qc (spr Qaf) (qc (spb (lc (.rn (Qa2 rn0 rn0)) ln)) (qc (spb (lc (.rn (.plain _ (nld Qag _))) ln)) qn)))) (ih (y20, x29, x28) h)
     ·replace h := Qaw hc26 h
      refine wfn hc26 (by kernel_rfl) ?_
      refine Qbf ?_
      refine Qau ?_
      refine Qau ?_
      refine Qbe rfl ?_
      refine thn ?_
      exact ⟨(y19, y21), h, (mto (n := 63) [(0, (.own 0 1 (0) (p0))), (1, I p1), (2, (.fn (.func 96) [] [.ref 1 1 0 0, .ref 2 1 0 0])), (6, I y7), (7, I y19)] [0, 1, 2] [(.own 1 ((y21 : List Int).map Qac)), (.own 1 [[(.fn (.func 70) [] [])]]), (.own 1 [[(.dat 4 ((p3 : List GNode).map Qaa))]])] hφ0 (pc (.rn (Qaj rfl)) (pc rwl (pc (.rn (Qa2 rn0 (rnc (rqr rfl) (rnc (rqr rfl) rn0)))) (pc rwl (pc rwl pn))))) (qc (spr Qaf) (qc (spb (lc (.rn (Qa2 rn0 rn0)) ln)) (qc (spb (lc (.rn (.plain _ (nld Qag _))) ln)) qn))))⟩
   ·replace h := Qaw hc12 h
    refine wfn hc12 (by kernel_rfl) ?_
    refine Qbf ?_
    refine Qau ?_
    refine Qau ?_
    refine Qbe rfl ?_
    obtain rfl := osi h
    exact ⟨_, (mto (n := 63) (l' := []) (own' := [(.own 1 ((y8 : List Int).map Qac)), (.own 1 [[(.fn (.func 70) [] [])]]), (.own 1 [[(.dat 4 ((p3 : List GNode).map Qaa))]])]) [] [0, 1, 2] [(.own 1 ((y8 : List Int).map Qac)), (.own 1 [[(.fn (.func 70) [] [])]]), (.own 1 [[(.dat 4 ((p3 : List GNode).map Qaa))]])] hφ0 pn (qc (spr Qaf) (qc (spb (lc (.rn (Qa2 rn0 rn0)) ln)) (qc (spb (lc (.rn (.plain _ (nld Qag _))) ln)) qn)))), Qc0 (vs := []) trivial rfl (NLt.tup _ nl0) (by kernel_rfl) (Qay (Qd0 Qaf _) (Qay (Qb2 (nlc (NLt.of0 (NLt.fn _ _ _ nl0 nl0)) nl0)) (Qay (Qb2 (nlc (NLt.of0 (nld Qag _)) nl0)) Qbx)))⟩
  ·skip
   refine Qan ?_
   refine wmr (mto (n := 63) (l' := [(0, (.own 0 1 (0) (p0))), (1, I p1), (2, (.fn (.func 96) [] [.ref 1 1 0 0, .ref 2 1 0 0])), (6, I 20), (7, I 0), (8, I 20)]) (own' := [(.own 1 ((p2 : List Int).map Qac)), (.own 1 [[(.fn (.func 70) [] [])]]), (.own 1 [[(.dat 4 ((p3 : List GNode).map Qaa))]])]) [(0, (.own 0 1 (0) (p0))), (1, I p1), (2, (.fn (.func 96) [] [.ref 1 1 0 0, .ref 2 1 0 0])), (6, I 20), (7, I 0), (8, I 20)] [0, 1, 2] [(.own 1 ((p2 : List Int).map Qac)), (.own 1 [[(.fn (.func 70) [] [])]]), (.own 1 [[(.dat 4 ((p3 : List GNode).map Qaa))]])] hφ0 (pc (.rn (Qaj rfl)) (pc rwl (pc (.rn (Qa2 rn0 (rnc (rqr rfl) (rnc (rqr rfl) rn0)))) (pc rwl (pc rwl (pc rwl pn)))))) (qc (spr Qaf) (qc (spb (lc (.rn (Qa2 rn0 rn0)) ln)) (qc (spb (lc (.rn (.plain _ (nld Qag _))) ln)) qn)))) ?_
   refine Qcc (τ := Int × Int × (List Int)) (fun n t => Qb3 N p0 p1 p3 k4 n t.1 t.2.1 t.2.2 = some r) (fun ⟨y31, y32, y33⟩ => ⟨mk 63 [(0, (.own 0 1 (0) (p0))), (1, I p1), (2, (.fn (.func 96) [] [.ref 1 1 0 0, .ref 2 1 0 0])), (6, I 20), (7, I y31), (8, I y32)], [(.own 1 ((y33 : List Int).map Qac)), (.own 1 [[(.fn (.func 70) [] [])]]), (.own 1 [[(.dat 4 ((p3 : List GNode).map Qaa))]])]⟩) (fun t h => by rw [Qb3] at h; cases h) (fun n37 ih t h => ?_) N (0, 20, p2) h
   obtain ⟨y31, y32, y33⟩ := t
   rw [Qb3] at h
   skip
   refine wsq ?_
   refine wrg [mv 8 (I y32), mv 1 (I p1), rp [(.tmp 11, I y32), (.tmp 12, I p1)] (B ((decide (y32 ≤ p1))))] ?_ ?_
   ·exact ⟨amv rfl, amv rfl, abn rfl rfl, trivial⟩
   rcases bft ((decide (y32 ≤ p1))) with hc38 | hc38
   ·replace h := Qav hc38 h
    refine wft hc38 (by kernel_rfl) ?_
    refine Qam ?_
    refine thn ?_
    refine Qan ?_
    obtain ⟨x40, hf39, h⟩ := bno h
    refine wrg [mv 0 (.own 0 1 (0) (p0)), mv 7 (I y31), mv 8 (I y32), mv 2 (.fn (.func 96) [] [.ref 1 1 0 0, .ref 2 1 0 0]), ⟨[fu 114, (.tmp 14, (.own 0 1 (0) (p0))), (.tmp 15, I y31), (.tmp 16, I y32), (.tmp 17, (.fn (.func 96) [] [.ref 1 1 0 0, .ref 2 1 0 0]))], [(0, (.own 1 ((y33 : List Int).map Qac))), (1, (.own 1 [[(.fn (.func 70) [] [])]])), (2, (.own 1 [[(.dat 4 ((p3 : List GNode).map Qaa))]]))], (.tup []), [(0, (.own 1 ((x40 : List Int).map Qac))), (1, (.own 1 [[(.fn (.func 70) [] [])]])), (2, (.own 1 [[(.dat 4 ((p3 : List GNode).map Qaa))]]))], false⟩] ?_ ?_
    ·exact ⟨amv rfl, amv rfl, amv rfl, amv rfl, Qa4 (first := []) (cap := []) (vs := [(.own 0 1 (0) (p0)), I y31, I y32, (.fn (.func 96) [] [.ref 1 1 0 0, .ref 2 1 0 0])]) (σr := [(.own 1 ((y33 : List Int).map Qac)), (.own 1 [[(.fn (.func 70) [] [])]]), (.own 1 [[(.dat 4 ((p3 : List GNode).map Qaa))]])]) (σr' := [(.own 1 ((x40 : List Int).map Qac)), (.own 1 [[(.fn (.func 70) [] [])]]), (.own 1 [[(.dat 4 ((p3 : List GNode).map Qaa))]])]) (res' := (.tup [])) [0, 1, 2] rfl enter114 (Qd5 N p0 y31 y32 y33 p3 _ hf39) rfl (Qc3 (rnc (Qen rfl) (rnc (.plain _ nll) (rnc (.plain _ nll) (rnc (Qa2 rn0 (rnc (Qbz rfl) (rnc (Qbz rfl) rn0))) rn0))))) (slc (Qby Qaf) (slc (Qat (rnc (.plain _ (NLt.fn _ _ _ nl0 nl0)) rn0)) (slc (Qat (rnc (.plain _ (nld Qag _)) rn0)) Qa0))) (slc (Qby Qaf) (slc (Qat (rnc (.plain _ (NLt.fn _ _ _ nl0 nl0)) rn0)) (slc (Qat (rnc (.plain _ (nld Qag _)) rn0)) Qa0))) (.plain _ (NLt.tup _ nl0)) rfl rfl rfl, trivial⟩
    refine wrg [mv 8 (I y32), mv 19 (I y32)] ?_ ?_
    ·exact ⟨amv rfl, aas rfl, trivial⟩
    refine Qar [mv 8 (I y32), mv 6 (I 20), rp [(.tmp 20, I y32), (.tmp 21, I 20)] (I (w64 (y32 + 20))), mv 22 (I (w64 (y32 + 20)))] ?_ ?_
    ·exact ⟨amv rfl, amv rfl, abn rfl rfl, aas rfl, trivial⟩
    refine bln ?_
    refine thn ?_
    exact arm (mto (n := 63) [(0, (.own 0 1 (0) (p0))), (1, I p1), (2, (.fn (.func 96) [] [.ref 1 1 0 0, .ref 2 1 0 0])), (6, I 20), (7, I y32), (8, (I (w64 (y32 + 20))))] [0, 1, 2] [(.own 1 ((x40 : List Int).map Qac)), (.own 1 [[(.fn (.func 70) [] [])]]), (.own 1 [[(.dat 4 ((p3 : List GNode).map Qaa))]])] hφ0 (pc (.rn (Qaj rfl)) (pc rwl (pc (.rn (Qa2 rn0 (rnc (rqr rfl) (rnc (rqr rfl) rn0)))) (pc rwl (pc rwl (pc rwl pn)))))) (qc (spr Qaf) (qc (spb (lc (.rn (Qa2 rn0 rn0)) ln)) (qc (spb (lc (.rn (.plain _ (nld Qag _))) ln)) qn)))) (ih (y32, w64 (y32 + 20), x40) h)
   ·replace h := Qaw hc38 h
    refine wfn hc38 (by kernel_rfl) ?_
    refine Qbf ?_
    refine Qau ?_
    refine Qau ?_
    refine Qbe rfl ?_
    refine thn ?_
    exact ⟨(y31, y33), h, (mto (n := 63) [(0, (.own 0 1 (0) (p0))), (1, I p1), (2, (.fn (.func 96) [] [.ref 1 1 0 0, .ref 2 1 0 0])), (6, I 20), (7, I y31)] [0, 1, 2] [(.own 1 ((y33 : List Int).map Qac)), (.own 1 [[(.fn (.func 70) [] [])]]), (.own 1 [[(.dat 4 ((p3 : List GNode).map Qaa))]])] hφ0 (pc (.rn (Qaj rfl)) (pc rwl (pc (.rn (Qa2 rn0 (rnc (rqr rfl) (rnc (rqr rfl) rn0)))) (pc rwl (pc rwl pn))))) (qc (spr Qaf) (qc (spb (lc (.rn (Qa2 rn0 rn0)) ln)) (qc (spb (lc (.rn (.plain _ (nld Qag _))) ln)) qn))))⟩

def Qdo (N : Nat) (p0 : Nat) (p1 : (List Int)) (p2 : (List GNode)) : Option (List Int) :=
  (Qeb N p0 ((p0 : Nat) : Int) p1 p2).bind fun x3 =>
  some x3
set_option maxRecDepth 100000 in
set_option maxHeartbeats 4000000 in
theorem Qfk (N : Nat) (p0 : Nat) (p1 : (List Int)) (p2 : (List GNode)) (r : (List Int)) (h : Qdo N p0 p1 p2 = some r) : Spec Try.prog 95 [(.own 0 1 (0) (p0)), (.fn (.func 96) [] [(.ref 1 1 (0) 0), (.ref 2 1 (0) 0)])] [(.own 1 ((p1 : List Int).map Qac)), (.own 1 [[(.fn (.func 70) [] [])]]), (.own 1 [[(.dat 4 ((p2 : List GNode).map Qaa))]])] (.tup []) [(.own 1 ((r : List Int).map Qac)), (.own 1 [[(.fn (.func 70) [] [])]]), (.own 1 [[(.dat 4 ((p2 : List GNode).map Qaa))]])] := by
  refine Qaq Try.func95 rfl 3 (nle rfl) (fun X φ0 w0 hφ0 => ?_)
  unfold Qdo at h
  refine Qc1 ?_
  obtain ⟨x3, hf2, h⟩ := bno h
  refine Qar [mv 0 (.own 0 1 (0) (p0)), mv 0 (.own 0 1 (0) (p0)), rp [(.tmp 5, (.own 0 1 (0) (p0)))] (I (((p0 : Nat) : Int))), mv 1 (.fn (.func 96) [] [.ref 1 1 0 0, .ref 2 1 0 0]), ⟨[fu 110, (.tmp 4, (.own 0 1 (0) (p0))), (.tmp 6, (I (((p0 : Nat) : Int)))), (.tmp 7, (.fn (.func 96) [] [.ref 1 1 0 0, .ref 2 1 0 0]))], [(0, (.own 1 ((p1 : List Int).map Qac))), (1, (.own 1 [[(.fn (.func 70) [] [])]])), (2, (.own 1 [[(.dat 4 ((p2 : List GNode).map Qaa))]]))], (.tup []), [(0, (.own 1 ((x3 : List Int).map Qac))), (1, (.own 1 [[(.fn (.func 70) [] [])]])), (2, (.own 1 [[(.dat 4 ((p2 : List GNode).map Qaa))]]))], false⟩] ?_ ?_
  ·exact ⟨amv rfl, amv rfl, aln rfl Try.underlying23 rfl, amv rfl, Qa4 (first := []) (cap := []) (vs := [(.own 0 1 (0) (p0)), (I (((p0 : Nat) : Int))), (.fn (.func 96) [] [.ref 1 1 0 0, .ref 2 1 0 0])]) (σr := [(.own 1 ((p1 : List Int).map Qac)), (.own 1 [[(.fn (.func 70) [] [])]]), (.own 1 [[(.dat 4 ((p2 : List GNode).map Qaa))]])]) (σr' := [(.own 1 ((x3 : List Int).map Qac)), (.own 1 [[(.fn (.func 70) [] [])]]), (.own 1 [[(.dat 4 ((p2 : List GNode).map Qaa))]])]) (res' := (.tup [])) [0, 1, 2] rfl enter110 (Qgb N p0 ((p0 : Nat) : Int) p1 p2 _ hf2) rfl (Qc3 (rnc (Qen rfl) (rnc (.plain _ nll) (rnc (Qa2 rn0 (rnc (Qbz rfl) (rnc (Qbz rfl) rn0))) rn0)))) (slc (Qby Qaf) (slc (Qat (rnc (.plain _ (NLt.fn _ _ _ nl0 nl0)) rn0)) (slc (Qat (rnc (.plain _ (nld Qag _)) rn0)) Qa0))) (slc (Qby Qaf) (slc (Qat (rnc (.plain _ (NLt.fn _ _ _ nl0 nl0)) rn0)) (slc (Qat (rnc (.plain _ (nld Qag _)) rn0)) Qa0))) (.plain _ (NLt.tup _ nl0)) rfl rfl rfl, trivial⟩
  obtain rfl := osi h
  exact ⟨_, (mto (n := 9) (l' := []) (own' := [(.own 1 ((x3 : List Int).map Qac)), (.own 1 [[(.fn (.func 70) [] [])]]), (.own 1 [[(.dat 4 ((p2 : List GNode).map Qaa))]])]) [] [0, 1, 2] [(.own 1 ((x3 : List Int).map Qac)), (.own 1 [[(.fn (.func 70) [] [])]]), (.own 1 [[(.dat 4 ((p2 : List GNode).map Qaa))]])] hφ0 pn (qc (spr Qaf) (qc (spb (lc (.rn (Qa2 rn0 rn0)) ln)) (qc (spb (lc (.rn (.plain _ (nld Qag _))) ln)) qn)))), Qc0 (vs := []) trivial rfl (NLt.tup _ nl0) (by kernel_rfl) (Qay (Qd0 Qaf _) (Qay (Qb2 (nlc (NLt.of0 (NLt.fn _ _ _ nl0 nl0)) nl0)) (Qay (Qb2 (nlc (NLt.of0 (nld Qag _)) nl0)) Qbx)))⟩

def Qce (N : Nat) (p0 : (List GNode)) (k4 : (List Int) → Option (List Int)) : Nat → Int → (List Int) → Option (List Int)
  | 0, _, _ => none
  | n13 + 1, y9, y10 =>
    bif (decide (y9 < (p0.length : Int))) then
     chk (decide ((y10.length + ([y9]).length) * 8 ≤ 140737488355328)) <|
     Qce N p0 k4 n13 (w64 (y9 + 1)) (y10 ++ ([y9]))
    else
     k4 (y10)
def Qer (N : Nat) (p0 : (List GNode)) : Option (List Int) :=
  Qca (fun y3 =>
    chk (!y3.isEmpty) <|
    (Qdo N y3.length y3 p0).bind fun x7 =>
    chk (decide (y3.length ≤ x7.length)) <|
    some (x7.take y3.length)) fun k4 : (List Int) → Option (List Int) =>
  Qce N p0 k4 N 0 ([] : List Int)
set_option maxRecDepth 100000 in
set_option maxHeartbeats 4000000 in
theorem Qgo (N : Nat) (p0 : (List GNode)) (r : (List Int)) (h : Qer N p0 = some r) : Spec Try.prog 69 [(.dat 4 ((p0 : List GNode).map Qaa)), (.fn (.func 70) [] [])] [] (.dat 1 ((r : List Int).map Qac)) [] := by
  refine Qaq Try.func69 rfl 0 (nle rfl) (fun X φ0 w0 hφ0 => ?_)
  unfold Qer at h
  refine Qc1 ?_
  refine wrg [⟨[(.tmp 0, (.dat 4 ((p0 : List GNode).map Qaa)))], [(0, .unused)], .ref 0 1 0 0, [(0, (.own 1 [[(.dat 4 ((p0 : List GNode).map Qaa))]]))], false⟩, ⟨[(.tmp 1, (.fn (.func 70) [] []))], [(1, .unused)], .ref 1 1 0 0, [(1, (.own 1 [[(.fn (.func 70) [] [])]]))], false⟩, mc (.slice none 0 0)] ?_ ?_
  ·exact ⟨Qbu rfl (by rfl) rfl rfl, Qbu rfl (by rfl) rfl rfl, aas rfl, trivial⟩
  refine wrg [mc (.slice none 0 0)] ?_ ?_
  ·exact ⟨aas rfl, trivial⟩
  obtain ⟨k4, hk_k4, h⟩ := jko h
  refine wjn (τ := (List Int)) (fun t => k4 t = some r) (fun y3 => ⟨mk 21 [(2, .ref 0 1 0 0), (3, .ref 1 1 0 0), (5, (.gro 2 3 1 (y3.length)))], [(.own 1 [[(.dat 4 ((p0 : List GNode).map Qaa))]]), (.own 1 [[(.fn (.func 70) [] [])]]), (.gro 1 ((y3 : List Int).map Qac))]⟩) (fun y3 h => ?_) ?_
  ·subst hk_k4
   obtain ⟨hz5, h⟩ := cko h
   obtain ⟨x7, hf6, h⟩ := bno h
   refine wrg [mv 5 (.gro 2 3 1 (y3.length)), rp [(.tmp 3, .ref 1 1 0 0), (.tmp 2, .ref 0 1 0 0)] (.fn (.func 96) [] [.ref 1 1 0 0, .ref 0 1 0 0]), ⟨[fu 95, (.tmp 17, (.gro 2 3 1 (y3.length))), (.tmp 18, (.fn (.func 96) [] [.ref 1 1 0 0, .ref 0 1 0 0]))], [(2, (.gro 1 ((y3 : List Int).map Qac))), (1, (.own 1 [[(.fn (.func 70) [] [])]])), (0, (.own 1 [[(.dat 4 ((p0 : List GNode).map Qaa))]]))], (.tup []), [(2, (.own 1 ((x7 : List Int).map Qac))), (1, (.own 1 [[(.fn (.func 70) [] [])]])), (0, (.own 1 [[(.dat 4 ((p0 : List GNode).map Qaa))]]))], false⟩] ?_ ?_
   ·exact ⟨amv rfl, Qfq (fs := []) (cs := [.ref 1 1 0 0, .ref 0 1 0 0]) rfl rfl rfl rfl, astep_weakB (bl' := [(2, (.own 1 ((y3 : List Int).map Qac))), (1, (.own 1 [[(.fn (.func 70) [] [])]])), (0, (.own 1 [[(.dat 4 ((p0 : List GNode).map Qaa))]]))]) ⟨rfl, SLess.gro (Qhb hz5), rfl, SLess.rfl, rfl, SLess.rfl, trivial⟩ (awk (rd' := [fu 95, (.tmp 17, (.own 2 1 (0) (y3.length))), (.tmp 18, (.fn (.func 96) [] [.ref 1 1 0 0, .ref 0 1 0 0]))]) ⟨rfl, lrf, rfl, Less.gro, rfl, lrf, trivial⟩ (Qa4 (first := []) (cap := []) (vs := [(.own 2 1 (0) (y3.length)), (.fn (.func 96) [] [.ref 1 1 0 0, .ref 0 1 0 0])]) (σr := [(.own 1 ((y3 : List Int).map Qac)), (.own 1 [[(.fn (.func 70) [] [])]]), (.own 1 [[(.dat 4 ((p0 : List GNode).map Qaa))]])]) (σr' := [(.own 1 ((x7 : List Int).map Qac)), (.own 1 [[(.fn (.func 70) [] [])]]), (.own 1 [[(.dat 4 ((p0 : List GNode).map Qaa))]])]) (res' := (.tup [])) [2, 1, 0] rfl enter95 (Qfk N y3.length y3 p0 _ hf6) rfl (Qc3 (rnc (Qen rfl) (rnc (Qa2 rn0 (rnc (Qbz rfl) (rnc (Qbz rfl) rn0))) rn0))) (slc (Qby Qaf) (slc (Qat (rnc (.plain _ (NLt.fn _ _ _ nl0 nl0)) rn0)) (slc (Qat (rnc (.plain _ (nld Qag _)) rn0)) Qa0))) (slc (Qby Qaf) (slc (Qat (rnc (.plain _ (NLt.fn _ _ _ nl0 nl0)) rn0)) (slc (Qat (rnc (.plain _ (nld Qag _)) rn0)) Qa0))) (.plain _ (NLt.tup _ nl0)) rfl rfl rfl)), trivial⟩
   refine wrg [mv 5 (.gro 2 3 1 (y3.length)), mv 20 (.gro 2 3 1 (y3.length))] ?_ ?_
   ·exact ⟨amv rfl, aas rfl, trivial⟩
   obtain ⟨hz8, h⟩ := cko h
   refine wmr (mor_less (n := 21) (l' := [(4, (.own 2 1 (0) (y3.length)))]) [(4, (.gro 2 3 1 (y3.length)))] (by kernel_rfl) (by kernel_rfl) ⟨rfl, Less.gro, trivial⟩) ?_
   refine wmr (mor_fz (n := 21) (l' := [(4, (.dat 1 ((x7.take y3.length : List Int).map Qac)))]) 2 [(4, (.own 2 1 (0) (y3.length)))] (by kernel_rfl) (by kernel_rfl) (by kernel_rfl) ⟨rfl, (Qig hz8), trivial⟩ rfl) ?_
   refine wmr (mto (n := 21) (l' := [(4, (.dat 1 ((x7.take y3.length : List Int).map Qac)))]) (own' := []) [(4, (.dat 1 ((x7.take y3.length : List Int).map Qac)))] [] [] hφ0 (pc (.rn (.plain _ (nld Qaf _))) pn) qn) ?_
   refine Qak ?_
   obtain rfl := osi h
   exact ⟨_, Mor.rfl, Qc0 (vs := [(.dat 1 ((x7.take y3.length : List Int).map Qac))]) ⟨rot (by kernel_rfl), trivial⟩ rfl (nld Qaf _) (by kernel_rfl) Qbx⟩
  ·skip
   refine wrg [rb [(.tmp 2, .ref 0 1 0 0)] [(0, (.own 1 [[(.dat 4 ((p0 : List GNode).map Qaa))]]))] (.dat 4 ((p0 : List GNode).map Qaa)), rp [(.tmp 7, (.dat 4 ((p0 : List GNode).map Qaa)))] (I ((p0.length : Int))), mc (.int .i64 0)] ?_ ?_
   ·exact ⟨ald rfl ti30 (by decide) rfl (nle rfl) rfl, alm (c := Qaa) (l := p0) (aln rfl Try.underlying30 rfl), amv rfl, trivial⟩
   refine Qan ?_
   refine wmr (Mor.trans (mor_nilG 2 3 1 5 (by kernel_rfl) (by kernel_rfl)) (mto (n := 21) (l' := [(2, .ref 0 1 0 0), (3, .ref 1 1 0 0), (5, (.gro 2 3 1 (([] : List Int).length))), (8, (I ((p0.length : Int)))), (9, I 0)]) (own' := [(.own 1 [[(.dat 4 ((p0 : List GNode).map Qaa))]]), (.own 1 [[(.fn (.func 70) [] [])]]), (.gro 1 ((([] : List Int) : List Int).map Qac))]) [(2, .ref 0 1 0 0), (3, .ref 1 1 0 0), (5, (.gro 2 3 1 (([] : List Int).length))), (8, (I ((p0.length : Int)))), (9, I 0)] [0, 1, 2] [(.own 1 [[(.dat 4 ((p0 : List GNode).map Qaa))]]), (.own 1 [[(.fn (.func 70) [] [])]]), (.gro 1 ((([] : List Int) : List Int).map Qac))] hφ0 (pc (.rn (rqr rfl)) (pc (.rn (rqr rfl)) (pc (.rn (rnq_gro rfl)) (pc rwl (pc rwl pn))))) (qc (spb (lc (.rn (.plain _ (nld Qag _))) ln)) (qc (spb (lc (.rn (Qa2 rn0 rn0)) ln)) (qc (spw_grow Qaf) qn))))) ?_
   refine Qcc (τ := Int × (List Int)) (fun n t => Qce N p0 k4 n t.1 t.2 = some r) (fun ⟨y9, y10⟩ => ⟨mk 21 [(2, .ref 0 1 0 0), (3, .ref 1 1 0 0), (5, (.gro 2 3 1 (y10.length))), (8, (I ((p0.length : Int)))), (9, I y9)], [(.own 1 [[(.dat 4 ((p0 : List GNode).map Qaa))]]), (.own 1 [[(.fn (.func 70) [] [])]]), (.gro 1 ((y10 : List Int).map Qac))]⟩) (fun t h => by rw [Qce] at h; cases h) (fun n13 ih t h => ?_) N (0, ([] : List Int)) h
   obtain ⟨y9, y10⟩ := t
   rw [Qce] at h
   skip
   refine wrg [rp [(.tmp 9, I y9), (.tmp 8, (I ((p0.length : Int))))] (B ((decide (y9 < (p0.length : Int)))))] ?_ ?_
   ·exact ⟨abn rfl rfl, trivial⟩
   refine wsq ?_
   rcases bft ((decide (y9 < (p0.length : Int)))) with hc14 | hc14
   ·replace h := Qav hc14 h
    refine wft hc14 (by kernel_rfl) ?_
    refine Qam ?_
    refine thn ?_
    refine wsq ?_
    refine Qan ?_
    refine wrg [mv 9 (I y9), mv 11 (I y9)] ?_ ?_
    ·exact ⟨amv rfl, aas rfl, trivial⟩
    obtain ⟨ha15, h⟩ := cko h
    refine Qar [mv 5 (.gro 2 3 1 (y10.length)), mv 6 (I y9), rp [(.tmp 13, I y9)] (.dat 1 (([y9] : List Int).map Qac)), ⟨[(.tmp 12, (.gro 2 3 1 (y10.length))), (.tmp 14, (.dat 1 (([y9] : List Int).map Qac)))], [(2, (.gro 1 ((y10 : List Int).map Qac))), (3, .unused)], (.gro 3 3 1 ((y10 ++ ([y9])).length)), [(2, .dead), (3, (.gro 1 ((y10 ++ ([y9]) : List Int).map Qac)))], false⟩, mv 15 (.gro 3 3 1 ((y10 ++ ([y9])).length))] ?_ ?_
    ·exact ⟨amv rfl, amv rfl, Qbg (vs := [I y9]) rfl Try.underlying23 ti3 tz3 rfl (by decide) rfl (by decide) (by rfl) (by rfl) (by rfl) rfl, astep_appGm (c := Qac) (a := y10) (b := [y9]) rfl Try.underlying23 te3 rfl (Qhb rfl) (by rfl) ha15 (by decide), aas rfl, trivial⟩
    refine bln ?_
    refine thn ?_
    refine Qar [rp [(.tmp 9, I y9), ci 1] (I (w64 (y9 + 1))), mv 16 (I (w64 (y9 + 1)))] ?_ ?_
    ·exact ⟨abn rfl rfl, amv rfl, trivial⟩
    refine thn ?_
    exact arm (mto (n := 21) [(2, .ref 0 1 0 0), (3, .ref 1 1 0 0), (5, (.gro 3 3 1 ((y10 ++ ([y9])).length))), (8, (I ((p0.length : Int)))), (9, (I (w64 (y9 + 1))))] [0, 1, 3] [(.own 1 [[(.dat 4 ((p0 : List GNode).map Qaa))]]), (.own 1 [[(.fn (.func 70) [] [])]]), (.gro 1 ((y10 ++ ([y9]) : List Int).map Qac))] hφ0 (pc (.rn (rqr rfl)) (pc (.rn (rqr rfl)) (pc (.rn (rnq_gro rfl)) (pc rwl (pc rwl pn))))) (qc (spb (lc (.rn (.plain _ (nld Qag _))) ln)) (qc (spb (lc (.rn (Qa2 rn0 rn0)) ln)) (qc (spw_grow Qaf) qn)))) (ih (w64 (y9 + 1), y10 ++ ([y9])) h)
   ·replace h := Qaw hc14 h
    refine wfn hc14 (by kernel_rfl) ?_
    refine Qbf ?_
    refine Qau ?_
    refine Qau ?_
    refine Qbe rfl ?_
    refine thn ?_
    exact ⟨(y10), h, (mto (n := 21) [(2, .ref 0 1 0 0), (3, .ref 1 1 0 0), (5, (.gro 2 3 1 (y10.length)))] [0, 1, 2] [(.own 1 [[(.dat 4 ((p0 : List GNode).map Qaa))]]), (.own 1 [[(.fn (.func 70) [] [])]]), (.gro 1 ((y10 : List Int).map Qac))] hφ0 (pc (.rn (rqr rfl)) (pc (.rn (rqr rfl)) (pc (.rn (rnq_gro rfl)) pn))) (qc (spb (lc (.rn (.plain _ (nld Qag _))) ln)) (qc (spb (lc (.rn (Qa2 rn0 rn0)) ln)) (qc (spw_grow Qaf) qn))))⟩

def Qc8 (N : Nat) (p0 : (List GNode)) (p1 : Nat) (p2 : (List Int)) (k7 : (List Int) → Option (List Int)) : (List (Int × GNode)) → (List Int) → Option (List Int)
  | [], y13 =>
    k7 (y13)
  | x16 :: q17, y13 =>
    (Qep N x16.1 ((p2.take p1).length) p0 y13).bind fun x26 =>
    Qc8 N p0 p1 p2 k7 q17 x26
def Qfu (N : Nat) (p0 : (List GNode)) (p1 : Nat) (p2 : (List Int)) : Option (List Int) :=
  chk (decide (p1 ≤ p2.length)) <|
  (Qd8 N (p2.take p1)).bind fun _ =>
  Qca (fun y6 =>
    chk (decide ((p2.take p1).length ≤ y6.length)) <|
    some (y6.take ((p2.take p1).length))) fun k7 : (List Int) → Option (List Int) =>
  (Qa8 N p0).bind fun _ =>
  (Qa7 N p0).bind fun q11 =>
  Qc8 N p0 p1 p2 k7 q11 (p2.take p1)
set_option maxRecDepth 100000 in
set_option maxHeartbeats 4000000 in
theorem Qhk (N : Nat) (p0 : (List GNode)) (p1 : Nat) (p2 : (List Int)) (r : (List Int)) (h : Qfu N p0 p1 p2 = some r) : Spec Try.prog 71 [(.dat 4 ((p0 : List GNode).map Qaa)), (.own 0 1 (0) (p1))] [(.own 1 ((p2 : List Int).map Qac))] (.dat 1 ((r : List Int).map Qac)) [(.own 1 ((p2 : List Int).map Qac))] := by
  refine Qaq Try.func71 rfl 1 (nle rfl) (fun X φ0 w0 hφ0 => ?_)
  unfold Qfu at h
  refine Qc1 ?_
  refine wrg [⟨[(.tmp 0, (.dat 4 ((p0 : List GNode).map Qaa)))], [(1, .unused)], .ref 1 1 0 0, [(1, (.own 1 [[(.dat 4 ((p0 : List GNode).map Qaa))]]))], false⟩, mc (.slice none 0 0)] ?_ ?_
  ·exact ⟨Qbu rfl (by rfl) rfl rfl, aas rfl, trivial⟩
  obtain ⟨hz3, h⟩ := cko h
  obtain ⟨x5, hf4, h⟩ := bno h
  refine wrg [mv 1 (.own 0 1 (0) (p1)), ⟨[fu 97, (.tmp 8, (.own 0 1 (0) (p1)))], [(0, (.own 1 ((p2 : List Int).map Qac))), (2, .unused)], (.own 2 1 (0) ((p2.take p1).length)), [(2, (.own 1 ((p2.take p1 : List Int).map Qac)))], false⟩, ⟨[], [(3, .unused)], .ref 3 1 0 0, [(3, .own 1 [[nilS]])], false⟩, ⟨[(.tmp 5, .ref 3 1 0 0), (.tmp 9, (.own 2 1 (0) ((p2.take p1).length)))], [(3, .own 1 [[nilS]])], .any, [(3, (.own 1 [[(.own 2 1 (0) ((p2.take p1).length))]]))], false⟩] ?_ ?_
  ·exact ⟨amv rfl, Qi1 (rd' := [fu 97, (.tmp 8, (.dat 1 ((p2.take p1 : List Int).map Qac)))]) [(0, 1, (p2 : List Int).map Qac)] ⟨rfl, .same _, rfl, (cv_take 0 rfl hz3), trivial⟩ (by rfl) (.own _ _ _ _ (nin rfl)) (sfr_cons (.own _ _ (fresh_rows lit_i64 _)) sfr_nil) (Qa4 (first := []) (cap := []) (vs := [(.dat 1 ((p2.take p1 : List Int).map Qac))]) (σr := []) (σr' := [(.own 1 ((p2.take p1 : List Int).map Qac))]) (res' := (.own 2 1 (0) ((p2.take p1).length))) [2] rfl enter97 (Qff N (p2.take p1) _ hf4) rfl (Qc3 (rnc (.plain _ (nld Qaf _)) rn0)) Qa0 (slc (Qby Qaf) Qa0) (Qgw rfl) rfl rfl rfl), Qaz rfl tz23 rfl, ast rfl ti23 (by rfl) rfl (nle rfl) rfl, trivial⟩
  refine wrg [rp [(.tmp 5, .ref 3 1 0 0), (.tmp 2, .ref 1 1 0 0)] (.fn (.func 98) [] [.ref 3 1 0 0, .ref 1 1 0 0]), ⟨[], [(4, .unused)], .ref 4 1 0 0, [(4, (.own 1 [[(.lit .nilFunc)]]))], false⟩, ⟨[(.tmp 6, .ref 4 1 0 0), (.tmp 10, (.fn (.func 98) [] [.ref 3 1 0 0, .ref 1 1 0 0]))], [(4, (.own 1 [[(.lit .nilFunc)]]))], .any, [(4, (.own 1 [[(.fn (.func 98) [] [.ref 3 1 0 0, .ref 1 1 0 0])]]))], false⟩] ?_ ?_
  ·exact ⟨Qfq (fs := []) (cs := [.ref 3 1 0 0, .ref 1 1 0 0]) rfl rfl rfl rfl, Qaz rfl tz175 rfl, ast rfl ti175 (by rfl) rfl (nle rfl) rfl, trivial⟩
  obtain ⟨k7, hk_k7, h⟩ := jko h
  refine wjn (τ := (List Int)) (fun t => k7 t = some r) (fun y6 => ⟨mk 19 [(5, .ref 1 1 0 0)], [(.own 1 ((p2 : List Int).map Qac)), (.own 1 [[(.own 2 1 (0) ((p2.take p1).length))]]), (.own 1 ((y6 : List Int).map Qac))]⟩) (fun y6 h => ?_) ?_
  ·subst hk_k7
   refine wrg [rb [(.tmp 5, .ref 1 1 0 0)] [(1, (.own 1 [[(.own 2 1 (0) ((p2.take p1).length))]]))] (.own 2 1 (0) ((p2.take p1).length)), mv 18 (.own 2 1 (0) ((p2.take p1).length))] ?_ ?_
   ·exact ⟨ald rfl ti23 (by decide) rfl (nle rfl) rfl, aas rfl, trivial⟩
   obtain ⟨hz8, h⟩ := cko h
   refine wmr (mor_fz (n := 19) (l' := [(4, (.dat 1 ((y6.take ((p2.take p1).length) : List Int).map Qac)))]) 2 [(4, (.own 2 1 (0) ((p2.take p1).length)))] (by kernel_rfl) (by kernel_rfl) (by kernel_rfl) ⟨rfl, (Qig hz8), trivial⟩ rfl) ?_
   refine wmr (mto (n := 19) (l' := [(4, (.dat 1 ((y6.take ((p2.take p1).length) : List Int).map Qac)))]) (own' := [(.own 1 ((p2 : List Int).map Qac))]) [(4, (.dat 1 ((y6.take ((p2.take p1).length) : List Int).map Qac)))] [0] [(.own 1 ((p2 : List Int).map Qac))] hφ0 (pc (.rn (.plain _ (nld Qaf _))) pn) (qc (spr Qaf) qn)) ?_
   refine Qak ?_
   obtain rfl := osi h
   exact ⟨_, Mor.rfl, Qc0 (vs := [(.dat 1 ((y6.take ((p2.take p1).length) : List Int).map Qac))]) ⟨rot (by kernel_rfl), trivial⟩ rfl (NLt.of0 (nld Qaf _)) (by kernel_rfl) (Qay (Qd0 Qaf _) Qbx)⟩
  ·skip
   obtain ⟨x10, hf9, h⟩ := bno h
   refine wrg [rb [(.tmp 2, .ref 1 1 0 0)] [(1, (.own 1 [[(.dat 4 ((p0 : List GNode).map Qaa))]]))] (.dat 4 ((p0 : List GNode).map Qaa)), ⟨[fu 86, (.tmp 11, (.dat 4 ((p0 : List GNode).map Qaa)))], [(5, .unused)], (.fn (.func 105) [] [.ref 5 1 0 0]), [(5, (.own 1 [[(.dat 4 ((p0 : List GNode).map Qaa))]]))], false⟩] ?_ ?_
   ·exact ⟨ald rfl ti31 (by decide) rfl (nle rfl) rfl, Qa4 (first := []) (cap := []) (vs := [(.dat 4 ((p0 : List GNode).map Qaa))]) (σr := []) (σr' := [(.own 1 [[(.dat 4 ((p0 : List GNode).map Qaa))]])]) (res' := (.fn (.func 105) [] [.ref 5 1 0 0])) [5] rfl enter86 (Qcs N p0 _ hf9) rfl (Qc3 (rnc (.plain _ (nld Qag _)) rn0)) Qa0 (slc (Qat (rnc (.plain _ (nld Qag _)) rn0)) Qa0) (Qa2 rn0 (rnc (Qfw rfl) rn0)) rfl rfl rfl, trivial⟩
   refine Qan ?_
   obtain ⟨q11, hL12, h⟩ := bno h
   refine wmr (mto (n := 19) (l' := [(5, .ref 1 1 0 0), (6, .ref 2 1 0 0), (12, (.fn (.func 105) [] [.ref 3 1 0 0]))]) (own' := [(.own 1 ((p2 : List Int).map Qac)), (.own 1 [[(.own 4 1 (0) ((p2.take p1).length))]]), (.own 1 [[(.fn (.func 98) [] [.ref 1 1 0 0, .ref 5 1 0 0])]]), (.own 1 [[(.dat 4 ((p0 : List GNode).map Qaa))]]), (.own 1 ((p2.take p1 : List Int).map Qac)), (.own 1 [[(.dat 4 ((p0 : List GNode).map Qaa))]])]) [(5, .ref 3 1 0 0), (6, .ref 4 1 0 0), (12, (.fn (.func 105) [] [.ref 5 1 0 0]))] [0, 3, 4, 5, 2, 1] [(.own 1 ((p2 : List Int).map Qac)), (.own 1 [[(.own 2 1 (0) ((p2.take p1).length))]]), (.own 1 [[(.fn (.func 98) [] [.ref 3 1 0 0, .ref 1 1 0 0])]]), (.own 1 [[(.dat 4 ((p0 : List GNode).map Qaa))]]), (.own 1 ((p2.take p1 : List Int).map Qac)), (.own 1 [[(.dat 4 ((p0 : List GNode).map Qaa))]])] hφ0 (pc (.rn (rqr rfl)) (pc (.rn (rqr rfl)) (pc (.rn (Qa2 rn0 (rnc (rqr rfl) rn0))) pn))) (qc (spr Qaf) (qc (spb (lc (.rn (Qaj rfl)) ln)) (qc (spb (lc (.rn (Qa2 rn0 (rnc (rqr rfl) (rnc (rqr rfl) rn0)))) ln)) (qc (spb (lc (.rn (.plain _ (nld Qag _))) ln)) (qc (spr Qaf) (qc (spb (lc (.rn (.plain _ (nld Qag _))) ln)) qn))))))) ?_
   refine Qg5 (τ := ((List Int))) (kb := 6) (caps := [.ref 3 1 0 0]) (σr := [(.own 1 [[(.dat 4 ((p0 : List GNode).map Qaa))]])]) (encs := fun x => [(.int .i64 (x.1)), (.agg #[(.int .i64 (x.2.Parent)), (.int .i64 (x.2.Loss)), (.int .i64 (x.2.Limit)), (.int .i64 (x.2.Rank))])]) (fun x => [I x.1, (.agg [I x.2.Parent, I x.2.Loss, I x.2.Limit, I x.2.Rank])]) [3] (fun n hn => hφ0 n (Nat.le_trans (nle rfl) hn)) (Qcr N p0 _ hL12) enter105 (by kernel_rfl) (by kernel_rfl) (Qc3 (rnc (Qfw rfl) rn0)) (slc (Qat (rnc (.plain _ (nld Qag _)) rn0)) Qa0) (by kernel_rfl) (fun _ => rfl) (fun x => ⟨lrf, (Less.unlits [(.int .i64 (x.2.Parent)), (.int .i64 (x.2.Loss)), (.int .i64 (x.2.Limit)), (.int .i64 (x.2.Rank))]), trivial⟩) (nlt_mk (Qd9 (NLt.ref _ _ _ _ (by decide)) (Qd9 (NLt.ref _ _ _ _ (by decide)) (Qd9 (NLt.fn _ _ _ nl0 (nlc (NLt.ref _ _ _ _ (by decide)) nl0)) nlp_nil)))) (fun y13 => [(.own 1 ((p2 : List Int).map Qac)), (.own 1 [[(.own 4 1 (0) ((p2.take p1).length))]]), (.own 1 [[(.fn (.func 98) [] [.ref 1 1 0 0, .ref 5 1 0 0])]]), .dead, (.own 1 ((y13 : List Int).map Qac)), (.own 1 [[(.dat 4 ((p0 : List GNode).map Qaa))]])]) (fun _ => rfl) (fun _ => rfl) (fun l t => Qc8 N p0 p1 p2 k7 l t = some r) (p2.take p1) h (by kernel_rfl) ?_ ?_
   ·intro l18 o19 X22 φ23 w24 hφ21 x16 q17 y13 h
    rw [Qc8] at h
    refine Qar [mv 13 (I x16.1)] ?_ ?_
    ·exact ⟨aas rfl, trivial⟩
    refine ⟨by kernel_rfl, fun o20 => ?_⟩
    refine Qan ?_
    obtain ⟨x26, hf25, h⟩ := bno h
    refine Qar [rb [(.tmp 6, .ref 2 1 0 0)] [(2, (.own 1 [[(.fn (.func 98) [] [.ref 1 1 0 0, .ref 5 1 0 0])]]))] (.fn (.func 98) [] [.ref 1 1 0 0, .ref 5 1 0 0]), mv 7 (I x16.1), ⟨[(.tmp 15, (.fn (.func 98) [] [.ref 1 1 0 0, .ref 5 1 0 0])), (.tmp 16, I x16.1)], [(1, (.own 1 [[(.own 4 1 (0) ((p2.take p1).length))]])), (5, (.own 1 [[(.dat 4 ((p0 : List GNode).map Qaa))]])), (4, (.own 1 ((y13 : List Int).map Qac)))], (.tup []), [(1, (.own 1 [[(.own 4 1 (0) ((p2.take p1).length))]])), (5, (.own 1 [[(.dat 4 ((p0 : List GNode).map Qaa))]])), (4, (.own 1 ((x26 : List Int).map Qac)))], false⟩] ?_ ?_
    ·exact ⟨ald rfl ti175 (by decide) rfl (nle rfl) rfl, amv rfl, Qa4 (first := []) (cap := [.ref 1 1 0 0, .ref 5 1 0 0]) (vs := [I x16.1]) (σr := [(.own 1 [[(.own 4 1 (0) ((p2.take p1).length))]]), (.own 1 [[(.dat 4 ((p0 : List GNode).map Qaa))]]), (.own 1 ((y13 : List Int).map Qac))]) (σr' := [(.own 1 [[(.own 4 1 (0) ((p2.take p1).length))]]), (.own 1 [[(.dat 4 ((p0 : List GNode).map Qaa))]]), (.own 1 ((x26 : List Int).map Qac))]) (res' := (.tup [])) [1, 5, 4] rfl enter98 (Qft N x16.1 ((p2.take p1).length) p0 y13 _ hf25) rfl (Qc3 (rnc (.plain _ nll) (rnc (Qbz rfl) (rnc (Qbz rfl) rn0)))) (slc (Qat (rnc (Qen rfl) rn0)) (slc (Qat (rnc (.plain _ (nld Qag _)) rn0)) (slc (Qby Qaf) Qa0))) (slc (Qat (rnc (Qgw rfl) rn0)) (slc (Qat (rnc (.plain _ (nld Qag _)) rn0)) (slc (Qby Qaf) Qa0))) (.plain _ (NLt.tup _ nl0)) rfl rfl rfl, trivial⟩
    refine bln ?_
    exact ⟨(x26), h, ren_to (own' := [(.own 1 ((p2 : List Int).map Qac)), (.own 1 [[(.own 4 1 (0) ((p2.take p1).length))]]), (.own 1 [[(.fn (.func 98) [] [.ref 1 1 0 0, .ref 5 1 0 0])]]), .dead, (.own 1 ((x26 : List Int).map Qac)), (.own 1 [[(.dat 4 ((p0 : List GNode).map Qaa))]]), (.far (farL l18 o20))]) [0, 1, 2, 3, 4, 5, 6] [(.own 1 ((p2 : List Int).map Qac)), (.own 1 [[(.own 4 1 (0) ((p2.take p1).length))]]), (.own 1 [[(.fn (.func 98) [] [.ref 1 1 0 0, .ref 5 1 0 0])]]), .dead, (.own 1 ((x26 : List Int).map Qac)), (.own 1 [[(.dat 4 ((p0 : List GNode).map Qaa))]]), (.far (farL l18 o20))] (by kernel_rfl) (by kernel_rfl) ⟨(spr Qaf), (spb (lc (.rn (Qaj rfl)) ln)), (spb (lc (.rn (Qa2 rn0 (rnc (rqr rfl) (rnc (rqr rfl) rn0)))) ln)), .dead, (spr Qaf), (spb (lc (.rn (.plain _ (nld Qag _))) ln)), .far _, trivial⟩⟩
   ·intro y13 h
    rw [Qc8] at h
    refine bln ?_
    refine thn ?_
    exact ⟨(y13), h, (mto (n := 19) [(5, .ref 1 1 0 0)] [0, 1, 4] [(.own 1 ((p2 : List Int).map Qac)), (.own 1 [[(.own 4 1 (0) ((p2.take p1).length))]]), (.own 1 ((y13 : List Int).map Qac))] hφ0 (pc (.rn (rqr rfl)) pn) (qc (spr Qaf) (qc (spb (lc (.rn (Qaj rfl)) ln)) (qc (spr Qaf) qn))))⟩

def Qdc (N : Nat) (p0 : (List GNode)) (p1 : (List Int)) (p2 : Int) (k15 : Int × (List Bool) → Option ((List Bool) × Int × Int)) (x18 : (List Int)) : Nat → Int → Int → (List Bool) → (List Int) → Option ((List Bool) × Int × Int)
  | 0, _, _, _, _ => none
  | n27 + 1, y19, y20, y21, y22 =>
    bif (decide (y20 < (x18.length : Int))) then
     (getI x18 y20).bind fun x29 =>
     (getI p1 x29).bind fun x33 =>
     bif (x33 == 0) then
      Qdc N p0 p1 p2 k15 x18 n27 y19 (w64 (y20 + 1)) y21 y22
     else
      chk (decide (0 ≤ x29) && decide (x29.toNat < (p0.length : Int).toNat)) <|
      (y22[x29.toNat]?).bind fun _ =>
      (Qfu N p0 ((p0.length : Int).toNat) (y22.set x29.toNat x33)).bind fun x42 =>
      Qca (fun _ =>
        (getI x42 0).bind fun x44 =>
        chk (decide (0 ≤ x29) && decide (x29.toNat < (p0.length : Int).toNat)) <|
        (y21[x29.toNat]?).bind fun _ =>
        Qdc N p0 p1 p2 k15 x18 n27 x44 (w64 (y20 + 1)) (y21.set x29.toNat true) (y22.set x29.toNat x33)) fun k43 : Unit → Option ((List Bool) × Int × Int) =>
      (Qfs N p0 x42).bind fun x52 =>
      bif (decide (x52 ≥ 0)) then
       chk (decide (0 ≤ x29) && decide (x29.toNat < (p0.length : Int).toNat)) <|
       ((y22.set x29.toNat x33)[x29.toNat]?).bind fun _ =>
       Qdc N p0 p1 p2 k15 x18 n27 y19 (w64 (y20 + 1)) y21 ((y22.set x29.toNat x33).set x29.toNat 0)
      else
       (getI x42 0).bind fun x57 =>
       bif (decide (x57 > p2)) then
        chk (decide (0 ≤ x29) && decide (x29.toNat < (p0.length : Int).toNat)) <|
        ((y22.set x29.toNat x33)[x29.toNat]?).bind fun _ =>
        Qdc N p0 p1 p2 k15 x18 n27 y19 (w64 (y20 + 1)) y21 ((y22.set x29.toNat x33).set x29.toNat 0)
       else
        k43 ()
    else
     k15 (y19, y21)
def Qh3 (N : Nat) (p0 : (List GNode)) (p1 : (List Int)) (p2 : Int) : Option ((List Bool) × Int × Int) :=
  (Qhq N p0 p1).bind fun x6 =>
  bif (x6 != 0) then
   some ([], 0, x6)
  else
   (Qcu N p2 0 100000000000).bind fun x9 =>
   bif (!x9) then
    some ([], 0, 2)
   else
    chk (decide (0 ≤ (p0.length : Int)) && decide (1 * (p0.length : Int) ≤ 281474976710656) && decide ((p0.length : Int) ≤ 9223372036854775807)) <|
    chk (decide (0 ≤ (p0.length : Int)) && decide (8 * (p0.length : Int) ≤ 281474976710656) && decide ((p0.length : Int) ≤ 9223372036854775807)) <|
    Qca (fun ⟨y13, y14⟩ =>
      chk (decide ((p0.length : Int).toNat ≤ y14.length)) <|
      some (y14.take ((p0.length : Int).toNat), y13, 0)) fun k15 : Int × (List Bool) → Option ((List Bool) × Int × Int) =>
    (Qer N p0).bind fun x18 =>
    Qdc N p0 p1 p2 k15 x18 N 0 0 (List.replicate (p0.length : Int).toNat false) (List.replicate (p0.length : Int).toNat 0)
set_option maxRecDepth 100000 in
set_option maxHeartbeats 4000000 in
theorem town_ServeX_ok (N : Nat) (p0 : (List GNode)) (p1 : (List Int)) (p2 : Int) (r : ((List Bool) × Int × Int)) (h : Qh3 N p0 p1 p2 = some r) : Spec Try.prog 22 [(.dat 4 (p0.map Qaa)), (.dat 1 (p1.map Qac)), (I p2)] [] (.tup [(.dat 1 ((r.1 : List Bool).map Qae)), (I (r.2.1)), (I (r.2.2))]) [] := by
  refine Qaq Try.func22 rfl 0 (nle rfl) (fun X φ0 w0 hφ0 => ?_)
  unfold Qh3 at h
  refine Qc1 ?_
  refine wrg [mc (.slice none 0 0), mc (.int .i64 0), mc (.int .i64 0)] ?_ ?_
  ·exact ⟨aas rfl, aas rfl, aas rfl, trivial⟩
  refine wsq ?_
  obtain ⟨x6, hf5, h⟩ := bno h
  refine wrg [mv 0 (.dat 4 ((p0 : List GNode).map Qaa)), mv 1 (.dat 1 ((p1 : List Int).map Qac)), rp [fu 67, (.tmp 14, (.dat 4 ((p0 : List GNode).map Qaa))), (.tmp 15, (.dat 1 ((p1 : List Int).map Qac)))] (I x6), mv 16 (I x6)] ?_ ?_
  ·exact ⟨amv rfl, amv rfl, apc (first := []) (cap := []) (vs := [(.dat 4 ((p0 : List GNode).map Qaa)), (.dat 1 ((p1 : List Int).map Qac))]) rfl enter67 (Qim N p0 p1 _ hf5) rfl rfl (nlc (nld Qag _) (nlc (nld Qaf _) nl0)) nll rfl, aas rfl, trivial⟩
  refine wrg [mv 9 (I x6), rp [(.tmp 17, I x6), ci 0] (B ((x6 != 0)))] ?_ ?_
  ·exact ⟨amv rfl, abn rfl rfl, trivial⟩
  rcases bft ((x6 != 0)) with hc7 | hc7
  ·replace h := Qav hc7 h
   refine wft hc7 (by kernel_rfl) ?_
   refine wrg [mv 9 (I x6), mc (.slice none 0 0), mc (.int .i64 0), mv 19 (I x6)] ?_ ?_
   ·exact ⟨amv rfl, aas rfl, aas rfl, aas rfl, trivial⟩
   refine wmr (mto (n := 74) (l' := [(6, (.dat 1 (([] : List Bool).map Qae))), (7, I 0), (8, I x6)]) (own' := []) [(6, nilS), (7, I 0), (8, I x6)] [] [] hφ0 (pc (.nil _) (pc rwl (pc rwl pn))) qn) ?_
   refine Qak ?_
   refine Qao ?_
   obtain rfl := osi h
   exact ⟨_, Mor.rfl, Qc0 (vs := [(.dat 1 (([] : List Bool).map Qae)), I 0, I x6]) ⟨rot (by kernel_rfl), rot (by kernel_rfl), rot (by kernel_rfl), trivial⟩ rfl (NLt.tup _ (nlc (nld Qbd _) (nlc nll (nlc nll nl0)))) (by kernel_rfl) Qbx⟩
  ·replace h := Qaw hc7 h
   refine wfn hc7 (by kernel_rfl) ?_
   refine Qam ?_
   refine thn ?_
   refine wsq ?_
   obtain ⟨x9, hf8, h⟩ := bno h
   refine wrg [mv 2 (I p2), rp [fu 68, (.tmp 20, I p2), ci 0, ci 100000000000] (B x9), rp [(.tmp 21, B x9)] (B ((!x9)))] ?_ ?_
   ·exact ⟨amv rfl, apc (first := []) (cap := []) (vs := [I p2, I 0, I 100000000000]) rfl Qd1 (Qa5 N p2 0 100000000000 _ hf8) rfl rfl (nlc nll (nlc nll (nlc nll nl0))) nll rfl, Qap rfl, trivial⟩
   rcases bft ((!x9)) with hc10 | hc10
   ·replace h := Qav hc10 h
    refine wft hc10 (by kernel_rfl) ?_
    refine wrg [mc (.slice none 0 0), mc (.int .i64 0), mc (.int .i64 2)] ?_ ?_
    ·exact ⟨aas rfl, aas rfl, aas rfl, trivial⟩
    refine wmr (mto (n := 74) (l' := [(6, (.dat 1 (([] : List Bool).map Qae))), (7, I 0), (8, I 2)]) (own' := []) [(6, nilS), (7, I 0), (8, I 2)] [] [] hφ0 (pc (.nil _) (pc rwl (pc rwl pn))) qn) ?_
    refine Qak ?_
    refine Qao ?_
    obtain rfl := osi h
    exact ⟨_, Mor.rfl, Qc0 (vs := [(.dat 1 (([] : List Bool).map Qae)), I 0, I 2]) ⟨rot (by kernel_rfl), rot (by kernel_rfl), rot (by kernel_rfl), trivial⟩ rfl (NLt.tup _ (nlc (nld Qbd _) (nlc nll (nlc nll nl0)))) (by kernel_rfl) Qbx⟩
   ·replace h := Qaw hc10 h
    refine wfn hc10 (by kernel_rfl) ?_
    refine Qam ?_
    refine thn ?_
    obtain ⟨hm11, h⟩ := cko h
    obtain ⟨hm12, h⟩ := cko h
    refine Qct [mv 0 (.dat 4 ((p0 : List GNode).map Qaa)), rp [(.tmp 23, (.dat 4 ((p0 : List GNode).map Qaa)))] (I ((p0.length : Int))), ⟨[(.tmp 24, (I ((p0.length : Int)))), (.tmp 24, (I ((p0.length : Int))))], [(0, .unused)], (.own 0 1 (0) ((p0.length : Int).toNat)), [(0, (.own 1 ((List.replicate (p0.length : Int).toNat false : List Bool).map Qae)))], false⟩, mv 0 (.dat 4 ((p0 : List GNode).map Qaa)), rp [(.tmp 26, (.dat 4 ((p0 : List GNode).map Qaa)))] (I ((p0.length : Int))), ⟨[(.tmp 27, (I ((p0.length : Int)))), (.tmp 27, (I ((p0.length : Int))))], [(1, .unused)], (.own 1 1 (0) ((p0.length : Int).toNat)), [(1, (.own 1 ((List.replicate (p0.length : Int).toNat 0 : List Int).map Qac)))], false⟩, mv 25 (.own 0 1 (0) ((p0.length : Int).toNat)), mv 28 (.own 1 1 (0) ((p0.length : Int).toNat))] ?_ ?_
    ·exact ⟨amv rfl, alm (c := Qaa) (l := p0) (aln rfl Try.underlying31 rfl), Qf7 rfl Try.underlying26 te4 tz4 rfl (and3a hm11) rfl (and3b hm11) (and3c' hm11) (Qia Qae rfl), amv rfl, alm (c := Qaa) (l := p0) (aln rfl Try.underlying31 rfl), Qf7 rfl Try.underlying23 te3 tz3 rfl (and3a hm12) rfl (and3b hm12) (and3c' hm12) (Qia Qac rfl), aas rfl, aas rfl, trivial⟩
    obtain ⟨k15, hk_k15, h⟩ := jko h
    refine wjn (τ := Int × (List Bool)) (fun t => k15 t = some r) (fun ⟨y13, y14⟩ => ⟨mk 74 [(6, (.own 0 1 (0) ((p0.length : Int).toNat))), (7, I y13)], [(.own 1 ((y14 : List Bool).map Qae))]⟩) (fun t h => ?_) ?_
    ·subst hk_k15
     obtain ⟨y13, y14⟩ := t
     refine wrg [mv 6 (.own 0 1 (0) ((p0.length : Int).toNat)), mv 7 (I y13), mv 72 (.own 0 1 (0) ((p0.length : Int).toNat)), mv 73 (I y13), mc (.int .i64 0)] ?_ ?_
     ·exact ⟨amv rfl, amv rfl, aas rfl, aas rfl, aas rfl, trivial⟩
     obtain ⟨hz16, h⟩ := cko h
     refine wmr (mor_fz (n := 74) (l' := [(6, (.dat 1 ((y14.take ((p0.length : Int).toNat) : List Bool).map Qae))), (7, I y13), (8, I 0)]) 0 [(6, (.own 0 1 (0) ((p0.length : Int).toNat))), (7, I y13), (8, I 0)] (by kernel_rfl) (by kernel_rfl) (by kernel_rfl) ⟨rfl, (Qig hz16), rfl, (.same _), rfl, (.same _), trivial⟩ rfl) ?_
     refine wmr (mto (n := 74) (l' := [(6, (.dat 1 ((y14.take ((p0.length : Int).toNat) : List Bool).map Qae))), (7, I y13), (8, I 0)]) (own' := []) [(6, (.dat 1 ((y14.take ((p0.length : Int).toNat) : List Bool).map Qae))), (7, I y13), (8, I 0)] [] [] hφ0 (pc (.rn (.plain _ (nld Qbd _))) (pc rwl (pc rwl pn))) qn) ?_
     refine Qak ?_
     obtain rfl := osi h
     exact ⟨_, Mor.rfl, Qc0 (vs := [(.dat 1 ((y14.take ((p0.length : Int).toNat) : List Bool).map Qae)), I y13, I 0]) ⟨rot (by kernel_rfl), rot (by kernel_rfl), rot (by kernel_rfl), trivial⟩ rfl (NLt.tup _ (nlc (nld Qbd _) (nlc nll (nlc nll nl0)))) (by kernel_rfl) Qbx⟩
    ·skip
     obtain ⟨x18, hf17, h⟩ := bno h
     refine wrg [mv 0 (.dat 4 ((p0 : List GNode).map Qaa)), rp [fu 69, (.tmp 29, (.dat 4 ((p0 : List GNode).map Qaa))), fu 70] (.dat 1 ((x18 : List Int).map Qac)), rp [(.tmp 30, (.dat 1 ((x18 : List Int).map Qac)))] (I ((x18.length : Int))), mc (.int .i64 0)] ?_ ?_
     ·exact ⟨amv rfl, Qa4 (first := []) (cap := []) (vs := [(.dat 4 ((p0 : List GNode).map Qaa)), (.fn (.func 70) [] [])]) (σr := []) (σr' := []) (res' := (.dat 1 ((x18 : List Int).map Qac))) [] rfl enter69 (Qgo N p0 _ hf17) rfl (Qc3 (rnc (.plain _ (nld Qag _)) (rnc (.plain _ (NLt.fn _ _ _ nl0 nl0)) rn0))) Qa0 Qa0 (.plain _ (nld Qaf _)) rfl rfl rfl, alm (c := Qac) (l := x18) (aln rfl Try.underlying23 rfl), amv rfl, trivial⟩
     refine Qan ?_
     refine wmr (mto (n := 74) (l' := [(0, (.dat 4 ((p0 : List GNode).map Qaa))), (1, (.dat 1 ((p1 : List Int).map Qac))), (2, I p2), (6, (.own 0 1 (0) ((p0.length : Int).toNat))), (7, I 0), (10, (.own 1 1 (0) ((p0.length : Int).toNat))), (30, (.dat 1 ((x18 : List Int).map Qac))), (31, (I ((x18.length : Int)))), (32, I 0)]) (own' := [(.own 1 (((List.replicate (p0.length : Int).toNat false) : List Bool).map Qae)), (.own 1 (((List.replicate (p0.length : Int).toNat 0) : List Int).map Qac))]) [(0, (.dat 4 ((p0 : List GNode).map Qaa))), (1, (.dat 1 ((p1 : List Int).map Qac))), (2, I p2), (6, (.own 0 1 (0) ((p0.length : Int).toNat))), (7, I 0), (10, (.own 1 1 (0) ((p0.length : Int).toNat))), (30, (.dat 1 ((x18 : List Int).map Qac))), (31, (I ((x18.length : Int)))), (32, I 0)] [0, 1] [(.own 1 ((List.replicate (p0.length : Int).toNat false : List Bool).map Qae)), (.own 1 ((List.replicate (p0.length : Int).toNat 0 : List Int).map Qac))] hφ0 (pc (.rn (.plain _ (nld Qag _))) (pc (.rn (.plain _ (nld Qaf _))) (pc rwl (pc (.rn (Qaj rfl)) (pc rwl (pc (.rn (Qaj rfl)) (pc (.rn (.plain _ (nld Qaf _))) (pc rwl (pc rwl pn))))))))) (qc (spr Qbd) (qc (spr Qaf) qn))) ?_
     refine Qcc (τ := Int × Int × (List Bool) × (List Int)) (fun n t => Qdc N p0 p1 p2 k15 x18 n t.1 t.2.1 t.2.2.1 t.2.2.2 = some r) (fun ⟨y19, y20, y21, y22⟩ => ⟨mk 74 [(0, (.dat 4 ((p0 : List GNode).map Qaa))), (1, (.dat 1 ((p1 : List Int).map Qac))), (2, I p2), (6, (.own 0 1 (0) ((p0.length : Int).toNat))), (7, I y19), (10, (.own 1 1 (0) ((p0.length : Int).toNat))), (30, (.dat 1 ((x18 : List Int).map Qac))), (31, (I ((x18.length : Int)))), (32, I y20)], [(.own 1 ((y21 : List Bool).map Qae)), (.own 1 ((y22 : List Int).map Qac))]⟩) (fun t h => by rw [Qdc] at h; cases h) (fun n27 ih t h => ?_) N (0, 0, List.replicate (p0.length : Int).toNat false, List.replicate (p0.length : Int).toNat 0) h
     obtain ⟨y19, y20, y21, y22⟩ := t
     rw [Qdc] at h
     skip
     refine wrg [rp [(.tmp 32, I y20), (.tmp 31, (I ((x18.length : Int))))] (B ((decide (y20 < (x18.length : Int)))))] ?_ ?_
     ·exact ⟨abn rfl rfl, trivial⟩
     refine wsq ?_
     rcases bft ((decide (y20 < (x18.length : Int)))) with hc28 | hc28
     ·replace h := Qav hc28 h
      refine wft hc28 (by kernel_rfl) ?_
      refine Qam ?_
      refine thn ?_
      refine wsq ?_
      refine Qan ?_
      obtain ⟨x29, hg30, h⟩ := bno h
      obtain ⟨hi31, hj32⟩ := gsm hg30
      refine wrg [rp [(.tmp 30, (.dat 1 ((x18 : List Int).map Qac))), (.tmp 32, I y20)] (.dptr (Qac (x29)) 0), rp [(.tmp 34, (.dptr (Qac (x29)) 0))] (I x29), mv 35 (I x29)] ?_ ?_
      ·exact ⟨aid rfl Try.underlying23 ti3 rfl rfl hi31 (mgt Qac hj32) rfl, ald_ rfl ti3 (by decide) (nle rfl) rfl, aas rfl, trivial⟩
      refine wsq ?_
      obtain ⟨x33, hg34, h⟩ := bno h
      obtain ⟨hi35, hj36⟩ := gsm hg34
      refine wrg [mv 1 (.dat 1 ((p1 : List Int).map Qac)), mv 12 (I x29), rp [(.tmp 36, (.dat 1 ((p1 : List Int).map Qac))), (.tmp 37, I x29)] (.dptr (Qac (x33)) 0), rp [(.tmp 38, (.dptr (Qac (x33)) 0))] (I x33), rp [(.tmp 39, I x33), ci 0] (B ((x33 == 0)))] ?_ ?_
      ·exact ⟨amv rfl, amv rfl, aid rfl Try.underlying23 ti3 rfl rfl hi35 (mgt Qac hj36) rfl, ald_ rfl ti3 (by decide) (nle rfl) rfl, abn rfl rfl, trivial⟩
      rcases bft ((x33 == 0)) with hc37 | hc37
      ·replace h := Qav hc37 h
       refine wft hc37 (by kernel_rfl) ?_
       refine Qbf ?_
       refine Qau ?_
       refine Qbe rfl ?_
       refine thn ?_
       refine Qar [rp [(.tmp 32, I y20), ci 1] (I (w64 (y20 + 1))), mv 71 (I (w64 (y20 + 1)))] ?_ ?_
       ·exact ⟨abn rfl rfl, amv rfl, trivial⟩
       refine thn ?_
       exact arm (mto (n := 74) [(0, (.dat 4 ((p0 : List GNode).map Qaa))), (1, (.dat 1 ((p1 : List Int).map Qac))), (2, I p2), (6, (.own 0 1 (0) ((p0.length : Int).toNat))), (7, I y19), (10, (.own 1 1 (0) ((p0.length : Int).toNat))), (30, (.dat 1 ((x18 : List Int).map Qac))), (31, (I ((x18.length : Int)))), (32, (I (w64 (y20 + 1))))] [0, 1] [(.own 1 ((y21 : List Bool).map Qae)), (.own 1 ((y22 : List Int).map Qac))] hφ0 (pc (.rn (.plain _ (nld Qag _))) (pc (.rn (.plain _ (nld Qaf _))) (pc rwl (pc (.rn (Qaj rfl)) (pc rwl (pc (.rn (Qaj rfl)) (pc (.rn (.plain _ (nld Qaf _))) (pc rwl (pc rwl pn))))))))) (qc (spr Qbd) (qc (spr Qaf) qn))) (ih (y19, w64 (y20 + 1), y21, y22) h)
      ·replace h := Qaw hc37 h
       refine wfn hc37 (by kernel_rfl) ?_
       refine Qam ?_
       refine thn ?_
       obtain ⟨hi38, h⟩ := cko h
       obtain ⟨hi38a, hi38b⟩ := Qba hi38
       obtain ⟨x39, hg40, h⟩ := bno h
       refine wrg [mv 10 (.own 1 1 (0) ((p0.length : Int).toNat)), mv 12 (I x29), mv 1 (.dat 1 ((p1 : List Int).map Qac)), mv 12 (I x29), rp [(.tmp 43, (.dat 1 ((p1 : List Int).map Qac))), (.tmp 44, I x29)] (.dptr (Qac (x33)) 0), rp [(.tmp 45, (.dptr (Qac (x33)) 0))] (I x33), rb [(.tmp 41, (.own 1 1 (0) ((p0.length : Int).toNat))), (.tmp 42, I x29)] [(1, (.own 1 ((y22 : List Int).map Qac)))] (.ref 1 1 (x29.toNat) 0), ⟨[(.tmp 47, (.ref 1 1 (x29.toNat) 0)), (.tmp 46, I x33)], [(1, (.own 1 ((y22 : List Int).map Qac)))], .any, [(1, (.own 1 ((y22.set x29.toNat x33 : List Int).map Qac)))], false⟩] ?_ ?_
       ·exact ⟨amv rfl, amv rfl, amv rfl, amv rfl, aid rfl Try.underlying23 ti3 rfl rfl hi35 (mgt Qac hj36) rfl, ald_ rfl ti3 (by decide) (nle rfl) rfl, aio rfl Try.underlying23 ti3 (odt hi38a) (odt hi38b) (Nat.zero_add _), ast rfl ti3 (by rfl) (mgt Qac hg40) (nle rfl) (Qei Qac rfl), trivial⟩
       obtain ⟨x42, hf41, h⟩ := bno h
       refine wrg [mv 0 (.dat 4 ((p0 : List GNode).map Qaa)), mv 10 (.own 1 1 (0) ((p0.length : Int).toNat)), ⟨[fu 71, (.tmp 48, (.dat 4 ((p0 : List GNode).map Qaa))), (.tmp 49, (.own 1 1 (0) ((p0.length : Int).toNat)))], [(1, (.own 1 ((y22.set x29.toNat x33 : List Int).map Qac)))], (.dat 1 ((x42 : List Int).map Qac)), [(1, (.own 1 ((y22.set x29.toNat x33 : List Int).map Qac)))], false⟩, mv 50 (.dat 1 ((x42 : List Int).map Qac))] ?_ ?_
       ·exact ⟨amv rfl, amv rfl, Qa4 (first := []) (cap := []) (vs := [(.dat 4 ((p0 : List GNode).map Qaa)), (.own 1 1 (0) (((p0.length : Int).toNat)))]) (σr := [(.own 1 ((y22.set x29.toNat x33 : List Int).map Qac))]) (σr' := [(.own 1 ((y22.set x29.toNat x33 : List Int).map Qac))]) (res' := (.dat 1 ((x42 : List Int).map Qac))) [1] rfl enter71 (Qhk N p0 ((p0.length : Int).toNat) (y22.set x29.toNat x33) _ hf41) rfl (Qc3 (rnc (.plain _ (nld Qag _)) (rnc (Qen rfl) rn0))) (slc (Qby Qaf) Qa0) (slc (Qby Qaf) Qa0) (.plain _ (nld Qaf _)) rfl rfl rfl, aas rfl, trivial⟩
       obtain ⟨k43, hk_k43, h⟩ := jko h
       refine wjn (τ := Unit) (fun t => k43 t = some r) (fun _ => ⟨mk 74 [(0, (.dat 4 ((p0 : List GNode).map Qaa))), (1, (.dat 1 ((p1 : List Int).map Qac))), (2, I p2), (6, (.own 0 1 (0) ((p0.length : Int).toNat))), (10, (.own 1 1 (0) ((p0.length : Int).toNat))), (12, I x29), (13, (.dat 1 ((x42 : List Int).map Qac))), (30, (.dat 1 ((x18 : List Int).map Qac))), (31, (I ((x18.length : Int)))), (32, I y20)], [(.own 1 ((y21 : List Bool).map Qae)), (.own 1 ((y22.set x29.toNat x33 : List Int).map Qac))]⟩) (fun t h => ?_) ?_
       ·subst hk_k43
        obtain ⟨x44, hg45, h⟩ := bno h
        obtain ⟨hi46, hj47⟩ := gsm hg45
        obtain ⟨hi48, h⟩ := cko h
        obtain ⟨hi48a, hi48b⟩ := Qba hi48
        obtain ⟨x49, hg50, h⟩ := bno h
        refine Qar [mv 6 (.own 0 1 (0) ((p0.length : Int).toNat)), mv 12 (I x29), mv 13 (.dat 1 ((x42 : List Int).map Qac)), rp [(.tmp 67, (.dat 1 ((x42 : List Int).map Qac))), ci 0] (.dptr (Qac (x44)) 0), rp [(.tmp 68, (.dptr (Qac (x44)) 0))] (I x44), rb [(.tmp 65, (.own 0 1 (0) ((p0.length : Int).toNat))), (.tmp 66, I x29)] [(0, (.own 1 ((y21 : List Bool).map Qae)))] (.ref 0 1 (x29.toNat) 0), ⟨[(.tmp 70, (.ref 0 1 (x29.toNat) 0)), cb true], [(0, (.own 1 ((y21 : List Bool).map Qae)))], .any, [(0, (.own 1 ((y21.set x29.toNat true : List Bool).map Qae)))], false⟩, mv 69 (I x44)] ?_ ?_
        ·exact ⟨amv rfl, amv rfl, amv rfl, aid rfl Try.underlying23 ti3 rfl rfl hi46 (mgt Qac hj47) rfl, ald_ rfl ti3 (by decide) (nle rfl) rfl, aio rfl Try.underlying26 ti4 (odt hi48a) (odt hi48b) (Nat.zero_add _), ast rfl ti4 (by rfl) (mgt Qae hg50) (nle rfl) (Qei Qae rfl), aas rfl, trivial⟩
        refine bln ?_
        refine thn ?_
        refine Qar [rp [(.tmp 32, I y20), ci 1] (I (w64 (y20 + 1))), mv 71 (I (w64 (y20 + 1)))] ?_ ?_
        ·exact ⟨abn rfl rfl, amv rfl, trivial⟩
        refine thn ?_
        exact arm (mto (n := 74) [(0, (.dat 4 ((p0 : List GNode).map Qaa))), (1, (.dat 1 ((p1 : List Int).map Qac))), (2, I p2), (6, (.own 0 1 (0) ((p0.length : Int).toNat))), (7, I x44), (10, (.own 1 1 (0) ((p0.length : Int).toNat))), (30, (.dat 1 ((x18 : List Int).map Qac))), (31, (I ((x18.length : Int)))), (32, (I (w64 (y20 + 1))))] [0, 1] [(.own 1 ((y21.set x29.toNat true : List Bool).map Qae)), (.own 1 ((y22.set x29.toNat x33 : List Int).map Qac))] hφ0 (pc (.rn (.plain _ (nld Qag _))) (pc (.rn (.plain _ (nld Qaf _))) (pc rwl (pc (.rn (Qaj rfl)) (pc rwl (pc (.rn (Qaj rfl)) (pc (.rn (.plain _ (nld Qaf _))) (pc rwl (pc rwl pn))))))))) (qc (spr Qbd) (qc (spr Qaf) qn))) (ih (x44, w64 (y20 + 1), y21.set x29.toNat true, y22.set x29.toNat x33) h)
       ·skip
        obtain ⟨x52, hf51, h⟩ := bno h
        rcases bft ((decide (x52 ≥ 0))) with hb53 | hb53
        ·replace h := Qav hb53 h
         refine wrg [mv 0 (.dat 4 ((p0 : List GNode).map Qaa)), mv 13 (.dat 1 ((x42 : List Int).map Qac)), rp [fu 72, (.tmp 51, (.dat 4 ((p0 : List GNode).map Qaa))), (.tmp 52, (.dat 1 ((x42 : List Int).map Qac)))] (I x52), rp [(.tmp 53, I x52), ci 0] (B ((decide (x52 ≥ 0)))), rp [(.tmp 54, (B ((decide (x52 ≥ 0)))))] (B true), sk 55 (B true), sk 55 (B true), sk 55 (B true), sk 55 (B true), sk 55 (B true), rp [(.tmp 55, B true), cb true, (.tmp 60, (.lit undef))] (B true)] ?_ ?_
         ·exact ⟨amv rfl, amv rfl, apc (first := []) (cap := []) (vs := [(.dat 4 ((p0 : List GNode).map Qaa)), (.dat 1 ((x42 : List Int).map Qac))]) rfl enter72 (Qfr N p0 x42 _ hf51) rfl rfl (nlc (nld Qag _) (nlc (nld Qaf _) nl0)) nll rfl, abn rfl rfl, asb hb53 (amv rfl), trivial, trivial, trivial, trivial, trivial, apk rfl rfl, trivial⟩
         refine Qbq (by kernel_rfl) ?_
         obtain ⟨hi54, h⟩ := cko h
         obtain ⟨hi54a, hi54b⟩ := Qba hi54
         obtain ⟨x55, hg56, h⟩ := bno h
         refine wrg [mv 10 (.own 1 1 (0) ((p0.length : Int).toNat)), mv 12 (I x29), rb [(.tmp 62, (.own 1 1 (0) ((p0.length : Int).toNat))), (.tmp 63, I x29)] [(1, (.own 1 ((y22.set x29.toNat x33 : List Int).map Qac)))] (.ref 1 1 (x29.toNat) 0), ⟨[(.tmp 64, (.ref 1 1 (x29.toNat) 0)), ci 0], [(1, (.own 1 ((y22.set x29.toNat x33 : List Int).map Qac)))], .any, [(1, (.own 1 (((y22.set x29.toNat x33).set x29.toNat 0 : List Int).map Qac)))], false⟩] ?_ ?_
         ·exact ⟨amv rfl, amv rfl, aio rfl Try.underlying23 ti3 (odt hi54a) (odt hi54b) (Nat.zero_add _), ast rfl ti3 (by rfl) (mgt Qac hg56) (nle rfl) (Qei Qac rfl), trivial⟩
         refine Qbf ?_
         refine Qau ?_
         refine Qbe rfl ?_
         refine thn ?_
         refine Qar [rp [(.tmp 32, I y20), ci 1] (I (w64 (y20 + 1))), mv 71 (I (w64 (y20 + 1)))] ?_ ?_
         ·exact ⟨abn rfl rfl, amv rfl, trivial⟩
         refine thn ?_
         exact arm (mto (n := 74) [(0, (.dat 4 ((p0 : List GNode).map Qaa))), (1, (.dat 1 ((p1 : List Int).map Qac))), (2, I p2), (6, (.own 0 1 (0) ((p0.length : Int).toNat))), (7, I y19), (10, (.own 1 1 (0) ((p0.length : Int).toNat))), (30, (.dat 1 ((x18 : List Int).map Qac))), (31, (I ((x18.length : Int)))), (32, (I (w64 (y20 + 1))))] [0, 1] [(.own 1 ((y21 : List Bool).map Qae)), (.own 1 (((y22.set x29.toNat x33).set x29.toNat 0 : List Int).map Qac))] hφ0 (pc (.rn (.plain _ (nld Qag _))) (pc (.rn (.plain _ (nld Qaf _))) (pc rwl (pc (.rn (Qaj rfl)) (pc rwl (pc (.rn (Qaj rfl)) (pc (.rn (.plain _ (nld Qaf _))) (pc rwl (pc rwl pn))))))))) (qc (spr Qbd) (qc (spr Qaf) qn))) (ih (y19, w64 (y20 + 1), y21, (y22.set x29.toNat x33).set x29.toNat 0) h)
        ·replace h := Qaw hb53 h
         obtain ⟨x57, hg58, h⟩ := bno h
         obtain ⟨hi59, hj60⟩ := gsm hg58
         refine wrg [mv 0 (.dat 4 ((p0 : List GNode).map Qaa)), mv 13 (.dat 1 ((x42 : List Int).map Qac)), rp [fu 72, (.tmp 51, (.dat 4 ((p0 : List GNode).map Qaa))), (.tmp 52, (.dat 1 ((x42 : List Int).map Qac)))] (I x52), rp [(.tmp 53, I x52), ci 0] (B ((decide (x52 ≥ 0)))), rp [(.tmp 54, (B ((decide (x52 ≥ 0)))))] (B false), rp [(.tmp 55, B false), (.tmp 13, (.dat 1 ((x42 : List Int).map Qac)))] (.dat 1 ((x42 : List Int).map Qac)), rp [(.tmp 55, B false), (.tmp 56, (.dat 1 ((x42 : List Int).map Qac))), ci 0] (.dptr (Qac (x57)) 0), rp [(.tmp 55, B false), (.tmp 57, (.dptr (Qac (x57)) 0))] (I x57), rp [(.tmp 55, B false), (.tmp 2, I p2)] (I p2), rp [(.tmp 55, B false), (.tmp 58, I x57), (.tmp 59, I p2)] (B ((decide (x57 > p2)))), rp [(.tmp 55, B false), cb true, (.tmp 60, (B ((decide (x57 > p2)))))] (B ((decide (x57 > p2))))] ?_ ?_
         ·exact ⟨amv rfl, amv rfl, apc (first := []) (cap := []) (vs := [(.dat 4 ((p0 : List GNode).map Qaa)), (.dat 1 ((x42 : List Int).map Qac))]) rfl enter72 (Qfr N p0 x42 _ hf51) rfl rfl (nlc (nld Qag _) (nlc (nld Qaf _) nl0)) nll rfl, abn rfl rfl, asb hb53 (amv rfl), ag_ (amv rfl), ag_ (aid rfl Try.underlying23 ti3 rfl rfl hi59 (mgt Qac hj60) rfl), ag_ (ald_ rfl ti3 (by decide) (nle rfl) rfl), ag_ (amv rfl), ag_ (abn rfl rfl), apk rfl rfl, trivial⟩
         rcases bft ((decide (x57 > p2))) with hc61 | hc61
         ·replace h := Qav hc61 h
          refine wft hc61 (by kernel_rfl) ?_
          obtain ⟨hi62, h⟩ := cko h
          obtain ⟨hi62a, hi62b⟩ := Qba hi62
          obtain ⟨x63, hg64, h⟩ := bno h
          refine wrg [mv 10 (.own 1 1 (0) ((p0.length : Int).toNat)), mv 12 (I x29), rb [(.tmp 62, (.own 1 1 (0) ((p0.length : Int).toNat))), (.tmp 63, I x29)] [(1, (.own 1 ((y22.set x29.toNat x33 : List Int).map Qac)))] (.ref 1 1 (x29.toNat) 0), ⟨[(.tmp 64, (.ref 1 1 (x29.toNat) 0)), ci 0], [(1, (.own 1 ((y22.set x29.toNat x33 : List Int).map Qac)))], .any, [(1, (.own 1 (((y22.set x29.toNat x33).set x29.toNat 0 : List Int).map Qac)))], false⟩] ?_ ?_
          ·exact ⟨amv rfl, amv rfl, aio rfl Try.underlying23 ti3 (odt hi62a) (odt hi62b) (Nat.zero_add _), ast rfl ti3 (by rfl) (mgt Qac hg64) (nle rfl) (Qei Qac rfl), trivial⟩
          refine Qbf ?_
          refine Qau ?_
          refine Qbe rfl ?_
          refine thn ?_
          refine Qar [rp [(.tmp 32, I y20), ci 1] (I (w64 (y20 + 1))), mv 71 (I (w64 (y20 + 1)))] ?_ ?_
          ·exact ⟨abn rfl rfl, amv rfl, trivial⟩
          refine thn ?_
          exact arm (mto (n := 74) [(0, (.dat 4 ((p0 : List GNode).map Qaa))), (1, (.dat 1 ((p1 : List Int).map Qac))), (2, I p2), (6, (.own 0 1 (0) ((p0.length : Int).toNat))), (7, I y19), (10, (.own 1 1 (0) ((p0.length : Int).toNat))), (30, (.dat 1 ((x18 : List Int).map Qac))), (31, (I ((x18.length : Int)))), (32, (I (w64 (y20 + 1))))] [0, 1] [(.own 1 ((y21 : List Bool).map Qae)), (.own 1 (((y22.set x29.toNat x33).set x29.toNat 0 : List Int).map Qac))] hφ0 (pc (.rn (.plain _ (nld Qag _))) (pc (.rn (.plain _ (nld Qaf _))) (pc rwl (pc (.rn (Qaj rfl)) (pc rwl (pc (.rn (Qaj rfl)) (pc (.rn (.plain _ (nld Qaf _))) (pc rwl (pc rwl pn))))))))) (qc (spr Qbd) (qc (spr Qaf) qn))) (ih (y19, w64 (y20 + 1), y21, (y22.set x29.toNat x33).set x29.toNat 0) h)
         ·replace h := Qaw hc61 h
          refine wfn hc61 (by kernel_rfl) ?_
          refine Qam ?_
          refine thn ?_
          exact ⟨(), h, (mto (n := 74) [(0, (.dat 4 ((p0 : List GNode).map Qaa))), (1, (.dat 1 ((p1 : List Int).map Qac))), (2, I p2), (6, (.own 0 1 (0) ((p0.length : Int).toNat))), (10, (.own 1 1 (0) ((p0.length : Int).toNat))), (12, I x29), (13, (.dat 1 ((x42 : List Int).map Qac))), (30, (.dat 1 ((x18 : List Int).map Qac))), (31, (I ((x18.length : Int)))), (32, I y20)] [0, 1] [(.own 1 ((y21 : List Bool).map Qae)), (.own 1 ((y22.set x29.toNat x33 : List Int).map Qac))] hφ0 (pc (.rn (.plain _ (nld Qag _))) (pc (.rn (.plain _ (nld Qaf _))) (pc rwl (pc (.rn (Qaj rfl)) (pc (.rn (Qaj rfl)) (pc rwl (pc (.rn (.plain _ (nld Qaf _))) (pc (.rn (.plain _ (nld Qaf _))) (pc rwl (pc rwl pn)))))))))) (qc (spr Qbd) (qc (spr Qaf) qn)))⟩
     ·replace h := Qaw hc28 h
      refine wfn hc28 (by kernel_rfl) ?_
      refine Qbf ?_
      refine Qau ?_
      refine Qau ?_
      refine Qbe rfl ?_
      refine thn ?_
      exact ⟨(y19, y21), h, (mto (n := 74) [(6, (.own 0 1 (0) ((p0.length : Int).toNat))), (7, I y19)] [0] [(.own 1 ((y21 : List Bool).map Qae))] hφ0 (pc (.rn (Qaj rfl)) (pc rwl pn)) (qc (spr Qbd) qn))⟩

end Go.Proofs.Ytgdepcgbjjgnfaa
