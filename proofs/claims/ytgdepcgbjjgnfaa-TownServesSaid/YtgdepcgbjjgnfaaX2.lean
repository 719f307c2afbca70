/-
  Functions of the program: what they compute, as plain functions, and that they do. No conditions.
-/
import Derived.Test.YtgdepcgbjjgnfaaX1
namespace Go.Proofs.Ytgdepcgbjjgnfaa
open Go.RowKit
def Qfj (_N : Nat) (p0 : GNode) : Option Int :=
  some p0.Rank
set_option maxRecDepth 100000 in
set_option maxHeartbeats 4000000 in
theorem Qh7 (N : Nat) (p0 : GNode) (r : Int) (h : Qfj N p0 = some r) : Spec Try.prog 70 [(.agg (Qad p0))] [] (I r) [] := by
  refine Qai Try.func70 rfl 0 (nle rfl) (fun X φ0 w0 hφ0 => ?_)
  unfold Qfj at h
  refine wx tbk [] trivial ?_
  refine wx tbk [] trivial ?_
  refine Qah ?_
  obtain rfl := osi h
  exact fend ⟨[I p0.Rank], ⟨rot (by kernel_rfl), trivial⟩, rfl⟩ nll
def Qbm (N : Nat) (p0 : Int) (p1 : Int) (p2 : (List GNode)) : Option Int :=
  (getI p2 p0).bind fun x2 =>
  (Qfj N x2).bind fun x7 =>
  (getI p2 p1).bind fun x8 =>
  (Qfj N x8).bind fun x13 =>
  some (w64 (x7 - x13))
def Qw7 : Slot := .own 1 [[(.fn (.func 70) [] [])]]
def Qtd (p2 : (List GNode)) : AV := .dat 4 ((p2 : List GNode).map Qad)
def z25_4 (x2 : GNode) : AV := .agg [(I (x2.Parent)), (I (x2.Loss)), (I (x2.Limit)), (I (x2.Rank))]
def z25_5 (x8 : GNode) : AV := .agg [(I (x8.Parent)), (I (x8.Loss)), (I (x8.Limit)), (I (x8.Rank))]
set_option maxRecDepth 100000 in
set_option maxHeartbeats 4000000 in
theorem Qc0 (N : Nat) (p0 : Int) (p1 : Int) (p2 : (List GNode)) (r : Int) (h : Qbm N p0 p1 p2 = some r) : Spec Try.prog 96 [(I (p0)), (I (p1)), (.ref 0 1 (0) 0), (.ref 1 1 (0) 0)] [Qw7, (.own 1 [[(Qtd p2)]])] (I (r)) [Qw7, (.own 1 [[(Qtd p2)]])] := by
  refine Qai Try.func96 rfl 2 (nle rfl) (fun X φ0 w0 hφ0 => ?_)
  unfold Qbm at h
  refine Qcm ?_
  refine wx tbk [] trivial ?_
  obtain ⟨x2, hg3, h⟩ := bno h
  obtain ⟨hi4, hj5⟩ := gsm hg3
  obtain ⟨x7, hf6, h⟩ := bno h
  obtain ⟨x8, hg9, h⟩ := bno h
  obtain ⟨hi10, hj11⟩ := gsm hg9
  obtain ⟨x13, hf12, h⟩ := bno h
  refine wxd tbk [(3, rp [(.tmp 8, (Qtd p2)), (.tmp 9, I p0)] (.dptr (Qad (x2)) 0)), (5, rp [(.tmp 7, (.fn (.func 70) [] [])), (.tmp 11, (z25_4 x2))] (I x7)), (9, rp [(.tmp 14, (Qtd p2)), (.tmp 15, I p1)] (.dptr (Qad (x8)) 0)), (11, rp [(.tmp 13, (.fn (.func 70) [] [])), (.tmp 17, (z25_5 x8))] (I x13))] ⟨aid rfl Try.underlying30 Qhs rfl rfl hi4 (mgt Qad hj5) rfl, apc (first := []) (cap := []) (vs := [(z25_4 x2)]) rfl Qv9 (Qh7 N x2 _ hf6) rfl rfl (nlc (NLt.agg _ (nlc nll (nlc nll (nlc nll (nlc nll nl0))))) nl0) nll rfl, aid rfl Try.underlying30 Qhs rfl rfl hi10 (mgt Qad hj11) rfl, apc (first := []) (cap := []) (vs := [(z25_5 x8)]) rfl Qv9 (Qh7 N x8 _ hf12) rfl rfl (nlc (NLt.agg _ (nlc nll (nlc nll (nlc nll (nlc nll nl0))))) nl0) nll rfl, trivial⟩ ?_
  refine wmr (mto (n := 20) (l' := [(6, (I (w64 (x7 - x13))))]) (own' := [Qw7, (.own 1 [[(Qtd p2)]])]) [(6, (I (w64 (x7 - x13))))] [0, 1] [Qw7, (.own 1 [[(Qtd p2)]])] hφ0 (pc rwl pn) (qc (spb (lc (.rn (Qay rn0 rn0)) ln)) (qc (spb (lc (.rn (.plain _ (nld Qab _))) ln)) qn))) ?_
  refine Qah ?_
  obtain rfl := osi h
  exact ⟨_, Mor.rfl, Qcw (vs := [(I (w64 (x7 - x13)))]) ⟨rot (by kernel_rfl), trivial⟩ rfl (NLt.of0 nll) (by kernel_rfl) (Qao (Qbx (nlc (NLt.of0 (NLt.fn _ _ _ nl0 nl0)) nl0)) (Qao (Qbx (nlc (NLt.of0 (nld Qab _)) nl0)) Qbw))⟩
def Qaz (N : Nat) (p0 : Nat) (p1 : Int) (p4 : (List GNode)) (k9 : (List Int) → Option (List Int)) : Nat → Int → (List Int) → Option (List Int)
  | 0, _, _ => none
  | n14 + 1, y10, y11 =>
    Qcd (fun _ =>
      chk (decide (0 ≤ w64 (y10 - 1)) && decide ((w64 (y10 - 1)).toNat < p0)) <|
      (y11[(w64 (y10 - 1)).toNat]?).bind fun x17 =>
      chk (decide (0 ≤ y10) && decide (y10.toNat < p0)) <|
      (y11[y10.toNat]?).bind fun x20 =>
      chk (decide (0 ≤ y10) && decide (y10.toNat < p0)) <|
      (y11[y10.toNat]?).bind fun _ =>
      chk (decide (0 ≤ w64 (y10 - 1)) && decide ((w64 (y10 - 1)).toNat < p0)) <|
      ((y11.set y10.toNat x17)[(w64 (y10 - 1)).toNat]?).bind fun _ =>
      Qaz N p0 p1 p4 k9 n14 (w64 (y10 - 1)) ((y11.set y10.toNat x17).set ((w64 (y10 - 1)).toNat) x20)) fun k15 : Unit → Option (List Int) =>
    bif (decide (y10 > p1)) then
     chk (decide (0 ≤ y10) && decide (y10.toNat < p0)) <|
     (y11[y10.toNat]?).bind fun x30 =>
     chk (decide (0 ≤ w64 (y10 - 1)) && decide ((w64 (y10 - 1)).toNat < p0)) <|
     (y11[(w64 (y10 - 1)).toNat]?).bind fun x33 =>
     (Qbm N x30 x33 p4).bind fun x36 =>
     bif (decide (x36 < 0)) then
      k15 ()
     else
      k9 (y11)
    else
     k9 (y11)
def Qap (N : Nat) (p0 : Nat) (p1 : Int) (p2 : Int) (p4 : (List GNode)) : Nat → Int → (List Int) → Option (List Int)
  | 0, _, _ => none
  | n6 + 1, y2, y3 =>
    bif (decide (y2 < p2)) then
     Qcd (fun y8 =>
       Qap N p0 p1 p2 p4 n6 (w64 (y2 + 1)) y8) fun k9 : (List Int) → Option (List Int) =>
     Qaz N p0 p1 p4 k9 N y2 y3
    else
     some y3
def Qa9 (N : Nat) (p0 : Nat) (p1 : Int) (p2 : Int) (p3 : (List Int)) (p4 : (List GNode)) : Option (List Int) :=
  Qap N p0 p1 p2 p4 N (w64 (p1 + 1)) p3
def Qjf : AV := .fn (.func 96) [] [(.ref 1 1 (0) 0), (.ref 2 1 (0) 0)]
def z24_1 (p3 : (List Int)) : Slot := .own 1 ((p3 : List Int).map Qac)
def Qhb : Slot := .own 1 [[(.fn (.func 70) [] [])]]
def Qha (p4 : (List GNode)) : AV := .dat 4 ((p4 : List GNode).map Qad)
def Quo (y3 : (List Int)) : Slot := .own 1 ((y3 : List Int).map Qac)
def Qgt (y11 : (List Int)) : Slot := .own 1 ((y11 : List Int).map Qac)
set_option maxRecDepth 100000 in
set_option maxHeartbeats 4000000 in
theorem Qdy (N : Nat) (p0 : Nat) (p1 : Int) (p2 : Int) (p3 : (List Int)) (p4 : (List GNode)) (r : (List Int)) (h : Qa9 N p0 p1 p2 p3 p4 = some r) : Spec Try.prog 114 [(.own 0 1 (0) (p0)), (I (p1)), (I (p2)), Qjf] [(z24_1 p3), Qhb, (.own 1 [[(Qha p4)]])] (.tup []) [(.own 1 ((r : List Int).map Qac)), Qhb, (.own 1 [[(Qha p4)]])] := by
  refine Qai Try.func114 rfl 3 (nle rfl) (fun X φ0 w0 hφ0 => ?_)
  unfold Qa9 at h
  refine Qcm ?_
  refine wx tbk [] trivial ?_
  refine Qaf ?_
  refine wmr (mto (n := 53) (l' := [(0, (.own 0 1 (0) (p0))), (1, I p1), (2, I p2), (3, Qjf), (8, (I ((w64 (p1 + 1)))))]) (own' := [(z24_1 p3), Qhb, (.own 1 [[(Qha p4)]])]) [(0, (.own 0 1 (0) (p0))), (1, I p1), (2, I p2), (3, Qjf), (8, (I (w64 (p1 + 1))))] [0, 1, 2] [(z24_1 p3), Qhb, (.own 1 [[(Qha p4)]])] hφ0 (pc (.rn (Qae rfl)) (pc rwl (pc rwl (pc (.rn (Qay rn0 (rnc (rqr rfl) (rnc (rqr rfl) rn0)))) (pc rwl pn))))) (qc (spr Qaa) (qc (spb (lc (.rn (Qay rn0 rn0)) ln)) (qc (spb (lc (.rn (.plain _ (nld Qab _))) ln)) qn)))) ?_
  refine Qb0 (τ := Int × (List Int)) (fun n t => Qap N p0 p1 p2 p4 n t.1 t.2 = some r) (fun ⟨y2, y3⟩ => ⟨mk 53 [(0, (.own 0 1 (0) (p0))), (1, I p1), (2, I p2), (3, Qjf), (8, I y2)], [(Quo y3), Qhb, (.own 1 [[(Qha p4)]])]⟩) (fun t h => by rw [Qap] at h; cases h) (fun n6 ih t h => ?_) N (w64 (p1 + 1), p3) h
  obtain ⟨y2, y3⟩ := t
  rw [Qap] at h
  skip
  refine wsq ?_
  refine wx tbk [] trivial ?_
  rcases bft ((decide (y2 < p2))) with hc7 | hc7
  ·replace h := Qau hc7 h
   refine wft hc7 (by kernel_rfl) ?_
   refine Qag ?_
   refine thn ?_
   obtain ⟨k9, hk_k9, h⟩ := jko h
   refine wjn (τ := (List Int)) (fun t => k9 t = some r) (fun y8 => ⟨mk 53 [(0, (.own 0 1 (0) (p0))), (1, I p1), (2, I p2), (3, Qjf), (8, I y2)], [(.own 1 ((y8 : List Int).map Qac)), Qhb, (.own 1 [[(Qha p4)]])]⟩) (fun y8 h => ?_) ?_
   ·subst hk_k9
    refine wx1 tbk [] trivial ?_
    refine thn ?_
    exact arm (mto (n := 53) [(0, (.own 0 1 (0) (p0))), (1, I p1), (2, I p2), (3, Qjf), (8, (I (w64 (y2 + 1))))] [0, 1, 2] [(.own 1 ((y8 : List Int).map Qac)), Qhb, (.own 1 [[(Qha p4)]])] hφ0 (pc (.rn (Qae rfl)) (pc rwl (pc rwl (pc (.rn (Qay rn0 (rnc (rqr rfl) (rnc (rqr rfl) rn0)))) (pc rwl pn))))) (qc (spr Qaa) (qc (spb (lc (.rn (Qay rn0 rn0)) ln)) (qc (spb (lc (.rn (.plain _ (nld Qab _))) ln)) qn)))) (ih (w64 (y2 + 1), y8) h)
   ·skip
    refine Qaf ?_
    refine wx tbk [] trivial ?_
    refine Qaf ?_
    refine wmr (mto (n := 53) (l' := [(0, (.own 0 1 (0) (p0))), (1, I p1), (2, I p2), (3, Qjf), (8, I y2), (9, I y2)]) (own' := [(Quo y3), Qhb, (.own 1 [[(Qha p4)]])]) [(0, (.own 0 1 (0) (p0))), (1, I p1), (2, I p2), (3, Qjf), (8, I y2), (9, I y2)] [0, 1, 2] [(Quo y3), Qhb, (.own 1 [[(Qha p4)]])] hφ0 (pc (.rn (Qae rfl)) (pc rwl (pc rwl (pc (.rn (Qay rn0 (rnc (rqr rfl) (rnc (rqr rfl) rn0)))) (pc rwl (pc rwl pn)))))) (qc (spr Qaa) (qc (spb (lc (.rn (Qay rn0 rn0)) ln)) (qc (spb (lc (.rn (.plain _ (nld Qab _))) ln)) qn)))) ?_
    refine Qb0 (τ := Int × (List Int)) (fun n t => Qaz N p0 p1 p4 k9 n t.1 t.2 = some r) (fun ⟨y10, y11⟩ => ⟨mk 53 [(0, (.own 0 1 (0) (p0))), (1, I p1), (2, I p2), (3, Qjf), (8, I y2), (9, I y10)], [(Qgt y11), Qhb, (.own 1 [[(Qha p4)]])]⟩) (fun t h => by rw [Qaz] at h; cases h) (fun n14 ih t h => ?_) N (y2, y3) h
    obtain ⟨y10, y11⟩ := t
    rw [Qaz] at h
    skip
    obtain ⟨k15, hk_k15, h⟩ := jko h
    refine wjn (τ := Unit) (fun t => k15 t = some r) (fun _ => ⟨mk 53 [(0, (.own 0 1 (0) (p0))), (1, I p1), (2, I p2), (3, Qjf), (8, I y2), (9, I y10)], [(Qgt y11), Qhb, (.own 1 [[(Qha p4)]])]⟩) (fun t h => ?_) ?_
    ·subst hk_k15
     refine wsq ?_
     refine Qaf ?_
     obtain ⟨hi16, h⟩ := cko h
     obtain ⟨hi16a, hi16b⟩ := Qa3 hi16
     obtain ⟨x17, hg18, h⟩ := bno h
     obtain ⟨hi19, h⟩ := cko h
     obtain ⟨hi19a, hi19b⟩ := Qa3 hi19
     obtain ⟨x20, hg21, h⟩ := bno h
     obtain ⟨hi22, h⟩ := cko h
     obtain ⟨hi22a, hi22b⟩ := Qa3 hi22
     obtain ⟨x23, hg24, h⟩ := bno h
     obtain ⟨hi25, h⟩ := cko h
     obtain ⟨hi25a, hi25b⟩ := Qa3 hi25
     obtain ⟨x26, hg27, h⟩ := bno h
     refine wy1 tbk [(8, rb [(.tmp 42, (.own 0 1 (0) (p0))), (.tmp 44, (I (w64 (y10 - 1))))] [(0, (Qgt y11))] (.ref 0 1 ((w64 (y10 - 1)).toNat) 0)), (9, rb [(.tmp 45, (.ref 0 1 ((w64 (y10 - 1)).toNat) 0))] [(0, (Qgt y11))] (I x17)), (12, rb [(.tmp 47, (.own 0 1 (0) (p0))), (.tmp 48, I y10)] [(0, (Qgt y11))] (.ref 0 1 (y10.toNat) 0)), (13, rb [(.tmp 49, (.ref 0 1 (y10.toNat) 0))] [(0, (Qgt y11))] (I x20)), (14, rb [(.tmp 37, (.own 0 1 (0) (p0))), (.tmp 38, I y10)] [(0, (Qgt y11))] (.ref 0 1 (y10.toNat) 0)), (15, ⟨[(.tmp 51, (.ref 0 1 (y10.toNat) 0)), (.tmp 46, I x17)], [(0, (Qgt y11))], .any, [(0, (.own 1 ((y11.set y10.toNat x17 : List Int).map Qac)))], false⟩), (16, rb [(.tmp 39, (.own 0 1 (0) (p0))), (.tmp 41, (I (w64 (y10 - 1))))] [(0, (.own 1 ((y11.set y10.toNat x17 : List Int).map Qac)))] (.ref 0 1 ((w64 (y10 - 1)).toNat) 0)), (17, ⟨[(.tmp 52, (.ref 0 1 ((w64 (y10 - 1)).toNat) 0)), (.tmp 50, I x20)], [(0, (.own 1 ((y11.set y10.toNat x17 : List Int).map Qac)))], .any, [(0, (.own 1 (((y11.set y10.toNat x17).set ((w64 (y10 - 1)).toNat) x20 : List Int).map Qac)))], false⟩)] ⟨aio rfl Try.underlying23 ti3 (odt hi16a) (odt hi16b) (Nat.zero_add _), ald rfl ti3 (by decide) (mgt Qac hg18) (nle rfl) rfl, aio rfl Try.underlying23 ti3 (odt hi19a) (odt hi19b) (Nat.zero_add _), ald rfl ti3 (by decide) (mgt Qac hg21) (nle rfl) rfl, aio rfl Try.underlying23 ti3 (odt hi22a) (odt hi22b) (Nat.zero_add _), ast rfl ti3 (by rfl) (mgt Qac hg24) (nle rfl) (Qdt Qac rfl), aio rfl Try.underlying23 ti3 (odt hi25a) (odt hi25b) (Nat.zero_add _), ast rfl ti3 (by rfl) (mgt Qac hg27) (nle rfl) (Qdt Qac rfl), trivial⟩ ?_
     refine bln ?_
     refine thn ?_
     refine wx1 tbk [] trivial ?_
     refine thn ?_
     exact arm (mto (n := 53) [(0, (.own 0 1 (0) (p0))), (1, I p1), (2, I p2), (3, Qjf), (8, I y2), (9, (I (w64 (y10 - 1))))] [0, 1, 2] [(.own 1 (((y11.set y10.toNat x17).set ((w64 (y10 - 1)).toNat) x20 : List Int).map Qac)), Qhb, (.own 1 [[(Qha p4)]])] hφ0 (pc (.rn (Qae rfl)) (pc rwl (pc rwl (pc (.rn (Qay rn0 (rnc (rqr rfl) (rnc (rqr rfl) rn0)))) (pc rwl (pc rwl pn)))))) (qc (spr Qaa) (qc (spb (lc (.rn (Qay rn0 rn0)) ln)) (qc (spb (lc (.rn (.plain _ (nld Qab _))) ln)) qn)))) (ih (w64 (y10 - 1), (y11.set y10.toNat x17).set ((w64 (y10 - 1)).toNat) x20) h)
    ·skip
     rcases bft ((decide (y10 > p1))) with hb28 | hb28
     ·replace h := Qau hb28 h
      obtain ⟨hi29, h⟩ := cko h
      obtain ⟨hi29a, hi29b⟩ := Qa3 hi29
      obtain ⟨x30, hg31, h⟩ := bno h
      obtain ⟨hi32, h⟩ := cko h
      obtain ⟨hi32a, hi32b⟩ := Qa3 hi32
      obtain ⟨x33, hg34, h⟩ := bno h
      obtain ⟨x36, hf35, h⟩ := bno h
      refine wxd tbk [(3, rp [(.tmp 20, (B ((decide (y10 > p1)))))] (B true)), (7, rb [(.tmp 21, B true), (.tmp 23, (.own 0 1 (0) (p0))), (.tmp 24, I y10)] [(0, (Qgt y11))] (.ref 0 1 (y10.toNat) 0)), (8, rb [(.tmp 21, B true), (.tmp 25, (.ref 0 1 (y10.toNat) 0))] [(0, (Qgt y11))] (I x30)), (12, rb [(.tmp 21, B true), (.tmp 27, (.own 0 1 (0) (p0))), (.tmp 29, (I (w64 (y10 - 1))))] [(0, (Qgt y11))] (.ref 0 1 ((w64 (y10 - 1)).toNat) 0)), (13, rb [(.tmp 21, B true), (.tmp 30, (.ref 0 1 ((w64 (y10 - 1)).toNat) 0))] [(0, (Qgt y11))] (I x33)), (14, ⟨[(.tmp 21, B true), (.tmp 22, Qjf), (.tmp 26, I x30), (.tmp 31, I x33)], [(1, Qhb), (2, (.own 1 [[(Qha p4)]]))], I x36, [(1, Qhb), (2, (.own 1 [[(Qha p4)]]))], false⟩)] ⟨asb hb28 (amv rfl), ag_ (aio rfl Try.underlying23 ti3 (odt hi29a) (odt hi29b) (Nat.zero_add _)), ag_ (ald rfl ti3 (by decide) (mgt Qac hg31) (nle rfl) rfl), ag_ (aio rfl Try.underlying23 ti3 (odt hi32a) (odt hi32b) (Nat.zero_add _)), ag_ (ald rfl ti3 (by decide) (mgt Qac hg34) (nle rfl) rfl), ag_ (Qas (first := []) (cap := [.ref 1 1 0 0, .ref 2 1 0 0]) (vs := [I x30, I x33]) (σr := [Qhb, (.own 1 [[(Qha p4)]])]) (σr' := [Qhb, (.own 1 [[(Qha p4)]])]) (res' := (I x36)) [1, 2] rfl Qoc (Qc0 N x30 x33 p4 _ hf35) rfl (Qcn (rnc (.plain _ nll) (rnc (.plain _ nll) (rnc (Qbs rfl) (rnc (Qbs rfl) rn0))))) (slc (Qal (rnc (.plain _ (NLt.fn _ _ _ nl0 nl0)) rn0)) (slc (Qal (rnc (.plain _ (nld Qab _)) rn0)) Qan)) (slc (Qal (rnc (.plain _ (NLt.fn _ _ _ nl0 nl0)) rn0)) (slc (Qal (rnc (.plain _ (nld Qab _)) rn0)) Qan)) (.plain _ nll) rfl rfl rfl), trivial⟩ ?_
      rcases bft ((decide (x36 < 0))) with hc37 | hc37
      ·replace h := Qau hc37 h
       refine wft hc37 (by kernel_rfl) ?_
       refine Qag ?_
       refine thn ?_
       exact ⟨(), h, (mto (n := 53) [(0, (.own 0 1 (0) (p0))), (1, I p1), (2, I p2), (3, Qjf), (8, I y2), (9, I y10)] [0, 1, 2] [(Qgt y11), Qhb, (.own 1 [[(Qha p4)]])] hφ0 (pc (.rn (Qae rfl)) (pc rwl (pc rwl (pc (.rn (Qay rn0 (rnc (rqr rfl) (rnc (rqr rfl) rn0)))) (pc rwl (pc rwl pn)))))) (qc (spr Qaa) (qc (spb (lc (.rn (Qay rn0 rn0)) ln)) (qc (spb (lc (.rn (.plain _ (nld Qab _))) ln)) qn))))⟩
      ·replace h := Qav hc37 h
       refine wfn hc37 (by kernel_rfl) ?_
       refine Qbc ?_
       refine Qam ?_
       refine Qam ?_
       refine Qbb rfl ?_
       refine bln ?_
       refine thn ?_
       exact ⟨(y11), h, (mto (n := 53) [(0, (.own 0 1 (0) (p0))), (1, I p1), (2, I p2), (3, Qjf), (8, I y2)] [0, 1, 2] [(Qgt y11), Qhb, (.own 1 [[(Qha p4)]])] hφ0 (pc (.rn (Qae rfl)) (pc rwl (pc rwl (pc (.rn (Qay rn0 (rnc (rqr rfl) (rnc (rqr rfl) rn0)))) (pc rwl pn))))) (qc (spr Qaa) (qc (spb (lc (.rn (Qay rn0 rn0)) ln)) (qc (spb (lc (.rn (.plain _ (nld Qab _))) ln)) qn))))⟩
     ·replace h := Qav hb28 h
      refine wxd tbk [(3, rp [(.tmp 20, (B ((decide (y10 > p1)))))] (B false))] ⟨asb hb28 (amv rfl), trivial⟩ ?_
      refine Qe3 (by kernel_rfl) ?_
      refine Qbc ?_
      refine Qam ?_
      refine Qam ?_
      refine Qbb rfl ?_
      refine bln ?_
      refine thn ?_
      exact ⟨(y11), h, (mto (n := 53) [(0, (.own 0 1 (0) (p0))), (1, I p1), (2, I p2), (3, Qjf), (8, I y2)] [0, 1, 2] [(Qgt y11), Qhb, (.own 1 [[(Qha p4)]])] hφ0 (pc (.rn (Qae rfl)) (pc rwl (pc rwl (pc (.rn (Qay rn0 (rnc (rqr rfl) (rnc (rqr rfl) rn0)))) (pc rwl pn))))) (qc (spr Qaa) (qc (spb (lc (.rn (Qay rn0 rn0)) ln)) (qc (spb (lc (.rn (.plain _ (nld Qab _))) ln)) qn))))⟩
  ·replace h := Qav hc7 h
   refine wfn hc7 (by kernel_rfl) ?_
   refine Qbc ?_
   refine Qam ?_
   refine Qam ?_
   refine Qbb rfl ?_
   obtain rfl := osi h
   exact ⟨_, (mto (n := 53) (l' := []) (own' := [(Quo y3), Qhb, (.own 1 [[(Qha p4)]])]) [] [0, 1, 2] [(Quo y3), Qhb, (.own 1 [[(Qha p4)]])] hφ0 pn (qc (spr Qaa) (qc (spb (lc (.rn (Qay rn0 rn0)) ln)) (qc (spb (lc (.rn (.plain _ (nld Qab _))) ln)) qn)))), Qcw (vs := []) trivial rfl (NLt.tup _ nl0) (by kernel_rfl) (Qao (Qda Qaa _) (Qao (Qbx (nlc (NLt.of0 (NLt.fn _ _ _ nl0 nl0)) nl0)) (Qao (Qbx (nlc (NLt.of0 (nld Qab _)) nl0)) Qbw)))⟩
def Qa5 (N : Nat) (p0 : Nat) (p1 : Int) (p2 : Int) (p3 : Int) : Nat → Int → (List Int) → Option (List Int)
  | 0, _, _ => none
  | n6 + 1, y2, y3 =>
    bif (decide (y2 < p3)) then
     chk (decide (0 ≤ w64 (p2 + y2)) && decide ((w64 (p2 + y2)).toNat < p0)) <|
     (y3[(w64 (p2 + y2)).toNat]?).bind fun x9 =>
     chk (decide (0 ≤ w64 (p1 + y2)) && decide ((w64 (p1 + y2)).toNat < p0)) <|
     (y3[(w64 (p1 + y2)).toNat]?).bind fun x12 =>
     chk (decide (0 ≤ w64 (p1 + y2)) && decide ((w64 (p1 + y2)).toNat < p0)) <|
     (y3[(w64 (p1 + y2)).toNat]?).bind fun _ =>
     chk (decide (0 ≤ w64 (p2 + y2)) && decide ((w64 (p2 + y2)).toNat < p0)) <|
     ((y3.set ((w64 (p1 + y2)).toNat) x9)[(w64 (p2 + y2)).toNat]?).bind fun _ =>
     Qa5 N p0 p1 p2 p3 n6 (w64 (y2 + 1)) ((y3.set ((w64 (p1 + y2)).toNat) x9).set ((w64 (p2 + y2)).toNat) x12)
    else
     some y3
def Qbj (N : Nat) (p0 : Nat) (p1 : Int) (p2 : Int) (p3 : Int) (p4 : (List Int)) (_p5 : (List GNode)) : Option (List Int) :=
  Qa5 N p0 p1 p2 p3 N 0 p4
def z29_0 (p4 : (List Int)) : Slot := .own 1 ((p4 : List Int).map Qac)
def Qou : Slot := .own 1 [[(.fn (.func 70) [] [])]]
def Qot (p5 : (List GNode)) : AV := .dat 4 ((p5 : List GNode).map Qad)
def Qjx (y3 : (List Int)) : Slot := .own 1 ((y3 : List Int).map Qac)
def Qun (y3 : (List Int)) (p1 : Int) (y2 : Int) (x9 : Int) : Slot := .own 1 ((y3.set ((w64 (p1 + y2)).toNat) x9 : List Int).map Qac)
set_option maxRecDepth 100000 in
set_option maxHeartbeats 4000000 in
theorem Qdb (N : Nat) (p0 : Nat) (p1 : Int) (p2 : Int) (p3 : Int) (p4 : (List Int)) (p5 : (List GNode)) (r : (List Int)) (h : Qbj N p0 p1 p2 p3 p4 p5 = some r) : Spec Try.prog 118 [(.own 0 1 (0) (p0)), (I (p1)), (I (p2)), (I (p3)), (.fn (.func 96) [] [(.ref 1 1 (0) 0), (.ref 2 1 (0) 0)])] [(z29_0 p4), Qou, (.own 1 [[(Qot p5)]])] (.tup []) [(.own 1 ((r : List Int).map Qac)), Qou, (.own 1 [[(Qot p5)]])] := by
  refine Qai Try.func118 rfl 3 (nle rfl) (fun X φ0 w0 hφ0 => ?_)
  unfold Qbj at h
  refine Qcm ?_
  refine wx tbk [] trivial ?_
  refine Qaf ?_
  refine wmr (mto (n := 38) (l' := [(0, (.own 0 1 (0) (p0))), (1, I p1), (2, I p2), (3, I p3), (10, I 0)]) (own' := [(z29_0 p4), Qou, (.own 1 [[(Qot p5)]])]) [(0, (.own 0 1 (0) (p0))), (1, I p1), (2, I p2), (3, I p3), (10, I 0)] [0, 1, 2] [(z29_0 p4), Qou, (.own 1 [[(Qot p5)]])] hφ0 (pc (.rn (Qae rfl)) (pc rwl (pc rwl (pc rwl (pc rwl pn))))) (qc (spr Qaa) (qc (spb (lc (.rn (Qay rn0 rn0)) ln)) (qc (spb (lc (.rn (.plain _ (nld Qab _))) ln)) qn)))) ?_
  refine Qb0 (τ := Int × (List Int)) (fun n t => Qa5 N p0 p1 p2 p3 n t.1 t.2 = some r) (fun ⟨y2, y3⟩ => ⟨mk 38 [(0, (.own 0 1 (0) (p0))), (1, I p1), (2, I p2), (3, I p3), (10, I y2)], [(Qjx y3), Qou, (.own 1 [[(Qot p5)]])]⟩) (fun t h => by rw [Qa5] at h; cases h) (fun n6 ih t h => ?_) N (0, p4) h
  obtain ⟨y2, y3⟩ := t
  rw [Qa5] at h
  skip
  refine wsq ?_
  refine wx tbk [] trivial ?_
  rcases bft ((decide (y2 < p3))) with hc7 | hc7
  ·replace h := Qau hc7 h
   refine wft hc7 (by kernel_rfl) ?_
   refine Qag ?_
   refine thn ?_
   refine wsq ?_
   refine Qaf ?_
   obtain ⟨hi8, h⟩ := cko h
   obtain ⟨hi8a, hi8b⟩ := Qa3 hi8
   obtain ⟨x9, hg10, h⟩ := bno h
   obtain ⟨hi11, h⟩ := cko h
   obtain ⟨hi11a, hi11b⟩ := Qa3 hi11
   obtain ⟨x12, hg13, h⟩ := bno h
   obtain ⟨hi14, h⟩ := cko h
   obtain ⟨hi14a, hi14b⟩ := Qa3 hi14
   obtain ⟨x15, hg16, h⟩ := bno h
   obtain ⟨hi17, h⟩ := cko h
   obtain ⟨hi17a, hi17b⟩ := Qa3 hi17
   obtain ⟨x18, hg19, h⟩ := bno h
   refine wy1 tbk [(12, rb [(.tmp 24, (.own 0 1 (0) (p0))), (.tmp 27, (I (w64 (p2 + y2))))] [(0, (Qjx y3))] (.ref 0 1 ((w64 (p2 + y2)).toNat) 0)), (13, rb [(.tmp 28, (.ref 0 1 ((w64 (p2 + y2)).toNat) 0))] [(0, (Qjx y3))] (I x9)), (18, rb [(.tmp 30, (.own 0 1 (0) (p0))), (.tmp 33, (I (w64 (p1 + y2))))] [(0, (Qjx y3))] (.ref 0 1 ((w64 (p1 + y2)).toNat) 0)), (19, rb [(.tmp 34, (.ref 0 1 ((w64 (p1 + y2)).toNat) 0))] [(0, (Qjx y3))] (I x12)), (20, rb [(.tmp 16, (.own 0 1 (0) (p0))), (.tmp 19, (I (w64 (p1 + y2))))] [(0, (Qjx y3))] (.ref 0 1 ((w64 (p1 + y2)).toNat) 0)), (21, ⟨[(.tmp 36, (.ref 0 1 ((w64 (p1 + y2)).toNat) 0)), (.tmp 29, I x9)], [(0, (Qjx y3))], .any, [(0, (Qun y3 p1 y2 x9))], false⟩), (22, rb [(.tmp 20, (.own 0 1 (0) (p0))), (.tmp 23, (I (w64 (p2 + y2))))] [(0, (Qun y3 p1 y2 x9))] (.ref 0 1 ((w64 (p2 + y2)).toNat) 0)), (23, ⟨[(.tmp 37, (.ref 0 1 ((w64 (p2 + y2)).toNat) 0)), (.tmp 35, I x12)], [(0, (Qun y3 p1 y2 x9))], .any, [(0, (.own 1 (((y3.set ((w64 (p1 + y2)).toNat) x9).set ((w64 (p2 + y2)).toNat) x12 : List Int).map Qac)))], false⟩)] ⟨aio rfl Try.underlying23 ti3 (odt hi8a) (odt hi8b) (Nat.zero_add _), ald rfl ti3 (by decide) (mgt Qac hg10) (nle rfl) rfl, aio rfl Try.underlying23 ti3 (odt hi11a) (odt hi11b) (Nat.zero_add _), ald rfl ti3 (by decide) (mgt Qac hg13) (nle rfl) rfl, aio rfl Try.underlying23 ti3 (odt hi14a) (odt hi14b) (Nat.zero_add _), ast rfl ti3 (by rfl) (mgt Qac hg16) (nle rfl) (Qdt Qac rfl), aio rfl Try.underlying23 ti3 (odt hi17a) (odt hi17b) (Nat.zero_add _), ast rfl ti3 (by rfl) (mgt Qac hg19) (nle rfl) (Qdt Qac rfl), trivial⟩ ?_
   refine bln ?_
   refine thn ?_
   refine wx1 tbk [] trivial ?_
   refine thn ?_
   exact arm (mto (n := 38) [(0, (.own 0 1 (0) (p0))), (1, I p1), (2, I p2), (3, I p3), (10, (I (w64 (y2 + 1))))] [0, 1, 2] [(.own 1 (((y3.set ((w64 (p1 + y2)).toNat) x9).set ((w64 (p2 + y2)).toNat) x12 : List Int).map Qac)), Qou, (.own 1 [[(Qot p5)]])] hφ0 (pc (.rn (Qae rfl)) (pc rwl (pc rwl (pc rwl (pc rwl pn))))) (qc (spr Qaa) (qc (spb (lc (.rn (Qay rn0 rn0)) ln)) (qc (spb (lc (.rn (.plain _ (nld Qab _))) ln)) qn)))) (ih (w64 (y2 + 1), (y3.set ((w64 (p1 + y2)).toNat) x9).set ((w64 (p2 + y2)).toNat) x12) h)
  ·replace h := Qav hc7 h
   refine wfn hc7 (by kernel_rfl) ?_
   refine Qbc ?_
   refine Qam ?_
   refine Qam ?_
   refine Qbb rfl ?_
   obtain rfl := osi h
   exact ⟨_, (mto (n := 38) (l' := []) (own' := [(Qjx y3), Qou, (.own 1 [[(Qot p5)]])]) [] [0, 1, 2] [(Qjx y3), Qou, (.own 1 [[(Qot p5)]])] hφ0 pn (qc (spr Qaa) (qc (spb (lc (.rn (Qay rn0 rn0)) ln)) (qc (spb (lc (.rn (.plain _ (nld Qab _))) ln)) qn)))), Qcw (vs := []) trivial rfl (NLt.tup _ nl0) (by kernel_rfl) (Qao (Qda Qaa _) (Qao (Qbx (nlc (NLt.of0 (NLt.fn _ _ _ nl0 nl0)) nl0)) (Qao (Qbx (nlc (NLt.of0 (nld Qab _)) nl0)) Qbw)))⟩
def Qa4 (N : Nat) (p0 : Nat) (p2 : Int) (k4 : Int × (List Int) → Option (List Int)) (p5 : (List GNode)) : Nat → Int → Int → (List Int) → Option (List Int)
  | 0, _, _, _ => none
  | n13 + 1, y7, y8, y9 =>
    bif (y7 != y8) then
     bif (decide (y7 > y8)) then
      (Qbj N p0 (w64 (p2 - y7)) p2 y8 y9 p5).bind fun x17 =>
      Qa4 N p0 p2 k4 p5 n13 (w64 (y7 - y8)) y8 x17
     else
      (Qbj N p0 (w64 (p2 - y7)) (w64 ((w64 (p2 + y8)) - y7)) y7 y9 p5).bind fun x19 =>
      Qa4 N p0 p2 k4 p5 n13 y7 (w64 (y8 - y7)) x19
    else
     k4 (y7, y9)
def Qb6 (N : Nat) (p0 : Nat) (p1 : Int) (p2 : Int) (p3 : Int) (p4 : (List Int)) (p5 : (List GNode)) : Option (List Int) :=
  Qcd (fun ⟨y2, y3⟩ =>
    (Qbj N p0 (w64 (p2 - y2)) p2 y2 y3 p5).bind fun x6 =>
    some x6) fun k4 : Int × (List Int) → Option (List Int) =>
  Qa4 N p0 p2 k4 p5 N (w64 (p2 - p1)) (w64 (p3 - p2)) p4
def Qjy : AV := .fn (.func 96) [] [(.ref 1 1 (0) 0), (.ref 2 1 (0) 0)]
def z28_1 (p4 : (List Int)) : Slot := .own 1 ((p4 : List Int).map Qac)
def Qgs : Slot := .own 1 [[(.fn (.func 70) [] [])]]
def Qgr (p5 : (List GNode)) : AV := .dat 4 ((p5 : List GNode).map Qad)
def z28_6 (y3 : (List Int)) : Slot := .own 1 ((y3 : List Int).map Qac)
def Qrq (x6 : (List Int)) : Slot := .own 1 ((x6 : List Int).map Qac)
def Qms (y9 : (List Int)) : Slot := .own 1 ((y9 : List Int).map Qac)
set_option maxRecDepth 100000 in
set_option maxHeartbeats 4000000 in
theorem Qgb (N : Nat) (p0 : Nat) (p1 : Int) (p2 : Int) (p3 : Int) (p4 : (List Int)) (p5 : (List GNode)) (r : (List Int)) (h : Qb6 N p0 p1 p2 p3 p4 p5 = some r) : Spec Try.prog 117 [(.own 0 1 (0) (p0)), (I (p1)), (I (p2)), (I (p3)), Qjy] [(z28_1 p4), Qgs, (.own 1 [[(Qgr p5)]])] (.tup []) [(.own 1 ((r : List Int).map Qac)), Qgs, (.own 1 [[(Qgr p5)]])] := by
  refine Qai Try.func117 rfl 3 (nle rfl) (fun X φ0 w0 hφ0 => ?_)
  unfold Qb6 at h
  refine Qcm ?_
  refine wx tbk [] trivial ?_
  refine wx tbk [] trivial ?_
  obtain ⟨k4, hk_k4, h⟩ := jko h
  refine wjn (τ := Int × (List Int)) (fun t => k4 t = some r) (fun ⟨y2, y3⟩ => ⟨mk 58 [(0, (.own 0 1 (0) (p0))), (2, I p2), (4, Qjy), (10, I y2)], [(z28_6 y3), Qgs, (.own 1 [[(Qgr p5)]])]⟩) (fun t h => ?_) ?_
  ·subst hk_k4
   obtain ⟨y2, y3⟩ := t
   obtain ⟨x6, hf5, h⟩ := bno h
   refine wx1 tbk [(7, ⟨[fu 118, (.tmp 50, (.own 0 1 (0) (p0))), (.tmp 53, (I (w64 (p2 - y2)))), (.tmp 54, I p2), (.tmp 55, I y2), (.tmp 56, Qjy)], [(0, (z28_6 y3)), (1, Qgs), (2, (.own 1 [[(Qgr p5)]]))], (.tup []), [(0, (Qrq x6)), (1, Qgs), (2, (.own 1 [[(Qgr p5)]]))], false⟩)] ⟨Qas (first := []) (cap := []) (vs := [(.own 0 1 (0) (p0)), (I (w64 (p2 - y2))), I p2, I y2, Qjy]) (σr := [(z28_6 y3), Qgs, (.own 1 [[(Qgr p5)]])]) (σr' := [(Qrq x6), Qgs, (.own 1 [[(Qgr p5)]])]) (res' := (.tup [])) [0, 1, 2] rfl Qoe (Qdb N p0 (w64 (p2 - y2)) p2 y2 y3 p5 _ hf5) rfl (Qcn (rnc (Qdo rfl) (rnc (.plain _ nll) (rnc (.plain _ nll) (rnc (.plain _ nll) (rnc (Qay rn0 (rnc (Qbs rfl) (rnc (Qbs rfl) rn0))) rn0)))))) (slc (Qbg Qaa) (slc (Qal (rnc (.plain _ (NLt.fn _ _ _ nl0 nl0)) rn0)) (slc (Qal (rnc (.plain _ (nld Qab _)) rn0)) Qan))) (slc (Qbg Qaa) (slc (Qal (rnc (.plain _ (NLt.fn _ _ _ nl0 nl0)) rn0)) (slc (Qal (rnc (.plain _ (nld Qab _)) rn0)) Qan))) (.plain _ (NLt.tup _ nl0)) rfl rfl rfl, trivial⟩ ?_
   obtain rfl := osi h
   exact ⟨_, (mto (n := 58) (l' := []) (own' := [(Qrq x6), Qgs, (.own 1 [[(Qgr p5)]])]) [] [0, 1, 2] [(Qrq x6), Qgs, (.own 1 [[(Qgr p5)]])] hφ0 pn (qc (spr Qaa) (qc (spb (lc (.rn (Qay rn0 rn0)) ln)) (qc (spb (lc (.rn (.plain _ (nld Qab _))) ln)) qn)))), Qcw (vs := []) trivial rfl (NLt.tup _ nl0) (by kernel_rfl) (Qao (Qda Qaa _) (Qao (Qbx (nlc (NLt.of0 (NLt.fn _ _ _ nl0 nl0)) nl0)) (Qao (Qbx (nlc (NLt.of0 (nld Qab _)) nl0)) Qbw)))⟩
  ·skip
   refine Qaf ?_
   refine wmr (mto (n := 58) (l' := [(0, (.own 0 1 (0) (p0))), (2, I p2), (4, Qjy), (10, (I ((w64 (p2 - p1))))), (11, (I ((w64 (p3 - p2)))))]) (own' := [(z28_1 p4), Qgs, (.own 1 [[(Qgr p5)]])]) [(0, (.own 0 1 (0) (p0))), (2, I p2), (4, Qjy), (10, (I (w64 (p2 - p1)))), (11, (I (w64 (p3 - p2))))] [0, 1, 2] [(z28_1 p4), Qgs, (.own 1 [[(Qgr p5)]])] hφ0 (pc (.rn (Qae rfl)) (pc rwl (pc (.rn (Qay rn0 (rnc (rqr rfl) (rnc (rqr rfl) rn0)))) (pc rwl (pc rwl pn))))) (qc (spr Qaa) (qc (spb (lc (.rn (Qay rn0 rn0)) ln)) (qc (spb (lc (.rn (.plain _ (nld Qab _))) ln)) qn)))) ?_
   refine Qb0 (τ := Int × Int × (List Int)) (fun n t => Qa4 N p0 p2 k4 p5 n t.1 t.2.1 t.2.2 = some r) (fun ⟨y7, y8, y9⟩ => ⟨mk 58 [(0, (.own 0 1 (0) (p0))), (2, I p2), (4, Qjy), (10, I y7), (11, I y8)], [(Qms y9), Qgs, (.own 1 [[(Qgr p5)]])]⟩) (fun t h => by rw [Qa4] at h; cases h) (fun n13 ih t h => ?_) N (w64 (p2 - p1), w64 (p3 - p2), p4) h
   obtain ⟨y7, y8, y9⟩ := t
   rw [Qa4] at h
   skip
   refine wsq ?_
   refine wx tbk [] trivial ?_
   rcases bft ((y7 != y8)) with hc14 | hc14
   ·replace h := Qau hc14 h
    refine wft hc14 (by kernel_rfl) ?_
    refine Qag ?_
    refine thn ?_
    refine Qaf ?_
    refine wx tbk [] trivial ?_
    rcases bft ((decide (y7 > y8))) with hc15 | hc15
    ·replace h := Qau hc15 h
     refine wft hc15 (by kernel_rfl) ?_
     obtain ⟨x17, hf16, h⟩ := bno h
     refine wx tbk [(7, ⟨[fu 118, (.tmp 24, (.own 0 1 (0) (p0))), (.tmp 27, (I (w64 (p2 - y7)))), (.tmp 28, I p2), (.tmp 29, I y8), (.tmp 30, Qjy)], [(0, (Qms y9)), (1, Qgs), (2, (.own 1 [[(Qgr p5)]]))], (.tup []), [(0, (.own 1 ((x17 : List Int).map Qac))), (1, Qgs), (2, (.own 1 [[(Qgr p5)]]))], false⟩)] ⟨Qas (first := []) (cap := []) (vs := [(.own 0 1 (0) (p0)), (I (w64 (p2 - y7))), I p2, I y8, Qjy]) (σr := [(Qms y9), Qgs, (.own 1 [[(Qgr p5)]])]) (σr' := [(.own 1 ((x17 : List Int).map Qac)), Qgs, (.own 1 [[(Qgr p5)]])]) (res' := (.tup [])) [0, 1, 2] rfl Qoe (Qdb N p0 (w64 (p2 - y7)) p2 y8 y9 p5 _ hf16) rfl (Qcn (rnc (Qdo rfl) (rnc (.plain _ nll) (rnc (.plain _ nll) (rnc (.plain _ nll) (rnc (Qay rn0 (rnc (Qbs rfl) (rnc (Qbs rfl) rn0))) rn0)))))) (slc (Qbg Qaa) (slc (Qal (rnc (.plain _ (NLt.fn _ _ _ nl0 nl0)) rn0)) (slc (Qal (rnc (.plain _ (nld Qab _)) rn0)) Qan))) (slc (Qbg Qaa) (slc (Qal (rnc (.plain _ (NLt.fn _ _ _ nl0 nl0)) rn0)) (slc (Qal (rnc (.plain _ (nld Qab _)) rn0)) Qan))) (.plain _ (NLt.tup _ nl0)) rfl rfl rfl, trivial⟩ ?_
     refine wx1 tbk [] trivial ?_
     refine bln ?_
     refine thn ?_
     exact arm (mto (n := 58) [(0, (.own 0 1 (0) (p0))), (2, I p2), (4, Qjy), (10, (I (w64 (y7 - y8)))), (11, I y8)] [0, 1, 2] [(.own 1 ((x17 : List Int).map Qac)), Qgs, (.own 1 [[(Qgr p5)]])] hφ0 (pc (.rn (Qae rfl)) (pc rwl (pc (.rn (Qay rn0 (rnc (rqr rfl) (rnc (rqr rfl) rn0)))) (pc rwl (pc rwl pn))))) (qc (spr Qaa) (qc (spb (lc (.rn (Qay rn0 rn0)) ln)) (qc (spb (lc (.rn (.plain _ (nld Qab _))) ln)) qn)))) (ih (w64 (y7 - y8), y8, x17) h)
    ·replace h := Qav hc15 h
     refine wfn hc15 (by kernel_rfl) ?_
     obtain ⟨x19, hf18, h⟩ := bno h
     refine wx tbk [(11, ⟨[fu 118, (.tmp 35, (.own 0 1 (0) (p0))), (.tmp 38, (I (w64 (p2 - y7)))), (.tmp 43, (I (w64 ((w64 (p2 + y8)) - y7)))), (.tmp 44, I y7), (.tmp 45, Qjy)], [(0, (Qms y9)), (1, Qgs), (2, (.own 1 [[(Qgr p5)]]))], (.tup []), [(0, (.own 1 ((x19 : List Int).map Qac))), (1, Qgs), (2, (.own 1 [[(Qgr p5)]]))], false⟩)] ⟨Qas (first := []) (cap := []) (vs := [(.own 0 1 (0) (p0)), (I (w64 (p2 - y7))), (I (w64 ((w64 (p2 + y8)) - y7))), I y7, Qjy]) (σr := [(Qms y9), Qgs, (.own 1 [[(Qgr p5)]])]) (σr' := [(.own 1 ((x19 : List Int).map Qac)), Qgs, (.own 1 [[(Qgr p5)]])]) (res' := (.tup [])) [0, 1, 2] rfl Qoe (Qdb N p0 (w64 (p2 - y7)) (w64 ((w64 (p2 + y8)) - y7)) y7 y9 p5 _ hf18) rfl (Qcn (rnc (Qdo rfl) (rnc (.plain _ nll) (rnc (.plain _ nll) (rnc (.plain _ nll) (rnc (Qay rn0 (rnc (Qbs rfl) (rnc (Qbs rfl) rn0))) rn0)))))) (slc (Qbg Qaa) (slc (Qal (rnc (.plain _ (NLt.fn _ _ _ nl0 nl0)) rn0)) (slc (Qal (rnc (.plain _ (nld Qab _)) rn0)) Qan))) (slc (Qbg Qaa) (slc (Qal (rnc (.plain _ (NLt.fn _ _ _ nl0 nl0)) rn0)) (slc (Qal (rnc (.plain _ (nld Qab _)) rn0)) Qan))) (.plain _ (NLt.tup _ nl0)) rfl rfl rfl, trivial⟩ ?_
     refine wx1 tbk [] trivial ?_
     refine bln ?_
     refine thn ?_
     exact arm (mto (n := 58) [(0, (.own 0 1 (0) (p0))), (2, I p2), (4, Qjy), (10, I y7), (11, (I (w64 (y8 - y7))))] [0, 1, 2] [(.own 1 ((x19 : List Int).map Qac)), Qgs, (.own 1 [[(Qgr p5)]])] hφ0 (pc (.rn (Qae rfl)) (pc rwl (pc (.rn (Qay rn0 (rnc (rqr rfl) (rnc (rqr rfl) rn0)))) (pc rwl (pc rwl pn))))) (qc (spr Qaa) (qc (spb (lc (.rn (Qay rn0 rn0)) ln)) (qc (spb (lc (.rn (.plain _ (nld Qab _))) ln)) qn)))) (ih (y7, w64 (y8 - y7), x19) h)
   ·replace h := Qav hc14 h
    refine wfn hc14 (by kernel_rfl) ?_
    refine Qbc ?_
    refine Qam ?_
    refine Qam ?_
    refine Qbb rfl ?_
    refine thn ?_
    exact ⟨(y7, y9), h, (mto (n := 58) [(0, (.own 0 1 (0) (p0))), (2, I p2), (4, Qjy), (10, I y7)] [0, 1, 2] [(Qms y9), Qgs, (.own 1 [[(Qgr p5)]])] hφ0 (pc (.rn (Qae rfl)) (pc rwl (pc (.rn (Qay rn0 (rnc (rqr rfl) (rnc (rqr rfl) rn0)))) (pc rwl pn)))) (qc (spr Qaa) (qc (spb (lc (.rn (Qay rn0 rn0)) ln)) (qc (spb (lc (.rn (.plain _ (nld Qab _))) ln)) qn))))⟩
def slices_symMergeCmpFunc_intX_1_loop1 (N : Nat) (p0 : Nat) (p4 : (List Int)) (p5 : (List GNode)) (x10 : Int) (k13 : Int → Option (List Int)) : Nat → Int → Int → Option (List Int)
  | 0, _, _ => none
  | n36 + 1, y32, y33 =>
    bif (decide (y32 < y33)) then
     (some (w64 ((IntKind.wrap .u64 (w64 (y32 + y33))) / 2))).bind fun x38 =>
     chk (decide (0 ≤ w64 (x10 - x38)) && decide ((w64 (x10 - x38)).toNat < p0)) <|
     (p4[(w64 (x10 - x38)).toNat]?).bind fun x41 =>
     chk (decide (0 ≤ x38) && decide (x38.toNat < p0)) <|
     (p4[x38.toNat]?).bind fun x44 =>
     (Qbm N x41 x44 p5).bind fun x47 =>
     bif (!(decide (x47 < 0))) then
      slices_symMergeCmpFunc_intX_1_loop1 N p0 p4 p5 x10 k13 n36 (w64 (x38 + 1)) y33
     else
      slices_symMergeCmpFunc_intX_1_loop1 N p0 p4 p5 x10 k13 n36 y32 x38
    else
     k13 (y32)
def Qa7 (N : Nat) (p0 : Nat) (y53 : Int) (k56 : (List Int) → Option (List Int)) : Nat → Int → (List Int) → Option (List Int)
  | 0, _, _ => none
  | n61 + 1, y57, y58 =>
    bif (decide (y57 > y53)) then
     chk (decide (0 ≤ w64 (y57 - 1)) && decide ((w64 (y57 - 1)).toNat < p0)) <|
     (y58[(w64 (y57 - 1)).toNat]?).bind fun x64 =>
     chk (decide (0 ≤ y57) && decide (y57.toNat < p0)) <|
     (y58[y57.toNat]?).bind fun x67 =>
     chk (decide (0 ≤ y57) && decide (y57.toNat < p0)) <|
     (y58[y57.toNat]?).bind fun _ =>
     chk (decide (0 ≤ w64 (y57 - 1)) && decide ((w64 (y57 - 1)).toNat < p0)) <|
     ((y58.set y57.toNat x64)[(w64 (y57 - 1)).toNat]?).bind fun _ =>
     Qa7 N p0 y53 k56 n61 (w64 (y57 - 1)) ((y58.set y57.toNat x64).set ((w64 (y57 - 1)).toNat) x67)
    else
     k56 (y58)
def slices_symMergeCmpFunc_intX_1_loop3 (N : Nat) (p0 : Nat) (p2 : Int) (p4 : (List Int)) (p5 : (List GNode)) (k54 : Int → Option (List Int)) : Nat → Int → Int → Option (List Int)
  | 0, _, _ => none
  | n79 + 1, y75, y76 =>
    bif (decide (y75 < y76)) then
     (some (w64 ((IntKind.wrap .u64 (w64 (y75 + y76))) / 2))).bind fun x81 =>
     chk (decide (0 ≤ p2) && decide (p2.toNat < p0)) <|
     (p4[p2.toNat]?).bind fun x84 =>
     chk (decide (0 ≤ x81) && decide (x81.toNat < p0)) <|
     (p4[x81.toNat]?).bind fun x87 =>
     (Qbm N x84 x87 p5).bind fun x90 =>
     bif (!(decide (x90 < 0))) then
      slices_symMergeCmpFunc_intX_1_loop3 N p0 p2 p4 p5 k54 n79 (w64 (x81 + 1)) y76
     else
      slices_symMergeCmpFunc_intX_1_loop3 N p0 p2 p4 p5 k54 n79 y75 x81
    else
     k54 (y75)
def Qa6 (N : Nat) (p0 : Nat) (y93 : Int) (k96 : (List Int) → Option (List Int)) : Nat → Int → (List Int) → Option (List Int)
  | 0, _, _ => none
  | n101 + 1, y97, y98 =>
    bif (decide (y97 < (w64 (y93 - 1)))) then
     chk (decide (0 ≤ w64 (y97 + 1)) && decide ((w64 (y97 + 1)).toNat < p0)) <|
     (y98[(w64 (y97 + 1)).toNat]?).bind fun x104 =>
     chk (decide (0 ≤ y97) && decide (y97.toNat < p0)) <|
     (y98[y97.toNat]?).bind fun x107 =>
     chk (decide (0 ≤ y97) && decide (y97.toNat < p0)) <|
     (y98[y97.toNat]?).bind fun _ =>
     chk (decide (0 ≤ w64 (y97 + 1)) && decide ((w64 (y97 + 1)).toNat < p0)) <|
     ((y98.set y97.toNat x104)[(w64 (y97 + 1)).toNat]?).bind fun _ =>
     Qa6 N p0 y93 k96 n101 (w64 (y97 + 1)) ((y98.set y97.toNat x104).set ((w64 (y97 + 1)).toNat) x107)
    else
     k96 (y98)
def slices_symMergeCmpFunc_intX_1_loop5 (N : Nat) (p0 : Nat) (p1 : Int) (p4 : (List Int)) (p5 : (List GNode)) (k94 : Int → Option (List Int)) : Nat → Int → Int → Option (List Int)
  | 0, _, _ => none
  | n119 + 1, y115, y116 =>
    bif (decide (y115 < y116)) then
     (some (w64 ((IntKind.wrap .u64 (w64 (y115 + y116))) / 2))).bind fun x121 =>
     chk (decide (0 ≤ x121) && decide (x121.toNat < p0)) <|
     (p4[x121.toNat]?).bind fun x124 =>
     chk (decide (0 ≤ p1) && decide (p1.toNat < p0)) <|
     (p4[p1.toNat]?).bind fun x127 =>
     (Qbm N x124 x127 p5).bind fun x130 =>
     bif (decide (x130 < 0)) then
      slices_symMergeCmpFunc_intX_1_loop5 N p0 p1 p4 p5 k94 n119 (w64 (x121 + 1)) y116
     else
      slices_symMergeCmpFunc_intX_1_loop5 N p0 p1 p4 p5 k94 n119 y115 x121
    else
     k94 (y115)
def Qcf (N : Nat) (rec_ : Nat → Int → Int → Int → (List Int) → (List GNode) → Option (List Int)) (p0 : Nat) (p1 : Int) (p2 : Int) (p3 : Int) (p4 : (List Int)) (p5 : (List GNode)) : Option (List Int) :=
  Qcd (fun _ =>
    Qcd (fun _ =>
      (some (w64 ((IntKind.wrap .u64 (w64 (p1 + p3))) / 2))).bind fun x5 =>
      Qcd (fun ⟨y7, y8⟩ =>
        (some (w64 ((w64 (x5 + p2)) - 1))).bind fun x10 =>
        Qcd (fun y12 =>
          (some (w64 ((w64 (x5 + p2)) - y12))).bind fun x14 =>
          Qcd (fun y16 =>
            Qcd (fun y18 =>
              bif (decide (x5 < x14)) then
               bif (decide (x14 < p3)) then
                (rec_ p0 x5 x14 p3 y18 p5).bind fun x23 =>
                some x23
               else
                some y18
              else
               some y18) fun k19 : (List Int) → Option (List Int) =>
            bif (decide (p1 < y12)) then
             bif (decide (y12 < x5)) then
              (rec_ p0 p1 y12 x5 y16 p5).bind fun x27 =>
              k19 (x27)
             else
              k19 (y16)
            else
             k19 (y16)) fun k17 : (List Int) → Option (List Int) =>
          bif (decide (y12 < p2)) then
           bif (decide (p2 < x14)) then
            (Qb6 N p0 y12 p2 x14 p4 p5).bind fun x31 =>
            k17 (x31)
           else
            k17 (p4)
          else
           k17 (p4)) fun k13 : Int → Option (List Int) =>
        slices_symMergeCmpFunc_intX_1_loop1 N p0 p4 p5 x10 k13 N y7 y8) fun k9 : Int × Int → Option (List Int) =>
      bif (decide (p2 > x5)) then
       (some (w64 ((w64 (x5 + p2)) - p3))).bind fun x50 =>
       k9 (x50, x5)
      else
       k9 (p1, p2)) fun k4 : Unit → Option (List Int) =>
    bif ((w64 (p3 - p2)) == 1) then
     Qcd (fun y53 =>
       Qcd (fun y55 =>
         some y55) fun k56 : (List Int) → Option (List Int) =>
       Qa7 N p0 y53 k56 N p2 p4) fun k54 : Int → Option (List Int) =>
     slices_symMergeCmpFunc_intX_1_loop3 N p0 p2 p4 p5 k54 N p1 p2
    else
     k4 ()) fun k3 : Unit → Option (List Int) =>
  bif ((w64 (p2 - p1)) == 1) then
   Qcd (fun y93 =>
     Qcd (fun y95 =>
       some y95) fun k96 : (List Int) → Option (List Int) =>
     Qa6 N p0 y93 k96 N p1 p4) fun k94 : Int → Option (List Int) =>
   slices_symMergeCmpFunc_intX_1_loop5 N p0 p1 p4 p5 k94 N p2 p3
  else
   k3 ()
def Qa1 : Nat → Nat → Int → Int → Int → (List Int) → (List GNode) → Option (List Int)
  | 0, _, _, _, _, _, _ => none
  | N + 1, p0, p1, p2, p3, p4, p5 => Qcf N (Qa1 N) p0 p1 p2 p3 p4 p5
def Qd5 : AV := .fn (.func 96) [] [(.ref 1 1 (0) 0), (.ref 2 1 (0) 0)]
def Qdz (p4 : (List Int)) : Slot := .own 1 ((p4 : List Int).map Qac)
def Qb4 : Slot := .own 1 [[(.fn (.func 70) [] [])]]
def Qb3 (p5 : (List GNode)) : AV := .dat 4 ((p5 : List GNode).map Qad)
def Qln (y16 : (List Int)) : Slot := .own 1 ((y16 : List Int).map Qac)
def Qje (y18 : (List Int)) : Slot := .own 1 ((y18 : List Int).map Qac)
def Qnn (x23 : (List Int)) : Slot := .own 1 ((x23 : List Int).map Qac)
def Qin (y58 : (List Int)) : Slot := .own 1 ((y58 : List Int).map Qac)
def Qim (y98 : (List Int)) : Slot := .own 1 ((y98 : List Int).map Qac)
set_option maxRecDepth 100000 in
set_option maxHeartbeats 4000000 in
theorem Qd4 : ∀ (N : Nat) (p0 : Nat) (p1 : Int) (p2 : Int) (p3 : Int) (p4 : (List Int)) (p5 : (List GNode)) (r : (List Int)) (_ : Qa1 N p0 p1 p2 p3 p4 p5 = some r), Spec Try.prog 115 [(.own 0 1 (0) (p0)), (I (p1)), (I (p2)), (I (p3)), Qd5] [(Qdz p4), Qb4, (.own 1 [[(Qb3 p5)]])] (.tup []) [(.own 1 ((r : List Int).map Qac)), Qb4, (.own 1 [[(Qb3 p5)]])] := by
  intro N
  induction N with
  | zero => intro p0 p1 p2 p3 p4 p5 r h; exact nomatch (show (none : Option (List Int)) = some r from h)
  | succ N ihX =>
  intro p0 p1 p2 p3 p4 p5 r h
  replace h : Qcf N (Qa1 N) p0 p1 p2 p3 p4 p5 = some r := h
  refine Qai Try.func115 rfl 3 (nle rfl) (fun X φ0 w0 hφ0 => ?_)
  unfold Qcf at h
  refine Qcm ?_
  obtain ⟨k3, hk_k3, h⟩ := jko h
  refine wjn (τ := Unit) (fun t => k3 t = some r) (fun _ => ⟨mk 220 [(0, (.own 0 1 (0) (p0))), (1, I p1), (2, I p2), (3, I p3), (4, Qd5)], [(Qdz p4), Qb4, (.own 1 [[(Qb3 p5)]])]⟩) (fun t h => ?_) ?_
  ·subst hk_k3
   obtain ⟨k4, hk_k4, h⟩ := jko h
   refine wjn (τ := Unit) (fun t => k4 t = some r) (fun _ => ⟨mk 220 [(0, (.own 0 1 (0) (p0))), (1, I p1), (2, I p2), (3, I p3), (4, Qd5)], [(Qdz p4), Qb4, (.own 1 [[(Qb3 p5)]])]⟩) (fun t h => ?_) ?_
   ·subst hk_k4
    obtain ⟨x5, hl6, h⟩ := bno h
    refine wx tbk [(3, rp [(.tmp 131, (I (w64 (p1 + p3))))] (K .u64 (IntKind.wrap .u64 (w64 (p1 + p3))))), (4, rp [(.tmp 132, (K .u64 (IntKind.wrap .u64 (w64 (p1 + p3))))), (.const (.int .u64 1), (K .u64 (1)))] (K .u64 ((IntKind.wrap .u64 (w64 (p1 + p3))) / 2))), (5, rp [(.tmp 133, (K .u64 ((IntKind.wrap .u64 (w64 (p1 + p3))) / 2)))] (I (w64 ((IntKind.wrap .u64 (w64 (p1 + p3))) / 2)))), (6, rp [(.tmp 134, (I (w64 ((IntKind.wrap .u64 (w64 (p1 + p3))) / 2))))] (I x5))] ⟨acv rfl (by rw [Try.underlying3]; rfl) Try.underlying112, Qkg rfl (by decide) (by decide), acv rfl (by rw [Try.underlying112]; rfl) Try.underlying3, Qeu hl6 (aas rfl), trivial⟩ ?_
    refine wx tbk [] trivial ?_
    refine wx tbk [] trivial ?_
    obtain ⟨k9, hk_k9, h⟩ := jko h
    refine wjn (τ := Int × Int) (fun t => k9 t = some r) (fun ⟨y7, y8⟩ => ⟨mk 220 [(0, (.own 0 1 (0) (p0))), (1, I p1), (2, I p2), (3, I p3), (4, Qd5), (18, I x5), (19, (I (w64 (x5 + p2)))), (20, I y7), (21, I y8)], [(Qdz p4), Qb4, (.own 1 [[(Qb3 p5)]])]⟩) (fun t h => ?_) ?_
    ·subst hk_k9
     obtain ⟨y7, y8⟩ := t
     obtain ⟨x10, hl11, h⟩ := bno h
     refine wx tbk [(2, rp [(.tmp 148, (I (w64 ((w64 (x5 + p2)) - 1))))] (I x10))] ⟨Qeu hl11 (aas rfl), trivial⟩ ?_
     obtain ⟨k13, hk_k13, h⟩ := jko h
     refine wjn (τ := Int) (fun t => k13 t = some r) (fun y12 => ⟨mk 220 [(0, (.own 0 1 (0) (p0))), (1, I p1), (2, I p2), (3, I p3), (4, Qd5), (18, I x5), (19, (I (w64 (x5 + p2)))), (20, I y12)], [(Qdz p4), Qb4, (.own 1 [[(Qb3 p5)]])]⟩) (fun y12 h => ?_) ?_
     ·subst hk_k13
      obtain ⟨x14, hl15, h⟩ := bno h
      refine wx tbk [(3, rp [(.tmp 177, (I (w64 ((w64 (x5 + p2)) - y12))))] (I x14))] ⟨Qeu hl15 (aas rfl), trivial⟩ ?_
      obtain ⟨k17, hk_k17, h⟩ := jko h
      refine wjn (τ := (List Int)) (fun t => k17 t = some r) (fun y16 => ⟨mk 220 [(0, (.own 0 1 (0) (p0))), (1, I p1), (3, I p3), (4, Qd5), (18, I x5), (20, I y12), (24, I x14)], [(Qln y16), Qb4, (.own 1 [[(Qb3 p5)]])]⟩) (fun y16 h => ?_) ?_
      ·subst hk_k17
       obtain ⟨k19, hk_k19, h⟩ := jko h
       refine wjn (τ := (List Int)) (fun t => k19 t = some r) (fun y18 => ⟨mk 220 [(0, (.own 0 1 (0) (p0))), (3, I p3), (4, Qd5), (18, I x5), (24, I x14)], [(Qje y18), Qb4, (.own 1 [[(Qb3 p5)]])]⟩) (fun y18 h => ?_) ?_
       ·subst hk_k19
        rcases bft ((decide (x5 < x14))) with hb20 | hb20
        ·replace h := Qau hb20 h
         refine wx tbk [(3, rp [(.tmp 208, (B ((decide (x5 < x14)))))] (B true))] ⟨asb hb20 (amv rfl), trivial⟩ ?_
         rcases bft ((decide (x14 < p3))) with hc21 | hc21
         ·replace h := Qau hc21 h
          refine wft hc21 (by kernel_rfl) ?_
          obtain ⟨x23, hf22, h⟩ := bno h
          refine wx1 tbk [(5, ⟨[fu 115, (.tmp 214, (.own 0 1 (0) (p0))), (.tmp 215, I x5), (.tmp 216, I x14), (.tmp 217, I p3), (.tmp 218, Qd5)], [(0, (Qje y18)), (1, Qb4), (2, (.own 1 [[(Qb3 p5)]]))], (.tup []), [(0, (Qnn x23)), (1, Qb4), (2, (.own 1 [[(Qb3 p5)]]))], false⟩)] ⟨Qas (first := []) (cap := []) (vs := [(.own 0 1 (0) (p0)), I x5, I x14, I p3, Qd5]) (σr := [(Qje y18), Qb4, (.own 1 [[(Qb3 p5)]])]) (σr' := [(Qnn x23), Qb4, (.own 1 [[(Qb3 p5)]])]) (res' := (.tup [])) [0, 1, 2] rfl Qlh (ihX p0 x5 x14 p3 y18 p5 _ hf22) rfl (Qcn (rnc (Qdo rfl) (rnc (.plain _ nll) (rnc (.plain _ nll) (rnc (.plain _ nll) (rnc (Qay rn0 (rnc (Qbs rfl) (rnc (Qbs rfl) rn0))) rn0)))))) (slc (Qbg Qaa) (slc (Qal (rnc (.plain _ (NLt.fn _ _ _ nl0 nl0)) rn0)) (slc (Qal (rnc (.plain _ (nld Qab _)) rn0)) Qan))) (slc (Qbg Qaa) (slc (Qal (rnc (.plain _ (NLt.fn _ _ _ nl0 nl0)) rn0)) (slc (Qal (rnc (.plain _ (nld Qab _)) rn0)) Qan))) (.plain _ (NLt.tup _ nl0)) rfl rfl rfl, trivial⟩ ?_
          obtain rfl := osi h
          exact ⟨_, (mto (n := 220) (l' := []) (own' := [(Qnn x23), Qb4, (.own 1 [[(Qb3 p5)]])]) [] [0, 1, 2] [(Qnn x23), Qb4, (.own 1 [[(Qb3 p5)]])] hφ0 pn (qc (spr Qaa) (qc (spb (lc (.rn (Qay rn0 rn0)) ln)) (qc (spb (lc (.rn (.plain _ (nld Qab _))) ln)) qn)))), Qcw (vs := []) trivial rfl (NLt.tup _ nl0) (by kernel_rfl) (Qao (Qda Qaa _) (Qao (Qbx (nlc (NLt.of0 (NLt.fn _ _ _ nl0 nl0)) nl0)) (Qao (Qbx (nlc (NLt.of0 (nld Qab _)) nl0)) Qbw)))⟩
         ·replace h := Qav hc21 h
          refine wfn hc21 (by kernel_rfl) ?_
          refine Qag ?_
          obtain rfl := osi h
          exact ⟨_, (mto (n := 220) (l' := []) (own' := [(Qje y18), Qb4, (.own 1 [[(Qb3 p5)]])]) [] [0, 1, 2] [(Qje y18), Qb4, (.own 1 [[(Qb3 p5)]])] hφ0 pn (qc (spr Qaa) (qc (spb (lc (.rn (Qay rn0 rn0)) ln)) (qc (spb (lc (.rn (.plain _ (nld Qab _))) ln)) qn)))), Qcw (vs := []) trivial rfl (NLt.tup _ nl0) (by kernel_rfl) (Qao (Qda Qaa _) (Qao (Qbx (nlc (NLt.of0 (NLt.fn _ _ _ nl0 nl0)) nl0)) (Qao (Qbx (nlc (NLt.of0 (nld Qab _)) nl0)) Qbw)))⟩
        ·replace h := Qav hb20 h
         refine wx tbk [(3, rp [(.tmp 208, (B ((decide (x5 < x14)))))] (B false))] ⟨asb hb20 (amv rfl), trivial⟩ ?_
         refine Qe3 (by kernel_rfl) ?_
         refine Qag ?_
         obtain rfl := osi h
         exact ⟨_, (mto (n := 220) (l' := []) (own' := [(Qje y18), Qb4, (.own 1 [[(Qb3 p5)]])]) [] [0, 1, 2] [(Qje y18), Qb4, (.own 1 [[(Qb3 p5)]])] hφ0 pn (qc (spr Qaa) (qc (spb (lc (.rn (Qay rn0 rn0)) ln)) (qc (spb (lc (.rn (.plain _ (nld Qab _))) ln)) qn)))), Qcw (vs := []) trivial rfl (NLt.tup _ nl0) (by kernel_rfl) (Qao (Qda Qaa _) (Qao (Qbx (nlc (NLt.of0 (NLt.fn _ _ _ nl0 nl0)) nl0)) (Qao (Qbx (nlc (NLt.of0 (nld Qab _)) nl0)) Qbw)))⟩
       ·skip
        rcases bft ((decide (p1 < y12))) with hb24 | hb24
        ·replace h := Qau hb24 h
         refine wx tbk [(3, rp [(.tmp 194, (B ((decide (p1 < y12)))))] (B true))] ⟨asb hb24 (amv rfl), trivial⟩ ?_
         rcases bft ((decide (y12 < x5))) with hc25 | hc25
         ·replace h := Qau hc25 h
          refine wft hc25 (by kernel_rfl) ?_
          obtain ⟨x27, hf26, h⟩ := bno h
          refine wx1 tbk [(5, ⟨[fu 115, (.tmp 200, (.own 0 1 (0) (p0))), (.tmp 201, I p1), (.tmp 202, I y12), (.tmp 203, I x5), (.tmp 204, Qd5)], [(0, (Qln y16)), (1, Qb4), (2, (.own 1 [[(Qb3 p5)]]))], (.tup []), [(0, (.own 1 ((x27 : List Int).map Qac))), (1, Qb4), (2, (.own 1 [[(Qb3 p5)]]))], false⟩)] ⟨Qas (first := []) (cap := []) (vs := [(.own 0 1 (0) (p0)), I p1, I y12, I x5, Qd5]) (σr := [(Qln y16), Qb4, (.own 1 [[(Qb3 p5)]])]) (σr' := [(.own 1 ((x27 : List Int).map Qac)), Qb4, (.own 1 [[(Qb3 p5)]])]) (res' := (.tup [])) [0, 1, 2] rfl Qlh (ihX p0 p1 y12 x5 y16 p5 _ hf26) rfl (Qcn (rnc (Qdo rfl) (rnc (.plain _ nll) (rnc (.plain _ nll) (rnc (.plain _ nll) (rnc (Qay rn0 (rnc (Qbs rfl) (rnc (Qbs rfl) rn0))) rn0)))))) (slc (Qbg Qaa) (slc (Qal (rnc (.plain _ (NLt.fn _ _ _ nl0 nl0)) rn0)) (slc (Qal (rnc (.plain _ (nld Qab _)) rn0)) Qan))) (slc (Qbg Qaa) (slc (Qal (rnc (.plain _ (NLt.fn _ _ _ nl0 nl0)) rn0)) (slc (Qal (rnc (.plain _ (nld Qab _)) rn0)) Qan))) (.plain _ (NLt.tup _ nl0)) rfl rfl rfl, trivial⟩ ?_
          refine thn ?_
          exact ⟨(x27), h, (mto (n := 220) [(0, (.own 0 1 (0) (p0))), (3, I p3), (4, Qd5), (18, I x5), (24, I x14)] [0, 1, 2] [(.own 1 ((x27 : List Int).map Qac)), Qb4, (.own 1 [[(Qb3 p5)]])] hφ0 (pc (.rn (Qae rfl)) (pc rwl (pc (.rn (Qay rn0 (rnc (rqr rfl) (rnc (rqr rfl) rn0)))) (pc rwl (pc rwl pn))))) (qc (spr Qaa) (qc (spb (lc (.rn (Qay rn0 rn0)) ln)) (qc (spb (lc (.rn (.plain _ (nld Qab _))) ln)) qn))))⟩
         ·replace h := Qav hc25 h
          refine wfn hc25 (by kernel_rfl) ?_
          refine Qag ?_
          refine thn ?_
          exact ⟨(y16), h, (mto (n := 220) [(0, (.own 0 1 (0) (p0))), (3, I p3), (4, Qd5), (18, I x5), (24, I x14)] [0, 1, 2] [(Qln y16), Qb4, (.own 1 [[(Qb3 p5)]])] hφ0 (pc (.rn (Qae rfl)) (pc rwl (pc (.rn (Qay rn0 (rnc (rqr rfl) (rnc (rqr rfl) rn0)))) (pc rwl (pc rwl pn))))) (qc (spr Qaa) (qc (spb (lc (.rn (Qay rn0 rn0)) ln)) (qc (spb (lc (.rn (.plain _ (nld Qab _))) ln)) qn))))⟩
        ·replace h := Qav hb24 h
         refine wx tbk [(3, rp [(.tmp 194, (B ((decide (p1 < y12)))))] (B false))] ⟨asb hb24 (amv rfl), trivial⟩ ?_
         refine Qe3 (by kernel_rfl) ?_
         refine Qag ?_
         refine thn ?_
         exact ⟨(y16), h, (mto (n := 220) [(0, (.own 0 1 (0) (p0))), (3, I p3), (4, Qd5), (18, I x5), (24, I x14)] [0, 1, 2] [(Qln y16), Qb4, (.own 1 [[(Qb3 p5)]])] hφ0 (pc (.rn (Qae rfl)) (pc rwl (pc (.rn (Qay rn0 (rnc (rqr rfl) (rnc (rqr rfl) rn0)))) (pc rwl (pc rwl pn))))) (qc (spr Qaa) (qc (spb (lc (.rn (Qay rn0 rn0)) ln)) (qc (spb (lc (.rn (.plain _ (nld Qab _))) ln)) qn))))⟩
      ·skip
       rcases bft ((decide (y12 < p2))) with hb28 | hb28
       ·replace h := Qau hb28 h
        refine wx tbk [(3, rp [(.tmp 180, (B ((decide (y12 < p2)))))] (B true))] ⟨asb hb28 (amv rfl), trivial⟩ ?_
        rcases bft ((decide (p2 < x14))) with hc29 | hc29
        ·replace h := Qau hc29 h
         refine wft hc29 (by kernel_rfl) ?_
         obtain ⟨x31, hf30, h⟩ := bno h
         refine wx1 tbk [(5, ⟨[fu 117, (.tmp 186, (.own 0 1 (0) (p0))), (.tmp 187, I y12), (.tmp 188, I p2), (.tmp 189, I x14), (.tmp 190, Qd5)], [(0, (Qdz p4)), (1, Qb4), (2, (.own 1 [[(Qb3 p5)]]))], (.tup []), [(0, (.own 1 ((x31 : List Int).map Qac))), (1, Qb4), (2, (.own 1 [[(Qb3 p5)]]))], false⟩)] ⟨Qas (first := []) (cap := []) (vs := [(.own 0 1 (0) (p0)), I y12, I p2, I x14, Qd5]) (σr := [(Qdz p4), Qb4, (.own 1 [[(Qb3 p5)]])]) (σr' := [(.own 1 ((x31 : List Int).map Qac)), Qb4, (.own 1 [[(Qb3 p5)]])]) (res' := (.tup [])) [0, 1, 2] rfl Qx5 (Qgb N p0 y12 p2 x14 p4 p5 _ hf30) rfl (Qcn (rnc (Qdo rfl) (rnc (.plain _ nll) (rnc (.plain _ nll) (rnc (.plain _ nll) (rnc (Qay rn0 (rnc (Qbs rfl) (rnc (Qbs rfl) rn0))) rn0)))))) (slc (Qbg Qaa) (slc (Qal (rnc (.plain _ (NLt.fn _ _ _ nl0 nl0)) rn0)) (slc (Qal (rnc (.plain _ (nld Qab _)) rn0)) Qan))) (slc (Qbg Qaa) (slc (Qal (rnc (.plain _ (NLt.fn _ _ _ nl0 nl0)) rn0)) (slc (Qal (rnc (.plain _ (nld Qab _)) rn0)) Qan))) (.plain _ (NLt.tup _ nl0)) rfl rfl rfl, trivial⟩ ?_
         refine thn ?_
         exact ⟨(x31), h, (mto (n := 220) [(0, (.own 0 1 (0) (p0))), (1, I p1), (3, I p3), (4, Qd5), (18, I x5), (20, I y12), (24, I x14)] [0, 1, 2] [(.own 1 ((x31 : List Int).map Qac)), Qb4, (.own 1 [[(Qb3 p5)]])] hφ0 (pc (.rn (Qae rfl)) (pc rwl (pc rwl (pc (.rn (Qay rn0 (rnc (rqr rfl) (rnc (rqr rfl) rn0)))) (pc rwl (pc rwl (pc rwl pn))))))) (qc (spr Qaa) (qc (spb (lc (.rn (Qay rn0 rn0)) ln)) (qc (spb (lc (.rn (.plain _ (nld Qab _))) ln)) qn))))⟩
        ·replace h := Qav hc29 h
         refine wfn hc29 (by kernel_rfl) ?_
         refine Qag ?_
         refine thn ?_
         exact ⟨(p4), h, (mto (n := 220) [(0, (.own 0 1 (0) (p0))), (1, I p1), (3, I p3), (4, Qd5), (18, I x5), (20, I y12), (24, I x14)] [0, 1, 2] [(Qdz p4), Qb4, (.own 1 [[(Qb3 p5)]])] hφ0 (pc (.rn (Qae rfl)) (pc rwl (pc rwl (pc (.rn (Qay rn0 (rnc (rqr rfl) (rnc (rqr rfl) rn0)))) (pc rwl (pc rwl (pc rwl pn))))))) (qc (spr Qaa) (qc (spb (lc (.rn (Qay rn0 rn0)) ln)) (qc (spb (lc (.rn (.plain _ (nld Qab _))) ln)) qn))))⟩
       ·replace h := Qav hb28 h
        refine wx tbk [(3, rp [(.tmp 180, (B ((decide (y12 < p2)))))] (B false))] ⟨asb hb28 (amv rfl), trivial⟩ ?_
        refine Qe3 (by kernel_rfl) ?_
        refine Qag ?_
        refine thn ?_
        exact ⟨(p4), h, (mto (n := 220) [(0, (.own 0 1 (0) (p0))), (1, I p1), (3, I p3), (4, Qd5), (18, I x5), (20, I y12), (24, I x14)] [0, 1, 2] [(Qdz p4), Qb4, (.own 1 [[(Qb3 p5)]])] hφ0 (pc (.rn (Qae rfl)) (pc rwl (pc rwl (pc (.rn (Qay rn0 (rnc (rqr rfl) (rnc (rqr rfl) rn0)))) (pc rwl (pc rwl (pc rwl pn))))))) (qc (spr Qaa) (qc (spb (lc (.rn (Qay rn0 rn0)) ln)) (qc (spb (lc (.rn (.plain _ (nld Qab _))) ln)) qn))))⟩
     ·skip
      refine Qaf ?_
      refine wmr (mto (n := 220) (l' := [(0, (.own 0 1 (0) (p0))), (1, I p1), (2, I p2), (3, I p3), (4, Qd5), (18, I x5), (19, (I (w64 (x5 + p2)))), (20, I y7), (21, I y8), (22, I x10)]) (own' := [(Qdz p4), Qb4, (.own 1 [[(Qb3 p5)]])]) [(0, (.own 0 1 (0) (p0))), (1, I p1), (2, I p2), (3, I p3), (4, Qd5), (18, I x5), (19, (I (w64 (x5 + p2)))), (20, I y7), (21, I y8), (22, I x10)] [0, 1, 2] [(Qdz p4), Qb4, (.own 1 [[(Qb3 p5)]])] hφ0 (pc (.rn (Qae rfl)) (pc rwl (pc rwl (pc rwl (pc (.rn (Qay rn0 (rnc (rqr rfl) (rnc (rqr rfl) rn0)))) (pc rwl (pc rwl (pc rwl (pc rwl (pc rwl pn)))))))))) (qc (spr Qaa) (qc (spb (lc (.rn (Qay rn0 rn0)) ln)) (qc (spb (lc (.rn (.plain _ (nld Qab _))) ln)) qn)))) ?_
      refine Qb0 (τ := Int × Int) (fun n t => slices_symMergeCmpFunc_intX_1_loop1 N p0 p4 p5 x10 k13 n t.1 t.2 = some r) (fun ⟨y32, y33⟩ => ⟨mk 220 [(0, (.own 0 1 (0) (p0))), (1, I p1), (2, I p2), (3, I p3), (4, Qd5), (18, I x5), (19, (I (w64 (x5 + p2)))), (20, I y32), (21, I y33), (22, I x10)], [(Qdz p4), Qb4, (.own 1 [[(Qb3 p5)]])]⟩) (fun t h => by rw [slices_symMergeCmpFunc_intX_1_loop1] at h; cases h) (fun n36 ih t h => ?_) N (y7, y8) h
      obtain ⟨y32, y33⟩ := t
      rw [slices_symMergeCmpFunc_intX_1_loop1] at h
      skip
      refine wsq ?_
      refine wx tbk [] trivial ?_
      rcases bft ((decide (y32 < y33))) with hc37 | hc37
      ·replace h := Qau hc37 h
       refine wft hc37 (by kernel_rfl) ?_
       refine Qag ?_
       refine thn ?_
       refine Qaf ?_
       obtain ⟨x38, hl39, h⟩ := bno h
       refine wx tbk [(3, rp [(.tmp 154, (I (w64 (y32 + y33))))] (K .u64 (IntKind.wrap .u64 (w64 (y32 + y33))))), (4, rp [(.tmp 155, (K .u64 (IntKind.wrap .u64 (w64 (y32 + y33))))), (.const (.int .u64 1), (K .u64 (1)))] (K .u64 ((IntKind.wrap .u64 (w64 (y32 + y33))) / 2))), (5, rp [(.tmp 156, (K .u64 ((IntKind.wrap .u64 (w64 (y32 + y33))) / 2)))] (I (w64 ((IntKind.wrap .u64 (w64 (y32 + y33))) / 2)))), (6, rp [(.tmp 157, (I (w64 ((IntKind.wrap .u64 (w64 (y32 + y33))) / 2))))] (I x38))] ⟨acv rfl (by rw [Try.underlying3]; rfl) Try.underlying112, Qkg rfl (by decide) (by decide), acv rfl (by rw [Try.underlying112]; rfl) Try.underlying3, Qeu hl39 (aas rfl), trivial⟩ ?_
       obtain ⟨hi40, h⟩ := cko h
       obtain ⟨hi40a, hi40b⟩ := Qa3 hi40
       obtain ⟨x41, hg42, h⟩ := bno h
       obtain ⟨hi43, h⟩ := cko h
       obtain ⟨hi43a, hi43b⟩ := Qa3 hi43
       obtain ⟨x44, hg45, h⟩ := bno h
       obtain ⟨x47, hf46, h⟩ := bno h
       refine wxd tbk [(5, rb [(.tmp 159, (.own 0 1 (0) (p0))), (.tmp 162, (I (w64 (x10 - x38))))] [(0, (Qdz p4))] (.ref 0 1 ((w64 (x10 - x38)).toNat) 0)), (6, rb [(.tmp 163, (.ref 0 1 ((w64 (x10 - x38)).toNat) 0))] [(0, (Qdz p4))] (I x41)), (9, rb [(.tmp 165, (.own 0 1 (0) (p0))), (.tmp 166, I x38)] [(0, (Qdz p4))] (.ref 0 1 (x38.toNat) 0)), (10, rb [(.tmp 167, (.ref 0 1 (x38.toNat) 0))] [(0, (Qdz p4))] (I x44)), (11, ⟨[(.tmp 158, Qd5), (.tmp 164, I x41), (.tmp 168, I x44)], [(1, Qb4), (2, (.own 1 [[(Qb3 p5)]]))], I x47, [(1, Qb4), (2, (.own 1 [[(Qb3 p5)]]))], false⟩)] ⟨aio rfl Try.underlying23 ti3 (odt hi40a) (odt hi40b) (Nat.zero_add _), ald rfl ti3 (by decide) (mgt Qac hg42) (nle rfl) rfl, aio rfl Try.underlying23 ti3 (odt hi43a) (odt hi43b) (Nat.zero_add _), ald rfl ti3 (by decide) (mgt Qac hg45) (nle rfl) rfl, Qas (first := []) (cap := [.ref 1 1 0 0, .ref 2 1 0 0]) (vs := [I x41, I x44]) (σr := [Qb4, (.own 1 [[(Qb3 p5)]])]) (σr' := [Qb4, (.own 1 [[(Qb3 p5)]])]) (res' := (I x47)) [1, 2] rfl Qoc (Qc0 N x41 x44 p5 _ hf46) rfl (Qcn (rnc (.plain _ nll) (rnc (.plain _ nll) (rnc (Qbs rfl) (rnc (Qbs rfl) rn0))))) (slc (Qal (rnc (.plain _ (NLt.fn _ _ _ nl0 nl0)) rn0)) (slc (Qal (rnc (.plain _ (nld Qab _)) rn0)) Qan)) (slc (Qal (rnc (.plain _ (NLt.fn _ _ _ nl0 nl0)) rn0)) (slc (Qal (rnc (.plain _ (nld Qab _)) rn0)) Qan)) (.plain _ nll) rfl rfl rfl, trivial⟩ ?_
       rcases bft ((!(decide (x47 < 0)))) with hc48 | hc48
       ·replace h := Qau hc48 h
        refine wft hc48 (by kernel_rfl) ?_
        refine wx1 tbk [] trivial ?_
        refine bln ?_
        refine thn ?_
        exact arm (mto (n := 220) [(0, (.own 0 1 (0) (p0))), (1, I p1), (2, I p2), (3, I p3), (4, Qd5), (18, I x5), (19, (I (w64 (x5 + p2)))), (20, (I (w64 (x38 + 1)))), (21, I y33), (22, I x10)] [0, 1, 2] [(Qdz p4), Qb4, (.own 1 [[(Qb3 p5)]])] hφ0 (pc (.rn (Qae rfl)) (pc rwl (pc rwl (pc rwl (pc (.rn (Qay rn0 (rnc (rqr rfl) (rnc (rqr rfl) rn0)))) (pc rwl (pc rwl (pc rwl (pc rwl (pc rwl pn)))))))))) (qc (spr Qaa) (qc (spb (lc (.rn (Qay rn0 rn0)) ln)) (qc (spb (lc (.rn (.plain _ (nld Qab _))) ln)) qn)))) (ih (w64 (x38 + 1), y33) h)
       ·replace h := Qav hc48 h
        refine wfn hc48 (by kernel_rfl) ?_
        refine wx1 tbk [] trivial ?_
        refine bln ?_
        refine thn ?_
        exact arm (mto (n := 220) [(0, (.own 0 1 (0) (p0))), (1, I p1), (2, I p2), (3, I p3), (4, Qd5), (18, I x5), (19, (I (w64 (x5 + p2)))), (20, I y32), (21, I x38), (22, I x10)] [0, 1, 2] [(Qdz p4), Qb4, (.own 1 [[(Qb3 p5)]])] hφ0 (pc (.rn (Qae rfl)) (pc rwl (pc rwl (pc rwl (pc (.rn (Qay rn0 (rnc (rqr rfl) (rnc (rqr rfl) rn0)))) (pc rwl (pc rwl (pc rwl (pc rwl (pc rwl pn)))))))))) (qc (spr Qaa) (qc (spb (lc (.rn (Qay rn0 rn0)) ln)) (qc (spb (lc (.rn (.plain _ (nld Qab _))) ln)) qn)))) (ih (y32, x38) h)
      ·replace h := Qav hc37 h
       refine wfn hc37 (by kernel_rfl) ?_
       refine Qbc ?_
       refine Qam ?_
       refine Qam ?_
       refine Qbb rfl ?_
       refine thn ?_
       exact ⟨(y32), h, (mto (n := 220) [(0, (.own 0 1 (0) (p0))), (1, I p1), (2, I p2), (3, I p3), (4, Qd5), (18, I x5), (19, (I (w64 (x5 + p2)))), (20, I y32)] [0, 1, 2] [(Qdz p4), Qb4, (.own 1 [[(Qb3 p5)]])] hφ0 (pc (.rn (Qae rfl)) (pc rwl (pc rwl (pc rwl (pc (.rn (Qay rn0 (rnc (rqr rfl) (rnc (rqr rfl) rn0)))) (pc rwl (pc rwl (pc rwl pn)))))))) (qc (spr Qaa) (qc (spb (lc (.rn (Qay rn0 rn0)) ln)) (qc (spb (lc (.rn (.plain _ (nld Qab _))) ln)) qn))))⟩
    ·skip
     refine wx tbk [] trivial ?_
     rcases bft ((decide (p2 > x5))) with hc49 | hc49
     ·replace h := Qau hc49 h
      refine wft hc49 (by kernel_rfl) ?_
      obtain ⟨x50, hl51, h⟩ := bno h
      refine wx tbk [(3, rp [(.tmp 143, (I (w64 ((w64 (x5 + p2)) - p3))))] (I x50))] ⟨Qeu hl51 (aas rfl), trivial⟩ ?_
      refine wx1 tbk [] trivial ?_
      refine thn ?_
      exact ⟨(x50, x5), h, (mto (n := 220) [(0, (.own 0 1 (0) (p0))), (1, I p1), (2, I p2), (3, I p3), (4, Qd5), (18, I x5), (19, (I (w64 (x5 + p2)))), (20, I x50), (21, I x5)] [0, 1, 2] [(Qdz p4), Qb4, (.own 1 [[(Qb3 p5)]])] hφ0 (pc (.rn (Qae rfl)) (pc rwl (pc rwl (pc rwl (pc (.rn (Qay rn0 (rnc (rqr rfl) (rnc (rqr rfl) rn0)))) (pc rwl (pc rwl (pc rwl (pc rwl pn))))))))) (qc (spr Qaa) (qc (spb (lc (.rn (Qay rn0 rn0)) ln)) (qc (spb (lc (.rn (.plain _ (nld Qab _))) ln)) qn))))⟩
     ·replace h := Qav hc49 h
      refine wfn hc49 (by kernel_rfl) ?_
      refine wx tbk [] trivial ?_
      refine wx1 tbk [] trivial ?_
      refine thn ?_
      exact ⟨(p1, p2), h, (mto (n := 220) [(0, (.own 0 1 (0) (p0))), (1, I p1), (2, I p2), (3, I p3), (4, Qd5), (18, I x5), (19, (I (w64 (x5 + p2)))), (20, I p1), (21, I p2)] [0, 1, 2] [(Qdz p4), Qb4, (.own 1 [[(Qb3 p5)]])] hφ0 (pc (.rn (Qae rfl)) (pc rwl (pc rwl (pc rwl (pc (.rn (Qay rn0 (rnc (rqr rfl) (rnc (rqr rfl) rn0)))) (pc rwl (pc rwl (pc rwl (pc rwl pn))))))))) (qc (spr Qaa) (qc (spb (lc (.rn (Qay rn0 rn0)) ln)) (qc (spb (lc (.rn (.plain _ (nld Qab _))) ln)) qn))))⟩
   ·skip
    refine wx tbk [] trivial ?_
    rcases bft (((w64 (p3 - p2)) == 1)) with hc52 | hc52
    ·replace h := Qau hc52 h
     refine wft hc52 (by kernel_rfl) ?_
     refine wx tbk [] trivial ?_
     refine wx tbk [] trivial ?_
     obtain ⟨k54, hk_k54, h⟩ := jko h
     refine wjn (τ := Int) (fun t => k54 t = some r) (fun y53 => ⟨mk 220 [(0, (.own 0 1 (0) (p0))), (2, I p2), (14, I y53)], [(Qdz p4), Qb4, (.own 1 [[(Qb3 p5)]])]⟩) (fun y53 h => ?_) ?_
     ·subst hk_k54
      obtain ⟨k56, hk_k56, h⟩ := jko h
      refine wjn (τ := (List Int)) (fun t => k56 t = some r) (fun y55 => ⟨mk 220 [], [(.own 1 ((y55 : List Int).map Qac)), Qb4, (.own 1 [[(Qb3 p5)]])]⟩) (fun y55 h => ?_) ?_
      ·subst hk_k56
       refine wmr (mto (n := 220) (l' := []) (own' := [(.own 1 ((y55 : List Int).map Qac)), Qb4, (.own 1 [[(Qb3 p5)]])]) [] [0, 1, 2] [(.own 1 ((y55 : List Int).map Qac)), Qb4, (.own 1 [[(Qb3 p5)]])] hφ0 pn (qc (spr Qaa) (qc (spb (lc (.rn (Qay rn0 rn0)) ln)) (qc (spb (lc (.rn (.plain _ (nld Qab _))) ln)) qn)))) ?_
       refine Qah ?_
       refine Qak ?_
       obtain rfl := osi h
       exact ⟨_, Mor.rfl, Qcw (vs := []) trivial rfl (NLt.tup _ nl0) (by kernel_rfl) (Qao (Qda Qaa _) (Qao (Qbx (nlc (NLt.of0 (NLt.fn _ _ _ nl0 nl0)) nl0)) (Qao (Qbx (nlc (NLt.of0 (nld Qab _)) nl0)) Qbw)))⟩
      ·skip
       refine wx tbk [] trivial ?_
       refine Qaf ?_
       refine wmr (mto (n := 220) (l' := [(0, (.own 0 1 (0) (p0))), (14, I y53), (17, I p2)]) (own' := [(Qdz p4), Qb4, (.own 1 [[(Qb3 p5)]])]) [(0, (.own 0 1 (0) (p0))), (14, I y53), (17, I p2)] [0, 1, 2] [(Qdz p4), Qb4, (.own 1 [[(Qb3 p5)]])] hφ0 (pc (.rn (Qae rfl)) (pc rwl (pc rwl pn))) (qc (spr Qaa) (qc (spb (lc (.rn (Qay rn0 rn0)) ln)) (qc (spb (lc (.rn (.plain _ (nld Qab _))) ln)) qn)))) ?_
       refine Qb0 (τ := Int × (List Int)) (fun n t => Qa7 N p0 y53 k56 n t.1 t.2 = some r) (fun ⟨y57, y58⟩ => ⟨mk 220 [(0, (.own 0 1 (0) (p0))), (14, I y53), (17, I y57)], [(Qin y58), Qb4, (.own 1 [[(Qb3 p5)]])]⟩) (fun t h => by rw [Qa7] at h; cases h) (fun n61 ih t h => ?_) N (p2, p4) h
       obtain ⟨y57, y58⟩ := t
       rw [Qa7] at h
       skip
       refine wsq ?_
       refine wx tbk [] trivial ?_
       rcases bft ((decide (y57 > y53))) with hc62 | hc62
       ·replace h := Qau hc62 h
        refine wft hc62 (by kernel_rfl) ?_
        refine Qag ?_
        refine thn ?_
        refine wsq ?_
        refine Qaf ?_
        obtain ⟨hi63, h⟩ := cko h
        obtain ⟨hi63a, hi63b⟩ := Qa3 hi63
        obtain ⟨x64, hg65, h⟩ := bno h
        obtain ⟨hi66, h⟩ := cko h
        obtain ⟨hi66a, hi66b⟩ := Qa3 hi66
        obtain ⟨x67, hg68, h⟩ := bno h
        obtain ⟨hi69, h⟩ := cko h
        obtain ⟨hi69a, hi69b⟩ := Qa3 hi69
        obtain ⟨x70, hg71, h⟩ := bno h
        obtain ⟨hi72, h⟩ := cko h
        obtain ⟨hi72a, hi72b⟩ := Qa3 hi72
        obtain ⟨x73, hg74, h⟩ := bno h
        refine wy1 tbk [(8, rb [(.tmp 118, (.own 0 1 (0) (p0))), (.tmp 120, (I (w64 (y57 - 1))))] [(0, (Qin y58))] (.ref 0 1 ((w64 (y57 - 1)).toNat) 0)), (9, rb [(.tmp 121, (.ref 0 1 ((w64 (y57 - 1)).toNat) 0))] [(0, (Qin y58))] (I x64)), (12, rb [(.tmp 123, (.own 0 1 (0) (p0))), (.tmp 124, I y57)] [(0, (Qin y58))] (.ref 0 1 (y57.toNat) 0)), (13, rb [(.tmp 125, (.ref 0 1 (y57.toNat) 0))] [(0, (Qin y58))] (I x67)), (14, rb [(.tmp 113, (.own 0 1 (0) (p0))), (.tmp 114, I y57)] [(0, (Qin y58))] (.ref 0 1 (y57.toNat) 0)), (15, ⟨[(.tmp 127, (.ref 0 1 (y57.toNat) 0)), (.tmp 122, I x64)], [(0, (Qin y58))], .any, [(0, (.own 1 ((y58.set y57.toNat x64 : List Int).map Qac)))], false⟩), (16, rb [(.tmp 115, (.own 0 1 (0) (p0))), (.tmp 117, (I (w64 (y57 - 1))))] [(0, (.own 1 ((y58.set y57.toNat x64 : List Int).map Qac)))] (.ref 0 1 ((w64 (y57 - 1)).toNat) 0)), (17, ⟨[(.tmp 128, (.ref 0 1 ((w64 (y57 - 1)).toNat) 0)), (.tmp 126, I x67)], [(0, (.own 1 ((y58.set y57.toNat x64 : List Int).map Qac)))], .any, [(0, (.own 1 (((y58.set y57.toNat x64).set ((w64 (y57 - 1)).toNat) x67 : List Int).map Qac)))], false⟩)] ⟨aio rfl Try.underlying23 ti3 (odt hi63a) (odt hi63b) (Nat.zero_add _), ald rfl ti3 (by decide) (mgt Qac hg65) (nle rfl) rfl, aio rfl Try.underlying23 ti3 (odt hi66a) (odt hi66b) (Nat.zero_add _), ald rfl ti3 (by decide) (mgt Qac hg68) (nle rfl) rfl, aio rfl Try.underlying23 ti3 (odt hi69a) (odt hi69b) (Nat.zero_add _), ast rfl ti3 (by rfl) (mgt Qac hg71) (nle rfl) (Qdt Qac rfl), aio rfl Try.underlying23 ti3 (odt hi72a) (odt hi72b) (Nat.zero_add _), ast rfl ti3 (by rfl) (mgt Qac hg74) (nle rfl) (Qdt Qac rfl), trivial⟩ ?_
        refine bln ?_
        refine thn ?_
        refine wx1 tbk [] trivial ?_
        refine thn ?_
        exact arm (mto (n := 220) [(0, (.own 0 1 (0) (p0))), (14, I y53), (17, (I (w64 (y57 - 1))))] [0, 1, 2] [(.own 1 (((y58.set y57.toNat x64).set ((w64 (y57 - 1)).toNat) x67 : List Int).map Qac)), Qb4, (.own 1 [[(Qb3 p5)]])] hφ0 (pc (.rn (Qae rfl)) (pc rwl (pc rwl pn))) (qc (spr Qaa) (qc (spb (lc (.rn (Qay rn0 rn0)) ln)) (qc (spb (lc (.rn (.plain _ (nld Qab _))) ln)) qn)))) (ih (w64 (y57 - 1), (y58.set y57.toNat x64).set ((w64 (y57 - 1)).toNat) x67) h)
       ·replace h := Qav hc62 h
        refine wfn hc62 (by kernel_rfl) ?_
        refine Qbc ?_
        refine Qam ?_
        refine Qam ?_
        refine Qbb rfl ?_
        refine thn ?_
        exact ⟨(y58), h, (mto (n := 220) [] [0, 1, 2] [(Qin y58), Qb4, (.own 1 [[(Qb3 p5)]])] hφ0 pn (qc (spr Qaa) (qc (spb (lc (.rn (Qay rn0 rn0)) ln)) (qc (spb (lc (.rn (.plain _ (nld Qab _))) ln)) qn))))⟩
     ·skip
      refine Qaf ?_
      refine wmr (mto (n := 220) (l' := [(0, (.own 0 1 (0) (p0))), (2, I p2), (4, Qd5), (14, I p1), (15, I p2)]) (own' := [(Qdz p4), Qb4, (.own 1 [[(Qb3 p5)]])]) [(0, (.own 0 1 (0) (p0))), (2, I p2), (4, Qd5), (14, I p1), (15, I p2)] [0, 1, 2] [(Qdz p4), Qb4, (.own 1 [[(Qb3 p5)]])] hφ0 (pc (.rn (Qae rfl)) (pc rwl (pc (.rn (Qay rn0 (rnc (rqr rfl) (rnc (rqr rfl) rn0)))) (pc rwl (pc rwl pn))))) (qc (spr Qaa) (qc (spb (lc (.rn (Qay rn0 rn0)) ln)) (qc (spb (lc (.rn (.plain _ (nld Qab _))) ln)) qn)))) ?_
      refine Qb0 (τ := Int × Int) (fun n t => slices_symMergeCmpFunc_intX_1_loop3 N p0 p2 p4 p5 k54 n t.1 t.2 = some r) (fun ⟨y75, y76⟩ => ⟨mk 220 [(0, (.own 0 1 (0) (p0))), (2, I p2), (4, Qd5), (14, I y75), (15, I y76)], [(Qdz p4), Qb4, (.own 1 [[(Qb3 p5)]])]⟩) (fun t h => by rw [slices_symMergeCmpFunc_intX_1_loop3] at h; cases h) (fun n79 ih t h => ?_) N (p1, p2) h
      obtain ⟨y75, y76⟩ := t
      rw [slices_symMergeCmpFunc_intX_1_loop3] at h
      skip
      refine wsq ?_
      refine wx tbk [] trivial ?_
      rcases bft ((decide (y75 < y76))) with hc80 | hc80
      ·replace h := Qau hc80 h
       refine wft hc80 (by kernel_rfl) ?_
       refine Qag ?_
       refine thn ?_
       refine Qaf ?_
       obtain ⟨x81, hl82, h⟩ := bno h
       refine wx tbk [(3, rp [(.tmp 88, (I (w64 (y75 + y76))))] (K .u64 (IntKind.wrap .u64 (w64 (y75 + y76))))), (4, rp [(.tmp 89, (K .u64 (IntKind.wrap .u64 (w64 (y75 + y76))))), (.const (.int .u64 1), (K .u64 (1)))] (K .u64 ((IntKind.wrap .u64 (w64 (y75 + y76))) / 2))), (5, rp [(.tmp 90, (K .u64 ((IntKind.wrap .u64 (w64 (y75 + y76))) / 2)))] (I (w64 ((IntKind.wrap .u64 (w64 (y75 + y76))) / 2)))), (6, rp [(.tmp 91, (I (w64 ((IntKind.wrap .u64 (w64 (y75 + y76))) / 2))))] (I x81))] ⟨acv rfl (by rw [Try.underlying3]; rfl) Try.underlying112, Qkg rfl (by decide) (by decide), acv rfl (by rw [Try.underlying112]; rfl) Try.underlying3, Qeu hl82 (aas rfl), trivial⟩ ?_
       obtain ⟨hi83, h⟩ := cko h
       obtain ⟨hi83a, hi83b⟩ := Qa3 hi83
       obtain ⟨x84, hg85, h⟩ := bno h
       obtain ⟨hi86, h⟩ := cko h
       obtain ⟨hi86a, hi86b⟩ := Qa3 hi86
       obtain ⟨x87, hg88, h⟩ := bno h
       obtain ⟨x90, hf89, h⟩ := bno h
       refine wxd tbk [(3, rb [(.tmp 93, (.own 0 1 (0) (p0))), (.tmp 94, I p2)] [(0, (Qdz p4))] (.ref 0 1 (p2.toNat) 0)), (4, rb [(.tmp 95, (.ref 0 1 (p2.toNat) 0))] [(0, (Qdz p4))] (I x84)), (7, rb [(.tmp 97, (.own 0 1 (0) (p0))), (.tmp 98, I x81)] [(0, (Qdz p4))] (.ref 0 1 (x81.toNat) 0)), (8, rb [(.tmp 99, (.ref 0 1 (x81.toNat) 0))] [(0, (Qdz p4))] (I x87)), (9, ⟨[(.tmp 92, Qd5), (.tmp 96, I x84), (.tmp 100, I x87)], [(1, Qb4), (2, (.own 1 [[(Qb3 p5)]]))], I x90, [(1, Qb4), (2, (.own 1 [[(Qb3 p5)]]))], false⟩)] ⟨aio rfl Try.underlying23 ti3 (odt hi83a) (odt hi83b) (Nat.zero_add _), ald rfl ti3 (by decide) (mgt Qac hg85) (nle rfl) rfl, aio rfl Try.underlying23 ti3 (odt hi86a) (odt hi86b) (Nat.zero_add _), ald rfl ti3 (by decide) (mgt Qac hg88) (nle rfl) rfl, Qas (first := []) (cap := [.ref 1 1 0 0, .ref 2 1 0 0]) (vs := [I x84, I x87]) (σr := [Qb4, (.own 1 [[(Qb3 p5)]])]) (σr' := [Qb4, (.own 1 [[(Qb3 p5)]])]) (res' := (I x90)) [1, 2] rfl Qoc (Qc0 N x84 x87 p5 _ hf89) rfl (Qcn (rnc (.plain _ nll) (rnc (.plain _ nll) (rnc (Qbs rfl) (rnc (Qbs rfl) rn0))))) (slc (Qal (rnc (.plain _ (NLt.fn _ _ _ nl0 nl0)) rn0)) (slc (Qal (rnc (.plain _ (nld Qab _)) rn0)) Qan)) (slc (Qal (rnc (.plain _ (NLt.fn _ _ _ nl0 nl0)) rn0)) (slc (Qal (rnc (.plain _ (nld Qab _)) rn0)) Qan)) (.plain _ nll) rfl rfl rfl, trivial⟩ ?_
       rcases bft ((!(decide (x90 < 0)))) with hc91 | hc91
       ·replace h := Qau hc91 h
        refine wft hc91 (by kernel_rfl) ?_
        refine wx1 tbk [] trivial ?_
        refine bln ?_
        refine thn ?_
        exact arm (mto (n := 220) [(0, (.own 0 1 (0) (p0))), (2, I p2), (4, Qd5), (14, (I (w64 (x81 + 1)))), (15, I y76)] [0, 1, 2] [(Qdz p4), Qb4, (.own 1 [[(Qb3 p5)]])] hφ0 (pc (.rn (Qae rfl)) (pc rwl (pc (.rn (Qay rn0 (rnc (rqr rfl) (rnc (rqr rfl) rn0)))) (pc rwl (pc rwl pn))))) (qc (spr Qaa) (qc (spb (lc (.rn (Qay rn0 rn0)) ln)) (qc (spb (lc (.rn (.plain _ (nld Qab _))) ln)) qn)))) (ih (w64 (x81 + 1), y76) h)
       ·replace h := Qav hc91 h
        refine wfn hc91 (by kernel_rfl) ?_
        refine wx1 tbk [] trivial ?_
        refine bln ?_
        refine thn ?_
        exact arm (mto (n := 220) [(0, (.own 0 1 (0) (p0))), (2, I p2), (4, Qd5), (14, I y75), (15, I x81)] [0, 1, 2] [(Qdz p4), Qb4, (.own 1 [[(Qb3 p5)]])] hφ0 (pc (.rn (Qae rfl)) (pc rwl (pc (.rn (Qay rn0 (rnc (rqr rfl) (rnc (rqr rfl) rn0)))) (pc rwl (pc rwl pn))))) (qc (spr Qaa) (qc (spb (lc (.rn (Qay rn0 rn0)) ln)) (qc (spb (lc (.rn (.plain _ (nld Qab _))) ln)) qn)))) (ih (y75, x81) h)
      ·replace h := Qav hc80 h
       refine wfn hc80 (by kernel_rfl) ?_
       refine Qbc ?_
       refine Qam ?_
       refine Qam ?_
       refine Qbb rfl ?_
       refine thn ?_
       exact ⟨(y75), h, (mto (n := 220) [(0, (.own 0 1 (0) (p0))), (2, I p2), (14, I y75)] [0, 1, 2] [(Qdz p4), Qb4, (.own 1 [[(Qb3 p5)]])] hφ0 (pc (.rn (Qae rfl)) (pc rwl (pc rwl pn))) (qc (spr Qaa) (qc (spb (lc (.rn (Qay rn0 rn0)) ln)) (qc (spb (lc (.rn (.plain _ (nld Qab _))) ln)) qn))))⟩
    ·replace h := Qav hc52 h
     refine wfn hc52 (by kernel_rfl) ?_
     refine Qag ?_
     refine thn ?_
     exact ⟨(), h, (mto (n := 220) [(0, (.own 0 1 (0) (p0))), (1, I p1), (2, I p2), (3, I p3), (4, Qd5)] [0, 1, 2] [(Qdz p4), Qb4, (.own 1 [[(Qb3 p5)]])] hφ0 (pc (.rn (Qae rfl)) (pc rwl (pc rwl (pc rwl (pc (.rn (Qay rn0 (rnc (rqr rfl) (rnc (rqr rfl) rn0)))) pn))))) (qc (spr Qaa) (qc (spb (lc (.rn (Qay rn0 rn0)) ln)) (qc (spb (lc (.rn (.plain _ (nld Qab _))) ln)) qn))))⟩
  ·skip
   refine wx tbk [] trivial ?_
   rcases bft (((w64 (p2 - p1)) == 1)) with hc92 | hc92
   ·replace h := Qau hc92 h
    refine wft hc92 (by kernel_rfl) ?_
    refine wx tbk [] trivial ?_
    refine wx tbk [] trivial ?_
    obtain ⟨k94, hk_k94, h⟩ := jko h
    refine wjn (τ := Int) (fun t => k94 t = some r) (fun y93 => ⟨mk 220 [(0, (.own 0 1 (0) (p0))), (1, I p1), (10, I y93)], [(Qdz p4), Qb4, (.own 1 [[(Qb3 p5)]])]⟩) (fun y93 h => ?_) ?_
    ·subst hk_k94
     obtain ⟨k96, hk_k96, h⟩ := jko h
     refine wjn (τ := (List Int)) (fun t => k96 t = some r) (fun y95 => ⟨mk 220 [], [(.own 1 ((y95 : List Int).map Qac)), Qb4, (.own 1 [[(Qb3 p5)]])]⟩) (fun y95 h => ?_) ?_
     ·subst hk_k96
      refine wmr (mto (n := 220) (l' := []) (own' := [(.own 1 ((y95 : List Int).map Qac)), Qb4, (.own 1 [[(Qb3 p5)]])]) [] [0, 1, 2] [(.own 1 ((y95 : List Int).map Qac)), Qb4, (.own 1 [[(Qb3 p5)]])] hφ0 pn (qc (spr Qaa) (qc (spb (lc (.rn (Qay rn0 rn0)) ln)) (qc (spb (lc (.rn (.plain _ (nld Qab _))) ln)) qn)))) ?_
      refine Qah ?_
      refine Qak ?_
      obtain rfl := osi h
      exact ⟨_, Mor.rfl, Qcw (vs := []) trivial rfl (NLt.tup _ nl0) (by kernel_rfl) (Qao (Qda Qaa _) (Qao (Qbx (nlc (NLt.of0 (NLt.fn _ _ _ nl0 nl0)) nl0)) (Qao (Qbx (nlc (NLt.of0 (nld Qab _)) nl0)) Qbw)))⟩
     ·skip
      refine wx tbk [] trivial ?_
      refine Qaf ?_
      refine wmr (mto (n := 220) (l' := [(0, (.own 0 1 (0) (p0))), (10, I y93), (13, I p1)]) (own' := [(Qdz p4), Qb4, (.own 1 [[(Qb3 p5)]])]) [(0, (.own 0 1 (0) (p0))), (10, I y93), (13, I p1)] [0, 1, 2] [(Qdz p4), Qb4, (.own 1 [[(Qb3 p5)]])] hφ0 (pc (.rn (Qae rfl)) (pc rwl (pc rwl pn))) (qc (spr Qaa) (qc (spb (lc (.rn (Qay rn0 rn0)) ln)) (qc (spb (lc (.rn (.plain _ (nld Qab _))) ln)) qn)))) ?_
      refine Qb0 (τ := Int × (List Int)) (fun n t => Qa6 N p0 y93 k96 n t.1 t.2 = some r) (fun ⟨y97, y98⟩ => ⟨mk 220 [(0, (.own 0 1 (0) (p0))), (10, I y93), (13, I y97)], [(Qim y98), Qb4, (.own 1 [[(Qb3 p5)]])]⟩) (fun t h => by rw [Qa6] at h; cases h) (fun n101 ih t h => ?_) N (p1, p4) h
      obtain ⟨y97, y98⟩ := t
      rw [Qa6] at h
      skip
      refine wsq ?_
      refine wx tbk [] trivial ?_
      rcases bft ((decide (y97 < (w64 (y93 - 1))))) with hc102 | hc102
      ·replace h := Qau hc102 h
       refine wft hc102 (by kernel_rfl) ?_
       refine Qag ?_
       refine thn ?_
       refine wsq ?_
       refine Qaf ?_
       obtain ⟨hi103, h⟩ := cko h
       obtain ⟨hi103a, hi103b⟩ := Qa3 hi103
       obtain ⟨x104, hg105, h⟩ := bno h
       obtain ⟨hi106, h⟩ := cko h
       obtain ⟨hi106a, hi106b⟩ := Qa3 hi106
       obtain ⟨x107, hg108, h⟩ := bno h
       obtain ⟨hi109, h⟩ := cko h
       obtain ⟨hi109a, hi109b⟩ := Qa3 hi109
       obtain ⟨x110, hg111, h⟩ := bno h
       obtain ⟨hi112, h⟩ := cko h
       obtain ⟨hi112a, hi112b⟩ := Qa3 hi112
       obtain ⟨x113, hg114, h⟩ := bno h
       refine wy1 tbk [(8, rb [(.tmp 66, (.own 0 1 (0) (p0))), (.tmp 68, (I (w64 (y97 + 1))))] [(0, (Qim y98))] (.ref 0 1 ((w64 (y97 + 1)).toNat) 0)), (9, rb [(.tmp 69, (.ref 0 1 ((w64 (y97 + 1)).toNat) 0))] [(0, (Qim y98))] (I x104)), (12, rb [(.tmp 71, (.own 0 1 (0) (p0))), (.tmp 72, I y97)] [(0, (Qim y98))] (.ref 0 1 (y97.toNat) 0)), (13, rb [(.tmp 73, (.ref 0 1 (y97.toNat) 0))] [(0, (Qim y98))] (I x107)), (14, rb [(.tmp 61, (.own 0 1 (0) (p0))), (.tmp 62, I y97)] [(0, (Qim y98))] (.ref 0 1 (y97.toNat) 0)), (15, ⟨[(.tmp 75, (.ref 0 1 (y97.toNat) 0)), (.tmp 70, I x104)], [(0, (Qim y98))], .any, [(0, (.own 1 ((y98.set y97.toNat x104 : List Int).map Qac)))], false⟩), (16, rb [(.tmp 63, (.own 0 1 (0) (p0))), (.tmp 65, (I (w64 (y97 + 1))))] [(0, (.own 1 ((y98.set y97.toNat x104 : List Int).map Qac)))] (.ref 0 1 ((w64 (y97 + 1)).toNat) 0)), (17, ⟨[(.tmp 76, (.ref 0 1 ((w64 (y97 + 1)).toNat) 0)), (.tmp 74, I x107)], [(0, (.own 1 ((y98.set y97.toNat x104 : List Int).map Qac)))], .any, [(0, (.own 1 (((y98.set y97.toNat x104).set ((w64 (y97 + 1)).toNat) x107 : List Int).map Qac)))], false⟩)] ⟨aio rfl Try.underlying23 ti3 (odt hi103a) (odt hi103b) (Nat.zero_add _), ald rfl ti3 (by decide) (mgt Qac hg105) (nle rfl) rfl, aio rfl Try.underlying23 ti3 (odt hi106a) (odt hi106b) (Nat.zero_add _), ald rfl ti3 (by decide) (mgt Qac hg108) (nle rfl) rfl, aio rfl Try.underlying23 ti3 (odt hi109a) (odt hi109b) (Nat.zero_add _), ast rfl ti3 (by rfl) (mgt Qac hg111) (nle rfl) (Qdt Qac rfl), aio rfl Try.underlying23 ti3 (odt hi112a) (odt hi112b) (Nat.zero_add _), ast rfl ti3 (by rfl) (mgt Qac hg114) (nle rfl) (Qdt Qac rfl), trivial⟩ ?_
       refine bln ?_
       refine thn ?_
       refine wx1 tbk [] trivial ?_
       refine thn ?_
       exact arm (mto (n := 220) [(0, (.own 0 1 (0) (p0))), (10, I y93), (13, (I (w64 (y97 + 1))))] [0, 1, 2] [(.own 1 (((y98.set y97.toNat x104).set ((w64 (y97 + 1)).toNat) x107 : List Int).map Qac)), Qb4, (.own 1 [[(Qb3 p5)]])] hφ0 (pc (.rn (Qae rfl)) (pc rwl (pc rwl pn))) (qc (spr Qaa) (qc (spb (lc (.rn (Qay rn0 rn0)) ln)) (qc (spb (lc (.rn (.plain _ (nld Qab _))) ln)) qn)))) (ih (w64 (y97 + 1), (y98.set y97.toNat x104).set ((w64 (y97 + 1)).toNat) x107) h)
      ·replace h := Qav hc102 h
       refine wfn hc102 (by kernel_rfl) ?_
       refine Qbc ?_
       refine Qam ?_
       refine Qam ?_
       refine Qbb rfl ?_
       refine thn ?_
       exact ⟨(y98), h, (mto (n := 220) [] [0, 1, 2] [(Qim y98), Qb4, (.own 1 [[(Qb3 p5)]])] hφ0 pn (qc (spr Qaa) (qc (spb (lc (.rn (Qay rn0 rn0)) ln)) (qc (spb (lc (.rn (.plain _ (nld Qab _))) ln)) qn))))⟩
    ·skip
     refine Qaf ?_
     refine wmr (mto (n := 220) (l' := [(0, (.own 0 1 (0) (p0))), (1, I p1), (4, Qd5), (10, I p2), (11, I p3)]) (own' := [(Qdz p4), Qb4, (.own 1 [[(Qb3 p5)]])]) [(0, (.own 0 1 (0) (p0))), (1, I p1), (4, Qd5), (10, I p2), (11, I p3)] [0, 1, 2] [(Qdz p4), Qb4, (.own 1 [[(Qb3 p5)]])] hφ0 (pc (.rn (Qae rfl)) (pc rwl (pc (.rn (Qay rn0 (rnc (rqr rfl) (rnc (rqr rfl) rn0)))) (pc rwl (pc rwl pn))))) (qc (spr Qaa) (qc (spb (lc (.rn (Qay rn0 rn0)) ln)) (qc (spb (lc (.rn (.plain _ (nld Qab _))) ln)) qn)))) ?_
     refine Qb0 (τ := Int × Int) (fun n t => slices_symMergeCmpFunc_intX_1_loop5 N p0 p1 p4 p5 k94 n t.1 t.2 = some r) (fun ⟨y115, y116⟩ => ⟨mk 220 [(0, (.own 0 1 (0) (p0))), (1, I p1), (4, Qd5), (10, I y115), (11, I y116)], [(Qdz p4), Qb4, (.own 1 [[(Qb3 p5)]])]⟩) (fun t h => by rw [slices_symMergeCmpFunc_intX_1_loop5] at h; cases h) (fun n119 ih t h => ?_) N (p2, p3) h
     obtain ⟨y115, y116⟩ := t
     rw [slices_symMergeCmpFunc_intX_1_loop5] at h
     skip
     refine wsq ?_
     refine wx tbk [] trivial ?_
     rcases bft ((decide (y115 < y116))) with hc120 | hc120
     ·replace h := Qau hc120 h
      refine wft hc120 (by kernel_rfl) ?_
      refine Qag ?_
      refine thn ?_
      refine Qaf ?_
      obtain ⟨x121, hl122, h⟩ := bno h
      refine wx tbk [(3, rp [(.tmp 36, (I (w64 (y115 + y116))))] (K .u64 (IntKind.wrap .u64 (w64 (y115 + y116))))), (4, rp [(.tmp 37, (K .u64 (IntKind.wrap .u64 (w64 (y115 + y116))))), (.const (.int .u64 1), (K .u64 (1)))] (K .u64 ((IntKind.wrap .u64 (w64 (y115 + y116))) / 2))), (5, rp [(.tmp 38, (K .u64 ((IntKind.wrap .u64 (w64 (y115 + y116))) / 2)))] (I (w64 ((IntKind.wrap .u64 (w64 (y115 + y116))) / 2)))), (6, rp [(.tmp 39, (I (w64 ((IntKind.wrap .u64 (w64 (y115 + y116))) / 2))))] (I x121))] ⟨acv rfl (by rw [Try.underlying3]; rfl) Try.underlying112, Qkg rfl (by decide) (by decide), acv rfl (by rw [Try.underlying112]; rfl) Try.underlying3, Qeu hl122 (aas rfl), trivial⟩ ?_
      obtain ⟨hi123, h⟩ := cko h
      obtain ⟨hi123a, hi123b⟩ := Qa3 hi123
      obtain ⟨x124, hg125, h⟩ := bno h
      obtain ⟨hi126, h⟩ := cko h
      obtain ⟨hi126a, hi126b⟩ := Qa3 hi126
      obtain ⟨x127, hg128, h⟩ := bno h
      obtain ⟨x130, hf129, h⟩ := bno h
      refine wxd tbk [(3, rb [(.tmp 41, (.own 0 1 (0) (p0))), (.tmp 42, I x121)] [(0, (Qdz p4))] (.ref 0 1 (x121.toNat) 0)), (4, rb [(.tmp 43, (.ref 0 1 (x121.toNat) 0))] [(0, (Qdz p4))] (I x124)), (7, rb [(.tmp 45, (.own 0 1 (0) (p0))), (.tmp 46, I p1)] [(0, (Qdz p4))] (.ref 0 1 (p1.toNat) 0)), (8, rb [(.tmp 47, (.ref 0 1 (p1.toNat) 0))] [(0, (Qdz p4))] (I x127)), (9, ⟨[(.tmp 40, Qd5), (.tmp 44, I x124), (.tmp 48, I x127)], [(1, Qb4), (2, (.own 1 [[(Qb3 p5)]]))], I x130, [(1, Qb4), (2, (.own 1 [[(Qb3 p5)]]))], false⟩)] ⟨aio rfl Try.underlying23 ti3 (odt hi123a) (odt hi123b) (Nat.zero_add _), ald rfl ti3 (by decide) (mgt Qac hg125) (nle rfl) rfl, aio rfl Try.underlying23 ti3 (odt hi126a) (odt hi126b) (Nat.zero_add _), ald rfl ti3 (by decide) (mgt Qac hg128) (nle rfl) rfl, Qas (first := []) (cap := [.ref 1 1 0 0, .ref 2 1 0 0]) (vs := [I x124, I x127]) (σr := [Qb4, (.own 1 [[(Qb3 p5)]])]) (σr' := [Qb4, (.own 1 [[(Qb3 p5)]])]) (res' := (I x130)) [1, 2] rfl Qoc (Qc0 N x124 x127 p5 _ hf129) rfl (Qcn (rnc (.plain _ nll) (rnc (.plain _ nll) (rnc (Qbs rfl) (rnc (Qbs rfl) rn0))))) (slc (Qal (rnc (.plain _ (NLt.fn _ _ _ nl0 nl0)) rn0)) (slc (Qal (rnc (.plain _ (nld Qab _)) rn0)) Qan)) (slc (Qal (rnc (.plain _ (NLt.fn _ _ _ nl0 nl0)) rn0)) (slc (Qal (rnc (.plain _ (nld Qab _)) rn0)) Qan)) (.plain _ nll) rfl rfl rfl, trivial⟩ ?_
      rcases bft ((decide (x130 < 0))) with hc131 | hc131
      ·replace h := Qau hc131 h
       refine wft hc131 (by kernel_rfl) ?_
       refine wx1 tbk [] trivial ?_
       refine bln ?_
       refine thn ?_
       exact arm (mto (n := 220) [(0, (.own 0 1 (0) (p0))), (1, I p1), (4, Qd5), (10, (I (w64 (x121 + 1)))), (11, I y116)] [0, 1, 2] [(Qdz p4), Qb4, (.own 1 [[(Qb3 p5)]])] hφ0 (pc (.rn (Qae rfl)) (pc rwl (pc (.rn (Qay rn0 (rnc (rqr rfl) (rnc (rqr rfl) rn0)))) (pc rwl (pc rwl pn))))) (qc (spr Qaa) (qc (spb (lc (.rn (Qay rn0 rn0)) ln)) (qc (spb (lc (.rn (.plain _ (nld Qab _))) ln)) qn)))) (ih (w64 (x121 + 1), y116) h)
      ·replace h := Qav hc131 h
       refine wfn hc131 (by kernel_rfl) ?_
       refine wx1 tbk [] trivial ?_
       refine bln ?_
       refine thn ?_
       exact arm (mto (n := 220) [(0, (.own 0 1 (0) (p0))), (1, I p1), (4, Qd5), (10, I y115), (11, I x121)] [0, 1, 2] [(Qdz p4), Qb4, (.own 1 [[(Qb3 p5)]])] hφ0 (pc (.rn (Qae rfl)) (pc rwl (pc (.rn (Qay rn0 (rnc (rqr rfl) (rnc (rqr rfl) rn0)))) (pc rwl (pc rwl pn))))) (qc (spr Qaa) (qc (spb (lc (.rn (Qay rn0 rn0)) ln)) (qc (spb (lc (.rn (.plain _ (nld Qab _))) ln)) qn)))) (ih (y115, x121) h)
     ·replace h := Qav hc120 h
      refine wfn hc120 (by kernel_rfl) ?_
      refine Qbc ?_
      refine Qam ?_
      refine Qam ?_
      refine Qbb rfl ?_
      refine thn ?_
      exact ⟨(y115), h, (mto (n := 220) [(0, (.own 0 1 (0) (p0))), (1, I p1), (10, I y115)] [0, 1, 2] [(Qdz p4), Qb4, (.own 1 [[(Qb3 p5)]])] hφ0 (pc (.rn (Qae rfl)) (pc rwl (pc rwl pn))) (qc (spr Qaa) (qc (spb (lc (.rn (Qay rn0 rn0)) ln)) (qc (spb (lc (.rn (.plain _ (nld Qab _))) ln)) qn))))⟩
   ·replace h := Qav hc92 h
    refine wfn hc92 (by kernel_rfl) ?_
    refine Qag ?_
    refine thn ?_
    exact ⟨(), h, (mto (n := 220) [(0, (.own 0 1 (0) (p0))), (1, I p1), (2, I p2), (3, I p3), (4, Qd5)] [0, 1, 2] [(Qdz p4), Qb4, (.own 1 [[(Qb3 p5)]])] hφ0 (pc (.rn (Qae rfl)) (pc rwl (pc rwl (pc rwl (pc (.rn (Qay rn0 (rnc (rqr rfl) (rnc (rqr rfl) rn0)))) pn))))) (qc (spr Qaa) (qc (spb (lc (.rn (Qay rn0 rn0)) ln)) (qc (spb (lc (.rn (.plain _ (nld Qab _))) ln)) qn))))⟩
def Qbe (N : Nat) (p0 : Nat) (p1 : Int) (p3 : (List GNode)) (y7 : Int) (k15 : Int × (List Int) → Option (List Int)) : Nat → Int → Int → (List Int) → Option (List Int)
  | 0, _, _, _ => none
  | n25 + 1, y19, y20, y21 =>
    bif (decide (y20 ≤ p1)) then
     (Qa1 N p0 y19 (w64 (y19 + y7)) y20 y21 p3).bind fun x28 =>
     (some (w64 (y20 + (w64 (2 * y7))))).bind fun x29 =>
     Qbe N p0 p1 p3 y7 k15 n25 y20 x29 x28
    else
     k15 (y19, y21)
def Qaq (N : Nat) (p0 : Nat) (p1 : Int) (p3 : (List GNode)) : Nat → Int → (List Int) → Option (List Int)
  | 0, _, _ => none
  | n11 + 1, y7, y8 =>
    bif (decide (y7 < p1)) then
     Qcd (fun ⟨y13, y14⟩ =>
       bif (decide ((w64 (y13 + y7)) < p1)) then
        (Qa1 N p0 y13 (w64 (y13 + y7)) p1 y14 p3).bind fun x18 =>
        Qaq N p0 p1 p3 n11 (w64 (y7 * 2)) x18
       else
        Qaq N p0 p1 p3 n11 (w64 (y7 * 2)) y14) fun k15 : Int × (List Int) → Option (List Int) =>
     Qbe N p0 p1 p3 y7 k15 N 0 (w64 (2 * y7)) y8
    else
     some y8
def Qbd (N : Nat) (p0 : Nat) (p1 : Int) (p3 : (List GNode)) (k4 : Int × (List Int) → Option (List Int)) : Nat → Int → Int → (List Int) → Option (List Int)
  | 0, _, _, _ => none
  | n37 + 1, y31, y32, y33 =>
    bif (decide (y32 ≤ p1)) then
     (Qa9 N p0 y31 y32 y33 p3).bind fun x40 =>
     Qbd N p0 p1 p3 k4 n37 y32 (w64 (y32 + 20)) x40
    else
     k4 (y31, y33)
def Qdc (N : Nat) (p0 : Nat) (p1 : Int) (p2 : (List Int)) (p3 : (List GNode)) : Option (List Int) :=
  Qcd (fun ⟨y2, y3⟩ =>
    (Qa9 N p0 y2 p1 y3 p3).bind fun x6 =>
    Qaq N p0 p1 p3 N 20 x6) fun k4 : Int × (List Int) → Option (List Int) =>
  Qbd N p0 p1 p3 k4 N 0 20 p2
def Qf5 : AV := .fn (.func 96) [] [(.ref 1 1 (0) 0), (.ref 2 1 (0) 0)]
def z23_1 (p2 : (List Int)) : Slot := .own 1 ((p2 : List Int).map Qac)
def Qer : Slot := .own 1 [[(.fn (.func 70) [] [])]]
def Qeq (p3 : (List GNode)) : AV := .dat 4 ((p3 : List GNode).map Qad)
def z23_5 (y3 : (List Int)) : Slot := .own 1 ((y3 : List Int).map Qac)
def Qw8 (x6 : (List Int)) : Slot := .own 1 ((x6 : List Int).map Qac)
def Qov (y8 : (List Int)) : Slot := .own 1 ((y8 : List Int).map Qac)
def Qrt (y14 : (List Int)) : Slot := .own 1 ((y14 : List Int).map Qac)
def Qrs (y21 : (List Int)) : Slot := .own 1 ((y21 : List Int).map Qac)
def Qrr (y33 : (List Int)) : Slot := .own 1 ((y33 : List Int).map Qac)
set_option maxRecDepth 100000 in
set_option maxHeartbeats 4000000 in
theorem Qga (N : Nat) (p0 : Nat) (p1 : Int) (p2 : (List Int)) (p3 : (List GNode)) (r : (List Int)) (h : Qdc N p0 p1 p2 p3 = some r) : Spec Try.prog 110 [(.own 0 1 (0) (p0)), (I (p1)), Qf5] [(z23_1 p2), Qer, (.own 1 [[(Qeq p3)]])] (.tup []) [(.own 1 ((r : List Int).map Qac)), Qer, (.own 1 [[(Qeq p3)]])] := by
  refine Qai Try.func110 rfl 3 (nle rfl) (fun X φ0 w0 hφ0 => ?_)
  unfold Qdc at h
  refine Qcm ?_
  refine wx tbk [] trivial ?_
  refine wx tbk [] trivial ?_
  obtain ⟨k4, hk_k4, h⟩ := jko h
  refine wjn (τ := Int × (List Int)) (fun t => k4 t = some r) (fun ⟨y2, y3⟩ => ⟨mk 63 [(0, (.own 0 1 (0) (p0))), (1, I p1), (2, Qf5), (6, I 20), (7, I y2)], [(z23_5 y3), Qer, (.own 1 [[(Qeq p3)]])]⟩) (fun t h => ?_) ?_
  ·subst hk_k4
   obtain ⟨y2, y3⟩ := t
   obtain ⟨x6, hf5, h⟩ := bno h
   refine wx tbk [(4, ⟨[fu 114, (.tmp 23, (.own 0 1 (0) (p0))), (.tmp 24, I y2), (.tmp 25, I p1), (.tmp 26, Qf5)], [(0, (z23_5 y3)), (1, Qer), (2, (.own 1 [[(Qeq p3)]]))], (.tup []), [(0, (Qw8 x6)), (1, Qer), (2, (.own 1 [[(Qeq p3)]]))], false⟩)] ⟨Qas (first := []) (cap := []) (vs := [(.own 0 1 (0) (p0)), I y2, I p1, Qf5]) (σr := [(z23_5 y3), Qer, (.own 1 [[(Qeq p3)]])]) (σr' := [(Qw8 x6), Qer, (.own 1 [[(Qeq p3)]])]) (res' := (.tup [])) [0, 1, 2] rfl Qsq (Qdy N p0 y2 p1 y3 p3 _ hf5) rfl (Qcn (rnc (Qdo rfl) (rnc (.plain _ nll) (rnc (.plain _ nll) (rnc (Qay rn0 (rnc (Qbs rfl) (rnc (Qbs rfl) rn0))) rn0))))) (slc (Qbg Qaa) (slc (Qal (rnc (.plain _ (NLt.fn _ _ _ nl0 nl0)) rn0)) (slc (Qal (rnc (.plain _ (nld Qab _)) rn0)) Qan))) (slc (Qbg Qaa) (slc (Qal (rnc (.plain _ (NLt.fn _ _ _ nl0 nl0)) rn0)) (slc (Qal (rnc (.plain _ (nld Qab _)) rn0)) Qan))) (.plain _ (NLt.tup _ nl0)) rfl rfl rfl, trivial⟩ ?_
   refine Qaf ?_
   refine wmr (mto (n := 63) (l' := [(0, (.own 0 1 (0) (p0))), (1, I p1), (2, Qf5), (6, I 20)]) (own' := [(Qw8 x6), Qer, (.own 1 [[(Qeq p3)]])]) [(0, (.own 0 1 (0) (p0))), (1, I p1), (2, Qf5), (6, I 20)] [0, 1, 2] [(Qw8 x6), Qer, (.own 1 [[(Qeq p3)]])] hφ0 (pc (.rn (Qae rfl)) (pc rwl (pc (.rn (Qay rn0 (rnc (rqr rfl) (rnc (rqr rfl) rn0)))) (pc rwl pn)))) (qc (spr Qaa) (qc (spb (lc (.rn (Qay rn0 rn0)) ln)) (qc (spb (lc (.rn (.plain _ (nld Qab _))) ln)) qn)))) ?_
   refine Qb0 (τ := Int × (List Int)) (fun n t => Qaq N p0 p1 p3 n t.1 t.2 = some r) (fun ⟨y7, y8⟩ => ⟨mk 63 [(0, (.own 0 1 (0) (p0))), (1, I p1), (2, Qf5), (6, I y7)], [(Qov y8), Qer, (.own 1 [[(Qeq p3)]])]⟩) (fun t h => by rw [Qaq] at h; cases h) (fun n11 ih t h => ?_) N (20, x6) h
   obtain ⟨y7, y8⟩ := t
   rw [Qaq] at h
   skip
   refine wsq ?_
   refine wx tbk [] trivial ?_
   rcases bft ((decide (y7 < p1))) with hc12 | hc12
   ·replace h := Qau hc12 h
    refine wft hc12 (by kernel_rfl) ?_
    refine Qag ?_
    refine thn ?_
    refine Qaf ?_
    refine wx tbk [] trivial ?_
    obtain ⟨k15, hk_k15, h⟩ := jko h
    refine wjn (τ := Int × (List Int)) (fun t => k15 t = some r) (fun ⟨y13, y14⟩ => ⟨mk 63 [(0, (.own 0 1 (0) (p0))), (1, I p1), (2, Qf5), (6, I y7), (7, I y13)], [(Qrt y14), Qer, (.own 1 [[(Qeq p3)]])]⟩) (fun t h => ?_) ?_
    ·subst hk_k15
     obtain ⟨y13, y14⟩ := t
     refine wsq ?_
     refine wx tbk [] trivial ?_
     refine wx tbk [] trivial ?_
     rcases bft ((decide ((w64 (y13 + y7)) < p1))) with hc16 | hc16
     ·replace h := Qau hc16 h
      refine wft hc16 (by kernel_rfl) ?_
      obtain ⟨x18, hf17, h⟩ := bno h
      refine wx1 tbk [(5, ⟨[fu 115, (.tmp 55, (.own 0 1 (0) (p0))), (.tmp 56, I y13), (.tmp 57, (I (w64 (y13 + y7)))), (.tmp 58, I p1), (.tmp 59, Qf5)], [(0, (Qrt y14)), (1, Qer), (2, (.own 1 [[(Qeq p3)]]))], (.tup []), [(0, (.own 1 ((x18 : List Int).map Qac))), (1, Qer), (2, (.own 1 [[(Qeq p3)]]))], false⟩)] ⟨Qas (first := []) (cap := []) (vs := [(.own 0 1 (0) (p0)), I y13, (I (w64 (y13 + y7))), I p1, Qf5]) (σr := [(Qrt y14), Qer, (.own 1 [[(Qeq p3)]])]) (σr' := [(.own 1 ((x18 : List Int).map Qac)), Qer, (.own 1 [[(Qeq p3)]])]) (res' := (.tup [])) [0, 1, 2] rfl Qlh (Qd4 N p0 y13 (w64 (y13 + y7)) p1 y14 p3 _ hf17) rfl (Qcn (rnc (Qdo rfl) (rnc (.plain _ nll) (rnc (.plain _ nll) (rnc (.plain _ nll) (rnc (Qay rn0 (rnc (Qbs rfl) (rnc (Qbs rfl) rn0))) rn0)))))) (slc (Qbg Qaa) (slc (Qal (rnc (.plain _ (NLt.fn _ _ _ nl0 nl0)) rn0)) (slc (Qal (rnc (.plain _ (nld Qab _)) rn0)) Qan))) (slc (Qbg Qaa) (slc (Qal (rnc (.plain _ (NLt.fn _ _ _ nl0 nl0)) rn0)) (slc (Qal (rnc (.plain _ (nld Qab _)) rn0)) Qan))) (.plain _ (NLt.tup _ nl0)) rfl rfl rfl, trivial⟩ ?_
      refine thn ?_
      refine wx1 tbk [] trivial ?_
      refine bln ?_
      refine thn ?_
      exact arm (mto (n := 63) [(0, (.own 0 1 (0) (p0))), (1, I p1), (2, Qf5), (6, (I (w64 (y7 * 2))))] [0, 1, 2] [(.own 1 ((x18 : List Int).map Qac)), Qer, (.own 1 [[(Qeq p3)]])] hφ0 (pc (.rn (Qae rfl)) (pc rwl (pc (.rn (Qay rn0 (rnc (rqr rfl) (rnc (rqr rfl) rn0)))) (pc rwl pn)))) (qc (spr Qaa) (qc (spb (lc (.rn (Qay rn0 rn0)) ln)) (qc (spb (lc (.rn (.plain _ (nld Qab _))) ln)) qn)))) (ih (w64 (y7 * 2), x18) h)
     ·replace h := Qav hc16 h
      refine wfn hc16 (by kernel_rfl) ?_
      refine Qag ?_
      refine thn ?_
      refine wx1 tbk [] trivial ?_
      refine bln ?_
      refine thn ?_
      exact arm (mto (n := 63) [(0, (.own 0 1 (0) (p0))), (1, I p1), (2, Qf5), (6, (I (w64 (y7 * 2))))] [0, 1, 2] [(Qrt y14), Qer, (.own 1 [[(Qeq p3)]])] hφ0 (pc (.rn (Qae rfl)) (pc rwl (pc (.rn (Qay rn0 (rnc (rqr rfl) (rnc (rqr rfl) rn0)))) (pc rwl pn)))) (qc (spr Qaa) (qc (spb (lc (.rn (Qay rn0 rn0)) ln)) (qc (spb (lc (.rn (.plain _ (nld Qab _))) ln)) qn)))) (ih (w64 (y7 * 2), y14) h)
    ·skip
     refine Qaf ?_
     refine wmr (mto (n := 63) (l' := [(0, (.own 0 1 (0) (p0))), (1, I p1), (2, Qf5), (6, I y7), (7, I 0), (8, (I ((w64 (2 * y7)))))]) (own' := [(Qov y8), Qer, (.own 1 [[(Qeq p3)]])]) [(0, (.own 0 1 (0) (p0))), (1, I p1), (2, Qf5), (6, I y7), (7, I 0), (8, (I (w64 (2 * y7))))] [0, 1, 2] [(Qov y8), Qer, (.own 1 [[(Qeq p3)]])] hφ0 (pc (.rn (Qae rfl)) (pc rwl (pc (.rn (Qay rn0 (rnc (rqr rfl) (rnc (rqr rfl) rn0)))) (pc rwl (pc rwl (pc rwl pn)))))) (qc (spr Qaa) (qc (spb (lc (.rn (Qay rn0 rn0)) ln)) (qc (spb (lc (.rn (.plain _ (nld Qab _))) ln)) qn)))) ?_
     refine Qb0 (τ := Int × Int × (List Int)) (fun n t => Qbe N p0 p1 p3 y7 k15 n t.1 t.2.1 t.2.2 = some r) (fun ⟨y19, y20, y21⟩ => ⟨mk 63 [(0, (.own 0 1 (0) (p0))), (1, I p1), (2, Qf5), (6, I y7), (7, I y19), (8, I y20)], [(Qrs y21), Qer, (.own 1 [[(Qeq p3)]])]⟩) (fun t h => by rw [Qbe] at h; cases h) (fun n25 ih t h => ?_) N (0, w64 (2 * y7), y8) h
     obtain ⟨y19, y20, y21⟩ := t
     rw [Qbe] at h
     skip
     refine wsq ?_
     refine wx tbk [] trivial ?_
     rcases bft ((decide (y20 ≤ p1))) with hc26 | hc26
     ·replace h := Qau hc26 h
      refine wft hc26 (by kernel_rfl) ?_
      refine Qag ?_
      refine thn ?_
      refine Qaf ?_
      obtain ⟨x28, hf27, h⟩ := bno h
      refine wx tbk [(7, ⟨[fu 115, (.tmp 36, (.own 0 1 (0) (p0))), (.tmp 37, I y19), (.tmp 40, (I (w64 (y19 + y7)))), (.tmp 41, I y20), (.tmp 42, Qf5)], [(0, (Qrs y21)), (1, Qer), (2, (.own 1 [[(Qeq p3)]]))], (.tup []), [(0, (.own 1 ((x28 : List Int).map Qac))), (1, Qer), (2, (.own 1 [[(Qeq p3)]]))], false⟩)] ⟨Qas (first := []) (cap := []) (vs := [(.own 0 1 (0) (p0)), I y19, (I (w64 (y19 + y7))), I y20, Qf5]) (σr := [(Qrs y21), Qer, (.own 1 [[(Qeq p3)]])]) (σr' := [(.own 1 ((x28 : List Int).map Qac)), Qer, (.own 1 [[(Qeq p3)]])]) (res' := (.tup [])) [0, 1, 2] rfl Qlh (Qd4 N p0 y19 (w64 (y19 + y7)) y20 y21 p3 _ hf27) rfl (Qcn (rnc (Qdo rfl) (rnc (.plain _ nll) (rnc (.plain _ nll) (rnc (.plain _ nll) (rnc (Qay rn0 (rnc (Qbs rfl) (rnc (Qbs rfl) rn0))) rn0)))))) (slc (Qbg Qaa) (slc (Qal (rnc (.plain _ (NLt.fn _ _ _ nl0 nl0)) rn0)) (slc (Qal (rnc (.plain _ (nld Qab _)) rn0)) Qan))) (slc (Qbg Qaa) (slc (Qal (rnc (.plain _ (NLt.fn _ _ _ nl0 nl0)) rn0)) (slc (Qal (rnc (.plain _ (nld Qab _)) rn0)) Qan))) (.plain _ (NLt.tup _ nl0)) rfl rfl rfl, trivial⟩ ?_
      refine wx tbk [] trivial ?_
      obtain ⟨x29, hl30, h⟩ := bno h
      refine wx1 tbk [(4, rp [(.tmp 48, (I (w64 (y20 + (w64 (2 * y7))))))] (I x29))] ⟨Qeu hl30 (aas rfl), trivial⟩ ?_
      refine bln ?_
      refine thn ?_
      exact arm (mto (n := 63) [(0, (.own 0 1 (0) (p0))), (1, I p1), (2, Qf5), (6, I y7), (7, I y20), (8, I x29)] [0, 1, 2] [(.own 1 ((x28 : List Int).map Qac)), Qer, (.own 1 [[(Qeq p3)]])] hφ0 (pc (.rn (Qae rfl)) (pc rwl (pc (.rn (Qay rn0 (rnc (rqr rfl) (rnc (rqr rfl) rn0)))) (pc rwl (pc rwl (pc rwl pn)))))) (qc (spr Qaa) (qc (spb (lc (.rn (Qay rn0 rn0)) ln)) (qc (spb (lc (.rn (.plain _ (nld Qab _))) ln)) qn)))) (ih (y20, x29, x28) h)
     ·replace h := Qav hc26 h
      refine wfn hc26 (by kernel_rfl) ?_
      refine Qbc ?_
      refine Qam ?_
      refine Qam ?_
      refine Qbb rfl ?_
      refine thn ?_
      exact ⟨(y19, y21), h, (mto (n := 63) [(0, (.own 0 1 (0) (p0))), (1, I p1), (2, Qf5), (6, I y7), (7, I y19)] [0, 1, 2] [(Qrs y21), Qer, (.own 1 [[(Qeq p3)]])] hφ0 (pc (.rn (Qae rfl)) (pc rwl (pc (.rn (Qay rn0 (rnc (rqr rfl) (rnc (rqr rfl) rn0)))) (pc rwl (pc rwl pn))))) (qc (spr Qaa) (qc (spb (lc (.rn (Qay rn0 rn0)) ln)) (qc (spb (lc (.rn (.plain _ (nld Qab _))) ln)) qn))))⟩
   ·replace h := Qav hc12 h
    refine wfn hc12 (by kernel_rfl) ?_
    refine Qbc ?_
    refine Qam ?_
    refine Qam ?_
    refine Qbb rfl ?_
    obtain rfl := osi h
    exact ⟨_, (mto (n := 63) (l' := []) (own' := [(Qov y8), Qer, (.own 1 [[(Qeq p3)]])]) [] [0, 1, 2] [(Qov y8), Qer, (.own 1 [[(Qeq p3)]])] hφ0 pn (qc (spr Qaa) (qc (spb (lc (.rn (Qay rn0 rn0)) ln)) (qc (spb (lc (.rn (.plain _ (nld Qab _))) ln)) qn)))), Qcw (vs := []) trivial rfl (NLt.tup _ nl0) (by kernel_rfl) (Qao (Qda Qaa _) (Qao (Qbx (nlc (NLt.of0 (NLt.fn _ _ _ nl0 nl0)) nl0)) (Qao (Qbx (nlc (NLt.of0 (nld Qab _)) nl0)) Qbw)))⟩
  ·skip
   refine Qaf ?_
   refine wmr (mto (n := 63) (l' := [(0, (.own 0 1 (0) (p0))), (1, I p1), (2, Qf5), (6, I 20), (7, I 0), (8, I 20)]) (own' := [(z23_1 p2), Qer, (.own 1 [[(Qeq p3)]])]) [(0, (.own 0 1 (0) (p0))), (1, I p1), (2, Qf5), (6, I 20), (7, I 0), (8, I 20)] [0, 1, 2] [(z23_1 p2), Qer, (.own 1 [[(Qeq p3)]])] hφ0 (pc (.rn (Qae rfl)) (pc rwl (pc (.rn (Qay rn0 (rnc (rqr rfl) (rnc (rqr rfl) rn0)))) (pc rwl (pc rwl (pc rwl pn)))))) (qc (spr Qaa) (qc (spb (lc (.rn (Qay rn0 rn0)) ln)) (qc (spb (lc (.rn (.plain _ (nld Qab _))) ln)) qn)))) ?_
   refine Qb0 (τ := Int × Int × (List Int)) (fun n t => Qbd N p0 p1 p3 k4 n t.1 t.2.1 t.2.2 = some r) (fun ⟨y31, y32, y33⟩ => ⟨mk 63 [(0, (.own 0 1 (0) (p0))), (1, I p1), (2, Qf5), (6, I 20), (7, I y31), (8, I y32)], [(Qrr y33), Qer, (.own 1 [[(Qeq p3)]])]⟩) (fun t h => by rw [Qbd] at h; cases h) (fun n37 ih t h => ?_) N (0, 20, p2) h
   obtain ⟨y31, y32, y33⟩ := t
   rw [Qbd] at h
   skip
   refine wsq ?_
   refine wx tbk [] trivial ?_
   rcases bft ((decide (y32 ≤ p1))) with hc38 | hc38
   ·replace h := Qau hc38 h
    refine wft hc38 (by kernel_rfl) ?_
    refine Qag ?_
    refine thn ?_
    refine Qaf ?_
    obtain ⟨x40, hf39, h⟩ := bno h
    refine wx tbk [(4, ⟨[fu 114, (.tmp 14, (.own 0 1 (0) (p0))), (.tmp 15, I y31), (.tmp 16, I y32), (.tmp 17, Qf5)], [(0, (Qrr y33)), (1, Qer), (2, (.own 1 [[(Qeq p3)]]))], (.tup []), [(0, (.own 1 ((x40 : List Int).map Qac))), (1, Qer), (2, (.own 1 [[(Qeq p3)]]))], false⟩)] ⟨Qas (first := []) (cap := []) (vs := [(.own 0 1 (0) (p0)), I y31, I y32, Qf5]) (σr := [(Qrr y33), Qer, (.own 1 [[(Qeq p3)]])]) (σr' := [(.own 1 ((x40 : List Int).map Qac)), Qer, (.own 1 [[(Qeq p3)]])]) (res' := (.tup [])) [0, 1, 2] rfl Qsq (Qdy N p0 y31 y32 y33 p3 _ hf39) rfl (Qcn (rnc (Qdo rfl) (rnc (.plain _ nll) (rnc (.plain _ nll) (rnc (Qay rn0 (rnc (Qbs rfl) (rnc (Qbs rfl) rn0))) rn0))))) (slc (Qbg Qaa) (slc (Qal (rnc (.plain _ (NLt.fn _ _ _ nl0 nl0)) rn0)) (slc (Qal (rnc (.plain _ (nld Qab _)) rn0)) Qan))) (slc (Qbg Qaa) (slc (Qal (rnc (.plain _ (NLt.fn _ _ _ nl0 nl0)) rn0)) (slc (Qal (rnc (.plain _ (nld Qab _)) rn0)) Qan))) (.plain _ (NLt.tup _ nl0)) rfl rfl rfl, trivial⟩ ?_
    refine wx tbk [] trivial ?_
    refine wx1 tbk [] trivial ?_
    refine bln ?_
    refine thn ?_
    exact arm (mto (n := 63) [(0, (.own 0 1 (0) (p0))), (1, I p1), (2, Qf5), (6, I 20), (7, I y32), (8, (I (w64 (y32 + 20))))] [0, 1, 2] [(.own 1 ((x40 : List Int).map Qac)), Qer, (.own 1 [[(Qeq p3)]])] hφ0 (pc (.rn (Qae rfl)) (pc rwl (pc (.rn (Qay rn0 (rnc (rqr rfl) (rnc (rqr rfl) rn0)))) (pc rwl (pc rwl (pc rwl pn)))))) (qc (spr Qaa) (qc (spb (lc (.rn (Qay rn0 rn0)) ln)) (qc (spb (lc (.rn (.plain _ (nld Qab _))) ln)) qn)))) (ih (y32, w64 (y32 + 20), x40) h)
   ·replace h := Qav hc38 h
    refine wfn hc38 (by kernel_rfl) ?_
    refine Qbc ?_
    refine Qam ?_
    refine Qam ?_
    refine Qbb rfl ?_
    refine thn ?_
    exact ⟨(y31, y33), h, (mto (n := 63) [(0, (.own 0 1 (0) (p0))), (1, I p1), (2, Qf5), (6, I 20), (7, I y31)] [0, 1, 2] [(Qrr y33), Qer, (.own 1 [[(Qeq p3)]])] hφ0 (pc (.rn (Qae rfl)) (pc rwl (pc (.rn (Qay rn0 (rnc (rqr rfl) (rnc (rqr rfl) rn0)))) (pc rwl (pc rwl pn))))) (qc (spr Qaa) (qc (spb (lc (.rn (Qay rn0 rn0)) ln)) (qc (spb (lc (.rn (.plain _ (nld Qab _))) ln)) qn))))⟩
def Qbn (N : Nat) (p0 : Nat) (p1 : (List Int)) (p2 : (List GNode)) : Option (List Int) :=
  (Qdc N p0 ((p0 : Nat) : Int) p1 p2).bind fun x3 =>
  some x3
def z22_0 : AV := .fn (.func 96) [] [(.ref 1 1 (0) 0), (.ref 2 1 (0) 0)]
def z22_1 (p1 : (List Int)) : Slot := .own 1 ((p1 : List Int).map Qac)
def Qox : Slot := .own 1 [[(.fn (.func 70) [] [])]]
def Qow (p2 : (List GNode)) : AV := .dat 4 ((p2 : List GNode).map Qad)
def Qw9 (x3 : (List Int)) : Slot := .own 1 ((x3 : List Int).map Qac)
set_option maxRecDepth 100000 in
set_option maxHeartbeats 4000000 in
theorem Qfb (N : Nat) (p0 : Nat) (p1 : (List Int)) (p2 : (List GNode)) (r : (List Int)) (h : Qbn N p0 p1 p2 = some r) : Spec Try.prog 95 [(.own 0 1 (0) (p0)), z22_0] [(z22_1 p1), Qox, (.own 1 [[(Qow p2)]])] (.tup []) [(.own 1 ((r : List Int).map Qac)), Qox, (.own 1 [[(Qow p2)]])] := by
  refine Qai Try.func95 rfl 3 (nle rfl) (fun X φ0 w0 hφ0 => ?_)
  unfold Qbn at h
  refine Qcm ?_
  obtain ⟨x3, hf2, h⟩ := bno h
  refine wx1 tbk [(2, rp [(.tmp 5, (.own 0 1 (0) (p0)))] (I (((p0 : Nat) : Int)))), (4, ⟨[fu 110, (.tmp 4, (.own 0 1 (0) (p0))), (.tmp 6, (I (((p0 : Nat) : Int)))), (.tmp 7, z22_0)], [(0, (z22_1 p1)), (1, Qox), (2, (.own 1 [[(Qow p2)]]))], (.tup []), [(0, (Qw9 x3)), (1, Qox), (2, (.own 1 [[(Qow p2)]]))], false⟩)] ⟨aln rfl Try.underlying23 rfl, Qas (first := []) (cap := []) (vs := [(.own 0 1 (0) (p0)), (I (((p0 : Nat) : Int))), z22_0]) (σr := [(z22_1 p1), Qox, (.own 1 [[(Qow p2)]])]) (σr' := [(Qw9 x3), Qox, (.own 1 [[(Qow p2)]])]) (res' := (.tup [])) [0, 1, 2] rfl Qya (Qga N p0 ((p0 : Nat) : Int) p1 p2 _ hf2) rfl (Qcn (rnc (Qdo rfl) (rnc (.plain _ nll) (rnc (Qay rn0 (rnc (Qbs rfl) (rnc (Qbs rfl) rn0))) rn0)))) (slc (Qbg Qaa) (slc (Qal (rnc (.plain _ (NLt.fn _ _ _ nl0 nl0)) rn0)) (slc (Qal (rnc (.plain _ (nld Qab _)) rn0)) Qan))) (slc (Qbg Qaa) (slc (Qal (rnc (.plain _ (NLt.fn _ _ _ nl0 nl0)) rn0)) (slc (Qal (rnc (.plain _ (nld Qab _)) rn0)) Qan))) (.plain _ (NLt.tup _ nl0)) rfl rfl rfl, trivial⟩ ?_
  obtain rfl := osi h
  exact ⟨_, (mto (n := 9) (l' := []) (own' := [(Qw9 x3), Qox, (.own 1 [[(Qow p2)]])]) [] [0, 1, 2] [(Qw9 x3), Qox, (.own 1 [[(Qow p2)]])] hφ0 pn (qc (spr Qaa) (qc (spb (lc (.rn (Qay rn0 rn0)) ln)) (qc (spb (lc (.rn (.plain _ (nld Qab _))) ln)) qn)))), Qcw (vs := []) trivial rfl (NLt.tup _ nl0) (by kernel_rfl) (Qao (Qda Qaa _) (Qao (Qbx (nlc (NLt.of0 (NLt.fn _ _ _ nl0 nl0)) nl0)) (Qao (Qbx (nlc (NLt.of0 (nld Qab _)) nl0)) Qbw)))⟩
def Qbi (N : Nat) (p0 : (List GNode)) (k4 : (List Int) → Option (List Int)) : Nat → Int → (List Int) → Option (List Int)
  | 0, _, _ => none
  | n13 + 1, y9, y10 =>
    bif (decide (y9 < (p0.length : Int))) then
     chk (decide ((y10.length + ([y9]).length) * 8 ≤ 140737488355328)) <|
     Qbi N p0 k4 n13 (w64 (y9 + 1)) (y10 ++ ([y9]))
    else
     k4 (y10)
def Qc3 (N : Nat) (p0 : (List GNode)) : Option (List Int) :=
  Qcd (fun y3 =>
    chk (!y3.isEmpty) <|
    (Qbn N y3.length y3 p0).bind fun x7 =>
    chk (decide (y3.length ≤ x7.length)) <|
    some (x7.take y3.length)) fun k4 : (List Int) → Option (List Int) =>
  Qbi N p0 k4 N 0 ([] : List Int)
def Qks (p0 : (List GNode)) : AV := .dat 4 ((p0 : List GNode).map Qad)
def Qlo : Slot := .own 1 [[(.fn (.func 70) [] [])]]
def Qrv : AV := .fn (.func 96) [] [(.ref 1 1 (0) 0), (.ref 0 1 (0) 0)]
def Qru (x7 : (List Int)) (y3 : (List Int)) : AV := .dat 1 ((x7.take y3.length : List Int).map Qac)
def z21_7 : Slot := .gro 1 ((([] : List Int) : List Int).map Qac)
set_option maxRecDepth 100000 in
set_option maxHeartbeats 4000000 in
theorem Qgu (N : Nat) (p0 : (List GNode)) (r : (List Int)) (h : Qc3 N p0 = some r) : Spec Try.prog 69 [(Qks p0), (.fn (.func 70) [] [])] [] (.dat 1 ((r : List Int).map Qac)) [] := by
  refine Qai Try.func69 rfl 0 (nle rfl) (fun X φ0 w0 hφ0 => ?_)
  unfold Qc3 at h
  refine Qcm ?_
  refine wx tbk [] trivial ?_
  refine wx tbk [] trivial ?_
  obtain ⟨k4, hk_k4, h⟩ := jko h
  refine wjn (τ := (List Int)) (fun t => k4 t = some r) (fun y3 => ⟨mk 21 [(2, .ref 0 1 0 0), (3, .ref 1 1 0 0), (5, (.gro 2 3 1 (y3.length)))], [(.own 1 [[(Qks p0)]]), Qlo, (.gro 1 ((y3 : List Int).map Qac))]⟩) (fun y3 h => ?_) ?_
  ·subst hk_k4
   obtain ⟨hz5, h⟩ := cko h
   obtain ⟨x7, hf6, h⟩ := bno h
   refine wx tbk [(1, rp [(.tmp 3, .ref 1 1 0 0), (.tmp 2, .ref 0 1 0 0)] Qrv), (2, ⟨[fu 95, (.tmp 17, (.gro 2 3 1 (y3.length))), (.tmp 18, Qrv)], [(2, (.gro 1 ((y3 : List Int).map Qac))), (1, Qlo), (0, (.own 1 [[(Qks p0)]]))], (.tup []), [(2, (.own 1 ((x7 : List Int).map Qac))), (1, Qlo), (0, (.own 1 [[(Qks p0)]]))], false⟩)] ⟨Qf0 (fs := []) (cs := [.ref 1 1 0 0, .ref 0 1 0 0]) rfl rfl rfl rfl, Qq3 (bl' := [(2, (.own 1 ((y3 : List Int).map Qac))), (1, Qlo), (0, (.own 1 [[(Qks p0)]]))]) ⟨rfl, SLess.gro (Qhz hz5), rfl, SLess.rfl, rfl, SLess.rfl, trivial⟩ (awk (rd' := [fu 95, (.tmp 17, (.own 2 1 (0) (y3.length))), (.tmp 18, Qrv)]) ⟨rfl, lrf, rfl, Less.gro, rfl, lrf, trivial⟩ (Qas (first := []) (cap := []) (vs := [(.own 2 1 (0) (y3.length)), Qrv]) (σr := [(.own 1 ((y3 : List Int).map Qac)), Qlo, (.own 1 [[(Qks p0)]])]) (σr' := [(.own 1 ((x7 : List Int).map Qac)), Qlo, (.own 1 [[(Qks p0)]])]) (res' := (.tup [])) [2, 1, 0] rfl enter95 (Qfb N y3.length y3 p0 _ hf6) rfl (Qcn (rnc (Qdo rfl) (rnc (Qay rn0 (rnc (Qbs rfl) (rnc (Qbs rfl) rn0))) rn0))) (slc (Qbg Qaa) (slc (Qal (rnc (.plain _ (NLt.fn _ _ _ nl0 nl0)) rn0)) (slc (Qal (rnc (.plain _ (nld Qab _)) rn0)) Qan))) (slc (Qbg Qaa) (slc (Qal (rnc (.plain _ (NLt.fn _ _ _ nl0 nl0)) rn0)) (slc (Qal (rnc (.plain _ (nld Qab _)) rn0)) Qan))) (.plain _ (NLt.tup _ nl0)) rfl rfl rfl)), trivial⟩ ?_
   refine wx tbk [] trivial ?_
   obtain ⟨hz8, h⟩ := cko h
   refine wmr (Qxv (n := 21) (l' := [(4, (.own 2 1 (0) (y3.length)))]) [(4, (.gro 2 3 1 (y3.length)))] (by kernel_rfl) (by kernel_rfl) ⟨rfl, Less.gro, trivial⟩) ?_
   refine wmr (Ql1 (n := 21) (l' := [(4, (Qru x7 y3))]) 2 [(4, (.own 2 1 (0) (y3.length)))] (by kernel_rfl) (by kernel_rfl) (by kernel_rfl) ⟨rfl, (Qjt hz8), trivial⟩ rfl) ?_
   refine wmr (mto (n := 21) (l' := [(4, (Qru x7 y3))]) (own' := []) [(4, (Qru x7 y3))] [] [] hφ0 (pc (.rn (.plain _ (nld Qaa _))) pn) qn) ?_
   refine Qah ?_
   obtain rfl := osi h
   exact ⟨_, Mor.rfl, Qcw (vs := [(Qru x7 y3)]) ⟨rot (by kernel_rfl), trivial⟩ rfl (nld Qaa _) (by kernel_rfl) Qbw⟩
  ·skip
   refine wx tbk [(1, rp [(.tmp 7, (Qks p0))] (I ((p0.length : Int))))] ⟨alm (c := Qad) (l := p0) (aln rfl Try.underlying30 rfl), trivial⟩ ?_
   refine Qaf ?_
   refine wmr (Mor.trans (Qxu 2 3 1 5 (by kernel_rfl) (by kernel_rfl)) (mto (n := 21) (l' := [(2, .ref 0 1 0 0), (3, .ref 1 1 0 0), (5, (.gro 2 3 1 (([] : List Int).length))), (8, (I ((p0.length : Int)))), (9, I 0)]) (own' := [(.own 1 [[(Qks p0)]]), Qlo, z21_7]) [(2, .ref 0 1 0 0), (3, .ref 1 1 0 0), (5, (.gro 2 3 1 (([] : List Int).length))), (8, (I ((p0.length : Int)))), (9, I 0)] [0, 1, 2] [(.own 1 [[(Qks p0)]]), Qlo, z21_7] hφ0 (pc (.rn (rqr rfl)) (pc (.rn (rqr rfl)) (pc (.rn (Qqk rfl)) (pc rwl (pc rwl pn))))) (qc (spb (lc (.rn (.plain _ (nld Qab _))) ln)) (qc (spb (lc (.rn (Qay rn0 rn0)) ln)) (qc (Qnv Qaa) qn))))) ?_
   refine Qb0 (τ := Int × (List Int)) (fun n t => Qbi N p0 k4 n t.1 t.2 = some r) (fun ⟨y9, y10⟩ => ⟨mk 21 [(2, .ref 0 1 0 0), (3, .ref 1 1 0 0), (5, (.gro 2 3 1 (y10.length))), (8, (I ((p0.length : Int)))), (9, I y9)], [(.own 1 [[(Qks p0)]]), Qlo, (.gro 1 ((y10 : List Int).map Qac))]⟩) (fun t h => by rw [Qbi] at h; cases h) (fun n13 ih t h => ?_) N (0, ([] : List Int)) h
   obtain ⟨y9, y10⟩ := t
   rw [Qbi] at h
   skip
   refine wx tbk [] trivial ?_
   refine wsq ?_
   rcases bft ((decide (y9 < (p0.length : Int)))) with hc14 | hc14
   ·replace h := Qau hc14 h
    refine wft hc14 (by kernel_rfl) ?_
    refine Qag ?_
    refine thn ?_
    refine wsq ?_
    refine Qaf ?_
    refine wx tbk [] trivial ?_
    obtain ⟨ha15, h⟩ := cko h
    refine wx1 tbk [(2, rp [(.tmp 13, I y9)] (.dat 1 (([y9] : List Int).map Qac))), (3, ⟨[(.tmp 12, (.gro 2 3 1 (y10.length))), (.tmp 14, (.dat 1 (([y9] : List Int).map Qac)))], [(2, (.gro 1 ((y10 : List Int).map Qac))), (3, .unused)], (.gro 3 3 1 ((y10 ++ ([y9])).length)), [(2, .dead), (3, (.gro 1 ((y10 ++ ([y9]) : List Int).map Qac)))], false⟩)] ?_ ?_
    ·exact ⟨Qbk (vs := [I y9]) rfl Try.underlying23 ti3 tz3 rfl (by decide) rfl (by decide) (by rfl) (by rfl) (by rfl) rfl, Qq8 (c := Qac) (a := y10) (b := [y9]) rfl Try.underlying23 te3 rfl (Qhz rfl) (by rfl) ha15 (by decide), trivial⟩
    refine bln ?_
    refine thn ?_
    refine wx1 tbk [] trivial ?_
    refine thn ?_
    exact arm (mto (n := 21) [(2, .ref 0 1 0 0), (3, .ref 1 1 0 0), (5, (.gro 3 3 1 ((y10 ++ ([y9])).length))), (8, (I ((p0.length : Int)))), (9, (I (w64 (y9 + 1))))] [0, 1, 3] [(.own 1 [[(Qks p0)]]), Qlo, (.gro 1 ((y10 ++ ([y9]) : List Int).map Qac))] hφ0 (pc (.rn (rqr rfl)) (pc (.rn (rqr rfl)) (pc (.rn (Qqk rfl)) (pc rwl (pc rwl pn))))) (qc (spb (lc (.rn (.plain _ (nld Qab _))) ln)) (qc (spb (lc (.rn (Qay rn0 rn0)) ln)) (qc (Qnv Qaa) qn)))) (ih (w64 (y9 + 1), y10 ++ ([y9])) h)
   ·replace h := Qav hc14 h
    refine wfn hc14 (by kernel_rfl) ?_
    refine Qbc ?_
    refine Qam ?_
    refine Qam ?_
    refine Qbb rfl ?_
    refine thn ?_
    exact ⟨(y10), h, (mto (n := 21) [(2, .ref 0 1 0 0), (3, .ref 1 1 0 0), (5, (.gro 2 3 1 (y10.length)))] [0, 1, 2] [(.own 1 [[(Qks p0)]]), Qlo, (.gro 1 ((y10 : List Int).map Qac))] hφ0 (pc (.rn (rqr rfl)) (pc (.rn (rqr rfl)) (pc (.rn (Qqk rfl)) pn))) (qc (spb (lc (.rn (.plain _ (nld Qab _))) ln)) (qc (spb (lc (.rn (Qay rn0 rn0)) ln)) (qc (Qnv Qaa) qn))))⟩
def Qbo (N : Nat) (p0 : (List GNode)) (p1 : Nat) (p2 : (List Int)) (k7 : (List Int) → Option (List Int)) : (List (Int × GNode)) → (List Int) → Option (List Int)
  | [], y13 =>
    k7 (y13)
  | x16 :: q17, y13 =>
    (Qdi N x16.1 ((p2.take p1).length) p0 y13).bind fun x26 =>
    Qbo N p0 p1 p2 k7 q17 x26
def Qd2 (N : Nat) (p0 : (List GNode)) (p1 : Nat) (p2 : (List Int)) : Option (List Int) :=
  chk (decide (p1 ≤ p2.length)) <|
  (Qde N (p2.take p1)).bind fun _ =>
  Qcd (fun y6 =>
    chk (decide ((p2.take p1).length ≤ y6.length)) <|
    some (y6.take ((p2.take p1).length))) fun k7 : (List Int) → Option (List Int) =>
  (Qbl N p0).bind fun _ =>
  (Qba N p0).bind fun q11 =>
  Qbo N p0 p1 p2 k7 q11 (p2.take p1)
def Qil (p0 : (List GNode)) : AV := .dat 4 ((p0 : List GNode).map Qad)
def Qlb (p2 : (List Int)) : Slot := .own 1 ((p2 : List Int).map Qac)
def Qw6 (p2 : (List Int)) (p1 : Nat) : Slot := .own 1 ((p2.take p1 : List Int).map Qac)
def z30_5 : AV := .fn (.func 98) [] [(.ref 3 1 (0) 0), (.ref 1 1 (0) 0)]
def Qrp (y6 : (List Int)) (p2 : (List Int)) (p1 : Nat) : AV := .dat 1 ((y6.take ((p2.take p1).length) : List Int).map Qac)
def z30_7 : AV := .fn (.func 105) [] [(.ref 5 1 (0) 0)]
def Qnm (p2 : (List Int)) (p1 : Nat) : Slot := .own 1 [[(.own 4 1 (0) ((p2.take p1).length))]]
def Qos : AV := .fn (.func 98) [] [(.ref 1 1 (0) 0), (.ref 5 1 (0) 0)]
def Qro (y13 : (List Int)) : Slot := .own 1 ((y13 : List Int).map Qac)
def Qrn (x26 : (List Int)) : Slot := .own 1 ((x26 : List Int).map Qac)
set_option maxRecDepth 100000 in
set_option maxHeartbeats 4000000 in
theorem Qio (N : Nat) (p0 : (List GNode)) (p1 : Nat) (p2 : (List Int)) (r : (List Int)) (h : Qd2 N p0 p1 p2 = some r) : Spec Try.prog 71 [(Qil p0), (.own 0 1 (0) (p1))] [(Qlb p2)] (.dat 1 ((r : List Int).map Qac)) [(Qlb p2)] := by
  refine Qai Try.func71 rfl 1 (nle rfl) (fun X φ0 w0 hφ0 => ?_)
  unfold Qd2 at h
  refine Qcm ?_
  refine wx tbk [] trivial ?_
  obtain ⟨hz3, h⟩ := cko h
  obtain ⟨x5, hf4, h⟩ := bno h
  refine wx tbk [(1, ⟨[fu 97, (.tmp 8, (.own 0 1 (0) (p1)))], [(0, (Qlb p2)), (2, .unused)], (.own 2 1 (0) ((p2.take p1).length)), [(2, (Qw6 p2 p1))], false⟩)] ⟨Qkk (rd' := [fu 97, (.tmp 8, (.dat 1 ((p2.take p1 : List Int).map Qac)))]) [(0, 1, (p2 : List Int).map Qac)] ⟨rfl, .same _, rfl, (Qqv 0 rfl hz3), trivial⟩ (by rfl) (.own _ _ _ _ (nin rfl)) (Qr8 (.own _ _ (Qm1 Qvo _)) Qu2) (Qas (first := []) (cap := []) (vs := [(.dat 1 ((p2.take p1 : List Int).map Qac))]) (σr := []) (σr' := [(Qw6 p2 p1)]) (res' := (.own 2 1 (0) ((p2.take p1).length))) [2] rfl Qv5 (Qe7 N (p2.take p1) _ hf4) rfl (Qcn (rnc (.plain _ (nld Qaa _)) rn0)) Qan (slc (Qbg Qaa) Qan) (Qgz rfl) rfl rfl rfl), trivial⟩ ?_
  refine wx tbk [(0, rp [(.tmp 5, .ref 3 1 0 0), (.tmp 2, .ref 1 1 0 0)] z30_5)] ⟨Qf0 (fs := []) (cs := [.ref 3 1 0 0, .ref 1 1 0 0]) rfl rfl rfl rfl, trivial⟩ ?_
  obtain ⟨k7, hk_k7, h⟩ := jko h
  refine wjn (τ := (List Int)) (fun t => k7 t = some r) (fun y6 => ⟨mk 19 [(5, .ref 1 1 0 0)], [(Qlb p2), (.own 1 [[(.own 2 1 (0) ((p2.take p1).length))]]), (.own 1 ((y6 : List Int).map Qac))]⟩) (fun y6 h => ?_) ?_
  ·subst hk_k7
   refine wx tbk [] trivial ?_
   obtain ⟨hz8, h⟩ := cko h
   refine wmr (Ql1 (n := 19) (l' := [(4, (Qrp y6 p2 p1))]) 2 [(4, (.own 2 1 (0) ((p2.take p1).length)))] (by kernel_rfl) (by kernel_rfl) (by kernel_rfl) ⟨rfl, (Qjt hz8), trivial⟩ rfl) ?_
   refine wmr (mto (n := 19) (l' := [(4, (Qrp y6 p2 p1))]) (own' := [(Qlb p2)]) [(4, (Qrp y6 p2 p1))] [0] [(Qlb p2)] hφ0 (pc (.rn (.plain _ (nld Qaa _))) pn) (qc (spr Qaa) qn)) ?_
   refine Qah ?_
   obtain rfl := osi h
   exact ⟨_, Mor.rfl, Qcw (vs := [(Qrp y6 p2 p1)]) ⟨rot (by kernel_rfl), trivial⟩ rfl (NLt.of0 (nld Qaa _)) (by kernel_rfl) (Qao (Qda Qaa _) Qbw)⟩
  ·skip
   obtain ⟨x10, hf9, h⟩ := bno h
   refine wx tbk [(1, ⟨[fu 86, (.tmp 11, (Qil p0))], [(5, .unused)], z30_7, [(5, (.own 1 [[(Qil p0)]]))], false⟩)] ⟨Qas (first := []) (cap := []) (vs := [(Qil p0)]) (σr := []) (σr' := [(.own 1 [[(Qil p0)]])]) (res' := z30_7) [5] rfl Qv7 (Qdn N p0 _ hf9) rfl (Qcn (rnc (.plain _ (nld Qab _)) rn0)) Qan (slc (Qal (rnc (.plain _ (nld Qab _)) rn0)) Qan) (Qay rn0 (rnc (Qgm rfl) rn0)) rfl rfl rfl, trivial⟩ ?_
   refine Qaf ?_
   obtain ⟨q11, hL12, h⟩ := bno h
   refine wmr (mto (n := 19) (l' := [(5, .ref 1 1 0 0), (6, .ref 2 1 0 0), (12, (.fn (.func 105) [] [.ref 3 1 0 0]))]) (own' := [(Qlb p2), (Qnm p2 p1), (.own 1 [[Qos]]), (.own 1 [[(Qil p0)]]), (Qw6 p2 p1), (.own 1 [[(Qil p0)]])]) [(5, .ref 3 1 0 0), (6, .ref 4 1 0 0), (12, z30_7)] [0, 3, 4, 5, 2, 1] [(Qlb p2), (.own 1 [[(.own 2 1 (0) ((p2.take p1).length))]]), (.own 1 [[z30_5]]), (.own 1 [[(Qil p0)]]), (Qw6 p2 p1), (.own 1 [[(Qil p0)]])] hφ0 (pc (.rn (rqr rfl)) (pc (.rn (rqr rfl)) (pc (.rn (Qay rn0 (rnc (rqr rfl) rn0))) pn))) (qc (spr Qaa) (qc (spb (lc (.rn (Qae rfl)) ln)) (qc (spb (lc (.rn (Qay rn0 (rnc (rqr rfl) (rnc (rqr rfl) rn0)))) ln)) (qc (spb (lc (.rn (.plain _ (nld Qab _))) ln)) (qc (spr Qaa) (qc (spb (lc (.rn (.plain _ (nld Qab _))) ln)) qn))))))) ?_
   refine Qiv (τ := ((List Int))) (kb := 6) (caps := [.ref 3 1 0 0]) (σr := [(.own 1 [[(Qil p0)]])]) (encs := fun x => [(.int .i64 (x.1)), (.agg #[(.int .i64 (x.2.Parent)), (.int .i64 (x.2.Loss)), (.int .i64 (x.2.Limit)), (.int .i64 (x.2.Rank))])]) (fun x => [I x.1, (.agg [I x.2.Parent, I x.2.Loss, I x.2.Limit, I x.2.Rank])]) [3] (fun n hn => hφ0 n (Nat.le_trans (nle rfl) hn)) (Qdm N p0 _ hL12) Qss (by kernel_rfl) (by kernel_rfl) (Qcn (rnc (Qgm rfl) rn0)) (slc (Qal (rnc (.plain _ (nld Qab _)) rn0)) Qan) (by kernel_rfl) (fun _ => rfl) (fun x => ⟨lrf, (Less.unlits [(.int .i64 (x.2.Parent)), (.int .i64 (x.2.Loss)), (.int .i64 (x.2.Limit)), (.int .i64 (x.2.Rank))]), trivial⟩) (Qsh (Qeg (NLt.ref _ _ _ _ (by decide)) (Qeg (NLt.ref _ _ _ _ (by decide)) (Qeg (NLt.fn _ _ _ nl0 (nlc (NLt.ref _ _ _ _ (by decide)) nl0)) Qn2)))) (fun y13 => [(Qlb p2), (Qnm p2 p1), (.own 1 [[Qos]]), .dead, (Qro y13), (.own 1 [[(Qil p0)]])]) (fun _ => rfl) (fun _ => rfl) (fun l t => Qbo N p0 p1 p2 k7 l t = some r) (p2.take p1) h (by kernel_rfl) ?_ ?_
   ·intro l18 o19 X22 φ23 w24 hφ21 x16 q17 y13 h
    rw [Qbo] at h
    refine wx1 tbk [] trivial ?_
    refine ⟨by kernel_rfl, fun o20 => ?_⟩
    refine Qaf ?_
    obtain ⟨x26, hf25, h⟩ := bno h
    refine wx1 tbk [(2, ⟨[(.tmp 15, Qos), (.tmp 16, I x16.1)], [(1, (Qnm p2 p1)), (5, (.own 1 [[(Qil p0)]])), (4, (Qro y13))], (.tup []), [(1, (Qnm p2 p1)), (5, (.own 1 [[(Qil p0)]])), (4, (Qrn x26))], false⟩)] ⟨Qas (first := []) (cap := [.ref 1 1 0 0, .ref 5 1 0 0]) (vs := [I x16.1]) (σr := [(Qnm p2 p1), (.own 1 [[(Qil p0)]]), (Qro y13)]) (σr' := [(Qnm p2 p1), (.own 1 [[(Qil p0)]]), (Qrn x26)]) (res' := (.tup [])) [1, 5, 4] rfl Qv4 (Qfi N x16.1 ((p2.take p1).length) p0 y13 _ hf25) rfl (Qcn (rnc (.plain _ nll) (rnc (Qbs rfl) (rnc (Qbs rfl) rn0)))) (slc (Qal (rnc (Qdo rfl) rn0)) (slc (Qal (rnc (.plain _ (nld Qab _)) rn0)) (slc (Qbg Qaa) Qan))) (slc (Qal (rnc (Qgz rfl) rn0)) (slc (Qal (rnc (.plain _ (nld Qab _)) rn0)) (slc (Qbg Qaa) Qan))) (.plain _ (NLt.tup _ nl0)) rfl rfl rfl, trivial⟩ ?_
    refine bln ?_
    exact ⟨(x26), h, Qo5 (own' := [(Qlb p2), (Qnm p2 p1), (.own 1 [[Qos]]), .dead, (Qrn x26), (.own 1 [[(Qil p0)]]), (.far (farL l18 o20))]) [0, 1, 2, 3, 4, 5, 6] [(Qlb p2), (Qnm p2 p1), (.own 1 [[Qos]]), .dead, (Qrn x26), (.own 1 [[(Qil p0)]]), (.far (farL l18 o20))] (by kernel_rfl) (by kernel_rfl) ⟨(spr Qaa), (spb (lc (.rn (Qae rfl)) ln)), (spb (lc (.rn (Qay rn0 (rnc (rqr rfl) (rnc (rqr rfl) rn0)))) ln)), .dead, (spr Qaa), (spb (lc (.rn (.plain _ (nld Qab _))) ln)), .far _, trivial⟩⟩
   ·intro y13 h
    rw [Qbo] at h
    refine bln ?_
    refine thn ?_
    exact ⟨(y13), h, (mto (n := 19) [(5, .ref 1 1 0 0)] [0, 1, 4] [(Qlb p2), (Qnm p2 p1), (Qro y13)] hφ0 (pc (.rn (rqr rfl)) pn) (qc (spr Qaa) (qc (spb (lc (.rn (Qae rfl)) ln)) (qc (spr Qaa) qn))))⟩
def Qch (N : Nat) (p0 : (List GNode)) (p1 : (List Int)) (p2 : Int) (k15 : Int × (List Bool) → Option ((List Bool) × Int × Int)) (x18 : (List Int)) : Nat → Int → Int → (List Bool) → (List Int) → Option ((List Bool) × Int × Int)
  | 0, _, _, _, _ => none
  | n27 + 1, y19, y20, y21, y22 =>
    bif (decide (y20 < (x18.length : Int))) then
     (getI x18 y20).bind fun x29 =>
     (getI p1 x29).bind fun x33 =>
     bif (x33 == 0) then
      Qch N p0 p1 p2 k15 x18 n27 y19 (w64 (y20 + 1)) y21 y22
     else
      chk (decide (0 ≤ x29) && decide (x29.toNat < (p0.length : Int).toNat)) <|
      (y22[x29.toNat]?).bind fun _ =>
      (Qd2 N p0 ((p0.length : Int).toNat) (y22.set x29.toNat x33)).bind fun x42 =>
      Qcd (fun _ =>
        (getI x42 0).bind fun x44 =>
        chk (decide (0 ≤ x29) && decide (x29.toNat < (p0.length : Int).toNat)) <|
        (y21[x29.toNat]?).bind fun _ =>
        Qch N p0 p1 p2 k15 x18 n27 x44 (w64 (y20 + 1)) (y21.set x29.toNat true) (y22.set x29.toNat x33)) fun k43 : Unit → Option ((List Bool) × Int × Int) =>
      (Qd7 N p0 x42).bind fun x52 =>
      bif (decide (x52 ≥ 0)) then
       chk (decide (0 ≤ x29) && decide (x29.toNat < (p0.length : Int).toNat)) <|
       ((y22.set x29.toNat x33)[x29.toNat]?).bind fun _ =>
       Qch N p0 p1 p2 k15 x18 n27 y19 (w64 (y20 + 1)) y21 ((y22.set x29.toNat x33).set x29.toNat 0)
      else
       (getI x42 0).bind fun x57 =>
       bif (decide (x57 > p2)) then
        chk (decide (0 ≤ x29) && decide (x29.toNat < (p0.length : Int).toNat)) <|
        ((y22.set x29.toNat x33)[x29.toNat]?).bind fun _ =>
        Qch N p0 p1 p2 k15 x18 n27 y19 (w64 (y20 + 1)) y21 ((y22.set x29.toNat x33).set x29.toNat 0)
       else
        k43 ()
    else
     k15 (y19, y21)
def Qfs (N : Nat) (p0 : (List GNode)) (p1 : (List Int)) (p2 : Int) : Option ((List Bool) × Int × Int) :=
  (Qgp N p0 p1).bind fun x6 =>
  bif (x6 != 0) then
   some ([], 0, x6)
  else
   (Qco N p2 0 100000000000).bind fun x9 =>
   bif (!x9) then
    some ([], 0, 2)
   else
    chk (decide (0 ≤ (p0.length : Int)) && decide (1 * (p0.length : Int) ≤ 281474976710656) && decide ((p0.length : Int) ≤ 9223372036854775807)) <|
    chk (decide (0 ≤ (p0.length : Int)) && decide (8 * (p0.length : Int) ≤ 281474976710656) && decide ((p0.length : Int) ≤ 9223372036854775807)) <|
    Qcd (fun ⟨y13, y14⟩ =>
      chk (decide ((p0.length : Int).toNat ≤ y14.length)) <|
      some (y14.take ((p0.length : Int).toNat), y13, 0)) fun k15 : Int × (List Bool) → Option ((List Bool) × Int × Int) =>
    (Qc3 N p0).bind fun x18 =>
    Qch N p0 p1 p2 k15 x18 N 0 0 (List.replicate (p0.length : Int).toNat false) (List.replicate (p0.length : Int).toNat 0)
def Qhc (p0 : (List GNode)) : AV := .dat 4 ((p0 : List GNode).map Qad)
def Qkt (p1 : (List Int)) : AV := .dat 1 ((p1 : List Int).map Qac)
def Qrz : AV := .dat 1 (([] : List Bool).map Qa2)
def z20_2 (p0 : (List GNode)) : Slot := .own 1 ((List.replicate (p0.length : Int).toNat false : List Bool).map Qa2)
def z20_3 (p0 : (List GNode)) : Slot := .own 1 ((List.replicate (p0.length : Int).toNat 0 : List Int).map Qac)
def Qry (y14 : (List Bool)) (p0 : (List GNode)) : AV := .dat 1 ((y14.take ((p0.length : Int).toNat) : List Bool).map Qa2)
def Qhj (x18 : (List Int)) : AV := .dat 1 ((x18 : List Int).map Qac)
def Qjz (y21 : (List Bool)) : Slot := .own 1 ((y21 : List Bool).map Qa2)
def Qrx (y22 : (List Int)) : Slot := .own 1 ((y22 : List Int).map Qac)
def Qh6 (y22 : (List Int)) (x29 : Int) (x33 : Int) : Slot := .own 1 ((y22.set x29.toNat x33 : List Int).map Qac)
def Qi8 (x42 : (List Int)) : AV := .dat 1 ((x42 : List Int).map Qac)
def Qrw (y22 : (List Int)) (x29 : Int) (x33 : Int) : Slot := .own 1 (((y22.set x29.toNat x33).set x29.toNat 0 : List Int).map Qac)
set_option maxRecDepth 100000 in
set_option maxHeartbeats 4000000 in
theorem Qi9 (N : Nat) (p0 : (List GNode)) (p1 : (List Int)) (p2 : Int) (r : ((List Bool) × Int × Int)) (h : Qfs N p0 p1 p2 = some r) : Spec Try.prog 22 [(.dat 4 (p0.map Qad)), (.dat 1 (p1.map Qac)), (I p2)] [] (.tup [(.dat 1 ((r.1 : List Bool).map Qa2)), (I (r.2.1)), (I (r.2.2))]) [] := by
  refine Qai Try.func22 rfl 0 (nle rfl) (fun X φ0 w0 hφ0 => ?_)
  unfold Qfs at h
  refine Qcm ?_
  refine wx tbk [] trivial ?_
  refine wsq ?_
  obtain ⟨x6, hf5, h⟩ := bno h
  refine wx tbk [(2, rp [fu 67, (.tmp 14, (Qhc p0)), (.tmp 15, (Qkt p1))] (I x6))] ⟨apc (first := []) (cap := []) (vs := [(Qhc p0), (Qkt p1)]) rfl Qwa (Qj3 N p0 p1 _ hf5) rfl rfl (nlc (nld Qab _) (nlc (nld Qaa _) nl0)) nll rfl, trivial⟩ ?_
  refine wx tbk [] trivial ?_
  rcases bft ((x6 != 0)) with hc7 | hc7
  ·replace h := Qau hc7 h
   refine wft hc7 (by kernel_rfl) ?_
   refine wx tbk [] trivial ?_
   refine wmr (mto (n := 74) (l' := [(6, Qrz), (7, I 0), (8, I x6)]) (own' := []) [(6, nilS), (7, I 0), (8, I x6)] [] [] hφ0 (pc (.nil _) (pc rwl (pc rwl pn))) qn) ?_
   refine Qah ?_
   refine Qak ?_
   obtain rfl := osi h
   exact ⟨_, Mor.rfl, Qcw (vs := [Qrz, I 0, I x6]) ⟨rot (by kernel_rfl), rot (by kernel_rfl), rot (by kernel_rfl), trivial⟩ rfl (NLt.tup _ (nlc (nld Qc2 _) (nlc nll (nlc nll nl0)))) (by kernel_rfl) Qbw⟩
  ·replace h := Qav hc7 h
   refine wfn hc7 (by kernel_rfl) ?_
   refine Qag ?_
   refine thn ?_
   refine wsq ?_
   obtain ⟨x9, hf8, h⟩ := bno h
   refine wx tbk [(1, rp [fu 68, (.tmp 20, I p2), ci 0, ci 100000000000] (B x9))] ⟨apc (first := []) (cap := []) (vs := [I p2, I 0, I 100000000000]) rfl Qdv (Qaw N p2 0 100000000000 _ hf8) rfl rfl (nlc nll (nlc nll (nlc nll nl0))) nll rfl, trivial⟩ ?_
   rcases bft ((!x9)) with hc10 | hc10
   ·replace h := Qau hc10 h
    refine wft hc10 (by kernel_rfl) ?_
    refine wx tbk [] trivial ?_
    refine wmr (mto (n := 74) (l' := [(6, Qrz), (7, I 0), (8, I 2)]) (own' := []) [(6, nilS), (7, I 0), (8, I 2)] [] [] hφ0 (pc (.nil _) (pc rwl (pc rwl pn))) qn) ?_
    refine Qah ?_
    refine Qak ?_
    obtain rfl := osi h
    exact ⟨_, Mor.rfl, Qcw (vs := [Qrz, I 0, I 2]) ⟨rot (by kernel_rfl), rot (by kernel_rfl), rot (by kernel_rfl), trivial⟩ rfl (NLt.tup _ (nlc (nld Qc2 _) (nlc nll (nlc nll nl0)))) (by kernel_rfl) Qbw⟩
   ·replace h := Qav hc10 h
    refine wfn hc10 (by kernel_rfl) ?_
    refine Qag ?_
    refine thn ?_
    obtain ⟨hm11, h⟩ := cko h
    obtain ⟨hm12, h⟩ := cko h
    refine wxd tbk [(1, rp [(.tmp 23, (Qhc p0))] (I ((p0.length : Int)))), (2, ⟨[(.tmp 24, (I ((p0.length : Int)))), (.tmp 24, (I ((p0.length : Int))))], [(0, .unused)], (.own 0 1 (0) ((p0.length : Int).toNat)), [(0, (z20_2 p0))], false⟩), (4, rp [(.tmp 26, (Qhc p0))] (I ((p0.length : Int)))), (5, ⟨[(.tmp 27, (I ((p0.length : Int)))), (.tmp 27, (I ((p0.length : Int))))], [(1, .unused)], (.own 1 1 (0) ((p0.length : Int).toNat)), [(1, (z20_3 p0))], false⟩)] ⟨alm (c := Qad) (l := p0) (aln rfl Try.underlying31 rfl), Qfz rfl Try.underlying26 te4 tz4 rfl (Qre hm11) rfl (Qrd hm11) (Qmk hm11) (Qjm Qa2 rfl), alm (c := Qad) (l := p0) (aln rfl Try.underlying31 rfl), Qfz rfl Try.underlying23 te3 tz3 rfl (Qre hm12) rfl (Qrd hm12) (Qmk hm12) (Qjm Qac rfl), trivial⟩ ?_
    obtain ⟨k15, hk_k15, h⟩ := jko h
    refine wjn (τ := Int × (List Bool)) (fun t => k15 t = some r) (fun ⟨y13, y14⟩ => ⟨mk 74 [(6, (.own 0 1 (0) ((p0.length : Int).toNat))), (7, I y13)], [(.own 1 ((y14 : List Bool).map Qa2))]⟩) (fun t h => ?_) ?_
    ·subst hk_k15
     obtain ⟨y13, y14⟩ := t
     refine wx tbk [] trivial ?_
     obtain ⟨hz16, h⟩ := cko h
     refine wmr (Ql1 (n := 74) (l' := [(6, (Qry y14 p0)), (7, I y13), (8, I 0)]) 0 [(6, (.own 0 1 (0) ((p0.length : Int).toNat))), (7, I y13), (8, I 0)] (by kernel_rfl) (by kernel_rfl) (by kernel_rfl) ⟨rfl, (Qjt hz16), rfl, (.same _), rfl, (.same _), trivial⟩ rfl) ?_
     refine wmr (mto (n := 74) (l' := [(6, (Qry y14 p0)), (7, I y13), (8, I 0)]) (own' := []) [(6, (Qry y14 p0)), (7, I y13), (8, I 0)] [] [] hφ0 (pc (.rn (.plain _ (nld Qc2 _))) (pc rwl (pc rwl pn))) qn) ?_
     refine Qah ?_
     obtain rfl := osi h
     exact ⟨_, Mor.rfl, Qcw (vs := [(Qry y14 p0), I y13, I 0]) ⟨rot (by kernel_rfl), rot (by kernel_rfl), rot (by kernel_rfl), trivial⟩ rfl (NLt.tup _ (nlc (nld Qc2 _) (nlc nll (nlc nll nl0)))) (by kernel_rfl) Qbw⟩
    ·skip
     obtain ⟨x18, hf17, h⟩ := bno h
     refine wx tbk [(1, rp [fu 69, (.tmp 29, (Qhc p0)), fu 70] (Qhj x18)), (2, rp [(.tmp 30, (Qhj x18))] (I ((x18.length : Int))))] ⟨Qas (first := []) (cap := []) (vs := [(Qhc p0), (.fn (.func 70) [] [])]) (σr := []) (σr' := []) (res' := (Qhj x18)) [] rfl enter69 (Qgu N p0 _ hf17) rfl (Qcn (rnc (.plain _ (nld Qab _)) (rnc (.plain _ (NLt.fn _ _ _ nl0 nl0)) rn0))) Qan Qan (.plain _ (nld Qaa _)) rfl rfl rfl, alm (c := Qac) (l := x18) (aln rfl Try.underlying23 rfl), trivial⟩ ?_
     refine Qaf ?_
     refine wmr (mto (n := 74) (l' := [(0, (Qhc p0)), (1, (Qkt p1)), (2, I p2), (6, (.own 0 1 (0) ((p0.length : Int).toNat))), (7, I 0), (10, (.own 1 1 (0) ((p0.length : Int).toNat))), (30, (Qhj x18)), (31, (I ((x18.length : Int)))), (32, I 0)]) (own' := [(.own 1 (((List.replicate (p0.length : Int).toNat false) : List Bool).map Qa2)), (.own 1 (((List.replicate (p0.length : Int).toNat 0) : List Int).map Qac))]) [(0, (Qhc p0)), (1, (Qkt p1)), (2, I p2), (6, (.own 0 1 (0) ((p0.length : Int).toNat))), (7, I 0), (10, (.own 1 1 (0) ((p0.length : Int).toNat))), (30, (Qhj x18)), (31, (I ((x18.length : Int)))), (32, I 0)] [0, 1] [(z20_2 p0), (z20_3 p0)] hφ0 (pc (.rn (.plain _ (nld Qab _))) (pc (.rn (.plain _ (nld Qaa _))) (pc rwl (pc (.rn (Qae rfl)) (pc rwl (pc (.rn (Qae rfl)) (pc (.rn (.plain _ (nld Qaa _))) (pc rwl (pc rwl pn))))))))) (qc (spr Qc2) (qc (spr Qaa) qn))) ?_
     refine Qb0 (τ := Int × Int × (List Bool) × (List Int)) (fun n t => Qch N p0 p1 p2 k15 x18 n t.1 t.2.1 t.2.2.1 t.2.2.2 = some r) (fun ⟨y19, y20, y21, y22⟩ => ⟨mk 74 [(0, (Qhc p0)), (1, (Qkt p1)), (2, I p2), (6, (.own 0 1 (0) ((p0.length : Int).toNat))), (7, I y19), (10, (.own 1 1 (0) ((p0.length : Int).toNat))), (30, (Qhj x18)), (31, (I ((x18.length : Int)))), (32, I y20)], [(Qjz y21), (Qrx y22)]⟩) (fun t h => by rw [Qch] at h; cases h) (fun n27 ih t h => ?_) N (0, 0, List.replicate (p0.length : Int).toNat false, List.replicate (p0.length : Int).toNat 0) h
     obtain ⟨y19, y20, y21, y22⟩ := t
     rw [Qch] at h
     skip
     refine wx tbk [] trivial ?_
     refine wsq ?_
     rcases bft ((decide (y20 < (x18.length : Int)))) with hc28 | hc28
     ·replace h := Qau hc28 h
      refine wft hc28 (by kernel_rfl) ?_
      refine Qag ?_
      refine thn ?_
      refine wsq ?_
      refine Qaf ?_
      obtain ⟨x29, hg30, h⟩ := bno h
      obtain ⟨hi31, hj32⟩ := gsm hg30
      refine wx tbk [(0, rp [(.tmp 30, (Qhj x18)), (.tmp 32, I y20)] (.dptr (Qac (x29)) 0))] ⟨aid rfl Try.underlying23 ti3 rfl rfl hi31 (mgt Qac hj32) rfl, trivial⟩ ?_
      refine wsq ?_
      obtain ⟨x33, hg34, h⟩ := bno h
      obtain ⟨hi35, hj36⟩ := gsm hg34
      refine wx tbk [(2, rp [(.tmp 36, (Qkt p1)), (.tmp 37, I x29)] (.dptr (Qac (x33)) 0))] ⟨aid rfl Try.underlying23 ti3 rfl rfl hi35 (mgt Qac hj36) rfl, trivial⟩ ?_
      rcases bft ((x33 == 0)) with hc37 | hc37
      ·replace h := Qau hc37 h
       refine wft hc37 (by kernel_rfl) ?_
       refine Qbc ?_
       refine Qam ?_
       refine Qbb rfl ?_
       refine thn ?_
       refine wx1 tbk [] trivial ?_
       refine thn ?_
       exact arm (mto (n := 74) [(0, (Qhc p0)), (1, (Qkt p1)), (2, I p2), (6, (.own 0 1 (0) ((p0.length : Int).toNat))), (7, I y19), (10, (.own 1 1 (0) ((p0.length : Int).toNat))), (30, (Qhj x18)), (31, (I ((x18.length : Int)))), (32, (I (w64 (y20 + 1))))] [0, 1] [(Qjz y21), (Qrx y22)] hφ0 (pc (.rn (.plain _ (nld Qab _))) (pc (.rn (.plain _ (nld Qaa _))) (pc rwl (pc (.rn (Qae rfl)) (pc rwl (pc (.rn (Qae rfl)) (pc (.rn (.plain _ (nld Qaa _))) (pc rwl (pc rwl pn))))))))) (qc (spr Qc2) (qc (spr Qaa) qn))) (ih (y19, w64 (y20 + 1), y21, y22) h)
      ·replace h := Qav hc37 h
       refine wfn hc37 (by kernel_rfl) ?_
       refine Qag ?_
       refine thn ?_
       obtain ⟨hi38, h⟩ := cko h
       obtain ⟨hi38a, hi38b⟩ := Qa3 hi38
       obtain ⟨x39, hg40, h⟩ := bno h
       refine wx tbk [(4, rp [(.tmp 43, (Qkt p1)), (.tmp 44, I x29)] (.dptr (Qac (x33)) 0)), (6, rb [(.tmp 41, (.own 1 1 (0) ((p0.length : Int).toNat))), (.tmp 42, I x29)] [(1, (Qrx y22))] (.ref 1 1 (x29.toNat) 0)), (7, ⟨[(.tmp 47, (.ref 1 1 (x29.toNat) 0)), (.tmp 46, I x33)], [(1, (Qrx y22))], .any, [(1, (Qh6 y22 x29 x33))], false⟩)] ⟨aid rfl Try.underlying23 ti3 rfl rfl hi35 (mgt Qac hj36) rfl, aio rfl Try.underlying23 ti3 (odt hi38a) (odt hi38b) (Nat.zero_add _), ast rfl ti3 (by rfl) (mgt Qac hg40) (nle rfl) (Qdt Qac rfl), trivial⟩ ?_
       obtain ⟨x42, hf41, h⟩ := bno h
       refine wx tbk [(2, ⟨[fu 71, (.tmp 48, (Qhc p0)), (.tmp 49, (.own 1 1 (0) ((p0.length : Int).toNat)))], [(1, (Qh6 y22 x29 x33))], (Qi8 x42), [(1, (Qh6 y22 x29 x33))], false⟩)] ⟨Qas (first := []) (cap := []) (vs := [(Qhc p0), (.own 1 1 (0) (((p0.length : Int).toNat)))]) (σr := [(Qh6 y22 x29 x33)]) (σr' := [(Qh6 y22 x29 x33)]) (res' := (Qi8 x42)) [1] rfl Qv8 (Qio N p0 ((p0.length : Int).toNat) (y22.set x29.toNat x33) _ hf41) rfl (Qcn (rnc (.plain _ (nld Qab _)) (rnc (Qdo rfl) rn0))) (slc (Qbg Qaa) Qan) (slc (Qbg Qaa) Qan) (.plain _ (nld Qaa _)) rfl rfl rfl, trivial⟩ ?_
       obtain ⟨k43, hk_k43, h⟩ := jko h
       refine wjn (τ := Unit) (fun t => k43 t = some r) (fun _ => ⟨mk 74 [(0, (Qhc p0)), (1, (Qkt p1)), (2, I p2), (6, (.own 0 1 (0) ((p0.length : Int).toNat))), (10, (.own 1 1 (0) ((p0.length : Int).toNat))), (12, I x29), (13, (Qi8 x42)), (30, (Qhj x18)), (31, (I ((x18.length : Int)))), (32, I y20)], [(Qjz y21), (Qh6 y22 x29 x33)]⟩) (fun t h => ?_) ?_
       ·subst hk_k43
        obtain ⟨x44, hg45, h⟩ := bno h
        obtain ⟨hi46, hj47⟩ := gsm hg45
        obtain ⟨hi48, h⟩ := cko h
        obtain ⟨hi48a, hi48b⟩ := Qa3 hi48
        obtain ⟨x49, hg50, h⟩ := bno h
        refine wx1 tbk [(3, rp [(.tmp 67, (Qi8 x42)), ci 0] (.dptr (Qac (x44)) 0)), (5, rb [(.tmp 65, (.own 0 1 (0) ((p0.length : Int).toNat))), (.tmp 66, I x29)] [(0, (Qjz y21))] (.ref 0 1 (x29.toNat) 0)), (6, ⟨[(.tmp 70, (.ref 0 1 (x29.toNat) 0)), cb true], [(0, (Qjz y21))], .any, [(0, (.own 1 ((y21.set x29.toNat true : List Bool).map Qa2)))], false⟩)] ⟨aid rfl Try.underlying23 ti3 rfl rfl hi46 (mgt Qac hj47) rfl, aio rfl Try.underlying26 ti4 (odt hi48a) (odt hi48b) (Nat.zero_add _), ast rfl ti4 (by rfl) (mgt Qa2 hg50) (nle rfl) (Qdt Qa2 rfl), trivial⟩ ?_
        refine bln ?_
        refine thn ?_
        refine wx1 tbk [] trivial ?_
        refine thn ?_
        exact arm (mto (n := 74) [(0, (Qhc p0)), (1, (Qkt p1)), (2, I p2), (6, (.own 0 1 (0) ((p0.length : Int).toNat))), (7, I x44), (10, (.own 1 1 (0) ((p0.length : Int).toNat))), (30, (Qhj x18)), (31, (I ((x18.length : Int)))), (32, (I (w64 (y20 + 1))))] [0, 1] [(.own 1 ((y21.set x29.toNat true : List Bool).map Qa2)), (Qh6 y22 x29 x33)] hφ0 (pc (.rn (.plain _ (nld Qab _))) (pc (.rn (.plain _ (nld Qaa _))) (pc rwl (pc (.rn (Qae rfl)) (pc rwl (pc (.rn (Qae rfl)) (pc (.rn (.plain _ (nld Qaa _))) (pc rwl (pc rwl pn))))))))) (qc (spr Qc2) (qc (spr Qaa) qn))) (ih (x44, w64 (y20 + 1), y21.set x29.toNat true, y22.set x29.toNat x33) h)
       ·skip
        obtain ⟨x52, hf51, h⟩ := bno h
        rcases bft ((decide (x52 ≥ 0))) with hb53 | hb53
        ·replace h := Qau hb53 h
         refine wx tbk [(2, rp [fu 72, (.tmp 51, (Qhc p0)), (.tmp 52, (Qi8 x42))] (I x52)), (4, rp [(.tmp 54, (B ((decide (x52 ≥ 0)))))] (B true))] ⟨apc (first := []) (cap := []) (vs := [(Qhc p0), (Qi8 x42)]) rfl Qqt (Qfh N p0 x42 _ hf51) rfl rfl (nlc (nld Qab _) (nlc (nld Qaa _) nl0)) nll rfl, asb hb53 (amv rfl), trivial⟩ ?_
         refine Qcl (by kernel_rfl) ?_
         obtain ⟨hi54, h⟩ := cko h
         obtain ⟨hi54a, hi54b⟩ := Qa3 hi54
         obtain ⟨x55, hg56, h⟩ := bno h
         refine wx tbk [(2, rb [(.tmp 62, (.own 1 1 (0) ((p0.length : Int).toNat))), (.tmp 63, I x29)] [(1, (Qh6 y22 x29 x33))] (.ref 1 1 (x29.toNat) 0)), (3, ⟨[(.tmp 64, (.ref 1 1 (x29.toNat) 0)), ci 0], [(1, (Qh6 y22 x29 x33))], .any, [(1, (Qrw y22 x29 x33))], false⟩)] ⟨aio rfl Try.underlying23 ti3 (odt hi54a) (odt hi54b) (Nat.zero_add _), ast rfl ti3 (by rfl) (mgt Qac hg56) (nle rfl) (Qdt Qac rfl), trivial⟩ ?_
         refine Qbc ?_
         refine Qam ?_
         refine Qbb rfl ?_
         refine thn ?_
         refine wx1 tbk [] trivial ?_
         refine thn ?_
         exact arm (mto (n := 74) [(0, (Qhc p0)), (1, (Qkt p1)), (2, I p2), (6, (.own 0 1 (0) ((p0.length : Int).toNat))), (7, I y19), (10, (.own 1 1 (0) ((p0.length : Int).toNat))), (30, (Qhj x18)), (31, (I ((x18.length : Int)))), (32, (I (w64 (y20 + 1))))] [0, 1] [(Qjz y21), (Qrw y22 x29 x33)] hφ0 (pc (.rn (.plain _ (nld Qab _))) (pc (.rn (.plain _ (nld Qaa _))) (pc rwl (pc (.rn (Qae rfl)) (pc rwl (pc (.rn (Qae rfl)) (pc (.rn (.plain _ (nld Qaa _))) (pc rwl (pc rwl pn))))))))) (qc (spr Qc2) (qc (spr Qaa) qn))) (ih (y19, w64 (y20 + 1), y21, (y22.set x29.toNat x33).set x29.toNat 0) h)
        ·replace h := Qav hb53 h
         obtain ⟨x57, hg58, h⟩ := bno h
         obtain ⟨hi59, hj60⟩ := gsm hg58
         refine wx tbk [(2, rp [fu 72, (.tmp 51, (Qhc p0)), (.tmp 52, (Qi8 x42))] (I x52)), (4, rp [(.tmp 54, (B ((decide (x52 ≥ 0)))))] (B false)), (6, rp [(.tmp 55, B false), (.tmp 56, (Qi8 x42)), ci 0] (.dptr (Qac (x57)) 0))] ⟨apc (first := []) (cap := []) (vs := [(Qhc p0), (Qi8 x42)]) rfl Qqt (Qfh N p0 x42 _ hf51) rfl rfl (nlc (nld Qab _) (nlc (nld Qaa _) nl0)) nll rfl, asb hb53 (amv rfl), ag_ (aid rfl Try.underlying23 ti3 rfl rfl hi59 (mgt Qac hj60) rfl), trivial⟩ ?_
         rcases bft ((decide (x57 > p2))) with hc61 | hc61
         ·replace h := Qau hc61 h
          refine wft hc61 (by kernel_rfl) ?_
          obtain ⟨hi62, h⟩ := cko h
          obtain ⟨hi62a, hi62b⟩ := Qa3 hi62
          obtain ⟨x63, hg64, h⟩ := bno h
          refine wx tbk [(2, rb [(.tmp 62, (.own 1 1 (0) ((p0.length : Int).toNat))), (.tmp 63, I x29)] [(1, (Qh6 y22 x29 x33))] (.ref 1 1 (x29.toNat) 0)), (3, ⟨[(.tmp 64, (.ref 1 1 (x29.toNat) 0)), ci 0], [(1, (Qh6 y22 x29 x33))], .any, [(1, (Qrw y22 x29 x33))], false⟩)] ⟨aio rfl Try.underlying23 ti3 (odt hi62a) (odt hi62b) (Nat.zero_add _), ast rfl ti3 (by rfl) (mgt Qac hg64) (nle rfl) (Qdt Qac rfl), trivial⟩ ?_
          refine Qbc ?_
          refine Qam ?_
          refine Qbb rfl ?_
          refine thn ?_
          refine wx1 tbk [] trivial ?_
          refine thn ?_
          exact arm (mto (n := 74) [(0, (Qhc p0)), (1, (Qkt p1)), (2, I p2), (6, (.own 0 1 (0) ((p0.length : Int).toNat))), (7, I y19), (10, (.own 1 1 (0) ((p0.length : Int).toNat))), (30, (Qhj x18)), (31, (I ((x18.length : Int)))), (32, (I (w64 (y20 + 1))))] [0, 1] [(Qjz y21), (Qrw y22 x29 x33)] hφ0 (pc (.rn (.plain _ (nld Qab _))) (pc (.rn (.plain _ (nld Qaa _))) (pc rwl (pc (.rn (Qae rfl)) (pc rwl (pc (.rn (Qae rfl)) (pc (.rn (.plain _ (nld Qaa _))) (pc rwl (pc rwl pn))))))))) (qc (spr Qc2) (qc (spr Qaa) qn))) (ih (y19, w64 (y20 + 1), y21, (y22.set x29.toNat x33).set x29.toNat 0) h)
         ·replace h := Qav hc61 h
          refine wfn hc61 (by kernel_rfl) ?_
          refine Qag ?_
          refine thn ?_
          exact ⟨(), h, (mto (n := 74) [(0, (Qhc p0)), (1, (Qkt p1)), (2, I p2), (6, (.own 0 1 (0) ((p0.length : Int).toNat))), (10, (.own 1 1 (0) ((p0.length : Int).toNat))), (12, I x29), (13, (Qi8 x42)), (30, (Qhj x18)), (31, (I ((x18.length : Int)))), (32, I y20)] [0, 1] [(Qjz y21), (Qh6 y22 x29 x33)] hφ0 (pc (.rn (.plain _ (nld Qab _))) (pc (.rn (.plain _ (nld Qaa _))) (pc rwl (pc (.rn (Qae rfl)) (pc (.rn (Qae rfl)) (pc rwl (pc (.rn (.plain _ (nld Qaa _))) (pc (.rn (.plain _ (nld Qaa _))) (pc rwl (pc rwl pn)))))))))) (qc (spr Qc2) (qc (spr Qaa) qn)))⟩
     ·replace h := Qav hc28 h
      refine wfn hc28 (by kernel_rfl) ?_
      refine Qbc ?_
      refine Qam ?_
      refine Qam ?_
      refine Qbb rfl ?_
      refine thn ?_
      exact ⟨(y19, y21), h, (mto (n := 74) [(6, (.own 0 1 (0) ((p0.length : Int).toNat))), (7, I y19)] [0] [(Qjz y21)] hφ0 (pc (.rn (Qae rfl)) (pc rwl pn)) (qc (spr Qc2) qn))⟩
end Go.Proofs.Ytgdepcgbjjgnfaa
