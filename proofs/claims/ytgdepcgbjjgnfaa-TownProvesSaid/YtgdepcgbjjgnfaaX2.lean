/-
  Functions of the program: what they compute, as plain functions, and that they do. No conditions.
-/
import Derived.Test.YtgdepcgbjjgnfaaX1
namespace Go.Proofs.Ytgdepcgbjjgnfaa
open Go.RowKit
def Qhx (_N : Nat) (p0 : GNode) : Option Int :=
  some p0.Rank
set_option maxRecDepth 100000 in
set_option maxHeartbeats 4000000 in
theorem Qjs (N : Nat) (p0 : GNode) (r : Int) (h : Qhx N p0 = some r) : Spec Try.prog 70 [(.agg (Qa0 p0))] [] (I r) [] := by
  refine Qal Try.func70 rfl 0 (nle rfl) (fun X φ0 w0 hφ0 => ?_)
  unfold Qhx at h
  refine wx tbk [] trivial ?_
  refine wx tbk [] trivial ?_
  refine Qah ?_
  obtain rfl := osi h
  exact fend ⟨[I p0.Rank], ⟨rot (by kernel_rfl), trivial⟩, rfl⟩ nll
def Qcx (N : Nat) (p0 : Int) (p1 : Int) (p2 : (List GNode)) : Option Int :=
  (getI p2 p0).bind fun x2 =>
  (Qhx N x2).bind fun x7 =>
  (getI p2 p1).bind fun x8 =>
  (Qhx N x8).bind fun x13 =>
  some (w64 (x7 - x13))
def z25_0 : Slot := .own 1 [[(.fn (.func 70) [] [])]]
def Qv2 (p2 : (List GNode)) : AV := .dat 4 ((p2 : List GNode).map Qa0)
def z25_4 (x2 : GNode) : AV := .agg [(I (x2.Parent)), (I (x2.Loss)), (I (x2.Limit)), (I (x2.Rank))]
def z25_5 (x8 : GNode) : AV := .agg [(I (x8.Parent)), (I (x8.Loss)), (I (x8.Limit)), (I (x8.Rank))]
set_option maxRecDepth 100000 in
set_option maxHeartbeats 4000000 in
theorem Qdk (N : Nat) (p0 : Int) (p1 : Int) (p2 : (List GNode)) (r : Int) (h : Qcx N p0 p1 p2 = some r) : Spec Try.prog 96 [(I (p0)), (I (p1)), (.ref 0 1 (0) 0), (.ref 1 1 (0) 0)] [z25_0, (.own 1 [[(Qv2 p2)]])] (I (r)) [z25_0, (.own 1 [[(Qv2 p2)]])] := by
  refine Qal Try.func96 rfl 2 (nle rfl) (fun X φ0 w0 hφ0 => ?_)
  unfold Qcx at h
  refine Qc3 ?_
  refine wx tbk [] trivial ?_
  obtain ⟨x2, hg3, h⟩ := bno h
  obtain ⟨hi4, hj5⟩ := gsm hg3
  obtain ⟨x7, hf6, h⟩ := bno h
  obtain ⟨x8, hg9, h⟩ := bno h
  obtain ⟨hi10, hj11⟩ := gsm hg9
  obtain ⟨x13, hf12, h⟩ := bno h
  refine wxd tbk [(3, rp [(.tmp 8, (Qv2 p2)), (.tmp 9, I p0)] (.dptr (Qa0 (x2)) 0)), (5, rp [(.tmp 7, (.fn (.func 70) [] [])), (.tmp 11, (z25_4 x2))] (I x7)), (9, rp [(.tmp 14, (Qv2 p2)), (.tmp 15, I p1)] (.dptr (Qa0 (x8)) 0)), (11, rp [(.tmp 13, (.fn (.func 70) [] [])), (.tmp 17, (z25_5 x8))] (I x13))] ⟨aid rfl Try.underlying30 Qjx rfl rfl hi4 (mgt Qa0 hj5) rfl, apc (first := []) (cap := []) (vs := [(z25_4 x2)]) rfl enter70 (Qjs N x2 _ hf6) rfl rfl (nlc (NLt.agg _ (nlc nll (nlc nll (nlc nll (nlc nll nl0))))) nl0) nll rfl, aid rfl Try.underlying30 Qjx rfl rfl hi10 (mgt Qa0 hj11) rfl, apc (first := []) (cap := []) (vs := [(z25_5 x8)]) rfl enter70 (Qjs N x8 _ hf12) rfl rfl (nlc (NLt.agg _ (nlc nll (nlc nll (nlc nll (nlc nll nl0))))) nl0) nll rfl, trivial⟩ ?_
  refine wmr (mto (n := 20) (l' := [(6, (I (w64 (x7 - x13))))]) (own' := [z25_0, (.own 1 [[(Qv2 p2)]])]) [(6, (I (w64 (x7 - x13))))] [0, 1] [z25_0, (.own 1 [[(Qv2 p2)]])] hφ0 (pc rwl pn) (qc (spb (lc (.rn (Qay rn0 rn0)) ln)) (qc (spb (lc (.rn (.plain _ (nld Qae _))) ln)) qn))) ?_
  refine Qah ?_
  obtain rfl := osi h
  exact ⟨_, Mor.rfl, Qdi (vs := [(I (w64 (x7 - x13)))]) ⟨rot (by kernel_rfl), trivial⟩ rfl (NLt.of0 nll) (by kernel_rfl) (Qau (Qbt (nlc (NLt.of0 (NLt.fn _ _ _ nl0 nl0)) nl0)) (Qau (Qbt (nlc (NLt.of0 (nld Qae _)) nl0)) Qb0))⟩
def Qbd (N : Nat) (p0 : Nat) (p1 : Int) (p4 : (List GNode)) (k9 : (List Int) → Option (List Int)) : Nat → Int → (List Int) → Option (List Int)
  | 0, _, _ => none
  | n14 + 1, y10, y11 =>
    Qbr (fun _ =>
      chk (decide (0 ≤ w64 (y10 - 1)) && decide ((w64 (y10 - 1)).toNat < p0)) <|
      (y11[(w64 (y10 - 1)).toNat]?).bind fun x17 =>
      chk (decide (0 ≤ y10) && decide (y10.toNat < p0)) <|
      (y11[y10.toNat]?).bind fun x20 =>
      chk (decide (0 ≤ y10) && decide (y10.toNat < p0)) <|
      (y11[y10.toNat]?).bind fun _ =>
      chk (decide (0 ≤ w64 (y10 - 1)) && decide ((w64 (y10 - 1)).toNat < p0)) <|
      ((y11.set y10.toNat x17)[(w64 (y10 - 1)).toNat]?).bind fun _ =>
      Qbd N p0 p1 p4 k9 n14 (w64 (y10 - 1)) ((y11.set y10.toNat x17).set ((w64 (y10 - 1)).toNat) x20)) fun k15 : Unit → Option (List Int) =>
    bif (decide (y10 > p1)) then
     chk (decide (0 ≤ y10) && decide (y10.toNat < p0)) <|
     (y11[y10.toNat]?).bind fun x30 =>
     chk (decide (0 ≤ w64 (y10 - 1)) && decide ((w64 (y10 - 1)).toNat < p0)) <|
     (y11[(w64 (y10 - 1)).toNat]?).bind fun x33 =>
     (Qcx N x30 x33 p4).bind fun x36 =>
     bif (decide (x36 < 0)) then
      k15 ()
     else
      k9 (y11)
    else
     k9 (y11)
def Qbe (N : Nat) (p0 : Nat) (p1 : Int) (p2 : Int) (p4 : (List GNode)) : Nat → Int → (List Int) → Option (List Int)
  | 0, _, _ => none
  | n6 + 1, y2, y3 =>
    bif (decide (y2 < p2)) then
     Qbr (fun y8 =>
       Qbe N p0 p1 p2 p4 n6 (w64 (y2 + 1)) y8) fun k9 : (List Int) → Option (List Int) =>
     Qbd N p0 p1 p4 k9 N y2 y3
    else
     some y3
def Qc2 (N : Nat) (p0 : Nat) (p1 : Int) (p2 : Int) (p3 : (List Int)) (p4 : (List GNode)) : Option (List Int) :=
  Qbe N p0 p1 p2 p4 N (w64 (p1 + 1)) p3
def Qk7 : AV := .fn (.func 96) [] [(.ref 1 1 (0) 0), (.ref 2 1 (0) 0)]
def z24_1 (p3 : (List Int)) : Slot := .own 1 ((p3 : List Int).map Qab)
def Qim : Slot := .own 1 [[(.fn (.func 70) [] [])]]
def Qil (p4 : (List GNode)) : AV := .dat 4 ((p4 : List GNode).map Qa0)
def Qxr (y3 : (List Int)) : Slot := .own 1 ((y3 : List Int).map Qab)
def Qh2 (y11 : (List Int)) : Slot := .own 1 ((y11 : List Int).map Qab)
set_option maxRecDepth 100000 in
set_option maxHeartbeats 4000000 in
theorem Qeh (N : Nat) (p0 : Nat) (p1 : Int) (p2 : Int) (p3 : (List Int)) (p4 : (List GNode)) (r : (List Int)) (h : Qc2 N p0 p1 p2 p3 p4 = some r) : Spec Try.prog 114 [(.own 0 1 (0) (p0)), (I (p1)), (I (p2)), Qk7] [(z24_1 p3), Qim, (.own 1 [[(Qil p4)]])] (.tup []) [(.own 1 ((r : List Int).map Qab)), Qim, (.own 1 [[(Qil p4)]])] := by
  refine Qal Try.func114 rfl 3 (nle rfl) (fun X φ0 w0 hφ0 => ?_)
  unfold Qc2 at h
  refine Qc3 ?_
  refine wx tbk [] trivial ?_
  refine Qai ?_
  refine wmr (mto (n := 53) (l' := [(0, (.own 0 1 (0) (p0))), (1, I p1), (2, I p2), (3, Qk7), (8, (I ((w64 (p1 + 1)))))]) (own' := [(z24_1 p3), Qim, (.own 1 [[(Qil p4)]])]) [(0, (.own 0 1 (0) (p0))), (1, I p1), (2, I p2), (3, Qk7), (8, (I (w64 (p1 + 1))))] [0, 1, 2] [(z24_1 p3), Qim, (.own 1 [[(Qil p4)]])] hφ0 (pc (.rn (Qaf rfl)) (pc rwl (pc rwl (pc (.rn (Qay rn0 (rnc (rqr rfl) (rnc (rqr rfl) rn0)))) (pc rwl pn))))) (qc (spr Qaa) (qc (spb (lc (.rn (Qay rn0 rn0)) ln)) (qc (spb (lc (.rn (.plain _ (nld Qae _))) ln)) qn)))) ?_
  refine Qbu (τ := Int × (List Int)) (fun n t => Qbe N p0 p1 p2 p4 n t.1 t.2 = some r) (fun ⟨y2, y3⟩ => ⟨mk 53 [(0, (.own 0 1 (0) (p0))), (1, I p1), (2, I p2), (3, Qk7), (8, I y2)], [(Qxr y3), Qim, (.own 1 [[(Qil p4)]])]⟩) (fun t h => by rw [Qbe] at h; cases h) (fun n6 ih t h => ?_) N (w64 (p1 + 1), p3) h
  obtain ⟨y2, y3⟩ := t
  rw [Qbe] at h
  skip
  refine wsq ?_
  refine wx tbk [] trivial ?_
  rcases bft ((decide (y2 < p2))) with hc7 | hc7
  ·replace h := Qar hc7 h
   refine wft hc7 (by kernel_rfl) ?_
   refine Qag ?_
   refine thn ?_
   obtain ⟨k9, hk_k9, h⟩ := jko h
   refine wjn (τ := (List Int)) (fun t => k9 t = some r) (fun y8 => ⟨mk 53 [(0, (.own 0 1 (0) (p0))), (1, I p1), (2, I p2), (3, Qk7), (8, I y2)], [(.own 1 ((y8 : List Int).map Qab)), Qim, (.own 1 [[(Qil p4)]])]⟩) (fun y8 h => ?_) ?_
   ·subst hk_k9
    refine wx1 tbk [] trivial ?_
    refine thn ?_
    exact arm (mto (n := 53) [(0, (.own 0 1 (0) (p0))), (1, I p1), (2, I p2), (3, Qk7), (8, (I (w64 (y2 + 1))))] [0, 1, 2] [(.own 1 ((y8 : List Int).map Qab)), Qim, (.own 1 [[(Qil p4)]])] hφ0 (pc (.rn (Qaf rfl)) (pc rwl (pc rwl (pc (.rn (Qay rn0 (rnc (rqr rfl) (rnc (rqr rfl) rn0)))) (pc rwl pn))))) (qc (spr Qaa) (qc (spb (lc (.rn (Qay rn0 rn0)) ln)) (qc (spb (lc (.rn (.plain _ (nld Qae _))) ln)) qn)))) (ih (w64 (y2 + 1), y8) h)
   ·skip
    refine Qai ?_
    refine wx tbk [] trivial ?_
    refine Qai ?_
    refine wmr (mto (n := 53) (l' := [(0, (.own 0 1 (0) (p0))), (1, I p1), (2, I p2), (3, Qk7), (8, I y2), (9, I y2)]) (own' := [(Qxr y3), Qim, (.own 1 [[(Qil p4)]])]) [(0, (.own 0 1 (0) (p0))), (1, I p1), (2, I p2), (3, Qk7), (8, I y2), (9, I y2)] [0, 1, 2] [(Qxr y3), Qim, (.own 1 [[(Qil p4)]])] hφ0 (pc (.rn (Qaf rfl)) (pc rwl (pc rwl (pc (.rn (Qay rn0 (rnc (rqr rfl) (rnc (rqr rfl) rn0)))) (pc rwl (pc rwl pn)))))) (qc (spr Qaa) (qc (spb (lc (.rn (Qay rn0 rn0)) ln)) (qc (spb (lc (.rn (.plain _ (nld Qae _))) ln)) qn)))) ?_
    refine Qbu (τ := Int × (List Int)) (fun n t => Qbd N p0 p1 p4 k9 n t.1 t.2 = some r) (fun ⟨y10, y11⟩ => ⟨mk 53 [(0, (.own 0 1 (0) (p0))), (1, I p1), (2, I p2), (3, Qk7), (8, I y2), (9, I y10)], [(Qh2 y11), Qim, (.own 1 [[(Qil p4)]])]⟩) (fun t h => by rw [Qbd] at h; cases h) (fun n14 ih t h => ?_) N (y2, y3) h
    obtain ⟨y10, y11⟩ := t
    rw [Qbd] at h
    skip
    obtain ⟨k15, hk_k15, h⟩ := jko h
    refine wjn (τ := Unit) (fun t => k15 t = some r) (fun _ => ⟨mk 53 [(0, (.own 0 1 (0) (p0))), (1, I p1), (2, I p2), (3, Qk7), (8, I y2), (9, I y10)], [(Qh2 y11), Qim, (.own 1 [[(Qil p4)]])]⟩) (fun t h => ?_) ?_
    ·subst hk_k15
     refine wsq ?_
     refine Qai ?_
     obtain ⟨hi16, h⟩ := cko h
     obtain ⟨hi16a, hi16b⟩ := Qa1 hi16
     obtain ⟨x17, hg18, h⟩ := bno h
     obtain ⟨hi19, h⟩ := cko h
     obtain ⟨hi19a, hi19b⟩ := Qa1 hi19
     obtain ⟨x20, hg21, h⟩ := bno h
     obtain ⟨hi22, h⟩ := cko h
     obtain ⟨hi22a, hi22b⟩ := Qa1 hi22
     obtain ⟨x23, hg24, h⟩ := bno h
     obtain ⟨hi25, h⟩ := cko h
     obtain ⟨hi25a, hi25b⟩ := Qa1 hi25
     obtain ⟨x26, hg27, h⟩ := bno h
     refine wy1 tbk [(8, rb [(.tmp 42, (.own 0 1 (0) (p0))), (.tmp 44, (I (w64 (y10 - 1))))] [(0, (Qh2 y11))] (.ref 0 1 ((w64 (y10 - 1)).toNat) 0)), (9, rb [(.tmp 45, (.ref 0 1 ((w64 (y10 - 1)).toNat) 0))] [(0, (Qh2 y11))] (I x17)), (12, rb [(.tmp 47, (.own 0 1 (0) (p0))), (.tmp 48, I y10)] [(0, (Qh2 y11))] (.ref 0 1 (y10.toNat) 0)), (13, rb [(.tmp 49, (.ref 0 1 (y10.toNat) 0))] [(0, (Qh2 y11))] (I x20)), (14, rb [(.tmp 37, (.own 0 1 (0) (p0))), (.tmp 38, I y10)] [(0, (Qh2 y11))] (.ref 0 1 (y10.toNat) 0)), (15, ⟨[(.tmp 51, (.ref 0 1 (y10.toNat) 0)), (.tmp 46, I x17)], [(0, (Qh2 y11))], .any, [(0, (.own 1 ((y11.set y10.toNat x17 : List Int).map Qab)))], false⟩), (16, rb [(.tmp 39, (.own 0 1 (0) (p0))), (.tmp 41, (I (w64 (y10 - 1))))] [(0, (.own 1 ((y11.set y10.toNat x17 : List Int).map Qab)))] (.ref 0 1 ((w64 (y10 - 1)).toNat) 0)), (17, ⟨[(.tmp 52, (.ref 0 1 ((w64 (y10 - 1)).toNat) 0)), (.tmp 50, I x20)], [(0, (.own 1 ((y11.set y10.toNat x17 : List Int).map Qab)))], .any, [(0, (.own 1 (((y11.set y10.toNat x17).set ((w64 (y10 - 1)).toNat) x20 : List Int).map Qab)))], false⟩)] ⟨aio rfl Try.underlying23 ti3 (odt hi16a) (odt hi16b) (Nat.zero_add _), ald rfl ti3 (by decide) (mgt Qab hg18) (nle rfl) rfl, aio rfl Try.underlying23 ti3 (odt hi19a) (odt hi19b) (Nat.zero_add _), ald rfl ti3 (by decide) (mgt Qab hg21) (nle rfl) rfl, aio rfl Try.underlying23 ti3 (odt hi22a) (odt hi22b) (Nat.zero_add _), ast rfl ti3 (by rfl) (mgt Qab hg24) (nle rfl) (Qel Qab rfl), aio rfl Try.underlying23 ti3 (odt hi25a) (odt hi25b) (Nat.zero_add _), ast rfl ti3 (by rfl) (mgt Qab hg27) (nle rfl) (Qel Qab rfl), trivial⟩ ?_
     refine bln ?_
     refine thn ?_
     refine wx1 tbk [] trivial ?_
     refine thn ?_
     exact arm (mto (n := 53) [(0, (.own 0 1 (0) (p0))), (1, I p1), (2, I p2), (3, Qk7), (8, I y2), (9, (I (w64 (y10 - 1))))] [0, 1, 2] [(.own 1 (((y11.set y10.toNat x17).set ((w64 (y10 - 1)).toNat) x20 : List Int).map Qab)), Qim, (.own 1 [[(Qil p4)]])] hφ0 (pc (.rn (Qaf rfl)) (pc rwl (pc rwl (pc (.rn (Qay rn0 (rnc (rqr rfl) (rnc (rqr rfl) rn0)))) (pc rwl (pc rwl pn)))))) (qc (spr Qaa) (qc (spb (lc (.rn (Qay rn0 rn0)) ln)) (qc (spb (lc (.rn (.plain _ (nld Qae _))) ln)) qn)))) (ih (w64 (y10 - 1), (y11.set y10.toNat x17).set ((w64 (y10 - 1)).toNat) x20) h)
    ·skip
     rcases bft ((decide (y10 > p1))) with hb28 | hb28
     ·replace h := Qar hb28 h
      obtain ⟨hi29, h⟩ := cko h
      obtain ⟨hi29a, hi29b⟩ := Qa1 hi29
      obtain ⟨x30, hg31, h⟩ := bno h
      obtain ⟨hi32, h⟩ := cko h
      obtain ⟨hi32a, hi32b⟩ := Qa1 hi32
      obtain ⟨x33, hg34, h⟩ := bno h
      obtain ⟨x36, hf35, h⟩ := bno h
      refine wxd tbk [(3, rp [(.tmp 20, (B ((decide (y10 > p1)))))] (B true)), (7, rb [(.tmp 21, B true), (.tmp 23, (.own 0 1 (0) (p0))), (.tmp 24, I y10)] [(0, (Qh2 y11))] (.ref 0 1 (y10.toNat) 0)), (8, rb [(.tmp 21, B true), (.tmp 25, (.ref 0 1 (y10.toNat) 0))] [(0, (Qh2 y11))] (I x30)), (12, rb [(.tmp 21, B true), (.tmp 27, (.own 0 1 (0) (p0))), (.tmp 29, (I (w64 (y10 - 1))))] [(0, (Qh2 y11))] (.ref 0 1 ((w64 (y10 - 1)).toNat) 0)), (13, rb [(.tmp 21, B true), (.tmp 30, (.ref 0 1 ((w64 (y10 - 1)).toNat) 0))] [(0, (Qh2 y11))] (I x33)), (14, ⟨[(.tmp 21, B true), (.tmp 22, Qk7), (.tmp 26, I x30), (.tmp 31, I x33)], [(1, Qim), (2, (.own 1 [[(Qil p4)]]))], I x36, [(1, Qim), (2, (.own 1 [[(Qil p4)]]))], false⟩)] ⟨asb hb28 (amv rfl), ag_ (aio rfl Try.underlying23 ti3 (odt hi29a) (odt hi29b) (Nat.zero_add _)), ag_ (ald rfl ti3 (by decide) (mgt Qab hg31) (nle rfl) rfl), ag_ (aio rfl Try.underlying23 ti3 (odt hi32a) (odt hi32b) (Nat.zero_add _)), ag_ (ald rfl ti3 (by decide) (mgt Qab hg34) (nle rfl) rfl), ag_ (Qat (first := []) (cap := [.ref 1 1 0 0, .ref 2 1 0 0]) (vs := [I x30, I x33]) (σr := [Qim, (.own 1 [[(Qil p4)]])]) (σr' := [Qim, (.own 1 [[(Qil p4)]])]) (res' := (I x36)) [1, 2] rfl Qqy (Qdk N x30 x33 p4 _ hf35) rfl (Qcq (rnc (.plain _ nll) (rnc (.plain _ nll) (rnc (Qbn rfl) (rnc (Qbn rfl) rn0))))) (slc (Qam (rnc (.plain _ (NLt.fn _ _ _ nl0 nl0)) rn0)) (slc (Qam (rnc (.plain _ (nld Qae _)) rn0)) Qap)) (slc (Qam (rnc (.plain _ (NLt.fn _ _ _ nl0 nl0)) rn0)) (slc (Qam (rnc (.plain _ (nld Qae _)) rn0)) Qap)) (.plain _ nll) rfl rfl rfl), trivial⟩ ?_
      rcases bft ((decide (x36 < 0))) with hc37 | hc37
      ·replace h := Qar hc37 h
       refine wft hc37 (by kernel_rfl) ?_
       refine Qag ?_
       refine thn ?_
       exact ⟨(), h, (mto (n := 53) [(0, (.own 0 1 (0) (p0))), (1, I p1), (2, I p2), (3, Qk7), (8, I y2), (9, I y10)] [0, 1, 2] [(Qh2 y11), Qim, (.own 1 [[(Qil p4)]])] hφ0 (pc (.rn (Qaf rfl)) (pc rwl (pc rwl (pc (.rn (Qay rn0 (rnc (rqr rfl) (rnc (rqr rfl) rn0)))) (pc rwl (pc rwl pn)))))) (qc (spr Qaa) (qc (spb (lc (.rn (Qay rn0 rn0)) ln)) (qc (spb (lc (.rn (.plain _ (nld Qae _))) ln)) qn))))⟩
      ·replace h := Qas hc37 h
       refine wfn hc37 (by kernel_rfl) ?_
       refine Qa3 ?_
       refine Qao ?_
       refine Qao ?_
       refine Qa2 rfl ?_
       refine bln ?_
       refine thn ?_
       exact ⟨(y11), h, (mto (n := 53) [(0, (.own 0 1 (0) (p0))), (1, I p1), (2, I p2), (3, Qk7), (8, I y2)] [0, 1, 2] [(Qh2 y11), Qim, (.own 1 [[(Qil p4)]])] hφ0 (pc (.rn (Qaf rfl)) (pc rwl (pc rwl (pc (.rn (Qay rn0 (rnc (rqr rfl) (rnc (rqr rfl) rn0)))) (pc rwl pn))))) (qc (spr Qaa) (qc (spb (lc (.rn (Qay rn0 rn0)) ln)) (qc (spb (lc (.rn (.plain _ (nld Qae _))) ln)) qn))))⟩
     ·replace h := Qas hb28 h
      refine wxd tbk [(3, rp [(.tmp 20, (B ((decide (y10 > p1)))))] (B false))] ⟨asb hb28 (amv rfl), trivial⟩ ?_
      refine Qdj (by kernel_rfl) ?_
      refine Qa3 ?_
      refine Qao ?_
      refine Qao ?_
      refine Qa2 rfl ?_
      refine bln ?_
      refine thn ?_
      exact ⟨(y11), h, (mto (n := 53) [(0, (.own 0 1 (0) (p0))), (1, I p1), (2, I p2), (3, Qk7), (8, I y2)] [0, 1, 2] [(Qh2 y11), Qim, (.own 1 [[(Qil p4)]])] hφ0 (pc (.rn (Qaf rfl)) (pc rwl (pc rwl (pc (.rn (Qay rn0 (rnc (rqr rfl) (rnc (rqr rfl) rn0)))) (pc rwl pn))))) (qc (spr Qaa) (qc (spb (lc (.rn (Qay rn0 rn0)) ln)) (qc (spb (lc (.rn (.plain _ (nld Qae _))) ln)) qn))))⟩
  ·replace h := Qas hc7 h
   refine wfn hc7 (by kernel_rfl) ?_
   refine Qa3 ?_
   refine Qao ?_
   refine Qao ?_
   refine Qa2 rfl ?_
   obtain rfl := osi h
   exact ⟨_, (mto (n := 53) (l' := []) (own' := [(Qxr y3), Qim, (.own 1 [[(Qil p4)]])]) [] [0, 1, 2] [(Qxr y3), Qim, (.own 1 [[(Qil p4)]])] hφ0 pn (qc (spr Qaa) (qc (spb (lc (.rn (Qay rn0 rn0)) ln)) (qc (spb (lc (.rn (.plain _ (nld Qae _))) ln)) qn)))), Qdi (vs := []) trivial rfl (NLt.tup _ nl0) (by kernel_rfl) (Qau (Qd9 Qaa _) (Qau (Qbt (nlc (NLt.of0 (NLt.fn _ _ _ nl0 nl0)) nl0)) (Qau (Qbt (nlc (NLt.of0 (nld Qae _)) nl0)) Qb0)))⟩
def Qbq (N : Nat) (p0 : Nat) (p1 : Int) (p2 : Int) (p3 : Int) : Nat → Int → (List Int) → Option (List Int)
  | 0, _, _ => none
  | n6 + 1, y2, y3 =>
    bif (decide (y2 < p3)) then
     chk (decide (0 ≤ w64 (p2 + y2)) && decide ((w64 (p2 + y2)).toNat < p0)) <|
     (y3[(w64 (p2 + y2)).toNat]?).bind fun x9 =>
     chk (decide (0 ≤ w64 (p1 + y2)) && decide ((w64 (p1 + y2)).toNat < p0)) <|
     (y3[(w64 (p1 + y2)).toNat]?).bind fun x12 =>
     chk (decide (0 ≤ w64 (p1 + y2)) && decide ((w64 (p1 + y2)).toNat < p0)) <|
     (y3[(w64 (p1 + y2)).toNat]?).bind fun _ =>
     chk (decide (0 ≤ w64 (p2 + y2)) && decide ((w64 (p2 + y2)).toNat < p0)) <|
     ((y3.set ((w64 (p1 + y2)).toNat) x9)[(w64 (p2 + y2)).toNat]?).bind fun _ =>
     Qbq N p0 p1 p2 p3 n6 (w64 (y2 + 1)) ((y3.set ((w64 (p1 + y2)).toNat) x9).set ((w64 (p2 + y2)).toNat) x12)
    else
     some y3
def Qcv (N : Nat) (p0 : Nat) (p1 : Int) (p2 : Int) (p3 : Int) (p4 : (List Int)) (_p5 : (List GNode)) : Option (List Int) :=
  Qbq N p0 p1 p2 p3 N 0 p4
def z29_0 (p4 : (List Int)) : Slot := .own 1 ((p4 : List Int).map Qab)
def Qri : Slot := .own 1 [[(.fn (.func 70) [] [])]]
def Qrh (p5 : (List GNode)) : AV := .dat 4 ((p5 : List GNode).map Qa0)
def Qlm (y3 : (List Int)) : Slot := .own 1 ((y3 : List Int).map Qab)
def Qxq (y3 : (List Int)) (p1 : Int) (y2 : Int) (x9 : Int) : Slot := .own 1 ((y3.set ((w64 (p1 + y2)).toNat) x9 : List Int).map Qab)
set_option maxRecDepth 100000 in
set_option maxHeartbeats 4000000 in
theorem Qdv (N : Nat) (p0 : Nat) (p1 : Int) (p2 : Int) (p3 : Int) (p4 : (List Int)) (p5 : (List GNode)) (r : (List Int)) (h : Qcv N p0 p1 p2 p3 p4 p5 = some r) : Spec Try.prog 118 [(.own 0 1 (0) (p0)), (I (p1)), (I (p2)), (I (p3)), (.fn (.func 96) [] [(.ref 1 1 (0) 0), (.ref 2 1 (0) 0)])] [(z29_0 p4), Qri, (.own 1 [[(Qrh p5)]])] (.tup []) [(.own 1 ((r : List Int).map Qab)), Qri, (.own 1 [[(Qrh p5)]])] := by
  refine Qal Try.func118 rfl 3 (nle rfl) (fun X φ0 w0 hφ0 => ?_)
  unfold Qcv at h
  refine Qc3 ?_
  refine wx tbk [] trivial ?_
  refine Qai ?_
  refine wmr (mto (n := 38) (l' := [(0, (.own 0 1 (0) (p0))), (1, I p1), (2, I p2), (3, I p3), (10, I 0)]) (own' := [(z29_0 p4), Qri, (.own 1 [[(Qrh p5)]])]) [(0, (.own 0 1 (0) (p0))), (1, I p1), (2, I p2), (3, I p3), (10, I 0)] [0, 1, 2] [(z29_0 p4), Qri, (.own 1 [[(Qrh p5)]])] hφ0 (pc (.rn (Qaf rfl)) (pc rwl (pc rwl (pc rwl (pc rwl pn))))) (qc (spr Qaa) (qc (spb (lc (.rn (Qay rn0 rn0)) ln)) (qc (spb (lc (.rn (.plain _ (nld Qae _))) ln)) qn)))) ?_
  refine Qbu (τ := Int × (List Int)) (fun n t => Qbq N p0 p1 p2 p3 n t.1 t.2 = some r) (fun ⟨y2, y3⟩ => ⟨mk 38 [(0, (.own 0 1 (0) (p0))), (1, I p1), (2, I p2), (3, I p3), (10, I y2)], [(Qlm y3), Qri, (.own 1 [[(Qrh p5)]])]⟩) (fun t h => by rw [Qbq] at h; cases h) (fun n6 ih t h => ?_) N (0, p4) h
  obtain ⟨y2, y3⟩ := t
  rw [Qbq] at h
  skip
  refine wsq ?_
  refine wx tbk [] trivial ?_
  rcases bft ((decide (y2 < p3))) with hc7 | hc7
  ·replace h := Qar hc7 h
   refine wft hc7 (by kernel_rfl) ?_
   refine Qag ?_
   refine thn ?_
   refine wsq ?_
   refine Qai ?_
   obtain ⟨hi8, h⟩ := cko h
   obtain ⟨hi8a, hi8b⟩ := Qa1 hi8
   obtain ⟨x9, hg10, h⟩ := bno h
   obtain ⟨hi11, h⟩ := cko h
   obtain ⟨hi11a, hi11b⟩ := Qa1 hi11
   obtain ⟨x12, hg13, h⟩ := bno h
   obtain ⟨hi14, h⟩ := cko h
   obtain ⟨hi14a, hi14b⟩ := Qa1 hi14
   obtain ⟨x15, hg16, h⟩ := bno h
   obtain ⟨hi17, h⟩ := cko h
   obtain ⟨hi17a, hi17b⟩ := Qa1 hi17
   obtain ⟨x18, hg19, h⟩ := bno h
   refine wy1 tbk [(12, rb [(.tmp 24, (.own 0 1 (0) (p0))), (.tmp 27, (I (w64 (p2 + y2))))] [(0, (Qlm y3))] (.ref 0 1 ((w64 (p2 + y2)).toNat) 0)), (13, rb [(.tmp 28, (.ref 0 1 ((w64 (p2 + y2)).toNat) 0))] [(0, (Qlm y3))] (I x9)), (18, rb [(.tmp 30, (.own 0 1 (0) (p0))), (.tmp 33, (I (w64 (p1 + y2))))] [(0, (Qlm y3))] (.ref 0 1 ((w64 (p1 + y2)).toNat) 0)), (19, rb [(.tmp 34, (.ref 0 1 ((w64 (p1 + y2)).toNat) 0))] [(0, (Qlm y3))] (I x12)), (20, rb [(.tmp 16, (.own 0 1 (0) (p0))), (.tmp 19, (I (w64 (p1 + y2))))] [(0, (Qlm y3))] (.ref 0 1 ((w64 (p1 + y2)).toNat) 0)), (21, ⟨[(.tmp 36, (.ref 0 1 ((w64 (p1 + y2)).toNat) 0)), (.tmp 29, I x9)], [(0, (Qlm y3))], .any, [(0, (Qxq y3 p1 y2 x9))], false⟩), (22, rb [(.tmp 20, (.own 0 1 (0) (p0))), (.tmp 23, (I (w64 (p2 + y2))))] [(0, (Qxq y3 p1 y2 x9))] (.ref 0 1 ((w64 (p2 + y2)).toNat) 0)), (23, ⟨[(.tmp 37, (.ref 0 1 ((w64 (p2 + y2)).toNat) 0)), (.tmp 35, I x12)], [(0, (Qxq y3 p1 y2 x9))], .any, [(0, (.own 1 (((y3.set ((w64 (p1 + y2)).toNat) x9).set ((w64 (p2 + y2)).toNat) x12 : List Int).map Qab)))], false⟩)] ⟨aio rfl Try.underlying23 ti3 (odt hi8a) (odt hi8b) (Nat.zero_add _), ald rfl ti3 (by decide) (mgt Qab hg10) (nle rfl) rfl, aio rfl Try.underlying23 ti3 (odt hi11a) (odt hi11b) (Nat.zero_add _), ald rfl ti3 (by decide) (mgt Qab hg13) (nle rfl) rfl, aio rfl Try.underlying23 ti3 (odt hi14a) (odt hi14b) (Nat.zero_add _), ast rfl ti3 (by rfl) (mgt Qab hg16) (nle rfl) (Qel Qab rfl), aio rfl Try.underlying23 ti3 (odt hi17a) (odt hi17b) (Nat.zero_add _), ast rfl ti3 (by rfl) (mgt Qab hg19) (nle rfl) (Qel Qab rfl), trivial⟩ ?_
   refine bln ?_
   refine thn ?_
   refine wx1 tbk [] trivial ?_
   refine thn ?_
   exact arm (mto (n := 38) [(0, (.own 0 1 (0) (p0))), (1, I p1), (2, I p2), (3, I p3), (10, (I (w64 (y2 + 1))))] [0, 1, 2] [(.own 1 (((y3.set ((w64 (p1 + y2)).toNat) x9).set ((w64 (p2 + y2)).toNat) x12 : List Int).map Qab)), Qri, (.own 1 [[(Qrh p5)]])] hφ0 (pc (.rn (Qaf rfl)) (pc rwl (pc rwl (pc rwl (pc rwl pn))))) (qc (spr Qaa) (qc (spb (lc (.rn (Qay rn0 rn0)) ln)) (qc (spb (lc (.rn (.plain _ (nld Qae _))) ln)) qn)))) (ih (w64 (y2 + 1), (y3.set ((w64 (p1 + y2)).toNat) x9).set ((w64 (p2 + y2)).toNat) x12) h)
  ·replace h := Qas hc7 h
   refine wfn hc7 (by kernel_rfl) ?_
   refine Qa3 ?_
   refine Qao ?_
   refine Qao ?_
   refine Qa2 rfl ?_
   obtain rfl := osi h
   exact ⟨_, (mto (n := 38) (l' := []) (own' := [(Qlm y3), Qri, (.own 1 [[(Qrh p5)]])]) [] [0, 1, 2] [(Qlm y3), Qri, (.own 1 [[(Qrh p5)]])] hφ0 pn (qc (spr Qaa) (qc (spb (lc (.rn (Qay rn0 rn0)) ln)) (qc (spb (lc (.rn (.plain _ (nld Qae _))) ln)) qn)))), Qdi (vs := []) trivial rfl (NLt.tup _ nl0) (by kernel_rfl) (Qau (Qd9 Qaa _) (Qau (Qbt (nlc (NLt.of0 (NLt.fn _ _ _ nl0 nl0)) nl0)) (Qau (Qbt (nlc (NLt.of0 (nld Qae _)) nl0)) Qb0)))⟩
def Qbj (N : Nat) (p0 : Nat) (p2 : Int) (k4 : Int × (List Int) → Option (List Int)) (p5 : (List GNode)) : Nat → Int → Int → (List Int) → Option (List Int)
  | 0, _, _, _ => none
  | n13 + 1, y7, y8, y9 =>
    bif (y7 != y8) then
     bif (decide (y7 > y8)) then
      (Qcv N p0 (w64 (p2 - y7)) p2 y8 y9 p5).bind fun x17 =>
      Qbj N p0 p2 k4 p5 n13 (w64 (y7 - y8)) y8 x17
     else
      (Qcv N p0 (w64 (p2 - y7)) (w64 ((w64 (p2 + y8)) - y7)) y7 y9 p5).bind fun x19 =>
      Qbj N p0 p2 k4 p5 n13 y7 (w64 (y8 - y7)) x19
    else
     k4 (y7, y9)
def Qev (N : Nat) (p0 : Nat) (p1 : Int) (p2 : Int) (p3 : Int) (p4 : (List Int)) (p5 : (List GNode)) : Option (List Int) :=
  Qbr (fun ⟨y2, y3⟩ =>
    (Qcv N p0 (w64 (p2 - y2)) p2 y2 y3 p5).bind fun x6 =>
    some x6) fun k4 : Int × (List Int) → Option (List Int) =>
  Qbj N p0 p2 k4 p5 N (w64 (p2 - p1)) (w64 (p3 - p2)) p4
def Qln : AV := .fn (.func 96) [] [(.ref 1 1 (0) 0), (.ref 2 1 (0) 0)]
def z28_1 (p4 : (List Int)) : Slot := .own 1 ((p4 : List Int).map Qab)
def Qh1 : Slot := .own 1 [[(.fn (.func 70) [] [])]]
def Qh0 (p5 : (List GNode)) : AV := .dat 4 ((p5 : List GNode).map Qa0)
def z28_6 (y3 : (List Int)) : Slot := .own 1 ((y3 : List Int).map Qab)
def Qt9 (x6 : (List Int)) : Slot := .own 1 ((x6 : List Int).map Qab)
def Qo6 (y9 : (List Int)) : Slot := .own 1 ((y9 : List Int).map Qab)
set_option maxRecDepth 100000 in
set_option maxHeartbeats 4000000 in
theorem Qhi (N : Nat) (p0 : Nat) (p1 : Int) (p2 : Int) (p3 : Int) (p4 : (List Int)) (p5 : (List GNode)) (r : (List Int)) (h : Qev N p0 p1 p2 p3 p4 p5 = some r) : Spec Try.prog 117 [(.own 0 1 (0) (p0)), (I (p1)), (I (p2)), (I (p3)), Qln] [(z28_1 p4), Qh1, (.own 1 [[(Qh0 p5)]])] (.tup []) [(.own 1 ((r : List Int).map Qab)), Qh1, (.own 1 [[(Qh0 p5)]])] := by
  refine Qal Try.func117 rfl 3 (nle rfl) (fun X φ0 w0 hφ0 => ?_)
  unfold Qev at h
  refine Qc3 ?_
  refine wx tbk [] trivial ?_
  refine wx tbk [] trivial ?_
  obtain ⟨k4, hk_k4, h⟩ := jko h
  refine wjn (τ := Int × (List Int)) (fun t => k4 t = some r) (fun ⟨y2, y3⟩ => ⟨mk 58 [(0, (.own 0 1 (0) (p0))), (2, I p2), (4, Qln), (10, I y2)], [(z28_6 y3), Qh1, (.own 1 [[(Qh0 p5)]])]⟩) (fun t h => ?_) ?_
  ·subst hk_k4
   obtain ⟨y2, y3⟩ := t
   obtain ⟨x6, hf5, h⟩ := bno h
   refine wx1 tbk [(7, ⟨[fu 118, (.tmp 50, (.own 0 1 (0) (p0))), (.tmp 53, (I (w64 (p2 - y2)))), (.tmp 54, I p2), (.tmp 55, I y2), (.tmp 56, Qln)], [(0, (z28_6 y3)), (1, Qh1), (2, (.own 1 [[(Qh0 p5)]]))], (.tup []), [(0, (Qt9 x6)), (1, Qh1), (2, (.own 1 [[(Qh0 p5)]]))], false⟩)] ⟨Qat (first := []) (cap := []) (vs := [(.own 0 1 (0) (p0)), (I (w64 (p2 - y2))), I p2, I y2, Qln]) (σr := [(z28_6 y3), Qh1, (.own 1 [[(Qh0 p5)]])]) (σr' := [(Qt9 x6), Qh1, (.own 1 [[(Qh0 p5)]])]) (res' := (.tup [])) [0, 1, 2] rfl Qq0 (Qdv N p0 (w64 (p2 - y2)) p2 y2 y3 p5 _ hf5) rfl (Qcq (rnc (Qex rfl) (rnc (.plain _ nll) (rnc (.plain _ nll) (rnc (.plain _ nll) (rnc (Qay rn0 (rnc (Qbn rfl) (rnc (Qbn rfl) rn0))) rn0)))))) (slc (Qbg Qaa) (slc (Qam (rnc (.plain _ (NLt.fn _ _ _ nl0 nl0)) rn0)) (slc (Qam (rnc (.plain _ (nld Qae _)) rn0)) Qap))) (slc (Qbg Qaa) (slc (Qam (rnc (.plain _ (NLt.fn _ _ _ nl0 nl0)) rn0)) (slc (Qam (rnc (.plain _ (nld Qae _)) rn0)) Qap))) (.plain _ (NLt.tup _ nl0)) rfl rfl rfl, trivial⟩ ?_
   obtain rfl := osi h
   exact ⟨_, (mto (n := 58) (l' := []) (own' := [(Qt9 x6), Qh1, (.own 1 [[(Qh0 p5)]])]) [] [0, 1, 2] [(Qt9 x6), Qh1, (.own 1 [[(Qh0 p5)]])] hφ0 pn (qc (spr Qaa) (qc (spb (lc (.rn (Qay rn0 rn0)) ln)) (qc (spb (lc (.rn (.plain _ (nld Qae _))) ln)) qn)))), Qdi (vs := []) trivial rfl (NLt.tup _ nl0) (by kernel_rfl) (Qau (Qd9 Qaa _) (Qau (Qbt (nlc (NLt.of0 (NLt.fn _ _ _ nl0 nl0)) nl0)) (Qau (Qbt (nlc (NLt.of0 (nld Qae _)) nl0)) Qb0)))⟩
  ·skip
   refine Qai ?_
   refine wmr (mto (n := 58) (l' := [(0, (.own 0 1 (0) (p0))), (2, I p2), (4, Qln), (10, (I ((w64 (p2 - p1))))), (11, (I ((w64 (p3 - p2)))))]) (own' := [(z28_1 p4), Qh1, (.own 1 [[(Qh0 p5)]])]) [(0, (.own 0 1 (0) (p0))), (2, I p2), (4, Qln), (10, (I (w64 (p2 - p1)))), (11, (I (w64 (p3 - p2))))] [0, 1, 2] [(z28_1 p4), Qh1, (.own 1 [[(Qh0 p5)]])] hφ0 (pc (.rn (Qaf rfl)) (pc rwl (pc (.rn (Qay rn0 (rnc (rqr rfl) (rnc (rqr rfl) rn0)))) (pc rwl (pc rwl pn))))) (qc (spr Qaa) (qc (spb (lc (.rn (Qay rn0 rn0)) ln)) (qc (spb (lc (.rn (.plain _ (nld Qae _))) ln)) qn)))) ?_
   refine Qbu (τ := Int × Int × (List Int)) (fun n t => Qbj N p0 p2 k4 p5 n t.1 t.2.1 t.2.2 = some r) (fun ⟨y7, y8, y9⟩ => ⟨mk 58 [(0, (.own 0 1 (0) (p0))), (2, I p2), (4, Qln), (10, I y7), (11, I y8)], [(Qo6 y9), Qh1, (.own 1 [[(Qh0 p5)]])]⟩) (fun t h => by rw [Qbj] at h; cases h) (fun n13 ih t h => ?_) N (w64 (p2 - p1), w64 (p3 - p2), p4) h
   obtain ⟨y7, y8, y9⟩ := t
   rw [Qbj] at h
   skip
   refine wsq ?_
   refine wx tbk [] trivial ?_
   rcases bft ((y7 != y8)) with hc14 | hc14
   ·replace h := Qar hc14 h
    refine wft hc14 (by kernel_rfl) ?_
    refine Qag ?_
    refine thn ?_
    refine Qai ?_
    refine wx tbk [] trivial ?_
    rcases bft ((decide (y7 > y8))) with hc15 | hc15
    ·replace h := Qar hc15 h
     refine wft hc15 (by kernel_rfl) ?_
     obtain ⟨x17, hf16, h⟩ := bno h
     refine wx tbk [(7, ⟨[fu 118, (.tmp 24, (.own 0 1 (0) (p0))), (.tmp 27, (I (w64 (p2 - y7)))), (.tmp 28, I p2), (.tmp 29, I y8), (.tmp 30, Qln)], [(0, (Qo6 y9)), (1, Qh1), (2, (.own 1 [[(Qh0 p5)]]))], (.tup []), [(0, (.own 1 ((x17 : List Int).map Qab))), (1, Qh1), (2, (.own 1 [[(Qh0 p5)]]))], false⟩)] ⟨Qat (first := []) (cap := []) (vs := [(.own 0 1 (0) (p0)), (I (w64 (p2 - y7))), I p2, I y8, Qln]) (σr := [(Qo6 y9), Qh1, (.own 1 [[(Qh0 p5)]])]) (σr' := [(.own 1 ((x17 : List Int).map Qab)), Qh1, (.own 1 [[(Qh0 p5)]])]) (res' := (.tup [])) [0, 1, 2] rfl Qq0 (Qdv N p0 (w64 (p2 - y7)) p2 y8 y9 p5 _ hf16) rfl (Qcq (rnc (Qex rfl) (rnc (.plain _ nll) (rnc (.plain _ nll) (rnc (.plain _ nll) (rnc (Qay rn0 (rnc (Qbn rfl) (rnc (Qbn rfl) rn0))) rn0)))))) (slc (Qbg Qaa) (slc (Qam (rnc (.plain _ (NLt.fn _ _ _ nl0 nl0)) rn0)) (slc (Qam (rnc (.plain _ (nld Qae _)) rn0)) Qap))) (slc (Qbg Qaa) (slc (Qam (rnc (.plain _ (NLt.fn _ _ _ nl0 nl0)) rn0)) (slc (Qam (rnc (.plain _ (nld Qae _)) rn0)) Qap))) (.plain _ (NLt.tup _ nl0)) rfl rfl rfl, trivial⟩ ?_
     refine wx1 tbk [] trivial ?_
     refine bln ?_
     refine thn ?_
     exact arm (mto (n := 58) [(0, (.own 0 1 (0) (p0))), (2, I p2), (4, Qln), (10, (I (w64 (y7 - y8)))), (11, I y8)] [0, 1, 2] [(.own 1 ((x17 : List Int).map Qab)), Qh1, (.own 1 [[(Qh0 p5)]])] hφ0 (pc (.rn (Qaf rfl)) (pc rwl (pc (.rn (Qay rn0 (rnc (rqr rfl) (rnc (rqr rfl) rn0)))) (pc rwl (pc rwl pn))))) (qc (spr Qaa) (qc (spb (lc (.rn (Qay rn0 rn0)) ln)) (qc (spb (lc (.rn (.plain _ (nld Qae _))) ln)) qn)))) (ih (w64 (y7 - y8), y8, x17) h)
    ·replace h := Qas hc15 h
     refine wfn hc15 (by kernel_rfl) ?_
     obtain ⟨x19, hf18, h⟩ := bno h
     refine wx tbk [(11, ⟨[fu 118, (.tmp 35, (.own 0 1 (0) (p0))), (.tmp 38, (I (w64 (p2 - y7)))), (.tmp 43, (I (w64 ((w64 (p2 + y8)) - y7)))), (.tmp 44, I y7), (.tmp 45, Qln)], [(0, (Qo6 y9)), (1, Qh1), (2, (.own 1 [[(Qh0 p5)]]))], (.tup []), [(0, (.own 1 ((x19 : List Int).map Qab))), (1, Qh1), (2, (.own 1 [[(Qh0 p5)]]))], false⟩)] ⟨Qat (first := []) (cap := []) (vs := [(.own 0 1 (0) (p0)), (I (w64 (p2 - y7))), (I (w64 ((w64 (p2 + y8)) - y7))), I y7, Qln]) (σr := [(Qo6 y9), Qh1, (.own 1 [[(Qh0 p5)]])]) (σr' := [(.own 1 ((x19 : List Int).map Qab)), Qh1, (.own 1 [[(Qh0 p5)]])]) (res' := (.tup [])) [0, 1, 2] rfl Qq0 (Qdv N p0 (w64 (p2 - y7)) (w64 ((w64 (p2 + y8)) - y7)) y7 y9 p5 _ hf18) rfl (Qcq (rnc (Qex rfl) (rnc (.plain _ nll) (rnc (.plain _ nll) (rnc (.plain _ nll) (rnc (Qay rn0 (rnc (Qbn rfl) (rnc (Qbn rfl) rn0))) rn0)))))) (slc (Qbg Qaa) (slc (Qam (rnc (.plain _ (NLt.fn _ _ _ nl0 nl0)) rn0)) (slc (Qam (rnc (.plain _ (nld Qae _)) rn0)) Qap))) (slc (Qbg Qaa) (slc (Qam (rnc (.plain _ (NLt.fn _ _ _ nl0 nl0)) rn0)) (slc (Qam (rnc (.plain _ (nld Qae _)) rn0)) Qap))) (.plain _ (NLt.tup _ nl0)) rfl rfl rfl, trivial⟩ ?_
     refine wx1 tbk [] trivial ?_
     refine bln ?_
     refine thn ?_
     exact arm (mto (n := 58) [(0, (.own 0 1 (0) (p0))), (2, I p2), (4, Qln), (10, I y7), (11, (I (w64 (y8 - y7))))] [0, 1, 2] [(.own 1 ((x19 : List Int).map Qab)), Qh1, (.own 1 [[(Qh0 p5)]])] hφ0 (pc (.rn (Qaf rfl)) (pc rwl (pc (.rn (Qay rn0 (rnc (rqr rfl) (rnc (rqr rfl) rn0)))) (pc rwl (pc rwl pn))))) (qc (spr Qaa) (qc (spb (lc (.rn (Qay rn0 rn0)) ln)) (qc (spb (lc (.rn (.plain _ (nld Qae _))) ln)) qn)))) (ih (y7, w64 (y8 - y7), x19) h)
   ·replace h := Qas hc14 h
    refine wfn hc14 (by kernel_rfl) ?_
    refine Qa3 ?_
    refine Qao ?_
    refine Qao ?_
    refine Qa2 rfl ?_
    refine thn ?_
    exact ⟨(y7, y9), h, (mto (n := 58) [(0, (.own 0 1 (0) (p0))), (2, I p2), (4, Qln), (10, I y7)] [0, 1, 2] [(Qo6 y9), Qh1, (.own 1 [[(Qh0 p5)]])] hφ0 (pc (.rn (Qaf rfl)) (pc rwl (pc (.rn (Qay rn0 (rnc (rqr rfl) (rnc (rqr rfl) rn0)))) (pc rwl pn)))) (qc (spr Qaa) (qc (spb (lc (.rn (Qay rn0 rn0)) ln)) (qc (spb (lc (.rn (.plain _ (nld Qae _))) ln)) qn))))⟩
def Qbc (N : Nat) (p0 : Nat) (p4 : (List Int)) (p5 : (List GNode)) (x10 : Int) (k13 : Int → Option (List Int)) : Nat → Int → Int → Option (List Int)
  | 0, _, _ => none
  | n36 + 1, y32, y33 =>
    bif (decide (y32 < y33)) then
     (some (w64 ((IntKind.wrap .u64 (w64 (y32 + y33))) / 2))).bind fun x38 =>
     chk (decide (0 ≤ w64 (x10 - x38)) && decide ((w64 (x10 - x38)).toNat < p0)) <|
     (p4[(w64 (x10 - x38)).toNat]?).bind fun x41 =>
     chk (decide (0 ≤ x38) && decide (x38.toNat < p0)) <|
     (p4[x38.toNat]?).bind fun x44 =>
     (Qcx N x41 x44 p5).bind fun x47 =>
     bif (!(decide (x47 < 0))) then
      Qbc N p0 p4 p5 x10 k13 n36 (w64 (x38 + 1)) y33
     else
      Qbc N p0 p4 p5 x10 k13 n36 y32 x38
    else
     k13 (y32)
def Qbx (N : Nat) (p0 : Nat) (y53 : Int) (k56 : (List Int) → Option (List Int)) : Nat → Int → (List Int) → Option (List Int)
  | 0, _, _ => none
  | n61 + 1, y57, y58 =>
    bif (decide (y57 > y53)) then
     chk (decide (0 ≤ w64 (y57 - 1)) && decide ((w64 (y57 - 1)).toNat < p0)) <|
     (y58[(w64 (y57 - 1)).toNat]?).bind fun x64 =>
     chk (decide (0 ≤ y57) && decide (y57.toNat < p0)) <|
     (y58[y57.toNat]?).bind fun x67 =>
     chk (decide (0 ≤ y57) && decide (y57.toNat < p0)) <|
     (y58[y57.toNat]?).bind fun _ =>
     chk (decide (0 ≤ w64 (y57 - 1)) && decide ((w64 (y57 - 1)).toNat < p0)) <|
     ((y58.set y57.toNat x64)[(w64 (y57 - 1)).toNat]?).bind fun _ =>
     Qbx N p0 y53 k56 n61 (w64 (y57 - 1)) ((y58.set y57.toNat x64).set ((w64 (y57 - 1)).toNat) x67)
    else
     k56 (y58)
def Qbb (N : Nat) (p0 : Nat) (p2 : Int) (p4 : (List Int)) (p5 : (List GNode)) (k54 : Int → Option (List Int)) : Nat → Int → Int → Option (List Int)
  | 0, _, _ => none
  | n79 + 1, y75, y76 =>
    bif (decide (y75 < y76)) then
     (some (w64 ((IntKind.wrap .u64 (w64 (y75 + y76))) / 2))).bind fun x81 =>
     chk (decide (0 ≤ p2) && decide (p2.toNat < p0)) <|
     (p4[p2.toNat]?).bind fun x84 =>
     chk (decide (0 ≤ x81) && decide (x81.toNat < p0)) <|
     (p4[x81.toNat]?).bind fun x87 =>
     (Qcx N x84 x87 p5).bind fun x90 =>
     bif (!(decide (x90 < 0))) then
      Qbb N p0 p2 p4 p5 k54 n79 (w64 (x81 + 1)) y76
     else
      Qbb N p0 p2 p4 p5 k54 n79 y75 x81
    else
     k54 (y75)
def Qbw (N : Nat) (p0 : Nat) (y93 : Int) (k96 : (List Int) → Option (List Int)) : Nat → Int → (List Int) → Option (List Int)
  | 0, _, _ => none
  | n101 + 1, y97, y98 =>
    bif (decide (y97 < (w64 (y93 - 1)))) then
     chk (decide (0 ≤ w64 (y97 + 1)) && decide ((w64 (y97 + 1)).toNat < p0)) <|
     (y98[(w64 (y97 + 1)).toNat]?).bind fun x104 =>
     chk (decide (0 ≤ y97) && decide (y97.toNat < p0)) <|
     (y98[y97.toNat]?).bind fun x107 =>
     chk (decide (0 ≤ y97) && decide (y97.toNat < p0)) <|
     (y98[y97.toNat]?).bind fun _ =>
     chk (decide (0 ≤ w64 (y97 + 1)) && decide ((w64 (y97 + 1)).toNat < p0)) <|
     ((y98.set y97.toNat x104)[(w64 (y97 + 1)).toNat]?).bind fun _ =>
     Qbw N p0 y93 k96 n101 (w64 (y97 + 1)) ((y98.set y97.toNat x104).set ((w64 (y97 + 1)).toNat) x107)
    else
     k96 (y98)
def Qba (N : Nat) (p0 : Nat) (p1 : Int) (p4 : (List Int)) (p5 : (List GNode)) (k94 : Int → Option (List Int)) : Nat → Int → Int → Option (List Int)
  | 0, _, _ => none
  | n119 + 1, y115, y116 =>
    bif (decide (y115 < y116)) then
     (some (w64 ((IntKind.wrap .u64 (w64 (y115 + y116))) / 2))).bind fun x121 =>
     chk (decide (0 ≤ x121) && decide (x121.toNat < p0)) <|
     (p4[x121.toNat]?).bind fun x124 =>
     chk (decide (0 ≤ p1) && decide (p1.toNat < p0)) <|
     (p4[p1.toNat]?).bind fun x127 =>
     (Qcx N x124 x127 p5).bind fun x130 =>
     bif (decide (x130 < 0)) then
      Qba N p0 p1 p4 p5 k94 n119 (w64 (x121 + 1)) y116
     else
      Qba N p0 p1 p4 p5 k94 n119 y115 x121
    else
     k94 (y115)
def Qdt (N : Nat) (rec_ : Nat → Int → Int → Int → (List Int) → (List GNode) → Option (List Int)) (p0 : Nat) (p1 : Int) (p2 : Int) (p3 : Int) (p4 : (List Int)) (p5 : (List GNode)) : Option (List Int) :=
  Qbr (fun _ =>
    Qbr (fun _ =>
      (some (w64 ((IntKind.wrap .u64 (w64 (p1 + p3))) / 2))).bind fun x5 =>
      Qbr (fun ⟨y7, y8⟩ =>
        (some (w64 ((w64 (x5 + p2)) - 1))).bind fun x10 =>
        Qbr (fun y12 =>
          (some (w64 ((w64 (x5 + p2)) - y12))).bind fun x14 =>
          Qbr (fun y16 =>
            Qbr (fun y18 =>
              bif (decide (x5 < x14)) then
               bif (decide (x14 < p3)) then
                (rec_ p0 x5 x14 p3 y18 p5).bind fun x23 =>
                some x23
               else
                some y18
              else
               some y18) fun k19 : (List Int) → Option (List Int) =>
            bif (decide (p1 < y12)) then
             bif (decide (y12 < x5)) then
              (rec_ p0 p1 y12 x5 y16 p5).bind fun x27 =>
              k19 (x27)
             else
              k19 (y16)
            else
             k19 (y16)) fun k17 : (List Int) → Option (List Int) =>
          bif (decide (y12 < p2)) then
           bif (decide (p2 < x14)) then
            (Qev N p0 y12 p2 x14 p4 p5).bind fun x31 =>
            k17 (x31)
           else
            k17 (p4)
          else
           k17 (p4)) fun k13 : Int → Option (List Int) =>
        Qbc N p0 p4 p5 x10 k13 N y7 y8) fun k9 : Int × Int → Option (List Int) =>
      bif (decide (p2 > x5)) then
       (some (w64 ((w64 (x5 + p2)) - p3))).bind fun x50 =>
       k9 (x50, x5)
      else
       k9 (p1, p2)) fun k4 : Unit → Option (List Int) =>
    bif ((w64 (p3 - p2)) == 1) then
     Qbr (fun y53 =>
       Qbr (fun y55 =>
         some y55) fun k56 : (List Int) → Option (List Int) =>
       Qbx N p0 y53 k56 N p2 p4) fun k54 : Int → Option (List Int) =>
     Qbb N p0 p2 p4 p5 k54 N p1 p2
    else
     k4 ()) fun k3 : Unit → Option (List Int) =>
  bif ((w64 (p2 - p1)) == 1) then
   Qbr (fun y93 =>
     Qbr (fun y95 =>
       some y95) fun k96 : (List Int) → Option (List Int) =>
     Qbw N p0 y93 k96 N p1 p4) fun k94 : Int → Option (List Int) =>
   Qba N p0 p1 p4 p5 k94 N p2 p3
  else
   k3 ()
def Qc1 : Nat → Nat → Int → Int → Int → (List Int) → (List GNode) → Option (List Int)
  | 0, _, _, _, _, _, _ => none
  | N + 1, p0, p1, p2, p3, p4, p5 => Qdt N (Qc1 N) p0 p1 p2 p3 p4 p5
def Qe8 : AV := .fn (.func 96) [] [(.ref 1 1 (0) 0), (.ref 2 1 (0) 0)]
def Qei (p4 : (List Int)) : Slot := .own 1 ((p4 : List Int).map Qab)
def Qcl : Slot := .own 1 [[(.fn (.func 70) [] [])]]
def Qck (p5 : (List GNode)) : AV := .dat 4 ((p5 : List GNode).map Qa0)
def Qnr (y16 : (List Int)) : Slot := .own 1 ((y16 : List Int).map Qab)
def Qk6 (y18 : (List Int)) : Slot := .own 1 ((y18 : List Int).map Qab)
def Qp3 (x23 : (List Int)) : Slot := .own 1 ((x23 : List Int).map Qab)
def Qj6 (y58 : (List Int)) : Slot := .own 1 ((y58 : List Int).map Qab)
def Qj5 (y98 : (List Int)) : Slot := .own 1 ((y98 : List Int).map Qab)
set_option maxRecDepth 100000 in
set_option maxHeartbeats 4000000 in
theorem Qe7 : ∀ (N : Nat) (p0 : Nat) (p1 : Int) (p2 : Int) (p3 : Int) (p4 : (List Int)) (p5 : (List GNode)) (r : (List Int)) (_ : Qc1 N p0 p1 p2 p3 p4 p5 = some r), Spec Try.prog 115 [(.own 0 1 (0) (p0)), (I (p1)), (I (p2)), (I (p3)), Qe8] [(Qei p4), Qcl, (.own 1 [[(Qck p5)]])] (.tup []) [(.own 1 ((r : List Int).map Qab)), Qcl, (.own 1 [[(Qck p5)]])] := by
  intro N
  induction N with
  | zero => intro p0 p1 p2 p3 p4 p5 r h; exact nomatch (show (none : Option (List Int)) = some r from h)
  | succ N ihX =>
  intro p0 p1 p2 p3 p4 p5 r h
  replace h : Qdt N (Qc1 N) p0 p1 p2 p3 p4 p5 = some r := h
  refine Qal Try.func115 rfl 3 (nle rfl) (fun X φ0 w0 hφ0 => ?_)
  unfold Qdt at h
  refine Qc3 ?_
  obtain ⟨k3, hk_k3, h⟩ := jko h
  refine wjn (τ := Unit) (fun t => k3 t = some r) (fun _ => ⟨mk 220 [(0, (.own 0 1 (0) (p0))), (1, I p1), (2, I p2), (3, I p3), (4, Qe8)], [(Qei p4), Qcl, (.own 1 [[(Qck p5)]])]⟩) (fun t h => ?_) ?_
  ·subst hk_k3
   obtain ⟨k4, hk_k4, h⟩ := jko h
   refine wjn (τ := Unit) (fun t => k4 t = some r) (fun _ => ⟨mk 220 [(0, (.own 0 1 (0) (p0))), (1, I p1), (2, I p2), (3, I p3), (4, Qe8)], [(Qei p4), Qcl, (.own 1 [[(Qck p5)]])]⟩) (fun t h => ?_) ?_
   ·subst hk_k4
    obtain ⟨x5, hl6, h⟩ := bno h
    refine wx tbk [(3, rp [(.tmp 131, (I (w64 (p1 + p3))))] (K .u64 (IntKind.wrap .u64 (w64 (p1 + p3))))), (4, rp [(.tmp 132, (K .u64 (IntKind.wrap .u64 (w64 (p1 + p3))))), (.const (.int .u64 1), (K .u64 (1)))] (K .u64 ((IntKind.wrap .u64 (w64 (p1 + p3))) / 2))), (5, rp [(.tmp 133, (K .u64 ((IntKind.wrap .u64 (w64 (p1 + p3))) / 2)))] (I (w64 ((IntKind.wrap .u64 (w64 (p1 + p3))) / 2)))), (6, rp [(.tmp 134, (I (w64 ((IntKind.wrap .u64 (w64 (p1 + p3))) / 2))))] (I x5))] ⟨acv rfl (by rw [Try.underlying3]; rfl) Try.underlying112, Ql1 rfl (by decide) (by decide), acv rfl (by rw [Try.underlying112]; rfl) Try.underlying3, Qd4 hl6 (aas rfl), trivial⟩ ?_
    refine wx tbk [] trivial ?_
    refine wx tbk [] trivial ?_
    obtain ⟨k9, hk_k9, h⟩ := jko h
    refine wjn (τ := Int × Int) (fun t => k9 t = some r) (fun ⟨y7, y8⟩ => ⟨mk 220 [(0, (.own 0 1 (0) (p0))), (1, I p1), (2, I p2), (3, I p3), (4, Qe8), (18, I x5), (19, (I (w64 (x5 + p2)))), (20, I y7), (21, I y8)], [(Qei p4), Qcl, (.own 1 [[(Qck p5)]])]⟩) (fun t h => ?_) ?_
    ·subst hk_k9
     obtain ⟨y7, y8⟩ := t
     obtain ⟨x10, hl11, h⟩ := bno h
     refine wx tbk [(2, rp [(.tmp 148, (I (w64 ((w64 (x5 + p2)) - 1))))] (I x10))] ⟨Qd4 hl11 (aas rfl), trivial⟩ ?_
     obtain ⟨k13, hk_k13, h⟩ := jko h
     refine wjn (τ := Int) (fun t => k13 t = some r) (fun y12 => ⟨mk 220 [(0, (.own 0 1 (0) (p0))), (1, I p1), (2, I p2), (3, I p3), (4, Qe8), (18, I x5), (19, (I (w64 (x5 + p2)))), (20, I y12)], [(Qei p4), Qcl, (.own 1 [[(Qck p5)]])]⟩) (fun y12 h => ?_) ?_
     ·subst hk_k13
      obtain ⟨x14, hl15, h⟩ := bno h
      refine wx tbk [(3, rp [(.tmp 177, (I (w64 ((w64 (x5 + p2)) - y12))))] (I x14))] ⟨Qd4 hl15 (aas rfl), trivial⟩ ?_
      obtain ⟨k17, hk_k17, h⟩ := jko h
      refine wjn (τ := (List Int)) (fun t => k17 t = some r) (fun y16 => ⟨mk 220 [(0, (.own 0 1 (0) (p0))), (1, I p1), (3, I p3), (4, Qe8), (18, I x5), (20, I y12), (24, I x14)], [(Qnr y16), Qcl, (.own 1 [[(Qck p5)]])]⟩) (fun y16 h => ?_) ?_
      ·subst hk_k17
       obtain ⟨k19, hk_k19, h⟩ := jko h
       refine wjn (τ := (List Int)) (fun t => k19 t = some r) (fun y18 => ⟨mk 220 [(0, (.own 0 1 (0) (p0))), (3, I p3), (4, Qe8), (18, I x5), (24, I x14)], [(Qk6 y18), Qcl, (.own 1 [[(Qck p5)]])]⟩) (fun y18 h => ?_) ?_
       ·subst hk_k19
        rcases bft ((decide (x5 < x14))) with hb20 | hb20
        ·replace h := Qar hb20 h
         refine wx tbk [(3, rp [(.tmp 208, (B ((decide (x5 < x14)))))] (B true))] ⟨asb hb20 (amv rfl), trivial⟩ ?_
         rcases bft ((decide (x14 < p3))) with hc21 | hc21
         ·replace h := Qar hc21 h
          refine wft hc21 (by kernel_rfl) ?_
          obtain ⟨x23, hf22, h⟩ := bno h
          refine wx1 tbk [(5, ⟨[fu 115, (.tmp 214, (.own 0 1 (0) (p0))), (.tmp 215, I x5), (.tmp 216, I x14), (.tmp 217, I p3), (.tmp 218, Qe8)], [(0, (Qk6 y18)), (1, Qcl), (2, (.own 1 [[(Qck p5)]]))], (.tup []), [(0, (Qp3 x23)), (1, Qcl), (2, (.own 1 [[(Qck p5)]]))], false⟩)] ⟨Qat (first := []) (cap := []) (vs := [(.own 0 1 (0) (p0)), I x5, I x14, I p3, Qe8]) (σr := [(Qk6 y18), Qcl, (.own 1 [[(Qck p5)]])]) (σr' := [(Qp3 x23), Qcl, (.own 1 [[(Qck p5)]])]) (res' := (.tup [])) [0, 1, 2] rfl Qnh (ihX p0 x5 x14 p3 y18 p5 _ hf22) rfl (Qcq (rnc (Qex rfl) (rnc (.plain _ nll) (rnc (.plain _ nll) (rnc (.plain _ nll) (rnc (Qay rn0 (rnc (Qbn rfl) (rnc (Qbn rfl) rn0))) rn0)))))) (slc (Qbg Qaa) (slc (Qam (rnc (.plain _ (NLt.fn _ _ _ nl0 nl0)) rn0)) (slc (Qam (rnc (.plain _ (nld Qae _)) rn0)) Qap))) (slc (Qbg Qaa) (slc (Qam (rnc (.plain _ (NLt.fn _ _ _ nl0 nl0)) rn0)) (slc (Qam (rnc (.plain _ (nld Qae _)) rn0)) Qap))) (.plain _ (NLt.tup _ nl0)) rfl rfl rfl, trivial⟩ ?_
          obtain rfl := osi h
          exact ⟨_, (mto (n := 220) (l' := []) (own' := [(Qp3 x23), Qcl, (.own 1 [[(Qck p5)]])]) [] [0, 1, 2] [(Qp3 x23), Qcl, (.own 1 [[(Qck p5)]])] hφ0 pn (qc (spr Qaa) (qc (spb (lc (.rn (Qay rn0 rn0)) ln)) (qc (spb (lc (.rn (.plain _ (nld Qae _))) ln)) qn)))), Qdi (vs := []) trivial rfl (NLt.tup _ nl0) (by kernel_rfl) (Qau (Qd9 Qaa _) (Qau (Qbt (nlc (NLt.of0 (NLt.fn _ _ _ nl0 nl0)) nl0)) (Qau (Qbt (nlc (NLt.of0 (nld Qae _)) nl0)) Qb0)))⟩
         ·replace h := Qas hc21 h
          refine wfn hc21 (by kernel_rfl) ?_
          refine Qag ?_
          obtain rfl := osi h
          exact ⟨_, (mto (n := 220) (l' := []) (own' := [(Qk6 y18), Qcl, (.own 1 [[(Qck p5)]])]) [] [0, 1, 2] [(Qk6 y18), Qcl, (.own 1 [[(Qck p5)]])] hφ0 pn (qc (spr Qaa) (qc (spb (lc (.rn (Qay rn0 rn0)) ln)) (qc (spb (lc (.rn (.plain _ (nld Qae _))) ln)) qn)))), Qdi (vs := []) trivial rfl (NLt.tup _ nl0) (by kernel_rfl) (Qau (Qd9 Qaa _) (Qau (Qbt (nlc (NLt.of0 (NLt.fn _ _ _ nl0 nl0)) nl0)) (Qau (Qbt (nlc (NLt.of0 (nld Qae _)) nl0)) Qb0)))⟩
        ·replace h := Qas hb20 h
         refine wx tbk [(3, rp [(.tmp 208, (B ((decide (x5 < x14)))))] (B false))] ⟨asb hb20 (amv rfl), trivial⟩ ?_
         refine Qdj (by kernel_rfl) ?_
         refine Qag ?_
         obtain rfl := osi h
         exact ⟨_, (mto (n := 220) (l' := []) (own' := [(Qk6 y18), Qcl, (.own 1 [[(Qck p5)]])]) [] [0, 1, 2] [(Qk6 y18), Qcl, (.own 1 [[(Qck p5)]])] hφ0 pn (qc (spr Qaa) (qc (spb (lc (.rn (Qay rn0 rn0)) ln)) (qc (spb (lc (.rn (.plain _ (nld Qae _))) ln)) qn)))), Qdi (vs := []) trivial rfl (NLt.tup _ nl0) (by kernel_rfl) (Qau (Qd9 Qaa _) (Qau (Qbt (nlc (NLt.of0 (NLt.fn _ _ _ nl0 nl0)) nl0)) (Qau (Qbt (nlc (NLt.of0 (nld Qae _)) nl0)) Qb0)))⟩
       ·skip
        rcases bft ((decide (p1 < y12))) with hb24 | hb24
        ·replace h := Qar hb24 h
         refine wx tbk [(3, rp [(.tmp 194, (B ((decide (p1 < y12)))))] (B true))] ⟨asb hb24 (amv rfl), trivial⟩ ?_
         rcases bft ((decide (y12 < x5))) with hc25 | hc25
         ·replace h := Qar hc25 h
          refine wft hc25 (by kernel_rfl) ?_
          obtain ⟨x27, hf26, h⟩ := bno h
          refine wx1 tbk [(5, ⟨[fu 115, (.tmp 200, (.own 0 1 (0) (p0))), (.tmp 201, I p1), (.tmp 202, I y12), (.tmp 203, I x5), (.tmp 204, Qe8)], [(0, (Qnr y16)), (1, Qcl), (2, (.own 1 [[(Qck p5)]]))], (.tup []), [(0, (.own 1 ((x27 : List Int).map Qab))), (1, Qcl), (2, (.own 1 [[(Qck p5)]]))], false⟩)] ⟨Qat (first := []) (cap := []) (vs := [(.own 0 1 (0) (p0)), I p1, I y12, I x5, Qe8]) (σr := [(Qnr y16), Qcl, (.own 1 [[(Qck p5)]])]) (σr' := [(.own 1 ((x27 : List Int).map Qab)), Qcl, (.own 1 [[(Qck p5)]])]) (res' := (.tup [])) [0, 1, 2] rfl Qnh (ihX p0 p1 y12 x5 y16 p5 _ hf26) rfl (Qcq (rnc (Qex rfl) (rnc (.plain _ nll) (rnc (.plain _ nll) (rnc (.plain _ nll) (rnc (Qay rn0 (rnc (Qbn rfl) (rnc (Qbn rfl) rn0))) rn0)))))) (slc (Qbg Qaa) (slc (Qam (rnc (.plain _ (NLt.fn _ _ _ nl0 nl0)) rn0)) (slc (Qam (rnc (.plain _ (nld Qae _)) rn0)) Qap))) (slc (Qbg Qaa) (slc (Qam (rnc (.plain _ (NLt.fn _ _ _ nl0 nl0)) rn0)) (slc (Qam (rnc (.plain _ (nld Qae _)) rn0)) Qap))) (.plain _ (NLt.tup _ nl0)) rfl rfl rfl, trivial⟩ ?_
          refine thn ?_
          exact ⟨(x27), h, (mto (n := 220) [(0, (.own 0 1 (0) (p0))), (3, I p3), (4, Qe8), (18, I x5), (24, I x14)] [0, 1, 2] [(.own 1 ((x27 : List Int).map Qab)), Qcl, (.own 1 [[(Qck p5)]])] hφ0 (pc (.rn (Qaf rfl)) (pc rwl (pc (.rn (Qay rn0 (rnc (rqr rfl) (rnc (rqr rfl) rn0)))) (pc rwl (pc rwl pn))))) (qc (spr Qaa) (qc (spb (lc (.rn (Qay rn0 rn0)) ln)) (qc (spb (lc (.rn (.plain _ (nld Qae _))) ln)) qn))))⟩
         ·replace h := Qas hc25 h
          refine wfn hc25 (by kernel_rfl) ?_
          refine Qag ?_
          refine thn ?_
          exact ⟨(y16), h, (mto (n := 220) [(0, (.own 0 1 (0) (p0))), (3, I p3), (4, Qe8), (18, I x5), (24, I x14)] [0, 1, 2] [(Qnr y16), Qcl, (.own 1 [[(Qck p5)]])] hφ0 (pc (.rn (Qaf rfl)) (pc rwl (pc (.rn (Qay rn0 (rnc (rqr rfl) (rnc (rqr rfl) rn0)))) (pc rwl (pc rwl pn))))) (qc (spr Qaa) (qc (spb (lc (.rn (Qay rn0 rn0)) ln)) (qc (spb (lc (.rn (.plain _ (nld Qae _))) ln)) qn))))⟩
        ·replace h := Qas hb24 h
         refine wx tbk [(3, rp [(.tmp 194, (B ((decide (p1 < y12)))))] (B false))] ⟨asb hb24 (amv rfl), trivial⟩ ?_
         refine Qdj (by kernel_rfl) ?_
         refine Qag ?_
         refine thn ?_
         exact ⟨(y16), h, (mto (n := 220) [(0, (.own 0 1 (0) (p0))), (3, I p3), (4, Qe8), (18, I x5), (24, I x14)] [0, 1, 2] [(Qnr y16), Qcl, (.own 1 [[(Qck p5)]])] hφ0 (pc (.rn (Qaf rfl)) (pc rwl (pc (.rn (Qay rn0 (rnc (rqr rfl) (rnc (rqr rfl) rn0)))) (pc rwl (pc rwl pn))))) (qc (spr Qaa) (qc (spb (lc (.rn (Qay rn0 rn0)) ln)) (qc (spb (lc (.rn (.plain _ (nld Qae _))) ln)) qn))))⟩
      ·skip
       rcases bft ((decide (y12 < p2))) with hb28 | hb28
       ·replace h := Qar hb28 h
        refine wx tbk [(3, rp [(.tmp 180, (B ((decide (y12 < p2)))))] (B true))] ⟨asb hb28 (amv rfl), trivial⟩ ?_
        rcases bft ((decide (p2 < x14))) with hc29 | hc29
        ·replace h := Qar hc29 h
         refine wft hc29 (by kernel_rfl) ?_
         obtain ⟨x31, hf30, h⟩ := bno h
         refine wx1 tbk [(5, ⟨[fu 117, (.tmp 186, (.own 0 1 (0) (p0))), (.tmp 187, I y12), (.tmp 188, I p2), (.tmp 189, I x14), (.tmp 190, Qe8)], [(0, (Qei p4)), (1, Qcl), (2, (.own 1 [[(Qck p5)]]))], (.tup []), [(0, (.own 1 ((x31 : List Int).map Qab))), (1, Qcl), (2, (.own 1 [[(Qck p5)]]))], false⟩)] ⟨Qat (first := []) (cap := []) (vs := [(.own 0 1 (0) (p0)), I y12, I p2, I x14, Qe8]) (σr := [(Qei p4), Qcl, (.own 1 [[(Qck p5)]])]) (σr' := [(.own 1 ((x31 : List Int).map Qab)), Qcl, (.own 1 [[(Qck p5)]])]) (res' := (.tup [])) [0, 1, 2] rfl enter117 (Qhi N p0 y12 p2 x14 p4 p5 _ hf30) rfl (Qcq (rnc (Qex rfl) (rnc (.plain _ nll) (rnc (.plain _ nll) (rnc (.plain _ nll) (rnc (Qay rn0 (rnc (Qbn rfl) (rnc (Qbn rfl) rn0))) rn0)))))) (slc (Qbg Qaa) (slc (Qam (rnc (.plain _ (NLt.fn _ _ _ nl0 nl0)) rn0)) (slc (Qam (rnc (.plain _ (nld Qae _)) rn0)) Qap))) (slc (Qbg Qaa) (slc (Qam (rnc (.plain _ (NLt.fn _ _ _ nl0 nl0)) rn0)) (slc (Qam (rnc (.plain _ (nld Qae _)) rn0)) Qap))) (.plain _ (NLt.tup _ nl0)) rfl rfl rfl, trivial⟩ ?_
         refine thn ?_
         exact ⟨(x31), h, (mto (n := 220) [(0, (.own 0 1 (0) (p0))), (1, I p1), (3, I p3), (4, Qe8), (18, I x5), (20, I y12), (24, I x14)] [0, 1, 2] [(.own 1 ((x31 : List Int).map Qab)), Qcl, (.own 1 [[(Qck p5)]])] hφ0 (pc (.rn (Qaf rfl)) (pc rwl (pc rwl (pc (.rn (Qay rn0 (rnc (rqr rfl) (rnc (rqr rfl) rn0)))) (pc rwl (pc rwl (pc rwl pn))))))) (qc (spr Qaa) (qc (spb (lc (.rn (Qay rn0 rn0)) ln)) (qc (spb (lc (.rn (.plain _ (nld Qae _))) ln)) qn))))⟩
        ·replace h := Qas hc29 h
         refine wfn hc29 (by kernel_rfl) ?_
         refine Qag ?_
         refine thn ?_
         exact ⟨(p4), h, (mto (n := 220) [(0, (.own 0 1 (0) (p0))), (1, I p1), (3, I p3), (4, Qe8), (18, I x5), (20, I y12), (24, I x14)] [0, 1, 2] [(Qei p4), Qcl, (.own 1 [[(Qck p5)]])] hφ0 (pc (.rn (Qaf rfl)) (pc rwl (pc rwl (pc (.rn (Qay rn0 (rnc (rqr rfl) (rnc (rqr rfl) rn0)))) (pc rwl (pc rwl (pc rwl pn))))))) (qc (spr Qaa) (qc (spb (lc (.rn (Qay rn0 rn0)) ln)) (qc (spb (lc (.rn (.plain _ (nld Qae _))) ln)) qn))))⟩
       ·replace h := Qas hb28 h
        refine wx tbk [(3, rp [(.tmp 180, (B ((decide (y12 < p2)))))] (B false))] ⟨asb hb28 (amv rfl), trivial⟩ ?_
        refine Qdj (by kernel_rfl) ?_
        refine Qag ?_
        refine thn ?_
        exact ⟨(p4), h, (mto (n := 220) [(0, (.own 0 1 (0) (p0))), (1, I p1), (3, I p3), (4, Qe8), (18, I x5), (20, I y12), (24, I x14)] [0, 1, 2] [(Qei p4), Qcl, (.own 1 [[(Qck p5)]])] hφ0 (pc (.rn (Qaf rfl)) (pc rwl (pc rwl (pc (.rn (Qay rn0 (rnc (rqr rfl) (rnc (rqr rfl) rn0)))) (pc rwl (pc rwl (pc rwl pn))))))) (qc (spr Qaa) (qc (spb (lc (.rn (Qay rn0 rn0)) ln)) (qc (spb (lc (.rn (.plain _ (nld Qae _))) ln)) qn))))⟩
     ·skip
      refine Qai ?_
      refine wmr (mto (n := 220) (l' := [(0, (.own 0 1 (0) (p0))), (1, I p1), (2, I p2), (3, I p3), (4, Qe8), (18, I x5), (19, (I (w64 (x5 + p2)))), (20, I y7), (21, I y8), (22, I x10)]) (own' := [(Qei p4), Qcl, (.own 1 [[(Qck p5)]])]) [(0, (.own 0 1 (0) (p0))), (1, I p1), (2, I p2), (3, I p3), (4, Qe8), (18, I x5), (19, (I (w64 (x5 + p2)))), (20, I y7), (21, I y8), (22, I x10)] [0, 1, 2] [(Qei p4), Qcl, (.own 1 [[(Qck p5)]])] hφ0 (pc (.rn (Qaf rfl)) (pc rwl (pc rwl (pc rwl (pc (.rn (Qay rn0 (rnc (rqr rfl) (rnc (rqr rfl) rn0)))) (pc rwl (pc rwl (pc rwl (pc rwl (pc rwl pn)))))))))) (qc (spr Qaa) (qc (spb (lc (.rn (Qay rn0 rn0)) ln)) (qc (spb (lc (.rn (.plain _ (nld Qae _))) ln)) qn)))) ?_
      refine Qbu (τ := Int × Int) (fun n t => Qbc N p0 p4 p5 x10 k13 n t.1 t.2 = some r) (fun ⟨y32, y33⟩ => ⟨mk 220 [(0, (.own 0 1 (0) (p0))), (1, I p1), (2, I p2), (3, I p3), (4, Qe8), (18, I x5), (19, (I (w64 (x5 + p2)))), (20, I y32), (21, I y33), (22, I x10)], [(Qei p4), Qcl, (.own 1 [[(Qck p5)]])]⟩) (fun t h => by rw [Qbc] at h; cases h) (fun n36 ih t h => ?_) N (y7, y8) h
      obtain ⟨y32, y33⟩ := t
      rw [Qbc] at h
      skip
      refine wsq ?_
      refine wx tbk [] trivial ?_
      rcases bft ((decide (y32 < y33))) with hc37 | hc37
      ·replace h := Qar hc37 h
       refine wft hc37 (by kernel_rfl) ?_
       refine Qag ?_
       refine thn ?_
       refine Qai ?_
       obtain ⟨x38, hl39, h⟩ := bno h
       refine wx tbk [(3, rp [(.tmp 154, (I (w64 (y32 + y33))))] (K .u64 (IntKind.wrap .u64 (w64 (y32 + y33))))), (4, rp [(.tmp 155, (K .u64 (IntKind.wrap .u64 (w64 (y32 + y33))))), (.const (.int .u64 1), (K .u64 (1)))] (K .u64 ((IntKind.wrap .u64 (w64 (y32 + y33))) / 2))), (5, rp [(.tmp 156, (K .u64 ((IntKind.wrap .u64 (w64 (y32 + y33))) / 2)))] (I (w64 ((IntKind.wrap .u64 (w64 (y32 + y33))) / 2)))), (6, rp [(.tmp 157, (I (w64 ((IntKind.wrap .u64 (w64 (y32 + y33))) / 2))))] (I x38))] ⟨acv rfl (by rw [Try.underlying3]; rfl) Try.underlying112, Ql1 rfl (by decide) (by decide), acv rfl (by rw [Try.underlying112]; rfl) Try.underlying3, Qd4 hl39 (aas rfl), trivial⟩ ?_
       obtain ⟨hi40, h⟩ := cko h
       obtain ⟨hi40a, hi40b⟩ := Qa1 hi40
       obtain ⟨x41, hg42, h⟩ := bno h
       obtain ⟨hi43, h⟩ := cko h
       obtain ⟨hi43a, hi43b⟩ := Qa1 hi43
       obtain ⟨x44, hg45, h⟩ := bno h
       obtain ⟨x47, hf46, h⟩ := bno h
       refine wxd tbk [(5, rb [(.tmp 159, (.own 0 1 (0) (p0))), (.tmp 162, (I (w64 (x10 - x38))))] [(0, (Qei p4))] (.ref 0 1 ((w64 (x10 - x38)).toNat) 0)), (6, rb [(.tmp 163, (.ref 0 1 ((w64 (x10 - x38)).toNat) 0))] [(0, (Qei p4))] (I x41)), (9, rb [(.tmp 165, (.own 0 1 (0) (p0))), (.tmp 166, I x38)] [(0, (Qei p4))] (.ref 0 1 (x38.toNat) 0)), (10, rb [(.tmp 167, (.ref 0 1 (x38.toNat) 0))] [(0, (Qei p4))] (I x44)), (11, ⟨[(.tmp 158, Qe8), (.tmp 164, I x41), (.tmp 168, I x44)], [(1, Qcl), (2, (.own 1 [[(Qck p5)]]))], I x47, [(1, Qcl), (2, (.own 1 [[(Qck p5)]]))], false⟩)] ⟨aio rfl Try.underlying23 ti3 (odt hi40a) (odt hi40b) (Nat.zero_add _), ald rfl ti3 (by decide) (mgt Qab hg42) (nle rfl) rfl, aio rfl Try.underlying23 ti3 (odt hi43a) (odt hi43b) (Nat.zero_add _), ald rfl ti3 (by decide) (mgt Qab hg45) (nle rfl) rfl, Qat (first := []) (cap := [.ref 1 1 0 0, .ref 2 1 0 0]) (vs := [I x41, I x44]) (σr := [Qcl, (.own 1 [[(Qck p5)]])]) (σr' := [Qcl, (.own 1 [[(Qck p5)]])]) (res' := (I x47)) [1, 2] rfl Qqy (Qdk N x41 x44 p5 _ hf46) rfl (Qcq (rnc (.plain _ nll) (rnc (.plain _ nll) (rnc (Qbn rfl) (rnc (Qbn rfl) rn0))))) (slc (Qam (rnc (.plain _ (NLt.fn _ _ _ nl0 nl0)) rn0)) (slc (Qam (rnc (.plain _ (nld Qae _)) rn0)) Qap)) (slc (Qam (rnc (.plain _ (NLt.fn _ _ _ nl0 nl0)) rn0)) (slc (Qam (rnc (.plain _ (nld Qae _)) rn0)) Qap)) (.plain _ nll) rfl rfl rfl, trivial⟩ ?_
       rcases bft ((!(decide (x47 < 0)))) with hc48 | hc48
       ·replace h := Qar hc48 h
        refine wft hc48 (by kernel_rfl) ?_
        refine wx1 tbk [] trivial ?_
        refine bln ?_
        refine thn ?_
        exact arm (mto (n := 220) [(0, (.own 0 1 (0) (p0))), (1, I p1), (2, I p2), (3, I p3), (4, Qe8), (18, I x5), (19, (I (w64 (x5 + p2)))), (20, (I (w64 (x38 + 1)))), (21, I y33), (22, I x10)] [0, 1, 2] [(Qei p4), Qcl, (.own 1 [[(Qck p5)]])] hφ0 (pc (.rn (Qaf rfl)) (pc rwl (pc rwl (pc rwl (pc (.rn (Qay rn0 (rnc (rqr rfl) (rnc (rqr rfl) rn0)))) (pc rwl (pc rwl (pc rwl (pc rwl (pc rwl pn)))))))))) (qc (spr Qaa) (qc (spb (lc (.rn (Qay rn0 rn0)) ln)) (qc (spb (lc (.rn (.plain _ (nld Qae _))) ln)) qn)))) (ih (w64 (x38 + 1), y33) h)
       ·replace h := Qas hc48 h
        refine wfn hc48 (by kernel_rfl) ?_
        refine wx1 tbk [] trivial ?_
        refine bln ?_
        refine thn ?_
        exact arm (mto (n := 220) [(0, (.own 0 1 (0) (p0))), (1, I p1), (2, I p2), (3, I p3), (4, Qe8), (18, I x5), (19, (I (w64 (x5 + p2)))), (20, I y32), (21, I x38), (22, I x10)] [0, 1, 2] [(Qei p4), Qcl, (.own 1 [[(Qck p5)]])] hφ0 (pc (.rn (Qaf rfl)) (pc rwl (pc rwl (pc rwl (pc (.rn (Qay rn0 (rnc (rqr rfl) (rnc (rqr rfl) rn0)))) (pc rwl (pc rwl (pc rwl (pc rwl (pc rwl pn)))))))))) (qc (spr Qaa) (qc (spb (lc (.rn (Qay rn0 rn0)) ln)) (qc (spb (lc (.rn (.plain _ (nld Qae _))) ln)) qn)))) (ih (y32, x38) h)
      ·replace h := Qas hc37 h
       refine wfn hc37 (by kernel_rfl) ?_
       refine Qa3 ?_
       refine Qao ?_
       refine Qao ?_
       refine Qa2 rfl ?_
       refine thn ?_
       exact ⟨(y32), h, (mto (n := 220) [(0, (.own 0 1 (0) (p0))), (1, I p1), (2, I p2), (3, I p3), (4, Qe8), (18, I x5), (19, (I (w64 (x5 + p2)))), (20, I y32)] [0, 1, 2] [(Qei p4), Qcl, (.own 1 [[(Qck p5)]])] hφ0 (pc (.rn (Qaf rfl)) (pc rwl (pc rwl (pc rwl (pc (.rn (Qay rn0 (rnc (rqr rfl) (rnc (rqr rfl) rn0)))) (pc rwl (pc rwl (pc rwl pn)))))))) (qc (spr Qaa) (qc (spb (lc (.rn (Qay rn0 rn0)) ln)) (qc (spb (lc (.rn (.plain _ (nld Qae _))) ln)) qn))))⟩
    ·skip
     refine wx tbk [] trivial ?_
     rcases bft ((decide (p2 > x5))) with hc49 | hc49
     ·replace h := Qar hc49 h
      refine wft hc49 (by kernel_rfl) ?_
      obtain ⟨x50, hl51, h⟩ := bno h
      refine wx tbk [(3, rp [(.tmp 143, (I (w64 ((w64 (x5 + p2)) - p3))))] (I x50))] ⟨Qd4 hl51 (aas rfl), trivial⟩ ?_
      refine wx1 tbk [] trivial ?_
      refine thn ?_
      exact ⟨(x50, x5), h, (mto (n := 220) [(0, (.own 0 1 (0) (p0))), (1, I p1), (2, I p2), (3, I p3), (4, Qe8), (18, I x5), (19, (I (w64 (x5 + p2)))), (20, I x50), (21, I x5)] [0, 1, 2] [(Qei p4), Qcl, (.own 1 [[(Qck p5)]])] hφ0 (pc (.rn (Qaf rfl)) (pc rwl (pc rwl (pc rwl (pc (.rn (Qay rn0 (rnc (rqr rfl) (rnc (rqr rfl) rn0)))) (pc rwl (pc rwl (pc rwl (pc rwl pn))))))))) (qc (spr Qaa) (qc (spb (lc (.rn (Qay rn0 rn0)) ln)) (qc (spb (lc (.rn (.plain _ (nld Qae _))) ln)) qn))))⟩
     ·replace h := Qas hc49 h
      refine wfn hc49 (by kernel_rfl) ?_
      refine wx tbk [] trivial ?_
      refine wx1 tbk [] trivial ?_
      refine thn ?_
      exact ⟨(p1, p2), h, (mto (n := 220) [(0, (.own 0 1 (0) (p0))), (1, I p1), (2, I p2), (3, I p3), (4, Qe8), (18, I x5), (19, (I (w64 (x5 + p2)))), (20, I p1), (21, I p2)] [0, 1, 2] [(Qei p4), Qcl, (.own 1 [[(Qck p5)]])] hφ0 (pc (.rn (Qaf rfl)) (pc rwl (pc rwl (pc rwl (pc (.rn (Qay rn0 (rnc (rqr rfl) (rnc (rqr rfl) rn0)))) (pc rwl (pc rwl (pc rwl (pc rwl pn))))))))) (qc (spr Qaa) (qc (spb (lc (.rn (Qay rn0 rn0)) ln)) (qc (spb (lc (.rn (.plain _ (nld Qae _))) ln)) qn))))⟩
   ·skip
    refine wx tbk [] trivial ?_
    rcases bft (((w64 (p3 - p2)) == 1)) with hc52 | hc52
    ·replace h := Qar hc52 h
     refine wft hc52 (by kernel_rfl) ?_
     refine wx tbk [] trivial ?_
     refine wx tbk [] trivial ?_
     obtain ⟨k54, hk_k54, h⟩ := jko h
     refine wjn (τ := Int) (fun t => k54 t = some r) (fun y53 => ⟨mk 220 [(0, (.own 0 1 (0) (p0))), (2, I p2), (14, I y53)], [(Qei p4), Qcl, (.own 1 [[(Qck p5)]])]⟩) (fun y53 h => ?_) ?_
     ·subst hk_k54
      obtain ⟨k56, hk_k56, h⟩ := jko h
      refine wjn (τ := (List Int)) (fun t => k56 t = some r) (fun y55 => ⟨mk 220 [], [(.own 1 ((y55 : List Int).map Qab)), Qcl, (.own 1 [[(Qck p5)]])]⟩) (fun y55 h => ?_) ?_
      ·subst hk_k56
       refine wmr (mto (n := 220) (l' := []) (own' := [(.own 1 ((y55 : List Int).map Qab)), Qcl, (.own 1 [[(Qck p5)]])]) [] [0, 1, 2] [(.own 1 ((y55 : List Int).map Qab)), Qcl, (.own 1 [[(Qck p5)]])] hφ0 pn (qc (spr Qaa) (qc (spb (lc (.rn (Qay rn0 rn0)) ln)) (qc (spb (lc (.rn (.plain _ (nld Qae _))) ln)) qn)))) ?_
       refine Qah ?_
       refine Qad ?_
       obtain rfl := osi h
       exact ⟨_, Mor.rfl, Qdi (vs := []) trivial rfl (NLt.tup _ nl0) (by kernel_rfl) (Qau (Qd9 Qaa _) (Qau (Qbt (nlc (NLt.of0 (NLt.fn _ _ _ nl0 nl0)) nl0)) (Qau (Qbt (nlc (NLt.of0 (nld Qae _)) nl0)) Qb0)))⟩
      ·skip
       refine wx tbk [] trivial ?_
       refine Qai ?_
       refine wmr (mto (n := 220) (l' := [(0, (.own 0 1 (0) (p0))), (14, I y53), (17, I p2)]) (own' := [(Qei p4), Qcl, (.own 1 [[(Qck p5)]])]) [(0, (.own 0 1 (0) (p0))), (14, I y53), (17, I p2)] [0, 1, 2] [(Qei p4), Qcl, (.own 1 [[(Qck p5)]])] hφ0 (pc (.rn (Qaf rfl)) (pc rwl (pc rwl pn))) (qc (spr Qaa) (qc (spb (lc (.rn (Qay rn0 rn0)) ln)) (qc (spb (lc (.rn (.plain _ (nld Qae _))) ln)) qn)))) ?_
       refine Qbu (τ := Int × (List Int)) (fun n t => Qbx N p0 y53 k56 n t.1 t.2 = some r) (fun ⟨y57, y58⟩ => ⟨mk 220 [(0, (.own 0 1 (0) (p0))), (14, I y53), (17, I y57)], [(Qj6 y58), Qcl, (.own 1 [[(Qck p5)]])]⟩) (fun t h => by rw [Qbx] at h; cases h) (fun n61 ih t h => ?_) N (p2, p4) h
       obtain ⟨y57, y58⟩ := t
       rw [Qbx] at h
       skip
       refine wsq ?_
       refine wx tbk [] trivial ?_
       rcases bft ((decide (y57 > y53))) with hc62 | hc62
       ·replace h := Qar hc62 h
        refine wft hc62 (by kernel_rfl) ?_
        refine Qag ?_
        refine thn ?_
        refine wsq ?_
        refine Qai ?_
        obtain ⟨hi63, h⟩ := cko h
        obtain ⟨hi63a, hi63b⟩ := Qa1 hi63
        obtain ⟨x64, hg65, h⟩ := bno h
        obtain ⟨hi66, h⟩ := cko h
        obtain ⟨hi66a, hi66b⟩ := Qa1 hi66
        obtain ⟨x67, hg68, h⟩ := bno h
        obtain ⟨hi69, h⟩ := cko h
        obtain ⟨hi69a, hi69b⟩ := Qa1 hi69
        obtain ⟨x70, hg71, h⟩ := bno h
        obtain ⟨hi72, h⟩ := cko h
        obtain ⟨hi72a, hi72b⟩ := Qa1 hi72
        obtain ⟨x73, hg74, h⟩ := bno h
        refine wy1 tbk [(8, rb [(.tmp 118, (.own 0 1 (0) (p0))), (.tmp 120, (I (w64 (y57 - 1))))] [(0, (Qj6 y58))] (.ref 0 1 ((w64 (y57 - 1)).toNat) 0)), (9, rb [(.tmp 121, (.ref 0 1 ((w64 (y57 - 1)).toNat) 0))] [(0, (Qj6 y58))] (I x64)), (12, rb [(.tmp 123, (.own 0 1 (0) (p0))), (.tmp 124, I y57)] [(0, (Qj6 y58))] (.ref 0 1 (y57.toNat) 0)), (13, rb [(.tmp 125, (.ref 0 1 (y57.toNat) 0))] [(0, (Qj6 y58))] (I x67)), (14, rb [(.tmp 113, (.own 0 1 (0) (p0))), (.tmp 114, I y57)] [(0, (Qj6 y58))] (.ref 0 1 (y57.toNat) 0)), (15, ⟨[(.tmp 127, (.ref 0 1 (y57.toNat) 0)), (.tmp 122, I x64)], [(0, (Qj6 y58))], .any, [(0, (.own 1 ((y58.set y57.toNat x64 : List Int).map Qab)))], false⟩), (16, rb [(.tmp 115, (.own 0 1 (0) (p0))), (.tmp 117, (I (w64 (y57 - 1))))] [(0, (.own 1 ((y58.set y57.toNat x64 : List Int).map Qab)))] (.ref 0 1 ((w64 (y57 - 1)).toNat) 0)), (17, ⟨[(.tmp 128, (.ref 0 1 ((w64 (y57 - 1)).toNat) 0)), (.tmp 126, I x67)], [(0, (.own 1 ((y58.set y57.toNat x64 : List Int).map Qab)))], .any, [(0, (.own 1 (((y58.set y57.toNat x64).set ((w64 (y57 - 1)).toNat) x67 : List Int).map Qab)))], false⟩)] ⟨aio rfl Try.underlying23 ti3 (odt hi63a) (odt hi63b) (Nat.zero_add _), ald rfl ti3 (by decide) (mgt Qab hg65) (nle rfl) rfl, aio rfl Try.underlying23 ti3 (odt hi66a) (odt hi66b) (Nat.zero_add _), ald rfl ti3 (by decide) (mgt Qab hg68) (nle rfl) rfl, aio rfl Try.underlying23 ti3 (odt hi69a) (odt hi69b) (Nat.zero_add _), ast rfl ti3 (by rfl) (mgt Qab hg71) (nle rfl) (Qel Qab rfl), aio rfl Try.underlying23 ti3 (odt hi72a) (odt hi72b) (Nat.zero_add _), ast rfl ti3 (by rfl) (mgt Qab hg74) (nle rfl) (Qel Qab rfl), trivial⟩ ?_
        refine bln ?_
        refine thn ?_
        refine wx1 tbk [] trivial ?_
        refine thn ?_
        exact arm (mto (n := 220) [(0, (.own 0 1 (0) (p0))), (14, I y53), (17, (I (w64 (y57 - 1))))] [0, 1, 2] [(.own 1 (((y58.set y57.toNat x64).set ((w64 (y57 - 1)).toNat) x67 : List Int).map Qab)), Qcl, (.own 1 [[(Qck p5)]])] hφ0 (pc (.rn (Qaf rfl)) (pc rwl (pc rwl pn))) (qc (spr Qaa) (qc (spb (lc (.rn (Qay rn0 rn0)) ln)) (qc (spb (lc (.rn (.plain _ (nld Qae _))) ln)) qn)))) (ih (w64 (y57 - 1), (y58.set y57.toNat x64).set ((w64 (y57 - 1)).toNat) x67) h)
       ·replace h := Qas hc62 h
        refine wfn hc62 (by kernel_rfl) ?_
        refine Qa3 ?_
        refine Qao ?_
        refine Qao ?_
        refine Qa2 rfl ?_
        refine thn ?_
        exact ⟨(y58), h, (mto (n := 220) [] [0, 1, 2] [(Qj6 y58), Qcl, (.own 1 [[(Qck p5)]])] hφ0 pn (qc (spr Qaa) (qc (spb (lc (.rn (Qay rn0 rn0)) ln)) (qc (spb (lc (.rn (.plain _ (nld Qae _))) ln)) qn))))⟩
     ·skip
      refine Qai ?_
      refine wmr (mto (n := 220) (l' := [(0, (.own 0 1 (0) (p0))), (2, I p2), (4, Qe8), (14, I p1), (15, I p2)]) (own' := [(Qei p4), Qcl, (.own 1 [[(Qck p5)]])]) [(0, (.own 0 1 (0) (p0))), (2, I p2), (4, Qe8), (14, I p1), (15, I p2)] [0, 1, 2] [(Qei p4), Qcl, (.own 1 [[(Qck p5)]])] hφ0 (pc (.rn (Qaf rfl)) (pc rwl (pc (.rn (Qay rn0 (rnc (rqr rfl) (rnc (rqr rfl) rn0)))) (pc rwl (pc rwl pn))))) (qc (spr Qaa) (qc (spb (lc (.rn (Qay rn0 rn0)) ln)) (qc (spb (lc (.rn (.plain _ (nld Qae _))) ln)) qn)))) ?_
      refine Qbu (τ := Int × Int) (fun n t => Qbb N p0 p2 p4 p5 k54 n t.1 t.2 = some r) (fun ⟨y75, y76⟩ => ⟨mk 220 [(0, (.own 0 1 (0) (p0))), (2, I p2), (4, Qe8), (14, I y75), (15, I y76)], [(Qei p4), Qcl, (.own 1 [[(Qck p5)]])]⟩) (fun t h => by rw [Qbb] at h; cases h) (fun n79 ih t h => ?_) N (p1, p2) h
      obtain ⟨y75, y76⟩ := t
      rw [Qbb] at h
      skip
      refine wsq ?_
      refine wx tbk [] trivial ?_
      rcases bft ((decide (y75 < y76))) with hc80 | hc80
      ·replace h := Qar hc80 h
       refine wft hc80 (by kernel_rfl) ?_
       refine Qag ?_
       refine thn ?_
       refine Qai ?_
       obtain ⟨x81, hl82, h⟩ := bno h
       refine wx tbk [(3, rp [(.tmp 88, (I (w64 (y75 + y76))))] (K .u64 (IntKind.wrap .u64 (w64 (y75 + y76))))), (4, rp [(.tmp 89, (K .u64 (IntKind.wrap .u64 (w64 (y75 + y76))))), (.const (.int .u64 1), (K .u64 (1)))] (K .u64 ((IntKind.wrap .u64 (w64 (y75 + y76))) / 2))), (5, rp [(.tmp 90, (K .u64 ((IntKind.wrap .u64 (w64 (y75 + y76))) / 2)))] (I (w64 ((IntKind.wrap .u64 (w64 (y75 + y76))) / 2)))), (6, rp [(.tmp 91, (I (w64 ((IntKind.wrap .u64 (w64 (y75 + y76))) / 2))))] (I x81))] ⟨acv rfl (by rw [Try.underlying3]; rfl) Try.underlying112, Ql1 rfl (by decide) (by decide), acv rfl (by rw [Try.underlying112]; rfl) Try.underlying3, Qd4 hl82 (aas rfl), trivial⟩ ?_
       obtain ⟨hi83, h⟩ := cko h
       obtain ⟨hi83a, hi83b⟩ := Qa1 hi83
       obtain ⟨x84, hg85, h⟩ := bno h
       obtain ⟨hi86, h⟩ := cko h
       obtain ⟨hi86a, hi86b⟩ := Qa1 hi86
       obtain ⟨x87, hg88, h⟩ := bno h
       obtain ⟨x90, hf89, h⟩ := bno h
       refine wxd tbk [(3, rb [(.tmp 93, (.own 0 1 (0) (p0))), (.tmp 94, I p2)] [(0, (Qei p4))] (.ref 0 1 (p2.toNat) 0)), (4, rb [(.tmp 95, (.ref 0 1 (p2.toNat) 0))] [(0, (Qei p4))] (I x84)), (7, rb [(.tmp 97, (.own 0 1 (0) (p0))), (.tmp 98, I x81)] [(0, (Qei p4))] (.ref 0 1 (x81.toNat) 0)), (8, rb [(.tmp 99, (.ref 0 1 (x81.toNat) 0))] [(0, (Qei p4))] (I x87)), (9, ⟨[(.tmp 92, Qe8), (.tmp 96, I x84), (.tmp 100, I x87)], [(1, Qcl), (2, (.own 1 [[(Qck p5)]]))], I x90, [(1, Qcl), (2, (.own 1 [[(Qck p5)]]))], false⟩)] ⟨aio rfl Try.underlying23 ti3 (odt hi83a) (odt hi83b) (Nat.zero_add _), ald rfl ti3 (by decide) (mgt Qab hg85) (nle rfl) rfl, aio rfl Try.underlying23 ti3 (odt hi86a) (odt hi86b) (Nat.zero_add _), ald rfl ti3 (by decide) (mgt Qab hg88) (nle rfl) rfl, Qat (first := []) (cap := [.ref 1 1 0 0, .ref 2 1 0 0]) (vs := [I x84, I x87]) (σr := [Qcl, (.own 1 [[(Qck p5)]])]) (σr' := [Qcl, (.own 1 [[(Qck p5)]])]) (res' := (I x90)) [1, 2] rfl Qqy (Qdk N x84 x87 p5 _ hf89) rfl (Qcq (rnc (.plain _ nll) (rnc (.plain _ nll) (rnc (Qbn rfl) (rnc (Qbn rfl) rn0))))) (slc (Qam (rnc (.plain _ (NLt.fn _ _ _ nl0 nl0)) rn0)) (slc (Qam (rnc (.plain _ (nld Qae _)) rn0)) Qap)) (slc (Qam (rnc (.plain _ (NLt.fn _ _ _ nl0 nl0)) rn0)) (slc (Qam (rnc (.plain _ (nld Qae _)) rn0)) Qap)) (.plain _ nll) rfl rfl rfl, trivial⟩ ?_
       rcases bft ((!(decide (x90 < 0)))) with hc91 | hc91
       ·replace h := Qar hc91 h
        refine wft hc91 (by kernel_rfl) ?_
        refine wx1 tbk [] trivial ?_
        refine bln ?_
        refine thn ?_
        exact arm (mto (n := 220) [(0, (.own 0 1 (0) (p0))), (2, I p2), (4, Qe8), (14, (I (w64 (x81 + 1)))), (15, I y76)] [0, 1, 2] [(Qei p4), Qcl, (.own 1 [[(Qck p5)]])] hφ0 (pc (.rn (Qaf rfl)) (pc rwl (pc (.rn (Qay rn0 (rnc (rqr rfl) (rnc (rqr rfl) rn0)))) (pc rwl (pc rwl pn))))) (qc (spr Qaa) (qc (spb (lc (.rn (Qay rn0 rn0)) ln)) (qc (spb (lc (.rn (.plain _ (nld Qae _))) ln)) qn)))) (ih (w64 (x81 + 1), y76) h)
       ·replace h := Qas hc91 h
        refine wfn hc91 (by kernel_rfl) ?_
        refine wx1 tbk [] trivial ?_
        refine bln ?_
        refine thn ?_
        exact arm (mto (n := 220) [(0, (.own 0 1 (0) (p0))), (2, I p2), (4, Qe8), (14, I y75), (15, I x81)] [0, 1, 2] [(Qei p4), Qcl, (.own 1 [[(Qck p5)]])] hφ0 (pc (.rn (Qaf rfl)) (pc rwl (pc (.rn (Qay rn0 (rnc (rqr rfl) (rnc (rqr rfl) rn0)))) (pc rwl (pc rwl pn))))) (qc (spr Qaa) (qc (spb (lc (.rn (Qay rn0 rn0)) ln)) (qc (spb (lc (.rn (.plain _ (nld Qae _))) ln)) qn)))) (ih (y75, x81) h)
      ·replace h := Qas hc80 h
       refine wfn hc80 (by kernel_rfl) ?_
       refine Qa3 ?_
       refine Qao ?_
       refine Qao ?_
       refine Qa2 rfl ?_
       refine thn ?_
       exact ⟨(y75), h, (mto (n := 220) [(0, (.own 0 1 (0) (p0))), (2, I p2), (14, I y75)] [0, 1, 2] [(Qei p4), Qcl, (.own 1 [[(Qck p5)]])] hφ0 (pc (.rn (Qaf rfl)) (pc rwl (pc rwl pn))) (qc (spr Qaa) (qc (spb (lc (.rn (Qay rn0 rn0)) ln)) (qc (spb (lc (.rn (.plain _ (nld Qae _))) ln)) qn))))⟩
    ·replace h := Qas hc52 h
     refine wfn hc52 (by kernel_rfl) ?_
     refine Qag ?_
     refine thn ?_
     exact ⟨(), h, (mto (n := 220) [(0, (.own 0 1 (0) (p0))), (1, I p1), (2, I p2), (3, I p3), (4, Qe8)] [0, 1, 2] [(Qei p4), Qcl, (.own 1 [[(Qck p5)]])] hφ0 (pc (.rn (Qaf rfl)) (pc rwl (pc rwl (pc rwl (pc (.rn (Qay rn0 (rnc (rqr rfl) (rnc (rqr rfl) rn0)))) pn))))) (qc (spr Qaa) (qc (spb (lc (.rn (Qay rn0 rn0)) ln)) (qc (spb (lc (.rn (.plain _ (nld Qae _))) ln)) qn))))⟩
  ·skip
   refine wx tbk [] trivial ?_
   rcases bft (((w64 (p2 - p1)) == 1)) with hc92 | hc92
   ·replace h := Qar hc92 h
    refine wft hc92 (by kernel_rfl) ?_
    refine wx tbk [] trivial ?_
    refine wx tbk [] trivial ?_
    obtain ⟨k94, hk_k94, h⟩ := jko h
    refine wjn (τ := Int) (fun t => k94 t = some r) (fun y93 => ⟨mk 220 [(0, (.own 0 1 (0) (p0))), (1, I p1), (10, I y93)], [(Qei p4), Qcl, (.own 1 [[(Qck p5)]])]⟩) (fun y93 h => ?_) ?_
    ·subst hk_k94
     obtain ⟨k96, hk_k96, h⟩ := jko h
     refine wjn (τ := (List Int)) (fun t => k96 t = some r) (fun y95 => ⟨mk 220 [], [(.own 1 ((y95 : List Int).map Qab)), Qcl, (.own 1 [[(Qck p5)]])]⟩) (fun y95 h => ?_) ?_
     ·subst hk_k96
      refine wmr (mto (n := 220) (l' := []) (own' := [(.own 1 ((y95 : List Int).map Qab)), Qcl, (.own 1 [[(Qck p5)]])]) [] [0, 1, 2] [(.own 1 ((y95 : List Int).map Qab)), Qcl, (.own 1 [[(Qck p5)]])] hφ0 pn (qc (spr Qaa) (qc (spb (lc (.rn (Qay rn0 rn0)) ln)) (qc (spb (lc (.rn (.plain _ (nld Qae _))) ln)) qn)))) ?_
      refine Qah ?_
      refine Qad ?_
      obtain rfl := osi h
      exact ⟨_, Mor.rfl, Qdi (vs := []) trivial rfl (NLt.tup _ nl0) (by kernel_rfl) (Qau (Qd9 Qaa _) (Qau (Qbt (nlc (NLt.of0 (NLt.fn _ _ _ nl0 nl0)) nl0)) (Qau (Qbt (nlc (NLt.of0 (nld Qae _)) nl0)) Qb0)))⟩
     ·skip
      refine wx tbk [] trivial ?_
      refine Qai ?_
      refine wmr (mto (n := 220) (l' := [(0, (.own 0 1 (0) (p0))), (10, I y93), (13, I p1)]) (own' := [(Qei p4), Qcl, (.own 1 [[(Qck p5)]])]) [(0, (.own 0 1 (0) (p0))), (10, I y93), (13, I p1)] [0, 1, 2] [(Qei p4), Qcl, (.own 1 [[(Qck p5)]])] hφ0 (pc (.rn (Qaf rfl)) (pc rwl (pc rwl pn))) (qc (spr Qaa) (qc (spb (lc (.rn (Qay rn0 rn0)) ln)) (qc (spb (lc (.rn (.plain _ (nld Qae _))) ln)) qn)))) ?_
      refine Qbu (τ := Int × (List Int)) (fun n t => Qbw N p0 y93 k96 n t.1 t.2 = some r) (fun ⟨y97, y98⟩ => ⟨mk 220 [(0, (.own 0 1 (0) (p0))), (10, I y93), (13, I y97)], [(Qj5 y98), Qcl, (.own 1 [[(Qck p5)]])]⟩) (fun t h => by rw [Qbw] at h; cases h) (fun n101 ih t h => ?_) N (p1, p4) h
      obtain ⟨y97, y98⟩ := t
      rw [Qbw] at h
      skip
      refine wsq ?_
      refine wx tbk [] trivial ?_
      rcases bft ((decide (y97 < (w64 (y93 - 1))))) with hc102 | hc102
      ·replace h := Qar hc102 h
       refine wft hc102 (by kernel_rfl) ?_
       refine Qag ?_
       refine thn ?_
       refine wsq ?_
       refine Qai ?_
       obtain ⟨hi103, h⟩ := cko h
       obtain ⟨hi103a, hi103b⟩ := Qa1 hi103
       obtain ⟨x104, hg105, h⟩ := bno h
       obtain ⟨hi106, h⟩ := cko h
       obtain ⟨hi106a, hi106b⟩ := Qa1 hi106
       obtain ⟨x107, hg108, h⟩ := bno h
       obtain ⟨hi109, h⟩ := cko h
       obtain ⟨hi109a, hi109b⟩ := Qa1 hi109
       obtain ⟨x110, hg111, h⟩ := bno h
       obtain ⟨hi112, h⟩ := cko h
       obtain ⟨hi112a, hi112b⟩ := Qa1 hi112
       obtain ⟨x113, hg114, h⟩ := bno h
       refine wy1 tbk [(8, rb [(.tmp 66, (.own 0 1 (0) (p0))), (.tmp 68, (I (w64 (y97 + 1))))] [(0, (Qj5 y98))] (.ref 0 1 ((w64 (y97 + 1)).toNat) 0)), (9, rb [(.tmp 69, (.ref 0 1 ((w64 (y97 + 1)).toNat) 0))] [(0, (Qj5 y98))] (I x104)), (12, rb [(.tmp 71, (.own 0 1 (0) (p0))), (.tmp 72, I y97)] [(0, (Qj5 y98))] (.ref 0 1 (y97.toNat) 0)), (13, rb [(.tmp 73, (.ref 0 1 (y97.toNat) 0))] [(0, (Qj5 y98))] (I x107)), (14, rb [(.tmp 61, (.own 0 1 (0) (p0))), (.tmp 62, I y97)] [(0, (Qj5 y98))] (.ref 0 1 (y97.toNat) 0)), (15, ⟨[(.tmp 75, (.ref 0 1 (y97.toNat) 0)), (.tmp 70, I x104)], [(0, (Qj5 y98))], .any, [(0, (.own 1 ((y98.set y97.toNat x104 : List Int).map Qab)))], false⟩), (16, rb [(.tmp 63, (.own 0 1 (0) (p0))), (.tmp 65, (I (w64 (y97 + 1))))] [(0, (.own 1 ((y98.set y97.toNat x104 : List Int).map Qab)))] (.ref 0 1 ((w64 (y97 + 1)).toNat) 0)), (17, ⟨[(.tmp 76, (.ref 0 1 ((w64 (y97 + 1)).toNat) 0)), (.tmp 74, I x107)], [(0, (.own 1 ((y98.set y97.toNat x104 : List Int).map Qab)))], .any, [(0, (.own 1 (((y98.set y97.toNat x104).set ((w64 (y97 + 1)).toNat) x107 : List Int).map Qab)))], false⟩)] ⟨aio rfl Try.underlying23 ti3 (odt hi103a) (odt hi103b) (Nat.zero_add _), ald rfl ti3 (by decide) (mgt Qab hg105) (nle rfl) rfl, aio rfl Try.underlying23 ti3 (odt hi106a) (odt hi106b) (Nat.zero_add _), ald rfl ti3 (by decide) (mgt Qab hg108) (nle rfl) rfl, aio rfl Try.underlying23 ti3 (odt hi109a) (odt hi109b) (Nat.zero_add _), ast rfl ti3 (by rfl) (mgt Qab hg111) (nle rfl) (Qel Qab rfl), aio rfl Try.underlying23 ti3 (odt hi112a) (odt hi112b) (Nat.zero_add _), ast rfl ti3 (by rfl) (mgt Qab hg114) (nle rfl) (Qel Qab rfl), trivial⟩ ?_
       refine bln ?_
       refine thn ?_
       refine wx1 tbk [] trivial ?_
       refine thn ?_
       exact arm (mto (n := 220) [(0, (.own 0 1 (0) (p0))), (10, I y93), (13, (I (w64 (y97 + 1))))] [0, 1, 2] [(.own 1 (((y98.set y97.toNat x104).set ((w64 (y97 + 1)).toNat) x107 : List Int).map Qab)), Qcl, (.own 1 [[(Qck p5)]])] hφ0 (pc (.rn (Qaf rfl)) (pc rwl (pc rwl pn))) (qc (spr Qaa) (qc (spb (lc (.rn (Qay rn0 rn0)) ln)) (qc (spb (lc (.rn (.plain _ (nld Qae _))) ln)) qn)))) (ih (w64 (y97 + 1), (y98.set y97.toNat x104).set ((w64 (y97 + 1)).toNat) x107) h)
      ·replace h := Qas hc102 h
       refine wfn hc102 (by kernel_rfl) ?_
       refine Qa3 ?_
       refine Qao ?_
       refine Qao ?_
       refine Qa2 rfl ?_
       refine thn ?_
       exact ⟨(y98), h, (mto (n := 220) [] [0, 1, 2] [(Qj5 y98), Qcl, (.own 1 [[(Qck p5)]])] hφ0 pn (qc (spr Qaa) (qc (spb (lc (.rn (Qay rn0 rn0)) ln)) (qc (spb (lc (.rn (.plain _ (nld Qae _))) ln)) qn))))⟩
    ·skip
     refine Qai ?_
     refine wmr (mto (n := 220) (l' := [(0, (.own 0 1 (0) (p0))), (1, I p1), (4, Qe8), (10, I p2), (11, I p3)]) (own' := [(Qei p4), Qcl, (.own 1 [[(Qck p5)]])]) [(0, (.own 0 1 (0) (p0))), (1, I p1), (4, Qe8), (10, I p2), (11, I p3)] [0, 1, 2] [(Qei p4), Qcl, (.own 1 [[(Qck p5)]])] hφ0 (pc (.rn (Qaf rfl)) (pc rwl (pc (.rn (Qay rn0 (rnc (rqr rfl) (rnc (rqr rfl) rn0)))) (pc rwl (pc rwl pn))))) (qc (spr Qaa) (qc (spb (lc (.rn (Qay rn0 rn0)) ln)) (qc (spb (lc (.rn (.plain _ (nld Qae _))) ln)) qn)))) ?_
     refine Qbu (τ := Int × Int) (fun n t => Qba N p0 p1 p4 p5 k94 n t.1 t.2 = some r) (fun ⟨y115, y116⟩ => ⟨mk 220 [(0, (.own 0 1 (0) (p0))), (1, I p1), (4, Qe8), (10, I y115), (11, I y116)], [(Qei p4), Qcl, (.own 1 [[(Qck p5)]])]⟩) (fun t h => by rw [Qba] at h; cases h) (fun n119 ih t h => ?_) N (p2, p3) h
     obtain ⟨y115, y116⟩ := t
     rw [Qba] at h
     skip
     refine wsq ?_
     refine wx tbk [] trivial ?_
     rcases bft ((decide (y115 < y116))) with hc120 | hc120
     ·replace h := Qar hc120 h
      refine wft hc120 (by kernel_rfl) ?_
      refine Qag ?_
      refine thn ?_
      refine Qai ?_
      obtain ⟨x121, hl122, h⟩ := bno h
      refine wx tbk [(3, rp [(.tmp 36, (I (w64 (y115 + y116))))] (K .u64 (IntKind.wrap .u64 (w64 (y115 + y116))))), (4, rp [(.tmp 37, (K .u64 (IntKind.wrap .u64 (w64 (y115 + y116))))), (.const (.int .u64 1), (K .u64 (1)))] (K .u64 ((IntKind.wrap .u64 (w64 (y115 + y116))) / 2))), (5, rp [(.tmp 38, (K .u64 ((IntKind.wrap .u64 (w64 (y115 + y116))) / 2)))] (I (w64 ((IntKind.wrap .u64 (w64 (y115 + y116))) / 2)))), (6, rp [(.tmp 39, (I (w64 ((IntKind.wrap .u64 (w64 (y115 + y116))) / 2))))] (I x121))] ⟨acv rfl (by rw [Try.underlying3]; rfl) Try.underlying112, Ql1 rfl (by decide) (by decide), acv rfl (by rw [Try.underlying112]; rfl) Try.underlying3, Qd4 hl122 (aas rfl), trivial⟩ ?_
      obtain ⟨hi123, h⟩ := cko h
      obtain ⟨hi123a, hi123b⟩ := Qa1 hi123
      obtain ⟨x124, hg125, h⟩ := bno h
      obtain ⟨hi126, h⟩ := cko h
      obtain ⟨hi126a, hi126b⟩ := Qa1 hi126
      obtain ⟨x127, hg128, h⟩ := bno h
      obtain ⟨x130, hf129, h⟩ := bno h
      refine wxd tbk [(3, rb [(.tmp 41, (.own 0 1 (0) (p0))), (.tmp 42, I x121)] [(0, (Qei p4))] (.ref 0 1 (x121.toNat) 0)), (4, rb [(.tmp 43, (.ref 0 1 (x121.toNat) 0))] [(0, (Qei p4))] (I x124)), (7, rb [(.tmp 45, (.own 0 1 (0) (p0))), (.tmp 46, I p1)] [(0, (Qei p4))] (.ref 0 1 (p1.toNat) 0)), (8, rb [(.tmp 47, (.ref 0 1 (p1.toNat) 0))] [(0, (Qei p4))] (I x127)), (9, ⟨[(.tmp 40, Qe8), (.tmp 44, I x124), (.tmp 48, I x127)], [(1, Qcl), (2, (.own 1 [[(Qck p5)]]))], I x130, [(1, Qcl), (2, (.own 1 [[(Qck p5)]]))], false⟩)] ⟨aio rfl Try.underlying23 ti3 (odt hi123a) (odt hi123b) (Nat.zero_add _), ald rfl ti3 (by decide) (mgt Qab hg125) (nle rfl) rfl, aio rfl Try.underlying23 ti3 (odt hi126a) (odt hi126b) (Nat.zero_add _), ald rfl ti3 (by decide) (mgt Qab hg128) (nle rfl) rfl, Qat (first := []) (cap := [.ref 1 1 0 0, .ref 2 1 0 0]) (vs := [I x124, I x127]) (σr := [Qcl, (.own 1 [[(Qck p5)]])]) (σr' := [Qcl, (.own 1 [[(Qck p5)]])]) (res' := (I x130)) [1, 2] rfl Qqy (Qdk N x124 x127 p5 _ hf129) rfl (Qcq (rnc (.plain _ nll) (rnc (.plain _ nll) (rnc (Qbn rfl) (rnc (Qbn rfl) rn0))))) (slc (Qam (rnc (.plain _ (NLt.fn _ _ _ nl0 nl0)) rn0)) (slc (Qam (rnc (.plain _ (nld Qae _)) rn0)) Qap)) (slc (Qam (rnc (.plain _ (NLt.fn _ _ _ nl0 nl0)) rn0)) (slc (Qam (rnc (.plain _ (nld Qae _)) rn0)) Qap)) (.plain _ nll) rfl rfl rfl, trivial⟩ ?_
      rcases bft ((decide (x130 < 0))) with hc131 | hc131
      ·replace h := Qar hc131 h
       refine wft hc131 (by kernel_rfl) ?_
       refine wx1 tbk [] trivial ?_
       refine bln ?_
       refine thn ?_
       exact arm (mto (n := 220) [(0, (.own 0 1 (0) (p0))), (1, I p1), (4, Qe8), (10, (I (w64 (x121 + 1)))), (11, I y116)] [0, 1, 2] [(Qei p4), Qcl, (.own 1 [[(Qck p5)]])] hφ0 (pc (.rn (Qaf rfl)) (pc rwl (pc (.rn (Qay rn0 (rnc (rqr rfl) (rnc (rqr rfl) rn0)))) (pc rwl (pc rwl pn))))) (qc (spr Qaa) (qc (spb (lc (.rn (Qay rn0 rn0)) ln)) (qc (spb (lc (.rn (.plain _ (nld Qae _))) ln)) qn)))) (ih (w64 (x121 + 1), y116) h)
      ·replace h := Qas hc131 h
       refine wfn hc131 (by kernel_rfl) ?_
       refine wx1 tbk [] trivial ?_
       refine bln ?_
       refine thn ?_
       exact arm (mto (n := 220) [(0, (.own 0 1 (0) (p0))), (1, I p1), (4, Qe8), (10, I y115), (11, I x121)] [0, 1, 2] [(Qei p4), Qcl, (.own 1 [[(Qck p5)]])] hφ0 (pc (.rn (Qaf rfl)) (pc rwl (pc (.rn (Qay rn0 (rnc (rqr rfl) (rnc (rqr rfl) rn0)))) (pc rwl (pc rwl pn))))) (qc (spr Qaa) (qc (spb (lc (.rn (Qay rn0 rn0)) ln)) (qc (spb (lc (.rn (.plain _ (nld Qae _))) ln)) qn)))) (ih (y115, x121) h)
     ·replace h := Qas hc120 h
      refine wfn hc120 (by kernel_rfl) ?_
      refine Qa3 ?_
      refine Qao ?_
      refine Qao ?_
      refine Qa2 rfl ?_
      refine thn ?_
      exact ⟨(y115), h, (mto (n := 220) [(0, (.own 0 1 (0) (p0))), (1, I p1), (10, I y115)] [0, 1, 2] [(Qei p4), Qcl, (.own 1 [[(Qck p5)]])] hφ0 (pc (.rn (Qaf rfl)) (pc rwl (pc rwl pn))) (qc (spr Qaa) (qc (spb (lc (.rn (Qay rn0 rn0)) ln)) (qc (spb (lc (.rn (.plain _ (nld Qae _))) ln)) qn))))⟩
   ·replace h := Qas hc92 h
    refine wfn hc92 (by kernel_rfl) ?_
    refine Qag ?_
    refine thn ?_
    exact ⟨(), h, (mto (n := 220) [(0, (.own 0 1 (0) (p0))), (1, I p1), (2, I p2), (3, I p3), (4, Qe8)] [0, 1, 2] [(Qei p4), Qcl, (.own 1 [[(Qck p5)]])] hφ0 (pc (.rn (Qaf rfl)) (pc rwl (pc rwl (pc rwl (pc (.rn (Qay rn0 (rnc (rqr rfl) (rnc (rqr rfl) rn0)))) pn))))) (qc (spr Qaa) (qc (spb (lc (.rn (Qay rn0 rn0)) ln)) (qc (spb (lc (.rn (.plain _ (nld Qae _))) ln)) qn))))⟩
def Qb6 (N : Nat) (p0 : Nat) (p1 : Int) (p3 : (List GNode)) (y7 : Int) (k15 : Int × (List Int) → Option (List Int)) : Nat → Int → Int → (List Int) → Option (List Int)
  | 0, _, _, _ => none
  | n25 + 1, y19, y20, y21 =>
    bif (decide (y20 ≤ p1)) then
     (Qc1 N p0 y19 (w64 (y19 + y7)) y20 y21 p3).bind fun x28 =>
     (some (w64 (y20 + (w64 (2 * y7))))).bind fun x29 =>
     Qb6 N p0 p1 p3 y7 k15 n25 y20 x29 x28
    else
     k15 (y19, y21)
def Qbi (N : Nat) (p0 : Nat) (p1 : Int) (p3 : (List GNode)) : Nat → Int → (List Int) → Option (List Int)
  | 0, _, _ => none
  | n11 + 1, y7, y8 =>
    bif (decide (y7 < p1)) then
     Qbr (fun ⟨y13, y14⟩ =>
       bif (decide ((w64 (y13 + y7)) < p1)) then
        (Qc1 N p0 y13 (w64 (y13 + y7)) p1 y14 p3).bind fun x18 =>
        Qbi N p0 p1 p3 n11 (w64 (y7 * 2)) x18
       else
        Qbi N p0 p1 p3 n11 (w64 (y7 * 2)) y14) fun k15 : Int × (List Int) → Option (List Int) =>
     Qb6 N p0 p1 p3 y7 k15 N 0 (w64 (2 * y7)) y8
    else
     some y8
def Qb5 (N : Nat) (p0 : Nat) (p1 : Int) (p3 : (List GNode)) (k4 : Int × (List Int) → Option (List Int)) : Nat → Int → Int → (List Int) → Option (List Int)
  | 0, _, _, _ => none
  | n37 + 1, y31, y32, y33 =>
    bif (decide (y32 ≤ p1)) then
     (Qc2 N p0 y31 y32 y33 p3).bind fun x40 =>
     Qb5 N p0 p1 p3 k4 n37 y32 (w64 (y32 + 20)) x40
    else
     k4 (y31, y33)
def Qeu (N : Nat) (p0 : Nat) (p1 : Int) (p2 : (List Int)) (p3 : (List GNode)) : Option (List Int) :=
  Qbr (fun ⟨y2, y3⟩ =>
    (Qc2 N p0 y2 p1 y3 p3).bind fun x6 =>
    Qbi N p0 p1 p3 N 20 x6) fun k4 : Int × (List Int) → Option (List Int) =>
  Qb5 N p0 p1 p3 k4 N 0 20 p2
def Qhf : AV := .fn (.func 96) [] [(.ref 1 1 (0) 0), (.ref 2 1 (0) 0)]
def z23_1 (p2 : (List Int)) : Slot := .own 1 ((p2 : List Int).map Qab)
def Qfx : Slot := .own 1 [[(.fn (.func 70) [] [])]]
def Qfw (p3 : (List GNode)) : AV := .dat 4 ((p3 : List GNode).map Qa0)
def z23_5 (y3 : (List Int)) : Slot := .own 1 ((y3 : List Int).map Qab)
def z23_6 (x6 : (List Int)) : Slot := .own 1 ((x6 : List Int).map Qab)
def Qrj (y8 : (List Int)) : Slot := .own 1 ((y8 : List Int).map Qab)
def Quc (y14 : (List Int)) : Slot := .own 1 ((y14 : List Int).map Qab)
def Qub (y21 : (List Int)) : Slot := .own 1 ((y21 : List Int).map Qab)
def Qua (y33 : (List Int)) : Slot := .own 1 ((y33 : List Int).map Qab)
set_option maxRecDepth 100000 in
set_option maxHeartbeats 4000000 in
theorem Qhh (N : Nat) (p0 : Nat) (p1 : Int) (p2 : (List Int)) (p3 : (List GNode)) (r : (List Int)) (h : Qeu N p0 p1 p2 p3 = some r) : Spec Try.prog 110 [(.own 0 1 (0) (p0)), (I (p1)), Qhf] [(z23_1 p2), Qfx, (.own 1 [[(Qfw p3)]])] (.tup []) [(.own 1 ((r : List Int).map Qab)), Qfx, (.own 1 [[(Qfw p3)]])] := by
  refine Qal Try.func110 rfl 3 (nle rfl) (fun X φ0 w0 hφ0 => ?_)
  unfold Qeu at h
  refine Qc3 ?_
  refine wx tbk [] trivial ?_
  refine wx tbk [] trivial ?_
  obtain ⟨k4, hk_k4, h⟩ := jko h
  refine wjn (τ := Int × (List Int)) (fun t => k4 t = some r) (fun ⟨y2, y3⟩ => ⟨mk 63 [(0, (.own 0 1 (0) (p0))), (1, I p1), (2, Qhf), (6, I 20), (7, I y2)], [(z23_5 y3), Qfx, (.own 1 [[(Qfw p3)]])]⟩) (fun t h => ?_) ?_
  ·subst hk_k4
   obtain ⟨y2, y3⟩ := t
   obtain ⟨x6, hf5, h⟩ := bno h
   refine wx tbk [(4, ⟨[fu 114, (.tmp 23, (.own 0 1 (0) (p0))), (.tmp 24, I y2), (.tmp 25, I p1), (.tmp 26, Qhf)], [(0, (z23_5 y3)), (1, Qfx), (2, (.own 1 [[(Qfw p3)]]))], (.tup []), [(0, (z23_6 x6)), (1, Qfx), (2, (.own 1 [[(Qfw p3)]]))], false⟩)] ⟨Qat (first := []) (cap := []) (vs := [(.own 0 1 (0) (p0)), I y2, I p1, Qhf]) (σr := [(z23_5 y3), Qfx, (.own 1 [[(Qfw p3)]])]) (σr' := [(z23_6 x6), Qfx, (.own 1 [[(Qfw p3)]])]) (res' := (.tup [])) [0, 1, 2] rfl Qva (Qeh N p0 y2 p1 y3 p3 _ hf5) rfl (Qcq (rnc (Qex rfl) (rnc (.plain _ nll) (rnc (.plain _ nll) (rnc (Qay rn0 (rnc (Qbn rfl) (rnc (Qbn rfl) rn0))) rn0))))) (slc (Qbg Qaa) (slc (Qam (rnc (.plain _ (NLt.fn _ _ _ nl0 nl0)) rn0)) (slc (Qam (rnc (.plain _ (nld Qae _)) rn0)) Qap))) (slc (Qbg Qaa) (slc (Qam (rnc (.plain _ (NLt.fn _ _ _ nl0 nl0)) rn0)) (slc (Qam (rnc (.plain _ (nld Qae _)) rn0)) Qap))) (.plain _ (NLt.tup _ nl0)) rfl rfl rfl, trivial⟩ ?_
   refine Qai ?_
   refine wmr (mto (n := 63) (l' := [(0, (.own 0 1 (0) (p0))), (1, I p1), (2, Qhf), (6, I 20)]) (own' := [(z23_6 x6), Qfx, (.own 1 [[(Qfw p3)]])]) [(0, (.own 0 1 (0) (p0))), (1, I p1), (2, Qhf), (6, I 20)] [0, 1, 2] [(z23_6 x6), Qfx, (.own 1 [[(Qfw p3)]])] hφ0 (pc (.rn (Qaf rfl)) (pc rwl (pc (.rn (Qay rn0 (rnc (rqr rfl) (rnc (rqr rfl) rn0)))) (pc rwl pn)))) (qc (spr Qaa) (qc (spb (lc (.rn (Qay rn0 rn0)) ln)) (qc (spb (lc (.rn (.plain _ (nld Qae _))) ln)) qn)))) ?_
   refine Qbu (τ := Int × (List Int)) (fun n t => Qbi N p0 p1 p3 n t.1 t.2 = some r) (fun ⟨y7, y8⟩ => ⟨mk 63 [(0, (.own 0 1 (0) (p0))), (1, I p1), (2, Qhf), (6, I y7)], [(Qrj y8), Qfx, (.own 1 [[(Qfw p3)]])]⟩) (fun t h => by rw [Qbi] at h; cases h) (fun n11 ih t h => ?_) N (20, x6) h
   obtain ⟨y7, y8⟩ := t
   rw [Qbi] at h
   skip
   refine wsq ?_
   refine wx tbk [] trivial ?_
   rcases bft ((decide (y7 < p1))) with hc12 | hc12
   ·replace h := Qar hc12 h
    refine wft hc12 (by kernel_rfl) ?_
    refine Qag ?_
    refine thn ?_
    refine Qai ?_
    refine wx tbk [] trivial ?_
    obtain ⟨k15, hk_k15, h⟩ := jko h
    refine wjn (τ := Int × (List Int)) (fun t => k15 t = some r) (fun ⟨y13, y14⟩ => ⟨mk 63 [(0, (.own 0 1 (0) (p0))), (1, I p1), (2, Qhf), (6, I y7), (7, I y13)], [(Quc y14), Qfx, (.own 1 [[(Qfw p3)]])]⟩) (fun t h => ?_) ?_
    ·subst hk_k15
     obtain ⟨y13, y14⟩ := t
     refine wsq ?_
     refine wx tbk [] trivial ?_
     refine wx tbk [] trivial ?_
     rcases bft ((decide ((w64 (y13 + y7)) < p1))) with hc16 | hc16
     ·replace h := Qar hc16 h
      refine wft hc16 (by kernel_rfl) ?_
      obtain ⟨x18, hf17, h⟩ := bno h
      refine wx1 tbk [(5, ⟨[fu 115, (.tmp 55, (.own 0 1 (0) (p0))), (.tmp 56, I y13), (.tmp 57, (I (w64 (y13 + y7)))), (.tmp 58, I p1), (.tmp 59, Qhf)], [(0, (Quc y14)), (1, Qfx), (2, (.own 1 [[(Qfw p3)]]))], (.tup []), [(0, (.own 1 ((x18 : List Int).map Qab))), (1, Qfx), (2, (.own 1 [[(Qfw p3)]]))], false⟩)] ⟨Qat (first := []) (cap := []) (vs := [(.own 0 1 (0) (p0)), I y13, (I (w64 (y13 + y7))), I p1, Qhf]) (σr := [(Quc y14), Qfx, (.own 1 [[(Qfw p3)]])]) (σr' := [(.own 1 ((x18 : List Int).map Qab)), Qfx, (.own 1 [[(Qfw p3)]])]) (res' := (.tup [])) [0, 1, 2] rfl Qnh (Qe7 N p0 y13 (w64 (y13 + y7)) p1 y14 p3 _ hf17) rfl (Qcq (rnc (Qex rfl) (rnc (.plain _ nll) (rnc (.plain _ nll) (rnc (.plain _ nll) (rnc (Qay rn0 (rnc (Qbn rfl) (rnc (Qbn rfl) rn0))) rn0)))))) (slc (Qbg Qaa) (slc (Qam (rnc (.plain _ (NLt.fn _ _ _ nl0 nl0)) rn0)) (slc (Qam (rnc (.plain _ (nld Qae _)) rn0)) Qap))) (slc (Qbg Qaa) (slc (Qam (rnc (.plain _ (NLt.fn _ _ _ nl0 nl0)) rn0)) (slc (Qam (rnc (.plain _ (nld Qae _)) rn0)) Qap))) (.plain _ (NLt.tup _ nl0)) rfl rfl rfl, trivial⟩ ?_
      refine thn ?_
      refine wx1 tbk [] trivial ?_
      refine bln ?_
      refine thn ?_
      exact arm (mto (n := 63) [(0, (.own 0 1 (0) (p0))), (1, I p1), (2, Qhf), (6, (I (w64 (y7 * 2))))] [0, 1, 2] [(.own 1 ((x18 : List Int).map Qab)), Qfx, (.own 1 [[(Qfw p3)]])] hφ0 (pc (.rn (Qaf rfl)) (pc rwl (pc (.rn (Qay rn0 (rnc (rqr rfl) (rnc (rqr rfl) rn0)))) (pc rwl pn)))) (qc (spr Qaa) (qc (spb (lc (.rn (Qay rn0 rn0)) ln)) (qc (spb (lc (.rn (.plain _ (nld Qae _))) ln)) qn)))) (ih (w64 (y7 * 2), x18) h)
     ·replace h := Qas hc16 h
      refine wfn hc16 (by kernel_rfl) ?_
      refine Qag ?_
      refine thn ?_
      refine wx1 tbk [] trivial ?_
      refine bln ?_
      refine thn ?_
      exact arm (mto (n := 63) [(0, (.own 0 1 (0) (p0))), (1, I p1), (2, Qhf), (6, (I (w64 (y7 * 2))))] [0, 1, 2] [(Quc y14), Qfx, (.own 1 [[(Qfw p3)]])] hφ0 (pc (.rn (Qaf rfl)) (pc rwl (pc (.rn (Qay rn0 (rnc (rqr rfl) (rnc (rqr rfl) rn0)))) (pc rwl pn)))) (qc (spr Qaa) (qc (spb (lc (.rn (Qay rn0 rn0)) ln)) (qc (spb (lc (.rn (.plain _ (nld Qae _))) ln)) qn)))) (ih (w64 (y7 * 2), y14) h)
    ·skip
     refine Qai ?_
     refine wmr (mto (n := 63) (l' := [(0, (.own 0 1 (0) (p0))), (1, I p1), (2, Qhf), (6, I y7), (7, I 0), (8, (I ((w64 (2 * y7)))))]) (own' := [(Qrj y8), Qfx, (.own 1 [[(Qfw p3)]])]) [(0, (.own 0 1 (0) (p0))), (1, I p1), (2, Qhf), (6, I y7), (7, I 0), (8, (I (w64 (2 * y7))))] [0, 1, 2] [(Qrj y8), Qfx, (.own 1 [[(Qfw p3)]])] hφ0 (pc (.rn (Qaf rfl)) (pc rwl (pc (.rn (Qay rn0 (rnc (rqr rfl) (rnc (rqr rfl) rn0)))) (pc rwl (pc rwl (pc rwl pn)))))) (qc (spr Qaa) (qc (spb (lc (.rn (Qay rn0 rn0)) ln)) (qc (spb (lc (.rn (.plain _ (nld Qae _))) ln)) qn)))) ?_
     refine Qbu (τ := Int × Int × (List Int)) (fun n t => Qb6 N p0 p1 p3 y7 k15 n t.1 t.2.1 t.2.2 = some r) (fun ⟨y19, y20, y21⟩ => ⟨mk 63 [(0, (.own 0 1 (0) (p0))), (1, I p1), (2, Qhf), (6, I y7), (7, I y19), (8, I y20)], [(Qub y21), Qfx, (.own 1 [[(Qfw p3)]])]⟩) (fun t h => by rw [Qb6] at h; cases h) (fun n25 ih t h => ?_) N (0, w64 (2 * y7), y8) h
     obtain ⟨y19, y20, y21⟩ := t
     rw [Qb6] at h
     skip
     refine wsq ?_
     refine wx tbk [] trivial ?_
     rcases bft ((decide (y20 ≤ p1))) with hc26 | hc26
     ·replace h := Qar hc26 h
      refine wft hc26 (by kernel_rfl) ?_
      refine Qag ?_
      refine thn ?_
      refine Qai ?_
      obtain ⟨x28, hf27, h⟩ := bno h
      refine wx tbk [(7, ⟨[fu 115, (.tmp 36, (.own 0 1 (0) (p0))), (.tmp 37, I y19), (.tmp 40, (I (w64 (y19 + y7)))), (.tmp 41, I y20), (.tmp 42, Qhf)], [(0, (Qub y21)), (1, Qfx), (2, (.own 1 [[(Qfw p3)]]))], (.tup []), [(0, (.own 1 ((x28 : List Int).map Qab))), (1, Qfx), (2, (.own 1 [[(Qfw p3)]]))], false⟩)] ⟨Qat (first := []) (cap := []) (vs := [(.own 0 1 (0) (p0)), I y19, (I (w64 (y19 + y7))), I y20, Qhf]) (σr := [(Qub y21), Qfx, (.own 1 [[(Qfw p3)]])]) (σr' := [(.own 1 ((x28 : List Int).map Qab)), Qfx, (.own 1 [[(Qfw p3)]])]) (res' := (.tup [])) [0, 1, 2] rfl Qnh (Qe7 N p0 y19 (w64 (y19 + y7)) y20 y21 p3 _ hf27) rfl (Qcq (rnc (Qex rfl) (rnc (.plain _ nll) (rnc (.plain _ nll) (rnc (.plain _ nll) (rnc (Qay rn0 (rnc (Qbn rfl) (rnc (Qbn rfl) rn0))) rn0)))))) (slc (Qbg Qaa) (slc (Qam (rnc (.plain _ (NLt.fn _ _ _ nl0 nl0)) rn0)) (slc (Qam (rnc (.plain _ (nld Qae _)) rn0)) Qap))) (slc (Qbg Qaa) (slc (Qam (rnc (.plain _ (NLt.fn _ _ _ nl0 nl0)) rn0)) (slc (Qam (rnc (.plain _ (nld Qae _)) rn0)) Qap))) (.plain _ (NLt.tup _ nl0)) rfl rfl rfl, trivial⟩ ?_
      refine wx tbk [] trivial ?_
      obtain ⟨x29, hl30, h⟩ := bno h
      refine wx1 tbk [(4, rp [(.tmp 48, (I (w64 (y20 + (w64 (2 * y7))))))] (I x29))] ⟨Qd4 hl30 (aas rfl), trivial⟩ ?_
      refine bln ?_
      refine thn ?_
      exact arm (mto (n := 63) [(0, (.own 0 1 (0) (p0))), (1, I p1), (2, Qhf), (6, I y7), (7, I y20), (8, I x29)] [0, 1, 2] [(.own 1 ((x28 : List Int).map Qab)), Qfx, (.own 1 [[(Qfw p3)]])] hφ0 (pc (.rn (Qaf rfl)) (pc rwl (pc (.rn (Qay rn0 (rnc (rqr rfl) (rnc (rqr rfl) rn0)))) (pc rwl (pc rwl (pc rwl pn)))))) (qc (spr Qaa) (qc (spb (lc (.rn (Qay rn0 rn0)) ln)) (qc (spb (lc (.rn (.plain _ (nld Qae _))) ln)) qn)))) (ih (y20, x29, x28) h)
     ·replace h := Qas hc26 h
      refine wfn hc26 (by kernel_rfl) ?_
      refine Qa3 ?_
      refine Qao ?_
      refine Qao ?_
      refine Qa2 rfl ?_
      refine thn ?_
      exact ⟨(y19, y21), h, (mto (n := 63) [(0, (.own 0 1 (0) (p0))), (1, I p1), (2, Qhf), (6, I y7), (7, I y19)] [0, 1, 2] [(Qub y21), Qfx, (.own 1 [[(Qfw p3)]])] hφ0 (pc (.rn (Qaf rfl)) (pc rwl (pc (.rn (Qay rn0 (rnc (rqr rfl) (rnc (rqr rfl) rn0)))) (pc rwl (pc rwl pn))))) (qc (spr Qaa) (qc (spb (lc (.rn (Qay rn0 rn0)) ln)) (qc (spb (lc (.rn (.plain _ (nld Qae _))) ln)) qn))))⟩
   ·replace h := Qas hc12 h
    refine wfn hc12 (by kernel_rfl) ?_
    refine Qa3 ?_
    refine Qao ?_
    refine Qao ?_
    refine Qa2 rfl ?_
    obtain rfl := osi h
    exact ⟨_, (mto (n := 63) (l' := []) (own' := [(Qrj y8), Qfx, (.own 1 [[(Qfw p3)]])]) [] [0, 1, 2] [(Qrj y8), Qfx, (.own 1 [[(Qfw p3)]])] hφ0 pn (qc (spr Qaa) (qc (spb (lc (.rn (Qay rn0 rn0)) ln)) (qc (spb (lc (.rn (.plain _ (nld Qae _))) ln)) qn)))), Qdi (vs := []) trivial rfl (NLt.tup _ nl0) (by kernel_rfl) (Qau (Qd9 Qaa _) (Qau (Qbt (nlc (NLt.of0 (NLt.fn _ _ _ nl0 nl0)) nl0)) (Qau (Qbt (nlc (NLt.of0 (nld Qae _)) nl0)) Qb0)))⟩
  ·skip
   refine Qai ?_
   refine wmr (mto (n := 63) (l' := [(0, (.own 0 1 (0) (p0))), (1, I p1), (2, Qhf), (6, I 20), (7, I 0), (8, I 20)]) (own' := [(z23_1 p2), Qfx, (.own 1 [[(Qfw p3)]])]) [(0, (.own 0 1 (0) (p0))), (1, I p1), (2, Qhf), (6, I 20), (7, I 0), (8, I 20)] [0, 1, 2] [(z23_1 p2), Qfx, (.own 1 [[(Qfw p3)]])] hφ0 (pc (.rn (Qaf rfl)) (pc rwl (pc (.rn (Qay rn0 (rnc (rqr rfl) (rnc (rqr rfl) rn0)))) (pc rwl (pc rwl (pc rwl pn)))))) (qc (spr Qaa) (qc (spb (lc (.rn (Qay rn0 rn0)) ln)) (qc (spb (lc (.rn (.plain _ (nld Qae _))) ln)) qn)))) ?_
   refine Qbu (τ := Int × Int × (List Int)) (fun n t => Qb5 N p0 p1 p3 k4 n t.1 t.2.1 t.2.2 = some r) (fun ⟨y31, y32, y33⟩ => ⟨mk 63 [(0, (.own 0 1 (0) (p0))), (1, I p1), (2, Qhf), (6, I 20), (7, I y31), (8, I y32)], [(Qua y33), Qfx, (.own 1 [[(Qfw p3)]])]⟩) (fun t h => by rw [Qb5] at h; cases h) (fun n37 ih t h => ?_) N (0, 20, p2) h
   obtain ⟨y31, y32, y33⟩ := t
   rw [Qb5] at h
   skip
   refine wsq ?_
   refine wx tbk [] trivial ?_
   rcases bft ((decide (y32 ≤ p1))) with hc38 | hc38
   ·replace h := Qar hc38 h
    refine wft hc38 (by kernel_rfl) ?_
    refine Qag ?_
    refine thn ?_
    refine Qai ?_
    obtain ⟨x40, hf39, h⟩ := bno h
    refine wx tbk [(4, ⟨[fu 114, (.tmp 14, (.own 0 1 (0) (p0))), (.tmp 15, I y31), (.tmp 16, I y32), (.tmp 17, Qhf)], [(0, (Qua y33)), (1, Qfx), (2, (.own 1 [[(Qfw p3)]]))], (.tup []), [(0, (.own 1 ((x40 : List Int).map Qab))), (1, Qfx), (2, (.own 1 [[(Qfw p3)]]))], false⟩)] ⟨Qat (first := []) (cap := []) (vs := [(.own 0 1 (0) (p0)), I y31, I y32, Qhf]) (σr := [(Qua y33), Qfx, (.own 1 [[(Qfw p3)]])]) (σr' := [(.own 1 ((x40 : List Int).map Qab)), Qfx, (.own 1 [[(Qfw p3)]])]) (res' := (.tup [])) [0, 1, 2] rfl Qva (Qeh N p0 y31 y32 y33 p3 _ hf39) rfl (Qcq (rnc (Qex rfl) (rnc (.plain _ nll) (rnc (.plain _ nll) (rnc (Qay rn0 (rnc (Qbn rfl) (rnc (Qbn rfl) rn0))) rn0))))) (slc (Qbg Qaa) (slc (Qam (rnc (.plain _ (NLt.fn _ _ _ nl0 nl0)) rn0)) (slc (Qam (rnc (.plain _ (nld Qae _)) rn0)) Qap))) (slc (Qbg Qaa) (slc (Qam (rnc (.plain _ (NLt.fn _ _ _ nl0 nl0)) rn0)) (slc (Qam (rnc (.plain _ (nld Qae _)) rn0)) Qap))) (.plain _ (NLt.tup _ nl0)) rfl rfl rfl, trivial⟩ ?_
    refine wx tbk [] trivial ?_
    refine wx1 tbk [] trivial ?_
    refine bln ?_
    refine thn ?_
    exact arm (mto (n := 63) [(0, (.own 0 1 (0) (p0))), (1, I p1), (2, Qhf), (6, I 20), (7, I y32), (8, (I (w64 (y32 + 20))))] [0, 1, 2] [(.own 1 ((x40 : List Int).map Qab)), Qfx, (.own 1 [[(Qfw p3)]])] hφ0 (pc (.rn (Qaf rfl)) (pc rwl (pc (.rn (Qay rn0 (rnc (rqr rfl) (rnc (rqr rfl) rn0)))) (pc rwl (pc rwl (pc rwl pn)))))) (qc (spr Qaa) (qc (spb (lc (.rn (Qay rn0 rn0)) ln)) (qc (spb (lc (.rn (.plain _ (nld Qae _))) ln)) qn)))) (ih (y32, w64 (y32 + 20), x40) h)
   ·replace h := Qas hc38 h
    refine wfn hc38 (by kernel_rfl) ?_
    refine Qa3 ?_
    refine Qao ?_
    refine Qao ?_
    refine Qa2 rfl ?_
    refine thn ?_
    exact ⟨(y31, y33), h, (mto (n := 63) [(0, (.own 0 1 (0) (p0))), (1, I p1), (2, Qhf), (6, I 20), (7, I y31)] [0, 1, 2] [(Qua y33), Qfx, (.own 1 [[(Qfw p3)]])] hφ0 (pc (.rn (Qaf rfl)) (pc rwl (pc (.rn (Qay rn0 (rnc (rqr rfl) (rnc (rqr rfl) rn0)))) (pc rwl (pc rwl pn))))) (qc (spr Qaa) (qc (spb (lc (.rn (Qay rn0 rn0)) ln)) (qc (spb (lc (.rn (.plain _ (nld Qae _))) ln)) qn))))⟩
def Qd2 (N : Nat) (p0 : Nat) (p1 : (List Int)) (p2 : (List GNode)) : Option (List Int) :=
  (Qeu N p0 ((p0 : Nat) : Int) p1 p2).bind fun x3 =>
  some x3
def z22_0 : AV := .fn (.func 96) [] [(.ref 1 1 (0) 0), (.ref 2 1 (0) 0)]
def z22_1 (p1 : (List Int)) : Slot := .own 1 ((p1 : List Int).map Qab)
def Qrl : Slot := .own 1 [[(.fn (.func 70) [] [])]]
def Qrk (p2 : (List GNode)) : AV := .dat 4 ((p2 : List GNode).map Qa0)
def z22_5 (x3 : (List Int)) : Slot := .own 1 ((x3 : List Int).map Qab)
set_option maxRecDepth 100000 in
set_option maxHeartbeats 4000000 in
theorem Qgk (N : Nat) (p0 : Nat) (p1 : (List Int)) (p2 : (List GNode)) (r : (List Int)) (h : Qd2 N p0 p1 p2 = some r) : Spec Try.prog 95 [(.own 0 1 (0) (p0)), z22_0] [(z22_1 p1), Qrl, (.own 1 [[(Qrk p2)]])] (.tup []) [(.own 1 ((r : List Int).map Qab)), Qrl, (.own 1 [[(Qrk p2)]])] := by
  refine Qal Try.func95 rfl 3 (nle rfl) (fun X φ0 w0 hφ0 => ?_)
  unfold Qd2 at h
  refine Qc3 ?_
  obtain ⟨x3, hf2, h⟩ := bno h
  refine wx1 tbk [(2, rp [(.tmp 5, (.own 0 1 (0) (p0)))] (I (((p0 : Nat) : Int)))), (4, ⟨[fu 110, (.tmp 4, (.own 0 1 (0) (p0))), (.tmp 6, (I (((p0 : Nat) : Int)))), (.tmp 7, z22_0)], [(0, (z22_1 p1)), (1, Qrl), (2, (.own 1 [[(Qrk p2)]]))], (.tup []), [(0, (z22_5 x3)), (1, Qrl), (2, (.own 1 [[(Qrk p2)]]))], false⟩)] ⟨aln rfl Try.underlying23 rfl, Qat (first := []) (cap := []) (vs := [(.own 0 1 (0) (p0)), (I (((p0 : Nat) : Int))), z22_0]) (σr := [(z22_1 p1), Qrl, (.own 1 [[(Qrk p2)]])]) (σr' := [(z22_5 x3), Qrl, (.own 1 [[(Qrk p2)]])]) (res' := (.tup [])) [0, 1, 2] rfl enter110 (Qhh N p0 ((p0 : Nat) : Int) p1 p2 _ hf2) rfl (Qcq (rnc (Qex rfl) (rnc (.plain _ nll) (rnc (Qay rn0 (rnc (Qbn rfl) (rnc (Qbn rfl) rn0))) rn0)))) (slc (Qbg Qaa) (slc (Qam (rnc (.plain _ (NLt.fn _ _ _ nl0 nl0)) rn0)) (slc (Qam (rnc (.plain _ (nld Qae _)) rn0)) Qap))) (slc (Qbg Qaa) (slc (Qam (rnc (.plain _ (NLt.fn _ _ _ nl0 nl0)) rn0)) (slc (Qam (rnc (.plain _ (nld Qae _)) rn0)) Qap))) (.plain _ (NLt.tup _ nl0)) rfl rfl rfl, trivial⟩ ?_
  obtain rfl := osi h
  exact ⟨_, (mto (n := 9) (l' := []) (own' := [(z22_5 x3), Qrl, (.own 1 [[(Qrk p2)]])]) [] [0, 1, 2] [(z22_5 x3), Qrl, (.own 1 [[(Qrk p2)]])] hφ0 pn (qc (spr Qaa) (qc (spb (lc (.rn (Qay rn0 rn0)) ln)) (qc (spb (lc (.rn (.plain _ (nld Qae _))) ln)) qn)))), Qdi (vs := []) trivial rfl (NLt.tup _ nl0) (by kernel_rfl) (Qau (Qd9 Qaa _) (Qau (Qbt (nlc (NLt.of0 (NLt.fn _ _ _ nl0 nl0)) nl0)) (Qau (Qbt (nlc (NLt.of0 (nld Qae _)) nl0)) Qb0)))⟩
def Qct (N : Nat) (p0 : (List GNode)) (k4 : (List Int) → Option (List Int)) : Nat → Int → (List Int) → Option (List Int)
  | 0, _, _ => none
  | n13 + 1, y9, y10 =>
    bif (decide (y9 < (p0.length : Int))) then
     chk (decide ((y10.length + ([y9]).length) * 8 ≤ 140737488355328)) <|
     Qct N p0 k4 n13 (w64 (y9 + 1)) (y10 ++ ([y9]))
    else
     k4 (y10)
def Qfb (N : Nat) (p0 : (List GNode)) : Option (List Int) :=
  Qbr (fun y3 =>
    chk (!y3.isEmpty) <|
    (Qd2 N y3.length y3 p0).bind fun x7 =>
    chk (decide (y3.length ≤ x7.length)) <|
    some (x7.take y3.length)) fun k4 : (List Int) → Option (List Int) =>
  Qct N p0 k4 N 0 ([] : List Int)
def Ql9 (p0 : (List GNode)) : AV := .dat 4 ((p0 : List GNode).map Qa0)
def Qns : Slot := .own 1 [[(.fn (.func 70) [] [])]]
def Que : AV := .fn (.func 96) [] [(.ref 1 1 (0) 0), (.ref 0 1 (0) 0)]
def Qud (x7 : (List Int)) (y3 : (List Int)) : AV := .dat 1 ((x7.take y3.length : List Int).map Qab)
def z21_7 : Slot := .gro 1 ((([] : List Int) : List Int).map Qab)
set_option maxRecDepth 100000 in
set_option maxHeartbeats 4000000 in
theorem Qh3 (N : Nat) (p0 : (List GNode)) (r : (List Int)) (h : Qfb N p0 = some r) : Spec Try.prog 69 [(Ql9 p0), (.fn (.func 70) [] [])] [] (.dat 1 ((r : List Int).map Qab)) [] := by
  refine Qal Try.func69 rfl 0 (nle rfl) (fun X φ0 w0 hφ0 => ?_)
  unfold Qfb at h
  refine Qc3 ?_
  refine wx tbk [] trivial ?_
  refine wx tbk [] trivial ?_
  obtain ⟨k4, hk_k4, h⟩ := jko h
  refine wjn (τ := (List Int)) (fun t => k4 t = some r) (fun y3 => ⟨mk 21 [(2, .ref 0 1 0 0), (3, .ref 1 1 0 0), (5, (.gro 2 3 1 (y3.length)))], [(.own 1 [[(Ql9 p0)]]), Qns, (.gro 1 ((y3 : List Int).map Qab))]⟩) (fun y3 h => ?_) ?_
  ·subst hk_k4
   obtain ⟨hz5, h⟩ := cko h
   obtain ⟨x7, hf6, h⟩ := bno h
   refine wx tbk [(1, rp [(.tmp 3, .ref 1 1 0 0), (.tmp 2, .ref 0 1 0 0)] Que), (2, ⟨[fu 95, (.tmp 17, (.gro 2 3 1 (y3.length))), (.tmp 18, Que)], [(2, (.gro 1 ((y3 : List Int).map Qab))), (1, Qns), (0, (.own 1 [[(Ql9 p0)]]))], (.tup []), [(2, (.own 1 ((x7 : List Int).map Qab))), (1, Qns), (0, (.own 1 [[(Ql9 p0)]]))], false⟩)] ⟨Qgp (fs := []) (cs := [.ref 1 1 0 0, .ref 0 1 0 0]) rfl rfl rfl rfl, Qtv (bl' := [(2, (.own 1 ((y3 : List Int).map Qab))), (1, Qns), (0, (.own 1 [[(Ql9 p0)]]))]) ⟨rfl, SLess.gro (Qjf hz5), rfl, SLess.rfl, rfl, SLess.rfl, trivial⟩ (awk (rd' := [fu 95, (.tmp 17, (.own 2 1 (0) (y3.length))), (.tmp 18, Que)]) ⟨rfl, lrf, rfl, Less.gro, rfl, lrf, trivial⟩ (Qat (first := []) (cap := []) (vs := [(.own 2 1 (0) (y3.length)), Que]) (σr := [(.own 1 ((y3 : List Int).map Qab)), Qns, (.own 1 [[(Ql9 p0)]])]) (σr' := [(.own 1 ((x7 : List Int).map Qab)), Qns, (.own 1 [[(Ql9 p0)]])]) (res' := (.tup [])) [2, 1, 0] rfl enter95 (Qgk N y3.length y3 p0 _ hf6) rfl (Qcq (rnc (Qex rfl) (rnc (Qay rn0 (rnc (Qbn rfl) (rnc (Qbn rfl) rn0))) rn0))) (slc (Qbg Qaa) (slc (Qam (rnc (.plain _ (NLt.fn _ _ _ nl0 nl0)) rn0)) (slc (Qam (rnc (.plain _ (nld Qae _)) rn0)) Qap))) (slc (Qbg Qaa) (slc (Qam (rnc (.plain _ (NLt.fn _ _ _ nl0 nl0)) rn0)) (slc (Qam (rnc (.plain _ (nld Qae _)) rn0)) Qap))) (.plain _ (NLt.tup _ nl0)) rfl rfl rfl)), trivial⟩ ?_
   refine wx tbk [] trivial ?_
   obtain ⟨hz8, h⟩ := cko h
   refine wmr (mor_less (n := 21) (l' := [(4, (.own 2 1 (0) (y3.length)))]) [(4, (.gro 2 3 1 (y3.length)))] (by kernel_rfl) (by kernel_rfl) ⟨rfl, Less.gro, trivial⟩) ?_
   refine wmr (Qk2 (n := 21) (l' := [(4, (Qud x7 y3))]) 2 [(4, (.own 2 1 (0) (y3.length)))] (by kernel_rfl) (by kernel_rfl) (by kernel_rfl) ⟨rfl, (Qip hz8), trivial⟩ rfl) ?_
   refine wmr (mto (n := 21) (l' := [(4, (Qud x7 y3))]) (own' := []) [(4, (Qud x7 y3))] [] [] hφ0 (pc (.rn (.plain _ (nld Qaa _))) pn) qn) ?_
   refine Qah ?_
   obtain rfl := osi h
   exact ⟨_, Mor.rfl, Qdi (vs := [(Qud x7 y3)]) ⟨rot (by kernel_rfl), trivial⟩ rfl (nld Qaa _) (by kernel_rfl) Qb0⟩
  ·skip
   refine wx tbk [(1, rp [(.tmp 7, (Ql9 p0))] (I ((p0.length : Int))))] ⟨alm (c := Qa0) (l := p0) (aln rfl Try.underlying30 rfl), trivial⟩ ?_
   refine Qai ?_
   refine wmr (Mor.trans (mor_nilG 2 3 1 5 (by kernel_rfl) (by kernel_rfl)) (mto (n := 21) (l' := [(2, .ref 0 1 0 0), (3, .ref 1 1 0 0), (5, (.gro 2 3 1 (([] : List Int).length))), (8, (I ((p0.length : Int)))), (9, I 0)]) (own' := [(.own 1 [[(Ql9 p0)]]), Qns, z21_7]) [(2, .ref 0 1 0 0), (3, .ref 1 1 0 0), (5, (.gro 2 3 1 (([] : List Int).length))), (8, (I ((p0.length : Int)))), (9, I 0)] [0, 1, 2] [(.own 1 [[(Ql9 p0)]]), Qns, z21_7] hφ0 (pc (.rn (rqr rfl)) (pc (.rn (rqr rfl)) (pc (.rn (Qs8 rfl)) (pc rwl (pc rwl pn))))) (qc (spb (lc (.rn (.plain _ (nld Qae _))) ln)) (qc (spb (lc (.rn (Qay rn0 rn0)) ln)) (qc (Qqk Qaa) qn))))) ?_
   refine Qbu (τ := Int × (List Int)) (fun n t => Qct N p0 k4 n t.1 t.2 = some r) (fun ⟨y9, y10⟩ => ⟨mk 21 [(2, .ref 0 1 0 0), (3, .ref 1 1 0 0), (5, (.gro 2 3 1 (y10.length))), (8, (I ((p0.length : Int)))), (9, I y9)], [(.own 1 [[(Ql9 p0)]]), Qns, (.gro 1 ((y10 : List Int).map Qab))]⟩) (fun t h => by rw [Qct] at h; cases h) (fun n13 ih t h => ?_) N (0, ([] : List Int)) h
   obtain ⟨y9, y10⟩ := t
   rw [Qct] at h
   skip
   refine wx tbk [] trivial ?_
   refine wsq ?_
   rcases bft ((decide (y9 < (p0.length : Int)))) with hc14 | hc14
   ·replace h := Qar hc14 h
    refine wft hc14 (by kernel_rfl) ?_
    refine Qag ?_
    refine thn ?_
    refine wsq ?_
    refine Qai ?_
    refine wx tbk [] trivial ?_
    obtain ⟨ha15, h⟩ := cko h
    refine wx1 tbk [(2, rp [(.tmp 13, I y9)] (.dat 1 (([y9] : List Int).map Qab))), (3, ⟨[(.tmp 12, (.gro 2 3 1 (y10.length))), (.tmp 14, (.dat 1 (([y9] : List Int).map Qab)))], [(2, (.gro 1 ((y10 : List Int).map Qab))), (3, .unused)], (.gro 3 3 1 ((y10 ++ ([y9])).length)), [(2, .dead), (3, (.gro 1 ((y10 ++ ([y9]) : List Int).map Qab)))], false⟩)] ?_ ?_
    ·exact ⟨Qa8 (vs := [I y9]) rfl Try.underlying23 ti3 tz3 rfl (by decide) rfl (by decide) (by rfl) (by rfl) (by rfl) rfl, Qt0 (c := Qab) (a := y10) (b := [y9]) rfl Try.underlying23 te3 rfl (Qjf rfl) (by rfl) ha15 (by decide), trivial⟩
    refine bln ?_
    refine thn ?_
    refine wx1 tbk [] trivial ?_
    refine thn ?_
    exact arm (mto (n := 21) [(2, .ref 0 1 0 0), (3, .ref 1 1 0 0), (5, (.gro 3 3 1 ((y10 ++ ([y9])).length))), (8, (I ((p0.length : Int)))), (9, (I (w64 (y9 + 1))))] [0, 1, 3] [(.own 1 [[(Ql9 p0)]]), Qns, (.gro 1 ((y10 ++ ([y9]) : List Int).map Qab))] hφ0 (pc (.rn (rqr rfl)) (pc (.rn (rqr rfl)) (pc (.rn (Qs8 rfl)) (pc rwl (pc rwl pn))))) (qc (spb (lc (.rn (.plain _ (nld Qae _))) ln)) (qc (spb (lc (.rn (Qay rn0 rn0)) ln)) (qc (Qqk Qaa) qn)))) (ih (w64 (y9 + 1), y10 ++ ([y9])) h)
   ·replace h := Qas hc14 h
    refine wfn hc14 (by kernel_rfl) ?_
    refine Qa3 ?_
    refine Qao ?_
    refine Qao ?_
    refine Qa2 rfl ?_
    refine thn ?_
    exact ⟨(y10), h, (mto (n := 21) [(2, .ref 0 1 0 0), (3, .ref 1 1 0 0), (5, (.gro 2 3 1 (y10.length)))] [0, 1, 2] [(.own 1 [[(Ql9 p0)]]), Qns, (.gro 1 ((y10 : List Int).map Qab))] hφ0 (pc (.rn (rqr rfl)) (pc (.rn (rqr rfl)) (pc (.rn (Qs8 rfl)) pn))) (qc (spb (lc (.rn (.plain _ (nld Qae _))) ln)) (qc (spb (lc (.rn (Qay rn0 rn0)) ln)) (qc (Qqk Qaa) qn))))⟩
def Qdh (N : Nat) (p0 : (List GNode)) (p1 : Nat) (p2 : (List Int)) (k7 : (List Int) → Option (List Int)) : (List (Int × GNode)) → (List Int) → Option (List Int)
  | [], y13 =>
    k7 (y13)
  | x16 :: q17, y13 =>
    (Qe9 N x16.1 ((p2.take p1).length) p0 y13).bind fun x26 =>
    Qdh N p0 p1 p2 k7 q17 x26
def Qgu (N : Nat) (p0 : (List GNode)) (p1 : Nat) (p2 : (List Int)) : Option (List Int) :=
  chk (decide (p1 ≤ p2.length)) <|
  (Qek N (p2.take p1)).bind fun _ =>
  Qbr (fun y6 =>
    chk (decide ((p2.take p1).length ≤ y6.length)) <|
    some (y6.take ((p2.take p1).length))) fun k7 : (List Int) → Option (List Int) =>
  (Qce N p0).bind fun _ =>
  (Qcd N p0).bind fun q11 =>
  Qdh N p0 p1 p2 k7 q11 (p2.take p1)
def Qj4 (p0 : (List GNode)) : AV := .dat 4 ((p0 : List GNode).map Qa0)
def Qm5 (p2 : (List Int)) : Slot := .own 1 ((p2 : List Int).map Qab)
def z30_2 (p2 : (List Int)) (p1 : Nat) : Slot := .own 1 ((p2.take p1 : List Int).map Qab)
def z30_5 : AV := .fn (.func 98) [] [(.ref 3 1 (0) 0), (.ref 1 1 (0) 0)]
def Qt8 (y6 : (List Int)) (p2 : (List Int)) (p1 : Nat) : AV := .dat 1 ((y6.take ((p2.take p1).length) : List Int).map Qab)
def z30_7 : AV := .fn (.func 105) [] [(.ref 5 1 (0) 0)]
def Qp2 (p2 : (List Int)) (p1 : Nat) : Slot := .own 1 [[(.own 4 1 (0) ((p2.take p1).length))]]
def Qrg : AV := .fn (.func 98) [] [(.ref 1 1 (0) 0), (.ref 5 1 (0) 0)]
def Qt7 (y13 : (List Int)) : Slot := .own 1 ((y13 : List Int).map Qab)
def Qt6 (x26 : (List Int)) : Slot := .own 1 ((x26 : List Int).map Qab)
set_option maxRecDepth 100000 in
set_option maxHeartbeats 4000000 in
theorem Qj9 (N : Nat) (p0 : (List GNode)) (p1 : Nat) (p2 : (List Int)) (r : (List Int)) (h : Qgu N p0 p1 p2 = some r) : Spec Try.prog 71 [(Qj4 p0), (.own 0 1 (0) (p1))] [(Qm5 p2)] (.dat 1 ((r : List Int).map Qab)) [(Qm5 p2)] := by
  refine Qal Try.func71 rfl 1 (nle rfl) (fun X φ0 w0 hφ0 => ?_)
  unfold Qgu at h
  refine Qc3 ?_
  refine wx tbk [] trivial ?_
  obtain ⟨hz3, h⟩ := cko h
  obtain ⟨x5, hf4, h⟩ := bno h
  refine wx tbk [(1, ⟨[fu 97, (.tmp 8, (.own 0 1 (0) (p1)))], [(0, (Qm5 p2)), (2, .unused)], (.own 2 1 (0) ((p2.take p1).length)), [(2, (z30_2 p2 p1))], false⟩)] ⟨Qjn (rd' := [fu 97, (.tmp 8, (.dat 1 ((p2.take p1 : List Int).map Qab)))]) [(0, 1, (p2 : List Int).map Qab)] ⟨rfl, .same _, rfl, (Qon 0 rfl hz3), trivial⟩ (by rfl) (.own _ _ _ _ (nin rfl)) (Qql (.own _ _ (Qmj Qtg _)) Qs7) (Qat (first := []) (cap := []) (vs := [(.dat 1 ((p2.take p1 : List Int).map Qab))]) (σr := []) (σr' := [(z30_2 p2 p1)]) (res' := (.own 2 1 (0) ((p2.take p1).length))) [2] rfl Qy3 (Qgc N (p2.take p1) _ hf4) rfl (Qcq (rnc (.plain _ (nld Qaa _)) rn0)) Qap (slc (Qbg Qaa) Qap) (Qgf rfl) rfl rfl rfl), trivial⟩ ?_
  refine wx tbk [(0, rp [(.tmp 5, .ref 3 1 0 0), (.tmp 2, .ref 1 1 0 0)] z30_5)] ⟨Qgp (fs := []) (cs := [.ref 3 1 0 0, .ref 1 1 0 0]) rfl rfl rfl rfl, trivial⟩ ?_
  obtain ⟨k7, hk_k7, h⟩ := jko h
  refine wjn (τ := (List Int)) (fun t => k7 t = some r) (fun y6 => ⟨mk 19 [(5, .ref 1 1 0 0)], [(Qm5 p2), (.own 1 [[(.own 2 1 (0) ((p2.take p1).length))]]), (.own 1 ((y6 : List Int).map Qab))]⟩) (fun y6 h => ?_) ?_
  ·subst hk_k7
   refine wx tbk [] trivial ?_
   obtain ⟨hz8, h⟩ := cko h
   refine wmr (Qk2 (n := 19) (l' := [(4, (Qt8 y6 p2 p1))]) 2 [(4, (.own 2 1 (0) ((p2.take p1).length)))] (by kernel_rfl) (by kernel_rfl) (by kernel_rfl) ⟨rfl, (Qip hz8), trivial⟩ rfl) ?_
   refine wmr (mto (n := 19) (l' := [(4, (Qt8 y6 p2 p1))]) (own' := [(Qm5 p2)]) [(4, (Qt8 y6 p2 p1))] [0] [(Qm5 p2)] hφ0 (pc (.rn (.plain _ (nld Qaa _))) pn) (qc (spr Qaa) qn)) ?_
   refine Qah ?_
   obtain rfl := osi h
   exact ⟨_, Mor.rfl, Qdi (vs := [(Qt8 y6 p2 p1)]) ⟨rot (by kernel_rfl), trivial⟩ rfl (NLt.of0 (nld Qaa _)) (by kernel_rfl) (Qau (Qd9 Qaa _) Qb0)⟩
  ·skip
   obtain ⟨x10, hf9, h⟩ := bno h
   refine wx tbk [(1, ⟨[fu 86, (.tmp 11, (Qj4 p0))], [(5, .unused)], z30_7, [(5, (.own 1 [[(Qj4 p0)]]))], false⟩)] ⟨Qat (first := []) (cap := []) (vs := [(Qj4 p0)]) (σr := []) (σr' := [(.own 1 [[(Qj4 p0)]])]) (res' := z30_7) [5] rfl Qy5 (Qd7 N p0 _ hf9) rfl (Qcq (rnc (.plain _ (nld Qae _)) rn0)) Qap (slc (Qam (rnc (.plain _ (nld Qae _)) rn0)) Qap) (Qay rn0 (rnc (Qge rfl) rn0)) rfl rfl rfl, trivial⟩ ?_
   refine Qai ?_
   obtain ⟨q11, hL12, h⟩ := bno h
   refine wmr (mto (n := 19) (l' := [(5, .ref 1 1 0 0), (6, .ref 2 1 0 0), (12, (.fn (.func 105) [] [.ref 3 1 0 0]))]) (own' := [(Qm5 p2), (Qp2 p2 p1), (.own 1 [[Qrg]]), (.own 1 [[(Qj4 p0)]]), (z30_2 p2 p1), (.own 1 [[(Qj4 p0)]])]) [(5, .ref 3 1 0 0), (6, .ref 4 1 0 0), (12, z30_7)] [0, 3, 4, 5, 2, 1] [(Qm5 p2), (.own 1 [[(.own 2 1 (0) ((p2.take p1).length))]]), (.own 1 [[z30_5]]), (.own 1 [[(Qj4 p0)]]), (z30_2 p2 p1), (.own 1 [[(Qj4 p0)]])] hφ0 (pc (.rn (rqr rfl)) (pc (.rn (rqr rfl)) (pc (.rn (Qay rn0 (rnc (rqr rfl) rn0))) pn))) (qc (spr Qaa) (qc (spb (lc (.rn (Qaf rfl)) ln)) (qc (spb (lc (.rn (Qay rn0 (rnc (rqr rfl) (rnc (rqr rfl) rn0)))) ln)) (qc (spb (lc (.rn (.plain _ (nld Qae _))) ln)) (qc (spr Qaa) (qc (spb (lc (.rn (.plain _ (nld Qae _))) ln)) qn))))))) ?_
   refine Qi2 (τ := ((List Int))) (kb := 6) (caps := [.ref 3 1 0 0]) (σr := [(.own 1 [[(Qj4 p0)]])]) (encs := fun x => [(.int .i64 (x.1)), (.agg #[(.int .i64 (x.2.Parent)), (.int .i64 (x.2.Loss)), (.int .i64 (x.2.Limit)), (.int .i64 (x.2.Rank))])]) (fun x => [I x.1, (.agg [I x.2.Parent, I x.2.Loss, I x.2.Limit, I x.2.Rank])]) [3] (fun n hn => hφ0 n (Nat.le_trans (nle rfl) hn)) (Qd6 N p0 _ hL12) Qve (by kernel_rfl) (by kernel_rfl) (Qcq (rnc (Qge rfl) rn0)) (slc (Qam (rnc (.plain _ (nld Qae _)) rn0)) Qap) (by kernel_rfl) (fun _ => rfl) (fun x => ⟨lrf, (Less.unlits [(.int .i64 (x.2.Parent)), (.int .i64 (x.2.Loss)), (.int .i64 (x.2.Limit)), (.int .i64 (x.2.Rank))]), trivial⟩) (Qr5 (Qdl (NLt.ref _ _ _ _ (by decide)) (Qdl (NLt.ref _ _ _ _ (by decide)) (Qdl (NLt.fn _ _ _ nl0 (nlc (NLt.ref _ _ _ _ (by decide)) nl0)) Qoc)))) (fun y13 => [(Qm5 p2), (Qp2 p2 p1), (.own 1 [[Qrg]]), .dead, (Qt7 y13), (.own 1 [[(Qj4 p0)]])]) (fun _ => rfl) (fun _ => rfl) (fun l t => Qdh N p0 p1 p2 k7 l t = some r) (p2.take p1) h (by kernel_rfl) ?_ ?_
   ·intro l18 o19 X22 φ23 w24 hφ21 x16 q17 y13 h
    rw [Qdh] at h
    refine wx1 tbk [] trivial ?_
    refine ⟨by kernel_rfl, fun o20 => ?_⟩
    refine Qai ?_
    obtain ⟨x26, hf25, h⟩ := bno h
    refine wx1 tbk [(2, ⟨[(.tmp 15, Qrg), (.tmp 16, I x16.1)], [(1, (Qp2 p2 p1)), (5, (.own 1 [[(Qj4 p0)]])), (4, (Qt7 y13))], (.tup []), [(1, (Qp2 p2 p1)), (5, (.own 1 [[(Qj4 p0)]])), (4, (Qt6 x26))], false⟩)] ⟨Qat (first := []) (cap := [.ref 1 1 0 0, .ref 5 1 0 0]) (vs := [I x16.1]) (σr := [(Qp2 p2 p1), (.own 1 [[(Qj4 p0)]]), (Qt7 y13)]) (σr' := [(Qp2 p2 p1), (.own 1 [[(Qj4 p0)]]), (Qt6 x26)]) (res' := (.tup [])) [1, 5, 4] rfl Qy2 (Qgt N x16.1 ((p2.take p1).length) p0 y13 _ hf25) rfl (Qcq (rnc (.plain _ nll) (rnc (Qbn rfl) (rnc (Qbn rfl) rn0)))) (slc (Qam (rnc (Qex rfl) rn0)) (slc (Qam (rnc (.plain _ (nld Qae _)) rn0)) (slc (Qbg Qaa) Qap))) (slc (Qam (rnc (Qgf rfl) rn0)) (slc (Qam (rnc (.plain _ (nld Qae _)) rn0)) (slc (Qbg Qaa) Qap))) (.plain _ (NLt.tup _ nl0)) rfl rfl rfl, trivial⟩ ?_
    refine bln ?_
    exact ⟨(x26), h, Qjt (own' := [(Qm5 p2), (Qp2 p2 p1), (.own 1 [[Qrg]]), .dead, (Qt6 x26), (.own 1 [[(Qj4 p0)]]), (.far (farL l18 o20))]) [0, 1, 2, 3, 4, 5, 6] [(Qm5 p2), (Qp2 p2 p1), (.own 1 [[Qrg]]), .dead, (Qt6 x26), (.own 1 [[(Qj4 p0)]]), (.far (farL l18 o20))] (by kernel_rfl) (by kernel_rfl) ⟨(spr Qaa), (spb (lc (.rn (Qaf rfl)) ln)), (spb (lc (.rn (Qay rn0 (rnc (rqr rfl) (rnc (rqr rfl) rn0)))) ln)), .dead, (spr Qaa), (spb (lc (.rn (.plain _ (nld Qae _))) ln)), .far _, trivial⟩⟩
   ·intro y13 h
    rw [Qdh] at h
    refine bln ?_
    refine thn ?_
    exact ⟨(y13), h, (mto (n := 19) [(5, .ref 1 1 0 0)] [0, 1, 4] [(Qm5 p2), (Qp2 p2 p1), (Qt7 y13)] hφ0 (pc (.rn (rqr rfl)) pn) (qc (spr Qaa) (qc (spb (lc (.rn (Qaf rfl)) ln)) (qc (spr Qaa) qn))))⟩
def Qdq (N : Nat) (p0 : (List GNode)) (p1 : (List Int)) (p2 : Int) (k15 : Int × (List Bool) → Option ((List Bool) × Int × Int)) (x18 : (List Int)) : Nat → Int → Int → (List Bool) → (List Int) → Option ((List Bool) × Int × Int)
  | 0, _, _, _, _ => none
  | n27 + 1, y19, y20, y21, y22 =>
    bif (decide (y20 < (x18.length : Int))) then
     (getI x18 y20).bind fun x29 =>
     (getI p1 x29).bind fun x33 =>
     bif (x33 == 0) then
      Qdq N p0 p1 p2 k15 x18 n27 y19 (w64 (y20 + 1)) y21 y22
     else
      chk (decide (0 ≤ x29) && decide (x29.toNat < (p0.length : Int).toNat)) <|
      (y22[x29.toNat]?).bind fun _ =>
      (Qgu N p0 ((p0.length : Int).toNat) (y22.set x29.toNat x33)).bind fun x42 =>
      Qbr (fun _ =>
        (getI x42 0).bind fun x44 =>
        chk (decide (0 ≤ x29) && decide (x29.toNat < (p0.length : Int).toNat)) <|
        (y21[x29.toNat]?).bind fun _ =>
        Qdq N p0 p1 p2 k15 x18 n27 x44 (w64 (y20 + 1)) (y21.set x29.toNat true) (y22.set x29.toNat x33)) fun k43 : Unit → Option ((List Bool) × Int × Int) =>
      (Qgs N p0 x42).bind fun x52 =>
      bif (decide (x52 ≥ 0)) then
       chk (decide (0 ≤ x29) && decide (x29.toNat < (p0.length : Int).toNat)) <|
       ((y22.set x29.toNat x33)[x29.toNat]?).bind fun _ =>
       Qdq N p0 p1 p2 k15 x18 n27 y19 (w64 (y20 + 1)) y21 ((y22.set x29.toNat x33).set x29.toNat 0)
      else
       (getI x42 0).bind fun x57 =>
       bif (decide (x57 > p2)) then
        chk (decide (0 ≤ x29) && decide (x29.toNat < (p0.length : Int).toNat)) <|
        ((y22.set x29.toNat x33)[x29.toNat]?).bind fun _ =>
        Qdq N p0 p1 p2 k15 x18 n27 y19 (w64 (y20 + 1)) y21 ((y22.set x29.toNat x33).set x29.toNat 0)
       else
        k43 ()
    else
     k15 (y19, y21)
def Qlb (N : Nat) (p0 : (List GNode)) (p1 : (List Int)) (p2 : Int) : Option ((List Bool) × Int × Int) :=
  (Qkk N p0 p1).bind fun x6 =>
  bif (x6 != 0) then
   some ([], 0, x6)
  else
   (Qcg N p2 0 100000000000).bind fun x9 =>
   bif (!x9) then
    some ([], 0, 2)
   else
    chk (decide (0 ≤ (p0.length : Int)) && decide (1 * (p0.length : Int) ≤ 281474976710656) && decide ((p0.length : Int) ≤ 9223372036854775807)) <|
    chk (decide (0 ≤ (p0.length : Int)) && decide (8 * (p0.length : Int) ≤ 281474976710656) && decide ((p0.length : Int) ≤ 9223372036854775807)) <|
    Qbr (fun ⟨y13, y14⟩ =>
      chk (decide ((p0.length : Int).toNat ≤ y14.length)) <|
      some (y14.take ((p0.length : Int).toNat), y13, 0)) fun k15 : Int × (List Bool) → Option ((List Bool) × Int × Int) =>
    (Qfb N p0).bind fun x18 =>
    Qdq N p0 p1 p2 k15 x18 N 0 0 (List.replicate (p0.length : Int).toNat false) (List.replicate (p0.length : Int).toNat 0)
def Qin (p0 : (List GNode)) : AV := .dat 4 ((p0 : List GNode).map Qa0)
def Qma (p1 : (List Int)) : AV := .dat 1 ((p1 : List Int).map Qab)
def Qui : AV := .dat 1 (([] : List Bool).map Qbs)
def z20_2 (p0 : (List GNode)) : Slot := .own 1 ((List.replicate (p0.length : Int).toNat false : List Bool).map Qbs)
def z20_3 (p0 : (List GNode)) : Slot := .own 1 ((List.replicate (p0.length : Int).toNat 0 : List Int).map Qab)
def Quh (y14 : (List Bool)) (p0 : (List GNode)) : AV := .dat 1 ((y14.take ((p0.length : Int).toNat) : List Bool).map Qbs)
def Qis (x18 : (List Int)) : AV := .dat 1 ((x18 : List Int).map Qab)
def Qlo (y21 : (List Bool)) : Slot := .own 1 ((y21 : List Bool).map Qbs)
def Qug (y22 : (List Int)) : Slot := .own 1 ((y22 : List Int).map Qab)
def Qjo (y22 : (List Int)) (x29 : Int) (x33 : Int) : Slot := .own 1 ((y22.set x29.toNat x33 : List Int).map Qab)
def Qk1 (x42 : (List Int)) : AV := .dat 1 ((x42 : List Int).map Qab)
def Quf (y22 : (List Int)) (x29 : Int) (x33 : Int) : Slot := .own 1 (((y22.set x29.toNat x33).set x29.toNat 0 : List Int).map Qab)
set_option maxRecDepth 100000 in
set_option maxHeartbeats 4000000 in
theorem Qo3 (N : Nat) (p0 : (List GNode)) (p1 : (List Int)) (p2 : Int) (r : ((List Bool) × Int × Int)) (h : Qlb N p0 p1 p2 = some r) : Spec Try.prog 22 [(.dat 4 (p0.map Qa0)), (.dat 1 (p1.map Qab)), (I p2)] [] (.tup [(.dat 1 ((r.1 : List Bool).map Qbs)), (I (r.2.1)), (I (r.2.2))]) [] := by
  refine Qal Try.func22 rfl 0 (nle rfl) (fun X φ0 w0 hφ0 => ?_)
  unfold Qlb at h
  refine Qc3 ?_
  refine wx tbk [] trivial ?_
  refine wsq ?_
  obtain ⟨x6, hf5, h⟩ := bno h
  refine wx tbk [(2, rp [fu 67, (.tmp 14, (Qin p0)), (.tmp 15, (Qma p1))] (I x6))] ⟨apc (first := []) (cap := []) (vs := [(Qin p0), (Qma p1)]) rfl enter67 (Qls N p0 p1 _ hf5) rfl rfl (nlc (nld Qae _) (nlc (nld Qaa _) nl0)) nll rfl, trivial⟩ ?_
  refine wx tbk [] trivial ?_
  rcases bft ((x6 != 0)) with hc7 | hc7
  ·replace h := Qar hc7 h
   refine wft hc7 (by kernel_rfl) ?_
   refine wx tbk [] trivial ?_
   refine wmr (mto (n := 74) (l' := [(6, Qui), (7, I 0), (8, I x6)]) (own' := []) [(6, nilS), (7, I 0), (8, I x6)] [] [] hφ0 (pc (.nil _) (pc rwl (pc rwl pn))) qn) ?_
   refine Qah ?_
   refine Qad ?_
   obtain rfl := osi h
   exact ⟨_, Mor.rfl, Qdi (vs := [Qui, I 0, I x6]) ⟨rot (by kernel_rfl), rot (by kernel_rfl), rot (by kernel_rfl), trivial⟩ rfl (NLt.tup _ (nlc (nld Qhs _) (nlc nll (nlc nll nl0)))) (by kernel_rfl) Qb0⟩
  ·replace h := Qas hc7 h
   refine wfn hc7 (by kernel_rfl) ?_
   refine Qag ?_
   refine thn ?_
   refine wsq ?_
   obtain ⟨x9, hf8, h⟩ := bno h
   refine wx tbk [(1, rp [fu 68, (.tmp 20, I p2), ci 0, ci 100000000000] (B x9))] ⟨apc (first := []) (cap := []) (vs := [I p2, I 0, I 100000000000]) rfl Qd3 (Qaw N p2 0 100000000000 _ hf8) rfl rfl (nlc nll (nlc nll (nlc nll nl0))) nll rfl, trivial⟩ ?_
   rcases bft ((!x9)) with hc10 | hc10
   ·replace h := Qar hc10 h
    refine wft hc10 (by kernel_rfl) ?_
    refine wx tbk [] trivial ?_
    refine wmr (mto (n := 74) (l' := [(6, Qui), (7, I 0), (8, I 2)]) (own' := []) [(6, nilS), (7, I 0), (8, I 2)] [] [] hφ0 (pc (.nil _) (pc rwl (pc rwl pn))) qn) ?_
    refine Qah ?_
    refine Qad ?_
    obtain rfl := osi h
    exact ⟨_, Mor.rfl, Qdi (vs := [Qui, I 0, I 2]) ⟨rot (by kernel_rfl), rot (by kernel_rfl), rot (by kernel_rfl), trivial⟩ rfl (NLt.tup _ (nlc (nld Qhs _) (nlc nll (nlc nll nl0)))) (by kernel_rfl) Qb0⟩
   ·replace h := Qas hc10 h
    refine wfn hc10 (by kernel_rfl) ?_
    refine Qag ?_
    refine thn ?_
    obtain ⟨hm11, h⟩ := cko h
    obtain ⟨hm12, h⟩ := cko h
    refine wxd tbk [(1, rp [(.tmp 23, (Qin p0))] (I ((p0.length : Int)))), (2, ⟨[(.tmp 24, (I ((p0.length : Int)))), (.tmp 24, (I ((p0.length : Int))))], [(0, .unused)], (.own 0 1 (0) ((p0.length : Int).toNat)), [(0, (z20_2 p0))], false⟩), (4, rp [(.tmp 26, (Qin p0))] (I ((p0.length : Int)))), (5, ⟨[(.tmp 27, (I ((p0.length : Int)))), (.tmp 27, (I ((p0.length : Int))))], [(1, .unused)], (.own 1 1 (0) ((p0.length : Int).toNat)), [(1, (z20_3 p0))], false⟩)] ⟨alm (c := Qa0) (l := p0) (aln rfl Try.underlying31 rfl), Qhb rfl Try.underlying26 te4 tz4 rfl (Qt3 hm11) rfl (Qt2 hm11) (Qoz hm11) (Qlg Qbs rfl), alm (c := Qa0) (l := p0) (aln rfl Try.underlying31 rfl), Qhb rfl Try.underlying23 te3 tz3 rfl (Qt3 hm12) rfl (Qt2 hm12) (Qoz hm12) (Qlg Qab rfl), trivial⟩ ?_
    obtain ⟨k15, hk_k15, h⟩ := jko h
    refine wjn (τ := Int × (List Bool)) (fun t => k15 t = some r) (fun ⟨y13, y14⟩ => ⟨mk 74 [(6, (.own 0 1 (0) ((p0.length : Int).toNat))), (7, I y13)], [(.own 1 ((y14 : List Bool).map Qbs))]⟩) (fun t h => ?_) ?_
    ·subst hk_k15
     obtain ⟨y13, y14⟩ := t
     refine wx tbk [] trivial ?_
     obtain ⟨hz16, h⟩ := cko h
     refine wmr (Qk2 (n := 74) (l' := [(6, (Quh y14 p0)), (7, I y13), (8, I 0)]) 0 [(6, (.own 0 1 (0) ((p0.length : Int).toNat))), (7, I y13), (8, I 0)] (by kernel_rfl) (by kernel_rfl) (by kernel_rfl) ⟨rfl, (Qip hz16), rfl, (.same _), rfl, (.same _), trivial⟩ rfl) ?_
     refine wmr (mto (n := 74) (l' := [(6, (Quh y14 p0)), (7, I y13), (8, I 0)]) (own' := []) [(6, (Quh y14 p0)), (7, I y13), (8, I 0)] [] [] hφ0 (pc (.rn (.plain _ (nld Qhs _))) (pc rwl (pc rwl pn))) qn) ?_
     refine Qah ?_
     obtain rfl := osi h
     exact ⟨_, Mor.rfl, Qdi (vs := [(Quh y14 p0), I y13, I 0]) ⟨rot (by kernel_rfl), rot (by kernel_rfl), rot (by kernel_rfl), trivial⟩ rfl (NLt.tup _ (nlc (nld Qhs _) (nlc nll (nlc nll nl0)))) (by kernel_rfl) Qb0⟩
    ·skip
     obtain ⟨x18, hf17, h⟩ := bno h
     refine wx tbk [(1, rp [fu 69, (.tmp 29, (Qin p0)), fu 70] (Qis x18)), (2, rp [(.tmp 30, (Qis x18))] (I ((x18.length : Int))))] ⟨Qat (first := []) (cap := []) (vs := [(Qin p0), (.fn (.func 70) [] [])]) (σr := []) (σr' := []) (res' := (Qis x18)) [] rfl enter69 (Qh3 N p0 _ hf17) rfl (Qcq (rnc (.plain _ (nld Qae _)) (rnc (.plain _ (NLt.fn _ _ _ nl0 nl0)) rn0))) Qap Qap (.plain _ (nld Qaa _)) rfl rfl rfl, alm (c := Qab) (l := x18) (aln rfl Try.underlying23 rfl), trivial⟩ ?_
     refine Qai ?_
     refine wmr (mto (n := 74) (l' := [(0, (Qin p0)), (1, (Qma p1)), (2, I p2), (6, (.own 0 1 (0) ((p0.length : Int).toNat))), (7, I 0), (10, (.own 1 1 (0) ((p0.length : Int).toNat))), (30, (Qis x18)), (31, (I ((x18.length : Int)))), (32, I 0)]) (own' := [(.own 1 (((List.replicate (p0.length : Int).toNat false) : List Bool).map Qbs)), (.own 1 (((List.replicate (p0.length : Int).toNat 0) : List Int).map Qab))]) [(0, (Qin p0)), (1, (Qma p1)), (2, I p2), (6, (.own 0 1 (0) ((p0.length : Int).toNat))), (7, I 0), (10, (.own 1 1 (0) ((p0.length : Int).toNat))), (30, (Qis x18)), (31, (I ((x18.length : Int)))), (32, I 0)] [0, 1] [(z20_2 p0), (z20_3 p0)] hφ0 (pc (.rn (.plain _ (nld Qae _))) (pc (.rn (.plain _ (nld Qaa _))) (pc rwl (pc (.rn (Qaf rfl)) (pc rwl (pc (.rn (Qaf rfl)) (pc (.rn (.plain _ (nld Qaa _))) (pc rwl (pc rwl pn))))))))) (qc (spr Qhs) (qc (spr Qaa) qn))) ?_
     refine Qbu (τ := Int × Int × (List Bool) × (List Int)) (fun n t => Qdq N p0 p1 p2 k15 x18 n t.1 t.2.1 t.2.2.1 t.2.2.2 = some r) (fun ⟨y19, y20, y21, y22⟩ => ⟨mk 74 [(0, (Qin p0)), (1, (Qma p1)), (2, I p2), (6, (.own 0 1 (0) ((p0.length : Int).toNat))), (7, I y19), (10, (.own 1 1 (0) ((p0.length : Int).toNat))), (30, (Qis x18)), (31, (I ((x18.length : Int)))), (32, I y20)], [(Qlo y21), (Qug y22)]⟩) (fun t h => by rw [Qdq] at h; cases h) (fun n27 ih t h => ?_) N (0, 0, List.replicate (p0.length : Int).toNat false, List.replicate (p0.length : Int).toNat 0) h
     obtain ⟨y19, y20, y21, y22⟩ := t
     rw [Qdq] at h
     skip
     refine wx tbk [] trivial ?_
     refine wsq ?_
     rcases bft ((decide (y20 < (x18.length : Int)))) with hc28 | hc28
     ·replace h := Qar hc28 h
      refine wft hc28 (by kernel_rfl) ?_
      refine Qag ?_
      refine thn ?_
      refine wsq ?_
      refine Qai ?_
      obtain ⟨x29, hg30, h⟩ := bno h
      obtain ⟨hi31, hj32⟩ := gsm hg30
      refine wx tbk [(0, rp [(.tmp 30, (Qis x18)), (.tmp 32, I y20)] (.dptr (Qab (x29)) 0))] ⟨aid rfl Try.underlying23 ti3 rfl rfl hi31 (mgt Qab hj32) rfl, trivial⟩ ?_
      refine wsq ?_
      obtain ⟨x33, hg34, h⟩ := bno h
      obtain ⟨hi35, hj36⟩ := gsm hg34
      refine wx tbk [(2, rp [(.tmp 36, (Qma p1)), (.tmp 37, I x29)] (.dptr (Qab (x33)) 0))] ⟨aid rfl Try.underlying23 ti3 rfl rfl hi35 (mgt Qab hj36) rfl, trivial⟩ ?_
      rcases bft ((x33 == 0)) with hc37 | hc37
      ·replace h := Qar hc37 h
       refine wft hc37 (by kernel_rfl) ?_
       refine Qa3 ?_
       refine Qao ?_
       refine Qa2 rfl ?_
       refine thn ?_
       refine wx1 tbk [] trivial ?_
       refine thn ?_
       exact arm (mto (n := 74) [(0, (Qin p0)), (1, (Qma p1)), (2, I p2), (6, (.own 0 1 (0) ((p0.length : Int).toNat))), (7, I y19), (10, (.own 1 1 (0) ((p0.length : Int).toNat))), (30, (Qis x18)), (31, (I ((x18.length : Int)))), (32, (I (w64 (y20 + 1))))] [0, 1] [(Qlo y21), (Qug y22)] hφ0 (pc (.rn (.plain _ (nld Qae _))) (pc (.rn (.plain _ (nld Qaa _))) (pc rwl (pc (.rn (Qaf rfl)) (pc rwl (pc (.rn (Qaf rfl)) (pc (.rn (.plain _ (nld Qaa _))) (pc rwl (pc rwl pn))))))))) (qc (spr Qhs) (qc (spr Qaa) qn))) (ih (y19, w64 (y20 + 1), y21, y22) h)
      ·replace h := Qas hc37 h
       refine wfn hc37 (by kernel_rfl) ?_
       refine Qag ?_
       refine thn ?_
       obtain ⟨hi38, h⟩ := cko h
       obtain ⟨hi38a, hi38b⟩ := Qa1 hi38
       obtain ⟨x39, hg40, h⟩ := bno h
       refine wx tbk [(4, rp [(.tmp 43, (Qma p1)), (.tmp 44, I x29)] (.dptr (Qab (x33)) 0)), (6, rb [(.tmp 41, (.own 1 1 (0) ((p0.length : Int).toNat))), (.tmp 42, I x29)] [(1, (Qug y22))] (.ref 1 1 (x29.toNat) 0)), (7, ⟨[(.tmp 47, (.ref 1 1 (x29.toNat) 0)), (.tmp 46, I x33)], [(1, (Qug y22))], .any, [(1, (Qjo y22 x29 x33))], false⟩)] ⟨aid rfl Try.underlying23 ti3 rfl rfl hi35 (mgt Qab hj36) rfl, aio rfl Try.underlying23 ti3 (odt hi38a) (odt hi38b) (Nat.zero_add _), ast rfl ti3 (by rfl) (mgt Qab hg40) (nle rfl) (Qel Qab rfl), trivial⟩ ?_
       obtain ⟨x42, hf41, h⟩ := bno h
       refine wx tbk [(2, ⟨[fu 71, (.tmp 48, (Qin p0)), (.tmp 49, (.own 1 1 (0) ((p0.length : Int).toNat)))], [(1, (Qjo y22 x29 x33))], (Qk1 x42), [(1, (Qjo y22 x29 x33))], false⟩)] ⟨Qat (first := []) (cap := []) (vs := [(Qin p0), (.own 1 1 (0) (((p0.length : Int).toNat)))]) (σr := [(Qjo y22 x29 x33)]) (σr' := [(Qjo y22 x29 x33)]) (res' := (Qk1 x42)) [1] rfl enter71 (Qj9 N p0 ((p0.length : Int).toNat) (y22.set x29.toNat x33) _ hf41) rfl (Qcq (rnc (.plain _ (nld Qae _)) (rnc (Qex rfl) rn0))) (slc (Qbg Qaa) Qap) (slc (Qbg Qaa) Qap) (.plain _ (nld Qaa _)) rfl rfl rfl, trivial⟩ ?_
       obtain ⟨k43, hk_k43, h⟩ := jko h
       refine wjn (τ := Unit) (fun t => k43 t = some r) (fun _ => ⟨mk 74 [(0, (Qin p0)), (1, (Qma p1)), (2, I p2), (6, (.own 0 1 (0) ((p0.length : Int).toNat))), (10, (.own 1 1 (0) ((p0.length : Int).toNat))), (12, I x29), (13, (Qk1 x42)), (30, (Qis x18)), (31, (I ((x18.length : Int)))), (32, I y20)], [(Qlo y21), (Qjo y22 x29 x33)]⟩) (fun t h => ?_) ?_
       ·subst hk_k43
        obtain ⟨x44, hg45, h⟩ := bno h
        obtain ⟨hi46, hj47⟩ := gsm hg45
        obtain ⟨hi48, h⟩ := cko h
        obtain ⟨hi48a, hi48b⟩ := Qa1 hi48
        obtain ⟨x49, hg50, h⟩ := bno h
        refine wx1 tbk [(3, rp [(.tmp 67, (Qk1 x42)), ci 0] (.dptr (Qab (x44)) 0)), (5, rb [(.tmp 65, (.own 0 1 (0) ((p0.length : Int).toNat))), (.tmp 66, I x29)] [(0, (Qlo y21))] (.ref 0 1 (x29.toNat) 0)), (6, ⟨[(.tmp 70, (.ref 0 1 (x29.toNat) 0)), cb true], [(0, (Qlo y21))], .any, [(0, (.own 1 ((y21.set x29.toNat true : List Bool).map Qbs)))], false⟩)] ⟨aid rfl Try.underlying23 ti3 rfl rfl hi46 (mgt Qab hj47) rfl, aio rfl Try.underlying26 ti4 (odt hi48a) (odt hi48b) (Nat.zero_add _), ast rfl ti4 (by rfl) (mgt Qbs hg50) (nle rfl) (Qel Qbs rfl), trivial⟩ ?_
        refine bln ?_
        refine thn ?_
        refine wx1 tbk [] trivial ?_
        refine thn ?_
        exact arm (mto (n := 74) [(0, (Qin p0)), (1, (Qma p1)), (2, I p2), (6, (.own 0 1 (0) ((p0.length : Int).toNat))), (7, I x44), (10, (.own 1 1 (0) ((p0.length : Int).toNat))), (30, (Qis x18)), (31, (I ((x18.length : Int)))), (32, (I (w64 (y20 + 1))))] [0, 1] [(.own 1 ((y21.set x29.toNat true : List Bool).map Qbs)), (Qjo y22 x29 x33)] hφ0 (pc (.rn (.plain _ (nld Qae _))) (pc (.rn (.plain _ (nld Qaa _))) (pc rwl (pc (.rn (Qaf rfl)) (pc rwl (pc (.rn (Qaf rfl)) (pc (.rn (.plain _ (nld Qaa _))) (pc rwl (pc rwl pn))))))))) (qc (spr Qhs) (qc (spr Qaa) qn))) (ih (x44, w64 (y20 + 1), y21.set x29.toNat true, y22.set x29.toNat x33) h)
       ·skip
        obtain ⟨x52, hf51, h⟩ := bno h
        rcases bft ((decide (x52 ≥ 0))) with hb53 | hb53
        ·replace h := Qar hb53 h
         refine wx tbk [(2, rp [fu 72, (.tmp 51, (Qin p0)), (.tmp 52, (Qk1 x42))] (I x52)), (4, rp [(.tmp 54, (B ((decide (x52 ≥ 0)))))] (B true))] ⟨apc (first := []) (cap := []) (vs := [(Qin p0), (Qk1 x42)]) rfl Qtk (Qgr N p0 x42 _ hf51) rfl rfl (nlc (nld Qae _) (nlc (nld Qaa _) nl0)) nll rfl, asb hb53 (amv rfl), trivial⟩ ?_
         refine Qcm (by kernel_rfl) ?_
         obtain ⟨hi54, h⟩ := cko h
         obtain ⟨hi54a, hi54b⟩ := Qa1 hi54
         obtain ⟨x55, hg56, h⟩ := bno h
         refine wx tbk [(2, rb [(.tmp 62, (.own 1 1 (0) ((p0.length : Int).toNat))), (.tmp 63, I x29)] [(1, (Qjo y22 x29 x33))] (.ref 1 1 (x29.toNat) 0)), (3, ⟨[(.tmp 64, (.ref 1 1 (x29.toNat) 0)), ci 0], [(1, (Qjo y22 x29 x33))], .any, [(1, (Quf y22 x29 x33))], false⟩)] ⟨aio rfl Try.underlying23 ti3 (odt hi54a) (odt hi54b) (Nat.zero_add _), ast rfl ti3 (by rfl) (mgt Qab hg56) (nle rfl) (Qel Qab rfl), trivial⟩ ?_
         refine Qa3 ?_
         refine Qao ?_
         refine Qa2 rfl ?_
         refine thn ?_
         refine wx1 tbk [] trivial ?_
         refine thn ?_
         exact arm (mto (n := 74) [(0, (Qin p0)), (1, (Qma p1)), (2, I p2), (6, (.own 0 1 (0) ((p0.length : Int).toNat))), (7, I y19), (10, (.own 1 1 (0) ((p0.length : Int).toNat))), (30, (Qis x18)), (31, (I ((x18.length : Int)))), (32, (I (w64 (y20 + 1))))] [0, 1] [(Qlo y21), (Quf y22 x29 x33)] hφ0 (pc (.rn (.plain _ (nld Qae _))) (pc (.rn (.plain _ (nld Qaa _))) (pc rwl (pc (.rn (Qaf rfl)) (pc rwl (pc (.rn (Qaf rfl)) (pc (.rn (.plain _ (nld Qaa _))) (pc rwl (pc rwl pn))))))))) (qc (spr Qhs) (qc (spr Qaa) qn))) (ih (y19, w64 (y20 + 1), y21, (y22.set x29.toNat x33).set x29.toNat 0) h)
        ·replace h := Qas hb53 h
         obtain ⟨x57, hg58, h⟩ := bno h
         obtain ⟨hi59, hj60⟩ := gsm hg58
         refine wx tbk [(2, rp [fu 72, (.tmp 51, (Qin p0)), (.tmp 52, (Qk1 x42))] (I x52)), (4, rp [(.tmp 54, (B ((decide (x52 ≥ 0)))))] (B false)), (6, rp [(.tmp 55, B false), (.tmp 56, (Qk1 x42)), ci 0] (.dptr (Qab (x57)) 0))] ⟨apc (first := []) (cap := []) (vs := [(Qin p0), (Qk1 x42)]) rfl Qtk (Qgr N p0 x42 _ hf51) rfl rfl (nlc (nld Qae _) (nlc (nld Qaa _) nl0)) nll rfl, asb hb53 (amv rfl), ag_ (aid rfl Try.underlying23 ti3 rfl rfl hi59 (mgt Qab hj60) rfl), trivial⟩ ?_
         rcases bft ((decide (x57 > p2))) with hc61 | hc61
         ·replace h := Qar hc61 h
          refine wft hc61 (by kernel_rfl) ?_
          obtain ⟨hi62, h⟩ := cko h
          obtain ⟨hi62a, hi62b⟩ := Qa1 hi62
          obtain ⟨x63, hg64, h⟩ := bno h
          refine wx tbk [(2, rb [(.tmp 62, (.own 1 1 (0) ((p0.length : Int).toNat))), (.tmp 63, I x29)] [(1, (Qjo y22 x29 x33))] (.ref 1 1 (x29.toNat) 0)), (3, ⟨[(.tmp 64, (.ref 1 1 (x29.toNat) 0)), ci 0], [(1, (Qjo y22 x29 x33))], .any, [(1, (Quf y22 x29 x33))], false⟩)] ⟨aio rfl Try.underlying23 ti3 (odt hi62a) (odt hi62b) (Nat.zero_add _), ast rfl ti3 (by rfl) (mgt Qab hg64) (nle rfl) (Qel Qab rfl), trivial⟩ ?_
          refine Qa3 ?_
          refine Qao ?_
          refine Qa2 rfl ?_
          refine thn ?_
          refine wx1 tbk [] trivial ?_
          refine thn ?_
          exact arm (mto (n := 74) [(0, (Qin p0)), (1, (Qma p1)), (2, I p2), (6, (.own 0 1 (0) ((p0.length : Int).toNat))), (7, I y19), (10, (.own 1 1 (0) ((p0.length : Int).toNat))), (30, (Qis x18)), (31, (I ((x18.length : Int)))), (32, (I (w64 (y20 + 1))))] [0, 1] [(Qlo y21), (Quf y22 x29 x33)] hφ0 (pc (.rn (.plain _ (nld Qae _))) (pc (.rn (.plain _ (nld Qaa _))) (pc rwl (pc (.rn (Qaf rfl)) (pc rwl (pc (.rn (Qaf rfl)) (pc (.rn (.plain _ (nld Qaa _))) (pc rwl (pc rwl pn))))))))) (qc (spr Qhs) (qc (spr Qaa) qn))) (ih (y19, w64 (y20 + 1), y21, (y22.set x29.toNat x33).set x29.toNat 0) h)
         ·replace h := Qas hc61 h
          refine wfn hc61 (by kernel_rfl) ?_
          refine Qag ?_
          refine thn ?_
          exact ⟨(), h, (mto (n := 74) [(0, (Qin p0)), (1, (Qma p1)), (2, I p2), (6, (.own 0 1 (0) ((p0.length : Int).toNat))), (10, (.own 1 1 (0) ((p0.length : Int).toNat))), (12, I x29), (13, (Qk1 x42)), (30, (Qis x18)), (31, (I ((x18.length : Int)))), (32, I y20)] [0, 1] [(Qlo y21), (Qjo y22 x29 x33)] hφ0 (pc (.rn (.plain _ (nld Qae _))) (pc (.rn (.plain _ (nld Qaa _))) (pc rwl (pc (.rn (Qaf rfl)) (pc (.rn (Qaf rfl)) (pc rwl (pc (.rn (.plain _ (nld Qaa _))) (pc (.rn (.plain _ (nld Qaa _))) (pc rwl (pc rwl pn)))))))))) (qc (spr Qhs) (qc (spr Qaa) qn)))⟩
     ·replace h := Qas hc28 h
      refine wfn hc28 (by kernel_rfl) ?_
      refine Qa3 ?_
      refine Qao ?_
      refine Qao ?_
      refine Qa2 rfl ?_
      refine thn ?_
      exact ⟨(y19, y21), h, (mto (n := 74) [(6, (.own 0 1 (0) ((p0.length : Int).toNat))), (7, I y19)] [0] [(Qlo y21)] hφ0 (pc (.rn (Qaf rfl)) (pc rwl pn)) (qc (spr Qhs) qn))⟩
end Go.Proofs.Ytgdepcgbjjgnfaa
