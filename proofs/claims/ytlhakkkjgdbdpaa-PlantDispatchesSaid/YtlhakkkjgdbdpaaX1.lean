/-
  Functions of the program: what they compute, as plain functions, and that they do. No conditions.
-/
import Derived.Test.YtlhakkkjgdbdpaaXt
namespace Go.Proofs.Ytlhakkkjgdbdpaa
open Go.RowKit
def Qbe (_N : Nat) (p0 : Int) (p1 : Int) (p2 : Int) : Option Bool :=
  bif (decide (p1 ≤ p0)) then
   some (decide (p0 ≤ p2))
  else
   some false
set_option maxRecDepth 100000 in
set_option maxHeartbeats 4000000 in
theorem Qag (N : Nat) (p0 : Int) (p1 : Int) (p2 : Int) (r : Bool) (h : Qbe N p0 p1 p2 = some r) : Spec Try.prog 65 [(I p0), (I p1), (I p2)] [] (B r) [] := by
  refine Qae Try.func65 rfl 0 (nle rfl) (fun X φ0 w0 hφ0 => ?_)
  unfold Qbe at h
  refine wx tbk [] trivial ?_
  rcases bft ((decide (p1 ≤ p0))) with hb1 | hb1
  ·replace h := Qau hb1 h
   refine wx tbk [(3, rp [(.tmp 9, (B ((decide (p1 ≤ p0)))))] (B true))] ⟨asb hb1 (amv rfl), trivial⟩ ?_
   refine Qac ?_
   obtain rfl := osi h
   exact fend ⟨[(B ((decide (p0 ≤ p2))))], ⟨rot (by kernel_rfl), trivial⟩, rfl⟩ nll
  ·replace h := Qav hb1 h
   refine wx tbk [(3, rp [(.tmp 9, (B ((decide (p1 ≤ p0)))))] (B false))] ⟨asb hb1 (amv rfl), trivial⟩ ?_
   refine Qac ?_
   obtain rfl := osi h
   exact fend ⟨[B false], ⟨rot (by kernel_rfl), trivial⟩, rfl⟩ nll
def Qfu (N : Nat) (p0 : GPart) (p1 : Int) : Option Bool :=
  (Qbe N p0.Gain 0 p1).bind fun x3 =>
  bif x3 then
   (Qbe N p0.Width 1 100000).bind fun x6 =>
   some x6
  else
   some false
def z8_2 (p0 : GPart) : Slot := .own 1 [[(I (p0.Gain))]]
set_option maxRecDepth 100000 in
set_option maxHeartbeats 4000000 in
theorem Qjk (N : Nat) (p0 : GPart) (p1 : Int) (r : Bool) (h : Qfu N p0 p1 = some r) : Spec Try.prog 94 [(.agg [(I (p0.Width)), (I (p0.Gain))]), (.ref 0 1 (0) 0)] [(.own 1 [[(I (p1))]])] (B (r)) [(z8_2 p0)] := by
  refine Qae Try.func94 rfl 1 (nle rfl) (fun X φ0 w0 hφ0 => ?_)
  unfold Qfu at h
  refine Qbr ?_
  refine wx tbk [] trivial ?_
  obtain ⟨x3, hf2, h⟩ := bno h
  refine wx tbk [(3, rp [fu 65, (.tmp 6, I p0.Gain), ci 0, (.tmp 7, I p1)] (B x3))] ⟨apc (first := []) (cap := []) (vs := [I p0.Gain, I 0, I p1]) rfl Qbt (Qag N p0.Gain 0 p1 _ hf2) rfl rfl (nlc nll (nlc nll (nlc nll nl0))) nll rfl, trivial⟩ ?_
  refine wx tbk [] trivial ?_
  rcases bft (x3) with hb4 | hb4
  ·replace h := Qau hb4 h
   obtain ⟨x6, hf5, h⟩ := bno h
   refine wx tbk [(1, rp [(.tmp 11, B x3)] (B true)), (4, rp [(.tmp 12, B true), fu 65, (.tmp 14, I p0.Width), ci 1, ci 100000] (B x6))] ⟨asb hb4 (amv rfl), ag_ (apc (first := []) (cap := []) (vs := [I p0.Width, I 1, I 100000]) rfl Qbt (Qag N p0.Width 1 100000 _ hf5) rfl rfl (nlc nll (nlc nll (nlc nll nl0))) nll rfl), trivial⟩ ?_
   refine wmr (mto (n := 17) (l' := [(3, B x6)]) (own' := [(z8_2 p0)]) [(3, B x6)] [0] [(z8_2 p0)] hφ0 (pc rwl pn) (qc (spb (lc rwl ln)) qn)) ?_
   refine Qac ?_
   obtain rfl := osi h
   exact ⟨_, Mor.rfl, Qb9 (vs := [B x6]) ⟨rot (by kernel_rfl), trivial⟩ rfl (NLt.of0 nll) (by kernel_rfl) (Qah (Qax (nlc (NLt.of0 nll) nl0)) Qbl)⟩
  ·replace h := Qav hb4 h
   refine wx tbk [(1, rp [(.tmp 11, B x3)] (B false))] ⟨asb hb4 (amv rfl), trivial⟩ ?_
   refine wmr (mto (n := 17) (l' := [(3, B false)]) (own' := [(z8_2 p0)]) [(3, B false)] [0] [(z8_2 p0)] hφ0 (pc rwl pn) (qc (spb (lc rwl ln)) qn)) ?_
   refine Qac ?_
   obtain rfl := osi h
   exact ⟨_, Mor.rfl, Qb9 (vs := [B false]) ⟨rot (by kernel_rfl), trivial⟩ rfl (NLt.of0 nll) (by kernel_rfl) (Qah (Qax (nlc (NLt.of0 nll) nl0)) Qbl)⟩
def Qey (N : Nat) (p0 : GPart) (p1 : Int) : Option Bool :=
  (Qfu N p0 p1).bind fun x3 =>
  some (!x3)
def z7_1 (p0 : GPart) : AV := .agg [(I (p0.Width)), (I (p0.Gain))]
def z7_2 : AV := .fn (.func 94) [] [(.ref 1 1 (0) 0)]
def z7_3 (p0 : GPart) : Slot := .own 1 [[(I (p0.Gain))]]
set_option maxRecDepth 100000 in
set_option maxHeartbeats 4000000 in
theorem Qig (N : Nat) (p0 : GPart) (p1 : Int) (r : Bool) (h : Qey N p0 p1 = some r) : Spec Try.prog 114 [(z7_1 p0), (.ref 0 1 (0) 0)] [(.own 1 [[z7_2]]), (.own 1 [[(I (p1))]])] (B (r)) [(.own 1 [[z7_2]]), (z7_3 p0)] := by
  refine Qae Try.func114 rfl 2 (nle rfl) (fun X φ0 w0 hφ0 => ?_)
  unfold Qey at h
  refine Qbr ?_
  refine wx tbk [] trivial ?_
  obtain ⟨x3, hf2, h⟩ := bno h
  refine wx tbk [(2, ⟨[(.tmp 4, z7_2), (.tmp 5, (z7_1 p0))], [(1, .own 1 [[I p1]])], B x3, [(1, (z7_3 p0))], false⟩)] ⟨Qao (first := []) (cap := [.ref 1 1 0 0]) (vs := [(z7_1 p0)]) (σr := [(.own 1 [[I p1]])]) (σr' := [(z7_3 p0)]) (res' := (B x3)) [1] rfl enter94 (Qjk N p0 p1 _ hf2) rfl (Qb7 (rnc (.plain _ (NLt.agg _ (nlc nll (nlc nll nl0)))) (rnc (Qa5 rfl) rn0))) (slc (Qak (rnc (.plain _ nll) rn0)) Qan) (slc (Qak (rnc (.plain _ nll) rn0)) Qan) (.plain _ nll) rfl rfl rfl, trivial⟩ ?_
  refine wmr (mto (n := 8) (l' := [(3, (B ((!x3))))]) (own' := [(.own 1 [[z7_2]]), (z7_3 p0)]) [(3, (B ((!x3))))] [0, 1] [(.own 1 [[z7_2]]), (z7_3 p0)] hφ0 (pc rwl pn) (qc (spb (lc (.rn (Qap rn0 (rnc (rqr rfl) rn0))) ln)) (qc (spb (lc rwl ln)) qn))) ?_
  refine Qac ?_
  obtain rfl := osi h
  exact ⟨_, Mor.rfl, Qb9 (vs := [(B ((!x3)))]) ⟨rot (by kernel_rfl), trivial⟩ rfl (NLt.of0 nll) (by kernel_rfl) (Qah (Qax (nlc (NLt.fn _ _ _ nl0 (nlc (NLt.ref _ _ _ _ (by decide)) nl0)) nl0)) (Qah (Qax (nlc (NLt.of0 nll) nl0)) Qbl))⟩
def Qbb (N : Nat) (p0 : (List GPart)) (k4 : Int → Option (Int × Int)) : Nat → Int → Int → Option (Int × Int)
  | 0, _, _ => none
  | n9 + 1, y5, y6 =>
    bif (decide (y5 < (p0.length : Int))) then
     (getI p0 y5).bind fun x11 =>
     (Qey N x11 y6).bind fun x16 =>
     bif x16 then
      some (y5, x11.Gain)
     else
      Qbb N p0 k4 n9 (w64 (y5 + 1)) x11.Gain
    else
     k4 (y6)
def Qct (N : Nat) (p0 : (List GPart)) (p1 : Int) : Option (Int × Int) :=
  Qcn (fun y3 =>
    some ((-1), y3)) fun k4 : Int → Option (Int × Int) =>
  Qbb N p0 k4 N 0 p1
def z6_0 (p0 : (List GPart)) : AV := .dat 2 ((p0 : List GPart).map Qcp)
def z6_1 : AV := .fn (.func 114) [] [(.ref 0 1 (0) 0)]
def z6_3 : AV := .fn (.func 94) [] [(.ref 1 1 (0) 0)]
def Qxa (x11 : GPart) : Slot := .own 1 [[(I (x11.Gain))]]
set_option maxRecDepth 100000 in
set_option maxHeartbeats 4000000 in
theorem Qfa (N : Nat) (p0 : (List GPart)) (p1 : Int) (r : (Int × Int)) (h : Qct N p0 p1 = some r) : Spec Try.prog 128 [(z6_0 p0), z6_1] [(.own 1 [[z6_3]]), (.own 1 [[(I (p1))]])] (I (r.1)) [(.own 1 [[z6_3]]), (.own 1 [[(I (r.2))]])] := by
  refine Qae Try.func128 rfl 2 (nle rfl) (fun X φ0 w0 hφ0 => ?_)
  unfold Qct at h
  refine Qbr ?_
  refine wx tbk [] trivial ?_
  obtain ⟨k4, hk_k4, h⟩ := jko h
  refine wjn (τ := Int) (fun t => k4 t = some r) (fun y3 => ⟨mk 19 [], [(.own 1 [[z6_3]]), (.own 1 [[I y3]])]⟩) (fun y3 h => ?_) ?_
  ·subst hk_k4
   refine wx tbk [] trivial ?_
   refine wmr (mto (n := 19) (l' := [(4, (I ((-1))))]) (own' := [(.own 1 [[z6_3]]), (.own 1 [[I y3]])]) [(4, (I ((-1))))] [0, 1] [(.own 1 [[z6_3]]), (.own 1 [[I y3]])] hφ0 (pc rwl pn) (qc (spb (lc (.rn (Qap rn0 (rnc (rqr rfl) rn0))) ln)) (qc (spb (lc rwl ln)) qn))) ?_
   refine Qac ?_
   obtain rfl := osi h
   exact ⟨_, Mor.rfl, Qb9 (vs := [(I ((-1)))]) ⟨rot (by kernel_rfl), trivial⟩ rfl (NLt.of0 nll) (by kernel_rfl) (Qah (Qax (nlc (NLt.fn _ _ _ nl0 (nlc (NLt.ref _ _ _ _ (by decide)) nl0)) nl0)) (Qah (Qax (nlc (NLt.of0 nll) nl0)) Qbl))⟩
  ·skip
   refine wx tbk [(1, rp [(.tmp 6, (z6_0 p0))] (I ((p0.length : Int))))] ⟨alm (c := Qcp) (l := p0) (aln rfl Try.underlying32 rfl), trivial⟩ ?_
   refine Qai ?_
   refine wmr (mto (n := 19) (l' := [(0, (z6_0 p0)), (1, z6_1), (7, (I ((p0.length : Int)))), (8, I 0)]) (own' := [(.own 1 [[z6_3]]), (.own 1 [[I p1]])]) [(0, (z6_0 p0)), (1, z6_1), (7, (I ((p0.length : Int)))), (8, I 0)] [0, 1] [(.own 1 [[z6_3]]), (.own 1 [[I p1]])] hφ0 (pc (.rn (.plain _ (nld Qcb _))) (pc (.rn (Qap rn0 (rnc (rqr rfl) rn0))) (pc rwl (pc rwl pn)))) (qc (spb (lc (.rn (Qap rn0 (rnc (rqr rfl) rn0))) ln)) (qc (spb (lc rwl ln)) qn))) ?_
   refine Qby (τ := Int × Int) (fun n t => Qbb N p0 k4 n t.1 t.2 = some r) (fun ⟨y5, y6⟩ => ⟨mk 19 [(0, (z6_0 p0)), (1, z6_1), (7, (I ((p0.length : Int)))), (8, I y5)], [(.own 1 [[z6_3]]), (.own 1 [[I y6]])]⟩) (fun t h => by rw [Qbb] at h; cases h) (fun n9 ih t h => ?_) N (0, p1) h
   obtain ⟨y5, y6⟩ := t
   rw [Qbb] at h
   skip
   refine wx tbk [] trivial ?_
   refine wsq ?_
   rcases bft ((decide (y5 < (p0.length : Int)))) with hc10 | hc10
   ·replace h := Qau hc10 h
    refine wft hc10 (by kernel_rfl) ?_
    refine Qal ?_
    refine thn ?_
    refine wsq ?_
    refine Qai ?_
    refine wx tbk [] trivial ?_
    obtain ⟨x11, hg12, h⟩ := bno h
    obtain ⟨hi13, hj14⟩ := gsm hg12
    obtain ⟨x16, hf15, h⟩ := bno h
    refine wx tbk [(3, rp [(.tmp 12, (z6_0 p0)), (.tmp 13, I y5)] (.dptr (Qcp (x11)) 0)), (5, ⟨[(.tmp 11, z6_1), (.tmp 15, (.agg [I x11.Width, I x11.Gain]))], [(0, .own 1 [[z6_3]]), (1, .own 1 [[I y6]])], B x16, [(0, .own 1 [[z6_3]]), (1, (Qxa x11))], false⟩)] ⟨aid rfl Try.underlying32 Qn2 rfl rfl hi13 (mgt Qcp hj14) rfl, Qao (first := []) (cap := [.ref 0 1 0 0]) (vs := [(.agg [I x11.Width, I x11.Gain])]) (σr := [(.own 1 [[z6_3]]), (.own 1 [[I y6]])]) (σr' := [(.own 1 [[z6_3]]), (Qxa x11)]) (res' := (B x16)) [0, 1] rfl enter114 (Qig N x11 y6 _ hf15) rfl (Qb7 (rnc (.plain _ (NLt.agg _ (nlc nll (nlc nll nl0)))) (rnc (Qa5 rfl) rn0))) (slc (Qak (rnc (Qap rn0 (rnc (Qa5 rfl) rn0)) rn0)) (slc (Qak (rnc (.plain _ nll) rn0)) Qan)) (slc (Qak (rnc (Qap rn0 (rnc (Qhj rfl) rn0)) rn0)) (slc (Qak (rnc (.plain _ nll) rn0)) Qan)) (.plain _ nll) rfl rfl rfl, trivial⟩ ?_
    rcases bft (x16) with hc17 | hc17
    ·replace h := Qau hc17 h
     refine wft hc17 (by kernel_rfl) ?_
     refine wx tbk [] trivial ?_
     refine wmr (mto (n := 19) (l' := [(4, I y5)]) (own' := [(.own 1 [[z6_3]]), (Qxa x11)]) [(4, I y5)] [0, 1] [(.own 1 [[z6_3]]), (Qxa x11)] hφ0 (pc rwl pn) (qc (spb (lc (.rn (Qap rn0 (rnc (rqr rfl) rn0))) ln)) (qc (spb (lc rwl ln)) qn))) ?_
     refine Qac ?_
     refine Qbv ?_
     refine Qar ?_
     refine Qar ?_
     refine Qbv ?_
     refine Qar ?_
     obtain rfl := osi h
     exact ⟨_, Mor.rfl, Qb9 (vs := [I y5]) ⟨rot (by kernel_rfl), trivial⟩ rfl (NLt.of0 nll) (by kernel_rfl) (Qah (Qax (nlc (NLt.fn _ _ _ nl0 (nlc (NLt.ref _ _ _ _ (by decide)) nl0)) nl0)) (Qah (Qax (nlc (NLt.of0 nll) nl0)) Qbl))⟩
    ·replace h := Qav hc17 h
     refine wfn hc17 (by kernel_rfl) ?_
     refine Qal ?_
     refine bln ?_
     refine thn ?_
     refine wx1 tbk [] trivial ?_
     refine thn ?_
     exact arm (mto (n := 19) [(0, (z6_0 p0)), (1, z6_1), (7, (I ((p0.length : Int)))), (8, (I (w64 (y5 + 1))))] [0, 1] [(.own 1 [[z6_3]]), (Qxa x11)] hφ0 (pc (.rn (.plain _ (nld Qcb _))) (pc (.rn (Qap rn0 (rnc (rqr rfl) rn0))) (pc rwl (pc rwl pn)))) (qc (spb (lc (.rn (Qap rn0 (rnc (rqr rfl) rn0))) ln)) (qc (spb (lc rwl ln)) qn))) (ih (w64 (y5 + 1), x11.Gain) h)
   ·replace h := Qav hc10 h
    refine wfn hc10 (by kernel_rfl) ?_
    refine Qbd ?_
    refine Qas ?_
    refine Qas ?_
    refine Qbc rfl ?_
    refine thn ?_
    exact ⟨(y6), h, (mto (n := 19) [] [0, 1] [(.own 1 [[z6_3]]), (.own 1 [[I y6]])] hφ0 pn (qc (spb (lc (.rn (Qap rn0 (rnc (rqr rfl) rn0))) ln)) (qc (spb (lc rwl ln)) qn)))⟩
def Qcf (N : Nat) (p0 : (List GPart)) (p1 : Int) : Option (Bool × Int) :=
  (Qct N p0 p1).bind fun x4 =>
  some ((decide (x4.1 ≥ 0)), x4.2)
def z5_0 (p0 : (List GPart)) : AV := .dat 2 ((p0 : List GPart).map Qcp)
def z5_1 : AV := .fn (.func 114) [] [(.ref 0 1 (0) 0)]
def z5_2 : AV := .fn (.func 94) [] [(.ref 1 1 (0) 0)]
set_option maxRecDepth 100000 in
set_option maxHeartbeats 4000000 in
theorem Qet (N : Nat) (p0 : (List GPart)) (p1 : Int) (r : (Bool × Int)) (h : Qcf N p0 p1 = some r) : Spec Try.prog 113 [(z5_0 p0), z5_1] [(.own 1 [[z5_2]]), (.own 1 [[(I (p1))]])] (B (r.1)) [(.own 1 [[z5_2]]), (.own 1 [[(I (r.2))]])] := by
  refine Qae Try.func113 rfl 2 (nle rfl) (fun X φ0 w0 hφ0 => ?_)
  unfold Qcf at h
  refine Qbr ?_
  refine wx tbk [] trivial ?_
  obtain ⟨x4, hf3, h⟩ := bno h
  refine wx tbk [(2, ⟨[fu 128, (.tmp 5, (z5_0 p0)), (.tmp 6, z5_1)], [(0, .own 1 [[z5_2]]), (1, .own 1 [[I p1]])], I x4.1, [(0, .own 1 [[z5_2]]), (1, .own 1 [[I x4.2]])], false⟩)] ⟨Qao (first := []) (cap := []) (vs := [(z5_0 p0), z5_1]) (σr := [(.own 1 [[z5_2]]), (.own 1 [[I p1]])]) (σr' := [(.own 1 [[z5_2]]), (.own 1 [[I x4.2]])]) (res' := (I x4.1)) [0, 1] rfl enter128 (Qfa N p0 p1 _ hf3) rfl (Qb7 (rnc (.plain _ (nld Qcb _)) (rnc (Qap rn0 (rnc (Qa5 rfl) rn0)) rn0))) (slc (Qak (rnc (Qap rn0 (rnc (Qa5 rfl) rn0)) rn0)) (slc (Qak (rnc (.plain _ nll) rn0)) Qan)) (slc (Qak (rnc (Qap rn0 (rnc (Qhj rfl) rn0)) rn0)) (slc (Qak (rnc (.plain _ nll) rn0)) Qan)) (.plain _ nll) rfl rfl rfl, trivial⟩ ?_
  refine wmr (mto (n := 9) (l' := [(4, (B ((decide (x4.1 ≥ 0)))))]) (own' := [(.own 1 [[z5_2]]), (.own 1 [[I x4.2]])]) [(4, (B ((decide (x4.1 ≥ 0)))))] [0, 1] [(.own 1 [[z5_2]]), (.own 1 [[I x4.2]])] hφ0 (pc rwl pn) (qc (spb (lc (.rn (Qap rn0 (rnc (rqr rfl) rn0))) ln)) (qc (spb (lc rwl ln)) qn))) ?_
  refine Qac ?_
  obtain rfl := osi h
  exact ⟨_, Mor.rfl, Qb9 (vs := [(B ((decide (x4.1 ≥ 0))))]) ⟨rot (by kernel_rfl), trivial⟩ rfl (NLt.of0 nll) (by kernel_rfl) (Qah (Qax (nlc (NLt.fn _ _ _ nl0 (nlc (NLt.ref _ _ _ _ (by decide)) nl0)) nl0)) (Qah (Qax (nlc (NLt.of0 nll) nl0)) Qbl))⟩
def Qfg (N : Nat) (p0 : (List GPart)) (p1 : Int) : Option (Bool × Int) :=
  (Qcf N p0 p1).bind fun x4 =>
  some ((!x4.1), x4.2)
def z4_1 (p0 : (List GPart)) : AV := .dat 2 ((p0 : List GPart).map Qcp)
def z4_0 : AV := .fn (.func 94) [] [(.ref 0 1 (0) 0)]
def z4_2 : AV := .fn (.func 114) [] [(.ref 1 1 (0) 0)]
set_option maxRecDepth 100000 in
set_option maxHeartbeats 4000000 in
theorem Qi0 (N : Nat) (p0 : (List GPart)) (p1 : Int) (r : (Bool × Int)) (h : Qfg N p0 p1 = some r) : Spec Try.prog 93 [(z4_1 p0), z4_0] [(.own 1 [[(I (p1))]])] (B (r.1)) [(.own 1 [[(I (r.2))]])] := by
  refine Qae Try.func93 rfl 1 (nle rfl) (fun X φ0 w0 hφ0 => ?_)
  unfold Qfg at h
  refine Qbr ?_
  refine wx tbk [] trivial ?_
  obtain ⟨x4, hf3, h⟩ := bno h
  refine wx tbk [(1, rp [(.tmp 3, .ref 1 1 0 0)] z4_2), (2, ⟨[fu 113, (.tmp 5, (z4_1 p0)), (.tmp 6, z4_2)], [(1, .own 1 [[z4_0]]), (0, .own 1 [[I p1]])], B x4.1, [(1, .own 1 [[z4_0]]), (0, .own 1 [[I x4.2]])], false⟩)] ⟨Qd7 (fs := []) (cs := [.ref 1 1 0 0]) rfl rfl rfl rfl, Qao (first := []) (cap := []) (vs := [(z4_1 p0), z4_2]) (σr := [(.own 1 [[z4_0]]), (.own 1 [[I p1]])]) (σr' := [(.own 1 [[z4_0]]), (.own 1 [[I x4.2]])]) (res' := (B x4.1)) [1, 0] rfl enter113 (Qet N p0 p1 _ hf3) rfl (Qb7 (rnc (.plain _ (nld Qcb _)) (rnc (Qap rn0 (rnc (Qa5 rfl) rn0)) rn0))) (slc (Qak (rnc (Qap rn0 (rnc (Qa5 rfl) rn0)) rn0)) (slc (Qak (rnc (.plain _ nll) rn0)) Qan)) (slc (Qak (rnc (Qap rn0 (rnc (Qhj rfl) rn0)) rn0)) (slc (Qak (rnc (.plain _ nll) rn0)) Qan)) (.plain _ nll) rfl rfl rfl, trivial⟩ ?_
  refine wmr (mto (n := 9) (l' := [(4, (B ((!x4.1))))]) (own' := [(.own 1 [[I x4.2]])]) [(4, (B ((!x4.1))))] [0] [(.own 1 [[I x4.2]])] hφ0 (pc rwl pn) (qc (spb (lc rwl ln)) qn)) ?_
  refine Qac ?_
  obtain rfl := osi h
  exact ⟨_, Mor.rfl, Qb9 (vs := [(B ((!x4.1)))]) ⟨rot (by kernel_rfl), trivial⟩ rfl (NLt.of0 nll) (by kernel_rfl) (Qah (Qax (nlc (NLt.of0 nll) nl0)) Qbl)⟩
def Qf3 (N : Nat) (p0 : GUnit) : Option Bool :=
  (Qbe N p0.Inlet 0 5).bind fun x2 =>
  bif x2 then
   (Qbe N (p0.Parts.length : Int) 1 8).bind fun x5 =>
   bif x5 then
    (Qfg N p0.Parts 1000).bind fun x8 =>
    some x8.1
   else
    some false
  else
   some false
def z2_0 (p0 : GUnit) : AV := .dat 2 ((p0.Parts : List GPart).map Qcp)
def z2_3 : AV := .fn (.func 94) [] [(.ref 1 1 (0) 0)]
set_option maxRecDepth 100000 in
set_option maxHeartbeats 4000000 in
theorem Qgb (N : Nat) (p0 : GUnit) (r : Bool) (h : Qf3 N p0 = some r) : Spec Try.prog 64 [(.agg (Qch p0))] [] (B r) [] := by
  refine Qae Try.func64 rfl 0 (nle rfl) (fun X φ0 w0 hφ0 => ?_)
  unfold Qf3 at h
  refine wx tbk [] trivial ?_
  refine wx tbk [] trivial ?_
  obtain ⟨x2, hf1, h⟩ := bno h
  rcases bft (x2) with hb3 | hb3
  ·replace h := Qau hb3 h
   obtain ⟨x5, hf4, h⟩ := bno h
   rcases bft (x5) with hb6 | hb6
   ·replace h := Qau hb6 h
    obtain ⟨x8, hf7, h⟩ := bno h
    refine wx tbk [(2, rp [fu 65, (.tmp 5, I p0.Inlet), ci 0, ci 5] (B x2)), (3, rp [(.tmp 6, B x2)] (B true)), (6, rp [(.tmp 7, B true), (.tmp 9, (z2_0 p0))] (I ((p0.Parts.length : Int)))), (7, rp [(.tmp 7, B true), fu 65, (.tmp 10, (I ((p0.Parts.length : Int)))), ci 1, ci 8] (B x5)), (9, rp [(.tmp 12, B x5)] (B true)), (12, rp [(.tmp 13, B true), (.tmp 3, .ref 1 1 0 0)] z2_3), (13, ⟨[(.tmp 13, B true), fu 93, (.tmp 15, (z2_0 p0)), (.tmp 16, z2_3)], [(1, .own 1 [[I 1000]])], B x8.1, [(1, .own 1 [[I x8.2]])], false⟩)] ⟨apc (first := []) (cap := []) (vs := [I p0.Inlet, I 0, I 5]) rfl Qbt (Qag N p0.Inlet 0 5 _ hf1) rfl rfl (nlc nll (nlc nll (nlc nll nl0))) nll rfl, asb hb3 (amv rfl), ag_ (alm (c := Qcp) (l := p0.Parts) (aln rfl Try.underlying32 rfl)), ag_ (apc (first := []) (cap := []) (vs := [(I ((p0.Parts.length : Int))), I 1, I 8]) rfl Qbt (Qag N (p0.Parts.length : Int) 1 8 _ hf4) rfl rfl (nlc nll (nlc nll (nlc nll nl0))) nll rfl), asb hb6 (amv rfl), ag_ (Qd7 (fs := []) (cs := [.ref 1 1 0 0]) rfl rfl rfl rfl), ag_ (Qao (first := []) (cap := []) (vs := [(z2_0 p0), z2_3]) (σr := [(.own 1 [[I 1000]])]) (σr' := [(.own 1 [[I x8.2]])]) (res' := (B x8.1)) [1] rfl enter93 (Qi0 N p0.Parts 1000 _ hf7) rfl (Qb7 (rnc (.plain _ (nld Qcb _)) (rnc (Qap rn0 (rnc (Qa5 rfl) rn0)) rn0))) (slc (Qak (rnc (.plain _ nll) rn0)) Qan) (slc (Qak (rnc (.plain _ nll) rn0)) Qan) (.plain _ nll) rfl rfl rfl), trivial⟩ ?_
    refine Qac ?_
    obtain rfl := osi h
    exact fend ⟨[B x8.1], ⟨rot (by kernel_rfl), trivial⟩, rfl⟩ nll
   ·replace h := Qav hb6 h
    refine wx tbk [(2, rp [fu 65, (.tmp 5, I p0.Inlet), ci 0, ci 5] (B x2)), (3, rp [(.tmp 6, B x2)] (B true)), (6, rp [(.tmp 7, B true), (.tmp 9, (z2_0 p0))] (I ((p0.Parts.length : Int)))), (7, rp [(.tmp 7, B true), fu 65, (.tmp 10, (I ((p0.Parts.length : Int)))), ci 1, ci 8] (B x5)), (9, rp [(.tmp 12, B x5)] (B false))] ⟨apc (first := []) (cap := []) (vs := [I p0.Inlet, I 0, I 5]) rfl Qbt (Qag N p0.Inlet 0 5 _ hf1) rfl rfl (nlc nll (nlc nll (nlc nll nl0))) nll rfl, asb hb3 (amv rfl), ag_ (alm (c := Qcp) (l := p0.Parts) (aln rfl Try.underlying32 rfl)), ag_ (apc (first := []) (cap := []) (vs := [(I ((p0.Parts.length : Int))), I 1, I 8]) rfl Qbt (Qag N (p0.Parts.length : Int) 1 8 _ hf4) rfl rfl (nlc nll (nlc nll (nlc nll nl0))) nll rfl), asb hb6 (amv rfl), trivial⟩ ?_
    refine Qac ?_
    obtain rfl := osi h
    exact fend ⟨[B false], ⟨rot (by kernel_rfl), trivial⟩, rfl⟩ nll
  ·replace h := Qav hb3 h
   refine wx tbk [(2, rp [fu 65, (.tmp 5, I p0.Inlet), ci 0, ci 5] (B x2)), (3, rp [(.tmp 6, B x2)] (B false))] ⟨apc (first := []) (cap := []) (vs := [I p0.Inlet, I 0, I 5]) rfl Qbt (Qag N p0.Inlet 0 5 _ hf1) rfl rfl (nlc nll (nlc nll (nlc nll nl0))) nll rfl, asb hb3 (amv rfl), trivial⟩ ?_
   refine Qac ?_
   obtain rfl := osi h
   exact fend ⟨[B false], ⟨rot (by kernel_rfl), trivial⟩, rfl⟩ nll
def Qc3 (N : Nat) (p0 : GUnit) (k2 : Int → Option Int) : Nat → Int → Int → Option Int
  | 0, _, _ => none
  | n7 + 1, y3, y4 =>
    bif (decide (y4 < (p0.Parts.length : Int))) then
     (getI p0.Parts y4).bind fun x9 =>
     Qc3 N p0 k2 n7 (w64 (y3 + x9.Width)) (w64 (y4 + 1))
    else
     k2 (y3)
def Qgc (N : Nat) (p0 : GUnit) : Option Int :=
  Qcn (fun y1 =>
    some y1) fun k2 : Int → Option Int =>
  Qc3 N p0 k2 N 0 0
def z9_0 (p0 : GUnit) : AV := .dat 2 ((p0.Parts : List GPart).map Qcp)
set_option maxRecDepth 100000 in
set_option maxHeartbeats 4000000 in
theorem Qjv (N : Nat) (p0 : GUnit) (r : Int) (h : Qgc N p0 = some r) : Spec Try.prog 66 [(.agg (Qch p0))] [] (I r) [] := by
  refine Qae Try.func66 rfl 0 (nle rfl) (fun X φ0 w0 hφ0 => ?_)
  unfold Qgc at h
  refine wx tbk [] trivial ?_
  obtain ⟨k2, hk_k2, h⟩ := jko h
  refine wjn (τ := Int) (fun t => k2 t = some r) (fun y1 => ⟨mk 18 [(2, I y1)], []⟩) (fun y1 h => ?_) ?_
  ·subst hk_k2
   refine wx tbk [] trivial ?_
   refine Qac ?_
   obtain rfl := osi h
   exact fend ⟨[I y1], ⟨rot (by kernel_rfl), trivial⟩, rfl⟩ nll
  ·skip
   refine wx tbk [(2, rp [(.tmp 6, (z9_0 p0))] (I ((p0.Parts.length : Int))))] ⟨alm (c := Qcp) (l := p0.Parts) (aln rfl Try.underlying32 rfl), trivial⟩ ?_
   refine Qai ?_
   refine wmr (mto (n := 18) (l' := [(2, I 0), (6, (z9_0 p0)), (7, (I ((p0.Parts.length : Int)))), (8, I 0)]) (own' := []) [(2, I 0), (6, (z9_0 p0)), (7, (I ((p0.Parts.length : Int)))), (8, I 0)] [] [] hφ0 (pc rwl (pc (.rn (.plain _ (nld Qcb _))) (pc rwl (pc rwl pn)))) qn) ?_
   refine Qby (τ := Int × Int) (fun n t => Qc3 N p0 k2 n t.1 t.2 = some r) (fun ⟨y3, y4⟩ => ⟨mk 18 [(2, I y3), (6, (z9_0 p0)), (7, (I ((p0.Parts.length : Int)))), (8, I y4)], []⟩) (fun t h => by rw [Qc3] at h; cases h) (fun n7 ih t h => ?_) N (0, 0) h
   obtain ⟨y3, y4⟩ := t
   rw [Qc3] at h
   skip
   refine wx tbk [] trivial ?_
   refine wsq ?_
   rcases bft ((decide (y4 < (p0.Parts.length : Int)))) with hc8 | hc8
   ·replace h := Qau hc8 h
    refine wft hc8 (by kernel_rfl) ?_
    refine Qal ?_
    refine thn ?_
    refine wsq ?_
    refine Qai ?_
    obtain ⟨x9, hg10, h⟩ := bno h
    obtain ⟨hi11, hj12⟩ := gsm hg10
    refine wx tbk [(0, rp [(.tmp 6, (z9_0 p0)), (.tmp 8, I y4)] (.dptr (Qcp (x9)) 0))] ⟨aid rfl Try.underlying32 Qn2 rfl rfl hi11 (mgt Qcp hj12) rfl, trivial⟩ ?_
    refine wx1 tbk [] trivial ?_
    refine bln ?_
    refine thn ?_
    refine wx1 tbk [] trivial ?_
    refine thn ?_
    exact arm (mto (n := 18) [(2, (I (w64 (y3 + x9.Width)))), (6, (z9_0 p0)), (7, (I ((p0.Parts.length : Int)))), (8, (I (w64 (y4 + 1))))] [] [] hφ0 (pc rwl (pc (.rn (.plain _ (nld Qcb _))) (pc rwl (pc rwl pn)))) qn) (ih (w64 (y3 + x9.Width), w64 (y4 + 1)) h)
   ·replace h := Qav hc8 h
    refine wfn hc8 (by kernel_rfl) ?_
    refine Qbd ?_
    refine Qas ?_
    refine Qas ?_
    refine Qbc rfl ?_
    refine thn ?_
    exact ⟨(y3), h, (mto (n := 18) [(2, I y3)] [] [] hφ0 (pc rwl pn) qn)⟩
def Qg4 (_N : Nat) (_p0 : GUnit) (_p1 : Int) : Option Unit :=
  some ()
def Qyp : AV := .fn (.func 115) [] [(.ref 0 2 (0) 0), (.ref 1 1 (0) 0)]
def z11_1 (p0 : GUnit) : Slot := .own 2 [[(I (p0.Inlet)), (.dat 2 ((p0.Parts : List GPart).map Qcp))]]
set_option maxRecDepth 100000 in
set_option maxHeartbeats 4000000 in
theorem Qks (N : Nat) (p0 : GUnit) (p1 : Int) (r : Unit) (h : Qg4 N p0 p1 = some r) : Spec Try.prog 95 [(.agg [(I (p0.Inlet)), (.dat 2 ((p0.Parts : List GPart).map Qcp))]), (I (p1))] [] Qyp [(z11_1 p0), (.own 1 [[(I (p1))]])] := by
  refine Qae Try.func95 rfl 2 (nle rfl) (fun X φ0 w0 hφ0 => ?_)
  unfold Qg4 at h
  refine Qbr ?_
  refine wx tbk [] trivial ?_
  refine wx tbk [(0, rp [(.tmp 2, .ref 0 2 0 0), (.tmp 3, .ref 1 1 0 0)] Qyp)] ⟨Qd7 (fs := []) (cs := [.ref 0 2 0 0, .ref 1 1 0 0]) rfl rfl rfl rfl, trivial⟩ ?_
  refine wmr (mto (n := 6) (l' := [(4, Qyp)]) (own' := [(z11_1 p0), (.own 1 [[I p1]])]) [(4, Qyp)] [0, 1] [(z11_1 p0), (.own 1 [[I p1]])] hφ0 (pc (.rn (Qap rn0 (rnc (rqr rfl) (rnc (rqr rfl) rn0)))) pn) (qc (spb (lc rwl (lc (.rn (.plain _ (nld Qcb _))) ln))) (qc (spb (lc rwl ln)) qn))) ?_
  refine Qac ?_
  obtain rfl := osi h
  exact ⟨_, Mor.rfl, Qb9 (vs := [Qyp]) ⟨rot (by kernel_rfl), trivial⟩ rfl (NLt.fn _ _ _ nl0 (nlc (NLt.ref _ _ _ _ (by decide)) (nlc (NLt.ref _ _ _ _ (by decide)) nl0))) (by kernel_rfl) (Qah (Qax (nlc (NLt.of0 nll) (nlc (NLt.of0 (nld Qcb _)) nl0))) (Qah (Qax (nlc (NLt.of0 nll) nl0)) Qbl))⟩
def Qdk (N : Nat) (p1 : (List GPart)) : Nat → Int → Int → Option (List (GPart × Int))
  | 0, _, _ => none
  | n7 + 1, y1, y2 =>
    bif (decide (y1 < (p1.length : Int))) then
     (getI p1 y1).bind fun x9 =>
     (some (if x9.Width < y2 then x9.Width else y2)).bind fun x13 =>
     yld (x9, x13) <|
     Qdk N p1 n7 (w64 (y1 + 1)) (w64 (y2 - x13))
    else
     some ([])
def Qg3 (N : Nat) (_p0 : Int) (p1 : (List GPart)) (p2 : Int) : Option (List (GPart × Int)) :=
  Qdk N p1 N 0 p2
def Qtl (p1 : (List GPart)) : AV := .dat 2 ((p1 : List GPart).map Qcp)
def Qyl (p0 : Int) (p1 : (List GPart)) : Slot := .own 2 [[(I (p0)), (Qtl p1)]]
def z12_9 (x9 : GPart) : AV := .agg [(I (x9.Width)), (I (x9.Gain))]
set_option maxRecDepth 100000 in
set_option maxHeartbeats 4000000 in
theorem Qkr (N : Nat) (p0 : Int) (p1 : (List GPart)) (p2 : Int) (r : (List (GPart × Int))) (h : Qg3 N p0 p1 p2 = some r) : Qq3 Try.prog 115 [(.ref 0 2 (0) 0), (.ref 1 1 (0) 0)] [(Qyl p0 p1), (.own 1 [[(I (p2))]])] (fun x => [(.agg #[(.int .i64 (x.1.Width)), (.int .i64 (x.1.Gain))]), (.int .i64 (x.2))]) r := by
  refine Qwe Try.func115 rfl rfl (fun X φ0 w0 l J hφ0 hy => ?_)
  unfold Qg3 at h
  refine wx tbk [(2, rp [(.tmp 8, (Qtl p1))] (I ((p1.length : Int))))] ⟨alm (c := Qcp) (l := p1) (aln rfl Try.underlying32 rfl), trivial⟩ ?_
  refine Qai ?_
  refine wmr (mto (n := 27) (l' := [(0, (.lit (.func (.yield l) #[] #[]))), (2, .ref 1 1 0 0), (8, (Qtl p1)), (9, (I ((p1.length : Int)))), (10, I 0)]) (own' := [(Qyl p0 p1), (.own 1 [[I p2]]), (.far (J (some (r))))]) [(0, (.lit (.func (.yield l) #[] #[]))), (2, .ref 1 1 0 0), (8, (Qtl p1)), (9, (I ((p1.length : Int)))), (10, I 0)] [0, 1, 2] [(Qyl p0 p1), (.own 1 [[I p2]]), (.far (J (some (r))))] hφ0 (pc rwl (pc (.rn (rqr rfl)) (pc (.rn (.plain _ (nld Qcb _))) (pc rwl (pc rwl pn))))) (qc (spb (lc rwl (lc (.rn (.plain _ (nld Qcb _))) ln))) (qc (spb (lc rwl ln)) (qc (.far _) qn)))) ?_
  refine Qby (τ := (Int × Int) × List (GPart × Int)) (fun n t => Qdk N p1 n t.1.1 t.1.2 = some t.2) (fun ⟨⟨y1, y2⟩, q3⟩ => ⟨mk 27 [(0, (.lit (.func (.yield l) #[] #[]))), (2, .ref 1 1 0 0), (8, (Qtl p1)), (9, (I ((p1.length : Int)))), (10, I y1)], [(Qyl p0 p1), (.own 1 [[I y2]]), (.far (J (some (q3))))]⟩) (fun t h => by rw [Qdk] at h; cases h) (fun n7 ih t h => ?_) N ((0, p2), r) h
  obtain ⟨⟨y1, y2⟩, q3⟩ := t
  rw [Qdk] at h
  try dsimp only at h
  refine wx tbk [] trivial ?_
  refine wsq ?_
  rcases bft ((decide (y1 < (p1.length : Int)))) with hc8 | hc8
  ·replace h := Qau hc8 h
   refine wft hc8 (by kernel_rfl) ?_
   refine Qal ?_
   refine thn ?_
   refine wsq ?_
   refine Qai ?_
   obtain ⟨x9, hg10, h⟩ := bno h
   obtain ⟨hi11, hj12⟩ := gsm hg10
   refine wx tbk [(0, rp [(.tmp 8, (Qtl p1)), (.tmp 10, I y1)] (.dptr (Qcp (x9)) 0))] ⟨aid rfl Try.underlying32 Qn2 rfl rfl hi11 (mgt Qcp hj12) rfl, trivial⟩ ?_
   obtain ⟨x13, hl14, h⟩ := bno h
   refine wx tbk [(3, rp [(.tmp 14, I y2), (.tmp 16, I x9.Width)] (I ((if x9.Width < y2 then x9.Width else y2)))), (4, rp [(.tmp 17, (I ((if x9.Width < y2 then x9.Width else y2))))] (I x13))] ⟨Qme rfl, Qe8 hl14 (aas rfl), trivial⟩ ?_
   refine wsq ?_
   obtain ⟨q15, hy_, hq_⟩ := yld_out h
   clear h
   subst hq_
   have h := hy_
   clear hy_
   refine awp_regy 3 [mv 0 (.lit (.func (.yield l) #[] #[])), rb [(.tmp 5, .ref 3 2 0 0)] [(3, .own 2 [[I x9.Width, I x9.Gain]])] (z12_9 x9), mv 6 (I x13), ⟨[(.tmp 18, (.lit (.func (.yield l) #[] #[]))), (.tmp 19, (z12_9 x9)), (.tmp 20, I x13)], [(2, (.far (J (some ((x9, x13) :: q15)))))], B true, [(2, (.far (J (some (q15)))))], false⟩, rp [(.tmp 21, B true)] (B false)] [mv 0 (.lit (.func (.yield l) #[] #[])), rb [(.tmp 5, .ref 3 2 0 0)] [(3, .own 2 [[I x9.Width, I x9.Gain]])] (z12_9 x9), mv 6 (I x13), ⟨[(.tmp 18, (.lit (.func (.yield l) #[] #[]))), (.tmp 19, (z12_9 x9)), (.tmp 20, I x13)], [(2, (.far (J (some ((x9, x13) :: q15)))))], B false, [(2, (.far (J none)))], false⟩, rp [(.tmp 21, B false)] (B true)] (by exact ⟨by kernel_rfl, by kernel_rfl⟩) (by exact ⟨by kernel_rfl, by kernel_rfl⟩) rfl rfl rfl rfl (Qui (rd' := (.tmp 18, .lit (.func (.yield l) #[] #[])) :: [(.tmp 19, .lit (.agg #[(.int .i64 (x9.Width)), (.int .i64 (x9.Gain))])), (.tmp 20, .lit (.int .i64 (x13)))]) ⟨rfl, lrf, rfl, (Less.lits [(.int .i64 (x9.Width)), (.int .i64 (x9.Gain))]), rfl, lrf, trivial⟩ (Qso (x := (x9, x13)) (rest := q15) rfl rfl hy rfl)) (⟨fun _ _ => amv rfl, fun _ _ => ald rfl Qn2 (by decide) rfl (nle rfl) rfl, fun _ _ => amv rfl, fun _ h => absurd rfl h, fun _ _ => Qot rfl, trivial⟩) (⟨fun _ _ => amv rfl, fun _ _ => ald rfl Qn2 (by decide) rfl (nle rfl) rfl, fun _ _ => amv rfl, fun _ h => absurd rfl h, fun _ _ => Qot rfl, trivial⟩) ?_ ?_
   ·skip
    refine Qeg (by kernel_rfl) ?_
    refine Qal ?_
    refine thn ?_
    refine wx1 tbk [] trivial ?_
    refine bln ?_
    refine thn ?_
    refine wx1 tbk [] trivial ?_
    refine thn ?_
    exact arm (mto (n := 27) [(0, (.lit (.func (.yield l) #[] #[]))), (2, .ref 1 1 0 0), (8, (Qtl p1)), (9, (I ((p1.length : Int)))), (10, (I (w64 (y1 + 1))))] [0, 1, 2] [(Qyl p0 p1), (.own 1 [[(I (w64 (y2 - x13)))]]), (.far (J (some (q15))))] hφ0 (pc rwl (pc (.rn (rqr rfl)) (pc (.rn (.plain _ (nld Qcb _))) (pc rwl (pc rwl pn))))) (qc (spb (lc rwl (lc (.rn (.plain _ (nld Qcb _))) ln))) (qc (spb (lc rwl ln)) (qc (.far _) qn)))) (ih ((w64 (y1 + 1), w64 (y2 - x13)), q15) h)
   ·clear h
    refine Qe3 (by kernel_rfl) ?_
    refine Qac ?_
    refine Qar ?_
    refine Qbv ?_
    refine Qar ?_
    refine Qar ?_
    refine Qbv ?_
    exact Or.inr (by kernel_rfl)
  ·replace h := Qav hc8 h
   refine wfn hc8 (by kernel_rfl) ?_
   refine Qbd ?_
   refine Qas ?_
   refine Qas ?_
   refine Qbc rfl ?_
   obtain rfl := osi h
   exact Or.inl rfl
def Qdl (N : Nat) (k2 : Int → Option Int) : (List (GPart × Int)) → Int → Option Int
  | [], y7 =>
    k2 (y7)
  | x10 :: q11, y7 =>
    Qdl N k2 q11 (w64 (y7 + (w64 (x10.1.Gain * x10.2))))
def Qf4 (N : Nat) (p0 : GUnit) (p1 : Int) : Option Int :=
  Qcn (fun y1 =>
    some y1) fun k2 : Int → Option Int =>
  (Qg4 N p0 p1).bind fun _ =>
  (Qg3 N p0.Inlet p0.Parts p1).bind fun q5 =>
  Qdl N k2 q5 0
def z10_0 (p0 : GUnit) : AV := .dat 2 ((p0.Parts : List GPart).map Qcp)
def z10_3 : AV := .fn (.func 115) [] [(.ref 2 2 (0) 0), (.ref 3 1 (0) 0)]
def Qyq (p0 : GUnit) : Slot := .own 2 [[(I (p0.Inlet)), (z10_0 p0)]]
set_option maxRecDepth 100000 in
set_option maxHeartbeats 4000000 in
theorem Qib (N : Nat) (p0 : GUnit) (p1 : Int) (r : Int) (h : Qf4 N p0 p1 = some r) : Spec Try.prog 67 [(.agg (Qch p0)), (I p1)] [] (I r) [] := by
  refine Qae Try.func67 rfl 0 (nle rfl) (fun X φ0 w0 hφ0 => ?_)
  unfold Qf4 at h
  refine wx tbk [] trivial ?_
  obtain ⟨k2, hk_k2, h⟩ := jko h
  refine wjn (τ := Int) (fun t => k2 t = some r) (fun y1 => ⟨mk 19 [(4, .ref 0 1 0 0)], [(.own 1 [[I y1]])]⟩) (fun y1 h => ?_) ?_
  ·subst hk_k2
   refine wx tbk [] trivial ?_
   refine Qac ?_
   obtain rfl := osi h
   exact fend ⟨[I y1], ⟨Qfk (n := 0) (m := 1) (j := 0) (i := 0) (xs := [[I y1]]) (by kernel_rfl) (by kernel_rfl) ti3 (by decide) rfl (nle rfl) rfl, trivial⟩, rfl⟩ nll
  ·skip
   obtain ⟨x4, hf3, h⟩ := bno h
   refine wx tbk [(2, ⟨[fu 95, (.tmp 7, (.agg [I p0.Inlet, (z10_0 p0)])), (.tmp 8, I p1)], [(2, .unused), (3, .unused)], z10_3, [(2, (Qyq p0)), (3, .own 1 [[I p1]])], false⟩)] ⟨Qao (first := []) (cap := []) (vs := [(.agg [I p0.Inlet, (z10_0 p0)]), I p1]) (σr := []) (σr' := [(Qyq p0), (.own 1 [[I p1]])]) (res' := z10_3) [2, 3] rfl enter95 (Qks N p0 p1 _ hf3) rfl (Qb7 (rnc (.plain _ (NLt.agg _ (nlc nll (nlc (nld Qcb _) nl0)))) (rnc (.plain _ nll) rn0))) Qan (slc (Qak (rnc (.plain _ nll) (rnc (.plain _ (nld Qcb _)) rn0))) (slc (Qak (rnc (.plain _ nll) rn0)) Qan)) (Qap rn0 (rnc (Qhj rfl) (rnc (Qhj rfl) rn0))) rfl rfl rfl, trivial⟩ ?_
   refine Qai ?_
   obtain ⟨q5, hL6, h⟩ := bno h
   refine wmr (mto (n := 19) (l' := [(4, .ref 0 1 0 0), (9, (.fn (.func 115) [] [.ref 1 2 0 0, .ref 2 1 0 0]))]) (own' := [(.own 1 [[I 0]]), (Qyq p0), (.own 1 [[I p1]])]) [(4, .ref 1 1 0 0), (9, z10_3)] [1, 2, 3] [(.own 1 [[I 0]]), (Qyq p0), (.own 1 [[I p1]])] hφ0 (pc (.rn (rqr rfl)) (pc (.rn (Qap rn0 (rnc (rqr rfl) (rnc (rqr rfl) rn0)))) pn)) (qc (spb (lc rwl ln)) (qc (spb (lc rwl (lc (.rn (.plain _ (nld Qcb _))) ln))) (qc (spb (lc rwl ln)) qn)))) ?_
   refine Qwt (τ := (Int)) (kb := 3) (caps := [.ref 1 2 0 0, .ref 2 1 0 0]) (σr := [(Qyq p0), (.own 1 [[I p1]])]) (encs := fun x => [(.agg #[(.int .i64 (x.1.Width)), (.int .i64 (x.1.Gain))]), (.int .i64 (x.2))]) (fun x => [(.agg [I x.1.Width, I x.1.Gain]), I x.2]) [1, 2] (fun n hn => hφ0 n (Nat.le_trans (nle rfl) hn)) (Qkr N p0.Inlet p0.Parts p1 _ hL6) enter115 (by kernel_rfl) (by kernel_rfl) (Qb7 (rnc (Qhj rfl) (rnc (Qhj rfl) rn0))) (slc (Qak (rnc (.plain _ nll) (rnc (.plain _ (nld Qcb _)) rn0))) (slc (Qak (rnc (.plain _ nll) rn0)) Qan)) (by kernel_rfl) (fun _ => rfl) (fun x => ⟨(Less.unlits [(.int .i64 (x.1.Width)), (.int .i64 (x.1.Gain))]), lrf, trivial⟩) (nlt_mk (Qu6 (NLt.ref _ _ _ _ (by decide)) (Qu6 (NLt.fn _ _ _ nl0 (nlc (NLt.ref _ _ _ _ (by decide)) (nlc (NLt.ref _ _ _ _ (by decide)) nl0))) nlp_nil))) (fun y7 => [(.own 1 [[I y7]]), .dead, .dead]) (fun _ => rfl) (fun _ => rfl) (fun l t => Qdl N k2 l t = some r) (0) h (by kernel_rfl) ?_ ?_
   ·intro l12 o13 X16 φ17 w18 hφ15 x10 q11 y7 h
    rw [Qdl] at h
    refine wx tbk [] trivial ?_
    refine wx1 tbk [] trivial ?_
    refine ⟨by kernel_rfl, fun o14 => ?_⟩
    refine Qai ?_
    refine wx1 tbk [] trivial ?_
    refine bln ?_
    exact ⟨(w64 (y7 + (w64 (x10.1.Gain * x10.2)))), h, ren_to (own' := [(.own 1 [[(I ((w64 (y7 + (w64 (x10.1.Gain * x10.2))))))]]), .dead, .dead, (.far (farL l12 o14))]) [0, 1, 2, 3] [(.own 1 [[(I (w64 (y7 + (w64 (x10.1.Gain * x10.2)))))]]), .dead, .dead, (.far (farL l12 o14))] (by kernel_rfl) (by kernel_rfl) ⟨(spb (lc rwl ln)), .dead, .dead, .far _, trivial⟩⟩
   ·intro y7 h
    rw [Qdl] at h
    refine bln ?_
    refine thn ?_
    exact ⟨(y7), h, (mto (n := 19) [(4, .ref 0 1 0 0)] [0] [(.own 1 [[I y7]])] hφ0 (pc (.rn (rqr rfl)) pn) (qc (spb (lc rwl ln)) qn))⟩
def Qku (N : Nat) (p0 : GUnit) (p1 : Int) : Option (Int × Int) :=
  (Qf3 N p0).bind fun x2 =>
  bif (!x2) then
   some (0, 1)
  else
   (Qgc N p0).bind fun x5 =>
   (Qbe N p1 0 x5).bind fun x7 =>
   bif (!x7) then
    some (0, 2)
   else
    (Qf4 N p0 p1).bind fun x10 =>
    some (x10, 0)
def z1_2 (p0 : GUnit) : AV := .agg [(I (p0.Inlet)), (.dat 2 ((p0.Parts : List GPart).map Qcp))]
set_option maxRecDepth 100000 in
set_option maxHeartbeats 4000000 in
theorem Qoc (N : Nat) (p0 : GUnit) (p1 : Int) (r : (Int × Int)) (h : Qku N p0 p1 = some r) : Spec Try.prog 18 [(.agg (Qch p0)), (I p1)] [] (.tup [(I r.1), (I r.2)]) [] := by
  refine Qae Try.func18 rfl 0 (nle rfl) (fun X φ0 w0 hφ0 => ?_)
  unfold Qku at h
  refine wx tbk [] trivial ?_
  refine wsq ?_
  refine Qai ?_
  obtain ⟨x2, hf1, h⟩ := bno h
  refine wx tbk [(1, rp [fu 64, (.tmp 7, (z1_2 p0))] (B x2))] ⟨apc (first := []) (cap := []) (vs := [(z1_2 p0)]) rfl Qt2 (Qgb N p0 _ hf1) rfl rfl (nlc (NLt.agg _ (nlc nll (nlc (nld Qcb _) nl0))) nl0) nll rfl, trivial⟩ ?_
  rcases bft ((!x2)) with hc3 | hc3
  ·replace h := Qau hc3 h
   refine wft hc3 (by kernel_rfl) ?_
   refine wx tbk [] trivial ?_
   refine Qac ?_
   refine Qbv ?_
   refine Qar ?_
   obtain rfl := osi h
   exact fend ⟨[I 0, I 1], ⟨rot (by kernel_rfl), rot (by kernel_rfl), trivial⟩, rfl⟩ (NLt.tup _ (nlc nll (nlc nll nl0)))
  ·replace h := Qav hc3 h
   refine wfn hc3 (by kernel_rfl) ?_
   obtain ⟨x5, hf4, h⟩ := bno h
   obtain ⟨x7, hf6, h⟩ := bno h
   refine wx tbk [(2, rp [fu 66, (.tmp 12, (z1_2 p0))] (I x5)), (3, rp [fu 65, (.tmp 11, I p1), ci 0, (.tmp 13, I x5)] (B x7))] ⟨apc (first := []) (cap := []) (vs := [(z1_2 p0)]) rfl enter66 (Qjv N p0 _ hf4) rfl rfl (nlc (NLt.agg _ (nlc nll (nlc (nld Qcb _) nl0))) nl0) nll rfl, apc (first := []) (cap := []) (vs := [I p1, I 0, I x5]) rfl Qbt (Qag N p1 0 x5 _ hf6) rfl rfl (nlc nll (nlc nll (nlc nll nl0))) nll rfl, trivial⟩ ?_
   rcases bft ((!x7)) with hc8 | hc8
   ·replace h := Qau hc8 h
    refine wft hc8 (by kernel_rfl) ?_
    refine wx tbk [] trivial ?_
    refine Qac ?_
    refine Qbv ?_
    refine Qar ?_
    obtain rfl := osi h
    exact fend ⟨[I 0, I 2], ⟨rot (by kernel_rfl), rot (by kernel_rfl), trivial⟩, rfl⟩ (NLt.tup _ (nlc nll (nlc nll nl0)))
   ·replace h := Qav hc8 h
    refine wfn hc8 (by kernel_rfl) ?_
    refine Qal ?_
    refine bln ?_
    refine thn ?_
    obtain ⟨x10, hf9, h⟩ := bno h
    refine wx tbk [(2, rp [fu 67, (.tmp 16, (z1_2 p0)), (.tmp 17, I p1)] (I x10))] ⟨apc (first := []) (cap := []) (vs := [(z1_2 p0), I p1]) rfl enter67 (Qib N p0 p1 _ hf9) rfl rfl (nlc (NLt.agg _ (nlc nll (nlc (nld Qcb _) nl0))) (nlc nll nl0)) nll rfl, trivial⟩ ?_
    refine Qac ?_
    obtain rfl := osi h
    exact fend ⟨[I x10, I 0], ⟨rot (by kernel_rfl), rot (by kernel_rfl), trivial⟩, rfl⟩ (NLt.tup _ (nlc nll (nlc nll nl0)))
def Qg7 (N : Nat) (p0 : GCycle) : Option Bool :=
  (Qbe N p0.Out 0 4000).bind fun x2 =>
  bif x2 then
   (Qbe N p0.Yield 0 1000).bind fun x5 =>
   bif x5 then
    (Qbe N p0.Most 0 4000000000).bind fun x8 =>
    some x8
   else
    some false
  else
   some false
set_option maxRecDepth 100000 in
set_option maxHeartbeats 4000000 in
theorem Qhy (N : Nat) (p0 : GCycle) (r : Bool) (h : Qg7 N p0 = some r) : Spec Try.prog 75 [(.agg (Qvt p0))] [] (B r) [] := by
  refine Qae Try.func75 rfl 0 (nle rfl) (fun X φ0 w0 hφ0 => ?_)
  unfold Qg7 at h
  refine wx tbk [] trivial ?_
  obtain ⟨x2, hf1, h⟩ := bno h
  rcases bft (x2) with hb3 | hb3
  ·replace h := Qau hb3 h
   obtain ⟨x5, hf4, h⟩ := bno h
   rcases bft (x5) with hb6 | hb6
   ·replace h := Qau hb6 h
    obtain ⟨x8, hf7, h⟩ := bno h
    refine wx tbk [(2, rp [fu 65, (.tmp 4, I p0.Out), ci 0, ci 4000] (B x2)), (3, rp [(.tmp 5, B x2)] (B true)), (6, rp [(.tmp 6, B true), fu 65, (.tmp 8, I p0.Yield), ci 0, ci 1000] (B x5)), (8, rp [(.tmp 10, B x5)] (B true)), (11, rp [(.tmp 11, B true), fu 65, (.tmp 13, I p0.Most), ci 0, ci 4000000000] (B x8))] ⟨apc (first := []) (cap := []) (vs := [I p0.Out, I 0, I 4000]) rfl Qbt (Qag N p0.Out 0 4000 _ hf1) rfl rfl (nlc nll (nlc nll (nlc nll nl0))) nll rfl, asb hb3 (amv rfl), ag_ (apc (first := []) (cap := []) (vs := [I p0.Yield, I 0, I 1000]) rfl Qbt (Qag N p0.Yield 0 1000 _ hf4) rfl rfl (nlc nll (nlc nll (nlc nll nl0))) nll rfl), asb hb6 (amv rfl), ag_ (apc (first := []) (cap := []) (vs := [I p0.Most, I 0, I 4000000000]) rfl Qbt (Qag N p0.Most 0 4000000000 _ hf7) rfl rfl (nlc nll (nlc nll (nlc nll nl0))) nll rfl), trivial⟩ ?_
    refine Qac ?_
    obtain rfl := osi h
    exact fend ⟨[B x8], ⟨rot (by kernel_rfl), trivial⟩, rfl⟩ nll
   ·replace h := Qav hb6 h
    refine wx tbk [(2, rp [fu 65, (.tmp 4, I p0.Out), ci 0, ci 4000] (B x2)), (3, rp [(.tmp 5, B x2)] (B true)), (6, rp [(.tmp 6, B true), fu 65, (.tmp 8, I p0.Yield), ci 0, ci 1000] (B x5)), (8, rp [(.tmp 10, B x5)] (B false))] ⟨apc (first := []) (cap := []) (vs := [I p0.Out, I 0, I 4000]) rfl Qbt (Qag N p0.Out 0 4000 _ hf1) rfl rfl (nlc nll (nlc nll (nlc nll nl0))) nll rfl, asb hb3 (amv rfl), ag_ (apc (first := []) (cap := []) (vs := [I p0.Yield, I 0, I 1000]) rfl Qbt (Qag N p0.Yield 0 1000 _ hf4) rfl rfl (nlc nll (nlc nll (nlc nll nl0))) nll rfl), asb hb6 (amv rfl), trivial⟩ ?_
    refine Qac ?_
    obtain rfl := osi h
    exact fend ⟨[B false], ⟨rot (by kernel_rfl), trivial⟩, rfl⟩ nll
  ·replace h := Qav hb3 h
   refine wx tbk [(2, rp [fu 65, (.tmp 4, I p0.Out), ci 0, ci 4000] (B x2)), (3, rp [(.tmp 5, B x2)] (B false))] ⟨apc (first := []) (cap := []) (vs := [I p0.Out, I 0, I 4000]) rfl Qbt (Qag N p0.Out 0 4000 _ hf1) rfl rfl (nlc nll (nlc nll (nlc nll nl0))) nll rfl, asb hb3 (amv rfl), trivial⟩ ?_
   refine Qac ?_
   obtain rfl := osi h
   exact fend ⟨[B false], ⟨rot (by kernel_rfl), trivial⟩, rfl⟩ nll
def Qfy (_N : Nat) (p0 : Int) (p1 : Int) (p2 : Int) : Option Bool :=
  bif (decide (p1 ≤ p0)) then
   some (decide (p0 ≤ p2))
  else
   some false
set_option maxRecDepth 100000 in
set_option maxHeartbeats 4000000 in
theorem Qcz (N : Nat) (p0 : Int) (p1 : Int) (p2 : Int) (r : Bool) (h : Qfy N p0 p1 p2 = some r) : Spec Try.prog 131 [(I p0), (I p1), (I p2)] [] (B r) [] := by
  refine Qae Try.func131 rfl 0 (nle rfl) (fun X φ0 w0 hφ0 => ?_)
  unfold Qfy at h
  refine wx tbk [] trivial ?_
  rcases bft ((decide (p1 ≤ p0))) with hb1 | hb1
  ·replace h := Qau hb1 h
   refine wx tbk [(3, rp [(.tmp 9, (B ((decide (p1 ≤ p0)))))] (B true))] ⟨asb hb1 (amv rfl), trivial⟩ ?_
   refine Qac ?_
   obtain rfl := osi h
   exact fend ⟨[(B ((decide (p0 ≤ p2))))], ⟨rot (by kernel_rfl), trivial⟩, rfl⟩ nll
  ·replace h := Qav hb1 h
   refine wx tbk [(3, rp [(.tmp 9, (B ((decide (p1 ≤ p0)))))] (B false))] ⟨asb hb1 (amv rfl), trivial⟩ ?_
   refine Qac ?_
   obtain rfl := osi h
   exact fend ⟨[B false], ⟨rot (by kernel_rfl), trivial⟩, rfl⟩ nll
def Qgh (N : Nat) (p0 : GStream) : Option Bool :=
  (Qfy N p0.Mass 0 1000000).bind fun x2 =>
  bif x2 then
   (Qfy N p0.Heat 0 (w64 (4000 * p0.Mass))).bind fun x5 =>
   bif x5 then
    (Qfy N p0.Silica 0 (w64 (10000 * p0.Mass))).bind fun x8 =>
    bif x8 then
     (Qfy N p0.Gas 0 1000000000).bind fun x11 =>
     some x11
    else
     some false
   else
    some false
  else
   some false
set_option maxRecDepth 100000 in
set_option maxHeartbeats 4000000 in
theorem Qj6 (N : Nat) (p0 : GStream) (r : Bool) (h : Qgh N p0 = some r) : Spec Try.prog 120 [(.agg (Qd3 p0))] [] (B r) [] := by
  refine Qae Try.func120 rfl 0 (nle rfl) (fun X φ0 w0 hφ0 => ?_)
  unfold Qgh at h
  refine wx tbk [] trivial ?_
  obtain ⟨x2, hf1, h⟩ := bno h
  rcases bft (x2) with hb3 | hb3
  ·replace h := Qau hb3 h
   obtain ⟨x5, hf4, h⟩ := bno h
   rcases bft (x5) with hb6 | hb6
   ·replace h := Qau hb6 h
    obtain ⟨x8, hf7, h⟩ := bno h
    rcases bft (x8) with hb9 | hb9
    ·replace h := Qau hb9 h
     obtain ⟨x11, hf10, h⟩ := bno h
     refine wx tbk [(2, rp [fu 131, (.tmp 4, I p0.Mass), ci 0, ci 1000000] (B x2)), (3, rp [(.tmp 5, B x2)] (B true)), (9, rp [(.tmp 6, B true), fu 131, (.tmp 8, I p0.Heat), ci 0, (.tmp 11, (I (w64 (4000 * p0.Mass))))] (B x5)), (11, rp [(.tmp 13, B x5)] (B true)), (17, rp [(.tmp 14, B true), fu 131, (.tmp 16, I p0.Silica), ci 0, (.tmp 19, (I (w64 (10000 * p0.Mass))))] (B x8)), (19, rp [(.tmp 21, B x8)] (B true)), (22, rp [(.tmp 22, B true), fu 131, (.tmp 24, I p0.Gas), ci 0, ci 1000000000] (B x11))] ⟨apc (first := []) (cap := []) (vs := [I p0.Mass, I 0, I 1000000]) rfl Qho (Qcz N p0.Mass 0 1000000 _ hf1) rfl rfl (nlc nll (nlc nll (nlc nll nl0))) nll rfl, asb hb3 (amv rfl), ag_ (apc (first := []) (cap := []) (vs := [I p0.Heat, I 0, (I (w64 (4000 * p0.Mass)))]) rfl Qho (Qcz N p0.Heat 0 (w64 (4000 * p0.Mass)) _ hf4) rfl rfl (nlc nll (nlc nll (nlc nll nl0))) nll rfl), asb hb6 (amv rfl), ag_ (apc (first := []) (cap := []) (vs := [I p0.Silica, I 0, (I (w64 (10000 * p0.Mass)))]) rfl Qho (Qcz N p0.Silica 0 (w64 (10000 * p0.Mass)) _ hf7) rfl rfl (nlc nll (nlc nll (nlc nll nl0))) nll rfl), asb hb9 (amv rfl), ag_ (apc (first := []) (cap := []) (vs := [I p0.Gas, I 0, I 1000000000]) rfl Qho (Qcz N p0.Gas 0 1000000000 _ hf10) rfl rfl (nlc nll (nlc nll (nlc nll nl0))) nll rfl), trivial⟩ ?_
     refine Qac ?_
     obtain rfl := osi h
     exact fend ⟨[B x11], ⟨rot (by kernel_rfl), trivial⟩, rfl⟩ nll
    ·replace h := Qav hb9 h
     refine wx tbk [(2, rp [fu 131, (.tmp 4, I p0.Mass), ci 0, ci 1000000] (B x2)), (3, rp [(.tmp 5, B x2)] (B true)), (9, rp [(.tmp 6, B true), fu 131, (.tmp 8, I p0.Heat), ci 0, (.tmp 11, (I (w64 (4000 * p0.Mass))))] (B x5)), (11, rp [(.tmp 13, B x5)] (B true)), (17, rp [(.tmp 14, B true), fu 131, (.tmp 16, I p0.Silica), ci 0, (.tmp 19, (I (w64 (10000 * p0.Mass))))] (B x8)), (19, rp [(.tmp 21, B x8)] (B false))] ⟨apc (first := []) (cap := []) (vs := [I p0.Mass, I 0, I 1000000]) rfl Qho (Qcz N p0.Mass 0 1000000 _ hf1) rfl rfl (nlc nll (nlc nll (nlc nll nl0))) nll rfl, asb hb3 (amv rfl), ag_ (apc (first := []) (cap := []) (vs := [I p0.Heat, I 0, (I (w64 (4000 * p0.Mass)))]) rfl Qho (Qcz N p0.Heat 0 (w64 (4000 * p0.Mass)) _ hf4) rfl rfl (nlc nll (nlc nll (nlc nll nl0))) nll rfl), asb hb6 (amv rfl), ag_ (apc (first := []) (cap := []) (vs := [I p0.Silica, I 0, (I (w64 (10000 * p0.Mass)))]) rfl Qho (Qcz N p0.Silica 0 (w64 (10000 * p0.Mass)) _ hf7) rfl rfl (nlc nll (nlc nll (nlc nll nl0))) nll rfl), asb hb9 (amv rfl), trivial⟩ ?_
     refine Qac ?_
     obtain rfl := osi h
     exact fend ⟨[B false], ⟨rot (by kernel_rfl), trivial⟩, rfl⟩ nll
   ·replace h := Qav hb6 h
    refine wx tbk [(2, rp [fu 131, (.tmp 4, I p0.Mass), ci 0, ci 1000000] (B x2)), (3, rp [(.tmp 5, B x2)] (B true)), (9, rp [(.tmp 6, B true), fu 131, (.tmp 8, I p0.Heat), ci 0, (.tmp 11, (I (w64 (4000 * p0.Mass))))] (B x5)), (11, rp [(.tmp 13, B x5)] (B false))] ⟨apc (first := []) (cap := []) (vs := [I p0.Mass, I 0, I 1000000]) rfl Qho (Qcz N p0.Mass 0 1000000 _ hf1) rfl rfl (nlc nll (nlc nll (nlc nll nl0))) nll rfl, asb hb3 (amv rfl), ag_ (apc (first := []) (cap := []) (vs := [I p0.Heat, I 0, (I (w64 (4000 * p0.Mass)))]) rfl Qho (Qcz N p0.Heat 0 (w64 (4000 * p0.Mass)) _ hf4) rfl rfl (nlc nll (nlc nll (nlc nll nl0))) nll rfl), asb hb6 (amv rfl), trivial⟩ ?_
    refine Qac ?_
    obtain rfl := osi h
    exact fend ⟨[B false], ⟨rot (by kernel_rfl), trivial⟩, rfl⟩ nll
  ·replace h := Qav hb3 h
   refine wx tbk [(2, rp [fu 131, (.tmp 4, I p0.Mass), ci 0, ci 1000000] (B x2)), (3, rp [(.tmp 5, B x2)] (B false))] ⟨apc (first := []) (cap := []) (vs := [I p0.Mass, I 0, I 1000000]) rfl Qho (Qcz N p0.Mass 0 1000000 _ hf1) rfl rfl (nlc nll (nlc nll (nlc nll nl0))) nll rfl, asb hb3 (amv rfl), trivial⟩ ?_
   refine Qac ?_
   obtain rfl := osi h
   exact fend ⟨[B false], ⟨rot (by kernel_rfl), trivial⟩, rfl⟩ nll
def Qgt (N : Nat) (p0 : GStream) : Option Int :=
  (Qgh N p0).bind fun x2 =>
  bif (!x2) then
   some 1
  else
   some 0
def z21_1 (p0 : GStream) : AV := .agg [(I (p0.Mass)), (I (p0.Heat)), (I (p0.Silica)), (I (p0.Gas))]
set_option maxRecDepth 100000 in
set_option maxHeartbeats 4000000 in
theorem Qkk (N : Nat) (p0 : GStream) (r : Int) (h : Qgt N p0 = some r) : Spec Try.prog 101 [(.agg (Qd3 p0))] [] (I r) [] := by
  refine Qae Try.func101 rfl 0 (nle rfl) (fun X φ0 w0 hφ0 => ?_)
  unfold Qgt at h
  refine wx tbk [] trivial ?_
  refine wsq ?_
  obtain ⟨x2, hf1, h⟩ := bno h
  refine wx tbk [(1, rp [fu 120, (.tmp 3, (z21_1 p0))] (B x2))] ⟨apc (first := []) (cap := []) (vs := [(z21_1 p0)]) rfl enter120 (Qj6 N p0 _ hf1) rfl rfl (nlc (NLt.agg _ (nlc nll (nlc nll (nlc nll (nlc nll nl0))))) nl0) nll rfl, trivial⟩ ?_
  rcases bft ((!x2)) with hc3 | hc3
  ·replace h := Qau hc3 h
   refine wft hc3 (by kernel_rfl) ?_
   refine wx tbk [] trivial ?_
   refine Qac ?_
   refine Qar ?_
   obtain rfl := osi h
   exact fend ⟨[I 1], ⟨rot (by kernel_rfl), trivial⟩, rfl⟩ nll
  ·replace h := Qav hc3 h
   refine wfn hc3 (by kernel_rfl) ?_
   refine Qal ?_
   refine thn ?_
   refine wx tbk [] trivial ?_
   refine Qac ?_
   obtain rfl := osi h
   exact fend ⟨[I 0], ⟨rot (by kernel_rfl), trivial⟩, rfl⟩ nll
def Qja (N : Nat) (p0 : GStream) : Option Bool :=
  (Qgt N p0).bind fun x2 =>
  some (x2 == 0)
def z20_1 (p0 : GStream) : AV := .agg [(I (p0.Mass)), (I (p0.Heat)), (I (p0.Silica)), (I (p0.Gas))]
set_option maxRecDepth 100000 in
set_option maxHeartbeats 4000000 in
theorem Qmx (N : Nat) (p0 : GStream) (r : Bool) (h : Qja N p0 = some r) : Spec Try.prog 100 [(.agg (Qd3 p0))] [] (B r) [] := by
  refine Qae Try.func100 rfl 0 (nle rfl) (fun X φ0 w0 hφ0 => ?_)
  unfold Qja at h
  refine wx tbk [] trivial ?_
  obtain ⟨x2, hf1, h⟩ := bno h
  refine wx tbk [(1, rp [fu 101, (.tmp 3, (z20_1 p0))] (I x2))] ⟨apc (first := []) (cap := []) (vs := [(z20_1 p0)]) rfl enter101 (Qkk N p0 _ hf1) rfl rfl (nlc (NLt.agg _ (nlc nll (nlc nll (nlc nll (nlc nll nl0))))) nl0) nll rfl, trivial⟩ ?_
  refine Qac ?_
  obtain rfl := osi h
  exact fend ⟨[(B ((x2 == 0)))], ⟨rot (by kernel_rfl), trivial⟩, rfl⟩ nll
def Qec (N : Nat) (p0 : GStream) : Option Bool :=
  (Qja N p0).bind fun x3 =>
  some (!x3)
def z19_1 (p0 : GStream) : AV := .agg [(I (p0.Mass)), (I (p0.Heat)), (I (p0.Silica)), (I (p0.Gas))]
def z19_2 : Slot := .own 1 [[(.fn (.func 100) [] [])]]
set_option maxRecDepth 100000 in
set_option maxHeartbeats 4000000 in
theorem Qhx (N : Nat) (p0 : GStream) (r : Bool) (h : Qec N p0 = some r) : Spec Try.prog 119 [(z19_1 p0), (.ref 0 1 (0) 0)] [z19_2] (B (r)) [z19_2] := by
  refine Qae Try.func119 rfl 1 (nle rfl) (fun X φ0 w0 hφ0 => ?_)
  unfold Qec at h
  refine Qbr ?_
  refine wx tbk [] trivial ?_
  obtain ⟨x3, hf2, h⟩ := bno h
  refine wx tbk [(2, rp [(.tmp 4, (.fn (.func 100) [] [])), (.tmp 5, (z19_1 p0))] (B x3))] ⟨apc (first := []) (cap := []) (vs := [(z19_1 p0)]) rfl enter100 (Qmx N p0 _ hf2) rfl rfl (nlc (NLt.agg _ (nlc nll (nlc nll (nlc nll (nlc nll nl0))))) nl0) nll rfl, trivial⟩ ?_
  refine wmr (mto (n := 8) (l' := [(3, (B ((!x3))))]) (own' := [z19_2]) [(3, (B ((!x3))))] [0] [z19_2] hφ0 (pc rwl pn) (qc (spb (lc (.rn (Qap rn0 rn0)) ln)) qn)) ?_
  refine Qac ?_
  obtain rfl := osi h
  exact ⟨_, Mor.rfl, Qb9 (vs := [(B ((!x3)))]) ⟨rot (by kernel_rfl), trivial⟩ rfl (NLt.of0 nll) (by kernel_rfl) (Qah (Qax (nlc (NLt.of0 (NLt.fn _ _ _ nl0 nl0)) nl0)) Qbl)⟩
def Qa0 (N : Nat) (p0 : (List GStream)) (k2 : Unit → Option Int) : Nat → Int → Option Int
  | 0, _ => none
  | n5 + 1, y3 =>
    bif (decide (y3 < (p0.length : Int))) then
     (getI p0 y3).bind fun x7 =>
     (Qec N x7).bind fun x12 =>
     bif x12 then
      some y3
     else
      Qa0 N p0 k2 n5 (w64 (y3 + 1))
    else
     k2 ()
def Qcc (N : Nat) (p0 : (List GStream)) : Option Int :=
  Qcn (fun _ =>
    some (-1)) fun k2 : Unit → Option Int =>
  Qa0 N p0 k2 N 0
def Qti (p0 : (List GStream)) : AV := .dat 4 ((p0 : List GStream).map Qd3)
def Qv9 : AV := .fn (.func 119) [] [(.ref 0 1 (0) 0)]
def Qlj : Slot := .own 1 [[(.fn (.func 100) [] [])]]
def z18_8 (x7 : GStream) : AV := .agg [(I (x7.Mass)), (I (x7.Heat)), (I (x7.Silica)), (I (x7.Gas))]
set_option maxRecDepth 100000 in
set_option maxHeartbeats 4000000 in
theorem Qel (N : Nat) (p0 : (List GStream)) (r : Int) (h : Qcc N p0 = some r) : Spec Try.prog 130 [(Qti p0), Qv9] [Qlj] (I (r)) [Qlj] := by
  refine Qae Try.func130 rfl 1 (nle rfl) (fun X φ0 w0 hφ0 => ?_)
  unfold Qcc at h
  refine Qbr ?_
  refine wx tbk [] trivial ?_
  obtain ⟨k2, hk_k2, h⟩ := jko h
  refine wjn (τ := Unit) (fun t => k2 t = some r) (fun _ => ⟨mk 19 [], [Qlj]⟩) (fun t h => ?_) ?_
  ·subst hk_k2
   refine wx tbk [] trivial ?_
   refine wmr (mto (n := 19) (l' := [(4, (I ((-1))))]) (own' := [Qlj]) [(4, (I ((-1))))] [0] [Qlj] hφ0 (pc rwl pn) (qc (spb (lc (.rn (Qap rn0 rn0)) ln)) qn)) ?_
   refine Qac ?_
   obtain rfl := osi h
   exact ⟨_, Mor.rfl, Qb9 (vs := [(I ((-1)))]) ⟨rot (by kernel_rfl), trivial⟩ rfl (NLt.of0 nll) (by kernel_rfl) (Qah (Qax (nlc (NLt.of0 (NLt.fn _ _ _ nl0 nl0)) nl0)) Qbl)⟩
  ·skip
   refine wx tbk [(1, rp [(.tmp 6, (Qti p0))] (I ((p0.length : Int))))] ⟨alm (c := Qd3) (l := p0) (aln rfl Try.underlying143 rfl), trivial⟩ ?_
   refine Qai ?_
   refine wmr (mto (n := 19) (l' := [(0, (Qti p0)), (1, Qv9), (7, (I ((p0.length : Int)))), (8, I 0)]) (own' := [Qlj]) [(0, (Qti p0)), (1, Qv9), (7, (I ((p0.length : Int)))), (8, I 0)] [0] [Qlj] hφ0 (pc (.rn (.plain _ (nld Qij _))) (pc (.rn (Qap rn0 (rnc (rqr rfl) rn0))) (pc rwl (pc rwl pn)))) (qc (spb (lc (.rn (Qap rn0 rn0)) ln)) qn)) ?_
   refine Qby (τ := Int) (fun n t => Qa0 N p0 k2 n t = some r) (fun y3 => ⟨mk 19 [(0, (Qti p0)), (1, Qv9), (7, (I ((p0.length : Int)))), (8, I y3)], [Qlj]⟩) (fun t h => by rw [Qa0] at h; cases h) (fun n5 ih y3 h => ?_) N (0) h
   rw [Qa0] at h
   skip
   refine wx tbk [] trivial ?_
   refine wsq ?_
   rcases bft ((decide (y3 < (p0.length : Int)))) with hc6 | hc6
   ·replace h := Qau hc6 h
    refine wft hc6 (by kernel_rfl) ?_
    refine Qal ?_
    refine thn ?_
    refine wsq ?_
    refine Qai ?_
    refine wx tbk [] trivial ?_
    obtain ⟨x7, hg8, h⟩ := bno h
    obtain ⟨hi9, hj10⟩ := gsm hg8
    obtain ⟨x12, hf11, h⟩ := bno h
    refine wx tbk [(3, rp [(.tmp 12, (Qti p0)), (.tmp 13, I y3)] (.dptr (Qd3 (x7)) 0)), (5, ⟨[(.tmp 11, Qv9), (.tmp 15, (z18_8 x7))], [(0, Qlj)], B x12, [(0, Qlj)], false⟩)] ⟨aid rfl Try.underlying143 ti60 rfl rfl hi9 (mgt Qd3 hj10) rfl, Qao (first := []) (cap := [.ref 0 1 0 0]) (vs := [(z18_8 x7)]) (σr := [Qlj]) (σr' := [Qlj]) (res' := (B x12)) [0] rfl enter119 (Qhx N x7 _ hf11) rfl (Qb7 (rnc (.plain _ (NLt.agg _ (nlc nll (nlc nll (nlc nll (nlc nll nl0)))))) (rnc (Qa5 rfl) rn0))) (slc (Qak (rnc (.plain _ (NLt.fn _ _ _ nl0 nl0)) rn0)) Qan) (slc (Qak (rnc (.plain _ (NLt.fn _ _ _ nl0 nl0)) rn0)) Qan) (.plain _ nll) rfl rfl rfl, trivial⟩ ?_
    rcases bft (x12) with hc13 | hc13
    ·replace h := Qau hc13 h
     refine wft hc13 (by kernel_rfl) ?_
     refine wx tbk [] trivial ?_
     refine wmr (mto (n := 19) (l' := [(4, I y3)]) (own' := [Qlj]) [(4, I y3)] [0] [Qlj] hφ0 (pc rwl pn) (qc (spb (lc (.rn (Qap rn0 rn0)) ln)) qn)) ?_
     refine Qac ?_
     refine Qbv ?_
     refine Qar ?_
     refine Qar ?_
     refine Qbv ?_
     refine Qar ?_
     obtain rfl := osi h
     exact ⟨_, Mor.rfl, Qb9 (vs := [I y3]) ⟨rot (by kernel_rfl), trivial⟩ rfl (NLt.of0 nll) (by kernel_rfl) (Qah (Qax (nlc (NLt.of0 (NLt.fn _ _ _ nl0 nl0)) nl0)) Qbl)⟩
    ·replace h := Qav hc13 h
     refine wfn hc13 (by kernel_rfl) ?_
     refine Qal ?_
     refine bln ?_
     refine thn ?_
     refine wx1 tbk [] trivial ?_
     refine thn ?_
     exact arm (mto (n := 19) [(0, (Qti p0)), (1, Qv9), (7, (I ((p0.length : Int)))), (8, (I (w64 (y3 + 1))))] [0] [Qlj] hφ0 (pc (.rn (.plain _ (nld Qij _))) (pc (.rn (Qap rn0 (rnc (rqr rfl) rn0))) (pc rwl (pc rwl pn)))) (qc (spb (lc (.rn (Qap rn0 rn0)) ln)) qn)) (ih (w64 (y3 + 1)) h)
   ·replace h := Qav hc6 h
    refine wfn hc6 (by kernel_rfl) ?_
    refine Qbd ?_
    refine Qas ?_
    refine Qas ?_
    refine Qbc rfl ?_
    refine thn ?_
    exact ⟨(), h, (mto (n := 19) [] [0] [Qlj] hφ0 pn (qc (spb (lc (.rn (Qap rn0 rn0)) ln)) qn))⟩
def Qb6 (N : Nat) (p0 : (List GStream)) : Option Bool :=
  (Qcc N p0).bind fun x3 =>
  some (decide (x3 ≥ 0))
def z17_0 (p0 : (List GStream)) : AV := .dat 4 ((p0 : List GStream).map Qd3)
def z17_1 : AV := .fn (.func 119) [] [(.ref 0 1 (0) 0)]
def Qrl : Slot := .own 1 [[(.fn (.func 100) [] [])]]
set_option maxRecDepth 100000 in
set_option maxHeartbeats 4000000 in
theorem Qea (N : Nat) (p0 : (List GStream)) (r : Bool) (h : Qb6 N p0 = some r) : Spec Try.prog 118 [(z17_0 p0), z17_1] [Qrl] (B (r)) [Qrl] := by
  refine Qae Try.func118 rfl 1 (nle rfl) (fun X φ0 w0 hφ0 => ?_)
  unfold Qb6 at h
  refine Qbr ?_
  refine wx tbk [] trivial ?_
  obtain ⟨x3, hf2, h⟩ := bno h
  refine wx tbk [(2, ⟨[fu 130, (.tmp 5, (z17_0 p0)), (.tmp 6, z17_1)], [(0, Qrl)], I x3, [(0, Qrl)], false⟩)] ⟨Qao (first := []) (cap := []) (vs := [(z17_0 p0), z17_1]) (σr := [Qrl]) (σr' := [Qrl]) (res' := (I x3)) [0] rfl enter130 (Qel N p0 _ hf2) rfl (Qb7 (rnc (.plain _ (nld Qij _)) (rnc (Qap rn0 (rnc (Qa5 rfl) rn0)) rn0))) (slc (Qak (rnc (.plain _ (NLt.fn _ _ _ nl0 nl0)) rn0)) Qan) (slc (Qak (rnc (.plain _ (NLt.fn _ _ _ nl0 nl0)) rn0)) Qan) (.plain _ nll) rfl rfl rfl, trivial⟩ ?_
  refine wmr (mto (n := 9) (l' := [(4, (B ((decide (x3 ≥ 0)))))]) (own' := [Qrl]) [(4, (B ((decide (x3 ≥ 0)))))] [0] [Qrl] hφ0 (pc rwl pn) (qc (spb (lc (.rn (Qap rn0 rn0)) ln)) qn)) ?_
  refine Qac ?_
  obtain rfl := osi h
  exact ⟨_, Mor.rfl, Qb9 (vs := [(B ((decide (x3 ≥ 0))))]) ⟨rot (by kernel_rfl), trivial⟩ rfl (NLt.of0 nll) (by kernel_rfl) (Qah (Qax (nlc (NLt.of0 (NLt.fn _ _ _ nl0 nl0)) nl0)) Qbl)⟩
def Qew (N : Nat) (p0 : (List GStream)) : Option Bool :=
  (Qb6 N p0).bind fun x2 =>
  some (!x2)
def z16_1 (p0 : (List GStream)) : AV := .dat 4 ((p0 : List GStream).map Qd3)
def z16_2 : AV := .fn (.func 119) [] [(.ref 0 1 (0) 0)]
def z16_0 : Slot := .own 1 [[(.fn (.func 100) [] [])]]
set_option maxRecDepth 100000 in
set_option maxHeartbeats 4000000 in
theorem Qie (N : Nat) (p0 : (List GStream)) (r : Bool) (h : Qew N p0 = some r) : Spec Try.prog 99 [(z16_1 p0), (.fn (.func 100) [] [])] [] (B (r)) [] := by
  refine Qae Try.func99 rfl 0 (nle rfl) (fun X φ0 w0 hφ0 => ?_)
  unfold Qew at h
  refine wx tbk [] trivial ?_
  obtain ⟨x2, hf1, h⟩ := bno h
  refine wx tbk [(1, rp [(.tmp 3, .ref 0 1 0 0)] z16_2), (2, ⟨[fu 118, (.tmp 5, (z16_1 p0)), (.tmp 6, z16_2)], [(0, z16_0)], B x2, [(0, z16_0)], false⟩)] ⟨Qd7 (fs := []) (cs := [.ref 0 1 0 0]) rfl rfl rfl rfl, Qao (first := []) (cap := []) (vs := [(z16_1 p0), z16_2]) (σr := [z16_0]) (σr' := [z16_0]) (res' := (B x2)) [0] rfl enter118 (Qea N p0 _ hf1) rfl (Qb7 (rnc (.plain _ (nld Qij _)) (rnc (Qap rn0 (rnc (Qa5 rfl) rn0)) rn0))) (slc (Qak (rnc (.plain _ (NLt.fn _ _ _ nl0 nl0)) rn0)) Qan) (slc (Qak (rnc (.plain _ (NLt.fn _ _ _ nl0 nl0)) rn0)) Qan) (.plain _ nll) rfl rfl rfl, trivial⟩ ?_
  refine Qac ?_
  obtain rfl := osi h
  exact fend ⟨[(B ((!x2)))], ⟨rot (by kernel_rfl), trivial⟩, rfl⟩ nll
def Qko (N : Nat) (p0 : (List GStream)) : Option Bool :=
  (Qew N p0).bind fun x2 =>
  some x2
set_option maxRecDepth 100000 in
set_option maxHeartbeats 4000000 in
theorem Qoa (N : Nat) (p0 : (List GStream)) (r : Bool) (h : Qko N p0 = some r) : Spec Try.prog 74 [(.dat 4 (p0.map Qd3))] [] (B r) [] := by
  refine Qae Try.func74 rfl 0 (nle rfl) (fun X φ0 w0 hφ0 => ?_)
  unfold Qko at h
  refine wx tbk [] trivial ?_
  obtain ⟨x2, hf1, h⟩ := bno h
  refine wx tbk [(1, rp [fu 99, (.tmp 3, (.dat 4 ((p0 : List GStream).map Qd3))), fu 100] (B x2))] ⟨Qao (first := []) (cap := []) (vs := [(.dat 4 ((p0 : List GStream).map Qd3)), (.fn (.func 100) [] [])]) (σr := []) (σr' := []) (res' := (B x2)) [] rfl enter99 (Qie N p0 _ hf1) rfl (Qb7 (rnc (.plain _ (nld Qij _)) (rnc (.plain _ (NLt.fn _ _ _ nl0 nl0)) rn0))) Qan Qan (.plain _ nll) rfl rfl rfl, trivial⟩ ?_
  refine Qac ?_
  obtain rfl := osi h
  exact fend ⟨[B x2], ⟨rot (by kernel_rfl), trivial⟩, rfl⟩ nll
def Qmy (N : Nat) (p0 : GCycle) (p1 : GStream) : Option (GStream × Int × Int × Int) :=
  Qcn (fun _ =>
    (some (if (w64 (p1.Heat - (w64 (p0.Out * p1.Mass)))) > 0 then w64 (p1.Heat - (w64 (p0.Out * p1.Mass))) else 0)).bind fun x2 =>
    (some (if x2 < p0.Most then x2 else p0.Most)).bind fun x4 =>
    (some (w64 ((w64 (x4 * p0.Yield)).tdiv 1000))).bind fun x6 =>
    some ((⟨p1.Mass, w64 (p1.Heat - x4), p1.Silica, p1.Gas⟩ : GStream), x6, w64 (x4 - x6), 0)) fun k1 : Unit → Option (GStream × Int × Int × Int) =>
  (Qg7 N p0).bind fun x9 =>
  bif (!x9) then
   some ((⟨0, 0, 0, 0⟩ : GStream), 0, 0, 1)
  else
   (Qko N ([p1])).bind fun x12 =>
   bif (!x12) then
    some ((⟨0, 0, 0, 0⟩ : GStream), 0, 0, 1)
   else
    k1 ()
def z13_0 (p0 : GCycle) : Slot := .own 3 [[(I (p0.Out)), (I (p0.Yield)), (I (p0.Most))]]
def z13_2 (p1 : GStream) : Slot := .own 4 [[(I (p1.Mass)), (I (p1.Heat)), (I (p1.Silica)), (I (p1.Gas))]]
def z13_4 : Slot := .own 4 [[(I (0)), (I (0)), (I (0)), (I (0))]]
def z13_1 (p0 : GCycle) : AV := .agg [(I (p0.Out)), (I (p0.Yield)), (I (p0.Most))]
def z13_5 : AV := .agg [(I (0)), (I (0)), (I (0)), (I (0))]
def z13_3 (p1 : GStream) : AV := .agg [(I (p1.Mass)), (I (p1.Heat)), (I (p1.Silica)), (I (p1.Gas))]
def z13_6 (p1 : GStream) : AV := .dat 4 (([p1] : List GStream).map Qd3)
set_option maxRecDepth 100000 in
set_option maxHeartbeats 4000000 in
theorem Qqh (N : Nat) (p0 : GCycle) (p1 : GStream) (r : (GStream × Int × Int × Int)) (h : Qmy N p0 p1 = some r) : Spec Try.prog 29 [(.agg (Qvt p0)), (.agg (Qd3 p1))] [] (.tup [(.agg (Qd3 r.1)), (I r.2.1), (I r.2.2.1), (I r.2.2.2)]) [] := by
  refine Qae Try.func29 rfl 0 (nle rfl) (fun X φ0 w0 hφ0 => ?_)
  unfold Qmy at h
  refine wx tbk [] trivial ?_
  obtain ⟨k1, hk_k1, h⟩ := jko h
  refine wjn (τ := Unit) (fun t => k1 t = some r) (fun _ => ⟨mk 46 [(2, .ref 0 3 0 0), (3, .ref 1 4 0 0), (4, .ref 2 4 0 0)], [(z13_0 p0), (z13_2 p1), z13_4]⟩) (fun t h => ?_) ?_
  ·subst hk_k1
   obtain ⟨x2, hl3, h⟩ := bno h
   obtain ⟨x4, hl5, h⟩ := bno h
   refine wx tbk [(10, rp [ci 0, (.tmp 28, (I (w64 (p1.Heat - (w64 (p0.Out * p1.Mass))))))] (I x2)), (11, rp [(.tmp 20, I p0.Most), (.tmp 29, I x2)] (I ((if x2 < p0.Most then x2 else p0.Most)))), (12, rp [(.tmp 30, (I ((if x2 < p0.Most then x2 else p0.Most))))] (I x4))] ⟨Qe8 hl3 (Qmf rfl), Qme rfl, Qe8 hl5 (aas rfl), trivial⟩ ?_
   obtain ⟨x6, hl7, h⟩ := bno h
   refine wx tbk [(4, rp [(.tmp 34, (I (w64 (x4 * p0.Yield)))), ci 1000] (I (w64 ((w64 (x4 * p0.Yield)).tdiv 1000)))), (5, rp [(.tmp 35, (I (w64 ((w64 (x4 * p0.Yield)).tdiv 1000))))] (I x6))] ⟨astep_quo rfl (by decide), Qe8 hl7 (aas rfl), trivial⟩ ?_
   refine wx tbk [] trivial ?_
   refine wx tbk [] trivial ?_
   refine Qac ?_
   obtain rfl := osi h
   exact fend ⟨[(.agg [I p1.Mass, (I (w64 (p1.Heat - x4))), I p1.Silica, I p1.Gas]), I x6, (I (w64 (x4 - x6))), I 0], ⟨Qfk (n := 2) (m := 4) (j := 0) (i := 0) (xs := [[I p1.Mass, (I (w64 (p1.Heat - x4))), I p1.Silica, I p1.Gas]]) (by kernel_rfl) (by kernel_rfl) ti60 (by decide) rfl (nle rfl) rfl, rot (by kernel_rfl), rot (by kernel_rfl), rot (by kernel_rfl), trivial⟩, rfl⟩ (NLt.tup _ (nlc (NLt.agg _ (nlc nll (nlc nll (nlc nll (nlc nll nl0))))) (nlc nll (nlc nll (nlc nll nl0)))))
  ·skip
   obtain ⟨x9, hf8, h⟩ := bno h
   rcases bft ((!x9)) with hb10 | hb10
   ·replace h := Qau hb10 h
    refine wx tbk [(1, rp [fu 75, (.tmp 9, (z13_1 p0))] (B x9)), (3, rp [(.tmp 11, (B ((!x9))))] (B true))] ⟨apc (first := []) (cap := []) (vs := [(z13_1 p0)]) rfl enter75 (Qhy N p0 _ hf8) rfl rfl (nlc (NLt.agg _ (nlc nll (nlc nll (nlc nll nl0)))) nl0) nll rfl, asb hb10 (amv rfl), trivial⟩ ?_
    refine Qe3 (by kernel_rfl) ?_
    refine wx tbk [(0, rp [] z13_5)] ⟨Qbp (vs := []) rfl ts60 tz60 rfl (by rfl) rfl, trivial⟩ ?_
    refine Qac ?_
    refine Qar ?_
    obtain rfl := osi h
    exact fend ⟨[z13_5, I 0, I 0, I 1], ⟨Qfk (n := 2) (m := 4) (j := 0) (i := 0) (xs := [[I 0, I 0, I 0, I 0]]) (by kernel_rfl) (by kernel_rfl) ti60 (by decide) rfl (nle rfl) rfl, rot (by kernel_rfl), rot (by kernel_rfl), rot (by kernel_rfl), trivial⟩, rfl⟩ (NLt.tup _ (nlc (NLt.agg _ (nlc nll (nlc nll (nlc nll (nlc nll nl0))))) (nlc nll (nlc nll (nlc nll nl0)))))
   ·replace h := Qav hb10 h
    obtain ⟨x12, hf11, h⟩ := bno h
    refine wx tbk [(1, rp [fu 75, (.tmp 9, (z13_1 p0))] (B x9)), (3, rp [(.tmp 11, (B ((!x9))))] (B false)), (5, rp [(.tmp 12, B false), (.tmp 13, (z13_3 p1))] (z13_6 p1)), (6, rp [(.tmp 12, B false), fu 74, (.tmp 14, (z13_6 p1))] (B x12))] ⟨apc (first := []) (cap := []) (vs := [(z13_1 p0)]) rfl enter75 (Qhy N p0 _ hf8) rfl rfl (nlc (NLt.agg _ (nlc nll (nlc nll (nlc nll nl0)))) nl0) nll rfl, asb hb10 (amv rfl), ag_ (Qcq (vs := [(z13_3 p1)]) rfl Try.underlying143 ti60 tz60 rfl (by decide) rfl (by decide) (by rfl) (by rfl) (by rfl) rfl), ag_ (apc (first := []) (cap := []) (vs := [(z13_6 p1)]) rfl enter74 (Qoa N ([p1]) _ hf11) rfl rfl (nlc (nld Qij _) nl0) nll rfl), trivial⟩ ?_
    rcases bft ((!x12)) with hc13 | hc13
    ·replace h := Qau hc13 h
     refine wft hc13 (by kernel_rfl) ?_
     refine wx tbk [(0, rp [] z13_5)] ⟨Qbp (vs := []) rfl ts60 tz60 rfl (by rfl) rfl, trivial⟩ ?_
     refine Qac ?_
     refine Qar ?_
     obtain rfl := osi h
     exact fend ⟨[z13_5, I 0, I 0, I 1], ⟨Qfk (n := 2) (m := 4) (j := 0) (i := 0) (xs := [[I 0, I 0, I 0, I 0]]) (by kernel_rfl) (by kernel_rfl) ti60 (by decide) rfl (nle rfl) rfl, rot (by kernel_rfl), rot (by kernel_rfl), rot (by kernel_rfl), trivial⟩, rfl⟩ (NLt.tup _ (nlc (NLt.agg _ (nlc nll (nlc nll (nlc nll (nlc nll nl0))))) (nlc nll (nlc nll (nlc nll nl0)))))
    ·replace h := Qav hc13 h
     refine wfn hc13 (by kernel_rfl) ?_
     refine Qal ?_
     refine thn ?_
     exact ⟨(), h, (mto (n := 46) [(2, .ref 0 3 0 0), (3, .ref 1 4 0 0), (4, .ref 2 4 0 0)] [0, 1, 2] [(z13_0 p0), (z13_2 p1), z13_4] hφ0 (pc (.rn (rqr rfl)) (pc (.rn (rqr rfl)) (pc (.rn (rqr rfl)) pn))) (qc (spb (lc rwl (lc rwl (lc rwl ln)))) (qc (spb (lc rwl (lc rwl (lc rwl (lc rwl ln))))) (qc (spb (lc rwl (lc rwl (lc rwl (lc rwl ln))))) qn))))⟩
end Go.Proofs.Ytlhakkkjgdbdpaa
