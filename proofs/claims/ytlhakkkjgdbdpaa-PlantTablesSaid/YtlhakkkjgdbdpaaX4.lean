/-
  Functions of the program: what they compute, as plain functions, and that they do. No conditions.
-/
import Derived.Test.YtlhakkkjgdbdpaaX3
namespace Go.Proofs.Ytlhakkkjgdbdpaa
open Go.RowKit
def Qfr (_N : Nat) (p0 : Int) (p1 : Int) : Option Bool :=
  bif (decide (p0 > p1)) then
   some (decide (p0 ≤ 1000000))
  else
   some false
set_option maxRecDepth 100000 in
set_option maxHeartbeats 4000000 in
theorem Qkt (N : Nat) (p0 : Int) (p1 : Int) (r : Bool) (h : Qfr N p0 p1 = some r) : Spec Try.prog 96 [(I (p0)), (.ref 0 1 (0) 0)] [(.own 1 [[(I (p1))]])] (B (r)) [(.own 1 [[(I (p0))]])] := by
  refine Qae Try.func96 rfl 1 (nle rfl) (fun X φ0 w0 hφ0 => ?_)
  unfold Qfr at h
  refine Qbp ?_
  refine wx tbk [] trivial ?_
  rcases bft ((decide (p0 > p1))) with hb2 | hb2
  ·replace h := Qas hb2 h
   refine wx tbk [(3, rp [(.tmp 7, (B ((decide (p0 > p1)))))] (B true))] ⟨asb hb2 (amv rfl), trivial⟩ ?_
   refine wx tbk [] trivial ?_
   refine wx tbk [] trivial ?_
   refine wmr (mto (n := 14) (l' := [(3, (B ((decide (p0 ≤ 1000000)))))]) (own' := [(.own 1 [[I p0]])]) [(3, (B ((decide (p0 ≤ 1000000)))))] [0] [(.own 1 [[I p0]])] hφ0 (pc rwl pn) (qc (spb (lc rwl ln)) qn)) ?_
   refine Qad ?_
   obtain rfl := osi h
   exact ⟨_, Mor.rfl, Qb9 (vs := [(B ((decide (p0 ≤ 1000000))))]) ⟨rot (by kernel_rfl), trivial⟩ rfl (NLt.of0 nll) (by kernel_rfl) (Qak (Qaw (nlc (NLt.of0 nll) nl0)) Qbi)⟩
  ·replace h := Qat hb2 h
   refine wx tbk [(3, rp [(.tmp 7, (B ((decide (p0 > p1)))))] (B false))] ⟨asb hb2 (amv rfl), trivial⟩ ?_
   refine wx tbk [] trivial ?_
   refine wx tbk [] trivial ?_
   refine wmr (mto (n := 14) (l' := [(3, B false)]) (own' := [(.own 1 [[I p0]])]) [(3, B false)] [0] [(.own 1 [[I p0]])] hφ0 (pc rwl pn) (qc (spb (lc rwl ln)) qn)) ?_
   refine Qad ?_
   obtain rfl := osi h
   exact ⟨_, Mor.rfl, Qb9 (vs := [B false]) ⟨rot (by kernel_rfl), trivial⟩ rfl (NLt.of0 nll) (by kernel_rfl) (Qak (Qaw (nlc (NLt.of0 nll) nl0)) Qbi)⟩
def Qfa (N : Nat) (p0 : Int) (p1 : Int) : Option Bool :=
  (Qfr N p0 p1).bind fun x3 =>
  some (!x3)
def Qy8 : AV := .fn (.func 96) [] [(.ref 1 1 (0) 0)]
set_option maxRecDepth 100000 in
set_option maxHeartbeats 4000000 in
theorem Qlq (N : Nat) (p0 : Int) (p1 : Int) (r : Bool) (h : Qfa N p0 p1 = some r) : Spec Try.prog 110 [(I (p0)), (.ref 0 1 (0) 0)] [(.own 1 [[Qy8]]), (.own 1 [[(I (p1))]])] (B (r)) [(.own 1 [[Qy8]]), (.own 1 [[(I (p0))]])] := by
  refine Qae Try.func110 rfl 2 (nle rfl) (fun X φ0 w0 hφ0 => ?_)
  unfold Qfa at h
  refine Qbp ?_
  refine wx tbk [] trivial ?_
  obtain ⟨x3, hf2, h⟩ := bno h
  refine wx tbk [(2, ⟨[(.tmp 4, Qy8), (.tmp 5, I p0)], [(1, .own 1 [[I p1]])], B x3, [(1, .own 1 [[I p0]])], false⟩)] ⟨Qap (first := []) (cap := [.ref 1 1 0 0]) (vs := [I p0]) (σr := [(.own 1 [[I p1]])]) (σr' := [(.own 1 [[I p0]])]) (res' := (B x3)) [1] rfl enter96 (Qkt N p0 p1 _ hf2) rfl (Qb6 (rnc (.plain _ nll) (rnc (Qa7 rfl) rn0))) (slc (Qal (rnc (.plain _ nll) rn0)) Qao) (slc (Qal (rnc (.plain _ nll) rn0)) Qao) (.plain _ nll) rfl rfl rfl, trivial⟩ ?_
  refine wmr (mto (n := 8) (l' := [(3, (B ((!x3))))]) (own' := [(.own 1 [[Qy8]]), (.own 1 [[I p0]])]) [(3, (B ((!x3))))] [0, 1] [(.own 1 [[Qy8]]), (.own 1 [[I p0]])] hφ0 (pc rwl pn) (qc (spb (lc (.rn (Qar rn0 (rnc (rqr rfl) rn0))) ln)) (qc (spb (lc rwl ln)) qn))) ?_
  refine Qad ?_
  obtain rfl := osi h
  exact ⟨_, Mor.rfl, Qb9 (vs := [(B ((!x3)))]) ⟨rot (by kernel_rfl), trivial⟩ rfl (NLt.of0 nll) (by kernel_rfl) (Qak (Qaw (nlc (NLt.fn _ _ _ nl0 (nlc (NLt.ref _ _ _ _ (by decide)) nl0)) nl0)) (Qak (Qaw (nlc (NLt.of0 nll) nl0)) Qbi))⟩
def Qbo (N : Nat) (p0 : (List Int)) (k4 : Int → Option (Int × Int)) : Nat → Int → Int → Option (Int × Int)
  | 0, _, _ => none
  | n9 + 1, y5, y6 =>
    bif (decide (y5 < (p0.length : Int))) then
     (getI p0 y5).bind fun x11 =>
     (Qfa N x11 y6).bind fun x16 =>
     bif x16 then
      some (y5, x11)
     else
      Qbo N p0 k4 n9 (w64 (y5 + 1)) x11
    else
     k4 (y6)
def Qd6 (N : Nat) (p0 : (List Int)) (p1 : Int) : Option (Int × Int) :=
  Qb0 (fun y3 =>
    some ((-1), y3)) fun k4 : Int → Option (Int × Int) =>
  Qbo N p0 k4 N 0 p1
def Qup (p0 : (List Int)) : AV := .dat 1 ((p0 : List Int).map Qab)
def Qxx : AV := .fn (.func 110) [] [(.ref 0 1 (0) 0)]
def Qmg : AV := .fn (.func 96) [] [(.ref 1 1 (0) 0)]
set_option maxRecDepth 100000 in
set_option maxHeartbeats 4000000 in
theorem Qij (N : Nat) (p0 : (List Int)) (p1 : Int) (r : (Int × Int)) (h : Qd6 N p0 p1 = some r) : Spec Try.prog 71 [(Qup p0), Qxx] [(.own 1 [[Qmg]]), (.own 1 [[(I (p1))]])] (I (r.1)) [(.own 1 [[Qmg]]), (.own 1 [[(I (r.2))]])] := by
  refine Qae Try.func71 rfl 2 (nle rfl) (fun X φ0 w0 hφ0 => ?_)
  unfold Qd6 at h
  refine Qbp ?_
  refine wx tbk [] trivial ?_
  obtain ⟨k4, hk_k4, h⟩ := jko h
  refine wjn (τ := Int) (fun t => k4 t = some r) (fun y3 => ⟨mk 19 [], [(.own 1 [[Qmg]]), (.own 1 [[I y3]])]⟩) (fun y3 h => ?_) ?_
  ·subst hk_k4
   refine wx tbk [] trivial ?_
   refine wmr (mto (n := 19) (l' := [(4, (I ((-1))))]) (own' := [(.own 1 [[Qmg]]), (.own 1 [[I y3]])]) [(4, (I ((-1))))] [0, 1] [(.own 1 [[Qmg]]), (.own 1 [[I y3]])] hφ0 (pc rwl pn) (qc (spb (lc (.rn (Qar rn0 (rnc (rqr rfl) rn0))) ln)) (qc (spb (lc rwl ln)) qn))) ?_
   refine Qad ?_
   obtain rfl := osi h
   exact ⟨_, Mor.rfl, Qb9 (vs := [(I ((-1)))]) ⟨rot (by kernel_rfl), trivial⟩ rfl (NLt.of0 nll) (by kernel_rfl) (Qak (Qaw (nlc (NLt.fn _ _ _ nl0 (nlc (NLt.ref _ _ _ _ (by decide)) nl0)) nl0)) (Qak (Qaw (nlc (NLt.of0 nll) nl0)) Qbi))⟩
  ·skip
   refine wx tbk [(1, rp [(.tmp 6, (Qup p0))] (I ((p0.length : Int))))] ⟨alm (c := Qab) (l := p0) (aln rfl Try.underlying37 rfl), trivial⟩ ?_
   refine Qaf ?_
   refine wmr (mto (n := 19) (l' := [(0, (Qup p0)), (1, Qxx), (7, (I ((p0.length : Int)))), (8, I 0)]) (own' := [(.own 1 [[Qmg]]), (.own 1 [[I p1]])]) [(0, (Qup p0)), (1, Qxx), (7, (I ((p0.length : Int)))), (8, I 0)] [0, 1] [(.own 1 [[Qmg]]), (.own 1 [[I p1]])] hφ0 (pc (.rn (.plain _ (nld Qaa _))) (pc (.rn (Qar rn0 (rnc (rqr rfl) rn0))) (pc rwl (pc rwl pn)))) (qc (spb (lc (.rn (Qar rn0 (rnc (rqr rfl) rn0))) ln)) (qc (spb (lc rwl ln)) qn))) ?_
   refine Qbk (τ := Int × Int) (fun n t => Qbo N p0 k4 n t.1 t.2 = some r) (fun ⟨y5, y6⟩ => ⟨mk 19 [(0, (Qup p0)), (1, Qxx), (7, (I ((p0.length : Int)))), (8, I y5)], [(.own 1 [[Qmg]]), (.own 1 [[I y6]])]⟩) (fun t h => by rw [Qbo] at h; cases h) (fun n9 ih t h => ?_) N (0, p1) h
   obtain ⟨y5, y6⟩ := t
   rw [Qbo] at h
   skip
   refine wx tbk [] trivial ?_
   refine wsq ?_
   rcases bft ((decide (y5 < (p0.length : Int)))) with hc10 | hc10
   ·replace h := Qas hc10 h
    refine wft hc10 (by kernel_rfl) ?_
    refine Qai ?_
    refine thn ?_
    refine wsq ?_
    refine Qaf ?_
    refine wx tbk [] trivial ?_
    obtain ⟨x11, hg12, h⟩ := bno h
    obtain ⟨hi13, hj14⟩ := gsm hg12
    obtain ⟨x16, hf15, h⟩ := bno h
    refine wx tbk [(3, rp [(.tmp 12, (Qup p0)), (.tmp 13, I y5)] (.dptr (Qab (x11)) 0)), (5, ⟨[(.tmp 11, Qxx), (.tmp 15, I x11)], [(0, .own 1 [[Qmg]]), (1, .own 1 [[I y6]])], B x16, [(0, .own 1 [[Qmg]]), (1, .own 1 [[I x11]])], false⟩)] ⟨aid rfl Try.underlying37 ti3 rfl rfl hi13 (mgt Qab hj14) rfl, Qap (first := []) (cap := [.ref 0 1 0 0]) (vs := [I x11]) (σr := [(.own 1 [[Qmg]]), (.own 1 [[I y6]])]) (σr' := [(.own 1 [[Qmg]]), (.own 1 [[I x11]])]) (res' := (B x16)) [0, 1] rfl Qsh (Qlq N x11 y6 _ hf15) rfl (Qb6 (rnc (.plain _ nll) (rnc (Qa7 rfl) rn0))) (slc (Qal (rnc (Qar rn0 (rnc (Qa7 rfl) rn0)) rn0)) (slc (Qal (rnc (.plain _ nll) rn0)) Qao)) (slc (Qal (rnc (Qar rn0 (rnc (Qia rfl) rn0)) rn0)) (slc (Qal (rnc (.plain _ nll) rn0)) Qao)) (.plain _ nll) rfl rfl rfl, trivial⟩ ?_
    rcases bft (x16) with hc17 | hc17
    ·replace h := Qas hc17 h
     refine wft hc17 (by kernel_rfl) ?_
     refine wx tbk [] trivial ?_
     refine wmr (mto (n := 19) (l' := [(4, I y5)]) (own' := [(.own 1 [[Qmg]]), (.own 1 [[I x11]])]) [(4, I y5)] [0, 1] [(.own 1 [[Qmg]]), (.own 1 [[I x11]])] hφ0 (pc rwl pn) (qc (spb (lc (.rn (Qar rn0 (rnc (rqr rfl) rn0))) ln)) (qc (spb (lc rwl ln)) qn))) ?_
     refine Qad ?_
     refine Qay ?_
     refine Qam ?_
     refine Qam ?_
     refine Qay ?_
     refine Qam ?_
     obtain rfl := osi h
     exact ⟨_, Mor.rfl, Qb9 (vs := [I y5]) ⟨rot (by kernel_rfl), trivial⟩ rfl (NLt.of0 nll) (by kernel_rfl) (Qak (Qaw (nlc (NLt.fn _ _ _ nl0 (nlc (NLt.ref _ _ _ _ (by decide)) nl0)) nl0)) (Qak (Qaw (nlc (NLt.of0 nll) nl0)) Qbi))⟩
    ·replace h := Qat hc17 h
     refine wfn hc17 (by kernel_rfl) ?_
     refine Qai ?_
     refine bln ?_
     refine thn ?_
     refine wx1 tbk [] trivial ?_
     refine thn ?_
     exact arm (mto (n := 19) [(0, (Qup p0)), (1, Qxx), (7, (I ((p0.length : Int)))), (8, (I (w64 (y5 + 1))))] [0, 1] [(.own 1 [[Qmg]]), (.own 1 [[I x11]])] hφ0 (pc (.rn (.plain _ (nld Qaa _))) (pc (.rn (Qar rn0 (rnc (rqr rfl) rn0))) (pc rwl (pc rwl pn)))) (qc (spb (lc (.rn (Qar rn0 (rnc (rqr rfl) rn0))) ln)) (qc (spb (lc rwl ln)) qn))) (ih (w64 (y5 + 1), x11) h)
   ·replace h := Qat hc10 h
    refine wfn hc10 (by kernel_rfl) ?_
    refine Qa2 ?_
    refine Qaq ?_
    refine Qaq ?_
    refine Qa1 rfl ?_
    refine thn ?_
    exact ⟨(y6), h, (mto (n := 19) [] [0, 1] [(.own 1 [[Qmg]]), (.own 1 [[I y6]])] hφ0 pn (qc (spb (lc (.rn (Qar rn0 (rnc (rqr rfl) rn0))) ln)) (qc (spb (lc rwl ln)) qn)))⟩
def Qdg (N : Nat) (p0 : (List Int)) (p1 : Int) : Option (Bool × Int) :=
  (Qd6 N p0 p1).bind fun x4 =>
  some ((decide (x4.1 ≥ 0)), x4.2)
def z53_0 (p0 : (List Int)) : AV := .dat 1 ((p0 : List Int).map Qab)
def z53_1 : AV := .fn (.func 110) [] [(.ref 0 1 (0) 0)]
def Qsz : AV := .fn (.func 96) [] [(.ref 1 1 (0) 0)]
set_option maxRecDepth 100000 in
set_option maxHeartbeats 4000000 in
theorem Qhr (N : Nat) (p0 : (List Int)) (p1 : Int) (r : (Bool × Int)) (h : Qdg N p0 p1 = some r) : Spec Try.prog 109 [(z53_0 p0), z53_1] [(.own 1 [[Qsz]]), (.own 1 [[(I (p1))]])] (B (r.1)) [(.own 1 [[Qsz]]), (.own 1 [[(I (r.2))]])] := by
  refine Qae Try.func109 rfl 2 (nle rfl) (fun X φ0 w0 hφ0 => ?_)
  unfold Qdg at h
  refine Qbp ?_
  refine wx tbk [] trivial ?_
  obtain ⟨x4, hf3, h⟩ := bno h
  refine wx tbk [(2, ⟨[fu 71, (.tmp 5, (z53_0 p0)), (.tmp 6, z53_1)], [(0, .own 1 [[Qsz]]), (1, .own 1 [[I p1]])], I x4.1, [(0, .own 1 [[Qsz]]), (1, .own 1 [[I x4.2]])], false⟩)] ⟨Qap (first := []) (cap := []) (vs := [(z53_0 p0), z53_1]) (σr := [(.own 1 [[Qsz]]), (.own 1 [[I p1]])]) (σr' := [(.own 1 [[Qsz]]), (.own 1 [[I x4.2]])]) (res' := (I x4.1)) [0, 1] rfl Qsc (Qij N p0 p1 _ hf3) rfl (Qb6 (rnc (.plain _ (nld Qaa _)) (rnc (Qar rn0 (rnc (Qa7 rfl) rn0)) rn0))) (slc (Qal (rnc (Qar rn0 (rnc (Qa7 rfl) rn0)) rn0)) (slc (Qal (rnc (.plain _ nll) rn0)) Qao)) (slc (Qal (rnc (Qar rn0 (rnc (Qia rfl) rn0)) rn0)) (slc (Qal (rnc (.plain _ nll) rn0)) Qao)) (.plain _ nll) rfl rfl rfl, trivial⟩ ?_
  refine wmr (mto (n := 9) (l' := [(4, (B ((decide (x4.1 ≥ 0)))))]) (own' := [(.own 1 [[Qsz]]), (.own 1 [[I x4.2]])]) [(4, (B ((decide (x4.1 ≥ 0)))))] [0, 1] [(.own 1 [[Qsz]]), (.own 1 [[I x4.2]])] hφ0 (pc rwl pn) (qc (spb (lc (.rn (Qar rn0 (rnc (rqr rfl) rn0))) ln)) (qc (spb (lc rwl ln)) qn))) ?_
  refine Qad ?_
  obtain rfl := osi h
  exact ⟨_, Mor.rfl, Qb9 (vs := [(B ((decide (x4.1 ≥ 0))))]) ⟨rot (by kernel_rfl), trivial⟩ rfl (NLt.of0 nll) (by kernel_rfl) (Qak (Qaw (nlc (NLt.fn _ _ _ nl0 (nlc (NLt.ref _ _ _ _ (by decide)) nl0)) nl0)) (Qak (Qaw (nlc (NLt.of0 nll) nl0)) Qbi))⟩
def Qg6 (N : Nat) (p0 : (List Int)) (p1 : Int) : Option (Bool × Int) :=
  (Qdg N p0 p1).bind fun x4 =>
  some ((!x4.1), x4.2)
def z52_1 (p0 : (List Int)) : AV := .dat 1 ((p0 : List Int).map Qab)
def Qy9 : AV := .fn (.func 96) [] [(.ref 0 1 (0) 0)]
def z52_2 : AV := .fn (.func 110) [] [(.ref 1 1 (0) 0)]
set_option maxRecDepth 100000 in
set_option maxHeartbeats 4000000 in
theorem Qeb (N : Nat) (p0 : (List Int)) (p1 : Int) (r : (Bool × Int)) (h : Qg6 N p0 p1 = some r) : Spec Try.prog 89 [(z52_1 p0), Qy9] [(.own 1 [[(I (p1))]])] (B (r.1)) [(.own 1 [[(I (r.2))]])] := by
  refine Qae Try.func89 rfl 1 (nle rfl) (fun X φ0 w0 hφ0 => ?_)
  unfold Qg6 at h
  refine Qbp ?_
  refine wx tbk [] trivial ?_
  obtain ⟨x4, hf3, h⟩ := bno h
  refine wx tbk [(1, rp [(.tmp 3, .ref 1 1 0 0)] z52_2), (2, ⟨[fu 109, (.tmp 5, (z52_1 p0)), (.tmp 6, z52_2)], [(1, .own 1 [[Qy9]]), (0, .own 1 [[I p1]])], B x4.1, [(1, .own 1 [[Qy9]]), (0, .own 1 [[I x4.2]])], false⟩)] ⟨Qej (fs := []) (cs := [.ref 1 1 0 0]) rfl rfl rfl rfl, Qap (first := []) (cap := []) (vs := [(z52_1 p0), z52_2]) (σr := [(.own 1 [[Qy9]]), (.own 1 [[I p1]])]) (σr' := [(.own 1 [[Qy9]]), (.own 1 [[I x4.2]])]) (res' := (B x4.1)) [1, 0] rfl Qsi (Qhr N p0 p1 _ hf3) rfl (Qb6 (rnc (.plain _ (nld Qaa _)) (rnc (Qar rn0 (rnc (Qa7 rfl) rn0)) rn0))) (slc (Qal (rnc (Qar rn0 (rnc (Qa7 rfl) rn0)) rn0)) (slc (Qal (rnc (.plain _ nll) rn0)) Qao)) (slc (Qal (rnc (Qar rn0 (rnc (Qia rfl) rn0)) rn0)) (slc (Qal (rnc (.plain _ nll) rn0)) Qao)) (.plain _ nll) rfl rfl rfl, trivial⟩ ?_
  refine wmr (mto (n := 9) (l' := [(4, (B ((!x4.1))))]) (own' := [(.own 1 [[I x4.2]])]) [(4, (B ((!x4.1))))] [0] [(.own 1 [[I x4.2]])] hφ0 (pc rwl pn) (qc (spb (lc rwl ln)) qn)) ?_
  refine Qad ?_
  obtain rfl := osi h
  exact ⟨_, Mor.rfl, Qb9 (vs := [(B ((!x4.1)))]) ⟨rot (by kernel_rfl), trivial⟩ rfl (NLt.of0 nll) (by kernel_rfl) (Qak (Qaw (nlc (NLt.of0 nll) nl0)) Qbi)⟩
def Qgg (N : Nat) (p0 : GHour) : Option Bool :=
  (Qbh N p0.Price (-1000) 1000).bind fun x2 =>
  bif x2 then
   (Qbh N p0.Most 0 1000000).bind fun x5 =>
   some x5
  else
   some false
set_option maxRecDepth 100000 in
set_option maxHeartbeats 4000000 in
theorem Qlw (N : Nat) (p0 : GHour) (r : Bool) (h : Qgg N p0 = some r) : Spec Try.prog 98 [(.agg (Qax p0))] [] (B r) [] := by
  refine Qae Try.func98 rfl 0 (nle rfl) (fun X φ0 w0 hφ0 => ?_)
  unfold Qgg at h
  refine wx tbk [] trivial ?_
  obtain ⟨x2, hf1, h⟩ := bno h
  rcases bft (x2) with hb3 | hb3
  ·replace h := Qas hb3 h
   obtain ⟨x5, hf4, h⟩ := bno h
   refine wx tbk [(2, rp [fu 65, (.tmp 4, I p0.Price), ci (-1000), ci 1000] (B x2)), (3, rp [(.tmp 5, B x2)] (B true)), (6, rp [(.tmp 6, B true), fu 65, (.tmp 8, I p0.Most), ci 0, ci 1000000] (B x5))] ⟨apc (first := []) (cap := []) (vs := [I p0.Price, (I ((-1000))), I 1000]) rfl Qbu (Qah N p0.Price (-1000) 1000 _ hf1) rfl rfl (nlc nll (nlc nll (nlc nll nl0))) nll rfl, asb hb3 (amv rfl), ag_ (apc (first := []) (cap := []) (vs := [I p0.Most, I 0, I 1000000]) rfl Qbu (Qah N p0.Most 0 1000000 _ hf4) rfl rfl (nlc nll (nlc nll (nlc nll nl0))) nll rfl), trivial⟩ ?_
   refine Qad ?_
   obtain rfl := osi h
   exact fend ⟨[B x5], ⟨rot (by kernel_rfl), trivial⟩, rfl⟩ nll
  ·replace h := Qat hb3 h
   refine wx tbk [(2, rp [fu 65, (.tmp 4, I p0.Price), ci (-1000), ci 1000] (B x2)), (3, rp [(.tmp 5, B x2)] (B false))] ⟨apc (first := []) (cap := []) (vs := [I p0.Price, (I ((-1000))), I 1000]) rfl Qbu (Qah N p0.Price (-1000) 1000 _ hf1) rfl rfl (nlc nll (nlc nll (nlc nll nl0))) nll rfl, asb hb3 (amv rfl), trivial⟩ ?_
   refine Qad ?_
   obtain rfl := osi h
   exact fend ⟨[B false], ⟨rot (by kernel_rfl), trivial⟩, rfl⟩ nll
def Qdm (N : Nat) (p0 : GHour) : Option Bool :=
  (Qgg N p0).bind fun x3 =>
  some (!x3)
def z60_1 (p0 : GHour) : AV := .agg [(I (p0.Price)), (I (p0.Most))]
def z60_2 : Slot := .own 1 [[(.fn (.func 98) [] [])]]
set_option maxRecDepth 100000 in
set_option maxHeartbeats 4000000 in
theorem Qi7 (N : Nat) (p0 : GHour) (r : Bool) (h : Qdm N p0 = some r) : Spec Try.prog 117 [(z60_1 p0), (.ref 0 1 (0) 0)] [z60_2] (B (r)) [z60_2] := by
  refine Qae Try.func117 rfl 1 (nle rfl) (fun X φ0 w0 hφ0 => ?_)
  unfold Qdm at h
  refine Qbp ?_
  refine wx tbk [] trivial ?_
  obtain ⟨x3, hf2, h⟩ := bno h
  refine wx tbk [(2, rp [(.tmp 4, (.fn (.func 98) [] [])), (.tmp 5, (z60_1 p0))] (B x3))] ⟨apc (first := []) (cap := []) (vs := [(z60_1 p0)]) rfl enter98 (Qlw N p0 _ hf2) rfl rfl (nlc (NLt.agg _ (nlc nll (nlc nll nl0))) nl0) nll rfl, trivial⟩ ?_
  refine wmr (mto (n := 8) (l' := [(3, (B ((!x3))))]) (own' := [z60_2]) [(3, (B ((!x3))))] [0] [z60_2] hφ0 (pc rwl pn) (qc (spb (lc (.rn (Qar rn0 rn0)) ln)) qn)) ?_
  refine Qad ?_
  obtain rfl := osi h
  exact ⟨_, Mor.rfl, Qb9 (vs := [(B ((!x3)))]) ⟨rot (by kernel_rfl), trivial⟩ rfl (NLt.of0 nll) (by kernel_rfl) (Qak (Qaw (nlc (NLt.of0 (NLt.fn _ _ _ nl0 nl0)) nl0)) Qbi)⟩
def Qaz (N : Nat) (p0 : (List GHour)) (k2 : Unit → Option Int) : Nat → Int → Option Int
  | 0, _ => none
  | n5 + 1, y3 =>
    bif (decide (y3 < (p0.length : Int))) then
     (getI p0 y3).bind fun x7 =>
     (Qdm N x7).bind fun x12 =>
     bif x12 then
      some y3
     else
      Qaz N p0 k2 n5 (w64 (y3 + 1))
    else
     k2 ()
def Qb7 (N : Nat) (p0 : (List GHour)) : Option Int :=
  Qb0 (fun _ =>
    some (-1)) fun k2 : Unit → Option Int =>
  Qaz N p0 k2 N 0
def Quo (p0 : (List GHour)) : AV := .dat 2 ((p0 : List GHour).map Qax)
def Qxw : AV := .fn (.func 117) [] [(.ref 0 1 (0) 0)]
def Qmf : Slot := .own 1 [[(.fn (.func 98) [] [])]]
set_option maxRecDepth 100000 in
set_option maxHeartbeats 4000000 in
theorem Qfy (N : Nat) (p0 : (List GHour)) (r : Int) (h : Qb7 N p0 = some r) : Spec Try.prog 129 [(Quo p0), Qxw] [Qmf] (I (r)) [Qmf] := by
  refine Qae Try.func129 rfl 1 (nle rfl) (fun X φ0 w0 hφ0 => ?_)
  unfold Qb7 at h
  refine Qbp ?_
  refine wx tbk [] trivial ?_
  obtain ⟨k2, hk_k2, h⟩ := jko h
  refine wjn (τ := Unit) (fun t => k2 t = some r) (fun _ => ⟨mk 19 [], [Qmf]⟩) (fun t h => ?_) ?_
  ·subst hk_k2
   refine wx tbk [] trivial ?_
   refine wmr (mto (n := 19) (l' := [(4, (I ((-1))))]) (own' := [Qmf]) [(4, (I ((-1))))] [0] [Qmf] hφ0 (pc rwl pn) (qc (spb (lc (.rn (Qar rn0 rn0)) ln)) qn)) ?_
   refine Qad ?_
   obtain rfl := osi h
   exact ⟨_, Mor.rfl, Qb9 (vs := [(I ((-1)))]) ⟨rot (by kernel_rfl), trivial⟩ rfl (NLt.of0 nll) (by kernel_rfl) (Qak (Qaw (nlc (NLt.of0 (NLt.fn _ _ _ nl0 nl0)) nl0)) Qbi)⟩
  ·skip
   refine wx tbk [(1, rp [(.tmp 6, (Quo p0))] (I ((p0.length : Int))))] ⟨alm (c := Qax) (l := p0) (aln rfl Try.underlying45 rfl), trivial⟩ ?_
   refine Qaf ?_
   refine wmr (mto (n := 19) (l' := [(0, (Quo p0)), (1, Qxw), (7, (I ((p0.length : Int)))), (8, I 0)]) (own' := [Qmf]) [(0, (Quo p0)), (1, Qxw), (7, (I ((p0.length : Int)))), (8, I 0)] [0] [Qmf] hφ0 (pc (.rn (.plain _ (nld Qac _))) (pc (.rn (Qar rn0 (rnc (rqr rfl) rn0))) (pc rwl (pc rwl pn)))) (qc (spb (lc (.rn (Qar rn0 rn0)) ln)) qn)) ?_
   refine Qbk (τ := Int) (fun n t => Qaz N p0 k2 n t = some r) (fun y3 => ⟨mk 19 [(0, (Quo p0)), (1, Qxw), (7, (I ((p0.length : Int)))), (8, I y3)], [Qmf]⟩) (fun t h => by rw [Qaz] at h; cases h) (fun n5 ih y3 h => ?_) N (0) h
   rw [Qaz] at h
   skip
   refine wx tbk [] trivial ?_
   refine wsq ?_
   rcases bft ((decide (y3 < (p0.length : Int)))) with hc6 | hc6
   ·replace h := Qas hc6 h
    refine wft hc6 (by kernel_rfl) ?_
    refine Qai ?_
    refine thn ?_
    refine wsq ?_
    refine Qaf ?_
    refine wx tbk [] trivial ?_
    obtain ⟨x7, hg8, h⟩ := bno h
    obtain ⟨hi9, hj10⟩ := gsm hg8
    obtain ⟨x12, hf11, h⟩ := bno h
    refine wx tbk [(3, rp [(.tmp 12, (Quo p0)), (.tmp 13, I y3)] (.dptr (Qax (x7)) 0)), (5, ⟨[(.tmp 11, Qxw), (.tmp 15, (.agg [I x7.Price, I x7.Most]))], [(0, Qmf)], B x12, [(0, Qmf)], false⟩)] ⟨aid rfl Try.underlying45 ti50 rfl rfl hi9 (mgt Qax hj10) rfl, Qap (first := []) (cap := [.ref 0 1 0 0]) (vs := [(.agg [I x7.Price, I x7.Most])]) (σr := [Qmf]) (σr' := [Qmf]) (res' := (B x12)) [0] rfl enter117 (Qi7 N x7 _ hf11) rfl (Qb6 (rnc (.plain _ (NLt.agg _ (nlc nll (nlc nll nl0)))) (rnc (Qa7 rfl) rn0))) (slc (Qal (rnc (.plain _ (NLt.fn _ _ _ nl0 nl0)) rn0)) Qao) (slc (Qal (rnc (.plain _ (NLt.fn _ _ _ nl0 nl0)) rn0)) Qao) (.plain _ nll) rfl rfl rfl, trivial⟩ ?_
    rcases bft (x12) with hc13 | hc13
    ·replace h := Qas hc13 h
     refine wft hc13 (by kernel_rfl) ?_
     refine wx tbk [] trivial ?_
     refine wmr (mto (n := 19) (l' := [(4, I y3)]) (own' := [Qmf]) [(4, I y3)] [0] [Qmf] hφ0 (pc rwl pn) (qc (spb (lc (.rn (Qar rn0 rn0)) ln)) qn)) ?_
     refine Qad ?_
     refine Qay ?_
     refine Qam ?_
     refine Qam ?_
     refine Qay ?_
     refine Qam ?_
     obtain rfl := osi h
     exact ⟨_, Mor.rfl, Qb9 (vs := [I y3]) ⟨rot (by kernel_rfl), trivial⟩ rfl (NLt.of0 nll) (by kernel_rfl) (Qak (Qaw (nlc (NLt.of0 (NLt.fn _ _ _ nl0 nl0)) nl0)) Qbi)⟩
    ·replace h := Qat hc13 h
     refine wfn hc13 (by kernel_rfl) ?_
     refine Qai ?_
     refine bln ?_
     refine thn ?_
     refine wx1 tbk [] trivial ?_
     refine thn ?_
     exact arm (mto (n := 19) [(0, (Quo p0)), (1, Qxw), (7, (I ((p0.length : Int)))), (8, (I (w64 (y3 + 1))))] [0] [Qmf] hφ0 (pc (.rn (.plain _ (nld Qac _))) (pc (.rn (Qar rn0 (rnc (rqr rfl) rn0))) (pc rwl (pc rwl pn)))) (qc (spb (lc (.rn (Qar rn0 rn0)) ln)) qn)) (ih (w64 (y3 + 1)) h)
   ·replace h := Qat hc6 h
    refine wfn hc6 (by kernel_rfl) ?_
    refine Qa2 ?_
    refine Qaq ?_
    refine Qaq ?_
    refine Qa1 rfl ?_
    refine thn ?_
    exact ⟨(), h, (mto (n := 19) [] [0] [Qmf] hφ0 pn (qc (spb (lc (.rn (Qar rn0 rn0)) ln)) qn))⟩
def Qb1 (N : Nat) (p0 : (List GHour)) : Option Bool :=
  (Qb7 N p0).bind fun x3 =>
  some (decide (x3 ≥ 0))
def z58_0 (p0 : (List GHour)) : AV := .dat 2 ((p0 : List GHour).map Qax)
def z58_1 : AV := .fn (.func 117) [] [(.ref 0 1 (0) 0)]
def Qsy : Slot := .own 1 [[(.fn (.func 98) [] [])]]
set_option maxRecDepth 100000 in
set_option maxHeartbeats 4000000 in
theorem Qfi (N : Nat) (p0 : (List GHour)) (r : Bool) (h : Qb1 N p0 = some r) : Spec Try.prog 116 [(z58_0 p0), z58_1] [Qsy] (B (r)) [Qsy] := by
  refine Qae Try.func116 rfl 1 (nle rfl) (fun X φ0 w0 hφ0 => ?_)
  unfold Qb1 at h
  refine Qbp ?_
  refine wx tbk [] trivial ?_
  obtain ⟨x3, hf2, h⟩ := bno h
  refine wx tbk [(2, ⟨[fu 129, (.tmp 5, (z58_0 p0)), (.tmp 6, z58_1)], [(0, Qsy)], I x3, [(0, Qsy)], false⟩)] ⟨Qap (first := []) (cap := []) (vs := [(z58_0 p0), z58_1]) (σr := [Qsy]) (σr' := [Qsy]) (res' := (I x3)) [0] rfl enter129 (Qfy N p0 _ hf2) rfl (Qb6 (rnc (.plain _ (nld Qac _)) (rnc (Qar rn0 (rnc (Qa7 rfl) rn0)) rn0))) (slc (Qal (rnc (.plain _ (NLt.fn _ _ _ nl0 nl0)) rn0)) Qao) (slc (Qal (rnc (.plain _ (NLt.fn _ _ _ nl0 nl0)) rn0)) Qao) (.plain _ nll) rfl rfl rfl, trivial⟩ ?_
  refine wmr (mto (n := 9) (l' := [(4, (B ((decide (x3 ≥ 0)))))]) (own' := [Qsy]) [(4, (B ((decide (x3 ≥ 0)))))] [0] [Qsy] hφ0 (pc rwl pn) (qc (spb (lc (.rn (Qar rn0 rn0)) ln)) qn)) ?_
  refine Qad ?_
  obtain rfl := osi h
  exact ⟨_, Mor.rfl, Qb9 (vs := [(B ((decide (x3 ≥ 0))))]) ⟨rot (by kernel_rfl), trivial⟩ rfl (NLt.of0 nll) (by kernel_rfl) (Qak (Qaw (nlc (NLt.of0 (NLt.fn _ _ _ nl0 nl0)) nl0)) Qbi)⟩
def Qer (N : Nat) (p0 : (List GHour)) : Option Bool :=
  (Qb1 N p0).bind fun x2 =>
  some (!x2)
def z57_1 (p0 : (List GHour)) : AV := .dat 2 ((p0 : List GHour).map Qax)
def z57_2 : AV := .fn (.func 117) [] [(.ref 0 1 (0) 0)]
def z57_0 : Slot := .own 1 [[(.fn (.func 98) [] [])]]
set_option maxRecDepth 100000 in
set_option maxHeartbeats 4000000 in
theorem Qjv (N : Nat) (p0 : (List GHour)) (r : Bool) (h : Qer N p0 = some r) : Spec Try.prog 97 [(z57_1 p0), (.fn (.func 98) [] [])] [] (B (r)) [] := by
  refine Qae Try.func97 rfl 0 (nle rfl) (fun X φ0 w0 hφ0 => ?_)
  unfold Qer at h
  refine wx tbk [] trivial ?_
  obtain ⟨x2, hf1, h⟩ := bno h
  refine wx tbk [(1, rp [(.tmp 3, .ref 0 1 0 0)] z57_2), (2, ⟨[fu 116, (.tmp 5, (z57_1 p0)), (.tmp 6, z57_2)], [(0, z57_0)], B x2, [(0, z57_0)], false⟩)] ⟨Qej (fs := []) (cs := [.ref 0 1 0 0]) rfl rfl rfl rfl, Qap (first := []) (cap := []) (vs := [(z57_1 p0), z57_2]) (σr := [z57_0]) (σr' := [z57_0]) (res' := (B x2)) [0] rfl enter116 (Qfi N p0 _ hf1) rfl (Qb6 (rnc (.plain _ (nld Qac _)) (rnc (Qar rn0 (rnc (Qa7 rfl) rn0)) rn0))) (slc (Qal (rnc (.plain _ (NLt.fn _ _ _ nl0 nl0)) rn0)) Qao) (slc (Qal (rnc (.plain _ (NLt.fn _ _ _ nl0 nl0)) rn0)) Qao) (.plain _ nll) rfl rfl rfl, trivial⟩ ?_
  refine Qad ?_
  obtain rfl := osi h
  exact fend ⟨[(B ((!x2)))], ⟨rot (by kernel_rfl), trivial⟩, rfl⟩ nll
def Qe5 (N : Nat) (p0 : GJob) : Option Bool :=
  (Qbh N (p0.Levels.length : Int) 2 12).bind fun x2 =>
  bif x2 then
   (getI p0.Levels 0).bind fun x4 =>
   bif (x4 == 0) then
    (Qg6 N p0.Levels (-1)).bind fun x10 =>
    bif x10.1 then
     (Qbh N p0.Ramp 1 12).bind fun x13 =>
     bif x13 then
      (Qbh N p0.Start 0 1000000000).bind fun x16 =>
      bif x16 then
       (Qbh N p0.First 0 (w64 ((p0.Levels.length : Int) - 1))).bind fun x19 =>
       bif x19 then
        (Qbh N (p0.Hours.length : Int) 1 100).bind fun x22 =>
        bif x22 then
         (Qer N p0.Hours).bind fun x25 =>
         some x25
        else
         some false
       else
        some false
      else
       some false
     else
      some false
    else
     some false
   else
    some false
  else
   some false
def Qnt : AV := .fn (.func 96) [] [(.ref 1 1 (0) 0)]
def Qhl (p0 : GJob) : AV := .dat 1 ((p0.Levels : List Int).map Qab)
def z51_1 (p0 : GJob) : AV := .dat 2 ((p0.Hours : List GHour).map Qax)
set_option maxRecDepth 100000 in
set_option maxHeartbeats 4000000 in
theorem Qhe (N : Nat) (p0 : GJob) (r : Bool) (h : Qe5 N p0 = some r) : Spec Try.prog 68 [(.agg (Qhk p0))] [] (B r) [] := by
  refine Qae Try.func68 rfl 0 (nle rfl) (fun X φ0 w0 hφ0 => ?_)
  unfold Qe5 at h
  refine wx tbk [] trivial ?_
  refine wx tbk [] trivial ?_
  refine wx tbk [(0, rp [(.tmp 3, .ref 1 1 0 0)] Qnt)] ⟨Qej (fs := []) (cs := [.ref 1 1 0 0]) rfl rfl rfl rfl, trivial⟩ ?_
  obtain ⟨x2, hf1, h⟩ := bno h
  rcases bft (x2) with hb3 | hb3
  ·replace h := Qas hb3 h
   obtain ⟨x4, hg5, h⟩ := bno h
   obtain ⟨hi6, hj7⟩ := gsm hg5
   rcases bft ((x4 == 0)) with hb8 | hb8
   ·replace h := Qas hb8 h
    obtain ⟨x10, hf9, h⟩ := bno h
    rcases bft (x10.1) with hb11 | hb11
    ·replace h := Qas hb11 h
     obtain ⟨x13, hf12, h⟩ := bno h
     rcases bft (x13) with hb14 | hb14
     ·replace h := Qas hb14 h
      obtain ⟨x16, hf15, h⟩ := bno h
      rcases bft (x16) with hb17 | hb17
      ·replace h := Qas hb17 h
       obtain ⟨x19, hf18, h⟩ := bno h
       rcases bft (x19) with hb20 | hb20
       ·replace h := Qas hb20 h
        obtain ⟨x22, hf21, h⟩ := bno h
        rcases bft (x22) with hb23 | hb23
        ·replace h := Qas hb23 h
         obtain ⟨x25, hf24, h⟩ := bno h
         refine wx tbk [(2, rp [(.tmp 7, (Qhl p0))] (I ((p0.Levels.length : Int)))), (3, rp [fu 65, (.tmp 8, (I ((p0.Levels.length : Int)))), ci 2, ci 12] (B x2)), (4, rp [(.tmp 9, B x2)] (B true)), (7, rp [(.tmp 10, B true), (.tmp 12, (Qhl p0)), ci 0] (.dptr (Qab (x4)) 0)), (11, rp [(.tmp 16, (B ((x4 == 0))))] (B true)), (15, ⟨[(.tmp 17, B true), fu 89, (.tmp 19, (Qhl p0)), (.tmp 20, Qnt)], [(1, (.own 1 [[(I ((-1)))]]))], B x10.1, [(1, .own 1 [[I x10.2]])], false⟩), (17, rp [(.tmp 22, B x10.1)] (B true)), (20, rp [(.tmp 23, B true), fu 65, (.tmp 25, I p0.Ramp), ci 1, ci 12] (B x13)), (22, rp [(.tmp 27, B x13)] (B true)), (25, rp [(.tmp 28, B true), fu 65, (.tmp 30, I p0.Start), ci 0, ci 1000000000] (B x16)), (27, rp [(.tmp 32, B x16)] (B true)), (32, rp [(.tmp 33, B true), (.tmp 37, (Qhl p0))] (I ((p0.Levels.length : Int)))), (34, rp [(.tmp 33, B true), fu 65, (.tmp 35, I p0.First), ci 0, (.tmp 39, (I (w64 ((p0.Levels.length : Int) - 1))))] (B x19)), (36, rp [(.tmp 41, B x19)] (B true)), (39, rp [(.tmp 42, B true), (.tmp 44, (z51_1 p0))] (I ((p0.Hours.length : Int)))), (40, rp [(.tmp 42, B true), fu 65, (.tmp 45, (I ((p0.Hours.length : Int)))), ci 1, ci 100] (B x22)), (42, rp [(.tmp 47, B x22)] (B true)), (45, rp [(.tmp 48, B true), fu 97, (.tmp 50, (z51_1 p0)), fu 98] (B x25))] ⟨alm (c := Qab) (l := p0.Levels) (aln rfl Try.underlying37 rfl), apc (first := []) (cap := []) (vs := [(I ((p0.Levels.length : Int))), I 2, I 12]) rfl Qbu (Qah N (p0.Levels.length : Int) 2 12 _ hf1) rfl rfl (nlc nll (nlc nll (nlc nll nl0))) nll rfl, asb hb3 (amv rfl), ag_ (aid rfl Try.underlying37 ti3 rfl rfl hi6 (mgt Qab hj7) rfl), asb hb8 (amv rfl), ag_ (Qap (first := []) (cap := []) (vs := [(Qhl p0), Qnt]) (σr := [(.own 1 [[(I ((-1)))]])]) (σr' := [(.own 1 [[I x10.2]])]) (res' := (B x10.1)) [1] rfl Qj6 (Qeb N p0.Levels (-1) _ hf9) rfl (Qb6 (rnc (.plain _ (nld Qaa _)) (rnc (Qar rn0 (rnc (Qa7 rfl) rn0)) rn0))) (slc (Qal (rnc (.plain _ nll) rn0)) Qao) (slc (Qal (rnc (.plain _ nll) rn0)) Qao) (.plain _ nll) rfl rfl rfl), asb hb11 (amv rfl), ag_ (apc (first := []) (cap := []) (vs := [I p0.Ramp, I 1, I 12]) rfl Qbu (Qah N p0.Ramp 1 12 _ hf12) rfl rfl (nlc nll (nlc nll (nlc nll nl0))) nll rfl), asb hb14 (amv rfl), ag_ (apc (first := []) (cap := []) (vs := [I p0.Start, I 0, I 1000000000]) rfl Qbu (Qah N p0.Start 0 1000000000 _ hf15) rfl rfl (nlc nll (nlc nll (nlc nll nl0))) nll rfl), asb hb17 (amv rfl), ag_ (alm (c := Qab) (l := p0.Levels) (aln rfl Try.underlying37 rfl)), ag_ (apc (first := []) (cap := []) (vs := [I p0.First, I 0, (I (w64 ((p0.Levels.length : Int) - 1)))]) rfl Qbu (Qah N p0.First 0 (w64 ((p0.Levels.length : Int) - 1)) _ hf18) rfl rfl (nlc nll (nlc nll (nlc nll nl0))) nll rfl), asb hb20 (amv rfl), ag_ (alm (c := Qax) (l := p0.Hours) (aln rfl Try.underlying45 rfl)), ag_ (apc (first := []) (cap := []) (vs := [(I ((p0.Hours.length : Int))), I 1, I 100]) rfl Qbu (Qah N (p0.Hours.length : Int) 1 100 _ hf21) rfl rfl (nlc nll (nlc nll (nlc nll nl0))) nll rfl), asb hb23 (amv rfl), ag_ (Qap (first := []) (cap := []) (vs := [(z51_1 p0), (.fn (.func 98) [] [])]) (σr := []) (σr' := []) (res' := (B x25)) [] rfl enter97 (Qjv N p0.Hours _ hf24) rfl (Qb6 (rnc (.plain _ (nld Qac _)) (rnc (.plain _ (NLt.fn _ _ _ nl0 nl0)) rn0))) Qao Qao (.plain _ nll) rfl rfl rfl), trivial⟩ ?_
         refine Qad ?_
         obtain rfl := osi h
         exact fend ⟨[B x25], ⟨rot (by kernel_rfl), trivial⟩, rfl⟩ nll
        ·replace h := Qat hb23 h
         refine wx tbk [(2, rp [(.tmp 7, (Qhl p0))] (I ((p0.Levels.length : Int)))), (3, rp [fu 65, (.tmp 8, (I ((p0.Levels.length : Int)))), ci 2, ci 12] (B x2)), (4, rp [(.tmp 9, B x2)] (B true)), (7, rp [(.tmp 10, B true), (.tmp 12, (Qhl p0)), ci 0] (.dptr (Qab (x4)) 0)), (11, rp [(.tmp 16, (B ((x4 == 0))))] (B true)), (15, ⟨[(.tmp 17, B true), fu 89, (.tmp 19, (Qhl p0)), (.tmp 20, Qnt)], [(1, (.own 1 [[(I ((-1)))]]))], B x10.1, [(1, .own 1 [[I x10.2]])], false⟩), (17, rp [(.tmp 22, B x10.1)] (B true)), (20, rp [(.tmp 23, B true), fu 65, (.tmp 25, I p0.Ramp), ci 1, ci 12] (B x13)), (22, rp [(.tmp 27, B x13)] (B true)), (25, rp [(.tmp 28, B true), fu 65, (.tmp 30, I p0.Start), ci 0, ci 1000000000] (B x16)), (27, rp [(.tmp 32, B x16)] (B true)), (32, rp [(.tmp 33, B true), (.tmp 37, (Qhl p0))] (I ((p0.Levels.length : Int)))), (34, rp [(.tmp 33, B true), fu 65, (.tmp 35, I p0.First), ci 0, (.tmp 39, (I (w64 ((p0.Levels.length : Int) - 1))))] (B x19)), (36, rp [(.tmp 41, B x19)] (B true)), (39, rp [(.tmp 42, B true), (.tmp 44, (z51_1 p0))] (I ((p0.Hours.length : Int)))), (40, rp [(.tmp 42, B true), fu 65, (.tmp 45, (I ((p0.Hours.length : Int)))), ci 1, ci 100] (B x22)), (42, rp [(.tmp 47, B x22)] (B false))] ⟨alm (c := Qab) (l := p0.Levels) (aln rfl Try.underlying37 rfl), apc (first := []) (cap := []) (vs := [(I ((p0.Levels.length : Int))), I 2, I 12]) rfl Qbu (Qah N (p0.Levels.length : Int) 2 12 _ hf1) rfl rfl (nlc nll (nlc nll (nlc nll nl0))) nll rfl, asb hb3 (amv rfl), ag_ (aid rfl Try.underlying37 ti3 rfl rfl hi6 (mgt Qab hj7) rfl), asb hb8 (amv rfl), ag_ (Qap (first := []) (cap := []) (vs := [(Qhl p0), Qnt]) (σr := [(.own 1 [[(I ((-1)))]])]) (σr' := [(.own 1 [[I x10.2]])]) (res' := (B x10.1)) [1] rfl Qj6 (Qeb N p0.Levels (-1) _ hf9) rfl (Qb6 (rnc (.plain _ (nld Qaa _)) (rnc (Qar rn0 (rnc (Qa7 rfl) rn0)) rn0))) (slc (Qal (rnc (.plain _ nll) rn0)) Qao) (slc (Qal (rnc (.plain _ nll) rn0)) Qao) (.plain _ nll) rfl rfl rfl), asb hb11 (amv rfl), ag_ (apc (first := []) (cap := []) (vs := [I p0.Ramp, I 1, I 12]) rfl Qbu (Qah N p0.Ramp 1 12 _ hf12) rfl rfl (nlc nll (nlc nll (nlc nll nl0))) nll rfl), asb hb14 (amv rfl), ag_ (apc (first := []) (cap := []) (vs := [I p0.Start, I 0, I 1000000000]) rfl Qbu (Qah N p0.Start 0 1000000000 _ hf15) rfl rfl (nlc nll (nlc nll (nlc nll nl0))) nll rfl), asb hb17 (amv rfl), ag_ (alm (c := Qab) (l := p0.Levels) (aln rfl Try.underlying37 rfl)), ag_ (apc (first := []) (cap := []) (vs := [I p0.First, I 0, (I (w64 ((p0.Levels.length : Int) - 1)))]) rfl Qbu (Qah N p0.First 0 (w64 ((p0.Levels.length : Int) - 1)) _ hf18) rfl rfl (nlc nll (nlc nll (nlc nll nl0))) nll rfl), asb hb20 (amv rfl), ag_ (alm (c := Qax) (l := p0.Hours) (aln rfl Try.underlying45 rfl)), ag_ (apc (first := []) (cap := []) (vs := [(I ((p0.Hours.length : Int))), I 1, I 100]) rfl Qbu (Qah N (p0.Hours.length : Int) 1 100 _ hf21) rfl rfl (nlc nll (nlc nll (nlc nll nl0))) nll rfl), asb hb23 (amv rfl), trivial⟩ ?_
         refine Qad ?_
         obtain rfl := osi h
         exact fend ⟨[B false], ⟨rot (by kernel_rfl), trivial⟩, rfl⟩ nll
       ·replace h := Qat hb20 h
        refine wx tbk [(2, rp [(.tmp 7, (Qhl p0))] (I ((p0.Levels.length : Int)))), (3, rp [fu 65, (.tmp 8, (I ((p0.Levels.length : Int)))), ci 2, ci 12] (B x2)), (4, rp [(.tmp 9, B x2)] (B true)), (7, rp [(.tmp 10, B true), (.tmp 12, (Qhl p0)), ci 0] (.dptr (Qab (x4)) 0)), (11, rp [(.tmp 16, (B ((x4 == 0))))] (B true)), (15, ⟨[(.tmp 17, B true), fu 89, (.tmp 19, (Qhl p0)), (.tmp 20, Qnt)], [(1, (.own 1 [[(I ((-1)))]]))], B x10.1, [(1, .own 1 [[I x10.2]])], false⟩), (17, rp [(.tmp 22, B x10.1)] (B true)), (20, rp [(.tmp 23, B true), fu 65, (.tmp 25, I p0.Ramp), ci 1, ci 12] (B x13)), (22, rp [(.tmp 27, B x13)] (B true)), (25, rp [(.tmp 28, B true), fu 65, (.tmp 30, I p0.Start), ci 0, ci 1000000000] (B x16)), (27, rp [(.tmp 32, B x16)] (B true)), (32, rp [(.tmp 33, B true), (.tmp 37, (Qhl p0))] (I ((p0.Levels.length : Int)))), (34, rp [(.tmp 33, B true), fu 65, (.tmp 35, I p0.First), ci 0, (.tmp 39, (I (w64 ((p0.Levels.length : Int) - 1))))] (B x19)), (36, rp [(.tmp 41, B x19)] (B false))] ⟨alm (c := Qab) (l := p0.Levels) (aln rfl Try.underlying37 rfl), apc (first := []) (cap := []) (vs := [(I ((p0.Levels.length : Int))), I 2, I 12]) rfl Qbu (Qah N (p0.Levels.length : Int) 2 12 _ hf1) rfl rfl (nlc nll (nlc nll (nlc nll nl0))) nll rfl, asb hb3 (amv rfl), ag_ (aid rfl Try.underlying37 ti3 rfl rfl hi6 (mgt Qab hj7) rfl), asb hb8 (amv rfl), ag_ (Qap (first := []) (cap := []) (vs := [(Qhl p0), Qnt]) (σr := [(.own 1 [[(I ((-1)))]])]) (σr' := [(.own 1 [[I x10.2]])]) (res' := (B x10.1)) [1] rfl Qj6 (Qeb N p0.Levels (-1) _ hf9) rfl (Qb6 (rnc (.plain _ (nld Qaa _)) (rnc (Qar rn0 (rnc (Qa7 rfl) rn0)) rn0))) (slc (Qal (rnc (.plain _ nll) rn0)) Qao) (slc (Qal (rnc (.plain _ nll) rn0)) Qao) (.plain _ nll) rfl rfl rfl), asb hb11 (amv rfl), ag_ (apc (first := []) (cap := []) (vs := [I p0.Ramp, I 1, I 12]) rfl Qbu (Qah N p0.Ramp 1 12 _ hf12) rfl rfl (nlc nll (nlc nll (nlc nll nl0))) nll rfl), asb hb14 (amv rfl), ag_ (apc (first := []) (cap := []) (vs := [I p0.Start, I 0, I 1000000000]) rfl Qbu (Qah N p0.Start 0 1000000000 _ hf15) rfl rfl (nlc nll (nlc nll (nlc nll nl0))) nll rfl), asb hb17 (amv rfl), ag_ (alm (c := Qab) (l := p0.Levels) (aln rfl Try.underlying37 rfl)), ag_ (apc (first := []) (cap := []) (vs := [I p0.First, I 0, (I (w64 ((p0.Levels.length : Int) - 1)))]) rfl Qbu (Qah N p0.First 0 (w64 ((p0.Levels.length : Int) - 1)) _ hf18) rfl rfl (nlc nll (nlc nll (nlc nll nl0))) nll rfl), asb hb20 (amv rfl), trivial⟩ ?_
        refine Qad ?_
        obtain rfl := osi h
        exact fend ⟨[B false], ⟨rot (by kernel_rfl), trivial⟩, rfl⟩ nll
      ·replace h := Qat hb17 h
       refine wx tbk [(2, rp [(.tmp 7, (Qhl p0))] (I ((p0.Levels.length : Int)))), (3, rp [fu 65, (.tmp 8, (I ((p0.Levels.length : Int)))), ci 2, ci 12] (B x2)), (4, rp [(.tmp 9, B x2)] (B true)), (7, rp [(.tmp 10, B true), (.tmp 12, (Qhl p0)), ci 0] (.dptr (Qab (x4)) 0)), (11, rp [(.tmp 16, (B ((x4 == 0))))] (B true)), (15, ⟨[(.tmp 17, B true), fu 89, (.tmp 19, (Qhl p0)), (.tmp 20, Qnt)], [(1, (.own 1 [[(I ((-1)))]]))], B x10.1, [(1, .own 1 [[I x10.2]])], false⟩), (17, rp [(.tmp 22, B x10.1)] (B true)), (20, rp [(.tmp 23, B true), fu 65, (.tmp 25, I p0.Ramp), ci 1, ci 12] (B x13)), (22, rp [(.tmp 27, B x13)] (B true)), (25, rp [(.tmp 28, B true), fu 65, (.tmp 30, I p0.Start), ci 0, ci 1000000000] (B x16)), (27, rp [(.tmp 32, B x16)] (B false))] ⟨alm (c := Qab) (l := p0.Levels) (aln rfl Try.underlying37 rfl), apc (first := []) (cap := []) (vs := [(I ((p0.Levels.length : Int))), I 2, I 12]) rfl Qbu (Qah N (p0.Levels.length : Int) 2 12 _ hf1) rfl rfl (nlc nll (nlc nll (nlc nll nl0))) nll rfl, asb hb3 (amv rfl), ag_ (aid rfl Try.underlying37 ti3 rfl rfl hi6 (mgt Qab hj7) rfl), asb hb8 (amv rfl), ag_ (Qap (first := []) (cap := []) (vs := [(Qhl p0), Qnt]) (σr := [(.own 1 [[(I ((-1)))]])]) (σr' := [(.own 1 [[I x10.2]])]) (res' := (B x10.1)) [1] rfl Qj6 (Qeb N p0.Levels (-1) _ hf9) rfl (Qb6 (rnc (.plain _ (nld Qaa _)) (rnc (Qar rn0 (rnc (Qa7 rfl) rn0)) rn0))) (slc (Qal (rnc (.plain _ nll) rn0)) Qao) (slc (Qal (rnc (.plain _ nll) rn0)) Qao) (.plain _ nll) rfl rfl rfl), asb hb11 (amv rfl), ag_ (apc (first := []) (cap := []) (vs := [I p0.Ramp, I 1, I 12]) rfl Qbu (Qah N p0.Ramp 1 12 _ hf12) rfl rfl (nlc nll (nlc nll (nlc nll nl0))) nll rfl), asb hb14 (amv rfl), ag_ (apc (first := []) (cap := []) (vs := [I p0.Start, I 0, I 1000000000]) rfl Qbu (Qah N p0.Start 0 1000000000 _ hf15) rfl rfl (nlc nll (nlc nll (nlc nll nl0))) nll rfl), asb hb17 (amv rfl), trivial⟩ ?_
       refine Qad ?_
       obtain rfl := osi h
       exact fend ⟨[B false], ⟨rot (by kernel_rfl), trivial⟩, rfl⟩ nll
     ·replace h := Qat hb14 h
      refine wx tbk [(2, rp [(.tmp 7, (Qhl p0))] (I ((p0.Levels.length : Int)))), (3, rp [fu 65, (.tmp 8, (I ((p0.Levels.length : Int)))), ci 2, ci 12] (B x2)), (4, rp [(.tmp 9, B x2)] (B true)), (7, rp [(.tmp 10, B true), (.tmp 12, (Qhl p0)), ci 0] (.dptr (Qab (x4)) 0)), (11, rp [(.tmp 16, (B ((x4 == 0))))] (B true)), (15, ⟨[(.tmp 17, B true), fu 89, (.tmp 19, (Qhl p0)), (.tmp 20, Qnt)], [(1, (.own 1 [[(I ((-1)))]]))], B x10.1, [(1, .own 1 [[I x10.2]])], false⟩), (17, rp [(.tmp 22, B x10.1)] (B true)), (20, rp [(.tmp 23, B true), fu 65, (.tmp 25, I p0.Ramp), ci 1, ci 12] (B x13)), (22, rp [(.tmp 27, B x13)] (B false))] ⟨alm (c := Qab) (l := p0.Levels) (aln rfl Try.underlying37 rfl), apc (first := []) (cap := []) (vs := [(I ((p0.Levels.length : Int))), I 2, I 12]) rfl Qbu (Qah N (p0.Levels.length : Int) 2 12 _ hf1) rfl rfl (nlc nll (nlc nll (nlc nll nl0))) nll rfl, asb hb3 (amv rfl), ag_ (aid rfl Try.underlying37 ti3 rfl rfl hi6 (mgt Qab hj7) rfl), asb hb8 (amv rfl), ag_ (Qap (first := []) (cap := []) (vs := [(Qhl p0), Qnt]) (σr := [(.own 1 [[(I ((-1)))]])]) (σr' := [(.own 1 [[I x10.2]])]) (res' := (B x10.1)) [1] rfl Qj6 (Qeb N p0.Levels (-1) _ hf9) rfl (Qb6 (rnc (.plain _ (nld Qaa _)) (rnc (Qar rn0 (rnc (Qa7 rfl) rn0)) rn0))) (slc (Qal (rnc (.plain _ nll) rn0)) Qao) (slc (Qal (rnc (.plain _ nll) rn0)) Qao) (.plain _ nll) rfl rfl rfl), asb hb11 (amv rfl), ag_ (apc (first := []) (cap := []) (vs := [I p0.Ramp, I 1, I 12]) rfl Qbu (Qah N p0.Ramp 1 12 _ hf12) rfl rfl (nlc nll (nlc nll (nlc nll nl0))) nll rfl), asb hb14 (amv rfl), trivial⟩ ?_
      refine Qad ?_
      obtain rfl := osi h
      exact fend ⟨[B false], ⟨rot (by kernel_rfl), trivial⟩, rfl⟩ nll
    ·replace h := Qat hb11 h
     refine wx tbk [(2, rp [(.tmp 7, (Qhl p0))] (I ((p0.Levels.length : Int)))), (3, rp [fu 65, (.tmp 8, (I ((p0.Levels.length : Int)))), ci 2, ci 12] (B x2)), (4, rp [(.tmp 9, B x2)] (B true)), (7, rp [(.tmp 10, B true), (.tmp 12, (Qhl p0)), ci 0] (.dptr (Qab (x4)) 0)), (11, rp [(.tmp 16, (B ((x4 == 0))))] (B true)), (15, ⟨[(.tmp 17, B true), fu 89, (.tmp 19, (Qhl p0)), (.tmp 20, Qnt)], [(1, (.own 1 [[(I ((-1)))]]))], B x10.1, [(1, .own 1 [[I x10.2]])], false⟩), (17, rp [(.tmp 22, B x10.1)] (B false))] ⟨alm (c := Qab) (l := p0.Levels) (aln rfl Try.underlying37 rfl), apc (first := []) (cap := []) (vs := [(I ((p0.Levels.length : Int))), I 2, I 12]) rfl Qbu (Qah N (p0.Levels.length : Int) 2 12 _ hf1) rfl rfl (nlc nll (nlc nll (nlc nll nl0))) nll rfl, asb hb3 (amv rfl), ag_ (aid rfl Try.underlying37 ti3 rfl rfl hi6 (mgt Qab hj7) rfl), asb hb8 (amv rfl), ag_ (Qap (first := []) (cap := []) (vs := [(Qhl p0), Qnt]) (σr := [(.own 1 [[(I ((-1)))]])]) (σr' := [(.own 1 [[I x10.2]])]) (res' := (B x10.1)) [1] rfl Qj6 (Qeb N p0.Levels (-1) _ hf9) rfl (Qb6 (rnc (.plain _ (nld Qaa _)) (rnc (Qar rn0 (rnc (Qa7 rfl) rn0)) rn0))) (slc (Qal (rnc (.plain _ nll) rn0)) Qao) (slc (Qal (rnc (.plain _ nll) rn0)) Qao) (.plain _ nll) rfl rfl rfl), asb hb11 (amv rfl), trivial⟩ ?_
     refine Qad ?_
     obtain rfl := osi h
     exact fend ⟨[B false], ⟨rot (by kernel_rfl), trivial⟩, rfl⟩ nll
   ·replace h := Qat hb8 h
    refine wx tbk [(2, rp [(.tmp 7, (Qhl p0))] (I ((p0.Levels.length : Int)))), (3, rp [fu 65, (.tmp 8, (I ((p0.Levels.length : Int)))), ci 2, ci 12] (B x2)), (4, rp [(.tmp 9, B x2)] (B true)), (7, rp [(.tmp 10, B true), (.tmp 12, (Qhl p0)), ci 0] (.dptr (Qab (x4)) 0)), (11, rp [(.tmp 16, (B ((x4 == 0))))] (B false))] ⟨alm (c := Qab) (l := p0.Levels) (aln rfl Try.underlying37 rfl), apc (first := []) (cap := []) (vs := [(I ((p0.Levels.length : Int))), I 2, I 12]) rfl Qbu (Qah N (p0.Levels.length : Int) 2 12 _ hf1) rfl rfl (nlc nll (nlc nll (nlc nll nl0))) nll rfl, asb hb3 (amv rfl), ag_ (aid rfl Try.underlying37 ti3 rfl rfl hi6 (mgt Qab hj7) rfl), asb hb8 (amv rfl), trivial⟩ ?_
    refine Qad ?_
    obtain rfl := osi h
    exact fend ⟨[B false], ⟨rot (by kernel_rfl), trivial⟩, rfl⟩ nll
  ·replace h := Qat hb3 h
   refine wx tbk [(2, rp [(.tmp 7, (Qhl p0))] (I ((p0.Levels.length : Int)))), (3, rp [fu 65, (.tmp 8, (I ((p0.Levels.length : Int)))), ci 2, ci 12] (B x2)), (4, rp [(.tmp 9, B x2)] (B false))] ⟨alm (c := Qab) (l := p0.Levels) (aln rfl Try.underlying37 rfl), apc (first := []) (cap := []) (vs := [(I ((p0.Levels.length : Int))), I 2, I 12]) rfl Qbu (Qah N (p0.Levels.length : Int) 2 12 _ hf1) rfl rfl (nlc nll (nlc nll (nlc nll nl0))) nll rfl, asb hb3 (amv rfl), trivial⟩ ?_
   refine Qad ?_
   obtain rfl := osi h
   exact fend ⟨[B false], ⟨rot (by kernel_rfl), trivial⟩, rfl⟩ nll
def Qef (N : Nat) (p0 : GJob) (p1 : Int) (p2 : Int) (p3 : Int) : Option (Int × Bool) :=
  (getI p0.Hours p1).bind fun x1 =>
  Qb0 (fun _ =>
    (getI p0.Levels p3).bind fun x6 =>
    bif (p2 == 0) then
     bif (decide (p3 > 0)) then
      (some (w64 ((w64 (x1.Price * x6)) - p0.Start))).bind fun x12 =>
      some (x12, true)
     else
      some (w64 (x1.Price * x6), true)
    else
     some (w64 (x1.Price * x6), true)) fun k5 : Unit → Option (Int × Bool) =>
  (Qbh N p3 0 (w64 ((p0.Levels.length : Int) - 1))).bind fun x15 =>
  bif (!x15) then
   some (0, false)
  else
   (Qbh N (w64 (p3 - p2)) (w64 (0 - p0.Ramp)) p0.Ramp).bind fun x18 =>
   bif (!x18) then
    some (0, false)
   else
    (getI p0.Levels p3).bind fun x20 =>
    bif (decide (x20 > x1.Most)) then
     some (0, false)
    else
     k5 ()
def z63_1 (p0 : GJob) : AV := .dat 2 ((p0.Hours : List GHour).map Qax)
def Qxv (p0 : GJob) : AV := .dat 1 ((p0.Levels : List Int).map Qab)
def z63_2 (p0 : GJob) : Slot := .own 5 [[(Qxv p0), (I (p0.Ramp)), (I (p0.Start)), (I (p0.First)), (z63_1 p0)]]
set_option maxRecDepth 100000 in
set_option maxHeartbeats 4000000 in
theorem Qgh (N : Nat) (p0 : GJob) (p1 : Int) (p2 : Int) (p3 : Int) (r : (Int × Bool)) (h : Qef N p0 p1 p2 p3 = some r) : Spec Try.prog 70 [(.agg (Qhk p0)), (I p1), (I p2), (I p3)] [] (.tup [(I r.1), (B r.2)]) [] := by
  refine Qae Try.func70 rfl 0 (nle rfl) (fun X φ0 w0 hφ0 => ?_)
  unfold Qef at h
  refine wx tbk [] trivial ?_
  obtain ⟨x1, hg2, h⟩ := bno h
  obtain ⟨hi3, hj4⟩ := gsm hg2
  refine wx tbk [(3, rp [(.tmp 13, (z63_1 p0)), (.tmp 14, I p1)] (.dptr (Qax (x1)) 0))] ⟨aid rfl Try.underlying45 ti50 rfl rfl hi3 (mgt Qax hj4) rfl, trivial⟩ ?_
  obtain ⟨k5, hk_k5, h⟩ := jko h
  refine wjn (τ := Unit) (fun t => k5 t = some r) (fun _ => ⟨mk 65 [(2, I p2), (3, I p3), (4, .ref 0 5 0 0), (10, .ref 1 2 0 0)], [(z63_2 p0), (.own 2 [[I x1.Price, I x1.Most]])]⟩) (fun t h => ?_) ?_
  ·subst hk_k5
   obtain ⟨x6, hg7, h⟩ := bno h
   obtain ⟨hi8, hj9⟩ := gsm hg7
   refine wxd tbk [(5, rp [(.tmp 49, (Qxv p0)), (.tmp 50, I p3)] (.dptr (Qab (x6)) 0))] ⟨aid rfl Try.underlying37 ti3 rfl rfl hi8 (mgt Qab hj9) rfl, trivial⟩ ?_
   refine wsq ?_
   rcases bft ((p2 == 0)) with hb10 | hb10
   ·replace h := Qas hb10 h
    refine wx tbk [(2, rp [(.tmp 55, (B ((p2 == 0))))] (B true))] ⟨asb hb10 (amv rfl), trivial⟩ ?_
    rcases bft ((decide (p3 > 0))) with hc11 | hc11
    ·replace h := Qas hc11 h
     refine wft hc11 (by kernel_rfl) ?_
     obtain ⟨x12, hl13, h⟩ := bno h
     refine wx1 tbk [(4, rp [(.tmp 63, (I (w64 ((w64 (x1.Price * x6)) - p0.Start))))] (I x12))] ⟨Qfo hl13 (aas rfl), trivial⟩ ?_
     refine thn ?_
     refine wx tbk [] trivial ?_
     refine Qad ?_
     obtain rfl := osi h
     exact fend ⟨[I x12, B true], ⟨rot (by kernel_rfl), rot (by kernel_rfl), trivial⟩, rfl⟩ (NLt.tup _ (nlc nll (nlc nll nl0)))
    ·replace h := Qat hc11 h
     refine wfn hc11 (by kernel_rfl) ?_
     refine Qai ?_
     refine thn ?_
     refine wx tbk [] trivial ?_
     refine Qad ?_
     obtain rfl := osi h
     exact fend ⟨[(I (w64 (x1.Price * x6))), B true], ⟨rot (by kernel_rfl), rot (by kernel_rfl), trivial⟩, rfl⟩ (NLt.tup _ (nlc nll (nlc nll nl0)))
   ·replace h := Qat hb10 h
    refine wx tbk [(2, rp [(.tmp 55, (B ((p2 == 0))))] (B false))] ⟨asb hb10 (amv rfl), trivial⟩ ?_
    refine Qd2 (by kernel_rfl) ?_
    refine Qai ?_
    refine thn ?_
    refine wx tbk [] trivial ?_
    refine Qad ?_
    obtain rfl := osi h
    exact fend ⟨[(I (w64 (x1.Price * x6))), B true], ⟨rot (by kernel_rfl), rot (by kernel_rfl), trivial⟩, rfl⟩ (NLt.tup _ (nlc nll (nlc nll nl0)))
  ·skip
   obtain ⟨x15, hf14, h⟩ := bno h
   rcases bft ((!x15)) with hb16 | hb16
   ·replace h := Qas hb16 h
    refine wxd tbk [(3, rp [(.tmp 19, (Qxv p0))] (I ((p0.Levels.length : Int)))), (5, rp [fu 65, (.tmp 17, I p3), ci 0, (.tmp 21, (I (w64 ((p0.Levels.length : Int) - 1))))] (B x15)), (7, rp [(.tmp 23, (B ((!x15))))] (B true))] ⟨alm (c := Qab) (l := p0.Levels) (aln rfl Try.underlying37 rfl), apc (first := []) (cap := []) (vs := [I p3, I 0, (I (w64 ((p0.Levels.length : Int) - 1)))]) rfl Qbu (Qah N p3 0 (w64 ((p0.Levels.length : Int) - 1)) _ hf14) rfl rfl (nlc nll (nlc nll (nlc nll nl0))) nll rfl, asb hb16 (amv rfl), trivial⟩ ?_
    refine Qff (by kernel_rfl) ?_
    refine wx tbk [] trivial ?_
    refine Qad ?_
    refine Qam ?_
    obtain rfl := osi h
    exact fend ⟨[I 0, B false], ⟨rot (by kernel_rfl), rot (by kernel_rfl), trivial⟩, rfl⟩ (NLt.tup _ (nlc nll (nlc nll nl0)))
   ·replace h := Qat hb16 h
    obtain ⟨x18, hf17, h⟩ := bno h
    rcases bft ((!x18)) with hb19 | hb19
    ·replace h := Qas hb19 h
     refine wxd tbk [(3, rp [(.tmp 19, (Qxv p0))] (I ((p0.Levels.length : Int)))), (5, rp [fu 65, (.tmp 17, I p3), ci 0, (.tmp 21, (I (w64 ((p0.Levels.length : Int) - 1))))] (B x15)), (7, rp [(.tmp 23, (B ((!x15))))] (B false)), (16, rp [(.tmp 24, B false), fu 65, (.tmp 27, (I (w64 (p3 - p2)))), (.tmp 30, (I (w64 (0 - p0.Ramp)))), (.tmp 32, I p0.Ramp)] (B x18)), (19, rp [(.tmp 35, (B ((!x18))))] (B true))] ⟨alm (c := Qab) (l := p0.Levels) (aln rfl Try.underlying37 rfl), apc (first := []) (cap := []) (vs := [I p3, I 0, (I (w64 ((p0.Levels.length : Int) - 1)))]) rfl Qbu (Qah N p3 0 (w64 ((p0.Levels.length : Int) - 1)) _ hf14) rfl rfl (nlc nll (nlc nll (nlc nll nl0))) nll rfl, asb hb16 (amv rfl), ag_ (apc (first := []) (cap := []) (vs := [(I (w64 (p3 - p2))), (I (w64 (0 - p0.Ramp))), I p0.Ramp]) rfl Qbu (Qah N (w64 (p3 - p2)) (w64 (0 - p0.Ramp)) p0.Ramp _ hf17) rfl rfl (nlc nll (nlc nll (nlc nll nl0))) nll rfl), asb hb19 (amv rfl), trivial⟩ ?_
     refine Qff (by kernel_rfl) ?_
     refine wx tbk [] trivial ?_
     refine Qad ?_
     refine Qam ?_
     obtain rfl := osi h
     exact fend ⟨[I 0, B false], ⟨rot (by kernel_rfl), rot (by kernel_rfl), trivial⟩, rfl⟩ (NLt.tup _ (nlc nll (nlc nll nl0)))
    ·replace h := Qat hb19 h
     obtain ⟨x20, hg21, h⟩ := bno h
     obtain ⟨hi22, hj23⟩ := gsm hg21
     refine wxd tbk [(3, rp [(.tmp 19, (Qxv p0))] (I ((p0.Levels.length : Int)))), (5, rp [fu 65, (.tmp 17, I p3), ci 0, (.tmp 21, (I (w64 ((p0.Levels.length : Int) - 1))))] (B x15)), (7, rp [(.tmp 23, (B ((!x15))))] (B false)), (16, rp [(.tmp 24, B false), fu 65, (.tmp 27, (I (w64 (p3 - p2)))), (.tmp 30, (I (w64 (0 - p0.Ramp)))), (.tmp 32, I p0.Ramp)] (B x18)), (19, rp [(.tmp 35, (B ((!x18))))] (B false)), (23, rp [(.tmp 36, B false), (.tmp 38, (Qxv p0)), (.tmp 39, I p3)] (.dptr (Qab (x20)) 0))] ⟨alm (c := Qab) (l := p0.Levels) (aln rfl Try.underlying37 rfl), apc (first := []) (cap := []) (vs := [I p3, I 0, (I (w64 ((p0.Levels.length : Int) - 1)))]) rfl Qbu (Qah N p3 0 (w64 ((p0.Levels.length : Int) - 1)) _ hf14) rfl rfl (nlc nll (nlc nll (nlc nll nl0))) nll rfl, asb hb16 (amv rfl), ag_ (apc (first := []) (cap := []) (vs := [(I (w64 (p3 - p2))), (I (w64 (0 - p0.Ramp))), I p0.Ramp]) rfl Qbu (Qah N (w64 (p3 - p2)) (w64 (0 - p0.Ramp)) p0.Ramp _ hf17) rfl rfl (nlc nll (nlc nll (nlc nll nl0))) nll rfl), asb hb19 (amv rfl), ag_ (aid rfl Try.underlying37 ti3 rfl rfl hi22 (mgt Qab hj23) rfl), trivial⟩ ?_
     rcases bft ((decide (x20 > x1.Most))) with hc24 | hc24
     ·replace h := Qas hc24 h
      refine wft hc24 (by kernel_rfl) ?_
      refine wx tbk [] trivial ?_
      refine Qad ?_
      refine Qam ?_
      obtain rfl := osi h
      exact fend ⟨[I 0, B false], ⟨rot (by kernel_rfl), rot (by kernel_rfl), trivial⟩, rfl⟩ (NLt.tup _ (nlc nll (nlc nll nl0)))
     ·replace h := Qat hc24 h
      refine wfn hc24 (by kernel_rfl) ?_
      refine Qai ?_
      refine thn ?_
      exact ⟨(), h, (mto (n := 65) [(2, I p2), (3, I p3), (4, .ref 0 5 0 0), (10, .ref 1 2 0 0)] [0, 1] [(z63_2 p0), (.own 2 [[I x1.Price, I x1.Most]])] hφ0 (pc rwl (pc rwl (pc (.rn (rqr rfl)) (pc (.rn (rqr rfl)) pn)))) (qc (spb (lc (.rn (.plain _ (nld Qaa _))) (lc rwl (lc rwl (lc rwl (lc (.rn (.plain _ (nld Qac _))) ln)))))) (qc (spb (lc rwl (lc rwl ln))) qn)))⟩
def Qcj (N : Nat) (p0 : Int) (p1 : (List Int)) (p2 : Int) (p3 : Int) (p4 : Int) (p5 : (List GHour)) (p6 : Nat) (p7 : Nat) (p8 : (List (Nat × Nat))) (p9 : (List (Nat × Nat))) (p10 : (List (List Int))) (p11 : (List (List Bool))) (y11 : Int) (k21 : (List (List Int)) × (List (List Bool)) → Option ((List (List Int)) × (List (List Bool)))) : Nat → Int → (List (List Int)) → (List (List Bool)) → Option ((List (List Int)) × (List (List Bool)))
  | 0, _, _, _ => none
  | n43 + 1, y37, y38, y39 =>
    bif (decide (y37 < (p1.length : Int))) then
     (Qef N (⟨p1, p2, p3, p4, p5⟩ : GJob) p0 y11 y37).bind fun x46 =>
     bif x46.2 then
      chk (decide (0 ≤ p0) && decide (p0.toNat < p6)) <|
      ((p8.set p0.toNat (p10.length, (p1.length : Int).toNat))[p0.toNat]?).bind fun x49 =>
      chk (decide (0 ≤ p0) && decide (p0.toNat < p6)) <|
      ((p8.set p0.toNat (p10.length, (p1.length : Int).toNat))[p0.toNat]?).bind fun x52 =>
      chk (!(y38.getD x52.1 []).isEmpty) <|
      chk (decide (0 ≤ y11) && decide (y11.toNat < x52.2)) <|
      (getM y38 x52.1 y11.toNat).bind fun x56 =>
      chk (decide (0 ≤ w64 (p0 + 1)) && decide ((w64 (p0 + 1)).toNat < p6)) <|
      ((p8.set p0.toNat (p10.length, (p1.length : Int).toNat))[(w64 (p0 + 1)).toNat]?).bind fun x59 =>
      chk (!(y38.getD x59.1 []).isEmpty) <|
      chk (decide (0 ≤ y37) && decide (y37.toNat < x59.2)) <|
      (getM y38 x59.1 y37.toNat).bind fun x63 =>
      (some (if (w64 (x46.1 + x63)) > x56 then w64 (x46.1 + x63) else x56)).bind fun x65 =>
      chk (!(y38.getD x49.1 []).isEmpty) <|
      chk (decide (0 ≤ y11) && decide (y11.toNat < x49.2)) <|
      (getM y38 x49.1 y11.toNat).bind fun _ =>
      chk (decide (0 ≤ p0) && decide (p0.toNat < p7)) <|
      ((p9.set p0.toNat (p11.length, (p1.length : Int).toNat))[p0.toNat]?).bind fun x72 =>
      chk (decide (0 ≤ p0) && decide (p0.toNat < p7)) <|
      ((p9.set p0.toNat (p11.length, (p1.length : Int).toNat))[p0.toNat]?).bind fun x75 =>
      chk (!(y39.getD x75.1 []).isEmpty) <|
      chk (decide (0 ≤ y11) && decide (y11.toNat < x75.2)) <|
      (getM y39 x75.1 y11.toNat).bind fun x79 =>
      bif x79 then
       chk (!(y39.getD x72.1 []).isEmpty) <|
       chk (decide (0 ≤ y11) && decide (y11.toNat < x72.2)) <|
       (getM y39 x72.1 y11.toNat).bind fun _ =>
       Qcj N p0 p1 p2 p3 p4 p5 p6 p7 p8 p9 p10 p11 y11 k21 n43 (w64 (y37 + 1)) (setM y38 x49.1 y11.toNat x65) (setM y39 x72.1 y11.toNat true)
      else
       chk (decide (0 ≤ w64 (p0 + 1)) && decide ((w64 (p0 + 1)).toNat < p7)) <|
       ((p9.set p0.toNat (p11.length, (p1.length : Int).toNat))[(w64 (p0 + 1)).toNat]?).bind fun x87 =>
       chk (!(y39.getD x87.1 []).isEmpty) <|
       chk (decide (0 ≤ y37) && decide (y37.toNat < x87.2)) <|
       (getM y39 x87.1 y37.toNat).bind fun x91 =>
       chk (!(y39.getD x72.1 []).isEmpty) <|
       chk (decide (0 ≤ y11) && decide (y11.toNat < x72.2)) <|
       (getM y39 x72.1 y11.toNat).bind fun _ =>
       Qcj N p0 p1 p2 p3 p4 p5 p6 p7 p8 p9 p10 p11 y11 k21 n43 (w64 (y37 + 1)) (setM y38 x49.1 y11.toNat x65) (setM y39 x72.1 y11.toNat x91)
     else
      Qcj N p0 p1 p2 p3 p4 p5 p6 p7 p8 p9 p10 p11 y11 k21 n43 (w64 (y37 + 1)) y38 y39
    else
     k21 (y38, y39)
def Qdn (N : Nat) (p0 : Int) (p1 : (List Int)) (p2 : Int) (p3 : Int) (p4 : Int) (p5 : (List GHour)) (p6 : Nat) (p7 : Nat) (p8 : (List (Nat × Nat))) (p9 : (List (Nat × Nat))) (p10 : (List (List Int))) (p11 : (List (List Bool))) : Nat → Int → (List (List Int)) → (List (List Bool)) → Option ((List (List Int)) × (List (List Bool)))
  | 0, _, _, _ => none
  | n17 + 1, y11, y12, y13 =>
    bif (decide (y11 < (p1.length : Int))) then
     Qb0 (fun ⟨y19, y20⟩ =>
       Qdn N p0 p1 p2 p3 p4 p5 p6 p7 p8 p9 p10 p11 n17 (w64 (y11 + 1)) y19 y20) fun k21 : (List (List Int)) × (List (List Bool)) → Option ((List (List Int)) × (List (List Bool))) =>
     bif (p0 == (p5.length : Int)) then
      chk (decide (0 ≤ p0) && decide (p0.toNat < p7)) <|
      ((p9.set p0.toNat (p11.length, (p1.length : Int).toNat))[p0.toNat]?).bind fun x24 =>
      chk (!(y13.getD x24.1 []).isEmpty) <|
      chk (decide (0 ≤ y11) && decide (y11.toNat < x24.2)) <|
      (getM y13 x24.1 y11.toNat).bind fun _ =>
      k21 (y12, setM y13 x24.1 y11.toNat true)
     else
      chk (decide (0 ≤ p0) && decide (p0.toNat < p6)) <|
      ((p8.set p0.toNat (p10.length, (p1.length : Int).toNat))[p0.toNat]?).bind fun x31 =>
      chk (!(y12.getD x31.1 []).isEmpty) <|
      chk (decide (0 ≤ y11) && decide (y11.toNat < x31.2)) <|
      (getM y12 x31.1 y11.toNat).bind fun _ =>
      Qcj N p0 p1 p2 p3 p4 p5 p6 p7 p8 p9 p10 p11 y11 k21 N 0 (setM y12 x31.1 y11.toNat (-1000000000000)) y13
    else
     some (y12, y13)
def Qhg (N : Nat) (p0 : Int) (p1 : (List Int)) (p2 : Int) (p3 : Int) (p4 : Int) (p5 : (List GHour)) (p6 : Nat) (p7 : Nat) (p8 : (List (Nat × Nat))) (p9 : (List (Nat × Nat))) (p10 : (List (List Int))) (p11 : (List (List Bool))) : Option ((List (List Int)) × (List (List Bool))) :=
  chk (decide (0 ≤ (p1.length : Int)) && decide (8 * (p1.length : Int) ≤ 281474976710656) && decide ((p1.length : Int) ≤ 9223372036854775807)) <|
  chk (decide (0 ≤ (p1.length : Int)) && decide (1 * (p1.length : Int) ≤ 281474976710656) && decide ((p1.length : Int) ≤ 9223372036854775807)) <|
  chk (decide (0 ≤ p0) && decide (p0.toNat < p6)) <|
  (p8[p0.toNat]?).bind fun _ =>
  chk (decide (0 ≤ p0) && decide (p0.toNat < p7)) <|
  (p9[p0.toNat]?).bind fun _ =>
  Qdn N p0 p1 p2 p3 p4 p5 p6 p7 p8 p9 p10 p11 N 0 (p10 ++ [List.replicate (p1.length : Int).toNat 0]) (p11 ++ [List.replicate (p1.length : Int).toNat false])
def Qun (p1 : (List Int)) : AV := .dat 1 ((p1 : List Int).map Qab)
def z62_3 (p5 : (List GHour)) : AV := .dat 2 ((p5 : List GHour).map Qax)
def Qk9 (p1 : (List Int)) (p2 : Int) (p3 : Int) (p4 : Int) (p5 : (List GHour)) : Slot := .own 5 [[(Qun p1), (I (p2)), (I (p3)), (I (p4)), (z62_3 p5)]]
def Qlb (p6 : Nat) : Slot := .own 1 [[(.own 3 1 (0) (p6))]]
def Qla (p7 : Nat) : Slot := .own 1 [[(.own 4 1 (0) (p7))]]
def z62_9 (p8 : (List (Nat × Nat))) : Slot := .own 1 ((p8 : List (Nat × Nat)).map (c_mr 5 1))
def Qy7 (p9 : (List (Nat × Nat))) : Slot := .own 1 ((p9 : List (Nat × Nat)).map (c_mr 6 1))
def Qf7 (p8 : (List (Nat × Nat))) (p0 : Int) (p10 : (List (List Int))) (p1 : (List Int)) : Slot := .own 1 ((p8.set p0.toNat (p10.length, (p1.length : Int).toNat) : List (Nat × Nat)).map (c_mr 5 1))
def Qe6 (p9 : (List (Nat × Nat))) (p0 : Int) (p11 : (List (List Bool))) (p1 : (List Int)) : Slot := .own 1 ((p9.set p0.toNat (p11.length, (p1.length : Int).toNat) : List (Nat × Nat)).map (c_mr 6 1))
def z62_8 (p11 : (List (List Bool))) (p1 : (List Int)) : Slot := .mat 1 (matA Qf9 (p11 ++ [List.replicate (p1.length : Int).toNat false] : List (List Bool)))
def Qns (y12 : (List (List Int))) : Slot := .mat 1 (matA Qab (y12 : List (List Int)))
def Qmq (y13 : (List (List Bool))) : Slot := .mat 1 (matA Qf9 (y13 : List (List Bool)))
def Qkj (y38 : (List (List Int))) : Slot := .mat 1 (matA Qab (y38 : List (List Int)))
def Qh5 (y39 : (List (List Bool))) : Slot := .mat 1 (matA Qf9 (y39 : List (List Bool)))
set_option maxRecDepth 100000 in
set_option maxHeartbeats 4000000 in
theorem Qk8 (N : Nat) (p0 : Int) (p1 : (List Int)) (p2 : Int) (p3 : Int) (p4 : Int) (p5 : (List GHour)) (p6 : Nat) (p7 : Nat) (p8 : (List (Nat × Nat))) (p9 : (List (Nat × Nat))) (p10 : (List (List Int))) (p11 : (List (List Bool))) (r : ((List (List Int)) × (List (List Bool)))) (h : Qhg N p0 p1 p2 p3 p4 p5 p6 p7 p8 p9 p10 p11 = some r) : Spec Try.prog 69 [(I (p0)), (.ref 0 5 (0) 0), (.ref 1 1 (0) 0), (.ref 2 1 (0) 0)] [(Qk9 p1 p2 p3 p4 p5), (Qlb p6), (Qla p7), (z62_9 p8), (Qy7 p9), (.mat 1 (matA Qab (p10 : List (List Int)))), (.mat 1 (matA Qf9 (p11 : List (List Bool))))] (.tup []) [(Qk9 p1 p2 p3 p4 p5), (Qlb p6), (Qla p7), (Qf7 p8 p0 p10 p1), (Qe6 p9 p0 p11 p1), (.mat 1 (matA Qab (r.1 : List (List Int)))), (.mat 1 (matA Qf9 (r.2 : List (List Bool))))] := by
  refine Qae Try.func69 rfl 7 (nle rfl) (fun X φ0 w0 hφ0 => ?_)
  unfold Qhg at h
  refine Qbp ?_
  obtain ⟨hm3, h⟩ := cko h
  obtain ⟨hm4, h⟩ := cko h
  obtain ⟨hi5, h⟩ := cko h
  obtain ⟨hi5a, hi5b⟩ := Qa0 hi5
  obtain ⟨x6, hg7, h⟩ := bno h
  obtain ⟨hi8, h⟩ := cko h
  obtain ⟨hi8a, hi8b⟩ := Qa0 hi8
  obtain ⟨x9, hg10, h⟩ := bno h
  refine wxd tbk [(6, rp [(.tmp 14, (Qun p1))] (I ((p1.length : Int)))), (7, ⟨[(.tmp 15, (I ((p1.length : Int)))), (.tmp 15, (I ((p1.length : Int))))], [(7, .unused), (5, (.mat 1 (matA Qab (p10 : List (List Int)))))], (.row 5 p10.length 1 (0) ((p1.length : Int).toNat)), [(7, .dead), (5, (.mat 1 (matA Qab (p10 ++ [List.replicate (p1.length : Int).toNat 0] : List (List Int)))))], false⟩), (10, rp [(.tmp 18, (Qun p1))] (I ((p1.length : Int)))), (11, ⟨[(.tmp 19, (I ((p1.length : Int)))), (.tmp 19, (I ((p1.length : Int))))], [(8, .unused), (6, (.mat 1 (matA Qf9 (p11 : List (List Bool)))))], (.row 6 p11.length 1 (0) ((p1.length : Int).toNat)), [(8, .dead), (6, (z62_8 p11 p1))], false⟩), (12, rb [(.tmp 9, (.own 3 1 (0) (p6))), (.tmp 10, I p0)] [(3, (z62_9 p8))] (.ref 3 1 (p0.toNat) 0)), (13, ⟨[(.tmp 21, (.ref 3 1 (p0.toNat) 0)), (.tmp 16, (.row 5 p10.length 1 (0) ((p1.length : Int).toNat)))], [(3, (z62_9 p8))], .any, [(3, (Qf7 p8 p0 p10 p1))], false⟩), (14, rb [(.tmp 11, (.own 4 1 (0) (p7))), (.tmp 12, I p0)] [(4, (Qy7 p9))] (.ref 4 1 (p0.toNat) 0)), (15, ⟨[(.tmp 22, (.ref 4 1 (p0.toNat) 0)), (.tmp 20, (.row 6 p11.length 1 (0) ((p1.length : Int).toNat)))], [(4, (Qy7 p9))], .any, [(4, (Qe6 p9 p0 p11 p1))], false⟩)] ⟨alm (c := Qab) (l := p1) (aln rfl Try.underlying37 rfl), Qi8 rfl (Qgx rfl Try.underlying37 te3 tz3 rfl (Qql hm3) rfl (Qqk hm3) (Qnq hm3) (Qn7 Qab rfl)), alm (c := Qab) (l := p1) (aln rfl Try.underlying37 rfl), Qi8 rfl (Qgx rfl Try.underlying121 te4 tz4 rfl (Qql hm4) rfl (Qqk hm4) (Qnq hm4) (Qn7 Qf9 rfl)), aio rfl Try.underlying42 ti37 (odt hi5a) (odt hi5b) (Nat.zero_add _), ast rfl ti37 (by rfl) (mgt (c_mr 5 1) hg7) (nle rfl) (Qgl (x' := (p10.length, (p1.length : Int).toNat)) (c_mr 5 1) rfl), aio rfl Try.underlying120 Qj0 (odt hi8a) (odt hi8b) (Nat.zero_add _), ast rfl Qj0 (by rfl) (mgt (c_mr 6 1) hg10) (nle rfl) (Qgl (x' := (p11.length, (p1.length : Int).toNat)) (c_mr 6 1) rfl), trivial⟩ ?_
  refine wx tbk [(2, rp [(.tmp 24, (Qun p1))] (I ((p1.length : Int))))] ⟨alm (c := Qab) (l := p1) (aln rfl Try.underlying37 rfl), trivial⟩ ?_
  refine Qaf ?_
  refine wmr (mto (n := 110) (l' := [(0, I p0), (1, .ref 0 5 0 0), (2, .ref 1 1 0 0), (3, .ref 2 1 0 0), (25, (I ((p1.length : Int)))), (26, I 0)]) (own' := [(Qk9 p1 p2 p3 p4 p5), (Qlb p6), (Qla p7), (Qf7 p8 p0 p10 p1), (Qe6 p9 p0 p11 p1), (.mat 1 (matA Qab ((p10 ++ [List.replicate (p1.length : Int).toNat 0]) : List (List Int)))), (.mat 1 (matA Qf9 ((p11 ++ [List.replicate (p1.length : Int).toNat false]) : List (List Bool))))]) [(0, I p0), (1, .ref 0 5 0 0), (2, .ref 1 1 0 0), (3, .ref 2 1 0 0), (25, (I ((p1.length : Int)))), (26, I 0)] [0, 1, 2, 3, 4, 5, 6] [(Qk9 p1 p2 p3 p4 p5), (Qlb p6), (Qla p7), (Qf7 p8 p0 p10 p1), (Qe6 p9 p0 p11 p1), (.mat 1 (matA Qab (p10 ++ [List.replicate (p1.length : Int).toNat 0] : List (List Int)))), (z62_8 p11 p1)] hφ0 (pc rwl (pc (.rn (rqr rfl)) (pc (.rn (rqr rfl)) (pc (.rn (rqr rfl)) (pc rwl (pc rwl pn)))))) (qc (spb (lc (.rn (.plain _ (nld Qaa _))) (lc rwl (lc rwl (lc rwl (lc (.rn (.plain _ (nld Qac _))) ln)))))) (qc (spb (lc (.rn (Qag rfl)) ln)) (qc (spb (lc (.rn (Qag rfl)) ln)) (qc (Qa6 rfl) (qc (Qa6 rfl) (qc (Qbq Qaa) (qc (Qbq Qda) qn)))))))) ?_
  refine Qbk (τ := Int × (List (List Int)) × (List (List Bool))) (fun n t => Qdn N p0 p1 p2 p3 p4 p5 p6 p7 p8 p9 p10 p11 n t.1 t.2.1 t.2.2 = some r) (fun ⟨y11, y12, y13⟩ => ⟨mk 110 [(0, I p0), (1, .ref 0 5 0 0), (2, .ref 1 1 0 0), (3, .ref 2 1 0 0), (25, (I ((p1.length : Int)))), (26, I y11)], [(Qk9 p1 p2 p3 p4 p5), (Qlb p6), (Qla p7), (Qf7 p8 p0 p10 p1), (Qe6 p9 p0 p11 p1), (Qns y12), (Qmq y13)]⟩) (fun t h => by rw [Qdn] at h; cases h) (fun n17 ih t h => ?_) N (0, p10 ++ [List.replicate (p1.length : Int).toNat 0], p11 ++ [List.replicate (p1.length : Int).toNat false]) h
  obtain ⟨y11, y12, y13⟩ := t
  rw [Qdn] at h
  skip
  refine wx tbk [] trivial ?_
  refine wsq ?_
  rcases bft ((decide (y11 < (p1.length : Int)))) with hc18 | hc18
  ·replace h := Qas hc18 h
   refine wft hc18 (by kernel_rfl) ?_
   refine Qai ?_
   refine thn ?_
   obtain ⟨k21, hk_k21, h⟩ := jko h
   refine wjn (τ := (List (List Int)) × (List (List Bool))) (fun t => k21 t = some r) (fun ⟨y19, y20⟩ => ⟨mk 110 [(0, I p0), (1, .ref 0 5 0 0), (2, .ref 1 1 0 0), (3, .ref 2 1 0 0), (25, (I ((p1.length : Int)))), (26, I y11)], [(Qk9 p1 p2 p3 p4 p5), (Qlb p6), (Qla p7), (Qf7 p8 p0 p10 p1), (Qe6 p9 p0 p11 p1), (.mat 1 (matA Qab (y19 : List (List Int)))), (.mat 1 (matA Qf9 (y20 : List (List Bool))))]⟩) (fun t h => ?_) ?_
   ·subst hk_k21
    obtain ⟨y19, y20⟩ := t
    refine wx1 tbk [] trivial ?_
    refine thn ?_
    exact arm (mto (n := 110) [(0, I p0), (1, .ref 0 5 0 0), (2, .ref 1 1 0 0), (3, .ref 2 1 0 0), (25, (I ((p1.length : Int)))), (26, (I (w64 (y11 + 1))))] [0, 1, 2, 3, 4, 5, 6] [(Qk9 p1 p2 p3 p4 p5), (Qlb p6), (Qla p7), (Qf7 p8 p0 p10 p1), (Qe6 p9 p0 p11 p1), (.mat 1 (matA Qab (y19 : List (List Int)))), (.mat 1 (matA Qf9 (y20 : List (List Bool))))] hφ0 (pc rwl (pc (.rn (rqr rfl)) (pc (.rn (rqr rfl)) (pc (.rn (rqr rfl)) (pc rwl (pc rwl pn)))))) (qc (spb (lc (.rn (.plain _ (nld Qaa _))) (lc rwl (lc rwl (lc rwl (lc (.rn (.plain _ (nld Qac _))) ln)))))) (qc (spb (lc (.rn (Qag rfl)) ln)) (qc (spb (lc (.rn (Qag rfl)) ln)) (qc (Qa6 rfl) (qc (Qa6 rfl) (qc (Qbq Qaa) (qc (Qbq Qda) qn)))))))) (ih (w64 (y11 + 1), y19, y20) h)
   ·skip
    refine Qaf ?_
    refine wx tbk [] trivial ?_
    refine wsq ?_
    refine wx tbk [(3, rp [(.tmp 31, (z62_3 p5))] (I ((p5.length : Int))))] ⟨alm (c := Qax) (l := p5) (aln rfl Try.underlying45 rfl), trivial⟩ ?_
    rcases bft ((p0 == (p5.length : Int))) with hc22 | hc22
    ·replace h := Qas hc22 h
     refine wft hc22 (by kernel_rfl) ?_
     obtain ⟨hi23, h⟩ := cko h
     obtain ⟨hi23a, hi23b⟩ := Qa0 hi23
     obtain ⟨x24, hg25, h⟩ := bno h
     obtain ⟨hz27, h⟩ := cko h
     obtain ⟨hi26, h⟩ := cko h
     obtain ⟨hi26a, hi26b⟩ := Qa0 hi26
     obtain ⟨x28, hg29, h⟩ := bno h
     refine wx tbk [(2, rb [(.tmp 34, (.own 4 1 (0) (p7))), (.tmp 35, I p0)] [(4, (Qe6 p9 p0 p11 p1))] (.ref 4 1 (p0.toNat) 0)), (3, rb [(.tmp 36, (.ref 4 1 (p0.toNat) 0))] [(4, (Qe6 p9 p0 p11 p1))] (.row 6 x24.1 1 (0) (x24.2))), (5, rb [(.tmp 37, (.row 6 x24.1 1 (0) (x24.2))), (.tmp 38, I y11)] [(6, (Qmq y13))] (.rowp 6 x24.1 1 (y11.toNat) 0)), (6, ⟨[(.tmp 39, (.rowp 6 x24.1 1 (y11.toNat) 0)), cb true], [(6, (Qmq y13))], .any, [(6, (.mat 1 (matA Qf9 (setM y13 x24.1 y11.toNat true : List (List Bool)))))], false⟩)] ⟨aio rfl Try.underlying120 Qj0 (odt hi23a) (odt hi23b) (Nat.zero_add _), ald rfl Qj0 (by decide) (mgt (c_mr 6 1) hg25) (nle rfl) rfl, Qcc rfl Try.underlying121 ti4 (odt hi26a) (odt hi26b) hz27 (Nat.zero_add _), Qf0 (u' := true) rfl ti4 (by rfl) hg29 (nle rfl) rfl, trivial⟩ ?_
     refine Qa2 ?_
     refine Qaq ?_
     refine Qa1 rfl ?_
     refine thn ?_
     exact ⟨(y12, setM y13 x24.1 y11.toNat true), h, (mto (n := 110) [(0, I p0), (1, .ref 0 5 0 0), (2, .ref 1 1 0 0), (3, .ref 2 1 0 0), (25, (I ((p1.length : Int)))), (26, I y11)] [0, 1, 2, 3, 4, 5, 6] [(Qk9 p1 p2 p3 p4 p5), (Qlb p6), (Qla p7), (Qf7 p8 p0 p10 p1), (Qe6 p9 p0 p11 p1), (Qns y12), (.mat 1 (matA Qf9 (setM y13 x24.1 y11.toNat true : List (List Bool))))] hφ0 (pc rwl (pc (.rn (rqr rfl)) (pc (.rn (rqr rfl)) (pc (.rn (rqr rfl)) (pc rwl (pc rwl pn)))))) (qc (spb (lc (.rn (.plain _ (nld Qaa _))) (lc rwl (lc rwl (lc rwl (lc (.rn (.plain _ (nld Qac _))) ln)))))) (qc (spb (lc (.rn (Qag rfl)) ln)) (qc (spb (lc (.rn (Qag rfl)) ln)) (qc (Qa6 rfl) (qc (Qa6 rfl) (qc (Qbq Qaa) (qc (Qbq Qda) qn))))))))⟩
    ·replace h := Qat hc22 h
     refine wfn hc22 (by kernel_rfl) ?_
     refine Qai ?_
     refine thn ?_
     obtain ⟨hi30, h⟩ := cko h
     obtain ⟨hi30a, hi30b⟩ := Qa0 hi30
     obtain ⟨x31, hg32, h⟩ := bno h
     obtain ⟨hz34, h⟩ := cko h
     obtain ⟨hi33, h⟩ := cko h
     obtain ⟨hi33a, hi33b⟩ := Qa0 hi33
     obtain ⟨x35, hg36, h⟩ := bno h
     refine wx tbk [(2, rb [(.tmp 40, (.own 3 1 (0) (p6))), (.tmp 41, I p0)] [(3, (Qf7 p8 p0 p10 p1))] (.ref 3 1 (p0.toNat) 0)), (3, rb [(.tmp 42, (.ref 3 1 (p0.toNat) 0))] [(3, (Qf7 p8 p0 p10 p1))] (.row 5 x31.1 1 (0) (x31.2))), (5, rb [(.tmp 43, (.row 5 x31.1 1 (0) (x31.2))), (.tmp 44, I y11)] [(5, (Qns y12))] (.rowp 5 x31.1 1 (y11.toNat) 0)), (6, ⟨[(.tmp 45, (.rowp 5 x31.1 1 (y11.toNat) 0)), ci (-1000000000000)], [(5, (Qns y12))], .any, [(5, (.mat 1 (matA Qab (setM y12 x31.1 y11.toNat (-1000000000000) : List (List Int)))))], false⟩)] ⟨aio rfl Try.underlying42 ti37 (odt hi30a) (odt hi30b) (Nat.zero_add _), ald rfl ti37 (by decide) (mgt (c_mr 5 1) hg32) (nle rfl) rfl, Qcc rfl Try.underlying37 ti3 (odt hi33a) (odt hi33b) hz34 (Nat.zero_add _), Qf0 (u' := (-1000000000000)) rfl ti3 (by rfl) hg36 (nle rfl) rfl, trivial⟩ ?_
     refine wx tbk [(2, rp [(.tmp 47, (Qun p1))] (I ((p1.length : Int))))] ⟨alm (c := Qab) (l := p1) (aln rfl Try.underlying37 rfl), trivial⟩ ?_
     refine Qaf ?_
     refine wmr (mto (n := 110) (l' := [(0, I p0), (1, .ref 0 5 0 0), (2, .ref 1 1 0 0), (3, .ref 2 1 0 0), (5, I y11), (25, (I ((p1.length : Int)))), (26, I y11), (48, (I ((p1.length : Int)))), (49, I 0)]) (own' := [(Qk9 p1 p2 p3 p4 p5), (Qlb p6), (Qla p7), (Qf7 p8 p0 p10 p1), (Qe6 p9 p0 p11 p1), (.mat 1 (matA Qab ((setM y12 x31.1 y11.toNat (-1000000000000)) : List (List Int)))), (Qmq y13)]) [(0, I p0), (1, .ref 0 5 0 0), (2, .ref 1 1 0 0), (3, .ref 2 1 0 0), (5, I y11), (25, (I ((p1.length : Int)))), (26, I y11), (48, (I ((p1.length : Int)))), (49, I 0)] [0, 1, 2, 3, 4, 5, 6] [(Qk9 p1 p2 p3 p4 p5), (Qlb p6), (Qla p7), (Qf7 p8 p0 p10 p1), (Qe6 p9 p0 p11 p1), (.mat 1 (matA Qab (setM y12 x31.1 y11.toNat (-1000000000000) : List (List Int)))), (Qmq y13)] hφ0 (pc rwl (pc (.rn (rqr rfl)) (pc (.rn (rqr rfl)) (pc (.rn (rqr rfl)) (pc rwl (pc rwl (pc rwl (pc rwl (pc rwl pn))))))))) (qc (spb (lc (.rn (.plain _ (nld Qaa _))) (lc rwl (lc rwl (lc rwl (lc (.rn (.plain _ (nld Qac _))) ln)))))) (qc (spb (lc (.rn (Qag rfl)) ln)) (qc (spb (lc (.rn (Qag rfl)) ln)) (qc (Qa6 rfl) (qc (Qa6 rfl) (qc (Qbq Qaa) (qc (Qbq Qda) qn)))))))) ?_
     refine Qbk (τ := Int × (List (List Int)) × (List (List Bool))) (fun n t => Qcj N p0 p1 p2 p3 p4 p5 p6 p7 p8 p9 p10 p11 y11 k21 n t.1 t.2.1 t.2.2 = some r) (fun ⟨y37, y38, y39⟩ => ⟨mk 110 [(0, I p0), (1, .ref 0 5 0 0), (2, .ref 1 1 0 0), (3, .ref 2 1 0 0), (5, I y11), (25, (I ((p1.length : Int)))), (26, I y11), (48, (I ((p1.length : Int)))), (49, I y37)], [(Qk9 p1 p2 p3 p4 p5), (Qlb p6), (Qla p7), (Qf7 p8 p0 p10 p1), (Qe6 p9 p0 p11 p1), (Qkj y38), (Qh5 y39)]⟩) (fun t h => by rw [Qcj] at h; cases h) (fun n43 ih t h => ?_) N (0, setM y12 x31.1 y11.toNat (-1000000000000), y13) h
     obtain ⟨y37, y38, y39⟩ := t
     rw [Qcj] at h
     skip
     refine wx tbk [] trivial ?_
     refine wsq ?_
     rcases bft ((decide (y37 < (p1.length : Int)))) with hc44 | hc44
     ·replace h := Qas hc44 h
      refine wft hc44 (by kernel_rfl) ?_
      refine Qai ?_
      refine thn ?_
      refine wsq ?_
      refine Qaf ?_
      refine wx tbk [] trivial ?_
      obtain ⟨x46, hf45, h⟩ := bno h
      refine wx tbk [(4, rp [fu 70, (.tmp 53, (.agg [(Qun p1), I p2, I p3, I p4, (z62_3 p5)])), (.tmp 54, I p0), (.tmp 55, I y11), (.tmp 56, I y37)] (.tup [I x46.1, B x46.2]))] ⟨apc (first := []) (cap := []) (vs := [(.agg [(Qun p1), I p2, I p3, I p4, (z62_3 p5)]), I p0, I y11, I y37]) rfl Qsd (Qgh N (⟨p1, p2, p3, p4, p5⟩ : GJob) p0 y11 y37 _ hf45) rfl rfl (nlc (NLt.agg _ (nlc (nld Qaa _) (nlc nll (nlc nll (nlc nll (nlc (nld Qac _) nl0)))))) (nlc nll (nlc nll (nlc nll nl0)))) (NLt.tup _ (nlc nll (nlc nll nl0))) rfl, trivial⟩ ?_
      refine wx tbk [] trivial ?_
      rcases bft (x46.2) with hc47 | hc47
      ·replace h := Qas hc47 h
       refine wft hc47 (by kernel_rfl) ?_
       obtain ⟨hi48, h⟩ := cko h
       obtain ⟨hi48a, hi48b⟩ := Qa0 hi48
       obtain ⟨x49, hg50, h⟩ := bno h
       obtain ⟨hi51, h⟩ := cko h
       obtain ⟨hi51a, hi51b⟩ := Qa0 hi51
       obtain ⟨x52, hg53, h⟩ := bno h
       obtain ⟨hz55, h⟩ := cko h
       obtain ⟨hi54, h⟩ := cko h
       obtain ⟨hi54a, hi54b⟩ := Qa0 hi54
       obtain ⟨x56, hg57, h⟩ := bno h
       obtain ⟨hi58, h⟩ := cko h
       obtain ⟨hi58a, hi58b⟩ := Qa0 hi58
       obtain ⟨x59, hg60, h⟩ := bno h
       obtain ⟨hz62, h⟩ := cko h
       obtain ⟨hi61, h⟩ := cko h
       obtain ⟨hi61a, hi61b⟩ := Qa0 hi61
       obtain ⟨x63, hg64, h⟩ := bno h
       obtain ⟨x65, hl66, h⟩ := bno h
       obtain ⟨hz68, h⟩ := cko h
       obtain ⟨hi67, h⟩ := cko h
       obtain ⟨hi67a, hi67b⟩ := Qa0 hi67
       obtain ⟨x69, hg70, h⟩ := bno h
       refine wxd tbk [(2, rb [(.tmp 61, (.own 3 1 (0) (p6))), (.tmp 62, I p0)] [(3, (Qf7 p8 p0 p10 p1))] (.ref 3 1 (p0.toNat) 0)), (3, rb [(.tmp 63, (.ref 3 1 (p0.toNat) 0))] [(3, (Qf7 p8 p0 p10 p1))] (.row 5 x49.1 1 (0) (x49.2))), (7, rb [(.tmp 66, (.own 3 1 (0) (p6))), (.tmp 67, I p0)] [(3, (Qf7 p8 p0 p10 p1))] (.ref 3 1 (p0.toNat) 0)), (8, rb [(.tmp 68, (.ref 3 1 (p0.toNat) 0))] [(3, (Qf7 p8 p0 p10 p1))] (.row 5 x52.1 1 (0) (x52.2))), (10, rb [(.tmp 69, (.row 5 x52.1 1 (0) (x52.2))), (.tmp 70, I y11)] [(5, (Qkj y38))] (.rowp 5 x52.1 1 (y11.toNat) 0)), (11, rb [(.tmp 71, (.rowp 5 x52.1 1 (y11.toNat) 0))] [(5, (Qkj y38))] (I x56)), (16, rb [(.tmp 74, (.own 3 1 (0) (p6))), (.tmp 76, (I (w64 (p0 + 1))))] [(3, (Qf7 p8 p0 p10 p1))] (.ref 3 1 ((w64 (p0 + 1)).toNat) 0)), (17, rb [(.tmp 77, (.ref 3 1 ((w64 (p0 + 1)).toNat) 0))] [(3, (Qf7 p8 p0 p10 p1))] (.row 5 x59.1 1 (0) (x59.2))), (19, rb [(.tmp 78, (.row 5 x59.1 1 (0) (x59.2))), (.tmp 79, I y37)] [(5, (Qkj y38))] (.rowp 5 x59.1 1 (y37.toNat) 0)), (20, rb [(.tmp 80, (.rowp 5 x59.1 1 (y37.toNat) 0))] [(5, (Qkj y38))] (I x63)), (22, rp [(.tmp 72, I x56), (.tmp 82, (I (w64 (x46.1 + x63))))] (I x65)), (23, rb [(.tmp 64, (.row 5 x49.1 1 (0) (x49.2))), (.tmp 65, I y11)] [(5, (Qkj y38))] (.rowp 5 x49.1 1 (y11.toNat) 0)), (24, ⟨[(.tmp 84, (.rowp 5 x49.1 1 (y11.toNat) 0)), (.tmp 83, I x65)], [(5, (Qkj y38))], .any, [(5, (.mat 1 (matA Qab (setM y38 x49.1 y11.toNat x65 : List (List Int)))))], false⟩)] ⟨aio rfl Try.underlying42 ti37 (odt hi48a) (odt hi48b) (Nat.zero_add _), ald rfl ti37 (by decide) (mgt (c_mr 5 1) hg50) (nle rfl) rfl, aio rfl Try.underlying42 ti37 (odt hi51a) (odt hi51b) (Nat.zero_add _), ald rfl ti37 (by decide) (mgt (c_mr 5 1) hg53) (nle rfl) rfl, Qcc rfl Try.underlying37 ti3 (odt hi54a) (odt hi54b) hz55 (Nat.zero_add _), Qd9 rfl ti3 (by decide) hg57 (nle rfl) rfl, aio rfl Try.underlying42 ti37 (odt hi58a) (odt hi58b) (Nat.zero_add _), ald rfl ti37 (by decide) (mgt (c_mr 5 1) hg60) (nle rfl) rfl, Qcc rfl Try.underlying37 ti3 (odt hi61a) (odt hi61b) hz62 (Nat.zero_add _), Qd9 rfl ti3 (by decide) hg64 (nle rfl) rfl, Qfo hl66 (Qnn rfl), Qcc rfl Try.underlying37 ti3 (odt hi67a) (odt hi67b) hz68 (Nat.zero_add _), Qf0 (u' := x65) rfl ti3 (by rfl) hg70 (nle rfl) rfl, trivial⟩ ?_
       obtain ⟨hi71, h⟩ := cko h
       obtain ⟨hi71a, hi71b⟩ := Qa0 hi71
       obtain ⟨x72, hg73, h⟩ := bno h
       obtain ⟨hi74, h⟩ := cko h
       obtain ⟨hi74a, hi74b⟩ := Qa0 hi74
       obtain ⟨x75, hg76, h⟩ := bno h
       obtain ⟨hz78, h⟩ := cko h
       obtain ⟨hi77, h⟩ := cko h
       obtain ⟨hi77a, hi77b⟩ := Qa0 hi77
       obtain ⟨x79, hg80, h⟩ := bno h
       rcases bft (x79) with hb81 | hb81
       ·replace h := Qas hb81 h
        obtain ⟨hz83, h⟩ := cko h
        obtain ⟨hi82, h⟩ := cko h
        obtain ⟨hi82a, hi82b⟩ := Qa0 hi82
        obtain ⟨x84, hg85, h⟩ := bno h
        refine wy1 tbk [(2, rb [(.tmp 85, (.own 4 1 (0) (p7))), (.tmp 86, I p0)] [(4, (Qe6 p9 p0 p11 p1))] (.ref 4 1 (p0.toNat) 0)), (3, rb [(.tmp 87, (.ref 4 1 (p0.toNat) 0))] [(4, (Qe6 p9 p0 p11 p1))] (.row 6 x72.1 1 (0) (x72.2))), (7, rb [(.tmp 90, (.own 4 1 (0) (p7))), (.tmp 91, I p0)] [(4, (Qe6 p9 p0 p11 p1))] (.ref 4 1 (p0.toNat) 0)), (8, rb [(.tmp 92, (.ref 4 1 (p0.toNat) 0))] [(4, (Qe6 p9 p0 p11 p1))] (.row 6 x75.1 1 (0) (x75.2))), (10, rb [(.tmp 93, (.row 6 x75.1 1 (0) (x75.2))), (.tmp 94, I y11)] [(6, (Qh5 y39))] (.rowp 6 x75.1 1 (y11.toNat) 0)), (11, rb [(.tmp 95, (.rowp 6 x75.1 1 (y11.toNat) 0))] [(6, (Qh5 y39))] (B x79)), (12, rp [(.tmp 96, B x79)] (B true)), (22, rb [(.tmp 88, (.row 6 x72.1 1 (0) (x72.2))), (.tmp 89, I y11)] [(6, (Qh5 y39))] (.rowp 6 x72.1 1 (y11.toNat) 0)), (23, ⟨[(.tmp 107, (.rowp 6 x72.1 1 (y11.toNat) 0)), (.tmp 106, B true)], [(6, (Qh5 y39))], .any, [(6, (.mat 1 (matA Qf9 (setM y39 x72.1 y11.toNat true : List (List Bool)))))], false⟩)] ⟨aio rfl Try.underlying120 Qj0 (odt hi71a) (odt hi71b) (Nat.zero_add _), ald rfl Qj0 (by decide) (mgt (c_mr 6 1) hg73) (nle rfl) rfl, aio rfl Try.underlying120 Qj0 (odt hi74a) (odt hi74b) (Nat.zero_add _), ald rfl Qj0 (by decide) (mgt (c_mr 6 1) hg76) (nle rfl) rfl, Qcc rfl Try.underlying121 ti4 (odt hi77a) (odt hi77b) hz78 (Nat.zero_add _), Qd9 rfl ti4 (by decide) hg80 (nle rfl) rfl, asb hb81 (amv rfl), Qcc rfl Try.underlying121 ti4 (odt hi82a) (odt hi82b) hz83 (Nat.zero_add _), Qf0 (u' := true) rfl ti4 (by rfl) hg85 (nle rfl) rfl, trivial⟩ ?_
        refine bln ?_
        refine thn ?_
        refine wx1 tbk [] trivial ?_
        refine thn ?_
        exact arm (mto (n := 110) [(0, I p0), (1, .ref 0 5 0 0), (2, .ref 1 1 0 0), (3, .ref 2 1 0 0), (5, I y11), (25, (I ((p1.length : Int)))), (26, I y11), (48, (I ((p1.length : Int)))), (49, (I (w64 (y37 + 1))))] [0, 1, 2, 3, 4, 5, 6] [(Qk9 p1 p2 p3 p4 p5), (Qlb p6), (Qla p7), (Qf7 p8 p0 p10 p1), (Qe6 p9 p0 p11 p1), (.mat 1 (matA Qab (setM y38 x49.1 y11.toNat x65 : List (List Int)))), (.mat 1 (matA Qf9 (setM y39 x72.1 y11.toNat true : List (List Bool))))] hφ0 (pc rwl (pc (.rn (rqr rfl)) (pc (.rn (rqr rfl)) (pc (.rn (rqr rfl)) (pc rwl (pc rwl (pc rwl (pc rwl (pc rwl pn))))))))) (qc (spb (lc (.rn (.plain _ (nld Qaa _))) (lc rwl (lc rwl (lc rwl (lc (.rn (.plain _ (nld Qac _))) ln)))))) (qc (spb (lc (.rn (Qag rfl)) ln)) (qc (spb (lc (.rn (Qag rfl)) ln)) (qc (Qa6 rfl) (qc (Qa6 rfl) (qc (Qbq Qaa) (qc (Qbq Qda) qn)))))))) (ih (w64 (y37 + 1), setM y38 x49.1 y11.toNat x65, setM y39 x72.1 y11.toNat true) h)
       ·replace h := Qat hb81 h
        obtain ⟨hi86, h⟩ := cko h
        obtain ⟨hi86a, hi86b⟩ := Qa0 hi86
        obtain ⟨x87, hg88, h⟩ := bno h
        obtain ⟨hz90, h⟩ := cko h
        obtain ⟨hi89, h⟩ := cko h
        obtain ⟨hi89a, hi89b⟩ := Qa0 hi89
        obtain ⟨x91, hg92, h⟩ := bno h
        obtain ⟨hz94, h⟩ := cko h
        obtain ⟨hi93, h⟩ := cko h
        obtain ⟨hi93a, hi93b⟩ := Qa0 hi93
        obtain ⟨x95, hg96, h⟩ := bno h
        refine wy1 tbk [(2, rb [(.tmp 85, (.own 4 1 (0) (p7))), (.tmp 86, I p0)] [(4, (Qe6 p9 p0 p11 p1))] (.ref 4 1 (p0.toNat) 0)), (3, rb [(.tmp 87, (.ref 4 1 (p0.toNat) 0))] [(4, (Qe6 p9 p0 p11 p1))] (.row 6 x72.1 1 (0) (x72.2))), (7, rb [(.tmp 90, (.own 4 1 (0) (p7))), (.tmp 91, I p0)] [(4, (Qe6 p9 p0 p11 p1))] (.ref 4 1 (p0.toNat) 0)), (8, rb [(.tmp 92, (.ref 4 1 (p0.toNat) 0))] [(4, (Qe6 p9 p0 p11 p1))] (.row 6 x75.1 1 (0) (x75.2))), (10, rb [(.tmp 93, (.row 6 x75.1 1 (0) (x75.2))), (.tmp 94, I y11)] [(6, (Qh5 y39))] (.rowp 6 x75.1 1 (y11.toNat) 0)), (11, rb [(.tmp 95, (.rowp 6 x75.1 1 (y11.toNat) 0))] [(6, (Qh5 y39))] (B x79)), (12, rp [(.tmp 96, B x79)] (B false)), (16, rb [(.tmp 97, B false), (.tmp 98, (.own 4 1 (0) (p7))), (.tmp 100, (I (w64 (p0 + 1))))] [(4, (Qe6 p9 p0 p11 p1))] (.ref 4 1 ((w64 (p0 + 1)).toNat) 0)), (17, rb [(.tmp 97, B false), (.tmp 101, (.ref 4 1 ((w64 (p0 + 1)).toNat) 0))] [(4, (Qe6 p9 p0 p11 p1))] (.row 6 x87.1 1 (0) (x87.2))), (19, rb [(.tmp 97, B false), (.tmp 102, (.row 6 x87.1 1 (0) (x87.2))), (.tmp 103, I y37)] [(6, (Qh5 y39))] (.rowp 6 x87.1 1 (y37.toNat) 0)), (20, rb [(.tmp 97, B false), (.tmp 104, (.rowp 6 x87.1 1 (y37.toNat) 0))] [(6, (Qh5 y39))] (B x91)), (22, rb [(.tmp 88, (.row 6 x72.1 1 (0) (x72.2))), (.tmp 89, I y11)] [(6, (Qh5 y39))] (.rowp 6 x72.1 1 (y11.toNat) 0)), (23, ⟨[(.tmp 107, (.rowp 6 x72.1 1 (y11.toNat) 0)), (.tmp 106, B x91)], [(6, (Qh5 y39))], .any, [(6, (.mat 1 (matA Qf9 (setM y39 x72.1 y11.toNat x91 : List (List Bool)))))], false⟩)] ⟨aio rfl Try.underlying120 Qj0 (odt hi71a) (odt hi71b) (Nat.zero_add _), ald rfl Qj0 (by decide) (mgt (c_mr 6 1) hg73) (nle rfl) rfl, aio rfl Try.underlying120 Qj0 (odt hi74a) (odt hi74b) (Nat.zero_add _), ald rfl Qj0 (by decide) (mgt (c_mr 6 1) hg76) (nle rfl) rfl, Qcc rfl Try.underlying121 ti4 (odt hi77a) (odt hi77b) hz78 (Nat.zero_add _), Qd9 rfl ti4 (by decide) hg80 (nle rfl) rfl, asb hb81 (amv rfl), ag_ (aio rfl Try.underlying120 Qj0 (odt hi86a) (odt hi86b) (Nat.zero_add _)), ag_ (ald rfl Qj0 (by decide) (mgt (c_mr 6 1) hg88) (nle rfl) rfl), ag_ (Qcc rfl Try.underlying121 ti4 (odt hi89a) (odt hi89b) hz90 (Nat.zero_add _)), ag_ (Qd9 rfl ti4 (by decide) hg92 (nle rfl) rfl), Qcc rfl Try.underlying121 ti4 (odt hi93a) (odt hi93b) hz94 (Nat.zero_add _), Qf0 (u' := x91) rfl ti4 (by rfl) hg96 (nle rfl) rfl, trivial⟩ ?_
        refine bln ?_
        refine thn ?_
        refine wx1 tbk [] trivial ?_
        refine thn ?_
        exact arm (mto (n := 110) [(0, I p0), (1, .ref 0 5 0 0), (2, .ref 1 1 0 0), (3, .ref 2 1 0 0), (5, I y11), (25, (I ((p1.length : Int)))), (26, I y11), (48, (I ((p1.length : Int)))), (49, (I (w64 (y37 + 1))))] [0, 1, 2, 3, 4, 5, 6] [(Qk9 p1 p2 p3 p4 p5), (Qlb p6), (Qla p7), (Qf7 p8 p0 p10 p1), (Qe6 p9 p0 p11 p1), (.mat 1 (matA Qab (setM y38 x49.1 y11.toNat x65 : List (List Int)))), (.mat 1 (matA Qf9 (setM y39 x72.1 y11.toNat x91 : List (List Bool))))] hφ0 (pc rwl (pc (.rn (rqr rfl)) (pc (.rn (rqr rfl)) (pc (.rn (rqr rfl)) (pc rwl (pc rwl (pc rwl (pc rwl (pc rwl pn))))))))) (qc (spb (lc (.rn (.plain _ (nld Qaa _))) (lc rwl (lc rwl (lc rwl (lc (.rn (.plain _ (nld Qac _))) ln)))))) (qc (spb (lc (.rn (Qag rfl)) ln)) (qc (spb (lc (.rn (Qag rfl)) ln)) (qc (Qa6 rfl) (qc (Qa6 rfl) (qc (Qbq Qaa) (qc (Qbq Qda) qn)))))))) (ih (w64 (y37 + 1), setM y38 x49.1 y11.toNat x65, setM y39 x72.1 y11.toNat x91) h)
      ·replace h := Qat hc47 h
       refine wfn hc47 (by kernel_rfl) ?_
       refine Qai ?_
       refine bln ?_
       refine thn ?_
       refine wx1 tbk [] trivial ?_
       refine thn ?_
       exact arm (mto (n := 110) [(0, I p0), (1, .ref 0 5 0 0), (2, .ref 1 1 0 0), (3, .ref 2 1 0 0), (5, I y11), (25, (I ((p1.length : Int)))), (26, I y11), (48, (I ((p1.length : Int)))), (49, (I (w64 (y37 + 1))))] [0, 1, 2, 3, 4, 5, 6] [(Qk9 p1 p2 p3 p4 p5), (Qlb p6), (Qla p7), (Qf7 p8 p0 p10 p1), (Qe6 p9 p0 p11 p1), (Qkj y38), (Qh5 y39)] hφ0 (pc rwl (pc (.rn (rqr rfl)) (pc (.rn (rqr rfl)) (pc (.rn (rqr rfl)) (pc rwl (pc rwl (pc rwl (pc rwl (pc rwl pn))))))))) (qc (spb (lc (.rn (.plain _ (nld Qaa _))) (lc rwl (lc rwl (lc rwl (lc (.rn (.plain _ (nld Qac _))) ln)))))) (qc (spb (lc (.rn (Qag rfl)) ln)) (qc (spb (lc (.rn (Qag rfl)) ln)) (qc (Qa6 rfl) (qc (Qa6 rfl) (qc (Qbq Qaa) (qc (Qbq Qda) qn)))))))) (ih (w64 (y37 + 1), y38, y39) h)
     ·replace h := Qat hc44 h
      refine wfn hc44 (by kernel_rfl) ?_
      refine Qa2 ?_
      refine Qaq ?_
      refine Qaq ?_
      refine Qa1 rfl ?_
      refine bln ?_
      refine thn ?_
      exact ⟨(y38, y39), h, (mto (n := 110) [(0, I p0), (1, .ref 0 5 0 0), (2, .ref 1 1 0 0), (3, .ref 2 1 0 0), (25, (I ((p1.length : Int)))), (26, I y11)] [0, 1, 2, 3, 4, 5, 6] [(Qk9 p1 p2 p3 p4 p5), (Qlb p6), (Qla p7), (Qf7 p8 p0 p10 p1), (Qe6 p9 p0 p11 p1), (Qkj y38), (Qh5 y39)] hφ0 (pc rwl (pc (.rn (rqr rfl)) (pc (.rn (rqr rfl)) (pc (.rn (rqr rfl)) (pc rwl (pc rwl pn)))))) (qc (spb (lc (.rn (.plain _ (nld Qaa _))) (lc rwl (lc rwl (lc rwl (lc (.rn (.plain _ (nld Qac _))) ln)))))) (qc (spb (lc (.rn (Qag rfl)) ln)) (qc (spb (lc (.rn (Qag rfl)) ln)) (qc (Qa6 rfl) (qc (Qa6 rfl) (qc (Qbq Qaa) (qc (Qbq Qda) qn))))))))⟩
  ·replace h := Qat hc18 h
   refine wfn hc18 (by kernel_rfl) ?_
   refine Qa2 ?_
   refine Qaq ?_
   refine Qaq ?_
   refine Qa1 rfl ?_
   obtain rfl := osi h
   exact ⟨_, (mto (n := 110) (l' := []) (own' := [(Qk9 p1 p2 p3 p4 p5), (Qlb p6), (Qla p7), (Qf7 p8 p0 p10 p1), (Qe6 p9 p0 p11 p1), (Qns y12), (Qmq y13)]) [] [0, 1, 2, 3, 4, 5, 6] [(Qk9 p1 p2 p3 p4 p5), (Qlb p6), (Qla p7), (Qf7 p8 p0 p10 p1), (Qe6 p9 p0 p11 p1), (Qns y12), (Qmq y13)] hφ0 pn (qc (spb (lc (.rn (.plain _ (nld Qaa _))) (lc rwl (lc rwl (lc rwl (lc (.rn (.plain _ (nld Qac _))) ln)))))) (qc (spb (lc (.rn (Qag rfl)) ln)) (qc (spb (lc (.rn (Qag rfl)) ln)) (qc (Qa6 rfl) (qc (Qa6 rfl) (qc (Qbq Qaa) (qc (Qbq Qda) qn)))))))), Qb9 (vs := []) trivial rfl (NLt.tup _ nl0) (by kernel_rfl) (Qak (Qaw (nlc (NLt.of0 (nld Qaa _)) (nlc (NLt.of0 nll) (nlc (NLt.of0 nll) (nlc (NLt.of0 nll) (nlc (NLt.of0 (nld Qac _)) nl0)))))) (Qak (Qaw (nlc (NLt.own _ _ _ _ (by decide)) nl0)) (Qak (Qaw (nlc (NLt.own _ _ _ _ (by decide)) nl0)) (Qak (Qgq rfl) (Qak (Qgq rfl) (Qak (Qh9 Qaa _) (Qak (Qh9 Qda _) Qbi)))))))⟩
def Qe1 (N : Nat) (p0 : GJob) (k2 : (List Int) → Option (List Int)) : Nat → (List Int) → Int → Option (List Int)
  | 0, _, _ => none
  | n7 + 1, y3, y4 =>
    bif (decide (y4 < (p0.Levels.length : Int))) then
     chk (decide ((y3.length + ([y4]).length) * 8 ≤ 140737488355328)) <|
     Qe1 N p0 k2 n7 (y3 ++ ([y4])) (w64 (y4 + 1))
    else
     k2 (y3)
def Qkr (N : Nat) (p0 : GJob) : Option (List Int) :=
  Qb0 (fun y1 =>
    some y1) fun k2 : (List Int) → Option (List Int) =>
  Qe1 N p0 k2 N ([]) 0
def z64_0 (p0 : GJob) : AV := .dat 1 ((p0.Levels : List Int).map Qab)
def Qy6 (y3 : (List Int)) : AV := .acc 0 3 1 ((y3 : List Int).map Qab)
set_option maxRecDepth 100000 in
set_option maxHeartbeats 4000000 in
theorem Qox (N : Nat) (p0 : GJob) (r : (List Int)) (h : Qkr N p0 = some r) : Spec Try.prog 72 [(.agg (Qhk p0))] [] (.dat 1 (r.map Qab)) [] := by
  refine Qae Try.func72 rfl 0 (nle rfl) (fun X φ0 w0 hφ0 => ?_)
  unfold Qkr at h
  refine wx tbk [] trivial ?_
  obtain ⟨k2, hk_k2, h⟩ := jko h
  refine wjn (τ := (List Int)) (fun t => k2 t = some r) (fun y1 => ⟨mk 16 [(2, (.acc 0 3 1 ((y1 : List Int).map Qab)))], [.tok]⟩) (fun y1 h => ?_) ?_
  ·subst hk_k2
   refine wx tbk [] trivial ?_
   refine Qad ?_
   obtain rfl := osi h
   exact fend ⟨[(.dat 1 ((y1 : List Int).map Qab))], ⟨Qga (v := (.acc 0 3 1 ((y1 : List Int).map Qab))) (rot (by kernel_rfl)) Less.acc, trivial⟩, rfl⟩ (nld Qaa _)
  ·skip
   refine wx tbk [(2, rp [(.tmp 5, (z64_0 p0))] (I ((p0.Levels.length : Int))))] ⟨alm (c := Qab) (l := p0.Levels) (aln rfl Try.underlying37 rfl), trivial⟩ ?_
   refine Qaf ?_
   refine wmr (Mor.trans (Qr1 1 3 1 2 (by kernel_rfl) (by kernel_rfl)) (mto (n := 16) (l' := [(2, (.acc 0 3 1 ((([]) : List Int).map Qab))), (6, (I ((p0.Levels.length : Int)))), (7, I 0)]) (own' := [.tok]) [(2, (.acc 1 3 1 (([] : List Int).map Qab))), (6, (I ((p0.Levels.length : Int)))), (7, I 0)] [1] [.tok] hφ0 (pc (.rn (Qg9 rfl (Qfm Qaa _))) (pc rwl (pc rwl pn))) (qc .tok qn))) ?_
   refine Qbk (τ := (List Int) × Int) (fun n t => Qe1 N p0 k2 n t.1 t.2 = some r) (fun ⟨y3, y4⟩ => ⟨mk 16 [(2, (Qy6 y3)), (6, (I ((p0.Levels.length : Int)))), (7, I y4)], [.tok]⟩) (fun t h => by rw [Qe1] at h; cases h) (fun n7 ih t h => ?_) N ([], 0) h
   obtain ⟨y3, y4⟩ := t
   rw [Qe1] at h
   skip
   refine wx tbk [] trivial ?_
   refine wsq ?_
   rcases bft ((decide (y4 < (p0.Levels.length : Int)))) with hc8 | hc8
   ·replace h := Qas hc8 h
    refine wft hc8 (by kernel_rfl) ?_
    refine Qai ?_
    refine thn ?_
    refine wsq ?_
    refine Qaf ?_
    refine wx tbk [] trivial ?_
    obtain ⟨ha9, h⟩ := cko h
    refine wx1 tbk [(2, rp [(.tmp 11, I y4)] (.dat 1 (([y4] : List Int).map Qab))), (3, ⟨[(.tmp 10, (Qy6 y3)), (.tmp 12, (.dat 1 (([y4] : List Int).map Qab)))], [(0, .tok), (1, .unused)], (.acc 1 3 1 ((y3 ++ ([y4]) : List Int).map Qab)), [(0, .dead), (1, .tok)], false⟩)] ⟨Qct (vs := [I y4]) rfl Try.underlying37 ti3 tz3 rfl (by decide) rfl (by decide) (by rfl) (by rfl) (by rfl) rfl, Qg4 rfl Try.underlying37 te3 (Base.acc _ _) rfl rfl (by rfl) (Qoj Qab ha9) (Qoi Qab ha9 (by decide)) (Qoh Qab) rfl rfl, trivial⟩ ?_
    refine bln ?_
    refine thn ?_
    refine wx1 tbk [] trivial ?_
    refine thn ?_
    exact arm (mto (n := 16) [(2, (.acc 1 3 1 ((y3 ++ ([y4]) : List Int).map Qab))), (6, (I ((p0.Levels.length : Int)))), (7, (I (w64 (y4 + 1))))] [1] [.tok] hφ0 (pc (.rn (Qg9 rfl (Qfm Qaa _))) (pc rwl (pc rwl pn))) (qc .tok qn)) (ih (y3 ++ ([y4]), w64 (y4 + 1)) h)
   ·replace h := Qat hc8 h
    refine wfn hc8 (by kernel_rfl) ?_
    refine Qa2 ?_
    refine Qaq ?_
    refine Qaq ?_
    refine Qa1 rfl ?_
    refine thn ?_
    exact ⟨(y3), h, (mto (n := 16) [(2, (Qy6 y3))] [0] [.tok] hφ0 (pc (.rn (Qg9 rfl (Qfm Qaa _))) pn) (qc .tok qn))⟩
def Qhf (N : Nat) (p0 : Int) (p1 : (List Int)) (p2 : Int) (p3 : Int) (p4 : Int) (p5 : (List GHour)) (p6 : Int) (p7 : Int) (p8 : Nat) (p9 : Nat) (p10 : (List (Nat × Nat))) (p11 : (List (Nat × Nat))) (p12 : (List (List Bool))) (p13 : (List (List Int))) : Option Bool :=
  (Qef N (⟨p1, p2, p3, p4, p5⟩ : GJob) p6 p7 p0).bind fun x3 =>
  bif x3.2 then
   chk (decide (0 ≤ w64 (p6 + 1)) && decide ((w64 (p6 + 1)).toNat < p8)) <|
   (p10[(w64 (p6 + 1)).toNat]?).bind fun x6 =>
   chk (!(p12.getD x6.1 []).isEmpty) <|
   chk (decide (0 ≤ p0) && decide (p0.toNat < x6.2)) <|
   (getM p12 x6.1 p0.toNat).bind fun x10 =>
   bif x10 then
    chk (decide (0 ≤ w64 (p6 + 1)) && decide ((w64 (p6 + 1)).toNat < p9)) <|
    (p11[(w64 (p6 + 1)).toNat]?).bind fun x14 =>
    chk (!(p13.getD x14.1 []).isEmpty) <|
    chk (decide (0 ≤ p0) && decide (p0.toNat < x14.2)) <|
    (getM p13 x14.1 p0.toNat).bind fun x18 =>
    chk (decide (0 ≤ p6) && decide (p6.toNat < p9)) <|
    (p11[p6.toNat]?).bind fun x21 =>
    chk (!(p13.getD x21.1 []).isEmpty) <|
    chk (decide (0 ≤ p7) && decide (p7.toNat < x21.2)) <|
    (getM p13 x21.1 p7.toNat).bind fun x25 =>
    some ((w64 (x3.1 + x18)) == x25)
   else
    some false
  else
   some false
def z66_0 (p1 : (List Int)) : AV := .dat 1 ((p1 : List Int).map Qab)
def z66_1 (p5 : (List GHour)) : AV := .dat 2 ((p5 : List GHour).map Qax)
def Qsx (p1 : (List Int)) (p2 : Int) (p3 : Int) (p4 : Int) (p5 : (List GHour)) : Slot := .own 5 [[(z66_0 p1), (I (p2)), (I (p3)), (I (p4)), (z66_1 p5)]]
def Qsw (p8 : Nat) : Slot := .own 1 [[(.own 5 1 (0) (p8))]]
def Qsv (p9 : Nat) : Slot := .own 1 [[(.own 6 1 (0) (p9))]]
def Qov (p10 : (List (Nat × Nat))) : Slot := .own 1 ((p10 : List (Nat × Nat)).map (c_mr 7 1))
def Qot (p11 : (List (Nat × Nat))) : Slot := .own 1 ((p11 : List (Nat × Nat)).map (c_mr 8 1))
def Qou (p12 : (List (List Bool))) : Slot := .mat 1 (matA Qf9 (p12 : List (List Bool)))
def Qos (p13 : (List (List Int))) : Slot := .mat 1 (matA Qab (p13 : List (List Int)))
set_option maxRecDepth 100000 in
set_option maxHeartbeats 4000000 in
theorem Qk7 (N : Nat) (p0 : Int) (p1 : (List Int)) (p2 : Int) (p3 : Int) (p4 : Int) (p5 : (List GHour)) (p6 : Int) (p7 : Int) (p8 : Nat) (p9 : Nat) (p10 : (List (Nat × Nat))) (p11 : (List (Nat × Nat))) (p12 : (List (List Bool))) (p13 : (List (List Int))) (r : Bool) (h : Qhf N p0 p1 p2 p3 p4 p5 p6 p7 p8 p9 p10 p11 p12 p13 = some r) : Spec Try.prog 73 [(I (p0)), (.ref 0 5 (0) 0), (.ref 1 1 (0) 0), (.ref 2 1 (0) 0), (.ref 3 1 (0) 0), (.ref 4 1 (0) 0)] [(Qsx p1 p2 p3 p4 p5), (.own 1 [[(I (p6))]]), (.own 1 [[(I (p7))]]), (Qsw p8), (Qsv p9), (Qov p10), (Qot p11), (Qou p12), (Qos p13)] (B (r)) [(Qsx p1 p2 p3 p4 p5), (.own 1 [[(I (p6))]]), (.own 1 [[(I (p7))]]), (Qsw p8), (Qsv p9), (Qov p10), (Qot p11), (Qou p12), (Qos p13)] := by
  refine Qae Try.func73 rfl 9 (nle rfl) (fun X φ0 w0 hφ0 => ?_)
  unfold Qhf at h
  refine Qbp ?_
  refine wx tbk [] trivial ?_
  obtain ⟨x3, hf2, h⟩ := bno h
  refine wx tbk [(4, rp [fu 70, (.tmp 11, (.agg [(z66_0 p1), I p2, I p3, I p4, (z66_1 p5)])), (.tmp 12, I p6), (.tmp 13, I p7), (.tmp 14, I p0)] (.tup [I x3.1, B x3.2]))] ⟨apc (first := []) (cap := []) (vs := [(.agg [(z66_0 p1), I p2, I p3, I p4, (z66_1 p5)]), I p6, I p7, I p0]) rfl Qsd (Qgh N (⟨p1, p2, p3, p4, p5⟩ : GJob) p6 p7 p0 _ hf2) rfl rfl (nlc (NLt.agg _ (nlc (nld Qaa _) (nlc nll (nlc nll (nlc nll (nlc (nld Qac _) nl0)))))) (nlc nll (nlc nll (nlc nll nl0)))) (NLt.tup _ (nlc nll (nlc nll nl0))) rfl, trivial⟩ ?_
  rcases bft (x3.2) with hb4 | hb4
  ·replace h := Qas hb4 h
   obtain ⟨hi5, h⟩ := cko h
   obtain ⟨hi5a, hi5b⟩ := Qa0 hi5
   obtain ⟨x6, hg7, h⟩ := bno h
   obtain ⟨hz9, h⟩ := cko h
   obtain ⟨hi8, h⟩ := cko h
   obtain ⟨hi8a, hi8b⟩ := Qa0 hi8
   obtain ⟨x10, hg11, h⟩ := bno h
   rcases bft (x10) with hb12 | hb12
   ·replace h := Qas hb12 h
    obtain ⟨hi13, h⟩ := cko h
    obtain ⟨hi13a, hi13b⟩ := Qa0 hi13
    obtain ⟨x14, hg15, h⟩ := bno h
    obtain ⟨hz17, h⟩ := cko h
    obtain ⟨hi16, h⟩ := cko h
    obtain ⟨hi16a, hi16b⟩ := Qa0 hi16
    obtain ⟨x18, hg19, h⟩ := bno h
    obtain ⟨hi20, h⟩ := cko h
    obtain ⟨hi20a, hi20b⟩ := Qa0 hi20
    obtain ⟨x21, hg22, h⟩ := bno h
    obtain ⟨hz24, h⟩ := cko h
    obtain ⟨hi23, h⟩ := cko h
    obtain ⟨hi23a, hi23b⟩ := Qa0 hi23
    obtain ⟨x25, hg26, h⟩ := bno h
    refine wxd tbk [(1, rp [(.tmp 18, B x3.2)] (B true)), (5, rb [(.tmp 19, B true), (.tmp 20, (.own 5 1 (0) (p8))), (.tmp 22, (I (w64 (p6 + 1))))] [(5, (Qov p10))] (.ref 5 1 ((w64 (p6 + 1)).toNat) 0)), (6, rb [(.tmp 19, B true), (.tmp 23, (.ref 5 1 ((w64 (p6 + 1)).toNat) 0))] [(5, (Qov p10))] (.row 7 x6.1 1 (0) (x6.2))), (8, rb [(.tmp 19, B true), (.tmp 24, (.row 7 x6.1 1 (0) (x6.2))), (.tmp 25, I p0)] [(7, (Qou p12))] (.rowp 7 x6.1 1 (p0.toNat) 0)), (9, rb [(.tmp 19, B true), (.tmp 26, (.rowp 7 x6.1 1 (p0.toNat) 0))] [(7, (Qou p12))] (B x10)), (11, rp [(.tmp 28, B x10)] (B true)), (16, rb [(.tmp 29, B true), (.tmp 31, (.own 6 1 (0) (p9))), (.tmp 33, (I (w64 (p6 + 1))))] [(6, (Qot p11))] (.ref 6 1 ((w64 (p6 + 1)).toNat) 0)), (17, rb [(.tmp 29, B true), (.tmp 34, (.ref 6 1 ((w64 (p6 + 1)).toNat) 0))] [(6, (Qot p11))] (.row 8 x14.1 1 (0) (x14.2))), (19, rb [(.tmp 29, B true), (.tmp 35, (.row 8 x14.1 1 (0) (x14.2))), (.tmp 36, I p0)] [(8, (Qos p13))] (.rowp 8 x14.1 1 (p0.toNat) 0)), (20, rb [(.tmp 29, B true), (.tmp 37, (.rowp 8 x14.1 1 (p0.toNat) 0))] [(8, (Qos p13))] (I x18)), (24, rb [(.tmp 29, B true), (.tmp 40, (.own 6 1 (0) (p9))), (.tmp 41, I p6)] [(6, (Qot p11))] (.ref 6 1 (p6.toNat) 0)), (25, rb [(.tmp 29, B true), (.tmp 42, (.ref 6 1 (p6.toNat) 0))] [(6, (Qot p11))] (.row 8 x21.1 1 (0) (x21.2))), (27, rb [(.tmp 29, B true), (.tmp 43, (.row 8 x21.1 1 (0) (x21.2))), (.tmp 44, I p7)] [(8, (Qos p13))] (.rowp 8 x21.1 1 (p7.toNat) 0)), (28, rb [(.tmp 29, B true), (.tmp 45, (.rowp 8 x21.1 1 (p7.toNat) 0))] [(8, (Qos p13))] (I x25))] ⟨asb hb4 (amv rfl), ag_ (aio rfl Try.underlying120 Qj0 (odt hi5a) (odt hi5b) (Nat.zero_add _)), ag_ (ald rfl Qj0 (by decide) (mgt (c_mr 7 1) hg7) (nle rfl) rfl), ag_ (Qcc rfl Try.underlying121 ti4 (odt hi8a) (odt hi8b) hz9 (Nat.zero_add _)), ag_ (Qd9 rfl ti4 (by decide) hg11 (nle rfl) rfl), asb hb12 (amv rfl), ag_ (aio rfl Try.underlying42 ti37 (odt hi13a) (odt hi13b) (Nat.zero_add _)), ag_ (ald rfl ti37 (by decide) (mgt (c_mr 8 1) hg15) (nle rfl) rfl), ag_ (Qcc rfl Try.underlying37 ti3 (odt hi16a) (odt hi16b) hz17 (Nat.zero_add _)), ag_ (Qd9 rfl ti3 (by decide) hg19 (nle rfl) rfl), ag_ (aio rfl Try.underlying42 ti37 (odt hi20a) (odt hi20b) (Nat.zero_add _)), ag_ (ald rfl ti37 (by decide) (mgt (c_mr 8 1) hg22) (nle rfl) rfl), ag_ (Qcc rfl Try.underlying37 ti3 (odt hi23a) (odt hi23b) hz24 (Nat.zero_add _)), ag_ (Qd9 rfl ti3 (by decide) hg26 (nle rfl) rfl), trivial⟩ ?_
    refine wmr (mto (n := 49) (l' := [(7, (B (((w64 (x3.1 + x18)) == x25))))]) (own' := [(Qsx p1 p2 p3 p4 p5), (.own 1 [[I p6]]), (.own 1 [[I p7]]), (Qsw p8), (Qsv p9), (Qov p10), (Qot p11), (Qou p12), (Qos p13)]) [(7, (B (((w64 (x3.1 + x18)) == x25))))] [0, 1, 2, 3, 4, 5, 6, 7, 8] [(Qsx p1 p2 p3 p4 p5), (.own 1 [[I p6]]), (.own 1 [[I p7]]), (Qsw p8), (Qsv p9), (Qov p10), (Qot p11), (Qou p12), (Qos p13)] hφ0 (pc rwl pn) (qc (spb (lc (.rn (.plain _ (nld Qaa _))) (lc rwl (lc rwl (lc rwl (lc (.rn (.plain _ (nld Qac _))) ln)))))) (qc (spb (lc rwl ln)) (qc (spb (lc rwl ln)) (qc (spb (lc (.rn (Qag rfl)) ln)) (qc (spb (lc (.rn (Qag rfl)) ln)) (qc (Qa6 rfl) (qc (Qa6 rfl) (qc (Qbq Qda) (qc (Qbq Qaa) qn)))))))))) ?_
    refine Qad ?_
    obtain rfl := osi h
    exact ⟨_, Mor.rfl, Qb9 (vs := [(B (((w64 (x3.1 + x18)) == x25)))]) ⟨rot (by kernel_rfl), trivial⟩ rfl (NLt.of0 nll) (by kernel_rfl) (Qak (Qaw (nlc (NLt.of0 (nld Qaa _)) (nlc (NLt.of0 nll) (nlc (NLt.of0 nll) (nlc (NLt.of0 nll) (nlc (NLt.of0 (nld Qac _)) nl0)))))) (Qak (Qaw (nlc (NLt.of0 nll) nl0)) (Qak (Qaw (nlc (NLt.of0 nll) nl0)) (Qak (Qaw (nlc (NLt.own _ _ _ _ (by decide)) nl0)) (Qak (Qaw (nlc (NLt.own _ _ _ _ (by decide)) nl0)) (Qak (Qgq rfl) (Qak (Qgq rfl) (Qak (Qh9 Qda _) (Qak (Qh9 Qaa _) Qbi)))))))))⟩
   ·replace h := Qat hb12 h
    refine wxd tbk [(1, rp [(.tmp 18, B x3.2)] (B true)), (5, rb [(.tmp 19, B true), (.tmp 20, (.own 5 1 (0) (p8))), (.tmp 22, (I (w64 (p6 + 1))))] [(5, (Qov p10))] (.ref 5 1 ((w64 (p6 + 1)).toNat) 0)), (6, rb [(.tmp 19, B true), (.tmp 23, (.ref 5 1 ((w64 (p6 + 1)).toNat) 0))] [(5, (Qov p10))] (.row 7 x6.1 1 (0) (x6.2))), (8, rb [(.tmp 19, B true), (.tmp 24, (.row 7 x6.1 1 (0) (x6.2))), (.tmp 25, I p0)] [(7, (Qou p12))] (.rowp 7 x6.1 1 (p0.toNat) 0)), (9, rb [(.tmp 19, B true), (.tmp 26, (.rowp 7 x6.1 1 (p0.toNat) 0))] [(7, (Qou p12))] (B x10)), (11, rp [(.tmp 28, B x10)] (B false))] ⟨asb hb4 (amv rfl), ag_ (aio rfl Try.underlying120 Qj0 (odt hi5a) (odt hi5b) (Nat.zero_add _)), ag_ (ald rfl Qj0 (by decide) (mgt (c_mr 7 1) hg7) (nle rfl) rfl), ag_ (Qcc rfl Try.underlying121 ti4 (odt hi8a) (odt hi8b) hz9 (Nat.zero_add _)), ag_ (Qd9 rfl ti4 (by decide) hg11 (nle rfl) rfl), asb hb12 (amv rfl), trivial⟩ ?_
    refine wmr (mto (n := 49) (l' := [(7, B false)]) (own' := [(Qsx p1 p2 p3 p4 p5), (.own 1 [[I p6]]), (.own 1 [[I p7]]), (Qsw p8), (Qsv p9), (Qov p10), (Qot p11), (Qou p12), (Qos p13)]) [(7, B false)] [0, 1, 2, 3, 4, 5, 6, 7, 8] [(Qsx p1 p2 p3 p4 p5), (.own 1 [[I p6]]), (.own 1 [[I p7]]), (Qsw p8), (Qsv p9), (Qov p10), (Qot p11), (Qou p12), (Qos p13)] hφ0 (pc rwl pn) (qc (spb (lc (.rn (.plain _ (nld Qaa _))) (lc rwl (lc rwl (lc rwl (lc (.rn (.plain _ (nld Qac _))) ln)))))) (qc (spb (lc rwl ln)) (qc (spb (lc rwl ln)) (qc (spb (lc (.rn (Qag rfl)) ln)) (qc (spb (lc (.rn (Qag rfl)) ln)) (qc (Qa6 rfl) (qc (Qa6 rfl) (qc (Qbq Qda) (qc (Qbq Qaa) qn)))))))))) ?_
    refine Qad ?_
    obtain rfl := osi h
    exact ⟨_, Mor.rfl, Qb9 (vs := [B false]) ⟨rot (by kernel_rfl), trivial⟩ rfl (NLt.of0 nll) (by kernel_rfl) (Qak (Qaw (nlc (NLt.of0 (nld Qaa _)) (nlc (NLt.of0 nll) (nlc (NLt.of0 nll) (nlc (NLt.of0 nll) (nlc (NLt.of0 (nld Qac _)) nl0)))))) (Qak (Qaw (nlc (NLt.of0 nll) nl0)) (Qak (Qaw (nlc (NLt.of0 nll) nl0)) (Qak (Qaw (nlc (NLt.own _ _ _ _ (by decide)) nl0)) (Qak (Qaw (nlc (NLt.own _ _ _ _ (by decide)) nl0)) (Qak (Qgq rfl) (Qak (Qgq rfl) (Qak (Qh9 Qda _) (Qak (Qh9 Qaa _) Qbi)))))))))⟩
  ·replace h := Qat hb4 h
   refine wxd tbk [(1, rp [(.tmp 18, B x3.2)] (B false))] ⟨asb hb4 (amv rfl), trivial⟩ ?_
   refine wmr (mto (n := 49) (l' := [(7, B false)]) (own' := [(Qsx p1 p2 p3 p4 p5), (.own 1 [[I p6]]), (.own 1 [[I p7]]), (Qsw p8), (Qsv p9), (Qov p10), (Qot p11), (Qou p12), (Qos p13)]) [(7, B false)] [0, 1, 2, 3, 4, 5, 6, 7, 8] [(Qsx p1 p2 p3 p4 p5), (.own 1 [[I p6]]), (.own 1 [[I p7]]), (Qsw p8), (Qsv p9), (Qov p10), (Qot p11), (Qou p12), (Qos p13)] hφ0 (pc rwl pn) (qc (spb (lc (.rn (.plain _ (nld Qaa _))) (lc rwl (lc rwl (lc rwl (lc (.rn (.plain _ (nld Qac _))) ln)))))) (qc (spb (lc rwl ln)) (qc (spb (lc rwl ln)) (qc (spb (lc (.rn (Qag rfl)) ln)) (qc (spb (lc (.rn (Qag rfl)) ln)) (qc (Qa6 rfl) (qc (Qa6 rfl) (qc (Qbq Qda) (qc (Qbq Qaa) qn)))))))))) ?_
   refine Qad ?_
   obtain rfl := osi h
   exact ⟨_, Mor.rfl, Qb9 (vs := [B false]) ⟨rot (by kernel_rfl), trivial⟩ rfl (NLt.of0 nll) (by kernel_rfl) (Qak (Qaw (nlc (NLt.of0 (nld Qaa _)) (nlc (NLt.of0 nll) (nlc (NLt.of0 nll) (nlc (NLt.of0 nll) (nlc (NLt.of0 (nld Qac _)) nl0)))))) (Qak (Qaw (nlc (NLt.of0 nll) nl0)) (Qak (Qaw (nlc (NLt.of0 nll) nl0)) (Qak (Qaw (nlc (NLt.own _ _ _ _ (by decide)) nl0)) (Qak (Qaw (nlc (NLt.own _ _ _ _ (by decide)) nl0)) (Qak (Qgq rfl) (Qak (Qgq rfl) (Qak (Qh9 Qda _) (Qak (Qh9 Qaa _) Qbi)))))))))⟩
def Qcf (N : Nat) (p0 : (List Int)) (p1 : (List Int)) (k2 : Unit → Option Int) (p2 : Int) (p3 : Int) (p4 : Int) (p5 : (List GHour)) (p6 : Int) (p7 : Int) (p8 : Nat) (p9 : Nat) (p10 : (List (Nat × Nat))) (p11 : (List (Nat × Nat))) (p12 : (List (List Bool))) (p13 : (List (List Int))) : Nat → Int → Option Int
  | 0, _ => none
  | n5 + 1, y3 =>
    bif (decide (y3 < (p0.length : Int))) then
     (getI p0 y3).bind fun x7 =>
     (Qhf N x7 p1 p2 p3 p4 p5 p6 p7 p8 p9 p10 p11 p12 p13).bind fun x12 =>
     bif x12 then
      some y3
     else
      Qcf N p0 p1 k2 p2 p3 p4 p5 p6 p7 p8 p9 p10 p11 p12 p13 n5 (w64 (y3 + 1))
    else
     k2 ()
def Qew (N : Nat) (p0 : (List Int)) (p1 : (List Int)) (p2 : Int) (p3 : Int) (p4 : Int) (p5 : (List GHour)) (p6 : Int) (p7 : Int) (p8 : Nat) (p9 : Nat) (p10 : (List (Nat × Nat))) (p11 : (List (Nat × Nat))) (p12 : (List (List Bool))) (p13 : (List (List Int))) : Option Int :=
  Qb0 (fun _ =>
    some (-1)) fun k2 : Unit → Option Int =>
  Qcf N p0 p1 k2 p2 p3 p4 p5 p6 p7 p8 p9 p10 p11 p12 p13 N 0
def Qum (p0 : (List Int)) : AV := .dat 1 ((p0 : List Int).map Qab)
def Qxu : AV := .fn (.func 73) [] [(.ref 0 5 (0) 0), (.ref 1 1 (0) 0), (.ref 2 1 (0) 0), (.ref 3 1 (0) 0), (.ref 4 1 (0) 0)]
def Qme (p1 : (List Int)) (p2 : Int) (p3 : Int) (p4 : Int) (p5 : (List GHour)) : Slot := .own 5 [[(.dat 1 ((p1 : List Int).map Qab)), (I (p2)), (I (p3)), (I (p4)), (.dat 2 ((p5 : List GHour).map Qax))]]
def Qmd (p8 : Nat) : Slot := .own 1 [[(.own 5 1 (0) (p8))]]
def Qmc (p9 : Nat) : Slot := .own 1 [[(.own 6 1 (0) (p9))]]
def Qmb (p10 : (List (Nat × Nat))) : Slot := .own 1 ((p10 : List (Nat × Nat)).map (c_mr 7 1))
def Qma (p11 : (List (Nat × Nat))) : Slot := .own 1 ((p11 : List (Nat × Nat)).map (c_mr 8 1))
def Ql9 (p12 : (List (List Bool))) : Slot := .mat 1 (matA Qf9 (p12 : List (List Bool)))
def Qiz (p13 : (List (List Int))) : Slot := .mat 1 (matA Qab (p13 : List (List Int)))
set_option maxRecDepth 100000 in
set_option maxHeartbeats 4000000 in
theorem Qii (N : Nat) (p0 : (List Int)) (p1 : (List Int)) (p2 : Int) (p3 : Int) (p4 : Int) (p5 : (List GHour)) (p6 : Int) (p7 : Int) (p8 : Nat) (p9 : Nat) (p10 : (List (Nat × Nat))) (p11 : (List (Nat × Nat))) (p12 : (List (List Bool))) (p13 : (List (List Int))) (r : Int) (h : Qew N p0 p1 p2 p3 p4 p5 p6 p7 p8 p9 p10 p11 p12 p13 = some r) : Spec Try.prog 71 [(Qum p0), Qxu] [(Qme p1 p2 p3 p4 p5), (.own 1 [[(I (p6))]]), (.own 1 [[(I (p7))]]), (Qmd p8), (Qmc p9), (Qmb p10), (Qma p11), (Ql9 p12), (Qiz p13)] (I (r)) [(Qme p1 p2 p3 p4 p5), (.own 1 [[(I (p6))]]), (.own 1 [[(I (p7))]]), (Qmd p8), (Qmc p9), (Qmb p10), (Qma p11), (Ql9 p12), (Qiz p13)] := by
  refine Qae Try.func71 rfl 9 (nle rfl) (fun X φ0 w0 hφ0 => ?_)
  unfold Qew at h
  refine Qbp ?_
  refine wx tbk [] trivial ?_
  obtain ⟨k2, hk_k2, h⟩ := jko h
  refine wjn (τ := Unit) (fun t => k2 t = some r) (fun _ => ⟨mk 19 [], [(Qme p1 p2 p3 p4 p5), (.own 1 [[I p6]]), (.own 1 [[I p7]]), (Qmd p8), (Qmc p9), (Qmb p10), (Qma p11), (Ql9 p12), (Qiz p13)]⟩) (fun t h => ?_) ?_
  ·subst hk_k2
   refine wx tbk [] trivial ?_
   refine wmr (mto (n := 19) (l' := [(4, (I ((-1))))]) (own' := [(Qme p1 p2 p3 p4 p5), (.own 1 [[I p6]]), (.own 1 [[I p7]]), (Qmd p8), (Qmc p9), (Qmb p10), (Qma p11), (Ql9 p12), (Qiz p13)]) [(4, (I ((-1))))] [0, 1, 2, 3, 4, 5, 6, 7, 8] [(Qme p1 p2 p3 p4 p5), (.own 1 [[I p6]]), (.own 1 [[I p7]]), (Qmd p8), (Qmc p9), (Qmb p10), (Qma p11), (Ql9 p12), (Qiz p13)] hφ0 (pc rwl pn) (qc (spb (lc (.rn (.plain _ (nld Qaa _))) (lc rwl (lc rwl (lc rwl (lc (.rn (.plain _ (nld Qac _))) ln)))))) (qc (spb (lc rwl ln)) (qc (spb (lc rwl ln)) (qc (spb (lc (.rn (Qag rfl)) ln)) (qc (spb (lc (.rn (Qag rfl)) ln)) (qc (Qa6 rfl) (qc (Qa6 rfl) (qc (Qbq Qda) (qc (Qbq Qaa) qn)))))))))) ?_
   refine Qad ?_
   obtain rfl := osi h
   exact ⟨_, Mor.rfl, Qb9 (vs := [(I ((-1)))]) ⟨rot (by kernel_rfl), trivial⟩ rfl (NLt.of0 nll) (by kernel_rfl) (Qak (Qaw (nlc (NLt.of0 (nld Qaa _)) (nlc (NLt.of0 nll) (nlc (NLt.of0 nll) (nlc (NLt.of0 nll) (nlc (NLt.of0 (nld Qac _)) nl0)))))) (Qak (Qaw (nlc (NLt.of0 nll) nl0)) (Qak (Qaw (nlc (NLt.of0 nll) nl0)) (Qak (Qaw (nlc (NLt.own _ _ _ _ (by decide)) nl0)) (Qak (Qaw (nlc (NLt.own _ _ _ _ (by decide)) nl0)) (Qak (Qgq rfl) (Qak (Qgq rfl) (Qak (Qh9 Qda _) (Qak (Qh9 Qaa _) Qbi)))))))))⟩
  ·skip
   refine wx tbk [(1, rp [(.tmp 6, (Qum p0))] (I ((p0.length : Int))))] ⟨alm (c := Qab) (l := p0) (aln rfl Try.underlying37 rfl), trivial⟩ ?_
   refine Qaf ?_
   refine wmr (mto (n := 19) (l' := [(0, (Qum p0)), (1, Qxu), (7, (I ((p0.length : Int)))), (8, I 0)]) (own' := [(Qme p1 p2 p3 p4 p5), (.own 1 [[I p6]]), (.own 1 [[I p7]]), (Qmd p8), (Qmc p9), (Qmb p10), (Qma p11), (Ql9 p12), (Qiz p13)]) [(0, (Qum p0)), (1, Qxu), (7, (I ((p0.length : Int)))), (8, I 0)] [0, 1, 2, 3, 4, 5, 6, 7, 8] [(Qme p1 p2 p3 p4 p5), (.own 1 [[I p6]]), (.own 1 [[I p7]]), (Qmd p8), (Qmc p9), (Qmb p10), (Qma p11), (Ql9 p12), (Qiz p13)] hφ0 (pc (.rn (.plain _ (nld Qaa _))) (pc (.rn (Qar rn0 (rnc (rqr rfl) (rnc (rqr rfl) (rnc (rqr rfl) (rnc (rqr rfl) (rnc (rqr rfl) rn0))))))) (pc rwl (pc rwl pn)))) (qc (spb (lc (.rn (.plain _ (nld Qaa _))) (lc rwl (lc rwl (lc rwl (lc (.rn (.plain _ (nld Qac _))) ln)))))) (qc (spb (lc rwl ln)) (qc (spb (lc rwl ln)) (qc (spb (lc (.rn (Qag rfl)) ln)) (qc (spb (lc (.rn (Qag rfl)) ln)) (qc (Qa6 rfl) (qc (Qa6 rfl) (qc (Qbq Qda) (qc (Qbq Qaa) qn)))))))))) ?_
   refine Qbk (τ := Int) (fun n t => Qcf N p0 p1 k2 p2 p3 p4 p5 p6 p7 p8 p9 p10 p11 p12 p13 n t = some r) (fun y3 => ⟨mk 19 [(0, (Qum p0)), (1, Qxu), (7, (I ((p0.length : Int)))), (8, I y3)], [(Qme p1 p2 p3 p4 p5), (.own 1 [[I p6]]), (.own 1 [[I p7]]), (Qmd p8), (Qmc p9), (Qmb p10), (Qma p11), (Ql9 p12), (Qiz p13)]⟩) (fun t h => by rw [Qcf] at h; cases h) (fun n5 ih y3 h => ?_) N (0) h
   rw [Qcf] at h
   skip
   refine wx tbk [] trivial ?_
   refine wsq ?_
   rcases bft ((decide (y3 < (p0.length : Int)))) with hc6 | hc6
   ·replace h := Qas hc6 h
    refine wft hc6 (by kernel_rfl) ?_
    refine Qai ?_
    refine thn ?_
    refine wsq ?_
    refine Qaf ?_
    refine wx tbk [] trivial ?_
    obtain ⟨x7, hg8, h⟩ := bno h
    obtain ⟨hi9, hj10⟩ := gsm hg8
    obtain ⟨x12, hf11, h⟩ := bno h
    refine wx tbk [(3, rp [(.tmp 12, (Qum p0)), (.tmp 13, I y3)] (.dptr (Qab (x7)) 0)), (5, ⟨[(.tmp 11, Qxu), (.tmp 15, I x7)], [(0, (Qme p1 p2 p3 p4 p5)), (1, .own 1 [[I p6]]), (2, .own 1 [[I p7]]), (3, (Qmd p8)), (4, (Qmc p9)), (5, (Qmb p10)), (6, (Qma p11)), (7, (Ql9 p12)), (8, (Qiz p13))], B x12, [(0, (Qme p1 p2 p3 p4 p5)), (1, .own 1 [[I p6]]), (2, .own 1 [[I p7]]), (3, (Qmd p8)), (4, (Qmc p9)), (5, (Qmb p10)), (6, (Qma p11)), (7, (Ql9 p12)), (8, (Qiz p13))], false⟩)] ⟨aid rfl Try.underlying37 ti3 rfl rfl hi9 (mgt Qab hj10) rfl, Qap (first := []) (cap := [.ref 0 5 0 0, .ref 1 1 0 0, .ref 2 1 0 0, .ref 3 1 0 0, .ref 4 1 0 0]) (vs := [I x7]) (σr := [(Qme p1 p2 p3 p4 p5), (.own 1 [[I p6]]), (.own 1 [[I p7]]), (Qmd p8), (Qmc p9), (Qmb p10), (Qma p11), (Ql9 p12), (Qiz p13)]) (σr' := [(Qme p1 p2 p3 p4 p5), (.own 1 [[I p6]]), (.own 1 [[I p7]]), (Qmd p8), (Qmc p9), (Qmb p10), (Qma p11), (Ql9 p12), (Qiz p13)]) (res' := (B x12)) [0, 1, 2, 3, 4, 5, 6, 7, 8] rfl enter73 (Qk7 N x7 p1 p2 p3 p4 p5 p6 p7 p8 p9 p10 p11 p12 p13 _ hf11) rfl (Qb6 (rnc (.plain _ nll) (rnc (Qa7 rfl) (rnc (Qa7 rfl) (rnc (Qa7 rfl) (rnc (Qa7 rfl) (rnc (Qa7 rfl) rn0))))))) (slc (Qal (rnc (.plain _ (nld Qaa _)) (rnc (.plain _ nll) (rnc (.plain _ nll) (rnc (.plain _ nll) (rnc (.plain _ (nld Qac _)) rn0)))))) (slc (Qal (rnc (.plain _ nll) rn0)) (slc (Qal (rnc (.plain _ nll) rn0)) (slc (Qal (rnc (Qfs rfl) rn0)) (slc (Qal (rnc (Qfs rfl) rn0)) (slc (Qj9 rfl) (slc (Qj9 rfl) (slc (Qh8 Qda) (slc (Qh8 Qaa) Qao))))))))) (slc (Qal (rnc (.plain _ (nld Qaa _)) (rnc (.plain _ nll) (rnc (.plain _ nll) (rnc (.plain _ nll) (rnc (.plain _ (nld Qac _)) rn0)))))) (slc (Qal (rnc (.plain _ nll) rn0)) (slc (Qal (rnc (.plain _ nll) rn0)) (slc (Qal (rnc (Qj1 rfl) rn0)) (slc (Qal (rnc (Qj1 rfl) rn0)) (slc (Qjh rfl) (slc (Qjh rfl) (slc (Qh8 Qda) (slc (Qh8 Qaa) Qao))))))))) (.plain _ nll) rfl rfl rfl, trivial⟩ ?_
    rcases bft (x12) with hc13 | hc13
    ·replace h := Qas hc13 h
     refine wft hc13 (by kernel_rfl) ?_
     refine wx tbk [] trivial ?_
     refine wmr (mto (n := 19) (l' := [(4, I y3)]) (own' := [(Qme p1 p2 p3 p4 p5), (.own 1 [[I p6]]), (.own 1 [[I p7]]), (Qmd p8), (Qmc p9), (Qmb p10), (Qma p11), (Ql9 p12), (Qiz p13)]) [(4, I y3)] [0, 1, 2, 3, 4, 5, 6, 7, 8] [(Qme p1 p2 p3 p4 p5), (.own 1 [[I p6]]), (.own 1 [[I p7]]), (Qmd p8), (Qmc p9), (Qmb p10), (Qma p11), (Ql9 p12), (Qiz p13)] hφ0 (pc rwl pn) (qc (spb (lc (.rn (.plain _ (nld Qaa _))) (lc rwl (lc rwl (lc rwl (lc (.rn (.plain _ (nld Qac _))) ln)))))) (qc (spb (lc rwl ln)) (qc (spb (lc rwl ln)) (qc (spb (lc (.rn (Qag rfl)) ln)) (qc (spb (lc (.rn (Qag rfl)) ln)) (qc (Qa6 rfl) (qc (Qa6 rfl) (qc (Qbq Qda) (qc (Qbq Qaa) qn)))))))))) ?_
     refine Qad ?_
     refine Qay ?_
     refine Qam ?_
     refine Qam ?_
     refine Qay ?_
     refine Qam ?_
     obtain rfl := osi h
     exact ⟨_, Mor.rfl, Qb9 (vs := [I y3]) ⟨rot (by kernel_rfl), trivial⟩ rfl (NLt.of0 nll) (by kernel_rfl) (Qak (Qaw (nlc (NLt.of0 (nld Qaa _)) (nlc (NLt.of0 nll) (nlc (NLt.of0 nll) (nlc (NLt.of0 nll) (nlc (NLt.of0 (nld Qac _)) nl0)))))) (Qak (Qaw (nlc (NLt.of0 nll) nl0)) (Qak (Qaw (nlc (NLt.of0 nll) nl0)) (Qak (Qaw (nlc (NLt.own _ _ _ _ (by decide)) nl0)) (Qak (Qaw (nlc (NLt.own _ _ _ _ (by decide)) nl0)) (Qak (Qgq rfl) (Qak (Qgq rfl) (Qak (Qh9 Qda _) (Qak (Qh9 Qaa _) Qbi)))))))))⟩
    ·replace h := Qat hc13 h
     refine wfn hc13 (by kernel_rfl) ?_
     refine Qai ?_
     refine bln ?_
     refine thn ?_
     refine wx1 tbk [] trivial ?_
     refine thn ?_
     exact arm (mto (n := 19) [(0, (Qum p0)), (1, Qxu), (7, (I ((p0.length : Int)))), (8, (I (w64 (y3 + 1))))] [0, 1, 2, 3, 4, 5, 6, 7, 8] [(Qme p1 p2 p3 p4 p5), (.own 1 [[I p6]]), (.own 1 [[I p7]]), (Qmd p8), (Qmc p9), (Qmb p10), (Qma p11), (Ql9 p12), (Qiz p13)] hφ0 (pc (.rn (.plain _ (nld Qaa _))) (pc (.rn (Qar rn0 (rnc (rqr rfl) (rnc (rqr rfl) (rnc (rqr rfl) (rnc (rqr rfl) (rnc (rqr rfl) rn0))))))) (pc rwl (pc rwl pn)))) (qc (spb (lc (.rn (.plain _ (nld Qaa _))) (lc rwl (lc rwl (lc rwl (lc (.rn (.plain _ (nld Qac _))) ln)))))) (qc (spb (lc rwl ln)) (qc (spb (lc rwl ln)) (qc (spb (lc (.rn (Qag rfl)) ln)) (qc (spb (lc (.rn (Qag rfl)) ln)) (qc (Qa6 rfl) (qc (Qa6 rfl) (qc (Qbq Qda) (qc (Qbq Qaa) qn)))))))))) (ih (w64 (y3 + 1)) h)
   ·replace h := Qat hc6 h
    refine wfn hc6 (by kernel_rfl) ?_
    refine Qa2 ?_
    refine Qaq ?_
    refine Qaq ?_
    refine Qa1 rfl ?_
    refine thn ?_
    exact ⟨(), h, (mto (n := 19) [] [0, 1, 2, 3, 4, 5, 6, 7, 8] [(Qme p1 p2 p3 p4 p5), (.own 1 [[I p6]]), (.own 1 [[I p7]]), (Qmd p8), (Qmc p9), (Qmb p10), (Qma p11), (Ql9 p12), (Qiz p13)] hφ0 pn (qc (spb (lc (.rn (.plain _ (nld Qaa _))) (lc rwl (lc rwl (lc rwl (lc (.rn (.plain _ (nld Qac _))) ln)))))) (qc (spb (lc rwl ln)) (qc (spb (lc rwl ln)) (qc (spb (lc (.rn (Qag rfl)) ln)) (qc (spb (lc (.rn (Qag rfl)) ln)) (qc (Qa6 rfl) (qc (Qa6 rfl) (qc (Qbq Qda) (qc (Qbq Qaa) qn))))))))))⟩
def Qeh (N : Nat) (p0 : GJob) (y13 : (List (Nat × Nat))) (y14 : (List (Nat × Nat))) (y15 : (List (List Int))) (y16 : (List (List Bool))) (k27 : (List Int) → Option ((List Int) × Int × (List (List Int)) × Int)) : Nat → (List Int) → Int → Int → Option ((List Int) × Int × (List (List Int)) × Int)
  | 0, _, _, _ => none
  | n43 + 1, y37, y38, y39 =>
    bif (decide (y38 < (p0.Hours.length : Int))) then
     (Qkr N p0).bind fun x46 =>
     (Qew N x46 p0.Levels p0.Ramp p0.Start p0.First p0.Hours y38 y39 ((((w64 ((p0.Hours.length : Int) + 1)).toNat : Nat) : Int).toNat) ((w64 ((p0.Hours.length : Int) + 1)).toNat) y14 y13 y16 y15).bind fun x48 =>
     chk (decide ((y37.length + ([x48]).length) * 8 ≤ 140737488355328)) <|
     Qeh N p0 y13 y14 y15 y16 k27 n43 (y37 ++ ([x48])) (w64 (y38 + 1)) x48
    else
     k27 (y37)
def Qeg (N : Nat) (p0 : GJob) (k17 : (List (Nat × Nat)) × (List (Nat × Nat)) × (List (List Int)) × (List (List Bool)) → Option ((List Int) × Int × (List (List Int)) × Int)) : Nat → Int → (List (Nat × Nat)) → (List (Nat × Nat)) → (List (List Int)) → (List (List Bool)) → Option ((List Int) × Int × (List (List Int)) × Int)
  | 0, _, _, _, _, _ => none
  | n60 + 1, y50, y51, y52, y53, y54 =>
    bif (decide (y50 ≥ 0)) then
     (Qhg N y50 p0.Levels p0.Ramp p0.Start p0.First p0.Hours ((w64 ((p0.Hours.length : Int) + 1)).toNat) ((((w64 ((p0.Hours.length : Int) + 1)).toNat : Nat) : Int).toNat) y51 y52 y53 y54).bind fun x63 =>
     Qeg N p0 k17 n60 (w64 (y50 - 1)) (y51.set y50.toNat (y53.length, (p0.Levels.length : Int).toNat)) (y52.set y50.toNat (y54.length, (p0.Levels.length : Int).toNat)) x63.1 x63.2
    else
     k17 (y51, y52, y53, y54)
def Qjk (N : Nat) (p0 : GJob) : Option ((List Int) × Int × (List (List Int)) × Int) :=
  (Qe5 N p0).bind fun x9 =>
  bif (!x9) then
   some ([], 0, [], 1)
  else
   chk (decide (0 ≤ w64 ((p0.Hours.length : Int) + 1)) && decide (24 * (w64 ((p0.Hours.length : Int) + 1)) ≤ 281474976710656) && decide (w64 ((p0.Hours.length : Int) + 1) ≤ 9223372036854775807)) <|
   chk (decide (0 ≤ (((w64 ((p0.Hours.length : Int) + 1)).toNat : Nat) : Int)) && decide (24 * (((w64 ((p0.Hours.length : Int) + 1)).toNat : Nat) : Int) ≤ 281474976710656) && decide ((((w64 ((p0.Hours.length : Int) + 1)).toNat : Nat) : Int) ≤ 9223372036854775807)) <|
   Qb0 (fun ⟨y13, y14, y15, y16⟩ =>
     chk (decide (0 ≤ 0) && decide ((0 : Int).toNat < (((w64 ((p0.Hours.length : Int) + 1)).toNat : Nat) : Int).toNat)) <|
     (y14[(0 : Int).toNat]?).bind fun x19 =>
     chk (!(y16.getD x19.1 []).isEmpty) <|
     chk (decide (0 ≤ p0.First) && decide (p0.First.toNat < x19.2)) <|
     (getM y16 x19.1 p0.First.toNat).bind fun x23 =>
     bif (!x23) then
      some ([], 0, [], 7)
     else
      Qb0 (fun y26 =>
        chk (decide (0 ≤ 0) && decide ((0 : Int).toNat < (w64 ((p0.Hours.length : Int) + 1)).toNat)) <|
        (y13[(0 : Int).toNat]?).bind fun x29 =>
        chk (!(y15.getD x29.1 []).isEmpty) <|
        chk (decide (0 ≤ p0.First) && decide (p0.First.toNat < x29.2)) <|
        (getM y15 x29.1 p0.First.toNat).bind fun x33 =>
        chk (y13.all fun x => decide (x.2 ≤ (y15.getD x.1 []).length)) <|
        chk (decide ((w64 ((p0.Hours.length : Int) + 1)).toNat ≤ ((y13).map fun x => (y15.getD x.1 []).take x.2).length)) <|
        some (y26, x33, ((y13).map fun x => (y15.getD x.1 []).take x.2).take ((w64 ((p0.Hours.length : Int) + 1)).toNat), 0)) fun k27 : (List Int) → Option ((List Int) × Int × (List (List Int)) × Int) =>
      Qeh N p0 y13 y14 y15 y16 k27 N ([]) 0 p0.First) fun k17 : (List (Nat × Nat)) × (List (Nat × Nat)) × (List (List Int)) × (List (List Bool)) → Option ((List Int) × Int × (List (List Int)) × Int) =>
   Qeg N p0 k17 N (p0.Hours.length : Int) (List.replicate (w64 ((p0.Hours.length : Int) + 1)).toNat (0, 0)) (List.replicate (((w64 ((p0.Hours.length : Int) + 1)).toNat : Nat) : Int).toNat (0, 0)) ([] : List (List Int)) ([] : List (List Bool))
def z50_1 (p0 : GJob) : AV := .dat 2 ((p0.Hours : List GHour).map Qax)
def z50_3 (p0 : GJob) : AV := .agg [(.dat 1 ((p0.Levels : List Int).map Qab)), (I (p0.Ramp)), (I (p0.Start)), (I (p0.First)), (z50_1 p0)]
def Qv6 : AV := .dat 1 (([] : List Int).map Qab)
def z50_97 : AV := .dat 1 ((([]) : List (List Int)).map Qa3)
def Qv5 : AV := .dat 1 (([] : List (List Int)).map Qa3)
def z50_4 (p0 : GJob) : Slot := .own 1 ((List.replicate (w64 ((p0.Hours.length : Int) + 1)).toNat (0, 0) : List (Nat × Nat)).map (c_mr 3 1))
def z50_5 : Slot := .mat 1 (matA Qab (([] : List (List Int)) : List (List Int)))
def z50_7 (p0 : GJob) : Slot := .own 1 ((List.replicate (((w64 ((p0.Hours.length : Int) + 1)).toNat : Nat) : Int).toNat (0, 0) : List (Nat × Nat)).map (c_mr 5 1))
def z50_8 : Slot := .mat 1 (matA Qf9 (([] : List (List Bool)) : List (List Bool)))
def z50_10 : AV := .fn (.func 69) [] [(.ref 0 5 (0) 0), (.ref 1 1 (0) 0), (.ref 6 1 (0) 0)]
def Qjq (p0 : GJob) : Slot := .own 5 [[(.dat 1 ((p0.Levels : List Int).map Qab)), (I (p0.Ramp)), (I (p0.Start)), (I (p0.First)), (z50_1 p0)]]
def Qm3 (p0 : GJob) : Slot := .own 1 [[(.own 3 1 (0) ((w64 ((p0.Hours.length : Int) + 1)).toNat))]]
def Qs0 (p0 : GJob) : Slot := .own 1 [[(.own 4 1 (0) ((((w64 ((p0.Hours.length : Int) + 1)).toNat : Nat) : Int).toNat))]]
def Qrm (y14 : (List (Nat × Nat))) : Slot := .own 1 ((y14 : List (Nat × Nat)).map (c_mr 6 1))
def Qh6 (y15 : (List (List Int))) : Slot := .mat 1 (matA Qab (y15 : List (List Int)))
def Qjb (y16 : (List (List Bool))) : Slot := .mat 1 (matA Qf9 (y16 : List (List Bool)))
def Qrl (y26 : (List Int)) : AV := .acc 1 3 1 ((y26 : List Int).map Qab)
def Quv (y13 : (List (Nat × Nat))) : Slot := .own 1 ((y13 : List (Nat × Nat)).map (c_mr 4 1))
def Quu (y13 : (List (Nat × Nat))) (y15 : (List (List Int))) (p0 : GJob) : AV := .dat 1 ((((y13).map fun x => (y15.getD x.1 []).take x.2).take ((w64 ((p0.Hours.length : Int) + 1)).toNat) : List (List Int)).map Qa3)
def Qut (y13 : (List (Nat × Nat))) (y15 : (List (List Int))) (p0 : GJob) : AV := .dat 1 (((((y13).map fun x => (y15.getD x.1 []).take x.2).take ((w64 ((p0.Hours.length : Int) + 1)).toNat)) : List (List Int)).map Qa3)
def Qs1 (p0 : GJob) : Slot := .own 1 [[(.own 5 1 (0) ((w64 ((p0.Hours.length : Int) + 1)).toNat))]]
def Qv7 (p0 : GJob) : Slot := .own 1 [[(.own 6 1 (0) ((((w64 ((p0.Hours.length : Int) + 1)).toNat : Nat) : Int).toNat))]]
def Qlc (y13 : (List (Nat × Nat))) : Slot := .own 1 ((y13 : List (Nat × Nat)).map (c_mr 7 1))
def Qmr (y14 : (List (Nat × Nat))) : Slot := .own 1 ((y14 : List (Nat × Nat)).map (c_mr 8 1))
def Qus (y37 : (List Int)) : AV := .acc 1 3 1 ((y37 : List Int).map Qab)
def z50_51 : AV := .fn (.func 73) [] [(.ref 0 5 (0) 0), (.ref 9 1 (0) 0), (.ref 4 1 (0) 0), (.ref 3 1 (0) 0), (.ref 2 1 (0) 0)]
def z50_56 (p0 : GJob) : Slot := .own 1 [[(.own 6 1 (0) (((((w64 ((p0.Hours.length : Int) + 1)).toNat : Nat) : Int).toNat)))]]
def z50_57 (p0 : GJob) : Slot := .own 1 [[(.own 5 1 (0) (((w64 ((p0.Hours.length : Int) + 1)).toNat)))]]
def Qv8 : AV := .fn (.func 69) [] [(.ref 0 5 (0) 0), (.ref 1 1 (0) 0), (.ref 2 1 (0) 0)]
def Qrk (y51 : (List (Nat × Nat))) : Slot := .own 1 ((y51 : List (Nat × Nat)).map (c_mr 5 1))
def Qrj (y52 : (List (Nat × Nat))) : Slot := .own 1 ((y52 : List (Nat × Nat)).map (c_mr 6 1))
def Qri (y53 : (List (List Int))) : Slot := .mat 1 (matA Qab (y53 : List (List Int)))
def Qrh (y54 : (List (List Bool))) : Slot := .mat 1 (matA Qf9 (y54 : List (List Bool)))
def z50_15 (p0 : GJob) : Slot := .own 1 [[(.own 3 1 (0) (((w64 ((p0.Hours.length : Int) + 1)).toNat)))]]
def z50_16 (p0 : GJob) : Slot := .own 1 [[(.own 4 1 (0) (((((w64 ((p0.Hours.length : Int) + 1)).toNat : Nat) : Int).toNat)))]]
def Qur (y51 : (List (Nat × Nat))) (y50 : Int) (y53 : (List (List Int))) (p0 : GJob) : Slot := .own 1 ((y51.set y50.toNat (y53.length, (p0.Levels.length : Int).toNat) : List (Nat × Nat)).map (c_mr 5 1))
def Quq (y52 : (List (Nat × Nat))) (y50 : Int) (y54 : (List (List Bool))) (p0 : GJob) : Slot := .own 1 ((y52.set y50.toNat (y54.length, (p0.Levels.length : Int).toNat) : List (Nat × Nat)).map (c_mr 6 1))
set_option maxRecDepth 100000 in
set_option maxHeartbeats 4000000 in
theorem Qnf (N : Nat) (p0 : GJob) (r : ((List Int) × Int × (List (List Int)) × Int)) (h : Qjk N p0 = some r) : Spec Try.prog 21 [(.agg (Qhk p0))] [] (.tup [(.dat 1 ((r.1 : List Int).map Qab)), (I (r.2.1)), (.dat 1 ((r.2.2.1 : List (List Int)).map Qa3)), (I (r.2.2.2))]) [] := by
  refine Qae Try.func21 rfl 0 (nle rfl) (fun X φ0 w0 hφ0 => ?_)
  unfold Qjk at h
  refine Qbp ?_
  refine wx tbk [] trivial ?_
  refine wsq ?_
  obtain ⟨x9, hf8, h⟩ := bno h
  refine wx tbk [(1, rp [fu 68, (.tmp 12, (z50_3 p0))] (B x9))] ⟨apc (first := []) (cap := []) (vs := [(z50_3 p0)]) rfl Qvn (Qhe N p0 _ hf8) rfl rfl (nlc (NLt.agg _ (nlc (nld Qaa _) (nlc nll (nlc nll (nlc nll (nlc (nld Qac _) nl0)))))) nl0) nll rfl, trivial⟩ ?_
  rcases bft ((!x9)) with hc10 | hc10
  ·replace h := Qas hc10 h
   refine wft hc10 (by kernel_rfl) ?_
   refine wx tbk [] trivial ?_
   refine wmr (mto (n := 69) (l' := [(2, Qv6), (3, I 0), (4, .ref 0 1 0 0), (5, I 1)]) (own' := [(.own 1 [[z50_97]])]) [(2, nilS), (3, I 0), (4, .ref 1 1 0 0), (5, I 1)] [1] [(.own 1 [[nilS]])] hφ0 (pc (.nil _) (pc rwl (pc (.rn (rqr rfl)) (pc rwl pn)))) (qc (spb (lc (.nil _) ln)) qn)) ?_
   refine Qad ?_
   refine Qam ?_
   obtain rfl := osi h
   exact ⟨_, Mor.rfl, ⟨⟨[Qv6, I 0, Qv5, I 1], ⟨rot (by kernel_rfl), rot (by kernel_rfl), Qgb (n := 0) (m := 1) (j := 0) (i := 0) (xs := [[Qv5]]) (by kernel_rfl) (by kernel_rfl) ti42 (by decide) rfl (nle rfl) rfl, rot (by kernel_rfl), trivial⟩, rfl⟩, (NLt.tup _ (nlc (nld Qaa _) (nlc nll (nlc (nld Qa4 _) (nlc nll nl0))))), Nat.le_refl _, fun n hn => absurd hn (Nat.not_lt_zero n)⟩⟩
  ·replace h := Qat hc10 h
   refine wfn hc10 (by kernel_rfl) ?_
   refine Qai ?_
   refine thn ?_
   obtain ⟨hm11, h⟩ := cko h
   refine wx tbk [(2, rp [(.tmp 16, (z50_1 p0))] (I ((p0.Hours.length : Int)))), (4, ⟨[(.tmp 18, (I (w64 ((p0.Hours.length : Int) + 1)))), (.tmp 18, (I (w64 ((p0.Hours.length : Int) + 1))))], [(2, .unused), (3, .unused)], (.own 2 1 (0) ((w64 ((p0.Hours.length : Int) + 1)).toNat)), [(2, (z50_4 p0)), (3, z50_5)], false⟩)] ⟨alm (c := Qax) (l := p0.Hours) (aln rfl Try.underlying45 rfl), Qof 1 rfl (Qgx rfl Try.underlying42 te37 tz37 rfl (Qql hm11) rfl (Qqk hm11) (Qnq hm11) rfl), trivial⟩ ?_
   obtain ⟨hm12, h⟩ := cko h
   refine wx tbk [(1, rp [(.tmp 20, (.own 2 1 (0) ((w64 ((p0.Hours.length : Int) + 1)).toNat)))] (I ((((w64 ((p0.Hours.length : Int) + 1)).toNat : Nat) : Int)))), (2, ⟨[(.tmp 21, (I ((((w64 ((p0.Hours.length : Int) + 1)).toNat : Nat) : Int)))), (.tmp 21, (I ((((w64 ((p0.Hours.length : Int) + 1)).toNat : Nat) : Int))))], [(4, .unused), (5, .unused)], (.own 4 1 (0) ((((w64 ((p0.Hours.length : Int) + 1)).toNat : Nat) : Int).toNat)), [(4, (z50_7 p0)), (5, z50_8)], false⟩)] ⟨aln rfl Try.underlying42 rfl, Qof 1 rfl (Qgx rfl Try.underlying120 te121 tz121 rfl (Qql hm12) rfl (Qqk hm12) (Qnq hm12) rfl), trivial⟩ ?_
   refine wx tbk [(0, rp [(.tmp 1, .ref 0 5 0 0), (.tmp 4, .ref 1 1 0 0), (.tmp 6, .ref 6 1 0 0)] z50_10)] ⟨Qej (fs := []) (cs := [.ref 0 5 0 0, .ref 1 1 0 0, .ref 6 1 0 0]) rfl rfl rfl rfl, trivial⟩ ?_
   obtain ⟨k17, hk_k17, h⟩ := jko h
   refine wjn (τ := (List (Nat × Nat)) × (List (Nat × Nat)) × (List (List Int)) × (List (List Bool))) (fun t => k17 t = some r) (fun ⟨y13, y14, y15, y16⟩ => ⟨mk 69 [(1, .ref 0 5 0 0), (2, nilS), (4, .ref 1 1 0 0), (6, .ref 2 1 0 0)], [(Qjq p0), (Qm3 p0), (Qs0 p0), (.own 1 ((y13 : List (Nat × Nat)).map (c_mr 5 1))), (Qrm y14), (Qh6 y15), (Qjb y16)]⟩) (fun t h => ?_) ?_
   ·subst hk_k17
    obtain ⟨y13, y14, y15, y16⟩ := t
    refine wsq ?_
    obtain ⟨hi18, h⟩ := cko h
    obtain ⟨hi18a, hi18b⟩ := Qa0 hi18
    obtain ⟨x19, hg20, h⟩ := bno h
    obtain ⟨hz22, h⟩ := cko h
    obtain ⟨hi21, h⟩ := cko h
    obtain ⟨hi21a, hi21b⟩ := Qa0 hi21
    obtain ⟨x23, hg24, h⟩ := bno h
    refine wxd tbk [(1, rb [(.tmp 34, (.own 4 1 (0) ((((w64 ((p0.Hours.length : Int) + 1)).toNat : Nat) : Int).toNat))), ci 0] [(4, (Qrm y14))] (.ref 4 1 ((0 : Int).toNat) 0)), (2, rb [(.tmp 35, (.ref 4 1 ((0 : Int).toNat) 0))] [(4, (Qrm y14))] (.row 6 x19.1 1 (0) (x19.2))), (5, rb [(.tmp 36, (.row 6 x19.1 1 (0) (x19.2))), (.tmp 38, I p0.First)] [(6, (Qjb y16))] (.rowp 6 x19.1 1 (p0.First.toNat) 0)), (6, rb [(.tmp 39, (.rowp 6 x19.1 1 (p0.First.toNat) 0))] [(6, (Qjb y16))] (B x23))] ⟨aio rfl Try.underlying120 Qj0 (odt hi18a) (odt hi18b) (Nat.zero_add _), ald rfl Qj0 (by decide) (mgt (c_mr 6 1) hg20) (nle rfl) rfl, Qcc rfl Try.underlying121 ti4 (odt hi21a) (odt hi21b) hz22 (Nat.zero_add _), Qd9 rfl ti4 (by decide) hg24 (nle rfl) rfl, trivial⟩ ?_
    rcases bft ((!x23)) with hc25 | hc25
    ·replace h := Qas hc25 h
     refine wft hc25 (by kernel_rfl) ?_
     refine wx tbk [] trivial ?_
     refine wmr (mto (n := 69) (l' := [(2, Qv6), (3, I 0), (4, .ref 0 1 0 0), (5, I 7)]) (own' := [(.own 1 [[z50_97]])]) [(2, nilS), (3, I 0), (4, .ref 1 1 0 0), (5, I 7)] [1] [(.own 1 [[nilS]])] hφ0 (pc (.nil _) (pc rwl (pc (.rn (rqr rfl)) (pc rwl pn)))) (qc (spb (lc (.nil _) ln)) qn)) ?_
     refine Qad ?_
     refine Qam ?_
     obtain rfl := osi h
     exact ⟨_, Mor.rfl, ⟨⟨[Qv6, I 0, Qv5, I 7], ⟨rot (by kernel_rfl), rot (by kernel_rfl), Qgb (n := 0) (m := 1) (j := 0) (i := 0) (xs := [[Qv5]]) (by kernel_rfl) (by kernel_rfl) ti42 (by decide) rfl (nle rfl) rfl, rot (by kernel_rfl), trivial⟩, rfl⟩, (NLt.tup _ (nlc (nld Qaa _) (nlc nll (nlc (nld Qa4 _) (nlc nll nl0))))), Nat.le_refl _, fun n hn => absurd hn (Nat.not_lt_zero n)⟩⟩
    ·replace h := Qat hc25 h
     refine wfn hc25 (by kernel_rfl) ?_
     refine Qai ?_
     refine thn ?_
     refine wx tbk [] trivial ?_
     obtain ⟨k27, hk_k27, h⟩ := jko h
     refine wjn (τ := (List Int)) (fun t => k27 t = some r) (fun y26 => ⟨mk 69 [(1, .ref 0 5 0 0), (2, (Qrl y26)), (4, .ref 2 1 0 0)], [(Qjq p0), .tok, (Qm3 p0), (Quv y13), (Qh6 y15)]⟩) (fun y26 h => ?_) ?_
     ·subst hk_k27
      obtain ⟨hi28, h⟩ := cko h
      obtain ⟨hi28a, hi28b⟩ := Qa0 hi28
      obtain ⟨x29, hg30, h⟩ := bno h
      obtain ⟨hz32, h⟩ := cko h
      obtain ⟨hi31, h⟩ := cko h
      obtain ⟨hi31a, hi31b⟩ := Qa0 hi31
      obtain ⟨x33, hg34, h⟩ := bno h
      refine wxd tbk [(2, rb [(.tmp 61, (.own 3 1 (0) ((w64 ((p0.Hours.length : Int) + 1)).toNat))), ci 0] [(3, (Quv y13))] (.ref 3 1 ((0 : Int).toNat) 0)), (3, rb [(.tmp 62, (.ref 3 1 ((0 : Int).toNat) 0))] [(3, (Quv y13))] (.row 4 x29.1 1 (0) (x29.2))), (6, rb [(.tmp 63, (.row 4 x29.1 1 (0) (x29.2))), (.tmp 65, I p0.First)] [(4, (Qh6 y15))] (.rowp 4 x29.1 1 (p0.First.toNat) 0)), (7, rb [(.tmp 66, (.rowp 4 x29.1 1 (p0.First.toNat) 0))] [(4, (Qh6 y15))] (I x33))] ⟨aio rfl Try.underlying42 ti37 (odt hi28a) (odt hi28b) (Nat.zero_add _), ald rfl ti37 (by decide) (mgt (c_mr 4 1) hg30) (nle rfl) rfl, Qcc rfl Try.underlying37 ti3 (odt hi31a) (odt hi31b) hz32 (Nat.zero_add _), Qd9 rfl ti3 (by decide) hg34 (nle rfl) rfl, trivial⟩ ?_
      obtain ⟨hz35, h⟩ := cko h
      refine wmr (Qjm (q := 3) (a := 4) (m := 1) (c := Qab) (cl := Qa3) (E := y13) (R := y15) (own' := [(Qjq p0), .tok, (Qm3 p0), (.own 1 (((y13).map fun x => (y15.getD x.1 []).take x.2 : List (List Int)).map Qa3)), .dead]) rfl (by kernel_rfl) (by kernel_rfl) (by kernel_rfl) hz35 (fun _ => rfl) (by kernel_rfl)) ?_
      obtain ⟨hz36, h⟩ := cko h
      refine wmr (mor_fzb (n := 69) (mp := 1) (m := 1) (xs := ((y13).map fun x => (y15.getD x.1 []).take x.2 : List (List Int)).map Qa3) (c := [(.own 3 1 (0) ((w64 ((p0.Hours.length : Int) + 1)).toNat))]) (l' := [(2, (Qrl y26)), (3, I x33), (4, .ref 2 1 0 0), (5, I 0)]) (c' := [(Quu y13 y15 p0)]) (own' := [(Qjq p0), .tok, (.own 1 [[(Quu y13 y15 p0)]]), .dead, .dead]) 3 2 [(2, (Qrl y26)), (3, I x33), (4, .ref 2 1 0 0), (5, I 0)] (by kernel_rfl) (by kernel_rfl) (by kernel_rfl) (by kernel_rfl) ⟨(Qh2 hz36), trivial⟩ ⟨rfl, (.same _), rfl, (.same _), rfl, (.same _), rfl, (.same _), trivial⟩ (by kernel_rfl)) ?_
      refine wmr (mto (n := 69) (l' := [(2, (.dat 1 ((y26 : List Int).map Qab))), (3, I x33), (4, .ref 0 1 0 0), (5, I 0)]) (own' := [(.own 1 [[(Qut y13 y15 p0)]])]) [(2, (Qrl y26)), (3, I x33), (4, .ref 2 1 0 0), (5, I 0)] [2] [(.own 1 [[(Quu y13 y15 p0)]])] hφ0 (pc (.dat _ _ _ _ (Qfm Qaa _)) (pc rwl (pc (.rn (rqr rfl)) (pc rwl pn)))) (qc (spb (lc (.rn (.plain _ (nld Qa4 _))) ln)) qn)) ?_
      refine Qad ?_
      obtain rfl := osi h
      exact ⟨_, Mor.rfl, ⟨⟨[(.dat 1 ((y26 : List Int).map Qab)), I x33, (Qut y13 y15 p0), I 0], ⟨rot (by kernel_rfl), rot (by kernel_rfl), Qgb (n := 0) (m := 1) (j := 0) (i := 0) (xs := [[(Qut y13 y15 p0)]]) (by kernel_rfl) (by kernel_rfl) ti42 (by decide) rfl (nle rfl) rfl, rot (by kernel_rfl), trivial⟩, rfl⟩, (NLt.tup _ (nlc (nld Qaa _) (nlc nll (nlc (nld Qa4 _) (nlc nll nl0))))), Nat.le_refl _, fun n hn => absurd hn (Nat.not_lt_zero n)⟩⟩
     ·skip
      refine wx tbk [(2, rp [(.tmp 45, (z50_1 p0))] (I ((p0.Hours.length : Int))))] ⟨alm (c := Qax) (l := p0.Hours) (aln rfl Try.underlying45 rfl), trivial⟩ ?_
      refine Qaf ?_
      refine wmr (Mor.trans (Qr1 8 3 1 2 (by kernel_rfl) (by kernel_rfl)) (mto (n := 69) (l' := [(1, .ref 0 5 0 0), (2, (.acc 1 3 1 ((([]) : List Int).map Qab))), (4, .ref 2 1 0 0), (6, .ref 3 1 0 0), (9, .ref 4 1 0 0), (46, (I ((p0.Hours.length : Int)))), (47, I 0)]) (own' := [(Qjq p0), .tok, (Qs1 p0), (Qv7 p0), (.own 1 [[I p0.First]]), (Qlc y13), (Qmr y14), (Qh6 y15), (Qjb y16)]) [(1, .ref 0 5 0 0), (2, (.acc 8 3 1 (([] : List Int).map Qab))), (4, .ref 1 1 0 0), (6, .ref 2 1 0 0), (9, .ref 7 1 0 0), (46, (I ((p0.Hours.length : Int)))), (47, I 0)] [0, 8, 1, 2, 7, 3, 4, 5, 6] [(Qjq p0), .tok, (Qm3 p0), (Qs0 p0), (.own 1 [[I p0.First]]), (.own 1 ((y13 : List (Nat × Nat)).map (c_mr 5 1))), (Qrm y14), (Qh6 y15), (Qjb y16)] hφ0 (pc (.rn (rqr rfl)) (pc (.rn (Qg9 rfl (Qfm Qaa _))) (pc (.rn (rqr rfl)) (pc (.rn (rqr rfl)) (pc (.rn (rqr rfl)) (pc rwl (pc rwl pn))))))) (qc (spb (lc (.rn (.plain _ (nld Qaa _))) (lc rwl (lc rwl (lc rwl (lc (.rn (.plain _ (nld Qac _))) ln)))))) (qc .tok (qc (spb (lc (.rn (Qag rfl)) ln)) (qc (spb (lc (.rn (Qag rfl)) ln)) (qc (spb (lc rwl ln)) (qc (Qa6 rfl) (qc (Qa6 rfl) (qc (Qbq Qaa) (qc (Qbq Qda) qn))))))))))) ?_
      refine Qbk (τ := (List Int) × Int × Int) (fun n t => Qeh N p0 y13 y14 y15 y16 k27 n t.1 t.2.1 t.2.2 = some r) (fun ⟨y37, y38, y39⟩ => ⟨mk 69 [(1, .ref 0 5 0 0), (2, (Qus y37)), (4, .ref 2 1 0 0), (6, .ref 3 1 0 0), (9, .ref 4 1 0 0), (46, (I ((p0.Hours.length : Int)))), (47, I y38)], [(Qjq p0), .tok, (Qs1 p0), (Qv7 p0), (.own 1 [[I y39]]), (Qlc y13), (Qmr y14), (Qh6 y15), (Qjb y16)]⟩) (fun t h => by rw [Qeh] at h; cases h) (fun n43 ih t h => ?_) N ([], 0, p0.First) h
      obtain ⟨y37, y38, y39⟩ := t
      rw [Qeh] at h
      skip
      refine wx tbk [] trivial ?_
      refine wsq ?_
      rcases bft ((decide (y38 < (p0.Hours.length : Int)))) with hc44 | hc44
      ·replace h := Qas hc44 h
       refine wft hc44 (by kernel_rfl) ?_
       refine Qai ?_
       refine thn ?_
       refine wsq ?_
       refine Qaf ?_
       refine wx tbk [] trivial ?_
       obtain ⟨x46, hf45, h⟩ := bno h
       obtain ⟨x48, hf47, h⟩ := bno h
       refine wx tbk [(1, rp [fu 72, (.tmp 50, (z50_3 p0))] (.dat 1 ((x46 : List Int).map Qab))), (2, rp [(.tmp 1, .ref 0 5 0 0), (.tmp 10, .ref 9 1 0 0), (.tmp 9, .ref 4 1 0 0), (.tmp 6, .ref 3 1 0 0), (.tmp 4, .ref 2 1 0 0)] z50_51), (3, ⟨[fu 71, (.tmp 51, (.dat 1 ((x46 : List Int).map Qab))), (.tmp 52, z50_51)], [(0, (Qjq p0)), (9, .own 1 [[I y38]]), (4, .own 1 [[I y39]]), (3, (Qv7 p0)), (2, (Qs1 p0)), (6, (Qmr y14)), (5, (Qlc y13)), (8, (Qjb y16)), (7, (Qh6 y15))], I x48, [(0, (Qjq p0)), (9, .own 1 [[I y38]]), (4, .own 1 [[I y39]]), (3, (z50_56 p0)), (2, (z50_57 p0)), (6, (Qmr y14)), (5, (Qlc y13)), (8, (Qjb y16)), (7, (Qh6 y15))], false⟩)] ⟨apc (first := []) (cap := []) (vs := [(z50_3 p0)]) rfl enter72 (Qox N p0 _ hf45) rfl rfl (nlc (NLt.agg _ (nlc (nld Qaa _) (nlc nll (nlc nll (nlc nll (nlc (nld Qac _) nl0)))))) nl0) (nld Qaa _) rfl, Qej (fs := []) (cs := [.ref 0 5 0 0, .ref 9 1 0 0, .ref 4 1 0 0, .ref 3 1 0 0, .ref 2 1 0 0]) rfl rfl rfl rfl, Qap (first := []) (cap := []) (vs := [(.dat 1 ((x46 : List Int).map Qab)), z50_51]) (σr := [(Qjq p0), (.own 1 [[I y38]]), (.own 1 [[I y39]]), (Qv7 p0), (Qs1 p0), (Qmr y14), (Qlc y13), (Qjb y16), (Qh6 y15)]) (σr' := [(Qjq p0), (.own 1 [[I y38]]), (.own 1 [[I y39]]), (z50_56 p0), (z50_57 p0), (Qmr y14), (Qlc y13), (Qjb y16), (Qh6 y15)]) (res' := (I x48)) [0, 9, 4, 3, 2, 6, 5, 8, 7] rfl Qsc (Qii N x46 p0.Levels p0.Ramp p0.Start p0.First p0.Hours y38 y39 ((((w64 ((p0.Hours.length : Int) + 1)).toNat : Nat) : Int).toNat) ((w64 ((p0.Hours.length : Int) + 1)).toNat) y14 y13 y16 y15 _ hf47) rfl (Qb6 (rnc (.plain _ (nld Qaa _)) (rnc (Qar rn0 (rnc (Qa7 rfl) (rnc (Qa7 rfl) (rnc (Qa7 rfl) (rnc (Qa7 rfl) (rnc (Qa7 rfl) rn0)))))) rn0))) (slc (Qal (rnc (.plain _ (nld Qaa _)) (rnc (.plain _ nll) (rnc (.plain _ nll) (rnc (.plain _ nll) (rnc (.plain _ (nld Qac _)) rn0)))))) (slc (Qal (rnc (.plain _ nll) rn0)) (slc (Qal (rnc (.plain _ nll) rn0)) (slc (Qal (rnc (Qfs rfl) rn0)) (slc (Qal (rnc (Qfs rfl) rn0)) (slc (Qj9 rfl) (slc (Qj9 rfl) (slc (Qh8 Qda) (slc (Qh8 Qaa) Qao))))))))) (slc (Qal (rnc (.plain _ (nld Qaa _)) (rnc (.plain _ nll) (rnc (.plain _ nll) (rnc (.plain _ nll) (rnc (.plain _ (nld Qac _)) rn0)))))) (slc (Qal (rnc (.plain _ nll) rn0)) (slc (Qal (rnc (.plain _ nll) rn0)) (slc (Qal (rnc (Qj1 rfl) rn0)) (slc (Qal (rnc (Qj1 rfl) rn0)) (slc (Qjh rfl) (slc (Qjh rfl) (slc (Qh8 Qda) (slc (Qh8 Qaa) Qao))))))))) (.plain _ nll) rfl rfl rfl, trivial⟩ ?_
       obtain ⟨ha49, h⟩ := cko h
       refine wx tbk [(2, rp [(.tmp 55, I x48)] (.dat 1 (([x48] : List Int).map Qab))), (3, ⟨[(.tmp 54, (Qus y37)), (.tmp 56, (.dat 1 (([x48] : List Int).map Qab)))], [(1, .tok), (10, .unused)], (.acc 10 3 1 ((y37 ++ ([x48]) : List Int).map Qab)), [(1, .dead), (10, .tok)], false⟩)] ⟨Qct (vs := [I x48]) rfl Try.underlying37 ti3 tz3 rfl (by decide) rfl (by decide) (by rfl) (by rfl) (by rfl) rfl, Qg4 rfl Try.underlying37 te3 (Base.acc _ _) rfl rfl (by rfl) (Qoj Qab ha49) (Qoi Qab ha49 (by decide)) (Qoh Qab) rfl rfl, trivial⟩ ?_
       refine wx1 tbk [] trivial ?_
       refine bln ?_
       refine thn ?_
       refine wx1 tbk [] trivial ?_
       refine thn ?_
       exact arm (mto (n := 69) [(1, .ref 0 5 0 0), (2, (.acc 10 3 1 ((y37 ++ ([x48]) : List Int).map Qab))), (4, .ref 2 1 0 0), (6, .ref 3 1 0 0), (9, .ref 4 1 0 0), (46, (I ((p0.Hours.length : Int)))), (47, (I (w64 (y38 + 1))))] [0, 10, 2, 3, 4, 5, 6, 7, 8] [(Qjq p0), .tok, (z50_57 p0), (z50_56 p0), (.own 1 [[I x48]]), (Qlc y13), (Qmr y14), (Qh6 y15), (Qjb y16)] hφ0 (pc (.rn (rqr rfl)) (pc (.rn (Qg9 rfl (Qfm Qaa _))) (pc (.rn (rqr rfl)) (pc (.rn (rqr rfl)) (pc (.rn (rqr rfl)) (pc rwl (pc rwl pn))))))) (qc (spb (lc (.rn (.plain _ (nld Qaa _))) (lc rwl (lc rwl (lc rwl (lc (.rn (.plain _ (nld Qac _))) ln)))))) (qc .tok (qc (spb (lc (.rn (Qag rfl)) ln)) (qc (spb (lc (.rn (Qag rfl)) ln)) (qc (spb (lc rwl ln)) (qc (Qa6 rfl) (qc (Qa6 rfl) (qc (Qbq Qaa) (qc (Qbq Qda) qn)))))))))) (ih (y37 ++ ([x48]), w64 (y38 + 1), x48) h)
      ·replace h := Qat hc44 h
       refine wfn hc44 (by kernel_rfl) ?_
       refine Qa2 ?_
       refine Qaq ?_
       refine Qaq ?_
       refine Qa1 rfl ?_
       refine thn ?_
       exact ⟨(y37), h, (mto (n := 69) [(1, .ref 0 5 0 0), (2, (Qus y37)), (4, .ref 2 1 0 0)] [0, 1, 2, 5, 7] [(Qjq p0), .tok, (Qs1 p0), (Qlc y13), (Qh6 y15)] hφ0 (pc (.rn (rqr rfl)) (pc (.rn (Qg9 rfl (Qfm Qaa _))) (pc (.rn (rqr rfl)) pn))) (qc (spb (lc (.rn (.plain _ (nld Qaa _))) (lc rwl (lc rwl (lc rwl (lc (.rn (.plain _ (nld Qac _))) ln)))))) (qc .tok (qc (spb (lc (.rn (Qag rfl)) ln)) (qc (Qa6 rfl) (qc (Qbq Qaa) qn))))))⟩
   ·skip
    refine wx tbk [(2, rp [(.tmp 25, (z50_1 p0))] (I ((p0.Hours.length : Int))))] ⟨alm (c := Qax) (l := p0.Hours) (aln rfl Try.underlying45 rfl), trivial⟩ ?_
    refine Qaf ?_
    refine wmr (mto (n := 69) (l' := [(1, .ref 0 5 0 0), (2, nilS), (4, .ref 1 1 0 0), (6, .ref 2 1 0 0), (7, Qv8), (8, (I ((p0.Hours.length : Int))))]) (own' := [(Qjq p0), (Qm3 p0), (Qs0 p0), (.own 1 (((List.replicate (w64 ((p0.Hours.length : Int) + 1)).toNat (0, 0)) : List (Nat × Nat)).map (c_mr 5 1))), (.own 1 (((List.replicate (((w64 ((p0.Hours.length : Int) + 1)).toNat : Nat) : Int).toNat (0, 0)) : List (Nat × Nat)).map (c_mr 6 1))), z50_5, z50_8]) [(1, .ref 0 5 0 0), (2, nilS), (4, .ref 1 1 0 0), (6, .ref 6 1 0 0), (7, z50_10), (8, (I ((p0.Hours.length : Int))))] [0, 1, 6, 2, 4, 3, 5] [(Qjq p0), (.own 1 [[(.own 2 1 (0) ((w64 ((p0.Hours.length : Int) + 1)).toNat))]]), (Qs0 p0), (z50_4 p0), (z50_7 p0), z50_5, z50_8] hφ0 (pc (.rn (rqr rfl)) (pc rwl (pc (.rn (rqr rfl)) (pc (.rn (rqr rfl)) (pc (.rn (Qar rn0 (rnc (rqr rfl) (rnc (rqr rfl) (rnc (rqr rfl) rn0))))) (pc rwl pn)))))) (qc (spb (lc (.rn (.plain _ (nld Qaa _))) (lc rwl (lc rwl (lc rwl (lc (.rn (.plain _ (nld Qac _))) ln)))))) (qc (spb (lc (.rn (Qag rfl)) ln)) (qc (spb (lc (.rn (Qag rfl)) ln)) (qc (Qa6 rfl) (qc (Qa6 rfl) (qc (Qbq Qaa) (qc (Qbq Qda) qn)))))))) ?_
    refine Qbk (τ := Int × (List (Nat × Nat)) × (List (Nat × Nat)) × (List (List Int)) × (List (List Bool))) (fun n t => Qeg N p0 k17 n t.1 t.2.1 t.2.2.1 t.2.2.2.1 t.2.2.2.2 = some r) (fun ⟨y50, y51, y52, y53, y54⟩ => ⟨mk 69 [(1, .ref 0 5 0 0), (2, nilS), (4, .ref 1 1 0 0), (6, .ref 2 1 0 0), (7, Qv8), (8, I y50)], [(Qjq p0), (Qm3 p0), (Qs0 p0), (Qrk y51), (Qrj y52), (Qri y53), (Qrh y54)]⟩) (fun t h => by rw [Qeg] at h; cases h) (fun n60 ih t h => ?_) N ((p0.Hours.length : Int), List.replicate (w64 ((p0.Hours.length : Int) + 1)).toNat (0, 0), List.replicate (((w64 ((p0.Hours.length : Int) + 1)).toNat : Nat) : Int).toNat (0, 0), ([] : List (List Int)), ([] : List (List Bool))) h
    obtain ⟨y50, y51, y52, y53, y54⟩ := t
    rw [Qeg] at h
    skip
    refine wsq ?_
    refine wx tbk [] trivial ?_
    rcases bft ((decide (y50 ≥ 0))) with hc61 | hc61
    ·replace h := Qas hc61 h
     refine wft hc61 (by kernel_rfl) ?_
     refine Qai ?_
     refine thn ?_
     refine wsq ?_
     refine Qaf ?_
     obtain ⟨x63, hf62, h⟩ := bno h
     refine wx1 tbk [(2, ⟨[(.tmp 31, Qv8), (.tmp 32, I y50)], [(0, (Qjq p0)), (1, (Qm3 p0)), (2, (Qs0 p0)), (3, (Qrk y51)), (4, (Qrj y52)), (5, (Qri y53)), (6, (Qrh y54))], (.tup []), [(0, (Qjq p0)), (1, (z50_15 p0)), (2, (z50_16 p0)), (3, (Qur y51 y50 y53 p0)), (4, (Quq y52 y50 y54 p0)), (5, (.mat 1 (matA Qab (x63.1 : List (List Int))))), (6, (.mat 1 (matA Qf9 (x63.2 : List (List Bool)))))], false⟩)] ⟨Qap (first := []) (cap := [.ref 0 5 0 0, .ref 1 1 0 0, .ref 2 1 0 0]) (vs := [I y50]) (σr := [(Qjq p0), (Qm3 p0), (Qs0 p0), (Qrk y51), (Qrj y52), (Qri y53), (Qrh y54)]) (σr' := [(Qjq p0), (z50_15 p0), (z50_16 p0), (Qur y51 y50 y53 p0), (Quq y52 y50 y54 p0), (.mat 1 (matA Qab (x63.1 : List (List Int)))), (.mat 1 (matA Qf9 (x63.2 : List (List Bool))))]) (res' := (.tup [])) [0, 1, 2, 3, 4, 5, 6] rfl enter69 (Qk8 N y50 p0.Levels p0.Ramp p0.Start p0.First p0.Hours ((w64 ((p0.Hours.length : Int) + 1)).toNat) ((((w64 ((p0.Hours.length : Int) + 1)).toNat : Nat) : Int).toNat) y51 y52 y53 y54 _ hf62) rfl (Qb6 (rnc (.plain _ nll) (rnc (Qa7 rfl) (rnc (Qa7 rfl) (rnc (Qa7 rfl) rn0))))) (slc (Qal (rnc (.plain _ (nld Qaa _)) (rnc (.plain _ nll) (rnc (.plain _ nll) (rnc (.plain _ nll) (rnc (.plain _ (nld Qac _)) rn0)))))) (slc (Qal (rnc (Qfs rfl) rn0)) (slc (Qal (rnc (Qfs rfl) rn0)) (slc (Qj9 rfl) (slc (Qj9 rfl) (slc (Qh8 Qaa) (slc (Qh8 Qda) Qao))))))) (slc (Qal (rnc (.plain _ (nld Qaa _)) (rnc (.plain _ nll) (rnc (.plain _ nll) (rnc (.plain _ nll) (rnc (.plain _ (nld Qac _)) rn0)))))) (slc (Qal (rnc (Qj1 rfl) rn0)) (slc (Qal (rnc (Qj1 rfl) rn0)) (slc (Qjh rfl) (slc (Qjh rfl) (slc (Qh8 Qaa) (slc (Qh8 Qda) Qao))))))) (.plain _ (NLt.tup _ nl0)) rfl rfl rfl, trivial⟩ ?_
     refine bln ?_
     refine thn ?_
     refine wx1 tbk [] trivial ?_
     refine thn ?_
     exact arm (mto (n := 69) [(1, .ref 0 5 0 0), (2, nilS), (4, .ref 1 1 0 0), (6, .ref 2 1 0 0), (7, Qv8), (8, (I (w64 (y50 - 1))))] [0, 1, 2, 3, 4, 5, 6] [(Qjq p0), (z50_15 p0), (z50_16 p0), (Qur y51 y50 y53 p0), (Quq y52 y50 y54 p0), (.mat 1 (matA Qab (x63.1 : List (List Int)))), (.mat 1 (matA Qf9 (x63.2 : List (List Bool))))] hφ0 (pc (.rn (rqr rfl)) (pc rwl (pc (.rn (rqr rfl)) (pc (.rn (rqr rfl)) (pc (.rn (Qar rn0 (rnc (rqr rfl) (rnc (rqr rfl) (rnc (rqr rfl) rn0))))) (pc rwl pn)))))) (qc (spb (lc (.rn (.plain _ (nld Qaa _))) (lc rwl (lc rwl (lc rwl (lc (.rn (.plain _ (nld Qac _))) ln)))))) (qc (spb (lc (.rn (Qag rfl)) ln)) (qc (spb (lc (.rn (Qag rfl)) ln)) (qc (Qa6 rfl) (qc (Qa6 rfl) (qc (Qbq Qaa) (qc (Qbq Qda) qn)))))))) (ih (w64 (y50 - 1), y51.set y50.toNat (y53.length, (p0.Levels.length : Int).toNat), y52.set y50.toNat (y54.length, (p0.Levels.length : Int).toNat), x63.1, x63.2) h)
    ·replace h := Qat hc61 h
     refine wfn hc61 (by kernel_rfl) ?_
     refine Qa2 ?_
     refine Qaq ?_
     refine Qaq ?_
     refine Qa1 rfl ?_
     refine thn ?_
     exact ⟨(y51, y52, y53, y54), h, (mto (n := 69) [(1, .ref 0 5 0 0), (2, nilS), (4, .ref 1 1 0 0), (6, .ref 2 1 0 0)] [0, 1, 2, 3, 4, 5, 6] [(Qjq p0), (Qm3 p0), (Qs0 p0), (Qrk y51), (Qrj y52), (Qri y53), (Qrh y54)] hφ0 (pc (.rn (rqr rfl)) (pc rwl (pc (.rn (rqr rfl)) (pc (.rn (rqr rfl)) pn)))) (qc (spb (lc (.rn (.plain _ (nld Qaa _))) (lc rwl (lc rwl (lc rwl (lc (.rn (.plain _ (nld Qac _))) ln)))))) (qc (spb (lc (.rn (Qag rfl)) ln)) (qc (spb (lc (.rn (Qag rfl)) ln)) (qc (Qa6 rfl) (qc (Qa6 rfl) (qc (Qbq Qaa) (qc (Qbq Qda) qn))))))))⟩
end Go.Proofs.Ytlhakkkjgdbdpaa
