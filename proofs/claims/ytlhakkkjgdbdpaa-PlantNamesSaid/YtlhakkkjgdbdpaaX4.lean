/-
  Functions of the program: what they compute, as plain functions, and that they do. No conditions.
-/
import Derived.Test.YtlhakkkjgdbdpaaX3
namespace Go.Proofs.Ytlhakkkjgdbdpaa
open Go.RowKit
def Qgf (_N : Nat) (p0 : Int) (p1 : Int) : Option Bool :=
  bif (decide (p0 > p1)) then
   some (decide (p0 ≤ 1000000))
  else
   some false
set_option maxRecDepth 100000 in
set_option maxHeartbeats 4000000 in
theorem Qka (N : Nat) (p0 : Int) (p1 : Int) (r : Bool) (h : Qgf N p0 p1 = some r) : Spec Try.prog 96 [(I (p0)), (.ref 0 1 (0) 0)] [(.own 1 [[(I (p1))]])] (B (r)) [(.own 1 [[(I (p0))]])] := by
  refine Qac Try.func96 rfl 1 (nle rfl) (fun X φ0 w0 hφ0 => ?_)
  unfold Qgf at h
  refine Qbj ?_
  refine wx tbk [] trivial ?_
  rcases bft ((decide (p0 > p1))) with hb2 | hb2
  ·replace h := Qav hb2 h
   refine wx tbk [(3, rp [(.tmp 7, (B ((decide (p0 > p1)))))] (B true))] ⟨asb hb2 (amv rfl), trivial⟩ ?_
   refine wx tbk [] trivial ?_
   refine wx tbk [] trivial ?_
   refine wmr (mto (n := 14) (l' := [(3, (B ((decide (p0 ≤ 1000000)))))]) (own' := [(.own 1 [[I p0]])]) [(3, (B ((decide (p0 ≤ 1000000)))))] [0] [(.own 1 [[I p0]])] hφ0 (pc rwl pn) (qc (spb (lc rwl ln)) qn)) ?_
   refine Qab ?_
   obtain rfl := osi h
   exact ⟨_, Mor.rfl, Qbx (vs := [(B ((decide (p0 ≤ 1000000))))]) ⟨rot (by kernel_rfl), trivial⟩ rfl (NLt.of0 nll) (by kernel_rfl) (Qag (Qas (nlc (NLt.of0 nll) nl0)) Qa5)⟩
  ·replace h := Qaw hb2 h
   refine wx tbk [(3, rp [(.tmp 7, (B ((decide (p0 > p1)))))] (B false))] ⟨asb hb2 (amv rfl), trivial⟩ ?_
   refine wx tbk [] trivial ?_
   refine wx tbk [] trivial ?_
   refine wmr (mto (n := 14) (l' := [(3, B false)]) (own' := [(.own 1 [[I p0]])]) [(3, B false)] [0] [(.own 1 [[I p0]])] hφ0 (pc rwl pn) (qc (spb (lc rwl ln)) qn)) ?_
   refine Qab ?_
   obtain rfl := osi h
   exact ⟨_, Mor.rfl, Qbx (vs := [B false]) ⟨rot (by kernel_rfl), trivial⟩ rfl (NLt.of0 nll) (by kernel_rfl) (Qag (Qas (nlc (NLt.of0 nll) nl0)) Qa5)⟩
def Qg9 (N : Nat) (p0 : Int) (p1 : Int) : Option Bool :=
  (Qgf N p0 p1).bind fun x3 =>
  some (!x3)
def Qxc : AV := .fn (.func 96) [] [(.ref 1 1 (0) 0)]
set_option maxRecDepth 100000 in
set_option maxHeartbeats 4000000 in
theorem Qk2 (N : Nat) (p0 : Int) (p1 : Int) (r : Bool) (h : Qg9 N p0 p1 = some r) : Spec Try.prog 110 [(I (p0)), (.ref 0 1 (0) 0)] [(.own 1 [[Qxc]]), (.own 1 [[(I (p1))]])] (B (r)) [(.own 1 [[Qxc]]), (.own 1 [[(I (p0))]])] := by
  refine Qac Try.func110 rfl 2 (nle rfl) (fun X φ0 w0 hφ0 => ?_)
  unfold Qg9 at h
  refine Qbj ?_
  refine wx tbk [] trivial ?_
  obtain ⟨x3, hf2, h⟩ := bno h
  refine wx tbk [(2, ⟨[(.tmp 4, Qxc), (.tmp 5, I p0)], [(1, .own 1 [[I p1]])], B x3, [(1, .own 1 [[I p0]])], false⟩)] ⟨Qam (first := []) (cap := [.ref 1 1 0 0]) (vs := [I p0]) (σr := [(.own 1 [[I p1]])]) (σr' := [(.own 1 [[I p0]])]) (res' := (B x3)) [1] rfl enter96 (Qka N p0 p1 _ hf2) rfl (Qbi (rnc (.plain _ nll) (rnc (Qax rfl) rn0))) (slc (Qai (rnc (.plain _ nll) rn0)) Qal) (slc (Qai (rnc (.plain _ nll) rn0)) Qal) (.plain _ nll) rfl rfl rfl, trivial⟩ ?_
  refine wmr (mto (n := 8) (l' := [(3, (B ((!x3))))]) (own' := [(.own 1 [[Qxc]]), (.own 1 [[I p0]])]) [(3, (B ((!x3))))] [0, 1] [(.own 1 [[Qxc]]), (.own 1 [[I p0]])] hφ0 (pc rwl pn) (qc (spb (lc (.rn (Qaq rn0 (rnc (rqr rfl) rn0))) ln)) (qc (spb (lc rwl ln)) qn))) ?_
  refine Qab ?_
  obtain rfl := osi h
  exact ⟨_, Mor.rfl, Qbx (vs := [(B ((!x3)))]) ⟨rot (by kernel_rfl), trivial⟩ rfl (NLt.of0 nll) (by kernel_rfl) (Qag (Qas (nlc (NLt.fn _ _ _ nl0 (nlc (NLt.ref _ _ _ _ (by decide)) nl0)) nl0)) (Qag (Qas (nlc (NLt.of0 nll) nl0)) Qa5))⟩
def Qcb (N : Nat) (p0 : (List Int)) (k4 : Int → Option (Int × Int)) : Nat → Int → Int → Option (Int × Int)
  | 0, _, _ => none
  | n9 + 1, y5, y6 =>
    bif (decide (y5 < (p0.length : Int))) then
     (getI p0 y5).bind fun x11 =>
     (Qg9 N x11 y6).bind fun x16 =>
     bif x16 then
      some (y5, x11)
     else
      Qcb N p0 k4 n9 (w64 (y5 + 1)) x11
    else
     k4 (y6)
def Qef (N : Nat) (p0 : (List Int)) (p1 : Int) : Option (Int × Int) :=
  Qdu (fun y3 =>
    some ((-1), y3)) fun k4 : Int → Option (Int × Int) =>
  Qcb N p0 k4 N 0 p1
def Qs3 (p0 : (List Int)) : AV := .dat 1 ((p0 : List Int).map Qad)
def Qwa : AV := .fn (.func 110) [] [(.ref 0 1 (0) 0)]
def Qls : AV := .fn (.func 96) [] [(.ref 1 1 (0) 0)]
set_option maxRecDepth 100000 in
set_option maxHeartbeats 4000000 in
theorem Qh6 (N : Nat) (p0 : (List Int)) (p1 : Int) (r : (Int × Int)) (h : Qef N p0 p1 = some r) : Spec Try.prog 71 [(Qs3 p0), Qwa] [(.own 1 [[Qls]]), (.own 1 [[(I (p1))]])] (I (r.1)) [(.own 1 [[Qls]]), (.own 1 [[(I (r.2))]])] := by
  refine Qac Try.func71 rfl 2 (nle rfl) (fun X φ0 w0 hφ0 => ?_)
  unfold Qef at h
  refine Qbj ?_
  refine wx tbk [] trivial ?_
  obtain ⟨k4, hk_k4, h⟩ := jko h
  refine wjn (τ := Int) (fun t => k4 t = some r) (fun y3 => ⟨mk 19 [], [(.own 1 [[Qls]]), (.own 1 [[I y3]])]⟩) (fun y3 h => ?_) ?_
  ·subst hk_k4
   refine wx tbk [] trivial ?_
   refine wmr (mto (n := 19) (l' := [(4, (I ((-1))))]) (own' := [(.own 1 [[Qls]]), (.own 1 [[I y3]])]) [(4, (I ((-1))))] [0, 1] [(.own 1 [[Qls]]), (.own 1 [[I y3]])] hφ0 (pc rwl pn) (qc (spb (lc (.rn (Qaq rn0 (rnc (rqr rfl) rn0))) ln)) (qc (spb (lc rwl ln)) qn))) ?_
   refine Qab ?_
   obtain rfl := osi h
   exact ⟨_, Mor.rfl, Qbx (vs := [(I ((-1)))]) ⟨rot (by kernel_rfl), trivial⟩ rfl (NLt.of0 nll) (by kernel_rfl) (Qag (Qas (nlc (NLt.fn _ _ _ nl0 (nlc (NLt.ref _ _ _ _ (by decide)) nl0)) nl0)) (Qag (Qas (nlc (NLt.of0 nll) nl0)) Qa5))⟩
  ·skip
   refine wx tbk [(1, rp [(.tmp 6, (Qs3 p0))] (I ((p0.length : Int))))] ⟨alm (c := Qad) (l := p0) (aln rfl Try.underlying37 rfl), trivial⟩ ?_
   refine Qak ?_
   refine wmr (mto (n := 19) (l' := [(0, (Qs3 p0)), (1, Qwa), (7, (I ((p0.length : Int)))), (8, I 0)]) (own' := [(.own 1 [[Qls]]), (.own 1 [[I p1]])]) [(0, (Qs3 p0)), (1, Qwa), (7, (I ((p0.length : Int)))), (8, I 0)] [0, 1] [(.own 1 [[Qls]]), (.own 1 [[I p1]])] hφ0 (pc (.rn (.plain _ (nld Qaa _))) (pc (.rn (Qaq rn0 (rnc (rqr rfl) rn0))) (pc rwl (pc rwl pn)))) (qc (spb (lc (.rn (Qaq rn0 (rnc (rqr rfl) rn0))) ln)) (qc (spb (lc rwl ln)) qn))) ?_
   refine Qb1 (τ := Int × Int) (fun n t => Qcb N p0 k4 n t.1 t.2 = some r) (fun ⟨y5, y6⟩ => ⟨mk 19 [(0, (Qs3 p0)), (1, Qwa), (7, (I ((p0.length : Int)))), (8, I y5)], [(.own 1 [[Qls]]), (.own 1 [[I y6]])]⟩) (fun t h => by rw [Qcb] at h; cases h) (fun n9 ih t h => ?_) N (0, p1) h
   obtain ⟨y5, y6⟩ := t
   rw [Qcb] at h
   skip
   refine wx tbk [] trivial ?_
   refine wsq ?_
   rcases bft ((decide (y5 < (p0.length : Int)))) with hc10 | hc10
   ·replace h := Qav hc10 h
    refine wft hc10 (by kernel_rfl) ?_
    refine Qao ?_
    refine thn ?_
    refine wsq ?_
    refine Qak ?_
    refine wx tbk [] trivial ?_
    obtain ⟨x11, hg12, h⟩ := bno h
    obtain ⟨hi13, hj14⟩ := gsm hg12
    obtain ⟨x16, hf15, h⟩ := bno h
    refine wx tbk [(3, rp [(.tmp 12, (Qs3 p0)), (.tmp 13, I y5)] (.dptr (Qad (x11)) 0)), (5, ⟨[(.tmp 11, Qwa), (.tmp 15, I x11)], [(0, .own 1 [[Qls]]), (1, .own 1 [[I y6]])], B x16, [(0, .own 1 [[Qls]]), (1, .own 1 [[I x11]])], false⟩)] ⟨aid rfl Try.underlying37 ti3 rfl rfl hi13 (mgt Qad hj14) rfl, Qam (first := []) (cap := [.ref 0 1 0 0]) (vs := [I x11]) (σr := [(.own 1 [[Qls]]), (.own 1 [[I y6]])]) (σr' := [(.own 1 [[Qls]]), (.own 1 [[I x11]])]) (res' := (B x16)) [0, 1] rfl Qq1 (Qk2 N x11 y6 _ hf15) rfl (Qbi (rnc (.plain _ nll) (rnc (Qax rfl) rn0))) (slc (Qai (rnc (Qaq rn0 (rnc (Qax rfl) rn0)) rn0)) (slc (Qai (rnc (.plain _ nll) rn0)) Qal)) (slc (Qai (rnc (Qaq rn0 (rnc (Qbt rfl) rn0)) rn0)) (slc (Qai (rnc (.plain _ nll) rn0)) Qal)) (.plain _ nll) rfl rfl rfl, trivial⟩ ?_
    rcases bft (x16) with hc17 | hc17
    ·replace h := Qav hc17 h
     refine wft hc17 (by kernel_rfl) ?_
     refine wx tbk [] trivial ?_
     refine wmr (mto (n := 19) (l' := [(4, I y5)]) (own' := [(.own 1 [[Qls]]), (.own 1 [[I x11]])]) [(4, I y5)] [0, 1] [(.own 1 [[Qls]]), (.own 1 [[I x11]])] hφ0 (pc rwl pn) (qc (spb (lc (.rn (Qaq rn0 (rnc (rqr rfl) rn0))) ln)) (qc (spb (lc rwl ln)) qn))) ?_
     refine Qab ?_
     refine Qb2 ?_
     refine Qau ?_
     refine Qau ?_
     refine Qb2 ?_
     refine Qau ?_
     obtain rfl := osi h
     exact ⟨_, Mor.rfl, Qbx (vs := [I y5]) ⟨rot (by kernel_rfl), trivial⟩ rfl (NLt.of0 nll) (by kernel_rfl) (Qag (Qas (nlc (NLt.fn _ _ _ nl0 (nlc (NLt.ref _ _ _ _ (by decide)) nl0)) nl0)) (Qag (Qas (nlc (NLt.of0 nll) nl0)) Qa5))⟩
    ·replace h := Qaw hc17 h
     refine wfn hc17 (by kernel_rfl) ?_
     refine Qao ?_
     refine bln ?_
     refine thn ?_
     refine wx1 tbk [] trivial ?_
     refine thn ?_
     exact arm (mto (n := 19) [(0, (Qs3 p0)), (1, Qwa), (7, (I ((p0.length : Int)))), (8, (I (w64 (y5 + 1))))] [0, 1] [(.own 1 [[Qls]]), (.own 1 [[I x11]])] hφ0 (pc (.rn (.plain _ (nld Qaa _))) (pc (.rn (Qaq rn0 (rnc (rqr rfl) rn0))) (pc rwl (pc rwl pn)))) (qc (spb (lc (.rn (Qaq rn0 (rnc (rqr rfl) rn0))) ln)) (qc (spb (lc rwl ln)) qn))) (ih (w64 (y5 + 1), x11) h)
   ·replace h := Qaw hc10 h
    refine wfn hc10 (by kernel_rfl) ?_
    refine Qbh ?_
    refine Qar ?_
    refine Qar ?_
    refine Qbg rfl ?_
    refine thn ?_
    exact ⟨(y6), h, (mto (n := 19) [] [0, 1] [(.own 1 [[Qls]]), (.own 1 [[I y6]])] hφ0 pn (qc (spb (lc (.rn (Qaq rn0 (rnc (rqr rfl) rn0))) ln)) (qc (spb (lc rwl ln)) qn)))⟩
def Qdz (N : Nat) (p0 : (List Int)) (p1 : Int) : Option (Bool × Int) :=
  (Qef N p0 p1).bind fun x4 =>
  some ((decide (x4.1 ≥ 0)), x4.2)
def z53_0 (p0 : (List Int)) : AV := .dat 1 ((p0 : List Int).map Qad)
def z53_1 : AV := .fn (.func 110) [] [(.ref 0 1 (0) 0)]
def Qrr : AV := .fn (.func 96) [] [(.ref 1 1 (0) 0)]
set_option maxRecDepth 100000 in
set_option maxHeartbeats 4000000 in
theorem Qg3 (N : Nat) (p0 : (List Int)) (p1 : Int) (r : (Bool × Int)) (h : Qdz N p0 p1 = some r) : Spec Try.prog 109 [(z53_0 p0), z53_1] [(.own 1 [[Qrr]]), (.own 1 [[(I (p1))]])] (B (r.1)) [(.own 1 [[Qrr]]), (.own 1 [[(I (r.2))]])] := by
  refine Qac Try.func109 rfl 2 (nle rfl) (fun X φ0 w0 hφ0 => ?_)
  unfold Qdz at h
  refine Qbj ?_
  refine wx tbk [] trivial ?_
  obtain ⟨x4, hf3, h⟩ := bno h
  refine wx tbk [(2, ⟨[fu 71, (.tmp 5, (z53_0 p0)), (.tmp 6, z53_1)], [(0, .own 1 [[Qrr]]), (1, .own 1 [[I p1]])], I x4.1, [(0, .own 1 [[Qrr]]), (1, .own 1 [[I x4.2]])], false⟩)] ⟨Qam (first := []) (cap := []) (vs := [(z53_0 p0), z53_1]) (σr := [(.own 1 [[Qrr]]), (.own 1 [[I p1]])]) (σr' := [(.own 1 [[Qrr]]), (.own 1 [[I x4.2]])]) (res' := (I x4.1)) [0, 1] rfl Qqy (Qh6 N p0 p1 _ hf3) rfl (Qbi (rnc (.plain _ (nld Qaa _)) (rnc (Qaq rn0 (rnc (Qax rfl) rn0)) rn0))) (slc (Qai (rnc (Qaq rn0 (rnc (Qax rfl) rn0)) rn0)) (slc (Qai (rnc (.plain _ nll) rn0)) Qal)) (slc (Qai (rnc (Qaq rn0 (rnc (Qbt rfl) rn0)) rn0)) (slc (Qai (rnc (.plain _ nll) rn0)) Qal)) (.plain _ nll) rfl rfl rfl, trivial⟩ ?_
  refine wmr (mto (n := 9) (l' := [(4, (B ((decide (x4.1 ≥ 0)))))]) (own' := [(.own 1 [[Qrr]]), (.own 1 [[I x4.2]])]) [(4, (B ((decide (x4.1 ≥ 0)))))] [0, 1] [(.own 1 [[Qrr]]), (.own 1 [[I x4.2]])] hφ0 (pc rwl pn) (qc (spb (lc (.rn (Qaq rn0 (rnc (rqr rfl) rn0))) ln)) (qc (spb (lc rwl ln)) qn))) ?_
  refine Qab ?_
  obtain rfl := osi h
  exact ⟨_, Mor.rfl, Qbx (vs := [(B ((decide (x4.1 ≥ 0))))]) ⟨rot (by kernel_rfl), trivial⟩ rfl (NLt.of0 nll) (by kernel_rfl) (Qag (Qas (nlc (NLt.fn _ _ _ nl0 (nlc (NLt.ref _ _ _ _ (by decide)) nl0)) nl0)) (Qag (Qas (nlc (NLt.of0 nll) nl0)) Qa5))⟩
def Qil (N : Nat) (p0 : (List Int)) (p1 : Int) : Option (Bool × Int) :=
  (Qdz N p0 p1).bind fun x4 =>
  some ((!x4.1), x4.2)
def z52_1 (p0 : (List Int)) : AV := .dat 1 ((p0 : List Int).map Qad)
def Qxd : AV := .fn (.func 96) [] [(.ref 0 1 (0) 0)]
def z52_2 : AV := .fn (.func 110) [] [(.ref 1 1 (0) 0)]
set_option maxRecDepth 100000 in
set_option maxHeartbeats 4000000 in
theorem Qdv (N : Nat) (p0 : (List Int)) (p1 : Int) (r : (Bool × Int)) (h : Qil N p0 p1 = some r) : Spec Try.prog 89 [(z52_1 p0), Qxd] [(.own 1 [[(I (p1))]])] (B (r.1)) [(.own 1 [[(I (r.2))]])] := by
  refine Qac Try.func89 rfl 1 (nle rfl) (fun X φ0 w0 hφ0 => ?_)
  unfold Qil at h
  refine Qbj ?_
  refine wx tbk [] trivial ?_
  obtain ⟨x4, hf3, h⟩ := bno h
  refine wx tbk [(1, rp [(.tmp 3, .ref 1 1 0 0)] z52_2), (2, ⟨[fu 109, (.tmp 5, (z52_1 p0)), (.tmp 6, z52_2)], [(1, .own 1 [[Qxd]]), (0, .own 1 [[I p1]])], B x4.1, [(1, .own 1 [[Qxd]]), (0, .own 1 [[I x4.2]])], false⟩)] ⟨Qdt (fs := []) (cs := [.ref 1 1 0 0]) rfl rfl rfl rfl, Qam (first := []) (cap := []) (vs := [(z52_1 p0), z52_2]) (σr := [(.own 1 [[Qxd]]), (.own 1 [[I p1]])]) (σr' := [(.own 1 [[Qxd]]), (.own 1 [[I x4.2]])]) (res' := (B x4.1)) [1, 0] rfl Qq2 (Qg3 N p0 p1 _ hf3) rfl (Qbi (rnc (.plain _ (nld Qaa _)) (rnc (Qaq rn0 (rnc (Qax rfl) rn0)) rn0))) (slc (Qai (rnc (Qaq rn0 (rnc (Qax rfl) rn0)) rn0)) (slc (Qai (rnc (.plain _ nll) rn0)) Qal)) (slc (Qai (rnc (Qaq rn0 (rnc (Qbt rfl) rn0)) rn0)) (slc (Qai (rnc (.plain _ nll) rn0)) Qal)) (.plain _ nll) rfl rfl rfl, trivial⟩ ?_
  refine wmr (mto (n := 9) (l' := [(4, (B ((!x4.1))))]) (own' := [(.own 1 [[I x4.2]])]) [(4, (B ((!x4.1))))] [0] [(.own 1 [[I x4.2]])] hφ0 (pc rwl pn) (qc (spb (lc rwl ln)) qn)) ?_
  refine Qab ?_
  obtain rfl := osi h
  exact ⟨_, Mor.rfl, Qbx (vs := [(B ((!x4.1)))]) ⟨rot (by kernel_rfl), trivial⟩ rfl (NLt.of0 nll) (by kernel_rfl) (Qag (Qas (nlc (NLt.of0 nll) nl0)) Qa5)⟩
def Qhd (N : Nat) (p0 : GHour) : Option Bool :=
  (Qa8 N p0.Price (-1000) 1000).bind fun x2 =>
  bif x2 then
   (Qa8 N p0.Most 0 1000000).bind fun x5 =>
   some x5
  else
   some false
set_option maxRecDepth 100000 in
set_option maxHeartbeats 4000000 in
theorem Qk8 (N : Nat) (p0 : GHour) (r : Bool) (h : Qhd N p0 = some r) : Spec Try.prog 98 [(.agg (Qcr p0))] [] (B r) [] := by
  refine Qac Try.func98 rfl 0 (nle rfl) (fun X φ0 w0 hφ0 => ?_)
  unfold Qhd at h
  refine wx tbk [] trivial ?_
  obtain ⟨x2, hf1, h⟩ := bno h
  rcases bft (x2) with hb3 | hb3
  ·replace h := Qav hb3 h
   obtain ⟨x5, hf4, h⟩ := bno h
   refine wx tbk [(2, rp [fu 65, (.tmp 4, I p0.Price), ci (-1000), ci 1000] (B x2)), (3, rp [(.tmp 5, B x2)] (B true)), (6, rp [(.tmp 6, B true), fu 65, (.tmp 8, I p0.Most), ci 0, ci 1000000] (B x5))] ⟨apc (first := []) (cap := []) (vs := [I p0.Price, (I ((-1000))), I 1000]) rfl Qbs (Qae N p0.Price (-1000) 1000 _ hf1) rfl rfl (nlc nll (nlc nll (nlc nll nl0))) nll rfl, asb hb3 (amv rfl), ag_ (apc (first := []) (cap := []) (vs := [I p0.Most, I 0, I 1000000]) rfl Qbs (Qae N p0.Most 0 1000000 _ hf4) rfl rfl (nlc nll (nlc nll (nlc nll nl0))) nll rfl), trivial⟩ ?_
   refine Qab ?_
   obtain rfl := osi h
   exact fend ⟨[B x5], ⟨rot (by kernel_rfl), trivial⟩, rfl⟩ nll
  ·replace h := Qaw hb3 h
   refine wx tbk [(2, rp [fu 65, (.tmp 4, I p0.Price), ci (-1000), ci 1000] (B x2)), (3, rp [(.tmp 5, B x2)] (B false))] ⟨apc (first := []) (cap := []) (vs := [I p0.Price, (I ((-1000))), I 1000]) rfl Qbs (Qae N p0.Price (-1000) 1000 _ hf1) rfl rfl (nlc nll (nlc nll (nlc nll nl0))) nll rfl, asb hb3 (amv rfl), trivial⟩ ?_
   refine Qab ?_
   obtain rfl := osi h
   exact fend ⟨[B false], ⟨rot (by kernel_rfl), trivial⟩, rfl⟩ nll
def Qe5 (N : Nat) (p0 : GHour) : Option Bool :=
  (Qhd N p0).bind fun x3 =>
  some (!x3)
def z60_1 (p0 : GHour) : AV := .agg [(I (p0.Price)), (I (p0.Most))]
def z60_2 : Slot := .own 1 [[(.fn (.func 98) [] [])]]
set_option maxRecDepth 100000 in
set_option maxHeartbeats 4000000 in
theorem Qiw (N : Nat) (p0 : GHour) (r : Bool) (h : Qe5 N p0 = some r) : Spec Try.prog 117 [(z60_1 p0), (.ref 0 1 (0) 0)] [z60_2] (B (r)) [z60_2] := by
  refine Qac Try.func117 rfl 1 (nle rfl) (fun X φ0 w0 hφ0 => ?_)
  unfold Qe5 at h
  refine Qbj ?_
  refine wx tbk [] trivial ?_
  obtain ⟨x3, hf2, h⟩ := bno h
  refine wx tbk [(2, rp [(.tmp 4, (.fn (.func 98) [] [])), (.tmp 5, (z60_1 p0))] (B x3))] ⟨apc (first := []) (cap := []) (vs := [(z60_1 p0)]) rfl enter98 (Qk8 N p0 _ hf2) rfl rfl (nlc (NLt.agg _ (nlc nll (nlc nll nl0))) nl0) nll rfl, trivial⟩ ?_
  refine wmr (mto (n := 8) (l' := [(3, (B ((!x3))))]) (own' := [z60_2]) [(3, (B ((!x3))))] [0] [z60_2] hφ0 (pc rwl pn) (qc (spb (lc (.rn (Qaq rn0 rn0)) ln)) qn)) ?_
  refine Qab ?_
  obtain rfl := osi h
  exact ⟨_, Mor.rfl, Qbx (vs := [(B ((!x3)))]) ⟨rot (by kernel_rfl), trivial⟩ rfl (NLt.of0 nll) (by kernel_rfl) (Qag (Qas (nlc (NLt.of0 (NLt.fn _ _ _ nl0 nl0)) nl0)) Qa5)⟩
def Qbf (N : Nat) (p0 : (List GHour)) (k2 : Unit → Option Int) : Nat → Int → Option Int
  | 0, _ => none
  | n5 + 1, y3 =>
    bif (decide (y3 < (p0.length : Int))) then
     (getI p0 y3).bind fun x7 =>
     (Qe5 N x7).bind fun x12 =>
     bif x12 then
      some y3
     else
      Qbf N p0 k2 n5 (w64 (y3 + 1))
    else
     k2 ()
def Qcw (N : Nat) (p0 : (List GHour)) : Option Int :=
  Qdu (fun _ =>
    some (-1)) fun k2 : Unit → Option Int =>
  Qbf N p0 k2 N 0
def Qs2 (p0 : (List GHour)) : AV := .dat 2 ((p0 : List GHour).map Qcr)
def Qv9 : AV := .fn (.func 117) [] [(.ref 0 1 (0) 0)]
def Qlr : Slot := .own 1 [[(.fn (.func 98) [] [])]]
set_option maxRecDepth 100000 in
set_option maxHeartbeats 4000000 in
theorem Qfe (N : Nat) (p0 : (List GHour)) (r : Int) (h : Qcw N p0 = some r) : Spec Try.prog 129 [(Qs2 p0), Qv9] [Qlr] (I (r)) [Qlr] := by
  refine Qac Try.func129 rfl 1 (nle rfl) (fun X φ0 w0 hφ0 => ?_)
  unfold Qcw at h
  refine Qbj ?_
  refine wx tbk [] trivial ?_
  obtain ⟨k2, hk_k2, h⟩ := jko h
  refine wjn (τ := Unit) (fun t => k2 t = some r) (fun _ => ⟨mk 19 [], [Qlr]⟩) (fun t h => ?_) ?_
  ·subst hk_k2
   refine wx tbk [] trivial ?_
   refine wmr (mto (n := 19) (l' := [(4, (I ((-1))))]) (own' := [Qlr]) [(4, (I ((-1))))] [0] [Qlr] hφ0 (pc rwl pn) (qc (spb (lc (.rn (Qaq rn0 rn0)) ln)) qn)) ?_
   refine Qab ?_
   obtain rfl := osi h
   exact ⟨_, Mor.rfl, Qbx (vs := [(I ((-1)))]) ⟨rot (by kernel_rfl), trivial⟩ rfl (NLt.of0 nll) (by kernel_rfl) (Qag (Qas (nlc (NLt.of0 (NLt.fn _ _ _ nl0 nl0)) nl0)) Qa5)⟩
  ·skip
   refine wx tbk [(1, rp [(.tmp 6, (Qs2 p0))] (I ((p0.length : Int))))] ⟨alm (c := Qcr) (l := p0) (aln rfl Try.underlying45 rfl), trivial⟩ ?_
   refine Qak ?_
   refine wmr (mto (n := 19) (l' := [(0, (Qs2 p0)), (1, Qv9), (7, (I ((p0.length : Int)))), (8, I 0)]) (own' := [Qlr]) [(0, (Qs2 p0)), (1, Qv9), (7, (I ((p0.length : Int)))), (8, I 0)] [0] [Qlr] hφ0 (pc (.rn (.plain _ (nld Qay _))) (pc (.rn (Qaq rn0 (rnc (rqr rfl) rn0))) (pc rwl (pc rwl pn)))) (qc (spb (lc (.rn (Qaq rn0 rn0)) ln)) qn)) ?_
   refine Qb1 (τ := Int) (fun n t => Qbf N p0 k2 n t = some r) (fun y3 => ⟨mk 19 [(0, (Qs2 p0)), (1, Qv9), (7, (I ((p0.length : Int)))), (8, I y3)], [Qlr]⟩) (fun t h => by rw [Qbf] at h; cases h) (fun n5 ih y3 h => ?_) N (0) h
   rw [Qbf] at h
   skip
   refine wx tbk [] trivial ?_
   refine wsq ?_
   rcases bft ((decide (y3 < (p0.length : Int)))) with hc6 | hc6
   ·replace h := Qav hc6 h
    refine wft hc6 (by kernel_rfl) ?_
    refine Qao ?_
    refine thn ?_
    refine wsq ?_
    refine Qak ?_
    refine wx tbk [] trivial ?_
    obtain ⟨x7, hg8, h⟩ := bno h
    obtain ⟨hi9, hj10⟩ := gsm hg8
    obtain ⟨x12, hf11, h⟩ := bno h
    refine wx tbk [(3, rp [(.tmp 12, (Qs2 p0)), (.tmp 13, I y3)] (.dptr (Qcr (x7)) 0)), (5, ⟨[(.tmp 11, Qv9), (.tmp 15, (.agg [I x7.Price, I x7.Most]))], [(0, Qlr)], B x12, [(0, Qlr)], false⟩)] ⟨aid rfl Try.underlying45 ti50 rfl rfl hi9 (mgt Qcr hj10) rfl, Qam (first := []) (cap := [.ref 0 1 0 0]) (vs := [(.agg [I x7.Price, I x7.Most])]) (σr := [Qlr]) (σr' := [Qlr]) (res' := (B x12)) [0] rfl enter117 (Qiw N x7 _ hf11) rfl (Qbi (rnc (.plain _ (NLt.agg _ (nlc nll (nlc nll nl0)))) (rnc (Qax rfl) rn0))) (slc (Qai (rnc (.plain _ (NLt.fn _ _ _ nl0 nl0)) rn0)) Qal) (slc (Qai (rnc (.plain _ (NLt.fn _ _ _ nl0 nl0)) rn0)) Qal) (.plain _ nll) rfl rfl rfl, trivial⟩ ?_
    rcases bft (x12) with hc13 | hc13
    ·replace h := Qav hc13 h
     refine wft hc13 (by kernel_rfl) ?_
     refine wx tbk [] trivial ?_
     refine wmr (mto (n := 19) (l' := [(4, I y3)]) (own' := [Qlr]) [(4, I y3)] [0] [Qlr] hφ0 (pc rwl pn) (qc (spb (lc (.rn (Qaq rn0 rn0)) ln)) qn)) ?_
     refine Qab ?_
     refine Qb2 ?_
     refine Qau ?_
     refine Qau ?_
     refine Qb2 ?_
     refine Qau ?_
     obtain rfl := osi h
     exact ⟨_, Mor.rfl, Qbx (vs := [I y3]) ⟨rot (by kernel_rfl), trivial⟩ rfl (NLt.of0 nll) (by kernel_rfl) (Qag (Qas (nlc (NLt.of0 (NLt.fn _ _ _ nl0 nl0)) nl0)) Qa5)⟩
    ·replace h := Qaw hc13 h
     refine wfn hc13 (by kernel_rfl) ?_
     refine Qao ?_
     refine bln ?_
     refine thn ?_
     refine wx1 tbk [] trivial ?_
     refine thn ?_
     exact arm (mto (n := 19) [(0, (Qs2 p0)), (1, Qv9), (7, (I ((p0.length : Int)))), (8, (I (w64 (y3 + 1))))] [0] [Qlr] hφ0 (pc (.rn (.plain _ (nld Qay _))) (pc (.rn (Qaq rn0 (rnc (rqr rfl) rn0))) (pc rwl (pc rwl pn)))) (qc (spb (lc (.rn (Qaq rn0 rn0)) ln)) qn)) (ih (w64 (y3 + 1)) h)
   ·replace h := Qaw hc6 h
    refine wfn hc6 (by kernel_rfl) ?_
    refine Qbh ?_
    refine Qar ?_
    refine Qar ?_
    refine Qbg rfl ?_
    refine thn ?_
    exact ⟨(), h, (mto (n := 19) [] [0] [Qlr] hφ0 pn (qc (spb (lc (.rn (Qaq rn0 rn0)) ln)) qn))⟩
def Qcl (N : Nat) (p0 : (List GHour)) : Option Bool :=
  (Qcw N p0).bind fun x3 =>
  some (decide (x3 ≥ 0))
def z58_0 (p0 : (List GHour)) : AV := .dat 2 ((p0 : List GHour).map Qcr)
def z58_1 : AV := .fn (.func 117) [] [(.ref 0 1 (0) 0)]
def Qrq : Slot := .own 1 [[(.fn (.func 98) [] [])]]
set_option maxRecDepth 100000 in
set_option maxHeartbeats 4000000 in
theorem Qe1 (N : Nat) (p0 : (List GHour)) (r : Bool) (h : Qcl N p0 = some r) : Spec Try.prog 116 [(z58_0 p0), z58_1] [Qrq] (B (r)) [Qrq] := by
  refine Qac Try.func116 rfl 1 (nle rfl) (fun X φ0 w0 hφ0 => ?_)
  unfold Qcl at h
  refine Qbj ?_
  refine wx tbk [] trivial ?_
  obtain ⟨x3, hf2, h⟩ := bno h
  refine wx tbk [(2, ⟨[fu 129, (.tmp 5, (z58_0 p0)), (.tmp 6, z58_1)], [(0, Qrq)], I x3, [(0, Qrq)], false⟩)] ⟨Qam (first := []) (cap := []) (vs := [(z58_0 p0), z58_1]) (σr := [Qrq]) (σr' := [Qrq]) (res' := (I x3)) [0] rfl enter129 (Qfe N p0 _ hf2) rfl (Qbi (rnc (.plain _ (nld Qay _)) (rnc (Qaq rn0 (rnc (Qax rfl) rn0)) rn0))) (slc (Qai (rnc (.plain _ (NLt.fn _ _ _ nl0 nl0)) rn0)) Qal) (slc (Qai (rnc (.plain _ (NLt.fn _ _ _ nl0 nl0)) rn0)) Qal) (.plain _ nll) rfl rfl rfl, trivial⟩ ?_
  refine wmr (mto (n := 9) (l' := [(4, (B ((decide (x3 ≥ 0)))))]) (own' := [Qrq]) [(4, (B ((decide (x3 ≥ 0)))))] [0] [Qrq] hφ0 (pc rwl pn) (qc (spb (lc (.rn (Qaq rn0 rn0)) ln)) qn)) ?_
  refine Qab ?_
  obtain rfl := osi h
  exact ⟨_, Mor.rfl, Qbx (vs := [(B ((decide (x3 ≥ 0))))]) ⟨rot (by kernel_rfl), trivial⟩ rfl (NLt.of0 nll) (by kernel_rfl) (Qag (Qas (nlc (NLt.of0 (NLt.fn _ _ _ nl0 nl0)) nl0)) Qa5)⟩
def Qfo (N : Nat) (p0 : (List GHour)) : Option Bool :=
  (Qcl N p0).bind fun x2 =>
  some (!x2)
def z57_1 (p0 : (List GHour)) : AV := .dat 2 ((p0 : List GHour).map Qcr)
def z57_2 : AV := .fn (.func 117) [] [(.ref 0 1 (0) 0)]
def z57_0 : Slot := .own 1 [[(.fn (.func 98) [] [])]]
set_option maxRecDepth 100000 in
set_option maxHeartbeats 4000000 in
theorem Qje (N : Nat) (p0 : (List GHour)) (r : Bool) (h : Qfo N p0 = some r) : Spec Try.prog 97 [(z57_1 p0), (.fn (.func 98) [] [])] [] (B (r)) [] := by
  refine Qac Try.func97 rfl 0 (nle rfl) (fun X φ0 w0 hφ0 => ?_)
  unfold Qfo at h
  refine wx tbk [] trivial ?_
  obtain ⟨x2, hf1, h⟩ := bno h
  refine wx tbk [(1, rp [(.tmp 3, .ref 0 1 0 0)] z57_2), (2, ⟨[fu 116, (.tmp 5, (z57_1 p0)), (.tmp 6, z57_2)], [(0, z57_0)], B x2, [(0, z57_0)], false⟩)] ⟨Qdt (fs := []) (cs := [.ref 0 1 0 0]) rfl rfl rfl rfl, Qam (first := []) (cap := []) (vs := [(z57_1 p0), z57_2]) (σr := [z57_0]) (σr' := [z57_0]) (res' := (B x2)) [0] rfl enter116 (Qe1 N p0 _ hf1) rfl (Qbi (rnc (.plain _ (nld Qay _)) (rnc (Qaq rn0 (rnc (Qax rfl) rn0)) rn0))) (slc (Qai (rnc (.plain _ (NLt.fn _ _ _ nl0 nl0)) rn0)) Qal) (slc (Qai (rnc (.plain _ (NLt.fn _ _ _ nl0 nl0)) rn0)) Qal) (.plain _ nll) rfl rfl rfl, trivial⟩ ?_
  refine Qab ?_
  obtain rfl := osi h
  exact fend ⟨[(B ((!x2)))], ⟨rot (by kernel_rfl), trivial⟩, rfl⟩ nll
def Qgj (N : Nat) (p0 : GJob) : Option Bool :=
  (Qa8 N (p0.Levels.length : Int) 2 12).bind fun x2 =>
  bif x2 then
   (getI p0.Levels 0).bind fun x4 =>
   bif (x4 == 0) then
    (Qil N p0.Levels (-1)).bind fun x10 =>
    bif x10.1 then
     (Qa8 N p0.Ramp 1 12).bind fun x13 =>
     bif x13 then
      (Qa8 N p0.Start 0 1000000000).bind fun x16 =>
      bif x16 then
       (Qa8 N p0.First 0 (w64 ((p0.Levels.length : Int) - 1))).bind fun x19 =>
       bif x19 then
        (Qa8 N (p0.Hours.length : Int) 1 100).bind fun x22 =>
        bif x22 then
         (Qfo N p0.Hours).bind fun x25 =>
         some x25
        else
         some false
       else
        some false
      else
       some false
     else
      some false
    else
     some false
   else
    some false
  else
   some false
def Qm2 : AV := .fn (.func 96) [] [(.ref 1 1 (0) 0)]
def Qgw (p0 : GJob) : AV := .dat 1 ((p0.Levels : List Int).map Qad)
def z51_1 (p0 : GJob) : AV := .dat 2 ((p0.Hours : List GHour).map Qcr)
set_option maxRecDepth 100000 in
set_option maxHeartbeats 4000000 in
theorem Qgp (N : Nat) (p0 : GJob) (r : Bool) (h : Qgj N p0 = some r) : Spec Try.prog 68 [(.agg (Qo5 p0))] [] (B r) [] := by
  refine Qac Try.func68 rfl 0 (nle rfl) (fun X φ0 w0 hφ0 => ?_)
  unfold Qgj at h
  refine wx tbk [] trivial ?_
  refine wx tbk [] trivial ?_
  refine wx tbk [(0, rp [(.tmp 3, .ref 1 1 0 0)] Qm2)] ⟨Qdt (fs := []) (cs := [.ref 1 1 0 0]) rfl rfl rfl rfl, trivial⟩ ?_
  obtain ⟨x2, hf1, h⟩ := bno h
  rcases bft (x2) with hb3 | hb3
  ·replace h := Qav hb3 h
   obtain ⟨x4, hg5, h⟩ := bno h
   obtain ⟨hi6, hj7⟩ := gsm hg5
   rcases bft ((x4 == 0)) with hb8 | hb8
   ·replace h := Qav hb8 h
    obtain ⟨x10, hf9, h⟩ := bno h
    rcases bft (x10.1) with hb11 | hb11
    ·replace h := Qav hb11 h
     obtain ⟨x13, hf12, h⟩ := bno h
     rcases bft (x13) with hb14 | hb14
     ·replace h := Qav hb14 h
      obtain ⟨x16, hf15, h⟩ := bno h
      rcases bft (x16) with hb17 | hb17
      ·replace h := Qav hb17 h
       obtain ⟨x19, hf18, h⟩ := bno h
       rcases bft (x19) with hb20 | hb20
       ·replace h := Qav hb20 h
        obtain ⟨x22, hf21, h⟩ := bno h
        rcases bft (x22) with hb23 | hb23
        ·replace h := Qav hb23 h
         obtain ⟨x25, hf24, h⟩ := bno h
         refine wx tbk [(2, rp [(.tmp 7, (Qgw p0))] (I ((p0.Levels.length : Int)))), (3, rp [fu 65, (.tmp 8, (I ((p0.Levels.length : Int)))), ci 2, ci 12] (B x2)), (4, rp [(.tmp 9, B x2)] (B true)), (7, rp [(.tmp 10, B true), (.tmp 12, (Qgw p0)), ci 0] (.dptr (Qad (x4)) 0)), (11, rp [(.tmp 16, (B ((x4 == 0))))] (B true)), (15, ⟨[(.tmp 17, B true), fu 89, (.tmp 19, (Qgw p0)), (.tmp 20, Qm2)], [(1, (.own 1 [[(I ((-1)))]]))], B x10.1, [(1, .own 1 [[I x10.2]])], false⟩), (17, rp [(.tmp 22, B x10.1)] (B true)), (20, rp [(.tmp 23, B true), fu 65, (.tmp 25, I p0.Ramp), ci 1, ci 12] (B x13)), (22, rp [(.tmp 27, B x13)] (B true)), (25, rp [(.tmp 28, B true), fu 65, (.tmp 30, I p0.Start), ci 0, ci 1000000000] (B x16)), (27, rp [(.tmp 32, B x16)] (B true)), (32, rp [(.tmp 33, B true), (.tmp 37, (Qgw p0))] (I ((p0.Levels.length : Int)))), (34, rp [(.tmp 33, B true), fu 65, (.tmp 35, I p0.First), ci 0, (.tmp 39, (I (w64 ((p0.Levels.length : Int) - 1))))] (B x19)), (36, rp [(.tmp 41, B x19)] (B true)), (39, rp [(.tmp 42, B true), (.tmp 44, (z51_1 p0))] (I ((p0.Hours.length : Int)))), (40, rp [(.tmp 42, B true), fu 65, (.tmp 45, (I ((p0.Hours.length : Int)))), ci 1, ci 100] (B x22)), (42, rp [(.tmp 47, B x22)] (B true)), (45, rp [(.tmp 48, B true), fu 97, (.tmp 50, (z51_1 p0)), fu 98] (B x25))] ⟨alm (c := Qad) (l := p0.Levels) (aln rfl Try.underlying37 rfl), apc (first := []) (cap := []) (vs := [(I ((p0.Levels.length : Int))), I 2, I 12]) rfl Qbs (Qae N (p0.Levels.length : Int) 2 12 _ hf1) rfl rfl (nlc nll (nlc nll (nlc nll nl0))) nll rfl, asb hb3 (amv rfl), ag_ (aid rfl Try.underlying37 ti3 rfl rfl hi6 (mgt Qad hj7) rfl), asb hb8 (amv rfl), ag_ (Qam (first := []) (cap := []) (vs := [(Qgw p0), Qm2]) (σr := [(.own 1 [[(I ((-1)))]])]) (σr' := [(.own 1 [[I x10.2]])]) (res' := (B x10.1)) [1] rfl Qjp (Qdv N p0.Levels (-1) _ hf9) rfl (Qbi (rnc (.plain _ (nld Qaa _)) (rnc (Qaq rn0 (rnc (Qax rfl) rn0)) rn0))) (slc (Qai (rnc (.plain _ nll) rn0)) Qal) (slc (Qai (rnc (.plain _ nll) rn0)) Qal) (.plain _ nll) rfl rfl rfl), asb hb11 (amv rfl), ag_ (apc (first := []) (cap := []) (vs := [I p0.Ramp, I 1, I 12]) rfl Qbs (Qae N p0.Ramp 1 12 _ hf12) rfl rfl (nlc nll (nlc nll (nlc nll nl0))) nll rfl), asb hb14 (amv rfl), ag_ (apc (first := []) (cap := []) (vs := [I p0.Start, I 0, I 1000000000]) rfl Qbs (Qae N p0.Start 0 1000000000 _ hf15) rfl rfl (nlc nll (nlc nll (nlc nll nl0))) nll rfl), asb hb17 (amv rfl), ag_ (alm (c := Qad) (l := p0.Levels) (aln rfl Try.underlying37 rfl)), ag_ (apc (first := []) (cap := []) (vs := [I p0.First, I 0, (I (w64 ((p0.Levels.length : Int) - 1)))]) rfl Qbs (Qae N p0.First 0 (w64 ((p0.Levels.length : Int) - 1)) _ hf18) rfl rfl (nlc nll (nlc nll (nlc nll nl0))) nll rfl), asb hb20 (amv rfl), ag_ (alm (c := Qcr) (l := p0.Hours) (aln rfl Try.underlying45 rfl)), ag_ (apc (first := []) (cap := []) (vs := [(I ((p0.Hours.length : Int))), I 1, I 100]) rfl Qbs (Qae N (p0.Hours.length : Int) 1 100 _ hf21) rfl rfl (nlc nll (nlc nll (nlc nll nl0))) nll rfl), asb hb23 (amv rfl), ag_ (Qam (first := []) (cap := []) (vs := [(z51_1 p0), (.fn (.func 98) [] [])]) (σr := []) (σr' := []) (res' := (B x25)) [] rfl enter97 (Qje N p0.Hours _ hf24) rfl (Qbi (rnc (.plain _ (nld Qay _)) (rnc (.plain _ (NLt.fn _ _ _ nl0 nl0)) rn0))) Qal Qal (.plain _ nll) rfl rfl rfl), trivial⟩ ?_
         refine Qab ?_
         obtain rfl := osi h
         exact fend ⟨[B x25], ⟨rot (by kernel_rfl), trivial⟩, rfl⟩ nll
        ·replace h := Qaw hb23 h
         refine wx tbk [(2, rp [(.tmp 7, (Qgw p0))] (I ((p0.Levels.length : Int)))), (3, rp [fu 65, (.tmp 8, (I ((p0.Levels.length : Int)))), ci 2, ci 12] (B x2)), (4, rp [(.tmp 9, B x2)] (B true)), (7, rp [(.tmp 10, B true), (.tmp 12, (Qgw p0)), ci 0] (.dptr (Qad (x4)) 0)), (11, rp [(.tmp 16, (B ((x4 == 0))))] (B true)), (15, ⟨[(.tmp 17, B true), fu 89, (.tmp 19, (Qgw p0)), (.tmp 20, Qm2)], [(1, (.own 1 [[(I ((-1)))]]))], B x10.1, [(1, .own 1 [[I x10.2]])], false⟩), (17, rp [(.tmp 22, B x10.1)] (B true)), (20, rp [(.tmp 23, B true), fu 65, (.tmp 25, I p0.Ramp), ci 1, ci 12] (B x13)), (22, rp [(.tmp 27, B x13)] (B true)), (25, rp [(.tmp 28, B true), fu 65, (.tmp 30, I p0.Start), ci 0, ci 1000000000] (B x16)), (27, rp [(.tmp 32, B x16)] (B true)), (32, rp [(.tmp 33, B true), (.tmp 37, (Qgw p0))] (I ((p0.Levels.length : Int)))), (34, rp [(.tmp 33, B true), fu 65, (.tmp 35, I p0.First), ci 0, (.tmp 39, (I (w64 ((p0.Levels.length : Int) - 1))))] (B x19)), (36, rp [(.tmp 41, B x19)] (B true)), (39, rp [(.tmp 42, B true), (.tmp 44, (z51_1 p0))] (I ((p0.Hours.length : Int)))), (40, rp [(.tmp 42, B true), fu 65, (.tmp 45, (I ((p0.Hours.length : Int)))), ci 1, ci 100] (B x22)), (42, rp [(.tmp 47, B x22)] (B false))] ⟨alm (c := Qad) (l := p0.Levels) (aln rfl Try.underlying37 rfl), apc (first := []) (cap := []) (vs := [(I ((p0.Levels.length : Int))), I 2, I 12]) rfl Qbs (Qae N (p0.Levels.length : Int) 2 12 _ hf1) rfl rfl (nlc nll (nlc nll (nlc nll nl0))) nll rfl, asb hb3 (amv rfl), ag_ (aid rfl Try.underlying37 ti3 rfl rfl hi6 (mgt Qad hj7) rfl), asb hb8 (amv rfl), ag_ (Qam (first := []) (cap := []) (vs := [(Qgw p0), Qm2]) (σr := [(.own 1 [[(I ((-1)))]])]) (σr' := [(.own 1 [[I x10.2]])]) (res' := (B x10.1)) [1] rfl Qjp (Qdv N p0.Levels (-1) _ hf9) rfl (Qbi (rnc (.plain _ (nld Qaa _)) (rnc (Qaq rn0 (rnc (Qax rfl) rn0)) rn0))) (slc (Qai (rnc (.plain _ nll) rn0)) Qal) (slc (Qai (rnc (.plain _ nll) rn0)) Qal) (.plain _ nll) rfl rfl rfl), asb hb11 (amv rfl), ag_ (apc (first := []) (cap := []) (vs := [I p0.Ramp, I 1, I 12]) rfl Qbs (Qae N p0.Ramp 1 12 _ hf12) rfl rfl (nlc nll (nlc nll (nlc nll nl0))) nll rfl), asb hb14 (amv rfl), ag_ (apc (first := []) (cap := []) (vs := [I p0.Start, I 0, I 1000000000]) rfl Qbs (Qae N p0.Start 0 1000000000 _ hf15) rfl rfl (nlc nll (nlc nll (nlc nll nl0))) nll rfl), asb hb17 (amv rfl), ag_ (alm (c := Qad) (l := p0.Levels) (aln rfl Try.underlying37 rfl)), ag_ (apc (first := []) (cap := []) (vs := [I p0.First, I 0, (I (w64 ((p0.Levels.length : Int) - 1)))]) rfl Qbs (Qae N p0.First 0 (w64 ((p0.Levels.length : Int) - 1)) _ hf18) rfl rfl (nlc nll (nlc nll (nlc nll nl0))) nll rfl), asb hb20 (amv rfl), ag_ (alm (c := Qcr) (l := p0.Hours) (aln rfl Try.underlying45 rfl)), ag_ (apc (first := []) (cap := []) (vs := [(I ((p0.Hours.length : Int))), I 1, I 100]) rfl Qbs (Qae N (p0.Hours.length : Int) 1 100 _ hf21) rfl rfl (nlc nll (nlc nll (nlc nll nl0))) nll rfl), asb hb23 (amv rfl), trivial⟩ ?_
         refine Qab ?_
         obtain rfl := osi h
         exact fend ⟨[B false], ⟨rot (by kernel_rfl), trivial⟩, rfl⟩ nll
       ·replace h := Qaw hb20 h
        refine wx tbk [(2, rp [(.tmp 7, (Qgw p0))] (I ((p0.Levels.length : Int)))), (3, rp [fu 65, (.tmp 8, (I ((p0.Levels.length : Int)))), ci 2, ci 12] (B x2)), (4, rp [(.tmp 9, B x2)] (B true)), (7, rp [(.tmp 10, B true), (.tmp 12, (Qgw p0)), ci 0] (.dptr (Qad (x4)) 0)), (11, rp [(.tmp 16, (B ((x4 == 0))))] (B true)), (15, ⟨[(.tmp 17, B true), fu 89, (.tmp 19, (Qgw p0)), (.tmp 20, Qm2)], [(1, (.own 1 [[(I ((-1)))]]))], B x10.1, [(1, .own 1 [[I x10.2]])], false⟩), (17, rp [(.tmp 22, B x10.1)] (B true)), (20, rp [(.tmp 23, B true), fu 65, (.tmp 25, I p0.Ramp), ci 1, ci 12] (B x13)), (22, rp [(.tmp 27, B x13)] (B true)), (25, rp [(.tmp 28, B true), fu 65, (.tmp 30, I p0.Start), ci 0, ci 1000000000] (B x16)), (27, rp [(.tmp 32, B x16)] (B true)), (32, rp [(.tmp 33, B true), (.tmp 37, (Qgw p0))] (I ((p0.Levels.length : Int)))), (34, rp [(.tmp 33, B true), fu 65, (.tmp 35, I p0.First), ci 0, (.tmp 39, (I (w64 ((p0.Levels.length : Int) - 1))))] (B x19)), (36, rp [(.tmp 41, B x19)] (B false))] ⟨alm (c := Qad) (l := p0.Levels) (aln rfl Try.underlying37 rfl), apc (first := []) (cap := []) (vs := [(I ((p0.Levels.length : Int))), I 2, I 12]) rfl Qbs (Qae N (p0.Levels.length : Int) 2 12 _ hf1) rfl rfl (nlc nll (nlc nll (nlc nll nl0))) nll rfl, asb hb3 (amv rfl), ag_ (aid rfl Try.underlying37 ti3 rfl rfl hi6 (mgt Qad hj7) rfl), asb hb8 (amv rfl), ag_ (Qam (first := []) (cap := []) (vs := [(Qgw p0), Qm2]) (σr := [(.own 1 [[(I ((-1)))]])]) (σr' := [(.own 1 [[I x10.2]])]) (res' := (B x10.1)) [1] rfl Qjp (Qdv N p0.Levels (-1) _ hf9) rfl (Qbi (rnc (.plain _ (nld Qaa _)) (rnc (Qaq rn0 (rnc (Qax rfl) rn0)) rn0))) (slc (Qai (rnc (.plain _ nll) rn0)) Qal) (slc (Qai (rnc (.plain _ nll) rn0)) Qal) (.plain _ nll) rfl rfl rfl), asb hb11 (amv rfl), ag_ (apc (first := []) (cap := []) (vs := [I p0.Ramp, I 1, I 12]) rfl Qbs (Qae N p0.Ramp 1 12 _ hf12) rfl rfl (nlc nll (nlc nll (nlc nll nl0))) nll rfl), asb hb14 (amv rfl), ag_ (apc (first := []) (cap := []) (vs := [I p0.Start, I 0, I 1000000000]) rfl Qbs (Qae N p0.Start 0 1000000000 _ hf15) rfl rfl (nlc nll (nlc nll (nlc nll nl0))) nll rfl), asb hb17 (amv rfl), ag_ (alm (c := Qad) (l := p0.Levels) (aln rfl Try.underlying37 rfl)), ag_ (apc (first := []) (cap := []) (vs := [I p0.First, I 0, (I (w64 ((p0.Levels.length : Int) - 1)))]) rfl Qbs (Qae N p0.First 0 (w64 ((p0.Levels.length : Int) - 1)) _ hf18) rfl rfl (nlc nll (nlc nll (nlc nll nl0))) nll rfl), asb hb20 (amv rfl), trivial⟩ ?_
        refine Qab ?_
        obtain rfl := osi h
        exact fend ⟨[B false], ⟨rot (by kernel_rfl), trivial⟩, rfl⟩ nll
      ·replace h := Qaw hb17 h
       refine wx tbk [(2, rp [(.tmp 7, (Qgw p0))] (I ((p0.Levels.length : Int)))), (3, rp [fu 65, (.tmp 8, (I ((p0.Levels.length : Int)))), ci 2, ci 12] (B x2)), (4, rp [(.tmp 9, B x2)] (B true)), (7, rp [(.tmp 10, B true), (.tmp 12, (Qgw p0)), ci 0] (.dptr (Qad (x4)) 0)), (11, rp [(.tmp 16, (B ((x4 == 0))))] (B true)), (15, ⟨[(.tmp 17, B true), fu 89, (.tmp 19, (Qgw p0)), (.tmp 20, Qm2)], [(1, (.own 1 [[(I ((-1)))]]))], B x10.1, [(1, .own 1 [[I x10.2]])], false⟩), (17, rp [(.tmp 22, B x10.1)] (B true)), (20, rp [(.tmp 23, B true), fu 65, (.tmp 25, I p0.Ramp), ci 1, ci 12] (B x13)), (22, rp [(.tmp 27, B x13)] (B true)), (25, rp [(.tmp 28, B true), fu 65, (.tmp 30, I p0.Start), ci 0, ci 1000000000] (B x16)), (27, rp [(.tmp 32, B x16)] (B false))] ⟨alm (c := Qad) (l := p0.Levels) (aln rfl Try.underlying37 rfl), apc (first := []) (cap := []) (vs := [(I ((p0.Levels.length : Int))), I 2, I 12]) rfl Qbs (Qae N (p0.Levels.length : Int) 2 12 _ hf1) rfl rfl (nlc nll (nlc nll (nlc nll nl0))) nll rfl, asb hb3 (amv rfl), ag_ (aid rfl Try.underlying37 ti3 rfl rfl hi6 (mgt Qad hj7) rfl), asb hb8 (amv rfl), ag_ (Qam (first := []) (cap := []) (vs := [(Qgw p0), Qm2]) (σr := [(.own 1 [[(I ((-1)))]])]) (σr' := [(.own 1 [[I x10.2]])]) (res' := (B x10.1)) [1] rfl Qjp (Qdv N p0.Levels (-1) _ hf9) rfl (Qbi (rnc (.plain _ (nld Qaa _)) (rnc (Qaq rn0 (rnc (Qax rfl) rn0)) rn0))) (slc (Qai (rnc (.plain _ nll) rn0)) Qal) (slc (Qai (rnc (.plain _ nll) rn0)) Qal) (.plain _ nll) rfl rfl rfl), asb hb11 (amv rfl), ag_ (apc (first := []) (cap := []) (vs := [I p0.Ramp, I 1, I 12]) rfl Qbs (Qae N p0.Ramp 1 12 _ hf12) rfl rfl (nlc nll (nlc nll (nlc nll nl0))) nll rfl), asb hb14 (amv rfl), ag_ (apc (first := []) (cap := []) (vs := [I p0.Start, I 0, I 1000000000]) rfl Qbs (Qae N p0.Start 0 1000000000 _ hf15) rfl rfl (nlc nll (nlc nll (nlc nll nl0))) nll rfl), asb hb17 (amv rfl), trivial⟩ ?_
       refine Qab ?_
       obtain rfl := osi h
       exact fend ⟨[B false], ⟨rot (by kernel_rfl), trivial⟩, rfl⟩ nll
     ·replace h := Qaw hb14 h
      refine wx tbk [(2, rp [(.tmp 7, (Qgw p0))] (I ((p0.Levels.length : Int)))), (3, rp [fu 65, (.tmp 8, (I ((p0.Levels.length : Int)))), ci 2, ci 12] (B x2)), (4, rp [(.tmp 9, B x2)] (B true)), (7, rp [(.tmp 10, B true), (.tmp 12, (Qgw p0)), ci 0] (.dptr (Qad (x4)) 0)), (11, rp [(.tmp 16, (B ((x4 == 0))))] (B true)), (15, ⟨[(.tmp 17, B true), fu 89, (.tmp 19, (Qgw p0)), (.tmp 20, Qm2)], [(1, (.own 1 [[(I ((-1)))]]))], B x10.1, [(1, .own 1 [[I x10.2]])], false⟩), (17, rp [(.tmp 22, B x10.1)] (B true)), (20, rp [(.tmp 23, B true), fu 65, (.tmp 25, I p0.Ramp), ci 1, ci 12] (B x13)), (22, rp [(.tmp 27, B x13)] (B false))] ⟨alm (c := Qad) (l := p0.Levels) (aln rfl Try.underlying37 rfl), apc (first := []) (cap := []) (vs := [(I ((p0.Levels.length : Int))), I 2, I 12]) rfl Qbs (Qae N (p0.Levels.length : Int) 2 12 _ hf1) rfl rfl (nlc nll (nlc nll (nlc nll nl0))) nll rfl, asb hb3 (amv rfl), ag_ (aid rfl Try.underlying37 ti3 rfl rfl hi6 (mgt Qad hj7) rfl), asb hb8 (amv rfl), ag_ (Qam (first := []) (cap := []) (vs := [(Qgw p0), Qm2]) (σr := [(.own 1 [[(I ((-1)))]])]) (σr' := [(.own 1 [[I x10.2]])]) (res' := (B x10.1)) [1] rfl Qjp (Qdv N p0.Levels (-1) _ hf9) rfl (Qbi (rnc (.plain _ (nld Qaa _)) (rnc (Qaq rn0 (rnc (Qax rfl) rn0)) rn0))) (slc (Qai (rnc (.plain _ nll) rn0)) Qal) (slc (Qai (rnc (.plain _ nll) rn0)) Qal) (.plain _ nll) rfl rfl rfl), asb hb11 (amv rfl), ag_ (apc (first := []) (cap := []) (vs := [I p0.Ramp, I 1, I 12]) rfl Qbs (Qae N p0.Ramp 1 12 _ hf12) rfl rfl (nlc nll (nlc nll (nlc nll nl0))) nll rfl), asb hb14 (amv rfl), trivial⟩ ?_
      refine Qab ?_
      obtain rfl := osi h
      exact fend ⟨[B false], ⟨rot (by kernel_rfl), trivial⟩, rfl⟩ nll
    ·replace h := Qaw hb11 h
     refine wx tbk [(2, rp [(.tmp 7, (Qgw p0))] (I ((p0.Levels.length : Int)))), (3, rp [fu 65, (.tmp 8, (I ((p0.Levels.length : Int)))), ci 2, ci 12] (B x2)), (4, rp [(.tmp 9, B x2)] (B true)), (7, rp [(.tmp 10, B true), (.tmp 12, (Qgw p0)), ci 0] (.dptr (Qad (x4)) 0)), (11, rp [(.tmp 16, (B ((x4 == 0))))] (B true)), (15, ⟨[(.tmp 17, B true), fu 89, (.tmp 19, (Qgw p0)), (.tmp 20, Qm2)], [(1, (.own 1 [[(I ((-1)))]]))], B x10.1, [(1, .own 1 [[I x10.2]])], false⟩), (17, rp [(.tmp 22, B x10.1)] (B false))] ⟨alm (c := Qad) (l := p0.Levels) (aln rfl Try.underlying37 rfl), apc (first := []) (cap := []) (vs := [(I ((p0.Levels.length : Int))), I 2, I 12]) rfl Qbs (Qae N (p0.Levels.length : Int) 2 12 _ hf1) rfl rfl (nlc nll (nlc nll (nlc nll nl0))) nll rfl, asb hb3 (amv rfl), ag_ (aid rfl Try.underlying37 ti3 rfl rfl hi6 (mgt Qad hj7) rfl), asb hb8 (amv rfl), ag_ (Qam (first := []) (cap := []) (vs := [(Qgw p0), Qm2]) (σr := [(.own 1 [[(I ((-1)))]])]) (σr' := [(.own 1 [[I x10.2]])]) (res' := (B x10.1)) [1] rfl Qjp (Qdv N p0.Levels (-1) _ hf9) rfl (Qbi (rnc (.plain _ (nld Qaa _)) (rnc (Qaq rn0 (rnc (Qax rfl) rn0)) rn0))) (slc (Qai (rnc (.plain _ nll) rn0)) Qal) (slc (Qai (rnc (.plain _ nll) rn0)) Qal) (.plain _ nll) rfl rfl rfl), asb hb11 (amv rfl), trivial⟩ ?_
     refine Qab ?_
     obtain rfl := osi h
     exact fend ⟨[B false], ⟨rot (by kernel_rfl), trivial⟩, rfl⟩ nll
   ·replace h := Qaw hb8 h
    refine wx tbk [(2, rp [(.tmp 7, (Qgw p0))] (I ((p0.Levels.length : Int)))), (3, rp [fu 65, (.tmp 8, (I ((p0.Levels.length : Int)))), ci 2, ci 12] (B x2)), (4, rp [(.tmp 9, B x2)] (B true)), (7, rp [(.tmp 10, B true), (.tmp 12, (Qgw p0)), ci 0] (.dptr (Qad (x4)) 0)), (11, rp [(.tmp 16, (B ((x4 == 0))))] (B false))] ⟨alm (c := Qad) (l := p0.Levels) (aln rfl Try.underlying37 rfl), apc (first := []) (cap := []) (vs := [(I ((p0.Levels.length : Int))), I 2, I 12]) rfl Qbs (Qae N (p0.Levels.length : Int) 2 12 _ hf1) rfl rfl (nlc nll (nlc nll (nlc nll nl0))) nll rfl, asb hb3 (amv rfl), ag_ (aid rfl Try.underlying37 ti3 rfl rfl hi6 (mgt Qad hj7) rfl), asb hb8 (amv rfl), trivial⟩ ?_
    refine Qab ?_
    obtain rfl := osi h
    exact fend ⟨[B false], ⟨rot (by kernel_rfl), trivial⟩, rfl⟩ nll
  ·replace h := Qaw hb3 h
   refine wx tbk [(2, rp [(.tmp 7, (Qgw p0))] (I ((p0.Levels.length : Int)))), (3, rp [fu 65, (.tmp 8, (I ((p0.Levels.length : Int)))), ci 2, ci 12] (B x2)), (4, rp [(.tmp 9, B x2)] (B false))] ⟨alm (c := Qad) (l := p0.Levels) (aln rfl Try.underlying37 rfl), apc (first := []) (cap := []) (vs := [(I ((p0.Levels.length : Int))), I 2, I 12]) rfl Qbs (Qae N (p0.Levels.length : Int) 2 12 _ hf1) rfl rfl (nlc nll (nlc nll (nlc nll nl0))) nll rfl, asb hb3 (amv rfl), trivial⟩ ?_
   refine Qab ?_
   obtain rfl := osi h
   exact fend ⟨[B false], ⟨rot (by kernel_rfl), trivial⟩, rfl⟩ nll
def Qf5 (N : Nat) (p0 : GJob) (p1 : Int) (p2 : Int) (p3 : Int) : Option (Int × Bool) :=
  (getI p0.Hours p1).bind fun x1 =>
  Qdu (fun _ =>
    (getI p0.Levels p3).bind fun x6 =>
    bif (p2 == 0) then
     bif (decide (p3 > 0)) then
      (some (w64 ((w64 (x1.Price * x6)) - p0.Start))).bind fun x12 =>
      some (x12, true)
     else
      some (w64 (x1.Price * x6), true)
    else
     some (w64 (x1.Price * x6), true)) fun k5 : Unit → Option (Int × Bool) =>
  (Qa8 N p3 0 (w64 ((p0.Levels.length : Int) - 1))).bind fun x15 =>
  bif (!x15) then
   some (0, false)
  else
   (Qa8 N (w64 (p3 - p2)) (w64 (0 - p0.Ramp)) p0.Ramp).bind fun x18 =>
   bif (!x18) then
    some (0, false)
   else
    (getI p0.Levels p3).bind fun x20 =>
    bif (decide (x20 > x1.Most)) then
     some (0, false)
    else
     k5 ()
def z63_1 (p0 : GJob) : AV := .dat 2 ((p0.Hours : List GHour).map Qcr)
def Qv8 (p0 : GJob) : AV := .dat 1 ((p0.Levels : List Int).map Qad)
def z63_2 (p0 : GJob) : Slot := .own 5 [[(Qv8 p0), (I (p0.Ramp)), (I (p0.Start)), (I (p0.First)), (z63_1 p0)]]
set_option maxRecDepth 100000 in
set_option maxHeartbeats 4000000 in
theorem Qhe (N : Nat) (p0 : GJob) (p1 : Int) (p2 : Int) (p3 : Int) (r : (Int × Bool)) (h : Qf5 N p0 p1 p2 p3 = some r) : Spec Try.prog 70 [(.agg (Qo5 p0)), (I p1), (I p2), (I p3)] [] (.tup [(I r.1), (B r.2)]) [] := by
  refine Qac Try.func70 rfl 0 (nle rfl) (fun X φ0 w0 hφ0 => ?_)
  unfold Qf5 at h
  refine wx tbk [] trivial ?_
  obtain ⟨x1, hg2, h⟩ := bno h
  obtain ⟨hi3, hj4⟩ := gsm hg2
  refine wx tbk [(3, rp [(.tmp 13, (z63_1 p0)), (.tmp 14, I p1)] (.dptr (Qcr (x1)) 0))] ⟨aid rfl Try.underlying45 ti50 rfl rfl hi3 (mgt Qcr hj4) rfl, trivial⟩ ?_
  obtain ⟨k5, hk_k5, h⟩ := jko h
  refine wjn (τ := Unit) (fun t => k5 t = some r) (fun _ => ⟨mk 65 [(2, I p2), (3, I p3), (4, .ref 0 5 0 0), (10, .ref 1 2 0 0)], [(z63_2 p0), (.own 2 [[I x1.Price, I x1.Most]])]⟩) (fun t h => ?_) ?_
  ·subst hk_k5
   obtain ⟨x6, hg7, h⟩ := bno h
   obtain ⟨hi8, hj9⟩ := gsm hg7
   refine wxd tbk [(5, rp [(.tmp 49, (Qv8 p0)), (.tmp 50, I p3)] (.dptr (Qad (x6)) 0))] ⟨aid rfl Try.underlying37 ti3 rfl rfl hi8 (mgt Qad hj9) rfl, trivial⟩ ?_
   refine wsq ?_
   rcases bft ((p2 == 0)) with hb10 | hb10
   ·replace h := Qav hb10 h
    refine wx tbk [(2, rp [(.tmp 55, (B ((p2 == 0))))] (B true))] ⟨asb hb10 (amv rfl), trivial⟩ ?_
    rcases bft ((decide (p3 > 0))) with hc11 | hc11
    ·replace h := Qav hc11 h
     refine wft hc11 (by kernel_rfl) ?_
     obtain ⟨x12, hl13, h⟩ := bno h
     refine wx1 tbk [(4, rp [(.tmp 63, (I (w64 ((w64 (x1.Price * x6)) - p0.Start))))] (I x12))] ⟨Qep hl13 (aas rfl), trivial⟩ ?_
     refine thn ?_
     refine wx tbk [] trivial ?_
     refine Qab ?_
     obtain rfl := osi h
     exact fend ⟨[I x12, B true], ⟨rot (by kernel_rfl), rot (by kernel_rfl), trivial⟩, rfl⟩ (NLt.tup _ (nlc nll (nlc nll nl0)))
    ·replace h := Qaw hc11 h
     refine wfn hc11 (by kernel_rfl) ?_
     refine Qao ?_
     refine thn ?_
     refine wx tbk [] trivial ?_
     refine Qab ?_
     obtain rfl := osi h
     exact fend ⟨[(I (w64 (x1.Price * x6))), B true], ⟨rot (by kernel_rfl), rot (by kernel_rfl), trivial⟩, rfl⟩ (NLt.tup _ (nlc nll (nlc nll nl0)))
   ·replace h := Qaw hb10 h
    refine wx tbk [(2, rp [(.tmp 55, (B ((p2 == 0))))] (B false))] ⟨asb hb10 (amv rfl), trivial⟩ ?_
    refine Qgg (by kernel_rfl) ?_
    refine Qao ?_
    refine thn ?_
    refine wx tbk [] trivial ?_
    refine Qab ?_
    obtain rfl := osi h
    exact fend ⟨[(I (w64 (x1.Price * x6))), B true], ⟨rot (by kernel_rfl), rot (by kernel_rfl), trivial⟩, rfl⟩ (NLt.tup _ (nlc nll (nlc nll nl0)))
  ·skip
   obtain ⟨x15, hf14, h⟩ := bno h
   rcases bft ((!x15)) with hb16 | hb16
   ·replace h := Qav hb16 h
    refine wxd tbk [(3, rp [(.tmp 19, (Qv8 p0))] (I ((p0.Levels.length : Int)))), (5, rp [fu 65, (.tmp 17, I p3), ci 0, (.tmp 21, (I (w64 ((p0.Levels.length : Int) - 1))))] (B x15)), (7, rp [(.tmp 23, (B ((!x15))))] (B true))] ⟨alm (c := Qad) (l := p0.Levels) (aln rfl Try.underlying37 rfl), apc (first := []) (cap := []) (vs := [I p3, I 0, (I (w64 ((p0.Levels.length : Int) - 1)))]) rfl Qbs (Qae N p3 0 (w64 ((p0.Levels.length : Int) - 1)) _ hf14) rfl rfl (nlc nll (nlc nll (nlc nll nl0))) nll rfl, asb hb16 (amv rfl), trivial⟩ ?_
    refine Qcy (by kernel_rfl) ?_
    refine wx tbk [] trivial ?_
    refine Qab ?_
    refine Qau ?_
    obtain rfl := osi h
    exact fend ⟨[I 0, B false], ⟨rot (by kernel_rfl), rot (by kernel_rfl), trivial⟩, rfl⟩ (NLt.tup _ (nlc nll (nlc nll nl0)))
   ·replace h := Qaw hb16 h
    obtain ⟨x18, hf17, h⟩ := bno h
    rcases bft ((!x18)) with hb19 | hb19
    ·replace h := Qav hb19 h
     refine wxd tbk [(3, rp [(.tmp 19, (Qv8 p0))] (I ((p0.Levels.length : Int)))), (5, rp [fu 65, (.tmp 17, I p3), ci 0, (.tmp 21, (I (w64 ((p0.Levels.length : Int) - 1))))] (B x15)), (7, rp [(.tmp 23, (B ((!x15))))] (B false)), (16, rp [(.tmp 24, B false), fu 65, (.tmp 27, (I (w64 (p3 - p2)))), (.tmp 30, (I (w64 (0 - p0.Ramp)))), (.tmp 32, I p0.Ramp)] (B x18)), (19, rp [(.tmp 35, (B ((!x18))))] (B true))] ⟨alm (c := Qad) (l := p0.Levels) (aln rfl Try.underlying37 rfl), apc (first := []) (cap := []) (vs := [I p3, I 0, (I (w64 ((p0.Levels.length : Int) - 1)))]) rfl Qbs (Qae N p3 0 (w64 ((p0.Levels.length : Int) - 1)) _ hf14) rfl rfl (nlc nll (nlc nll (nlc nll nl0))) nll rfl, asb hb16 (amv rfl), ag_ (apc (first := []) (cap := []) (vs := [(I (w64 (p3 - p2))), (I (w64 (0 - p0.Ramp))), I p0.Ramp]) rfl Qbs (Qae N (w64 (p3 - p2)) (w64 (0 - p0.Ramp)) p0.Ramp _ hf17) rfl rfl (nlc nll (nlc nll (nlc nll nl0))) nll rfl), asb hb19 (amv rfl), trivial⟩ ?_
     refine Qcy (by kernel_rfl) ?_
     refine wx tbk [] trivial ?_
     refine Qab ?_
     refine Qau ?_
     obtain rfl := osi h
     exact fend ⟨[I 0, B false], ⟨rot (by kernel_rfl), rot (by kernel_rfl), trivial⟩, rfl⟩ (NLt.tup _ (nlc nll (nlc nll nl0)))
    ·replace h := Qaw hb19 h
     obtain ⟨x20, hg21, h⟩ := bno h
     obtain ⟨hi22, hj23⟩ := gsm hg21
     refine wxd tbk [(3, rp [(.tmp 19, (Qv8 p0))] (I ((p0.Levels.length : Int)))), (5, rp [fu 65, (.tmp 17, I p3), ci 0, (.tmp 21, (I (w64 ((p0.Levels.length : Int) - 1))))] (B x15)), (7, rp [(.tmp 23, (B ((!x15))))] (B false)), (16, rp [(.tmp 24, B false), fu 65, (.tmp 27, (I (w64 (p3 - p2)))), (.tmp 30, (I (w64 (0 - p0.Ramp)))), (.tmp 32, I p0.Ramp)] (B x18)), (19, rp [(.tmp 35, (B ((!x18))))] (B false)), (23, rp [(.tmp 36, B false), (.tmp 38, (Qv8 p0)), (.tmp 39, I p3)] (.dptr (Qad (x20)) 0))] ⟨alm (c := Qad) (l := p0.Levels) (aln rfl Try.underlying37 rfl), apc (first := []) (cap := []) (vs := [I p3, I 0, (I (w64 ((p0.Levels.length : Int) - 1)))]) rfl Qbs (Qae N p3 0 (w64 ((p0.Levels.length : Int) - 1)) _ hf14) rfl rfl (nlc nll (nlc nll (nlc nll nl0))) nll rfl, asb hb16 (amv rfl), ag_ (apc (first := []) (cap := []) (vs := [(I (w64 (p3 - p2))), (I (w64 (0 - p0.Ramp))), I p0.Ramp]) rfl Qbs (Qae N (w64 (p3 - p2)) (w64 (0 - p0.Ramp)) p0.Ramp _ hf17) rfl rfl (nlc nll (nlc nll (nlc nll nl0))) nll rfl), asb hb19 (amv rfl), ag_ (aid rfl Try.underlying37 ti3 rfl rfl hi22 (mgt Qad hj23) rfl), trivial⟩ ?_
     rcases bft ((decide (x20 > x1.Most))) with hc24 | hc24
     ·replace h := Qav hc24 h
      refine wft hc24 (by kernel_rfl) ?_
      refine wx tbk [] trivial ?_
      refine Qab ?_
      refine Qau ?_
      obtain rfl := osi h
      exact fend ⟨[I 0, B false], ⟨rot (by kernel_rfl), rot (by kernel_rfl), trivial⟩, rfl⟩ (NLt.tup _ (nlc nll (nlc nll nl0)))
     ·replace h := Qaw hc24 h
      refine wfn hc24 (by kernel_rfl) ?_
      refine Qao ?_
      refine thn ?_
      exact ⟨(), h, (mto (n := 65) [(2, I p2), (3, I p3), (4, .ref 0 5 0 0), (10, .ref 1 2 0 0)] [0, 1] [(z63_2 p0), (.own 2 [[I x1.Price, I x1.Most]])] hφ0 (pc rwl (pc rwl (pc (.rn (rqr rfl)) (pc (.rn (rqr rfl)) pn)))) (qc (spb (lc (.rn (.plain _ (nld Qaa _))) (lc rwl (lc rwl (lc rwl (lc (.rn (.plain _ (nld Qay _))) ln)))))) (qc (spb (lc rwl (lc rwl ln))) qn)))⟩
def Qcf (N : Nat) (p0 : Int) (p1 : (List Int)) (p2 : Int) (p3 : Int) (p4 : Int) (p5 : (List GHour)) (p6 : Nat) (p7 : Nat) (p8 : (List (Nat × Nat))) (p9 : (List (Nat × Nat))) (p10 : (List (List Int))) (p11 : (List (List Bool))) (y11 : Int) (k21 : (List (List Int)) × (List (List Bool)) → Option ((List (List Int)) × (List (List Bool)))) : Nat → Int → (List (List Int)) → (List (List Bool)) → Option ((List (List Int)) × (List (List Bool)))
  | 0, _, _, _ => none
  | n43 + 1, y37, y38, y39 =>
    bif (decide (y37 < (p1.length : Int))) then
     (Qf5 N (⟨p1, p2, p3, p4, p5⟩ : GJob) p0 y11 y37).bind fun x46 =>
     bif x46.2 then
      chk (decide (0 ≤ p0) && decide (p0.toNat < p6)) <|
      ((p8.set p0.toNat (p10.length, (p1.length : Int).toNat))[p0.toNat]?).bind fun x49 =>
      chk (decide (0 ≤ p0) && decide (p0.toNat < p6)) <|
      ((p8.set p0.toNat (p10.length, (p1.length : Int).toNat))[p0.toNat]?).bind fun x52 =>
      chk (!(y38.getD x52.1 []).isEmpty) <|
      chk (decide (0 ≤ y11) && decide (y11.toNat < x52.2)) <|
      (getM y38 x52.1 y11.toNat).bind fun x56 =>
      chk (decide (0 ≤ w64 (p0 + 1)) && decide ((w64 (p0 + 1)).toNat < p6)) <|
      ((p8.set p0.toNat (p10.length, (p1.length : Int).toNat))[(w64 (p0 + 1)).toNat]?).bind fun x59 =>
      chk (!(y38.getD x59.1 []).isEmpty) <|
      chk (decide (0 ≤ y37) && decide (y37.toNat < x59.2)) <|
      (getM y38 x59.1 y37.toNat).bind fun x63 =>
      (some (if (w64 (x46.1 + x63)) > x56 then w64 (x46.1 + x63) else x56)).bind fun x65 =>
      chk (!(y38.getD x49.1 []).isEmpty) <|
      chk (decide (0 ≤ y11) && decide (y11.toNat < x49.2)) <|
      (getM y38 x49.1 y11.toNat).bind fun _ =>
      chk (decide (0 ≤ p0) && decide (p0.toNat < p7)) <|
      ((p9.set p0.toNat (p11.length, (p1.length : Int).toNat))[p0.toNat]?).bind fun x72 =>
      chk (decide (0 ≤ p0) && decide (p0.toNat < p7)) <|
      ((p9.set p0.toNat (p11.length, (p1.length : Int).toNat))[p0.toNat]?).bind fun x75 =>
      chk (!(y39.getD x75.1 []).isEmpty) <|
      chk (decide (0 ≤ y11) && decide (y11.toNat < x75.2)) <|
      (getM y39 x75.1 y11.toNat).bind fun x79 =>
      bif x79 then
       chk (!(y39.getD x72.1 []).isEmpty) <|
       chk (decide (0 ≤ y11) && decide (y11.toNat < x72.2)) <|
       (getM y39 x72.1 y11.toNat).bind fun _ =>
       Qcf N p0 p1 p2 p3 p4 p5 p6 p7 p8 p9 p10 p11 y11 k21 n43 (w64 (y37 + 1)) (setM y38 x49.1 y11.toNat x65) (setM y39 x72.1 y11.toNat true)
      else
       chk (decide (0 ≤ w64 (p0 + 1)) && decide ((w64 (p0 + 1)).toNat < p7)) <|
       ((p9.set p0.toNat (p11.length, (p1.length : Int).toNat))[(w64 (p0 + 1)).toNat]?).bind fun x87 =>
       chk (!(y39.getD x87.1 []).isEmpty) <|
       chk (decide (0 ≤ y37) && decide (y37.toNat < x87.2)) <|
       (getM y39 x87.1 y37.toNat).bind fun x91 =>
       chk (!(y39.getD x72.1 []).isEmpty) <|
       chk (decide (0 ≤ y11) && decide (y11.toNat < x72.2)) <|
       (getM y39 x72.1 y11.toNat).bind fun _ =>
       Qcf N p0 p1 p2 p3 p4 p5 p6 p7 p8 p9 p10 p11 y11 k21 n43 (w64 (y37 + 1)) (setM y38 x49.1 y11.toNat x65) (setM y39 x72.1 y11.toNat x91)
     else
      Qcf N p0 p1 p2 p3 p4 p5 p6 p7 p8 p9 p10 p11 y11 k21 n43 (w64 (y37 + 1)) y38 y39
    else
     k21 (y38, y39)
def Qdb (N : Nat) (p0 : Int) (p1 : (List Int)) (p2 : Int) (p3 : Int) (p4 : Int) (p5 : (List GHour)) (p6 : Nat) (p7 : Nat) (p8 : (List (Nat × Nat))) (p9 : (List (Nat × Nat))) (p10 : (List (List Int))) (p11 : (List (List Bool))) : Nat → Int → (List (List Int)) → (List (List Bool)) → Option ((List (List Int)) × (List (List Bool)))
  | 0, _, _, _ => none
  | n17 + 1, y11, y12, y13 =>
    bif (decide (y11 < (p1.length : Int))) then
     Qdu (fun ⟨y19, y20⟩ =>
       Qdb N p0 p1 p2 p3 p4 p5 p6 p7 p8 p9 p10 p11 n17 (w64 (y11 + 1)) y19 y20) fun k21 : (List (List Int)) × (List (List Bool)) → Option ((List (List Int)) × (List (List Bool))) =>
     bif (p0 == (p5.length : Int)) then
      chk (decide (0 ≤ p0) && decide (p0.toNat < p7)) <|
      ((p9.set p0.toNat (p11.length, (p1.length : Int).toNat))[p0.toNat]?).bind fun x24 =>
      chk (!(y13.getD x24.1 []).isEmpty) <|
      chk (decide (0 ≤ y11) && decide (y11.toNat < x24.2)) <|
      (getM y13 x24.1 y11.toNat).bind fun _ =>
      k21 (y12, setM y13 x24.1 y11.toNat true)
     else
      chk (decide (0 ≤ p0) && decide (p0.toNat < p6)) <|
      ((p8.set p0.toNat (p10.length, (p1.length : Int).toNat))[p0.toNat]?).bind fun x31 =>
      chk (!(y12.getD x31.1 []).isEmpty) <|
      chk (decide (0 ≤ y11) && decide (y11.toNat < x31.2)) <|
      (getM y12 x31.1 y11.toNat).bind fun _ =>
      Qcf N p0 p1 p2 p3 p4 p5 p6 p7 p8 p9 p10 p11 y11 k21 N 0 (setM y12 x31.1 y11.toNat (-1000000000000)) y13
    else
     some (y12, y13)
def Qgr (N : Nat) (p0 : Int) (p1 : (List Int)) (p2 : Int) (p3 : Int) (p4 : Int) (p5 : (List GHour)) (p6 : Nat) (p7 : Nat) (p8 : (List (Nat × Nat))) (p9 : (List (Nat × Nat))) (p10 : (List (List Int))) (p11 : (List (List Bool))) : Option ((List (List Int)) × (List (List Bool))) :=
  chk (decide (0 ≤ (p1.length : Int)) && decide (8 * (p1.length : Int) ≤ 281474976710656) && decide ((p1.length : Int) ≤ 9223372036854775807)) <|
  chk (decide (0 ≤ (p1.length : Int)) && decide (1 * (p1.length : Int) ≤ 281474976710656) && decide ((p1.length : Int) ≤ 9223372036854775807)) <|
  chk (decide (0 ≤ p0) && decide (p0.toNat < p6)) <|
  (p8[p0.toNat]?).bind fun _ =>
  chk (decide (0 ≤ p0) && decide (p0.toNat < p7)) <|
  (p9[p0.toNat]?).bind fun _ =>
  Qdb N p0 p1 p2 p3 p4 p5 p6 p7 p8 p9 p10 p11 N 0 (p10 ++ [List.replicate (p1.length : Int).toNat 0]) (p11 ++ [List.replicate (p1.length : Int).toNat false])
def Qs1 (p1 : (List Int)) : AV := .dat 1 ((p1 : List Int).map Qad)
def z62_3 (p5 : (List GHour)) : AV := .dat 2 ((p5 : List GHour).map Qcr)
def Qko (p1 : (List Int)) (p2 : Int) (p3 : Int) (p4 : Int) (p5 : (List GHour)) : Slot := .own 5 [[(Qs1 p1), (I (p2)), (I (p3)), (I (p4)), (z62_3 p5)]]
def Qkq (p6 : Nat) : Slot := .own 1 [[(.own 3 1 (0) (p6))]]
def Qkp (p7 : Nat) : Slot := .own 1 [[(.own 4 1 (0) (p7))]]
def z62_9 (p8 : (List (Nat × Nat))) : Slot := .own 1 ((p8 : List (Nat × Nat)).map (c_mr 5 1))
def Qxb (p9 : (List (Nat × Nat))) : Slot := .own 1 ((p9 : List (Nat × Nat)).map (c_mr 6 1))
def Qfr (p8 : (List (Nat × Nat))) (p0 : Int) (p10 : (List (List Int))) (p1 : (List Int)) : Slot := .own 1 ((p8.set p0.toNat (p10.length, (p1.length : Int).toNat) : List (Nat × Nat)).map (c_mr 5 1))
def Qeq (p9 : (List (Nat × Nat))) (p0 : Int) (p11 : (List (List Bool))) (p1 : (List Int)) : Slot := .own 1 ((p9.set p0.toNat (p11.length, (p1.length : Int).toNat) : List (Nat × Nat)).map (c_mr 6 1))
def z62_8 (p11 : (List (List Bool))) (p1 : (List Int)) : Slot := .mat 1 (matA Qft (p11 ++ [List.replicate (p1.length : Int).toNat false] : List (List Bool)))
def Qm1 (y12 : (List (List Int))) : Slot := .mat 1 (matA Qad (y12 : List (List Int)))
def Ql1 (y13 : (List (List Bool))) : Slot := .mat 1 (matA Qft (y13 : List (List Bool)))
def Qj0 (y38 : (List (List Int))) : Slot := .mat 1 (matA Qad (y38 : List (List Int)))
def Qho (y39 : (List (List Bool))) : Slot := .mat 1 (matA Qft (y39 : List (List Bool)))
set_option maxRecDepth 100000 in
set_option maxHeartbeats 4000000 in
theorem Qkn (N : Nat) (p0 : Int) (p1 : (List Int)) (p2 : Int) (p3 : Int) (p4 : Int) (p5 : (List GHour)) (p6 : Nat) (p7 : Nat) (p8 : (List (Nat × Nat))) (p9 : (List (Nat × Nat))) (p10 : (List (List Int))) (p11 : (List (List Bool))) (r : ((List (List Int)) × (List (List Bool)))) (h : Qgr N p0 p1 p2 p3 p4 p5 p6 p7 p8 p9 p10 p11 = some r) : Spec Try.prog 69 [(I (p0)), (.ref 0 5 (0) 0), (.ref 1 1 (0) 0), (.ref 2 1 (0) 0)] [(Qko p1 p2 p3 p4 p5), (Qkq p6), (Qkp p7), (z62_9 p8), (Qxb p9), (.mat 1 (matA Qad (p10 : List (List Int)))), (.mat 1 (matA Qft (p11 : List (List Bool))))] (.tup []) [(Qko p1 p2 p3 p4 p5), (Qkq p6), (Qkp p7), (Qfr p8 p0 p10 p1), (Qeq p9 p0 p11 p1), (.mat 1 (matA Qad (r.1 : List (List Int)))), (.mat 1 (matA Qft (r.2 : List (List Bool))))] := by
  refine Qac Try.func69 rfl 7 (nle rfl) (fun X φ0 w0 hφ0 => ?_)
  unfold Qgr at h
  refine Qbj ?_
  obtain ⟨hm3, h⟩ := cko h
  obtain ⟨hm4, h⟩ := cko h
  obtain ⟨hi5, h⟩ := cko h
  obtain ⟨hi5a, hi5b⟩ := Qaz hi5
  obtain ⟨x6, hg7, h⟩ := bno h
  obtain ⟨hi8, h⟩ := cko h
  obtain ⟨hi8a, hi8b⟩ := Qaz hi8
  obtain ⟨x9, hg10, h⟩ := bno h
  refine wxd tbk [(6, rp [(.tmp 14, (Qs1 p1))] (I ((p1.length : Int)))), (7, ⟨[(.tmp 15, (I ((p1.length : Int)))), (.tmp 15, (I ((p1.length : Int))))], [(7, .unused), (5, (.mat 1 (matA Qad (p10 : List (List Int)))))], (.row 5 p10.length 1 (0) ((p1.length : Int).toNat)), [(7, .dead), (5, (.mat 1 (matA Qad (p10 ++ [List.replicate (p1.length : Int).toNat 0] : List (List Int)))))], false⟩), (10, rp [(.tmp 18, (Qs1 p1))] (I ((p1.length : Int)))), (11, ⟨[(.tmp 19, (I ((p1.length : Int)))), (.tmp 19, (I ((p1.length : Int))))], [(8, .unused), (6, (.mat 1 (matA Qft (p11 : List (List Bool)))))], (.row 6 p11.length 1 (0) ((p1.length : Int).toNat)), [(8, .dead), (6, (z62_8 p11 p1))], false⟩), (12, rb [(.tmp 9, (.own 3 1 (0) (p6))), (.tmp 10, I p0)] [(3, (z62_9 p8))] (.ref 3 1 (p0.toNat) 0)), (13, ⟨[(.tmp 21, (.ref 3 1 (p0.toNat) 0)), (.tmp 16, (.row 5 p10.length 1 (0) ((p1.length : Int).toNat)))], [(3, (z62_9 p8))], .any, [(3, (Qfr p8 p0 p10 p1))], false⟩), (14, rb [(.tmp 11, (.own 4 1 (0) (p7))), (.tmp 12, I p0)] [(4, (Qxb p9))] (.ref 4 1 (p0.toNat) 0)), (15, ⟨[(.tmp 22, (.ref 4 1 (p0.toNat) 0)), (.tmp 20, (.row 6 p11.length 1 (0) ((p1.length : Int).toNat)))], [(4, (Qxb p9))], .any, [(4, (Qeq p9 p0 p11 p1))], false⟩)] ⟨alm (c := Qad) (l := p1) (aln rfl Try.underlying37 rfl), Qmz rfl (Qhz rfl Try.underlying37 te3 tz3 rfl (Qrd hm3) rfl (Qrc hm3) (Qpd hm3) (Qos Qad rfl)), alm (c := Qad) (l := p1) (aln rfl Try.underlying37 rfl), Qmz rfl (Qhz rfl Try.underlying121 te4 tz4 rfl (Qrd hm4) rfl (Qrc hm4) (Qpd hm4) (Qos Qft rfl)), aio rfl Try.underlying42 ti37 (odt hi5a) (odt hi5b) (Nat.zero_add _), ast rfl ti37 (by rfl) (mgt (c_mr 5 1) hg7) (nle rfl) (Qfx (x' := (p10.length, (p1.length : Int).toNat)) (c_mr 5 1) rfl), aio rfl Try.underlying120 Qjk (odt hi8a) (odt hi8b) (Nat.zero_add _), ast rfl Qjk (by rfl) (mgt (c_mr 6 1) hg10) (nle rfl) (Qfx (x' := (p11.length, (p1.length : Int).toNat)) (c_mr 6 1) rfl), trivial⟩ ?_
  refine wx tbk [(2, rp [(.tmp 24, (Qs1 p1))] (I ((p1.length : Int))))] ⟨alm (c := Qad) (l := p1) (aln rfl Try.underlying37 rfl), trivial⟩ ?_
  refine Qak ?_
  refine wmr (mto (n := 110) (l' := [(0, I p0), (1, .ref 0 5 0 0), (2, .ref 1 1 0 0), (3, .ref 2 1 0 0), (25, (I ((p1.length : Int)))), (26, I 0)]) (own' := [(Qko p1 p2 p3 p4 p5), (Qkq p6), (Qkp p7), (Qfr p8 p0 p10 p1), (Qeq p9 p0 p11 p1), (.mat 1 (matA Qad ((p10 ++ [List.replicate (p1.length : Int).toNat 0]) : List (List Int)))), (.mat 1 (matA Qft ((p11 ++ [List.replicate (p1.length : Int).toNat false]) : List (List Bool))))]) [(0, I p0), (1, .ref 0 5 0 0), (2, .ref 1 1 0 0), (3, .ref 2 1 0 0), (25, (I ((p1.length : Int)))), (26, I 0)] [0, 1, 2, 3, 4, 5, 6] [(Qko p1 p2 p3 p4 p5), (Qkq p6), (Qkp p7), (Qfr p8 p0 p10 p1), (Qeq p9 p0 p11 p1), (.mat 1 (matA Qad (p10 ++ [List.replicate (p1.length : Int).toNat 0] : List (List Int)))), (z62_8 p11 p1)] hφ0 (pc rwl (pc (.rn (rqr rfl)) (pc (.rn (rqr rfl)) (pc (.rn (rqr rfl)) (pc rwl (pc rwl pn)))))) (qc (spb (lc (.rn (.plain _ (nld Qaa _))) (lc rwl (lc rwl (lc rwl (lc (.rn (.plain _ (nld Qay _))) ln)))))) (qc (spb (lc (.rn (Qaf rfl)) ln)) (qc (spb (lc (.rn (Qaf rfl)) ln)) (qc (Qbp rfl) (qc (Qbp rfl) (qc (Qb6 Qaa) (qc (Qb6 Qc1) qn)))))))) ?_
  refine Qb1 (τ := Int × (List (List Int)) × (List (List Bool))) (fun n t => Qdb N p0 p1 p2 p3 p4 p5 p6 p7 p8 p9 p10 p11 n t.1 t.2.1 t.2.2 = some r) (fun ⟨y11, y12, y13⟩ => ⟨mk 110 [(0, I p0), (1, .ref 0 5 0 0), (2, .ref 1 1 0 0), (3, .ref 2 1 0 0), (25, (I ((p1.length : Int)))), (26, I y11)], [(Qko p1 p2 p3 p4 p5), (Qkq p6), (Qkp p7), (Qfr p8 p0 p10 p1), (Qeq p9 p0 p11 p1), (Qm1 y12), (Ql1 y13)]⟩) (fun t h => by rw [Qdb] at h; cases h) (fun n17 ih t h => ?_) N (0, p10 ++ [List.replicate (p1.length : Int).toNat 0], p11 ++ [List.replicate (p1.length : Int).toNat false]) h
  obtain ⟨y11, y12, y13⟩ := t
  rw [Qdb] at h
  skip
  refine wx tbk [] trivial ?_
  refine wsq ?_
  rcases bft ((decide (y11 < (p1.length : Int)))) with hc18 | hc18
  ·replace h := Qav hc18 h
   refine wft hc18 (by kernel_rfl) ?_
   refine Qao ?_
   refine thn ?_
   obtain ⟨k21, hk_k21, h⟩ := jko h
   refine wjn (τ := (List (List Int)) × (List (List Bool))) (fun t => k21 t = some r) (fun ⟨y19, y20⟩ => ⟨mk 110 [(0, I p0), (1, .ref 0 5 0 0), (2, .ref 1 1 0 0), (3, .ref 2 1 0 0), (25, (I ((p1.length : Int)))), (26, I y11)], [(Qko p1 p2 p3 p4 p5), (Qkq p6), (Qkp p7), (Qfr p8 p0 p10 p1), (Qeq p9 p0 p11 p1), (.mat 1 (matA Qad (y19 : List (List Int)))), (.mat 1 (matA Qft (y20 : List (List Bool))))]⟩) (fun t h => ?_) ?_
   ·subst hk_k21
    obtain ⟨y19, y20⟩ := t
    refine wx1 tbk [] trivial ?_
    refine thn ?_
    exact arm (mto (n := 110) [(0, I p0), (1, .ref 0 5 0 0), (2, .ref 1 1 0 0), (3, .ref 2 1 0 0), (25, (I ((p1.length : Int)))), (26, (I (w64 (y11 + 1))))] [0, 1, 2, 3, 4, 5, 6] [(Qko p1 p2 p3 p4 p5), (Qkq p6), (Qkp p7), (Qfr p8 p0 p10 p1), (Qeq p9 p0 p11 p1), (.mat 1 (matA Qad (y19 : List (List Int)))), (.mat 1 (matA Qft (y20 : List (List Bool))))] hφ0 (pc rwl (pc (.rn (rqr rfl)) (pc (.rn (rqr rfl)) (pc (.rn (rqr rfl)) (pc rwl (pc rwl pn)))))) (qc (spb (lc (.rn (.plain _ (nld Qaa _))) (lc rwl (lc rwl (lc rwl (lc (.rn (.plain _ (nld Qay _))) ln)))))) (qc (spb (lc (.rn (Qaf rfl)) ln)) (qc (spb (lc (.rn (Qaf rfl)) ln)) (qc (Qbp rfl) (qc (Qbp rfl) (qc (Qb6 Qaa) (qc (Qb6 Qc1) qn)))))))) (ih (w64 (y11 + 1), y19, y20) h)
   ·skip
    refine Qak ?_
    refine wx tbk [] trivial ?_
    refine wsq ?_
    refine wx tbk [(3, rp [(.tmp 31, (z62_3 p5))] (I ((p5.length : Int))))] ⟨alm (c := Qcr) (l := p5) (aln rfl Try.underlying45 rfl), trivial⟩ ?_
    rcases bft ((p0 == (p5.length : Int))) with hc22 | hc22
    ·replace h := Qav hc22 h
     refine wft hc22 (by kernel_rfl) ?_
     obtain ⟨hi23, h⟩ := cko h
     obtain ⟨hi23a, hi23b⟩ := Qaz hi23
     obtain ⟨x24, hg25, h⟩ := bno h
     obtain ⟨hz27, h⟩ := cko h
     obtain ⟨hi26, h⟩ := cko h
     obtain ⟨hi26a, hi26b⟩ := Qaz hi26
     obtain ⟨x28, hg29, h⟩ := bno h
     refine wx tbk [(2, rb [(.tmp 34, (.own 4 1 (0) (p7))), (.tmp 35, I p0)] [(4, (Qeq p9 p0 p11 p1))] (.ref 4 1 (p0.toNat) 0)), (3, rb [(.tmp 36, (.ref 4 1 (p0.toNat) 0))] [(4, (Qeq p9 p0 p11 p1))] (.row 6 x24.1 1 (0) (x24.2))), (5, rb [(.tmp 37, (.row 6 x24.1 1 (0) (x24.2))), (.tmp 38, I y11)] [(6, (Ql1 y13))] (.rowp 6 x24.1 1 (y11.toNat) 0)), (6, ⟨[(.tmp 39, (.rowp 6 x24.1 1 (y11.toNat) 0)), cb true], [(6, (Ql1 y13))], .any, [(6, (.mat 1 (matA Qft (setM y13 x24.1 y11.toNat true : List (List Bool)))))], false⟩)] ⟨aio rfl Try.underlying120 Qjk (odt hi23a) (odt hi23b) (Nat.zero_add _), ald rfl Qjk (by decide) (mgt (c_mr 6 1) hg25) (nle rfl) rfl, Qc6 rfl Try.underlying121 ti4 (odt hi26a) (odt hi26b) hz27 (Nat.zero_add _), Qic (u' := true) rfl ti4 (by rfl) hg29 (nle rfl) rfl, trivial⟩ ?_
     refine Qbh ?_
     refine Qar ?_
     refine Qbg rfl ?_
     refine thn ?_
     exact ⟨(y12, setM y13 x24.1 y11.toNat true), h, (mto (n := 110) [(0, I p0), (1, .ref 0 5 0 0), (2, .ref 1 1 0 0), (3, .ref 2 1 0 0), (25, (I ((p1.length : Int)))), (26, I y11)] [0, 1, 2, 3, 4, 5, 6] [(Qko p1 p2 p3 p4 p5), (Qkq p6), (Qkp p7), (Qfr p8 p0 p10 p1), (Qeq p9 p0 p11 p1), (Qm1 y12), (.mat 1 (matA Qft (setM y13 x24.1 y11.toNat true : List (List Bool))))] hφ0 (pc rwl (pc (.rn (rqr rfl)) (pc (.rn (rqr rfl)) (pc (.rn (rqr rfl)) (pc rwl (pc rwl pn)))))) (qc (spb (lc (.rn (.plain _ (nld Qaa _))) (lc rwl (lc rwl (lc rwl (lc (.rn (.plain _ (nld Qay _))) ln)))))) (qc (spb (lc (.rn (Qaf rfl)) ln)) (qc (spb (lc (.rn (Qaf rfl)) ln)) (qc (Qbp rfl) (qc (Qbp rfl) (qc (Qb6 Qaa) (qc (Qb6 Qc1) qn))))))))⟩
    ·replace h := Qaw hc22 h
     refine wfn hc22 (by kernel_rfl) ?_
     refine Qao ?_
     refine thn ?_
     obtain ⟨hi30, h⟩ := cko h
     obtain ⟨hi30a, hi30b⟩ := Qaz hi30
     obtain ⟨x31, hg32, h⟩ := bno h
     obtain ⟨hz34, h⟩ := cko h
     obtain ⟨hi33, h⟩ := cko h
     obtain ⟨hi33a, hi33b⟩ := Qaz hi33
     obtain ⟨x35, hg36, h⟩ := bno h
     refine wx tbk [(2, rb [(.tmp 40, (.own 3 1 (0) (p6))), (.tmp 41, I p0)] [(3, (Qfr p8 p0 p10 p1))] (.ref 3 1 (p0.toNat) 0)), (3, rb [(.tmp 42, (.ref 3 1 (p0.toNat) 0))] [(3, (Qfr p8 p0 p10 p1))] (.row 5 x31.1 1 (0) (x31.2))), (5, rb [(.tmp 43, (.row 5 x31.1 1 (0) (x31.2))), (.tmp 44, I y11)] [(5, (Qm1 y12))] (.rowp 5 x31.1 1 (y11.toNat) 0)), (6, ⟨[(.tmp 45, (.rowp 5 x31.1 1 (y11.toNat) 0)), ci (-1000000000000)], [(5, (Qm1 y12))], .any, [(5, (.mat 1 (matA Qad (setM y12 x31.1 y11.toNat (-1000000000000) : List (List Int)))))], false⟩)] ⟨aio rfl Try.underlying42 ti37 (odt hi30a) (odt hi30b) (Nat.zero_add _), ald rfl ti37 (by decide) (mgt (c_mr 5 1) hg32) (nle rfl) rfl, Qc6 rfl Try.underlying37 ti3 (odt hi33a) (odt hi33b) hz34 (Nat.zero_add _), Qic (u' := (-1000000000000)) rfl ti3 (by rfl) hg36 (nle rfl) rfl, trivial⟩ ?_
     refine wx tbk [(2, rp [(.tmp 47, (Qs1 p1))] (I ((p1.length : Int))))] ⟨alm (c := Qad) (l := p1) (aln rfl Try.underlying37 rfl), trivial⟩ ?_
     refine Qak ?_
     refine wmr (mto (n := 110) (l' := [(0, I p0), (1, .ref 0 5 0 0), (2, .ref 1 1 0 0), (3, .ref 2 1 0 0), (5, I y11), (25, (I ((p1.length : Int)))), (26, I y11), (48, (I ((p1.length : Int)))), (49, I 0)]) (own' := [(Qko p1 p2 p3 p4 p5), (Qkq p6), (Qkp p7), (Qfr p8 p0 p10 p1), (Qeq p9 p0 p11 p1), (.mat 1 (matA Qad ((setM y12 x31.1 y11.toNat (-1000000000000)) : List (List Int)))), (Ql1 y13)]) [(0, I p0), (1, .ref 0 5 0 0), (2, .ref 1 1 0 0), (3, .ref 2 1 0 0), (5, I y11), (25, (I ((p1.length : Int)))), (26, I y11), (48, (I ((p1.length : Int)))), (49, I 0)] [0, 1, 2, 3, 4, 5, 6] [(Qko p1 p2 p3 p4 p5), (Qkq p6), (Qkp p7), (Qfr p8 p0 p10 p1), (Qeq p9 p0 p11 p1), (.mat 1 (matA Qad (setM y12 x31.1 y11.toNat (-1000000000000) : List (List Int)))), (Ql1 y13)] hφ0 (pc rwl (pc (.rn (rqr rfl)) (pc (.rn (rqr rfl)) (pc (.rn (rqr rfl)) (pc rwl (pc rwl (pc rwl (pc rwl (pc rwl pn))))))))) (qc (spb (lc (.rn (.plain _ (nld Qaa _))) (lc rwl (lc rwl (lc rwl (lc (.rn (.plain _ (nld Qay _))) ln)))))) (qc (spb (lc (.rn (Qaf rfl)) ln)) (qc (spb (lc (.rn (Qaf rfl)) ln)) (qc (Qbp rfl) (qc (Qbp rfl) (qc (Qb6 Qaa) (qc (Qb6 Qc1) qn)))))))) ?_
     refine Qb1 (τ := Int × (List (List Int)) × (List (List Bool))) (fun n t => Qcf N p0 p1 p2 p3 p4 p5 p6 p7 p8 p9 p10 p11 y11 k21 n t.1 t.2.1 t.2.2 = some r) (fun ⟨y37, y38, y39⟩ => ⟨mk 110 [(0, I p0), (1, .ref 0 5 0 0), (2, .ref 1 1 0 0), (3, .ref 2 1 0 0), (5, I y11), (25, (I ((p1.length : Int)))), (26, I y11), (48, (I ((p1.length : Int)))), (49, I y37)], [(Qko p1 p2 p3 p4 p5), (Qkq p6), (Qkp p7), (Qfr p8 p0 p10 p1), (Qeq p9 p0 p11 p1), (Qj0 y38), (Qho y39)]⟩) (fun t h => by rw [Qcf] at h; cases h) (fun n43 ih t h => ?_) N (0, setM y12 x31.1 y11.toNat (-1000000000000), y13) h
     obtain ⟨y37, y38, y39⟩ := t
     rw [Qcf] at h
     skip
     refine wx tbk [] trivial ?_
     refine wsq ?_
     rcases bft ((decide (y37 < (p1.length : Int)))) with hc44 | hc44
     ·replace h := Qav hc44 h
      refine wft hc44 (by kernel_rfl) ?_
      refine Qao ?_
      refine thn ?_
      refine wsq ?_
      refine Qak ?_
      refine wx tbk [] trivial ?_
      obtain ⟨x46, hf45, h⟩ := bno h
      refine wx tbk [(4, rp [fu 70, (.tmp 53, (.agg [(Qs1 p1), I p2, I p3, I p4, (z62_3 p5)])), (.tmp 54, I p0), (.tmp 55, I y11), (.tmp 56, I y37)] (.tup [I x46.1, B x46.2]))] ⟨apc (first := []) (cap := []) (vs := [(.agg [(Qs1 p1), I p2, I p3, I p4, (z62_3 p5)]), I p0, I y11, I y37]) rfl Qtz (Qhe N (⟨p1, p2, p3, p4, p5⟩ : GJob) p0 y11 y37 _ hf45) rfl rfl (nlc (NLt.agg _ (nlc (nld Qaa _) (nlc nll (nlc nll (nlc nll (nlc (nld Qay _) nl0)))))) (nlc nll (nlc nll (nlc nll nl0)))) (NLt.tup _ (nlc nll (nlc nll nl0))) rfl, trivial⟩ ?_
      refine wx tbk [] trivial ?_
      rcases bft (x46.2) with hc47 | hc47
      ·replace h := Qav hc47 h
       refine wft hc47 (by kernel_rfl) ?_
       obtain ⟨hi48, h⟩ := cko h
       obtain ⟨hi48a, hi48b⟩ := Qaz hi48
       obtain ⟨x49, hg50, h⟩ := bno h
       obtain ⟨hi51, h⟩ := cko h
       obtain ⟨hi51a, hi51b⟩ := Qaz hi51
       obtain ⟨x52, hg53, h⟩ := bno h
       obtain ⟨hz55, h⟩ := cko h
       obtain ⟨hi54, h⟩ := cko h
       obtain ⟨hi54a, hi54b⟩ := Qaz hi54
       obtain ⟨x56, hg57, h⟩ := bno h
       obtain ⟨hi58, h⟩ := cko h
       obtain ⟨hi58a, hi58b⟩ := Qaz hi58
       obtain ⟨x59, hg60, h⟩ := bno h
       obtain ⟨hz62, h⟩ := cko h
       obtain ⟨hi61, h⟩ := cko h
       obtain ⟨hi61a, hi61b⟩ := Qaz hi61
       obtain ⟨x63, hg64, h⟩ := bno h
       obtain ⟨x65, hl66, h⟩ := bno h
       obtain ⟨hz68, h⟩ := cko h
       obtain ⟨hi67, h⟩ := cko h
       obtain ⟨hi67a, hi67b⟩ := Qaz hi67
       obtain ⟨x69, hg70, h⟩ := bno h
       refine wxd tbk [(2, rb [(.tmp 61, (.own 3 1 (0) (p6))), (.tmp 62, I p0)] [(3, (Qfr p8 p0 p10 p1))] (.ref 3 1 (p0.toNat) 0)), (3, rb [(.tmp 63, (.ref 3 1 (p0.toNat) 0))] [(3, (Qfr p8 p0 p10 p1))] (.row 5 x49.1 1 (0) (x49.2))), (7, rb [(.tmp 66, (.own 3 1 (0) (p6))), (.tmp 67, I p0)] [(3, (Qfr p8 p0 p10 p1))] (.ref 3 1 (p0.toNat) 0)), (8, rb [(.tmp 68, (.ref 3 1 (p0.toNat) 0))] [(3, (Qfr p8 p0 p10 p1))] (.row 5 x52.1 1 (0) (x52.2))), (10, rb [(.tmp 69, (.row 5 x52.1 1 (0) (x52.2))), (.tmp 70, I y11)] [(5, (Qj0 y38))] (.rowp 5 x52.1 1 (y11.toNat) 0)), (11, rb [(.tmp 71, (.rowp 5 x52.1 1 (y11.toNat) 0))] [(5, (Qj0 y38))] (I x56)), (16, rb [(.tmp 74, (.own 3 1 (0) (p6))), (.tmp 76, (I (w64 (p0 + 1))))] [(3, (Qfr p8 p0 p10 p1))] (.ref 3 1 ((w64 (p0 + 1)).toNat) 0)), (17, rb [(.tmp 77, (.ref 3 1 ((w64 (p0 + 1)).toNat) 0))] [(3, (Qfr p8 p0 p10 p1))] (.row 5 x59.1 1 (0) (x59.2))), (19, rb [(.tmp 78, (.row 5 x59.1 1 (0) (x59.2))), (.tmp 79, I y37)] [(5, (Qj0 y38))] (.rowp 5 x59.1 1 (y37.toNat) 0)), (20, rb [(.tmp 80, (.rowp 5 x59.1 1 (y37.toNat) 0))] [(5, (Qj0 y38))] (I x63)), (22, rp [(.tmp 72, I x56), (.tmp 82, (I (w64 (x46.1 + x63))))] (I x65)), (23, rb [(.tmp 64, (.row 5 x49.1 1 (0) (x49.2))), (.tmp 65, I y11)] [(5, (Qj0 y38))] (.rowp 5 x49.1 1 (y11.toNat) 0)), (24, ⟨[(.tmp 84, (.rowp 5 x49.1 1 (y11.toNat) 0)), (.tmp 83, I x65)], [(5, (Qj0 y38))], .any, [(5, (.mat 1 (matA Qad (setM y38 x49.1 y11.toNat x65 : List (List Int)))))], false⟩)] ⟨aio rfl Try.underlying42 ti37 (odt hi48a) (odt hi48b) (Nat.zero_add _), ald rfl ti37 (by decide) (mgt (c_mr 5 1) hg50) (nle rfl) rfl, aio rfl Try.underlying42 ti37 (odt hi51a) (odt hi51b) (Nat.zero_add _), ald rfl ti37 (by decide) (mgt (c_mr 5 1) hg53) (nle rfl) rfl, Qc6 rfl Try.underlying37 ti3 (odt hi54a) (odt hi54b) hz55 (Nat.zero_add _), Qeo rfl ti3 (by decide) hg57 (nle rfl) rfl, aio rfl Try.underlying42 ti37 (odt hi58a) (odt hi58b) (Nat.zero_add _), ald rfl ti37 (by decide) (mgt (c_mr 5 1) hg60) (nle rfl) rfl, Qc6 rfl Try.underlying37 ti3 (odt hi61a) (odt hi61b) hz62 (Nat.zero_add _), Qeo rfl ti3 (by decide) hg64 (nle rfl) rfl, Qep hl66 (Qlg rfl), Qc6 rfl Try.underlying37 ti3 (odt hi67a) (odt hi67b) hz68 (Nat.zero_add _), Qic (u' := x65) rfl ti3 (by rfl) hg70 (nle rfl) rfl, trivial⟩ ?_
       obtain ⟨hi71, h⟩ := cko h
       obtain ⟨hi71a, hi71b⟩ := Qaz hi71
       obtain ⟨x72, hg73, h⟩ := bno h
       obtain ⟨hi74, h⟩ := cko h
       obtain ⟨hi74a, hi74b⟩ := Qaz hi74
       obtain ⟨x75, hg76, h⟩ := bno h
       obtain ⟨hz78, h⟩ := cko h
       obtain ⟨hi77, h⟩ := cko h
       obtain ⟨hi77a, hi77b⟩ := Qaz hi77
       obtain ⟨x79, hg80, h⟩ := bno h
       rcases bft (x79) with hb81 | hb81
       ·replace h := Qav hb81 h
        obtain ⟨hz83, h⟩ := cko h
        obtain ⟨hi82, h⟩ := cko h
        obtain ⟨hi82a, hi82b⟩ := Qaz hi82
        obtain ⟨x84, hg85, h⟩ := bno h
        refine wy1 tbk [(2, rb [(.tmp 85, (.own 4 1 (0) (p7))), (.tmp 86, I p0)] [(4, (Qeq p9 p0 p11 p1))] (.ref 4 1 (p0.toNat) 0)), (3, rb [(.tmp 87, (.ref 4 1 (p0.toNat) 0))] [(4, (Qeq p9 p0 p11 p1))] (.row 6 x72.1 1 (0) (x72.2))), (7, rb [(.tmp 90, (.own 4 1 (0) (p7))), (.tmp 91, I p0)] [(4, (Qeq p9 p0 p11 p1))] (.ref 4 1 (p0.toNat) 0)), (8, rb [(.tmp 92, (.ref 4 1 (p0.toNat) 0))] [(4, (Qeq p9 p0 p11 p1))] (.row 6 x75.1 1 (0) (x75.2))), (10, rb [(.tmp 93, (.row 6 x75.1 1 (0) (x75.2))), (.tmp 94, I y11)] [(6, (Qho y39))] (.rowp 6 x75.1 1 (y11.toNat) 0)), (11, rb [(.tmp 95, (.rowp 6 x75.1 1 (y11.toNat) 0))] [(6, (Qho y39))] (B x79)), (12, rp [(.tmp 96, B x79)] (B true)), (22, rb [(.tmp 88, (.row 6 x72.1 1 (0) (x72.2))), (.tmp 89, I y11)] [(6, (Qho y39))] (.rowp 6 x72.1 1 (y11.toNat) 0)), (23, ⟨[(.tmp 107, (.rowp 6 x72.1 1 (y11.toNat) 0)), (.tmp 106, B true)], [(6, (Qho y39))], .any, [(6, (.mat 1 (matA Qft (setM y39 x72.1 y11.toNat true : List (List Bool)))))], false⟩)] ⟨aio rfl Try.underlying120 Qjk (odt hi71a) (odt hi71b) (Nat.zero_add _), ald rfl Qjk (by decide) (mgt (c_mr 6 1) hg73) (nle rfl) rfl, aio rfl Try.underlying120 Qjk (odt hi74a) (odt hi74b) (Nat.zero_add _), ald rfl Qjk (by decide) (mgt (c_mr 6 1) hg76) (nle rfl) rfl, Qc6 rfl Try.underlying121 ti4 (odt hi77a) (odt hi77b) hz78 (Nat.zero_add _), Qeo rfl ti4 (by decide) hg80 (nle rfl) rfl, asb hb81 (amv rfl), Qc6 rfl Try.underlying121 ti4 (odt hi82a) (odt hi82b) hz83 (Nat.zero_add _), Qic (u' := true) rfl ti4 (by rfl) hg85 (nle rfl) rfl, trivial⟩ ?_
        refine bln ?_
        refine thn ?_
        refine wx1 tbk [] trivial ?_
        refine thn ?_
        exact arm (mto (n := 110) [(0, I p0), (1, .ref 0 5 0 0), (2, .ref 1 1 0 0), (3, .ref 2 1 0 0), (5, I y11), (25, (I ((p1.length : Int)))), (26, I y11), (48, (I ((p1.length : Int)))), (49, (I (w64 (y37 + 1))))] [0, 1, 2, 3, 4, 5, 6] [(Qko p1 p2 p3 p4 p5), (Qkq p6), (Qkp p7), (Qfr p8 p0 p10 p1), (Qeq p9 p0 p11 p1), (.mat 1 (matA Qad (setM y38 x49.1 y11.toNat x65 : List (List Int)))), (.mat 1 (matA Qft (setM y39 x72.1 y11.toNat true : List (List Bool))))] hφ0 (pc rwl (pc (.rn (rqr rfl)) (pc (.rn (rqr rfl)) (pc (.rn (rqr rfl)) (pc rwl (pc rwl (pc rwl (pc rwl (pc rwl pn))))))))) (qc (spb (lc (.rn (.plain _ (nld Qaa _))) (lc rwl (lc rwl (lc rwl (lc (.rn (.plain _ (nld Qay _))) ln)))))) (qc (spb (lc (.rn (Qaf rfl)) ln)) (qc (spb (lc (.rn (Qaf rfl)) ln)) (qc (Qbp rfl) (qc (Qbp rfl) (qc (Qb6 Qaa) (qc (Qb6 Qc1) qn)))))))) (ih (w64 (y37 + 1), setM y38 x49.1 y11.toNat x65, setM y39 x72.1 y11.toNat true) h)
       ·replace h := Qaw hb81 h
        obtain ⟨hi86, h⟩ := cko h
        obtain ⟨hi86a, hi86b⟩ := Qaz hi86
        obtain ⟨x87, hg88, h⟩ := bno h
        obtain ⟨hz90, h⟩ := cko h
        obtain ⟨hi89, h⟩ := cko h
        obtain ⟨hi89a, hi89b⟩ := Qaz hi89
        obtain ⟨x91, hg92, h⟩ := bno h
        obtain ⟨hz94, h⟩ := cko h
        obtain ⟨hi93, h⟩ := cko h
        obtain ⟨hi93a, hi93b⟩ := Qaz hi93
        obtain ⟨x95, hg96, h⟩ := bno h
        refine wy1 tbk [(2, rb [(.tmp 85, (.own 4 1 (0) (p7))), (.tmp 86, I p0)] [(4, (Qeq p9 p0 p11 p1))] (.ref 4 1 (p0.toNat) 0)), (3, rb [(.tmp 87, (.ref 4 1 (p0.toNat) 0))] [(4, (Qeq p9 p0 p11 p1))] (.row 6 x72.1 1 (0) (x72.2))), (7, rb [(.tmp 90, (.own 4 1 (0) (p7))), (.tmp 91, I p0)] [(4, (Qeq p9 p0 p11 p1))] (.ref 4 1 (p0.toNat) 0)), (8, rb [(.tmp 92, (.ref 4 1 (p0.toNat) 0))] [(4, (Qeq p9 p0 p11 p1))] (.row 6 x75.1 1 (0) (x75.2))), (10, rb [(.tmp 93, (.row 6 x75.1 1 (0) (x75.2))), (.tmp 94, I y11)] [(6, (Qho y39))] (.rowp 6 x75.1 1 (y11.toNat) 0)), (11, rb [(.tmp 95, (.rowp 6 x75.1 1 (y11.toNat) 0))] [(6, (Qho y39))] (B x79)), (12, rp [(.tmp 96, B x79)] (B false)), (16, rb [(.tmp 97, B false), (.tmp 98, (.own 4 1 (0) (p7))), (.tmp 100, (I (w64 (p0 + 1))))] [(4, (Qeq p9 p0 p11 p1))] (.ref 4 1 ((w64 (p0 + 1)).toNat) 0)), (17, rb [(.tmp 97, B false), (.tmp 101, (.ref 4 1 ((w64 (p0 + 1)).toNat) 0))] [(4, (Qeq p9 p0 p11 p1))] (.row 6 x87.1 1 (0) (x87.2))), (19, rb [(.tmp 97, B false), (.tmp 102, (.row 6 x87.1 1 (0) (x87.2))), (.tmp 103, I y37)] [(6, (Qho y39))] (.rowp 6 x87.1 1 (y37.toNat) 0)), (20, rb [(.tmp 97, B false), (.tmp 104, (.rowp 6 x87.1 1 (y37.toNat) 0))] [(6, (Qho y39))] (B x91)), (22, rb [(.tmp 88, (.row 6 x72.1 1 (0) (x72.2))), (.tmp 89, I y11)] [(6, (Qho y39))] (.rowp 6 x72.1 1 (y11.toNat) 0)), (23, ⟨[(.tmp 107, (.rowp 6 x72.1 1 (y11.toNat) 0)), (.tmp 106, B x91)], [(6, (Qho y39))], .any, [(6, (.mat 1 (matA Qft (setM y39 x72.1 y11.toNat x91 : List (List Bool)))))], false⟩)] ⟨aio rfl Try.underlying120 Qjk (odt hi71a) (odt hi71b) (Nat.zero_add _), ald rfl Qjk (by decide) (mgt (c_mr 6 1) hg73) (nle rfl) rfl, aio rfl Try.underlying120 Qjk (odt hi74a) (odt hi74b) (Nat.zero_add _), ald rfl Qjk (by decide) (mgt (c_mr 6 1) hg76) (nle rfl) rfl, Qc6 rfl Try.underlying121 ti4 (odt hi77a) (odt hi77b) hz78 (Nat.zero_add _), Qeo rfl ti4 (by decide) hg80 (nle rfl) rfl, asb hb81 (amv rfl), ag_ (aio rfl Try.underlying120 Qjk (odt hi86a) (odt hi86b) (Nat.zero_add _)), ag_ (ald rfl Qjk (by decide) (mgt (c_mr 6 1) hg88) (nle rfl) rfl), ag_ (Qc6 rfl Try.underlying121 ti4 (odt hi89a) (odt hi89b) hz90 (Nat.zero_add _)), ag_ (Qeo rfl ti4 (by decide) hg92 (nle rfl) rfl), Qc6 rfl Try.underlying121 ti4 (odt hi93a) (odt hi93b) hz94 (Nat.zero_add _), Qic (u' := x91) rfl ti4 (by rfl) hg96 (nle rfl) rfl, trivial⟩ ?_
        refine bln ?_
        refine thn ?_
        refine wx1 tbk [] trivial ?_
        refine thn ?_
        exact arm (mto (n := 110) [(0, I p0), (1, .ref 0 5 0 0), (2, .ref 1 1 0 0), (3, .ref 2 1 0 0), (5, I y11), (25, (I ((p1.length : Int)))), (26, I y11), (48, (I ((p1.length : Int)))), (49, (I (w64 (y37 + 1))))] [0, 1, 2, 3, 4, 5, 6] [(Qko p1 p2 p3 p4 p5), (Qkq p6), (Qkp p7), (Qfr p8 p0 p10 p1), (Qeq p9 p0 p11 p1), (.mat 1 (matA Qad (setM y38 x49.1 y11.toNat x65 : List (List Int)))), (.mat 1 (matA Qft (setM y39 x72.1 y11.toNat x91 : List (List Bool))))] hφ0 (pc rwl (pc (.rn (rqr rfl)) (pc (.rn (rqr rfl)) (pc (.rn (rqr rfl)) (pc rwl (pc rwl (pc rwl (pc rwl (pc rwl pn))))))))) (qc (spb (lc (.rn (.plain _ (nld Qaa _))) (lc rwl (lc rwl (lc rwl (lc (.rn (.plain _ (nld Qay _))) ln)))))) (qc (spb (lc (.rn (Qaf rfl)) ln)) (qc (spb (lc (.rn (Qaf rfl)) ln)) (qc (Qbp rfl) (qc (Qbp rfl) (qc (Qb6 Qaa) (qc (Qb6 Qc1) qn)))))))) (ih (w64 (y37 + 1), setM y38 x49.1 y11.toNat x65, setM y39 x72.1 y11.toNat x91) h)
      ·replace h := Qaw hc47 h
       refine wfn hc47 (by kernel_rfl) ?_
       refine Qao ?_
       refine bln ?_
       refine thn ?_
       refine wx1 tbk [] trivial ?_
       refine thn ?_
       exact arm (mto (n := 110) [(0, I p0), (1, .ref 0 5 0 0), (2, .ref 1 1 0 0), (3, .ref 2 1 0 0), (5, I y11), (25, (I ((p1.length : Int)))), (26, I y11), (48, (I ((p1.length : Int)))), (49, (I (w64 (y37 + 1))))] [0, 1, 2, 3, 4, 5, 6] [(Qko p1 p2 p3 p4 p5), (Qkq p6), (Qkp p7), (Qfr p8 p0 p10 p1), (Qeq p9 p0 p11 p1), (Qj0 y38), (Qho y39)] hφ0 (pc rwl (pc (.rn (rqr rfl)) (pc (.rn (rqr rfl)) (pc (.rn (rqr rfl)) (pc rwl (pc rwl (pc rwl (pc rwl (pc rwl pn))))))))) (qc (spb (lc (.rn (.plain _ (nld Qaa _))) (lc rwl (lc rwl (lc rwl (lc (.rn (.plain _ (nld Qay _))) ln)))))) (qc (spb (lc (.rn (Qaf rfl)) ln)) (qc (spb (lc (.rn (Qaf rfl)) ln)) (qc (Qbp rfl) (qc (Qbp rfl) (qc (Qb6 Qaa) (qc (Qb6 Qc1) qn)))))))) (ih (w64 (y37 + 1), y38, y39) h)
     ·replace h := Qaw hc44 h
      refine wfn hc44 (by kernel_rfl) ?_
      refine Qbh ?_
      refine Qar ?_
      refine Qar ?_
      refine Qbg rfl ?_
      refine bln ?_
      refine thn ?_
      exact ⟨(y38, y39), h, (mto (n := 110) [(0, I p0), (1, .ref 0 5 0 0), (2, .ref 1 1 0 0), (3, .ref 2 1 0 0), (25, (I ((p1.length : Int)))), (26, I y11)] [0, 1, 2, 3, 4, 5, 6] [(Qko p1 p2 p3 p4 p5), (Qkq p6), (Qkp p7), (Qfr p8 p0 p10 p1), (Qeq p9 p0 p11 p1), (Qj0 y38), (Qho y39)] hφ0 (pc rwl (pc (.rn (rqr rfl)) (pc (.rn (rqr rfl)) (pc (.rn (rqr rfl)) (pc rwl (pc rwl pn)))))) (qc (spb (lc (.rn (.plain _ (nld Qaa _))) (lc rwl (lc rwl (lc rwl (lc (.rn (.plain _ (nld Qay _))) ln)))))) (qc (spb (lc (.rn (Qaf rfl)) ln)) (qc (spb (lc (.rn (Qaf rfl)) ln)) (qc (Qbp rfl) (qc (Qbp rfl) (qc (Qb6 Qaa) (qc (Qb6 Qc1) qn))))))))⟩
  ·replace h := Qaw hc18 h
   refine wfn hc18 (by kernel_rfl) ?_
   refine Qbh ?_
   refine Qar ?_
   refine Qar ?_
   refine Qbg rfl ?_
   obtain rfl := osi h
   exact ⟨_, (mto (n := 110) (l' := []) (own' := [(Qko p1 p2 p3 p4 p5), (Qkq p6), (Qkp p7), (Qfr p8 p0 p10 p1), (Qeq p9 p0 p11 p1), (Qm1 y12), (Ql1 y13)]) [] [0, 1, 2, 3, 4, 5, 6] [(Qko p1 p2 p3 p4 p5), (Qkq p6), (Qkp p7), (Qfr p8 p0 p10 p1), (Qeq p9 p0 p11 p1), (Qm1 y12), (Ql1 y13)] hφ0 pn (qc (spb (lc (.rn (.plain _ (nld Qaa _))) (lc rwl (lc rwl (lc rwl (lc (.rn (.plain _ (nld Qay _))) ln)))))) (qc (spb (lc (.rn (Qaf rfl)) ln)) (qc (spb (lc (.rn (Qaf rfl)) ln)) (qc (Qbp rfl) (qc (Qbp rfl) (qc (Qb6 Qaa) (qc (Qb6 Qc1) qn)))))))), Qbx (vs := []) trivial rfl (NLt.tup _ nl0) (by kernel_rfl) (Qag (Qas (nlc (NLt.of0 (nld Qaa _)) (nlc (NLt.of0 nll) (nlc (NLt.of0 nll) (nlc (NLt.of0 nll) (nlc (NLt.of0 (nld Qay _)) nl0)))))) (Qag (Qas (nlc (NLt.own _ _ _ _ (by decide)) nl0)) (Qag (Qas (nlc (NLt.own _ _ _ _ (by decide)) nl0)) (Qag (Qgi rfl) (Qag (Qgi rfl) (Qag (Qii Qaa _) (Qag (Qii Qc1 _) Qa5)))))))⟩
def Qem (N : Nat) (p0 : GJob) (k2 : (List Int) → Option (List Int)) : Nat → (List Int) → Int → Option (List Int)
  | 0, _, _ => none
  | n7 + 1, y3, y4 =>
    bif (decide (y4 < (p0.Levels.length : Int))) then
     chk (decide ((y3.length + ([y4]).length) * 8 ≤ 140737488355328)) <|
     Qem N p0 k2 n7 (y3 ++ ([y4])) (w64 (y4 + 1))
    else
     k2 (y3)
def Qj9 (N : Nat) (p0 : GJob) : Option (List Int) :=
  Qdu (fun y1 =>
    some y1) fun k2 : (List Int) → Option (List Int) =>
  Qem N p0 k2 N ([]) 0
def z64_0 (p0 : GJob) : AV := .dat 1 ((p0.Levels : List Int).map Qad)
def Qxa (y3 : (List Int)) : AV := .acc 0 3 1 ((y3 : List Int).map Qad)
set_option maxRecDepth 100000 in
set_option maxHeartbeats 4000000 in
theorem Qn2 (N : Nat) (p0 : GJob) (r : (List Int)) (h : Qj9 N p0 = some r) : Spec Try.prog 72 [(.agg (Qo5 p0))] [] (.dat 1 (r.map Qad)) [] := by
  refine Qac Try.func72 rfl 0 (nle rfl) (fun X φ0 w0 hφ0 => ?_)
  unfold Qj9 at h
  refine wx tbk [] trivial ?_
  obtain ⟨k2, hk_k2, h⟩ := jko h
  refine wjn (τ := (List Int)) (fun t => k2 t = some r) (fun y1 => ⟨mk 16 [(2, (.acc 0 3 1 ((y1 : List Int).map Qad)))], [.tok]⟩) (fun y1 h => ?_) ?_
  ·subst hk_k2
   refine wx tbk [] trivial ?_
   refine Qab ?_
   obtain rfl := osi h
   exact fend ⟨[(.dat 1 ((y1 : List Int).map Qad))], ⟨Qlj (v := (.acc 0 3 1 ((y1 : List Int).map Qad))) (rot (by kernel_rfl)) Less.acc, trivial⟩, rfl⟩ (nld Qaa _)
  ·skip
   refine wx tbk [(2, rp [(.tmp 5, (z64_0 p0))] (I ((p0.Levels.length : Int))))] ⟨alm (c := Qad) (l := p0.Levels) (aln rfl Try.underlying37 rfl), trivial⟩ ?_
   refine Qak ?_
   refine wmr (Mor.trans (Qtu 1 3 1 2 (by kernel_rfl) (by kernel_rfl)) (mto (n := 16) (l' := [(2, (.acc 0 3 1 ((([]) : List Int).map Qad))), (6, (I ((p0.Levels.length : Int)))), (7, I 0)]) (own' := [.tok]) [(2, (.acc 1 3 1 (([] : List Int).map Qad))), (6, (I ((p0.Levels.length : Int)))), (7, I 0)] [1] [.tok] hφ0 (pc (.rn (Qj7 rfl (Qgs Qaa _))) (pc rwl (pc rwl pn))) (qc .tok qn))) ?_
   refine Qb1 (τ := (List Int) × Int) (fun n t => Qem N p0 k2 n t.1 t.2 = some r) (fun ⟨y3, y4⟩ => ⟨mk 16 [(2, (Qxa y3)), (6, (I ((p0.Levels.length : Int)))), (7, I y4)], [.tok]⟩) (fun t h => by rw [Qem] at h; cases h) (fun n7 ih t h => ?_) N ([], 0) h
   obtain ⟨y3, y4⟩ := t
   rw [Qem] at h
   skip
   refine wx tbk [] trivial ?_
   refine wsq ?_
   rcases bft ((decide (y4 < (p0.Levels.length : Int)))) with hc8 | hc8
   ·replace h := Qav hc8 h
    refine wft hc8 (by kernel_rfl) ?_
    refine Qao ?_
    refine thn ?_
    refine wsq ?_
    refine Qak ?_
    refine wx tbk [] trivial ?_
    obtain ⟨ha9, h⟩ := cko h
    refine wx1 tbk [(2, rp [(.tmp 11, I y4)] (.dat 1 (([y4] : List Int).map Qad))), (3, ⟨[(.tmp 10, (Qxa y3)), (.tmp 12, (.dat 1 (([y4] : List Int).map Qad)))], [(0, .tok), (1, .unused)], (.acc 1 3 1 ((y3 ++ ([y4]) : List Int).map Qad)), [(0, .dead), (1, .tok)], false⟩)] ⟨Qbk (vs := [I y4]) rfl Try.underlying37 ti3 tz3 rfl (by decide) rfl (by decide) (by rfl) (by rfl) (by rfl) rfl, Qpc rfl Try.underlying37 te3 (Base.acc _ _) rfl rfl (by rfl) (Qul Qad ha9) (Quk Qad ha9 (by decide)) (Quj Qad) rfl rfl, trivial⟩ ?_
    refine bln ?_
    refine thn ?_
    refine wx1 tbk [] trivial ?_
    refine thn ?_
    exact arm (mto (n := 16) [(2, (.acc 1 3 1 ((y3 ++ ([y4]) : List Int).map Qad))), (6, (I ((p0.Levels.length : Int)))), (7, (I (w64 (y4 + 1))))] [1] [.tok] hφ0 (pc (.rn (Qj7 rfl (Qgs Qaa _))) (pc rwl (pc rwl pn))) (qc .tok qn)) (ih (y3 ++ ([y4]), w64 (y4 + 1)) h)
   ·replace h := Qaw hc8 h
    refine wfn hc8 (by kernel_rfl) ?_
    refine Qbh ?_
    refine Qar ?_
    refine Qar ?_
    refine Qbg rfl ?_
    refine thn ?_
    exact ⟨(y3), h, (mto (n := 16) [(2, (Qxa y3))] [0] [.tok] hφ0 (pc (.rn (Qj7 rfl (Qgs Qaa _))) pn) (qc .tok qn))⟩
def Qgq (N : Nat) (p0 : Int) (p1 : (List Int)) (p2 : Int) (p3 : Int) (p4 : Int) (p5 : (List GHour)) (p6 : Int) (p7 : Int) (p8 : Nat) (p9 : Nat) (p10 : (List (Nat × Nat))) (p11 : (List (Nat × Nat))) (p12 : (List (List Bool))) (p13 : (List (List Int))) : Option Bool :=
  (Qf5 N (⟨p1, p2, p3, p4, p5⟩ : GJob) p6 p7 p0).bind fun x3 =>
  bif x3.2 then
   chk (decide (0 ≤ w64 (p6 + 1)) && decide ((w64 (p6 + 1)).toNat < p8)) <|
   (p10[(w64 (p6 + 1)).toNat]?).bind fun x6 =>
   chk (!(p12.getD x6.1 []).isEmpty) <|
   chk (decide (0 ≤ p0) && decide (p0.toNat < x6.2)) <|
   (getM p12 x6.1 p0.toNat).bind fun x10 =>
   bif x10 then
    chk (decide (0 ≤ w64 (p6 + 1)) && decide ((w64 (p6 + 1)).toNat < p9)) <|
    (p11[(w64 (p6 + 1)).toNat]?).bind fun x14 =>
    chk (!(p13.getD x14.1 []).isEmpty) <|
    chk (decide (0 ≤ p0) && decide (p0.toNat < x14.2)) <|
    (getM p13 x14.1 p0.toNat).bind fun x18 =>
    chk (decide (0 ≤ p6) && decide (p6.toNat < p9)) <|
    (p11[p6.toNat]?).bind fun x21 =>
    chk (!(p13.getD x21.1 []).isEmpty) <|
    chk (decide (0 ≤ p7) && decide (p7.toNat < x21.2)) <|
    (getM p13 x21.1 p7.toNat).bind fun x25 =>
    some ((w64 (x3.1 + x18)) == x25)
   else
    some false
  else
   some false
def z66_0 (p1 : (List Int)) : AV := .dat 1 ((p1 : List Int).map Qad)
def z66_1 (p5 : (List GHour)) : AV := .dat 2 ((p5 : List GHour).map Qcr)
def Qrp (p1 : (List Int)) (p2 : Int) (p3 : Int) (p4 : Int) (p5 : (List GHour)) : Slot := .own 5 [[(z66_0 p1), (I (p2)), (I (p3)), (I (p4)), (z66_1 p5)]]
def Qro (p8 : Nat) : Slot := .own 1 [[(.own 5 1 (0) (p8))]]
def Qrn (p9 : Nat) : Slot := .own 1 [[(.own 6 1 (0) (p9))]]
def Qn0 (p10 : (List (Nat × Nat))) : Slot := .own 1 ((p10 : List (Nat × Nat)).map (c_mr 7 1))
def Qny (p11 : (List (Nat × Nat))) : Slot := .own 1 ((p11 : List (Nat × Nat)).map (c_mr 8 1))
def Qnz (p12 : (List (List Bool))) : Slot := .mat 1 (matA Qft (p12 : List (List Bool)))
def Qnx (p13 : (List (List Int))) : Slot := .mat 1 (matA Qad (p13 : List (List Int)))
set_option maxRecDepth 100000 in
set_option maxHeartbeats 4000000 in
theorem Qkm (N : Nat) (p0 : Int) (p1 : (List Int)) (p2 : Int) (p3 : Int) (p4 : Int) (p5 : (List GHour)) (p6 : Int) (p7 : Int) (p8 : Nat) (p9 : Nat) (p10 : (List (Nat × Nat))) (p11 : (List (Nat × Nat))) (p12 : (List (List Bool))) (p13 : (List (List Int))) (r : Bool) (h : Qgq N p0 p1 p2 p3 p4 p5 p6 p7 p8 p9 p10 p11 p12 p13 = some r) : Spec Try.prog 73 [(I (p0)), (.ref 0 5 (0) 0), (.ref 1 1 (0) 0), (.ref 2 1 (0) 0), (.ref 3 1 (0) 0), (.ref 4 1 (0) 0)] [(Qrp p1 p2 p3 p4 p5), (.own 1 [[(I (p6))]]), (.own 1 [[(I (p7))]]), (Qro p8), (Qrn p9), (Qn0 p10), (Qny p11), (Qnz p12), (Qnx p13)] (B (r)) [(Qrp p1 p2 p3 p4 p5), (.own 1 [[(I (p6))]]), (.own 1 [[(I (p7))]]), (Qro p8), (Qrn p9), (Qn0 p10), (Qny p11), (Qnz p12), (Qnx p13)] := by
  refine Qac Try.func73 rfl 9 (nle rfl) (fun X φ0 w0 hφ0 => ?_)
  unfold Qgq at h
  refine Qbj ?_
  refine wx tbk [] trivial ?_
  obtain ⟨x3, hf2, h⟩ := bno h
  refine wx tbk [(4, rp [fu 70, (.tmp 11, (.agg [(z66_0 p1), I p2, I p3, I p4, (z66_1 p5)])), (.tmp 12, I p6), (.tmp 13, I p7), (.tmp 14, I p0)] (.tup [I x3.1, B x3.2]))] ⟨apc (first := []) (cap := []) (vs := [(.agg [(z66_0 p1), I p2, I p3, I p4, (z66_1 p5)]), I p6, I p7, I p0]) rfl Qtz (Qhe N (⟨p1, p2, p3, p4, p5⟩ : GJob) p6 p7 p0 _ hf2) rfl rfl (nlc (NLt.agg _ (nlc (nld Qaa _) (nlc nll (nlc nll (nlc nll (nlc (nld Qay _) nl0)))))) (nlc nll (nlc nll (nlc nll nl0)))) (NLt.tup _ (nlc nll (nlc nll nl0))) rfl, trivial⟩ ?_
  rcases bft (x3.2) with hb4 | hb4
  ·replace h := Qav hb4 h
   obtain ⟨hi5, h⟩ := cko h
   obtain ⟨hi5a, hi5b⟩ := Qaz hi5
   obtain ⟨x6, hg7, h⟩ := bno h
   obtain ⟨hz9, h⟩ := cko h
   obtain ⟨hi8, h⟩ := cko h
   obtain ⟨hi8a, hi8b⟩ := Qaz hi8
   obtain ⟨x10, hg11, h⟩ := bno h
   rcases bft (x10) with hb12 | hb12
   ·replace h := Qav hb12 h
    obtain ⟨hi13, h⟩ := cko h
    obtain ⟨hi13a, hi13b⟩ := Qaz hi13
    obtain ⟨x14, hg15, h⟩ := bno h
    obtain ⟨hz17, h⟩ := cko h
    obtain ⟨hi16, h⟩ := cko h
    obtain ⟨hi16a, hi16b⟩ := Qaz hi16
    obtain ⟨x18, hg19, h⟩ := bno h
    obtain ⟨hi20, h⟩ := cko h
    obtain ⟨hi20a, hi20b⟩ := Qaz hi20
    obtain ⟨x21, hg22, h⟩ := bno h
    obtain ⟨hz24, h⟩ := cko h
    obtain ⟨hi23, h⟩ := cko h
    obtain ⟨hi23a, hi23b⟩ := Qaz hi23
    obtain ⟨x25, hg26, h⟩ := bno h
    refine wxd tbk [(1, rp [(.tmp 18, B x3.2)] (B true)), (5, rb [(.tmp 19, B true), (.tmp 20, (.own 5 1 (0) (p8))), (.tmp 22, (I (w64 (p6 + 1))))] [(5, (Qn0 p10))] (.ref 5 1 ((w64 (p6 + 1)).toNat) 0)), (6, rb [(.tmp 19, B true), (.tmp 23, (.ref 5 1 ((w64 (p6 + 1)).toNat) 0))] [(5, (Qn0 p10))] (.row 7 x6.1 1 (0) (x6.2))), (8, rb [(.tmp 19, B true), (.tmp 24, (.row 7 x6.1 1 (0) (x6.2))), (.tmp 25, I p0)] [(7, (Qnz p12))] (.rowp 7 x6.1 1 (p0.toNat) 0)), (9, rb [(.tmp 19, B true), (.tmp 26, (.rowp 7 x6.1 1 (p0.toNat) 0))] [(7, (Qnz p12))] (B x10)), (11, rp [(.tmp 28, B x10)] (B true)), (16, rb [(.tmp 29, B true), (.tmp 31, (.own 6 1 (0) (p9))), (.tmp 33, (I (w64 (p6 + 1))))] [(6, (Qny p11))] (.ref 6 1 ((w64 (p6 + 1)).toNat) 0)), (17, rb [(.tmp 29, B true), (.tmp 34, (.ref 6 1 ((w64 (p6 + 1)).toNat) 0))] [(6, (Qny p11))] (.row 8 x14.1 1 (0) (x14.2))), (19, rb [(.tmp 29, B true), (.tmp 35, (.row 8 x14.1 1 (0) (x14.2))), (.tmp 36, I p0)] [(8, (Qnx p13))] (.rowp 8 x14.1 1 (p0.toNat) 0)), (20, rb [(.tmp 29, B true), (.tmp 37, (.rowp 8 x14.1 1 (p0.toNat) 0))] [(8, (Qnx p13))] (I x18)), (24, rb [(.tmp 29, B true), (.tmp 40, (.own 6 1 (0) (p9))), (.tmp 41, I p6)] [(6, (Qny p11))] (.ref 6 1 (p6.toNat) 0)), (25, rb [(.tmp 29, B true), (.tmp 42, (.ref 6 1 (p6.toNat) 0))] [(6, (Qny p11))] (.row 8 x21.1 1 (0) (x21.2))), (27, rb [(.tmp 29, B true), (.tmp 43, (.row 8 x21.1 1 (0) (x21.2))), (.tmp 44, I p7)] [(8, (Qnx p13))] (.rowp 8 x21.1 1 (p7.toNat) 0)), (28, rb [(.tmp 29, B true), (.tmp 45, (.rowp 8 x21.1 1 (p7.toNat) 0))] [(8, (Qnx p13))] (I x25))] ⟨asb hb4 (amv rfl), ag_ (aio rfl Try.underlying120 Qjk (odt hi5a) (odt hi5b) (Nat.zero_add _)), ag_ (ald rfl Qjk (by decide) (mgt (c_mr 7 1) hg7) (nle rfl) rfl), ag_ (Qc6 rfl Try.underlying121 ti4 (odt hi8a) (odt hi8b) hz9 (Nat.zero_add _)), ag_ (Qeo rfl ti4 (by decide) hg11 (nle rfl) rfl), asb hb12 (amv rfl), ag_ (aio rfl Try.underlying42 ti37 (odt hi13a) (odt hi13b) (Nat.zero_add _)), ag_ (ald rfl ti37 (by decide) (mgt (c_mr 8 1) hg15) (nle rfl) rfl), ag_ (Qc6 rfl Try.underlying37 ti3 (odt hi16a) (odt hi16b) hz17 (Nat.zero_add _)), ag_ (Qeo rfl ti3 (by decide) hg19 (nle rfl) rfl), ag_ (aio rfl Try.underlying42 ti37 (odt hi20a) (odt hi20b) (Nat.zero_add _)), ag_ (ald rfl ti37 (by decide) (mgt (c_mr 8 1) hg22) (nle rfl) rfl), ag_ (Qc6 rfl Try.underlying37 ti3 (odt hi23a) (odt hi23b) hz24 (Nat.zero_add _)), ag_ (Qeo rfl ti3 (by decide) hg26 (nle rfl) rfl), trivial⟩ ?_
    refine wmr (mto (n := 49) (l' := [(7, (B (((w64 (x3.1 + x18)) == x25))))]) (own' := [(Qrp p1 p2 p3 p4 p5), (.own 1 [[I p6]]), (.own 1 [[I p7]]), (Qro p8), (Qrn p9), (Qn0 p10), (Qny p11), (Qnz p12), (Qnx p13)]) [(7, (B (((w64 (x3.1 + x18)) == x25))))] [0, 1, 2, 3, 4, 5, 6, 7, 8] [(Qrp p1 p2 p3 p4 p5), (.own 1 [[I p6]]), (.own 1 [[I p7]]), (Qro p8), (Qrn p9), (Qn0 p10), (Qny p11), (Qnz p12), (Qnx p13)] hφ0 (pc rwl pn) (qc (spb (lc (.rn (.plain _ (nld Qaa _))) (lc rwl (lc rwl (lc rwl (lc (.rn (.plain _ (nld Qay _))) ln)))))) (qc (spb (lc rwl ln)) (qc (spb (lc rwl ln)) (qc (spb (lc (.rn (Qaf rfl)) ln)) (qc (spb (lc (.rn (Qaf rfl)) ln)) (qc (Qbp rfl) (qc (Qbp rfl) (qc (Qb6 Qc1) (qc (Qb6 Qaa) qn)))))))))) ?_
    refine Qab ?_
    obtain rfl := osi h
    exact ⟨_, Mor.rfl, Qbx (vs := [(B (((w64 (x3.1 + x18)) == x25)))]) ⟨rot (by kernel_rfl), trivial⟩ rfl (NLt.of0 nll) (by kernel_rfl) (Qag (Qas (nlc (NLt.of0 (nld Qaa _)) (nlc (NLt.of0 nll) (nlc (NLt.of0 nll) (nlc (NLt.of0 nll) (nlc (NLt.of0 (nld Qay _)) nl0)))))) (Qag (Qas (nlc (NLt.of0 nll) nl0)) (Qag (Qas (nlc (NLt.of0 nll) nl0)) (Qag (Qas (nlc (NLt.own _ _ _ _ (by decide)) nl0)) (Qag (Qas (nlc (NLt.own _ _ _ _ (by decide)) nl0)) (Qag (Qgi rfl) (Qag (Qgi rfl) (Qag (Qii Qc1 _) (Qag (Qii Qaa _) Qa5)))))))))⟩
   ·replace h := Qaw hb12 h
    refine wxd tbk [(1, rp [(.tmp 18, B x3.2)] (B true)), (5, rb [(.tmp 19, B true), (.tmp 20, (.own 5 1 (0) (p8))), (.tmp 22, (I (w64 (p6 + 1))))] [(5, (Qn0 p10))] (.ref 5 1 ((w64 (p6 + 1)).toNat) 0)), (6, rb [(.tmp 19, B true), (.tmp 23, (.ref 5 1 ((w64 (p6 + 1)).toNat) 0))] [(5, (Qn0 p10))] (.row 7 x6.1 1 (0) (x6.2))), (8, rb [(.tmp 19, B true), (.tmp 24, (.row 7 x6.1 1 (0) (x6.2))), (.tmp 25, I p0)] [(7, (Qnz p12))] (.rowp 7 x6.1 1 (p0.toNat) 0)), (9, rb [(.tmp 19, B true), (.tmp 26, (.rowp 7 x6.1 1 (p0.toNat) 0))] [(7, (Qnz p12))] (B x10)), (11, rp [(.tmp 28, B x10)] (B false))] ⟨asb hb4 (amv rfl), ag_ (aio rfl Try.underlying120 Qjk (odt hi5a) (odt hi5b) (Nat.zero_add _)), ag_ (ald rfl Qjk (by decide) (mgt (c_mr 7 1) hg7) (nle rfl) rfl), ag_ (Qc6 rfl Try.underlying121 ti4 (odt hi8a) (odt hi8b) hz9 (Nat.zero_add _)), ag_ (Qeo rfl ti4 (by decide) hg11 (nle rfl) rfl), asb hb12 (amv rfl), trivial⟩ ?_
    refine wmr (mto (n := 49) (l' := [(7, B false)]) (own' := [(Qrp p1 p2 p3 p4 p5), (.own 1 [[I p6]]), (.own 1 [[I p7]]), (Qro p8), (Qrn p9), (Qn0 p10), (Qny p11), (Qnz p12), (Qnx p13)]) [(7, B false)] [0, 1, 2, 3, 4, 5, 6, 7, 8] [(Qrp p1 p2 p3 p4 p5), (.own 1 [[I p6]]), (.own 1 [[I p7]]), (Qro p8), (Qrn p9), (Qn0 p10), (Qny p11), (Qnz p12), (Qnx p13)] hφ0 (pc rwl pn) (qc (spb (lc (.rn (.plain _ (nld Qaa _))) (lc rwl (lc rwl (lc rwl (lc (.rn (.plain _ (nld Qay _))) ln)))))) (qc (spb (lc rwl ln)) (qc (spb (lc rwl ln)) (qc (spb (lc (.rn (Qaf rfl)) ln)) (qc (spb (lc (.rn (Qaf rfl)) ln)) (qc (Qbp rfl) (qc (Qbp rfl) (qc (Qb6 Qc1) (qc (Qb6 Qaa) qn)))))))))) ?_
    refine Qab ?_
    obtain rfl := osi h
    exact ⟨_, Mor.rfl, Qbx (vs := [B false]) ⟨rot (by kernel_rfl), trivial⟩ rfl (NLt.of0 nll) (by kernel_rfl) (Qag (Qas (nlc (NLt.of0 (nld Qaa _)) (nlc (NLt.of0 nll) (nlc (NLt.of0 nll) (nlc (NLt.of0 nll) (nlc (NLt.of0 (nld Qay _)) nl0)))))) (Qag (Qas (nlc (NLt.of0 nll) nl0)) (Qag (Qas (nlc (NLt.of0 nll) nl0)) (Qag (Qas (nlc (NLt.own _ _ _ _ (by decide)) nl0)) (Qag (Qas (nlc (NLt.own _ _ _ _ (by decide)) nl0)) (Qag (Qgi rfl) (Qag (Qgi rfl) (Qag (Qii Qc1 _) (Qag (Qii Qaa _) Qa5)))))))))⟩
  ·replace h := Qaw hb4 h
   refine wxd tbk [(1, rp [(.tmp 18, B x3.2)] (B false))] ⟨asb hb4 (amv rfl), trivial⟩ ?_
   refine wmr (mto (n := 49) (l' := [(7, B false)]) (own' := [(Qrp p1 p2 p3 p4 p5), (.own 1 [[I p6]]), (.own 1 [[I p7]]), (Qro p8), (Qrn p9), (Qn0 p10), (Qny p11), (Qnz p12), (Qnx p13)]) [(7, B false)] [0, 1, 2, 3, 4, 5, 6, 7, 8] [(Qrp p1 p2 p3 p4 p5), (.own 1 [[I p6]]), (.own 1 [[I p7]]), (Qro p8), (Qrn p9), (Qn0 p10), (Qny p11), (Qnz p12), (Qnx p13)] hφ0 (pc rwl pn) (qc (spb (lc (.rn (.plain _ (nld Qaa _))) (lc rwl (lc rwl (lc rwl (lc (.rn (.plain _ (nld Qay _))) ln)))))) (qc (spb (lc rwl ln)) (qc (spb (lc rwl ln)) (qc (spb (lc (.rn (Qaf rfl)) ln)) (qc (spb (lc (.rn (Qaf rfl)) ln)) (qc (Qbp rfl) (qc (Qbp rfl) (qc (Qb6 Qc1) (qc (Qb6 Qaa) qn)))))))))) ?_
   refine Qab ?_
   obtain rfl := osi h
   exact ⟨_, Mor.rfl, Qbx (vs := [B false]) ⟨rot (by kernel_rfl), trivial⟩ rfl (NLt.of0 nll) (by kernel_rfl) (Qag (Qas (nlc (NLt.of0 (nld Qaa _)) (nlc (NLt.of0 nll) (nlc (NLt.of0 nll) (nlc (NLt.of0 nll) (nlc (NLt.of0 (nld Qay _)) nl0)))))) (Qag (Qas (nlc (NLt.of0 nll) nl0)) (Qag (Qas (nlc (NLt.of0 nll) nl0)) (Qag (Qas (nlc (NLt.own _ _ _ _ (by decide)) nl0)) (Qag (Qas (nlc (NLt.own _ _ _ _ (by decide)) nl0)) (Qag (Qgi rfl) (Qag (Qgi rfl) (Qag (Qii Qc1 _) (Qag (Qii Qaa _) Qa5)))))))))⟩
def Qca (N : Nat) (p0 : (List Int)) (p1 : (List Int)) (k2 : Unit → Option Int) (p2 : Int) (p3 : Int) (p4 : Int) (p5 : (List GHour)) (p6 : Int) (p7 : Int) (p8 : Nat) (p9 : Nat) (p10 : (List (Nat × Nat))) (p11 : (List (Nat × Nat))) (p12 : (List (List Bool))) (p13 : (List (List Int))) : Nat → Int → Option Int
  | 0, _ => none
  | n5 + 1, y3 =>
    bif (decide (y3 < (p0.length : Int))) then
     (getI p0 y3).bind fun x7 =>
     (Qgq N x7 p1 p2 p3 p4 p5 p6 p7 p8 p9 p10 p11 p12 p13).bind fun x12 =>
     bif x12 then
      some y3
     else
      Qca N p0 p1 k2 p2 p3 p4 p5 p6 p7 p8 p9 p10 p11 p12 p13 n5 (w64 (y3 + 1))
    else
     k2 ()
def Qee (N : Nat) (p0 : (List Int)) (p1 : (List Int)) (p2 : Int) (p3 : Int) (p4 : Int) (p5 : (List GHour)) (p6 : Int) (p7 : Int) (p8 : Nat) (p9 : Nat) (p10 : (List (Nat × Nat))) (p11 : (List (Nat × Nat))) (p12 : (List (List Bool))) (p13 : (List (List Int))) : Option Int :=
  Qdu (fun _ =>
    some (-1)) fun k2 : Unit → Option Int =>
  Qca N p0 p1 k2 p2 p3 p4 p5 p6 p7 p8 p9 p10 p11 p12 p13 N 0
def Qs0 (p0 : (List Int)) : AV := .dat 1 ((p0 : List Int).map Qad)
def Qv7 : AV := .fn (.func 73) [] [(.ref 0 5 (0) 0), (.ref 1 1 (0) 0), (.ref 2 1 (0) 0), (.ref 3 1 (0) 0), (.ref 4 1 (0) 0)]
def Qlq (p1 : (List Int)) (p2 : Int) (p3 : Int) (p4 : Int) (p5 : (List GHour)) : Slot := .own 5 [[(.dat 1 ((p1 : List Int).map Qad)), (I (p2)), (I (p3)), (I (p4)), (.dat 2 ((p5 : List GHour).map Qcr))]]
def Qlp (p8 : Nat) : Slot := .own 1 [[(.own 5 1 (0) (p8))]]
def Qlo (p9 : Nat) : Slot := .own 1 [[(.own 6 1 (0) (p9))]]
def Qln (p10 : (List (Nat × Nat))) : Slot := .own 1 ((p10 : List (Nat × Nat)).map (c_mr 7 1))
def Qlm (p11 : (List (Nat × Nat))) : Slot := .own 1 ((p11 : List (Nat × Nat)).map (c_mr 8 1))
def Qll (p12 : (List (List Bool))) : Slot := .mat 1 (matA Qft (p12 : List (List Bool)))
def Qip (p13 : (List (List Int))) : Slot := .mat 1 (matA Qad (p13 : List (List Int)))
set_option maxRecDepth 100000 in
set_option maxHeartbeats 4000000 in
theorem Qh5 (N : Nat) (p0 : (List Int)) (p1 : (List Int)) (p2 : Int) (p3 : Int) (p4 : Int) (p5 : (List GHour)) (p6 : Int) (p7 : Int) (p8 : Nat) (p9 : Nat) (p10 : (List (Nat × Nat))) (p11 : (List (Nat × Nat))) (p12 : (List (List Bool))) (p13 : (List (List Int))) (r : Int) (h : Qee N p0 p1 p2 p3 p4 p5 p6 p7 p8 p9 p10 p11 p12 p13 = some r) : Spec Try.prog 71 [(Qs0 p0), Qv7] [(Qlq p1 p2 p3 p4 p5), (.own 1 [[(I (p6))]]), (.own 1 [[(I (p7))]]), (Qlp p8), (Qlo p9), (Qln p10), (Qlm p11), (Qll p12), (Qip p13)] (I (r)) [(Qlq p1 p2 p3 p4 p5), (.own 1 [[(I (p6))]]), (.own 1 [[(I (p7))]]), (Qlp p8), (Qlo p9), (Qln p10), (Qlm p11), (Qll p12), (Qip p13)] := by
  refine Qac Try.func71 rfl 9 (nle rfl) (fun X φ0 w0 hφ0 => ?_)
  unfold Qee at h
  refine Qbj ?_
  refine wx tbk [] trivial ?_
  obtain ⟨k2, hk_k2, h⟩ := jko h
  refine wjn (τ := Unit) (fun t => k2 t = some r) (fun _ => ⟨mk 19 [], [(Qlq p1 p2 p3 p4 p5), (.own 1 [[I p6]]), (.own 1 [[I p7]]), (Qlp p8), (Qlo p9), (Qln p10), (Qlm p11), (Qll p12), (Qip p13)]⟩) (fun t h => ?_) ?_
  ·subst hk_k2
   refine wx tbk [] trivial ?_
   refine wmr (mto (n := 19) (l' := [(4, (I ((-1))))]) (own' := [(Qlq p1 p2 p3 p4 p5), (.own 1 [[I p6]]), (.own 1 [[I p7]]), (Qlp p8), (Qlo p9), (Qln p10), (Qlm p11), (Qll p12), (Qip p13)]) [(4, (I ((-1))))] [0, 1, 2, 3, 4, 5, 6, 7, 8] [(Qlq p1 p2 p3 p4 p5), (.own 1 [[I p6]]), (.own 1 [[I p7]]), (Qlp p8), (Qlo p9), (Qln p10), (Qlm p11), (Qll p12), (Qip p13)] hφ0 (pc rwl pn) (qc (spb (lc (.rn (.plain _ (nld Qaa _))) (lc rwl (lc rwl (lc rwl (lc (.rn (.plain _ (nld Qay _))) ln)))))) (qc (spb (lc rwl ln)) (qc (spb (lc rwl ln)) (qc (spb (lc (.rn (Qaf rfl)) ln)) (qc (spb (lc (.rn (Qaf rfl)) ln)) (qc (Qbp rfl) (qc (Qbp rfl) (qc (Qb6 Qc1) (qc (Qb6 Qaa) qn)))))))))) ?_
   refine Qab ?_
   obtain rfl := osi h
   exact ⟨_, Mor.rfl, Qbx (vs := [(I ((-1)))]) ⟨rot (by kernel_rfl), trivial⟩ rfl (NLt.of0 nll) (by kernel_rfl) (Qag (Qas (nlc (NLt.of0 (nld Qaa _)) (nlc (NLt.of0 nll) (nlc (NLt.of0 nll) (nlc (NLt.of0 nll) (nlc (NLt.of0 (nld Qay _)) nl0)))))) (Qag (Qas (nlc (NLt.of0 nll) nl0)) (Qag (Qas (nlc (NLt.of0 nll) nl0)) (Qag (Qas (nlc (NLt.own _ _ _ _ (by decide)) nl0)) (Qag (Qas (nlc (NLt.own _ _ _ _ (by decide)) nl0)) (Qag (Qgi rfl) (Qag (Qgi rfl) (Qag (Qii Qc1 _) (Qag (Qii Qaa _) Qa5)))))))))⟩
  ·skip
   refine wx tbk [(1, rp [(.tmp 6, (Qs0 p0))] (I ((p0.length : Int))))] ⟨alm (c := Qad) (l := p0) (aln rfl Try.underlying37 rfl), trivial⟩ ?_
   refine Qak ?_
   refine wmr (mto (n := 19) (l' := [(0, (Qs0 p0)), (1, Qv7), (7, (I ((p0.length : Int)))), (8, I 0)]) (own' := [(Qlq p1 p2 p3 p4 p5), (.own 1 [[I p6]]), (.own 1 [[I p7]]), (Qlp p8), (Qlo p9), (Qln p10), (Qlm p11), (Qll p12), (Qip p13)]) [(0, (Qs0 p0)), (1, Qv7), (7, (I ((p0.length : Int)))), (8, I 0)] [0, 1, 2, 3, 4, 5, 6, 7, 8] [(Qlq p1 p2 p3 p4 p5), (.own 1 [[I p6]]), (.own 1 [[I p7]]), (Qlp p8), (Qlo p9), (Qln p10), (Qlm p11), (Qll p12), (Qip p13)] hφ0 (pc (.rn (.plain _ (nld Qaa _))) (pc (.rn (Qaq rn0 (rnc (rqr rfl) (rnc (rqr rfl) (rnc (rqr rfl) (rnc (rqr rfl) (rnc (rqr rfl) rn0))))))) (pc rwl (pc rwl pn)))) (qc (spb (lc (.rn (.plain _ (nld Qaa _))) (lc rwl (lc rwl (lc rwl (lc (.rn (.plain _ (nld Qay _))) ln)))))) (qc (spb (lc rwl ln)) (qc (spb (lc rwl ln)) (qc (spb (lc (.rn (Qaf rfl)) ln)) (qc (spb (lc (.rn (Qaf rfl)) ln)) (qc (Qbp rfl) (qc (Qbp rfl) (qc (Qb6 Qc1) (qc (Qb6 Qaa) qn)))))))))) ?_
   refine Qb1 (τ := Int) (fun n t => Qca N p0 p1 k2 p2 p3 p4 p5 p6 p7 p8 p9 p10 p11 p12 p13 n t = some r) (fun y3 => ⟨mk 19 [(0, (Qs0 p0)), (1, Qv7), (7, (I ((p0.length : Int)))), (8, I y3)], [(Qlq p1 p2 p3 p4 p5), (.own 1 [[I p6]]), (.own 1 [[I p7]]), (Qlp p8), (Qlo p9), (Qln p10), (Qlm p11), (Qll p12), (Qip p13)]⟩) (fun t h => by rw [Qca] at h; cases h) (fun n5 ih y3 h => ?_) N (0) h
   rw [Qca] at h
   skip
   refine wx tbk [] trivial ?_
   refine wsq ?_
   rcases bft ((decide (y3 < (p0.length : Int)))) with hc6 | hc6
   ·replace h := Qav hc6 h
    refine wft hc6 (by kernel_rfl) ?_
    refine Qao ?_
    refine thn ?_
    refine wsq ?_
    refine Qak ?_
    refine wx tbk [] trivial ?_
    obtain ⟨x7, hg8, h⟩ := bno h
    obtain ⟨hi9, hj10⟩ := gsm hg8
    obtain ⟨x12, hf11, h⟩ := bno h
    refine wx tbk [(3, rp [(.tmp 12, (Qs0 p0)), (.tmp 13, I y3)] (.dptr (Qad (x7)) 0)), (5, ⟨[(.tmp 11, Qv7), (.tmp 15, I x7)], [(0, (Qlq p1 p2 p3 p4 p5)), (1, .own 1 [[I p6]]), (2, .own 1 [[I p7]]), (3, (Qlp p8)), (4, (Qlo p9)), (5, (Qln p10)), (6, (Qlm p11)), (7, (Qll p12)), (8, (Qip p13))], B x12, [(0, (Qlq p1 p2 p3 p4 p5)), (1, .own 1 [[I p6]]), (2, .own 1 [[I p7]]), (3, (Qlp p8)), (4, (Qlo p9)), (5, (Qln p10)), (6, (Qlm p11)), (7, (Qll p12)), (8, (Qip p13))], false⟩)] ⟨aid rfl Try.underlying37 ti3 rfl rfl hi9 (mgt Qad hj10) rfl, Qam (first := []) (cap := [.ref 0 5 0 0, .ref 1 1 0 0, .ref 2 1 0 0, .ref 3 1 0 0, .ref 4 1 0 0]) (vs := [I x7]) (σr := [(Qlq p1 p2 p3 p4 p5), (.own 1 [[I p6]]), (.own 1 [[I p7]]), (Qlp p8), (Qlo p9), (Qln p10), (Qlm p11), (Qll p12), (Qip p13)]) (σr' := [(Qlq p1 p2 p3 p4 p5), (.own 1 [[I p6]]), (.own 1 [[I p7]]), (Qlp p8), (Qlo p9), (Qln p10), (Qlm p11), (Qll p12), (Qip p13)]) (res' := (B x12)) [0, 1, 2, 3, 4, 5, 6, 7, 8] rfl enter73 (Qkm N x7 p1 p2 p3 p4 p5 p6 p7 p8 p9 p10 p11 p12 p13 _ hf11) rfl (Qbi (rnc (.plain _ nll) (rnc (Qax rfl) (rnc (Qax rfl) (rnc (Qax rfl) (rnc (Qax rfl) (rnc (Qax rfl) rn0))))))) (slc (Qai (rnc (.plain _ (nld Qaa _)) (rnc (.plain _ nll) (rnc (.plain _ nll) (rnc (.plain _ nll) (rnc (.plain _ (nld Qay _)) rn0)))))) (slc (Qai (rnc (.plain _ nll) rn0)) (slc (Qai (rnc (.plain _ nll) rn0)) (slc (Qai (rnc (Qej rfl) rn0)) (slc (Qai (rnc (Qej rfl) rn0)) (slc (Qjt rfl) (slc (Qjt rfl) (slc (Qih Qc1) (slc (Qih Qaa) Qal))))))))) (slc (Qai (rnc (.plain _ (nld Qaa _)) (rnc (.plain _ nll) (rnc (.plain _ nll) (rnc (.plain _ nll) (rnc (.plain _ (nld Qay _)) rn0)))))) (slc (Qai (rnc (.plain _ nll) rn0)) (slc (Qai (rnc (.plain _ nll) rn0)) (slc (Qai (rnc (Qhs rfl) rn0)) (slc (Qai (rnc (Qhs rfl) rn0)) (slc (Qju rfl) (slc (Qju rfl) (slc (Qih Qc1) (slc (Qih Qaa) Qal))))))))) (.plain _ nll) rfl rfl rfl, trivial⟩ ?_
    rcases bft (x12) with hc13 | hc13
    ·replace h := Qav hc13 h
     refine wft hc13 (by kernel_rfl) ?_
     refine wx tbk [] trivial ?_
     refine wmr (mto (n := 19) (l' := [(4, I y3)]) (own' := [(Qlq p1 p2 p3 p4 p5), (.own 1 [[I p6]]), (.own 1 [[I p7]]), (Qlp p8), (Qlo p9), (Qln p10), (Qlm p11), (Qll p12), (Qip p13)]) [(4, I y3)] [0, 1, 2, 3, 4, 5, 6, 7, 8] [(Qlq p1 p2 p3 p4 p5), (.own 1 [[I p6]]), (.own 1 [[I p7]]), (Qlp p8), (Qlo p9), (Qln p10), (Qlm p11), (Qll p12), (Qip p13)] hφ0 (pc rwl pn) (qc (spb (lc (.rn (.plain _ (nld Qaa _))) (lc rwl (lc rwl (lc rwl (lc (.rn (.plain _ (nld Qay _))) ln)))))) (qc (spb (lc rwl ln)) (qc (spb (lc rwl ln)) (qc (spb (lc (.rn (Qaf rfl)) ln)) (qc (spb (lc (.rn (Qaf rfl)) ln)) (qc (Qbp rfl) (qc (Qbp rfl) (qc (Qb6 Qc1) (qc (Qb6 Qaa) qn)))))))))) ?_
     refine Qab ?_
     refine Qb2 ?_
     refine Qau ?_
     refine Qau ?_
     refine Qb2 ?_
     refine Qau ?_
     obtain rfl := osi h
     exact ⟨_, Mor.rfl, Qbx (vs := [I y3]) ⟨rot (by kernel_rfl), trivial⟩ rfl (NLt.of0 nll) (by kernel_rfl) (Qag (Qas (nlc (NLt.of0 (nld Qaa _)) (nlc (NLt.of0 nll) (nlc (NLt.of0 nll) (nlc (NLt.of0 nll) (nlc (NLt.of0 (nld Qay _)) nl0)))))) (Qag (Qas (nlc (NLt.of0 nll) nl0)) (Qag (Qas (nlc (NLt.of0 nll) nl0)) (Qag (Qas (nlc (NLt.own _ _ _ _ (by decide)) nl0)) (Qag (Qas (nlc (NLt.own _ _ _ _ (by decide)) nl0)) (Qag (Qgi rfl) (Qag (Qgi rfl) (Qag (Qii Qc1 _) (Qag (Qii Qaa _) Qa5)))))))))⟩
    ·replace h := Qaw hc13 h
     refine wfn hc13 (by kernel_rfl) ?_
     refine Qao ?_
     refine bln ?_
     refine thn ?_
     refine wx1 tbk [] trivial ?_
     refine thn ?_
     exact arm (mto (n := 19) [(0, (Qs0 p0)), (1, Qv7), (7, (I ((p0.length : Int)))), (8, (I (w64 (y3 + 1))))] [0, 1, 2, 3, 4, 5, 6, 7, 8] [(Qlq p1 p2 p3 p4 p5), (.own 1 [[I p6]]), (.own 1 [[I p7]]), (Qlp p8), (Qlo p9), (Qln p10), (Qlm p11), (Qll p12), (Qip p13)] hφ0 (pc (.rn (.plain _ (nld Qaa _))) (pc (.rn (Qaq rn0 (rnc (rqr rfl) (rnc (rqr rfl) (rnc (rqr rfl) (rnc (rqr rfl) (rnc (rqr rfl) rn0))))))) (pc rwl (pc rwl pn)))) (qc (spb (lc (.rn (.plain _ (nld Qaa _))) (lc rwl (lc rwl (lc rwl (lc (.rn (.plain _ (nld Qay _))) ln)))))) (qc (spb (lc rwl ln)) (qc (spb (lc rwl ln)) (qc (spb (lc (.rn (Qaf rfl)) ln)) (qc (spb (lc (.rn (Qaf rfl)) ln)) (qc (Qbp rfl) (qc (Qbp rfl) (qc (Qb6 Qc1) (qc (Qb6 Qaa) qn)))))))))) (ih (w64 (y3 + 1)) h)
   ·replace h := Qaw hc6 h
    refine wfn hc6 (by kernel_rfl) ?_
    refine Qbh ?_
    refine Qar ?_
    refine Qar ?_
    refine Qbg rfl ?_
    refine thn ?_
    exact ⟨(), h, (mto (n := 19) [] [0, 1, 2, 3, 4, 5, 6, 7, 8] [(Qlq p1 p2 p3 p4 p5), (.own 1 [[I p6]]), (.own 1 [[I p7]]), (Qlp p8), (Qlo p9), (Qln p10), (Qlm p11), (Qll p12), (Qip p13)] hφ0 pn (qc (spb (lc (.rn (.plain _ (nld Qaa _))) (lc rwl (lc rwl (lc rwl (lc (.rn (.plain _ (nld Qay _))) ln)))))) (qc (spb (lc rwl ln)) (qc (spb (lc rwl ln)) (qc (spb (lc (.rn (Qaf rfl)) ln)) (qc (spb (lc (.rn (Qaf rfl)) ln)) (qc (Qbp rfl) (qc (Qbp rfl) (qc (Qb6 Qc1) (qc (Qb6 Qaa) qn))))))))))⟩
def Qd2 (N : Nat) (p0 : GJob) (y13 : (List (Nat × Nat))) (y14 : (List (Nat × Nat))) (y15 : (List (List Int))) (y16 : (List (List Bool))) (k27 : (List Int) → Option ((List Int) × Int × (List (List Int)) × Int)) : Nat → (List Int) → Int → Int → Option ((List Int) × Int × (List (List Int)) × Int)
  | 0, _, _, _ => none
  | n43 + 1, y37, y38, y39 =>
    bif (decide (y38 < (p0.Hours.length : Int))) then
     (Qj9 N p0).bind fun x46 =>
     (Qee N x46 p0.Levels p0.Ramp p0.Start p0.First p0.Hours y38 y39 ((((w64 ((p0.Hours.length : Int) + 1)).toNat : Nat) : Int).toNat) ((w64 ((p0.Hours.length : Int) + 1)).toNat) y14 y13 y16 y15).bind fun x48 =>
     chk (decide ((y37.length + ([x48]).length) * 8 ≤ 140737488355328)) <|
     Qd2 N p0 y13 y14 y15 y16 k27 n43 (y37 ++ ([x48])) (w64 (y38 + 1)) x48
    else
     k27 (y37)
def Qd1 (N : Nat) (p0 : GJob) (k17 : (List (Nat × Nat)) × (List (Nat × Nat)) × (List (List Int)) × (List (List Bool)) → Option ((List Int) × Int × (List (List Int)) × Int)) : Nat → Int → (List (Nat × Nat)) → (List (Nat × Nat)) → (List (List Int)) → (List (List Bool)) → Option ((List Int) × Int × (List (List Int)) × Int)
  | 0, _, _, _, _, _ => none
  | n60 + 1, y50, y51, y52, y53, y54 =>
    bif (decide (y50 ≥ 0)) then
     (Qgr N y50 p0.Levels p0.Ramp p0.Start p0.First p0.Hours ((w64 ((p0.Hours.length : Int) + 1)).toNat) ((((w64 ((p0.Hours.length : Int) + 1)).toNat : Nat) : Int).toNat) y51 y52 y53 y54).bind fun x63 =>
     Qd1 N p0 k17 n60 (w64 (y50 - 1)) (y51.set y50.toNat (y53.length, (p0.Levels.length : Int).toNat)) (y52.set y50.toNat (y54.length, (p0.Levels.length : Int).toNat)) x63.1 x63.2
    else
     k17 (y51, y52, y53, y54)
def Qhf (N : Nat) (p0 : GJob) : Option ((List Int) × Int × (List (List Int)) × Int) :=
  (Qgj N p0).bind fun x9 =>
  bif (!x9) then
   some ([], 0, [], 1)
  else
   chk (decide (0 ≤ w64 ((p0.Hours.length : Int) + 1)) && decide (24 * (w64 ((p0.Hours.length : Int) + 1)) ≤ 281474976710656) && decide (w64 ((p0.Hours.length : Int) + 1) ≤ 9223372036854775807)) <|
   chk (decide (0 ≤ (((w64 ((p0.Hours.length : Int) + 1)).toNat : Nat) : Int)) && decide (24 * (((w64 ((p0.Hours.length : Int) + 1)).toNat : Nat) : Int) ≤ 281474976710656) && decide ((((w64 ((p0.Hours.length : Int) + 1)).toNat : Nat) : Int) ≤ 9223372036854775807)) <|
   Qdu (fun ⟨y13, y14, y15, y16⟩ =>
     chk (decide (0 ≤ 0) && decide ((0 : Int).toNat < (((w64 ((p0.Hours.length : Int) + 1)).toNat : Nat) : Int).toNat)) <|
     (y14[(0 : Int).toNat]?).bind fun x19 =>
     chk (!(y16.getD x19.1 []).isEmpty) <|
     chk (decide (0 ≤ p0.First) && decide (p0.First.toNat < x19.2)) <|
     (getM y16 x19.1 p0.First.toNat).bind fun x23 =>
     bif (!x23) then
      some ([], 0, [], 7)
     else
      Qdu (fun y26 =>
        chk (decide (0 ≤ 0) && decide ((0 : Int).toNat < (w64 ((p0.Hours.length : Int) + 1)).toNat)) <|
        (y13[(0 : Int).toNat]?).bind fun x29 =>
        chk (!(y15.getD x29.1 []).isEmpty) <|
        chk (decide (0 ≤ p0.First) && decide (p0.First.toNat < x29.2)) <|
        (getM y15 x29.1 p0.First.toNat).bind fun x33 =>
        chk (y13.all fun x => decide (x.2 ≤ (y15.getD x.1 []).length)) <|
        chk (decide ((w64 ((p0.Hours.length : Int) + 1)).toNat ≤ ((y13).map fun x => (y15.getD x.1 []).take x.2).length)) <|
        some (y26, x33, ((y13).map fun x => (y15.getD x.1 []).take x.2).take ((w64 ((p0.Hours.length : Int) + 1)).toNat), 0)) fun k27 : (List Int) → Option ((List Int) × Int × (List (List Int)) × Int) =>
      Qd2 N p0 y13 y14 y15 y16 k27 N ([]) 0 p0.First) fun k17 : (List (Nat × Nat)) × (List (Nat × Nat)) × (List (List Int)) × (List (List Bool)) → Option ((List Int) × Int × (List (List Int)) × Int) =>
   Qd1 N p0 k17 N (p0.Hours.length : Int) (List.replicate (w64 ((p0.Hours.length : Int) + 1)).toNat (0, 0)) (List.replicate (((w64 ((p0.Hours.length : Int) + 1)).toNat : Nat) : Int).toNat (0, 0)) ([] : List (List Int)) ([] : List (List Bool))
def Qxj (p0 : GJob) : AV := .dat 2 ((p0.Hours : List GHour).map Qcr)
def z50_3 (p0 : GJob) : AV := .agg [(.dat 1 ((p0.Levels : List Int).map Qad)), (I (p0.Ramp)), (I (p0.Start)), (I (p0.First)), (Qxj p0)]
def Quq : AV := .dat 1 (([] : List Int).map Qad)
def z50_97 : AV := .dat 1 ((([]) : List (List Int)).map Qjz)
def Qup : AV := .dat 1 (([] : List (List Int)).map Qjz)
def z50_4 (p0 : GJob) : Slot := .own 1 ((List.replicate (w64 ((p0.Hours.length : Int) + 1)).toNat (0, 0) : List (Nat × Nat)).map (c_mr 3 1))
def z50_5 : Slot := .mat 1 (matA Qad (([] : List (List Int)) : List (List Int)))
def z50_7 (p0 : GJob) : Slot := .own 1 ((List.replicate (((w64 ((p0.Hours.length : Int) + 1)).toNat : Nat) : Int).toNat (0, 0) : List (Nat × Nat)).map (c_mr 5 1))
def z50_8 : Slot := .mat 1 (matA Qft (([] : List (List Bool)) : List (List Bool)))
def z50_10 : AV := .fn (.func 69) [] [(.ref 0 5 (0) 0), (.ref 1 1 (0) 0), (.ref 6 1 (0) 0)]
def Qi9 (p0 : GJob) : Slot := .own 5 [[(.dat 1 ((p0.Levels : List Int).map Qad)), (I (p0.Ramp)), (I (p0.Start)), (I (p0.First)), (Qxj p0)]]
def Qmi (p0 : GJob) : Slot := .own 1 [[(.own 3 1 (0) ((w64 ((p0.Hours.length : Int) + 1)).toNat))]]
def Qrs (p0 : GJob) : Slot := .own 1 [[(.own 4 1 (0) ((((w64 ((p0.Hours.length : Int) + 1)).toNat : Nat) : Int).toNat))]]
def Qqb (y14 : (List (Nat × Nat))) : Slot := .own 1 ((y14 : List (Nat × Nat)).map (c_mr 6 1))
def Qhp (y15 : (List (List Int))) : Slot := .mat 1 (matA Qad (y15 : List (List Int)))
def Qi0 (y16 : (List (List Bool))) : Slot := .mat 1 (matA Qft (y16 : List (List Bool)))
def Qqa (y26 : (List Int)) : AV := .acc 1 3 1 ((y26 : List Int).map Qad)
def Qs9 (y13 : (List (Nat × Nat))) : Slot := .own 1 ((y13 : List (Nat × Nat)).map (c_mr 4 1))
def Qs8 (y13 : (List (Nat × Nat))) (y15 : (List (List Int))) (p0 : GJob) : AV := .dat 1 ((((y13).map fun x => (y15.getD x.1 []).take x.2).take ((w64 ((p0.Hours.length : Int) + 1)).toNat) : List (List Int)).map Qjz)
def Qs7 (y13 : (List (Nat × Nat))) (y15 : (List (List Int))) (p0 : GJob) : AV := .dat 1 (((((y13).map fun x => (y15.getD x.1 []).take x.2).take ((w64 ((p0.Hours.length : Int) + 1)).toNat)) : List (List Int)).map Qjz)
def Qrt (p0 : GJob) : Slot := .own 1 [[(.own 5 1 (0) ((w64 ((p0.Hours.length : Int) + 1)).toNat))]]
def Qur (p0 : GJob) : Slot := .own 1 [[(.own 6 1 (0) ((((w64 ((p0.Hours.length : Int) + 1)).toNat : Nat) : Int).toNat))]]
def Qkr (y13 : (List (Nat × Nat))) : Slot := .own 1 ((y13 : List (Nat × Nat)).map (c_mr 7 1))
def Ql2 (y14 : (List (Nat × Nat))) : Slot := .own 1 ((y14 : List (Nat × Nat)).map (c_mr 8 1))
def Qs6 (y37 : (List Int)) : AV := .acc 1 3 1 ((y37 : List Int).map Qad)
def Qxg : AV := .fn (.func 73) [] [(.ref 0 5 (0) 0), (.ref 9 1 (0) 0), (.ref 4 1 (0) 0), (.ref 3 1 (0) 0), (.ref 2 1 (0) 0)]
def Qxf (p0 : GJob) : Slot := .own 1 [[(.own 6 1 (0) (((((w64 ((p0.Hours.length : Int) + 1)).toNat : Nat) : Int).toNat)))]]
def Qxe (p0 : GJob) : Slot := .own 1 [[(.own 5 1 (0) (((w64 ((p0.Hours.length : Int) + 1)).toNat)))]]
def Qus : AV := .fn (.func 69) [] [(.ref 0 5 (0) 0), (.ref 1 1 (0) 0), (.ref 2 1 (0) 0)]
def Qp9 (y51 : (List (Nat × Nat))) : Slot := .own 1 ((y51 : List (Nat × Nat)).map (c_mr 5 1))
def Qp8 (y52 : (List (Nat × Nat))) : Slot := .own 1 ((y52 : List (Nat × Nat)).map (c_mr 6 1))
def Qp7 (y53 : (List (List Int))) : Slot := .mat 1 (matA Qad (y53 : List (List Int)))
def Qp6 (y54 : (List (List Bool))) : Slot := .mat 1 (matA Qft (y54 : List (List Bool)))
def Qxi (p0 : GJob) : Slot := .own 1 [[(.own 3 1 (0) (((w64 ((p0.Hours.length : Int) + 1)).toNat)))]]
def Qxh (p0 : GJob) : Slot := .own 1 [[(.own 4 1 (0) (((((w64 ((p0.Hours.length : Int) + 1)).toNat : Nat) : Int).toNat)))]]
def Qs5 (y51 : (List (Nat × Nat))) (y50 : Int) (y53 : (List (List Int))) (p0 : GJob) : Slot := .own 1 ((y51.set y50.toNat (y53.length, (p0.Levels.length : Int).toNat) : List (Nat × Nat)).map (c_mr 5 1))
def Qs4 (y52 : (List (Nat × Nat))) (y50 : Int) (y54 : (List (List Bool))) (p0 : GJob) : Slot := .own 1 ((y52.set y50.toNat (y54.length, (p0.Levels.length : Int).toNat) : List (Nat × Nat)).map (c_mr 6 1))
set_option maxRecDepth 100000 in
set_option maxHeartbeats 4000000 in
theorem Qjh (N : Nat) (p0 : GJob) (r : ((List Int) × Int × (List (List Int)) × Int)) (h : Qhf N p0 = some r) : Spec Try.prog 21 [(.agg (Qo5 p0))] [] (.tup [(.dat 1 ((r.1 : List Int).map Qad)), (I (r.2.1)), (.dat 1 ((r.2.2.1 : List (List Int)).map Qjz)), (I (r.2.2.2))]) [] := by
  refine Qac Try.func21 rfl 0 (nle rfl) (fun X φ0 w0 hφ0 => ?_)
  unfold Qhf at h
  refine Qbj ?_
  refine wx tbk [] trivial ?_
  refine wsq ?_
  obtain ⟨x9, hf8, h⟩ := bno h
  refine wx tbk [(1, rp [fu 68, (.tmp 12, (z50_3 p0))] (B x9))] ⟨apc (first := []) (cap := []) (vs := [(z50_3 p0)]) rfl Qt0 (Qgp N p0 _ hf8) rfl rfl (nlc (NLt.agg _ (nlc (nld Qaa _) (nlc nll (nlc nll (nlc nll (nlc (nld Qay _) nl0)))))) nl0) nll rfl, trivial⟩ ?_
  rcases bft ((!x9)) with hc10 | hc10
  ·replace h := Qav hc10 h
   refine wft hc10 (by kernel_rfl) ?_
   refine wx tbk [] trivial ?_
   refine wmr (mto (n := 69) (l' := [(2, Quq), (3, I 0), (4, .ref 0 1 0 0), (5, I 1)]) (own' := [(.own 1 [[z50_97]])]) [(2, nilS), (3, I 0), (4, .ref 1 1 0 0), (5, I 1)] [1] [(.own 1 [[nilS]])] hφ0 (pc (.nil _) (pc rwl (pc (.rn (rqr rfl)) (pc rwl pn)))) (qc (spb (lc (.nil _) ln)) qn)) ?_
   refine Qab ?_
   refine Qau ?_
   obtain rfl := osi h
   exact ⟨_, Mor.rfl, ⟨⟨[Quq, I 0, Qup, I 1], ⟨rot (by kernel_rfl), rot (by kernel_rfl), Qbv (n := 0) (m := 1) (j := 0) (i := 0) (xs := [[Qup]]) (by kernel_rfl) (by kernel_rfl) ti42 (by decide) rfl (nle rfl) rfl, rot (by kernel_rfl), trivial⟩, rfl⟩, (NLt.tup _ (nlc (nld Qaa _) (nlc nll (nlc (nld Qni _) (nlc nll nl0))))), Nat.le_refl _, fun n hn => absurd hn (Nat.not_lt_zero n)⟩⟩
  ·replace h := Qaw hc10 h
   refine wfn hc10 (by kernel_rfl) ?_
   refine Qao ?_
   refine thn ?_
   obtain ⟨hm11, h⟩ := cko h
   refine wx tbk [(2, rp [(.tmp 16, (Qxj p0))] (I ((p0.Hours.length : Int)))), (4, ⟨[(.tmp 18, (I (w64 ((p0.Hours.length : Int) + 1)))), (.tmp 18, (I (w64 ((p0.Hours.length : Int) + 1))))], [(2, .unused), (3, .unused)], (.own 2 1 (0) ((w64 ((p0.Hours.length : Int) + 1)).toNat)), [(2, (z50_4 p0)), (3, z50_5)], false⟩)] ⟨alm (c := Qcr) (l := p0.Hours) (aln rfl Try.underlying45 rfl), Qp0 1 rfl (Qhz rfl Try.underlying42 te37 tz37 rfl (Qrd hm11) rfl (Qrc hm11) (Qpd hm11) rfl), trivial⟩ ?_
   obtain ⟨hm12, h⟩ := cko h
   refine wx tbk [(1, rp [(.tmp 20, (.own 2 1 (0) ((w64 ((p0.Hours.length : Int) + 1)).toNat)))] (I ((((w64 ((p0.Hours.length : Int) + 1)).toNat : Nat) : Int)))), (2, ⟨[(.tmp 21, (I ((((w64 ((p0.Hours.length : Int) + 1)).toNat : Nat) : Int)))), (.tmp 21, (I ((((w64 ((p0.Hours.length : Int) + 1)).toNat : Nat) : Int))))], [(4, .unused), (5, .unused)], (.own 4 1 (0) ((((w64 ((p0.Hours.length : Int) + 1)).toNat : Nat) : Int).toNat)), [(4, (z50_7 p0)), (5, z50_8)], false⟩)] ⟨aln rfl Try.underlying42 rfl, Qp0 1 rfl (Qhz rfl Try.underlying120 te121 tz121 rfl (Qrd hm12) rfl (Qrc hm12) (Qpd hm12) rfl), trivial⟩ ?_
   refine wx tbk [(0, rp [(.tmp 1, .ref 0 5 0 0), (.tmp 4, .ref 1 1 0 0), (.tmp 6, .ref 6 1 0 0)] z50_10)] ⟨Qdt (fs := []) (cs := [.ref 0 5 0 0, .ref 1 1 0 0, .ref 6 1 0 0]) rfl rfl rfl rfl, trivial⟩ ?_
   obtain ⟨k17, hk_k17, h⟩ := jko h
   refine wjn (τ := (List (Nat × Nat)) × (List (Nat × Nat)) × (List (List Int)) × (List (List Bool))) (fun t => k17 t = some r) (fun ⟨y13, y14, y15, y16⟩ => ⟨mk 69 [(1, .ref 0 5 0 0), (2, nilS), (4, .ref 1 1 0 0), (6, .ref 2 1 0 0)], [(Qi9 p0), (Qmi p0), (Qrs p0), (.own 1 ((y13 : List (Nat × Nat)).map (c_mr 5 1))), (Qqb y14), (Qhp y15), (Qi0 y16)]⟩) (fun t h => ?_) ?_
   ·subst hk_k17
    obtain ⟨y13, y14, y15, y16⟩ := t
    refine wsq ?_
    obtain ⟨hi18, h⟩ := cko h
    obtain ⟨hi18a, hi18b⟩ := Qaz hi18
    obtain ⟨x19, hg20, h⟩ := bno h
    obtain ⟨hz22, h⟩ := cko h
    obtain ⟨hi21, h⟩ := cko h
    obtain ⟨hi21a, hi21b⟩ := Qaz hi21
    obtain ⟨x23, hg24, h⟩ := bno h
    refine wxd tbk [(1, rb [(.tmp 34, (.own 4 1 (0) ((((w64 ((p0.Hours.length : Int) + 1)).toNat : Nat) : Int).toNat))), ci 0] [(4, (Qqb y14))] (.ref 4 1 ((0 : Int).toNat) 0)), (2, rb [(.tmp 35, (.ref 4 1 ((0 : Int).toNat) 0))] [(4, (Qqb y14))] (.row 6 x19.1 1 (0) (x19.2))), (5, rb [(.tmp 36, (.row 6 x19.1 1 (0) (x19.2))), (.tmp 38, I p0.First)] [(6, (Qi0 y16))] (.rowp 6 x19.1 1 (p0.First.toNat) 0)), (6, rb [(.tmp 39, (.rowp 6 x19.1 1 (p0.First.toNat) 0))] [(6, (Qi0 y16))] (B x23))] ⟨aio rfl Try.underlying120 Qjk (odt hi18a) (odt hi18b) (Nat.zero_add _), ald rfl Qjk (by decide) (mgt (c_mr 6 1) hg20) (nle rfl) rfl, Qc6 rfl Try.underlying121 ti4 (odt hi21a) (odt hi21b) hz22 (Nat.zero_add _), Qeo rfl ti4 (by decide) hg24 (nle rfl) rfl, trivial⟩ ?_
    rcases bft ((!x23)) with hc25 | hc25
    ·replace h := Qav hc25 h
     refine wft hc25 (by kernel_rfl) ?_
     refine wx tbk [] trivial ?_
     refine wmr (mto (n := 69) (l' := [(2, Quq), (3, I 0), (4, .ref 0 1 0 0), (5, I 7)]) (own' := [(.own 1 [[z50_97]])]) [(2, nilS), (3, I 0), (4, .ref 1 1 0 0), (5, I 7)] [1] [(.own 1 [[nilS]])] hφ0 (pc (.nil _) (pc rwl (pc (.rn (rqr rfl)) (pc rwl pn)))) (qc (spb (lc (.nil _) ln)) qn)) ?_
     refine Qab ?_
     refine Qau ?_
     obtain rfl := osi h
     exact ⟨_, Mor.rfl, ⟨⟨[Quq, I 0, Qup, I 7], ⟨rot (by kernel_rfl), rot (by kernel_rfl), Qbv (n := 0) (m := 1) (j := 0) (i := 0) (xs := [[Qup]]) (by kernel_rfl) (by kernel_rfl) ti42 (by decide) rfl (nle rfl) rfl, rot (by kernel_rfl), trivial⟩, rfl⟩, (NLt.tup _ (nlc (nld Qaa _) (nlc nll (nlc (nld Qni _) (nlc nll nl0))))), Nat.le_refl _, fun n hn => absurd hn (Nat.not_lt_zero n)⟩⟩
    ·replace h := Qaw hc25 h
     refine wfn hc25 (by kernel_rfl) ?_
     refine Qao ?_
     refine thn ?_
     refine wx tbk [] trivial ?_
     obtain ⟨k27, hk_k27, h⟩ := jko h
     refine wjn (τ := (List Int)) (fun t => k27 t = some r) (fun y26 => ⟨mk 69 [(1, .ref 0 5 0 0), (2, (Qqa y26)), (4, .ref 2 1 0 0)], [(Qi9 p0), .tok, (Qmi p0), (Qs9 y13), (Qhp y15)]⟩) (fun y26 h => ?_) ?_
     ·subst hk_k27
      obtain ⟨hi28, h⟩ := cko h
      obtain ⟨hi28a, hi28b⟩ := Qaz hi28
      obtain ⟨x29, hg30, h⟩ := bno h
      obtain ⟨hz32, h⟩ := cko h
      obtain ⟨hi31, h⟩ := cko h
      obtain ⟨hi31a, hi31b⟩ := Qaz hi31
      obtain ⟨x33, hg34, h⟩ := bno h
      refine wxd tbk [(2, rb [(.tmp 61, (.own 3 1 (0) ((w64 ((p0.Hours.length : Int) + 1)).toNat))), ci 0] [(3, (Qs9 y13))] (.ref 3 1 ((0 : Int).toNat) 0)), (3, rb [(.tmp 62, (.ref 3 1 ((0 : Int).toNat) 0))] [(3, (Qs9 y13))] (.row 4 x29.1 1 (0) (x29.2))), (6, rb [(.tmp 63, (.row 4 x29.1 1 (0) (x29.2))), (.tmp 65, I p0.First)] [(4, (Qhp y15))] (.rowp 4 x29.1 1 (p0.First.toNat) 0)), (7, rb [(.tmp 66, (.rowp 4 x29.1 1 (p0.First.toNat) 0))] [(4, (Qhp y15))] (I x33))] ⟨aio rfl Try.underlying42 ti37 (odt hi28a) (odt hi28b) (Nat.zero_add _), ald rfl ti37 (by decide) (mgt (c_mr 4 1) hg30) (nle rfl) rfl, Qc6 rfl Try.underlying37 ti3 (odt hi31a) (odt hi31b) hz32 (Nat.zero_add _), Qeo rfl ti3 (by decide) hg34 (nle rfl) rfl, trivial⟩ ?_
      obtain ⟨hz35, h⟩ := cko h
      refine wmr (mor_fzM (q := 3) (a := 4) (m := 1) (c := Qad) (cl := Qjz) (E := y13) (R := y15) (own' := [(Qi9 p0), .tok, (Qmi p0), (.own 1 (((y13).map fun x => (y15.getD x.1 []).take x.2 : List (List Int)).map Qjz)), .dead]) rfl (by kernel_rfl) (by kernel_rfl) (by kernel_rfl) hz35 (fun _ => rfl) (by kernel_rfl)) ?_
      obtain ⟨hz36, h⟩ := cko h
      refine wmr (mor_fzb (n := 69) (mp := 1) (m := 1) (xs := ((y13).map fun x => (y15.getD x.1 []).take x.2 : List (List Int)).map Qjz) (c := [(.own 3 1 (0) ((w64 ((p0.Hours.length : Int) + 1)).toNat))]) (l' := [(2, (Qqa y26)), (3, I x33), (4, .ref 2 1 0 0), (5, I 0)]) (c' := [(Qs8 y13 y15 p0)]) (own' := [(Qi9 p0), .tok, (.own 1 [[(Qs8 y13 y15 p0)]]), .dead, .dead]) 3 2 [(2, (Qqa y26)), (3, I x33), (4, .ref 2 1 0 0), (5, I 0)] (by kernel_rfl) (by kernel_rfl) (by kernel_rfl) (by kernel_rfl) ⟨(Qld hz36), trivial⟩ ⟨rfl, (.same _), rfl, (.same _), rfl, (.same _), rfl, (.same _), trivial⟩ (by kernel_rfl)) ?_
      refine wmr (mto (n := 69) (l' := [(2, (.dat 1 ((y26 : List Int).map Qad))), (3, I x33), (4, .ref 0 1 0 0), (5, I 0)]) (own' := [(.own 1 [[(Qs7 y13 y15 p0)]])]) [(2, (Qqa y26)), (3, I x33), (4, .ref 2 1 0 0), (5, I 0)] [2] [(.own 1 [[(Qs8 y13 y15 p0)]])] hφ0 (pc (.dat _ _ _ _ (Qgs Qaa _)) (pc rwl (pc (.rn (rqr rfl)) (pc rwl pn)))) (qc (spb (lc (.rn (.plain _ (nld Qni _))) ln)) qn)) ?_
      refine Qab ?_
      obtain rfl := osi h
      exact ⟨_, Mor.rfl, ⟨⟨[(.dat 1 ((y26 : List Int).map Qad)), I x33, (Qs7 y13 y15 p0), I 0], ⟨rot (by kernel_rfl), rot (by kernel_rfl), Qbv (n := 0) (m := 1) (j := 0) (i := 0) (xs := [[(Qs7 y13 y15 p0)]]) (by kernel_rfl) (by kernel_rfl) ti42 (by decide) rfl (nle rfl) rfl, rot (by kernel_rfl), trivial⟩, rfl⟩, (NLt.tup _ (nlc (nld Qaa _) (nlc nll (nlc (nld Qni _) (nlc nll nl0))))), Nat.le_refl _, fun n hn => absurd hn (Nat.not_lt_zero n)⟩⟩
     ·skip
      refine wx tbk [(2, rp [(.tmp 45, (Qxj p0))] (I ((p0.Hours.length : Int))))] ⟨alm (c := Qcr) (l := p0.Hours) (aln rfl Try.underlying45 rfl), trivial⟩ ?_
      refine Qak ?_
      refine wmr (Mor.trans (Qtu 8 3 1 2 (by kernel_rfl) (by kernel_rfl)) (mto (n := 69) (l' := [(1, .ref 0 5 0 0), (2, (.acc 1 3 1 ((([]) : List Int).map Qad))), (4, .ref 2 1 0 0), (6, .ref 3 1 0 0), (9, .ref 4 1 0 0), (46, (I ((p0.Hours.length : Int)))), (47, I 0)]) (own' := [(Qi9 p0), .tok, (Qrt p0), (Qur p0), (.own 1 [[I p0.First]]), (Qkr y13), (Ql2 y14), (Qhp y15), (Qi0 y16)]) [(1, .ref 0 5 0 0), (2, (.acc 8 3 1 (([] : List Int).map Qad))), (4, .ref 1 1 0 0), (6, .ref 2 1 0 0), (9, .ref 7 1 0 0), (46, (I ((p0.Hours.length : Int)))), (47, I 0)] [0, 8, 1, 2, 7, 3, 4, 5, 6] [(Qi9 p0), .tok, (Qmi p0), (Qrs p0), (.own 1 [[I p0.First]]), (.own 1 ((y13 : List (Nat × Nat)).map (c_mr 5 1))), (Qqb y14), (Qhp y15), (Qi0 y16)] hφ0 (pc (.rn (rqr rfl)) (pc (.rn (Qj7 rfl (Qgs Qaa _))) (pc (.rn (rqr rfl)) (pc (.rn (rqr rfl)) (pc (.rn (rqr rfl)) (pc rwl (pc rwl pn))))))) (qc (spb (lc (.rn (.plain _ (nld Qaa _))) (lc rwl (lc rwl (lc rwl (lc (.rn (.plain _ (nld Qay _))) ln)))))) (qc .tok (qc (spb (lc (.rn (Qaf rfl)) ln)) (qc (spb (lc (.rn (Qaf rfl)) ln)) (qc (spb (lc rwl ln)) (qc (Qbp rfl) (qc (Qbp rfl) (qc (Qb6 Qaa) (qc (Qb6 Qc1) qn))))))))))) ?_
      refine Qb1 (τ := (List Int) × Int × Int) (fun n t => Qd2 N p0 y13 y14 y15 y16 k27 n t.1 t.2.1 t.2.2 = some r) (fun ⟨y37, y38, y39⟩ => ⟨mk 69 [(1, .ref 0 5 0 0), (2, (Qs6 y37)), (4, .ref 2 1 0 0), (6, .ref 3 1 0 0), (9, .ref 4 1 0 0), (46, (I ((p0.Hours.length : Int)))), (47, I y38)], [(Qi9 p0), .tok, (Qrt p0), (Qur p0), (.own 1 [[I y39]]), (Qkr y13), (Ql2 y14), (Qhp y15), (Qi0 y16)]⟩) (fun t h => by rw [Qd2] at h; cases h) (fun n43 ih t h => ?_) N ([], 0, p0.First) h
      obtain ⟨y37, y38, y39⟩ := t
      rw [Qd2] at h
      skip
      refine wx tbk [] trivial ?_
      refine wsq ?_
      rcases bft ((decide (y38 < (p0.Hours.length : Int)))) with hc44 | hc44
      ·replace h := Qav hc44 h
       refine wft hc44 (by kernel_rfl) ?_
       refine Qao ?_
       refine thn ?_
       refine wsq ?_
       refine Qak ?_
       refine wx tbk [] trivial ?_
       obtain ⟨x46, hf45, h⟩ := bno h
       obtain ⟨x48, hf47, h⟩ := bno h
       refine wx tbk [(1, rp [fu 72, (.tmp 50, (z50_3 p0))] (.dat 1 ((x46 : List Int).map Qad))), (2, rp [(.tmp 1, .ref 0 5 0 0), (.tmp 10, .ref 9 1 0 0), (.tmp 9, .ref 4 1 0 0), (.tmp 6, .ref 3 1 0 0), (.tmp 4, .ref 2 1 0 0)] Qxg), (3, ⟨[fu 71, (.tmp 51, (.dat 1 ((x46 : List Int).map Qad))), (.tmp 52, Qxg)], [(0, (Qi9 p0)), (9, .own 1 [[I y38]]), (4, .own 1 [[I y39]]), (3, (Qur p0)), (2, (Qrt p0)), (6, (Ql2 y14)), (5, (Qkr y13)), (8, (Qi0 y16)), (7, (Qhp y15))], I x48, [(0, (Qi9 p0)), (9, .own 1 [[I y38]]), (4, .own 1 [[I y39]]), (3, (Qxf p0)), (2, (Qxe p0)), (6, (Ql2 y14)), (5, (Qkr y13)), (8, (Qi0 y16)), (7, (Qhp y15))], false⟩)] ⟨apc (first := []) (cap := []) (vs := [(z50_3 p0)]) rfl enter72 (Qn2 N p0 _ hf45) rfl rfl (nlc (NLt.agg _ (nlc (nld Qaa _) (nlc nll (nlc nll (nlc nll (nlc (nld Qay _) nl0)))))) nl0) (nld Qaa _) rfl, Qdt (fs := []) (cs := [.ref 0 5 0 0, .ref 9 1 0 0, .ref 4 1 0 0, .ref 3 1 0 0, .ref 2 1 0 0]) rfl rfl rfl rfl, Qam (first := []) (cap := []) (vs := [(.dat 1 ((x46 : List Int).map Qad)), Qxg]) (σr := [(Qi9 p0), (.own 1 [[I y38]]), (.own 1 [[I y39]]), (Qur p0), (Qrt p0), (Ql2 y14), (Qkr y13), (Qi0 y16), (Qhp y15)]) (σr' := [(Qi9 p0), (.own 1 [[I y38]]), (.own 1 [[I y39]]), (Qxf p0), (Qxe p0), (Ql2 y14), (Qkr y13), (Qi0 y16), (Qhp y15)]) (res' := (I x48)) [0, 9, 4, 3, 2, 6, 5, 8, 7] rfl Qqy (Qh5 N x46 p0.Levels p0.Ramp p0.Start p0.First p0.Hours y38 y39 ((((w64 ((p0.Hours.length : Int) + 1)).toNat : Nat) : Int).toNat) ((w64 ((p0.Hours.length : Int) + 1)).toNat) y14 y13 y16 y15 _ hf47) rfl (Qbi (rnc (.plain _ (nld Qaa _)) (rnc (Qaq rn0 (rnc (Qax rfl) (rnc (Qax rfl) (rnc (Qax rfl) (rnc (Qax rfl) (rnc (Qax rfl) rn0)))))) rn0))) (slc (Qai (rnc (.plain _ (nld Qaa _)) (rnc (.plain _ nll) (rnc (.plain _ nll) (rnc (.plain _ nll) (rnc (.plain _ (nld Qay _)) rn0)))))) (slc (Qai (rnc (.plain _ nll) rn0)) (slc (Qai (rnc (.plain _ nll) rn0)) (slc (Qai (rnc (Qej rfl) rn0)) (slc (Qai (rnc (Qej rfl) rn0)) (slc (Qjt rfl) (slc (Qjt rfl) (slc (Qih Qc1) (slc (Qih Qaa) Qal))))))))) (slc (Qai (rnc (.plain _ (nld Qaa _)) (rnc (.plain _ nll) (rnc (.plain _ nll) (rnc (.plain _ nll) (rnc (.plain _ (nld Qay _)) rn0)))))) (slc (Qai (rnc (.plain _ nll) rn0)) (slc (Qai (rnc (.plain _ nll) rn0)) (slc (Qai (rnc (Qhs rfl) rn0)) (slc (Qai (rnc (Qhs rfl) rn0)) (slc (Qju rfl) (slc (Qju rfl) (slc (Qih Qc1) (slc (Qih Qaa) Qal))))))))) (.plain _ nll) rfl rfl rfl, trivial⟩ ?_
       obtain ⟨ha49, h⟩ := cko h
       refine wx tbk [(2, rp [(.tmp 55, I x48)] (.dat 1 (([x48] : List Int).map Qad))), (3, ⟨[(.tmp 54, (Qs6 y37)), (.tmp 56, (.dat 1 (([x48] : List Int).map Qad)))], [(1, .tok), (10, .unused)], (.acc 10 3 1 ((y37 ++ ([x48]) : List Int).map Qad)), [(1, .dead), (10, .tok)], false⟩)] ⟨Qbk (vs := [I x48]) rfl Try.underlying37 ti3 tz3 rfl (by decide) rfl (by decide) (by rfl) (by rfl) (by rfl) rfl, Qpc rfl Try.underlying37 te3 (Base.acc _ _) rfl rfl (by rfl) (Qul Qad ha49) (Quk Qad ha49 (by decide)) (Quj Qad) rfl rfl, trivial⟩ ?_
       refine wx1 tbk [] trivial ?_
       refine bln ?_
       refine thn ?_
       refine wx1 tbk [] trivial ?_
       refine thn ?_
       exact arm (mto (n := 69) [(1, .ref 0 5 0 0), (2, (.acc 10 3 1 ((y37 ++ ([x48]) : List Int).map Qad))), (4, .ref 2 1 0 0), (6, .ref 3 1 0 0), (9, .ref 4 1 0 0), (46, (I ((p0.Hours.length : Int)))), (47, (I (w64 (y38 + 1))))] [0, 10, 2, 3, 4, 5, 6, 7, 8] [(Qi9 p0), .tok, (Qxe p0), (Qxf p0), (.own 1 [[I x48]]), (Qkr y13), (Ql2 y14), (Qhp y15), (Qi0 y16)] hφ0 (pc (.rn (rqr rfl)) (pc (.rn (Qj7 rfl (Qgs Qaa _))) (pc (.rn (rqr rfl)) (pc (.rn (rqr rfl)) (pc (.rn (rqr rfl)) (pc rwl (pc rwl pn))))))) (qc (spb (lc (.rn (.plain _ (nld Qaa _))) (lc rwl (lc rwl (lc rwl (lc (.rn (.plain _ (nld Qay _))) ln)))))) (qc .tok (qc (spb (lc (.rn (Qaf rfl)) ln)) (qc (spb (lc (.rn (Qaf rfl)) ln)) (qc (spb (lc rwl ln)) (qc (Qbp rfl) (qc (Qbp rfl) (qc (Qb6 Qaa) (qc (Qb6 Qc1) qn)))))))))) (ih (y37 ++ ([x48]), w64 (y38 + 1), x48) h)
      ·replace h := Qaw hc44 h
       refine wfn hc44 (by kernel_rfl) ?_
       refine Qbh ?_
       refine Qar ?_
       refine Qar ?_
       refine Qbg rfl ?_
       refine thn ?_
       exact ⟨(y37), h, (mto (n := 69) [(1, .ref 0 5 0 0), (2, (Qs6 y37)), (4, .ref 2 1 0 0)] [0, 1, 2, 5, 7] [(Qi9 p0), .tok, (Qrt p0), (Qkr y13), (Qhp y15)] hφ0 (pc (.rn (rqr rfl)) (pc (.rn (Qj7 rfl (Qgs Qaa _))) (pc (.rn (rqr rfl)) pn))) (qc (spb (lc (.rn (.plain _ (nld Qaa _))) (lc rwl (lc rwl (lc rwl (lc (.rn (.plain _ (nld Qay _))) ln)))))) (qc .tok (qc (spb (lc (.rn (Qaf rfl)) ln)) (qc (Qbp rfl) (qc (Qb6 Qaa) qn))))))⟩
   ·skip
    refine wx tbk [(2, rp [(.tmp 25, (Qxj p0))] (I ((p0.Hours.length : Int))))] ⟨alm (c := Qcr) (l := p0.Hours) (aln rfl Try.underlying45 rfl), trivial⟩ ?_
    refine Qak ?_
    refine wmr (mto (n := 69) (l' := [(1, .ref 0 5 0 0), (2, nilS), (4, .ref 1 1 0 0), (6, .ref 2 1 0 0), (7, Qus), (8, (I ((p0.Hours.length : Int))))]) (own' := [(Qi9 p0), (Qmi p0), (Qrs p0), (.own 1 (((List.replicate (w64 ((p0.Hours.length : Int) + 1)).toNat (0, 0)) : List (Nat × Nat)).map (c_mr 5 1))), (.own 1 (((List.replicate (((w64 ((p0.Hours.length : Int) + 1)).toNat : Nat) : Int).toNat (0, 0)) : List (Nat × Nat)).map (c_mr 6 1))), z50_5, z50_8]) [(1, .ref 0 5 0 0), (2, nilS), (4, .ref 1 1 0 0), (6, .ref 6 1 0 0), (7, z50_10), (8, (I ((p0.Hours.length : Int))))] [0, 1, 6, 2, 4, 3, 5] [(Qi9 p0), (.own 1 [[(.own 2 1 (0) ((w64 ((p0.Hours.length : Int) + 1)).toNat))]]), (Qrs p0), (z50_4 p0), (z50_7 p0), z50_5, z50_8] hφ0 (pc (.rn (rqr rfl)) (pc rwl (pc (.rn (rqr rfl)) (pc (.rn (rqr rfl)) (pc (.rn (Qaq rn0 (rnc (rqr rfl) (rnc (rqr rfl) (rnc (rqr rfl) rn0))))) (pc rwl pn)))))) (qc (spb (lc (.rn (.plain _ (nld Qaa _))) (lc rwl (lc rwl (lc rwl (lc (.rn (.plain _ (nld Qay _))) ln)))))) (qc (spb (lc (.rn (Qaf rfl)) ln)) (qc (spb (lc (.rn (Qaf rfl)) ln)) (qc (Qbp rfl) (qc (Qbp rfl) (qc (Qb6 Qaa) (qc (Qb6 Qc1) qn)))))))) ?_
    refine Qb1 (τ := Int × (List (Nat × Nat)) × (List (Nat × Nat)) × (List (List Int)) × (List (List Bool))) (fun n t => Qd1 N p0 k17 n t.1 t.2.1 t.2.2.1 t.2.2.2.1 t.2.2.2.2 = some r) (fun ⟨y50, y51, y52, y53, y54⟩ => ⟨mk 69 [(1, .ref 0 5 0 0), (2, nilS), (4, .ref 1 1 0 0), (6, .ref 2 1 0 0), (7, Qus), (8, I y50)], [(Qi9 p0), (Qmi p0), (Qrs p0), (Qp9 y51), (Qp8 y52), (Qp7 y53), (Qp6 y54)]⟩) (fun t h => by rw [Qd1] at h; cases h) (fun n60 ih t h => ?_) N ((p0.Hours.length : Int), List.replicate (w64 ((p0.Hours.length : Int) + 1)).toNat (0, 0), List.replicate (((w64 ((p0.Hours.length : Int) + 1)).toNat : Nat) : Int).toNat (0, 0), ([] : List (List Int)), ([] : List (List Bool))) h
    obtain ⟨y50, y51, y52, y53, y54⟩ := t
    rw [Qd1] at h
    skip
    refine wsq ?_
    refine wx tbk [] trivial ?_
    rcases bft ((decide (y50 ≥ 0))) with hc61 | hc61
    ·replace h := Qav hc61 h
     refine wft hc61 (by kernel_rfl) ?_
     refine Qao ?_
     refine thn ?_
     refine wsq ?_
     refine Qak ?_
     obtain ⟨x63, hf62, h⟩ := bno h
     refine wx1 tbk [(2, ⟨[(.tmp 31, Qus), (.tmp 32, I y50)], [(0, (Qi9 p0)), (1, (Qmi p0)), (2, (Qrs p0)), (3, (Qp9 y51)), (4, (Qp8 y52)), (5, (Qp7 y53)), (6, (Qp6 y54))], (.tup []), [(0, (Qi9 p0)), (1, (Qxi p0)), (2, (Qxh p0)), (3, (Qs5 y51 y50 y53 p0)), (4, (Qs4 y52 y50 y54 p0)), (5, (.mat 1 (matA Qad (x63.1 : List (List Int))))), (6, (.mat 1 (matA Qft (x63.2 : List (List Bool)))))], false⟩)] ⟨Qam (first := []) (cap := [.ref 0 5 0 0, .ref 1 1 0 0, .ref 2 1 0 0]) (vs := [I y50]) (σr := [(Qi9 p0), (Qmi p0), (Qrs p0), (Qp9 y51), (Qp8 y52), (Qp7 y53), (Qp6 y54)]) (σr' := [(Qi9 p0), (Qxi p0), (Qxh p0), (Qs5 y51 y50 y53 p0), (Qs4 y52 y50 y54 p0), (.mat 1 (matA Qad (x63.1 : List (List Int)))), (.mat 1 (matA Qft (x63.2 : List (List Bool))))]) (res' := (.tup [])) [0, 1, 2, 3, 4, 5, 6] rfl enter69 (Qkn N y50 p0.Levels p0.Ramp p0.Start p0.First p0.Hours ((w64 ((p0.Hours.length : Int) + 1)).toNat) ((((w64 ((p0.Hours.length : Int) + 1)).toNat : Nat) : Int).toNat) y51 y52 y53 y54 _ hf62) rfl (Qbi (rnc (.plain _ nll) (rnc (Qax rfl) (rnc (Qax rfl) (rnc (Qax rfl) rn0))))) (slc (Qai (rnc (.plain _ (nld Qaa _)) (rnc (.plain _ nll) (rnc (.plain _ nll) (rnc (.plain _ nll) (rnc (.plain _ (nld Qay _)) rn0)))))) (slc (Qai (rnc (Qej rfl) rn0)) (slc (Qai (rnc (Qej rfl) rn0)) (slc (Qjt rfl) (slc (Qjt rfl) (slc (Qih Qaa) (slc (Qih Qc1) Qal))))))) (slc (Qai (rnc (.plain _ (nld Qaa _)) (rnc (.plain _ nll) (rnc (.plain _ nll) (rnc (.plain _ nll) (rnc (.plain _ (nld Qay _)) rn0)))))) (slc (Qai (rnc (Qhs rfl) rn0)) (slc (Qai (rnc (Qhs rfl) rn0)) (slc (Qju rfl) (slc (Qju rfl) (slc (Qih Qaa) (slc (Qih Qc1) Qal))))))) (.plain _ (NLt.tup _ nl0)) rfl rfl rfl, trivial⟩ ?_
     refine bln ?_
     refine thn ?_
     refine wx1 tbk [] trivial ?_
     refine thn ?_
     exact arm (mto (n := 69) [(1, .ref 0 5 0 0), (2, nilS), (4, .ref 1 1 0 0), (6, .ref 2 1 0 0), (7, Qus), (8, (I (w64 (y50 - 1))))] [0, 1, 2, 3, 4, 5, 6] [(Qi9 p0), (Qxi p0), (Qxh p0), (Qs5 y51 y50 y53 p0), (Qs4 y52 y50 y54 p0), (.mat 1 (matA Qad (x63.1 : List (List Int)))), (.mat 1 (matA Qft (x63.2 : List (List Bool))))] hφ0 (pc (.rn (rqr rfl)) (pc rwl (pc (.rn (rqr rfl)) (pc (.rn (rqr rfl)) (pc (.rn (Qaq rn0 (rnc (rqr rfl) (rnc (rqr rfl) (rnc (rqr rfl) rn0))))) (pc rwl pn)))))) (qc (spb (lc (.rn (.plain _ (nld Qaa _))) (lc rwl (lc rwl (lc rwl (lc (.rn (.plain _ (nld Qay _))) ln)))))) (qc (spb (lc (.rn (Qaf rfl)) ln)) (qc (spb (lc (.rn (Qaf rfl)) ln)) (qc (Qbp rfl) (qc (Qbp rfl) (qc (Qb6 Qaa) (qc (Qb6 Qc1) qn)))))))) (ih (w64 (y50 - 1), y51.set y50.toNat (y53.length, (p0.Levels.length : Int).toNat), y52.set y50.toNat (y54.length, (p0.Levels.length : Int).toNat), x63.1, x63.2) h)
    ·replace h := Qaw hc61 h
     refine wfn hc61 (by kernel_rfl) ?_
     refine Qbh ?_
     refine Qar ?_
     refine Qar ?_
     refine Qbg rfl ?_
     refine thn ?_
     exact ⟨(y51, y52, y53, y54), h, (mto (n := 69) [(1, .ref 0 5 0 0), (2, nilS), (4, .ref 1 1 0 0), (6, .ref 2 1 0 0)] [0, 1, 2, 3, 4, 5, 6] [(Qi9 p0), (Qmi p0), (Qrs p0), (Qp9 y51), (Qp8 y52), (Qp7 y53), (Qp6 y54)] hφ0 (pc (.rn (rqr rfl)) (pc rwl (pc (.rn (rqr rfl)) (pc (.rn (rqr rfl)) pn)))) (qc (spb (lc (.rn (.plain _ (nld Qaa _))) (lc rwl (lc rwl (lc rwl (lc (.rn (.plain _ (nld Qay _))) ln)))))) (qc (spb (lc (.rn (Qaf rfl)) ln)) (qc (spb (lc (.rn (Qaf rfl)) ln)) (qc (Qbp rfl) (qc (Qbp rfl) (qc (Qb6 Qaa) (qc (Qb6 Qc1) qn))))))))⟩
end Go.Proofs.Ytlhakkkjgdbdpaa
