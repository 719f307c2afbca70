/-
  Functions of the program: what they compute, as plain functions, and that they do. No conditions.
-/
import Derived.Test.YtlhakkkjgdbdpaaGreatX3
namespace Go.Proofs.YtlhakkkjgdbdpaaGreat
set_option maxRecDepth 100000
set_option maxHeartbeats 4000000
open Go.RowKit
def Qg8 (_N : Nat) (p0 : Int) (p1 : Int) : Option Bool :=
  bif (decide (p0 > p1)) then
   some (decide (p0 ≤ 1000000))
  else
   some false
theorem Qk7 (N : Nat) (p0 : Int) (p1 : Int) (r : Bool) (h : Qg8 N p0 p1 = some r) : Spec Tryz.prog 91 [(I (p0)), (.ref 0 1 (0) 0)] [(.own 1 [[(I (p1))]])] (B (r)) [(.own 1 [[(I (p0))]])] := by
  refine Qac Tryz.func91 rfl 1 (nle rfl) (fun X φ0 w0 hφ0 hd0 => ?_)
  unfold Qg8 at h
  refine Qbh ?_
  refine wx tbk [] trivial ?_
  rcases bft ((decide (p0 > p1))) with hb2 | hb2
  ·replace h := Qat hb2 h
   refine wx tbk [(3, rp [(.tmp 7, (B ((decide (p0 > p1)))))] (B true))] ⟨asb hb2 (amv rfl), trivial⟩ ?_
   refine wx tbk [] trivial ?_
   refine wx tbk [] trivial ?_
   refine wmr (mto (n := 14) (l' := [(3, (B ((decide (p0 ≤ 1000000)))))]) (own' := [(.own 1 [[I p0]])]) [(3, (B ((decide (p0 ≤ 1000000)))))] [0] [(.own 1 [[I p0]])] hφ0 (pc rwl pn) (qc (spb (lc rwl ln)) qn)) ?_
   refine Qaa ?_
   obtain rfl := osi h
   exact ⟨_, Mor.rfl, Qb7 (vs := [(B ((decide (p0 ≤ 1000000))))]) ⟨rot (by kernel_rfl), trivial⟩ rfl (NLt.of0 nll) (by kernel_rfl) (Qaf (Qav (nlc (NLt.of0 nll) nl0)) Qbd)⟩
  ·replace h := Qau hb2 h
   refine wx tbk [(3, rp [(.tmp 7, (B ((decide (p0 > p1)))))] (B false))] ⟨asb hb2 (amv rfl), trivial⟩ ?_
   refine wx tbk [] trivial ?_
   refine wx tbk [] trivial ?_
   refine wmr (mto (n := 14) (l' := [(3, B false)]) (own' := [(.own 1 [[I p0]])]) [(3, B false)] [0] [(.own 1 [[I p0]])] hφ0 (pc rwl pn) (qc (spb (lc rwl ln)) qn)) ?_
   refine Qaa ?_
   obtain rfl := osi h
   exact ⟨_, Mor.rfl, Qb7 (vs := [B false]) ⟨rot (by kernel_rfl), trivial⟩ rfl (NLt.of0 nll) (by kernel_rfl) (Qaf (Qav (nlc (NLt.of0 nll) nl0)) Qbd)⟩
def Qh4 (N : Nat) (p0 : Int) (p1 : Int) : Option Bool :=
  (Qg8 N p0 p1).bind fun x3 =>
  some (!x3)
def Q1p : AV := .fn (.func 91) [] [(.ref 1 1 (0) 0)]
theorem Ql7 (N : Nat) (p0 : Int) (p1 : Int) (r : Bool) (h : Qh4 N p0 p1 = some r) : Spec Tryz.prog 105 [(I (p0)), (.ref 0 1 (0) 0)] [(.own 1 [[Q1p]]), (.own 1 [[(I (p1))]])] (B (r)) [(.own 1 [[Q1p]]), (.own 1 [[(I (p0))]])] := by
  refine Qac Tryz.func105 rfl 2 (nle rfl) (fun X φ0 w0 hφ0 hd0 => ?_)
  unfold Qh4 at h
  refine Qbh ?_
  refine wx tbk [] trivial ?_
  obtain ⟨x3, hf2, h⟩ := bno h
  refine wx tbk [(2, ⟨[(.tmp 4, Q1p), (.tmp 5, I p0)], [(1, .own 1 [[I p1]])], B x3, [(1, .own 1 [[I p0]])], false⟩)] ⟨Qah (first := []) (cap := [.ref 1 1 0 0]) (vs := [I p0]) (σr := [(.own 1 [[I p1]])]) (σr' := [(.own 1 [[I p0]])]) (res' := (B x3)) [1] rfl Zbm (Qk7 N p0 p1 _ hf2) rfl (Qbc (rnc (.plain _ nll) (rnc (Qa2 rfl) rn0))) (slc (Qae (rnc (.plain _ nll) rn0)) Qag) (slc (Qae (rnc (.plain _ nll) rn0)) Qag) (.plain _ nll) rfl rfl rfl, trivial⟩ ?_
  refine wmr (mto (n := 8) (l' := [(3, (B ((!x3))))]) (own' := [(.own 1 [[Q1p]]), (.own 1 [[I p0]])]) [(3, (B ((!x3))))] [0, 1] [(.own 1 [[Q1p]]), (.own 1 [[I p0]])] hφ0 (pc rwl pn) (qc (spb (lc (.rn (Qas rn0 (rnc (rqr rfl) rn0))) ln)) (qc (spb (lc rwl ln)) qn))) ?_
  refine Qaa ?_
  obtain rfl := osi h
  exact ⟨_, Mor.rfl, Qb7 (vs := [(B ((!x3)))]) ⟨rot (by kernel_rfl), trivial⟩ rfl (NLt.of0 nll) (by kernel_rfl) (Qaf (Qav (nlc (NLt.fn _ _ _ nl0 (nlc (NLt.ref _ _ _ _ (by decide)) nl0)) nl0)) (Qaf (Qav (nlc (NLt.of0 nll) nl0)) Qbd))⟩
def Qct (N : Nat) (p0 : (List Int)) (k4 : Int → Option (Int × Int)) : Nat → Int → Int → Option (Int × Int)
  | 0, _, _ => none
  | n9 + 1, y5, y6 =>
    bif (decide (y5 < (p0.length : Int))) then
     (getI p0 y5).bind fun x11 =>
     (Qh4 N x11 y6).bind fun x16 =>
     bif x16 then
      some (y5, x11)
     else
      Qct N p0 k4 n9 (w64 (y5 + 1)) x11
    else
     k4 (y6)
def Qe3 (N : Nat) (p0 : (List Int)) (p1 : Int) : Option (Int × Int) :=
  Qc5 (fun y3 =>
    some ((-1), y3)) fun k4 : Int → Option (Int × Int) =>
  Qct N p0 k4 N 0 p1
def Qwn (p0 : (List Int)) : AV := .dat 1 ((p0 : List Int).map Qal)
def Qz8 : AV := .fn (.func 105) [] [(.ref 0 1 (0) 0)]
def Qna : AV := .fn (.func 91) [] [(.ref 1 1 (0) 0)]
theorem Qiy (N : Nat) (p0 : (List Int)) (p1 : Int) (r : (Int × Int)) (h : Qe3 N p0 p1 = some r) : Spec Tryz.prog 65 [(Qwn p0), Qz8] [(.own 1 [[Qna]]), (.own 1 [[(I (p1))]])] (I (r.1)) [(.own 1 [[Qna]]), (.own 1 [[(I (r.2))]])] := by
  refine Qac Tryz.func65 rfl 2 (nle rfl) (fun X φ0 w0 hφ0 hd0 => ?_)
  unfold Qe3 at h
  refine Qbh ?_
  refine wx tbk [] trivial ?_
  obtain ⟨k4, hk_k4, h⟩ := jko h
  refine wjn (τ := Int) (fun t => k4 t = some r) (fun y3 => ⟨mk 19 [], [(.own 1 [[Qna]]), (.own 1 [[I y3]])]⟩) (fun y3 h => ?_) ?_
  ·subst hk_k4
   refine wx tbk [] trivial ?_
   refine wmr (mto (n := 19) (l' := [(4, (I ((-1))))]) (own' := [(.own 1 [[Qna]]), (.own 1 [[I y3]])]) [(4, (I ((-1))))] [0, 1] [(.own 1 [[Qna]]), (.own 1 [[I y3]])] hφ0 (pc rwl pn) (qc (spb (lc (.rn (Qas rn0 (rnc (rqr rfl) rn0))) ln)) (qc (spb (lc rwl ln)) qn))) ?_
   refine Qaa ?_
   obtain rfl := osi h
   exact ⟨_, Mor.rfl, Qb7 (vs := [(I ((-1)))]) ⟨rot (by kernel_rfl), trivial⟩ rfl (NLt.of0 nll) (by kernel_rfl) (Qaf (Qav (nlc (NLt.fn _ _ _ nl0 (nlc (NLt.ref _ _ _ _ (by decide)) nl0)) nl0)) (Qaf (Qav (nlc (NLt.of0 nll) nl0)) Qbd))⟩
  ·skip
   refine wx tbk [(1, rp [(.tmp 6, (Qwn p0))] (I ((p0.length : Int))))] ⟨alm (c := Qal) (l := p0) (aln rfl Tryz.underlying73 rfl), trivial⟩ ?_
   refine Qaj ?_
   refine wmr (mto (n := 19) (l' := [(0, (Qwn p0)), (1, Qz8), (7, (I ((p0.length : Int)))), (8, I 0)]) (own' := [(.own 1 [[Qna]]), (.own 1 [[I p1]])]) [(0, (Qwn p0)), (1, Qz8), (7, (I ((p0.length : Int)))), (8, I 0)] [0, 1] [(.own 1 [[Qna]]), (.own 1 [[I p1]])] hφ0 (pc (.rn (.plain _ (nld Qab _))) (pc (.rn (Qas rn0 (rnc (rqr rfl) rn0))) (pc rwl (pc rwl pn)))) (qc (spb (lc (.rn (Qas rn0 (rnc (rqr rfl) rn0))) ln)) (qc (spb (lc rwl ln)) qn))) ?_
   refine Qcl (τ := Int × Int) (fun n t => Qct N p0 k4 n t.1 t.2 = some r) (fun ⟨y5, y6⟩ => ⟨mk 19 [(0, (Qwn p0)), (1, Qz8), (7, (I ((p0.length : Int)))), (8, I y5)], [(.own 1 [[Qna]]), (.own 1 [[I y6]])]⟩) (fun t h => by rw [Qct] at h; cases h) (fun n9 ih t h => ?_) N (0, p1) h
   obtain ⟨y5, y6⟩ := t
   rw [Qct] at h
   skip
   refine wx tbk [] trivial ?_
   refine wsq ?_
   rcases bft ((decide (y5 < (p0.length : Int)))) with hc10 | hc10
   ·replace h := Qat hc10 h
    refine wft hc10 (by kernel_rfl) ?_
    refine Qam ?_
    refine thn ?_
    refine wsq ?_
    refine Qaj ?_
    refine wx tbk [] trivial ?_
    obtain ⟨x11, hg12, h⟩ := bno h
    obtain ⟨hi13, hj14⟩ := gsm hg12
    obtain ⟨x16, hf15, h⟩ := bno h
    refine wx tbk [(3, rp [(.tmp 12, (Qwn p0)), (.tmp 13, I y5)] (.dptr (Qal (x11)) 0)), (5, ⟨[(.tmp 11, Qz8), (.tmp 15, I x11)], [(0, .own 1 [[Qna]]), (1, .own 1 [[I y6]])], B x16, [(0, .own 1 [[Qna]]), (1, .own 1 [[I x11]])], false⟩)] ⟨aid rfl Tryz.underlying73 ti3 rfl rfl hi13 (mgt Qal hj14) rfl, Qah (first := []) (cap := [.ref 0 1 0 0]) (vs := [I x11]) (σr := [(.own 1 [[Qna]]), (.own 1 [[I y6]])]) (σr' := [(.own 1 [[Qna]]), (.own 1 [[I x11]])]) (res' := (B x16)) [0, 1] rfl Qzk (Ql7 N x11 y6 _ hf15) rfl (Qbc (rnc (.plain _ nll) (rnc (Qa2 rfl) rn0))) (slc (Qae (rnc (Qas rn0 (rnc (Qa2 rfl) rn0)) rn0)) (slc (Qae (rnc (.plain _ nll) rn0)) Qag)) (slc (Qae (rnc (Qas rn0 (rnc (Qb3 rfl) rn0)) rn0)) (slc (Qae (rnc (.plain _ nll) rn0)) Qag)) (.plain _ nll) rfl rfl rfl, trivial⟩ ?_
    rcases bft (x16) with hc17 | hc17
    ·replace h := Qat hc17 h
     refine wft hc17 (by kernel_rfl) ?_
     refine wx tbk [] trivial ?_
     refine wmr (mto (n := 19) (l' := [(4, I y5)]) (own' := [(.own 1 [[Qna]]), (.own 1 [[I x11]])]) [(4, I y5)] [0, 1] [(.own 1 [[Qna]]), (.own 1 [[I x11]])] hφ0 (pc rwl pn) (qc (spb (lc (.rn (Qas rn0 (rnc (rqr rfl) rn0))) ln)) (qc (spb (lc rwl ln)) qn))) ?_
     refine Qaa ?_
     refine Qa3 ?_
     refine Qan ?_
     refine Qan ?_
     refine Qa3 ?_
     refine Qan ?_
     obtain rfl := osi h
     exact ⟨_, Mor.rfl, Qb7 (vs := [I y5]) ⟨rot (by kernel_rfl), trivial⟩ rfl (NLt.of0 nll) (by kernel_rfl) (Qaf (Qav (nlc (NLt.fn _ _ _ nl0 (nlc (NLt.ref _ _ _ _ (by decide)) nl0)) nl0)) (Qaf (Qav (nlc (NLt.of0 nll) nl0)) Qbd))⟩
    ·replace h := Qau hc17 h
     refine wfn hc17 (by kernel_rfl) ?_
     refine Qam ?_
     refine bln ?_
     refine thn ?_
     refine wx1 tbk [] trivial ?_
     refine thn ?_
     exact arm (mto (n := 19) [(0, (Qwn p0)), (1, Qz8), (7, (I ((p0.length : Int)))), (8, (I (w64 (y5 + 1))))] [0, 1] [(.own 1 [[Qna]]), (.own 1 [[I x11]])] hφ0 (pc (.rn (.plain _ (nld Qab _))) (pc (.rn (Qas rn0 (rnc (rqr rfl) rn0))) (pc rwl (pc rwl pn)))) (qc (spb (lc (.rn (Qas rn0 (rnc (rqr rfl) rn0))) ln)) (qc (spb (lc rwl ln)) qn))) (ih (w64 (y5 + 1), x11) h)
   ·replace h := Qau hc10 h
    refine wfn hc10 (by kernel_rfl) ?_
    refine Qbr ?_
    refine Qay ?_
    refine Qay ?_
    refine Qbq rfl ?_
    refine thn ?_
    exact ⟨(y6), h, (mto (n := 19) [] [0, 1] [(.own 1 [[Qna]]), (.own 1 [[I y6]])] hφ0 pn (qc (spb (lc (.rn (Qas rn0 (rnc (rqr rfl) rn0))) ln)) (qc (spb (lc rwl ln)) qn)))⟩
def Qek (N : Nat) (p0 : (List Int)) (p1 : Int) : Option (Bool × Int) :=
  (Qe3 N p0 p1).bind fun x4 =>
  some ((decide (x4.1 ≥ 0)), x4.2)
def Q9i (p0 : (List Int)) : AV := .dat 1 ((p0 : List Int).map Qal)
def Q9h : AV := .fn (.func 105) [] [(.ref 0 1 (0) 0)]
def Quh : AV := .fn (.func 91) [] [(.ref 1 1 (0) 0)]
theorem Qhx (N : Nat) (p0 : (List Int)) (p1 : Int) (r : (Bool × Int)) (h : Qek N p0 p1 = some r) : Spec Tryz.prog 104 [(Q9i p0), Q9h] [(.own 1 [[Quh]]), (.own 1 [[(I (p1))]])] (B (r.1)) [(.own 1 [[Quh]]), (.own 1 [[(I (r.2))]])] := by
  refine Qac Tryz.func104 rfl 2 (nle rfl) (fun X φ0 w0 hφ0 hd0 => ?_)
  unfold Qek at h
  refine Qbh ?_
  refine wx tbk [] trivial ?_
  obtain ⟨x4, hf3, h⟩ := bno h
  refine wx tbk [(2, ⟨[fu 65, (.tmp 5, (Q9i p0)), (.tmp 6, Q9h)], [(0, .own 1 [[Quh]]), (1, .own 1 [[I p1]])], I x4.1, [(0, .own 1 [[Quh]]), (1, .own 1 [[I x4.2]])], false⟩)] ⟨Qah (first := []) (cap := []) (vs := [(Q9i p0), Q9h]) (σr := [(.own 1 [[Quh]]), (.own 1 [[I p1]])]) (σr' := [(.own 1 [[Quh]]), (.own 1 [[I x4.2]])]) (res' := (I x4.1)) [0, 1] rfl Qxm (Qiy N p0 p1 _ hf3) rfl (Qbc (rnc (.plain _ (nld Qab _)) (rnc (Qas rn0 (rnc (Qa2 rfl) rn0)) rn0))) (slc (Qae (rnc (Qas rn0 (rnc (Qa2 rfl) rn0)) rn0)) (slc (Qae (rnc (.plain _ nll) rn0)) Qag)) (slc (Qae (rnc (Qas rn0 (rnc (Qb3 rfl) rn0)) rn0)) (slc (Qae (rnc (.plain _ nll) rn0)) Qag)) (.plain _ nll) rfl rfl rfl, trivial⟩ ?_
  refine wmr (mto (n := 9) (l' := [(4, (B ((decide (x4.1 ≥ 0)))))]) (own' := [(.own 1 [[Quh]]), (.own 1 [[I x4.2]])]) [(4, (B ((decide (x4.1 ≥ 0)))))] [0, 1] [(.own 1 [[Quh]]), (.own 1 [[I x4.2]])] hφ0 (pc rwl pn) (qc (spb (lc (.rn (Qas rn0 (rnc (rqr rfl) rn0))) ln)) (qc (spb (lc rwl ln)) qn))) ?_
  refine Qaa ?_
  obtain rfl := osi h
  exact ⟨_, Mor.rfl, Qb7 (vs := [(B ((decide (x4.1 ≥ 0))))]) ⟨rot (by kernel_rfl), trivial⟩ rfl (NLt.of0 nll) (by kernel_rfl) (Qaf (Qav (nlc (NLt.fn _ _ _ nl0 (nlc (NLt.ref _ _ _ _ (by decide)) nl0)) nl0)) (Qaf (Qav (nlc (NLt.of0 nll) nl0)) Qbd))⟩
def Qjd (N : Nat) (p0 : (List Int)) (p1 : Int) : Option (Bool × Int) :=
  (Qek N p0 p1).bind fun x4 =>
  some ((!x4.1), x4.2)
def Q9k (p0 : (List Int)) : AV := .dat 1 ((p0 : List Int).map Qal)
def Q1q : AV := .fn (.func 91) [] [(.ref 0 1 (0) 0)]
def Q9j : AV := .fn (.func 105) [] [(.ref 1 1 (0) 0)]
theorem Qef (N : Nat) (p0 : (List Int)) (p1 : Int) (r : (Bool × Int)) (h : Qjd N p0 p1 = some r) : Spec Tryz.prog 83 [(Q9k p0), Q1q] [(.own 1 [[(I (p1))]])] (B (r.1)) [(.own 1 [[(I (r.2))]])] := by
  refine Qac Tryz.func83 rfl 1 (nle rfl) (fun X φ0 w0 hφ0 hd0 => ?_)
  unfold Qjd at h
  refine Qbh ?_
  refine wx tbk [] trivial ?_
  obtain ⟨x4, hf3, h⟩ := bno h
  refine wx tbk [(1, rp [(.tmp 3, .ref 1 1 0 0)] Q9j), (2, ⟨[fu 104, (.tmp 5, (Q9k p0)), (.tmp 6, Q9j)], [(1, .own 1 [[Q1q]]), (0, .own 1 [[I p1]])], B x4.1, [(1, .own 1 [[Q1q]]), (0, .own 1 [[I x4.2]])], false⟩)] ⟨Qdd (fs := []) (cs := [.ref 1 1 0 0]) rfl rfl rfl rfl, Qah (first := []) (cap := []) (vs := [(Q9k p0), Q9j]) (σr := [(.own 1 [[Q1q]]), (.own 1 [[I p1]])]) (σr' := [(.own 1 [[Q1q]]), (.own 1 [[I x4.2]])]) (res' := (B x4.1)) [1, 0] rfl Qzl (Qhx N p0 p1 _ hf3) rfl (Qbc (rnc (.plain _ (nld Qab _)) (rnc (Qas rn0 (rnc (Qa2 rfl) rn0)) rn0))) (slc (Qae (rnc (Qas rn0 (rnc (Qa2 rfl) rn0)) rn0)) (slc (Qae (rnc (.plain _ nll) rn0)) Qag)) (slc (Qae (rnc (Qas rn0 (rnc (Qb3 rfl) rn0)) rn0)) (slc (Qae (rnc (.plain _ nll) rn0)) Qag)) (.plain _ nll) rfl rfl rfl, trivial⟩ ?_
  refine wmr (mto (n := 9) (l' := [(4, (B ((!x4.1))))]) (own' := [(.own 1 [[I x4.2]])]) [(4, (B ((!x4.1))))] [0] [(.own 1 [[I x4.2]])] hφ0 (pc rwl pn) (qc (spb (lc rwl ln)) qn)) ?_
  refine Qaa ?_
  obtain rfl := osi h
  exact ⟨_, Mor.rfl, Qb7 (vs := [(B ((!x4.1)))]) ⟨rot (by kernel_rfl), trivial⟩ rfl (NLt.of0 nll) (by kernel_rfl) (Qaf (Qav (nlc (NLt.of0 nll) nl0)) Qbd)⟩
def Qh8 (N : Nat) (p0 : GHour) : Option Bool :=
  (Qbb N p0.Price (-1000) 1000).bind fun x2 =>
  bif x2 then
   (Qbb N p0.Most 0 1000000).bind fun x5 =>
   some x5
  else
   some false
theorem Qmd (N : Nat) (p0 : GHour) (r : Bool) (h : Qh8 N p0 = some r) : Spec Tryz.prog 93 [(.agg (Qey p0))] [] (B r) [] := by
  refine Qac Tryz.func93 rfl 0 (nle rfl) (fun X φ0 w0 hφ0 hd0 => ?_)
  unfold Qh8 at h
  refine wx tbk [] trivial ?_
  obtain ⟨x2, hf1, h⟩ := bno h
  rcases bft (x2) with hb3 | hb3
  ·replace h := Qat hb3 h
   obtain ⟨x5, hf4, h⟩ := bno h
   refine wx tbk [(2, rp [fu 56, (.tmp 4, I p0.Price), ci (-1000), ci 1000] (B x2)), (3, rp [(.tmp 5, B x2)] (B true)), (6, rp [(.tmp 6, B true), fu 56, (.tmp 8, I p0.Most), ci 0, ci 1000000] (B x5))] ⟨apc (first := []) (cap := []) (vs := [I p0.Price, (I ((-1000))), I 1000]) rfl Qbs (Qad N p0.Price (-1000) 1000 _ hf1) rfl rfl (nlc nll (nlc nll (nlc nll nl0))) nll rfl, asb hb3 (amv rfl), ag_ (apc (first := []) (cap := []) (vs := [I p0.Most, I 0, I 1000000]) rfl Qbs (Qad N p0.Most 0 1000000 _ hf4) rfl rfl (nlc nll (nlc nll (nlc nll nl0))) nll rfl), trivial⟩ ?_
   refine Qaa ?_
   obtain rfl := osi h
   exact fend ⟨[B x5], ⟨rot (by kernel_rfl), trivial⟩, rfl⟩ nll
  ·replace h := Qau hb3 h
   refine wx tbk [(2, rp [fu 56, (.tmp 4, I p0.Price), ci (-1000), ci 1000] (B x2)), (3, rp [(.tmp 5, B x2)] (B false))] ⟨apc (first := []) (cap := []) (vs := [I p0.Price, (I ((-1000))), I 1000]) rfl Qbs (Qad N p0.Price (-1000) 1000 _ hf1) rfl rfl (nlc nll (nlc nll (nlc nll nl0))) nll rfl, asb hb3 (amv rfl), trivial⟩ ?_
   refine Qaa ?_
   obtain rfl := osi h
   exact fend ⟨[B false], ⟨rot (by kernel_rfl), trivial⟩, rfl⟩ nll
def Qfq (N : Nat) (p0 : GHour) : Option Bool :=
  (Qh8 N p0).bind fun x3 =>
  some (!x3)
def Q9c (p0 : GHour) : AV := .agg [(I (p0.Price)), (I (p0.Most))]
def Q5k : Slot := .own 1 [[(.fn (.func 93) [] [])]]
theorem Qjr (N : Nat) (p0 : GHour) (r : Bool) (h : Qfq N p0 = some r) : Spec Tryz.prog 112 [(Q9c p0), (.ref 0 1 (0) 0)] [Q5k] (B (r)) [Q5k] := by
  refine Qac Tryz.func112 rfl 1 (nle rfl) (fun X φ0 w0 hφ0 hd0 => ?_)
  unfold Qfq at h
  refine Qbh ?_
  refine wx tbk [] trivial ?_
  obtain ⟨x3, hf2, h⟩ := bno h
  refine wx tbk [(2, rp [(.tmp 4, (.fn (.func 93) [] [])), (.tmp 5, (Q9c p0))] (B x3))] ⟨apc (first := []) (cap := []) (vs := [(Q9c p0)]) rfl Zbk (Qmd N p0 _ hf2) rfl rfl (nlc (NLt.agg _ (nlc nll (nlc nll nl0))) nl0) nll rfl, trivial⟩ ?_
  refine wmr (mto (n := 8) (l' := [(3, (B ((!x3))))]) (own' := [Q5k]) [(3, (B ((!x3))))] [0] [Q5k] hφ0 (pc rwl pn) (qc (spb (lc (.rn (Qas rn0 rn0)) ln)) qn)) ?_
  refine Qaa ?_
  obtain rfl := osi h
  exact ⟨_, Mor.rfl, Qb7 (vs := [(B ((!x3)))]) ⟨rot (by kernel_rfl), trivial⟩ rfl (NLt.of0 nll) (by kernel_rfl) (Qaf (Qav (nlc (NLt.of0 (NLt.fn _ _ _ nl0 nl0)) nl0)) Qbd)⟩
def Qbp (N : Nat) (p0 : (List GHour)) (k2 : Unit → Option Int) : Nat → Int → Option Int
  | 0, _ => none
  | n5 + 1, y3 =>
    bif (decide (y3 < (p0.length : Int))) then
     (getI p0 y3).bind fun x7 =>
     (Qfq N x7).bind fun x12 =>
     bif x12 then
      some y3
     else
      Qbp N p0 k2 n5 (w64 (y3 + 1))
    else
     k2 ()
def Qc9 (N : Nat) (p0 : (List GHour)) : Option Int :=
  Qc5 (fun _ =>
    some (-1)) fun k2 : Unit → Option Int =>
  Qbp N p0 k2 N 0
def Qwm (p0 : (List GHour)) : AV := .dat 2 ((p0 : List GHour).map Qey)
def Qz7 : AV := .fn (.func 112) [] [(.ref 0 1 (0) 0)]
def Qm9 : Slot := .own 1 [[(.fn (.func 93) [] [])]]
theorem Qf5 (N : Nat) (p0 : (List GHour)) (r : Int) (h : Qc9 N p0 = some r) : Spec Tryz.prog 119 [(Qwm p0), Qz7] [Qm9] (I (r)) [Qm9] := by
  refine Qac Tryz.func119 rfl 1 (nle rfl) (fun X φ0 w0 hφ0 hd0 => ?_)
  unfold Qc9 at h
  refine Qbh ?_
  refine wx tbk [] trivial ?_
  obtain ⟨k2, hk_k2, h⟩ := jko h
  refine wjn (τ := Unit) (fun t => k2 t = some r) (fun _ => ⟨mk 19 [], [Qm9]⟩) (fun t h => ?_) ?_
  ·subst hk_k2
   refine wx tbk [] trivial ?_
   refine wmr (mto (n := 19) (l' := [(4, (I ((-1))))]) (own' := [Qm9]) [(4, (I ((-1))))] [0] [Qm9] hφ0 (pc rwl pn) (qc (spb (lc (.rn (Qas rn0 rn0)) ln)) qn)) ?_
   refine Qaa ?_
   obtain rfl := osi h
   exact ⟨_, Mor.rfl, Qb7 (vs := [(I ((-1)))]) ⟨rot (by kernel_rfl), trivial⟩ rfl (NLt.of0 nll) (by kernel_rfl) (Qaf (Qav (nlc (NLt.of0 (NLt.fn _ _ _ nl0 nl0)) nl0)) Qbd)⟩
  ·skip
   refine wx tbk [(1, rp [(.tmp 6, (Qwm p0))] (I ((p0.length : Int))))] ⟨alm (c := Qey) (l := p0) (aln rfl Tryz.underlying82 rfl), trivial⟩ ?_
   refine Qaj ?_
   refine wmr (mto (n := 19) (l' := [(0, (Qwm p0)), (1, Qz7), (7, (I ((p0.length : Int)))), (8, I 0)]) (own' := [Qm9]) [(0, (Qwm p0)), (1, Qz7), (7, (I ((p0.length : Int)))), (8, I 0)] [0] [Qm9] hφ0 (pc (.rn (.plain _ (nld Qbv _))) (pc (.rn (Qas rn0 (rnc (rqr rfl) rn0))) (pc rwl (pc rwl pn)))) (qc (spb (lc (.rn (Qas rn0 rn0)) ln)) qn)) ?_
   refine Qcl (τ := Int) (fun n t => Qbp N p0 k2 n t = some r) (fun y3 => ⟨mk 19 [(0, (Qwm p0)), (1, Qz7), (7, (I ((p0.length : Int)))), (8, I y3)], [Qm9]⟩) (fun t h => by rw [Qbp] at h; cases h) (fun n5 ih y3 h => ?_) N (0) h
   rw [Qbp] at h
   skip
   refine wx tbk [] trivial ?_
   refine wsq ?_
   rcases bft ((decide (y3 < (p0.length : Int)))) with hc6 | hc6
   ·replace h := Qat hc6 h
    refine wft hc6 (by kernel_rfl) ?_
    refine Qam ?_
    refine thn ?_
    refine wsq ?_
    refine Qaj ?_
    refine wx tbk [] trivial ?_
    obtain ⟨x7, hg8, h⟩ := bno h
    obtain ⟨hi9, hj10⟩ := gsm hg8
    obtain ⟨x12, hf11, h⟩ := bno h
    refine wx tbk [(3, rp [(.tmp 12, (Qwm p0)), (.tmp 13, I y3)] (.dptr (Qey (x7)) 0)), (5, ⟨[(.tmp 11, Qz7), (.tmp 15, (.agg [I x7.Price, I x7.Most]))], [(0, Qm9)], B x12, [(0, Qm9)], false⟩)] ⟨aid rfl Tryz.underlying82 Q58 rfl rfl hi9 (mgt Qey hj10) rfl, Qah (first := []) (cap := [.ref 0 1 0 0]) (vs := [(.agg [I x7.Price, I x7.Most])]) (σr := [Qm9]) (σr' := [Qm9]) (res' := (B x12)) [0] rfl Q63 (Qjr N x7 _ hf11) rfl (Qbc (rnc (.plain _ (NLt.agg _ (nlc nll (nlc nll nl0)))) (rnc (Qa2 rfl) rn0))) (slc (Qae (rnc (.plain _ (NLt.fn _ _ _ nl0 nl0)) rn0)) Qag) (slc (Qae (rnc (.plain _ (NLt.fn _ _ _ nl0 nl0)) rn0)) Qag) (.plain _ nll) rfl rfl rfl, trivial⟩ ?_
    rcases bft (x12) with hc13 | hc13
    ·replace h := Qat hc13 h
     refine wft hc13 (by kernel_rfl) ?_
     refine wx tbk [] trivial ?_
     refine wmr (mto (n := 19) (l' := [(4, I y3)]) (own' := [Qm9]) [(4, I y3)] [0] [Qm9] hφ0 (pc rwl pn) (qc (spb (lc (.rn (Qas rn0 rn0)) ln)) qn)) ?_
     refine Qaa ?_
     refine Qa3 ?_
     refine Qan ?_
     refine Qan ?_
     refine Qa3 ?_
     refine Qan ?_
     obtain rfl := osi h
     exact ⟨_, Mor.rfl, Qb7 (vs := [I y3]) ⟨rot (by kernel_rfl), trivial⟩ rfl (NLt.of0 nll) (by kernel_rfl) (Qaf (Qav (nlc (NLt.of0 (NLt.fn _ _ _ nl0 nl0)) nl0)) Qbd)⟩
    ·replace h := Qau hc13 h
     refine wfn hc13 (by kernel_rfl) ?_
     refine Qam ?_
     refine bln ?_
     refine thn ?_
     refine wx1 tbk [] trivial ?_
     refine thn ?_
     exact arm (mto (n := 19) [(0, (Qwm p0)), (1, Qz7), (7, (I ((p0.length : Int)))), (8, (I (w64 (y3 + 1))))] [0] [Qm9] hφ0 (pc (.rn (.plain _ (nld Qbv _))) (pc (.rn (Qas rn0 (rnc (rqr rfl) rn0))) (pc rwl (pc rwl pn)))) (qc (spb (lc (.rn (Qas rn0 rn0)) ln)) qn)) (ih (w64 (y3 + 1)) h)
   ·replace h := Qau hc6 h
    refine wfn hc6 (by kernel_rfl) ?_
    refine Qbr ?_
    refine Qay ?_
    refine Qay ?_
    refine Qbq rfl ?_
    refine thn ?_
    exact ⟨(), h, (mto (n := 19) [] [0] [Qm9] hφ0 pn (qc (spb (lc (.rn (Qas rn0 rn0)) ln)) qn))⟩
def Qc3 (N : Nat) (p0 : (List GHour)) : Option Bool :=
  (Qc9 N p0).bind fun x3 =>
  some (decide (x3 ≥ 0))
def Q9e (p0 : (List GHour)) : AV := .dat 2 ((p0 : List GHour).map Qey)
def Q9d : AV := .fn (.func 112) [] [(.ref 0 1 (0) 0)]
def Qug : Slot := .own 1 [[(.fn (.func 93) [] [])]]
theorem Qfo (N : Nat) (p0 : (List GHour)) (r : Bool) (h : Qc3 N p0 = some r) : Spec Tryz.prog 111 [(Q9e p0), Q9d] [Qug] (B (r)) [Qug] := by
  refine Qac Tryz.func111 rfl 1 (nle rfl) (fun X φ0 w0 hφ0 hd0 => ?_)
  unfold Qc3 at h
  refine Qbh ?_
  refine wx tbk [] trivial ?_
  obtain ⟨x3, hf2, h⟩ := bno h
  refine wx tbk [(2, ⟨[fu 119, (.tmp 5, (Q9e p0)), (.tmp 6, Q9d)], [(0, Qug)], I x3, [(0, Qug)], false⟩)] ⟨Qah (first := []) (cap := []) (vs := [(Q9e p0), Q9d]) (σr := [Qug]) (σr' := [Qug]) (res' := (I x3)) [0] rfl Q6x (Qf5 N p0 _ hf2) rfl (Qbc (rnc (.plain _ (nld Qbv _)) (rnc (Qas rn0 (rnc (Qa2 rfl) rn0)) rn0))) (slc (Qae (rnc (.plain _ (NLt.fn _ _ _ nl0 nl0)) rn0)) Qag) (slc (Qae (rnc (.plain _ (NLt.fn _ _ _ nl0 nl0)) rn0)) Qag) (.plain _ nll) rfl rfl rfl, trivial⟩ ?_
  refine wmr (mto (n := 9) (l' := [(4, (B ((decide (x3 ≥ 0)))))]) (own' := [Qug]) [(4, (B ((decide (x3 ≥ 0)))))] [0] [Qug] hφ0 (pc rwl pn) (qc (spb (lc (.rn (Qas rn0 rn0)) ln)) qn)) ?_
  refine Qaa ?_
  obtain rfl := osi h
  exact ⟨_, Mor.rfl, Qb7 (vs := [(B ((decide (x3 ≥ 0))))]) ⟨rot (by kernel_rfl), trivial⟩ rfl (NLt.of0 nll) (by kernel_rfl) (Qaf (Qav (nlc (NLt.of0 (NLt.fn _ _ _ nl0 nl0)) nl0)) Qbd)⟩
def Qf9 (N : Nat) (p0 : (List GHour)) : Option Bool :=
  (Qc3 N p0).bind fun x2 =>
  some (!x2)
def Q9g (p0 : (List GHour)) : AV := .dat 2 ((p0 : List GHour).map Qey)
def Q9f : AV := .fn (.func 112) [] [(.ref 0 1 (0) 0)]
def Q5l : Slot := .own 1 [[(.fn (.func 93) [] [])]]
theorem Qkc (N : Nat) (p0 : (List GHour)) (r : Bool) (h : Qf9 N p0 = some r) : Spec Tryz.prog 92 [(Q9g p0), (.fn (.func 93) [] [])] [] (B (r)) [] := by
  refine Qac Tryz.func92 rfl 0 (nle rfl) (fun X φ0 w0 hφ0 hd0 => ?_)
  unfold Qf9 at h
  refine wx tbk [] trivial ?_
  obtain ⟨x2, hf1, h⟩ := bno h
  refine wx tbk [(1, rp [(.tmp 3, .ref 0 1 0 0)] Q9f), (2, ⟨[fu 111, (.tmp 5, (Q9g p0)), (.tmp 6, Q9f)], [(0, Q5l)], B x2, [(0, Q5l)], false⟩)] ⟨Qdd (fs := []) (cs := [.ref 0 1 0 0]) rfl rfl rfl rfl, Qah (first := []) (cap := []) (vs := [(Q9g p0), Q9f]) (σr := [Q5l]) (σr' := [Q5l]) (res' := (B x2)) [0] rfl Q64 (Qfo N p0 _ hf1) rfl (Qbc (rnc (.plain _ (nld Qbv _)) (rnc (Qas rn0 (rnc (Qa2 rfl) rn0)) rn0))) (slc (Qae (rnc (.plain _ (NLt.fn _ _ _ nl0 nl0)) rn0)) Qag) (slc (Qae (rnc (.plain _ (NLt.fn _ _ _ nl0 nl0)) rn0)) Qag) (.plain _ nll) rfl rfl rfl, trivial⟩ ?_
  refine Qaa ?_
  obtain rfl := osi h
  exact fend ⟨[(B ((!x2)))], ⟨rot (by kernel_rfl), trivial⟩, rfl⟩ nll
def Qjf (N : Nat) (p0 : GJob) : Option Bool :=
  (Qbb N (p0.Levels.length : Int) 2 12).bind fun x2 =>
  bif x2 then
   (getI p0.Levels 0).bind fun x4 =>
   bif (x4 == 0) then
    (Qjd N p0.Levels (-1)).bind fun x10 =>
    bif x10.1 then
     (Qbb N p0.Ramp 1 12).bind fun x13 =>
     bif x13 then
      (Qbb N p0.Start 0 1000000000).bind fun x16 =>
      bif x16 then
       (Qbb N p0.First 0 (w64 ((p0.Levels.length : Int) - 1))).bind fun x19 =>
       bif x19 then
        (Qbb N (p0.Hours.length : Int) 1 100).bind fun x22 =>
        bif x22 then
         (Qf9 N p0.Hours).bind fun x25 =>
         some x25
        else
         some false
       else
        some false
      else
       some false
     else
      some false
    else
     some false
   else
    some false
  else
   some false
def Qox : AV := .fn (.func 91) [] [(.ref 1 1 (0) 0)]
def Qhp (p0 : GJob) : AV := .dat 1 ((p0.Levels : List Int).map Qal)
def Q5m (p0 : GJob) : AV := .dat 2 ((p0.Hours : List GHour).map Qey)
theorem Qn0 (N : Nat) (p0 : GJob) (r : Bool) (h : Qjf N p0 = some r) : Spec Tryz.prog 62 [(.agg (Qvy p0))] [] (B r) [] := by
  refine Qac Tryz.func62 rfl 0 (nle rfl) (fun X φ0 w0 hφ0 hd0 => ?_)
  unfold Qjf at h
  refine wx tbk [] trivial ?_
  refine wx tbk [] trivial ?_
  refine wx tbk [(0, rp [(.tmp 3, .ref 1 1 0 0)] Qox)] ⟨Qdd (fs := []) (cs := [.ref 1 1 0 0]) rfl rfl rfl rfl, trivial⟩ ?_
  obtain ⟨x2, hf1, h⟩ := bno h
  rcases bft (x2) with hb3 | hb3
  ·replace h := Qat hb3 h
   obtain ⟨x4, hg5, h⟩ := bno h
   obtain ⟨hi6, hj7⟩ := gsm hg5
   rcases bft ((x4 == 0)) with hb8 | hb8
   ·replace h := Qat hb8 h
    obtain ⟨x10, hf9, h⟩ := bno h
    rcases bft (x10.1) with hb11 | hb11
    ·replace h := Qat hb11 h
     obtain ⟨x13, hf12, h⟩ := bno h
     rcases bft (x13) with hb14 | hb14
     ·replace h := Qat hb14 h
      obtain ⟨x16, hf15, h⟩ := bno h
      rcases bft (x16) with hb17 | hb17
      ·replace h := Qat hb17 h
       obtain ⟨x19, hf18, h⟩ := bno h
       rcases bft (x19) with hb20 | hb20
       ·replace h := Qat hb20 h
        obtain ⟨x22, hf21, h⟩ := bno h
        rcases bft (x22) with hb23 | hb23
        ·replace h := Qat hb23 h
         obtain ⟨x25, hf24, h⟩ := bno h
         refine wx tbk [(2, rp [(.tmp 7, (Qhp p0))] (I ((p0.Levels.length : Int)))), (3, rp [fu 56, (.tmp 8, (I ((p0.Levels.length : Int)))), ci 2, ci 12] (B x2)), (4, rp [(.tmp 9, B x2)] (B true)), (7, rp [(.tmp 10, B true), (.tmp 12, (Qhp p0)), ci 0] (.dptr (Qal (x4)) 0)), (11, rp [(.tmp 16, (B ((x4 == 0))))] (B true)), (15, ⟨[(.tmp 17, B true), fu 83, (.tmp 19, (Qhp p0)), (.tmp 20, Qox)], [(1, (.own 1 [[(I ((-1)))]]))], B x10.1, [(1, .own 1 [[I x10.2]])], false⟩), (17, rp [(.tmp 22, B x10.1)] (B true)), (20, rp [(.tmp 23, B true), fu 56, (.tmp 25, I p0.Ramp), ci 1, ci 12] (B x13)), (22, rp [(.tmp 27, B x13)] (B true)), (25, rp [(.tmp 28, B true), fu 56, (.tmp 30, I p0.Start), ci 0, ci 1000000000] (B x16)), (27, rp [(.tmp 32, B x16)] (B true)), (32, rp [(.tmp 33, B true), (.tmp 37, (Qhp p0))] (I ((p0.Levels.length : Int)))), (34, rp [(.tmp 33, B true), fu 56, (.tmp 35, I p0.First), ci 0, (.tmp 39, (I (w64 ((p0.Levels.length : Int) - 1))))] (B x19)), (36, rp [(.tmp 41, B x19)] (B true)), (39, rp [(.tmp 42, B true), (.tmp 44, (Q5m p0))] (I ((p0.Hours.length : Int)))), (40, rp [(.tmp 42, B true), fu 56, (.tmp 45, (I ((p0.Hours.length : Int)))), ci 1, ci 100] (B x22)), (42, rp [(.tmp 47, B x22)] (B true)), (45, rp [(.tmp 48, B true), fu 92, (.tmp 50, (Q5m p0)), fu 93] (B x25))] ⟨alm (c := Qal) (l := p0.Levels) (aln rfl Tryz.underlying73 rfl), apc (first := []) (cap := []) (vs := [(I ((p0.Levels.length : Int))), I 2, I 12]) rfl Qbs (Qad N (p0.Levels.length : Int) 2 12 _ hf1) rfl rfl (nlc nll (nlc nll (nlc nll nl0))) nll rfl, asb hb3 (amv rfl), ag_ (aid rfl Tryz.underlying73 ti3 rfl rfl hi6 (mgt Qal hj7) rfl), asb hb8 (amv rfl), ag_ (Qah (first := []) (cap := []) (vs := [(Qhp p0), Qox]) (σr := [(.own 1 [[(I ((-1)))]])]) (σr' := [(.own 1 [[I x10.2]])]) (res' := (B x10.1)) [1] rfl Qld (Qef N p0.Levels (-1) _ hf9) rfl (Qbc (rnc (.plain _ (nld Qab _)) (rnc (Qas rn0 (rnc (Qa2 rfl) rn0)) rn0))) (slc (Qae (rnc (.plain _ nll) rn0)) Qag) (slc (Qae (rnc (.plain _ nll) rn0)) Qag) (.plain _ nll) rfl rfl rfl), asb hb11 (amv rfl), ag_ (apc (first := []) (cap := []) (vs := [I p0.Ramp, I 1, I 12]) rfl Qbs (Qad N p0.Ramp 1 12 _ hf12) rfl rfl (nlc nll (nlc nll (nlc nll nl0))) nll rfl), asb hb14 (amv rfl), ag_ (apc (first := []) (cap := []) (vs := [I p0.Start, I 0, I 1000000000]) rfl Qbs (Qad N p0.Start 0 1000000000 _ hf15) rfl rfl (nlc nll (nlc nll (nlc nll nl0))) nll rfl), asb hb17 (amv rfl), ag_ (alm (c := Qal) (l := p0.Levels) (aln rfl Tryz.underlying73 rfl)), ag_ (apc (first := []) (cap := []) (vs := [I p0.First, I 0, (I (w64 ((p0.Levels.length : Int) - 1)))]) rfl Qbs (Qad N p0.First 0 (w64 ((p0.Levels.length : Int) - 1)) _ hf18) rfl rfl (nlc nll (nlc nll (nlc nll nl0))) nll rfl), asb hb20 (amv rfl), ag_ (alm (c := Qey) (l := p0.Hours) (aln rfl Tryz.underlying82 rfl)), ag_ (apc (first := []) (cap := []) (vs := [(I ((p0.Hours.length : Int))), I 1, I 100]) rfl Qbs (Qad N (p0.Hours.length : Int) 1 100 _ hf21) rfl rfl (nlc nll (nlc nll (nlc nll nl0))) nll rfl), asb hb23 (amv rfl), ag_ (Qah (first := []) (cap := []) (vs := [(Q5m p0), (.fn (.func 93) [] [])]) (σr := []) (σr' := []) (res' := (B x25)) [] rfl Zbl (Qkc N p0.Hours _ hf24) rfl (Qbc (rnc (.plain _ (nld Qbv _)) (rnc (.plain _ (NLt.fn _ _ _ nl0 nl0)) rn0))) Qag Qag (.plain _ nll) rfl rfl rfl), trivial⟩ ?_
         refine Qaa ?_
         obtain rfl := osi h
         exact fend ⟨[B x25], ⟨rot (by kernel_rfl), trivial⟩, rfl⟩ nll
        ·replace h := Qau hb23 h
         refine wx tbk [(2, rp [(.tmp 7, (Qhp p0))] (I ((p0.Levels.length : Int)))), (3, rp [fu 56, (.tmp 8, (I ((p0.Levels.length : Int)))), ci 2, ci 12] (B x2)), (4, rp [(.tmp 9, B x2)] (B true)), (7, rp [(.tmp 10, B true), (.tmp 12, (Qhp p0)), ci 0] (.dptr (Qal (x4)) 0)), (11, rp [(.tmp 16, (B ((x4 == 0))))] (B true)), (15, ⟨[(.tmp 17, B true), fu 83, (.tmp 19, (Qhp p0)), (.tmp 20, Qox)], [(1, (.own 1 [[(I ((-1)))]]))], B x10.1, [(1, .own 1 [[I x10.2]])], false⟩), (17, rp [(.tmp 22, B x10.1)] (B true)), (20, rp [(.tmp 23, B true), fu 56, (.tmp 25, I p0.Ramp), ci 1, ci 12] (B x13)), (22, rp [(.tmp 27, B x13)] (B true)), (25, rp [(.tmp 28, B true), fu 56, (.tmp 30, I p0.Start), ci 0, ci 1000000000] (B x16)), (27, rp [(.tmp 32, B x16)] (B true)), (32, rp [(.tmp 33, B true), (.tmp 37, (Qhp p0))] (I ((p0.Levels.length : Int)))), (34, rp [(.tmp 33, B true), fu 56, (.tmp 35, I p0.First), ci 0, (.tmp 39, (I (w64 ((p0.Levels.length : Int) - 1))))] (B x19)), (36, rp [(.tmp 41, B x19)] (B true)), (39, rp [(.tmp 42, B true), (.tmp 44, (Q5m p0))] (I ((p0.Hours.length : Int)))), (40, rp [(.tmp 42, B true), fu 56, (.tmp 45, (I ((p0.Hours.length : Int)))), ci 1, ci 100] (B x22)), (42, rp [(.tmp 47, B x22)] (B false))] ⟨alm (c := Qal) (l := p0.Levels) (aln rfl Tryz.underlying73 rfl), apc (first := []) (cap := []) (vs := [(I ((p0.Levels.length : Int))), I 2, I 12]) rfl Qbs (Qad N (p0.Levels.length : Int) 2 12 _ hf1) rfl rfl (nlc nll (nlc nll (nlc nll nl0))) nll rfl, asb hb3 (amv rfl), ag_ (aid rfl Tryz.underlying73 ti3 rfl rfl hi6 (mgt Qal hj7) rfl), asb hb8 (amv rfl), ag_ (Qah (first := []) (cap := []) (vs := [(Qhp p0), Qox]) (σr := [(.own 1 [[(I ((-1)))]])]) (σr' := [(.own 1 [[I x10.2]])]) (res' := (B x10.1)) [1] rfl Qld (Qef N p0.Levels (-1) _ hf9) rfl (Qbc (rnc (.plain _ (nld Qab _)) (rnc (Qas rn0 (rnc (Qa2 rfl) rn0)) rn0))) (slc (Qae (rnc (.plain _ nll) rn0)) Qag) (slc (Qae (rnc (.plain _ nll) rn0)) Qag) (.plain _ nll) rfl rfl rfl), asb hb11 (amv rfl), ag_ (apc (first := []) (cap := []) (vs := [I p0.Ramp, I 1, I 12]) rfl Qbs (Qad N p0.Ramp 1 12 _ hf12) rfl rfl (nlc nll (nlc nll (nlc nll nl0))) nll rfl), asb hb14 (amv rfl), ag_ (apc (first := []) (cap := []) (vs := [I p0.Start, I 0, I 1000000000]) rfl Qbs (Qad N p0.Start 0 1000000000 _ hf15) rfl rfl (nlc nll (nlc nll (nlc nll nl0))) nll rfl), asb hb17 (amv rfl), ag_ (alm (c := Qal) (l := p0.Levels) (aln rfl Tryz.underlying73 rfl)), ag_ (apc (first := []) (cap := []) (vs := [I p0.First, I 0, (I (w64 ((p0.Levels.length : Int) - 1)))]) rfl Qbs (Qad N p0.First 0 (w64 ((p0.Levels.length : Int) - 1)) _ hf18) rfl rfl (nlc nll (nlc nll (nlc nll nl0))) nll rfl), asb hb20 (amv rfl), ag_ (alm (c := Qey) (l := p0.Hours) (aln rfl Tryz.underlying82 rfl)), ag_ (apc (first := []) (cap := []) (vs := [(I ((p0.Hours.length : Int))), I 1, I 100]) rfl Qbs (Qad N (p0.Hours.length : Int) 1 100 _ hf21) rfl rfl (nlc nll (nlc nll (nlc nll nl0))) nll rfl), asb hb23 (amv rfl), trivial⟩ ?_
         refine Qaa ?_
         obtain rfl := osi h
         exact fend ⟨[B false], ⟨rot (by kernel_rfl), trivial⟩, rfl⟩ nll
       ·replace h := Qau hb20 h
        refine wx tbk [(2, rp [(.tmp 7, (Qhp p0))] (I ((p0.Levels.length : Int)))), (3, rp [fu 56, (.tmp 8, (I ((p0.Levels.length : Int)))), ci 2, ci 12] (B x2)), (4, rp [(.tmp 9, B x2)] (B true)), (7, rp [(.tmp 10, B true), (.tmp 12, (Qhp p0)), ci 0] (.dptr (Qal (x4)) 0)), (11, rp [(.tmp 16, (B ((x4 == 0))))] (B true)), (15, ⟨[(.tmp 17, B true), fu 83, (.tmp 19, (Qhp p0)), (.tmp 20, Qox)], [(1, (.own 1 [[(I ((-1)))]]))], B x10.1, [(1, .own 1 [[I x10.2]])], false⟩), (17, rp [(.tmp 22, B x10.1)] (B true)), (20, rp [(.tmp 23, B true), fu 56, (.tmp 25, I p0.Ramp), ci 1, ci 12] (B x13)), (22, rp [(.tmp 27, B x13)] (B true)), (25, rp [(.tmp 28, B true), fu 56, (.tmp 30, I p0.Start), ci 0, ci 1000000000] (B x16)), (27, rp [(.tmp 32, B x16)] (B true)), (32, rp [(.tmp 33, B true), (.tmp 37, (Qhp p0))] (I ((p0.Levels.length : Int)))), (34, rp [(.tmp 33, B true), fu 56, (.tmp 35, I p0.First), ci 0, (.tmp 39, (I (w64 ((p0.Levels.length : Int) - 1))))] (B x19)), (36, rp [(.tmp 41, B x19)] (B false))] ⟨alm (c := Qal) (l := p0.Levels) (aln rfl Tryz.underlying73 rfl), apc (first := []) (cap := []) (vs := [(I ((p0.Levels.length : Int))), I 2, I 12]) rfl Qbs (Qad N (p0.Levels.length : Int) 2 12 _ hf1) rfl rfl (nlc nll (nlc nll (nlc nll nl0))) nll rfl, asb hb3 (amv rfl), ag_ (aid rfl Tryz.underlying73 ti3 rfl rfl hi6 (mgt Qal hj7) rfl), asb hb8 (amv rfl), ag_ (Qah (first := []) (cap := []) (vs := [(Qhp p0), Qox]) (σr := [(.own 1 [[(I ((-1)))]])]) (σr' := [(.own 1 [[I x10.2]])]) (res' := (B x10.1)) [1] rfl Qld (Qef N p0.Levels (-1) _ hf9) rfl (Qbc (rnc (.plain _ (nld Qab _)) (rnc (Qas rn0 (rnc (Qa2 rfl) rn0)) rn0))) (slc (Qae (rnc (.plain _ nll) rn0)) Qag) (slc (Qae (rnc (.plain _ nll) rn0)) Qag) (.plain _ nll) rfl rfl rfl), asb hb11 (amv rfl), ag_ (apc (first := []) (cap := []) (vs := [I p0.Ramp, I 1, I 12]) rfl Qbs (Qad N p0.Ramp 1 12 _ hf12) rfl rfl (nlc nll (nlc nll (nlc nll nl0))) nll rfl), asb hb14 (amv rfl), ag_ (apc (first := []) (cap := []) (vs := [I p0.Start, I 0, I 1000000000]) rfl Qbs (Qad N p0.Start 0 1000000000 _ hf15) rfl rfl (nlc nll (nlc nll (nlc nll nl0))) nll rfl), asb hb17 (amv rfl), ag_ (alm (c := Qal) (l := p0.Levels) (aln rfl Tryz.underlying73 rfl)), ag_ (apc (first := []) (cap := []) (vs := [I p0.First, I 0, (I (w64 ((p0.Levels.length : Int) - 1)))]) rfl Qbs (Qad N p0.First 0 (w64 ((p0.Levels.length : Int) - 1)) _ hf18) rfl rfl (nlc nll (nlc nll (nlc nll nl0))) nll rfl), asb hb20 (amv rfl), trivial⟩ ?_
        refine Qaa ?_
        obtain rfl := osi h
        exact fend ⟨[B false], ⟨rot (by kernel_rfl), trivial⟩, rfl⟩ nll
      ·replace h := Qau hb17 h
       refine wx tbk [(2, rp [(.tmp 7, (Qhp p0))] (I ((p0.Levels.length : Int)))), (3, rp [fu 56, (.tmp 8, (I ((p0.Levels.length : Int)))), ci 2, ci 12] (B x2)), (4, rp [(.tmp 9, B x2)] (B true)), (7, rp [(.tmp 10, B true), (.tmp 12, (Qhp p0)), ci 0] (.dptr (Qal (x4)) 0)), (11, rp [(.tmp 16, (B ((x4 == 0))))] (B true)), (15, ⟨[(.tmp 17, B true), fu 83, (.tmp 19, (Qhp p0)), (.tmp 20, Qox)], [(1, (.own 1 [[(I ((-1)))]]))], B x10.1, [(1, .own 1 [[I x10.2]])], false⟩), (17, rp [(.tmp 22, B x10.1)] (B true)), (20, rp [(.tmp 23, B true), fu 56, (.tmp 25, I p0.Ramp), ci 1, ci 12] (B x13)), (22, rp [(.tmp 27, B x13)] (B true)), (25, rp [(.tmp 28, B true), fu 56, (.tmp 30, I p0.Start), ci 0, ci 1000000000] (B x16)), (27, rp [(.tmp 32, B x16)] (B false))] ⟨alm (c := Qal) (l := p0.Levels) (aln rfl Tryz.underlying73 rfl), apc (first := []) (cap := []) (vs := [(I ((p0.Levels.length : Int))), I 2, I 12]) rfl Qbs (Qad N (p0.Levels.length : Int) 2 12 _ hf1) rfl rfl (nlc nll (nlc nll (nlc nll nl0))) nll rfl, asb hb3 (amv rfl), ag_ (aid rfl Tryz.underlying73 ti3 rfl rfl hi6 (mgt Qal hj7) rfl), asb hb8 (amv rfl), ag_ (Qah (first := []) (cap := []) (vs := [(Qhp p0), Qox]) (σr := [(.own 1 [[(I ((-1)))]])]) (σr' := [(.own 1 [[I x10.2]])]) (res' := (B x10.1)) [1] rfl Qld (Qef N p0.Levels (-1) _ hf9) rfl (Qbc (rnc (.plain _ (nld Qab _)) (rnc (Qas rn0 (rnc (Qa2 rfl) rn0)) rn0))) (slc (Qae (rnc (.plain _ nll) rn0)) Qag) (slc (Qae (rnc (.plain _ nll) rn0)) Qag) (.plain _ nll) rfl rfl rfl), asb hb11 (amv rfl), ag_ (apc (first := []) (cap := []) (vs := [I p0.Ramp, I 1, I 12]) rfl Qbs (Qad N p0.Ramp 1 12 _ hf12) rfl rfl (nlc nll (nlc nll (nlc nll nl0))) nll rfl), asb hb14 (amv rfl), ag_ (apc (first := []) (cap := []) (vs := [I p0.Start, I 0, I 1000000000]) rfl Qbs (Qad N p0.Start 0 1000000000 _ hf15) rfl rfl (nlc nll (nlc nll (nlc nll nl0))) nll rfl), asb hb17 (amv rfl), trivial⟩ ?_
       refine Qaa ?_
       obtain rfl := osi h
       exact fend ⟨[B false], ⟨rot (by kernel_rfl), trivial⟩, rfl⟩ nll
     ·replace h := Qau hb14 h
      refine wx tbk [(2, rp [(.tmp 7, (Qhp p0))] (I ((p0.Levels.length : Int)))), (3, rp [fu 56, (.tmp 8, (I ((p0.Levels.length : Int)))), ci 2, ci 12] (B x2)), (4, rp [(.tmp 9, B x2)] (B true)), (7, rp [(.tmp 10, B true), (.tmp 12, (Qhp p0)), ci 0] (.dptr (Qal (x4)) 0)), (11, rp [(.tmp 16, (B ((x4 == 0))))] (B true)), (15, ⟨[(.tmp 17, B true), fu 83, (.tmp 19, (Qhp p0)), (.tmp 20, Qox)], [(1, (.own 1 [[(I ((-1)))]]))], B x10.1, [(1, .own 1 [[I x10.2]])], false⟩), (17, rp [(.tmp 22, B x10.1)] (B true)), (20, rp [(.tmp 23, B true), fu 56, (.tmp 25, I p0.Ramp), ci 1, ci 12] (B x13)), (22, rp [(.tmp 27, B x13)] (B false))] ⟨alm (c := Qal) (l := p0.Levels) (aln rfl Tryz.underlying73 rfl), apc (first := []) (cap := []) (vs := [(I ((p0.Levels.length : Int))), I 2, I 12]) rfl Qbs (Qad N (p0.Levels.length : Int) 2 12 _ hf1) rfl rfl (nlc nll (nlc nll (nlc nll nl0))) nll rfl, asb hb3 (amv rfl), ag_ (aid rfl Tryz.underlying73 ti3 rfl rfl hi6 (mgt Qal hj7) rfl), asb hb8 (amv rfl), ag_ (Qah (first := []) (cap := []) (vs := [(Qhp p0), Qox]) (σr := [(.own 1 [[(I ((-1)))]])]) (σr' := [(.own 1 [[I x10.2]])]) (res' := (B x10.1)) [1] rfl Qld (Qef N p0.Levels (-1) _ hf9) rfl (Qbc (rnc (.plain _ (nld Qab _)) (rnc (Qas rn0 (rnc (Qa2 rfl) rn0)) rn0))) (slc (Qae (rnc (.plain _ nll) rn0)) Qag) (slc (Qae (rnc (.plain _ nll) rn0)) Qag) (.plain _ nll) rfl rfl rfl), asb hb11 (amv rfl), ag_ (apc (first := []) (cap := []) (vs := [I p0.Ramp, I 1, I 12]) rfl Qbs (Qad N p0.Ramp 1 12 _ hf12) rfl rfl (nlc nll (nlc nll (nlc nll nl0))) nll rfl), asb hb14 (amv rfl), trivial⟩ ?_
      refine Qaa ?_
      obtain rfl := osi h
      exact fend ⟨[B false], ⟨rot (by kernel_rfl), trivial⟩, rfl⟩ nll
    ·replace h := Qau hb11 h
     refine wx tbk [(2, rp [(.tmp 7, (Qhp p0))] (I ((p0.Levels.length : Int)))), (3, rp [fu 56, (.tmp 8, (I ((p0.Levels.length : Int)))), ci 2, ci 12] (B x2)), (4, rp [(.tmp 9, B x2)] (B true)), (7, rp [(.tmp 10, B true), (.tmp 12, (Qhp p0)), ci 0] (.dptr (Qal (x4)) 0)), (11, rp [(.tmp 16, (B ((x4 == 0))))] (B true)), (15, ⟨[(.tmp 17, B true), fu 83, (.tmp 19, (Qhp p0)), (.tmp 20, Qox)], [(1, (.own 1 [[(I ((-1)))]]))], B x10.1, [(1, .own 1 [[I x10.2]])], false⟩), (17, rp [(.tmp 22, B x10.1)] (B false))] ⟨alm (c := Qal) (l := p0.Levels) (aln rfl Tryz.underlying73 rfl), apc (first := []) (cap := []) (vs := [(I ((p0.Levels.length : Int))), I 2, I 12]) rfl Qbs (Qad N (p0.Levels.length : Int) 2 12 _ hf1) rfl rfl (nlc nll (nlc nll (nlc nll nl0))) nll rfl, asb hb3 (amv rfl), ag_ (aid rfl Tryz.underlying73 ti3 rfl rfl hi6 (mgt Qal hj7) rfl), asb hb8 (amv rfl), ag_ (Qah (first := []) (cap := []) (vs := [(Qhp p0), Qox]) (σr := [(.own 1 [[(I ((-1)))]])]) (σr' := [(.own 1 [[I x10.2]])]) (res' := (B x10.1)) [1] rfl Qld (Qef N p0.Levels (-1) _ hf9) rfl (Qbc (rnc (.plain _ (nld Qab _)) (rnc (Qas rn0 (rnc (Qa2 rfl) rn0)) rn0))) (slc (Qae (rnc (.plain _ nll) rn0)) Qag) (slc (Qae (rnc (.plain _ nll) rn0)) Qag) (.plain _ nll) rfl rfl rfl), asb hb11 (amv rfl), trivial⟩ ?_
     refine Qaa ?_
     obtain rfl := osi h
     exact fend ⟨[B false], ⟨rot (by kernel_rfl), trivial⟩, rfl⟩ nll
   ·replace h := Qau hb8 h
    refine wx tbk [(2, rp [(.tmp 7, (Qhp p0))] (I ((p0.Levels.length : Int)))), (3, rp [fu 56, (.tmp 8, (I ((p0.Levels.length : Int)))), ci 2, ci 12] (B x2)), (4, rp [(.tmp 9, B x2)] (B true)), (7, rp [(.tmp 10, B true), (.tmp 12, (Qhp p0)), ci 0] (.dptr (Qal (x4)) 0)), (11, rp [(.tmp 16, (B ((x4 == 0))))] (B false))] ⟨alm (c := Qal) (l := p0.Levels) (aln rfl Tryz.underlying73 rfl), apc (first := []) (cap := []) (vs := [(I ((p0.Levels.length : Int))), I 2, I 12]) rfl Qbs (Qad N (p0.Levels.length : Int) 2 12 _ hf1) rfl rfl (nlc nll (nlc nll (nlc nll nl0))) nll rfl, asb hb3 (amv rfl), ag_ (aid rfl Tryz.underlying73 ti3 rfl rfl hi6 (mgt Qal hj7) rfl), asb hb8 (amv rfl), trivial⟩ ?_
    refine Qaa ?_
    obtain rfl := osi h
    exact fend ⟨[B false], ⟨rot (by kernel_rfl), trivial⟩, rfl⟩ nll
  ·replace h := Qau hb3 h
   refine wx tbk [(2, rp [(.tmp 7, (Qhp p0))] (I ((p0.Levels.length : Int)))), (3, rp [fu 56, (.tmp 8, (I ((p0.Levels.length : Int)))), ci 2, ci 12] (B x2)), (4, rp [(.tmp 9, B x2)] (B false))] ⟨alm (c := Qal) (l := p0.Levels) (aln rfl Tryz.underlying73 rfl), apc (first := []) (cap := []) (vs := [(I ((p0.Levels.length : Int))), I 2, I 12]) rfl Qbs (Qad N (p0.Levels.length : Int) 2 12 _ hf1) rfl rfl (nlc nll (nlc nll (nlc nll nl0))) nll rfl, asb hb3 (amv rfl), trivial⟩ ?_
   refine Qaa ?_
   obtain rfl := osi h
   exact fend ⟨[B false], ⟨rot (by kernel_rfl), trivial⟩, rfl⟩ nll
def Qh9 (N : Nat) (p0 : GJob) (p1 : Int) (p2 : Int) (p3 : Int) : Option (Int × Bool) :=
  (getI p0.Hours p1).bind fun x1 =>
  Qc5 (fun _ =>
    (getI p0.Levels p3).bind fun x6 =>
    bif (p2 == 0) then
     bif (decide (p3 > 0)) then
      (some (w64 ((w64 (x1.Price * x6)) - p0.Start))).bind fun x12 =>
      some (x12, true)
     else
      some (w64 (x1.Price * x6), true)
    else
     some (w64 (x1.Price * x6), true)) fun k5 : Unit → Option (Int × Bool) =>
  (Qbb N p3 0 (w64 ((p0.Levels.length : Int) - 1))).bind fun x15 =>
  bif (!x15) then
   some (0, false)
  else
   (Qbb N (w64 (p3 - p2)) (w64 (0 - p0.Ramp)) p0.Ramp).bind fun x18 =>
   bif (!x18) then
    some (0, false)
   else
    (getI p0.Levels p3).bind fun x20 =>
    bif (decide (x20 > x1.Most)) then
     some (0, false)
    else
     k5 ()
def Zdl (p0 : GJob) : AV := .dat 2 ((p0.Hours : List GHour).map Qey)
def Qz6 (p0 : GJob) : AV := .dat 1 ((p0.Levels : List Int).map Qal)
def Zdk (p0 : GJob) : Slot := .own 5 [[(Qz6 p0), (I (p0.Ramp)), (I (p0.Start)), (I (p0.First)), (Zdl p0)]]
theorem Qkd (N : Nat) (p0 : GJob) (p1 : Int) (p2 : Int) (p3 : Int) (r : (Int × Bool)) (h : Qh9 N p0 p1 p2 p3 = some r) : Spec Tryz.prog 64 [(.agg (Qvy p0)), (I p1), (I p2), (I p3)] [] (.tup [(I r.1), (B r.2)]) [] := by
  refine Qac Tryz.func64 rfl 0 (nle rfl) (fun X φ0 w0 hφ0 hd0 => ?_)
  unfold Qh9 at h
  refine wx tbk [] trivial ?_
  obtain ⟨x1, hg2, h⟩ := bno h
  obtain ⟨hi3, hj4⟩ := gsm hg2
  refine wx tbk [(3, rp [(.tmp 13, (Zdl p0)), (.tmp 14, I p1)] (.dptr (Qey (x1)) 0))] ⟨aid rfl Tryz.underlying82 Q58 rfl rfl hi3 (mgt Qey hj4) rfl, trivial⟩ ?_
  obtain ⟨k5, hk_k5, h⟩ := jko h
  refine wjn (τ := Unit) (fun t => k5 t = some r) (fun _ => ⟨mk 65 [(2, I p2), (3, I p3), (4, .ref 0 5 0 0), (10, .ref 1 2 0 0)], [(Zdk p0), (.own 2 [[I x1.Price, I x1.Most]])]⟩) (fun t h => ?_) ?_
  ·subst hk_k5
   obtain ⟨x6, hg7, h⟩ := bno h
   obtain ⟨hi8, hj9⟩ := gsm hg7
   refine wxd tbk [(5, rp [(.tmp 49, (Qz6 p0)), (.tmp 50, I p3)] (.dptr (Qal (x6)) 0))] ⟨aid rfl Tryz.underlying73 ti3 rfl rfl hi8 (mgt Qal hj9) rfl, trivial⟩ ?_
   refine wsq ?_
   rcases bft ((p2 == 0)) with hb10 | hb10
   ·replace h := Qat hb10 h
    refine wx tbk [(2, rp [(.tmp 55, (B ((p2 == 0))))] (B true))] ⟨asb hb10 (amv rfl), trivial⟩ ?_
    rcases bft ((decide (p3 > 0))) with hc11 | hc11
    ·replace h := Qat hc11 h
     refine wft hc11 (by kernel_rfl) ?_
     obtain ⟨x12, hl13, h⟩ := bno h
     refine wx1 tbk [(4, rp [(.tmp 63, (I (w64 ((w64 (x1.Price * x6)) - p0.Start))))] (I x12))] ⟨Qd8 hl13 (aas rfl), trivial⟩ ?_
     refine thn ?_
     refine wx tbk [] trivial ?_
     refine Qaa ?_
     obtain rfl := osi h
     exact fend ⟨[I x12, B true], ⟨rot (by kernel_rfl), rot (by kernel_rfl), trivial⟩, rfl⟩ (NLt.tup _ (nlc nll (nlc nll nl0)))
    ·replace h := Qau hc11 h
     refine wfn hc11 (by kernel_rfl) ?_
     refine Qam ?_
     refine thn ?_
     refine wx tbk [] trivial ?_
     refine Qaa ?_
     obtain rfl := osi h
     exact fend ⟨[(I (w64 (x1.Price * x6))), B true], ⟨rot (by kernel_rfl), rot (by kernel_rfl), trivial⟩, rfl⟩ (NLt.tup _ (nlc nll (nlc nll nl0)))
   ·replace h := Qau hb10 h
    refine wx tbk [(2, rp [(.tmp 55, (B ((p2 == 0))))] (B false))] ⟨asb hb10 (amv rfl), trivial⟩ ?_
    refine Qfa (by kernel_rfl) ?_
    refine Qam ?_
    refine thn ?_
    refine wx tbk [] trivial ?_
    refine Qaa ?_
    obtain rfl := osi h
    exact fend ⟨[(I (w64 (x1.Price * x6))), B true], ⟨rot (by kernel_rfl), rot (by kernel_rfl), trivial⟩, rfl⟩ (NLt.tup _ (nlc nll (nlc nll nl0)))
  ·skip
   obtain ⟨x15, hf14, h⟩ := bno h
   rcases bft ((!x15)) with hb16 | hb16
   ·replace h := Qat hb16 h
    refine wxd tbk [(3, rp [(.tmp 19, (Qz6 p0))] (I ((p0.Levels.length : Int)))), (5, rp [fu 56, (.tmp 17, I p3), ci 0, (.tmp 21, (I (w64 ((p0.Levels.length : Int) - 1))))] (B x15)), (7, rp [(.tmp 23, (B ((!x15))))] (B true))] ⟨alm (c := Qal) (l := p0.Levels) (aln rfl Tryz.underlying73 rfl), apc (first := []) (cap := []) (vs := [I p3, I 0, (I (w64 ((p0.Levels.length : Int) - 1)))]) rfl Qbs (Qad N p3 0 (w64 ((p0.Levels.length : Int) - 1)) _ hf14) rfl rfl (nlc nll (nlc nll (nlc nll nl0))) nll rfl, asb hb16 (amv rfl), trivial⟩ ?_
    refine Qcy (by kernel_rfl) ?_
    refine wx tbk [] trivial ?_
    refine Qaa ?_
    refine Qan ?_
    obtain rfl := osi h
    exact fend ⟨[I 0, B false], ⟨rot (by kernel_rfl), rot (by kernel_rfl), trivial⟩, rfl⟩ (NLt.tup _ (nlc nll (nlc nll nl0)))
   ·replace h := Qau hb16 h
    obtain ⟨x18, hf17, h⟩ := bno h
    rcases bft ((!x18)) with hb19 | hb19
    ·replace h := Qat hb19 h
     refine wxd tbk [(3, rp [(.tmp 19, (Qz6 p0))] (I ((p0.Levels.length : Int)))), (5, rp [fu 56, (.tmp 17, I p3), ci 0, (.tmp 21, (I (w64 ((p0.Levels.length : Int) - 1))))] (B x15)), (7, rp [(.tmp 23, (B ((!x15))))] (B false)), (16, rp [(.tmp 24, B false), fu 56, (.tmp 27, (I (w64 (p3 - p2)))), (.tmp 30, (I (w64 (0 - p0.Ramp)))), (.tmp 32, I p0.Ramp)] (B x18)), (19, rp [(.tmp 35, (B ((!x18))))] (B true))] ⟨alm (c := Qal) (l := p0.Levels) (aln rfl Tryz.underlying73 rfl), apc (first := []) (cap := []) (vs := [I p3, I 0, (I (w64 ((p0.Levels.length : Int) - 1)))]) rfl Qbs (Qad N p3 0 (w64 ((p0.Levels.length : Int) - 1)) _ hf14) rfl rfl (nlc nll (nlc nll (nlc nll nl0))) nll rfl, asb hb16 (amv rfl), ag_ (apc (first := []) (cap := []) (vs := [(I (w64 (p3 - p2))), (I (w64 (0 - p0.Ramp))), I p0.Ramp]) rfl Qbs (Qad N (w64 (p3 - p2)) (w64 (0 - p0.Ramp)) p0.Ramp _ hf17) rfl rfl (nlc nll (nlc nll (nlc nll nl0))) nll rfl), asb hb19 (amv rfl), trivial⟩ ?_
     refine Qcy (by kernel_rfl) ?_
     refine wx tbk [] trivial ?_
     refine Qaa ?_
     refine Qan ?_
     obtain rfl := osi h
     exact fend ⟨[I 0, B false], ⟨rot (by kernel_rfl), rot (by kernel_rfl), trivial⟩, rfl⟩ (NLt.tup _ (nlc nll (nlc nll nl0)))
    ·replace h := Qau hb19 h
     obtain ⟨x20, hg21, h⟩ := bno h
     obtain ⟨hi22, hj23⟩ := gsm hg21
     refine wxd tbk [(3, rp [(.tmp 19, (Qz6 p0))] (I ((p0.Levels.length : Int)))), (5, rp [fu 56, (.tmp 17, I p3), ci 0, (.tmp 21, (I (w64 ((p0.Levels.length : Int) - 1))))] (B x15)), (7, rp [(.tmp 23, (B ((!x15))))] (B false)), (16, rp [(.tmp 24, B false), fu 56, (.tmp 27, (I (w64 (p3 - p2)))), (.tmp 30, (I (w64 (0 - p0.Ramp)))), (.tmp 32, I p0.Ramp)] (B x18)), (19, rp [(.tmp 35, (B ((!x18))))] (B false)), (23, rp [(.tmp 36, B false), (.tmp 38, (Qz6 p0)), (.tmp 39, I p3)] (.dptr (Qal (x20)) 0))] ⟨alm (c := Qal) (l := p0.Levels) (aln rfl Tryz.underlying73 rfl), apc (first := []) (cap := []) (vs := [I p3, I 0, (I (w64 ((p0.Levels.length : Int) - 1)))]) rfl Qbs (Qad N p3 0 (w64 ((p0.Levels.length : Int) - 1)) _ hf14) rfl rfl (nlc nll (nlc nll (nlc nll nl0))) nll rfl, asb hb16 (amv rfl), ag_ (apc (first := []) (cap := []) (vs := [(I (w64 (p3 - p2))), (I (w64 (0 - p0.Ramp))), I p0.Ramp]) rfl Qbs (Qad N (w64 (p3 - p2)) (w64 (0 - p0.Ramp)) p0.Ramp _ hf17) rfl rfl (nlc nll (nlc nll (nlc nll nl0))) nll rfl), asb hb19 (amv rfl), ag_ (aid rfl Tryz.underlying73 ti3 rfl rfl hi22 (mgt Qal hj23) rfl), trivial⟩ ?_
     rcases bft ((decide (x20 > x1.Most))) with hc24 | hc24
     ·replace h := Qat hc24 h
      refine wft hc24 (by kernel_rfl) ?_
      refine wx tbk [] trivial ?_
      refine Qaa ?_
      refine Qan ?_
      obtain rfl := osi h
      exact fend ⟨[I 0, B false], ⟨rot (by kernel_rfl), rot (by kernel_rfl), trivial⟩, rfl⟩ (NLt.tup _ (nlc nll (nlc nll nl0)))
     ·replace h := Qau hc24 h
      refine wfn hc24 (by kernel_rfl) ?_
      refine Qam ?_
      refine thn ?_
      exact ⟨(), h, (mto (n := 65) [(2, I p2), (3, I p3), (4, .ref 0 5 0 0), (10, .ref 1 2 0 0)] [0, 1] [(Zdk p0), (.own 2 [[I x1.Price, I x1.Most]])] hφ0 (pc rwl (pc rwl (pc (.rn (rqr rfl)) (pc (.rn (rqr rfl)) pn)))) (qc (spb (lc (.rn (.plain _ (nld Qab _))) (lc rwl (lc rwl (lc rwl (lc (.rn (.plain _ (nld Qbv _))) ln)))))) (qc (spb (lc rwl (lc rwl ln))) qn)))⟩
def Qcv (N : Nat) (p0 : Int) (p1 : (List Int)) (p2 : Int) (p3 : Int) (p4 : Int) (p5 : (List GHour)) (p6 : Nat) (p7 : Nat) (p8 : (List (Nat × Nat))) (p9 : (List (Nat × Nat))) (p10 : (List (List Int))) (p11 : (List (List Bool))) (y11 : Int) (k21 : (List (List Int)) × (List (List Bool)) → Option ((List (List Int)) × (List (List Bool)))) : Nat → Int → (List (List Int)) → (List (List Bool)) → Option ((List (List Int)) × (List (List Bool)))
  | 0, _, _, _ => none
  | n43 + 1, y37, y38, y39 =>
    bif (decide (y37 < (p1.length : Int))) then
     (Qh9 N (⟨p1, p2, p3, p4, p5⟩ : GJob) p0 y11 y37).bind fun x46 =>
     bif x46.2 then
      chk (decide (0 ≤ p0) && decide (p0.toNat < p6)) <|
      ((p8.set p0.toNat (p10.length, (p1.length : Int).toNat))[p0.toNat]?).bind fun x49 =>
      chk (decide (0 ≤ p0) && decide (p0.toNat < p6)) <|
      ((p8.set p0.toNat (p10.length, (p1.length : Int).toNat))[p0.toNat]?).bind fun x52 =>
      chk (!(y38.getD x52.1 []).isEmpty) <|
      chk (decide (0 ≤ y11) && decide (y11.toNat < x52.2)) <|
      (getM y38 x52.1 y11.toNat).bind fun x56 =>
      chk (decide (0 ≤ w64 (p0 + 1)) && decide ((w64 (p0 + 1)).toNat < p6)) <|
      ((p8.set p0.toNat (p10.length, (p1.length : Int).toNat))[(w64 (p0 + 1)).toNat]?).bind fun x59 =>
      chk (!(y38.getD x59.1 []).isEmpty) <|
      chk (decide (0 ≤ y37) && decide (y37.toNat < x59.2)) <|
      (getM y38 x59.1 y37.toNat).bind fun x63 =>
      (some (if (w64 (x46.1 + x63)) > x56 then w64 (x46.1 + x63) else x56)).bind fun x65 =>
      chk (!(y38.getD x49.1 []).isEmpty) <|
      chk (decide (0 ≤ y11) && decide (y11.toNat < x49.2)) <|
      (getM y38 x49.1 y11.toNat).bind fun _ =>
      chk (decide (0 ≤ p0) && decide (p0.toNat < p7)) <|
      ((p9.set p0.toNat (p11.length, (p1.length : Int).toNat))[p0.toNat]?).bind fun x72 =>
      chk (decide (0 ≤ p0) && decide (p0.toNat < p7)) <|
      ((p9.set p0.toNat (p11.length, (p1.length : Int).toNat))[p0.toNat]?).bind fun x75 =>
      chk (!(y39.getD x75.1 []).isEmpty) <|
      chk (decide (0 ≤ y11) && decide (y11.toNat < x75.2)) <|
      (getM y39 x75.1 y11.toNat).bind fun x79 =>
      bif x79 then
       chk (!(y39.getD x72.1 []).isEmpty) <|
       chk (decide (0 ≤ y11) && decide (y11.toNat < x72.2)) <|
       (getM y39 x72.1 y11.toNat).bind fun _ =>
       Qcv N p0 p1 p2 p3 p4 p5 p6 p7 p8 p9 p10 p11 y11 k21 n43 (w64 (y37 + 1)) (setM y38 x49.1 y11.toNat x65) (setM y39 x72.1 y11.toNat true)
      else
       chk (decide (0 ≤ w64 (p0 + 1)) && decide ((w64 (p0 + 1)).toNat < p7)) <|
       ((p9.set p0.toNat (p11.length, (p1.length : Int).toNat))[(w64 (p0 + 1)).toNat]?).bind fun x87 =>
       chk (!(y39.getD x87.1 []).isEmpty) <|
       chk (decide (0 ≤ y37) && decide (y37.toNat < x87.2)) <|
       (getM y39 x87.1 y37.toNat).bind fun x91 =>
       chk (!(y39.getD x72.1 []).isEmpty) <|
       chk (decide (0 ≤ y11) && decide (y11.toNat < x72.2)) <|
       (getM y39 x72.1 y11.toNat).bind fun _ =>
       Qcv N p0 p1 p2 p3 p4 p5 p6 p7 p8 p9 p10 p11 y11 k21 n43 (w64 (y37 + 1)) (setM y38 x49.1 y11.toNat x65) (setM y39 x72.1 y11.toNat x91)
     else
      Qcv N p0 p1 p2 p3 p4 p5 p6 p7 p8 p9 p10 p11 y11 k21 n43 (w64 (y37 + 1)) y38 y39
    else
     k21 (y38, y39)
def Qds (N : Nat) (p0 : Int) (p1 : (List Int)) (p2 : Int) (p3 : Int) (p4 : Int) (p5 : (List GHour)) (p6 : Nat) (p7 : Nat) (p8 : (List (Nat × Nat))) (p9 : (List (Nat × Nat))) (p10 : (List (List Int))) (p11 : (List (List Bool))) : Nat → Int → (List (List Int)) → (List (List Bool)) → Option ((List (List Int)) × (List (List Bool)))
  | 0, _, _, _ => none
  | n17 + 1, y11, y12, y13 =>
    bif (decide (y11 < (p1.length : Int))) then
     Qc5 (fun ⟨y19, y20⟩ =>
       Qds N p0 p1 p2 p3 p4 p5 p6 p7 p8 p9 p10 p11 n17 (w64 (y11 + 1)) y19 y20) fun k21 : (List (List Int)) × (List (List Bool)) → Option ((List (List Int)) × (List (List Bool))) =>
     bif (p0 == (p5.length : Int)) then
      chk (decide (0 ≤ p0) && decide (p0.toNat < p7)) <|
      ((p9.set p0.toNat (p11.length, (p1.length : Int).toNat))[p0.toNat]?).bind fun x24 =>
      chk (!(y13.getD x24.1 []).isEmpty) <|
      chk (decide (0 ≤ y11) && decide (y11.toNat < x24.2)) <|
      (getM y13 x24.1 y11.toNat).bind fun _ =>
      k21 (y12, setM y13 x24.1 y11.toNat true)
     else
      chk (decide (0 ≤ p0) && decide (p0.toNat < p6)) <|
      ((p8.set p0.toNat (p10.length, (p1.length : Int).toNat))[p0.toNat]?).bind fun x31 =>
      chk (!(y12.getD x31.1 []).isEmpty) <|
      chk (decide (0 ≤ y11) && decide (y11.toNat < x31.2)) <|
      (getM y12 x31.1 y11.toNat).bind fun _ =>
      Qcv N p0 p1 p2 p3 p4 p5 p6 p7 p8 p9 p10 p11 y11 k21 N 0 (setM y12 x31.1 y11.toNat (-1000000000000)) y13
    else
     some (y12, y13)
def Qhm (N : Nat) (p0 : Int) (p1 : (List Int)) (p2 : Int) (p3 : Int) (p4 : Int) (p5 : (List GHour)) (p6 : Nat) (p7 : Nat) (p8 : (List (Nat × Nat))) (p9 : (List (Nat × Nat))) (p10 : (List (List Int))) (p11 : (List (List Bool))) : Option ((List (List Int)) × (List (List Bool))) :=
  chk (decide (0 ≤ (p1.length : Int)) && decide (8 * (p1.length : Int) ≤ 281474976710656) && decide ((p1.length : Int) ≤ 9223372036854775807)) <|
  chk (decide (0 ≤ (p1.length : Int)) && decide (1 * (p1.length : Int) ≤ 281474976710656) && decide ((p1.length : Int) ≤ 9223372036854775807)) <|
  chk (decide (0 ≤ p0) && decide (p0.toNat < p6)) <|
  (p8[p0.toNat]?).bind fun _ =>
  chk (decide (0 ≤ p0) && decide (p0.toNat < p7)) <|
  (p9[p0.toNat]?).bind fun _ =>
  Qds N p0 p1 p2 p3 p4 p5 p6 p7 p8 p9 p10 p11 N 0 (p10 ++ [List.replicate (p1.length : Int).toNat 0]) (p11 ++ [List.replicate (p1.length : Int).toNat false])
def Qwl (p1 : (List Int)) : AV := .dat 1 ((p1 : List Int).map Qal)
def Q5j (p5 : (List GHour)) : AV := .dat 2 ((p5 : List GHour).map Qey)
def Qlp (p1 : (List Int)) (p2 : Int) (p3 : Int) (p4 : Int) (p5 : (List GHour)) : Slot := .own 5 [[(Qwl p1), (I (p2)), (I (p3)), (I (p4)), (Q5j p5)]]
def Qlr (p6 : Nat) : Slot := .own 1 [[(.own 3 1 (0) (p6))]]
def Qlq (p7 : Nat) : Slot := .own 1 [[(.own 4 1 (0) (p7))]]
def Q9b (p8 : (List (Nat × Nat))) : Slot := .own 1 ((p8 : List (Nat × Nat)).map (c_mr 5 1))
def Q1o (p9 : (List (Nat × Nat))) : Slot := .own 1 ((p9 : List (Nat × Nat)).map (c_mr 6 1))
def Qga (p8 : (List (Nat × Nat))) (p0 : Int) (p10 : (List (List Int))) (p1 : (List Int)) : Slot := .own 1 ((p8.set p0.toNat (p10.length, (p1.length : Int).toNat) : List (Nat × Nat)).map (c_mr 5 1))
def Qfd (p9 : (List (Nat × Nat))) (p0 : Int) (p11 : (List (List Bool))) (p1 : (List Int)) : Slot := .own 1 ((p9.set p0.toNat (p11.length, (p1.length : Int).toNat) : List (Nat × Nat)).map (c_mr 6 1))
def Zdm (p11 : (List (List Bool))) (p1 : (List Int)) : Slot := .mat 1 (matA Qge (p11 ++ [List.replicate (p1.length : Int).toNat false] : List (List Bool)))
def Qow (y12 : (List (List Int))) : Slot := .mat 1 (matA Qal (y12 : List (List Int)))
def Qno (y13 : (List (List Bool))) : Slot := .mat 1 (matA Qge (y13 : List (List Bool)))
def Qkw (y38 : (List (List Int))) : Slot := .mat 1 (matA Qal (y38 : List (List Int)))
def Qie (y39 : (List (List Bool))) : Slot := .mat 1 (matA Qge (y39 : List (List Bool)))
theorem Qln (N : Nat) (p0 : Int) (p1 : (List Int)) (p2 : Int) (p3 : Int) (p4 : Int) (p5 : (List GHour)) (p6 : Nat) (p7 : Nat) (p8 : (List (Nat × Nat))) (p9 : (List (Nat × Nat))) (p10 : (List (List Int))) (p11 : (List (List Bool))) (r : ((List (List Int)) × (List (List Bool)))) (h : Qhm N p0 p1 p2 p3 p4 p5 p6 p7 p8 p9 p10 p11 = some r) : Spec Tryz.prog 63 [(I (p0)), (.ref 0 5 (0) 0), (.ref 1 1 (0) 0), (.ref 2 1 (0) 0)] [(Qlp p1 p2 p3 p4 p5), (Qlr p6), (Qlq p7), (Q9b p8), (Q1o p9), (.mat 1 (matA Qal (p10 : List (List Int)))), (.mat 1 (matA Qge (p11 : List (List Bool))))] (.tup []) [(Qlp p1 p2 p3 p4 p5), (Qlr p6), (Qlq p7), (Qga p8 p0 p10 p1), (Qfd p9 p0 p11 p1), (.mat 1 (matA Qal (r.1 : List (List Int)))), (.mat 1 (matA Qge (r.2 : List (List Bool))))] := by
  refine Qac Tryz.func63 rfl 7 (nle rfl) (fun X φ0 w0 hφ0 hd0 => ?_)
  unfold Qhm at h
  refine Qbh ?_
  obtain ⟨hm3, h⟩ := cko h
  obtain ⟨hm4, h⟩ := cko h
  obtain ⟨hi5, h⟩ := cko h
  obtain ⟨hi5a, hi5b⟩ := Qbi hi5
  obtain ⟨x6, hg7, h⟩ := bno h
  obtain ⟨hi8, h⟩ := cko h
  obtain ⟨hi8a, hi8b⟩ := Qbi hi8
  obtain ⟨x9, hg10, h⟩ := bno h
  refine wxd tbk [(6, rp [(.tmp 14, (Qwl p1))] (I ((p1.length : Int)))), (7, ⟨[(.tmp 15, (I ((p1.length : Int)))), (.tmp 15, (I ((p1.length : Int))))], [(7, .unused), (5, (.mat 1 (matA Qal (p10 : List (List Int)))))], (.row 5 p10.length 1 (0) ((p1.length : Int).toNat)), [(7, .dead), (5, (.mat 1 (matA Qal (p10 ++ [List.replicate (p1.length : Int).toNat 0] : List (List Int)))))], false⟩), (10, rp [(.tmp 18, (Qwl p1))] (I ((p1.length : Int)))), (11, ⟨[(.tmp 19, (I ((p1.length : Int)))), (.tmp 19, (I ((p1.length : Int))))], [(8, .unused), (6, (.mat 1 (matA Qge (p11 : List (List Bool)))))], (.row 6 p11.length 1 (0) ((p1.length : Int).toNat)), [(8, .dead), (6, (Zdm p11 p1))], false⟩), (12, rb [(.tmp 9, (.own 3 1 (0) (p6))), (.tmp 10, I p0)] [(3, (Q9b p8))] (.ref 3 1 (p0.toNat) 0)), (13, ⟨[(.tmp 21, (.ref 3 1 (p0.toNat) 0)), (.tmp 16, (.row 5 p10.length 1 (0) ((p1.length : Int).toNat)))], [(3, (Q9b p8))], .any, [(3, (Qga p8 p0 p10 p1))], false⟩), (14, rb [(.tmp 11, (.own 4 1 (0) (p7))), (.tmp 12, I p0)] [(4, (Q1o p9))] (.ref 4 1 (p0.toNat) 0)), (15, ⟨[(.tmp 22, (.ref 4 1 (p0.toNat) 0)), (.tmp 20, (.row 6 p11.length 1 (0) ((p1.length : Int).toNat)))], [(4, (Q1o p9))], .any, [(4, (Qfd p9 p0 p11 p1))], false⟩)] ⟨alm (c := Qal) (l := p1) (aln rfl Tryz.underlying73 rfl), Qou rfl (Qjv rfl Tryz.underlying73 te3 tz3 rfl (Qwd hm3) rfl (Qwc hm3) (Qst hm3) (Qtj Qal rfl)), alm (c := Qal) (l := p1) (aln rfl Tryz.underlying73 rfl), Qou rfl (Qjv rfl Tryz.underlying133 te4 tz4 rfl (Qwd hm4) rfl (Qwc hm4) (Qst hm4) (Qtj Qge rfl)), aio rfl Tryz.underlying79 ti73 (odt hi5a) (odt hi5b) (Nat.zero_add _), ast rfl ti73 (by rfl) (mgt (c_mr 5 1) hg7) (nle rfl) (Qhf (x' := (p10.length, (p1.length : Int).toNat)) (c_mr 5 1) rfl), aio rfl Tryz.underlying132 Qki (odt hi8a) (odt hi8b) (Nat.zero_add _), ast rfl Qki (by rfl) (mgt (c_mr 6 1) hg10) (nle rfl) (Qhf (x' := (p11.length, (p1.length : Int).toNat)) (c_mr 6 1) rfl), trivial⟩ ?_
  refine wx tbk [(2, rp [(.tmp 24, (Qwl p1))] (I ((p1.length : Int))))] ⟨alm (c := Qal) (l := p1) (aln rfl Tryz.underlying73 rfl), trivial⟩ ?_
  refine Qaj ?_
  refine wmr (mto (n := 110) (l' := [(0, I p0), (1, .ref 0 5 0 0), (2, .ref 1 1 0 0), (3, .ref 2 1 0 0), (25, (I ((p1.length : Int)))), (26, I 0)]) (own' := [(Qlp p1 p2 p3 p4 p5), (Qlr p6), (Qlq p7), (Qga p8 p0 p10 p1), (Qfd p9 p0 p11 p1), (.mat 1 (matA Qal ((p10 ++ [List.replicate (p1.length : Int).toNat 0]) : List (List Int)))), (.mat 1 (matA Qge ((p11 ++ [List.replicate (p1.length : Int).toNat false]) : List (List Bool))))]) [(0, I p0), (1, .ref 0 5 0 0), (2, .ref 1 1 0 0), (3, .ref 2 1 0 0), (25, (I ((p1.length : Int)))), (26, I 0)] [0, 1, 2, 3, 4, 5, 6] [(Qlp p1 p2 p3 p4 p5), (Qlr p6), (Qlq p7), (Qga p8 p0 p10 p1), (Qfd p9 p0 p11 p1), (.mat 1 (matA Qal (p10 ++ [List.replicate (p1.length : Int).toNat 0] : List (List Int)))), (Zdm p11 p1)] hφ0 (pc rwl (pc (.rn (rqr rfl)) (pc (.rn (rqr rfl)) (pc (.rn (rqr rfl)) (pc rwl (pc rwl pn)))))) (qc (spb (lc (.rn (.plain _ (nld Qab _))) (lc rwl (lc rwl (lc rwl (lc (.rn (.plain _ (nld Qbv _))) ln)))))) (qc (spb (lc (.rn (Qak rfl)) ln)) (qc (spb (lc (.rn (Qak rfl)) ln)) (qc (Qbz rfl) (qc (Qbz rfl) (qc (Qcm Qab) (qc (Qcm Qdi) qn)))))))) ?_
  refine Qcl (τ := Int × (List (List Int)) × (List (List Bool))) (fun n t => Qds N p0 p1 p2 p3 p4 p5 p6 p7 p8 p9 p10 p11 n t.1 t.2.1 t.2.2 = some r) (fun ⟨y11, y12, y13⟩ => ⟨mk 110 [(0, I p0), (1, .ref 0 5 0 0), (2, .ref 1 1 0 0), (3, .ref 2 1 0 0), (25, (I ((p1.length : Int)))), (26, I y11)], [(Qlp p1 p2 p3 p4 p5), (Qlr p6), (Qlq p7), (Qga p8 p0 p10 p1), (Qfd p9 p0 p11 p1), (Qow y12), (Qno y13)]⟩) (fun t h => by rw [Qds] at h; cases h) (fun n17 ih t h => ?_) N (0, p10 ++ [List.replicate (p1.length : Int).toNat 0], p11 ++ [List.replicate (p1.length : Int).toNat false]) h
  obtain ⟨y11, y12, y13⟩ := t
  rw [Qds] at h
  skip
  refine wx tbk [] trivial ?_
  refine wsq ?_
  rcases bft ((decide (y11 < (p1.length : Int)))) with hc18 | hc18
  ·replace h := Qat hc18 h
   refine wft hc18 (by kernel_rfl) ?_
   refine Qam ?_
   refine thn ?_
   obtain ⟨k21, hk_k21, h⟩ := jko h
   refine wjn (τ := (List (List Int)) × (List (List Bool))) (fun t => k21 t = some r) (fun ⟨y19, y20⟩ => ⟨mk 110 [(0, I p0), (1, .ref 0 5 0 0), (2, .ref 1 1 0 0), (3, .ref 2 1 0 0), (25, (I ((p1.length : Int)))), (26, I y11)], [(Qlp p1 p2 p3 p4 p5), (Qlr p6), (Qlq p7), (Qga p8 p0 p10 p1), (Qfd p9 p0 p11 p1), (.mat 1 (matA Qal (y19 : List (List Int)))), (.mat 1 (matA Qge (y20 : List (List Bool))))]⟩) (fun t h => ?_) ?_
   ·subst hk_k21
    obtain ⟨y19, y20⟩ := t
    refine wx1 tbk [] trivial ?_
    refine thn ?_
    exact arm (mto (n := 110) [(0, I p0), (1, .ref 0 5 0 0), (2, .ref 1 1 0 0), (3, .ref 2 1 0 0), (25, (I ((p1.length : Int)))), (26, (I (w64 (y11 + 1))))] [0, 1, 2, 3, 4, 5, 6] [(Qlp p1 p2 p3 p4 p5), (Qlr p6), (Qlq p7), (Qga p8 p0 p10 p1), (Qfd p9 p0 p11 p1), (.mat 1 (matA Qal (y19 : List (List Int)))), (.mat 1 (matA Qge (y20 : List (List Bool))))] hφ0 (pc rwl (pc (.rn (rqr rfl)) (pc (.rn (rqr rfl)) (pc (.rn (rqr rfl)) (pc rwl (pc rwl pn)))))) (qc (spb (lc (.rn (.plain _ (nld Qab _))) (lc rwl (lc rwl (lc rwl (lc (.rn (.plain _ (nld Qbv _))) ln)))))) (qc (spb (lc (.rn (Qak rfl)) ln)) (qc (spb (lc (.rn (Qak rfl)) ln)) (qc (Qbz rfl) (qc (Qbz rfl) (qc (Qcm Qab) (qc (Qcm Qdi) qn)))))))) (ih (w64 (y11 + 1), y19, y20) h)
   ·skip
    refine Qaj ?_
    refine wx tbk [] trivial ?_
    refine wsq ?_
    refine wx tbk [(3, rp [(.tmp 31, (Q5j p5))] (I ((p5.length : Int))))] ⟨alm (c := Qey) (l := p5) (aln rfl Tryz.underlying82 rfl), trivial⟩ ?_
    rcases bft ((p0 == (p5.length : Int))) with hc22 | hc22
    ·replace h := Qat hc22 h
     refine wft hc22 (by kernel_rfl) ?_
     obtain ⟨hi23, h⟩ := cko h
     obtain ⟨hi23a, hi23b⟩ := Qbi hi23
     obtain ⟨x24, hg25, h⟩ := bno h
     obtain ⟨hz27, h⟩ := cko h
     obtain ⟨hi26, h⟩ := cko h
     obtain ⟨hi26a, hi26b⟩ := Qbi hi26
     obtain ⟨x28, hg29, h⟩ := bno h
     refine wx tbk [(2, rb [(.tmp 34, (.own 4 1 (0) (p7))), (.tmp 35, I p0)] [(4, (Qfd p9 p0 p11 p1))] (.ref 4 1 (p0.toNat) 0)), (3, rb [(.tmp 36, (.ref 4 1 (p0.toNat) 0))] [(4, (Qfd p9 p0 p11 p1))] (.row 6 x24.1 1 (0) (x24.2))), (5, rb [(.tmp 37, (.row 6 x24.1 1 (0) (x24.2))), (.tmp 38, I y11)] [(6, (Qno y13))] (.rowp 6 x24.1 1 (y11.toNat) 0)), (6, ⟨[(.tmp 39, (.rowp 6 x24.1 1 (y11.toNat) 0)), cb true], [(6, (Qno y13))], .any, [(6, (.mat 1 (matA Qge (setM y13 x24.1 y11.toNat true : List (List Bool)))))], false⟩)] ⟨aio rfl Tryz.underlying132 Qki (odt hi23a) (odt hi23b) (Nat.zero_add _), ald rfl Qki (by decide) (mgt (c_mr 6 1) hg25) (nle rfl) rfl, Qdn rfl Tryz.underlying133 ti4 (odt hi26a) (odt hi26b) hz27 (Nat.zero_add _), Qi7 (u' := true) rfl ti4 (by rfl) hg29 (nle rfl) rfl, trivial⟩ ?_
     refine Qbr ?_
     refine Qay ?_
     refine Qbq rfl ?_
     refine thn ?_
     exact ⟨(y12, setM y13 x24.1 y11.toNat true), h, (mto (n := 110) [(0, I p0), (1, .ref 0 5 0 0), (2, .ref 1 1 0 0), (3, .ref 2 1 0 0), (25, (I ((p1.length : Int)))), (26, I y11)] [0, 1, 2, 3, 4, 5, 6] [(Qlp p1 p2 p3 p4 p5), (Qlr p6), (Qlq p7), (Qga p8 p0 p10 p1), (Qfd p9 p0 p11 p1), (Qow y12), (.mat 1 (matA Qge (setM y13 x24.1 y11.toNat true : List (List Bool))))] hφ0 (pc rwl (pc (.rn (rqr rfl)) (pc (.rn (rqr rfl)) (pc (.rn (rqr rfl)) (pc rwl (pc rwl pn)))))) (qc (spb (lc (.rn (.plain _ (nld Qab _))) (lc rwl (lc rwl (lc rwl (lc (.rn (.plain _ (nld Qbv _))) ln)))))) (qc (spb (lc (.rn (Qak rfl)) ln)) (qc (spb (lc (.rn (Qak rfl)) ln)) (qc (Qbz rfl) (qc (Qbz rfl) (qc (Qcm Qab) (qc (Qcm Qdi) qn))))))))⟩
    ·replace h := Qau hc22 h
     refine wfn hc22 (by kernel_rfl) ?_
     refine Qam ?_
     refine thn ?_
     obtain ⟨hi30, h⟩ := cko h
     obtain ⟨hi30a, hi30b⟩ := Qbi hi30
     obtain ⟨x31, hg32, h⟩ := bno h
     obtain ⟨hz34, h⟩ := cko h
     obtain ⟨hi33, h⟩ := cko h
     obtain ⟨hi33a, hi33b⟩ := Qbi hi33
     obtain ⟨x35, hg36, h⟩ := bno h
     refine wx tbk [(2, rb [(.tmp 40, (.own 3 1 (0) (p6))), (.tmp 41, I p0)] [(3, (Qga p8 p0 p10 p1))] (.ref 3 1 (p0.toNat) 0)), (3, rb [(.tmp 42, (.ref 3 1 (p0.toNat) 0))] [(3, (Qga p8 p0 p10 p1))] (.row 5 x31.1 1 (0) (x31.2))), (5, rb [(.tmp 43, (.row 5 x31.1 1 (0) (x31.2))), (.tmp 44, I y11)] [(5, (Qow y12))] (.rowp 5 x31.1 1 (y11.toNat) 0)), (6, ⟨[(.tmp 45, (.rowp 5 x31.1 1 (y11.toNat) 0)), ci (-1000000000000)], [(5, (Qow y12))], .any, [(5, (.mat 1 (matA Qal (setM y12 x31.1 y11.toNat (-1000000000000) : List (List Int)))))], false⟩)] ⟨aio rfl Tryz.underlying79 ti73 (odt hi30a) (odt hi30b) (Nat.zero_add _), ald rfl ti73 (by decide) (mgt (c_mr 5 1) hg32) (nle rfl) rfl, Qdn rfl Tryz.underlying73 ti3 (odt hi33a) (odt hi33b) hz34 (Nat.zero_add _), Qi7 (u' := (-1000000000000)) rfl ti3 (by rfl) hg36 (nle rfl) rfl, trivial⟩ ?_
     refine wx tbk [(2, rp [(.tmp 47, (Qwl p1))] (I ((p1.length : Int))))] ⟨alm (c := Qal) (l := p1) (aln rfl Tryz.underlying73 rfl), trivial⟩ ?_
     refine Qaj ?_
     refine wmr (mto (n := 110) (l' := [(0, I p0), (1, .ref 0 5 0 0), (2, .ref 1 1 0 0), (3, .ref 2 1 0 0), (5, I y11), (25, (I ((p1.length : Int)))), (26, I y11), (48, (I ((p1.length : Int)))), (49, I 0)]) (own' := [(Qlp p1 p2 p3 p4 p5), (Qlr p6), (Qlq p7), (Qga p8 p0 p10 p1), (Qfd p9 p0 p11 p1), (.mat 1 (matA Qal ((setM y12 x31.1 y11.toNat (-1000000000000)) : List (List Int)))), (Qno y13)]) [(0, I p0), (1, .ref 0 5 0 0), (2, .ref 1 1 0 0), (3, .ref 2 1 0 0), (5, I y11), (25, (I ((p1.length : Int)))), (26, I y11), (48, (I ((p1.length : Int)))), (49, I 0)] [0, 1, 2, 3, 4, 5, 6] [(Qlp p1 p2 p3 p4 p5), (Qlr p6), (Qlq p7), (Qga p8 p0 p10 p1), (Qfd p9 p0 p11 p1), (.mat 1 (matA Qal (setM y12 x31.1 y11.toNat (-1000000000000) : List (List Int)))), (Qno y13)] hφ0 (pc rwl (pc (.rn (rqr rfl)) (pc (.rn (rqr rfl)) (pc (.rn (rqr rfl)) (pc rwl (pc rwl (pc rwl (pc rwl (pc rwl pn))))))))) (qc (spb (lc (.rn (.plain _ (nld Qab _))) (lc rwl (lc rwl (lc rwl (lc (.rn (.plain _ (nld Qbv _))) ln)))))) (qc (spb (lc (.rn (Qak rfl)) ln)) (qc (spb (lc (.rn (Qak rfl)) ln)) (qc (Qbz rfl) (qc (Qbz rfl) (qc (Qcm Qab) (qc (Qcm Qdi) qn)))))))) ?_
     refine Qcl (τ := Int × (List (List Int)) × (List (List Bool))) (fun n t => Qcv N p0 p1 p2 p3 p4 p5 p6 p7 p8 p9 p10 p11 y11 k21 n t.1 t.2.1 t.2.2 = some r) (fun ⟨y37, y38, y39⟩ => ⟨mk 110 [(0, I p0), (1, .ref 0 5 0 0), (2, .ref 1 1 0 0), (3, .ref 2 1 0 0), (5, I y11), (25, (I ((p1.length : Int)))), (26, I y11), (48, (I ((p1.length : Int)))), (49, I y37)], [(Qlp p1 p2 p3 p4 p5), (Qlr p6), (Qlq p7), (Qga p8 p0 p10 p1), (Qfd p9 p0 p11 p1), (Qkw y38), (Qie y39)]⟩) (fun t h => by rw [Qcv] at h; cases h) (fun n43 ih t h => ?_) N (0, setM y12 x31.1 y11.toNat (-1000000000000), y13) h
     obtain ⟨y37, y38, y39⟩ := t
     rw [Qcv] at h
     skip
     refine wx tbk [] trivial ?_
     refine wsq ?_
     rcases bft ((decide (y37 < (p1.length : Int)))) with hc44 | hc44
     ·replace h := Qat hc44 h
      refine wft hc44 (by kernel_rfl) ?_
      refine Qam ?_
      refine thn ?_
      refine wsq ?_
      refine Qaj ?_
      refine wx tbk [] trivial ?_
      obtain ⟨x46, hf45, h⟩ := bno h
      refine wx tbk [(4, rp [fu 64, (.tmp 53, (.agg [(Qwl p1), I p2, I p3, I p4, (Q5j p5)])), (.tmp 54, I p0), (.tmp 55, I y11), (.tmp 56, I y37)] (.tup [I x46.1, B x46.2]))] ⟨apc (first := []) (cap := []) (vs := [(.agg [(Qwl p1), I p2, I p3, I p4, (Q5j p5)]), I p0, I y11, I y37]) rfl Q4b (Qkd N (⟨p1, p2, p3, p4, p5⟩ : GJob) p0 y11 y37 _ hf45) rfl rfl (nlc (NLt.agg _ (nlc (nld Qab _) (nlc nll (nlc nll (nlc nll (nlc (nld Qbv _) nl0)))))) (nlc nll (nlc nll (nlc nll nl0)))) (NLt.tup _ (nlc nll (nlc nll nl0))) rfl, trivial⟩ ?_
      refine wx tbk [] trivial ?_
      rcases bft (x46.2) with hc47 | hc47
      ·replace h := Qat hc47 h
       refine wft hc47 (by kernel_rfl) ?_
       obtain ⟨hi48, h⟩ := cko h
       obtain ⟨hi48a, hi48b⟩ := Qbi hi48
       obtain ⟨x49, hg50, h⟩ := bno h
       obtain ⟨hi51, h⟩ := cko h
       obtain ⟨hi51a, hi51b⟩ := Qbi hi51
       obtain ⟨x52, hg53, h⟩ := bno h
       obtain ⟨hz55, h⟩ := cko h
       obtain ⟨hi54, h⟩ := cko h
       obtain ⟨hi54a, hi54b⟩ := Qbi hi54
       obtain ⟨x56, hg57, h⟩ := bno h
       obtain ⟨hi58, h⟩ := cko h
       obtain ⟨hi58a, hi58b⟩ := Qbi hi58
       obtain ⟨x59, hg60, h⟩ := bno h
       obtain ⟨hz62, h⟩ := cko h
       obtain ⟨hi61, h⟩ := cko h
       obtain ⟨hi61a, hi61b⟩ := Qbi hi61
       obtain ⟨x63, hg64, h⟩ := bno h
       obtain ⟨x65, hl66, h⟩ := bno h
       obtain ⟨hz68, h⟩ := cko h
       obtain ⟨hi67, h⟩ := cko h
       obtain ⟨hi67a, hi67b⟩ := Qbi hi67
       obtain ⟨x69, hg70, h⟩ := bno h
       refine wxd tbk [(2, rb [(.tmp 61, (.own 3 1 (0) (p6))), (.tmp 62, I p0)] [(3, (Qga p8 p0 p10 p1))] (.ref 3 1 (p0.toNat) 0)), (3, rb [(.tmp 63, (.ref 3 1 (p0.toNat) 0))] [(3, (Qga p8 p0 p10 p1))] (.row 5 x49.1 1 (0) (x49.2))), (7, rb [(.tmp 66, (.own 3 1 (0) (p6))), (.tmp 67, I p0)] [(3, (Qga p8 p0 p10 p1))] (.ref 3 1 (p0.toNat) 0)), (8, rb [(.tmp 68, (.ref 3 1 (p0.toNat) 0))] [(3, (Qga p8 p0 p10 p1))] (.row 5 x52.1 1 (0) (x52.2))), (10, rb [(.tmp 69, (.row 5 x52.1 1 (0) (x52.2))), (.tmp 70, I y11)] [(5, (Qkw y38))] (.rowp 5 x52.1 1 (y11.toNat) 0)), (11, rb [(.tmp 71, (.rowp 5 x52.1 1 (y11.toNat) 0))] [(5, (Qkw y38))] (I x56)), (16, rb [(.tmp 74, (.own 3 1 (0) (p6))), (.tmp 76, (I (w64 (p0 + 1))))] [(3, (Qga p8 p0 p10 p1))] (.ref 3 1 ((w64 (p0 + 1)).toNat) 0)), (17, rb [(.tmp 77, (.ref 3 1 ((w64 (p0 + 1)).toNat) 0))] [(3, (Qga p8 p0 p10 p1))] (.row 5 x59.1 1 (0) (x59.2))), (19, rb [(.tmp 78, (.row 5 x59.1 1 (0) (x59.2))), (.tmp 79, I y37)] [(5, (Qkw y38))] (.rowp 5 x59.1 1 (y37.toNat) 0)), (20, rb [(.tmp 80, (.rowp 5 x59.1 1 (y37.toNat) 0))] [(5, (Qkw y38))] (I x63)), (22, rp [(.tmp 72, I x56), (.tmp 82, (I (w64 (x46.1 + x63))))] (I x65)), (23, rb [(.tmp 64, (.row 5 x49.1 1 (0) (x49.2))), (.tmp 65, I y11)] [(5, (Qkw y38))] (.rowp 5 x49.1 1 (y11.toNat) 0)), (24, ⟨[(.tmp 84, (.rowp 5 x49.1 1 (y11.toNat) 0)), (.tmp 83, I x65)], [(5, (Qkw y38))], .any, [(5, (.mat 1 (matA Qal (setM y38 x49.1 y11.toNat x65 : List (List Int)))))], false⟩)] ⟨aio rfl Tryz.underlying79 ti73 (odt hi48a) (odt hi48b) (Nat.zero_add _), ald rfl ti73 (by decide) (mgt (c_mr 5 1) hg50) (nle rfl) rfl, aio rfl Tryz.underlying79 ti73 (odt hi51a) (odt hi51b) (Nat.zero_add _), ald rfl ti73 (by decide) (mgt (c_mr 5 1) hg53) (nle rfl) rfl, Qdn rfl Tryz.underlying73 ti3 (odt hi54a) (odt hi54b) hz55 (Nat.zero_add _), Qfb rfl ti3 (by decide) hg57 (nle rfl) rfl, aio rfl Tryz.underlying79 ti73 (odt hi58a) (odt hi58b) (Nat.zero_add _), ald rfl ti73 (by decide) (mgt (c_mr 5 1) hg60) (nle rfl) rfl, Qdn rfl Tryz.underlying73 ti3 (odt hi61a) (odt hi61b) hz62 (Nat.zero_add _), Qfb rfl ti3 (by decide) hg64 (nle rfl) rfl, Qd8 hl66 (Qmn rfl), Qdn rfl Tryz.underlying73 ti3 (odt hi67a) (odt hi67b) hz68 (Nat.zero_add _), Qi7 (u' := x65) rfl ti3 (by rfl) hg70 (nle rfl) rfl, trivial⟩ ?_
       obtain ⟨hi71, h⟩ := cko h
       obtain ⟨hi71a, hi71b⟩ := Qbi hi71
       obtain ⟨x72, hg73, h⟩ := bno h
       obtain ⟨hi74, h⟩ := cko h
       obtain ⟨hi74a, hi74b⟩ := Qbi hi74
       obtain ⟨x75, hg76, h⟩ := bno h
       obtain ⟨hz78, h⟩ := cko h
       obtain ⟨hi77, h⟩ := cko h
       obtain ⟨hi77a, hi77b⟩ := Qbi hi77
       obtain ⟨x79, hg80, h⟩ := bno h
       rcases bft (x79) with hb81 | hb81
       ·replace h := Qat hb81 h
        obtain ⟨hz83, h⟩ := cko h
        obtain ⟨hi82, h⟩ := cko h
        obtain ⟨hi82a, hi82b⟩ := Qbi hi82
        obtain ⟨x84, hg85, h⟩ := bno h
        refine wy1 tbk [(2, rb [(.tmp 85, (.own 4 1 (0) (p7))), (.tmp 86, I p0)] [(4, (Qfd p9 p0 p11 p1))] (.ref 4 1 (p0.toNat) 0)), (3, rb [(.tmp 87, (.ref 4 1 (p0.toNat) 0))] [(4, (Qfd p9 p0 p11 p1))] (.row 6 x72.1 1 (0) (x72.2))), (7, rb [(.tmp 90, (.own 4 1 (0) (p7))), (.tmp 91, I p0)] [(4, (Qfd p9 p0 p11 p1))] (.ref 4 1 (p0.toNat) 0)), (8, rb [(.tmp 92, (.ref 4 1 (p0.toNat) 0))] [(4, (Qfd p9 p0 p11 p1))] (.row 6 x75.1 1 (0) (x75.2))), (10, rb [(.tmp 93, (.row 6 x75.1 1 (0) (x75.2))), (.tmp 94, I y11)] [(6, (Qie y39))] (.rowp 6 x75.1 1 (y11.toNat) 0)), (11, rb [(.tmp 95, (.rowp 6 x75.1 1 (y11.toNat) 0))] [(6, (Qie y39))] (B x79)), (12, rp [(.tmp 96, B x79)] (B true)), (22, rb [(.tmp 88, (.row 6 x72.1 1 (0) (x72.2))), (.tmp 89, I y11)] [(6, (Qie y39))] (.rowp 6 x72.1 1 (y11.toNat) 0)), (23, ⟨[(.tmp 107, (.rowp 6 x72.1 1 (y11.toNat) 0)), (.tmp 106, B true)], [(6, (Qie y39))], .any, [(6, (.mat 1 (matA Qge (setM y39 x72.1 y11.toNat true : List (List Bool)))))], false⟩)] ⟨aio rfl Tryz.underlying132 Qki (odt hi71a) (odt hi71b) (Nat.zero_add _), ald rfl Qki (by decide) (mgt (c_mr 6 1) hg73) (nle rfl) rfl, aio rfl Tryz.underlying132 Qki (odt hi74a) (odt hi74b) (Nat.zero_add _), ald rfl Qki (by decide) (mgt (c_mr 6 1) hg76) (nle rfl) rfl, Qdn rfl Tryz.underlying133 ti4 (odt hi77a) (odt hi77b) hz78 (Nat.zero_add _), Qfb rfl ti4 (by decide) hg80 (nle rfl) rfl, asb hb81 (amv rfl), Qdn rfl Tryz.underlying133 ti4 (odt hi82a) (odt hi82b) hz83 (Nat.zero_add _), Qi7 (u' := true) rfl ti4 (by rfl) hg85 (nle rfl) rfl, trivial⟩ ?_
        refine bln ?_
        refine thn ?_
        refine wx1 tbk [] trivial ?_
        refine thn ?_
        exact arm (mto (n := 110) [(0, I p0), (1, .ref 0 5 0 0), (2, .ref 1 1 0 0), (3, .ref 2 1 0 0), (5, I y11), (25, (I ((p1.length : Int)))), (26, I y11), (48, (I ((p1.length : Int)))), (49, (I (w64 (y37 + 1))))] [0, 1, 2, 3, 4, 5, 6] [(Qlp p1 p2 p3 p4 p5), (Qlr p6), (Qlq p7), (Qga p8 p0 p10 p1), (Qfd p9 p0 p11 p1), (.mat 1 (matA Qal (setM y38 x49.1 y11.toNat x65 : List (List Int)))), (.mat 1 (matA Qge (setM y39 x72.1 y11.toNat true : List (List Bool))))] hφ0 (pc rwl (pc (.rn (rqr rfl)) (pc (.rn (rqr rfl)) (pc (.rn (rqr rfl)) (pc rwl (pc rwl (pc rwl (pc rwl (pc rwl pn))))))))) (qc (spb (lc (.rn (.plain _ (nld Qab _))) (lc rwl (lc rwl (lc rwl (lc (.rn (.plain _ (nld Qbv _))) ln)))))) (qc (spb (lc (.rn (Qak rfl)) ln)) (qc (spb (lc (.rn (Qak rfl)) ln)) (qc (Qbz rfl) (qc (Qbz rfl) (qc (Qcm Qab) (qc (Qcm Qdi) qn)))))))) (ih (w64 (y37 + 1), setM y38 x49.1 y11.toNat x65, setM y39 x72.1 y11.toNat true) h)
       ·replace h := Qau hb81 h
        obtain ⟨hi86, h⟩ := cko h
        obtain ⟨hi86a, hi86b⟩ := Qbi hi86
        obtain ⟨x87, hg88, h⟩ := bno h
        obtain ⟨hz90, h⟩ := cko h
        obtain ⟨hi89, h⟩ := cko h
        obtain ⟨hi89a, hi89b⟩ := Qbi hi89
        obtain ⟨x91, hg92, h⟩ := bno h
        obtain ⟨hz94, h⟩ := cko h
        obtain ⟨hi93, h⟩ := cko h
        obtain ⟨hi93a, hi93b⟩ := Qbi hi93
        obtain ⟨x95, hg96, h⟩ := bno h
        refine wy1 tbk [(2, rb [(.tmp 85, (.own 4 1 (0) (p7))), (.tmp 86, I p0)] [(4, (Qfd p9 p0 p11 p1))] (.ref 4 1 (p0.toNat) 0)), (3, rb [(.tmp 87, (.ref 4 1 (p0.toNat) 0))] [(4, (Qfd p9 p0 p11 p1))] (.row 6 x72.1 1 (0) (x72.2))), (7, rb [(.tmp 90, (.own 4 1 (0) (p7))), (.tmp 91, I p0)] [(4, (Qfd p9 p0 p11 p1))] (.ref 4 1 (p0.toNat) 0)), (8, rb [(.tmp 92, (.ref 4 1 (p0.toNat) 0))] [(4, (Qfd p9 p0 p11 p1))] (.row 6 x75.1 1 (0) (x75.2))), (10, rb [(.tmp 93, (.row 6 x75.1 1 (0) (x75.2))), (.tmp 94, I y11)] [(6, (Qie y39))] (.rowp 6 x75.1 1 (y11.toNat) 0)), (11, rb [(.tmp 95, (.rowp 6 x75.1 1 (y11.toNat) 0))] [(6, (Qie y39))] (B x79)), (12, rp [(.tmp 96, B x79)] (B false)), (16, rb [(.tmp 97, B false), (.tmp 98, (.own 4 1 (0) (p7))), (.tmp 100, (I (w64 (p0 + 1))))] [(4, (Qfd p9 p0 p11 p1))] (.ref 4 1 ((w64 (p0 + 1)).toNat) 0)), (17, rb [(.tmp 97, B false), (.tmp 101, (.ref 4 1 ((w64 (p0 + 1)).toNat) 0))] [(4, (Qfd p9 p0 p11 p1))] (.row 6 x87.1 1 (0) (x87.2))), (19, rb [(.tmp 97, B false), (.tmp 102, (.row 6 x87.1 1 (0) (x87.2))), (.tmp 103, I y37)] [(6, (Qie y39))] (.rowp 6 x87.1 1 (y37.toNat) 0)), (20, rb [(.tmp 97, B false), (.tmp 104, (.rowp 6 x87.1 1 (y37.toNat) 0))] [(6, (Qie y39))] (B x91)), (22, rb [(.tmp 88, (.row 6 x72.1 1 (0) (x72.2))), (.tmp 89, I y11)] [(6, (Qie y39))] (.rowp 6 x72.1 1 (y11.toNat) 0)), (23, ⟨[(.tmp 107, (.rowp 6 x72.1 1 (y11.toNat) 0)), (.tmp 106, B x91)], [(6, (Qie y39))], .any, [(6, (.mat 1 (matA Qge (setM y39 x72.1 y11.toNat x91 : List (List Bool)))))], false⟩)] ⟨aio rfl Tryz.underlying132 Qki (odt hi71a) (odt hi71b) (Nat.zero_add _), ald rfl Qki (by decide) (mgt (c_mr 6 1) hg73) (nle rfl) rfl, aio rfl Tryz.underlying132 Qki (odt hi74a) (odt hi74b) (Nat.zero_add _), ald rfl Qki (by decide) (mgt (c_mr 6 1) hg76) (nle rfl) rfl, Qdn rfl Tryz.underlying133 ti4 (odt hi77a) (odt hi77b) hz78 (Nat.zero_add _), Qfb rfl ti4 (by decide) hg80 (nle rfl) rfl, asb hb81 (amv rfl), ag_ (aio rfl Tryz.underlying132 Qki (odt hi86a) (odt hi86b) (Nat.zero_add _)), ag_ (ald rfl Qki (by decide) (mgt (c_mr 6 1) hg88) (nle rfl) rfl), ag_ (Qdn rfl Tryz.underlying133 ti4 (odt hi89a) (odt hi89b) hz90 (Nat.zero_add _)), ag_ (Qfb rfl ti4 (by decide) hg92 (nle rfl) rfl), Qdn rfl Tryz.underlying133 ti4 (odt hi93a) (odt hi93b) hz94 (Nat.zero_add _), Qi7 (u' := x91) rfl ti4 (by rfl) hg96 (nle rfl) rfl, trivial⟩ ?_
        refine bln ?_
        refine thn ?_
        refine wx1 tbk [] trivial ?_
        refine thn ?_
        exact arm (mto (n := 110) [(0, I p0), (1, .ref 0 5 0 0), (2, .ref 1 1 0 0), (3, .ref 2 1 0 0), (5, I y11), (25, (I ((p1.length : Int)))), (26, I y11), (48, (I ((p1.length : Int)))), (49, (I (w64 (y37 + 1))))] [0, 1, 2, 3, 4, 5, 6] [(Qlp p1 p2 p3 p4 p5), (Qlr p6), (Qlq p7), (Qga p8 p0 p10 p1), (Qfd p9 p0 p11 p1), (.mat 1 (matA Qal (setM y38 x49.1 y11.toNat x65 : List (List Int)))), (.mat 1 (matA Qge (setM y39 x72.1 y11.toNat x91 : List (List Bool))))] hφ0 (pc rwl (pc (.rn (rqr rfl)) (pc (.rn (rqr rfl)) (pc (.rn (rqr rfl)) (pc rwl (pc rwl (pc rwl (pc rwl (pc rwl pn))))))))) (qc (spb (lc (.rn (.plain _ (nld Qab _))) (lc rwl (lc rwl (lc rwl (lc (.rn (.plain _ (nld Qbv _))) ln)))))) (qc (spb (lc (.rn (Qak rfl)) ln)) (qc (spb (lc (.rn (Qak rfl)) ln)) (qc (Qbz rfl) (qc (Qbz rfl) (qc (Qcm Qab) (qc (Qcm Qdi) qn)))))))) (ih (w64 (y37 + 1), setM y38 x49.1 y11.toNat x65, setM y39 x72.1 y11.toNat x91) h)
      ·replace h := Qau hc47 h
       refine wfn hc47 (by kernel_rfl) ?_
       refine Qam ?_
       refine bln ?_
       refine thn ?_
       refine wx1 tbk [] trivial ?_
       refine thn ?_
       exact arm (mto (n := 110) [(0, I p0), (1, .ref 0 5 0 0), (2, .ref 1 1 0 0), (3, .ref 2 1 0 0), (5, I y11), (25, (I ((p1.length : Int)))), (26, I y11), (48, (I ((p1.length : Int)))), (49, (I (w64 (y37 + 1))))] [0, 1, 2, 3, 4, 5, 6] [(Qlp p1 p2 p3 p4 p5), (Qlr p6), (Qlq p7), (Qga p8 p0 p10 p1), (Qfd p9 p0 p11 p1), (Qkw y38), (Qie y39)] hφ0 (pc rwl (pc (.rn (rqr rfl)) (pc (.rn (rqr rfl)) (pc (.rn (rqr rfl)) (pc rwl (pc rwl (pc rwl (pc rwl (pc rwl pn))))))))) (qc (spb (lc (.rn (.plain _ (nld Qab _))) (lc rwl (lc rwl (lc rwl (lc (.rn (.plain _ (nld Qbv _))) ln)))))) (qc (spb (lc (.rn (Qak rfl)) ln)) (qc (spb (lc (.rn (Qak rfl)) ln)) (qc (Qbz rfl) (qc (Qbz rfl) (qc (Qcm Qab) (qc (Qcm Qdi) qn)))))))) (ih (w64 (y37 + 1), y38, y39) h)
     ·replace h := Qau hc44 h
      refine wfn hc44 (by kernel_rfl) ?_
      refine Qbr ?_
      refine Qay ?_
      refine Qay ?_
      refine Qbq rfl ?_
      refine bln ?_
      refine thn ?_
      exact ⟨(y38, y39), h, (mto (n := 110) [(0, I p0), (1, .ref 0 5 0 0), (2, .ref 1 1 0 0), (3, .ref 2 1 0 0), (25, (I ((p1.length : Int)))), (26, I y11)] [0, 1, 2, 3, 4, 5, 6] [(Qlp p1 p2 p3 p4 p5), (Qlr p6), (Qlq p7), (Qga p8 p0 p10 p1), (Qfd p9 p0 p11 p1), (Qkw y38), (Qie y39)] hφ0 (pc rwl (pc (.rn (rqr rfl)) (pc (.rn (rqr rfl)) (pc (.rn (rqr rfl)) (pc rwl (pc rwl pn)))))) (qc (spb (lc (.rn (.plain _ (nld Qab _))) (lc rwl (lc rwl (lc rwl (lc (.rn (.plain _ (nld Qbv _))) ln)))))) (qc (spb (lc (.rn (Qak rfl)) ln)) (qc (spb (lc (.rn (Qak rfl)) ln)) (qc (Qbz rfl) (qc (Qbz rfl) (qc (Qcm Qab) (qc (Qcm Qdi) qn))))))))⟩
  ·replace h := Qau hc18 h
   refine wfn hc18 (by kernel_rfl) ?_
   refine Qbr ?_
   refine Qay ?_
   refine Qay ?_
   refine Qbq rfl ?_
   obtain rfl := osi h
   exact ⟨_, (mto (n := 110) (l' := []) (own' := [(Qlp p1 p2 p3 p4 p5), (Qlr p6), (Qlq p7), (Qga p8 p0 p10 p1), (Qfd p9 p0 p11 p1), (Qow y12), (Qno y13)]) [] [0, 1, 2, 3, 4, 5, 6] [(Qlp p1 p2 p3 p4 p5), (Qlr p6), (Qlq p7), (Qga p8 p0 p10 p1), (Qfd p9 p0 p11 p1), (Qow y12), (Qno y13)] hφ0 pn (qc (spb (lc (.rn (.plain _ (nld Qab _))) (lc rwl (lc rwl (lc rwl (lc (.rn (.plain _ (nld Qbv _))) ln)))))) (qc (spb (lc (.rn (Qak rfl)) ln)) (qc (spb (lc (.rn (Qak rfl)) ln)) (qc (Qbz rfl) (qc (Qbz rfl) (qc (Qcm Qab) (qc (Qcm Qdi) qn)))))))), Qb7 (vs := []) trivial rfl (NLt.tup _ nl0) (by kernel_rfl) (Qaf (Qav (nlc (NLt.of0 (nld Qab _)) (nlc (NLt.of0 nll) (nlc (NLt.of0 nll) (nlc (NLt.of0 nll) (nlc (NLt.of0 (nld Qbv _)) nl0)))))) (Qaf (Qav (nlc (NLt.own _ _ _ _ (by decide)) nl0)) (Qaf (Qav (nlc (NLt.own _ _ _ _ (by decide)) nl0)) (Qaf (Qhd rfl) (Qaf (Qhd rfl) (Qaf (Qjb Qab _) (Qaf (Qjb Qdi _) Qbd)))))))⟩
def Qe8 (N : Nat) (p0 : GJob) (k2 : (List Int) → Option (List Int)) : Nat → (List Int) → Int → Option (List Int)
  | 0, _, _ => none
  | n7 + 1, y3, y4 =>
    bif (decide (y4 < (p0.Levels.length : Int))) then
     chk (decide ((y3.length + ([y4]).length) * 8 ≤ 140737488355328)) <|
     Qe8 N p0 k2 n7 (y3 ++ ([y4])) (w64 (y4 + 1))
    else
     k2 (y3)
def Qk6 (N : Nat) (p0 : GJob) : Option (List Int) :=
  Qc5 (fun y1 =>
    some y1) fun k2 : (List Int) → Option (List Int) =>
  Qe8 N p0 k2 N ([]) 0
def Zeu (p0 : GJob) : AV := .dat 1 ((p0.Levels : List Int).map Qal)
def Q1n (y3 : (List Int)) : AV := .acc 0 3 1 ((y3 : List Int).map Qal)
theorem Qp2 (N : Nat) (p0 : GJob) (r : (List Int)) (h : Qk6 N p0 = some r) : Spec Tryz.prog 66 [(.agg (Qvy p0))] [] (.dat 1 (r.map Qal)) [] := by
  refine Qac Tryz.func66 rfl 0 (nle rfl) (fun X φ0 w0 hφ0 hd0 => ?_)
  unfold Qk6 at h
  refine wx tbk [] trivial ?_
  obtain ⟨k2, hk_k2, h⟩ := jko h
  refine wjn (τ := (List Int)) (fun t => k2 t = some r) (fun y1 => ⟨mk 16 [(2, (.acc 0 3 1 ((y1 : List Int).map Qal)))], [.tok]⟩) (fun y1 h => ?_) ?_
  ·subst hk_k2
   refine wx tbk [] trivial ?_
   refine Qaa ?_
   obtain rfl := osi h
   exact fend ⟨[(.dat 1 ((y1 : List Int).map Qal))], ⟨Qjt (v := (.acc 0 3 1 ((y1 : List Int).map Qal))) (rot (by kernel_rfl)) Less.acc, trivial⟩, rfl⟩ (nld Qab _)
  ·skip
   refine wx tbk [(2, rp [(.tmp 5, (Zeu p0))] (I ((p0.Levels.length : Int))))] ⟨alm (c := Qal) (l := p0.Levels) (aln rfl Tryz.underlying73 rfl), trivial⟩ ?_
   refine Qaj ?_
   refine wmr (Mor.trans (Qtk 1 3 1 2 (by kernel_rfl) (by kernel_rfl)) (mto (n := 16) (l' := [(2, (.acc 0 3 1 ((([]) : List Int).map Qal))), (6, (I ((p0.Levels.length : Int)))), (7, I 0)]) (own' := [.tok]) [(2, (.acc 1 3 1 (([] : List Int).map Qal))), (6, (I ((p0.Levels.length : Int)))), (7, I 0)] [1] [.tok] hφ0 (pc (.rn (Qhg rfl (Qfr Qab _))) (pc rwl (pc rwl pn))) (qc .tok qn))) ?_
   refine Qcl (τ := (List Int) × Int) (fun n t => Qe8 N p0 k2 n t.1 t.2 = some r) (fun ⟨y3, y4⟩ => ⟨mk 16 [(2, (Q1n y3)), (6, (I ((p0.Levels.length : Int)))), (7, I y4)], [.tok]⟩) (fun t h => by rw [Qe8] at h; cases h) (fun n7 ih t h => ?_) N ([], 0) h
   obtain ⟨y3, y4⟩ := t
   rw [Qe8] at h
   skip
   refine wx tbk [] trivial ?_
   refine wsq ?_
   rcases bft ((decide (y4 < (p0.Levels.length : Int)))) with hc8 | hc8
   ·replace h := Qat hc8 h
    refine wft hc8 (by kernel_rfl) ?_
    refine Qam ?_
    refine thn ?_
    refine wsq ?_
    refine Qaj ?_
    refine wx tbk [] trivial ?_
    obtain ⟨ha9, h⟩ := cko h
    refine wx1 tbk [(2, rp [(.tmp 11, I y4)] (.dat 1 (([y4] : List Int).map Qal))), (3, ⟨[(.tmp 10, (Q1n y3)), (.tmp 12, (.dat 1 (([y4] : List Int).map Qal)))], [(0, .tok), (1, .unused)], (.acc 1 3 1 ((y3 ++ ([y4]) : List Int).map Qal)), [(0, .dead), (1, .tok)], false⟩)] ⟨Qcb (vs := [I y4]) rfl Tryz.underlying73 ti3 tz3 rfl (by decide) rfl (by decide) (by rfl) (by rfl) (by rfl) rfl, Qmo rfl Tryz.underlying73 te3 (Base.acc _ _) rfl rfl (by rfl) (Qrn Qal ha9) (Qrm Qal ha9 (by decide)) (Qrl Qal) rfl rfl, trivial⟩ ?_
    refine bln ?_
    refine thn ?_
    refine wx1 tbk [] trivial ?_
    refine thn ?_
    exact arm (mto (n := 16) [(2, (.acc 1 3 1 ((y3 ++ ([y4]) : List Int).map Qal))), (6, (I ((p0.Levels.length : Int)))), (7, (I (w64 (y4 + 1))))] [1] [.tok] hφ0 (pc (.rn (Qhg rfl (Qfr Qab _))) (pc rwl (pc rwl pn))) (qc .tok qn)) (ih (y3 ++ ([y4]), w64 (y4 + 1)) h)
   ·replace h := Qau hc8 h
    refine wfn hc8 (by kernel_rfl) ?_
    refine Qbr ?_
    refine Qay ?_
    refine Qay ?_
    refine Qbq rfl ?_
    refine thn ?_
    exact ⟨(y3), h, (mto (n := 16) [(2, (Q1n y3))] [0] [.tok] hφ0 (pc (.rn (Qhg rfl (Qfr Qab _))) pn) (qc .tok qn))⟩
def Qhl (N : Nat) (p0 : Int) (p1 : (List Int)) (p2 : Int) (p3 : Int) (p4 : Int) (p5 : (List GHour)) (p6 : Int) (p7 : Int) (p8 : Nat) (p9 : Nat) (p10 : (List (Nat × Nat))) (p11 : (List (Nat × Nat))) (p12 : (List (List Bool))) (p13 : (List (List Int))) : Option Bool :=
  (Qh9 N (⟨p1, p2, p3, p4, p5⟩ : GJob) p6 p7 p0).bind fun x3 =>
  bif x3.2 then
   chk (decide (0 ≤ w64 (p6 + 1)) && decide ((w64 (p6 + 1)).toNat < p8)) <|
   (p10[(w64 (p6 + 1)).toNat]?).bind fun x6 =>
   chk (!(p12.getD x6.1 []).isEmpty) <|
   chk (decide (0 ≤ p0) && decide (p0.toNat < x6.2)) <|
   (getM p12 x6.1 p0.toNat).bind fun x10 =>
   bif x10 then
    chk (decide (0 ≤ w64 (p6 + 1)) && decide ((w64 (p6 + 1)).toNat < p9)) <|
    (p11[(w64 (p6 + 1)).toNat]?).bind fun x14 =>
    chk (!(p13.getD x14.1 []).isEmpty) <|
    chk (decide (0 ≤ p0) && decide (p0.toNat < x14.2)) <|
    (getM p13 x14.1 p0.toNat).bind fun x18 =>
    chk (decide (0 ≤ p6) && decide (p6.toNat < p9)) <|
    (p11[p6.toNat]?).bind fun x21 =>
    chk (!(p13.getD x21.1 []).isEmpty) <|
    chk (decide (0 ≤ p7) && decide (p7.toNat < x21.2)) <|
    (getM p13 x21.1 p7.toNat).bind fun x25 =>
    some ((w64 (x3.1 + x18)) == x25)
   else
    some false
  else
   some false
def Q9a (p1 : (List Int)) : AV := .dat 1 ((p1 : List Int).map Qal)
def Q89 (p5 : (List GHour)) : AV := .dat 2 ((p5 : List GHour).map Qey)
def Quf (p1 : (List Int)) (p2 : Int) (p3 : Int) (p4 : Int) (p5 : (List GHour)) : Slot := .own 5 [[(Q9a p1), (I (p2)), (I (p3)), (I (p4)), (Q89 p5)]]
def Que (p8 : Nat) : Slot := .own 1 [[(.own 5 1 (0) (p8))]]
def Qud (p9 : Nat) : Slot := .own 1 [[(.own 6 1 (0) (p9))]]
def Qp0 (p10 : (List (Nat × Nat))) : Slot := .own 1 ((p10 : List (Nat × Nat)).map (c_mr 7 1))
def Qpy (p11 : (List (Nat × Nat))) : Slot := .own 1 ((p11 : List (Nat × Nat)).map (c_mr 8 1))
def Qpz (p12 : (List (List Bool))) : Slot := .mat 1 (matA Qge (p12 : List (List Bool)))
def Qpx (p13 : (List (List Int))) : Slot := .mat 1 (matA Qal (p13 : List (List Int)))
theorem Qlm (N : Nat) (p0 : Int) (p1 : (List Int)) (p2 : Int) (p3 : Int) (p4 : Int) (p5 : (List GHour)) (p6 : Int) (p7 : Int) (p8 : Nat) (p9 : Nat) (p10 : (List (Nat × Nat))) (p11 : (List (Nat × Nat))) (p12 : (List (List Bool))) (p13 : (List (List Int))) (r : Bool) (h : Qhl N p0 p1 p2 p3 p4 p5 p6 p7 p8 p9 p10 p11 p12 p13 = some r) : Spec Tryz.prog 67 [(I (p0)), (.ref 0 5 (0) 0), (.ref 1 1 (0) 0), (.ref 2 1 (0) 0), (.ref 3 1 (0) 0), (.ref 4 1 (0) 0)] [(Quf p1 p2 p3 p4 p5), (.own 1 [[(I (p6))]]), (.own 1 [[(I (p7))]]), (Que p8), (Qud p9), (Qp0 p10), (Qpy p11), (Qpz p12), (Qpx p13)] (B (r)) [(Quf p1 p2 p3 p4 p5), (.own 1 [[(I (p6))]]), (.own 1 [[(I (p7))]]), (Que p8), (Qud p9), (Qp0 p10), (Qpy p11), (Qpz p12), (Qpx p13)] := by
  refine Qac Tryz.func67 rfl 9 (nle rfl) (fun X φ0 w0 hφ0 hd0 => ?_)
  unfold Qhl at h
  refine Qbh ?_
  refine wx tbk [] trivial ?_
  obtain ⟨x3, hf2, h⟩ := bno h
  refine wx tbk [(4, rp [fu 64, (.tmp 11, (.agg [(Q9a p1), I p2, I p3, I p4, (Q89 p5)])), (.tmp 12, I p6), (.tmp 13, I p7), (.tmp 14, I p0)] (.tup [I x3.1, B x3.2]))] ⟨apc (first := []) (cap := []) (vs := [(.agg [(Q9a p1), I p2, I p3, I p4, (Q89 p5)]), I p6, I p7, I p0]) rfl Q4b (Qkd N (⟨p1, p2, p3, p4, p5⟩ : GJob) p6 p7 p0 _ hf2) rfl rfl (nlc (NLt.agg _ (nlc (nld Qab _) (nlc nll (nlc nll (nlc nll (nlc (nld Qbv _) nl0)))))) (nlc nll (nlc nll (nlc nll nl0)))) (NLt.tup _ (nlc nll (nlc nll nl0))) rfl, trivial⟩ ?_
  rcases bft (x3.2) with hb4 | hb4
  ·replace h := Qat hb4 h
   obtain ⟨hi5, h⟩ := cko h
   obtain ⟨hi5a, hi5b⟩ := Qbi hi5
   obtain ⟨x6, hg7, h⟩ := bno h
   obtain ⟨hz9, h⟩ := cko h
   obtain ⟨hi8, h⟩ := cko h
   obtain ⟨hi8a, hi8b⟩ := Qbi hi8
   obtain ⟨x10, hg11, h⟩ := bno h
   rcases bft (x10) with hb12 | hb12
   ·replace h := Qat hb12 h
    obtain ⟨hi13, h⟩ := cko h
    obtain ⟨hi13a, hi13b⟩ := Qbi hi13
    obtain ⟨x14, hg15, h⟩ := bno h
    obtain ⟨hz17, h⟩ := cko h
    obtain ⟨hi16, h⟩ := cko h
    obtain ⟨hi16a, hi16b⟩ := Qbi hi16
    obtain ⟨x18, hg19, h⟩ := bno h
    obtain ⟨hi20, h⟩ := cko h
    obtain ⟨hi20a, hi20b⟩ := Qbi hi20
    obtain ⟨x21, hg22, h⟩ := bno h
    obtain ⟨hz24, h⟩ := cko h
    obtain ⟨hi23, h⟩ := cko h
    obtain ⟨hi23a, hi23b⟩ := Qbi hi23
    obtain ⟨x25, hg26, h⟩ := bno h
    refine wxd tbk [(1, rp [(.tmp 18, B x3.2)] (B true)), (5, rb [(.tmp 19, B true), (.tmp 20, (.own 5 1 (0) (p8))), (.tmp 22, (I (w64 (p6 + 1))))] [(5, (Qp0 p10))] (.ref 5 1 ((w64 (p6 + 1)).toNat) 0)), (6, rb [(.tmp 19, B true), (.tmp 23, (.ref 5 1 ((w64 (p6 + 1)).toNat) 0))] [(5, (Qp0 p10))] (.row 7 x6.1 1 (0) (x6.2))), (8, rb [(.tmp 19, B true), (.tmp 24, (.row 7 x6.1 1 (0) (x6.2))), (.tmp 25, I p0)] [(7, (Qpz p12))] (.rowp 7 x6.1 1 (p0.toNat) 0)), (9, rb [(.tmp 19, B true), (.tmp 26, (.rowp 7 x6.1 1 (p0.toNat) 0))] [(7, (Qpz p12))] (B x10)), (11, rp [(.tmp 28, B x10)] (B true)), (16, rb [(.tmp 29, B true), (.tmp 31, (.own 6 1 (0) (p9))), (.tmp 33, (I (w64 (p6 + 1))))] [(6, (Qpy p11))] (.ref 6 1 ((w64 (p6 + 1)).toNat) 0)), (17, rb [(.tmp 29, B true), (.tmp 34, (.ref 6 1 ((w64 (p6 + 1)).toNat) 0))] [(6, (Qpy p11))] (.row 8 x14.1 1 (0) (x14.2))), (19, rb [(.tmp 29, B true), (.tmp 35, (.row 8 x14.1 1 (0) (x14.2))), (.tmp 36, I p0)] [(8, (Qpx p13))] (.rowp 8 x14.1 1 (p0.toNat) 0)), (20, rb [(.tmp 29, B true), (.tmp 37, (.rowp 8 x14.1 1 (p0.toNat) 0))] [(8, (Qpx p13))] (I x18)), (24, rb [(.tmp 29, B true), (.tmp 40, (.own 6 1 (0) (p9))), (.tmp 41, I p6)] [(6, (Qpy p11))] (.ref 6 1 (p6.toNat) 0)), (25, rb [(.tmp 29, B true), (.tmp 42, (.ref 6 1 (p6.toNat) 0))] [(6, (Qpy p11))] (.row 8 x21.1 1 (0) (x21.2))), (27, rb [(.tmp 29, B true), (.tmp 43, (.row 8 x21.1 1 (0) (x21.2))), (.tmp 44, I p7)] [(8, (Qpx p13))] (.rowp 8 x21.1 1 (p7.toNat) 0)), (28, rb [(.tmp 29, B true), (.tmp 45, (.rowp 8 x21.1 1 (p7.toNat) 0))] [(8, (Qpx p13))] (I x25))] ⟨asb hb4 (amv rfl), ag_ (aio rfl Tryz.underlying132 Qki (odt hi5a) (odt hi5b) (Nat.zero_add _)), ag_ (ald rfl Qki (by decide) (mgt (c_mr 7 1) hg7) (nle rfl) rfl), ag_ (Qdn rfl Tryz.underlying133 ti4 (odt hi8a) (odt hi8b) hz9 (Nat.zero_add _)), ag_ (Qfb rfl ti4 (by decide) hg11 (nle rfl) rfl), asb hb12 (amv rfl), ag_ (aio rfl Tryz.underlying79 ti73 (odt hi13a) (odt hi13b) (Nat.zero_add _)), ag_ (ald rfl ti73 (by decide) (mgt (c_mr 8 1) hg15) (nle rfl) rfl), ag_ (Qdn rfl Tryz.underlying73 ti3 (odt hi16a) (odt hi16b) hz17 (Nat.zero_add _)), ag_ (Qfb rfl ti3 (by decide) hg19 (nle rfl) rfl), ag_ (aio rfl Tryz.underlying79 ti73 (odt hi20a) (odt hi20b) (Nat.zero_add _)), ag_ (ald rfl ti73 (by decide) (mgt (c_mr 8 1) hg22) (nle rfl) rfl), ag_ (Qdn rfl Tryz.underlying73 ti3 (odt hi23a) (odt hi23b) hz24 (Nat.zero_add _)), ag_ (Qfb rfl ti3 (by decide) hg26 (nle rfl) rfl), trivial⟩ ?_
    refine wmr (mto (n := 49) (l' := [(7, (B (((w64 (x3.1 + x18)) == x25))))]) (own' := [(Quf p1 p2 p3 p4 p5), (.own 1 [[I p6]]), (.own 1 [[I p7]]), (Que p8), (Qud p9), (Qp0 p10), (Qpy p11), (Qpz p12), (Qpx p13)]) [(7, (B (((w64 (x3.1 + x18)) == x25))))] [0, 1, 2, 3, 4, 5, 6, 7, 8] [(Quf p1 p2 p3 p4 p5), (.own 1 [[I p6]]), (.own 1 [[I p7]]), (Que p8), (Qud p9), (Qp0 p10), (Qpy p11), (Qpz p12), (Qpx p13)] hφ0 (pc rwl pn) (qc (spb (lc (.rn (.plain _ (nld Qab _))) (lc rwl (lc rwl (lc rwl (lc (.rn (.plain _ (nld Qbv _))) ln)))))) (qc (spb (lc rwl ln)) (qc (spb (lc rwl ln)) (qc (spb (lc (.rn (Qak rfl)) ln)) (qc (spb (lc (.rn (Qak rfl)) ln)) (qc (Qbz rfl) (qc (Qbz rfl) (qc (Qcm Qdi) (qc (Qcm Qab) qn)))))))))) ?_
    refine Qaa ?_
    obtain rfl := osi h
    exact ⟨_, Mor.rfl, Qb7 (vs := [(B (((w64 (x3.1 + x18)) == x25)))]) ⟨rot (by kernel_rfl), trivial⟩ rfl (NLt.of0 nll) (by kernel_rfl) (Qaf (Qav (nlc (NLt.of0 (nld Qab _)) (nlc (NLt.of0 nll) (nlc (NLt.of0 nll) (nlc (NLt.of0 nll) (nlc (NLt.of0 (nld Qbv _)) nl0)))))) (Qaf (Qav (nlc (NLt.of0 nll) nl0)) (Qaf (Qav (nlc (NLt.of0 nll) nl0)) (Qaf (Qav (nlc (NLt.own _ _ _ _ (by decide)) nl0)) (Qaf (Qav (nlc (NLt.own _ _ _ _ (by decide)) nl0)) (Qaf (Qhd rfl) (Qaf (Qhd rfl) (Qaf (Qjb Qdi _) (Qaf (Qjb Qab _) Qbd)))))))))⟩
   ·replace h := Qau hb12 h
    refine wxd tbk [(1, rp [(.tmp 18, B x3.2)] (B true)), (5, rb [(.tmp 19, B true), (.tmp 20, (.own 5 1 (0) (p8))), (.tmp 22, (I (w64 (p6 + 1))))] [(5, (Qp0 p10))] (.ref 5 1 ((w64 (p6 + 1)).toNat) 0)), (6, rb [(.tmp 19, B true), (.tmp 23, (.ref 5 1 ((w64 (p6 + 1)).toNat) 0))] [(5, (Qp0 p10))] (.row 7 x6.1 1 (0) (x6.2))), (8, rb [(.tmp 19, B true), (.tmp 24, (.row 7 x6.1 1 (0) (x6.2))), (.tmp 25, I p0)] [(7, (Qpz p12))] (.rowp 7 x6.1 1 (p0.toNat) 0)), (9, rb [(.tmp 19, B true), (.tmp 26, (.rowp 7 x6.1 1 (p0.toNat) 0))] [(7, (Qpz p12))] (B x10)), (11, rp [(.tmp 28, B x10)] (B false))] ⟨asb hb4 (amv rfl), ag_ (aio rfl Tryz.underlying132 Qki (odt hi5a) (odt hi5b) (Nat.zero_add _)), ag_ (ald rfl Qki (by decide) (mgt (c_mr 7 1) hg7) (nle rfl) rfl), ag_ (Qdn rfl Tryz.underlying133 ti4 (odt hi8a) (odt hi8b) hz9 (Nat.zero_add _)), ag_ (Qfb rfl ti4 (by decide) hg11 (nle rfl) rfl), asb hb12 (amv rfl), trivial⟩ ?_
    refine wmr (mto (n := 49) (l' := [(7, B false)]) (own' := [(Quf p1 p2 p3 p4 p5), (.own 1 [[I p6]]), (.own 1 [[I p7]]), (Que p8), (Qud p9), (Qp0 p10), (Qpy p11), (Qpz p12), (Qpx p13)]) [(7, B false)] [0, 1, 2, 3, 4, 5, 6, 7, 8] [(Quf p1 p2 p3 p4 p5), (.own 1 [[I p6]]), (.own 1 [[I p7]]), (Que p8), (Qud p9), (Qp0 p10), (Qpy p11), (Qpz p12), (Qpx p13)] hφ0 (pc rwl pn) (qc (spb (lc (.rn (.plain _ (nld Qab _))) (lc rwl (lc rwl (lc rwl (lc (.rn (.plain _ (nld Qbv _))) ln)))))) (qc (spb (lc rwl ln)) (qc (spb (lc rwl ln)) (qc (spb (lc (.rn (Qak rfl)) ln)) (qc (spb (lc (.rn (Qak rfl)) ln)) (qc (Qbz rfl) (qc (Qbz rfl) (qc (Qcm Qdi) (qc (Qcm Qab) qn)))))))))) ?_
    refine Qaa ?_
    obtain rfl := osi h
    exact ⟨_, Mor.rfl, Qb7 (vs := [B false]) ⟨rot (by kernel_rfl), trivial⟩ rfl (NLt.of0 nll) (by kernel_rfl) (Qaf (Qav (nlc (NLt.of0 (nld Qab _)) (nlc (NLt.of0 nll) (nlc (NLt.of0 nll) (nlc (NLt.of0 nll) (nlc (NLt.of0 (nld Qbv _)) nl0)))))) (Qaf (Qav (nlc (NLt.of0 nll) nl0)) (Qaf (Qav (nlc (NLt.of0 nll) nl0)) (Qaf (Qav (nlc (NLt.own _ _ _ _ (by decide)) nl0)) (Qaf (Qav (nlc (NLt.own _ _ _ _ (by decide)) nl0)) (Qaf (Qhd rfl) (Qaf (Qhd rfl) (Qaf (Qjb Qdi _) (Qaf (Qjb Qab _) Qbd)))))))))⟩
  ·replace h := Qau hb4 h
   refine wxd tbk [(1, rp [(.tmp 18, B x3.2)] (B false))] ⟨asb hb4 (amv rfl), trivial⟩ ?_
   refine wmr (mto (n := 49) (l' := [(7, B false)]) (own' := [(Quf p1 p2 p3 p4 p5), (.own 1 [[I p6]]), (.own 1 [[I p7]]), (Que p8), (Qud p9), (Qp0 p10), (Qpy p11), (Qpz p12), (Qpx p13)]) [(7, B false)] [0, 1, 2, 3, 4, 5, 6, 7, 8] [(Quf p1 p2 p3 p4 p5), (.own 1 [[I p6]]), (.own 1 [[I p7]]), (Que p8), (Qud p9), (Qp0 p10), (Qpy p11), (Qpz p12), (Qpx p13)] hφ0 (pc rwl pn) (qc (spb (lc (.rn (.plain _ (nld Qab _))) (lc rwl (lc rwl (lc rwl (lc (.rn (.plain _ (nld Qbv _))) ln)))))) (qc (spb (lc rwl ln)) (qc (spb (lc rwl ln)) (qc (spb (lc (.rn (Qak rfl)) ln)) (qc (spb (lc (.rn (Qak rfl)) ln)) (qc (Qbz rfl) (qc (Qbz rfl) (qc (Qcm Qdi) (qc (Qcm Qab) qn)))))))))) ?_
   refine Qaa ?_
   obtain rfl := osi h
   exact ⟨_, Mor.rfl, Qb7 (vs := [B false]) ⟨rot (by kernel_rfl), trivial⟩ rfl (NLt.of0 nll) (by kernel_rfl) (Qaf (Qav (nlc (NLt.of0 (nld Qab _)) (nlc (NLt.of0 nll) (nlc (NLt.of0 nll) (nlc (NLt.of0 nll) (nlc (NLt.of0 (nld Qbv _)) nl0)))))) (Qaf (Qav (nlc (NLt.of0 nll) nl0)) (Qaf (Qav (nlc (NLt.of0 nll) nl0)) (Qaf (Qav (nlc (NLt.own _ _ _ _ (by decide)) nl0)) (Qaf (Qav (nlc (NLt.own _ _ _ _ (by decide)) nl0)) (Qaf (Qhd rfl) (Qaf (Qhd rfl) (Qaf (Qjb Qdi _) (Qaf (Qjb Qab _) Qbd)))))))))⟩
def Qcs (N : Nat) (p0 : (List Int)) (p1 : (List Int)) (k2 : Unit → Option Int) (p2 : Int) (p3 : Int) (p4 : Int) (p5 : (List GHour)) (p6 : Int) (p7 : Int) (p8 : Nat) (p9 : Nat) (p10 : (List (Nat × Nat))) (p11 : (List (Nat × Nat))) (p12 : (List (List Bool))) (p13 : (List (List Int))) : Nat → Int → Option Int
  | 0, _ => none
  | n5 + 1, y3 =>
    bif (decide (y3 < (p0.length : Int))) then
     (getI p0 y3).bind fun x7 =>
     (Qhl N x7 p1 p2 p3 p4 p5 p6 p7 p8 p9 p10 p11 p12 p13).bind fun x12 =>
     bif x12 then
      some y3
     else
      Qcs N p0 p1 k2 p2 p3 p4 p5 p6 p7 p8 p9 p10 p11 p12 p13 n5 (w64 (y3 + 1))
    else
     k2 ()
def Qe2 (N : Nat) (p0 : (List Int)) (p1 : (List Int)) (p2 : Int) (p3 : Int) (p4 : Int) (p5 : (List GHour)) (p6 : Int) (p7 : Int) (p8 : Nat) (p9 : Nat) (p10 : (List (Nat × Nat))) (p11 : (List (Nat × Nat))) (p12 : (List (List Bool))) (p13 : (List (List Int))) : Option Int :=
  Qc5 (fun _ =>
    some (-1)) fun k2 : Unit → Option Int =>
  Qcs N p0 p1 k2 p2 p3 p4 p5 p6 p7 p8 p9 p10 p11 p12 p13 N 0
def Qwk (p0 : (List Int)) : AV := .dat 1 ((p0 : List Int).map Qal)
def Qz5 : AV := .fn (.func 67) [] [(.ref 0 5 (0) 0), (.ref 1 1 (0) 0), (.ref 2 1 (0) 0), (.ref 3 1 (0) 0), (.ref 4 1 (0) 0)]
def Qm8 (p1 : (List Int)) (p2 : Int) (p3 : Int) (p4 : Int) (p5 : (List GHour)) : Slot := .own 5 [[(.dat 1 ((p1 : List Int).map Qal)), (I (p2)), (I (p3)), (I (p4)), (.dat 2 ((p5 : List GHour).map Qey))]]
def Qm7 (p8 : Nat) : Slot := .own 1 [[(.own 5 1 (0) (p8))]]
def Qm6 (p9 : Nat) : Slot := .own 1 [[(.own 6 1 (0) (p9))]]
def Qm5 (p10 : (List (Nat × Nat))) : Slot := .own 1 ((p10 : List (Nat × Nat)).map (c_mr 7 1))
def Qm4 (p11 : (List (Nat × Nat))) : Slot := .own 1 ((p11 : List (Nat × Nat)).map (c_mr 8 1))
def Qm3 (p12 : (List (List Bool))) : Slot := .mat 1 (matA Qge (p12 : List (List Bool)))
def Qjh (p13 : (List (List Int))) : Slot := .mat 1 (matA Qal (p13 : List (List Int)))
theorem Qix (N : Nat) (p0 : (List Int)) (p1 : (List Int)) (p2 : Int) (p3 : Int) (p4 : Int) (p5 : (List GHour)) (p6 : Int) (p7 : Int) (p8 : Nat) (p9 : Nat) (p10 : (List (Nat × Nat))) (p11 : (List (Nat × Nat))) (p12 : (List (List Bool))) (p13 : (List (List Int))) (r : Int) (h : Qe2 N p0 p1 p2 p3 p4 p5 p6 p7 p8 p9 p10 p11 p12 p13 = some r) : Spec Tryz.prog 65 [(Qwk p0), Qz5] [(Qm8 p1 p2 p3 p4 p5), (.own 1 [[(I (p6))]]), (.own 1 [[(I (p7))]]), (Qm7 p8), (Qm6 p9), (Qm5 p10), (Qm4 p11), (Qm3 p12), (Qjh p13)] (I (r)) [(Qm8 p1 p2 p3 p4 p5), (.own 1 [[(I (p6))]]), (.own 1 [[(I (p7))]]), (Qm7 p8), (Qm6 p9), (Qm5 p10), (Qm4 p11), (Qm3 p12), (Qjh p13)] := by
  refine Qac Tryz.func65 rfl 9 (nle rfl) (fun X φ0 w0 hφ0 hd0 => ?_)
  unfold Qe2 at h
  refine Qbh ?_
  refine wx tbk [] trivial ?_
  obtain ⟨k2, hk_k2, h⟩ := jko h
  refine wjn (τ := Unit) (fun t => k2 t = some r) (fun _ => ⟨mk 19 [], [(Qm8 p1 p2 p3 p4 p5), (.own 1 [[I p6]]), (.own 1 [[I p7]]), (Qm7 p8), (Qm6 p9), (Qm5 p10), (Qm4 p11), (Qm3 p12), (Qjh p13)]⟩) (fun t h => ?_) ?_
  ·subst hk_k2
   refine wx tbk [] trivial ?_
   refine wmr (mto (n := 19) (l' := [(4, (I ((-1))))]) (own' := [(Qm8 p1 p2 p3 p4 p5), (.own 1 [[I p6]]), (.own 1 [[I p7]]), (Qm7 p8), (Qm6 p9), (Qm5 p10), (Qm4 p11), (Qm3 p12), (Qjh p13)]) [(4, (I ((-1))))] [0, 1, 2, 3, 4, 5, 6, 7, 8] [(Qm8 p1 p2 p3 p4 p5), (.own 1 [[I p6]]), (.own 1 [[I p7]]), (Qm7 p8), (Qm6 p9), (Qm5 p10), (Qm4 p11), (Qm3 p12), (Qjh p13)] hφ0 (pc rwl pn) (qc (spb (lc (.rn (.plain _ (nld Qab _))) (lc rwl (lc rwl (lc rwl (lc (.rn (.plain _ (nld Qbv _))) ln)))))) (qc (spb (lc rwl ln)) (qc (spb (lc rwl ln)) (qc (spb (lc (.rn (Qak rfl)) ln)) (qc (spb (lc (.rn (Qak rfl)) ln)) (qc (Qbz rfl) (qc (Qbz rfl) (qc (Qcm Qdi) (qc (Qcm Qab) qn)))))))))) ?_
   refine Qaa ?_
   obtain rfl := osi h
   exact ⟨_, Mor.rfl, Qb7 (vs := [(I ((-1)))]) ⟨rot (by kernel_rfl), trivial⟩ rfl (NLt.of0 nll) (by kernel_rfl) (Qaf (Qav (nlc (NLt.of0 (nld Qab _)) (nlc (NLt.of0 nll) (nlc (NLt.of0 nll) (nlc (NLt.of0 nll) (nlc (NLt.of0 (nld Qbv _)) nl0)))))) (Qaf (Qav (nlc (NLt.of0 nll) nl0)) (Qaf (Qav (nlc (NLt.of0 nll) nl0)) (Qaf (Qav (nlc (NLt.own _ _ _ _ (by decide)) nl0)) (Qaf (Qav (nlc (NLt.own _ _ _ _ (by decide)) nl0)) (Qaf (Qhd rfl) (Qaf (Qhd rfl) (Qaf (Qjb Qdi _) (Qaf (Qjb Qab _) Qbd)))))))))⟩
  ·skip
   refine wx tbk [(1, rp [(.tmp 6, (Qwk p0))] (I ((p0.length : Int))))] ⟨alm (c := Qal) (l := p0) (aln rfl Tryz.underlying73 rfl), trivial⟩ ?_
   refine Qaj ?_
   refine wmr (mto (n := 19) (l' := [(0, (Qwk p0)), (1, Qz5), (7, (I ((p0.length : Int)))), (8, I 0)]) (own' := [(Qm8 p1 p2 p3 p4 p5), (.own 1 [[I p6]]), (.own 1 [[I p7]]), (Qm7 p8), (Qm6 p9), (Qm5 p10), (Qm4 p11), (Qm3 p12), (Qjh p13)]) [(0, (Qwk p0)), (1, Qz5), (7, (I ((p0.length : Int)))), (8, I 0)] [0, 1, 2, 3, 4, 5, 6, 7, 8] [(Qm8 p1 p2 p3 p4 p5), (.own 1 [[I p6]]), (.own 1 [[I p7]]), (Qm7 p8), (Qm6 p9), (Qm5 p10), (Qm4 p11), (Qm3 p12), (Qjh p13)] hφ0 (pc (.rn (.plain _ (nld Qab _))) (pc (.rn (Qas rn0 (rnc (rqr rfl) (rnc (rqr rfl) (rnc (rqr rfl) (rnc (rqr rfl) (rnc (rqr rfl) rn0))))))) (pc rwl (pc rwl pn)))) (qc (spb (lc (.rn (.plain _ (nld Qab _))) (lc rwl (lc rwl (lc rwl (lc (.rn (.plain _ (nld Qbv _))) ln)))))) (qc (spb (lc rwl ln)) (qc (spb (lc rwl ln)) (qc (spb (lc (.rn (Qak rfl)) ln)) (qc (spb (lc (.rn (Qak rfl)) ln)) (qc (Qbz rfl) (qc (Qbz rfl) (qc (Qcm Qdi) (qc (Qcm Qab) qn)))))))))) ?_
   refine Qcl (τ := Int) (fun n t => Qcs N p0 p1 k2 p2 p3 p4 p5 p6 p7 p8 p9 p10 p11 p12 p13 n t = some r) (fun y3 => ⟨mk 19 [(0, (Qwk p0)), (1, Qz5), (7, (I ((p0.length : Int)))), (8, I y3)], [(Qm8 p1 p2 p3 p4 p5), (.own 1 [[I p6]]), (.own 1 [[I p7]]), (Qm7 p8), (Qm6 p9), (Qm5 p10), (Qm4 p11), (Qm3 p12), (Qjh p13)]⟩) (fun t h => by rw [Qcs] at h; cases h) (fun n5 ih y3 h => ?_) N (0) h
   rw [Qcs] at h
   skip
   refine wx tbk [] trivial ?_
   refine wsq ?_
   rcases bft ((decide (y3 < (p0.length : Int)))) with hc6 | hc6
   ·replace h := Qat hc6 h
    refine wft hc6 (by kernel_rfl) ?_
    refine Qam ?_
    refine thn ?_
    refine wsq ?_
    refine Qaj ?_
    refine wx tbk [] trivial ?_
    obtain ⟨x7, hg8, h⟩ := bno h
    obtain ⟨hi9, hj10⟩ := gsm hg8
    obtain ⟨x12, hf11, h⟩ := bno h
    refine wx tbk [(3, rp [(.tmp 12, (Qwk p0)), (.tmp 13, I y3)] (.dptr (Qal (x7)) 0)), (5, ⟨[(.tmp 11, Qz5), (.tmp 15, I x7)], [(0, (Qm8 p1 p2 p3 p4 p5)), (1, .own 1 [[I p6]]), (2, .own 1 [[I p7]]), (3, (Qm7 p8)), (4, (Qm6 p9)), (5, (Qm5 p10)), (6, (Qm4 p11)), (7, (Qm3 p12)), (8, (Qjh p13))], B x12, [(0, (Qm8 p1 p2 p3 p4 p5)), (1, .own 1 [[I p6]]), (2, .own 1 [[I p7]]), (3, (Qm7 p8)), (4, (Qm6 p9)), (5, (Qm5 p10)), (6, (Qm4 p11)), (7, (Qm3 p12)), (8, (Qjh p13))], false⟩)] ⟨aid rfl Tryz.underlying73 ti3 rfl rfl hi9 (mgt Qal hj10) rfl, Qah (first := []) (cap := [.ref 0 5 0 0, .ref 1 1 0 0, .ref 2 1 0 0, .ref 3 1 0 0, .ref 4 1 0 0]) (vs := [I x7]) (σr := [(Qm8 p1 p2 p3 p4 p5), (.own 1 [[I p6]]), (.own 1 [[I p7]]), (Qm7 p8), (Qm6 p9), (Qm5 p10), (Qm4 p11), (Qm3 p12), (Qjh p13)]) (σr' := [(Qm8 p1 p2 p3 p4 p5), (.own 1 [[I p6]]), (.own 1 [[I p7]]), (Qm7 p8), (Qm6 p9), (Qm5 p10), (Qm4 p11), (Qm3 p12), (Qjh p13)]) (res' := (B x12)) [0, 1, 2, 3, 4, 5, 6, 7, 8] rfl Zb3 (Qlm N x7 p1 p2 p3 p4 p5 p6 p7 p8 p9 p10 p11 p12 p13 _ hf11) rfl (Qbc (rnc (.plain _ nll) (rnc (Qa2 rfl) (rnc (Qa2 rfl) (rnc (Qa2 rfl) (rnc (Qa2 rfl) (rnc (Qa2 rfl) rn0))))))) (slc (Qae (rnc (.plain _ (nld Qab _)) (rnc (.plain _ nll) (rnc (.plain _ nll) (rnc (.plain _ nll) (rnc (.plain _ (nld Qbv _)) rn0)))))) (slc (Qae (rnc (.plain _ nll) rn0)) (slc (Qae (rnc (.plain _ nll) rn0)) (slc (Qae (rnc (Qfy rfl) rn0)) (slc (Qae (rnc (Qfy rfl) rn0)) (slc (Qkp rfl) (slc (Qkp rfl) (slc (Qja Qdi) (slc (Qja Qab) Qag))))))))) (slc (Qae (rnc (.plain _ (nld Qab _)) (rnc (.plain _ nll) (rnc (.plain _ nll) (rnc (.plain _ nll) (rnc (.plain _ (nld Qbv _)) rn0)))))) (slc (Qae (rnc (.plain _ nll) rn0)) (slc (Qae (rnc (.plain _ nll) rn0)) (slc (Qae (rnc (Qk3 rfl) rn0)) (slc (Qae (rnc (Qk3 rfl) rn0)) (slc (Qkq rfl) (slc (Qkq rfl) (slc (Qja Qdi) (slc (Qja Qab) Qag))))))))) (.plain _ nll) rfl rfl rfl, trivial⟩ ?_
    rcases bft (x12) with hc13 | hc13
    ·replace h := Qat hc13 h
     refine wft hc13 (by kernel_rfl) ?_
     refine wx tbk [] trivial ?_
     refine wmr (mto (n := 19) (l' := [(4, I y3)]) (own' := [(Qm8 p1 p2 p3 p4 p5), (.own 1 [[I p6]]), (.own 1 [[I p7]]), (Qm7 p8), (Qm6 p9), (Qm5 p10), (Qm4 p11), (Qm3 p12), (Qjh p13)]) [(4, I y3)] [0, 1, 2, 3, 4, 5, 6, 7, 8] [(Qm8 p1 p2 p3 p4 p5), (.own 1 [[I p6]]), (.own 1 [[I p7]]), (Qm7 p8), (Qm6 p9), (Qm5 p10), (Qm4 p11), (Qm3 p12), (Qjh p13)] hφ0 (pc rwl pn) (qc (spb (lc (.rn (.plain _ (nld Qab _))) (lc rwl (lc rwl (lc rwl (lc (.rn (.plain _ (nld Qbv _))) ln)))))) (qc (spb (lc rwl ln)) (qc (spb (lc rwl ln)) (qc (spb (lc (.rn (Qak rfl)) ln)) (qc (spb (lc (.rn (Qak rfl)) ln)) (qc (Qbz rfl) (qc (Qbz rfl) (qc (Qcm Qdi) (qc (Qcm Qab) qn)))))))))) ?_
     refine Qaa ?_
     refine Qa3 ?_
     refine Qan ?_
     refine Qan ?_
     refine Qa3 ?_
     refine Qan ?_
     obtain rfl := osi h
     exact ⟨_, Mor.rfl, Qb7 (vs := [I y3]) ⟨rot (by kernel_rfl), trivial⟩ rfl (NLt.of0 nll) (by kernel_rfl) (Qaf (Qav (nlc (NLt.of0 (nld Qab _)) (nlc (NLt.of0 nll) (nlc (NLt.of0 nll) (nlc (NLt.of0 nll) (nlc (NLt.of0 (nld Qbv _)) nl0)))))) (Qaf (Qav (nlc (NLt.of0 nll) nl0)) (Qaf (Qav (nlc (NLt.of0 nll) nl0)) (Qaf (Qav (nlc (NLt.own _ _ _ _ (by decide)) nl0)) (Qaf (Qav (nlc (NLt.own _ _ _ _ (by decide)) nl0)) (Qaf (Qhd rfl) (Qaf (Qhd rfl) (Qaf (Qjb Qdi _) (Qaf (Qjb Qab _) Qbd)))))))))⟩
    ·replace h := Qau hc13 h
     refine wfn hc13 (by kernel_rfl) ?_
     refine Qam ?_
     refine bln ?_
     refine thn ?_
     refine wx1 tbk [] trivial ?_
     refine thn ?_
     exact arm (mto (n := 19) [(0, (Qwk p0)), (1, Qz5), (7, (I ((p0.length : Int)))), (8, (I (w64 (y3 + 1))))] [0, 1, 2, 3, 4, 5, 6, 7, 8] [(Qm8 p1 p2 p3 p4 p5), (.own 1 [[I p6]]), (.own 1 [[I p7]]), (Qm7 p8), (Qm6 p9), (Qm5 p10), (Qm4 p11), (Qm3 p12), (Qjh p13)] hφ0 (pc (.rn (.plain _ (nld Qab _))) (pc (.rn (Qas rn0 (rnc (rqr rfl) (rnc (rqr rfl) (rnc (rqr rfl) (rnc (rqr rfl) (rnc (rqr rfl) rn0))))))) (pc rwl (pc rwl pn)))) (qc (spb (lc (.rn (.plain _ (nld Qab _))) (lc rwl (lc rwl (lc rwl (lc (.rn (.plain _ (nld Qbv _))) ln)))))) (qc (spb (lc rwl ln)) (qc (spb (lc rwl ln)) (qc (spb (lc (.rn (Qak rfl)) ln)) (qc (spb (lc (.rn (Qak rfl)) ln)) (qc (Qbz rfl) (qc (Qbz rfl) (qc (Qcm Qdi) (qc (Qcm Qab) qn)))))))))) (ih (w64 (y3 + 1)) h)
   ·replace h := Qau hc6 h
    refine wfn hc6 (by kernel_rfl) ?_
    refine Qbr ?_
    refine Qay ?_
    refine Qay ?_
    refine Qbq rfl ?_
    refine thn ?_
    exact ⟨(), h, (mto (n := 19) [] [0, 1, 2, 3, 4, 5, 6, 7, 8] [(Qm8 p1 p2 p3 p4 p5), (.own 1 [[I p6]]), (.own 1 [[I p7]]), (Qm7 p8), (Qm6 p9), (Qm5 p10), (Qm4 p11), (Qm3 p12), (Qjh p13)] hφ0 pn (qc (spb (lc (.rn (.plain _ (nld Qab _))) (lc rwl (lc rwl (lc rwl (lc (.rn (.plain _ (nld Qbv _))) ln)))))) (qc (spb (lc rwl ln)) (qc (spb (lc rwl ln)) (qc (spb (lc (.rn (Qak rfl)) ln)) (qc (spb (lc (.rn (Qak rfl)) ln)) (qc (Qbz rfl) (qc (Qbz rfl) (qc (Qcm Qdi) (qc (Qcm Qab) qn))))))))))⟩
def Qeo (N : Nat) (p0 : GJob) (y13 : (List (Nat × Nat))) (y14 : (List (Nat × Nat))) (y15 : (List (List Int))) (y16 : (List (List Bool))) (k27 : (List Int) → Option ((List Int) × Int × (List (List Int)) × Int)) : Nat → (List Int) → Int → Int → Option ((List Int) × Int × (List (List Int)) × Int)
  | 0, _, _, _ => none
  | n43 + 1, y37, y38, y39 =>
    bif (decide (y38 < (p0.Hours.length : Int))) then
     (Qk6 N p0).bind fun x46 =>
     (Qe2 N x46 p0.Levels p0.Ramp p0.Start p0.First p0.Hours y38 y39 ((((w64 ((p0.Hours.length : Int) + 1)).toNat : Nat) : Int).toNat) ((w64 ((p0.Hours.length : Int) + 1)).toNat) y14 y13 y16 y15).bind fun x48 =>
     chk (decide ((y37.length + ([x48]).length) * 8 ≤ 140737488355328)) <|
     Qeo N p0 y13 y14 y15 y16 k27 n43 (y37 ++ ([x48])) (w64 (y38 + 1)) x48
    else
     k27 (y37)
def Qen (N : Nat) (p0 : GJob) (k17 : (List (Nat × Nat)) × (List (Nat × Nat)) × (List (List Int)) × (List (List Bool)) → Option ((List Int) × Int × (List (List Int)) × Int)) : Nat → Int → (List (Nat × Nat)) → (List (Nat × Nat)) → (List (List Int)) → (List (List Bool)) → Option ((List Int) × Int × (List (List Int)) × Int)
  | 0, _, _, _, _, _ => none
  | n60 + 1, y50, y51, y52, y53, y54 =>
    bif (decide (y50 ≥ 0)) then
     (Qhm N y50 p0.Levels p0.Ramp p0.Start p0.First p0.Hours ((w64 ((p0.Hours.length : Int) + 1)).toNat) ((((w64 ((p0.Hours.length : Int) + 1)).toNat : Nat) : Int).toNat) y51 y52 y53 y54).bind fun x63 =>
     Qen N p0 k17 n60 (w64 (y50 - 1)) (y51.set y50.toNat (y53.length, (p0.Levels.length : Int).toNat)) (y52.set y50.toNat (y54.length, (p0.Levels.length : Int).toNat)) x63.1 x63.2
    else
     k17 (y51, y52, y53, y54)
def Qj2 (N : Nat) (p0 : GJob) : Option ((List Int) × Int × (List (List Int)) × Int) :=
  (Qjf N p0).bind fun x9 =>
  bif (!x9) then
   some ([], 0, [], 1)
  else
   chk (decide (0 ≤ w64 ((p0.Hours.length : Int) + 1)) && decide (24 * (w64 ((p0.Hours.length : Int) + 1)) ≤ 281474976710656) && decide (w64 ((p0.Hours.length : Int) + 1) ≤ 9223372036854775807)) <|
   chk (decide (0 ≤ (((w64 ((p0.Hours.length : Int) + 1)).toNat : Nat) : Int)) && decide (24 * (((w64 ((p0.Hours.length : Int) + 1)).toNat : Nat) : Int) ≤ 281474976710656) && decide ((((w64 ((p0.Hours.length : Int) + 1)).toNat : Nat) : Int) ≤ 9223372036854775807)) <|
   Qc5 (fun ⟨y13, y14, y15, y16⟩ =>
     chk (decide (0 ≤ 0) && decide ((0 : Int).toNat < (((w64 ((p0.Hours.length : Int) + 1)).toNat : Nat) : Int).toNat)) <|
     (y14[(0 : Int).toNat]?).bind fun x19 =>
     chk (!(y16.getD x19.1 []).isEmpty) <|
     chk (decide (0 ≤ p0.First) && decide (p0.First.toNat < x19.2)) <|
     (getM y16 x19.1 p0.First.toNat).bind fun x23 =>
     bif (!x23) then
      some ([], 0, [], 7)
     else
      Qc5 (fun y26 =>
        chk (decide (0 ≤ 0) && decide ((0 : Int).toNat < (w64 ((p0.Hours.length : Int) + 1)).toNat)) <|
        (y13[(0 : Int).toNat]?).bind fun x29 =>
        chk (!(y15.getD x29.1 []).isEmpty) <|
        chk (decide (0 ≤ p0.First) && decide (p0.First.toNat < x29.2)) <|
        (getM y15 x29.1 p0.First.toNat).bind fun x33 =>
        chk (y13.all fun x => decide (x.2 ≤ (y15.getD x.1 []).length)) <|
        chk (decide ((w64 ((p0.Hours.length : Int) + 1)).toNat ≤ ((y13).map fun x => (y15.getD x.1 []).take x.2).length)) <|
        some (y26, x33, ((y13).map fun x => (y15.getD x.1 []).take x.2).take ((w64 ((p0.Hours.length : Int) + 1)).toNat), 0)) fun k27 : (List Int) → Option ((List Int) × Int × (List (List Int)) × Int) =>
      Qeo N p0 y13 y14 y15 y16 k27 N ([]) 0 p0.First) fun k17 : (List (Nat × Nat)) × (List (Nat × Nat)) × (List (List Int)) × (List (List Bool)) → Option ((List Int) × Int × (List (List Int)) × Int) =>
   Qen N p0 k17 N (p0.Hours.length : Int) (List.replicate (w64 ((p0.Hours.length : Int) + 1)).toNat (0, 0)) (List.replicate (((w64 ((p0.Hours.length : Int) + 1)).toNat : Nat) : Int).toNat (0, 0)) ([] : List (List Int)) ([] : List (List Bool))
def Q1w (p0 : GJob) : AV := .dat 2 ((p0.Hours : List GHour).map Qey)
def Q5n (p0 : GJob) : AV := .agg [(.dat 1 ((p0.Levels : List Int).map Qal)), (I (p0.Ramp)), (I (p0.Start)), (I (p0.First)), (Q1w p0)]
def Qyf : AV := .dat 1 (([] : List Int).map Qal)
def Q7w : AV := .dat 1 ((([]) : List (List Int)).map Qlk)
def Qye : AV := .dat 1 (([] : List (List Int)).map Qlk)
def Zdo (p0 : GJob) : Slot := .own 1 ((List.replicate (w64 ((p0.Hours.length : Int) + 1)).toNat (0, 0) : List (Nat × Nat)).map (c_mr 3 1))
def Q9m : Slot := .mat 1 (matA Qal (([] : List (List Int)) : List (List Int)))
def Zdn (p0 : GJob) : Slot := .own 1 ((List.replicate (((w64 ((p0.Hours.length : Int) + 1)).toNat : Nat) : Int).toNat (0, 0) : List (Nat × Nat)).map (c_mr 5 1))
def Q9l : Slot := .mat 1 (matA Qge (([] : List (List Bool)) : List (List Bool)))
def Q7x : AV := .fn (.func 63) [] [(.ref 0 5 (0) 0), (.ref 1 1 (0) 0), (.ref 6 1 (0) 0)]
def Qj7 (p0 : GJob) : Slot := .own 5 [[(.dat 1 ((p0.Levels : List Int).map Qal)), (I (p0.Ramp)), (I (p0.Start)), (I (p0.First)), (Q1w p0)]]
def Qn5 (p0 : GJob) : Slot := .own 1 [[(.own 3 1 (0) ((w64 ((p0.Hours.length : Int) + 1)).toNat))]]
def Qui (p0 : GJob) : Slot := .own 1 [[(.own 4 1 (0) ((((w64 ((p0.Hours.length : Int) + 1)).toNat : Nat) : Int).toNat))]]
def Qs1 (y14 : (List (Nat × Nat))) : Slot := .own 1 ((y14 : List (Nat × Nat)).map (c_mr 6 1))
def Qif (y15 : (List (List Int))) : Slot := .mat 1 (matA Qal (y15 : List (List Int)))
def Qjw (y16 : (List (List Bool))) : Slot := .mat 1 (matA Qge (y16 : List (List Bool)))
def Qs0 (y26 : (List Int)) : AV := .acc 1 3 1 ((y26 : List Int).map Qal)
def Qwt (y13 : (List (Nat × Nat))) : Slot := .own 1 ((y13 : List (Nat × Nat)).map (c_mr 4 1))
def Qws (y13 : (List (Nat × Nat))) (y15 : (List (List Int))) (p0 : GJob) : AV := .dat 1 ((((y13).map fun x => (y15.getD x.1 []).take x.2).take ((w64 ((p0.Hours.length : Int) + 1)).toNat) : List (List Int)).map Qlk)
def Qwr (y13 : (List (Nat × Nat))) (y15 : (List (List Int))) (p0 : GJob) : AV := .dat 1 (((((y13).map fun x => (y15.getD x.1 []).take x.2).take ((w64 ((p0.Hours.length : Int) + 1)).toNat)) : List (List Int)).map Qlk)
def Quj (p0 : GJob) : Slot := .own 1 [[(.own 5 1 (0) ((w64 ((p0.Hours.length : Int) + 1)).toNat))]]
def Qyg (p0 : GJob) : Slot := .own 1 [[(.own 6 1 (0) ((((w64 ((p0.Hours.length : Int) + 1)).toNat : Nat) : Int).toNat))]]
def Qls (y13 : (List (Nat × Nat))) : Slot := .own 1 ((y13 : List (Nat × Nat)).map (c_mr 7 1))
def Qnp (y14 : (List (Nat × Nat))) : Slot := .own 1 ((y14 : List (Nat × Nat)).map (c_mr 8 1))
def Qwq (y37 : (List Int)) : AV := .acc 1 3 1 ((y37 : List Int).map Qal)
def Q1t : AV := .fn (.func 67) [] [(.ref 0 5 (0) 0), (.ref 9 1 (0) 0), (.ref 4 1 (0) 0), (.ref 3 1 (0) 0), (.ref 2 1 (0) 0)]
def Q1s (p0 : GJob) : Slot := .own 1 [[(.own 6 1 (0) (((((w64 ((p0.Hours.length : Int) + 1)).toNat : Nat) : Int).toNat)))]]
def Q1r (p0 : GJob) : Slot := .own 1 [[(.own 5 1 (0) (((w64 ((p0.Hours.length : Int) + 1)).toNat)))]]
def Qyh : AV := .fn (.func 63) [] [(.ref 0 5 (0) 0), (.ref 1 1 (0) 0), (.ref 2 1 (0) 0)]
def Qsz (y51 : (List (Nat × Nat))) : Slot := .own 1 ((y51 : List (Nat × Nat)).map (c_mr 5 1))
def Qsy (y52 : (List (Nat × Nat))) : Slot := .own 1 ((y52 : List (Nat × Nat)).map (c_mr 6 1))
def Qsx (y53 : (List (List Int))) : Slot := .mat 1 (matA Qal (y53 : List (List Int)))
def Qsw (y54 : (List (List Bool))) : Slot := .mat 1 (matA Qge (y54 : List (List Bool)))
def Q1v (p0 : GJob) : Slot := .own 1 [[(.own 3 1 (0) (((w64 ((p0.Hours.length : Int) + 1)).toNat)))]]
def Q1u (p0 : GJob) : Slot := .own 1 [[(.own 4 1 (0) (((((w64 ((p0.Hours.length : Int) + 1)).toNat : Nat) : Int).toNat)))]]
def Qwp (y51 : (List (Nat × Nat))) (y50 : Int) (y53 : (List (List Int))) (p0 : GJob) : Slot := .own 1 ((y51.set y50.toNat (y53.length, (p0.Levels.length : Int).toNat) : List (Nat × Nat)).map (c_mr 5 1))
def Qwo (y52 : (List (Nat × Nat))) (y50 : Int) (y54 : (List (List Bool))) (p0 : GJob) : Slot := .own 1 ((y52.set y50.toNat (y54.length, (p0.Levels.length : Int).toNat) : List (Nat × Nat)).map (c_mr 6 1))
theorem Qok (N : Nat) (p0 : GJob) (r : ((List Int) × Int × (List (List Int)) × Int)) (h : Qj2 N p0 = some r) : Spec Tryz.prog 25 [(.agg (Qvy p0))] [] (.tup [(.dat 1 ((r.1 : List Int).map Qal)), (I (r.2.1)), (.dat 1 ((r.2.2.1 : List (List Int)).map Qlk)), (I (r.2.2.2))]) [] := by
  refine Qac Tryz.func25 rfl 0 (nle rfl) (fun X φ0 w0 hφ0 hd0 => ?_)
  unfold Qj2 at h
  refine Qbh ?_
  refine wx tbk [] trivial ?_
  refine wsq ?_
  obtain ⟨x9, hf8, h⟩ := bno h
  refine wx tbk [(1, rp [fu 62, (.tmp 12, (Q5n p0))] (B x9))] ⟨apc (first := []) (cap := []) (vs := [(Q5n p0)]) rfl Zb6 (Qn0 N p0 _ hf8) rfl rfl (nlc (NLt.agg _ (nlc (nld Qab _) (nlc nll (nlc nll (nlc nll (nlc (nld Qbv _) nl0)))))) nl0) nll rfl, trivial⟩ ?_
  rcases bft ((!x9)) with hc10 | hc10
  ·replace h := Qat hc10 h
   refine wft hc10 (by kernel_rfl) ?_
   refine wx tbk [] trivial ?_
   refine wmr (mto (n := 69) (l' := [(2, Qyf), (3, I 0), (4, .ref 0 1 0 0), (5, I 1)]) (own' := [(.own 1 [[Q7w]])]) [(2, nilS), (3, I 0), (4, .ref 1 1 0 0), (5, I 1)] [1] [(.own 1 [[nilS]])] hφ0 (pc (.nil _) (pc rwl (pc (.rn (rqr rfl)) (pc rwl pn)))) (qc (spb (lc (.nil _) ln)) qn)) ?_
   refine Qaa ?_
   refine Qan ?_
   obtain rfl := osi h
   exact ⟨_, Mor.rfl, ⟨⟨[Qyf, I 0, Qye, I 1], ⟨rot (by kernel_rfl), rot (by kernel_rfl), Qa0 (n := 0) (m := 1) (j := 0) (i := 0) (xs := [[Qye]]) (by kernel_rfl) (by kernel_rfl) ti79 (by decide) rfl (nle rfl) rfl, rot (by kernel_rfl), trivial⟩, rfl⟩, (NLt.tup _ (nlc (nld Qab _) (nlc nll (nlc (nld Qq2 _) (nlc nll nl0))))), Nat.le_refl _, fun n hn => absurd hn (Nat.not_lt_zero n)⟩⟩
  ·replace h := Qau hc10 h
   refine wfn hc10 (by kernel_rfl) ?_
   refine Qam ?_
   refine thn ?_
   obtain ⟨hm11, h⟩ := cko h
   refine wx tbk [(2, rp [(.tmp 16, (Q1w p0))] (I ((p0.Hours.length : Int)))), (4, ⟨[(.tmp 18, (I (w64 ((p0.Hours.length : Int) + 1)))), (.tmp 18, (I (w64 ((p0.Hours.length : Int) + 1))))], [(2, .unused), (3, .unused)], (.own 2 1 (0) ((w64 ((p0.Hours.length : Int) + 1)).toNat)), [(2, (Zdo p0)), (3, Q9m)], false⟩)] ⟨alm (c := Qey) (l := p0.Hours) (aln rfl Tryz.underlying82 rfl), Qsp 1 rfl (Qjv rfl Tryz.underlying79 te73 tz73 rfl (Qwd hm11) rfl (Qwc hm11) (Qst hm11) rfl), trivial⟩ ?_
   obtain ⟨hm12, h⟩ := cko h
   refine wx tbk [(1, rp [(.tmp 20, (.own 2 1 (0) ((w64 ((p0.Hours.length : Int) + 1)).toNat)))] (I ((((w64 ((p0.Hours.length : Int) + 1)).toNat : Nat) : Int)))), (2, ⟨[(.tmp 21, (I ((((w64 ((p0.Hours.length : Int) + 1)).toNat : Nat) : Int)))), (.tmp 21, (I ((((w64 ((p0.Hours.length : Int) + 1)).toNat : Nat) : Int))))], [(4, .unused), (5, .unused)], (.own 4 1 (0) ((((w64 ((p0.Hours.length : Int) + 1)).toNat : Nat) : Int).toNat)), [(4, (Zdn p0)), (5, Q9l)], false⟩)] ⟨aln rfl Tryz.underlying79 rfl, Qsp 1 rfl (Qjv rfl Tryz.underlying132 Zfe Zd2 rfl (Qwd hm12) rfl (Qwc hm12) (Qst hm12) rfl), trivial⟩ ?_
   refine wx tbk [(0, rp [(.tmp 1, .ref 0 5 0 0), (.tmp 4, .ref 1 1 0 0), (.tmp 6, .ref 6 1 0 0)] Q7x)] ⟨Qdd (fs := []) (cs := [.ref 0 5 0 0, .ref 1 1 0 0, .ref 6 1 0 0]) rfl rfl rfl rfl, trivial⟩ ?_
   obtain ⟨k17, hk_k17, h⟩ := jko h
   refine wjn (τ := (List (Nat × Nat)) × (List (Nat × Nat)) × (List (List Int)) × (List (List Bool))) (fun t => k17 t = some r) (fun ⟨y13, y14, y15, y16⟩ => ⟨mk 69 [(1, .ref 0 5 0 0), (2, nilS), (4, .ref 1 1 0 0), (6, .ref 2 1 0 0)], [(Qj7 p0), (Qn5 p0), (Qui p0), (.own 1 ((y13 : List (Nat × Nat)).map (c_mr 5 1))), (Qs1 y14), (Qif y15), (Qjw y16)]⟩) (fun t h => ?_) ?_
   ·subst hk_k17
    obtain ⟨y13, y14, y15, y16⟩ := t
    refine wsq ?_
    obtain ⟨hi18, h⟩ := cko h
    obtain ⟨hi18a, hi18b⟩ := Qbi hi18
    obtain ⟨x19, hg20, h⟩ := bno h
    obtain ⟨hz22, h⟩ := cko h
    obtain ⟨hi21, h⟩ := cko h
    obtain ⟨hi21a, hi21b⟩ := Qbi hi21
    obtain ⟨x23, hg24, h⟩ := bno h
    refine wxd tbk [(1, rb [(.tmp 34, (.own 4 1 (0) ((((w64 ((p0.Hours.length : Int) + 1)).toNat : Nat) : Int).toNat))), ci 0] [(4, (Qs1 y14))] (.ref 4 1 ((0 : Int).toNat) 0)), (2, rb [(.tmp 35, (.ref 4 1 ((0 : Int).toNat) 0))] [(4, (Qs1 y14))] (.row 6 x19.1 1 (0) (x19.2))), (5, rb [(.tmp 36, (.row 6 x19.1 1 (0) (x19.2))), (.tmp 38, I p0.First)] [(6, (Qjw y16))] (.rowp 6 x19.1 1 (p0.First.toNat) 0)), (6, rb [(.tmp 39, (.rowp 6 x19.1 1 (p0.First.toNat) 0))] [(6, (Qjw y16))] (B x23))] ⟨aio rfl Tryz.underlying132 Qki (odt hi18a) (odt hi18b) (Nat.zero_add _), ald rfl Qki (by decide) (mgt (c_mr 6 1) hg20) (nle rfl) rfl, Qdn rfl Tryz.underlying133 ti4 (odt hi21a) (odt hi21b) hz22 (Nat.zero_add _), Qfb rfl ti4 (by decide) hg24 (nle rfl) rfl, trivial⟩ ?_
    rcases bft ((!x23)) with hc25 | hc25
    ·replace h := Qat hc25 h
     refine wft hc25 (by kernel_rfl) ?_
     refine wx tbk [] trivial ?_
     refine wmr (mto (n := 69) (l' := [(2, Qyf), (3, I 0), (4, .ref 0 1 0 0), (5, I 7)]) (own' := [(.own 1 [[Q7w]])]) [(2, nilS), (3, I 0), (4, .ref 1 1 0 0), (5, I 7)] [1] [(.own 1 [[nilS]])] hφ0 (pc (.nil _) (pc rwl (pc (.rn (rqr rfl)) (pc rwl pn)))) (qc (spb (lc (.nil _) ln)) qn)) ?_
     refine Qaa ?_
     refine Qan ?_
     obtain rfl := osi h
     exact ⟨_, Mor.rfl, ⟨⟨[Qyf, I 0, Qye, I 7], ⟨rot (by kernel_rfl), rot (by kernel_rfl), Qa0 (n := 0) (m := 1) (j := 0) (i := 0) (xs := [[Qye]]) (by kernel_rfl) (by kernel_rfl) ti79 (by decide) rfl (nle rfl) rfl, rot (by kernel_rfl), trivial⟩, rfl⟩, (NLt.tup _ (nlc (nld Qab _) (nlc nll (nlc (nld Qq2 _) (nlc nll nl0))))), Nat.le_refl _, fun n hn => absurd hn (Nat.not_lt_zero n)⟩⟩
    ·replace h := Qau hc25 h
     refine wfn hc25 (by kernel_rfl) ?_
     refine Qam ?_
     refine thn ?_
     refine wx tbk [] trivial ?_
     obtain ⟨k27, hk_k27, h⟩ := jko h
     refine wjn (τ := (List Int)) (fun t => k27 t = some r) (fun y26 => ⟨mk 69 [(1, .ref 0 5 0 0), (2, (Qs0 y26)), (4, .ref 2 1 0 0)], [(Qj7 p0), .tok, (Qn5 p0), (Qwt y13), (Qif y15)]⟩) (fun y26 h => ?_) ?_
     ·subst hk_k27
      obtain ⟨hi28, h⟩ := cko h
      obtain ⟨hi28a, hi28b⟩ := Qbi hi28
      obtain ⟨x29, hg30, h⟩ := bno h
      obtain ⟨hz32, h⟩ := cko h
      obtain ⟨hi31, h⟩ := cko h
      obtain ⟨hi31a, hi31b⟩ := Qbi hi31
      obtain ⟨x33, hg34, h⟩ := bno h
      refine wxd tbk [(2, rb [(.tmp 61, (.own 3 1 (0) ((w64 ((p0.Hours.length : Int) + 1)).toNat))), ci 0] [(3, (Qwt y13))] (.ref 3 1 ((0 : Int).toNat) 0)), (3, rb [(.tmp 62, (.ref 3 1 ((0 : Int).toNat) 0))] [(3, (Qwt y13))] (.row 4 x29.1 1 (0) (x29.2))), (6, rb [(.tmp 63, (.row 4 x29.1 1 (0) (x29.2))), (.tmp 65, I p0.First)] [(4, (Qif y15))] (.rowp 4 x29.1 1 (p0.First.toNat) 0)), (7, rb [(.tmp 66, (.rowp 4 x29.1 1 (p0.First.toNat) 0))] [(4, (Qif y15))] (I x33))] ⟨aio rfl Tryz.underlying79 ti73 (odt hi28a) (odt hi28b) (Nat.zero_add _), ald rfl ti73 (by decide) (mgt (c_mr 4 1) hg30) (nle rfl) rfl, Qdn rfl Tryz.underlying73 ti3 (odt hi31a) (odt hi31b) hz32 (Nat.zero_add _), Qfb rfl ti3 (by decide) hg34 (nle rfl) rfl, trivial⟩ ?_
      obtain ⟨hz35, h⟩ := cko h
      refine wmr (Zba (q := 3) (a := 4) (m := 1) (c := Qal) (cl := Qlk) (E := y13) (R := y15) (own' := [(Qj7 p0), .tok, (Qn5 p0), (.own 1 (((y13).map fun x => (y15.getD x.1 []).take x.2 : List (List Int)).map Qlk)), .dead]) rfl (by kernel_rfl) (by kernel_rfl) (by kernel_rfl) hz35 (fun _ => rfl) (by kernel_rfl)) ?_
      obtain ⟨hz36, h⟩ := cko h
      refine wmr (Za9 (n := 69) (mp := 1) (m := 1) (xs := ((y13).map fun x => (y15.getD x.1 []).take x.2 : List (List Int)).map Qlk) (c := [(.own 3 1 (0) ((w64 ((p0.Hours.length : Int) + 1)).toNat))]) (l' := [(2, (Qs0 y26)), (3, I x33), (4, .ref 2 1 0 0), (5, I 0)]) (c' := [(Qws y13 y15 p0)]) (own' := [(Qj7 p0), .tok, (.own 1 [[(Qws y13 y15 p0)]]), .dead, .dead]) 3 2 [(2, (Qs0 y26)), (3, I x33), (4, .ref 2 1 0 0), (5, I 0)] (by kernel_rfl) (by kernel_rfl) (by kernel_rfl) (by kernel_rfl) ⟨(Qtp hz36), trivial⟩ ⟨rfl, (.same _), rfl, (.same _), rfl, (.same _), rfl, (.same _), trivial⟩ (by kernel_rfl)) ?_
      refine wmr (mto (n := 69) (l' := [(2, (.dat 1 ((y26 : List Int).map Qal))), (3, I x33), (4, .ref 0 1 0 0), (5, I 0)]) (own' := [(.own 1 [[(Qwr y13 y15 p0)]])]) [(2, (Qs0 y26)), (3, I x33), (4, .ref 2 1 0 0), (5, I 0)] [2] [(.own 1 [[(Qws y13 y15 p0)]])] hφ0 (pc (.dat _ _ _ _ (Qfr Qab _)) (pc rwl (pc (.rn (rqr rfl)) (pc rwl pn)))) (qc (spb (lc (.rn (.plain _ (nld Qq2 _))) ln)) qn)) ?_
      refine Qaa ?_
      obtain rfl := osi h
      exact ⟨_, Mor.rfl, ⟨⟨[(.dat 1 ((y26 : List Int).map Qal)), I x33, (Qwr y13 y15 p0), I 0], ⟨rot (by kernel_rfl), rot (by kernel_rfl), Qa0 (n := 0) (m := 1) (j := 0) (i := 0) (xs := [[(Qwr y13 y15 p0)]]) (by kernel_rfl) (by kernel_rfl) ti79 (by decide) rfl (nle rfl) rfl, rot (by kernel_rfl), trivial⟩, rfl⟩, (NLt.tup _ (nlc (nld Qab _) (nlc nll (nlc (nld Qq2 _) (nlc nll nl0))))), Nat.le_refl _, fun n hn => absurd hn (Nat.not_lt_zero n)⟩⟩
     ·skip
      refine wx tbk [(2, rp [(.tmp 45, (Q1w p0))] (I ((p0.Hours.length : Int))))] ⟨alm (c := Qey) (l := p0.Hours) (aln rfl Tryz.underlying82 rfl), trivial⟩ ?_
      refine Qaj ?_
      refine wmr (Mor.trans (Qtk 8 3 1 2 (by kernel_rfl) (by kernel_rfl)) (mto (n := 69) (l' := [(1, .ref 0 5 0 0), (2, (.acc 1 3 1 ((([]) : List Int).map Qal))), (4, .ref 2 1 0 0), (6, .ref 3 1 0 0), (9, .ref 4 1 0 0), (46, (I ((p0.Hours.length : Int)))), (47, I 0)]) (own' := [(Qj7 p0), .tok, (Quj p0), (Qyg p0), (.own 1 [[I p0.First]]), (Qls y13), (Qnp y14), (Qif y15), (Qjw y16)]) [(1, .ref 0 5 0 0), (2, (.acc 8 3 1 (([] : List Int).map Qal))), (4, .ref 1 1 0 0), (6, .ref 2 1 0 0), (9, .ref 7 1 0 0), (46, (I ((p0.Hours.length : Int)))), (47, I 0)] [0, 8, 1, 2, 7, 3, 4, 5, 6] [(Qj7 p0), .tok, (Qn5 p0), (Qui p0), (.own 1 [[I p0.First]]), (.own 1 ((y13 : List (Nat × Nat)).map (c_mr 5 1))), (Qs1 y14), (Qif y15), (Qjw y16)] hφ0 (pc (.rn (rqr rfl)) (pc (.rn (Qhg rfl (Qfr Qab _))) (pc (.rn (rqr rfl)) (pc (.rn (rqr rfl)) (pc (.rn (rqr rfl)) (pc rwl (pc rwl pn))))))) (qc (spb (lc (.rn (.plain _ (nld Qab _))) (lc rwl (lc rwl (lc rwl (lc (.rn (.plain _ (nld Qbv _))) ln)))))) (qc .tok (qc (spb (lc (.rn (Qak rfl)) ln)) (qc (spb (lc (.rn (Qak rfl)) ln)) (qc (spb (lc rwl ln)) (qc (Qbz rfl) (qc (Qbz rfl) (qc (Qcm Qab) (qc (Qcm Qdi) qn))))))))))) ?_
      refine Qcl (τ := (List Int) × Int × Int) (fun n t => Qeo N p0 y13 y14 y15 y16 k27 n t.1 t.2.1 t.2.2 = some r) (fun ⟨y37, y38, y39⟩ => ⟨mk 69 [(1, .ref 0 5 0 0), (2, (Qwq y37)), (4, .ref 2 1 0 0), (6, .ref 3 1 0 0), (9, .ref 4 1 0 0), (46, (I ((p0.Hours.length : Int)))), (47, I y38)], [(Qj7 p0), .tok, (Quj p0), (Qyg p0), (.own 1 [[I y39]]), (Qls y13), (Qnp y14), (Qif y15), (Qjw y16)]⟩) (fun t h => by rw [Qeo] at h; cases h) (fun n43 ih t h => ?_) N ([], 0, p0.First) h
      obtain ⟨y37, y38, y39⟩ := t
      rw [Qeo] at h
      skip
      refine wx tbk [] trivial ?_
      refine wsq ?_
      rcases bft ((decide (y38 < (p0.Hours.length : Int)))) with hc44 | hc44
      ·replace h := Qat hc44 h
       refine wft hc44 (by kernel_rfl) ?_
       refine Qam ?_
       refine thn ?_
       refine wsq ?_
       refine Qaj ?_
       refine wx tbk [] trivial ?_
       obtain ⟨x46, hf45, h⟩ := bno h
       obtain ⟨x48, hf47, h⟩ := bno h
       refine wx tbk [(1, rp [fu 66, (.tmp 50, (Q5n p0))] (.dat 1 ((x46 : List Int).map Qal))), (2, rp [(.tmp 1, .ref 0 5 0 0), (.tmp 10, .ref 9 1 0 0), (.tmp 9, .ref 4 1 0 0), (.tmp 6, .ref 3 1 0 0), (.tmp 4, .ref 2 1 0 0)] Q1t), (3, ⟨[fu 65, (.tmp 51, (.dat 1 ((x46 : List Int).map Qal))), (.tmp 52, Q1t)], [(0, (Qj7 p0)), (9, .own 1 [[I y38]]), (4, .own 1 [[I y39]]), (3, (Qyg p0)), (2, (Quj p0)), (6, (Qnp y14)), (5, (Qls y13)), (8, (Qjw y16)), (7, (Qif y15))], I x48, [(0, (Qj7 p0)), (9, .own 1 [[I y38]]), (4, .own 1 [[I y39]]), (3, (Q1s p0)), (2, (Q1r p0)), (6, (Qnp y14)), (5, (Qls y13)), (8, (Qjw y16)), (7, (Qif y15))], false⟩)] ⟨apc (first := []) (cap := []) (vs := [(Q5n p0)]) rfl Zb4 (Qp2 N p0 _ hf45) rfl rfl (nlc (NLt.agg _ (nlc (nld Qab _) (nlc nll (nlc nll (nlc nll (nlc (nld Qbv _) nl0)))))) nl0) (nld Qab _) rfl, Qdd (fs := []) (cs := [.ref 0 5 0 0, .ref 9 1 0 0, .ref 4 1 0 0, .ref 3 1 0 0, .ref 2 1 0 0]) rfl rfl rfl rfl, Qah (first := []) (cap := []) (vs := [(.dat 1 ((x46 : List Int).map Qal)), Q1t]) (σr := [(Qj7 p0), (.own 1 [[I y38]]), (.own 1 [[I y39]]), (Qyg p0), (Quj p0), (Qnp y14), (Qls y13), (Qjw y16), (Qif y15)]) (σr' := [(Qj7 p0), (.own 1 [[I y38]]), (.own 1 [[I y39]]), (Q1s p0), (Q1r p0), (Qnp y14), (Qls y13), (Qjw y16), (Qif y15)]) (res' := (I x48)) [0, 9, 4, 3, 2, 6, 5, 8, 7] rfl Qxm (Qix N x46 p0.Levels p0.Ramp p0.Start p0.First p0.Hours y38 y39 ((((w64 ((p0.Hours.length : Int) + 1)).toNat : Nat) : Int).toNat) ((w64 ((p0.Hours.length : Int) + 1)).toNat) y14 y13 y16 y15 _ hf47) rfl (Qbc (rnc (.plain _ (nld Qab _)) (rnc (Qas rn0 (rnc (Qa2 rfl) (rnc (Qa2 rfl) (rnc (Qa2 rfl) (rnc (Qa2 rfl) (rnc (Qa2 rfl) rn0)))))) rn0))) (slc (Qae (rnc (.plain _ (nld Qab _)) (rnc (.plain _ nll) (rnc (.plain _ nll) (rnc (.plain _ nll) (rnc (.plain _ (nld Qbv _)) rn0)))))) (slc (Qae (rnc (.plain _ nll) rn0)) (slc (Qae (rnc (.plain _ nll) rn0)) (slc (Qae (rnc (Qfy rfl) rn0)) (slc (Qae (rnc (Qfy rfl) rn0)) (slc (Qkp rfl) (slc (Qkp rfl) (slc (Qja Qdi) (slc (Qja Qab) Qag))))))))) (slc (Qae (rnc (.plain _ (nld Qab _)) (rnc (.plain _ nll) (rnc (.plain _ nll) (rnc (.plain _ nll) (rnc (.plain _ (nld Qbv _)) rn0)))))) (slc (Qae (rnc (.plain _ nll) rn0)) (slc (Qae (rnc (.plain _ nll) rn0)) (slc (Qae (rnc (Qk3 rfl) rn0)) (slc (Qae (rnc (Qk3 rfl) rn0)) (slc (Qkq rfl) (slc (Qkq rfl) (slc (Qja Qdi) (slc (Qja Qab) Qag))))))))) (.plain _ nll) rfl rfl rfl, trivial⟩ ?_
       obtain ⟨ha49, h⟩ := cko h
       refine wx tbk [(2, rp [(.tmp 55, I x48)] (.dat 1 (([x48] : List Int).map Qal))), (3, ⟨[(.tmp 54, (Qwq y37)), (.tmp 56, (.dat 1 (([x48] : List Int).map Qal)))], [(1, .tok), (10, .unused)], (.acc 10 3 1 ((y37 ++ ([x48]) : List Int).map Qal)), [(1, .dead), (10, .tok)], false⟩)] ⟨Qcb (vs := [I x48]) rfl Tryz.underlying73 ti3 tz3 rfl (by decide) rfl (by decide) (by rfl) (by rfl) (by rfl) rfl, Qmo rfl Tryz.underlying73 te3 (Base.acc _ _) rfl rfl (by rfl) (Qrn Qal ha49) (Qrm Qal ha49 (by decide)) (Qrl Qal) rfl rfl, trivial⟩ ?_
       refine wx1 tbk [] trivial ?_
       refine bln ?_
       refine thn ?_
       refine wx1 tbk [] trivial ?_
       refine thn ?_
       exact arm (mto (n := 69) [(1, .ref 0 5 0 0), (2, (.acc 10 3 1 ((y37 ++ ([x48]) : List Int).map Qal))), (4, .ref 2 1 0 0), (6, .ref 3 1 0 0), (9, .ref 4 1 0 0), (46, (I ((p0.Hours.length : Int)))), (47, (I (w64 (y38 + 1))))] [0, 10, 2, 3, 4, 5, 6, 7, 8] [(Qj7 p0), .tok, (Q1r p0), (Q1s p0), (.own 1 [[I x48]]), (Qls y13), (Qnp y14), (Qif y15), (Qjw y16)] hφ0 (pc (.rn (rqr rfl)) (pc (.rn (Qhg rfl (Qfr Qab _))) (pc (.rn (rqr rfl)) (pc (.rn (rqr rfl)) (pc (.rn (rqr rfl)) (pc rwl (pc rwl pn))))))) (qc (spb (lc (.rn (.plain _ (nld Qab _))) (lc rwl (lc rwl (lc rwl (lc (.rn (.plain _ (nld Qbv _))) ln)))))) (qc .tok (qc (spb (lc (.rn (Qak rfl)) ln)) (qc (spb (lc (.rn (Qak rfl)) ln)) (qc (spb (lc rwl ln)) (qc (Qbz rfl) (qc (Qbz rfl) (qc (Qcm Qab) (qc (Qcm Qdi) qn)))))))))) (ih (y37 ++ ([x48]), w64 (y38 + 1), x48) h)
      ·replace h := Qau hc44 h
       refine wfn hc44 (by kernel_rfl) ?_
       refine Qbr ?_
       refine Qay ?_
       refine Qay ?_
       refine Qbq rfl ?_
       refine thn ?_
       exact ⟨(y37), h, (mto (n := 69) [(1, .ref 0 5 0 0), (2, (Qwq y37)), (4, .ref 2 1 0 0)] [0, 1, 2, 5, 7] [(Qj7 p0), .tok, (Quj p0), (Qls y13), (Qif y15)] hφ0 (pc (.rn (rqr rfl)) (pc (.rn (Qhg rfl (Qfr Qab _))) (pc (.rn (rqr rfl)) pn))) (qc (spb (lc (.rn (.plain _ (nld Qab _))) (lc rwl (lc rwl (lc rwl (lc (.rn (.plain _ (nld Qbv _))) ln)))))) (qc .tok (qc (spb (lc (.rn (Qak rfl)) ln)) (qc (Qbz rfl) (qc (Qcm Qab) qn))))))⟩
   ·skip
    refine wx tbk [(2, rp [(.tmp 25, (Q1w p0))] (I ((p0.Hours.length : Int))))] ⟨alm (c := Qey) (l := p0.Hours) (aln rfl Tryz.underlying82 rfl), trivial⟩ ?_
    refine Qaj ?_
    refine wmr (mto (n := 69) (l' := [(1, .ref 0 5 0 0), (2, nilS), (4, .ref 1 1 0 0), (6, .ref 2 1 0 0), (7, Qyh), (8, (I ((p0.Hours.length : Int))))]) (own' := [(Qj7 p0), (Qn5 p0), (Qui p0), (.own 1 (((List.replicate (w64 ((p0.Hours.length : Int) + 1)).toNat (0, 0)) : List (Nat × Nat)).map (c_mr 5 1))), (.own 1 (((List.replicate (((w64 ((p0.Hours.length : Int) + 1)).toNat : Nat) : Int).toNat (0, 0)) : List (Nat × Nat)).map (c_mr 6 1))), Q9m, Q9l]) [(1, .ref 0 5 0 0), (2, nilS), (4, .ref 1 1 0 0), (6, .ref 6 1 0 0), (7, Q7x), (8, (I ((p0.Hours.length : Int))))] [0, 1, 6, 2, 4, 3, 5] [(Qj7 p0), (.own 1 [[(.own 2 1 (0) ((w64 ((p0.Hours.length : Int) + 1)).toNat))]]), (Qui p0), (Zdo p0), (Zdn p0), Q9m, Q9l] hφ0 (pc (.rn (rqr rfl)) (pc rwl (pc (.rn (rqr rfl)) (pc (.rn (rqr rfl)) (pc (.rn (Qas rn0 (rnc (rqr rfl) (rnc (rqr rfl) (rnc (rqr rfl) rn0))))) (pc rwl pn)))))) (qc (spb (lc (.rn (.plain _ (nld Qab _))) (lc rwl (lc rwl (lc rwl (lc (.rn (.plain _ (nld Qbv _))) ln)))))) (qc (spb (lc (.rn (Qak rfl)) ln)) (qc (spb (lc (.rn (Qak rfl)) ln)) (qc (Qbz rfl) (qc (Qbz rfl) (qc (Qcm Qab) (qc (Qcm Qdi) qn)))))))) ?_
    refine Qcl (τ := Int × (List (Nat × Nat)) × (List (Nat × Nat)) × (List (List Int)) × (List (List Bool))) (fun n t => Qen N p0 k17 n t.1 t.2.1 t.2.2.1 t.2.2.2.1 t.2.2.2.2 = some r) (fun ⟨y50, y51, y52, y53, y54⟩ => ⟨mk 69 [(1, .ref 0 5 0 0), (2, nilS), (4, .ref 1 1 0 0), (6, .ref 2 1 0 0), (7, Qyh), (8, I y50)], [(Qj7 p0), (Qn5 p0), (Qui p0), (Qsz y51), (Qsy y52), (Qsx y53), (Qsw y54)]⟩) (fun t h => by rw [Qen] at h; cases h) (fun n60 ih t h => ?_) N ((p0.Hours.length : Int), List.replicate (w64 ((p0.Hours.length : Int) + 1)).toNat (0, 0), List.replicate (((w64 ((p0.Hours.length : Int) + 1)).toNat : Nat) : Int).toNat (0, 0), ([] : List (List Int)), ([] : List (List Bool))) h
    obtain ⟨y50, y51, y52, y53, y54⟩ := t
    rw [Qen] at h
    skip
    refine wsq ?_
    refine wx tbk [] trivial ?_
    rcases bft ((decide (y50 ≥ 0))) with hc61 | hc61
    ·replace h := Qat hc61 h
     refine wft hc61 (by kernel_rfl) ?_
     refine Qam ?_
     refine thn ?_
     refine wsq ?_
     refine Qaj ?_
     obtain ⟨x63, hf62, h⟩ := bno h
     refine wx1 tbk [(2, ⟨[(.tmp 31, Qyh), (.tmp 32, I y50)], [(0, (Qj7 p0)), (1, (Qn5 p0)), (2, (Qui p0)), (3, (Qsz y51)), (4, (Qsy y52)), (5, (Qsx y53)), (6, (Qsw y54))], (.tup []), [(0, (Qj7 p0)), (1, (Q1v p0)), (2, (Q1u p0)), (3, (Qwp y51 y50 y53 p0)), (4, (Qwo y52 y50 y54 p0)), (5, (.mat 1 (matA Qal (x63.1 : List (List Int))))), (6, (.mat 1 (matA Qge (x63.2 : List (List Bool)))))], false⟩)] ⟨Qah (first := []) (cap := [.ref 0 5 0 0, .ref 1 1 0 0, .ref 2 1 0 0]) (vs := [I y50]) (σr := [(Qj7 p0), (Qn5 p0), (Qui p0), (Qsz y51), (Qsy y52), (Qsx y53), (Qsw y54)]) (σr' := [(Qj7 p0), (Q1v p0), (Q1u p0), (Qwp y51 y50 y53 p0), (Qwo y52 y50 y54 p0), (.mat 1 (matA Qal (x63.1 : List (List Int)))), (.mat 1 (matA Qge (x63.2 : List (List Bool))))]) (res' := (.tup [])) [0, 1, 2, 3, 4, 5, 6] rfl Zb5 (Qln N y50 p0.Levels p0.Ramp p0.Start p0.First p0.Hours ((w64 ((p0.Hours.length : Int) + 1)).toNat) ((((w64 ((p0.Hours.length : Int) + 1)).toNat : Nat) : Int).toNat) y51 y52 y53 y54 _ hf62) rfl (Qbc (rnc (.plain _ nll) (rnc (Qa2 rfl) (rnc (Qa2 rfl) (rnc (Qa2 rfl) rn0))))) (slc (Qae (rnc (.plain _ (nld Qab _)) (rnc (.plain _ nll) (rnc (.plain _ nll) (rnc (.plain _ nll) (rnc (.plain _ (nld Qbv _)) rn0)))))) (slc (Qae (rnc (Qfy rfl) rn0)) (slc (Qae (rnc (Qfy rfl) rn0)) (slc (Qkp rfl) (slc (Qkp rfl) (slc (Qja Qab) (slc (Qja Qdi) Qag))))))) (slc (Qae (rnc (.plain _ (nld Qab _)) (rnc (.plain _ nll) (rnc (.plain _ nll) (rnc (.plain _ nll) (rnc (.plain _ (nld Qbv _)) rn0)))))) (slc (Qae (rnc (Qk3 rfl) rn0)) (slc (Qae (rnc (Qk3 rfl) rn0)) (slc (Qkq rfl) (slc (Qkq rfl) (slc (Qja Qab) (slc (Qja Qdi) Qag))))))) (.plain _ (NLt.tup _ nl0)) rfl rfl rfl, trivial⟩ ?_
     refine bln ?_
     refine thn ?_
     refine wx1 tbk [] trivial ?_
     refine thn ?_
     exact arm (mto (n := 69) [(1, .ref 0 5 0 0), (2, nilS), (4, .ref 1 1 0 0), (6, .ref 2 1 0 0), (7, Qyh), (8, (I (w64 (y50 - 1))))] [0, 1, 2, 3, 4, 5, 6] [(Qj7 p0), (Q1v p0), (Q1u p0), (Qwp y51 y50 y53 p0), (Qwo y52 y50 y54 p0), (.mat 1 (matA Qal (x63.1 : List (List Int)))), (.mat 1 (matA Qge (x63.2 : List (List Bool))))] hφ0 (pc (.rn (rqr rfl)) (pc rwl (pc (.rn (rqr rfl)) (pc (.rn (rqr rfl)) (pc (.rn (Qas rn0 (rnc (rqr rfl) (rnc (rqr rfl) (rnc (rqr rfl) rn0))))) (pc rwl pn)))))) (qc (spb (lc (.rn (.plain _ (nld Qab _))) (lc rwl (lc rwl (lc rwl (lc (.rn (.plain _ (nld Qbv _))) ln)))))) (qc (spb (lc (.rn (Qak rfl)) ln)) (qc (spb (lc (.rn (Qak rfl)) ln)) (qc (Qbz rfl) (qc (Qbz rfl) (qc (Qcm Qab) (qc (Qcm Qdi) qn)))))))) (ih (w64 (y50 - 1), y51.set y50.toNat (y53.length, (p0.Levels.length : Int).toNat), y52.set y50.toNat (y54.length, (p0.Levels.length : Int).toNat), x63.1, x63.2) h)
    ·replace h := Qau hc61 h
     refine wfn hc61 (by kernel_rfl) ?_
     refine Qbr ?_
     refine Qay ?_
     refine Qay ?_
     refine Qbq rfl ?_
     refine thn ?_
     exact ⟨(y51, y52, y53, y54), h, (mto (n := 69) [(1, .ref 0 5 0 0), (2, nilS), (4, .ref 1 1 0 0), (6, .ref 2 1 0 0)] [0, 1, 2, 3, 4, 5, 6] [(Qj7 p0), (Qn5 p0), (Qui p0), (Qsz y51), (Qsy y52), (Qsx y53), (Qsw y54)] hφ0 (pc (.rn (rqr rfl)) (pc rwl (pc (.rn (rqr rfl)) (pc (.rn (rqr rfl)) pn)))) (qc (spb (lc (.rn (.plain _ (nld Qab _))) (lc rwl (lc rwl (lc rwl (lc (.rn (.plain _ (nld Qbv _))) ln)))))) (qc (spb (lc (.rn (Qak rfl)) ln)) (qc (spb (lc (.rn (Qak rfl)) ln)) (qc (Qbz rfl) (qc (Qbz rfl) (qc (Qcm Qab) (qc (Qcm Qdi) qn))))))))⟩
end Go.Proofs.YtlhakkkjgdbdpaaGreat
