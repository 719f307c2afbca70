/-
  Functions of the program: what they compute, as plain functions, and that they do. No conditions.
-/
import Derived.Test.YtflmombnmnblnaaX2
namespace Go.Proofs.Ytflmombnmnblnaa
set_option maxRecDepth 100000
set_option maxHeartbeats 4000000
open Go.RowKit
def Qdk (N : Nat) (p0 : Int) : Option Bool :=
  (Qdf N p0 0 1000).bind fun x2 =>
  some x2
theorem Qff (N : Nat) (p0 : Int) (r : Bool) (h : Qdk N p0 = some r) : Spec Try.prog 174 [(I p0)] [] (B r) [] := by
  refine Qah Try.func174 rfl 0 (nle rfl) (fun X φ0 w0 hφ0 hd0 => ?_)
  unfold Qdk at h
  refine wx tbk [] trivial ?_
  obtain ⟨x2, hf1, h⟩ := bno h
  refine wx tbk [(1, rp [fu 67, (.tmp 3, I p0), ci 0, ci 1000] (B x2))] ⟨apc (first := []) (cap := []) (vs := [I p0, I 0, I 1000]) rfl Qge (Qcb N p0 0 1000 _ hf1) rfl rfl (nlc nll (nlc nll (nlc nll nl0))) nll rfl, trivial⟩ ?_
  refine Qae ?_
  obtain rfl := osi h
  exact fend ⟨[B x2], ⟨rot (by kernel_rfl), trivial⟩, rfl⟩ nll
def Qew (N : Nat) (p0 : Int) : Option Bool :=
  (Qdk N p0).bind fun x3 =>
  some (!x3)
def z38_0 : Slot := .own 1 [[(.fn (.func 174) [] [])]]
theorem Qg7 (N : Nat) (p0 : Int) (r : Bool) (h : Qew N p0 = some r) : Spec Try.prog 118 [(I (p0)), (.ref 0 1 (0) 0)] [z38_0] (B (r)) [z38_0] := by
  refine Qah Try.func118 rfl 1 (nle rfl) (fun X φ0 w0 hφ0 hd0 => ?_)
  unfold Qew at h
  refine Qcf ?_
  refine wx tbk [] trivial ?_
  obtain ⟨x3, hf2, h⟩ := bno h
  refine wx tbk [(2, rp [(.tmp 4, (.fn (.func 174) [] [])), (.tmp 5, I p0)] (B x3))] ⟨apc (first := []) (cap := []) (vs := [I p0]) rfl enter174 (Qff N p0 _ hf2) rfl rfl (nlc nll nl0) nll rfl, trivial⟩ ?_
  refine wmr (mto (n := 8) (l' := [(3, (B ((!x3))))]) (own' := [z38_0]) [(3, (B ((!x3))))] [0] [z38_0] hφ0 (pc rwl pn) (qc (spb (lc (.rn (Qal rn0 rn0)) ln)) qn)) ?_
  refine Qae ?_
  obtain rfl := osi h
  exact ⟨_, Mor.rfl, Qcm (vs := [(B ((!x3)))]) ⟨rot (by kernel_rfl), trivial⟩ rfl (NLt.of0 nll) (by kernel_rfl) (Qan (Qa4 (nlc (NLt.of0 (NLt.fn _ _ _ nl0 nl0)) nl0)) Qbl)⟩
def Qbo (N : Nat) (p0 : (List Int)) (k2 : Unit → Option Int) : Nat → Int → Option Int
  | 0, _ => none
  | n5 + 1, y3 =>
    bif (decide (y3 < (p0.length : Int))) then
     (getI p0 y3).bind fun x7 =>
     (Qew N x7).bind fun x12 =>
     bif x12 then
      some y3
     else
      Qbo N p0 k2 n5 (w64 (y3 + 1))
    else
     k2 ()
def Qdj (N : Nat) (p0 : (List Int)) : Option Int :=
  Qcg (fun _ =>
    some (-1)) fun k2 : Unit → Option Int =>
  Qbo N p0 k2 N 0
def z37_0 (p0 : (List Int)) : AV := .dat 1 ((p0 : List Int).map Qab)
def z37_1 : AV := .fn (.func 118) [] [(.ref 0 1 (0) 0)]
def Qhg : Slot := .own 1 [[(.fn (.func 174) [] [])]]
theorem Qfd (N : Nat) (p0 : (List Int)) (r : Int) (h : Qdj N p0 = some r) : Spec Try.prog 48 [(z37_0 p0), z37_1] [Qhg] (I (r)) [Qhg] := by
  refine Qah Try.func48 rfl 1 (nle rfl) (fun X φ0 w0 hφ0 hd0 => ?_)
  unfold Qdj at h
  refine Qcf ?_
  refine wx tbk [] trivial ?_
  obtain ⟨k2, hk_k2, h⟩ := jko h
  refine wjn (τ := Unit) (fun t => k2 t = some r) (fun _ => ⟨mk 19 [], [Qhg]⟩) (fun t h => ?_) ?_
  ·subst hk_k2
   refine wx tbk [] trivial ?_
   refine wmr (mto (n := 19) (l' := [(4, (I ((-1))))]) (own' := [Qhg]) [(4, (I ((-1))))] [0] [Qhg] hφ0 (pc rwl pn) (qc (spb (lc (.rn (Qal rn0 rn0)) ln)) qn)) ?_
   refine Qae ?_
   obtain rfl := osi h
   exact ⟨_, Mor.rfl, Qcm (vs := [(I ((-1)))]) ⟨rot (by kernel_rfl), trivial⟩ rfl (NLt.of0 nll) (by kernel_rfl) (Qan (Qa4 (nlc (NLt.of0 (NLt.fn _ _ _ nl0 nl0)) nl0)) Qbl)⟩
  ·skip
   refine wx tbk [(1, rp [(.tmp 6, (z37_0 p0))] (I ((p0.length : Int))))] ⟨alm (c := Qab) (l := p0) (aln rfl Try.underlying22 rfl), trivial⟩ ?_
   refine Qag ?_
   refine wmr (mto (n := 19) (l' := [(0, (z37_0 p0)), (1, z37_1), (7, (I ((p0.length : Int)))), (8, I 0)]) (own' := [Qhg]) [(0, (z37_0 p0)), (1, z37_1), (7, (I ((p0.length : Int)))), (8, I 0)] [0] [Qhg] hφ0 (pc (.rn (.plain _ (nld Qac _))) (pc (.rn (Qal rn0 (rnc (rqr rfl) rn0))) (pc rwl (pc rwl pn)))) (qc (spb (lc (.rn (Qal rn0 rn0)) ln)) qn)) ?_
   refine Qca (τ := Int) (fun n t => Qbo N p0 k2 n t = some r) (fun y3 => ⟨mk 19 [(0, (z37_0 p0)), (1, z37_1), (7, (I ((p0.length : Int)))), (8, I y3)], [Qhg]⟩) (fun t h => by rw [Qbo] at h; cases h) (fun n5 ih y3 h => ?_) N (0) h
   rw [Qbo] at h
   skip
   refine wx tbk [] trivial ?_
   refine wsq ?_
   rcases bft ((decide (y3 < (p0.length : Int)))) with hc6 | hc6
   ·replace h := Qaw hc6 h
    refine wft hc6 (by kernel_rfl) ?_
    refine Qak ?_
    refine thn ?_
    refine wsq ?_
    refine Qag ?_
    refine wx tbk [] trivial ?_
    obtain ⟨x7, hg8, h⟩ := bno h
    obtain ⟨hi9, hj10⟩ := gsm hg8
    obtain ⟨x12, hf11, h⟩ := bno h
    refine wx tbk [(3, rp [(.tmp 12, (z37_0 p0)), (.tmp 13, I y3)] (.dptr (Qab (x7)) 0)), (5, ⟨[(.tmp 11, z37_1), (.tmp 15, I x7)], [(0, Qhg)], B x12, [(0, Qhg)], false⟩)] ⟨aid rfl Try.underlying22 ti3 rfl rfl hi9 (mgt Qab hj10) rfl, Qaq (first := []) (cap := [.ref 0 1 0 0]) (vs := [I x7]) (σr := [Qhg]) (σr' := [Qhg]) (res' := (B x12)) [0] rfl enter118 (Qg7 N x7 _ hf11) rfl (Qcu (rnc (.plain _ nll) (rnc (Qba rfl) rn0))) (slc (Qaj (rnc (.plain _ (NLt.fn _ _ _ nl0 nl0)) rn0)) Qap) (slc (Qaj (rnc (.plain _ (NLt.fn _ _ _ nl0 nl0)) rn0)) Qap) (.plain _ nll) rfl rfl rfl, trivial⟩ ?_
    rcases bft (x12) with hc13 | hc13
    ·replace h := Qaw hc13 h
     refine wft hc13 (by kernel_rfl) ?_
     refine wx tbk [] trivial ?_
     refine wmr (mto (n := 19) (l' := [(4, I y3)]) (own' := [Qhg]) [(4, I y3)] [0] [Qhg] hφ0 (pc rwl pn) (qc (spb (lc (.rn (Qal rn0 rn0)) ln)) qn)) ?_
     refine Qae ?_
     refine Qao ?_
     refine Qaf ?_
     refine Qaf ?_
     refine Qao ?_
     refine Qaf ?_
     obtain rfl := osi h
     exact ⟨_, Mor.rfl, Qcm (vs := [I y3]) ⟨rot (by kernel_rfl), trivial⟩ rfl (NLt.of0 nll) (by kernel_rfl) (Qan (Qa4 (nlc (NLt.of0 (NLt.fn _ _ _ nl0 nl0)) nl0)) Qbl)⟩
    ·replace h := Qax hc13 h
     refine wfn hc13 (by kernel_rfl) ?_
     refine Qak ?_
     refine bln ?_
     refine thn ?_
     refine wx1 tbk [] trivial ?_
     refine thn ?_
     exact arm (mto (n := 19) [(0, (z37_0 p0)), (1, z37_1), (7, (I ((p0.length : Int)))), (8, (I (w64 (y3 + 1))))] [0] [Qhg] hφ0 (pc (.rn (.plain _ (nld Qac _))) (pc (.rn (Qal rn0 (rnc (rqr rfl) rn0))) (pc rwl (pc rwl pn)))) (qc (spb (lc (.rn (Qal rn0 rn0)) ln)) qn)) (ih (w64 (y3 + 1)) h)
   ·replace h := Qax hc6 h
    refine wfn hc6 (by kernel_rfl) ?_
    refine Qbk ?_
    refine Qav ?_
    refine Qav ?_
    refine Qbj rfl ?_
    refine thn ?_
    exact ⟨(), h, (mto (n := 19) [] [0] [Qhg] hφ0 pn (qc (spb (lc (.rn (Qal rn0 rn0)) ln)) qn))⟩
def Qc9 (N : Nat) (p0 : (List Int)) : Option Bool :=
  (Qdj N p0).bind fun x3 =>
  some (decide (x3 ≥ 0))
def z36_0 (p0 : (List Int)) : AV := .dat 1 ((p0 : List Int).map Qab)
def z36_1 : AV := .fn (.func 118) [] [(.ref 0 1 (0) 0)]
def z36_2 : Slot := .own 1 [[(.fn (.func 174) [] [])]]
theorem Qer (N : Nat) (p0 : (List Int)) (r : Bool) (h : Qc9 N p0 = some r) : Spec Try.prog 117 [(z36_0 p0), z36_1] [z36_2] (B (r)) [z36_2] := by
  refine Qah Try.func117 rfl 1 (nle rfl) (fun X φ0 w0 hφ0 hd0 => ?_)
  unfold Qc9 at h
  refine Qcf ?_
  refine wx tbk [] trivial ?_
  obtain ⟨x3, hf2, h⟩ := bno h
  refine wx tbk [(2, ⟨[fu 48, (.tmp 5, (z36_0 p0)), (.tmp 6, z36_1)], [(0, z36_2)], I x3, [(0, z36_2)], false⟩)] ⟨Qaq (first := []) (cap := []) (vs := [(z36_0 p0), z36_1]) (σr := [z36_2]) (σr' := [z36_2]) (res' := (I x3)) [0] rfl enter48 (Qfd N p0 _ hf2) rfl (Qcu (rnc (.plain _ (nld Qac _)) (rnc (Qal rn0 (rnc (Qba rfl) rn0)) rn0))) (slc (Qaj (rnc (.plain _ (NLt.fn _ _ _ nl0 nl0)) rn0)) Qap) (slc (Qaj (rnc (.plain _ (NLt.fn _ _ _ nl0 nl0)) rn0)) Qap) (.plain _ nll) rfl rfl rfl, trivial⟩ ?_
  refine wmr (mto (n := 9) (l' := [(4, (B ((decide (x3 ≥ 0)))))]) (own' := [z36_2]) [(4, (B ((decide (x3 ≥ 0)))))] [0] [z36_2] hφ0 (pc rwl pn) (qc (spb (lc (.rn (Qal rn0 rn0)) ln)) qn)) ?_
  refine Qae ?_
  obtain rfl := osi h
  exact ⟨_, Mor.rfl, Qcm (vs := [(B ((decide (x3 ≥ 0))))]) ⟨rot (by kernel_rfl), trivial⟩ rfl (NLt.of0 nll) (by kernel_rfl) (Qan (Qa4 (nlc (NLt.of0 (NLt.fn _ _ _ nl0 nl0)) nl0)) Qbl)⟩
def Qfk (N : Nat) (p0 : (List Int)) : Option Bool :=
  (Qc9 N p0).bind fun x2 =>
  some (!x2)
def z35_1 (p0 : (List Int)) : AV := .dat 1 ((p0 : List Int).map Qab)
def z35_2 : AV := .fn (.func 118) [] [(.ref 0 1 (0) 0)]
def z35_0 : Slot := .own 1 [[(.fn (.func 174) [] [])]]
theorem Qf2 (N : Nat) (p0 : (List Int)) (r : Bool) (h : Qfk N p0 = some r) : Spec Try.prog 68 [(z35_1 p0), (.fn (.func 174) [] [])] [] (B (r)) [] := by
  refine Qah Try.func68 rfl 0 (nle rfl) (fun X φ0 w0 hφ0 hd0 => ?_)
  unfold Qfk at h
  refine wx tbk [] trivial ?_
  obtain ⟨x2, hf1, h⟩ := bno h
  refine wx tbk [(1, rp [(.tmp 3, .ref 0 1 0 0)] z35_2), (2, ⟨[fu 117, (.tmp 5, (z35_1 p0)), (.tmp 6, z35_2)], [(0, z35_0)], B x2, [(0, z35_0)], false⟩)] ⟨Qep (fs := []) (cs := [.ref 0 1 0 0]) rfl rfl rfl rfl, Qaq (first := []) (cap := []) (vs := [(z35_1 p0), z35_2]) (σr := [z35_0]) (σr' := [z35_0]) (res' := (B x2)) [0] rfl Qlc (Qer N p0 _ hf1) rfl (Qcu (rnc (.plain _ (nld Qac _)) (rnc (Qal rn0 (rnc (Qba rfl) rn0)) rn0))) (slc (Qaj (rnc (.plain _ (NLt.fn _ _ _ nl0 nl0)) rn0)) Qap) (slc (Qaj (rnc (.plain _ (NLt.fn _ _ _ nl0 nl0)) rn0)) Qap) (.plain _ nll) rfl rfl rfl, trivial⟩ ?_
  refine Qae ?_
  obtain rfl := osi h
  exact fend ⟨[(B ((!x2)))], ⟨rot (by kernel_rfl), trivial⟩, rfl⟩ nll
def Qdl (N : Nat) (p0 : (List Int)) (p1 : Int) (_p2 : (List (List Int))) : Option Bool :=
  bif ((p0.length : Int) == p1) then
   (Qfk N p0).bind fun x4 =>
   bif x4 then
    (Qem N p0).bind fun x7 =>
    some (decide (x7 ≤ 1000))
   else
    some false
  else
   some false
def Qjx (p0 : (List Int)) : AV := .dat 1 ((p0 : List Int).map Qab)
def z34_2 (p1 : Int) (p2 : (List (List Int))) : Slot := .own 2 [[(I (p1)), (.dat 1 ((p2 : List (List Int)).map Qdr))]]
theorem Qfg (N : Nat) (p0 : (List Int)) (p1 : Int) (p2 : (List (List Int))) (r : Bool) (h : Qdl N p0 p1 p2 = some r) : Spec Try.prog 173 [(Qjx p0), (.ref 0 2 (0) 0)] [(z34_2 p1 p2)] (B (r)) [(z34_2 p1 p2)] := by
  refine Qah Try.func173 rfl 1 (nle rfl) (fun X φ0 w0 hφ0 hd0 => ?_)
  unfold Qdl at h
  refine Qcf ?_
  refine wx tbk [] trivial ?_
  rcases bft (((p0.length : Int) == p1)) with hb2 | hb2
  ·replace h := Qaw hb2 h
   obtain ⟨x4, hf3, h⟩ := bno h
   rcases bft (x4) with hb5 | hb5
   ·replace h := Qaw hb5 h
    obtain ⟨x7, hf6, h⟩ := bno h
    refine wx tbk [(1, rp [(.tmp 4, (Qjx p0))] (I ((p0.length : Int)))), (5, rp [(.tmp 8, (B (((p0.length : Int) == p1))))] (B true)), (7, rp [(.tmp 9, B true), fu 68, (.tmp 10, (Qjx p0)), fu 174] (B x4)), (9, rp [(.tmp 12, B x4)] (B true)), (11, rp [(.tmp 13, B true), fu 69, (.tmp 14, (Qjx p0))] (I x7))] ⟨alm (c := Qab) (l := p0) (aln rfl Try.underlying22 rfl), asb hb2 (amv rfl), ag_ (Qaq (first := []) (cap := []) (vs := [(Qjx p0), (.fn (.func 174) [] [])]) (σr := []) (σr' := []) (res' := (B x4)) [] rfl Qjl (Qf2 N p0 _ hf3) rfl (Qcu (rnc (.plain _ (nld Qac _)) (rnc (.plain _ (NLt.fn _ _ _ nl0 nl0)) rn0))) Qap Qap (.plain _ nll) rfl rfl rfl), asb hb5 (amv rfl), ag_ (apc (first := []) (cap := []) (vs := [(Qjx p0)]) rfl Qk9 (Qfn N p0 _ hf6) rfl rfl (nlc (nld Qac _) nl0) nll rfl), trivial⟩ ?_
    refine wmr (mto (n := 18) (l' := [(3, (B ((decide (x7 ≤ 1000)))))]) (own' := [(z34_2 p1 p2)]) [(3, (B ((decide (x7 ≤ 1000)))))] [0] [(z34_2 p1 p2)] hφ0 (pc rwl pn) (qc (spb (lc rwl (lc (.rn (.plain _ (nld Qbp _))) ln))) qn)) ?_
    refine Qae ?_
    obtain rfl := osi h
    exact ⟨_, Mor.rfl, Qcm (vs := [(B ((decide (x7 ≤ 1000))))]) ⟨rot (by kernel_rfl), trivial⟩ rfl (NLt.of0 nll) (by kernel_rfl) (Qan (Qa4 (nlc (NLt.of0 nll) (nlc (NLt.of0 (nld Qbp _)) nl0))) Qbl)⟩
   ·replace h := Qax hb5 h
    refine wx tbk [(1, rp [(.tmp 4, (Qjx p0))] (I ((p0.length : Int)))), (5, rp [(.tmp 8, (B (((p0.length : Int) == p1))))] (B true)), (7, rp [(.tmp 9, B true), fu 68, (.tmp 10, (Qjx p0)), fu 174] (B x4)), (9, rp [(.tmp 12, B x4)] (B false))] ⟨alm (c := Qab) (l := p0) (aln rfl Try.underlying22 rfl), asb hb2 (amv rfl), ag_ (Qaq (first := []) (cap := []) (vs := [(Qjx p0), (.fn (.func 174) [] [])]) (σr := []) (σr' := []) (res' := (B x4)) [] rfl Qjl (Qf2 N p0 _ hf3) rfl (Qcu (rnc (.plain _ (nld Qac _)) (rnc (.plain _ (NLt.fn _ _ _ nl0 nl0)) rn0))) Qap Qap (.plain _ nll) rfl rfl rfl), asb hb5 (amv rfl), trivial⟩ ?_
    refine wmr (mto (n := 18) (l' := [(3, B false)]) (own' := [(z34_2 p1 p2)]) [(3, B false)] [0] [(z34_2 p1 p2)] hφ0 (pc rwl pn) (qc (spb (lc rwl (lc (.rn (.plain _ (nld Qbp _))) ln))) qn)) ?_
    refine Qae ?_
    obtain rfl := osi h
    exact ⟨_, Mor.rfl, Qcm (vs := [B false]) ⟨rot (by kernel_rfl), trivial⟩ rfl (NLt.of0 nll) (by kernel_rfl) (Qan (Qa4 (nlc (NLt.of0 nll) (nlc (NLt.of0 (nld Qbp _)) nl0))) Qbl)⟩
  ·replace h := Qax hb2 h
   refine wx tbk [(1, rp [(.tmp 4, (Qjx p0))] (I ((p0.length : Int)))), (5, rp [(.tmp 8, (B (((p0.length : Int) == p1))))] (B false))] ⟨alm (c := Qab) (l := p0) (aln rfl Try.underlying22 rfl), asb hb2 (amv rfl), trivial⟩ ?_
   refine wmr (mto (n := 18) (l' := [(3, B false)]) (own' := [(z34_2 p1 p2)]) [(3, B false)] [0] [(z34_2 p1 p2)] hφ0 (pc rwl pn) (qc (spb (lc rwl (lc (.rn (.plain _ (nld Qbp _))) ln))) qn)) ?_
   refine Qae ?_
   obtain rfl := osi h
   exact ⟨_, Mor.rfl, Qcm (vs := [B false]) ⟨rot (by kernel_rfl), trivial⟩ rfl (NLt.of0 nll) (by kernel_rfl) (Qan (Qa4 (nlc (NLt.of0 nll) (nlc (NLt.of0 (nld Qbp _)) nl0))) Qbl)⟩
def Qd7 (N : Nat) (p0 : (List Int)) (p1 : Int) (p2 : (List (List Int))) : Option Bool :=
  (Qdl N p0 p1 p2).bind fun x3 =>
  some (!x3)
def z33_1 (p0 : (List Int)) : AV := .dat 1 ((p0 : List Int).map Qab)
def z33_0 : AV := .fn (.func 173) [] [(.ref 1 2 (0) 0)]
def z33_3 (p1 : Int) (p2 : (List (List Int))) : Slot := .own 2 [[(I (p1)), (.dat 1 ((p2 : List (List Int)).map Qdr))]]
theorem Qgz (N : Nat) (p0 : (List Int)) (p1 : Int) (p2 : (List (List Int))) (r : Bool) (h : Qd7 N p0 p1 p2 = some r) : Spec Try.prog 214 [(z33_1 p0), (.ref 0 1 (0) 0)] [(.own 1 [[z33_0]]), (z33_3 p1 p2)] (B (r)) [(.own 1 [[z33_0]]), (z33_3 p1 p2)] := by
  refine Qah Try.func214 rfl 2 (nle rfl) (fun X φ0 w0 hφ0 hd0 => ?_)
  unfold Qd7 at h
  refine Qcf ?_
  refine wx tbk [] trivial ?_
  obtain ⟨x3, hf2, h⟩ := bno h
  refine wx tbk [(2, ⟨[(.tmp 4, z33_0), (.tmp 5, (z33_1 p0))], [(1, (z33_3 p1 p2))], B x3, [(1, (z33_3 p1 p2))], false⟩)] ⟨Qaq (first := []) (cap := [.ref 1 2 0 0]) (vs := [(z33_1 p0)]) (σr := [(z33_3 p1 p2)]) (σr' := [(z33_3 p1 p2)]) (res' := (B x3)) [1] rfl enter173 (Qfg N p0 p1 p2 _ hf2) rfl (Qcu (rnc (.plain _ (nld Qac _)) (rnc (Qba rfl) rn0))) (slc (Qaj (rnc (.plain _ nll) (rnc (.plain _ (nld Qbp _)) rn0))) Qap) (slc (Qaj (rnc (.plain _ nll) (rnc (.plain _ (nld Qbp _)) rn0))) Qap) (.plain _ nll) rfl rfl rfl, trivial⟩ ?_
  refine wmr (mto (n := 8) (l' := [(3, (B ((!x3))))]) (own' := [(.own 1 [[z33_0]]), (z33_3 p1 p2)]) [(3, (B ((!x3))))] [0, 1] [(.own 1 [[z33_0]]), (z33_3 p1 p2)] hφ0 (pc rwl pn) (qc (spb (lc (.rn (Qal rn0 (rnc (rqr rfl) rn0))) ln)) (qc (spb (lc rwl (lc (.rn (.plain _ (nld Qbp _))) ln))) qn))) ?_
  refine Qae ?_
  obtain rfl := osi h
  exact ⟨_, Mor.rfl, Qcm (vs := [(B ((!x3)))]) ⟨rot (by kernel_rfl), trivial⟩ rfl (NLt.of0 nll) (by kernel_rfl) (Qan (Qa4 (nlc (NLt.fn _ _ _ nl0 (nlc (NLt.ref _ _ _ _ (by decide)) nl0)) nl0)) (Qan (Qa4 (nlc (NLt.of0 nll) (nlc (NLt.of0 (nld Qbp _)) nl0))) Qbl))⟩
def Qbg (N : Nat) (p0 : (List (List Int))) (p1 : Int) (k2 : Unit → Option Int) (p2 : (List (List Int))) : Nat → Int → Option Int
  | 0, _ => none
  | n5 + 1, y3 =>
    bif (decide (y3 < (p0.length : Int))) then
     (getI p0 y3).bind fun x7 =>
     (Qd7 N x7 p1 p2).bind fun x12 =>
     bif x12 then
      some y3
     else
      Qbg N p0 p1 k2 p2 n5 (w64 (y3 + 1))
    else
     k2 ()
def Qda (N : Nat) (p0 : (List (List Int))) (p1 : Int) (p2 : (List (List Int))) : Option Int :=
  Qcg (fun _ =>
    some (-1)) fun k2 : Unit → Option Int =>
  Qbg N p0 p1 k2 p2 N 0
def z32_0 (p0 : (List (List Int))) : AV := .dat 1 ((p0 : List (List Int)).map Qdr)
def z32_1 : AV := .fn (.func 214) [] [(.ref 0 1 (0) 0)]
def Qhi : AV := .fn (.func 173) [] [(.ref 1 2 (0) 0)]
def Qhh (p1 : Int) (p2 : (List (List Int))) : Slot := .own 2 [[(I (p1)), (.dat 1 ((p2 : List (List Int)).map Qdr))]]
theorem Qe0 (N : Nat) (p0 : (List (List Int))) (p1 : Int) (p2 : (List (List Int))) (r : Int) (h : Qda N p0 p1 p2 = some r) : Spec Try.prog 233 [(z32_0 p0), z32_1] [(.own 1 [[Qhi]]), (Qhh p1 p2)] (I (r)) [(.own 1 [[Qhi]]), (Qhh p1 p2)] := by
  refine Qah Try.func233 rfl 2 (nle rfl) (fun X φ0 w0 hφ0 hd0 => ?_)
  unfold Qda at h
  refine Qcf ?_
  refine wx tbk [] trivial ?_
  obtain ⟨k2, hk_k2, h⟩ := jko h
  refine wjn (τ := Unit) (fun t => k2 t = some r) (fun _ => ⟨mk 19 [], [(.own 1 [[Qhi]]), (Qhh p1 p2)]⟩) (fun t h => ?_) ?_
  ·subst hk_k2
   refine wx tbk [] trivial ?_
   refine wmr (mto (n := 19) (l' := [(4, (I ((-1))))]) (own' := [(.own 1 [[Qhi]]), (Qhh p1 p2)]) [(4, (I ((-1))))] [0, 1] [(.own 1 [[Qhi]]), (Qhh p1 p2)] hφ0 (pc rwl pn) (qc (spb (lc (.rn (Qal rn0 (rnc (rqr rfl) rn0))) ln)) (qc (spb (lc rwl (lc (.rn (.plain _ (nld Qbp _))) ln))) qn))) ?_
   refine Qae ?_
   obtain rfl := osi h
   exact ⟨_, Mor.rfl, Qcm (vs := [(I ((-1)))]) ⟨rot (by kernel_rfl), trivial⟩ rfl (NLt.of0 nll) (by kernel_rfl) (Qan (Qa4 (nlc (NLt.fn _ _ _ nl0 (nlc (NLt.ref _ _ _ _ (by decide)) nl0)) nl0)) (Qan (Qa4 (nlc (NLt.of0 nll) (nlc (NLt.of0 (nld Qbp _)) nl0))) Qbl))⟩
  ·skip
   refine wx tbk [(1, rp [(.tmp 6, (z32_0 p0))] (I ((p0.length : Int))))] ⟨alm (c := Qdr) (l := p0) (aln rfl Try.underlying151 rfl), trivial⟩ ?_
   refine Qag ?_
   refine wmr (mto (n := 19) (l' := [(0, (z32_0 p0)), (1, z32_1), (7, (I ((p0.length : Int)))), (8, I 0)]) (own' := [(.own 1 [[Qhi]]), (Qhh p1 p2)]) [(0, (z32_0 p0)), (1, z32_1), (7, (I ((p0.length : Int)))), (8, I 0)] [0, 1] [(.own 1 [[Qhi]]), (Qhh p1 p2)] hφ0 (pc (.rn (.plain _ (nld Qbp _))) (pc (.rn (Qal rn0 (rnc (rqr rfl) rn0))) (pc rwl (pc rwl pn)))) (qc (spb (lc (.rn (Qal rn0 (rnc (rqr rfl) rn0))) ln)) (qc (spb (lc rwl (lc (.rn (.plain _ (nld Qbp _))) ln))) qn))) ?_
   refine Qca (τ := Int) (fun n t => Qbg N p0 p1 k2 p2 n t = some r) (fun y3 => ⟨mk 19 [(0, (z32_0 p0)), (1, z32_1), (7, (I ((p0.length : Int)))), (8, I y3)], [(.own 1 [[Qhi]]), (Qhh p1 p2)]⟩) (fun t h => by rw [Qbg] at h; cases h) (fun n5 ih y3 h => ?_) N (0) h
   rw [Qbg] at h
   skip
   refine wx tbk [] trivial ?_
   refine wsq ?_
   rcases bft ((decide (y3 < (p0.length : Int)))) with hc6 | hc6
   ·replace h := Qaw hc6 h
    refine wft hc6 (by kernel_rfl) ?_
    refine Qak ?_
    refine thn ?_
    refine wsq ?_
    refine Qag ?_
    refine wx tbk [] trivial ?_
    obtain ⟨x7, hg8, h⟩ := bno h
    obtain ⟨hi9, hj10⟩ := gsm hg8
    obtain ⟨x12, hf11, h⟩ := bno h
    refine wx tbk [(3, rp [(.tmp 12, (z32_0 p0)), (.tmp 13, I y3)] (.dptr (Qdr (x7)) 0)), (5, ⟨[(.tmp 11, z32_1), (.tmp 15, (.dat 1 ((x7 : List Int).map Qab)))], [(0, .own 1 [[Qhi]]), (1, (Qhh p1 p2))], B x12, [(0, .own 1 [[Qhi]]), (1, (Qhh p1 p2))], false⟩)] ⟨aid rfl Try.underlying151 ti22 rfl rfl hi9 (mgt Qdr hj10) rfl, Qaq (first := []) (cap := [.ref 0 1 0 0]) (vs := [(.dat 1 ((x7 : List Int).map Qab))]) (σr := [(.own 1 [[Qhi]]), (Qhh p1 p2)]) (σr' := [(.own 1 [[Qhi]]), (Qhh p1 p2)]) (res' := (B x12)) [0, 1] rfl enter214 (Qgz N x7 p1 p2 _ hf11) rfl (Qcu (rnc (.plain _ (nld Qac _)) (rnc (Qba rfl) rn0))) (slc (Qaj (rnc (Qal rn0 (rnc (Qba rfl) rn0)) rn0)) (slc (Qaj (rnc (.plain _ nll) (rnc (.plain _ (nld Qbp _)) rn0))) Qap)) (slc (Qaj (rnc (Qal rn0 (rnc (Qi9 rfl) rn0)) rn0)) (slc (Qaj (rnc (.plain _ nll) (rnc (.plain _ (nld Qbp _)) rn0))) Qap)) (.plain _ nll) rfl rfl rfl, trivial⟩ ?_
    rcases bft (x12) with hc13 | hc13
    ·replace h := Qaw hc13 h
     refine wft hc13 (by kernel_rfl) ?_
     refine wx tbk [] trivial ?_
     refine wmr (mto (n := 19) (l' := [(4, I y3)]) (own' := [(.own 1 [[Qhi]]), (Qhh p1 p2)]) [(4, I y3)] [0, 1] [(.own 1 [[Qhi]]), (Qhh p1 p2)] hφ0 (pc rwl pn) (qc (spb (lc (.rn (Qal rn0 (rnc (rqr rfl) rn0))) ln)) (qc (spb (lc rwl (lc (.rn (.plain _ (nld Qbp _))) ln))) qn))) ?_
     refine Qae ?_
     refine Qao ?_
     refine Qaf ?_
     refine Qaf ?_
     refine Qao ?_
     refine Qaf ?_
     obtain rfl := osi h
     exact ⟨_, Mor.rfl, Qcm (vs := [I y3]) ⟨rot (by kernel_rfl), trivial⟩ rfl (NLt.of0 nll) (by kernel_rfl) (Qan (Qa4 (nlc (NLt.fn _ _ _ nl0 (nlc (NLt.ref _ _ _ _ (by decide)) nl0)) nl0)) (Qan (Qa4 (nlc (NLt.of0 nll) (nlc (NLt.of0 (nld Qbp _)) nl0))) Qbl))⟩
    ·replace h := Qax hc13 h
     refine wfn hc13 (by kernel_rfl) ?_
     refine Qak ?_
     refine bln ?_
     refine thn ?_
     refine wx1 tbk [] trivial ?_
     refine thn ?_
     exact arm (mto (n := 19) [(0, (z32_0 p0)), (1, z32_1), (7, (I ((p0.length : Int)))), (8, (I (w64 (y3 + 1))))] [0, 1] [(.own 1 [[Qhi]]), (Qhh p1 p2)] hφ0 (pc (.rn (.plain _ (nld Qbp _))) (pc (.rn (Qal rn0 (rnc (rqr rfl) rn0))) (pc rwl (pc rwl pn)))) (qc (spb (lc (.rn (Qal rn0 (rnc (rqr rfl) rn0))) ln)) (qc (spb (lc rwl (lc (.rn (.plain _ (nld Qbp _))) ln))) qn))) (ih (w64 (y3 + 1)) h)
   ·replace h := Qax hc6 h
    refine wfn hc6 (by kernel_rfl) ?_
    refine Qbk ?_
    refine Qav ?_
    refine Qav ?_
    refine Qbj rfl ?_
    refine thn ?_
    exact ⟨(), h, (mto (n := 19) [] [0, 1] [(.own 1 [[Qhi]]), (Qhh p1 p2)] hφ0 pn (qc (spb (lc (.rn (Qal rn0 (rnc (rqr rfl) rn0))) ln)) (qc (spb (lc rwl (lc (.rn (.plain _ (nld Qbp _))) ln))) qn)))⟩
def Qc5 (N : Nat) (p0 : (List (List Int))) (p1 : Int) (p2 : (List (List Int))) : Option Bool :=
  (Qda N p0 p1 p2).bind fun x3 =>
  some (decide (x3 ≥ 0))
def z31_0 (p0 : (List (List Int))) : AV := .dat 1 ((p0 : List (List Int)).map Qdr)
def z31_1 : AV := .fn (.func 214) [] [(.ref 0 1 (0) 0)]
def z31_2 : AV := .fn (.func 173) [] [(.ref 1 2 (0) 0)]
def z31_4 (p1 : Int) (p2 : (List (List Int))) : Slot := .own 2 [[(I (p1)), (.dat 1 ((p2 : List (List Int)).map Qdr))]]
theorem Qef (N : Nat) (p0 : (List (List Int))) (p1 : Int) (p2 : (List (List Int))) (r : Bool) (h : Qc5 N p0 p1 p2 = some r) : Spec Try.prog 213 [(z31_0 p0), z31_1] [(.own 1 [[z31_2]]), (z31_4 p1 p2)] (B (r)) [(.own 1 [[z31_2]]), (z31_4 p1 p2)] := by
  refine Qah Try.func213 rfl 2 (nle rfl) (fun X φ0 w0 hφ0 hd0 => ?_)
  unfold Qc5 at h
  refine Qcf ?_
  refine wx tbk [] trivial ?_
  obtain ⟨x3, hf2, h⟩ := bno h
  refine wx tbk [(2, ⟨[fu 233, (.tmp 5, (z31_0 p0)), (.tmp 6, z31_1)], [(0, .own 1 [[z31_2]]), (1, (z31_4 p1 p2))], I x3, [(0, .own 1 [[z31_2]]), (1, (z31_4 p1 p2))], false⟩)] ⟨Qaq (first := []) (cap := []) (vs := [(z31_0 p0), z31_1]) (σr := [(.own 1 [[z31_2]]), (z31_4 p1 p2)]) (σr' := [(.own 1 [[z31_2]]), (z31_4 p1 p2)]) (res' := (I x3)) [0, 1] rfl enter233 (Qe0 N p0 p1 p2 _ hf2) rfl (Qcu (rnc (.plain _ (nld Qbp _)) (rnc (Qal rn0 (rnc (Qba rfl) rn0)) rn0))) (slc (Qaj (rnc (Qal rn0 (rnc (Qba rfl) rn0)) rn0)) (slc (Qaj (rnc (.plain _ nll) (rnc (.plain _ (nld Qbp _)) rn0))) Qap)) (slc (Qaj (rnc (Qal rn0 (rnc (Qi9 rfl) rn0)) rn0)) (slc (Qaj (rnc (.plain _ nll) (rnc (.plain _ (nld Qbp _)) rn0))) Qap)) (.plain _ nll) rfl rfl rfl, trivial⟩ ?_
  refine wmr (mto (n := 9) (l' := [(4, (B ((decide (x3 ≥ 0)))))]) (own' := [(.own 1 [[z31_2]]), (z31_4 p1 p2)]) [(4, (B ((decide (x3 ≥ 0)))))] [0, 1] [(.own 1 [[z31_2]]), (z31_4 p1 p2)] hφ0 (pc rwl pn) (qc (spb (lc (.rn (Qal rn0 (rnc (rqr rfl) rn0))) ln)) (qc (spb (lc rwl (lc (.rn (.plain _ (nld Qbp _))) ln))) qn))) ?_
  refine Qae ?_
  obtain rfl := osi h
  exact ⟨_, Mor.rfl, Qcm (vs := [(B ((decide (x3 ≥ 0))))]) ⟨rot (by kernel_rfl), trivial⟩ rfl (NLt.of0 nll) (by kernel_rfl) (Qan (Qa4 (nlc (NLt.fn _ _ _ nl0 (nlc (NLt.ref _ _ _ _ (by decide)) nl0)) nl0)) (Qan (Qa4 (nlc (NLt.of0 nll) (nlc (NLt.of0 (nld Qbp _)) nl0))) Qbl))⟩
def Qev (N : Nat) (p0 : (List (List Int))) (p1 : Int) (p2 : (List (List Int))) : Option Bool :=
  (Qc5 N p0 p1 p2).bind fun x3 =>
  some (!x3)
def z30_1 (p0 : (List (List Int))) : AV := .dat 1 ((p0 : List (List Int)).map Qdr)
def z30_0 : AV := .fn (.func 173) [] [(.ref 0 2 (0) 0)]
def z30_4 (p1 : Int) (p2 : (List (List Int))) : Slot := .own 2 [[(I (p1)), (.dat 1 ((p2 : List (List Int)).map Qdr))]]
def z30_2 : AV := .fn (.func 214) [] [(.ref 1 1 (0) 0)]
theorem Qg6 (N : Nat) (p0 : (List (List Int))) (p1 : Int) (p2 : (List (List Int))) (r : Bool) (h : Qev N p0 p1 p2 = some r) : Spec Try.prog 172 [(z30_1 p0), z30_0] [(z30_4 p1 p2)] (B (r)) [(z30_4 p1 p2)] := by
  refine Qah Try.func172 rfl 1 (nle rfl) (fun X φ0 w0 hφ0 hd0 => ?_)
  unfold Qev at h
  refine Qcf ?_
  refine wx tbk [] trivial ?_
  obtain ⟨x3, hf2, h⟩ := bno h
  refine wx tbk [(1, rp [(.tmp 3, .ref 1 1 0 0)] z30_2), (2, ⟨[fu 213, (.tmp 5, (z30_1 p0)), (.tmp 6, z30_2)], [(1, .own 1 [[z30_0]]), (0, (z30_4 p1 p2))], B x3, [(1, .own 1 [[z30_0]]), (0, (z30_4 p1 p2))], false⟩)] ⟨Qep (fs := []) (cs := [.ref 1 1 0 0]) rfl rfl rfl rfl, Qaq (first := []) (cap := []) (vs := [(z30_1 p0), z30_2]) (σr := [(.own 1 [[z30_0]]), (z30_4 p1 p2)]) (σr' := [(.own 1 [[z30_0]]), (z30_4 p1 p2)]) (res' := (B x3)) [1, 0] rfl enter213 (Qef N p0 p1 p2 _ hf2) rfl (Qcu (rnc (.plain _ (nld Qbp _)) (rnc (Qal rn0 (rnc (Qba rfl) rn0)) rn0))) (slc (Qaj (rnc (Qal rn0 (rnc (Qba rfl) rn0)) rn0)) (slc (Qaj (rnc (.plain _ nll) (rnc (.plain _ (nld Qbp _)) rn0))) Qap)) (slc (Qaj (rnc (Qal rn0 (rnc (Qi9 rfl) rn0)) rn0)) (slc (Qaj (rnc (.plain _ nll) (rnc (.plain _ (nld Qbp _)) rn0))) Qap)) (.plain _ nll) rfl rfl rfl, trivial⟩ ?_
  refine wmr (mto (n := 9) (l' := [(4, (B ((!x3))))]) (own' := [(z30_4 p1 p2)]) [(4, (B ((!x3))))] [0] [(z30_4 p1 p2)] hφ0 (pc rwl pn) (qc (spb (lc rwl (lc (.rn (.plain _ (nld Qbp _))) ln))) qn)) ?_
  refine Qae ?_
  obtain rfl := osi h
  exact ⟨_, Mor.rfl, Qcm (vs := [(B ((!x3)))]) ⟨rot (by kernel_rfl), trivial⟩ rfl (NLt.of0 nll) (by kernel_rfl) (Qan (Qa4 (nlc (NLt.of0 nll) (nlc (NLt.of0 (nld Qbp _)) nl0))) Qbl)⟩
def Qdt (N : Nat) (p0 : GConcession) : Option Bool :=
  (Qdf N p0.Holders 1 8).bind fun x2 =>
  bif x2 then
   (Qdf N (p0.Shares.length : Int) 1 20).bind fun x5 =>
   bif x5 then
    (Qev N p0.Shares p0.Holders p0.Shares).bind fun x8 =>
    some x8
   else
    some false
  else
   some false
def z29_0 (p0 : GConcession) : AV := .dat 1 ((p0.Shares : List (List Int)).map Qdr)
def z29_3 : AV := .fn (.func 173) [] [(.ref 0 2 (0) 0)]
def z29_1 (p0 : GConcession) : Slot := .own 2 [[(I (p0.Holders)), (z29_0 p0)]]
theorem Qf9 (N : Nat) (p0 : GConcession) (r : Bool) (h : Qdt N p0 = some r) : Spec Try.prog 114 [(.agg (Qfo p0))] [] (B r) [] := by
  refine Qah Try.func114 rfl 0 (nle rfl) (fun X φ0 w0 hφ0 hd0 => ?_)
  unfold Qdt at h
  refine wx tbk [] trivial ?_
  obtain ⟨x2, hf1, h⟩ := bno h
  rcases bft (x2) with hb3 | hb3
  ·replace h := Qaw hb3 h
   obtain ⟨x5, hf4, h⟩ := bno h
   rcases bft (x5) with hb6 | hb6
   ·replace h := Qaw hb6 h
    obtain ⟨x8, hf7, h⟩ := bno h
    refine wx tbk [(2, rp [fu 67, (.tmp 4, I p0.Holders), ci 1, ci 8] (B x2)), (3, rp [(.tmp 5, B x2)] (B true)), (6, rp [(.tmp 6, B true), (.tmp 8, (z29_0 p0))] (I ((p0.Shares.length : Int)))), (7, rp [(.tmp 6, B true), fu 67, (.tmp 9, (I ((p0.Shares.length : Int)))), ci 1, ci 20] (B x5)), (9, rp [(.tmp 11, B x5)] (B true)), (12, rp [(.tmp 12, B true), (.tmp 1, .ref 0 2 0 0)] z29_3), (13, ⟨[(.tmp 12, B true), fu 172, (.tmp 14, (z29_0 p0)), (.tmp 15, z29_3)], [(0, (z29_1 p0))], B x8, [(0, (z29_1 p0))], false⟩)] ⟨apc (first := []) (cap := []) (vs := [I p0.Holders, I 1, I 8]) rfl Qge (Qcb N p0.Holders 1 8 _ hf1) rfl rfl (nlc nll (nlc nll (nlc nll nl0))) nll rfl, asb hb3 (amv rfl), ag_ (alm (c := Qdr) (l := p0.Shares) (aln rfl Try.underlying151 rfl)), ag_ (apc (first := []) (cap := []) (vs := [(I ((p0.Shares.length : Int))), I 1, I 20]) rfl Qge (Qcb N (p0.Shares.length : Int) 1 20 _ hf4) rfl rfl (nlc nll (nlc nll (nlc nll nl0))) nll rfl), asb hb6 (amv rfl), ag_ (Qep (fs := []) (cs := [.ref 0 2 0 0]) rfl rfl rfl rfl), ag_ (Qaq (first := []) (cap := []) (vs := [(z29_0 p0), z29_3]) (σr := [(z29_1 p0)]) (σr' := [(z29_1 p0)]) (res' := (B x8)) [0] rfl enter172 (Qg6 N p0.Shares p0.Holders p0.Shares _ hf7) rfl (Qcu (rnc (.plain _ (nld Qbp _)) (rnc (Qal rn0 (rnc (Qba rfl) rn0)) rn0))) (slc (Qaj (rnc (.plain _ nll) (rnc (.plain _ (nld Qbp _)) rn0))) Qap) (slc (Qaj (rnc (.plain _ nll) (rnc (.plain _ (nld Qbp _)) rn0))) Qap) (.plain _ nll) rfl rfl rfl), trivial⟩ ?_
    refine Qae ?_
    obtain rfl := osi h
    exact fend ⟨[B x8], ⟨rot (by kernel_rfl), trivial⟩, rfl⟩ nll
   ·replace h := Qax hb6 h
    refine wx tbk [(2, rp [fu 67, (.tmp 4, I p0.Holders), ci 1, ci 8] (B x2)), (3, rp [(.tmp 5, B x2)] (B true)), (6, rp [(.tmp 6, B true), (.tmp 8, (z29_0 p0))] (I ((p0.Shares.length : Int)))), (7, rp [(.tmp 6, B true), fu 67, (.tmp 9, (I ((p0.Shares.length : Int)))), ci 1, ci 20] (B x5)), (9, rp [(.tmp 11, B x5)] (B false))] ⟨apc (first := []) (cap := []) (vs := [I p0.Holders, I 1, I 8]) rfl Qge (Qcb N p0.Holders 1 8 _ hf1) rfl rfl (nlc nll (nlc nll (nlc nll nl0))) nll rfl, asb hb3 (amv rfl), ag_ (alm (c := Qdr) (l := p0.Shares) (aln rfl Try.underlying151 rfl)), ag_ (apc (first := []) (cap := []) (vs := [(I ((p0.Shares.length : Int))), I 1, I 20]) rfl Qge (Qcb N (p0.Shares.length : Int) 1 20 _ hf4) rfl rfl (nlc nll (nlc nll (nlc nll nl0))) nll rfl), asb hb6 (amv rfl), trivial⟩ ?_
    refine Qae ?_
    obtain rfl := osi h
    exact fend ⟨[B false], ⟨rot (by kernel_rfl), trivial⟩, rfl⟩ nll
  ·replace h := Qax hb3 h
   refine wx tbk [(2, rp [fu 67, (.tmp 4, I p0.Holders), ci 1, ci 8] (B x2)), (3, rp [(.tmp 5, B x2)] (B false))] ⟨apc (first := []) (cap := []) (vs := [I p0.Holders, I 1, I 8]) rfl Qge (Qcb N p0.Holders 1 8 _ hf1) rfl rfl (nlc nll (nlc nll (nlc nll nl0))) nll rfl, asb hb3 (amv rfl), trivial⟩ ?_
   refine Qae ?_
   obtain rfl := osi h
   exact fend ⟨[B false], ⟨rot (by kernel_rfl), trivial⟩, rfl⟩ nll
def Qdq (N : Nat) (p0 : GConcession) (p1 : (List Int)) : Option Bool :=
  bif ((p1.length : Int) == (p0.Shares.length : Int)) then
   (Qdm N p1).bind fun x3 =>
   some x3
  else
   some false
def z40_3 (p1 : (List Int)) : AV := .dat 1 ((p1 : List Int).map Qab)
def z40_0 (p0 : GConcession) : AV := .dat 1 ((p0.Shares : List (List Int)).map Qdr)
theorem Qf3 (N : Nat) (p0 : GConcession) (p1 : (List Int)) (r : Bool) (h : Qdq N p0 p1 = some r) : Spec Try.prog 115 [(.agg (Qfo p0)), (.dat 1 (p1.map Qab))] [] (B r) [] := by
  refine Qah Try.func115 rfl 0 (nle rfl) (fun X φ0 w0 hφ0 hd0 => ?_)
  unfold Qdq at h
  refine wx tbk [] trivial ?_
  rcases bft (((p1.length : Int) == (p0.Shares.length : Int))) with hb1 | hb1
  ·replace h := Qaw hb1 h
   obtain ⟨x3, hf2, h⟩ := bno h
   refine wx tbk [(1, rp [(.tmp 5, (z40_3 p1))] (I ((p1.length : Int)))), (4, rp [(.tmp 8, (z40_0 p0))] (I ((p0.Shares.length : Int)))), (6, rp [(.tmp 10, (B (((p1.length : Int) == (p0.Shares.length : Int)))))] (B true)), (8, rp [(.tmp 11, B true), fu 68, (.tmp 12, (z40_3 p1)), fu 66] (B x3))] ⟨alm (c := Qab) (l := p1) (aln rfl Try.underlying22 rfl), alm (c := Qdr) (l := p0.Shares) (aln rfl Try.underlying151 rfl), asb hb1 (amv rfl), ag_ (Qaq (first := []) (cap := []) (vs := [(z40_3 p1), (.fn (.func 66) [] [])]) (σr := []) (σr' := []) (res' := (B x3)) [] rfl Qjl (Qeh N p1 _ hf2) rfl (Qcu (rnc (.plain _ (nld Qac _)) (rnc (.plain _ (NLt.fn _ _ _ nl0 nl0)) rn0))) Qap Qap (.plain _ nll) rfl rfl rfl), trivial⟩ ?_
   refine Qae ?_
   obtain rfl := osi h
   exact fend ⟨[B x3], ⟨rot (by kernel_rfl), trivial⟩, rfl⟩ nll
  ·replace h := Qax hb1 h
   refine wx tbk [(1, rp [(.tmp 5, (z40_3 p1))] (I ((p1.length : Int)))), (4, rp [(.tmp 8, (z40_0 p0))] (I ((p0.Shares.length : Int)))), (6, rp [(.tmp 10, (B (((p1.length : Int) == (p0.Shares.length : Int)))))] (B false))] ⟨alm (c := Qab) (l := p1) (aln rfl Try.underlying22 rfl), alm (c := Qdr) (l := p0.Shares) (aln rfl Try.underlying151 rfl), asb hb1 (amv rfl), trivial⟩ ?_
   refine Qae ?_
   obtain rfl := osi h
   exact fend ⟨[B false], ⟨rot (by kernel_rfl), trivial⟩, rfl⟩ nll
def Qb8 (N : Nat) (p0 : GConcession) (p1 : (List Int)) (y8 : Int) (k20 : (List Int) × Int × Int → Option ((List Int) × Int)) : Nat → (List Int) → Int → Int → Int → Option ((List Int) × Int)
  | 0, _, _, _, _ => none
  | n34 + 1, y26, y27, y28, y29 =>
    bif (decide (y29 < (p1.length : Int))) then
     (getI p1 y29).bind fun x36 =>
     (getI p0.Shares y29).bind fun x40 =>
     (getI x40 y8).bind fun x44 =>
     (some (w64 (y27 + (w64 ((w64 (x36.tdiv 1000)) * x44))))).bind fun x48 =>
     (some (w64 (y28 + (w64 ((x36.tmod 1000) * x44))))).bind fun x50 =>
     Qb8 N p0 p1 y8 k20 n34 y26 x48 x50 (w64 (y29 + 1))
    else
     k20 (y26, y27, y28)
def Qb9 (N : Nat) (p0 : GConcession) (p1 : (List Int)) (k5 : (List Int) × Int → Option ((List Int) × Int)) : Nat → (List Int) → Int → Int → Option ((List Int) × Int)
  | 0, _, _, _ => none
  | n12 + 1, y6, y7, y8 =>
    bif (decide (y8 < p0.Holders)) then
     Qcg (fun ⟨y14, y15⟩ =>
       Qb9 N p0 p1 k5 n12 y14 y15 (w64 (y8 + 1))) fun k16 : (List Int) × Int → Option ((List Int) × Int) =>
     Qcg (fun ⟨y17, y18, y19⟩ =>
       chk (decide ((y17.length + ([w64 (y18 + (w64 (y19.tdiv 1000)))]).length) * 8 ≤ 140737488355328)) <|
       (getI (y17 ++ ([w64 (y18 + (w64 (y19.tdiv 1000)))])) y8).bind fun x22 =>
       k16 (y17 ++ ([w64 (y18 + (w64 (y19.tdiv 1000)))]), w64 (y7 - x22))) fun k20 : (List Int) × Int × Int → Option ((List Int) × Int) =>
     Qb8 N p0 p1 y8 k20 N y6 0 0 0
    else
     k5 (y6, y7)
def Qd5 (N : Nat) (p0 : GConcession) (p1 : (List Int)) : Option ((List Int) × Int) :=
  (Qem N p1).bind fun x2 =>
  Qcg (fun ⟨y3, y4⟩ =>
    some (y3, y4)) fun k5 : (List Int) × Int → Option ((List Int) × Int) =>
  Qb9 N p0 p1 k5 N ([]) x2 0
def Qgg (p1 : (List Int)) : AV := .dat 1 ((p1 : List Int).map Qab)
def z41_0 (p0 : GConcession) : AV := .dat 1 ((p0.Shares : List (List Int)).map Qdr)
def Qis (p0 : GConcession) : Slot := .own 2 [[(I (p0.Holders)), (z41_0 p0)]]
def z41_59 (y6 : (List Int)) : AV := .acc 1 3 1 ((y6 : List Int).map Qab)
def z41_70 (y17 : (List Int)) (y18 : Int) (y19 : Int) : AV := .acc 2 3 1 ((y17 ++ ([w64 (y18 + (w64 (y19.tdiv 1000)))]) : List Int).map Qab)
def z41_72 (y26 : (List Int)) : AV := .acc 1 3 1 ((y26 : List Int).map Qab)
theorem Qgk (N : Nat) (p0 : GConcession) (p1 : (List Int)) (r : ((List Int) × Int)) (h : Qd5 N p0 p1 = some r) : Spec Try.prog 116 [(.agg (Qfo p0)), (.dat 1 (p1.map Qab))] [] (.tup [(.dat 1 (r.1.map Qab)), (I r.2)]) [] := by
  refine Qah Try.func116 rfl 0 (nle rfl) (fun X φ0 w0 hφ0 hd0 => ?_)
  unfold Qd5 at h
  refine wx tbk [] trivial ?_
  obtain ⟨x2, hf1, h⟩ := bno h
  refine wx tbk [(1, rp [fu 69, (.tmp 11, (Qgg p1))] (I x2))] ⟨apc (first := []) (cap := []) (vs := [(Qgg p1)]) rfl Qk9 (Qfn N p1 _ hf1) rfl rfl (nlc (nld Qac _) nl0) nll rfl, trivial⟩ ?_
  obtain ⟨k5, hk_k5, h⟩ := jko h
  refine wjn (τ := (List Int) × Int) (fun t => k5 t = some r) (fun ⟨y3, y4⟩ => ⟨mk 68 [(4, (.acc 0 3 1 ((y3 : List Int).map Qab))), (5, I y4)], [.tok]⟩) (fun t h => ?_) ?_
  ·subst hk_k5
   obtain ⟨y3, y4⟩ := t
   refine wx tbk [] trivial ?_
   refine Qae ?_
   obtain rfl := osi h
   exact fend ⟨[(.dat 1 ((y3 : List Int).map Qab)), I y4], ⟨Qfq (v := (.acc 0 3 1 ((y3 : List Int).map Qab))) (rot (by kernel_rfl)) Less.acc, rot (by kernel_rfl), trivial⟩, rfl⟩ (NLt.tup _ (nlc (nld Qac _) (nlc nll nl0)))
  ·skip
   refine wx tbk [] trivial ?_
   refine Qag ?_
   refine wmr (Mor.trans (Qk2 1 3 1 4 (by kernel_rfl) (by kernel_rfl)) (mto (n := 68) (l' := [(1, (Qgg p1)), (2, .ref 0 2 0 0), (4, (.acc 1 3 1 ((([]) : List Int).map Qab))), (5, I x2), (14, I p0.Holders), (15, I 0)]) (own' := [(Qis p0), .tok]) [(1, (Qgg p1)), (2, .ref 0 2 0 0), (4, (.acc 1 3 1 (([] : List Int).map Qab))), (5, I x2), (14, I p0.Holders), (15, I 0)] [0, 1] [(Qis p0), .tok] hφ0 (pc (.rn (.plain _ (nld Qac _))) (pc (.rn (rqr rfl)) (pc (.rn (Qcr rfl (Qb2 Qac _))) (pc rwl (pc rwl (pc rwl pn)))))) (qc (spb (lc rwl (lc (.rn (.plain _ (nld Qbp _))) ln))) (qc .tok qn)))) ?_
   refine Qca (τ := (List Int) × Int × Int) (fun n t => Qb9 N p0 p1 k5 n t.1 t.2.1 t.2.2 = some r) (fun ⟨y6, y7, y8⟩ => ⟨mk 68 [(1, (Qgg p1)), (2, .ref 0 2 0 0), (4, (z41_59 y6)), (5, I y7), (14, I p0.Holders), (15, I y8)], [(Qis p0), .tok]⟩) (fun t h => by rw [Qb9] at h; cases h) (fun n12 ih t h => ?_) N ([], x2, 0) h
   obtain ⟨y6, y7, y8⟩ := t
   rw [Qb9] at h
   skip
   refine wx tbk [] trivial ?_
   refine wsq ?_
   rcases bft ((decide (y8 < p0.Holders))) with hc13 | hc13
   ·replace h := Qaw hc13 h
    refine wft hc13 (by kernel_rfl) ?_
    refine Qak ?_
    refine thn ?_
    obtain ⟨k16, hk_k16, h⟩ := jko h
    refine wjn (τ := (List Int) × Int) (fun t => k16 t = some r) (fun ⟨y14, y15⟩ => ⟨mk 68 [(1, (Qgg p1)), (2, .ref 0 2 0 0), (4, (.acc 1 3 1 ((y14 : List Int).map Qab))), (5, I y15), (14, I p0.Holders), (15, I y8)], [(Qis p0), .tok]⟩) (fun t h => ?_) ?_
    ·subst hk_k16
     obtain ⟨y14, y15⟩ := t
     refine wx1 tbk [] trivial ?_
     refine thn ?_
     exact arm (mto (n := 68) [(1, (Qgg p1)), (2, .ref 0 2 0 0), (4, (.acc 1 3 1 ((y14 : List Int).map Qab))), (5, I y15), (14, I p0.Holders), (15, (I (w64 (y8 + 1))))] [0, 1] [(Qis p0), .tok] hφ0 (pc (.rn (.plain _ (nld Qac _))) (pc (.rn (rqr rfl)) (pc (.rn (Qcr rfl (Qb2 Qac _))) (pc rwl (pc rwl (pc rwl pn)))))) (qc (spb (lc rwl (lc (.rn (.plain _ (nld Qbp _))) ln))) (qc .tok qn))) (ih (y14, y15, w64 (y8 + 1)) h)
    ·skip
     refine Qag ?_
     refine wx tbk [] trivial ?_
     refine wx tbk [] trivial ?_
     obtain ⟨k20, hk_k20, h⟩ := jko h
     refine wjn (τ := (List Int) × Int × Int) (fun t => k20 t = some r) (fun ⟨y17, y18, y19⟩ => ⟨mk 68 [(1, (Qgg p1)), (2, .ref 0 2 0 0), (4, (.acc 1 3 1 ((y17 : List Int).map Qab))), (5, I y7), (6, I y8), (7, I y18), (8, I y19), (14, I p0.Holders), (15, I y8)], [(Qis p0), .tok]⟩) (fun t h => ?_) ?_
     ·subst hk_k20
      obtain ⟨y17, y18, y19⟩ := t
      obtain ⟨ha21, h⟩ := cko h
      refine wx tbk [(3, rp [(.tmp 54, I y19), ci 1000] (I (w64 (y19.tdiv 1000)))), (5, rp [(.tmp 56, (I (w64 (y18 + (w64 (y19.tdiv 1000))))))] (.dat 1 (([w64 (y18 + (w64 (y19.tdiv 1000)))] : List Int).map Qab))), (6, ⟨[(.tmp 52, (.acc 1 3 1 ((y17 : List Int).map Qab))), (.tmp 57, (.dat 1 (([w64 (y18 + (w64 (y19.tdiv 1000)))] : List Int).map Qab)))], [(1, .tok), (2, .unused)], (z41_70 y17 y18 y19), [(1, .dead), (2, .tok)], false⟩)] ⟨Qib rfl (by decide), Qdg (vs := [(I (w64 (y18 + (w64 (y19.tdiv 1000)))))]) rfl Try.underlying22 ti3 tz3 rfl (by decide) rfl (by decide) (by rfl) (by rfl) (by rfl) rfl, Qgm rfl Try.underlying22 te3 (Base.acc _ _) rfl rfl (by rfl) (Qin Qab ha21) (Qim Qab ha21 (by decide)) (Qil Qab) rfl rfl, trivial⟩ ?_
      obtain ⟨x22, hg23, h⟩ := bno h
      obtain ⟨hi24, hj25⟩ := gsm hg23
      refine wx1 tbk [(3, rp [(.tmp 60, (z41_70 y17 y18 y19)), (.tmp 61, I y8)] (.dptr (Qab (x22)) 0))] ⟨aid rfl Try.underlying22 ti3 rfl rfl hi24 (mgt Qab hj25) rfl, trivial⟩ ?_
      refine bln ?_
      refine thn ?_
      exact ⟨(y17 ++ ([w64 (y18 + (w64 (y19.tdiv 1000)))]), w64 (y7 - x22)), h, (mto (n := 68) [(1, (Qgg p1)), (2, .ref 0 2 0 0), (4, (z41_70 y17 y18 y19)), (5, (I (w64 (y7 - x22)))), (14, I p0.Holders), (15, I y8)] [0, 2] [(Qis p0), .tok] hφ0 (pc (.rn (.plain _ (nld Qac _))) (pc (.rn (rqr rfl)) (pc (.rn (Qcr rfl (Qb2 Qac _))) (pc rwl (pc rwl (pc rwl pn)))))) (qc (spb (lc rwl (lc (.rn (.plain _ (nld Qbp _))) ln))) (qc .tok qn)))⟩
     ·skip
      refine wx tbk [(1, rp [(.tmp 18, (Qgg p1))] (I ((p1.length : Int))))] ⟨alm (c := Qab) (l := p1) (aln rfl Try.underlying22 rfl), trivial⟩ ?_
      refine Qag ?_
      refine wmr (mto (n := 68) (l' := [(1, (Qgg p1)), (2, .ref 0 2 0 0), (4, (z41_59 y6)), (5, I y7), (6, I y8), (7, I 0), (8, I 0), (14, I p0.Holders), (15, I y8), (18, (Qgg p1)), (19, (I ((p1.length : Int)))), (20, I 0)]) (own' := [(Qis p0), .tok]) [(1, (Qgg p1)), (2, .ref 0 2 0 0), (4, (z41_59 y6)), (5, I y7), (6, I y8), (7, I 0), (8, I 0), (14, I p0.Holders), (15, I y8), (18, (Qgg p1)), (19, (I ((p1.length : Int)))), (20, I 0)] [0, 1] [(Qis p0), .tok] hφ0 (pc (.rn (.plain _ (nld Qac _))) (pc (.rn (rqr rfl)) (pc (.rn (Qcr rfl (Qb2 Qac _))) (pc rwl (pc rwl (pc rwl (pc rwl (pc rwl (pc rwl (pc (.rn (.plain _ (nld Qac _))) (pc rwl (pc rwl pn)))))))))))) (qc (spb (lc rwl (lc (.rn (.plain _ (nld Qbp _))) ln))) (qc .tok qn))) ?_
      refine Qca (τ := (List Int) × Int × Int × Int) (fun n t => Qb8 N p0 p1 y8 k20 n t.1 t.2.1 t.2.2.1 t.2.2.2 = some r) (fun ⟨y26, y27, y28, y29⟩ => ⟨mk 68 [(1, (Qgg p1)), (2, .ref 0 2 0 0), (4, (z41_72 y26)), (5, I y7), (6, I y8), (7, I y27), (8, I y28), (14, I p0.Holders), (15, I y8), (18, (Qgg p1)), (19, (I ((p1.length : Int)))), (20, I y29)], [(Qis p0), .tok]⟩) (fun t h => by rw [Qb8] at h; cases h) (fun n34 ih t h => ?_) N (y6, 0, 0, 0) h
      obtain ⟨y26, y27, y28, y29⟩ := t
      rw [Qb8] at h
      skip
      refine wx tbk [] trivial ?_
      refine wsq ?_
      rcases bft ((decide (y29 < (p1.length : Int)))) with hc35 | hc35
      ·replace h := Qaw hc35 h
       refine wft hc35 (by kernel_rfl) ?_
       refine Qak ?_
       refine thn ?_
       refine wsq ?_
       refine Qag ?_
       obtain ⟨x36, hg37, h⟩ := bno h
       obtain ⟨hi38, hj39⟩ := gsm hg37
       refine wx tbk [(1, rp [(.tmp 18, (Qgg p1)), (.tmp 20, I y29)] (.dptr (Qab (x36)) 0))] ⟨aid rfl Try.underlying22 ti3 rfl rfl hi38 (mgt Qab hj39) rfl, trivial⟩ ?_
       obtain ⟨x40, hg41, h⟩ := bno h
       obtain ⟨hi42, hj43⟩ := gsm hg41
       obtain ⟨x44, hg45, h⟩ := bno h
       obtain ⟨hi46, hj47⟩ := gsm hg45
       obtain ⟨x48, hl49, h⟩ := bno h
       refine wx tbk [(2, rp [(.tmp 26, I x36), ci 1000] (I (w64 (x36.tdiv 1000)))), (6, rp [(.tmp 29, (z41_0 p0)), (.tmp 30, I y29)] (.dptr (Qdr (x40)) 0)), (9, rp [(.tmp 32, (.dat 1 ((x40 : List Int).map Qab))), (.tmp 33, I y8)] (.dptr (Qab (x44)) 0)), (13, rp [(.tmp 37, (I (w64 (y27 + (w64 ((w64 (x36.tdiv 1000)) * x44))))))] (I x48))] ⟨Qib rfl (by decide), aid rfl Try.underlying151 ti22 rfl rfl hi42 (mgt Qdr hj43) rfl, aid rfl Try.underlying22 ti3 rfl rfl hi46 (mgt Qab hj47) rfl, Qez hl49 (aas rfl), trivial⟩ ?_
       obtain ⟨x50, hl51, h⟩ := bno h
       refine wx1 tbk [(2, rp [(.tmp 39, I x36), ci 1000] (I (x36.tmod 1000))), (6, rp [(.tmp 42, (z41_0 p0)), (.tmp 43, I y29)] (.dptr (Qdr (x40)) 0)), (9, rp [(.tmp 45, (.dat 1 ((x40 : List Int).map Qab))), (.tmp 46, I y8)] (.dptr (Qab (x44)) 0)), (13, rp [(.tmp 50, (I (w64 (y28 + (w64 ((x36.tmod 1000) * x44))))))] (I x50))] ⟨astep_rem rfl (by decide), aid rfl Try.underlying151 ti22 rfl rfl hi42 (mgt Qdr hj43) rfl, aid rfl Try.underlying22 ti3 rfl rfl hi46 (mgt Qab hj47) rfl, Qez hl51 (aas rfl), trivial⟩ ?_
       refine bln ?_
       refine thn ?_
       refine wx1 tbk [] trivial ?_
       refine thn ?_
       exact arm (mto (n := 68) [(1, (Qgg p1)), (2, .ref 0 2 0 0), (4, (z41_72 y26)), (5, I y7), (6, I y8), (7, I x48), (8, I x50), (14, I p0.Holders), (15, I y8), (18, (Qgg p1)), (19, (I ((p1.length : Int)))), (20, (I (w64 (y29 + 1))))] [0, 1] [(Qis p0), .tok] hφ0 (pc (.rn (.plain _ (nld Qac _))) (pc (.rn (rqr rfl)) (pc (.rn (Qcr rfl (Qb2 Qac _))) (pc rwl (pc rwl (pc rwl (pc rwl (pc rwl (pc rwl (pc (.rn (.plain _ (nld Qac _))) (pc rwl (pc rwl pn)))))))))))) (qc (spb (lc rwl (lc (.rn (.plain _ (nld Qbp _))) ln))) (qc .tok qn))) (ih (y26, x48, x50, w64 (y29 + 1)) h)
      ·replace h := Qax hc35 h
       refine wfn hc35 (by kernel_rfl) ?_
       refine Qbk ?_
       refine Qav ?_
       refine Qav ?_
       refine Qbj rfl ?_
       refine thn ?_
       exact ⟨(y26, y27, y28), h, (mto (n := 68) [(1, (Qgg p1)), (2, .ref 0 2 0 0), (4, (z41_72 y26)), (5, I y7), (6, I y8), (7, I y27), (8, I y28), (14, I p0.Holders), (15, I y8)] [0, 1] [(Qis p0), .tok] hφ0 (pc (.rn (.plain _ (nld Qac _))) (pc (.rn (rqr rfl)) (pc (.rn (Qcr rfl (Qb2 Qac _))) (pc rwl (pc rwl (pc rwl (pc rwl (pc rwl (pc rwl pn))))))))) (qc (spb (lc rwl (lc (.rn (.plain _ (nld Qbp _))) ln))) (qc .tok qn)))⟩
   ·replace h := Qax hc13 h
    refine wfn hc13 (by kernel_rfl) ?_
    refine Qbk ?_
    refine Qav ?_
    refine Qav ?_
    refine Qbj rfl ?_
    refine thn ?_
    exact ⟨(y6, y7), h, (mto (n := 68) [(4, (z41_59 y6)), (5, I y7)] [1] [.tok] hφ0 (pc (.rn (Qcr rfl (Qb2 Qac _))) (pc rwl pn)) (qc .tok qn))⟩
def Qii (N : Nat) (p0 : GConcession) (p1 : (List Int)) : Option ((List Int) × Int × Int) :=
  (Qdt N p0).bind fun x2 =>
  bif (!x2) then
   some ([], 0, 1)
  else
   (Qdq N p0 p1).bind fun x5 =>
   bif (!x5) then
    some ([], 0, 2)
   else
    (Qd5 N p0 p1).bind fun x8 =>
    some (x8.1, x8.2, 0)
def z28_2 (p0 : GConcession) : AV := .agg [(I (p0.Holders)), (.dat 1 ((p0.Shares : List (List Int)).map Qdr))]
def z28_5 : AV := .dat 1 (([] : List Int).map Qab)
def z28_3 (p1 : (List Int)) : AV := .dat 1 ((p1 : List Int).map Qab)
theorem Qk5 (N : Nat) (p0 : GConcession) (p1 : (List Int)) (r : ((List Int) × Int × Int)) (h : Qii N p0 p1 = some r) : Spec Try.prog 62 [(.agg (Qfo p0)), (.dat 1 (p1.map Qab))] [] (.tup [(.dat 1 (r.1.map Qab)), (I r.2.1), (I r.2.2)]) [] := by
  refine Qah Try.func62 rfl 0 (nle rfl) (fun X φ0 w0 hφ0 hd0 => ?_)
  unfold Qii at h
  refine wx tbk [] trivial ?_
  refine wsq ?_
  refine Qag ?_
  obtain ⟨x2, hf1, h⟩ := bno h
  refine wx tbk [(1, rp [fu 114, (.tmp 8, (z28_2 p0))] (B x2))] ⟨apc (first := []) (cap := []) (vs := [(z28_2 p0)]) rfl enter114 (Qf9 N p0 _ hf1) rfl rfl (nlc (NLt.agg _ (nlc nll (nlc (nld Qbp _) nl0))) nl0) nll rfl, trivial⟩ ?_
  rcases bft ((!x2)) with hc3 | hc3
  ·replace h := Qaw hc3 h
   refine wft hc3 (by kernel_rfl) ?_
   refine wx tbk [] trivial ?_
   refine Qae ?_
   refine Qao ?_
   refine Qaf ?_
   obtain rfl := osi h
   exact fend ⟨[z28_5, I 0, I 1], ⟨Qfq (v := nilS) (rot (by kernel_rfl)) Less.nil, rot (by kernel_rfl), rot (by kernel_rfl), trivial⟩, rfl⟩ (NLt.tup _ (nlc (nld Qac _) (nlc nll (nlc nll nl0))))
  ·replace h := Qax hc3 h
   refine wfn hc3 (by kernel_rfl) ?_
   obtain ⟨x5, hf4, h⟩ := bno h
   refine wx tbk [(2, rp [fu 115, (.tmp 12, (z28_2 p0)), (.tmp 13, (z28_3 p1))] (B x5))] ⟨apc (first := []) (cap := []) (vs := [(z28_2 p0), (z28_3 p1)]) rfl enter115 (Qf3 N p0 p1 _ hf4) rfl rfl (nlc (NLt.agg _ (nlc nll (nlc (nld Qbp _) nl0))) (nlc (nld Qac _) nl0)) nll rfl, trivial⟩ ?_
   rcases bft ((!x5)) with hc6 | hc6
   ·replace h := Qaw hc6 h
    refine wft hc6 (by kernel_rfl) ?_
    refine wx tbk [] trivial ?_
    refine Qae ?_
    refine Qao ?_
    refine Qaf ?_
    obtain rfl := osi h
    exact fend ⟨[z28_5, I 0, I 2], ⟨Qfq (v := nilS) (rot (by kernel_rfl)) Less.nil, rot (by kernel_rfl), rot (by kernel_rfl), trivial⟩, rfl⟩ (NLt.tup _ (nlc (nld Qac _) (nlc nll (nlc nll nl0))))
   ·replace h := Qax hc6 h
    refine wfn hc6 (by kernel_rfl) ?_
    refine Qak ?_
    refine bln ?_
    refine thn ?_
    obtain ⟨x8, hf7, h⟩ := bno h
    refine wx tbk [(2, rp [fu 116, (.tmp 17, (z28_2 p0)), (.tmp 18, (z28_3 p1))] (.tup [(.dat 1 ((x8.1 : List Int).map Qab)), I x8.2]))] ⟨apc (first := []) (cap := []) (vs := [(z28_2 p0), (z28_3 p1)]) rfl enter116 (Qgk N p0 p1 _ hf7) rfl rfl (nlc (NLt.agg _ (nlc nll (nlc (nld Qbp _) nl0))) (nlc (nld Qac _) nl0)) (NLt.tup _ (nlc (nld Qac _) (nlc nll nl0))) rfl, trivial⟩ ?_
    refine wx tbk [] trivial ?_
    refine Qae ?_
    obtain rfl := osi h
    exact fend ⟨[(.dat 1 ((x8.1 : List Int).map Qab)), I x8.2, I 0], ⟨rot (by kernel_rfl), rot (by kernel_rfl), rot (by kernel_rfl), trivial⟩, rfl⟩ (NLt.tup _ (nlc (nld Qac _) (nlc nll (nlc nll nl0))))
def Qd9 (N : Nat) : Option Bool :=
  (Qii N (⟨1, [[250]]⟩ : GConcession) ([10])).bind fun x2 =>
  bif (x2.2.2 == 0) then
   bif ((x2.1.length : Int) == 1) then
    (getI x2.1 0).bind fun x5 =>
    bif (x5 == 2) then
     some (x2.2.1 == 8)
    else
     some false
   else
    some false
  else
   some false
def z27_0 : AV := .dat 1 (([250] : List Int).map Qab)
def z27_1 : AV := .dat 1 (([[250]] : List (List Int)).map Qdr)
def z27_2 : AV := .dat 1 (([10] : List Int).map Qab)
def z27_3 (x2 : ((List Int) × Int × Int)) : AV := .dat 1 ((x2.1 : List Int).map Qab)
theorem Qcj (N : Nat) (r : Bool) (h : Qd9 N = some r) : Spec Try.prog 20 [] [] (B r) [] := by
  refine Qah Try.func20 rfl 0 (nle rfl) (fun X φ0 w0 hφ0 hd0 => ?_)
  unfold Qd9 at h
  refine wx tbk [] trivial ?_
  obtain ⟨x2, hf1, h⟩ := bno h
  refine wx tbk [(0, rp [ci 250] z27_0), (1, rp [(.tmp 5, z27_0)] z27_1), (2, rp [ci 1, (.tmp 6, z27_1)] (.agg [I 1, z27_1])), (3, rp [ci 10] z27_2), (4, rp [fu 62, (.tmp 7, (.agg [I 1, z27_1])), (.tmp 8, z27_2)] (.tup [(z27_3 x2), I x2.2.1, I x2.2.2]))] ⟨Qdg (vs := [I 250]) rfl Try.underlying22 ti3 tz3 rfl (by decide) rfl (by decide) (by rfl) (by rfl) (by rfl) rfl, Qdg (vs := [z27_0]) rfl Try.underlying151 ti22 tz22 rfl (by decide) rfl (by decide) (by rfl) (by rfl) (by rfl) rfl, Qhx (vs := [I 1, z27_1]) rfl ts153 tz153 rfl (by rfl) rfl, Qdg (vs := [I 10]) rfl Try.underlying22 ti3 tz3 rfl (by decide) rfl (by decide) (by rfl) (by rfl) (by rfl) rfl, apc (first := []) (cap := []) (vs := [(.agg [I 1, z27_1]), z27_2]) rfl enter62 (Qk5 N (⟨1, [[250]]⟩ : GConcession) ([10]) _ hf1) rfl rfl (nlc (NLt.agg _ (nlc nll (nlc (nld Qbp _) nl0))) (nlc (nld Qac _) nl0)) (NLt.tup _ (nlc (nld Qac _) (nlc nll (nlc nll nl0)))) rfl, trivial⟩ ?_
  rcases bft ((x2.2.2 == 0)) with hb3 | hb3
  ·replace h := Qaw hb3 h
   rcases bft (((x2.1.length : Int) == 1)) with hb4 | hb4
   ·replace h := Qaw hb4 h
    obtain ⟨x5, hg6, h⟩ := bno h
    obtain ⟨hi7, hj8⟩ := gsm hg6
    rcases bft ((x5 == 2)) with hb9 | hb9
    ·replace h := Qaw hb9 h
     refine wx tbk [(2, rp [(.tmp 14, (B ((x2.2.2 == 0))))] (B true)), (4, rp [(.tmp 15, B true), (.tmp 16, (z27_3 x2))] (I ((x2.1.length : Int)))), (7, rp [(.tmp 19, (B (((x2.1.length : Int) == 1))))] (B true)), (9, rp [(.tmp 20, B true), (.tmp 21, (z27_3 x2)), ci 0] (.dptr (Qab (x5)) 0)), (13, rp [(.tmp 25, (B ((x5 == 2))))] (B true))] ⟨asb hb3 (amv rfl), ag_ (alm (c := Qab) (l := x2.1) (aln rfl Try.underlying22 rfl)), asb hb4 (amv rfl), ag_ (aid rfl Try.underlying22 ti3 rfl rfl hi7 (mgt Qab hj8) rfl), asb hb9 (amv rfl), trivial⟩ ?_
     refine Qae ?_
     obtain rfl := osi h
     exact fend ⟨[(B ((x2.2.1 == 8)))], ⟨rot (by kernel_rfl), trivial⟩, rfl⟩ nll
    ·replace h := Qax hb9 h
     refine wx tbk [(2, rp [(.tmp 14, (B ((x2.2.2 == 0))))] (B true)), (4, rp [(.tmp 15, B true), (.tmp 16, (z27_3 x2))] (I ((x2.1.length : Int)))), (7, rp [(.tmp 19, (B (((x2.1.length : Int) == 1))))] (B true)), (9, rp [(.tmp 20, B true), (.tmp 21, (z27_3 x2)), ci 0] (.dptr (Qab (x5)) 0)), (13, rp [(.tmp 25, (B ((x5 == 2))))] (B false))] ⟨asb hb3 (amv rfl), ag_ (alm (c := Qab) (l := x2.1) (aln rfl Try.underlying22 rfl)), asb hb4 (amv rfl), ag_ (aid rfl Try.underlying22 ti3 rfl rfl hi7 (mgt Qab hj8) rfl), asb hb9 (amv rfl), trivial⟩ ?_
     refine Qae ?_
     obtain rfl := osi h
     exact fend ⟨[B false], ⟨rot (by kernel_rfl), trivial⟩, rfl⟩ nll
   ·replace h := Qax hb4 h
    refine wx tbk [(2, rp [(.tmp 14, (B ((x2.2.2 == 0))))] (B true)), (4, rp [(.tmp 15, B true), (.tmp 16, (z27_3 x2))] (I ((x2.1.length : Int)))), (7, rp [(.tmp 19, (B (((x2.1.length : Int) == 1))))] (B false))] ⟨asb hb3 (amv rfl), ag_ (alm (c := Qab) (l := x2.1) (aln rfl Try.underlying22 rfl)), asb hb4 (amv rfl), trivial⟩ ?_
    refine Qae ?_
    obtain rfl := osi h
    exact fend ⟨[B false], ⟨rot (by kernel_rfl), trivial⟩, rfl⟩ nll
  ·replace h := Qax hb3 h
   refine wx tbk [(2, rp [(.tmp 14, (B ((x2.2.2 == 0))))] (B false))] ⟨asb hb3 (amv rfl), trivial⟩ ?_
   refine Qae ?_
   obtain rfl := osi h
   exact fend ⟨[B false], ⟨rot (by kernel_rfl), trivial⟩, rfl⟩ nll
end Go.Proofs.Ytflmombnmnblnaa
