/-
  Functions of the program: what they compute, as plain functions, and that they do. No conditions.
-/
import Derived.Test.YtlhakkkjgdbdpaaX2
namespace Go.Proofs.Ytlhakkkjgdbdpaa
open Go.RowKit

def Qf4 (N : Nat) (p0 : Int) : Option Bool :=
  (Qbl N p0 0 1000000).bind fun x2 =>
  some x2
set_option maxRecDepth 100000 in
set_option maxHeartbeats 4000000 in
theorem Qjf (N : Nat) (p0 : Int) (r : Bool) (h : Qf4 N p0 = some r) : Spec Try.prog 102 [(I p0)] [] (B r) [] := by
  refine Qae Try.func102 rfl 0 (nle rfl) (fun X φ0 w0 hφ0 => ?_)
  unfold Qf4 at h
  refine wrg [mc (.bool false)] ?_ ?_
  ·exact ⟨aas rfl, trivial⟩
  obtain ⟨x2, hf1, h⟩ := bno h
  refine wrg [mv 0 (I p0), rp [fu 65, (.tmp 3, I p0), ci 0, ci 1000000] (B x2), mv 4 (B x2)] ?_ ?_
  ·exact ⟨amv rfl, apc (first := []) (cap := []) (vs := [I p0, I 0, I 1000000]) rfl Qb2 (Qag N p0 0 1000000 _ hf1) rfl rfl (nlc nll (nlc nll (nlc nll nl0))) nll rfl, aas rfl, trivial⟩
  refine Qaf ?_
  obtain rfl := osi h
  exact ⟨⟨[B x2], ⟨rot (by kernel_rfl), trivial⟩, rfl⟩, nll, Nat.le_refl _, fun n hn => absurd hn (Nat.not_lt_zero n)⟩

def Qg4 (N : Nat) (p0 : Int) : Option Bool :=
  (Qf4 N p0).bind fun x3 =>
  some (!x3)
set_option maxRecDepth 100000 in
set_option maxHeartbeats 4000000 in
theorem plant_all_int_1X_1_ok (N : Nat) (p0 : Int) (r : Bool) (h : Qg4 N p0 = some r) : Spec Try.prog 110 [(I (p0)), (.ref 0 1 (0) 0)] [(.own 1 [[(.fn (.func 102) [] [])]])] (B (r)) [(.own 1 [[(.fn (.func 102) [] [])]])] := by
  refine Qae Try.func110 rfl 1 (nle rfl) (fun X φ0 w0 hφ0 => ?_)
  unfold Qg4 at h
  refine Qbv ?_
  refine wrg [mc (.bool false)] ?_ ?_
  ·exact ⟨aas rfl, trivial⟩
  obtain ⟨x3, hf2, h⟩ := bno h
  refine wrg [rb [(.tmp 1, .ref 0 1 0 0)] [(0, (.own 1 [[(.fn (.func 102) [] [])]]))] (.fn (.func 102) [] []), mv 0 (I p0), rp [(.tmp 4, (.fn (.func 102) [] [])), (.tmp 5, I p0)] (B x3), rp [(.tmp 6, B x3)] (B ((!x3))), mv 7 (B ((!x3)))] ?_ ?_
  ·exact ⟨ald rfl ti126 (by decide) rfl (nle rfl) rfl, amv rfl, apc (first := []) (cap := []) (vs := [I p0]) rfl enter102 (Qjf N p0 _ hf2) rfl rfl (nlc nll nl0) nll rfl, Qa6 rfl, aas rfl, trivial⟩
  refine wmr (mto (n := 8) (l' := [(3, (B ((!x3))))]) (own' := [(.own 1 [[(.fn (.func 102) [] [])]])]) [(3, (B ((!x3))))] [0] [(.own 1 [[(.fn (.func 102) [] [])]])] hφ0 (pc rwl pn) (qc (spb (lc (.rn (Qaq rn0 rn0)) ln)) qn)) ?_
  refine Qaf ?_
  obtain rfl := osi h
  exact ⟨_, Mor.rfl, Qcd (vs := [(B ((!x3)))]) ⟨rot (by kernel_rfl), trivial⟩ rfl (NLt.of0 nll) (by kernel_rfl) (Qai (Qaz (nlc (NLt.of0 (NLt.fn _ _ _ nl0 nl0)) nl0)) Qbm)⟩

def Qco (N : Nat) (p0 : (List Int)) (k2 : Unit → Option Int) : Nat → Int → Option Int
  | 0, _ => none
  | n5 + 1, y3 =>
    bif (decide (y3 < (p0.length : Int))) then
     (getI p0 y3).bind fun x7 =>
     (Qg4 N x7).bind fun x12 =>
     bif x12 then
      some y3
     else
      Qco N p0 k2 n5 (w64 (y3 + 1))
    else
     k2 ()
def Qek (N : Nat) (p0 : (List Int)) : Option Int :=
  Qc5 (fun _ =>
    some (-1)) fun k2 : Unit → Option Int =>
  Qco N p0 k2 N 0
set_option maxRecDepth 100000 in
set_option maxHeartbeats 4000000 in
theorem Qhq (N : Nat) (p0 : (List Int)) (r : Int) (h : Qek N p0 = some r) : Spec Try.prog 71 [(.dat 1 ((p0 : List Int).map Qaa)), (.fn (.func 110) [] [(.ref 0 1 (0) 0)])] [(.own 1 [[(.fn (.func 102) [] [])]])] (I (r)) [(.own 1 [[(.fn (.func 102) [] [])]])] := by
  refine Qae Try.func71 rfl 1 (nle rfl) (fun X φ0 w0 hφ0 => ?_)
  unfold Qek at h
  refine Qbv ?_
  refine wrg [mc (.int .i64 0)] ?_ ?_
  ·exact ⟨aas rfl, trivial⟩
  obtain ⟨k2, hk_k2, h⟩ := jko h
  refine wjn (τ := Unit) (fun t => k2 t = some r) (fun _ => ⟨mk 19 [], [(.own 1 [[(.fn (.func 102) [] [])]])]⟩) (fun t h => ?_) ?_
  ·subst hk_k2
   refine wrg [mc (.int .i64 (-1))] ?_ ?_
   ·exact ⟨aas rfl, trivial⟩
   refine wmr (mto (n := 19) (l' := [(4, (I ((-1))))]) (own' := [(.own 1 [[(.fn (.func 102) [] [])]])]) [(4, (I ((-1))))] [0] [(.own 1 [[(.fn (.func 102) [] [])]])] hφ0 (pc rwl pn) (qc (spb (lc (.rn (Qaq rn0 rn0)) ln)) qn)) ?_
   refine Qaf ?_
   obtain rfl := osi h
   exact ⟨_, Mor.rfl, Qcd (vs := [(I ((-1)))]) ⟨rot (by kernel_rfl), trivial⟩ rfl (NLt.of0 nll) (by kernel_rfl) (Qai (Qaz (nlc (NLt.of0 (NLt.fn _ _ _ nl0 nl0)) nl0)) Qbm)⟩
  ·skip
   refine wrg [mv 0 (.dat 1 ((p0 : List Int).map Qaa)), rp [(.tmp 6, (.dat 1 ((p0 : List Int).map Qaa)))] (I ((p0.length : Int))), mc (.int .i64 0)] ?_ ?_
   ·exact ⟨amv rfl, alm (c := Qaa) (l := p0) (aln rfl Try.underlying37 rfl), amv rfl, trivial⟩
   refine Qal ?_
   refine wmr (mto (n := 19) (l' := [(0, (.dat 1 ((p0 : List Int).map Qaa))), (1, (.fn (.func 110) [] [.ref 0 1 0 0])), (7, (I ((p0.length : Int)))), (8, I 0)]) (own' := [(.own 1 [[(.fn (.func 102) [] [])]])]) [(0, (.dat 1 ((p0 : List Int).map Qaa))), (1, (.fn (.func 110) [] [.ref 0 1 0 0])), (7, (I ((p0.length : Int)))), (8, I 0)] [0] [(.own 1 [[(.fn (.func 102) [] [])]])] hφ0 (pc (.rn (.plain _ (nld Qac _))) (pc (.rn (Qaq rn0 (rnc (rqr rfl) rn0))) (pc rwl (pc rwl pn)))) (qc (spb (lc (.rn (Qaq rn0 rn0)) ln)) qn)) ?_
   refine Qci (τ := Int) (fun n t => Qco N p0 k2 n t = some r) (fun y3 => ⟨mk 19 [(0, (.dat 1 ((p0 : List Int).map Qaa))), (1, (.fn (.func 110) [] [.ref 0 1 0 0])), (7, (I ((p0.length : Int)))), (8, I y3)], [(.own 1 [[(.fn (.func 102) [] [])]])]⟩) (fun t h => by rw [Qco] at h; cases h) (fun n5 ih y3 h => ?_) N (0) h
   rw [Qco] at h
   skip
   refine wrg [rp [(.tmp 8, I y3), (.tmp 7, (I ((p0.length : Int))))] (B ((decide (y3 < (p0.length : Int)))))] ?_ ?_
   ·exact ⟨abn rfl rfl, trivial⟩
   refine wsq ?_
   rcases bft ((decide (y3 < (p0.length : Int)))) with hc6 | hc6
   ·replace h := Qa2 hc6 h
    refine wft hc6 (by kernel_rfl) ?_
    refine Qao ?_
    refine thn ?_
    refine wsq ?_
    refine Qal ?_
    refine wrg [mv 8 (I y3), mv 10 (I y3)] ?_ ?_
    ·exact ⟨amv rfl, aas rfl, trivial⟩
    obtain ⟨x7, hg8, h⟩ := bno h
    obtain ⟨hi9, hj10⟩ := gsm hg8
    obtain ⟨x12, hf11, h⟩ := bno h
    refine wrg [mv 1 (.fn (.func 110) [] [.ref 0 1 0 0]), mv 0 (.dat 1 ((p0 : List Int).map Qaa)), mv 5 (I y3), rp [(.tmp 12, (.dat 1 ((p0 : List Int).map Qaa))), (.tmp 13, I y3)] (.dptr (Qaa (x7)) 0), rp [(.tmp 14, (.dptr (Qaa (x7)) 0))] (I x7), ⟨[(.tmp 11, (.fn (.func 110) [] [.ref 0 1 0 0])), (.tmp 15, I x7)], [(0, (.own 1 [[(.fn (.func 102) [] [])]]))], B x12, [(0, (.own 1 [[(.fn (.func 102) [] [])]]))], false⟩] ?_ ?_
    ·exact ⟨amv rfl, amv rfl, amv rfl, aid rfl Try.underlying37 ti3 rfl rfl hi9 (mgt Qaa hj10) rfl, ald_ rfl ti3 (by decide) (nle rfl) rfl, Qan (first := []) (cap := [.ref 0 1 0 0]) (vs := [I x7]) (σr := [(.own 1 [[(.fn (.func 102) [] [])]])]) (σr' := [(.own 1 [[(.fn (.func 102) [] [])]])]) (res' := (B x12)) [0] rfl enter110 (plant_all_int_1X_1_ok N x7 _ hf11) rfl (Qb0 (rnc (.plain _ nll) (rnc (Qa9 rfl) rn0))) (slc (Qak (rnc (.plain _ (NLt.fn _ _ _ nl0 nl0)) rn0)) Qam) (slc (Qak (rnc (.plain _ (NLt.fn _ _ _ nl0 nl0)) rn0)) Qam) (.plain _ nll) rfl rfl rfl, trivial⟩
    rcases bft (x12) with hc13 | hc13
    ·replace h := Qa2 hc13 h
     refine wft hc13 (by kernel_rfl) ?_
     refine wrg [mv 5 (I y3), mv 17 (I y3)] ?_ ?_
     ·exact ⟨amv rfl, aas rfl, trivial⟩
     refine wmr (mto (n := 19) (l' := [(4, I y3)]) (own' := [(.own 1 [[(.fn (.func 102) [] [])]])]) [(4, I y3)] [0] [(.own 1 [[(.fn (.func 102) [] [])]])] hφ0 (pc rwl pn) (qc (spb (lc (.rn (Qaq rn0 rn0)) ln)) qn)) ?_
     refine Qaf ?_
     refine Qcp ?_
     refine Qa7 ?_
     refine Qa7 ?_
     refine Qcp ?_
     refine Qa7 ?_
     obtain rfl := osi h
     exact ⟨_, Mor.rfl, Qcd (vs := [I y3]) ⟨rot (by kernel_rfl), trivial⟩ rfl (NLt.of0 nll) (by kernel_rfl) (Qai (Qaz (nlc (NLt.of0 (NLt.fn _ _ _ nl0 nl0)) nl0)) Qbm)⟩
    ·replace h := Qa3 hc13 h
     refine wfn hc13 (by kernel_rfl) ?_
     refine Qao ?_
     refine bln ?_
     refine thn ?_
     refine Qar [rp [(.tmp 8, I y3), ci 1] (I (w64 (y3 + 1))), mv 18 (I (w64 (y3 + 1)))] ?_ ?_
     ·exact ⟨abn rfl rfl, amv rfl, trivial⟩
     refine thn ?_
     exact arm (mto (n := 19) [(0, (.dat 1 ((p0 : List Int).map Qaa))), (1, (.fn (.func 110) [] [.ref 0 1 0 0])), (7, (I ((p0.length : Int)))), (8, (I (w64 (y3 + 1))))] [0] [(.own 1 [[(.fn (.func 102) [] [])]])] hφ0 (pc (.rn (.plain _ (nld Qac _))) (pc (.rn (Qaq rn0 (rnc (rqr rfl) rn0))) (pc rwl (pc rwl pn)))) (qc (spb (lc (.rn (Qaq rn0 rn0)) ln)) qn)) (ih (w64 (y3 + 1)) h)
   ·replace h := Qa3 hc6 h
    refine wfn hc6 (by kernel_rfl) ?_
    refine Qbq ?_
    refine Qaw ?_
    refine Qaw ?_
    refine Qbp rfl ?_
    refine thn ?_
    exact ⟨(), h, (mto (n := 19) [] [0] [(.own 1 [[(.fn (.func 102) [] [])]])] hφ0 pn (qc (spb (lc (.rn (Qaq rn0 rn0)) ln)) qn))⟩

def Qea (N : Nat) (p0 : (List Int)) : Option Bool :=
  (Qek N p0).bind fun x3 =>
  some (decide (x3 ≥ 0))
set_option maxRecDepth 100000 in
set_option maxHeartbeats 4000000 in
theorem Qgy (N : Nat) (p0 : (List Int)) (r : Bool) (h : Qea N p0 = some r) : Spec Try.prog 109 [(.dat 1 ((p0 : List Int).map Qaa)), (.fn (.func 110) [] [(.ref 0 1 (0) 0)])] [(.own 1 [[(.fn (.func 102) [] [])]])] (B (r)) [(.own 1 [[(.fn (.func 102) [] [])]])] := by
  refine Qae Try.func109 rfl 1 (nle rfl) (fun X φ0 w0 hφ0 => ?_)
  unfold Qea at h
  refine Qbv ?_
  refine wrg [mc (.bool false)] ?_ ?_
  ·exact ⟨aas rfl, trivial⟩
  obtain ⟨x3, hf2, h⟩ := bno h
  refine wrg [mv 0 (.dat 1 ((p0 : List Int).map Qaa)), mv 1 (.fn (.func 110) [] [.ref 0 1 0 0]), ⟨[fu 71, (.tmp 5, (.dat 1 ((p0 : List Int).map Qaa))), (.tmp 6, (.fn (.func 110) [] [.ref 0 1 0 0]))], [(0, (.own 1 [[(.fn (.func 102) [] [])]]))], I x3, [(0, (.own 1 [[(.fn (.func 102) [] [])]]))], false⟩, rp [(.tmp 7, I x3), ci 0] (B ((decide (x3 ≥ 0)))), mv 8 (B ((decide (x3 ≥ 0))))] ?_ ?_
  ·exact ⟨amv rfl, amv rfl, Qan (first := []) (cap := []) (vs := [(.dat 1 ((p0 : List Int).map Qaa)), (.fn (.func 110) [] [.ref 0 1 0 0])]) (σr := [(.own 1 [[(.fn (.func 102) [] [])]])]) (σr' := [(.own 1 [[(.fn (.func 102) [] [])]])]) (res' := (I x3)) [0] rfl enter71 (Qhq N p0 _ hf2) rfl (Qb0 (rnc (.plain _ (nld Qac _)) (rnc (Qaq rn0 (rnc (Qa9 rfl) rn0)) rn0))) (slc (Qak (rnc (.plain _ (NLt.fn _ _ _ nl0 nl0)) rn0)) Qam) (slc (Qak (rnc (.plain _ (NLt.fn _ _ _ nl0 nl0)) rn0)) Qam) (.plain _ nll) rfl rfl rfl, abn rfl rfl, aas rfl, trivial⟩
  refine wmr (mto (n := 9) (l' := [(4, (B ((decide (x3 ≥ 0)))))]) (own' := [(.own 1 [[(.fn (.func 102) [] [])]])]) [(4, (B ((decide (x3 ≥ 0)))))] [0] [(.own 1 [[(.fn (.func 102) [] [])]])] hφ0 (pc rwl pn) (qc (spb (lc (.rn (Qaq rn0 rn0)) ln)) qn)) ?_
  refine Qaf ?_
  obtain rfl := osi h
  exact ⟨_, Mor.rfl, Qcd (vs := [(B ((decide (x3 ≥ 0))))]) ⟨rot (by kernel_rfl), trivial⟩ rfl (NLt.of0 nll) (by kernel_rfl) (Qai (Qaz (nlc (NLt.of0 (NLt.fn _ _ _ nl0 nl0)) nl0)) Qbm)⟩

def Qh9 (N : Nat) (p0 : (List Int)) : Option Bool :=
  (Qea N p0).bind fun x2 =>
  some (!x2)
set_option maxRecDepth 100000 in
set_option maxHeartbeats 4000000 in
theorem Qgo (N : Nat) (p0 : (List Int)) (r : Bool) (h : Qh9 N p0 = some r) : Spec Try.prog 89 [(.dat 1 ((p0 : List Int).map Qaa)), (.fn (.func 102) [] [])] [] (B (r)) [] := by
  refine Qae Try.func89 rfl 0 (nle rfl) (fun X φ0 w0 hφ0 => ?_)
  unfold Qh9 at h
  refine wrg [⟨[(.tmp 1, (.fn (.func 102) [] []))], [(0, .unused)], .ref 0 1 0 0, [(0, (.own 1 [[(.fn (.func 102) [] [])]]))], false⟩, mc (.bool false)] ?_ ?_
  ·exact ⟨Qa0 rfl (by rfl) rfl rfl, aas rfl, trivial⟩
  obtain ⟨x2, hf1, h⟩ := bno h
  refine wrg [mv 0 (.dat 1 ((p0 : List Int).map Qaa)), rp [(.tmp 3, .ref 0 1 0 0)] (.fn (.func 110) [] [.ref 0 1 0 0]), ⟨[fu 109, (.tmp 5, (.dat 1 ((p0 : List Int).map Qaa))), (.tmp 6, (.fn (.func 110) [] [.ref 0 1 0 0]))], [(0, (.own 1 [[(.fn (.func 102) [] [])]]))], B x2, [(0, (.own 1 [[(.fn (.func 102) [] [])]]))], false⟩, rp [(.tmp 7, B x2)] (B ((!x2))), mv 8 (B ((!x2)))] ?_ ?_
  ·exact ⟨amv rfl, Qd5 (fs := []) (cs := [.ref 0 1 0 0]) rfl rfl rfl rfl, Qan (first := []) (cap := []) (vs := [(.dat 1 ((p0 : List Int).map Qaa)), (.fn (.func 110) [] [.ref 0 1 0 0])]) (σr := [(.own 1 [[(.fn (.func 102) [] [])]])]) (σr' := [(.own 1 [[(.fn (.func 102) [] [])]])]) (res' := (B x2)) [0] rfl enter109 (Qgy N p0 _ hf1) rfl (Qb0 (rnc (.plain _ (nld Qac _)) (rnc (Qaq rn0 (rnc (Qa9 rfl) rn0)) rn0))) (slc (Qak (rnc (.plain _ (NLt.fn _ _ _ nl0 nl0)) rn0)) Qam) (slc (Qak (rnc (.plain _ (NLt.fn _ _ _ nl0 nl0)) rn0)) Qam) (.plain _ nll) rfl rfl rfl, Qa6 rfl, aas rfl, trivial⟩
  refine Qaf ?_
  obtain rfl := osi h
  exact ⟨⟨[(B ((!x2)))], ⟨rot (by kernel_rfl), trivial⟩, rfl⟩, nll, Nat.le_refl _, fun n hn => absurd hn (Nat.not_lt_zero n)⟩

def Qfp (N : Nat) (p0 : GUnit) (p1 : (List Int)) (_p2 : (List GUnit)) : Option Bool :=
  (Qd2 N p0).bind fun x3 =>
  bif x3 then
   some (decide (p0.Inlet < (p1.length : Int)))
  else
   some false
def z48_0 (p0 : GUnit) : AV := .dat 2 ((p0.Parts : List GPart).map Qap)
def z48_1 (p1 : (List Int)) (p2 : (List GUnit)) : Slot := .own 2 [[(.dat 1 ((p1 : List Int).map Qaa)), (.dat 2 ((p2 : List GUnit).map Qat))]]
set_option maxRecDepth 100000 in
set_option maxHeartbeats 4000000 in
theorem Qiv (N : Nat) (p0 : GUnit) (p1 : (List Int)) (p2 : (List GUnit)) (r : Bool) (h : Qfp N p0 p1 p2 = some r) : Spec Try.prog 104 [(.agg [(I (p0.Inlet)), (z48_0 p0)]), (.ref 0 2 (0) 0)] [(z48_1 p1 p2)] (B (r)) [(z48_1 p1 p2)] := by
  refine Qae Try.func104 rfl 1 (nle rfl) (fun X φ0 w0 hφ0 => ?_)
  unfold Qfp at h
  refine Qbv ?_
  refine wrg [⟨[(.tmp 0, (.agg [I p0.Inlet, (z48_0 p0)]))], [(1, .unused)], .ref 1 2 0 0, [(1, (.own 2 [[I p0.Inlet, (z48_0 p0)]]))], false⟩, mc (.bool false)] ?_ ?_
  ·exact ⟨Qa0 rfl (by rfl) rfl rfl, aas rfl, trivial⟩
  obtain ⟨x3, hf2, h⟩ := bno h
  rcases bft (x3) with hb4 | hb4
  ·replace h := Qa2 hb4 h
   refine wrg [rb [(.tmp 2, .ref 1 2 0 0)] [(1, (.own 2 [[I p0.Inlet, (z48_0 p0)]]))] (.agg [I p0.Inlet, (z48_0 p0)]), rp [fu 64, (.tmp 4, (.agg [I p0.Inlet, (z48_0 p0)]))] (B x3), rp [(.tmp 5, B x3)] (B true), rb [(.tmp 6, B true), (.tmp 2, .ref 1 2 0 0)] [(1, (.own 2 [[I p0.Inlet, (z48_0 p0)]]))] (.ref 1 2 0 0), rb [(.tmp 6, B true), (.tmp 7, .ref 1 2 0 0)] [(1, (.own 2 [[I p0.Inlet, (z48_0 p0)]]))] (I p0.Inlet), rb [(.tmp 6, B true), (.tmp 1, .ref 0 2 0 0)] [(0, (z48_1 p1 p2))] (.ref 0 2 0 0), rb [(.tmp 6, B true), (.tmp 9, .ref 0 2 0 0)] [(0, (z48_1 p1 p2))] (.dat 1 ((p1 : List Int).map Qaa)), rp [(.tmp 6, B true), (.tmp 10, (.dat 1 ((p1 : List Int).map Qaa)))] (I ((p1.length : Int))), rp [(.tmp 6, B true), (.tmp 8, I p0.Inlet), (.tmp 11, (I ((p1.length : Int))))] (B ((decide (p0.Inlet < (p1.length : Int))))), rp [(.tmp 6, B true), (.tmp 12, (B ((decide (p0.Inlet < (p1.length : Int)))))), cb false] (B ((decide (p0.Inlet < (p1.length : Int))))), mv 13 (B ((decide (p0.Inlet < (p1.length : Int)))))] ?_ ?_
   ·exact ⟨ald rfl ti34 (by decide) rfl (nle rfl) rfl, apc (first := []) (cap := []) (vs := [(.agg [I p0.Inlet, (z48_0 p0)])]) rfl enter64 (Qee N p0 _ hf2) rfl rfl (nlc (NLt.agg _ (nlc nll (nlc (nld Qa8 _) nl0))) nl0) nll rfl, asb hb4 (amv rfl), ag_ (afa rfl Try.underlying34 rfl rfl ti3 (by decide) rfl), ag_ (ald rfl ti3 (by decide) rfl (nle rfl) rfl), ag_ (afa rfl Try.underlying133 rfl rfl ti37 (by decide) rfl), ag_ (ald rfl ti37 (by decide) rfl (nle rfl) rfl), ag_ (alm (c := Qaa) (l := p1) (aln rfl Try.underlying37 rfl)), ag_ (abn rfl rfl), apk rfl rfl, aas rfl, trivial⟩
   refine wmr (mto (n := 14) (l' := [(3, (B ((decide (p0.Inlet < (p1.length : Int))))))]) (own' := [(z48_1 p1 p2)]) [(3, (B ((decide (p0.Inlet < (p1.length : Int))))))] [0] [(z48_1 p1 p2)] hφ0 (pc rwl pn) (qc (spb (lc (.rn (.plain _ (nld Qac _))) (lc (.rn (.plain _ (nld Qas _))) ln))) qn)) ?_
   refine Qaf ?_
   obtain rfl := osi h
   exact ⟨_, Mor.rfl, Qcd (vs := [(B ((decide (p0.Inlet < (p1.length : Int)))))]) ⟨rot (by kernel_rfl), trivial⟩ rfl (NLt.of0 nll) (by kernel_rfl) (Qai (Qaz (nlc (NLt.of0 (nld Qac _)) (nlc (NLt.of0 (nld Qas _)) nl0))) Qbm)⟩
  ·replace h := Qa3 hb4 h
   refine wrg [rb [(.tmp 2, .ref 1 2 0 0)] [(1, (.own 2 [[I p0.Inlet, (z48_0 p0)]]))] (.agg [I p0.Inlet, (z48_0 p0)]), rp [fu 64, (.tmp 4, (.agg [I p0.Inlet, (z48_0 p0)]))] (B x3), rp [(.tmp 5, B x3)] (B false), sk 6 (B false), sk 6 (B false), sk 6 (B false), sk 6 (B false), sk 6 (B false), sk 6 (B false), rp [(.tmp 6, B false), (.tmp 12, (.lit undef)), cb false] (B false), mv 13 (B false)] ?_ ?_
   ·exact ⟨ald rfl ti34 (by decide) rfl (nle rfl) rfl, apc (first := []) (cap := []) (vs := [(.agg [I p0.Inlet, (z48_0 p0)])]) rfl enter64 (Qee N p0 _ hf2) rfl rfl (nlc (NLt.agg _ (nlc nll (nlc (nld Qa8 _) nl0))) nl0) nll rfl, asb hb4 (amv rfl), trivial, trivial, trivial, trivial, trivial, trivial, apk rfl rfl, aas rfl, trivial⟩
   refine wmr (mto (n := 14) (l' := [(3, B false)]) (own' := [(z48_1 p1 p2)]) [(3, B false)] [0] [(z48_1 p1 p2)] hφ0 (pc rwl pn) (qc (spb (lc (.rn (.plain _ (nld Qac _))) (lc (.rn (.plain _ (nld Qas _))) ln))) qn)) ?_
   refine Qaf ?_
   obtain rfl := osi h
   exact ⟨_, Mor.rfl, Qcd (vs := [B false]) ⟨rot (by kernel_rfl), trivial⟩ rfl (NLt.of0 nll) (by kernel_rfl) (Qai (Qaz (nlc (NLt.of0 (nld Qac _)) (nlc (NLt.of0 (nld Qas _)) nl0))) Qbm)⟩

def Qfb (N : Nat) (p0 : GUnit) (p1 : (List Int)) (p2 : (List GUnit)) : Option Bool :=
  (Qfp N p0 p1 p2).bind fun x3 =>
  some (!x3)
def z47_0 (p0 : GUnit) : AV := .dat 2 ((p0.Parts : List GPart).map Qap)
def z47_1 : Slot := .own 1 [[(.fn (.func 104) [] [(.ref 1 2 (0) 0)])]]
def z47_2 (p1 : (List Int)) (p2 : (List GUnit)) : Slot := .own 2 [[(.dat 1 ((p1 : List Int).map Qaa)), (.dat 2 ((p2 : List GUnit).map Qat))]]
set_option maxRecDepth 100000 in
set_option maxHeartbeats 4000000 in
theorem Qif (N : Nat) (p0 : GUnit) (p1 : (List Int)) (p2 : (List GUnit)) (r : Bool) (h : Qfb N p0 p1 p2 = some r) : Spec Try.prog 122 [(.agg [(I (p0.Inlet)), (z47_0 p0)]), (.ref 0 1 (0) 0)] [z47_1, (z47_2 p1 p2)] (B (r)) [z47_1, (z47_2 p1 p2)] := by
  refine Qae Try.func122 rfl 2 (nle rfl) (fun X φ0 w0 hφ0 => ?_)
  unfold Qfb at h
  refine Qbv ?_
  refine wrg [⟨[(.tmp 0, (.agg [I p0.Inlet, (z47_0 p0)]))], [(2, .unused)], .ref 2 2 0 0, [(2, (.own 2 [[I p0.Inlet, (z47_0 p0)]]))], false⟩, mc (.bool false)] ?_ ?_
  ·exact ⟨Qa0 rfl (by rfl) rfl rfl, aas rfl, trivial⟩
  obtain ⟨x3, hf2, h⟩ := bno h
  refine wrg [rb [(.tmp 1, .ref 0 1 0 0)] [(0, z47_1)] (.fn (.func 104) [] [.ref 1 2 0 0]), rb [(.tmp 2, .ref 2 2 0 0)] [(2, (.own 2 [[I p0.Inlet, (z47_0 p0)]]))] (.agg [I p0.Inlet, (z47_0 p0)]), ⟨[(.tmp 4, (.fn (.func 104) [] [.ref 1 2 0 0])), (.tmp 5, (.agg [I p0.Inlet, (z47_0 p0)]))], [(1, (z47_2 p1 p2))], B x3, [(1, (z47_2 p1 p2))], false⟩, rp [(.tmp 6, B x3)] (B ((!x3))), mv 7 (B ((!x3)))] ?_ ?_
  ·exact ⟨ald rfl ti157 (by decide) rfl (nle rfl) rfl, ald rfl ti34 (by decide) rfl (nle rfl) rfl, Qan (first := []) (cap := [.ref 1 2 0 0]) (vs := [(.agg [I p0.Inlet, (z47_0 p0)])]) (σr := [(z47_2 p1 p2)]) (σr' := [(z47_2 p1 p2)]) (res' := (B x3)) [1] rfl enter104 (Qiv N p0 p1 p2 _ hf2) rfl (Qb0 (rnc (.plain _ (NLt.agg _ (nlc nll (nlc (nld Qa8 _) nl0)))) (rnc (Qa9 rfl) rn0))) (slc (Qak (rnc (.plain _ (nld Qac _)) (rnc (.plain _ (nld Qas _)) rn0))) Qam) (slc (Qak (rnc (.plain _ (nld Qac _)) (rnc (.plain _ (nld Qas _)) rn0))) Qam) (.plain _ nll) rfl rfl rfl, Qa6 rfl, aas rfl, trivial⟩
  refine wmr (mto (n := 8) (l' := [(3, (B ((!x3))))]) (own' := [z47_1, (z47_2 p1 p2)]) [(3, (B ((!x3))))] [0, 1] [z47_1, (z47_2 p1 p2)] hφ0 (pc rwl pn) (qc (spb (lc (.rn (Qaq rn0 (rnc (rqr rfl) rn0))) ln)) (qc (spb (lc (.rn (.plain _ (nld Qac _))) (lc (.rn (.plain _ (nld Qas _))) ln))) qn))) ?_
  refine Qaf ?_
  obtain rfl := osi h
  exact ⟨_, Mor.rfl, Qcd (vs := [(B ((!x3)))]) ⟨rot (by kernel_rfl), trivial⟩ rfl (NLt.of0 nll) (by kernel_rfl) (Qai (Qaz (nlc (NLt.fn _ _ _ nl0 (nlc (NLt.ref _ _ _ _ (by decide)) nl0)) nl0)) (Qai (Qaz (nlc (NLt.of0 (nld Qac _)) (nlc (NLt.of0 (nld Qas _)) nl0))) Qbm))⟩

def Qbj (N : Nat) (p0 : (List GUnit)) (p1 : (List Int)) (k2 : Unit → Option Int) (p2 : (List GUnit)) : Nat → Int → Option Int
  | 0, _ => none
  | n5 + 1, y3 =>
    bif (decide (y3 < (p0.length : Int))) then
     (getI p0 y3).bind fun x7 =>
     (Qfb N x7 p1 p2).bind fun x12 =>
     bif x12 then
      some y3
     else
      Qbj N p0 p1 k2 p2 n5 (w64 (y3 + 1))
    else
     k2 ()
def Qc2 (N : Nat) (p0 : (List GUnit)) (p1 : (List Int)) (p2 : (List GUnit)) : Option Int :=
  Qc5 (fun _ =>
    some (-1)) fun k2 : Unit → Option Int =>
  Qbj N p0 p1 k2 p2 N 0
def z46_1 : Slot := .own 1 [[(.fn (.func 104) [] [(.ref 1 2 (0) 0)])]]
def z46_2 (p1 : (List Int)) (p2 : (List GUnit)) : Slot := .own 2 [[(.dat 1 ((p1 : List Int).map Qaa)), (.dat 2 ((p2 : List GUnit).map Qat))]]
def z46_7 (x7 : GUnit) : AV := .dat 2 ((x7.Parts : List GPart).map Qap)
set_option maxRecDepth 100000 in
set_option maxHeartbeats 4000000 in
theorem Qfk (N : Nat) (p0 : (List GUnit)) (p1 : (List Int)) (p2 : (List GUnit)) (r : Int) (h : Qc2 N p0 p1 p2 = some r) : Spec Try.prog 132 [(.dat 2 ((p0 : List GUnit).map Qat)), (.fn (.func 122) [] [(.ref 0 1 (0) 0)])] [z46_1, (z46_2 p1 p2)] (I (r)) [z46_1, (z46_2 p1 p2)] := by
  refine Qae Try.func132 rfl 2 (nle rfl) (fun X φ0 w0 hφ0 => ?_)
  unfold Qc2 at h
  refine Qbv ?_
  refine wrg [mc (.int .i64 0)] ?_ ?_
  ·exact ⟨aas rfl, trivial⟩
  obtain ⟨k2, hk_k2, h⟩ := jko h
  refine wjn (τ := Unit) (fun t => k2 t = some r) (fun _ => ⟨mk 19 [], [z46_1, (z46_2 p1 p2)]⟩) (fun t h => ?_) ?_
  ·subst hk_k2
   refine wrg [mc (.int .i64 (-1))] ?_ ?_
   ·exact ⟨aas rfl, trivial⟩
   refine wmr (mto (n := 19) (l' := [(4, (I ((-1))))]) (own' := [z46_1, (z46_2 p1 p2)]) [(4, (I ((-1))))] [0, 1] [z46_1, (z46_2 p1 p2)] hφ0 (pc rwl pn) (qc (spb (lc (.rn (Qaq rn0 (rnc (rqr rfl) rn0))) ln)) (qc (spb (lc (.rn (.plain _ (nld Qac _))) (lc (.rn (.plain _ (nld Qas _))) ln))) qn))) ?_
   refine Qaf ?_
   obtain rfl := osi h
   exact ⟨_, Mor.rfl, Qcd (vs := [(I ((-1)))]) ⟨rot (by kernel_rfl), trivial⟩ rfl (NLt.of0 nll) (by kernel_rfl) (Qai (Qaz (nlc (NLt.fn _ _ _ nl0 (nlc (NLt.ref _ _ _ _ (by decide)) nl0)) nl0)) (Qai (Qaz (nlc (NLt.of0 (nld Qac _)) (nlc (NLt.of0 (nld Qas _)) nl0))) Qbm))⟩
  ·skip
   refine wrg [mv 0 (.dat 2 ((p0 : List GUnit).map Qat)), rp [(.tmp 6, (.dat 2 ((p0 : List GUnit).map Qat)))] (I ((p0.length : Int))), mc (.int .i64 0)] ?_ ?_
   ·exact ⟨amv rfl, alm (c := Qat) (l := p0) (aln rfl Try.underlying89 rfl), amv rfl, trivial⟩
   refine Qal ?_
   refine wmr (mto (n := 19) (l' := [(0, (.dat 2 ((p0 : List GUnit).map Qat))), (1, (.fn (.func 122) [] [.ref 0 1 0 0])), (7, (I ((p0.length : Int)))), (8, I 0)]) (own' := [z46_1, (z46_2 p1 p2)]) [(0, (.dat 2 ((p0 : List GUnit).map Qat))), (1, (.fn (.func 122) [] [.ref 0 1 0 0])), (7, (I ((p0.length : Int)))), (8, I 0)] [0, 1] [z46_1, (z46_2 p1 p2)] hφ0 (pc (.rn (.plain _ (nld Qas _))) (pc (.rn (Qaq rn0 (rnc (rqr rfl) rn0))) (pc rwl (pc rwl pn)))) (qc (spb (lc (.rn (Qaq rn0 (rnc (rqr rfl) rn0))) ln)) (qc (spb (lc (.rn (.plain _ (nld Qac _))) (lc (.rn (.plain _ (nld Qas _))) ln))) qn))) ?_
   refine Qci (τ := Int) (fun n t => Qbj N p0 p1 k2 p2 n t = some r) (fun y3 => ⟨mk 19 [(0, (.dat 2 ((p0 : List GUnit).map Qat))), (1, (.fn (.func 122) [] [.ref 0 1 0 0])), (7, (I ((p0.length : Int)))), (8, I y3)], [z46_1, (z46_2 p1 p2)]⟩) (fun t h => by rw [Qbj] at h; cases h) (fun n5 ih y3 h => ?_) N (0) h
   rw [Qbj] at h
   skip
   refine wrg [rp [(.tmp 8, I y3), (.tmp 7, (I ((p0.length : Int))))] (B ((decide (y3 < (p0.length : Int)))))] ?_ ?_
   ·exact ⟨abn rfl rfl, trivial⟩
   refine wsq ?_
   rcases bft ((decide (y3 < (p0.length : Int)))) with hc6 | hc6
   ·replace h := Qa2 hc6 h
    refine wft hc6 (by kernel_rfl) ?_
    refine Qao ?_
    refine thn ?_
    refine wsq ?_
    refine Qal ?_
    refine wrg [mv 8 (I y3), mv 10 (I y3)] ?_ ?_
    ·exact ⟨amv rfl, aas rfl, trivial⟩
    obtain ⟨x7, hg8, h⟩ := bno h
    obtain ⟨hi9, hj10⟩ := gsm hg8
    obtain ⟨x12, hf11, h⟩ := bno h
    refine wrg [mv 1 (.fn (.func 122) [] [.ref 0 1 0 0]), mv 0 (.dat 2 ((p0 : List GUnit).map Qat)), mv 5 (I y3), rp [(.tmp 12, (.dat 2 ((p0 : List GUnit).map Qat))), (.tmp 13, I y3)] (.dptr (Qat (x7)) 0), rp [(.tmp 14, (.dptr (Qat (x7)) 0))] (.agg [I x7.Inlet, (z46_7 x7)]), ⟨[(.tmp 11, (.fn (.func 122) [] [.ref 0 1 0 0])), (.tmp 15, (.agg [I x7.Inlet, (z46_7 x7)]))], [(0, z46_1), (1, (z46_2 p1 p2))], B x12, [(0, z46_1), (1, (z46_2 p1 p2))], false⟩] ?_ ?_
    ·exact ⟨amv rfl, amv rfl, amv rfl, aid rfl Try.underlying89 ti34 rfl rfl hi9 (mgt Qat hj10) rfl, ald_ rfl ti34 (by decide) (nle rfl) rfl, Qan (first := []) (cap := [.ref 0 1 0 0]) (vs := [(.agg [I x7.Inlet, (z46_7 x7)])]) (σr := [z46_1, (z46_2 p1 p2)]) (σr' := [z46_1, (z46_2 p1 p2)]) (res' := (B x12)) [0, 1] rfl enter122 (Qif N x7 p1 p2 _ hf11) rfl (Qb0 (rnc (.plain _ (NLt.agg _ (nlc nll (nlc (nld Qa8 _) nl0)))) (rnc (Qa9 rfl) rn0))) (slc (Qak (rnc (Qaq rn0 (rnc (Qa9 rfl) rn0)) rn0)) (slc (Qak (rnc (.plain _ (nld Qac _)) (rnc (.plain _ (nld Qas _)) rn0))) Qam)) (slc (Qak (rnc (Qaq rn0 (rnc (Qb1 rfl) rn0)) rn0)) (slc (Qak (rnc (.plain _ (nld Qac _)) (rnc (.plain _ (nld Qas _)) rn0))) Qam)) (.plain _ nll) rfl rfl rfl, trivial⟩
    rcases bft (x12) with hc13 | hc13
    ·replace h := Qa2 hc13 h
     refine wft hc13 (by kernel_rfl) ?_
     refine wrg [mv 5 (I y3), mv 17 (I y3)] ?_ ?_
     ·exact ⟨amv rfl, aas rfl, trivial⟩
     refine wmr (mto (n := 19) (l' := [(4, I y3)]) (own' := [z46_1, (z46_2 p1 p2)]) [(4, I y3)] [0, 1] [z46_1, (z46_2 p1 p2)] hφ0 (pc rwl pn) (qc (spb (lc (.rn (Qaq rn0 (rnc (rqr rfl) rn0))) ln)) (qc (spb (lc (.rn (.plain _ (nld Qac _))) (lc (.rn (.plain _ (nld Qas _))) ln))) qn))) ?_
     refine Qaf ?_
     refine Qcp ?_
     refine Qa7 ?_
     refine Qa7 ?_
     refine Qcp ?_
     refine Qa7 ?_
     obtain rfl := osi h
     exact ⟨_, Mor.rfl, Qcd (vs := [I y3]) ⟨rot (by kernel_rfl), trivial⟩ rfl (NLt.of0 nll) (by kernel_rfl) (Qai (Qaz (nlc (NLt.fn _ _ _ nl0 (nlc (NLt.ref _ _ _ _ (by decide)) nl0)) nl0)) (Qai (Qaz (nlc (NLt.of0 (nld Qac _)) (nlc (NLt.of0 (nld Qas _)) nl0))) Qbm))⟩
    ·replace h := Qa3 hc13 h
     refine wfn hc13 (by kernel_rfl) ?_
     refine Qao ?_
     refine bln ?_
     refine thn ?_
     refine Qar [rp [(.tmp 8, I y3), ci 1] (I (w64 (y3 + 1))), mv 18 (I (w64 (y3 + 1)))] ?_ ?_
     ·exact ⟨abn rfl rfl, amv rfl, trivial⟩
     refine thn ?_
     exact arm (mto (n := 19) [(0, (.dat 2 ((p0 : List GUnit).map Qat))), (1, (.fn (.func 122) [] [.ref 0 1 0 0])), (7, (I ((p0.length : Int)))), (8, (I (w64 (y3 + 1))))] [0, 1] [z46_1, (z46_2 p1 p2)] hφ0 (pc (.rn (.plain _ (nld Qas _))) (pc (.rn (Qaq rn0 (rnc (rqr rfl) rn0))) (pc rwl (pc rwl pn)))) (qc (spb (lc (.rn (Qaq rn0 (rnc (rqr rfl) rn0))) ln)) (qc (spb (lc (.rn (.plain _ (nld Qac _))) (lc (.rn (.plain _ (nld Qas _))) ln))) qn))) (ih (w64 (y3 + 1)) h)
   ·replace h := Qa3 hc6 h
    refine wfn hc6 (by kernel_rfl) ?_
    refine Qbq ?_
    refine Qaw ?_
    refine Qaw ?_
    refine Qbp rfl ?_
    refine thn ?_
    exact ⟨(), h, (mto (n := 19) [] [0, 1] [z46_1, (z46_2 p1 p2)] hφ0 pn (qc (spb (lc (.rn (Qaq rn0 (rnc (rqr rfl) rn0))) ln)) (qc (spb (lc (.rn (.plain _ (nld Qac _))) (lc (.rn (.plain _ (nld Qas _))) ln))) qn)))⟩

def Qcu (N : Nat) (p0 : (List GUnit)) (p1 : (List Int)) (p2 : (List GUnit)) : Option Bool :=
  (Qc2 N p0 p1 p2).bind fun x3 =>
  some (decide (x3 ≥ 0))
def z45_0 : Slot := .own 1 [[(.fn (.func 104) [] [(.ref 1 2 (0) 0)])]]
def z45_1 (p1 : (List Int)) (p2 : (List GUnit)) : Slot := .own 2 [[(.dat 1 ((p1 : List Int).map Qaa)), (.dat 2 ((p2 : List GUnit).map Qat))]]
set_option maxRecDepth 100000 in
set_option maxHeartbeats 4000000 in
theorem Qe8 (N : Nat) (p0 : (List GUnit)) (p1 : (List Int)) (p2 : (List GUnit)) (r : Bool) (h : Qcu N p0 p1 p2 = some r) : Spec Try.prog 121 [(.dat 2 ((p0 : List GUnit).map Qat)), (.fn (.func 122) [] [(.ref 0 1 (0) 0)])] [z45_0, (z45_1 p1 p2)] (B (r)) [z45_0, (z45_1 p1 p2)] := by
  refine Qae Try.func121 rfl 2 (nle rfl) (fun X φ0 w0 hφ0 => ?_)
  unfold Qcu at h
  refine Qbv ?_
  refine wrg [mc (.bool false)] ?_ ?_
  ·exact ⟨aas rfl, trivial⟩
  obtain ⟨x3, hf2, h⟩ := bno h
  refine wrg [mv 0 (.dat 2 ((p0 : List GUnit).map Qat)), mv 1 (.fn (.func 122) [] [.ref 0 1 0 0]), ⟨[fu 132, (.tmp 5, (.dat 2 ((p0 : List GUnit).map Qat))), (.tmp 6, (.fn (.func 122) [] [.ref 0 1 0 0]))], [(0, z45_0), (1, (z45_1 p1 p2))], I x3, [(0, z45_0), (1, (z45_1 p1 p2))], false⟩, rp [(.tmp 7, I x3), ci 0] (B ((decide (x3 ≥ 0)))), mv 8 (B ((decide (x3 ≥ 0))))] ?_ ?_
  ·exact ⟨amv rfl, amv rfl, Qan (first := []) (cap := []) (vs := [(.dat 2 ((p0 : List GUnit).map Qat)), (.fn (.func 122) [] [.ref 0 1 0 0])]) (σr := [z45_0, (z45_1 p1 p2)]) (σr' := [z45_0, (z45_1 p1 p2)]) (res' := (I x3)) [0, 1] rfl enter132 (Qfk N p0 p1 p2 _ hf2) rfl (Qb0 (rnc (.plain _ (nld Qas _)) (rnc (Qaq rn0 (rnc (Qa9 rfl) rn0)) rn0))) (slc (Qak (rnc (Qaq rn0 (rnc (Qa9 rfl) rn0)) rn0)) (slc (Qak (rnc (.plain _ (nld Qac _)) (rnc (.plain _ (nld Qas _)) rn0))) Qam)) (slc (Qak (rnc (Qaq rn0 (rnc (Qb1 rfl) rn0)) rn0)) (slc (Qak (rnc (.plain _ (nld Qac _)) (rnc (.plain _ (nld Qas _)) rn0))) Qam)) (.plain _ nll) rfl rfl rfl, abn rfl rfl, aas rfl, trivial⟩
  refine wmr (mto (n := 9) (l' := [(4, (B ((decide (x3 ≥ 0)))))]) (own' := [z45_0, (z45_1 p1 p2)]) [(4, (B ((decide (x3 ≥ 0)))))] [0, 1] [z45_0, (z45_1 p1 p2)] hφ0 (pc rwl pn) (qc (spb (lc (.rn (Qaq rn0 (rnc (rqr rfl) rn0))) ln)) (qc (spb (lc (.rn (.plain _ (nld Qac _))) (lc (.rn (.plain _ (nld Qas _))) ln))) qn))) ?_
  refine Qaf ?_
  obtain rfl := osi h
  exact ⟨_, Mor.rfl, Qcd (vs := [(B ((decide (x3 ≥ 0))))]) ⟨rot (by kernel_rfl), trivial⟩ rfl (NLt.of0 nll) (by kernel_rfl) (Qai (Qaz (nlc (NLt.fn _ _ _ nl0 (nlc (NLt.ref _ _ _ _ (by decide)) nl0)) nl0)) (Qai (Qaz (nlc (NLt.of0 (nld Qac _)) (nlc (NLt.of0 (nld Qas _)) nl0))) Qbm))⟩

def Qfq (N : Nat) (p0 : (List GUnit)) (p1 : (List Int)) (p2 : (List GUnit)) : Option Bool :=
  (Qcu N p0 p1 p2).bind fun x3 =>
  some (!x3)
def z44_1 (p1 : (List Int)) (p2 : (List GUnit)) : Slot := .own 2 [[(.dat 1 ((p1 : List Int).map Qaa)), (.dat 2 ((p2 : List GUnit).map Qat))]]
def z44_0 : Slot := .own 1 [[(.fn (.func 104) [] [(.ref 0 2 (0) 0)])]]
set_option maxRecDepth 100000 in
set_option maxHeartbeats 4000000 in
theorem Qiw (N : Nat) (p0 : (List GUnit)) (p1 : (List Int)) (p2 : (List GUnit)) (r : Bool) (h : Qfq N p0 p1 p2 = some r) : Spec Try.prog 103 [(.dat 2 ((p0 : List GUnit).map Qat)), (.fn (.func 104) [] [(.ref 0 2 (0) 0)])] [(z44_1 p1 p2)] (B (r)) [(z44_1 p1 p2)] := by
  refine Qae Try.func103 rfl 1 (nle rfl) (fun X φ0 w0 hφ0 => ?_)
  unfold Qfq at h
  refine Qbv ?_
  refine wrg [⟨[(.tmp 1, (.fn (.func 104) [] [.ref 0 2 0 0]))], [(1, .unused)], .ref 1 1 0 0, [(1, z44_0)], false⟩, mc (.bool false)] ?_ ?_
  ·exact ⟨Qa0 rfl (by rfl) rfl rfl, aas rfl, trivial⟩
  obtain ⟨x3, hf2, h⟩ := bno h
  refine wrg [mv 0 (.dat 2 ((p0 : List GUnit).map Qat)), rp [(.tmp 3, .ref 1 1 0 0)] (.fn (.func 122) [] [.ref 1 1 0 0]), ⟨[fu 121, (.tmp 5, (.dat 2 ((p0 : List GUnit).map Qat))), (.tmp 6, (.fn (.func 122) [] [.ref 1 1 0 0]))], [(1, z44_0), (0, (z44_1 p1 p2))], B x3, [(1, z44_0), (0, (z44_1 p1 p2))], false⟩, rp [(.tmp 7, B x3)] (B ((!x3))), mv 8 (B ((!x3)))] ?_ ?_
  ·exact ⟨amv rfl, Qd5 (fs := []) (cs := [.ref 1 1 0 0]) rfl rfl rfl rfl, Qan (first := []) (cap := []) (vs := [(.dat 2 ((p0 : List GUnit).map Qat)), (.fn (.func 122) [] [.ref 1 1 0 0])]) (σr := [z44_0, (z44_1 p1 p2)]) (σr' := [z44_0, (z44_1 p1 p2)]) (res' := (B x3)) [1, 0] rfl enter121 (Qe8 N p0 p1 p2 _ hf2) rfl (Qb0 (rnc (.plain _ (nld Qas _)) (rnc (Qaq rn0 (rnc (Qa9 rfl) rn0)) rn0))) (slc (Qak (rnc (Qaq rn0 (rnc (Qa9 rfl) rn0)) rn0)) (slc (Qak (rnc (.plain _ (nld Qac _)) (rnc (.plain _ (nld Qas _)) rn0))) Qam)) (slc (Qak (rnc (Qaq rn0 (rnc (Qb1 rfl) rn0)) rn0)) (slc (Qak (rnc (.plain _ (nld Qac _)) (rnc (.plain _ (nld Qas _)) rn0))) Qam)) (.plain _ nll) rfl rfl rfl, Qa6 rfl, aas rfl, trivial⟩
  refine wmr (mto (n := 9) (l' := [(4, (B ((!x3))))]) (own' := [(z44_1 p1 p2)]) [(4, (B ((!x3))))] [0] [(z44_1 p1 p2)] hφ0 (pc rwl pn) (qc (spb (lc (.rn (.plain _ (nld Qac _))) (lc (.rn (.plain _ (nld Qas _))) ln))) qn)) ?_
  refine Qaf ?_
  obtain rfl := osi h
  exact ⟨_, Mor.rfl, Qcd (vs := [(B ((!x3)))]) ⟨rot (by kernel_rfl), trivial⟩ rfl (NLt.of0 nll) (by kernel_rfl) (Qai (Qaz (nlc (NLt.of0 (nld Qac _)) (nlc (NLt.of0 (nld Qas _)) nl0))) Qbm)⟩

def Qgn (N : Nat) (p0 : GShared) : Option Bool :=
  (Qbl N (p0.heads.length : Int) 1 6).bind fun x2 =>
  bif x2 then
   (Qh9 N p0.heads).bind fun x5 =>
   bif x5 then
    (Qbl N (p0.units.length : Int) 1 10).bind fun x8 =>
    bif x8 then
     (Qfq N p0.units p0.heads p0.units).bind fun x11 =>
     some x11
    else
     some false
   else
    some false
  else
   some false
def z38_0 (p0 : GShared) : AV := .dat 2 ((p0.units : List GUnit).map Qat)
def z38_2 (p0 : GShared) : AV := .agg [(.dat 1 ((p0.heads : List Int).map Qaa)), (z38_0 p0)]
def Qh0 (p0 : GShared) : Slot := .own 2 [[(.dat 1 ((p0.heads : List Int).map Qaa)), (z38_0 p0)]]
set_option maxRecDepth 100000 in
set_option maxHeartbeats 4000000 in
theorem plant_shared_validX_ok (N : Nat) (p0 : GShared) (r : Bool) (h : Qgn N p0 = some r) : Spec Try.prog 80 [(.agg (c_GShared p0))] [] (B r) [] := by
  refine Qae Try.func80 rfl 0 (nle rfl) (fun X φ0 w0 hφ0 => ?_)
  unfold Qgn at h
  refine wrg [⟨[(.tmp 0, (z38_2 p0))], [(0, .unused)], .ref 0 2 0 0, [(0, (Qh0 p0))], false⟩, mc (.bool false)] ?_ ?_
  ·exact ⟨Qa0 rfl (by rfl) rfl rfl, aas rfl, trivial⟩
  obtain ⟨x2, hf1, h⟩ := bno h
  rcases bft (x2) with hb3 | hb3
  ·replace h := Qa2 hb3 h
   obtain ⟨x5, hf4, h⟩ := bno h
   rcases bft (x5) with hb6 | hb6
   ·replace h := Qa2 hb6 h
    obtain ⟨x8, hf7, h⟩ := bno h
    rcases bft (x8) with hb9 | hb9
    ·replace h := Qa2 hb9 h
     obtain ⟨x11, hf10, h⟩ := bno h
     refine wrg [rb [(.tmp 1, .ref 0 2 0 0)] [(0, (Qh0 p0))] (.ref 0 2 0 0), rb [(.tmp 3, .ref 0 2 0 0)] [(0, (Qh0 p0))] (.dat 1 ((p0.heads : List Int).map Qaa)), rp [(.tmp 4, (.dat 1 ((p0.heads : List Int).map Qaa)))] (I ((p0.heads.length : Int))), rp [fu 65, (.tmp 5, (I ((p0.heads.length : Int)))), ci 1, ci 6] (B x2), rp [(.tmp 6, B x2)] (B true), rb [(.tmp 7, B true), (.tmp 1, .ref 0 2 0 0)] [(0, (Qh0 p0))] (.ref 0 2 0 0), rb [(.tmp 7, B true), (.tmp 8, .ref 0 2 0 0)] [(0, (Qh0 p0))] (.dat 1 ((p0.heads : List Int).map Qaa)), rp [(.tmp 7, B true), fu 89, (.tmp 9, (.dat 1 ((p0.heads : List Int).map Qaa))), fu 102] (B x5), rp [(.tmp 7, B true), (.tmp 10, B x5), cb false] (B x5), rp [(.tmp 11, B x5)] (B true), rb [(.tmp 12, B true), (.tmp 1, .ref 0 2 0 0)] [(0, (Qh0 p0))] (.ref 0 2 0 1), rb [(.tmp 12, B true), (.tmp 13, .ref 0 2 0 1)] [(0, (Qh0 p0))] (z38_0 p0), rp [(.tmp 12, B true), (.tmp 14, (z38_0 p0))] (I ((p0.units.length : Int))), rp [(.tmp 12, B true), fu 65, (.tmp 15, (I ((p0.units.length : Int)))), ci 1, ci 10] (B x8), rp [(.tmp 12, B true), (.tmp 16, B x8), cb false] (B x8), rp [(.tmp 17, B x8)] (B true), rb [(.tmp 18, B true), (.tmp 1, .ref 0 2 0 0)] [(0, (Qh0 p0))] (.ref 0 2 0 1), rb [(.tmp 18, B true), (.tmp 19, .ref 0 2 0 1)] [(0, (Qh0 p0))] (z38_0 p0), rp [(.tmp 18, B true), (.tmp 1, .ref 0 2 0 0)] (.fn (.func 104) [] [.ref 0 2 0 0]), ⟨[(.tmp 18, B true), fu 103, (.tmp 20, (z38_0 p0)), (.tmp 21, (.fn (.func 104) [] [.ref 0 2 0 0]))], [(0, (Qh0 p0))], B x11, [(0, (Qh0 p0))], false⟩, rp [(.tmp 18, B true), (.tmp 22, B x11), cb false] (B x11), mv 23 (B x11)] ?_ ?_
     ·exact ⟨afa rfl Try.underlying133 rfl rfl ti37 (by decide) rfl, ald rfl ti37 (by decide) rfl (nle rfl) rfl, alm (c := Qaa) (l := p0.heads) (aln rfl Try.underlying37 rfl), apc (first := []) (cap := []) (vs := [(I ((p0.heads.length : Int))), I 1, I 6]) rfl Qb2 (Qag N (p0.heads.length : Int) 1 6 _ hf1) rfl rfl (nlc nll (nlc nll (nlc nll nl0))) nll rfl, asb hb3 (amv rfl), ag_ (afa rfl Try.underlying133 rfl rfl ti37 (by decide) rfl), ag_ (ald rfl ti37 (by decide) rfl (nle rfl) rfl), ag_ (Qan (first := []) (cap := []) (vs := [(.dat 1 ((p0.heads : List Int).map Qaa)), (.fn (.func 102) [] [])]) (σr := []) (σr' := []) (res' := (B x5)) [] rfl enter89 (Qgo N p0.heads _ hf4) rfl (Qb0 (rnc (.plain _ (nld Qac _)) (rnc (.plain _ (NLt.fn _ _ _ nl0 nl0)) rn0))) Qam Qam (.plain _ nll) rfl rfl rfl), apk rfl rfl, asb hb6 (amv rfl), ag_ (afa rfl Try.underlying133 rfl rfl ti89 (by decide) rfl), ag_ (ald rfl ti89 (by decide) rfl (nle rfl) rfl), ag_ (alm (c := Qat) (l := p0.units) (aln rfl Try.underlying89 rfl)), ag_ (apc (first := []) (cap := []) (vs := [(I ((p0.units.length : Int))), I 1, I 10]) rfl Qb2 (Qag N (p0.units.length : Int) 1 10 _ hf7) rfl rfl (nlc nll (nlc nll (nlc nll nl0))) nll rfl), apk rfl rfl, asb hb9 (amv rfl), ag_ (afa rfl Try.underlying133 rfl rfl ti89 (by decide) rfl), ag_ (ald rfl ti89 (by decide) rfl (nle rfl) rfl), ag_ (Qd5 (fs := []) (cs := [.ref 0 2 0 0]) rfl rfl rfl rfl), ag_ (Qan (first := []) (cap := []) (vs := [(z38_0 p0), (.fn (.func 104) [] [.ref 0 2 0 0])]) (σr := [(Qh0 p0)]) (σr' := [(Qh0 p0)]) (res' := (B x11)) [0] rfl enter103 (Qiw N p0.units p0.heads p0.units _ hf10) rfl (Qb0 (rnc (.plain _ (nld Qas _)) (rnc (Qaq rn0 (rnc (Qa9 rfl) rn0)) rn0))) (slc (Qak (rnc (.plain _ (nld Qac _)) (rnc (.plain _ (nld Qas _)) rn0))) Qam) (slc (Qak (rnc (.plain _ (nld Qac _)) (rnc (.plain _ (nld Qas _)) rn0))) Qam) (.plain _ nll) rfl rfl rfl), apk rfl rfl, aas rfl, trivial⟩
     refine Qaf ?_
     obtain rfl := osi h
     exact ⟨⟨[B x11], ⟨rot (by kernel_rfl), trivial⟩, rfl⟩, nll, Nat.le_refl _, fun n hn => absurd hn (Nat.not_lt_zero n)⟩
    ·replace h := Qa3 hb9 h
     refine wrg [rb [(.tmp 1, .ref 0 2 0 0)] [(0, (Qh0 p0))] (.ref 0 2 0 0), rb [(.tmp 3, .ref 0 2 0 0)] [(0, (Qh0 p0))] (.dat 1 ((p0.heads : List Int).map Qaa)), rp [(.tmp 4, (.dat 1 ((p0.heads : List Int).map Qaa)))] (I ((p0.heads.length : Int))), rp [fu 65, (.tmp 5, (I ((p0.heads.length : Int)))), ci 1, ci 6] (B x2), rp [(.tmp 6, B x2)] (B true), rb [(.tmp 7, B true), (.tmp 1, .ref 0 2 0 0)] [(0, (Qh0 p0))] (.ref 0 2 0 0), rb [(.tmp 7, B true), (.tmp 8, .ref 0 2 0 0)] [(0, (Qh0 p0))] (.dat 1 ((p0.heads : List Int).map Qaa)), rp [(.tmp 7, B true), fu 89, (.tmp 9, (.dat 1 ((p0.heads : List Int).map Qaa))), fu 102] (B x5), rp [(.tmp 7, B true), (.tmp 10, B x5), cb false] (B x5), rp [(.tmp 11, B x5)] (B true), rb [(.tmp 12, B true), (.tmp 1, .ref 0 2 0 0)] [(0, (Qh0 p0))] (.ref 0 2 0 1), rb [(.tmp 12, B true), (.tmp 13, .ref 0 2 0 1)] [(0, (Qh0 p0))] (z38_0 p0), rp [(.tmp 12, B true), (.tmp 14, (z38_0 p0))] (I ((p0.units.length : Int))), rp [(.tmp 12, B true), fu 65, (.tmp 15, (I ((p0.units.length : Int)))), ci 1, ci 10] (B x8), rp [(.tmp 12, B true), (.tmp 16, B x8), cb false] (B x8), rp [(.tmp 17, B x8)] (B false), sk 18 (B false), sk 18 (B false), sk 18 (B false), sk 18 (B false), rp [(.tmp 18, B false), (.tmp 22, (.lit undef)), cb false] (B false), mv 23 (B false)] ?_ ?_
     ·exact ⟨afa rfl Try.underlying133 rfl rfl ti37 (by decide) rfl, ald rfl ti37 (by decide) rfl (nle rfl) rfl, alm (c := Qaa) (l := p0.heads) (aln rfl Try.underlying37 rfl), apc (first := []) (cap := []) (vs := [(I ((p0.heads.length : Int))), I 1, I 6]) rfl Qb2 (Qag N (p0.heads.length : Int) 1 6 _ hf1) rfl rfl (nlc nll (nlc nll (nlc nll nl0))) nll rfl, asb hb3 (amv rfl), ag_ (afa rfl Try.underlying133 rfl rfl ti37 (by decide) rfl), ag_ (ald rfl ti37 (by decide) rfl (nle rfl) rfl), ag_ (Qan (first := []) (cap := []) (vs := [(.dat 1 ((p0.heads : List Int).map Qaa)), (.fn (.func 102) [] [])]) (σr := []) (σr' := []) (res' := (B x5)) [] rfl enter89 (Qgo N p0.heads _ hf4) rfl (Qb0 (rnc (.plain _ (nld Qac _)) (rnc (.plain _ (NLt.fn _ _ _ nl0 nl0)) rn0))) Qam Qam (.plain _ nll) rfl rfl rfl), apk rfl rfl, asb hb6 (amv rfl), ag_ (afa rfl Try.underlying133 rfl rfl ti89 (by decide) rfl), ag_ (ald rfl ti89 (by decide) rfl (nle rfl) rfl), ag_ (alm (c := Qat) (l := p0.units) (aln rfl Try.underlying89 rfl)), ag_ (apc (first := []) (cap := []) (vs := [(I ((p0.units.length : Int))), I 1, I 10]) rfl Qb2 (Qag N (p0.units.length : Int) 1 10 _ hf7) rfl rfl (nlc nll (nlc nll (nlc nll nl0))) nll rfl), apk rfl rfl, asb hb9 (amv rfl), trivial, trivial, trivial, trivial, apk rfl rfl, aas rfl, trivial⟩
     refine Qaf ?_
     obtain rfl := osi h
     exact ⟨⟨[B false], ⟨rot (by kernel_rfl), trivial⟩, rfl⟩, nll, Nat.le_refl _, fun n hn => absurd hn (Nat.not_lt_zero n)⟩
   ·replace h := Qa3 hb6 h
    refine wrg [rb [(.tmp 1, .ref 0 2 0 0)] [(0, (Qh0 p0))] (.ref 0 2 0 0), rb [(.tmp 3, .ref 0 2 0 0)] [(0, (Qh0 p0))] (.dat 1 ((p0.heads : List Int).map Qaa)), rp [(.tmp 4, (.dat 1 ((p0.heads : List Int).map Qaa)))] (I ((p0.heads.length : Int))), rp [fu 65, (.tmp 5, (I ((p0.heads.length : Int)))), ci 1, ci 6] (B x2), rp [(.tmp 6, B x2)] (B true), rb [(.tmp 7, B true), (.tmp 1, .ref 0 2 0 0)] [(0, (Qh0 p0))] (.ref 0 2 0 0), rb [(.tmp 7, B true), (.tmp 8, .ref 0 2 0 0)] [(0, (Qh0 p0))] (.dat 1 ((p0.heads : List Int).map Qaa)), rp [(.tmp 7, B true), fu 89, (.tmp 9, (.dat 1 ((p0.heads : List Int).map Qaa))), fu 102] (B x5), rp [(.tmp 7, B true), (.tmp 10, B x5), cb false] (B x5), rp [(.tmp 11, B x5)] (B false), sk 12 (B false), sk 12 (B false), sk 12 (B false), sk 12 (B false), rp [(.tmp 12, B false), (.tmp 16, (.lit undef)), cb false] (B false), mv 17 (B false), sk 18 (B false), sk 18 (B false), sk 18 (B false), sk 18 (B false), rp [(.tmp 18, B false), (.tmp 22, (.lit undef)), cb false] (B false), mv 23 (B false)] ?_ ?_
    ·exact ⟨afa rfl Try.underlying133 rfl rfl ti37 (by decide) rfl, ald rfl ti37 (by decide) rfl (nle rfl) rfl, alm (c := Qaa) (l := p0.heads) (aln rfl Try.underlying37 rfl), apc (first := []) (cap := []) (vs := [(I ((p0.heads.length : Int))), I 1, I 6]) rfl Qb2 (Qag N (p0.heads.length : Int) 1 6 _ hf1) rfl rfl (nlc nll (nlc nll (nlc nll nl0))) nll rfl, asb hb3 (amv rfl), ag_ (afa rfl Try.underlying133 rfl rfl ti37 (by decide) rfl), ag_ (ald rfl ti37 (by decide) rfl (nle rfl) rfl), ag_ (Qan (first := []) (cap := []) (vs := [(.dat 1 ((p0.heads : List Int).map Qaa)), (.fn (.func 102) [] [])]) (σr := []) (σr' := []) (res' := (B x5)) [] rfl enter89 (Qgo N p0.heads _ hf4) rfl (Qb0 (rnc (.plain _ (nld Qac _)) (rnc (.plain _ (NLt.fn _ _ _ nl0 nl0)) rn0))) Qam Qam (.plain _ nll) rfl rfl rfl), apk rfl rfl, asb hb6 (amv rfl), trivial, trivial, trivial, trivial, apk rfl rfl, amv rfl, trivial, trivial, trivial, trivial, apk rfl rfl, aas rfl, trivial⟩
    refine Qaf ?_
    obtain rfl := osi h
    exact ⟨⟨[B false], ⟨rot (by kernel_rfl), trivial⟩, rfl⟩, nll, Nat.le_refl _, fun n hn => absurd hn (Nat.not_lt_zero n)⟩
  ·replace h := Qa3 hb3 h
   refine wrg [rb [(.tmp 1, .ref 0 2 0 0)] [(0, (Qh0 p0))] (.ref 0 2 0 0), rb [(.tmp 3, .ref 0 2 0 0)] [(0, (Qh0 p0))] (.dat 1 ((p0.heads : List Int).map Qaa)), rp [(.tmp 4, (.dat 1 ((p0.heads : List Int).map Qaa)))] (I ((p0.heads.length : Int))), rp [fu 65, (.tmp 5, (I ((p0.heads.length : Int)))), ci 1, ci 6] (B x2), rp [(.tmp 6, B x2)] (B false), sk 7 (B false), sk 7 (B false), sk 7 (B false), rp [(.tmp 7, B false), (.tmp 10, (.lit undef)), cb false] (B false), mv 11 (B false), sk 12 (B false), sk 12 (B false), sk 12 (B false), sk 12 (B false), rp [(.tmp 12, B false), (.tmp 16, (.lit undef)), cb false] (B false), mv 17 (B false), sk 18 (B false), sk 18 (B false), sk 18 (B false), sk 18 (B false), rp [(.tmp 18, B false), (.tmp 22, (.lit undef)), cb false] (B false), mv 23 (B false)] ?_ ?_
   ·exact ⟨afa rfl Try.underlying133 rfl rfl ti37 (by decide) rfl, ald rfl ti37 (by decide) rfl (nle rfl) rfl, alm (c := Qaa) (l := p0.heads) (aln rfl Try.underlying37 rfl), apc (first := []) (cap := []) (vs := [(I ((p0.heads.length : Int))), I 1, I 6]) rfl Qb2 (Qag N (p0.heads.length : Int) 1 6 _ hf1) rfl rfl (nlc nll (nlc nll (nlc nll nl0))) nll rfl, asb hb3 (amv rfl), trivial, trivial, trivial, apk rfl rfl, amv rfl, trivial, trivial, trivial, trivial, apk rfl rfl, amv rfl, trivial, trivial, trivial, trivial, apk rfl rfl, aas rfl, trivial⟩
   refine Qaf ?_
   obtain rfl := osi h
   exact ⟨⟨[B false], ⟨rot (by kernel_rfl), trivial⟩, rfl⟩, nll, Nat.le_refl _, fun n hn => absurd hn (Nat.not_lt_zero n)⟩

def Qdn (N : Nat) (p0 : GShared) (p1 : (List Int)) (k2 : Int → Option Int) : Nat → Int → Int → Option Int
  | 0, _, _ => none
  | n7 + 1, y3, y4 =>
    bif (decide (y4 < (p1.length : Int))) then
     (getI p1 y4).bind fun x9 =>
     (getI p0.units y4).bind fun x13 =>
     (Qd3 N x13 x9).bind fun x18 =>
     Qdn N p0 p1 k2 n7 (w64 (y3 + x18)) (w64 (y4 + 1))
    else
     k2 (y3)
def Qg0 (N : Nat) (p0 : GShared) (p1 : (List Int)) : Option Int :=
  Qc5 (fun y1 =>
    some y1) fun k2 : Int → Option Int =>
  Qdn N p0 p1 k2 N 0 0
def z49_0 (p0 : GShared) : AV := .dat 2 ((p0.units : List GUnit).map Qat)
def z49_2 (p0 : GShared) : AV := .agg [(.dat 1 ((p0.heads : List Int).map Qaa)), (z49_0 p0)]
def z49_1 (p0 : GShared) : Slot := .own 2 [[(.dat 1 ((p0.heads : List Int).map Qaa)), (z49_0 p0)]]
def z49_7 (x13 : GUnit) : AV := .dat 2 ((x13.Parts : List GPart).map Qap)
set_option maxRecDepth 100000 in
set_option maxHeartbeats 4000000 in
theorem plant_shared_workX_ok (N : Nat) (p0 : GShared) (p1 : (List Int)) (r : Int) (h : Qg0 N p0 p1 = some r) : Spec Try.prog 82 [(.agg (c_GShared p0)), (.dat 1 (p1.map Qaa))] [] (I r) [] := by
  refine Qae Try.func82 rfl 0 (nle rfl) (fun X φ0 w0 hφ0 => ?_)
  unfold Qg0 at h
  refine wrg [⟨[(.tmp 0, (z49_2 p0))], [(0, .unused)], .ref 0 2 0 0, [(0, (z49_1 p0))], false⟩, mc (.int .i64 0)] ?_ ?_
  ·exact ⟨Qa0 rfl (by rfl) rfl rfl, aas rfl, trivial⟩
  obtain ⟨k2, hk_k2, h⟩ := jko h
  refine wjn (τ := Int) (fun t => k2 t = some r) (fun y1 => ⟨mk 25 [(4, I y1)], []⟩) (fun y1 h => ?_) ?_
  ·subst hk_k2
   refine wrg [mv 4 (I y1), mv 24 (I y1)] ?_ ?_
   ·exact ⟨amv rfl, aas rfl, trivial⟩
   refine Qaf ?_
   obtain rfl := osi h
   exact ⟨⟨[I y1], ⟨rot (by kernel_rfl), trivial⟩, rfl⟩, nll, Nat.le_refl _, fun n hn => absurd hn (Nat.not_lt_zero n)⟩
  ·skip
   refine wrg [mv 1 (.dat 1 ((p1 : List Int).map Qaa)), rp [(.tmp 7, (.dat 1 ((p1 : List Int).map Qaa)))] (I ((p1.length : Int))), mc (.int .i64 0)] ?_ ?_
   ·exact ⟨amv rfl, alm (c := Qaa) (l := p1) (aln rfl Try.underlying37 rfl), amv rfl, trivial⟩
   refine Qal ?_
   refine wmr (mto (n := 25) (l' := [(2, .ref 0 2 0 0), (4, I 0), (7, (.dat 1 ((p1 : List Int).map Qaa))), (8, (I ((p1.length : Int)))), (9, I 0)]) (own' := [(z49_1 p0)]) [(2, .ref 0 2 0 0), (4, I 0), (7, (.dat 1 ((p1 : List Int).map Qaa))), (8, (I ((p1.length : Int)))), (9, I 0)] [0] [(z49_1 p0)] hφ0 (pc (.rn (rqr rfl)) (pc rwl (pc (.rn (.plain _ (nld Qac _))) (pc rwl (pc rwl pn))))) (qc (spb (lc (.rn (.plain _ (nld Qac _))) (lc (.rn (.plain _ (nld Qas _))) ln))) qn)) ?_
   refine Qci (τ := Int × Int) (fun n t => Qdn N p0 p1 k2 n t.1 t.2 = some r) (fun ⟨y3, y4⟩ => ⟨mk 25 [(2, .ref 0 2 0 0), (4, I y3), (7, (.dat 1 ((p1 : List Int).map Qaa))), (8, (I ((p1.length : Int)))), (9, I y4)], [(z49_1 p0)]⟩) (fun t h => by rw [Qdn] at h; cases h) (fun n7 ih t h => ?_) N (0, 0) h
   obtain ⟨y3, y4⟩ := t
   rw [Qdn] at h
   skip
   refine wrg [rp [(.tmp 9, I y4), (.tmp 8, (I ((p1.length : Int))))] (B ((decide (y4 < (p1.length : Int)))))] ?_ ?_
   ·exact ⟨abn rfl rfl, trivial⟩
   refine wsq ?_
   rcases bft ((decide (y4 < (p1.length : Int)))) with hc8 | hc8
   ·replace h := Qa2 hc8 h
    refine wft hc8 (by kernel_rfl) ?_
    refine Qao ?_
    refine thn ?_
    refine wsq ?_
    refine Qal ?_
    obtain ⟨x9, hg10, h⟩ := bno h
    obtain ⟨hi11, hj12⟩ := gsm hg10
    refine wrg [mv 9 (I y4), rp [(.tmp 7, (.dat 1 ((p1 : List Int).map Qaa))), (.tmp 9, I y4)] (.dptr (Qaa (x9)) 0), rp [(.tmp 12, (.dptr (Qaa (x9)) 0))] (I x9), mv 11 (I y4), mv 13 (I x9)] ?_ ?_
    ·exact ⟨amv rfl, aid rfl Try.underlying37 ti3 rfl rfl hi11 (mgt Qaa hj12) rfl, ald_ rfl ti3 (by decide) (nle rfl) rfl, aas rfl, aas rfl, trivial⟩
    obtain ⟨x13, hg14, h⟩ := bno h
    obtain ⟨hi15, hj16⟩ := gsm hg14
    obtain ⟨x18, hf17, h⟩ := bno h
    refine Qar [mv 4 (I y3), rb [(.tmp 2, .ref 0 2 0 0)] [(0, (z49_1 p0))] (.ref 0 2 0 1), rb [(.tmp 15, .ref 0 2 0 1)] [(0, (z49_1 p0))] (z49_0 p0), mv 5 (I y4), rp [(.tmp 16, (z49_0 p0)), (.tmp 17, I y4)] (.dptr (Qat (x13)) 0), rp [(.tmp 18, (.dptr (Qat (x13)) 0))] (.agg [I x13.Inlet, (z49_7 x13)]), mv 6 (I x9), rp [fu 67, (.tmp 19, (.agg [I x13.Inlet, (z49_7 x13)])), (.tmp 20, I x9)] (I x18), rp [(.tmp 14, I y3), (.tmp 21, I x18)] (I (w64 (y3 + x18))), mv 22 (I (w64 (y3 + x18)))] ?_ ?_
    ·exact ⟨amv rfl, afa rfl Try.underlying133 rfl rfl ti89 (by decide) rfl, ald rfl ti89 (by decide) rfl (nle rfl) rfl, amv rfl, aid rfl Try.underlying89 ti34 rfl rfl hi15 (mgt Qat hj16) rfl, ald_ rfl ti34 (by decide) (nle rfl) rfl, amv rfl, apc (first := []) (cap := []) (vs := [(.agg [I x13.Inlet, (z49_7 x13)]), I x9]) rfl enter67 (Qgc N x13 x9 _ hf17) rfl rfl (nlc (NLt.agg _ (nlc nll (nlc (nld Qa8 _) nl0))) (nlc nll nl0)) nll rfl, abn rfl rfl, aas rfl, trivial⟩
    refine bln ?_
    refine thn ?_
    refine Qar [rp [(.tmp 9, I y4), ci 1] (I (w64 (y4 + 1))), mv 23 (I (w64 (y4 + 1)))] ?_ ?_
    ·exact ⟨abn rfl rfl, amv rfl, trivial⟩
    refine thn ?_
    exact arm (mto (n := 25) [(2, .ref 0 2 0 0), (4, (I (w64 (y3 + x18)))), (7, (.dat 1 ((p1 : List Int).map Qaa))), (8, (I ((p1.length : Int)))), (9, (I (w64 (y4 + 1))))] [0] [(z49_1 p0)] hφ0 (pc (.rn (rqr rfl)) (pc rwl (pc (.rn (.plain _ (nld Qac _))) (pc rwl (pc rwl pn))))) (qc (spb (lc (.rn (.plain _ (nld Qac _))) (lc (.rn (.plain _ (nld Qas _))) ln))) qn)) (ih (w64 (y3 + x18), w64 (y4 + 1)) h)
   ·replace h := Qa3 hc8 h
    refine wfn hc8 (by kernel_rfl) ?_
    refine Qbq ?_
    refine Qaw ?_
    refine Qaw ?_
    refine Qbp rfl ?_
    refine thn ?_
    exact ⟨(y3), h, (mto (n := 25) [(4, I y3)] [] [] hφ0 (pc rwl pn) qn)⟩

def Qe3 (N : Nat) (p0 : (List Int)) (y7 : (List Int)) (k10 : (List Int) → Option ((List Int) × Int × (List Int) × Int)) : Nat → (List Int) → Int → Int → Option ((List Int) × Int × (List Int) × Int)
  | 0, _, _, _ => none
  | n19 + 1, y13, y14, y15 =>
    bif (decide (y15 < (((p0.length : Int).toNat : Nat) : Int))) then
     chk (decide (0 ≤ y15) && decide (y15.toNat < (p0.length : Int).toNat)) <|
     (y7[y15.toNat]?).bind fun x22 =>
     chk (decide ((y13.length + ([w64 (x22 - y14)]).length) * 8 ≤ 140737488355328)) <|
     Qe3 N p0 y7 k10 n19 (y13 ++ ([w64 (x22 - y14)])) x22 (w64 (y15 + 1))
    else
     k10 (y13)
def Qe1 (N : Nat) (p0 : (List Int)) (k32 : (List Int) → Option ((List Int) × Int × (List Int) × Int)) (x37 : Int) : Nat → Int → (List Int) → Option ((List Int) × Int × (List Int) × Int)
  | 0, _, _ => none
  | n48 + 1, y44, y45 =>
    bif (decide (y44 < (((p0.length : Int).toNat : Nat) : Int))) then
     chk (decide (0 ≤ y44) && decide (y44.toNat < (p0.length : Int).toNat)) <|
     (y45[y44.toNat]?).bind fun x51 =>
     chk (decide (0 ≤ y44) && decide (y44.toNat < (p0.length : Int).toNat)) <|
     (y45[y44.toNat]?).bind fun _ =>
     Qe1 N p0 k32 x37 n48 (w64 (y44 + 1)) (y45.set y44.toNat (if x37 > x51 then x37 else x51))
    else
     k32 (y45)
def Qe0 (N : Nat) (x5 : ((List Int) × (List Int) × (List Int))) (k43 : Int → Option ((List Int) × Int × (List Int) × Int)) : Nat → Int → Option ((List Int) × Int × (List Int) × Int)
  | 0, _ => none
  | n58 + 1, y56 =>
    (getI x5.2.1 y56).bind fun x59 =>
    bif (decide (x59 > 0)) then
     Qe0 N x5 k43 n58 (w64 (y56 - 1))
    else
     k43 (y56)
def Qe2 (N : Nat) (p0 : (List Int)) (p1 : (List GUnit)) (x5 : ((List Int) × (List Int) × (List Int))) (k8 : (List Int) → Option ((List Int) × Int × (List Int) × Int)) : Nat → Int → (List Int) → Option ((List Int) × Int × (List Int) × Int)
  | 0, _, _ => none
  | n29 + 1, y25, y26 =>
    bif (decide (y25 < (p1.length : Int))) then
     Qc5 (fun y31 =>
       Qe2 N p0 p1 x5 k8 n29 (w64 (y25 + 1)) y31) fun k32 : (List Int) → Option ((List Int) × Int × (List Int) × Int) =>
     (getI p1 y25).bind fun x33 =>
     (getI x5.2.2 y25).bind fun x37 =>
     bif (decide (x37 ≤ 0)) then
      k32 (y26)
     else
      Qc5 (fun y42 =>
        Qe1 N p0 k32 x37 N y42 y26) fun k43 : Int → Option ((List Int) × Int × (List Int) × Int) =>
      Qe0 N x5 k43 N x33.Inlet
    else
     k8 (y26)
def plant_ShareX (N : Nat) (p0 : (List Int)) (p1 : (List GUnit)) : Option ((List Int) × Int × (List Int) × Int) :=
  (Qgn N (⟨p0, p1⟩ : GShared)).bind fun x2 =>
  bif (!x2) then
   some ([], 0, [], 1)
  else
   (Qg2 N (⟨p0, p1⟩ : GShared)).bind fun x5 =>
   chk (decide (0 ≤ (p0.length : Int)) && decide (8 * (p0.length : Int) ≤ 281474976710656) && decide ((p0.length : Int) ≤ 9223372036854775807)) <|
   Qc5 (fun y7 =>
     Qc5 (fun y9 =>
       (Qg0 N (⟨p0, p1⟩ : GShared) x5.1).bind fun x12 =>
       some (x5.1, x12, y9, 0)) fun k10 : (List Int) → Option ((List Int) × Int × (List Int) × Int) =>
     Qe3 N p0 y7 k10 N ([]) 0 0) fun k8 : (List Int) → Option ((List Int) × Int × (List Int) × Int) =>
   Qe2 N p0 p1 x5 k8 N 0 (List.replicate (p0.length : Int).toNat 0)
def z37_0 (p0 : (List Int)) (p1 : (List GUnit)) : AV := .agg [(.dat 1 ((p0 : List Int).map Qaa)), (.dat 2 ((p1 : List GUnit).map Qat))]
def Qgv (p0 : (List Int)) (p1 : (List GUnit)) : Slot := .own 2 [[(.dat 1 ((p0 : List Int).map Qaa)), (.dat 2 ((p1 : List GUnit).map Qat))]]
def z37_2 (p0 : (List Int)) : Slot := .own 1 ((List.replicate (p0.length : Int).toNat 0 : List Int).map Qaa)
def z37_41 (x22 : Int) (y14 : Int) : AV := .dat 1 (([w64 (x22 - y14)] : List Int).map Qaa)
def z37_42 (y13 : (List Int)) (x22 : Int) (y14 : Int) : AV := .acc 3 3 1 ((y13 ++ ([w64 (x22 - y14)]) : List Int).map Qaa)
def z37_6 (p0 : (List Int)) : Slot := .own 1 (((List.replicate (p0.length : Int).toNat 0) : List Int).map Qaa)
def z37_65 (x33 : GUnit) : AV := .dat 2 ((x33.Parts : List GPart).map Qap)
def z37_68 (y45 : (List Int)) (y44 : Int) (x37 : Int) (x51 : Int) : Slot := .own 1 ((y45.set y44.toNat (if x37 > x51 then x37 else x51) : List Int).map Qaa)
set_option maxRecDepth 100000 in
set_option maxHeartbeats 4000000 in
theorem plant_ShareX_ok (N : Nat) (p0 : (List Int)) (p1 : (List GUnit)) (r : ((List Int) × Int × (List Int) × Int)) (h : plant_ShareX N p0 p1 = some r) : Spec Try.prog 44 [(.dat 1 (p0.map Qaa)), (.dat 2 (p1.map Qat))] [] (.tup [(.dat 1 (r.1.map Qaa)), (I r.2.1), (.dat 1 (r.2.2.1.map Qaa)), (I r.2.2.2)]) [] := by
  refine Qae Try.func44 rfl 0 (nle rfl) (fun X φ0 w0 hφ0 => ?_)
  unfold plant_ShareX at h
  refine wrg [mc (.slice none 0 0), mc (.int .i64 0), mc (.slice none 0 0), mc (.int .i64 0)] ?_ ?_
  ·exact ⟨aas rfl, aas rfl, aas rfl, aas rfl, trivial⟩
  refine wrg [mv 0 (.dat 1 ((p0 : List Int).map Qaa)), mv 1 (.dat 2 ((p1 : List GUnit).map Qat)), rp [(.tmp 18, (.dat 1 ((p0 : List Int).map Qaa))), (.tmp 19, (.dat 2 ((p1 : List GUnit).map Qat)))] (z37_0 p0 p1), ⟨[], [(0, .unused)], .ref 0 2 0 0, [(0, .own 2 [[nilS, nilS]])], false⟩, ⟨[(.tmp 8, .ref 0 2 0 0), (.tmp 20, (z37_0 p0 p1))], [(0, .own 2 [[nilS, nilS]])], .any, [(0, (Qgv p0 p1))], false⟩] ?_ ?_
  ·exact ⟨amv rfl, amv rfl, Qau (vs := [(.dat 1 ((p0 : List Int).map Qaa)), (.dat 2 ((p1 : List GUnit).map Qat))]) rfl ts133 tz133 rfl (by rfl) rfl, Qa5 rfl tz133 rfl, ast rfl ti133 (by rfl) rfl (nle rfl) rfl, trivial⟩
  refine wsq ?_
  obtain ⟨x2, hf1, h⟩ := bno h
  refine wrg [rb [(.tmp 8, .ref 0 2 0 0)] [(0, (Qgv p0 p1))] (z37_0 p0 p1), rp [fu 80, (.tmp 21, (z37_0 p0 p1))] (B x2), rp [(.tmp 22, B x2)] (B ((!x2)))] ?_ ?_
  ·exact ⟨ald rfl ti133 (by decide) rfl (nle rfl) rfl, apc (first := []) (cap := []) (vs := [(z37_0 p0 p1)]) rfl enter80 (plant_shared_validX_ok N (⟨p0, p1⟩ : GShared) _ hf1) rfl rfl (nlc (NLt.agg _ (nlc (nld Qac _) (nlc (nld Qas _) nl0))) nl0) nll rfl, Qa6 rfl, trivial⟩
  rcases bft ((!x2)) with hc3 | hc3
  ·replace h := Qa2 hc3 h
   refine wft hc3 (by kernel_rfl) ?_
   refine wrg [mc (.slice none 0 0), mc (.int .i64 0), mc (.slice none 0 0), mc (.int .i64 1)] ?_ ?_
   ·exact ⟨aas rfl, aas rfl, aas rfl, aas rfl, trivial⟩
   refine Qaf ?_
   refine Qa7 ?_
   obtain rfl := osi h
   exact ⟨⟨[(.dat 1 (([] : List Int).map Qaa)), I 0, (.dat 1 (([] : List Int).map Qaa)), I 1], ⟨Qjd (v := nilS) (rot (by kernel_rfl)) Less.nil, rot (by kernel_rfl), Qjd (v := nilS) (rot (by kernel_rfl)) Less.nil, rot (by kernel_rfl), trivial⟩, rfl⟩, (NLt.tup _ (nlc (nld Qac _) (nlc nll (nlc (nld Qac _) (nlc nll nl0))))), Nat.le_refl _, fun n hn => absurd hn (Nat.not_lt_zero n)⟩
  ·replace h := Qa3 hc3 h
   refine wfn hc3 (by kernel_rfl) ?_
   refine Qao ?_
   refine thn ?_
   obtain ⟨x5, hf4, h⟩ := bno h
   refine wrg [rb [(.tmp 8, .ref 0 2 0 0)] [(0, (Qgv p0 p1))] (z37_0 p0 p1), rp [fu 81, (.tmp 25, (z37_0 p0 p1))] (.tup [(.dat 1 ((x5.1 : List Int).map Qaa)), (.dat 1 ((x5.2.1 : List Int).map Qaa)), (.dat 1 ((x5.2.2 : List Int).map Qaa))]), mv 26 (.tup [(.dat 1 ((x5.1 : List Int).map Qaa)), (.dat 1 ((x5.2.1 : List Int).map Qaa)), (.dat 1 ((x5.2.2 : List Int).map Qaa))]), rp [(.tmp 24, (.tup [(.dat 1 ((x5.1 : List Int).map Qaa)), (.dat 1 ((x5.2.1 : List Int).map Qaa)), (.dat 1 ((x5.2.2 : List Int).map Qaa))]))] (.dat 1 ((x5.1 : List Int).map Qaa)), rp [(.tmp 24, (.tup [(.dat 1 ((x5.1 : List Int).map Qaa)), (.dat 1 ((x5.2.1 : List Int).map Qaa)), (.dat 1 ((x5.2.2 : List Int).map Qaa))]))] (.dat 1 ((x5.2.1 : List Int).map Qaa)), rp [(.tmp 24, (.tup [(.dat 1 ((x5.1 : List Int).map Qaa)), (.dat 1 ((x5.2.1 : List Int).map Qaa)), (.dat 1 ((x5.2.2 : List Int).map Qaa))]))] (.dat 1 ((x5.2.2 : List Int).map Qaa)), mv 27 (.dat 1 ((x5.1 : List Int).map Qaa)), mv 28 (.dat 1 ((x5.2.1 : List Int).map Qaa)), mv 29 (.dat 1 ((x5.2.2 : List Int).map Qaa))] ?_ ?_
   ·exact ⟨ald rfl ti133 (by decide) rfl (nle rfl) rfl, apc (first := []) (cap := []) (vs := [(z37_0 p0 p1)]) rfl enter81 (plant_shared_bestX_ok N (⟨p0, p1⟩ : GShared) _ hf4) rfl rfl (nlc (NLt.agg _ (nlc (nld Qac _) (nlc (nld Qas _) nl0))) nl0) (NLt.tup _ (nlc (nld Qac _) (nlc (nld Qac _) (nlc (nld Qac _) nl0)))) rfl, amv rfl, Qay rfl rfl, Qay rfl rfl, Qay rfl rfl, aas rfl, aas rfl, aas rfl, trivial⟩
   obtain ⟨hm6, h⟩ := cko h
   refine wrg [mv 0 (.dat 1 ((p0 : List Int).map Qaa)), rp [(.tmp 30, (.dat 1 ((p0 : List Int).map Qaa)))] (I ((p0.length : Int))), ⟨[(.tmp 31, (I ((p0.length : Int)))), (.tmp 31, (I ((p0.length : Int))))], [(1, .unused)], (.own 1 1 (0) ((p0.length : Int).toNat)), [(1, (z37_2 p0))], false⟩, mv 32 (.own 1 1 (0) ((p0.length : Int).toNat))] ?_ ?_
   ·exact ⟨amv rfl, alm (c := Qaa) (l := p0) (aln rfl Try.underlying37 rfl), Qij rfl Try.underlying37 te3 tz3 rfl (and3a hm6) rfl (and3b hm6) (and3c' hm6) (rep_map Qaa rfl), aas rfl, trivial⟩
   obtain ⟨k8, hk_k8, h⟩ := jko h
   refine wjn (τ := (List Int)) (fun t => k8 t = some r) (fun y7 => ⟨mk 92 [(4, (.dat 1 ((x5.1 : List Int).map Qaa))), (6, nilS), (8, .ref 0 2 0 0), (11, (.own 1 1 (0) ((p0.length : Int).toNat)))], [(Qgv p0 p1), (.own 1 ((y7 : List Int).map Qaa))]⟩) (fun y7 h => ?_) ?_
   ·subst hk_k8
    refine wrg [mc (.int .i64 0)] ?_ ?_
    ·exact ⟨aas rfl, trivial⟩
    obtain ⟨k10, hk_k10, h⟩ := jko h
    refine wjn (τ := (List Int)) (fun t => k10 t = some r) (fun y9 => ⟨mk 92 [(4, (.dat 1 ((x5.1 : List Int).map Qaa))), (6, (.acc 0 3 1 ((y9 : List Int).map Qaa))), (8, .ref 1 2 0 0)], [.tok, (Qgv p0 p1)]⟩) (fun y9 h => ?_) ?_
    ·subst hk_k10
     obtain ⟨x12, hf11, h⟩ := bno h
     refine wrg [mv 4 (.dat 1 ((x5.1 : List Int).map Qaa)), rb [(.tmp 8, .ref 1 2 0 0)] [(1, (Qgv p0 p1))] (z37_0 p0 p1), mv 4 (.dat 1 ((x5.1 : List Int).map Qaa)), rp [fu 82, (.tmp 88, (z37_0 p0 p1)), (.tmp 89, (.dat 1 ((x5.1 : List Int).map Qaa)))] (I x12), mv 6 (.acc 0 3 1 ((y9 : List Int).map Qaa)), mv 87 (.dat 1 ((x5.1 : List Int).map Qaa)), mv 90 (I x12), mv 91 (.acc 0 3 1 ((y9 : List Int).map Qaa)), mc (.int .i64 0)] ?_ ?_
     ·exact ⟨amv rfl, ald rfl ti133 (by decide) rfl (nle rfl) rfl, amv rfl, apc (first := []) (cap := []) (vs := [(z37_0 p0 p1), (.dat 1 ((x5.1 : List Int).map Qaa))]) rfl enter82 (plant_shared_workX_ok N (⟨p0, p1⟩ : GShared) x5.1 _ hf11) rfl rfl (nlc (NLt.agg _ (nlc (nld Qac _) (nlc (nld Qas _) nl0))) (nlc (nld Qac _) nl0)) nll rfl, amv rfl, aas rfl, aas rfl, aas rfl, aas rfl, trivial⟩
     refine Qaf ?_
     obtain rfl := osi h
     exact ⟨⟨[(.dat 1 ((x5.1 : List Int).map Qaa)), I x12, (.dat 1 ((y9 : List Int).map Qaa)), I 0], ⟨rot (by kernel_rfl), rot (by kernel_rfl), Qjd (v := (.acc 0 3 1 ((y9 : List Int).map Qaa))) (rot (by kernel_rfl)) Less.acc, rot (by kernel_rfl), trivial⟩, rfl⟩, (NLt.tup _ (nlc (nld Qac _) (nlc nll (nlc (nld Qac _) (nlc nll nl0))))), Nat.le_refl _, fun n hn => absurd hn (Nat.not_lt_zero n)⟩
    ·skip
     refine wrg [mv 11 (.own 1 1 (0) ((p0.length : Int).toNat)), rp [(.tmp 73, (.own 1 1 (0) ((p0.length : Int).toNat)))] (I ((((p0.length : Int).toNat : Nat) : Int))), mc (.int .i64 0)] ?_ ?_
     ·exact ⟨amv rfl, aln rfl Try.underlying37 rfl, amv rfl, trivial⟩
     refine Qal ?_
     refine wmr (Mor.trans (mor_nil 2 3 1 6 (by kernel_rfl) (by kernel_rfl)) (mto (n := 92) (l' := [(4, (.dat 1 ((x5.1 : List Int).map Qaa))), (6, (.acc 0 3 1 ((([]) : List Int).map Qaa))), (8, .ref 1 2 0 0), (15, I 0), (73, (.own 2 1 (0) ((p0.length : Int).toNat))), (74, (I ((((p0.length : Int).toNat : Nat) : Int)))), (75, I 0)]) (own' := [.tok, (Qgv p0 p1), (.own 1 ((y7 : List Int).map Qaa))]) [(4, (.dat 1 ((x5.1 : List Int).map Qaa))), (6, (.acc 2 3 1 (([] : List Int).map Qaa))), (8, .ref 0 2 0 0), (15, I 0), (73, (.own 1 1 (0) ((p0.length : Int).toNat))), (74, (I ((((p0.length : Int).toNat : Nat) : Int)))), (75, I 0)] [2, 0, 1] [.tok, (Qgv p0 p1), (.own 1 ((y7 : List Int).map Qaa))] hφ0 (pc (.rn (.plain _ (nld Qac _))) (pc (.rn (Qh7 rfl (Qfw Qac _))) (pc (.rn (rqr rfl)) (pc rwl (pc (.rn (Qaj rfl)) (pc rwl (pc rwl pn))))))) (qc .tok (qc (spb (lc (.rn (.plain _ (nld Qac _))) (lc (.rn (.plain _ (nld Qas _))) ln))) (qc (spr Qac) qn))))) ?_
     refine Qci (τ := (List Int) × Int × Int) (fun n t => Qe3 N p0 y7 k10 n t.1 t.2.1 t.2.2 = some r) (fun ⟨y13, y14, y15⟩ => ⟨mk 92 [(4, (.dat 1 ((x5.1 : List Int).map Qaa))), (6, (.acc 0 3 1 ((y13 : List Int).map Qaa))), (8, .ref 1 2 0 0), (15, I y14), (73, (.own 2 1 (0) ((p0.length : Int).toNat))), (74, (I ((((p0.length : Int).toNat : Nat) : Int)))), (75, I y15)], [.tok, (Qgv p0 p1), (.own 1 ((y7 : List Int).map Qaa))]⟩) (fun t h => by rw [Qe3] at h; cases h) (fun n19 ih t h => ?_) N ([], 0, 0) h
     obtain ⟨y13, y14, y15⟩ := t
     rw [Qe3] at h
     skip
     refine wrg [rp [(.tmp 75, I y15), (.tmp 74, (I ((((p0.length : Int).toNat : Nat) : Int))))] (B ((decide (y15 < (((p0.length : Int).toNat : Nat) : Int)))))] ?_ ?_
     ·exact ⟨abn rfl rfl, trivial⟩
     refine wsq ?_
     rcases bft ((decide (y15 < (((p0.length : Int).toNat : Nat) : Int)))) with hc20 | hc20
     ·replace h := Qa2 hc20 h
      refine wft hc20 (by kernel_rfl) ?_
      refine Qao ?_
      refine thn ?_
      refine wsq ?_
      refine Qal ?_
      obtain ⟨hi21, h⟩ := cko h
      obtain ⟨hi21a, hi21b⟩ := Qbd hi21
      obtain ⟨x22, hg23, h⟩ := bno h
      refine wrg [rb [(.tmp 73, (.own 2 1 (0) ((p0.length : Int).toNat))), (.tmp 75, I y15)] [(2, (.own 1 ((y7 : List Int).map Qaa)))] (.ref 2 1 (y15.toNat) 0), rb [(.tmp 77, (.ref 2 1 (y15.toNat) 0))] [(2, (.own 1 ((y7 : List Int).map Qaa)))] (I x22), mv 78 (I x22)] ?_ ?_
      ·exact ⟨aio rfl Try.underlying37 ti3 (odt hi21a) (odt hi21b) (Nat.zero_add _), ald rfl ti3 (by decide) (mgt Qaa hg23) (nle rfl) rfl, aas rfl, trivial⟩
      obtain ⟨ha24, h⟩ := cko h
      refine wrg [mv 6 (.acc 0 3 1 ((y13 : List Int).map Qaa)), mv 17 (I x22), mv 15 (I y14), rp [(.tmp 80, I x22), (.tmp 81, I y14)] (I (w64 (x22 - y14))), rp [(.tmp 82, (I (w64 (x22 - y14))))] (z37_41 x22 y14), ⟨[(.tmp 79, (.acc 0 3 1 ((y13 : List Int).map Qaa))), (.tmp 83, (z37_41 x22 y14))], [(0, .tok), (3, .unused)], (z37_42 y13 x22 y14), [(0, .dead), (3, .tok)], false⟩, mv 84 (z37_42 y13 x22 y14)] ?_ ?_
      ·exact ⟨amv rfl, amv rfl, amv rfl, abn rfl rfl, Qcr (vs := [(I (w64 (x22 - y14)))]) rfl Try.underlying37 ti3 tz3 rfl (by decide) rfl (by decide) (by rfl) (by rfl) (by rfl) rfl, astep_app rfl Try.underlying37 te3 (Base.acc _ _) rfl rfl (by rfl) (app_le1 Qaa ha24) (app_le2 Qaa ha24 (by decide)) (app_map Qaa) rfl rfl, aas rfl, trivial⟩
      refine Qar [mv 17 (I x22), mv 85 (I x22)] ?_ ?_
      ·exact ⟨amv rfl, aas rfl, trivial⟩
      refine bln ?_
      refine thn ?_
      refine Qar [rp [(.tmp 75, I y15), ci 1] (I (w64 (y15 + 1))), mv 86 (I (w64 (y15 + 1)))] ?_ ?_
      ·exact ⟨abn rfl rfl, amv rfl, trivial⟩
      refine thn ?_
      exact arm (mto (n := 92) [(4, (.dat 1 ((x5.1 : List Int).map Qaa))), (6, (z37_42 y13 x22 y14)), (8, .ref 1 2 0 0), (15, I x22), (73, (.own 2 1 (0) ((p0.length : Int).toNat))), (74, (I ((((p0.length : Int).toNat : Nat) : Int)))), (75, (I (w64 (y15 + 1))))] [3, 1, 2] [.tok, (Qgv p0 p1), (.own 1 ((y7 : List Int).map Qaa))] hφ0 (pc (.rn (.plain _ (nld Qac _))) (pc (.rn (Qh7 rfl (Qfw Qac _))) (pc (.rn (rqr rfl)) (pc rwl (pc (.rn (Qaj rfl)) (pc rwl (pc rwl pn))))))) (qc .tok (qc (spb (lc (.rn (.plain _ (nld Qac _))) (lc (.rn (.plain _ (nld Qas _))) ln))) (qc (spr Qac) qn)))) (ih (y13 ++ ([w64 (x22 - y14)]), x22, w64 (y15 + 1)) h)
     ·replace h := Qa3 hc20 h
      refine wfn hc20 (by kernel_rfl) ?_
      refine Qbq ?_
      refine Qaw ?_
      refine Qaw ?_
      refine Qbp rfl ?_
      refine thn ?_
      exact ⟨(y13), h, (mto (n := 92) [(4, (.dat 1 ((x5.1 : List Int).map Qaa))), (6, (.acc 0 3 1 ((y13 : List Int).map Qaa))), (8, .ref 1 2 0 0)] [0, 1] [.tok, (Qgv p0 p1)] hφ0 (pc (.rn (.plain _ (nld Qac _))) (pc (.rn (Qh7 rfl (Qfw Qac _))) (pc (.rn (rqr rfl)) pn))) (qc .tok (qc (spb (lc (.rn (.plain _ (nld Qac _))) (lc (.rn (.plain _ (nld Qas _))) ln))) qn)))⟩
   ·skip
    refine wrg [mv 1 (.dat 2 ((p1 : List GUnit).map Qat)), rp [(.tmp 33, (.dat 2 ((p1 : List GUnit).map Qat)))] (I ((p1.length : Int))), mc (.int .i64 0)] ?_ ?_
    ·exact ⟨amv rfl, alm (c := Qat) (l := p1) (aln rfl Try.underlying89 rfl), amv rfl, trivial⟩
    refine Qal ?_
    refine wmr (mto (n := 92) (l' := [(4, (.dat 1 ((x5.1 : List Int).map Qaa))), (6, nilS), (8, .ref 0 2 0 0), (9, (.dat 1 ((x5.2.1 : List Int).map Qaa))), (10, (.dat 1 ((x5.2.2 : List Int).map Qaa))), (11, (.own 1 1 (0) ((p0.length : Int).toNat))), (33, (.dat 2 ((p1 : List GUnit).map Qat))), (34, (I ((p1.length : Int)))), (35, I 0)]) (own' := [(Qgv p0 p1), (z37_6 p0)]) [(4, (.dat 1 ((x5.1 : List Int).map Qaa))), (6, nilS), (8, .ref 0 2 0 0), (9, (.dat 1 ((x5.2.1 : List Int).map Qaa))), (10, (.dat 1 ((x5.2.2 : List Int).map Qaa))), (11, (.own 1 1 (0) ((p0.length : Int).toNat))), (33, (.dat 2 ((p1 : List GUnit).map Qat))), (34, (I ((p1.length : Int)))), (35, I 0)] [0, 1] [(Qgv p0 p1), (z37_2 p0)] hφ0 (pc (.rn (.plain _ (nld Qac _))) (pc rwl (pc (.rn (rqr rfl)) (pc (.rn (.plain _ (nld Qac _))) (pc (.rn (.plain _ (nld Qac _))) (pc (.rn (Qaj rfl)) (pc (.rn (.plain _ (nld Qas _))) (pc rwl (pc rwl pn))))))))) (qc (spb (lc (.rn (.plain _ (nld Qac _))) (lc (.rn (.plain _ (nld Qas _))) ln))) (qc (spr Qac) qn))) ?_
    refine Qci (τ := Int × (List Int)) (fun n t => Qe2 N p0 p1 x5 k8 n t.1 t.2 = some r) (fun ⟨y25, y26⟩ => ⟨mk 92 [(4, (.dat 1 ((x5.1 : List Int).map Qaa))), (6, nilS), (8, .ref 0 2 0 0), (9, (.dat 1 ((x5.2.1 : List Int).map Qaa))), (10, (.dat 1 ((x5.2.2 : List Int).map Qaa))), (11, (.own 1 1 (0) ((p0.length : Int).toNat))), (33, (.dat 2 ((p1 : List GUnit).map Qat))), (34, (I ((p1.length : Int)))), (35, I y25)], [(Qgv p0 p1), (.own 1 ((y26 : List Int).map Qaa))]⟩) (fun t h => by rw [Qe2] at h; cases h) (fun n29 ih t h => ?_) N (0, List.replicate (p0.length : Int).toNat 0) h
    obtain ⟨y25, y26⟩ := t
    rw [Qe2] at h
    skip
    refine wrg [rp [(.tmp 35, I y25), (.tmp 34, (I ((p1.length : Int))))] (B ((decide (y25 < (p1.length : Int)))))] ?_ ?_
    ·exact ⟨abn rfl rfl, trivial⟩
    refine wsq ?_
    rcases bft ((decide (y25 < (p1.length : Int)))) with hc30 | hc30
    ·replace h := Qa2 hc30 h
     refine wft hc30 (by kernel_rfl) ?_
     refine Qao ?_
     refine thn ?_
     obtain ⟨k32, hk_k32, h⟩ := jko h
     refine wjn (τ := (List Int)) (fun t => k32 t = some r) (fun y31 => ⟨mk 92 [(4, (.dat 1 ((x5.1 : List Int).map Qaa))), (6, nilS), (8, .ref 0 2 0 0), (9, (.dat 1 ((x5.2.1 : List Int).map Qaa))), (10, (.dat 1 ((x5.2.2 : List Int).map Qaa))), (11, (.own 1 1 (0) ((p0.length : Int).toNat))), (33, (.dat 2 ((p1 : List GUnit).map Qat))), (34, (I ((p1.length : Int)))), (35, I y25)], [(Qgv p0 p1), (.own 1 ((y31 : List Int).map Qaa))]⟩) (fun y31 h => ?_) ?_
     ·subst hk_k32
      refine Qar [rp [(.tmp 35, I y25), ci 1] (I (w64 (y25 + 1))), mv 72 (I (w64 (y25 + 1)))] ?_ ?_
      ·exact ⟨abn rfl rfl, amv rfl, trivial⟩
      refine thn ?_
      exact arm (mto (n := 92) [(4, (.dat 1 ((x5.1 : List Int).map Qaa))), (6, nilS), (8, .ref 0 2 0 0), (9, (.dat 1 ((x5.2.1 : List Int).map Qaa))), (10, (.dat 1 ((x5.2.2 : List Int).map Qaa))), (11, (.own 1 1 (0) ((p0.length : Int).toNat))), (33, (.dat 2 ((p1 : List GUnit).map Qat))), (34, (I ((p1.length : Int)))), (35, (I (w64 (y25 + 1))))] [0, 1] [(Qgv p0 p1), (.own 1 ((y31 : List Int).map Qaa))] hφ0 (pc (.rn (.plain _ (nld Qac _))) (pc rwl (pc (.rn (rqr rfl)) (pc (.rn (.plain _ (nld Qac _))) (pc (.rn (.plain _ (nld Qac _))) (pc (.rn (Qaj rfl)) (pc (.rn (.plain _ (nld Qas _))) (pc rwl (pc rwl pn))))))))) (qc (spb (lc (.rn (.plain _ (nld Qac _))) (lc (.rn (.plain _ (nld Qas _))) ln))) (qc (spr Qac) qn))) (ih (w64 (y25 + 1), y31) h)
     ·skip
      refine Qal ?_
      obtain ⟨x33, hg34, h⟩ := bno h
      obtain ⟨hi35, hj36⟩ := gsm hg34
      refine wrg [mv 35 (I y25), rp [(.tmp 33, (.dat 2 ((p1 : List GUnit).map Qat))), (.tmp 35, I y25)] (.dptr (Qat (x33)) 0), rp [(.tmp 38, (.dptr (Qat (x33)) 0))] (.agg [I x33.Inlet, (z37_65 x33)]), ⟨[], [(2, .unused)], .ref 2 2 0 0, [(2, .own 2 [[I 0, nilS]])], false⟩, mv 37 (I y25), ⟨[(.tmp 13, .ref 2 2 0 0), (.tmp 39, (.agg [I x33.Inlet, (z37_65 x33)]))], [(2, .own 2 [[I 0, nilS]])], .any, [(2, (.own 2 [[I x33.Inlet, (z37_65 x33)]]))], false⟩] ?_ ?_
      ·exact ⟨amv rfl, aid rfl Try.underlying89 ti34 rfl rfl hi35 (mgt Qat hj36) rfl, ald_ rfl ti34 (by decide) (nle rfl) rfl, Qa5 rfl tz34 rfl, aas rfl, ast rfl ti34 (by rfl) rfl (nle rfl) rfl, trivial⟩
      refine wsq ?_
      obtain ⟨x37, hg38, h⟩ := bno h
      obtain ⟨hi39, hj40⟩ := gsm hg38
      refine wrg [mv 10 (.dat 1 ((x5.2.2 : List Int).map Qaa)), mv 12 (I y25), rp [(.tmp 40, (.dat 1 ((x5.2.2 : List Int).map Qaa))), (.tmp 41, I y25)] (.dptr (Qaa (x37)) 0), rp [(.tmp 42, (.dptr (Qaa (x37)) 0))] (I x37), rp [(.tmp 43, I x37), ci 0] (B ((decide (x37 ≤ 0))))] ?_ ?_
      ·exact ⟨amv rfl, amv rfl, aid rfl Try.underlying37 ti3 rfl rfl hi39 (mgt Qaa hj40) rfl, ald_ rfl ti3 (by decide) (nle rfl) rfl, abn rfl rfl, trivial⟩
      rcases bft ((decide (x37 ≤ 0))) with hc41 | hc41
      ·replace h := Qa2 hc41 h
       refine wft hc41 (by kernel_rfl) ?_
       refine Qbq ?_
       refine Qaw ?_
       refine Qbp rfl ?_
       refine thn ?_
       exact ⟨(y26), h, (mto (n := 92) [(4, (.dat 1 ((x5.1 : List Int).map Qaa))), (6, nilS), (8, .ref 0 2 0 0), (9, (.dat 1 ((x5.2.1 : List Int).map Qaa))), (10, (.dat 1 ((x5.2.2 : List Int).map Qaa))), (11, (.own 1 1 (0) ((p0.length : Int).toNat))), (33, (.dat 2 ((p1 : List GUnit).map Qat))), (34, (I ((p1.length : Int)))), (35, I y25)] [0, 1] [(Qgv p0 p1), (.own 1 ((y26 : List Int).map Qaa))] hφ0 (pc (.rn (.plain _ (nld Qac _))) (pc rwl (pc (.rn (rqr rfl)) (pc (.rn (.plain _ (nld Qac _))) (pc (.rn (.plain _ (nld Qac _))) (pc (.rn (Qaj rfl)) (pc (.rn (.plain _ (nld Qas _))) (pc rwl (pc rwl pn))))))))) (qc (spb (lc (.rn (.plain _ (nld Qac _))) (lc (.rn (.plain _ (nld Qas _))) ln))) (qc (spr Qac) qn)))⟩
      ·replace h := Qa3 hc41 h
       refine wfn hc41 (by kernel_rfl) ?_
       refine Qao ?_
       refine thn ?_
       refine wrg [rb [(.tmp 13, .ref 2 2 0 0)] [(2, (.own 2 [[I x33.Inlet, (z37_65 x33)]]))] (.ref 2 2 0 0), rb [(.tmp 45, .ref 2 2 0 0)] [(2, (.own 2 [[I x33.Inlet, (z37_65 x33)]]))] (I x33.Inlet), mv 46 (I x33.Inlet)] ?_ ?_
       ·exact ⟨afa rfl Try.underlying34 rfl rfl ti3 (by decide) rfl, ald rfl ti3 (by decide) rfl (nle rfl) rfl, aas rfl, trivial⟩
       obtain ⟨k43, hk_k43, h⟩ := jko h
       refine wjn (τ := Int) (fun t => k43 t = some r) (fun y42 => ⟨mk 92 [(4, (.dat 1 ((x5.1 : List Int).map Qaa))), (6, nilS), (8, .ref 0 2 0 0), (9, (.dat 1 ((x5.2.1 : List Int).map Qaa))), (10, (.dat 1 ((x5.2.2 : List Int).map Qaa))), (11, (.own 1 1 (0) ((p0.length : Int).toNat))), (12, I y25), (14, I y42), (33, (.dat 2 ((p1 : List GUnit).map Qat))), (34, (I ((p1.length : Int)))), (35, I y25)], [(Qgv p0 p1), (.own 1 ((y26 : List Int).map Qaa))]⟩) (fun y42 h => ?_) ?_
       ·subst hk_k43
        refine Qal ?_
        refine wmr (mto (n := 92) (l' := [(4, (.dat 1 ((x5.1 : List Int).map Qaa))), (6, nilS), (8, .ref 0 2 0 0), (9, (.dat 1 ((x5.2.1 : List Int).map Qaa))), (10, (.dat 1 ((x5.2.2 : List Int).map Qaa))), (11, (.own 1 1 (0) ((p0.length : Int).toNat))), (12, I y25), (14, I y42), (33, (.dat 2 ((p1 : List GUnit).map Qat))), (34, (I ((p1.length : Int)))), (35, I y25)]) (own' := [(Qgv p0 p1), (.own 1 ((y26 : List Int).map Qaa))]) [(4, (.dat 1 ((x5.1 : List Int).map Qaa))), (6, nilS), (8, .ref 0 2 0 0), (9, (.dat 1 ((x5.2.1 : List Int).map Qaa))), (10, (.dat 1 ((x5.2.2 : List Int).map Qaa))), (11, (.own 1 1 (0) ((p0.length : Int).toNat))), (12, I y25), (14, I y42), (33, (.dat 2 ((p1 : List GUnit).map Qat))), (34, (I ((p1.length : Int)))), (35, I y25)] [0, 1] [(Qgv p0 p1), (.own 1 ((y26 : List Int).map Qaa))] hφ0 (pc (.rn (.plain _ (nld Qac _))) (pc rwl (pc (.rn (rqr rfl)) (pc (.rn (.plain _ (nld Qac _))) (pc (.rn (.plain _ (nld Qac _))) (pc (.rn (Qaj rfl)) (pc rwl (pc rwl (pc (.rn (.plain _ (nld Qas _))) (pc rwl (pc rwl pn))))))))))) (qc (spb (lc (.rn (.plain _ (nld Qac _))) (lc (.rn (.plain _ (nld Qas _))) ln))) (qc (spr Qac) qn))) ?_
        refine Qci (τ := Int × (List Int)) (fun n t => Qe1 N p0 k32 x37 n t.1 t.2 = some r) (fun ⟨y44, y45⟩ => ⟨mk 92 [(4, (.dat 1 ((x5.1 : List Int).map Qaa))), (6, nilS), (8, .ref 0 2 0 0), (9, (.dat 1 ((x5.2.1 : List Int).map Qaa))), (10, (.dat 1 ((x5.2.2 : List Int).map Qaa))), (11, (.own 1 1 (0) ((p0.length : Int).toNat))), (12, I y25), (14, I y44), (33, (.dat 2 ((p1 : List GUnit).map Qat))), (34, (I ((p1.length : Int)))), (35, I y25)], [(Qgv p0 p1), (.own 1 ((y45 : List Int).map Qaa))]⟩) (fun t h => by rw [Qe1] at h; cases h) (fun n48 ih t h => ?_) N (y42, y26) h
        obtain ⟨y44, y45⟩ := t
        rw [Qe1] at h
        skip
        refine wsq ?_
        refine wrg [mv 14 (I y44), mv 11 (.own 1 1 (0) ((p0.length : Int).toNat)), rp [(.tmp 55, (.own 1 1 (0) ((p0.length : Int).toNat)))] (I ((((p0.length : Int).toNat : Nat) : Int))), rp [(.tmp 54, I y44), (.tmp 56, (I ((((p0.length : Int).toNat : Nat) : Int))))] (B ((decide (y44 < (((p0.length : Int).toNat : Nat) : Int)))))] ?_ ?_
        ·exact ⟨amv rfl, amv rfl, aln rfl Try.underlying37 rfl, abn rfl rfl, trivial⟩
        rcases bft ((decide (y44 < (((p0.length : Int).toNat : Nat) : Int)))) with hc49 | hc49
        ·replace h := Qa2 hc49 h
         refine wft hc49 (by kernel_rfl) ?_
         refine Qao ?_
         refine thn ?_
         refine wsq ?_
         refine Qal ?_
         obtain ⟨hi50, h⟩ := cko h
         obtain ⟨hi50a, hi50b⟩ := Qbd hi50
         obtain ⟨x51, hg52, h⟩ := bno h
         obtain ⟨hi53, h⟩ := cko h
         obtain ⟨hi53a, hi53b⟩ := Qbd hi53
         obtain ⟨x54, hg55, h⟩ := bno h
         refine Qe6 [mv 11 (.own 1 1 (0) ((p0.length : Int).toNat)), mv 14 (I y44), mv 11 (.own 1 1 (0) ((p0.length : Int).toNat)), mv 14 (I y44), rb [(.tmp 62, (.own 1 1 (0) ((p0.length : Int).toNat))), (.tmp 63, I y44)] [(1, (.own 1 ((y45 : List Int).map Qaa)))] (.ref 1 1 (y44.toNat) 0), rb [(.tmp 64, (.ref 1 1 (y44.toNat) 0))] [(1, (.own 1 ((y45 : List Int).map Qaa)))] (I x51), mv 10 (.dat 1 ((x5.2.2 : List Int).map Qaa)), mv 12 (I y25), rp [(.tmp 66, (.dat 1 ((x5.2.2 : List Int).map Qaa))), (.tmp 67, I y25)] (.dptr (Qaa (x37)) 0), rp [(.tmp 68, (.dptr (Qaa (x37)) 0))] (I x37), rp [(.tmp 65, I x51), (.tmp 69, I x37)] (I ((if x37 > x51 then x37 else x51))), rb [(.tmp 60, (.own 1 1 (0) ((p0.length : Int).toNat))), (.tmp 61, I y44)] [(1, (.own 1 ((y45 : List Int).map Qaa)))] (.ref 1 1 (y44.toNat) 0), ⟨[(.tmp 71, (.ref 1 1 (y44.toNat) 0)), (.tmp 70, (I ((if x37 > x51 then x37 else x51))))], [(1, (.own 1 ((y45 : List Int).map Qaa)))], .any, [(1, (z37_68 y45 y44 x37 x51))], false⟩] ?_ ?_
         ·exact ⟨amv rfl, amv rfl, amv rfl, amv rfl, aio rfl Try.underlying37 ti3 (odt hi50a) (odt hi50b) (Nat.zero_add _), ald rfl ti3 (by decide) (mgt Qaa hg52) (nle rfl) rfl, amv rfl, amv rfl, aid rfl Try.underlying37 ti3 rfl rfl hi39 (mgt Qaa hj40) rfl, ald_ rfl ti3 (by decide) (nle rfl) rfl, astep_max rfl, aio rfl Try.underlying37 ti3 (odt hi53a) (odt hi53b) (Nat.zero_add _), ast rfl ti3 (by rfl) (mgt Qaa hg55) (nle rfl) (Qgl Qaa rfl), trivial⟩
         refine bln ?_
         refine thn ?_
         refine Qar [mv 14 (I y44), rp [(.tmp 58, I y44), ci 1] (I (w64 (y44 + 1))), mv 59 (I (w64 (y44 + 1)))] ?_ ?_
         ·exact ⟨amv rfl, abn rfl rfl, aas rfl, trivial⟩
         refine thn ?_
         exact arm (mto (n := 92) [(4, (.dat 1 ((x5.1 : List Int).map Qaa))), (6, nilS), (8, .ref 0 2 0 0), (9, (.dat 1 ((x5.2.1 : List Int).map Qaa))), (10, (.dat 1 ((x5.2.2 : List Int).map Qaa))), (11, (.own 1 1 (0) ((p0.length : Int).toNat))), (12, I y25), (14, (I (w64 (y44 + 1)))), (33, (.dat 2 ((p1 : List GUnit).map Qat))), (34, (I ((p1.length : Int)))), (35, I y25)] [0, 1] [(Qgv p0 p1), (z37_68 y45 y44 x37 x51)] hφ0 (pc (.rn (.plain _ (nld Qac _))) (pc rwl (pc (.rn (rqr rfl)) (pc (.rn (.plain _ (nld Qac _))) (pc (.rn (.plain _ (nld Qac _))) (pc (.rn (Qaj rfl)) (pc rwl (pc rwl (pc (.rn (.plain _ (nld Qas _))) (pc rwl (pc rwl pn))))))))))) (qc (spb (lc (.rn (.plain _ (nld Qac _))) (lc (.rn (.plain _ (nld Qas _))) ln))) (qc (spr Qac) qn))) (ih (w64 (y44 + 1), y45.set y44.toNat (if x37 > x51 then x37 else x51)) h)
        ·replace h := Qa3 hc49 h
         refine wfn hc49 (by kernel_rfl) ?_
         refine Qbq ?_
         refine Qaw ?_
         refine Qaw ?_
         refine Qbp rfl ?_
         refine bln ?_
         refine thn ?_
         exact ⟨(y45), h, (mto (n := 92) [(4, (.dat 1 ((x5.1 : List Int).map Qaa))), (6, nilS), (8, .ref 0 2 0 0), (9, (.dat 1 ((x5.2.1 : List Int).map Qaa))), (10, (.dat 1 ((x5.2.2 : List Int).map Qaa))), (11, (.own 1 1 (0) ((p0.length : Int).toNat))), (33, (.dat 2 ((p1 : List GUnit).map Qat))), (34, (I ((p1.length : Int)))), (35, I y25)] [0, 1] [(Qgv p0 p1), (.own 1 ((y45 : List Int).map Qaa))] hφ0 (pc (.rn (.plain _ (nld Qac _))) (pc rwl (pc (.rn (rqr rfl)) (pc (.rn (.plain _ (nld Qac _))) (pc (.rn (.plain _ (nld Qac _))) (pc (.rn (Qaj rfl)) (pc (.rn (.plain _ (nld Qas _))) (pc rwl (pc rwl pn))))))))) (qc (spb (lc (.rn (.plain _ (nld Qac _))) (lc (.rn (.plain _ (nld Qas _))) ln))) (qc (spr Qac) qn)))⟩
       ·skip
        refine Qal ?_
        refine wmr (mto (n := 92) (l' := [(4, (.dat 1 ((x5.1 : List Int).map Qaa))), (6, nilS), (8, .ref 0 2 0 0), (9, (.dat 1 ((x5.2.1 : List Int).map Qaa))), (10, (.dat 1 ((x5.2.2 : List Int).map Qaa))), (11, (.own 1 1 (0) ((p0.length : Int).toNat))), (12, I y25), (14, I x33.Inlet), (33, (.dat 2 ((p1 : List GUnit).map Qat))), (34, (I ((p1.length : Int)))), (35, I y25)]) (own' := [(Qgv p0 p1), (.own 1 ((y26 : List Int).map Qaa))]) [(4, (.dat 1 ((x5.1 : List Int).map Qaa))), (6, nilS), (8, .ref 0 2 0 0), (9, (.dat 1 ((x5.2.1 : List Int).map Qaa))), (10, (.dat 1 ((x5.2.2 : List Int).map Qaa))), (11, (.own 1 1 (0) ((p0.length : Int).toNat))), (12, I y25), (14, I x33.Inlet), (33, (.dat 2 ((p1 : List GUnit).map Qat))), (34, (I ((p1.length : Int)))), (35, I y25)] [0, 1] [(Qgv p0 p1), (.own 1 ((y26 : List Int).map Qaa))] hφ0 (pc (.rn (.plain _ (nld Qac _))) (pc rwl (pc (.rn (rqr rfl)) (pc (.rn (.plain _ (nld Qac _))) (pc (.rn (.plain _ (nld Qac _))) (pc (.rn (Qaj rfl)) (pc rwl (pc rwl (pc (.rn (.plain _ (nld Qas _))) (pc rwl (pc rwl pn))))))))))) (qc (spb (lc (.rn (.plain _ (nld Qac _))) (lc (.rn (.plain _ (nld Qas _))) ln))) (qc (spr Qac) qn))) ?_
        refine Qci (τ := Int) (fun n t => Qe0 N x5 k43 n t = some r) (fun y56 => ⟨mk 92 [(4, (.dat 1 ((x5.1 : List Int).map Qaa))), (6, nilS), (8, .ref 0 2 0 0), (9, (.dat 1 ((x5.2.1 : List Int).map Qaa))), (10, (.dat 1 ((x5.2.2 : List Int).map Qaa))), (11, (.own 1 1 (0) ((p0.length : Int).toNat))), (12, I y25), (14, I y56), (33, (.dat 2 ((p1 : List GUnit).map Qat))), (34, (I ((p1.length : Int)))), (35, I y25)], [(Qgv p0 p1), (.own 1 ((y26 : List Int).map Qaa))]⟩) (fun t h => by rw [Qe0] at h; cases h) (fun n58 ih y56 h => ?_) N (x33.Inlet) h
        rw [Qe0] at h
        skip
        refine wsq ?_
        obtain ⟨x59, hg60, h⟩ := bno h
        obtain ⟨hi61, hj62⟩ := gsm hg60
        refine wrg [mv 9 (.dat 1 ((x5.2.1 : List Int).map Qaa)), mv 14 (I y56), rp [(.tmp 47, (.dat 1 ((x5.2.1 : List Int).map Qaa))), (.tmp 48, I y56)] (.dptr (Qaa (x59)) 0), rp [(.tmp 49, (.dptr (Qaa (x59)) 0))] (I x59), rp [(.tmp 50, I x59), ci 0] (B ((decide (x59 > 0))))] ?_ ?_
        ·exact ⟨amv rfl, amv rfl, aid rfl Try.underlying37 ti3 rfl rfl hi61 (mgt Qaa hj62) rfl, ald_ rfl ti3 (by decide) (nle rfl) rfl, abn rfl rfl, trivial⟩
        rcases bft ((decide (x59 > 0))) with hc63 | hc63
        ·replace h := Qa2 hc63 h
         refine wft hc63 (by kernel_rfl) ?_
         refine Qao ?_
         refine thn ?_
         refine Qal ?_
         refine Qar [mv 14 (I y56), rp [(.tmp 52, I y56), ci 1] (I (w64 (y56 - 1))), mv 53 (I (w64 (y56 - 1)))] ?_ ?_
         ·exact ⟨amv rfl, abn rfl rfl, aas rfl, trivial⟩
         refine bln ?_
         refine thn ?_
         exact arm (mto (n := 92) [(4, (.dat 1 ((x5.1 : List Int).map Qaa))), (6, nilS), (8, .ref 0 2 0 0), (9, (.dat 1 ((x5.2.1 : List Int).map Qaa))), (10, (.dat 1 ((x5.2.2 : List Int).map Qaa))), (11, (.own 1 1 (0) ((p0.length : Int).toNat))), (12, I y25), (14, (I (w64 (y56 - 1)))), (33, (.dat 2 ((p1 : List GUnit).map Qat))), (34, (I ((p1.length : Int)))), (35, I y25)] [0, 1] [(Qgv p0 p1), (.own 1 ((y26 : List Int).map Qaa))] hφ0 (pc (.rn (.plain _ (nld Qac _))) (pc rwl (pc (.rn (rqr rfl)) (pc (.rn (.plain _ (nld Qac _))) (pc (.rn (.plain _ (nld Qac _))) (pc (.rn (Qaj rfl)) (pc rwl (pc rwl (pc (.rn (.plain _ (nld Qas _))) (pc rwl (pc rwl pn))))))))))) (qc (spb (lc (.rn (.plain _ (nld Qac _))) (lc (.rn (.plain _ (nld Qas _))) ln))) (qc (spr Qac) qn))) (ih (w64 (y56 - 1)) h)
        ·replace h := Qa3 hc63 h
         refine wfn hc63 (by kernel_rfl) ?_
         refine Qbq ?_
         refine Qaw ?_
         refine Qaw ?_
         refine Qbp rfl ?_
         refine thn ?_
         exact ⟨(y56), h, (mto (n := 92) [(4, (.dat 1 ((x5.1 : List Int).map Qaa))), (6, nilS), (8, .ref 0 2 0 0), (9, (.dat 1 ((x5.2.1 : List Int).map Qaa))), (10, (.dat 1 ((x5.2.2 : List Int).map Qaa))), (11, (.own 1 1 (0) ((p0.length : Int).toNat))), (12, I y25), (14, I y56), (33, (.dat 2 ((p1 : List GUnit).map Qat))), (34, (I ((p1.length : Int)))), (35, I y25)] [0, 1] [(Qgv p0 p1), (.own 1 ((y26 : List Int).map Qaa))] hφ0 (pc (.rn (.plain _ (nld Qac _))) (pc rwl (pc (.rn (rqr rfl)) (pc (.rn (.plain _ (nld Qac _))) (pc (.rn (.plain _ (nld Qac _))) (pc (.rn (Qaj rfl)) (pc rwl (pc rwl (pc (.rn (.plain _ (nld Qas _))) (pc rwl (pc rwl pn))))))))))) (qc (spb (lc (.rn (.plain _ (nld Qac _))) (lc (.rn (.plain _ (nld Qas _))) ln))) (qc (spr Qac) qn)))⟩
    ·replace h := Qa3 hc30 h
     refine wfn hc30 (by kernel_rfl) ?_
     refine Qbq ?_
     refine Qaw ?_
     refine Qaw ?_
     refine Qbp rfl ?_
     refine thn ?_
     exact ⟨(y26), h, (mto (n := 92) [(4, (.dat 1 ((x5.1 : List Int).map Qaa))), (6, nilS), (8, .ref 0 2 0 0), (11, (.own 1 1 (0) ((p0.length : Int).toNat)))] [0, 1] [(Qgv p0 p1), (.own 1 ((y26 : List Int).map Qaa))] hφ0 (pc (.rn (.plain _ (nld Qac _))) (pc rwl (pc (.rn (rqr rfl)) (pc (.rn (Qaj rfl)) pn)))) (qc (spb (lc (.rn (.plain _ (nld Qac _))) (lc (.rn (.plain _ (nld Qas _))) ln))) (qc (spr Qac) qn)))⟩

end Go.Proofs.Ytlhakkkjgdbdpaa
