/-
  Functions of the program: what they compute, as plain functions, and that they do. No conditions.
-/
import Derived.Test.YtlhakkkjgdbdpaaGreatX2
namespace Go.Proofs.YtlhakkkjgdbdpaaGreat
set_option maxRecDepth 100000
set_option maxHeartbeats 4000000
open Go.RowKit
def Qgp (N : Nat) (p0 : Int) : Option Bool :=
  (Qbb N p0 0 1000000).bind fun x2 =>
  some x2
theorem Qkt (N : Nat) (p0 : Int) (r : Bool) (h : Qgp N p0 = some r) : Spec Tryz.prog 84 [(I p0)] [] (B r) [] := by
  refine Qac Tryz.func84 rfl 0 (nle rfl) (fun X φ0 w0 hφ0 hd0 => ?_)
  unfold Qgp at h
  refine wx tbk [] trivial ?_
  obtain ⟨x2, hf1, h⟩ := bno h
  refine wx tbk [(1, rp [fu 56, (.tmp 3, I p0), ci 0, ci 1000000] (B x2))] ⟨apc (first := []) (cap := []) (vs := [I p0, I 0, I 1000000]) rfl Qbs (Qad N p0 0 1000000 _ hf1) rfl rfl (nlc nll (nlc nll (nlc nll nl0))) nll rfl, trivial⟩ ?_
  refine Qaa ?_
  obtain rfl := osi h
  exact fend ⟨[B x2], ⟨rot (by kernel_rfl), trivial⟩, rfl⟩ nll
def Qh5 (N : Nat) (p0 : Int) : Option Bool :=
  (Qgp N p0).bind fun x3 =>
  some (!x3)
def Q5p : Slot := .own 1 [[(.fn (.func 84) [] [])]]
theorem Ql8 (N : Nat) (p0 : Int) (r : Bool) (h : Qh5 N p0 = some r) : Spec Tryz.prog 105 [(I (p0)), (.ref 0 1 (0) 0)] [Q5p] (B (r)) [Q5p] := by
  refine Qac Tryz.func105 rfl 1 (nle rfl) (fun X φ0 w0 hφ0 hd0 => ?_)
  unfold Qh5 at h
  refine Qbh ?_
  refine wx tbk [] trivial ?_
  obtain ⟨x3, hf2, h⟩ := bno h
  refine wx tbk [(2, rp [(.tmp 4, (.fn (.func 84) [] [])), (.tmp 5, I p0)] (B x3))] ⟨apc (first := []) (cap := []) (vs := [I p0]) rfl Zbs (Qkt N p0 _ hf2) rfl rfl (nlc nll nl0) nll rfl, trivial⟩ ?_
  refine wmr (mto (n := 8) (l' := [(3, (B ((!x3))))]) (own' := [Q5p]) [(3, (B ((!x3))))] [0] [Q5p] hφ0 (pc rwl pn) (qc (spb (lc (.rn (Qas rn0 rn0)) ln)) qn)) ?_
  refine Qaa ?_
  obtain rfl := osi h
  exact ⟨_, Mor.rfl, Qb7 (vs := [(B ((!x3)))]) ⟨rot (by kernel_rfl), trivial⟩ rfl (NLt.of0 nll) (by kernel_rfl) (Qaf (Qav (nlc (NLt.of0 (NLt.fn _ _ _ nl0 nl0)) nl0)) Qbd)⟩
def Qcu (N : Nat) (p0 : (List Int)) (k2 : Unit → Option Int) : Nat → Int → Option Int
  | 0, _ => none
  | n5 + 1, y3 =>
    bif (decide (y3 < (p0.length : Int))) then
     (getI p0 y3).bind fun x7 =>
     (Qh5 N x7).bind fun x12 =>
     bif x12 then
      some y3
     else
      Qcu N p0 k2 n5 (w64 (y3 + 1))
    else
     k2 ()
def Qe4 (N : Nat) (p0 : (List Int)) : Option Int :=
  Qc5 (fun _ =>
    some (-1)) fun k2 : Unit → Option Int =>
  Qcu N p0 k2 N 0
def Qwv (p0 : (List Int)) : AV := .dat 1 ((p0 : List Int).map Qal)
def Q0c : AV := .fn (.func 105) [] [(.ref 0 1 (0) 0)]
def Qnd : Slot := .own 1 [[(.fn (.func 84) [] [])]]
theorem Qiz (N : Nat) (p0 : (List Int)) (r : Int) (h : Qe4 N p0 = some r) : Spec Tryz.prog 65 [(Qwv p0), Q0c] [Qnd] (I (r)) [Qnd] := by
  refine Qac Tryz.func65 rfl 1 (nle rfl) (fun X φ0 w0 hφ0 hd0 => ?_)
  unfold Qe4 at h
  refine Qbh ?_
  refine wx tbk [] trivial ?_
  obtain ⟨k2, hk_k2, h⟩ := jko h
  refine wjn (τ := Unit) (fun t => k2 t = some r) (fun _ => ⟨mk 19 [], [Qnd]⟩) (fun t h => ?_) ?_
  ·subst hk_k2
   refine wx tbk [] trivial ?_
   refine wmr (mto (n := 19) (l' := [(4, (I ((-1))))]) (own' := [Qnd]) [(4, (I ((-1))))] [0] [Qnd] hφ0 (pc rwl pn) (qc (spb (lc (.rn (Qas rn0 rn0)) ln)) qn)) ?_
   refine Qaa ?_
   obtain rfl := osi h
   exact ⟨_, Mor.rfl, Qb7 (vs := [(I ((-1)))]) ⟨rot (by kernel_rfl), trivial⟩ rfl (NLt.of0 nll) (by kernel_rfl) (Qaf (Qav (nlc (NLt.of0 (NLt.fn _ _ _ nl0 nl0)) nl0)) Qbd)⟩
  ·skip
   refine wx tbk [(1, rp [(.tmp 6, (Qwv p0))] (I ((p0.length : Int))))] ⟨alm (c := Qal) (l := p0) (aln rfl Tryz.underlying73 rfl), trivial⟩ ?_
   refine Qaj ?_
   refine wmr (mto (n := 19) (l' := [(0, (Qwv p0)), (1, Q0c), (7, (I ((p0.length : Int)))), (8, I 0)]) (own' := [Qnd]) [(0, (Qwv p0)), (1, Q0c), (7, (I ((p0.length : Int)))), (8, I 0)] [0] [Qnd] hφ0 (pc (.rn (.plain _ (nld Qab _))) (pc (.rn (Qas rn0 (rnc (rqr rfl) rn0))) (pc rwl (pc rwl pn)))) (qc (spb (lc (.rn (Qas rn0 rn0)) ln)) qn)) ?_
   refine Qcl (τ := Int) (fun n t => Qcu N p0 k2 n t = some r) (fun y3 => ⟨mk 19 [(0, (Qwv p0)), (1, Q0c), (7, (I ((p0.length : Int)))), (8, I y3)], [Qnd]⟩) (fun t h => by rw [Qcu] at h; cases h) (fun n5 ih y3 h => ?_) N (0) h
   rw [Qcu] at h
   skip
   refine wx tbk [] trivial ?_
   refine wsq ?_
   rcases bft ((decide (y3 < (p0.length : Int)))) with hc6 | hc6
   ·replace h := Qat hc6 h
    refine wft hc6 (by kernel_rfl) ?_
    refine Qam ?_
    refine thn ?_
    refine wsq ?_
    refine Qaj ?_
    refine wx tbk [] trivial ?_
    obtain ⟨x7, hg8, h⟩ := bno h
    obtain ⟨hi9, hj10⟩ := gsm hg8
    obtain ⟨x12, hf11, h⟩ := bno h
    refine wx tbk [(3, rp [(.tmp 12, (Qwv p0)), (.tmp 13, I y3)] (.dptr (Qal (x7)) 0)), (5, ⟨[(.tmp 11, Q0c), (.tmp 15, I x7)], [(0, Qnd)], B x12, [(0, Qnd)], false⟩)] ⟨aid rfl Tryz.underlying73 ti3 rfl rfl hi9 (mgt Qal hj10) rfl, Qah (first := []) (cap := [.ref 0 1 0 0]) (vs := [I x7]) (σr := [Qnd]) (σr' := [Qnd]) (res' := (B x12)) [0] rfl Qzk (Ql8 N x7 _ hf11) rfl (Qbc (rnc (.plain _ nll) (rnc (Qa2 rfl) rn0))) (slc (Qae (rnc (.plain _ (NLt.fn _ _ _ nl0 nl0)) rn0)) Qag) (slc (Qae (rnc (.plain _ (NLt.fn _ _ _ nl0 nl0)) rn0)) Qag) (.plain _ nll) rfl rfl rfl, trivial⟩ ?_
    rcases bft (x12) with hc13 | hc13
    ·replace h := Qat hc13 h
     refine wft hc13 (by kernel_rfl) ?_
     refine wx tbk [] trivial ?_
     refine wmr (mto (n := 19) (l' := [(4, I y3)]) (own' := [Qnd]) [(4, I y3)] [0] [Qnd] hφ0 (pc rwl pn) (qc (spb (lc (.rn (Qas rn0 rn0)) ln)) qn)) ?_
     refine Qaa ?_
     refine Qa3 ?_
     refine Qan ?_
     refine Qan ?_
     refine Qa3 ?_
     refine Qan ?_
     obtain rfl := osi h
     exact ⟨_, Mor.rfl, Qb7 (vs := [I y3]) ⟨rot (by kernel_rfl), trivial⟩ rfl (NLt.of0 nll) (by kernel_rfl) (Qaf (Qav (nlc (NLt.of0 (NLt.fn _ _ _ nl0 nl0)) nl0)) Qbd)⟩
    ·replace h := Qau hc13 h
     refine wfn hc13 (by kernel_rfl) ?_
     refine Qam ?_
     refine bln ?_
     refine thn ?_
     refine wx1 tbk [] trivial ?_
     refine thn ?_
     exact arm (mto (n := 19) [(0, (Qwv p0)), (1, Q0c), (7, (I ((p0.length : Int)))), (8, (I (w64 (y3 + 1))))] [0] [Qnd] hφ0 (pc (.rn (.plain _ (nld Qab _))) (pc (.rn (Qas rn0 (rnc (rqr rfl) rn0))) (pc rwl (pc rwl pn)))) (qc (spb (lc (.rn (Qas rn0 rn0)) ln)) qn)) (ih (w64 (y3 + 1)) h)
   ·replace h := Qau hc6 h
    refine wfn hc6 (by kernel_rfl) ?_
    refine Qbr ?_
    refine Qay ?_
    refine Qay ?_
    refine Qbq rfl ?_
    refine thn ?_
    exact ⟨(), h, (mto (n := 19) [] [0] [Qnd] hφ0 pn (qc (spb (lc (.rn (Qas rn0 rn0)) ln)) qn))⟩
def Qel (N : Nat) (p0 : (List Int)) : Option Bool :=
  (Qe4 N p0).bind fun x3 =>
  some (decide (x3 ≥ 0))
def Q9t (p0 : (List Int)) : AV := .dat 1 ((p0 : List Int).map Qal)
def Q9s : AV := .fn (.func 105) [] [(.ref 0 1 (0) 0)]
def Quo : Slot := .own 1 [[(.fn (.func 84) [] [])]]
theorem Qhy (N : Nat) (p0 : (List Int)) (r : Bool) (h : Qel N p0 = some r) : Spec Tryz.prog 104 [(Q9t p0), Q9s] [Quo] (B (r)) [Quo] := by
  refine Qac Tryz.func104 rfl 1 (nle rfl) (fun X φ0 w0 hφ0 hd0 => ?_)
  unfold Qel at h
  refine Qbh ?_
  refine wx tbk [] trivial ?_
  obtain ⟨x3, hf2, h⟩ := bno h
  refine wx tbk [(2, ⟨[fu 65, (.tmp 5, (Q9t p0)), (.tmp 6, Q9s)], [(0, Quo)], I x3, [(0, Quo)], false⟩)] ⟨Qah (first := []) (cap := []) (vs := [(Q9t p0), Q9s]) (σr := [Quo]) (σr' := [Quo]) (res' := (I x3)) [0] rfl Qxm (Qiz N p0 _ hf2) rfl (Qbc (rnc (.plain _ (nld Qab _)) (rnc (Qas rn0 (rnc (Qa2 rfl) rn0)) rn0))) (slc (Qae (rnc (.plain _ (NLt.fn _ _ _ nl0 nl0)) rn0)) Qag) (slc (Qae (rnc (.plain _ (NLt.fn _ _ _ nl0 nl0)) rn0)) Qag) (.plain _ nll) rfl rfl rfl, trivial⟩ ?_
  refine wmr (mto (n := 9) (l' := [(4, (B ((decide (x3 ≥ 0)))))]) (own' := [Quo]) [(4, (B ((decide (x3 ≥ 0)))))] [0] [Quo] hφ0 (pc rwl pn) (qc (spb (lc (.rn (Qas rn0 rn0)) ln)) qn)) ?_
  refine Qaa ?_
  obtain rfl := osi h
  exact ⟨_, Mor.rfl, Qb7 (vs := [(B ((decide (x3 ≥ 0))))]) ⟨rot (by kernel_rfl), trivial⟩ rfl (NLt.of0 nll) (by kernel_rfl) (Qaf (Qav (nlc (NLt.of0 (NLt.fn _ _ _ nl0 nl0)) nl0)) Qbd)⟩
def Qje (N : Nat) (p0 : (List Int)) : Option Bool :=
  (Qel N p0).bind fun x2 =>
  some (!x2)
def Q9v (p0 : (List Int)) : AV := .dat 1 ((p0 : List Int).map Qal)
def Q9u : AV := .fn (.func 105) [] [(.ref 0 1 (0) 0)]
def Q5q : Slot := .own 1 [[(.fn (.func 84) [] [])]]
theorem Qhk (N : Nat) (p0 : (List Int)) (r : Bool) (h : Qje N p0 = some r) : Spec Tryz.prog 83 [(Q9v p0), (.fn (.func 84) [] [])] [] (B (r)) [] := by
  refine Qac Tryz.func83 rfl 0 (nle rfl) (fun X φ0 w0 hφ0 hd0 => ?_)
  unfold Qje at h
  refine wx tbk [] trivial ?_
  obtain ⟨x2, hf1, h⟩ := bno h
  refine wx tbk [(1, rp [(.tmp 3, .ref 0 1 0 0)] Q9u), (2, ⟨[fu 104, (.tmp 5, (Q9v p0)), (.tmp 6, Q9u)], [(0, Q5q)], B x2, [(0, Q5q)], false⟩)] ⟨Qdd (fs := []) (cs := [.ref 0 1 0 0]) rfl rfl rfl rfl, Qah (first := []) (cap := []) (vs := [(Q9v p0), Q9u]) (σr := [Q5q]) (σr' := [Q5q]) (res' := (B x2)) [0] rfl Qzl (Qhy N p0 _ hf1) rfl (Qbc (rnc (.plain _ (nld Qab _)) (rnc (Qas rn0 (rnc (Qa2 rfl) rn0)) rn0))) (slc (Qae (rnc (.plain _ (NLt.fn _ _ _ nl0 nl0)) rn0)) Qag) (slc (Qae (rnc (.plain _ (NLt.fn _ _ _ nl0 nl0)) rn0)) Qag) (.plain _ nll) rfl rfl rfl, trivial⟩ ?_
  refine Qaa ?_
  obtain rfl := osi h
  exact fend ⟨[(B ((!x2)))], ⟨rot (by kernel_rfl), trivial⟩, rfl⟩ nll
def Qf7 (N : Nat) (p0 : GUnit) (p1 : (List Int)) (_p2 : (List GUnit)) : Option Bool :=
  (Qd6 N p0).bind fun x3 =>
  bif x3 then
   some (decide (p0.Inlet < (p1.length : Int)))
  else
   some false
def Q1x (p0 : GUnit) : AV := .agg [(I (p0.Inlet)), (.dat 2 ((p0.Parts : List GPart).map Qba))]
def Q0a (p1 : (List Int)) (p2 : (List GUnit)) : Slot := .own 2 [[(.dat 1 ((p1 : List Int).map Qal)), (.dat 2 ((p2 : List GUnit).map Qck))]]
theorem Qj9 (N : Nat) (p0 : GUnit) (p1 : (List Int)) (p2 : (List GUnit)) (r : Bool) (h : Qf7 N p0 p1 p2 = some r) : Spec Tryz.prog 86 [(Q1x p0), (.ref 0 2 (0) 0)] [(Q0a p1 p2)] (B (r)) [(Q0a p1 p2)] := by
  refine Qac Tryz.func86 rfl 1 (nle rfl) (fun X φ0 w0 hφ0 hd0 => ?_)
  unfold Qf7 at h
  refine Qbh ?_
  refine wx tbk [] trivial ?_
  obtain ⟨x3, hf2, h⟩ := bno h
  rcases bft (x3) with hb4 | hb4
  ·replace h := Qat hb4 h
   refine wx tbk [(1, rp [fu 53, (.tmp 4, (Q1x p0))] (B x3)), (2, rp [(.tmp 5, B x3)] (B true)), (7, rp [(.tmp 6, B true), (.tmp 10, (.dat 1 ((p1 : List Int).map Qal)))] (I ((p1.length : Int))))] ⟨apc (first := []) (cap := []) (vs := [(Q1x p0)]) rfl Qle (Qcx N p0 _ hf2) rfl rfl (nlc (NLt.agg _ (nlc nll (nlc (nld Qaq _) nl0))) nl0) nll rfl, asb hb4 (amv rfl), ag_ (alm (c := Qal) (l := p1) (aln rfl Tryz.underlying73 rfl)), trivial⟩ ?_
   refine wmr (mto (n := 14) (l' := [(3, (B ((decide (p0.Inlet < (p1.length : Int))))))]) (own' := [(Q0a p1 p2)]) [(3, (B ((decide (p0.Inlet < (p1.length : Int))))))] [0] [(Q0a p1 p2)] hφ0 (pc rwl pn) (qc (spb (lc (.rn (.plain _ (nld Qab _))) (lc (.rn (.plain _ (nld Qax _))) ln))) qn)) ?_
   refine Qaa ?_
   obtain rfl := osi h
   exact ⟨_, Mor.rfl, Qb7 (vs := [(B ((decide (p0.Inlet < (p1.length : Int)))))]) ⟨rot (by kernel_rfl), trivial⟩ rfl (NLt.of0 nll) (by kernel_rfl) (Qaf (Qav (nlc (NLt.of0 (nld Qab _)) (nlc (NLt.of0 (nld Qax _)) nl0))) Qbd)⟩
  ·replace h := Qau hb4 h
   refine wx tbk [(1, rp [fu 53, (.tmp 4, (Q1x p0))] (B x3)), (2, rp [(.tmp 5, B x3)] (B false))] ⟨apc (first := []) (cap := []) (vs := [(Q1x p0)]) rfl Qle (Qcx N p0 _ hf2) rfl rfl (nlc (NLt.agg _ (nlc nll (nlc (nld Qaq _) nl0))) nl0) nll rfl, asb hb4 (amv rfl), trivial⟩ ?_
   refine wmr (mto (n := 14) (l' := [(3, B false)]) (own' := [(Q0a p1 p2)]) [(3, B false)] [0] [(Q0a p1 p2)] hφ0 (pc rwl pn) (qc (spb (lc (.rn (.plain _ (nld Qab _))) (lc (.rn (.plain _ (nld Qax _))) ln))) qn)) ?_
   refine Qaa ?_
   obtain rfl := osi h
   exact ⟨_, Mor.rfl, Qb7 (vs := [B false]) ⟨rot (by kernel_rfl), trivial⟩ rfl (NLt.of0 nll) (by kernel_rfl) (Qaf (Qav (nlc (NLt.of0 (nld Qab _)) (nlc (NLt.of0 (nld Qax _)) nl0))) Qbd)⟩
def Qfp (N : Nat) (p0 : GUnit) (p1 : (List Int)) (p2 : (List GUnit)) : Option Bool :=
  (Qf7 N p0 p1 p2).bind fun x3 =>
  some (!x3)
def Q9n (p0 : GUnit) : AV := .agg [(I (p0.Inlet)), (.dat 2 ((p0.Parts : List GPart).map Qba))]
def Q1y : AV := .fn (.func 86) [] [(.ref 1 2 (0) 0)]
def Quk (p1 : (List Int)) (p2 : (List GUnit)) : Slot := .own 2 [[(.dat 1 ((p1 : List Int).map Qal)), (.dat 2 ((p2 : List GUnit).map Qck))]]
theorem Qjp (N : Nat) (p0 : GUnit) (p1 : (List Int)) (p2 : (List GUnit)) (r : Bool) (h : Qfp N p0 p1 p2 = some r) : Spec Tryz.prog 107 [(Q9n p0), (.ref 0 1 (0) 0)] [(.own 1 [[Q1y]]), (Quk p1 p2)] (B (r)) [(.own 1 [[Q1y]]), (Quk p1 p2)] := by
  refine Qac Tryz.func107 rfl 2 (nle rfl) (fun X φ0 w0 hφ0 hd0 => ?_)
  unfold Qfp at h
  refine Qbh ?_
  refine wx tbk [] trivial ?_
  obtain ⟨x3, hf2, h⟩ := bno h
  refine wx tbk [(2, ⟨[(.tmp 4, Q1y), (.tmp 5, (Q9n p0))], [(1, (Quk p1 p2))], B x3, [(1, (Quk p1 p2))], false⟩)] ⟨Qah (first := []) (cap := [.ref 1 2 0 0]) (vs := [(Q9n p0)]) (σr := [(Quk p1 p2)]) (σr' := [(Quk p1 p2)]) (res' := (B x3)) [1] rfl Zbq (Qj9 N p0 p1 p2 _ hf2) rfl (Qbc (rnc (.plain _ (NLt.agg _ (nlc nll (nlc (nld Qaq _) nl0)))) (rnc (Qa2 rfl) rn0))) (slc (Qae (rnc (.plain _ (nld Qab _)) (rnc (.plain _ (nld Qax _)) rn0))) Qag) (slc (Qae (rnc (.plain _ (nld Qab _)) (rnc (.plain _ (nld Qax _)) rn0))) Qag) (.plain _ nll) rfl rfl rfl, trivial⟩ ?_
  refine wmr (mto (n := 8) (l' := [(3, (B ((!x3))))]) (own' := [(.own 1 [[Q1y]]), (Quk p1 p2)]) [(3, (B ((!x3))))] [0, 1] [(.own 1 [[Q1y]]), (Quk p1 p2)] hφ0 (pc rwl pn) (qc (spb (lc (.rn (Qas rn0 (rnc (rqr rfl) rn0))) ln)) (qc (spb (lc (.rn (.plain _ (nld Qab _))) (lc (.rn (.plain _ (nld Qax _))) ln))) qn))) ?_
  refine Qaa ?_
  obtain rfl := osi h
  exact ⟨_, Mor.rfl, Qb7 (vs := [(B ((!x3)))]) ⟨rot (by kernel_rfl), trivial⟩ rfl (NLt.of0 nll) (by kernel_rfl) (Qaf (Qav (nlc (NLt.fn _ _ _ nl0 (nlc (NLt.ref _ _ _ _ (by decide)) nl0)) nl0)) (Qaf (Qav (nlc (NLt.of0 (nld Qab _)) (nlc (NLt.of0 (nld Qax _)) nl0))) Qbd))⟩
def Qbo (N : Nat) (p0 : (List GUnit)) (p1 : (List Int)) (k2 : Unit → Option Int) (p2 : (List GUnit)) : Nat → Int → Option Int
  | 0, _ => none
  | n5 + 1, y3 =>
    bif (decide (y3 < (p0.length : Int))) then
     (getI p0 y3).bind fun x7 =>
     (Qfp N x7 p1 p2).bind fun x12 =>
     bif x12 then
      some y3
     else
      Qbo N p0 p1 k2 p2 n5 (w64 (y3 + 1))
    else
     k2 ()
def Qc8 (N : Nat) (p0 : (List GUnit)) (p1 : (List Int)) (p2 : (List GUnit)) : Option Int :=
  Qc5 (fun _ =>
    some (-1)) fun k2 : Unit → Option Int =>
  Qbo N p0 p1 k2 p2 N 0
def Qwu (p0 : (List GUnit)) : AV := .dat 2 ((p0 : List GUnit).map Qck)
def Q0b : AV := .fn (.func 107) [] [(.ref 0 1 (0) 0)]
def Qnc : AV := .fn (.func 86) [] [(.ref 1 2 (0) 0)]
def Qnb (p1 : (List Int)) (p2 : (List GUnit)) : Slot := .own 2 [[(.dat 1 ((p1 : List Int).map Qal)), (.dat 2 ((p2 : List GUnit).map Qck))]]
theorem Qf3 (N : Nat) (p0 : (List GUnit)) (p1 : (List Int)) (p2 : (List GUnit)) (r : Int) (h : Qc8 N p0 p1 p2 = some r) : Spec Tryz.prog 117 [(Qwu p0), Q0b] [(.own 1 [[Qnc]]), (Qnb p1 p2)] (I (r)) [(.own 1 [[Qnc]]), (Qnb p1 p2)] := by
  refine Qac Tryz.func117 rfl 2 (nle rfl) (fun X φ0 w0 hφ0 hd0 => ?_)
  unfold Qc8 at h
  refine Qbh ?_
  refine wx tbk [] trivial ?_
  obtain ⟨k2, hk_k2, h⟩ := jko h
  refine wjn (τ := Unit) (fun t => k2 t = some r) (fun _ => ⟨mk 19 [], [(.own 1 [[Qnc]]), (Qnb p1 p2)]⟩) (fun t h => ?_) ?_
  ·subst hk_k2
   refine wx tbk [] trivial ?_
   refine wmr (mto (n := 19) (l' := [(4, (I ((-1))))]) (own' := [(.own 1 [[Qnc]]), (Qnb p1 p2)]) [(4, (I ((-1))))] [0, 1] [(.own 1 [[Qnc]]), (Qnb p1 p2)] hφ0 (pc rwl pn) (qc (spb (lc (.rn (Qas rn0 (rnc (rqr rfl) rn0))) ln)) (qc (spb (lc (.rn (.plain _ (nld Qab _))) (lc (.rn (.plain _ (nld Qax _))) ln))) qn))) ?_
   refine Qaa ?_
   obtain rfl := osi h
   exact ⟨_, Mor.rfl, Qb7 (vs := [(I ((-1)))]) ⟨rot (by kernel_rfl), trivial⟩ rfl (NLt.of0 nll) (by kernel_rfl) (Qaf (Qav (nlc (NLt.fn _ _ _ nl0 (nlc (NLt.ref _ _ _ _ (by decide)) nl0)) nl0)) (Qaf (Qav (nlc (NLt.of0 (nld Qab _)) (nlc (NLt.of0 (nld Qax _)) nl0))) Qbd))⟩
  ·skip
   refine wx tbk [(1, rp [(.tmp 6, (Qwu p0))] (I ((p0.length : Int))))] ⟨alm (c := Qck) (l := p0) (aln rfl Tryz.underlying74 rfl), trivial⟩ ?_
   refine Qaj ?_
   refine wmr (mto (n := 19) (l' := [(0, (Qwu p0)), (1, Q0b), (7, (I ((p0.length : Int)))), (8, I 0)]) (own' := [(.own 1 [[Qnc]]), (Qnb p1 p2)]) [(0, (Qwu p0)), (1, Q0b), (7, (I ((p0.length : Int)))), (8, I 0)] [0, 1] [(.own 1 [[Qnc]]), (Qnb p1 p2)] hφ0 (pc (.rn (.plain _ (nld Qax _))) (pc (.rn (Qas rn0 (rnc (rqr rfl) rn0))) (pc rwl (pc rwl pn)))) (qc (spb (lc (.rn (Qas rn0 (rnc (rqr rfl) rn0))) ln)) (qc (spb (lc (.rn (.plain _ (nld Qab _))) (lc (.rn (.plain _ (nld Qax _))) ln))) qn))) ?_
   refine Qcl (τ := Int) (fun n t => Qbo N p0 p1 k2 p2 n t = some r) (fun y3 => ⟨mk 19 [(0, (Qwu p0)), (1, Q0b), (7, (I ((p0.length : Int)))), (8, I y3)], [(.own 1 [[Qnc]]), (Qnb p1 p2)]⟩) (fun t h => by rw [Qbo] at h; cases h) (fun n5 ih y3 h => ?_) N (0) h
   rw [Qbo] at h
   skip
   refine wx tbk [] trivial ?_
   refine wsq ?_
   rcases bft ((decide (y3 < (p0.length : Int)))) with hc6 | hc6
   ·replace h := Qat hc6 h
    refine wft hc6 (by kernel_rfl) ?_
    refine Qam ?_
    refine thn ?_
    refine wsq ?_
    refine Qaj ?_
    refine wx tbk [] trivial ?_
    obtain ⟨x7, hg8, h⟩ := bno h
    obtain ⟨hi9, hj10⟩ := gsm hg8
    obtain ⟨x12, hf11, h⟩ := bno h
    refine wx tbk [(3, rp [(.tmp 12, (Qwu p0)), (.tmp 13, I y3)] (.dptr (Qck (x7)) 0)), (5, ⟨[(.tmp 11, Q0b), (.tmp 15, (.agg [I x7.Inlet, (.dat 2 ((x7.Parts : List GPart).map Qba))]))], [(0, .own 1 [[Qnc]]), (1, (Qnb p1 p2))], B x12, [(0, .own 1 [[Qnc]]), (1, (Qnb p1 p2))], false⟩)] ⟨aid rfl Tryz.underlying74 ti45 rfl rfl hi9 (mgt Qck hj10) rfl, Qah (first := []) (cap := [.ref 0 1 0 0]) (vs := [(.agg [I x7.Inlet, (.dat 2 ((x7.Parts : List GPart).map Qba))])]) (σr := [(.own 1 [[Qnc]]), (Qnb p1 p2)]) (σr' := [(.own 1 [[Qnc]]), (Qnb p1 p2)]) (res' := (B x12)) [0, 1] rfl Q67 (Qjp N x7 p1 p2 _ hf11) rfl (Qbc (rnc (.plain _ (NLt.agg _ (nlc nll (nlc (nld Qaq _) nl0)))) (rnc (Qa2 rfl) rn0))) (slc (Qae (rnc (Qas rn0 (rnc (Qa2 rfl) rn0)) rn0)) (slc (Qae (rnc (.plain _ (nld Qab _)) (rnc (.plain _ (nld Qax _)) rn0))) Qag)) (slc (Qae (rnc (Qas rn0 (rnc (Qb3 rfl) rn0)) rn0)) (slc (Qae (rnc (.plain _ (nld Qab _)) (rnc (.plain _ (nld Qax _)) rn0))) Qag)) (.plain _ nll) rfl rfl rfl, trivial⟩ ?_
    rcases bft (x12) with hc13 | hc13
    ·replace h := Qat hc13 h
     refine wft hc13 (by kernel_rfl) ?_
     refine wx tbk [] trivial ?_
     refine wmr (mto (n := 19) (l' := [(4, I y3)]) (own' := [(.own 1 [[Qnc]]), (Qnb p1 p2)]) [(4, I y3)] [0, 1] [(.own 1 [[Qnc]]), (Qnb p1 p2)] hφ0 (pc rwl pn) (qc (spb (lc (.rn (Qas rn0 (rnc (rqr rfl) rn0))) ln)) (qc (spb (lc (.rn (.plain _ (nld Qab _))) (lc (.rn (.plain _ (nld Qax _))) ln))) qn))) ?_
     refine Qaa ?_
     refine Qa3 ?_
     refine Qan ?_
     refine Qan ?_
     refine Qa3 ?_
     refine Qan ?_
     obtain rfl := osi h
     exact ⟨_, Mor.rfl, Qb7 (vs := [I y3]) ⟨rot (by kernel_rfl), trivial⟩ rfl (NLt.of0 nll) (by kernel_rfl) (Qaf (Qav (nlc (NLt.fn _ _ _ nl0 (nlc (NLt.ref _ _ _ _ (by decide)) nl0)) nl0)) (Qaf (Qav (nlc (NLt.of0 (nld Qab _)) (nlc (NLt.of0 (nld Qax _)) nl0))) Qbd))⟩
    ·replace h := Qau hc13 h
     refine wfn hc13 (by kernel_rfl) ?_
     refine Qam ?_
     refine bln ?_
     refine thn ?_
     refine wx1 tbk [] trivial ?_
     refine thn ?_
     exact arm (mto (n := 19) [(0, (Qwu p0)), (1, Q0b), (7, (I ((p0.length : Int)))), (8, (I (w64 (y3 + 1))))] [0, 1] [(.own 1 [[Qnc]]), (Qnb p1 p2)] hφ0 (pc (.rn (.plain _ (nld Qax _))) (pc (.rn (Qas rn0 (rnc (rqr rfl) rn0))) (pc rwl (pc rwl pn)))) (qc (spb (lc (.rn (Qas rn0 (rnc (rqr rfl) rn0))) ln)) (qc (spb (lc (.rn (.plain _ (nld Qab _))) (lc (.rn (.plain _ (nld Qax _))) ln))) qn))) (ih (w64 (y3 + 1)) h)
   ·replace h := Qau hc6 h
    refine wfn hc6 (by kernel_rfl) ?_
    refine Qbr ?_
    refine Qay ?_
    refine Qay ?_
    refine Qbq rfl ?_
    refine thn ?_
    exact ⟨(), h, (mto (n := 19) [] [0, 1] [(.own 1 [[Qnc]]), (Qnb p1 p2)] hφ0 pn (qc (spb (lc (.rn (Qas rn0 (rnc (rqr rfl) rn0))) ln)) (qc (spb (lc (.rn (.plain _ (nld Qab _))) (lc (.rn (.plain _ (nld Qax _))) ln))) qn)))⟩
def Qc2 (N : Nat) (p0 : (List GUnit)) (p1 : (List Int)) (p2 : (List GUnit)) : Option Bool :=
  (Qc8 N p0 p1 p2).bind fun x3 =>
  some (decide (x3 ≥ 0))
def Q9p (p0 : (List GUnit)) : AV := .dat 2 ((p0 : List GUnit).map Qck)
def Q9o : AV := .fn (.func 107) [] [(.ref 0 1 (0) 0)]
def Qum : AV := .fn (.func 86) [] [(.ref 1 2 (0) 0)]
def Qul (p1 : (List Int)) (p2 : (List GUnit)) : Slot := .own 2 [[(.dat 1 ((p1 : List Int).map Qal)), (.dat 2 ((p2 : List GUnit).map Qck))]]
theorem Qfm (N : Nat) (p0 : (List GUnit)) (p1 : (List Int)) (p2 : (List GUnit)) (r : Bool) (h : Qc2 N p0 p1 p2 = some r) : Spec Tryz.prog 106 [(Q9p p0), Q9o] [(.own 1 [[Qum]]), (Qul p1 p2)] (B (r)) [(.own 1 [[Qum]]), (Qul p1 p2)] := by
  refine Qac Tryz.func106 rfl 2 (nle rfl) (fun X φ0 w0 hφ0 hd0 => ?_)
  unfold Qc2 at h
  refine Qbh ?_
  refine wx tbk [] trivial ?_
  obtain ⟨x3, hf2, h⟩ := bno h
  refine wx tbk [(2, ⟨[fu 117, (.tmp 5, (Q9p p0)), (.tmp 6, Q9o)], [(0, .own 1 [[Qum]]), (1, (Qul p1 p2))], I x3, [(0, .own 1 [[Qum]]), (1, (Qul p1 p2))], false⟩)] ⟨Qah (first := []) (cap := []) (vs := [(Q9p p0), Q9o]) (σr := [(.own 1 [[Qum]]), (Qul p1 p2)]) (σr' := [(.own 1 [[Qum]]), (Qul p1 p2)]) (res' := (I x3)) [0, 1] rfl Q6z (Qf3 N p0 p1 p2 _ hf2) rfl (Qbc (rnc (.plain _ (nld Qax _)) (rnc (Qas rn0 (rnc (Qa2 rfl) rn0)) rn0))) (slc (Qae (rnc (Qas rn0 (rnc (Qa2 rfl) rn0)) rn0)) (slc (Qae (rnc (.plain _ (nld Qab _)) (rnc (.plain _ (nld Qax _)) rn0))) Qag)) (slc (Qae (rnc (Qas rn0 (rnc (Qb3 rfl) rn0)) rn0)) (slc (Qae (rnc (.plain _ (nld Qab _)) (rnc (.plain _ (nld Qax _)) rn0))) Qag)) (.plain _ nll) rfl rfl rfl, trivial⟩ ?_
  refine wmr (mto (n := 9) (l' := [(4, (B ((decide (x3 ≥ 0)))))]) (own' := [(.own 1 [[Qum]]), (Qul p1 p2)]) [(4, (B ((decide (x3 ≥ 0)))))] [0, 1] [(.own 1 [[Qum]]), (Qul p1 p2)] hφ0 (pc rwl pn) (qc (spb (lc (.rn (Qas rn0 (rnc (rqr rfl) rn0))) ln)) (qc (spb (lc (.rn (.plain _ (nld Qab _))) (lc (.rn (.plain _ (nld Qax _))) ln))) qn))) ?_
  refine Qaa ?_
  obtain rfl := osi h
  exact ⟨_, Mor.rfl, Qb7 (vs := [(B ((decide (x3 ≥ 0))))]) ⟨rot (by kernel_rfl), trivial⟩ rfl (NLt.of0 nll) (by kernel_rfl) (Qaf (Qav (nlc (NLt.fn _ _ _ nl0 (nlc (NLt.ref _ _ _ _ (by decide)) nl0)) nl0)) (Qaf (Qav (nlc (NLt.of0 (nld Qab _)) (nlc (NLt.of0 (nld Qax _)) nl0))) Qbd))⟩
def Qf8 (N : Nat) (p0 : (List GUnit)) (p1 : (List Int)) (p2 : (List GUnit)) : Option Bool :=
  (Qc2 N p0 p1 p2).bind fun x3 =>
  some (!x3)
def Q9r (p0 : (List GUnit)) : AV := .dat 2 ((p0 : List GUnit).map Qck)
def Q1z : AV := .fn (.func 86) [] [(.ref 0 2 (0) 0)]
def Qun (p1 : (List Int)) (p2 : (List GUnit)) : Slot := .own 2 [[(.dat 1 ((p1 : List Int).map Qal)), (.dat 2 ((p2 : List GUnit).map Qck))]]
def Q9q : AV := .fn (.func 107) [] [(.ref 1 1 (0) 0)]
theorem Qka (N : Nat) (p0 : (List GUnit)) (p1 : (List Int)) (p2 : (List GUnit)) (r : Bool) (h : Qf8 N p0 p1 p2 = some r) : Spec Tryz.prog 85 [(Q9r p0), Q1z] [(Qun p1 p2)] (B (r)) [(Qun p1 p2)] := by
  refine Qac Tryz.func85 rfl 1 (nle rfl) (fun X φ0 w0 hφ0 hd0 => ?_)
  unfold Qf8 at h
  refine Qbh ?_
  refine wx tbk [] trivial ?_
  obtain ⟨x3, hf2, h⟩ := bno h
  refine wx tbk [(1, rp [(.tmp 3, .ref 1 1 0 0)] Q9q), (2, ⟨[fu 106, (.tmp 5, (Q9r p0)), (.tmp 6, Q9q)], [(1, .own 1 [[Q1z]]), (0, (Qun p1 p2))], B x3, [(1, .own 1 [[Q1z]]), (0, (Qun p1 p2))], false⟩)] ⟨Qdd (fs := []) (cs := [.ref 1 1 0 0]) rfl rfl rfl rfl, Qah (first := []) (cap := []) (vs := [(Q9r p0), Q9q]) (σr := [(.own 1 [[Q1z]]), (Qun p1 p2)]) (σr' := [(.own 1 [[Q1z]]), (Qun p1 p2)]) (res' := (B x3)) [1, 0] rfl Q68 (Qfm N p0 p1 p2 _ hf2) rfl (Qbc (rnc (.plain _ (nld Qax _)) (rnc (Qas rn0 (rnc (Qa2 rfl) rn0)) rn0))) (slc (Qae (rnc (Qas rn0 (rnc (Qa2 rfl) rn0)) rn0)) (slc (Qae (rnc (.plain _ (nld Qab _)) (rnc (.plain _ (nld Qax _)) rn0))) Qag)) (slc (Qae (rnc (Qas rn0 (rnc (Qb3 rfl) rn0)) rn0)) (slc (Qae (rnc (.plain _ (nld Qab _)) (rnc (.plain _ (nld Qax _)) rn0))) Qag)) (.plain _ nll) rfl rfl rfl, trivial⟩ ?_
  refine wmr (mto (n := 9) (l' := [(4, (B ((!x3))))]) (own' := [(Qun p1 p2)]) [(4, (B ((!x3))))] [0] [(Qun p1 p2)] hφ0 (pc rwl pn) (qc (spb (lc (.rn (.plain _ (nld Qab _))) (lc (.rn (.plain _ (nld Qax _))) ln))) qn)) ?_
  refine Qaa ?_
  obtain rfl := osi h
  exact ⟨_, Mor.rfl, Qb7 (vs := [(B ((!x3)))]) ⟨rot (by kernel_rfl), trivial⟩ rfl (NLt.of0 nll) (by kernel_rfl) (Qaf (Qav (nlc (NLt.of0 (nld Qab _)) (nlc (NLt.of0 (nld Qax _)) nl0))) Qbd)⟩
def Qhj (N : Nat) (p0 : GShared) : Option Bool :=
  (Qbb N (p0.heads.length : Int) 1 6).bind fun x2 =>
  bif x2 then
   (Qje N p0.heads).bind fun x5 =>
   bif x5 then
    (Qbb N (p0.units.length : Int) 1 10).bind fun x8 =>
    bif x8 then
     (Qf8 N p0.units p0.heads p0.units).bind fun x11 =>
     some x11
    else
     some false
   else
    some false
  else
   some false
def Qqd (p0 : GShared) : AV := .dat 1 ((p0.heads : List Int).map Qal)
def Q10 (p0 : GShared) : AV := .dat 2 ((p0.units : List GUnit).map Qck)
def Q9w : AV := .fn (.func 86) [] [(.ref 0 2 (0) 0)]
def Q5r (p0 : GShared) : Slot := .own 2 [[(Qqd p0), (Q10 p0)]]
theorem Qll (N : Nat) (p0 : GShared) (r : Bool) (h : Qhj N p0 = some r) : Spec Tryz.prog 59 [(.agg (Qrd p0))] [] (B r) [] := by
  refine Qac Tryz.func59 rfl 0 (nle rfl) (fun X φ0 w0 hφ0 hd0 => ?_)
  unfold Qhj at h
  refine wx tbk [] trivial ?_
  obtain ⟨x2, hf1, h⟩ := bno h
  rcases bft (x2) with hb3 | hb3
  ·replace h := Qat hb3 h
   obtain ⟨x5, hf4, h⟩ := bno h
   rcases bft (x5) with hb6 | hb6
   ·replace h := Qat hb6 h
    obtain ⟨x8, hf7, h⟩ := bno h
    rcases bft (x8) with hb9 | hb9
    ·replace h := Qat hb9 h
     obtain ⟨x11, hf10, h⟩ := bno h
     refine wx tbk [(2, rp [(.tmp 4, (Qqd p0))] (I ((p0.heads.length : Int)))), (3, rp [fu 56, (.tmp 5, (I ((p0.heads.length : Int)))), ci 1, ci 6] (B x2)), (4, rp [(.tmp 6, B x2)] (B true)), (7, rp [(.tmp 7, B true), fu 83, (.tmp 9, (Qqd p0)), fu 84] (B x5)), (9, rp [(.tmp 11, B x5)] (B true)), (12, rp [(.tmp 12, B true), (.tmp 14, (Q10 p0))] (I ((p0.units.length : Int)))), (13, rp [(.tmp 12, B true), fu 56, (.tmp 15, (I ((p0.units.length : Int)))), ci 1, ci 10] (B x8)), (15, rp [(.tmp 17, B x8)] (B true)), (18, rp [(.tmp 18, B true), (.tmp 1, .ref 0 2 0 0)] Q9w), (19, ⟨[(.tmp 18, B true), fu 85, (.tmp 20, (Q10 p0)), (.tmp 21, Q9w)], [(0, (Q5r p0))], B x11, [(0, (Q5r p0))], false⟩)] ⟨alm (c := Qal) (l := p0.heads) (aln rfl Tryz.underlying73 rfl), apc (first := []) (cap := []) (vs := [(I ((p0.heads.length : Int))), I 1, I 6]) rfl Qbs (Qad N (p0.heads.length : Int) 1 6 _ hf1) rfl rfl (nlc nll (nlc nll (nlc nll nl0))) nll rfl, asb hb3 (amv rfl), ag_ (Qah (first := []) (cap := []) (vs := [(Qqd p0), (.fn (.func 84) [] [])]) (σr := []) (σr' := []) (res' := (B x5)) [] rfl Qld (Qhk N p0.heads _ hf4) rfl (Qbc (rnc (.plain _ (nld Qab _)) (rnc (.plain _ (NLt.fn _ _ _ nl0 nl0)) rn0))) Qag Qag (.plain _ nll) rfl rfl rfl), asb hb6 (amv rfl), ag_ (alm (c := Qck) (l := p0.units) (aln rfl Tryz.underlying74 rfl)), ag_ (apc (first := []) (cap := []) (vs := [(I ((p0.units.length : Int))), I 1, I 10]) rfl Qbs (Qad N (p0.units.length : Int) 1 10 _ hf7) rfl rfl (nlc nll (nlc nll (nlc nll nl0))) nll rfl), asb hb9 (amv rfl), ag_ (Qdd (fs := []) (cs := [.ref 0 2 0 0]) rfl rfl rfl rfl), ag_ (Qah (first := []) (cap := []) (vs := [(Q10 p0), Q9w]) (σr := [(Q5r p0)]) (σr' := [(Q5r p0)]) (res' := (B x11)) [0] rfl Zbr (Qka N p0.units p0.heads p0.units _ hf10) rfl (Qbc (rnc (.plain _ (nld Qax _)) (rnc (Qas rn0 (rnc (Qa2 rfl) rn0)) rn0))) (slc (Qae (rnc (.plain _ (nld Qab _)) (rnc (.plain _ (nld Qax _)) rn0))) Qag) (slc (Qae (rnc (.plain _ (nld Qab _)) (rnc (.plain _ (nld Qax _)) rn0))) Qag) (.plain _ nll) rfl rfl rfl), trivial⟩ ?_
     refine Qaa ?_
     obtain rfl := osi h
     exact fend ⟨[B x11], ⟨rot (by kernel_rfl), trivial⟩, rfl⟩ nll
    ·replace h := Qau hb9 h
     refine wx tbk [(2, rp [(.tmp 4, (Qqd p0))] (I ((p0.heads.length : Int)))), (3, rp [fu 56, (.tmp 5, (I ((p0.heads.length : Int)))), ci 1, ci 6] (B x2)), (4, rp [(.tmp 6, B x2)] (B true)), (7, rp [(.tmp 7, B true), fu 83, (.tmp 9, (Qqd p0)), fu 84] (B x5)), (9, rp [(.tmp 11, B x5)] (B true)), (12, rp [(.tmp 12, B true), (.tmp 14, (Q10 p0))] (I ((p0.units.length : Int)))), (13, rp [(.tmp 12, B true), fu 56, (.tmp 15, (I ((p0.units.length : Int)))), ci 1, ci 10] (B x8)), (15, rp [(.tmp 17, B x8)] (B false))] ⟨alm (c := Qal) (l := p0.heads) (aln rfl Tryz.underlying73 rfl), apc (first := []) (cap := []) (vs := [(I ((p0.heads.length : Int))), I 1, I 6]) rfl Qbs (Qad N (p0.heads.length : Int) 1 6 _ hf1) rfl rfl (nlc nll (nlc nll (nlc nll nl0))) nll rfl, asb hb3 (amv rfl), ag_ (Qah (first := []) (cap := []) (vs := [(Qqd p0), (.fn (.func 84) [] [])]) (σr := []) (σr' := []) (res' := (B x5)) [] rfl Qld (Qhk N p0.heads _ hf4) rfl (Qbc (rnc (.plain _ (nld Qab _)) (rnc (.plain _ (NLt.fn _ _ _ nl0 nl0)) rn0))) Qag Qag (.plain _ nll) rfl rfl rfl), asb hb6 (amv rfl), ag_ (alm (c := Qck) (l := p0.units) (aln rfl Tryz.underlying74 rfl)), ag_ (apc (first := []) (cap := []) (vs := [(I ((p0.units.length : Int))), I 1, I 10]) rfl Qbs (Qad N (p0.units.length : Int) 1 10 _ hf7) rfl rfl (nlc nll (nlc nll (nlc nll nl0))) nll rfl), asb hb9 (amv rfl), trivial⟩ ?_
     refine Qaa ?_
     obtain rfl := osi h
     exact fend ⟨[B false], ⟨rot (by kernel_rfl), trivial⟩, rfl⟩ nll
   ·replace h := Qau hb6 h
    refine wx tbk [(2, rp [(.tmp 4, (Qqd p0))] (I ((p0.heads.length : Int)))), (3, rp [fu 56, (.tmp 5, (I ((p0.heads.length : Int)))), ci 1, ci 6] (B x2)), (4, rp [(.tmp 6, B x2)] (B true)), (7, rp [(.tmp 7, B true), fu 83, (.tmp 9, (Qqd p0)), fu 84] (B x5)), (9, rp [(.tmp 11, B x5)] (B false))] ⟨alm (c := Qal) (l := p0.heads) (aln rfl Tryz.underlying73 rfl), apc (first := []) (cap := []) (vs := [(I ((p0.heads.length : Int))), I 1, I 6]) rfl Qbs (Qad N (p0.heads.length : Int) 1 6 _ hf1) rfl rfl (nlc nll (nlc nll (nlc nll nl0))) nll rfl, asb hb3 (amv rfl), ag_ (Qah (first := []) (cap := []) (vs := [(Qqd p0), (.fn (.func 84) [] [])]) (σr := []) (σr' := []) (res' := (B x5)) [] rfl Qld (Qhk N p0.heads _ hf4) rfl (Qbc (rnc (.plain _ (nld Qab _)) (rnc (.plain _ (NLt.fn _ _ _ nl0 nl0)) rn0))) Qag Qag (.plain _ nll) rfl rfl rfl), asb hb6 (amv rfl), trivial⟩ ?_
    refine Qaa ?_
    obtain rfl := osi h
    exact fend ⟨[B false], ⟨rot (by kernel_rfl), trivial⟩, rfl⟩ nll
  ·replace h := Qau hb3 h
   refine wx tbk [(2, rp [(.tmp 4, (Qqd p0))] (I ((p0.heads.length : Int)))), (3, rp [fu 56, (.tmp 5, (I ((p0.heads.length : Int)))), ci 1, ci 6] (B x2)), (4, rp [(.tmp 6, B x2)] (B false))] ⟨alm (c := Qal) (l := p0.heads) (aln rfl Tryz.underlying73 rfl), apc (first := []) (cap := []) (vs := [(I ((p0.heads.length : Int))), I 1, I 6]) rfl Qbs (Qad N (p0.heads.length : Int) 1 6 _ hf1) rfl rfl (nlc nll (nlc nll (nlc nll nl0))) nll rfl, asb hb3 (amv rfl), trivial⟩ ?_
   refine Qaa ?_
   obtain rfl := osi h
   exact fend ⟨[B false], ⟨rot (by kernel_rfl), trivial⟩, rfl⟩ nll
def Qd1 (N : Nat) (p0 : GShared) (p1 : (List Int)) (k2 : Int → Option Int) : Nat → Int → Int → Option Int
  | 0, _, _ => none
  | n7 + 1, y3, y4 =>
    bif (decide (y4 < (p1.length : Int))) then
     (getI p1 y4).bind fun x9 =>
     (getI p0.units y4).bind fun x13 =>
     (Qeg N x13 x9).bind fun x18 =>
     Qd1 N p0 p1 k2 n7 (w64 (y3 + x18)) (w64 (y4 + 1))
    else
     k2 (y3)
def Qh0 (N : Nat) (p0 : GShared) (p1 : (List Int)) : Option Int :=
  Qc5 (fun y1 =>
    some y1) fun k2 : Int → Option Int =>
  Qd1 N p0 p1 k2 N 0 0
def Qz9 (p1 : (List Int)) : AV := .dat 1 ((p1 : List Int).map Qal)
def Zdp (p0 : GShared) : AV := .dat 2 ((p0.units : List GUnit).map Qck)
def Q5o (p0 : GShared) : Slot := .own 2 [[(.dat 1 ((p0.heads : List Int).map Qal)), (Zdp p0)]]
theorem Ql5 (N : Nat) (p0 : GShared) (p1 : (List Int)) (r : Int) (h : Qh0 N p0 p1 = some r) : Spec Tryz.prog 61 [(.agg (Qrd p0)), (.dat 1 (p1.map Qal))] [] (I r) [] := by
  refine Qac Tryz.func61 rfl 0 (nle rfl) (fun X φ0 w0 hφ0 hd0 => ?_)
  unfold Qh0 at h
  refine wx tbk [] trivial ?_
  obtain ⟨k2, hk_k2, h⟩ := jko h
  refine wjn (τ := Int) (fun t => k2 t = some r) (fun y1 => ⟨mk 25 [(4, I y1)], []⟩) (fun y1 h => ?_) ?_
  ·subst hk_k2
   refine wx tbk [] trivial ?_
   refine Qaa ?_
   obtain rfl := osi h
   exact fend ⟨[I y1], ⟨rot (by kernel_rfl), trivial⟩, rfl⟩ nll
  ·skip
   refine wx tbk [(1, rp [(.tmp 7, (Qz9 p1))] (I ((p1.length : Int))))] ⟨alm (c := Qal) (l := p1) (aln rfl Tryz.underlying73 rfl), trivial⟩ ?_
   refine Qaj ?_
   refine wmr (mto (n := 25) (l' := [(2, .ref 0 2 0 0), (4, I 0), (7, (Qz9 p1)), (8, (I ((p1.length : Int)))), (9, I 0)]) (own' := [(Q5o p0)]) [(2, .ref 0 2 0 0), (4, I 0), (7, (Qz9 p1)), (8, (I ((p1.length : Int)))), (9, I 0)] [0] [(Q5o p0)] hφ0 (pc (.rn (rqr rfl)) (pc rwl (pc (.rn (.plain _ (nld Qab _))) (pc rwl (pc rwl pn))))) (qc (spb (lc (.rn (.plain _ (nld Qab _))) (lc (.rn (.plain _ (nld Qax _))) ln))) qn)) ?_
   refine Qcl (τ := Int × Int) (fun n t => Qd1 N p0 p1 k2 n t.1 t.2 = some r) (fun ⟨y3, y4⟩ => ⟨mk 25 [(2, .ref 0 2 0 0), (4, I y3), (7, (Qz9 p1)), (8, (I ((p1.length : Int)))), (9, I y4)], [(Q5o p0)]⟩) (fun t h => by rw [Qd1] at h; cases h) (fun n7 ih t h => ?_) N (0, 0) h
   obtain ⟨y3, y4⟩ := t
   rw [Qd1] at h
   skip
   refine wx tbk [] trivial ?_
   refine wsq ?_
   rcases bft ((decide (y4 < (p1.length : Int)))) with hc8 | hc8
   ·replace h := Qat hc8 h
    refine wft hc8 (by kernel_rfl) ?_
    refine Qam ?_
    refine thn ?_
    refine wsq ?_
    refine Qaj ?_
    obtain ⟨x9, hg10, h⟩ := bno h
    obtain ⟨hi11, hj12⟩ := gsm hg10
    refine wx tbk [(1, rp [(.tmp 7, (Qz9 p1)), (.tmp 9, I y4)] (.dptr (Qal (x9)) 0))] ⟨aid rfl Tryz.underlying73 ti3 rfl rfl hi11 (mgt Qal hj12) rfl, trivial⟩ ?_
    obtain ⟨x13, hg14, h⟩ := bno h
    obtain ⟨hi15, hj16⟩ := gsm hg14
    obtain ⟨x18, hf17, h⟩ := bno h
    refine wx1 tbk [(4, rp [(.tmp 16, (Zdp p0)), (.tmp 17, I y4)] (.dptr (Qck (x13)) 0)), (7, rp [fu 55, (.tmp 19, (.agg [I x13.Inlet, (.dat 2 ((x13.Parts : List GPart).map Qba))])), (.tmp 20, I x9)] (I x18))] ⟨aid rfl Tryz.underlying74 ti45 rfl rfl hi15 (mgt Qck hj16) rfl, apc (first := []) (cap := []) (vs := [(.agg [I x13.Inlet, (.dat 2 ((x13.Parts : List GPart).map Qba))]), I x9]) rfl Qxo (Qg7 N x13 x9 _ hf17) rfl rfl (nlc (NLt.agg _ (nlc nll (nlc (nld Qaq _) nl0))) (nlc nll nl0)) nll rfl, trivial⟩ ?_
    refine bln ?_
    refine thn ?_
    refine wx1 tbk [] trivial ?_
    refine thn ?_
    exact arm (mto (n := 25) [(2, .ref 0 2 0 0), (4, (I (w64 (y3 + x18)))), (7, (Qz9 p1)), (8, (I ((p1.length : Int)))), (9, (I (w64 (y4 + 1))))] [0] [(Q5o p0)] hφ0 (pc (.rn (rqr rfl)) (pc rwl (pc (.rn (.plain _ (nld Qab _))) (pc rwl (pc rwl pn))))) (qc (spb (lc (.rn (.plain _ (nld Qab _))) (lc (.rn (.plain _ (nld Qax _))) ln))) qn)) (ih (w64 (y3 + x18), w64 (y4 + 1)) h)
   ·replace h := Qau hc8 h
    refine wfn hc8 (by kernel_rfl) ?_
    refine Qbr ?_
    refine Qay ?_
    refine Qay ?_
    refine Qbq rfl ?_
    refine thn ?_
    exact ⟨(y3), h, (mto (n := 25) [(4, I y3)] [] [] hφ0 (pc rwl pn) qn)⟩
def Qfl (N : Nat) (p0 : (List Int)) (y7 : (List Int)) (k10 : (List Int) → Option ((List Int) × Int × (List Int) × Int)) : Nat → (List Int) → Int → Int → Option ((List Int) × Int × (List Int) × Int)
  | 0, _, _, _ => none
  | n19 + 1, y13, y14, y15 =>
    bif (decide (y15 < (((p0.length : Int).toNat : Nat) : Int))) then
     chk (decide (0 ≤ y15) && decide (y15.toNat < (p0.length : Int).toNat)) <|
     (y7[y15.toNat]?).bind fun x22 =>
     chk (decide ((y13.length + ([w64 (x22 - y14)]).length) * 8 ≤ 140737488355328)) <|
     Qfl N p0 y7 k10 n19 (y13 ++ ([w64 (x22 - y14)])) x22 (w64 (y15 + 1))
    else
     k10 (y13)
def Qfj (N : Nat) (p0 : (List Int)) (k32 : (List Int) → Option ((List Int) × Int × (List Int) × Int)) (x37 : Int) : Nat → Int → (List Int) → Option ((List Int) × Int × (List Int) × Int)
  | 0, _, _ => none
  | n48 + 1, y44, y45 =>
    bif (decide (y44 < (((p0.length : Int).toNat : Nat) : Int))) then
     chk (decide (0 ≤ y44) && decide (y44.toNat < (p0.length : Int).toNat)) <|
     (y45[y44.toNat]?).bind fun x51 =>
     chk (decide (0 ≤ y44) && decide (y44.toNat < (p0.length : Int).toNat)) <|
     (y45[y44.toNat]?).bind fun _ =>
     Qfj N p0 k32 x37 n48 (w64 (y44 + 1)) (y45.set y44.toNat (if x37 > x51 then x37 else x51))
    else
     k32 (y45)
def Qfi (N : Nat) (x5 : ((List Int) × (List Int) × (List Int))) (k43 : Int → Option ((List Int) × Int × (List Int) × Int)) : Nat → Int → Option ((List Int) × Int × (List Int) × Int)
  | 0, _ => none
  | n58 + 1, y56 =>
    (getI x5.2.1 y56).bind fun x59 =>
    bif (decide (x59 > 0)) then
     Qfi N x5 k43 n58 (w64 (y56 - 1))
    else
     k43 (y56)
def Qfk (N : Nat) (p0 : (List Int)) (p1 : (List GUnit)) (x5 : ((List Int) × (List Int) × (List Int))) (k8 : (List Int) → Option ((List Int) × Int × (List Int) × Int)) : Nat → Int → (List Int) → Option ((List Int) × Int × (List Int) × Int)
  | 0, _, _ => none
  | n29 + 1, y25, y26 =>
    bif (decide (y25 < (p1.length : Int))) then
     Qc5 (fun y31 =>
       Qfk N p0 p1 x5 k8 n29 (w64 (y25 + 1)) y31) fun k32 : (List Int) → Option ((List Int) × Int × (List Int) × Int) =>
     (getI p1 y25).bind fun x33 =>
     (getI x5.2.2 y25).bind fun x37 =>
     bif (decide (x37 ≤ 0)) then
      k32 (y26)
     else
      Qc5 (fun y42 =>
        Qfj N p0 k32 x37 N y42 y26) fun k43 : Int → Option ((List Int) × Int × (List Int) × Int) =>
      Qfi N x5 k43 N x33.Inlet
    else
     k8 (y26)
def Qmb (N : Nat) (p0 : (List Int)) (p1 : (List GUnit)) : Option ((List Int) × Int × (List Int) × Int) :=
  (Qhj N (⟨p0, p1⟩ : GShared)).bind fun x2 =>
  bif (!x2) then
   some ([], 0, [], 1)
  else
   (Qh2 N (⟨p0, p1⟩ : GShared)).bind fun x5 =>
   chk (decide (0 ≤ (p0.length : Int)) && decide (8 * (p0.length : Int) ≤ 281474976710656) && decide ((p0.length : Int) ≤ 9223372036854775807)) <|
   Qc5 (fun y7 =>
     Qc5 (fun y9 =>
       (Qh0 N (⟨p0, p1⟩ : GShared) x5.1).bind fun x12 =>
       some (x5.1, x12, y9, 0)) fun k10 : (List Int) → Option ((List Int) × Int × (List Int) × Int) =>
     Qfl N p0 y7 k10 N ([]) 0 0) fun k8 : (List Int) → Option ((List Int) × Int × (List Int) × Int) =>
   Qfk N p0 p1 x5 k8 N 0 (List.replicate (p0.length : Int).toNat 0)
def Q13 (p0 : (List Int)) : AV := .dat 1 ((p0 : List Int).map Qal)
def Qjx (p1 : (List GUnit)) : AV := .dat 2 ((p1 : List GUnit).map Qck)
def Qww (p0 : (List Int)) (p1 : (List GUnit)) : AV := .agg [(Q13 p0), (Qjx p1)]
def Q12 : AV := .dat 1 (([] : List Int).map Qal)
def Qhr (x5 : ((List Int) × (List Int) × (List Int))) : AV := .dat 1 ((x5.1 : List Int).map Qal)
def Qkx (x5 : ((List Int) × (List Int) × (List Int))) : AV := .dat 1 ((x5.2.1 : List Int).map Qal)
def Qkm (x5 : ((List Int) × (List Int) × (List Int))) : AV := .dat 1 ((x5.2.2 : List Int).map Qal)
def Zdq (p0 : (List Int)) : Slot := .own 1 ((List.replicate (p0.length : Int).toNat 0 : List Int).map Qal)
def Qi8 (p0 : (List Int)) (p1 : (List GUnit)) : Slot := .own 2 [[(Q13 p0), (Qjx p1)]]
def Qqe (y7 : (List Int)) : Slot := .own 1 ((y7 : List Int).map Qal)
def Q11 (y13 : (List Int)) : AV := .acc 0 3 1 ((y13 : List Int).map Qal)
def Qlt (y26 : (List Int)) : Slot := .own 1 ((y26 : List Int).map Qal)
def Qoy (y45 : (List Int)) : Slot := .own 1 ((y45 : List Int).map Qal)
theorem Qqw (N : Nat) (p0 : (List Int)) (p1 : (List GUnit)) (r : ((List Int) × Int × (List Int) × Int)) (h : Qmb N p0 p1 = some r) : Spec Tryz.prog 24 [(.dat 1 (p0.map Qal)), (.dat 2 (p1.map Qck))] [] (.tup [(.dat 1 (r.1.map Qal)), (I r.2.1), (.dat 1 (r.2.2.1.map Qal)), (I r.2.2.2)]) [] := by
  refine Qac Tryz.func24 rfl 0 (nle rfl) (fun X φ0 w0 hφ0 hd0 => ?_)
  unfold Qmb at h
  refine wx tbk [] trivial ?_
  refine wx tbk [(2, rp [(.tmp 18, (Q13 p0)), (.tmp 19, (Qjx p1))] (Qww p0 p1))] ⟨Qao (vs := [(Q13 p0), (Qjx p1)]) rfl Ze0 Zd3 rfl (by rfl) rfl, trivial⟩ ?_
  refine wsq ?_
  obtain ⟨x2, hf1, h⟩ := bno h
  refine wx tbk [(1, rp [fu 59, (.tmp 21, (Qww p0 p1))] (B x2))] ⟨apc (first := []) (cap := []) (vs := [(Qww p0 p1)]) rfl Zb9 (Qll N (⟨p0, p1⟩ : GShared) _ hf1) rfl rfl (nlc (NLt.agg _ (nlc (nld Qab _) (nlc (nld Qax _) nl0))) nl0) nll rfl, trivial⟩ ?_
  rcases bft ((!x2)) with hc3 | hc3
  ·replace h := Qat hc3 h
   refine wft hc3 (by kernel_rfl) ?_
   refine wx tbk [] trivial ?_
   refine Qaa ?_
   refine Qan ?_
   obtain rfl := osi h
   exact fend ⟨[Q12, I 0, Q12, I 1], ⟨Qjt (v := nilS) (rot (by kernel_rfl)) Less.nil, rot (by kernel_rfl), Qjt (v := nilS) (rot (by kernel_rfl)) Less.nil, rot (by kernel_rfl), trivial⟩, rfl⟩ (NLt.tup _ (nlc (nld Qab _) (nlc nll (nlc (nld Qab _) (nlc nll nl0)))))
  ·replace h := Qau hc3 h
   refine wfn hc3 (by kernel_rfl) ?_
   refine Qam ?_
   refine thn ?_
   obtain ⟨x5, hf4, h⟩ := bno h
   refine wx tbk [(1, rp [fu 60, (.tmp 25, (Qww p0 p1))] (.tup [(Qhr x5), (Qkx x5), (Qkm x5)]))] ⟨apc (first := []) (cap := []) (vs := [(Qww p0 p1)]) rfl Zb8 (Ql6 N (⟨p0, p1⟩ : GShared) _ hf4) rfl rfl (nlc (NLt.agg _ (nlc (nld Qab _) (nlc (nld Qax _) nl0))) nl0) (NLt.tup _ (nlc (nld Qab _) (nlc (nld Qab _) (nlc (nld Qab _) nl0)))) rfl, trivial⟩ ?_
   obtain ⟨hm6, h⟩ := cko h
   refine wx tbk [(1, rp [(.tmp 30, (Q13 p0))] (I ((p0.length : Int)))), (2, ⟨[(.tmp 31, (I ((p0.length : Int)))), (.tmp 31, (I ((p0.length : Int))))], [(1, .unused)], (.own 1 1 (0) ((p0.length : Int).toNat)), [(1, (Zdq p0))], false⟩)] ⟨alm (c := Qal) (l := p0) (aln rfl Tryz.underlying73 rfl), Qjv rfl Tryz.underlying73 te3 tz3 rfl (Qwd hm6) rfl (Qwc hm6) (Qst hm6) (Qtj Qal rfl), trivial⟩ ?_
   obtain ⟨k8, hk_k8, h⟩ := jko h
   refine wjn (τ := (List Int)) (fun t => k8 t = some r) (fun y7 => ⟨mk 92 [(4, (Qhr x5)), (6, nilS), (8, .ref 0 2 0 0), (11, (.own 1 1 (0) ((p0.length : Int).toNat)))], [(Qi8 p0 p1), (Qqe y7)]⟩) (fun y7 h => ?_) ?_
   ·subst hk_k8
    refine wx tbk [] trivial ?_
    obtain ⟨k10, hk_k10, h⟩ := jko h
    refine wjn (τ := (List Int)) (fun t => k10 t = some r) (fun y9 => ⟨mk 92 [(4, (Qhr x5)), (6, (.acc 0 3 1 ((y9 : List Int).map Qal))), (8, .ref 1 2 0 0)], [.tok, (Qi8 p0 p1)]⟩) (fun y9 h => ?_) ?_
    ·subst hk_k10
     obtain ⟨x12, hf11, h⟩ := bno h
     refine wx tbk [(3, rp [fu 61, (.tmp 88, (Qww p0 p1)), (.tmp 89, (Qhr x5))] (I x12))] ⟨apc (first := []) (cap := []) (vs := [(Qww p0 p1), (Qhr x5)]) rfl Zb7 (Ql5 N (⟨p0, p1⟩ : GShared) x5.1 _ hf11) rfl rfl (nlc (NLt.agg _ (nlc (nld Qab _) (nlc (nld Qax _) nl0))) (nlc (nld Qab _) nl0)) nll rfl, trivial⟩ ?_
     refine Qaa ?_
     obtain rfl := osi h
     exact fend ⟨[(Qhr x5), I x12, (.dat 1 ((y9 : List Int).map Qal)), I 0], ⟨rot (by kernel_rfl), rot (by kernel_rfl), Qjt (v := (.acc 0 3 1 ((y9 : List Int).map Qal))) (rot (by kernel_rfl)) Less.acc, rot (by kernel_rfl), trivial⟩, rfl⟩ (NLt.tup _ (nlc (nld Qab _) (nlc nll (nlc (nld Qab _) (nlc nll nl0)))))
    ·skip
     refine wx tbk [(1, rp [(.tmp 73, (.own 1 1 (0) ((p0.length : Int).toNat)))] (I ((((p0.length : Int).toNat : Nat) : Int))))] ⟨aln rfl Tryz.underlying73 rfl, trivial⟩ ?_
     refine Qaj ?_
     refine wmr (Mor.trans (Qtk 2 3 1 6 (by kernel_rfl) (by kernel_rfl)) (mto (n := 92) (l' := [(4, (Qhr x5)), (6, (.acc 0 3 1 ((([]) : List Int).map Qal))), (8, .ref 1 2 0 0), (15, I 0), (73, (.own 2 1 (0) ((p0.length : Int).toNat))), (74, (I ((((p0.length : Int).toNat : Nat) : Int)))), (75, I 0)]) (own' := [.tok, (Qi8 p0 p1), (Qqe y7)]) [(4, (Qhr x5)), (6, (.acc 2 3 1 (([] : List Int).map Qal))), (8, .ref 0 2 0 0), (15, I 0), (73, (.own 1 1 (0) ((p0.length : Int).toNat))), (74, (I ((((p0.length : Int).toNat : Nat) : Int)))), (75, I 0)] [2, 0, 1] [.tok, (Qi8 p0 p1), (Qqe y7)] hφ0 (pc (.rn (.plain _ (nld Qab _))) (pc (.rn (Qhg rfl (Qfr Qab _))) (pc (.rn (rqr rfl)) (pc rwl (pc (.rn (Qak rfl)) (pc rwl (pc rwl pn))))))) (qc .tok (qc (spb (lc (.rn (.plain _ (nld Qab _))) (lc (.rn (.plain _ (nld Qax _))) ln))) (qc (spr Qab) qn))))) ?_
     refine Qcl (τ := (List Int) × Int × Int) (fun n t => Qfl N p0 y7 k10 n t.1 t.2.1 t.2.2 = some r) (fun ⟨y13, y14, y15⟩ => ⟨mk 92 [(4, (Qhr x5)), (6, (Q11 y13)), (8, .ref 1 2 0 0), (15, I y14), (73, (.own 2 1 (0) ((p0.length : Int).toNat))), (74, (I ((((p0.length : Int).toNat : Nat) : Int)))), (75, I y15)], [.tok, (Qi8 p0 p1), (Qqe y7)]⟩) (fun t h => by rw [Qfl] at h; cases h) (fun n19 ih t h => ?_) N ([], 0, 0) h
     obtain ⟨y13, y14, y15⟩ := t
     rw [Qfl] at h
     skip
     refine wx tbk [] trivial ?_
     refine wsq ?_
     rcases bft ((decide (y15 < (((p0.length : Int).toNat : Nat) : Int)))) with hc20 | hc20
     ·replace h := Qat hc20 h
      refine wft hc20 (by kernel_rfl) ?_
      refine Qam ?_
      refine thn ?_
      refine wsq ?_
      refine Qaj ?_
      obtain ⟨hi21, h⟩ := cko h
      obtain ⟨hi21a, hi21b⟩ := Qbi hi21
      obtain ⟨x22, hg23, h⟩ := bno h
      refine wx tbk [(0, rb [(.tmp 73, (.own 2 1 (0) ((p0.length : Int).toNat))), (.tmp 75, I y15)] [(2, (Qqe y7))] (.ref 2 1 (y15.toNat) 0)), (1, rb [(.tmp 77, (.ref 2 1 (y15.toNat) 0))] [(2, (Qqe y7))] (I x22))] ⟨aio rfl Tryz.underlying73 ti3 (odt hi21a) (odt hi21b) (Nat.zero_add _), ald rfl ti3 (by decide) (mgt Qal hg23) (nle rfl) rfl, trivial⟩ ?_
      obtain ⟨ha24, h⟩ := cko h
      refine wx tbk [(4, rp [(.tmp 82, (I (w64 (x22 - y14))))] (.dat 1 (([w64 (x22 - y14)] : List Int).map Qal))), (5, ⟨[(.tmp 79, (Q11 y13)), (.tmp 83, (.dat 1 (([w64 (x22 - y14)] : List Int).map Qal)))], [(0, .tok), (3, .unused)], (.acc 3 3 1 ((y13 ++ ([w64 (x22 - y14)]) : List Int).map Qal)), [(0, .dead), (3, .tok)], false⟩)] ⟨Qcb (vs := [(I (w64 (x22 - y14)))]) rfl Tryz.underlying73 ti3 tz3 rfl (by decide) rfl (by decide) (by rfl) (by rfl) (by rfl) rfl, Qmo rfl Tryz.underlying73 te3 (Base.acc _ _) rfl rfl (by rfl) (Qrn Qal ha24) (Qrm Qal ha24 (by decide)) (Qrl Qal) rfl rfl, trivial⟩ ?_
      refine wx1 tbk [] trivial ?_
      refine bln ?_
      refine thn ?_
      refine wx1 tbk [] trivial ?_
      refine thn ?_
      exact arm (mto (n := 92) [(4, (Qhr x5)), (6, (.acc 3 3 1 ((y13 ++ ([w64 (x22 - y14)]) : List Int).map Qal))), (8, .ref 1 2 0 0), (15, I x22), (73, (.own 2 1 (0) ((p0.length : Int).toNat))), (74, (I ((((p0.length : Int).toNat : Nat) : Int)))), (75, (I (w64 (y15 + 1))))] [3, 1, 2] [.tok, (Qi8 p0 p1), (Qqe y7)] hφ0 (pc (.rn (.plain _ (nld Qab _))) (pc (.rn (Qhg rfl (Qfr Qab _))) (pc (.rn (rqr rfl)) (pc rwl (pc (.rn (Qak rfl)) (pc rwl (pc rwl pn))))))) (qc .tok (qc (spb (lc (.rn (.plain _ (nld Qab _))) (lc (.rn (.plain _ (nld Qax _))) ln))) (qc (spr Qab) qn)))) (ih (y13 ++ ([w64 (x22 - y14)]), x22, w64 (y15 + 1)) h)
     ·replace h := Qau hc20 h
      refine wfn hc20 (by kernel_rfl) ?_
      refine Qbr ?_
      refine Qay ?_
      refine Qay ?_
      refine Qbq rfl ?_
      refine thn ?_
      exact ⟨(y13), h, (mto (n := 92) [(4, (Qhr x5)), (6, (Q11 y13)), (8, .ref 1 2 0 0)] [0, 1] [.tok, (Qi8 p0 p1)] hφ0 (pc (.rn (.plain _ (nld Qab _))) (pc (.rn (Qhg rfl (Qfr Qab _))) (pc (.rn (rqr rfl)) pn))) (qc .tok (qc (spb (lc (.rn (.plain _ (nld Qab _))) (lc (.rn (.plain _ (nld Qax _))) ln))) qn)))⟩
   ·skip
    refine wx tbk [(1, rp [(.tmp 33, (Qjx p1))] (I ((p1.length : Int))))] ⟨alm (c := Qck) (l := p1) (aln rfl Tryz.underlying74 rfl), trivial⟩ ?_
    refine Qaj ?_
    refine wmr (mto (n := 92) (l' := [(4, (Qhr x5)), (6, nilS), (8, .ref 0 2 0 0), (9, (Qkx x5)), (10, (Qkm x5)), (11, (.own 1 1 (0) ((p0.length : Int).toNat))), (33, (Qjx p1)), (34, (I ((p1.length : Int)))), (35, I 0)]) (own' := [(Qi8 p0 p1), (.own 1 (((List.replicate (p0.length : Int).toNat 0) : List Int).map Qal))]) [(4, (Qhr x5)), (6, nilS), (8, .ref 0 2 0 0), (9, (Qkx x5)), (10, (Qkm x5)), (11, (.own 1 1 (0) ((p0.length : Int).toNat))), (33, (Qjx p1)), (34, (I ((p1.length : Int)))), (35, I 0)] [0, 1] [(Qi8 p0 p1), (Zdq p0)] hφ0 (pc (.rn (.plain _ (nld Qab _))) (pc rwl (pc (.rn (rqr rfl)) (pc (.rn (.plain _ (nld Qab _))) (pc (.rn (.plain _ (nld Qab _))) (pc (.rn (Qak rfl)) (pc (.rn (.plain _ (nld Qax _))) (pc rwl (pc rwl pn))))))))) (qc (spb (lc (.rn (.plain _ (nld Qab _))) (lc (.rn (.plain _ (nld Qax _))) ln))) (qc (spr Qab) qn))) ?_
    refine Qcl (τ := Int × (List Int)) (fun n t => Qfk N p0 p1 x5 k8 n t.1 t.2 = some r) (fun ⟨y25, y26⟩ => ⟨mk 92 [(4, (Qhr x5)), (6, nilS), (8, .ref 0 2 0 0), (9, (Qkx x5)), (10, (Qkm x5)), (11, (.own 1 1 (0) ((p0.length : Int).toNat))), (33, (Qjx p1)), (34, (I ((p1.length : Int)))), (35, I y25)], [(Qi8 p0 p1), (Qlt y26)]⟩) (fun t h => by rw [Qfk] at h; cases h) (fun n29 ih t h => ?_) N (0, List.replicate (p0.length : Int).toNat 0) h
    obtain ⟨y25, y26⟩ := t
    rw [Qfk] at h
    skip
    refine wx tbk [] trivial ?_
    refine wsq ?_
    rcases bft ((decide (y25 < (p1.length : Int)))) with hc30 | hc30
    ·replace h := Qat hc30 h
     refine wft hc30 (by kernel_rfl) ?_
     refine Qam ?_
     refine thn ?_
     obtain ⟨k32, hk_k32, h⟩ := jko h
     refine wjn (τ := (List Int)) (fun t => k32 t = some r) (fun y31 => ⟨mk 92 [(4, (Qhr x5)), (6, nilS), (8, .ref 0 2 0 0), (9, (Qkx x5)), (10, (Qkm x5)), (11, (.own 1 1 (0) ((p0.length : Int).toNat))), (33, (Qjx p1)), (34, (I ((p1.length : Int)))), (35, I y25)], [(Qi8 p0 p1), (.own 1 ((y31 : List Int).map Qal))]⟩) (fun y31 h => ?_) ?_
     ·subst hk_k32
      refine wx1 tbk [] trivial ?_
      refine thn ?_
      exact arm (mto (n := 92) [(4, (Qhr x5)), (6, nilS), (8, .ref 0 2 0 0), (9, (Qkx x5)), (10, (Qkm x5)), (11, (.own 1 1 (0) ((p0.length : Int).toNat))), (33, (Qjx p1)), (34, (I ((p1.length : Int)))), (35, (I (w64 (y25 + 1))))] [0, 1] [(Qi8 p0 p1), (.own 1 ((y31 : List Int).map Qal))] hφ0 (pc (.rn (.plain _ (nld Qab _))) (pc rwl (pc (.rn (rqr rfl)) (pc (.rn (.plain _ (nld Qab _))) (pc (.rn (.plain _ (nld Qab _))) (pc (.rn (Qak rfl)) (pc (.rn (.plain _ (nld Qax _))) (pc rwl (pc rwl pn))))))))) (qc (spb (lc (.rn (.plain _ (nld Qab _))) (lc (.rn (.plain _ (nld Qax _))) ln))) (qc (spr Qab) qn))) (ih (w64 (y25 + 1), y31) h)
     ·skip
      refine Qaj ?_
      obtain ⟨x33, hg34, h⟩ := bno h
      obtain ⟨hi35, hj36⟩ := gsm hg34
      refine wx tbk [(1, rp [(.tmp 33, (Qjx p1)), (.tmp 35, I y25)] (.dptr (Qck (x33)) 0))] ⟨aid rfl Tryz.underlying74 ti45 rfl rfl hi35 (mgt Qck hj36) rfl, trivial⟩ ?_
      refine wsq ?_
      obtain ⟨x37, hg38, h⟩ := bno h
      obtain ⟨hi39, hj40⟩ := gsm hg38
      refine wx tbk [(2, rp [(.tmp 40, (Qkm x5)), (.tmp 41, I y25)] (.dptr (Qal (x37)) 0))] ⟨aid rfl Tryz.underlying73 ti3 rfl rfl hi39 (mgt Qal hj40) rfl, trivial⟩ ?_
      rcases bft ((decide (x37 ≤ 0))) with hc41 | hc41
      ·replace h := Qat hc41 h
       refine wft hc41 (by kernel_rfl) ?_
       refine Qbr ?_
       refine Qay ?_
       refine Qbq rfl ?_
       refine thn ?_
       exact ⟨(y26), h, (mto (n := 92) [(4, (Qhr x5)), (6, nilS), (8, .ref 0 2 0 0), (9, (Qkx x5)), (10, (Qkm x5)), (11, (.own 1 1 (0) ((p0.length : Int).toNat))), (33, (Qjx p1)), (34, (I ((p1.length : Int)))), (35, I y25)] [0, 1] [(Qi8 p0 p1), (Qlt y26)] hφ0 (pc (.rn (.plain _ (nld Qab _))) (pc rwl (pc (.rn (rqr rfl)) (pc (.rn (.plain _ (nld Qab _))) (pc (.rn (.plain _ (nld Qab _))) (pc (.rn (Qak rfl)) (pc (.rn (.plain _ (nld Qax _))) (pc rwl (pc rwl pn))))))))) (qc (spb (lc (.rn (.plain _ (nld Qab _))) (lc (.rn (.plain _ (nld Qax _))) ln))) (qc (spr Qab) qn)))⟩
      ·replace h := Qau hc41 h
       refine wfn hc41 (by kernel_rfl) ?_
       refine Qam ?_
       refine thn ?_
       refine wx tbk [] trivial ?_
       obtain ⟨k43, hk_k43, h⟩ := jko h
       refine wjn (τ := Int) (fun t => k43 t = some r) (fun y42 => ⟨mk 92 [(4, (Qhr x5)), (6, nilS), (8, .ref 0 2 0 0), (9, (Qkx x5)), (10, (Qkm x5)), (11, (.own 1 1 (0) ((p0.length : Int).toNat))), (12, I y25), (14, I y42), (33, (Qjx p1)), (34, (I ((p1.length : Int)))), (35, I y25)], [(Qi8 p0 p1), (Qlt y26)]⟩) (fun y42 h => ?_) ?_
       ·subst hk_k43
        refine Qaj ?_
        refine wmr (mto (n := 92) (l' := [(4, (Qhr x5)), (6, nilS), (8, .ref 0 2 0 0), (9, (Qkx x5)), (10, (Qkm x5)), (11, (.own 1 1 (0) ((p0.length : Int).toNat))), (12, I y25), (14, I y42), (33, (Qjx p1)), (34, (I ((p1.length : Int)))), (35, I y25)]) (own' := [(Qi8 p0 p1), (Qlt y26)]) [(4, (Qhr x5)), (6, nilS), (8, .ref 0 2 0 0), (9, (Qkx x5)), (10, (Qkm x5)), (11, (.own 1 1 (0) ((p0.length : Int).toNat))), (12, I y25), (14, I y42), (33, (Qjx p1)), (34, (I ((p1.length : Int)))), (35, I y25)] [0, 1] [(Qi8 p0 p1), (Qlt y26)] hφ0 (pc (.rn (.plain _ (nld Qab _))) (pc rwl (pc (.rn (rqr rfl)) (pc (.rn (.plain _ (nld Qab _))) (pc (.rn (.plain _ (nld Qab _))) (pc (.rn (Qak rfl)) (pc rwl (pc rwl (pc (.rn (.plain _ (nld Qax _))) (pc rwl (pc rwl pn))))))))))) (qc (spb (lc (.rn (.plain _ (nld Qab _))) (lc (.rn (.plain _ (nld Qax _))) ln))) (qc (spr Qab) qn))) ?_
        refine Qcl (τ := Int × (List Int)) (fun n t => Qfj N p0 k32 x37 n t.1 t.2 = some r) (fun ⟨y44, y45⟩ => ⟨mk 92 [(4, (Qhr x5)), (6, nilS), (8, .ref 0 2 0 0), (9, (Qkx x5)), (10, (Qkm x5)), (11, (.own 1 1 (0) ((p0.length : Int).toNat))), (12, I y25), (14, I y44), (33, (Qjx p1)), (34, (I ((p1.length : Int)))), (35, I y25)], [(Qi8 p0 p1), (Qoy y45)]⟩) (fun t h => by rw [Qfj] at h; cases h) (fun n48 ih t h => ?_) N (y42, y26) h
        obtain ⟨y44, y45⟩ := t
        rw [Qfj] at h
        skip
        refine wsq ?_
        refine wx tbk [(2, rp [(.tmp 55, (.own 1 1 (0) ((p0.length : Int).toNat)))] (I ((((p0.length : Int).toNat : Nat) : Int))))] ⟨aln rfl Tryz.underlying73 rfl, trivial⟩ ?_
        rcases bft ((decide (y44 < (((p0.length : Int).toNat : Nat) : Int)))) with hc49 | hc49
        ·replace h := Qat hc49 h
         refine wft hc49 (by kernel_rfl) ?_
         refine Qam ?_
         refine thn ?_
         refine wsq ?_
         refine Qaj ?_
         obtain ⟨hi50, h⟩ := cko h
         obtain ⟨hi50a, hi50b⟩ := Qbi hi50
         obtain ⟨x51, hg52, h⟩ := bno h
         obtain ⟨hi53, h⟩ := cko h
         obtain ⟨hi53a, hi53b⟩ := Qbi hi53
         obtain ⟨x54, hg55, h⟩ := bno h
         refine wy1 tbk [(4, rb [(.tmp 62, (.own 1 1 (0) ((p0.length : Int).toNat))), (.tmp 63, I y44)] [(1, (Qoy y45))] (.ref 1 1 (y44.toNat) 0)), (5, rb [(.tmp 64, (.ref 1 1 (y44.toNat) 0))] [(1, (Qoy y45))] (I x51)), (8, rp [(.tmp 66, (Qkm x5)), (.tmp 67, I y25)] (.dptr (Qal (x37)) 0)), (10, rp [(.tmp 65, I x51), (.tmp 69, I x37)] (I ((if x37 > x51 then x37 else x51)))), (11, rb [(.tmp 60, (.own 1 1 (0) ((p0.length : Int).toNat))), (.tmp 61, I y44)] [(1, (Qoy y45))] (.ref 1 1 (y44.toNat) 0)), (12, ⟨[(.tmp 71, (.ref 1 1 (y44.toNat) 0)), (.tmp 70, (I ((if x37 > x51 then x37 else x51))))], [(1, (Qoy y45))], .any, [(1, (.own 1 ((y45.set y44.toNat (if x37 > x51 then x37 else x51) : List Int).map Qal)))], false⟩)] ⟨aio rfl Tryz.underlying73 ti3 (odt hi50a) (odt hi50b) (Nat.zero_add _), ald rfl ti3 (by decide) (mgt Qal hg52) (nle rfl) rfl, aid rfl Tryz.underlying73 ti3 rfl rfl hi39 (mgt Qal hj40) rfl, Qmn rfl, aio rfl Tryz.underlying73 ti3 (odt hi53a) (odt hi53b) (Nat.zero_add _), ast rfl ti3 (by rfl) (mgt Qal hg55) (nle rfl) (Qhf Qal rfl), trivial⟩ ?_
         refine bln ?_
         refine thn ?_
         refine wx1 tbk [] trivial ?_
         refine thn ?_
         exact arm (mto (n := 92) [(4, (Qhr x5)), (6, nilS), (8, .ref 0 2 0 0), (9, (Qkx x5)), (10, (Qkm x5)), (11, (.own 1 1 (0) ((p0.length : Int).toNat))), (12, I y25), (14, (I (w64 (y44 + 1)))), (33, (Qjx p1)), (34, (I ((p1.length : Int)))), (35, I y25)] [0, 1] [(Qi8 p0 p1), (.own 1 ((y45.set y44.toNat (if x37 > x51 then x37 else x51) : List Int).map Qal))] hφ0 (pc (.rn (.plain _ (nld Qab _))) (pc rwl (pc (.rn (rqr rfl)) (pc (.rn (.plain _ (nld Qab _))) (pc (.rn (.plain _ (nld Qab _))) (pc (.rn (Qak rfl)) (pc rwl (pc rwl (pc (.rn (.plain _ (nld Qax _))) (pc rwl (pc rwl pn))))))))))) (qc (spb (lc (.rn (.plain _ (nld Qab _))) (lc (.rn (.plain _ (nld Qax _))) ln))) (qc (spr Qab) qn))) (ih (w64 (y44 + 1), y45.set y44.toNat (if x37 > x51 then x37 else x51)) h)
        ·replace h := Qau hc49 h
         refine wfn hc49 (by kernel_rfl) ?_
         refine Qbr ?_
         refine Qay ?_
         refine Qay ?_
         refine Qbq rfl ?_
         refine bln ?_
         refine thn ?_
         exact ⟨(y45), h, (mto (n := 92) [(4, (Qhr x5)), (6, nilS), (8, .ref 0 2 0 0), (9, (Qkx x5)), (10, (Qkm x5)), (11, (.own 1 1 (0) ((p0.length : Int).toNat))), (33, (Qjx p1)), (34, (I ((p1.length : Int)))), (35, I y25)] [0, 1] [(Qi8 p0 p1), (Qoy y45)] hφ0 (pc (.rn (.plain _ (nld Qab _))) (pc rwl (pc (.rn (rqr rfl)) (pc (.rn (.plain _ (nld Qab _))) (pc (.rn (.plain _ (nld Qab _))) (pc (.rn (Qak rfl)) (pc (.rn (.plain _ (nld Qax _))) (pc rwl (pc rwl pn))))))))) (qc (spb (lc (.rn (.plain _ (nld Qab _))) (lc (.rn (.plain _ (nld Qax _))) ln))) (qc (spr Qab) qn)))⟩
       ·skip
        refine Qaj ?_
        refine wmr (mto (n := 92) (l' := [(4, (Qhr x5)), (6, nilS), (8, .ref 0 2 0 0), (9, (Qkx x5)), (10, (Qkm x5)), (11, (.own 1 1 (0) ((p0.length : Int).toNat))), (12, I y25), (14, I x33.Inlet), (33, (Qjx p1)), (34, (I ((p1.length : Int)))), (35, I y25)]) (own' := [(Qi8 p0 p1), (Qlt y26)]) [(4, (Qhr x5)), (6, nilS), (8, .ref 0 2 0 0), (9, (Qkx x5)), (10, (Qkm x5)), (11, (.own 1 1 (0) ((p0.length : Int).toNat))), (12, I y25), (14, I x33.Inlet), (33, (Qjx p1)), (34, (I ((p1.length : Int)))), (35, I y25)] [0, 1] [(Qi8 p0 p1), (Qlt y26)] hφ0 (pc (.rn (.plain _ (nld Qab _))) (pc rwl (pc (.rn (rqr rfl)) (pc (.rn (.plain _ (nld Qab _))) (pc (.rn (.plain _ (nld Qab _))) (pc (.rn (Qak rfl)) (pc rwl (pc rwl (pc (.rn (.plain _ (nld Qax _))) (pc rwl (pc rwl pn))))))))))) (qc (spb (lc (.rn (.plain _ (nld Qab _))) (lc (.rn (.plain _ (nld Qax _))) ln))) (qc (spr Qab) qn))) ?_
        refine Qcl (τ := Int) (fun n t => Qfi N x5 k43 n t = some r) (fun y56 => ⟨mk 92 [(4, (Qhr x5)), (6, nilS), (8, .ref 0 2 0 0), (9, (Qkx x5)), (10, (Qkm x5)), (11, (.own 1 1 (0) ((p0.length : Int).toNat))), (12, I y25), (14, I y56), (33, (Qjx p1)), (34, (I ((p1.length : Int)))), (35, I y25)], [(Qi8 p0 p1), (Qlt y26)]⟩) (fun t h => by rw [Qfi] at h; cases h) (fun n58 ih y56 h => ?_) N (x33.Inlet) h
        rw [Qfi] at h
        skip
        refine wsq ?_
        obtain ⟨x59, hg60, h⟩ := bno h
        obtain ⟨hi61, hj62⟩ := gsm hg60
        refine wx tbk [(2, rp [(.tmp 47, (Qkx x5)), (.tmp 48, I y56)] (.dptr (Qal (x59)) 0))] ⟨aid rfl Tryz.underlying73 ti3 rfl rfl hi61 (mgt Qal hj62) rfl, trivial⟩ ?_
        rcases bft ((decide (x59 > 0))) with hc63 | hc63
        ·replace h := Qat hc63 h
         refine wft hc63 (by kernel_rfl) ?_
         refine Qam ?_
         refine thn ?_
         refine Qaj ?_
         refine wx1 tbk [] trivial ?_
         refine bln ?_
         refine thn ?_
         exact arm (mto (n := 92) [(4, (Qhr x5)), (6, nilS), (8, .ref 0 2 0 0), (9, (Qkx x5)), (10, (Qkm x5)), (11, (.own 1 1 (0) ((p0.length : Int).toNat))), (12, I y25), (14, (I (w64 (y56 - 1)))), (33, (Qjx p1)), (34, (I ((p1.length : Int)))), (35, I y25)] [0, 1] [(Qi8 p0 p1), (Qlt y26)] hφ0 (pc (.rn (.plain _ (nld Qab _))) (pc rwl (pc (.rn (rqr rfl)) (pc (.rn (.plain _ (nld Qab _))) (pc (.rn (.plain _ (nld Qab _))) (pc (.rn (Qak rfl)) (pc rwl (pc rwl (pc (.rn (.plain _ (nld Qax _))) (pc rwl (pc rwl pn))))))))))) (qc (spb (lc (.rn (.plain _ (nld Qab _))) (lc (.rn (.plain _ (nld Qax _))) ln))) (qc (spr Qab) qn))) (ih (w64 (y56 - 1)) h)
        ·replace h := Qau hc63 h
         refine wfn hc63 (by kernel_rfl) ?_
         refine Qbr ?_
         refine Qay ?_
         refine Qay ?_
         refine Qbq rfl ?_
         refine thn ?_
         exact ⟨(y56), h, (mto (n := 92) [(4, (Qhr x5)), (6, nilS), (8, .ref 0 2 0 0), (9, (Qkx x5)), (10, (Qkm x5)), (11, (.own 1 1 (0) ((p0.length : Int).toNat))), (12, I y25), (14, I y56), (33, (Qjx p1)), (34, (I ((p1.length : Int)))), (35, I y25)] [0, 1] [(Qi8 p0 p1), (Qlt y26)] hφ0 (pc (.rn (.plain _ (nld Qab _))) (pc rwl (pc (.rn (rqr rfl)) (pc (.rn (.plain _ (nld Qab _))) (pc (.rn (.plain _ (nld Qab _))) (pc (.rn (Qak rfl)) (pc rwl (pc rwl (pc (.rn (.plain _ (nld Qax _))) (pc rwl (pc rwl pn))))))))))) (qc (spb (lc (.rn (.plain _ (nld Qab _))) (lc (.rn (.plain _ (nld Qax _))) ln))) (qc (spr Qab) qn)))⟩
    ·replace h := Qau hc30 h
     refine wfn hc30 (by kernel_rfl) ?_
     refine Qbr ?_
     refine Qay ?_
     refine Qay ?_
     refine Qbq rfl ?_
     refine thn ?_
     exact ⟨(y26), h, (mto (n := 92) [(4, (Qhr x5)), (6, nilS), (8, .ref 0 2 0 0), (11, (.own 1 1 (0) ((p0.length : Int).toNat)))] [0, 1] [(Qi8 p0 p1), (Qlt y26)] hφ0 (pc (.rn (.plain _ (nld Qab _))) (pc rwl (pc (.rn (rqr rfl)) (pc (.rn (Qak rfl)) pn)))) (qc (spb (lc (.rn (.plain _ (nld Qab _))) (lc (.rn (.plain _ (nld Qax _))) ln))) (qc (spr Qab) qn)))⟩
end Go.Proofs.YtlhakkkjgdbdpaaGreat
