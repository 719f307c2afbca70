/-
  Functions of the program: what they compute, as plain functions, and that they do. No conditions.
-/
import Derived.Test.YtlhakkkjgdbdpaaGreatX2
namespace Go.Proofs.YtlhakkkjgdbdpaaGreat
set_option maxRecDepth 100000
set_option maxHeartbeats 4000000
open Go.RowKit
def Qgq (N : Nat) (p0 : Int) : Option Bool :=
  (Qbb N p0 0 1000000).bind fun x2 =>
  some x2
theorem Qkt (N : Nat) (p0 : Int) (r : Bool) (h : Qgq N p0 = some r) : Spec Tryz.prog 84 [(I p0)] [] (B r) [] := by
  refine Qac Tryz.func84 rfl 0 (nle rfl) (fun X φ0 w0 hφ0 hd0 => ?_)
  unfold Qgq at h
  refine wx tbk [] trivial ?_
  obtain ⟨x2, hf1, h⟩ := bno h
  refine wx tbk [(1, rp [fu 56, (.tmp 3, I p0), ci 0, ci 1000000] (B x2))] ⟨apc (first := []) (cap := []) (vs := [I p0, I 0, I 1000000]) rfl Qbs (Qad N p0 0 1000000 _ hf1) rfl rfl (nlc nll (nlc nll (nlc nll nl0))) nll rfl, trivial⟩ ?_
  refine Qaa ?_
  obtain rfl := osi h
  exact fend ⟨[B x2], ⟨rot (by kernel_rfl), trivial⟩, rfl⟩ nll
def Qh6 (N : Nat) (p0 : Int) : Option Bool :=
  (Qgq N p0).bind fun x3 =>
  some (!x3)
def Q50 : Slot := .own 1 [[(.fn (.func 84) [] [])]]
theorem Ql7 (N : Nat) (p0 : Int) (r : Bool) (h : Qh6 N p0 = some r) : Spec Tryz.prog 105 [(I (p0)), (.ref 0 1 (0) 0)] [Q50] (B (r)) [Q50] := by
  refine Qac Tryz.func105 rfl 1 (nle rfl) (fun X φ0 w0 hφ0 hd0 => ?_)
  unfold Qh6 at h
  refine Qbh ?_
  refine wx tbk [] trivial ?_
  obtain ⟨x3, hf2, h⟩ := bno h
  refine wx tbk [(2, rp [(.tmp 4, (.fn (.func 84) [] [])), (.tmp 5, I p0)] (B x3))] ⟨apc (first := []) (cap := []) (vs := [I p0]) rfl Zb3 (Qkt N p0 _ hf2) rfl rfl (nlc nll nl0) nll rfl, trivial⟩ ?_
  refine wmr (mto (n := 8) (l' := [(3, (B ((!x3))))]) (own' := [Q50]) [(3, (B ((!x3))))] [0] [Q50] hφ0 (pc rwl pn) (qc (spb (lc (.rn (Qar rn0 rn0)) ln)) qn)) ?_
  refine Qaa ?_
  obtain rfl := osi h
  exact ⟨_, Mor.rfl, Qb7 (vs := [(B ((!x3)))]) ⟨rot (by kernel_rfl), trivial⟩ rfl (NLt.of0 nll) (by kernel_rfl) (Qaf (Qat (nlc (NLt.of0 (NLt.fn _ _ _ nl0 nl0)) nl0)) Qbd)⟩
def Qct (N : Nat) (p0 : (List Int)) (k2 : Unit → Option Int) : Nat → Int → Option Int
  | 0, _ => none
  | n5 + 1, y3 =>
    bif (decide (y3 < (p0.length : Int))) then
     (getI p0 y3).bind fun x7 =>
     (Qh6 N x7).bind fun x12 =>
     bif x12 then
      some y3
     else
      Qct N p0 k2 n5 (w64 (y3 + 1))
    else
     k2 ()
def Qey (N : Nat) (p0 : (List Int)) : Option Int :=
  Qc4 (fun _ =>
    some (-1)) fun k2 : Unit → Option Int =>
  Qct N p0 k2 N 0
def Qwq (p0 : (List Int)) : AV := .dat 1 ((p0 : List Int).map Qal)
def Q0d : AV := .fn (.func 105) [] [(.ref 0 1 (0) 0)]
def Qnd : Slot := .own 1 [[(.fn (.func 84) [] [])]]
theorem Qiz (N : Nat) (p0 : (List Int)) (r : Int) (h : Qey N p0 = some r) : Spec Tryz.prog 65 [(Qwq p0), Q0d] [Qnd] (I (r)) [Qnd] := by
  refine Qac Tryz.func65 rfl 1 (nle rfl) (fun X φ0 w0 hφ0 hd0 => ?_)
  unfold Qey at h
  refine Qbh ?_
  refine wx tbk [] trivial ?_
  obtain ⟨k2, hk_k2, h⟩ := jko h
  refine wjn (τ := Unit) (fun t => k2 t = some r) (fun _ => ⟨mk 19 [], [Qnd]⟩) (fun t h => ?_) ?_
  ·subst hk_k2
   refine wx tbk [] trivial ?_
   refine wmr (mto (n := 19) (l' := [(4, (I ((-1))))]) (own' := [Qnd]) [(4, (I ((-1))))] [0] [Qnd] hφ0 (pc rwl pn) (qc (spb (lc (.rn (Qar rn0 rn0)) ln)) qn)) ?_
   refine Qaa ?_
   obtain rfl := osi h
   exact ⟨_, Mor.rfl, Qb7 (vs := [(I ((-1)))]) ⟨rot (by kernel_rfl), trivial⟩ rfl (NLt.of0 nll) (by kernel_rfl) (Qaf (Qat (nlc (NLt.of0 (NLt.fn _ _ _ nl0 nl0)) nl0)) Qbd)⟩
  ·skip
   refine wx tbk [(1, rp [(.tmp 6, (Qwq p0))] (I ((p0.length : Int))))] ⟨alm (c := Qal) (l := p0) (aln rfl Tryz.underlying73 rfl), trivial⟩ ?_
   refine Qaj ?_
   refine wmr (mto (n := 19) (l' := [(0, (Qwq p0)), (1, Q0d), (7, (I ((p0.length : Int)))), (8, I 0)]) (own' := [Qnd]) [(0, (Qwq p0)), (1, Q0d), (7, (I ((p0.length : Int)))), (8, I 0)] [0] [Qnd] hφ0 (pc (.rn (.plain _ (nld Qab _))) (pc (.rn (Qar rn0 (rnc (rqr rfl) rn0))) (pc rwl (pc rwl pn)))) (qc (spb (lc (.rn (Qar rn0 rn0)) ln)) qn)) ?_
   refine Qck (τ := Int) (fun n t => Qct N p0 k2 n t = some r) (fun y3 => ⟨mk 19 [(0, (Qwq p0)), (1, Q0d), (7, (I ((p0.length : Int)))), (8, I y3)], [Qnd]⟩) (fun t h => by rw [Qct] at h; cases h) (fun n5 ih y3 h => ?_) N (0) h
   rw [Qct] at h
   skip
   refine wx tbk [] trivial ?_
   refine wsq ?_
   rcases bft ((decide (y3 < (p0.length : Int)))) with hc6 | hc6
   ·replace h := Qau hc6 h
    refine wft hc6 (by kernel_rfl) ?_
    refine Qam ?_
    refine thn ?_
    refine wsq ?_
    refine Qaj ?_
    refine wx tbk [] trivial ?_
    obtain ⟨x7, hg8, h⟩ := bno h
    obtain ⟨hi9, hj10⟩ := gsm hg8
    obtain ⟨x12, hf11, h⟩ := bno h
    refine wx tbk [(3, rp [(.tmp 12, (Qwq p0)), (.tmp 13, I y3)] (.dptr (Qal (x7)) 0)), (5, ⟨[(.tmp 11, Q0d), (.tmp 15, I x7)], [(0, Qnd)], B x12, [(0, Qnd)], false⟩)] ⟨aid rfl Tryz.underlying73 ti3 rfl rfl hi9 (mgt Qal hj10) rfl, Qah (first := []) (cap := [.ref 0 1 0 0]) (vs := [I x7]) (σr := [Qnd]) (σr' := [Qnd]) (res' := (B x12)) [0] rfl Qzm (Ql7 N x7 _ hf11) rfl (Qbc (rnc (.plain _ nll) (rnc (Qa2 rfl) rn0))) (slc (Qae (rnc (.plain _ (NLt.fn _ _ _ nl0 nl0)) rn0)) Qag) (slc (Qae (rnc (.plain _ (NLt.fn _ _ _ nl0 nl0)) rn0)) Qag) (.plain _ nll) rfl rfl rfl, trivial⟩ ?_
    rcases bft (x12) with hc13 | hc13
    ·replace h := Qau hc13 h
     refine wft hc13 (by kernel_rfl) ?_
     refine wx tbk [] trivial ?_
     refine wmr (mto (n := 19) (l' := [(4, I y3)]) (own' := [Qnd]) [(4, I y3)] [0] [Qnd] hφ0 (pc rwl pn) (qc (spb (lc (.rn (Qar rn0 rn0)) ln)) qn)) ?_
     refine Qaa ?_
     refine Qa3 ?_
     refine Qan ?_
     refine Qan ?_
     refine Qa3 ?_
     refine Qan ?_
     obtain rfl := osi h
     exact ⟨_, Mor.rfl, Qb7 (vs := [I y3]) ⟨rot (by kernel_rfl), trivial⟩ rfl (NLt.of0 nll) (by kernel_rfl) (Qaf (Qat (nlc (NLt.of0 (NLt.fn _ _ _ nl0 nl0)) nl0)) Qbd)⟩
    ·replace h := Qav hc13 h
     refine wfn hc13 (by kernel_rfl) ?_
     refine Qam ?_
     refine bln ?_
     refine thn ?_
     refine wx1 tbk [] trivial ?_
     refine thn ?_
     exact arm (mto (n := 19) [(0, (Qwq p0)), (1, Q0d), (7, (I ((p0.length : Int)))), (8, (I (w64 (y3 + 1))))] [0] [Qnd] hφ0 (pc (.rn (.plain _ (nld Qab _))) (pc (.rn (Qar rn0 (rnc (rqr rfl) rn0))) (pc rwl (pc rwl pn)))) (qc (spb (lc (.rn (Qar rn0 rn0)) ln)) qn)) (ih (w64 (y3 + 1)) h)
   ·replace h := Qav hc6 h
    refine wfn hc6 (by kernel_rfl) ?_
    refine Qbr ?_
    refine Qay ?_
    refine Qay ?_
    refine Qbq rfl ?_
    refine thn ?_
    exact ⟨(), h, (mto (n := 19) [] [0] [Qnd] hφ0 pn (qc (spb (lc (.rn (Qar rn0 rn0)) ln)) qn))⟩
def Qei (N : Nat) (p0 : (List Int)) : Option Bool :=
  (Qey N p0).bind fun x3 =>
  some (decide (x3 ≥ 0))
def Q97 (p0 : (List Int)) : AV := .dat 1 ((p0 : List Int).map Qal)
def Q96 : AV := .fn (.func 105) [] [(.ref 0 1 (0) 0)]
def Qul : Slot := .own 1 [[(.fn (.func 84) [] [])]]
theorem Qhz (N : Nat) (p0 : (List Int)) (r : Bool) (h : Qei N p0 = some r) : Spec Tryz.prog 104 [(Q97 p0), Q96] [Qul] (B (r)) [Qul] := by
  refine Qac Tryz.func104 rfl 1 (nle rfl) (fun X φ0 w0 hφ0 hd0 => ?_)
  unfold Qei at h
  refine Qbh ?_
  refine wx tbk [] trivial ?_
  obtain ⟨x3, hf2, h⟩ := bno h
  refine wx tbk [(2, ⟨[fu 65, (.tmp 5, (Q97 p0)), (.tmp 6, Q96)], [(0, Qul)], I x3, [(0, Qul)], false⟩)] ⟨Qah (first := []) (cap := []) (vs := [(Q97 p0), Q96]) (σr := [Qul]) (σr' := [Qul]) (res' := (I x3)) [0] rfl Qxm (Qiz N p0 _ hf2) rfl (Qbc (rnc (.plain _ (nld Qab _)) (rnc (Qar rn0 (rnc (Qa2 rfl) rn0)) rn0))) (slc (Qae (rnc (.plain _ (NLt.fn _ _ _ nl0 nl0)) rn0)) Qag) (slc (Qae (rnc (.plain _ (NLt.fn _ _ _ nl0 nl0)) rn0)) Qag) (.plain _ nll) rfl rfl rfl, trivial⟩ ?_
  refine wmr (mto (n := 9) (l' := [(4, (B ((decide (x3 ≥ 0)))))]) (own' := [Qul]) [(4, (B ((decide (x3 ≥ 0)))))] [0] [Qul] hφ0 (pc rwl pn) (qc (spb (lc (.rn (Qar rn0 rn0)) ln)) qn)) ?_
  refine Qaa ?_
  obtain rfl := osi h
  exact ⟨_, Mor.rfl, Qb7 (vs := [(B ((decide (x3 ≥ 0))))]) ⟨rot (by kernel_rfl), trivial⟩ rfl (NLt.of0 nll) (by kernel_rfl) (Qaf (Qat (nlc (NLt.of0 (NLt.fn _ _ _ nl0 nl0)) nl0)) Qbd)⟩
def Qje (N : Nat) (p0 : (List Int)) : Option Bool :=
  (Qei N p0).bind fun x2 =>
  some (!x2)
def Q99 (p0 : (List Int)) : AV := .dat 1 ((p0 : List Int).map Qal)
def Q98 : AV := .fn (.func 105) [] [(.ref 0 1 (0) 0)]
def Q51 : Slot := .own 1 [[(.fn (.func 84) [] [])]]
theorem Qhn (N : Nat) (p0 : (List Int)) (r : Bool) (h : Qje N p0 = some r) : Spec Tryz.prog 83 [(Q99 p0), (.fn (.func 84) [] [])] [] (B (r)) [] := by
  refine Qac Tryz.func83 rfl 0 (nle rfl) (fun X φ0 w0 hφ0 hd0 => ?_)
  unfold Qje at h
  refine wx tbk [] trivial ?_
  obtain ⟨x2, hf1, h⟩ := bno h
  refine wx tbk [(1, rp [(.tmp 3, .ref 0 1 0 0)] Q98), (2, ⟨[fu 104, (.tmp 5, (Q99 p0)), (.tmp 6, Q98)], [(0, Q51)], B x2, [(0, Q51)], false⟩)] ⟨Qdb (fs := []) (cs := [.ref 0 1 0 0]) rfl rfl rfl rfl, Qah (first := []) (cap := []) (vs := [(Q99 p0), Q98]) (σr := [Q51]) (σr' := [Q51]) (res' := (B x2)) [0] rfl Qzn (Qhz N p0 _ hf1) rfl (Qbc (rnc (.plain _ (nld Qab _)) (rnc (Qar rn0 (rnc (Qa2 rfl) rn0)) rn0))) (slc (Qae (rnc (.plain _ (NLt.fn _ _ _ nl0 nl0)) rn0)) Qag) (slc (Qae (rnc (.plain _ (NLt.fn _ _ _ nl0 nl0)) rn0)) Qag) (.plain _ nll) rfl rfl rfl, trivial⟩ ?_
  refine Qaa ?_
  obtain rfl := osi h
  exact fend ⟨[(B ((!x2)))], ⟨rot (by kernel_rfl), trivial⟩, rfl⟩ nll
def Qf7 (N : Nat) (p0 : GUnit) (p1 : (List Int)) (_p2 : (List GUnit)) : Option Bool :=
  (Qd5 N p0).bind fun x3 =>
  bif x3 then
   some (decide (p0.Inlet < (p1.length : Int)))
  else
   some false
def Q1x (p0 : GUnit) : AV := .agg [(I (p0.Inlet)), (.dat 2 ((p0.Parts : List GPart).map Qba))]
def Q0b (p1 : (List Int)) (p2 : (List GUnit)) : Slot := .own 2 [[(.dat 1 ((p1 : List Int).map Qal)), (.dat 2 ((p2 : List GUnit).map Qcj))]]
theorem Qj8 (N : Nat) (p0 : GUnit) (p1 : (List Int)) (p2 : (List GUnit)) (r : Bool) (h : Qf7 N p0 p1 p2 = some r) : Spec Tryz.prog 86 [(Q1x p0), (.ref 0 2 (0) 0)] [(Q0b p1 p2)] (B (r)) [(Q0b p1 p2)] := by
  refine Qac Tryz.func86 rfl 1 (nle rfl) (fun X φ0 w0 hφ0 hd0 => ?_)
  unfold Qf7 at h
  refine Qbh ?_
  refine wx tbk [] trivial ?_
  obtain ⟨x3, hf2, h⟩ := bno h
  rcases bft (x3) with hb4 | hb4
  ·replace h := Qau hb4 h
   refine wx tbk [(1, rp [fu 53, (.tmp 4, (Q1x p0))] (B x3)), (2, rp [(.tmp 5, B x3)] (B true)), (7, rp [(.tmp 6, B true), (.tmp 10, (.dat 1 ((p1 : List Int).map Qal)))] (I ((p1.length : Int))))] ⟨apc (first := []) (cap := []) (vs := [(Q1x p0)]) rfl Qld (Qcw N p0 _ hf2) rfl rfl (nlc (NLt.agg _ (nlc nll (nlc (nld Qao _) nl0))) nl0) nll rfl, asb hb4 (amv rfl), ag_ (alm (c := Qal) (l := p1) (aln rfl Tryz.underlying73 rfl)), trivial⟩ ?_
   refine wmr (mto (n := 14) (l' := [(3, (B ((decide (p0.Inlet < (p1.length : Int))))))]) (own' := [(Q0b p1 p2)]) [(3, (B ((decide (p0.Inlet < (p1.length : Int))))))] [0] [(Q0b p1 p2)] hφ0 (pc rwl pn) (qc (spb (lc (.rn (.plain _ (nld Qab _))) (lc (.rn (.plain _ (nld Qax _))) ln))) qn)) ?_
   refine Qaa ?_
   obtain rfl := osi h
   exact ⟨_, Mor.rfl, Qb7 (vs := [(B ((decide (p0.Inlet < (p1.length : Int)))))]) ⟨rot (by kernel_rfl), trivial⟩ rfl (NLt.of0 nll) (by kernel_rfl) (Qaf (Qat (nlc (NLt.of0 (nld Qab _)) (nlc (NLt.of0 (nld Qax _)) nl0))) Qbd)⟩
  ·replace h := Qav hb4 h
   refine wx tbk [(1, rp [fu 53, (.tmp 4, (Q1x p0))] (B x3)), (2, rp [(.tmp 5, B x3)] (B false))] ⟨apc (first := []) (cap := []) (vs := [(Q1x p0)]) rfl Qld (Qcw N p0 _ hf2) rfl rfl (nlc (NLt.agg _ (nlc nll (nlc (nld Qao _) nl0))) nl0) nll rfl, asb hb4 (amv rfl), trivial⟩ ?_
   refine wmr (mto (n := 14) (l' := [(3, B false)]) (own' := [(Q0b p1 p2)]) [(3, B false)] [0] [(Q0b p1 p2)] hφ0 (pc rwl pn) (qc (spb (lc (.rn (.plain _ (nld Qab _))) (lc (.rn (.plain _ (nld Qax _))) ln))) qn)) ?_
   refine Qaa ?_
   obtain rfl := osi h
   exact ⟨_, Mor.rfl, Qb7 (vs := [B false]) ⟨rot (by kernel_rfl), trivial⟩ rfl (NLt.of0 nll) (by kernel_rfl) (Qaf (Qat (nlc (NLt.of0 (nld Qab _)) (nlc (NLt.of0 (nld Qax _)) nl0))) Qbd)⟩
def Qfm (N : Nat) (p0 : GUnit) (p1 : (List Int)) (p2 : (List GUnit)) : Option Bool :=
  (Qf7 N p0 p1 p2).bind fun x3 =>
  some (!x3)
def Q91 (p0 : GUnit) : AV := .agg [(I (p0.Inlet)), (.dat 2 ((p0.Parts : List GPart).map Qba))]
def Q1y : AV := .fn (.func 86) [] [(.ref 1 2 (0) 0)]
def Quh (p1 : (List Int)) (p2 : (List GUnit)) : Slot := .own 2 [[(.dat 1 ((p1 : List Int).map Qal)), (.dat 2 ((p2 : List GUnit).map Qcj))]]
theorem Qjp (N : Nat) (p0 : GUnit) (p1 : (List Int)) (p2 : (List GUnit)) (r : Bool) (h : Qfm N p0 p1 p2 = some r) : Spec Tryz.prog 107 [(Q91 p0), (.ref 0 1 (0) 0)] [(.own 1 [[Q1y]]), (Quh p1 p2)] (B (r)) [(.own 1 [[Q1y]]), (Quh p1 p2)] := by
  refine Qac Tryz.func107 rfl 2 (nle rfl) (fun X φ0 w0 hφ0 hd0 => ?_)
  unfold Qfm at h
  refine Qbh ?_
  refine wx tbk [] trivial ?_
  obtain ⟨x3, hf2, h⟩ := bno h
  refine wx tbk [(2, ⟨[(.tmp 4, Q1y), (.tmp 5, (Q91 p0))], [(1, (Quh p1 p2))], B x3, [(1, (Quh p1 p2))], false⟩)] ⟨Qah (first := []) (cap := [.ref 1 2 0 0]) (vs := [(Q91 p0)]) (σr := [(Quh p1 p2)]) (σr' := [(Quh p1 p2)]) (res' := (B x3)) [1] rfl Zb1 (Qj8 N p0 p1 p2 _ hf2) rfl (Qbc (rnc (.plain _ (NLt.agg _ (nlc nll (nlc (nld Qao _) nl0)))) (rnc (Qa2 rfl) rn0))) (slc (Qae (rnc (.plain _ (nld Qab _)) (rnc (.plain _ (nld Qax _)) rn0))) Qag) (slc (Qae (rnc (.plain _ (nld Qab _)) (rnc (.plain _ (nld Qax _)) rn0))) Qag) (.plain _ nll) rfl rfl rfl, trivial⟩ ?_
  refine wmr (mto (n := 8) (l' := [(3, (B ((!x3))))]) (own' := [(.own 1 [[Q1y]]), (Quh p1 p2)]) [(3, (B ((!x3))))] [0, 1] [(.own 1 [[Q1y]]), (Quh p1 p2)] hφ0 (pc rwl pn) (qc (spb (lc (.rn (Qar rn0 (rnc (rqr rfl) rn0))) ln)) (qc (spb (lc (.rn (.plain _ (nld Qab _))) (lc (.rn (.plain _ (nld Qax _))) ln))) qn))) ?_
  refine Qaa ?_
  obtain rfl := osi h
  exact ⟨_, Mor.rfl, Qb7 (vs := [(B ((!x3)))]) ⟨rot (by kernel_rfl), trivial⟩ rfl (NLt.of0 nll) (by kernel_rfl) (Qaf (Qat (nlc (NLt.fn _ _ _ nl0 (nlc (NLt.ref _ _ _ _ (by decide)) nl0)) nl0)) (Qaf (Qat (nlc (NLt.of0 (nld Qab _)) (nlc (NLt.of0 (nld Qax _)) nl0))) Qbd))⟩
def Qbo (N : Nat) (p0 : (List GUnit)) (p1 : (List Int)) (k2 : Unit → Option Int) (p2 : (List GUnit)) : Nat → Int → Option Int
  | 0, _ => none
  | n5 + 1, y3 =>
    bif (decide (y3 < (p0.length : Int))) then
     (getI p0 y3).bind fun x7 =>
     (Qfm N x7 p1 p2).bind fun x12 =>
     bif x12 then
      some y3
     else
      Qbo N p0 p1 k2 p2 n5 (w64 (y3 + 1))
    else
     k2 ()
def Qc7 (N : Nat) (p0 : (List GUnit)) (p1 : (List Int)) (p2 : (List GUnit)) : Option Int :=
  Qc4 (fun _ =>
    some (-1)) fun k2 : Unit → Option Int =>
  Qbo N p0 p1 k2 p2 N 0
def Qwp (p0 : (List GUnit)) : AV := .dat 2 ((p0 : List GUnit).map Qcj)
def Q0c : AV := .fn (.func 107) [] [(.ref 0 1 (0) 0)]
def Qnc : AV := .fn (.func 86) [] [(.ref 1 2 (0) 0)]
def Qnb (p1 : (List Int)) (p2 : (List GUnit)) : Slot := .own 2 [[(.dat 1 ((p1 : List Int).map Qal)), (.dat 2 ((p2 : List GUnit).map Qcj))]]
theorem Qf2 (N : Nat) (p0 : (List GUnit)) (p1 : (List Int)) (p2 : (List GUnit)) (r : Int) (h : Qc7 N p0 p1 p2 = some r) : Spec Tryz.prog 117 [(Qwp p0), Q0c] [(.own 1 [[Qnc]]), (Qnb p1 p2)] (I (r)) [(.own 1 [[Qnc]]), (Qnb p1 p2)] := by
  refine Qac Tryz.func117 rfl 2 (nle rfl) (fun X φ0 w0 hφ0 hd0 => ?_)
  unfold Qc7 at h
  refine Qbh ?_
  refine wx tbk [] trivial ?_
  obtain ⟨k2, hk_k2, h⟩ := jko h
  refine wjn (τ := Unit) (fun t => k2 t = some r) (fun _ => ⟨mk 19 [], [(.own 1 [[Qnc]]), (Qnb p1 p2)]⟩) (fun t h => ?_) ?_
  ·subst hk_k2
   refine wx tbk [] trivial ?_
   refine wmr (mto (n := 19) (l' := [(4, (I ((-1))))]) (own' := [(.own 1 [[Qnc]]), (Qnb p1 p2)]) [(4, (I ((-1))))] [0, 1] [(.own 1 [[Qnc]]), (Qnb p1 p2)] hφ0 (pc rwl pn) (qc (spb (lc (.rn (Qar rn0 (rnc (rqr rfl) rn0))) ln)) (qc (spb (lc (.rn (.plain _ (nld Qab _))) (lc (.rn (.plain _ (nld Qax _))) ln))) qn))) ?_
   refine Qaa ?_
   obtain rfl := osi h
   exact ⟨_, Mor.rfl, Qb7 (vs := [(I ((-1)))]) ⟨rot (by kernel_rfl), trivial⟩ rfl (NLt.of0 nll) (by kernel_rfl) (Qaf (Qat (nlc (NLt.fn _ _ _ nl0 (nlc (NLt.ref _ _ _ _ (by decide)) nl0)) nl0)) (Qaf (Qat (nlc (NLt.of0 (nld Qab _)) (nlc (NLt.of0 (nld Qax _)) nl0))) Qbd))⟩
  ·skip
   refine wx tbk [(1, rp [(.tmp 6, (Qwp p0))] (I ((p0.length : Int))))] ⟨alm (c := Qcj) (l := p0) (aln rfl Tryz.underlying74 rfl), trivial⟩ ?_
   refine Qaj ?_
   refine wmr (mto (n := 19) (l' := [(0, (Qwp p0)), (1, Q0c), (7, (I ((p0.length : Int)))), (8, I 0)]) (own' := [(.own 1 [[Qnc]]), (Qnb p1 p2)]) [(0, (Qwp p0)), (1, Q0c), (7, (I ((p0.length : Int)))), (8, I 0)] [0, 1] [(.own 1 [[Qnc]]), (Qnb p1 p2)] hφ0 (pc (.rn (.plain _ (nld Qax _))) (pc (.rn (Qar rn0 (rnc (rqr rfl) rn0))) (pc rwl (pc rwl pn)))) (qc (spb (lc (.rn (Qar rn0 (rnc (rqr rfl) rn0))) ln)) (qc (spb (lc (.rn (.plain _ (nld Qab _))) (lc (.rn (.plain _ (nld Qax _))) ln))) qn))) ?_
   refine Qck (τ := Int) (fun n t => Qbo N p0 p1 k2 p2 n t = some r) (fun y3 => ⟨mk 19 [(0, (Qwp p0)), (1, Q0c), (7, (I ((p0.length : Int)))), (8, I y3)], [(.own 1 [[Qnc]]), (Qnb p1 p2)]⟩) (fun t h => by rw [Qbo] at h; cases h) (fun n5 ih y3 h => ?_) N (0) h
   rw [Qbo] at h
   skip
   refine wx tbk [] trivial ?_
   refine wsq ?_
   rcases bft ((decide (y3 < (p0.length : Int)))) with hc6 | hc6
   ·replace h := Qau hc6 h
    refine wft hc6 (by kernel_rfl) ?_
    refine Qam ?_
    refine thn ?_
    refine wsq ?_
    refine Qaj ?_
    refine wx tbk [] trivial ?_
    obtain ⟨x7, hg8, h⟩ := bno h
    obtain ⟨hi9, hj10⟩ := gsm hg8
    obtain ⟨x12, hf11, h⟩ := bno h
    refine wx tbk [(3, rp [(.tmp 12, (Qwp p0)), (.tmp 13, I y3)] (.dptr (Qcj (x7)) 0)), (5, ⟨[(.tmp 11, Q0c), (.tmp 15, (.agg [I x7.Inlet, (.dat 2 ((x7.Parts : List GPart).map Qba))]))], [(0, .own 1 [[Qnc]]), (1, (Qnb p1 p2))], B x12, [(0, .own 1 [[Qnc]]), (1, (Qnb p1 p2))], false⟩)] ⟨aid rfl Tryz.underlying74 ti45 rfl rfl hi9 (mgt Qcj hj10) rfl, Qah (first := []) (cap := [.ref 0 1 0 0]) (vs := [(.agg [I x7.Inlet, (.dat 2 ((x7.Parts : List GPart).map Qba))])]) (σr := [(.own 1 [[Qnc]]), (Qnb p1 p2)]) (σr' := [(.own 1 [[Qnc]]), (Qnb p1 p2)]) (res' := (B x12)) [0, 1] rfl Q7h (Qjp N x7 p1 p2 _ hf11) rfl (Qbc (rnc (.plain _ (NLt.agg _ (nlc nll (nlc (nld Qao _) nl0)))) (rnc (Qa2 rfl) rn0))) (slc (Qae (rnc (Qar rn0 (rnc (Qa2 rfl) rn0)) rn0)) (slc (Qae (rnc (.plain _ (nld Qab _)) (rnc (.plain _ (nld Qax _)) rn0))) Qag)) (slc (Qae (rnc (Qar rn0 (rnc (Qb3 rfl) rn0)) rn0)) (slc (Qae (rnc (.plain _ (nld Qab _)) (rnc (.plain _ (nld Qax _)) rn0))) Qag)) (.plain _ nll) rfl rfl rfl, trivial⟩ ?_
    rcases bft (x12) with hc13 | hc13
    ·replace h := Qau hc13 h
     refine wft hc13 (by kernel_rfl) ?_
     refine wx tbk [] trivial ?_
     refine wmr (mto (n := 19) (l' := [(4, I y3)]) (own' := [(.own 1 [[Qnc]]), (Qnb p1 p2)]) [(4, I y3)] [0, 1] [(.own 1 [[Qnc]]), (Qnb p1 p2)] hφ0 (pc rwl pn) (qc (spb (lc (.rn (Qar rn0 (rnc (rqr rfl) rn0))) ln)) (qc (spb (lc (.rn (.plain _ (nld Qab _))) (lc (.rn (.plain _ (nld Qax _))) ln))) qn))) ?_
     refine Qaa ?_
     refine Qa3 ?_
     refine Qan ?_
     refine Qan ?_
     refine Qa3 ?_
     refine Qan ?_
     obtain rfl := osi h
     exact ⟨_, Mor.rfl, Qb7 (vs := [I y3]) ⟨rot (by kernel_rfl), trivial⟩ rfl (NLt.of0 nll) (by kernel_rfl) (Qaf (Qat (nlc (NLt.fn _ _ _ nl0 (nlc (NLt.ref _ _ _ _ (by decide)) nl0)) nl0)) (Qaf (Qat (nlc (NLt.of0 (nld Qab _)) (nlc (NLt.of0 (nld Qax _)) nl0))) Qbd))⟩
    ·replace h := Qav hc13 h
     refine wfn hc13 (by kernel_rfl) ?_
     refine Qam ?_
     refine bln ?_
     refine thn ?_
     refine wx1 tbk [] trivial ?_
     refine thn ?_
     exact arm (mto (n := 19) [(0, (Qwp p0)), (1, Q0c), (7, (I ((p0.length : Int)))), (8, (I (w64 (y3 + 1))))] [0, 1] [(.own 1 [[Qnc]]), (Qnb p1 p2)] hφ0 (pc (.rn (.plain _ (nld Qax _))) (pc (.rn (Qar rn0 (rnc (rqr rfl) rn0))) (pc rwl (pc rwl pn)))) (qc (spb (lc (.rn (Qar rn0 (rnc (rqr rfl) rn0))) ln)) (qc (spb (lc (.rn (.plain _ (nld Qab _))) (lc (.rn (.plain _ (nld Qax _))) ln))) qn))) (ih (w64 (y3 + 1)) h)
   ·replace h := Qav hc6 h
    refine wfn hc6 (by kernel_rfl) ?_
    refine Qbr ?_
    refine Qay ?_
    refine Qay ?_
    refine Qbq rfl ?_
    refine thn ?_
    exact ⟨(), h, (mto (n := 19) [] [0, 1] [(.own 1 [[Qnc]]), (Qnb p1 p2)] hφ0 pn (qc (spb (lc (.rn (Qar rn0 (rnc (rqr rfl) rn0))) ln)) (qc (spb (lc (.rn (.plain _ (nld Qab _))) (lc (.rn (.plain _ (nld Qax _))) ln))) qn)))⟩
def Qc1 (N : Nat) (p0 : (List GUnit)) (p1 : (List Int)) (p2 : (List GUnit)) : Option Bool :=
  (Qc7 N p0 p1 p2).bind fun x3 =>
  some (decide (x3 ≥ 0))
def Q93 (p0 : (List GUnit)) : AV := .dat 2 ((p0 : List GUnit).map Qcj)
def Q92 : AV := .fn (.func 107) [] [(.ref 0 1 (0) 0)]
def Quj : AV := .fn (.func 86) [] [(.ref 1 2 (0) 0)]
def Qui (p1 : (List Int)) (p2 : (List GUnit)) : Slot := .own 2 [[(.dat 1 ((p1 : List Int).map Qal)), (.dat 2 ((p2 : List GUnit).map Qcj))]]
theorem Qfj (N : Nat) (p0 : (List GUnit)) (p1 : (List Int)) (p2 : (List GUnit)) (r : Bool) (h : Qc1 N p0 p1 p2 = some r) : Spec Tryz.prog 106 [(Q93 p0), Q92] [(.own 1 [[Quj]]), (Qui p1 p2)] (B (r)) [(.own 1 [[Quj]]), (Qui p1 p2)] := by
  refine Qac Tryz.func106 rfl 2 (nle rfl) (fun X φ0 w0 hφ0 hd0 => ?_)
  unfold Qc1 at h
  refine Qbh ?_
  refine wx tbk [] trivial ?_
  obtain ⟨x3, hf2, h⟩ := bno h
  refine wx tbk [(2, ⟨[fu 117, (.tmp 5, (Q93 p0)), (.tmp 6, Q92)], [(0, .own 1 [[Quj]]), (1, (Qui p1 p2))], I x3, [(0, .own 1 [[Quj]]), (1, (Qui p1 p2))], false⟩)] ⟨Qah (first := []) (cap := []) (vs := [(Q93 p0), Q92]) (σr := [(.own 1 [[Quj]]), (Qui p1 p2)]) (σr' := [(.own 1 [[Quj]]), (Qui p1 p2)]) (res' := (I x3)) [0, 1] rfl Q69 (Qf2 N p0 p1 p2 _ hf2) rfl (Qbc (rnc (.plain _ (nld Qax _)) (rnc (Qar rn0 (rnc (Qa2 rfl) rn0)) rn0))) (slc (Qae (rnc (Qar rn0 (rnc (Qa2 rfl) rn0)) rn0)) (slc (Qae (rnc (.plain _ (nld Qab _)) (rnc (.plain _ (nld Qax _)) rn0))) Qag)) (slc (Qae (rnc (Qar rn0 (rnc (Qb3 rfl) rn0)) rn0)) (slc (Qae (rnc (.plain _ (nld Qab _)) (rnc (.plain _ (nld Qax _)) rn0))) Qag)) (.plain _ nll) rfl rfl rfl, trivial⟩ ?_
  refine wmr (mto (n := 9) (l' := [(4, (B ((decide (x3 ≥ 0)))))]) (own' := [(.own 1 [[Quj]]), (Qui p1 p2)]) [(4, (B ((decide (x3 ≥ 0)))))] [0, 1] [(.own 1 [[Quj]]), (Qui p1 p2)] hφ0 (pc rwl pn) (qc (spb (lc (.rn (Qar rn0 (rnc (rqr rfl) rn0))) ln)) (qc (spb (lc (.rn (.plain _ (nld Qab _))) (lc (.rn (.plain _ (nld Qax _))) ln))) qn))) ?_
  refine Qaa ?_
  obtain rfl := osi h
  exact ⟨_, Mor.rfl, Qb7 (vs := [(B ((decide (x3 ≥ 0))))]) ⟨rot (by kernel_rfl), trivial⟩ rfl (NLt.of0 nll) (by kernel_rfl) (Qaf (Qat (nlc (NLt.fn _ _ _ nl0 (nlc (NLt.ref _ _ _ _ (by decide)) nl0)) nl0)) (Qaf (Qat (nlc (NLt.of0 (nld Qab _)) (nlc (NLt.of0 (nld Qax _)) nl0))) Qbd))⟩
def Qf8 (N : Nat) (p0 : (List GUnit)) (p1 : (List Int)) (p2 : (List GUnit)) : Option Bool :=
  (Qc1 N p0 p1 p2).bind fun x3 =>
  some (!x3)
def Q95 (p0 : (List GUnit)) : AV := .dat 2 ((p0 : List GUnit).map Qcj)
def Q1z : AV := .fn (.func 86) [] [(.ref 0 2 (0) 0)]
def Quk (p1 : (List Int)) (p2 : (List GUnit)) : Slot := .own 2 [[(.dat 1 ((p1 : List Int).map Qal)), (.dat 2 ((p2 : List GUnit).map Qcj))]]
def Q94 : AV := .fn (.func 107) [] [(.ref 1 1 (0) 0)]
theorem Qj9 (N : Nat) (p0 : (List GUnit)) (p1 : (List Int)) (p2 : (List GUnit)) (r : Bool) (h : Qf8 N p0 p1 p2 = some r) : Spec Tryz.prog 85 [(Q95 p0), Q1z] [(Quk p1 p2)] (B (r)) [(Quk p1 p2)] := by
  refine Qac Tryz.func85 rfl 1 (nle rfl) (fun X φ0 w0 hφ0 hd0 => ?_)
  unfold Qf8 at h
  refine Qbh ?_
  refine wx tbk [] trivial ?_
  obtain ⟨x3, hf2, h⟩ := bno h
  refine wx tbk [(1, rp [(.tmp 3, .ref 1 1 0 0)] Q94), (2, ⟨[fu 106, (.tmp 5, (Q95 p0)), (.tmp 6, Q94)], [(1, .own 1 [[Q1z]]), (0, (Quk p1 p2))], B x3, [(1, .own 1 [[Q1z]]), (0, (Quk p1 p2))], false⟩)] ⟨Qdb (fs := []) (cs := [.ref 1 1 0 0]) rfl rfl rfl rfl, Qah (first := []) (cap := []) (vs := [(Q95 p0), Q94]) (σr := [(.own 1 [[Q1z]]), (Quk p1 p2)]) (σr' := [(.own 1 [[Q1z]]), (Quk p1 p2)]) (res' := (B x3)) [1, 0] rfl Q7i (Qfj N p0 p1 p2 _ hf2) rfl (Qbc (rnc (.plain _ (nld Qax _)) (rnc (Qar rn0 (rnc (Qa2 rfl) rn0)) rn0))) (slc (Qae (rnc (Qar rn0 (rnc (Qa2 rfl) rn0)) rn0)) (slc (Qae (rnc (.plain _ (nld Qab _)) (rnc (.plain _ (nld Qax _)) rn0))) Qag)) (slc (Qae (rnc (Qar rn0 (rnc (Qb3 rfl) rn0)) rn0)) (slc (Qae (rnc (.plain _ (nld Qab _)) (rnc (.plain _ (nld Qax _)) rn0))) Qag)) (.plain _ nll) rfl rfl rfl, trivial⟩ ?_
  refine wmr (mto (n := 9) (l' := [(4, (B ((!x3))))]) (own' := [(Quk p1 p2)]) [(4, (B ((!x3))))] [0] [(Quk p1 p2)] hφ0 (pc rwl pn) (qc (spb (lc (.rn (.plain _ (nld Qab _))) (lc (.rn (.plain _ (nld Qax _))) ln))) qn)) ?_
  refine Qaa ?_
  obtain rfl := osi h
  exact ⟨_, Mor.rfl, Qb7 (vs := [(B ((!x3)))]) ⟨rot (by kernel_rfl), trivial⟩ rfl (NLt.of0 nll) (by kernel_rfl) (Qaf (Qat (nlc (NLt.of0 (nld Qab _)) (nlc (NLt.of0 (nld Qax _)) nl0))) Qbd)⟩
def Qhm (N : Nat) (p0 : GShared) : Option Bool :=
  (Qbb N (p0.heads.length : Int) 1 6).bind fun x2 =>
  bif x2 then
   (Qje N p0.heads).bind fun x5 =>
   bif x5 then
    (Qbb N (p0.units.length : Int) 1 10).bind fun x8 =>
    bif x8 then
     (Qf8 N p0.units p0.heads p0.units).bind fun x11 =>
     some x11
    else
     some false
   else
    some false
  else
   some false
def Qp8 (p0 : GShared) : AV := .dat 1 ((p0.heads : List Int).map Qal)
def Q10 (p0 : GShared) : AV := .dat 2 ((p0.units : List GUnit).map Qcj)
def Zaa : AV := .fn (.func 86) [] [(.ref 0 2 (0) 0)]
def Q52 (p0 : GShared) : Slot := .own 2 [[(Qp8 p0), (Q10 p0)]]
theorem Qlk (N : Nat) (p0 : GShared) (r : Bool) (h : Qhm N p0 = some r) : Spec Tryz.prog 59 [(.agg (Qq8 p0))] [] (B r) [] := by
  refine Qac Tryz.func59 rfl 0 (nle rfl) (fun X φ0 w0 hφ0 hd0 => ?_)
  unfold Qhm at h
  refine wx tbk [] trivial ?_
  obtain ⟨x2, hf1, h⟩ := bno h
  rcases bft (x2) with hb3 | hb3
  ·replace h := Qau hb3 h
   obtain ⟨x5, hf4, h⟩ := bno h
   rcases bft (x5) with hb6 | hb6
   ·replace h := Qau hb6 h
    obtain ⟨x8, hf7, h⟩ := bno h
    rcases bft (x8) with hb9 | hb9
    ·replace h := Qau hb9 h
     obtain ⟨x11, hf10, h⟩ := bno h
     refine wx tbk [(2, rp [(.tmp 4, (Qp8 p0))] (I ((p0.heads.length : Int)))), (3, rp [fu 56, (.tmp 5, (I ((p0.heads.length : Int)))), ci 1, ci 6] (B x2)), (4, rp [(.tmp 6, B x2)] (B true)), (7, rp [(.tmp 7, B true), fu 83, (.tmp 9, (Qp8 p0)), fu 84] (B x5)), (9, rp [(.tmp 11, B x5)] (B true)), (12, rp [(.tmp 12, B true), (.tmp 14, (Q10 p0))] (I ((p0.units.length : Int)))), (13, rp [(.tmp 12, B true), fu 56, (.tmp 15, (I ((p0.units.length : Int)))), ci 1, ci 10] (B x8)), (15, rp [(.tmp 17, B x8)] (B true)), (18, rp [(.tmp 18, B true), (.tmp 1, .ref 0 2 0 0)] Zaa), (19, ⟨[(.tmp 18, B true), fu 85, (.tmp 20, (Q10 p0)), (.tmp 21, Zaa)], [(0, (Q52 p0))], B x11, [(0, (Q52 p0))], false⟩)] ⟨alm (c := Qal) (l := p0.heads) (aln rfl Tryz.underlying73 rfl), apc (first := []) (cap := []) (vs := [(I ((p0.heads.length : Int))), I 1, I 6]) rfl Qbs (Qad N (p0.heads.length : Int) 1 6 _ hf1) rfl rfl (nlc nll (nlc nll (nlc nll nl0))) nll rfl, asb hb3 (amv rfl), ag_ (Qah (first := []) (cap := []) (vs := [(Qp8 p0), (.fn (.func 84) [] [])]) (σr := []) (σr' := []) (res' := (B x5)) [] rfl Qlc (Qhn N p0.heads _ hf4) rfl (Qbc (rnc (.plain _ (nld Qab _)) (rnc (.plain _ (NLt.fn _ _ _ nl0 nl0)) rn0))) Qag Qag (.plain _ nll) rfl rfl rfl), asb hb6 (amv rfl), ag_ (alm (c := Qcj) (l := p0.units) (aln rfl Tryz.underlying74 rfl)), ag_ (apc (first := []) (cap := []) (vs := [(I ((p0.units.length : Int))), I 1, I 10]) rfl Qbs (Qad N (p0.units.length : Int) 1 10 _ hf7) rfl rfl (nlc nll (nlc nll (nlc nll nl0))) nll rfl), asb hb9 (amv rfl), ag_ (Qdb (fs := []) (cs := [.ref 0 2 0 0]) rfl rfl rfl rfl), ag_ (Qah (first := []) (cap := []) (vs := [(Q10 p0), Zaa]) (σr := [(Q52 p0)]) (σr' := [(Q52 p0)]) (res' := (B x11)) [0] rfl Zb2 (Qj9 N p0.units p0.heads p0.units _ hf10) rfl (Qbc (rnc (.plain _ (nld Qax _)) (rnc (Qar rn0 (rnc (Qa2 rfl) rn0)) rn0))) (slc (Qae (rnc (.plain _ (nld Qab _)) (rnc (.plain _ (nld Qax _)) rn0))) Qag) (slc (Qae (rnc (.plain _ (nld Qab _)) (rnc (.plain _ (nld Qax _)) rn0))) Qag) (.plain _ nll) rfl rfl rfl), trivial⟩ ?_
     refine Qaa ?_
     obtain rfl := osi h
     exact fend ⟨[B x11], ⟨rot (by kernel_rfl), trivial⟩, rfl⟩ nll
    ·replace h := Qav hb9 h
     refine wx tbk [(2, rp [(.tmp 4, (Qp8 p0))] (I ((p0.heads.length : Int)))), (3, rp [fu 56, (.tmp 5, (I ((p0.heads.length : Int)))), ci 1, ci 6] (B x2)), (4, rp [(.tmp 6, B x2)] (B true)), (7, rp [(.tmp 7, B true), fu 83, (.tmp 9, (Qp8 p0)), fu 84] (B x5)), (9, rp [(.tmp 11, B x5)] (B true)), (12, rp [(.tmp 12, B true), (.tmp 14, (Q10 p0))] (I ((p0.units.length : Int)))), (13, rp [(.tmp 12, B true), fu 56, (.tmp 15, (I ((p0.units.length : Int)))), ci 1, ci 10] (B x8)), (15, rp [(.tmp 17, B x8)] (B false))] ⟨alm (c := Qal) (l := p0.heads) (aln rfl Tryz.underlying73 rfl), apc (first := []) (cap := []) (vs := [(I ((p0.heads.length : Int))), I 1, I 6]) rfl Qbs (Qad N (p0.heads.length : Int) 1 6 _ hf1) rfl rfl (nlc nll (nlc nll (nlc nll nl0))) nll rfl, asb hb3 (amv rfl), ag_ (Qah (first := []) (cap := []) (vs := [(Qp8 p0), (.fn (.func 84) [] [])]) (σr := []) (σr' := []) (res' := (B x5)) [] rfl Qlc (Qhn N p0.heads _ hf4) rfl (Qbc (rnc (.plain _ (nld Qab _)) (rnc (.plain _ (NLt.fn _ _ _ nl0 nl0)) rn0))) Qag Qag (.plain _ nll) rfl rfl rfl), asb hb6 (amv rfl), ag_ (alm (c := Qcj) (l := p0.units) (aln rfl Tryz.underlying74 rfl)), ag_ (apc (first := []) (cap := []) (vs := [(I ((p0.units.length : Int))), I 1, I 10]) rfl Qbs (Qad N (p0.units.length : Int) 1 10 _ hf7) rfl rfl (nlc nll (nlc nll (nlc nll nl0))) nll rfl), asb hb9 (amv rfl), trivial⟩ ?_
     refine Qaa ?_
     obtain rfl := osi h
     exact fend ⟨[B false], ⟨rot (by kernel_rfl), trivial⟩, rfl⟩ nll
   ·replace h := Qav hb6 h
    refine wx tbk [(2, rp [(.tmp 4, (Qp8 p0))] (I ((p0.heads.length : Int)))), (3, rp [fu 56, (.tmp 5, (I ((p0.heads.length : Int)))), ci 1, ci 6] (B x2)), (4, rp [(.tmp 6, B x2)] (B true)), (7, rp [(.tmp 7, B true), fu 83, (.tmp 9, (Qp8 p0)), fu 84] (B x5)), (9, rp [(.tmp 11, B x5)] (B false))] ⟨alm (c := Qal) (l := p0.heads) (aln rfl Tryz.underlying73 rfl), apc (first := []) (cap := []) (vs := [(I ((p0.heads.length : Int))), I 1, I 6]) rfl Qbs (Qad N (p0.heads.length : Int) 1 6 _ hf1) rfl rfl (nlc nll (nlc nll (nlc nll nl0))) nll rfl, asb hb3 (amv rfl), ag_ (Qah (first := []) (cap := []) (vs := [(Qp8 p0), (.fn (.func 84) [] [])]) (σr := []) (σr' := []) (res' := (B x5)) [] rfl Qlc (Qhn N p0.heads _ hf4) rfl (Qbc (rnc (.plain _ (nld Qab _)) (rnc (.plain _ (NLt.fn _ _ _ nl0 nl0)) rn0))) Qag Qag (.plain _ nll) rfl rfl rfl), asb hb6 (amv rfl), trivial⟩ ?_
    refine Qaa ?_
    obtain rfl := osi h
    exact fend ⟨[B false], ⟨rot (by kernel_rfl), trivial⟩, rfl⟩ nll
  ·replace h := Qav hb3 h
   refine wx tbk [(2, rp [(.tmp 4, (Qp8 p0))] (I ((p0.heads.length : Int)))), (3, rp [fu 56, (.tmp 5, (I ((p0.heads.length : Int)))), ci 1, ci 6] (B x2)), (4, rp [(.tmp 6, B x2)] (B false))] ⟨alm (c := Qal) (l := p0.heads) (aln rfl Tryz.underlying73 rfl), apc (first := []) (cap := []) (vs := [(I ((p0.heads.length : Int))), I 1, I 6]) rfl Qbs (Qad N (p0.heads.length : Int) 1 6 _ hf1) rfl rfl (nlc nll (nlc nll (nlc nll nl0))) nll rfl, asb hb3 (amv rfl), trivial⟩ ?_
   refine Qaa ?_
   obtain rfl := osi h
   exact fend ⟨[B false], ⟨rot (by kernel_rfl), trivial⟩, rfl⟩ nll
def Qd0 (N : Nat) (p0 : GShared) (p1 : (List Int)) (k2 : Int → Option Int) : Nat → Int → Int → Option Int
  | 0, _, _ => none
  | n7 + 1, y3, y4 =>
    bif (decide (y4 < (p1.length : Int))) then
     (getI p1 y4).bind fun x9 =>
     (getI p0.units y4).bind fun x13 =>
     (Qed N x13 x9).bind fun x18 =>
     Qd0 N p0 p1 k2 n7 (w64 (y3 + x18)) (w64 (y4 + 1))
    else
     k2 (y3)
def Qh1 (N : Nat) (p0 : GShared) (p1 : (List Int)) : Option Int :=
  Qc4 (fun y1 =>
    some y1) fun k2 : Int → Option Int =>
  Qd0 N p0 p1 k2 N 0 0
def Q0a (p1 : (List Int)) : AV := .dat 1 ((p1 : List Int).map Qal)
def Zdw (p0 : GShared) : AV := .dat 2 ((p0.units : List GUnit).map Qcj)
def Q5z (p0 : GShared) : Slot := .own 2 [[(.dat 1 ((p0.heads : List Int).map Qal)), (Zdw p0)]]
theorem Ql4 (N : Nat) (p0 : GShared) (p1 : (List Int)) (r : Int) (h : Qh1 N p0 p1 = some r) : Spec Tryz.prog 61 [(.agg (Qq8 p0)), (.dat 1 (p1.map Qal))] [] (I r) [] := by
  refine Qac Tryz.func61 rfl 0 (nle rfl) (fun X φ0 w0 hφ0 hd0 => ?_)
  unfold Qh1 at h
  refine wx tbk [] trivial ?_
  obtain ⟨k2, hk_k2, h⟩ := jko h
  refine wjn (τ := Int) (fun t => k2 t = some r) (fun y1 => ⟨mk 25 [(4, I y1)], []⟩) (fun y1 h => ?_) ?_
  ·subst hk_k2
   refine wx tbk [] trivial ?_
   refine Qaa ?_
   obtain rfl := osi h
   exact fend ⟨[I y1], ⟨rot (by kernel_rfl), trivial⟩, rfl⟩ nll
  ·skip
   refine wx tbk [(1, rp [(.tmp 7, (Q0a p1))] (I ((p1.length : Int))))] ⟨alm (c := Qal) (l := p1) (aln rfl Tryz.underlying73 rfl), trivial⟩ ?_
   refine Qaj ?_
   refine wmr (mto (n := 25) (l' := [(2, .ref 0 2 0 0), (4, I 0), (7, (Q0a p1)), (8, (I ((p1.length : Int)))), (9, I 0)]) (own' := [(Q5z p0)]) [(2, .ref 0 2 0 0), (4, I 0), (7, (Q0a p1)), (8, (I ((p1.length : Int)))), (9, I 0)] [0] [(Q5z p0)] hφ0 (pc (.rn (rqr rfl)) (pc rwl (pc (.rn (.plain _ (nld Qab _))) (pc rwl (pc rwl pn))))) (qc (spb (lc (.rn (.plain _ (nld Qab _))) (lc (.rn (.plain _ (nld Qax _))) ln))) qn)) ?_
   refine Qck (τ := Int × Int) (fun n t => Qd0 N p0 p1 k2 n t.1 t.2 = some r) (fun ⟨y3, y4⟩ => ⟨mk 25 [(2, .ref 0 2 0 0), (4, I y3), (7, (Q0a p1)), (8, (I ((p1.length : Int)))), (9, I y4)], [(Q5z p0)]⟩) (fun t h => by rw [Qd0] at h; cases h) (fun n7 ih t h => ?_) N (0, 0) h
   obtain ⟨y3, y4⟩ := t
   rw [Qd0] at h
   skip
   refine wx tbk [] trivial ?_
   refine wsq ?_
   rcases bft ((decide (y4 < (p1.length : Int)))) with hc8 | hc8
   ·replace h := Qau hc8 h
    refine wft hc8 (by kernel_rfl) ?_
    refine Qam ?_
    refine thn ?_
    refine wsq ?_
    refine Qaj ?_
    obtain ⟨x9, hg10, h⟩ := bno h
    obtain ⟨hi11, hj12⟩ := gsm hg10
    refine wx tbk [(1, rp [(.tmp 7, (Q0a p1)), (.tmp 9, I y4)] (.dptr (Qal (x9)) 0))] ⟨aid rfl Tryz.underlying73 ti3 rfl rfl hi11 (mgt Qal hj12) rfl, trivial⟩ ?_
    obtain ⟨x13, hg14, h⟩ := bno h
    obtain ⟨hi15, hj16⟩ := gsm hg14
    obtain ⟨x18, hf17, h⟩ := bno h
    refine wx1 tbk [(4, rp [(.tmp 16, (Zdw p0)), (.tmp 17, I y4)] (.dptr (Qcj (x13)) 0)), (7, rp [fu 55, (.tmp 19, (.agg [I x13.Inlet, (.dat 2 ((x13.Parts : List GPart).map Qba))])), (.tmp 20, I x9)] (I x18))] ⟨aid rfl Tryz.underlying74 ti45 rfl rfl hi15 (mgt Qcj hj16) rfl, apc (first := []) (cap := []) (vs := [(.agg [I x13.Inlet, (.dat 2 ((x13.Parts : List GPart).map Qba))]), I x9]) rfl Qxo (Qg9 N x13 x9 _ hf17) rfl rfl (nlc (NLt.agg _ (nlc nll (nlc (nld Qao _) nl0))) (nlc nll nl0)) nll rfl, trivial⟩ ?_
    refine bln ?_
    refine thn ?_
    refine wx1 tbk [] trivial ?_
    refine thn ?_
    exact arm (mto (n := 25) [(2, .ref 0 2 0 0), (4, (I (w64 (y3 + x18)))), (7, (Q0a p1)), (8, (I ((p1.length : Int)))), (9, (I (w64 (y4 + 1))))] [0] [(Q5z p0)] hφ0 (pc (.rn (rqr rfl)) (pc rwl (pc (.rn (.plain _ (nld Qab _))) (pc rwl (pc rwl pn))))) (qc (spb (lc (.rn (.plain _ (nld Qab _))) (lc (.rn (.plain _ (nld Qax _))) ln))) qn)) (ih (w64 (y3 + x18), w64 (y4 + 1)) h)
   ·replace h := Qav hc8 h
    refine wfn hc8 (by kernel_rfl) ?_
    refine Qbr ?_
    refine Qay ?_
    refine Qay ?_
    refine Qbq rfl ?_
    refine thn ?_
    exact ⟨(y3), h, (mto (n := 25) [(4, I y3)] [] [] hφ0 (pc rwl pn) qn)⟩
def Qfh (N : Nat) (p0 : (List Int)) (y7 : (List Int)) (k10 : (List Int) → Option ((List Int) × Int × (List Int) × Int)) : Nat → (List Int) → Int → Int → Option ((List Int) × Int × (List Int) × Int)
  | 0, _, _, _ => none
  | n19 + 1, y13, y14, y15 =>
    bif (decide (y15 < (((p0.length : Int).toNat : Nat) : Int))) then
     chk (decide (0 ≤ y15) && decide (y15.toNat < (p0.length : Int).toNat)) <|
     (y7[y15.toNat]?).bind fun x22 =>
     chk (decide ((y13.length + ([w64 (x22 - y14)]).length) * 8 ≤ 140737488355328)) <|
     Qfh N p0 y7 k10 n19 (y13 ++ ([w64 (x22 - y14)])) x22 (w64 (y15 + 1))
    else
     k10 (y13)
def Qff (N : Nat) (p0 : (List Int)) (k32 : (List Int) → Option ((List Int) × Int × (List Int) × Int)) (x37 : Int) : Nat → Int → (List Int) → Option ((List Int) × Int × (List Int) × Int)
  | 0, _, _ => none
  | n48 + 1, y44, y45 =>
    bif (decide (y44 < (((p0.length : Int).toNat : Nat) : Int))) then
     chk (decide (0 ≤ y44) && decide (y44.toNat < (p0.length : Int).toNat)) <|
     (y45[y44.toNat]?).bind fun x51 =>
     chk (decide (0 ≤ y44) && decide (y44.toNat < (p0.length : Int).toNat)) <|
     (y45[y44.toNat]?).bind fun _ =>
     Qff N p0 k32 x37 n48 (w64 (y44 + 1)) (y45.set y44.toNat (if x37 > x51 then x37 else x51))
    else
     k32 (y45)
def Qfe (N : Nat) (x5 : ((List Int) × (List Int) × (List Int))) (k43 : Int → Option ((List Int) × Int × (List Int) × Int)) : Nat → Int → Option ((List Int) × Int × (List Int) × Int)
  | 0, _ => none
  | n58 + 1, y56 =>
    (getI x5.2.1 y56).bind fun x59 =>
    bif (decide (x59 > 0)) then
     Qfe N x5 k43 n58 (w64 (y56 - 1))
    else
     k43 (y56)
def Qfg (N : Nat) (p0 : (List Int)) (p1 : (List GUnit)) (x5 : ((List Int) × (List Int) × (List Int))) (k8 : (List Int) → Option ((List Int) × Int × (List Int) × Int)) : Nat → Int → (List Int) → Option ((List Int) × Int × (List Int) × Int)
  | 0, _, _ => none
  | n29 + 1, y25, y26 =>
    bif (decide (y25 < (p1.length : Int))) then
     Qc4 (fun y31 =>
       Qfg N p0 p1 x5 k8 n29 (w64 (y25 + 1)) y31) fun k32 : (List Int) → Option ((List Int) × Int × (List Int) × Int) =>
     (getI p1 y25).bind fun x33 =>
     (getI x5.2.2 y25).bind fun x37 =>
     bif (decide (x37 ≤ 0)) then
      k32 (y26)
     else
      Qc4 (fun y42 =>
        Qff N p0 k32 x37 N y42 y26) fun k43 : Int → Option ((List Int) × Int × (List Int) × Int) =>
      Qfe N x5 k43 N x33.Inlet
    else
     k8 (y26)
def Qmb (N : Nat) (p0 : (List Int)) (p1 : (List GUnit)) : Option ((List Int) × Int × (List Int) × Int) :=
  (Qhm N (⟨p0, p1⟩ : GShared)).bind fun x2 =>
  bif (!x2) then
   some ([], 0, [], 1)
  else
   (Qh3 N (⟨p0, p1⟩ : GShared)).bind fun x5 =>
   chk (decide (0 ≤ (p0.length : Int)) && decide (8 * (p0.length : Int) ≤ 281474976710656) && decide ((p0.length : Int) ≤ 9223372036854775807)) <|
   Qc4 (fun y7 =>
     Qc4 (fun y9 =>
       (Qh1 N (⟨p0, p1⟩ : GShared) x5.1).bind fun x12 =>
       some (x5.1, x12, y9, 0)) fun k10 : (List Int) → Option ((List Int) × Int × (List Int) × Int) =>
     Qfh N p0 y7 k10 N ([]) 0 0) fun k8 : (List Int) → Option ((List Int) × Int × (List Int) × Int) =>
   Qfg N p0 p1 x5 k8 N 0 (List.replicate (p0.length : Int).toNat 0)
def Q13 (p0 : (List Int)) : AV := .dat 1 ((p0 : List Int).map Qal)
def Qjw (p1 : (List GUnit)) : AV := .dat 2 ((p1 : List GUnit).map Qcj)
def Qwr (p0 : (List Int)) (p1 : (List GUnit)) : AV := .agg [(Q13 p0), (Qjw p1)]
def Q12 : AV := .dat 1 (([] : List Int).map Qal)
def Qht (x5 : ((List Int) × (List Int) × (List Int))) : AV := .dat 1 ((x5.1 : List Int).map Qal)
def Qkx (x5 : ((List Int) × (List Int) × (List Int))) : AV := .dat 1 ((x5.2.1 : List Int).map Qal)
def Qkm (x5 : ((List Int) × (List Int) × (List Int))) : AV := .dat 1 ((x5.2.2 : List Int).map Qal)
def Zdx (p0 : (List Int)) : Slot := .own 1 ((List.replicate (p0.length : Int).toNat 0 : List Int).map Qal)
def Qi8 (p0 : (List Int)) (p1 : (List GUnit)) : Slot := .own 2 [[(Q13 p0), (Qjw p1)]]
def Qp9 (y7 : (List Int)) : Slot := .own 1 ((y7 : List Int).map Qal)
def Q11 (y13 : (List Int)) : AV := .acc 0 3 1 ((y13 : List Int).map Qal)
def Qls (y26 : (List Int)) : Slot := .own 1 ((y26 : List Int).map Qal)
def Qow (y45 : (List Int)) : Slot := .own 1 ((y45 : List Int).map Qal)
theorem Qqr (N : Nat) (p0 : (List Int)) (p1 : (List GUnit)) (r : ((List Int) × Int × (List Int) × Int)) (h : Qmb N p0 p1 = some r) : Spec Tryz.prog 24 [(.dat 1 (p0.map Qal)), (.dat 2 (p1.map Qcj))] [] (.tup [(.dat 1 (r.1.map Qal)), (I r.2.1), (.dat 1 (r.2.2.1.map Qal)), (I r.2.2.2)]) [] := by
  refine Qac Tryz.func24 rfl 0 (nle rfl) (fun X φ0 w0 hφ0 hd0 => ?_)
  unfold Qmb at h
  refine wx tbk [] trivial ?_
  refine wx tbk [(2, rp [(.tmp 18, (Q13 p0)), (.tmp 19, (Qjw p1))] (Qwr p0 p1))] ⟨Qas (vs := [(Q13 p0), (Qjw p1)]) rfl Ze6 Zea rfl (by rfl) rfl, trivial⟩ ?_
  refine wsq ?_
  obtain ⟨x2, hf1, h⟩ := bno h
  refine wx tbk [(1, rp [fu 59, (.tmp 21, (Qwr p0 p1))] (B x2))] ⟨apc (first := []) (cap := []) (vs := [(Qwr p0 p1)]) rfl Zck (Qlk N (⟨p0, p1⟩ : GShared) _ hf1) rfl rfl (nlc (NLt.agg _ (nlc (nld Qab _) (nlc (nld Qax _) nl0))) nl0) nll rfl, trivial⟩ ?_
  rcases bft ((!x2)) with hc3 | hc3
  ·replace h := Qau hc3 h
   refine wft hc3 (by kernel_rfl) ?_
   refine wx tbk [] trivial ?_
   refine Qaa ?_
   refine Qan ?_
   obtain rfl := osi h
   exact fend ⟨[Q12, I 0, Q12, I 1], ⟨Qjt (v := nilS) (rot (by kernel_rfl)) Less.nil, rot (by kernel_rfl), Qjt (v := nilS) (rot (by kernel_rfl)) Less.nil, rot (by kernel_rfl), trivial⟩, rfl⟩ (NLt.tup _ (nlc (nld Qab _) (nlc nll (nlc (nld Qab _) (nlc nll nl0)))))
  ·replace h := Qav hc3 h
   refine wfn hc3 (by kernel_rfl) ?_
   refine Qam ?_
   refine thn ?_
   obtain ⟨x5, hf4, h⟩ := bno h
   refine wx tbk [(1, rp [fu 60, (.tmp 25, (Qwr p0 p1))] (.tup [(Qht x5), (Qkx x5), (Qkm x5)]))] ⟨apc (first := []) (cap := []) (vs := [(Qwr p0 p1)]) rfl Zcj (Ql5 N (⟨p0, p1⟩ : GShared) _ hf4) rfl rfl (nlc (NLt.agg _ (nlc (nld Qab _) (nlc (nld Qax _) nl0))) nl0) (NLt.tup _ (nlc (nld Qab _) (nlc (nld Qab _) (nlc (nld Qab _) nl0)))) rfl, trivial⟩ ?_
   obtain ⟨hm6, h⟩ := cko h
   refine wx tbk [(1, rp [(.tmp 30, (Q13 p0))] (I ((p0.length : Int)))), (2, ⟨[(.tmp 31, (I ((p0.length : Int)))), (.tmp 31, (I ((p0.length : Int))))], [(1, .unused)], (.own 1 1 (0) ((p0.length : Int).toNat)), [(1, (Zdx p0))], false⟩)] ⟨alm (c := Qal) (l := p0) (aln rfl Tryz.underlying73 rfl), Qju rfl Tryz.underlying73 te3 tz3 rfl (Qv8 hm6) rfl (Qv7 hm6) (Qsp hm6) (Qtf Qal rfl), trivial⟩ ?_
   obtain ⟨k8, hk_k8, h⟩ := jko h
   refine wjn (τ := (List Int)) (fun t => k8 t = some r) (fun y7 => ⟨mk 92 [(4, (Qht x5)), (6, nilS), (8, .ref 0 2 0 0), (11, (.own 1 1 (0) ((p0.length : Int).toNat)))], [(Qi8 p0 p1), (Qp9 y7)]⟩) (fun y7 h => ?_) ?_
   ·subst hk_k8
    refine wx tbk [] trivial ?_
    obtain ⟨k10, hk_k10, h⟩ := jko h
    refine wjn (τ := (List Int)) (fun t => k10 t = some r) (fun y9 => ⟨mk 92 [(4, (Qht x5)), (6, (.acc 0 3 1 ((y9 : List Int).map Qal))), (8, .ref 1 2 0 0)], [.tok, (Qi8 p0 p1)]⟩) (fun y9 h => ?_) ?_
    ·subst hk_k10
     obtain ⟨x12, hf11, h⟩ := bno h
     refine wx tbk [(3, rp [fu 61, (.tmp 88, (Qwr p0 p1)), (.tmp 89, (Qht x5))] (I x12))] ⟨apc (first := []) (cap := []) (vs := [(Qwr p0 p1), (Qht x5)]) rfl Zci (Ql4 N (⟨p0, p1⟩ : GShared) x5.1 _ hf11) rfl rfl (nlc (NLt.agg _ (nlc (nld Qab _) (nlc (nld Qax _) nl0))) (nlc (nld Qab _) nl0)) nll rfl, trivial⟩ ?_
     refine Qaa ?_
     obtain rfl := osi h
     exact fend ⟨[(Qht x5), I x12, (.dat 1 ((y9 : List Int).map Qal)), I 0], ⟨rot (by kernel_rfl), rot (by kernel_rfl), Qjt (v := (.acc 0 3 1 ((y9 : List Int).map Qal))) (rot (by kernel_rfl)) Less.acc, rot (by kernel_rfl), trivial⟩, rfl⟩ (NLt.tup _ (nlc (nld Qab _) (nlc nll (nlc (nld Qab _) (nlc nll nl0)))))
    ·skip
     refine wx tbk [(1, rp [(.tmp 73, (.own 1 1 (0) ((p0.length : Int).toNat)))] (I ((((p0.length : Int).toNat : Nat) : Int))))] ⟨aln rfl Tryz.underlying73 rfl, trivial⟩ ?_
     refine Qaj ?_
     refine wmr (Mor.trans (Qtg 2 3 1 6 (by kernel_rfl) (by kernel_rfl)) (mto (n := 92) (l' := [(4, (Qht x5)), (6, (.acc 0 3 1 ((([]) : List Int).map Qal))), (8, .ref 1 2 0 0), (15, I 0), (73, (.own 2 1 (0) ((p0.length : Int).toNat))), (74, (I ((((p0.length : Int).toNat : Nat) : Int)))), (75, I 0)]) (own' := [.tok, (Qi8 p0 p1), (Qp9 y7)]) [(4, (Qht x5)), (6, (.acc 2 3 1 (([] : List Int).map Qal))), (8, .ref 0 2 0 0), (15, I 0), (73, (.own 1 1 (0) ((p0.length : Int).toNat))), (74, (I ((((p0.length : Int).toNat : Nat) : Int)))), (75, I 0)] [2, 0, 1] [.tok, (Qi8 p0 p1), (Qp9 y7)] hφ0 (pc (.rn (.plain _ (nld Qab _))) (pc (.rn (Qhj rfl (Qfo Qab _))) (pc (.rn (rqr rfl)) (pc rwl (pc (.rn (Qak rfl)) (pc rwl (pc rwl pn))))))) (qc .tok (qc (spb (lc (.rn (.plain _ (nld Qab _))) (lc (.rn (.plain _ (nld Qax _))) ln))) (qc (spr Qab) qn))))) ?_
     refine Qck (τ := (List Int) × Int × Int) (fun n t => Qfh N p0 y7 k10 n t.1 t.2.1 t.2.2 = some r) (fun ⟨y13, y14, y15⟩ => ⟨mk 92 [(4, (Qht x5)), (6, (Q11 y13)), (8, .ref 1 2 0 0), (15, I y14), (73, (.own 2 1 (0) ((p0.length : Int).toNat))), (74, (I ((((p0.length : Int).toNat : Nat) : Int)))), (75, I y15)], [.tok, (Qi8 p0 p1), (Qp9 y7)]⟩) (fun t h => by rw [Qfh] at h; cases h) (fun n19 ih t h => ?_) N ([], 0, 0) h
     obtain ⟨y13, y14, y15⟩ := t
     rw [Qfh] at h
     skip
     refine wx tbk [] trivial ?_
     refine wsq ?_
     rcases bft ((decide (y15 < (((p0.length : Int).toNat : Nat) : Int)))) with hc20 | hc20
     ·replace h := Qau hc20 h
      refine wft hc20 (by kernel_rfl) ?_
      refine Qam ?_
      refine thn ?_
      refine wsq ?_
      refine Qaj ?_
      obtain ⟨hi21, h⟩ := cko h
      obtain ⟨hi21a, hi21b⟩ := Qbi hi21
      obtain ⟨x22, hg23, h⟩ := bno h
      refine wx tbk [(0, rb [(.tmp 73, (.own 2 1 (0) ((p0.length : Int).toNat))), (.tmp 75, I y15)] [(2, (Qp9 y7))] (.ref 2 1 (y15.toNat) 0)), (1, rb [(.tmp 77, (.ref 2 1 (y15.toNat) 0))] [(2, (Qp9 y7))] (I x22))] ⟨aio rfl Tryz.underlying73 ti3 (odt hi21a) (odt hi21b) (Nat.zero_add _), ald rfl ti3 (by decide) (mgt Qal hg23) (nle rfl) rfl, trivial⟩ ?_
      obtain ⟨ha24, h⟩ := cko h
      refine wx tbk [(4, rp [(.tmp 82, (I (w64 (x22 - y14))))] (.dat 1 (([w64 (x22 - y14)] : List Int).map Qal))), (5, ⟨[(.tmp 79, (Q11 y13)), (.tmp 83, (.dat 1 (([w64 (x22 - y14)] : List Int).map Qal)))], [(0, .tok), (3, .unused)], (.acc 3 3 1 ((y13 ++ ([w64 (x22 - y14)]) : List Int).map Qal)), [(0, .dead), (3, .tok)], false⟩)] ⟨Qca (vs := [(I (w64 (x22 - y14)))]) rfl Tryz.underlying73 ti3 tz3 rfl (by decide) rfl (by decide) (by rfl) (by rfl) (by rfl) rfl, Qmo rfl Tryz.underlying73 te3 (Base.acc _ _) rfl rfl (by rfl) (Qri Qal ha24) (Qrh Qal ha24 (by decide)) (Qrg Qal) rfl rfl, trivial⟩ ?_
      refine wx1 tbk [] trivial ?_
      refine bln ?_
      refine thn ?_
      refine wx1 tbk [] trivial ?_
      refine thn ?_
      exact arm (mto (n := 92) [(4, (Qht x5)), (6, (.acc 3 3 1 ((y13 ++ ([w64 (x22 - y14)]) : List Int).map Qal))), (8, .ref 1 2 0 0), (15, I x22), (73, (.own 2 1 (0) ((p0.length : Int).toNat))), (74, (I ((((p0.length : Int).toNat : Nat) : Int)))), (75, (I (w64 (y15 + 1))))] [3, 1, 2] [.tok, (Qi8 p0 p1), (Qp9 y7)] hφ0 (pc (.rn (.plain _ (nld Qab _))) (pc (.rn (Qhj rfl (Qfo Qab _))) (pc (.rn (rqr rfl)) (pc rwl (pc (.rn (Qak rfl)) (pc rwl (pc rwl pn))))))) (qc .tok (qc (spb (lc (.rn (.plain _ (nld Qab _))) (lc (.rn (.plain _ (nld Qax _))) ln))) (qc (spr Qab) qn)))) (ih (y13 ++ ([w64 (x22 - y14)]), x22, w64 (y15 + 1)) h)
     ·replace h := Qav hc20 h
      refine wfn hc20 (by kernel_rfl) ?_
      refine Qbr ?_
      refine Qay ?_
      refine Qay ?_
      refine Qbq rfl ?_
      refine thn ?_
      exact ⟨(y13), h, (mto (n := 92) [(4, (Qht x5)), (6, (Q11 y13)), (8, .ref 1 2 0 0)] [0, 1] [.tok, (Qi8 p0 p1)] hφ0 (pc (.rn (.plain _ (nld Qab _))) (pc (.rn (Qhj rfl (Qfo Qab _))) (pc (.rn (rqr rfl)) pn))) (qc .tok (qc (spb (lc (.rn (.plain _ (nld Qab _))) (lc (.rn (.plain _ (nld Qax _))) ln))) qn)))⟩
   ·skip
    refine wx tbk [(1, rp [(.tmp 33, (Qjw p1))] (I ((p1.length : Int))))] ⟨alm (c := Qcj) (l := p1) (aln rfl Tryz.underlying74 rfl), trivial⟩ ?_
    refine Qaj ?_
    refine wmr (mto (n := 92) (l' := [(4, (Qht x5)), (6, nilS), (8, .ref 0 2 0 0), (9, (Qkx x5)), (10, (Qkm x5)), (11, (.own 1 1 (0) ((p0.length : Int).toNat))), (33, (Qjw p1)), (34, (I ((p1.length : Int)))), (35, I 0)]) (own' := [(Qi8 p0 p1), (.own 1 (((List.replicate (p0.length : Int).toNat 0) : List Int).map Qal))]) [(4, (Qht x5)), (6, nilS), (8, .ref 0 2 0 0), (9, (Qkx x5)), (10, (Qkm x5)), (11, (.own 1 1 (0) ((p0.length : Int).toNat))), (33, (Qjw p1)), (34, (I ((p1.length : Int)))), (35, I 0)] [0, 1] [(Qi8 p0 p1), (Zdx p0)] hφ0 (pc (.rn (.plain _ (nld Qab _))) (pc rwl (pc (.rn (rqr rfl)) (pc (.rn (.plain _ (nld Qab _))) (pc (.rn (.plain _ (nld Qab _))) (pc (.rn (Qak rfl)) (pc (.rn (.plain _ (nld Qax _))) (pc rwl (pc rwl pn))))))))) (qc (spb (lc (.rn (.plain _ (nld Qab _))) (lc (.rn (.plain _ (nld Qax _))) ln))) (qc (spr Qab) qn))) ?_
    refine Qck (τ := Int × (List Int)) (fun n t => Qfg N p0 p1 x5 k8 n t.1 t.2 = some r) (fun ⟨y25, y26⟩ => ⟨mk 92 [(4, (Qht x5)), (6, nilS), (8, .ref 0 2 0 0), (9, (Qkx x5)), (10, (Qkm x5)), (11, (.own 1 1 (0) ((p0.length : Int).toNat))), (33, (Qjw p1)), (34, (I ((p1.length : Int)))), (35, I y25)], [(Qi8 p0 p1), (Qls y26)]⟩) (fun t h => by rw [Qfg] at h; cases h) (fun n29 ih t h => ?_) N (0, List.replicate (p0.length : Int).toNat 0) h
    obtain ⟨y25, y26⟩ := t
    rw [Qfg] at h
    skip
    refine wx tbk [] trivial ?_
    refine wsq ?_
    rcases bft ((decide (y25 < (p1.length : Int)))) with hc30 | hc30
    ·replace h := Qau hc30 h
     refine wft hc30 (by kernel_rfl) ?_
     refine Qam ?_
     refine thn ?_
     obtain ⟨k32, hk_k32, h⟩ := jko h
     refine wjn (τ := (List Int)) (fun t => k32 t = some r) (fun y31 => ⟨mk 92 [(4, (Qht x5)), (6, nilS), (8, .ref 0 2 0 0), (9, (Qkx x5)), (10, (Qkm x5)), (11, (.own 1 1 (0) ((p0.length : Int).toNat))), (33, (Qjw p1)), (34, (I ((p1.length : Int)))), (35, I y25)], [(Qi8 p0 p1), (.own 1 ((y31 : List Int).map Qal))]⟩) (fun y31 h => ?_) ?_
     ·subst hk_k32
      refine wx1 tbk [] trivial ?_
      refine thn ?_
      exact arm (mto (n := 92) [(4, (Qht x5)), (6, nilS), (8, .ref 0 2 0 0), (9, (Qkx x5)), (10, (Qkm x5)), (11, (.own 1 1 (0) ((p0.length : Int).toNat))), (33, (Qjw p1)), (34, (I ((p1.length : Int)))), (35, (I (w64 (y25 + 1))))] [0, 1] [(Qi8 p0 p1), (.own 1 ((y31 : List Int).map Qal))] hφ0 (pc (.rn (.plain _ (nld Qab _))) (pc rwl (pc (.rn (rqr rfl)) (pc (.rn (.plain _ (nld Qab _))) (pc (.rn (.plain _ (nld Qab _))) (pc (.rn (Qak rfl)) (pc (.rn (.plain _ (nld Qax _))) (pc rwl (pc rwl pn))))))))) (qc (spb (lc (.rn (.plain _ (nld Qab _))) (lc (.rn (.plain _ (nld Qax _))) ln))) (qc (spr Qab) qn))) (ih (w64 (y25 + 1), y31) h)
     ·skip
      refine Qaj ?_
      obtain ⟨x33, hg34, h⟩ := bno h
      obtain ⟨hi35, hj36⟩ := gsm hg34
      refine wx tbk [(1, rp [(.tmp 33, (Qjw p1)), (.tmp 35, I y25)] (.dptr (Qcj (x33)) 0))] ⟨aid rfl Tryz.underlying74 ti45 rfl rfl hi35 (mgt Qcj hj36) rfl, trivial⟩ ?_
      refine wsq ?_
      obtain ⟨x37, hg38, h⟩ := bno h
      obtain ⟨hi39, hj40⟩ := gsm hg38
      refine wx tbk [(2, rp [(.tmp 40, (Qkm x5)), (.tmp 41, I y25)] (.dptr (Qal (x37)) 0))] ⟨aid rfl Tryz.underlying73 ti3 rfl rfl hi39 (mgt Qal hj40) rfl, trivial⟩ ?_
      rcases bft ((decide (x37 ≤ 0))) with hc41 | hc41
      ·replace h := Qau hc41 h
       refine wft hc41 (by kernel_rfl) ?_
       refine Qbr ?_
       refine Qay ?_
       refine Qbq rfl ?_
       refine thn ?_
       exact ⟨(y26), h, (mto (n := 92) [(4, (Qht x5)), (6, nilS), (8, .ref 0 2 0 0), (9, (Qkx x5)), (10, (Qkm x5)), (11, (.own 1 1 (0) ((p0.length : Int).toNat))), (33, (Qjw p1)), (34, (I ((p1.length : Int)))), (35, I y25)] [0, 1] [(Qi8 p0 p1), (Qls y26)] hφ0 (pc (.rn (.plain _ (nld Qab _))) (pc rwl (pc (.rn (rqr rfl)) (pc (.rn (.plain _ (nld Qab _))) (pc (.rn (.plain _ (nld Qab _))) (pc (.rn (Qak rfl)) (pc (.rn (.plain _ (nld Qax _))) (pc rwl (pc rwl pn))))))))) (qc (spb (lc (.rn (.plain _ (nld Qab _))) (lc (.rn (.plain _ (nld Qax _))) ln))) (qc (spr Qab) qn)))⟩
      ·replace h := Qav hc41 h
       refine wfn hc41 (by kernel_rfl) ?_
       refine Qam ?_
       refine thn ?_
       refine wx tbk [] trivial ?_
       obtain ⟨k43, hk_k43, h⟩ := jko h
       refine wjn (τ := Int) (fun t => k43 t = some r) (fun y42 => ⟨mk 92 [(4, (Qht x5)), (6, nilS), (8, .ref 0 2 0 0), (9, (Qkx x5)), (10, (Qkm x5)), (11, (.own 1 1 (0) ((p0.length : Int).toNat))), (12, I y25), (14, I y42), (33, (Qjw p1)), (34, (I ((p1.length : Int)))), (35, I y25)], [(Qi8 p0 p1), (Qls y26)]⟩) (fun y42 h => ?_) ?_
       ·subst hk_k43
        refine Qaj ?_
        refine wmr (mto (n := 92) (l' := [(4, (Qht x5)), (6, nilS), (8, .ref 0 2 0 0), (9, (Qkx x5)), (10, (Qkm x5)), (11, (.own 1 1 (0) ((p0.length : Int).toNat))), (12, I y25), (14, I y42), (33, (Qjw p1)), (34, (I ((p1.length : Int)))), (35, I y25)]) (own' := [(Qi8 p0 p1), (Qls y26)]) [(4, (Qht x5)), (6, nilS), (8, .ref 0 2 0 0), (9, (Qkx x5)), (10, (Qkm x5)), (11, (.own 1 1 (0) ((p0.length : Int).toNat))), (12, I y25), (14, I y42), (33, (Qjw p1)), (34, (I ((p1.length : Int)))), (35, I y25)] [0, 1] [(Qi8 p0 p1), (Qls y26)] hφ0 (pc (.rn (.plain _ (nld Qab _))) (pc rwl (pc (.rn (rqr rfl)) (pc (.rn (.plain _ (nld Qab _))) (pc (.rn (.plain _ (nld Qab _))) (pc (.rn (Qak rfl)) (pc rwl (pc rwl (pc (.rn (.plain _ (nld Qax _))) (pc rwl (pc rwl pn))))))))))) (qc (spb (lc (.rn (.plain _ (nld Qab _))) (lc (.rn (.plain _ (nld Qax _))) ln))) (qc (spr Qab) qn))) ?_
        refine Qck (τ := Int × (List Int)) (fun n t => Qff N p0 k32 x37 n t.1 t.2 = some r) (fun ⟨y44, y45⟩ => ⟨mk 92 [(4, (Qht x5)), (6, nilS), (8, .ref 0 2 0 0), (9, (Qkx x5)), (10, (Qkm x5)), (11, (.own 1 1 (0) ((p0.length : Int).toNat))), (12, I y25), (14, I y44), (33, (Qjw p1)), (34, (I ((p1.length : Int)))), (35, I y25)], [(Qi8 p0 p1), (Qow y45)]⟩) (fun t h => by rw [Qff] at h; cases h) (fun n48 ih t h => ?_) N (y42, y26) h
        obtain ⟨y44, y45⟩ := t
        rw [Qff] at h
        skip
        refine wsq ?_
        refine wx tbk [(2, rp [(.tmp 55, (.own 1 1 (0) ((p0.length : Int).toNat)))] (I ((((p0.length : Int).toNat : Nat) : Int))))] ⟨aln rfl Tryz.underlying73 rfl, trivial⟩ ?_
        rcases bft ((decide (y44 < (((p0.length : Int).toNat : Nat) : Int)))) with hc49 | hc49
        ·replace h := Qau hc49 h
         refine wft hc49 (by kernel_rfl) ?_
         refine Qam ?_
         refine thn ?_
         refine wsq ?_
         refine Qaj ?_
         obtain ⟨hi50, h⟩ := cko h
         obtain ⟨hi50a, hi50b⟩ := Qbi hi50
         obtain ⟨x51, hg52, h⟩ := bno h
         obtain ⟨hi53, h⟩ := cko h
         obtain ⟨hi53a, hi53b⟩ := Qbi hi53
         obtain ⟨x54, hg55, h⟩ := bno h
         refine wy1 tbk [(4, rb [(.tmp 62, (.own 1 1 (0) ((p0.length : Int).toNat))), (.tmp 63, I y44)] [(1, (Qow y45))] (.ref 1 1 (y44.toNat) 0)), (5, rb [(.tmp 64, (.ref 1 1 (y44.toNat) 0))] [(1, (Qow y45))] (I x51)), (8, rp [(.tmp 66, (Qkm x5)), (.tmp 67, I y25)] (.dptr (Qal (x37)) 0)), (10, rp [(.tmp 65, I x51), (.tmp 69, I x37)] (I ((if x37 > x51 then x37 else x51)))), (11, rb [(.tmp 60, (.own 1 1 (0) ((p0.length : Int).toNat))), (.tmp 61, I y44)] [(1, (Qow y45))] (.ref 1 1 (y44.toNat) 0)), (12, ⟨[(.tmp 71, (.ref 1 1 (y44.toNat) 0)), (.tmp 70, (I ((if x37 > x51 then x37 else x51))))], [(1, (Qow y45))], .any, [(1, (.own 1 ((y45.set y44.toNat (if x37 > x51 then x37 else x51) : List Int).map Qal)))], false⟩)] ⟨aio rfl Tryz.underlying73 ti3 (odt hi50a) (odt hi50b) (Nat.zero_add _), ald rfl ti3 (by decide) (mgt Qal hg52) (nle rfl) rfl, aid rfl Tryz.underlying73 ti3 rfl rfl hi39 (mgt Qal hj40) rfl, Qmn rfl, aio rfl Tryz.underlying73 ti3 (odt hi53a) (odt hi53b) (Nat.zero_add _), ast rfl ti3 (by rfl) (mgt Qal hg55) (nle rfl) (Qhi Qal rfl), trivial⟩ ?_
         refine bln ?_
         refine thn ?_
         refine wx1 tbk [] trivial ?_
         refine thn ?_
         exact arm (mto (n := 92) [(4, (Qht x5)), (6, nilS), (8, .ref 0 2 0 0), (9, (Qkx x5)), (10, (Qkm x5)), (11, (.own 1 1 (0) ((p0.length : Int).toNat))), (12, I y25), (14, (I (w64 (y44 + 1)))), (33, (Qjw p1)), (34, (I ((p1.length : Int)))), (35, I y25)] [0, 1] [(Qi8 p0 p1), (.own 1 ((y45.set y44.toNat (if x37 > x51 then x37 else x51) : List Int).map Qal))] hφ0 (pc (.rn (.plain _ (nld Qab _))) (pc rwl (pc (.rn (rqr rfl)) (pc (.rn (.plain _ (nld Qab _))) (pc (.rn (.plain _ (nld Qab _))) (pc (.rn (Qak rfl)) (pc rwl (pc rwl (pc (.rn (.plain _ (nld Qax _))) (pc rwl (pc rwl pn))))))))))) (qc (spb (lc (.rn (.plain _ (nld Qab _))) (lc (.rn (.plain _ (nld Qax _))) ln))) (qc (spr Qab) qn))) (ih (w64 (y44 + 1), y45.set y44.toNat (if x37 > x51 then x37 else x51)) h)
        ·replace h := Qav hc49 h
         refine wfn hc49 (by kernel_rfl) ?_
         refine Qbr ?_
         refine Qay ?_
         refine Qay ?_
         refine Qbq rfl ?_
         refine bln ?_
         refine thn ?_
         exact ⟨(y45), h, (mto (n := 92) [(4, (Qht x5)), (6, nilS), (8, .ref 0 2 0 0), (9, (Qkx x5)), (10, (Qkm x5)), (11, (.own 1 1 (0) ((p0.length : Int).toNat))), (33, (Qjw p1)), (34, (I ((p1.length : Int)))), (35, I y25)] [0, 1] [(Qi8 p0 p1), (Qow y45)] hφ0 (pc (.rn (.plain _ (nld Qab _))) (pc rwl (pc (.rn (rqr rfl)) (pc (.rn (.plain _ (nld Qab _))) (pc (.rn (.plain _ (nld Qab _))) (pc (.rn (Qak rfl)) (pc (.rn (.plain _ (nld Qax _))) (pc rwl (pc rwl pn))))))))) (qc (spb (lc (.rn (.plain _ (nld Qab _))) (lc (.rn (.plain _ (nld Qax _))) ln))) (qc (spr Qab) qn)))⟩
       ·skip
        refine Qaj ?_
        refine wmr (mto (n := 92) (l' := [(4, (Qht x5)), (6, nilS), (8, .ref 0 2 0 0), (9, (Qkx x5)), (10, (Qkm x5)), (11, (.own 1 1 (0) ((p0.length : Int).toNat))), (12, I y25), (14, I x33.Inlet), (33, (Qjw p1)), (34, (I ((p1.length : Int)))), (35, I y25)]) (own' := [(Qi8 p0 p1), (Qls y26)]) [(4, (Qht x5)), (6, nilS), (8, .ref 0 2 0 0), (9, (Qkx x5)), (10, (Qkm x5)), (11, (.own 1 1 (0) ((p0.length : Int).toNat))), (12, I y25), (14, I x33.Inlet), (33, (Qjw p1)), (34, (I ((p1.length : Int)))), (35, I y25)] [0, 1] [(Qi8 p0 p1), (Qls y26)] hφ0 (pc (.rn (.plain _ (nld Qab _))) (pc rwl (pc (.rn (rqr rfl)) (pc (.rn (.plain _ (nld Qab _))) (pc (.rn (.plain _ (nld Qab _))) (pc (.rn (Qak rfl)) (pc rwl (pc rwl (pc (.rn (.plain _ (nld Qax _))) (pc rwl (pc rwl pn))))))))))) (qc (spb (lc (.rn (.plain _ (nld Qab _))) (lc (.rn (.plain _ (nld Qax _))) ln))) (qc (spr Qab) qn))) ?_
        refine Qck (τ := Int) (fun n t => Qfe N x5 k43 n t = some r) (fun y56 => ⟨mk 92 [(4, (Qht x5)), (6, nilS), (8, .ref 0 2 0 0), (9, (Qkx x5)), (10, (Qkm x5)), (11, (.own 1 1 (0) ((p0.length : Int).toNat))), (12, I y25), (14, I y56), (33, (Qjw p1)), (34, (I ((p1.length : Int)))), (35, I y25)], [(Qi8 p0 p1), (Qls y26)]⟩) (fun t h => by rw [Qfe] at h; cases h) (fun n58 ih y56 h => ?_) N (x33.Inlet) h
        rw [Qfe] at h
        skip
        refine wsq ?_
        obtain ⟨x59, hg60, h⟩ := bno h
        obtain ⟨hi61, hj62⟩ := gsm hg60
        refine wx tbk [(2, rp [(.tmp 47, (Qkx x5)), (.tmp 48, I y56)] (.dptr (Qal (x59)) 0))] ⟨aid rfl Tryz.underlying73 ti3 rfl rfl hi61 (mgt Qal hj62) rfl, trivial⟩ ?_
        rcases bft ((decide (x59 > 0))) with hc63 | hc63
        ·replace h := Qau hc63 h
         refine wft hc63 (by kernel_rfl) ?_
         refine Qam ?_
         refine thn ?_
         refine Qaj ?_
         refine wx1 tbk [] trivial ?_
         refine bln ?_
         refine thn ?_
         exact arm (mto (n := 92) [(4, (Qht x5)), (6, nilS), (8, .ref 0 2 0 0), (9, (Qkx x5)), (10, (Qkm x5)), (11, (.own 1 1 (0) ((p0.length : Int).toNat))), (12, I y25), (14, (I (w64 (y56 - 1)))), (33, (Qjw p1)), (34, (I ((p1.length : Int)))), (35, I y25)] [0, 1] [(Qi8 p0 p1), (Qls y26)] hφ0 (pc (.rn (.plain _ (nld Qab _))) (pc rwl (pc (.rn (rqr rfl)) (pc (.rn (.plain _ (nld Qab _))) (pc (.rn (.plain _ (nld Qab _))) (pc (.rn (Qak rfl)) (pc rwl (pc rwl (pc (.rn (.plain _ (nld Qax _))) (pc rwl (pc rwl pn))))))))))) (qc (spb (lc (.rn (.plain _ (nld Qab _))) (lc (.rn (.plain _ (nld Qax _))) ln))) (qc (spr Qab) qn))) (ih (w64 (y56 - 1)) h)
        ·replace h := Qav hc63 h
         refine wfn hc63 (by kernel_rfl) ?_
         refine Qbr ?_
         refine Qay ?_
         refine Qay ?_
         refine Qbq rfl ?_
         refine thn ?_
         exact ⟨(y56), h, (mto (n := 92) [(4, (Qht x5)), (6, nilS), (8, .ref 0 2 0 0), (9, (Qkx x5)), (10, (Qkm x5)), (11, (.own 1 1 (0) ((p0.length : Int).toNat))), (12, I y25), (14, I y56), (33, (Qjw p1)), (34, (I ((p1.length : Int)))), (35, I y25)] [0, 1] [(Qi8 p0 p1), (Qls y26)] hφ0 (pc (.rn (.plain _ (nld Qab _))) (pc rwl (pc (.rn (rqr rfl)) (pc (.rn (.plain _ (nld Qab _))) (pc (.rn (.plain _ (nld Qab _))) (pc (.rn (Qak rfl)) (pc rwl (pc rwl (pc (.rn (.plain _ (nld Qax _))) (pc rwl (pc rwl pn))))))))))) (qc (spb (lc (.rn (.plain _ (nld Qab _))) (lc (.rn (.plain _ (nld Qax _))) ln))) (qc (spr Qab) qn)))⟩
    ·replace h := Qav hc30 h
     refine wfn hc30 (by kernel_rfl) ?_
     refine Qbr ?_
     refine Qay ?_
     refine Qay ?_
     refine Qbq rfl ?_
     refine thn ?_
     exact ⟨(y26), h, (mto (n := 92) [(4, (Qht x5)), (6, nilS), (8, .ref 0 2 0 0), (11, (.own 1 1 (0) ((p0.length : Int).toNat)))] [0, 1] [(Qi8 p0 p1), (Qls y26)] hφ0 (pc (.rn (.plain _ (nld Qab _))) (pc rwl (pc (.rn (rqr rfl)) (pc (.rn (Qak rfl)) pn)))) (qc (spb (lc (.rn (.plain _ (nld Qab _))) (lc (.rn (.plain _ (nld Qax _))) ln))) (qc (spr Qab) qn)))⟩
end Go.Proofs.YtlhakkkjgdbdpaaGreat
