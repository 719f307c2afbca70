/-
  Functions of the program: what they compute, as plain functions, and that they do. No conditions.
-/
import Derived.Test.YtmbhnllcfmiajaaX2
namespace Go.Proofs.Ytmbhnllcfmiajaa
set_option maxRecDepth 100000
set_option maxHeartbeats 4000000
open Go.RowKit
def Qh6 (N : Nat) (p0 : Int) : Option Bool :=
  (Qco N p0 0 1000000000000).bind fun x2 =>
  some x2
theorem Qoc (N : Nat) (p0 : Int) (r : Bool) (h : Qh6 N p0 = some r) : Spec Try.prog 61 [(I p0)] [] (B r) [] := by
  refine Qah Try.func61 rfl 0 (nle rfl) (fun X φ0 w0 hφ0 hd0 => ?_)
  unfold Qh6 at h
  refine wx tbk [] trivial ?_
  obtain ⟨x2, hf1, h⟩ := bno h
  refine wx tbk [(1, rp [fu 56, (.tmp 3, I p0), ci 0, ci 1000000000000] (B x2))] ⟨apc (first := []) (cap := []) (vs := [I p0, I 0, I 1000000000000]) rfl Qfo (Qbj N p0 0 1000000000000 _ hf1) rfl rfl (nlc nll (nlc nll (nlc nll nl0))) nll rfl, trivial⟩ ?_
  refine Qag ?_
  obtain rfl := osi h
  exact fend ⟨[B x2], ⟨rot (by kernel_rfl), trivial⟩, rfl⟩ nll
def Qfz (N : Nat) (p0 : Int) : Option Bool :=
  (Qh6 N p0).bind fun x3 =>
  some (!x3)
def Q7y : Slot := .own 1 [[(.fn (.func 61) [] [])]]
theorem Ql3 (N : Nat) (p0 : Int) (r : Bool) (h : Qfz N p0 = some r) : Spec Try.prog 83 [(I (p0)), (.ref 0 1 (0) 0)] [Q7y] (B (r)) [Q7y] := by
  refine Qah Try.func83 rfl 1 (nle rfl) (fun X φ0 w0 hφ0 hd0 => ?_)
  unfold Qfz at h
  refine Qbt ?_
  refine wx tbk [] trivial ?_
  obtain ⟨x3, hf2, h⟩ := bno h
  refine wx tbk [(2, rp [(.tmp 4, (.fn (.func 61) [] [])), (.tmp 5, I p0)] (B x3))] ⟨apc (first := []) (cap := []) (vs := [I p0]) rfl Zee (Qoc N p0 _ hf2) rfl rfl (nlc nll nl0) nll rfl, trivial⟩ ?_
  refine wmr (mto (n := 8) (l' := [(3, (B ((!x3))))]) (own' := [Q7y]) [(3, (B ((!x3))))] [0] [Q7y] hφ0 (pc rwl pn) (qc (spb (lc (.rn (Qbk rn0 rn0)) ln)) qn)) ?_
  refine Qag ?_
  obtain rfl := osi h
  exact ⟨_, Mor.rfl, Qdc (vs := [(B ((!x3)))]) ⟨rot (by kernel_rfl), trivial⟩ rfl (NLt.of0 nll) (by kernel_rfl) (Qal (Qbd (nlc (NLt.of0 (NLt.fn _ _ _ nl0 nl0)) nl0)) Qbr)⟩
def Qbz (N : Nat) (p0 : (List Int)) (k2 : Unit → Option Int) : Nat → Int → Option Int
  | 0, _ => none
  | n5 + 1, y3 =>
    bif (decide (y3 < (p0.length : Int))) then
     (getI p0 y3).bind fun x7 =>
     (Qfz N x7).bind fun x12 =>
     bif x12 then
      some y3
     else
      Qbz N p0 k2 n5 (w64 (y3 + 1))
    else
     k2 ()
def Qd2 (N : Nat) (p0 : (List Int)) : Option Int :=
  Qcc (fun _ =>
    some (-1)) fun k2 : Unit → Option Int =>
  Qbz N p0 k2 N 0
def Qwr (p0 : (List Int)) : AV := .dat 1 ((p0 : List Int).map Qam)
def Q1e : AV := .fn (.func 83) [] [(.ref 0 1 (0) 0)]
def Qlx : Slot := .own 1 [[(.fn (.func 61) [] [])]]
theorem Qih (N : Nat) (p0 : (List Int)) (r : Int) (h : Qd2 N p0 = some r) : Spec Try.prog 86 [(Qwr p0), Q1e] [Qlx] (I (r)) [Qlx] := by
  refine Qah Try.func86 rfl 1 (nle rfl) (fun X φ0 w0 hφ0 hd0 => ?_)
  unfold Qd2 at h
  refine Qbt ?_
  refine wx tbk [] trivial ?_
  obtain ⟨k2, hk_k2, h⟩ := jko h
  refine wjn (τ := Unit) (fun t => k2 t = some r) (fun _ => ⟨mk 19 [], [Qlx]⟩) (fun t h => ?_) ?_
  ·subst hk_k2
   refine wx tbk [] trivial ?_
   refine wmr (mto (n := 19) (l' := [(4, (I ((-1))))]) (own' := [Qlx]) [(4, (I ((-1))))] [0] [Qlx] hφ0 (pc rwl pn) (qc (spb (lc (.rn (Qbk rn0 rn0)) ln)) qn)) ?_
   refine Qag ?_
   obtain rfl := osi h
   exact ⟨_, Mor.rfl, Qdc (vs := [(I ((-1)))]) ⟨rot (by kernel_rfl), trivial⟩ rfl (NLt.of0 nll) (by kernel_rfl) (Qal (Qbd (nlc (NLt.of0 (NLt.fn _ _ _ nl0 nl0)) nl0)) Qbr)⟩
  ·skip
   refine wx tbk [(1, rp [(.tmp 6, (Qwr p0))] (I ((p0.length : Int))))] ⟨alm (c := Qam) (l := p0) (aln rfl Try.underlying27 rfl), trivial⟩ ?_
   refine Qao ?_
   refine wmr (mto (n := 19) (l' := [(0, (Qwr p0)), (1, Q1e), (7, (I ((p0.length : Int)))), (8, I 0)]) (own' := [Qlx]) [(0, (Qwr p0)), (1, Q1e), (7, (I ((p0.length : Int)))), (8, I 0)] [0] [Qlx] hφ0 (pc (.rn (.plain _ (nld Qaf _))) (pc (.rn (Qbk rn0 (rnc (rqr rfl) rn0))) (pc rwl (pc rwl pn)))) (qc (spb (lc (.rn (Qbk rn0 rn0)) ln)) qn)) ?_
   refine Qc0 (τ := Int) (fun n t => Qbz N p0 k2 n t = some r) (fun y3 => ⟨mk 19 [(0, (Qwr p0)), (1, Q1e), (7, (I ((p0.length : Int)))), (8, I y3)], [Qlx]⟩) (fun t h => by rw [Qbz] at h; cases h) (fun n5 ih y3 h => ?_) N (0) h
   rw [Qbz] at h
   skip
   refine wx tbk [] trivial ?_
   refine wsq ?_
   rcases bft ((decide (y3 < (p0.length : Int)))) with hc6 | hc6
   ·replace h := Qa6 hc6 h
    refine wft hc6 (by kernel_rfl) ?_
    refine Qas ?_
    refine thn ?_
    refine wsq ?_
    refine Qao ?_
    refine wx tbk [] trivial ?_
    obtain ⟨x7, hg8, h⟩ := bno h
    obtain ⟨hi9, hj10⟩ := gsm hg8
    obtain ⟨x12, hf11, h⟩ := bno h
    refine wx tbk [(3, rp [(.tmp 12, (Qwr p0)), (.tmp 13, I y3)] (.dptr (Qam (x7)) 0)), (5, ⟨[(.tmp 11, Q1e), (.tmp 15, I x7)], [(0, Qlx)], B x12, [(0, Qlx)], false⟩)] ⟨aid rfl Try.underlying27 ti3 rfl rfl hi9 (mgt Qam hj10) rfl, Qaq (first := []) (cap := [.ref 0 1 0 0]) (vs := [I x7]) (σr := [Qlx]) (σr' := [Qlx]) (res' := (B x12)) [0] rfl Q55 (Ql3 N x7 _ hf11) rfl (Qbn (rnc (.plain _ nll) (rnc (Qbi rfl) rn0))) (slc (Qan (rnc (.plain _ (NLt.fn _ _ _ nl0 nl0)) rn0)) Qap) (slc (Qan (rnc (.plain _ (NLt.fn _ _ _ nl0 nl0)) rn0)) Qap) (.plain _ nll) rfl rfl rfl, trivial⟩ ?_
    rcases bft (x12) with hc13 | hc13
    ·replace h := Qa6 hc13 h
     refine wft hc13 (by kernel_rfl) ?_
     refine wx tbk [] trivial ?_
     refine wmr (mto (n := 19) (l' := [(4, I y3)]) (own' := [Qlx]) [(4, I y3)] [0] [Qlx] hφ0 (pc rwl pn) (qc (spb (lc (.rn (Qbk rn0 rn0)) ln)) qn)) ?_
     refine Qag ?_
     refine Qax ?_
     refine Qaj ?_
     refine Qaj ?_
     refine Qax ?_
     refine Qaj ?_
     obtain rfl := osi h
     exact ⟨_, Mor.rfl, Qdc (vs := [I y3]) ⟨rot (by kernel_rfl), trivial⟩ rfl (NLt.of0 nll) (by kernel_rfl) (Qal (Qbd (nlc (NLt.of0 (NLt.fn _ _ _ nl0 nl0)) nl0)) Qbr)⟩
    ·replace h := Qa7 hc13 h
     refine wfn hc13 (by kernel_rfl) ?_
     refine Qas ?_
     refine bln ?_
     refine thn ?_
     refine wx1 tbk [] trivial ?_
     refine thn ?_
     exact arm (mto (n := 19) [(0, (Qwr p0)), (1, Q1e), (7, (I ((p0.length : Int)))), (8, (I (w64 (y3 + 1))))] [0] [Qlx] hφ0 (pc (.rn (.plain _ (nld Qaf _))) (pc (.rn (Qbk rn0 (rnc (rqr rfl) rn0))) (pc rwl (pc rwl pn)))) (qc (spb (lc (.rn (Qbk rn0 rn0)) ln)) qn)) (ih (w64 (y3 + 1)) h)
   ·replace h := Qa7 hc6 h
    refine wfn hc6 (by kernel_rfl) ?_
    refine Qb4 ?_
    refine Qa5 ?_
    refine Qa5 ?_
    refine Qb3 rfl ?_
    refine thn ?_
    exact ⟨(), h, (mto (n := 19) [] [0] [Qlx] hφ0 pn (qc (spb (lc (.rn (Qbk rn0 rn0)) ln)) qn))⟩
def Qcu (N : Nat) (p0 : (List Int)) : Option Bool :=
  (Qd2 N p0).bind fun x3 =>
  some (decide (x3 ≥ 0))
def Zb6 (p0 : (List Int)) : AV := .dat 1 ((p0 : List Int).map Qam)
def Zb5 : AV := .fn (.func 83) [] [(.ref 0 1 (0) 0)]
def Qud : Slot := .own 1 [[(.fn (.func 61) [] [])]]
theorem Qhh (N : Nat) (p0 : (List Int)) (r : Bool) (h : Qcu N p0 = some r) : Spec Try.prog 66 [(Zb6 p0), Zb5] [Qud] (B (r)) [Qud] := by
  refine Qah Try.func66 rfl 1 (nle rfl) (fun X φ0 w0 hφ0 hd0 => ?_)
  unfold Qcu at h
  refine Qbt ?_
  refine wx tbk [] trivial ?_
  obtain ⟨x3, hf2, h⟩ := bno h
  refine wx tbk [(2, ⟨[fu 86, (.tmp 5, (Zb6 p0)), (.tmp 6, Zb5)], [(0, Qud)], I x3, [(0, Qud)], false⟩)] ⟨Qaq (first := []) (cap := []) (vs := [(Zb6 p0), Zb5]) (σr := [Qud]) (σr' := [Qud]) (res' := (I x3)) [0] rfl Qqs (Qih N p0 _ hf2) rfl (Qbn (rnc (.plain _ (nld Qaf _)) (rnc (Qbk rn0 (rnc (Qbi rfl) rn0)) rn0))) (slc (Qan (rnc (.plain _ (NLt.fn _ _ _ nl0 nl0)) rn0)) Qap) (slc (Qan (rnc (.plain _ (NLt.fn _ _ _ nl0 nl0)) rn0)) Qap) (.plain _ nll) rfl rfl rfl, trivial⟩ ?_
  refine wmr (mto (n := 9) (l' := [(4, (B ((decide (x3 ≥ 0)))))]) (own' := [Qud]) [(4, (B ((decide (x3 ≥ 0)))))] [0] [Qud] hφ0 (pc rwl pn) (qc (spb (lc (.rn (Qbk rn0 rn0)) ln)) qn)) ?_
  refine Qag ?_
  obtain rfl := osi h
  exact ⟨_, Mor.rfl, Qdc (vs := [(B ((decide (x3 ≥ 0))))]) ⟨rot (by kernel_rfl), trivial⟩ rfl (NLt.of0 nll) (by kernel_rfl) (Qal (Qbd (nlc (NLt.of0 (NLt.fn _ _ _ nl0 nl0)) nl0)) Qbr)⟩
def Qhm (N : Nat) (p0 : (List Int)) : Option Bool :=
  (Qcu N p0).bind fun x2 =>
  some (!x2)
def Zb8 (p0 : (List Int)) : AV := .dat 1 ((p0 : List Int).map Qam)
def Zb7 : AV := .fn (.func 83) [] [(.ref 0 1 (0) 0)]
def Q7z : Slot := .own 1 [[(.fn (.func 61) [] [])]]
theorem Qnb (N : Nat) (p0 : (List Int)) (r : Bool) (h : Qhm N p0 = some r) : Spec Try.prog 60 [(Zb8 p0), (.fn (.func 61) [] [])] [] (B (r)) [] := by
  refine Qah Try.func60 rfl 0 (nle rfl) (fun X φ0 w0 hφ0 hd0 => ?_)
  unfold Qhm at h
  refine wx tbk [] trivial ?_
  obtain ⟨x2, hf1, h⟩ := bno h
  refine wx tbk [(1, rp [(.tmp 3, .ref 0 1 0 0)] Zb7), (2, ⟨[fu 66, (.tmp 5, (Zb8 p0)), (.tmp 6, Zb7)], [(0, Q7z)], B x2, [(0, Q7z)], false⟩)] ⟨Qfe (fs := []) (cs := [.ref 0 1 0 0]) rfl rfl rfl rfl, Qaq (first := []) (cap := []) (vs := [(Zb8 p0), Zb7]) (σr := [Q7z]) (σr' := [Q7z]) (res' := (B x2)) [0] rfl Qqt (Qhh N p0 _ hf1) rfl (Qbn (rnc (.plain _ (nld Qaf _)) (rnc (Qbk rn0 (rnc (Qbi rfl) rn0)) rn0))) (slc (Qan (rnc (.plain _ (NLt.fn _ _ _ nl0 nl0)) rn0)) Qap) (slc (Qan (rnc (.plain _ (NLt.fn _ _ _ nl0 nl0)) rn0)) Qap) (.plain _ nll) rfl rfl rfl, trivial⟩ ?_
  refine Qag ?_
  obtain rfl := osi h
  exact fend ⟨[(B ((!x2)))], ⟨rot (by kernel_rfl), trivial⟩, rfl⟩ nll
def Qim (N : Nat) (p0 : GNet) (p1 : (List Int)) : Option Int :=
  (Qf2 N p0).bind fun x2 =>
  bif (!x2) then
   some 1
  else
   bif ((p1.length : Int) != (p0.Elements.length : Int)) then
    some 1
   else
    (Qhm N p1).bind fun x6 =>
    bif (!x6) then
     some 1
    else
     some 0
def Zb9 (p0 : GNet) : AV := .dat 7 ((p0.Elements : List GElement).map Qad)
def Q1f (p0 : GNet) : AV := .agg [(.dat 5 ((p0.Table : List GRow).map Qa8)), (Zb9 p0)]
def Q70 (p1 : (List Int)) : AV := .dat 1 ((p1 : List Int).map Qam)
theorem Qp8 (N : Nat) (p0 : GNet) (p1 : (List Int)) (r : Int) (h : Qim N p0 p1 = some r) : Spec Try.prog 35 [(.agg (Qj0 p0)), (.dat 1 (p1.map Qam))] [] (I r) [] := by
  refine Qah Try.func35 rfl 0 (nle rfl) (fun X φ0 w0 hφ0 hd0 => ?_)
  unfold Qim at h
  refine wx tbk [] trivial ?_
  refine wsq ?_
  obtain ⟨x2, hf1, h⟩ := bno h
  rcases bft ((!x2)) with hb3 | hb3
  ·replace h := Qa6 hb3 h
   refine wx tbk [(1, rp [fu 32, (.tmp 5, (Q1f p0))] (B x2)), (3, rp [(.tmp 7, (B ((!x2))))] (B true))] ⟨apc (first := []) (cap := []) (vs := [(Q1f p0)]) rfl Qtl (Qgg N p0 _ hf1) rfl rfl (nlc (NLt.agg _ (nlc (nld Qai _) (nlc (nld Qaa _) nl0))) nl0) nll rfl, asb hb3 (amv rfl), trivial⟩ ?_
   refine Qch (by kernel_rfl) ?_
   refine wx tbk [] trivial ?_
   refine Qag ?_
   refine Qaj ?_
   obtain rfl := osi h
   exact fend ⟨[I 1], ⟨rot (by kernel_rfl), trivial⟩, rfl⟩ nll
  ·replace h := Qa7 hb3 h
   rcases bft (((p1.length : Int) != (p0.Elements.length : Int))) with hb4 | hb4
   ·replace h := Qa6 hb4 h
    refine wx tbk [(1, rp [fu 32, (.tmp 5, (Q1f p0))] (B x2)), (3, rp [(.tmp 7, (B ((!x2))))] (B false)), (5, rp [(.tmp 8, B false), (.tmp 9, (Q70 p1))] (I ((p1.length : Int)))), (8, rp [(.tmp 8, B false), (.tmp 12, (Zb9 p0))] (I ((p0.Elements.length : Int)))), (11, rp [(.tmp 15, (B (((p1.length : Int) != (p0.Elements.length : Int)))))] (B true))] ⟨apc (first := []) (cap := []) (vs := [(Q1f p0)]) rfl Qtl (Qgg N p0 _ hf1) rfl rfl (nlc (NLt.agg _ (nlc (nld Qai _) (nlc (nld Qaa _) nl0))) nl0) nll rfl, asb hb3 (amv rfl), ag_ (alm (c := Qam) (l := p1) (aln rfl Try.underlying27 rfl)), ag_ (alm (c := Qad) (l := p0.Elements) (aln rfl Try.underlying40 rfl)), asb hb4 (amv rfl), trivial⟩ ?_
    refine Qch (by kernel_rfl) ?_
    refine wx tbk [] trivial ?_
    refine Qag ?_
    refine Qaj ?_
    obtain rfl := osi h
    exact fend ⟨[I 1], ⟨rot (by kernel_rfl), trivial⟩, rfl⟩ nll
   ·replace h := Qa7 hb4 h
    obtain ⟨x6, hf5, h⟩ := bno h
    refine wx tbk [(1, rp [fu 32, (.tmp 5, (Q1f p0))] (B x2)), (3, rp [(.tmp 7, (B ((!x2))))] (B false)), (5, rp [(.tmp 8, B false), (.tmp 9, (Q70 p1))] (I ((p1.length : Int)))), (8, rp [(.tmp 8, B false), (.tmp 12, (Zb9 p0))] (I ((p0.Elements.length : Int)))), (11, rp [(.tmp 15, (B (((p1.length : Int) != (p0.Elements.length : Int)))))] (B false)), (13, rp [(.tmp 16, B false), fu 60, (.tmp 17, (Q70 p1)), fu 61] (B x6))] ⟨apc (first := []) (cap := []) (vs := [(Q1f p0)]) rfl Qtl (Qgg N p0 _ hf1) rfl rfl (nlc (NLt.agg _ (nlc (nld Qai _) (nlc (nld Qaa _) nl0))) nl0) nll rfl, asb hb3 (amv rfl), ag_ (alm (c := Qam) (l := p1) (aln rfl Try.underlying27 rfl)), ag_ (alm (c := Qad) (l := p0.Elements) (aln rfl Try.underlying40 rfl)), asb hb4 (amv rfl), ag_ (Qaq (first := []) (cap := []) (vs := [(Q70 p1), (.fn (.func 61) [] [])]) (σr := []) (σr' := []) (res' := (B x6)) [] rfl Qxx (Qnb N p1 _ hf5) rfl (Qbn (rnc (.plain _ (nld Qaf _)) (rnc (.plain _ (NLt.fn _ _ _ nl0 nl0)) rn0))) Qap Qap (.plain _ nll) rfl rfl rfl), trivial⟩ ?_
    rcases bft ((!x6)) with hc7 | hc7
    ·replace h := Qa6 hc7 h
     refine wft hc7 (by kernel_rfl) ?_
     refine wx tbk [] trivial ?_
     refine Qag ?_
     refine Qaj ?_
     obtain rfl := osi h
     exact fend ⟨[I 1], ⟨rot (by kernel_rfl), trivial⟩, rfl⟩ nll
    ·replace h := Qa7 hc7 h
     refine wfn hc7 (by kernel_rfl) ?_
     refine Qas ?_
     refine thn ?_
     refine wx tbk [] trivial ?_
     refine Qag ?_
     obtain rfl := osi h
     exact fend ⟨[I 0], ⟨rot (by kernel_rfl), trivial⟩, rfl⟩ nll
def Qdj (N : Nat) (p0 : GNet) (p1 : Int) (k2 : (List Int) → Option (List Int)) : Nat → (List Int) → Int → Option (List Int)
  | 0, _, _ => none
  | n7 + 1, y3, y4 =>
    bif (decide (y4 < (p0.Elements.length : Int))) then
     (getI p0.Elements y4).bind fun x9 =>
     bif (x9.Kind == p1) then
      chk (decide ((y3.length + ([y4]).length) * 8 ≤ 140737488355328)) <|
      Qdj N p0 p1 k2 n7 (y3 ++ ([y4])) (w64 (y4 + 1))
     else
      Qdj N p0 p1 k2 n7 y3 (w64 (y4 + 1))
    else
     k2 (y3)
def Qg9 (N : Nat) (p0 : GNet) (p1 : Int) : Option (List Int) :=
  Qcc (fun y1 =>
    some y1) fun k2 : (List Int) → Option (List Int) =>
  Qdj N p0 p1 k2 N ([]) 0
def Qwq (p0 : GNet) : AV := .dat 7 ((p0.Elements : List GElement).map Qad)
def Qzh (y3 : (List Int)) : AV := .acc 0 3 1 ((y3 : List Int).map Qam)
theorem Qhn (N : Nat) (p0 : GNet) (p1 : Int) (r : (List Int)) (h : Qg9 N p0 p1 = some r) : Spec Try.prog 70 [(.agg (Qj0 p0)), (K .u8 p1)] [] (.dat 1 (r.map Qam)) [] := by
  refine Qah Try.func70 rfl 0 (nle rfl) (fun X φ0 w0 hφ0 hd0 => ?_)
  unfold Qg9 at h
  refine wx tbk [] trivial ?_
  obtain ⟨k2, hk_k2, h⟩ := jko h
  refine wjn (τ := (List Int)) (fun t => k2 t = some r) (fun y1 => ⟨mk 25 [(4, (.acc 0 3 1 ((y1 : List Int).map Qam)))], [.tok]⟩) (fun y1 h => ?_) ?_
  ·subst hk_k2
   refine wx tbk [] trivial ?_
   refine Qag ?_
   obtain rfl := osi h
   exact fend ⟨[(.dat 1 ((y1 : List Int).map Qam))], ⟨Qfw (v := (.acc 0 3 1 ((y1 : List Int).map Qam))) (rot (by kernel_rfl)) Less.acc, trivial⟩, rfl⟩ (nld Qaf _)
  ·skip
   refine wx tbk [(2, rp [(.tmp 8, (Qwq p0))] (I ((p0.Elements.length : Int))))] ⟨alm (c := Qad) (l := p0.Elements) (aln rfl Try.underlying40 rfl), trivial⟩ ?_
   refine Qao ?_
   refine wmr (Mor.trans (Qtd 1 3 1 4 (by kernel_rfl) (by kernel_rfl)) (mto (n := 25) (l' := [(1, (K .u8 (p1))), (4, (.acc 0 3 1 ((([]) : List Int).map Qam))), (8, (Qwq p0)), (9, (I ((p0.Elements.length : Int)))), (10, I 0)]) (own' := [.tok]) [(1, (K .u8 (p1))), (4, (.acc 1 3 1 (([] : List Int).map Qam))), (8, (Qwq p0)), (9, (I ((p0.Elements.length : Int)))), (10, I 0)] [1] [.tok] hφ0 (pc rwl (pc (.rn (Qc2 rfl (Qci Qaf _))) (pc (.rn (.plain _ (nld Qaa _))) (pc rwl (pc rwl pn))))) (qc .tok qn))) ?_
   refine Qc0 (τ := (List Int) × Int) (fun n t => Qdj N p0 p1 k2 n t.1 t.2 = some r) (fun ⟨y3, y4⟩ => ⟨mk 25 [(1, (K .u8 (p1))), (4, (Qzh y3)), (8, (Qwq p0)), (9, (I ((p0.Elements.length : Int)))), (10, I y4)], [.tok]⟩) (fun t h => by rw [Qdj] at h; cases h) (fun n7 ih t h => ?_) N ([], 0) h
   obtain ⟨y3, y4⟩ := t
   rw [Qdj] at h
   skip
   refine wx tbk [] trivial ?_
   refine wsq ?_
   rcases bft ((decide (y4 < (p0.Elements.length : Int)))) with hc8 | hc8
   ·replace h := Qa6 hc8 h
    refine wft hc8 (by kernel_rfl) ?_
    refine Qas ?_
    refine thn ?_
    refine wsq ?_
    refine Qao ?_
    obtain ⟨x9, hg10, h⟩ := bno h
    obtain ⟨hi11, hj12⟩ := gsm hg10
    refine wx tbk [(1, rp [(.tmp 8, (Qwq p0)), (.tmp 10, I y4)] (.dptr (Qad (x9)) 0))] ⟨aid rfl Try.underlying40 ti76 rfl rfl hi11 (mgt Qad hj12) rfl, trivial⟩ ?_
    refine wx tbk [] trivial ?_
    rcases bft ((x9.Kind == p1)) with hc13 | hc13
    ·replace h := Qa6 hc13 h
     refine wft hc13 (by kernel_rfl) ?_
     obtain ⟨ha14, h⟩ := cko h
     refine wx1 tbk [(2, rp [(.tmp 20, I y4)] (.dat 1 (([y4] : List Int).map Qam))), (3, ⟨[(.tmp 19, (Qzh y3)), (.tmp 21, (.dat 1 (([y4] : List Int).map Qam)))], [(0, .tok), (2, .unused)], (.acc 2 3 1 ((y3 ++ ([y4]) : List Int).map Qam)), [(0, .dead), (2, .tok)], false⟩)] ⟨Qb6 (vs := [I y4]) rfl Try.underlying27 ti3 tz3 rfl (by decide) rfl (by decide) (by rfl) (by rfl) (by rfl) rfl, Qgn rfl Try.underlying27 te3 (Base.acc _ _) rfl rfl (by rfl) (Qjq Qam ha14) (Qjp Qam ha14 (by decide)) (Qjo Qam) rfl rfl, trivial⟩ ?_
     refine bln ?_
     refine thn ?_
     refine wx1 tbk [] trivial ?_
     refine thn ?_
     exact arm (mto (n := 25) [(1, (K .u8 (p1))), (4, (.acc 2 3 1 ((y3 ++ ([y4]) : List Int).map Qam))), (8, (Qwq p0)), (9, (I ((p0.Elements.length : Int)))), (10, (I (w64 (y4 + 1))))] [2] [.tok] hφ0 (pc rwl (pc (.rn (Qc2 rfl (Qci Qaf _))) (pc (.rn (.plain _ (nld Qaa _))) (pc rwl (pc rwl pn))))) (qc .tok qn)) (ih (y3 ++ ([y4]), w64 (y4 + 1)) h)
    ·replace h := Qa7 hc13 h
     refine wfn hc13 (by kernel_rfl) ?_
     refine Qas ?_
     refine bln ?_
     refine thn ?_
     refine wx1 tbk [] trivial ?_
     refine thn ?_
     exact arm (mto (n := 25) [(1, (K .u8 (p1))), (4, (Qzh y3)), (8, (Qwq p0)), (9, (I ((p0.Elements.length : Int)))), (10, (I (w64 (y4 + 1))))] [0] [.tok] hφ0 (pc rwl (pc (.rn (Qc2 rfl (Qci Qaf _))) (pc (.rn (.plain _ (nld Qaa _))) (pc rwl (pc rwl pn))))) (qc .tok qn)) (ih (y3, w64 (y4 + 1)) h)
   ·replace h := Qa7 hc8 h
    refine wfn hc8 (by kernel_rfl) ?_
    refine Qb4 ?_
    refine Qa5 ?_
    refine Qa5 ?_
    refine Qb3 rfl ?_
    refine thn ?_
    exact ⟨(y3), h, (mto (n := 25) [(4, (Qzh y3))] [0] [.tok] hφ0 (pc (.rn (Qc2 rfl (Qci Qaf _))) pn) (qc .tok qn))⟩
def Qds (N : Nat) (p0 : GStream) : Option Bool :=
  (Qcx N p0.Mass 0 1000000).bind fun x2 =>
  bif x2 then
   (Qcx N p0.Heat 0 (w64 (4000 * p0.Mass))).bind fun x5 =>
   bif x5 then
    (Qcx N p0.Silica 0 (w64 (10000 * p0.Mass))).bind fun x8 =>
    bif x8 then
     (Qcx N p0.Gas 0 1000000000).bind fun x11 =>
     some x11
    else
     some false
   else
    some false
  else
   some false
theorem Qdk (N : Nat) (p0 : GStream) (r : Bool) (h : Qds N p0 = some r) : Spec Try.prog 34 [(.agg (Qab p0))] [] (B r) [] := by
  refine Qah Try.func34 rfl 0 (nle rfl) (fun X φ0 w0 hφ0 hd0 => ?_)
  unfold Qds at h
  refine wx tbk [] trivial ?_
  obtain ⟨x2, hf1, h⟩ := bno h
  rcases bft (x2) with hb3 | hb3
  ·replace h := Qa6 hb3 h
   obtain ⟨x5, hf4, h⟩ := bno h
   rcases bft (x5) with hb6 | hb6
   ·replace h := Qa6 hb6 h
    obtain ⟨x8, hf7, h⟩ := bno h
    rcases bft (x8) with hb9 | hb9
    ·replace h := Qa6 hb9 h
     obtain ⟨x11, hf10, h⟩ := bno h
     refine wx tbk [(2, rp [fu 45, (.tmp 4, I p0.Mass), ci 0, ci 1000000] (B x2)), (3, rp [(.tmp 5, B x2)] (B true)), (9, rp [(.tmp 6, B true), fu 45, (.tmp 8, I p0.Heat), ci 0, (.tmp 11, (I (w64 (4000 * p0.Mass))))] (B x5)), (11, rp [(.tmp 13, B x5)] (B true)), (17, rp [(.tmp 14, B true), fu 45, (.tmp 16, I p0.Silica), ci 0, (.tmp 19, (I (w64 (10000 * p0.Mass))))] (B x8)), (19, rp [(.tmp 21, B x8)] (B true)), (22, rp [(.tmp 22, B true), fu 45, (.tmp 24, I p0.Gas), ci 0, ci 1000000000] (B x11))] ⟨apc (first := []) (cap := []) (vs := [I p0.Mass, I 0, I 1000000]) rfl Qdn (Qau N p0.Mass 0 1000000 _ hf1) rfl rfl (nlc nll (nlc nll (nlc nll nl0))) nll rfl, asb hb3 (amv rfl), ag_ (apc (first := []) (cap := []) (vs := [I p0.Heat, I 0, (I (w64 (4000 * p0.Mass)))]) rfl Qdn (Qau N p0.Heat 0 (w64 (4000 * p0.Mass)) _ hf4) rfl rfl (nlc nll (nlc nll (nlc nll nl0))) nll rfl), asb hb6 (amv rfl), ag_ (apc (first := []) (cap := []) (vs := [I p0.Silica, I 0, (I (w64 (10000 * p0.Mass)))]) rfl Qdn (Qau N p0.Silica 0 (w64 (10000 * p0.Mass)) _ hf7) rfl rfl (nlc nll (nlc nll (nlc nll nl0))) nll rfl), asb hb9 (amv rfl), ag_ (apc (first := []) (cap := []) (vs := [I p0.Gas, I 0, I 1000000000]) rfl Qdn (Qau N p0.Gas 0 1000000000 _ hf10) rfl rfl (nlc nll (nlc nll (nlc nll nl0))) nll rfl), trivial⟩ ?_
     refine Qag ?_
     obtain rfl := osi h
     exact fend ⟨[B x11], ⟨rot (by kernel_rfl), trivial⟩, rfl⟩ nll
    ·replace h := Qa7 hb9 h
     refine wx tbk [(2, rp [fu 45, (.tmp 4, I p0.Mass), ci 0, ci 1000000] (B x2)), (3, rp [(.tmp 5, B x2)] (B true)), (9, rp [(.tmp 6, B true), fu 45, (.tmp 8, I p0.Heat), ci 0, (.tmp 11, (I (w64 (4000 * p0.Mass))))] (B x5)), (11, rp [(.tmp 13, B x5)] (B true)), (17, rp [(.tmp 14, B true), fu 45, (.tmp 16, I p0.Silica), ci 0, (.tmp 19, (I (w64 (10000 * p0.Mass))))] (B x8)), (19, rp [(.tmp 21, B x8)] (B false))] ⟨apc (first := []) (cap := []) (vs := [I p0.Mass, I 0, I 1000000]) rfl Qdn (Qau N p0.Mass 0 1000000 _ hf1) rfl rfl (nlc nll (nlc nll (nlc nll nl0))) nll rfl, asb hb3 (amv rfl), ag_ (apc (first := []) (cap := []) (vs := [I p0.Heat, I 0, (I (w64 (4000 * p0.Mass)))]) rfl Qdn (Qau N p0.Heat 0 (w64 (4000 * p0.Mass)) _ hf4) rfl rfl (nlc nll (nlc nll (nlc nll nl0))) nll rfl), asb hb6 (amv rfl), ag_ (apc (first := []) (cap := []) (vs := [I p0.Silica, I 0, (I (w64 (10000 * p0.Mass)))]) rfl Qdn (Qau N p0.Silica 0 (w64 (10000 * p0.Mass)) _ hf7) rfl rfl (nlc nll (nlc nll (nlc nll nl0))) nll rfl), asb hb9 (amv rfl), trivial⟩ ?_
     refine Qag ?_
     obtain rfl := osi h
     exact fend ⟨[B false], ⟨rot (by kernel_rfl), trivial⟩, rfl⟩ nll
   ·replace h := Qa7 hb6 h
    refine wx tbk [(2, rp [fu 45, (.tmp 4, I p0.Mass), ci 0, ci 1000000] (B x2)), (3, rp [(.tmp 5, B x2)] (B true)), (9, rp [(.tmp 6, B true), fu 45, (.tmp 8, I p0.Heat), ci 0, (.tmp 11, (I (w64 (4000 * p0.Mass))))] (B x5)), (11, rp [(.tmp 13, B x5)] (B false))] ⟨apc (first := []) (cap := []) (vs := [I p0.Mass, I 0, I 1000000]) rfl Qdn (Qau N p0.Mass 0 1000000 _ hf1) rfl rfl (nlc nll (nlc nll (nlc nll nl0))) nll rfl, asb hb3 (amv rfl), ag_ (apc (first := []) (cap := []) (vs := [I p0.Heat, I 0, (I (w64 (4000 * p0.Mass)))]) rfl Qdn (Qau N p0.Heat 0 (w64 (4000 * p0.Mass)) _ hf4) rfl rfl (nlc nll (nlc nll (nlc nll nl0))) nll rfl), asb hb6 (amv rfl), trivial⟩ ?_
    refine Qag ?_
    obtain rfl := osi h
    exact fend ⟨[B false], ⟨rot (by kernel_rfl), trivial⟩, rfl⟩ nll
  ·replace h := Qa7 hb3 h
   refine wx tbk [(2, rp [fu 45, (.tmp 4, I p0.Mass), ci 0, ci 1000000] (B x2)), (3, rp [(.tmp 5, B x2)] (B false))] ⟨apc (first := []) (cap := []) (vs := [I p0.Mass, I 0, I 1000000]) rfl Qdn (Qau N p0.Mass 0 1000000 _ hf1) rfl rfl (nlc nll (nlc nll (nlc nll nl0))) nll rfl, asb hb3 (amv rfl), trivial⟩ ?_
   refine Qag ?_
   obtain rfl := osi h
   exact fend ⟨[B false], ⟨rot (by kernel_rfl), trivial⟩, rfl⟩ nll
def Qem (N : Nat) (p0 : GStream) : Option Int :=
  (Qds N p0).bind fun x2 =>
  bif (!x2) then
   some 1
  else
   some 0
def Zft (p0 : GStream) : AV := .agg [(I (p0.Mass)), (I (p0.Heat)), (I (p0.Silica)), (I (p0.Gas))]
theorem Qid (N : Nat) (p0 : GStream) (r : Int) (h : Qem N p0 = some r) : Spec Try.prog 14 [(.agg (Qab p0))] [] (I r) [] := by
  refine Qah Try.func14 rfl 0 (nle rfl) (fun X φ0 w0 hφ0 hd0 => ?_)
  unfold Qem at h
  refine wx tbk [] trivial ?_
  refine wsq ?_
  obtain ⟨x2, hf1, h⟩ := bno h
  refine wx tbk [(1, rp [fu 34, (.tmp 3, (Zft p0))] (B x2))] ⟨apc (first := []) (cap := []) (vs := [(Zft p0)]) rfl Qoi (Qdk N p0 _ hf1) rfl rfl (nlc (NLt.agg _ (nlc nll (nlc nll (nlc nll (nlc nll nl0))))) nl0) nll rfl, trivial⟩ ?_
  rcases bft ((!x2)) with hc3 | hc3
  ·replace h := Qa6 hc3 h
   refine wft hc3 (by kernel_rfl) ?_
   refine wx tbk [] trivial ?_
   refine Qag ?_
   refine Qaj ?_
   obtain rfl := osi h
   exact fend ⟨[I 1], ⟨rot (by kernel_rfl), trivial⟩, rfl⟩ nll
  ·replace h := Qa7 hc3 h
   refine wfn hc3 (by kernel_rfl) ?_
   refine Qas ?_
   refine thn ?_
   refine wx tbk [] trivial ?_
   refine Qag ?_
   obtain rfl := osi h
   exact fend ⟨[I 0], ⟨rot (by kernel_rfl), trivial⟩, rfl⟩ nll
def Qho (N : Nat) (p0 : GStream) : Option Bool :=
  (Qem N p0).bind fun x2 =>
  some (x2 == 0)
def Zfu (p0 : GStream) : AV := .agg [(I (p0.Mass)), (I (p0.Heat)), (I (p0.Silica)), (I (p0.Gas))]
theorem Qnc (N : Nat) (p0 : GStream) (r : Bool) (h : Qho N p0 = some r) : Spec Try.prog 72 [(.agg (Qab p0))] [] (B r) [] := by
  refine Qah Try.func72 rfl 0 (nle rfl) (fun X φ0 w0 hφ0 hd0 => ?_)
  unfold Qho at h
  refine wx tbk [] trivial ?_
  obtain ⟨x2, hf1, h⟩ := bno h
  refine wx tbk [(1, rp [fu 14, (.tmp 3, (Zfu p0))] (I x2))] ⟨apc (first := []) (cap := []) (vs := [(Zfu p0)]) rfl Q6e (Qid N p0 _ hf1) rfl rfl (nlc (NLt.agg _ (nlc nll (nlc nll (nlc nll (nlc nll nl0))))) nl0) nll rfl, trivial⟩ ?_
  refine Qag ?_
  obtain rfl := osi h
  exact fend ⟨[(B ((x2 == 0)))], ⟨rot (by kernel_rfl), trivial⟩, rfl⟩ nll
def Qdg (N : Nat) (p0 : GStream) : Option Bool :=
  (Qho N p0).bind fun x3 =>
  some (!x3)
def Zb0 (p0 : GStream) : AV := .agg [(I (p0.Mass)), (I (p0.Heat)), (I (p0.Silica)), (I (p0.Gas))]
def Q7u : Slot := .own 1 [[(.fn (.func 72) [] [])]]
theorem Qiv (N : Nat) (p0 : GStream) (r : Bool) (h : Qdg N p0 = some r) : Spec Try.prog 88 [(Zb0 p0), (.ref 0 1 (0) 0)] [Q7u] (B (r)) [Q7u] := by
  refine Qah Try.func88 rfl 1 (nle rfl) (fun X φ0 w0 hφ0 hd0 => ?_)
  unfold Qdg at h
  refine Qbt ?_
  refine wx tbk [] trivial ?_
  obtain ⟨x3, hf2, h⟩ := bno h
  refine wx tbk [(2, rp [(.tmp 4, (.fn (.func 72) [] [])), (.tmp 5, (Zb0 p0))] (B x3))] ⟨apc (first := []) (cap := []) (vs := [(Zb0 p0)]) rfl Zd8 (Qnc N p0 _ hf2) rfl rfl (nlc (NLt.agg _ (nlc nll (nlc nll (nlc nll (nlc nll nl0))))) nl0) nll rfl, trivial⟩ ?_
  refine wmr (mto (n := 8) (l' := [(3, (B ((!x3))))]) (own' := [Q7u]) [(3, (B ((!x3))))] [0] [Q7u] hφ0 (pc rwl pn) (qc (spb (lc (.rn (Qbk rn0 rn0)) ln)) qn)) ?_
  refine Qag ?_
  obtain rfl := osi h
  exact ⟨_, Mor.rfl, Qdc (vs := [(B ((!x3)))]) ⟨rot (by kernel_rfl), trivial⟩ rfl (NLt.of0 nll) (by kernel_rfl) (Qal (Qbd (nlc (NLt.of0 (NLt.fn _ _ _ nl0 nl0)) nl0)) Qbr)⟩
def Qa3 (N : Nat) (p0 : (List GStream)) (k2 : Unit → Option Int) : Nat → Int → Option Int
  | 0, _ => none
  | n5 + 1, y3 =>
    bif (decide (y3 < (p0.length : Int))) then
     (getI p0 y3).bind fun x7 =>
     (Qdg N x7).bind fun x12 =>
     bif x12 then
      some y3
     else
      Qa3 N p0 k2 n5 (w64 (y3 + 1))
    else
     k2 ()
def Qbv (N : Nat) (p0 : (List GStream)) : Option Int :=
  Qcc (fun _ =>
    some (-1)) fun k2 : Unit → Option Int =>
  Qa3 N p0 k2 N 0
def Qwp (p0 : (List GStream)) : AV := .dat 4 ((p0 : List GStream).map Qab)
def Q1d : AV := .fn (.func 88) [] [(.ref 0 1 (0) 0)]
def Qlw : Slot := .own 1 [[(.fn (.func 72) [] [])]]
def Zfv (x7 : GStream) : AV := .agg [(I (x7.Mass)), (I (x7.Heat)), (I (x7.Silica)), (I (x7.Gas))]
theorem Qfi (N : Nat) (p0 : (List GStream)) (r : Int) (h : Qbv N p0 = some r) : Spec Try.prog 95 [(Qwp p0), Q1d] [Qlw] (I (r)) [Qlw] := by
  refine Qah Try.func95 rfl 1 (nle rfl) (fun X φ0 w0 hφ0 hd0 => ?_)
  unfold Qbv at h
  refine Qbt ?_
  refine wx tbk [] trivial ?_
  obtain ⟨k2, hk_k2, h⟩ := jko h
  refine wjn (τ := Unit) (fun t => k2 t = some r) (fun _ => ⟨mk 19 [], [Qlw]⟩) (fun t h => ?_) ?_
  ·subst hk_k2
   refine wx tbk [] trivial ?_
   refine wmr (mto (n := 19) (l' := [(4, (I ((-1))))]) (own' := [Qlw]) [(4, (I ((-1))))] [0] [Qlw] hφ0 (pc rwl pn) (qc (spb (lc (.rn (Qbk rn0 rn0)) ln)) qn)) ?_
   refine Qag ?_
   obtain rfl := osi h
   exact ⟨_, Mor.rfl, Qdc (vs := [(I ((-1)))]) ⟨rot (by kernel_rfl), trivial⟩ rfl (NLt.of0 nll) (by kernel_rfl) (Qal (Qbd (nlc (NLt.of0 (NLt.fn _ _ _ nl0 nl0)) nl0)) Qbr)⟩
  ·skip
   refine wx tbk [(1, rp [(.tmp 6, (Qwp p0))] (I ((p0.length : Int))))] ⟨alm (c := Qab) (l := p0) (aln rfl Try.underlying45 rfl), trivial⟩ ?_
   refine Qao ?_
   refine wmr (mto (n := 19) (l' := [(0, (Qwp p0)), (1, Q1d), (7, (I ((p0.length : Int)))), (8, I 0)]) (own' := [Qlw]) [(0, (Qwp p0)), (1, Q1d), (7, (I ((p0.length : Int)))), (8, I 0)] [0] [Qlw] hφ0 (pc (.rn (.plain _ (nld Qac _))) (pc (.rn (Qbk rn0 (rnc (rqr rfl) rn0))) (pc rwl (pc rwl pn)))) (qc (spb (lc (.rn (Qbk rn0 rn0)) ln)) qn)) ?_
   refine Qc0 (τ := Int) (fun n t => Qa3 N p0 k2 n t = some r) (fun y3 => ⟨mk 19 [(0, (Qwp p0)), (1, Q1d), (7, (I ((p0.length : Int)))), (8, I y3)], [Qlw]⟩) (fun t h => by rw [Qa3] at h; cases h) (fun n5 ih y3 h => ?_) N (0) h
   rw [Qa3] at h
   skip
   refine wx tbk [] trivial ?_
   refine wsq ?_
   rcases bft ((decide (y3 < (p0.length : Int)))) with hc6 | hc6
   ·replace h := Qa6 hc6 h
    refine wft hc6 (by kernel_rfl) ?_
    refine Qas ?_
    refine thn ?_
    refine wsq ?_
    refine Qao ?_
    refine wx tbk [] trivial ?_
    obtain ⟨x7, hg8, h⟩ := bno h
    obtain ⟨hi9, hj10⟩ := gsm hg8
    obtain ⟨x12, hf11, h⟩ := bno h
    refine wx tbk [(3, rp [(.tmp 12, (Qwp p0)), (.tmp 13, I y3)] (.dptr (Qab (x7)) 0)), (5, ⟨[(.tmp 11, Q1d), (.tmp 15, (Zfv x7))], [(0, Qlw)], B x12, [(0, Qlw)], false⟩)] ⟨aid rfl Try.underlying45 ti48 rfl rfl hi9 (mgt Qab hj10) rfl, Qaq (first := []) (cap := [.ref 0 1 0 0]) (vs := [(Zfv x7)]) (σr := [Qlw]) (σr' := [Qlw]) (res' := (B x12)) [0] rfl Zdv (Qiv N x7 _ hf11) rfl (Qbn (rnc (.plain _ (NLt.agg _ (nlc nll (nlc nll (nlc nll (nlc nll nl0)))))) (rnc (Qbi rfl) rn0))) (slc (Qan (rnc (.plain _ (NLt.fn _ _ _ nl0 nl0)) rn0)) Qap) (slc (Qan (rnc (.plain _ (NLt.fn _ _ _ nl0 nl0)) rn0)) Qap) (.plain _ nll) rfl rfl rfl, trivial⟩ ?_
    rcases bft (x12) with hc13 | hc13
    ·replace h := Qa6 hc13 h
     refine wft hc13 (by kernel_rfl) ?_
     refine wx tbk [] trivial ?_
     refine wmr (mto (n := 19) (l' := [(4, I y3)]) (own' := [Qlw]) [(4, I y3)] [0] [Qlw] hφ0 (pc rwl pn) (qc (spb (lc (.rn (Qbk rn0 rn0)) ln)) qn)) ?_
     refine Qag ?_
     refine Qax ?_
     refine Qaj ?_
     refine Qaj ?_
     refine Qax ?_
     refine Qaj ?_
     obtain rfl := osi h
     exact ⟨_, Mor.rfl, Qdc (vs := [I y3]) ⟨rot (by kernel_rfl), trivial⟩ rfl (NLt.of0 nll) (by kernel_rfl) (Qal (Qbd (nlc (NLt.of0 (NLt.fn _ _ _ nl0 nl0)) nl0)) Qbr)⟩
    ·replace h := Qa7 hc13 h
     refine wfn hc13 (by kernel_rfl) ?_
     refine Qas ?_
     refine bln ?_
     refine thn ?_
     refine wx1 tbk [] trivial ?_
     refine thn ?_
     exact arm (mto (n := 19) [(0, (Qwp p0)), (1, Q1d), (7, (I ((p0.length : Int)))), (8, (I (w64 (y3 + 1))))] [0] [Qlw] hφ0 (pc (.rn (.plain _ (nld Qac _))) (pc (.rn (Qbk rn0 (rnc (rqr rfl) rn0))) (pc rwl (pc rwl pn)))) (qc (spb (lc (.rn (Qbk rn0 rn0)) ln)) qn)) (ih (w64 (y3 + 1)) h)
   ·replace h := Qa7 hc6 h
    refine wfn hc6 (by kernel_rfl) ?_
    refine Qb4 ?_
    refine Qa5 ?_
    refine Qa5 ?_
    refine Qb3 rfl ?_
    refine thn ?_
    exact ⟨(), h, (mto (n := 19) [] [0] [Qlw] hφ0 pn (qc (spb (lc (.rn (Qbk rn0 rn0)) ln)) qn))⟩
def Qbf (N : Nat) (p0 : (List GStream)) : Option Bool :=
  (Qbv N p0).bind fun x3 =>
  some (decide (x3 ≥ 0))
def Zb2 (p0 : (List GStream)) : AV := .dat 4 ((p0 : List GStream).map Qab)
def Zb1 : AV := .fn (.func 88) [] [(.ref 0 1 (0) 0)]
def Qub : Slot := .own 1 [[(.fn (.func 72) [] [])]]
theorem Qe3 (N : Nat) (p0 : (List GStream)) (r : Bool) (h : Qbf N p0 = some r) : Spec Try.prog 87 [(Zb2 p0), Zb1] [Qub] (B (r)) [Qub] := by
  refine Qah Try.func87 rfl 1 (nle rfl) (fun X φ0 w0 hφ0 hd0 => ?_)
  unfold Qbf at h
  refine Qbt ?_
  refine wx tbk [] trivial ?_
  obtain ⟨x3, hf2, h⟩ := bno h
  refine wx tbk [(2, ⟨[fu 95, (.tmp 5, (Zb2 p0)), (.tmp 6, Zb1)], [(0, Qub)], I x3, [(0, Qub)], false⟩)] ⟨Qaq (first := []) (cap := []) (vs := [(Zb2 p0), Zb1]) (σr := [Qub]) (σr' := [Qub]) (res' := (I x3)) [0] rfl Zdq (Qfi N p0 _ hf2) rfl (Qbn (rnc (.plain _ (nld Qac _)) (rnc (Qbk rn0 (rnc (Qbi rfl) rn0)) rn0))) (slc (Qan (rnc (.plain _ (NLt.fn _ _ _ nl0 nl0)) rn0)) Qap) (slc (Qan (rnc (.plain _ (NLt.fn _ _ _ nl0 nl0)) rn0)) Qap) (.plain _ nll) rfl rfl rfl, trivial⟩ ?_
  refine wmr (mto (n := 9) (l' := [(4, (B ((decide (x3 ≥ 0)))))]) (own' := [Qub]) [(4, (B ((decide (x3 ≥ 0)))))] [0] [Qub] hφ0 (pc rwl pn) (qc (spb (lc (.rn (Qbk rn0 rn0)) ln)) qn)) ?_
  refine Qag ?_
  obtain rfl := osi h
  exact ⟨_, Mor.rfl, Qdc (vs := [(B ((decide (x3 ≥ 0))))]) ⟨rot (by kernel_rfl), trivial⟩ rfl (NLt.of0 nll) (by kernel_rfl) (Qal (Qbd (nlc (NLt.of0 (NLt.fn _ _ _ nl0 nl0)) nl0)) Qbr)⟩
def Qep (N : Nat) (p0 : (List GStream)) : Option Bool :=
  (Qbf N p0).bind fun x2 =>
  some (!x2)
def Zb4 (p0 : (List GStream)) : AV := .dat 4 ((p0 : List GStream).map Qab)
def Zb3 : AV := .fn (.func 88) [] [(.ref 0 1 (0) 0)]
def Q7v : Slot := .own 1 [[(.fn (.func 72) [] [])]]
theorem Qjg (N : Nat) (p0 : (List GStream)) (r : Bool) (h : Qep N p0 = some r) : Spec Try.prog 71 [(Zb4 p0), (.fn (.func 72) [] [])] [] (B (r)) [] := by
  refine Qah Try.func71 rfl 0 (nle rfl) (fun X φ0 w0 hφ0 hd0 => ?_)
  unfold Qep at h
  refine wx tbk [] trivial ?_
  obtain ⟨x2, hf1, h⟩ := bno h
  refine wx tbk [(1, rp [(.tmp 3, .ref 0 1 0 0)] Zb3), (2, ⟨[fu 87, (.tmp 5, (Zb4 p0)), (.tmp 6, Zb3)], [(0, Q7v)], B x2, [(0, Q7v)], false⟩)] ⟨Qfe (fs := []) (cs := [.ref 0 1 0 0]) rfl rfl rfl rfl, Qaq (first := []) (cap := []) (vs := [(Zb4 p0), Zb3]) (σr := [Q7v]) (σr' := [Q7v]) (res' := (B x2)) [0] rfl Zdw (Qe3 N p0 _ hf1) rfl (Qbn (rnc (.plain _ (nld Qac _)) (rnc (Qbk rn0 (rnc (Qbi rfl) rn0)) rn0))) (slc (Qan (rnc (.plain _ (NLt.fn _ _ _ nl0 nl0)) rn0)) Qap) (slc (Qan (rnc (.plain _ (NLt.fn _ _ _ nl0 nl0)) rn0)) Qap) (.plain _ nll) rfl rfl rfl, trivial⟩ ?_
  refine Qag ?_
  obtain rfl := osi h
  exact fend ⟨[(B ((!x2)))], ⟨rot (by kernel_rfl), trivial⟩, rfl⟩ nll
def Qec (N : Nat) (p0 : (List GStream)) (k5 : Int × Int × Int × Int → Option GStream) : Nat → Int → Int → Int → Int → Int → Option GStream
  | 0, _, _, _, _, _ => none
  | n16 + 1, y6, y7, y8, y9, y10 =>
    bif (decide (y6 < (p0.length : Int))) then
     (getI p0 y6).bind fun x18 =>
     Qec N p0 k5 n16 (w64 (y6 + 1)) (w64 (y7 + x18.Mass)) (w64 (y8 + x18.Heat)) (w64 (y9 + x18.Silica)) (w64 (y10 + x18.Gas))
    else
     k5 (y7, y8, y9, y10)
def Qd6 (N : Nat) (p0 : (List GStream)) : Option GStream :=
  Qcc (fun ⟨y1, y2, y3, y4⟩ =>
    some (⟨y1, y2, y3, y4⟩ : GStream)) fun k5 : Int × Int × Int × Int → Option GStream =>
  Qec N p0 k5 N 0 0 0 0 0
def Q1c (p0 : (List GStream)) : AV := .dat 4 ((p0 : List GStream).map Qab)
def Zfs : Slot := .own 4 [[(I (0)), (I (0)), (I (0)), (I (0))]]
theorem Qgz (N : Nat) (p0 : (List GStream)) (r : GStream) (h : Qd6 N p0 = some r) : Spec Try.prog 31 [(.dat 4 (p0.map Qab))] [] (.agg (Qab r)) [] := by
  refine Qah Try.func31 rfl 0 (nle rfl) (fun X φ0 w0 hφ0 hd0 => ?_)
  unfold Qd6 at h
  refine wx tbk [] trivial ?_
  obtain ⟨k5, hk_k5, h⟩ := jko h
  refine wjn (τ := Int × Int × Int × Int) (fun t => k5 t = some r) (fun ⟨y1, y2, y3, y4⟩ => ⟨mk 34 [(2, .ref 0 4 0 0)], [(.own 4 [[I y1, I y2, I y3, I y4]])]⟩) (fun t h => ?_) ?_
  ·subst hk_k5
   obtain ⟨y1, y2, y3, y4⟩ := t
   refine wx tbk [] trivial ?_
   refine Qag ?_
   obtain rfl := osi h
   exact fend ⟨[(.agg [I y1, I y2, I y3, I y4])], ⟨Qbo (n := 0) (m := 4) (j := 0) (i := 0) (xs := [[I y1, I y2, I y3, I y4]]) (by kernel_rfl) (by kernel_rfl) ti48 (by decide) rfl (nle rfl) rfl, trivial⟩, rfl⟩ (NLt.agg _ (nlc nll (nlc nll (nlc nll (nlc nll nl0)))))
  ·skip
   refine wx tbk [(1, rp [(.tmp 5, (Q1c p0))] (I ((p0.length : Int))))] ⟨alm (c := Qab) (l := p0) (aln rfl Try.underlying45 rfl), trivial⟩ ?_
   refine Qao ?_
   refine wmr (mto (n := 34) (l' := [(2, .ref 0 4 0 0), (5, (Q1c p0)), (6, (I ((p0.length : Int)))), (7, I 0)]) (own' := [Zfs]) [(2, .ref 0 4 0 0), (5, (Q1c p0)), (6, (I ((p0.length : Int)))), (7, I 0)] [0] [Zfs] hφ0 (pc (.rn (rqr rfl)) (pc (.rn (.plain _ (nld Qac _))) (pc rwl (pc rwl pn)))) (qc (spb (lc rwl (lc rwl (lc rwl (lc rwl ln))))) qn)) ?_
   refine Qc0 (τ := Int × Int × Int × Int × Int) (fun n t => Qec N p0 k5 n t.1 t.2.1 t.2.2.1 t.2.2.2.1 t.2.2.2.2 = some r) (fun ⟨y6, y7, y8, y9, y10⟩ => ⟨mk 34 [(2, .ref 0 4 0 0), (5, (Q1c p0)), (6, (I ((p0.length : Int)))), (7, I y6)], [(.own 4 [[I y7, I y8, I y9, I y10]])]⟩) (fun t h => by rw [Qec] at h; cases h) (fun n16 ih t h => ?_) N (0, 0, 0, 0, 0) h
   obtain ⟨y6, y7, y8, y9, y10⟩ := t
   rw [Qec] at h
   skip
   refine wx tbk [] trivial ?_
   refine wsq ?_
   rcases bft ((decide (y6 < (p0.length : Int)))) with hc17 | hc17
   ·replace h := Qa6 hc17 h
    refine wft hc17 (by kernel_rfl) ?_
    refine Qas ?_
    refine thn ?_
    refine wsq ?_
    refine Qao ?_
    obtain ⟨x18, hg19, h⟩ := bno h
    obtain ⟨hi20, hj21⟩ := gsm hg19
    refine wx tbk [(0, rp [(.tmp 5, (Q1c p0)), (.tmp 7, I y6)] (.dptr (Qab (x18)) 0))] ⟨aid rfl Try.underlying45 ti48 rfl rfl hi20 (mgt Qab hj21) rfl, trivial⟩ ?_
    refine wx1 tbk [(20, rp [(.tmp 15, (I (w64 (y7 + x18.Mass)))), (.tmp 20, (I (w64 (y8 + x18.Heat)))), (.tmp 25, (I (w64 (y9 + x18.Silica)))), (.tmp 30, (I (w64 (y10 + x18.Gas))))] (.agg [(I (w64 (y7 + x18.Mass))), (I (w64 (y8 + x18.Heat))), (I (w64 (y9 + x18.Silica))), (I (w64 (y10 + x18.Gas)))]))] ⟨Qar (vs := [(I (w64 (y7 + x18.Mass))), (I (w64 (y8 + x18.Heat))), (I (w64 (y9 + x18.Silica))), (I (w64 (y10 + x18.Gas)))]) rfl ts48 tz48 rfl (by rfl) rfl, trivial⟩ ?_
    refine bln ?_
    refine thn ?_
    refine wx1 tbk [] trivial ?_
    refine thn ?_
    exact arm (mto (n := 34) [(2, .ref 0 4 0 0), (5, (Q1c p0)), (6, (I ((p0.length : Int)))), (7, (I (w64 (y6 + 1))))] [0] [(.own 4 [[(I (w64 (y7 + x18.Mass))), (I (w64 (y8 + x18.Heat))), (I (w64 (y9 + x18.Silica))), (I (w64 (y10 + x18.Gas)))]])] hφ0 (pc (.rn (rqr rfl)) (pc (.rn (.plain _ (nld Qac _))) (pc rwl (pc rwl pn)))) (qc (spb (lc rwl (lc rwl (lc rwl (lc rwl ln))))) qn)) (ih (w64 (y6 + 1), w64 (y7 + x18.Mass), w64 (y8 + x18.Heat), w64 (y9 + x18.Silica), w64 (y10 + x18.Gas)) h)
   ·replace h := Qa7 hc17 h
    refine wfn hc17 (by kernel_rfl) ?_
    refine Qb4 ?_
    refine Qa5 ?_
    refine Qa5 ?_
    refine Qb3 rfl ?_
    refine thn ?_
    exact ⟨(y7, y8, y9, y10), h, (mto (n := 34) [(2, .ref 0 4 0 0)] [0] [(.own 4 [[I y7, I y8, I y9, I y10]])] hφ0 (pc (.rn (rqr rfl)) pn) (qc (spb (lc rwl (lc rwl (lc rwl (lc rwl ln))))) qn))⟩
def Qhp (N : Nat) (p0 : GNet) (p1 : (List GStream)) : Option Int :=
  Qcc (fun _ =>
    (Qd6 N p1).bind fun x3 =>
    bif (decide (x3.Mass > 1000000)) then
     some 3
    else
     bif (decide (x3.Gas > 1000000000)) then
      some 3
     else
      some 0) fun k1 : Unit → Option Int =>
  (Qg9 N p0 1).bind fun x7 =>
  bif ((p1.length : Int) != (x7.length : Int)) then
   some 1
  else
   (Qep N p1).bind fun x10 =>
   bif (!x10) then
    some 1
   else
    k1 ()
def Quc (p1 : (List GStream)) : AV := .dat 4 ((p1 : List GStream).map Qab)
def Zgw (p0 : GNet) : AV := .dat 7 ((p0.Elements : List GElement).map Qad)
def Q7x (p0 : GNet) : AV := .agg [(.dat 5 ((p0.Table : List GRow).map Qa8)), (Zgw p0)]
def Q7w (x7 : (List Int)) : AV := .dat 1 ((x7 : List Int).map Qam)
theorem Qpa (N : Nat) (p0 : GNet) (p1 : (List GStream)) (r : Int) (h : Qhp N p0 p1 = some r) : Spec Try.prog 49 [(.agg (Qj0 p0)), (.dat 4 (p1.map Qab))] [] (I r) [] := by
  refine Qah Try.func49 rfl 0 (nle rfl) (fun X φ0 w0 hφ0 hd0 => ?_)
  unfold Qhp at h
  refine wx tbk [] trivial ?_
  obtain ⟨k1, hk_k1, h⟩ := jko h
  refine wjn (τ := Unit) (fun t => k1 t = some r) (fun _ => ⟨mk 27 [(1, (Quc p1))], []⟩) (fun t h => ?_) ?_
  ·subst hk_k1
   refine wsq ?_
   obtain ⟨x3, hf2, h⟩ := bno h
   refine wx tbk [(1, rp [fu 31, (.tmp 17, (Quc p1))] (.agg [I x3.Mass, I x3.Heat, I x3.Silica, I x3.Gas]))] ⟨apc (first := []) (cap := []) (vs := [(Quc p1)]) rfl Qqu (Qgz N p1 _ hf2) rfl rfl (nlc (nld Qac _) nl0) (NLt.agg _ (nlc nll (nlc nll (nlc nll (nlc nll nl0))))) rfl, trivial⟩ ?_
   rcases bft ((decide (x3.Mass > 1000000))) with hb4 | hb4
   ·replace h := Qa6 hb4 h
    refine wx tbk [(3, rp [(.tmp 21, (B ((decide (x3.Mass > 1000000)))))] (B true))] ⟨asb hb4 (amv rfl), trivial⟩ ?_
    refine Qch (by kernel_rfl) ?_
    refine wx tbk [] trivial ?_
    refine Qag ?_
    refine Qaj ?_
    obtain rfl := osi h
    exact fend ⟨[I 3], ⟨rot (by kernel_rfl), trivial⟩, rfl⟩ nll
   ·replace h := Qa7 hb4 h
    refine wx tbk [(3, rp [(.tmp 21, (B ((decide (x3.Mass > 1000000)))))] (B false))] ⟨asb hb4 (amv rfl), trivial⟩ ?_
    rcases bft ((decide (x3.Gas > 1000000000))) with hc5 | hc5
    ·replace h := Qa6 hc5 h
     refine wft hc5 (by kernel_rfl) ?_
     refine wx tbk [] trivial ?_
     refine Qag ?_
     refine Qaj ?_
     obtain rfl := osi h
     exact fend ⟨[I 3], ⟨rot (by kernel_rfl), trivial⟩, rfl⟩ nll
    ·replace h := Qa7 hc5 h
     refine wfn hc5 (by kernel_rfl) ?_
     refine Qas ?_
     refine thn ?_
     refine wx tbk [] trivial ?_
     refine Qag ?_
     obtain rfl := osi h
     exact fend ⟨[I 0], ⟨rot (by kernel_rfl), trivial⟩, rfl⟩ nll
  ·skip
   obtain ⟨x7, hf6, h⟩ := bno h
   rcases bft (((p1.length : Int) != (x7.length : Int))) with hb8 | hb8
   ·replace h := Qa6 hb8 h
    refine wx tbk [(1, rp [(.tmp 6, (Quc p1))] (I ((p1.length : Int)))), (3, rp [fu 70, (.tmp 8, (Q7x p0)), (.const (.int .u8 1), (K .u8 (1)))] (Q7w x7)), (4, rp [(.tmp 9, (Q7w x7))] (I ((x7.length : Int)))), (6, rp [(.tmp 11, (B (((p1.length : Int) != (x7.length : Int)))))] (B true))] ⟨alm (c := Qab) (l := p1) (aln rfl Try.underlying45 rfl), apc (first := []) (cap := []) (vs := [(Q7x p0), (K .u8 (1))]) rfl Qtj (Qhn N p0 1 _ hf6) rfl rfl (nlc (NLt.agg _ (nlc (nld Qai _) (nlc (nld Qaa _) nl0))) (nlc nll nl0)) (nld Qaf _) rfl, alm (c := Qam) (l := x7) (aln rfl Try.underlying27 rfl), asb hb8 (amv rfl), trivial⟩ ?_
    refine Qch (by kernel_rfl) ?_
    refine wx tbk [] trivial ?_
    refine Qag ?_
    refine Qaj ?_
    obtain rfl := osi h
    exact fend ⟨[I 1], ⟨rot (by kernel_rfl), trivial⟩, rfl⟩ nll
   ·replace h := Qa7 hb8 h
    obtain ⟨x10, hf9, h⟩ := bno h
    refine wx tbk [(1, rp [(.tmp 6, (Quc p1))] (I ((p1.length : Int)))), (3, rp [fu 70, (.tmp 8, (Q7x p0)), (.const (.int .u8 1), (K .u8 (1)))] (Q7w x7)), (4, rp [(.tmp 9, (Q7w x7))] (I ((x7.length : Int)))), (6, rp [(.tmp 11, (B (((p1.length : Int) != (x7.length : Int)))))] (B false)), (8, rp [(.tmp 12, B false), fu 71, (.tmp 13, (Quc p1)), fu 72] (B x10))] ⟨alm (c := Qab) (l := p1) (aln rfl Try.underlying45 rfl), apc (first := []) (cap := []) (vs := [(Q7x p0), (K .u8 (1))]) rfl Qtj (Qhn N p0 1 _ hf6) rfl rfl (nlc (NLt.agg _ (nlc (nld Qai _) (nlc (nld Qaa _) nl0))) (nlc nll nl0)) (nld Qaf _) rfl, alm (c := Qam) (l := x7) (aln rfl Try.underlying27 rfl), asb hb8 (amv rfl), ag_ (Qaq (first := []) (cap := []) (vs := [(Quc p1), (.fn (.func 72) [] [])]) (σr := []) (σr' := []) (res' := (B x10)) [] rfl Zd9 (Qjg N p1 _ hf9) rfl (Qbn (rnc (.plain _ (nld Qac _)) (rnc (.plain _ (NLt.fn _ _ _ nl0 nl0)) rn0))) Qap Qap (.plain _ nll) rfl rfl rfl), trivial⟩ ?_
    rcases bft ((!x10)) with hc11 | hc11
    ·replace h := Qa6 hc11 h
     refine wft hc11 (by kernel_rfl) ?_
     refine wx tbk [] trivial ?_
     refine Qag ?_
     refine Qaj ?_
     obtain rfl := osi h
     exact fend ⟨[I 1], ⟨rot (by kernel_rfl), trivial⟩, rfl⟩ nll
    ·replace h := Qa7 hc11 h
     refine wfn hc11 (by kernel_rfl) ?_
     refine Qas ?_
     refine thn ?_
     exact ⟨(), h, (mto (n := 27) [(1, (Quc p1))] [] [] hφ0 (pc (.rn (.plain _ (nld Qac _))) pn) qn)⟩
def Qjf (N : Nat) (p0 : GNet) (p1 : (List Int)) (p2 : (List GStream)) : Option Int :=
  (Qim N p0 p1).bind fun x2 =>
  bif (x2 != 0) then
   some x2
  else
   (Qhp N p0 p2).bind fun x5 =>
   some x5
def Zgx (p0 : GNet) : AV := .dat 7 ((p0.Elements : List GElement).map Qad)
def Q71 (p0 : GNet) : AV := .agg [(.dat 5 ((p0.Table : List GRow).map Qa8)), (Zgx p0)]
theorem Qrk (N : Nat) (p0 : GNet) (p1 : (List Int)) (p2 : (List GStream)) (r : Int) (h : Qjf N p0 p1 p2 = some r) : Spec Try.prog 28 [(.agg (Qj0 p0)), (.dat 1 (p1.map Qam)), (.dat 4 (p2.map Qab))] [] (I r) [] := by
  refine Qah Try.func28 rfl 0 (nle rfl) (fun X φ0 w0 hφ0 hd0 => ?_)
  unfold Qjf at h
  refine wx tbk [] trivial ?_
  refine wsq ?_
  obtain ⟨x2, hf1, h⟩ := bno h
  refine wx tbk [(2, rp [fu 35, (.tmp 8, (Q71 p0)), (.tmp 9, (.dat 1 ((p1 : List Int).map Qam)))] (I x2))] ⟨apc (first := []) (cap := []) (vs := [(Q71 p0), (.dat 1 ((p1 : List Int).map Qam))]) rfl Zeo (Qp8 N p0 p1 _ hf1) rfl rfl (nlc (NLt.agg _ (nlc (nld Qai _) (nlc (nld Qaa _) nl0))) (nlc (nld Qaf _) nl0)) nll rfl, trivial⟩ ?_
  refine wx tbk [] trivial ?_
  rcases bft ((x2 != 0)) with hc3 | hc3
  ·replace h := Qa6 hc3 h
   refine wft hc3 (by kernel_rfl) ?_
   refine wx tbk [] trivial ?_
   refine Qag ?_
   refine Qaj ?_
   obtain rfl := osi h
   exact fend ⟨[I x2], ⟨rot (by kernel_rfl), trivial⟩, rfl⟩ nll
  ·replace h := Qa7 hc3 h
   refine wfn hc3 (by kernel_rfl) ?_
   refine Qas ?_
   refine thn ?_
   obtain ⟨x5, hf4, h⟩ := bno h
   refine wx tbk [(2, rp [fu 49, (.tmp 14, (Q71 p0)), (.tmp 15, (.dat 4 ((p2 : List GStream).map Qab)))] (I x5))] ⟨apc (first := []) (cap := []) (vs := [(Q71 p0), (.dat 4 ((p2 : List GStream).map Qab))]) rfl Zek (Qpa N p0 p2 _ hf4) rfl rfl (nlc (NLt.agg _ (nlc (nld Qai _) (nlc (nld Qaa _) nl0))) (nlc (nld Qac _) nl0)) nll rfl, trivial⟩ ?_
   refine Qag ?_
   obtain rfl := osi h
   exact fend ⟨[I x5], ⟨rot (by kernel_rfl), trivial⟩, rfl⟩ nll
def Qh5 (N : Nat) (p0 : Int) : Option Bool :=
  (Qcx N p0 0 1000).bind fun x2 =>
  some x2
theorem Qn8 (N : Nat) (p0 : Int) (r : Bool) (h : Qh5 N p0 = some r) : Spec Try.prog 97 [(I p0)] [] (B r) [] := by
  refine Qah Try.func97 rfl 0 (nle rfl) (fun X φ0 w0 hφ0 hd0 => ?_)
  unfold Qh5 at h
  refine wx tbk [] trivial ?_
  obtain ⟨x2, hf1, h⟩ := bno h
  refine wx tbk [(1, rp [fu 45, (.tmp 3, I p0), ci 0, ci 1000] (B x2))] ⟨apc (first := []) (cap := []) (vs := [I p0, I 0, I 1000]) rfl Qdn (Qau N p0 0 1000 _ hf1) rfl rfl (nlc nll (nlc nll (nlc nll nl0))) nll rfl, trivial⟩ ?_
  refine Qag ?_
  obtain rfl := osi h
  exact fend ⟨[B x2], ⟨rot (by kernel_rfl), trivial⟩, rfl⟩ nll
def Qfh (N : Nat) (p0 : Int) : Option Bool :=
  (Qh5 N p0).bind fun x3 =>
  some (!x3)
def Q7s : Slot := .own 1 [[(.fn (.func 97) [] [])]]
theorem Qlc (N : Nat) (p0 : Int) (r : Bool) (h : Qfh N p0 = some r) : Spec Try.prog 67 [(I (p0)), (.ref 0 1 (0) 0)] [Q7s] (B (r)) [Q7s] := by
  refine Qah Try.func67 rfl 1 (nle rfl) (fun X φ0 w0 hφ0 hd0 => ?_)
  unfold Qfh at h
  refine Qbt ?_
  refine wx tbk [] trivial ?_
  obtain ⟨x3, hf2, h⟩ := bno h
  refine wx tbk [(2, rp [(.tmp 4, (.fn (.func 97) [] [])), (.tmp 5, I p0)] (B x3))] ⟨apc (first := []) (cap := []) (vs := [I p0]) rfl Zdo (Qn8 N p0 _ hf2) rfl rfl (nlc nll nl0) nll rfl, trivial⟩ ?_
  refine wmr (mto (n := 8) (l' := [(3, (B ((!x3))))]) (own' := [Q7s]) [(3, (B ((!x3))))] [0] [Q7s] hφ0 (pc rwl pn) (qc (spb (lc (.rn (Qbk rn0 rn0)) ln)) qn)) ?_
  refine Qag ?_
  obtain rfl := osi h
  exact ⟨_, Mor.rfl, Qdc (vs := [(B ((!x3)))]) ⟨rot (by kernel_rfl), trivial⟩ rfl (NLt.of0 nll) (by kernel_rfl) (Qal (Qbd (nlc (NLt.of0 (NLt.fn _ _ _ nl0 nl0)) nl0)) Qbr)⟩
def Qby (N : Nat) (p0 : (List Int)) (k2 : Unit → Option Int) : Nat → Int → Option Int
  | 0, _ => none
  | n5 + 1, y3 =>
    bif (decide (y3 < (p0.length : Int))) then
     (getI p0 y3).bind fun x7 =>
     (Qfh N x7).bind fun x12 =>
     bif x12 then
      some y3
     else
      Qby N p0 k2 n5 (w64 (y3 + 1))
    else
     k2 ()
def Qd1 (N : Nat) (p0 : (List Int)) : Option Int :=
  Qcc (fun _ =>
    some (-1)) fun k2 : Unit → Option Int =>
  Qby N p0 k2 N 0
def Qwo (p0 : (List Int)) : AV := .dat 1 ((p0 : List Int).map Qam)
def Q1b : AV := .fn (.func 67) [] [(.ref 0 1 (0) 0)]
def Qlv : Slot := .own 1 [[(.fn (.func 97) [] [])]]
theorem Qig (N : Nat) (p0 : (List Int)) (r : Int) (h : Qd1 N p0 = some r) : Spec Try.prog 86 [(Qwo p0), Q1b] [Qlv] (I (r)) [Qlv] := by
  refine Qah Try.func86 rfl 1 (nle rfl) (fun X φ0 w0 hφ0 hd0 => ?_)
  unfold Qd1 at h
  refine Qbt ?_
  refine wx tbk [] trivial ?_
  obtain ⟨k2, hk_k2, h⟩ := jko h
  refine wjn (τ := Unit) (fun t => k2 t = some r) (fun _ => ⟨mk 19 [], [Qlv]⟩) (fun t h => ?_) ?_
  ·subst hk_k2
   refine wx tbk [] trivial ?_
   refine wmr (mto (n := 19) (l' := [(4, (I ((-1))))]) (own' := [Qlv]) [(4, (I ((-1))))] [0] [Qlv] hφ0 (pc rwl pn) (qc (spb (lc (.rn (Qbk rn0 rn0)) ln)) qn)) ?_
   refine Qag ?_
   obtain rfl := osi h
   exact ⟨_, Mor.rfl, Qdc (vs := [(I ((-1)))]) ⟨rot (by kernel_rfl), trivial⟩ rfl (NLt.of0 nll) (by kernel_rfl) (Qal (Qbd (nlc (NLt.of0 (NLt.fn _ _ _ nl0 nl0)) nl0)) Qbr)⟩
  ·skip
   refine wx tbk [(1, rp [(.tmp 6, (Qwo p0))] (I ((p0.length : Int))))] ⟨alm (c := Qam) (l := p0) (aln rfl Try.underlying27 rfl), trivial⟩ ?_
   refine Qao ?_
   refine wmr (mto (n := 19) (l' := [(0, (Qwo p0)), (1, Q1b), (7, (I ((p0.length : Int)))), (8, I 0)]) (own' := [Qlv]) [(0, (Qwo p0)), (1, Q1b), (7, (I ((p0.length : Int)))), (8, I 0)] [0] [Qlv] hφ0 (pc (.rn (.plain _ (nld Qaf _))) (pc (.rn (Qbk rn0 (rnc (rqr rfl) rn0))) (pc rwl (pc rwl pn)))) (qc (spb (lc (.rn (Qbk rn0 rn0)) ln)) qn)) ?_
   refine Qc0 (τ := Int) (fun n t => Qby N p0 k2 n t = some r) (fun y3 => ⟨mk 19 [(0, (Qwo p0)), (1, Q1b), (7, (I ((p0.length : Int)))), (8, I y3)], [Qlv]⟩) (fun t h => by rw [Qby] at h; cases h) (fun n5 ih y3 h => ?_) N (0) h
   rw [Qby] at h
   skip
   refine wx tbk [] trivial ?_
   refine wsq ?_
   rcases bft ((decide (y3 < (p0.length : Int)))) with hc6 | hc6
   ·replace h := Qa6 hc6 h
    refine wft hc6 (by kernel_rfl) ?_
    refine Qas ?_
    refine thn ?_
    refine wsq ?_
    refine Qao ?_
    refine wx tbk [] trivial ?_
    obtain ⟨x7, hg8, h⟩ := bno h
    obtain ⟨hi9, hj10⟩ := gsm hg8
    obtain ⟨x12, hf11, h⟩ := bno h
    refine wx tbk [(3, rp [(.tmp 12, (Qwo p0)), (.tmp 13, I y3)] (.dptr (Qam (x7)) 0)), (5, ⟨[(.tmp 11, Q1b), (.tmp 15, I x7)], [(0, Qlv)], B x12, [(0, Qlv)], false⟩)] ⟨aid rfl Try.underlying27 ti3 rfl rfl hi9 (mgt Qam hj10) rfl, Qaq (first := []) (cap := [.ref 0 1 0 0]) (vs := [I x7]) (σr := [Qlv]) (σr' := [Qlv]) (res' := (B x12)) [0] rfl Zea (Qlc N x7 _ hf11) rfl (Qbn (rnc (.plain _ nll) (rnc (Qbi rfl) rn0))) (slc (Qan (rnc (.plain _ (NLt.fn _ _ _ nl0 nl0)) rn0)) Qap) (slc (Qan (rnc (.plain _ (NLt.fn _ _ _ nl0 nl0)) rn0)) Qap) (.plain _ nll) rfl rfl rfl, trivial⟩ ?_
    rcases bft (x12) with hc13 | hc13
    ·replace h := Qa6 hc13 h
     refine wft hc13 (by kernel_rfl) ?_
     refine wx tbk [] trivial ?_
     refine wmr (mto (n := 19) (l' := [(4, I y3)]) (own' := [Qlv]) [(4, I y3)] [0] [Qlv] hφ0 (pc rwl pn) (qc (spb (lc (.rn (Qbk rn0 rn0)) ln)) qn)) ?_
     refine Qag ?_
     refine Qax ?_
     refine Qaj ?_
     refine Qaj ?_
     refine Qax ?_
     refine Qaj ?_
     obtain rfl := osi h
     exact ⟨_, Mor.rfl, Qdc (vs := [I y3]) ⟨rot (by kernel_rfl), trivial⟩ rfl (NLt.of0 nll) (by kernel_rfl) (Qal (Qbd (nlc (NLt.of0 (NLt.fn _ _ _ nl0 nl0)) nl0)) Qbr)⟩
    ·replace h := Qa7 hc13 h
     refine wfn hc13 (by kernel_rfl) ?_
     refine Qas ?_
     refine bln ?_
     refine thn ?_
     refine wx1 tbk [] trivial ?_
     refine thn ?_
     exact arm (mto (n := 19) [(0, (Qwo p0)), (1, Q1b), (7, (I ((p0.length : Int)))), (8, (I (w64 (y3 + 1))))] [0] [Qlv] hφ0 (pc (.rn (.plain _ (nld Qaf _))) (pc (.rn (Qbk rn0 (rnc (rqr rfl) rn0))) (pc rwl (pc rwl pn)))) (qc (spb (lc (.rn (Qbk rn0 rn0)) ln)) qn)) (ih (w64 (y3 + 1)) h)
   ·replace h := Qa7 hc6 h
    refine wfn hc6 (by kernel_rfl) ?_
    refine Qb4 ?_
    refine Qa5 ?_
    refine Qa5 ?_
    refine Qb3 rfl ?_
    refine thn ?_
    exact ⟨(), h, (mto (n := 19) [] [0] [Qlv] hφ0 pn (qc (spb (lc (.rn (Qbk rn0 rn0)) ln)) qn))⟩
def Qct (N : Nat) (p0 : (List Int)) : Option Bool :=
  (Qd1 N p0).bind fun x3 =>
  some (decide (x3 ≥ 0))
def Zbx (p0 : (List Int)) : AV := .dat 1 ((p0 : List Int).map Qam)
def Zbw : AV := .fn (.func 67) [] [(.ref 0 1 (0) 0)]
def Qt7 : Slot := .own 1 [[(.fn (.func 97) [] [])]]
theorem Qhg (N : Nat) (p0 : (List Int)) (r : Bool) (h : Qct N p0 = some r) : Spec Try.prog 66 [(Zbx p0), Zbw] [Qt7] (B (r)) [Qt7] := by
  refine Qah Try.func66 rfl 1 (nle rfl) (fun X φ0 w0 hφ0 hd0 => ?_)
  unfold Qct at h
  refine Qbt ?_
  refine wx tbk [] trivial ?_
  obtain ⟨x3, hf2, h⟩ := bno h
  refine wx tbk [(2, ⟨[fu 86, (.tmp 5, (Zbx p0)), (.tmp 6, Zbw)], [(0, Qt7)], I x3, [(0, Qt7)], false⟩)] ⟨Qaq (first := []) (cap := []) (vs := [(Zbx p0), Zbw]) (σr := [Qt7]) (σr' := [Qt7]) (res' := (I x3)) [0] rfl Qqs (Qig N p0 _ hf2) rfl (Qbn (rnc (.plain _ (nld Qaf _)) (rnc (Qbk rn0 (rnc (Qbi rfl) rn0)) rn0))) (slc (Qan (rnc (.plain _ (NLt.fn _ _ _ nl0 nl0)) rn0)) Qap) (slc (Qan (rnc (.plain _ (NLt.fn _ _ _ nl0 nl0)) rn0)) Qap) (.plain _ nll) rfl rfl rfl, trivial⟩ ?_
  refine wmr (mto (n := 9) (l' := [(4, (B ((decide (x3 ≥ 0)))))]) (own' := [Qt7]) [(4, (B ((decide (x3 ≥ 0)))))] [0] [Qt7] hφ0 (pc rwl pn) (qc (spb (lc (.rn (Qbk rn0 rn0)) ln)) qn)) ?_
  refine Qag ?_
  obtain rfl := osi h
  exact ⟨_, Mor.rfl, Qdc (vs := [(B ((decide (x3 ≥ 0))))]) ⟨rot (by kernel_rfl), trivial⟩ rfl (NLt.of0 nll) (by kernel_rfl) (Qal (Qbd (nlc (NLt.of0 (NLt.fn _ _ _ nl0 nl0)) nl0)) Qbr)⟩
def Qf5 (N : Nat) (p0 : (List Int)) : Option Bool :=
  (Qct N p0).bind fun x2 =>
  some (!x2)
def Zbz (p0 : (List Int)) : AV := .dat 1 ((p0 : List Int).map Qam)
def Zby : AV := .fn (.func 67) [] [(.ref 0 1 (0) 0)]
def Q7t : Slot := .own 1 [[(.fn (.func 97) [] [])]]
theorem Qjc (N : Nat) (p0 : (List Int)) (r : Bool) (h : Qf5 N p0 = some r) : Spec Try.prog 46 [(Zbz p0), (.fn (.func 97) [] [])] [] (B (r)) [] := by
  refine Qah Try.func46 rfl 0 (nle rfl) (fun X φ0 w0 hφ0 hd0 => ?_)
  unfold Qf5 at h
  refine wx tbk [] trivial ?_
  obtain ⟨x2, hf1, h⟩ := bno h
  refine wx tbk [(1, rp [(.tmp 3, .ref 0 1 0 0)] Zby), (2, ⟨[fu 66, (.tmp 5, (Zbz p0)), (.tmp 6, Zby)], [(0, Q7t)], B x2, [(0, Q7t)], false⟩)] ⟨Qfe (fs := []) (cs := [.ref 0 1 0 0]) rfl rfl rfl rfl, Qaq (first := []) (cap := []) (vs := [(Zbz p0), Zby]) (σr := [Q7t]) (σr' := [Q7t]) (res' := (B x2)) [0] rfl Qqt (Qhg N p0 _ hf1) rfl (Qbn (rnc (.plain _ (nld Qaf _)) (rnc (Qbk rn0 (rnc (Qbi rfl) rn0)) rn0))) (slc (Qan (rnc (.plain _ (NLt.fn _ _ _ nl0 nl0)) rn0)) Qap) (slc (Qan (rnc (.plain _ (NLt.fn _ _ _ nl0 nl0)) rn0)) Qap) (.plain _ nll) rfl rfl rfl, trivial⟩ ?_
  refine Qag ?_
  obtain rfl := osi h
  exact fend ⟨[(B ((!x2)))], ⟨rot (by kernel_rfl), trivial⟩, rfl⟩ nll
def Qh4 (_N : Nat) (p0 : Int) : Option Bool :=
  some (decide (p0 > 0))
theorem Qn7 (N : Nat) (p0 : Int) (r : Bool) (h : Qh4 N p0 = some r) : Spec Try.prog 98 [(I p0)] [] (B r) [] := by
  refine Qah Try.func98 rfl 0 (nle rfl) (fun X φ0 w0 hφ0 hd0 => ?_)
  unfold Qh4 at h
  refine wx tbk [] trivial ?_
  refine wx tbk [] trivial ?_
  refine Qag ?_
  obtain rfl := osi h
  exact fend ⟨[(B ((decide (p0 > 0))))], ⟨rot (by kernel_rfl), trivial⟩, rfl⟩ nll
def Qbx (N : Nat) (p0 : (List Int)) (k1 : Unit → Option Int) : Nat → Int → Option Int
  | 0, _ => none
  | n4 + 1, y2 =>
    bif (decide (y2 < (p0.length : Int))) then
     (getI p0 y2).bind fun x6 =>
     (Qh4 N x6).bind fun x11 =>
     bif x11 then
      some y2
     else
      Qbx N p0 k1 n4 (w64 (y2 + 1))
    else
     k1 ()
def Qd0 (N : Nat) (p0 : (List Int)) : Option Int :=
  Qcc (fun _ =>
    some (-1)) fun k1 : Unit → Option Int =>
  Qbx N p0 k1 N 0
def Qwn (p0 : (List Int)) : AV := .dat 1 ((p0 : List Int).map Qam)
theorem Qif (N : Nat) (p0 : (List Int)) (r : Int) (h : Qd0 N p0 = some r) : Spec Try.prog 86 [(Qwn p0), (.fn (.func 98) [] [])] [] (I (r)) [] := by
  refine Qah Try.func86 rfl 0 (nle rfl) (fun X φ0 w0 hφ0 hd0 => ?_)
  unfold Qd0 at h
  refine wx tbk [] trivial ?_
  obtain ⟨k1, hk_k1, h⟩ := jko h
  refine wjn (τ := Unit) (fun t => k1 t = some r) (fun _ => ⟨mk 19 [], []⟩) (fun t h => ?_) ?_
  ·subst hk_k1
   refine wx tbk [] trivial ?_
   refine Qag ?_
   obtain rfl := osi h
   exact fend ⟨[(I ((-1)))], ⟨rot (by kernel_rfl), trivial⟩, rfl⟩ nll
  ·skip
   refine wx tbk [(1, rp [(.tmp 6, (Qwn p0))] (I ((p0.length : Int))))] ⟨alm (c := Qam) (l := p0) (aln rfl Try.underlying27 rfl), trivial⟩ ?_
   refine Qao ?_
   refine wmr (mto (n := 19) (l' := [(0, (Qwn p0)), (1, (.fn (.func 98) [] [])), (7, (I ((p0.length : Int)))), (8, I 0)]) (own' := []) [(0, (Qwn p0)), (1, (.fn (.func 98) [] [])), (7, (I ((p0.length : Int)))), (8, I 0)] [] [] hφ0 (pc (.rn (.plain _ (nld Qaf _))) (pc (.rn (Qbk rn0 rn0)) (pc rwl (pc rwl pn)))) qn) ?_
   refine Qc0 (τ := Int) (fun n t => Qbx N p0 k1 n t = some r) (fun y2 => ⟨mk 19 [(0, (Qwn p0)), (1, (.fn (.func 98) [] [])), (7, (I ((p0.length : Int)))), (8, I y2)], []⟩) (fun t h => by rw [Qbx] at h; cases h) (fun n4 ih y2 h => ?_) N (0) h
   rw [Qbx] at h
   skip
   refine wx tbk [] trivial ?_
   refine wsq ?_
   rcases bft ((decide (y2 < (p0.length : Int)))) with hc5 | hc5
   ·replace h := Qa6 hc5 h
    refine wft hc5 (by kernel_rfl) ?_
    refine Qas ?_
    refine thn ?_
    refine wsq ?_
    refine Qao ?_
    refine wx tbk [] trivial ?_
    obtain ⟨x6, hg7, h⟩ := bno h
    obtain ⟨hi8, hj9⟩ := gsm hg7
    obtain ⟨x11, hf10, h⟩ := bno h
    refine wx tbk [(3, rp [(.tmp 12, (Qwn p0)), (.tmp 13, I y2)] (.dptr (Qam (x6)) 0)), (5, rp [(.tmp 11, (.fn (.func 98) [] [])), (.tmp 15, I x6)] (B x11))] ⟨aid rfl Try.underlying27 ti3 rfl rfl hi8 (mgt Qam hj9) rfl, apc (first := []) (cap := []) (vs := [I x6]) rfl Zdn (Qn7 N x6 _ hf10) rfl rfl (nlc nll nl0) nll rfl, trivial⟩ ?_
    rcases bft (x11) with hc12 | hc12
    ·replace h := Qa6 hc12 h
     refine wft hc12 (by kernel_rfl) ?_
     refine wx tbk [] trivial ?_
     refine Qag ?_
     refine Qax ?_
     refine Qaj ?_
     refine Qaj ?_
     refine Qax ?_
     refine Qaj ?_
     obtain rfl := osi h
     exact fend ⟨[I y2], ⟨rot (by kernel_rfl), trivial⟩, rfl⟩ nll
    ·replace h := Qa7 hc12 h
     refine wfn hc12 (by kernel_rfl) ?_
     refine Qas ?_
     refine bln ?_
     refine thn ?_
     refine wx1 tbk [] trivial ?_
     refine thn ?_
     exact arm (mto (n := 19) [(0, (Qwn p0)), (1, (.fn (.func 98) [] [])), (7, (I ((p0.length : Int)))), (8, (I (w64 (y2 + 1))))] [] [] hφ0 (pc (.rn (.plain _ (nld Qaf _))) (pc (.rn (Qbk rn0 rn0)) (pc rwl (pc rwl pn)))) qn) (ih (w64 (y2 + 1)) h)
   ·replace h := Qa7 hc5 h
    refine wfn hc5 (by kernel_rfl) ?_
    refine Qb4 ?_
    refine Qa5 ?_
    refine Qa5 ?_
    refine Qb3 rfl ?_
    refine thn ?_
    exact ⟨(), h, (mto (n := 19) [] [] [] hφ0 pn qn)⟩
def Qcd (N : Nat) (p0 : (List Int)) : Option Bool :=
  (Qd0 N p0).bind fun x2 =>
  some (decide (x2 ≥ 0))
def Zbv (p0 : (List Int)) : AV := .dat 1 ((p0 : List Int).map Qam)
theorem Qhf (N : Nat) (p0 : (List Int)) (r : Bool) (h : Qcd N p0 = some r) : Spec Try.prog 66 [(Zbv p0), (.fn (.func 98) [] [])] [] (B (r)) [] := by
  refine Qah Try.func66 rfl 0 (nle rfl) (fun X φ0 w0 hφ0 hd0 => ?_)
  unfold Qcd at h
  refine wx tbk [] trivial ?_
  obtain ⟨x2, hf1, h⟩ := bno h
  refine wx tbk [(2, rp [fu 86, (.tmp 5, (Zbv p0)), (.tmp 6, (.fn (.func 98) [] []))] (I x2))] ⟨Qaq (first := []) (cap := []) (vs := [(Zbv p0), (.fn (.func 98) [] [])]) (σr := []) (σr' := []) (res' := (I x2)) [] rfl Qqs (Qif N p0 _ hf1) rfl (Qbn (rnc (.plain _ (nld Qaf _)) (rnc (.plain _ (NLt.fn _ _ _ nl0 nl0)) rn0))) Qap Qap (.plain _ nll) rfl rfl rfl, trivial⟩ ?_
  refine Qag ?_
  obtain rfl := osi h
  exact fend ⟨[(B ((decide (x2 ≥ 0))))], ⟨rot (by kernel_rfl), trivial⟩, rfl⟩ nll
def Qe0 (_N : Nat) (p0 : Int) (p1 : Int) (p2 : Int) : Option Int :=
  chk (p2 != 0) <|
  some ((w64 (p1 * p0)).tmod p2)
theorem Qi0 (N : Nat) (p0 : Int) (p1 : Int) (p2 : Int) (r : Int) (h : Qe0 N p0 p1 p2 = some r) : Spec Try.prog 103 [(I (p0)), (.ref 0 1 (0) 0), (.ref 1 1 (0) 0)] [(.own 1 [[(I (p1))]]), (.own 1 [[(I (p2))]])] (I (r)) [(.own 1 [[(I (p1))]]), (.own 1 [[(I (p2))]])] := by
  refine Qah Try.func103 rfl 2 (nle rfl) (fun X φ0 w0 hφ0 hd0 => ?_)
  unfold Qe0 at h
  refine Qbt ?_
  refine wx tbk [] trivial ?_
  obtain ⟨hz2, h⟩ := cko h
  refine wx tbk [(4, rp [(.tmp 7, (I (w64 (p1 * p0)))), (.tmp 8, I p2)] (I ((w64 (p1 * p0)).tmod p2)))] ⟨Q6w rfl (Qq0 hz2), trivial⟩ ?_
  refine wmr (mto (n := 10) (l' := [(4, (I ((w64 (p1 * p0)).tmod p2)))]) (own' := [(.own 1 [[I p1]]), (.own 1 [[I p2]])]) [(4, (I ((w64 (p1 * p0)).tmod p2)))] [0, 1] [(.own 1 [[I p1]]), (.own 1 [[I p2]])] hφ0 (pc rwl pn) (qc (spb (lc rwl ln)) (qc (spb (lc rwl ln)) qn))) ?_
  refine Qag ?_
  obtain rfl := osi h
  exact ⟨_, Mor.rfl, Qdc (vs := [(I ((w64 (p1 * p0)).tmod p2))]) ⟨rot (by kernel_rfl), trivial⟩ rfl (NLt.of0 nll) (by kernel_rfl) (Qal (Qbd (nlc (NLt.of0 nll) nl0)) (Qal (Qbd (nlc (NLt.of0 nll) nl0)) Qbr))⟩
def Qeh (N : Nat) (p0 : Int) (p1 : Int) (p2 : (List Int)) (p3 : Int) (p4 : Int) : Option Int :=
  (getI p2 p1).bind fun x2 =>
  (Qe0 N x2 p3 p4).bind fun x7 =>
  (getI p2 p0).bind fun x8 =>
  (Qe0 N x8 p3 p4).bind fun x13 =>
  some (w64 (x7 - x13))
def Q1a : AV := .fn (.func 103) [] [(.ref 2 1 (0) 0), (.ref 3 1 (0) 0)]
def Q09 (p2 : (List Int)) : AV := .dat 1 ((p2 : List Int).map Qam)
theorem Qkc (N : Nat) (p0 : Int) (p1 : Int) (p2 : (List Int)) (p3 : Int) (p4 : Int) (r : Int) (h : Qeh N p0 p1 p2 p3 p4 = some r) : Spec Try.prog 107 [(I (p0)), (I (p1)), (.ref 0 1 (0) 0), (.ref 1 1 (0) 0)] [(.own 1 [[Q1a]]), (.own 1 [[(Q09 p2)]]), (.own 1 [[(I (p3))]]), (.own 1 [[(I (p4))]])] (I (r)) [(.own 1 [[Q1a]]), (.own 1 [[(Q09 p2)]]), (.own 1 [[(I (p3))]]), (.own 1 [[(I (p4))]])] := by
  refine Qah Try.func107 rfl 4 (nle rfl) (fun X φ0 w0 hφ0 hd0 => ?_)
  unfold Qeh at h
  refine Qbt ?_
  refine wx tbk [] trivial ?_
  obtain ⟨x2, hg3, h⟩ := bno h
  obtain ⟨hi4, hj5⟩ := gsm hg3
  obtain ⟨x7, hf6, h⟩ := bno h
  obtain ⟨x8, hg9, h⟩ := bno h
  obtain ⟨hi10, hj11⟩ := gsm hg9
  obtain ⟨x13, hf12, h⟩ := bno h
  refine wxd tbk [(3, rp [(.tmp 8, (Q09 p2)), (.tmp 9, I p1)] (.dptr (Qam (x2)) 0)), (5, ⟨[(.tmp 7, Q1a), (.tmp 11, I x2)], [(2, .own 1 [[I p3]]), (3, .own 1 [[I p4]])], I x7, [(2, .own 1 [[I p3]]), (3, .own 1 [[I p4]])], false⟩), (9, rp [(.tmp 14, (Q09 p2)), (.tmp 15, I p0)] (.dptr (Qam (x8)) 0)), (11, ⟨[(.tmp 13, Q1a), (.tmp 17, I x8)], [(2, .own 1 [[I p3]]), (3, .own 1 [[I p4]])], I x13, [(2, .own 1 [[I p3]]), (3, .own 1 [[I p4]])], false⟩)] ⟨aid rfl Try.underlying27 ti3 rfl rfl hi4 (mgt Qam hj5) rfl, Qaq (first := []) (cap := [.ref 2 1 0 0, .ref 3 1 0 0]) (vs := [I x2]) (σr := [(.own 1 [[I p3]]), (.own 1 [[I p4]])]) (σr' := [(.own 1 [[I p3]]), (.own 1 [[I p4]])]) (res' := (I x7)) [2, 3] rfl Q0e (Qi0 N x2 p3 p4 _ hf6) rfl (Qbn (rnc (.plain _ nll) (rnc (Qbi rfl) (rnc (Qbi rfl) rn0)))) (slc (Qan (rnc (.plain _ nll) rn0)) (slc (Qan (rnc (.plain _ nll) rn0)) Qap)) (slc (Qan (rnc (.plain _ nll) rn0)) (slc (Qan (rnc (.plain _ nll) rn0)) Qap)) (.plain _ nll) rfl rfl rfl, aid rfl Try.underlying27 ti3 rfl rfl hi10 (mgt Qam hj11) rfl, Qaq (first := []) (cap := [.ref 2 1 0 0, .ref 3 1 0 0]) (vs := [I x8]) (σr := [(.own 1 [[I p3]]), (.own 1 [[I p4]])]) (σr' := [(.own 1 [[I p3]]), (.own 1 [[I p4]])]) (res' := (I x13)) [2, 3] rfl Q0e (Qi0 N x8 p3 p4 _ hf12) rfl (Qbn (rnc (.plain _ nll) (rnc (Qbi rfl) (rnc (Qbi rfl) rn0)))) (slc (Qan (rnc (.plain _ nll) rn0)) (slc (Qan (rnc (.plain _ nll) rn0)) Qap)) (slc (Qan (rnc (.plain _ nll) rn0)) (slc (Qan (rnc (.plain _ nll) rn0)) Qap)) (.plain _ nll) rfl rfl rfl, trivial⟩ ?_
  refine wmr (mto (n := 20) (l' := [(6, (I (w64 (x7 - x13))))]) (own' := [(.own 1 [[Q1a]]), (.own 1 [[(Q09 p2)]]), (.own 1 [[I p3]]), (.own 1 [[I p4]])]) [(6, (I (w64 (x7 - x13))))] [0, 1, 2, 3] [(.own 1 [[Q1a]]), (.own 1 [[(Q09 p2)]]), (.own 1 [[I p3]]), (.own 1 [[I p4]])] hφ0 (pc rwl pn) (qc (spb (lc (.rn (Qbk rn0 (rnc (rqr rfl) (rnc (rqr rfl) rn0)))) ln)) (qc (spb (lc (.rn (.plain _ (nld Qaf _))) ln)) (qc (spb (lc rwl ln)) (qc (spb (lc rwl ln)) qn))))) ?_
  refine Qag ?_
  obtain rfl := osi h
  exact ⟨_, Mor.rfl, Qdc (vs := [(I (w64 (x7 - x13)))]) ⟨rot (by kernel_rfl), trivial⟩ rfl (NLt.of0 nll) (by kernel_rfl) (Qal (Qbd (nlc (NLt.fn _ _ _ nl0 (nlc (NLt.ref _ _ _ _ (by decide)) (nlc (NLt.ref _ _ _ _ (by decide)) nl0))) nl0)) (Qal (Qbd (nlc (NLt.of0 (nld Qaf _)) nl0)) (Qal (Qbd (nlc (NLt.of0 nll) nl0)) (Qal (Qbd (nlc (NLt.of0 nll) nl0)) Qbr))))⟩
def Qbb (N : Nat) (p0 : Nat) (p1 : Int) (p4 : (List Int)) (p5 : Int) (p6 : Int) (k9 : (List Int) → Option (List Int)) : Nat → Int → (List Int) → Option (List Int)
  | 0, _, _ => none
  | n14 + 1, y10, y11 =>
    Qcc (fun _ =>
      chk (decide (0 ≤ w64 (y10 - 1)) && decide ((w64 (y10 - 1)).toNat < p0)) <|
      (y11[(w64 (y10 - 1)).toNat]?).bind fun x17 =>
      chk (decide (0 ≤ y10) && decide (y10.toNat < p0)) <|
      (y11[y10.toNat]?).bind fun x20 =>
      chk (decide (0 ≤ y10) && decide (y10.toNat < p0)) <|
      (y11[y10.toNat]?).bind fun _ =>
      chk (decide (0 ≤ w64 (y10 - 1)) && decide ((w64 (y10 - 1)).toNat < p0)) <|
      ((y11.set y10.toNat x17)[(w64 (y10 - 1)).toNat]?).bind fun _ =>
      Qbb N p0 p1 p4 p5 p6 k9 n14 (w64 (y10 - 1)) ((y11.set y10.toNat x17).set ((w64 (y10 - 1)).toNat) x20)) fun k15 : Unit → Option (List Int) =>
    bif (decide (y10 > p1)) then
     chk (decide (0 ≤ y10) && decide (y10.toNat < p0)) <|
     (y11[y10.toNat]?).bind fun x30 =>
     chk (decide (0 ≤ w64 (y10 - 1)) && decide ((w64 (y10 - 1)).toNat < p0)) <|
     (y11[(w64 (y10 - 1)).toNat]?).bind fun x33 =>
     (Qeh N x30 x33 p4 p5 p6).bind fun x36 =>
     bif (decide (x36 < 0)) then
      k15 ()
     else
      k9 (y11)
    else
     k9 (y11)
def Qa0 (N : Nat) (p0 : Nat) (p1 : Int) (p2 : Int) (p4 : (List Int)) (p5 : Int) (p6 : Int) : Nat → Int → (List Int) → Option (List Int)
  | 0, _, _ => none
  | n6 + 1, y2, y3 =>
    bif (decide (y2 < p2)) then
     Qcc (fun y8 =>
       Qa0 N p0 p1 p2 p4 p5 p6 n6 (w64 (y2 + 1)) y8) fun k9 : (List Int) → Option (List Int) =>
     Qbb N p0 p1 p4 p5 p6 k9 N y2 y3
    else
     some y3
def Qbe (N : Nat) (p0 : Nat) (p1 : Int) (p2 : Int) (p3 : (List Int)) (p4 : (List Int)) (p5 : Int) (p6 : Int) : Option (List Int) :=
  Qa0 N p0 p1 p2 p4 p5 p6 N (w64 (p1 + 1)) p3
def Qmg : AV := .fn (.func 107) [] [(.ref 1 1 (0) 0), (.ref 2 1 (0) 0)]
def Zbq (p3 : (List Int)) : Slot := .own 1 ((p3 : List Int).map Qam)
def Qj4 : AV := .fn (.func 103) [] [(.ref 3 1 (0) 0), (.ref 4 1 (0) 0)]
def Qj3 (p4 : (List Int)) : AV := .dat 1 ((p4 : List Int).map Qam)
def Q3v (y3 : (List Int)) : Slot := .own 1 ((y3 : List Int).map Qam)
def Qi9 (y11 : (List Int)) : Slot := .own 1 ((y11 : List Int).map Qam)
theorem Qex (N : Nat) (p0 : Nat) (p1 : Int) (p2 : Int) (p3 : (List Int)) (p4 : (List Int)) (p5 : Int) (p6 : Int) (r : (List Int)) (h : Qbe N p0 p1 p2 p3 p4 p5 p6 = some r) : Spec Try.prog 109 [(.own 0 1 (0) (p0)), (I (p1)), (I (p2)), Qmg] [(Zbq p3), (.own 1 [[Qj4]]), (.own 1 [[(Qj3 p4)]]), (.own 1 [[(I (p5))]]), (.own 1 [[(I (p6))]])] (.tup []) [(.own 1 ((r : List Int).map Qam)), (.own 1 [[Qj4]]), (.own 1 [[(Qj3 p4)]]), (.own 1 [[(I (p5))]]), (.own 1 [[(I (p6))]])] := by
  refine Qah Try.func109 rfl 5 (nle rfl) (fun X φ0 w0 hφ0 hd0 => ?_)
  unfold Qbe at h
  refine Qbt ?_
  refine wx tbk [] trivial ?_
  refine Qao ?_
  refine wmr (mto (n := 53) (l' := [(0, (.own 0 1 (0) (p0))), (1, I p1), (2, I p2), (3, Qmg), (8, (I ((w64 (p1 + 1)))))]) (own' := [(Zbq p3), (.own 1 [[Qj4]]), (.own 1 [[(Qj3 p4)]]), (.own 1 [[I p5]]), (.own 1 [[I p6]])]) [(0, (.own 0 1 (0) (p0))), (1, I p1), (2, I p2), (3, Qmg), (8, (I (w64 (p1 + 1))))] [0, 1, 2, 3, 4] [(Zbq p3), (.own 1 [[Qj4]]), (.own 1 [[(Qj3 p4)]]), (.own 1 [[I p5]]), (.own 1 [[I p6]])] hφ0 (pc (.rn (Qba rfl)) (pc rwl (pc rwl (pc (.rn (Qbk rn0 (rnc (rqr rfl) (rnc (rqr rfl) rn0)))) (pc rwl pn))))) (qc (spr Qaf) (qc (spb (lc (.rn (Qbk rn0 (rnc (rqr rfl) (rnc (rqr rfl) rn0)))) ln)) (qc (spb (lc (.rn (.plain _ (nld Qaf _))) ln)) (qc (spb (lc rwl ln)) (qc (spb (lc rwl ln)) qn)))))) ?_
  refine Qc0 (τ := Int × (List Int)) (fun n t => Qa0 N p0 p1 p2 p4 p5 p6 n t.1 t.2 = some r) (fun ⟨y2, y3⟩ => ⟨mk 53 [(0, (.own 0 1 (0) (p0))), (1, I p1), (2, I p2), (3, Qmg), (8, I y2)], [(Q3v y3), (.own 1 [[Qj4]]), (.own 1 [[(Qj3 p4)]]), (.own 1 [[I p5]]), (.own 1 [[I p6]])]⟩) (fun t h => by rw [Qa0] at h; cases h) (fun n6 ih t h => ?_) N (w64 (p1 + 1), p3) h
  obtain ⟨y2, y3⟩ := t
  rw [Qa0] at h
  skip
  refine wsq ?_
  refine wx tbk [] trivial ?_
  rcases bft ((decide (y2 < p2))) with hc7 | hc7
  ·replace h := Qa6 hc7 h
   refine wft hc7 (by kernel_rfl) ?_
   refine Qas ?_
   refine thn ?_
   obtain ⟨k9, hk_k9, h⟩ := jko h
   refine wjn (τ := (List Int)) (fun t => k9 t = some r) (fun y8 => ⟨mk 53 [(0, (.own 0 1 (0) (p0))), (1, I p1), (2, I p2), (3, Qmg), (8, I y2)], [(.own 1 ((y8 : List Int).map Qam)), (.own 1 [[Qj4]]), (.own 1 [[(Qj3 p4)]]), (.own 1 [[I p5]]), (.own 1 [[I p6]])]⟩) (fun y8 h => ?_) ?_
   ·subst hk_k9
    refine wx1 tbk [] trivial ?_
    refine thn ?_
    exact arm (mto (n := 53) [(0, (.own 0 1 (0) (p0))), (1, I p1), (2, I p2), (3, Qmg), (8, (I (w64 (y2 + 1))))] [0, 1, 2, 3, 4] [(.own 1 ((y8 : List Int).map Qam)), (.own 1 [[Qj4]]), (.own 1 [[(Qj3 p4)]]), (.own 1 [[I p5]]), (.own 1 [[I p6]])] hφ0 (pc (.rn (Qba rfl)) (pc rwl (pc rwl (pc (.rn (Qbk rn0 (rnc (rqr rfl) (rnc (rqr rfl) rn0)))) (pc rwl pn))))) (qc (spr Qaf) (qc (spb (lc (.rn (Qbk rn0 (rnc (rqr rfl) (rnc (rqr rfl) rn0)))) ln)) (qc (spb (lc (.rn (.plain _ (nld Qaf _))) ln)) (qc (spb (lc rwl ln)) (qc (spb (lc rwl ln)) qn)))))) (ih (w64 (y2 + 1), y8) h)
   ·skip
    refine Qao ?_
    refine wx tbk [] trivial ?_
    refine Qao ?_
    refine wmr (mto (n := 53) (l' := [(0, (.own 0 1 (0) (p0))), (1, I p1), (2, I p2), (3, Qmg), (8, I y2), (9, I y2)]) (own' := [(Q3v y3), (.own 1 [[Qj4]]), (.own 1 [[(Qj3 p4)]]), (.own 1 [[I p5]]), (.own 1 [[I p6]])]) [(0, (.own 0 1 (0) (p0))), (1, I p1), (2, I p2), (3, Qmg), (8, I y2), (9, I y2)] [0, 1, 2, 3, 4] [(Q3v y3), (.own 1 [[Qj4]]), (.own 1 [[(Qj3 p4)]]), (.own 1 [[I p5]]), (.own 1 [[I p6]])] hφ0 (pc (.rn (Qba rfl)) (pc rwl (pc rwl (pc (.rn (Qbk rn0 (rnc (rqr rfl) (rnc (rqr rfl) rn0)))) (pc rwl (pc rwl pn)))))) (qc (spr Qaf) (qc (spb (lc (.rn (Qbk rn0 (rnc (rqr rfl) (rnc (rqr rfl) rn0)))) ln)) (qc (spb (lc (.rn (.plain _ (nld Qaf _))) ln)) (qc (spb (lc rwl ln)) (qc (spb (lc rwl ln)) qn)))))) ?_
    refine Qc0 (τ := Int × (List Int)) (fun n t => Qbb N p0 p1 p4 p5 p6 k9 n t.1 t.2 = some r) (fun ⟨y10, y11⟩ => ⟨mk 53 [(0, (.own 0 1 (0) (p0))), (1, I p1), (2, I p2), (3, Qmg), (8, I y2), (9, I y10)], [(Qi9 y11), (.own 1 [[Qj4]]), (.own 1 [[(Qj3 p4)]]), (.own 1 [[I p5]]), (.own 1 [[I p6]])]⟩) (fun t h => by rw [Qbb] at h; cases h) (fun n14 ih t h => ?_) N (y2, y3) h
    obtain ⟨y10, y11⟩ := t
    rw [Qbb] at h
    skip
    obtain ⟨k15, hk_k15, h⟩ := jko h
    refine wjn (τ := Unit) (fun t => k15 t = some r) (fun _ => ⟨mk 53 [(0, (.own 0 1 (0) (p0))), (1, I p1), (2, I p2), (3, Qmg), (8, I y2), (9, I y10)], [(Qi9 y11), (.own 1 [[Qj4]]), (.own 1 [[(Qj3 p4)]]), (.own 1 [[I p5]]), (.own 1 [[I p6]])]⟩) (fun t h => ?_) ?_
    ·subst hk_k15
     refine wsq ?_
     refine Qao ?_
     obtain ⟨hi16, h⟩ := cko h
     obtain ⟨hi16a, hi16b⟩ := Qe8 hi16
     obtain ⟨x17, hg18, h⟩ := bno h
     obtain ⟨hi19, h⟩ := cko h
     obtain ⟨hi19a, hi19b⟩ := Qe8 hi19
     obtain ⟨x20, hg21, h⟩ := bno h
     obtain ⟨hi22, h⟩ := cko h
     obtain ⟨hi22a, hi22b⟩ := Qe8 hi22
     obtain ⟨x23, hg24, h⟩ := bno h
     obtain ⟨hi25, h⟩ := cko h
     obtain ⟨hi25a, hi25b⟩ := Qe8 hi25
     obtain ⟨x26, hg27, h⟩ := bno h
     refine wy1 tbk [(8, rb [(.tmp 42, (.own 0 1 (0) (p0))), (.tmp 44, (I (w64 (y10 - 1))))] [(0, (Qi9 y11))] (.ref 0 1 ((w64 (y10 - 1)).toNat) 0)), (9, rb [(.tmp 45, (.ref 0 1 ((w64 (y10 - 1)).toNat) 0))] [(0, (Qi9 y11))] (I x17)), (12, rb [(.tmp 47, (.own 0 1 (0) (p0))), (.tmp 48, I y10)] [(0, (Qi9 y11))] (.ref 0 1 (y10.toNat) 0)), (13, rb [(.tmp 49, (.ref 0 1 (y10.toNat) 0))] [(0, (Qi9 y11))] (I x20)), (14, rb [(.tmp 37, (.own 0 1 (0) (p0))), (.tmp 38, I y10)] [(0, (Qi9 y11))] (.ref 0 1 (y10.toNat) 0)), (15, ⟨[(.tmp 51, (.ref 0 1 (y10.toNat) 0)), (.tmp 46, I x17)], [(0, (Qi9 y11))], .any, [(0, (.own 1 ((y11.set y10.toNat x17 : List Int).map Qam)))], false⟩), (16, rb [(.tmp 39, (.own 0 1 (0) (p0))), (.tmp 41, (I (w64 (y10 - 1))))] [(0, (.own 1 ((y11.set y10.toNat x17 : List Int).map Qam)))] (.ref 0 1 ((w64 (y10 - 1)).toNat) 0)), (17, ⟨[(.tmp 52, (.ref 0 1 ((w64 (y10 - 1)).toNat) 0)), (.tmp 50, I x20)], [(0, (.own 1 ((y11.set y10.toNat x17 : List Int).map Qam)))], .any, [(0, (.own 1 (((y11.set y10.toNat x17).set ((w64 (y10 - 1)).toNat) x20 : List Int).map Qam)))], false⟩)] ⟨aio rfl Try.underlying27 ti3 (odt hi16a) (odt hi16b) (Nat.zero_add _), ald rfl ti3 (by decide) (mgt Qam hg18) (nle rfl) rfl, aio rfl Try.underlying27 ti3 (odt hi19a) (odt hi19b) (Nat.zero_add _), ald rfl ti3 (by decide) (mgt Qam hg21) (nle rfl) rfl, aio rfl Try.underlying27 ti3 (odt hi22a) (odt hi22b) (Nat.zero_add _), ast rfl ti3 (by rfl) (mgt Qam hg24) (nle rfl) (Qgw Qam rfl), aio rfl Try.underlying27 ti3 (odt hi25a) (odt hi25b) (Nat.zero_add _), ast rfl ti3 (by rfl) (mgt Qam hg27) (nle rfl) (Qgw Qam rfl), trivial⟩ ?_
     refine bln ?_
     refine thn ?_
     refine wx1 tbk [] trivial ?_
     refine thn ?_
     exact arm (mto (n := 53) [(0, (.own 0 1 (0) (p0))), (1, I p1), (2, I p2), (3, Qmg), (8, I y2), (9, (I (w64 (y10 - 1))))] [0, 1, 2, 3, 4] [(.own 1 (((y11.set y10.toNat x17).set ((w64 (y10 - 1)).toNat) x20 : List Int).map Qam)), (.own 1 [[Qj4]]), (.own 1 [[(Qj3 p4)]]), (.own 1 [[I p5]]), (.own 1 [[I p6]])] hφ0 (pc (.rn (Qba rfl)) (pc rwl (pc rwl (pc (.rn (Qbk rn0 (rnc (rqr rfl) (rnc (rqr rfl) rn0)))) (pc rwl (pc rwl pn)))))) (qc (spr Qaf) (qc (spb (lc (.rn (Qbk rn0 (rnc (rqr rfl) (rnc (rqr rfl) rn0)))) ln)) (qc (spb (lc (.rn (.plain _ (nld Qaf _))) ln)) (qc (spb (lc rwl ln)) (qc (spb (lc rwl ln)) qn)))))) (ih (w64 (y10 - 1), (y11.set y10.toNat x17).set ((w64 (y10 - 1)).toNat) x20) h)
    ·skip
     rcases bft ((decide (y10 > p1))) with hb28 | hb28
     ·replace h := Qa6 hb28 h
      obtain ⟨hi29, h⟩ := cko h
      obtain ⟨hi29a, hi29b⟩ := Qe8 hi29
      obtain ⟨x30, hg31, h⟩ := bno h
      obtain ⟨hi32, h⟩ := cko h
      obtain ⟨hi32a, hi32b⟩ := Qe8 hi32
      obtain ⟨x33, hg34, h⟩ := bno h
      obtain ⟨x36, hf35, h⟩ := bno h
      refine wxd tbk [(3, rp [(.tmp 20, (B ((decide (y10 > p1)))))] (B true)), (7, rb [(.tmp 21, B true), (.tmp 23, (.own 0 1 (0) (p0))), (.tmp 24, I y10)] [(0, (Qi9 y11))] (.ref 0 1 (y10.toNat) 0)), (8, rb [(.tmp 21, B true), (.tmp 25, (.ref 0 1 (y10.toNat) 0))] [(0, (Qi9 y11))] (I x30)), (12, rb [(.tmp 21, B true), (.tmp 27, (.own 0 1 (0) (p0))), (.tmp 29, (I (w64 (y10 - 1))))] [(0, (Qi9 y11))] (.ref 0 1 ((w64 (y10 - 1)).toNat) 0)), (13, rb [(.tmp 21, B true), (.tmp 30, (.ref 0 1 ((w64 (y10 - 1)).toNat) 0))] [(0, (Qi9 y11))] (I x33)), (14, ⟨[(.tmp 21, B true), (.tmp 22, Qmg), (.tmp 26, I x30), (.tmp 31, I x33)], [(1, .own 1 [[Qj4]]), (2, (.own 1 [[(Qj3 p4)]])), (3, .own 1 [[I p5]]), (4, .own 1 [[I p6]])], I x36, [(1, .own 1 [[Qj4]]), (2, (.own 1 [[(Qj3 p4)]])), (3, .own 1 [[I p5]]), (4, .own 1 [[I p6]])], false⟩)] ⟨asb hb28 (amv rfl), ag_ (aio rfl Try.underlying27 ti3 (odt hi29a) (odt hi29b) (Nat.zero_add _)), ag_ (ald rfl ti3 (by decide) (mgt Qam hg31) (nle rfl) rfl), ag_ (aio rfl Try.underlying27 ti3 (odt hi32a) (odt hi32b) (Nat.zero_add _)), ag_ (ald rfl ti3 (by decide) (mgt Qam hg34) (nle rfl) rfl), ag_ (Qaq (first := []) (cap := [.ref 1 1 0 0, .ref 2 1 0 0]) (vs := [I x30, I x33]) (σr := [(.own 1 [[Qj4]]), (.own 1 [[(Qj3 p4)]]), (.own 1 [[I p5]]), (.own 1 [[I p6]])]) (σr' := [(.own 1 [[Qj4]]), (.own 1 [[(Qj3 p4)]]), (.own 1 [[I p5]]), (.own 1 [[I p6]])]) (res' := (I x36)) [1, 2, 3, 4] rfl Q87 (Qkc N x30 x33 p4 p5 p6 _ hf35) rfl (Qbn (rnc (.plain _ nll) (rnc (.plain _ nll) (rnc (Qbi rfl) (rnc (Qbi rfl) rn0))))) (slc (Qan (rnc (Qbk rn0 (rnc (Qbi rfl) (rnc (Qbi rfl) rn0))) rn0)) (slc (Qan (rnc (.plain _ (nld Qaf _)) rn0)) (slc (Qan (rnc (.plain _ nll) rn0)) (slc (Qan (rnc (.plain _ nll) rn0)) Qap)))) (slc (Qan (rnc (Qbk rn0 (rnc (Qbl rfl) (rnc (Qbl rfl) rn0))) rn0)) (slc (Qan (rnc (.plain _ (nld Qaf _)) rn0)) (slc (Qan (rnc (.plain _ nll) rn0)) (slc (Qan (rnc (.plain _ nll) rn0)) Qap)))) (.plain _ nll) rfl rfl rfl), trivial⟩ ?_
      rcases bft ((decide (x36 < 0))) with hc37 | hc37
      ·replace h := Qa6 hc37 h
       refine wft hc37 (by kernel_rfl) ?_
       refine Qas ?_
       refine thn ?_
       exact ⟨(), h, (mto (n := 53) [(0, (.own 0 1 (0) (p0))), (1, I p1), (2, I p2), (3, Qmg), (8, I y2), (9, I y10)] [0, 1, 2, 3, 4] [(Qi9 y11), (.own 1 [[Qj4]]), (.own 1 [[(Qj3 p4)]]), (.own 1 [[I p5]]), (.own 1 [[I p6]])] hφ0 (pc (.rn (Qba rfl)) (pc rwl (pc rwl (pc (.rn (Qbk rn0 (rnc (rqr rfl) (rnc (rqr rfl) rn0)))) (pc rwl (pc rwl pn)))))) (qc (spr Qaf) (qc (spb (lc (.rn (Qbk rn0 (rnc (rqr rfl) (rnc (rqr rfl) rn0)))) ln)) (qc (spb (lc (.rn (.plain _ (nld Qaf _))) ln)) (qc (spb (lc rwl ln)) (qc (spb (lc rwl ln)) qn))))))⟩
      ·replace h := Qa7 hc37 h
       refine wfn hc37 (by kernel_rfl) ?_
       refine Qb4 ?_
       refine Qa5 ?_
       refine Qa5 ?_
       refine Qb3 rfl ?_
       refine bln ?_
       refine thn ?_
       exact ⟨(y11), h, (mto (n := 53) [(0, (.own 0 1 (0) (p0))), (1, I p1), (2, I p2), (3, Qmg), (8, I y2)] [0, 1, 2, 3, 4] [(Qi9 y11), (.own 1 [[Qj4]]), (.own 1 [[(Qj3 p4)]]), (.own 1 [[I p5]]), (.own 1 [[I p6]])] hφ0 (pc (.rn (Qba rfl)) (pc rwl (pc rwl (pc (.rn (Qbk rn0 (rnc (rqr rfl) (rnc (rqr rfl) rn0)))) (pc rwl pn))))) (qc (spr Qaf) (qc (spb (lc (.rn (Qbk rn0 (rnc (rqr rfl) (rnc (rqr rfl) rn0)))) ln)) (qc (spb (lc (.rn (.plain _ (nld Qaf _))) ln)) (qc (spb (lc rwl ln)) (qc (spb (lc rwl ln)) qn))))))⟩
     ·replace h := Qa7 hb28 h
      refine wxd tbk [(3, rp [(.tmp 20, (B ((decide (y10 > p1)))))] (B false))] ⟨asb hb28 (amv rfl), trivial⟩ ?_
      refine Qir (by kernel_rfl) ?_
      refine Qb4 ?_
      refine Qa5 ?_
      refine Qa5 ?_
      refine Qb3 rfl ?_
      refine bln ?_
      refine thn ?_
      exact ⟨(y11), h, (mto (n := 53) [(0, (.own 0 1 (0) (p0))), (1, I p1), (2, I p2), (3, Qmg), (8, I y2)] [0, 1, 2, 3, 4] [(Qi9 y11), (.own 1 [[Qj4]]), (.own 1 [[(Qj3 p4)]]), (.own 1 [[I p5]]), (.own 1 [[I p6]])] hφ0 (pc (.rn (Qba rfl)) (pc rwl (pc rwl (pc (.rn (Qbk rn0 (rnc (rqr rfl) (rnc (rqr rfl) rn0)))) (pc rwl pn))))) (qc (spr Qaf) (qc (spb (lc (.rn (Qbk rn0 (rnc (rqr rfl) (rnc (rqr rfl) rn0)))) ln)) (qc (spb (lc (.rn (.plain _ (nld Qaf _))) ln)) (qc (spb (lc rwl ln)) (qc (spb (lc rwl ln)) qn))))))⟩
  ·replace h := Qa7 hc7 h
   refine wfn hc7 (by kernel_rfl) ?_
   refine Qb4 ?_
   refine Qa5 ?_
   refine Qa5 ?_
   refine Qb3 rfl ?_
   obtain rfl := osi h
   exact ⟨_, (mto (n := 53) (l' := []) (own' := [(Q3v y3), (.own 1 [[Qj4]]), (.own 1 [[(Qj3 p4)]]), (.own 1 [[I p5]]), (.own 1 [[I p6]])]) [] [0, 1, 2, 3, 4] [(Q3v y3), (.own 1 [[Qj4]]), (.own 1 [[(Qj3 p4)]]), (.own 1 [[I p5]]), (.own 1 [[I p6]])] hφ0 pn (qc (spr Qaf) (qc (spb (lc (.rn (Qbk rn0 (rnc (rqr rfl) (rnc (rqr rfl) rn0)))) ln)) (qc (spb (lc (.rn (.plain _ (nld Qaf _))) ln)) (qc (spb (lc rwl ln)) (qc (spb (lc rwl ln)) qn)))))), Qdc (vs := []) trivial rfl (NLt.tup _ nl0) (by kernel_rfl) (Qal (Qcf Qaf _) (Qal (Qbd (nlc (NLt.fn _ _ _ nl0 (nlc (NLt.ref _ _ _ _ (by decide)) (nlc (NLt.ref _ _ _ _ (by decide)) nl0))) nl0)) (Qal (Qbd (nlc (NLt.of0 (nld Qaf _)) nl0)) (Qal (Qbd (nlc (NLt.of0 nll) nl0)) (Qal (Qbd (nlc (NLt.of0 nll) nl0)) Qbr)))))⟩
def Qc8 (N : Nat) (p1 : Int) (k9 : Unit → Option (List Int)) : Nat → Option (List Int)
  | 0 => none
  | n10 + 1 =>
    bif (decide (40 ≤ p1)) then
     none
    else
     k9 ()
def Qbu (N : Nat) (p1 : Int) (x6 : (List Int)) : Nat → Option (List Int)
  | 0 => none
  | n7 + 1 =>
    bif (decide (20 < p1)) then
     Qcc (fun _ =>
       none) fun k9 : Unit → Option (List Int) =>
     Qc8 N p1 k9 N
    else
     some x6
def Qbm (N : Nat) (p0 : Nat) (p1 : Int) (p3 : (List Int)) (k4 : Int × (List Int) → Option (List Int)) (p4 : Int) (p5 : Int) : Nat → Int → Int → (List Int) → Option (List Int)
  | 0, _, _, _ => none
  | n18 + 1, y12, y13, y14 =>
    bif (decide (y13 ≤ p1)) then
     (Qbe N p0 y12 y13 y14 p3 p4 p5).bind fun x21 =>
     Qbm N p0 p1 p3 k4 p4 p5 n18 y13 (w64 (y13 + 20)) x21
    else
     k4 (y12, y14)
def Qdz (N : Nat) (p0 : Nat) (p1 : Int) (p2 : (List Int)) (p3 : (List Int)) (p4 : Int) (p5 : Int) : Option (List Int) :=
  Qcc (fun ⟨y2, y3⟩ =>
    (Qbe N p0 y2 p1 y3 p3 p4 p5).bind fun x6 =>
    Qbu N p1 x6 N) fun k4 : Int × (List Int) → Option (List Int) =>
  Qbm N p0 p1 p3 k4 p4 p5 N 0 20 p2
def Qkp : AV := .fn (.func 107) [] [(.ref 1 1 (0) 0), (.ref 2 1 (0) 0)]
def Zbs (p2 : (List Int)) : Slot := .own 1 ((p2 : List Int).map Qam)
def Qh9 : AV := .fn (.func 103) [] [(.ref 3 1 (0) 0), (.ref 4 1 (0) 0)]
def Qh8 (p3 : (List Int)) : AV := .dat 1 ((p3 : List Int).map Qam)
def Zbr (y3 : (List Int)) : Slot := .own 1 ((y3 : List Int).map Qam)
def Qo6 (x6 : (List Int)) : Slot := .own 1 ((x6 : List Int).map Qam)
def Qy9 (y14 : (List Int)) : Slot := .own 1 ((y14 : List Int).map Qam)
theorem Qie (N : Nat) (p0 : Nat) (p1 : Int) (p2 : (List Int)) (p3 : (List Int)) (p4 : Int) (p5 : Int) (r : (List Int)) (h : Qdz N p0 p1 p2 p3 p4 p5 = some r) : Spec Try.prog 108 [(.own 0 1 (0) (p0)), (I (p1)), Qkp] [(Zbs p2), (.own 1 [[Qh9]]), (.own 1 [[(Qh8 p3)]]), (.own 1 [[(I (p4))]]), (.own 1 [[(I (p5))]])] (.tup []) [(.own 1 ((r : List Int).map Qam)), (.own 1 [[Qh9]]), (.own 1 [[(Qh8 p3)]]), (.own 1 [[(I (p4))]]), (.own 1 [[(I (p5))]])] := by
  refine Qah Try.func108 rfl 5 (nle rfl) (fun X φ0 w0 hφ0 hd0 => ?_)
  unfold Qdz at h
  refine Qbt ?_
  refine wx tbk [] trivial ?_
  refine wx tbk [] trivial ?_
  obtain ⟨k4, hk_k4, h⟩ := jko h
  refine wjn (τ := Int × (List Int)) (fun t => k4 t = some r) (fun ⟨y2, y3⟩ => ⟨mk 63 [(0, (.own 0 1 (0) (p0))), (1, I p1), (2, Qkp), (6, I 20), (7, I y2)], [(Zbr y3), (.own 1 [[Qh9]]), (.own 1 [[(Qh8 p3)]]), (.own 1 [[I p4]]), (.own 1 [[I p5]])]⟩) (fun t h => ?_) ?_
  ·subst hk_k4
   obtain ⟨y2, y3⟩ := t
   obtain ⟨x6, hf5, h⟩ := bno h
   refine wx tbk [(4, ⟨[fu 109, (.tmp 23, (.own 0 1 (0) (p0))), (.tmp 24, I y2), (.tmp 25, I p1), (.tmp 26, Qkp)], [(0, (Zbr y3)), (1, .own 1 [[Qh9]]), (2, (.own 1 [[(Qh8 p3)]])), (3, .own 1 [[I p4]]), (4, .own 1 [[I p5]])], (.tup []), [(0, (Qo6 x6)), (1, .own 1 [[Qh9]]), (2, (.own 1 [[(Qh8 p3)]])), (3, .own 1 [[I p4]]), (4, .own 1 [[I p5]])], false⟩)] ⟨Qaq (first := []) (cap := []) (vs := [(.own 0 1 (0) (p0)), I y2, I p1, Qkp]) (σr := [(Zbr y3), (.own 1 [[Qh9]]), (.own 1 [[(Qh8 p3)]]), (.own 1 [[I p4]]), (.own 1 [[I p5]])]) (σr' := [(Qo6 x6), (.own 1 [[Qh9]]), (.own 1 [[(Qh8 p3)]]), (.own 1 [[I p4]]), (.own 1 [[I p5]])]) (res' := (.tup [])) [0, 1, 2, 3, 4] rfl Q0d (Qex N p0 y2 p1 y3 p3 p4 p5 _ hf5) rfl (Qbn (rnc (Qc3 rfl) (rnc (.plain _ nll) (rnc (.plain _ nll) (rnc (Qbk rn0 (rnc (Qbi rfl) (rnc (Qbi rfl) rn0))) rn0))))) (slc (Qa9 Qaf) (slc (Qan (rnc (Qbk rn0 (rnc (Qbi rfl) (rnc (Qbi rfl) rn0))) rn0)) (slc (Qan (rnc (.plain _ (nld Qaf _)) rn0)) (slc (Qan (rnc (.plain _ nll) rn0)) (slc (Qan (rnc (.plain _ nll) rn0)) Qap))))) (slc (Qa9 Qaf) (slc (Qan (rnc (Qbk rn0 (rnc (Qbl rfl) (rnc (Qbl rfl) rn0))) rn0)) (slc (Qan (rnc (.plain _ (nld Qaf _)) rn0)) (slc (Qan (rnc (.plain _ nll) rn0)) (slc (Qan (rnc (.plain _ nll) rn0)) Qap))))) (.plain _ (NLt.tup _ nl0)) rfl rfl rfl, trivial⟩ ?_
   refine Qao ?_
   refine wmr (mto (n := 63) (l' := [(0, (.own 0 1 (0) (p0))), (1, I p1), (2, Qkp), (6, I 20)]) (own' := [(Qo6 x6), (.own 1 [[Qh9]]), (.own 1 [[(Qh8 p3)]]), (.own 1 [[I p4]]), (.own 1 [[I p5]])]) [(0, (.own 0 1 (0) (p0))), (1, I p1), (2, Qkp), (6, I 20)] [0, 1, 2, 3, 4] [(Qo6 x6), (.own 1 [[Qh9]]), (.own 1 [[(Qh8 p3)]]), (.own 1 [[I p4]]), (.own 1 [[I p5]])] hφ0 (pc (.rn (Qba rfl)) (pc rwl (pc (.rn (Qbk rn0 (rnc (rqr rfl) (rnc (rqr rfl) rn0)))) (pc rwl pn)))) (qc (spr Qaf) (qc (spb (lc (.rn (Qbk rn0 (rnc (rqr rfl) (rnc (rqr rfl) rn0)))) ln)) (qc (spb (lc (.rn (.plain _ (nld Qaf _))) ln)) (qc (spb (lc rwl ln)) (qc (spb (lc rwl ln)) qn)))))) ?_
   refine Qc0 (τ := Unit) (fun n t => Qbu N p1 x6 n = some r) (fun _ => ⟨mk 63 [(0, (.own 0 1 (0) (p0))), (1, I p1), (2, Qkp), (6, I 20)], [(Qo6 x6), (.own 1 [[Qh9]]), (.own 1 [[(Qh8 p3)]]), (.own 1 [[I p4]]), (.own 1 [[I p5]])]⟩) (fun t h => by rw [Qbu] at h; cases h) (fun n7 ih t h => ?_) N () h
   rw [Qbu] at h
   skip
   refine wsq ?_
   refine wx tbk [] trivial ?_
   rcases bft ((decide (20 < p1))) with hc8 | hc8
   ·replace h := Qa6 hc8 h
    refine wft hc8 (by kernel_rfl) ?_
    refine Qas ?_
    refine thn ?_
    refine Qao ?_
    refine wx tbk [] trivial ?_
    obtain ⟨k9, hk_k9, h⟩ := jko h
    refine wjn (τ := Unit) (fun t => k9 t = some r) (fun _ => ⟨mk 63 [(0, (.own 0 1 (0) (p0))), (1, I p1), (2, Qkp), (6, I 20), (7, I 0)], [(Qo6 x6), (.own 1 [[Qh9]]), (.own 1 [[(Qh8 p3)]]), (.own 1 [[I p4]]), (.own 1 [[I p5]])]⟩) (fun t h => ?_) ?_
    ·subst hk_k9
     refine wsq ?_
     refine wx tbk [] trivial ?_
     refine wx tbk [] trivial ?_
     refine wft hc8 (by kernel_rfl) ?_
     cases h
    ·skip
     refine Qao ?_
     refine wmr (mto (n := 63) (l' := [(0, (.own 0 1 (0) (p0))), (1, I p1), (2, Qkp), (6, I 20), (7, I 0), (8, I 40)]) (own' := [(Qo6 x6), (.own 1 [[Qh9]]), (.own 1 [[(Qh8 p3)]]), (.own 1 [[I p4]]), (.own 1 [[I p5]])]) [(0, (.own 0 1 (0) (p0))), (1, I p1), (2, Qkp), (6, I 20), (7, I 0), (8, I 40)] [0, 1, 2, 3, 4] [(Qo6 x6), (.own 1 [[Qh9]]), (.own 1 [[(Qh8 p3)]]), (.own 1 [[I p4]]), (.own 1 [[I p5]])] hφ0 (pc (.rn (Qba rfl)) (pc rwl (pc (.rn (Qbk rn0 (rnc (rqr rfl) (rnc (rqr rfl) rn0)))) (pc rwl (pc rwl (pc rwl pn)))))) (qc (spr Qaf) (qc (spb (lc (.rn (Qbk rn0 (rnc (rqr rfl) (rnc (rqr rfl) rn0)))) ln)) (qc (spb (lc (.rn (.plain _ (nld Qaf _))) ln)) (qc (spb (lc rwl ln)) (qc (spb (lc rwl ln)) qn)))))) ?_
     refine Qc0 (τ := Unit) (fun n t => Qc8 N p1 k9 n = some r) (fun _ => ⟨mk 63 [(0, (.own 0 1 (0) (p0))), (1, I p1), (2, Qkp), (6, I 20), (7, I 0), (8, I 40)], [(Qo6 x6), (.own 1 [[Qh9]]), (.own 1 [[(Qh8 p3)]]), (.own 1 [[I p4]]), (.own 1 [[I p5]])]⟩) (fun t h => by rw [Qc8] at h; cases h) (fun n10 ih t h => ?_) N () h
     rw [Qc8] at h
     skip
     refine wsq ?_
     refine wx tbk [] trivial ?_
     rcases bft ((decide (40 ≤ p1))) with hc11 | hc11
     ·replace h := Qa6 hc11 h
      refine wft hc11 (by kernel_rfl) ?_
      refine Qas ?_
      refine thn ?_
      refine Qao ?_
      cases h
     ·replace h := Qa7 hc11 h
      refine wfn hc11 (by kernel_rfl) ?_
      refine Qb4 ?_
      refine Qa5 ?_
      refine Qa5 ?_
      refine Qb3 rfl ?_
      refine thn ?_
      exact ⟨(), h, (mto (n := 63) [(0, (.own 0 1 (0) (p0))), (1, I p1), (2, Qkp), (6, I 20), (7, I 0)] [0, 1, 2, 3, 4] [(Qo6 x6), (.own 1 [[Qh9]]), (.own 1 [[(Qh8 p3)]]), (.own 1 [[I p4]]), (.own 1 [[I p5]])] hφ0 (pc (.rn (Qba rfl)) (pc rwl (pc (.rn (Qbk rn0 (rnc (rqr rfl) (rnc (rqr rfl) rn0)))) (pc rwl (pc rwl pn))))) (qc (spr Qaf) (qc (spb (lc (.rn (Qbk rn0 (rnc (rqr rfl) (rnc (rqr rfl) rn0)))) ln)) (qc (spb (lc (.rn (.plain _ (nld Qaf _))) ln)) (qc (spb (lc rwl ln)) (qc (spb (lc rwl ln)) qn))))))⟩
   ·replace h := Qa7 hc8 h
    refine wfn hc8 (by kernel_rfl) ?_
    refine Qb4 ?_
    refine Qa5 ?_
    refine Qa5 ?_
    refine Qb3 rfl ?_
    obtain rfl := osi h
    exact ⟨_, (mto (n := 63) (l' := []) (own' := [(Qo6 x6), (.own 1 [[Qh9]]), (.own 1 [[(Qh8 p3)]]), (.own 1 [[I p4]]), (.own 1 [[I p5]])]) [] [0, 1, 2, 3, 4] [(Qo6 x6), (.own 1 [[Qh9]]), (.own 1 [[(Qh8 p3)]]), (.own 1 [[I p4]]), (.own 1 [[I p5]])] hφ0 pn (qc (spr Qaf) (qc (spb (lc (.rn (Qbk rn0 (rnc (rqr rfl) (rnc (rqr rfl) rn0)))) ln)) (qc (spb (lc (.rn (.plain _ (nld Qaf _))) ln)) (qc (spb (lc rwl ln)) (qc (spb (lc rwl ln)) qn)))))), Qdc (vs := []) trivial rfl (NLt.tup _ nl0) (by kernel_rfl) (Qal (Qcf Qaf _) (Qal (Qbd (nlc (NLt.fn _ _ _ nl0 (nlc (NLt.ref _ _ _ _ (by decide)) (nlc (NLt.ref _ _ _ _ (by decide)) nl0))) nl0)) (Qal (Qbd (nlc (NLt.of0 (nld Qaf _)) nl0)) (Qal (Qbd (nlc (NLt.of0 nll) nl0)) (Qal (Qbd (nlc (NLt.of0 nll) nl0)) Qbr)))))⟩
  ·skip
   refine Qao ?_
   refine wmr (mto (n := 63) (l' := [(0, (.own 0 1 (0) (p0))), (1, I p1), (2, Qkp), (6, I 20), (7, I 0), (8, I 20)]) (own' := [(Zbs p2), (.own 1 [[Qh9]]), (.own 1 [[(Qh8 p3)]]), (.own 1 [[I p4]]), (.own 1 [[I p5]])]) [(0, (.own 0 1 (0) (p0))), (1, I p1), (2, Qkp), (6, I 20), (7, I 0), (8, I 20)] [0, 1, 2, 3, 4] [(Zbs p2), (.own 1 [[Qh9]]), (.own 1 [[(Qh8 p3)]]), (.own 1 [[I p4]]), (.own 1 [[I p5]])] hφ0 (pc (.rn (Qba rfl)) (pc rwl (pc (.rn (Qbk rn0 (rnc (rqr rfl) (rnc (rqr rfl) rn0)))) (pc rwl (pc rwl (pc rwl pn)))))) (qc (spr Qaf) (qc (spb (lc (.rn (Qbk rn0 (rnc (rqr rfl) (rnc (rqr rfl) rn0)))) ln)) (qc (spb (lc (.rn (.plain _ (nld Qaf _))) ln)) (qc (spb (lc rwl ln)) (qc (spb (lc rwl ln)) qn)))))) ?_
   refine Qc0 (τ := Int × Int × (List Int)) (fun n t => Qbm N p0 p1 p3 k4 p4 p5 n t.1 t.2.1 t.2.2 = some r) (fun ⟨y12, y13, y14⟩ => ⟨mk 63 [(0, (.own 0 1 (0) (p0))), (1, I p1), (2, Qkp), (6, I 20), (7, I y12), (8, I y13)], [(Qy9 y14), (.own 1 [[Qh9]]), (.own 1 [[(Qh8 p3)]]), (.own 1 [[I p4]]), (.own 1 [[I p5]])]⟩) (fun t h => by rw [Qbm] at h; cases h) (fun n18 ih t h => ?_) N (0, 20, p2) h
   obtain ⟨y12, y13, y14⟩ := t
   rw [Qbm] at h
   skip
   refine wsq ?_
   refine wx tbk [] trivial ?_
   rcases bft ((decide (y13 ≤ p1))) with hc19 | hc19
   ·replace h := Qa6 hc19 h
    refine wft hc19 (by kernel_rfl) ?_
    refine Qas ?_
    refine thn ?_
    refine Qao ?_
    obtain ⟨x21, hf20, h⟩ := bno h
    refine wx tbk [(4, ⟨[fu 109, (.tmp 14, (.own 0 1 (0) (p0))), (.tmp 15, I y12), (.tmp 16, I y13), (.tmp 17, Qkp)], [(0, (Qy9 y14)), (1, .own 1 [[Qh9]]), (2, (.own 1 [[(Qh8 p3)]])), (3, .own 1 [[I p4]]), (4, .own 1 [[I p5]])], (.tup []), [(0, (.own 1 ((x21 : List Int).map Qam))), (1, .own 1 [[Qh9]]), (2, (.own 1 [[(Qh8 p3)]])), (3, .own 1 [[I p4]]), (4, .own 1 [[I p5]])], false⟩)] ⟨Qaq (first := []) (cap := []) (vs := [(.own 0 1 (0) (p0)), I y12, I y13, Qkp]) (σr := [(Qy9 y14), (.own 1 [[Qh9]]), (.own 1 [[(Qh8 p3)]]), (.own 1 [[I p4]]), (.own 1 [[I p5]])]) (σr' := [(.own 1 ((x21 : List Int).map Qam)), (.own 1 [[Qh9]]), (.own 1 [[(Qh8 p3)]]), (.own 1 [[I p4]]), (.own 1 [[I p5]])]) (res' := (.tup [])) [0, 1, 2, 3, 4] rfl Q0d (Qex N p0 y12 y13 y14 p3 p4 p5 _ hf20) rfl (Qbn (rnc (Qc3 rfl) (rnc (.plain _ nll) (rnc (.plain _ nll) (rnc (Qbk rn0 (rnc (Qbi rfl) (rnc (Qbi rfl) rn0))) rn0))))) (slc (Qa9 Qaf) (slc (Qan (rnc (Qbk rn0 (rnc (Qbi rfl) (rnc (Qbi rfl) rn0))) rn0)) (slc (Qan (rnc (.plain _ (nld Qaf _)) rn0)) (slc (Qan (rnc (.plain _ nll) rn0)) (slc (Qan (rnc (.plain _ nll) rn0)) Qap))))) (slc (Qa9 Qaf) (slc (Qan (rnc (Qbk rn0 (rnc (Qbl rfl) (rnc (Qbl rfl) rn0))) rn0)) (slc (Qan (rnc (.plain _ (nld Qaf _)) rn0)) (slc (Qan (rnc (.plain _ nll) rn0)) (slc (Qan (rnc (.plain _ nll) rn0)) Qap))))) (.plain _ (NLt.tup _ nl0)) rfl rfl rfl, trivial⟩ ?_
    refine wx tbk [] trivial ?_
    refine wx1 tbk [] trivial ?_
    refine bln ?_
    refine thn ?_
    exact arm (mto (n := 63) [(0, (.own 0 1 (0) (p0))), (1, I p1), (2, Qkp), (6, I 20), (7, I y13), (8, (I (w64 (y13 + 20))))] [0, 1, 2, 3, 4] [(.own 1 ((x21 : List Int).map Qam)), (.own 1 [[Qh9]]), (.own 1 [[(Qh8 p3)]]), (.own 1 [[I p4]]), (.own 1 [[I p5]])] hφ0 (pc (.rn (Qba rfl)) (pc rwl (pc (.rn (Qbk rn0 (rnc (rqr rfl) (rnc (rqr rfl) rn0)))) (pc rwl (pc rwl (pc rwl pn)))))) (qc (spr Qaf) (qc (spb (lc (.rn (Qbk rn0 (rnc (rqr rfl) (rnc (rqr rfl) rn0)))) ln)) (qc (spb (lc (.rn (.plain _ (nld Qaf _))) ln)) (qc (spb (lc rwl ln)) (qc (spb (lc rwl ln)) qn)))))) (ih (y13, w64 (y13 + 20), x21) h)
   ·replace h := Qa7 hc19 h
    refine wfn hc19 (by kernel_rfl) ?_
    refine Qb4 ?_
    refine Qa5 ?_
    refine Qa5 ?_
    refine Qb3 rfl ?_
    refine thn ?_
    exact ⟨(y12, y14), h, (mto (n := 63) [(0, (.own 0 1 (0) (p0))), (1, I p1), (2, Qkp), (6, I 20), (7, I y12)] [0, 1, 2, 3, 4] [(Qy9 y14), (.own 1 [[Qh9]]), (.own 1 [[(Qh8 p3)]]), (.own 1 [[I p4]]), (.own 1 [[I p5]])] hφ0 (pc (.rn (Qba rfl)) (pc rwl (pc (.rn (Qbk rn0 (rnc (rqr rfl) (rnc (rqr rfl) rn0)))) (pc rwl (pc rwl pn))))) (qc (spr Qaf) (qc (spb (lc (.rn (Qbk rn0 (rnc (rqr rfl) (rnc (rqr rfl) rn0)))) ln)) (qc (spb (lc (.rn (.plain _ (nld Qaf _))) ln)) (qc (spb (lc rwl ln)) (qc (spb (lc rwl ln)) qn))))))⟩
def Qb8 (N : Nat) (p0 : Nat) (p1 : (List Int)) (p2 : (List Int)) (p3 : Int) (p4 : Int) : Option (List Int) :=
  (Qdz N p0 ((p0 : Nat) : Int) p1 p2 p3 p4).bind fun x3 =>
  some x3
def Zbu : AV := .fn (.func 107) [] [(.ref 1 1 (0) 0), (.ref 2 1 (0) 0)]
def Zbt (p1 : (List Int)) : Slot := .own 1 ((p1 : List Int).map Qam)
def Qt6 : AV := .fn (.func 103) [] [(.ref 3 1 (0) 0), (.ref 4 1 (0) 0)]
def Qt5 (p2 : (List Int)) : AV := .dat 1 ((p2 : List Int).map Qam)
def Q7r (x3 : (List Int)) : Slot := .own 1 ((x3 : List Int).map Qam)
theorem Qg3 (N : Nat) (p0 : Nat) (p1 : (List Int)) (p2 : (List Int)) (p3 : Int) (p4 : Int) (r : (List Int)) (h : Qb8 N p0 p1 p2 p3 p4 = some r) : Spec Try.prog 106 [(.own 0 1 (0) (p0)), Zbu] [(Zbt p1), (.own 1 [[Qt6]]), (.own 1 [[(Qt5 p2)]]), (.own 1 [[(I (p3))]]), (.own 1 [[(I (p4))]])] (.tup []) [(.own 1 ((r : List Int).map Qam)), (.own 1 [[Qt6]]), (.own 1 [[(Qt5 p2)]]), (.own 1 [[(I (p3))]]), (.own 1 [[(I (p4))]])] := by
  refine Qah Try.func106 rfl 5 (nle rfl) (fun X φ0 w0 hφ0 hd0 => ?_)
  unfold Qb8 at h
  refine Qbt ?_
  obtain ⟨x3, hf2, h⟩ := bno h
  refine wx1 tbk [(2, rp [(.tmp 5, (.own 0 1 (0) (p0)))] (I (((p0 : Nat) : Int)))), (4, ⟨[fu 108, (.tmp 4, (.own 0 1 (0) (p0))), (.tmp 6, (I (((p0 : Nat) : Int)))), (.tmp 7, Zbu)], [(0, (Zbt p1)), (1, .own 1 [[Qt6]]), (2, (.own 1 [[(Qt5 p2)]])), (3, .own 1 [[I p3]]), (4, .own 1 [[I p4]])], (.tup []), [(0, (Q7r x3)), (1, .own 1 [[Qt6]]), (2, (.own 1 [[(Qt5 p2)]])), (3, .own 1 [[I p3]]), (4, .own 1 [[I p4]])], false⟩)] ⟨aln rfl Try.underlying27 rfl, Qaq (first := []) (cap := []) (vs := [(.own 0 1 (0) (p0)), (I (((p0 : Nat) : Int))), Zbu]) (σr := [(Zbt p1), (.own 1 [[Qt6]]), (.own 1 [[(Qt5 p2)]]), (.own 1 [[I p3]]), (.own 1 [[I p4]])]) (σr' := [(Q7r x3), (.own 1 [[Qt6]]), (.own 1 [[(Qt5 p2)]]), (.own 1 [[I p3]]), (.own 1 [[I p4]])]) (res' := (.tup [])) [0, 1, 2, 3, 4] rfl Q86 (Qie N p0 ((p0 : Nat) : Int) p1 p2 p3 p4 _ hf2) rfl (Qbn (rnc (Qc3 rfl) (rnc (.plain _ nll) (rnc (Qbk rn0 (rnc (Qbi rfl) (rnc (Qbi rfl) rn0))) rn0)))) (slc (Qa9 Qaf) (slc (Qan (rnc (Qbk rn0 (rnc (Qbi rfl) (rnc (Qbi rfl) rn0))) rn0)) (slc (Qan (rnc (.plain _ (nld Qaf _)) rn0)) (slc (Qan (rnc (.plain _ nll) rn0)) (slc (Qan (rnc (.plain _ nll) rn0)) Qap))))) (slc (Qa9 Qaf) (slc (Qan (rnc (Qbk rn0 (rnc (Qbl rfl) (rnc (Qbl rfl) rn0))) rn0)) (slc (Qan (rnc (.plain _ (nld Qaf _)) rn0)) (slc (Qan (rnc (.plain _ nll) rn0)) (slc (Qan (rnc (.plain _ nll) rn0)) Qap))))) (.plain _ (NLt.tup _ nl0)) rfl rfl rfl, trivial⟩ ?_
  obtain rfl := osi h
  exact ⟨_, (mto (n := 9) (l' := []) (own' := [(Q7r x3), (.own 1 [[Qt6]]), (.own 1 [[(Qt5 p2)]]), (.own 1 [[I p3]]), (.own 1 [[I p4]])]) [] [0, 1, 2, 3, 4] [(Q7r x3), (.own 1 [[Qt6]]), (.own 1 [[(Qt5 p2)]]), (.own 1 [[I p3]]), (.own 1 [[I p4]])] hφ0 pn (qc (spr Qaf) (qc (spb (lc (.rn (Qbk rn0 (rnc (rqr rfl) (rnc (rqr rfl) rn0)))) ln)) (qc (spb (lc (.rn (.plain _ (nld Qaf _))) ln)) (qc (spb (lc rwl ln)) (qc (spb (lc rwl ln)) qn)))))), Qdc (vs := []) trivial rfl (NLt.tup _ nl0) (by kernel_rfl) (Qal (Qcf Qaf _) (Qal (Qbd (nlc (NLt.fn _ _ _ nl0 (nlc (NLt.ref _ _ _ _ (by decide)) (nlc (NLt.ref _ _ _ _ (by decide)) nl0))) nl0)) (Qal (Qbd (nlc (NLt.of0 (nld Qaf _)) nl0)) (Qal (Qbd (nlc (NLt.of0 nll) nl0)) (Qal (Qbd (nlc (NLt.of0 nll) nl0)) Qbr)))))⟩
def Qcm (N : Nat) (p0 : (List Int)) (k4 : (List Int) → Option (List Int)) : Nat → Int → (List Int) → Option (List Int)
  | 0, _, _ => none
  | n13 + 1, y9, y10 =>
    bif (decide (y9 < (p0.length : Int))) then
     chk (decide ((y10.length + ([y9]).length) * 8 ≤ 140737488355328)) <|
     Qcm N p0 k4 n13 (w64 (y9 + 1)) (y10 ++ ([y9]))
    else
     k4 (y10)
def Qe2 (N : Nat) (p0 : (List Int)) (p1 : Int) (p2 : Int) : Option (List Int) :=
  Qcc (fun y3 =>
    chk (!y3.isEmpty) <|
    (Qb8 N y3.length y3 p0 p1 p2).bind fun x7 =>
    chk (decide (y3.length ≤ x7.length)) <|
    some (x7.take y3.length)) fun k4 : (List Int) → Option (List Int) =>
  Qcm N p0 k4 N 0 ([] : List Int)
def Qn2 (p0 : (List Int)) : AV := .dat 1 ((p0 : List Int).map Qam)
def Qo7 : AV := .fn (.func 103) [] [(.ref 0 1 (0) 0), (.ref 1 1 (0) 0)]
def Qzb : AV := .fn (.func 107) [] [(.ref 3 1 (0) 0), (.ref 2 1 (0) 0)]
def Qza (x7 : (List Int)) (y3 : (List Int)) : AV := .dat 1 ((x7.take y3.length : List Int).map Qam)
def Zfq : Slot := .gro 1 ((([] : List Int) : List Int).map Qam)
theorem Qk8 (N : Nat) (p0 : (List Int)) (p1 : Int) (p2 : Int) (r : (List Int)) (h : Qe2 N p0 p1 p2 = some r) : Spec Try.prog 102 [(Qn2 p0), Qo7] [(.own 1 [[(I (p1))]]), (.own 1 [[(I (p2))]])] (.dat 1 ((r : List Int).map Qam)) [(.own 1 [[(I (p1))]]), (.own 1 [[(I (p2))]])] := by
  refine Qah Try.func102 rfl 2 (nle rfl) (fun X φ0 w0 hφ0 hd0 => ?_)
  unfold Qe2 at h
  refine Qbt ?_
  refine wx tbk [] trivial ?_
  refine wx tbk [] trivial ?_
  obtain ⟨k4, hk_k4, h⟩ := jko h
  refine wjn (τ := (List Int)) (fun t => k4 t = some r) (fun y3 => ⟨mk 21 [(2, .ref 2 1 0 0), (3, .ref 3 1 0 0), (5, (.gro 4 3 1 (y3.length)))], [(.own 1 [[I p1]]), (.own 1 [[I p2]]), (.own 1 [[(Qn2 p0)]]), (.own 1 [[Qo7]]), (.gro 1 ((y3 : List Int).map Qam))]⟩) (fun y3 h => ?_) ?_
  ·subst hk_k4
   obtain ⟨hz5, h⟩ := cko h
   obtain ⟨x7, hf6, h⟩ := bno h
   refine wx tbk [(1, rp [(.tmp 3, .ref 3 1 0 0), (.tmp 2, .ref 2 1 0 0)] Qzb), (2, ⟨[fu 106, (.tmp 17, (.gro 4 3 1 (y3.length))), (.tmp 18, Qzb)], [(4, (.gro 1 ((y3 : List Int).map Qam))), (3, .own 1 [[Qo7]]), (2, (.own 1 [[(Qn2 p0)]])), (0, .own 1 [[I p1]]), (1, .own 1 [[I p2]])], (.tup []), [(4, (.own 1 ((x7 : List Int).map Qam))), (3, .own 1 [[Qo7]]), (2, (.own 1 [[(Qn2 p0)]])), (0, .own 1 [[I p1]]), (1, .own 1 [[I p2]])], false⟩)] ⟨Qfe (fs := []) (cs := [.ref 3 1 0 0, .ref 2 1 0 0]) rfl rfl rfl rfl, Qx9 (bl' := [(4, (.own 1 ((y3 : List Int).map Qam))), (3, .own 1 [[Qo7]]), (2, (.own 1 [[(Qn2 p0)]])), (0, .own 1 [[I p1]]), (1, .own 1 [[I p2]])]) ⟨rfl, SLess.gro (Qky hz5), rfl, SLess.rfl, rfl, SLess.rfl, rfl, SLess.rfl, rfl, SLess.rfl, trivial⟩ (awk (rd' := [fu 106, (.tmp 17, (.own 4 1 (0) (y3.length))), (.tmp 18, Qzb)]) ⟨rfl, lrf, rfl, Less.gro, rfl, lrf, trivial⟩ (Qaq (first := []) (cap := []) (vs := [(.own 4 1 (0) (y3.length)), Qzb]) (σr := [(.own 1 ((y3 : List Int).map Qam)), (.own 1 [[Qo7]]), (.own 1 [[(Qn2 p0)]]), (.own 1 [[I p1]]), (.own 1 [[I p2]])]) (σr' := [(.own 1 ((x7 : List Int).map Qam)), (.own 1 [[Qo7]]), (.own 1 [[(Qn2 p0)]]), (.own 1 [[I p1]]), (.own 1 [[I p2]])]) (res' := (.tup [])) [4, 3, 2, 0, 1] rfl Q88 (Qg3 N y3.length y3 p0 p1 p2 _ hf6) rfl (Qbn (rnc (Qc3 rfl) (rnc (Qbk rn0 (rnc (Qbi rfl) (rnc (Qbi rfl) rn0))) rn0))) (slc (Qa9 Qaf) (slc (Qan (rnc (Qbk rn0 (rnc (Qbi rfl) (rnc (Qbi rfl) rn0))) rn0)) (slc (Qan (rnc (.plain _ (nld Qaf _)) rn0)) (slc (Qan (rnc (.plain _ nll) rn0)) (slc (Qan (rnc (.plain _ nll) rn0)) Qap))))) (slc (Qa9 Qaf) (slc (Qan (rnc (Qbk rn0 (rnc (Qbl rfl) (rnc (Qbl rfl) rn0))) rn0)) (slc (Qan (rnc (.plain _ (nld Qaf _)) rn0)) (slc (Qan (rnc (.plain _ nll) rn0)) (slc (Qan (rnc (.plain _ nll) rn0)) Qap))))) (.plain _ (NLt.tup _ nl0)) rfl rfl rfl)), trivial⟩ ?_
   refine wx tbk [] trivial ?_
   obtain ⟨hz8, h⟩ := cko h
   refine wmr (Q8v (n := 21) (l' := [(4, (.own 4 1 (0) (y3.length)))]) [(4, (.gro 4 3 1 (y3.length)))] (by kernel_rfl) (by kernel_rfl) ⟨rfl, Less.gro, trivial⟩) ?_
   refine wmr (Zam (n := 21) (l' := [(4, (Qza x7 y3))]) 4 [(4, (.own 4 1 (0) (y3.length)))] (by kernel_rfl) (by kernel_rfl) (by kernel_rfl) ⟨rfl, (Qql hz8), trivial⟩ rfl) ?_
   refine wmr (mto (n := 21) (l' := [(4, (Qza x7 y3))]) (own' := [(.own 1 [[I p1]]), (.own 1 [[I p2]])]) [(4, (Qza x7 y3))] [0, 1] [(.own 1 [[I p1]]), (.own 1 [[I p2]])] hφ0 (pc (.rn (.plain _ (nld Qaf _))) pn) (qc (spb (lc rwl ln)) (qc (spb (lc rwl ln)) qn))) ?_
   refine Qag ?_
   obtain rfl := osi h
   exact ⟨_, Mor.rfl, Qdc (vs := [(Qza x7 y3)]) ⟨rot (by kernel_rfl), trivial⟩ rfl (NLt.of0 (nld Qaf _)) (by kernel_rfl) (Qal (Qbd (nlc (NLt.of0 nll) nl0)) (Qal (Qbd (nlc (NLt.of0 nll) nl0)) Qbr))⟩
  ·skip
   refine wx tbk [(1, rp [(.tmp 7, (Qn2 p0))] (I ((p0.length : Int))))] ⟨alm (c := Qam) (l := p0) (aln rfl Try.underlying27 rfl), trivial⟩ ?_
   refine Qao ?_
   refine wmr (Mor.trans (Q8u 4 3 1 5 (by kernel_rfl) (by kernel_rfl)) (mto (n := 21) (l' := [(2, .ref 2 1 0 0), (3, .ref 3 1 0 0), (5, (.gro 4 3 1 (([] : List Int).length))), (8, (I ((p0.length : Int)))), (9, I 0)]) (own' := [(.own 1 [[I p1]]), (.own 1 [[I p2]]), (.own 1 [[(Qn2 p0)]]), (.own 1 [[Qo7]]), Zfq]) [(2, .ref 2 1 0 0), (3, .ref 3 1 0 0), (5, (.gro 4 3 1 (([] : List Int).length))), (8, (I ((p0.length : Int)))), (9, I 0)] [0, 1, 2, 3, 4] [(.own 1 [[I p1]]), (.own 1 [[I p2]]), (.own 1 [[(Qn2 p0)]]), (.own 1 [[Qo7]]), Zfq] hφ0 (pc (.rn (rqr rfl)) (pc (.rn (rqr rfl)) (pc (.rn (Qxc rfl)) (pc rwl (pc rwl pn))))) (qc (spb (lc rwl ln)) (qc (spb (lc rwl ln)) (qc (spb (lc (.rn (.plain _ (nld Qaf _))) ln)) (qc (spb (lc (.rn (Qbk rn0 (rnc (rqr rfl) (rnc (rqr rfl) rn0)))) ln)) (qc (Qs2 Qaf) qn))))))) ?_
   refine Qc0 (τ := Int × (List Int)) (fun n t => Qcm N p0 k4 n t.1 t.2 = some r) (fun ⟨y9, y10⟩ => ⟨mk 21 [(2, .ref 2 1 0 0), (3, .ref 3 1 0 0), (5, (.gro 4 3 1 (y10.length))), (8, (I ((p0.length : Int)))), (9, I y9)], [(.own 1 [[I p1]]), (.own 1 [[I p2]]), (.own 1 [[(Qn2 p0)]]), (.own 1 [[Qo7]]), (.gro 1 ((y10 : List Int).map Qam))]⟩) (fun t h => by rw [Qcm] at h; cases h) (fun n13 ih t h => ?_) N (0, ([] : List Int)) h
   obtain ⟨y9, y10⟩ := t
   rw [Qcm] at h
   skip
   refine wx tbk [] trivial ?_
   refine wsq ?_
   rcases bft ((decide (y9 < (p0.length : Int)))) with hc14 | hc14
   ·replace h := Qa6 hc14 h
    refine wft hc14 (by kernel_rfl) ?_
    refine Qas ?_
    refine thn ?_
    refine wsq ?_
    refine Qao ?_
    refine wx tbk [] trivial ?_
    obtain ⟨ha15, h⟩ := cko h
    refine wx1 tbk [(2, rp [(.tmp 13, I y9)] (.dat 1 (([y9] : List Int).map Qam))), (3, ⟨[(.tmp 12, (.gro 4 3 1 (y10.length))), (.tmp 14, (.dat 1 (([y9] : List Int).map Qam)))], [(4, (.gro 1 ((y10 : List Int).map Qam))), (5, .unused)], (.gro 5 3 1 ((y10 ++ ([y9])).length)), [(4, .dead), (5, (.gro 1 ((y10 ++ ([y9]) : List Int).map Qam)))], false⟩)] ?_ ?_
    ·exact ⟨Qb6 (vs := [I y9]) rfl Try.underlying27 ti3 tz3 rfl (by decide) rfl (by decide) (by rfl) (by rfl) (by rfl) rfl, Qyg (c := Qam) (a := y10) (b := [y9]) rfl Try.underlying27 te3 rfl (Qky rfl) (by rfl) ha15 (by decide), trivial⟩
    refine bln ?_
    refine thn ?_
    refine wx1 tbk [] trivial ?_
    refine thn ?_
    exact arm (mto (n := 21) [(2, .ref 2 1 0 0), (3, .ref 3 1 0 0), (5, (.gro 5 3 1 ((y10 ++ ([y9])).length))), (8, (I ((p0.length : Int)))), (9, (I (w64 (y9 + 1))))] [0, 1, 2, 3, 5] [(.own 1 [[I p1]]), (.own 1 [[I p2]]), (.own 1 [[(Qn2 p0)]]), (.own 1 [[Qo7]]), (.gro 1 ((y10 ++ ([y9]) : List Int).map Qam))] hφ0 (pc (.rn (rqr rfl)) (pc (.rn (rqr rfl)) (pc (.rn (Qxc rfl)) (pc rwl (pc rwl pn))))) (qc (spb (lc rwl ln)) (qc (spb (lc rwl ln)) (qc (spb (lc (.rn (.plain _ (nld Qaf _))) ln)) (qc (spb (lc (.rn (Qbk rn0 (rnc (rqr rfl) (rnc (rqr rfl) rn0)))) ln)) (qc (Qs2 Qaf) qn)))))) (ih (w64 (y9 + 1), y10 ++ ([y9])) h)
   ·replace h := Qa7 hc14 h
    refine wfn hc14 (by kernel_rfl) ?_
    refine Qb4 ?_
    refine Qa5 ?_
    refine Qa5 ?_
    refine Qb3 rfl ?_
    refine thn ?_
    exact ⟨(y10), h, (mto (n := 21) [(2, .ref 2 1 0 0), (3, .ref 3 1 0 0), (5, (.gro 4 3 1 (y10.length)))] [0, 1, 2, 3, 4] [(.own 1 [[I p1]]), (.own 1 [[I p2]]), (.own 1 [[(Qn2 p0)]]), (.own 1 [[Qo7]]), (.gro 1 ((y10 : List Int).map Qam))] hφ0 (pc (.rn (rqr rfl)) (pc (.rn (rqr rfl)) (pc (.rn (Qxc rfl)) pn))) (qc (spb (lc rwl ln)) (qc (spb (lc rwl ln)) (qc (spb (lc (.rn (.plain _ (nld Qaf _))) ln)) (qc (spb (lc (.rn (Qbk rn0 (rnc (rqr rfl) (rnc (rqr rfl) rn0)))) ln)) (qc (Qs2 Qaf) qn))))))⟩
def Qdr (N : Nat) (p1 : (List Int)) (y6 : Int) (k10 : (List Int) → Option (List Int)) (x13 : (List Int)) : Nat → Int → (List Int) → Option (List Int)
  | 0, _, _ => none
  | n19 + 1, y15, y16 =>
    bif (decide (y15 < (((x13).take (y6.toNat - 0)).length : Int))) then
     (getI ((x13).take (y6.toNat - 0)) y15).bind fun x21 =>
     chk (decide (0 ≤ x21) && decide (x21.toNat < (p1.length : Int).toNat)) <|
     (y16[x21.toNat]?).bind fun x26 =>
     chk (decide (0 ≤ x21) && decide (x21.toNat < (p1.length : Int).toNat)) <|
     (y16[x21.toNat]?).bind fun _ =>
     Qdr N p1 y6 k10 x13 n19 (w64 (y15 + 1)) (y16.set x21.toNat (w64 (x26 + 1)))
    else
     k10 (y16)
def Qdq (N : Nat) (p0 : Int) (p1 : (List Int)) (y3 : Int) (k8 : Int × (List Int) → Option (List Int)) : Nat → Int → Int → (List Int) → Option (List Int)
  | 0, _, _, _ => none
  | n37 + 1, y31, y32, y33 =>
    bif (decide (y32 < (p1.length : Int))) then
     (getI p1 y32).bind fun x39 =>
     chk (y3 != 0) <|
     chk (decide (0 ≤ y32) && decide (y32.toNat < (p1.length : Int).toNat)) <|
     (y33[y32.toNat]?).bind fun _ =>
     chk (decide (0 ≤ y32) && decide (y32.toNat < (p1.length : Int).toNat)) <|
     ((y33.set y32.toNat (w64 ((w64 (p0 * x39)).tdiv y3)))[y32.toNat]?).bind fun x48 =>
     Qdq N p0 p1 y3 k8 n37 (w64 (y31 - x48)) (w64 (y32 + 1)) (y33.set y32.toNat (w64 ((w64 (p0 * x39)).tdiv y3)))
    else
     k8 (y31, y33)
def Qdp (N : Nat) (p1 : (List Int)) (k4 : Int → Option (List Int)) : Nat → Int → Int → Option (List Int)
  | 0, _, _ => none
  | n54 + 1, y50, y51 =>
    bif (decide (y50 < (p1.length : Int))) then
     (getI p1 y50).bind fun x56 =>
     Qdp N p1 k4 n54 (w64 (y50 + 1)) (w64 (y51 + x56))
    else
     k4 (y51)
def Qhd (N : Nat) (p0 : Int) (p1 : (List Int)) : Option (List Int) :=
  Qcc (fun y3 =>
    chk (decide (0 ≤ (p1.length : Int)) && decide (8 * (p1.length : Int) ≤ 281474976710656) && decide ((p1.length : Int) ≤ 9223372036854775807)) <|
    Qcc (fun ⟨y6, y7⟩ =>
      Qcc (fun y9 =>
        chk (decide ((p1.length : Int).toNat ≤ y9.length)) <|
        some (y9.take ((p1.length : Int).toNat))) fun k10 : (List Int) → Option (List Int) =>
      (Qe2 N p1 p0 y3).bind fun x13 =>
      chk (decide (0 ≤ 0) && decide (0 ≤ y6) && decide (y6 ≤ (x13.length : Int))) <|
      Qdr N p1 y6 k10 x13 N 0 y7) fun k8 : Int × (List Int) → Option (List Int) =>
    Qdq N p0 p1 y3 k8 N p0 0 (List.replicate (p1.length : Int).toNat 0)) fun k4 : Int → Option (List Int) =>
  Qdp N p1 k4 N 0 0
def Qhy (p1 : (List Int)) : AV := .dat 1 ((p1 : List Int).map Qam)
def Zfr (p1 : (List Int)) : Slot := .own 1 ((List.replicate (p1.length : Int).toNat 0 : List Int).map Qam)
def Q3x (y7 : (List Int)) : Slot := .own 1 ((y7 : List Int).map Qam)
def Qze (y9 : (List Int)) (p1 : (List Int)) : AV := .dat 1 ((y9.take ((p1.length : Int).toNat) : List Int).map Qam)
def Q3y : AV := .fn (.func 103) [] [(.ref 0 1 (0) 0), (.ref 1 1 (0) 0)]
def Q3w (x13 : (List Int)) : AV := .dat 1 ((x13 : List Int).map Qam)
def Qpo (x13 : (List Int)) (y6 : Int) : AV := .dat 1 (((x13).take (y6.toNat - 0) : List Int).map Qam)
def Qru (y16 : (List Int)) : Slot := .own 1 ((y16 : List Int).map Qam)
def Qzd (y33 : (List Int)) : Slot := .own 1 ((y33 : List Int).map Qam)
def Qzc (y33 : (List Int)) (y32 : Int) (p0 : Int) (x39 : Int) (y3 : Int) : Slot := .own 1 ((y33.set y32.toNat (w64 ((w64 (p0 * x39)).tdiv y3)) : List Int).map Qam)
theorem Qo9 (N : Nat) (p0 : Int) (p1 : (List Int)) (r : (List Int)) (h : Qhd N p0 p1 = some r) : Spec Try.prog 99 [(I p0), (.dat 1 (p1.map Qam))] [] (.dat 1 ((r : List Int).map Qam)) [] := by
  refine Qah Try.func99 rfl 0 (nle rfl) (fun X φ0 w0 hφ0 hd0 => ?_)
  unfold Qhd at h
  refine Qbt ?_
  refine wx tbk [] trivial ?_
  refine wx tbk [] trivial ?_
  obtain ⟨k4, hk_k4, h⟩ := jko h
  refine wjn (τ := Int) (fun t => k4 t = some r) (fun y3 => ⟨mk 68 [(1, (Qhy p1)), (2, .ref 0 1 0 0), (5, .ref 1 1 0 0)], [(.own 1 [[I p0]]), (.own 1 [[I y3]])]⟩) (fun y3 h => ?_) ?_
  ·subst hk_k4
   obtain ⟨hm5, h⟩ := cko h
   refine wxd tbk [(1, rp [(.tmp 24, (Qhy p1))] (I ((p1.length : Int)))), (2, ⟨[(.tmp 25, (I ((p1.length : Int)))), (.tmp 25, (I ((p1.length : Int))))], [(2, .unused)], (.own 2 1 (0) ((p1.length : Int).toNat)), [(2, (Zfr p1))], false⟩)] ⟨alm (c := Qam) (l := p1) (aln rfl Try.underlying27 rfl), Qom rfl Try.underlying27 te3 tz3 rfl (Q67 hm5) rfl (Q66 hm5) (Q65 hm5) (Q4z Qam rfl), trivial⟩ ?_
   obtain ⟨k8, hk_k8, h⟩ := jko h
   refine wjn (τ := Int × (List Int)) (fun t => k8 t = some r) (fun ⟨y6, y7⟩ => ⟨mk 68 [(1, (Qhy p1)), (2, .ref 0 1 0 0), (5, .ref 1 1 0 0), (8, (.own 2 1 (0) ((p1.length : Int).toNat))), (9, I y6)], [(.own 1 [[I p0]]), (.own 1 [[I y3]]), (Q3x y7)]⟩) (fun t h => ?_) ?_
   ·subst hk_k8
    obtain ⟨y6, y7⟩ := t
    obtain ⟨k10, hk_k10, h⟩ := jko h
    refine wjn (τ := (List Int)) (fun t => k10 t = some r) (fun y9 => ⟨mk 68 [(8, (.own 0 1 (0) ((p1.length : Int).toNat)))], [(.own 1 ((y9 : List Int).map Qam))]⟩) (fun y9 h => ?_) ?_
    ·subst hk_k10
     refine wx tbk [] trivial ?_
     obtain ⟨hz11, h⟩ := cko h
     refine wmr (Zam (n := 68) (l' := [(4, (Qze y9 p1))]) 0 [(4, (.own 0 1 (0) ((p1.length : Int).toNat)))] (by kernel_rfl) (by kernel_rfl) (by kernel_rfl) ⟨rfl, (Qql hz11), trivial⟩ rfl) ?_
     refine wmr (mto (n := 68) (l' := [(4, (Qze y9 p1))]) (own' := []) [(4, (Qze y9 p1))] [] [] hφ0 (pc (.rn (.plain _ (nld Qaf _))) pn) qn) ?_
     refine Qag ?_
     obtain rfl := osi h
     exact ⟨_, Mor.rfl, Qdc (vs := [(Qze y9 p1)]) ⟨rot (by kernel_rfl), trivial⟩ rfl (nld Qaf _) (by kernel_rfl) Qbr⟩
    ·skip
     obtain ⟨x13, hf12, h⟩ := bno h
     obtain ⟨hs14, h⟩ := cko h
     refine wx tbk [(1, rp [(.tmp 2, .ref 0 1 0 0), (.tmp 5, .ref 1 1 0 0)] Q3y), (2, ⟨[fu 102, (.tmp 50, (Qhy p1)), (.tmp 51, Q3y)], [(0, .own 1 [[I p0]]), (1, .own 1 [[I y3]])], (Q3w x13), [(0, .own 1 [[I p0]]), (1, .own 1 [[I y3]])], false⟩), (4, rp [(.tmp 52, (Q3w x13)), (.tmp 53, I y6)] (Qpo x13 y6)), (5, rp [(.tmp 54, (Qpo x13 y6))] (I ((((x13).take (y6.toNat - 0)).length : Int))))] ⟨Qfe (fs := []) (cs := [.ref 0 1 0 0, .ref 1 1 0 0]) rfl rfl rfl rfl, Qaq (first := []) (cap := []) (vs := [(Qhy p1), Q3y]) (σr := [(.own 1 [[I p0]]), (.own 1 [[I y3]])]) (σr' := [(.own 1 [[I p0]]), (.own 1 [[I y3]])]) (res' := (Q3w x13)) [0, 1] rfl Q9a (Qk8 N p1 p0 y3 _ hf12) rfl (Qbn (rnc (.plain _ (nld Qaf _)) (rnc (Qbk rn0 (rnc (Qbi rfl) (rnc (Qbi rfl) rn0))) rn0))) (slc (Qan (rnc (.plain _ nll) rn0)) (slc (Qan (rnc (.plain _ nll) rn0)) Qap)) (slc (Qan (rnc (.plain _ nll) rn0)) (slc (Qan (rnc (.plain _ nll) rn0)) Qap)) (.plain _ (nld Qaf _)) rfl rfl rfl, Qoz (k := .i64) (k' := .i64) (lo := none) (hi := some (.tmp 53)) (l := 0) (hh := y6) rfl Try.underlying27 ti3 rfl (fun _ => rfl) (fun e => nomatch e) (Q67 hs14) (Q66 hs14) (Zgt (Qam) hs14) (Zhb Qam), alm (c := Qam) (l := (x13).take (y6.toNat - 0)) (aln rfl Try.underlying27 rfl), trivial⟩ ?_
     refine Qao ?_
     refine wmr (mto (n := 68) (l' := [(8, (.own 0 1 (0) ((p1.length : Int).toNat))), (54, (Qpo x13 y6)), (55, (I ((((x13).take (y6.toNat - 0)).length : Int)))), (56, I 0)]) (own' := [(Q3x y7)]) [(8, (.own 2 1 (0) ((p1.length : Int).toNat))), (54, (Qpo x13 y6)), (55, (I ((((x13).take (y6.toNat - 0)).length : Int)))), (56, I 0)] [2] [(Q3x y7)] hφ0 (pc (.rn (Qba rfl)) (pc (.rn (.plain _ (nld Qaf _))) (pc rwl (pc rwl pn)))) (qc (spr Qaf) qn)) ?_
     refine Qc0 (τ := Int × (List Int)) (fun n t => Qdr N p1 y6 k10 x13 n t.1 t.2 = some r) (fun ⟨y15, y16⟩ => ⟨mk 68 [(8, (.own 0 1 (0) ((p1.length : Int).toNat))), (54, (Qpo x13 y6)), (55, (I ((((x13).take (y6.toNat - 0)).length : Int)))), (56, I y15)], [(Qru y16)]⟩) (fun t h => by rw [Qdr] at h; cases h) (fun n19 ih t h => ?_) N (0, y7) h
     obtain ⟨y15, y16⟩ := t
     rw [Qdr] at h
     skip
     refine wx tbk [] trivial ?_
     refine wsq ?_
     rcases bft ((decide (y15 < (((x13).take (y6.toNat - 0)).length : Int)))) with hc20 | hc20
     ·replace h := Qa6 hc20 h
      refine wft hc20 (by kernel_rfl) ?_
      refine Qas ?_
      refine thn ?_
      refine wsq ?_
      refine Qao ?_
      obtain ⟨x21, hg22, h⟩ := bno h
      obtain ⟨hi23, hj24⟩ := gsm hg22
      refine wx tbk [(0, rp [(.tmp 54, (Qpo x13 y6)), (.tmp 56, I y15)] (.dptr (Qam (x21)) 0))] ⟨aid rfl Try.underlying27 ti3 rfl rfl hi23 (mgt Qam hj24) rfl, trivial⟩ ?_
      obtain ⟨hi25, h⟩ := cko h
      obtain ⟨hi25a, hi25b⟩ := Qe8 hi25
      obtain ⟨x26, hg27, h⟩ := bno h
      obtain ⟨hi28, h⟩ := cko h
      obtain ⟨hi28a, hi28b⟩ := Qe8 hi28
      obtain ⟨x29, hg30, h⟩ := bno h
      refine wx1 tbk [(2, rb [(.tmp 60, (.own 0 1 (0) ((p1.length : Int).toNat))), (.tmp 61, I x21)] [(0, (Qru y16))] (.ref 0 1 (x21.toNat) 0)), (3, rb [(.tmp 62, (.ref 0 1 (x21.toNat) 0))] [(0, (Qru y16))] (I x26)), (5, rb [(.tmp 60, (.own 0 1 (0) ((p1.length : Int).toNat))), (.tmp 61, I x21)] [(0, (Qru y16))] (.ref 0 1 (x21.toNat) 0)), (6, ⟨[(.tmp 65, (.ref 0 1 (x21.toNat) 0)), (.tmp 64, (I (w64 (x26 + 1))))], [(0, (Qru y16))], .any, [(0, (.own 1 ((y16.set x21.toNat (w64 (x26 + 1)) : List Int).map Qam)))], false⟩)] ⟨aio rfl Try.underlying27 ti3 (odt hi25a) (odt hi25b) (Nat.zero_add _), ald rfl ti3 (by decide) (mgt Qam hg27) (nle rfl) rfl, aio rfl Try.underlying27 ti3 (odt hi28a) (odt hi28b) (Nat.zero_add _), ast rfl ti3 (by rfl) (mgt Qam hg30) (nle rfl) (Qgw Qam rfl), trivial⟩ ?_
      refine bln ?_
      refine thn ?_
      refine wx1 tbk [] trivial ?_
      refine thn ?_
      exact arm (mto (n := 68) [(8, (.own 0 1 (0) ((p1.length : Int).toNat))), (54, (Qpo x13 y6)), (55, (I ((((x13).take (y6.toNat - 0)).length : Int)))), (56, (I (w64 (y15 + 1))))] [0] [(.own 1 ((y16.set x21.toNat (w64 (x26 + 1)) : List Int).map Qam))] hφ0 (pc (.rn (Qba rfl)) (pc (.rn (.plain _ (nld Qaf _))) (pc rwl (pc rwl pn)))) (qc (spr Qaf) qn)) (ih (w64 (y15 + 1), y16.set x21.toNat (w64 (x26 + 1))) h)
     ·replace h := Qa7 hc20 h
      refine wfn hc20 (by kernel_rfl) ?_
      refine Qb4 ?_
      refine Qa5 ?_
      refine Qa5 ?_
      refine Qb3 rfl ?_
      refine thn ?_
      exact ⟨(y16), h, (mto (n := 68) [(8, (.own 0 1 (0) ((p1.length : Int).toNat)))] [0] [(Qru y16)] hφ0 (pc (.rn (Qba rfl)) pn) (qc (spr Qaf) qn))⟩
   ·skip
    refine wx tbk [(1, rp [(.tmp 28, (Qhy p1))] (I ((p1.length : Int))))] ⟨alm (c := Qam) (l := p1) (aln rfl Try.underlying27 rfl), trivial⟩ ?_
    refine Qao ?_
    refine wmr (mto (n := 68) (l' := [(1, (Qhy p1)), (2, .ref 0 1 0 0), (5, .ref 1 1 0 0), (8, (.own 2 1 (0) ((p1.length : Int).toNat))), (9, I p0), (28, (Qhy p1)), (29, (I ((p1.length : Int)))), (30, I 0)]) (own' := [(.own 1 [[I p0]]), (.own 1 [[I y3]]), (.own 1 (((List.replicate (p1.length : Int).toNat 0) : List Int).map Qam))]) [(1, (Qhy p1)), (2, .ref 0 1 0 0), (5, .ref 1 1 0 0), (8, (.own 2 1 (0) ((p1.length : Int).toNat))), (9, I p0), (28, (Qhy p1)), (29, (I ((p1.length : Int)))), (30, I 0)] [0, 1, 2] [(.own 1 [[I p0]]), (.own 1 [[I y3]]), (Zfr p1)] hφ0 (pc (.rn (.plain _ (nld Qaf _))) (pc (.rn (rqr rfl)) (pc (.rn (rqr rfl)) (pc (.rn (Qba rfl)) (pc rwl (pc (.rn (.plain _ (nld Qaf _))) (pc rwl (pc rwl pn)))))))) (qc (spb (lc rwl ln)) (qc (spb (lc rwl ln)) (qc (spr Qaf) qn)))) ?_
    refine Qc0 (τ := Int × Int × (List Int)) (fun n t => Qdq N p0 p1 y3 k8 n t.1 t.2.1 t.2.2 = some r) (fun ⟨y31, y32, y33⟩ => ⟨mk 68 [(1, (Qhy p1)), (2, .ref 0 1 0 0), (5, .ref 1 1 0 0), (8, (.own 2 1 (0) ((p1.length : Int).toNat))), (9, I y31), (28, (Qhy p1)), (29, (I ((p1.length : Int)))), (30, I y32)], [(.own 1 [[I p0]]), (.own 1 [[I y3]]), (Qzd y33)]⟩) (fun t h => by rw [Qdq] at h; cases h) (fun n37 ih t h => ?_) N (p0, 0, List.replicate (p1.length : Int).toNat 0) h
    obtain ⟨y31, y32, y33⟩ := t
    rw [Qdq] at h
    skip
    refine wx tbk [] trivial ?_
    refine wsq ?_
    rcases bft ((decide (y32 < (p1.length : Int)))) with hc38 | hc38
    ·replace h := Qa6 hc38 h
     refine wft hc38 (by kernel_rfl) ?_
     refine Qas ?_
     refine thn ?_
     refine wsq ?_
     refine Qao ?_
     obtain ⟨x39, hg40, h⟩ := bno h
     obtain ⟨hi41, hj42⟩ := gsm hg40
     refine wx tbk [(1, rp [(.tmp 28, (Qhy p1)), (.tmp 30, I y32)] (.dptr (Qam (x39)) 0))] ⟨aid rfl Try.underlying27 ti3 rfl rfl hi41 (mgt Qam hj42) rfl, trivial⟩ ?_
     obtain ⟨hz43, h⟩ := cko h
     obtain ⟨hi44, h⟩ := cko h
     obtain ⟨hi44a, hi44b⟩ := Qe8 hi44
     obtain ⟨x45, hg46, h⟩ := bno h
     refine wx tbk [(6, rp [(.tmp 39, (I (w64 (p0 * x39)))), (.tmp 40, I y3)] (I (w64 ((w64 (p0 * x39)).tdiv y3)))), (7, rb [(.tmp 35, (.own 2 1 (0) ((p1.length : Int).toNat))), (.tmp 36, I y32)] [(2, (Qzd y33))] (.ref 2 1 (y32.toNat) 0)), (8, ⟨[(.tmp 42, (.ref 2 1 (y32.toNat) 0)), (.tmp 41, (I (w64 ((w64 (p0 * x39)).tdiv y3))))], [(2, (Qzd y33))], .any, [(2, (Qzc y33 y32 p0 x39 y3))], false⟩)] ⟨Qnt rfl (Qq0 hz43), aio rfl Try.underlying27 ti3 (odt hi44a) (odt hi44b) (Nat.zero_add _), ast rfl ti3 (by rfl) (mgt Qam hg46) (nle rfl) (Qgw Qam rfl), trivial⟩ ?_
     obtain ⟨hi47, h⟩ := cko h
     obtain ⟨hi47a, hi47b⟩ := Qe8 hi47
     obtain ⟨x48, hg49, h⟩ := bno h
     refine wx1 tbk [(3, rb [(.tmp 44, (.own 2 1 (0) ((p1.length : Int).toNat))), (.tmp 45, I y32)] [(2, (Qzc y33 y32 p0 x39 y3))] (.ref 2 1 (y32.toNat) 0)), (4, rb [(.tmp 46, (.ref 2 1 (y32.toNat) 0))] [(2, (Qzc y33 y32 p0 x39 y3))] (I x48))] ⟨aio rfl Try.underlying27 ti3 (odt hi47a) (odt hi47b) (Nat.zero_add _), ald rfl ti3 (by decide) (mgt Qam hg49) (nle rfl) rfl, trivial⟩ ?_
     refine bln ?_
     refine thn ?_
     refine wx1 tbk [] trivial ?_
     refine thn ?_
     exact arm (mto (n := 68) [(1, (Qhy p1)), (2, .ref 0 1 0 0), (5, .ref 1 1 0 0), (8, (.own 2 1 (0) ((p1.length : Int).toNat))), (9, (I (w64 (y31 - x48)))), (28, (Qhy p1)), (29, (I ((p1.length : Int)))), (30, (I (w64 (y32 + 1))))] [0, 1, 2] [(.own 1 [[I p0]]), (.own 1 [[I y3]]), (Qzc y33 y32 p0 x39 y3)] hφ0 (pc (.rn (.plain _ (nld Qaf _))) (pc (.rn (rqr rfl)) (pc (.rn (rqr rfl)) (pc (.rn (Qba rfl)) (pc rwl (pc (.rn (.plain _ (nld Qaf _))) (pc rwl (pc rwl pn)))))))) (qc (spb (lc rwl ln)) (qc (spb (lc rwl ln)) (qc (spr Qaf) qn)))) (ih (w64 (y31 - x48), w64 (y32 + 1), y33.set y32.toNat (w64 ((w64 (p0 * x39)).tdiv y3))) h)
    ·replace h := Qa7 hc38 h
     refine wfn hc38 (by kernel_rfl) ?_
     refine Qb4 ?_
     refine Qa5 ?_
     refine Qa5 ?_
     refine Qb3 rfl ?_
     refine thn ?_
     exact ⟨(y31, y33), h, (mto (n := 68) [(1, (Qhy p1)), (2, .ref 0 1 0 0), (5, .ref 1 1 0 0), (8, (.own 2 1 (0) ((p1.length : Int).toNat))), (9, I y31)] [0, 1, 2] [(.own 1 [[I p0]]), (.own 1 [[I y3]]), (Qzd y33)] hφ0 (pc (.rn (.plain _ (nld Qaf _))) (pc (.rn (rqr rfl)) (pc (.rn (rqr rfl)) (pc (.rn (Qba rfl)) (pc rwl pn))))) (qc (spb (lc rwl ln)) (qc (spb (lc rwl ln)) (qc (spr Qaf) qn))))⟩
  ·skip
   refine wx tbk [(1, rp [(.tmp 14, (Qhy p1))] (I ((p1.length : Int))))] ⟨alm (c := Qam) (l := p1) (aln rfl Try.underlying27 rfl), trivial⟩ ?_
   refine Qao ?_
   refine wmr (mto (n := 68) (l' := [(1, (Qhy p1)), (2, .ref 0 1 0 0), (5, .ref 1 1 0 0), (14, (Qhy p1)), (15, (I ((p1.length : Int)))), (16, I 0)]) (own' := [(.own 1 [[I p0]]), (.own 1 [[I 0]])]) [(1, (Qhy p1)), (2, .ref 0 1 0 0), (5, .ref 1 1 0 0), (14, (Qhy p1)), (15, (I ((p1.length : Int)))), (16, I 0)] [0, 1] [(.own 1 [[I p0]]), (.own 1 [[I 0]])] hφ0 (pc (.rn (.plain _ (nld Qaf _))) (pc (.rn (rqr rfl)) (pc (.rn (rqr rfl)) (pc (.rn (.plain _ (nld Qaf _))) (pc rwl (pc rwl pn)))))) (qc (spb (lc rwl ln)) (qc (spb (lc rwl ln)) qn))) ?_
   refine Qc0 (τ := Int × Int) (fun n t => Qdp N p1 k4 n t.1 t.2 = some r) (fun ⟨y50, y51⟩ => ⟨mk 68 [(1, (Qhy p1)), (2, .ref 0 1 0 0), (5, .ref 1 1 0 0), (14, (Qhy p1)), (15, (I ((p1.length : Int)))), (16, I y50)], [(.own 1 [[I p0]]), (.own 1 [[I y51]])]⟩) (fun t h => by rw [Qdp] at h; cases h) (fun n54 ih t h => ?_) N (0, 0) h
   obtain ⟨y50, y51⟩ := t
   rw [Qdp] at h
   skip
   refine wx tbk [] trivial ?_
   refine wsq ?_
   rcases bft ((decide (y50 < (p1.length : Int)))) with hc55 | hc55
   ·replace h := Qa6 hc55 h
    refine wft hc55 (by kernel_rfl) ?_
    refine Qas ?_
    refine thn ?_
    refine wsq ?_
    refine Qao ?_
    obtain ⟨x56, hg57, h⟩ := bno h
    obtain ⟨hi58, hj59⟩ := gsm hg57
    refine wx tbk [(0, rp [(.tmp 14, (Qhy p1)), (.tmp 16, I y50)] (.dptr (Qam (x56)) 0))] ⟨aid rfl Try.underlying27 ti3 rfl rfl hi58 (mgt Qam hj59) rfl, trivial⟩ ?_
    refine wx1 tbk [] trivial ?_
    refine bln ?_
    refine thn ?_
    refine wx1 tbk [] trivial ?_
    refine thn ?_
    exact arm (mto (n := 68) [(1, (Qhy p1)), (2, .ref 0 1 0 0), (5, .ref 1 1 0 0), (14, (Qhy p1)), (15, (I ((p1.length : Int)))), (16, (I (w64 (y50 + 1))))] [0, 1] [(.own 1 [[I p0]]), (.own 1 [[(I (w64 (y51 + x56)))]])] hφ0 (pc (.rn (.plain _ (nld Qaf _))) (pc (.rn (rqr rfl)) (pc (.rn (rqr rfl)) (pc (.rn (.plain _ (nld Qaf _))) (pc rwl (pc rwl pn)))))) (qc (spb (lc rwl ln)) (qc (spb (lc rwl ln)) qn))) (ih (w64 (y50 + 1), w64 (y51 + x56)) h)
   ·replace h := Qa7 hc55 h
    refine wfn hc55 (by kernel_rfl) ?_
    refine Qb4 ?_
    refine Qa5 ?_
    refine Qa5 ?_
    refine Qb3 rfl ?_
    refine thn ?_
    exact ⟨(y51), h, (mto (n := 68) [(1, (Qhy p1)), (2, .ref 0 1 0 0), (5, .ref 1 1 0 0)] [0, 1] [(.own 1 [[I p0]]), (.own 1 [[I y51]])] hφ0 (pc (.rn (.plain _ (nld Qaf _))) (pc (.rn (rqr rfl)) (pc (.rn (rqr rfl)) pn))) (qc (spb (lc rwl ln)) (qc (spb (lc rwl ln)) qn)))⟩
def Qes (_N : Nat) (p0 : Int) (p1 : Int) (p2 : Int) (_p3 : Int) (_p4 : Int) (_p5 : Int) : Option Int :=
  chk ((if p2 > 1 then p2 else 1) != 0) <|
  (some (w64 ((w64 (p0 * p1)).tdiv (if p2 > 1 then p2 else 1)))).bind fun x2 =>
  some x2
theorem Qg2 (N : Nat) (p0 : Int) (p1 : Int) (p2 : Int) (p3 : Int) (p4 : Int) (p5 : Int) (r : Int) (h : Qes N p0 p1 p2 p3 p4 p5 = some r) : Spec Try.prog 100 [(I (p0)), (.dptr [(I (p1))] 0), (.dptr [(I (p2)), (I (p3)), (I (p4)), (I (p5))] 0)] [] (I (r)) [] := by
  refine Qah Try.func100 rfl 0 (nle rfl) (fun X φ0 w0 hφ0 hd0 => ?_)
  unfold Qes at h
  refine wx tbk [] trivial ?_
  obtain ⟨hz1, h⟩ := cko h
  obtain ⟨x2, hl3, h⟩ := bno h
  refine wx tbk [(5, rp [ci 1, (.tmp 9, I p2)] (I ((if p2 > 1 then p2 else 1)))), (6, rp [(.tmp 7, (I (w64 (p0 * p1)))), (.tmp 10, (I ((if p2 > 1 then p2 else 1))))] (I (w64 ((w64 (p0 * p1)).tdiv (if p2 > 1 then p2 else 1))))), (7, rp [(.tmp 11, (I (w64 ((w64 (p0 * p1)).tdiv (if p2 > 1 then p2 else 1)))))] (I x2))] ⟨Qnu rfl, Qnt rfl (Qq0 hz1), Qhw hl3 (aas rfl), trivial⟩ ?_
  refine Qag ?_
  obtain rfl := osi h
  exact fend ⟨[I x2], ⟨rot (by kernel_rfl), trivial⟩, rfl⟩ nll
def Qcj (_N : Nat) (_p0 : Int) (_p1 : Int) (_p2 : Int) (_p3 : Int) : Option Unit :=
  some ()
def Qt2 (p0 : Int) (p1 : Int) (p2 : Int) (p3 : Int) : Slot := .own 4 [[(I (p0)), (I (p1)), (I (p2)), (I (p3))]]
def Zbp : AV := .agg [(.ref 0 4 (0) 0), (.ref 0 4 (0) 1), (.ref 0 4 (0) 2), (.ref 0 4 (0) 3)]
def Zbo : Slot := .own 4 [[(.ref 0 4 (0) 0), (.ref 0 4 (0) 1), (.ref 0 4 (0) 2), (.ref 0 4 (0) 3)]]
theorem Qdf (N : Nat) (p0 : Int) (p1 : Int) (p2 : Int) (p3 : Int) (r : Unit) (h : Qcj N p0 p1 p2 p3 = some r) : Spec Try.prog 105 [(.ref 0 4 (0) 0)] [(Qt2 p0 p1 p2 p3)] Zbp [(Qt2 p0 p1 p2 p3), Zbo] := by
  refine Qah Try.func105 rfl 2 (nle rfl) (fun X φ0 w0 hφ0 hd0 => ?_)
  unfold Qcj at h
  refine Qbt ?_
  refine wx tbk [] trivial ?_
  refine wxd tbk [(1, rb [(.tmp 3, .ref 0 4 0 0)] [(0, (Qt2 p0 p1 p2 p3))] (.ref 0 4 0 0)), (4, rb [(.tmp 6, .ref 0 4 0 0)] [(0, (Qt2 p0 p1 p2 p3))] (.ref 0 4 0 0)), (7, rb [(.tmp 9, .ref 0 4 0 0)] [(0, (Qt2 p0 p1 p2 p3))] (.ref 0 4 0 0)), (10, rb [(.tmp 12, .ref 0 4 0 0)] [(0, (Qt2 p0 p1 p2 p3))] (.ref 0 4 0 0)), (12, rp [(.tmp 5, .ref 0 4 0 0), (.tmp 8, .ref 0 4 0 1), (.tmp 11, .ref 0 4 0 2), (.tmp 14, .ref 0 4 0 3)] Zbp)] ⟨Qbc rfl, Qbc rfl, Qbc rfl, Qbc rfl, Qo2 (vs := [.ref 0 4 0 0, .ref 0 4 0 1, .ref 0 4 0 2, .ref 0 4 0 3]) rfl Try.underlying160 Qrh Zfy rfl (by rfl) rfl, trivial⟩ ?_
  refine wmr (mto (n := 16) (l' := [(2, .ref 1 4 0 0)]) (own' := [(Qt2 p0 p1 p2 p3), Zbo]) [(2, .ref 1 4 0 0)] [0, 1] [(Qt2 p0 p1 p2 p3), Zbo] hφ0 (pc (.rn (rqr rfl)) pn) (qc (spb (lc rwl (lc rwl (lc rwl (lc rwl ln))))) (qc (spb (lc (.rn (rqr rfl)) (lc (.rn (rqr rfl)) (lc (.rn (rqr rfl)) (lc (.rn (rqr rfl)) ln))))) qn))) ?_
  refine Qag ?_
  obtain rfl := osi h
  exact ⟨_, Mor.rfl, Qdc (vs := [Zbp]) ⟨Qbo (n := 1) (m := 4) (j := 0) (i := 0) (xs := [[.ref 0 4 0 0, .ref 0 4 0 1, .ref 0 4 0 2, .ref 0 4 0 3]]) (by kernel_rfl) (by kernel_rfl) Zf3 (by decide) rfl (nle rfl) rfl, trivial⟩ rfl (NLt.agg _ (nlc (NLt.ref _ _ _ _ (by decide)) (nlc (NLt.ref _ _ _ _ (by decide)) (nlc (NLt.ref _ _ _ _ (by decide)) (nlc (NLt.ref _ _ _ _ (by decide)) nl0))))) (by kernel_rfl) (Qal (Qbd (nlc (NLt.of0 nll) (nlc (NLt.of0 nll) (nlc (NLt.of0 nll) (nlc (NLt.of0 nll) nl0))))) (Qal (Qbd (nlc (NLt.ref _ _ _ _ (by decide)) (nlc (NLt.ref _ _ _ _ (by decide)) (nlc (NLt.ref _ _ _ _ (by decide)) (nlc (NLt.ref _ _ _ _ (by decide)) nl0))))) Qbr))⟩
def Qh3 (N : Nat) (p0 : GStream) (p1 : Int) (p2 : Int) (p3 : Int) (p4 : Int) : Option Unit :=
  (Qcj N p0.Mass p0.Heat p0.Silica p0.Gas).bind fun _ =>
  (Qcj N p1 p2 p3 p4).bind fun _ =>
  (Qcj N (w64 (p1 + p0.Mass)) p2 p3 p4).bind fun _ =>
  (Qcj N (w64 (p1 + p0.Mass)) (w64 (p2 + p0.Heat)) p3 p4).bind fun _ =>
  (Qcj N (w64 (p1 + p0.Mass)) (w64 (p2 + p0.Heat)) (w64 (p3 + p0.Silica)) p4).bind fun _ =>
  some ()
def Qwm (p1 : Int) (p2 : Int) (p3 : Int) (p4 : Int) : Slot := .own 4 [[(I (p1)), (I (p2)), (I (p3)), (I (p4))]]
def Q3t (p1 : Int) (p0 : GStream) (p2 : Int) (p3 : Int) (p4 : Int) : Slot := .own 4 [[(I (w64 (p1 + p0.Mass))), (I (w64 (p2 + p0.Heat))), (I (w64 (p3 + p0.Silica))), (I (w64 (p4 + p0.Gas)))]]
def Qt4 (p0 : GStream) : Slot := .own 4 [[(I (p0.Mass)), (I (p0.Heat)), (I (p0.Silica)), (I (p0.Gas))]]
def Q06 : AV := .agg [(.ref 1 4 (0) 0), (.ref 1 4 (0) 1), (.ref 1 4 (0) 2), (.ref 1 4 (0) 3)]
def Zfo : Slot := .own 4 [[(.ref 1 4 (0) 0), (.ref 1 4 (0) 1), (.ref 1 4 (0) 2), (.ref 1 4 (0) 3)]]
def Qo5 : AV := .agg [(.ref 0 4 (0) 0), (.ref 0 4 (0) 1), (.ref 0 4 (0) 2), (.ref 0 4 (0) 3)]
def Qt3 : Slot := .own 4 [[(.ref 0 4 (0) 0), (.ref 0 4 (0) 1), (.ref 0 4 (0) 2), (.ref 0 4 (0) 3)]]
def Q05 (p1 : Int) (p0 : GStream) (p2 : Int) (p3 : Int) (p4 : Int) : Slot := .own 4 [[(I (w64 (p1 + p0.Mass))), (I (p2)), (I (p3)), (I (p4))]]
def Q04 (p1 : Int) (p0 : GStream) (p2 : Int) (p3 : Int) (p4 : Int) : Slot := .own 4 [[(I (w64 (p1 + p0.Mass))), (I (w64 (p2 + p0.Heat))), (I (p3)), (I (p4))]]
def Q03 (p1 : Int) (p0 : GStream) (p2 : Int) (p3 : Int) (p4 : Int) : Slot := .own 4 [[(I (w64 (p1 + p0.Mass))), (I (w64 (p2 + p0.Heat))), (I (w64 (p3 + p0.Silica))), (I (p4))]]
theorem Qn6 (N : Nat) (p0 : GStream) (p1 : Int) (p2 : Int) (p3 : Int) (p4 : Int) (r : Unit) (h : Qh3 N p0 p1 p2 p3 p4 = some r) : Spec Try.prog 104 [(.agg [(I (p0.Mass)), (I (p0.Heat)), (I (p0.Silica)), (I (p0.Gas))]), (.ref 0 4 (0) 0)] [(Qwm p1 p2 p3 p4)] (.tup []) [(Q3t p1 p0 p2 p3 p4)] := by
  refine Qah Try.func104 rfl 1 (nle rfl) (fun X φ0 w0 hφ0 hd0 => ?_)
  unfold Qh3 at h
  refine Qbt ?_
  refine wx tbk [] trivial ?_
  obtain ⟨x2, hf1, h⟩ := bno h
  refine wx tbk [(0, ⟨[fu 105, (.tmp 2, .ref 1 4 0 0)], [(1, (Qt4 p0)), (2, .unused)], Q06, [(1, (Qt4 p0)), (2, Zfo)], false⟩)] ⟨Qaq (first := []) (cap := []) (vs := [.ref 1 4 0 0]) (σr := [(Qt4 p0)]) (σr' := [(Qt4 p0), Zfo]) (res' := Q06) [1, 2] rfl Qnm (Qdf N p0.Mass p0.Heat p0.Silica p0.Gas _ hf1) rfl (Qbn (rnc (Qbi rfl) rn0)) (slc (Qan (rnc (.plain _ nll) (rnc (.plain _ nll) (rnc (.plain _ nll) (rnc (.plain _ nll) rn0))))) Qap) (slc (Qan (rnc (.plain _ nll) (rnc (.plain _ nll) (rnc (.plain _ nll) (rnc (.plain _ nll) rn0))))) (slc (Qan (rnc (Qbl rfl) (rnc (Qbl rfl) (rnc (Qbl rfl) (rnc (Qbl rfl) rn0))))) Qap)) (Qbn (rnc (Qbl rfl) (rnc (Qbl rfl) (rnc (Qbl rfl) (rnc (Qbl rfl) rn0))))) rfl rfl rfl, trivial⟩ ?_
  refine Qao ?_
  refine Q0j 17 ?_
  refine Qso ?_
  refine wx tbk [] trivial ?_
  refine wsq ?_
  refine Qch (by kernel_rfl) ?_
  refine Qas ?_
  refine thn ?_
  refine wsq ?_
  refine Qao ?_
  refine wx tbk [(1, rp [(.tmp 5, Q06), (.tmp 6, I 0)] (.ref 1 4 0 0))] ⟨Qgm rfl Try.underlying160 Qrh (by decide) (by decide) (nle rfl) (by decide) rfl, trivial⟩ ?_
  obtain ⟨x4, hf3, h⟩ := bno h
  refine wy1 tbk [(0, ⟨[fu 105, (.tmp 1, .ref 0 4 0 0)], [(0, (Qwm p1 p2 p3 p4)), (3, .unused)], Qo5, [(0, (Qwm p1 p2 p3 p4)), (3, Qt3)], false⟩), (2, rp [(.tmp 10, Qo5), (.tmp 11, I 0)] (.ref 0 4 0 0)), (3, rb [(.tmp 12, .ref 0 4 0 0)] [(0, (Qwm p1 p2 p3 p4))] (.ref 0 4 0 0)), (6, rb [(.tmp 15, .ref 1 4 0 0)] [(1, (Qt4 p0))] (.ref 1 4 0 0)), (9, rb [(.tmp 12, .ref 0 4 0 0)] [(0, (Qwm p1 p2 p3 p4))] (.ref 0 4 0 0))] ⟨Qaq (first := []) (cap := []) (vs := [.ref 0 4 0 0]) (σr := [(Qwm p1 p2 p3 p4)]) (σr' := [(Qwm p1 p2 p3 p4), Qt3]) (res' := Qo5) [0, 3] rfl Qnm (Qdf N p1 p2 p3 p4 _ hf3) rfl (Qbn (rnc (Qbi rfl) rn0)) (slc (Qan (rnc (.plain _ nll) (rnc (.plain _ nll) (rnc (.plain _ nll) (rnc (.plain _ nll) rn0))))) Qap) (slc (Qan (rnc (.plain _ nll) (rnc (.plain _ nll) (rnc (.plain _ nll) (rnc (.plain _ nll) rn0))))) (slc (Qan (rnc (Qbl rfl) (rnc (Qbl rfl) (rnc (Qbl rfl) (rnc (Qbl rfl) rn0))))) Qap)) (Qbn (rnc (Qbl rfl) (rnc (Qbl rfl) (rnc (Qbl rfl) (rnc (Qbl rfl) rn0))))) rfl rfl rfl, Qgm rfl Try.underlying160 Qrh (by decide) (by decide) (nle rfl) (by decide) rfl, Qbc rfl, Qbc rfl, Qbc rfl, trivial⟩ ?_
  refine bln ?_
  refine thn ?_
  refine wx1 tbk [] trivial ?_
  refine thn ?_
  refine Qso ?_
  refine wx tbk [] trivial ?_
  refine wsq ?_
  refine Qch (by kernel_rfl) ?_
  refine Qas ?_
  refine thn ?_
  refine wsq ?_
  refine Qao ?_
  refine wx tbk [(1, rp [(.tmp 5, Q06), (.tmp 6, I 1)] (.ref 1 4 0 1))] ⟨Qgm rfl Try.underlying160 Qrh (by decide) (by decide) (nle rfl) (by decide) rfl, trivial⟩ ?_
  obtain ⟨x6, hf5, h⟩ := bno h
  refine wy1 tbk [(0, ⟨[fu 105, (.tmp 1, .ref 0 4 0 0)], [(0, (Q05 p1 p0 p2 p3 p4)), (4, .unused)], Qo5, [(0, (Q05 p1 p0 p2 p3 p4)), (4, Qt3)], false⟩), (2, rp [(.tmp 10, Qo5), (.tmp 11, I 1)] (.ref 0 4 0 1)), (3, rb [(.tmp 12, .ref 0 4 0 1)] [(0, (Q05 p1 p0 p2 p3 p4))] (.ref 0 4 0 1)), (6, rb [(.tmp 15, .ref 1 4 0 1)] [(1, (Qt4 p0))] (.ref 1 4 0 1)), (9, rb [(.tmp 12, .ref 0 4 0 1)] [(0, (Q05 p1 p0 p2 p3 p4))] (.ref 0 4 0 1))] ⟨Qaq (first := []) (cap := []) (vs := [.ref 0 4 0 0]) (σr := [(Q05 p1 p0 p2 p3 p4)]) (σr' := [(Q05 p1 p0 p2 p3 p4), Qt3]) (res' := Qo5) [0, 4] rfl Qnm (Qdf N (w64 (p1 + p0.Mass)) p2 p3 p4 _ hf5) rfl (Qbn (rnc (Qbi rfl) rn0)) (slc (Qan (rnc (.plain _ nll) (rnc (.plain _ nll) (rnc (.plain _ nll) (rnc (.plain _ nll) rn0))))) Qap) (slc (Qan (rnc (.plain _ nll) (rnc (.plain _ nll) (rnc (.plain _ nll) (rnc (.plain _ nll) rn0))))) (slc (Qan (rnc (Qbl rfl) (rnc (Qbl rfl) (rnc (Qbl rfl) (rnc (Qbl rfl) rn0))))) Qap)) (Qbn (rnc (Qbl rfl) (rnc (Qbl rfl) (rnc (Qbl rfl) (rnc (Qbl rfl) rn0))))) rfl rfl rfl, Qgm rfl Try.underlying160 Qrh (by decide) (by decide) (nle rfl) (by decide) rfl, Qbc rfl, Qbc rfl, Qbc rfl, trivial⟩ ?_
  refine bln ?_
  refine thn ?_
  refine wx1 tbk [] trivial ?_
  refine thn ?_
  refine Qso ?_
  refine wx tbk [] trivial ?_
  refine wsq ?_
  refine Qch (by kernel_rfl) ?_
  refine Qas ?_
  refine thn ?_
  refine wsq ?_
  refine Qao ?_
  refine wx tbk [(1, rp [(.tmp 5, Q06), (.tmp 6, I 2)] (.ref 1 4 0 2))] ⟨Qgm rfl Try.underlying160 Qrh (by decide) (by decide) (nle rfl) (by decide) rfl, trivial⟩ ?_
  obtain ⟨x8, hf7, h⟩ := bno h
  refine wy1 tbk [(0, ⟨[fu 105, (.tmp 1, .ref 0 4 0 0)], [(0, (Q04 p1 p0 p2 p3 p4)), (5, .unused)], Qo5, [(0, (Q04 p1 p0 p2 p3 p4)), (5, Qt3)], false⟩), (2, rp [(.tmp 10, Qo5), (.tmp 11, I 2)] (.ref 0 4 0 2)), (3, rb [(.tmp 12, .ref 0 4 0 2)] [(0, (Q04 p1 p0 p2 p3 p4))] (.ref 0 4 0 2)), (6, rb [(.tmp 15, .ref 1 4 0 2)] [(1, (Qt4 p0))] (.ref 1 4 0 2)), (9, rb [(.tmp 12, .ref 0 4 0 2)] [(0, (Q04 p1 p0 p2 p3 p4))] (.ref 0 4 0 2))] ⟨Qaq (first := []) (cap := []) (vs := [.ref 0 4 0 0]) (σr := [(Q04 p1 p0 p2 p3 p4)]) (σr' := [(Q04 p1 p0 p2 p3 p4), Qt3]) (res' := Qo5) [0, 5] rfl Qnm (Qdf N (w64 (p1 + p0.Mass)) (w64 (p2 + p0.Heat)) p3 p4 _ hf7) rfl (Qbn (rnc (Qbi rfl) rn0)) (slc (Qan (rnc (.plain _ nll) (rnc (.plain _ nll) (rnc (.plain _ nll) (rnc (.plain _ nll) rn0))))) Qap) (slc (Qan (rnc (.plain _ nll) (rnc (.plain _ nll) (rnc (.plain _ nll) (rnc (.plain _ nll) rn0))))) (slc (Qan (rnc (Qbl rfl) (rnc (Qbl rfl) (rnc (Qbl rfl) (rnc (Qbl rfl) rn0))))) Qap)) (Qbn (rnc (Qbl rfl) (rnc (Qbl rfl) (rnc (Qbl rfl) (rnc (Qbl rfl) rn0))))) rfl rfl rfl, Qgm rfl Try.underlying160 Qrh (by decide) (by decide) (nle rfl) (by decide) rfl, Qbc rfl, Qbc rfl, Qbc rfl, trivial⟩ ?_
  refine bln ?_
  refine thn ?_
  refine wx1 tbk [] trivial ?_
  refine thn ?_
  refine Qso ?_
  refine wx tbk [] trivial ?_
  refine wsq ?_
  refine Qch (by kernel_rfl) ?_
  refine Qas ?_
  refine thn ?_
  refine wsq ?_
  refine Qao ?_
  refine wx tbk [(1, rp [(.tmp 5, Q06), (.tmp 6, I 3)] (.ref 1 4 0 3))] ⟨Qgm rfl Try.underlying160 Qrh (by decide) (by decide) (nle rfl) (by decide) rfl, trivial⟩ ?_
  obtain ⟨x10, hf9, h⟩ := bno h
  refine wy1 tbk [(0, ⟨[fu 105, (.tmp 1, .ref 0 4 0 0)], [(0, (Q03 p1 p0 p2 p3 p4)), (6, .unused)], Qo5, [(0, (Q03 p1 p0 p2 p3 p4)), (6, Qt3)], false⟩), (2, rp [(.tmp 10, Qo5), (.tmp 11, I 3)] (.ref 0 4 0 3)), (3, rb [(.tmp 12, .ref 0 4 0 3)] [(0, (Q03 p1 p0 p2 p3 p4))] (.ref 0 4 0 3)), (6, rb [(.tmp 15, .ref 1 4 0 3)] [(1, (Qt4 p0))] (.ref 1 4 0 3)), (9, rb [(.tmp 12, .ref 0 4 0 3)] [(0, (Q03 p1 p0 p2 p3 p4))] (.ref 0 4 0 3))] ⟨Qaq (first := []) (cap := []) (vs := [.ref 0 4 0 0]) (σr := [(Q03 p1 p0 p2 p3 p4)]) (σr' := [(Q03 p1 p0 p2 p3 p4), Qt3]) (res' := Qo5) [0, 6] rfl Qnm (Qdf N (w64 (p1 + p0.Mass)) (w64 (p2 + p0.Heat)) (w64 (p3 + p0.Silica)) p4 _ hf9) rfl (Qbn (rnc (Qbi rfl) rn0)) (slc (Qan (rnc (.plain _ nll) (rnc (.plain _ nll) (rnc (.plain _ nll) (rnc (.plain _ nll) rn0))))) Qap) (slc (Qan (rnc (.plain _ nll) (rnc (.plain _ nll) (rnc (.plain _ nll) (rnc (.plain _ nll) rn0))))) (slc (Qan (rnc (Qbl rfl) (rnc (Qbl rfl) (rnc (Qbl rfl) (rnc (Qbl rfl) rn0))))) Qap)) (Qbn (rnc (Qbl rfl) (rnc (Qbl rfl) (rnc (Qbl rfl) (rnc (Qbl rfl) rn0))))) rfl rfl rfl, Qgm rfl Try.underlying160 Qrh (by decide) (by decide) (nle rfl) (by decide) rfl, Qbc rfl, Qbc rfl, Qbc rfl, trivial⟩ ?_
  refine bln ?_
  refine thn ?_
  refine wx1 tbk [] trivial ?_
  refine thn ?_
  refine Qso ?_
  refine wx tbk [] trivial ?_
  refine wsq ?_
  refine Qir (by kernel_rfl) ?_
  refine Qb4 ?_
  refine Qa5 ?_
  refine Qa5 ?_
  refine Qb3 rfl ?_
  obtain rfl := osi h
  exact ⟨_, (mto (n := 21) (l' := []) (own' := [(Q3t p1 p0 p2 p3 p4)]) [] [0] [(Q3t p1 p0 p2 p3 p4)] hφ0 pn (qc (spb (lc rwl (lc rwl (lc rwl (lc rwl ln))))) qn)), Qdc (vs := []) trivial rfl (NLt.tup _ nl0) (by kernel_rfl) (Qal (Qbd (nlc (NLt.of0 nll) (nlc (NLt.of0 nll) (nlc (NLt.of0 nll) (nlc (NLt.of0 nll) nl0))))) Qbr)⟩
def Qer (N : Nat) (p0 : (List GStream)) (k5 : Int × Int × Int × Int → Option GStream) : Nat → Int → Int → Int → Int → Int → Option GStream
  | 0, _, _, _, _, _ => none
  | n16 + 1, y6, y7, y8, y9, y10 =>
    bif (decide (y6 < (p0.length : Int))) then
     (getI p0 y6).bind fun x18 =>
     (Qh3 N x18 y7 y8 y9 y10).bind fun _ =>
     Qer N p0 k5 n16 (w64 (y6 + 1)) (w64 (y7 + x18.Mass)) (w64 (y8 + x18.Heat)) (w64 (y9 + x18.Silica)) (w64 (y10 + x18.Gas))
    else
     k5 (y7, y8, y9, y10)
def Qi5 (N : Nat) (p0 : (List GStream)) : Option GStream :=
  Qcc (fun ⟨y1, y2, y3, y4⟩ =>
    some (⟨y1, y2, y3, y4⟩ : GStream)) fun k5 : Int × Int × Int × Int → Option GStream =>
  Qer N p0 k5 N 0 0 0 0 0
def Q08 : AV := .fn (.func 104) [] [(.ref 0 4 (0) 0)]
def Q07 (p0 : (List GStream)) : AV := .dat 4 ((p0 : List GStream).map Qab)
def Zfp : Slot := .own 4 [[(I (0)), (I (0)), (I (0)), (I (0))]]
def Qy8 (y7 : Int) (y8 : Int) (y9 : Int) (y10 : Int) : Slot := .own 4 [[(I (y7)), (I (y8)), (I (y9)), (I (y10))]]
def Q98 (x18 : GStream) : AV := .agg [(I (x18.Mass)), (I (x18.Heat)), (I (x18.Silica)), (I (x18.Gas))]
def Q3u (y7 : Int) (x18 : GStream) (y8 : Int) (y9 : Int) (y10 : Int) : Slot := .own 4 [[(I (w64 (y7 + x18.Mass))), (I (w64 (y8 + x18.Heat))), (I (w64 (y9 + x18.Silica))), (I (w64 (y10 + x18.Gas)))]]
theorem Qs0 (N : Nat) (p0 : (List GStream)) (r : GStream) (h : Qi5 N p0 = some r) : Spec Try.prog 101 [(.dat 4 (p0.map Qab))] [] (.agg (Qab r)) [] := by
  refine Qah Try.func101 rfl 0 (nle rfl) (fun X φ0 w0 hφ0 hd0 => ?_)
  unfold Qi5 at h
  refine wx tbk [] trivial ?_
  refine wx tbk [(0, rp [(.tmp 2, .ref 0 4 0 0)] Q08)] ⟨Qfe (fs := []) (cs := [.ref 0 4 0 0]) rfl rfl rfl rfl, trivial⟩ ?_
  obtain ⟨k5, hk_k5, h⟩ := jko h
  refine wjn (τ := Int × Int × Int × Int) (fun t => k5 t = some r) (fun ⟨y1, y2, y3, y4⟩ => ⟨mk 18 [(2, .ref 0 4 0 0)], [(.own 4 [[I y1, I y2, I y3, I y4]])]⟩) (fun t h => ?_) ?_
  ·subst hk_k5
   obtain ⟨y1, y2, y3, y4⟩ := t
   refine wx tbk [] trivial ?_
   refine Qag ?_
   obtain rfl := osi h
   exact fend ⟨[(.agg [I y1, I y2, I y3, I y4])], ⟨Qbo (n := 0) (m := 4) (j := 0) (i := 0) (xs := [[I y1, I y2, I y3, I y4]]) (by kernel_rfl) (by kernel_rfl) ti48 (by decide) rfl (nle rfl) rfl, trivial⟩, rfl⟩ (NLt.agg _ (nlc nll (nlc nll (nlc nll (nlc nll nl0)))))
  ·skip
   refine wx tbk [(1, rp [(.tmp 7, (Q07 p0))] (I ((p0.length : Int))))] ⟨alm (c := Qab) (l := p0) (aln rfl Try.underlying45 rfl), trivial⟩ ?_
   refine Qao ?_
   refine wmr (mto (n := 18) (l' := [(2, .ref 0 4 0 0), (3, Q08), (7, (Q07 p0)), (8, (I ((p0.length : Int)))), (9, I 0)]) (own' := [Zfp]) [(2, .ref 0 4 0 0), (3, Q08), (7, (Q07 p0)), (8, (I ((p0.length : Int)))), (9, I 0)] [0] [Zfp] hφ0 (pc (.rn (rqr rfl)) (pc (.rn (Qbk rn0 (rnc (rqr rfl) rn0))) (pc (.rn (.plain _ (nld Qac _))) (pc rwl (pc rwl pn))))) (qc (spb (lc rwl (lc rwl (lc rwl (lc rwl ln))))) qn)) ?_
   refine Qc0 (τ := Int × Int × Int × Int × Int) (fun n t => Qer N p0 k5 n t.1 t.2.1 t.2.2.1 t.2.2.2.1 t.2.2.2.2 = some r) (fun ⟨y6, y7, y8, y9, y10⟩ => ⟨mk 18 [(2, .ref 0 4 0 0), (3, Q08), (7, (Q07 p0)), (8, (I ((p0.length : Int)))), (9, I y6)], [(Qy8 y7 y8 y9 y10)]⟩) (fun t h => by rw [Qer] at h; cases h) (fun n16 ih t h => ?_) N (0, 0, 0, 0, 0) h
   obtain ⟨y6, y7, y8, y9, y10⟩ := t
   rw [Qer] at h
   skip
   refine wx tbk [] trivial ?_
   refine wsq ?_
   rcases bft ((decide (y6 < (p0.length : Int)))) with hc17 | hc17
   ·replace h := Qa6 hc17 h
    refine wft hc17 (by kernel_rfl) ?_
    refine Qas ?_
    refine thn ?_
    refine wsq ?_
    refine Qao ?_
    obtain ⟨x18, hg19, h⟩ := bno h
    obtain ⟨hi20, hj21⟩ := gsm hg19
    refine wx tbk [(0, rp [(.tmp 7, (Q07 p0)), (.tmp 9, I y6)] (.dptr (Qab (x18)) 0))] ⟨aid rfl Try.underlying45 ti48 rfl rfl hi20 (mgt Qab hj21) rfl, trivial⟩ ?_
    obtain ⟨x23, hf22, h⟩ := bno h
    refine wx1 tbk [(2, ⟨[(.tmp 13, Q08), (.tmp 14, (Q98 x18))], [(0, (Qy8 y7 y8 y9 y10))], (.tup []), [(0, (Q3u y7 x18 y8 y9 y10))], false⟩)] ⟨Qaq (first := []) (cap := [.ref 0 4 0 0]) (vs := [(Q98 x18)]) (σr := [(Qy8 y7 y8 y9 y10)]) (σr' := [(Q3u y7 x18 y8 y9 y10)]) (res' := (.tup [])) [0] rfl Q89 (Qn6 N x18 y7 y8 y9 y10 _ hf22) rfl (Qbn (rnc (.plain _ (NLt.agg _ (nlc nll (nlc nll (nlc nll (nlc nll nl0)))))) (rnc (Qbi rfl) rn0))) (slc (Qan (rnc (.plain _ nll) (rnc (.plain _ nll) (rnc (.plain _ nll) (rnc (.plain _ nll) rn0))))) Qap) (slc (Qan (rnc (.plain _ nll) (rnc (.plain _ nll) (rnc (.plain _ nll) (rnc (.plain _ nll) rn0))))) Qap) (.plain _ (NLt.tup _ nl0)) rfl rfl rfl, trivial⟩ ?_
    refine bln ?_
    refine thn ?_
    refine wx1 tbk [] trivial ?_
    refine thn ?_
    exact arm (mto (n := 18) [(2, .ref 0 4 0 0), (3, Q08), (7, (Q07 p0)), (8, (I ((p0.length : Int)))), (9, (I (w64 (y6 + 1))))] [0] [(Q3u y7 x18 y8 y9 y10)] hφ0 (pc (.rn (rqr rfl)) (pc (.rn (Qbk rn0 (rnc (rqr rfl) rn0))) (pc (.rn (.plain _ (nld Qac _))) (pc rwl (pc rwl pn))))) (qc (spb (lc rwl (lc rwl (lc rwl (lc rwl ln))))) qn)) (ih (w64 (y6 + 1), w64 (y7 + x18.Mass), w64 (y8 + x18.Heat), w64 (y9 + x18.Silica), w64 (y10 + x18.Gas)) h)
   ·replace h := Qa7 hc17 h
    refine wfn hc17 (by kernel_rfl) ?_
    refine Qb4 ?_
    refine Qa5 ?_
    refine Qa5 ?_
    refine Qb3 rfl ?_
    refine thn ?_
    exact ⟨(y7, y8, y9, y10), h, (mto (n := 18) [(2, .ref 0 4 0 0)] [0] [(Qy8 y7 y8 y9 y10)] hφ0 (pc (.rn (rqr rfl)) pn) (qc (spb (lc rwl (lc rwl (lc rwl (lc rwl ln))))) qn))⟩
def Qdy (N : Nat) (p0 : GStream) (k3 : (List GStream) → Option ((List GStream) × GLoss × Int)) (x7 : (List Int)) : Nat → (List GStream) → Int → Option ((List GStream) × GLoss × Int)
  | 0, _, _ => none
  | n12 + 1, y8, y9 =>
    bif (decide (y9 < (x7.length : Int))) then
     (getI x7 y9).bind fun x14 =>
     (Qes N p0.Heat x14 p0.Mass p0.Heat p0.Silica p0.Gas).bind fun x19 =>
     (Qes N p0.Silica x14 p0.Mass p0.Heat p0.Silica p0.Gas).bind fun x21 =>
     (Qes N p0.Gas x14 p0.Mass p0.Heat p0.Silica p0.Gas).bind fun x23 =>
     chk (decide ((y8.length + ([(⟨x14, x19, x21, x23⟩ : GStream)]).length) * 32 ≤ 140737488355328)) <|
     Qdy N p0 k3 x7 n12 (y8 ++ ([(⟨x14, x19, x21, x23⟩ : GStream)])) (w64 (y9 + 1))
    else
     k3 (y8)
def Qib (N : Nat) (p0 : GStream) (p1 : (List Int)) : Option ((List GStream) × GLoss × Int) :=
  Qcc (fun _ =>
    Qcc (fun y2 =>
      (Qi5 N y2).bind fun x5 =>
      some (y2, (⟨w64 (p0.Heat - x5.Heat), w64 (p0.Silica - x5.Silica), w64 (p0.Gas - x5.Gas)⟩ : GLoss), 0)) fun k3 : (List GStream) → Option ((List GStream) × GLoss × Int) =>
    (Qhd N p0.Mass p1).bind fun x7 =>
    Qdy N p0 k3 x7 N ([]) 0) fun k1 : Unit → Option ((List GStream) × GLoss × Int) =>
  (Qds N p0).bind fun x26 =>
  bif (!x26) then
   some ([], (⟨0, 0, 0⟩ : GLoss), 1)
  else
   bif (decide ((p1.length : Int) > 20)) then
    some ([], (⟨0, 0, 0⟩ : GLoss), 1)
   else
    (Qf5 N p1).bind fun x30 =>
    bif (!x30) then
     some ([], (⟨0, 0, 0⟩ : GLoss), 1)
    else
     (Qcd N p1).bind fun x33 =>
     bif (!x33) then
      some ([], (⟨0, 0, 0⟩ : GLoss), 1)
     else
      k1 ()
def Qn3 (p1 : (List Int)) : AV := .dat 1 ((p1 : List Int).map Qam)
def Qpq (p0 : GStream) : Slot := .own 4 [[(I (p0.Mass)), (I (p0.Heat)), (I (p0.Silica)), (I (p0.Gas))]]
def Qt9 : Slot := .own 3 [[(I (0)), (I (0)), (I (0))]]
def Q32 (y2 : (List GStream)) : AV := .acc 1 48 4 ((y2 : List GStream).map Qab)
def Q31 (y2 : (List GStream)) : AV := .dat 4 ((y2 : List GStream).map Qab)
def Q99 (p0 : GStream) (x5 : GStream) : AV := .agg [(I (w64 (p0.Heat - x5.Heat))), (I (w64 (p0.Silica - x5.Silica))), (I (w64 (p0.Gas - x5.Gas)))]
def Qpp (x7 : (List Int)) : AV := .dat 1 ((x7 : List Int).map Qam)
def Q30 (y8 : (List GStream)) : AV := .acc 1 48 4 ((y8 : List GStream).map Qab)
def Qzg : AV := .fn (.func 100) [] [(.ref 3 1 (0) 0), (.ref 0 4 (0) 0)]
def Q3z (x14 : Int) (p0 : GStream) : AV := .fn (.func 100) [] [(.dptr [(I (x14))] 0), (.dptr [(I (p0.Mass)), (I (p0.Heat)), (I (p0.Silica)), (I (p0.Gas))] 0)]
def Qua (p0 : GStream) : AV := .agg [(I (p0.Mass)), (I (p0.Heat)), (I (p0.Silica)), (I (p0.Gas))]
def Qt8 : AV := .agg [(I (0)), (I (0)), (I (0))]
def Qzf : AV := .dat 4 (([] : List GStream).map Qab)
theorem Qpz (N : Nat) (p0 : GStream) (p1 : (List Int)) (r : ((List GStream) × GLoss × Int)) (h : Qib N p0 p1 = some r) : Spec Try.prog 96 [(.agg (Qab p0)), (.dat 1 (p1.map Qam))] [] (.tup [(.dat 4 (r.1.map Qab)), (.agg (Ze0 r.2.1)), (I r.2.2)]) [] := by
  refine Qah Try.func96 rfl 0 (nle rfl) (fun X φ0 w0 hφ0 hd0 => ?_)
  unfold Qib at h
  refine wx tbk [] trivial ?_
  refine wx tbk [] trivial ?_
  obtain ⟨k1, hk_k1, h⟩ := jko h
  refine wjn (τ := Unit) (fun t => k1 t = some r) (fun _ => ⟨mk 79 [(1, (Qn3 p1)), (2, .ref 0 4 0 0), (4, nilS), (5, .ref 1 3 0 0)], [(Qpq p0), Qt9]⟩) (fun t h => ?_) ?_
  ·subst hk_k1
   obtain ⟨k3, hk_k3, h⟩ := jko h
   refine wjn (τ := (List GStream)) (fun t => k3 t = some r) (fun y2 => ⟨mk 79 [(2, .ref 0 4 0 0), (4, (Q32 y2)), (5, .ref 2 3 0 0)], [(Qpq p0), .tok, Qt9]⟩) (fun y2 h => ?_) ?_
   ·subst hk_k3
    obtain ⟨x5, hf4, h⟩ := bno h
    refine wx tbk [(1, rp [fu 101, (.tmp 60, (Q32 y2))] (.agg [I x5.Mass, I x5.Heat, I x5.Silica, I x5.Gas]))] ⟨awk (rd' := (.func 101, (.fn (.func 101) [] [])) :: [(.tmp 60, (Q31 y2))]) ⟨rfl, lrf, rfl, Less.acc, trivial⟩ (apc (first := []) (cap := []) (vs := [(Q31 y2)]) rfl Q9b (Qs0 N y2 _ hf4) rfl rfl (nlc (nld Qac _) nl0) (NLt.agg _ (nlc nll (nlc nll (nlc nll (nlc nll nl0))))) rfl), trivial⟩ ?_
    refine wxd tbk [(16, rp [(.tmp 67, (I (w64 (p0.Heat - x5.Heat)))), (.tmp 72, (I (w64 (p0.Silica - x5.Silica)))), (.tmp 77, (I (w64 (p0.Gas - x5.Gas))))] (Q99 p0 x5))] ⟨Qar (vs := [(I (w64 (p0.Heat - x5.Heat))), (I (w64 (p0.Silica - x5.Silica))), (I (w64 (p0.Gas - x5.Gas)))]) rfl Q4m Q1m rfl (by rfl) rfl, trivial⟩ ?_
    refine Qag ?_
    obtain rfl := osi h
    exact fend ⟨[(Q31 y2), (Q99 p0 x5), I 0], ⟨Qfw (v := (Q32 y2)) (rot (by kernel_rfl)) Less.acc, Qbo (n := 2) (m := 3) (j := 0) (i := 0) (xs := [[(I (w64 (p0.Heat - x5.Heat))), (I (w64 (p0.Silica - x5.Silica))), (I (w64 (p0.Gas - x5.Gas)))]]) (by kernel_rfl) (by kernel_rfl) Q1o (by decide) rfl (nle rfl) rfl, rot (by kernel_rfl), trivial⟩, rfl⟩ (NLt.tup _ (nlc (nld Qac _) (nlc (NLt.agg _ (nlc nll (nlc nll (nlc nll nl0)))) (nlc nll nl0))))
   ·skip
    obtain ⟨x7, hf6, h⟩ := bno h
    refine wx tbk [(3, rp [fu 99, (.tmp 33, I p0.Mass), (.tmp 34, (Qn3 p1))] (Qpp x7)), (4, rp [(.tmp 35, (Qpp x7))] (I ((x7.length : Int))))] ⟨apc (first := []) (cap := []) (vs := [I p0.Mass, (Qn3 p1)]) rfl Zdm (Qo9 N p0.Mass p1 _ hf6) rfl rfl (nlc nll (nlc (nld Qaf _) nl0)) (nld Qaf _) rfl, alm (c := Qam) (l := x7) (aln rfl Try.underlying27 rfl), trivial⟩ ?_
    refine Qao ?_
    refine wmr (Mor.trans (Qtd 2 48 4 4 (by kernel_rfl) (by kernel_rfl)) (mto (n := 79) (l' := [(2, .ref 0 4 0 0), (4, (.acc 1 48 4 ((([]) : List GStream).map Qab))), (5, .ref 2 3 0 0), (35, (Qpp x7)), (36, (I ((x7.length : Int)))), (37, I 0)]) (own' := [(Qpq p0), .tok, Qt9]) [(2, .ref 0 4 0 0), (4, (.acc 2 48 4 (([] : List GStream).map Qab))), (5, .ref 1 3 0 0), (35, (Qpp x7)), (36, (I ((x7.length : Int)))), (37, I 0)] [0, 2, 1] [(Qpq p0), .tok, Qt9] hφ0 (pc (.rn (rqr rfl)) (pc (.rn (Qc2 rfl (Qci Qac _))) (pc (.rn (rqr rfl)) (pc (.rn (.plain _ (nld Qaf _))) (pc rwl (pc rwl pn)))))) (qc (spb (lc rwl (lc rwl (lc rwl (lc rwl ln))))) (qc .tok (qc (spb (lc rwl (lc rwl (lc rwl ln)))) qn))))) ?_
    refine Qc0 (τ := (List GStream) × Int) (fun n t => Qdy N p0 k3 x7 n t.1 t.2 = some r) (fun ⟨y8, y9⟩ => ⟨mk 79 [(2, .ref 0 4 0 0), (4, (Q30 y8)), (5, .ref 2 3 0 0), (35, (Qpp x7)), (36, (I ((x7.length : Int)))), (37, I y9)], [(Qpq p0), .tok, Qt9]⟩) (fun t h => by rw [Qdy] at h; cases h) (fun n12 ih t h => ?_) N ([], 0) h
    obtain ⟨y8, y9⟩ := t
    rw [Qdy] at h
    skip
    refine wx tbk [] trivial ?_
    refine wsq ?_
    rcases bft ((decide (y9 < (x7.length : Int)))) with hc13 | hc13
    ·replace h := Qa6 hc13 h
     refine wft hc13 (by kernel_rfl) ?_
     refine Qas ?_
     refine thn ?_
     refine wsq ?_
     refine Qao ?_
     obtain ⟨x14, hg15, h⟩ := bno h
     obtain ⟨hi16, hj17⟩ := gsm hg15
     refine wx tbk [(0, rp [(.tmp 35, (Qpp x7)), (.tmp 37, I y9)] (.dptr (Qam (x14)) 0))] ⟨aid rfl Try.underlying27 ti3 rfl rfl hi16 (mgt Qam hj17) rfl, trivial⟩ ?_
     refine wx tbk [(0, rp [(.tmp 9, .ref 3 1 0 0), (.tmp 2, .ref 0 4 0 0)] Qzg)] ⟨Qfe (fs := []) (cs := [.ref 3 1 0 0, .ref 0 4 0 0]) rfl rfl rfl rfl, trivial⟩ ?_
     obtain ⟨x19, hf18, h⟩ := bno h
     obtain ⟨x21, hf20, h⟩ := bno h
     obtain ⟨x23, hf22, h⟩ := bno h
     obtain ⟨ha24, h⟩ := cko h
     refine wy1 tbk [(5, rb [(.tmp 44, Qzg), (.tmp 46, I p0.Heat)] [(3, .own 1 [[I x14]]), (0, (Qpq p0))] (I x19)), (9, rb [(.tmp 48, Qzg), (.tmp 50, I p0.Silica)] [(3, .own 1 [[I x14]]), (0, (Qpq p0))] (I x21)), (13, rb [(.tmp 52, Qzg), (.tmp 54, I p0.Gas)] [(3, .own 1 [[I x14]]), (0, (Qpq p0))] (I x23)), (14, rp [(.tmp 43, I x14), (.tmp 47, I x19), (.tmp 51, I x21), (.tmp 55, I x23)] (.agg [I x14, I x19, I x21, I x23])), (15, rp [(.tmp 56, (.agg [I x14, I x19, I x21, I x23]))] (.dat 4 (([(⟨x14, x19, x21, x23⟩ : GStream)] : List GStream).map Qab))), (16, ⟨[(.tmp 42, (Q30 y8)), (.tmp 57, (.dat 4 (([(⟨x14, x19, x21, x23⟩ : GStream)] : List GStream).map Qab)))], [(1, .tok), (4, .unused)], (.acc 4 48 4 ((y8 ++ ([(⟨x14, x19, x21, x23⟩ : GStream)]) : List GStream).map Qab)), [(1, .dead), (4, .tok)], false⟩)] ⟨Qi3 (rd' := [(.tmp 44, (Q3z x14 p0)), (.tmp 46, I p0.Heat)]) [(3, 1, [[I x14]]), (0, 4, [[I p0.Mass, I p0.Heat, I p0.Silica, I p0.Gas]])] ⟨rfl, (Q9e trivial ⟨(Qno 0 rfl (lc (.same _) ln)), (Qno 1 rfl (lc (.same _) (lc (.same _) (lc (.same _) (lc (.same _) ln))))), trivial⟩), rfl, .same _, trivial⟩ (by rfl) (.lit _) Qs3 (Qaq (first := []) (cap := [(.dptr [I x14] 0), (.dptr [I p0.Mass, I p0.Heat, I p0.Silica, I p0.Gas] 0)]) (vs := [I p0.Heat]) (σr := []) (σr' := []) (res' := (I x19)) [] rfl Qtm (Qg2 N p0.Heat x14 p0.Mass p0.Heat p0.Silica p0.Gas _ hf18) rfl (Qbn (rnc (.plain _ nll) (rnc (.plain _ (NLt.dptr _ _ (nlc nll nl0))) (rnc (.plain _ (NLt.dptr _ _ (nlc nll (nlc nll (nlc nll (nlc nll nl0)))))) rn0)))) Qap Qap (.plain _ nll) rfl rfl rfl), Qi3 (rd' := [(.tmp 48, (Q3z x14 p0)), (.tmp 50, I p0.Silica)]) [(3, 1, [[I x14]]), (0, 4, [[I p0.Mass, I p0.Heat, I p0.Silica, I p0.Gas]])] ⟨rfl, (Q9e trivial ⟨(Qno 0 rfl (lc (.same _) ln)), (Qno 1 rfl (lc (.same _) (lc (.same _) (lc (.same _) (lc (.same _) ln))))), trivial⟩), rfl, .same _, trivial⟩ (by rfl) (.lit _) Qs3 (Qaq (first := []) (cap := [(.dptr [I x14] 0), (.dptr [I p0.Mass, I p0.Heat, I p0.Silica, I p0.Gas] 0)]) (vs := [I p0.Silica]) (σr := []) (σr' := []) (res' := (I x21)) [] rfl Qtm (Qg2 N p0.Silica x14 p0.Mass p0.Heat p0.Silica p0.Gas _ hf20) rfl (Qbn (rnc (.plain _ nll) (rnc (.plain _ (NLt.dptr _ _ (nlc nll nl0))) (rnc (.plain _ (NLt.dptr _ _ (nlc nll (nlc nll (nlc nll (nlc nll nl0)))))) rn0)))) Qap Qap (.plain _ nll) rfl rfl rfl), Qi3 (rd' := [(.tmp 52, (Q3z x14 p0)), (.tmp 54, I p0.Gas)]) [(3, 1, [[I x14]]), (0, 4, [[I p0.Mass, I p0.Heat, I p0.Silica, I p0.Gas]])] ⟨rfl, (Q9e trivial ⟨(Qno 0 rfl (lc (.same _) ln)), (Qno 1 rfl (lc (.same _) (lc (.same _) (lc (.same _) (lc (.same _) ln))))), trivial⟩), rfl, .same _, trivial⟩ (by rfl) (.lit _) Qs3 (Qaq (first := []) (cap := [(.dptr [I x14] 0), (.dptr [I p0.Mass, I p0.Heat, I p0.Silica, I p0.Gas] 0)]) (vs := [I p0.Gas]) (σr := []) (σr' := []) (res' := (I x23)) [] rfl Qtm (Qg2 N p0.Gas x14 p0.Mass p0.Heat p0.Silica p0.Gas _ hf22) rfl (Qbn (rnc (.plain _ nll) (rnc (.plain _ (NLt.dptr _ _ (nlc nll nl0))) (rnc (.plain _ (NLt.dptr _ _ (nlc nll (nlc nll (nlc nll (nlc nll nl0)))))) rn0)))) Qap Qap (.plain _ nll) rfl rfl rfl), Qar (vs := [I x14, I x19, I x21, I x23]) rfl ts48 tz48 rfl (by rfl) rfl, Qb6 (vs := [(.agg [I x14, I x19, I x21, I x23])]) rfl Try.underlying45 ti48 tz48 rfl (by decide) rfl (by decide) (by rfl) (by rfl) (by rfl) rfl, Qgn rfl Try.underlying45 te48 (Base.acc _ _) rfl rfl (by rfl) (Qjq Qab ha24) (Qjp Qab ha24 (by decide)) (Qjo Qab) rfl rfl, trivial⟩ ?_
     refine bln ?_
     refine thn ?_
     refine wx1 tbk [] trivial ?_
     refine thn ?_
     exact arm (mto (n := 79) [(2, .ref 0 4 0 0), (4, (.acc 4 48 4 ((y8 ++ ([(⟨x14, x19, x21, x23⟩ : GStream)]) : List GStream).map Qab))), (5, .ref 2 3 0 0), (35, (Qpp x7)), (36, (I ((x7.length : Int)))), (37, (I (w64 (y9 + 1))))] [0, 4, 2] [(Qpq p0), .tok, Qt9] hφ0 (pc (.rn (rqr rfl)) (pc (.rn (Qc2 rfl (Qci Qac _))) (pc (.rn (rqr rfl)) (pc (.rn (.plain _ (nld Qaf _))) (pc rwl (pc rwl pn)))))) (qc (spb (lc rwl (lc rwl (lc rwl (lc rwl ln))))) (qc .tok (qc (spb (lc rwl (lc rwl (lc rwl ln)))) qn)))) (ih (y8 ++ ([(⟨x14, x19, x21, x23⟩ : GStream)]), w64 (y9 + 1)) h)
    ·replace h := Qa7 hc13 h
     refine wfn hc13 (by kernel_rfl) ?_
     refine Qb4 ?_
     refine Qa5 ?_
     refine Qa5 ?_
     refine Qb3 rfl ?_
     refine thn ?_
     exact ⟨(y8), h, (mto (n := 79) [(2, .ref 0 4 0 0), (4, (Q30 y8)), (5, .ref 2 3 0 0)] [0, 1, 2] [(Qpq p0), .tok, Qt9] hφ0 (pc (.rn (rqr rfl)) (pc (.rn (Qc2 rfl (Qci Qac _))) (pc (.rn (rqr rfl)) pn))) (qc (spb (lc rwl (lc rwl (lc rwl (lc rwl ln))))) (qc .tok (qc (spb (lc rwl (lc rwl (lc rwl ln)))) qn))))⟩
  ·skip
   obtain ⟨x26, hf25, h⟩ := bno h
   rcases bft ((!x26)) with hb27 | hb27
   ·replace h := Qa6 hb27 h
    refine wx tbk [(1, rp [fu 34, (.tmp 12, (Qua p0))] (B x26)), (3, rp [(.tmp 14, (B ((!x26))))] (B true))] ⟨apc (first := []) (cap := []) (vs := [(Qua p0)]) rfl Qoi (Qdk N p0 _ hf25) rfl rfl (nlc (NLt.agg _ (nlc nll (nlc nll (nlc nll (nlc nll nl0))))) nl0) nll rfl, asb hb27 (amv rfl), trivial⟩ ?_
    refine Qch (by kernel_rfl) ?_
    refine wx tbk [(0, rp [] Qt8)] ⟨Qar (vs := []) rfl Q4m Q1m rfl (by rfl) rfl, trivial⟩ ?_
    refine Qag ?_
    refine Qaj ?_
    obtain rfl := osi h
    exact fend ⟨[Qzf, Qt8, I 1], ⟨Qfw (v := nilS) (rot (by kernel_rfl)) Less.nil, Qbo (n := 1) (m := 3) (j := 0) (i := 0) (xs := [[I 0, I 0, I 0]]) (by kernel_rfl) (by kernel_rfl) Q1o (by decide) rfl (nle rfl) rfl, rot (by kernel_rfl), trivial⟩, rfl⟩ (NLt.tup _ (nlc (nld Qac _) (nlc (NLt.agg _ (nlc nll (nlc nll (nlc nll nl0)))) (nlc nll nl0))))
   ·replace h := Qa7 hb27 h
    rcases bft ((decide ((p1.length : Int) > 20))) with hb28 | hb28
    ·replace h := Qa6 hb28 h
     refine wx tbk [(1, rp [fu 34, (.tmp 12, (Qua p0))] (B x26)), (3, rp [(.tmp 14, (B ((!x26))))] (B false)), (5, rp [(.tmp 15, B false), (.tmp 16, (Qn3 p1))] (I ((p1.length : Int)))), (8, rp [(.tmp 19, (B ((decide ((p1.length : Int) > 20)))))] (B true))] ⟨apc (first := []) (cap := []) (vs := [(Qua p0)]) rfl Qoi (Qdk N p0 _ hf25) rfl rfl (nlc (NLt.agg _ (nlc nll (nlc nll (nlc nll (nlc nll nl0))))) nl0) nll rfl, asb hb27 (amv rfl), ag_ (alm (c := Qam) (l := p1) (aln rfl Try.underlying27 rfl)), asb hb28 (amv rfl), trivial⟩ ?_
     refine Qch (by kernel_rfl) ?_
     refine wx tbk [(0, rp [] Qt8)] ⟨Qar (vs := []) rfl Q4m Q1m rfl (by rfl) rfl, trivial⟩ ?_
     refine Qag ?_
     refine Qaj ?_
     obtain rfl := osi h
     exact fend ⟨[Qzf, Qt8, I 1], ⟨Qfw (v := nilS) (rot (by kernel_rfl)) Less.nil, Qbo (n := 1) (m := 3) (j := 0) (i := 0) (xs := [[I 0, I 0, I 0]]) (by kernel_rfl) (by kernel_rfl) Q1o (by decide) rfl (nle rfl) rfl, rot (by kernel_rfl), trivial⟩, rfl⟩ (NLt.tup _ (nlc (nld Qac _) (nlc (NLt.agg _ (nlc nll (nlc nll (nlc nll nl0)))) (nlc nll nl0))))
    ·replace h := Qa7 hb28 h
     obtain ⟨x30, hf29, h⟩ := bno h
     rcases bft ((!x30)) with hb31 | hb31
     ·replace h := Qa6 hb31 h
      refine wx tbk [(1, rp [fu 34, (.tmp 12, (Qua p0))] (B x26)), (3, rp [(.tmp 14, (B ((!x26))))] (B false)), (5, rp [(.tmp 15, B false), (.tmp 16, (Qn3 p1))] (I ((p1.length : Int)))), (8, rp [(.tmp 19, (B ((decide ((p1.length : Int) > 20)))))] (B false)), (11, rp [(.tmp 20, B false), fu 46, (.tmp 21, (Qn3 p1)), (.tmp 22, (.fn (.func 97) [] []))] (B x30)), (14, rp [(.tmp 25, (B ((!x30))))] (B true))] ⟨apc (first := []) (cap := []) (vs := [(Qua p0)]) rfl Qoi (Qdk N p0 _ hf25) rfl rfl (nlc (NLt.agg _ (nlc nll (nlc nll (nlc nll (nlc nll nl0))))) nl0) nll rfl, asb hb27 (amv rfl), ag_ (alm (c := Qam) (l := p1) (aln rfl Try.underlying27 rfl)), asb hb28 (amv rfl), ag_ (Qaq (first := []) (cap := []) (vs := [(Qn3 p1), (.fn (.func 97) [] [])]) (σr := []) (σr' := []) (res' := (B x30)) [] rfl Q59 (Qjc N p1 _ hf29) rfl (Qbn (rnc (.plain _ (nld Qaf _)) (rnc (.plain _ (NLt.fn _ _ _ nl0 nl0)) rn0))) Qap Qap (.plain _ nll) rfl rfl rfl), asb hb31 (amv rfl), trivial⟩ ?_
      refine Qch (by kernel_rfl) ?_
      refine wx tbk [(0, rp [] Qt8)] ⟨Qar (vs := []) rfl Q4m Q1m rfl (by rfl) rfl, trivial⟩ ?_
      refine Qag ?_
      refine Qaj ?_
      obtain rfl := osi h
      exact fend ⟨[Qzf, Qt8, I 1], ⟨Qfw (v := nilS) (rot (by kernel_rfl)) Less.nil, Qbo (n := 1) (m := 3) (j := 0) (i := 0) (xs := [[I 0, I 0, I 0]]) (by kernel_rfl) (by kernel_rfl) Q1o (by decide) rfl (nle rfl) rfl, rot (by kernel_rfl), trivial⟩, rfl⟩ (NLt.tup _ (nlc (nld Qac _) (nlc (NLt.agg _ (nlc nll (nlc nll (nlc nll nl0)))) (nlc nll nl0))))
     ·replace h := Qa7 hb31 h
      obtain ⟨x33, hf32, h⟩ := bno h
      refine wx tbk [(1, rp [fu 34, (.tmp 12, (Qua p0))] (B x26)), (3, rp [(.tmp 14, (B ((!x26))))] (B false)), (5, rp [(.tmp 15, B false), (.tmp 16, (Qn3 p1))] (I ((p1.length : Int)))), (8, rp [(.tmp 19, (B ((decide ((p1.length : Int) > 20)))))] (B false)), (11, rp [(.tmp 20, B false), fu 46, (.tmp 21, (Qn3 p1)), (.tmp 22, (.fn (.func 97) [] []))] (B x30)), (14, rp [(.tmp 25, (B ((!x30))))] (B false)), (16, rp [(.tmp 26, B false), fu 66, (.tmp 27, (Qn3 p1)), fu 98] (B x33))] ⟨apc (first := []) (cap := []) (vs := [(Qua p0)]) rfl Qoi (Qdk N p0 _ hf25) rfl rfl (nlc (NLt.agg _ (nlc nll (nlc nll (nlc nll (nlc nll nl0))))) nl0) nll rfl, asb hb27 (amv rfl), ag_ (alm (c := Qam) (l := p1) (aln rfl Try.underlying27 rfl)), asb hb28 (amv rfl), ag_ (Qaq (first := []) (cap := []) (vs := [(Qn3 p1), (.fn (.func 97) [] [])]) (σr := []) (σr' := []) (res' := (B x30)) [] rfl Q59 (Qjc N p1 _ hf29) rfl (Qbn (rnc (.plain _ (nld Qaf _)) (rnc (.plain _ (NLt.fn _ _ _ nl0 nl0)) rn0))) Qap Qap (.plain _ nll) rfl rfl rfl), asb hb31 (amv rfl), ag_ (Qaq (first := []) (cap := []) (vs := [(Qn3 p1), (.fn (.func 98) [] [])]) (σr := []) (σr' := []) (res' := (B x33)) [] rfl Qqt (Qhf N p1 _ hf32) rfl (Qbn (rnc (.plain _ (nld Qaf _)) (rnc (.plain _ (NLt.fn _ _ _ nl0 nl0)) rn0))) Qap Qap (.plain _ nll) rfl rfl rfl), trivial⟩ ?_
      rcases bft ((!x33)) with hc34 | hc34
      ·replace h := Qa6 hc34 h
       refine wft hc34 (by kernel_rfl) ?_
       refine wx tbk [(0, rp [] Qt8)] ⟨Qar (vs := []) rfl Q4m Q1m rfl (by rfl) rfl, trivial⟩ ?_
       refine Qag ?_
       refine Qaj ?_
       obtain rfl := osi h
       exact fend ⟨[Qzf, Qt8, I 1], ⟨Qfw (v := nilS) (rot (by kernel_rfl)) Less.nil, Qbo (n := 1) (m := 3) (j := 0) (i := 0) (xs := [[I 0, I 0, I 0]]) (by kernel_rfl) (by kernel_rfl) Q1o (by decide) rfl (nle rfl) rfl, rot (by kernel_rfl), trivial⟩, rfl⟩ (NLt.tup _ (nlc (nld Qac _) (nlc (NLt.agg _ (nlc nll (nlc nll (nlc nll nl0)))) (nlc nll nl0))))
      ·replace h := Qa7 hc34 h
       refine wfn hc34 (by kernel_rfl) ?_
       refine Qas ?_
       refine thn ?_
       exact ⟨(), h, (mto (n := 79) [(1, (Qn3 p1)), (2, .ref 0 4 0 0), (4, nilS), (5, .ref 1 3 0 0)] [0, 1] [(Qpq p0), Qt9] hφ0 (pc (.rn (.plain _ (nld Qaf _))) (pc (.rn (rqr rfl)) (pc rwl (pc (.rn (rqr rfl)) pn)))) (qc (spb (lc rwl (lc rwl (lc rwl (lc rwl ln))))) (qc (spb (lc rwl (lc rwl (lc rwl ln)))) qn)))⟩
end Go.Proofs.Ytmbhnllcfmiajaa
