/-
  Functions of the program: what they compute, as plain functions, and that they do. No conditions.
-/
import Derived.Test.YtmbhnllcfmiajaaX2
namespace Go.Proofs.Ytmbhnllcfmiajaa
set_option maxRecDepth 100000
set_option maxHeartbeats 4000000
open Go.RowKit
def Qik (N : Nat) (p0 : Int) : Option Bool :=
  (Qcr N p0 0 1000000000000).bind fun x2 =>
  some x2
theorem Qov (N : Nat) (p0 : Int) (r : Bool) (h : Qik N p0 = some r) : Spec Try.prog 61 [(I p0)] [] (B r) [] := by
  refine Qak Try.func61 rfl 0 (nle rfl) (fun X φ0 w0 hφ0 hd0 => ?_)
  unfold Qik at h
  refine wx tbk [] trivial ?_
  obtain ⟨x2, hf1, h⟩ := bno h
  refine wx tbk [(1, rp [fu 56, (.tmp 3, I p0), ci 0, ci 1000000000000] (B x2))] ⟨apc (first := []) (cap := []) (vs := [I p0, I 0, I 1000000000000]) rfl Qf3 (Qbl N p0 0 1000000000000 _ hf1) rfl rfl (nlc nll (nlc nll (nlc nll nl0))) nll rfl, trivial⟩ ?_
  refine Qad ?_
  obtain rfl := osi h
  exact fend ⟨[B x2], ⟨rot (by kernel_rfl), trivial⟩, rfl⟩ nll
def Qgg (N : Nat) (p0 : Int) : Option Bool :=
  (Qik N p0).bind fun x3 =>
  some (!x3)
def Q6i : Slot := .own 1 [[(.fn (.func 61) [] [])]]
theorem Qmr (N : Nat) (p0 : Int) (r : Bool) (h : Qgg N p0 = some r) : Spec Try.prog 83 [(I (p0)), (.ref 0 1 (0) 0)] [Q6i] (B (r)) [Q6i] := by
  refine Qak Try.func83 rfl 1 (nle rfl) (fun X φ0 w0 hφ0 hd0 => ?_)
  unfold Qgg at h
  refine Qbp ?_
  refine wx tbk [] trivial ?_
  obtain ⟨x3, hf2, h⟩ := bno h
  refine wx tbk [(2, rp [(.tmp 4, (.fn (.func 61) [] [])), (.tmp 5, I p0)] (B x3))] ⟨apc (first := []) (cap := []) (vs := [I p0]) rfl Zcm (Qov N p0 _ hf2) rfl rfl (nlc nll nl0) nll rfl, trivial⟩ ?_
  refine wmr (mto (n := 8) (l' := [(3, (B ((!x3))))]) (own' := [Q6i]) [(3, (B ((!x3))))] [0] [Q6i] hφ0 (pc rwl pn) (qc (spb (lc (.rn (Qav rn0 rn0)) ln)) qn)) ?_
  refine Qad ?_
  obtain rfl := osi h
  exact ⟨_, Mor.rfl, Qcz (vs := [(B ((!x3)))]) ⟨rot (by kernel_rfl), trivial⟩ rfl (NLt.of0 nll) (by kernel_rfl) (Qal (Qa4 (nlc (NLt.of0 (NLt.fn _ _ _ nl0 nl0)) nl0)) Qbn)⟩
def Qb5 (N : Nat) (p0 : (List Int)) (k2 : Unit → Option Int) : Nat → Int → Option Int
  | 0, _ => none
  | n5 + 1, y3 =>
    bif (decide (y3 < (p0.length : Int))) then
     (getI p0 y3).bind fun x7 =>
     (Qgg N x7).bind fun x12 =>
     bif x12 then
      some y3
     else
      Qb5 N p0 k2 n5 (w64 (y3 + 1))
    else
     k2 ()
def Qd1 (N : Nat) (p0 : (List Int)) : Option Int :=
  Qbz (fun _ =>
    some (-1)) fun k2 : Unit → Option Int =>
  Qb5 N p0 k2 N 0
def Qwi (p0 : (List Int)) : AV := .dat 1 ((p0 : List Int).map Qaj)
def Q0i : AV := .fn (.func 83) [] [(.ref 0 1 (0) 0)]
def Qmk : Slot := .own 1 [[(.fn (.func 61) [] [])]]
theorem Qit (N : Nat) (p0 : (List Int)) (r : Int) (h : Qd1 N p0 = some r) : Spec Try.prog 86 [(Qwi p0), Q0i] [Qmk] (I (r)) [Qmk] := by
  refine Qak Try.func86 rfl 1 (nle rfl) (fun X φ0 w0 hφ0 hd0 => ?_)
  unfold Qd1 at h
  refine Qbp ?_
  refine wx tbk [] trivial ?_
  obtain ⟨k2, hk_k2, h⟩ := jko h
  refine wjn (τ := Unit) (fun t => k2 t = some r) (fun _ => ⟨mk 19 [], [Qmk]⟩) (fun t h => ?_) ?_
  ·subst hk_k2
   refine wx tbk [] trivial ?_
   refine wmr (mto (n := 19) (l' := [(4, (I ((-1))))]) (own' := [Qmk]) [(4, (I ((-1))))] [0] [Qmk] hφ0 (pc rwl pn) (qc (spb (lc (.rn (Qav rn0 rn0)) ln)) qn)) ?_
   refine Qad ?_
   obtain rfl := osi h
   exact ⟨_, Mor.rfl, Qcz (vs := [(I ((-1)))]) ⟨rot (by kernel_rfl), trivial⟩ rfl (NLt.of0 nll) (by kernel_rfl) (Qal (Qa4 (nlc (NLt.of0 (NLt.fn _ _ _ nl0 nl0)) nl0)) Qbn)⟩
  ·skip
   refine wx tbk [(1, rp [(.tmp 6, (Qwi p0))] (I ((p0.length : Int))))] ⟨alm (c := Qaj) (l := p0) (aln rfl Try.underlying27 rfl), trivial⟩ ?_
   refine Qan ?_
   refine wmr (mto (n := 19) (l' := [(0, (Qwi p0)), (1, Q0i), (7, (I ((p0.length : Int)))), (8, I 0)]) (own' := [Qmk]) [(0, (Qwi p0)), (1, Q0i), (7, (I ((p0.length : Int)))), (8, I 0)] [0] [Qmk] hφ0 (pc (.rn (.plain _ (nld Qab _))) (pc (.rn (Qav rn0 (rnc (rqr rfl) rn0))) (pc rwl (pc rwl pn)))) (qc (spb (lc (.rn (Qav rn0 rn0)) ln)) qn)) ?_
   refine Qby (τ := Int) (fun n t => Qb5 N p0 k2 n t = some r) (fun y3 => ⟨mk 19 [(0, (Qwi p0)), (1, Q0i), (7, (I ((p0.length : Int)))), (8, I y3)], [Qmk]⟩) (fun t h => by rw [Qb5] at h; cases h) (fun n5 ih y3 h => ?_) N (0) h
   rw [Qb5] at h
   skip
   refine wx tbk [] trivial ?_
   refine wsq ?_
   rcases bft ((decide (y3 < (p0.length : Int)))) with hc6 | hc6
   ·replace h := Qaw hc6 h
    refine wft hc6 (by kernel_rfl) ?_
    refine Qap ?_
    refine thn ?_
    refine wsq ?_
    refine Qan ?_
    refine wx tbk [] trivial ?_
    obtain ⟨x7, hg8, h⟩ := bno h
    obtain ⟨hi9, hj10⟩ := gsm hg8
    obtain ⟨x12, hf11, h⟩ := bno h
    refine wx tbk [(3, rp [(.tmp 12, (Qwi p0)), (.tmp 13, I y3)] (.dptr (Qaj (x7)) 0)), (5, ⟨[(.tmp 11, Q0i), (.tmp 15, I x7)], [(0, Qmk)], B x12, [(0, Qmk)], false⟩)] ⟨aid rfl Try.underlying27 ti3 rfl rfl hi9 (mgt Qaj hj10) rfl, Qar (first := []) (cap := [.ref 0 1 0 0]) (vs := [I x7]) (σr := [Qmk]) (σr' := [Qmk]) (res' := (B x12)) [0] rfl Q4l (Qmr N x7 _ hf11) rfl (Qbm (rnc (.plain _ nll) (rnc (Qa0 rfl) rn0))) (slc (Qag (rnc (.plain _ (NLt.fn _ _ _ nl0 nl0)) rn0)) Qaq) (slc (Qag (rnc (.plain _ (NLt.fn _ _ _ nl0 nl0)) rn0)) Qaq) (.plain _ nll) rfl rfl rfl, trivial⟩ ?_
    rcases bft (x12) with hc13 | hc13
    ·replace h := Qaw hc13 h
     refine wft hc13 (by kernel_rfl) ?_
     refine wx tbk [] trivial ?_
     refine wmr (mto (n := 19) (l' := [(4, I y3)]) (own' := [Qmk]) [(4, I y3)] [0] [Qmk] hφ0 (pc rwl pn) (qc (spb (lc (.rn (Qav rn0 rn0)) ln)) qn)) ?_
     refine Qad ?_
     refine Qas ?_
     refine Qaf ?_
     refine Qaf ?_
     refine Qas ?_
     refine Qaf ?_
     obtain rfl := osi h
     exact ⟨_, Mor.rfl, Qcz (vs := [I y3]) ⟨rot (by kernel_rfl), trivial⟩ rfl (NLt.of0 nll) (by kernel_rfl) (Qal (Qa4 (nlc (NLt.of0 (NLt.fn _ _ _ nl0 nl0)) nl0)) Qbn)⟩
    ·replace h := Qax hc13 h
     refine wfn hc13 (by kernel_rfl) ?_
     refine Qap ?_
     refine bln ?_
     refine thn ?_
     refine wx1 tbk [] trivial ?_
     refine thn ?_
     exact arm (mto (n := 19) [(0, (Qwi p0)), (1, Q0i), (7, (I ((p0.length : Int)))), (8, (I (w64 (y3 + 1))))] [0] [Qmk] hφ0 (pc (.rn (.plain _ (nld Qab _))) (pc (.rn (Qav rn0 (rnc (rqr rfl) rn0))) (pc rwl (pc rwl pn)))) (qc (spb (lc (.rn (Qav rn0 rn0)) ln)) qn)) (ih (w64 (y3 + 1)) h)
   ·replace h := Qax hc6 h
    refine wfn hc6 (by kernel_rfl) ?_
    refine Qbi ?_
    refine Qay ?_
    refine Qay ?_
    refine Qbh rfl ?_
    refine thn ?_
    exact ⟨(), h, (mto (n := 19) [] [0] [Qmk] hφ0 pn (qc (spb (lc (.rn (Qav rn0 rn0)) ln)) qn))⟩
def Qc1 (N : Nat) (p0 : (List Int)) : Option Bool :=
  (Qd1 N p0).bind fun x3 =>
  some (decide (x3 ≥ 0))
def Zal (p0 : (List Int)) : AV := .dat 1 ((p0 : List Int).map Qaj)
def Zak : AV := .fn (.func 83) [] [(.ref 0 1 (0) 0)]
def Qup : Slot := .own 1 [[(.fn (.func 61) [] [])]]
theorem Qhy (N : Nat) (p0 : (List Int)) (r : Bool) (h : Qc1 N p0 = some r) : Spec Try.prog 66 [(Zal p0), Zak] [Qup] (B (r)) [Qup] := by
  refine Qak Try.func66 rfl 1 (nle rfl) (fun X φ0 w0 hφ0 hd0 => ?_)
  unfold Qc1 at h
  refine Qbp ?_
  refine wx tbk [] trivial ?_
  obtain ⟨x3, hf2, h⟩ := bno h
  refine wx tbk [(2, ⟨[fu 86, (.tmp 5, (Zal p0)), (.tmp 6, Zak)], [(0, Qup)], I x3, [(0, Qup)], false⟩)] ⟨Qar (first := []) (cap := []) (vs := [(Zal p0), Zak]) (σr := [Qup]) (σr' := [Qup]) (res' := (I x3)) [0] rfl Qq5 (Qit N p0 _ hf2) rfl (Qbm (rnc (.plain _ (nld Qab _)) (rnc (Qav rn0 (rnc (Qa0 rfl) rn0)) rn0))) (slc (Qag (rnc (.plain _ (NLt.fn _ _ _ nl0 nl0)) rn0)) Qaq) (slc (Qag (rnc (.plain _ (NLt.fn _ _ _ nl0 nl0)) rn0)) Qaq) (.plain _ nll) rfl rfl rfl, trivial⟩ ?_
  refine wmr (mto (n := 9) (l' := [(4, (B ((decide (x3 ≥ 0)))))]) (own' := [Qup]) [(4, (B ((decide (x3 ≥ 0)))))] [0] [Qup] hφ0 (pc rwl pn) (qc (spb (lc (.rn (Qav rn0 rn0)) ln)) qn)) ?_
  refine Qad ?_
  obtain rfl := osi h
  exact ⟨_, Mor.rfl, Qcz (vs := [(B ((decide (x3 ≥ 0))))]) ⟨rot (by kernel_rfl), trivial⟩ rfl (NLt.of0 nll) (by kernel_rfl) (Qal (Qa4 (nlc (NLt.of0 (NLt.fn _ _ _ nl0 nl0)) nl0)) Qbn)⟩
def Qh6 (N : Nat) (p0 : (List Int)) : Option Bool :=
  (Qc1 N p0).bind fun x2 =>
  some (!x2)
def Zan (p0 : (List Int)) : AV := .dat 1 ((p0 : List Int).map Qaj)
def Zam : AV := .fn (.func 83) [] [(.ref 0 1 (0) 0)]
def Q6j : Slot := .own 1 [[(.fn (.func 61) [] [])]]
theorem Qnz (N : Nat) (p0 : (List Int)) (r : Bool) (h : Qh6 N p0 = some r) : Spec Try.prog 60 [(Zan p0), (.fn (.func 61) [] [])] [] (B (r)) [] := by
  refine Qak Try.func60 rfl 0 (nle rfl) (fun X φ0 w0 hφ0 hd0 => ?_)
  unfold Qh6 at h
  refine wx tbk [] trivial ?_
  obtain ⟨x2, hf1, h⟩ := bno h
  refine wx tbk [(1, rp [(.tmp 3, .ref 0 1 0 0)] Zam), (2, ⟨[fu 66, (.tmp 5, (Zan p0)), (.tmp 6, Zam)], [(0, Q6j)], B x2, [(0, Q6j)], false⟩)] ⟨Qfu (fs := []) (cs := [.ref 0 1 0 0]) rfl rfl rfl rfl, Qar (first := []) (cap := []) (vs := [(Zan p0), Zam]) (σr := [Q6j]) (σr' := [Q6j]) (res' := (B x2)) [0] rfl Qq6 (Qhy N p0 _ hf1) rfl (Qbm (rnc (.plain _ (nld Qab _)) (rnc (Qav rn0 (rnc (Qa0 rfl) rn0)) rn0))) (slc (Qag (rnc (.plain _ (NLt.fn _ _ _ nl0 nl0)) rn0)) Qaq) (slc (Qag (rnc (.plain _ (NLt.fn _ _ _ nl0 nl0)) rn0)) Qaq) (.plain _ nll) rfl rfl rfl, trivial⟩ ?_
  refine Qad ?_
  obtain rfl := osi h
  exact fend ⟨[(B ((!x2)))], ⟨rot (by kernel_rfl), trivial⟩, rfl⟩ nll
def Qhq (N : Nat) (p0 : GNet) (p1 : (List Int)) : Option Int :=
  (Qfl N p0).bind fun x2 =>
  bif (!x2) then
   some 1
  else
   bif ((p1.length : Int) != (p0.Elements.length : Int)) then
    some 1
   else
    (Qh6 N p1).bind fun x6 =>
    bif (!x6) then
     some 1
    else
     some 0
def Zao (p0 : GNet) : AV := .dat 7 ((p0.Elements : List GElement).map Qac)
def Q0j (p0 : GNet) : AV := .agg [(.dat 5 ((p0.Table : List GRow).map Qa3)), (Zao p0)]
def Q6k (p1 : (List Int)) : AV := .dat 1 ((p1 : List Int).map Qaj)
theorem Ql2 (N : Nat) (p0 : GNet) (p1 : (List Int)) (r : Int) (h : Qhq N p0 p1 = some r) : Spec Try.prog 35 [(.agg (Qia p0)), (.dat 1 (p1.map Qaj))] [] (I r) [] := by
  refine Qak Try.func35 rfl 0 (nle rfl) (fun X φ0 w0 hφ0 hd0 => ?_)
  unfold Qhq at h
  refine wx tbk [] trivial ?_
  refine wsq ?_
  obtain ⟨x2, hf1, h⟩ := bno h
  rcases bft ((!x2)) with hb3 | hb3
  ·replace h := Qaw hb3 h
   refine wx tbk [(1, rp [fu 32, (.tmp 5, (Q0j p0))] (B x2)), (3, rp [(.tmp 7, (B ((!x2))))] (B true))] ⟨apc (first := []) (cap := []) (vs := [(Q0j p0)]) rfl Qq7 (Qf0 N p0 _ hf1) rfl rfl (nlc (NLt.agg _ (nlc (nld Qah _) (nlc (nld Qaa _) nl0))) nl0) nll rfl, asb hb3 (amv rfl), trivial⟩ ?_
   refine Qbk (by kernel_rfl) ?_
   refine wx tbk [] trivial ?_
   refine Qad ?_
   refine Qaf ?_
   obtain rfl := osi h
   exact fend ⟨[I 1], ⟨rot (by kernel_rfl), trivial⟩, rfl⟩ nll
  ·replace h := Qax hb3 h
   rcases bft (((p1.length : Int) != (p0.Elements.length : Int))) with hb4 | hb4
   ·replace h := Qaw hb4 h
    refine wx tbk [(1, rp [fu 32, (.tmp 5, (Q0j p0))] (B x2)), (3, rp [(.tmp 7, (B ((!x2))))] (B false)), (5, rp [(.tmp 8, B false), (.tmp 9, (Q6k p1))] (I ((p1.length : Int)))), (8, rp [(.tmp 8, B false), (.tmp 12, (Zao p0))] (I ((p0.Elements.length : Int)))), (11, rp [(.tmp 15, (B (((p1.length : Int) != (p0.Elements.length : Int)))))] (B true))] ⟨apc (first := []) (cap := []) (vs := [(Q0j p0)]) rfl Qq7 (Qf0 N p0 _ hf1) rfl rfl (nlc (NLt.agg _ (nlc (nld Qah _) (nlc (nld Qaa _) nl0))) nl0) nll rfl, asb hb3 (amv rfl), ag_ (alm (c := Qaj) (l := p1) (aln rfl Try.underlying27 rfl)), ag_ (alm (c := Qac) (l := p0.Elements) (aln rfl Try.underlying40 rfl)), asb hb4 (amv rfl), trivial⟩ ?_
    refine Qbk (by kernel_rfl) ?_
    refine wx tbk [] trivial ?_
    refine Qad ?_
    refine Qaf ?_
    obtain rfl := osi h
    exact fend ⟨[I 1], ⟨rot (by kernel_rfl), trivial⟩, rfl⟩ nll
   ·replace h := Qax hb4 h
    obtain ⟨x6, hf5, h⟩ := bno h
    refine wx tbk [(1, rp [fu 32, (.tmp 5, (Q0j p0))] (B x2)), (3, rp [(.tmp 7, (B ((!x2))))] (B false)), (5, rp [(.tmp 8, B false), (.tmp 9, (Q6k p1))] (I ((p1.length : Int)))), (8, rp [(.tmp 8, B false), (.tmp 12, (Zao p0))] (I ((p0.Elements.length : Int)))), (11, rp [(.tmp 15, (B (((p1.length : Int) != (p0.Elements.length : Int)))))] (B false)), (13, rp [(.tmp 16, B false), fu 60, (.tmp 17, (Q6k p1)), fu 61] (B x6))] ⟨apc (first := []) (cap := []) (vs := [(Q0j p0)]) rfl Qq7 (Qf0 N p0 _ hf1) rfl rfl (nlc (NLt.agg _ (nlc (nld Qah _) (nlc (nld Qaa _) nl0))) nl0) nll rfl, asb hb3 (amv rfl), ag_ (alm (c := Qaj) (l := p1) (aln rfl Try.underlying27 rfl)), ag_ (alm (c := Qac) (l := p0.Elements) (aln rfl Try.underlying40 rfl)), asb hb4 (amv rfl), ag_ (Qar (first := []) (cap := []) (vs := [(Q6k p1), (.fn (.func 61) [] [])]) (σr := []) (σr' := []) (res' := (B x6)) [] rfl Qw9 (Qnz N p1 _ hf5) rfl (Qbm (rnc (.plain _ (nld Qab _)) (rnc (.plain _ (NLt.fn _ _ _ nl0 nl0)) rn0))) Qaq Qaq (.plain _ nll) rfl rfl rfl), trivial⟩ ?_
    rcases bft ((!x6)) with hc7 | hc7
    ·replace h := Qaw hc7 h
     refine wft hc7 (by kernel_rfl) ?_
     refine wx tbk [] trivial ?_
     refine Qad ?_
     refine Qaf ?_
     obtain rfl := osi h
     exact fend ⟨[I 1], ⟨rot (by kernel_rfl), trivial⟩, rfl⟩ nll
    ·replace h := Qax hc7 h
     refine wfn hc7 (by kernel_rfl) ?_
     refine Qap ?_
     refine thn ?_
     refine wx tbk [] trivial ?_
     refine Qad ?_
     obtain rfl := osi h
     exact fend ⟨[I 0], ⟨rot (by kernel_rfl), trivial⟩, rfl⟩ nll
def Qev (N : Nat) (p0 : GNet) (p1 : Int) (k2 : (List Int) → Option (List Int)) : Nat → (List Int) → Int → Option (List Int)
  | 0, _, _ => none
  | n7 + 1, y3, y4 =>
    bif (decide (y4 < (p0.Elements.length : Int))) then
     (getI p0.Elements y4).bind fun x9 =>
     bif (x9.Kind == p1) then
      chk (decide ((y3.length + ([y4]).length) * 8 ≤ 140737488355328)) <|
      Qev N p0 p1 k2 n7 (y3 ++ ([y4])) (w64 (y4 + 1))
     else
      Qev N p0 p1 k2 n7 y3 (w64 (y4 + 1))
    else
     k2 (y3)
def Qkd (N : Nat) (p0 : GNet) (p1 : Int) : Option (List Int) :=
  Qbz (fun y1 =>
    some y1) fun k2 : (List Int) → Option (List Int) =>
  Qev N p0 p1 k2 N ([]) 0
def Qwh (p0 : GNet) : AV := .dat 7 ((p0.Elements : List GElement).map Qac)
def Qyz (y3 : (List Int)) : AV := .acc 0 3 1 ((y3 : List Int).map Qaj)
theorem Qh7 (N : Nat) (p0 : GNet) (p1 : Int) (r : (List Int)) (h : Qkd N p0 p1 = some r) : Spec Try.prog 70 [(.agg (Qia p0)), (K .u8 p1)] [] (.dat 1 (r.map Qaj)) [] := by
  refine Qak Try.func70 rfl 0 (nle rfl) (fun X φ0 w0 hφ0 hd0 => ?_)
  unfold Qkd at h
  refine wx tbk [] trivial ?_
  obtain ⟨k2, hk_k2, h⟩ := jko h
  refine wjn (τ := (List Int)) (fun t => k2 t = some r) (fun y1 => ⟨mk 25 [(4, (.acc 0 3 1 ((y1 : List Int).map Qaj)))], [.tok]⟩) (fun y1 h => ?_) ?_
  ·subst hk_k2
   refine wx tbk [] trivial ?_
   refine Qad ?_
   obtain rfl := osi h
   exact fend ⟨[(.dat 1 ((y1 : List Int).map Qaj))], ⟨Qe9 (v := (.acc 0 3 1 ((y1 : List Int).map Qaj))) (rot (by kernel_rfl)) Less.acc, trivial⟩, rfl⟩ (nld Qab _)
  ·skip
   refine wx tbk [(2, rp [(.tmp 8, (Qwh p0))] (I ((p0.Elements.length : Int))))] ⟨alm (c := Qac) (l := p0.Elements) (aln rfl Try.underlying40 rfl), trivial⟩ ?_
   refine Qan ?_
   refine wmr (Mor.trans (Qnc 1 3 1 4 (by kernel_rfl) (by kernel_rfl)) (mto (n := 25) (l' := [(1, (K .u8 (p1))), (4, (.acc 0 3 1 ((([]) : List Int).map Qaj))), (8, (Qwh p0)), (9, (I ((p0.Elements.length : Int)))), (10, I 0)]) (own' := [.tok]) [(1, (K .u8 (p1))), (4, (.acc 1 3 1 (([] : List Int).map Qaj))), (8, (Qwh p0)), (9, (I ((p0.Elements.length : Int)))), (10, I 0)] [1] [.tok] hφ0 (pc rwl (pc (.rn (Qbx rfl (Qbo Qab _))) (pc (.rn (.plain _ (nld Qaa _))) (pc rwl (pc rwl pn))))) (qc .tok qn))) ?_
   refine Qby (τ := (List Int) × Int) (fun n t => Qev N p0 p1 k2 n t.1 t.2 = some r) (fun ⟨y3, y4⟩ => ⟨mk 25 [(1, (K .u8 (p1))), (4, (Qyz y3)), (8, (Qwh p0)), (9, (I ((p0.Elements.length : Int)))), (10, I y4)], [.tok]⟩) (fun t h => by rw [Qev] at h; cases h) (fun n7 ih t h => ?_) N ([], 0) h
   obtain ⟨y3, y4⟩ := t
   rw [Qev] at h
   skip
   refine wx tbk [] trivial ?_
   refine wsq ?_
   rcases bft ((decide (y4 < (p0.Elements.length : Int)))) with hc8 | hc8
   ·replace h := Qaw hc8 h
    refine wft hc8 (by kernel_rfl) ?_
    refine Qap ?_
    refine thn ?_
    refine wsq ?_
    refine Qan ?_
    obtain ⟨x9, hg10, h⟩ := bno h
    obtain ⟨hi11, hj12⟩ := gsm hg10
    refine wx tbk [(1, rp [(.tmp 8, (Qwh p0)), (.tmp 10, I y4)] (.dptr (Qac (x9)) 0))] ⟨aid rfl Try.underlying40 ti76 rfl rfl hi11 (mgt Qac hj12) rfl, trivial⟩ ?_
    refine wx tbk [] trivial ?_
    rcases bft ((x9.Kind == p1)) with hc13 | hc13
    ·replace h := Qaw hc13 h
     refine wft hc13 (by kernel_rfl) ?_
     obtain ⟨ha14, h⟩ := cko h
     refine wx1 tbk [(2, rp [(.tmp 20, I y4)] (.dat 1 (([y4] : List Int).map Qaj))), (3, ⟨[(.tmp 19, (Qyz y3)), (.tmp 21, (.dat 1 (([y4] : List Int).map Qaj)))], [(0, .tok), (2, .unused)], (.acc 2 3 1 ((y3 ++ ([y4]) : List Int).map Qaj)), [(0, .dead), (2, .tok)], false⟩)] ⟨Qb1 (vs := [I y4]) rfl Try.underlying27 ti3 tz3 rfl (by decide) rfl (by decide) (by rfl) (by rfl) (by rfl) rfl, Qgk rfl Try.underlying27 te3 (Base.acc _ _) rfl rfl (by rfl) (Qij Qaj ha14) (Qii Qaj ha14 (by decide)) (Qih Qaj) rfl rfl, trivial⟩ ?_
     refine bln ?_
     refine thn ?_
     refine wx1 tbk [] trivial ?_
     refine thn ?_
     exact arm (mto (n := 25) [(1, (K .u8 (p1))), (4, (.acc 2 3 1 ((y3 ++ ([y4]) : List Int).map Qaj))), (8, (Qwh p0)), (9, (I ((p0.Elements.length : Int)))), (10, (I (w64 (y4 + 1))))] [2] [.tok] hφ0 (pc rwl (pc (.rn (Qbx rfl (Qbo Qab _))) (pc (.rn (.plain _ (nld Qaa _))) (pc rwl (pc rwl pn))))) (qc .tok qn)) (ih (y3 ++ ([y4]), w64 (y4 + 1)) h)
    ·replace h := Qax hc13 h
     refine wfn hc13 (by kernel_rfl) ?_
     refine Qap ?_
     refine bln ?_
     refine thn ?_
     refine wx1 tbk [] trivial ?_
     refine thn ?_
     exact arm (mto (n := 25) [(1, (K .u8 (p1))), (4, (Qyz y3)), (8, (Qwh p0)), (9, (I ((p0.Elements.length : Int)))), (10, (I (w64 (y4 + 1))))] [0] [.tok] hφ0 (pc rwl (pc (.rn (Qbx rfl (Qbo Qab _))) (pc (.rn (.plain _ (nld Qaa _))) (pc rwl (pc rwl pn))))) (qc .tok qn)) (ih (y3, w64 (y4 + 1)) h)
   ·replace h := Qax hc8 h
    refine wfn hc8 (by kernel_rfl) ?_
    refine Qbi ?_
    refine Qay ?_
    refine Qay ?_
    refine Qbh rfl ?_
    refine thn ?_
    exact ⟨(y3), h, (mto (n := 25) [(4, (Qyz y3))] [0] [.tok] hφ0 (pc (.rn (Qbx rfl (Qbo Qab _))) pn) (qc .tok qn))⟩
def Qfd (N : Nat) (p0 : GStream) : Option Bool :=
  (Qc4 N p0.Mass 0 1000000).bind fun x2 =>
  bif x2 then
   (Qc4 N p0.Heat 0 (w64 (4000 * p0.Mass))).bind fun x5 =>
   bif x5 then
    (Qc4 N p0.Silica 0 (w64 (10000 * p0.Mass))).bind fun x8 =>
    bif x8 then
     (Qc4 N p0.Gas 0 1000000000).bind fun x11 =>
     some x11
    else
     some false
   else
    some false
  else
   some false
theorem Qdn (N : Nat) (p0 : GStream) (r : Bool) (h : Qfd N p0 = some r) : Spec Try.prog 34 [(.agg (Qae p0))] [] (B r) [] := by
  refine Qak Try.func34 rfl 0 (nle rfl) (fun X φ0 w0 hφ0 hd0 => ?_)
  unfold Qfd at h
  refine wx tbk [] trivial ?_
  obtain ⟨x2, hf1, h⟩ := bno h
  rcases bft (x2) with hb3 | hb3
  ·replace h := Qaw hb3 h
   obtain ⟨x5, hf4, h⟩ := bno h
   rcases bft (x5) with hb6 | hb6
   ·replace h := Qaw hb6 h
    obtain ⟨x8, hf7, h⟩ := bno h
    rcases bft (x8) with hb9 | hb9
    ·replace h := Qaw hb9 h
     obtain ⟨x11, hf10, h⟩ := bno h
     refine wx tbk [(2, rp [fu 45, (.tmp 4, I p0.Mass), ci 0, ci 1000000] (B x2)), (3, rp [(.tmp 5, B x2)] (B true)), (9, rp [(.tmp 6, B true), fu 45, (.tmp 8, I p0.Heat), ci 0, (.tmp 11, (I (w64 (4000 * p0.Mass))))] (B x5)), (11, rp [(.tmp 13, B x5)] (B true)), (17, rp [(.tmp 14, B true), fu 45, (.tmp 16, I p0.Silica), ci 0, (.tmp 19, (I (w64 (10000 * p0.Mass))))] (B x8)), (19, rp [(.tmp 21, B x8)] (B true)), (22, rp [(.tmp 22, B true), fu 45, (.tmp 24, I p0.Gas), ci 0, ci 1000000000] (B x11))] ⟨apc (first := []) (cap := []) (vs := [I p0.Mass, I 0, I 1000000]) rfl Qdr (Qa1 N p0.Mass 0 1000000 _ hf1) rfl rfl (nlc nll (nlc nll (nlc nll nl0))) nll rfl, asb hb3 (amv rfl), ag_ (apc (first := []) (cap := []) (vs := [I p0.Heat, I 0, (I (w64 (4000 * p0.Mass)))]) rfl Qdr (Qa1 N p0.Heat 0 (w64 (4000 * p0.Mass)) _ hf4) rfl rfl (nlc nll (nlc nll (nlc nll nl0))) nll rfl), asb hb6 (amv rfl), ag_ (apc (first := []) (cap := []) (vs := [I p0.Silica, I 0, (I (w64 (10000 * p0.Mass)))]) rfl Qdr (Qa1 N p0.Silica 0 (w64 (10000 * p0.Mass)) _ hf7) rfl rfl (nlc nll (nlc nll (nlc nll nl0))) nll rfl), asb hb9 (amv rfl), ag_ (apc (first := []) (cap := []) (vs := [I p0.Gas, I 0, I 1000000000]) rfl Qdr (Qa1 N p0.Gas 0 1000000000 _ hf10) rfl rfl (nlc nll (nlc nll (nlc nll nl0))) nll rfl), trivial⟩ ?_
     refine Qad ?_
     obtain rfl := osi h
     exact fend ⟨[B x11], ⟨rot (by kernel_rfl), trivial⟩, rfl⟩ nll
    ·replace h := Qax hb9 h
     refine wx tbk [(2, rp [fu 45, (.tmp 4, I p0.Mass), ci 0, ci 1000000] (B x2)), (3, rp [(.tmp 5, B x2)] (B true)), (9, rp [(.tmp 6, B true), fu 45, (.tmp 8, I p0.Heat), ci 0, (.tmp 11, (I (w64 (4000 * p0.Mass))))] (B x5)), (11, rp [(.tmp 13, B x5)] (B true)), (17, rp [(.tmp 14, B true), fu 45, (.tmp 16, I p0.Silica), ci 0, (.tmp 19, (I (w64 (10000 * p0.Mass))))] (B x8)), (19, rp [(.tmp 21, B x8)] (B false))] ⟨apc (first := []) (cap := []) (vs := [I p0.Mass, I 0, I 1000000]) rfl Qdr (Qa1 N p0.Mass 0 1000000 _ hf1) rfl rfl (nlc nll (nlc nll (nlc nll nl0))) nll rfl, asb hb3 (amv rfl), ag_ (apc (first := []) (cap := []) (vs := [I p0.Heat, I 0, (I (w64 (4000 * p0.Mass)))]) rfl Qdr (Qa1 N p0.Heat 0 (w64 (4000 * p0.Mass)) _ hf4) rfl rfl (nlc nll (nlc nll (nlc nll nl0))) nll rfl), asb hb6 (amv rfl), ag_ (apc (first := []) (cap := []) (vs := [I p0.Silica, I 0, (I (w64 (10000 * p0.Mass)))]) rfl Qdr (Qa1 N p0.Silica 0 (w64 (10000 * p0.Mass)) _ hf7) rfl rfl (nlc nll (nlc nll (nlc nll nl0))) nll rfl), asb hb9 (amv rfl), trivial⟩ ?_
     refine Qad ?_
     obtain rfl := osi h
     exact fend ⟨[B false], ⟨rot (by kernel_rfl), trivial⟩, rfl⟩ nll
   ·replace h := Qax hb6 h
    refine wx tbk [(2, rp [fu 45, (.tmp 4, I p0.Mass), ci 0, ci 1000000] (B x2)), (3, rp [(.tmp 5, B x2)] (B true)), (9, rp [(.tmp 6, B true), fu 45, (.tmp 8, I p0.Heat), ci 0, (.tmp 11, (I (w64 (4000 * p0.Mass))))] (B x5)), (11, rp [(.tmp 13, B x5)] (B false))] ⟨apc (first := []) (cap := []) (vs := [I p0.Mass, I 0, I 1000000]) rfl Qdr (Qa1 N p0.Mass 0 1000000 _ hf1) rfl rfl (nlc nll (nlc nll (nlc nll nl0))) nll rfl, asb hb3 (amv rfl), ag_ (apc (first := []) (cap := []) (vs := [I p0.Heat, I 0, (I (w64 (4000 * p0.Mass)))]) rfl Qdr (Qa1 N p0.Heat 0 (w64 (4000 * p0.Mass)) _ hf4) rfl rfl (nlc nll (nlc nll (nlc nll nl0))) nll rfl), asb hb6 (amv rfl), trivial⟩ ?_
    refine Qad ?_
    obtain rfl := osi h
    exact fend ⟨[B false], ⟨rot (by kernel_rfl), trivial⟩, rfl⟩ nll
  ·replace h := Qax hb3 h
   refine wx tbk [(2, rp [fu 45, (.tmp 4, I p0.Mass), ci 0, ci 1000000] (B x2)), (3, rp [(.tmp 5, B x2)] (B false))] ⟨apc (first := []) (cap := []) (vs := [I p0.Mass, I 0, I 1000000]) rfl Qdr (Qa1 N p0.Mass 0 1000000 _ hf1) rfl rfl (nlc nll (nlc nll (nlc nll nl0))) nll rfl, asb hb3 (amv rfl), trivial⟩ ?_
   refine Qad ?_
   obtain rfl := osi h
   exact fend ⟨[B false], ⟨rot (by kernel_rfl), trivial⟩, rfl⟩ nll
def Qhv (N : Nat) (p0 : GStream) : Option Int :=
  (Qfd N p0).bind fun x2 =>
  bif (!x2) then
   some 1
  else
   some 0
def Zd3 (p0 : GStream) : AV := .agg [(I (p0.Mass)), (I (p0.Heat)), (I (p0.Silica)), (I (p0.Gas))]
theorem Qlx (N : Nat) (p0 : GStream) (r : Int) (h : Qhv N p0 = some r) : Spec Try.prog 14 [(.agg (Qae p0))] [] (I r) [] := by
  refine Qak Try.func14 rfl 0 (nle rfl) (fun X φ0 w0 hφ0 hd0 => ?_)
  unfold Qhv at h
  refine wx tbk [] trivial ?_
  refine wsq ?_
  obtain ⟨x2, hf1, h⟩ := bno h
  refine wx tbk [(1, rp [fu 34, (.tmp 3, (Zd3 p0))] (B x2))] ⟨apc (first := []) (cap := []) (vs := [(Zd3 p0)]) rfl Qo1 (Qdn N p0 _ hf1) rfl rfl (nlc (NLt.agg _ (nlc nll (nlc nll (nlc nll (nlc nll nl0))))) nl0) nll rfl, trivial⟩ ?_
  rcases bft ((!x2)) with hc3 | hc3
  ·replace h := Qaw hc3 h
   refine wft hc3 (by kernel_rfl) ?_
   refine wx tbk [] trivial ?_
   refine Qad ?_
   refine Qaf ?_
   obtain rfl := osi h
   exact fend ⟨[I 1], ⟨rot (by kernel_rfl), trivial⟩, rfl⟩ nll
  ·replace h := Qax hc3 h
   refine wfn hc3 (by kernel_rfl) ?_
   refine Qap ?_
   refine thn ?_
   refine wx tbk [] trivial ?_
   refine Qad ?_
   obtain rfl := osi h
   exact fend ⟨[I 0], ⟨rot (by kernel_rfl), trivial⟩, rfl⟩ nll
def Qj2 (N : Nat) (p0 : GStream) : Option Bool :=
  (Qhv N p0).bind fun x2 =>
  some (x2 == 0)
def Zd4 (p0 : GStream) : AV := .agg [(I (p0.Mass)), (I (p0.Heat)), (I (p0.Silica)), (I (p0.Gas))]
theorem Qn0 (N : Nat) (p0 : GStream) (r : Bool) (h : Qj2 N p0 = some r) : Spec Try.prog 72 [(.agg (Qae p0))] [] (B r) [] := by
  refine Qak Try.func72 rfl 0 (nle rfl) (fun X φ0 w0 hφ0 hd0 => ?_)
  unfold Qj2 at h
  refine wx tbk [] trivial ?_
  obtain ⟨x2, hf1, h⟩ := bno h
  refine wx tbk [(1, rp [fu 14, (.tmp 3, (Zd4 p0))] (I x2))] ⟨apc (first := []) (cap := []) (vs := [(Zd4 p0)]) rfl Zc8 (Qlx N p0 _ hf1) rfl rfl (nlc (NLt.agg _ (nlc nll (nlc nll (nlc nll (nlc nll nl0))))) nl0) nll rfl, trivial⟩ ?_
  refine Qad ?_
  obtain rfl := osi h
  exact fend ⟨[(B ((x2 == 0)))], ⟨rot (by kernel_rfl), trivial⟩, rfl⟩ nll
def Qft (N : Nat) (p0 : GStream) : Option Bool :=
  (Qj2 N p0).bind fun x3 =>
  some (!x3)
def Zaf (p0 : GStream) : AV := .agg [(I (p0.Mass)), (I (p0.Heat)), (I (p0.Silica)), (I (p0.Gas))]
def Q6e : Slot := .own 1 [[(.fn (.func 72) [] [])]]
theorem Qja (N : Nat) (p0 : GStream) (r : Bool) (h : Qft N p0 = some r) : Spec Try.prog 88 [(Zaf p0), (.ref 0 1 (0) 0)] [Q6e] (B (r)) [Q6e] := by
  refine Qak Try.func88 rfl 1 (nle rfl) (fun X φ0 w0 hφ0 hd0 => ?_)
  unfold Qft at h
  refine Qbp ?_
  refine wx tbk [] trivial ?_
  obtain ⟨x3, hf2, h⟩ := bno h
  refine wx tbk [(2, rp [(.tmp 4, (.fn (.func 72) [] [])), (.tmp 5, (Zaf p0))] (B x3))] ⟨apc (first := []) (cap := []) (vs := [(Zaf p0)]) rfl Zcf (Qn0 N p0 _ hf2) rfl rfl (nlc (NLt.agg _ (nlc nll (nlc nll (nlc nll (nlc nll nl0))))) nl0) nll rfl, trivial⟩ ?_
  refine wmr (mto (n := 8) (l' := [(3, (B ((!x3))))]) (own' := [Q6e]) [(3, (B ((!x3))))] [0] [Q6e] hφ0 (pc rwl pn) (qc (spb (lc (.rn (Qav rn0 rn0)) ln)) qn)) ?_
  refine Qad ?_
  obtain rfl := osi h
  exact ⟨_, Mor.rfl, Qcz (vs := [(B ((!x3)))]) ⟨rot (by kernel_rfl), trivial⟩ rfl (NLt.of0 nll) (by kernel_rfl) (Qal (Qa4 (nlc (NLt.of0 (NLt.fn _ _ _ nl0 nl0)) nl0)) Qbn)⟩
def Qbg (N : Nat) (p0 : (List GStream)) (k2 : Unit → Option Int) : Nat → Int → Option Int
  | 0, _ => none
  | n5 + 1, y3 =>
    bif (decide (y3 < (p0.length : Int))) then
     (getI p0 y3).bind fun x7 =>
     (Qft N x7).bind fun x12 =>
     bif x12 then
      some y3
     else
      Qbg N p0 k2 n5 (w64 (y3 + 1))
    else
     k2 ()
def Qcw (N : Nat) (p0 : (List GStream)) : Option Int :=
  Qbz (fun _ =>
    some (-1)) fun k2 : Unit → Option Int =>
  Qbg N p0 k2 N 0
def Qwg (p0 : (List GStream)) : AV := .dat 4 ((p0 : List GStream).map Qae)
def Q0h : AV := .fn (.func 88) [] [(.ref 0 1 (0) 0)]
def Qmj : Slot := .own 1 [[(.fn (.func 72) [] [])]]
def Zd5 (x7 : GStream) : AV := .agg [(I (x7.Mass)), (I (x7.Heat)), (I (x7.Silica)), (I (x7.Gas))]
theorem Qfx (N : Nat) (p0 : (List GStream)) (r : Int) (h : Qcw N p0 = some r) : Spec Try.prog 95 [(Qwg p0), Q0h] [Qmj] (I (r)) [Qmj] := by
  refine Qak Try.func95 rfl 1 (nle rfl) (fun X φ0 w0 hφ0 hd0 => ?_)
  unfold Qcw at h
  refine Qbp ?_
  refine wx tbk [] trivial ?_
  obtain ⟨k2, hk_k2, h⟩ := jko h
  refine wjn (τ := Unit) (fun t => k2 t = some r) (fun _ => ⟨mk 19 [], [Qmj]⟩) (fun t h => ?_) ?_
  ·subst hk_k2
   refine wx tbk [] trivial ?_
   refine wmr (mto (n := 19) (l' := [(4, (I ((-1))))]) (own' := [Qmj]) [(4, (I ((-1))))] [0] [Qmj] hφ0 (pc rwl pn) (qc (spb (lc (.rn (Qav rn0 rn0)) ln)) qn)) ?_
   refine Qad ?_
   obtain rfl := osi h
   exact ⟨_, Mor.rfl, Qcz (vs := [(I ((-1)))]) ⟨rot (by kernel_rfl), trivial⟩ rfl (NLt.of0 nll) (by kernel_rfl) (Qal (Qa4 (nlc (NLt.of0 (NLt.fn _ _ _ nl0 nl0)) nl0)) Qbn)⟩
  ·skip
   refine wx tbk [(1, rp [(.tmp 6, (Qwg p0))] (I ((p0.length : Int))))] ⟨alm (c := Qae) (l := p0) (aln rfl Try.underlying45 rfl), trivial⟩ ?_
   refine Qan ?_
   refine wmr (mto (n := 19) (l' := [(0, (Qwg p0)), (1, Q0h), (7, (I ((p0.length : Int)))), (8, I 0)]) (own' := [Qmj]) [(0, (Qwg p0)), (1, Q0h), (7, (I ((p0.length : Int)))), (8, I 0)] [0] [Qmj] hφ0 (pc (.rn (.plain _ (nld Qai _))) (pc (.rn (Qav rn0 (rnc (rqr rfl) rn0))) (pc rwl (pc rwl pn)))) (qc (spb (lc (.rn (Qav rn0 rn0)) ln)) qn)) ?_
   refine Qby (τ := Int) (fun n t => Qbg N p0 k2 n t = some r) (fun y3 => ⟨mk 19 [(0, (Qwg p0)), (1, Q0h), (7, (I ((p0.length : Int)))), (8, I y3)], [Qmj]⟩) (fun t h => by rw [Qbg] at h; cases h) (fun n5 ih y3 h => ?_) N (0) h
   rw [Qbg] at h
   skip
   refine wx tbk [] trivial ?_
   refine wsq ?_
   rcases bft ((decide (y3 < (p0.length : Int)))) with hc6 | hc6
   ·replace h := Qaw hc6 h
    refine wft hc6 (by kernel_rfl) ?_
    refine Qap ?_
    refine thn ?_
    refine wsq ?_
    refine Qan ?_
    refine wx tbk [] trivial ?_
    obtain ⟨x7, hg8, h⟩ := bno h
    obtain ⟨hi9, hj10⟩ := gsm hg8
    obtain ⟨x12, hf11, h⟩ := bno h
    refine wx tbk [(3, rp [(.tmp 12, (Qwg p0)), (.tmp 13, I y3)] (.dptr (Qae (x7)) 0)), (5, ⟨[(.tmp 11, Q0h), (.tmp 15, (Zd5 x7))], [(0, Qmj)], B x12, [(0, Qmj)], false⟩)] ⟨aid rfl Try.underlying45 ti48 rfl rfl hi9 (mgt Qae hj10) rfl, Qar (first := []) (cap := [.ref 0 1 0 0]) (vs := [(Zd5 x7)]) (σr := [Qmj]) (σr' := [Qmj]) (res' := (B x12)) [0] rfl Zb2 (Qja N x7 _ hf11) rfl (Qbm (rnc (.plain _ (NLt.agg _ (nlc nll (nlc nll (nlc nll (nlc nll nl0)))))) (rnc (Qa0 rfl) rn0))) (slc (Qag (rnc (.plain _ (NLt.fn _ _ _ nl0 nl0)) rn0)) Qaq) (slc (Qag (rnc (.plain _ (NLt.fn _ _ _ nl0 nl0)) rn0)) Qaq) (.plain _ nll) rfl rfl rfl, trivial⟩ ?_
    rcases bft (x12) with hc13 | hc13
    ·replace h := Qaw hc13 h
     refine wft hc13 (by kernel_rfl) ?_
     refine wx tbk [] trivial ?_
     refine wmr (mto (n := 19) (l' := [(4, I y3)]) (own' := [Qmj]) [(4, I y3)] [0] [Qmj] hφ0 (pc rwl pn) (qc (spb (lc (.rn (Qav rn0 rn0)) ln)) qn)) ?_
     refine Qad ?_
     refine Qas ?_
     refine Qaf ?_
     refine Qaf ?_
     refine Qas ?_
     refine Qaf ?_
     obtain rfl := osi h
     exact ⟨_, Mor.rfl, Qcz (vs := [I y3]) ⟨rot (by kernel_rfl), trivial⟩ rfl (NLt.of0 nll) (by kernel_rfl) (Qal (Qa4 (nlc (NLt.of0 (NLt.fn _ _ _ nl0 nl0)) nl0)) Qbn)⟩
    ·replace h := Qax hc13 h
     refine wfn hc13 (by kernel_rfl) ?_
     refine Qap ?_
     refine bln ?_
     refine thn ?_
     refine wx1 tbk [] trivial ?_
     refine thn ?_
     exact arm (mto (n := 19) [(0, (Qwg p0)), (1, Q0h), (7, (I ((p0.length : Int)))), (8, (I (w64 (y3 + 1))))] [0] [Qmj] hφ0 (pc (.rn (.plain _ (nld Qai _))) (pc (.rn (Qav rn0 (rnc (rqr rfl) rn0))) (pc rwl (pc rwl pn)))) (qc (spb (lc (.rn (Qav rn0 rn0)) ln)) qn)) (ih (w64 (y3 + 1)) h)
   ·replace h := Qax hc6 h
    refine wfn hc6 (by kernel_rfl) ?_
    refine Qbi ?_
    refine Qay ?_
    refine Qay ?_
    refine Qbh rfl ?_
    refine thn ?_
    exact ⟨(), h, (mto (n := 19) [] [0] [Qmj] hφ0 pn (qc (spb (lc (.rn (Qav rn0 rn0)) ln)) qn))⟩
def Qcn (N : Nat) (p0 : (List GStream)) : Option Bool :=
  (Qcw N p0).bind fun x3 =>
  some (decide (x3 ≥ 0))
def Zah (p0 : (List GStream)) : AV := .dat 4 ((p0 : List GStream).map Qae)
def Zag : AV := .fn (.func 88) [] [(.ref 0 1 (0) 0)]
def Qun : Slot := .own 1 [[(.fn (.func 72) [] [])]]
theorem Qfi (N : Nat) (p0 : (List GStream)) (r : Bool) (h : Qcn N p0 = some r) : Spec Try.prog 87 [(Zah p0), Zag] [Qun] (B (r)) [Qun] := by
  refine Qak Try.func87 rfl 1 (nle rfl) (fun X φ0 w0 hφ0 hd0 => ?_)
  unfold Qcn at h
  refine Qbp ?_
  refine wx tbk [] trivial ?_
  obtain ⟨x3, hf2, h⟩ := bno h
  refine wx tbk [(2, ⟨[fu 95, (.tmp 5, (Zah p0)), (.tmp 6, Zag)], [(0, Qun)], I x3, [(0, Qun)], false⟩)] ⟨Qar (first := []) (cap := []) (vs := [(Zah p0), Zag]) (σr := [Qun]) (σr' := [Qun]) (res' := (I x3)) [0] rfl Zbx (Qfx N p0 _ hf2) rfl (Qbm (rnc (.plain _ (nld Qai _)) (rnc (Qav rn0 (rnc (Qa0 rfl) rn0)) rn0))) (slc (Qag (rnc (.plain _ (NLt.fn _ _ _ nl0 nl0)) rn0)) Qaq) (slc (Qag (rnc (.plain _ (NLt.fn _ _ _ nl0 nl0)) rn0)) Qaq) (.plain _ nll) rfl rfl rfl, trivial⟩ ?_
  refine wmr (mto (n := 9) (l' := [(4, (B ((decide (x3 ≥ 0)))))]) (own' := [Qun]) [(4, (B ((decide (x3 ≥ 0)))))] [0] [Qun] hφ0 (pc rwl pn) (qc (spb (lc (.rn (Qav rn0 rn0)) ln)) qn)) ?_
  refine Qad ?_
  obtain rfl := osi h
  exact ⟨_, Mor.rfl, Qcz (vs := [(B ((decide (x3 ≥ 0))))]) ⟨rot (by kernel_rfl), trivial⟩ rfl (NLt.of0 nll) (by kernel_rfl) (Qal (Qa4 (nlc (NLt.of0 (NLt.fn _ _ _ nl0 nl0)) nl0)) Qbn)⟩
def Qgf (N : Nat) (p0 : (List GStream)) : Option Bool :=
  (Qcn N p0).bind fun x2 =>
  some (!x2)
def Zaj (p0 : (List GStream)) : AV := .dat 4 ((p0 : List GStream).map Qae)
def Zai : AV := .fn (.func 88) [] [(.ref 0 1 (0) 0)]
def Q6f : Slot := .own 1 [[(.fn (.func 72) [] [])]]
theorem Qj0 (N : Nat) (p0 : (List GStream)) (r : Bool) (h : Qgf N p0 = some r) : Spec Try.prog 71 [(Zaj p0), (.fn (.func 72) [] [])] [] (B (r)) [] := by
  refine Qak Try.func71 rfl 0 (nle rfl) (fun X φ0 w0 hφ0 hd0 => ?_)
  unfold Qgf at h
  refine wx tbk [] trivial ?_
  obtain ⟨x2, hf1, h⟩ := bno h
  refine wx tbk [(1, rp [(.tmp 3, .ref 0 1 0 0)] Zai), (2, ⟨[fu 87, (.tmp 5, (Zaj p0)), (.tmp 6, Zai)], [(0, Q6f)], B x2, [(0, Q6f)], false⟩)] ⟨Qfu (fs := []) (cs := [.ref 0 1 0 0]) rfl rfl rfl rfl, Qar (first := []) (cap := []) (vs := [(Zaj p0), Zai]) (σr := [Q6f]) (σr' := [Q6f]) (res' := (B x2)) [0] rfl Zb3 (Qfi N p0 _ hf1) rfl (Qbm (rnc (.plain _ (nld Qai _)) (rnc (Qav rn0 (rnc (Qa0 rfl) rn0)) rn0))) (slc (Qag (rnc (.plain _ (NLt.fn _ _ _ nl0 nl0)) rn0)) Qaq) (slc (Qag (rnc (.plain _ (NLt.fn _ _ _ nl0 nl0)) rn0)) Qaq) (.plain _ nll) rfl rfl rfl, trivial⟩ ?_
  refine Qad ?_
  obtain rfl := osi h
  exact fend ⟨[(B ((!x2)))], ⟨rot (by kernel_rfl), trivial⟩, rfl⟩ nll
def Qge (N : Nat) (p0 : (List GStream)) (k5 : Int × Int × Int × Int → Option GStream) : Nat → Int → Int → Int → Int → Int → Option GStream
  | 0, _, _, _, _, _ => none
  | n16 + 1, y6, y7, y8, y9, y10 =>
    bif (decide (y6 < (p0.length : Int))) then
     (getI p0 y6).bind fun x18 =>
     Qge N p0 k5 n16 (w64 (y6 + 1)) (w64 (y7 + x18.Mass)) (w64 (y8 + x18.Heat)) (w64 (y9 + x18.Silica)) (w64 (y10 + x18.Gas))
    else
     k5 (y7, y8, y9, y10)
def Qjz (N : Nat) (p0 : (List GStream)) : Option GStream :=
  Qbz (fun ⟨y1, y2, y3, y4⟩ =>
    some (⟨y1, y2, y3, y4⟩ : GStream)) fun k5 : Int × Int × Int × Int → Option GStream =>
  Qge N p0 k5 N 0 0 0 0 0
def Q0g (p0 : (List GStream)) : AV := .dat 4 ((p0 : List GStream).map Qae)
def Zd2 : Slot := .own 4 [[(I (0)), (I (0)), (I (0)), (I (0))]]
theorem Qkn (N : Nat) (p0 : (List GStream)) (r : GStream) (h : Qjz N p0 = some r) : Spec Try.prog 31 [(.dat 4 (p0.map Qae))] [] (.agg (Qae r)) [] := by
  refine Qak Try.func31 rfl 0 (nle rfl) (fun X φ0 w0 hφ0 hd0 => ?_)
  unfold Qjz at h
  refine wx tbk [] trivial ?_
  obtain ⟨k5, hk_k5, h⟩ := jko h
  refine wjn (τ := Int × Int × Int × Int) (fun t => k5 t = some r) (fun ⟨y1, y2, y3, y4⟩ => ⟨mk 34 [(2, .ref 0 4 0 0)], [(.own 4 [[I y1, I y2, I y3, I y4]])]⟩) (fun t h => ?_) ?_
  ·subst hk_k5
   obtain ⟨y1, y2, y3, y4⟩ := t
   refine wx tbk [] trivial ?_
   refine Qad ?_
   obtain rfl := osi h
   exact fend ⟨[(.agg [I y1, I y2, I y3, I y4])], ⟨Qch (n := 0) (m := 4) (j := 0) (i := 0) (xs := [[I y1, I y2, I y3, I y4]]) (by kernel_rfl) (by kernel_rfl) ti48 (by decide) rfl (nle rfl) rfl, trivial⟩, rfl⟩ (NLt.agg _ (nlc nll (nlc nll (nlc nll (nlc nll nl0)))))
  ·skip
   refine wx tbk [(1, rp [(.tmp 5, (Q0g p0))] (I ((p0.length : Int))))] ⟨alm (c := Qae) (l := p0) (aln rfl Try.underlying45 rfl), trivial⟩ ?_
   refine Qan ?_
   refine wmr (mto (n := 34) (l' := [(2, .ref 0 4 0 0), (5, (Q0g p0)), (6, (I ((p0.length : Int)))), (7, I 0)]) (own' := [Zd2]) [(2, .ref 0 4 0 0), (5, (Q0g p0)), (6, (I ((p0.length : Int)))), (7, I 0)] [0] [Zd2] hφ0 (pc (.rn (rqr rfl)) (pc (.rn (.plain _ (nld Qai _))) (pc rwl (pc rwl pn)))) (qc (spb (lc rwl (lc rwl (lc rwl (lc rwl ln))))) qn)) ?_
   refine Qby (τ := Int × Int × Int × Int × Int) (fun n t => Qge N p0 k5 n t.1 t.2.1 t.2.2.1 t.2.2.2.1 t.2.2.2.2 = some r) (fun ⟨y6, y7, y8, y9, y10⟩ => ⟨mk 34 [(2, .ref 0 4 0 0), (5, (Q0g p0)), (6, (I ((p0.length : Int)))), (7, I y6)], [(.own 4 [[I y7, I y8, I y9, I y10]])]⟩) (fun t h => by rw [Qge] at h; cases h) (fun n16 ih t h => ?_) N (0, 0, 0, 0, 0) h
   obtain ⟨y6, y7, y8, y9, y10⟩ := t
   rw [Qge] at h
   skip
   refine wx tbk [] trivial ?_
   refine wsq ?_
   rcases bft ((decide (y6 < (p0.length : Int)))) with hc17 | hc17
   ·replace h := Qaw hc17 h
    refine wft hc17 (by kernel_rfl) ?_
    refine Qap ?_
    refine thn ?_
    refine wsq ?_
    refine Qan ?_
    obtain ⟨x18, hg19, h⟩ := bno h
    obtain ⟨hi20, hj21⟩ := gsm hg19
    refine wx tbk [(0, rp [(.tmp 5, (Q0g p0)), (.tmp 7, I y6)] (.dptr (Qae (x18)) 0))] ⟨aid rfl Try.underlying45 ti48 rfl rfl hi20 (mgt Qae hj21) rfl, trivial⟩ ?_
    refine wx1 tbk [(20, rp [(.tmp 15, (I (w64 (y7 + x18.Mass)))), (.tmp 20, (I (w64 (y8 + x18.Heat)))), (.tmp 25, (I (w64 (y9 + x18.Silica)))), (.tmp 30, (I (w64 (y10 + x18.Gas))))] (.agg [(I (w64 (y7 + x18.Mass))), (I (w64 (y8 + x18.Heat))), (I (w64 (y9 + x18.Silica))), (I (w64 (y10 + x18.Gas)))]))] ⟨Qa2 (vs := [(I (w64 (y7 + x18.Mass))), (I (w64 (y8 + x18.Heat))), (I (w64 (y9 + x18.Silica))), (I (w64 (y10 + x18.Gas)))]) rfl ts48 tz48 rfl (by rfl) rfl, trivial⟩ ?_
    refine bln ?_
    refine thn ?_
    refine wx1 tbk [] trivial ?_
    refine thn ?_
    exact arm (mto (n := 34) [(2, .ref 0 4 0 0), (5, (Q0g p0)), (6, (I ((p0.length : Int)))), (7, (I (w64 (y6 + 1))))] [0] [(.own 4 [[(I (w64 (y7 + x18.Mass))), (I (w64 (y8 + x18.Heat))), (I (w64 (y9 + x18.Silica))), (I (w64 (y10 + x18.Gas)))]])] hφ0 (pc (.rn (rqr rfl)) (pc (.rn (.plain _ (nld Qai _))) (pc rwl (pc rwl pn)))) (qc (spb (lc rwl (lc rwl (lc rwl (lc rwl ln))))) qn)) (ih (w64 (y6 + 1), w64 (y7 + x18.Mass), w64 (y8 + x18.Heat), w64 (y9 + x18.Silica), w64 (y10 + x18.Gas)) h)
   ·replace h := Qax hc17 h
    refine wfn hc17 (by kernel_rfl) ?_
    refine Qbi ?_
    refine Qay ?_
    refine Qay ?_
    refine Qbh rfl ?_
    refine thn ?_
    exact ⟨(y7, y8, y9, y10), h, (mto (n := 34) [(2, .ref 0 4 0 0)] [0] [(.own 4 [[I y7, I y8, I y9, I y10]])] hφ0 (pc (.rn (rqr rfl)) pn) (qc (spb (lc rwl (lc rwl (lc rwl (lc rwl ln))))) qn))⟩
def Qla (N : Nat) (p0 : GNet) (p1 : (List GStream)) : Option Int :=
  Qbz (fun _ =>
    (Qjz N p1).bind fun x3 =>
    bif (decide (x3.Mass > 1000000)) then
     some 3
    else
     bif (decide (x3.Gas > 1000000000)) then
      some 3
     else
      some 0) fun k1 : Unit → Option Int =>
  (Qkd N p0 1).bind fun x7 =>
  bif ((p1.length : Int) != (x7.length : Int)) then
   some 1
  else
   (Qgf N p1).bind fun x10 =>
   bif (!x10) then
    some 1
   else
    k1 ()
def Quo (p1 : (List GStream)) : AV := .dat 4 ((p1 : List GStream).map Qae)
def Ze3 (p0 : GNet) : AV := .dat 7 ((p0.Elements : List GElement).map Qac)
def Q6h (p0 : GNet) : AV := .agg [(.dat 5 ((p0.Table : List GRow).map Qa3)), (Ze3 p0)]
def Q6g (x7 : (List Int)) : AV := .dat 1 ((x7 : List Int).map Qaj)
theorem Qps (N : Nat) (p0 : GNet) (p1 : (List GStream)) (r : Int) (h : Qla N p0 p1 = some r) : Spec Try.prog 49 [(.agg (Qia p0)), (.dat 4 (p1.map Qae))] [] (I r) [] := by
  refine Qak Try.func49 rfl 0 (nle rfl) (fun X φ0 w0 hφ0 hd0 => ?_)
  unfold Qla at h
  refine wx tbk [] trivial ?_
  obtain ⟨k1, hk_k1, h⟩ := jko h
  refine wjn (τ := Unit) (fun t => k1 t = some r) (fun _ => ⟨mk 27 [(1, (Quo p1))], []⟩) (fun t h => ?_) ?_
  ·subst hk_k1
   refine wsq ?_
   obtain ⟨x3, hf2, h⟩ := bno h
   refine wx tbk [(1, rp [fu 31, (.tmp 17, (Quo p1))] (.agg [I x3.Mass, I x3.Heat, I x3.Silica, I x3.Gas]))] ⟨apc (first := []) (cap := []) (vs := [(Quo p1)]) rfl Qxc (Qkn N p1 _ hf2) rfl rfl (nlc (nld Qai _) nl0) (NLt.agg _ (nlc nll (nlc nll (nlc nll (nlc nll nl0))))) rfl, trivial⟩ ?_
   rcases bft ((decide (x3.Mass > 1000000))) with hb4 | hb4
   ·replace h := Qaw hb4 h
    refine wx tbk [(3, rp [(.tmp 21, (B ((decide (x3.Mass > 1000000)))))] (B true))] ⟨asb hb4 (amv rfl), trivial⟩ ?_
    refine Qbk (by kernel_rfl) ?_
    refine wx tbk [] trivial ?_
    refine Qad ?_
    refine Qaf ?_
    obtain rfl := osi h
    exact fend ⟨[I 3], ⟨rot (by kernel_rfl), trivial⟩, rfl⟩ nll
   ·replace h := Qax hb4 h
    refine wx tbk [(3, rp [(.tmp 21, (B ((decide (x3.Mass > 1000000)))))] (B false))] ⟨asb hb4 (amv rfl), trivial⟩ ?_
    rcases bft ((decide (x3.Gas > 1000000000))) with hc5 | hc5
    ·replace h := Qaw hc5 h
     refine wft hc5 (by kernel_rfl) ?_
     refine wx tbk [] trivial ?_
     refine Qad ?_
     refine Qaf ?_
     obtain rfl := osi h
     exact fend ⟨[I 3], ⟨rot (by kernel_rfl), trivial⟩, rfl⟩ nll
    ·replace h := Qax hc5 h
     refine wfn hc5 (by kernel_rfl) ?_
     refine Qap ?_
     refine thn ?_
     refine wx tbk [] trivial ?_
     refine Qad ?_
     obtain rfl := osi h
     exact fend ⟨[I 0], ⟨rot (by kernel_rfl), trivial⟩, rfl⟩ nll
  ·skip
   obtain ⟨x7, hf6, h⟩ := bno h
   rcases bft (((p1.length : Int) != (x7.length : Int))) with hb8 | hb8
   ·replace h := Qaw hb8 h
    refine wx tbk [(1, rp [(.tmp 6, (Quo p1))] (I ((p1.length : Int)))), (3, rp [fu 70, (.tmp 8, (Q6h p0)), (.const (.int .u8 1), (K .u8 (1)))] (Q6g x7)), (4, rp [(.tmp 9, (Q6g x7))] (I ((x7.length : Int)))), (6, rp [(.tmp 11, (B (((p1.length : Int) != (x7.length : Int)))))] (B true))] ⟨alm (c := Qae) (l := p1) (aln rfl Try.underlying45 rfl), apc (first := []) (cap := []) (vs := [(Q6h p0), (K .u8 (1))]) rfl Qtu (Qh7 N p0 1 _ hf6) rfl rfl (nlc (NLt.agg _ (nlc (nld Qah _) (nlc (nld Qaa _) nl0))) (nlc nll nl0)) (nld Qab _) rfl, alm (c := Qaj) (l := x7) (aln rfl Try.underlying27 rfl), asb hb8 (amv rfl), trivial⟩ ?_
    refine Qbk (by kernel_rfl) ?_
    refine wx tbk [] trivial ?_
    refine Qad ?_
    refine Qaf ?_
    obtain rfl := osi h
    exact fend ⟨[I 1], ⟨rot (by kernel_rfl), trivial⟩, rfl⟩ nll
   ·replace h := Qax hb8 h
    obtain ⟨x10, hf9, h⟩ := bno h
    refine wx tbk [(1, rp [(.tmp 6, (Quo p1))] (I ((p1.length : Int)))), (3, rp [fu 70, (.tmp 8, (Q6h p0)), (.const (.int .u8 1), (K .u8 (1)))] (Q6g x7)), (4, rp [(.tmp 9, (Q6g x7))] (I ((x7.length : Int)))), (6, rp [(.tmp 11, (B (((p1.length : Int) != (x7.length : Int)))))] (B false)), (8, rp [(.tmp 12, B false), fu 71, (.tmp 13, (Quo p1)), fu 72] (B x10))] ⟨alm (c := Qae) (l := p1) (aln rfl Try.underlying45 rfl), apc (first := []) (cap := []) (vs := [(Q6h p0), (K .u8 (1))]) rfl Qtu (Qh7 N p0 1 _ hf6) rfl rfl (nlc (NLt.agg _ (nlc (nld Qah _) (nlc (nld Qaa _) nl0))) (nlc nll nl0)) (nld Qab _) rfl, alm (c := Qaj) (l := x7) (aln rfl Try.underlying27 rfl), asb hb8 (amv rfl), ag_ (Qar (first := []) (cap := []) (vs := [(Quo p1), (.fn (.func 72) [] [])]) (σr := []) (σr' := []) (res' := (B x10)) [] rfl Zcg (Qj0 N p1 _ hf9) rfl (Qbm (rnc (.plain _ (nld Qai _)) (rnc (.plain _ (NLt.fn _ _ _ nl0 nl0)) rn0))) Qaq Qaq (.plain _ nll) rfl rfl rfl), trivial⟩ ?_
    rcases bft ((!x10)) with hc11 | hc11
    ·replace h := Qaw hc11 h
     refine wft hc11 (by kernel_rfl) ?_
     refine wx tbk [] trivial ?_
     refine Qad ?_
     refine Qaf ?_
     obtain rfl := osi h
     exact fend ⟨[I 1], ⟨rot (by kernel_rfl), trivial⟩, rfl⟩ nll
    ·replace h := Qax hc11 h
     refine wfn hc11 (by kernel_rfl) ?_
     refine Qap ?_
     refine thn ?_
     exact ⟨(), h, (mto (n := 27) [(1, (Quo p1))] [] [] hφ0 (pc (.rn (.plain _ (nld Qai _))) pn) qn)⟩
def Qm9 (N : Nat) (p0 : GNet) (p1 : (List Int)) (p2 : (List GStream)) : Option Int :=
  (Qhq N p0 p1).bind fun x2 =>
  bif (x2 != 0) then
   some x2
  else
   (Qla N p0 p2).bind fun x5 =>
   some x5
def Ze4 (p0 : GNet) : AV := .dat 7 ((p0.Elements : List GElement).map Qac)
def Q6l (p0 : GNet) : AV := .agg [(.dat 5 ((p0.Table : List GRow).map Qa3)), (Ze4 p0)]
theorem Qry (N : Nat) (p0 : GNet) (p1 : (List Int)) (p2 : (List GStream)) (r : Int) (h : Qm9 N p0 p1 p2 = some r) : Spec Try.prog 28 [(.agg (Qia p0)), (.dat 1 (p1.map Qaj)), (.dat 4 (p2.map Qae))] [] (I r) [] := by
  refine Qak Try.func28 rfl 0 (nle rfl) (fun X φ0 w0 hφ0 hd0 => ?_)
  unfold Qm9 at h
  refine wx tbk [] trivial ?_
  refine wsq ?_
  obtain ⟨x2, hf1, h⟩ := bno h
  refine wx tbk [(2, rp [fu 35, (.tmp 8, (Q6l p0)), (.tmp 9, (.dat 1 ((p1 : List Int).map Qaj)))] (I x2))] ⟨apc (first := []) (cap := []) (vs := [(Q6l p0), (.dat 1 ((p1 : List Int).map Qaj))]) rfl Q4r (Ql2 N p0 p1 _ hf1) rfl rfl (nlc (NLt.agg _ (nlc (nld Qah _) (nlc (nld Qaa _) nl0))) (nlc (nld Qab _) nl0)) nll rfl, trivial⟩ ?_
  refine wx tbk [] trivial ?_
  rcases bft ((x2 != 0)) with hc3 | hc3
  ·replace h := Qaw hc3 h
   refine wft hc3 (by kernel_rfl) ?_
   refine wx tbk [] trivial ?_
   refine Qad ?_
   refine Qaf ?_
   obtain rfl := osi h
   exact fend ⟨[I x2], ⟨rot (by kernel_rfl), trivial⟩, rfl⟩ nll
  ·replace h := Qax hc3 h
   refine wfn hc3 (by kernel_rfl) ?_
   refine Qap ?_
   refine thn ?_
   obtain ⟨x5, hf4, h⟩ := bno h
   refine wx tbk [(2, rp [fu 49, (.tmp 14, (Q6l p0)), (.tmp 15, (.dat 4 ((p2 : List GStream).map Qae)))] (I x5))] ⟨apc (first := []) (cap := []) (vs := [(Q6l p0), (.dat 4 ((p2 : List GStream).map Qae))]) rfl Zct (Qps N p0 p2 _ hf4) rfl rfl (nlc (NLt.agg _ (nlc (nld Qah _) (nlc (nld Qaa _) nl0))) (nlc (nld Qai _) nl0)) nll rfl, trivial⟩ ?_
   refine Qad ?_
   obtain rfl := osi h
   exact fend ⟨[I x5], ⟨rot (by kernel_rfl), trivial⟩, rfl⟩ nll
def Qkm (N : Nat) (p0 : Int) : Option Bool :=
  (Qc4 N p0 0 1000).bind fun x2 =>
  some x2
theorem Qos (N : Nat) (p0 : Int) (r : Bool) (h : Qkm N p0 = some r) : Spec Try.prog 97 [(I p0)] [] (B r) [] := by
  refine Qak Try.func97 rfl 0 (nle rfl) (fun X φ0 w0 hφ0 hd0 => ?_)
  unfold Qkm at h
  refine wx tbk [] trivial ?_
  obtain ⟨x2, hf1, h⟩ := bno h
  refine wx tbk [(1, rp [fu 45, (.tmp 3, I p0), ci 0, ci 1000] (B x2))] ⟨apc (first := []) (cap := []) (vs := [I p0, I 0, I 1000]) rfl Qdr (Qa1 N p0 0 1000 _ hf1) rfl rfl (nlc nll (nlc nll (nlc nll nl0))) nll rfl, trivial⟩ ?_
  refine Qad ?_
  obtain rfl := osi h
  exact fend ⟨[B x2], ⟨rot (by kernel_rfl), trivial⟩, rfl⟩ nll
def Qhu (N : Nat) (p0 : Int) : Option Bool :=
  (Qkm N p0).bind fun x3 =>
  some (!x3)
def Q6c : Slot := .own 1 [[(.fn (.func 97) [] [])]]
theorem Qlu (N : Nat) (p0 : Int) (r : Bool) (h : Qhu N p0 = some r) : Spec Try.prog 67 [(I (p0)), (.ref 0 1 (0) 0)] [Q6c] (B (r)) [Q6c] := by
  refine Qak Try.func67 rfl 1 (nle rfl) (fun X φ0 w0 hφ0 hd0 => ?_)
  unfold Qhu at h
  refine Qbp ?_
  refine wx tbk [] trivial ?_
  obtain ⟨x3, hf2, h⟩ := bno h
  refine wx tbk [(2, rp [(.tmp 4, (.fn (.func 97) [] [])), (.tmp 5, I p0)] (B x3))] ⟨apc (first := []) (cap := []) (vs := [I p0]) rfl Zbv (Qos N p0 _ hf2) rfl rfl (nlc nll nl0) nll rfl, trivial⟩ ?_
  refine wmr (mto (n := 8) (l' := [(3, (B ((!x3))))]) (own' := [Q6c]) [(3, (B ((!x3))))] [0] [Q6c] hφ0 (pc rwl pn) (qc (spb (lc (.rn (Qav rn0 rn0)) ln)) qn)) ?_
  refine Qad ?_
  obtain rfl := osi h
  exact ⟨_, Mor.rfl, Qcz (vs := [(B ((!x3)))]) ⟨rot (by kernel_rfl), trivial⟩ rfl (NLt.of0 nll) (by kernel_rfl) (Qal (Qa4 (nlc (NLt.of0 (NLt.fn _ _ _ nl0 nl0)) nl0)) Qbn)⟩
def Qcm (N : Nat) (p0 : (List Int)) (k2 : Unit → Option Int) : Nat → Int → Option Int
  | 0, _ => none
  | n5 + 1, y3 =>
    bif (decide (y3 < (p0.length : Int))) then
     (getI p0 y3).bind fun x7 =>
     (Qhu N x7).bind fun x12 =>
     bif x12 then
      some y3
     else
      Qcm N p0 k2 n5 (w64 (y3 + 1))
    else
     k2 ()
def Qfh (N : Nat) (p0 : (List Int)) : Option Int :=
  Qbz (fun _ =>
    some (-1)) fun k2 : Unit → Option Int =>
  Qcm N p0 k2 N 0
def Qwf (p0 : (List Int)) : AV := .dat 1 ((p0 : List Int).map Qaj)
def Q0f : AV := .fn (.func 67) [] [(.ref 0 1 (0) 0)]
def Qmi : Slot := .own 1 [[(.fn (.func 97) [] [])]]
theorem Qis (N : Nat) (p0 : (List Int)) (r : Int) (h : Qfh N p0 = some r) : Spec Try.prog 86 [(Qwf p0), Q0f] [Qmi] (I (r)) [Qmi] := by
  refine Qak Try.func86 rfl 1 (nle rfl) (fun X φ0 w0 hφ0 hd0 => ?_)
  unfold Qfh at h
  refine Qbp ?_
  refine wx tbk [] trivial ?_
  obtain ⟨k2, hk_k2, h⟩ := jko h
  refine wjn (τ := Unit) (fun t => k2 t = some r) (fun _ => ⟨mk 19 [], [Qmi]⟩) (fun t h => ?_) ?_
  ·subst hk_k2
   refine wx tbk [] trivial ?_
   refine wmr (mto (n := 19) (l' := [(4, (I ((-1))))]) (own' := [Qmi]) [(4, (I ((-1))))] [0] [Qmi] hφ0 (pc rwl pn) (qc (spb (lc (.rn (Qav rn0 rn0)) ln)) qn)) ?_
   refine Qad ?_
   obtain rfl := osi h
   exact ⟨_, Mor.rfl, Qcz (vs := [(I ((-1)))]) ⟨rot (by kernel_rfl), trivial⟩ rfl (NLt.of0 nll) (by kernel_rfl) (Qal (Qa4 (nlc (NLt.of0 (NLt.fn _ _ _ nl0 nl0)) nl0)) Qbn)⟩
  ·skip
   refine wx tbk [(1, rp [(.tmp 6, (Qwf p0))] (I ((p0.length : Int))))] ⟨alm (c := Qaj) (l := p0) (aln rfl Try.underlying27 rfl), trivial⟩ ?_
   refine Qan ?_
   refine wmr (mto (n := 19) (l' := [(0, (Qwf p0)), (1, Q0f), (7, (I ((p0.length : Int)))), (8, I 0)]) (own' := [Qmi]) [(0, (Qwf p0)), (1, Q0f), (7, (I ((p0.length : Int)))), (8, I 0)] [0] [Qmi] hφ0 (pc (.rn (.plain _ (nld Qab _))) (pc (.rn (Qav rn0 (rnc (rqr rfl) rn0))) (pc rwl (pc rwl pn)))) (qc (spb (lc (.rn (Qav rn0 rn0)) ln)) qn)) ?_
   refine Qby (τ := Int) (fun n t => Qcm N p0 k2 n t = some r) (fun y3 => ⟨mk 19 [(0, (Qwf p0)), (1, Q0f), (7, (I ((p0.length : Int)))), (8, I y3)], [Qmi]⟩) (fun t h => by rw [Qcm] at h; cases h) (fun n5 ih y3 h => ?_) N (0) h
   rw [Qcm] at h
   skip
   refine wx tbk [] trivial ?_
   refine wsq ?_
   rcases bft ((decide (y3 < (p0.length : Int)))) with hc6 | hc6
   ·replace h := Qaw hc6 h
    refine wft hc6 (by kernel_rfl) ?_
    refine Qap ?_
    refine thn ?_
    refine wsq ?_
    refine Qan ?_
    refine wx tbk [] trivial ?_
    obtain ⟨x7, hg8, h⟩ := bno h
    obtain ⟨hi9, hj10⟩ := gsm hg8
    obtain ⟨x12, hf11, h⟩ := bno h
    refine wx tbk [(3, rp [(.tmp 12, (Qwf p0)), (.tmp 13, I y3)] (.dptr (Qaj (x7)) 0)), (5, ⟨[(.tmp 11, Q0f), (.tmp 15, I x7)], [(0, Qmi)], B x12, [(0, Qmi)], false⟩)] ⟨aid rfl Try.underlying27 ti3 rfl rfl hi9 (mgt Qaj hj10) rfl, Qar (first := []) (cap := [.ref 0 1 0 0]) (vs := [I x7]) (σr := [Qmi]) (σr' := [Qmi]) (res' := (B x12)) [0] rfl Zch (Qlu N x7 _ hf11) rfl (Qbm (rnc (.plain _ nll) (rnc (Qa0 rfl) rn0))) (slc (Qag (rnc (.plain _ (NLt.fn _ _ _ nl0 nl0)) rn0)) Qaq) (slc (Qag (rnc (.plain _ (NLt.fn _ _ _ nl0 nl0)) rn0)) Qaq) (.plain _ nll) rfl rfl rfl, trivial⟩ ?_
    rcases bft (x12) with hc13 | hc13
    ·replace h := Qaw hc13 h
     refine wft hc13 (by kernel_rfl) ?_
     refine wx tbk [] trivial ?_
     refine wmr (mto (n := 19) (l' := [(4, I y3)]) (own' := [Qmi]) [(4, I y3)] [0] [Qmi] hφ0 (pc rwl pn) (qc (spb (lc (.rn (Qav rn0 rn0)) ln)) qn)) ?_
     refine Qad ?_
     refine Qas ?_
     refine Qaf ?_
     refine Qaf ?_
     refine Qas ?_
     refine Qaf ?_
     obtain rfl := osi h
     exact ⟨_, Mor.rfl, Qcz (vs := [I y3]) ⟨rot (by kernel_rfl), trivial⟩ rfl (NLt.of0 nll) (by kernel_rfl) (Qal (Qa4 (nlc (NLt.of0 (NLt.fn _ _ _ nl0 nl0)) nl0)) Qbn)⟩
    ·replace h := Qax hc13 h
     refine wfn hc13 (by kernel_rfl) ?_
     refine Qap ?_
     refine bln ?_
     refine thn ?_
     refine wx1 tbk [] trivial ?_
     refine thn ?_
     exact arm (mto (n := 19) [(0, (Qwf p0)), (1, Q0f), (7, (I ((p0.length : Int)))), (8, (I (w64 (y3 + 1))))] [0] [Qmi] hφ0 (pc (.rn (.plain _ (nld Qab _))) (pc (.rn (Qav rn0 (rnc (rqr rfl) rn0))) (pc rwl (pc rwl pn)))) (qc (spb (lc (.rn (Qav rn0 rn0)) ln)) qn)) (ih (w64 (y3 + 1)) h)
   ·replace h := Qax hc6 h
    refine wfn hc6 (by kernel_rfl) ?_
    refine Qbi ?_
    refine Qay ?_
    refine Qay ?_
    refine Qbh rfl ?_
    refine thn ?_
    exact ⟨(), h, (mto (n := 19) [] [0] [Qmi] hφ0 pn (qc (spb (lc (.rn (Qav rn0 rn0)) ln)) qn))⟩
def Qep (N : Nat) (p0 : (List Int)) : Option Bool :=
  (Qfh N p0).bind fun x3 =>
  some (decide (x3 ≥ 0))
def Zac (p0 : (List Int)) : AV := .dat 1 ((p0 : List Int).map Qaj)
def Zab : AV := .fn (.func 67) [] [(.ref 0 1 (0) 0)]
def Quj : Slot := .own 1 [[(.fn (.func 97) [] [])]]
theorem Qhx (N : Nat) (p0 : (List Int)) (r : Bool) (h : Qep N p0 = some r) : Spec Try.prog 66 [(Zac p0), Zab] [Quj] (B (r)) [Quj] := by
  refine Qak Try.func66 rfl 1 (nle rfl) (fun X φ0 w0 hφ0 hd0 => ?_)
  unfold Qep at h
  refine Qbp ?_
  refine wx tbk [] trivial ?_
  obtain ⟨x3, hf2, h⟩ := bno h
  refine wx tbk [(2, ⟨[fu 86, (.tmp 5, (Zac p0)), (.tmp 6, Zab)], [(0, Quj)], I x3, [(0, Quj)], false⟩)] ⟨Qar (first := []) (cap := []) (vs := [(Zac p0), Zab]) (σr := [Quj]) (σr' := [Quj]) (res' := (I x3)) [0] rfl Qq5 (Qis N p0 _ hf2) rfl (Qbm (rnc (.plain _ (nld Qab _)) (rnc (Qav rn0 (rnc (Qa0 rfl) rn0)) rn0))) (slc (Qag (rnc (.plain _ (NLt.fn _ _ _ nl0 nl0)) rn0)) Qaq) (slc (Qag (rnc (.plain _ (NLt.fn _ _ _ nl0 nl0)) rn0)) Qaq) (.plain _ nll) rfl rfl rfl, trivial⟩ ?_
  refine wmr (mto (n := 9) (l' := [(4, (B ((decide (x3 ≥ 0)))))]) (own' := [Quj]) [(4, (B ((decide (x3 ≥ 0)))))] [0] [Quj] hφ0 (pc rwl pn) (qc (spb (lc (.rn (Qav rn0 rn0)) ln)) qn)) ?_
  refine Qad ?_
  obtain rfl := osi h
  exact ⟨_, Mor.rfl, Qcz (vs := [(B ((decide (x3 ≥ 0))))]) ⟨rot (by kernel_rfl), trivial⟩ rfl (NLt.of0 nll) (by kernel_rfl) (Qal (Qa4 (nlc (NLt.of0 (NLt.fn _ _ _ nl0 nl0)) nl0)) Qbn)⟩
def Qi8 (N : Nat) (p0 : (List Int)) : Option Bool :=
  (Qep N p0).bind fun x2 =>
  some (!x2)
def Zae (p0 : (List Int)) : AV := .dat 1 ((p0 : List Int).map Qaj)
def Zad : AV := .fn (.func 67) [] [(.ref 0 1 (0) 0)]
def Q6d : Slot := .own 1 [[(.fn (.func 97) [] [])]]
theorem Qjt (N : Nat) (p0 : (List Int)) (r : Bool) (h : Qi8 N p0 = some r) : Spec Try.prog 46 [(Zae p0), (.fn (.func 97) [] [])] [] (B (r)) [] := by
  refine Qak Try.func46 rfl 0 (nle rfl) (fun X φ0 w0 hφ0 hd0 => ?_)
  unfold Qi8 at h
  refine wx tbk [] trivial ?_
  obtain ⟨x2, hf1, h⟩ := bno h
  refine wx tbk [(1, rp [(.tmp 3, .ref 0 1 0 0)] Zad), (2, ⟨[fu 66, (.tmp 5, (Zae p0)), (.tmp 6, Zad)], [(0, Q6d)], B x2, [(0, Q6d)], false⟩)] ⟨Qfu (fs := []) (cs := [.ref 0 1 0 0]) rfl rfl rfl rfl, Qar (first := []) (cap := []) (vs := [(Zae p0), Zad]) (σr := [Q6d]) (σr' := [Q6d]) (res' := (B x2)) [0] rfl Qq6 (Qhx N p0 _ hf1) rfl (Qbm (rnc (.plain _ (nld Qab _)) (rnc (Qav rn0 (rnc (Qa0 rfl) rn0)) rn0))) (slc (Qag (rnc (.plain _ (NLt.fn _ _ _ nl0 nl0)) rn0)) Qaq) (slc (Qag (rnc (.plain _ (NLt.fn _ _ _ nl0 nl0)) rn0)) Qaq) (.plain _ nll) rfl rfl rfl, trivial⟩ ?_
  refine Qad ?_
  obtain rfl := osi h
  exact fend ⟨[(B ((!x2)))], ⟨rot (by kernel_rfl), trivial⟩, rfl⟩ nll
def Qkl (_N : Nat) (p0 : Int) : Option Bool :=
  some (decide (p0 > 0))
theorem Qor (N : Nat) (p0 : Int) (r : Bool) (h : Qkl N p0 = some r) : Spec Try.prog 98 [(I p0)] [] (B r) [] := by
  refine Qak Try.func98 rfl 0 (nle rfl) (fun X φ0 w0 hφ0 hd0 => ?_)
  unfold Qkl at h
  refine wx tbk [] trivial ?_
  refine wx tbk [] trivial ?_
  refine Qad ?_
  obtain rfl := osi h
  exact fend ⟨[(B ((decide (p0 > 0))))], ⟨rot (by kernel_rfl), trivial⟩, rfl⟩ nll
def Qcl (N : Nat) (p0 : (List Int)) (k1 : Unit → Option Int) : Nat → Int → Option Int
  | 0, _ => none
  | n4 + 1, y2 =>
    bif (decide (y2 < (p0.length : Int))) then
     (getI p0 y2).bind fun x6 =>
     (Qkl N x6).bind fun x11 =>
     bif x11 then
      some y2
     else
      Qcl N p0 k1 n4 (w64 (y2 + 1))
    else
     k1 ()
def Qfg (N : Nat) (p0 : (List Int)) : Option Int :=
  Qbz (fun _ =>
    some (-1)) fun k1 : Unit → Option Int =>
  Qcl N p0 k1 N 0
def Qwe (p0 : (List Int)) : AV := .dat 1 ((p0 : List Int).map Qaj)
theorem Qir (N : Nat) (p0 : (List Int)) (r : Int) (h : Qfg N p0 = some r) : Spec Try.prog 86 [(Qwe p0), (.fn (.func 98) [] [])] [] (I (r)) [] := by
  refine Qak Try.func86 rfl 0 (nle rfl) (fun X φ0 w0 hφ0 hd0 => ?_)
  unfold Qfg at h
  refine wx tbk [] trivial ?_
  obtain ⟨k1, hk_k1, h⟩ := jko h
  refine wjn (τ := Unit) (fun t => k1 t = some r) (fun _ => ⟨mk 19 [], []⟩) (fun t h => ?_) ?_
  ·subst hk_k1
   refine wx tbk [] trivial ?_
   refine Qad ?_
   obtain rfl := osi h
   exact fend ⟨[(I ((-1)))], ⟨rot (by kernel_rfl), trivial⟩, rfl⟩ nll
  ·skip
   refine wx tbk [(1, rp [(.tmp 6, (Qwe p0))] (I ((p0.length : Int))))] ⟨alm (c := Qaj) (l := p0) (aln rfl Try.underlying27 rfl), trivial⟩ ?_
   refine Qan ?_
   refine wmr (mto (n := 19) (l' := [(0, (Qwe p0)), (1, (.fn (.func 98) [] [])), (7, (I ((p0.length : Int)))), (8, I 0)]) (own' := []) [(0, (Qwe p0)), (1, (.fn (.func 98) [] [])), (7, (I ((p0.length : Int)))), (8, I 0)] [] [] hφ0 (pc (.rn (.plain _ (nld Qab _))) (pc (.rn (Qav rn0 rn0)) (pc rwl (pc rwl pn)))) qn) ?_
   refine Qby (τ := Int) (fun n t => Qcl N p0 k1 n t = some r) (fun y2 => ⟨mk 19 [(0, (Qwe p0)), (1, (.fn (.func 98) [] [])), (7, (I ((p0.length : Int)))), (8, I y2)], []⟩) (fun t h => by rw [Qcl] at h; cases h) (fun n4 ih y2 h => ?_) N (0) h
   rw [Qcl] at h
   skip
   refine wx tbk [] trivial ?_
   refine wsq ?_
   rcases bft ((decide (y2 < (p0.length : Int)))) with hc5 | hc5
   ·replace h := Qaw hc5 h
    refine wft hc5 (by kernel_rfl) ?_
    refine Qap ?_
    refine thn ?_
    refine wsq ?_
    refine Qan ?_
    refine wx tbk [] trivial ?_
    obtain ⟨x6, hg7, h⟩ := bno h
    obtain ⟨hi8, hj9⟩ := gsm hg7
    obtain ⟨x11, hf10, h⟩ := bno h
    refine wx tbk [(3, rp [(.tmp 12, (Qwe p0)), (.tmp 13, I y2)] (.dptr (Qaj (x6)) 0)), (5, rp [(.tmp 11, (.fn (.func 98) [] [])), (.tmp 15, I x6)] (B x11))] ⟨aid rfl Try.underlying27 ti3 rfl rfl hi8 (mgt Qaj hj9) rfl, apc (first := []) (cap := []) (vs := [I x6]) rfl Zbu (Qor N x6 _ hf10) rfl rfl (nlc nll nl0) nll rfl, trivial⟩ ?_
    rcases bft (x11) with hc12 | hc12
    ·replace h := Qaw hc12 h
     refine wft hc12 (by kernel_rfl) ?_
     refine wx tbk [] trivial ?_
     refine Qad ?_
     refine Qas ?_
     refine Qaf ?_
     refine Qaf ?_
     refine Qas ?_
     refine Qaf ?_
     obtain rfl := osi h
     exact fend ⟨[I y2], ⟨rot (by kernel_rfl), trivial⟩, rfl⟩ nll
    ·replace h := Qax hc12 h
     refine wfn hc12 (by kernel_rfl) ?_
     refine Qap ?_
     refine bln ?_
     refine thn ?_
     refine wx1 tbk [] trivial ?_
     refine thn ?_
     exact arm (mto (n := 19) [(0, (Qwe p0)), (1, (.fn (.func 98) [] [])), (7, (I ((p0.length : Int)))), (8, (I (w64 (y2 + 1))))] [] [] hφ0 (pc (.rn (.plain _ (nld Qab _))) (pc (.rn (Qav rn0 rn0)) (pc rwl (pc rwl pn)))) qn) (ih (w64 (y2 + 1)) h)
   ·replace h := Qax hc5 h
    refine wfn hc5 (by kernel_rfl) ?_
    refine Qbi ?_
    refine Qay ?_
    refine Qay ?_
    refine Qbh rfl ?_
    refine thn ?_
    exact ⟨(), h, (mto (n := 19) [] [] [] hφ0 pn qn)⟩
def Qeo (N : Nat) (p0 : (List Int)) : Option Bool :=
  (Qfg N p0).bind fun x2 =>
  some (decide (x2 ≥ 0))
def Zaa (p0 : (List Int)) : AV := .dat 1 ((p0 : List Int).map Qaj)
theorem Qhw (N : Nat) (p0 : (List Int)) (r : Bool) (h : Qeo N p0 = some r) : Spec Try.prog 66 [(Zaa p0), (.fn (.func 98) [] [])] [] (B (r)) [] := by
  refine Qak Try.func66 rfl 0 (nle rfl) (fun X φ0 w0 hφ0 hd0 => ?_)
  unfold Qeo at h
  refine wx tbk [] trivial ?_
  obtain ⟨x2, hf1, h⟩ := bno h
  refine wx tbk [(2, rp [fu 86, (.tmp 5, (Zaa p0)), (.tmp 6, (.fn (.func 98) [] []))] (I x2))] ⟨Qar (first := []) (cap := []) (vs := [(Zaa p0), (.fn (.func 98) [] [])]) (σr := []) (σr' := []) (res' := (I x2)) [] rfl Qq5 (Qir N p0 _ hf1) rfl (Qbm (rnc (.plain _ (nld Qab _)) (rnc (.plain _ (NLt.fn _ _ _ nl0 nl0)) rn0))) Qaq Qaq (.plain _ nll) rfl rfl rfl, trivial⟩ ?_
  refine Qad ?_
  obtain rfl := osi h
  exact fend ⟨[(B ((decide (x2 ≥ 0))))], ⟨rot (by kernel_rfl), trivial⟩, rfl⟩ nll
def Qg8 (_N : Nat) (p0 : Int) (p1 : Int) (p2 : Int) : Option Int :=
  chk (p2 != 0) <|
  some ((w64 (p1 * p0)).tmod p2)
theorem Qjg (N : Nat) (p0 : Int) (p1 : Int) (p2 : Int) (r : Int) (h : Qg8 N p0 p1 p2 = some r) : Spec Try.prog 103 [(I (p0)), (.ref 0 1 (0) 0), (.ref 1 1 (0) 0)] [(.own 1 [[(I (p1))]]), (.own 1 [[(I (p2))]])] (I (r)) [(.own 1 [[(I (p1))]]), (.own 1 [[(I (p2))]])] := by
  refine Qak Try.func103 rfl 2 (nle rfl) (fun X φ0 w0 hφ0 hd0 => ?_)
  unfold Qg8 at h
  refine Qbp ?_
  refine wx tbk [] trivial ?_
  obtain ⟨hz2, h⟩ := cko h
  refine wx tbk [(4, rp [(.tmp 7, (I (w64 (p1 * p0)))), (.tmp 8, I p2)] (I ((w64 (p1 * p0)).tmod p2)))] ⟨Q5d rfl (Qo4 hz2), trivial⟩ ?_
  refine wmr (mto (n := 10) (l' := [(4, (I ((w64 (p1 * p0)).tmod p2)))]) (own' := [(.own 1 [[I p1]]), (.own 1 [[I p2]])]) [(4, (I ((w64 (p1 * p0)).tmod p2)))] [0, 1] [(.own 1 [[I p1]]), (.own 1 [[I p2]])] hφ0 (pc rwl pn) (qc (spb (lc rwl ln)) (qc (spb (lc rwl ln)) qn))) ?_
  refine Qad ?_
  obtain rfl := osi h
  exact ⟨_, Mor.rfl, Qcz (vs := [(I ((w64 (p1 * p0)).tmod p2))]) ⟨rot (by kernel_rfl), trivial⟩ rfl (NLt.of0 nll) (by kernel_rfl) (Qal (Qa4 (nlc (NLt.of0 nll) nl0)) (Qal (Qa4 (nlc (NLt.of0 nll) nl0)) Qbn))⟩
def Qdt (N : Nat) (p0 : Int) (p1 : Int) (p2 : (List Int)) (p3 : Int) (p4 : Int) : Option Int :=
  (getI p2 p1).bind fun x2 =>
  (Qg8 N x2 p3 p4).bind fun x7 =>
  (getI p2 p0).bind fun x8 =>
  (Qg8 N x8 p3 p4).bind fun x13 =>
  some (w64 (x7 - x13))
def Q0e : AV := .fn (.func 103) [] [(.ref 2 1 (0) 0), (.ref 3 1 (0) 0)]
def Q0d (p2 : (List Int)) : AV := .dat 1 ((p2 : List Int).map Qaj)
theorem Qes (N : Nat) (p0 : Int) (p1 : Int) (p2 : (List Int)) (p3 : Int) (p4 : Int) (r : Int) (h : Qdt N p0 p1 p2 p3 p4 = some r) : Spec Try.prog 107 [(I (p0)), (I (p1)), (.ref 0 1 (0) 0), (.ref 1 1 (0) 0)] [(.own 1 [[Q0e]]), (.own 1 [[(Q0d p2)]]), (.own 1 [[(I (p3))]]), (.own 1 [[(I (p4))]])] (I (r)) [(.own 1 [[Q0e]]), (.own 1 [[(Q0d p2)]]), (.own 1 [[(I (p3))]]), (.own 1 [[(I (p4))]])] := by
  refine Qak Try.func107 rfl 4 (nle rfl) (fun X φ0 w0 hφ0 hd0 => ?_)
  unfold Qdt at h
  refine Qbp ?_
  refine wx tbk [] trivial ?_
  obtain ⟨x2, hg3, h⟩ := bno h
  obtain ⟨hi4, hj5⟩ := gsm hg3
  obtain ⟨x7, hf6, h⟩ := bno h
  obtain ⟨x8, hg9, h⟩ := bno h
  obtain ⟨hi10, hj11⟩ := gsm hg9
  obtain ⟨x13, hf12, h⟩ := bno h
  refine wxd tbk [(3, rp [(.tmp 8, (Q0d p2)), (.tmp 9, I p1)] (.dptr (Qaj (x2)) 0)), (5, ⟨[(.tmp 7, Q0e), (.tmp 11, I x2)], [(2, .own 1 [[I p3]]), (3, .own 1 [[I p4]])], I x7, [(2, .own 1 [[I p3]]), (3, .own 1 [[I p4]])], false⟩), (9, rp [(.tmp 14, (Q0d p2)), (.tmp 15, I p0)] (.dptr (Qaj (x8)) 0)), (11, ⟨[(.tmp 13, Q0e), (.tmp 17, I x8)], [(2, .own 1 [[I p3]]), (3, .own 1 [[I p4]])], I x13, [(2, .own 1 [[I p3]]), (3, .own 1 [[I p4]])], false⟩)] ⟨aid rfl Try.underlying27 ti3 rfl rfl hi4 (mgt Qaj hj5) rfl, Qar (first := []) (cap := [.ref 2 1 0 0, .ref 3 1 0 0]) (vs := [I x2]) (σr := [(.own 1 [[I p3]]), (.own 1 [[I p4]])]) (σr' := [(.own 1 [[I p3]]), (.own 1 [[I p4]])]) (res' := (I x7)) [2, 3] rfl Qzl (Qjg N x2 p3 p4 _ hf6) rfl (Qbm (rnc (.plain _ nll) (rnc (Qa0 rfl) (rnc (Qa0 rfl) rn0)))) (slc (Qag (rnc (.plain _ nll) rn0)) (slc (Qag (rnc (.plain _ nll) rn0)) Qaq)) (slc (Qag (rnc (.plain _ nll) rn0)) (slc (Qag (rnc (.plain _ nll) rn0)) Qaq)) (.plain _ nll) rfl rfl rfl, aid rfl Try.underlying27 ti3 rfl rfl hi10 (mgt Qaj hj11) rfl, Qar (first := []) (cap := [.ref 2 1 0 0, .ref 3 1 0 0]) (vs := [I x8]) (σr := [(.own 1 [[I p3]]), (.own 1 [[I p4]])]) (σr' := [(.own 1 [[I p3]]), (.own 1 [[I p4]])]) (res' := (I x13)) [2, 3] rfl Qzl (Qjg N x8 p3 p4 _ hf12) rfl (Qbm (rnc (.plain _ nll) (rnc (Qa0 rfl) (rnc (Qa0 rfl) rn0)))) (slc (Qag (rnc (.plain _ nll) rn0)) (slc (Qag (rnc (.plain _ nll) rn0)) Qaq)) (slc (Qag (rnc (.plain _ nll) rn0)) (slc (Qag (rnc (.plain _ nll) rn0)) Qaq)) (.plain _ nll) rfl rfl rfl, trivial⟩ ?_
  refine wmr (mto (n := 20) (l' := [(6, (I (w64 (x7 - x13))))]) (own' := [(.own 1 [[Q0e]]), (.own 1 [[(Q0d p2)]]), (.own 1 [[I p3]]), (.own 1 [[I p4]])]) [(6, (I (w64 (x7 - x13))))] [0, 1, 2, 3] [(.own 1 [[Q0e]]), (.own 1 [[(Q0d p2)]]), (.own 1 [[I p3]]), (.own 1 [[I p4]])] hφ0 (pc rwl pn) (qc (spb (lc (.rn (Qav rn0 (rnc (rqr rfl) (rnc (rqr rfl) rn0)))) ln)) (qc (spb (lc (.rn (.plain _ (nld Qab _))) ln)) (qc (spb (lc rwl ln)) (qc (spb (lc rwl ln)) qn))))) ?_
  refine Qad ?_
  obtain rfl := osi h
  exact ⟨_, Mor.rfl, Qcz (vs := [(I (w64 (x7 - x13)))]) ⟨rot (by kernel_rfl), trivial⟩ rfl (NLt.of0 nll) (by kernel_rfl) (Qal (Qa4 (nlc (NLt.fn _ _ _ nl0 (nlc (NLt.ref _ _ _ _ (by decide)) (nlc (NLt.ref _ _ _ _ (by decide)) nl0))) nl0)) (Qal (Qa4 (nlc (NLt.of0 (nld Qab _)) nl0)) (Qal (Qa4 (nlc (NLt.of0 nll) nl0)) (Qal (Qa4 (nlc (NLt.of0 nll) nl0)) Qbn))))⟩
def Qbu (N : Nat) (p0 : Nat) (p1 : Int) (p4 : (List Int)) (p5 : Int) (p6 : Int) (k9 : (List Int) → Option (List Int)) : Nat → Int → (List Int) → Option (List Int)
  | 0, _, _ => none
  | n14 + 1, y10, y11 =>
    Qbz (fun _ =>
      chk (decide (0 ≤ w64 (y10 - 1)) && decide ((w64 (y10 - 1)).toNat < p0)) <|
      (y11[(w64 (y10 - 1)).toNat]?).bind fun x17 =>
      chk (decide (0 ≤ y10) && decide (y10.toNat < p0)) <|
      (y11[y10.toNat]?).bind fun x20 =>
      chk (decide (0 ≤ y10) && decide (y10.toNat < p0)) <|
      (y11[y10.toNat]?).bind fun _ =>
      chk (decide (0 ≤ w64 (y10 - 1)) && decide ((w64 (y10 - 1)).toNat < p0)) <|
      ((y11.set y10.toNat x17)[(w64 (y10 - 1)).toNat]?).bind fun _ =>
      Qbu N p0 p1 p4 p5 p6 k9 n14 (w64 (y10 - 1)) ((y11.set y10.toNat x17).set ((w64 (y10 - 1)).toNat) x20)) fun k15 : Unit → Option (List Int) =>
    bif (decide (y10 > p1)) then
     chk (decide (0 ≤ y10) && decide (y10.toNat < p0)) <|
     (y11[y10.toNat]?).bind fun x30 =>
     chk (decide (0 ≤ w64 (y10 - 1)) && decide ((w64 (y10 - 1)).toNat < p0)) <|
     (y11[(w64 (y10 - 1)).toNat]?).bind fun x33 =>
     (Qdt N x30 x33 p4 p5 p6).bind fun x36 =>
     bif (decide (x36 < 0)) then
      k15 ()
     else
      k9 (y11)
    else
     k9 (y11)
def Qbv (N : Nat) (p0 : Nat) (p1 : Int) (p2 : Int) (p4 : (List Int)) (p5 : Int) (p6 : Int) : Nat → Int → (List Int) → Option (List Int)
  | 0, _, _ => none
  | n6 + 1, y2, y3 =>
    bif (decide (y2 < p2)) then
     Qbz (fun y8 =>
       Qbv N p0 p1 p2 p4 p5 p6 n6 (w64 (y2 + 1)) y8) fun k9 : (List Int) → Option (List Int) =>
     Qbu N p0 p1 p4 p5 p6 k9 N y2 y3
    else
     some y3
def Qda (N : Nat) (p0 : Nat) (p1 : Int) (p2 : Int) (p3 : (List Int)) (p4 : (List Int)) (p5 : Int) (p6 : Int) : Option (List Int) :=
  Qbv N p0 p1 p2 p4 p5 p6 N (w64 (p1 + 1)) p3
def Qm2 : AV := .fn (.func 107) [] [(.ref 1 1 (0) 0), (.ref 2 1 (0) 0)]
def Q95 (p3 : (List Int)) : Slot := .own 1 ((p3 : List Int).map Qaj)
def Qkh : AV := .fn (.func 103) [] [(.ref 3 1 (0) 0), (.ref 4 1 (0) 0)]
def Qkg (p4 : (List Int)) : AV := .dat 1 ((p4 : List Int).map Qaj)
def Q2q (y3 : (List Int)) : Slot := .own 1 ((y3 : List Int).map Qaj)
def Qjq (y11 : (List Int)) : Slot := .own 1 ((y11 : List Int).map Qaj)
theorem Qe0 (N : Nat) (p0 : Nat) (p1 : Int) (p2 : Int) (p3 : (List Int)) (p4 : (List Int)) (p5 : Int) (p6 : Int) (r : (List Int)) (h : Qda N p0 p1 p2 p3 p4 p5 p6 = some r) : Spec Try.prog 109 [(.own 0 1 (0) (p0)), (I (p1)), (I (p2)), Qm2] [(Q95 p3), (.own 1 [[Qkh]]), (.own 1 [[(Qkg p4)]]), (.own 1 [[(I (p5))]]), (.own 1 [[(I (p6))]])] (.tup []) [(.own 1 ((r : List Int).map Qaj)), (.own 1 [[Qkh]]), (.own 1 [[(Qkg p4)]]), (.own 1 [[(I (p5))]]), (.own 1 [[(I (p6))]])] := by
  refine Qak Try.func109 rfl 5 (nle rfl) (fun X φ0 w0 hφ0 hd0 => ?_)
  unfold Qda at h
  refine Qbp ?_
  refine wx tbk [] trivial ?_
  refine Qan ?_
  refine wmr (mto (n := 53) (l' := [(0, (.own 0 1 (0) (p0))), (1, I p1), (2, I p2), (3, Qm2), (8, (I ((w64 (p1 + 1)))))]) (own' := [(Q95 p3), (.own 1 [[Qkh]]), (.own 1 [[(Qkg p4)]]), (.own 1 [[I p5]]), (.own 1 [[I p6]])]) [(0, (.own 0 1 (0) (p0))), (1, I p1), (2, I p2), (3, Qm2), (8, (I (w64 (p1 + 1))))] [0, 1, 2, 3, 4] [(Q95 p3), (.own 1 [[Qkh]]), (.own 1 [[(Qkg p4)]]), (.own 1 [[I p5]]), (.own 1 [[I p6]])] hφ0 (pc (.rn (Qaz rfl)) (pc rwl (pc rwl (pc (.rn (Qav rn0 (rnc (rqr rfl) (rnc (rqr rfl) rn0)))) (pc rwl pn))))) (qc (spr Qab) (qc (spb (lc (.rn (Qav rn0 (rnc (rqr rfl) (rnc (rqr rfl) rn0)))) ln)) (qc (spb (lc (.rn (.plain _ (nld Qab _))) ln)) (qc (spb (lc rwl ln)) (qc (spb (lc rwl ln)) qn)))))) ?_
  refine Qby (τ := Int × (List Int)) (fun n t => Qbv N p0 p1 p2 p4 p5 p6 n t.1 t.2 = some r) (fun ⟨y2, y3⟩ => ⟨mk 53 [(0, (.own 0 1 (0) (p0))), (1, I p1), (2, I p2), (3, Qm2), (8, I y2)], [(Q2q y3), (.own 1 [[Qkh]]), (.own 1 [[(Qkg p4)]]), (.own 1 [[I p5]]), (.own 1 [[I p6]])]⟩) (fun t h => by rw [Qbv] at h; cases h) (fun n6 ih t h => ?_) N (w64 (p1 + 1), p3) h
  obtain ⟨y2, y3⟩ := t
  rw [Qbv] at h
  skip
  refine wsq ?_
  refine wx tbk [] trivial ?_
  rcases bft ((decide (y2 < p2))) with hc7 | hc7
  ·replace h := Qaw hc7 h
   refine wft hc7 (by kernel_rfl) ?_
   refine Qap ?_
   refine thn ?_
   obtain ⟨k9, hk_k9, h⟩ := jko h
   refine wjn (τ := (List Int)) (fun t => k9 t = some r) (fun y8 => ⟨mk 53 [(0, (.own 0 1 (0) (p0))), (1, I p1), (2, I p2), (3, Qm2), (8, I y2)], [(.own 1 ((y8 : List Int).map Qaj)), (.own 1 [[Qkh]]), (.own 1 [[(Qkg p4)]]), (.own 1 [[I p5]]), (.own 1 [[I p6]])]⟩) (fun y8 h => ?_) ?_
   ·subst hk_k9
    refine wx1 tbk [] trivial ?_
    refine thn ?_
    exact arm (mto (n := 53) [(0, (.own 0 1 (0) (p0))), (1, I p1), (2, I p2), (3, Qm2), (8, (I (w64 (y2 + 1))))] [0, 1, 2, 3, 4] [(.own 1 ((y8 : List Int).map Qaj)), (.own 1 [[Qkh]]), (.own 1 [[(Qkg p4)]]), (.own 1 [[I p5]]), (.own 1 [[I p6]])] hφ0 (pc (.rn (Qaz rfl)) (pc rwl (pc rwl (pc (.rn (Qav rn0 (rnc (rqr rfl) (rnc (rqr rfl) rn0)))) (pc rwl pn))))) (qc (spr Qab) (qc (spb (lc (.rn (Qav rn0 (rnc (rqr rfl) (rnc (rqr rfl) rn0)))) ln)) (qc (spb (lc (.rn (.plain _ (nld Qab _))) ln)) (qc (spb (lc rwl ln)) (qc (spb (lc rwl ln)) qn)))))) (ih (w64 (y2 + 1), y8) h)
   ·skip
    refine Qan ?_
    refine wx tbk [] trivial ?_
    refine Qan ?_
    refine wmr (mto (n := 53) (l' := [(0, (.own 0 1 (0) (p0))), (1, I p1), (2, I p2), (3, Qm2), (8, I y2), (9, I y2)]) (own' := [(Q2q y3), (.own 1 [[Qkh]]), (.own 1 [[(Qkg p4)]]), (.own 1 [[I p5]]), (.own 1 [[I p6]])]) [(0, (.own 0 1 (0) (p0))), (1, I p1), (2, I p2), (3, Qm2), (8, I y2), (9, I y2)] [0, 1, 2, 3, 4] [(Q2q y3), (.own 1 [[Qkh]]), (.own 1 [[(Qkg p4)]]), (.own 1 [[I p5]]), (.own 1 [[I p6]])] hφ0 (pc (.rn (Qaz rfl)) (pc rwl (pc rwl (pc (.rn (Qav rn0 (rnc (rqr rfl) (rnc (rqr rfl) rn0)))) (pc rwl (pc rwl pn)))))) (qc (spr Qab) (qc (spb (lc (.rn (Qav rn0 (rnc (rqr rfl) (rnc (rqr rfl) rn0)))) ln)) (qc (spb (lc (.rn (.plain _ (nld Qab _))) ln)) (qc (spb (lc rwl ln)) (qc (spb (lc rwl ln)) qn)))))) ?_
    refine Qby (τ := Int × (List Int)) (fun n t => Qbu N p0 p1 p4 p5 p6 k9 n t.1 t.2 = some r) (fun ⟨y10, y11⟩ => ⟨mk 53 [(0, (.own 0 1 (0) (p0))), (1, I p1), (2, I p2), (3, Qm2), (8, I y2), (9, I y10)], [(Qjq y11), (.own 1 [[Qkh]]), (.own 1 [[(Qkg p4)]]), (.own 1 [[I p5]]), (.own 1 [[I p6]])]⟩) (fun t h => by rw [Qbu] at h; cases h) (fun n14 ih t h => ?_) N (y2, y3) h
    obtain ⟨y10, y11⟩ := t
    rw [Qbu] at h
    skip
    obtain ⟨k15, hk_k15, h⟩ := jko h
    refine wjn (τ := Unit) (fun t => k15 t = some r) (fun _ => ⟨mk 53 [(0, (.own 0 1 (0) (p0))), (1, I p1), (2, I p2), (3, Qm2), (8, I y2), (9, I y10)], [(Qjq y11), (.own 1 [[Qkh]]), (.own 1 [[(Qkg p4)]]), (.own 1 [[I p5]]), (.own 1 [[I p6]])]⟩) (fun t h => ?_) ?_
    ·subst hk_k15
     refine wsq ?_
     refine Qan ?_
     obtain ⟨hi16, h⟩ := cko h
     obtain ⟨hi16a, hi16b⟩ := Qcy hi16
     obtain ⟨x17, hg18, h⟩ := bno h
     obtain ⟨hi19, h⟩ := cko h
     obtain ⟨hi19a, hi19b⟩ := Qcy hi19
     obtain ⟨x20, hg21, h⟩ := bno h
     obtain ⟨hi22, h⟩ := cko h
     obtain ⟨hi22a, hi22b⟩ := Qcy hi22
     obtain ⟨x23, hg24, h⟩ := bno h
     obtain ⟨hi25, h⟩ := cko h
     obtain ⟨hi25a, hi25b⟩ := Qcy hi25
     obtain ⟨x26, hg27, h⟩ := bno h
     refine wy1 tbk [(8, rb [(.tmp 42, (.own 0 1 (0) (p0))), (.tmp 44, (I (w64 (y10 - 1))))] [(0, (Qjq y11))] (.ref 0 1 ((w64 (y10 - 1)).toNat) 0)), (9, rb [(.tmp 45, (.ref 0 1 ((w64 (y10 - 1)).toNat) 0))] [(0, (Qjq y11))] (I x17)), (12, rb [(.tmp 47, (.own 0 1 (0) (p0))), (.tmp 48, I y10)] [(0, (Qjq y11))] (.ref 0 1 (y10.toNat) 0)), (13, rb [(.tmp 49, (.ref 0 1 (y10.toNat) 0))] [(0, (Qjq y11))] (I x20)), (14, rb [(.tmp 37, (.own 0 1 (0) (p0))), (.tmp 38, I y10)] [(0, (Qjq y11))] (.ref 0 1 (y10.toNat) 0)), (15, ⟨[(.tmp 51, (.ref 0 1 (y10.toNat) 0)), (.tmp 46, I x17)], [(0, (Qjq y11))], .any, [(0, (.own 1 ((y11.set y10.toNat x17 : List Int).map Qaj)))], false⟩), (16, rb [(.tmp 39, (.own 0 1 (0) (p0))), (.tmp 41, (I (w64 (y10 - 1))))] [(0, (.own 1 ((y11.set y10.toNat x17 : List Int).map Qaj)))] (.ref 0 1 ((w64 (y10 - 1)).toNat) 0)), (17, ⟨[(.tmp 52, (.ref 0 1 ((w64 (y10 - 1)).toNat) 0)), (.tmp 50, I x20)], [(0, (.own 1 ((y11.set y10.toNat x17 : List Int).map Qaj)))], .any, [(0, (.own 1 (((y11.set y10.toNat x17).set ((w64 (y10 - 1)).toNat) x20 : List Int).map Qaj)))], false⟩)] ⟨aio rfl Try.underlying27 ti3 (odt hi16a) (odt hi16b) (Nat.zero_add _), ald rfl ti3 (by decide) (mgt Qaj hg18) (nle rfl) rfl, aio rfl Try.underlying27 ti3 (odt hi19a) (odt hi19b) (Nat.zero_add _), ald rfl ti3 (by decide) (mgt Qaj hg21) (nle rfl) rfl, aio rfl Try.underlying27 ti3 (odt hi22a) (odt hi22b) (Nat.zero_add _), ast rfl ti3 (by rfl) (mgt Qaj hg24) (nle rfl) (Qfs Qaj rfl), aio rfl Try.underlying27 ti3 (odt hi25a) (odt hi25b) (Nat.zero_add _), ast rfl ti3 (by rfl) (mgt Qaj hg27) (nle rfl) (Qfs Qaj rfl), trivial⟩ ?_
     refine bln ?_
     refine thn ?_
     refine wx1 tbk [] trivial ?_
     refine thn ?_
     exact arm (mto (n := 53) [(0, (.own 0 1 (0) (p0))), (1, I p1), (2, I p2), (3, Qm2), (8, I y2), (9, (I (w64 (y10 - 1))))] [0, 1, 2, 3, 4] [(.own 1 (((y11.set y10.toNat x17).set ((w64 (y10 - 1)).toNat) x20 : List Int).map Qaj)), (.own 1 [[Qkh]]), (.own 1 [[(Qkg p4)]]), (.own 1 [[I p5]]), (.own 1 [[I p6]])] hφ0 (pc (.rn (Qaz rfl)) (pc rwl (pc rwl (pc (.rn (Qav rn0 (rnc (rqr rfl) (rnc (rqr rfl) rn0)))) (pc rwl (pc rwl pn)))))) (qc (spr Qab) (qc (spb (lc (.rn (Qav rn0 (rnc (rqr rfl) (rnc (rqr rfl) rn0)))) ln)) (qc (spb (lc (.rn (.plain _ (nld Qab _))) ln)) (qc (spb (lc rwl ln)) (qc (spb (lc rwl ln)) qn)))))) (ih (w64 (y10 - 1), (y11.set y10.toNat x17).set ((w64 (y10 - 1)).toNat) x20) h)
    ·skip
     rcases bft ((decide (y10 > p1))) with hb28 | hb28
     ·replace h := Qaw hb28 h
      obtain ⟨hi29, h⟩ := cko h
      obtain ⟨hi29a, hi29b⟩ := Qcy hi29
      obtain ⟨x30, hg31, h⟩ := bno h
      obtain ⟨hi32, h⟩ := cko h
      obtain ⟨hi32a, hi32b⟩ := Qcy hi32
      obtain ⟨x33, hg34, h⟩ := bno h
      obtain ⟨x36, hf35, h⟩ := bno h
      refine wxd tbk [(3, rp [(.tmp 20, (B ((decide (y10 > p1)))))] (B true)), (7, rb [(.tmp 21, B true), (.tmp 23, (.own 0 1 (0) (p0))), (.tmp 24, I y10)] [(0, (Qjq y11))] (.ref 0 1 (y10.toNat) 0)), (8, rb [(.tmp 21, B true), (.tmp 25, (.ref 0 1 (y10.toNat) 0))] [(0, (Qjq y11))] (I x30)), (12, rb [(.tmp 21, B true), (.tmp 27, (.own 0 1 (0) (p0))), (.tmp 29, (I (w64 (y10 - 1))))] [(0, (Qjq y11))] (.ref 0 1 ((w64 (y10 - 1)).toNat) 0)), (13, rb [(.tmp 21, B true), (.tmp 30, (.ref 0 1 ((w64 (y10 - 1)).toNat) 0))] [(0, (Qjq y11))] (I x33)), (14, ⟨[(.tmp 21, B true), (.tmp 22, Qm2), (.tmp 26, I x30), (.tmp 31, I x33)], [(1, .own 1 [[Qkh]]), (2, (.own 1 [[(Qkg p4)]])), (3, .own 1 [[I p5]]), (4, .own 1 [[I p6]])], I x36, [(1, .own 1 [[Qkh]]), (2, (.own 1 [[(Qkg p4)]])), (3, .own 1 [[I p5]]), (4, .own 1 [[I p6]])], false⟩)] ⟨asb hb28 (amv rfl), ag_ (aio rfl Try.underlying27 ti3 (odt hi29a) (odt hi29b) (Nat.zero_add _)), ag_ (ald rfl ti3 (by decide) (mgt Qaj hg31) (nle rfl) rfl), ag_ (aio rfl Try.underlying27 ti3 (odt hi32a) (odt hi32b) (Nat.zero_add _)), ag_ (ald rfl ti3 (by decide) (mgt Qaj hg34) (nle rfl) rfl), ag_ (Qar (first := []) (cap := [.ref 1 1 0 0, .ref 2 1 0 0]) (vs := [I x30, I x33]) (σr := [(.own 1 [[Qkh]]), (.own 1 [[(Qkg p4)]]), (.own 1 [[I p5]]), (.own 1 [[I p6]])]) (σr' := [(.own 1 [[Qkh]]), (.own 1 [[(Qkg p4)]]), (.own 1 [[I p5]]), (.own 1 [[I p6]])]) (res' := (I x36)) [1, 2, 3, 4] rfl Qp6 (Qes N x30 x33 p4 p5 p6 _ hf35) rfl (Qbm (rnc (.plain _ nll) (rnc (.plain _ nll) (rnc (Qa0 rfl) (rnc (Qa0 rfl) rn0))))) (slc (Qag (rnc (Qav rn0 (rnc (Qa0 rfl) (rnc (Qa0 rfl) rn0))) rn0)) (slc (Qag (rnc (.plain _ (nld Qab _)) rn0)) (slc (Qag (rnc (.plain _ nll) rn0)) (slc (Qag (rnc (.plain _ nll) rn0)) Qaq)))) (slc (Qag (rnc (Qav rn0 (rnc (Qbb rfl) (rnc (Qbb rfl) rn0))) rn0)) (slc (Qag (rnc (.plain _ (nld Qab _)) rn0)) (slc (Qag (rnc (.plain _ nll) rn0)) (slc (Qag (rnc (.plain _ nll) rn0)) Qaq)))) (.plain _ nll) rfl rfl rfl), trivial⟩ ?_
      rcases bft ((decide (x36 < 0))) with hc37 | hc37
      ·replace h := Qaw hc37 h
       refine wft hc37 (by kernel_rfl) ?_
       refine Qap ?_
       refine thn ?_
       exact ⟨(), h, (mto (n := 53) [(0, (.own 0 1 (0) (p0))), (1, I p1), (2, I p2), (3, Qm2), (8, I y2), (9, I y10)] [0, 1, 2, 3, 4] [(Qjq y11), (.own 1 [[Qkh]]), (.own 1 [[(Qkg p4)]]), (.own 1 [[I p5]]), (.own 1 [[I p6]])] hφ0 (pc (.rn (Qaz rfl)) (pc rwl (pc rwl (pc (.rn (Qav rn0 (rnc (rqr rfl) (rnc (rqr rfl) rn0)))) (pc rwl (pc rwl pn)))))) (qc (spr Qab) (qc (spb (lc (.rn (Qav rn0 (rnc (rqr rfl) (rnc (rqr rfl) rn0)))) ln)) (qc (spb (lc (.rn (.plain _ (nld Qab _))) ln)) (qc (spb (lc rwl ln)) (qc (spb (lc rwl ln)) qn))))))⟩
      ·replace h := Qax hc37 h
       refine wfn hc37 (by kernel_rfl) ?_
       refine Qbi ?_
       refine Qay ?_
       refine Qay ?_
       refine Qbh rfl ?_
       refine bln ?_
       refine thn ?_
       exact ⟨(y11), h, (mto (n := 53) [(0, (.own 0 1 (0) (p0))), (1, I p1), (2, I p2), (3, Qm2), (8, I y2)] [0, 1, 2, 3, 4] [(Qjq y11), (.own 1 [[Qkh]]), (.own 1 [[(Qkg p4)]]), (.own 1 [[I p5]]), (.own 1 [[I p6]])] hφ0 (pc (.rn (Qaz rfl)) (pc rwl (pc rwl (pc (.rn (Qav rn0 (rnc (rqr rfl) (rnc (rqr rfl) rn0)))) (pc rwl pn))))) (qc (spr Qab) (qc (spb (lc (.rn (Qav rn0 (rnc (rqr rfl) (rnc (rqr rfl) rn0)))) ln)) (qc (spb (lc (.rn (.plain _ (nld Qab _))) ln)) (qc (spb (lc rwl ln)) (qc (spb (lc rwl ln)) qn))))))⟩
     ·replace h := Qax hb28 h
      refine wxd tbk [(3, rp [(.tmp 20, (B ((decide (y10 > p1)))))] (B false))] ⟨asb hb28 (amv rfl), trivial⟩ ?_
      refine Qgt (by kernel_rfl) ?_
      refine Qbi ?_
      refine Qay ?_
      refine Qay ?_
      refine Qbh rfl ?_
      refine bln ?_
      refine thn ?_
      exact ⟨(y11), h, (mto (n := 53) [(0, (.own 0 1 (0) (p0))), (1, I p1), (2, I p2), (3, Qm2), (8, I y2)] [0, 1, 2, 3, 4] [(Qjq y11), (.own 1 [[Qkh]]), (.own 1 [[(Qkg p4)]]), (.own 1 [[I p5]]), (.own 1 [[I p6]])] hφ0 (pc (.rn (Qaz rfl)) (pc rwl (pc rwl (pc (.rn (Qav rn0 (rnc (rqr rfl) (rnc (rqr rfl) rn0)))) (pc rwl pn))))) (qc (spr Qab) (qc (spb (lc (.rn (Qav rn0 (rnc (rqr rfl) (rnc (rqr rfl) rn0)))) ln)) (qc (spb (lc (.rn (.plain _ (nld Qab _))) ln)) (qc (spb (lc rwl ln)) (qc (spb (lc rwl ln)) qn))))))⟩
  ·replace h := Qax hc7 h
   refine wfn hc7 (by kernel_rfl) ?_
   refine Qbi ?_
   refine Qay ?_
   refine Qay ?_
   refine Qbh rfl ?_
   obtain rfl := osi h
   exact ⟨_, (mto (n := 53) (l' := []) (own' := [(Q2q y3), (.own 1 [[Qkh]]), (.own 1 [[(Qkg p4)]]), (.own 1 [[I p5]]), (.own 1 [[I p6]])]) [] [0, 1, 2, 3, 4] [(Q2q y3), (.own 1 [[Qkh]]), (.own 1 [[(Qkg p4)]]), (.own 1 [[I p5]]), (.own 1 [[I p6]])] hφ0 pn (qc (spr Qab) (qc (spb (lc (.rn (Qav rn0 (rnc (rqr rfl) (rnc (rqr rfl) rn0)))) ln)) (qc (spb (lc (.rn (.plain _ (nld Qab _))) ln)) (qc (spb (lc rwl ln)) (qc (spb (lc rwl ln)) qn)))))), Qcz (vs := []) trivial rfl (NLt.tup _ nl0) (by kernel_rfl) (Qal (Qb0 Qab _) (Qal (Qa4 (nlc (NLt.fn _ _ _ nl0 (nlc (NLt.ref _ _ _ _ (by decide)) (nlc (NLt.ref _ _ _ _ (by decide)) nl0))) nl0)) (Qal (Qa4 (nlc (NLt.of0 (nld Qab _)) nl0)) (Qal (Qa4 (nlc (NLt.of0 nll) nl0)) (Qal (Qa4 (nlc (NLt.of0 nll) nl0)) Qbn)))))⟩
def Qca (N : Nat) (p0 : Nat) (p1 : Int) (p2 : Int) (p3 : Int) : Nat → Int → (List Int) → Option (List Int)
  | 0, _, _ => none
  | n6 + 1, y2, y3 =>
    bif (decide (y2 < p3)) then
     chk (decide (0 ≤ w64 (p2 + y2)) && decide ((w64 (p2 + y2)).toNat < p0)) <|
     (y3[(w64 (p2 + y2)).toNat]?).bind fun x9 =>
     chk (decide (0 ≤ w64 (p1 + y2)) && decide ((w64 (p1 + y2)).toNat < p0)) <|
     (y3[(w64 (p1 + y2)).toNat]?).bind fun x12 =>
     chk (decide (0 ≤ w64 (p1 + y2)) && decide ((w64 (p1 + y2)).toNat < p0)) <|
     (y3[(w64 (p1 + y2)).toNat]?).bind fun _ =>
     chk (decide (0 ≤ w64 (p2 + y2)) && decide ((w64 (p2 + y2)).toNat < p0)) <|
     ((y3.set ((w64 (p1 + y2)).toNat) x9)[(w64 (p2 + y2)).toNat]?).bind fun _ =>
     Qca N p0 p1 p2 p3 n6 (w64 (y2 + 1)) ((y3.set ((w64 (p1 + y2)).toNat) x9).set ((w64 (p2 + y2)).toNat) x12)
    else
     some y3
def Qc0 (N : Nat) (p0 : Nat) (p1 : Int) (p2 : Int) (p3 : Int) (p4 : (List Int)) (_p5 : (List Int)) (_p6 : Int) (_p7 : Int) : Option (List Int) :=
  Qca N p0 p1 p2 p3 N 0 p4
def Q92 (p4 : (List Int)) : Slot := .own 1 ((p4 : List Int).map Qaj)
def Quf : AV := .fn (.func 103) [] [(.ref 3 1 (0) 0), (.ref 4 1 (0) 0)]
def Que (p5 : (List Int)) : AV := .dat 1 ((p5 : List Int).map Qaj)
def Qnj (y3 : (List Int)) : Slot := .own 1 ((y3 : List Int).map Qaj)
def Q2p (y3 : (List Int)) (p1 : Int) (y2 : Int) (x9 : Int) : Slot := .own 1 ((y3.set ((w64 (p1 + y2)).toNat) x9 : List Int).map Qaj)
theorem Qd0 (N : Nat) (p0 : Nat) (p1 : Int) (p2 : Int) (p3 : Int) (p4 : (List Int)) (p5 : (List Int)) (p6 : Int) (p7 : Int) (r : (List Int)) (h : Qc0 N p0 p1 p2 p3 p4 p5 p6 p7 = some r) : Spec Try.prog 112 [(.own 0 1 (0) (p0)), (I (p1)), (I (p2)), (I (p3)), (.fn (.func 107) [] [(.ref 1 1 (0) 0), (.ref 2 1 (0) 0)])] [(Q92 p4), (.own 1 [[Quf]]), (.own 1 [[(Que p5)]]), (.own 1 [[(I (p6))]]), (.own 1 [[(I (p7))]])] (.tup []) [(.own 1 ((r : List Int).map Qaj)), (.own 1 [[Quf]]), (.own 1 [[(Que p5)]]), (.own 1 [[(I (p6))]]), (.own 1 [[(I (p7))]])] := by
  refine Qak Try.func112 rfl 5 (nle rfl) (fun X φ0 w0 hφ0 hd0 => ?_)
  unfold Qc0 at h
  refine Qbp ?_
  refine wx tbk [] trivial ?_
  refine Qan ?_
  refine wmr (mto (n := 38) (l' := [(0, (.own 0 1 (0) (p0))), (1, I p1), (2, I p2), (3, I p3), (10, I 0)]) (own' := [(Q92 p4), (.own 1 [[Quf]]), (.own 1 [[(Que p5)]]), (.own 1 [[I p6]]), (.own 1 [[I p7]])]) [(0, (.own 0 1 (0) (p0))), (1, I p1), (2, I p2), (3, I p3), (10, I 0)] [0, 1, 2, 3, 4] [(Q92 p4), (.own 1 [[Quf]]), (.own 1 [[(Que p5)]]), (.own 1 [[I p6]]), (.own 1 [[I p7]])] hφ0 (pc (.rn (Qaz rfl)) (pc rwl (pc rwl (pc rwl (pc rwl pn))))) (qc (spr Qab) (qc (spb (lc (.rn (Qav rn0 (rnc (rqr rfl) (rnc (rqr rfl) rn0)))) ln)) (qc (spb (lc (.rn (.plain _ (nld Qab _))) ln)) (qc (spb (lc rwl ln)) (qc (spb (lc rwl ln)) qn)))))) ?_
  refine Qby (τ := Int × (List Int)) (fun n t => Qca N p0 p1 p2 p3 n t.1 t.2 = some r) (fun ⟨y2, y3⟩ => ⟨mk 38 [(0, (.own 0 1 (0) (p0))), (1, I p1), (2, I p2), (3, I p3), (10, I y2)], [(Qnj y3), (.own 1 [[Quf]]), (.own 1 [[(Que p5)]]), (.own 1 [[I p6]]), (.own 1 [[I p7]])]⟩) (fun t h => by rw [Qca] at h; cases h) (fun n6 ih t h => ?_) N (0, p4) h
  obtain ⟨y2, y3⟩ := t
  rw [Qca] at h
  skip
  refine wsq ?_
  refine wx tbk [] trivial ?_
  rcases bft ((decide (y2 < p3))) with hc7 | hc7
  ·replace h := Qaw hc7 h
   refine wft hc7 (by kernel_rfl) ?_
   refine Qap ?_
   refine thn ?_
   refine wsq ?_
   refine Qan ?_
   obtain ⟨hi8, h⟩ := cko h
   obtain ⟨hi8a, hi8b⟩ := Qcy hi8
   obtain ⟨x9, hg10, h⟩ := bno h
   obtain ⟨hi11, h⟩ := cko h
   obtain ⟨hi11a, hi11b⟩ := Qcy hi11
   obtain ⟨x12, hg13, h⟩ := bno h
   obtain ⟨hi14, h⟩ := cko h
   obtain ⟨hi14a, hi14b⟩ := Qcy hi14
   obtain ⟨x15, hg16, h⟩ := bno h
   obtain ⟨hi17, h⟩ := cko h
   obtain ⟨hi17a, hi17b⟩ := Qcy hi17
   obtain ⟨x18, hg19, h⟩ := bno h
   refine wy1 tbk [(12, rb [(.tmp 24, (.own 0 1 (0) (p0))), (.tmp 27, (I (w64 (p2 + y2))))] [(0, (Qnj y3))] (.ref 0 1 ((w64 (p2 + y2)).toNat) 0)), (13, rb [(.tmp 28, (.ref 0 1 ((w64 (p2 + y2)).toNat) 0))] [(0, (Qnj y3))] (I x9)), (18, rb [(.tmp 30, (.own 0 1 (0) (p0))), (.tmp 33, (I (w64 (p1 + y2))))] [(0, (Qnj y3))] (.ref 0 1 ((w64 (p1 + y2)).toNat) 0)), (19, rb [(.tmp 34, (.ref 0 1 ((w64 (p1 + y2)).toNat) 0))] [(0, (Qnj y3))] (I x12)), (20, rb [(.tmp 16, (.own 0 1 (0) (p0))), (.tmp 19, (I (w64 (p1 + y2))))] [(0, (Qnj y3))] (.ref 0 1 ((w64 (p1 + y2)).toNat) 0)), (21, ⟨[(.tmp 36, (.ref 0 1 ((w64 (p1 + y2)).toNat) 0)), (.tmp 29, I x9)], [(0, (Qnj y3))], .any, [(0, (Q2p y3 p1 y2 x9))], false⟩), (22, rb [(.tmp 20, (.own 0 1 (0) (p0))), (.tmp 23, (I (w64 (p2 + y2))))] [(0, (Q2p y3 p1 y2 x9))] (.ref 0 1 ((w64 (p2 + y2)).toNat) 0)), (23, ⟨[(.tmp 37, (.ref 0 1 ((w64 (p2 + y2)).toNat) 0)), (.tmp 35, I x12)], [(0, (Q2p y3 p1 y2 x9))], .any, [(0, (.own 1 (((y3.set ((w64 (p1 + y2)).toNat) x9).set ((w64 (p2 + y2)).toNat) x12 : List Int).map Qaj)))], false⟩)] ⟨aio rfl Try.underlying27 ti3 (odt hi8a) (odt hi8b) (Nat.zero_add _), ald rfl ti3 (by decide) (mgt Qaj hg10) (nle rfl) rfl, aio rfl Try.underlying27 ti3 (odt hi11a) (odt hi11b) (Nat.zero_add _), ald rfl ti3 (by decide) (mgt Qaj hg13) (nle rfl) rfl, aio rfl Try.underlying27 ti3 (odt hi14a) (odt hi14b) (Nat.zero_add _), ast rfl ti3 (by rfl) (mgt Qaj hg16) (nle rfl) (Qfs Qaj rfl), aio rfl Try.underlying27 ti3 (odt hi17a) (odt hi17b) (Nat.zero_add _), ast rfl ti3 (by rfl) (mgt Qaj hg19) (nle rfl) (Qfs Qaj rfl), trivial⟩ ?_
   refine bln ?_
   refine thn ?_
   refine wx1 tbk [] trivial ?_
   refine thn ?_
   exact arm (mto (n := 38) [(0, (.own 0 1 (0) (p0))), (1, I p1), (2, I p2), (3, I p3), (10, (I (w64 (y2 + 1))))] [0, 1, 2, 3, 4] [(.own 1 (((y3.set ((w64 (p1 + y2)).toNat) x9).set ((w64 (p2 + y2)).toNat) x12 : List Int).map Qaj)), (.own 1 [[Quf]]), (.own 1 [[(Que p5)]]), (.own 1 [[I p6]]), (.own 1 [[I p7]])] hφ0 (pc (.rn (Qaz rfl)) (pc rwl (pc rwl (pc rwl (pc rwl pn))))) (qc (spr Qab) (qc (spb (lc (.rn (Qav rn0 (rnc (rqr rfl) (rnc (rqr rfl) rn0)))) ln)) (qc (spb (lc (.rn (.plain _ (nld Qab _))) ln)) (qc (spb (lc rwl ln)) (qc (spb (lc rwl ln)) qn)))))) (ih (w64 (y2 + 1), (y3.set ((w64 (p1 + y2)).toNat) x9).set ((w64 (p2 + y2)).toNat) x12) h)
  ·replace h := Qax hc7 h
   refine wfn hc7 (by kernel_rfl) ?_
   refine Qbi ?_
   refine Qay ?_
   refine Qay ?_
   refine Qbh rfl ?_
   obtain rfl := osi h
   exact ⟨_, (mto (n := 38) (l' := []) (own' := [(Qnj y3), (.own 1 [[Quf]]), (.own 1 [[(Que p5)]]), (.own 1 [[I p6]]), (.own 1 [[I p7]])]) [] [0, 1, 2, 3, 4] [(Qnj y3), (.own 1 [[Quf]]), (.own 1 [[(Que p5)]]), (.own 1 [[I p6]]), (.own 1 [[I p7]])] hφ0 pn (qc (spr Qab) (qc (spb (lc (.rn (Qav rn0 (rnc (rqr rfl) (rnc (rqr rfl) rn0)))) ln)) (qc (spb (lc (.rn (.plain _ (nld Qab _))) ln)) (qc (spb (lc rwl ln)) (qc (spb (lc rwl ln)) qn)))))), Qcz (vs := []) trivial rfl (NLt.tup _ nl0) (by kernel_rfl) (Qal (Qb0 Qab _) (Qal (Qa4 (nlc (NLt.fn _ _ _ nl0 (nlc (NLt.ref _ _ _ _ (by decide)) (nlc (NLt.ref _ _ _ _ (by decide)) nl0))) nl0)) (Qal (Qa4 (nlc (NLt.of0 (nld Qab _)) nl0)) (Qal (Qa4 (nlc (NLt.of0 nll) nl0)) (Qal (Qa4 (nlc (NLt.of0 nll) nl0)) Qbn)))))⟩
def Qb3 (N : Nat) (p0 : Nat) (p2 : Int) (k4 : Int × (List Int) → Option (List Int)) (p5 : (List Int)) (p6 : Int) (p7 : Int) : Nat → Int → Int → (List Int) → Option (List Int)
  | 0, _, _, _ => none
  | n13 + 1, y7, y8, y9 =>
    bif (y7 != y8) then
     bif (decide (y7 > y8)) then
      (Qc0 N p0 (w64 (p2 - y7)) p2 y8 y9 p5 p6 p7).bind fun x17 =>
      Qb3 N p0 p2 k4 p5 p6 p7 n13 (w64 (y7 - y8)) y8 x17
     else
      (Qc0 N p0 (w64 (p2 - y7)) (w64 ((w64 (p2 + y8)) - y7)) y7 y9 p5 p6 p7).bind fun x19 =>
      Qb3 N p0 p2 k4 p5 p6 p7 n13 y7 (w64 (y8 - y7)) x19
    else
     k4 (y7, y9)
def Qff (N : Nat) (p0 : Nat) (p1 : Int) (p2 : Int) (p3 : Int) (p4 : (List Int)) (p5 : (List Int)) (p6 : Int) (p7 : Int) : Option (List Int) :=
  Qbz (fun ⟨y2, y3⟩ =>
    (Qc0 N p0 (w64 (p2 - y2)) p2 y2 y3 p5 p6 p7).bind fun x6 =>
    some x6) fun k4 : Int × (List Int) → Option (List Int) =>
  Qb3 N p0 p2 k4 p5 p6 p7 N (w64 (p2 - p1)) (w64 (p3 - p2)) p4
def Qnk : AV := .fn (.func 107) [] [(.ref 1 1 (0) 0), (.ref 2 1 (0) 0)]
def Q94 (p4 : (List Int)) : Slot := .own 1 ((p4 : List Int).map Qaj)
def Qjp : AV := .fn (.func 103) [] [(.ref 3 1 (0) 0), (.ref 4 1 (0) 0)]
def Qjo (p5 : (List Int)) : AV := .dat 1 ((p5 : List Int).map Qaj)
def Q93 (y3 : (List Int)) : Slot := .own 1 ((y3 : List Int).map Qaj)
def Qyo (x6 : (List Int)) : Slot := .own 1 ((x6 : List Int).map Qaj)
def Qr8 (y9 : (List Int)) : Slot := .own 1 ((y9 : List Int).map Qaj)
theorem Qiq (N : Nat) (p0 : Nat) (p1 : Int) (p2 : Int) (p3 : Int) (p4 : (List Int)) (p5 : (List Int)) (p6 : Int) (p7 : Int) (r : (List Int)) (h : Qff N p0 p1 p2 p3 p4 p5 p6 p7 = some r) : Spec Try.prog 111 [(.own 0 1 (0) (p0)), (I (p1)), (I (p2)), (I (p3)), Qnk] [(Q94 p4), (.own 1 [[Qjp]]), (.own 1 [[(Qjo p5)]]), (.own 1 [[(I (p6))]]), (.own 1 [[(I (p7))]])] (.tup []) [(.own 1 ((r : List Int).map Qaj)), (.own 1 [[Qjp]]), (.own 1 [[(Qjo p5)]]), (.own 1 [[(I (p6))]]), (.own 1 [[(I (p7))]])] := by
  refine Qak Try.func111 rfl 5 (nle rfl) (fun X φ0 w0 hφ0 hd0 => ?_)
  unfold Qff at h
  refine Qbp ?_
  refine wx tbk [] trivial ?_
  refine wx tbk [] trivial ?_
  obtain ⟨k4, hk_k4, h⟩ := jko h
  refine wjn (τ := Int × (List Int)) (fun t => k4 t = some r) (fun ⟨y2, y3⟩ => ⟨mk 58 [(0, (.own 0 1 (0) (p0))), (2, I p2), (4, Qnk), (10, I y2)], [(Q93 y3), (.own 1 [[Qjp]]), (.own 1 [[(Qjo p5)]]), (.own 1 [[I p6]]), (.own 1 [[I p7]])]⟩) (fun t h => ?_) ?_
  ·subst hk_k4
   obtain ⟨y2, y3⟩ := t
   obtain ⟨x6, hf5, h⟩ := bno h
   refine wx1 tbk [(7, ⟨[fu 112, (.tmp 50, (.own 0 1 (0) (p0))), (.tmp 53, (I (w64 (p2 - y2)))), (.tmp 54, I p2), (.tmp 55, I y2), (.tmp 56, Qnk)], [(0, (Q93 y3)), (1, .own 1 [[Qjp]]), (2, (.own 1 [[(Qjo p5)]])), (3, .own 1 [[I p6]]), (4, .own 1 [[I p7]])], (.tup []), [(0, (Qyo x6)), (1, .own 1 [[Qjp]]), (2, (.own 1 [[(Qjo p5)]])), (3, .own 1 [[I p6]]), (4, .own 1 [[I p7]])], false⟩)] ⟨Qar (first := []) (cap := []) (vs := [(.own 0 1 (0) (p0)), (I (w64 (p2 - y2))), I p2, I y2, Qnk]) (σr := [(Q93 y3), (.own 1 [[Qjp]]), (.own 1 [[(Qjo p5)]]), (.own 1 [[I p6]]), (.own 1 [[I p7]])]) (σr' := [(Qyo x6), (.own 1 [[Qjp]]), (.own 1 [[(Qjo p5)]]), (.own 1 [[I p6]]), (.own 1 [[I p7]])]) (res' := (.tup [])) [0, 1, 2, 3, 4] rfl Qtx (Qd0 N p0 (w64 (p2 - y2)) p2 y2 y3 p5 p6 p7 _ hf5) rfl (Qbm (rnc (Qcg rfl) (rnc (.plain _ nll) (rnc (.plain _ nll) (rnc (.plain _ nll) (rnc (Qav rn0 (rnc (Qa0 rfl) (rnc (Qa0 rfl) rn0))) rn0)))))) (slc (Qa8 Qab) (slc (Qag (rnc (Qav rn0 (rnc (Qa0 rfl) (rnc (Qa0 rfl) rn0))) rn0)) (slc (Qag (rnc (.plain _ (nld Qab _)) rn0)) (slc (Qag (rnc (.plain _ nll) rn0)) (slc (Qag (rnc (.plain _ nll) rn0)) Qaq))))) (slc (Qa8 Qab) (slc (Qag (rnc (Qav rn0 (rnc (Qbb rfl) (rnc (Qbb rfl) rn0))) rn0)) (slc (Qag (rnc (.plain _ (nld Qab _)) rn0)) (slc (Qag (rnc (.plain _ nll) rn0)) (slc (Qag (rnc (.plain _ nll) rn0)) Qaq))))) (.plain _ (NLt.tup _ nl0)) rfl rfl rfl, trivial⟩ ?_
   obtain rfl := osi h
   exact ⟨_, (mto (n := 58) (l' := []) (own' := [(Qyo x6), (.own 1 [[Qjp]]), (.own 1 [[(Qjo p5)]]), (.own 1 [[I p6]]), (.own 1 [[I p7]])]) [] [0, 1, 2, 3, 4] [(Qyo x6), (.own 1 [[Qjp]]), (.own 1 [[(Qjo p5)]]), (.own 1 [[I p6]]), (.own 1 [[I p7]])] hφ0 pn (qc (spr Qab) (qc (spb (lc (.rn (Qav rn0 (rnc (rqr rfl) (rnc (rqr rfl) rn0)))) ln)) (qc (spb (lc (.rn (.plain _ (nld Qab _))) ln)) (qc (spb (lc rwl ln)) (qc (spb (lc rwl ln)) qn)))))), Qcz (vs := []) trivial rfl (NLt.tup _ nl0) (by kernel_rfl) (Qal (Qb0 Qab _) (Qal (Qa4 (nlc (NLt.fn _ _ _ nl0 (nlc (NLt.ref _ _ _ _ (by decide)) (nlc (NLt.ref _ _ _ _ (by decide)) nl0))) nl0)) (Qal (Qa4 (nlc (NLt.of0 (nld Qab _)) nl0)) (Qal (Qa4 (nlc (NLt.of0 nll) nl0)) (Qal (Qa4 (nlc (NLt.of0 nll) nl0)) Qbn)))))⟩
  ·skip
   refine Qan ?_
   refine wmr (mto (n := 58) (l' := [(0, (.own 0 1 (0) (p0))), (2, I p2), (4, Qnk), (10, (I ((w64 (p2 - p1))))), (11, (I ((w64 (p3 - p2)))))]) (own' := [(Q94 p4), (.own 1 [[Qjp]]), (.own 1 [[(Qjo p5)]]), (.own 1 [[I p6]]), (.own 1 [[I p7]])]) [(0, (.own 0 1 (0) (p0))), (2, I p2), (4, Qnk), (10, (I (w64 (p2 - p1)))), (11, (I (w64 (p3 - p2))))] [0, 1, 2, 3, 4] [(Q94 p4), (.own 1 [[Qjp]]), (.own 1 [[(Qjo p5)]]), (.own 1 [[I p6]]), (.own 1 [[I p7]])] hφ0 (pc (.rn (Qaz rfl)) (pc rwl (pc (.rn (Qav rn0 (rnc (rqr rfl) (rnc (rqr rfl) rn0)))) (pc rwl (pc rwl pn))))) (qc (spr Qab) (qc (spb (lc (.rn (Qav rn0 (rnc (rqr rfl) (rnc (rqr rfl) rn0)))) ln)) (qc (spb (lc (.rn (.plain _ (nld Qab _))) ln)) (qc (spb (lc rwl ln)) (qc (spb (lc rwl ln)) qn)))))) ?_
   refine Qby (τ := Int × Int × (List Int)) (fun n t => Qb3 N p0 p2 k4 p5 p6 p7 n t.1 t.2.1 t.2.2 = some r) (fun ⟨y7, y8, y9⟩ => ⟨mk 58 [(0, (.own 0 1 (0) (p0))), (2, I p2), (4, Qnk), (10, I y7), (11, I y8)], [(Qr8 y9), (.own 1 [[Qjp]]), (.own 1 [[(Qjo p5)]]), (.own 1 [[I p6]]), (.own 1 [[I p7]])]⟩) (fun t h => by rw [Qb3] at h; cases h) (fun n13 ih t h => ?_) N (w64 (p2 - p1), w64 (p3 - p2), p4) h
   obtain ⟨y7, y8, y9⟩ := t
   rw [Qb3] at h
   skip
   refine wsq ?_
   refine wx tbk [] trivial ?_
   rcases bft ((y7 != y8)) with hc14 | hc14
   ·replace h := Qaw hc14 h
    refine wft hc14 (by kernel_rfl) ?_
    refine Qap ?_
    refine thn ?_
    refine Qan ?_
    refine wx tbk [] trivial ?_
    rcases bft ((decide (y7 > y8))) with hc15 | hc15
    ·replace h := Qaw hc15 h
     refine wft hc15 (by kernel_rfl) ?_
     obtain ⟨x17, hf16, h⟩ := bno h
     refine wx tbk [(7, ⟨[fu 112, (.tmp 24, (.own 0 1 (0) (p0))), (.tmp 27, (I (w64 (p2 - y7)))), (.tmp 28, I p2), (.tmp 29, I y8), (.tmp 30, Qnk)], [(0, (Qr8 y9)), (1, .own 1 [[Qjp]]), (2, (.own 1 [[(Qjo p5)]])), (3, .own 1 [[I p6]]), (4, .own 1 [[I p7]])], (.tup []), [(0, (.own 1 ((x17 : List Int).map Qaj))), (1, .own 1 [[Qjp]]), (2, (.own 1 [[(Qjo p5)]])), (3, .own 1 [[I p6]]), (4, .own 1 [[I p7]])], false⟩)] ⟨Qar (first := []) (cap := []) (vs := [(.own 0 1 (0) (p0)), (I (w64 (p2 - y7))), I p2, I y8, Qnk]) (σr := [(Qr8 y9), (.own 1 [[Qjp]]), (.own 1 [[(Qjo p5)]]), (.own 1 [[I p6]]), (.own 1 [[I p7]])]) (σr' := [(.own 1 ((x17 : List Int).map Qaj)), (.own 1 [[Qjp]]), (.own 1 [[(Qjo p5)]]), (.own 1 [[I p6]]), (.own 1 [[I p7]])]) (res' := (.tup [])) [0, 1, 2, 3, 4] rfl Qtx (Qd0 N p0 (w64 (p2 - y7)) p2 y8 y9 p5 p6 p7 _ hf16) rfl (Qbm (rnc (Qcg rfl) (rnc (.plain _ nll) (rnc (.plain _ nll) (rnc (.plain _ nll) (rnc (Qav rn0 (rnc (Qa0 rfl) (rnc (Qa0 rfl) rn0))) rn0)))))) (slc (Qa8 Qab) (slc (Qag (rnc (Qav rn0 (rnc (Qa0 rfl) (rnc (Qa0 rfl) rn0))) rn0)) (slc (Qag (rnc (.plain _ (nld Qab _)) rn0)) (slc (Qag (rnc (.plain _ nll) rn0)) (slc (Qag (rnc (.plain _ nll) rn0)) Qaq))))) (slc (Qa8 Qab) (slc (Qag (rnc (Qav rn0 (rnc (Qbb rfl) (rnc (Qbb rfl) rn0))) rn0)) (slc (Qag (rnc (.plain _ (nld Qab _)) rn0)) (slc (Qag (rnc (.plain _ nll) rn0)) (slc (Qag (rnc (.plain _ nll) rn0)) Qaq))))) (.plain _ (NLt.tup _ nl0)) rfl rfl rfl, trivial⟩ ?_
     refine wx1 tbk [] trivial ?_
     refine bln ?_
     refine thn ?_
     exact arm (mto (n := 58) [(0, (.own 0 1 (0) (p0))), (2, I p2), (4, Qnk), (10, (I (w64 (y7 - y8)))), (11, I y8)] [0, 1, 2, 3, 4] [(.own 1 ((x17 : List Int).map Qaj)), (.own 1 [[Qjp]]), (.own 1 [[(Qjo p5)]]), (.own 1 [[I p6]]), (.own 1 [[I p7]])] hφ0 (pc (.rn (Qaz rfl)) (pc rwl (pc (.rn (Qav rn0 (rnc (rqr rfl) (rnc (rqr rfl) rn0)))) (pc rwl (pc rwl pn))))) (qc (spr Qab) (qc (spb (lc (.rn (Qav rn0 (rnc (rqr rfl) (rnc (rqr rfl) rn0)))) ln)) (qc (spb (lc (.rn (.plain _ (nld Qab _))) ln)) (qc (spb (lc rwl ln)) (qc (spb (lc rwl ln)) qn)))))) (ih (w64 (y7 - y8), y8, x17) h)
    ·replace h := Qax hc15 h
     refine wfn hc15 (by kernel_rfl) ?_
     obtain ⟨x19, hf18, h⟩ := bno h
     refine wx tbk [(11, ⟨[fu 112, (.tmp 35, (.own 0 1 (0) (p0))), (.tmp 38, (I (w64 (p2 - y7)))), (.tmp 43, (I (w64 ((w64 (p2 + y8)) - y7)))), (.tmp 44, I y7), (.tmp 45, Qnk)], [(0, (Qr8 y9)), (1, .own 1 [[Qjp]]), (2, (.own 1 [[(Qjo p5)]])), (3, .own 1 [[I p6]]), (4, .own 1 [[I p7]])], (.tup []), [(0, (.own 1 ((x19 : List Int).map Qaj))), (1, .own 1 [[Qjp]]), (2, (.own 1 [[(Qjo p5)]])), (3, .own 1 [[I p6]]), (4, .own 1 [[I p7]])], false⟩)] ⟨Qar (first := []) (cap := []) (vs := [(.own 0 1 (0) (p0)), (I (w64 (p2 - y7))), (I (w64 ((w64 (p2 + y8)) - y7))), I y7, Qnk]) (σr := [(Qr8 y9), (.own 1 [[Qjp]]), (.own 1 [[(Qjo p5)]]), (.own 1 [[I p6]]), (.own 1 [[I p7]])]) (σr' := [(.own 1 ((x19 : List Int).map Qaj)), (.own 1 [[Qjp]]), (.own 1 [[(Qjo p5)]]), (.own 1 [[I p6]]), (.own 1 [[I p7]])]) (res' := (.tup [])) [0, 1, 2, 3, 4] rfl Qtx (Qd0 N p0 (w64 (p2 - y7)) (w64 ((w64 (p2 + y8)) - y7)) y7 y9 p5 p6 p7 _ hf18) rfl (Qbm (rnc (Qcg rfl) (rnc (.plain _ nll) (rnc (.plain _ nll) (rnc (.plain _ nll) (rnc (Qav rn0 (rnc (Qa0 rfl) (rnc (Qa0 rfl) rn0))) rn0)))))) (slc (Qa8 Qab) (slc (Qag (rnc (Qav rn0 (rnc (Qa0 rfl) (rnc (Qa0 rfl) rn0))) rn0)) (slc (Qag (rnc (.plain _ (nld Qab _)) rn0)) (slc (Qag (rnc (.plain _ nll) rn0)) (slc (Qag (rnc (.plain _ nll) rn0)) Qaq))))) (slc (Qa8 Qab) (slc (Qag (rnc (Qav rn0 (rnc (Qbb rfl) (rnc (Qbb rfl) rn0))) rn0)) (slc (Qag (rnc (.plain _ (nld Qab _)) rn0)) (slc (Qag (rnc (.plain _ nll) rn0)) (slc (Qag (rnc (.plain _ nll) rn0)) Qaq))))) (.plain _ (NLt.tup _ nl0)) rfl rfl rfl, trivial⟩ ?_
     refine wx1 tbk [] trivial ?_
     refine bln ?_
     refine thn ?_
     exact arm (mto (n := 58) [(0, (.own 0 1 (0) (p0))), (2, I p2), (4, Qnk), (10, I y7), (11, (I (w64 (y8 - y7))))] [0, 1, 2, 3, 4] [(.own 1 ((x19 : List Int).map Qaj)), (.own 1 [[Qjp]]), (.own 1 [[(Qjo p5)]]), (.own 1 [[I p6]]), (.own 1 [[I p7]])] hφ0 (pc (.rn (Qaz rfl)) (pc rwl (pc (.rn (Qav rn0 (rnc (rqr rfl) (rnc (rqr rfl) rn0)))) (pc rwl (pc rwl pn))))) (qc (spr Qab) (qc (spb (lc (.rn (Qav rn0 (rnc (rqr rfl) (rnc (rqr rfl) rn0)))) ln)) (qc (spb (lc (.rn (.plain _ (nld Qab _))) ln)) (qc (spb (lc rwl ln)) (qc (spb (lc rwl ln)) qn)))))) (ih (y7, w64 (y8 - y7), x19) h)
   ·replace h := Qax hc14 h
    refine wfn hc14 (by kernel_rfl) ?_
    refine Qbi ?_
    refine Qay ?_
    refine Qay ?_
    refine Qbh rfl ?_
    refine thn ?_
    exact ⟨(y7, y9), h, (mto (n := 58) [(0, (.own 0 1 (0) (p0))), (2, I p2), (4, Qnk), (10, I y7)] [0, 1, 2, 3, 4] [(Qr8 y9), (.own 1 [[Qjp]]), (.own 1 [[(Qjo p5)]]), (.own 1 [[I p6]]), (.own 1 [[I p7]])] hφ0 (pc (.rn (Qaz rfl)) (pc rwl (pc (.rn (Qav rn0 (rnc (rqr rfl) (rnc (rqr rfl) rn0)))) (pc rwl pn)))) (qc (spr Qab) (qc (spb (lc (.rn (Qav rn0 (rnc (rqr rfl) (rnc (rqr rfl) rn0)))) ln)) (qc (spb (lc (.rn (.plain _ (nld Qab _))) ln)) (qc (spb (lc rwl ln)) (qc (spb (lc rwl ln)) qn))))))⟩
def Qbt (N : Nat) (p0 : Nat) (p4 : (List Int)) (p5 : (List Int)) (p6 : Int) (p7 : Int) (x10 : Int) (k13 : Int → Option (List Int)) : Nat → Int → Int → Option (List Int)
  | 0, _, _ => none
  | n36 + 1, y32, y33 =>
    bif (decide (y32 < y33)) then
     (some (w64 ((IntKind.wrap .u64 (w64 (y32 + y33))) / 2))).bind fun x38 =>
     chk (decide (0 ≤ w64 (x10 - x38)) && decide ((w64 (x10 - x38)).toNat < p0)) <|
     (p4[(w64 (x10 - x38)).toNat]?).bind fun x41 =>
     chk (decide (0 ≤ x38) && decide (x38.toNat < p0)) <|
     (p4[x38.toNat]?).bind fun x44 =>
     (Qdt N x41 x44 p5 p6 p7).bind fun x47 =>
     bif (!(decide (x47 < 0))) then
      Qbt N p0 p4 p5 p6 p7 x10 k13 n36 (w64 (x38 + 1)) y33
     else
      Qbt N p0 p4 p5 p6 p7 x10 k13 n36 y32 x38
    else
     k13 (y32)
def Qcd (N : Nat) (p0 : Nat) (y53 : Int) (k56 : (List Int) → Option (List Int)) : Nat → Int → (List Int) → Option (List Int)
  | 0, _, _ => none
  | n61 + 1, y57, y58 =>
    bif (decide (y57 > y53)) then
     chk (decide (0 ≤ w64 (y57 - 1)) && decide ((w64 (y57 - 1)).toNat < p0)) <|
     (y58[(w64 (y57 - 1)).toNat]?).bind fun x64 =>
     chk (decide (0 ≤ y57) && decide (y57.toNat < p0)) <|
     (y58[y57.toNat]?).bind fun x67 =>
     chk (decide (0 ≤ y57) && decide (y57.toNat < p0)) <|
     (y58[y57.toNat]?).bind fun _ =>
     chk (decide (0 ≤ w64 (y57 - 1)) && decide ((w64 (y57 - 1)).toNat < p0)) <|
     ((y58.set y57.toNat x64)[(w64 (y57 - 1)).toNat]?).bind fun _ =>
     Qcd N p0 y53 k56 n61 (w64 (y57 - 1)) ((y58.set y57.toNat x64).set ((w64 (y57 - 1)).toNat) x67)
    else
     k56 (y58)
def Qbs (N : Nat) (p0 : Nat) (p2 : Int) (p4 : (List Int)) (p5 : (List Int)) (p6 : Int) (p7 : Int) (k54 : Int → Option (List Int)) : Nat → Int → Int → Option (List Int)
  | 0, _, _ => none
  | n79 + 1, y75, y76 =>
    bif (decide (y75 < y76)) then
     (some (w64 ((IntKind.wrap .u64 (w64 (y75 + y76))) / 2))).bind fun x81 =>
     chk (decide (0 ≤ p2) && decide (p2.toNat < p0)) <|
     (p4[p2.toNat]?).bind fun x84 =>
     chk (decide (0 ≤ x81) && decide (x81.toNat < p0)) <|
     (p4[x81.toNat]?).bind fun x87 =>
     (Qdt N x84 x87 p5 p6 p7).bind fun x90 =>
     bif (!(decide (x90 < 0))) then
      Qbs N p0 p2 p4 p5 p6 p7 k54 n79 (w64 (x81 + 1)) y76
     else
      Qbs N p0 p2 p4 p5 p6 p7 k54 n79 y75 x81
    else
     k54 (y75)
def Qcc (N : Nat) (p0 : Nat) (y93 : Int) (k96 : (List Int) → Option (List Int)) : Nat → Int → (List Int) → Option (List Int)
  | 0, _, _ => none
  | n101 + 1, y97, y98 =>
    bif (decide (y97 < (w64 (y93 - 1)))) then
     chk (decide (0 ≤ w64 (y97 + 1)) && decide ((w64 (y97 + 1)).toNat < p0)) <|
     (y98[(w64 (y97 + 1)).toNat]?).bind fun x104 =>
     chk (decide (0 ≤ y97) && decide (y97.toNat < p0)) <|
     (y98[y97.toNat]?).bind fun x107 =>
     chk (decide (0 ≤ y97) && decide (y97.toNat < p0)) <|
     (y98[y97.toNat]?).bind fun _ =>
     chk (decide (0 ≤ w64 (y97 + 1)) && decide ((w64 (y97 + 1)).toNat < p0)) <|
     ((y98.set y97.toNat x104)[(w64 (y97 + 1)).toNat]?).bind fun _ =>
     Qcc N p0 y93 k96 n101 (w64 (y97 + 1)) ((y98.set y97.toNat x104).set ((w64 (y97 + 1)).toNat) x107)
    else
     k96 (y98)
def Qbr (N : Nat) (p0 : Nat) (p1 : Int) (p4 : (List Int)) (p5 : (List Int)) (p6 : Int) (p7 : Int) (k94 : Int → Option (List Int)) : Nat → Int → Int → Option (List Int)
  | 0, _, _ => none
  | n119 + 1, y115, y116 =>
    bif (decide (y115 < y116)) then
     (some (w64 ((IntKind.wrap .u64 (w64 (y115 + y116))) / 2))).bind fun x121 =>
     chk (decide (0 ≤ x121) && decide (x121.toNat < p0)) <|
     (p4[x121.toNat]?).bind fun x124 =>
     chk (decide (0 ≤ p1) && decide (p1.toNat < p0)) <|
     (p4[p1.toNat]?).bind fun x127 =>
     (Qdt N x124 x127 p5 p6 p7).bind fun x130 =>
     bif (decide (x130 < 0)) then
      Qbr N p0 p1 p4 p5 p6 p7 k94 n119 (w64 (x121 + 1)) y116
     else
      Qbr N p0 p1 p4 p5 p6 p7 k94 n119 y115 x121
    else
     k94 (y115)
def Qdz (N : Nat) (rec_ : Nat → Int → Int → Int → (List Int) → (List Int) → Int → Int → Option (List Int)) (p0 : Nat) (p1 : Int) (p2 : Int) (p3 : Int) (p4 : (List Int)) (p5 : (List Int)) (p6 : Int) (p7 : Int) : Option (List Int) :=
  Qbz (fun _ =>
    Qbz (fun _ =>
      (some (w64 ((IntKind.wrap .u64 (w64 (p1 + p3))) / 2))).bind fun x5 =>
      Qbz (fun ⟨y7, y8⟩ =>
        (some (w64 ((w64 (x5 + p2)) - 1))).bind fun x10 =>
        Qbz (fun y12 =>
          (some (w64 ((w64 (x5 + p2)) - y12))).bind fun x14 =>
          Qbz (fun y16 =>
            Qbz (fun y18 =>
              bif (decide (x5 < x14)) then
               bif (decide (x14 < p3)) then
                (rec_ p0 x5 x14 p3 y18 p5 p6 p7).bind fun x23 =>
                some x23
               else
                some y18
              else
               some y18) fun k19 : (List Int) → Option (List Int) =>
            bif (decide (p1 < y12)) then
             bif (decide (y12 < x5)) then
              (rec_ p0 p1 y12 x5 y16 p5 p6 p7).bind fun x27 =>
              k19 (x27)
             else
              k19 (y16)
            else
             k19 (y16)) fun k17 : (List Int) → Option (List Int) =>
          bif (decide (y12 < p2)) then
           bif (decide (p2 < x14)) then
            (Qff N p0 y12 p2 x14 p4 p5 p6 p7).bind fun x31 =>
            k17 (x31)
           else
            k17 (p4)
          else
           k17 (p4)) fun k13 : Int → Option (List Int) =>
        Qbt N p0 p4 p5 p6 p7 x10 k13 N y7 y8) fun k9 : Int × Int → Option (List Int) =>
      bif (decide (p2 > x5)) then
       (some (w64 ((w64 (x5 + p2)) - p3))).bind fun x50 =>
       k9 (x50, x5)
      else
       k9 (p1, p2)) fun k4 : Unit → Option (List Int) =>
    bif ((w64 (p3 - p2)) == 1) then
     Qbz (fun y53 =>
       Qbz (fun y55 =>
         some y55) fun k56 : (List Int) → Option (List Int) =>
       Qcd N p0 y53 k56 N p2 p4) fun k54 : Int → Option (List Int) =>
     Qbs N p0 p2 p4 p5 p6 p7 k54 N p1 p2
    else
     k4 ()) fun k3 : Unit → Option (List Int) =>
  bif ((w64 (p2 - p1)) == 1) then
   Qbz (fun y93 =>
     Qbz (fun y95 =>
       some y95) fun k96 : (List Int) → Option (List Int) =>
     Qcc N p0 y93 k96 N p1 p4) fun k94 : Int → Option (List Int) =>
   Qbr N p0 p1 p4 p5 p6 p7 k94 N p2 p3
  else
   k3 ()
def Qc8 : Nat → Nat → Int → Int → Int → (List Int) → (List Int) → Int → Int → Option (List Int)
  | 0, _, _, _, _, _, _, _, _ => none
  | N + 1, p0, p1, p2, p3, p4, p5, p6, p7 => Qdz N (Qc8 N) p0 p1 p2 p3 p4 p5 p6 p7
def Qf8 : AV := .fn (.func 107) [] [(.ref 1 1 (0) 0), (.ref 2 1 (0) 0)]
def Qe5 (p4 : (List Int)) : Slot := .own 1 ((p4 : List Int).map Qaj)
def Qcu : AV := .fn (.func 103) [] [(.ref 3 1 (0) 0), (.ref 4 1 (0) 0)]
def Qct (p5 : (List Int)) : AV := .dat 1 ((p5 : List Int).map Qaj)
def Qqa (y16 : (List Int)) : Slot := .own 1 ((y16 : List Int).map Qaj)
def Qm1 (y18 : (List Int)) : Slot := .own 1 ((y18 : List Int).map Qaj)
def Qs5 (x23 : (List Int)) : Slot := .own 1 ((x23 : List Int).map Qaj)
def Qlp (y58 : (List Int)) : Slot := .own 1 ((y58 : List Int).map Qaj)
def Qlo (y98 : (List Int)) : Slot := .own 1 ((y98 : List Int).map Qaj)
theorem Qf4 : ∀ (N : Nat) (p0 : Nat) (p1 : Int) (p2 : Int) (p3 : Int) (p4 : (List Int)) (p5 : (List Int)) (p6 : Int) (p7 : Int) (r : (List Int)) (_ : Qc8 N p0 p1 p2 p3 p4 p5 p6 p7 = some r), Spec Try.prog 110 [(.own 0 1 (0) (p0)), (I (p1)), (I (p2)), (I (p3)), Qf8] [(Qe5 p4), (.own 1 [[Qcu]]), (.own 1 [[(Qct p5)]]), (.own 1 [[(I (p6))]]), (.own 1 [[(I (p7))]])] (.tup []) [(.own 1 ((r : List Int).map Qaj)), (.own 1 [[Qcu]]), (.own 1 [[(Qct p5)]]), (.own 1 [[(I (p6))]]), (.own 1 [[(I (p7))]])] := by
  intro N
  induction N with
  | zero => intro p0 p1 p2 p3 p4 p5 p6 p7 r h; exact nomatch (show (none : Option (List Int)) = some r from h)
  | succ N ihX =>
  intro p0 p1 p2 p3 p4 p5 p6 p7 r h
  replace h : Qdz N (Qc8 N) p0 p1 p2 p3 p4 p5 p6 p7 = some r := h
  refine Qak Try.func110 rfl 5 (nle rfl) (fun X φ0 w0 hφ0 hd0 => ?_)
  unfold Qdz at h
  refine Qbp ?_
  obtain ⟨k3, hk_k3, h⟩ := jko h
  refine wjn (τ := Unit) (fun t => k3 t = some r) (fun _ => ⟨mk 220 [(0, (.own 0 1 (0) (p0))), (1, I p1), (2, I p2), (3, I p3), (4, Qf8)], [(Qe5 p4), (.own 1 [[Qcu]]), (.own 1 [[(Qct p5)]]), (.own 1 [[I p6]]), (.own 1 [[I p7]])]⟩) (fun t h => ?_) ?_
  ·subst hk_k3
   obtain ⟨k4, hk_k4, h⟩ := jko h
   refine wjn (τ := Unit) (fun t => k4 t = some r) (fun _ => ⟨mk 220 [(0, (.own 0 1 (0) (p0))), (1, I p1), (2, I p2), (3, I p3), (4, Qf8)], [(Qe5 p4), (.own 1 [[Qcu]]), (.own 1 [[(Qct p5)]]), (.own 1 [[I p6]]), (.own 1 [[I p7]])]⟩) (fun t h => ?_) ?_
   ·subst hk_k4
    obtain ⟨x5, hl6, h⟩ := bno h
    refine wx tbk [(3, rp [(.tmp 131, (I (w64 (p1 + p3))))] (K .u64 (IntKind.wrap .u64 (w64 (p1 + p3))))), (4, rp [(.tmp 132, (K .u64 (IntKind.wrap .u64 (w64 (p1 + p3))))), (.const (.int .u64 1), (K .u64 (1)))] (K .u64 ((IntKind.wrap .u64 (w64 (p1 + p3))) / 2))), (5, rp [(.tmp 133, (K .u64 ((IntKind.wrap .u64 (w64 (p1 + p3))) / 2)))] (I (w64 ((IntKind.wrap .u64 (w64 (p1 + p3))) / 2)))), (6, rp [(.tmp 134, (I (w64 ((IntKind.wrap .u64 (w64 (p1 + p3))) / 2))))] (I x5))] ⟨acv rfl (by rw [Try.underlying3]; rfl) Try.underlying169, Qof rfl (by decide) (by decide), acv rfl (by rw [Try.underlying169]; rfl) Try.underlying3, Qgj hl6 (aas rfl), trivial⟩ ?_
    refine wx tbk [] trivial ?_
    refine wx tbk [] trivial ?_
    obtain ⟨k9, hk_k9, h⟩ := jko h
    refine wjn (τ := Int × Int) (fun t => k9 t = some r) (fun ⟨y7, y8⟩ => ⟨mk 220 [(0, (.own 0 1 (0) (p0))), (1, I p1), (2, I p2), (3, I p3), (4, Qf8), (18, I x5), (19, (I (w64 (x5 + p2)))), (20, I y7), (21, I y8)], [(Qe5 p4), (.own 1 [[Qcu]]), (.own 1 [[(Qct p5)]]), (.own 1 [[I p6]]), (.own 1 [[I p7]])]⟩) (fun t h => ?_) ?_
    ·subst hk_k9
     obtain ⟨y7, y8⟩ := t
     obtain ⟨x10, hl11, h⟩ := bno h
     refine wx tbk [(2, rp [(.tmp 148, (I (w64 ((w64 (x5 + p2)) - 1))))] (I x10))] ⟨Qgj hl11 (aas rfl), trivial⟩ ?_
     obtain ⟨k13, hk_k13, h⟩ := jko h
     refine wjn (τ := Int) (fun t => k13 t = some r) (fun y12 => ⟨mk 220 [(0, (.own 0 1 (0) (p0))), (1, I p1), (2, I p2), (3, I p3), (4, Qf8), (18, I x5), (19, (I (w64 (x5 + p2)))), (20, I y12)], [(Qe5 p4), (.own 1 [[Qcu]]), (.own 1 [[(Qct p5)]]), (.own 1 [[I p6]]), (.own 1 [[I p7]])]⟩) (fun y12 h => ?_) ?_
     ·subst hk_k13
      obtain ⟨x14, hl15, h⟩ := bno h
      refine wx tbk [(3, rp [(.tmp 177, (I (w64 ((w64 (x5 + p2)) - y12))))] (I x14))] ⟨Qgj hl15 (aas rfl), trivial⟩ ?_
      obtain ⟨k17, hk_k17, h⟩ := jko h
      refine wjn (τ := (List Int)) (fun t => k17 t = some r) (fun y16 => ⟨mk 220 [(0, (.own 0 1 (0) (p0))), (1, I p1), (3, I p3), (4, Qf8), (18, I x5), (20, I y12), (24, I x14)], [(Qqa y16), (.own 1 [[Qcu]]), (.own 1 [[(Qct p5)]]), (.own 1 [[I p6]]), (.own 1 [[I p7]])]⟩) (fun y16 h => ?_) ?_
      ·subst hk_k17
       obtain ⟨k19, hk_k19, h⟩ := jko h
       refine wjn (τ := (List Int)) (fun t => k19 t = some r) (fun y18 => ⟨mk 220 [(0, (.own 0 1 (0) (p0))), (3, I p3), (4, Qf8), (18, I x5), (24, I x14)], [(Qm1 y18), (.own 1 [[Qcu]]), (.own 1 [[(Qct p5)]]), (.own 1 [[I p6]]), (.own 1 [[I p7]])]⟩) (fun y18 h => ?_) ?_
       ·subst hk_k19
        rcases bft ((decide (x5 < x14))) with hb20 | hb20
        ·replace h := Qaw hb20 h
         refine wx tbk [(3, rp [(.tmp 208, (B ((decide (x5 < x14)))))] (B true))] ⟨asb hb20 (amv rfl), trivial⟩ ?_
         rcases bft ((decide (x14 < p3))) with hc21 | hc21
         ·replace h := Qaw hc21 h
          refine wft hc21 (by kernel_rfl) ?_
          obtain ⟨x23, hf22, h⟩ := bno h
          refine wx1 tbk [(5, ⟨[fu 110, (.tmp 214, (.own 0 1 (0) (p0))), (.tmp 215, I x5), (.tmp 216, I x14), (.tmp 217, I p3), (.tmp 218, Qf8)], [(0, (Qm1 y18)), (1, .own 1 [[Qcu]]), (2, (.own 1 [[(Qct p5)]])), (3, .own 1 [[I p6]]), (4, .own 1 [[I p7]])], (.tup []), [(0, (Qs5 x23)), (1, .own 1 [[Qcu]]), (2, (.own 1 [[(Qct p5)]])), (3, .own 1 [[I p6]]), (4, .own 1 [[I p7]])], false⟩)] ⟨Qar (first := []) (cap := []) (vs := [(.own 0 1 (0) (p0)), I x5, I x14, I p3, Qf8]) (σr := [(Qm1 y18), (.own 1 [[Qcu]]), (.own 1 [[(Qct p5)]]), (.own 1 [[I p6]]), (.own 1 [[I p7]])]) (σr' := [(Qs5 x23), (.own 1 [[Qcu]]), (.own 1 [[(Qct p5)]]), (.own 1 [[I p6]]), (.own 1 [[I p7]])]) (res' := (.tup [])) [0, 1, 2, 3, 4] rfl Qp5 (ihX p0 x5 x14 p3 y18 p5 p6 p7 _ hf22) rfl (Qbm (rnc (Qcg rfl) (rnc (.plain _ nll) (rnc (.plain _ nll) (rnc (.plain _ nll) (rnc (Qav rn0 (rnc (Qa0 rfl) (rnc (Qa0 rfl) rn0))) rn0)))))) (slc (Qa8 Qab) (slc (Qag (rnc (Qav rn0 (rnc (Qa0 rfl) (rnc (Qa0 rfl) rn0))) rn0)) (slc (Qag (rnc (.plain _ (nld Qab _)) rn0)) (slc (Qag (rnc (.plain _ nll) rn0)) (slc (Qag (rnc (.plain _ nll) rn0)) Qaq))))) (slc (Qa8 Qab) (slc (Qag (rnc (Qav rn0 (rnc (Qbb rfl) (rnc (Qbb rfl) rn0))) rn0)) (slc (Qag (rnc (.plain _ (nld Qab _)) rn0)) (slc (Qag (rnc (.plain _ nll) rn0)) (slc (Qag (rnc (.plain _ nll) rn0)) Qaq))))) (.plain _ (NLt.tup _ nl0)) rfl rfl rfl, trivial⟩ ?_
          obtain rfl := osi h
          exact ⟨_, (mto (n := 220) (l' := []) (own' := [(Qs5 x23), (.own 1 [[Qcu]]), (.own 1 [[(Qct p5)]]), (.own 1 [[I p6]]), (.own 1 [[I p7]])]) [] [0, 1, 2, 3, 4] [(Qs5 x23), (.own 1 [[Qcu]]), (.own 1 [[(Qct p5)]]), (.own 1 [[I p6]]), (.own 1 [[I p7]])] hφ0 pn (qc (spr Qab) (qc (spb (lc (.rn (Qav rn0 (rnc (rqr rfl) (rnc (rqr rfl) rn0)))) ln)) (qc (spb (lc (.rn (.plain _ (nld Qab _))) ln)) (qc (spb (lc rwl ln)) (qc (spb (lc rwl ln)) qn)))))), Qcz (vs := []) trivial rfl (NLt.tup _ nl0) (by kernel_rfl) (Qal (Qb0 Qab _) (Qal (Qa4 (nlc (NLt.fn _ _ _ nl0 (nlc (NLt.ref _ _ _ _ (by decide)) (nlc (NLt.ref _ _ _ _ (by decide)) nl0))) nl0)) (Qal (Qa4 (nlc (NLt.of0 (nld Qab _)) nl0)) (Qal (Qa4 (nlc (NLt.of0 nll) nl0)) (Qal (Qa4 (nlc (NLt.of0 nll) nl0)) Qbn)))))⟩
         ·replace h := Qax hc21 h
          refine wfn hc21 (by kernel_rfl) ?_
          refine Qap ?_
          obtain rfl := osi h
          exact ⟨_, (mto (n := 220) (l' := []) (own' := [(Qm1 y18), (.own 1 [[Qcu]]), (.own 1 [[(Qct p5)]]), (.own 1 [[I p6]]), (.own 1 [[I p7]])]) [] [0, 1, 2, 3, 4] [(Qm1 y18), (.own 1 [[Qcu]]), (.own 1 [[(Qct p5)]]), (.own 1 [[I p6]]), (.own 1 [[I p7]])] hφ0 pn (qc (spr Qab) (qc (spb (lc (.rn (Qav rn0 (rnc (rqr rfl) (rnc (rqr rfl) rn0)))) ln)) (qc (spb (lc (.rn (.plain _ (nld Qab _))) ln)) (qc (spb (lc rwl ln)) (qc (spb (lc rwl ln)) qn)))))), Qcz (vs := []) trivial rfl (NLt.tup _ nl0) (by kernel_rfl) (Qal (Qb0 Qab _) (Qal (Qa4 (nlc (NLt.fn _ _ _ nl0 (nlc (NLt.ref _ _ _ _ (by decide)) (nlc (NLt.ref _ _ _ _ (by decide)) nl0))) nl0)) (Qal (Qa4 (nlc (NLt.of0 (nld Qab _)) nl0)) (Qal (Qa4 (nlc (NLt.of0 nll) nl0)) (Qal (Qa4 (nlc (NLt.of0 nll) nl0)) Qbn)))))⟩
        ·replace h := Qax hb20 h
         refine wx tbk [(3, rp [(.tmp 208, (B ((decide (x5 < x14)))))] (B false))] ⟨asb hb20 (amv rfl), trivial⟩ ?_
         refine Qgt (by kernel_rfl) ?_
         refine Qap ?_
         obtain rfl := osi h
         exact ⟨_, (mto (n := 220) (l' := []) (own' := [(Qm1 y18), (.own 1 [[Qcu]]), (.own 1 [[(Qct p5)]]), (.own 1 [[I p6]]), (.own 1 [[I p7]])]) [] [0, 1, 2, 3, 4] [(Qm1 y18), (.own 1 [[Qcu]]), (.own 1 [[(Qct p5)]]), (.own 1 [[I p6]]), (.own 1 [[I p7]])] hφ0 pn (qc (spr Qab) (qc (spb (lc (.rn (Qav rn0 (rnc (rqr rfl) (rnc (rqr rfl) rn0)))) ln)) (qc (spb (lc (.rn (.plain _ (nld Qab _))) ln)) (qc (spb (lc rwl ln)) (qc (spb (lc rwl ln)) qn)))))), Qcz (vs := []) trivial rfl (NLt.tup _ nl0) (by kernel_rfl) (Qal (Qb0 Qab _) (Qal (Qa4 (nlc (NLt.fn _ _ _ nl0 (nlc (NLt.ref _ _ _ _ (by decide)) (nlc (NLt.ref _ _ _ _ (by decide)) nl0))) nl0)) (Qal (Qa4 (nlc (NLt.of0 (nld Qab _)) nl0)) (Qal (Qa4 (nlc (NLt.of0 nll) nl0)) (Qal (Qa4 (nlc (NLt.of0 nll) nl0)) Qbn)))))⟩
       ·skip
        rcases bft ((decide (p1 < y12))) with hb24 | hb24
        ·replace h := Qaw hb24 h
         refine wx tbk [(3, rp [(.tmp 194, (B ((decide (p1 < y12)))))] (B true))] ⟨asb hb24 (amv rfl), trivial⟩ ?_
         rcases bft ((decide (y12 < x5))) with hc25 | hc25
         ·replace h := Qaw hc25 h
          refine wft hc25 (by kernel_rfl) ?_
          obtain ⟨x27, hf26, h⟩ := bno h
          refine wx1 tbk [(5, ⟨[fu 110, (.tmp 200, (.own 0 1 (0) (p0))), (.tmp 201, I p1), (.tmp 202, I y12), (.tmp 203, I x5), (.tmp 204, Qf8)], [(0, (Qqa y16)), (1, .own 1 [[Qcu]]), (2, (.own 1 [[(Qct p5)]])), (3, .own 1 [[I p6]]), (4, .own 1 [[I p7]])], (.tup []), [(0, (.own 1 ((x27 : List Int).map Qaj))), (1, .own 1 [[Qcu]]), (2, (.own 1 [[(Qct p5)]])), (3, .own 1 [[I p6]]), (4, .own 1 [[I p7]])], false⟩)] ⟨Qar (first := []) (cap := []) (vs := [(.own 0 1 (0) (p0)), I p1, I y12, I x5, Qf8]) (σr := [(Qqa y16), (.own 1 [[Qcu]]), (.own 1 [[(Qct p5)]]), (.own 1 [[I p6]]), (.own 1 [[I p7]])]) (σr' := [(.own 1 ((x27 : List Int).map Qaj)), (.own 1 [[Qcu]]), (.own 1 [[(Qct p5)]]), (.own 1 [[I p6]]), (.own 1 [[I p7]])]) (res' := (.tup [])) [0, 1, 2, 3, 4] rfl Qp5 (ihX p0 p1 y12 x5 y16 p5 p6 p7 _ hf26) rfl (Qbm (rnc (Qcg rfl) (rnc (.plain _ nll) (rnc (.plain _ nll) (rnc (.plain _ nll) (rnc (Qav rn0 (rnc (Qa0 rfl) (rnc (Qa0 rfl) rn0))) rn0)))))) (slc (Qa8 Qab) (slc (Qag (rnc (Qav rn0 (rnc (Qa0 rfl) (rnc (Qa0 rfl) rn0))) rn0)) (slc (Qag (rnc (.plain _ (nld Qab _)) rn0)) (slc (Qag (rnc (.plain _ nll) rn0)) (slc (Qag (rnc (.plain _ nll) rn0)) Qaq))))) (slc (Qa8 Qab) (slc (Qag (rnc (Qav rn0 (rnc (Qbb rfl) (rnc (Qbb rfl) rn0))) rn0)) (slc (Qag (rnc (.plain _ (nld Qab _)) rn0)) (slc (Qag (rnc (.plain _ nll) rn0)) (slc (Qag (rnc (.plain _ nll) rn0)) Qaq))))) (.plain _ (NLt.tup _ nl0)) rfl rfl rfl, trivial⟩ ?_
          refine thn ?_
          exact ⟨(x27), h, (mto (n := 220) [(0, (.own 0 1 (0) (p0))), (3, I p3), (4, Qf8), (18, I x5), (24, I x14)] [0, 1, 2, 3, 4] [(.own 1 ((x27 : List Int).map Qaj)), (.own 1 [[Qcu]]), (.own 1 [[(Qct p5)]]), (.own 1 [[I p6]]), (.own 1 [[I p7]])] hφ0 (pc (.rn (Qaz rfl)) (pc rwl (pc (.rn (Qav rn0 (rnc (rqr rfl) (rnc (rqr rfl) rn0)))) (pc rwl (pc rwl pn))))) (qc (spr Qab) (qc (spb (lc (.rn (Qav rn0 (rnc (rqr rfl) (rnc (rqr rfl) rn0)))) ln)) (qc (spb (lc (.rn (.plain _ (nld Qab _))) ln)) (qc (spb (lc rwl ln)) (qc (spb (lc rwl ln)) qn))))))⟩
         ·replace h := Qax hc25 h
          refine wfn hc25 (by kernel_rfl) ?_
          refine Qap ?_
          refine thn ?_
          exact ⟨(y16), h, (mto (n := 220) [(0, (.own 0 1 (0) (p0))), (3, I p3), (4, Qf8), (18, I x5), (24, I x14)] [0, 1, 2, 3, 4] [(Qqa y16), (.own 1 [[Qcu]]), (.own 1 [[(Qct p5)]]), (.own 1 [[I p6]]), (.own 1 [[I p7]])] hφ0 (pc (.rn (Qaz rfl)) (pc rwl (pc (.rn (Qav rn0 (rnc (rqr rfl) (rnc (rqr rfl) rn0)))) (pc rwl (pc rwl pn))))) (qc (spr Qab) (qc (spb (lc (.rn (Qav rn0 (rnc (rqr rfl) (rnc (rqr rfl) rn0)))) ln)) (qc (spb (lc (.rn (.plain _ (nld Qab _))) ln)) (qc (spb (lc rwl ln)) (qc (spb (lc rwl ln)) qn))))))⟩
        ·replace h := Qax hb24 h
         refine wx tbk [(3, rp [(.tmp 194, (B ((decide (p1 < y12)))))] (B false))] ⟨asb hb24 (amv rfl), trivial⟩ ?_
         refine Qgt (by kernel_rfl) ?_
         refine Qap ?_
         refine thn ?_
         exact ⟨(y16), h, (mto (n := 220) [(0, (.own 0 1 (0) (p0))), (3, I p3), (4, Qf8), (18, I x5), (24, I x14)] [0, 1, 2, 3, 4] [(Qqa y16), (.own 1 [[Qcu]]), (.own 1 [[(Qct p5)]]), (.own 1 [[I p6]]), (.own 1 [[I p7]])] hφ0 (pc (.rn (Qaz rfl)) (pc rwl (pc (.rn (Qav rn0 (rnc (rqr rfl) (rnc (rqr rfl) rn0)))) (pc rwl (pc rwl pn))))) (qc (spr Qab) (qc (spb (lc (.rn (Qav rn0 (rnc (rqr rfl) (rnc (rqr rfl) rn0)))) ln)) (qc (spb (lc (.rn (.plain _ (nld Qab _))) ln)) (qc (spb (lc rwl ln)) (qc (spb (lc rwl ln)) qn))))))⟩
      ·skip
       rcases bft ((decide (y12 < p2))) with hb28 | hb28
       ·replace h := Qaw hb28 h
        refine wx tbk [(3, rp [(.tmp 180, (B ((decide (y12 < p2)))))] (B true))] ⟨asb hb28 (amv rfl), trivial⟩ ?_
        rcases bft ((decide (p2 < x14))) with hc29 | hc29
        ·replace h := Qaw hc29 h
         refine wft hc29 (by kernel_rfl) ?_
         obtain ⟨x31, hf30, h⟩ := bno h
         refine wx1 tbk [(5, ⟨[fu 111, (.tmp 186, (.own 0 1 (0) (p0))), (.tmp 187, I y12), (.tmp 188, I p2), (.tmp 189, I x14), (.tmp 190, Qf8)], [(0, (Qe5 p4)), (1, .own 1 [[Qcu]]), (2, (.own 1 [[(Qct p5)]])), (3, .own 1 [[I p6]]), (4, .own 1 [[I p7]])], (.tup []), [(0, (.own 1 ((x31 : List Int).map Qaj))), (1, .own 1 [[Qcu]]), (2, (.own 1 [[(Qct p5)]])), (3, .own 1 [[I p6]]), (4, .own 1 [[I p7]])], false⟩)] ⟨Qar (first := []) (cap := []) (vs := [(.own 0 1 (0) (p0)), I y12, I p2, I x14, Qf8]) (σr := [(Qe5 p4), (.own 1 [[Qcu]]), (.own 1 [[(Qct p5)]]), (.own 1 [[I p6]]), (.own 1 [[I p7]])]) (σr' := [(.own 1 ((x31 : List Int).map Qaj)), (.own 1 [[Qcu]]), (.own 1 [[(Qct p5)]]), (.own 1 [[I p6]]), (.own 1 [[I p7]])]) (res' := (.tup [])) [0, 1, 2, 3, 4] rfl Q7h (Qiq N p0 y12 p2 x14 p4 p5 p6 p7 _ hf30) rfl (Qbm (rnc (Qcg rfl) (rnc (.plain _ nll) (rnc (.plain _ nll) (rnc (.plain _ nll) (rnc (Qav rn0 (rnc (Qa0 rfl) (rnc (Qa0 rfl) rn0))) rn0)))))) (slc (Qa8 Qab) (slc (Qag (rnc (Qav rn0 (rnc (Qa0 rfl) (rnc (Qa0 rfl) rn0))) rn0)) (slc (Qag (rnc (.plain _ (nld Qab _)) rn0)) (slc (Qag (rnc (.plain _ nll) rn0)) (slc (Qag (rnc (.plain _ nll) rn0)) Qaq))))) (slc (Qa8 Qab) (slc (Qag (rnc (Qav rn0 (rnc (Qbb rfl) (rnc (Qbb rfl) rn0))) rn0)) (slc (Qag (rnc (.plain _ (nld Qab _)) rn0)) (slc (Qag (rnc (.plain _ nll) rn0)) (slc (Qag (rnc (.plain _ nll) rn0)) Qaq))))) (.plain _ (NLt.tup _ nl0)) rfl rfl rfl, trivial⟩ ?_
         refine thn ?_
         exact ⟨(x31), h, (mto (n := 220) [(0, (.own 0 1 (0) (p0))), (1, I p1), (3, I p3), (4, Qf8), (18, I x5), (20, I y12), (24, I x14)] [0, 1, 2, 3, 4] [(.own 1 ((x31 : List Int).map Qaj)), (.own 1 [[Qcu]]), (.own 1 [[(Qct p5)]]), (.own 1 [[I p6]]), (.own 1 [[I p7]])] hφ0 (pc (.rn (Qaz rfl)) (pc rwl (pc rwl (pc (.rn (Qav rn0 (rnc (rqr rfl) (rnc (rqr rfl) rn0)))) (pc rwl (pc rwl (pc rwl pn))))))) (qc (spr Qab) (qc (spb (lc (.rn (Qav rn0 (rnc (rqr rfl) (rnc (rqr rfl) rn0)))) ln)) (qc (spb (lc (.rn (.plain _ (nld Qab _))) ln)) (qc (spb (lc rwl ln)) (qc (spb (lc rwl ln)) qn))))))⟩
        ·replace h := Qax hc29 h
         refine wfn hc29 (by kernel_rfl) ?_
         refine Qap ?_
         refine thn ?_
         exact ⟨(p4), h, (mto (n := 220) [(0, (.own 0 1 (0) (p0))), (1, I p1), (3, I p3), (4, Qf8), (18, I x5), (20, I y12), (24, I x14)] [0, 1, 2, 3, 4] [(Qe5 p4), (.own 1 [[Qcu]]), (.own 1 [[(Qct p5)]]), (.own 1 [[I p6]]), (.own 1 [[I p7]])] hφ0 (pc (.rn (Qaz rfl)) (pc rwl (pc rwl (pc (.rn (Qav rn0 (rnc (rqr rfl) (rnc (rqr rfl) rn0)))) (pc rwl (pc rwl (pc rwl pn))))))) (qc (spr Qab) (qc (spb (lc (.rn (Qav rn0 (rnc (rqr rfl) (rnc (rqr rfl) rn0)))) ln)) (qc (spb (lc (.rn (.plain _ (nld Qab _))) ln)) (qc (spb (lc rwl ln)) (qc (spb (lc rwl ln)) qn))))))⟩
       ·replace h := Qax hb28 h
        refine wx tbk [(3, rp [(.tmp 180, (B ((decide (y12 < p2)))))] (B false))] ⟨asb hb28 (amv rfl), trivial⟩ ?_
        refine Qgt (by kernel_rfl) ?_
        refine Qap ?_
        refine thn ?_
        exact ⟨(p4), h, (mto (n := 220) [(0, (.own 0 1 (0) (p0))), (1, I p1), (3, I p3), (4, Qf8), (18, I x5), (20, I y12), (24, I x14)] [0, 1, 2, 3, 4] [(Qe5 p4), (.own 1 [[Qcu]]), (.own 1 [[(Qct p5)]]), (.own 1 [[I p6]]), (.own 1 [[I p7]])] hφ0 (pc (.rn (Qaz rfl)) (pc rwl (pc rwl (pc (.rn (Qav rn0 (rnc (rqr rfl) (rnc (rqr rfl) rn0)))) (pc rwl (pc rwl (pc rwl pn))))))) (qc (spr Qab) (qc (spb (lc (.rn (Qav rn0 (rnc (rqr rfl) (rnc (rqr rfl) rn0)))) ln)) (qc (spb (lc (.rn (.plain _ (nld Qab _))) ln)) (qc (spb (lc rwl ln)) (qc (spb (lc rwl ln)) qn))))))⟩
     ·skip
      refine Qan ?_
      refine wmr (mto (n := 220) (l' := [(0, (.own 0 1 (0) (p0))), (1, I p1), (2, I p2), (3, I p3), (4, Qf8), (18, I x5), (19, (I (w64 (x5 + p2)))), (20, I y7), (21, I y8), (22, I x10)]) (own' := [(Qe5 p4), (.own 1 [[Qcu]]), (.own 1 [[(Qct p5)]]), (.own 1 [[I p6]]), (.own 1 [[I p7]])]) [(0, (.own 0 1 (0) (p0))), (1, I p1), (2, I p2), (3, I p3), (4, Qf8), (18, I x5), (19, (I (w64 (x5 + p2)))), (20, I y7), (21, I y8), (22, I x10)] [0, 1, 2, 3, 4] [(Qe5 p4), (.own 1 [[Qcu]]), (.own 1 [[(Qct p5)]]), (.own 1 [[I p6]]), (.own 1 [[I p7]])] hφ0 (pc (.rn (Qaz rfl)) (pc rwl (pc rwl (pc rwl (pc (.rn (Qav rn0 (rnc (rqr rfl) (rnc (rqr rfl) rn0)))) (pc rwl (pc rwl (pc rwl (pc rwl (pc rwl pn)))))))))) (qc (spr Qab) (qc (spb (lc (.rn (Qav rn0 (rnc (rqr rfl) (rnc (rqr rfl) rn0)))) ln)) (qc (spb (lc (.rn (.plain _ (nld Qab _))) ln)) (qc (spb (lc rwl ln)) (qc (spb (lc rwl ln)) qn)))))) ?_
      refine Qby (τ := Int × Int) (fun n t => Qbt N p0 p4 p5 p6 p7 x10 k13 n t.1 t.2 = some r) (fun ⟨y32, y33⟩ => ⟨mk 220 [(0, (.own 0 1 (0) (p0))), (1, I p1), (2, I p2), (3, I p3), (4, Qf8), (18, I x5), (19, (I (w64 (x5 + p2)))), (20, I y32), (21, I y33), (22, I x10)], [(Qe5 p4), (.own 1 [[Qcu]]), (.own 1 [[(Qct p5)]]), (.own 1 [[I p6]]), (.own 1 [[I p7]])]⟩) (fun t h => by rw [Qbt] at h; cases h) (fun n36 ih t h => ?_) N (y7, y8) h
      obtain ⟨y32, y33⟩ := t
      rw [Qbt] at h
      skip
      refine wsq ?_
      refine wx tbk [] trivial ?_
      rcases bft ((decide (y32 < y33))) with hc37 | hc37
      ·replace h := Qaw hc37 h
       refine wft hc37 (by kernel_rfl) ?_
       refine Qap ?_
       refine thn ?_
       refine Qan ?_
       obtain ⟨x38, hl39, h⟩ := bno h
       refine wx tbk [(3, rp [(.tmp 154, (I (w64 (y32 + y33))))] (K .u64 (IntKind.wrap .u64 (w64 (y32 + y33))))), (4, rp [(.tmp 155, (K .u64 (IntKind.wrap .u64 (w64 (y32 + y33))))), (.const (.int .u64 1), (K .u64 (1)))] (K .u64 ((IntKind.wrap .u64 (w64 (y32 + y33))) / 2))), (5, rp [(.tmp 156, (K .u64 ((IntKind.wrap .u64 (w64 (y32 + y33))) / 2)))] (I (w64 ((IntKind.wrap .u64 (w64 (y32 + y33))) / 2)))), (6, rp [(.tmp 157, (I (w64 ((IntKind.wrap .u64 (w64 (y32 + y33))) / 2))))] (I x38))] ⟨acv rfl (by rw [Try.underlying3]; rfl) Try.underlying169, Qof rfl (by decide) (by decide), acv rfl (by rw [Try.underlying169]; rfl) Try.underlying3, Qgj hl39 (aas rfl), trivial⟩ ?_
       obtain ⟨hi40, h⟩ := cko h
       obtain ⟨hi40a, hi40b⟩ := Qcy hi40
       obtain ⟨x41, hg42, h⟩ := bno h
       obtain ⟨hi43, h⟩ := cko h
       obtain ⟨hi43a, hi43b⟩ := Qcy hi43
       obtain ⟨x44, hg45, h⟩ := bno h
       obtain ⟨x47, hf46, h⟩ := bno h
       refine wxd tbk [(5, rb [(.tmp 159, (.own 0 1 (0) (p0))), (.tmp 162, (I (w64 (x10 - x38))))] [(0, (Qe5 p4))] (.ref 0 1 ((w64 (x10 - x38)).toNat) 0)), (6, rb [(.tmp 163, (.ref 0 1 ((w64 (x10 - x38)).toNat) 0))] [(0, (Qe5 p4))] (I x41)), (9, rb [(.tmp 165, (.own 0 1 (0) (p0))), (.tmp 166, I x38)] [(0, (Qe5 p4))] (.ref 0 1 (x38.toNat) 0)), (10, rb [(.tmp 167, (.ref 0 1 (x38.toNat) 0))] [(0, (Qe5 p4))] (I x44)), (11, ⟨[(.tmp 158, Qf8), (.tmp 164, I x41), (.tmp 168, I x44)], [(1, .own 1 [[Qcu]]), (2, (.own 1 [[(Qct p5)]])), (3, .own 1 [[I p6]]), (4, .own 1 [[I p7]])], I x47, [(1, .own 1 [[Qcu]]), (2, (.own 1 [[(Qct p5)]])), (3, .own 1 [[I p6]]), (4, .own 1 [[I p7]])], false⟩)] ⟨aio rfl Try.underlying27 ti3 (odt hi40a) (odt hi40b) (Nat.zero_add _), ald rfl ti3 (by decide) (mgt Qaj hg42) (nle rfl) rfl, aio rfl Try.underlying27 ti3 (odt hi43a) (odt hi43b) (Nat.zero_add _), ald rfl ti3 (by decide) (mgt Qaj hg45) (nle rfl) rfl, Qar (first := []) (cap := [.ref 1 1 0 0, .ref 2 1 0 0]) (vs := [I x41, I x44]) (σr := [(.own 1 [[Qcu]]), (.own 1 [[(Qct p5)]]), (.own 1 [[I p6]]), (.own 1 [[I p7]])]) (σr' := [(.own 1 [[Qcu]]), (.own 1 [[(Qct p5)]]), (.own 1 [[I p6]]), (.own 1 [[I p7]])]) (res' := (I x47)) [1, 2, 3, 4] rfl Qp6 (Qes N x41 x44 p5 p6 p7 _ hf46) rfl (Qbm (rnc (.plain _ nll) (rnc (.plain _ nll) (rnc (Qa0 rfl) (rnc (Qa0 rfl) rn0))))) (slc (Qag (rnc (Qav rn0 (rnc (Qa0 rfl) (rnc (Qa0 rfl) rn0))) rn0)) (slc (Qag (rnc (.plain _ (nld Qab _)) rn0)) (slc (Qag (rnc (.plain _ nll) rn0)) (slc (Qag (rnc (.plain _ nll) rn0)) Qaq)))) (slc (Qag (rnc (Qav rn0 (rnc (Qbb rfl) (rnc (Qbb rfl) rn0))) rn0)) (slc (Qag (rnc (.plain _ (nld Qab _)) rn0)) (slc (Qag (rnc (.plain _ nll) rn0)) (slc (Qag (rnc (.plain _ nll) rn0)) Qaq)))) (.plain _ nll) rfl rfl rfl, trivial⟩ ?_
       rcases bft ((!(decide (x47 < 0)))) with hc48 | hc48
       ·replace h := Qaw hc48 h
        refine wft hc48 (by kernel_rfl) ?_
        refine wx1 tbk [] trivial ?_
        refine bln ?_
        refine thn ?_
        exact arm (mto (n := 220) [(0, (.own 0 1 (0) (p0))), (1, I p1), (2, I p2), (3, I p3), (4, Qf8), (18, I x5), (19, (I (w64 (x5 + p2)))), (20, (I (w64 (x38 + 1)))), (21, I y33), (22, I x10)] [0, 1, 2, 3, 4] [(Qe5 p4), (.own 1 [[Qcu]]), (.own 1 [[(Qct p5)]]), (.own 1 [[I p6]]), (.own 1 [[I p7]])] hφ0 (pc (.rn (Qaz rfl)) (pc rwl (pc rwl (pc rwl (pc (.rn (Qav rn0 (rnc (rqr rfl) (rnc (rqr rfl) rn0)))) (pc rwl (pc rwl (pc rwl (pc rwl (pc rwl pn)))))))))) (qc (spr Qab) (qc (spb (lc (.rn (Qav rn0 (rnc (rqr rfl) (rnc (rqr rfl) rn0)))) ln)) (qc (spb (lc (.rn (.plain _ (nld Qab _))) ln)) (qc (spb (lc rwl ln)) (qc (spb (lc rwl ln)) qn)))))) (ih (w64 (x38 + 1), y33) h)
       ·replace h := Qax hc48 h
        refine wfn hc48 (by kernel_rfl) ?_
        refine wx1 tbk [] trivial ?_
        refine bln ?_
        refine thn ?_
        exact arm (mto (n := 220) [(0, (.own 0 1 (0) (p0))), (1, I p1), (2, I p2), (3, I p3), (4, Qf8), (18, I x5), (19, (I (w64 (x5 + p2)))), (20, I y32), (21, I x38), (22, I x10)] [0, 1, 2, 3, 4] [(Qe5 p4), (.own 1 [[Qcu]]), (.own 1 [[(Qct p5)]]), (.own 1 [[I p6]]), (.own 1 [[I p7]])] hφ0 (pc (.rn (Qaz rfl)) (pc rwl (pc rwl (pc rwl (pc (.rn (Qav rn0 (rnc (rqr rfl) (rnc (rqr rfl) rn0)))) (pc rwl (pc rwl (pc rwl (pc rwl (pc rwl pn)))))))))) (qc (spr Qab) (qc (spb (lc (.rn (Qav rn0 (rnc (rqr rfl) (rnc (rqr rfl) rn0)))) ln)) (qc (spb (lc (.rn (.plain _ (nld Qab _))) ln)) (qc (spb (lc rwl ln)) (qc (spb (lc rwl ln)) qn)))))) (ih (y32, x38) h)
      ·replace h := Qax hc37 h
       refine wfn hc37 (by kernel_rfl) ?_
       refine Qbi ?_
       refine Qay ?_
       refine Qay ?_
       refine Qbh rfl ?_
       refine thn ?_
       exact ⟨(y32), h, (mto (n := 220) [(0, (.own 0 1 (0) (p0))), (1, I p1), (2, I p2), (3, I p3), (4, Qf8), (18, I x5), (19, (I (w64 (x5 + p2)))), (20, I y32)] [0, 1, 2, 3, 4] [(Qe5 p4), (.own 1 [[Qcu]]), (.own 1 [[(Qct p5)]]), (.own 1 [[I p6]]), (.own 1 [[I p7]])] hφ0 (pc (.rn (Qaz rfl)) (pc rwl (pc rwl (pc rwl (pc (.rn (Qav rn0 (rnc (rqr rfl) (rnc (rqr rfl) rn0)))) (pc rwl (pc rwl (pc rwl pn)))))))) (qc (spr Qab) (qc (spb (lc (.rn (Qav rn0 (rnc (rqr rfl) (rnc (rqr rfl) rn0)))) ln)) (qc (spb (lc (.rn (.plain _ (nld Qab _))) ln)) (qc (spb (lc rwl ln)) (qc (spb (lc rwl ln)) qn))))))⟩
    ·skip
     refine wx tbk [] trivial ?_
     rcases bft ((decide (p2 > x5))) with hc49 | hc49
     ·replace h := Qaw hc49 h
      refine wft hc49 (by kernel_rfl) ?_
      obtain ⟨x50, hl51, h⟩ := bno h
      refine wx tbk [(3, rp [(.tmp 143, (I (w64 ((w64 (x5 + p2)) - p3))))] (I x50))] ⟨Qgj hl51 (aas rfl), trivial⟩ ?_
      refine wx1 tbk [] trivial ?_
      refine thn ?_
      exact ⟨(x50, x5), h, (mto (n := 220) [(0, (.own 0 1 (0) (p0))), (1, I p1), (2, I p2), (3, I p3), (4, Qf8), (18, I x5), (19, (I (w64 (x5 + p2)))), (20, I x50), (21, I x5)] [0, 1, 2, 3, 4] [(Qe5 p4), (.own 1 [[Qcu]]), (.own 1 [[(Qct p5)]]), (.own 1 [[I p6]]), (.own 1 [[I p7]])] hφ0 (pc (.rn (Qaz rfl)) (pc rwl (pc rwl (pc rwl (pc (.rn (Qav rn0 (rnc (rqr rfl) (rnc (rqr rfl) rn0)))) (pc rwl (pc rwl (pc rwl (pc rwl pn))))))))) (qc (spr Qab) (qc (spb (lc (.rn (Qav rn0 (rnc (rqr rfl) (rnc (rqr rfl) rn0)))) ln)) (qc (spb (lc (.rn (.plain _ (nld Qab _))) ln)) (qc (spb (lc rwl ln)) (qc (spb (lc rwl ln)) qn))))))⟩
     ·replace h := Qax hc49 h
      refine wfn hc49 (by kernel_rfl) ?_
      refine wx tbk [] trivial ?_
      refine wx1 tbk [] trivial ?_
      refine thn ?_
      exact ⟨(p1, p2), h, (mto (n := 220) [(0, (.own 0 1 (0) (p0))), (1, I p1), (2, I p2), (3, I p3), (4, Qf8), (18, I x5), (19, (I (w64 (x5 + p2)))), (20, I p1), (21, I p2)] [0, 1, 2, 3, 4] [(Qe5 p4), (.own 1 [[Qcu]]), (.own 1 [[(Qct p5)]]), (.own 1 [[I p6]]), (.own 1 [[I p7]])] hφ0 (pc (.rn (Qaz rfl)) (pc rwl (pc rwl (pc rwl (pc (.rn (Qav rn0 (rnc (rqr rfl) (rnc (rqr rfl) rn0)))) (pc rwl (pc rwl (pc rwl (pc rwl pn))))))))) (qc (spr Qab) (qc (spb (lc (.rn (Qav rn0 (rnc (rqr rfl) (rnc (rqr rfl) rn0)))) ln)) (qc (spb (lc (.rn (.plain _ (nld Qab _))) ln)) (qc (spb (lc rwl ln)) (qc (spb (lc rwl ln)) qn))))))⟩
   ·skip
    refine wx tbk [] trivial ?_
    rcases bft (((w64 (p3 - p2)) == 1)) with hc52 | hc52
    ·replace h := Qaw hc52 h
     refine wft hc52 (by kernel_rfl) ?_
     refine wx tbk [] trivial ?_
     refine wx tbk [] trivial ?_
     obtain ⟨k54, hk_k54, h⟩ := jko h
     refine wjn (τ := Int) (fun t => k54 t = some r) (fun y53 => ⟨mk 220 [(0, (.own 0 1 (0) (p0))), (2, I p2), (14, I y53)], [(Qe5 p4), (.own 1 [[Qcu]]), (.own 1 [[(Qct p5)]]), (.own 1 [[I p6]]), (.own 1 [[I p7]])]⟩) (fun y53 h => ?_) ?_
     ·subst hk_k54
      obtain ⟨k56, hk_k56, h⟩ := jko h
      refine wjn (τ := (List Int)) (fun t => k56 t = some r) (fun y55 => ⟨mk 220 [], [(.own 1 ((y55 : List Int).map Qaj)), (.own 1 [[Qcu]]), (.own 1 [[(Qct p5)]]), (.own 1 [[I p6]]), (.own 1 [[I p7]])]⟩) (fun y55 h => ?_) ?_
      ·subst hk_k56
       refine wmr (mto (n := 220) (l' := []) (own' := [(.own 1 ((y55 : List Int).map Qaj)), (.own 1 [[Qcu]]), (.own 1 [[(Qct p5)]]), (.own 1 [[I p6]]), (.own 1 [[I p7]])]) [] [0, 1, 2, 3, 4] [(.own 1 ((y55 : List Int).map Qaj)), (.own 1 [[Qcu]]), (.own 1 [[(Qct p5)]]), (.own 1 [[I p6]]), (.own 1 [[I p7]])] hφ0 pn (qc (spr Qab) (qc (spb (lc (.rn (Qav rn0 (rnc (rqr rfl) (rnc (rqr rfl) rn0)))) ln)) (qc (spb (lc (.rn (.plain _ (nld Qab _))) ln)) (qc (spb (lc rwl ln)) (qc (spb (lc rwl ln)) qn)))))) ?_
       refine Qad ?_
       refine Qaf ?_
       obtain rfl := osi h
       exact ⟨_, Mor.rfl, Qcz (vs := []) trivial rfl (NLt.tup _ nl0) (by kernel_rfl) (Qal (Qb0 Qab _) (Qal (Qa4 (nlc (NLt.fn _ _ _ nl0 (nlc (NLt.ref _ _ _ _ (by decide)) (nlc (NLt.ref _ _ _ _ (by decide)) nl0))) nl0)) (Qal (Qa4 (nlc (NLt.of0 (nld Qab _)) nl0)) (Qal (Qa4 (nlc (NLt.of0 nll) nl0)) (Qal (Qa4 (nlc (NLt.of0 nll) nl0)) Qbn)))))⟩
      ·skip
       refine wx tbk [] trivial ?_
       refine Qan ?_
       refine wmr (mto (n := 220) (l' := [(0, (.own 0 1 (0) (p0))), (14, I y53), (17, I p2)]) (own' := [(Qe5 p4), (.own 1 [[Qcu]]), (.own 1 [[(Qct p5)]]), (.own 1 [[I p6]]), (.own 1 [[I p7]])]) [(0, (.own 0 1 (0) (p0))), (14, I y53), (17, I p2)] [0, 1, 2, 3, 4] [(Qe5 p4), (.own 1 [[Qcu]]), (.own 1 [[(Qct p5)]]), (.own 1 [[I p6]]), (.own 1 [[I p7]])] hφ0 (pc (.rn (Qaz rfl)) (pc rwl (pc rwl pn))) (qc (spr Qab) (qc (spb (lc (.rn (Qav rn0 (rnc (rqr rfl) (rnc (rqr rfl) rn0)))) ln)) (qc (spb (lc (.rn (.plain _ (nld Qab _))) ln)) (qc (spb (lc rwl ln)) (qc (spb (lc rwl ln)) qn)))))) ?_
       refine Qby (τ := Int × (List Int)) (fun n t => Qcd N p0 y53 k56 n t.1 t.2 = some r) (fun ⟨y57, y58⟩ => ⟨mk 220 [(0, (.own 0 1 (0) (p0))), (14, I y53), (17, I y57)], [(Qlp y58), (.own 1 [[Qcu]]), (.own 1 [[(Qct p5)]]), (.own 1 [[I p6]]), (.own 1 [[I p7]])]⟩) (fun t h => by rw [Qcd] at h; cases h) (fun n61 ih t h => ?_) N (p2, p4) h
       obtain ⟨y57, y58⟩ := t
       rw [Qcd] at h
       skip
       refine wsq ?_
       refine wx tbk [] trivial ?_
       rcases bft ((decide (y57 > y53))) with hc62 | hc62
       ·replace h := Qaw hc62 h
        refine wft hc62 (by kernel_rfl) ?_
        refine Qap ?_
        refine thn ?_
        refine wsq ?_
        refine Qan ?_
        obtain ⟨hi63, h⟩ := cko h
        obtain ⟨hi63a, hi63b⟩ := Qcy hi63
        obtain ⟨x64, hg65, h⟩ := bno h
        obtain ⟨hi66, h⟩ := cko h
        obtain ⟨hi66a, hi66b⟩ := Qcy hi66
        obtain ⟨x67, hg68, h⟩ := bno h
        obtain ⟨hi69, h⟩ := cko h
        obtain ⟨hi69a, hi69b⟩ := Qcy hi69
        obtain ⟨x70, hg71, h⟩ := bno h
        obtain ⟨hi72, h⟩ := cko h
        obtain ⟨hi72a, hi72b⟩ := Qcy hi72
        obtain ⟨x73, hg74, h⟩ := bno h
        refine wy1 tbk [(8, rb [(.tmp 118, (.own 0 1 (0) (p0))), (.tmp 120, (I (w64 (y57 - 1))))] [(0, (Qlp y58))] (.ref 0 1 ((w64 (y57 - 1)).toNat) 0)), (9, rb [(.tmp 121, (.ref 0 1 ((w64 (y57 - 1)).toNat) 0))] [(0, (Qlp y58))] (I x64)), (12, rb [(.tmp 123, (.own 0 1 (0) (p0))), (.tmp 124, I y57)] [(0, (Qlp y58))] (.ref 0 1 (y57.toNat) 0)), (13, rb [(.tmp 125, (.ref 0 1 (y57.toNat) 0))] [(0, (Qlp y58))] (I x67)), (14, rb [(.tmp 113, (.own 0 1 (0) (p0))), (.tmp 114, I y57)] [(0, (Qlp y58))] (.ref 0 1 (y57.toNat) 0)), (15, ⟨[(.tmp 127, (.ref 0 1 (y57.toNat) 0)), (.tmp 122, I x64)], [(0, (Qlp y58))], .any, [(0, (.own 1 ((y58.set y57.toNat x64 : List Int).map Qaj)))], false⟩), (16, rb [(.tmp 115, (.own 0 1 (0) (p0))), (.tmp 117, (I (w64 (y57 - 1))))] [(0, (.own 1 ((y58.set y57.toNat x64 : List Int).map Qaj)))] (.ref 0 1 ((w64 (y57 - 1)).toNat) 0)), (17, ⟨[(.tmp 128, (.ref 0 1 ((w64 (y57 - 1)).toNat) 0)), (.tmp 126, I x67)], [(0, (.own 1 ((y58.set y57.toNat x64 : List Int).map Qaj)))], .any, [(0, (.own 1 (((y58.set y57.toNat x64).set ((w64 (y57 - 1)).toNat) x67 : List Int).map Qaj)))], false⟩)] ⟨aio rfl Try.underlying27 ti3 (odt hi63a) (odt hi63b) (Nat.zero_add _), ald rfl ti3 (by decide) (mgt Qaj hg65) (nle rfl) rfl, aio rfl Try.underlying27 ti3 (odt hi66a) (odt hi66b) (Nat.zero_add _), ald rfl ti3 (by decide) (mgt Qaj hg68) (nle rfl) rfl, aio rfl Try.underlying27 ti3 (odt hi69a) (odt hi69b) (Nat.zero_add _), ast rfl ti3 (by rfl) (mgt Qaj hg71) (nle rfl) (Qfs Qaj rfl), aio rfl Try.underlying27 ti3 (odt hi72a) (odt hi72b) (Nat.zero_add _), ast rfl ti3 (by rfl) (mgt Qaj hg74) (nle rfl) (Qfs Qaj rfl), trivial⟩ ?_
        refine bln ?_
        refine thn ?_
        refine wx1 tbk [] trivial ?_
        refine thn ?_
        exact arm (mto (n := 220) [(0, (.own 0 1 (0) (p0))), (14, I y53), (17, (I (w64 (y57 - 1))))] [0, 1, 2, 3, 4] [(.own 1 (((y58.set y57.toNat x64).set ((w64 (y57 - 1)).toNat) x67 : List Int).map Qaj)), (.own 1 [[Qcu]]), (.own 1 [[(Qct p5)]]), (.own 1 [[I p6]]), (.own 1 [[I p7]])] hφ0 (pc (.rn (Qaz rfl)) (pc rwl (pc rwl pn))) (qc (spr Qab) (qc (spb (lc (.rn (Qav rn0 (rnc (rqr rfl) (rnc (rqr rfl) rn0)))) ln)) (qc (spb (lc (.rn (.plain _ (nld Qab _))) ln)) (qc (spb (lc rwl ln)) (qc (spb (lc rwl ln)) qn)))))) (ih (w64 (y57 - 1), (y58.set y57.toNat x64).set ((w64 (y57 - 1)).toNat) x67) h)
       ·replace h := Qax hc62 h
        refine wfn hc62 (by kernel_rfl) ?_
        refine Qbi ?_
        refine Qay ?_
        refine Qay ?_
        refine Qbh rfl ?_
        refine thn ?_
        exact ⟨(y58), h, (mto (n := 220) [] [0, 1, 2, 3, 4] [(Qlp y58), (.own 1 [[Qcu]]), (.own 1 [[(Qct p5)]]), (.own 1 [[I p6]]), (.own 1 [[I p7]])] hφ0 pn (qc (spr Qab) (qc (spb (lc (.rn (Qav rn0 (rnc (rqr rfl) (rnc (rqr rfl) rn0)))) ln)) (qc (spb (lc (.rn (.plain _ (nld Qab _))) ln)) (qc (spb (lc rwl ln)) (qc (spb (lc rwl ln)) qn))))))⟩
     ·skip
      refine Qan ?_
      refine wmr (mto (n := 220) (l' := [(0, (.own 0 1 (0) (p0))), (2, I p2), (4, Qf8), (14, I p1), (15, I p2)]) (own' := [(Qe5 p4), (.own 1 [[Qcu]]), (.own 1 [[(Qct p5)]]), (.own 1 [[I p6]]), (.own 1 [[I p7]])]) [(0, (.own 0 1 (0) (p0))), (2, I p2), (4, Qf8), (14, I p1), (15, I p2)] [0, 1, 2, 3, 4] [(Qe5 p4), (.own 1 [[Qcu]]), (.own 1 [[(Qct p5)]]), (.own 1 [[I p6]]), (.own 1 [[I p7]])] hφ0 (pc (.rn (Qaz rfl)) (pc rwl (pc (.rn (Qav rn0 (rnc (rqr rfl) (rnc (rqr rfl) rn0)))) (pc rwl (pc rwl pn))))) (qc (spr Qab) (qc (spb (lc (.rn (Qav rn0 (rnc (rqr rfl) (rnc (rqr rfl) rn0)))) ln)) (qc (spb (lc (.rn (.plain _ (nld Qab _))) ln)) (qc (spb (lc rwl ln)) (qc (spb (lc rwl ln)) qn)))))) ?_
      refine Qby (τ := Int × Int) (fun n t => Qbs N p0 p2 p4 p5 p6 p7 k54 n t.1 t.2 = some r) (fun ⟨y75, y76⟩ => ⟨mk 220 [(0, (.own 0 1 (0) (p0))), (2, I p2), (4, Qf8), (14, I y75), (15, I y76)], [(Qe5 p4), (.own 1 [[Qcu]]), (.own 1 [[(Qct p5)]]), (.own 1 [[I p6]]), (.own 1 [[I p7]])]⟩) (fun t h => by rw [Qbs] at h; cases h) (fun n79 ih t h => ?_) N (p1, p2) h
      obtain ⟨y75, y76⟩ := t
      rw [Qbs] at h
      skip
      refine wsq ?_
      refine wx tbk [] trivial ?_
      rcases bft ((decide (y75 < y76))) with hc80 | hc80
      ·replace h := Qaw hc80 h
       refine wft hc80 (by kernel_rfl) ?_
       refine Qap ?_
       refine thn ?_
       refine Qan ?_
       obtain ⟨x81, hl82, h⟩ := bno h
       refine wx tbk [(3, rp [(.tmp 88, (I (w64 (y75 + y76))))] (K .u64 (IntKind.wrap .u64 (w64 (y75 + y76))))), (4, rp [(.tmp 89, (K .u64 (IntKind.wrap .u64 (w64 (y75 + y76))))), (.const (.int .u64 1), (K .u64 (1)))] (K .u64 ((IntKind.wrap .u64 (w64 (y75 + y76))) / 2))), (5, rp [(.tmp 90, (K .u64 ((IntKind.wrap .u64 (w64 (y75 + y76))) / 2)))] (I (w64 ((IntKind.wrap .u64 (w64 (y75 + y76))) / 2)))), (6, rp [(.tmp 91, (I (w64 ((IntKind.wrap .u64 (w64 (y75 + y76))) / 2))))] (I x81))] ⟨acv rfl (by rw [Try.underlying3]; rfl) Try.underlying169, Qof rfl (by decide) (by decide), acv rfl (by rw [Try.underlying169]; rfl) Try.underlying3, Qgj hl82 (aas rfl), trivial⟩ ?_
       obtain ⟨hi83, h⟩ := cko h
       obtain ⟨hi83a, hi83b⟩ := Qcy hi83
       obtain ⟨x84, hg85, h⟩ := bno h
       obtain ⟨hi86, h⟩ := cko h
       obtain ⟨hi86a, hi86b⟩ := Qcy hi86
       obtain ⟨x87, hg88, h⟩ := bno h
       obtain ⟨x90, hf89, h⟩ := bno h
       refine wxd tbk [(3, rb [(.tmp 93, (.own 0 1 (0) (p0))), (.tmp 94, I p2)] [(0, (Qe5 p4))] (.ref 0 1 (p2.toNat) 0)), (4, rb [(.tmp 95, (.ref 0 1 (p2.toNat) 0))] [(0, (Qe5 p4))] (I x84)), (7, rb [(.tmp 97, (.own 0 1 (0) (p0))), (.tmp 98, I x81)] [(0, (Qe5 p4))] (.ref 0 1 (x81.toNat) 0)), (8, rb [(.tmp 99, (.ref 0 1 (x81.toNat) 0))] [(0, (Qe5 p4))] (I x87)), (9, ⟨[(.tmp 92, Qf8), (.tmp 96, I x84), (.tmp 100, I x87)], [(1, .own 1 [[Qcu]]), (2, (.own 1 [[(Qct p5)]])), (3, .own 1 [[I p6]]), (4, .own 1 [[I p7]])], I x90, [(1, .own 1 [[Qcu]]), (2, (.own 1 [[(Qct p5)]])), (3, .own 1 [[I p6]]), (4, .own 1 [[I p7]])], false⟩)] ⟨aio rfl Try.underlying27 ti3 (odt hi83a) (odt hi83b) (Nat.zero_add _), ald rfl ti3 (by decide) (mgt Qaj hg85) (nle rfl) rfl, aio rfl Try.underlying27 ti3 (odt hi86a) (odt hi86b) (Nat.zero_add _), ald rfl ti3 (by decide) (mgt Qaj hg88) (nle rfl) rfl, Qar (first := []) (cap := [.ref 1 1 0 0, .ref 2 1 0 0]) (vs := [I x84, I x87]) (σr := [(.own 1 [[Qcu]]), (.own 1 [[(Qct p5)]]), (.own 1 [[I p6]]), (.own 1 [[I p7]])]) (σr' := [(.own 1 [[Qcu]]), (.own 1 [[(Qct p5)]]), (.own 1 [[I p6]]), (.own 1 [[I p7]])]) (res' := (I x90)) [1, 2, 3, 4] rfl Qp6 (Qes N x84 x87 p5 p6 p7 _ hf89) rfl (Qbm (rnc (.plain _ nll) (rnc (.plain _ nll) (rnc (Qa0 rfl) (rnc (Qa0 rfl) rn0))))) (slc (Qag (rnc (Qav rn0 (rnc (Qa0 rfl) (rnc (Qa0 rfl) rn0))) rn0)) (slc (Qag (rnc (.plain _ (nld Qab _)) rn0)) (slc (Qag (rnc (.plain _ nll) rn0)) (slc (Qag (rnc (.plain _ nll) rn0)) Qaq)))) (slc (Qag (rnc (Qav rn0 (rnc (Qbb rfl) (rnc (Qbb rfl) rn0))) rn0)) (slc (Qag (rnc (.plain _ (nld Qab _)) rn0)) (slc (Qag (rnc (.plain _ nll) rn0)) (slc (Qag (rnc (.plain _ nll) rn0)) Qaq)))) (.plain _ nll) rfl rfl rfl, trivial⟩ ?_
       rcases bft ((!(decide (x90 < 0)))) with hc91 | hc91
       ·replace h := Qaw hc91 h
        refine wft hc91 (by kernel_rfl) ?_
        refine wx1 tbk [] trivial ?_
        refine bln ?_
        refine thn ?_
        exact arm (mto (n := 220) [(0, (.own 0 1 (0) (p0))), (2, I p2), (4, Qf8), (14, (I (w64 (x81 + 1)))), (15, I y76)] [0, 1, 2, 3, 4] [(Qe5 p4), (.own 1 [[Qcu]]), (.own 1 [[(Qct p5)]]), (.own 1 [[I p6]]), (.own 1 [[I p7]])] hφ0 (pc (.rn (Qaz rfl)) (pc rwl (pc (.rn (Qav rn0 (rnc (rqr rfl) (rnc (rqr rfl) rn0)))) (pc rwl (pc rwl pn))))) (qc (spr Qab) (qc (spb (lc (.rn (Qav rn0 (rnc (rqr rfl) (rnc (rqr rfl) rn0)))) ln)) (qc (spb (lc (.rn (.plain _ (nld Qab _))) ln)) (qc (spb (lc rwl ln)) (qc (spb (lc rwl ln)) qn)))))) (ih (w64 (x81 + 1), y76) h)
       ·replace h := Qax hc91 h
        refine wfn hc91 (by kernel_rfl) ?_
        refine wx1 tbk [] trivial ?_
        refine bln ?_
        refine thn ?_
        exact arm (mto (n := 220) [(0, (.own 0 1 (0) (p0))), (2, I p2), (4, Qf8), (14, I y75), (15, I x81)] [0, 1, 2, 3, 4] [(Qe5 p4), (.own 1 [[Qcu]]), (.own 1 [[(Qct p5)]]), (.own 1 [[I p6]]), (.own 1 [[I p7]])] hφ0 (pc (.rn (Qaz rfl)) (pc rwl (pc (.rn (Qav rn0 (rnc (rqr rfl) (rnc (rqr rfl) rn0)))) (pc rwl (pc rwl pn))))) (qc (spr Qab) (qc (spb (lc (.rn (Qav rn0 (rnc (rqr rfl) (rnc (rqr rfl) rn0)))) ln)) (qc (spb (lc (.rn (.plain _ (nld Qab _))) ln)) (qc (spb (lc rwl ln)) (qc (spb (lc rwl ln)) qn)))))) (ih (y75, x81) h)
      ·replace h := Qax hc80 h
       refine wfn hc80 (by kernel_rfl) ?_
       refine Qbi ?_
       refine Qay ?_
       refine Qay ?_
       refine Qbh rfl ?_
       refine thn ?_
       exact ⟨(y75), h, (mto (n := 220) [(0, (.own 0 1 (0) (p0))), (2, I p2), (14, I y75)] [0, 1, 2, 3, 4] [(Qe5 p4), (.own 1 [[Qcu]]), (.own 1 [[(Qct p5)]]), (.own 1 [[I p6]]), (.own 1 [[I p7]])] hφ0 (pc (.rn (Qaz rfl)) (pc rwl (pc rwl pn))) (qc (spr Qab) (qc (spb (lc (.rn (Qav rn0 (rnc (rqr rfl) (rnc (rqr rfl) rn0)))) ln)) (qc (spb (lc (.rn (.plain _ (nld Qab _))) ln)) (qc (spb (lc rwl ln)) (qc (spb (lc rwl ln)) qn))))))⟩
    ·replace h := Qax hc52 h
     refine wfn hc52 (by kernel_rfl) ?_
     refine Qap ?_
     refine thn ?_
     exact ⟨(), h, (mto (n := 220) [(0, (.own 0 1 (0) (p0))), (1, I p1), (2, I p2), (3, I p3), (4, Qf8)] [0, 1, 2, 3, 4] [(Qe5 p4), (.own 1 [[Qcu]]), (.own 1 [[(Qct p5)]]), (.own 1 [[I p6]]), (.own 1 [[I p7]])] hφ0 (pc (.rn (Qaz rfl)) (pc rwl (pc rwl (pc rwl (pc (.rn (Qav rn0 (rnc (rqr rfl) (rnc (rqr rfl) rn0)))) pn))))) (qc (spr Qab) (qc (spb (lc (.rn (Qav rn0 (rnc (rqr rfl) (rnc (rqr rfl) rn0)))) ln)) (qc (spb (lc (.rn (.plain _ (nld Qab _))) ln)) (qc (spb (lc rwl ln)) (qc (spb (lc rwl ln)) qn))))))⟩
  ·skip
   refine wx tbk [] trivial ?_
   rcases bft (((w64 (p2 - p1)) == 1)) with hc92 | hc92
   ·replace h := Qaw hc92 h
    refine wft hc92 (by kernel_rfl) ?_
    refine wx tbk [] trivial ?_
    refine wx tbk [] trivial ?_
    obtain ⟨k94, hk_k94, h⟩ := jko h
    refine wjn (τ := Int) (fun t => k94 t = some r) (fun y93 => ⟨mk 220 [(0, (.own 0 1 (0) (p0))), (1, I p1), (10, I y93)], [(Qe5 p4), (.own 1 [[Qcu]]), (.own 1 [[(Qct p5)]]), (.own 1 [[I p6]]), (.own 1 [[I p7]])]⟩) (fun y93 h => ?_) ?_
    ·subst hk_k94
     obtain ⟨k96, hk_k96, h⟩ := jko h
     refine wjn (τ := (List Int)) (fun t => k96 t = some r) (fun y95 => ⟨mk 220 [], [(.own 1 ((y95 : List Int).map Qaj)), (.own 1 [[Qcu]]), (.own 1 [[(Qct p5)]]), (.own 1 [[I p6]]), (.own 1 [[I p7]])]⟩) (fun y95 h => ?_) ?_
     ·subst hk_k96
      refine wmr (mto (n := 220) (l' := []) (own' := [(.own 1 ((y95 : List Int).map Qaj)), (.own 1 [[Qcu]]), (.own 1 [[(Qct p5)]]), (.own 1 [[I p6]]), (.own 1 [[I p7]])]) [] [0, 1, 2, 3, 4] [(.own 1 ((y95 : List Int).map Qaj)), (.own 1 [[Qcu]]), (.own 1 [[(Qct p5)]]), (.own 1 [[I p6]]), (.own 1 [[I p7]])] hφ0 pn (qc (spr Qab) (qc (spb (lc (.rn (Qav rn0 (rnc (rqr rfl) (rnc (rqr rfl) rn0)))) ln)) (qc (spb (lc (.rn (.plain _ (nld Qab _))) ln)) (qc (spb (lc rwl ln)) (qc (spb (lc rwl ln)) qn)))))) ?_
      refine Qad ?_
      refine Qaf ?_
      obtain rfl := osi h
      exact ⟨_, Mor.rfl, Qcz (vs := []) trivial rfl (NLt.tup _ nl0) (by kernel_rfl) (Qal (Qb0 Qab _) (Qal (Qa4 (nlc (NLt.fn _ _ _ nl0 (nlc (NLt.ref _ _ _ _ (by decide)) (nlc (NLt.ref _ _ _ _ (by decide)) nl0))) nl0)) (Qal (Qa4 (nlc (NLt.of0 (nld Qab _)) nl0)) (Qal (Qa4 (nlc (NLt.of0 nll) nl0)) (Qal (Qa4 (nlc (NLt.of0 nll) nl0)) Qbn)))))⟩
     ·skip
      refine wx tbk [] trivial ?_
      refine Qan ?_
      refine wmr (mto (n := 220) (l' := [(0, (.own 0 1 (0) (p0))), (10, I y93), (13, I p1)]) (own' := [(Qe5 p4), (.own 1 [[Qcu]]), (.own 1 [[(Qct p5)]]), (.own 1 [[I p6]]), (.own 1 [[I p7]])]) [(0, (.own 0 1 (0) (p0))), (10, I y93), (13, I p1)] [0, 1, 2, 3, 4] [(Qe5 p4), (.own 1 [[Qcu]]), (.own 1 [[(Qct p5)]]), (.own 1 [[I p6]]), (.own 1 [[I p7]])] hφ0 (pc (.rn (Qaz rfl)) (pc rwl (pc rwl pn))) (qc (spr Qab) (qc (spb (lc (.rn (Qav rn0 (rnc (rqr rfl) (rnc (rqr rfl) rn0)))) ln)) (qc (spb (lc (.rn (.plain _ (nld Qab _))) ln)) (qc (spb (lc rwl ln)) (qc (spb (lc rwl ln)) qn)))))) ?_
      refine Qby (τ := Int × (List Int)) (fun n t => Qcc N p0 y93 k96 n t.1 t.2 = some r) (fun ⟨y97, y98⟩ => ⟨mk 220 [(0, (.own 0 1 (0) (p0))), (10, I y93), (13, I y97)], [(Qlo y98), (.own 1 [[Qcu]]), (.own 1 [[(Qct p5)]]), (.own 1 [[I p6]]), (.own 1 [[I p7]])]⟩) (fun t h => by rw [Qcc] at h; cases h) (fun n101 ih t h => ?_) N (p1, p4) h
      obtain ⟨y97, y98⟩ := t
      rw [Qcc] at h
      skip
      refine wsq ?_
      refine wx tbk [] trivial ?_
      rcases bft ((decide (y97 < (w64 (y93 - 1))))) with hc102 | hc102
      ·replace h := Qaw hc102 h
       refine wft hc102 (by kernel_rfl) ?_
       refine Qap ?_
       refine thn ?_
       refine wsq ?_
       refine Qan ?_
       obtain ⟨hi103, h⟩ := cko h
       obtain ⟨hi103a, hi103b⟩ := Qcy hi103
       obtain ⟨x104, hg105, h⟩ := bno h
       obtain ⟨hi106, h⟩ := cko h
       obtain ⟨hi106a, hi106b⟩ := Qcy hi106
       obtain ⟨x107, hg108, h⟩ := bno h
       obtain ⟨hi109, h⟩ := cko h
       obtain ⟨hi109a, hi109b⟩ := Qcy hi109
       obtain ⟨x110, hg111, h⟩ := bno h
       obtain ⟨hi112, h⟩ := cko h
       obtain ⟨hi112a, hi112b⟩ := Qcy hi112
       obtain ⟨x113, hg114, h⟩ := bno h
       refine wy1 tbk [(8, rb [(.tmp 66, (.own 0 1 (0) (p0))), (.tmp 68, (I (w64 (y97 + 1))))] [(0, (Qlo y98))] (.ref 0 1 ((w64 (y97 + 1)).toNat) 0)), (9, rb [(.tmp 69, (.ref 0 1 ((w64 (y97 + 1)).toNat) 0))] [(0, (Qlo y98))] (I x104)), (12, rb [(.tmp 71, (.own 0 1 (0) (p0))), (.tmp 72, I y97)] [(0, (Qlo y98))] (.ref 0 1 (y97.toNat) 0)), (13, rb [(.tmp 73, (.ref 0 1 (y97.toNat) 0))] [(0, (Qlo y98))] (I x107)), (14, rb [(.tmp 61, (.own 0 1 (0) (p0))), (.tmp 62, I y97)] [(0, (Qlo y98))] (.ref 0 1 (y97.toNat) 0)), (15, ⟨[(.tmp 75, (.ref 0 1 (y97.toNat) 0)), (.tmp 70, I x104)], [(0, (Qlo y98))], .any, [(0, (.own 1 ((y98.set y97.toNat x104 : List Int).map Qaj)))], false⟩), (16, rb [(.tmp 63, (.own 0 1 (0) (p0))), (.tmp 65, (I (w64 (y97 + 1))))] [(0, (.own 1 ((y98.set y97.toNat x104 : List Int).map Qaj)))] (.ref 0 1 ((w64 (y97 + 1)).toNat) 0)), (17, ⟨[(.tmp 76, (.ref 0 1 ((w64 (y97 + 1)).toNat) 0)), (.tmp 74, I x107)], [(0, (.own 1 ((y98.set y97.toNat x104 : List Int).map Qaj)))], .any, [(0, (.own 1 (((y98.set y97.toNat x104).set ((w64 (y97 + 1)).toNat) x107 : List Int).map Qaj)))], false⟩)] ⟨aio rfl Try.underlying27 ti3 (odt hi103a) (odt hi103b) (Nat.zero_add _), ald rfl ti3 (by decide) (mgt Qaj hg105) (nle rfl) rfl, aio rfl Try.underlying27 ti3 (odt hi106a) (odt hi106b) (Nat.zero_add _), ald rfl ti3 (by decide) (mgt Qaj hg108) (nle rfl) rfl, aio rfl Try.underlying27 ti3 (odt hi109a) (odt hi109b) (Nat.zero_add _), ast rfl ti3 (by rfl) (mgt Qaj hg111) (nle rfl) (Qfs Qaj rfl), aio rfl Try.underlying27 ti3 (odt hi112a) (odt hi112b) (Nat.zero_add _), ast rfl ti3 (by rfl) (mgt Qaj hg114) (nle rfl) (Qfs Qaj rfl), trivial⟩ ?_
       refine bln ?_
       refine thn ?_
       refine wx1 tbk [] trivial ?_
       refine thn ?_
       exact arm (mto (n := 220) [(0, (.own 0 1 (0) (p0))), (10, I y93), (13, (I (w64 (y97 + 1))))] [0, 1, 2, 3, 4] [(.own 1 (((y98.set y97.toNat x104).set ((w64 (y97 + 1)).toNat) x107 : List Int).map Qaj)), (.own 1 [[Qcu]]), (.own 1 [[(Qct p5)]]), (.own 1 [[I p6]]), (.own 1 [[I p7]])] hφ0 (pc (.rn (Qaz rfl)) (pc rwl (pc rwl pn))) (qc (spr Qab) (qc (spb (lc (.rn (Qav rn0 (rnc (rqr rfl) (rnc (rqr rfl) rn0)))) ln)) (qc (spb (lc (.rn (.plain _ (nld Qab _))) ln)) (qc (spb (lc rwl ln)) (qc (spb (lc rwl ln)) qn)))))) (ih (w64 (y97 + 1), (y98.set y97.toNat x104).set ((w64 (y97 + 1)).toNat) x107) h)
      ·replace h := Qax hc102 h
       refine wfn hc102 (by kernel_rfl) ?_
       refine Qbi ?_
       refine Qay ?_
       refine Qay ?_
       refine Qbh rfl ?_
       refine thn ?_
       exact ⟨(y98), h, (mto (n := 220) [] [0, 1, 2, 3, 4] [(Qlo y98), (.own 1 [[Qcu]]), (.own 1 [[(Qct p5)]]), (.own 1 [[I p6]]), (.own 1 [[I p7]])] hφ0 pn (qc (spr Qab) (qc (spb (lc (.rn (Qav rn0 (rnc (rqr rfl) (rnc (rqr rfl) rn0)))) ln)) (qc (spb (lc (.rn (.plain _ (nld Qab _))) ln)) (qc (spb (lc rwl ln)) (qc (spb (lc rwl ln)) qn))))))⟩
    ·skip
     refine Qan ?_
     refine wmr (mto (n := 220) (l' := [(0, (.own 0 1 (0) (p0))), (1, I p1), (4, Qf8), (10, I p2), (11, I p3)]) (own' := [(Qe5 p4), (.own 1 [[Qcu]]), (.own 1 [[(Qct p5)]]), (.own 1 [[I p6]]), (.own 1 [[I p7]])]) [(0, (.own 0 1 (0) (p0))), (1, I p1), (4, Qf8), (10, I p2), (11, I p3)] [0, 1, 2, 3, 4] [(Qe5 p4), (.own 1 [[Qcu]]), (.own 1 [[(Qct p5)]]), (.own 1 [[I p6]]), (.own 1 [[I p7]])] hφ0 (pc (.rn (Qaz rfl)) (pc rwl (pc (.rn (Qav rn0 (rnc (rqr rfl) (rnc (rqr rfl) rn0)))) (pc rwl (pc rwl pn))))) (qc (spr Qab) (qc (spb (lc (.rn (Qav rn0 (rnc (rqr rfl) (rnc (rqr rfl) rn0)))) ln)) (qc (spb (lc (.rn (.plain _ (nld Qab _))) ln)) (qc (spb (lc rwl ln)) (qc (spb (lc rwl ln)) qn)))))) ?_
     refine Qby (τ := Int × Int) (fun n t => Qbr N p0 p1 p4 p5 p6 p7 k94 n t.1 t.2 = some r) (fun ⟨y115, y116⟩ => ⟨mk 220 [(0, (.own 0 1 (0) (p0))), (1, I p1), (4, Qf8), (10, I y115), (11, I y116)], [(Qe5 p4), (.own 1 [[Qcu]]), (.own 1 [[(Qct p5)]]), (.own 1 [[I p6]]), (.own 1 [[I p7]])]⟩) (fun t h => by rw [Qbr] at h; cases h) (fun n119 ih t h => ?_) N (p2, p3) h
     obtain ⟨y115, y116⟩ := t
     rw [Qbr] at h
     skip
     refine wsq ?_
     refine wx tbk [] trivial ?_
     rcases bft ((decide (y115 < y116))) with hc120 | hc120
     ·replace h := Qaw hc120 h
      refine wft hc120 (by kernel_rfl) ?_
      refine Qap ?_
      refine thn ?_
      refine Qan ?_
      obtain ⟨x121, hl122, h⟩ := bno h
      refine wx tbk [(3, rp [(.tmp 36, (I (w64 (y115 + y116))))] (K .u64 (IntKind.wrap .u64 (w64 (y115 + y116))))), (4, rp [(.tmp 37, (K .u64 (IntKind.wrap .u64 (w64 (y115 + y116))))), (.const (.int .u64 1), (K .u64 (1)))] (K .u64 ((IntKind.wrap .u64 (w64 (y115 + y116))) / 2))), (5, rp [(.tmp 38, (K .u64 ((IntKind.wrap .u64 (w64 (y115 + y116))) / 2)))] (I (w64 ((IntKind.wrap .u64 (w64 (y115 + y116))) / 2)))), (6, rp [(.tmp 39, (I (w64 ((IntKind.wrap .u64 (w64 (y115 + y116))) / 2))))] (I x121))] ⟨acv rfl (by rw [Try.underlying3]; rfl) Try.underlying169, Qof rfl (by decide) (by decide), acv rfl (by rw [Try.underlying169]; rfl) Try.underlying3, Qgj hl122 (aas rfl), trivial⟩ ?_
      obtain ⟨hi123, h⟩ := cko h
      obtain ⟨hi123a, hi123b⟩ := Qcy hi123
      obtain ⟨x124, hg125, h⟩ := bno h
      obtain ⟨hi126, h⟩ := cko h
      obtain ⟨hi126a, hi126b⟩ := Qcy hi126
      obtain ⟨x127, hg128, h⟩ := bno h
      obtain ⟨x130, hf129, h⟩ := bno h
      refine wxd tbk [(3, rb [(.tmp 41, (.own 0 1 (0) (p0))), (.tmp 42, I x121)] [(0, (Qe5 p4))] (.ref 0 1 (x121.toNat) 0)), (4, rb [(.tmp 43, (.ref 0 1 (x121.toNat) 0))] [(0, (Qe5 p4))] (I x124)), (7, rb [(.tmp 45, (.own 0 1 (0) (p0))), (.tmp 46, I p1)] [(0, (Qe5 p4))] (.ref 0 1 (p1.toNat) 0)), (8, rb [(.tmp 47, (.ref 0 1 (p1.toNat) 0))] [(0, (Qe5 p4))] (I x127)), (9, ⟨[(.tmp 40, Qf8), (.tmp 44, I x124), (.tmp 48, I x127)], [(1, .own 1 [[Qcu]]), (2, (.own 1 [[(Qct p5)]])), (3, .own 1 [[I p6]]), (4, .own 1 [[I p7]])], I x130, [(1, .own 1 [[Qcu]]), (2, (.own 1 [[(Qct p5)]])), (3, .own 1 [[I p6]]), (4, .own 1 [[I p7]])], false⟩)] ⟨aio rfl Try.underlying27 ti3 (odt hi123a) (odt hi123b) (Nat.zero_add _), ald rfl ti3 (by decide) (mgt Qaj hg125) (nle rfl) rfl, aio rfl Try.underlying27 ti3 (odt hi126a) (odt hi126b) (Nat.zero_add _), ald rfl ti3 (by decide) (mgt Qaj hg128) (nle rfl) rfl, Qar (first := []) (cap := [.ref 1 1 0 0, .ref 2 1 0 0]) (vs := [I x124, I x127]) (σr := [(.own 1 [[Qcu]]), (.own 1 [[(Qct p5)]]), (.own 1 [[I p6]]), (.own 1 [[I p7]])]) (σr' := [(.own 1 [[Qcu]]), (.own 1 [[(Qct p5)]]), (.own 1 [[I p6]]), (.own 1 [[I p7]])]) (res' := (I x130)) [1, 2, 3, 4] rfl Qp6 (Qes N x124 x127 p5 p6 p7 _ hf129) rfl (Qbm (rnc (.plain _ nll) (rnc (.plain _ nll) (rnc (Qa0 rfl) (rnc (Qa0 rfl) rn0))))) (slc (Qag (rnc (Qav rn0 (rnc (Qa0 rfl) (rnc (Qa0 rfl) rn0))) rn0)) (slc (Qag (rnc (.plain _ (nld Qab _)) rn0)) (slc (Qag (rnc (.plain _ nll) rn0)) (slc (Qag (rnc (.plain _ nll) rn0)) Qaq)))) (slc (Qag (rnc (Qav rn0 (rnc (Qbb rfl) (rnc (Qbb rfl) rn0))) rn0)) (slc (Qag (rnc (.plain _ (nld Qab _)) rn0)) (slc (Qag (rnc (.plain _ nll) rn0)) (slc (Qag (rnc (.plain _ nll) rn0)) Qaq)))) (.plain _ nll) rfl rfl rfl, trivial⟩ ?_
      rcases bft ((decide (x130 < 0))) with hc131 | hc131
      ·replace h := Qaw hc131 h
       refine wft hc131 (by kernel_rfl) ?_
       refine wx1 tbk [] trivial ?_
       refine bln ?_
       refine thn ?_
       exact arm (mto (n := 220) [(0, (.own 0 1 (0) (p0))), (1, I p1), (4, Qf8), (10, (I (w64 (x121 + 1)))), (11, I y116)] [0, 1, 2, 3, 4] [(Qe5 p4), (.own 1 [[Qcu]]), (.own 1 [[(Qct p5)]]), (.own 1 [[I p6]]), (.own 1 [[I p7]])] hφ0 (pc (.rn (Qaz rfl)) (pc rwl (pc (.rn (Qav rn0 (rnc (rqr rfl) (rnc (rqr rfl) rn0)))) (pc rwl (pc rwl pn))))) (qc (spr Qab) (qc (spb (lc (.rn (Qav rn0 (rnc (rqr rfl) (rnc (rqr rfl) rn0)))) ln)) (qc (spb (lc (.rn (.plain _ (nld Qab _))) ln)) (qc (spb (lc rwl ln)) (qc (spb (lc rwl ln)) qn)))))) (ih (w64 (x121 + 1), y116) h)
      ·replace h := Qax hc131 h
       refine wfn hc131 (by kernel_rfl) ?_
       refine wx1 tbk [] trivial ?_
       refine bln ?_
       refine thn ?_
       exact arm (mto (n := 220) [(0, (.own 0 1 (0) (p0))), (1, I p1), (4, Qf8), (10, I y115), (11, I x121)] [0, 1, 2, 3, 4] [(Qe5 p4), (.own 1 [[Qcu]]), (.own 1 [[(Qct p5)]]), (.own 1 [[I p6]]), (.own 1 [[I p7]])] hφ0 (pc (.rn (Qaz rfl)) (pc rwl (pc (.rn (Qav rn0 (rnc (rqr rfl) (rnc (rqr rfl) rn0)))) (pc rwl (pc rwl pn))))) (qc (spr Qab) (qc (spb (lc (.rn (Qav rn0 (rnc (rqr rfl) (rnc (rqr rfl) rn0)))) ln)) (qc (spb (lc (.rn (.plain _ (nld Qab _))) ln)) (qc (spb (lc rwl ln)) (qc (spb (lc rwl ln)) qn)))))) (ih (y115, x121) h)
     ·replace h := Qax hc120 h
      refine wfn hc120 (by kernel_rfl) ?_
      refine Qbi ?_
      refine Qay ?_
      refine Qay ?_
      refine Qbh rfl ?_
      refine thn ?_
      exact ⟨(y115), h, (mto (n := 220) [(0, (.own 0 1 (0) (p0))), (1, I p1), (10, I y115)] [0, 1, 2, 3, 4] [(Qe5 p4), (.own 1 [[Qcu]]), (.own 1 [[(Qct p5)]]), (.own 1 [[I p6]]), (.own 1 [[I p7]])] hφ0 (pc (.rn (Qaz rfl)) (pc rwl (pc rwl pn))) (qc (spr Qab) (qc (spb (lc (.rn (Qav rn0 (rnc (rqr rfl) (rnc (rqr rfl) rn0)))) ln)) (qc (spb (lc (.rn (.plain _ (nld Qab _))) ln)) (qc (spb (lc rwl ln)) (qc (spb (lc rwl ln)) qn))))))⟩
   ·replace h := Qax hc92 h
    refine wfn hc92 (by kernel_rfl) ?_
    refine Qap ?_
    refine thn ?_
    exact ⟨(), h, (mto (n := 220) [(0, (.own 0 1 (0) (p0))), (1, I p1), (2, I p2), (3, I p3), (4, Qf8)] [0, 1, 2, 3, 4] [(Qe5 p4), (.own 1 [[Qcu]]), (.own 1 [[(Qct p5)]]), (.own 1 [[I p6]]), (.own 1 [[I p7]])] hφ0 (pc (.rn (Qaz rfl)) (pc rwl (pc rwl (pc rwl (pc (.rn (Qav rn0 (rnc (rqr rfl) (rnc (rqr rfl) rn0)))) pn))))) (qc (spr Qab) (qc (spb (lc (.rn (Qav rn0 (rnc (rqr rfl) (rnc (rqr rfl) rn0)))) ln)) (qc (spb (lc (.rn (.plain _ (nld Qab _))) ln)) (qc (spb (lc rwl ln)) (qc (spb (lc rwl ln)) qn))))))⟩
def Qcj (N : Nat) (p0 : Nat) (p1 : Int) (p3 : (List Int)) (p4 : Int) (p5 : Int) (y7 : Int) (k15 : Int × (List Int) → Option (List Int)) : Nat → Int → Int → (List Int) → Option (List Int)
  | 0, _, _, _ => none
  | n25 + 1, y19, y20, y21 =>
    bif (decide (y20 ≤ p1)) then
     (Qc8 N p0 y19 (w64 (y19 + y7)) y20 y21 p3 p4 p5).bind fun x28 =>
     (some (w64 (y20 + (w64 (2 * y7))))).bind fun x29 =>
     Qcj N p0 p1 p3 p4 p5 y7 k15 n25 y20 x29 x28
    else
     k15 (y19, y21)
def Qb2 (N : Nat) (p0 : Nat) (p1 : Int) (p3 : (List Int)) (p4 : Int) (p5 : Int) : Nat → Int → (List Int) → Option (List Int)
  | 0, _, _ => none
  | n11 + 1, y7, y8 =>
    bif (decide (y7 < p1)) then
     Qbz (fun ⟨y13, y14⟩ =>
       bif (decide ((w64 (y13 + y7)) < p1)) then
        (Qc8 N p0 y13 (w64 (y13 + y7)) p1 y14 p3 p4 p5).bind fun x18 =>
        Qb2 N p0 p1 p3 p4 p5 n11 (w64 (y7 * 2)) x18
       else
        Qb2 N p0 p1 p3 p4 p5 n11 (w64 (y7 * 2)) y14) fun k15 : Int × (List Int) → Option (List Int) =>
     Qcj N p0 p1 p3 p4 p5 y7 k15 N 0 (w64 (2 * y7)) y8
    else
     some y8
def Qci (N : Nat) (p0 : Nat) (p1 : Int) (p3 : (List Int)) (k4 : Int × (List Int) → Option (List Int)) (p4 : Int) (p5 : Int) : Nat → Int → Int → (List Int) → Option (List Int)
  | 0, _, _, _ => none
  | n37 + 1, y31, y32, y33 =>
    bif (decide (y32 ≤ p1)) then
     (Qda N p0 y31 y32 y33 p3 p4 p5).bind fun x40 =>
     Qci N p0 p1 p3 k4 p4 p5 n37 y32 (w64 (y32 + 20)) x40
    else
     k4 (y31, y33)
def Qfe (N : Nat) (p0 : Nat) (p1 : Int) (p2 : (List Int)) (p3 : (List Int)) (p4 : Int) (p5 : Int) : Option (List Int) :=
  Qbz (fun ⟨y2, y3⟩ =>
    (Qda N p0 y2 p1 y3 p3 p4 p5).bind fun x6 =>
    Qb2 N p0 p1 p3 p4 p5 N 20 x6) fun k4 : Int × (List Int) → Option (List Int) =>
  Qci N p0 p1 p3 k4 p4 p5 N 0 20 p2
def Qim : AV := .fn (.func 107) [] [(.ref 1 1 (0) 0), (.ref 2 1 (0) 0)]
def Q97 (p2 : (List Int)) : Slot := .own 1 ((p2 : List Int).map Qaj)
def Qgy : AV := .fn (.func 103) [] [(.ref 3 1 (0) 0), (.ref 4 1 (0) 0)]
def Qgx (p3 : (List Int)) : AV := .dat 1 ((p3 : List Int).map Qaj)
def Q96 (y3 : (List Int)) : Slot := .own 1 ((y3 : List Int).map Qaj)
def Q6a (x6 : (List Int)) : Slot := .own 1 ((x6 : List Int).map Qaj)
def Qug (y8 : (List Int)) : Slot := .own 1 ((y8 : List Int).map Qaj)
def Qyr (y14 : (List Int)) : Slot := .own 1 ((y14 : List Int).map Qaj)
def Qyq (y21 : (List Int)) : Slot := .own 1 ((y21 : List Int).map Qaj)
def Qyp (y33 : (List Int)) : Slot := .own 1 ((y33 : List Int).map Qaj)
theorem Qip (N : Nat) (p0 : Nat) (p1 : Int) (p2 : (List Int)) (p3 : (List Int)) (p4 : Int) (p5 : Int) (r : (List Int)) (h : Qfe N p0 p1 p2 p3 p4 p5 = some r) : Spec Try.prog 108 [(.own 0 1 (0) (p0)), (I (p1)), Qim] [(Q97 p2), (.own 1 [[Qgy]]), (.own 1 [[(Qgx p3)]]), (.own 1 [[(I (p4))]]), (.own 1 [[(I (p5))]])] (.tup []) [(.own 1 ((r : List Int).map Qaj)), (.own 1 [[Qgy]]), (.own 1 [[(Qgx p3)]]), (.own 1 [[(I (p4))]]), (.own 1 [[(I (p5))]])] := by
  refine Qak Try.func108 rfl 5 (nle rfl) (fun X φ0 w0 hφ0 hd0 => ?_)
  unfold Qfe at h
  refine Qbp ?_
  refine wx tbk [] trivial ?_
  refine wx tbk [] trivial ?_
  obtain ⟨k4, hk_k4, h⟩ := jko h
  refine wjn (τ := Int × (List Int)) (fun t => k4 t = some r) (fun ⟨y2, y3⟩ => ⟨mk 63 [(0, (.own 0 1 (0) (p0))), (1, I p1), (2, Qim), (6, I 20), (7, I y2)], [(Q96 y3), (.own 1 [[Qgy]]), (.own 1 [[(Qgx p3)]]), (.own 1 [[I p4]]), (.own 1 [[I p5]])]⟩) (fun t h => ?_) ?_
  ·subst hk_k4
   obtain ⟨y2, y3⟩ := t
   obtain ⟨x6, hf5, h⟩ := bno h
   refine wx tbk [(4, ⟨[fu 109, (.tmp 23, (.own 0 1 (0) (p0))), (.tmp 24, I y2), (.tmp 25, I p1), (.tmp 26, Qim)], [(0, (Q96 y3)), (1, .own 1 [[Qgy]]), (2, (.own 1 [[(Qgx p3)]])), (3, .own 1 [[I p4]]), (4, .own 1 [[I p5]])], (.tup []), [(0, (Q6a x6)), (1, .own 1 [[Qgy]]), (2, (.own 1 [[(Qgx p3)]])), (3, .own 1 [[I p4]]), (4, .own 1 [[I p5]])], false⟩)] ⟨Qar (first := []) (cap := []) (vs := [(.own 0 1 (0) (p0)), I y2, I p1, Qim]) (σr := [(Q96 y3), (.own 1 [[Qgy]]), (.own 1 [[(Qgx p3)]]), (.own 1 [[I p4]]), (.own 1 [[I p5]])]) (σr' := [(Q6a x6), (.own 1 [[Qgy]]), (.own 1 [[(Qgx p3)]]), (.own 1 [[I p4]]), (.own 1 [[I p5]])]) (res' := (.tup [])) [0, 1, 2, 3, 4] rfl Qzk (Qe0 N p0 y2 p1 y3 p3 p4 p5 _ hf5) rfl (Qbm (rnc (Qcg rfl) (rnc (.plain _ nll) (rnc (.plain _ nll) (rnc (Qav rn0 (rnc (Qa0 rfl) (rnc (Qa0 rfl) rn0))) rn0))))) (slc (Qa8 Qab) (slc (Qag (rnc (Qav rn0 (rnc (Qa0 rfl) (rnc (Qa0 rfl) rn0))) rn0)) (slc (Qag (rnc (.plain _ (nld Qab _)) rn0)) (slc (Qag (rnc (.plain _ nll) rn0)) (slc (Qag (rnc (.plain _ nll) rn0)) Qaq))))) (slc (Qa8 Qab) (slc (Qag (rnc (Qav rn0 (rnc (Qbb rfl) (rnc (Qbb rfl) rn0))) rn0)) (slc (Qag (rnc (.plain _ (nld Qab _)) rn0)) (slc (Qag (rnc (.plain _ nll) rn0)) (slc (Qag (rnc (.plain _ nll) rn0)) Qaq))))) (.plain _ (NLt.tup _ nl0)) rfl rfl rfl, trivial⟩ ?_
   refine Qan ?_
   refine wmr (mto (n := 63) (l' := [(0, (.own 0 1 (0) (p0))), (1, I p1), (2, Qim), (6, I 20)]) (own' := [(Q6a x6), (.own 1 [[Qgy]]), (.own 1 [[(Qgx p3)]]), (.own 1 [[I p4]]), (.own 1 [[I p5]])]) [(0, (.own 0 1 (0) (p0))), (1, I p1), (2, Qim), (6, I 20)] [0, 1, 2, 3, 4] [(Q6a x6), (.own 1 [[Qgy]]), (.own 1 [[(Qgx p3)]]), (.own 1 [[I p4]]), (.own 1 [[I p5]])] hφ0 (pc (.rn (Qaz rfl)) (pc rwl (pc (.rn (Qav rn0 (rnc (rqr rfl) (rnc (rqr rfl) rn0)))) (pc rwl pn)))) (qc (spr Qab) (qc (spb (lc (.rn (Qav rn0 (rnc (rqr rfl) (rnc (rqr rfl) rn0)))) ln)) (qc (spb (lc (.rn (.plain _ (nld Qab _))) ln)) (qc (spb (lc rwl ln)) (qc (spb (lc rwl ln)) qn)))))) ?_
   refine Qby (τ := Int × (List Int)) (fun n t => Qb2 N p0 p1 p3 p4 p5 n t.1 t.2 = some r) (fun ⟨y7, y8⟩ => ⟨mk 63 [(0, (.own 0 1 (0) (p0))), (1, I p1), (2, Qim), (6, I y7)], [(Qug y8), (.own 1 [[Qgy]]), (.own 1 [[(Qgx p3)]]), (.own 1 [[I p4]]), (.own 1 [[I p5]])]⟩) (fun t h => by rw [Qb2] at h; cases h) (fun n11 ih t h => ?_) N (20, x6) h
   obtain ⟨y7, y8⟩ := t
   rw [Qb2] at h
   skip
   refine wsq ?_
   refine wx tbk [] trivial ?_
   rcases bft ((decide (y7 < p1))) with hc12 | hc12
   ·replace h := Qaw hc12 h
    refine wft hc12 (by kernel_rfl) ?_
    refine Qap ?_
    refine thn ?_
    refine Qan ?_
    refine wx tbk [] trivial ?_
    obtain ⟨k15, hk_k15, h⟩ := jko h
    refine wjn (τ := Int × (List Int)) (fun t => k15 t = some r) (fun ⟨y13, y14⟩ => ⟨mk 63 [(0, (.own 0 1 (0) (p0))), (1, I p1), (2, Qim), (6, I y7), (7, I y13)], [(Qyr y14), (.own 1 [[Qgy]]), (.own 1 [[(Qgx p3)]]), (.own 1 [[I p4]]), (.own 1 [[I p5]])]⟩) (fun t h => ?_) ?_
    ·subst hk_k15
     obtain ⟨y13, y14⟩ := t
     refine wsq ?_
     refine wx tbk [] trivial ?_
     refine wx tbk [] trivial ?_
     rcases bft ((decide ((w64 (y13 + y7)) < p1))) with hc16 | hc16
     ·replace h := Qaw hc16 h
      refine wft hc16 (by kernel_rfl) ?_
      obtain ⟨x18, hf17, h⟩ := bno h
      refine wx1 tbk [(5, ⟨[fu 110, (.tmp 55, (.own 0 1 (0) (p0))), (.tmp 56, I y13), (.tmp 57, (I (w64 (y13 + y7)))), (.tmp 58, I p1), (.tmp 59, Qim)], [(0, (Qyr y14)), (1, .own 1 [[Qgy]]), (2, (.own 1 [[(Qgx p3)]])), (3, .own 1 [[I p4]]), (4, .own 1 [[I p5]])], (.tup []), [(0, (.own 1 ((x18 : List Int).map Qaj))), (1, .own 1 [[Qgy]]), (2, (.own 1 [[(Qgx p3)]])), (3, .own 1 [[I p4]]), (4, .own 1 [[I p5]])], false⟩)] ⟨Qar (first := []) (cap := []) (vs := [(.own 0 1 (0) (p0)), I y13, (I (w64 (y13 + y7))), I p1, Qim]) (σr := [(Qyr y14), (.own 1 [[Qgy]]), (.own 1 [[(Qgx p3)]]), (.own 1 [[I p4]]), (.own 1 [[I p5]])]) (σr' := [(.own 1 ((x18 : List Int).map Qaj)), (.own 1 [[Qgy]]), (.own 1 [[(Qgx p3)]]), (.own 1 [[I p4]]), (.own 1 [[I p5]])]) (res' := (.tup [])) [0, 1, 2, 3, 4] rfl Qp5 (Qf4 N p0 y13 (w64 (y13 + y7)) p1 y14 p3 p4 p5 _ hf17) rfl (Qbm (rnc (Qcg rfl) (rnc (.plain _ nll) (rnc (.plain _ nll) (rnc (.plain _ nll) (rnc (Qav rn0 (rnc (Qa0 rfl) (rnc (Qa0 rfl) rn0))) rn0)))))) (slc (Qa8 Qab) (slc (Qag (rnc (Qav rn0 (rnc (Qa0 rfl) (rnc (Qa0 rfl) rn0))) rn0)) (slc (Qag (rnc (.plain _ (nld Qab _)) rn0)) (slc (Qag (rnc (.plain _ nll) rn0)) (slc (Qag (rnc (.plain _ nll) rn0)) Qaq))))) (slc (Qa8 Qab) (slc (Qag (rnc (Qav rn0 (rnc (Qbb rfl) (rnc (Qbb rfl) rn0))) rn0)) (slc (Qag (rnc (.plain _ (nld Qab _)) rn0)) (slc (Qag (rnc (.plain _ nll) rn0)) (slc (Qag (rnc (.plain _ nll) rn0)) Qaq))))) (.plain _ (NLt.tup _ nl0)) rfl rfl rfl, trivial⟩ ?_
      refine thn ?_
      refine wx1 tbk [] trivial ?_
      refine bln ?_
      refine thn ?_
      exact arm (mto (n := 63) [(0, (.own 0 1 (0) (p0))), (1, I p1), (2, Qim), (6, (I (w64 (y7 * 2))))] [0, 1, 2, 3, 4] [(.own 1 ((x18 : List Int).map Qaj)), (.own 1 [[Qgy]]), (.own 1 [[(Qgx p3)]]), (.own 1 [[I p4]]), (.own 1 [[I p5]])] hφ0 (pc (.rn (Qaz rfl)) (pc rwl (pc (.rn (Qav rn0 (rnc (rqr rfl) (rnc (rqr rfl) rn0)))) (pc rwl pn)))) (qc (spr Qab) (qc (spb (lc (.rn (Qav rn0 (rnc (rqr rfl) (rnc (rqr rfl) rn0)))) ln)) (qc (spb (lc (.rn (.plain _ (nld Qab _))) ln)) (qc (spb (lc rwl ln)) (qc (spb (lc rwl ln)) qn)))))) (ih (w64 (y7 * 2), x18) h)
     ·replace h := Qax hc16 h
      refine wfn hc16 (by kernel_rfl) ?_
      refine Qap ?_
      refine thn ?_
      refine wx1 tbk [] trivial ?_
      refine bln ?_
      refine thn ?_
      exact arm (mto (n := 63) [(0, (.own 0 1 (0) (p0))), (1, I p1), (2, Qim), (6, (I (w64 (y7 * 2))))] [0, 1, 2, 3, 4] [(Qyr y14), (.own 1 [[Qgy]]), (.own 1 [[(Qgx p3)]]), (.own 1 [[I p4]]), (.own 1 [[I p5]])] hφ0 (pc (.rn (Qaz rfl)) (pc rwl (pc (.rn (Qav rn0 (rnc (rqr rfl) (rnc (rqr rfl) rn0)))) (pc rwl pn)))) (qc (spr Qab) (qc (spb (lc (.rn (Qav rn0 (rnc (rqr rfl) (rnc (rqr rfl) rn0)))) ln)) (qc (spb (lc (.rn (.plain _ (nld Qab _))) ln)) (qc (spb (lc rwl ln)) (qc (spb (lc rwl ln)) qn)))))) (ih (w64 (y7 * 2), y14) h)
    ·skip
     refine Qan ?_
     refine wmr (mto (n := 63) (l' := [(0, (.own 0 1 (0) (p0))), (1, I p1), (2, Qim), (6, I y7), (7, I 0), (8, (I ((w64 (2 * y7)))))]) (own' := [(Qug y8), (.own 1 [[Qgy]]), (.own 1 [[(Qgx p3)]]), (.own 1 [[I p4]]), (.own 1 [[I p5]])]) [(0, (.own 0 1 (0) (p0))), (1, I p1), (2, Qim), (6, I y7), (7, I 0), (8, (I (w64 (2 * y7))))] [0, 1, 2, 3, 4] [(Qug y8), (.own 1 [[Qgy]]), (.own 1 [[(Qgx p3)]]), (.own 1 [[I p4]]), (.own 1 [[I p5]])] hφ0 (pc (.rn (Qaz rfl)) (pc rwl (pc (.rn (Qav rn0 (rnc (rqr rfl) (rnc (rqr rfl) rn0)))) (pc rwl (pc rwl (pc rwl pn)))))) (qc (spr Qab) (qc (spb (lc (.rn (Qav rn0 (rnc (rqr rfl) (rnc (rqr rfl) rn0)))) ln)) (qc (spb (lc (.rn (.plain _ (nld Qab _))) ln)) (qc (spb (lc rwl ln)) (qc (spb (lc rwl ln)) qn)))))) ?_
     refine Qby (τ := Int × Int × (List Int)) (fun n t => Qcj N p0 p1 p3 p4 p5 y7 k15 n t.1 t.2.1 t.2.2 = some r) (fun ⟨y19, y20, y21⟩ => ⟨mk 63 [(0, (.own 0 1 (0) (p0))), (1, I p1), (2, Qim), (6, I y7), (7, I y19), (8, I y20)], [(Qyq y21), (.own 1 [[Qgy]]), (.own 1 [[(Qgx p3)]]), (.own 1 [[I p4]]), (.own 1 [[I p5]])]⟩) (fun t h => by rw [Qcj] at h; cases h) (fun n25 ih t h => ?_) N (0, w64 (2 * y7), y8) h
     obtain ⟨y19, y20, y21⟩ := t
     rw [Qcj] at h
     skip
     refine wsq ?_
     refine wx tbk [] trivial ?_
     rcases bft ((decide (y20 ≤ p1))) with hc26 | hc26
     ·replace h := Qaw hc26 h
      refine wft hc26 (by kernel_rfl) ?_
      refine Qap ?_
      refine thn ?_
      refine Qan ?_
      obtain ⟨x28, hf27, h⟩ := bno h
      refine wx tbk [(7, ⟨[fu 110, (.tmp 36, (.own 0 1 (0) (p0))), (.tmp 37, I y19), (.tmp 40, (I (w64 (y19 + y7)))), (.tmp 41, I y20), (.tmp 42, Qim)], [(0, (Qyq y21)), (1, .own 1 [[Qgy]]), (2, (.own 1 [[(Qgx p3)]])), (3, .own 1 [[I p4]]), (4, .own 1 [[I p5]])], (.tup []), [(0, (.own 1 ((x28 : List Int).map Qaj))), (1, .own 1 [[Qgy]]), (2, (.own 1 [[(Qgx p3)]])), (3, .own 1 [[I p4]]), (4, .own 1 [[I p5]])], false⟩)] ⟨Qar (first := []) (cap := []) (vs := [(.own 0 1 (0) (p0)), I y19, (I (w64 (y19 + y7))), I y20, Qim]) (σr := [(Qyq y21), (.own 1 [[Qgy]]), (.own 1 [[(Qgx p3)]]), (.own 1 [[I p4]]), (.own 1 [[I p5]])]) (σr' := [(.own 1 ((x28 : List Int).map Qaj)), (.own 1 [[Qgy]]), (.own 1 [[(Qgx p3)]]), (.own 1 [[I p4]]), (.own 1 [[I p5]])]) (res' := (.tup [])) [0, 1, 2, 3, 4] rfl Qp5 (Qf4 N p0 y19 (w64 (y19 + y7)) y20 y21 p3 p4 p5 _ hf27) rfl (Qbm (rnc (Qcg rfl) (rnc (.plain _ nll) (rnc (.plain _ nll) (rnc (.plain _ nll) (rnc (Qav rn0 (rnc (Qa0 rfl) (rnc (Qa0 rfl) rn0))) rn0)))))) (slc (Qa8 Qab) (slc (Qag (rnc (Qav rn0 (rnc (Qa0 rfl) (rnc (Qa0 rfl) rn0))) rn0)) (slc (Qag (rnc (.plain _ (nld Qab _)) rn0)) (slc (Qag (rnc (.plain _ nll) rn0)) (slc (Qag (rnc (.plain _ nll) rn0)) Qaq))))) (slc (Qa8 Qab) (slc (Qag (rnc (Qav rn0 (rnc (Qbb rfl) (rnc (Qbb rfl) rn0))) rn0)) (slc (Qag (rnc (.plain _ (nld Qab _)) rn0)) (slc (Qag (rnc (.plain _ nll) rn0)) (slc (Qag (rnc (.plain _ nll) rn0)) Qaq))))) (.plain _ (NLt.tup _ nl0)) rfl rfl rfl, trivial⟩ ?_
      refine wx tbk [] trivial ?_
      obtain ⟨x29, hl30, h⟩ := bno h
      refine wx1 tbk [(4, rp [(.tmp 48, (I (w64 (y20 + (w64 (2 * y7))))))] (I x29))] ⟨Qgj hl30 (aas rfl), trivial⟩ ?_
      refine bln ?_
      refine thn ?_
      exact arm (mto (n := 63) [(0, (.own 0 1 (0) (p0))), (1, I p1), (2, Qim), (6, I y7), (7, I y20), (8, I x29)] [0, 1, 2, 3, 4] [(.own 1 ((x28 : List Int).map Qaj)), (.own 1 [[Qgy]]), (.own 1 [[(Qgx p3)]]), (.own 1 [[I p4]]), (.own 1 [[I p5]])] hφ0 (pc (.rn (Qaz rfl)) (pc rwl (pc (.rn (Qav rn0 (rnc (rqr rfl) (rnc (rqr rfl) rn0)))) (pc rwl (pc rwl (pc rwl pn)))))) (qc (spr Qab) (qc (spb (lc (.rn (Qav rn0 (rnc (rqr rfl) (rnc (rqr rfl) rn0)))) ln)) (qc (spb (lc (.rn (.plain _ (nld Qab _))) ln)) (qc (spb (lc rwl ln)) (qc (spb (lc rwl ln)) qn)))))) (ih (y20, x29, x28) h)
     ·replace h := Qax hc26 h
      refine wfn hc26 (by kernel_rfl) ?_
      refine Qbi ?_
      refine Qay ?_
      refine Qay ?_
      refine Qbh rfl ?_
      refine thn ?_
      exact ⟨(y19, y21), h, (mto (n := 63) [(0, (.own 0 1 (0) (p0))), (1, I p1), (2, Qim), (6, I y7), (7, I y19)] [0, 1, 2, 3, 4] [(Qyq y21), (.own 1 [[Qgy]]), (.own 1 [[(Qgx p3)]]), (.own 1 [[I p4]]), (.own 1 [[I p5]])] hφ0 (pc (.rn (Qaz rfl)) (pc rwl (pc (.rn (Qav rn0 (rnc (rqr rfl) (rnc (rqr rfl) rn0)))) (pc rwl (pc rwl pn))))) (qc (spr Qab) (qc (spb (lc (.rn (Qav rn0 (rnc (rqr rfl) (rnc (rqr rfl) rn0)))) ln)) (qc (spb (lc (.rn (.plain _ (nld Qab _))) ln)) (qc (spb (lc rwl ln)) (qc (spb (lc rwl ln)) qn))))))⟩
   ·replace h := Qax hc12 h
    refine wfn hc12 (by kernel_rfl) ?_
    refine Qbi ?_
    refine Qay ?_
    refine Qay ?_
    refine Qbh rfl ?_
    obtain rfl := osi h
    exact ⟨_, (mto (n := 63) (l' := []) (own' := [(Qug y8), (.own 1 [[Qgy]]), (.own 1 [[(Qgx p3)]]), (.own 1 [[I p4]]), (.own 1 [[I p5]])]) [] [0, 1, 2, 3, 4] [(Qug y8), (.own 1 [[Qgy]]), (.own 1 [[(Qgx p3)]]), (.own 1 [[I p4]]), (.own 1 [[I p5]])] hφ0 pn (qc (spr Qab) (qc (spb (lc (.rn (Qav rn0 (rnc (rqr rfl) (rnc (rqr rfl) rn0)))) ln)) (qc (spb (lc (.rn (.plain _ (nld Qab _))) ln)) (qc (spb (lc rwl ln)) (qc (spb (lc rwl ln)) qn)))))), Qcz (vs := []) trivial rfl (NLt.tup _ nl0) (by kernel_rfl) (Qal (Qb0 Qab _) (Qal (Qa4 (nlc (NLt.fn _ _ _ nl0 (nlc (NLt.ref _ _ _ _ (by decide)) (nlc (NLt.ref _ _ _ _ (by decide)) nl0))) nl0)) (Qal (Qa4 (nlc (NLt.of0 (nld Qab _)) nl0)) (Qal (Qa4 (nlc (NLt.of0 nll) nl0)) (Qal (Qa4 (nlc (NLt.of0 nll) nl0)) Qbn)))))⟩
  ·skip
   refine Qan ?_
   refine wmr (mto (n := 63) (l' := [(0, (.own 0 1 (0) (p0))), (1, I p1), (2, Qim), (6, I 20), (7, I 0), (8, I 20)]) (own' := [(Q97 p2), (.own 1 [[Qgy]]), (.own 1 [[(Qgx p3)]]), (.own 1 [[I p4]]), (.own 1 [[I p5]])]) [(0, (.own 0 1 (0) (p0))), (1, I p1), (2, Qim), (6, I 20), (7, I 0), (8, I 20)] [0, 1, 2, 3, 4] [(Q97 p2), (.own 1 [[Qgy]]), (.own 1 [[(Qgx p3)]]), (.own 1 [[I p4]]), (.own 1 [[I p5]])] hφ0 (pc (.rn (Qaz rfl)) (pc rwl (pc (.rn (Qav rn0 (rnc (rqr rfl) (rnc (rqr rfl) rn0)))) (pc rwl (pc rwl (pc rwl pn)))))) (qc (spr Qab) (qc (spb (lc (.rn (Qav rn0 (rnc (rqr rfl) (rnc (rqr rfl) rn0)))) ln)) (qc (spb (lc (.rn (.plain _ (nld Qab _))) ln)) (qc (spb (lc rwl ln)) (qc (spb (lc rwl ln)) qn)))))) ?_
   refine Qby (τ := Int × Int × (List Int)) (fun n t => Qci N p0 p1 p3 k4 p4 p5 n t.1 t.2.1 t.2.2 = some r) (fun ⟨y31, y32, y33⟩ => ⟨mk 63 [(0, (.own 0 1 (0) (p0))), (1, I p1), (2, Qim), (6, I 20), (7, I y31), (8, I y32)], [(Qyp y33), (.own 1 [[Qgy]]), (.own 1 [[(Qgx p3)]]), (.own 1 [[I p4]]), (.own 1 [[I p5]])]⟩) (fun t h => by rw [Qci] at h; cases h) (fun n37 ih t h => ?_) N (0, 20, p2) h
   obtain ⟨y31, y32, y33⟩ := t
   rw [Qci] at h
   skip
   refine wsq ?_
   refine wx tbk [] trivial ?_
   rcases bft ((decide (y32 ≤ p1))) with hc38 | hc38
   ·replace h := Qaw hc38 h
    refine wft hc38 (by kernel_rfl) ?_
    refine Qap ?_
    refine thn ?_
    refine Qan ?_
    obtain ⟨x40, hf39, h⟩ := bno h
    refine wx tbk [(4, ⟨[fu 109, (.tmp 14, (.own 0 1 (0) (p0))), (.tmp 15, I y31), (.tmp 16, I y32), (.tmp 17, Qim)], [(0, (Qyp y33)), (1, .own 1 [[Qgy]]), (2, (.own 1 [[(Qgx p3)]])), (3, .own 1 [[I p4]]), (4, .own 1 [[I p5]])], (.tup []), [(0, (.own 1 ((x40 : List Int).map Qaj))), (1, .own 1 [[Qgy]]), (2, (.own 1 [[(Qgx p3)]])), (3, .own 1 [[I p4]]), (4, .own 1 [[I p5]])], false⟩)] ⟨Qar (first := []) (cap := []) (vs := [(.own 0 1 (0) (p0)), I y31, I y32, Qim]) (σr := [(Qyp y33), (.own 1 [[Qgy]]), (.own 1 [[(Qgx p3)]]), (.own 1 [[I p4]]), (.own 1 [[I p5]])]) (σr' := [(.own 1 ((x40 : List Int).map Qaj)), (.own 1 [[Qgy]]), (.own 1 [[(Qgx p3)]]), (.own 1 [[I p4]]), (.own 1 [[I p5]])]) (res' := (.tup [])) [0, 1, 2, 3, 4] rfl Qzk (Qe0 N p0 y31 y32 y33 p3 p4 p5 _ hf39) rfl (Qbm (rnc (Qcg rfl) (rnc (.plain _ nll) (rnc (.plain _ nll) (rnc (Qav rn0 (rnc (Qa0 rfl) (rnc (Qa0 rfl) rn0))) rn0))))) (slc (Qa8 Qab) (slc (Qag (rnc (Qav rn0 (rnc (Qa0 rfl) (rnc (Qa0 rfl) rn0))) rn0)) (slc (Qag (rnc (.plain _ (nld Qab _)) rn0)) (slc (Qag (rnc (.plain _ nll) rn0)) (slc (Qag (rnc (.plain _ nll) rn0)) Qaq))))) (slc (Qa8 Qab) (slc (Qag (rnc (Qav rn0 (rnc (Qbb rfl) (rnc (Qbb rfl) rn0))) rn0)) (slc (Qag (rnc (.plain _ (nld Qab _)) rn0)) (slc (Qag (rnc (.plain _ nll) rn0)) (slc (Qag (rnc (.plain _ nll) rn0)) Qaq))))) (.plain _ (NLt.tup _ nl0)) rfl rfl rfl, trivial⟩ ?_
    refine wx tbk [] trivial ?_
    refine wx1 tbk [] trivial ?_
    refine bln ?_
    refine thn ?_
    exact arm (mto (n := 63) [(0, (.own 0 1 (0) (p0))), (1, I p1), (2, Qim), (6, I 20), (7, I y32), (8, (I (w64 (y32 + 20))))] [0, 1, 2, 3, 4] [(.own 1 ((x40 : List Int).map Qaj)), (.own 1 [[Qgy]]), (.own 1 [[(Qgx p3)]]), (.own 1 [[I p4]]), (.own 1 [[I p5]])] hφ0 (pc (.rn (Qaz rfl)) (pc rwl (pc (.rn (Qav rn0 (rnc (rqr rfl) (rnc (rqr rfl) rn0)))) (pc rwl (pc rwl (pc rwl pn)))))) (qc (spr Qab) (qc (spb (lc (.rn (Qav rn0 (rnc (rqr rfl) (rnc (rqr rfl) rn0)))) ln)) (qc (spb (lc (.rn (.plain _ (nld Qab _))) ln)) (qc (spb (lc rwl ln)) (qc (spb (lc rwl ln)) qn)))))) (ih (y32, w64 (y32 + 20), x40) h)
   ·replace h := Qax hc38 h
    refine wfn hc38 (by kernel_rfl) ?_
    refine Qbi ?_
    refine Qay ?_
    refine Qay ?_
    refine Qbh rfl ?_
    refine thn ?_
    exact ⟨(y31, y33), h, (mto (n := 63) [(0, (.own 0 1 (0) (p0))), (1, I p1), (2, Qim), (6, I 20), (7, I y31)] [0, 1, 2, 3, 4] [(Qyp y33), (.own 1 [[Qgy]]), (.own 1 [[(Qgx p3)]]), (.own 1 [[I p4]]), (.own 1 [[I p5]])] hφ0 (pc (.rn (Qaz rfl)) (pc rwl (pc (.rn (Qav rn0 (rnc (rqr rfl) (rnc (rqr rfl) rn0)))) (pc rwl (pc rwl pn))))) (qc (spr Qab) (qc (spb (lc (.rn (Qav rn0 (rnc (rqr rfl) (rnc (rqr rfl) rn0)))) ln)) (qc (spb (lc (.rn (.plain _ (nld Qab _))) ln)) (qc (spb (lc rwl ln)) (qc (spb (lc rwl ln)) qn))))))⟩
def Qed (N : Nat) (p0 : Nat) (p1 : (List Int)) (p2 : (List Int)) (p3 : Int) (p4 : Int) : Option (List Int) :=
  (Qfe N p0 ((p0 : Nat) : Int) p1 p2 p3 p4).bind fun x3 =>
  some x3
def Q99 : AV := .fn (.func 107) [] [(.ref 1 1 (0) 0), (.ref 2 1 (0) 0)]
def Q98 (p1 : (List Int)) : Slot := .own 1 ((p1 : List Int).map Qaj)
def Qui : AV := .fn (.func 103) [] [(.ref 3 1 (0) 0), (.ref 4 1 (0) 0)]
def Quh (p2 : (List Int)) : AV := .dat 1 ((p2 : List Int).map Qaj)
def Q6b (x3 : (List Int)) : Slot := .own 1 ((x3 : List Int).map Qaj)
theorem Qhl (N : Nat) (p0 : Nat) (p1 : (List Int)) (p2 : (List Int)) (p3 : Int) (p4 : Int) (r : (List Int)) (h : Qed N p0 p1 p2 p3 p4 = some r) : Spec Try.prog 106 [(.own 0 1 (0) (p0)), Q99] [(Q98 p1), (.own 1 [[Qui]]), (.own 1 [[(Quh p2)]]), (.own 1 [[(I (p3))]]), (.own 1 [[(I (p4))]])] (.tup []) [(.own 1 ((r : List Int).map Qaj)), (.own 1 [[Qui]]), (.own 1 [[(Quh p2)]]), (.own 1 [[(I (p3))]]), (.own 1 [[(I (p4))]])] := by
  refine Qak Try.func106 rfl 5 (nle rfl) (fun X φ0 w0 hφ0 hd0 => ?_)
  unfold Qed at h
  refine Qbp ?_
  obtain ⟨x3, hf2, h⟩ := bno h
  refine wx1 tbk [(2, rp [(.tmp 5, (.own 0 1 (0) (p0)))] (I (((p0 : Nat) : Int)))), (4, ⟨[fu 108, (.tmp 4, (.own 0 1 (0) (p0))), (.tmp 6, (I (((p0 : Nat) : Int)))), (.tmp 7, Q99)], [(0, (Q98 p1)), (1, .own 1 [[Qui]]), (2, (.own 1 [[(Quh p2)]])), (3, .own 1 [[I p3]]), (4, .own 1 [[I p4]])], (.tup []), [(0, (Q6b x3)), (1, .own 1 [[Qui]]), (2, (.own 1 [[(Quh p2)]])), (3, .own 1 [[I p3]]), (4, .own 1 [[I p4]])], false⟩)] ⟨aln rfl Try.underlying27 rfl, Qar (first := []) (cap := []) (vs := [(.own 0 1 (0) (p0)), (I (((p0 : Nat) : Int))), Q99]) (σr := [(Q98 p1), (.own 1 [[Qui]]), (.own 1 [[(Quh p2)]]), (.own 1 [[I p3]]), (.own 1 [[I p4]])]) (σr' := [(Q6b x3), (.own 1 [[Qui]]), (.own 1 [[(Quh p2)]]), (.own 1 [[I p3]]), (.own 1 [[I p4]])]) (res' := (.tup [])) [0, 1, 2, 3, 4] rfl Q7i (Qip N p0 ((p0 : Nat) : Int) p1 p2 p3 p4 _ hf2) rfl (Qbm (rnc (Qcg rfl) (rnc (.plain _ nll) (rnc (Qav rn0 (rnc (Qa0 rfl) (rnc (Qa0 rfl) rn0))) rn0)))) (slc (Qa8 Qab) (slc (Qag (rnc (Qav rn0 (rnc (Qa0 rfl) (rnc (Qa0 rfl) rn0))) rn0)) (slc (Qag (rnc (.plain _ (nld Qab _)) rn0)) (slc (Qag (rnc (.plain _ nll) rn0)) (slc (Qag (rnc (.plain _ nll) rn0)) Qaq))))) (slc (Qa8 Qab) (slc (Qag (rnc (Qav rn0 (rnc (Qbb rfl) (rnc (Qbb rfl) rn0))) rn0)) (slc (Qag (rnc (.plain _ (nld Qab _)) rn0)) (slc (Qag (rnc (.plain _ nll) rn0)) (slc (Qag (rnc (.plain _ nll) rn0)) Qaq))))) (.plain _ (NLt.tup _ nl0)) rfl rfl rfl, trivial⟩ ?_
  obtain rfl := osi h
  exact ⟨_, (mto (n := 9) (l' := []) (own' := [(Q6b x3), (.own 1 [[Qui]]), (.own 1 [[(Quh p2)]]), (.own 1 [[I p3]]), (.own 1 [[I p4]])]) [] [0, 1, 2, 3, 4] [(Q6b x3), (.own 1 [[Qui]]), (.own 1 [[(Quh p2)]]), (.own 1 [[I p3]]), (.own 1 [[I p4]])] hφ0 pn (qc (spr Qab) (qc (spb (lc (.rn (Qav rn0 (rnc (rqr rfl) (rnc (rqr rfl) rn0)))) ln)) (qc (spb (lc (.rn (.plain _ (nld Qab _))) ln)) (qc (spb (lc rwl ln)) (qc (spb (lc rwl ln)) qn)))))), Qcz (vs := []) trivial rfl (NLt.tup _ nl0) (by kernel_rfl) (Qal (Qb0 Qab _) (Qal (Qa4 (nlc (NLt.fn _ _ _ nl0 (nlc (NLt.ref _ _ _ _ (by decide)) (nlc (NLt.ref _ _ _ _ (by decide)) nl0))) nl0)) (Qal (Qa4 (nlc (NLt.of0 (nld Qab _)) nl0)) (Qal (Qa4 (nlc (NLt.of0 nll) nl0)) (Qal (Qa4 (nlc (NLt.of0 nll) nl0)) Qbn)))))⟩
def Qdp (N : Nat) (p0 : (List Int)) (k4 : (List Int) → Option (List Int)) : Nat → Int → (List Int) → Option (List Int)
  | 0, _, _ => none
  | n13 + 1, y9, y10 =>
    bif (decide (y9 < (p0.length : Int))) then
     chk (decide ((y10.length + ([y9]).length) * 8 ≤ 140737488355328)) <|
     Qdp N p0 k4 n13 (w64 (y9 + 1)) (y10 ++ ([y9]))
    else
     k4 (y10)
def Qhj (N : Nat) (p0 : (List Int)) (p1 : Int) (p2 : Int) : Option (List Int) :=
  Qbz (fun y3 =>
    chk (!y3.isEmpty) <|
    (Qed N y3.length y3 p0 p1 p2).bind fun x7 =>
    chk (decide (y3.length ≤ x7.length)) <|
    some (x7.take y3.length)) fun k4 : (List Int) → Option (List Int) =>
  Qdp N p0 k4 N 0 ([] : List Int)
def Qom (p0 : (List Int)) : AV := .dat 1 ((p0 : List Int).map Qaj)
def Qpp : AV := .fn (.func 103) [] [(.ref 0 1 (0) 0), (.ref 1 1 (0) 0)]
def Qyt : AV := .fn (.func 107) [] [(.ref 3 1 (0) 0), (.ref 2 1 (0) 0)]
def Qys (x7 : (List Int)) (y3 : (List Int)) : AV := .dat 1 ((x7.take y3.length : List Int).map Qaj)
def Zd0 : Slot := .gro 1 ((([] : List Int) : List Int).map Qaj)
theorem Qlk (N : Nat) (p0 : (List Int)) (p1 : Int) (p2 : Int) (r : (List Int)) (h : Qhj N p0 p1 p2 = some r) : Spec Try.prog 102 [(Qom p0), Qpp] [(.own 1 [[(I (p1))]]), (.own 1 [[(I (p2))]])] (.dat 1 ((r : List Int).map Qaj)) [(.own 1 [[(I (p1))]]), (.own 1 [[(I (p2))]])] := by
  refine Qak Try.func102 rfl 2 (nle rfl) (fun X φ0 w0 hφ0 hd0 => ?_)
  unfold Qhj at h
  refine Qbp ?_
  refine wx tbk [] trivial ?_
  refine wx tbk [] trivial ?_
  obtain ⟨k4, hk_k4, h⟩ := jko h
  refine wjn (τ := (List Int)) (fun t => k4 t = some r) (fun y3 => ⟨mk 21 [(2, .ref 2 1 0 0), (3, .ref 3 1 0 0), (5, (.gro 4 3 1 (y3.length)))], [(.own 1 [[I p1]]), (.own 1 [[I p2]]), (.own 1 [[(Qom p0)]]), (.own 1 [[Qpp]]), (.gro 1 ((y3 : List Int).map Qaj))]⟩) (fun y3 h => ?_) ?_
  ·subst hk_k4
   obtain ⟨hz5, h⟩ := cko h
   obtain ⟨x7, hf6, h⟩ := bno h
   refine wx tbk [(1, rp [(.tmp 3, .ref 3 1 0 0), (.tmp 2, .ref 2 1 0 0)] Qyt), (2, ⟨[fu 106, (.tmp 17, (.gro 4 3 1 (y3.length))), (.tmp 18, Qyt)], [(4, (.gro 1 ((y3 : List Int).map Qaj))), (3, .own 1 [[Qpp]]), (2, (.own 1 [[(Qom p0)]])), (0, .own 1 [[I p1]]), (1, .own 1 [[I p2]])], (.tup []), [(4, (.own 1 ((x7 : List Int).map Qaj))), (3, .own 1 [[Qpp]]), (2, (.own 1 [[(Qom p0)]])), (0, .own 1 [[I p1]]), (1, .own 1 [[I p2]])], false⟩)] ⟨Qfu (fs := []) (cs := [.ref 3 1 0 0, .ref 2 1 0 0]) rfl rfl rfl rfl, Qxo (bl' := [(4, (.own 1 ((y3 : List Int).map Qaj))), (3, .own 1 [[Qpp]]), (2, (.own 1 [[(Qom p0)]])), (0, .own 1 [[I p1]]), (1, .own 1 [[I p2]])]) ⟨rfl, SLess.gro (Qlb hz5), rfl, SLess.rfl, rfl, SLess.rfl, rfl, SLess.rfl, rfl, SLess.rfl, trivial⟩ (awk (rd' := [fu 106, (.tmp 17, (.own 4 1 (0) (y3.length))), (.tmp 18, Qyt)]) ⟨rfl, lrf, rfl, Less.gro, rfl, lrf, trivial⟩ (Qar (first := []) (cap := []) (vs := [(.own 4 1 (0) (y3.length)), Qyt]) (σr := [(.own 1 ((y3 : List Int).map Qaj)), (.own 1 [[Qpp]]), (.own 1 [[(Qom p0)]]), (.own 1 [[I p1]]), (.own 1 [[I p2]])]) (σr' := [(.own 1 ((x7 : List Int).map Qaj)), (.own 1 [[Qpp]]), (.own 1 [[(Qom p0)]]), (.own 1 [[I p1]]), (.own 1 [[I p2]])]) (res' := (.tup [])) [4, 3, 2, 0, 1] rfl Q7j (Qhl N y3.length y3 p0 p1 p2 _ hf6) rfl (Qbm (rnc (Qcg rfl) (rnc (Qav rn0 (rnc (Qa0 rfl) (rnc (Qa0 rfl) rn0))) rn0))) (slc (Qa8 Qab) (slc (Qag (rnc (Qav rn0 (rnc (Qa0 rfl) (rnc (Qa0 rfl) rn0))) rn0)) (slc (Qag (rnc (.plain _ (nld Qab _)) rn0)) (slc (Qag (rnc (.plain _ nll) rn0)) (slc (Qag (rnc (.plain _ nll) rn0)) Qaq))))) (slc (Qa8 Qab) (slc (Qag (rnc (Qav rn0 (rnc (Qbb rfl) (rnc (Qbb rfl) rn0))) rn0)) (slc (Qag (rnc (.plain _ (nld Qab _)) rn0)) (slc (Qag (rnc (.plain _ nll) rn0)) (slc (Qag (rnc (.plain _ nll) rn0)) Qaq))))) (.plain _ (NLt.tup _ nl0)) rfl rfl rfl)), trivial⟩ ?_
   refine wx tbk [] trivial ?_
   obtain ⟨hz8, h⟩ := cko h
   refine wmr (Q68 (n := 21) (l' := [(4, (.own 4 1 (0) (y3.length)))]) [(4, (.gro 4 3 1 (y3.length)))] (by kernel_rfl) (by kernel_rfl) ⟨rfl, Less.gro, trivial⟩) ?_
   refine wmr (Q81 (n := 21) (l' := [(4, (Qys x7 y3))]) 4 [(4, (.own 4 1 (0) (y3.length)))] (by kernel_rfl) (by kernel_rfl) (by kernel_rfl) ⟨rfl, (Qq0 hz8), trivial⟩ rfl) ?_
   refine wmr (mto (n := 21) (l' := [(4, (Qys x7 y3))]) (own' := [(.own 1 [[I p1]]), (.own 1 [[I p2]])]) [(4, (Qys x7 y3))] [0, 1] [(.own 1 [[I p1]]), (.own 1 [[I p2]])] hφ0 (pc (.rn (.plain _ (nld Qab _))) pn) (qc (spb (lc rwl ln)) (qc (spb (lc rwl ln)) qn))) ?_
   refine Qad ?_
   obtain rfl := osi h
   exact ⟨_, Mor.rfl, Qcz (vs := [(Qys x7 y3)]) ⟨rot (by kernel_rfl), trivial⟩ rfl (NLt.of0 (nld Qab _)) (by kernel_rfl) (Qal (Qa4 (nlc (NLt.of0 nll) nl0)) (Qal (Qa4 (nlc (NLt.of0 nll) nl0)) Qbn))⟩
  ·skip
   refine wx tbk [(1, rp [(.tmp 7, (Qom p0))] (I ((p0.length : Int))))] ⟨alm (c := Qaj) (l := p0) (aln rfl Try.underlying27 rfl), trivial⟩ ?_
   refine Qan ?_
   refine wmr (Mor.trans (Q67 4 3 1 5 (by kernel_rfl) (by kernel_rfl)) (mto (n := 21) (l' := [(2, .ref 2 1 0 0), (3, .ref 3 1 0 0), (5, (.gro 4 3 1 (([] : List Int).length))), (8, (I ((p0.length : Int)))), (9, I 0)]) (own' := [(.own 1 [[I p1]]), (.own 1 [[I p2]]), (.own 1 [[(Qom p0)]]), (.own 1 [[Qpp]]), Zd0]) [(2, .ref 2 1 0 0), (3, .ref 3 1 0 0), (5, (.gro 4 3 1 (([] : List Int).length))), (8, (I ((p0.length : Int)))), (9, I 0)] [0, 1, 2, 3, 4] [(.own 1 [[I p1]]), (.own 1 [[I p2]]), (.own 1 [[(Qom p0)]]), (.own 1 [[Qpp]]), Zd0] hφ0 (pc (.rn (rqr rfl)) (pc (.rn (rqr rfl)) (pc (.rn (Qws rfl)) (pc rwl (pc rwl pn))))) (qc (spb (lc rwl ln)) (qc (spb (lc rwl ln)) (qc (spb (lc (.rn (.plain _ (nld Qab _))) ln)) (qc (spb (lc (.rn (Qav rn0 (rnc (rqr rfl) (rnc (rqr rfl) rn0)))) ln)) (qc (Qte Qab) qn))))))) ?_
   refine Qby (τ := Int × (List Int)) (fun n t => Qdp N p0 k4 n t.1 t.2 = some r) (fun ⟨y9, y10⟩ => ⟨mk 21 [(2, .ref 2 1 0 0), (3, .ref 3 1 0 0), (5, (.gro 4 3 1 (y10.length))), (8, (I ((p0.length : Int)))), (9, I y9)], [(.own 1 [[I p1]]), (.own 1 [[I p2]]), (.own 1 [[(Qom p0)]]), (.own 1 [[Qpp]]), (.gro 1 ((y10 : List Int).map Qaj))]⟩) (fun t h => by rw [Qdp] at h; cases h) (fun n13 ih t h => ?_) N (0, ([] : List Int)) h
   obtain ⟨y9, y10⟩ := t
   rw [Qdp] at h
   skip
   refine wx tbk [] trivial ?_
   refine wsq ?_
   rcases bft ((decide (y9 < (p0.length : Int)))) with hc14 | hc14
   ·replace h := Qaw hc14 h
    refine wft hc14 (by kernel_rfl) ?_
    refine Qap ?_
    refine thn ?_
    refine wsq ?_
    refine Qan ?_
    refine wx tbk [] trivial ?_
    obtain ⟨ha15, h⟩ := cko h
    refine wx1 tbk [(2, rp [(.tmp 13, I y9)] (.dat 1 (([y9] : List Int).map Qaj))), (3, ⟨[(.tmp 12, (.gro 4 3 1 (y10.length))), (.tmp 14, (.dat 1 (([y9] : List Int).map Qaj)))], [(4, (.gro 1 ((y10 : List Int).map Qaj))), (5, .unused)], (.gro 5 3 1 ((y10 ++ ([y9])).length)), [(4, .dead), (5, (.gro 1 ((y10 ++ ([y9]) : List Int).map Qaj)))], false⟩)] ?_ ?_
    ·exact ⟨Qb1 (vs := [I y9]) rfl Try.underlying27 ti3 tz3 rfl (by decide) rfl (by decide) (by rfl) (by rfl) (by rfl) rfl, Qxv (c := Qaj) (a := y10) (b := [y9]) rfl Try.underlying27 te3 rfl (Qlb rfl) (by rfl) ha15 (by decide), trivial⟩
    refine bln ?_
    refine thn ?_
    refine wx1 tbk [] trivial ?_
    refine thn ?_
    exact arm (mto (n := 21) [(2, .ref 2 1 0 0), (3, .ref 3 1 0 0), (5, (.gro 5 3 1 ((y10 ++ ([y9])).length))), (8, (I ((p0.length : Int)))), (9, (I (w64 (y9 + 1))))] [0, 1, 2, 3, 5] [(.own 1 [[I p1]]), (.own 1 [[I p2]]), (.own 1 [[(Qom p0)]]), (.own 1 [[Qpp]]), (.gro 1 ((y10 ++ ([y9]) : List Int).map Qaj))] hφ0 (pc (.rn (rqr rfl)) (pc (.rn (rqr rfl)) (pc (.rn (Qws rfl)) (pc rwl (pc rwl pn))))) (qc (spb (lc rwl ln)) (qc (spb (lc rwl ln)) (qc (spb (lc (.rn (.plain _ (nld Qab _))) ln)) (qc (spb (lc (.rn (Qav rn0 (rnc (rqr rfl) (rnc (rqr rfl) rn0)))) ln)) (qc (Qte Qab) qn)))))) (ih (w64 (y9 + 1), y10 ++ ([y9])) h)
   ·replace h := Qax hc14 h
    refine wfn hc14 (by kernel_rfl) ?_
    refine Qbi ?_
    refine Qay ?_
    refine Qay ?_
    refine Qbh rfl ?_
    refine thn ?_
    exact ⟨(y10), h, (mto (n := 21) [(2, .ref 2 1 0 0), (3, .ref 3 1 0 0), (5, (.gro 4 3 1 (y10.length)))] [0, 1, 2, 3, 4] [(.own 1 [[I p1]]), (.own 1 [[I p2]]), (.own 1 [[(Qom p0)]]), (.own 1 [[Qpp]]), (.gro 1 ((y10 : List Int).map Qaj))] hφ0 (pc (.rn (rqr rfl)) (pc (.rn (rqr rfl)) (pc (.rn (Qws rfl)) pn))) (qc (spb (lc rwl ln)) (qc (spb (lc rwl ln)) (qc (spb (lc (.rn (.plain _ (nld Qab _))) ln)) (qc (spb (lc (.rn (Qav rn0 (rnc (rqr rfl) (rnc (rqr rfl) rn0)))) ln)) (qc (Qte Qab) qn))))))⟩
def Qfc (N : Nat) (p1 : (List Int)) (y6 : Int) (k10 : (List Int) → Option (List Int)) (x13 : (List Int)) : Nat → Int → (List Int) → Option (List Int)
  | 0, _, _ => none
  | n19 + 1, y15, y16 =>
    bif (decide (y15 < (((x13).take (y6.toNat - 0)).length : Int))) then
     (getI ((x13).take (y6.toNat - 0)) y15).bind fun x21 =>
     chk (decide (0 ≤ x21) && decide (x21.toNat < (p1.length : Int).toNat)) <|
     (y16[x21.toNat]?).bind fun x26 =>
     chk (decide (0 ≤ x21) && decide (x21.toNat < (p1.length : Int).toNat)) <|
     (y16[x21.toNat]?).bind fun _ =>
     Qfc N p1 y6 k10 x13 n19 (w64 (y15 + 1)) (y16.set x21.toNat (w64 (x26 + 1)))
    else
     k10 (y16)
def Qfb (N : Nat) (p0 : Int) (p1 : (List Int)) (y3 : Int) (k8 : Int × (List Int) → Option (List Int)) : Nat → Int → Int → (List Int) → Option (List Int)
  | 0, _, _, _ => none
  | n37 + 1, y31, y32, y33 =>
    bif (decide (y32 < (p1.length : Int))) then
     (getI p1 y32).bind fun x39 =>
     chk (y3 != 0) <|
     chk (decide (0 ≤ y32) && decide (y32.toNat < (p1.length : Int).toNat)) <|
     (y33[y32.toNat]?).bind fun _ =>
     chk (decide (0 ≤ y32) && decide (y32.toNat < (p1.length : Int).toNat)) <|
     ((y33.set y32.toNat (w64 ((w64 (p0 * x39)).tdiv y3)))[y32.toNat]?).bind fun x48 =>
     Qfb N p0 p1 y3 k8 n37 (w64 (y31 - x48)) (w64 (y32 + 1)) (y33.set y32.toNat (w64 ((w64 (p0 * x39)).tdiv y3)))
    else
     k8 (y31, y33)
def Qfa (N : Nat) (p1 : (List Int)) (k4 : Int → Option (List Int)) : Nat → Int → Int → Option (List Int)
  | 0, _, _ => none
  | n54 + 1, y50, y51 =>
    bif (decide (y50 < (p1.length : Int))) then
     (getI p1 y50).bind fun x56 =>
     Qfa N p1 k4 n54 (w64 (y50 + 1)) (w64 (y51 + x56))
    else
     k4 (y51)
def Qk5 (N : Nat) (p0 : Int) (p1 : (List Int)) : Option (List Int) :=
  Qbz (fun y3 =>
    chk (decide (0 ≤ (p1.length : Int)) && decide (8 * (p1.length : Int) ≤ 281474976710656) && decide ((p1.length : Int) ≤ 9223372036854775807)) <|
    Qbz (fun ⟨y6, y7⟩ =>
      Qbz (fun y9 =>
        chk (decide ((p1.length : Int).toNat ≤ y9.length)) <|
        some (y9.take ((p1.length : Int).toNat))) fun k10 : (List Int) → Option (List Int) =>
      (Qhj N p1 p0 y3).bind fun x13 =>
      chk (decide (0 ≤ 0) && decide (0 ≤ y6) && decide (y6 ≤ (x13.length : Int))) <|
      Qfc N p1 y6 k10 x13 N 0 y7) fun k8 : Int × (List Int) → Option (List Int) =>
    Qfb N p0 p1 y3 k8 N p0 0 (List.replicate (p1.length : Int).toNat 0)) fun k4 : Int → Option (List Int) =>
  Qfa N p1 k4 N 0 0
def Qib (p1 : (List Int)) : AV := .dat 1 ((p1 : List Int).map Qaj)
def Zd1 (p1 : (List Int)) : Slot := .own 1 ((List.replicate (p1.length : Int).toNat 0 : List Int).map Qaj)
def Q2s (y7 : (List Int)) : Slot := .own 1 ((y7 : List Int).map Qaj)
def Qyw (y9 : (List Int)) (p1 : (List Int)) : AV := .dat 1 ((y9.take ((p1.length : Int).toNat) : List Int).map Qaj)
def Q2t : AV := .fn (.func 103) [] [(.ref 0 1 (0) 0), (.ref 1 1 (0) 0)]
def Q2r (x13 : (List Int)) : AV := .dat 1 ((x13 : List Int).map Qaj)
def Qqb (x13 : (List Int)) (y6 : Int) : AV := .dat 1 (((x13).take (y6.toNat - 0) : List Int).map Qaj)
def Qr9 (y16 : (List Int)) : Slot := .own 1 ((y16 : List Int).map Qaj)
def Qyv (y33 : (List Int)) : Slot := .own 1 ((y33 : List Int).map Qaj)
def Qyu (y33 : (List Int)) (y32 : Int) (p0 : Int) (x39 : Int) (y3 : Int) : Slot := .own 1 ((y33.set y32.toNat (w64 ((w64 (p0 * x39)).tdiv y3)) : List Int).map Qaj)
theorem Qpr (N : Nat) (p0 : Int) (p1 : (List Int)) (r : (List Int)) (h : Qk5 N p0 p1 = some r) : Spec Try.prog 99 [(I p0), (.dat 1 (p1.map Qaj))] [] (.dat 1 ((r : List Int).map Qaj)) [] := by
  refine Qak Try.func99 rfl 0 (nle rfl) (fun X φ0 w0 hφ0 hd0 => ?_)
  unfold Qk5 at h
  refine Qbp ?_
  refine wx tbk [] trivial ?_
  refine wx tbk [] trivial ?_
  obtain ⟨k4, hk_k4, h⟩ := jko h
  refine wjn (τ := Int) (fun t => k4 t = some r) (fun y3 => ⟨mk 68 [(1, (Qib p1)), (2, .ref 0 1 0 0), (5, .ref 1 1 0 0)], [(.own 1 [[I p0]]), (.own 1 [[I y3]])]⟩) (fun y3 h => ?_) ?_
  ·subst hk_k4
   obtain ⟨hm5, h⟩ := cko h
   refine wxd tbk [(1, rp [(.tmp 24, (Qib p1))] (I ((p1.length : Int)))), (2, ⟨[(.tmp 25, (I ((p1.length : Int)))), (.tmp 25, (I ((p1.length : Int))))], [(2, .unused)], (.own 2 1 (0) ((p1.length : Int).toNat)), [(2, (Zd1 p1))], false⟩)] ⟨alm (c := Qaj) (l := p1) (aln rfl Try.underlying27 rfl), Qo5 rfl Try.underlying27 te3 tz3 rfl (Q5p hm5) rfl (Q5o hm5) (Q5n hm5) (Q3n Qaj rfl), trivial⟩ ?_
   obtain ⟨k8, hk_k8, h⟩ := jko h
   refine wjn (τ := Int × (List Int)) (fun t => k8 t = some r) (fun ⟨y6, y7⟩ => ⟨mk 68 [(1, (Qib p1)), (2, .ref 0 1 0 0), (5, .ref 1 1 0 0), (8, (.own 2 1 (0) ((p1.length : Int).toNat))), (9, I y6)], [(.own 1 [[I p0]]), (.own 1 [[I y3]]), (Q2s y7)]⟩) (fun t h => ?_) ?_
   ·subst hk_k8
    obtain ⟨y6, y7⟩ := t
    obtain ⟨k10, hk_k10, h⟩ := jko h
    refine wjn (τ := (List Int)) (fun t => k10 t = some r) (fun y9 => ⟨mk 68 [(8, (.own 0 1 (0) ((p1.length : Int).toNat)))], [(.own 1 ((y9 : List Int).map Qaj))]⟩) (fun y9 h => ?_) ?_
    ·subst hk_k10
     refine wx tbk [] trivial ?_
     obtain ⟨hz11, h⟩ := cko h
     refine wmr (Q81 (n := 68) (l' := [(4, (Qyw y9 p1))]) 0 [(4, (.own 0 1 (0) ((p1.length : Int).toNat)))] (by kernel_rfl) (by kernel_rfl) (by kernel_rfl) ⟨rfl, (Qq0 hz11), trivial⟩ rfl) ?_
     refine wmr (mto (n := 68) (l' := [(4, (Qyw y9 p1))]) (own' := []) [(4, (Qyw y9 p1))] [] [] hφ0 (pc (.rn (.plain _ (nld Qab _))) pn) qn) ?_
     refine Qad ?_
     obtain rfl := osi h
     exact ⟨_, Mor.rfl, Qcz (vs := [(Qyw y9 p1)]) ⟨rot (by kernel_rfl), trivial⟩ rfl (nld Qab _) (by kernel_rfl) Qbn⟩
    ·skip
     obtain ⟨x13, hf12, h⟩ := bno h
     obtain ⟨hs14, h⟩ := cko h
     refine wx tbk [(1, rp [(.tmp 2, .ref 0 1 0 0), (.tmp 5, .ref 1 1 0 0)] Q2t), (2, ⟨[fu 102, (.tmp 50, (Qib p1)), (.tmp 51, Q2t)], [(0, .own 1 [[I p0]]), (1, .own 1 [[I y3]])], (Q2r x13), [(0, .own 1 [[I p0]]), (1, .own 1 [[I y3]])], false⟩), (4, rp [(.tmp 52, (Q2r x13)), (.tmp 53, I y6)] (Qqb x13 y6)), (5, rp [(.tmp 54, (Qqb x13 y6))] (I ((((x13).take (y6.toNat - 0)).length : Int))))] ⟨Qfu (fs := []) (cs := [.ref 0 1 0 0, .ref 1 1 0 0]) rfl rfl rfl rfl, Qar (first := []) (cap := []) (vs := [(Qib p1), Q2t]) (σr := [(.own 1 [[I p0]]), (.own 1 [[I y3]])]) (σr' := [(.own 1 [[I p0]]), (.own 1 [[I y3]])]) (res' := (Q2r x13)) [0, 1] rfl Q7l (Qlk N p1 p0 y3 _ hf12) rfl (Qbm (rnc (.plain _ (nld Qab _)) (rnc (Qav rn0 (rnc (Qa0 rfl) (rnc (Qa0 rfl) rn0))) rn0))) (slc (Qag (rnc (.plain _ nll) rn0)) (slc (Qag (rnc (.plain _ nll) rn0)) Qaq)) (slc (Qag (rnc (.plain _ nll) rn0)) (slc (Qag (rnc (.plain _ nll) rn0)) Qaq)) (.plain _ (nld Qab _)) rfl rfl rfl, Qpi (k := .i64) (k' := .i64) (lo := none) (hi := some (.tmp 53)) (l := 0) (hh := y6) rfl Try.underlying27 ti3 rfl (fun _ => rfl) (fun e => nomatch e) (Q5p hs14) (Q5o hs14) (Ze0 (Qaj) hs14) (Zfi Qaj), alm (c := Qaj) (l := (x13).take (y6.toNat - 0)) (aln rfl Try.underlying27 rfl), trivial⟩ ?_
     refine Qan ?_
     refine wmr (mto (n := 68) (l' := [(8, (.own 0 1 (0) ((p1.length : Int).toNat))), (54, (Qqb x13 y6)), (55, (I ((((x13).take (y6.toNat - 0)).length : Int)))), (56, I 0)]) (own' := [(Q2s y7)]) [(8, (.own 2 1 (0) ((p1.length : Int).toNat))), (54, (Qqb x13 y6)), (55, (I ((((x13).take (y6.toNat - 0)).length : Int)))), (56, I 0)] [2] [(Q2s y7)] hφ0 (pc (.rn (Qaz rfl)) (pc (.rn (.plain _ (nld Qab _))) (pc rwl (pc rwl pn)))) (qc (spr Qab) qn)) ?_
     refine Qby (τ := Int × (List Int)) (fun n t => Qfc N p1 y6 k10 x13 n t.1 t.2 = some r) (fun ⟨y15, y16⟩ => ⟨mk 68 [(8, (.own 0 1 (0) ((p1.length : Int).toNat))), (54, (Qqb x13 y6)), (55, (I ((((x13).take (y6.toNat - 0)).length : Int)))), (56, I y15)], [(Qr9 y16)]⟩) (fun t h => by rw [Qfc] at h; cases h) (fun n19 ih t h => ?_) N (0, y7) h
     obtain ⟨y15, y16⟩ := t
     rw [Qfc] at h
     skip
     refine wx tbk [] trivial ?_
     refine wsq ?_
     rcases bft ((decide (y15 < (((x13).take (y6.toNat - 0)).length : Int)))) with hc20 | hc20
     ·replace h := Qaw hc20 h
      refine wft hc20 (by kernel_rfl) ?_
      refine Qap ?_
      refine thn ?_
      refine wsq ?_
      refine Qan ?_
      obtain ⟨x21, hg22, h⟩ := bno h
      obtain ⟨hi23, hj24⟩ := gsm hg22
      refine wx tbk [(0, rp [(.tmp 54, (Qqb x13 y6)), (.tmp 56, I y15)] (.dptr (Qaj (x21)) 0))] ⟨aid rfl Try.underlying27 ti3 rfl rfl hi23 (mgt Qaj hj24) rfl, trivial⟩ ?_
      obtain ⟨hi25, h⟩ := cko h
      obtain ⟨hi25a, hi25b⟩ := Qcy hi25
      obtain ⟨x26, hg27, h⟩ := bno h
      obtain ⟨hi28, h⟩ := cko h
      obtain ⟨hi28a, hi28b⟩ := Qcy hi28
      obtain ⟨x29, hg30, h⟩ := bno h
      refine wx1 tbk [(2, rb [(.tmp 60, (.own 0 1 (0) ((p1.length : Int).toNat))), (.tmp 61, I x21)] [(0, (Qr9 y16))] (.ref 0 1 (x21.toNat) 0)), (3, rb [(.tmp 62, (.ref 0 1 (x21.toNat) 0))] [(0, (Qr9 y16))] (I x26)), (5, rb [(.tmp 60, (.own 0 1 (0) ((p1.length : Int).toNat))), (.tmp 61, I x21)] [(0, (Qr9 y16))] (.ref 0 1 (x21.toNat) 0)), (6, ⟨[(.tmp 65, (.ref 0 1 (x21.toNat) 0)), (.tmp 64, (I (w64 (x26 + 1))))], [(0, (Qr9 y16))], .any, [(0, (.own 1 ((y16.set x21.toNat (w64 (x26 + 1)) : List Int).map Qaj)))], false⟩)] ⟨aio rfl Try.underlying27 ti3 (odt hi25a) (odt hi25b) (Nat.zero_add _), ald rfl ti3 (by decide) (mgt Qaj hg27) (nle rfl) rfl, aio rfl Try.underlying27 ti3 (odt hi28a) (odt hi28b) (Nat.zero_add _), ast rfl ti3 (by rfl) (mgt Qaj hg30) (nle rfl) (Qfs Qaj rfl), trivial⟩ ?_
      refine bln ?_
      refine thn ?_
      refine wx1 tbk [] trivial ?_
      refine thn ?_
      exact arm (mto (n := 68) [(8, (.own 0 1 (0) ((p1.length : Int).toNat))), (54, (Qqb x13 y6)), (55, (I ((((x13).take (y6.toNat - 0)).length : Int)))), (56, (I (w64 (y15 + 1))))] [0] [(.own 1 ((y16.set x21.toNat (w64 (x26 + 1)) : List Int).map Qaj))] hφ0 (pc (.rn (Qaz rfl)) (pc (.rn (.plain _ (nld Qab _))) (pc rwl (pc rwl pn)))) (qc (spr Qab) qn)) (ih (w64 (y15 + 1), y16.set x21.toNat (w64 (x26 + 1))) h)
     ·replace h := Qax hc20 h
      refine wfn hc20 (by kernel_rfl) ?_
      refine Qbi ?_
      refine Qay ?_
      refine Qay ?_
      refine Qbh rfl ?_
      refine thn ?_
      exact ⟨(y16), h, (mto (n := 68) [(8, (.own 0 1 (0) ((p1.length : Int).toNat)))] [0] [(Qr9 y16)] hφ0 (pc (.rn (Qaz rfl)) pn) (qc (spr Qab) qn))⟩
   ·skip
    refine wx tbk [(1, rp [(.tmp 28, (Qib p1))] (I ((p1.length : Int))))] ⟨alm (c := Qaj) (l := p1) (aln rfl Try.underlying27 rfl), trivial⟩ ?_
    refine Qan ?_
    refine wmr (mto (n := 68) (l' := [(1, (Qib p1)), (2, .ref 0 1 0 0), (5, .ref 1 1 0 0), (8, (.own 2 1 (0) ((p1.length : Int).toNat))), (9, I p0), (28, (Qib p1)), (29, (I ((p1.length : Int)))), (30, I 0)]) (own' := [(.own 1 [[I p0]]), (.own 1 [[I y3]]), (.own 1 (((List.replicate (p1.length : Int).toNat 0) : List Int).map Qaj))]) [(1, (Qib p1)), (2, .ref 0 1 0 0), (5, .ref 1 1 0 0), (8, (.own 2 1 (0) ((p1.length : Int).toNat))), (9, I p0), (28, (Qib p1)), (29, (I ((p1.length : Int)))), (30, I 0)] [0, 1, 2] [(.own 1 [[I p0]]), (.own 1 [[I y3]]), (Zd1 p1)] hφ0 (pc (.rn (.plain _ (nld Qab _))) (pc (.rn (rqr rfl)) (pc (.rn (rqr rfl)) (pc (.rn (Qaz rfl)) (pc rwl (pc (.rn (.plain _ (nld Qab _))) (pc rwl (pc rwl pn)))))))) (qc (spb (lc rwl ln)) (qc (spb (lc rwl ln)) (qc (spr Qab) qn)))) ?_
    refine Qby (τ := Int × Int × (List Int)) (fun n t => Qfb N p0 p1 y3 k8 n t.1 t.2.1 t.2.2 = some r) (fun ⟨y31, y32, y33⟩ => ⟨mk 68 [(1, (Qib p1)), (2, .ref 0 1 0 0), (5, .ref 1 1 0 0), (8, (.own 2 1 (0) ((p1.length : Int).toNat))), (9, I y31), (28, (Qib p1)), (29, (I ((p1.length : Int)))), (30, I y32)], [(.own 1 [[I p0]]), (.own 1 [[I y3]]), (Qyv y33)]⟩) (fun t h => by rw [Qfb] at h; cases h) (fun n37 ih t h => ?_) N (p0, 0, List.replicate (p1.length : Int).toNat 0) h
    obtain ⟨y31, y32, y33⟩ := t
    rw [Qfb] at h
    skip
    refine wx tbk [] trivial ?_
    refine wsq ?_
    rcases bft ((decide (y32 < (p1.length : Int)))) with hc38 | hc38
    ·replace h := Qaw hc38 h
     refine wft hc38 (by kernel_rfl) ?_
     refine Qap ?_
     refine thn ?_
     refine wsq ?_
     refine Qan ?_
     obtain ⟨x39, hg40, h⟩ := bno h
     obtain ⟨hi41, hj42⟩ := gsm hg40
     refine wx tbk [(1, rp [(.tmp 28, (Qib p1)), (.tmp 30, I y32)] (.dptr (Qaj (x39)) 0))] ⟨aid rfl Try.underlying27 ti3 rfl rfl hi41 (mgt Qaj hj42) rfl, trivial⟩ ?_
     obtain ⟨hz43, h⟩ := cko h
     obtain ⟨hi44, h⟩ := cko h
     obtain ⟨hi44a, hi44b⟩ := Qcy hi44
     obtain ⟨x45, hg46, h⟩ := bno h
     refine wx tbk [(6, rp [(.tmp 39, (I (w64 (p0 * x39)))), (.tmp 40, I y3)] (I (w64 ((w64 (p0 * x39)).tdiv y3)))), (7, rb [(.tmp 35, (.own 2 1 (0) ((p1.length : Int).toNat))), (.tmp 36, I y32)] [(2, (Qyv y33))] (.ref 2 1 (y32.toNat) 0)), (8, ⟨[(.tmp 42, (.ref 2 1 (y32.toNat) 0)), (.tmp 41, (I (w64 ((w64 (p0 * x39)).tdiv y3))))], [(2, (Qyv y33))], .any, [(2, (Qyu y33 y32 p0 x39 y3))], false⟩)] ⟨Ql8 rfl (Qo4 hz43), aio rfl Try.underlying27 ti3 (odt hi44a) (odt hi44b) (Nat.zero_add _), ast rfl ti3 (by rfl) (mgt Qaj hg46) (nle rfl) (Qfs Qaj rfl), trivial⟩ ?_
     obtain ⟨hi47, h⟩ := cko h
     obtain ⟨hi47a, hi47b⟩ := Qcy hi47
     obtain ⟨x48, hg49, h⟩ := bno h
     refine wx1 tbk [(3, rb [(.tmp 44, (.own 2 1 (0) ((p1.length : Int).toNat))), (.tmp 45, I y32)] [(2, (Qyu y33 y32 p0 x39 y3))] (.ref 2 1 (y32.toNat) 0)), (4, rb [(.tmp 46, (.ref 2 1 (y32.toNat) 0))] [(2, (Qyu y33 y32 p0 x39 y3))] (I x48))] ⟨aio rfl Try.underlying27 ti3 (odt hi47a) (odt hi47b) (Nat.zero_add _), ald rfl ti3 (by decide) (mgt Qaj hg49) (nle rfl) rfl, trivial⟩ ?_
     refine bln ?_
     refine thn ?_
     refine wx1 tbk [] trivial ?_
     refine thn ?_
     exact arm (mto (n := 68) [(1, (Qib p1)), (2, .ref 0 1 0 0), (5, .ref 1 1 0 0), (8, (.own 2 1 (0) ((p1.length : Int).toNat))), (9, (I (w64 (y31 - x48)))), (28, (Qib p1)), (29, (I ((p1.length : Int)))), (30, (I (w64 (y32 + 1))))] [0, 1, 2] [(.own 1 [[I p0]]), (.own 1 [[I y3]]), (Qyu y33 y32 p0 x39 y3)] hφ0 (pc (.rn (.plain _ (nld Qab _))) (pc (.rn (rqr rfl)) (pc (.rn (rqr rfl)) (pc (.rn (Qaz rfl)) (pc rwl (pc (.rn (.plain _ (nld Qab _))) (pc rwl (pc rwl pn)))))))) (qc (spb (lc rwl ln)) (qc (spb (lc rwl ln)) (qc (spr Qab) qn)))) (ih (w64 (y31 - x48), w64 (y32 + 1), y33.set y32.toNat (w64 ((w64 (p0 * x39)).tdiv y3))) h)
    ·replace h := Qax hc38 h
     refine wfn hc38 (by kernel_rfl) ?_
     refine Qbi ?_
     refine Qay ?_
     refine Qay ?_
     refine Qbh rfl ?_
     refine thn ?_
     exact ⟨(y31, y33), h, (mto (n := 68) [(1, (Qib p1)), (2, .ref 0 1 0 0), (5, .ref 1 1 0 0), (8, (.own 2 1 (0) ((p1.length : Int).toNat))), (9, I y31)] [0, 1, 2] [(.own 1 [[I p0]]), (.own 1 [[I y3]]), (Qyv y33)] hφ0 (pc (.rn (.plain _ (nld Qab _))) (pc (.rn (rqr rfl)) (pc (.rn (rqr rfl)) (pc (.rn (Qaz rfl)) (pc rwl pn))))) (qc (spb (lc rwl ln)) (qc (spb (lc rwl ln)) (qc (spr Qab) qn))))⟩
  ·skip
   refine wx tbk [(1, rp [(.tmp 14, (Qib p1))] (I ((p1.length : Int))))] ⟨alm (c := Qaj) (l := p1) (aln rfl Try.underlying27 rfl), trivial⟩ ?_
   refine Qan ?_
   refine wmr (mto (n := 68) (l' := [(1, (Qib p1)), (2, .ref 0 1 0 0), (5, .ref 1 1 0 0), (14, (Qib p1)), (15, (I ((p1.length : Int)))), (16, I 0)]) (own' := [(.own 1 [[I p0]]), (.own 1 [[I 0]])]) [(1, (Qib p1)), (2, .ref 0 1 0 0), (5, .ref 1 1 0 0), (14, (Qib p1)), (15, (I ((p1.length : Int)))), (16, I 0)] [0, 1] [(.own 1 [[I p0]]), (.own 1 [[I 0]])] hφ0 (pc (.rn (.plain _ (nld Qab _))) (pc (.rn (rqr rfl)) (pc (.rn (rqr rfl)) (pc (.rn (.plain _ (nld Qab _))) (pc rwl (pc rwl pn)))))) (qc (spb (lc rwl ln)) (qc (spb (lc rwl ln)) qn))) ?_
   refine Qby (τ := Int × Int) (fun n t => Qfa N p1 k4 n t.1 t.2 = some r) (fun ⟨y50, y51⟩ => ⟨mk 68 [(1, (Qib p1)), (2, .ref 0 1 0 0), (5, .ref 1 1 0 0), (14, (Qib p1)), (15, (I ((p1.length : Int)))), (16, I y50)], [(.own 1 [[I p0]]), (.own 1 [[I y51]])]⟩) (fun t h => by rw [Qfa] at h; cases h) (fun n54 ih t h => ?_) N (0, 0) h
   obtain ⟨y50, y51⟩ := t
   rw [Qfa] at h
   skip
   refine wx tbk [] trivial ?_
   refine wsq ?_
   rcases bft ((decide (y50 < (p1.length : Int)))) with hc55 | hc55
   ·replace h := Qaw hc55 h
    refine wft hc55 (by kernel_rfl) ?_
    refine Qap ?_
    refine thn ?_
    refine wsq ?_
    refine Qan ?_
    obtain ⟨x56, hg57, h⟩ := bno h
    obtain ⟨hi58, hj59⟩ := gsm hg57
    refine wx tbk [(0, rp [(.tmp 14, (Qib p1)), (.tmp 16, I y50)] (.dptr (Qaj (x56)) 0))] ⟨aid rfl Try.underlying27 ti3 rfl rfl hi58 (mgt Qaj hj59) rfl, trivial⟩ ?_
    refine wx1 tbk [] trivial ?_
    refine bln ?_
    refine thn ?_
    refine wx1 tbk [] trivial ?_
    refine thn ?_
    exact arm (mto (n := 68) [(1, (Qib p1)), (2, .ref 0 1 0 0), (5, .ref 1 1 0 0), (14, (Qib p1)), (15, (I ((p1.length : Int)))), (16, (I (w64 (y50 + 1))))] [0, 1] [(.own 1 [[I p0]]), (.own 1 [[(I (w64 (y51 + x56)))]])] hφ0 (pc (.rn (.plain _ (nld Qab _))) (pc (.rn (rqr rfl)) (pc (.rn (rqr rfl)) (pc (.rn (.plain _ (nld Qab _))) (pc rwl (pc rwl pn)))))) (qc (spb (lc rwl ln)) (qc (spb (lc rwl ln)) qn))) (ih (w64 (y50 + 1), w64 (y51 + x56)) h)
   ·replace h := Qax hc55 h
    refine wfn hc55 (by kernel_rfl) ?_
    refine Qbi ?_
    refine Qay ?_
    refine Qay ?_
    refine Qbh rfl ?_
    refine thn ?_
    exact ⟨(y51), h, (mto (n := 68) [(1, (Qib p1)), (2, .ref 0 1 0 0), (5, .ref 1 1 0 0)] [0, 1] [(.own 1 [[I p0]]), (.own 1 [[I y51]])] hφ0 (pc (.rn (.plain _ (nld Qab _))) (pc (.rn (rqr rfl)) (pc (.rn (rqr rfl)) pn))) (qc (spb (lc rwl ln)) (qc (spb (lc rwl ln)) qn)))⟩
def Qgo (_N : Nat) (p0 : Int) (p1 : Int) (p2 : Int) (_p3 : Int) (_p4 : Int) (_p5 : Int) : Option Int :=
  chk ((if p2 > 1 then p2 else 1) != 0) <|
  (some (w64 ((w64 (p0 * p1)).tdiv (if p2 > 1 then p2 else 1)))).bind fun x2 =>
  some x2
theorem Qhk (N : Nat) (p0 : Int) (p1 : Int) (p2 : Int) (p3 : Int) (p4 : Int) (p5 : Int) (r : Int) (h : Qgo N p0 p1 p2 p3 p4 p5 = some r) : Spec Try.prog 100 [(I (p0)), (.dptr [(I (p1))] 0), (.dptr [(I (p2)), (I (p3)), (I (p4)), (I (p5))] 0)] [] (I (r)) [] := by
  refine Qak Try.func100 rfl 0 (nle rfl) (fun X φ0 w0 hφ0 hd0 => ?_)
  unfold Qgo at h
  refine wx tbk [] trivial ?_
  obtain ⟨hz1, h⟩ := cko h
  obtain ⟨x2, hl3, h⟩ := bno h
  refine wx tbk [(5, rp [ci 1, (.tmp 9, I p2)] (I ((if p2 > 1 then p2 else 1)))), (6, rp [(.tmp 7, (I (w64 (p0 * p1)))), (.tmp 10, (I ((if p2 > 1 then p2 else 1))))] (I (w64 ((w64 (p0 * p1)).tdiv (if p2 > 1 then p2 else 1))))), (7, rp [(.tmp 11, (I (w64 ((w64 (p0 * p1)).tdiv (if p2 > 1 then p2 else 1)))))] (I x2))] ⟨Ql9 rfl, Ql8 rfl (Qo4 hz1), Qgj hl3 (aas rfl), trivial⟩ ?_
  refine Qad ?_
  obtain rfl := osi h
  exact fend ⟨[I x2], ⟨rot (by kernel_rfl), trivial⟩, rfl⟩ nll
def Qc5 (_N : Nat) (_p0 : Int) (_p1 : Int) (_p2 : Int) (_p3 : Int) : Option Unit :=
  some ()
def Qub (p0 : Int) (p1 : Int) (p2 : Int) (p3 : Int) : Slot := .own 4 [[(I (p0)), (I (p1)), (I (p2)), (I (p3))]]
def Q91 : AV := .agg [(.ref 0 4 (0) 0), (.ref 0 4 (0) 1), (.ref 0 4 (0) 2), (.ref 0 4 (0) 3)]
def Q90 : Slot := .own 4 [[(.ref 0 4 (0) 0), (.ref 0 4 (0) 1), (.ref 0 4 (0) 2), (.ref 0 4 (0) 3)]]
theorem Qdk (N : Nat) (p0 : Int) (p1 : Int) (p2 : Int) (p3 : Int) (r : Unit) (h : Qc5 N p0 p1 p2 p3 = some r) : Spec Try.prog 105 [(.ref 0 4 (0) 0)] [(Qub p0 p1 p2 p3)] Q91 [(Qub p0 p1 p2 p3), Q90] := by
  refine Qak Try.func105 rfl 2 (nle rfl) (fun X φ0 w0 hφ0 hd0 => ?_)
  unfold Qc5 at h
  refine Qbp ?_
  refine wx tbk [] trivial ?_
  refine wxd tbk [(1, rb [(.tmp 3, .ref 0 4 0 0)] [(0, (Qub p0 p1 p2 p3))] (.ref 0 4 0 0)), (4, rb [(.tmp 6, .ref 0 4 0 0)] [(0, (Qub p0 p1 p2 p3))] (.ref 0 4 0 0)), (7, rb [(.tmp 9, .ref 0 4 0 0)] [(0, (Qub p0 p1 p2 p3))] (.ref 0 4 0 0)), (10, rb [(.tmp 12, .ref 0 4 0 0)] [(0, (Qub p0 p1 p2 p3))] (.ref 0 4 0 0)), (12, rp [(.tmp 5, .ref 0 4 0 0), (.tmp 8, .ref 0 4 0 1), (.tmp 11, .ref 0 4 0 2), (.tmp 14, .ref 0 4 0 3)] Q91)] ⟨Qbf rfl, Qbf rfl, Qbf rfl, Qbf rfl, Qpl (vs := [.ref 0 4 0 0, .ref 0 4 0 1, .ref 0 4 0 2, .ref 0 4 0 3]) rfl Try.underlying160 Qru Zea rfl (by rfl) rfl, trivial⟩ ?_
  refine wmr (mto (n := 16) (l' := [(2, .ref 1 4 0 0)]) (own' := [(Qub p0 p1 p2 p3), Q90]) [(2, .ref 1 4 0 0)] [0, 1] [(Qub p0 p1 p2 p3), Q90] hφ0 (pc (.rn (rqr rfl)) pn) (qc (spb (lc rwl (lc rwl (lc rwl (lc rwl ln))))) (qc (spb (lc (.rn (rqr rfl)) (lc (.rn (rqr rfl)) (lc (.rn (rqr rfl)) (lc (.rn (rqr rfl)) ln))))) qn))) ?_
  refine Qad ?_
  obtain rfl := osi h
  exact ⟨_, Mor.rfl, Qcz (vs := [Q91]) ⟨Qch (n := 1) (m := 4) (j := 0) (i := 0) (xs := [[.ref 0 4 0 0, .ref 0 4 0 1, .ref 0 4 0 2, .ref 0 4 0 3]]) (by kernel_rfl) (by kernel_rfl) Zee (by decide) rfl (nle rfl) rfl, trivial⟩ rfl (NLt.agg _ (nlc (NLt.ref _ _ _ _ (by decide)) (nlc (NLt.ref _ _ _ _ (by decide)) (nlc (NLt.ref _ _ _ _ (by decide)) (nlc (NLt.ref _ _ _ _ (by decide)) nl0))))) (by kernel_rfl) (Qal (Qa4 (nlc (NLt.of0 nll) (nlc (NLt.of0 nll) (nlc (NLt.of0 nll) (nlc (NLt.of0 nll) nl0))))) (Qal (Qa4 (nlc (NLt.ref _ _ _ _ (by decide)) (nlc (NLt.ref _ _ _ _ (by decide)) (nlc (NLt.ref _ _ _ _ (by decide)) (nlc (NLt.ref _ _ _ _ (by decide)) nl0))))) Qbn))⟩
def Qkj (N : Nat) (p0 : GStream) (p1 : Int) (p2 : Int) (p3 : Int) (p4 : Int) : Option Unit :=
  (Qc5 N p0.Mass p0.Heat p0.Silica p0.Gas).bind fun _ =>
  (Qc5 N p1 p2 p3 p4).bind fun _ =>
  (Qc5 N (w64 (p1 + p0.Mass)) p2 p3 p4).bind fun _ =>
  (Qc5 N (w64 (p1 + p0.Mass)) (w64 (p2 + p0.Heat)) p3 p4).bind fun _ =>
  (Qc5 N (w64 (p1 + p0.Mass)) (w64 (p2 + p0.Heat)) (w64 (p3 + p0.Silica)) p4).bind fun _ =>
  some ()
def Qwd (p1 : Int) (p2 : Int) (p3 : Int) (p4 : Int) : Slot := .own 4 [[(I (p1)), (I (p2)), (I (p3)), (I (p4))]]
def Q2n (p1 : Int) (p0 : GStream) (p2 : Int) (p3 : Int) (p4 : Int) : Slot := .own 4 [[(I (w64 (p1 + p0.Mass))), (I (w64 (p2 + p0.Heat))), (I (w64 (p3 + p0.Silica))), (I (w64 (p4 + p0.Gas)))]]
def Qud (p0 : GStream) : Slot := .own 4 [[(I (p0.Mass)), (I (p0.Heat)), (I (p0.Silica)), (I (p0.Gas))]]
def Q0a : AV := .agg [(.ref 1 4 (0) 0), (.ref 1 4 (0) 1), (.ref 1 4 (0) 2), (.ref 1 4 (0) 3)]
def Zdy : Slot := .own 4 [[(.ref 1 4 (0) 0), (.ref 1 4 (0) 1), (.ref 1 4 (0) 2), (.ref 1 4 (0) 3)]]
def Qpo : AV := .agg [(.ref 0 4 (0) 0), (.ref 0 4 (0) 1), (.ref 0 4 (0) 2), (.ref 0 4 (0) 3)]
def Quc : Slot := .own 4 [[(.ref 0 4 (0) 0), (.ref 0 4 (0) 1), (.ref 0 4 (0) 2), (.ref 0 4 (0) 3)]]
def Qz9 (p1 : Int) (p0 : GStream) (p2 : Int) (p3 : Int) (p4 : Int) : Slot := .own 4 [[(I (w64 (p1 + p0.Mass))), (I (p2)), (I (p3)), (I (p4))]]
def Qz8 (p1 : Int) (p0 : GStream) (p2 : Int) (p3 : Int) (p4 : Int) : Slot := .own 4 [[(I (w64 (p1 + p0.Mass))), (I (w64 (p2 + p0.Heat))), (I (p3)), (I (p4))]]
def Qz7 (p1 : Int) (p0 : GStream) (p2 : Int) (p3 : Int) (p4 : Int) : Slot := .own 4 [[(I (w64 (p1 + p0.Mass))), (I (w64 (p2 + p0.Heat))), (I (w64 (p3 + p0.Silica))), (I (p4))]]
theorem Qop (N : Nat) (p0 : GStream) (p1 : Int) (p2 : Int) (p3 : Int) (p4 : Int) (r : Unit) (h : Qkj N p0 p1 p2 p3 p4 = some r) : Spec Try.prog 104 [(.agg [(I (p0.Mass)), (I (p0.Heat)), (I (p0.Silica)), (I (p0.Gas))]), (.ref 0 4 (0) 0)] [(Qwd p1 p2 p3 p4)] (.tup []) [(Q2n p1 p0 p2 p3 p4)] := by
  refine Qak Try.func104 rfl 1 (nle rfl) (fun X φ0 w0 hφ0 hd0 => ?_)
  unfold Qkj at h
  refine Qbp ?_
  refine wx tbk [] trivial ?_
  obtain ⟨x2, hf1, h⟩ := bno h
  refine wx tbk [(0, ⟨[fu 105, (.tmp 2, .ref 1 4 0 0)], [(1, (Qud p0)), (2, .unused)], Q0a, [(1, (Qud p0)), (2, Zdy)], false⟩)] ⟨Qar (first := []) (cap := []) (vs := [.ref 1 4 0 0]) (σr := [(Qud p0)]) (σr' := [(Qud p0), Zdy]) (res' := Q0a) [1, 2] rfl Qn9 (Qdk N p0.Mass p0.Heat p0.Silica p0.Gas _ hf1) rfl (Qbm (rnc (Qa0 rfl) rn0)) (slc (Qag (rnc (.plain _ nll) (rnc (.plain _ nll) (rnc (.plain _ nll) (rnc (.plain _ nll) rn0))))) Qaq) (slc (Qag (rnc (.plain _ nll) (rnc (.plain _ nll) (rnc (.plain _ nll) (rnc (.plain _ nll) rn0))))) (slc (Qag (rnc (Qbb rfl) (rnc (Qbb rfl) (rnc (Qbb rfl) (rnc (Qbb rfl) rn0))))) Qaq)) (Qbm (rnc (Qbb rfl) (rnc (Qbb rfl) (rnc (Qbb rfl) (rnc (Qbb rfl) rn0))))) rfl rfl rfl, trivial⟩ ?_
  refine Qan ?_
  refine Qzo 17 ?_
  refine Qsy ?_
  refine wx tbk [] trivial ?_
  refine wsq ?_
  refine Qbk (by kernel_rfl) ?_
  refine Qap ?_
  refine thn ?_
  refine wsq ?_
  refine Qan ?_
  refine wx tbk [(1, rp [(.tmp 5, Q0a), (.tmp 6, I 0)] (.ref 1 4 0 0))] ⟨Qg6 rfl Try.underlying160 Qru (by decide) (by decide) (nle rfl) (by decide) rfl, trivial⟩ ?_
  obtain ⟨x4, hf3, h⟩ := bno h
  refine wy1 tbk [(0, ⟨[fu 105, (.tmp 1, .ref 0 4 0 0)], [(0, (Qwd p1 p2 p3 p4)), (3, .unused)], Qpo, [(0, (Qwd p1 p2 p3 p4)), (3, Quc)], false⟩), (2, rp [(.tmp 10, Qpo), (.tmp 11, I 0)] (.ref 0 4 0 0)), (3, rb [(.tmp 12, .ref 0 4 0 0)] [(0, (Qwd p1 p2 p3 p4))] (.ref 0 4 0 0)), (6, rb [(.tmp 15, .ref 1 4 0 0)] [(1, (Qud p0))] (.ref 1 4 0 0)), (9, rb [(.tmp 12, .ref 0 4 0 0)] [(0, (Qwd p1 p2 p3 p4))] (.ref 0 4 0 0))] ⟨Qar (first := []) (cap := []) (vs := [.ref 0 4 0 0]) (σr := [(Qwd p1 p2 p3 p4)]) (σr' := [(Qwd p1 p2 p3 p4), Quc]) (res' := Qpo) [0, 3] rfl Qn9 (Qdk N p1 p2 p3 p4 _ hf3) rfl (Qbm (rnc (Qa0 rfl) rn0)) (slc (Qag (rnc (.plain _ nll) (rnc (.plain _ nll) (rnc (.plain _ nll) (rnc (.plain _ nll) rn0))))) Qaq) (slc (Qag (rnc (.plain _ nll) (rnc (.plain _ nll) (rnc (.plain _ nll) (rnc (.plain _ nll) rn0))))) (slc (Qag (rnc (Qbb rfl) (rnc (Qbb rfl) (rnc (Qbb rfl) (rnc (Qbb rfl) rn0))))) Qaq)) (Qbm (rnc (Qbb rfl) (rnc (Qbb rfl) (rnc (Qbb rfl) (rnc (Qbb rfl) rn0))))) rfl rfl rfl, Qg6 rfl Try.underlying160 Qru (by decide) (by decide) (nle rfl) (by decide) rfl, Qbf rfl, Qbf rfl, Qbf rfl, trivial⟩ ?_
  refine bln ?_
  refine thn ?_
  refine wx1 tbk [] trivial ?_
  refine thn ?_
  refine Qsy ?_
  refine wx tbk [] trivial ?_
  refine wsq ?_
  refine Qbk (by kernel_rfl) ?_
  refine Qap ?_
  refine thn ?_
  refine wsq ?_
  refine Qan ?_
  refine wx tbk [(1, rp [(.tmp 5, Q0a), (.tmp 6, I 1)] (.ref 1 4 0 1))] ⟨Qg6 rfl Try.underlying160 Qru (by decide) (by decide) (nle rfl) (by decide) rfl, trivial⟩ ?_
  obtain ⟨x6, hf5, h⟩ := bno h
  refine wy1 tbk [(0, ⟨[fu 105, (.tmp 1, .ref 0 4 0 0)], [(0, (Qz9 p1 p0 p2 p3 p4)), (4, .unused)], Qpo, [(0, (Qz9 p1 p0 p2 p3 p4)), (4, Quc)], false⟩), (2, rp [(.tmp 10, Qpo), (.tmp 11, I 1)] (.ref 0 4 0 1)), (3, rb [(.tmp 12, .ref 0 4 0 1)] [(0, (Qz9 p1 p0 p2 p3 p4))] (.ref 0 4 0 1)), (6, rb [(.tmp 15, .ref 1 4 0 1)] [(1, (Qud p0))] (.ref 1 4 0 1)), (9, rb [(.tmp 12, .ref 0 4 0 1)] [(0, (Qz9 p1 p0 p2 p3 p4))] (.ref 0 4 0 1))] ⟨Qar (first := []) (cap := []) (vs := [.ref 0 4 0 0]) (σr := [(Qz9 p1 p0 p2 p3 p4)]) (σr' := [(Qz9 p1 p0 p2 p3 p4), Quc]) (res' := Qpo) [0, 4] rfl Qn9 (Qdk N (w64 (p1 + p0.Mass)) p2 p3 p4 _ hf5) rfl (Qbm (rnc (Qa0 rfl) rn0)) (slc (Qag (rnc (.plain _ nll) (rnc (.plain _ nll) (rnc (.plain _ nll) (rnc (.plain _ nll) rn0))))) Qaq) (slc (Qag (rnc (.plain _ nll) (rnc (.plain _ nll) (rnc (.plain _ nll) (rnc (.plain _ nll) rn0))))) (slc (Qag (rnc (Qbb rfl) (rnc (Qbb rfl) (rnc (Qbb rfl) (rnc (Qbb rfl) rn0))))) Qaq)) (Qbm (rnc (Qbb rfl) (rnc (Qbb rfl) (rnc (Qbb rfl) (rnc (Qbb rfl) rn0))))) rfl rfl rfl, Qg6 rfl Try.underlying160 Qru (by decide) (by decide) (nle rfl) (by decide) rfl, Qbf rfl, Qbf rfl, Qbf rfl, trivial⟩ ?_
  refine bln ?_
  refine thn ?_
  refine wx1 tbk [] trivial ?_
  refine thn ?_
  refine Qsy ?_
  refine wx tbk [] trivial ?_
  refine wsq ?_
  refine Qbk (by kernel_rfl) ?_
  refine Qap ?_
  refine thn ?_
  refine wsq ?_
  refine Qan ?_
  refine wx tbk [(1, rp [(.tmp 5, Q0a), (.tmp 6, I 2)] (.ref 1 4 0 2))] ⟨Qg6 rfl Try.underlying160 Qru (by decide) (by decide) (nle rfl) (by decide) rfl, trivial⟩ ?_
  obtain ⟨x8, hf7, h⟩ := bno h
  refine wy1 tbk [(0, ⟨[fu 105, (.tmp 1, .ref 0 4 0 0)], [(0, (Qz8 p1 p0 p2 p3 p4)), (5, .unused)], Qpo, [(0, (Qz8 p1 p0 p2 p3 p4)), (5, Quc)], false⟩), (2, rp [(.tmp 10, Qpo), (.tmp 11, I 2)] (.ref 0 4 0 2)), (3, rb [(.tmp 12, .ref 0 4 0 2)] [(0, (Qz8 p1 p0 p2 p3 p4))] (.ref 0 4 0 2)), (6, rb [(.tmp 15, .ref 1 4 0 2)] [(1, (Qud p0))] (.ref 1 4 0 2)), (9, rb [(.tmp 12, .ref 0 4 0 2)] [(0, (Qz8 p1 p0 p2 p3 p4))] (.ref 0 4 0 2))] ⟨Qar (first := []) (cap := []) (vs := [.ref 0 4 0 0]) (σr := [(Qz8 p1 p0 p2 p3 p4)]) (σr' := [(Qz8 p1 p0 p2 p3 p4), Quc]) (res' := Qpo) [0, 5] rfl Qn9 (Qdk N (w64 (p1 + p0.Mass)) (w64 (p2 + p0.Heat)) p3 p4 _ hf7) rfl (Qbm (rnc (Qa0 rfl) rn0)) (slc (Qag (rnc (.plain _ nll) (rnc (.plain _ nll) (rnc (.plain _ nll) (rnc (.plain _ nll) rn0))))) Qaq) (slc (Qag (rnc (.plain _ nll) (rnc (.plain _ nll) (rnc (.plain _ nll) (rnc (.plain _ nll) rn0))))) (slc (Qag (rnc (Qbb rfl) (rnc (Qbb rfl) (rnc (Qbb rfl) (rnc (Qbb rfl) rn0))))) Qaq)) (Qbm (rnc (Qbb rfl) (rnc (Qbb rfl) (rnc (Qbb rfl) (rnc (Qbb rfl) rn0))))) rfl rfl rfl, Qg6 rfl Try.underlying160 Qru (by decide) (by decide) (nle rfl) (by decide) rfl, Qbf rfl, Qbf rfl, Qbf rfl, trivial⟩ ?_
  refine bln ?_
  refine thn ?_
  refine wx1 tbk [] trivial ?_
  refine thn ?_
  refine Qsy ?_
  refine wx tbk [] trivial ?_
  refine wsq ?_
  refine Qbk (by kernel_rfl) ?_
  refine Qap ?_
  refine thn ?_
  refine wsq ?_
  refine Qan ?_
  refine wx tbk [(1, rp [(.tmp 5, Q0a), (.tmp 6, I 3)] (.ref 1 4 0 3))] ⟨Qg6 rfl Try.underlying160 Qru (by decide) (by decide) (nle rfl) (by decide) rfl, trivial⟩ ?_
  obtain ⟨x10, hf9, h⟩ := bno h
  refine wy1 tbk [(0, ⟨[fu 105, (.tmp 1, .ref 0 4 0 0)], [(0, (Qz7 p1 p0 p2 p3 p4)), (6, .unused)], Qpo, [(0, (Qz7 p1 p0 p2 p3 p4)), (6, Quc)], false⟩), (2, rp [(.tmp 10, Qpo), (.tmp 11, I 3)] (.ref 0 4 0 3)), (3, rb [(.tmp 12, .ref 0 4 0 3)] [(0, (Qz7 p1 p0 p2 p3 p4))] (.ref 0 4 0 3)), (6, rb [(.tmp 15, .ref 1 4 0 3)] [(1, (Qud p0))] (.ref 1 4 0 3)), (9, rb [(.tmp 12, .ref 0 4 0 3)] [(0, (Qz7 p1 p0 p2 p3 p4))] (.ref 0 4 0 3))] ⟨Qar (first := []) (cap := []) (vs := [.ref 0 4 0 0]) (σr := [(Qz7 p1 p0 p2 p3 p4)]) (σr' := [(Qz7 p1 p0 p2 p3 p4), Quc]) (res' := Qpo) [0, 6] rfl Qn9 (Qdk N (w64 (p1 + p0.Mass)) (w64 (p2 + p0.Heat)) (w64 (p3 + p0.Silica)) p4 _ hf9) rfl (Qbm (rnc (Qa0 rfl) rn0)) (slc (Qag (rnc (.plain _ nll) (rnc (.plain _ nll) (rnc (.plain _ nll) (rnc (.plain _ nll) rn0))))) Qaq) (slc (Qag (rnc (.plain _ nll) (rnc (.plain _ nll) (rnc (.plain _ nll) (rnc (.plain _ nll) rn0))))) (slc (Qag (rnc (Qbb rfl) (rnc (Qbb rfl) (rnc (Qbb rfl) (rnc (Qbb rfl) rn0))))) Qaq)) (Qbm (rnc (Qbb rfl) (rnc (Qbb rfl) (rnc (Qbb rfl) (rnc (Qbb rfl) rn0))))) rfl rfl rfl, Qg6 rfl Try.underlying160 Qru (by decide) (by decide) (nle rfl) (by decide) rfl, Qbf rfl, Qbf rfl, Qbf rfl, trivial⟩ ?_
  refine bln ?_
  refine thn ?_
  refine wx1 tbk [] trivial ?_
  refine thn ?_
  refine Qsy ?_
  refine wx tbk [] trivial ?_
  refine wsq ?_
  refine Qgt (by kernel_rfl) ?_
  refine Qbi ?_
  refine Qay ?_
  refine Qay ?_
  refine Qbh rfl ?_
  obtain rfl := osi h
  exact ⟨_, (mto (n := 21) (l' := []) (own' := [(Q2n p1 p0 p2 p3 p4)]) [] [0] [(Q2n p1 p0 p2 p3 p4)] hφ0 pn (qc (spb (lc rwl (lc rwl (lc rwl (lc rwl ln))))) qn)), Qcz (vs := []) trivial rfl (NLt.tup _ nl0) (by kernel_rfl) (Qal (Qa4 (nlc (NLt.of0 nll) (nlc (NLt.of0 nll) (nlc (NLt.of0 nll) (nlc (NLt.of0 nll) nl0))))) Qbn)⟩
def Qgn (N : Nat) (p0 : (List GStream)) (k5 : Int × Int × Int × Int → Option GStream) : Nat → Int → Int → Int → Int → Int → Option GStream
  | 0, _, _, _, _, _ => none
  | n16 + 1, y6, y7, y8, y9, y10 =>
    bif (decide (y6 < (p0.length : Int))) then
     (getI p0 y6).bind fun x18 =>
     (Qkj N x18 y7 y8 y9 y10).bind fun _ =>
     Qgn N p0 k5 n16 (w64 (y6 + 1)) (w64 (y7 + x18.Mass)) (w64 (y8 + x18.Heat)) (w64 (y9 + x18.Silica)) (w64 (y10 + x18.Gas))
    else
     k5 (y7, y8, y9, y10)
def Qoq (N : Nat) (p0 : (List GStream)) : Option GStream :=
  Qbz (fun ⟨y1, y2, y3, y4⟩ =>
    some (⟨y1, y2, y3, y4⟩ : GStream)) fun k5 : Int × Int × Int × Int → Option GStream =>
  Qgn N p0 k5 N 0 0 0 0 0
def Q0c : AV := .fn (.func 104) [] [(.ref 0 4 (0) 0)]
def Q0b (p0 : (List GStream)) : AV := .dat 4 ((p0 : List GStream).map Qae)
def Zdz : Slot := .own 4 [[(I (0)), (I (0)), (I (0)), (I (0))]]
def Qyn (y7 : Int) (y8 : Int) (y9 : Int) (y10 : Int) : Slot := .own 4 [[(I (y7)), (I (y8)), (I (y9)), (I (y10))]]
def Q8j (x18 : GStream) : AV := .agg [(I (x18.Mass)), (I (x18.Heat)), (I (x18.Silica)), (I (x18.Gas))]
def Q2o (y7 : Int) (x18 : GStream) (y8 : Int) (y9 : Int) (y10 : Int) : Slot := .own 4 [[(I (w64 (y7 + x18.Mass))), (I (w64 (y8 + x18.Heat))), (I (w64 (y9 + x18.Silica))), (I (w64 (y10 + x18.Gas)))]]
theorem Qtc (N : Nat) (p0 : (List GStream)) (r : GStream) (h : Qoq N p0 = some r) : Spec Try.prog 101 [(.dat 4 (p0.map Qae))] [] (.agg (Qae r)) [] := by
  refine Qak Try.func101 rfl 0 (nle rfl) (fun X φ0 w0 hφ0 hd0 => ?_)
  unfold Qoq at h
  refine wx tbk [] trivial ?_
  refine wx tbk [(0, rp [(.tmp 2, .ref 0 4 0 0)] Q0c)] ⟨Qfu (fs := []) (cs := [.ref 0 4 0 0]) rfl rfl rfl rfl, trivial⟩ ?_
  obtain ⟨k5, hk_k5, h⟩ := jko h
  refine wjn (τ := Int × Int × Int × Int) (fun t => k5 t = some r) (fun ⟨y1, y2, y3, y4⟩ => ⟨mk 18 [(2, .ref 0 4 0 0)], [(.own 4 [[I y1, I y2, I y3, I y4]])]⟩) (fun t h => ?_) ?_
  ·subst hk_k5
   obtain ⟨y1, y2, y3, y4⟩ := t
   refine wx tbk [] trivial ?_
   refine Qad ?_
   obtain rfl := osi h
   exact fend ⟨[(.agg [I y1, I y2, I y3, I y4])], ⟨Qch (n := 0) (m := 4) (j := 0) (i := 0) (xs := [[I y1, I y2, I y3, I y4]]) (by kernel_rfl) (by kernel_rfl) ti48 (by decide) rfl (nle rfl) rfl, trivial⟩, rfl⟩ (NLt.agg _ (nlc nll (nlc nll (nlc nll (nlc nll nl0)))))
  ·skip
   refine wx tbk [(1, rp [(.tmp 7, (Q0b p0))] (I ((p0.length : Int))))] ⟨alm (c := Qae) (l := p0) (aln rfl Try.underlying45 rfl), trivial⟩ ?_
   refine Qan ?_
   refine wmr (mto (n := 18) (l' := [(2, .ref 0 4 0 0), (3, Q0c), (7, (Q0b p0)), (8, (I ((p0.length : Int)))), (9, I 0)]) (own' := [Zdz]) [(2, .ref 0 4 0 0), (3, Q0c), (7, (Q0b p0)), (8, (I ((p0.length : Int)))), (9, I 0)] [0] [Zdz] hφ0 (pc (.rn (rqr rfl)) (pc (.rn (Qav rn0 (rnc (rqr rfl) rn0))) (pc (.rn (.plain _ (nld Qai _))) (pc rwl (pc rwl pn))))) (qc (spb (lc rwl (lc rwl (lc rwl (lc rwl ln))))) qn)) ?_
   refine Qby (τ := Int × Int × Int × Int × Int) (fun n t => Qgn N p0 k5 n t.1 t.2.1 t.2.2.1 t.2.2.2.1 t.2.2.2.2 = some r) (fun ⟨y6, y7, y8, y9, y10⟩ => ⟨mk 18 [(2, .ref 0 4 0 0), (3, Q0c), (7, (Q0b p0)), (8, (I ((p0.length : Int)))), (9, I y6)], [(Qyn y7 y8 y9 y10)]⟩) (fun t h => by rw [Qgn] at h; cases h) (fun n16 ih t h => ?_) N (0, 0, 0, 0, 0) h
   obtain ⟨y6, y7, y8, y9, y10⟩ := t
   rw [Qgn] at h
   skip
   refine wx tbk [] trivial ?_
   refine wsq ?_
   rcases bft ((decide (y6 < (p0.length : Int)))) with hc17 | hc17
   ·replace h := Qaw hc17 h
    refine wft hc17 (by kernel_rfl) ?_
    refine Qap ?_
    refine thn ?_
    refine wsq ?_
    refine Qan ?_
    obtain ⟨x18, hg19, h⟩ := bno h
    obtain ⟨hi20, hj21⟩ := gsm hg19
    refine wx tbk [(0, rp [(.tmp 7, (Q0b p0)), (.tmp 9, I y6)] (.dptr (Qae (x18)) 0))] ⟨aid rfl Try.underlying45 ti48 rfl rfl hi20 (mgt Qae hj21) rfl, trivial⟩ ?_
    obtain ⟨x23, hf22, h⟩ := bno h
    refine wx1 tbk [(2, ⟨[(.tmp 13, Q0c), (.tmp 14, (Q8j x18))], [(0, (Qyn y7 y8 y9 y10))], (.tup []), [(0, (Q2o y7 x18 y8 y9 y10))], false⟩)] ⟨Qar (first := []) (cap := [.ref 0 4 0 0]) (vs := [(Q8j x18)]) (σr := [(Qyn y7 y8 y9 y10)]) (σr' := [(Q2o y7 x18 y8 y9 y10)]) (res' := (.tup [])) [0] rfl Q7k (Qop N x18 y7 y8 y9 y10 _ hf22) rfl (Qbm (rnc (.plain _ (NLt.agg _ (nlc nll (nlc nll (nlc nll (nlc nll nl0)))))) (rnc (Qa0 rfl) rn0))) (slc (Qag (rnc (.plain _ nll) (rnc (.plain _ nll) (rnc (.plain _ nll) (rnc (.plain _ nll) rn0))))) Qaq) (slc (Qag (rnc (.plain _ nll) (rnc (.plain _ nll) (rnc (.plain _ nll) (rnc (.plain _ nll) rn0))))) Qaq) (.plain _ (NLt.tup _ nl0)) rfl rfl rfl, trivial⟩ ?_
    refine bln ?_
    refine thn ?_
    refine wx1 tbk [] trivial ?_
    refine thn ?_
    exact arm (mto (n := 18) [(2, .ref 0 4 0 0), (3, Q0c), (7, (Q0b p0)), (8, (I ((p0.length : Int)))), (9, (I (w64 (y6 + 1))))] [0] [(Q2o y7 x18 y8 y9 y10)] hφ0 (pc (.rn (rqr rfl)) (pc (.rn (Qav rn0 (rnc (rqr rfl) rn0))) (pc (.rn (.plain _ (nld Qai _))) (pc rwl (pc rwl pn))))) (qc (spb (lc rwl (lc rwl (lc rwl (lc rwl ln))))) qn)) (ih (w64 (y6 + 1), w64 (y7 + x18.Mass), w64 (y8 + x18.Heat), w64 (y9 + x18.Silica), w64 (y10 + x18.Gas)) h)
   ·replace h := Qax hc17 h
    refine wfn hc17 (by kernel_rfl) ?_
    refine Qbi ?_
    refine Qay ?_
    refine Qay ?_
    refine Qbh rfl ?_
    refine thn ?_
    exact ⟨(y7, y8, y9, y10), h, (mto (n := 18) [(2, .ref 0 4 0 0)] [0] [(Qyn y7 y8 y9 y10)] hφ0 (pc (.rn (rqr rfl)) pn) (qc (spb (lc rwl (lc rwl (lc rwl (lc rwl ln))))) qn))⟩
def Qfw (N : Nat) (p0 : GStream) (k3 : (List GStream) → Option ((List GStream) × GLoss × Int)) (x7 : (List Int)) : Nat → (List GStream) → Int → Option ((List GStream) × GLoss × Int)
  | 0, _, _ => none
  | n12 + 1, y8, y9 =>
    bif (decide (y9 < (x7.length : Int))) then
     (getI x7 y9).bind fun x14 =>
     (Qgo N p0.Heat x14 p0.Mass p0.Heat p0.Silica p0.Gas).bind fun x19 =>
     (Qgo N p0.Silica x14 p0.Mass p0.Heat p0.Silica p0.Gas).bind fun x21 =>
     (Qgo N p0.Gas x14 p0.Mass p0.Heat p0.Silica p0.Gas).bind fun x23 =>
     chk (decide ((y8.length + ([(⟨x14, x19, x21, x23⟩ : GStream)]).length) * 32 ≤ 140737488355328)) <|
     Qfw N p0 k3 x7 n12 (y8 ++ ([(⟨x14, x19, x21, x23⟩ : GStream)])) (w64 (y9 + 1))
    else
     k3 (y8)
def Qlv (N : Nat) (p0 : GStream) (p1 : (List Int)) : Option ((List GStream) × GLoss × Int) :=
  Qbz (fun _ =>
    Qbz (fun y2 =>
      (Qoq N y2).bind fun x5 =>
      some (y2, (⟨w64 (p0.Heat - x5.Heat), w64 (p0.Silica - x5.Silica), w64 (p0.Gas - x5.Gas)⟩ : GLoss), 0)) fun k3 : (List GStream) → Option ((List GStream) × GLoss × Int) =>
    (Qk5 N p0.Mass p1).bind fun x7 =>
    Qfw N p0 k3 x7 N ([]) 0) fun k1 : Unit → Option ((List GStream) × GLoss × Int) =>
  (Qfd N p0).bind fun x26 =>
  bif (!x26) then
   some ([], (⟨0, 0, 0⟩ : GLoss), 1)
  else
   bif (decide ((p1.length : Int) > 20)) then
    some ([], (⟨0, 0, 0⟩ : GLoss), 1)
   else
    (Qi8 N p1).bind fun x30 =>
    bif (!x30) then
     some ([], (⟨0, 0, 0⟩ : GLoss), 1)
    else
     (Qeo N p1).bind fun x33 =>
     bif (!x33) then
      some ([], (⟨0, 0, 0⟩ : GLoss), 1)
     else
      k1 ()
def Qon (p1 : (List Int)) : AV := .dat 1 ((p1 : List Int).map Qaj)
def Qqd (p0 : GStream) : Slot := .own 4 [[(I (p0.Mass)), (I (p0.Heat)), (I (p0.Silica)), (I (p0.Gas))]]
def Qul : Slot := .own 3 [[(I (0)), (I (0)), (I (0))]]
def Q2x (y2 : (List GStream)) : AV := .acc 1 48 4 ((y2 : List GStream).map Qae)
def Q2w (y2 : (List GStream)) : AV := .dat 4 ((y2 : List GStream).map Qae)
def Q8k (p0 : GStream) (x5 : GStream) : AV := .agg [(I (w64 (p0.Heat - x5.Heat))), (I (w64 (p0.Silica - x5.Silica))), (I (w64 (p0.Gas - x5.Gas)))]
def Qqc (x7 : (List Int)) : AV := .dat 1 ((x7 : List Int).map Qaj)
def Q2v (y8 : (List GStream)) : AV := .acc 1 48 4 ((y8 : List GStream).map Qae)
def Qyy : AV := .fn (.func 100) [] [(.ref 3 1 (0) 0), (.ref 0 4 (0) 0)]
def Q2u (x14 : Int) (p0 : GStream) : AV := .fn (.func 100) [] [(.dptr [(I (x14))] 0), (.dptr [(I (p0.Mass)), (I (p0.Heat)), (I (p0.Silica)), (I (p0.Gas))] 0)]
def Qum (p0 : GStream) : AV := .agg [(I (p0.Mass)), (I (p0.Heat)), (I (p0.Silica)), (I (p0.Gas))]
def Quk : AV := .agg [(I (0)), (I (0)), (I (0))]
def Qyx : AV := .dat 4 (([] : List GStream).map Qae)
theorem Qqj (N : Nat) (p0 : GStream) (p1 : (List Int)) (r : ((List GStream) × GLoss × Int)) (h : Qlv N p0 p1 = some r) : Spec Try.prog 96 [(.agg (Qae p0)), (.dat 1 (p1.map Qaj))] [] (.tup [(.dat 4 (r.1.map Qae)), (.agg (Zdc r.2.1)), (I r.2.2)]) [] := by
  refine Qak Try.func96 rfl 0 (nle rfl) (fun X φ0 w0 hφ0 hd0 => ?_)
  unfold Qlv at h
  refine wx tbk [] trivial ?_
  refine wx tbk [] trivial ?_
  obtain ⟨k1, hk_k1, h⟩ := jko h
  refine wjn (τ := Unit) (fun t => k1 t = some r) (fun _ => ⟨mk 79 [(1, (Qon p1)), (2, .ref 0 4 0 0), (4, nilS), (5, .ref 1 3 0 0)], [(Qqd p0), Qul]⟩) (fun t h => ?_) ?_
  ·subst hk_k1
   obtain ⟨k3, hk_k3, h⟩ := jko h
   refine wjn (τ := (List GStream)) (fun t => k3 t = some r) (fun y2 => ⟨mk 79 [(2, .ref 0 4 0 0), (4, (Q2x y2)), (5, .ref 2 3 0 0)], [(Qqd p0), .tok, Qul]⟩) (fun y2 h => ?_) ?_
   ·subst hk_k3
    obtain ⟨x5, hf4, h⟩ := bno h
    refine wx tbk [(1, rp [fu 101, (.tmp 60, (Q2x y2))] (.agg [I x5.Mass, I x5.Heat, I x5.Silica, I x5.Gas]))] ⟨awk (rd' := (.func 101, (.fn (.func 101) [] [])) :: [(.tmp 60, (Q2w y2))]) ⟨rfl, lrf, rfl, Less.acc, trivial⟩ (apc (first := []) (cap := []) (vs := [(Q2w y2)]) rfl Q7m (Qtc N y2 _ hf4) rfl rfl (nlc (nld Qai _) nl0) (NLt.agg _ (nlc nll (nlc nll (nlc nll (nlc nll nl0))))) rfl), trivial⟩ ?_
    refine wxd tbk [(16, rp [(.tmp 67, (I (w64 (p0.Heat - x5.Heat)))), (.tmp 72, (I (w64 (p0.Silica - x5.Silica)))), (.tmp 77, (I (w64 (p0.Gas - x5.Gas))))] (Q8k p0 x5))] ⟨Qa2 (vs := [(I (w64 (p0.Heat - x5.Heat))), (I (w64 (p0.Silica - x5.Silica))), (I (w64 (p0.Gas - x5.Gas)))]) rfl Q3d Q0o rfl (by rfl) rfl, trivial⟩ ?_
    refine Qad ?_
    obtain rfl := osi h
    exact fend ⟨[(Q2w y2), (Q8k p0 x5), I 0], ⟨Qe9 (v := (Q2x y2)) (rot (by kernel_rfl)) Less.acc, Qch (n := 2) (m := 3) (j := 0) (i := 0) (xs := [[(I (w64 (p0.Heat - x5.Heat))), (I (w64 (p0.Silica - x5.Silica))), (I (w64 (p0.Gas - x5.Gas)))]]) (by kernel_rfl) (by kernel_rfl) Q0p (by decide) rfl (nle rfl) rfl, rot (by kernel_rfl), trivial⟩, rfl⟩ (NLt.tup _ (nlc (nld Qai _) (nlc (NLt.agg _ (nlc nll (nlc nll (nlc nll nl0)))) (nlc nll nl0))))
   ·skip
    obtain ⟨x7, hf6, h⟩ := bno h
    refine wx tbk [(3, rp [fu 99, (.tmp 33, I p0.Mass), (.tmp 34, (Qon p1))] (Qqc x7)), (4, rp [(.tmp 35, (Qqc x7))] (I ((x7.length : Int))))] ⟨apc (first := []) (cap := []) (vs := [I p0.Mass, (Qon p1)]) rfl Zbt (Qpr N p0.Mass p1 _ hf6) rfl rfl (nlc nll (nlc (nld Qab _) nl0)) (nld Qab _) rfl, alm (c := Qaj) (l := x7) (aln rfl Try.underlying27 rfl), trivial⟩ ?_
    refine Qan ?_
    refine wmr (Mor.trans (Qnc 2 48 4 4 (by kernel_rfl) (by kernel_rfl)) (mto (n := 79) (l' := [(2, .ref 0 4 0 0), (4, (.acc 1 48 4 ((([]) : List GStream).map Qae))), (5, .ref 2 3 0 0), (35, (Qqc x7)), (36, (I ((x7.length : Int)))), (37, I 0)]) (own' := [(Qqd p0), .tok, Qul]) [(2, .ref 0 4 0 0), (4, (.acc 2 48 4 (([] : List GStream).map Qae))), (5, .ref 1 3 0 0), (35, (Qqc x7)), (36, (I ((x7.length : Int)))), (37, I 0)] [0, 2, 1] [(Qqd p0), .tok, Qul] hφ0 (pc (.rn (rqr rfl)) (pc (.rn (Qbx rfl (Qbo Qai _))) (pc (.rn (rqr rfl)) (pc (.rn (.plain _ (nld Qab _))) (pc rwl (pc rwl pn)))))) (qc (spb (lc rwl (lc rwl (lc rwl (lc rwl ln))))) (qc .tok (qc (spb (lc rwl (lc rwl (lc rwl ln)))) qn))))) ?_
    refine Qby (τ := (List GStream) × Int) (fun n t => Qfw N p0 k3 x7 n t.1 t.2 = some r) (fun ⟨y8, y9⟩ => ⟨mk 79 [(2, .ref 0 4 0 0), (4, (Q2v y8)), (5, .ref 2 3 0 0), (35, (Qqc x7)), (36, (I ((x7.length : Int)))), (37, I y9)], [(Qqd p0), .tok, Qul]⟩) (fun t h => by rw [Qfw] at h; cases h) (fun n12 ih t h => ?_) N ([], 0) h
    obtain ⟨y8, y9⟩ := t
    rw [Qfw] at h
    skip
    refine wx tbk [] trivial ?_
    refine wsq ?_
    rcases bft ((decide (y9 < (x7.length : Int)))) with hc13 | hc13
    ·replace h := Qaw hc13 h
     refine wft hc13 (by kernel_rfl) ?_
     refine Qap ?_
     refine thn ?_
     refine wsq ?_
     refine Qan ?_
     obtain ⟨x14, hg15, h⟩ := bno h
     obtain ⟨hi16, hj17⟩ := gsm hg15
     refine wx tbk [(0, rp [(.tmp 35, (Qqc x7)), (.tmp 37, I y9)] (.dptr (Qaj (x14)) 0))] ⟨aid rfl Try.underlying27 ti3 rfl rfl hi16 (mgt Qaj hj17) rfl, trivial⟩ ?_
     refine wx tbk [(0, rp [(.tmp 9, .ref 3 1 0 0), (.tmp 2, .ref 0 4 0 0)] Qyy)] ⟨Qfu (fs := []) (cs := [.ref 3 1 0 0, .ref 0 4 0 0]) rfl rfl rfl rfl, trivial⟩ ?_
     obtain ⟨x19, hf18, h⟩ := bno h
     obtain ⟨x21, hf20, h⟩ := bno h
     obtain ⟨x23, hf22, h⟩ := bno h
     obtain ⟨ha24, h⟩ := cko h
     refine wy1 tbk [(5, rb [(.tmp 44, Qyy), (.tmp 46, I p0.Heat)] [(3, .own 1 [[I x14]]), (0, (Qqd p0))] (I x19)), (9, rb [(.tmp 48, Qyy), (.tmp 50, I p0.Silica)] [(3, .own 1 [[I x14]]), (0, (Qqd p0))] (I x21)), (13, rb [(.tmp 52, Qyy), (.tmp 54, I p0.Gas)] [(3, .own 1 [[I x14]]), (0, (Qqd p0))] (I x23)), (14, rp [(.tmp 43, I x14), (.tmp 47, I x19), (.tmp 51, I x21), (.tmp 55, I x23)] (.agg [I x14, I x19, I x21, I x23])), (15, rp [(.tmp 56, (.agg [I x14, I x19, I x21, I x23]))] (.dat 4 (([(⟨x14, x19, x21, x23⟩ : GStream)] : List GStream).map Qae))), (16, ⟨[(.tmp 42, (Q2v y8)), (.tmp 57, (.dat 4 (([(⟨x14, x19, x21, x23⟩ : GStream)] : List GStream).map Qae)))], [(1, .tok), (4, .unused)], (.acc 4 48 4 ((y8 ++ ([(⟨x14, x19, x21, x23⟩ : GStream)]) : List GStream).map Qae)), [(1, .dead), (4, .tok)], false⟩)] ⟨Qjj (rd' := [(.tmp 44, (Q2u x14 p0)), (.tmp 46, I p0.Heat)]) [(3, 1, [[I x14]]), (0, 4, [[I p0.Mass, I p0.Heat, I p0.Silica, I p0.Gas]])] ⟨rfl, (Q7o trivial ⟨(Qob 0 rfl (lc (.same _) ln)), (Qob 1 rfl (lc (.same _) (lc (.same _) (lc (.same _) (lc (.same _) ln))))), trivial⟩), rfl, .same _, trivial⟩ (by rfl) (.lit _) Qtf (Qar (first := []) (cap := [(.dptr [I x14] 0), (.dptr [I p0.Mass, I p0.Heat, I p0.Silica, I p0.Gas] 0)]) (vs := [I p0.Heat]) (σr := []) (σr' := []) (res' := (I x19)) [] rfl Qty (Qhk N p0.Heat x14 p0.Mass p0.Heat p0.Silica p0.Gas _ hf18) rfl (Qbm (rnc (.plain _ nll) (rnc (.plain _ (NLt.dptr _ _ (nlc nll nl0))) (rnc (.plain _ (NLt.dptr _ _ (nlc nll (nlc nll (nlc nll (nlc nll nl0)))))) rn0)))) Qaq Qaq (.plain _ nll) rfl rfl rfl), Qjj (rd' := [(.tmp 48, (Q2u x14 p0)), (.tmp 50, I p0.Silica)]) [(3, 1, [[I x14]]), (0, 4, [[I p0.Mass, I p0.Heat, I p0.Silica, I p0.Gas]])] ⟨rfl, (Q7o trivial ⟨(Qob 0 rfl (lc (.same _) ln)), (Qob 1 rfl (lc (.same _) (lc (.same _) (lc (.same _) (lc (.same _) ln))))), trivial⟩), rfl, .same _, trivial⟩ (by rfl) (.lit _) Qtf (Qar (first := []) (cap := [(.dptr [I x14] 0), (.dptr [I p0.Mass, I p0.Heat, I p0.Silica, I p0.Gas] 0)]) (vs := [I p0.Silica]) (σr := []) (σr' := []) (res' := (I x21)) [] rfl Qty (Qhk N p0.Silica x14 p0.Mass p0.Heat p0.Silica p0.Gas _ hf20) rfl (Qbm (rnc (.plain _ nll) (rnc (.plain _ (NLt.dptr _ _ (nlc nll nl0))) (rnc (.plain _ (NLt.dptr _ _ (nlc nll (nlc nll (nlc nll (nlc nll nl0)))))) rn0)))) Qaq Qaq (.plain _ nll) rfl rfl rfl), Qjj (rd' := [(.tmp 52, (Q2u x14 p0)), (.tmp 54, I p0.Gas)]) [(3, 1, [[I x14]]), (0, 4, [[I p0.Mass, I p0.Heat, I p0.Silica, I p0.Gas]])] ⟨rfl, (Q7o trivial ⟨(Qob 0 rfl (lc (.same _) ln)), (Qob 1 rfl (lc (.same _) (lc (.same _) (lc (.same _) (lc (.same _) ln))))), trivial⟩), rfl, .same _, trivial⟩ (by rfl) (.lit _) Qtf (Qar (first := []) (cap := [(.dptr [I x14] 0), (.dptr [I p0.Mass, I p0.Heat, I p0.Silica, I p0.Gas] 0)]) (vs := [I p0.Gas]) (σr := []) (σr' := []) (res' := (I x23)) [] rfl Qty (Qhk N p0.Gas x14 p0.Mass p0.Heat p0.Silica p0.Gas _ hf22) rfl (Qbm (rnc (.plain _ nll) (rnc (.plain _ (NLt.dptr _ _ (nlc nll nl0))) (rnc (.plain _ (NLt.dptr _ _ (nlc nll (nlc nll (nlc nll (nlc nll nl0)))))) rn0)))) Qaq Qaq (.plain _ nll) rfl rfl rfl), Qa2 (vs := [I x14, I x19, I x21, I x23]) rfl ts48 tz48 rfl (by rfl) rfl, Qb1 (vs := [(.agg [I x14, I x19, I x21, I x23])]) rfl Try.underlying45 ti48 tz48 rfl (by decide) rfl (by decide) (by rfl) (by rfl) (by rfl) rfl, Qgk rfl Try.underlying45 te48 (Base.acc _ _) rfl rfl (by rfl) (Qij Qae ha24) (Qii Qae ha24 (by decide)) (Qih Qae) rfl rfl, trivial⟩ ?_
     refine bln ?_
     refine thn ?_
     refine wx1 tbk [] trivial ?_
     refine thn ?_
     exact arm (mto (n := 79) [(2, .ref 0 4 0 0), (4, (.acc 4 48 4 ((y8 ++ ([(⟨x14, x19, x21, x23⟩ : GStream)]) : List GStream).map Qae))), (5, .ref 2 3 0 0), (35, (Qqc x7)), (36, (I ((x7.length : Int)))), (37, (I (w64 (y9 + 1))))] [0, 4, 2] [(Qqd p0), .tok, Qul] hφ0 (pc (.rn (rqr rfl)) (pc (.rn (Qbx rfl (Qbo Qai _))) (pc (.rn (rqr rfl)) (pc (.rn (.plain _ (nld Qab _))) (pc rwl (pc rwl pn)))))) (qc (spb (lc rwl (lc rwl (lc rwl (lc rwl ln))))) (qc .tok (qc (spb (lc rwl (lc rwl (lc rwl ln)))) qn)))) (ih (y8 ++ ([(⟨x14, x19, x21, x23⟩ : GStream)]), w64 (y9 + 1)) h)
    ·replace h := Qax hc13 h
     refine wfn hc13 (by kernel_rfl) ?_
     refine Qbi ?_
     refine Qay ?_
     refine Qay ?_
     refine Qbh rfl ?_
     refine thn ?_
     exact ⟨(y8), h, (mto (n := 79) [(2, .ref 0 4 0 0), (4, (Q2v y8)), (5, .ref 2 3 0 0)] [0, 1, 2] [(Qqd p0), .tok, Qul] hφ0 (pc (.rn (rqr rfl)) (pc (.rn (Qbx rfl (Qbo Qai _))) (pc (.rn (rqr rfl)) pn))) (qc (spb (lc rwl (lc rwl (lc rwl (lc rwl ln))))) (qc .tok (qc (spb (lc rwl (lc rwl (lc rwl ln)))) qn))))⟩
  ·skip
   obtain ⟨x26, hf25, h⟩ := bno h
   rcases bft ((!x26)) with hb27 | hb27
   ·replace h := Qaw hb27 h
    refine wx tbk [(1, rp [fu 34, (.tmp 12, (Qum p0))] (B x26)), (3, rp [(.tmp 14, (B ((!x26))))] (B true))] ⟨apc (first := []) (cap := []) (vs := [(Qum p0)]) rfl Qo1 (Qdn N p0 _ hf25) rfl rfl (nlc (NLt.agg _ (nlc nll (nlc nll (nlc nll (nlc nll nl0))))) nl0) nll rfl, asb hb27 (amv rfl), trivial⟩ ?_
    refine Qbk (by kernel_rfl) ?_
    refine wx tbk [(0, rp [] Quk)] ⟨Qa2 (vs := []) rfl Q3d Q0o rfl (by rfl) rfl, trivial⟩ ?_
    refine Qad ?_
    refine Qaf ?_
    obtain rfl := osi h
    exact fend ⟨[Qyx, Quk, I 1], ⟨Qe9 (v := nilS) (rot (by kernel_rfl)) Less.nil, Qch (n := 1) (m := 3) (j := 0) (i := 0) (xs := [[I 0, I 0, I 0]]) (by kernel_rfl) (by kernel_rfl) Q0p (by decide) rfl (nle rfl) rfl, rot (by kernel_rfl), trivial⟩, rfl⟩ (NLt.tup _ (nlc (nld Qai _) (nlc (NLt.agg _ (nlc nll (nlc nll (nlc nll nl0)))) (nlc nll nl0))))
   ·replace h := Qax hb27 h
    rcases bft ((decide ((p1.length : Int) > 20))) with hb28 | hb28
    ·replace h := Qaw hb28 h
     refine wx tbk [(1, rp [fu 34, (.tmp 12, (Qum p0))] (B x26)), (3, rp [(.tmp 14, (B ((!x26))))] (B false)), (5, rp [(.tmp 15, B false), (.tmp 16, (Qon p1))] (I ((p1.length : Int)))), (8, rp [(.tmp 19, (B ((decide ((p1.length : Int) > 20)))))] (B true))] ⟨apc (first := []) (cap := []) (vs := [(Qum p0)]) rfl Qo1 (Qdn N p0 _ hf25) rfl rfl (nlc (NLt.agg _ (nlc nll (nlc nll (nlc nll (nlc nll nl0))))) nl0) nll rfl, asb hb27 (amv rfl), ag_ (alm (c := Qaj) (l := p1) (aln rfl Try.underlying27 rfl)), asb hb28 (amv rfl), trivial⟩ ?_
     refine Qbk (by kernel_rfl) ?_
     refine wx tbk [(0, rp [] Quk)] ⟨Qa2 (vs := []) rfl Q3d Q0o rfl (by rfl) rfl, trivial⟩ ?_
     refine Qad ?_
     refine Qaf ?_
     obtain rfl := osi h
     exact fend ⟨[Qyx, Quk, I 1], ⟨Qe9 (v := nilS) (rot (by kernel_rfl)) Less.nil, Qch (n := 1) (m := 3) (j := 0) (i := 0) (xs := [[I 0, I 0, I 0]]) (by kernel_rfl) (by kernel_rfl) Q0p (by decide) rfl (nle rfl) rfl, rot (by kernel_rfl), trivial⟩, rfl⟩ (NLt.tup _ (nlc (nld Qai _) (nlc (NLt.agg _ (nlc nll (nlc nll (nlc nll nl0)))) (nlc nll nl0))))
    ·replace h := Qax hb28 h
     obtain ⟨x30, hf29, h⟩ := bno h
     rcases bft ((!x30)) with hb31 | hb31
     ·replace h := Qaw hb31 h
      refine wx tbk [(1, rp [fu 34, (.tmp 12, (Qum p0))] (B x26)), (3, rp [(.tmp 14, (B ((!x26))))] (B false)), (5, rp [(.tmp 15, B false), (.tmp 16, (Qon p1))] (I ((p1.length : Int)))), (8, rp [(.tmp 19, (B ((decide ((p1.length : Int) > 20)))))] (B false)), (11, rp [(.tmp 20, B false), fu 46, (.tmp 21, (Qon p1)), (.tmp 22, (.fn (.func 97) [] []))] (B x30)), (14, rp [(.tmp 25, (B ((!x30))))] (B true))] ⟨apc (first := []) (cap := []) (vs := [(Qum p0)]) rfl Qo1 (Qdn N p0 _ hf25) rfl rfl (nlc (NLt.agg _ (nlc nll (nlc nll (nlc nll (nlc nll nl0))))) nl0) nll rfl, asb hb27 (amv rfl), ag_ (alm (c := Qaj) (l := p1) (aln rfl Try.underlying27 rfl)), asb hb28 (amv rfl), ag_ (Qar (first := []) (cap := []) (vs := [(Qon p1), (.fn (.func 97) [] [])]) (σr := []) (σr' := []) (res' := (B x30)) [] rfl Q4n (Qjt N p1 _ hf29) rfl (Qbm (rnc (.plain _ (nld Qab _)) (rnc (.plain _ (NLt.fn _ _ _ nl0 nl0)) rn0))) Qaq Qaq (.plain _ nll) rfl rfl rfl), asb hb31 (amv rfl), trivial⟩ ?_
      refine Qbk (by kernel_rfl) ?_
      refine wx tbk [(0, rp [] Quk)] ⟨Qa2 (vs := []) rfl Q3d Q0o rfl (by rfl) rfl, trivial⟩ ?_
      refine Qad ?_
      refine Qaf ?_
      obtain rfl := osi h
      exact fend ⟨[Qyx, Quk, I 1], ⟨Qe9 (v := nilS) (rot (by kernel_rfl)) Less.nil, Qch (n := 1) (m := 3) (j := 0) (i := 0) (xs := [[I 0, I 0, I 0]]) (by kernel_rfl) (by kernel_rfl) Q0p (by decide) rfl (nle rfl) rfl, rot (by kernel_rfl), trivial⟩, rfl⟩ (NLt.tup _ (nlc (nld Qai _) (nlc (NLt.agg _ (nlc nll (nlc nll (nlc nll nl0)))) (nlc nll nl0))))
     ·replace h := Qax hb31 h
      obtain ⟨x33, hf32, h⟩ := bno h
      refine wx tbk [(1, rp [fu 34, (.tmp 12, (Qum p0))] (B x26)), (3, rp [(.tmp 14, (B ((!x26))))] (B false)), (5, rp [(.tmp 15, B false), (.tmp 16, (Qon p1))] (I ((p1.length : Int)))), (8, rp [(.tmp 19, (B ((decide ((p1.length : Int) > 20)))))] (B false)), (11, rp [(.tmp 20, B false), fu 46, (.tmp 21, (Qon p1)), (.tmp 22, (.fn (.func 97) [] []))] (B x30)), (14, rp [(.tmp 25, (B ((!x30))))] (B false)), (16, rp [(.tmp 26, B false), fu 66, (.tmp 27, (Qon p1)), fu 98] (B x33))] ⟨apc (first := []) (cap := []) (vs := [(Qum p0)]) rfl Qo1 (Qdn N p0 _ hf25) rfl rfl (nlc (NLt.agg _ (nlc nll (nlc nll (nlc nll (nlc nll nl0))))) nl0) nll rfl, asb hb27 (amv rfl), ag_ (alm (c := Qaj) (l := p1) (aln rfl Try.underlying27 rfl)), asb hb28 (amv rfl), ag_ (Qar (first := []) (cap := []) (vs := [(Qon p1), (.fn (.func 97) [] [])]) (σr := []) (σr' := []) (res' := (B x30)) [] rfl Q4n (Qjt N p1 _ hf29) rfl (Qbm (rnc (.plain _ (nld Qab _)) (rnc (.plain _ (NLt.fn _ _ _ nl0 nl0)) rn0))) Qaq Qaq (.plain _ nll) rfl rfl rfl), asb hb31 (amv rfl), ag_ (Qar (first := []) (cap := []) (vs := [(Qon p1), (.fn (.func 98) [] [])]) (σr := []) (σr' := []) (res' := (B x33)) [] rfl Qq6 (Qhw N p1 _ hf32) rfl (Qbm (rnc (.plain _ (nld Qab _)) (rnc (.plain _ (NLt.fn _ _ _ nl0 nl0)) rn0))) Qaq Qaq (.plain _ nll) rfl rfl rfl), trivial⟩ ?_
      rcases bft ((!x33)) with hc34 | hc34
      ·replace h := Qaw hc34 h
       refine wft hc34 (by kernel_rfl) ?_
       refine wx tbk [(0, rp [] Quk)] ⟨Qa2 (vs := []) rfl Q3d Q0o rfl (by rfl) rfl, trivial⟩ ?_
       refine Qad ?_
       refine Qaf ?_
       obtain rfl := osi h
       exact fend ⟨[Qyx, Quk, I 1], ⟨Qe9 (v := nilS) (rot (by kernel_rfl)) Less.nil, Qch (n := 1) (m := 3) (j := 0) (i := 0) (xs := [[I 0, I 0, I 0]]) (by kernel_rfl) (by kernel_rfl) Q0p (by decide) rfl (nle rfl) rfl, rot (by kernel_rfl), trivial⟩, rfl⟩ (NLt.tup _ (nlc (nld Qai _) (nlc (NLt.agg _ (nlc nll (nlc nll (nlc nll nl0)))) (nlc nll nl0))))
      ·replace h := Qax hc34 h
       refine wfn hc34 (by kernel_rfl) ?_
       refine Qap ?_
       refine thn ?_
       exact ⟨(), h, (mto (n := 79) [(1, (Qon p1)), (2, .ref 0 4 0 0), (4, nilS), (5, .ref 1 3 0 0)] [0, 1] [(Qqd p0), Qul] hφ0 (pc (.rn (.plain _ (nld Qab _))) (pc (.rn (rqr rfl)) (pc rwl (pc (.rn (rqr rfl)) pn)))) (qc (spb (lc rwl (lc rwl (lc rwl (lc rwl ln))))) (qc (spb (lc rwl (lc rwl (lc rwl ln)))) qn)))⟩
end Go.Proofs.Ytmbhnllcfmiajaa
