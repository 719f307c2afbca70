/-
  Functions of the program: what they compute, as plain functions, and that they do. No conditions.
-/
import Derived.Test.YtlhakkkjgdbdpaaGreatX5
namespace Go.Proofs.YtlhakkkjgdbdpaaGreat
set_option maxRecDepth 100000
set_option maxHeartbeats 4000000
open Go.RowKit
def Qib (_N : Nat) (p0 : GStream) : Option GStream :=
  some p0
def Zdg (p0 : GStream) : AV := .agg [(I (p0.Mass)), (I (p0.Heat)), (I (p0.Silica)), (I (p0.Gas))]
theorem Qlj (N : Nat) (p0 : GStream) (r : GStream) (h : Qib N p0 = some r) : Spec Tryz.prog 10 [(.agg (Qa4 p0))] [] (.agg (Qa4 r)) [] := by
  refine Qac Tryz.func10 rfl 0 (nle rfl) (fun X φ0 w0 hφ0 hd0 => ?_)
  unfold Qib at h
  refine wx tbk [] trivial ?_
  refine wx tbk [(8, rp [(.tmp 4, I p0.Mass), (.tmp 6, I p0.Heat), (.tmp 8, I p0.Silica), (.tmp 10, I p0.Gas)] (Zdg p0))] ⟨Qao (vs := [I p0.Mass, I p0.Heat, I p0.Silica, I p0.Gas]) rfl ts35 tz35 rfl (by rfl) rfl, trivial⟩ ?_
  refine Qaa ?_
  obtain rfl := osi h
  exact fend ⟨[(Zdg p0)], ⟨Qa0 (n := 1) (m := 4) (j := 0) (i := 0) (xs := [[I p0.Mass, I p0.Heat, I p0.Silica, I p0.Gas]]) (by kernel_rfl) (by kernel_rfl) ti35 (by decide) rfl (nle rfl) rfl, trivial⟩, rfl⟩ (NLt.agg _ (nlc nll (nlc nll (nlc nll (nlc nll nl0)))))
def Qdk (_N : Nat) (p0 : Int) (p1 : Int) (p2 : Int) : Option Bool :=
  bif (decide (p0 ≥ p1)) then
   some (decide (p0 ≤ p2))
  else
   some false
theorem Qar (N : Nat) (p0 : Int) (p1 : Int) (p2 : Int) (r : Bool) (h : Qdk N p0 p1 p2 = some r) : Spec Tryz.prog 40 [(I p0), (I p1), (I p2)] [] (B r) [] := by
  refine Qac Tryz.func40 rfl 0 (nle rfl) (fun X φ0 w0 hφ0 hd0 => ?_)
  unfold Qdk at h
  refine wx tbk [] trivial ?_
  rcases bft ((decide (p0 ≥ p1))) with hb1 | hb1
  ·replace h := Qat hb1 h
   refine wx tbk [(3, rp [(.tmp 9, (B ((decide (p0 ≥ p1)))))] (B true))] ⟨asb hb1 (amv rfl), trivial⟩ ?_
   refine Qaa ?_
   obtain rfl := osi h
   exact fend ⟨[(B ((decide (p0 ≤ p2))))], ⟨rot (by kernel_rfl), trivial⟩, rfl⟩ nll
  ·replace h := Qau hb1 h
   refine wx tbk [(3, rp [(.tmp 9, (B ((decide (p0 ≥ p1)))))] (B false))] ⟨asb hb1 (amv rfl), trivial⟩ ?_
   refine Qaa ?_
   obtain rfl := osi h
   exact fend ⟨[B false], ⟨rot (by kernel_rfl), trivial⟩, rfl⟩ nll
def Qev (N : Nat) (p0 : GStream) : Option Bool :=
  (Qdk N p0.Mass 0 1000000).bind fun x2 =>
  bif x2 then
   (Qdk N p0.Heat 0 (w64 (4000 * p0.Mass))).bind fun x5 =>
   bif x5 then
    (Qdk N p0.Silica 0 (w64 (10000 * p0.Mass))).bind fun x8 =>
    bif x8 then
     (Qdk N p0.Gas 0 1000000000).bind fun x11 =>
     some x11
    else
     some false
   else
    some false
  else
   some false
theorem Qgo (N : Nat) (p0 : GStream) (r : Bool) (h : Qev N p0 = some r) : Spec Tryz.prog 12 [(.agg (Qa4 p0))] [] (B r) [] := by
  refine Qac Tryz.func12 rfl 0 (nle rfl) (fun X φ0 w0 hφ0 hd0 => ?_)
  unfold Qev at h
  refine wx tbk [] trivial ?_
  obtain ⟨x2, hf1, h⟩ := bno h
  rcases bft (x2) with hb3 | hb3
  ·replace h := Qat hb3 h
   obtain ⟨x5, hf4, h⟩ := bno h
   rcases bft (x5) with hb6 | hb6
   ·replace h := Qat hb6 h
    obtain ⟨x8, hf7, h⟩ := bno h
    rcases bft (x8) with hb9 | hb9
    ·replace h := Qat hb9 h
     obtain ⟨x11, hf10, h⟩ := bno h
     refine wx tbk [(2, rp [fu 40, (.tmp 4, I p0.Mass), ci 0, ci 1000000] (B x2)), (3, rp [(.tmp 5, B x2)] (B true)), (9, rp [(.tmp 6, B true), fu 40, (.tmp 8, I p0.Heat), ci 0, (.tmp 11, (I (w64 (4000 * p0.Mass))))] (B x5)), (11, rp [(.tmp 13, B x5)] (B true)), (17, rp [(.tmp 14, B true), fu 40, (.tmp 16, I p0.Silica), ci 0, (.tmp 19, (I (w64 (10000 * p0.Mass))))] (B x8)), (19, rp [(.tmp 21, B x8)] (B true)), (22, rp [(.tmp 22, B true), fu 40, (.tmp 24, I p0.Gas), ci 0, ci 1000000000] (B x11))] ⟨apc (first := []) (cap := []) (vs := [I p0.Mass, I 0, I 1000000]) rfl Qb5 (Qar N p0.Mass 0 1000000 _ hf1) rfl rfl (nlc nll (nlc nll (nlc nll nl0))) nll rfl, asb hb3 (amv rfl), ag_ (apc (first := []) (cap := []) (vs := [I p0.Heat, I 0, (I (w64 (4000 * p0.Mass)))]) rfl Qb5 (Qar N p0.Heat 0 (w64 (4000 * p0.Mass)) _ hf4) rfl rfl (nlc nll (nlc nll (nlc nll nl0))) nll rfl), asb hb6 (amv rfl), ag_ (apc (first := []) (cap := []) (vs := [I p0.Silica, I 0, (I (w64 (10000 * p0.Mass)))]) rfl Qb5 (Qar N p0.Silica 0 (w64 (10000 * p0.Mass)) _ hf7) rfl rfl (nlc nll (nlc nll (nlc nll nl0))) nll rfl), asb hb9 (amv rfl), ag_ (apc (first := []) (cap := []) (vs := [I p0.Gas, I 0, I 1000000000]) rfl Qb5 (Qar N p0.Gas 0 1000000000 _ hf10) rfl rfl (nlc nll (nlc nll (nlc nll nl0))) nll rfl), trivial⟩ ?_
     refine Qaa ?_
     obtain rfl := osi h
     exact fend ⟨[B x11], ⟨rot (by kernel_rfl), trivial⟩, rfl⟩ nll
    ·replace h := Qau hb9 h
     refine wx tbk [(2, rp [fu 40, (.tmp 4, I p0.Mass), ci 0, ci 1000000] (B x2)), (3, rp [(.tmp 5, B x2)] (B true)), (9, rp [(.tmp 6, B true), fu 40, (.tmp 8, I p0.Heat), ci 0, (.tmp 11, (I (w64 (4000 * p0.Mass))))] (B x5)), (11, rp [(.tmp 13, B x5)] (B true)), (17, rp [(.tmp 14, B true), fu 40, (.tmp 16, I p0.Silica), ci 0, (.tmp 19, (I (w64 (10000 * p0.Mass))))] (B x8)), (19, rp [(.tmp 21, B x8)] (B false))] ⟨apc (first := []) (cap := []) (vs := [I p0.Mass, I 0, I 1000000]) rfl Qb5 (Qar N p0.Mass 0 1000000 _ hf1) rfl rfl (nlc nll (nlc nll (nlc nll nl0))) nll rfl, asb hb3 (amv rfl), ag_ (apc (first := []) (cap := []) (vs := [I p0.Heat, I 0, (I (w64 (4000 * p0.Mass)))]) rfl Qb5 (Qar N p0.Heat 0 (w64 (4000 * p0.Mass)) _ hf4) rfl rfl (nlc nll (nlc nll (nlc nll nl0))) nll rfl), asb hb6 (amv rfl), ag_ (apc (first := []) (cap := []) (vs := [I p0.Silica, I 0, (I (w64 (10000 * p0.Mass)))]) rfl Qb5 (Qar N p0.Silica 0 (w64 (10000 * p0.Mass)) _ hf7) rfl rfl (nlc nll (nlc nll (nlc nll nl0))) nll rfl), asb hb9 (amv rfl), trivial⟩ ?_
     refine Qaa ?_
     obtain rfl := osi h
     exact fend ⟨[B false], ⟨rot (by kernel_rfl), trivial⟩, rfl⟩ nll
   ·replace h := Qau hb6 h
    refine wx tbk [(2, rp [fu 40, (.tmp 4, I p0.Mass), ci 0, ci 1000000] (B x2)), (3, rp [(.tmp 5, B x2)] (B true)), (9, rp [(.tmp 6, B true), fu 40, (.tmp 8, I p0.Heat), ci 0, (.tmp 11, (I (w64 (4000 * p0.Mass))))] (B x5)), (11, rp [(.tmp 13, B x5)] (B false))] ⟨apc (first := []) (cap := []) (vs := [I p0.Mass, I 0, I 1000000]) rfl Qb5 (Qar N p0.Mass 0 1000000 _ hf1) rfl rfl (nlc nll (nlc nll (nlc nll nl0))) nll rfl, asb hb3 (amv rfl), ag_ (apc (first := []) (cap := []) (vs := [I p0.Heat, I 0, (I (w64 (4000 * p0.Mass)))]) rfl Qb5 (Qar N p0.Heat 0 (w64 (4000 * p0.Mass)) _ hf4) rfl rfl (nlc nll (nlc nll (nlc nll nl0))) nll rfl), asb hb6 (amv rfl), trivial⟩ ?_
    refine Qaa ?_
    obtain rfl := osi h
    exact fend ⟨[B false], ⟨rot (by kernel_rfl), trivial⟩, rfl⟩ nll
  ·replace h := Qau hb3 h
   refine wx tbk [(2, rp [fu 40, (.tmp 4, I p0.Mass), ci 0, ci 1000000] (B x2)), (3, rp [(.tmp 5, B x2)] (B false))] ⟨apc (first := []) (cap := []) (vs := [I p0.Mass, I 0, I 1000000]) rfl Qb5 (Qar N p0.Mass 0 1000000 _ hf1) rfl rfl (nlc nll (nlc nll (nlc nll nl0))) nll rfl, asb hb3 (amv rfl), trivial⟩ ?_
   refine Qaa ?_
   obtain rfl := osi h
   exact fend ⟨[B false], ⟨rot (by kernel_rfl), trivial⟩, rfl⟩ nll
def Qeh (N : Nat) (p0 : GUnit) (k2 : (List GPart) → Option GUnit) : Nat → Int → (List GPart) → Option GUnit
  | 0, _, _ => none
  | n7 + 1, y3, y4 =>
    bif (decide (y3 < (p0.Parts.length : Int))) then
     (getI p0.Parts y3).bind fun x9 =>
     chk (decide ((y4.length + ([x9]).length) * 16 ≤ 140737488355328)) <|
     Qeh N p0 k2 n7 (w64 (y3 + 1)) (y4 ++ ([x9]))
    else
     k2 (y4)
def Qj4 (N : Nat) (p0 : GUnit) : Option GUnit :=
  Qc5 (fun y1 =>
    some (⟨p0.Inlet, y1⟩ : GUnit)) fun k2 : (List GPart) → Option GUnit =>
  Qeh N p0 k2 N 0 ([])
def Qz0 : Slot := .own 2 [[(I (0)), nilS]]
def Q1i (y1 : (List GPart)) : AV := .acc 2 126 2 ((y1 : List GPart).map Qba)
def Q5i (p0 : GUnit) : AV := .dat 2 ((p0.Parts : List GPart).map Qba)
def Q5h (p0 : GUnit) : Slot := .own 2 [[(I (p0.Inlet)), (Q5i p0)]]
def Q1h (y4 : (List GPart)) : AV := .acc 3 126 2 ((y4 : List GPart).map Qba)
def Q1g (x9 : GPart) : AV := .agg [(I (x9.Width)), (I (x9.Gain))]
theorem Qrt (N : Nat) (p0 : GUnit) (r : GUnit) (h : Qj4 N p0 = some r) : Spec Tryz.prog 37 [(.agg (Qck p0))] [] (.agg (Qck r)) [] := by
  refine Qac Tryz.func37 rfl 0 (nle rfl) (fun X φ0 w0 hφ0 hd0 => ?_)
  unfold Qj4 at h
  refine wx tbk [] trivial ?_
  refine wx tbk [(2, rp [(.tmp 6, I p0.Inlet)] (.agg [I p0.Inlet, nilS]))] ⟨Qao (vs := [I p0.Inlet]) rfl ts45 tz45 rfl (by rfl) rfl, trivial⟩ ?_
  obtain ⟨k2, hk_k2, h⟩ := jko h
  refine wjn (τ := (List GPart)) (fun t => k2 t = some r) (fun y1 => ⟨mk 34 [(2, .ref 0 2 0 0), (3, .ref 1 2 0 0)], [Qz0, (.own 2 [[I p0.Inlet, (Q1i y1)]]), .tok]⟩) (fun y1 h => ?_) ?_
  ·subst hk_k2
   refine wx tbk [] trivial ?_
   refine Qaa ?_
   obtain rfl := osi h
   exact fend ⟨[(.agg [I p0.Inlet, (.dat 2 ((y1 : List GPart).map Qba))])], ⟨Qjt (v := (.agg [I p0.Inlet, (Q1i y1)])) (Qa0 (n := 0) (m := 2) (j := 0) (i := 0) (xs := [[I p0.Inlet, (Q1i y1)]]) (by kernel_rfl) (by kernel_rfl) ti45 (by decide) rfl (nle rfl) rfl) (Less.agg ⟨lrf, Less.acc, trivial⟩), trivial⟩, rfl⟩ (NLt.agg _ (nlc nll (nlc (nld Qaq _) nl0)))
  ·skip
   refine wx tbk [] trivial ?_
   refine Qaj ?_
   refine wmr (Mor.trans (Q6k (n := 3) (ty := 126) (m := 2) (q := 2) (mq := 2) (c := [I p0.Inlet, nilS]) 1 (by kernel_rfl) (by kernel_rfl) (by kernel_rfl) (by decide)) (mto (n := 34) (l' := [(1, .ref 0 2 0 0), (2, .ref 1 2 0 0), (3, .ref 2 2 0 0), (4, I 0)]) (own' := [(Q5h p0), Qz0, (.own 2 [[I p0.Inlet, (.acc 3 126 2 ((([]) : List GPart).map Qba))]]), .tok]) [(1, .ref 0 2 0 0), (2, .ref 1 2 0 0), (3, .ref 2 2 0 0), (4, I 0)] [0, 1, 2, 3] [(Q5h p0), Qz0, (.own 2 [[I p0.Inlet, (.acc 3 126 2 (([] : List GPart).map Qba))]]), .tok] hφ0 (pc (.rn (rqr rfl)) (pc (.rn (rqr rfl)) (pc (.rn (rqr rfl)) (pc rwl pn)))) (qc (spb (lc rwl (lc (.rn (.plain _ (nld Qaq _))) ln))) (qc (spb (lc rwl (lc rwl ln))) (qc (spb (lc rwl (lc (.rn (Qhg rfl (Qfr Qaq _))) ln))) (qc .tok qn)))))) ?_
   refine Qcl (τ := Int × (List GPart)) (fun n t => Qeh N p0 k2 n t.1 t.2 = some r) (fun ⟨y3, y4⟩ => ⟨mk 34 [(1, .ref 0 2 0 0), (2, .ref 1 2 0 0), (3, .ref 2 2 0 0), (4, I y3)], [(Q5h p0), Qz0, (.own 2 [[I p0.Inlet, (Q1h y4)]]), .tok]⟩) (fun t h => by rw [Qeh] at h; cases h) (fun n7 ih t h => ?_) N (0, []) h
   obtain ⟨y3, y4⟩ := t
   rw [Qeh] at h
   skip
   refine wsq ?_
   refine wx tbk [(3, rp [(.tmp 10, (Q5i p0))] (I ((p0.Parts.length : Int))))] ⟨alm (c := Qba) (l := p0.Parts) (aln rfl Tryz.underlying24 rfl), trivial⟩ ?_
   rcases bft ((decide (y3 < (p0.Parts.length : Int)))) with hc8 | hc8
   ·replace h := Qat hc8 h
    refine wft hc8 (by kernel_rfl) ?_
    refine Qam ?_
    refine thn ?_
    refine wsq ?_
    refine Qaj ?_
    obtain ⟨x9, hg10, h⟩ := bno h
    obtain ⟨hi11, hj12⟩ := gsm hg10
    obtain ⟨ha13, h⟩ := cko h
    refine wy1 tbk [(5, rp [(.tmp 18, (Q5i p0)), (.tmp 19, I y3)] (.dptr (Qba (x9)) 0)), (11, rp [(.tmp 24, (Q5i p0)), (.tmp 25, I y3)] (.dptr (Qba (x9)) 0)), (14, rp [(.tmp 22, I x9.Width), (.tmp 28, I x9.Gain)] (Q1g x9)), (15, rp [(.tmp 29, (Q1g x9))] (.dat 2 (([x9] : List GPart).map Qba))), (16, ⟨[(.tmp 16, (Q1h y4)), (.tmp 30, (.dat 2 (([x9] : List GPart).map Qba)))], [(3, .tok), (4, .unused)], (.acc 4 126 2 ((y4 ++ ([x9]) : List GPart).map Qba)), [(3, .dead), (4, .tok)], false⟩)] ⟨aid rfl Tryz.underlying24 Q24 rfl rfl hi11 (mgt Qba hj12) rfl, aid rfl Tryz.underlying24 Q24 rfl rfl hi11 (mgt Qba hj12) rfl, Qao (vs := [I x9.Width, I x9.Gain]) rfl Q56 Qu0 rfl (by rfl) rfl, Qcb (vs := [(Q1g x9)]) rfl Tryz.underlying43 Qp1 Qu0 rfl (by decide) rfl (by decide) (by rfl) (by rfl) (by rfl) rfl, Qmo rfl Tryz.underlying43 Zff (Base.acc _ _) rfl rfl (by rfl) (Qrn Qba ha13) (Qrm Qba ha13 (by decide)) (Qrl Qba) rfl rfl, trivial⟩ ?_
    refine bln ?_
    refine thn ?_
    refine wx1 tbk [] trivial ?_
    refine thn ?_
    exact arm (mto (n := 34) [(1, .ref 0 2 0 0), (2, .ref 1 2 0 0), (3, .ref 2 2 0 0), (4, (I (w64 (y3 + 1))))] [0, 1, 2, 4] [(Q5h p0), Qz0, (.own 2 [[I p0.Inlet, (.acc 4 126 2 ((y4 ++ ([x9]) : List GPart).map Qba))]]), .tok] hφ0 (pc (.rn (rqr rfl)) (pc (.rn (rqr rfl)) (pc (.rn (rqr rfl)) (pc rwl pn)))) (qc (spb (lc rwl (lc (.rn (.plain _ (nld Qaq _))) ln))) (qc (spb (lc rwl (lc rwl ln))) (qc (spb (lc rwl (lc (.rn (Qhg rfl (Qfr Qaq _))) ln))) (qc .tok qn))))) (ih (w64 (y3 + 1), y4 ++ ([x9])) h)
   ·replace h := Qau hc8 h
    refine wfn hc8 (by kernel_rfl) ?_
    refine Qbr ?_
    refine Qay ?_
    refine Qay ?_
    refine Qbq rfl ?_
    refine thn ?_
    exact ⟨(y4), h, (mto (n := 34) [(2, .ref 1 2 0 0), (3, .ref 2 2 0 0)] [1, 2, 3] [Qz0, (.own 2 [[I p0.Inlet, (Q1h y4)]]), .tok] hφ0 (pc (.rn (rqr rfl)) (pc (.rn (rqr rfl)) pn)) (qc (spb (lc rwl (lc rwl ln))) (qc (spb (lc rwl (lc (.rn (Qhg rfl (Qfr Qaq _))) ln))) (qc .tok qn))))⟩
def Qkf (_N : Nat) (p0 : GCycle) : Option GCycle :=
  some p0
def Zdf (p0 : GCycle) : AV := .agg [(I (p0.Out)), (I (p0.Yield)), (I (p0.Most))]
theorem Qq4 (N : Nat) (p0 : GCycle) (r : GCycle) (h : Qkf N p0 = some r) : Spec Tryz.prog 38 [(.agg (Qlf p0))] [] (.agg (Qlf r)) [] := by
  refine Qac Tryz.func38 rfl 0 (nle rfl) (fun X φ0 w0 hφ0 hd0 => ?_)
  unfold Qkf at h
  refine wx tbk [] trivial ?_
  refine wx tbk [(6, rp [(.tmp 4, I p0.Out), (.tmp 6, I p0.Yield), (.tmp 8, I p0.Most)] (Zdf p0))] ⟨Qao (vs := [I p0.Out, I p0.Yield, I p0.Most]) rfl ts46 tz46 rfl (by rfl) rfl, trivial⟩ ?_
  refine Qaa ?_
  obtain rfl := osi h
  exact fend ⟨[(Zdf p0)], ⟨Qa0 (n := 1) (m := 3) (j := 0) (i := 0) (xs := [[I p0.Out, I p0.Yield, I p0.Most]]) (by kernel_rfl) (by kernel_rfl) ti46 (by decide) rfl (nle rfl) rfl, trivial⟩, rfl⟩ (NLt.agg _ (nlc nll (nlc nll (nlc nll nl0))))
def Qfz (N : Nat) (p0 : GCycle) : Option Bool :=
  (Qdk N p0.Out 0 4000).bind fun x2 =>
  bif x2 then
   (Qdk N p0.Yield 0 1000).bind fun x5 =>
   bif x5 then
    (Qdk N p0.Most 0 4000000000).bind fun x8 =>
    some x8
   else
    some false
  else
   some false
theorem Qnh (N : Nat) (p0 : GCycle) (r : Bool) (h : Qfz N p0 = some r) : Spec Tryz.prog 42 [(.agg (Qlf p0))] [] (B r) [] := by
  refine Qac Tryz.func42 rfl 0 (nle rfl) (fun X φ0 w0 hφ0 hd0 => ?_)
  unfold Qfz at h
  refine wx tbk [] trivial ?_
  obtain ⟨x2, hf1, h⟩ := bno h
  rcases bft (x2) with hb3 | hb3
  ·replace h := Qat hb3 h
   obtain ⟨x5, hf4, h⟩ := bno h
   rcases bft (x5) with hb6 | hb6
   ·replace h := Qat hb6 h
    obtain ⟨x8, hf7, h⟩ := bno h
    refine wx tbk [(2, rp [fu 40, (.tmp 4, I p0.Out), ci 0, ci 4000] (B x2)), (3, rp [(.tmp 5, B x2)] (B true)), (6, rp [(.tmp 6, B true), fu 40, (.tmp 8, I p0.Yield), ci 0, ci 1000] (B x5)), (8, rp [(.tmp 10, B x5)] (B true)), (11, rp [(.tmp 11, B true), fu 40, (.tmp 13, I p0.Most), ci 0, ci 4000000000] (B x8))] ⟨apc (first := []) (cap := []) (vs := [I p0.Out, I 0, I 4000]) rfl Qb5 (Qar N p0.Out 0 4000 _ hf1) rfl rfl (nlc nll (nlc nll (nlc nll nl0))) nll rfl, asb hb3 (amv rfl), ag_ (apc (first := []) (cap := []) (vs := [I p0.Yield, I 0, I 1000]) rfl Qb5 (Qar N p0.Yield 0 1000 _ hf4) rfl rfl (nlc nll (nlc nll (nlc nll nl0))) nll rfl), asb hb6 (amv rfl), ag_ (apc (first := []) (cap := []) (vs := [I p0.Most, I 0, I 4000000000]) rfl Qb5 (Qar N p0.Most 0 4000000000 _ hf7) rfl rfl (nlc nll (nlc nll (nlc nll nl0))) nll rfl), trivial⟩ ?_
    refine Qaa ?_
    obtain rfl := osi h
    exact fend ⟨[B x8], ⟨rot (by kernel_rfl), trivial⟩, rfl⟩ nll
   ·replace h := Qau hb6 h
    refine wx tbk [(2, rp [fu 40, (.tmp 4, I p0.Out), ci 0, ci 4000] (B x2)), (3, rp [(.tmp 5, B x2)] (B true)), (6, rp [(.tmp 6, B true), fu 40, (.tmp 8, I p0.Yield), ci 0, ci 1000] (B x5)), (8, rp [(.tmp 10, B x5)] (B false))] ⟨apc (first := []) (cap := []) (vs := [I p0.Out, I 0, I 4000]) rfl Qb5 (Qar N p0.Out 0 4000 _ hf1) rfl rfl (nlc nll (nlc nll (nlc nll nl0))) nll rfl, asb hb3 (amv rfl), ag_ (apc (first := []) (cap := []) (vs := [I p0.Yield, I 0, I 1000]) rfl Qb5 (Qar N p0.Yield 0 1000 _ hf4) rfl rfl (nlc nll (nlc nll (nlc nll nl0))) nll rfl), asb hb6 (amv rfl), trivial⟩ ?_
    refine Qaa ?_
    obtain rfl := osi h
    exact fend ⟨[B false], ⟨rot (by kernel_rfl), trivial⟩, rfl⟩ nll
  ·replace h := Qau hb3 h
   refine wx tbk [(2, rp [fu 40, (.tmp 4, I p0.Out), ci 0, ci 4000] (B x2)), (3, rp [(.tmp 5, B x2)] (B false))] ⟨apc (first := []) (cap := []) (vs := [I p0.Out, I 0, I 4000]) rfl Qb5 (Qar N p0.Out 0 4000 _ hf1) rfl rfl (nlc nll (nlc nll (nlc nll nl0))) nll rfl, asb hb3 (amv rfl), trivial⟩ ?_
   refine Qaa ?_
   obtain rfl := osi h
   exact fend ⟨[B false], ⟨rot (by kernel_rfl), trivial⟩, rfl⟩ nll
def Qdp (N : Nat) (p0 : (List GRow)) (k1 : Unit → Option Bool) : Nat → Int → Option Bool
  | 0, _ => none
  | n5 + 1, y3 =>
    bif (decide (y3 < (p0.length : Int))) then
     (getI p0 y3).bind fun x7 =>
     Qc5 (fun _ =>
       bif (decide (y3 > 0)) then
        (getI p0 (w64 (y3 - 1))).bind fun x13 =>
        bif (decide (x7.T ≤ x13.T)) then
         some false
        else
         bif (decide (x7.P ≤ x13.P)) then
          some false
         else
          bif (decide (x7.Liquid ≤ x13.Liquid)) then
           some false
          else
           bif (decide (x7.Silica < x13.Silica)) then
            some false
           else
            Qdp N p0 k1 n5 (w64 (y3 + 1))
       else
        Qdp N p0 k1 n5 (w64 (y3 + 1))) fun k11 : Unit → Option Bool =>
     (Qdk N x7.T 0 400).bind fun x22 =>
     bif (!x22) then
      some false
     else
      (Qdk N x7.P 1 10000).bind fun x25 =>
      bif (!x25) then
       some false
      else
       (Qdk N x7.Liquid 0 4000).bind fun x28 =>
       bif (!x28) then
        some false
       else
        (Qdk N x7.Silica 0 2000).bind fun x31 =>
        bif (!x31) then
         some false
        else
         bif (decide (x7.Vapour ≤ x7.Liquid)) then
          some false
         else
          bif (decide (x7.Vapour > 4000)) then
           some false
          else
           k11 ()
    else
     k1 ()
def Qi1 (N : Nat) (p0 : (List GRow)) : Option Bool :=
  Qc5 (fun _ =>
    bif (decide ((p0.length : Int) ≥ 2)) then
     some (decide ((p0.length : Int) ≤ 20))
    else
     some false) fun k1 : Unit → Option Bool =>
  Qdp N p0 k1 N 0
def Qjl (p0 : (List GRow)) : AV := .dat 5 ((p0 : List GRow).map Qa6)
def Q7v (x7 : GRow) : Slot := .own 5 [[(I (x7.T)), (I (x7.P)), (I (x7.Liquid)), (I (x7.Vapour)), (I (x7.Silica))]]
theorem Qf0 (N : Nat) (p0 : (List GRow)) (r : Bool) (h : Qi1 N p0 = some r) : Spec Tryz.prog 39 [(.dat 5 (p0.map Qa6))] [] (B r) [] := by
  refine Qac Tryz.func39 rfl 0 (nle rfl) (fun X φ0 w0 hφ0 hd0 => ?_)
  unfold Qi1 at h
  refine wx tbk [] trivial ?_
  obtain ⟨k1, hk_k1, h⟩ := jko h
  refine wjn (τ := Unit) (fun t => k1 t = some r) (fun _ => ⟨mk 103 [(0, (Qjl p0))], []⟩) (fun t h => ?_) ?_
  ·subst hk_k1
   rcases bft ((decide ((p0.length : Int) ≥ 2))) with hb2 | hb2
   ·replace h := Qat hb2 h
    refine wx tbk [(1, rp [(.tmp 95, (Qjl p0))] (I ((p0.length : Int)))), (3, rp [(.tmp 97, (B ((decide ((p0.length : Int) ≥ 2)))))] (B true)), (5, rp [(.tmp 98, B true), (.tmp 99, (Qjl p0))] (I ((p0.length : Int))))] ⟨alm (c := Qa6) (l := p0) (aln rfl Tryz.underlying23 rfl), asb hb2 (amv rfl), ag_ (alm (c := Qa6) (l := p0) (aln rfl Tryz.underlying23 rfl)), trivial⟩ ?_
    refine Qaa ?_
    obtain rfl := osi h
    exact fend ⟨[(B ((decide ((p0.length : Int) ≤ 20))))], ⟨rot (by kernel_rfl), trivial⟩, rfl⟩ nll
   ·replace h := Qau hb2 h
    refine wx tbk [(1, rp [(.tmp 95, (Qjl p0))] (I ((p0.length : Int)))), (3, rp [(.tmp 97, (B ((decide ((p0.length : Int) ≥ 2)))))] (B false))] ⟨alm (c := Qa6) (l := p0) (aln rfl Tryz.underlying23 rfl), asb hb2 (amv rfl), trivial⟩ ?_
    refine Qaa ?_
    obtain rfl := osi h
    exact fend ⟨[B false], ⟨rot (by kernel_rfl), trivial⟩, rfl⟩ nll
  ·skip
   refine wx tbk [] trivial ?_
   refine Qaj ?_
   refine wmr (mto (n := 103) (l' := [(0, (Qjl p0)), (3, I 0)]) (own' := []) [(0, (Qjl p0)), (3, I 0)] [] [] hφ0 (pc (.rn (.plain _ (nld Qa9 _))) (pc rwl pn)) qn) ?_
   refine Qcl (τ := Int) (fun n t => Qdp N p0 k1 n t = some r) (fun y3 => ⟨mk 103 [(0, (Qjl p0)), (3, I y3)], []⟩) (fun t h => by rw [Qdp] at h; cases h) (fun n5 ih y3 h => ?_) N (0) h
   rw [Qdp] at h
   skip
   refine wsq ?_
   refine wx tbk [(2, rp [(.tmp 6, (Qjl p0))] (I ((p0.length : Int))))] ⟨alm (c := Qa6) (l := p0) (aln rfl Tryz.underlying23 rfl), trivial⟩ ?_
   rcases bft ((decide (y3 < (p0.length : Int)))) with hc6 | hc6
   ·replace h := Qat hc6 h
    refine wft hc6 (by kernel_rfl) ?_
    refine Qam ?_
    refine thn ?_
    refine wsq ?_
    refine Qaj ?_
    obtain ⟨x7, hg8, h⟩ := bno h
    obtain ⟨hi9, hj10⟩ := gsm hg8
    refine wx tbk [(2, rp [(.tmp 11, (Qjl p0)), (.tmp 12, I y3)] (.dptr (Qa6 (x7)) 0))] ⟨aid rfl Tryz.underlying23 Ql3 rfl rfl hi9 (mgt Qa6 hj10) rfl, trivial⟩ ?_
    obtain ⟨k11, hk_k11, h⟩ := jko h
    refine wjn (τ := Unit) (fun t => k11 t = some r) (fun _ => ⟨mk 103 [(0, (Qjl p0)), (3, I y3), (4, .ref 0 5 0 0)], [(Q7v x7)]⟩) (fun t h => ?_) ?_
    ·subst hk_k11
     rcases bft ((decide (y3 > 0))) with hb12 | hb12
     ·replace h := Qat hb12 h
      obtain ⟨x13, hg14, h⟩ := bno h
      obtain ⟨hi15, hj16⟩ := gsm hg14
      rcases bft ((decide (x7.T ≤ x13.T))) with hb17 | hb17
      ·replace h := Qat hb17 h
       refine wxd tbk [(2, rp [(.tmp 50, (B ((decide (y3 > 0)))))] (B true)), (8, rp [(.tmp 51, B true), (.tmp 54, (Qjl p0)), (.tmp 56, (I (w64 (y3 - 1))))] (.dptr (Qa6 (x13)) 0)), (12, rp [(.tmp 51, B true), (.tmp 60, (B ((decide (x7.T ≤ x13.T)))))] (B true))] ⟨asb hb12 (amv rfl), ag_ (aid rfl Tryz.underlying23 Ql3 rfl rfl hi15 (mgt Qa6 hj16) rfl), asb hb17 (ag_ (amv rfl)), trivial⟩ ?_
       refine Qcy (by kernel_rfl) ?_
       refine wx tbk [] trivial ?_
       refine Qaa ?_
       refine Qa3 ?_
       refine Qan ?_
       refine Qan ?_
       refine Qa3 ?_
       refine Qan ?_
       obtain rfl := osi h
       exact fend ⟨[B false], ⟨rot (by kernel_rfl), trivial⟩, rfl⟩ nll
      ·replace h := Qau hb17 h
       rcases bft ((decide (x7.P ≤ x13.P))) with hb18 | hb18
       ·replace h := Qat hb18 h
        refine wxd tbk [(2, rp [(.tmp 50, (B ((decide (y3 > 0)))))] (B true)), (8, rp [(.tmp 51, B true), (.tmp 54, (Qjl p0)), (.tmp 56, (I (w64 (y3 - 1))))] (.dptr (Qa6 (x13)) 0)), (12, rp [(.tmp 51, B true), (.tmp 60, (B ((decide (x7.T ≤ x13.T)))))] (B false)), (18, rp [(.tmp 61, B false), (.tmp 64, (Qjl p0)), (.tmp 66, (I (w64 (y3 - 1))))] (.dptr (Qa6 (x13)) 0)), (23, rp [(.tmp 51, B true), (.tmp 71, (B ((decide (x7.P ≤ x13.P)))))] (B true))] ⟨asb hb12 (amv rfl), ag_ (aid rfl Tryz.underlying23 Ql3 rfl rfl hi15 (mgt Qa6 hj16) rfl), asb hb17 (ag_ (amv rfl)), ag_ (aid rfl Tryz.underlying23 Ql3 rfl rfl hi15 (mgt Qa6 hj16) rfl), asb hb18 (ag_ (amv rfl)), trivial⟩ ?_
        refine Qcy (by kernel_rfl) ?_
        refine wx tbk [] trivial ?_
        refine Qaa ?_
        refine Qa3 ?_
        refine Qan ?_
        refine Qan ?_
        refine Qa3 ?_
        refine Qan ?_
        obtain rfl := osi h
        exact fend ⟨[B false], ⟨rot (by kernel_rfl), trivial⟩, rfl⟩ nll
       ·replace h := Qau hb18 h
        rcases bft ((decide (x7.Liquid ≤ x13.Liquid))) with hb19 | hb19
        ·replace h := Qat hb19 h
         refine wxd tbk [(2, rp [(.tmp 50, (B ((decide (y3 > 0)))))] (B true)), (8, rp [(.tmp 51, B true), (.tmp 54, (Qjl p0)), (.tmp 56, (I (w64 (y3 - 1))))] (.dptr (Qa6 (x13)) 0)), (12, rp [(.tmp 51, B true), (.tmp 60, (B ((decide (x7.T ≤ x13.T)))))] (B false)), (18, rp [(.tmp 61, B false), (.tmp 64, (Qjl p0)), (.tmp 66, (I (w64 (y3 - 1))))] (.dptr (Qa6 (x13)) 0)), (23, rp [(.tmp 51, B true), (.tmp 71, (B ((decide (x7.P ≤ x13.P)))))] (B false)), (29, rp [(.tmp 72, B false), (.tmp 75, (Qjl p0)), (.tmp 77, (I (w64 (y3 - 1))))] (.dptr (Qa6 (x13)) 0)), (34, rp [(.tmp 51, B true), (.tmp 82, (B ((decide (x7.Liquid ≤ x13.Liquid)))))] (B true))] ⟨asb hb12 (amv rfl), ag_ (aid rfl Tryz.underlying23 Ql3 rfl rfl hi15 (mgt Qa6 hj16) rfl), asb hb17 (ag_ (amv rfl)), ag_ (aid rfl Tryz.underlying23 Ql3 rfl rfl hi15 (mgt Qa6 hj16) rfl), asb hb18 (ag_ (amv rfl)), ag_ (aid rfl Tryz.underlying23 Ql3 rfl rfl hi15 (mgt Qa6 hj16) rfl), asb hb19 (ag_ (amv rfl)), trivial⟩ ?_
         refine Qcy (by kernel_rfl) ?_
         refine wx tbk [] trivial ?_
         refine Qaa ?_
         refine Qa3 ?_
         refine Qan ?_
         refine Qan ?_
         refine Qa3 ?_
         refine Qan ?_
         obtain rfl := osi h
         exact fend ⟨[B false], ⟨rot (by kernel_rfl), trivial⟩, rfl⟩ nll
        ·replace h := Qau hb19 h
         refine wxd tbk [(2, rp [(.tmp 50, (B ((decide (y3 > 0)))))] (B true)), (8, rp [(.tmp 51, B true), (.tmp 54, (Qjl p0)), (.tmp 56, (I (w64 (y3 - 1))))] (.dptr (Qa6 (x13)) 0)), (12, rp [(.tmp 51, B true), (.tmp 60, (B ((decide (x7.T ≤ x13.T)))))] (B false)), (18, rp [(.tmp 61, B false), (.tmp 64, (Qjl p0)), (.tmp 66, (I (w64 (y3 - 1))))] (.dptr (Qa6 (x13)) 0)), (23, rp [(.tmp 51, B true), (.tmp 71, (B ((decide (x7.P ≤ x13.P)))))] (B false)), (29, rp [(.tmp 72, B false), (.tmp 75, (Qjl p0)), (.tmp 77, (I (w64 (y3 - 1))))] (.dptr (Qa6 (x13)) 0)), (34, rp [(.tmp 51, B true), (.tmp 82, (B ((decide (x7.Liquid ≤ x13.Liquid)))))] (B false)), (40, rp [(.tmp 83, B false), (.tmp 86, (Qjl p0)), (.tmp 88, (I (w64 (y3 - 1))))] (.dptr (Qa6 (x13)) 0))] ⟨asb hb12 (amv rfl), ag_ (aid rfl Tryz.underlying23 Ql3 rfl rfl hi15 (mgt Qa6 hj16) rfl), asb hb17 (ag_ (amv rfl)), ag_ (aid rfl Tryz.underlying23 Ql3 rfl rfl hi15 (mgt Qa6 hj16) rfl), asb hb18 (ag_ (amv rfl)), ag_ (aid rfl Tryz.underlying23 Ql3 rfl rfl hi15 (mgt Qa6 hj16) rfl), asb hb19 (ag_ (amv rfl)), ag_ (aid rfl Tryz.underlying23 Ql3 rfl rfl hi15 (mgt Qa6 hj16) rfl), trivial⟩ ?_
         rcases bft ((decide (x7.Silica < x13.Silica))) with hc20 | hc20
         ·replace h := Qat hc20 h
          refine wft hc20 (by kernel_rfl) ?_
          refine wx tbk [] trivial ?_
          refine Qaa ?_
          refine Qa3 ?_
          refine Qan ?_
          refine Qan ?_
          refine Qa3 ?_
          refine Qan ?_
          obtain rfl := osi h
          exact fend ⟨[B false], ⟨rot (by kernel_rfl), trivial⟩, rfl⟩ nll
         ·replace h := Qau hc20 h
          refine wfn hc20 (by kernel_rfl) ?_
          refine Qam ?_
          refine bln ?_
          refine thn ?_
          refine wx1 tbk [] trivial ?_
          refine thn ?_
          exact arm (mto (n := 103) [(0, (Qjl p0)), (3, (I (w64 (y3 + 1))))] [] [] hφ0 (pc (.rn (.plain _ (nld Qa9 _))) (pc rwl pn)) qn) (ih (w64 (y3 + 1)) h)
     ·replace h := Qau hb12 h
      refine wxd tbk [(2, rp [(.tmp 50, (B ((decide (y3 > 0)))))] (B false))] ⟨asb hb12 (amv rfl), trivial⟩ ?_
      refine Qfa (by kernel_rfl) ?_
      refine Qam ?_
      refine bln ?_
      refine thn ?_
      refine wx1 tbk [] trivial ?_
      refine thn ?_
      exact arm (mto (n := 103) [(0, (Qjl p0)), (3, (I (w64 (y3 + 1))))] [] [] hφ0 (pc (.rn (.plain _ (nld Qa9 _))) (pc rwl pn)) qn) (ih (w64 (y3 + 1)) h)
    ·skip
     obtain ⟨x22, hf21, h⟩ := bno h
     rcases bft ((!x22)) with hb23 | hb23
     ·replace h := Qat hb23 h
      refine wx tbk [(2, rp [fu 40, (.tmp 16, I x7.T), ci 0, ci 400] (B x22)), (4, rp [(.tmp 18, (B ((!x22))))] (B true))] ⟨apc (first := []) (cap := []) (vs := [I x7.T, I 0, I 400]) rfl Qb5 (Qar N x7.T 0 400 _ hf21) rfl rfl (nlc nll (nlc nll (nlc nll nl0))) nll rfl, asb hb23 (amv rfl), trivial⟩ ?_
      refine Qcy (by kernel_rfl) ?_
      refine wx tbk [] trivial ?_
      refine Qaa ?_
      refine Qan ?_
      refine Qa3 ?_
      refine Qan ?_
      refine Qan ?_
      refine Qa3 ?_
      refine Qan ?_
      obtain rfl := osi h
      exact fend ⟨[B false], ⟨rot (by kernel_rfl), trivial⟩, rfl⟩ nll
     ·replace h := Qau hb23 h
      obtain ⟨x25, hf24, h⟩ := bno h
      rcases bft ((!x25)) with hb26 | hb26
      ·replace h := Qat hb26 h
       refine wx tbk [(2, rp [fu 40, (.tmp 16, I x7.T), ci 0, ci 400] (B x22)), (4, rp [(.tmp 18, (B ((!x22))))] (B false)), (7, rp [(.tmp 19, B false), fu 40, (.tmp 21, I x7.P), ci 1, ci 10000] (B x25)), (10, rp [(.tmp 24, (B ((!x25))))] (B true))] ⟨apc (first := []) (cap := []) (vs := [I x7.T, I 0, I 400]) rfl Qb5 (Qar N x7.T 0 400 _ hf21) rfl rfl (nlc nll (nlc nll (nlc nll nl0))) nll rfl, asb hb23 (amv rfl), ag_ (apc (first := []) (cap := []) (vs := [I x7.P, I 1, I 10000]) rfl Qb5 (Qar N x7.P 1 10000 _ hf24) rfl rfl (nlc nll (nlc nll (nlc nll nl0))) nll rfl), asb hb26 (amv rfl), trivial⟩ ?_
       refine Qcy (by kernel_rfl) ?_
       refine wx tbk [] trivial ?_
       refine Qaa ?_
       refine Qan ?_
       refine Qa3 ?_
       refine Qan ?_
       refine Qan ?_
       refine Qa3 ?_
       refine Qan ?_
       obtain rfl := osi h
       exact fend ⟨[B false], ⟨rot (by kernel_rfl), trivial⟩, rfl⟩ nll
      ·replace h := Qau hb26 h
       obtain ⟨x28, hf27, h⟩ := bno h
       rcases bft ((!x28)) with hb29 | hb29
       ·replace h := Qat hb29 h
        refine wx tbk [(2, rp [fu 40, (.tmp 16, I x7.T), ci 0, ci 400] (B x22)), (4, rp [(.tmp 18, (B ((!x22))))] (B false)), (7, rp [(.tmp 19, B false), fu 40, (.tmp 21, I x7.P), ci 1, ci 10000] (B x25)), (10, rp [(.tmp 24, (B ((!x25))))] (B false)), (13, rp [(.tmp 25, B false), fu 40, (.tmp 27, I x7.Liquid), ci 0, ci 4000] (B x28)), (16, rp [(.tmp 30, (B ((!x28))))] (B true))] ⟨apc (first := []) (cap := []) (vs := [I x7.T, I 0, I 400]) rfl Qb5 (Qar N x7.T 0 400 _ hf21) rfl rfl (nlc nll (nlc nll (nlc nll nl0))) nll rfl, asb hb23 (amv rfl), ag_ (apc (first := []) (cap := []) (vs := [I x7.P, I 1, I 10000]) rfl Qb5 (Qar N x7.P 1 10000 _ hf24) rfl rfl (nlc nll (nlc nll (nlc nll nl0))) nll rfl), asb hb26 (amv rfl), ag_ (apc (first := []) (cap := []) (vs := [I x7.Liquid, I 0, I 4000]) rfl Qb5 (Qar N x7.Liquid 0 4000 _ hf27) rfl rfl (nlc nll (nlc nll (nlc nll nl0))) nll rfl), asb hb29 (amv rfl), trivial⟩ ?_
        refine Qcy (by kernel_rfl) ?_
        refine wx tbk [] trivial ?_
        refine Qaa ?_
        refine Qan ?_
        refine Qa3 ?_
        refine Qan ?_
        refine Qan ?_
        refine Qa3 ?_
        refine Qan ?_
        obtain rfl := osi h
        exact fend ⟨[B false], ⟨rot (by kernel_rfl), trivial⟩, rfl⟩ nll
       ·replace h := Qau hb29 h
        obtain ⟨x31, hf30, h⟩ := bno h
        rcases bft ((!x31)) with hb32 | hb32
        ·replace h := Qat hb32 h
         refine wx tbk [(2, rp [fu 40, (.tmp 16, I x7.T), ci 0, ci 400] (B x22)), (4, rp [(.tmp 18, (B ((!x22))))] (B false)), (7, rp [(.tmp 19, B false), fu 40, (.tmp 21, I x7.P), ci 1, ci 10000] (B x25)), (10, rp [(.tmp 24, (B ((!x25))))] (B false)), (13, rp [(.tmp 25, B false), fu 40, (.tmp 27, I x7.Liquid), ci 0, ci 4000] (B x28)), (16, rp [(.tmp 30, (B ((!x28))))] (B false)), (19, rp [(.tmp 31, B false), fu 40, (.tmp 33, I x7.Silica), ci 0, ci 2000] (B x31)), (22, rp [(.tmp 36, (B ((!x31))))] (B true))] ⟨apc (first := []) (cap := []) (vs := [I x7.T, I 0, I 400]) rfl Qb5 (Qar N x7.T 0 400 _ hf21) rfl rfl (nlc nll (nlc nll (nlc nll nl0))) nll rfl, asb hb23 (amv rfl), ag_ (apc (first := []) (cap := []) (vs := [I x7.P, I 1, I 10000]) rfl Qb5 (Qar N x7.P 1 10000 _ hf24) rfl rfl (nlc nll (nlc nll (nlc nll nl0))) nll rfl), asb hb26 (amv rfl), ag_ (apc (first := []) (cap := []) (vs := [I x7.Liquid, I 0, I 4000]) rfl Qb5 (Qar N x7.Liquid 0 4000 _ hf27) rfl rfl (nlc nll (nlc nll (nlc nll nl0))) nll rfl), asb hb29 (amv rfl), ag_ (apc (first := []) (cap := []) (vs := [I x7.Silica, I 0, I 2000]) rfl Qb5 (Qar N x7.Silica 0 2000 _ hf30) rfl rfl (nlc nll (nlc nll (nlc nll nl0))) nll rfl), asb hb32 (amv rfl), trivial⟩ ?_
         refine Qcy (by kernel_rfl) ?_
         refine wx tbk [] trivial ?_
         refine Qaa ?_
         refine Qan ?_
         refine Qa3 ?_
         refine Qan ?_
         refine Qan ?_
         refine Qa3 ?_
         refine Qan ?_
         obtain rfl := osi h
         exact fend ⟨[B false], ⟨rot (by kernel_rfl), trivial⟩, rfl⟩ nll
        ·replace h := Qau hb32 h
         rcases bft ((decide (x7.Vapour ≤ x7.Liquid))) with hb33 | hb33
         ·replace h := Qat hb33 h
          refine wx tbk [(2, rp [fu 40, (.tmp 16, I x7.T), ci 0, ci 400] (B x22)), (4, rp [(.tmp 18, (B ((!x22))))] (B false)), (7, rp [(.tmp 19, B false), fu 40, (.tmp 21, I x7.P), ci 1, ci 10000] (B x25)), (10, rp [(.tmp 24, (B ((!x25))))] (B false)), (13, rp [(.tmp 25, B false), fu 40, (.tmp 27, I x7.Liquid), ci 0, ci 4000] (B x28)), (16, rp [(.tmp 30, (B ((!x28))))] (B false)), (19, rp [(.tmp 31, B false), fu 40, (.tmp 33, I x7.Silica), ci 0, ci 2000] (B x31)), (22, rp [(.tmp 36, (B ((!x31))))] (B false)), (29, rp [(.tmp 43, (B ((decide (x7.Vapour ≤ x7.Liquid)))))] (B true))] ⟨apc (first := []) (cap := []) (vs := [I x7.T, I 0, I 400]) rfl Qb5 (Qar N x7.T 0 400 _ hf21) rfl rfl (nlc nll (nlc nll (nlc nll nl0))) nll rfl, asb hb23 (amv rfl), ag_ (apc (first := []) (cap := []) (vs := [I x7.P, I 1, I 10000]) rfl Qb5 (Qar N x7.P 1 10000 _ hf24) rfl rfl (nlc nll (nlc nll (nlc nll nl0))) nll rfl), asb hb26 (amv rfl), ag_ (apc (first := []) (cap := []) (vs := [I x7.Liquid, I 0, I 4000]) rfl Qb5 (Qar N x7.Liquid 0 4000 _ hf27) rfl rfl (nlc nll (nlc nll (nlc nll nl0))) nll rfl), asb hb29 (amv rfl), ag_ (apc (first := []) (cap := []) (vs := [I x7.Silica, I 0, I 2000]) rfl Qb5 (Qar N x7.Silica 0 2000 _ hf30) rfl rfl (nlc nll (nlc nll (nlc nll nl0))) nll rfl), asb hb32 (amv rfl), asb hb33 (amv rfl), trivial⟩ ?_
          refine Qcy (by kernel_rfl) ?_
          refine wx tbk [] trivial ?_
          refine Qaa ?_
          refine Qan ?_
          refine Qa3 ?_
          refine Qan ?_
          refine Qan ?_
          refine Qa3 ?_
          refine Qan ?_
          obtain rfl := osi h
          exact fend ⟨[B false], ⟨rot (by kernel_rfl), trivial⟩, rfl⟩ nll
         ·replace h := Qau hb33 h
          refine wx tbk [(2, rp [fu 40, (.tmp 16, I x7.T), ci 0, ci 400] (B x22)), (4, rp [(.tmp 18, (B ((!x22))))] (B false)), (7, rp [(.tmp 19, B false), fu 40, (.tmp 21, I x7.P), ci 1, ci 10000] (B x25)), (10, rp [(.tmp 24, (B ((!x25))))] (B false)), (13, rp [(.tmp 25, B false), fu 40, (.tmp 27, I x7.Liquid), ci 0, ci 4000] (B x28)), (16, rp [(.tmp 30, (B ((!x28))))] (B false)), (19, rp [(.tmp 31, B false), fu 40, (.tmp 33, I x7.Silica), ci 0, ci 2000] (B x31)), (22, rp [(.tmp 36, (B ((!x31))))] (B false)), (29, rp [(.tmp 43, (B ((decide (x7.Vapour ≤ x7.Liquid)))))] (B false))] ⟨apc (first := []) (cap := []) (vs := [I x7.T, I 0, I 400]) rfl Qb5 (Qar N x7.T 0 400 _ hf21) rfl rfl (nlc nll (nlc nll (nlc nll nl0))) nll rfl, asb hb23 (amv rfl), ag_ (apc (first := []) (cap := []) (vs := [I x7.P, I 1, I 10000]) rfl Qb5 (Qar N x7.P 1 10000 _ hf24) rfl rfl (nlc nll (nlc nll (nlc nll nl0))) nll rfl), asb hb26 (amv rfl), ag_ (apc (first := []) (cap := []) (vs := [I x7.Liquid, I 0, I 4000]) rfl Qb5 (Qar N x7.Liquid 0 4000 _ hf27) rfl rfl (nlc nll (nlc nll (nlc nll nl0))) nll rfl), asb hb29 (amv rfl), ag_ (apc (first := []) (cap := []) (vs := [I x7.Silica, I 0, I 2000]) rfl Qb5 (Qar N x7.Silica 0 2000 _ hf30) rfl rfl (nlc nll (nlc nll (nlc nll nl0))) nll rfl), asb hb32 (amv rfl), asb hb33 (amv rfl), trivial⟩ ?_
          rcases bft ((decide (x7.Vapour > 4000))) with hc34 | hc34
          ·replace h := Qat hc34 h
           refine wft hc34 (by kernel_rfl) ?_
           refine wx tbk [] trivial ?_
           refine Qaa ?_
           refine Qan ?_
           refine Qa3 ?_
           refine Qan ?_
           refine Qan ?_
           refine Qa3 ?_
           refine Qan ?_
           obtain rfl := osi h
           exact fend ⟨[B false], ⟨rot (by kernel_rfl), trivial⟩, rfl⟩ nll
          ·replace h := Qau hc34 h
           refine wfn hc34 (by kernel_rfl) ?_
           refine Qam ?_
           refine thn ?_
           exact ⟨(), h, (mto (n := 103) [(0, (Qjl p0)), (3, I y3), (4, .ref 0 5 0 0)] [0] [(Q7v x7)] hφ0 (pc (.rn (.plain _ (nld Qa9 _))) (pc rwl (pc (.rn (rqr rfl)) pn))) (qc (spb (lc rwl (lc rwl (lc rwl (lc rwl (lc rwl ln)))))) qn))⟩
   ·replace h := Qau hc6 h
    refine wfn hc6 (by kernel_rfl) ?_
    refine Qbr ?_
    refine Qay ?_
    refine Qay ?_
    refine Qbq rfl ?_
    refine thn ?_
    exact ⟨(), h, (mto (n := 103) [(0, (Qjl p0))] [] [] hφ0 (pc (.rn (.plain _ (nld Qa9 _))) pn) qn)⟩
def Qdo (N : Nat) (p0 : GUnit) (k1 : Unit → Option Bool) : Nat → Int → Option Bool
  | 0, _ => none
  | n8 + 1, y6 =>
    bif (decide (y6 < (p0.Parts.length : Int))) then
     (getI p0.Parts y6).bind fun x10 =>
     (Qdk N x10.Width 1 100000).bind fun x15 =>
     bif (!x15) then
      some false
     else
      (Qdk N x10.Gain 0 1000).bind fun x18 =>
      bif (!x18) then
       some false
      else
       bif (decide (y6 > 0)) then
        (getI p0.Parts (w64 (y6 - 1))).bind fun x21 =>
        bif (decide (x10.Gain > x21.Gain)) then
         some false
        else
         Qdo N p0 k1 n8 (w64 (y6 + 1))
       else
        Qdo N p0 k1 n8 (w64 (y6 + 1))
    else
     k1 ()
def Qi0 (N : Nat) (p0 : GUnit) : Option Bool :=
  Qc5 (fun _ =>
    (Qdk N p0.Inlet 0 5).bind fun x3 =>
    bif x3 then
     bif (decide ((p0.Parts.length : Int) ≥ 1)) then
      some (decide ((p0.Parts.length : Int) ≤ 8))
     else
      some false
    else
     some false) fun k1 : Unit → Option Bool =>
  Qdo N p0 k1 N 0
def Qwi (p0 : GUnit) : AV := .dat 2 ((p0.Parts : List GPart).map Qba)
def Qwh (p0 : GUnit) : Slot := .own 2 [[(I (p0.Inlet)), (Qwi p0)]]
theorem Qhz (N : Nat) (p0 : GUnit) (r : Bool) (h : Qi0 N p0 = some r) : Spec Tryz.prog 41 [(.agg (Qck p0))] [] (B r) [] := by
  refine Qac Tryz.func41 rfl 0 (nle rfl) (fun X φ0 w0 hφ0 hd0 => ?_)
  unfold Qi0 at h
  refine wx tbk [] trivial ?_
  obtain ⟨k1, hk_k1, h⟩ := jko h
  refine wjn (τ := Unit) (fun t => k1 t = some r) (fun _ => ⟨mk 58 [(1, .ref 0 2 0 0)], [(Qwh p0)]⟩) (fun t h => ?_) ?_
  ·subst hk_k1
   obtain ⟨x3, hf2, h⟩ := bno h
   rcases bft (x3) with hb4 | hb4
   ·replace h := Qat hb4 h
    rcases bft ((decide ((p0.Parts.length : Int) ≥ 1))) with hb5 | hb5
    ·replace h := Qat hb5 h
     refine wx tbk [(2, rp [fu 40, (.tmp 44, I p0.Inlet), ci 0, ci 5] (B x3)), (3, rp [(.tmp 45, B x3)] (B true)), (6, rp [(.tmp 46, B true), (.tmp 48, (Qwi p0))] (I ((p0.Parts.length : Int)))), (9, rp [(.tmp 51, (B ((decide ((p0.Parts.length : Int) ≥ 1)))))] (B true)), (12, rp [(.tmp 52, B true), (.tmp 54, (Qwi p0))] (I ((p0.Parts.length : Int))))] ⟨apc (first := []) (cap := []) (vs := [I p0.Inlet, I 0, I 5]) rfl Qb5 (Qar N p0.Inlet 0 5 _ hf2) rfl rfl (nlc nll (nlc nll (nlc nll nl0))) nll rfl, asb hb4 (amv rfl), ag_ (alm (c := Qba) (l := p0.Parts) (aln rfl Tryz.underlying24 rfl)), asb hb5 (amv rfl), ag_ (alm (c := Qba) (l := p0.Parts) (aln rfl Tryz.underlying24 rfl)), trivial⟩ ?_
     refine Qaa ?_
     obtain rfl := osi h
     exact fend ⟨[(B ((decide ((p0.Parts.length : Int) ≤ 8))))], ⟨rot (by kernel_rfl), trivial⟩, rfl⟩ nll
    ·replace h := Qau hb5 h
     refine wx tbk [(2, rp [fu 40, (.tmp 44, I p0.Inlet), ci 0, ci 5] (B x3)), (3, rp [(.tmp 45, B x3)] (B true)), (6, rp [(.tmp 46, B true), (.tmp 48, (Qwi p0))] (I ((p0.Parts.length : Int)))), (9, rp [(.tmp 51, (B ((decide ((p0.Parts.length : Int) ≥ 1)))))] (B false))] ⟨apc (first := []) (cap := []) (vs := [I p0.Inlet, I 0, I 5]) rfl Qb5 (Qar N p0.Inlet 0 5 _ hf2) rfl rfl (nlc nll (nlc nll (nlc nll nl0))) nll rfl, asb hb4 (amv rfl), ag_ (alm (c := Qba) (l := p0.Parts) (aln rfl Tryz.underlying24 rfl)), asb hb5 (amv rfl), trivial⟩ ?_
     refine Qaa ?_
     obtain rfl := osi h
     exact fend ⟨[B false], ⟨rot (by kernel_rfl), trivial⟩, rfl⟩ nll
   ·replace h := Qau hb4 h
    refine wx tbk [(2, rp [fu 40, (.tmp 44, I p0.Inlet), ci 0, ci 5] (B x3)), (3, rp [(.tmp 45, B x3)] (B false))] ⟨apc (first := []) (cap := []) (vs := [I p0.Inlet, I 0, I 5]) rfl Qb5 (Qar N p0.Inlet 0 5 _ hf2) rfl rfl (nlc nll (nlc nll (nlc nll nl0))) nll rfl, asb hb4 (amv rfl), trivial⟩ ?_
    refine Qaa ?_
    obtain rfl := osi h
    exact fend ⟨[B false], ⟨rot (by kernel_rfl), trivial⟩, rfl⟩ nll
  ·skip
   refine wx tbk [] trivial ?_
   refine Qaj ?_
   refine wmr (mto (n := 58) (l' := [(1, .ref 0 2 0 0), (3, I 0)]) (own' := [(Qwh p0)]) [(1, .ref 0 2 0 0), (3, I 0)] [0] [(Qwh p0)] hφ0 (pc (.rn (rqr rfl)) (pc rwl pn)) (qc (spb (lc rwl (lc (.rn (.plain _ (nld Qaq _))) ln))) qn)) ?_
   refine Qcl (τ := Int) (fun n t => Qdo N p0 k1 n t = some r) (fun y6 => ⟨mk 58 [(1, .ref 0 2 0 0), (3, I y6)], [(Qwh p0)]⟩) (fun t h => by rw [Qdo] at h; cases h) (fun n8 ih y6 h => ?_) N (0) h
   rw [Qdo] at h
   skip
   refine wsq ?_
   refine wx tbk [(3, rp [(.tmp 7, (Qwi p0))] (I ((p0.Parts.length : Int))))] ⟨alm (c := Qba) (l := p0.Parts) (aln rfl Tryz.underlying24 rfl), trivial⟩ ?_
   rcases bft ((decide (y6 < (p0.Parts.length : Int)))) with hc9 | hc9
   ·replace h := Qat hc9 h
    refine wft hc9 (by kernel_rfl) ?_
    refine Qam ?_
    refine thn ?_
    refine wsq ?_
    refine Qaj ?_
    obtain ⟨x10, hg11, h⟩ := bno h
    obtain ⟨hi12, hj13⟩ := gsm hg11
    refine wx tbk [(3, rp [(.tmp 13, (Qwi p0)), (.tmp 14, I y6)] (.dptr (Qba (x10)) 0))] ⟨aid rfl Tryz.underlying24 Q24 rfl rfl hi12 (mgt Qba hj13) rfl, trivial⟩ ?_
    obtain ⟨x15, hf14, h⟩ := bno h
    rcases bft ((!x15)) with hb16 | hb16
    ·replace h := Qat hb16 h
     refine wxd tbk [(2, rp [fu 40, (.tmp 18, I x10.Width), ci 1, ci 100000] (B x15)), (4, rp [(.tmp 20, (B ((!x15))))] (B true))] ⟨apc (first := []) (cap := []) (vs := [I x10.Width, I 1, I 100000]) rfl Qb5 (Qar N x10.Width 1 100000 _ hf14) rfl rfl (nlc nll (nlc nll (nlc nll nl0))) nll rfl, asb hb16 (amv rfl), trivial⟩ ?_
     refine Qcy (by kernel_rfl) ?_
     refine wx tbk [] trivial ?_
     refine Qaa ?_
     refine Qa3 ?_
     refine Qan ?_
     refine Qan ?_
     refine Qa3 ?_
     refine Qan ?_
     obtain rfl := osi h
     exact fend ⟨[B false], ⟨rot (by kernel_rfl), trivial⟩, rfl⟩ nll
    ·replace h := Qau hb16 h
     obtain ⟨x18, hf17, h⟩ := bno h
     rcases bft ((!x18)) with hb19 | hb19
     ·replace h := Qat hb19 h
      refine wxd tbk [(2, rp [fu 40, (.tmp 18, I x10.Width), ci 1, ci 100000] (B x15)), (4, rp [(.tmp 20, (B ((!x15))))] (B false)), (7, rp [(.tmp 21, B false), fu 40, (.tmp 23, I x10.Gain), ci 0, ci 1000] (B x18)), (10, rp [(.tmp 26, (B ((!x18))))] (B true))] ⟨apc (first := []) (cap := []) (vs := [I x10.Width, I 1, I 100000]) rfl Qb5 (Qar N x10.Width 1 100000 _ hf14) rfl rfl (nlc nll (nlc nll (nlc nll nl0))) nll rfl, asb hb16 (amv rfl), ag_ (apc (first := []) (cap := []) (vs := [I x10.Gain, I 0, I 1000]) rfl Qb5 (Qar N x10.Gain 0 1000 _ hf17) rfl rfl (nlc nll (nlc nll (nlc nll nl0))) nll rfl), asb hb19 (amv rfl), trivial⟩ ?_
      refine Qcy (by kernel_rfl) ?_
      refine wx tbk [] trivial ?_
      refine Qaa ?_
      refine Qa3 ?_
      refine Qan ?_
      refine Qan ?_
      refine Qa3 ?_
      refine Qan ?_
      obtain rfl := osi h
      exact fend ⟨[B false], ⟨rot (by kernel_rfl), trivial⟩, rfl⟩ nll
     ·replace h := Qau hb19 h
      rcases bft ((decide (y6 > 0))) with hb20 | hb20
      ·replace h := Qat hb20 h
       obtain ⟨x21, hg22, h⟩ := bno h
       obtain ⟨hi23, hj24⟩ := gsm hg22
       refine wxd tbk [(2, rp [fu 40, (.tmp 18, I x10.Width), ci 1, ci 100000] (B x15)), (4, rp [(.tmp 20, (B ((!x15))))] (B false)), (7, rp [(.tmp 21, B false), fu 40, (.tmp 23, I x10.Gain), ci 0, ci 1000] (B x18)), (10, rp [(.tmp 26, (B ((!x18))))] (B false)), (13, rp [(.tmp 27, B false), (.tmp 29, (B ((decide (y6 > 0)))))] (B true)), (20, rp [(.tmp 30, B true), (.tmp 34, (Qwi p0)), (.tmp 36, (I (w64 (y6 - 1))))] (.dptr (Qba (x21)) 0))] ⟨apc (first := []) (cap := []) (vs := [I x10.Width, I 1, I 100000]) rfl Qb5 (Qar N x10.Width 1 100000 _ hf14) rfl rfl (nlc nll (nlc nll (nlc nll nl0))) nll rfl, asb hb16 (amv rfl), ag_ (apc (first := []) (cap := []) (vs := [I x10.Gain, I 0, I 1000]) rfl Qb5 (Qar N x10.Gain 0 1000 _ hf17) rfl rfl (nlc nll (nlc nll (nlc nll nl0))) nll rfl), asb hb19 (amv rfl), asb hb20 (ag_ (amv rfl)), ag_ (aid rfl Tryz.underlying24 Q24 rfl rfl hi23 (mgt Qba hj24) rfl), trivial⟩ ?_
       rcases bft ((decide (x10.Gain > x21.Gain))) with hc25 | hc25
       ·replace h := Qat hc25 h
        refine wft hc25 (by kernel_rfl) ?_
        refine wx tbk [] trivial ?_
        refine Qaa ?_
        refine Qa3 ?_
        refine Qan ?_
        refine Qan ?_
        refine Qa3 ?_
        refine Qan ?_
        obtain rfl := osi h
        exact fend ⟨[B false], ⟨rot (by kernel_rfl), trivial⟩, rfl⟩ nll
       ·replace h := Qau hc25 h
        refine wfn hc25 (by kernel_rfl) ?_
        refine Qam ?_
        refine bln ?_
        refine thn ?_
        refine wx1 tbk [] trivial ?_
        refine thn ?_
        exact arm (mto (n := 58) [(1, .ref 0 2 0 0), (3, (I (w64 (y6 + 1))))] [0] [(Qwh p0)] hφ0 (pc (.rn (rqr rfl)) (pc rwl pn)) (qc (spb (lc rwl (lc (.rn (.plain _ (nld Qaq _))) ln))) qn)) (ih (w64 (y6 + 1)) h)
      ·replace h := Qau hb20 h
       refine wxd tbk [(2, rp [fu 40, (.tmp 18, I x10.Width), ci 1, ci 100000] (B x15)), (4, rp [(.tmp 20, (B ((!x15))))] (B false)), (7, rp [(.tmp 21, B false), fu 40, (.tmp 23, I x10.Gain), ci 0, ci 1000] (B x18)), (10, rp [(.tmp 26, (B ((!x18))))] (B false)), (13, rp [(.tmp 27, B false), (.tmp 29, (B ((decide (y6 > 0)))))] (B false))] ⟨apc (first := []) (cap := []) (vs := [I x10.Width, I 1, I 100000]) rfl Qb5 (Qar N x10.Width 1 100000 _ hf14) rfl rfl (nlc nll (nlc nll (nlc nll nl0))) nll rfl, asb hb16 (amv rfl), ag_ (apc (first := []) (cap := []) (vs := [I x10.Gain, I 0, I 1000]) rfl Qb5 (Qar N x10.Gain 0 1000 _ hf17) rfl rfl (nlc nll (nlc nll (nlc nll nl0))) nll rfl), asb hb19 (amv rfl), asb hb20 (ag_ (amv rfl)), trivial⟩ ?_
       refine Qfa (by kernel_rfl) ?_
       refine Qam ?_
       refine bln ?_
       refine thn ?_
       refine wx1 tbk [] trivial ?_
       refine thn ?_
       exact arm (mto (n := 58) [(1, .ref 0 2 0 0), (3, (I (w64 (y6 + 1))))] [0] [(Qwh p0)] hφ0 (pc (.rn (rqr rfl)) (pc rwl pn)) (qc (spb (lc rwl (lc (.rn (.plain _ (nld Qaq _))) ln))) qn)) (ih (w64 (y6 + 1)) h)
   ·replace h := Qau hc9 h
    refine wfn hc9 (by kernel_rfl) ?_
    refine Qbr ?_
    refine Qay ?_
    refine Qay ?_
    refine Qbq rfl ?_
    refine thn ?_
    exact ⟨(), h, (mto (n := 58) [(1, .ref 0 2 0 0)] [0] [(Qwh p0)] hφ0 (pc (.rn (rqr rfl)) pn) (qc (spb (lc rwl (lc (.rn (.plain _ (nld Qaq _))) ln))) qn))⟩
def Qgd (N : Nat) (p0 : GLine) : Option Bool :=
  (Qi1 N p0.Table).bind fun x2 =>
  bif x2 then
   (Qdk N p0.Level 0 (w64 ((p0.Table.length : Int) - 1))).bind fun x5 =>
   bif x5 then
    (Qi0 N (⟨p0.Unit.Inlet, p0.Unit.Parts⟩ : GUnit)).bind fun x8 =>
    bif x8 then
     (Qdk N p0.Most 0 1000000000).bind fun x11 =>
     bif x11 then
      (Qdk N p0.Target 0 4000).bind fun x14 =>
      bif x14 then
       (Qfz N (⟨p0.Cycle.Out, p0.Cycle.Yield, p0.Cycle.Most⟩ : GCycle)).bind fun x17 =>
       some x17
      else
       some false
     else
      some false
    else
     some false
   else
    some false
  else
   some false
def Qlo (p0 : GLine) : AV := .dat 5 ((p0.Table : List GRow).map Qa6)
def Zet (p0 : GLine) : AV := .dat 2 ((p0.Unit.Parts : List GPart).map Qba)
def Qua (p0 : GLine) : AV := .agg [(I (p0.Unit.Inlet)), (Zet p0)]
def Zde (p0 : GLine) : AV := .agg [(I (p0.Cycle.Out)), (I (p0.Cycle.Yield)), (I (p0.Cycle.Most))]
theorem Qhh (N : Nat) (p0 : GLine) (r : Bool) (h : Qgd N p0 = some r) : Spec Tryz.prog 11 [(.agg (Qn3 p0))] [] (B r) [] := by
  refine Qac Tryz.func11 rfl 0 (nle rfl) (fun X φ0 w0 hφ0 hd0 => ?_)
  unfold Qgd at h
  refine wx tbk [] trivial ?_
  obtain ⟨x2, hf1, h⟩ := bno h
  rcases bft (x2) with hb3 | hb3
  ·replace h := Qat hb3 h
   obtain ⟨x5, hf4, h⟩ := bno h
   rcases bft (x5) with hb6 | hb6
   ·replace h := Qat hb6 h
    obtain ⟨x8, hf7, h⟩ := bno h
    rcases bft (x8) with hb9 | hb9
    ·replace h := Qat hb9 h
     obtain ⟨x11, hf10, h⟩ := bno h
     rcases bft (x11) with hb12 | hb12
     ·replace h := Qat hb12 h
      obtain ⟨x14, hf13, h⟩ := bno h
      rcases bft (x14) with hb15 | hb15
      ·replace h := Qat hb15 h
       obtain ⟨x17, hf16, h⟩ := bno h
       refine wx tbk [(2, rp [fu 39, (.tmp 4, (Qlo p0))] (B x2)), (3, rp [(.tmp 5, B x2)] (B true)), (8, rp [(.tmp 6, B true), (.tmp 10, (Qlo p0))] (I ((p0.Table.length : Int)))), (10, rp [(.tmp 6, B true), fu 40, (.tmp 8, I p0.Level), ci 0, (.tmp 12, (I (w64 ((p0.Table.length : Int) - 1))))] (B x5)), (12, rp [(.tmp 14, B x5)] (B true)), (15, rp [(.tmp 15, B true), fu 41, (.tmp 17, (Qua p0))] (B x8)), (17, rp [(.tmp 19, B x8)] (B true)), (20, rp [(.tmp 20, B true), fu 40, (.tmp 22, I p0.Most), ci 0, ci 1000000000] (B x11)), (22, rp [(.tmp 24, B x11)] (B true)), (25, rp [(.tmp 25, B true), fu 40, (.tmp 27, I p0.Target), ci 0, ci 4000] (B x14)), (27, rp [(.tmp 29, B x14)] (B true)), (30, rp [(.tmp 30, B true), fu 42, (.tmp 32, (Zde p0))] (B x17))] ⟨apc (first := []) (cap := []) (vs := [(Qlo p0)]) rfl Qph (Qf0 N p0.Table _ hf1) rfl rfl (nlc (nld Qa9 _) nl0) nll rfl, asb hb3 (amv rfl), ag_ (alm (c := Qa6) (l := p0.Table) (aln rfl Tryz.underlying23 rfl)), ag_ (apc (first := []) (cap := []) (vs := [I p0.Level, I 0, (I (w64 ((p0.Table.length : Int) - 1)))]) rfl Qb5 (Qar N p0.Level 0 (w64 ((p0.Table.length : Int) - 1)) _ hf4) rfl rfl (nlc nll (nlc nll (nlc nll nl0))) nll rfl), asb hb6 (amv rfl), ag_ (apc (first := []) (cap := []) (vs := [(Qua p0)]) rfl Qts (Qhz N (⟨p0.Unit.Inlet, p0.Unit.Parts⟩ : GUnit) _ hf7) rfl rfl (nlc (NLt.agg _ (nlc nll (nlc (nld Qaq _) nl0))) nl0) nll rfl), asb hb9 (amv rfl), ag_ (apc (first := []) (cap := []) (vs := [I p0.Most, I 0, I 1000000000]) rfl Qb5 (Qar N p0.Most 0 1000000000 _ hf10) rfl rfl (nlc nll (nlc nll (nlc nll nl0))) nll rfl), asb hb12 (amv rfl), ag_ (apc (first := []) (cap := []) (vs := [I p0.Target, I 0, I 4000]) rfl Qb5 (Qar N p0.Target 0 4000 _ hf13) rfl rfl (nlc nll (nlc nll (nlc nll nl0))) nll rfl), asb hb15 (amv rfl), ag_ (apc (first := []) (cap := []) (vs := [(Zde p0)]) rfl Zce (Qnh N (⟨p0.Cycle.Out, p0.Cycle.Yield, p0.Cycle.Most⟩ : GCycle) _ hf16) rfl rfl (nlc (NLt.agg _ (nlc nll (nlc nll (nlc nll nl0)))) nl0) nll rfl), trivial⟩ ?_
       refine Qaa ?_
       obtain rfl := osi h
       exact fend ⟨[B x17], ⟨rot (by kernel_rfl), trivial⟩, rfl⟩ nll
      ·replace h := Qau hb15 h
       refine wx tbk [(2, rp [fu 39, (.tmp 4, (Qlo p0))] (B x2)), (3, rp [(.tmp 5, B x2)] (B true)), (8, rp [(.tmp 6, B true), (.tmp 10, (Qlo p0))] (I ((p0.Table.length : Int)))), (10, rp [(.tmp 6, B true), fu 40, (.tmp 8, I p0.Level), ci 0, (.tmp 12, (I (w64 ((p0.Table.length : Int) - 1))))] (B x5)), (12, rp [(.tmp 14, B x5)] (B true)), (15, rp [(.tmp 15, B true), fu 41, (.tmp 17, (Qua p0))] (B x8)), (17, rp [(.tmp 19, B x8)] (B true)), (20, rp [(.tmp 20, B true), fu 40, (.tmp 22, I p0.Most), ci 0, ci 1000000000] (B x11)), (22, rp [(.tmp 24, B x11)] (B true)), (25, rp [(.tmp 25, B true), fu 40, (.tmp 27, I p0.Target), ci 0, ci 4000] (B x14)), (27, rp [(.tmp 29, B x14)] (B false))] ⟨apc (first := []) (cap := []) (vs := [(Qlo p0)]) rfl Qph (Qf0 N p0.Table _ hf1) rfl rfl (nlc (nld Qa9 _) nl0) nll rfl, asb hb3 (amv rfl), ag_ (alm (c := Qa6) (l := p0.Table) (aln rfl Tryz.underlying23 rfl)), ag_ (apc (first := []) (cap := []) (vs := [I p0.Level, I 0, (I (w64 ((p0.Table.length : Int) - 1)))]) rfl Qb5 (Qar N p0.Level 0 (w64 ((p0.Table.length : Int) - 1)) _ hf4) rfl rfl (nlc nll (nlc nll (nlc nll nl0))) nll rfl), asb hb6 (amv rfl), ag_ (apc (first := []) (cap := []) (vs := [(Qua p0)]) rfl Qts (Qhz N (⟨p0.Unit.Inlet, p0.Unit.Parts⟩ : GUnit) _ hf7) rfl rfl (nlc (NLt.agg _ (nlc nll (nlc (nld Qaq _) nl0))) nl0) nll rfl), asb hb9 (amv rfl), ag_ (apc (first := []) (cap := []) (vs := [I p0.Most, I 0, I 1000000000]) rfl Qb5 (Qar N p0.Most 0 1000000000 _ hf10) rfl rfl (nlc nll (nlc nll (nlc nll nl0))) nll rfl), asb hb12 (amv rfl), ag_ (apc (first := []) (cap := []) (vs := [I p0.Target, I 0, I 4000]) rfl Qb5 (Qar N p0.Target 0 4000 _ hf13) rfl rfl (nlc nll (nlc nll (nlc nll nl0))) nll rfl), asb hb15 (amv rfl), trivial⟩ ?_
       refine Qaa ?_
       obtain rfl := osi h
       exact fend ⟨[B false], ⟨rot (by kernel_rfl), trivial⟩, rfl⟩ nll
     ·replace h := Qau hb12 h
      refine wx tbk [(2, rp [fu 39, (.tmp 4, (Qlo p0))] (B x2)), (3, rp [(.tmp 5, B x2)] (B true)), (8, rp [(.tmp 6, B true), (.tmp 10, (Qlo p0))] (I ((p0.Table.length : Int)))), (10, rp [(.tmp 6, B true), fu 40, (.tmp 8, I p0.Level), ci 0, (.tmp 12, (I (w64 ((p0.Table.length : Int) - 1))))] (B x5)), (12, rp [(.tmp 14, B x5)] (B true)), (15, rp [(.tmp 15, B true), fu 41, (.tmp 17, (Qua p0))] (B x8)), (17, rp [(.tmp 19, B x8)] (B true)), (20, rp [(.tmp 20, B true), fu 40, (.tmp 22, I p0.Most), ci 0, ci 1000000000] (B x11)), (22, rp [(.tmp 24, B x11)] (B false))] ⟨apc (first := []) (cap := []) (vs := [(Qlo p0)]) rfl Qph (Qf0 N p0.Table _ hf1) rfl rfl (nlc (nld Qa9 _) nl0) nll rfl, asb hb3 (amv rfl), ag_ (alm (c := Qa6) (l := p0.Table) (aln rfl Tryz.underlying23 rfl)), ag_ (apc (first := []) (cap := []) (vs := [I p0.Level, I 0, (I (w64 ((p0.Table.length : Int) - 1)))]) rfl Qb5 (Qar N p0.Level 0 (w64 ((p0.Table.length : Int) - 1)) _ hf4) rfl rfl (nlc nll (nlc nll (nlc nll nl0))) nll rfl), asb hb6 (amv rfl), ag_ (apc (first := []) (cap := []) (vs := [(Qua p0)]) rfl Qts (Qhz N (⟨p0.Unit.Inlet, p0.Unit.Parts⟩ : GUnit) _ hf7) rfl rfl (nlc (NLt.agg _ (nlc nll (nlc (nld Qaq _) nl0))) nl0) nll rfl), asb hb9 (amv rfl), ag_ (apc (first := []) (cap := []) (vs := [I p0.Most, I 0, I 1000000000]) rfl Qb5 (Qar N p0.Most 0 1000000000 _ hf10) rfl rfl (nlc nll (nlc nll (nlc nll nl0))) nll rfl), asb hb12 (amv rfl), trivial⟩ ?_
      refine Qaa ?_
      obtain rfl := osi h
      exact fend ⟨[B false], ⟨rot (by kernel_rfl), trivial⟩, rfl⟩ nll
    ·replace h := Qau hb9 h
     refine wx tbk [(2, rp [fu 39, (.tmp 4, (Qlo p0))] (B x2)), (3, rp [(.tmp 5, B x2)] (B true)), (8, rp [(.tmp 6, B true), (.tmp 10, (Qlo p0))] (I ((p0.Table.length : Int)))), (10, rp [(.tmp 6, B true), fu 40, (.tmp 8, I p0.Level), ci 0, (.tmp 12, (I (w64 ((p0.Table.length : Int) - 1))))] (B x5)), (12, rp [(.tmp 14, B x5)] (B true)), (15, rp [(.tmp 15, B true), fu 41, (.tmp 17, (Qua p0))] (B x8)), (17, rp [(.tmp 19, B x8)] (B false))] ⟨apc (first := []) (cap := []) (vs := [(Qlo p0)]) rfl Qph (Qf0 N p0.Table _ hf1) rfl rfl (nlc (nld Qa9 _) nl0) nll rfl, asb hb3 (amv rfl), ag_ (alm (c := Qa6) (l := p0.Table) (aln rfl Tryz.underlying23 rfl)), ag_ (apc (first := []) (cap := []) (vs := [I p0.Level, I 0, (I (w64 ((p0.Table.length : Int) - 1)))]) rfl Qb5 (Qar N p0.Level 0 (w64 ((p0.Table.length : Int) - 1)) _ hf4) rfl rfl (nlc nll (nlc nll (nlc nll nl0))) nll rfl), asb hb6 (amv rfl), ag_ (apc (first := []) (cap := []) (vs := [(Qua p0)]) rfl Qts (Qhz N (⟨p0.Unit.Inlet, p0.Unit.Parts⟩ : GUnit) _ hf7) rfl rfl (nlc (NLt.agg _ (nlc nll (nlc (nld Qaq _) nl0))) nl0) nll rfl), asb hb9 (amv rfl), trivial⟩ ?_
     refine Qaa ?_
     obtain rfl := osi h
     exact fend ⟨[B false], ⟨rot (by kernel_rfl), trivial⟩, rfl⟩ nll
   ·replace h := Qau hb6 h
    refine wx tbk [(2, rp [fu 39, (.tmp 4, (Qlo p0))] (B x2)), (3, rp [(.tmp 5, B x2)] (B true)), (8, rp [(.tmp 6, B true), (.tmp 10, (Qlo p0))] (I ((p0.Table.length : Int)))), (10, rp [(.tmp 6, B true), fu 40, (.tmp 8, I p0.Level), ci 0, (.tmp 12, (I (w64 ((p0.Table.length : Int) - 1))))] (B x5)), (12, rp [(.tmp 14, B x5)] (B false))] ⟨apc (first := []) (cap := []) (vs := [(Qlo p0)]) rfl Qph (Qf0 N p0.Table _ hf1) rfl rfl (nlc (nld Qa9 _) nl0) nll rfl, asb hb3 (amv rfl), ag_ (alm (c := Qa6) (l := p0.Table) (aln rfl Tryz.underlying23 rfl)), ag_ (apc (first := []) (cap := []) (vs := [I p0.Level, I 0, (I (w64 ((p0.Table.length : Int) - 1)))]) rfl Qb5 (Qar N p0.Level 0 (w64 ((p0.Table.length : Int) - 1)) _ hf4) rfl rfl (nlc nll (nlc nll (nlc nll nl0))) nll rfl), asb hb6 (amv rfl), trivial⟩ ?_
    refine Qaa ?_
    obtain rfl := osi h
    exact fend ⟨[B false], ⟨rot (by kernel_rfl), trivial⟩, rfl⟩ nll
  ·replace h := Qau hb3 h
   refine wx tbk [(2, rp [fu 39, (.tmp 4, (Qlo p0))] (B x2)), (3, rp [(.tmp 5, B x2)] (B false))] ⟨apc (first := []) (cap := []) (vs := [(Qlo p0)]) rfl Qph (Qf0 N p0.Table _ hf1) rfl rfl (nlc (nld Qa9 _) nl0) nll rfl, asb hb3 (amv rfl), trivial⟩ ?_
   refine Qaa ?_
   obtain rfl := osi h
   exact fend ⟨[B false], ⟨rot (by kernel_rfl), trivial⟩, rfl⟩ nll
def Qeb (N : Nat) (p0 : (List GRow)) (k2 : (List GRow) → Option (List GRow)) : Nat → (List GRow) → Int → Option (List GRow)
  | 0, _, _ => none
  | n7 + 1, y3, y4 =>
    bif (decide (y4 < (p0.length : Int))) then
     (getI p0 y4).bind fun x9 =>
     chk (decide ((y3.length + ([x9]).length) * 40 ≤ 140737488355328)) <|
     Qeb N p0 k2 n7 (y3 ++ ([x9])) (w64 (y4 + 1))
    else
     k2 (y3)
def Qi6 (N : Nat) (p0 : (List GRow)) : Option (List GRow) :=
  Qc5 (fun y1 =>
    some y1) fun k2 : (List GRow) → Option (List GRow) =>
  Qeb N p0 k2 N ([]) 0
def Qrp (p0 : (List GRow)) : AV := .dat 5 ((p0 : List GRow).map Qa6)
def Q1d (y3 : (List GRow)) : AV := .acc 0 115 5 ((y3 : List GRow).map Qa6)
def Q1c (x9 : GRow) : AV := .agg [(I (x9.T)), (I (x9.P)), (I (x9.Liquid)), (I (x9.Vapour)), (I (x9.Silica))]
theorem Qq5 (N : Nat) (p0 : (List GRow)) (r : (List GRow)) (h : Qi6 N p0 = some r) : Spec Tryz.prog 36 [(.dat 5 (p0.map Qa6))] [] (.dat 5 (r.map Qa6)) [] := by
  refine Qac Tryz.func36 rfl 0 (nle rfl) (fun X φ0 w0 hφ0 hd0 => ?_)
  unfold Qi6 at h
  refine wx tbk [] trivial ?_
  refine wx tbk [] trivial ?_
  obtain ⟨k2, hk_k2, h⟩ := jko h
  refine wjn (τ := (List GRow)) (fun t => k2 t = some r) (fun y1 => ⟨mk 41 [(3, (.acc 0 115 5 ((y1 : List GRow).map Qa6)))], [.tok]⟩) (fun y1 h => ?_) ?_
  ·subst hk_k2
   refine wx tbk [] trivial ?_
   refine Qaa ?_
   obtain rfl := osi h
   exact fend ⟨[(.dat 5 ((y1 : List GRow).map Qa6))], ⟨Qjt (v := (.acc 0 115 5 ((y1 : List GRow).map Qa6))) (rot (by kernel_rfl)) Less.acc, trivial⟩, rfl⟩ (nld Qa9 _)
  ·skip
   refine wx tbk [] trivial ?_
   refine Qaj ?_
   refine wmr (Mor.trans (Qtk 0 115 5 3 (by kernel_rfl) (by kernel_rfl)) (mto (n := 41) (l' := [(0, (Qrp p0)), (3, (.acc 0 115 5 ((([]) : List GRow).map Qa6))), (4, I 0)]) (own' := [.tok]) [(0, (Qrp p0)), (3, (.acc 0 115 5 (([] : List GRow).map Qa6))), (4, I 0)] [0] [.tok] hφ0 (pc (.rn (.plain _ (nld Qa9 _))) (pc (.rn (Qhg rfl (Qfr Qa9 _))) (pc rwl pn))) (qc .tok qn))) ?_
   refine Qcl (τ := (List GRow) × Int) (fun n t => Qeb N p0 k2 n t.1 t.2 = some r) (fun ⟨y3, y4⟩ => ⟨mk 41 [(0, (Qrp p0)), (3, (Q1d y3)), (4, I y4)], [.tok]⟩) (fun t h => by rw [Qeb] at h; cases h) (fun n7 ih t h => ?_) N ([], 0) h
   obtain ⟨y3, y4⟩ := t
   rw [Qeb] at h
   skip
   refine wsq ?_
   refine wx tbk [(2, rp [(.tmp 6, (Qrp p0))] (I ((p0.length : Int))))] ⟨alm (c := Qa6) (l := p0) (aln rfl Tryz.underlying23 rfl), trivial⟩ ?_
   rcases bft ((decide (y4 < (p0.length : Int)))) with hc8 | hc8
   ·replace h := Qat hc8 h
    refine wft hc8 (by kernel_rfl) ?_
    refine Qam ?_
    refine thn ?_
    refine wsq ?_
    refine Qaj ?_
    obtain ⟨x9, hg10, h⟩ := bno h
    obtain ⟨hi11, hj12⟩ := gsm hg10
    obtain ⟨ha13, h⟩ := cko h
    refine wy1 tbk [(3, rp [(.tmp 12, (Qrp p0)), (.tmp 13, I y4)] (.dptr (Qa6 (x9)) 0)), (8, rp [(.tmp 17, (Qrp p0)), (.tmp 18, I y4)] (.dptr (Qa6 (x9)) 0)), (13, rp [(.tmp 22, (Qrp p0)), (.tmp 23, I y4)] (.dptr (Qa6 (x9)) 0)), (18, rp [(.tmp 27, (Qrp p0)), (.tmp 28, I y4)] (.dptr (Qa6 (x9)) 0)), (23, rp [(.tmp 32, (Qrp p0)), (.tmp 33, I y4)] (.dptr (Qa6 (x9)) 0)), (26, rp [(.tmp 16, I x9.T), (.tmp 21, I x9.P), (.tmp 26, I x9.Liquid), (.tmp 31, I x9.Vapour), (.tmp 36, I x9.Silica)] (Q1c x9)), (27, rp [(.tmp 37, (Q1c x9))] (.dat 5 (([x9] : List GRow).map Qa6))), (28, ⟨[(.tmp 11, (Q1d y3)), (.tmp 38, (.dat 5 (([x9] : List GRow).map Qa6)))], [(0, .tok), (1, .unused)], (.acc 1 115 5 ((y3 ++ ([x9]) : List GRow).map Qa6)), [(0, .dead), (1, .tok)], false⟩)] ⟨aid rfl Tryz.underlying23 Ql3 rfl rfl hi11 (mgt Qa6 hj12) rfl, aid rfl Tryz.underlying23 Ql3 rfl rfl hi11 (mgt Qa6 hj12) rfl, aid rfl Tryz.underlying23 Ql3 rfl rfl hi11 (mgt Qa6 hj12) rfl, aid rfl Tryz.underlying23 Ql3 rfl rfl hi11 (mgt Qa6 hj12) rfl, aid rfl Tryz.underlying23 Ql3 rfl rfl hi11 (mgt Qa6 hj12) rfl, Qao (vs := [I x9.T, I x9.P, I x9.Liquid, I x9.Vapour, I x9.Silica]) rfl Ze2 Zap rfl (by rfl) rfl, Qcb (vs := [(Q1c x9)]) rfl Tryz.underlying42 Qtc Zap rfl (by decide) rfl (by decide) (by rfl) (by rfl) (by rfl) rfl, Qmo rfl Tryz.underlying42 Zfg (Base.acc _ _) rfl rfl (by rfl) (Qrn Qa6 ha13) (Qrm Qa6 ha13 (by decide)) (Qrl Qa6) rfl rfl, trivial⟩ ?_
    refine bln ?_
    refine thn ?_
    refine wx1 tbk [] trivial ?_
    refine thn ?_
    exact arm (mto (n := 41) [(0, (Qrp p0)), (3, (.acc 1 115 5 ((y3 ++ ([x9]) : List GRow).map Qa6))), (4, (I (w64 (y4 + 1))))] [1] [.tok] hφ0 (pc (.rn (.plain _ (nld Qa9 _))) (pc (.rn (Qhg rfl (Qfr Qa9 _))) (pc rwl pn))) (qc .tok qn)) (ih (y3 ++ ([x9]), w64 (y4 + 1)) h)
   ·replace h := Qau hc8 h
    refine wfn hc8 (by kernel_rfl) ?_
    refine Qbr ?_
    refine Qay ?_
    refine Qay ?_
    refine Qbq rfl ?_
    refine thn ?_
    exact ⟨(y3), h, (mto (n := 41) [(3, (Q1d y3))] [0] [.tok] hφ0 (pc (.rn (Qhg rfl (Qfr Qa9 _))) pn) (qc .tok qn))⟩
def Qj5 (N : Nat) (p0 : GLine) : Option GLine :=
  (Qi6 N p0.Table).bind fun x2 =>
  (Qj4 N (⟨p0.Unit.Inlet, p0.Unit.Parts⟩ : GUnit)).bind fun x4 =>
  (Qkf N (⟨p0.Cycle.Out, p0.Cycle.Yield, p0.Cycle.Most⟩ : GCycle)).bind fun x6 =>
  some (⟨x2, p0.Level, x4, p0.Most, p0.Target, x6⟩ : GLine)
def Zdd (p0 : GLine) : AV := .dat 5 ((p0.Table : List GRow).map Qa6)
def Q1e (x2 : (List GRow)) : AV := .dat 5 ((x2 : List GRow).map Qa6)
def Zdc (p0 : GLine) : AV := .dat 2 ((p0.Unit.Parts : List GPart).map Qba)
def Q8y (x4 : GUnit) : AV := .dat 2 ((x4.Parts : List GPart).map Qba)
def Q8x (x4 : GUnit) : AV := .agg [(I (x4.Inlet)), (Q8y x4)]
def Zdb (p0 : GLine) : AV := .agg [(I (p0.Cycle.Out)), (I (p0.Cycle.Yield)), (I (p0.Cycle.Most))]
def Q1f (x6 : GCycle) : AV := .agg [(I (x6.Out)), (I (x6.Yield)), (I (x6.Most))]
def Q7u (x2 : (List GRow)) (p0 : GLine) (x4 : GUnit) (x6 : GCycle) : AV := .agg [(Q1e x2), (I (p0.Level)), (I (x4.Inlet)), (Q8y x4), (I (p0.Most)), (I (p0.Target)), (I (x6.Out)), (I (x6.Yield)), (I (x6.Most))]
theorem Qru (N : Nat) (p0 : GLine) (r : GLine) (h : Qj5 N p0 = some r) : Spec Tryz.prog 9 [(.agg (Qn3 p0))] [] (.agg (Qn3 r)) [] := by
  refine Qac Tryz.func9 rfl 0 (nle rfl) (fun X φ0 w0 hφ0 hd0 => ?_)
  unfold Qj5 at h
  refine wx tbk [] trivial ?_
  obtain ⟨x2, hf1, h⟩ := bno h
  obtain ⟨x4, hf3, h⟩ := bno h
  obtain ⟨x6, hf5, h⟩ := bno h
  refine wxd tbk [(2, rp [fu 36, (.tmp 4, (Zdd p0))] (Q1e x2)), (7, rp [fu 37, (.tmp 9, (.agg [I p0.Unit.Inlet, (Zdc p0)]))] (Q8x x4)), (14, rp [fu 38, (.tmp 16, (Zdb p0))] (Q1f x6)), (15, rp [(.tmp 5, (Q1e x2)), (.tmp 7, I p0.Level), (.tmp 10, (Q8x x4)), (.tmp 12, I p0.Most), (.tmp 14, I p0.Target), (.tmp 17, (Q1f x6))] (Q7u x2 p0 x4 x6))] ⟨apc (first := []) (cap := []) (vs := [(Zdd p0)]) rfl Zch (Qq5 N p0.Table _ hf1) rfl rfl (nlc (nld Qa9 _) nl0) (nld Qa9 _) rfl, apc (first := []) (cap := []) (vs := [(.agg [I p0.Unit.Inlet, (Zdc p0)])]) rfl Zcg (Qrt N (⟨p0.Unit.Inlet, p0.Unit.Parts⟩ : GUnit) _ hf3) rfl rfl (nlc (NLt.agg _ (nlc nll (nlc (nld Qaq _) nl0))) nl0) (NLt.agg _ (nlc nll (nlc (nld Qaq _) nl0))) rfl, apc (first := []) (cap := []) (vs := [(Zdb p0)]) rfl Zcf (Qq4 N (⟨p0.Cycle.Out, p0.Cycle.Yield, p0.Cycle.Most⟩ : GCycle) _ hf5) rfl rfl (nlc (NLt.agg _ (nlc nll (nlc nll (nlc nll nl0)))) nl0) (NLt.agg _ (nlc nll (nlc nll (nlc nll nl0)))) rfl, Qao (vs := [(Q1e x2), I p0.Level, (Q8x x4), I p0.Most, I p0.Target, (Q1f x6)]) rfl ts48 tz48 rfl (by rfl) rfl, trivial⟩ ?_
  refine Qaa ?_
  obtain rfl := osi h
  exact fend ⟨[(Q7u x2 p0 x4 x6)], ⟨Qa0 (n := 1) (m := 9) (j := 0) (i := 0) (xs := [[(Q1e x2), I p0.Level, I x4.Inlet, (Q8y x4), I p0.Most, I p0.Target, I x6.Out, I x6.Yield, I x6.Most]]) (by kernel_rfl) (by kernel_rfl) ti48 (by decide) rfl (nle rfl) rfl, trivial⟩, rfl⟩ (NLt.agg _ (nlc (nld Qa9 _) (nlc nll (nlc nll (nlc (nld Qaq _) (nlc nll (nlc nll (nlc nll (nlc nll (nlc nll nl0))))))))))
end Go.Proofs.YtlhakkkjgdbdpaaGreat
