/-
  Functions of the program: what they compute, as plain functions, and that they do. No conditions.
-/
import Derived.Test.YtlhakkkjgdbdpaaX5
namespace Go.Proofs.Ytlhakkkjgdbdpaa
open Go.RowKit
def Qgw (_N : Nat) (p0 : Int) (p1 : Int) (p2 : Int) : Option Bool :=
  bif (decide (p0 ≥ p1)) then
   some (decide (p0 ≤ p2))
  else
   some false
set_option maxRecDepth 100000 in
set_option maxHeartbeats 4000000 in
theorem Qd8 (N : Nat) (p0 : Int) (p1 : Int) (p2 : Int) (r : Bool) (h : Qgw N p0 p1 p2 = some r) : Spec Try.prog 25 [(I p0), (I p1), (I p2)] [] (B r) [] := by
  refine Qad Try.func25 rfl 0 (nle rfl) (fun X φ0 w0 hφ0 => ?_)
  unfold Qgw at h
  refine wx tbk [] trivial ?_
  rcases bft ((decide (p0 ≥ p1))) with hb1 | hb1
  ·replace h := Qaz hb1 h
   refine wx tbk [(3, rp [(.tmp 9, (B ((decide (p0 ≥ p1)))))] (B true))] ⟨asb hb1 (amv rfl), trivial⟩ ?_
   refine Qae ?_
   obtain rfl := osi h
   exact fend ⟨[(B ((decide (p0 ≤ p2))))], ⟨rot (by kernel_rfl), trivial⟩, rfl⟩ nll
  ·replace h := Qa0 hb1 h
   refine wx tbk [(3, rp [(.tmp 9, (B ((decide (p0 ≥ p1)))))] (B false))] ⟨asb hb1 (amv rfl), trivial⟩ ?_
   refine Qae ?_
   obtain rfl := osi h
   exact fend ⟨[B false], ⟨rot (by kernel_rfl), trivial⟩, rfl⟩ nll
def Qdl (N : Nat) (p0 : GUnit) (k1 : Unit → Option Bool) : Nat → Int → Option Bool
  | 0, _ => none
  | n8 + 1, y6 =>
    bif (decide (y6 < (p0.Parts.length : Int))) then
     (getI p0.Parts y6).bind fun x10 =>
     (Qgw N x10.Width 1 100000).bind fun x15 =>
     bif (!x15) then
      some false
     else
      (Qgw N x10.Gain 0 1000).bind fun x18 =>
      bif (!x18) then
       some false
      else
       bif (decide (y6 > 0)) then
        (getI p0.Parts (w64 (y6 - 1))).bind fun x21 =>
        bif (decide (x10.Gain > x21.Gain)) then
         some false
        else
         Qdl N p0 k1 n8 (w64 (y6 + 1))
       else
        Qdl N p0 k1 n8 (w64 (y6 + 1))
    else
     k1 ()
def Qij (N : Nat) (p0 : GUnit) : Option Bool :=
  Qb2 (fun _ =>
    (Qgw N p0.Inlet 0 5).bind fun x3 =>
    bif x3 then
     bif (decide ((p0.Parts.length : Int) ≥ 1)) then
      some (decide ((p0.Parts.length : Int) ≤ 8))
     else
      some false
    else
     some false) fun k1 : Unit → Option Bool =>
  Qdl N p0 k1 N 0
def Qus (p0 : GUnit) : AV := .dat 2 ((p0.Parts : List GPart).map Qa4)
def Qur (p0 : GUnit) : Slot := .own 2 [[(I (p0.Inlet)), (Qus p0)]]
set_option maxRecDepth 100000 in
set_option maxHeartbeats 4000000 in
theorem Qli (N : Nat) (p0 : GUnit) (r : Bool) (h : Qij N p0 = some r) : Spec Try.prog 15 [(.agg (Qat p0))] [] (B r) [] := by
  refine Qad Try.func15 rfl 0 (nle rfl) (fun X φ0 w0 hφ0 => ?_)
  unfold Qij at h
  refine wx tbk [] trivial ?_
  obtain ⟨k1, hk_k1, h⟩ := jko h
  refine wjn (τ := Unit) (fun t => k1 t = some r) (fun _ => ⟨mk 58 [(1, .ref 0 2 0 0)], [(Qur p0)]⟩) (fun t h => ?_) ?_
  ·subst hk_k1
   obtain ⟨x3, hf2, h⟩ := bno h
   rcases bft (x3) with hb4 | hb4
   ·replace h := Qaz hb4 h
    rcases bft ((decide ((p0.Parts.length : Int) ≥ 1))) with hb5 | hb5
    ·replace h := Qaz hb5 h
     refine wx tbk [(2, rp [fu 25, (.tmp 44, I p0.Inlet), ci 0, ci 5] (B x3)), (3, rp [(.tmp 45, B x3)] (B true)), (6, rp [(.tmp 46, B true), (.tmp 48, (Qus p0))] (I ((p0.Parts.length : Int)))), (9, rp [(.tmp 51, (B ((decide ((p0.Parts.length : Int) ≥ 1)))))] (B true)), (12, rp [(.tmp 52, B true), (.tmp 54, (Qus p0))] (I ((p0.Parts.length : Int))))] ⟨apc (first := []) (cap := []) (vs := [I p0.Inlet, I 0, I 5]) rfl Qiy (Qd8 N p0.Inlet 0 5 _ hf2) rfl rfl (nlc nll (nlc nll (nlc nll nl0))) nll rfl, asb hb4 (amv rfl), ag_ (alm (c := Qa4) (l := p0.Parts) (aln rfl Try.underlying22 rfl)), asb hb5 (amv rfl), ag_ (alm (c := Qa4) (l := p0.Parts) (aln rfl Try.underlying22 rfl)), trivial⟩ ?_
     refine Qae ?_
     obtain rfl := osi h
     exact fend ⟨[(B ((decide ((p0.Parts.length : Int) ≤ 8))))], ⟨rot (by kernel_rfl), trivial⟩, rfl⟩ nll
    ·replace h := Qa0 hb5 h
     refine wx tbk [(2, rp [fu 25, (.tmp 44, I p0.Inlet), ci 0, ci 5] (B x3)), (3, rp [(.tmp 45, B x3)] (B true)), (6, rp [(.tmp 46, B true), (.tmp 48, (Qus p0))] (I ((p0.Parts.length : Int)))), (9, rp [(.tmp 51, (B ((decide ((p0.Parts.length : Int) ≥ 1)))))] (B false))] ⟨apc (first := []) (cap := []) (vs := [I p0.Inlet, I 0, I 5]) rfl Qiy (Qd8 N p0.Inlet 0 5 _ hf2) rfl rfl (nlc nll (nlc nll (nlc nll nl0))) nll rfl, asb hb4 (amv rfl), ag_ (alm (c := Qa4) (l := p0.Parts) (aln rfl Try.underlying22 rfl)), asb hb5 (amv rfl), trivial⟩ ?_
     refine Qae ?_
     obtain rfl := osi h
     exact fend ⟨[B false], ⟨rot (by kernel_rfl), trivial⟩, rfl⟩ nll
   ·replace h := Qa0 hb4 h
    refine wx tbk [(2, rp [fu 25, (.tmp 44, I p0.Inlet), ci 0, ci 5] (B x3)), (3, rp [(.tmp 45, B x3)] (B false))] ⟨apc (first := []) (cap := []) (vs := [I p0.Inlet, I 0, I 5]) rfl Qiy (Qd8 N p0.Inlet 0 5 _ hf2) rfl rfl (nlc nll (nlc nll (nlc nll nl0))) nll rfl, asb hb4 (amv rfl), trivial⟩ ?_
    refine Qae ?_
    obtain rfl := osi h
    exact fend ⟨[B false], ⟨rot (by kernel_rfl), trivial⟩, rfl⟩ nll
  ·skip
   refine wx tbk [] trivial ?_
   refine Qah ?_
   refine wmr (mto (n := 58) (l' := [(1, .ref 0 2 0 0), (3, I 0)]) (own' := [(Qur p0)]) [(1, .ref 0 2 0 0), (3, I 0)] [0] [(Qur p0)] hφ0 (pc (.rn (rqr rfl)) (pc rwl pn)) (qc (spb (lc rwl (lc (.rn (.plain _ (nld Qbg _))) ln))) qn)) ?_
   refine Qbw (τ := Int) (fun n t => Qdl N p0 k1 n t = some r) (fun y6 => ⟨mk 58 [(1, .ref 0 2 0 0), (3, I y6)], [(Qur p0)]⟩) (fun t h => by rw [Qdl] at h; cases h) (fun n8 ih y6 h => ?_) N (0) h
   rw [Qdl] at h
   skip
   refine wsq ?_
   refine wx tbk [(3, rp [(.tmp 7, (Qus p0))] (I ((p0.Parts.length : Int))))] ⟨alm (c := Qa4) (l := p0.Parts) (aln rfl Try.underlying22 rfl), trivial⟩ ?_
   rcases bft ((decide (y6 < (p0.Parts.length : Int)))) with hc9 | hc9
   ·replace h := Qaz hc9 h
    refine wft hc9 (by kernel_rfl) ?_
    refine Qal ?_
    refine thn ?_
    refine wsq ?_
    refine Qah ?_
    obtain ⟨x10, hg11, h⟩ := bno h
    obtain ⟨hi12, hj13⟩ := gsm hg11
    refine wx tbk [(3, rp [(.tmp 13, (Qus p0)), (.tmp 14, I y6)] (.dptr (Qa4 (x10)) 0))] ⟨aid rfl Try.underlying22 Qyr rfl rfl hi12 (mgt Qa4 hj13) rfl, trivial⟩ ?_
    obtain ⟨x15, hf14, h⟩ := bno h
    rcases bft ((!x15)) with hb16 | hb16
    ·replace h := Qaz hb16 h
     refine wxd tbk [(2, rp [fu 25, (.tmp 18, I x10.Width), ci 1, ci 100000] (B x15)), (4, rp [(.tmp 20, (B ((!x15))))] (B true))] ⟨apc (first := []) (cap := []) (vs := [I x10.Width, I 1, I 100000]) rfl Qiy (Qd8 N x10.Width 1 100000 _ hf14) rfl rfl (nlc nll (nlc nll (nlc nll nl0))) nll rfl, asb hb16 (amv rfl), trivial⟩ ?_
     refine Qgd (by kernel_rfl) ?_
     refine wx tbk [] trivial ?_
     refine Qae ?_
     refine Qbz ?_
     refine Qaw ?_
     refine Qaw ?_
     refine Qbz ?_
     refine Qaw ?_
     obtain rfl := osi h
     exact fend ⟨[B false], ⟨rot (by kernel_rfl), trivial⟩, rfl⟩ nll
    ·replace h := Qa0 hb16 h
     obtain ⟨x18, hf17, h⟩ := bno h
     rcases bft ((!x18)) with hb19 | hb19
     ·replace h := Qaz hb19 h
      refine wxd tbk [(2, rp [fu 25, (.tmp 18, I x10.Width), ci 1, ci 100000] (B x15)), (4, rp [(.tmp 20, (B ((!x15))))] (B false)), (7, rp [(.tmp 21, B false), fu 25, (.tmp 23, I x10.Gain), ci 0, ci 1000] (B x18)), (10, rp [(.tmp 26, (B ((!x18))))] (B true))] ⟨apc (first := []) (cap := []) (vs := [I x10.Width, I 1, I 100000]) rfl Qiy (Qd8 N x10.Width 1 100000 _ hf14) rfl rfl (nlc nll (nlc nll (nlc nll nl0))) nll rfl, asb hb16 (amv rfl), ag_ (apc (first := []) (cap := []) (vs := [I x10.Gain, I 0, I 1000]) rfl Qiy (Qd8 N x10.Gain 0 1000 _ hf17) rfl rfl (nlc nll (nlc nll (nlc nll nl0))) nll rfl), asb hb19 (amv rfl), trivial⟩ ?_
      refine Qgd (by kernel_rfl) ?_
      refine wx tbk [] trivial ?_
      refine Qae ?_
      refine Qbz ?_
      refine Qaw ?_
      refine Qaw ?_
      refine Qbz ?_
      refine Qaw ?_
      obtain rfl := osi h
      exact fend ⟨[B false], ⟨rot (by kernel_rfl), trivial⟩, rfl⟩ nll
     ·replace h := Qa0 hb19 h
      rcases bft ((decide (y6 > 0))) with hb20 | hb20
      ·replace h := Qaz hb20 h
       obtain ⟨x21, hg22, h⟩ := bno h
       obtain ⟨hi23, hj24⟩ := gsm hg22
       refine wxd tbk [(2, rp [fu 25, (.tmp 18, I x10.Width), ci 1, ci 100000] (B x15)), (4, rp [(.tmp 20, (B ((!x15))))] (B false)), (7, rp [(.tmp 21, B false), fu 25, (.tmp 23, I x10.Gain), ci 0, ci 1000] (B x18)), (10, rp [(.tmp 26, (B ((!x18))))] (B false)), (13, rp [(.tmp 27, B false), (.tmp 29, (B ((decide (y6 > 0)))))] (B true)), (20, rp [(.tmp 30, B true), (.tmp 34, (Qus p0)), (.tmp 36, (I (w64 (y6 - 1))))] (.dptr (Qa4 (x21)) 0))] ⟨apc (first := []) (cap := []) (vs := [I x10.Width, I 1, I 100000]) rfl Qiy (Qd8 N x10.Width 1 100000 _ hf14) rfl rfl (nlc nll (nlc nll (nlc nll nl0))) nll rfl, asb hb16 (amv rfl), ag_ (apc (first := []) (cap := []) (vs := [I x10.Gain, I 0, I 1000]) rfl Qiy (Qd8 N x10.Gain 0 1000 _ hf17) rfl rfl (nlc nll (nlc nll (nlc nll nl0))) nll rfl), asb hb19 (amv rfl), asb hb20 (ag_ (amv rfl)), ag_ (aid rfl Try.underlying22 Qyr rfl rfl hi23 (mgt Qa4 hj24) rfl), trivial⟩ ?_
       rcases bft ((decide (x10.Gain > x21.Gain))) with hc25 | hc25
       ·replace h := Qaz hc25 h
        refine wft hc25 (by kernel_rfl) ?_
        refine wx tbk [] trivial ?_
        refine Qae ?_
        refine Qbz ?_
        refine Qaw ?_
        refine Qaw ?_
        refine Qbz ?_
        refine Qaw ?_
        obtain rfl := osi h
        exact fend ⟨[B false], ⟨rot (by kernel_rfl), trivial⟩, rfl⟩ nll
       ·replace h := Qa0 hc25 h
        refine wfn hc25 (by kernel_rfl) ?_
        refine Qal ?_
        refine bln ?_
        refine thn ?_
        refine wx1 tbk [] trivial ?_
        refine thn ?_
        exact arm (mto (n := 58) [(1, .ref 0 2 0 0), (3, (I (w64 (y6 + 1))))] [0] [(Qur p0)] hφ0 (pc (.rn (rqr rfl)) (pc rwl pn)) (qc (spb (lc rwl (lc (.rn (.plain _ (nld Qbg _))) ln))) qn)) (ih (w64 (y6 + 1)) h)
      ·replace h := Qa0 hb20 h
       refine wxd tbk [(2, rp [fu 25, (.tmp 18, I x10.Width), ci 1, ci 100000] (B x15)), (4, rp [(.tmp 20, (B ((!x15))))] (B false)), (7, rp [(.tmp 21, B false), fu 25, (.tmp 23, I x10.Gain), ci 0, ci 1000] (B x18)), (10, rp [(.tmp 26, (B ((!x18))))] (B false)), (13, rp [(.tmp 27, B false), (.tmp 29, (B ((decide (y6 > 0)))))] (B false))] ⟨apc (first := []) (cap := []) (vs := [I x10.Width, I 1, I 100000]) rfl Qiy (Qd8 N x10.Width 1 100000 _ hf14) rfl rfl (nlc nll (nlc nll (nlc nll nl0))) nll rfl, asb hb16 (amv rfl), ag_ (apc (first := []) (cap := []) (vs := [I x10.Gain, I 0, I 1000]) rfl Qiy (Qd8 N x10.Gain 0 1000 _ hf17) rfl rfl (nlc nll (nlc nll (nlc nll nl0))) nll rfl), asb hb19 (amv rfl), asb hb20 (ag_ (amv rfl)), trivial⟩ ?_
       refine Qf3 (by kernel_rfl) ?_
       refine Qal ?_
       refine bln ?_
       refine thn ?_
       refine wx1 tbk [] trivial ?_
       refine thn ?_
       exact arm (mto (n := 58) [(1, .ref 0 2 0 0), (3, (I (w64 (y6 + 1))))] [0] [(Qur p0)] hφ0 (pc (.rn (rqr rfl)) (pc rwl pn)) (qc (spb (lc rwl (lc (.rn (.plain _ (nld Qbg _))) ln))) qn)) (ih (w64 (y6 + 1)) h)
   ·replace h := Qa0 hc9 h
    refine wfn hc9 (by kernel_rfl) ?_
    refine Qbe ?_
    refine Qap ?_
    refine Qap ?_
    refine Qbd rfl ?_
    refine thn ?_
    exact ⟨(), h, (mto (n := 58) [(1, .ref 0 2 0 0)] [0] [(Qur p0)] hφ0 (pc (.rn (rqr rfl)) pn) (qc (spb (lc rwl (lc (.rn (.plain _ (nld Qbg _))) ln))) qn))⟩
def Qec (N : Nat) (p0 : GUnit) (k2 : (List GPart) → Option GUnit) : Nat → Int → (List GPart) → Option GUnit
  | 0, _, _ => none
  | n7 + 1, y3, y4 =>
    bif (decide (y3 < (p0.Parts.length : Int))) then
     (getI p0.Parts y3).bind fun x9 =>
     chk (decide ((y4.length + ([x9]).length) * 16 ≤ 140737488355328)) <|
     Qec N p0 k2 n7 (w64 (y3 + 1)) (y4 ++ ([x9]))
    else
     k2 (y4)
def Qjn (N : Nat) (p0 : GUnit) : Option GUnit :=
  Qb2 (fun y1 =>
    some (⟨p0.Inlet, y1⟩ : GUnit)) fun k2 : (List GPart) → Option GUnit =>
  Qec N p0 k2 N 0 ([])
def Qx8 : Slot := .own 2 [[(I (0)), nilS]]
def z74_26 (y1 : (List GPart)) : AV := .acc 2 118 2 ((y1 : List GPart).map Qa4)
def z74_0 (p0 : GUnit) : AV := .dat 2 ((p0.Parts : List GPart).map Qa4)
def z74_1 (p0 : GUnit) : Slot := .own 2 [[(I (p0.Inlet)), (z74_0 p0)]]
def z74_33 (y4 : (List GPart)) : AV := .acc 3 118 2 ((y4 : List GPart).map Qa4)
def z74_41 (x9 : GPart) : AV := .agg [(I (x9.Width)), (I (x9.Gain))]
set_option maxRecDepth 100000 in
set_option maxHeartbeats 4000000 in
theorem Qqd (N : Nat) (p0 : GUnit) (r : GUnit) (h : Qjn N p0 = some r) : Spec Try.prog 19 [(.agg (Qat p0))] [] (.agg (Qat r)) [] := by
  refine Qad Try.func19 rfl 0 (nle rfl) (fun X φ0 w0 hφ0 => ?_)
  unfold Qjn at h
  refine wx tbk [] trivial ?_
  refine wx tbk [(2, rp [(.tmp 6, I p0.Inlet)] (.agg [I p0.Inlet, nilS]))] ⟨Qbq (vs := [I p0.Inlet]) rfl ts34 tz34 rfl (by rfl) rfl, trivial⟩ ?_
  obtain ⟨k2, hk_k2, h⟩ := jko h
  refine wjn (τ := (List GPart)) (fun t => k2 t = some r) (fun y1 => ⟨mk 34 [(2, .ref 0 2 0 0), (3, .ref 1 2 0 0)], [Qx8, (.own 2 [[I p0.Inlet, (z74_26 y1)]]), .tok]⟩) (fun y1 h => ?_) ?_
  ·subst hk_k2
   refine wx tbk [] trivial ?_
   refine Qae ?_
   obtain rfl := osi h
   exact fend ⟨[(.agg [I p0.Inlet, (.dat 2 ((y1 : List GPart).map Qa4))])], ⟨Qh3 (v := (.agg [I p0.Inlet, (z74_26 y1)])) (Qf4 (n := 0) (m := 2) (j := 0) (i := 0) (xs := [[I p0.Inlet, (z74_26 y1)]]) (by kernel_rfl) (by kernel_rfl) ti34 (by decide) rfl (nle rfl) rfl) (Less.agg ⟨lrf, Less.acc, trivial⟩), trivial⟩, rfl⟩ (NLt.agg _ (nlc nll (nlc (nld Qbg _) nl0)))
  ·skip
   refine wx tbk [] trivial ?_
   refine Qah ?_
   refine wmr (Mor.trans (mor_nilb (n := 3) (ty := 118) (m := 2) (q := 2) (mq := 2) (c := [I p0.Inlet, nilS]) 1 (by kernel_rfl) (by kernel_rfl) (by kernel_rfl) (by decide)) (mto (n := 34) (l' := [(1, .ref 0 2 0 0), (2, .ref 1 2 0 0), (3, .ref 2 2 0 0), (4, I 0)]) (own' := [(z74_1 p0), Qx8, (.own 2 [[I p0.Inlet, (.acc 3 118 2 ((([]) : List GPart).map Qa4))]]), .tok]) [(1, .ref 0 2 0 0), (2, .ref 1 2 0 0), (3, .ref 2 2 0 0), (4, I 0)] [0, 1, 2, 3] [(z74_1 p0), Qx8, (.own 2 [[I p0.Inlet, (.acc 3 118 2 (([] : List GPart).map Qa4))]]), .tok] hφ0 (pc (.rn (rqr rfl)) (pc (.rn (rqr rfl)) (pc (.rn (rqr rfl)) (pc rwl pn)))) (qc (spb (lc rwl (lc (.rn (.plain _ (nld Qbg _))) ln))) (qc (spb (lc rwl (lc rwl ln))) (qc (spb (lc rwl (lc (.rn (Qg3 rfl (Qe9 Qbg _))) ln))) (qc .tok qn)))))) ?_
   refine Qbw (τ := Int × (List GPart)) (fun n t => Qec N p0 k2 n t.1 t.2 = some r) (fun ⟨y3, y4⟩ => ⟨mk 34 [(1, .ref 0 2 0 0), (2, .ref 1 2 0 0), (3, .ref 2 2 0 0), (4, I y3)], [(z74_1 p0), Qx8, (.own 2 [[I p0.Inlet, (z74_33 y4)]]), .tok]⟩) (fun t h => by rw [Qec] at h; cases h) (fun n7 ih t h => ?_) N (0, []) h
   obtain ⟨y3, y4⟩ := t
   rw [Qec] at h
   skip
   refine wsq ?_
   refine wx tbk [(3, rp [(.tmp 10, (z74_0 p0))] (I ((p0.Parts.length : Int))))] ⟨alm (c := Qa4) (l := p0.Parts) (aln rfl Try.underlying22 rfl), trivial⟩ ?_
   rcases bft ((decide (y3 < (p0.Parts.length : Int)))) with hc8 | hc8
   ·replace h := Qaz hc8 h
    refine wft hc8 (by kernel_rfl) ?_
    refine Qal ?_
    refine thn ?_
    refine wsq ?_
    refine Qah ?_
    obtain ⟨x9, hg10, h⟩ := bno h
    obtain ⟨hi11, hj12⟩ := gsm hg10
    obtain ⟨ha13, h⟩ := cko h
    refine wy1 tbk [(5, rp [(.tmp 18, (z74_0 p0)), (.tmp 19, I y3)] (.dptr (Qa4 (x9)) 0)), (11, rp [(.tmp 24, (z74_0 p0)), (.tmp 25, I y3)] (.dptr (Qa4 (x9)) 0)), (14, rp [(.tmp 22, I x9.Width), (.tmp 28, I x9.Gain)] (z74_41 x9)), (15, rp [(.tmp 29, (z74_41 x9))] (.dat 2 (([x9] : List GPart).map Qa4))), (16, ⟨[(.tmp 16, (z74_33 y4)), (.tmp 30, (.dat 2 (([x9] : List GPart).map Qa4)))], [(3, .tok), (4, .unused)], (.acc 4 118 2 ((y4 ++ ([x9]) : List GPart).map Qa4)), [(3, .dead), (4, .tok)], false⟩)] ⟨aid rfl Try.underlying22 Qyr rfl rfl hi11 (mgt Qa4 hj12) rfl, aid rfl Try.underlying22 Qyr rfl rfl hi11 (mgt Qa4 hj12) rfl, Qbq (vs := [I x9.Width, I x9.Gain]) rfl ts118 Qth rfl (by rfl) rfl, Qc6 (vs := [(z74_41 x9)]) rfl Try.underlying32 Qn4 Qth rfl (by decide) rfl (by decide) (by rfl) (by rfl) (by rfl) rfl, Qkf rfl Try.underlying32 te118 (Base.acc _ _) rfl rfl (by rfl) (Qp6 Qa4 ha13) (Qp5 Qa4 ha13 (by decide)) (Qp4 Qa4) rfl rfl, trivial⟩ ?_
    refine bln ?_
    refine thn ?_
    refine wx1 tbk [] trivial ?_
    refine thn ?_
    exact arm (mto (n := 34) [(1, .ref 0 2 0 0), (2, .ref 1 2 0 0), (3, .ref 2 2 0 0), (4, (I (w64 (y3 + 1))))] [0, 1, 2, 4] [(z74_1 p0), Qx8, (.own 2 [[I p0.Inlet, (.acc 4 118 2 ((y4 ++ ([x9]) : List GPart).map Qa4))]]), .tok] hφ0 (pc (.rn (rqr rfl)) (pc (.rn (rqr rfl)) (pc (.rn (rqr rfl)) (pc rwl pn)))) (qc (spb (lc rwl (lc (.rn (.plain _ (nld Qbg _))) ln))) (qc (spb (lc rwl (lc rwl ln))) (qc (spb (lc rwl (lc (.rn (Qg3 rfl (Qe9 Qbg _))) ln))) (qc .tok qn))))) (ih (w64 (y3 + 1), y4 ++ ([x9])) h)
   ·replace h := Qa0 hc8 h
    refine wfn hc8 (by kernel_rfl) ?_
    refine Qbe ?_
    refine Qap ?_
    refine Qap ?_
    refine Qbd rfl ?_
    refine thn ?_
    exact ⟨(y4), h, (mto (n := 34) [(2, .ref 1 2 0 0), (3, .ref 2 2 0 0)] [1, 2, 3] [Qx8, (.own 2 [[I p0.Inlet, (z74_33 y4)]]), .tok] hφ0 (pc (.rn (rqr rfl)) (pc (.rn (rqr rfl)) pn)) (qc (spb (lc rwl (lc rwl ln))) (qc (spb (lc rwl (lc (.rn (Qg3 rfl (Qe9 Qbg _))) ln))) (qc .tok qn))))⟩
def Qdc (N : Nat) (p0 : GUnit) (k2 : Int → Option Int) : Nat → Int → Int → Option Int
  | 0, _, _ => none
  | n7 + 1, y3, y4 =>
    bif (decide (y4 < (p0.Parts.length : Int))) then
     (getI p0.Parts y4).bind fun x9 =>
     Qdc N p0 k2 n7 (w64 (y3 + x9.Width)) (w64 (y4 + 1))
    else
     k2 (y3)
def Qgf (N : Nat) (p0 : GUnit) : Option Int :=
  Qb2 (fun y1 =>
    some y1) fun k2 : Int → Option Int =>
  Qdc N p0 k2 N 0 0
def z75_0 (p0 : GUnit) : AV := .dat 2 ((p0.Parts : List GPart).map Qa4)
def z75_1 (p0 : GUnit) : Slot := .own 2 [[(I (p0.Inlet)), (z75_0 p0)]]
set_option maxRecDepth 100000 in
set_option maxHeartbeats 4000000 in
theorem Qne (N : Nat) (p0 : GUnit) (r : Int) (h : Qgf N p0 = some r) : Spec Try.prog 16 [(.agg (Qat p0))] [] (I r) [] := by
  refine Qad Try.func16 rfl 0 (nle rfl) (fun X φ0 w0 hφ0 => ?_)
  unfold Qgf at h
  refine wx tbk [] trivial ?_
  refine wx tbk [] trivial ?_
  obtain ⟨k2, hk_k2, h⟩ := jko h
  refine wjn (τ := Int) (fun t => k2 t = some r) (fun y1 => ⟨mk 21 [(3, I y1)], []⟩) (fun y1 h => ?_) ?_
  ·subst hk_k2
   refine wx tbk [] trivial ?_
   refine Qae ?_
   obtain rfl := osi h
   exact fend ⟨[I y1], ⟨rot (by kernel_rfl), trivial⟩, rfl⟩ nll
  ·skip
   refine wx tbk [] trivial ?_
   refine Qah ?_
   refine wmr (mto (n := 21) (l' := [(1, .ref 0 2 0 0), (3, I 0), (4, I 0)]) (own' := [(z75_1 p0)]) [(1, .ref 0 2 0 0), (3, I 0), (4, I 0)] [0] [(z75_1 p0)] hφ0 (pc (.rn (rqr rfl)) (pc rwl (pc rwl pn))) (qc (spb (lc rwl (lc (.rn (.plain _ (nld Qbg _))) ln))) qn)) ?_
   refine Qbw (τ := Int × Int) (fun n t => Qdc N p0 k2 n t.1 t.2 = some r) (fun ⟨y3, y4⟩ => ⟨mk 21 [(1, .ref 0 2 0 0), (3, I y3), (4, I y4)], [(z75_1 p0)]⟩) (fun t h => by rw [Qdc] at h; cases h) (fun n7 ih t h => ?_) N (0, 0) h
   obtain ⟨y3, y4⟩ := t
   rw [Qdc] at h
   skip
   refine wsq ?_
   refine wx tbk [(3, rp [(.tmp 7, (z75_0 p0))] (I ((p0.Parts.length : Int))))] ⟨alm (c := Qa4) (l := p0.Parts) (aln rfl Try.underlying22 rfl), trivial⟩ ?_
   rcases bft ((decide (y4 < (p0.Parts.length : Int)))) with hc8 | hc8
   ·replace h := Qaz hc8 h
    refine wft hc8 (by kernel_rfl) ?_
    refine Qal ?_
    refine thn ?_
    refine wsq ?_
    refine Qah ?_
    obtain ⟨x9, hg10, h⟩ := bno h
    obtain ⟨hi11, hj12⟩ := gsm hg10
    refine wx1 tbk [(4, rp [(.tmp 14, (z75_0 p0)), (.tmp 15, I y4)] (.dptr (Qa4 (x9)) 0))] ⟨aid rfl Try.underlying22 Qyr rfl rfl hi11 (mgt Qa4 hj12) rfl, trivial⟩ ?_
    refine bln ?_
    refine thn ?_
    refine wx1 tbk [] trivial ?_
    refine thn ?_
    exact arm (mto (n := 21) [(1, .ref 0 2 0 0), (3, (I (w64 (y3 + x9.Width)))), (4, (I (w64 (y4 + 1))))] [0] [(z75_1 p0)] hφ0 (pc (.rn (rqr rfl)) (pc rwl (pc rwl pn))) (qc (spb (lc rwl (lc (.rn (.plain _ (nld Qbg _))) ln))) qn)) (ih (w64 (y3 + x9.Width), w64 (y4 + 1)) h)
   ·replace h := Qa0 hc8 h
    refine wfn hc8 (by kernel_rfl) ?_
    refine Qbe ?_
    refine Qap ?_
    refine Qap ?_
    refine Qbd rfl ?_
    refine thn ?_
    exact ⟨(y3), h, (mto (n := 21) [(3, I y3)] [] [] hφ0 (pc rwl pn) qn)⟩
def Qgh (_N : Nat) (p0 : (List Int)) : Option (List Int) :=
  chk (decide ((0 + p0.length) * 8 ≤ 140737488355328)) <|
  some p0
set_option maxRecDepth 100000 in
set_option maxHeartbeats 4000000 in
theorem Qh9 (N : Nat) (p0 : (List Int)) (r : (List Int)) (h : Qgh N p0 = some r) : Spec Try.prog 37 [(.dat 1 (p0.map Qab))] [] (.dat 1 (r.map Qab)) [] := by
  refine Qad Try.func37 rfl 0 (nle rfl) (fun X φ0 w0 hφ0 => ?_)
  unfold Qgh at h
  refine wx tbk [] trivial ?_
  obtain ⟨ha1, h⟩ := cko h
  refine wx tbk [(1, ⟨[((.const (.slice none 0 0)), nilS), (.tmp 3, (.dat 1 ((p0 : List Int).map Qab)))], [(0, .unused)], (.acc 0 3 1 ((p0 : List Int).map Qab)), [(0, .tok)], false⟩)] ⟨Qkf rfl Try.underlying37 te3 (Base.nil) rfl rfl (Qrx Qab Qvt _) (Qx7 Qab ha1) (Qx6 Qab ha1 (by decide)) (app_map0 Qab) rfl rfl, trivial⟩ ?_
  refine Qae ?_
  obtain rfl := osi h
  exact fend ⟨[(.dat 1 ((p0 : List Int).map Qab))], ⟨Qh3 (v := (.acc 0 3 1 ((p0 : List Int).map Qab))) (rot (by kernel_rfl)) Less.acc, trivial⟩, rfl⟩ (nld Qaa _)
end Go.Proofs.Ytlhakkkjgdbdpaa
