/-
  Functions of the program: what they compute, as plain functions, and that they do. No conditions.
-/
import Derived.Test.YtlhakkkjgdbdpaaX5
namespace Go.Proofs.Ytlhakkkjgdbdpaa
open Go.RowKit
def Qgr (_N : Nat) (p0 : Int) (p1 : Int) (p2 : Int) : Option Bool :=
  bif (decide (p0 ≥ p1)) then
   some (decide (p0 ≤ p2))
  else
   some false
set_option maxRecDepth 100000 in
set_option maxHeartbeats 4000000 in
theorem Qdx (N : Nat) (p0 : Int) (p1 : Int) (p2 : Int) (r : Bool) (h : Qgr N p0 p1 p2 = some r) : Spec Try.prog 25 [(I p0), (I p1), (I p2)] [] (B r) [] := by
  refine Qae Try.func25 rfl 0 (nle rfl) (fun X φ0 w0 hφ0 => ?_)
  unfold Qgr at h
  refine wx tbk [] trivial ?_
  rcases bft ((decide (p0 ≥ p1))) with hb1 | hb1
  ·replace h := Qaw hb1 h
   refine wx tbk [(3, rp [(.tmp 9, (B ((decide (p0 ≥ p1)))))] (B true))] ⟨asb hb1 (amv rfl), trivial⟩ ?_
   refine Qag ?_
   obtain rfl := osi h
   exact fend ⟨[(B ((decide (p0 ≤ p2))))], ⟨rot (by kernel_rfl), trivial⟩, rfl⟩ nll
  ·replace h := Qax hb1 h
   refine wx tbk [(3, rp [(.tmp 9, (B ((decide (p0 ≥ p1)))))] (B false))] ⟨asb hb1 (amv rfl), trivial⟩ ?_
   refine Qag ?_
   obtain rfl := osi h
   exact fend ⟨[B false], ⟨rot (by kernel_rfl), trivial⟩, rfl⟩ nll
def Qdl (N : Nat) (p0 : GUnit) (k1 : Unit → Option Bool) : Nat → Int → Option Bool
  | 0, _ => none
  | n8 + 1, y6 =>
    bif (decide (y6 < (p0.Parts.length : Int))) then
     (getI p0.Parts y6).bind fun x10 =>
     (Qgr N x10.Width 1 100000).bind fun x15 =>
     bif (!x15) then
      some false
     else
      (Qgr N x10.Gain 0 1000).bind fun x18 =>
      bif (!x18) then
       some false
      else
       bif (decide (y6 > 0)) then
        (getI p0.Parts (w64 (y6 - 1))).bind fun x21 =>
        bif (decide (x10.Gain > x21.Gain)) then
         some false
        else
         Qdl N p0 k1 n8 (w64 (y6 + 1))
       else
        Qdl N p0 k1 n8 (w64 (y6 + 1))
    else
     k1 ()
def Qiq (N : Nat) (p0 : GUnit) : Option Bool :=
  Qbr (fun _ =>
    (Qgr N p0.Inlet 0 5).bind fun x3 =>
    bif x3 then
     bif (decide ((p0.Parts.length : Int) ≥ 1)) then
      some (decide ((p0.Parts.length : Int) ≤ 8))
     else
      some false
    else
     some false) fun k1 : Unit → Option Bool =>
  Qdl N p0 k1 N 0
def Qvc (p0 : GUnit) : AV := .dat 2 ((p0.Parts : List GPart).map Qau)
def Qvb (p0 : GUnit) : Slot := .own 2 [[(I (p0.Inlet)), (Qvc p0)]]
set_option maxRecDepth 100000 in
set_option maxHeartbeats 4000000 in
theorem Qly (N : Nat) (p0 : GUnit) (r : Bool) (h : Qiq N p0 = some r) : Spec Try.prog 15 [(.agg (Qan p0))] [] (B r) [] := by
  refine Qae Try.func15 rfl 0 (nle rfl) (fun X φ0 w0 hφ0 => ?_)
  unfold Qiq at h
  refine wx tbk [] trivial ?_
  obtain ⟨k1, hk_k1, h⟩ := jko h
  refine wjn (τ := Unit) (fun t => k1 t = some r) (fun _ => ⟨mk 58 [(1, .ref 0 2 0 0)], [(Qvb p0)]⟩) (fun t h => ?_) ?_
  ·subst hk_k1
   obtain ⟨x3, hf2, h⟩ := bno h
   rcases bft (x3) with hb4 | hb4
   ·replace h := Qaw hb4 h
    rcases bft ((decide ((p0.Parts.length : Int) ≥ 1))) with hb5 | hb5
    ·replace h := Qaw hb5 h
     refine wx tbk [(2, rp [fu 25, (.tmp 44, I p0.Inlet), ci 0, ci 5] (B x3)), (3, rp [(.tmp 45, B x3)] (B true)), (6, rp [(.tmp 46, B true), (.tmp 48, (Qvc p0))] (I ((p0.Parts.length : Int)))), (9, rp [(.tmp 51, (B ((decide ((p0.Parts.length : Int) ≥ 1)))))] (B true)), (12, rp [(.tmp 52, B true), (.tmp 54, (Qvc p0))] (I ((p0.Parts.length : Int))))] ⟨apc (first := []) (cap := []) (vs := [I p0.Inlet, I 0, I 5]) rfl Qic (Qdx N p0.Inlet 0 5 _ hf2) rfl rfl (nlc nll (nlc nll (nlc nll nl0))) nll rfl, asb hb4 (amv rfl), ag_ (alm (c := Qau) (l := p0.Parts) (aln rfl Try.underlying22 rfl)), asb hb5 (amv rfl), ag_ (alm (c := Qau) (l := p0.Parts) (aln rfl Try.underlying22 rfl)), trivial⟩ ?_
     refine Qag ?_
     obtain rfl := osi h
     exact fend ⟨[(B ((decide ((p0.Parts.length : Int) ≤ 8))))], ⟨rot (by kernel_rfl), trivial⟩, rfl⟩ nll
    ·replace h := Qax hb5 h
     refine wx tbk [(2, rp [fu 25, (.tmp 44, I p0.Inlet), ci 0, ci 5] (B x3)), (3, rp [(.tmp 45, B x3)] (B true)), (6, rp [(.tmp 46, B true), (.tmp 48, (Qvc p0))] (I ((p0.Parts.length : Int)))), (9, rp [(.tmp 51, (B ((decide ((p0.Parts.length : Int) ≥ 1)))))] (B false))] ⟨apc (first := []) (cap := []) (vs := [I p0.Inlet, I 0, I 5]) rfl Qic (Qdx N p0.Inlet 0 5 _ hf2) rfl rfl (nlc nll (nlc nll (nlc nll nl0))) nll rfl, asb hb4 (amv rfl), ag_ (alm (c := Qau) (l := p0.Parts) (aln rfl Try.underlying22 rfl)), asb hb5 (amv rfl), trivial⟩ ?_
     refine Qag ?_
     obtain rfl := osi h
     exact fend ⟨[B false], ⟨rot (by kernel_rfl), trivial⟩, rfl⟩ nll
   ·replace h := Qax hb4 h
    refine wx tbk [(2, rp [fu 25, (.tmp 44, I p0.Inlet), ci 0, ci 5] (B x3)), (3, rp [(.tmp 45, B x3)] (B false))] ⟨apc (first := []) (cap := []) (vs := [I p0.Inlet, I 0, I 5]) rfl Qic (Qdx N p0.Inlet 0 5 _ hf2) rfl rfl (nlc nll (nlc nll (nlc nll nl0))) nll rfl, asb hb4 (amv rfl), trivial⟩ ?_
    refine Qag ?_
    obtain rfl := osi h
    exact fend ⟨[B false], ⟨rot (by kernel_rfl), trivial⟩, rfl⟩ nll
  ·skip
   refine wx tbk [] trivial ?_
   refine Qad ?_
   refine wmr (mto (n := 58) (l' := [(1, .ref 0 2 0 0), (3, I 0)]) (own' := [(Qvb p0)]) [(1, .ref 0 2 0 0), (3, I 0)] [0] [(Qvb p0)] hφ0 (pc (.rn (rqr rfl)) (pc rwl pn)) (qc (spb (lc rwl (lc (.rn (.plain _ (nld Qbf _))) ln))) qn)) ?_
   refine Qbj (τ := Int) (fun n t => Qdl N p0 k1 n t = some r) (fun y6 => ⟨mk 58 [(1, .ref 0 2 0 0), (3, I y6)], [(Qvb p0)]⟩) (fun t h => by rw [Qdl] at h; cases h) (fun n8 ih y6 h => ?_) N (0) h
   rw [Qdl] at h
   skip
   refine wsq ?_
   refine wx tbk [(3, rp [(.tmp 7, (Qvc p0))] (I ((p0.Parts.length : Int))))] ⟨alm (c := Qau) (l := p0.Parts) (aln rfl Try.underlying22 rfl), trivial⟩ ?_
   rcases bft ((decide (y6 < (p0.Parts.length : Int)))) with hc9 | hc9
   ·replace h := Qaw hc9 h
    refine wft hc9 (by kernel_rfl) ?_
    refine Qak ?_
    refine thn ?_
    refine wsq ?_
    refine Qad ?_
    obtain ⟨x10, hg11, h⟩ := bno h
    obtain ⟨hi12, hj13⟩ := gsm hg11
    refine wx tbk [(3, rp [(.tmp 13, (Qvc p0)), (.tmp 14, I y6)] (.dptr (Qau (x10)) 0))] ⟨aid rfl Try.underlying22 Qo4 rfl rfl hi12 (mgt Qau hj13) rfl, trivial⟩ ?_
    obtain ⟨x15, hf14, h⟩ := bno h
    rcases bft ((!x15)) with hb16 | hb16
    ·replace h := Qaw hb16 h
     refine wxd tbk [(2, rp [fu 25, (.tmp 18, I x10.Width), ci 1, ci 100000] (B x15)), (4, rp [(.tmp 20, (B ((!x15))))] (B true))] ⟨apc (first := []) (cap := []) (vs := [I x10.Width, I 1, I 100000]) rfl Qic (Qdx N x10.Width 1 100000 _ hf14) rfl rfl (nlc nll (nlc nll (nlc nll nl0))) nll rfl, asb hb16 (amv rfl), trivial⟩ ?_
     refine Qf7 (by kernel_rfl) ?_
     refine wx tbk [] trivial ?_
     refine Qag ?_
     refine Qbz ?_
     refine Qay ?_
     refine Qay ?_
     refine Qbz ?_
     refine Qay ?_
     obtain rfl := osi h
     exact fend ⟨[B false], ⟨rot (by kernel_rfl), trivial⟩, rfl⟩ nll
    ·replace h := Qax hb16 h
     obtain ⟨x18, hf17, h⟩ := bno h
     rcases bft ((!x18)) with hb19 | hb19
     ·replace h := Qaw hb19 h
      refine wxd tbk [(2, rp [fu 25, (.tmp 18, I x10.Width), ci 1, ci 100000] (B x15)), (4, rp [(.tmp 20, (B ((!x15))))] (B false)), (7, rp [(.tmp 21, B false), fu 25, (.tmp 23, I x10.Gain), ci 0, ci 1000] (B x18)), (10, rp [(.tmp 26, (B ((!x18))))] (B true))] ⟨apc (first := []) (cap := []) (vs := [I x10.Width, I 1, I 100000]) rfl Qic (Qdx N x10.Width 1 100000 _ hf14) rfl rfl (nlc nll (nlc nll (nlc nll nl0))) nll rfl, asb hb16 (amv rfl), ag_ (apc (first := []) (cap := []) (vs := [I x10.Gain, I 0, I 1000]) rfl Qic (Qdx N x10.Gain 0 1000 _ hf17) rfl rfl (nlc nll (nlc nll (nlc nll nl0))) nll rfl), asb hb19 (amv rfl), trivial⟩ ?_
      refine Qf7 (by kernel_rfl) ?_
      refine wx tbk [] trivial ?_
      refine Qag ?_
      refine Qbz ?_
      refine Qay ?_
      refine Qay ?_
      refine Qbz ?_
      refine Qay ?_
      obtain rfl := osi h
      exact fend ⟨[B false], ⟨rot (by kernel_rfl), trivial⟩, rfl⟩ nll
     ·replace h := Qax hb19 h
      rcases bft ((decide (y6 > 0))) with hb20 | hb20
      ·replace h := Qaw hb20 h
       obtain ⟨x21, hg22, h⟩ := bno h
       obtain ⟨hi23, hj24⟩ := gsm hg22
       refine wxd tbk [(2, rp [fu 25, (.tmp 18, I x10.Width), ci 1, ci 100000] (B x15)), (4, rp [(.tmp 20, (B ((!x15))))] (B false)), (7, rp [(.tmp 21, B false), fu 25, (.tmp 23, I x10.Gain), ci 0, ci 1000] (B x18)), (10, rp [(.tmp 26, (B ((!x18))))] (B false)), (13, rp [(.tmp 27, B false), (.tmp 29, (B ((decide (y6 > 0)))))] (B true)), (20, rp [(.tmp 30, B true), (.tmp 34, (Qvc p0)), (.tmp 36, (I (w64 (y6 - 1))))] (.dptr (Qau (x21)) 0))] ⟨apc (first := []) (cap := []) (vs := [I x10.Width, I 1, I 100000]) rfl Qic (Qdx N x10.Width 1 100000 _ hf14) rfl rfl (nlc nll (nlc nll (nlc nll nl0))) nll rfl, asb hb16 (amv rfl), ag_ (apc (first := []) (cap := []) (vs := [I x10.Gain, I 0, I 1000]) rfl Qic (Qdx N x10.Gain 0 1000 _ hf17) rfl rfl (nlc nll (nlc nll (nlc nll nl0))) nll rfl), asb hb19 (amv rfl), asb hb20 (ag_ (amv rfl)), ag_ (aid rfl Try.underlying22 Qo4 rfl rfl hi23 (mgt Qau hj24) rfl), trivial⟩ ?_
       rcases bft ((decide (x10.Gain > x21.Gain))) with hc25 | hc25
       ·replace h := Qaw hc25 h
        refine wft hc25 (by kernel_rfl) ?_
        refine wx tbk [] trivial ?_
        refine Qag ?_
        refine Qbz ?_
        refine Qay ?_
        refine Qay ?_
        refine Qbz ?_
        refine Qay ?_
        obtain rfl := osi h
        exact fend ⟨[B false], ⟨rot (by kernel_rfl), trivial⟩, rfl⟩ nll
       ·replace h := Qax hc25 h
        refine wfn hc25 (by kernel_rfl) ?_
        refine Qak ?_
        refine bln ?_
        refine thn ?_
        refine wx1 tbk [] trivial ?_
        refine thn ?_
        exact arm (mto (n := 58) [(1, .ref 0 2 0 0), (3, (I (w64 (y6 + 1))))] [0] [(Qvb p0)] hφ0 (pc (.rn (rqr rfl)) (pc rwl pn)) (qc (spb (lc rwl (lc (.rn (.plain _ (nld Qbf _))) ln))) qn)) (ih (w64 (y6 + 1)) h)
      ·replace h := Qax hb20 h
       refine wxd tbk [(2, rp [fu 25, (.tmp 18, I x10.Width), ci 1, ci 100000] (B x15)), (4, rp [(.tmp 20, (B ((!x15))))] (B false)), (7, rp [(.tmp 21, B false), fu 25, (.tmp 23, I x10.Gain), ci 0, ci 1000] (B x18)), (10, rp [(.tmp 26, (B ((!x18))))] (B false)), (13, rp [(.tmp 27, B false), (.tmp 29, (B ((decide (y6 > 0)))))] (B false))] ⟨apc (first := []) (cap := []) (vs := [I x10.Width, I 1, I 100000]) rfl Qic (Qdx N x10.Width 1 100000 _ hf14) rfl rfl (nlc nll (nlc nll (nlc nll nl0))) nll rfl, asb hb16 (amv rfl), ag_ (apc (first := []) (cap := []) (vs := [I x10.Gain, I 0, I 1000]) rfl Qic (Qdx N x10.Gain 0 1000 _ hf17) rfl rfl (nlc nll (nlc nll (nlc nll nl0))) nll rfl), asb hb19 (amv rfl), asb hb20 (ag_ (amv rfl)), trivial⟩ ?_
       refine Qg6 (by kernel_rfl) ?_
       refine Qak ?_
       refine bln ?_
       refine thn ?_
       refine wx1 tbk [] trivial ?_
       refine thn ?_
       exact arm (mto (n := 58) [(1, .ref 0 2 0 0), (3, (I (w64 (y6 + 1))))] [0] [(Qvb p0)] hφ0 (pc (.rn (rqr rfl)) (pc rwl pn)) (qc (spb (lc rwl (lc (.rn (.plain _ (nld Qbf _))) ln))) qn)) (ih (w64 (y6 + 1)) h)
   ·replace h := Qax hc9 h
    refine wfn hc9 (by kernel_rfl) ?_
    refine Qa3 ?_
    refine Qam ?_
    refine Qam ?_
    refine Qa2 rfl ?_
    refine thn ?_
    exact ⟨(), h, (mto (n := 58) [(1, .ref 0 2 0 0)] [0] [(Qvb p0)] hφ0 (pc (.rn (rqr rfl)) pn) (qc (spb (lc rwl (lc (.rn (.plain _ (nld Qbf _))) ln))) qn))⟩
def Qek (N : Nat) (p0 : GUnit) (k2 : (List GPart) → Option GUnit) : Nat → Int → (List GPart) → Option GUnit
  | 0, _, _ => none
  | n7 + 1, y3, y4 =>
    bif (decide (y3 < (p0.Parts.length : Int))) then
     (getI p0.Parts y3).bind fun x9 =>
     chk (decide ((y4.length + ([x9]).length) * 16 ≤ 140737488355328)) <|
     Qek N p0 k2 n7 (w64 (y3 + 1)) (y4 ++ ([x9]))
    else
     k2 (y4)
def Qju (N : Nat) (p0 : GUnit) : Option GUnit :=
  Qbr (fun y1 =>
    some (⟨p0.Inlet, y1⟩ : GUnit)) fun k2 : (List GPart) → Option GUnit =>
  Qek N p0 k2 N 0 ([])
def Qyq : Slot := .own 2 [[(I (0)), nilS]]
def z74_26 (y1 : (List GPart)) : AV := .acc 2 118 2 ((y1 : List GPart).map Qau)
def z74_0 (p0 : GUnit) : AV := .dat 2 ((p0.Parts : List GPart).map Qau)
def z74_1 (p0 : GUnit) : Slot := .own 2 [[(I (p0.Inlet)), (z74_0 p0)]]
def z74_33 (y4 : (List GPart)) : AV := .acc 3 118 2 ((y4 : List GPart).map Qau)
def z74_41 (x9 : GPart) : AV := .agg [(I (x9.Width)), (I (x9.Gain))]
set_option maxRecDepth 100000 in
set_option maxHeartbeats 4000000 in
theorem Qqv (N : Nat) (p0 : GUnit) (r : GUnit) (h : Qju N p0 = some r) : Spec Try.prog 19 [(.agg (Qan p0))] [] (.agg (Qan r)) [] := by
  refine Qae Try.func19 rfl 0 (nle rfl) (fun X φ0 w0 hφ0 => ?_)
  unfold Qju at h
  refine wx tbk [] trivial ?_
  refine wx tbk [(2, rp [(.tmp 6, I p0.Inlet)] (.agg [I p0.Inlet, nilS]))] ⟨Qbt (vs := [I p0.Inlet]) rfl ts34 tz34 rfl (by rfl) rfl, trivial⟩ ?_
  obtain ⟨k2, hk_k2, h⟩ := jko h
  refine wjn (τ := (List GPart)) (fun t => k2 t = some r) (fun y1 => ⟨mk 34 [(2, .ref 0 2 0 0), (3, .ref 1 2 0 0)], [Qyq, (.own 2 [[I p0.Inlet, (z74_26 y1)]]), .tok]⟩) (fun y1 h => ?_) ?_
  ·subst hk_k2
   refine wx tbk [] trivial ?_
   refine Qag ?_
   obtain rfl := osi h
   exact fend ⟨[(.agg [I p0.Inlet, (.dat 2 ((y1 : List GPart).map Qau))])], ⟨Qh9 (v := (.agg [I p0.Inlet, (z74_26 y1)])) (Qgc (n := 0) (m := 2) (j := 0) (i := 0) (xs := [[I p0.Inlet, (z74_26 y1)]]) (by kernel_rfl) (by kernel_rfl) ti34 (by decide) rfl (nle rfl) rfl) (Less.agg ⟨lrf, Less.acc, trivial⟩), trivial⟩, rfl⟩ (NLt.agg _ (nlc nll (nlc (nld Qbf _) nl0)))
  ·skip
   refine wx tbk [] trivial ?_
   refine Qad ?_
   refine wmr (Mor.trans (mor_nilb (n := 3) (ty := 118) (m := 2) (q := 2) (mq := 2) (c := [I p0.Inlet, nilS]) 1 (by kernel_rfl) (by kernel_rfl) (by kernel_rfl) (by decide)) (mto (n := 34) (l' := [(1, .ref 0 2 0 0), (2, .ref 1 2 0 0), (3, .ref 2 2 0 0), (4, I 0)]) (own' := [(z74_1 p0), Qyq, (.own 2 [[I p0.Inlet, (.acc 3 118 2 ((([]) : List GPart).map Qau))]]), .tok]) [(1, .ref 0 2 0 0), (2, .ref 1 2 0 0), (3, .ref 2 2 0 0), (4, I 0)] [0, 1, 2, 3] [(z74_1 p0), Qyq, (.own 2 [[I p0.Inlet, (.acc 3 118 2 (([] : List GPart).map Qau))]]), .tok] hφ0 (pc (.rn (rqr rfl)) (pc (.rn (rqr rfl)) (pc (.rn (rqr rfl)) (pc rwl pn)))) (qc (spb (lc rwl (lc (.rn (.plain _ (nld Qbf _))) ln))) (qc (spb (lc rwl (lc rwl ln))) (qc (spb (lc rwl (lc (.rn (Qhd rfl (Qft Qbf _))) ln))) (qc .tok qn)))))) ?_
   refine Qbj (τ := Int × (List GPart)) (fun n t => Qek N p0 k2 n t.1 t.2 = some r) (fun ⟨y3, y4⟩ => ⟨mk 34 [(1, .ref 0 2 0 0), (2, .ref 1 2 0 0), (3, .ref 2 2 0 0), (4, I y3)], [(z74_1 p0), Qyq, (.own 2 [[I p0.Inlet, (z74_33 y4)]]), .tok]⟩) (fun t h => by rw [Qek] at h; cases h) (fun n7 ih t h => ?_) N (0, []) h
   obtain ⟨y3, y4⟩ := t
   rw [Qek] at h
   skip
   refine wsq ?_
   refine wx tbk [(3, rp [(.tmp 10, (z74_0 p0))] (I ((p0.Parts.length : Int))))] ⟨alm (c := Qau) (l := p0.Parts) (aln rfl Try.underlying22 rfl), trivial⟩ ?_
   rcases bft ((decide (y3 < (p0.Parts.length : Int)))) with hc8 | hc8
   ·replace h := Qaw hc8 h
    refine wft hc8 (by kernel_rfl) ?_
    refine Qak ?_
    refine thn ?_
    refine wsq ?_
    refine Qad ?_
    obtain ⟨x9, hg10, h⟩ := bno h
    obtain ⟨hi11, hj12⟩ := gsm hg10
    obtain ⟨ha13, h⟩ := cko h
    refine wy1 tbk [(5, rp [(.tmp 18, (z74_0 p0)), (.tmp 19, I y3)] (.dptr (Qau (x9)) 0)), (11, rp [(.tmp 24, (z74_0 p0)), (.tmp 25, I y3)] (.dptr (Qau (x9)) 0)), (14, rp [(.tmp 22, I x9.Width), (.tmp 28, I x9.Gain)] (z74_41 x9)), (15, rp [(.tmp 29, (z74_41 x9))] (.dat 2 (([x9] : List GPart).map Qau))), (16, ⟨[(.tmp 16, (z74_33 y4)), (.tmp 30, (.dat 2 (([x9] : List GPart).map Qau)))], [(3, .tok), (4, .unused)], (.acc 4 118 2 ((y4 ++ ([x9]) : List GPart).map Qau)), [(3, .dead), (4, .tok)], false⟩)] ⟨aid rfl Try.underlying22 Qo4 rfl rfl hi11 (mgt Qau hj12) rfl, aid rfl Try.underlying22 Qo4 rfl rfl hi11 (mgt Qau hj12) rfl, Qbt (vs := [I x9.Width, I x9.Gain]) rfl ts118 Qt3 rfl (by rfl) rfl, Qc3 (vs := [(z74_41 x9)]) rfl Try.underlying32 Qof Qt3 rfl (by decide) rfl (by decide) (by rfl) (by rfl) (by rfl) rfl, Qkv rfl Try.underlying32 te118 (Base.acc _ _) rfl rfl (by rfl) (Qqr Qau ha13) (Qqq Qau ha13 (by decide)) (Qqp Qau) rfl rfl, trivial⟩ ?_
    refine bln ?_
    refine thn ?_
    refine wx1 tbk [] trivial ?_
    refine thn ?_
    exact arm (mto (n := 34) [(1, .ref 0 2 0 0), (2, .ref 1 2 0 0), (3, .ref 2 2 0 0), (4, (I (w64 (y3 + 1))))] [0, 1, 2, 4] [(z74_1 p0), Qyq, (.own 2 [[I p0.Inlet, (.acc 4 118 2 ((y4 ++ ([x9]) : List GPart).map Qau))]]), .tok] hφ0 (pc (.rn (rqr rfl)) (pc (.rn (rqr rfl)) (pc (.rn (rqr rfl)) (pc rwl pn)))) (qc (spb (lc rwl (lc (.rn (.plain _ (nld Qbf _))) ln))) (qc (spb (lc rwl (lc rwl ln))) (qc (spb (lc rwl (lc (.rn (Qhd rfl (Qft Qbf _))) ln))) (qc .tok qn))))) (ih (w64 (y3 + 1), y4 ++ ([x9])) h)
   ·replace h := Qax hc8 h
    refine wfn hc8 (by kernel_rfl) ?_
    refine Qa3 ?_
    refine Qam ?_
    refine Qam ?_
    refine Qa2 rfl ?_
    refine thn ?_
    exact ⟨(y4), h, (mto (n := 34) [(2, .ref 1 2 0 0), (3, .ref 2 2 0 0)] [1, 2, 3] [Qyq, (.own 2 [[I p0.Inlet, (z74_33 y4)]]), .tok] hφ0 (pc (.rn (rqr rfl)) (pc (.rn (rqr rfl)) pn)) (qc (spb (lc rwl (lc rwl ln))) (qc (spb (lc rwl (lc (.rn (Qhd rfl (Qft Qbf _))) ln))) (qc .tok qn))))⟩
def Qc9 (N : Nat) (p0 : GUnit) (k2 : Int → Option Int) : Nat → Int → Int → Option Int
  | 0, _, _ => none
  | n7 + 1, y3, y4 =>
    bif (decide (y4 < (p0.Parts.length : Int))) then
     (getI p0.Parts y4).bind fun x9 =>
     Qc9 N p0 k2 n7 (w64 (y3 + x9.Width)) (w64 (y4 + 1))
    else
     k2 (y3)
def Qgq (N : Nat) (p0 : GUnit) : Option Int :=
  Qbr (fun y1 =>
    some y1) fun k2 : Int → Option Int =>
  Qc9 N p0 k2 N 0 0
def z75_0 (p0 : GUnit) : AV := .dat 2 ((p0.Parts : List GPart).map Qau)
def z75_1 (p0 : GUnit) : Slot := .own 2 [[(I (p0.Inlet)), (z75_0 p0)]]
set_option maxRecDepth 100000 in
set_option maxHeartbeats 4000000 in
theorem Qnu (N : Nat) (p0 : GUnit) (r : Int) (h : Qgq N p0 = some r) : Spec Try.prog 16 [(.agg (Qan p0))] [] (I r) [] := by
  refine Qae Try.func16 rfl 0 (nle rfl) (fun X φ0 w0 hφ0 => ?_)
  unfold Qgq at h
  refine wx tbk [] trivial ?_
  refine wx tbk [] trivial ?_
  obtain ⟨k2, hk_k2, h⟩ := jko h
  refine wjn (τ := Int) (fun t => k2 t = some r) (fun y1 => ⟨mk 21 [(3, I y1)], []⟩) (fun y1 h => ?_) ?_
  ·subst hk_k2
   refine wx tbk [] trivial ?_
   refine Qag ?_
   obtain rfl := osi h
   exact fend ⟨[I y1], ⟨rot (by kernel_rfl), trivial⟩, rfl⟩ nll
  ·skip
   refine wx tbk [] trivial ?_
   refine Qad ?_
   refine wmr (mto (n := 21) (l' := [(1, .ref 0 2 0 0), (3, I 0), (4, I 0)]) (own' := [(z75_1 p0)]) [(1, .ref 0 2 0 0), (3, I 0), (4, I 0)] [0] [(z75_1 p0)] hφ0 (pc (.rn (rqr rfl)) (pc rwl (pc rwl pn))) (qc (spb (lc rwl (lc (.rn (.plain _ (nld Qbf _))) ln))) qn)) ?_
   refine Qbj (τ := Int × Int) (fun n t => Qc9 N p0 k2 n t.1 t.2 = some r) (fun ⟨y3, y4⟩ => ⟨mk 21 [(1, .ref 0 2 0 0), (3, I y3), (4, I y4)], [(z75_1 p0)]⟩) (fun t h => by rw [Qc9] at h; cases h) (fun n7 ih t h => ?_) N (0, 0) h
   obtain ⟨y3, y4⟩ := t
   rw [Qc9] at h
   skip
   refine wsq ?_
   refine wx tbk [(3, rp [(.tmp 7, (z75_0 p0))] (I ((p0.Parts.length : Int))))] ⟨alm (c := Qau) (l := p0.Parts) (aln rfl Try.underlying22 rfl), trivial⟩ ?_
   rcases bft ((decide (y4 < (p0.Parts.length : Int)))) with hc8 | hc8
   ·replace h := Qaw hc8 h
    refine wft hc8 (by kernel_rfl) ?_
    refine Qak ?_
    refine thn ?_
    refine wsq ?_
    refine Qad ?_
    obtain ⟨x9, hg10, h⟩ := bno h
    obtain ⟨hi11, hj12⟩ := gsm hg10
    refine wx1 tbk [(4, rp [(.tmp 14, (z75_0 p0)), (.tmp 15, I y4)] (.dptr (Qau (x9)) 0))] ⟨aid rfl Try.underlying22 Qo4 rfl rfl hi11 (mgt Qau hj12) rfl, trivial⟩ ?_
    refine bln ?_
    refine thn ?_
    refine wx1 tbk [] trivial ?_
    refine thn ?_
    exact arm (mto (n := 21) [(1, .ref 0 2 0 0), (3, (I (w64 (y3 + x9.Width)))), (4, (I (w64 (y4 + 1))))] [0] [(z75_1 p0)] hφ0 (pc (.rn (rqr rfl)) (pc rwl (pc rwl pn))) (qc (spb (lc rwl (lc (.rn (.plain _ (nld Qbf _))) ln))) qn)) (ih (w64 (y3 + x9.Width), w64 (y4 + 1)) h)
   ·replace h := Qax hc8 h
    refine wfn hc8 (by kernel_rfl) ?_
    refine Qa3 ?_
    refine Qam ?_
    refine Qam ?_
    refine Qa2 rfl ?_
    refine thn ?_
    exact ⟨(y3), h, (mto (n := 21) [(3, I y3)] [] [] hφ0 (pc rwl pn) qn)⟩
def Qd0 (N : Nat) (p0 : GUnit) (k2 : Int → Option Int) : Nat → Int → Int → Int → Option Int
  | 0, _, _, _ => none
  | n9 + 1, y3, y4, y5 =>
    bif (decide (y5 < (p0.Parts.length : Int))) then
     (getI p0.Parts y5).bind fun x11 =>
     (some (if x11.Width < y3 then x11.Width else y3)).bind fun x15 =>
     (some (w64 (y4 + (w64 (x15 * x11.Gain))))).bind fun x17 =>
     Qd0 N p0 k2 n9 (w64 (y3 - x15)) x17 (w64 (y5 + 1))
    else
     k2 (y4)
def Qir (N : Nat) (p0 : GUnit) (p1 : Int) : Option Int :=
  Qbr (fun y1 =>
    some y1) fun k2 : Int → Option Int =>
  Qd0 N p0 k2 N p1 0 0
def z76_0 (p0 : GUnit) : AV := .dat 2 ((p0.Parts : List GPart).map Qau)
def z76_1 (p0 : GUnit) : Slot := .own 2 [[(I (p0.Inlet)), (z76_0 p0)]]
set_option maxRecDepth 100000 in
set_option maxHeartbeats 4000000 in
theorem Qpy (N : Nat) (p0 : GUnit) (p1 : Int) (r : Int) (h : Qir N p0 p1 = some r) : Spec Try.prog 26 [(.agg (Qan p0)), (I p1)] [] (I r) [] := by
  refine Qae Try.func26 rfl 0 (nle rfl) (fun X φ0 w0 hφ0 => ?_)
  unfold Qir at h
  refine wx tbk [] trivial ?_
  refine wx tbk [] trivial ?_
  obtain ⟨k2, hk_k2, h⟩ := jko h
  refine wjn (τ := Int) (fun t => k2 t = some r) (fun y1 => ⟨mk 37 [(5, I y1)], []⟩) (fun y1 h => ?_) ?_
  ·subst hk_k2
   refine wx tbk [] trivial ?_
   refine Qag ?_
   obtain rfl := osi h
   exact fend ⟨[I y1], ⟨rot (by kernel_rfl), trivial⟩, rfl⟩ nll
  ·skip
   refine wx tbk [] trivial ?_
   refine Qad ?_
   refine wmr (mto (n := 37) (l' := [(1, I p1), (2, .ref 0 2 0 0), (5, I 0), (6, I 0)]) (own' := [(z76_1 p0)]) [(1, I p1), (2, .ref 0 2 0 0), (5, I 0), (6, I 0)] [0] [(z76_1 p0)] hφ0 (pc rwl (pc (.rn (rqr rfl)) (pc rwl (pc rwl pn)))) (qc (spb (lc rwl (lc (.rn (.plain _ (nld Qbf _))) ln))) qn)) ?_
   refine Qbj (τ := Int × Int × Int) (fun n t => Qd0 N p0 k2 n t.1 t.2.1 t.2.2 = some r) (fun ⟨y3, y4, y5⟩ => ⟨mk 37 [(1, I y3), (2, .ref 0 2 0 0), (5, I y4), (6, I y5)], [(z76_1 p0)]⟩) (fun t h => by rw [Qd0] at h; cases h) (fun n9 ih t h => ?_) N (p1, 0, 0) h
   obtain ⟨y3, y4, y5⟩ := t
   rw [Qd0] at h
   skip
   refine wsq ?_
   refine wx tbk [(3, rp [(.tmp 10, (z76_0 p0))] (I ((p0.Parts.length : Int))))] ⟨alm (c := Qau) (l := p0.Parts) (aln rfl Try.underlying22 rfl), trivial⟩ ?_
   rcases bft ((decide (y5 < (p0.Parts.length : Int)))) with hc10 | hc10
   ·replace h := Qaw hc10 h
    refine wft hc10 (by kernel_rfl) ?_
    refine Qak ?_
    refine thn ?_
    refine wsq ?_
    refine Qad ?_
    obtain ⟨x11, hg12, h⟩ := bno h
    obtain ⟨hi13, hj14⟩ := gsm hg12
    obtain ⟨x15, hl16, h⟩ := bno h
    refine wx tbk [(4, rp [(.tmp 17, (z76_0 p0)), (.tmp 18, I y5)] (.dptr (Qau (x11)) 0)), (7, rp [(.tmp 15, I y3), (.tmp 21, I x11.Width)] (I ((if x11.Width < y3 then x11.Width else y3)))), (8, rp [(.tmp 22, (I ((if x11.Width < y3 then x11.Width else y3))))] (I x15))] ⟨aid rfl Try.underlying22 Qo4 rfl rfl hi13 (mgt Qau hj14) rfl, Qku rfl, Qed hl16 (aas rfl), trivial⟩ ?_
    obtain ⟨x17, hl18, h⟩ := bno h
    refine wx tbk [(5, rp [(.tmp 26, (z76_0 p0)), (.tmp 27, I y5)] (.dptr (Qau (x11)) 0)), (10, rp [(.tmp 32, (I (w64 (y4 + (w64 (x15 * x11.Gain))))))] (I x17))] ⟨aid rfl Try.underlying22 Qo4 rfl rfl hi13 (mgt Qau hj14) rfl, Qed hl18 (aas rfl), trivial⟩ ?_
    refine wx1 tbk [] trivial ?_
    refine bln ?_
    refine thn ?_
    refine wx1 tbk [] trivial ?_
    refine thn ?_
    exact arm (mto (n := 37) [(1, (I (w64 (y3 - x15)))), (2, .ref 0 2 0 0), (5, I x17), (6, (I (w64 (y5 + 1))))] [0] [(z76_1 p0)] hφ0 (pc rwl (pc (.rn (rqr rfl)) (pc rwl (pc rwl pn)))) (qc (spb (lc rwl (lc (.rn (.plain _ (nld Qbf _))) ln))) qn)) (ih (w64 (y3 - x15), x17, w64 (y5 + 1)) h)
   ·replace h := Qax hc10 h
    refine wfn hc10 (by kernel_rfl) ?_
    refine Qa3 ?_
    refine Qam ?_
    refine Qam ?_
    refine Qa2 rfl ?_
    refine thn ?_
    exact ⟨(y4), h, (mto (n := 37) [(5, I y4)] [] [] hφ0 (pc rwl pn) qn)⟩
def Qj5 (_N : Nat) (p0 : GUnit) : Option Bool :=
  some (decide ((p0.Parts.length : Int) ≤ 10))
def z78_0 (p0 : GUnit) : AV := .dat 2 ((p0.Parts : List GPart).map Qau)
set_option maxRecDepth 100000 in
set_option maxHeartbeats 4000000 in
theorem Qqb (N : Nat) (p0 : GUnit) (r : Bool) (h : Qj5 N p0 = some r) : Spec Try.prog 23 [(.agg (Qan p0))] [] (B r) [] := by
  refine Qae Try.func23 rfl 0 (nle rfl) (fun X φ0 w0 hφ0 => ?_)
  unfold Qj5 at h
  refine wx tbk [] trivial ?_
  refine wx tbk [(2, rp [(.tmp 4, (z78_0 p0))] (I ((p0.Parts.length : Int))))] ⟨alm (c := Qau) (l := p0.Parts) (aln rfl Try.underlying22 rfl), trivial⟩ ?_
  refine Qag ?_
  obtain rfl := osi h
  exact fend ⟨[(B ((decide ((p0.Parts.length : Int) ≤ 10))))], ⟨rot (by kernel_rfl), trivial⟩, rfl⟩ nll
def Qhi (_N : Nat) (p0 : (List Int)) : Option (List Int) :=
  chk (decide ((0 + p0.length) * 8 ≤ 140737488355328)) <|
  some p0
set_option maxRecDepth 100000 in
set_option maxHeartbeats 4000000 in
theorem Qkf (N : Nat) (p0 : (List Int)) (r : (List Int)) (h : Qhi N p0 = some r) : Spec Try.prog 37 [(.dat 1 (p0.map Qab))] [] (.dat 1 (r.map Qab)) [] := by
  refine Qae Try.func37 rfl 0 (nle rfl) (fun X φ0 w0 hφ0 => ?_)
  unfold Qhi at h
  refine wx tbk [] trivial ?_
  obtain ⟨ha1, h⟩ := cko h
  refine wx tbk [(1, ⟨[((.const (.slice none 0 0)), nilS), (.tmp 3, (.dat 1 ((p0 : List Int).map Qab)))], [(0, .unused)], (.acc 0 3 1 ((p0 : List Int).map Qab)), [(0, .tok)], false⟩)] ⟨Qkv rfl Try.underlying37 te3 (Base.nil) rfl rfl (Qxq Qab one_i64 _) (Qyp Qab ha1) (Qyo Qab ha1 (by decide)) (app_map0 Qab) rfl rfl, trivial⟩ ?_
  refine Qag ?_
  obtain rfl := osi h
  exact fend ⟨[(.dat 1 ((p0 : List Int).map Qab))], ⟨Qh9 (v := (.acc 0 3 1 ((p0 : List Int).map Qab))) (rot (by kernel_rfl)) Less.acc, trivial⟩, rfl⟩ (nld Qaa _)
end Go.Proofs.Ytlhakkkjgdbdpaa
