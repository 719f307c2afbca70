/-
  Functions of the program: what they compute, as plain functions, and that they do. No conditions.
-/
import Derived.Test.YtlhakkkjgdbdpaaX6
namespace Go.Proofs.Ytlhakkkjgdbdpaa
open Go.RowKit
def Qd5 (N : Nat) (p0 : (List GUnit)) (k2 : (List GUnit) → Option (List GUnit)) : Nat → (List GUnit) → Int → Option (List GUnit)
  | 0, _, _ => none
  | n7 + 1, y3, y4 =>
    bif (decide (y4 < (p0.length : Int))) then
     (getI p0 y4).bind fun x9 =>
     (Qjn N x9).bind fun x14 =>
     chk (decide ((y3.length + ([x14]).length) * 32 ≤ 140737488355328)) <|
     Qd5 N p0 k2 n7 (y3 ++ ([x14])) (w64 (y4 + 1))
    else
     k2 (y3)
def Qip (N : Nat) (p0 : (List GUnit)) : Option (List GUnit) :=
  Qb2 (fun y1 =>
    some y1) fun k2 : (List GUnit) → Option (List GUnit) =>
  Qd5 N p0 k2 N ([]) 0
def Qqk (p0 : (List GUnit)) : AV := .dat 2 ((p0 : List GUnit).map Qat)
def Qvj (y3 : (List GUnit)) : AV := .acc 0 34 2 ((y3 : List GUnit).map Qat)
def Qvi (x14 : GUnit) : AV := .agg [(I (x14.Inlet)), (.dat 2 ((x14.Parts : List GPart).map Qa4))]
set_option maxRecDepth 100000 in
set_option maxHeartbeats 4000000 in
theorem Qpt (N : Nat) (p0 : (List GUnit)) (r : (List GUnit)) (h : Qip N p0 = some r) : Spec Try.prog 45 [(.dat 2 (p0.map Qat))] [] (.dat 2 (r.map Qat)) [] := by
  refine Qad Try.func45 rfl 0 (nle rfl) (fun X φ0 w0 hφ0 => ?_)
  unfold Qip at h
  refine wx tbk [] trivial ?_
  refine wx tbk [] trivial ?_
  obtain ⟨k2, hk_k2, h⟩ := jko h
  refine wjn (τ := (List GUnit)) (fun t => k2 t = some r) (fun y1 => ⟨mk 20 [(3, (.acc 0 34 2 ((y1 : List GUnit).map Qat)))], [.tok]⟩) (fun y1 h => ?_) ?_
  ·subst hk_k2
   refine wx tbk [] trivial ?_
   refine Qae ?_
   obtain rfl := osi h
   exact fend ⟨[(.dat 2 ((y1 : List GUnit).map Qat))], ⟨Qh3 (v := (.acc 0 34 2 ((y1 : List GUnit).map Qat))) (rot (by kernel_rfl)) Less.acc, trivial⟩, rfl⟩ (nld Qac _)
  ·skip
   refine wx tbk [] trivial ?_
   refine Qah ?_
   refine wmr (Mor.trans (Qrz 0 34 2 3 (by kernel_rfl) (by kernel_rfl)) (mto (n := 20) (l' := [(0, (Qqk p0)), (3, (.acc 0 34 2 ((([]) : List GUnit).map Qat))), (4, I 0)]) (own' := [.tok]) [(0, (Qqk p0)), (3, (.acc 0 34 2 (([] : List GUnit).map Qat))), (4, I 0)] [0] [.tok] hφ0 (pc (.rn (.plain _ (nld Qac _))) (pc (.rn (Qg3 rfl (Qe9 Qac _))) (pc rwl pn))) (qc .tok qn))) ?_
   refine Qbw (τ := (List GUnit) × Int) (fun n t => Qd5 N p0 k2 n t.1 t.2 = some r) (fun ⟨y3, y4⟩ => ⟨mk 20 [(0, (Qqk p0)), (3, (Qvj y3)), (4, I y4)], [.tok]⟩) (fun t h => by rw [Qd5] at h; cases h) (fun n7 ih t h => ?_) N ([], 0) h
   obtain ⟨y3, y4⟩ := t
   rw [Qd5] at h
   skip
   refine wsq ?_
   refine wx tbk [(2, rp [(.tmp 6, (Qqk p0))] (I ((p0.length : Int))))] ⟨alm (c := Qat) (l := p0) (aln rfl Try.underlying85 rfl), trivial⟩ ?_
   rcases bft ((decide (y4 < (p0.length : Int)))) with hc8 | hc8
   ·replace h := Qaz hc8 h
    refine wft hc8 (by kernel_rfl) ?_
    refine Qal ?_
    refine thn ?_
    refine wsq ?_
    refine Qah ?_
    obtain ⟨x9, hg10, h⟩ := bno h
    obtain ⟨hi11, hj12⟩ := gsm hg10
    obtain ⟨x14, hf13, h⟩ := bno h
    obtain ⟨ha15, h⟩ := cko h
    refine wx1 tbk [(3, rp [(.tmp 12, (Qqk p0)), (.tmp 13, I y4)] (.dptr (Qat (x9)) 0)), (5, rp [fu 19, (.tmp 15, (.agg [I x9.Inlet, (.dat 2 ((x9.Parts : List GPart).map Qa4))]))] (Qvi x14)), (6, rp [(.tmp 16, (Qvi x14))] (.dat 2 (([x14] : List GUnit).map Qat))), (7, ⟨[(.tmp 11, (Qvj y3)), (.tmp 17, (.dat 2 (([x14] : List GUnit).map Qat)))], [(0, .tok), (1, .unused)], (.acc 1 34 2 ((y3 ++ ([x14]) : List GUnit).map Qat)), [(0, .dead), (1, .tok)], false⟩)] ⟨aid rfl Try.underlying85 ti24 rfl rfl hi11 (mgt Qat hj12) rfl, apc (first := []) (cap := []) (vs := [(.agg [I x9.Inlet, (.dat 2 ((x9.Parts : List GPart).map Qa4))])]) rfl enter19 (Qqd N x9 _ hf13) rfl rfl (nlc (NLt.agg _ (nlc nll (nlc (nld Qbg _) nl0))) nl0) (NLt.agg _ (nlc nll (nlc (nld Qbg _) nl0))) rfl, Qc6 (vs := [(Qvi x14)]) rfl Try.underlying89 ti34 tz34 rfl (by decide) rfl (by decide) (by rfl) (by rfl) (by rfl) rfl, Qkf rfl Try.underlying89 te34 (Base.acc _ _) rfl rfl (by rfl) (Qp6 Qat ha15) (Qp5 Qat ha15 (by decide)) (Qp4 Qat) rfl rfl, trivial⟩ ?_
    refine bln ?_
    refine thn ?_
    refine wx1 tbk [] trivial ?_
    refine thn ?_
    exact arm (mto (n := 20) [(0, (Qqk p0)), (3, (.acc 1 34 2 ((y3 ++ ([x14]) : List GUnit).map Qat))), (4, (I (w64 (y4 + 1))))] [1] [.tok] hφ0 (pc (.rn (.plain _ (nld Qac _))) (pc (.rn (Qg3 rfl (Qe9 Qac _))) (pc rwl pn))) (qc .tok qn)) (ih (y3 ++ ([x14]), w64 (y4 + 1)) h)
   ·replace h := Qa0 hc8 h
    refine wfn hc8 (by kernel_rfl) ?_
    refine Qbe ?_
    refine Qap ?_
    refine Qap ?_
    refine Qbd rfl ?_
    refine thn ?_
    exact ⟨(y3), h, (mto (n := 20) [(3, (Qvj y3))] [0] [.tok] hφ0 (pc (.rn (Qg3 rfl (Qe9 Qac _))) pn) (qc .tok qn))⟩
def Qc1 (N : Nat) (p0 : (List Int)) (p1 : (List GUnit)) (k2 : Unit → Option Bool) : Nat → Int → Option Bool
  | 0, _ => none
  | n8 + 1, y6 =>
    bif (decide (y6 < (p1.length : Int))) then
     (getI p1 y6).bind fun x10 =>
     (Qij N x10).bind fun x15 =>
     bif (!x15) then
      some false
     else
      bif (decide (x10.Inlet ≥ (p0.length : Int))) then
       some false
      else
       Qc1 N p0 p1 k2 n8 (w64 (y6 + 1))
    else
     k2 ()
def Qc0 (N : Nat) (p0 : (List Int)) (k1 : Unit → Option Bool) : Nat → Int → Option Bool
  | 0, _ => none
  | n20 + 1, y18 =>
    bif (decide (y18 < (p0.length : Int))) then
     (getI p0 y18).bind fun x22 =>
     (Qgw N x22 0 1000000).bind fun x27 =>
     bif (!x27) then
      some false
     else
      Qc0 N p0 k1 n20 (w64 (y18 + 1))
    else
     k1 ()
def Qfo (N : Nat) (p0 : (List Int)) (p1 : (List GUnit)) : Option Bool :=
  Qb2 (fun _ =>
    Qb2 (fun _ =>
      bif (decide ((p0.length : Int) ≥ 1)) then
       bif (decide ((p0.length : Int) ≤ 6)) then
        bif (decide ((p1.length : Int) ≥ 1)) then
         some (decide ((p1.length : Int) ≤ 10))
        else
         some false
       else
        some false
      else
       some false) fun k2 : Unit → Option Bool =>
    Qc1 N p0 p1 k2 N 0) fun k1 : Unit → Option Bool =>
  Qc0 N p0 k1 N 0
def Qgq (p0 : (List Int)) : AV := .dat 1 ((p0 : List Int).map Qab)
def Qhe (p1 : (List GUnit)) : AV := .dat 2 ((p1 : List GUnit).map Qat)
def Qrk (x10 : GUnit) : AV := .agg [(I (x10.Inlet)), (.dat 2 ((x10.Parts : List GPart).map Qa4))]
set_option maxRecDepth 100000 in
set_option maxHeartbeats 4000000 in
theorem Qmh (N : Nat) (p0 : (List Int)) (p1 : (List GUnit)) (r : Bool) (h : Qfo N p0 p1 = some r) : Spec Try.prog 47 [(.dat 1 (p0.map Qab)), (.dat 2 (p1.map Qat))] [] (B r) [] := by
  refine Qad Try.func47 rfl 0 (nle rfl) (fun X φ0 w0 hφ0 => ?_)
  unfold Qfo at h
  refine wx tbk [] trivial ?_
  obtain ⟨k1, hk_k1, h⟩ := jko h
  refine wjn (τ := Unit) (fun t => k1 t = some r) (fun _ => ⟨mk 59 [(0, (Qgq p0)), (1, (Qhe p1))], []⟩) (fun t h => ?_) ?_
  ·subst hk_k1
   obtain ⟨k2, hk_k2, h⟩ := jko h
   refine wjn (τ := Unit) (fun t => k2 t = some r) (fun _ => ⟨mk 59 [(0, (Qgq p0)), (1, (Qhe p1))], []⟩) (fun t h => ?_) ?_
   ·subst hk_k2
    rcases bft ((decide ((p0.length : Int) ≥ 1))) with hb3 | hb3
    ·replace h := Qaz hb3 h
     rcases bft ((decide ((p0.length : Int) ≤ 6))) with hb4 | hb4
     ·replace h := Qaz hb4 h
      rcases bft ((decide ((p1.length : Int) ≥ 1))) with hb5 | hb5
      ·replace h := Qaz hb5 h
       refine wx tbk [(1, rp [(.tmp 41, (Qgq p0))] (I ((p0.length : Int)))), (3, rp [(.tmp 43, (B ((decide ((p0.length : Int) ≥ 1)))))] (B true)), (5, rp [(.tmp 44, B true), (.tmp 45, (Qgq p0))] (I ((p0.length : Int)))), (8, rp [(.tmp 48, (B ((decide ((p0.length : Int) ≤ 6)))))] (B true)), (10, rp [(.tmp 49, B true), (.tmp 50, (Qhe p1))] (I ((p1.length : Int)))), (13, rp [(.tmp 53, (B ((decide ((p1.length : Int) ≥ 1)))))] (B true)), (15, rp [(.tmp 54, B true), (.tmp 55, (Qhe p1))] (I ((p1.length : Int))))] ⟨alm (c := Qab) (l := p0) (aln rfl Try.underlying37 rfl), asb hb3 (amv rfl), ag_ (alm (c := Qab) (l := p0) (aln rfl Try.underlying37 rfl)), asb hb4 (amv rfl), ag_ (alm (c := Qat) (l := p1) (aln rfl Try.underlying85 rfl)), asb hb5 (amv rfl), ag_ (alm (c := Qat) (l := p1) (aln rfl Try.underlying85 rfl)), trivial⟩ ?_
       refine Qae ?_
       obtain rfl := osi h
       exact fend ⟨[(B ((decide ((p1.length : Int) ≤ 10))))], ⟨rot (by kernel_rfl), trivial⟩, rfl⟩ nll
      ·replace h := Qa0 hb5 h
       refine wx tbk [(1, rp [(.tmp 41, (Qgq p0))] (I ((p0.length : Int)))), (3, rp [(.tmp 43, (B ((decide ((p0.length : Int) ≥ 1)))))] (B true)), (5, rp [(.tmp 44, B true), (.tmp 45, (Qgq p0))] (I ((p0.length : Int)))), (8, rp [(.tmp 48, (B ((decide ((p0.length : Int) ≤ 6)))))] (B true)), (10, rp [(.tmp 49, B true), (.tmp 50, (Qhe p1))] (I ((p1.length : Int)))), (13, rp [(.tmp 53, (B ((decide ((p1.length : Int) ≥ 1)))))] (B false))] ⟨alm (c := Qab) (l := p0) (aln rfl Try.underlying37 rfl), asb hb3 (amv rfl), ag_ (alm (c := Qab) (l := p0) (aln rfl Try.underlying37 rfl)), asb hb4 (amv rfl), ag_ (alm (c := Qat) (l := p1) (aln rfl Try.underlying85 rfl)), asb hb5 (amv rfl), trivial⟩ ?_
       refine Qae ?_
       obtain rfl := osi h
       exact fend ⟨[B false], ⟨rot (by kernel_rfl), trivial⟩, rfl⟩ nll
     ·replace h := Qa0 hb4 h
      refine wx tbk [(1, rp [(.tmp 41, (Qgq p0))] (I ((p0.length : Int)))), (3, rp [(.tmp 43, (B ((decide ((p0.length : Int) ≥ 1)))))] (B true)), (5, rp [(.tmp 44, B true), (.tmp 45, (Qgq p0))] (I ((p0.length : Int)))), (8, rp [(.tmp 48, (B ((decide ((p0.length : Int) ≤ 6)))))] (B false))] ⟨alm (c := Qab) (l := p0) (aln rfl Try.underlying37 rfl), asb hb3 (amv rfl), ag_ (alm (c := Qab) (l := p0) (aln rfl Try.underlying37 rfl)), asb hb4 (amv rfl), trivial⟩ ?_
      refine Qae ?_
      obtain rfl := osi h
      exact fend ⟨[B false], ⟨rot (by kernel_rfl), trivial⟩, rfl⟩ nll
    ·replace h := Qa0 hb3 h
     refine wx tbk [(1, rp [(.tmp 41, (Qgq p0))] (I ((p0.length : Int)))), (3, rp [(.tmp 43, (B ((decide ((p0.length : Int) ≥ 1)))))] (B false))] ⟨alm (c := Qab) (l := p0) (aln rfl Try.underlying37 rfl), asb hb3 (amv rfl), trivial⟩ ?_
     refine Qae ?_
     obtain rfl := osi h
     exact fend ⟨[B false], ⟨rot (by kernel_rfl), trivial⟩, rfl⟩ nll
   ·skip
    refine wx tbk [] trivial ?_
    refine Qah ?_
    refine wmr (mto (n := 59) (l' := [(0, (Qgq p0)), (1, (Qhe p1)), (6, I 0)]) (own' := []) [(0, (Qgq p0)), (1, (Qhe p1)), (6, I 0)] [] [] hφ0 (pc (.rn (.plain _ (nld Qaa _))) (pc (.rn (.plain _ (nld Qac _))) (pc rwl pn))) qn) ?_
    refine Qbw (τ := Int) (fun n t => Qc1 N p0 p1 k2 n t = some r) (fun y6 => ⟨mk 59 [(0, (Qgq p0)), (1, (Qhe p1)), (6, I y6)], []⟩) (fun t h => by rw [Qc1] at h; cases h) (fun n8 ih y6 h => ?_) N (0) h
    rw [Qc1] at h
    skip
    refine wsq ?_
    refine wx tbk [(2, rp [(.tmp 20, (Qhe p1))] (I ((p1.length : Int))))] ⟨alm (c := Qat) (l := p1) (aln rfl Try.underlying85 rfl), trivial⟩ ?_
    rcases bft ((decide (y6 < (p1.length : Int)))) with hc9 | hc9
    ·replace h := Qaz hc9 h
     refine wft hc9 (by kernel_rfl) ?_
     refine Qal ?_
     refine thn ?_
     refine wsq ?_
     refine Qah ?_
     obtain ⟨x10, hg11, h⟩ := bno h
     obtain ⟨hi12, hj13⟩ := gsm hg11
     obtain ⟨x15, hf14, h⟩ := bno h
     rcases bft ((!x15)) with hb16 | hb16
     ·replace h := Qaz hb16 h
      refine wx tbk [(2, rp [(.tmp 25, (Qhe p1)), (.tmp 26, I y6)] (.dptr (Qat (x10)) 0)), (4, rp [fu 15, (.tmp 28, (Qrk x10))] (B x15)), (6, rp [(.tmp 30, (B ((!x15))))] (B true))] ⟨aid rfl Try.underlying85 ti24 rfl rfl hi12 (mgt Qat hj13) rfl, apc (first := []) (cap := []) (vs := [(Qrk x10)]) rfl enter15 (Qli N x10 _ hf14) rfl rfl (nlc (NLt.agg _ (nlc nll (nlc (nld Qbg _) nl0))) nl0) nll rfl, asb hb16 (amv rfl), trivial⟩ ?_
      refine Qgd (by kernel_rfl) ?_
      refine wx tbk [] trivial ?_
      refine Qae ?_
      refine Qbz ?_
      refine Qaw ?_
      refine Qaw ?_
      refine Qbz ?_
      refine Qaw ?_
      obtain rfl := osi h
      exact fend ⟨[B false], ⟨rot (by kernel_rfl), trivial⟩, rfl⟩ nll
     ·replace h := Qa0 hb16 h
      refine wx tbk [(2, rp [(.tmp 25, (Qhe p1)), (.tmp 26, I y6)] (.dptr (Qat (x10)) 0)), (4, rp [fu 15, (.tmp 28, (Qrk x10))] (B x15)), (6, rp [(.tmp 30, (B ((!x15))))] (B false)), (9, rp [(.tmp 31, B false), (.tmp 32, (Qhe p1)), (.tmp 33, I y6)] (.dptr (Qat (x10)) 0)), (13, rp [(.tmp 31, B false), (.tmp 37, (Qgq p0))] (I ((p0.length : Int))))] ⟨aid rfl Try.underlying85 ti24 rfl rfl hi12 (mgt Qat hj13) rfl, apc (first := []) (cap := []) (vs := [(Qrk x10)]) rfl enter15 (Qli N x10 _ hf14) rfl rfl (nlc (NLt.agg _ (nlc nll (nlc (nld Qbg _) nl0))) nl0) nll rfl, asb hb16 (amv rfl), ag_ (aid rfl Try.underlying85 ti24 rfl rfl hi12 (mgt Qat hj13) rfl), ag_ (alm (c := Qab) (l := p0) (aln rfl Try.underlying37 rfl)), trivial⟩ ?_
      rcases bft ((decide (x10.Inlet ≥ (p0.length : Int)))) with hc17 | hc17
      ·replace h := Qaz hc17 h
       refine wft hc17 (by kernel_rfl) ?_
       refine wx tbk [] trivial ?_
       refine Qae ?_
       refine Qbz ?_
       refine Qaw ?_
       refine Qaw ?_
       refine Qbz ?_
       refine Qaw ?_
       obtain rfl := osi h
       exact fend ⟨[B false], ⟨rot (by kernel_rfl), trivial⟩, rfl⟩ nll
      ·replace h := Qa0 hc17 h
       refine wfn hc17 (by kernel_rfl) ?_
       refine Qal ?_
       refine bln ?_
       refine thn ?_
       refine wx1 tbk [] trivial ?_
       refine thn ?_
       exact arm (mto (n := 59) [(0, (Qgq p0)), (1, (Qhe p1)), (6, (I (w64 (y6 + 1))))] [] [] hφ0 (pc (.rn (.plain _ (nld Qaa _))) (pc (.rn (.plain _ (nld Qac _))) (pc rwl pn))) qn) (ih (w64 (y6 + 1)) h)
    ·replace h := Qa0 hc9 h
     refine wfn hc9 (by kernel_rfl) ?_
     refine Qbe ?_
     refine Qap ?_
     refine Qap ?_
     refine Qbd rfl ?_
     refine thn ?_
     exact ⟨(), h, (mto (n := 59) [(0, (Qgq p0)), (1, (Qhe p1))] [] [] hφ0 (pc (.rn (.plain _ (nld Qaa _))) (pc (.rn (.plain _ (nld Qac _))) pn)) qn)⟩
  ·skip
   refine wx tbk [] trivial ?_
   refine Qah ?_
   refine wmr (mto (n := 59) (l' := [(0, (Qgq p0)), (1, (Qhe p1)), (5, I 0)]) (own' := []) [(0, (Qgq p0)), (1, (Qhe p1)), (5, I 0)] [] [] hφ0 (pc (.rn (.plain _ (nld Qaa _))) (pc (.rn (.plain _ (nld Qac _))) (pc rwl pn))) qn) ?_
   refine Qbw (τ := Int) (fun n t => Qc0 N p0 k1 n t = some r) (fun y18 => ⟨mk 59 [(0, (Qgq p0)), (1, (Qhe p1)), (5, I y18)], []⟩) (fun t h => by rw [Qc0] at h; cases h) (fun n20 ih y18 h => ?_) N (0) h
   rw [Qc0] at h
   skip
   refine wsq ?_
   refine wx tbk [(2, rp [(.tmp 8, (Qgq p0))] (I ((p0.length : Int))))] ⟨alm (c := Qab) (l := p0) (aln rfl Try.underlying37 rfl), trivial⟩ ?_
   rcases bft ((decide (y18 < (p0.length : Int)))) with hc21 | hc21
   ·replace h := Qaz hc21 h
    refine wft hc21 (by kernel_rfl) ?_
    refine Qal ?_
    refine thn ?_
    refine wsq ?_
    refine Qah ?_
    obtain ⟨x22, hg23, h⟩ := bno h
    obtain ⟨hi24, hj25⟩ := gsm hg23
    obtain ⟨x27, hf26, h⟩ := bno h
    refine wx tbk [(2, rp [(.tmp 13, (Qgq p0)), (.tmp 14, I y18)] (.dptr (Qab (x22)) 0)), (4, rp [fu 25, (.tmp 16, I x22), ci 0, ci 1000000] (B x27))] ⟨aid rfl Try.underlying37 ti3 rfl rfl hi24 (mgt Qab hj25) rfl, apc (first := []) (cap := []) (vs := [I x22, I 0, I 1000000]) rfl Qiy (Qd8 N x22 0 1000000 _ hf26) rfl rfl (nlc nll (nlc nll (nlc nll nl0))) nll rfl, trivial⟩ ?_
    rcases bft ((!x27)) with hc28 | hc28
    ·replace h := Qaz hc28 h
     refine wft hc28 (by kernel_rfl) ?_
     refine wx tbk [] trivial ?_
     refine Qae ?_
     refine Qbz ?_
     refine Qaw ?_
     refine Qaw ?_
     refine Qbz ?_
     refine Qaw ?_
     obtain rfl := osi h
     exact fend ⟨[B false], ⟨rot (by kernel_rfl), trivial⟩, rfl⟩ nll
    ·replace h := Qa0 hc28 h
     refine wfn hc28 (by kernel_rfl) ?_
     refine Qal ?_
     refine bln ?_
     refine thn ?_
     refine wx1 tbk [] trivial ?_
     refine thn ?_
     exact arm (mto (n := 59) [(0, (Qgq p0)), (1, (Qhe p1)), (5, (I (w64 (y18 + 1))))] [] [] hφ0 (pc (.rn (.plain _ (nld Qaa _))) (pc (.rn (.plain _ (nld Qac _))) (pc rwl pn))) qn) (ih (w64 (y18 + 1)) h)
   ·replace h := Qa0 hc21 h
    refine wfn hc21 (by kernel_rfl) ?_
    refine Qbe ?_
    refine Qap ?_
    refine Qap ?_
    refine Qbd rfl ?_
    refine thn ?_
    exact ⟨(), h, (mto (n := 59) [(0, (Qgq p0)), (1, (Qhe p1))] [] [] hφ0 (pc (.rn (.plain _ (nld Qaa _))) (pc (.rn (.plain _ (nld Qac _))) pn)) qn)⟩
def Qd9 (N : Nat) (p0 : (List Int)) (k2 : Int → Option Int) : Nat → Int → Int → Option Int
  | 0, _, _ => none
  | n7 + 1, y3, y4 =>
    bif (decide (y4 < (p0.length : Int))) then
     (getI p0 y4).bind fun x9 =>
     Qd9 N p0 k2 n7 (w64 (y3 + x9)) (w64 (y4 + 1))
    else
     k2 (y3)
def Qh4 (N : Nat) (p0 : (List Int)) (p1 : Int) : Option Int :=
  Qb2 (fun y1 =>
    some y1) fun k2 : Int → Option Int =>
  Qd9 N p0 k2 N 0 p1
def Qqj (p0 : (List Int)) : AV := .dat 1 ((p0 : List Int).map Qab)
set_option maxRecDepth 100000 in
set_option maxHeartbeats 4000000 in
theorem Qqa (N : Nat) (p0 : (List Int)) (p1 : Int) (r : Int) (h : Qh4 N p0 p1 = some r) : Spec Try.prog 86 [(.dat 1 (p0.map Qab)), (I p1)] [] (I r) [] := by
  refine Qad Try.func86 rfl 0 (nle rfl) (fun X φ0 w0 hφ0 => ?_)
  unfold Qh4 at h
  refine wx tbk [] trivial ?_
  refine wx tbk [] trivial ?_
  obtain ⟨k2, hk_k2, h⟩ := jko h
  refine wjn (τ := Int) (fun t => k2 t = some r) (fun y1 => ⟨mk 21 [(5, I y1)], []⟩) (fun y1 h => ?_) ?_
  ·subst hk_k2
   refine wx tbk [] trivial ?_
   refine Qae ?_
   obtain rfl := osi h
   exact fend ⟨[I y1], ⟨rot (by kernel_rfl), trivial⟩, rfl⟩ nll
  ·skip
   refine wx tbk [] trivial ?_
   refine Qah ?_
   refine wmr (mto (n := 21) (l' := [(0, (Qqj p0)), (5, I 0), (6, I p1)]) (own' := []) [(0, (Qqj p0)), (5, I 0), (6, I p1)] [] [] hφ0 (pc (.rn (.plain _ (nld Qaa _))) (pc rwl (pc rwl pn))) qn) ?_
   refine Qbw (τ := Int × Int) (fun n t => Qd9 N p0 k2 n t.1 t.2 = some r) (fun ⟨y3, y4⟩ => ⟨mk 21 [(0, (Qqj p0)), (5, I y3), (6, I y4)], []⟩) (fun t h => by rw [Qd9] at h; cases h) (fun n7 ih t h => ?_) N (0, p1) h
   obtain ⟨y3, y4⟩ := t
   rw [Qd9] at h
   skip
   refine wsq ?_
   refine wx tbk [(2, rp [(.tmp 9, (Qqj p0))] (I ((p0.length : Int))))] ⟨alm (c := Qab) (l := p0) (aln rfl Try.underlying37 rfl), trivial⟩ ?_
   rcases bft ((decide (y4 < (p0.length : Int)))) with hc8 | hc8
   ·replace h := Qaz hc8 h
    refine wft hc8 (by kernel_rfl) ?_
    refine Qal ?_
    refine thn ?_
    refine wsq ?_
    refine Qah ?_
    obtain ⟨x9, hg10, h⟩ := bno h
    obtain ⟨hi11, hj12⟩ := gsm hg10
    refine wx1 tbk [(3, rp [(.tmp 15, (Qqj p0)), (.tmp 16, I y4)] (.dptr (Qab (x9)) 0))] ⟨aid rfl Try.underlying37 ti3 rfl rfl hi11 (mgt Qab hj12) rfl, trivial⟩ ?_
    refine bln ?_
    refine thn ?_
    refine wx1 tbk [] trivial ?_
    refine thn ?_
    exact arm (mto (n := 21) [(0, (Qqj p0)), (5, (I (w64 (y3 + x9)))), (6, (I (w64 (y4 + 1))))] [] [] hφ0 (pc (.rn (.plain _ (nld Qaa _))) (pc rwl (pc rwl pn))) qn) (ih (w64 (y3 + x9), w64 (y4 + 1)) h)
   ·replace h := Qa0 hc8 h
    refine wfn hc8 (by kernel_rfl) ?_
    refine Qbe ?_
    refine Qap ?_
    refine Qap ?_
    refine Qbd rfl ?_
    refine thn ?_
    exact ⟨(y3), h, (mto (n := 21) [(5, I y3)] [] [] hφ0 (pc rwl pn) qn)⟩
def Qc5 (N : Nat) (p1 : (List GUnit)) (p2 : (List Int)) (y4 : Int) (k10 : Int → Option Bool) : Nat → Int → Int → Option Bool
  | 0, _, _ => none
  | n18 + 1, y14, y15 =>
    bif (decide (y15 < (p1.length : Int))) then
     (getI p1 y15).bind fun x20 =>
     bif (decide (x20.Inlet ≥ y4)) then
      (getI p2 y15).bind fun x25 =>
      Qc5 N p1 p2 y4 k10 n18 (w64 (y14 + x25)) (w64 (y15 + 1))
     else
      Qc5 N p1 p2 y4 k10 n18 y14 (w64 (y15 + 1))
    else
     k10 (y14)
def Qcs (N : Nat) (p0 : (List Int)) (p1 : (List GUnit)) (p2 : (List Int)) (k3 : Unit → Option Bool) : Nat → Int → Option Bool
  | 0, _ => none
  | n6 + 1, y4 =>
    bif (decide (y4 < (p0.length : Int))) then
     Qb2 (fun _ =>
       Qcs N p0 p1 p2 k3 n6 (w64 (y4 + 1))) fun k8 : Unit → Option Bool =>
     Qb2 (fun y9 =>
       (Qh4 N p0 y4).bind fun x12 =>
       bif (decide (y9 > x12)) then
        some false
       else
        k8 ()) fun k10 : Int → Option Bool =>
     Qc5 N p1 p2 y4 k10 N 0 0
    else
     k3 ()
def Qdg (N : Nat) (p1 : (List GUnit)) (k2 : Unit → Option Bool) (p2 : (List Int)) : Nat → Int → Option Bool
  | 0, _ => none
  | n31 + 1, y29 =>
    bif (decide (y29 < (p1.length : Int))) then
     (getI p2 y29).bind fun x33 =>
     (getI p1 y29).bind fun x37 =>
     (Qgf N x37).bind fun x42 =>
     (Qgw N x33 0 x42).bind fun x44 =>
     bif (!x44) then
      some false
     else
      Qdg N p1 k2 p2 n31 (w64 (y29 + 1))
    else
     k2 ()
def Qgv (N : Nat) (p0 : (List Int)) (p1 : (List GUnit)) (p2 : (List Int)) : Option Bool :=
  bif ((p2.length : Int) != (p1.length : Int)) then
   some false
  else
   Qb2 (fun _ =>
     Qb2 (fun _ =>
       some true) fun k3 : Unit → Option Bool =>
     Qcs N p0 p1 p2 k3 N 0) fun k2 : Unit → Option Bool =>
   Qdg N p1 k2 p2 N 0
def Qgp (p2 : (List Int)) : AV := .dat 1 ((p2 : List Int).map Qab)
def Qf9 (p1 : (List GUnit)) : AV := .dat 2 ((p1 : List GUnit).map Qat)
def Qgo (p0 : (List Int)) : AV := .dat 1 ((p0 : List Int).map Qab)
set_option maxRecDepth 100000 in
set_option maxHeartbeats 4000000 in
theorem Qn6 (N : Nat) (p0 : (List Int)) (p1 : (List GUnit)) (p2 : (List Int)) (r : Bool) (h : Qgv N p0 p1 p2 = some r) : Spec Try.prog 85 [(.dat 1 (p0.map Qab)), (.dat 2 (p1.map Qat)), (.dat 1 (p2.map Qab))] [] (B r) [] := by
  refine Qad Try.func85 rfl 0 (nle rfl) (fun X φ0 w0 hφ0 => ?_)
  unfold Qgv at h
  refine wx tbk [] trivial ?_
  refine wsq ?_
  refine wx tbk [(1, rp [(.tmp 11, (Qgp p2))] (I ((p2.length : Int)))), (3, rp [(.tmp 13, (Qf9 p1))] (I ((p1.length : Int))))] ⟨alm (c := Qab) (l := p2) (aln rfl Try.underlying37 rfl), alm (c := Qat) (l := p1) (aln rfl Try.underlying85 rfl), trivial⟩ ?_
  rcases bft (((p2.length : Int) != (p1.length : Int))) with hc1 | hc1
  ·replace h := Qaz hc1 h
   refine wft hc1 (by kernel_rfl) ?_
   refine wx tbk [] trivial ?_
   refine Qae ?_
   refine Qaw ?_
   obtain rfl := osi h
   exact fend ⟨[B false], ⟨rot (by kernel_rfl), trivial⟩, rfl⟩ nll
  ·replace h := Qa0 hc1 h
   refine wfn hc1 (by kernel_rfl) ?_
   refine Qal ?_
   refine thn ?_
   obtain ⟨k2, hk_k2, h⟩ := jko h
   refine wjn (τ := Unit) (fun t => k2 t = some r) (fun _ => ⟨mk 63 [(0, (Qgo p0)), (1, (Qf9 p1)), (2, (Qgp p2))], []⟩) (fun t h => ?_) ?_
   ·subst hk_k2
    obtain ⟨k3, hk_k3, h⟩ := jko h
    refine wjn (τ := Unit) (fun t => k3 t = some r) (fun _ => ⟨mk 63 [], []⟩) (fun t h => ?_) ?_
    ·subst hk_k3
     refine wx tbk [] trivial ?_
     refine Qae ?_
     obtain rfl := osi h
     exact fend ⟨[B true], ⟨rot (by kernel_rfl), trivial⟩, rfl⟩ nll
    ·skip
     refine wx tbk [] trivial ?_
     refine Qah ?_
     refine wmr (mto (n := 63) (l' := [(0, (Qgo p0)), (1, (Qf9 p1)), (2, (Qgp p2)), (8, I 0)]) (own' := []) [(0, (Qgo p0)), (1, (Qf9 p1)), (2, (Qgp p2)), (8, I 0)] [] [] hφ0 (pc (.rn (.plain _ (nld Qaa _))) (pc (.rn (.plain _ (nld Qac _))) (pc (.rn (.plain _ (nld Qaa _))) (pc rwl pn)))) qn) ?_
     refine Qbw (τ := Int) (fun n t => Qcs N p0 p1 p2 k3 n t = some r) (fun y4 => ⟨mk 63 [(0, (Qgo p0)), (1, (Qf9 p1)), (2, (Qgp p2)), (8, I y4)], []⟩) (fun t h => by rw [Qcs] at h; cases h) (fun n6 ih y4 h => ?_) N (0) h
     rw [Qcs] at h
     skip
     refine wsq ?_
     refine wx tbk [(2, rp [(.tmp 34, (Qgo p0))] (I ((p0.length : Int))))] ⟨alm (c := Qab) (l := p0) (aln rfl Try.underlying37 rfl), trivial⟩ ?_
     rcases bft ((decide (y4 < (p0.length : Int)))) with hc7 | hc7
     ·replace h := Qaz hc7 h
      refine wft hc7 (by kernel_rfl) ?_
      refine Qal ?_
      refine thn ?_
      obtain ⟨k8, hk_k8, h⟩ := jko h
      refine wjn (τ := Unit) (fun t => k8 t = some r) (fun _ => ⟨mk 63 [(0, (Qgo p0)), (1, (Qf9 p1)), (2, (Qgp p2)), (8, I y4)], []⟩) (fun t h => ?_) ?_
      ·subst hk_k8
       refine wx1 tbk [] trivial ?_
       refine thn ?_
       exact arm (mto (n := 63) [(0, (Qgo p0)), (1, (Qf9 p1)), (2, (Qgp p2)), (8, (I (w64 (y4 + 1))))] [] [] hφ0 (pc (.rn (.plain _ (nld Qaa _))) (pc (.rn (.plain _ (nld Qac _))) (pc (.rn (.plain _ (nld Qaa _))) (pc rwl pn)))) qn) (ih (w64 (y4 + 1)) h)
      ·skip
       refine Qah ?_
       refine wx tbk [] trivial ?_
       obtain ⟨k10, hk_k10, h⟩ := jko h
       refine wjn (τ := Int) (fun t => k10 t = some r) (fun y9 => ⟨mk 63 [(0, (Qgo p0)), (1, (Qf9 p1)), (2, (Qgp p2)), (8, I y4), (9, I y9)], []⟩) (fun y9 h => ?_) ?_
       ·subst hk_k10
        obtain ⟨x12, hf11, h⟩ := bno h
        refine wx tbk [(3, rp [fu 86, (.tmp 59, (Qgo p0)), (.tmp 60, I y4)] (I x12))] ⟨apc (first := []) (cap := []) (vs := [(Qgo p0), I y4]) rfl enter86 (Qqa N p0 y4 _ hf11) rfl rfl (nlc (nld Qaa _) (nlc nll nl0)) nll rfl, trivial⟩ ?_
        rcases bft ((decide (y9 > x12))) with hc13 | hc13
        ·replace h := Qaz hc13 h
         refine wft hc13 (by kernel_rfl) ?_
         refine wx tbk [] trivial ?_
         refine Qae ?_
         refine Qbz ?_
         refine Qaw ?_
         refine Qaw ?_
         refine Qbz ?_
         refine Qaw ?_
         obtain rfl := osi h
         exact fend ⟨[B false], ⟨rot (by kernel_rfl), trivial⟩, rfl⟩ nll
        ·replace h := Qa0 hc13 h
         refine wfn hc13 (by kernel_rfl) ?_
         refine Qal ?_
         refine bln ?_
         refine thn ?_
         exact ⟨(), h, (mto (n := 63) [(0, (Qgo p0)), (1, (Qf9 p1)), (2, (Qgp p2)), (8, I y4)] [] [] hφ0 (pc (.rn (.plain _ (nld Qaa _))) (pc (.rn (.plain _ (nld Qac _))) (pc (.rn (.plain _ (nld Qaa _))) (pc rwl pn)))) qn)⟩
       ·skip
        refine wx tbk [] trivial ?_
        refine Qah ?_
        refine wmr (mto (n := 63) (l' := [(0, (Qgo p0)), (1, (Qf9 p1)), (2, (Qgp p2)), (8, I y4), (9, I 0), (10, I 0)]) (own' := []) [(0, (Qgo p0)), (1, (Qf9 p1)), (2, (Qgp p2)), (8, I y4), (9, I 0), (10, I 0)] [] [] hφ0 (pc (.rn (.plain _ (nld Qaa _))) (pc (.rn (.plain _ (nld Qac _))) (pc (.rn (.plain _ (nld Qaa _))) (pc rwl (pc rwl (pc rwl pn)))))) qn) ?_
        refine Qbw (τ := Int × Int) (fun n t => Qc5 N p1 p2 y4 k10 n t.1 t.2 = some r) (fun ⟨y14, y15⟩ => ⟨mk 63 [(0, (Qgo p0)), (1, (Qf9 p1)), (2, (Qgp p2)), (8, I y4), (9, I y14), (10, I y15)], []⟩) (fun t h => by rw [Qc5] at h; cases h) (fun n18 ih t h => ?_) N (0, 0) h
        obtain ⟨y14, y15⟩ := t
        rw [Qc5] at h
        skip
        refine wsq ?_
        refine wx tbk [(2, rp [(.tmp 40, (Qf9 p1))] (I ((p1.length : Int))))] ⟨alm (c := Qat) (l := p1) (aln rfl Try.underlying85 rfl), trivial⟩ ?_
        rcases bft ((decide (y15 < (p1.length : Int)))) with hc19 | hc19
        ·replace h := Qaz hc19 h
         refine wft hc19 (by kernel_rfl) ?_
         refine Qal ?_
         refine thn ?_
         refine wsq ?_
         refine Qah ?_
         obtain ⟨x20, hg21, h⟩ := bno h
         obtain ⟨hi22, hj23⟩ := gsm hg21
         refine wx tbk [(2, rp [(.tmp 45, (Qf9 p1)), (.tmp 46, I y15)] (.dptr (Qat (x20)) 0))] ⟨aid rfl Try.underlying85 ti24 rfl rfl hi22 (mgt Qat hj23) rfl, trivial⟩ ?_
         rcases bft ((decide (x20.Inlet ≥ y4))) with hc24 | hc24
         ·replace h := Qaz hc24 h
          refine wft hc24 (by kernel_rfl) ?_
          obtain ⟨x25, hg26, h⟩ := bno h
          obtain ⟨hi27, hj28⟩ := gsm hg26
          refine wx1 tbk [(3, rp [(.tmp 53, (Qgp p2)), (.tmp 54, I y15)] (.dptr (Qab (x25)) 0))] ⟨aid rfl Try.underlying37 ti3 rfl rfl hi27 (mgt Qab hj28) rfl, trivial⟩ ?_
          refine bln ?_
          refine thn ?_
          refine wx1 tbk [] trivial ?_
          refine thn ?_
          exact arm (mto (n := 63) [(0, (Qgo p0)), (1, (Qf9 p1)), (2, (Qgp p2)), (8, I y4), (9, (I (w64 (y14 + x25)))), (10, (I (w64 (y15 + 1))))] [] [] hφ0 (pc (.rn (.plain _ (nld Qaa _))) (pc (.rn (.plain _ (nld Qac _))) (pc (.rn (.plain _ (nld Qaa _))) (pc rwl (pc rwl (pc rwl pn)))))) qn) (ih (w64 (y14 + x25), w64 (y15 + 1)) h)
         ·replace h := Qa0 hc24 h
          refine wfn hc24 (by kernel_rfl) ?_
          refine Qal ?_
          refine bln ?_
          refine thn ?_
          refine wx1 tbk [] trivial ?_
          refine thn ?_
          exact arm (mto (n := 63) [(0, (Qgo p0)), (1, (Qf9 p1)), (2, (Qgp p2)), (8, I y4), (9, I y14), (10, (I (w64 (y15 + 1))))] [] [] hφ0 (pc (.rn (.plain _ (nld Qaa _))) (pc (.rn (.plain _ (nld Qac _))) (pc (.rn (.plain _ (nld Qaa _))) (pc rwl (pc rwl (pc rwl pn)))))) qn) (ih (y14, w64 (y15 + 1)) h)
        ·replace h := Qa0 hc19 h
         refine wfn hc19 (by kernel_rfl) ?_
         refine Qbe ?_
         refine Qap ?_
         refine Qap ?_
         refine Qbd rfl ?_
         refine thn ?_
         exact ⟨(y14), h, (mto (n := 63) [(0, (Qgo p0)), (1, (Qf9 p1)), (2, (Qgp p2)), (8, I y4), (9, I y14)] [] [] hφ0 (pc (.rn (.plain _ (nld Qaa _))) (pc (.rn (.plain _ (nld Qac _))) (pc (.rn (.plain _ (nld Qaa _))) (pc rwl (pc rwl pn))))) qn)⟩
     ·replace h := Qa0 hc7 h
      refine wfn hc7 (by kernel_rfl) ?_
      refine Qbe ?_
      refine Qap ?_
      refine Qap ?_
      refine Qbd rfl ?_
      refine thn ?_
      exact ⟨(), h, (mto (n := 63) [] [] [] hφ0 pn qn)⟩
   ·skip
    refine wx tbk [] trivial ?_
    refine Qah ?_
    refine wmr (mto (n := 63) (l' := [(0, (Qgo p0)), (1, (Qf9 p1)), (2, (Qgp p2)), (7, I 0)]) (own' := []) [(0, (Qgo p0)), (1, (Qf9 p1)), (2, (Qgp p2)), (7, I 0)] [] [] hφ0 (pc (.rn (.plain _ (nld Qaa _))) (pc (.rn (.plain _ (nld Qac _))) (pc (.rn (.plain _ (nld Qaa _))) (pc rwl pn)))) qn) ?_
    refine Qbw (τ := Int) (fun n t => Qdg N p1 k2 p2 n t = some r) (fun y29 => ⟨mk 63 [(0, (Qgo p0)), (1, (Qf9 p1)), (2, (Qgp p2)), (7, I y29)], []⟩) (fun t h => by rw [Qdg] at h; cases h) (fun n31 ih y29 h => ?_) N (0) h
    rw [Qdg] at h
    skip
    refine wsq ?_
    refine wx tbk [(2, rp [(.tmp 17, (Qf9 p1))] (I ((p1.length : Int))))] ⟨alm (c := Qat) (l := p1) (aln rfl Try.underlying85 rfl), trivial⟩ ?_
    rcases bft ((decide (y29 < (p1.length : Int)))) with hc32 | hc32
    ·replace h := Qaz hc32 h
     refine wft hc32 (by kernel_rfl) ?_
     refine Qal ?_
     refine thn ?_
     refine wsq ?_
     refine Qah ?_
     obtain ⟨x33, hg34, h⟩ := bno h
     obtain ⟨hi35, hj36⟩ := gsm hg34
     obtain ⟨x37, hg38, h⟩ := bno h
     obtain ⟨hi39, hj40⟩ := gsm hg38
     obtain ⟨x42, hf41, h⟩ := bno h
     obtain ⟨x44, hf43, h⟩ := bno h
     refine wxd tbk [(2, rp [(.tmp 22, (Qgp p2)), (.tmp 23, I y29)] (.dptr (Qab (x33)) 0)), (6, rp [(.tmp 26, (Qf9 p1)), (.tmp 27, I y29)] (.dptr (Qat (x37)) 0)), (8, rp [fu 16, (.tmp 29, (.agg [I x37.Inlet, (.dat 2 ((x37.Parts : List GPart).map Qa4))]))] (I x42)), (9, rp [fu 25, (.tmp 25, I x33), ci 0, (.tmp 30, I x42)] (B x44))] ⟨aid rfl Try.underlying37 ti3 rfl rfl hi35 (mgt Qab hj36) rfl, aid rfl Try.underlying85 ti24 rfl rfl hi39 (mgt Qat hj40) rfl, apc (first := []) (cap := []) (vs := [(.agg [I x37.Inlet, (.dat 2 ((x37.Parts : List GPart).map Qa4))])]) rfl enter16 (Qne N x37 _ hf41) rfl rfl (nlc (NLt.agg _ (nlc nll (nlc (nld Qbg _) nl0))) nl0) nll rfl, apc (first := []) (cap := []) (vs := [I x33, I 0, I x42]) rfl Qiy (Qd8 N x33 0 x42 _ hf43) rfl rfl (nlc nll (nlc nll (nlc nll nl0))) nll rfl, trivial⟩ ?_
     rcases bft ((!x44)) with hc45 | hc45
     ·replace h := Qaz hc45 h
      refine wft hc45 (by kernel_rfl) ?_
      refine wx tbk [] trivial ?_
      refine Qae ?_
      refine Qbz ?_
      refine Qaw ?_
      refine Qaw ?_
      refine Qbz ?_
      refine Qaw ?_
      obtain rfl := osi h
      exact fend ⟨[B false], ⟨rot (by kernel_rfl), trivial⟩, rfl⟩ nll
     ·replace h := Qa0 hc45 h
      refine wfn hc45 (by kernel_rfl) ?_
      refine Qal ?_
      refine bln ?_
      refine thn ?_
      refine wx1 tbk [] trivial ?_
      refine thn ?_
      exact arm (mto (n := 63) [(0, (Qgo p0)), (1, (Qf9 p1)), (2, (Qgp p2)), (7, (I (w64 (y29 + 1))))] [] [] hφ0 (pc (.rn (.plain _ (nld Qaa _))) (pc (.rn (.plain _ (nld Qac _))) (pc (.rn (.plain _ (nld Qaa _))) (pc rwl pn)))) qn) (ih (w64 (y29 + 1)) h)
    ·replace h := Qa0 hc32 h
     refine wfn hc32 (by kernel_rfl) ?_
     refine Qbe ?_
     refine Qap ?_
     refine Qap ?_
     refine Qbd rfl ?_
     refine thn ?_
     exact ⟨(), h, (mto (n := 63) [(0, (Qgo p0)), (1, (Qf9 p1)), (2, (Qgp p2))] [] [] hφ0 (pc (.rn (.plain _ (nld Qaa _))) (pc (.rn (.plain _ (nld Qac _))) (pc (.rn (.plain _ (nld Qaa _))) pn))) qn)⟩
def Qja (N : Nat) (p0 : (List Int)) (p1 : (List GUnit)) (p2 : (List Int)) : Option Bool :=
  (Qgv N p0 p1 p2).bind fun x2 =>
  some x2
set_option maxRecDepth 100000 in
set_option maxHeartbeats 4000000 in
theorem Qov (N : Nat) (p0 : (List Int)) (p1 : (List GUnit)) (p2 : (List Int)) (r : Bool) (h : Qja N p0 p1 p2 = some r) : Spec Try.prog 48 [(.dat 1 (p0.map Qab)), (.dat 2 (p1.map Qat)), (.dat 1 (p2.map Qab))] [] (B r) [] := by
  refine Qad Try.func48 rfl 0 (nle rfl) (fun X φ0 w0 hφ0 => ?_)
  unfold Qja at h
  refine wx tbk [] trivial ?_
  obtain ⟨x2, hf1, h⟩ := bno h
  refine wx tbk [(3, rp [fu 85, (.tmp 7, (.dat 1 ((p0 : List Int).map Qab))), (.tmp 8, (.dat 2 ((p1 : List GUnit).map Qat))), (.tmp 9, (.dat 1 ((p2 : List Int).map Qab)))] (B x2))] ⟨apc (first := []) (cap := []) (vs := [(.dat 1 ((p0 : List Int).map Qab)), (.dat 2 ((p1 : List GUnit).map Qat)), (.dat 1 ((p2 : List Int).map Qab))]) rfl enter85 (Qn6 N p0 p1 p2 _ hf1) rfl rfl (nlc (nld Qaa _) (nlc (nld Qac _) (nlc (nld Qaa _) nl0))) nll rfl, trivial⟩ ?_
  refine Qae ?_
  obtain rfl := osi h
  exact fend ⟨[B x2], ⟨rot (by kernel_rfl), trivial⟩, rfl⟩ nll
def Qe8 (N : Nat) (p0 : Int) : Option Bool :=
  (Qbj N p0 0 1000).bind fun x2 =>
  some x2
set_option maxRecDepth 100000 in
set_option maxHeartbeats 4000000 in
theorem Qj1 (N : Nat) (p0 : Int) (r : Bool) (h : Qe8 N p0 = some r) : Spec Try.prog 107 [(I p0)] [] (B r) [] := by
  refine Qad Try.func107 rfl 0 (nle rfl) (fun X φ0 w0 hφ0 => ?_)
  unfold Qe8 at h
  refine wx tbk [] trivial ?_
  obtain ⟨x2, hf1, h⟩ := bno h
  refine wx tbk [(1, rp [fu 65, (.tmp 3, I p0), ci 0, ci 1000] (B x2))] ⟨apc (first := []) (cap := []) (vs := [I p0, I 0, I 1000]) rfl Qby (Qag N p0 0 1000 _ hf1) rfl rfl (nlc nll (nlc nll (nlc nll nl0))) nll rfl, trivial⟩ ?_
  refine Qae ?_
  obtain rfl := osi h
  exact fend ⟨[B x2], ⟨rot (by kernel_rfl), trivial⟩, rfl⟩ nll
def Qfe (N : Nat) (p0 : Int) : Option Bool :=
  (Qe8 N p0).bind fun x3 =>
  some (!x3)
def Qws : Slot := .own 1 [[(.fn (.func 107) [] [])]]
set_option maxRecDepth 100000 in
set_option maxHeartbeats 4000000 in
theorem Qll (N : Nat) (p0 : Int) (r : Bool) (h : Qfe N p0 = some r) : Spec Try.prog 110 [(I (p0)), (.ref 0 1 (0) 0)] [Qws] (B (r)) [Qws] := by
  refine Qad Try.func110 rfl 1 (nle rfl) (fun X φ0 w0 hφ0 => ?_)
  unfold Qfe at h
  refine Qbt ?_
  refine wx tbk [] trivial ?_
  obtain ⟨x3, hf2, h⟩ := bno h
  refine wx tbk [(2, rp [(.tmp 4, (.fn (.func 107) [] [])), (.tmp 5, I p0)] (B x3))] ⟨apc (first := []) (cap := []) (vs := [I p0]) rfl enter107 (Qj1 N p0 _ hf2) rfl rfl (nlc nll nl0) nll rfl, trivial⟩ ?_
  refine wmr (mto (n := 8) (l' := [(3, (B ((!x3))))]) (own' := [Qws]) [(3, (B ((!x3))))] [0] [Qws] hφ0 (pc rwl pn) (qc (spb (lc (.rn (Qas rn0 rn0)) ln)) qn)) ?_
  refine Qae ?_
  obtain rfl := osi h
  exact ⟨_, Mor.rfl, Qce (vs := [(B ((!x3)))]) ⟨rot (by kernel_rfl), trivial⟩ rfl (NLt.of0 nll) (by kernel_rfl) (Qaj (Qax (nlc (NLt.of0 (NLt.fn _ _ _ nl0 nl0)) nl0)) Qbm)⟩
def Qbo (N : Nat) (p0 : (List Int)) (k2 : Unit → Option Int) : Nat → Int → Option Int
  | 0, _ => none
  | n5 + 1, y3 =>
    bif (decide (y3 < (p0.length : Int))) then
     (getI p0 y3).bind fun x7 =>
     (Qfe N x7).bind fun x12 =>
     bif x12 then
      some y3
     else
      Qbo N p0 k2 n5 (w64 (y3 + 1))
    else
     k2 ()
def Qdz (N : Nat) (p0 : (List Int)) : Option Int :=
  Qb2 (fun _ =>
    some (-1)) fun k2 : Unit → Option Int =>
  Qbo N p0 k2 N 0
def Qo8 (p0 : (List Int)) : AV := .dat 1 ((p0 : List Int).map Qab)
def Qqi : AV := .fn (.func 110) [] [(.ref 0 1 (0) 0)]
def Qi1 : Slot := .own 1 [[(.fn (.func 107) [] [])]]
set_option maxRecDepth 100000 in
set_option maxHeartbeats 4000000 in
theorem Qif (N : Nat) (p0 : (List Int)) (r : Int) (h : Qdz N p0 = some r) : Spec Try.prog 71 [(Qo8 p0), Qqi] [Qi1] (I (r)) [Qi1] := by
  refine Qad Try.func71 rfl 1 (nle rfl) (fun X φ0 w0 hφ0 => ?_)
  unfold Qdz at h
  refine Qbt ?_
  refine wx tbk [] trivial ?_
  obtain ⟨k2, hk_k2, h⟩ := jko h
  refine wjn (τ := Unit) (fun t => k2 t = some r) (fun _ => ⟨mk 19 [], [Qi1]⟩) (fun t h => ?_) ?_
  ·subst hk_k2
   refine wx tbk [] trivial ?_
   refine wmr (mto (n := 19) (l' := [(4, (I ((-1))))]) (own' := [Qi1]) [(4, (I ((-1))))] [0] [Qi1] hφ0 (pc rwl pn) (qc (spb (lc (.rn (Qas rn0 rn0)) ln)) qn)) ?_
   refine Qae ?_
   obtain rfl := osi h
   exact ⟨_, Mor.rfl, Qce (vs := [(I ((-1)))]) ⟨rot (by kernel_rfl), trivial⟩ rfl (NLt.of0 nll) (by kernel_rfl) (Qaj (Qax (nlc (NLt.of0 (NLt.fn _ _ _ nl0 nl0)) nl0)) Qbm)⟩
  ·skip
   refine wx tbk [(1, rp [(.tmp 6, (Qo8 p0))] (I ((p0.length : Int))))] ⟨alm (c := Qab) (l := p0) (aln rfl Try.underlying37 rfl), trivial⟩ ?_
   refine Qah ?_
   refine wmr (mto (n := 19) (l' := [(0, (Qo8 p0)), (1, Qqi), (7, (I ((p0.length : Int)))), (8, I 0)]) (own' := [Qi1]) [(0, (Qo8 p0)), (1, Qqi), (7, (I ((p0.length : Int)))), (8, I 0)] [0] [Qi1] hφ0 (pc (.rn (.plain _ (nld Qaa _))) (pc (.rn (Qas rn0 (rnc (rqr rfl) rn0))) (pc rwl (pc rwl pn)))) (qc (spb (lc (.rn (Qas rn0 rn0)) ln)) qn)) ?_
   refine Qbw (τ := Int) (fun n t => Qbo N p0 k2 n t = some r) (fun y3 => ⟨mk 19 [(0, (Qo8 p0)), (1, Qqi), (7, (I ((p0.length : Int)))), (8, I y3)], [Qi1]⟩) (fun t h => by rw [Qbo] at h; cases h) (fun n5 ih y3 h => ?_) N (0) h
   rw [Qbo] at h
   skip
   refine wx tbk [] trivial ?_
   refine wsq ?_
   rcases bft ((decide (y3 < (p0.length : Int)))) with hc6 | hc6
   ·replace h := Qaz hc6 h
    refine wft hc6 (by kernel_rfl) ?_
    refine Qal ?_
    refine thn ?_
    refine wsq ?_
    refine Qah ?_
    refine wx tbk [] trivial ?_
    obtain ⟨x7, hg8, h⟩ := bno h
    obtain ⟨hi9, hj10⟩ := gsm hg8
    obtain ⟨x12, hf11, h⟩ := bno h
    refine wx tbk [(3, rp [(.tmp 12, (Qo8 p0)), (.tmp 13, I y3)] (.dptr (Qab (x7)) 0)), (5, ⟨[(.tmp 11, Qqi), (.tmp 15, I x7)], [(0, Qi1)], B x12, [(0, Qi1)], false⟩)] ⟨aid rfl Try.underlying37 ti3 rfl rfl hi9 (mgt Qab hj10) rfl, Qan (first := []) (cap := [.ref 0 1 0 0]) (vs := [I x7]) (σr := [Qi1]) (σr' := [Qi1]) (res' := (B x12)) [0] rfl Qsk (Qll N x7 _ hf11) rfl (Qb0 (rnc (.plain _ nll) (rnc (Qbh rfl) rn0))) (slc (Qak (rnc (.plain _ (NLt.fn _ _ _ nl0 nl0)) rn0)) Qam) (slc (Qak (rnc (.plain _ (NLt.fn _ _ _ nl0 nl0)) rn0)) Qam) (.plain _ nll) rfl rfl rfl, trivial⟩ ?_
    rcases bft (x12) with hc13 | hc13
    ·replace h := Qaz hc13 h
     refine wft hc13 (by kernel_rfl) ?_
     refine wx tbk [] trivial ?_
     refine wmr (mto (n := 19) (l' := [(4, I y3)]) (own' := [Qi1]) [(4, I y3)] [0] [Qi1] hφ0 (pc rwl pn) (qc (spb (lc (.rn (Qas rn0 rn0)) ln)) qn)) ?_
     refine Qae ?_
     refine Qbz ?_
     refine Qaw ?_
     refine Qaw ?_
     refine Qbz ?_
     refine Qaw ?_
     obtain rfl := osi h
     exact ⟨_, Mor.rfl, Qce (vs := [I y3]) ⟨rot (by kernel_rfl), trivial⟩ rfl (NLt.of0 nll) (by kernel_rfl) (Qaj (Qax (nlc (NLt.of0 (NLt.fn _ _ _ nl0 nl0)) nl0)) Qbm)⟩
    ·replace h := Qa0 hc13 h
     refine wfn hc13 (by kernel_rfl) ?_
     refine Qal ?_
     refine bln ?_
     refine thn ?_
     refine wx1 tbk [] trivial ?_
     refine thn ?_
     exact arm (mto (n := 19) [(0, (Qo8 p0)), (1, Qqi), (7, (I ((p0.length : Int)))), (8, (I (w64 (y3 + 1))))] [0] [Qi1] hφ0 (pc (.rn (.plain _ (nld Qaa _))) (pc (.rn (Qas rn0 (rnc (rqr rfl) rn0))) (pc rwl (pc rwl pn)))) (qc (spb (lc (.rn (Qas rn0 rn0)) ln)) qn)) (ih (w64 (y3 + 1)) h)
   ·replace h := Qa0 hc6 h
    refine wfn hc6 (by kernel_rfl) ?_
    refine Qbe ?_
    refine Qap ?_
    refine Qap ?_
    refine Qbd rfl ?_
    refine thn ?_
    exact ⟨(), h, (mto (n := 19) [] [0] [Qi1] hφ0 pn (qc (spb (lc (.rn (Qas rn0 rn0)) ln)) qn))⟩
def Qdj (N : Nat) (p0 : (List Int)) : Option Bool :=
  (Qdz N p0).bind fun x3 =>
  some (decide (x3 ≥ 0))
def z117_0 (p0 : (List Int)) : AV := .dat 1 ((p0 : List Int).map Qab)
def z117_1 : AV := .fn (.func 110) [] [(.ref 0 1 (0) 0)]
def Qok : Slot := .own 1 [[(.fn (.func 107) [] [])]]
set_option maxRecDepth 100000 in
set_option maxHeartbeats 4000000 in
theorem Qhh (N : Nat) (p0 : (List Int)) (r : Bool) (h : Qdj N p0 = some r) : Spec Try.prog 109 [(z117_0 p0), z117_1] [Qok] (B (r)) [Qok] := by
  refine Qad Try.func109 rfl 1 (nle rfl) (fun X φ0 w0 hφ0 => ?_)
  unfold Qdj at h
  refine Qbt ?_
  refine wx tbk [] trivial ?_
  obtain ⟨x3, hf2, h⟩ := bno h
  refine wx tbk [(2, ⟨[fu 71, (.tmp 5, (z117_0 p0)), (.tmp 6, z117_1)], [(0, Qok)], I x3, [(0, Qok)], false⟩)] ⟨Qan (first := []) (cap := []) (vs := [(z117_0 p0), z117_1]) (σr := [Qok]) (σr' := [Qok]) (res' := (I x3)) [0] rfl Qsh (Qif N p0 _ hf2) rfl (Qb0 (rnc (.plain _ (nld Qaa _)) (rnc (Qas rn0 (rnc (Qbh rfl) rn0)) rn0))) (slc (Qak (rnc (.plain _ (NLt.fn _ _ _ nl0 nl0)) rn0)) Qam) (slc (Qak (rnc (.plain _ (NLt.fn _ _ _ nl0 nl0)) rn0)) Qam) (.plain _ nll) rfl rfl rfl, trivial⟩ ?_
  refine wmr (mto (n := 9) (l' := [(4, (B ((decide (x3 ≥ 0)))))]) (own' := [Qok]) [(4, (B ((decide (x3 ≥ 0)))))] [0] [Qok] hφ0 (pc rwl pn) (qc (spb (lc (.rn (Qas rn0 rn0)) ln)) qn)) ?_
  refine Qae ?_
  obtain rfl := osi h
  exact ⟨_, Mor.rfl, Qce (vs := [(B ((decide (x3 ≥ 0))))]) ⟨rot (by kernel_rfl), trivial⟩ rfl (NLt.of0 nll) (by kernel_rfl) (Qaj (Qax (nlc (NLt.of0 (NLt.fn _ _ _ nl0 nl0)) nl0)) Qbm)⟩
def Qgz (N : Nat) (p0 : (List Int)) : Option Bool :=
  (Qdj N p0).bind fun x2 =>
  some (!x2)
def z116_1 (p0 : (List Int)) : AV := .dat 1 ((p0 : List Int).map Qab)
def z116_2 : AV := .fn (.func 110) [] [(.ref 0 1 (0) 0)]
def Qwt : Slot := .own 1 [[(.fn (.func 107) [] [])]]
set_option maxRecDepth 100000 in
set_option maxHeartbeats 4000000 in
theorem Qmy (N : Nat) (p0 : (List Int)) (r : Bool) (h : Qgz N p0 = some r) : Spec Try.prog 89 [(z116_1 p0), (.fn (.func 107) [] [])] [] (B (r)) [] := by
  refine Qad Try.func89 rfl 0 (nle rfl) (fun X φ0 w0 hφ0 => ?_)
  unfold Qgz at h
  refine wx tbk [] trivial ?_
  obtain ⟨x2, hf1, h⟩ := bno h
  refine wx tbk [(1, rp [(.tmp 3, .ref 0 1 0 0)] z116_2), (2, ⟨[fu 109, (.tmp 5, (z116_1 p0)), (.tmp 6, z116_2)], [(0, Qwt)], B x2, [(0, Qwt)], false⟩)] ⟨Qek (fs := []) (cs := [.ref 0 1 0 0]) rfl rfl rfl rfl, Qan (first := []) (cap := []) (vs := [(z116_1 p0), z116_2]) (σr := [Qwt]) (σr' := [Qwt]) (res' := (B x2)) [0] rfl Qsl (Qhh N p0 _ hf1) rfl (Qb0 (rnc (.plain _ (nld Qaa _)) (rnc (Qas rn0 (rnc (Qbh rfl) rn0)) rn0))) (slc (Qak (rnc (.plain _ (NLt.fn _ _ _ nl0 nl0)) rn0)) Qam) (slc (Qak (rnc (.plain _ (NLt.fn _ _ _ nl0 nl0)) rn0)) Qam) (.plain _ nll) rfl rfl rfl, trivial⟩ ?_
  refine Qae ?_
  obtain rfl := osi h
  exact fend ⟨[(B ((!x2)))], ⟨rot (by kernel_rfl), trivial⟩, rfl⟩ nll
def Qd6 (N : Nat) (p0 : GShared) (p1 : (List Int)) : Option Bool :=
  bif ((p1.length : Int) == (p0.heads.length : Int)) then
   (Qgz N p1).bind fun x3 =>
   some x3
  else
   some false
def Qwu (p1 : (List Int)) : AV := .dat 1 ((p1 : List Int).map Qab)
def z115_0 (p0 : GShared) : AV := .dat 1 ((p0.heads : List Int).map Qab)
set_option maxRecDepth 100000 in
set_option maxHeartbeats 4000000 in
theorem Qfw (N : Nat) (p0 : GShared) (p1 : (List Int)) (r : Bool) (h : Qd6 N p0 p1 = some r) : Spec Try.prog 83 [(.agg (Qlw p0)), (.dat 1 (p1.map Qab))] [] (B r) [] := by
  refine Qad Try.func83 rfl 0 (nle rfl) (fun X φ0 w0 hφ0 => ?_)
  unfold Qd6 at h
  refine wx tbk [] trivial ?_
  rcases bft (((p1.length : Int) == (p0.heads.length : Int))) with hb1 | hb1
  ·replace h := Qaz hb1 h
   obtain ⟨x3, hf2, h⟩ := bno h
   refine wx tbk [(1, rp [(.tmp 5, (Qwu p1))] (I ((p1.length : Int)))), (4, rp [(.tmp 8, (z115_0 p0))] (I ((p0.heads.length : Int)))), (6, rp [(.tmp 10, (B (((p1.length : Int) == (p0.heads.length : Int)))))] (B true)), (8, rp [(.tmp 11, B true), fu 89, (.tmp 12, (Qwu p1)), fu 107] (B x3))] ⟨alm (c := Qab) (l := p1) (aln rfl Try.underlying37 rfl), alm (c := Qab) (l := p0.heads) (aln rfl Try.underlying37 rfl), asb hb1 (amv rfl), ag_ (Qan (first := []) (cap := []) (vs := [(Qwu p1), (.fn (.func 107) [] [])]) (σr := []) (σr' := []) (res' := (B x3)) [] rfl Qj3 (Qmy N p1 _ hf2) rfl (Qb0 (rnc (.plain _ (nld Qaa _)) (rnc (.plain _ (NLt.fn _ _ _ nl0 nl0)) rn0))) Qam Qam (.plain _ nll) rfl rfl rfl), trivial⟩ ?_
   refine Qae ?_
   obtain rfl := osi h
   exact fend ⟨[B x3], ⟨rot (by kernel_rfl), trivial⟩, rfl⟩ nll
  ·replace h := Qa0 hb1 h
   refine wx tbk [(1, rp [(.tmp 5, (Qwu p1))] (I ((p1.length : Int)))), (4, rp [(.tmp 8, (z115_0 p0))] (I ((p0.heads.length : Int)))), (6, rp [(.tmp 10, (B (((p1.length : Int) == (p0.heads.length : Int)))))] (B false))] ⟨alm (c := Qab) (l := p1) (aln rfl Try.underlying37 rfl), alm (c := Qab) (l := p0.heads) (aln rfl Try.underlying37 rfl), asb hb1 (amv rfl), trivial⟩ ?_
   refine Qae ?_
   obtain rfl := osi h
   exact fend ⟨[B false], ⟨rot (by kernel_rfl), trivial⟩, rfl⟩ nll
def Qcp (N : Nat) (p1 : (List Int)) (y3 : (List Int)) (k14 : Int → Option Int) (x15 : GUnit) : Nat → Int → Int → Option Int
  | 0, _, _ => none
  | n23 + 1, y19, y20 =>
    bif (decide (y20 < (x15.Parts.length : Int))) then
     (getI x15.Parts y20).bind fun x25 =>
     chk (decide (0 ≤ x15.Inlet) && decide (x15.Inlet.toNat < (p1.length : Int).toNat)) <|
     (y3[x15.Inlet.toNat]?).bind fun x30 =>
     (some (if (w64 (x25.Gain - x30)) > 0 then w64 (x25.Gain - x30) else 0)).bind fun x32 =>
     (some (w64 (y19 + (w64 (x25.Width * x32))))).bind fun x34 =>
     Qcp N p1 y3 k14 x15 n23 x34 (w64 (y20 + 1))
    else
     k14 (y19)
def Qbx (N : Nat) (p0 : GShared) (p1 : (List Int)) (y3 : (List Int)) (k6 : Int → Option Int) : Nat → Int → Int → Option Int
  | 0, _, _ => none
  | n11 + 1, y7, y8 =>
    bif (decide (y8 < (p0.units.length : Int))) then
     Qb2 (fun y13 =>
       Qbx N p0 p1 y3 k6 n11 y13 (w64 (y8 + 1))) fun k14 : Int → Option Int =>
     (getI p0.units y8).bind fun x15 =>
     Qcp N p1 y3 k14 x15 N y7 0
    else
     k6 (y7)
def Qco (N : Nat) (p0 : GShared) (p1 : (List Int)) (k4 : Int × (List Int) → Option Int) (x37 : (List Int)) : Nat → Int → Int → Int → (List Int) → Option Int
  | 0, _, _, _, _ => none
  | n46 + 1, y38, y39, y40, y41 =>
    bif (decide (y40 < ((p0.heads.length : Nat) : Int))) then
     chk (decide (0 ≤ y40) && decide (y40.toNat < p0.heads.length)) <|
     (x37[y40.toNat]?).bind fun x49 =>
     (getI p1 y40).bind fun x51 =>
     chk (decide (0 ≤ y40) && decide (y40.toNat < (p1.length : Int).toNat)) <|
     (y41[y40.toNat]?).bind fun _ =>
     (some (w64 (y38 + (w64 (x51 * x49))))).bind fun x58 =>
     Qco N p0 p1 k4 x37 n46 x58 (w64 (y39 + x51)) (w64 (y40 + 1)) (y41.set y40.toNat (w64 (y39 + x51)))
    else
     k4 (y38, y41)
def Qea (N : Nat) (p0 : GShared) (p1 : (List Int)) : Option Int :=
  chk (decide (0 ≤ (p1.length : Int)) && decide (8 * (p1.length : Int) ≤ 281474976710656) && decide ((p1.length : Int) ≤ 9223372036854775807)) <|
  Qb2 (fun ⟨y2, y3⟩ =>
    Qb2 (fun y5 =>
      some y5) fun k6 : Int → Option Int =>
    Qbx N p0 p1 y3 k6 N y2 0) fun k4 : Int × (List Int) → Option Int =>
  (Qdh N p0).bind fun x37 =>
  Qco N p0 p1 k4 x37 N 0 0 0 (List.replicate (p1.length : Int).toNat 0)
def Qo7 (p1 : (List Int)) : AV := .dat 1 ((p1 : List Int).map Qab)
def z121_5 (p1 : (List Int)) : Slot := .own 1 ((List.replicate (p1.length : Int).toNat 0 : List Int).map Qab)
def z121_0 (p0 : GShared) : AV := .dat 1 ((p0.heads : List Int).map Qab)
def Qjh (p0 : GShared) : AV := .dat 2 ((p0.units : List GUnit).map Qat)
def Qqh (p0 : GShared) : Slot := .own 2 [[(z121_0 p0), (Qjh p0)]]
def Qh0 (y3 : (List Int)) : Slot := .own 1 ((y3 : List Int).map Qab)
def Qmt (x15 : GUnit) : AV := .dat 2 ((x15.Parts : List GPart).map Qa4)
def Qrj (x15 : GUnit) : Slot := .own 2 [[(I (x15.Inlet)), (Qmt x15)]]
def Qle (x37 : (List Int)) : Slot := .own 1 ((x37 : List Int).map Qab)
def Qri (y41 : (List Int)) : Slot := .own 1 ((y41 : List Int).map Qab)
set_option maxRecDepth 100000 in
set_option maxHeartbeats 4000000 in
theorem Qhw (N : Nat) (p0 : GShared) (p1 : (List Int)) (r : Int) (h : Qea N p0 p1 = some r) : Spec Try.prog 84 [(.agg (Qlw p0)), (.dat 1 (p1.map Qab))] [] (I r) [] := by
  refine Qad Try.func84 rfl 0 (nle rfl) (fun X φ0 w0 hφ0 => ?_)
  unfold Qea at h
  refine wx tbk [] trivial ?_
  refine wx tbk [] trivial ?_
  obtain ⟨hm1, h⟩ := cko h
  refine wx tbk [(1, rp [(.tmp 13, (Qo7 p1))] (I ((p1.length : Int)))), (2, ⟨[(.tmp 14, (I ((p1.length : Int)))), (.tmp 14, (I ((p1.length : Int))))], [(1, .unused)], (.own 1 1 (0) ((p1.length : Int).toNat)), [(1, (z121_5 p1))], false⟩)] ⟨alm (c := Qab) (l := p1) (aln rfl Try.underlying37 rfl), Qh7 rfl Try.underlying37 te3 tz3 rfl (Qsv hm1) rfl (Qsu hm1) (Qp7 hm1) (Qpi Qab rfl), trivial⟩ ?_
  obtain ⟨k4, hk_k4, h⟩ := jko h
  refine wjn (τ := Int × (List Int)) (fun t => k4 t = some r) (fun ⟨y2, y3⟩ => ⟨mk 74 [(2, .ref 0 2 0 0), (4, I y2), (6, (.own 1 1 (0) ((p1.length : Int).toNat)))], [(Qqh p0), (Qh0 y3)]⟩) (fun t h => ?_) ?_
  ·subst hk_k4
   obtain ⟨y2, y3⟩ := t
   obtain ⟨k6, hk_k6, h⟩ := jko h
   refine wjn (τ := Int) (fun t => k6 t = some r) (fun y5 => ⟨mk 74 [(4, I y5)], []⟩) (fun y5 h => ?_) ?_
   ·subst hk_k6
    refine wx tbk [] trivial ?_
    refine Qae ?_
    obtain rfl := osi h
    exact fend ⟨[I y5], ⟨rot (by kernel_rfl), trivial⟩, rfl⟩ nll
   ·skip
    refine wx tbk [(2, rp [(.tmp 44, (Qjh p0))] (I ((p0.units.length : Int))))] ⟨alm (c := Qat) (l := p0.units) (aln rfl Try.underlying89 rfl), trivial⟩ ?_
    refine Qah ?_
    refine wmr (mto (n := 74) (l' := [(4, I y2), (6, (.own 0 1 (0) ((p1.length : Int).toNat))), (44, (Qjh p0)), (45, (I ((p0.units.length : Int)))), (46, I 0)]) (own' := [(Qh0 y3)]) [(4, I y2), (6, (.own 1 1 (0) ((p1.length : Int).toNat))), (44, (Qjh p0)), (45, (I ((p0.units.length : Int)))), (46, I 0)] [1] [(Qh0 y3)] hφ0 (pc rwl (pc (.rn (Qaf rfl)) (pc (.rn (.plain _ (nld Qac _))) (pc rwl (pc rwl pn))))) (qc (spr Qaa) qn)) ?_
    refine Qbw (τ := Int × Int) (fun n t => Qbx N p0 p1 y3 k6 n t.1 t.2 = some r) (fun ⟨y7, y8⟩ => ⟨mk 74 [(4, I y7), (6, (.own 0 1 (0) ((p1.length : Int).toNat))), (44, (Qjh p0)), (45, (I ((p0.units.length : Int)))), (46, I y8)], [(Qh0 y3)]⟩) (fun t h => by rw [Qbx] at h; cases h) (fun n11 ih t h => ?_) N (y2, 0) h
    obtain ⟨y7, y8⟩ := t
    rw [Qbx] at h
    skip
    refine wx tbk [] trivial ?_
    refine wsq ?_
    rcases bft ((decide (y8 < (p0.units.length : Int)))) with hc12 | hc12
    ·replace h := Qaz hc12 h
     refine wft hc12 (by kernel_rfl) ?_
     refine Qal ?_
     refine thn ?_
     obtain ⟨k14, hk_k14, h⟩ := jko h
     refine wjn (τ := Int) (fun t => k14 t = some r) (fun y13 => ⟨mk 74 [(4, I y13), (6, (.own 0 1 (0) ((p1.length : Int).toNat))), (44, (Qjh p0)), (45, (I ((p0.units.length : Int)))), (46, I y8)], [(Qh0 y3)]⟩) (fun y13 h => ?_) ?_
     ·subst hk_k14
      refine wx1 tbk [] trivial ?_
      refine thn ?_
      exact arm (mto (n := 74) [(4, I y13), (6, (.own 0 1 (0) ((p1.length : Int).toNat))), (44, (Qjh p0)), (45, (I ((p0.units.length : Int)))), (46, (I (w64 (y8 + 1))))] [0] [(Qh0 y3)] hφ0 (pc rwl (pc (.rn (Qaf rfl)) (pc (.rn (.plain _ (nld Qac _))) (pc rwl (pc rwl pn))))) (qc (spr Qaa) qn)) (ih (y13, w64 (y8 + 1)) h)
     ·skip
      refine Qah ?_
      obtain ⟨x15, hg16, h⟩ := bno h
      obtain ⟨hi17, hj18⟩ := gsm hg16
      refine wx tbk [(0, rp [(.tmp 44, (Qjh p0)), (.tmp 46, I y8)] (.dptr (Qat (x15)) 0))] ⟨aid rfl Try.underlying89 ti34 rfl rfl hi17 (mgt Qat hj18) rfl, trivial⟩ ?_
      refine wx tbk [(2, rp [(.tmp 51, (Qmt x15))] (I ((x15.Parts.length : Int))))] ⟨alm (c := Qa4) (l := x15.Parts) (aln rfl Try.underlying32 rfl), trivial⟩ ?_
      refine Qah ?_
      refine wmr (mto (n := 74) (l' := [(4, I y7), (6, (.own 0 1 (0) ((p1.length : Int).toNat))), (10, .ref 1 2 0 0), (44, (Qjh p0)), (45, (I ((p0.units.length : Int)))), (46, I y8), (51, (Qmt x15)), (52, (I ((x15.Parts.length : Int)))), (53, I 0)]) (own' := [(Qh0 y3), (Qrj x15)]) [(4, I y7), (6, (.own 0 1 (0) ((p1.length : Int).toNat))), (10, .ref 1 2 0 0), (44, (Qjh p0)), (45, (I ((p0.units.length : Int)))), (46, I y8), (51, (Qmt x15)), (52, (I ((x15.Parts.length : Int)))), (53, I 0)] [0, 1] [(Qh0 y3), (Qrj x15)] hφ0 (pc rwl (pc (.rn (Qaf rfl)) (pc (.rn (rqr rfl)) (pc (.rn (.plain _ (nld Qac _))) (pc rwl (pc rwl (pc (.rn (.plain _ (nld Qbg _))) (pc rwl (pc rwl pn))))))))) (qc (spr Qaa) (qc (spb (lc rwl (lc (.rn (.plain _ (nld Qbg _))) ln))) qn))) ?_
      refine Qbw (τ := Int × Int) (fun n t => Qcp N p1 y3 k14 x15 n t.1 t.2 = some r) (fun ⟨y19, y20⟩ => ⟨mk 74 [(4, I y19), (6, (.own 0 1 (0) ((p1.length : Int).toNat))), (10, .ref 1 2 0 0), (44, (Qjh p0)), (45, (I ((p0.units.length : Int)))), (46, I y8), (51, (Qmt x15)), (52, (I ((x15.Parts.length : Int)))), (53, I y20)], [(Qh0 y3), (Qrj x15)]⟩) (fun t h => by rw [Qcp] at h; cases h) (fun n23 ih t h => ?_) N (y7, 0) h
      obtain ⟨y19, y20⟩ := t
      rw [Qcp] at h
      skip
      refine wx tbk [] trivial ?_
      refine wsq ?_
      rcases bft ((decide (y20 < (x15.Parts.length : Int)))) with hc24 | hc24
      ·replace h := Qaz hc24 h
       refine wft hc24 (by kernel_rfl) ?_
       refine Qal ?_
       refine thn ?_
       refine wsq ?_
       refine Qah ?_
       obtain ⟨x25, hg26, h⟩ := bno h
       obtain ⟨hi27, hj28⟩ := gsm hg26
       refine wx tbk [(0, rp [(.tmp 51, (Qmt x15)), (.tmp 53, I y20)] (.dptr (Qa4 (x25)) 0))] ⟨aid rfl Try.underlying32 Qn4 rfl rfl hi27 (mgt Qa4 hj28) rfl, trivial⟩ ?_
       obtain ⟨hi29, h⟩ := cko h
       obtain ⟨hi29a, hi29b⟩ := Qa5 hi29
       obtain ⟨x30, hg31, h⟩ := bno h
       obtain ⟨x32, hl33, h⟩ := bno h
       obtain ⟨x34, hl35, h⟩ := bno h
       refine wy1 tbk [(8, rb [(.tmp 62, (.own 0 1 (0) ((p1.length : Int).toNat))), (.tmp 64, I x15.Inlet)] [(0, (Qh0 y3))] (.ref 0 1 (x15.Inlet.toNat) 0)), (9, rb [(.tmp 65, (.ref 0 1 (x15.Inlet.toNat) 0))] [(0, (Qh0 y3))] (I x30)), (11, rp [ci 0, (.tmp 67, (I (w64 (x25.Gain - x30))))] (I x32)), (14, rp [(.tmp 70, (I (w64 (y19 + (w64 (x25.Width * x32))))))] (I x34))] ⟨aio rfl Try.underlying37 ti3 (odt hi29a) (odt hi29b) (Nat.zero_add _), ald rfl ti3 (by decide) (mgt Qab hg31) (nle rfl) rfl, Qeh hl33 (Qnp rfl), Qeh hl35 (aas rfl), trivial⟩ ?_
       refine bln ?_
       refine thn ?_
       refine wx1 tbk [] trivial ?_
       refine thn ?_
       exact arm (mto (n := 74) [(4, I x34), (6, (.own 0 1 (0) ((p1.length : Int).toNat))), (10, .ref 1 2 0 0), (44, (Qjh p0)), (45, (I ((p0.units.length : Int)))), (46, I y8), (51, (Qmt x15)), (52, (I ((x15.Parts.length : Int)))), (53, (I (w64 (y20 + 1))))] [0, 1] [(Qh0 y3), (Qrj x15)] hφ0 (pc rwl (pc (.rn (Qaf rfl)) (pc (.rn (rqr rfl)) (pc (.rn (.plain _ (nld Qac _))) (pc rwl (pc rwl (pc (.rn (.plain _ (nld Qbg _))) (pc rwl (pc rwl pn))))))))) (qc (spr Qaa) (qc (spb (lc rwl (lc (.rn (.plain _ (nld Qbg _))) ln))) qn))) (ih (x34, w64 (y20 + 1)) h)
      ·replace h := Qa0 hc24 h
       refine wfn hc24 (by kernel_rfl) ?_
       refine Qbe ?_
       refine Qap ?_
       refine Qap ?_
       refine Qbd rfl ?_
       refine bln ?_
       refine thn ?_
       exact ⟨(y19), h, (mto (n := 74) [(4, I y19), (6, (.own 0 1 (0) ((p1.length : Int).toNat))), (44, (Qjh p0)), (45, (I ((p0.units.length : Int)))), (46, I y8)] [0] [(Qh0 y3)] hφ0 (pc rwl (pc (.rn (Qaf rfl)) (pc (.rn (.plain _ (nld Qac _))) (pc rwl (pc rwl pn))))) (qc (spr Qaa) qn))⟩
    ·replace h := Qa0 hc12 h
     refine wfn hc12 (by kernel_rfl) ?_
     refine Qbe ?_
     refine Qap ?_
     refine Qap ?_
     refine Qbd rfl ?_
     refine thn ?_
     exact ⟨(y7), h, (mto (n := 74) [(4, I y7)] [] [] hφ0 (pc rwl pn) qn)⟩
  ·skip
   obtain ⟨x37, hf36, h⟩ := bno h
   refine wx tbk [(1, ⟨[fu 87, (.tmp 16, (.agg [(z121_0 p0), (Qjh p0)]))], [(2, .unused)], (.own 2 1 (0) (p0.heads.length)), [(2, (Qle x37))], false⟩), (2, rp [(.tmp 17, (.own 2 1 (0) (p0.heads.length)))] (I (((p0.heads.length : Nat) : Int))))] ⟨Qan (first := []) (cap := []) (vs := [(.agg [(z121_0 p0), (Qjh p0)])]) (σr := []) (σr' := [(Qle x37)]) (res' := (.own 2 1 (0) (p0.heads.length))) [2] rfl Qv0 (Qfv N p0 _ hf36) rfl (Qb0 (rnc (.plain _ (NLt.agg _ (nlc (nld Qaa _) (nlc (nld Qac _) nl0)))) rn0)) Qam (slc (Qc4 Qaa) Qam) (Qjl rfl) rfl rfl rfl, aln rfl Try.underlying37 rfl, trivial⟩ ?_
   refine Qah ?_
   refine wmr (mto (n := 74) (l' := [(1, (Qo7 p1)), (2, .ref 0 2 0 0), (4, I 0), (5, I 0), (6, (.own 1 1 (0) ((p1.length : Int).toNat))), (17, (.own 2 1 (0) (p0.heads.length))), (18, (I (((p0.heads.length : Nat) : Int)))), (19, I 0)]) (own' := [(Qqh p0), (.own 1 (((List.replicate (p1.length : Int).toNat 0) : List Int).map Qab)), (Qle x37)]) [(1, (Qo7 p1)), (2, .ref 0 2 0 0), (4, I 0), (5, I 0), (6, (.own 1 1 (0) ((p1.length : Int).toNat))), (17, (.own 2 1 (0) (p0.heads.length))), (18, (I (((p0.heads.length : Nat) : Int)))), (19, I 0)] [0, 1, 2] [(Qqh p0), (z121_5 p1), (Qle x37)] hφ0 (pc (.rn (.plain _ (nld Qaa _))) (pc (.rn (rqr rfl)) (pc rwl (pc rwl (pc (.rn (Qaf rfl)) (pc (.rn (Qaf rfl)) (pc rwl (pc rwl pn)))))))) (qc (spb (lc (.rn (.plain _ (nld Qaa _))) (lc (.rn (.plain _ (nld Qac _))) ln))) (qc (spr Qaa) (qc (spr Qaa) qn)))) ?_
   refine Qbw (τ := Int × Int × Int × (List Int)) (fun n t => Qco N p0 p1 k4 x37 n t.1 t.2.1 t.2.2.1 t.2.2.2 = some r) (fun ⟨y38, y39, y40, y41⟩ => ⟨mk 74 [(1, (Qo7 p1)), (2, .ref 0 2 0 0), (4, I y38), (5, I y39), (6, (.own 1 1 (0) ((p1.length : Int).toNat))), (17, (.own 2 1 (0) (p0.heads.length))), (18, (I (((p0.heads.length : Nat) : Int)))), (19, I y40)], [(Qqh p0), (Qri y41), (Qle x37)]⟩) (fun t h => by rw [Qco] at h; cases h) (fun n46 ih t h => ?_) N (0, 0, 0, List.replicate (p1.length : Int).toNat 0) h
   obtain ⟨y38, y39, y40, y41⟩ := t
   rw [Qco] at h
   skip
   refine wx tbk [] trivial ?_
   refine wsq ?_
   rcases bft ((decide (y40 < ((p0.heads.length : Nat) : Int)))) with hc47 | hc47
   ·replace h := Qaz hc47 h
    refine wft hc47 (by kernel_rfl) ?_
    refine Qal ?_
    refine thn ?_
    refine wsq ?_
    refine Qah ?_
    obtain ⟨hi48, h⟩ := cko h
    obtain ⟨hi48a, hi48b⟩ := Qa5 hi48
    obtain ⟨x49, hg50, h⟩ := bno h
    refine wx tbk [(1, rb [(.tmp 17, (.own 2 1 (0) (p0.heads.length))), (.tmp 19, I y40)] [(2, (Qle x37))] (.ref 2 1 (y40.toNat) 0)), (2, rb [(.tmp 22, (.ref 2 1 (y40.toNat) 0))] [(2, (Qle x37))] (I x49))] ⟨aio rfl Try.underlying37 ti3 (odt hi48a) (odt hi48b) (Nat.zero_add _), ald rfl ti3 (by decide) (mgt Qab hg50) (nle rfl) rfl, trivial⟩ ?_
    obtain ⟨x51, hg52, h⟩ := bno h
    obtain ⟨hi53, hj54⟩ := gsm hg52
    refine wx tbk [(3, rp [(.tmp 25, (Qo7 p1)), (.tmp 26, I y40)] (.dptr (Qab (x51)) 0))] ⟨aid rfl Try.underlying37 ti3 rfl rfl hi53 (mgt Qab hj54) rfl, trivial⟩ ?_
    obtain ⟨hi55, h⟩ := cko h
    obtain ⟨hi55a, hi55b⟩ := Qa5 hi55
    obtain ⟨x56, hg57, h⟩ := bno h
    refine wx tbk [(3, rb [(.tmp 30, (.own 1 1 (0) ((p1.length : Int).toNat))), (.tmp 31, I y40)] [(1, (Qri y41))] (.ref 1 1 (y40.toNat) 0)), (4, ⟨[(.tmp 33, (.ref 1 1 (y40.toNat) 0)), (.tmp 32, (I (w64 (y39 + x51))))], [(1, (Qri y41))], .any, [(1, (.own 1 ((y41.set y40.toNat (w64 (y39 + x51)) : List Int).map Qab)))], false⟩)] ⟨aio rfl Try.underlying37 ti3 (odt hi55a) (odt hi55b) (Nat.zero_add _), ast rfl ti3 (by rfl) (mgt Qab hg57) (nle rfl) (Qfn Qab rfl), trivial⟩ ?_
    obtain ⟨x58, hl59, h⟩ := bno h
    refine wx1 tbk [(3, rp [(.tmp 35, (Qo7 p1)), (.tmp 36, I y40)] (.dptr (Qab (x51)) 0)), (8, rp [(.tmp 41, (I (w64 (y38 + (w64 (x51 * x49))))))] (I x58))] ⟨aid rfl Try.underlying37 ti3 rfl rfl hi53 (mgt Qab hj54) rfl, Qeh hl59 (aas rfl), trivial⟩ ?_
    refine bln ?_
    refine thn ?_
    refine wx1 tbk [] trivial ?_
    refine thn ?_
    exact arm (mto (n := 74) [(1, (Qo7 p1)), (2, .ref 0 2 0 0), (4, I x58), (5, (I (w64 (y39 + x51)))), (6, (.own 1 1 (0) ((p1.length : Int).toNat))), (17, (.own 2 1 (0) (p0.heads.length))), (18, (I (((p0.heads.length : Nat) : Int)))), (19, (I (w64 (y40 + 1))))] [0, 1, 2] [(Qqh p0), (.own 1 ((y41.set y40.toNat (w64 (y39 + x51)) : List Int).map Qab)), (Qle x37)] hφ0 (pc (.rn (.plain _ (nld Qaa _))) (pc (.rn (rqr rfl)) (pc rwl (pc rwl (pc (.rn (Qaf rfl)) (pc (.rn (Qaf rfl)) (pc rwl (pc rwl pn)))))))) (qc (spb (lc (.rn (.plain _ (nld Qaa _))) (lc (.rn (.plain _ (nld Qac _))) ln))) (qc (spr Qaa) (qc (spr Qaa) qn)))) (ih (x58, w64 (y39 + x51), w64 (y40 + 1), y41.set y40.toNat (w64 (y39 + x51))) h)
   ·replace h := Qa0 hc47 h
    refine wfn hc47 (by kernel_rfl) ?_
    refine Qbe ?_
    refine Qap ?_
    refine Qap ?_
    refine Qbd rfl ?_
    refine thn ?_
    exact ⟨(y38, y41), h, (mto (n := 74) [(2, .ref 0 2 0 0), (4, I y38), (6, (.own 1 1 (0) ((p1.length : Int).toNat)))] [0, 1] [(Qqh p0), (Qri y41)] hφ0 (pc (.rn (rqr rfl)) (pc rwl (pc (.rn (Qaf rfl)) pn))) (qc (spb (lc (.rn (.plain _ (nld Qaa _))) (lc (.rn (.plain _ (nld Qac _))) ln))) (qc (spr Qaa) qn)))⟩
def Qin (N : Nat) (p0 : (List Int)) (p1 : (List GUnit)) (p2 : (List Int)) : Option (Int × Int) :=
  (Qdt N (⟨p0, p1⟩ : GShared)).bind fun x2 =>
  bif (!x2) then
   some (0, 1)
  else
   (Qd6 N (⟨p0, p1⟩ : GShared) p2).bind fun x5 =>
   bif (!x5) then
    some (0, 1)
   else
    (Qea N (⟨p0, p1⟩ : GShared) p2).bind fun x8 =>
    some (x8, 0)
def z114_0 (p0 : (List Int)) : AV := .dat 1 ((p0 : List Int).map Qab)
def z114_1 (p1 : (List GUnit)) : AV := .dat 2 ((p1 : List GUnit).map Qat)
def Qna (p0 : (List Int)) (p1 : (List GUnit)) : AV := .agg [(z114_0 p0), (z114_1 p1)]
def Qwv (p2 : (List Int)) : AV := .dat 1 ((p2 : List Int).map Qab)
set_option maxRecDepth 100000 in
set_option maxHeartbeats 4000000 in
theorem Qpn (N : Nat) (p0 : (List Int)) (p1 : (List GUnit)) (p2 : (List Int)) (r : (Int × Int)) (h : Qin N p0 p1 p2 = some r) : Spec Try.prog 46 [(.dat 1 (p0.map Qab)), (.dat 2 (p1.map Qat)), (.dat 1 (p2.map Qab))] [] (.tup [(I r.1), (I r.2)]) [] := by
  refine Qad Try.func46 rfl 0 (nle rfl) (fun X φ0 w0 hφ0 => ?_)
  unfold Qin at h
  refine wx tbk [] trivial ?_
  refine wx tbk [(2, rp [(.tmp 9, (z114_0 p0)), (.tmp 10, (z114_1 p1))] (Qna p0 p1))] ⟨Qbq (vs := [(z114_0 p0), (z114_1 p1)]) rfl ts133 tz133 rfl (by rfl) rfl, trivial⟩ ?_
  refine wsq ?_
  obtain ⟨x2, hf1, h⟩ := bno h
  rcases bft ((!x2)) with hb3 | hb3
  ·replace h := Qaz hb3 h
   refine wx tbk [(1, rp [fu 80, (.tmp 12, (Qna p0 p1))] (B x2)), (3, rp [(.tmp 14, (B ((!x2))))] (B true))] ⟨apc (first := []) (cap := []) (vs := [(Qna p0 p1)]) rfl Qod (Qdo N (⟨p0, p1⟩ : GShared) _ hf1) rfl rfl (nlc (NLt.agg _ (nlc (nld Qaa _) (nlc (nld Qac _) nl0))) nl0) nll rfl, asb hb3 (amv rfl), trivial⟩ ?_
   refine Qgd (by kernel_rfl) ?_
   refine wx tbk [] trivial ?_
   refine Qae ?_
   refine Qaw ?_
   obtain rfl := osi h
   exact fend ⟨[I 0, I 1], ⟨rot (by kernel_rfl), rot (by kernel_rfl), trivial⟩, rfl⟩ (NLt.tup _ (nlc nll (nlc nll nl0)))
  ·replace h := Qa0 hb3 h
   obtain ⟨x5, hf4, h⟩ := bno h
   refine wx tbk [(1, rp [fu 80, (.tmp 12, (Qna p0 p1))] (B x2)), (3, rp [(.tmp 14, (B ((!x2))))] (B false)), (6, rp [(.tmp 15, B false), fu 83, (.tmp 16, (Qna p0 p1)), (.tmp 17, (Qwv p2))] (B x5))] ⟨apc (first := []) (cap := []) (vs := [(Qna p0 p1)]) rfl Qod (Qdo N (⟨p0, p1⟩ : GShared) _ hf1) rfl rfl (nlc (NLt.agg _ (nlc (nld Qaa _) (nlc (nld Qac _) nl0))) nl0) nll rfl, asb hb3 (amv rfl), ag_ (apc (first := []) (cap := []) (vs := [(Qna p0 p1), (Qwv p2)]) rfl Qv1 (Qfw N (⟨p0, p1⟩ : GShared) p2 _ hf4) rfl rfl (nlc (NLt.agg _ (nlc (nld Qaa _) (nlc (nld Qac _) nl0))) (nlc (nld Qaa _) nl0)) nll rfl), trivial⟩ ?_
   rcases bft ((!x5)) with hc6 | hc6
   ·replace h := Qaz hc6 h
    refine wft hc6 (by kernel_rfl) ?_
    refine wx tbk [] trivial ?_
    refine Qae ?_
    refine Qaw ?_
    obtain rfl := osi h
    exact fend ⟨[I 0, I 1], ⟨rot (by kernel_rfl), rot (by kernel_rfl), trivial⟩, rfl⟩ (NLt.tup _ (nlc nll (nlc nll nl0)))
   ·replace h := Qa0 hc6 h
    refine wfn hc6 (by kernel_rfl) ?_
    refine Qal ?_
    refine thn ?_
    obtain ⟨x8, hf7, h⟩ := bno h
    refine wx tbk [(2, rp [fu 84, (.tmp 21, (Qna p0 p1)), (.tmp 22, (Qwv p2))] (I x8))] ⟨apc (first := []) (cap := []) (vs := [(Qna p0 p1), (Qwv p2)]) rfl enter84 (Qhw N (⟨p0, p1⟩ : GShared) p2 _ hf7) rfl rfl (nlc (NLt.agg _ (nlc (nld Qaa _) (nlc (nld Qac _) nl0))) (nlc (nld Qaa _) nl0)) nll rfl, trivial⟩ ?_
    refine Qae ?_
    obtain rfl := osi h
    exact fend ⟨[I x8, I 0], ⟨rot (by kernel_rfl), rot (by kernel_rfl), trivial⟩, rfl⟩ (NLt.tup _ (nlc nll (nlc nll nl0)))
def Qc2 (N : Nat) (p0 : (List Int)) (p1 : (List GUnit)) (k21 : (List Int) → Option Bool) (x22 : Int) (x37 : Int) : Nat → Int → (List Int) → Option Bool
  | 0, _, _ => none
  | n43 + 1, y39, y40 =>
    bif (decide (y39 < x37)) then
     chk (decide (0 ≤ y39) && decide (y39.toNat < (⟨p0, p1⟩ : GShared).heads.length)) <|
     (y40[y39.toNat]?).bind fun x46 =>
     chk (decide (0 ≤ y39) && decide (y39.toNat < (⟨p0, p1⟩ : GShared).heads.length)) <|
     (y40[y39.toNat]?).bind fun _ =>
     Qc2 N p0 p1 k21 x22 x37 n43 (w64 (y39 + 1)) (y40.set y39.toNat (w64 (x46 - x22)))
    else
     k21 (y40)
def Qcn (N : Nat) (p0 : (List Int)) (p1 : (List GUnit)) (p2 : (List Int)) (k5 : (List Int) → Option Bool) : Nat → Int → (List Int) → Option Bool
  | 0, _, _ => none
  | n18 + 1, y14, y15 =>
    bif (decide (y14 < (p2.length : Int))) then
     Qb2 (fun y20 =>
       Qcn N p0 p1 p2 k5 n18 (w64 (y14 + 1)) y20) fun k21 : (List Int) → Option Bool =>
     (getI p2 y14).bind fun x22 =>
     (getI p1 y14).bind fun x26 =>
     (Qd7 N x26).bind fun x31 =>
     (Qbj N x22 0 x31).bind fun x33 =>
     bif (!x33) then
      some false
     else
      chk (decide ((0 : Int) ≤ 0) && decide (0 ≤ w64 (x26.Inlet + 1)) && decide (w64 (x26.Inlet + 1) ≤ (((⟨p0, p1⟩ : GShared).heads.length : Nat) : Int))) <|
      chk (decide ((0 : Int) < (((⟨p0, p1⟩ : GShared).heads.length : Nat) : Int))) <|
      (some (((w64 (x26.Inlet + 1)).toNat - (0 : Int).toNat : Nat) : Int)).bind fun x37 =>
      Qc2 N p0 p1 k21 x22 x37 N 0 y15
    else
     k5 (y15)
def Qfp (N : Nat) (p0 : (List Int)) (p1 : (List GUnit)) (p2 : (List Int)) (p3 : Int) (p4 : (List Int)) : Option Bool :=
  Qb2 (fun _ =>
    (Qdh N (⟨p0, p1⟩ : GShared)).bind fun x3 =>
    Qb2 (fun y4 =>
      (Qdy N ((⟨p0, p1⟩ : GShared).heads.length) y4).bind fun x7 =>
      bif (decide (x7 ≥ 0)) then
       (Qdm N (⟨p0, p1⟩ : GShared) p2).bind fun x10 =>
       bif (x10 == p3) then
        (Qea N (⟨p0, p1⟩ : GShared) p4).bind fun x13 =>
        some (x13 == p3)
       else
        some false
      else
       some false) fun k5 : (List Int) → Option Bool =>
    Qcn N p0 p1 p2 k5 N 0 x3) fun k1 : Unit → Option Bool =>
  (Qdt N (⟨p0, p1⟩ : GShared)).bind fun x52 =>
  bif (!x52) then
   some false
  else
   (Qd6 N (⟨p0, p1⟩ : GShared) p4).bind fun x55 =>
   bif (!x55) then
    some false
   else
    bif ((p2.length : Int) != (p1.length : Int)) then
     some false
    else
     k1 ()
def Qwr (p0 : (List Int)) : AV := .dat 1 ((p0 : List Int).map Qab)
def Qhd (p1 : (List GUnit)) : AV := .dat 2 ((p1 : List GUnit).map Qat)
def Qhv (p0 : (List Int)) (p1 : (List GUnit)) : AV := .agg [(Qwr p0), (Qhd p1)]
def Qex (p2 : (List Int)) : AV := .dat 1 ((p2 : List Int).map Qab)
def Qg8 (p4 : (List Int)) : AV := .dat 1 ((p4 : List Int).map Qab)
def Qjv (p0 : (List Int)) (p1 : (List GUnit)) : Slot := .own 2 [[(Qwr p0), (Qhd p1)]]
def Qwq (x3 : (List Int)) : Slot := .own 1 ((x3 : List Int).map Qab)
def Qhz (y4 : (List Int)) : Slot := .own 1 ((y4 : List Int).map Qab)
def Qo6 (y15 : (List Int)) : Slot := .own 1 ((y15 : List Int).map Qab)
def Qn2 (y40 : (List Int)) : Slot := .own 1 ((y40 : List Int).map Qab)
set_option maxRecDepth 100000 in
set_option maxHeartbeats 4000000 in
theorem Qmi (N : Nat) (p0 : (List Int)) (p1 : (List GUnit)) (p2 : (List Int)) (p3 : Int) (p4 : (List Int)) (r : Bool) (h : Qfp N p0 p1 p2 p3 p4 = some r) : Spec Try.prog 53 [(.dat 1 (p0.map Qab)), (.dat 2 (p1.map Qat)), (.dat 1 (p2.map Qab)), (I p3), (.dat 1 (p4.map Qab))] [] (B r) [] := by
  refine Qad Try.func53 rfl 0 (nle rfl) (fun X φ0 w0 hφ0 => ?_)
  unfold Qfp at h
  refine wx tbk [] trivial ?_
  refine wx tbk [(2, rp [(.tmp 16, (Qwr p0)), (.tmp 17, (Qhd p1))] (Qhv p0 p1))] ⟨Qbq (vs := [(Qwr p0), (Qhd p1)]) rfl ts133 tz133 rfl (by rfl) rfl, trivial⟩ ?_
  obtain ⟨k1, hk_k1, h⟩ := jko h
  refine wjn (τ := Unit) (fun t => k1 t = some r) (fun _ => ⟨mk 90 [(1, (Qhd p1)), (2, (Qex p2)), (3, I p3), (4, (Qg8 p4)), (11, .ref 0 2 0 0)], [(Qjv p0 p1)]⟩) (fun t h => ?_) ?_
  ·subst hk_k1
   obtain ⟨x3, hf2, h⟩ := bno h
   refine wx tbk [(1, ⟨[fu 87, (.tmp 35, (Qhv p0 p1))], [(1, .unused)], (.own 1 1 (0) ((⟨p0, p1⟩ : GShared).heads.length)), [(1, (Qwq x3))], false⟩)] ⟨Qan (first := []) (cap := []) (vs := [(.agg [(.dat 1 (((⟨p0, p1⟩ : GShared).heads : List Int).map Qab)), (.dat 2 (((⟨p0, p1⟩ : GShared).units : List GUnit).map Qat))])]) (σr := []) (σr' := [(Qwq x3)]) (res' := (.own 1 1 (0) ((⟨p0, p1⟩ : GShared).heads.length))) [1] rfl Qv0 (Qfv N (⟨p0, p1⟩ : GShared) _ hf2) rfl (Qb0 (rnc (.plain _ (NLt.agg _ (nlc (nld Qaa _) (nlc (nld Qac _) nl0)))) rn0)) Qam (slc (Qc4 Qaa) Qam) (Qjl rfl) rfl rfl rfl, trivial⟩ ?_
   obtain ⟨k5, hk_k5, h⟩ := jko h
   refine wjn (τ := (List Int)) (fun t => k5 t = some r) (fun y4 => ⟨mk 90 [(2, (Qex p2)), (3, I p3), (4, (Qg8 p4)), (11, .ref 0 2 0 0), (12, (.own 1 1 (0) ((⟨p0, p1⟩ : GShared).heads.length)))], [(Qjv p0 p1), (Qhz y4)]⟩) (fun y4 h => ?_) ?_
   ·subst hk_k5
    obtain ⟨x7, hf6, h⟩ := bno h
    rcases bft ((decide (x7 ≥ 0))) with hb8 | hb8
    ·replace h := Qaz hb8 h
     obtain ⟨x10, hf9, h⟩ := bno h
     rcases bft ((x10 == p3)) with hb11 | hb11
     ·replace h := Qaz hb11 h
      obtain ⟨x13, hf12, h⟩ := bno h
      refine wx tbk [(1, ⟨[fu 88, (.tmp 73, (.own 1 1 (0) ((⟨p0, p1⟩ : GShared).heads.length)))], [(1, (Qhz y4))], I x7, [(1, (Qhz y4))], false⟩), (3, rp [(.tmp 75, (B ((decide (x7 ≥ 0)))))] (B true)), (6, rp [(.tmp 76, B true), fu 82, (.tmp 77, (Qhv p0 p1)), (.tmp 78, (Qex p2))] (I x10)), (10, rp [(.tmp 82, (B ((x10 == p3))))] (B true)), (13, rp [(.tmp 83, B true), fu 84, (.tmp 84, (Qhv p0 p1)), (.tmp 85, (Qg8 p4))] (I x13))] ⟨Qan (first := []) (cap := []) (vs := [(.own 1 1 (0) (((⟨p0, p1⟩ : GShared).heads.length)))]) (σr := [(Qhz y4)]) (σr' := [(Qhz y4)]) (res' := (I x7)) [1] rfl Qsg (Qej N ((⟨p0, p1⟩ : GShared).heads.length) y4 _ hf6) rfl (Qb0 (rnc (Qe2 rfl) rn0)) (slc (Qc4 Qaa) Qam) (slc (Qc4 Qaa) Qam) (.plain _ nll) rfl rfl rfl, asb hb8 (amv rfl), ag_ (apc (first := []) (cap := []) (vs := [(Qhv p0 p1), (Qex p2)]) rfl Qv2 (Qgg N (⟨p0, p1⟩ : GShared) p2 _ hf9) rfl rfl (nlc (NLt.agg _ (nlc (nld Qaa _) (nlc (nld Qac _) nl0))) (nlc (nld Qaa _) nl0)) nll rfl), asb hb11 (amv rfl), ag_ (apc (first := []) (cap := []) (vs := [(Qhv p0 p1), (Qg8 p4)]) rfl enter84 (Qhw N (⟨p0, p1⟩ : GShared) p4 _ hf12) rfl rfl (nlc (NLt.agg _ (nlc (nld Qaa _) (nlc (nld Qac _) nl0))) (nlc (nld Qaa _) nl0)) nll rfl), trivial⟩ ?_
      refine Qae ?_
      obtain rfl := osi h
      exact fend ⟨[(B ((x13 == p3)))], ⟨rot (by kernel_rfl), trivial⟩, rfl⟩ nll
     ·replace h := Qa0 hb11 h
      refine wx tbk [(1, ⟨[fu 88, (.tmp 73, (.own 1 1 (0) ((⟨p0, p1⟩ : GShared).heads.length)))], [(1, (Qhz y4))], I x7, [(1, (Qhz y4))], false⟩), (3, rp [(.tmp 75, (B ((decide (x7 ≥ 0)))))] (B true)), (6, rp [(.tmp 76, B true), fu 82, (.tmp 77, (Qhv p0 p1)), (.tmp 78, (Qex p2))] (I x10)), (10, rp [(.tmp 82, (B ((x10 == p3))))] (B false))] ⟨Qan (first := []) (cap := []) (vs := [(.own 1 1 (0) (((⟨p0, p1⟩ : GShared).heads.length)))]) (σr := [(Qhz y4)]) (σr' := [(Qhz y4)]) (res' := (I x7)) [1] rfl Qsg (Qej N ((⟨p0, p1⟩ : GShared).heads.length) y4 _ hf6) rfl (Qb0 (rnc (Qe2 rfl) rn0)) (slc (Qc4 Qaa) Qam) (slc (Qc4 Qaa) Qam) (.plain _ nll) rfl rfl rfl, asb hb8 (amv rfl), ag_ (apc (first := []) (cap := []) (vs := [(Qhv p0 p1), (Qex p2)]) rfl Qv2 (Qgg N (⟨p0, p1⟩ : GShared) p2 _ hf9) rfl rfl (nlc (NLt.agg _ (nlc (nld Qaa _) (nlc (nld Qac _) nl0))) (nlc (nld Qaa _) nl0)) nll rfl), asb hb11 (amv rfl), trivial⟩ ?_
      refine Qae ?_
      obtain rfl := osi h
      exact fend ⟨[B false], ⟨rot (by kernel_rfl), trivial⟩, rfl⟩ nll
    ·replace h := Qa0 hb8 h
     refine wx tbk [(1, ⟨[fu 88, (.tmp 73, (.own 1 1 (0) ((⟨p0, p1⟩ : GShared).heads.length)))], [(1, (Qhz y4))], I x7, [(1, (Qhz y4))], false⟩), (3, rp [(.tmp 75, (B ((decide (x7 ≥ 0)))))] (B false))] ⟨Qan (first := []) (cap := []) (vs := [(.own 1 1 (0) (((⟨p0, p1⟩ : GShared).heads.length)))]) (σr := [(Qhz y4)]) (σr' := [(Qhz y4)]) (res' := (I x7)) [1] rfl Qsg (Qej N ((⟨p0, p1⟩ : GShared).heads.length) y4 _ hf6) rfl (Qb0 (rnc (Qe2 rfl) rn0)) (slc (Qc4 Qaa) Qam) (slc (Qc4 Qaa) Qam) (.plain _ nll) rfl rfl rfl, asb hb8 (amv rfl), trivial⟩ ?_
     refine Qae ?_
     obtain rfl := osi h
     exact fend ⟨[B false], ⟨rot (by kernel_rfl), trivial⟩, rfl⟩ nll
   ·skip
    refine wx tbk [(1, rp [(.tmp 37, (Qex p2))] (I ((p2.length : Int))))] ⟨alm (c := Qab) (l := p2) (aln rfl Try.underlying37 rfl), trivial⟩ ?_
    refine Qah ?_
    refine wmr (mto (n := 90) (l' := [(1, (Qhd p1)), (2, (Qex p2)), (3, I p3), (4, (Qg8 p4)), (11, .ref 0 2 0 0), (12, (.own 1 1 (0) ((⟨p0, p1⟩ : GShared).heads.length))), (37, (Qex p2)), (38, (I ((p2.length : Int)))), (39, I 0)]) (own' := [(Qjv p0 p1), (Qwq x3)]) [(1, (Qhd p1)), (2, (Qex p2)), (3, I p3), (4, (Qg8 p4)), (11, .ref 0 2 0 0), (12, (.own 1 1 (0) ((⟨p0, p1⟩ : GShared).heads.length))), (37, (Qex p2)), (38, (I ((p2.length : Int)))), (39, I 0)] [0, 1] [(Qjv p0 p1), (Qwq x3)] hφ0 (pc (.rn (.plain _ (nld Qac _))) (pc (.rn (.plain _ (nld Qaa _))) (pc rwl (pc (.rn (.plain _ (nld Qaa _))) (pc (.rn (rqr rfl)) (pc (.rn (Qaf rfl)) (pc (.rn (.plain _ (nld Qaa _))) (pc rwl (pc rwl pn))))))))) (qc (spb (lc (.rn (.plain _ (nld Qaa _))) (lc (.rn (.plain _ (nld Qac _))) ln))) (qc (spr Qaa) qn))) ?_
    refine Qbw (τ := Int × (List Int)) (fun n t => Qcn N p0 p1 p2 k5 n t.1 t.2 = some r) (fun ⟨y14, y15⟩ => ⟨mk 90 [(1, (Qhd p1)), (2, (Qex p2)), (3, I p3), (4, (Qg8 p4)), (11, .ref 0 2 0 0), (12, (.own 1 1 (0) ((⟨p0, p1⟩ : GShared).heads.length))), (37, (Qex p2)), (38, (I ((p2.length : Int)))), (39, I y14)], [(Qjv p0 p1), (Qo6 y15)]⟩) (fun t h => by rw [Qcn] at h; cases h) (fun n18 ih t h => ?_) N (0, x3) h
    obtain ⟨y14, y15⟩ := t
    rw [Qcn] at h
    skip
    refine wx tbk [] trivial ?_
    refine wsq ?_
    rcases bft ((decide (y14 < (p2.length : Int)))) with hc19 | hc19
    ·replace h := Qaz hc19 h
     refine wft hc19 (by kernel_rfl) ?_
     refine Qal ?_
     refine thn ?_
     obtain ⟨k21, hk_k21, h⟩ := jko h
     refine wjn (τ := (List Int)) (fun t => k21 t = some r) (fun y20 => ⟨mk 90 [(1, (Qhd p1)), (2, (Qex p2)), (3, I p3), (4, (Qg8 p4)), (11, .ref 0 2 0 0), (12, (.own 1 1 (0) ((⟨p0, p1⟩ : GShared).heads.length))), (37, (Qex p2)), (38, (I ((p2.length : Int)))), (39, I y14)], [(Qjv p0 p1), (.own 1 ((y20 : List Int).map Qab))]⟩) (fun y20 h => ?_) ?_
     ·subst hk_k21
      refine wx1 tbk [] trivial ?_
      refine thn ?_
      exact arm (mto (n := 90) [(1, (Qhd p1)), (2, (Qex p2)), (3, I p3), (4, (Qg8 p4)), (11, .ref 0 2 0 0), (12, (.own 1 1 (0) ((⟨p0, p1⟩ : GShared).heads.length))), (37, (Qex p2)), (38, (I ((p2.length : Int)))), (39, (I (w64 (y14 + 1))))] [0, 1] [(Qjv p0 p1), (.own 1 ((y20 : List Int).map Qab))] hφ0 (pc (.rn (.plain _ (nld Qac _))) (pc (.rn (.plain _ (nld Qaa _))) (pc rwl (pc (.rn (.plain _ (nld Qaa _))) (pc (.rn (rqr rfl)) (pc (.rn (Qaf rfl)) (pc (.rn (.plain _ (nld Qaa _))) (pc rwl (pc rwl pn))))))))) (qc (spb (lc (.rn (.plain _ (nld Qaa _))) (lc (.rn (.plain _ (nld Qac _))) ln))) (qc (spr Qaa) qn))) (ih (w64 (y14 + 1), y20) h)
     ·skip
      refine Qah ?_
      obtain ⟨x22, hg23, h⟩ := bno h
      obtain ⟨hi24, hj25⟩ := gsm hg23
      refine wx tbk [(1, rp [(.tmp 37, (Qex p2)), (.tmp 39, I y14)] (.dptr (Qab (x22)) 0))] ⟨aid rfl Try.underlying37 ti3 rfl rfl hi24 (mgt Qab hj25) rfl, trivial⟩ ?_
      refine wsq ?_
      obtain ⟨x26, hg27, h⟩ := bno h
      obtain ⟨hi28, hj29⟩ := gsm hg27
      obtain ⟨x31, hf30, h⟩ := bno h
      obtain ⟨x33, hf32, h⟩ := bno h
      refine wx tbk [(3, rp [(.tmp 45, (Qhd p1)), (.tmp 46, I y14)] (.dptr (Qat (x26)) 0)), (5, rp [fu 66, (.tmp 48, (.agg [I x26.Inlet, (.dat 2 ((x26.Parts : List GPart).map Qa4))]))] (I x31)), (6, rp [fu 65, (.tmp 44, I x22), ci 0, (.tmp 49, I x31)] (B x33))] ⟨aid rfl Try.underlying89 ti34 rfl rfl hi28 (mgt Qat hj29) rfl, apc (first := []) (cap := []) (vs := [(.agg [I x26.Inlet, (.dat 2 ((x26.Parts : List GPart).map Qa4))])]) rfl enter66 (Qhn N x26 _ hf30) rfl rfl (nlc (NLt.agg _ (nlc nll (nlc (nld Qbg _) nl0))) nl0) nll rfl, apc (first := []) (cap := []) (vs := [I x22, I 0, I x31]) rfl Qby (Qag N x22 0 x31 _ hf32) rfl rfl (nlc nll (nlc nll (nlc nll nl0))) nll rfl, trivial⟩ ?_
      rcases bft ((!x33)) with hc34 | hc34
      ·replace h := Qaz hc34 h
       refine wft hc34 (by kernel_rfl) ?_
       refine wx tbk [] trivial ?_
       refine Qae ?_
       refine Qaw ?_
       refine Qbz ?_
       refine Qaw ?_
       refine Qaw ?_
       refine Qbz ?_
       refine Qaw ?_
       obtain rfl := osi h
       exact fend ⟨[B false], ⟨rot (by kernel_rfl), trivial⟩, rfl⟩ nll
      ·replace h := Qa0 hc34 h
       refine wfn hc34 (by kernel_rfl) ?_
       refine Qal ?_
       refine thn ?_
       obtain ⟨hs35, h⟩ := cko h
       obtain ⟨hs36, h⟩ := cko h
       obtain ⟨x37, hl38, h⟩ := bno h
       refine wx tbk [(3, rp [(.tmp 53, (Qhd p1)), (.tmp 54, I y14)] (.dptr (Qat (x26)) 0)), (7, rb [(.tmp 52, (.own 1 1 (0) ((⟨p0, p1⟩ : GShared).heads.length))), (.tmp 58, (I (w64 (x26.Inlet + 1))))] [(1, (Qo6 y15))] (.own 1 1 (0) ((w64 (x26.Inlet + 1)).toNat - (0 : Int).toNat))), (8, rp [(.tmp 59, (.own 1 1 (0) ((w64 (x26.Inlet + 1)).toNat - (0 : Int).toNat)))] (I x37))] ⟨aid rfl Try.underlying89 ti34 rfl rfl hi28 (mgt Qat hj29) rfl, Qoo (k := .i64) (k' := .i64) (lo := none) (hi := some (.tmp 58)) (l := 0) (hh := w64 (x26.Inlet + 1)) rfl Try.underlying37 ti3 (fun _ => rfl) (fun e => nomatch e) (Qsv hs35) (Qsu hs35) (odt (Qa5 hs35).2) (odt hs36) rfl rfl, Qeh hl38 (aln rfl Try.underlying37 rfl), trivial⟩ ?_
       refine Qah ?_
       refine wmr (mto (n := 90) (l' := [(1, (Qhd p1)), (2, (Qex p2)), (3, I p3), (4, (Qg8 p4)), (11, .ref 0 2 0 0), (12, (.own 1 1 (0) ((⟨p0, p1⟩ : GShared).heads.length))), (14, I x22), (37, (Qex p2)), (38, (I ((p2.length : Int)))), (39, I y14), (60, I x37), (61, I 0)]) (own' := [(Qjv p0 p1), (Qo6 y15)]) [(1, (Qhd p1)), (2, (Qex p2)), (3, I p3), (4, (Qg8 p4)), (11, .ref 0 2 0 0), (12, (.own 1 1 (0) ((⟨p0, p1⟩ : GShared).heads.length))), (14, I x22), (37, (Qex p2)), (38, (I ((p2.length : Int)))), (39, I y14), (60, I x37), (61, I 0)] [0, 1] [(Qjv p0 p1), (Qo6 y15)] hφ0 (pc (.rn (.plain _ (nld Qac _))) (pc (.rn (.plain _ (nld Qaa _))) (pc rwl (pc (.rn (.plain _ (nld Qaa _))) (pc (.rn (rqr rfl)) (pc (.rn (Qaf rfl)) (pc rwl (pc (.rn (.plain _ (nld Qaa _))) (pc rwl (pc rwl (pc rwl (pc rwl pn)))))))))))) (qc (spb (lc (.rn (.plain _ (nld Qaa _))) (lc (.rn (.plain _ (nld Qac _))) ln))) (qc (spr Qaa) qn))) ?_
       refine Qbw (τ := Int × (List Int)) (fun n t => Qc2 N p0 p1 k21 x22 x37 n t.1 t.2 = some r) (fun ⟨y39, y40⟩ => ⟨mk 90 [(1, (Qhd p1)), (2, (Qex p2)), (3, I p3), (4, (Qg8 p4)), (11, .ref 0 2 0 0), (12, (.own 1 1 (0) ((⟨p0, p1⟩ : GShared).heads.length))), (14, I x22), (37, (Qex p2)), (38, (I ((p2.length : Int)))), (39, I y14), (60, I x37), (61, I y39)], [(Qjv p0 p1), (Qn2 y40)]⟩) (fun t h => by rw [Qc2] at h; cases h) (fun n43 ih t h => ?_) N (0, y15) h
       obtain ⟨y39, y40⟩ := t
       rw [Qc2] at h
       skip
       refine wx tbk [] trivial ?_
       refine wsq ?_
       rcases bft ((decide (y39 < x37))) with hc44 | hc44
       ·replace h := Qaz hc44 h
        refine wft hc44 (by kernel_rfl) ?_
        refine Qal ?_
        refine thn ?_
        refine wsq ?_
        refine Qah ?_
        refine wx tbk [] trivial ?_
        obtain ⟨hi45, h⟩ := cko h
        obtain ⟨hi45a, hi45b⟩ := Qa5 hi45
        obtain ⟨x46, hg47, h⟩ := bno h
        obtain ⟨hi48, h⟩ := cko h
        obtain ⟨hi48a, hi48b⟩ := Qa5 hi48
        obtain ⟨x49, hg50, h⟩ := bno h
        refine wx1 tbk [(2, rb [(.tmp 64, (.own 1 1 (0) ((⟨p0, p1⟩ : GShared).heads.length))), (.tmp 65, I y39)] [(1, (Qn2 y40))] (.ref 1 1 (y39.toNat) 0)), (3, rb [(.tmp 66, (.ref 1 1 (y39.toNat) 0))] [(1, (Qn2 y40))] (I x46)), (6, rb [(.tmp 64, (.own 1 1 (0) ((⟨p0, p1⟩ : GShared).heads.length))), (.tmp 65, I y39)] [(1, (Qn2 y40))] (.ref 1 1 (y39.toNat) 0)), (7, ⟨[(.tmp 70, (.ref 1 1 (y39.toNat) 0)), (.tmp 69, (I (w64 (x46 - x22))))], [(1, (Qn2 y40))], .any, [(1, (.own 1 ((y40.set y39.toNat (w64 (x46 - x22)) : List Int).map Qab)))], false⟩)] ⟨aio rfl Try.underlying37 ti3 (odt hi45a) (odt hi45b) (Nat.zero_add _), ald rfl ti3 (by decide) (mgt Qab hg47) (nle rfl) rfl, aio rfl Try.underlying37 ti3 (odt hi48a) (odt hi48b) (Nat.zero_add _), ast rfl ti3 (by rfl) (mgt Qab hg50) (nle rfl) (Qfn Qab rfl), trivial⟩ ?_
        refine bln ?_
        refine thn ?_
        refine wx1 tbk [] trivial ?_
        refine thn ?_
        exact arm (mto (n := 90) [(1, (Qhd p1)), (2, (Qex p2)), (3, I p3), (4, (Qg8 p4)), (11, .ref 0 2 0 0), (12, (.own 1 1 (0) ((⟨p0, p1⟩ : GShared).heads.length))), (14, I x22), (37, (Qex p2)), (38, (I ((p2.length : Int)))), (39, I y14), (60, I x37), (61, (I (w64 (y39 + 1))))] [0, 1] [(Qjv p0 p1), (.own 1 ((y40.set y39.toNat (w64 (x46 - x22)) : List Int).map Qab))] hφ0 (pc (.rn (.plain _ (nld Qac _))) (pc (.rn (.plain _ (nld Qaa _))) (pc rwl (pc (.rn (.plain _ (nld Qaa _))) (pc (.rn (rqr rfl)) (pc (.rn (Qaf rfl)) (pc rwl (pc (.rn (.plain _ (nld Qaa _))) (pc rwl (pc rwl (pc rwl (pc rwl pn)))))))))))) (qc (spb (lc (.rn (.plain _ (nld Qaa _))) (lc (.rn (.plain _ (nld Qac _))) ln))) (qc (spr Qaa) qn))) (ih (w64 (y39 + 1), y40.set y39.toNat (w64 (x46 - x22))) h)
       ·replace h := Qa0 hc44 h
        refine wfn hc44 (by kernel_rfl) ?_
        refine Qbe ?_
        refine Qap ?_
        refine Qap ?_
        refine Qbd rfl ?_
        refine bln ?_
        refine thn ?_
        exact ⟨(y40), h, (mto (n := 90) [(1, (Qhd p1)), (2, (Qex p2)), (3, I p3), (4, (Qg8 p4)), (11, .ref 0 2 0 0), (12, (.own 1 1 (0) ((⟨p0, p1⟩ : GShared).heads.length))), (37, (Qex p2)), (38, (I ((p2.length : Int)))), (39, I y14)] [0, 1] [(Qjv p0 p1), (Qn2 y40)] hφ0 (pc (.rn (.plain _ (nld Qac _))) (pc (.rn (.plain _ (nld Qaa _))) (pc rwl (pc (.rn (.plain _ (nld Qaa _))) (pc (.rn (rqr rfl)) (pc (.rn (Qaf rfl)) (pc (.rn (.plain _ (nld Qaa _))) (pc rwl (pc rwl pn))))))))) (qc (spb (lc (.rn (.plain _ (nld Qaa _))) (lc (.rn (.plain _ (nld Qac _))) ln))) (qc (spr Qaa) qn)))⟩
    ·replace h := Qa0 hc19 h
     refine wfn hc19 (by kernel_rfl) ?_
     refine Qbe ?_
     refine Qap ?_
     refine Qap ?_
     refine Qbd rfl ?_
     refine thn ?_
     exact ⟨(y15), h, (mto (n := 90) [(2, (Qex p2)), (3, I p3), (4, (Qg8 p4)), (11, .ref 0 2 0 0), (12, (.own 1 1 (0) ((⟨p0, p1⟩ : GShared).heads.length)))] [0, 1] [(Qjv p0 p1), (Qo6 y15)] hφ0 (pc (.rn (.plain _ (nld Qaa _))) (pc rwl (pc (.rn (.plain _ (nld Qaa _))) (pc (.rn (rqr rfl)) (pc (.rn (Qaf rfl)) pn))))) (qc (spb (lc (.rn (.plain _ (nld Qaa _))) (lc (.rn (.plain _ (nld Qac _))) ln))) (qc (spr Qaa) qn)))⟩
  ·skip
   obtain ⟨x52, hf51, h⟩ := bno h
   rcases bft ((!x52)) with hb53 | hb53
   ·replace h := Qaz hb53 h
    refine wx tbk [(1, rp [fu 80, (.tmp 19, (Qhv p0 p1))] (B x52)), (3, rp [(.tmp 21, (B ((!x52))))] (B true))] ⟨apc (first := []) (cap := []) (vs := [(Qhv p0 p1)]) rfl Qod (Qdo N (⟨p0, p1⟩ : GShared) _ hf51) rfl rfl (nlc (NLt.agg _ (nlc (nld Qaa _) (nlc (nld Qac _) nl0))) nl0) nll rfl, asb hb53 (amv rfl), trivial⟩ ?_
    refine Qgd (by kernel_rfl) ?_
    refine wx tbk [] trivial ?_
    refine Qae ?_
    refine Qaw ?_
    obtain rfl := osi h
    exact fend ⟨[B false], ⟨rot (by kernel_rfl), trivial⟩, rfl⟩ nll
   ·replace h := Qa0 hb53 h
    obtain ⟨x55, hf54, h⟩ := bno h
    rcases bft ((!x55)) with hb56 | hb56
    ·replace h := Qaz hb56 h
     refine wx tbk [(1, rp [fu 80, (.tmp 19, (Qhv p0 p1))] (B x52)), (3, rp [(.tmp 21, (B ((!x52))))] (B false)), (6, rp [(.tmp 22, B false), fu 83, (.tmp 23, (Qhv p0 p1)), (.tmp 24, (Qg8 p4))] (B x55)), (9, rp [(.tmp 27, (B ((!x55))))] (B true))] ⟨apc (first := []) (cap := []) (vs := [(Qhv p0 p1)]) rfl Qod (Qdo N (⟨p0, p1⟩ : GShared) _ hf51) rfl rfl (nlc (NLt.agg _ (nlc (nld Qaa _) (nlc (nld Qac _) nl0))) nl0) nll rfl, asb hb53 (amv rfl), ag_ (apc (first := []) (cap := []) (vs := [(Qhv p0 p1), (Qg8 p4)]) rfl Qv1 (Qfw N (⟨p0, p1⟩ : GShared) p4 _ hf54) rfl rfl (nlc (NLt.agg _ (nlc (nld Qaa _) (nlc (nld Qac _) nl0))) (nlc (nld Qaa _) nl0)) nll rfl), asb hb56 (amv rfl), trivial⟩ ?_
     refine Qgd (by kernel_rfl) ?_
     refine wx tbk [] trivial ?_
     refine Qae ?_
     refine Qaw ?_
     obtain rfl := osi h
     exact fend ⟨[B false], ⟨rot (by kernel_rfl), trivial⟩, rfl⟩ nll
    ·replace h := Qa0 hb56 h
     refine wx tbk [(1, rp [fu 80, (.tmp 19, (Qhv p0 p1))] (B x52)), (3, rp [(.tmp 21, (B ((!x52))))] (B false)), (6, rp [(.tmp 22, B false), fu 83, (.tmp 23, (Qhv p0 p1)), (.tmp 24, (Qg8 p4))] (B x55)), (9, rp [(.tmp 27, (B ((!x55))))] (B false)), (11, rp [(.tmp 28, B false), (.tmp 29, (Qex p2))] (I ((p2.length : Int)))), (13, rp [(.tmp 28, B false), (.tmp 31, (Qhd p1))] (I ((p1.length : Int))))] ⟨apc (first := []) (cap := []) (vs := [(Qhv p0 p1)]) rfl Qod (Qdo N (⟨p0, p1⟩ : GShared) _ hf51) rfl rfl (nlc (NLt.agg _ (nlc (nld Qaa _) (nlc (nld Qac _) nl0))) nl0) nll rfl, asb hb53 (amv rfl), ag_ (apc (first := []) (cap := []) (vs := [(Qhv p0 p1), (Qg8 p4)]) rfl Qv1 (Qfw N (⟨p0, p1⟩ : GShared) p4 _ hf54) rfl rfl (nlc (NLt.agg _ (nlc (nld Qaa _) (nlc (nld Qac _) nl0))) (nlc (nld Qaa _) nl0)) nll rfl), asb hb56 (amv rfl), ag_ (alm (c := Qab) (l := p2) (aln rfl Try.underlying37 rfl)), ag_ (alm (c := Qat) (l := p1) (aln rfl Try.underlying89 rfl)), trivial⟩ ?_
     rcases bft (((p2.length : Int) != (p1.length : Int))) with hc57 | hc57
     ·replace h := Qaz hc57 h
      refine wft hc57 (by kernel_rfl) ?_
      refine wx tbk [] trivial ?_
      refine Qae ?_
      refine Qaw ?_
      obtain rfl := osi h
      exact fend ⟨[B false], ⟨rot (by kernel_rfl), trivial⟩, rfl⟩ nll
     ·replace h := Qa0 hc57 h
      refine wfn hc57 (by kernel_rfl) ?_
      refine Qal ?_
      refine thn ?_
      exact ⟨(), h, (mto (n := 90) [(1, (Qhd p1)), (2, (Qex p2)), (3, I p3), (4, (Qg8 p4)), (11, .ref 0 2 0 0)] [0] [(Qjv p0 p1)] hφ0 (pc (.rn (.plain _ (nld Qac _))) (pc (.rn (.plain _ (nld Qaa _))) (pc rwl (pc (.rn (.plain _ (nld Qaa _))) (pc (.rn (rqr rfl)) pn))))) (qc (spb (lc (.rn (.plain _ (nld Qaa _))) (lc (.rn (.plain _ (nld Qac _))) ln))) qn))⟩
end Go.Proofs.Ytlhakkkjgdbdpaa
