/-
  Functions of the program: what they compute, as plain functions, and that they do. No conditions.
-/
import Derived.Test.YtlhakkkjgdbdpaaX6
namespace Go.Proofs.Ytlhakkkjgdbdpaa
open Go.RowKit
def Qea (N : Nat) (p0 : (List GUnit)) (k2 : (List GUnit) → Option (List GUnit)) : Nat → (List GUnit) → Int → Option (List GUnit)
  | 0, _, _ => none
  | n7 + 1, y3, y4 =>
    bif (decide (y4 < (p0.length : Int))) then
     (getI p0 y4).bind fun x9 =>
     (Qju N x9).bind fun x14 =>
     chk (decide ((y3.length + ([x14]).length) * 32 ≤ 140737488355328)) <|
     Qea N p0 k2 n7 (y3 ++ ([x14])) (w64 (y4 + 1))
    else
     k2 (y3)
def Qhk (N : Nat) (p0 : (List GUnit)) : Option (List GUnit) :=
  Qbr (fun y1 =>
    some y1) fun k2 : (List GUnit) → Option (List GUnit) =>
  Qea N p0 k2 N ([]) 0
def Qq3 (p0 : (List GUnit)) : AV := .dat 2 ((p0 : List GUnit).map Qan)
def Qv4 (y3 : (List GUnit)) : AV := .acc 0 34 2 ((y3 : List GUnit).map Qan)
def Qv3 (x14 : GUnit) : AV := .agg [(I (x14.Inlet)), (.dat 2 ((x14.Parts : List GPart).map Qau))]
set_option maxRecDepth 100000 in
set_option maxHeartbeats 4000000 in
theorem Qmc (N : Nat) (p0 : (List GUnit)) (r : (List GUnit)) (h : Qhk N p0 = some r) : Spec Try.prog 45 [(.dat 2 (p0.map Qan))] [] (.dat 2 (r.map Qan)) [] := by
  refine Qae Try.func45 rfl 0 (nle rfl) (fun X φ0 w0 hφ0 => ?_)
  unfold Qhk at h
  refine wx tbk [] trivial ?_
  refine wx tbk [] trivial ?_
  obtain ⟨k2, hk_k2, h⟩ := jko h
  refine wjn (τ := (List GUnit)) (fun t => k2 t = some r) (fun y1 => ⟨mk 20 [(3, (.acc 0 34 2 ((y1 : List GUnit).map Qan)))], [.tok]⟩) (fun y1 h => ?_) ?_
  ·subst hk_k2
   refine wx tbk [] trivial ?_
   refine Qag ?_
   obtain rfl := osi h
   exact fend ⟨[(.dat 2 ((y1 : List GUnit).map Qan))], ⟨Qh9 (v := (.acc 0 34 2 ((y1 : List GUnit).map Qan))) (rot (by kernel_rfl)) Less.acc, trivial⟩, rfl⟩ (nld Qac _)
  ·skip
   refine wx tbk [] trivial ?_
   refine Qad ?_
   refine wmr (Mor.trans (Qsg 0 34 2 3 (by kernel_rfl) (by kernel_rfl)) (mto (n := 20) (l' := [(0, (Qq3 p0)), (3, (.acc 0 34 2 ((([]) : List GUnit).map Qan))), (4, I 0)]) (own' := [.tok]) [(0, (Qq3 p0)), (3, (.acc 0 34 2 (([] : List GUnit).map Qan))), (4, I 0)] [0] [.tok] hφ0 (pc (.rn (.plain _ (nld Qac _))) (pc (.rn (Qhd rfl (Qft Qac _))) (pc rwl pn))) (qc .tok qn))) ?_
   refine Qbj (τ := (List GUnit) × Int) (fun n t => Qea N p0 k2 n t.1 t.2 = some r) (fun ⟨y3, y4⟩ => ⟨mk 20 [(0, (Qq3 p0)), (3, (Qv4 y3)), (4, I y4)], [.tok]⟩) (fun t h => by rw [Qea] at h; cases h) (fun n7 ih t h => ?_) N ([], 0) h
   obtain ⟨y3, y4⟩ := t
   rw [Qea] at h
   skip
   refine wsq ?_
   refine wx tbk [(2, rp [(.tmp 6, (Qq3 p0))] (I ((p0.length : Int))))] ⟨alm (c := Qan) (l := p0) (aln rfl Try.underlying85 rfl), trivial⟩ ?_
   rcases bft ((decide (y4 < (p0.length : Int)))) with hc8 | hc8
   ·replace h := Qaw hc8 h
    refine wft hc8 (by kernel_rfl) ?_
    refine Qak ?_
    refine thn ?_
    refine wsq ?_
    refine Qad ?_
    obtain ⟨x9, hg10, h⟩ := bno h
    obtain ⟨hi11, hj12⟩ := gsm hg10
    obtain ⟨x14, hf13, h⟩ := bno h
    obtain ⟨ha15, h⟩ := cko h
    refine wx1 tbk [(3, rp [(.tmp 12, (Qq3 p0)), (.tmp 13, I y4)] (.dptr (Qan (x9)) 0)), (5, rp [fu 19, (.tmp 15, (.agg [I x9.Inlet, (.dat 2 ((x9.Parts : List GPart).map Qau))]))] (Qv3 x14)), (6, rp [(.tmp 16, (Qv3 x14))] (.dat 2 (([x14] : List GUnit).map Qan))), (7, ⟨[(.tmp 11, (Qv4 y3)), (.tmp 17, (.dat 2 (([x14] : List GUnit).map Qan)))], [(0, .tok), (1, .unused)], (.acc 1 34 2 ((y3 ++ ([x14]) : List GUnit).map Qan)), [(0, .dead), (1, .tok)], false⟩)] ⟨aid rfl Try.underlying85 ti24 rfl rfl hi11 (mgt Qan hj12) rfl, apc (first := []) (cap := []) (vs := [(.agg [I x9.Inlet, (.dat 2 ((x9.Parts : List GPart).map Qau))])]) rfl enter19 (Qqv N x9 _ hf13) rfl rfl (nlc (NLt.agg _ (nlc nll (nlc (nld Qbf _) nl0))) nl0) (NLt.agg _ (nlc nll (nlc (nld Qbf _) nl0))) rfl, Qc3 (vs := [(Qv3 x14)]) rfl Try.underlying89 ti34 tz34 rfl (by decide) rfl (by decide) (by rfl) (by rfl) (by rfl) rfl, Qkv rfl Try.underlying89 te34 (Base.acc _ _) rfl rfl (by rfl) (Qqr Qan ha15) (Qqq Qan ha15 (by decide)) (Qqp Qan) rfl rfl, trivial⟩ ?_
    refine bln ?_
    refine thn ?_
    refine wx1 tbk [] trivial ?_
    refine thn ?_
    exact arm (mto (n := 20) [(0, (Qq3 p0)), (3, (.acc 1 34 2 ((y3 ++ ([x14]) : List GUnit).map Qan))), (4, (I (w64 (y4 + 1))))] [1] [.tok] hφ0 (pc (.rn (.plain _ (nld Qac _))) (pc (.rn (Qhd rfl (Qft Qac _))) (pc rwl pn))) (qc .tok qn)) (ih (y3 ++ ([x14]), w64 (y4 + 1)) h)
   ·replace h := Qax hc8 h
    refine wfn hc8 (by kernel_rfl) ?_
    refine Qa3 ?_
    refine Qam ?_
    refine Qam ?_
    refine Qa2 rfl ?_
    refine thn ?_
    exact ⟨(y3), h, (mto (n := 20) [(3, (Qv4 y3))] [0] [.tok] hφ0 (pc (.rn (Qhd rfl (Qft Qac _))) pn) (qc .tok qn))⟩
def Qet (N : Nat) (k1 : Unit → Option Bool) (p1 : (List GUnit)) : Nat → Int → Option Bool
  | 0, _ => none
  | n5 + 1, y3 =>
    bif (decide (y3 < (p1.length : Int))) then
     (getI p1 y3).bind fun x7 =>
     (Qj5 N x7).bind fun x12 =>
     bif (!x12) then
      some false
     else
      Qet N k1 p1 n5 (w64 (y3 + 1))
    else
     k1 ()
def Qkr (N : Nat) (p0 : (List Int)) (p1 : (List GUnit)) : Option Bool :=
  Qbr (fun _ =>
    bif (decide ((p0.length : Int) ≤ 8)) then
     some (decide ((p1.length : Int) ≤ 12))
    else
     some false) fun k1 : Unit → Option Bool =>
  Qet N k1 p1 N 0
def Qov (p0 : (List Int)) : AV := .dat 1 ((p0 : List Int).map Qab)
def Qnr (p1 : (List GUnit)) : AV := .dat 2 ((p1 : List GUnit).map Qan)
set_option maxRecDepth 100000 in
set_option maxHeartbeats 4000000 in
theorem Qn0 (N : Nat) (p0 : (List Int)) (p1 : (List GUnit)) (r : Bool) (h : Qkr N p0 p1 = some r) : Spec Try.prog 43 [(.dat 1 (p0.map Qab)), (.dat 2 (p1.map Qan))] [] (B r) [] := by
  refine Qae Try.func43 rfl 0 (nle rfl) (fun X φ0 w0 hφ0 => ?_)
  unfold Qkr at h
  refine wx tbk [] trivial ?_
  obtain ⟨k1, hk_k1, h⟩ := jko h
  refine wjn (τ := Unit) (fun t => k1 t = some r) (fun _ => ⟨mk 26 [(0, (Qov p0)), (1, (Qnr p1))], []⟩) (fun t h => ?_) ?_
  ·subst hk_k1
   rcases bft ((decide ((p0.length : Int) ≤ 8))) with hb2 | hb2
   ·replace h := Qaw hb2 h
    refine wx tbk [(1, rp [(.tmp 18, (Qov p0))] (I ((p0.length : Int)))), (3, rp [(.tmp 20, (B ((decide ((p0.length : Int) ≤ 8)))))] (B true)), (5, rp [(.tmp 21, B true), (.tmp 22, (Qnr p1))] (I ((p1.length : Int))))] ⟨alm (c := Qab) (l := p0) (aln rfl Try.underlying37 rfl), asb hb2 (amv rfl), ag_ (alm (c := Qan) (l := p1) (aln rfl Try.underlying85 rfl)), trivial⟩ ?_
    refine Qag ?_
    obtain rfl := osi h
    exact fend ⟨[(B ((decide ((p1.length : Int) ≤ 12))))], ⟨rot (by kernel_rfl), trivial⟩, rfl⟩ nll
   ·replace h := Qax hb2 h
    refine wx tbk [(1, rp [(.tmp 18, (Qov p0))] (I ((p0.length : Int)))), (3, rp [(.tmp 20, (B ((decide ((p0.length : Int) ≤ 8)))))] (B false))] ⟨alm (c := Qab) (l := p0) (aln rfl Try.underlying37 rfl), asb hb2 (amv rfl), trivial⟩ ?_
    refine Qag ?_
    obtain rfl := osi h
    exact fend ⟨[B false], ⟨rot (by kernel_rfl), trivial⟩, rfl⟩ nll
  ·skip
   refine wx tbk [] trivial ?_
   refine Qad ?_
   refine wmr (mto (n := 26) (l' := [(0, (Qov p0)), (1, (Qnr p1)), (5, I 0)]) (own' := []) [(0, (Qov p0)), (1, (Qnr p1)), (5, I 0)] [] [] hφ0 (pc (.rn (.plain _ (nld Qaa _))) (pc (.rn (.plain _ (nld Qac _))) (pc rwl pn))) qn) ?_
   refine Qbj (τ := Int) (fun n t => Qet N k1 p1 n t = some r) (fun y3 => ⟨mk 26 [(0, (Qov p0)), (1, (Qnr p1)), (5, I y3)], []⟩) (fun t h => by rw [Qet] at h; cases h) (fun n5 ih y3 h => ?_) N (0) h
   rw [Qet] at h
   skip
   refine wsq ?_
   refine wx tbk [(2, rp [(.tmp 7, (Qnr p1))] (I ((p1.length : Int))))] ⟨alm (c := Qan) (l := p1) (aln rfl Try.underlying85 rfl), trivial⟩ ?_
   rcases bft ((decide (y3 < (p1.length : Int)))) with hc6 | hc6
   ·replace h := Qaw hc6 h
    refine wft hc6 (by kernel_rfl) ?_
    refine Qak ?_
    refine thn ?_
    refine wsq ?_
    refine Qad ?_
    obtain ⟨x7, hg8, h⟩ := bno h
    obtain ⟨hi9, hj10⟩ := gsm hg8
    obtain ⟨x12, hf11, h⟩ := bno h
    refine wx tbk [(2, rp [(.tmp 12, (Qnr p1)), (.tmp 13, I y3)] (.dptr (Qan (x7)) 0)), (4, rp [fu 23, (.tmp 15, (.agg [I x7.Inlet, (.dat 2 ((x7.Parts : List GPart).map Qau))]))] (B x12))] ⟨aid rfl Try.underlying85 ti24 rfl rfl hi9 (mgt Qan hj10) rfl, apc (first := []) (cap := []) (vs := [(.agg [I x7.Inlet, (.dat 2 ((x7.Parts : List GPart).map Qau))])]) rfl enter23 (Qqb N x7 _ hf11) rfl rfl (nlc (NLt.agg _ (nlc nll (nlc (nld Qbf _) nl0))) nl0) nll rfl, trivial⟩ ?_
    rcases bft ((!x12)) with hc13 | hc13
    ·replace h := Qaw hc13 h
     refine wft hc13 (by kernel_rfl) ?_
     refine wx tbk [] trivial ?_
     refine Qag ?_
     refine Qbz ?_
     refine Qay ?_
     refine Qay ?_
     refine Qbz ?_
     refine Qay ?_
     obtain rfl := osi h
     exact fend ⟨[B false], ⟨rot (by kernel_rfl), trivial⟩, rfl⟩ nll
    ·replace h := Qax hc13 h
     refine wfn hc13 (by kernel_rfl) ?_
     refine Qak ?_
     refine bln ?_
     refine thn ?_
     refine wx1 tbk [] trivial ?_
     refine thn ?_
     exact arm (mto (n := 26) [(0, (Qov p0)), (1, (Qnr p1)), (5, (I (w64 (y3 + 1))))] [] [] hφ0 (pc (.rn (.plain _ (nld Qaa _))) (pc (.rn (.plain _ (nld Qac _))) (pc rwl pn))) qn) (ih (w64 (y3 + 1)) h)
   ·replace h := Qax hc6 h
    refine wfn hc6 (by kernel_rfl) ?_
    refine Qa3 ?_
    refine Qam ?_
    refine Qam ?_
    refine Qa2 rfl ?_
    refine thn ?_
    exact ⟨(), h, (mto (n := 26) [(0, (Qov p0)), (1, (Qnr p1))] [] [] hφ0 (pc (.rn (.plain _ (nld Qaa _))) (pc (.rn (.plain _ (nld Qac _))) pn)) qn)⟩
def Qcz (N : Nat) (p0 : (List Int)) (p1 : (List GUnit)) (k2 : Unit → Option Bool) : Nat → Int → Option Bool
  | 0, _ => none
  | n8 + 1, y6 =>
    bif (decide (y6 < (p1.length : Int))) then
     (getI p1 y6).bind fun x10 =>
     (Qiq N x10).bind fun x15 =>
     bif (!x15) then
      some false
     else
      bif (decide (x10.Inlet ≥ (p0.length : Int))) then
       some false
      else
       Qcz N p0 p1 k2 n8 (w64 (y6 + 1))
    else
     k2 ()
def Qcy (N : Nat) (p0 : (List Int)) (k1 : Unit → Option Bool) : Nat → Int → Option Bool
  | 0, _ => none
  | n20 + 1, y18 =>
    bif (decide (y18 < (p0.length : Int))) then
     (getI p0 y18).bind fun x22 =>
     (Qgr N x22 0 1000000).bind fun x27 =>
     bif (!x27) then
      some false
     else
      Qcy N p0 k1 n20 (w64 (y18 + 1))
    else
     k1 ()
def Qfy (N : Nat) (p0 : (List Int)) (p1 : (List GUnit)) : Option Bool :=
  Qbr (fun _ =>
    Qbr (fun _ =>
      bif (decide ((p0.length : Int) ≥ 1)) then
       bif (decide ((p0.length : Int) ≤ 6)) then
        bif (decide ((p1.length : Int) ≥ 1)) then
         some (decide ((p1.length : Int) ≤ 10))
        else
         some false
       else
        some false
      else
       some false) fun k2 : Unit → Option Bool =>
    Qcz N p0 p1 k2 N 0) fun k1 : Unit → Option Bool =>
  Qcy N p0 k1 N 0
def Qgy (p0 : (List Int)) : AV := .dat 1 ((p0 : List Int).map Qab)
def Qhq (p1 : (List GUnit)) : AV := .dat 2 ((p1 : List GUnit).map Qan)
def Qr3 (x10 : GUnit) : AV := .agg [(I (x10.Inlet)), (.dat 2 ((x10.Parts : List GPart).map Qau))]
set_option maxRecDepth 100000 in
set_option maxHeartbeats 4000000 in
theorem Qm2 (N : Nat) (p0 : (List Int)) (p1 : (List GUnit)) (r : Bool) (h : Qfy N p0 p1 = some r) : Spec Try.prog 47 [(.dat 1 (p0.map Qab)), (.dat 2 (p1.map Qan))] [] (B r) [] := by
  refine Qae Try.func47 rfl 0 (nle rfl) (fun X φ0 w0 hφ0 => ?_)
  unfold Qfy at h
  refine wx tbk [] trivial ?_
  obtain ⟨k1, hk_k1, h⟩ := jko h
  refine wjn (τ := Unit) (fun t => k1 t = some r) (fun _ => ⟨mk 59 [(0, (Qgy p0)), (1, (Qhq p1))], []⟩) (fun t h => ?_) ?_
  ·subst hk_k1
   obtain ⟨k2, hk_k2, h⟩ := jko h
   refine wjn (τ := Unit) (fun t => k2 t = some r) (fun _ => ⟨mk 59 [(0, (Qgy p0)), (1, (Qhq p1))], []⟩) (fun t h => ?_) ?_
   ·subst hk_k2
    rcases bft ((decide ((p0.length : Int) ≥ 1))) with hb3 | hb3
    ·replace h := Qaw hb3 h
     rcases bft ((decide ((p0.length : Int) ≤ 6))) with hb4 | hb4
     ·replace h := Qaw hb4 h
      rcases bft ((decide ((p1.length : Int) ≥ 1))) with hb5 | hb5
      ·replace h := Qaw hb5 h
       refine wx tbk [(1, rp [(.tmp 41, (Qgy p0))] (I ((p0.length : Int)))), (3, rp [(.tmp 43, (B ((decide ((p0.length : Int) ≥ 1)))))] (B true)), (5, rp [(.tmp 44, B true), (.tmp 45, (Qgy p0))] (I ((p0.length : Int)))), (8, rp [(.tmp 48, (B ((decide ((p0.length : Int) ≤ 6)))))] (B true)), (10, rp [(.tmp 49, B true), (.tmp 50, (Qhq p1))] (I ((p1.length : Int)))), (13, rp [(.tmp 53, (B ((decide ((p1.length : Int) ≥ 1)))))] (B true)), (15, rp [(.tmp 54, B true), (.tmp 55, (Qhq p1))] (I ((p1.length : Int))))] ⟨alm (c := Qab) (l := p0) (aln rfl Try.underlying37 rfl), asb hb3 (amv rfl), ag_ (alm (c := Qab) (l := p0) (aln rfl Try.underlying37 rfl)), asb hb4 (amv rfl), ag_ (alm (c := Qan) (l := p1) (aln rfl Try.underlying85 rfl)), asb hb5 (amv rfl), ag_ (alm (c := Qan) (l := p1) (aln rfl Try.underlying85 rfl)), trivial⟩ ?_
       refine Qag ?_
       obtain rfl := osi h
       exact fend ⟨[(B ((decide ((p1.length : Int) ≤ 10))))], ⟨rot (by kernel_rfl), trivial⟩, rfl⟩ nll
      ·replace h := Qax hb5 h
       refine wx tbk [(1, rp [(.tmp 41, (Qgy p0))] (I ((p0.length : Int)))), (3, rp [(.tmp 43, (B ((decide ((p0.length : Int) ≥ 1)))))] (B true)), (5, rp [(.tmp 44, B true), (.tmp 45, (Qgy p0))] (I ((p0.length : Int)))), (8, rp [(.tmp 48, (B ((decide ((p0.length : Int) ≤ 6)))))] (B true)), (10, rp [(.tmp 49, B true), (.tmp 50, (Qhq p1))] (I ((p1.length : Int)))), (13, rp [(.tmp 53, (B ((decide ((p1.length : Int) ≥ 1)))))] (B false))] ⟨alm (c := Qab) (l := p0) (aln rfl Try.underlying37 rfl), asb hb3 (amv rfl), ag_ (alm (c := Qab) (l := p0) (aln rfl Try.underlying37 rfl)), asb hb4 (amv rfl), ag_ (alm (c := Qan) (l := p1) (aln rfl Try.underlying85 rfl)), asb hb5 (amv rfl), trivial⟩ ?_
       refine Qag ?_
       obtain rfl := osi h
       exact fend ⟨[B false], ⟨rot (by kernel_rfl), trivial⟩, rfl⟩ nll
     ·replace h := Qax hb4 h
      refine wx tbk [(1, rp [(.tmp 41, (Qgy p0))] (I ((p0.length : Int)))), (3, rp [(.tmp 43, (B ((decide ((p0.length : Int) ≥ 1)))))] (B true)), (5, rp [(.tmp 44, B true), (.tmp 45, (Qgy p0))] (I ((p0.length : Int)))), (8, rp [(.tmp 48, (B ((decide ((p0.length : Int) ≤ 6)))))] (B false))] ⟨alm (c := Qab) (l := p0) (aln rfl Try.underlying37 rfl), asb hb3 (amv rfl), ag_ (alm (c := Qab) (l := p0) (aln rfl Try.underlying37 rfl)), asb hb4 (amv rfl), trivial⟩ ?_
      refine Qag ?_
      obtain rfl := osi h
      exact fend ⟨[B false], ⟨rot (by kernel_rfl), trivial⟩, rfl⟩ nll
    ·replace h := Qax hb3 h
     refine wx tbk [(1, rp [(.tmp 41, (Qgy p0))] (I ((p0.length : Int)))), (3, rp [(.tmp 43, (B ((decide ((p0.length : Int) ≥ 1)))))] (B false))] ⟨alm (c := Qab) (l := p0) (aln rfl Try.underlying37 rfl), asb hb3 (amv rfl), trivial⟩ ?_
     refine Qag ?_
     obtain rfl := osi h
     exact fend ⟨[B false], ⟨rot (by kernel_rfl), trivial⟩, rfl⟩ nll
   ·skip
    refine wx tbk [] trivial ?_
    refine Qad ?_
    refine wmr (mto (n := 59) (l' := [(0, (Qgy p0)), (1, (Qhq p1)), (6, I 0)]) (own' := []) [(0, (Qgy p0)), (1, (Qhq p1)), (6, I 0)] [] [] hφ0 (pc (.rn (.plain _ (nld Qaa _))) (pc (.rn (.plain _ (nld Qac _))) (pc rwl pn))) qn) ?_
    refine Qbj (τ := Int) (fun n t => Qcz N p0 p1 k2 n t = some r) (fun y6 => ⟨mk 59 [(0, (Qgy p0)), (1, (Qhq p1)), (6, I y6)], []⟩) (fun t h => by rw [Qcz] at h; cases h) (fun n8 ih y6 h => ?_) N (0) h
    rw [Qcz] at h
    skip
    refine wsq ?_
    refine wx tbk [(2, rp [(.tmp 20, (Qhq p1))] (I ((p1.length : Int))))] ⟨alm (c := Qan) (l := p1) (aln rfl Try.underlying85 rfl), trivial⟩ ?_
    rcases bft ((decide (y6 < (p1.length : Int)))) with hc9 | hc9
    ·replace h := Qaw hc9 h
     refine wft hc9 (by kernel_rfl) ?_
     refine Qak ?_
     refine thn ?_
     refine wsq ?_
     refine Qad ?_
     obtain ⟨x10, hg11, h⟩ := bno h
     obtain ⟨hi12, hj13⟩ := gsm hg11
     obtain ⟨x15, hf14, h⟩ := bno h
     rcases bft ((!x15)) with hb16 | hb16
     ·replace h := Qaw hb16 h
      refine wx tbk [(2, rp [(.tmp 25, (Qhq p1)), (.tmp 26, I y6)] (.dptr (Qan (x10)) 0)), (4, rp [fu 15, (.tmp 28, (Qr3 x10))] (B x15)), (6, rp [(.tmp 30, (B ((!x15))))] (B true))] ⟨aid rfl Try.underlying85 ti24 rfl rfl hi12 (mgt Qan hj13) rfl, apc (first := []) (cap := []) (vs := [(Qr3 x10)]) rfl enter15 (Qly N x10 _ hf14) rfl rfl (nlc (NLt.agg _ (nlc nll (nlc (nld Qbf _) nl0))) nl0) nll rfl, asb hb16 (amv rfl), trivial⟩ ?_
      refine Qf7 (by kernel_rfl) ?_
      refine wx tbk [] trivial ?_
      refine Qag ?_
      refine Qbz ?_
      refine Qay ?_
      refine Qay ?_
      refine Qbz ?_
      refine Qay ?_
      obtain rfl := osi h
      exact fend ⟨[B false], ⟨rot (by kernel_rfl), trivial⟩, rfl⟩ nll
     ·replace h := Qax hb16 h
      refine wx tbk [(2, rp [(.tmp 25, (Qhq p1)), (.tmp 26, I y6)] (.dptr (Qan (x10)) 0)), (4, rp [fu 15, (.tmp 28, (Qr3 x10))] (B x15)), (6, rp [(.tmp 30, (B ((!x15))))] (B false)), (9, rp [(.tmp 31, B false), (.tmp 32, (Qhq p1)), (.tmp 33, I y6)] (.dptr (Qan (x10)) 0)), (13, rp [(.tmp 31, B false), (.tmp 37, (Qgy p0))] (I ((p0.length : Int))))] ⟨aid rfl Try.underlying85 ti24 rfl rfl hi12 (mgt Qan hj13) rfl, apc (first := []) (cap := []) (vs := [(Qr3 x10)]) rfl enter15 (Qly N x10 _ hf14) rfl rfl (nlc (NLt.agg _ (nlc nll (nlc (nld Qbf _) nl0))) nl0) nll rfl, asb hb16 (amv rfl), ag_ (aid rfl Try.underlying85 ti24 rfl rfl hi12 (mgt Qan hj13) rfl), ag_ (alm (c := Qab) (l := p0) (aln rfl Try.underlying37 rfl)), trivial⟩ ?_
      rcases bft ((decide (x10.Inlet ≥ (p0.length : Int)))) with hc17 | hc17
      ·replace h := Qaw hc17 h
       refine wft hc17 (by kernel_rfl) ?_
       refine wx tbk [] trivial ?_
       refine Qag ?_
       refine Qbz ?_
       refine Qay ?_
       refine Qay ?_
       refine Qbz ?_
       refine Qay ?_
       obtain rfl := osi h
       exact fend ⟨[B false], ⟨rot (by kernel_rfl), trivial⟩, rfl⟩ nll
      ·replace h := Qax hc17 h
       refine wfn hc17 (by kernel_rfl) ?_
       refine Qak ?_
       refine bln ?_
       refine thn ?_
       refine wx1 tbk [] trivial ?_
       refine thn ?_
       exact arm (mto (n := 59) [(0, (Qgy p0)), (1, (Qhq p1)), (6, (I (w64 (y6 + 1))))] [] [] hφ0 (pc (.rn (.plain _ (nld Qaa _))) (pc (.rn (.plain _ (nld Qac _))) (pc rwl pn))) qn) (ih (w64 (y6 + 1)) h)
    ·replace h := Qax hc9 h
     refine wfn hc9 (by kernel_rfl) ?_
     refine Qa3 ?_
     refine Qam ?_
     refine Qam ?_
     refine Qa2 rfl ?_
     refine thn ?_
     exact ⟨(), h, (mto (n := 59) [(0, (Qgy p0)), (1, (Qhq p1))] [] [] hφ0 (pc (.rn (.plain _ (nld Qaa _))) (pc (.rn (.plain _ (nld Qac _))) pn)) qn)⟩
  ·skip
   refine wx tbk [] trivial ?_
   refine Qad ?_
   refine wmr (mto (n := 59) (l' := [(0, (Qgy p0)), (1, (Qhq p1)), (5, I 0)]) (own' := []) [(0, (Qgy p0)), (1, (Qhq p1)), (5, I 0)] [] [] hφ0 (pc (.rn (.plain _ (nld Qaa _))) (pc (.rn (.plain _ (nld Qac _))) (pc rwl pn))) qn) ?_
   refine Qbj (τ := Int) (fun n t => Qcy N p0 k1 n t = some r) (fun y18 => ⟨mk 59 [(0, (Qgy p0)), (1, (Qhq p1)), (5, I y18)], []⟩) (fun t h => by rw [Qcy] at h; cases h) (fun n20 ih y18 h => ?_) N (0) h
   rw [Qcy] at h
   skip
   refine wsq ?_
   refine wx tbk [(2, rp [(.tmp 8, (Qgy p0))] (I ((p0.length : Int))))] ⟨alm (c := Qab) (l := p0) (aln rfl Try.underlying37 rfl), trivial⟩ ?_
   rcases bft ((decide (y18 < (p0.length : Int)))) with hc21 | hc21
   ·replace h := Qaw hc21 h
    refine wft hc21 (by kernel_rfl) ?_
    refine Qak ?_
    refine thn ?_
    refine wsq ?_
    refine Qad ?_
    obtain ⟨x22, hg23, h⟩ := bno h
    obtain ⟨hi24, hj25⟩ := gsm hg23
    obtain ⟨x27, hf26, h⟩ := bno h
    refine wx tbk [(2, rp [(.tmp 13, (Qgy p0)), (.tmp 14, I y18)] (.dptr (Qab (x22)) 0)), (4, rp [fu 25, (.tmp 16, I x22), ci 0, ci 1000000] (B x27))] ⟨aid rfl Try.underlying37 ti3 rfl rfl hi24 (mgt Qab hj25) rfl, apc (first := []) (cap := []) (vs := [I x22, I 0, I 1000000]) rfl Qic (Qdx N x22 0 1000000 _ hf26) rfl rfl (nlc nll (nlc nll (nlc nll nl0))) nll rfl, trivial⟩ ?_
    rcases bft ((!x27)) with hc28 | hc28
    ·replace h := Qaw hc28 h
     refine wft hc28 (by kernel_rfl) ?_
     refine wx tbk [] trivial ?_
     refine Qag ?_
     refine Qbz ?_
     refine Qay ?_
     refine Qay ?_
     refine Qbz ?_
     refine Qay ?_
     obtain rfl := osi h
     exact fend ⟨[B false], ⟨rot (by kernel_rfl), trivial⟩, rfl⟩ nll
    ·replace h := Qax hc28 h
     refine wfn hc28 (by kernel_rfl) ?_
     refine Qak ?_
     refine bln ?_
     refine thn ?_
     refine wx1 tbk [] trivial ?_
     refine thn ?_
     exact arm (mto (n := 59) [(0, (Qgy p0)), (1, (Qhq p1)), (5, (I (w64 (y18 + 1))))] [] [] hφ0 (pc (.rn (.plain _ (nld Qaa _))) (pc (.rn (.plain _ (nld Qac _))) (pc rwl pn))) qn) (ih (w64 (y18 + 1)) h)
   ·replace h := Qax hc21 h
    refine wfn hc21 (by kernel_rfl) ?_
    refine Qa3 ?_
    refine Qam ?_
    refine Qam ?_
    refine Qa2 rfl ?_
    refine thn ?_
    exact ⟨(), h, (mto (n := 59) [(0, (Qgy p0)), (1, (Qhq p1))] [] [] hφ0 (pc (.rn (.plain _ (nld Qaa _))) (pc (.rn (.plain _ (nld Qac _))) pn)) qn)⟩
def Qef (N : Nat) (p0 : (List Int)) (k2 : Int → Option Int) : Nat → Int → Int → Option Int
  | 0, _, _ => none
  | n7 + 1, y3, y4 =>
    bif (decide (y4 < (p0.length : Int))) then
     (getI p0 y4).bind fun x9 =>
     Qef N p0 k2 n7 (w64 (y3 + x9)) (w64 (y4 + 1))
    else
     k2 (y3)
def Qgp (N : Nat) (p0 : (List Int)) (p1 : Int) : Option Int :=
  Qbr (fun y1 =>
    some y1) fun k2 : Int → Option Int =>
  Qef N p0 k2 N 0 p1
def Qq2 (p0 : (List Int)) : AV := .dat 1 ((p0 : List Int).map Qab)
set_option maxRecDepth 100000 in
set_option maxHeartbeats 4000000 in
theorem Qkb (N : Nat) (p0 : (List Int)) (p1 : Int) (r : Int) (h : Qgp N p0 p1 = some r) : Spec Try.prog 86 [(.dat 1 (p0.map Qab)), (I p1)] [] (I r) [] := by
  refine Qae Try.func86 rfl 0 (nle rfl) (fun X φ0 w0 hφ0 => ?_)
  unfold Qgp at h
  refine wx tbk [] trivial ?_
  refine wx tbk [] trivial ?_
  obtain ⟨k2, hk_k2, h⟩ := jko h
  refine wjn (τ := Int) (fun t => k2 t = some r) (fun y1 => ⟨mk 21 [(5, I y1)], []⟩) (fun y1 h => ?_) ?_
  ·subst hk_k2
   refine wx tbk [] trivial ?_
   refine Qag ?_
   obtain rfl := osi h
   exact fend ⟨[I y1], ⟨rot (by kernel_rfl), trivial⟩, rfl⟩ nll
  ·skip
   refine wx tbk [] trivial ?_
   refine Qad ?_
   refine wmr (mto (n := 21) (l' := [(0, (Qq2 p0)), (5, I 0), (6, I p1)]) (own' := []) [(0, (Qq2 p0)), (5, I 0), (6, I p1)] [] [] hφ0 (pc (.rn (.plain _ (nld Qaa _))) (pc rwl (pc rwl pn))) qn) ?_
   refine Qbj (τ := Int × Int) (fun n t => Qef N p0 k2 n t.1 t.2 = some r) (fun ⟨y3, y4⟩ => ⟨mk 21 [(0, (Qq2 p0)), (5, I y3), (6, I y4)], []⟩) (fun t h => by rw [Qef] at h; cases h) (fun n7 ih t h => ?_) N (0, p1) h
   obtain ⟨y3, y4⟩ := t
   rw [Qef] at h
   skip
   refine wsq ?_
   refine wx tbk [(2, rp [(.tmp 9, (Qq2 p0))] (I ((p0.length : Int))))] ⟨alm (c := Qab) (l := p0) (aln rfl Try.underlying37 rfl), trivial⟩ ?_
   rcases bft ((decide (y4 < (p0.length : Int)))) with hc8 | hc8
   ·replace h := Qaw hc8 h
    refine wft hc8 (by kernel_rfl) ?_
    refine Qak ?_
    refine thn ?_
    refine wsq ?_
    refine Qad ?_
    obtain ⟨x9, hg10, h⟩ := bno h
    obtain ⟨hi11, hj12⟩ := gsm hg10
    refine wx1 tbk [(3, rp [(.tmp 15, (Qq2 p0)), (.tmp 16, I y4)] (.dptr (Qab (x9)) 0))] ⟨aid rfl Try.underlying37 ti3 rfl rfl hi11 (mgt Qab hj12) rfl, trivial⟩ ?_
    refine bln ?_
    refine thn ?_
    refine wx1 tbk [] trivial ?_
    refine thn ?_
    exact arm (mto (n := 21) [(0, (Qq2 p0)), (5, (I (w64 (y3 + x9)))), (6, (I (w64 (y4 + 1))))] [] [] hφ0 (pc (.rn (.plain _ (nld Qaa _))) (pc rwl (pc rwl pn))) qn) (ih (w64 (y3 + x9), w64 (y4 + 1)) h)
   ·replace h := Qax hc8 h
    refine wfn hc8 (by kernel_rfl) ?_
    refine Qa3 ?_
    refine Qam ?_
    refine Qam ?_
    refine Qa2 rfl ?_
    refine thn ?_
    exact ⟨(y3), h, (mto (n := 21) [(5, I y3)] [] [] hφ0 (pc rwl pn) qn)⟩
def Qc2 (N : Nat) (p1 : (List GUnit)) (p2 : (List Int)) (y4 : Int) (k10 : Int → Option Bool) : Nat → Int → Int → Option Bool
  | 0, _, _ => none
  | n18 + 1, y14, y15 =>
    bif (decide (y15 < (p1.length : Int))) then
     (getI p1 y15).bind fun x20 =>
     bif (decide (x20.Inlet ≥ y4)) then
      (getI p2 y15).bind fun x25 =>
      Qc2 N p1 p2 y4 k10 n18 (w64 (y14 + x25)) (w64 (y15 + 1))
     else
      Qc2 N p1 p2 y4 k10 n18 y14 (w64 (y15 + 1))
    else
     k10 (y14)
def Qco (N : Nat) (p0 : (List Int)) (p1 : (List GUnit)) (p2 : (List Int)) (k3 : Unit → Option Bool) : Nat → Int → Option Bool
  | 0, _ => none
  | n6 + 1, y4 =>
    bif (decide (y4 < (p0.length : Int))) then
     Qbr (fun _ =>
       Qco N p0 p1 p2 k3 n6 (w64 (y4 + 1))) fun k8 : Unit → Option Bool =>
     Qbr (fun y9 =>
       (Qgp N p0 y4).bind fun x12 =>
       bif (decide (y9 > x12)) then
        some false
       else
        k8 ()) fun k10 : Int → Option Bool =>
     Qc2 N p1 p2 y4 k10 N 0 0
    else
     k3 ()
def Qdg (N : Nat) (p1 : (List GUnit)) (k2 : Unit → Option Bool) (p2 : (List Int)) : Nat → Int → Option Bool
  | 0, _ => none
  | n31 + 1, y29 =>
    bif (decide (y29 < (p1.length : Int))) then
     (getI p2 y29).bind fun x33 =>
     (getI p1 y29).bind fun x37 =>
     (Qgq N x37).bind fun x42 =>
     (Qgr N x33 0 x42).bind fun x44 =>
     bif (!x44) then
      some false
     else
      Qdg N p1 k2 p2 n31 (w64 (y29 + 1))
    else
     k2 ()
def Qg5 (N : Nat) (p0 : (List Int)) (p1 : (List GUnit)) (p2 : (List Int)) : Option Bool :=
  bif ((p2.length : Int) != (p1.length : Int)) then
   some false
  else
   Qbr (fun _ =>
     Qbr (fun _ =>
       some true) fun k3 : Unit → Option Bool =>
     Qco N p0 p1 p2 k3 N 0) fun k2 : Unit → Option Bool =>
   Qdg N p1 k2 p2 N 0
def Qgx (p2 : (List Int)) : AV := .dat 1 ((p2 : List Int).map Qab)
def Qgi (p1 : (List GUnit)) : AV := .dat 2 ((p1 : List GUnit).map Qan)
def Qgw (p0 : (List Int)) : AV := .dat 1 ((p0 : List Int).map Qab)
set_option maxRecDepth 100000 in
set_option maxHeartbeats 4000000 in
theorem Qoi (N : Nat) (p0 : (List Int)) (p1 : (List GUnit)) (p2 : (List Int)) (r : Bool) (h : Qg5 N p0 p1 p2 = some r) : Spec Try.prog 85 [(.dat 1 (p0.map Qab)), (.dat 2 (p1.map Qan)), (.dat 1 (p2.map Qab))] [] (B r) [] := by
  refine Qae Try.func85 rfl 0 (nle rfl) (fun X φ0 w0 hφ0 => ?_)
  unfold Qg5 at h
  refine wx tbk [] trivial ?_
  refine wsq ?_
  refine wx tbk [(1, rp [(.tmp 11, (Qgx p2))] (I ((p2.length : Int)))), (3, rp [(.tmp 13, (Qgi p1))] (I ((p1.length : Int))))] ⟨alm (c := Qab) (l := p2) (aln rfl Try.underlying37 rfl), alm (c := Qan) (l := p1) (aln rfl Try.underlying85 rfl), trivial⟩ ?_
  rcases bft (((p2.length : Int) != (p1.length : Int))) with hc1 | hc1
  ·replace h := Qaw hc1 h
   refine wft hc1 (by kernel_rfl) ?_
   refine wx tbk [] trivial ?_
   refine Qag ?_
   refine Qay ?_
   obtain rfl := osi h
   exact fend ⟨[B false], ⟨rot (by kernel_rfl), trivial⟩, rfl⟩ nll
  ·replace h := Qax hc1 h
   refine wfn hc1 (by kernel_rfl) ?_
   refine Qak ?_
   refine thn ?_
   obtain ⟨k2, hk_k2, h⟩ := jko h
   refine wjn (τ := Unit) (fun t => k2 t = some r) (fun _ => ⟨mk 63 [(0, (Qgw p0)), (1, (Qgi p1)), (2, (Qgx p2))], []⟩) (fun t h => ?_) ?_
   ·subst hk_k2
    obtain ⟨k3, hk_k3, h⟩ := jko h
    refine wjn (τ := Unit) (fun t => k3 t = some r) (fun _ => ⟨mk 63 [], []⟩) (fun t h => ?_) ?_
    ·subst hk_k3
     refine wx tbk [] trivial ?_
     refine Qag ?_
     obtain rfl := osi h
     exact fend ⟨[B true], ⟨rot (by kernel_rfl), trivial⟩, rfl⟩ nll
    ·skip
     refine wx tbk [] trivial ?_
     refine Qad ?_
     refine wmr (mto (n := 63) (l' := [(0, (Qgw p0)), (1, (Qgi p1)), (2, (Qgx p2)), (8, I 0)]) (own' := []) [(0, (Qgw p0)), (1, (Qgi p1)), (2, (Qgx p2)), (8, I 0)] [] [] hφ0 (pc (.rn (.plain _ (nld Qaa _))) (pc (.rn (.plain _ (nld Qac _))) (pc (.rn (.plain _ (nld Qaa _))) (pc rwl pn)))) qn) ?_
     refine Qbj (τ := Int) (fun n t => Qco N p0 p1 p2 k3 n t = some r) (fun y4 => ⟨mk 63 [(0, (Qgw p0)), (1, (Qgi p1)), (2, (Qgx p2)), (8, I y4)], []⟩) (fun t h => by rw [Qco] at h; cases h) (fun n6 ih y4 h => ?_) N (0) h
     rw [Qco] at h
     skip
     refine wsq ?_
     refine wx tbk [(2, rp [(.tmp 34, (Qgw p0))] (I ((p0.length : Int))))] ⟨alm (c := Qab) (l := p0) (aln rfl Try.underlying37 rfl), trivial⟩ ?_
     rcases bft ((decide (y4 < (p0.length : Int)))) with hc7 | hc7
     ·replace h := Qaw hc7 h
      refine wft hc7 (by kernel_rfl) ?_
      refine Qak ?_
      refine thn ?_
      obtain ⟨k8, hk_k8, h⟩ := jko h
      refine wjn (τ := Unit) (fun t => k8 t = some r) (fun _ => ⟨mk 63 [(0, (Qgw p0)), (1, (Qgi p1)), (2, (Qgx p2)), (8, I y4)], []⟩) (fun t h => ?_) ?_
      ·subst hk_k8
       refine wx1 tbk [] trivial ?_
       refine thn ?_
       exact arm (mto (n := 63) [(0, (Qgw p0)), (1, (Qgi p1)), (2, (Qgx p2)), (8, (I (w64 (y4 + 1))))] [] [] hφ0 (pc (.rn (.plain _ (nld Qaa _))) (pc (.rn (.plain _ (nld Qac _))) (pc (.rn (.plain _ (nld Qaa _))) (pc rwl pn)))) qn) (ih (w64 (y4 + 1)) h)
      ·skip
       refine Qad ?_
       refine wx tbk [] trivial ?_
       obtain ⟨k10, hk_k10, h⟩ := jko h
       refine wjn (τ := Int) (fun t => k10 t = some r) (fun y9 => ⟨mk 63 [(0, (Qgw p0)), (1, (Qgi p1)), (2, (Qgx p2)), (8, I y4), (9, I y9)], []⟩) (fun y9 h => ?_) ?_
       ·subst hk_k10
        obtain ⟨x12, hf11, h⟩ := bno h
        refine wx tbk [(3, rp [fu 86, (.tmp 59, (Qgw p0)), (.tmp 60, I y4)] (I x12))] ⟨apc (first := []) (cap := []) (vs := [(Qgw p0), I y4]) rfl Qwj (Qkb N p0 y4 _ hf11) rfl rfl (nlc (nld Qaa _) (nlc nll nl0)) nll rfl, trivial⟩ ?_
        rcases bft ((decide (y9 > x12))) with hc13 | hc13
        ·replace h := Qaw hc13 h
         refine wft hc13 (by kernel_rfl) ?_
         refine wx tbk [] trivial ?_
         refine Qag ?_
         refine Qbz ?_
         refine Qay ?_
         refine Qay ?_
         refine Qbz ?_
         refine Qay ?_
         obtain rfl := osi h
         exact fend ⟨[B false], ⟨rot (by kernel_rfl), trivial⟩, rfl⟩ nll
        ·replace h := Qax hc13 h
         refine wfn hc13 (by kernel_rfl) ?_
         refine Qak ?_
         refine bln ?_
         refine thn ?_
         exact ⟨(), h, (mto (n := 63) [(0, (Qgw p0)), (1, (Qgi p1)), (2, (Qgx p2)), (8, I y4)] [] [] hφ0 (pc (.rn (.plain _ (nld Qaa _))) (pc (.rn (.plain _ (nld Qac _))) (pc (.rn (.plain _ (nld Qaa _))) (pc rwl pn)))) qn)⟩
       ·skip
        refine wx tbk [] trivial ?_
        refine Qad ?_
        refine wmr (mto (n := 63) (l' := [(0, (Qgw p0)), (1, (Qgi p1)), (2, (Qgx p2)), (8, I y4), (9, I 0), (10, I 0)]) (own' := []) [(0, (Qgw p0)), (1, (Qgi p1)), (2, (Qgx p2)), (8, I y4), (9, I 0), (10, I 0)] [] [] hφ0 (pc (.rn (.plain _ (nld Qaa _))) (pc (.rn (.plain _ (nld Qac _))) (pc (.rn (.plain _ (nld Qaa _))) (pc rwl (pc rwl (pc rwl pn)))))) qn) ?_
        refine Qbj (τ := Int × Int) (fun n t => Qc2 N p1 p2 y4 k10 n t.1 t.2 = some r) (fun ⟨y14, y15⟩ => ⟨mk 63 [(0, (Qgw p0)), (1, (Qgi p1)), (2, (Qgx p2)), (8, I y4), (9, I y14), (10, I y15)], []⟩) (fun t h => by rw [Qc2] at h; cases h) (fun n18 ih t h => ?_) N (0, 0) h
        obtain ⟨y14, y15⟩ := t
        rw [Qc2] at h
        skip
        refine wsq ?_
        refine wx tbk [(2, rp [(.tmp 40, (Qgi p1))] (I ((p1.length : Int))))] ⟨alm (c := Qan) (l := p1) (aln rfl Try.underlying85 rfl), trivial⟩ ?_
        rcases bft ((decide (y15 < (p1.length : Int)))) with hc19 | hc19
        ·replace h := Qaw hc19 h
         refine wft hc19 (by kernel_rfl) ?_
         refine Qak ?_
         refine thn ?_
         refine wsq ?_
         refine Qad ?_
         obtain ⟨x20, hg21, h⟩ := bno h
         obtain ⟨hi22, hj23⟩ := gsm hg21
         refine wx tbk [(2, rp [(.tmp 45, (Qgi p1)), (.tmp 46, I y15)] (.dptr (Qan (x20)) 0))] ⟨aid rfl Try.underlying85 ti24 rfl rfl hi22 (mgt Qan hj23) rfl, trivial⟩ ?_
         rcases bft ((decide (x20.Inlet ≥ y4))) with hc24 | hc24
         ·replace h := Qaw hc24 h
          refine wft hc24 (by kernel_rfl) ?_
          obtain ⟨x25, hg26, h⟩ := bno h
          obtain ⟨hi27, hj28⟩ := gsm hg26
          refine wx1 tbk [(3, rp [(.tmp 53, (Qgx p2)), (.tmp 54, I y15)] (.dptr (Qab (x25)) 0))] ⟨aid rfl Try.underlying37 ti3 rfl rfl hi27 (mgt Qab hj28) rfl, trivial⟩ ?_
          refine bln ?_
          refine thn ?_
          refine wx1 tbk [] trivial ?_
          refine thn ?_
          exact arm (mto (n := 63) [(0, (Qgw p0)), (1, (Qgi p1)), (2, (Qgx p2)), (8, I y4), (9, (I (w64 (y14 + x25)))), (10, (I (w64 (y15 + 1))))] [] [] hφ0 (pc (.rn (.plain _ (nld Qaa _))) (pc (.rn (.plain _ (nld Qac _))) (pc (.rn (.plain _ (nld Qaa _))) (pc rwl (pc rwl (pc rwl pn)))))) qn) (ih (w64 (y14 + x25), w64 (y15 + 1)) h)
         ·replace h := Qax hc24 h
          refine wfn hc24 (by kernel_rfl) ?_
          refine Qak ?_
          refine bln ?_
          refine thn ?_
          refine wx1 tbk [] trivial ?_
          refine thn ?_
          exact arm (mto (n := 63) [(0, (Qgw p0)), (1, (Qgi p1)), (2, (Qgx p2)), (8, I y4), (9, I y14), (10, (I (w64 (y15 + 1))))] [] [] hφ0 (pc (.rn (.plain _ (nld Qaa _))) (pc (.rn (.plain _ (nld Qac _))) (pc (.rn (.plain _ (nld Qaa _))) (pc rwl (pc rwl (pc rwl pn)))))) qn) (ih (y14, w64 (y15 + 1)) h)
        ·replace h := Qax hc19 h
         refine wfn hc19 (by kernel_rfl) ?_
         refine Qa3 ?_
         refine Qam ?_
         refine Qam ?_
         refine Qa2 rfl ?_
         refine thn ?_
         exact ⟨(y14), h, (mto (n := 63) [(0, (Qgw p0)), (1, (Qgi p1)), (2, (Qgx p2)), (8, I y4), (9, I y14)] [] [] hφ0 (pc (.rn (.plain _ (nld Qaa _))) (pc (.rn (.plain _ (nld Qac _))) (pc (.rn (.plain _ (nld Qaa _))) (pc rwl (pc rwl pn))))) qn)⟩
     ·replace h := Qax hc7 h
      refine wfn hc7 (by kernel_rfl) ?_
      refine Qa3 ?_
      refine Qam ?_
      refine Qam ?_
      refine Qa2 rfl ?_
      refine thn ?_
      exact ⟨(), h, (mto (n := 63) [] [] [] hφ0 pn qn)⟩
   ·skip
    refine wx tbk [] trivial ?_
    refine Qad ?_
    refine wmr (mto (n := 63) (l' := [(0, (Qgw p0)), (1, (Qgi p1)), (2, (Qgx p2)), (7, I 0)]) (own' := []) [(0, (Qgw p0)), (1, (Qgi p1)), (2, (Qgx p2)), (7, I 0)] [] [] hφ0 (pc (.rn (.plain _ (nld Qaa _))) (pc (.rn (.plain _ (nld Qac _))) (pc (.rn (.plain _ (nld Qaa _))) (pc rwl pn)))) qn) ?_
    refine Qbj (τ := Int) (fun n t => Qdg N p1 k2 p2 n t = some r) (fun y29 => ⟨mk 63 [(0, (Qgw p0)), (1, (Qgi p1)), (2, (Qgx p2)), (7, I y29)], []⟩) (fun t h => by rw [Qdg] at h; cases h) (fun n31 ih y29 h => ?_) N (0) h
    rw [Qdg] at h
    skip
    refine wsq ?_
    refine wx tbk [(2, rp [(.tmp 17, (Qgi p1))] (I ((p1.length : Int))))] ⟨alm (c := Qan) (l := p1) (aln rfl Try.underlying85 rfl), trivial⟩ ?_
    rcases bft ((decide (y29 < (p1.length : Int)))) with hc32 | hc32
    ·replace h := Qaw hc32 h
     refine wft hc32 (by kernel_rfl) ?_
     refine Qak ?_
     refine thn ?_
     refine wsq ?_
     refine Qad ?_
     obtain ⟨x33, hg34, h⟩ := bno h
     obtain ⟨hi35, hj36⟩ := gsm hg34
     obtain ⟨x37, hg38, h⟩ := bno h
     obtain ⟨hi39, hj40⟩ := gsm hg38
     obtain ⟨x42, hf41, h⟩ := bno h
     obtain ⟨x44, hf43, h⟩ := bno h
     refine wxd tbk [(2, rp [(.tmp 22, (Qgx p2)), (.tmp 23, I y29)] (.dptr (Qab (x33)) 0)), (6, rp [(.tmp 26, (Qgi p1)), (.tmp 27, I y29)] (.dptr (Qan (x37)) 0)), (8, rp [fu 16, (.tmp 29, (.agg [I x37.Inlet, (.dat 2 ((x37.Parts : List GPart).map Qau))]))] (I x42)), (9, rp [fu 25, (.tmp 25, I x33), ci 0, (.tmp 30, I x42)] (B x44))] ⟨aid rfl Try.underlying37 ti3 rfl rfl hi35 (mgt Qab hj36) rfl, aid rfl Try.underlying85 ti24 rfl rfl hi39 (mgt Qan hj40) rfl, apc (first := []) (cap := []) (vs := [(.agg [I x37.Inlet, (.dat 2 ((x37.Parts : List GPart).map Qau))])]) rfl enter16 (Qnu N x37 _ hf41) rfl rfl (nlc (NLt.agg _ (nlc nll (nlc (nld Qbf _) nl0))) nl0) nll rfl, apc (first := []) (cap := []) (vs := [I x33, I 0, I x42]) rfl Qic (Qdx N x33 0 x42 _ hf43) rfl rfl (nlc nll (nlc nll (nlc nll nl0))) nll rfl, trivial⟩ ?_
     rcases bft ((!x44)) with hc45 | hc45
     ·replace h := Qaw hc45 h
      refine wft hc45 (by kernel_rfl) ?_
      refine wx tbk [] trivial ?_
      refine Qag ?_
      refine Qbz ?_
      refine Qay ?_
      refine Qay ?_
      refine Qbz ?_
      refine Qay ?_
      obtain rfl := osi h
      exact fend ⟨[B false], ⟨rot (by kernel_rfl), trivial⟩, rfl⟩ nll
     ·replace h := Qax hc45 h
      refine wfn hc45 (by kernel_rfl) ?_
      refine Qak ?_
      refine bln ?_
      refine thn ?_
      refine wx1 tbk [] trivial ?_
      refine thn ?_
      exact arm (mto (n := 63) [(0, (Qgw p0)), (1, (Qgi p1)), (2, (Qgx p2)), (7, (I (w64 (y29 + 1))))] [] [] hφ0 (pc (.rn (.plain _ (nld Qaa _))) (pc (.rn (.plain _ (nld Qac _))) (pc (.rn (.plain _ (nld Qaa _))) (pc rwl pn)))) qn) (ih (w64 (y29 + 1)) h)
    ·replace h := Qax hc32 h
     refine wfn hc32 (by kernel_rfl) ?_
     refine Qa3 ?_
     refine Qam ?_
     refine Qam ?_
     refine Qa2 rfl ?_
     refine thn ?_
     exact ⟨(), h, (mto (n := 63) [(0, (Qgw p0)), (1, (Qgi p1)), (2, (Qgx p2))] [] [] hφ0 (pc (.rn (.plain _ (nld Qaa _))) (pc (.rn (.plain _ (nld Qac _))) (pc (.rn (.plain _ (nld Qaa _))) pn))) qn)⟩
def Qee (N : Nat) (p0 : (List GUnit)) (p1 : (List Int)) (k2 : Int → Option Int) : Nat → Int → Int → Option Int
  | 0, _, _ => none
  | n7 + 1, y3, y4 =>
    bif (decide (y4 < (p0.length : Int))) then
     (getI p0 y4).bind fun x9 =>
     (getI p1 y4).bind fun x13 =>
     (Qir N x9 x13).bind fun x18 =>
     Qee N p0 p1 k2 n7 (w64 (y3 + x18)) (w64 (y4 + 1))
    else
     k2 (y3)
def Qjq (N : Nat) (p0 : (List GUnit)) (p1 : (List Int)) : Option Int :=
  Qbr (fun y1 =>
    some y1) fun k2 : Int → Option Int =>
  Qee N p0 p1 k2 N 0 0
def Qq1 (p0 : (List GUnit)) : AV := .dat 2 ((p0 : List GUnit).map Qan)
def Qtz (p1 : (List Int)) : AV := .dat 1 ((p1 : List Int).map Qab)
set_option maxRecDepth 100000 in
set_option maxHeartbeats 4000000 in
theorem Qif (N : Nat) (p0 : (List GUnit)) (p1 : (List Int)) (r : Int) (h : Qjq N p0 p1 = some r) : Spec Try.prog 49 [(.dat 2 (p0.map Qan)), (.dat 1 (p1.map Qab))] [] (I r) [] := by
  refine Qae Try.func49 rfl 0 (nle rfl) (fun X φ0 w0 hφ0 => ?_)
  unfold Qjq at h
  refine wx tbk [] trivial ?_
  refine wx tbk [] trivial ?_
  obtain ⟨k2, hk_k2, h⟩ := jko h
  refine wjn (τ := Int) (fun t => k2 t = some r) (fun y1 => ⟨mk 25 [(5, I y1)], []⟩) (fun y1 h => ?_) ?_
  ·subst hk_k2
   refine wx tbk [] trivial ?_
   refine Qag ?_
   obtain rfl := osi h
   exact fend ⟨[I y1], ⟨rot (by kernel_rfl), trivial⟩, rfl⟩ nll
  ·skip
   refine wx tbk [] trivial ?_
   refine Qad ?_
   refine wmr (mto (n := 25) (l' := [(0, (Qq1 p0)), (1, (Qtz p1)), (5, I 0), (6, I 0)]) (own' := []) [(0, (Qq1 p0)), (1, (Qtz p1)), (5, I 0), (6, I 0)] [] [] hφ0 (pc (.rn (.plain _ (nld Qac _))) (pc (.rn (.plain _ (nld Qaa _))) (pc rwl (pc rwl pn)))) qn) ?_
   refine Qbj (τ := Int × Int) (fun n t => Qee N p0 p1 k2 n t.1 t.2 = some r) (fun ⟨y3, y4⟩ => ⟨mk 25 [(0, (Qq1 p0)), (1, (Qtz p1)), (5, I y3), (6, I y4)], []⟩) (fun t h => by rw [Qee] at h; cases h) (fun n7 ih t h => ?_) N (0, 0) h
   obtain ⟨y3, y4⟩ := t
   rw [Qee] at h
   skip
   refine wsq ?_
   refine wx tbk [(2, rp [(.tmp 8, (Qq1 p0))] (I ((p0.length : Int))))] ⟨alm (c := Qan) (l := p0) (aln rfl Try.underlying85 rfl), trivial⟩ ?_
   rcases bft ((decide (y4 < (p0.length : Int)))) with hc8 | hc8
   ·replace h := Qaw hc8 h
    refine wft hc8 (by kernel_rfl) ?_
    refine Qak ?_
    refine thn ?_
    refine wsq ?_
    refine Qad ?_
    obtain ⟨x9, hg10, h⟩ := bno h
    obtain ⟨hi11, hj12⟩ := gsm hg10
    obtain ⟨x13, hg14, h⟩ := bno h
    obtain ⟨hi15, hj16⟩ := gsm hg14
    obtain ⟨x18, hf17, h⟩ := bno h
    refine wy1 tbk [(3, rp [(.tmp 14, (Qq1 p0)), (.tmp 15, I y4)] (.dptr (Qan (x9)) 0)), (7, rp [(.tmp 18, (Qtz p1)), (.tmp 19, I y4)] (.dptr (Qab (x13)) 0)), (9, rp [fu 26, (.tmp 17, (.agg [I x9.Inlet, (.dat 2 ((x9.Parts : List GPart).map Qau))])), (.tmp 21, I x13)] (I x18))] ⟨aid rfl Try.underlying85 ti24 rfl rfl hi11 (mgt Qan hj12) rfl, aid rfl Try.underlying37 ti3 rfl rfl hi15 (mgt Qab hj16) rfl, apc (first := []) (cap := []) (vs := [(.agg [I x9.Inlet, (.dat 2 ((x9.Parts : List GPart).map Qau))]), I x13]) rfl enter26 (Qpy N x9 x13 _ hf17) rfl rfl (nlc (NLt.agg _ (nlc nll (nlc (nld Qbf _) nl0))) (nlc nll nl0)) nll rfl, trivial⟩ ?_
    refine bln ?_
    refine thn ?_
    refine wx1 tbk [] trivial ?_
    refine thn ?_
    exact arm (mto (n := 25) [(0, (Qq1 p0)), (1, (Qtz p1)), (5, (I (w64 (y3 + x18)))), (6, (I (w64 (y4 + 1))))] [] [] hφ0 (pc (.rn (.plain _ (nld Qac _))) (pc (.rn (.plain _ (nld Qaa _))) (pc rwl (pc rwl pn)))) qn) (ih (w64 (y3 + x18), w64 (y4 + 1)) h)
   ·replace h := Qax hc8 h
    refine wfn hc8 (by kernel_rfl) ?_
    refine Qa3 ?_
    refine Qam ?_
    refine Qam ?_
    refine Qa2 rfl ?_
    refine thn ?_
    exact ⟨(y3), h, (mto (n := 25) [(5, I y3)] [] [] hφ0 (pc rwl pn) qn)⟩
def Qjg (N : Nat) (p0 : (List Int)) (p1 : (List GUnit)) (p2 : (List Int)) : Option Bool :=
  (Qg5 N p0 p1 p2).bind fun x2 =>
  some x2
set_option maxRecDepth 100000 in
set_option maxHeartbeats 4000000 in
theorem Qga (N : Nat) (p0 : (List Int)) (p1 : (List GUnit)) (p2 : (List Int)) (r : Bool) (h : Qjg N p0 p1 p2 = some r) : Spec Try.prog 48 [(.dat 1 (p0.map Qab)), (.dat 2 (p1.map Qan)), (.dat 1 (p2.map Qab))] [] (B r) [] := by
  refine Qae Try.func48 rfl 0 (nle rfl) (fun X φ0 w0 hφ0 => ?_)
  unfold Qjg at h
  refine wx tbk [] trivial ?_
  obtain ⟨x2, hf1, h⟩ := bno h
  refine wx tbk [(3, rp [fu 85, (.tmp 7, (.dat 1 ((p0 : List Int).map Qab))), (.tmp 8, (.dat 2 ((p1 : List GUnit).map Qan))), (.tmp 9, (.dat 1 ((p2 : List Int).map Qab)))] (B x2))] ⟨apc (first := []) (cap := []) (vs := [(.dat 1 ((p0 : List Int).map Qab)), (.dat 2 ((p1 : List GUnit).map Qan)), (.dat 1 ((p2 : List Int).map Qab))]) rfl enter85 (Qoi N p0 p1 p2 _ hf1) rfl rfl (nlc (nld Qaa _) (nlc (nld Qac _) (nlc (nld Qaa _) nl0))) nll rfl, trivial⟩ ?_
  refine Qag ?_
  obtain rfl := osi h
  exact fend ⟨[B x2], ⟨rot (by kernel_rfl), trivial⟩, rfl⟩ nll
def Qcq (N : Nat) (k1 : Unit → Option Bool) (p1 : (List Int)) : Nat → Int → Option Bool
  | 0, _ => none
  | n4 + 1, y2 =>
    bif (decide (y2 < (p1.length : Int))) then
     (getI p1 y2).bind fun x6 =>
     (Qgr N x6 0 1000).bind fun x11 =>
     bif (!x11) then
      some false
     else
      Qcq N k1 p1 n4 (w64 (y2 + 1))
    else
     k1 ()
def Qer (N : Nat) (p0 : (List Int)) (p1 : (List Int)) : Option Bool :=
  Qbr (fun _ =>
    some ((p1.length : Int) == (p0.length : Int))) fun k1 : Unit → Option Bool =>
  Qcq N k1 p1 N 0
def Qpm (p0 : (List Int)) : AV := .dat 1 ((p0 : List Int).map Qab)
def Qnq (p1 : (List Int)) : AV := .dat 1 ((p1 : List Int).map Qab)
set_option maxRecDepth 100000 in
set_option maxHeartbeats 4000000 in
theorem Qgo (N : Nat) (p0 : (List Int)) (p1 : (List Int)) (r : Bool) (h : Qer N p0 p1 = some r) : Spec Try.prog 51 [(.dat 1 (p0.map Qab)), (.dat 1 (p1.map Qab))] [] (B r) [] := by
  refine Qae Try.func51 rfl 0 (nle rfl) (fun X φ0 w0 hφ0 => ?_)
  unfold Qer at h
  refine wx tbk [] trivial ?_
  obtain ⟨k1, hk_k1, h⟩ := jko h
  refine wjn (τ := Unit) (fun t => k1 t = some r) (fun _ => ⟨mk 23 [(0, (Qpm p0)), (1, (Qnq p1))], []⟩) (fun t h => ?_) ?_
  ·subst hk_k1
   refine wx tbk [(1, rp [(.tmp 18, (Qnq p1))] (I ((p1.length : Int)))), (3, rp [(.tmp 20, (Qpm p0))] (I ((p0.length : Int))))] ⟨alm (c := Qab) (l := p1) (aln rfl Try.underlying37 rfl), alm (c := Qab) (l := p0) (aln rfl Try.underlying37 rfl), trivial⟩ ?_
   refine Qag ?_
   obtain rfl := osi h
   exact fend ⟨[(B (((p1.length : Int) == (p0.length : Int))))], ⟨rot (by kernel_rfl), trivial⟩, rfl⟩ nll
  ·skip
   refine wx tbk [] trivial ?_
   refine Qad ?_
   refine wmr (mto (n := 23) (l' := [(0, (Qpm p0)), (1, (Qnq p1)), (5, I 0)]) (own' := []) [(0, (Qpm p0)), (1, (Qnq p1)), (5, I 0)] [] [] hφ0 (pc (.rn (.plain _ (nld Qaa _))) (pc (.rn (.plain _ (nld Qaa _))) (pc rwl pn))) qn) ?_
   refine Qbj (τ := Int) (fun n t => Qcq N k1 p1 n t = some r) (fun y2 => ⟨mk 23 [(0, (Qpm p0)), (1, (Qnq p1)), (5, I y2)], []⟩) (fun t h => by rw [Qcq] at h; cases h) (fun n4 ih y2 h => ?_) N (0) h
   rw [Qcq] at h
   skip
   refine wsq ?_
   refine wx tbk [(2, rp [(.tmp 7, (Qnq p1))] (I ((p1.length : Int))))] ⟨alm (c := Qab) (l := p1) (aln rfl Try.underlying37 rfl), trivial⟩ ?_
   rcases bft ((decide (y2 < (p1.length : Int)))) with hc5 | hc5
   ·replace h := Qaw hc5 h
    refine wft hc5 (by kernel_rfl) ?_
    refine Qak ?_
    refine thn ?_
    refine wsq ?_
    refine Qad ?_
    obtain ⟨x6, hg7, h⟩ := bno h
    obtain ⟨hi8, hj9⟩ := gsm hg7
    obtain ⟨x11, hf10, h⟩ := bno h
    refine wx tbk [(2, rp [(.tmp 12, (Qnq p1)), (.tmp 13, I y2)] (.dptr (Qab (x6)) 0)), (4, rp [fu 25, (.tmp 15, I x6), ci 0, ci 1000] (B x11))] ⟨aid rfl Try.underlying37 ti3 rfl rfl hi8 (mgt Qab hj9) rfl, apc (first := []) (cap := []) (vs := [I x6, I 0, I 1000]) rfl Qic (Qdx N x6 0 1000 _ hf10) rfl rfl (nlc nll (nlc nll (nlc nll nl0))) nll rfl, trivial⟩ ?_
    rcases bft ((!x11)) with hc12 | hc12
    ·replace h := Qaw hc12 h
     refine wft hc12 (by kernel_rfl) ?_
     refine wx tbk [] trivial ?_
     refine Qag ?_
     refine Qbz ?_
     refine Qay ?_
     refine Qay ?_
     refine Qbz ?_
     refine Qay ?_
     obtain rfl := osi h
     exact fend ⟨[B false], ⟨rot (by kernel_rfl), trivial⟩, rfl⟩ nll
    ·replace h := Qax hc12 h
     refine wfn hc12 (by kernel_rfl) ?_
     refine Qak ?_
     refine bln ?_
     refine thn ?_
     refine wx1 tbk [] trivial ?_
     refine thn ?_
     exact arm (mto (n := 23) [(0, (Qpm p0)), (1, (Qnq p1)), (5, (I (w64 (y2 + 1))))] [] [] hφ0 (pc (.rn (.plain _ (nld Qaa _))) (pc (.rn (.plain _ (nld Qaa _))) (pc rwl pn))) qn) (ih (w64 (y2 + 1)) h)
   ·replace h := Qax hc5 h
    refine wfn hc5 (by kernel_rfl) ?_
    refine Qa3 ?_
    refine Qam ?_
    refine Qam ?_
    refine Qa2 rfl ?_
    refine thn ?_
    exact ⟨(), h, (mto (n := 23) [(0, (Qpm p0)), (1, (Qnq p1))] [] [] hφ0 (pc (.rn (.plain _ (nld Qaa _))) (pc (.rn (.plain _ (nld Qaa _))) pn)) qn)⟩
def Qd3 (N : Nat) (p1 : (List GUnit)) (y6 : Int) (k12 : Int → Option Int) (y13 : Int) : Nat → Int → Int → Option Int
  | 0, _, _ => none
  | n19 + 1, y15, y16 =>
    (getI p1 y6).bind fun x20 =>
    bif (decide (y16 < (x20.Parts.length : Int))) then
     (getI x20.Parts y16).bind fun x25 =>
     (some (if (w64 (x25.Gain - y13)) > 0 then w64 (x25.Gain - y13) else 0)).bind fun x29 =>
     (some (w64 (y15 + (w64 (x25.Width * x29))))).bind fun x31 =>
     Qd3 N p1 y6 k12 y13 n19 x31 (w64 (y16 + 1))
    else
     k12 (y15)
def Qd2 (N : Nat) (p1 : (List GUnit)) (p2 : (List Int)) (y6 : Int) (k14 : Int → Option Int) : Nat → Int → Int → Option Int
  | 0, _, _ => none
  | n37 + 1, y33, y34 =>
    (getI p1 y6).bind fun x38 =>
    bif (decide (y34 ≤ x38.Inlet)) then
     (getI p2 y34).bind fun x43 =>
     Qd2 N p1 p2 y6 k14 n37 (w64 (y33 + x43)) (w64 (y34 + 1))
    else
     k14 (y33)
def Qc6 (N : Nat) (p1 : (List GUnit)) (p2 : (List Int)) (k4 : Int → Option Int) : Nat → Int → Int → Option Int
  | 0, _, _ => none
  | n9 + 1, y5, y6 =>
    bif (decide (y6 < (p1.length : Int))) then
     Qbr (fun y11 =>
       Qc6 N p1 p2 k4 n9 y11 (w64 (y6 + 1))) fun k12 : Int → Option Int =>
     Qbr (fun y13 =>
       Qd3 N p1 y6 k12 y13 N y5 0) fun k14 : Int → Option Int =>
     Qd2 N p1 p2 y6 k14 N 0 0
    else
     k4 (y5)
def Qd1 (N : Nat) (p0 : (List Int)) (k2 : Int → Option Int) (p2 : (List Int)) : Nat → Int → Int → Option Int
  | 0, _, _ => none
  | n51 + 1, y47, y48 =>
    bif (decide (y48 < (p0.length : Int))) then
     (getI p2 y48).bind fun x53 =>
     (Qgp N p0 y48).bind fun x58 =>
     (some (w64 (y47 + (w64 (x53 * x58))))).bind fun x59 =>
     Qd1 N p0 k2 p2 n51 x59 (w64 (y48 + 1))
    else
     k2 (y47)
def Qhj (N : Nat) (p0 : (List Int)) (p1 : (List GUnit)) (p2 : (List Int)) : Option Int :=
  Qbr (fun y1 =>
    Qbr (fun y3 =>
      some y3) fun k4 : Int → Option Int =>
    Qc6 N p1 p2 k4 N y1 0) fun k2 : Int → Option Int =>
  Qd1 N p0 k2 p2 N 0 0
def Qfw (p1 : (List GUnit)) : AV := .dat 2 ((p1 : List GUnit).map Qan)
def Qgh (p2 : (List Int)) : AV := .dat 1 ((p2 : List Int).map Qab)
def Qv2 (x20 : GUnit) : AV := .dat 2 ((x20.Parts : List GPart).map Qau)
def Qpl (p0 : (List Int)) : AV := .dat 1 ((p0 : List Int).map Qab)
set_option maxRecDepth 100000 in
set_option maxHeartbeats 4000000 in
theorem Qjr (N : Nat) (p0 : (List Int)) (p1 : (List GUnit)) (p2 : (List Int)) (r : Int) (h : Qhj N p0 p1 p2 = some r) : Spec Try.prog 52 [(.dat 1 (p0.map Qab)), (.dat 2 (p1.map Qan)), (.dat 1 (p2.map Qab))] [] (I r) [] := by
  refine Qae Try.func52 rfl 0 (nle rfl) (fun X φ0 w0 hφ0 => ?_)
  unfold Qhj at h
  refine wx tbk [] trivial ?_
  refine wx tbk [] trivial ?_
  obtain ⟨k2, hk_k2, h⟩ := jko h
  refine wjn (τ := Int) (fun t => k2 t = some r) (fun y1 => ⟨mk 85 [(1, (Qfw p1)), (2, (Qgh p2)), (7, I y1)], []⟩) (fun y1 h => ?_) ?_
  ·subst hk_k2
   obtain ⟨k4, hk_k4, h⟩ := jko h
   refine wjn (τ := Int) (fun t => k4 t = some r) (fun y3 => ⟨mk 85 [(7, I y3)], []⟩) (fun y3 h => ?_) ?_
   ·subst hk_k4
    refine wx tbk [] trivial ?_
    refine Qag ?_
    obtain rfl := osi h
    exact fend ⟨[I y3], ⟨rot (by kernel_rfl), trivial⟩, rfl⟩ nll
   ·skip
    refine wx tbk [] trivial ?_
    refine Qad ?_
    refine wmr (mto (n := 85) (l' := [(1, (Qfw p1)), (2, (Qgh p2)), (7, I y1), (9, I 0)]) (own' := []) [(1, (Qfw p1)), (2, (Qgh p2)), (7, I y1), (9, I 0)] [] [] hφ0 (pc (.rn (.plain _ (nld Qac _))) (pc (.rn (.plain _ (nld Qaa _))) (pc rwl (pc rwl pn)))) qn) ?_
    refine Qbj (τ := Int × Int) (fun n t => Qc6 N p1 p2 k4 n t.1 t.2 = some r) (fun ⟨y5, y6⟩ => ⟨mk 85 [(1, (Qfw p1)), (2, (Qgh p2)), (7, I y5), (9, I y6)], []⟩) (fun t h => by rw [Qc6] at h; cases h) (fun n9 ih t h => ?_) N (y1, 0) h
    obtain ⟨y5, y6⟩ := t
    rw [Qc6] at h
    skip
    refine wsq ?_
    refine wx tbk [(2, rp [(.tmp 30, (Qfw p1))] (I ((p1.length : Int))))] ⟨alm (c := Qan) (l := p1) (aln rfl Try.underlying85 rfl), trivial⟩ ?_
    rcases bft ((decide (y6 < (p1.length : Int)))) with hc10 | hc10
    ·replace h := Qaw hc10 h
     refine wft hc10 (by kernel_rfl) ?_
     refine Qak ?_
     refine thn ?_
     obtain ⟨k12, hk_k12, h⟩ := jko h
     refine wjn (τ := Int) (fun t => k12 t = some r) (fun y11 => ⟨mk 85 [(1, (Qfw p1)), (2, (Qgh p2)), (7, I y11), (9, I y6)], []⟩) (fun y11 h => ?_) ?_
     ·subst hk_k12
      refine wx1 tbk [] trivial ?_
      refine thn ?_
      exact arm (mto (n := 85) [(1, (Qfw p1)), (2, (Qgh p2)), (7, I y11), (9, (I (w64 (y6 + 1))))] [] [] hφ0 (pc (.rn (.plain _ (nld Qac _))) (pc (.rn (.plain _ (nld Qaa _))) (pc rwl (pc rwl pn)))) qn) (ih (y11, w64 (y6 + 1)) h)
     ·skip
      refine Qad ?_
      refine wx tbk [] trivial ?_
      obtain ⟨k14, hk_k14, h⟩ := jko h
      refine wjn (τ := Int) (fun t => k14 t = some r) (fun y13 => ⟨mk 85 [(1, (Qfw p1)), (2, (Qgh p2)), (7, I y5), (9, I y6), (10, I y13)], []⟩) (fun y13 h => ?_) ?_
      ·subst hk_k14
       refine wx tbk [] trivial ?_
       refine Qad ?_
       refine wmr (mto (n := 85) (l' := [(1, (Qfw p1)), (2, (Qgh p2)), (7, I y5), (9, I y6), (10, I y13), (12, I 0)]) (own' := []) [(1, (Qfw p1)), (2, (Qgh p2)), (7, I y5), (9, I y6), (10, I y13), (12, I 0)] [] [] hφ0 (pc (.rn (.plain _ (nld Qac _))) (pc (.rn (.plain _ (nld Qaa _))) (pc rwl (pc rwl (pc rwl (pc rwl pn)))))) qn) ?_
       refine Qbj (τ := Int × Int) (fun n t => Qd3 N p1 y6 k12 y13 n t.1 t.2 = some r) (fun ⟨y15, y16⟩ => ⟨mk 85 [(1, (Qfw p1)), (2, (Qgh p2)), (7, I y15), (9, I y6), (10, I y13), (12, I y16)], []⟩) (fun t h => by rw [Qd3] at h; cases h) (fun n19 ih t h => ?_) N (y5, 0) h
       obtain ⟨y15, y16⟩ := t
       rw [Qd3] at h
       skip
       refine wsq ?_
       obtain ⟨x20, hg21, h⟩ := bno h
       obtain ⟨hi22, hj23⟩ := gsm hg21
       refine wx tbk [(3, rp [(.tmp 51, (Qfw p1)), (.tmp 52, I y6)] (.dptr (Qan (x20)) 0)), (6, rp [(.tmp 55, (Qv2 x20))] (I ((x20.Parts.length : Int))))] ⟨aid rfl Try.underlying85 ti24 rfl rfl hi22 (mgt Qan hj23) rfl, alm (c := Qau) (l := x20.Parts) (aln rfl Try.underlying22 rfl), trivial⟩ ?_
       rcases bft ((decide (y16 < (x20.Parts.length : Int)))) with hc24 | hc24
       ·replace h := Qaw hc24 h
        refine wft hc24 (by kernel_rfl) ?_
        refine Qak ?_
        refine thn ?_
        refine wsq ?_
        refine Qad ?_
        obtain ⟨x25, hg26, h⟩ := bno h
        obtain ⟨hi27, hj28⟩ := gsm hg26
        obtain ⟨x29, hl30, h⟩ := bno h
        obtain ⟨x31, hl32, h⟩ := bno h
        refine wy1 tbk [(3, rp [(.tmp 61, (Qfw p1)), (.tmp 62, I y6)] (.dptr (Qan (x20)) 0)), (7, rp [(.tmp 65, (Qv2 x20)), (.tmp 66, I y16)] (.dptr (Qau (x25)) 0)), (12, rp [(.tmp 70, (Qfw p1)), (.tmp 71, I y6)] (.dptr (Qan (x20)) 0)), (16, rp [(.tmp 74, (Qv2 x20)), (.tmp 75, I y16)] (.dptr (Qau (x25)) 0)), (21, rp [ci 0, (.tmp 80, (I (w64 (x25.Gain - y13))))] (I x29)), (24, rp [(.tmp 83, (I (w64 (y15 + (w64 (x25.Width * x29))))))] (I x31))] ⟨aid rfl Try.underlying85 ti24 rfl rfl hi22 (mgt Qan hj23) rfl, aid rfl Try.underlying22 Qo4 rfl rfl hi27 (mgt Qau hj28) rfl, aid rfl Try.underlying85 ti24 rfl rfl hi22 (mgt Qan hj23) rfl, aid rfl Try.underlying22 Qo4 rfl rfl hi27 (mgt Qau hj28) rfl, Qed hl30 (Qmi rfl), Qed hl32 (aas rfl), trivial⟩ ?_
        refine bln ?_
        refine thn ?_
        refine wx1 tbk [] trivial ?_
        refine thn ?_
        exact arm (mto (n := 85) [(1, (Qfw p1)), (2, (Qgh p2)), (7, I x31), (9, I y6), (10, I y13), (12, (I (w64 (y16 + 1))))] [] [] hφ0 (pc (.rn (.plain _ (nld Qac _))) (pc (.rn (.plain _ (nld Qaa _))) (pc rwl (pc rwl (pc rwl (pc rwl pn)))))) qn) (ih (x31, w64 (y16 + 1)) h)
       ·replace h := Qax hc24 h
        refine wfn hc24 (by kernel_rfl) ?_
        refine Qa3 ?_
        refine Qam ?_
        refine Qam ?_
        refine Qa2 rfl ?_
        refine bln ?_
        refine thn ?_
        exact ⟨(y15), h, (mto (n := 85) [(1, (Qfw p1)), (2, (Qgh p2)), (7, I y15), (9, I y6)] [] [] hφ0 (pc (.rn (.plain _ (nld Qac _))) (pc (.rn (.plain _ (nld Qaa _))) (pc rwl (pc rwl pn)))) qn)⟩
      ·skip
       refine wx tbk [] trivial ?_
       refine Qad ?_
       refine wmr (mto (n := 85) (l' := [(1, (Qfw p1)), (2, (Qgh p2)), (7, I y5), (9, I y6), (10, I 0), (11, I 0)]) (own' := []) [(1, (Qfw p1)), (2, (Qgh p2)), (7, I y5), (9, I y6), (10, I 0), (11, I 0)] [] [] hφ0 (pc (.rn (.plain _ (nld Qac _))) (pc (.rn (.plain _ (nld Qaa _))) (pc rwl (pc rwl (pc rwl (pc rwl pn)))))) qn) ?_
       refine Qbj (τ := Int × Int) (fun n t => Qd2 N p1 p2 y6 k14 n t.1 t.2 = some r) (fun ⟨y33, y34⟩ => ⟨mk 85 [(1, (Qfw p1)), (2, (Qgh p2)), (7, I y5), (9, I y6), (10, I y33), (11, I y34)], []⟩) (fun t h => by rw [Qd2] at h; cases h) (fun n37 ih t h => ?_) N (0, 0) h
       obtain ⟨y33, y34⟩ := t
       rw [Qd2] at h
       skip
       refine wsq ?_
       obtain ⟨x38, hg39, h⟩ := bno h
       obtain ⟨hi40, hj41⟩ := gsm hg39
       refine wx tbk [(3, rp [(.tmp 36, (Qfw p1)), (.tmp 37, I y6)] (.dptr (Qan (x38)) 0))] ⟨aid rfl Try.underlying85 ti24 rfl rfl hi40 (mgt Qan hj41) rfl, trivial⟩ ?_
       rcases bft ((decide (y34 ≤ x38.Inlet))) with hc42 | hc42
       ·replace h := Qaw hc42 h
        refine wft hc42 (by kernel_rfl) ?_
        refine Qak ?_
        refine thn ?_
        refine wsq ?_
        refine Qad ?_
        obtain ⟨x43, hg44, h⟩ := bno h
        obtain ⟨hi45, hj46⟩ := gsm hg44
        refine wx1 tbk [(3, rp [(.tmp 45, (Qgh p2)), (.tmp 46, I y34)] (.dptr (Qab (x43)) 0))] ⟨aid rfl Try.underlying37 ti3 rfl rfl hi45 (mgt Qab hj46) rfl, trivial⟩ ?_
        refine bln ?_
        refine thn ?_
        refine wx1 tbk [] trivial ?_
        refine thn ?_
        exact arm (mto (n := 85) [(1, (Qfw p1)), (2, (Qgh p2)), (7, I y5), (9, I y6), (10, (I (w64 (y33 + x43)))), (11, (I (w64 (y34 + 1))))] [] [] hφ0 (pc (.rn (.plain _ (nld Qac _))) (pc (.rn (.plain _ (nld Qaa _))) (pc rwl (pc rwl (pc rwl (pc rwl pn)))))) qn) (ih (w64 (y33 + x43), w64 (y34 + 1)) h)
       ·replace h := Qax hc42 h
        refine wfn hc42 (by kernel_rfl) ?_
        refine Qa3 ?_
        refine Qam ?_
        refine Qam ?_
        refine Qa2 rfl ?_
        refine thn ?_
        exact ⟨(y33), h, (mto (n := 85) [(1, (Qfw p1)), (2, (Qgh p2)), (7, I y5), (9, I y6), (10, I y33)] [] [] hφ0 (pc (.rn (.plain _ (nld Qac _))) (pc (.rn (.plain _ (nld Qaa _))) (pc rwl (pc rwl (pc rwl pn))))) qn)⟩
    ·replace h := Qax hc10 h
     refine wfn hc10 (by kernel_rfl) ?_
     refine Qa3 ?_
     refine Qam ?_
     refine Qam ?_
     refine Qa2 rfl ?_
     refine thn ?_
     exact ⟨(y5), h, (mto (n := 85) [(7, I y5)] [] [] hφ0 (pc rwl pn) qn)⟩
  ·skip
   refine wx tbk [] trivial ?_
   refine Qad ?_
   refine wmr (mto (n := 85) (l' := [(0, (Qpl p0)), (1, (Qfw p1)), (2, (Qgh p2)), (7, I 0), (8, I 0)]) (own' := []) [(0, (Qpl p0)), (1, (Qfw p1)), (2, (Qgh p2)), (7, I 0), (8, I 0)] [] [] hφ0 (pc (.rn (.plain _ (nld Qaa _))) (pc (.rn (.plain _ (nld Qac _))) (pc (.rn (.plain _ (nld Qaa _))) (pc rwl (pc rwl pn))))) qn) ?_
   refine Qbj (τ := Int × Int) (fun n t => Qd1 N p0 k2 p2 n t.1 t.2 = some r) (fun ⟨y47, y48⟩ => ⟨mk 85 [(0, (Qpl p0)), (1, (Qfw p1)), (2, (Qgh p2)), (7, I y47), (8, I y48)], []⟩) (fun t h => by rw [Qd1] at h; cases h) (fun n51 ih t h => ?_) N (0, 0) h
   obtain ⟨y47, y48⟩ := t
   rw [Qd1] at h
   skip
   refine wsq ?_
   refine wx tbk [(2, rp [(.tmp 14, (Qpl p0))] (I ((p0.length : Int))))] ⟨alm (c := Qab) (l := p0) (aln rfl Try.underlying37 rfl), trivial⟩ ?_
   rcases bft ((decide (y48 < (p0.length : Int)))) with hc52 | hc52
   ·replace h := Qaw hc52 h
    refine wft hc52 (by kernel_rfl) ?_
    refine Qak ?_
    refine thn ?_
    refine wsq ?_
    refine Qad ?_
    obtain ⟨x53, hg54, h⟩ := bno h
    obtain ⟨hi55, hj56⟩ := gsm hg54
    obtain ⟨x58, hf57, h⟩ := bno h
    obtain ⟨x59, hl60, h⟩ := bno h
    refine wy1 tbk [(3, rp [(.tmp 20, (Qgh p2)), (.tmp 21, I y48)] (.dptr (Qab (x53)) 0)), (7, rp [fu 86, (.tmp 24, (Qpl p0)), (.tmp 25, I y48)] (I x58)), (10, rp [(.tmp 28, (I (w64 (y47 + (w64 (x53 * x58))))))] (I x59))] ⟨aid rfl Try.underlying37 ti3 rfl rfl hi55 (mgt Qab hj56) rfl, apc (first := []) (cap := []) (vs := [(Qpl p0), I y48]) rfl Qwj (Qkb N p0 y48 _ hf57) rfl rfl (nlc (nld Qaa _) (nlc nll nl0)) nll rfl, Qed hl60 (aas rfl), trivial⟩ ?_
    refine bln ?_
    refine thn ?_
    refine wx1 tbk [] trivial ?_
    refine thn ?_
    exact arm (mto (n := 85) [(0, (Qpl p0)), (1, (Qfw p1)), (2, (Qgh p2)), (7, I x59), (8, (I (w64 (y48 + 1))))] [] [] hφ0 (pc (.rn (.plain _ (nld Qaa _))) (pc (.rn (.plain _ (nld Qac _))) (pc (.rn (.plain _ (nld Qaa _))) (pc rwl (pc rwl pn))))) qn) (ih (x59, w64 (y48 + 1)) h)
   ·replace h := Qax hc52 h
    refine wfn hc52 (by kernel_rfl) ?_
    refine Qa3 ?_
    refine Qam ?_
    refine Qam ?_
    refine Qa2 rfl ?_
    refine thn ?_
    exact ⟨(y47), h, (mto (n := 85) [(1, (Qfw p1)), (2, (Qgh p2)), (7, I y47)] [] [] hφ0 (pc (.rn (.plain _ (nld Qac _))) (pc (.rn (.plain _ (nld Qaa _))) (pc rwl pn))) qn)⟩
def Qff (N : Nat) (p0 : Int) : Option Bool :=
  (Qbl N p0 0 1000).bind fun x2 =>
  some x2
set_option maxRecDepth 100000 in
set_option maxHeartbeats 4000000 in
theorem Qkd (N : Nat) (p0 : Int) (r : Bool) (h : Qff N p0 = some r) : Spec Try.prog 107 [(I p0)] [] (B r) [] := by
  refine Qae Try.func107 rfl 0 (nle rfl) (fun X φ0 w0 hφ0 => ?_)
  unfold Qff at h
  refine wx tbk [] trivial ?_
  obtain ⟨x2, hf1, h⟩ := bno h
  refine wx tbk [(1, rp [fu 65, (.tmp 3, I p0), ci 0, ci 1000] (B x2))] ⟨apc (first := []) (cap := []) (vs := [I p0, I 0, I 1000]) rfl Qb0 (Qah N p0 0 1000 _ hf1) rfl rfl (nlc nll (nlc nll (nlc nll nl0))) nll rfl, trivial⟩ ?_
  refine Qag ?_
  obtain rfl := osi h
  exact fend ⟨[B x2], ⟨rot (by kernel_rfl), trivial⟩, rfl⟩ nll
def Qfk (N : Nat) (p0 : Int) : Option Bool :=
  (Qff N p0).bind fun x3 =>
  some (!x3)
def Qxf : Slot := .own 1 [[(.fn (.func 107) [] [])]]
set_option maxRecDepth 100000 in
set_option maxHeartbeats 4000000 in
theorem Ql3 (N : Nat) (p0 : Int) (r : Bool) (h : Qfk N p0 = some r) : Spec Try.prog 110 [(I (p0)), (.ref 0 1 (0) 0)] [Qxf] (B (r)) [Qxf] := by
  refine Qae Try.func110 rfl 1 (nle rfl) (fun X φ0 w0 hφ0 => ?_)
  unfold Qfk at h
  refine Qbw ?_
  refine wx tbk [] trivial ?_
  obtain ⟨x3, hf2, h⟩ := bno h
  refine wx tbk [(2, rp [(.tmp 4, (.fn (.func 107) [] [])), (.tmp 5, I p0)] (B x3))] ⟨apc (first := []) (cap := []) (vs := [I p0]) rfl enter107 (Qkd N p0 _ hf2) rfl rfl (nlc nll nl0) nll rfl, trivial⟩ ?_
  refine wmr (mto (n := 8) (l' := [(3, (B ((!x3))))]) (own' := [Qxf]) [(3, (B ((!x3))))] [0] [Qxf] hφ0 (pc rwl pn) (qc (spb (lc (.rn (Qat rn0 rn0)) ln)) qn)) ?_
  refine Qag ?_
  obtain rfl := osi h
  exact ⟨_, Mor.rfl, Qcf (vs := [(B ((!x3)))]) ⟨rot (by kernel_rfl), trivial⟩ rfl (NLt.of0 nll) (by kernel_rfl) (Qaj (Qa0 (nlc (NLt.of0 (NLt.fn _ _ _ nl0 nl0)) nl0)) Qbo)⟩
def Qbp (N : Nat) (p0 : (List Int)) (k2 : Unit → Option Int) : Nat → Int → Option Int
  | 0, _ => none
  | n5 + 1, y3 =>
    bif (decide (y3 < (p0.length : Int))) then
     (getI p0 y3).bind fun x7 =>
     (Qfk N x7).bind fun x12 =>
     bif x12 then
      some y3
     else
      Qbp N p0 k2 n5 (w64 (y3 + 1))
    else
     k2 ()
def Qdy (N : Nat) (p0 : (List Int)) : Option Int :=
  Qbr (fun _ =>
    some (-1)) fun k2 : Unit → Option Int =>
  Qbp N p0 k2 N 0
def Qpk (p0 : (List Int)) : AV := .dat 1 ((p0 : List Int).map Qab)
def Qq0 : AV := .fn (.func 110) [] [(.ref 0 1 (0) 0)]
def Qi7 : Slot := .own 1 [[(.fn (.func 107) [] [])]]
set_option maxRecDepth 100000 in
set_option maxHeartbeats 4000000 in
theorem Qim (N : Nat) (p0 : (List Int)) (r : Int) (h : Qdy N p0 = some r) : Spec Try.prog 71 [(Qpk p0), Qq0] [Qi7] (I (r)) [Qi7] := by
  refine Qae Try.func71 rfl 1 (nle rfl) (fun X φ0 w0 hφ0 => ?_)
  unfold Qdy at h
  refine Qbw ?_
  refine wx tbk [] trivial ?_
  obtain ⟨k2, hk_k2, h⟩ := jko h
  refine wjn (τ := Unit) (fun t => k2 t = some r) (fun _ => ⟨mk 19 [], [Qi7]⟩) (fun t h => ?_) ?_
  ·subst hk_k2
   refine wx tbk [] trivial ?_
   refine wmr (mto (n := 19) (l' := [(4, (I ((-1))))]) (own' := [Qi7]) [(4, (I ((-1))))] [0] [Qi7] hφ0 (pc rwl pn) (qc (spb (lc (.rn (Qat rn0 rn0)) ln)) qn)) ?_
   refine Qag ?_
   obtain rfl := osi h
   exact ⟨_, Mor.rfl, Qcf (vs := [(I ((-1)))]) ⟨rot (by kernel_rfl), trivial⟩ rfl (NLt.of0 nll) (by kernel_rfl) (Qaj (Qa0 (nlc (NLt.of0 (NLt.fn _ _ _ nl0 nl0)) nl0)) Qbo)⟩
  ·skip
   refine wx tbk [(1, rp [(.tmp 6, (Qpk p0))] (I ((p0.length : Int))))] ⟨alm (c := Qab) (l := p0) (aln rfl Try.underlying37 rfl), trivial⟩ ?_
   refine Qad ?_
   refine wmr (mto (n := 19) (l' := [(0, (Qpk p0)), (1, Qq0), (7, (I ((p0.length : Int)))), (8, I 0)]) (own' := [Qi7]) [(0, (Qpk p0)), (1, Qq0), (7, (I ((p0.length : Int)))), (8, I 0)] [0] [Qi7] hφ0 (pc (.rn (.plain _ (nld Qaa _))) (pc (.rn (Qat rn0 (rnc (rqr rfl) rn0))) (pc rwl (pc rwl pn)))) (qc (spb (lc (.rn (Qat rn0 rn0)) ln)) qn)) ?_
   refine Qbj (τ := Int) (fun n t => Qbp N p0 k2 n t = some r) (fun y3 => ⟨mk 19 [(0, (Qpk p0)), (1, Qq0), (7, (I ((p0.length : Int)))), (8, I y3)], [Qi7]⟩) (fun t h => by rw [Qbp] at h; cases h) (fun n5 ih y3 h => ?_) N (0) h
   rw [Qbp] at h
   skip
   refine wx tbk [] trivial ?_
   refine wsq ?_
   rcases bft ((decide (y3 < (p0.length : Int)))) with hc6 | hc6
   ·replace h := Qaw hc6 h
    refine wft hc6 (by kernel_rfl) ?_
    refine Qak ?_
    refine thn ?_
    refine wsq ?_
    refine Qad ?_
    refine wx tbk [] trivial ?_
    obtain ⟨x7, hg8, h⟩ := bno h
    obtain ⟨hi9, hj10⟩ := gsm hg8
    obtain ⟨x12, hf11, h⟩ := bno h
    refine wx tbk [(3, rp [(.tmp 12, (Qpk p0)), (.tmp 13, I y3)] (.dptr (Qab (x7)) 0)), (5, ⟨[(.tmp 11, Qq0), (.tmp 15, I x7)], [(0, Qi7)], B x12, [(0, Qi7)], false⟩)] ⟨aid rfl Try.underlying37 ti3 rfl rfl hi9 (mgt Qab hj10) rfl, Qaq (first := []) (cap := [.ref 0 1 0 0]) (vs := [I x7]) (σr := [Qi7]) (σr' := [Qi7]) (res' := (B x12)) [0] rfl Qs1 (Ql3 N x7 _ hf11) rfl (Qb5 (rnc (.plain _ nll) (rnc (Qbh rfl) rn0))) (slc (Qal (rnc (.plain _ (NLt.fn _ _ _ nl0 nl0)) rn0)) Qap) (slc (Qal (rnc (.plain _ (NLt.fn _ _ _ nl0 nl0)) rn0)) Qap) (.plain _ nll) rfl rfl rfl, trivial⟩ ?_
    rcases bft (x12) with hc13 | hc13
    ·replace h := Qaw hc13 h
     refine wft hc13 (by kernel_rfl) ?_
     refine wx tbk [] trivial ?_
     refine wmr (mto (n := 19) (l' := [(4, I y3)]) (own' := [Qi7]) [(4, I y3)] [0] [Qi7] hφ0 (pc rwl pn) (qc (spb (lc (.rn (Qat rn0 rn0)) ln)) qn)) ?_
     refine Qag ?_
     refine Qbz ?_
     refine Qay ?_
     refine Qay ?_
     refine Qbz ?_
     refine Qay ?_
     obtain rfl := osi h
     exact ⟨_, Mor.rfl, Qcf (vs := [I y3]) ⟨rot (by kernel_rfl), trivial⟩ rfl (NLt.of0 nll) (by kernel_rfl) (Qaj (Qa0 (nlc (NLt.of0 (NLt.fn _ _ _ nl0 nl0)) nl0)) Qbo)⟩
    ·replace h := Qax hc13 h
     refine wfn hc13 (by kernel_rfl) ?_
     refine Qak ?_
     refine bln ?_
     refine thn ?_
     refine wx1 tbk [] trivial ?_
     refine thn ?_
     exact arm (mto (n := 19) [(0, (Qpk p0)), (1, Qq0), (7, (I ((p0.length : Int)))), (8, (I (w64 (y3 + 1))))] [0] [Qi7] hφ0 (pc (.rn (.plain _ (nld Qaa _))) (pc (.rn (Qat rn0 (rnc (rqr rfl) rn0))) (pc rwl (pc rwl pn)))) (qc (spb (lc (.rn (Qat rn0 rn0)) ln)) qn)) (ih (w64 (y3 + 1)) h)
   ·replace h := Qax hc6 h
    refine wfn hc6 (by kernel_rfl) ?_
    refine Qa3 ?_
    refine Qam ?_
    refine Qam ?_
    refine Qa2 rfl ?_
    refine thn ?_
    exact ⟨(), h, (mto (n := 19) [] [0] [Qi7] hφ0 pn (qc (spb (lc (.rn (Qat rn0 rn0)) ln)) qn))⟩
def Qdj (N : Nat) (p0 : (List Int)) : Option Bool :=
  (Qdy N p0).bind fun x3 =>
  some (decide (x3 ≥ 0))
def z117_0 (p0 : (List Int)) : AV := .dat 1 ((p0 : List Int).map Qab)
def z117_1 : AV := .fn (.func 110) [] [(.ref 0 1 (0) 0)]
def Qou : Slot := .own 1 [[(.fn (.func 107) [] [])]]
set_option maxRecDepth 100000 in
set_option maxHeartbeats 4000000 in
theorem Qht (N : Nat) (p0 : (List Int)) (r : Bool) (h : Qdj N p0 = some r) : Spec Try.prog 109 [(z117_0 p0), z117_1] [Qou] (B (r)) [Qou] := by
  refine Qae Try.func109 rfl 1 (nle rfl) (fun X φ0 w0 hφ0 => ?_)
  unfold Qdj at h
  refine Qbw ?_
  refine wx tbk [] trivial ?_
  obtain ⟨x3, hf2, h⟩ := bno h
  refine wx tbk [(2, ⟨[fu 71, (.tmp 5, (z117_0 p0)), (.tmp 6, z117_1)], [(0, Qou)], I x3, [(0, Qou)], false⟩)] ⟨Qaq (first := []) (cap := []) (vs := [(z117_0 p0), z117_1]) (σr := [Qou]) (σr' := [Qou]) (res' := (I x3)) [0] rfl Qsy (Qim N p0 _ hf2) rfl (Qb5 (rnc (.plain _ (nld Qaa _)) (rnc (Qat rn0 (rnc (Qbh rfl) rn0)) rn0))) (slc (Qal (rnc (.plain _ (NLt.fn _ _ _ nl0 nl0)) rn0)) Qap) (slc (Qal (rnc (.plain _ (NLt.fn _ _ _ nl0 nl0)) rn0)) Qap) (.plain _ nll) rfl rfl rfl, trivial⟩ ?_
  refine wmr (mto (n := 9) (l' := [(4, (B ((decide (x3 ≥ 0)))))]) (own' := [Qou]) [(4, (B ((decide (x3 ≥ 0)))))] [0] [Qou] hφ0 (pc rwl pn) (qc (spb (lc (.rn (Qat rn0 rn0)) ln)) qn)) ?_
  refine Qag ?_
  obtain rfl := osi h
  exact ⟨_, Mor.rfl, Qcf (vs := [(B ((decide (x3 ≥ 0))))]) ⟨rot (by kernel_rfl), trivial⟩ rfl (NLt.of0 nll) (by kernel_rfl) (Qaj (Qa0 (nlc (NLt.of0 (NLt.fn _ _ _ nl0 nl0)) nl0)) Qbo)⟩
def Qha (N : Nat) (p0 : (List Int)) : Option Bool :=
  (Qdj N p0).bind fun x2 =>
  some (!x2)
def z116_1 (p0 : (List Int)) : AV := .dat 1 ((p0 : List Int).map Qab)
def z116_2 : AV := .fn (.func 110) [] [(.ref 0 1 (0) 0)]
def Qxg : Slot := .own 1 [[(.fn (.func 107) [] [])]]
set_option maxRecDepth 100000 in
set_option maxHeartbeats 4000000 in
theorem Qng (N : Nat) (p0 : (List Int)) (r : Bool) (h : Qha N p0 = some r) : Spec Try.prog 89 [(z116_1 p0), (.fn (.func 107) [] [])] [] (B (r)) [] := by
  refine Qae Try.func89 rfl 0 (nle rfl) (fun X φ0 w0 hφ0 => ?_)
  unfold Qha at h
  refine wx tbk [] trivial ?_
  obtain ⟨x2, hf1, h⟩ := bno h
  refine wx tbk [(1, rp [(.tmp 3, .ref 0 1 0 0)] z116_2), (2, ⟨[fu 109, (.tmp 5, (z116_1 p0)), (.tmp 6, z116_2)], [(0, Qxg)], B x2, [(0, Qxg)], false⟩)] ⟨Qes (fs := []) (cs := [.ref 0 1 0 0]) rfl rfl rfl rfl, Qaq (first := []) (cap := []) (vs := [(z116_1 p0), z116_2]) (σr := [Qxg]) (σr' := [Qxg]) (res' := (B x2)) [0] rfl Qs2 (Qht N p0 _ hf1) rfl (Qb5 (rnc (.plain _ (nld Qaa _)) (rnc (Qat rn0 (rnc (Qbh rfl) rn0)) rn0))) (slc (Qal (rnc (.plain _ (NLt.fn _ _ _ nl0 nl0)) rn0)) Qap) (slc (Qal (rnc (.plain _ (NLt.fn _ _ _ nl0 nl0)) rn0)) Qap) (.plain _ nll) rfl rfl rfl, trivial⟩ ?_
  refine Qag ?_
  obtain rfl := osi h
  exact fend ⟨[(B ((!x2)))], ⟨rot (by kernel_rfl), trivial⟩, rfl⟩ nll
def Qew (N : Nat) (p0 : GShared) (p1 : (List Int)) : Option Bool :=
  bif ((p1.length : Int) == (p0.heads.length : Int)) then
   (Qha N p1).bind fun x3 =>
   some x3
  else
   some false
def Qxh (p1 : (List Int)) : AV := .dat 1 ((p1 : List Int).map Qab)
def z115_0 (p0 : GShared) : AV := .dat 1 ((p0.heads : List Int).map Qab)
set_option maxRecDepth 100000 in
set_option maxHeartbeats 4000000 in
theorem Qk2 (N : Nat) (p0 : GShared) (p1 : (List Int)) (r : Bool) (h : Qew N p0 p1 = some r) : Spec Try.prog 83 [(.agg (Qmh p0)), (.dat 1 (p1.map Qab))] [] (B r) [] := by
  refine Qae Try.func83 rfl 0 (nle rfl) (fun X φ0 w0 hφ0 => ?_)
  unfold Qew at h
  refine wx tbk [] trivial ?_
  rcases bft (((p1.length : Int) == (p0.heads.length : Int))) with hb1 | hb1
  ·replace h := Qaw hb1 h
   obtain ⟨x3, hf2, h⟩ := bno h
   refine wx tbk [(1, rp [(.tmp 5, (Qxh p1))] (I ((p1.length : Int)))), (4, rp [(.tmp 8, (z115_0 p0))] (I ((p0.heads.length : Int)))), (6, rp [(.tmp 10, (B (((p1.length : Int) == (p0.heads.length : Int)))))] (B true)), (8, rp [(.tmp 11, B true), fu 89, (.tmp 12, (Qxh p1)), fu 107] (B x3))] ⟨alm (c := Qab) (l := p1) (aln rfl Try.underlying37 rfl), alm (c := Qab) (l := p0.heads) (aln rfl Try.underlying37 rfl), asb hb1 (amv rfl), ag_ (Qaq (first := []) (cap := []) (vs := [(Qxh p1), (.fn (.func 107) [] [])]) (σr := []) (σr' := []) (res' := (B x3)) [] rfl Qkh (Qng N p1 _ hf2) rfl (Qb5 (rnc (.plain _ (nld Qaa _)) (rnc (.plain _ (NLt.fn _ _ _ nl0 nl0)) rn0))) Qap Qap (.plain _ nll) rfl rfl rfl), trivial⟩ ?_
   refine Qag ?_
   obtain rfl := osi h
   exact fend ⟨[B x3], ⟨rot (by kernel_rfl), trivial⟩, rfl⟩ nll
  ·replace h := Qax hb1 h
   refine wx tbk [(1, rp [(.tmp 5, (Qxh p1))] (I ((p1.length : Int)))), (4, rp [(.tmp 8, (z115_0 p0))] (I ((p0.heads.length : Int)))), (6, rp [(.tmp 10, (B (((p1.length : Int) == (p0.heads.length : Int)))))] (B false))] ⟨alm (c := Qab) (l := p1) (aln rfl Try.underlying37 rfl), alm (c := Qab) (l := p0.heads) (aln rfl Try.underlying37 rfl), asb hb1 (amv rfl), trivial⟩ ?_
   refine Qag ?_
   obtain rfl := osi h
   exact fend ⟨[B false], ⟨rot (by kernel_rfl), trivial⟩, rfl⟩ nll
def Qck (N : Nat) (p1 : (List Int)) (y3 : (List Int)) (k14 : Int → Option Int) (x15 : GUnit) : Nat → Int → Int → Option Int
  | 0, _, _ => none
  | n23 + 1, y19, y20 =>
    bif (decide (y20 < (x15.Parts.length : Int))) then
     (getI x15.Parts y20).bind fun x25 =>
     chk (decide (0 ≤ x15.Inlet) && decide (x15.Inlet.toNat < (p1.length : Int).toNat)) <|
     (y3[x15.Inlet.toNat]?).bind fun x30 =>
     (some (if (w64 (x25.Gain - x30)) > 0 then w64 (x25.Gain - x30) else 0)).bind fun x32 =>
     (some (w64 (y19 + (w64 (x25.Width * x32))))).bind fun x34 =>
     Qck N p1 y3 k14 x15 n23 x34 (w64 (y20 + 1))
    else
     k14 (y19)
def Qby (N : Nat) (p0 : GShared) (p1 : (List Int)) (y3 : (List Int)) (k6 : Int → Option Int) : Nat → Int → Int → Option Int
  | 0, _, _ => none
  | n11 + 1, y7, y8 =>
    bif (decide (y8 < (p0.units.length : Int))) then
     Qbr (fun y13 =>
       Qby N p0 p1 y3 k6 n11 y13 (w64 (y8 + 1))) fun k14 : Int → Option Int =>
     (getI p0.units y8).bind fun x15 =>
     Qck N p1 y3 k14 x15 N y7 0
    else
     k6 (y7)
def Qcj (N : Nat) (p0 : GShared) (p1 : (List Int)) (k4 : Int × (List Int) → Option Int) (x37 : (List Int)) : Nat → Int → Int → Int → (List Int) → Option Int
  | 0, _, _, _, _ => none
  | n46 + 1, y38, y39, y40, y41 =>
    bif (decide (y40 < ((p0.heads.length : Nat) : Int))) then
     chk (decide (0 ≤ y40) && decide (y40.toNat < p0.heads.length)) <|
     (x37[y40.toNat]?).bind fun x49 =>
     (getI p1 y40).bind fun x51 =>
     chk (decide (0 ≤ y40) && decide (y40.toNat < (p1.length : Int).toNat)) <|
     (y41[y40.toNat]?).bind fun _ =>
     (some (w64 (y38 + (w64 (x51 * x49))))).bind fun x58 =>
     Qcj N p0 p1 k4 x37 n46 x58 (w64 (y39 + x51)) (w64 (y40 + 1)) (y41.set y40.toNat (w64 (y39 + x51)))
    else
     k4 (y38, y41)
def Qfb (N : Nat) (p0 : GShared) (p1 : (List Int)) : Option Int :=
  chk (decide (0 ≤ (p1.length : Int)) && decide (8 * (p1.length : Int) ≤ 281474976710656) && decide ((p1.length : Int) ≤ 9223372036854775807)) <|
  Qbr (fun ⟨y2, y3⟩ =>
    Qbr (fun y5 =>
      some y5) fun k6 : Int → Option Int =>
    Qby N p0 p1 y3 k6 N y2 0) fun k4 : Int × (List Int) → Option Int =>
  (Qec N p0).bind fun x37 =>
  Qcj N p0 p1 k4 x37 N 0 0 0 (List.replicate (p1.length : Int).toNat 0)
def Qpj (p1 : (List Int)) : AV := .dat 1 ((p1 : List Int).map Qab)
def z121_5 (p1 : (List Int)) : Slot := .own 1 ((List.replicate (p1.length : Int).toNat 0 : List Int).map Qab)
def z121_0 (p0 : GShared) : AV := .dat 1 ((p0.heads : List Int).map Qab)
def Qjm (p0 : GShared) : AV := .dat 2 ((p0.units : List GUnit).map Qan)
def Qqz (p0 : GShared) : Slot := .own 2 [[(z121_0 p0), (Qjm p0)]]
def Qh7 (y3 : (List Int)) : Slot := .own 1 ((y3 : List Int).map Qab)
def Qnc (x15 : GUnit) : AV := .dat 2 ((x15.Parts : List GPart).map Qau)
def Qr2 (x15 : GUnit) : Slot := .own 2 [[(I (x15.Inlet)), (Qnc x15)]]
def Qlu (x37 : (List Int)) : Slot := .own 1 ((x37 : List Int).map Qab)
def Qr1 (y41 : (List Int)) : Slot := .own 1 ((y41 : List Int).map Qab)
set_option maxRecDepth 100000 in
set_option maxHeartbeats 4000000 in
theorem Qlh (N : Nat) (p0 : GShared) (p1 : (List Int)) (r : Int) (h : Qfb N p0 p1 = some r) : Spec Try.prog 84 [(.agg (Qmh p0)), (.dat 1 (p1.map Qab))] [] (I r) [] := by
  refine Qae Try.func84 rfl 0 (nle rfl) (fun X φ0 w0 hφ0 => ?_)
  unfold Qfb at h
  refine wx tbk [] trivial ?_
  refine wx tbk [] trivial ?_
  obtain ⟨hm1, h⟩ := cko h
  refine wx tbk [(1, rp [(.tmp 13, (Qpj p1))] (I ((p1.length : Int)))), (2, ⟨[(.tmp 14, (I ((p1.length : Int)))), (.tmp 14, (I ((p1.length : Int))))], [(1, .unused)], (.own 1 1 (0) ((p1.length : Int).toNat)), [(1, (z121_5 p1))], false⟩)] ⟨alm (c := Qab) (l := p1) (aln rfl Try.underlying37 rfl), Qhm rfl Try.underlying37 te3 tz3 rfl (Qtf hm1) rfl (Qte hm1) (Qoz hm1) (Qog Qab rfl), trivial⟩ ?_
  obtain ⟨k4, hk_k4, h⟩ := jko h
  refine wjn (τ := Int × (List Int)) (fun t => k4 t = some r) (fun ⟨y2, y3⟩ => ⟨mk 74 [(2, .ref 0 2 0 0), (4, I y2), (6, (.own 1 1 (0) ((p1.length : Int).toNat)))], [(Qqz p0), (Qh7 y3)]⟩) (fun t h => ?_) ?_
  ·subst hk_k4
   obtain ⟨y2, y3⟩ := t
   obtain ⟨k6, hk_k6, h⟩ := jko h
   refine wjn (τ := Int) (fun t => k6 t = some r) (fun y5 => ⟨mk 74 [(4, I y5)], []⟩) (fun y5 h => ?_) ?_
   ·subst hk_k6
    refine wx tbk [] trivial ?_
    refine Qag ?_
    obtain rfl := osi h
    exact fend ⟨[I y5], ⟨rot (by kernel_rfl), trivial⟩, rfl⟩ nll
   ·skip
    refine wx tbk [(2, rp [(.tmp 44, (Qjm p0))] (I ((p0.units.length : Int))))] ⟨alm (c := Qan) (l := p0.units) (aln rfl Try.underlying89 rfl), trivial⟩ ?_
    refine Qad ?_
    refine wmr (mto (n := 74) (l' := [(4, I y2), (6, (.own 0 1 (0) ((p1.length : Int).toNat))), (44, (Qjm p0)), (45, (I ((p0.units.length : Int)))), (46, I 0)]) (own' := [(Qh7 y3)]) [(4, I y2), (6, (.own 1 1 (0) ((p1.length : Int).toNat))), (44, (Qjm p0)), (45, (I ((p0.units.length : Int)))), (46, I 0)] [1] [(Qh7 y3)] hφ0 (pc rwl (pc (.rn (Qaf rfl)) (pc (.rn (.plain _ (nld Qac _))) (pc rwl (pc rwl pn))))) (qc (spr Qaa) qn)) ?_
    refine Qbj (τ := Int × Int) (fun n t => Qby N p0 p1 y3 k6 n t.1 t.2 = some r) (fun ⟨y7, y8⟩ => ⟨mk 74 [(4, I y7), (6, (.own 0 1 (0) ((p1.length : Int).toNat))), (44, (Qjm p0)), (45, (I ((p0.units.length : Int)))), (46, I y8)], [(Qh7 y3)]⟩) (fun t h => by rw [Qby] at h; cases h) (fun n11 ih t h => ?_) N (y2, 0) h
    obtain ⟨y7, y8⟩ := t
    rw [Qby] at h
    skip
    refine wx tbk [] trivial ?_
    refine wsq ?_
    rcases bft ((decide (y8 < (p0.units.length : Int)))) with hc12 | hc12
    ·replace h := Qaw hc12 h
     refine wft hc12 (by kernel_rfl) ?_
     refine Qak ?_
     refine thn ?_
     obtain ⟨k14, hk_k14, h⟩ := jko h
     refine wjn (τ := Int) (fun t => k14 t = some r) (fun y13 => ⟨mk 74 [(4, I y13), (6, (.own 0 1 (0) ((p1.length : Int).toNat))), (44, (Qjm p0)), (45, (I ((p0.units.length : Int)))), (46, I y8)], [(Qh7 y3)]⟩) (fun y13 h => ?_) ?_
     ·subst hk_k14
      refine wx1 tbk [] trivial ?_
      refine thn ?_
      exact arm (mto (n := 74) [(4, I y13), (6, (.own 0 1 (0) ((p1.length : Int).toNat))), (44, (Qjm p0)), (45, (I ((p0.units.length : Int)))), (46, (I (w64 (y8 + 1))))] [0] [(Qh7 y3)] hφ0 (pc rwl (pc (.rn (Qaf rfl)) (pc (.rn (.plain _ (nld Qac _))) (pc rwl (pc rwl pn))))) (qc (spr Qaa) qn)) (ih (y13, w64 (y8 + 1)) h)
     ·skip
      refine Qad ?_
      obtain ⟨x15, hg16, h⟩ := bno h
      obtain ⟨hi17, hj18⟩ := gsm hg16
      refine wx tbk [(0, rp [(.tmp 44, (Qjm p0)), (.tmp 46, I y8)] (.dptr (Qan (x15)) 0))] ⟨aid rfl Try.underlying89 ti34 rfl rfl hi17 (mgt Qan hj18) rfl, trivial⟩ ?_
      refine wx tbk [(2, rp [(.tmp 51, (Qnc x15))] (I ((x15.Parts.length : Int))))] ⟨alm (c := Qau) (l := x15.Parts) (aln rfl Try.underlying32 rfl), trivial⟩ ?_
      refine Qad ?_
      refine wmr (mto (n := 74) (l' := [(4, I y7), (6, (.own 0 1 (0) ((p1.length : Int).toNat))), (10, .ref 1 2 0 0), (44, (Qjm p0)), (45, (I ((p0.units.length : Int)))), (46, I y8), (51, (Qnc x15)), (52, (I ((x15.Parts.length : Int)))), (53, I 0)]) (own' := [(Qh7 y3), (Qr2 x15)]) [(4, I y7), (6, (.own 0 1 (0) ((p1.length : Int).toNat))), (10, .ref 1 2 0 0), (44, (Qjm p0)), (45, (I ((p0.units.length : Int)))), (46, I y8), (51, (Qnc x15)), (52, (I ((x15.Parts.length : Int)))), (53, I 0)] [0, 1] [(Qh7 y3), (Qr2 x15)] hφ0 (pc rwl (pc (.rn (Qaf rfl)) (pc (.rn (rqr rfl)) (pc (.rn (.plain _ (nld Qac _))) (pc rwl (pc rwl (pc (.rn (.plain _ (nld Qbf _))) (pc rwl (pc rwl pn))))))))) (qc (spr Qaa) (qc (spb (lc rwl (lc (.rn (.plain _ (nld Qbf _))) ln))) qn))) ?_
      refine Qbj (τ := Int × Int) (fun n t => Qck N p1 y3 k14 x15 n t.1 t.2 = some r) (fun ⟨y19, y20⟩ => ⟨mk 74 [(4, I y19), (6, (.own 0 1 (0) ((p1.length : Int).toNat))), (10, .ref 1 2 0 0), (44, (Qjm p0)), (45, (I ((p0.units.length : Int)))), (46, I y8), (51, (Qnc x15)), (52, (I ((x15.Parts.length : Int)))), (53, I y20)], [(Qh7 y3), (Qr2 x15)]⟩) (fun t h => by rw [Qck] at h; cases h) (fun n23 ih t h => ?_) N (y7, 0) h
      obtain ⟨y19, y20⟩ := t
      rw [Qck] at h
      skip
      refine wx tbk [] trivial ?_
      refine wsq ?_
      rcases bft ((decide (y20 < (x15.Parts.length : Int)))) with hc24 | hc24
      ·replace h := Qaw hc24 h
       refine wft hc24 (by kernel_rfl) ?_
       refine Qak ?_
       refine thn ?_
       refine wsq ?_
       refine Qad ?_
       obtain ⟨x25, hg26, h⟩ := bno h
       obtain ⟨hi27, hj28⟩ := gsm hg26
       refine wx tbk [(0, rp [(.tmp 51, (Qnc x15)), (.tmp 53, I y20)] (.dptr (Qau (x25)) 0))] ⟨aid rfl Try.underlying32 Qof rfl rfl hi27 (mgt Qau hj28) rfl, trivial⟩ ?_
       obtain ⟨hi29, h⟩ := cko h
       obtain ⟨hi29a, hi29b⟩ := Qbc hi29
       obtain ⟨x30, hg31, h⟩ := bno h
       obtain ⟨x32, hl33, h⟩ := bno h
       obtain ⟨x34, hl35, h⟩ := bno h
       refine wy1 tbk [(8, rb [(.tmp 62, (.own 0 1 (0) ((p1.length : Int).toNat))), (.tmp 64, I x15.Inlet)] [(0, (Qh7 y3))] (.ref 0 1 (x15.Inlet.toNat) 0)), (9, rb [(.tmp 65, (.ref 0 1 (x15.Inlet.toNat) 0))] [(0, (Qh7 y3))] (I x30)), (11, rp [ci 0, (.tmp 67, (I (w64 (x25.Gain - x30))))] (I x32)), (14, rp [(.tmp 70, (I (w64 (y19 + (w64 (x25.Width * x32))))))] (I x34))] ⟨aio rfl Try.underlying37 ti3 (odt hi29a) (odt hi29b) (Nat.zero_add _), ald rfl ti3 (by decide) (mgt Qab hg31) (nle rfl) rfl, Qed hl33 (Qmi rfl), Qed hl35 (aas rfl), trivial⟩ ?_
       refine bln ?_
       refine thn ?_
       refine wx1 tbk [] trivial ?_
       refine thn ?_
       exact arm (mto (n := 74) [(4, I x34), (6, (.own 0 1 (0) ((p1.length : Int).toNat))), (10, .ref 1 2 0 0), (44, (Qjm p0)), (45, (I ((p0.units.length : Int)))), (46, I y8), (51, (Qnc x15)), (52, (I ((x15.Parts.length : Int)))), (53, (I (w64 (y20 + 1))))] [0, 1] [(Qh7 y3), (Qr2 x15)] hφ0 (pc rwl (pc (.rn (Qaf rfl)) (pc (.rn (rqr rfl)) (pc (.rn (.plain _ (nld Qac _))) (pc rwl (pc rwl (pc (.rn (.plain _ (nld Qbf _))) (pc rwl (pc rwl pn))))))))) (qc (spr Qaa) (qc (spb (lc rwl (lc (.rn (.plain _ (nld Qbf _))) ln))) qn))) (ih (x34, w64 (y20 + 1)) h)
      ·replace h := Qax hc24 h
       refine wfn hc24 (by kernel_rfl) ?_
       refine Qa3 ?_
       refine Qam ?_
       refine Qam ?_
       refine Qa2 rfl ?_
       refine bln ?_
       refine thn ?_
       exact ⟨(y19), h, (mto (n := 74) [(4, I y19), (6, (.own 0 1 (0) ((p1.length : Int).toNat))), (44, (Qjm p0)), (45, (I ((p0.units.length : Int)))), (46, I y8)] [0] [(Qh7 y3)] hφ0 (pc rwl (pc (.rn (Qaf rfl)) (pc (.rn (.plain _ (nld Qac _))) (pc rwl (pc rwl pn))))) (qc (spr Qaa) qn))⟩
    ·replace h := Qax hc12 h
     refine wfn hc12 (by kernel_rfl) ?_
     refine Qa3 ?_
     refine Qam ?_
     refine Qam ?_
     refine Qa2 rfl ?_
     refine thn ?_
     exact ⟨(y7), h, (mto (n := 74) [(4, I y7)] [] [] hφ0 (pc rwl pn) qn)⟩
  ·skip
   obtain ⟨x37, hf36, h⟩ := bno h
   refine wx tbk [(1, ⟨[fu 87, (.tmp 16, (.agg [(z121_0 p0), (Qjm p0)]))], [(2, .unused)], (.own 2 1 (0) (p0.heads.length)), [(2, (Qlu x37))], false⟩), (2, rp [(.tmp 17, (.own 2 1 (0) (p0.heads.length)))] (I (((p0.heads.length : Nat) : Int))))] ⟨Qaq (first := []) (cap := []) (vs := [(.agg [(z121_0 p0), (Qjm p0)])]) (σr := []) (σr' := [(Qlu x37)]) (res' := (.own 2 1 (0) (p0.heads.length))) [2] rfl enter87 (Qhw N p0 _ hf36) rfl (Qb5 (rnc (.plain _ (NLt.agg _ (nlc (nld Qaa _) (nlc (nld Qac _) nl0)))) rn0)) Qap (slc (Qds Qaa) Qap) (Qka rfl) rfl rfl rfl, aln rfl Try.underlying37 rfl, trivial⟩ ?_
   refine Qad ?_
   refine wmr (mto (n := 74) (l' := [(1, (Qpj p1)), (2, .ref 0 2 0 0), (4, I 0), (5, I 0), (6, (.own 1 1 (0) ((p1.length : Int).toNat))), (17, (.own 2 1 (0) (p0.heads.length))), (18, (I (((p0.heads.length : Nat) : Int)))), (19, I 0)]) (own' := [(Qqz p0), (.own 1 (((List.replicate (p1.length : Int).toNat 0) : List Int).map Qab)), (Qlu x37)]) [(1, (Qpj p1)), (2, .ref 0 2 0 0), (4, I 0), (5, I 0), (6, (.own 1 1 (0) ((p1.length : Int).toNat))), (17, (.own 2 1 (0) (p0.heads.length))), (18, (I (((p0.heads.length : Nat) : Int)))), (19, I 0)] [0, 1, 2] [(Qqz p0), (z121_5 p1), (Qlu x37)] hφ0 (pc (.rn (.plain _ (nld Qaa _))) (pc (.rn (rqr rfl)) (pc rwl (pc rwl (pc (.rn (Qaf rfl)) (pc (.rn (Qaf rfl)) (pc rwl (pc rwl pn)))))))) (qc (spb (lc (.rn (.plain _ (nld Qaa _))) (lc (.rn (.plain _ (nld Qac _))) ln))) (qc (spr Qaa) (qc (spr Qaa) qn)))) ?_
   refine Qbj (τ := Int × Int × Int × (List Int)) (fun n t => Qcj N p0 p1 k4 x37 n t.1 t.2.1 t.2.2.1 t.2.2.2 = some r) (fun ⟨y38, y39, y40, y41⟩ => ⟨mk 74 [(1, (Qpj p1)), (2, .ref 0 2 0 0), (4, I y38), (5, I y39), (6, (.own 1 1 (0) ((p1.length : Int).toNat))), (17, (.own 2 1 (0) (p0.heads.length))), (18, (I (((p0.heads.length : Nat) : Int)))), (19, I y40)], [(Qqz p0), (Qr1 y41), (Qlu x37)]⟩) (fun t h => by rw [Qcj] at h; cases h) (fun n46 ih t h => ?_) N (0, 0, 0, List.replicate (p1.length : Int).toNat 0) h
   obtain ⟨y38, y39, y40, y41⟩ := t
   rw [Qcj] at h
   skip
   refine wx tbk [] trivial ?_
   refine wsq ?_
   rcases bft ((decide (y40 < ((p0.heads.length : Nat) : Int)))) with hc47 | hc47
   ·replace h := Qaw hc47 h
    refine wft hc47 (by kernel_rfl) ?_
    refine Qak ?_
    refine thn ?_
    refine wsq ?_
    refine Qad ?_
    obtain ⟨hi48, h⟩ := cko h
    obtain ⟨hi48a, hi48b⟩ := Qbc hi48
    obtain ⟨x49, hg50, h⟩ := bno h
    refine wx tbk [(1, rb [(.tmp 17, (.own 2 1 (0) (p0.heads.length))), (.tmp 19, I y40)] [(2, (Qlu x37))] (.ref 2 1 (y40.toNat) 0)), (2, rb [(.tmp 22, (.ref 2 1 (y40.toNat) 0))] [(2, (Qlu x37))] (I x49))] ⟨aio rfl Try.underlying37 ti3 (odt hi48a) (odt hi48b) (Nat.zero_add _), ald rfl ti3 (by decide) (mgt Qab hg50) (nle rfl) rfl, trivial⟩ ?_
    obtain ⟨x51, hg52, h⟩ := bno h
    obtain ⟨hi53, hj54⟩ := gsm hg52
    refine wx tbk [(3, rp [(.tmp 25, (Qpj p1)), (.tmp 26, I y40)] (.dptr (Qab (x51)) 0))] ⟨aid rfl Try.underlying37 ti3 rfl rfl hi53 (mgt Qab hj54) rfl, trivial⟩ ?_
    obtain ⟨hi55, h⟩ := cko h
    obtain ⟨hi55a, hi55b⟩ := Qbc hi55
    obtain ⟨x56, hg57, h⟩ := bno h
    refine wx tbk [(3, rb [(.tmp 30, (.own 1 1 (0) ((p1.length : Int).toNat))), (.tmp 31, I y40)] [(1, (Qr1 y41))] (.ref 1 1 (y40.toNat) 0)), (4, ⟨[(.tmp 33, (.ref 1 1 (y40.toNat) 0)), (.tmp 32, (I (w64 (y39 + x51))))], [(1, (Qr1 y41))], .any, [(1, (.own 1 ((y41.set y40.toNat (w64 (y39 + x51)) : List Int).map Qab)))], false⟩)] ⟨aio rfl Try.underlying37 ti3 (odt hi55a) (odt hi55b) (Nat.zero_add _), ast rfl ti3 (by rfl) (mgt Qab hg57) (nle rfl) (Qgf Qab rfl), trivial⟩ ?_
    obtain ⟨x58, hl59, h⟩ := bno h
    refine wx1 tbk [(3, rp [(.tmp 35, (Qpj p1)), (.tmp 36, I y40)] (.dptr (Qab (x51)) 0)), (8, rp [(.tmp 41, (I (w64 (y38 + (w64 (x51 * x49))))))] (I x58))] ⟨aid rfl Try.underlying37 ti3 rfl rfl hi53 (mgt Qab hj54) rfl, Qed hl59 (aas rfl), trivial⟩ ?_
    refine bln ?_
    refine thn ?_
    refine wx1 tbk [] trivial ?_
    refine thn ?_
    exact arm (mto (n := 74) [(1, (Qpj p1)), (2, .ref 0 2 0 0), (4, I x58), (5, (I (w64 (y39 + x51)))), (6, (.own 1 1 (0) ((p1.length : Int).toNat))), (17, (.own 2 1 (0) (p0.heads.length))), (18, (I (((p0.heads.length : Nat) : Int)))), (19, (I (w64 (y40 + 1))))] [0, 1, 2] [(Qqz p0), (.own 1 ((y41.set y40.toNat (w64 (y39 + x51)) : List Int).map Qab)), (Qlu x37)] hφ0 (pc (.rn (.plain _ (nld Qaa _))) (pc (.rn (rqr rfl)) (pc rwl (pc rwl (pc (.rn (Qaf rfl)) (pc (.rn (Qaf rfl)) (pc rwl (pc rwl pn)))))))) (qc (spb (lc (.rn (.plain _ (nld Qaa _))) (lc (.rn (.plain _ (nld Qac _))) ln))) (qc (spr Qaa) (qc (spr Qaa) qn)))) (ih (x58, w64 (y39 + x51), w64 (y40 + 1), y41.set y40.toNat (w64 (y39 + x51))) h)
   ·replace h := Qax hc47 h
    refine wfn hc47 (by kernel_rfl) ?_
    refine Qa3 ?_
    refine Qam ?_
    refine Qam ?_
    refine Qa2 rfl ?_
    refine thn ?_
    exact ⟨(y38, y41), h, (mto (n := 74) [(2, .ref 0 2 0 0), (4, I y38), (6, (.own 1 1 (0) ((p1.length : Int).toNat)))] [0, 1] [(Qqz p0), (Qr1 y41)] hφ0 (pc (.rn (rqr rfl)) (pc rwl (pc (.rn (Qaf rfl)) pn))) (qc (spb (lc (.rn (.plain _ (nld Qaa _))) (lc (.rn (.plain _ (nld Qac _))) ln))) (qc (spr Qaa) qn)))⟩
def Qiv (N : Nat) (p0 : (List Int)) (p1 : (List GUnit)) (p2 : (List Int)) : Option (Int × Int) :=
  (Qei N (⟨p0, p1⟩ : GShared)).bind fun x2 =>
  bif (!x2) then
   some (0, 1)
  else
   (Qew N (⟨p0, p1⟩ : GShared) p2).bind fun x5 =>
   bif (!x5) then
    some (0, 1)
   else
    (Qfb N (⟨p0, p1⟩ : GShared) p2).bind fun x8 =>
    some (x8, 0)
def z114_0 (p0 : (List Int)) : AV := .dat 1 ((p0 : List Int).map Qab)
def z114_1 (p1 : (List GUnit)) : AV := .dat 2 ((p1 : List GUnit).map Qan)
def Qnp (p0 : (List Int)) (p1 : (List GUnit)) : AV := .agg [(z114_0 p0), (z114_1 p1)]
def Qxi (p2 : (List Int)) : AV := .dat 1 ((p2 : List Int).map Qab)
set_option maxRecDepth 100000 in
set_option maxHeartbeats 4000000 in
theorem Qp3 (N : Nat) (p0 : (List Int)) (p1 : (List GUnit)) (p2 : (List Int)) (r : (Int × Int)) (h : Qiv N p0 p1 p2 = some r) : Spec Try.prog 46 [(.dat 1 (p0.map Qab)), (.dat 2 (p1.map Qan)), (.dat 1 (p2.map Qab))] [] (.tup [(I r.1), (I r.2)]) [] := by
  refine Qae Try.func46 rfl 0 (nle rfl) (fun X φ0 w0 hφ0 => ?_)
  unfold Qiv at h
  refine wx tbk [] trivial ?_
  refine wx tbk [(2, rp [(.tmp 9, (z114_0 p0)), (.tmp 10, (z114_1 p1))] (Qnp p0 p1))] ⟨Qbt (vs := [(z114_0 p0), (z114_1 p1)]) rfl ts133 tz133 rfl (by rfl) rfl, trivial⟩ ?_
  refine wsq ?_
  obtain ⟨x2, hf1, h⟩ := bno h
  rcases bft ((!x2)) with hb3 | hb3
  ·replace h := Qaw hb3 h
   refine wx tbk [(1, rp [fu 80, (.tmp 12, (Qnp p0 p1))] (B x2)), (3, rp [(.tmp 14, (B ((!x2))))] (B true))] ⟨apc (first := []) (cap := []) (vs := [(Qnp p0 p1)]) rfl Qwk (Qgg N (⟨p0, p1⟩ : GShared) _ hf1) rfl rfl (nlc (NLt.agg _ (nlc (nld Qaa _) (nlc (nld Qac _) nl0))) nl0) nll rfl, asb hb3 (amv rfl), trivial⟩ ?_
   refine Qf7 (by kernel_rfl) ?_
   refine wx tbk [] trivial ?_
   refine Qag ?_
   refine Qay ?_
   obtain rfl := osi h
   exact fend ⟨[I 0, I 1], ⟨rot (by kernel_rfl), rot (by kernel_rfl), trivial⟩, rfl⟩ (NLt.tup _ (nlc nll (nlc nll nl0)))
  ·replace h := Qax hb3 h
   obtain ⟨x5, hf4, h⟩ := bno h
   refine wx tbk [(1, rp [fu 80, (.tmp 12, (Qnp p0 p1))] (B x2)), (3, rp [(.tmp 14, (B ((!x2))))] (B false)), (6, rp [(.tmp 15, B false), fu 83, (.tmp 16, (Qnp p0 p1)), (.tmp 17, (Qxi p2))] (B x5))] ⟨apc (first := []) (cap := []) (vs := [(Qnp p0 p1)]) rfl Qwk (Qgg N (⟨p0, p1⟩ : GShared) _ hf1) rfl rfl (nlc (NLt.agg _ (nlc (nld Qaa _) (nlc (nld Qac _) nl0))) nl0) nll rfl, asb hb3 (amv rfl), ag_ (apc (first := []) (cap := []) (vs := [(Qnp p0 p1), (Qxi p2)]) rfl enter83 (Qk2 N (⟨p0, p1⟩ : GShared) p2 _ hf4) rfl rfl (nlc (NLt.agg _ (nlc (nld Qaa _) (nlc (nld Qac _) nl0))) (nlc (nld Qaa _) nl0)) nll rfl), trivial⟩ ?_
   rcases bft ((!x5)) with hc6 | hc6
   ·replace h := Qaw hc6 h
    refine wft hc6 (by kernel_rfl) ?_
    refine wx tbk [] trivial ?_
    refine Qag ?_
    refine Qay ?_
    obtain rfl := osi h
    exact fend ⟨[I 0, I 1], ⟨rot (by kernel_rfl), rot (by kernel_rfl), trivial⟩, rfl⟩ (NLt.tup _ (nlc nll (nlc nll nl0)))
   ·replace h := Qax hc6 h
    refine wfn hc6 (by kernel_rfl) ?_
    refine Qak ?_
    refine thn ?_
    obtain ⟨x8, hf7, h⟩ := bno h
    refine wx tbk [(2, rp [fu 84, (.tmp 21, (Qnp p0 p1)), (.tmp 22, (Qxi p2))] (I x8))] ⟨apc (first := []) (cap := []) (vs := [(Qnp p0 p1), (Qxi p2)]) rfl enter84 (Qlh N (⟨p0, p1⟩ : GShared) p2 _ hf7) rfl rfl (nlc (NLt.agg _ (nlc (nld Qaa _) (nlc (nld Qac _) nl0))) (nlc (nld Qaa _) nl0)) nll rfl, trivial⟩ ?_
    refine Qag ?_
    obtain rfl := osi h
    exact fend ⟨[I x8, I 0], ⟨rot (by kernel_rfl), rot (by kernel_rfl), trivial⟩, rfl⟩ (NLt.tup _ (nlc nll (nlc nll nl0)))
end Go.Proofs.Ytlhakkkjgdbdpaa
