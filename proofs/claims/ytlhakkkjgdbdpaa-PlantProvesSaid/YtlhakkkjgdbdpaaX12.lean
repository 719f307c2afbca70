/-
  Functions of the program: what they compute, as plain functions, and that they do. No conditions.
-/
import Derived.Test.YtlhakkkjgdbdpaaX6
namespace Go.Proofs.Ytlhakkkjgdbdpaa
open Go.RowKit
def Qei (N : Nat) (p0 : (List GUnit)) (k2 : (List GUnit) → Option (List GUnit)) : Nat → (List GUnit) → Int → Option (List GUnit)
  | 0, _, _ => none
  | n7 + 1, y3, y4 =>
    bif (decide (y4 < (p0.length : Int))) then
     (getI p0 y4).bind fun x9 =>
     (Qj4 N x9).bind fun x14 =>
     chk (decide ((y3.length + ([x14]).length) * 32 ≤ 140737488355328)) <|
     Qei N p0 k2 n7 (y3 ++ ([x14])) (w64 (y4 + 1))
    else
     k2 (y3)
def Qfb (N : Nat) (p0 : (List GUnit)) : Option (List GUnit) :=
  Qby (fun y1 =>
    some y1) fun k2 : (List GUnit) → Option (List GUnit) =>
  Qei N p0 k2 N ([]) 0
def Qrz (p0 : (List GUnit)) : AV := .dat 2 ((p0 : List GUnit).map Qao)
def Qw3 (y3 : (List GUnit)) : AV := .acc 0 34 2 ((y3 : List GUnit).map Qao)
def Qw2 (x14 : GUnit) : AV := .agg [(I (x14.Inlet)), (.dat 2 ((x14.Parts : List GPart).map Qav))]
set_option maxRecDepth 100000 in
set_option maxHeartbeats 4000000 in
theorem Qdj (N : Nat) (p0 : (List GUnit)) (r : (List GUnit)) (h : Qfb N p0 = some r) : Spec Try.prog 45 [(.dat 2 (p0.map Qao))] [] (.dat 2 (r.map Qao)) [] := by
  refine Qad Try.func45 rfl 0 (nle rfl) (fun X φ0 w0 hφ0 => ?_)
  unfold Qfb at h
  refine wx tbk [] trivial ?_
  refine wx tbk [] trivial ?_
  obtain ⟨k2, hk_k2, h⟩ := jko h
  refine wjn (τ := (List GUnit)) (fun t => k2 t = some r) (fun y1 => ⟨mk 20 [(3, (.acc 0 34 2 ((y1 : List GUnit).map Qao)))], [.tok]⟩) (fun y1 h => ?_) ?_
  ·subst hk_k2
   refine wx tbk [] trivial ?_
   refine Qaf ?_
   obtain rfl := osi h
   exact fend ⟨[(.dat 2 ((y1 : List GUnit).map Qao))], ⟨Qio (v := (.acc 0 34 2 ((y1 : List GUnit).map Qao))) (rot (by kernel_rfl)) Less.acc, trivial⟩, rfl⟩ (nld Qab _)
  ·skip
   refine wx tbk [] trivial ?_
   refine Qae ?_
   refine wmr (Mor.trans (Qtf 0 34 2 3 (by kernel_rfl) (by kernel_rfl)) (mto (n := 20) (l' := [(0, (Qrz p0)), (3, (.acc 0 34 2 ((([]) : List GUnit).map Qao))), (4, I 0)]) (own' := [.tok]) [(0, (Qrz p0)), (3, (.acc 0 34 2 (([] : List GUnit).map Qao))), (4, I 0)] [0] [.tok] hφ0 (pc (.rn (.plain _ (nld Qab _))) (pc (.rn (Qhq rfl (Qfs Qab _))) (pc rwl pn))) (qc .tok qn))) ?_
   refine Qbp (τ := (List GUnit) × Int) (fun n t => Qei N p0 k2 n t.1 t.2 = some r) (fun ⟨y3, y4⟩ => ⟨mk 20 [(0, (Qrz p0)), (3, (Qw3 y3)), (4, I y4)], [.tok]⟩) (fun t h => by rw [Qei] at h; cases h) (fun n7 ih t h => ?_) N ([], 0) h
   obtain ⟨y3, y4⟩ := t
   rw [Qei] at h
   skip
   refine wsq ?_
   refine wx tbk [(2, rp [(.tmp 6, (Qrz p0))] (I ((p0.length : Int))))] ⟨alm (c := Qao) (l := p0) (aln rfl Try.underlying85 rfl), trivial⟩ ?_
   rcases bft ((decide (y4 < (p0.length : Int)))) with hc8 | hc8
   ·replace h := Qaw hc8 h
    refine wft hc8 (by kernel_rfl) ?_
    refine Qak ?_
    refine thn ?_
    refine wsq ?_
    refine Qae ?_
    obtain ⟨x9, hg10, h⟩ := bno h
    obtain ⟨hi11, hj12⟩ := gsm hg10
    obtain ⟨x14, hf13, h⟩ := bno h
    obtain ⟨ha15, h⟩ := cko h
    refine wx1 tbk [(3, rp [(.tmp 12, (Qrz p0)), (.tmp 13, I y4)] (.dptr (Qao (x9)) 0)), (5, rp [fu 19, (.tmp 15, (.agg [I x9.Inlet, (.dat 2 ((x9.Parts : List GPart).map Qav))]))] (Qw2 x14)), (6, rp [(.tmp 16, (Qw2 x14))] (.dat 2 (([x14] : List GUnit).map Qao))), (7, ⟨[(.tmp 11, (Qw3 y3)), (.tmp 17, (.dat 2 (([x14] : List GUnit).map Qao)))], [(0, .tok), (1, .unused)], (.acc 1 34 2 ((y3 ++ ([x14]) : List GUnit).map Qao)), [(0, .dead), (1, .tok)], false⟩)] ⟨aid rfl Try.underlying85 ti24 rfl rfl hi11 (mgt Qao hj12) rfl, apc (first := []) (cap := []) (vs := [(.agg [I x9.Inlet, (.dat 2 ((x9.Parts : List GPart).map Qav))])]) rfl enter19 (Qrq N x9 _ hf13) rfl rfl (nlc (NLt.agg _ (nlc nll (nlc (nld Qbi _) nl0))) nl0) (NLt.agg _ (nlc nll (nlc (nld Qbi _) nl0))) rfl, Qdc (vs := [(Qw2 x14)]) rfl Try.underlying89 ti34 tz34 rfl (by decide) rfl (by decide) (by rfl) (by rfl) (by rfl) rfl, Qk6 rfl Try.underlying89 te34 (Base.acc _ _) rfl rfl (by rfl) (Qrj Qao ha15) (Qri Qao ha15 (by decide)) (Qrh Qao) rfl rfl, trivial⟩ ?_
    refine bln ?_
    refine thn ?_
    refine wx1 tbk [] trivial ?_
    refine thn ?_
    exact arm (mto (n := 20) [(0, (Qrz p0)), (3, (.acc 1 34 2 ((y3 ++ ([x14]) : List GUnit).map Qao))), (4, (I (w64 (y4 + 1))))] [1] [.tok] hφ0 (pc (.rn (.plain _ (nld Qab _))) (pc (.rn (Qhq rfl (Qfs Qab _))) (pc rwl pn))) (qc .tok qn)) (ih (y3 ++ ([x14]), w64 (y4 + 1)) h)
   ·replace h := Qax hc8 h
    refine wfn hc8 (by kernel_rfl) ?_
    refine Qa8 ?_
    refine Qap ?_
    refine Qap ?_
    refine Qa7 rfl ?_
    refine thn ?_
    exact ⟨(y3), h, (mto (n := 20) [(3, (Qw3 y3))] [0] [.tok] hφ0 (pc (.rn (Qhq rfl (Qfs Qab _))) pn) (qc .tok qn))⟩
def Qe0 (N : Nat) (k1 : Unit → Option Bool) (p1 : (List GUnit)) : Nat → Int → Option Bool
  | 0, _ => none
  | n5 + 1, y3 =>
    bif (decide (y3 < (p1.length : Int))) then
     (getI p1 y3).bind fun x7 =>
     (Qkk N x7).bind fun x12 =>
     bif (!x12) then
      some false
     else
      Qe0 N k1 p1 n5 (w64 (y3 + 1))
    else
     k1 ()
def Qk3 (N : Nat) (p0 : (List Int)) (p1 : (List GUnit)) : Option Bool :=
  Qby (fun _ =>
    bif (decide ((p0.length : Int) ≤ 8)) then
     some (decide ((p1.length : Int) ≤ 12))
    else
     some false) fun k1 : Unit → Option Bool =>
  Qe0 N k1 p1 N 0
def Qpn (p0 : (List Int)) : AV := .dat 1 ((p0 : List Int).map Qac)
def Qn0 (p1 : (List GUnit)) : AV := .dat 2 ((p1 : List GUnit).map Qao)
set_option maxRecDepth 100000 in
set_option maxHeartbeats 4000000 in
theorem Qll (N : Nat) (p0 : (List Int)) (p1 : (List GUnit)) (r : Bool) (h : Qk3 N p0 p1 = some r) : Spec Try.prog 43 [(.dat 1 (p0.map Qac)), (.dat 2 (p1.map Qao))] [] (B r) [] := by
  refine Qad Try.func43 rfl 0 (nle rfl) (fun X φ0 w0 hφ0 => ?_)
  unfold Qk3 at h
  refine wx tbk [] trivial ?_
  obtain ⟨k1, hk_k1, h⟩ := jko h
  refine wjn (τ := Unit) (fun t => k1 t = some r) (fun _ => ⟨mk 26 [(0, (Qpn p0)), (1, (Qn0 p1))], []⟩) (fun t h => ?_) ?_
  ·subst hk_k1
   rcases bft ((decide ((p0.length : Int) ≤ 8))) with hb2 | hb2
   ·replace h := Qaw hb2 h
    refine wx tbk [(1, rp [(.tmp 18, (Qpn p0))] (I ((p0.length : Int)))), (3, rp [(.tmp 20, (B ((decide ((p0.length : Int) ≤ 8)))))] (B true)), (5, rp [(.tmp 21, B true), (.tmp 22, (Qn0 p1))] (I ((p1.length : Int))))] ⟨alm (c := Qac) (l := p0) (aln rfl Try.underlying37 rfl), asb hb2 (amv rfl), ag_ (alm (c := Qao) (l := p1) (aln rfl Try.underlying85 rfl)), trivial⟩ ?_
    refine Qaf ?_
    obtain rfl := osi h
    exact fend ⟨[(B ((decide ((p1.length : Int) ≤ 12))))], ⟨rot (by kernel_rfl), trivial⟩, rfl⟩ nll
   ·replace h := Qax hb2 h
    refine wx tbk [(1, rp [(.tmp 18, (Qpn p0))] (I ((p0.length : Int)))), (3, rp [(.tmp 20, (B ((decide ((p0.length : Int) ≤ 8)))))] (B false))] ⟨alm (c := Qac) (l := p0) (aln rfl Try.underlying37 rfl), asb hb2 (amv rfl), trivial⟩ ?_
    refine Qaf ?_
    obtain rfl := osi h
    exact fend ⟨[B false], ⟨rot (by kernel_rfl), trivial⟩, rfl⟩ nll
  ·skip
   refine wx tbk [] trivial ?_
   refine Qae ?_
   refine wmr (mto (n := 26) (l' := [(0, (Qpn p0)), (1, (Qn0 p1)), (5, I 0)]) (own' := []) [(0, (Qpn p0)), (1, (Qn0 p1)), (5, I 0)] [] [] hφ0 (pc (.rn (.plain _ (nld Qaa _))) (pc (.rn (.plain _ (nld Qab _))) (pc rwl pn))) qn) ?_
   refine Qbp (τ := Int) (fun n t => Qe0 N k1 p1 n t = some r) (fun y3 => ⟨mk 26 [(0, (Qpn p0)), (1, (Qn0 p1)), (5, I y3)], []⟩) (fun t h => by rw [Qe0] at h; cases h) (fun n5 ih y3 h => ?_) N (0) h
   rw [Qe0] at h
   skip
   refine wsq ?_
   refine wx tbk [(2, rp [(.tmp 7, (Qn0 p1))] (I ((p1.length : Int))))] ⟨alm (c := Qao) (l := p1) (aln rfl Try.underlying85 rfl), trivial⟩ ?_
   rcases bft ((decide (y3 < (p1.length : Int)))) with hc6 | hc6
   ·replace h := Qaw hc6 h
    refine wft hc6 (by kernel_rfl) ?_
    refine Qak ?_
    refine thn ?_
    refine wsq ?_
    refine Qae ?_
    obtain ⟨x7, hg8, h⟩ := bno h
    obtain ⟨hi9, hj10⟩ := gsm hg8
    obtain ⟨x12, hf11, h⟩ := bno h
    refine wx tbk [(2, rp [(.tmp 12, (Qn0 p1)), (.tmp 13, I y3)] (.dptr (Qao (x7)) 0)), (4, rp [fu 23, (.tmp 15, (.agg [I x7.Inlet, (.dat 2 ((x7.Parts : List GPart).map Qav))]))] (B x12))] ⟨aid rfl Try.underlying85 ti24 rfl rfl hi9 (mgt Qao hj10) rfl, apc (first := []) (cap := []) (vs := [(.agg [I x7.Inlet, (.dat 2 ((x7.Parts : List GPart).map Qav))])]) rfl enter23 (Qq3 N x7 _ hf11) rfl rfl (nlc (NLt.agg _ (nlc nll (nlc (nld Qbi _) nl0))) nl0) nll rfl, trivial⟩ ?_
    rcases bft ((!x12)) with hc13 | hc13
    ·replace h := Qaw hc13 h
     refine wft hc13 (by kernel_rfl) ?_
     refine wx tbk [] trivial ?_
     refine Qaf ?_
     refine Qb0 ?_
     refine Qa4 ?_
     refine Qa4 ?_
     refine Qb0 ?_
     refine Qa4 ?_
     obtain rfl := osi h
     exact fend ⟨[B false], ⟨rot (by kernel_rfl), trivial⟩, rfl⟩ nll
    ·replace h := Qax hc13 h
     refine wfn hc13 (by kernel_rfl) ?_
     refine Qak ?_
     refine bln ?_
     refine thn ?_
     refine wx1 tbk [] trivial ?_
     refine thn ?_
     exact arm (mto (n := 26) [(0, (Qpn p0)), (1, (Qn0 p1)), (5, (I (w64 (y3 + 1))))] [] [] hφ0 (pc (.rn (.plain _ (nld Qaa _))) (pc (.rn (.plain _ (nld Qab _))) (pc rwl pn))) qn) (ih (w64 (y3 + 1)) h)
   ·replace h := Qax hc6 h
    refine wfn hc6 (by kernel_rfl) ?_
    refine Qa8 ?_
    refine Qap ?_
    refine Qap ?_
    refine Qa7 rfl ?_
    refine thn ?_
    exact ⟨(), h, (mto (n := 26) [(0, (Qpn p0)), (1, (Qn0 p1))] [] [] hφ0 (pc (.rn (.plain _ (nld Qaa _))) (pc (.rn (.plain _ (nld Qab _))) pn)) qn)⟩
def Qc8 (N : Nat) (p0 : (List Int)) (p1 : (List GUnit)) (k2 : Unit → Option Bool) : Nat → Int → Option Bool
  | 0, _ => none
  | n8 + 1, y6 =>
    bif (decide (y6 < (p1.length : Int))) then
     (getI p1 y6).bind fun x10 =>
     (Qi1 N x10).bind fun x15 =>
     bif (!x15) then
      some false
     else
      bif (decide (x10.Inlet ≥ (p0.length : Int))) then
       some false
      else
       Qc8 N p0 p1 k2 n8 (w64 (y6 + 1))
    else
     k2 ()
def Qc7 (N : Nat) (p0 : (List Int)) (k1 : Unit → Option Bool) : Nat → Int → Option Bool
  | 0, _ => none
  | n20 + 1, y18 =>
    bif (decide (y18 < (p0.length : Int))) then
     (getI p0 y18).bind fun x22 =>
     (Qgm N x22 0 1000000).bind fun x27 =>
     bif (!x27) then
      some false
     else
      Qc7 N p0 k1 n20 (w64 (y18 + 1))
    else
     k1 ()
def Qgb (N : Nat) (p0 : (List Int)) (p1 : (List GUnit)) : Option Bool :=
  Qby (fun _ =>
    Qby (fun _ =>
      bif (decide ((p0.length : Int) ≥ 1)) then
       bif (decide ((p0.length : Int) ≤ 6)) then
        bif (decide ((p1.length : Int) ≥ 1)) then
         some (decide ((p1.length : Int) ≤ 10))
        else
         some false
       else
        some false
      else
       some false) fun k2 : Unit → Option Bool =>
    Qc8 N p0 p1 k2 N 0) fun k1 : Unit → Option Bool =>
  Qc7 N p0 k1 N 0
def Qhc (p0 : (List Int)) : AV := .dat 1 ((p0 : List Int).map Qac)
def Qh1 (p1 : (List GUnit)) : AV := .dat 2 ((p1 : List GUnit).map Qao)
def Qs3 (x10 : GUnit) : AV := .agg [(I (x10.Inlet)), (.dat 2 ((x10.Parts : List GPart).map Qav))]
set_option maxRecDepth 100000 in
set_option maxHeartbeats 4000000 in
theorem Qe2 (N : Nat) (p0 : (List Int)) (p1 : (List GUnit)) (r : Bool) (h : Qgb N p0 p1 = some r) : Spec Try.prog 47 [(.dat 1 (p0.map Qac)), (.dat 2 (p1.map Qao))] [] (B r) [] := by
  refine Qad Try.func47 rfl 0 (nle rfl) (fun X φ0 w0 hφ0 => ?_)
  unfold Qgb at h
  refine wx tbk [] trivial ?_
  obtain ⟨k1, hk_k1, h⟩ := jko h
  refine wjn (τ := Unit) (fun t => k1 t = some r) (fun _ => ⟨mk 59 [(0, (Qhc p0)), (1, (Qh1 p1))], []⟩) (fun t h => ?_) ?_
  ·subst hk_k1
   obtain ⟨k2, hk_k2, h⟩ := jko h
   refine wjn (τ := Unit) (fun t => k2 t = some r) (fun _ => ⟨mk 59 [(0, (Qhc p0)), (1, (Qh1 p1))], []⟩) (fun t h => ?_) ?_
   ·subst hk_k2
    rcases bft ((decide ((p0.length : Int) ≥ 1))) with hb3 | hb3
    ·replace h := Qaw hb3 h
     rcases bft ((decide ((p0.length : Int) ≤ 6))) with hb4 | hb4
     ·replace h := Qaw hb4 h
      rcases bft ((decide ((p1.length : Int) ≥ 1))) with hb5 | hb5
      ·replace h := Qaw hb5 h
       refine wx tbk [(1, rp [(.tmp 41, (Qhc p0))] (I ((p0.length : Int)))), (3, rp [(.tmp 43, (B ((decide ((p0.length : Int) ≥ 1)))))] (B true)), (5, rp [(.tmp 44, B true), (.tmp 45, (Qhc p0))] (I ((p0.length : Int)))), (8, rp [(.tmp 48, (B ((decide ((p0.length : Int) ≤ 6)))))] (B true)), (10, rp [(.tmp 49, B true), (.tmp 50, (Qh1 p1))] (I ((p1.length : Int)))), (13, rp [(.tmp 53, (B ((decide ((p1.length : Int) ≥ 1)))))] (B true)), (15, rp [(.tmp 54, B true), (.tmp 55, (Qh1 p1))] (I ((p1.length : Int))))] ⟨alm (c := Qac) (l := p0) (aln rfl Try.underlying37 rfl), asb hb3 (amv rfl), ag_ (alm (c := Qac) (l := p0) (aln rfl Try.underlying37 rfl)), asb hb4 (amv rfl), ag_ (alm (c := Qao) (l := p1) (aln rfl Try.underlying85 rfl)), asb hb5 (amv rfl), ag_ (alm (c := Qao) (l := p1) (aln rfl Try.underlying85 rfl)), trivial⟩ ?_
       refine Qaf ?_
       obtain rfl := osi h
       exact fend ⟨[(B ((decide ((p1.length : Int) ≤ 10))))], ⟨rot (by kernel_rfl), trivial⟩, rfl⟩ nll
      ·replace h := Qax hb5 h
       refine wx tbk [(1, rp [(.tmp 41, (Qhc p0))] (I ((p0.length : Int)))), (3, rp [(.tmp 43, (B ((decide ((p0.length : Int) ≥ 1)))))] (B true)), (5, rp [(.tmp 44, B true), (.tmp 45, (Qhc p0))] (I ((p0.length : Int)))), (8, rp [(.tmp 48, (B ((decide ((p0.length : Int) ≤ 6)))))] (B true)), (10, rp [(.tmp 49, B true), (.tmp 50, (Qh1 p1))] (I ((p1.length : Int)))), (13, rp [(.tmp 53, (B ((decide ((p1.length : Int) ≥ 1)))))] (B false))] ⟨alm (c := Qac) (l := p0) (aln rfl Try.underlying37 rfl), asb hb3 (amv rfl), ag_ (alm (c := Qac) (l := p0) (aln rfl Try.underlying37 rfl)), asb hb4 (amv rfl), ag_ (alm (c := Qao) (l := p1) (aln rfl Try.underlying85 rfl)), asb hb5 (amv rfl), trivial⟩ ?_
       refine Qaf ?_
       obtain rfl := osi h
       exact fend ⟨[B false], ⟨rot (by kernel_rfl), trivial⟩, rfl⟩ nll
     ·replace h := Qax hb4 h
      refine wx tbk [(1, rp [(.tmp 41, (Qhc p0))] (I ((p0.length : Int)))), (3, rp [(.tmp 43, (B ((decide ((p0.length : Int) ≥ 1)))))] (B true)), (5, rp [(.tmp 44, B true), (.tmp 45, (Qhc p0))] (I ((p0.length : Int)))), (8, rp [(.tmp 48, (B ((decide ((p0.length : Int) ≤ 6)))))] (B false))] ⟨alm (c := Qac) (l := p0) (aln rfl Try.underlying37 rfl), asb hb3 (amv rfl), ag_ (alm (c := Qac) (l := p0) (aln rfl Try.underlying37 rfl)), asb hb4 (amv rfl), trivial⟩ ?_
      refine Qaf ?_
      obtain rfl := osi h
      exact fend ⟨[B false], ⟨rot (by kernel_rfl), trivial⟩, rfl⟩ nll
    ·replace h := Qax hb3 h
     refine wx tbk [(1, rp [(.tmp 41, (Qhc p0))] (I ((p0.length : Int)))), (3, rp [(.tmp 43, (B ((decide ((p0.length : Int) ≥ 1)))))] (B false))] ⟨alm (c := Qac) (l := p0) (aln rfl Try.underlying37 rfl), asb hb3 (amv rfl), trivial⟩ ?_
     refine Qaf ?_
     obtain rfl := osi h
     exact fend ⟨[B false], ⟨rot (by kernel_rfl), trivial⟩, rfl⟩ nll
   ·skip
    refine wx tbk [] trivial ?_
    refine Qae ?_
    refine wmr (mto (n := 59) (l' := [(0, (Qhc p0)), (1, (Qh1 p1)), (6, I 0)]) (own' := []) [(0, (Qhc p0)), (1, (Qh1 p1)), (6, I 0)] [] [] hφ0 (pc (.rn (.plain _ (nld Qaa _))) (pc (.rn (.plain _ (nld Qab _))) (pc rwl pn))) qn) ?_
    refine Qbp (τ := Int) (fun n t => Qc8 N p0 p1 k2 n t = some r) (fun y6 => ⟨mk 59 [(0, (Qhc p0)), (1, (Qh1 p1)), (6, I y6)], []⟩) (fun t h => by rw [Qc8] at h; cases h) (fun n8 ih y6 h => ?_) N (0) h
    rw [Qc8] at h
    skip
    refine wsq ?_
    refine wx tbk [(2, rp [(.tmp 20, (Qh1 p1))] (I ((p1.length : Int))))] ⟨alm (c := Qao) (l := p1) (aln rfl Try.underlying85 rfl), trivial⟩ ?_
    rcases bft ((decide (y6 < (p1.length : Int)))) with hc9 | hc9
    ·replace h := Qaw hc9 h
     refine wft hc9 (by kernel_rfl) ?_
     refine Qak ?_
     refine thn ?_
     refine wsq ?_
     refine Qae ?_
     obtain ⟨x10, hg11, h⟩ := bno h
     obtain ⟨hi12, hj13⟩ := gsm hg11
     obtain ⟨x15, hf14, h⟩ := bno h
     rcases bft ((!x15)) with hb16 | hb16
     ·replace h := Qaw hb16 h
      refine wx tbk [(2, rp [(.tmp 25, (Qh1 p1)), (.tmp 26, I y6)] (.dptr (Qao (x10)) 0)), (4, rp [fu 15, (.tmp 28, (Qs3 x10))] (B x15)), (6, rp [(.tmp 30, (B ((!x15))))] (B true))] ⟨aid rfl Try.underlying85 ti24 rfl rfl hi12 (mgt Qao hj13) rfl, apc (first := []) (cap := []) (vs := [(Qs3 x10)]) rfl enter15 (Ql6 N x10 _ hf14) rfl rfl (nlc (NLt.agg _ (nlc nll (nlc (nld Qbi _) nl0))) nl0) nll rfl, asb hb16 (amv rfl), trivial⟩ ?_
      refine Qhn (by kernel_rfl) ?_
      refine wx tbk [] trivial ?_
      refine Qaf ?_
      refine Qb0 ?_
      refine Qa4 ?_
      refine Qa4 ?_
      refine Qb0 ?_
      refine Qa4 ?_
      obtain rfl := osi h
      exact fend ⟨[B false], ⟨rot (by kernel_rfl), trivial⟩, rfl⟩ nll
     ·replace h := Qax hb16 h
      refine wx tbk [(2, rp [(.tmp 25, (Qh1 p1)), (.tmp 26, I y6)] (.dptr (Qao (x10)) 0)), (4, rp [fu 15, (.tmp 28, (Qs3 x10))] (B x15)), (6, rp [(.tmp 30, (B ((!x15))))] (B false)), (9, rp [(.tmp 31, B false), (.tmp 32, (Qh1 p1)), (.tmp 33, I y6)] (.dptr (Qao (x10)) 0)), (13, rp [(.tmp 31, B false), (.tmp 37, (Qhc p0))] (I ((p0.length : Int))))] ⟨aid rfl Try.underlying85 ti24 rfl rfl hi12 (mgt Qao hj13) rfl, apc (first := []) (cap := []) (vs := [(Qs3 x10)]) rfl enter15 (Ql6 N x10 _ hf14) rfl rfl (nlc (NLt.agg _ (nlc nll (nlc (nld Qbi _) nl0))) nl0) nll rfl, asb hb16 (amv rfl), ag_ (aid rfl Try.underlying85 ti24 rfl rfl hi12 (mgt Qao hj13) rfl), ag_ (alm (c := Qac) (l := p0) (aln rfl Try.underlying37 rfl)), trivial⟩ ?_
      rcases bft ((decide (x10.Inlet ≥ (p0.length : Int)))) with hc17 | hc17
      ·replace h := Qaw hc17 h
       refine wft hc17 (by kernel_rfl) ?_
       refine wx tbk [] trivial ?_
       refine Qaf ?_
       refine Qb0 ?_
       refine Qa4 ?_
       refine Qa4 ?_
       refine Qb0 ?_
       refine Qa4 ?_
       obtain rfl := osi h
       exact fend ⟨[B false], ⟨rot (by kernel_rfl), trivial⟩, rfl⟩ nll
      ·replace h := Qax hc17 h
       refine wfn hc17 (by kernel_rfl) ?_
       refine Qak ?_
       refine bln ?_
       refine thn ?_
       refine wx1 tbk [] trivial ?_
       refine thn ?_
       exact arm (mto (n := 59) [(0, (Qhc p0)), (1, (Qh1 p1)), (6, (I (w64 (y6 + 1))))] [] [] hφ0 (pc (.rn (.plain _ (nld Qaa _))) (pc (.rn (.plain _ (nld Qab _))) (pc rwl pn))) qn) (ih (w64 (y6 + 1)) h)
    ·replace h := Qax hc9 h
     refine wfn hc9 (by kernel_rfl) ?_
     refine Qa8 ?_
     refine Qap ?_
     refine Qap ?_
     refine Qa7 rfl ?_
     refine thn ?_
     exact ⟨(), h, (mto (n := 59) [(0, (Qhc p0)), (1, (Qh1 p1))] [] [] hφ0 (pc (.rn (.plain _ (nld Qaa _))) (pc (.rn (.plain _ (nld Qab _))) pn)) qn)⟩
  ·skip
   refine wx tbk [] trivial ?_
   refine Qae ?_
   refine wmr (mto (n := 59) (l' := [(0, (Qhc p0)), (1, (Qh1 p1)), (5, I 0)]) (own' := []) [(0, (Qhc p0)), (1, (Qh1 p1)), (5, I 0)] [] [] hφ0 (pc (.rn (.plain _ (nld Qaa _))) (pc (.rn (.plain _ (nld Qab _))) (pc rwl pn))) qn) ?_
   refine Qbp (τ := Int) (fun n t => Qc7 N p0 k1 n t = some r) (fun y18 => ⟨mk 59 [(0, (Qhc p0)), (1, (Qh1 p1)), (5, I y18)], []⟩) (fun t h => by rw [Qc7] at h; cases h) (fun n20 ih y18 h => ?_) N (0) h
   rw [Qc7] at h
   skip
   refine wsq ?_
   refine wx tbk [(2, rp [(.tmp 8, (Qhc p0))] (I ((p0.length : Int))))] ⟨alm (c := Qac) (l := p0) (aln rfl Try.underlying37 rfl), trivial⟩ ?_
   rcases bft ((decide (y18 < (p0.length : Int)))) with hc21 | hc21
   ·replace h := Qaw hc21 h
    refine wft hc21 (by kernel_rfl) ?_
    refine Qak ?_
    refine thn ?_
    refine wsq ?_
    refine Qae ?_
    obtain ⟨x22, hg23, h⟩ := bno h
    obtain ⟨hi24, hj25⟩ := gsm hg23
    obtain ⟨x27, hf26, h⟩ := bno h
    refine wx tbk [(2, rp [(.tmp 13, (Qhc p0)), (.tmp 14, I y18)] (.dptr (Qac (x22)) 0)), (4, rp [fu 25, (.tmp 16, I x22), ci 0, ci 1000000] (B x27))] ⟨aid rfl Try.underlying37 ti3 rfl rfl hi24 (mgt Qac hj25) rfl, apc (first := []) (cap := []) (vs := [I x22, I 0, I 1000000]) rfl Qif (Qdw N x22 0 1000000 _ hf26) rfl rfl (nlc nll (nlc nll (nlc nll nl0))) nll rfl, trivial⟩ ?_
    rcases bft ((!x27)) with hc28 | hc28
    ·replace h := Qaw hc28 h
     refine wft hc28 (by kernel_rfl) ?_
     refine wx tbk [] trivial ?_
     refine Qaf ?_
     refine Qb0 ?_
     refine Qa4 ?_
     refine Qa4 ?_
     refine Qb0 ?_
     refine Qa4 ?_
     obtain rfl := osi h
     exact fend ⟨[B false], ⟨rot (by kernel_rfl), trivial⟩, rfl⟩ nll
    ·replace h := Qax hc28 h
     refine wfn hc28 (by kernel_rfl) ?_
     refine Qak ?_
     refine bln ?_
     refine thn ?_
     refine wx1 tbk [] trivial ?_
     refine thn ?_
     exact arm (mto (n := 59) [(0, (Qhc p0)), (1, (Qh1 p1)), (5, (I (w64 (y18 + 1))))] [] [] hφ0 (pc (.rn (.plain _ (nld Qaa _))) (pc (.rn (.plain _ (nld Qab _))) (pc rwl pn))) qn) (ih (w64 (y18 + 1)) h)
   ·replace h := Qax hc21 h
    refine wfn hc21 (by kernel_rfl) ?_
    refine Qa8 ?_
    refine Qap ?_
    refine Qap ?_
    refine Qa7 rfl ?_
    refine thn ?_
    exact ⟨(), h, (mto (n := 59) [(0, (Qhc p0)), (1, (Qh1 p1))] [] [] hφ0 (pc (.rn (.plain _ (nld Qaa _))) (pc (.rn (.plain _ (nld Qab _))) pn)) qn)⟩
def Qel (N : Nat) (p0 : (List Int)) (k2 : Int → Option Int) : Nat → Int → Int → Option Int
  | 0, _, _ => none
  | n7 + 1, y3, y4 =>
    bif (decide (y4 < (p0.length : Int))) then
     (getI p0 y4).bind fun x9 =>
     Qel N p0 k2 n7 (w64 (y3 + x9)) (w64 (y4 + 1))
    else
     k2 (y3)
def Qhr (N : Nat) (p0 : (List Int)) (p1 : Int) : Option Int :=
  Qby (fun y1 =>
    some y1) fun k2 : Int → Option Int =>
  Qel N p0 k2 N 0 p1
def Qry (p0 : (List Int)) : AV := .dat 1 ((p0 : List Int).map Qac)
set_option maxRecDepth 100000 in
set_option maxHeartbeats 4000000 in
theorem Qnc (N : Nat) (p0 : (List Int)) (p1 : Int) (r : Int) (h : Qhr N p0 p1 = some r) : Spec Try.prog 86 [(.dat 1 (p0.map Qac)), (I p1)] [] (I r) [] := by
  refine Qad Try.func86 rfl 0 (nle rfl) (fun X φ0 w0 hφ0 => ?_)
  unfold Qhr at h
  refine wx tbk [] trivial ?_
  refine wx tbk [] trivial ?_
  obtain ⟨k2, hk_k2, h⟩ := jko h
  refine wjn (τ := Int) (fun t => k2 t = some r) (fun y1 => ⟨mk 21 [(5, I y1)], []⟩) (fun y1 h => ?_) ?_
  ·subst hk_k2
   refine wx tbk [] trivial ?_
   refine Qaf ?_
   obtain rfl := osi h
   exact fend ⟨[I y1], ⟨rot (by kernel_rfl), trivial⟩, rfl⟩ nll
  ·skip
   refine wx tbk [] trivial ?_
   refine Qae ?_
   refine wmr (mto (n := 21) (l' := [(0, (Qry p0)), (5, I 0), (6, I p1)]) (own' := []) [(0, (Qry p0)), (5, I 0), (6, I p1)] [] [] hφ0 (pc (.rn (.plain _ (nld Qaa _))) (pc rwl (pc rwl pn))) qn) ?_
   refine Qbp (τ := Int × Int) (fun n t => Qel N p0 k2 n t.1 t.2 = some r) (fun ⟨y3, y4⟩ => ⟨mk 21 [(0, (Qry p0)), (5, I y3), (6, I y4)], []⟩) (fun t h => by rw [Qel] at h; cases h) (fun n7 ih t h => ?_) N (0, p1) h
   obtain ⟨y3, y4⟩ := t
   rw [Qel] at h
   skip
   refine wsq ?_
   refine wx tbk [(2, rp [(.tmp 9, (Qry p0))] (I ((p0.length : Int))))] ⟨alm (c := Qac) (l := p0) (aln rfl Try.underlying37 rfl), trivial⟩ ?_
   rcases bft ((decide (y4 < (p0.length : Int)))) with hc8 | hc8
   ·replace h := Qaw hc8 h
    refine wft hc8 (by kernel_rfl) ?_
    refine Qak ?_
    refine thn ?_
    refine wsq ?_
    refine Qae ?_
    obtain ⟨x9, hg10, h⟩ := bno h
    obtain ⟨hi11, hj12⟩ := gsm hg10
    refine wx1 tbk [(3, rp [(.tmp 15, (Qry p0)), (.tmp 16, I y4)] (.dptr (Qac (x9)) 0))] ⟨aid rfl Try.underlying37 ti3 rfl rfl hi11 (mgt Qac hj12) rfl, trivial⟩ ?_
    refine bln ?_
    refine thn ?_
    refine wx1 tbk [] trivial ?_
    refine thn ?_
    exact arm (mto (n := 21) [(0, (Qry p0)), (5, (I (w64 (y3 + x9)))), (6, (I (w64 (y4 + 1))))] [] [] hφ0 (pc (.rn (.plain _ (nld Qaa _))) (pc rwl (pc rwl pn))) qn) (ih (w64 (y3 + x9), w64 (y4 + 1)) h)
   ·replace h := Qax hc8 h
    refine wfn hc8 (by kernel_rfl) ?_
    refine Qa8 ?_
    refine Qap ?_
    refine Qap ?_
    refine Qa7 rfl ?_
    refine thn ?_
    exact ⟨(y3), h, (mto (n := 21) [(5, I y3)] [] [] hφ0 (pc rwl pn) qn)⟩
def Qdb (N : Nat) (p1 : (List GUnit)) (p2 : (List Int)) (y4 : Int) (k10 : Int → Option Bool) : Nat → Int → Int → Option Bool
  | 0, _, _ => none
  | n18 + 1, y14, y15 =>
    bif (decide (y15 < (p1.length : Int))) then
     (getI p1 y15).bind fun x20 =>
     bif (decide (x20.Inlet ≥ y4)) then
      (getI p2 y15).bind fun x25 =>
      Qdb N p1 p2 y4 k10 n18 (w64 (y14 + x25)) (w64 (y15 + 1))
     else
      Qdb N p1 p2 y4 k10 n18 y14 (w64 (y15 + 1))
    else
     k10 (y14)
def Qcx (N : Nat) (p0 : (List Int)) (p1 : (List GUnit)) (p2 : (List Int)) (k3 : Unit → Option Bool) : Nat → Int → Option Bool
  | 0, _ => none
  | n6 + 1, y4 =>
    bif (decide (y4 < (p0.length : Int))) then
     Qby (fun _ =>
       Qcx N p0 p1 p2 k3 n6 (w64 (y4 + 1))) fun k8 : Unit → Option Bool =>
     Qby (fun y9 =>
       (Qhr N p0 y4).bind fun x12 =>
       bif (decide (y9 > x12)) then
        some false
       else
        k8 ()) fun k10 : Int → Option Bool =>
     Qdb N p1 p2 y4 k10 N 0 0
    else
     k3 ()
def Qdo (N : Nat) (p1 : (List GUnit)) (k2 : Unit → Option Bool) (p2 : (List Int)) : Nat → Int → Option Bool
  | 0, _ => none
  | n31 + 1, y29 =>
    bif (decide (y29 < (p1.length : Int))) then
     (getI p2 y29).bind fun x33 =>
     (getI p1 y29).bind fun x37 =>
     (Qg2 N x37).bind fun x42 =>
     (Qgm N x33 0 x42).bind fun x44 =>
     bif (!x44) then
      some false
     else
      Qdo N p1 k2 p2 n31 (w64 (y29 + 1))
    else
     k2 ()
def Qhh (N : Nat) (p0 : (List Int)) (p1 : (List GUnit)) (p2 : (List Int)) : Option Bool :=
  bif ((p2.length : Int) != (p1.length : Int)) then
   some false
  else
   Qby (fun _ =>
     Qby (fun _ =>
       some true) fun k3 : Unit → Option Bool =>
     Qcx N p0 p1 p2 k3 N 0) fun k2 : Unit → Option Bool =>
   Qdo N p1 k2 p2 N 0
def Qhb (p2 : (List Int)) : AV := .dat 1 ((p2 : List Int).map Qac)
def Qgv (p1 : (List GUnit)) : AV := .dat 2 ((p1 : List GUnit).map Qao)
def Qha (p0 : (List Int)) : AV := .dat 1 ((p0 : List Int).map Qac)
set_option maxRecDepth 100000 in
set_option maxHeartbeats 4000000 in
theorem Qpb (N : Nat) (p0 : (List Int)) (p1 : (List GUnit)) (p2 : (List Int)) (r : Bool) (h : Qhh N p0 p1 p2 = some r) : Spec Try.prog 85 [(.dat 1 (p0.map Qac)), (.dat 2 (p1.map Qao)), (.dat 1 (p2.map Qac))] [] (B r) [] := by
  refine Qad Try.func85 rfl 0 (nle rfl) (fun X φ0 w0 hφ0 => ?_)
  unfold Qhh at h
  refine wx tbk [] trivial ?_
  refine wsq ?_
  refine wx tbk [(1, rp [(.tmp 11, (Qhb p2))] (I ((p2.length : Int)))), (3, rp [(.tmp 13, (Qgv p1))] (I ((p1.length : Int))))] ⟨alm (c := Qac) (l := p2) (aln rfl Try.underlying37 rfl), alm (c := Qao) (l := p1) (aln rfl Try.underlying85 rfl), trivial⟩ ?_
  rcases bft (((p2.length : Int) != (p1.length : Int))) with hc1 | hc1
  ·replace h := Qaw hc1 h
   refine wft hc1 (by kernel_rfl) ?_
   refine wx tbk [] trivial ?_
   refine Qaf ?_
   refine Qa4 ?_
   obtain rfl := osi h
   exact fend ⟨[B false], ⟨rot (by kernel_rfl), trivial⟩, rfl⟩ nll
  ·replace h := Qax hc1 h
   refine wfn hc1 (by kernel_rfl) ?_
   refine Qak ?_
   refine thn ?_
   obtain ⟨k2, hk_k2, h⟩ := jko h
   refine wjn (τ := Unit) (fun t => k2 t = some r) (fun _ => ⟨mk 63 [(0, (Qha p0)), (1, (Qgv p1)), (2, (Qhb p2))], []⟩) (fun t h => ?_) ?_
   ·subst hk_k2
    obtain ⟨k3, hk_k3, h⟩ := jko h
    refine wjn (τ := Unit) (fun t => k3 t = some r) (fun _ => ⟨mk 63 [], []⟩) (fun t h => ?_) ?_
    ·subst hk_k3
     refine wx tbk [] trivial ?_
     refine Qaf ?_
     obtain rfl := osi h
     exact fend ⟨[B true], ⟨rot (by kernel_rfl), trivial⟩, rfl⟩ nll
    ·skip
     refine wx tbk [] trivial ?_
     refine Qae ?_
     refine wmr (mto (n := 63) (l' := [(0, (Qha p0)), (1, (Qgv p1)), (2, (Qhb p2)), (8, I 0)]) (own' := []) [(0, (Qha p0)), (1, (Qgv p1)), (2, (Qhb p2)), (8, I 0)] [] [] hφ0 (pc (.rn (.plain _ (nld Qaa _))) (pc (.rn (.plain _ (nld Qab _))) (pc (.rn (.plain _ (nld Qaa _))) (pc rwl pn)))) qn) ?_
     refine Qbp (τ := Int) (fun n t => Qcx N p0 p1 p2 k3 n t = some r) (fun y4 => ⟨mk 63 [(0, (Qha p0)), (1, (Qgv p1)), (2, (Qhb p2)), (8, I y4)], []⟩) (fun t h => by rw [Qcx] at h; cases h) (fun n6 ih y4 h => ?_) N (0) h
     rw [Qcx] at h
     skip
     refine wsq ?_
     refine wx tbk [(2, rp [(.tmp 34, (Qha p0))] (I ((p0.length : Int))))] ⟨alm (c := Qac) (l := p0) (aln rfl Try.underlying37 rfl), trivial⟩ ?_
     rcases bft ((decide (y4 < (p0.length : Int)))) with hc7 | hc7
     ·replace h := Qaw hc7 h
      refine wft hc7 (by kernel_rfl) ?_
      refine Qak ?_
      refine thn ?_
      obtain ⟨k8, hk_k8, h⟩ := jko h
      refine wjn (τ := Unit) (fun t => k8 t = some r) (fun _ => ⟨mk 63 [(0, (Qha p0)), (1, (Qgv p1)), (2, (Qhb p2)), (8, I y4)], []⟩) (fun t h => ?_) ?_
      ·subst hk_k8
       refine wx1 tbk [] trivial ?_
       refine thn ?_
       exact arm (mto (n := 63) [(0, (Qha p0)), (1, (Qgv p1)), (2, (Qhb p2)), (8, (I (w64 (y4 + 1))))] [] [] hφ0 (pc (.rn (.plain _ (nld Qaa _))) (pc (.rn (.plain _ (nld Qab _))) (pc (.rn (.plain _ (nld Qaa _))) (pc rwl pn)))) qn) (ih (w64 (y4 + 1)) h)
      ·skip
       refine Qae ?_
       refine wx tbk [] trivial ?_
       obtain ⟨k10, hk_k10, h⟩ := jko h
       refine wjn (τ := Int) (fun t => k10 t = some r) (fun y9 => ⟨mk 63 [(0, (Qha p0)), (1, (Qgv p1)), (2, (Qhb p2)), (8, I y4), (9, I y9)], []⟩) (fun y9 h => ?_) ?_
       ·subst hk_k10
        obtain ⟨x12, hf11, h⟩ := bno h
        refine wx tbk [(3, rp [fu 86, (.tmp 59, (Qha p0)), (.tmp 60, I y4)] (I x12))] ⟨apc (first := []) (cap := []) (vs := [(Qha p0), I y4]) rfl enter86 (Qnc N p0 y4 _ hf11) rfl rfl (nlc (nld Qaa _) (nlc nll nl0)) nll rfl, trivial⟩ ?_
        rcases bft ((decide (y9 > x12))) with hc13 | hc13
        ·replace h := Qaw hc13 h
         refine wft hc13 (by kernel_rfl) ?_
         refine wx tbk [] trivial ?_
         refine Qaf ?_
         refine Qb0 ?_
         refine Qa4 ?_
         refine Qa4 ?_
         refine Qb0 ?_
         refine Qa4 ?_
         obtain rfl := osi h
         exact fend ⟨[B false], ⟨rot (by kernel_rfl), trivial⟩, rfl⟩ nll
        ·replace h := Qax hc13 h
         refine wfn hc13 (by kernel_rfl) ?_
         refine Qak ?_
         refine bln ?_
         refine thn ?_
         exact ⟨(), h, (mto (n := 63) [(0, (Qha p0)), (1, (Qgv p1)), (2, (Qhb p2)), (8, I y4)] [] [] hφ0 (pc (.rn (.plain _ (nld Qaa _))) (pc (.rn (.plain _ (nld Qab _))) (pc (.rn (.plain _ (nld Qaa _))) (pc rwl pn)))) qn)⟩
       ·skip
        refine wx tbk [] trivial ?_
        refine Qae ?_
        refine wmr (mto (n := 63) (l' := [(0, (Qha p0)), (1, (Qgv p1)), (2, (Qhb p2)), (8, I y4), (9, I 0), (10, I 0)]) (own' := []) [(0, (Qha p0)), (1, (Qgv p1)), (2, (Qhb p2)), (8, I y4), (9, I 0), (10, I 0)] [] [] hφ0 (pc (.rn (.plain _ (nld Qaa _))) (pc (.rn (.plain _ (nld Qab _))) (pc (.rn (.plain _ (nld Qaa _))) (pc rwl (pc rwl (pc rwl pn)))))) qn) ?_
        refine Qbp (τ := Int × Int) (fun n t => Qdb N p1 p2 y4 k10 n t.1 t.2 = some r) (fun ⟨y14, y15⟩ => ⟨mk 63 [(0, (Qha p0)), (1, (Qgv p1)), (2, (Qhb p2)), (8, I y4), (9, I y14), (10, I y15)], []⟩) (fun t h => by rw [Qdb] at h; cases h) (fun n18 ih t h => ?_) N (0, 0) h
        obtain ⟨y14, y15⟩ := t
        rw [Qdb] at h
        skip
        refine wsq ?_
        refine wx tbk [(2, rp [(.tmp 40, (Qgv p1))] (I ((p1.length : Int))))] ⟨alm (c := Qao) (l := p1) (aln rfl Try.underlying85 rfl), trivial⟩ ?_
        rcases bft ((decide (y15 < (p1.length : Int)))) with hc19 | hc19
        ·replace h := Qaw hc19 h
         refine wft hc19 (by kernel_rfl) ?_
         refine Qak ?_
         refine thn ?_
         refine wsq ?_
         refine Qae ?_
         obtain ⟨x20, hg21, h⟩ := bno h
         obtain ⟨hi22, hj23⟩ := gsm hg21
         refine wx tbk [(2, rp [(.tmp 45, (Qgv p1)), (.tmp 46, I y15)] (.dptr (Qao (x20)) 0))] ⟨aid rfl Try.underlying85 ti24 rfl rfl hi22 (mgt Qao hj23) rfl, trivial⟩ ?_
         rcases bft ((decide (x20.Inlet ≥ y4))) with hc24 | hc24
         ·replace h := Qaw hc24 h
          refine wft hc24 (by kernel_rfl) ?_
          obtain ⟨x25, hg26, h⟩ := bno h
          obtain ⟨hi27, hj28⟩ := gsm hg26
          refine wx1 tbk [(3, rp [(.tmp 53, (Qhb p2)), (.tmp 54, I y15)] (.dptr (Qac (x25)) 0))] ⟨aid rfl Try.underlying37 ti3 rfl rfl hi27 (mgt Qac hj28) rfl, trivial⟩ ?_
          refine bln ?_
          refine thn ?_
          refine wx1 tbk [] trivial ?_
          refine thn ?_
          exact arm (mto (n := 63) [(0, (Qha p0)), (1, (Qgv p1)), (2, (Qhb p2)), (8, I y4), (9, (I (w64 (y14 + x25)))), (10, (I (w64 (y15 + 1))))] [] [] hφ0 (pc (.rn (.plain _ (nld Qaa _))) (pc (.rn (.plain _ (nld Qab _))) (pc (.rn (.plain _ (nld Qaa _))) (pc rwl (pc rwl (pc rwl pn)))))) qn) (ih (w64 (y14 + x25), w64 (y15 + 1)) h)
         ·replace h := Qax hc24 h
          refine wfn hc24 (by kernel_rfl) ?_
          refine Qak ?_
          refine bln ?_
          refine thn ?_
          refine wx1 tbk [] trivial ?_
          refine thn ?_
          exact arm (mto (n := 63) [(0, (Qha p0)), (1, (Qgv p1)), (2, (Qhb p2)), (8, I y4), (9, I y14), (10, (I (w64 (y15 + 1))))] [] [] hφ0 (pc (.rn (.plain _ (nld Qaa _))) (pc (.rn (.plain _ (nld Qab _))) (pc (.rn (.plain _ (nld Qaa _))) (pc rwl (pc rwl (pc rwl pn)))))) qn) (ih (y14, w64 (y15 + 1)) h)
        ·replace h := Qax hc19 h
         refine wfn hc19 (by kernel_rfl) ?_
         refine Qa8 ?_
         refine Qap ?_
         refine Qap ?_
         refine Qa7 rfl ?_
         refine thn ?_
         exact ⟨(y14), h, (mto (n := 63) [(0, (Qha p0)), (1, (Qgv p1)), (2, (Qhb p2)), (8, I y4), (9, I y14)] [] [] hφ0 (pc (.rn (.plain _ (nld Qaa _))) (pc (.rn (.plain _ (nld Qab _))) (pc (.rn (.plain _ (nld Qaa _))) (pc rwl (pc rwl pn))))) qn)⟩
     ·replace h := Qax hc7 h
      refine wfn hc7 (by kernel_rfl) ?_
      refine Qa8 ?_
      refine Qap ?_
      refine Qap ?_
      refine Qa7 rfl ?_
      refine thn ?_
      exact ⟨(), h, (mto (n := 63) [] [] [] hφ0 pn qn)⟩
   ·skip
    refine wx tbk [] trivial ?_
    refine Qae ?_
    refine wmr (mto (n := 63) (l' := [(0, (Qha p0)), (1, (Qgv p1)), (2, (Qhb p2)), (7, I 0)]) (own' := []) [(0, (Qha p0)), (1, (Qgv p1)), (2, (Qhb p2)), (7, I 0)] [] [] hφ0 (pc (.rn (.plain _ (nld Qaa _))) (pc (.rn (.plain _ (nld Qab _))) (pc (.rn (.plain _ (nld Qaa _))) (pc rwl pn)))) qn) ?_
    refine Qbp (τ := Int) (fun n t => Qdo N p1 k2 p2 n t = some r) (fun y29 => ⟨mk 63 [(0, (Qha p0)), (1, (Qgv p1)), (2, (Qhb p2)), (7, I y29)], []⟩) (fun t h => by rw [Qdo] at h; cases h) (fun n31 ih y29 h => ?_) N (0) h
    rw [Qdo] at h
    skip
    refine wsq ?_
    refine wx tbk [(2, rp [(.tmp 17, (Qgv p1))] (I ((p1.length : Int))))] ⟨alm (c := Qao) (l := p1) (aln rfl Try.underlying85 rfl), trivial⟩ ?_
    rcases bft ((decide (y29 < (p1.length : Int)))) with hc32 | hc32
    ·replace h := Qaw hc32 h
     refine wft hc32 (by kernel_rfl) ?_
     refine Qak ?_
     refine thn ?_
     refine wsq ?_
     refine Qae ?_
     obtain ⟨x33, hg34, h⟩ := bno h
     obtain ⟨hi35, hj36⟩ := gsm hg34
     obtain ⟨x37, hg38, h⟩ := bno h
     obtain ⟨hi39, hj40⟩ := gsm hg38
     obtain ⟨x42, hf41, h⟩ := bno h
     obtain ⟨x44, hf43, h⟩ := bno h
     refine wxd tbk [(2, rp [(.tmp 22, (Qhb p2)), (.tmp 23, I y29)] (.dptr (Qac (x33)) 0)), (6, rp [(.tmp 26, (Qgv p1)), (.tmp 27, I y29)] (.dptr (Qao (x37)) 0)), (8, rp [fu 16, (.tmp 29, (.agg [I x37.Inlet, (.dat 2 ((x37.Parts : List GPart).map Qav))]))] (I x42)), (9, rp [fu 25, (.tmp 25, I x33), ci 0, (.tmp 30, I x42)] (B x44))] ⟨aid rfl Try.underlying37 ti3 rfl rfl hi35 (mgt Qac hj36) rfl, aid rfl Try.underlying85 ti24 rfl rfl hi39 (mgt Qao hj40) rfl, apc (first := []) (cap := []) (vs := [(.agg [I x37.Inlet, (.dat 2 ((x37.Parts : List GPart).map Qav))])]) rfl enter16 (Qn4 N x37 _ hf41) rfl rfl (nlc (NLt.agg _ (nlc nll (nlc (nld Qbi _) nl0))) nl0) nll rfl, apc (first := []) (cap := []) (vs := [I x33, I 0, I x42]) rfl Qif (Qdw N x33 0 x42 _ hf43) rfl rfl (nlc nll (nlc nll (nlc nll nl0))) nll rfl, trivial⟩ ?_
     rcases bft ((!x44)) with hc45 | hc45
     ·replace h := Qaw hc45 h
      refine wft hc45 (by kernel_rfl) ?_
      refine wx tbk [] trivial ?_
      refine Qaf ?_
      refine Qb0 ?_
      refine Qa4 ?_
      refine Qa4 ?_
      refine Qb0 ?_
      refine Qa4 ?_
      obtain rfl := osi h
      exact fend ⟨[B false], ⟨rot (by kernel_rfl), trivial⟩, rfl⟩ nll
     ·replace h := Qax hc45 h
      refine wfn hc45 (by kernel_rfl) ?_
      refine Qak ?_
      refine bln ?_
      refine thn ?_
      refine wx1 tbk [] trivial ?_
      refine thn ?_
      exact arm (mto (n := 63) [(0, (Qha p0)), (1, (Qgv p1)), (2, (Qhb p2)), (7, (I (w64 (y29 + 1))))] [] [] hφ0 (pc (.rn (.plain _ (nld Qaa _))) (pc (.rn (.plain _ (nld Qab _))) (pc (.rn (.plain _ (nld Qaa _))) (pc rwl pn)))) qn) (ih (w64 (y29 + 1)) h)
    ·replace h := Qax hc32 h
     refine wfn hc32 (by kernel_rfl) ?_
     refine Qa8 ?_
     refine Qap ?_
     refine Qap ?_
     refine Qa7 rfl ?_
     refine thn ?_
     exact ⟨(), h, (mto (n := 63) [(0, (Qha p0)), (1, (Qgv p1)), (2, (Qhb p2))] [] [] hφ0 (pc (.rn (.plain _ (nld Qaa _))) (pc (.rn (.plain _ (nld Qab _))) (pc (.rn (.plain _ (nld Qaa _))) pn))) qn)⟩
def Qek (N : Nat) (p0 : (List GUnit)) (p1 : (List Int)) (k2 : Int → Option Int) : Nat → Int → Int → Option Int
  | 0, _, _ => none
  | n7 + 1, y3, y4 =>
    bif (decide (y4 < (p0.length : Int))) then
     (getI p0 y4).bind fun x9 =>
     (getI p1 y4).bind fun x13 =>
     (Qi2 N x9 x13).bind fun x18 =>
     Qek N p0 p1 k2 n7 (w64 (y3 + x18)) (w64 (y4 + 1))
    else
     k2 (y3)
def Qj2 (N : Nat) (p0 : (List GUnit)) (p1 : (List Int)) : Option Int :=
  Qby (fun y1 =>
    some y1) fun k2 : Int → Option Int =>
  Qek N p0 p1 k2 N 0 0
def Qrx (p0 : (List GUnit)) : AV := .dat 2 ((p0 : List GUnit).map Qao)
def Qu1 (p1 : (List Int)) : AV := .dat 1 ((p1 : List Int).map Qac)
set_option maxRecDepth 100000 in
set_option maxHeartbeats 4000000 in
theorem Qnb (N : Nat) (p0 : (List GUnit)) (p1 : (List Int)) (r : Int) (h : Qj2 N p0 p1 = some r) : Spec Try.prog 49 [(.dat 2 (p0.map Qao)), (.dat 1 (p1.map Qac))] [] (I r) [] := by
  refine Qad Try.func49 rfl 0 (nle rfl) (fun X φ0 w0 hφ0 => ?_)
  unfold Qj2 at h
  refine wx tbk [] trivial ?_
  refine wx tbk [] trivial ?_
  obtain ⟨k2, hk_k2, h⟩ := jko h
  refine wjn (τ := Int) (fun t => k2 t = some r) (fun y1 => ⟨mk 25 [(5, I y1)], []⟩) (fun y1 h => ?_) ?_
  ·subst hk_k2
   refine wx tbk [] trivial ?_
   refine Qaf ?_
   obtain rfl := osi h
   exact fend ⟨[I y1], ⟨rot (by kernel_rfl), trivial⟩, rfl⟩ nll
  ·skip
   refine wx tbk [] trivial ?_
   refine Qae ?_
   refine wmr (mto (n := 25) (l' := [(0, (Qrx p0)), (1, (Qu1 p1)), (5, I 0), (6, I 0)]) (own' := []) [(0, (Qrx p0)), (1, (Qu1 p1)), (5, I 0), (6, I 0)] [] [] hφ0 (pc (.rn (.plain _ (nld Qab _))) (pc (.rn (.plain _ (nld Qaa _))) (pc rwl (pc rwl pn)))) qn) ?_
   refine Qbp (τ := Int × Int) (fun n t => Qek N p0 p1 k2 n t.1 t.2 = some r) (fun ⟨y3, y4⟩ => ⟨mk 25 [(0, (Qrx p0)), (1, (Qu1 p1)), (5, I y3), (6, I y4)], []⟩) (fun t h => by rw [Qek] at h; cases h) (fun n7 ih t h => ?_) N (0, 0) h
   obtain ⟨y3, y4⟩ := t
   rw [Qek] at h
   skip
   refine wsq ?_
   refine wx tbk [(2, rp [(.tmp 8, (Qrx p0))] (I ((p0.length : Int))))] ⟨alm (c := Qao) (l := p0) (aln rfl Try.underlying85 rfl), trivial⟩ ?_
   rcases bft ((decide (y4 < (p0.length : Int)))) with hc8 | hc8
   ·replace h := Qaw hc8 h
    refine wft hc8 (by kernel_rfl) ?_
    refine Qak ?_
    refine thn ?_
    refine wsq ?_
    refine Qae ?_
    obtain ⟨x9, hg10, h⟩ := bno h
    obtain ⟨hi11, hj12⟩ := gsm hg10
    obtain ⟨x13, hg14, h⟩ := bno h
    obtain ⟨hi15, hj16⟩ := gsm hg14
    obtain ⟨x18, hf17, h⟩ := bno h
    refine wy1 tbk [(3, rp [(.tmp 14, (Qrx p0)), (.tmp 15, I y4)] (.dptr (Qao (x9)) 0)), (7, rp [(.tmp 18, (Qu1 p1)), (.tmp 19, I y4)] (.dptr (Qac (x13)) 0)), (9, rp [fu 26, (.tmp 17, (.agg [I x9.Inlet, (.dat 2 ((x9.Parts : List GPart).map Qav))])), (.tmp 21, I x13)] (I x18))] ⟨aid rfl Try.underlying85 ti24 rfl rfl hi11 (mgt Qao hj12) rfl, aid rfl Try.underlying37 ti3 rfl rfl hi15 (mgt Qac hj16) rfl, apc (first := []) (cap := []) (vs := [(.agg [I x9.Inlet, (.dat 2 ((x9.Parts : List GPart).map Qav))]), I x13]) rfl enter26 (Qqr N x9 x13 _ hf17) rfl rfl (nlc (NLt.agg _ (nlc nll (nlc (nld Qbi _) nl0))) (nlc nll nl0)) nll rfl, trivial⟩ ?_
    refine bln ?_
    refine thn ?_
    refine wx1 tbk [] trivial ?_
    refine thn ?_
    exact arm (mto (n := 25) [(0, (Qrx p0)), (1, (Qu1 p1)), (5, (I (w64 (y3 + x18)))), (6, (I (w64 (y4 + 1))))] [] [] hφ0 (pc (.rn (.plain _ (nld Qab _))) (pc (.rn (.plain _ (nld Qaa _))) (pc rwl (pc rwl pn)))) qn) (ih (w64 (y3 + x18), w64 (y4 + 1)) h)
   ·replace h := Qax hc8 h
    refine wfn hc8 (by kernel_rfl) ?_
    refine Qa8 ?_
    refine Qap ?_
    refine Qap ?_
    refine Qa7 rfl ?_
    refine thn ?_
    exact ⟨(y3), h, (mto (n := 25) [(5, I y3)] [] [] hφ0 (pc rwl pn) qn)⟩
def Qjt (N : Nat) (p0 : (List Int)) (p1 : (List GUnit)) (p2 : (List Int)) : Option Bool :=
  (Qhh N p0 p1 p2).bind fun x2 =>
  some x2
set_option maxRecDepth 100000 in
set_option maxHeartbeats 4000000 in
theorem Qhm (N : Nat) (p0 : (List Int)) (p1 : (List GUnit)) (p2 : (List Int)) (r : Bool) (h : Qjt N p0 p1 p2 = some r) : Spec Try.prog 48 [(.dat 1 (p0.map Qac)), (.dat 2 (p1.map Qao)), (.dat 1 (p2.map Qac))] [] (B r) [] := by
  refine Qad Try.func48 rfl 0 (nle rfl) (fun X φ0 w0 hφ0 => ?_)
  unfold Qjt at h
  refine wx tbk [] trivial ?_
  obtain ⟨x2, hf1, h⟩ := bno h
  refine wx tbk [(3, rp [fu 85, (.tmp 7, (.dat 1 ((p0 : List Int).map Qac))), (.tmp 8, (.dat 2 ((p1 : List GUnit).map Qao))), (.tmp 9, (.dat 1 ((p2 : List Int).map Qac)))] (B x2))] ⟨apc (first := []) (cap := []) (vs := [(.dat 1 ((p0 : List Int).map Qac)), (.dat 2 ((p1 : List GUnit).map Qao)), (.dat 1 ((p2 : List Int).map Qac))]) rfl enter85 (Qpb N p0 p1 p2 _ hf1) rfl rfl (nlc (nld Qaa _) (nlc (nld Qab _) (nlc (nld Qaa _) nl0))) nll rfl, trivial⟩ ?_
  refine Qaf ?_
  obtain rfl := osi h
  exact fend ⟨[B x2], ⟨rot (by kernel_rfl), trivial⟩, rfl⟩ nll
def Qcz (N : Nat) (k1 : Unit → Option Bool) (p1 : (List Int)) : Nat → Int → Option Bool
  | 0, _ => none
  | n4 + 1, y2 =>
    bif (decide (y2 < (p1.length : Int))) then
     (getI p1 y2).bind fun x6 =>
     (Qgm N x6 0 1000).bind fun x11 =>
     bif (!x11) then
      some false
     else
      Qcz N k1 p1 n4 (w64 (y2 + 1))
    else
     k1 ()
def Qfx (N : Nat) (p0 : (List Int)) (p1 : (List Int)) : Option Bool :=
  Qby (fun _ =>
    some ((p1.length : Int) == (p0.length : Int))) fun k1 : Unit → Option Bool =>
  Qcz N k1 p1 N 0
def Qqg (p0 : (List Int)) : AV := .dat 1 ((p0 : List Int).map Qac)
def Qnz (p1 : (List Int)) : AV := .dat 1 ((p1 : List Int).map Qac)
set_option maxRecDepth 100000 in
set_option maxHeartbeats 4000000 in
theorem Qg1 (N : Nat) (p0 : (List Int)) (p1 : (List Int)) (r : Bool) (h : Qfx N p0 p1 = some r) : Spec Try.prog 51 [(.dat 1 (p0.map Qac)), (.dat 1 (p1.map Qac))] [] (B r) [] := by
  refine Qad Try.func51 rfl 0 (nle rfl) (fun X φ0 w0 hφ0 => ?_)
  unfold Qfx at h
  refine wx tbk [] trivial ?_
  obtain ⟨k1, hk_k1, h⟩ := jko h
  refine wjn (τ := Unit) (fun t => k1 t = some r) (fun _ => ⟨mk 23 [(0, (Qqg p0)), (1, (Qnz p1))], []⟩) (fun t h => ?_) ?_
  ·subst hk_k1
   refine wx tbk [(1, rp [(.tmp 18, (Qnz p1))] (I ((p1.length : Int)))), (3, rp [(.tmp 20, (Qqg p0))] (I ((p0.length : Int))))] ⟨alm (c := Qac) (l := p1) (aln rfl Try.underlying37 rfl), alm (c := Qac) (l := p0) (aln rfl Try.underlying37 rfl), trivial⟩ ?_
   refine Qaf ?_
   obtain rfl := osi h
   exact fend ⟨[(B (((p1.length : Int) == (p0.length : Int))))], ⟨rot (by kernel_rfl), trivial⟩, rfl⟩ nll
  ·skip
   refine wx tbk [] trivial ?_
   refine Qae ?_
   refine wmr (mto (n := 23) (l' := [(0, (Qqg p0)), (1, (Qnz p1)), (5, I 0)]) (own' := []) [(0, (Qqg p0)), (1, (Qnz p1)), (5, I 0)] [] [] hφ0 (pc (.rn (.plain _ (nld Qaa _))) (pc (.rn (.plain _ (nld Qaa _))) (pc rwl pn))) qn) ?_
   refine Qbp (τ := Int) (fun n t => Qcz N k1 p1 n t = some r) (fun y2 => ⟨mk 23 [(0, (Qqg p0)), (1, (Qnz p1)), (5, I y2)], []⟩) (fun t h => by rw [Qcz] at h; cases h) (fun n4 ih y2 h => ?_) N (0) h
   rw [Qcz] at h
   skip
   refine wsq ?_
   refine wx tbk [(2, rp [(.tmp 7, (Qnz p1))] (I ((p1.length : Int))))] ⟨alm (c := Qac) (l := p1) (aln rfl Try.underlying37 rfl), trivial⟩ ?_
   rcases bft ((decide (y2 < (p1.length : Int)))) with hc5 | hc5
   ·replace h := Qaw hc5 h
    refine wft hc5 (by kernel_rfl) ?_
    refine Qak ?_
    refine thn ?_
    refine wsq ?_
    refine Qae ?_
    obtain ⟨x6, hg7, h⟩ := bno h
    obtain ⟨hi8, hj9⟩ := gsm hg7
    obtain ⟨x11, hf10, h⟩ := bno h
    refine wx tbk [(2, rp [(.tmp 12, (Qnz p1)), (.tmp 13, I y2)] (.dptr (Qac (x6)) 0)), (4, rp [fu 25, (.tmp 15, I x6), ci 0, ci 1000] (B x11))] ⟨aid rfl Try.underlying37 ti3 rfl rfl hi8 (mgt Qac hj9) rfl, apc (first := []) (cap := []) (vs := [I x6, I 0, I 1000]) rfl Qif (Qdw N x6 0 1000 _ hf10) rfl rfl (nlc nll (nlc nll (nlc nll nl0))) nll rfl, trivial⟩ ?_
    rcases bft ((!x11)) with hc12 | hc12
    ·replace h := Qaw hc12 h
     refine wft hc12 (by kernel_rfl) ?_
     refine wx tbk [] trivial ?_
     refine Qaf ?_
     refine Qb0 ?_
     refine Qa4 ?_
     refine Qa4 ?_
     refine Qb0 ?_
     refine Qa4 ?_
     obtain rfl := osi h
     exact fend ⟨[B false], ⟨rot (by kernel_rfl), trivial⟩, rfl⟩ nll
    ·replace h := Qax hc12 h
     refine wfn hc12 (by kernel_rfl) ?_
     refine Qak ?_
     refine bln ?_
     refine thn ?_
     refine wx1 tbk [] trivial ?_
     refine thn ?_
     exact arm (mto (n := 23) [(0, (Qqg p0)), (1, (Qnz p1)), (5, (I (w64 (y2 + 1))))] [] [] hφ0 (pc (.rn (.plain _ (nld Qaa _))) (pc (.rn (.plain _ (nld Qaa _))) (pc rwl pn))) qn) (ih (w64 (y2 + 1)) h)
   ·replace h := Qax hc5 h
    refine wfn hc5 (by kernel_rfl) ?_
    refine Qa8 ?_
    refine Qap ?_
    refine Qap ?_
    refine Qa7 rfl ?_
    refine thn ?_
    exact ⟨(), h, (mto (n := 23) [(0, (Qqg p0)), (1, (Qnz p1))] [] [] hφ0 (pc (.rn (.plain _ (nld Qaa _))) (pc (.rn (.plain _ (nld Qaa _))) pn)) qn)⟩
def Qec (N : Nat) (p1 : (List GUnit)) (y6 : Int) (k12 : Int → Option Int) (y13 : Int) : Nat → Int → Int → Option Int
  | 0, _, _ => none
  | n19 + 1, y15, y16 =>
    (getI p1 y6).bind fun x20 =>
    bif (decide (y16 < (x20.Parts.length : Int))) then
     (getI x20.Parts y16).bind fun x25 =>
     (some (if (w64 (x25.Gain - y13)) > 0 then w64 (x25.Gain - y13) else 0)).bind fun x29 =>
     (some (w64 (y15 + (w64 (x25.Width * x29))))).bind fun x31 =>
     Qec N p1 y6 k12 y13 n19 x31 (w64 (y16 + 1))
    else
     k12 (y15)
def Qeb (N : Nat) (p1 : (List GUnit)) (p2 : (List Int)) (y6 : Int) (k14 : Int → Option Int) : Nat → Int → Int → Option Int
  | 0, _, _ => none
  | n37 + 1, y33, y34 =>
    (getI p1 y6).bind fun x38 =>
    bif (decide (y34 ≤ x38.Inlet)) then
     (getI p2 y34).bind fun x43 =>
     Qeb N p1 p2 y6 k14 n37 (w64 (y33 + x43)) (w64 (y34 + 1))
    else
     k14 (y33)
def Qdf (N : Nat) (p1 : (List GUnit)) (p2 : (List Int)) (k4 : Int → Option Int) : Nat → Int → Int → Option Int
  | 0, _, _ => none
  | n9 + 1, y5, y6 =>
    bif (decide (y6 < (p1.length : Int))) then
     Qby (fun y11 =>
       Qdf N p1 p2 k4 n9 y11 (w64 (y6 + 1))) fun k12 : Int → Option Int =>
     Qby (fun y13 =>
       Qec N p1 y6 k12 y13 N y5 0) fun k14 : Int → Option Int =>
     Qeb N p1 p2 y6 k14 N 0 0
    else
     k4 (y5)
def Qea (N : Nat) (p0 : (List Int)) (k2 : Int → Option Int) (p2 : (List Int)) : Nat → Int → Int → Option Int
  | 0, _, _ => none
  | n51 + 1, y47, y48 =>
    bif (decide (y48 < (p0.length : Int))) then
     (getI p2 y48).bind fun x53 =>
     (Qhr N p0 y48).bind fun x58 =>
     (some (w64 (y47 + (w64 (x53 * x58))))).bind fun x59 =>
     Qea N p0 k2 p2 n51 x59 (w64 (y48 + 1))
    else
     k2 (y47)
def Qi3 (N : Nat) (p0 : (List Int)) (p1 : (List GUnit)) (p2 : (List Int)) : Option Int :=
  Qby (fun y1 =>
    Qby (fun y3 =>
      some y3) fun k4 : Int → Option Int =>
    Qdf N p1 p2 k4 N y1 0) fun k2 : Int → Option Int =>
  Qea N p0 k2 p2 N 0 0
def Qga (p1 : (List GUnit)) : AV := .dat 2 ((p1 : List GUnit).map Qao)
def Qgu (p2 : (List Int)) : AV := .dat 1 ((p2 : List Int).map Qac)
def Qw1 (x20 : GUnit) : AV := .dat 2 ((x20.Parts : List GPart).map Qav)
def Qqf (p0 : (List Int)) : AV := .dat 1 ((p0 : List Int).map Qac)
set_option maxRecDepth 100000 in
set_option maxHeartbeats 4000000 in
theorem Qqs (N : Nat) (p0 : (List Int)) (p1 : (List GUnit)) (p2 : (List Int)) (r : Int) (h : Qi3 N p0 p1 p2 = some r) : Spec Try.prog 52 [(.dat 1 (p0.map Qac)), (.dat 2 (p1.map Qao)), (.dat 1 (p2.map Qac))] [] (I r) [] := by
  refine Qad Try.func52 rfl 0 (nle rfl) (fun X φ0 w0 hφ0 => ?_)
  unfold Qi3 at h
  refine wx tbk [] trivial ?_
  refine wx tbk [] trivial ?_
  obtain ⟨k2, hk_k2, h⟩ := jko h
  refine wjn (τ := Int) (fun t => k2 t = some r) (fun y1 => ⟨mk 85 [(1, (Qga p1)), (2, (Qgu p2)), (7, I y1)], []⟩) (fun y1 h => ?_) ?_
  ·subst hk_k2
   obtain ⟨k4, hk_k4, h⟩ := jko h
   refine wjn (τ := Int) (fun t => k4 t = some r) (fun y3 => ⟨mk 85 [(7, I y3)], []⟩) (fun y3 h => ?_) ?_
   ·subst hk_k4
    refine wx tbk [] trivial ?_
    refine Qaf ?_
    obtain rfl := osi h
    exact fend ⟨[I y3], ⟨rot (by kernel_rfl), trivial⟩, rfl⟩ nll
   ·skip
    refine wx tbk [] trivial ?_
    refine Qae ?_
    refine wmr (mto (n := 85) (l' := [(1, (Qga p1)), (2, (Qgu p2)), (7, I y1), (9, I 0)]) (own' := []) [(1, (Qga p1)), (2, (Qgu p2)), (7, I y1), (9, I 0)] [] [] hφ0 (pc (.rn (.plain _ (nld Qab _))) (pc (.rn (.plain _ (nld Qaa _))) (pc rwl (pc rwl pn)))) qn) ?_
    refine Qbp (τ := Int × Int) (fun n t => Qdf N p1 p2 k4 n t.1 t.2 = some r) (fun ⟨y5, y6⟩ => ⟨mk 85 [(1, (Qga p1)), (2, (Qgu p2)), (7, I y5), (9, I y6)], []⟩) (fun t h => by rw [Qdf] at h; cases h) (fun n9 ih t h => ?_) N (y1, 0) h
    obtain ⟨y5, y6⟩ := t
    rw [Qdf] at h
    skip
    refine wsq ?_
    refine wx tbk [(2, rp [(.tmp 30, (Qga p1))] (I ((p1.length : Int))))] ⟨alm (c := Qao) (l := p1) (aln rfl Try.underlying85 rfl), trivial⟩ ?_
    rcases bft ((decide (y6 < (p1.length : Int)))) with hc10 | hc10
    ·replace h := Qaw hc10 h
     refine wft hc10 (by kernel_rfl) ?_
     refine Qak ?_
     refine thn ?_
     obtain ⟨k12, hk_k12, h⟩ := jko h
     refine wjn (τ := Int) (fun t => k12 t = some r) (fun y11 => ⟨mk 85 [(1, (Qga p1)), (2, (Qgu p2)), (7, I y11), (9, I y6)], []⟩) (fun y11 h => ?_) ?_
     ·subst hk_k12
      refine wx1 tbk [] trivial ?_
      refine thn ?_
      exact arm (mto (n := 85) [(1, (Qga p1)), (2, (Qgu p2)), (7, I y11), (9, (I (w64 (y6 + 1))))] [] [] hφ0 (pc (.rn (.plain _ (nld Qab _))) (pc (.rn (.plain _ (nld Qaa _))) (pc rwl (pc rwl pn)))) qn) (ih (y11, w64 (y6 + 1)) h)
     ·skip
      refine Qae ?_
      refine wx tbk [] trivial ?_
      obtain ⟨k14, hk_k14, h⟩ := jko h
      refine wjn (τ := Int) (fun t => k14 t = some r) (fun y13 => ⟨mk 85 [(1, (Qga p1)), (2, (Qgu p2)), (7, I y5), (9, I y6), (10, I y13)], []⟩) (fun y13 h => ?_) ?_
      ·subst hk_k14
       refine wx tbk [] trivial ?_
       refine Qae ?_
       refine wmr (mto (n := 85) (l' := [(1, (Qga p1)), (2, (Qgu p2)), (7, I y5), (9, I y6), (10, I y13), (12, I 0)]) (own' := []) [(1, (Qga p1)), (2, (Qgu p2)), (7, I y5), (9, I y6), (10, I y13), (12, I 0)] [] [] hφ0 (pc (.rn (.plain _ (nld Qab _))) (pc (.rn (.plain _ (nld Qaa _))) (pc rwl (pc rwl (pc rwl (pc rwl pn)))))) qn) ?_
       refine Qbp (τ := Int × Int) (fun n t => Qec N p1 y6 k12 y13 n t.1 t.2 = some r) (fun ⟨y15, y16⟩ => ⟨mk 85 [(1, (Qga p1)), (2, (Qgu p2)), (7, I y15), (9, I y6), (10, I y13), (12, I y16)], []⟩) (fun t h => by rw [Qec] at h; cases h) (fun n19 ih t h => ?_) N (y5, 0) h
       obtain ⟨y15, y16⟩ := t
       rw [Qec] at h
       skip
       refine wsq ?_
       obtain ⟨x20, hg21, h⟩ := bno h
       obtain ⟨hi22, hj23⟩ := gsm hg21
       refine wx tbk [(3, rp [(.tmp 51, (Qga p1)), (.tmp 52, I y6)] (.dptr (Qao (x20)) 0)), (6, rp [(.tmp 55, (Qw1 x20))] (I ((x20.Parts.length : Int))))] ⟨aid rfl Try.underlying85 ti24 rfl rfl hi22 (mgt Qao hj23) rfl, alm (c := Qav) (l := x20.Parts) (aln rfl Try.underlying22 rfl), trivial⟩ ?_
       rcases bft ((decide (y16 < (x20.Parts.length : Int)))) with hc24 | hc24
       ·replace h := Qaw hc24 h
        refine wft hc24 (by kernel_rfl) ?_
        refine Qak ?_
        refine thn ?_
        refine wsq ?_
        refine Qae ?_
        obtain ⟨x25, hg26, h⟩ := bno h
        obtain ⟨hi27, hj28⟩ := gsm hg26
        obtain ⟨x29, hl30, h⟩ := bno h
        obtain ⟨x31, hl32, h⟩ := bno h
        refine wy1 tbk [(3, rp [(.tmp 61, (Qga p1)), (.tmp 62, I y6)] (.dptr (Qao (x20)) 0)), (7, rp [(.tmp 65, (Qw1 x20)), (.tmp 66, I y16)] (.dptr (Qav (x25)) 0)), (12, rp [(.tmp 70, (Qga p1)), (.tmp 71, I y6)] (.dptr (Qao (x20)) 0)), (16, rp [(.tmp 74, (Qw1 x20)), (.tmp 75, I y16)] (.dptr (Qav (x25)) 0)), (21, rp [ci 0, (.tmp 80, (I (w64 (x25.Gain - y13))))] (I x29)), (24, rp [(.tmp 83, (I (w64 (y15 + (w64 (x25.Width * x29))))))] (I x31))] ⟨aid rfl Try.underlying85 ti24 rfl rfl hi22 (mgt Qao hj23) rfl, aid rfl Try.underlying22 Qrn rfl rfl hi27 (mgt Qav hj28) rfl, aid rfl Try.underlying85 ti24 rfl rfl hi22 (mgt Qao hj23) rfl, aid rfl Try.underlying22 Qrn rfl rfl hi27 (mgt Qav hj28) rfl, Qep hl30 (Qmo rfl), Qep hl32 (aas rfl), trivial⟩ ?_
        refine bln ?_
        refine thn ?_
        refine wx1 tbk [] trivial ?_
        refine thn ?_
        exact arm (mto (n := 85) [(1, (Qga p1)), (2, (Qgu p2)), (7, I x31), (9, I y6), (10, I y13), (12, (I (w64 (y16 + 1))))] [] [] hφ0 (pc (.rn (.plain _ (nld Qab _))) (pc (.rn (.plain _ (nld Qaa _))) (pc rwl (pc rwl (pc rwl (pc rwl pn)))))) qn) (ih (x31, w64 (y16 + 1)) h)
       ·replace h := Qax hc24 h
        refine wfn hc24 (by kernel_rfl) ?_
        refine Qa8 ?_
        refine Qap ?_
        refine Qap ?_
        refine Qa7 rfl ?_
        refine bln ?_
        refine thn ?_
        exact ⟨(y15), h, (mto (n := 85) [(1, (Qga p1)), (2, (Qgu p2)), (7, I y15), (9, I y6)] [] [] hφ0 (pc (.rn (.plain _ (nld Qab _))) (pc (.rn (.plain _ (nld Qaa _))) (pc rwl (pc rwl pn)))) qn)⟩
      ·skip
       refine wx tbk [] trivial ?_
       refine Qae ?_
       refine wmr (mto (n := 85) (l' := [(1, (Qga p1)), (2, (Qgu p2)), (7, I y5), (9, I y6), (10, I 0), (11, I 0)]) (own' := []) [(1, (Qga p1)), (2, (Qgu p2)), (7, I y5), (9, I y6), (10, I 0), (11, I 0)] [] [] hφ0 (pc (.rn (.plain _ (nld Qab _))) (pc (.rn (.plain _ (nld Qaa _))) (pc rwl (pc rwl (pc rwl (pc rwl pn)))))) qn) ?_
       refine Qbp (τ := Int × Int) (fun n t => Qeb N p1 p2 y6 k14 n t.1 t.2 = some r) (fun ⟨y33, y34⟩ => ⟨mk 85 [(1, (Qga p1)), (2, (Qgu p2)), (7, I y5), (9, I y6), (10, I y33), (11, I y34)], []⟩) (fun t h => by rw [Qeb] at h; cases h) (fun n37 ih t h => ?_) N (0, 0) h
       obtain ⟨y33, y34⟩ := t
       rw [Qeb] at h
       skip
       refine wsq ?_
       obtain ⟨x38, hg39, h⟩ := bno h
       obtain ⟨hi40, hj41⟩ := gsm hg39
       refine wx tbk [(3, rp [(.tmp 36, (Qga p1)), (.tmp 37, I y6)] (.dptr (Qao (x38)) 0))] ⟨aid rfl Try.underlying85 ti24 rfl rfl hi40 (mgt Qao hj41) rfl, trivial⟩ ?_
       rcases bft ((decide (y34 ≤ x38.Inlet))) with hc42 | hc42
       ·replace h := Qaw hc42 h
        refine wft hc42 (by kernel_rfl) ?_
        refine Qak ?_
        refine thn ?_
        refine wsq ?_
        refine Qae ?_
        obtain ⟨x43, hg44, h⟩ := bno h
        obtain ⟨hi45, hj46⟩ := gsm hg44
        refine wx1 tbk [(3, rp [(.tmp 45, (Qgu p2)), (.tmp 46, I y34)] (.dptr (Qac (x43)) 0))] ⟨aid rfl Try.underlying37 ti3 rfl rfl hi45 (mgt Qac hj46) rfl, trivial⟩ ?_
        refine bln ?_
        refine thn ?_
        refine wx1 tbk [] trivial ?_
        refine thn ?_
        exact arm (mto (n := 85) [(1, (Qga p1)), (2, (Qgu p2)), (7, I y5), (9, I y6), (10, (I (w64 (y33 + x43)))), (11, (I (w64 (y34 + 1))))] [] [] hφ0 (pc (.rn (.plain _ (nld Qab _))) (pc (.rn (.plain _ (nld Qaa _))) (pc rwl (pc rwl (pc rwl (pc rwl pn)))))) qn) (ih (w64 (y33 + x43), w64 (y34 + 1)) h)
       ·replace h := Qax hc42 h
        refine wfn hc42 (by kernel_rfl) ?_
        refine Qa8 ?_
        refine Qap ?_
        refine Qap ?_
        refine Qa7 rfl ?_
        refine thn ?_
        exact ⟨(y33), h, (mto (n := 85) [(1, (Qga p1)), (2, (Qgu p2)), (7, I y5), (9, I y6), (10, I y33)] [] [] hφ0 (pc (.rn (.plain _ (nld Qab _))) (pc (.rn (.plain _ (nld Qaa _))) (pc rwl (pc rwl (pc rwl pn))))) qn)⟩
    ·replace h := Qax hc10 h
     refine wfn hc10 (by kernel_rfl) ?_
     refine Qa8 ?_
     refine Qap ?_
     refine Qap ?_
     refine Qa7 rfl ?_
     refine thn ?_
     exact ⟨(y5), h, (mto (n := 85) [(7, I y5)] [] [] hφ0 (pc rwl pn) qn)⟩
  ·skip
   refine wx tbk [] trivial ?_
   refine Qae ?_
   refine wmr (mto (n := 85) (l' := [(0, (Qqf p0)), (1, (Qga p1)), (2, (Qgu p2)), (7, I 0), (8, I 0)]) (own' := []) [(0, (Qqf p0)), (1, (Qga p1)), (2, (Qgu p2)), (7, I 0), (8, I 0)] [] [] hφ0 (pc (.rn (.plain _ (nld Qaa _))) (pc (.rn (.plain _ (nld Qab _))) (pc (.rn (.plain _ (nld Qaa _))) (pc rwl (pc rwl pn))))) qn) ?_
   refine Qbp (τ := Int × Int) (fun n t => Qea N p0 k2 p2 n t.1 t.2 = some r) (fun ⟨y47, y48⟩ => ⟨mk 85 [(0, (Qqf p0)), (1, (Qga p1)), (2, (Qgu p2)), (7, I y47), (8, I y48)], []⟩) (fun t h => by rw [Qea] at h; cases h) (fun n51 ih t h => ?_) N (0, 0) h
   obtain ⟨y47, y48⟩ := t
   rw [Qea] at h
   skip
   refine wsq ?_
   refine wx tbk [(2, rp [(.tmp 14, (Qqf p0))] (I ((p0.length : Int))))] ⟨alm (c := Qac) (l := p0) (aln rfl Try.underlying37 rfl), trivial⟩ ?_
   rcases bft ((decide (y48 < (p0.length : Int)))) with hc52 | hc52
   ·replace h := Qaw hc52 h
    refine wft hc52 (by kernel_rfl) ?_
    refine Qak ?_
    refine thn ?_
    refine wsq ?_
    refine Qae ?_
    obtain ⟨x53, hg54, h⟩ := bno h
    obtain ⟨hi55, hj56⟩ := gsm hg54
    obtain ⟨x58, hf57, h⟩ := bno h
    obtain ⟨x59, hl60, h⟩ := bno h
    refine wy1 tbk [(3, rp [(.tmp 20, (Qgu p2)), (.tmp 21, I y48)] (.dptr (Qac (x53)) 0)), (7, rp [fu 86, (.tmp 24, (Qqf p0)), (.tmp 25, I y48)] (I x58)), (10, rp [(.tmp 28, (I (w64 (y47 + (w64 (x53 * x58))))))] (I x59))] ⟨aid rfl Try.underlying37 ti3 rfl rfl hi55 (mgt Qac hj56) rfl, apc (first := []) (cap := []) (vs := [(Qqf p0), I y48]) rfl enter86 (Qnc N p0 y48 _ hf57) rfl rfl (nlc (nld Qaa _) (nlc nll nl0)) nll rfl, Qep hl60 (aas rfl), trivial⟩ ?_
    refine bln ?_
    refine thn ?_
    refine wx1 tbk [] trivial ?_
    refine thn ?_
    exact arm (mto (n := 85) [(0, (Qqf p0)), (1, (Qga p1)), (2, (Qgu p2)), (7, I x59), (8, (I (w64 (y48 + 1))))] [] [] hφ0 (pc (.rn (.plain _ (nld Qaa _))) (pc (.rn (.plain _ (nld Qab _))) (pc (.rn (.plain _ (nld Qaa _))) (pc rwl (pc rwl pn))))) qn) (ih (x59, w64 (y48 + 1)) h)
   ·replace h := Qax hc52 h
    refine wfn hc52 (by kernel_rfl) ?_
    refine Qa8 ?_
    refine Qap ?_
    refine Qap ?_
    refine Qa7 rfl ?_
    refine thn ?_
    exact ⟨(y47), h, (mto (n := 85) [(1, (Qga p1)), (2, (Qgu p2)), (7, I y47)] [] [] hφ0 (pc (.rn (.plain _ (nld Qab _))) (pc (.rn (.plain _ (nld Qaa _))) (pc rwl pn))) qn)⟩
def Qfq (N : Nat) (p0 : Int) : Option Bool :=
  (Qbm N p0 0 1000).bind fun x2 =>
  some x2
set_option maxRecDepth 100000 in
set_option maxHeartbeats 4000000 in
theorem Qkp (N : Nat) (p0 : Int) (r : Bool) (h : Qfq N p0 = some r) : Spec Try.prog 107 [(I p0)] [] (B r) [] := by
  refine Qad Try.func107 rfl 0 (nle rfl) (fun X φ0 w0 hφ0 => ?_)
  unfold Qfq at h
  refine wx tbk [] trivial ?_
  obtain ⟨x2, hf1, h⟩ := bno h
  refine wx tbk [(1, rp [fu 65, (.tmp 3, I p0), ci 0, ci 1000] (B x2))] ⟨apc (first := []) (cap := []) (vs := [I p0, I 0, I 1000]) rfl Qb3 (Qah N p0 0 1000 _ hf1) rfl rfl (nlc nll (nlc nll (nlc nll nl0))) nll rfl, trivial⟩ ?_
  refine Qaf ?_
  obtain rfl := osi h
  exact fend ⟨[B x2], ⟨rot (by kernel_rfl), trivial⟩, rfl⟩ nll
def Qf0 (N : Nat) (p0 : Int) : Option Bool :=
  (Qfq N p0).bind fun x3 =>
  some (!x3)
def Qyf : Slot := .own 1 [[(.fn (.func 107) [] [])]]
set_option maxRecDepth 100000 in
set_option maxHeartbeats 4000000 in
theorem Ql9 (N : Nat) (p0 : Int) (r : Bool) (h : Qf0 N p0 = some r) : Spec Try.prog 110 [(I (p0)), (.ref 0 1 (0) 0)] [Qyf] (B (r)) [Qyf] := by
  refine Qad Try.func110 rfl 1 (nle rfl) (fun X φ0 w0 hφ0 => ?_)
  unfold Qf0 at h
  refine Qbx ?_
  refine wx tbk [] trivial ?_
  obtain ⟨x3, hf2, h⟩ := bno h
  refine wx tbk [(2, rp [(.tmp 4, (.fn (.func 107) [] [])), (.tmp 5, I p0)] (B x3))] ⟨apc (first := []) (cap := []) (vs := [I p0]) rfl enter107 (Qkp N p0 _ hf2) rfl rfl (nlc nll nl0) nll rfl, trivial⟩ ?_
  refine wmr (mto (n := 8) (l' := [(3, (B ((!x3))))]) (own' := [Qyf]) [(3, (B ((!x3))))] [0] [Qyf] hφ0 (pc rwl pn) (qc (spb (lc (.rn (Qat rn0 rn0)) ln)) qn)) ?_
  refine Qaf ?_
  obtain rfl := osi h
  exact ⟨_, Mor.rfl, Qci (vs := [(B ((!x3)))]) ⟨rot (by kernel_rfl), trivial⟩ rfl (NLt.of0 nll) (by kernel_rfl) (Qaj (Qaz (nlc (NLt.of0 (NLt.fn _ _ _ nl0 nl0)) nl0)) Qbq)⟩
def Qbs (N : Nat) (p0 : (List Int)) (k2 : Unit → Option Int) : Nat → Int → Option Int
  | 0, _ => none
  | n5 + 1, y3 =>
    bif (decide (y3 < (p0.length : Int))) then
     (getI p0 y3).bind fun x7 =>
     (Qf0 N x7).bind fun x12 =>
     bif x12 then
      some y3
     else
      Qbs N p0 k2 n5 (w64 (y3 + 1))
    else
     k2 ()
def Qd7 (N : Nat) (p0 : (List Int)) : Option Int :=
  Qby (fun _ =>
    some (-1)) fun k2 : Unit → Option Int =>
  Qbs N p0 k2 N 0
def Qqe (p0 : (List Int)) : AV := .dat 1 ((p0 : List Int).map Qac)
def Qrw : AV := .fn (.func 110) [] [(.ref 0 1 (0) 0)]
def Qjk : Slot := .own 1 [[(.fn (.func 107) [] [])]]
set_option maxRecDepth 100000 in
set_option maxHeartbeats 4000000 in
theorem Qix (N : Nat) (p0 : (List Int)) (r : Int) (h : Qd7 N p0 = some r) : Spec Try.prog 71 [(Qqe p0), Qrw] [Qjk] (I (r)) [Qjk] := by
  refine Qad Try.func71 rfl 1 (nle rfl) (fun X φ0 w0 hφ0 => ?_)
  unfold Qd7 at h
  refine Qbx ?_
  refine wx tbk [] trivial ?_
  obtain ⟨k2, hk_k2, h⟩ := jko h
  refine wjn (τ := Unit) (fun t => k2 t = some r) (fun _ => ⟨mk 19 [], [Qjk]⟩) (fun t h => ?_) ?_
  ·subst hk_k2
   refine wx tbk [] trivial ?_
   refine wmr (mto (n := 19) (l' := [(4, (I ((-1))))]) (own' := [Qjk]) [(4, (I ((-1))))] [0] [Qjk] hφ0 (pc rwl pn) (qc (spb (lc (.rn (Qat rn0 rn0)) ln)) qn)) ?_
   refine Qaf ?_
   obtain rfl := osi h
   exact ⟨_, Mor.rfl, Qci (vs := [(I ((-1)))]) ⟨rot (by kernel_rfl), trivial⟩ rfl (NLt.of0 nll) (by kernel_rfl) (Qaj (Qaz (nlc (NLt.of0 (NLt.fn _ _ _ nl0 nl0)) nl0)) Qbq)⟩
  ·skip
   refine wx tbk [(1, rp [(.tmp 6, (Qqe p0))] (I ((p0.length : Int))))] ⟨alm (c := Qac) (l := p0) (aln rfl Try.underlying37 rfl), trivial⟩ ?_
   refine Qae ?_
   refine wmr (mto (n := 19) (l' := [(0, (Qqe p0)), (1, Qrw), (7, (I ((p0.length : Int)))), (8, I 0)]) (own' := [Qjk]) [(0, (Qqe p0)), (1, Qrw), (7, (I ((p0.length : Int)))), (8, I 0)] [0] [Qjk] hφ0 (pc (.rn (.plain _ (nld Qaa _))) (pc (.rn (Qat rn0 (rnc (rqr rfl) rn0))) (pc rwl (pc rwl pn)))) (qc (spb (lc (.rn (Qat rn0 rn0)) ln)) qn)) ?_
   refine Qbp (τ := Int) (fun n t => Qbs N p0 k2 n t = some r) (fun y3 => ⟨mk 19 [(0, (Qqe p0)), (1, Qrw), (7, (I ((p0.length : Int)))), (8, I y3)], [Qjk]⟩) (fun t h => by rw [Qbs] at h; cases h) (fun n5 ih y3 h => ?_) N (0) h
   rw [Qbs] at h
   skip
   refine wx tbk [] trivial ?_
   refine wsq ?_
   rcases bft ((decide (y3 < (p0.length : Int)))) with hc6 | hc6
   ·replace h := Qaw hc6 h
    refine wft hc6 (by kernel_rfl) ?_
    refine Qak ?_
    refine thn ?_
    refine wsq ?_
    refine Qae ?_
    refine wx tbk [] trivial ?_
    obtain ⟨x7, hg8, h⟩ := bno h
    obtain ⟨hi9, hj10⟩ := gsm hg8
    obtain ⟨x12, hf11, h⟩ := bno h
    refine wx tbk [(3, rp [(.tmp 12, (Qqe p0)), (.tmp 13, I y3)] (.dptr (Qac (x7)) 0)), (5, ⟨[(.tmp 11, Qrw), (.tmp 15, I x7)], [(0, Qjk)], B x12, [(0, Qjk)], false⟩)] ⟨aid rfl Try.underlying37 ti3 rfl rfl hi9 (mgt Qac hj10) rfl, Qan (first := []) (cap := [.ref 0 1 0 0]) (vs := [I x7]) (σr := [Qjk]) (σr' := [Qjk]) (res' := (B x12)) [0] rfl Qt3 (Ql9 N x7 _ hf11) rfl (Qb4 (rnc (.plain _ nll) (rnc (Qbk rfl) rn0))) (slc (Qal (rnc (.plain _ (NLt.fn _ _ _ nl0 nl0)) rn0)) Qam) (slc (Qal (rnc (.plain _ (NLt.fn _ _ _ nl0 nl0)) rn0)) Qam) (.plain _ nll) rfl rfl rfl, trivial⟩ ?_
    rcases bft (x12) with hc13 | hc13
    ·replace h := Qaw hc13 h
     refine wft hc13 (by kernel_rfl) ?_
     refine wx tbk [] trivial ?_
     refine wmr (mto (n := 19) (l' := [(4, I y3)]) (own' := [Qjk]) [(4, I y3)] [0] [Qjk] hφ0 (pc rwl pn) (qc (spb (lc (.rn (Qat rn0 rn0)) ln)) qn)) ?_
     refine Qaf ?_
     refine Qb0 ?_
     refine Qa4 ?_
     refine Qa4 ?_
     refine Qb0 ?_
     refine Qa4 ?_
     obtain rfl := osi h
     exact ⟨_, Mor.rfl, Qci (vs := [I y3]) ⟨rot (by kernel_rfl), trivial⟩ rfl (NLt.of0 nll) (by kernel_rfl) (Qaj (Qaz (nlc (NLt.of0 (NLt.fn _ _ _ nl0 nl0)) nl0)) Qbq)⟩
    ·replace h := Qax hc13 h
     refine wfn hc13 (by kernel_rfl) ?_
     refine Qak ?_
     refine bln ?_
     refine thn ?_
     refine wx1 tbk [] trivial ?_
     refine thn ?_
     exact arm (mto (n := 19) [(0, (Qqe p0)), (1, Qrw), (7, (I ((p0.length : Int)))), (8, (I (w64 (y3 + 1))))] [0] [Qjk] hφ0 (pc (.rn (.plain _ (nld Qaa _))) (pc (.rn (Qat rn0 (rnc (rqr rfl) rn0))) (pc rwl (pc rwl pn)))) (qc (spb (lc (.rn (Qat rn0 rn0)) ln)) qn)) (ih (w64 (y3 + 1)) h)
   ·replace h := Qax hc6 h
    refine wfn hc6 (by kernel_rfl) ?_
    refine Qa8 ?_
    refine Qap ?_
    refine Qap ?_
    refine Qa7 rfl ?_
    refine thn ?_
    exact ⟨(), h, (mto (n := 19) [] [0] [Qjk] hφ0 pn (qc (spb (lc (.rn (Qat rn0 rn0)) ln)) qn))⟩
def Qdt (N : Nat) (p0 : (List Int)) : Option Bool :=
  (Qd7 N p0).bind fun x3 =>
  some (decide (x3 ≥ 0))
def z117_0 (p0 : (List Int)) : AV := .dat 1 ((p0 : List Int).map Qac)
def z117_1 : AV := .fn (.func 110) [] [(.ref 0 1 (0) 0)]
def Qpm : Slot := .own 1 [[(.fn (.func 107) [] [])]]
set_option maxRecDepth 100000 in
set_option maxHeartbeats 4000000 in
theorem Qh4 (N : Nat) (p0 : (List Int)) (r : Bool) (h : Qdt N p0 = some r) : Spec Try.prog 109 [(z117_0 p0), z117_1] [Qpm] (B (r)) [Qpm] := by
  refine Qad Try.func109 rfl 1 (nle rfl) (fun X φ0 w0 hφ0 => ?_)
  unfold Qdt at h
  refine Qbx ?_
  refine wx tbk [] trivial ?_
  obtain ⟨x3, hf2, h⟩ := bno h
  refine wx tbk [(2, ⟨[fu 71, (.tmp 5, (z117_0 p0)), (.tmp 6, z117_1)], [(0, Qpm)], I x3, [(0, Qpm)], false⟩)] ⟨Qan (first := []) (cap := []) (vs := [(z117_0 p0), z117_1]) (σr := [Qpm]) (σr' := [Qpm]) (res' := (I x3)) [0] rfl Qt0 (Qix N p0 _ hf2) rfl (Qb4 (rnc (.plain _ (nld Qaa _)) (rnc (Qat rn0 (rnc (Qbk rfl) rn0)) rn0))) (slc (Qal (rnc (.plain _ (NLt.fn _ _ _ nl0 nl0)) rn0)) Qam) (slc (Qal (rnc (.plain _ (NLt.fn _ _ _ nl0 nl0)) rn0)) Qam) (.plain _ nll) rfl rfl rfl, trivial⟩ ?_
  refine wmr (mto (n := 9) (l' := [(4, (B ((decide (x3 ≥ 0)))))]) (own' := [Qpm]) [(4, (B ((decide (x3 ≥ 0)))))] [0] [Qpm] hφ0 (pc rwl pn) (qc (spb (lc (.rn (Qat rn0 rn0)) ln)) qn)) ?_
  refine Qaf ?_
  obtain rfl := osi h
  exact ⟨_, Mor.rfl, Qci (vs := [(B ((decide (x3 ≥ 0))))]) ⟨rot (by kernel_rfl), trivial⟩ rfl (NLt.of0 nll) (by kernel_rfl) (Qaj (Qaz (nlc (NLt.of0 (NLt.fn _ _ _ nl0 nl0)) nl0)) Qbq)⟩
def Qhl (N : Nat) (p0 : (List Int)) : Option Bool :=
  (Qdt N p0).bind fun x2 =>
  some (!x2)
def z116_1 (p0 : (List Int)) : AV := .dat 1 ((p0 : List Int).map Qac)
def z116_2 : AV := .fn (.func 110) [] [(.ref 0 1 (0) 0)]
def Qyg : Slot := .own 1 [[(.fn (.func 107) [] [])]]
set_option maxRecDepth 100000 in
set_option maxHeartbeats 4000000 in
theorem Qno (N : Nat) (p0 : (List Int)) (r : Bool) (h : Qhl N p0 = some r) : Spec Try.prog 89 [(z116_1 p0), (.fn (.func 107) [] [])] [] (B (r)) [] := by
  refine Qad Try.func89 rfl 0 (nle rfl) (fun X φ0 w0 hφ0 => ?_)
  unfold Qhl at h
  refine wx tbk [] trivial ?_
  obtain ⟨x2, hf1, h⟩ := bno h
  refine wx tbk [(1, rp [(.tmp 3, .ref 0 1 0 0)] z116_2), (2, ⟨[fu 109, (.tmp 5, (z116_1 p0)), (.tmp 6, z116_2)], [(0, Qyg)], B x2, [(0, Qyg)], false⟩)] ⟨Qez (fs := []) (cs := [.ref 0 1 0 0]) rfl rfl rfl rfl, Qan (first := []) (cap := []) (vs := [(z116_1 p0), z116_2]) (σr := [Qyg]) (σr' := [Qyg]) (res' := (B x2)) [0] rfl Qt4 (Qh4 N p0 _ hf1) rfl (Qb4 (rnc (.plain _ (nld Qaa _)) (rnc (Qat rn0 (rnc (Qbk rfl) rn0)) rn0))) (slc (Qal (rnc (.plain _ (NLt.fn _ _ _ nl0 nl0)) rn0)) Qam) (slc (Qal (rnc (.plain _ (NLt.fn _ _ _ nl0 nl0)) rn0)) Qam) (.plain _ nll) rfl rfl rfl, trivial⟩ ?_
  refine Qaf ?_
  obtain rfl := osi h
  exact fend ⟨[(B ((!x2)))], ⟨rot (by kernel_rfl), trivial⟩, rfl⟩ nll
def Qe3 (N : Nat) (p0 : GShared) (p1 : (List Int)) : Option Bool :=
  bif ((p1.length : Int) == (p0.heads.length : Int)) then
   (Qhl N p1).bind fun x3 =>
   some x3
  else
   some false
def Qyh (p1 : (List Int)) : AV := .dat 1 ((p1 : List Int).map Qac)
def z115_0 (p0 : GShared) : AV := .dat 1 ((p0.heads : List Int).map Qac)
set_option maxRecDepth 100000 in
set_option maxHeartbeats 4000000 in
theorem Qh8 (N : Nat) (p0 : GShared) (p1 : (List Int)) (r : Bool) (h : Qe3 N p0 p1 = some r) : Spec Try.prog 83 [(.agg (Qmm p0)), (.dat 1 (p1.map Qac))] [] (B r) [] := by
  refine Qad Try.func83 rfl 0 (nle rfl) (fun X φ0 w0 hφ0 => ?_)
  unfold Qe3 at h
  refine wx tbk [] trivial ?_
  rcases bft (((p1.length : Int) == (p0.heads.length : Int))) with hb1 | hb1
  ·replace h := Qaw hb1 h
   obtain ⟨x3, hf2, h⟩ := bno h
   refine wx tbk [(1, rp [(.tmp 5, (Qyh p1))] (I ((p1.length : Int)))), (4, rp [(.tmp 8, (z115_0 p0))] (I ((p0.heads.length : Int)))), (6, rp [(.tmp 10, (B (((p1.length : Int) == (p0.heads.length : Int)))))] (B true)), (8, rp [(.tmp 11, B true), fu 89, (.tmp 12, (Qyh p1)), fu 107] (B x3))] ⟨alm (c := Qac) (l := p1) (aln rfl Try.underlying37 rfl), alm (c := Qac) (l := p0.heads) (aln rfl Try.underlying37 rfl), asb hb1 (amv rfl), ag_ (Qan (first := []) (cap := []) (vs := [(Qyh p1), (.fn (.func 107) [] [])]) (σr := []) (σr' := []) (res' := (B x3)) [] rfl Qks (Qno N p1 _ hf2) rfl (Qb4 (rnc (.plain _ (nld Qaa _)) (rnc (.plain _ (NLt.fn _ _ _ nl0 nl0)) rn0))) Qam Qam (.plain _ nll) rfl rfl rfl), trivial⟩ ?_
   refine Qaf ?_
   obtain rfl := osi h
   exact fend ⟨[B x3], ⟨rot (by kernel_rfl), trivial⟩, rfl⟩ nll
  ·replace h := Qax hb1 h
   refine wx tbk [(1, rp [(.tmp 5, (Qyh p1))] (I ((p1.length : Int)))), (4, rp [(.tmp 8, (z115_0 p0))] (I ((p0.heads.length : Int)))), (6, rp [(.tmp 10, (B (((p1.length : Int) == (p0.heads.length : Int)))))] (B false))] ⟨alm (c := Qac) (l := p1) (aln rfl Try.underlying37 rfl), alm (c := Qac) (l := p0.heads) (aln rfl Try.underlying37 rfl), asb hb1 (amv rfl), trivial⟩ ?_
   refine Qaf ?_
   obtain rfl := osi h
   exact fend ⟨[B false], ⟨rot (by kernel_rfl), trivial⟩, rfl⟩ nll
def Qcs (N : Nat) (p1 : (List Int)) (y3 : (List Int)) (k14 : Int → Option Int) (x15 : GUnit) : Nat → Int → Int → Option Int
  | 0, _, _ => none
  | n23 + 1, y19, y20 =>
    bif (decide (y20 < (x15.Parts.length : Int))) then
     (getI x15.Parts y20).bind fun x25 =>
     chk (decide (0 ≤ x15.Inlet) && decide (x15.Inlet.toNat < (p1.length : Int).toNat)) <|
     (y3[x15.Inlet.toNat]?).bind fun x30 =>
     (some (if (w64 (x25.Gain - x30)) > 0 then w64 (x25.Gain - x30) else 0)).bind fun x32 =>
     (some (w64 (y19 + (w64 (x25.Width * x32))))).bind fun x34 =>
     Qcs N p1 y3 k14 x15 n23 x34 (w64 (y20 + 1))
    else
     k14 (y19)
def Qb2 (N : Nat) (p0 : GShared) (p1 : (List Int)) (y3 : (List Int)) (k6 : Int → Option Int) : Nat → Int → Int → Option Int
  | 0, _, _ => none
  | n11 + 1, y7, y8 =>
    bif (decide (y8 < (p0.units.length : Int))) then
     Qby (fun y13 =>
       Qb2 N p0 p1 y3 k6 n11 y13 (w64 (y8 + 1))) fun k14 : Int → Option Int =>
     (getI p0.units y8).bind fun x15 =>
     Qcs N p1 y3 k14 x15 N y7 0
    else
     k6 (y7)
def Qcr (N : Nat) (p0 : GShared) (p1 : (List Int)) (k4 : Int × (List Int) → Option Int) (x37 : (List Int)) : Nat → Int → Int → Int → (List Int) → Option Int
  | 0, _, _, _, _ => none
  | n46 + 1, y38, y39, y40, y41 =>
    bif (decide (y40 < ((p0.heads.length : Nat) : Int))) then
     chk (decide (0 ≤ y40) && decide (y40.toNat < p0.heads.length)) <|
     (x37[y40.toNat]?).bind fun x49 =>
     (getI p1 y40).bind fun x51 =>
     chk (decide (0 ≤ y40) && decide (y40.toNat < (p1.length : Int).toNat)) <|
     (y41[y40.toNat]?).bind fun _ =>
     (some (w64 (y38 + (w64 (x51 * x49))))).bind fun x58 =>
     Qcr N p0 p1 k4 x37 n46 x58 (w64 (y39 + x51)) (w64 (y40 + 1)) (y41.set y40.toNat (w64 (y39 + x51)))
    else
     k4 (y38, y41)
def Qfl (N : Nat) (p0 : GShared) (p1 : (List Int)) : Option Int :=
  chk (decide (0 ≤ (p1.length : Int)) && decide (8 * (p1.length : Int) ≤ 281474976710656) && decide ((p1.length : Int) ≤ 9223372036854775807)) <|
  Qby (fun ⟨y2, y3⟩ =>
    Qby (fun y5 =>
      some y5) fun k6 : Int → Option Int =>
    Qb2 N p0 p1 y3 k6 N y2 0) fun k4 : Int × (List Int) → Option Int =>
  (Qdp N p0).bind fun x37 =>
  Qcr N p0 p1 k4 x37 N 0 0 0 (List.replicate (p1.length : Int).toNat 0)
def Qqd (p1 : (List Int)) : AV := .dat 1 ((p1 : List Int).map Qac)
def z121_5 (p1 : (List Int)) : Slot := .own 1 ((List.replicate (p1.length : Int).toNat 0 : List Int).map Qac)
def z121_0 (p0 : GShared) : AV := .dat 1 ((p0.heads : List Int).map Qac)
def Qjz (p0 : GShared) : AV := .dat 2 ((p0.units : List GUnit).map Qao)
def Qrv (p0 : GShared) : Slot := .own 2 [[(z121_0 p0), (Qjz p0)]]
def Qim (y3 : (List Int)) : Slot := .own 1 ((y3 : List Int).map Qac)
def Qnj (x15 : GUnit) : AV := .dat 2 ((x15.Parts : List GPart).map Qav)
def Qs2 (x15 : GUnit) : Slot := .own 2 [[(I (x15.Inlet)), (Qnj x15)]]
def Ql3 (x37 : (List Int)) : Slot := .own 1 ((x37 : List Int).map Qac)
def Qs1 (y41 : (List Int)) : Slot := .own 1 ((y41 : List Int).map Qac)
set_option maxRecDepth 100000 in
set_option maxHeartbeats 4000000 in
theorem Qlq (N : Nat) (p0 : GShared) (p1 : (List Int)) (r : Int) (h : Qfl N p0 p1 = some r) : Spec Try.prog 84 [(.agg (Qmm p0)), (.dat 1 (p1.map Qac))] [] (I r) [] := by
  refine Qad Try.func84 rfl 0 (nle rfl) (fun X φ0 w0 hφ0 => ?_)
  unfold Qfl at h
  refine wx tbk [] trivial ?_
  refine wx tbk [] trivial ?_
  obtain ⟨hm1, h⟩ := cko h
  refine wx tbk [(1, rp [(.tmp 13, (Qqd p1))] (I ((p1.length : Int)))), (2, ⟨[(.tmp 14, (I ((p1.length : Int)))), (.tmp 14, (I ((p1.length : Int))))], [(1, .unused)], (.own 1 1 (0) ((p1.length : Int).toNat)), [(1, (z121_5 p1))], false⟩)] ⟨alm (c := Qac) (l := p1) (aln rfl Try.underlying37 rfl), Qiq rfl Try.underlying37 te3 tz3 rfl (Qug hm1) rfl (Quf hm1) (Qrk hm1) (Qqo Qac rfl), trivial⟩ ?_
  obtain ⟨k4, hk_k4, h⟩ := jko h
  refine wjn (τ := Int × (List Int)) (fun t => k4 t = some r) (fun ⟨y2, y3⟩ => ⟨mk 74 [(2, .ref 0 2 0 0), (4, I y2), (6, (.own 1 1 (0) ((p1.length : Int).toNat)))], [(Qrv p0), (Qim y3)]⟩) (fun t h => ?_) ?_
  ·subst hk_k4
   obtain ⟨y2, y3⟩ := t
   obtain ⟨k6, hk_k6, h⟩ := jko h
   refine wjn (τ := Int) (fun t => k6 t = some r) (fun y5 => ⟨mk 74 [(4, I y5)], []⟩) (fun y5 h => ?_) ?_
   ·subst hk_k6
    refine wx tbk [] trivial ?_
    refine Qaf ?_
    obtain rfl := osi h
    exact fend ⟨[I y5], ⟨rot (by kernel_rfl), trivial⟩, rfl⟩ nll
   ·skip
    refine wx tbk [(2, rp [(.tmp 44, (Qjz p0))] (I ((p0.units.length : Int))))] ⟨alm (c := Qao) (l := p0.units) (aln rfl Try.underlying89 rfl), trivial⟩ ?_
    refine Qae ?_
    refine wmr (mto (n := 74) (l' := [(4, I y2), (6, (.own 0 1 (0) ((p1.length : Int).toNat))), (44, (Qjz p0)), (45, (I ((p0.units.length : Int)))), (46, I 0)]) (own' := [(Qim y3)]) [(4, I y2), (6, (.own 1 1 (0) ((p1.length : Int).toNat))), (44, (Qjz p0)), (45, (I ((p0.units.length : Int)))), (46, I 0)] [1] [(Qim y3)] hφ0 (pc rwl (pc (.rn (Qag rfl)) (pc (.rn (.plain _ (nld Qab _))) (pc rwl (pc rwl pn))))) (qc (spr Qaa) qn)) ?_
    refine Qbp (τ := Int × Int) (fun n t => Qb2 N p0 p1 y3 k6 n t.1 t.2 = some r) (fun ⟨y7, y8⟩ => ⟨mk 74 [(4, I y7), (6, (.own 0 1 (0) ((p1.length : Int).toNat))), (44, (Qjz p0)), (45, (I ((p0.units.length : Int)))), (46, I y8)], [(Qim y3)]⟩) (fun t h => by rw [Qb2] at h; cases h) (fun n11 ih t h => ?_) N (y2, 0) h
    obtain ⟨y7, y8⟩ := t
    rw [Qb2] at h
    skip
    refine wx tbk [] trivial ?_
    refine wsq ?_
    rcases bft ((decide (y8 < (p0.units.length : Int)))) with hc12 | hc12
    ·replace h := Qaw hc12 h
     refine wft hc12 (by kernel_rfl) ?_
     refine Qak ?_
     refine thn ?_
     obtain ⟨k14, hk_k14, h⟩ := jko h
     refine wjn (τ := Int) (fun t => k14 t = some r) (fun y13 => ⟨mk 74 [(4, I y13), (6, (.own 0 1 (0) ((p1.length : Int).toNat))), (44, (Qjz p0)), (45, (I ((p0.units.length : Int)))), (46, I y8)], [(Qim y3)]⟩) (fun y13 h => ?_) ?_
     ·subst hk_k14
      refine wx1 tbk [] trivial ?_
      refine thn ?_
      exact arm (mto (n := 74) [(4, I y13), (6, (.own 0 1 (0) ((p1.length : Int).toNat))), (44, (Qjz p0)), (45, (I ((p0.units.length : Int)))), (46, (I (w64 (y8 + 1))))] [0] [(Qim y3)] hφ0 (pc rwl (pc (.rn (Qag rfl)) (pc (.rn (.plain _ (nld Qab _))) (pc rwl (pc rwl pn))))) (qc (spr Qaa) qn)) (ih (y13, w64 (y8 + 1)) h)
     ·skip
      refine Qae ?_
      obtain ⟨x15, hg16, h⟩ := bno h
      obtain ⟨hi17, hj18⟩ := gsm hg16
      refine wx tbk [(0, rp [(.tmp 44, (Qjz p0)), (.tmp 46, I y8)] (.dptr (Qao (x15)) 0))] ⟨aid rfl Try.underlying89 ti34 rfl rfl hi17 (mgt Qao hj18) rfl, trivial⟩ ?_
      refine wx tbk [(2, rp [(.tmp 51, (Qnj x15))] (I ((x15.Parts.length : Int))))] ⟨alm (c := Qav) (l := x15.Parts) (aln rfl Try.underlying32 rfl), trivial⟩ ?_
      refine Qae ?_
      refine wmr (mto (n := 74) (l' := [(4, I y7), (6, (.own 0 1 (0) ((p1.length : Int).toNat))), (10, .ref 1 2 0 0), (44, (Qjz p0)), (45, (I ((p0.units.length : Int)))), (46, I y8), (51, (Qnj x15)), (52, (I ((x15.Parts.length : Int)))), (53, I 0)]) (own' := [(Qim y3), (Qs2 x15)]) [(4, I y7), (6, (.own 0 1 (0) ((p1.length : Int).toNat))), (10, .ref 1 2 0 0), (44, (Qjz p0)), (45, (I ((p0.units.length : Int)))), (46, I y8), (51, (Qnj x15)), (52, (I ((x15.Parts.length : Int)))), (53, I 0)] [0, 1] [(Qim y3), (Qs2 x15)] hφ0 (pc rwl (pc (.rn (Qag rfl)) (pc (.rn (rqr rfl)) (pc (.rn (.plain _ (nld Qab _))) (pc rwl (pc rwl (pc (.rn (.plain _ (nld Qbi _))) (pc rwl (pc rwl pn))))))))) (qc (spr Qaa) (qc (spb (lc rwl (lc (.rn (.plain _ (nld Qbi _))) ln))) qn))) ?_
      refine Qbp (τ := Int × Int) (fun n t => Qcs N p1 y3 k14 x15 n t.1 t.2 = some r) (fun ⟨y19, y20⟩ => ⟨mk 74 [(4, I y19), (6, (.own 0 1 (0) ((p1.length : Int).toNat))), (10, .ref 1 2 0 0), (44, (Qjz p0)), (45, (I ((p0.units.length : Int)))), (46, I y8), (51, (Qnj x15)), (52, (I ((x15.Parts.length : Int)))), (53, I y20)], [(Qim y3), (Qs2 x15)]⟩) (fun t h => by rw [Qcs] at h; cases h) (fun n23 ih t h => ?_) N (y7, 0) h
      obtain ⟨y19, y20⟩ := t
      rw [Qcs] at h
      skip
      refine wx tbk [] trivial ?_
      refine wsq ?_
      rcases bft ((decide (y20 < (x15.Parts.length : Int)))) with hc24 | hc24
      ·replace h := Qaw hc24 h
       refine wft hc24 (by kernel_rfl) ?_
       refine Qak ?_
       refine thn ?_
       refine wsq ?_
       refine Qae ?_
       obtain ⟨x25, hg26, h⟩ := bno h
       obtain ⟨hi27, hj28⟩ := gsm hg26
       refine wx tbk [(0, rp [(.tmp 51, (Qnj x15)), (.tmp 53, I y20)] (.dptr (Qav (x25)) 0))] ⟨aid rfl Try.underlying32 Qpa rfl rfl hi27 (mgt Qav hj28) rfl, trivial⟩ ?_
       obtain ⟨hi29, h⟩ := cko h
       obtain ⟨hi29a, hi29b⟩ := Qbc hi29
       obtain ⟨x30, hg31, h⟩ := bno h
       obtain ⟨x32, hl33, h⟩ := bno h
       obtain ⟨x34, hl35, h⟩ := bno h
       refine wy1 tbk [(8, rb [(.tmp 62, (.own 0 1 (0) ((p1.length : Int).toNat))), (.tmp 64, I x15.Inlet)] [(0, (Qim y3))] (.ref 0 1 (x15.Inlet.toNat) 0)), (9, rb [(.tmp 65, (.ref 0 1 (x15.Inlet.toNat) 0))] [(0, (Qim y3))] (I x30)), (11, rp [ci 0, (.tmp 67, (I (w64 (x25.Gain - x30))))] (I x32)), (14, rp [(.tmp 70, (I (w64 (y19 + (w64 (x25.Width * x32))))))] (I x34))] ⟨aio rfl Try.underlying37 ti3 (odt hi29a) (odt hi29b) (Nat.zero_add _), ald rfl ti3 (by decide) (mgt Qac hg31) (nle rfl) rfl, Qep hl33 (Qmo rfl), Qep hl35 (aas rfl), trivial⟩ ?_
       refine bln ?_
       refine thn ?_
       refine wx1 tbk [] trivial ?_
       refine thn ?_
       exact arm (mto (n := 74) [(4, I x34), (6, (.own 0 1 (0) ((p1.length : Int).toNat))), (10, .ref 1 2 0 0), (44, (Qjz p0)), (45, (I ((p0.units.length : Int)))), (46, I y8), (51, (Qnj x15)), (52, (I ((x15.Parts.length : Int)))), (53, (I (w64 (y20 + 1))))] [0, 1] [(Qim y3), (Qs2 x15)] hφ0 (pc rwl (pc (.rn (Qag rfl)) (pc (.rn (rqr rfl)) (pc (.rn (.plain _ (nld Qab _))) (pc rwl (pc rwl (pc (.rn (.plain _ (nld Qbi _))) (pc rwl (pc rwl pn))))))))) (qc (spr Qaa) (qc (spb (lc rwl (lc (.rn (.plain _ (nld Qbi _))) ln))) qn))) (ih (x34, w64 (y20 + 1)) h)
      ·replace h := Qax hc24 h
       refine wfn hc24 (by kernel_rfl) ?_
       refine Qa8 ?_
       refine Qap ?_
       refine Qap ?_
       refine Qa7 rfl ?_
       refine bln ?_
       refine thn ?_
       exact ⟨(y19), h, (mto (n := 74) [(4, I y19), (6, (.own 0 1 (0) ((p1.length : Int).toNat))), (44, (Qjz p0)), (45, (I ((p0.units.length : Int)))), (46, I y8)] [0] [(Qim y3)] hφ0 (pc rwl (pc (.rn (Qag rfl)) (pc (.rn (.plain _ (nld Qab _))) (pc rwl (pc rwl pn))))) (qc (spr Qaa) qn))⟩
    ·replace h := Qax hc12 h
     refine wfn hc12 (by kernel_rfl) ?_
     refine Qa8 ?_
     refine Qap ?_
     refine Qap ?_
     refine Qa7 rfl ?_
     refine thn ?_
     exact ⟨(y7), h, (mto (n := 74) [(4, I y7)] [] [] hφ0 (pc rwl pn) qn)⟩
  ·skip
   obtain ⟨x37, hf36, h⟩ := bno h
   refine wx tbk [(1, ⟨[fu 87, (.tmp 16, (.agg [(z121_0 p0), (Qjz p0)]))], [(2, .unused)], (.own 2 1 (0) (p0.heads.length)), [(2, (Ql3 x37))], false⟩), (2, rp [(.tmp 17, (.own 2 1 (0) (p0.heads.length)))] (I (((p0.heads.length : Nat) : Int))))] ⟨Qan (first := []) (cap := []) (vs := [(.agg [(z121_0 p0), (Qjz p0)])]) (σr := []) (σr' := [(Ql3 x37)]) (res' := (.own 2 1 (0) (p0.heads.length))) [2] rfl Qxm (Qgi N p0 _ hf36) rfl (Qb4 (rnc (.plain _ (NLt.agg _ (nlc (nld Qaa _) (nlc (nld Qab _) nl0)))) rn0)) Qam (slc (Qda Qaa) Qam) (Qj1 rfl) rfl rfl rfl, aln rfl Try.underlying37 rfl, trivial⟩ ?_
   refine Qae ?_
   refine wmr (mto (n := 74) (l' := [(1, (Qqd p1)), (2, .ref 0 2 0 0), (4, I 0), (5, I 0), (6, (.own 1 1 (0) ((p1.length : Int).toNat))), (17, (.own 2 1 (0) (p0.heads.length))), (18, (I (((p0.heads.length : Nat) : Int)))), (19, I 0)]) (own' := [(Qrv p0), (.own 1 (((List.replicate (p1.length : Int).toNat 0) : List Int).map Qac)), (Ql3 x37)]) [(1, (Qqd p1)), (2, .ref 0 2 0 0), (4, I 0), (5, I 0), (6, (.own 1 1 (0) ((p1.length : Int).toNat))), (17, (.own 2 1 (0) (p0.heads.length))), (18, (I (((p0.heads.length : Nat) : Int)))), (19, I 0)] [0, 1, 2] [(Qrv p0), (z121_5 p1), (Ql3 x37)] hφ0 (pc (.rn (.plain _ (nld Qaa _))) (pc (.rn (rqr rfl)) (pc rwl (pc rwl (pc (.rn (Qag rfl)) (pc (.rn (Qag rfl)) (pc rwl (pc rwl pn)))))))) (qc (spb (lc (.rn (.plain _ (nld Qaa _))) (lc (.rn (.plain _ (nld Qab _))) ln))) (qc (spr Qaa) (qc (spr Qaa) qn)))) ?_
   refine Qbp (τ := Int × Int × Int × (List Int)) (fun n t => Qcr N p0 p1 k4 x37 n t.1 t.2.1 t.2.2.1 t.2.2.2 = some r) (fun ⟨y38, y39, y40, y41⟩ => ⟨mk 74 [(1, (Qqd p1)), (2, .ref 0 2 0 0), (4, I y38), (5, I y39), (6, (.own 1 1 (0) ((p1.length : Int).toNat))), (17, (.own 2 1 (0) (p0.heads.length))), (18, (I (((p0.heads.length : Nat) : Int)))), (19, I y40)], [(Qrv p0), (Qs1 y41), (Ql3 x37)]⟩) (fun t h => by rw [Qcr] at h; cases h) (fun n46 ih t h => ?_) N (0, 0, 0, List.replicate (p1.length : Int).toNat 0) h
   obtain ⟨y38, y39, y40, y41⟩ := t
   rw [Qcr] at h
   skip
   refine wx tbk [] trivial ?_
   refine wsq ?_
   rcases bft ((decide (y40 < ((p0.heads.length : Nat) : Int)))) with hc47 | hc47
   ·replace h := Qaw hc47 h
    refine wft hc47 (by kernel_rfl) ?_
    refine Qak ?_
    refine thn ?_
    refine wsq ?_
    refine Qae ?_
    obtain ⟨hi48, h⟩ := cko h
    obtain ⟨hi48a, hi48b⟩ := Qbc hi48
    obtain ⟨x49, hg50, h⟩ := bno h
    refine wx tbk [(1, rb [(.tmp 17, (.own 2 1 (0) (p0.heads.length))), (.tmp 19, I y40)] [(2, (Ql3 x37))] (.ref 2 1 (y40.toNat) 0)), (2, rb [(.tmp 22, (.ref 2 1 (y40.toNat) 0))] [(2, (Ql3 x37))] (I x49))] ⟨aio rfl Try.underlying37 ti3 (odt hi48a) (odt hi48b) (Nat.zero_add _), ald rfl ti3 (by decide) (mgt Qac hg50) (nle rfl) rfl, trivial⟩ ?_
    obtain ⟨x51, hg52, h⟩ := bno h
    obtain ⟨hi53, hj54⟩ := gsm hg52
    refine wx tbk [(3, rp [(.tmp 25, (Qqd p1)), (.tmp 26, I y40)] (.dptr (Qac (x51)) 0))] ⟨aid rfl Try.underlying37 ti3 rfl rfl hi53 (mgt Qac hj54) rfl, trivial⟩ ?_
    obtain ⟨hi55, h⟩ := cko h
    obtain ⟨hi55a, hi55b⟩ := Qbc hi55
    obtain ⟨x56, hg57, h⟩ := bno h
    refine wx tbk [(3, rb [(.tmp 30, (.own 1 1 (0) ((p1.length : Int).toNat))), (.tmp 31, I y40)] [(1, (Qs1 y41))] (.ref 1 1 (y40.toNat) 0)), (4, ⟨[(.tmp 33, (.ref 1 1 (y40.toNat) 0)), (.tmp 32, (I (w64 (y39 + x51))))], [(1, (Qs1 y41))], .any, [(1, (.own 1 ((y41.set y40.toNat (w64 (y39 + x51)) : List Int).map Qac)))], false⟩)] ⟨aio rfl Try.underlying37 ti3 (odt hi55a) (odt hi55b) (Nat.zero_add _), ast rfl ti3 (by rfl) (mgt Qac hg57) (nle rfl) (Qgh Qac rfl), trivial⟩ ?_
    obtain ⟨x58, hl59, h⟩ := bno h
    refine wx1 tbk [(3, rp [(.tmp 35, (Qqd p1)), (.tmp 36, I y40)] (.dptr (Qac (x51)) 0)), (8, rp [(.tmp 41, (I (w64 (y38 + (w64 (x51 * x49))))))] (I x58))] ⟨aid rfl Try.underlying37 ti3 rfl rfl hi53 (mgt Qac hj54) rfl, Qep hl59 (aas rfl), trivial⟩ ?_
    refine bln ?_
    refine thn ?_
    refine wx1 tbk [] trivial ?_
    refine thn ?_
    exact arm (mto (n := 74) [(1, (Qqd p1)), (2, .ref 0 2 0 0), (4, I x58), (5, (I (w64 (y39 + x51)))), (6, (.own 1 1 (0) ((p1.length : Int).toNat))), (17, (.own 2 1 (0) (p0.heads.length))), (18, (I (((p0.heads.length : Nat) : Int)))), (19, (I (w64 (y40 + 1))))] [0, 1, 2] [(Qrv p0), (.own 1 ((y41.set y40.toNat (w64 (y39 + x51)) : List Int).map Qac)), (Ql3 x37)] hφ0 (pc (.rn (.plain _ (nld Qaa _))) (pc (.rn (rqr rfl)) (pc rwl (pc rwl (pc (.rn (Qag rfl)) (pc (.rn (Qag rfl)) (pc rwl (pc rwl pn)))))))) (qc (spb (lc (.rn (.plain _ (nld Qaa _))) (lc (.rn (.plain _ (nld Qab _))) ln))) (qc (spr Qaa) (qc (spr Qaa) qn)))) (ih (x58, w64 (y39 + x51), w64 (y40 + 1), y41.set y40.toNat (w64 (y39 + x51))) h)
   ·replace h := Qax hc47 h
    refine wfn hc47 (by kernel_rfl) ?_
    refine Qa8 ?_
    refine Qap ?_
    refine Qap ?_
    refine Qa7 rfl ?_
    refine thn ?_
    exact ⟨(y38, y41), h, (mto (n := 74) [(2, .ref 0 2 0 0), (4, I y38), (6, (.own 1 1 (0) ((p1.length : Int).toNat)))] [0, 1] [(Qrv p0), (Qs1 y41)] hφ0 (pc (.rn (rqr rfl)) (pc rwl (pc (.rn (Qag rfl)) pn))) (qc (spb (lc (.rn (.plain _ (nld Qaa _))) (lc (.rn (.plain _ (nld Qab _))) ln))) (qc (spr Qaa) qn)))⟩
def Qc9 (N : Nat) (p0 : (List Int)) (p1 : (List GUnit)) (k21 : (List Int) → Option Bool) (x22 : Int) (x37 : Int) : Nat → Int → (List Int) → Option Bool
  | 0, _, _ => none
  | n43 + 1, y39, y40 =>
    bif (decide (y39 < x37)) then
     chk (decide (0 ≤ y39) && decide (y39.toNat < (⟨p0, p1⟩ : GShared).heads.length)) <|
     (y40[y39.toNat]?).bind fun x46 =>
     chk (decide (0 ≤ y39) && decide (y39.toNat < (⟨p0, p1⟩ : GShared).heads.length)) <|
     (y40[y39.toNat]?).bind fun _ =>
     Qc9 N p0 p1 k21 x22 x37 n43 (w64 (y39 + 1)) (y40.set y39.toNat (w64 (x46 - x22)))
    else
     k21 (y40)
def Qcp (N : Nat) (p0 : (List Int)) (p1 : (List GUnit)) (p2 : (List Int)) (k5 : (List Int) → Option Bool) : Nat → Int → (List Int) → Option Bool
  | 0, _, _ => none
  | n18 + 1, y14, y15 =>
    bif (decide (y14 < (p2.length : Int))) then
     Qby (fun y20 =>
       Qcp N p0 p1 p2 k5 n18 (w64 (y14 + 1)) y20) fun k21 : (List Int) → Option Bool =>
     (getI p2 y14).bind fun x22 =>
     (getI p1 y14).bind fun x26 =>
     (Qej N x26).bind fun x31 =>
     (Qbm N x22 0 x31).bind fun x33 =>
     bif (!x33) then
      some false
     else
      chk (decide ((0 : Int) ≤ 0) && decide (0 ≤ w64 (x26.Inlet + 1)) && decide (w64 (x26.Inlet + 1) ≤ (((⟨p0, p1⟩ : GShared).heads.length : Nat) : Int))) <|
      chk (decide ((0 : Int) < (((⟨p0, p1⟩ : GShared).heads.length : Nat) : Int))) <|
      (some (((w64 (x26.Inlet + 1)).toNat - (0 : Int).toNat : Nat) : Int)).bind fun x37 =>
      Qc9 N p0 p1 k21 x22 x37 N 0 y15
    else
     k5 (y15)
def Qdl (N : Nat) (p0 : (List Int)) (p1 : (List GUnit)) (p2 : (List Int)) (p3 : Int) (p4 : (List Int)) : Option Bool :=
  Qby (fun _ =>
    (Qdp N (⟨p0, p1⟩ : GShared)).bind fun x3 =>
    Qby (fun y4 =>
      (Qd4 N ((⟨p0, p1⟩ : GShared).heads.length) y4).bind fun x7 =>
      bif (decide (x7 ≥ 0)) then
       (Qdx N (⟨p0, p1⟩ : GShared) p2).bind fun x10 =>
       bif (x10 == p3) then
        (Qfl N (⟨p0, p1⟩ : GShared) p4).bind fun x13 =>
        some (x13 == p3)
       else
        some false
      else
       some false) fun k5 : (List Int) → Option Bool =>
    Qcp N p0 p1 p2 k5 N 0 x3) fun k1 : Unit → Option Bool =>
  (Qem N (⟨p0, p1⟩ : GShared)).bind fun x52 =>
  bif (!x52) then
   some false
  else
   (Qe3 N (⟨p0, p1⟩ : GShared) p4).bind fun x55 =>
   bif (!x55) then
    some false
   else
    bif ((p2.length : Int) != (p1.length : Int)) then
     some false
    else
     k1 ()
def Qye (p0 : (List Int)) : AV := .dat 1 ((p0 : List Int).map Qac)
def Qh0 (p1 : (List GUnit)) : AV := .dat 2 ((p1 : List GUnit).map Qao)
def Qii (p0 : (List Int)) (p1 : (List GUnit)) : AV := .agg [(Qye p0), (Qh0 p1)]
def Qfe (p2 : (List Int)) : AV := .dat 1 ((p2 : List Int).map Qac)
def Qhw (p4 : (List Int)) : AV := .dat 1 ((p4 : List Int).map Qac)
def Qke (p0 : (List Int)) (p1 : (List GUnit)) : Slot := .own 2 [[(Qye p0), (Qh0 p1)]]
def Qyd (x3 : (List Int)) : Slot := .own 1 ((x3 : List Int).map Qac)
def Qil (y4 : (List Int)) : Slot := .own 1 ((y4 : List Int).map Qac)
def Qqc (y15 : (List Int)) : Slot := .own 1 ((y15 : List Int).map Qac)
def Qo8 (y40 : (List Int)) : Slot := .own 1 ((y40 : List Int).map Qac)
set_option maxRecDepth 100000 in
set_option maxHeartbeats 4000000 in
theorem Qch (N : Nat) (p0 : (List Int)) (p1 : (List GUnit)) (p2 : (List Int)) (p3 : Int) (p4 : (List Int)) (r : Bool) (h : Qdl N p0 p1 p2 p3 p4 = some r) : Spec Try.prog 53 [(.dat 1 (p0.map Qac)), (.dat 2 (p1.map Qao)), (.dat 1 (p2.map Qac)), (I p3), (.dat 1 (p4.map Qac))] [] (B r) [] := by
  refine Qad Try.func53 rfl 0 (nle rfl) (fun X φ0 w0 hφ0 => ?_)
  unfold Qdl at h
  refine wx tbk [] trivial ?_
  refine wx tbk [(2, rp [(.tmp 16, (Qye p0)), (.tmp 17, (Qh0 p1))] (Qii p0 p1))] ⟨Qbv (vs := [(Qye p0), (Qh0 p1)]) rfl ts133 tz133 rfl (by rfl) rfl, trivial⟩ ?_
  obtain ⟨k1, hk_k1, h⟩ := jko h
  refine wjn (τ := Unit) (fun t => k1 t = some r) (fun _ => ⟨mk 90 [(1, (Qh0 p1)), (2, (Qfe p2)), (3, I p3), (4, (Qhw p4)), (11, .ref 0 2 0 0)], [(Qke p0 p1)]⟩) (fun t h => ?_) ?_
  ·subst hk_k1
   obtain ⟨x3, hf2, h⟩ := bno h
   refine wx tbk [(1, ⟨[fu 87, (.tmp 35, (Qii p0 p1))], [(1, .unused)], (.own 1 1 (0) ((⟨p0, p1⟩ : GShared).heads.length)), [(1, (Qyd x3))], false⟩)] ⟨Qan (first := []) (cap := []) (vs := [(.agg [(.dat 1 (((⟨p0, p1⟩ : GShared).heads : List Int).map Qac)), (.dat 2 (((⟨p0, p1⟩ : GShared).units : List GUnit).map Qao))])]) (σr := []) (σr' := [(Qyd x3)]) (res' := (.own 1 1 (0) ((⟨p0, p1⟩ : GShared).heads.length))) [1] rfl Qxm (Qgi N (⟨p0, p1⟩ : GShared) _ hf2) rfl (Qb4 (rnc (.plain _ (NLt.agg _ (nlc (nld Qaa _) (nlc (nld Qab _) nl0)))) rn0)) Qam (slc (Qda Qaa) Qam) (Qj1 rfl) rfl rfl rfl, trivial⟩ ?_
   obtain ⟨k5, hk_k5, h⟩ := jko h
   refine wjn (τ := (List Int)) (fun t => k5 t = some r) (fun y4 => ⟨mk 90 [(2, (Qfe p2)), (3, I p3), (4, (Qhw p4)), (11, .ref 0 2 0 0), (12, (.own 1 1 (0) ((⟨p0, p1⟩ : GShared).heads.length)))], [(Qke p0 p1), (Qil y4)]⟩) (fun y4 h => ?_) ?_
   ·subst hk_k5
    obtain ⟨x7, hf6, h⟩ := bno h
    rcases bft ((decide (x7 ≥ 0))) with hb8 | hb8
    ·replace h := Qaw hb8 h
     obtain ⟨x10, hf9, h⟩ := bno h
     rcases bft ((x10 == p3)) with hb11 | hb11
     ·replace h := Qaw hb11 h
      obtain ⟨x13, hf12, h⟩ := bno h
      refine wx tbk [(1, ⟨[fu 88, (.tmp 73, (.own 1 1 (0) ((⟨p0, p1⟩ : GShared).heads.length)))], [(1, (Qil y4))], I x7, [(1, (Qil y4))], false⟩), (3, rp [(.tmp 75, (B ((decide (x7 ≥ 0)))))] (B true)), (6, rp [(.tmp 76, B true), fu 82, (.tmp 77, (Qii p0 p1)), (.tmp 78, (Qfe p2))] (I x10)), (10, rp [(.tmp 82, (B ((x10 == p3))))] (B true)), (13, rp [(.tmp 83, B true), fu 84, (.tmp 84, (Qii p0 p1)), (.tmp 85, (Qhw p4))] (I x13))] ⟨Qan (first := []) (cap := []) (vs := [(.own 1 1 (0) (((⟨p0, p1⟩ : GShared).heads.length)))]) (σr := [(Qil y4)]) (σr' := [(Qil y4)]) (res' := (I x7)) [1] rfl Qty (Qex N ((⟨p0, p1⟩ : GShared).heads.length) y4 _ hf6) rfl (Qb4 (rnc (Qfk rfl) rn0)) (slc (Qda Qaa) Qam) (slc (Qda Qaa) Qam) (.plain _ nll) rfl rfl rfl, asb hb8 (amv rfl), ag_ (apc (first := []) (cap := []) (vs := [(Qii p0 p1), (Qfe p2)]) rfl Qxn (Qg3 N (⟨p0, p1⟩ : GShared) p2 _ hf9) rfl rfl (nlc (NLt.agg _ (nlc (nld Qaa _) (nlc (nld Qab _) nl0))) (nlc (nld Qaa _) nl0)) nll rfl), asb hb11 (amv rfl), ag_ (apc (first := []) (cap := []) (vs := [(Qii p0 p1), (Qhw p4)]) rfl enter84 (Qlq N (⟨p0, p1⟩ : GShared) p4 _ hf12) rfl rfl (nlc (NLt.agg _ (nlc (nld Qaa _) (nlc (nld Qab _) nl0))) (nlc (nld Qaa _) nl0)) nll rfl), trivial⟩ ?_
      refine Qaf ?_
      obtain rfl := osi h
      exact fend ⟨[(B ((x13 == p3)))], ⟨rot (by kernel_rfl), trivial⟩, rfl⟩ nll
     ·replace h := Qax hb11 h
      refine wx tbk [(1, ⟨[fu 88, (.tmp 73, (.own 1 1 (0) ((⟨p0, p1⟩ : GShared).heads.length)))], [(1, (Qil y4))], I x7, [(1, (Qil y4))], false⟩), (3, rp [(.tmp 75, (B ((decide (x7 ≥ 0)))))] (B true)), (6, rp [(.tmp 76, B true), fu 82, (.tmp 77, (Qii p0 p1)), (.tmp 78, (Qfe p2))] (I x10)), (10, rp [(.tmp 82, (B ((x10 == p3))))] (B false))] ⟨Qan (first := []) (cap := []) (vs := [(.own 1 1 (0) (((⟨p0, p1⟩ : GShared).heads.length)))]) (σr := [(Qil y4)]) (σr' := [(Qil y4)]) (res' := (I x7)) [1] rfl Qty (Qex N ((⟨p0, p1⟩ : GShared).heads.length) y4 _ hf6) rfl (Qb4 (rnc (Qfk rfl) rn0)) (slc (Qda Qaa) Qam) (slc (Qda Qaa) Qam) (.plain _ nll) rfl rfl rfl, asb hb8 (amv rfl), ag_ (apc (first := []) (cap := []) (vs := [(Qii p0 p1), (Qfe p2)]) rfl Qxn (Qg3 N (⟨p0, p1⟩ : GShared) p2 _ hf9) rfl rfl (nlc (NLt.agg _ (nlc (nld Qaa _) (nlc (nld Qab _) nl0))) (nlc (nld Qaa _) nl0)) nll rfl), asb hb11 (amv rfl), trivial⟩ ?_
      refine Qaf ?_
      obtain rfl := osi h
      exact fend ⟨[B false], ⟨rot (by kernel_rfl), trivial⟩, rfl⟩ nll
    ·replace h := Qax hb8 h
     refine wx tbk [(1, ⟨[fu 88, (.tmp 73, (.own 1 1 (0) ((⟨p0, p1⟩ : GShared).heads.length)))], [(1, (Qil y4))], I x7, [(1, (Qil y4))], false⟩), (3, rp [(.tmp 75, (B ((decide (x7 ≥ 0)))))] (B false))] ⟨Qan (first := []) (cap := []) (vs := [(.own 1 1 (0) (((⟨p0, p1⟩ : GShared).heads.length)))]) (σr := [(Qil y4)]) (σr' := [(Qil y4)]) (res' := (I x7)) [1] rfl Qty (Qex N ((⟨p0, p1⟩ : GShared).heads.length) y4 _ hf6) rfl (Qb4 (rnc (Qfk rfl) rn0)) (slc (Qda Qaa) Qam) (slc (Qda Qaa) Qam) (.plain _ nll) rfl rfl rfl, asb hb8 (amv rfl), trivial⟩ ?_
     refine Qaf ?_
     obtain rfl := osi h
     exact fend ⟨[B false], ⟨rot (by kernel_rfl), trivial⟩, rfl⟩ nll
   ·skip
    refine wx tbk [(1, rp [(.tmp 37, (Qfe p2))] (I ((p2.length : Int))))] ⟨alm (c := Qac) (l := p2) (aln rfl Try.underlying37 rfl), trivial⟩ ?_
    refine Qae ?_
    refine wmr (mto (n := 90) (l' := [(1, (Qh0 p1)), (2, (Qfe p2)), (3, I p3), (4, (Qhw p4)), (11, .ref 0 2 0 0), (12, (.own 1 1 (0) ((⟨p0, p1⟩ : GShared).heads.length))), (37, (Qfe p2)), (38, (I ((p2.length : Int)))), (39, I 0)]) (own' := [(Qke p0 p1), (Qyd x3)]) [(1, (Qh0 p1)), (2, (Qfe p2)), (3, I p3), (4, (Qhw p4)), (11, .ref 0 2 0 0), (12, (.own 1 1 (0) ((⟨p0, p1⟩ : GShared).heads.length))), (37, (Qfe p2)), (38, (I ((p2.length : Int)))), (39, I 0)] [0, 1] [(Qke p0 p1), (Qyd x3)] hφ0 (pc (.rn (.plain _ (nld Qab _))) (pc (.rn (.plain _ (nld Qaa _))) (pc rwl (pc (.rn (.plain _ (nld Qaa _))) (pc (.rn (rqr rfl)) (pc (.rn (Qag rfl)) (pc (.rn (.plain _ (nld Qaa _))) (pc rwl (pc rwl pn))))))))) (qc (spb (lc (.rn (.plain _ (nld Qaa _))) (lc (.rn (.plain _ (nld Qab _))) ln))) (qc (spr Qaa) qn))) ?_
    refine Qbp (τ := Int × (List Int)) (fun n t => Qcp N p0 p1 p2 k5 n t.1 t.2 = some r) (fun ⟨y14, y15⟩ => ⟨mk 90 [(1, (Qh0 p1)), (2, (Qfe p2)), (3, I p3), (4, (Qhw p4)), (11, .ref 0 2 0 0), (12, (.own 1 1 (0) ((⟨p0, p1⟩ : GShared).heads.length))), (37, (Qfe p2)), (38, (I ((p2.length : Int)))), (39, I y14)], [(Qke p0 p1), (Qqc y15)]⟩) (fun t h => by rw [Qcp] at h; cases h) (fun n18 ih t h => ?_) N (0, x3) h
    obtain ⟨y14, y15⟩ := t
    rw [Qcp] at h
    skip
    refine wx tbk [] trivial ?_
    refine wsq ?_
    rcases bft ((decide (y14 < (p2.length : Int)))) with hc19 | hc19
    ·replace h := Qaw hc19 h
     refine wft hc19 (by kernel_rfl) ?_
     refine Qak ?_
     refine thn ?_
     obtain ⟨k21, hk_k21, h⟩ := jko h
     refine wjn (τ := (List Int)) (fun t => k21 t = some r) (fun y20 => ⟨mk 90 [(1, (Qh0 p1)), (2, (Qfe p2)), (3, I p3), (4, (Qhw p4)), (11, .ref 0 2 0 0), (12, (.own 1 1 (0) ((⟨p0, p1⟩ : GShared).heads.length))), (37, (Qfe p2)), (38, (I ((p2.length : Int)))), (39, I y14)], [(Qke p0 p1), (.own 1 ((y20 : List Int).map Qac))]⟩) (fun y20 h => ?_) ?_
     ·subst hk_k21
      refine wx1 tbk [] trivial ?_
      refine thn ?_
      exact arm (mto (n := 90) [(1, (Qh0 p1)), (2, (Qfe p2)), (3, I p3), (4, (Qhw p4)), (11, .ref 0 2 0 0), (12, (.own 1 1 (0) ((⟨p0, p1⟩ : GShared).heads.length))), (37, (Qfe p2)), (38, (I ((p2.length : Int)))), (39, (I (w64 (y14 + 1))))] [0, 1] [(Qke p0 p1), (.own 1 ((y20 : List Int).map Qac))] hφ0 (pc (.rn (.plain _ (nld Qab _))) (pc (.rn (.plain _ (nld Qaa _))) (pc rwl (pc (.rn (.plain _ (nld Qaa _))) (pc (.rn (rqr rfl)) (pc (.rn (Qag rfl)) (pc (.rn (.plain _ (nld Qaa _))) (pc rwl (pc rwl pn))))))))) (qc (spb (lc (.rn (.plain _ (nld Qaa _))) (lc (.rn (.plain _ (nld Qab _))) ln))) (qc (spr Qaa) qn))) (ih (w64 (y14 + 1), y20) h)
     ·skip
      refine Qae ?_
      obtain ⟨x22, hg23, h⟩ := bno h
      obtain ⟨hi24, hj25⟩ := gsm hg23
      refine wx tbk [(1, rp [(.tmp 37, (Qfe p2)), (.tmp 39, I y14)] (.dptr (Qac (x22)) 0))] ⟨aid rfl Try.underlying37 ti3 rfl rfl hi24 (mgt Qac hj25) rfl, trivial⟩ ?_
      refine wsq ?_
      obtain ⟨x26, hg27, h⟩ := bno h
      obtain ⟨hi28, hj29⟩ := gsm hg27
      obtain ⟨x31, hf30, h⟩ := bno h
      obtain ⟨x33, hf32, h⟩ := bno h
      refine wx tbk [(3, rp [(.tmp 45, (Qh0 p1)), (.tmp 46, I y14)] (.dptr (Qao (x26)) 0)), (5, rp [fu 66, (.tmp 48, (.agg [I x26.Inlet, (.dat 2 ((x26.Parts : List GPart).map Qav))]))] (I x31)), (6, rp [fu 65, (.tmp 44, I x22), ci 0, (.tmp 49, I x31)] (B x33))] ⟨aid rfl Try.underlying89 ti34 rfl rfl hi28 (mgt Qao hj29) rfl, apc (first := []) (cap := []) (vs := [(.agg [I x26.Inlet, (.dat 2 ((x26.Parts : List GPart).map Qav))])]) rfl enter66 (Qib N x26 _ hf30) rfl rfl (nlc (NLt.agg _ (nlc nll (nlc (nld Qbi _) nl0))) nl0) nll rfl, apc (first := []) (cap := []) (vs := [I x22, I 0, I x31]) rfl Qb3 (Qah N x22 0 x31 _ hf32) rfl rfl (nlc nll (nlc nll (nlc nll nl0))) nll rfl, trivial⟩ ?_
      rcases bft ((!x33)) with hc34 | hc34
      ·replace h := Qaw hc34 h
       refine wft hc34 (by kernel_rfl) ?_
       refine wx tbk [] trivial ?_
       refine Qaf ?_
       refine Qa4 ?_
       refine Qb0 ?_
       refine Qa4 ?_
       refine Qa4 ?_
       refine Qb0 ?_
       refine Qa4 ?_
       obtain rfl := osi h
       exact fend ⟨[B false], ⟨rot (by kernel_rfl), trivial⟩, rfl⟩ nll
      ·replace h := Qax hc34 h
       refine wfn hc34 (by kernel_rfl) ?_
       refine Qak ?_
       refine thn ?_
       obtain ⟨hs35, h⟩ := cko h
       obtain ⟨hs36, h⟩ := cko h
       obtain ⟨x37, hl38, h⟩ := bno h
       refine wx tbk [(3, rp [(.tmp 53, (Qh0 p1)), (.tmp 54, I y14)] (.dptr (Qao (x26)) 0)), (7, rb [(.tmp 52, (.own 1 1 (0) ((⟨p0, p1⟩ : GShared).heads.length))), (.tmp 58, (I (w64 (x26.Inlet + 1))))] [(1, (Qqc y15))] (.own 1 1 (0) ((w64 (x26.Inlet + 1)).toNat - (0 : Int).toNat))), (8, rp [(.tmp 59, (.own 1 1 (0) ((w64 (x26.Inlet + 1)).toNat - (0 : Int).toNat)))] (I x37))] ⟨aid rfl Try.underlying89 ti34 rfl rfl hi28 (mgt Qao hj29) rfl, Qpt (k := .i64) (k' := .i64) (lo := none) (hi := some (.tmp 58)) (l := 0) (hh := w64 (x26.Inlet + 1)) rfl Try.underlying37 ti3 (fun _ => rfl) (fun e => nomatch e) (Qug hs35) (Quf hs35) (odt (Qbc hs35).2) (odt hs36) rfl rfl, Qep hl38 (aln rfl Try.underlying37 rfl), trivial⟩ ?_
       refine Qae ?_
       refine wmr (mto (n := 90) (l' := [(1, (Qh0 p1)), (2, (Qfe p2)), (3, I p3), (4, (Qhw p4)), (11, .ref 0 2 0 0), (12, (.own 1 1 (0) ((⟨p0, p1⟩ : GShared).heads.length))), (14, I x22), (37, (Qfe p2)), (38, (I ((p2.length : Int)))), (39, I y14), (60, I x37), (61, I 0)]) (own' := [(Qke p0 p1), (Qqc y15)]) [(1, (Qh0 p1)), (2, (Qfe p2)), (3, I p3), (4, (Qhw p4)), (11, .ref 0 2 0 0), (12, (.own 1 1 (0) ((⟨p0, p1⟩ : GShared).heads.length))), (14, I x22), (37, (Qfe p2)), (38, (I ((p2.length : Int)))), (39, I y14), (60, I x37), (61, I 0)] [0, 1] [(Qke p0 p1), (Qqc y15)] hφ0 (pc (.rn (.plain _ (nld Qab _))) (pc (.rn (.plain _ (nld Qaa _))) (pc rwl (pc (.rn (.plain _ (nld Qaa _))) (pc (.rn (rqr rfl)) (pc (.rn (Qag rfl)) (pc rwl (pc (.rn (.plain _ (nld Qaa _))) (pc rwl (pc rwl (pc rwl (pc rwl pn)))))))))))) (qc (spb (lc (.rn (.plain _ (nld Qaa _))) (lc (.rn (.plain _ (nld Qab _))) ln))) (qc (spr Qaa) qn))) ?_
       refine Qbp (τ := Int × (List Int)) (fun n t => Qc9 N p0 p1 k21 x22 x37 n t.1 t.2 = some r) (fun ⟨y39, y40⟩ => ⟨mk 90 [(1, (Qh0 p1)), (2, (Qfe p2)), (3, I p3), (4, (Qhw p4)), (11, .ref 0 2 0 0), (12, (.own 1 1 (0) ((⟨p0, p1⟩ : GShared).heads.length))), (14, I x22), (37, (Qfe p2)), (38, (I ((p2.length : Int)))), (39, I y14), (60, I x37), (61, I y39)], [(Qke p0 p1), (Qo8 y40)]⟩) (fun t h => by rw [Qc9] at h; cases h) (fun n43 ih t h => ?_) N (0, y15) h
       obtain ⟨y39, y40⟩ := t
       rw [Qc9] at h
       skip
       refine wx tbk [] trivial ?_
       refine wsq ?_
       rcases bft ((decide (y39 < x37))) with hc44 | hc44
       ·replace h := Qaw hc44 h
        refine wft hc44 (by kernel_rfl) ?_
        refine Qak ?_
        refine thn ?_
        refine wsq ?_
        refine Qae ?_
        refine wx tbk [] trivial ?_
        obtain ⟨hi45, h⟩ := cko h
        obtain ⟨hi45a, hi45b⟩ := Qbc hi45
        obtain ⟨x46, hg47, h⟩ := bno h
        obtain ⟨hi48, h⟩ := cko h
        obtain ⟨hi48a, hi48b⟩ := Qbc hi48
        obtain ⟨x49, hg50, h⟩ := bno h
        refine wx1 tbk [(2, rb [(.tmp 64, (.own 1 1 (0) ((⟨p0, p1⟩ : GShared).heads.length))), (.tmp 65, I y39)] [(1, (Qo8 y40))] (.ref 1 1 (y39.toNat) 0)), (3, rb [(.tmp 66, (.ref 1 1 (y39.toNat) 0))] [(1, (Qo8 y40))] (I x46)), (6, rb [(.tmp 64, (.own 1 1 (0) ((⟨p0, p1⟩ : GShared).heads.length))), (.tmp 65, I y39)] [(1, (Qo8 y40))] (.ref 1 1 (y39.toNat) 0)), (7, ⟨[(.tmp 70, (.ref 1 1 (y39.toNat) 0)), (.tmp 69, (I (w64 (x46 - x22))))], [(1, (Qo8 y40))], .any, [(1, (.own 1 ((y40.set y39.toNat (w64 (x46 - x22)) : List Int).map Qac)))], false⟩)] ⟨aio rfl Try.underlying37 ti3 (odt hi45a) (odt hi45b) (Nat.zero_add _), ald rfl ti3 (by decide) (mgt Qac hg47) (nle rfl) rfl, aio rfl Try.underlying37 ti3 (odt hi48a) (odt hi48b) (Nat.zero_add _), ast rfl ti3 (by rfl) (mgt Qac hg50) (nle rfl) (Qgh Qac rfl), trivial⟩ ?_
        refine bln ?_
        refine thn ?_
        refine wx1 tbk [] trivial ?_
        refine thn ?_
        exact arm (mto (n := 90) [(1, (Qh0 p1)), (2, (Qfe p2)), (3, I p3), (4, (Qhw p4)), (11, .ref 0 2 0 0), (12, (.own 1 1 (0) ((⟨p0, p1⟩ : GShared).heads.length))), (14, I x22), (37, (Qfe p2)), (38, (I ((p2.length : Int)))), (39, I y14), (60, I x37), (61, (I (w64 (y39 + 1))))] [0, 1] [(Qke p0 p1), (.own 1 ((y40.set y39.toNat (w64 (x46 - x22)) : List Int).map Qac))] hφ0 (pc (.rn (.plain _ (nld Qab _))) (pc (.rn (.plain _ (nld Qaa _))) (pc rwl (pc (.rn (.plain _ (nld Qaa _))) (pc (.rn (rqr rfl)) (pc (.rn (Qag rfl)) (pc rwl (pc (.rn (.plain _ (nld Qaa _))) (pc rwl (pc rwl (pc rwl (pc rwl pn)))))))))))) (qc (spb (lc (.rn (.plain _ (nld Qaa _))) (lc (.rn (.plain _ (nld Qab _))) ln))) (qc (spr Qaa) qn))) (ih (w64 (y39 + 1), y40.set y39.toNat (w64 (x46 - x22))) h)
       ·replace h := Qax hc44 h
        refine wfn hc44 (by kernel_rfl) ?_
        refine Qa8 ?_
        refine Qap ?_
        refine Qap ?_
        refine Qa7 rfl ?_
        refine bln ?_
        refine thn ?_
        exact ⟨(y40), h, (mto (n := 90) [(1, (Qh0 p1)), (2, (Qfe p2)), (3, I p3), (4, (Qhw p4)), (11, .ref 0 2 0 0), (12, (.own 1 1 (0) ((⟨p0, p1⟩ : GShared).heads.length))), (37, (Qfe p2)), (38, (I ((p2.length : Int)))), (39, I y14)] [0, 1] [(Qke p0 p1), (Qo8 y40)] hφ0 (pc (.rn (.plain _ (nld Qab _))) (pc (.rn (.plain _ (nld Qaa _))) (pc rwl (pc (.rn (.plain _ (nld Qaa _))) (pc (.rn (rqr rfl)) (pc (.rn (Qag rfl)) (pc (.rn (.plain _ (nld Qaa _))) (pc rwl (pc rwl pn))))))))) (qc (spb (lc (.rn (.plain _ (nld Qaa _))) (lc (.rn (.plain _ (nld Qab _))) ln))) (qc (spr Qaa) qn)))⟩
    ·replace h := Qax hc19 h
     refine wfn hc19 (by kernel_rfl) ?_
     refine Qa8 ?_
     refine Qap ?_
     refine Qap ?_
     refine Qa7 rfl ?_
     refine thn ?_
     exact ⟨(y15), h, (mto (n := 90) [(2, (Qfe p2)), (3, I p3), (4, (Qhw p4)), (11, .ref 0 2 0 0), (12, (.own 1 1 (0) ((⟨p0, p1⟩ : GShared).heads.length)))] [0, 1] [(Qke p0 p1), (Qqc y15)] hφ0 (pc (.rn (.plain _ (nld Qaa _))) (pc rwl (pc (.rn (.plain _ (nld Qaa _))) (pc (.rn (rqr rfl)) (pc (.rn (Qag rfl)) pn))))) (qc (spb (lc (.rn (.plain _ (nld Qaa _))) (lc (.rn (.plain _ (nld Qab _))) ln))) (qc (spr Qaa) qn)))⟩
  ·skip
   obtain ⟨x52, hf51, h⟩ := bno h
   rcases bft ((!x52)) with hb53 | hb53
   ·replace h := Qaw hb53 h
    refine wx tbk [(1, rp [fu 80, (.tmp 19, (Qii p0 p1))] (B x52)), (3, rp [(.tmp 21, (B ((!x52))))] (B true))] ⟨apc (first := []) (cap := []) (vs := [(Qii p0 p1)]) rfl Qtz (Qfp N (⟨p0, p1⟩ : GShared) _ hf51) rfl rfl (nlc (NLt.agg _ (nlc (nld Qaa _) (nlc (nld Qab _) nl0))) nl0) nll rfl, asb hb53 (amv rfl), trivial⟩ ?_
    refine Qhn (by kernel_rfl) ?_
    refine wx tbk [] trivial ?_
    refine Qaf ?_
    refine Qa4 ?_
    obtain rfl := osi h
    exact fend ⟨[B false], ⟨rot (by kernel_rfl), trivial⟩, rfl⟩ nll
   ·replace h := Qax hb53 h
    obtain ⟨x55, hf54, h⟩ := bno h
    rcases bft ((!x55)) with hb56 | hb56
    ·replace h := Qaw hb56 h
     refine wx tbk [(1, rp [fu 80, (.tmp 19, (Qii p0 p1))] (B x52)), (3, rp [(.tmp 21, (B ((!x52))))] (B false)), (6, rp [(.tmp 22, B false), fu 83, (.tmp 23, (Qii p0 p1)), (.tmp 24, (Qhw p4))] (B x55)), (9, rp [(.tmp 27, (B ((!x55))))] (B true))] ⟨apc (first := []) (cap := []) (vs := [(Qii p0 p1)]) rfl Qtz (Qfp N (⟨p0, p1⟩ : GShared) _ hf51) rfl rfl (nlc (NLt.agg _ (nlc (nld Qaa _) (nlc (nld Qab _) nl0))) nl0) nll rfl, asb hb53 (amv rfl), ag_ (apc (first := []) (cap := []) (vs := [(Qii p0 p1), (Qhw p4)]) rfl enter83 (Qh8 N (⟨p0, p1⟩ : GShared) p4 _ hf54) rfl rfl (nlc (NLt.agg _ (nlc (nld Qaa _) (nlc (nld Qab _) nl0))) (nlc (nld Qaa _) nl0)) nll rfl), asb hb56 (amv rfl), trivial⟩ ?_
     refine Qhn (by kernel_rfl) ?_
     refine wx tbk [] trivial ?_
     refine Qaf ?_
     refine Qa4 ?_
     obtain rfl := osi h
     exact fend ⟨[B false], ⟨rot (by kernel_rfl), trivial⟩, rfl⟩ nll
    ·replace h := Qax hb56 h
     refine wx tbk [(1, rp [fu 80, (.tmp 19, (Qii p0 p1))] (B x52)), (3, rp [(.tmp 21, (B ((!x52))))] (B false)), (6, rp [(.tmp 22, B false), fu 83, (.tmp 23, (Qii p0 p1)), (.tmp 24, (Qhw p4))] (B x55)), (9, rp [(.tmp 27, (B ((!x55))))] (B false)), (11, rp [(.tmp 28, B false), (.tmp 29, (Qfe p2))] (I ((p2.length : Int)))), (13, rp [(.tmp 28, B false), (.tmp 31, (Qh0 p1))] (I ((p1.length : Int))))] ⟨apc (first := []) (cap := []) (vs := [(Qii p0 p1)]) rfl Qtz (Qfp N (⟨p0, p1⟩ : GShared) _ hf51) rfl rfl (nlc (NLt.agg _ (nlc (nld Qaa _) (nlc (nld Qab _) nl0))) nl0) nll rfl, asb hb53 (amv rfl), ag_ (apc (first := []) (cap := []) (vs := [(Qii p0 p1), (Qhw p4)]) rfl enter83 (Qh8 N (⟨p0, p1⟩ : GShared) p4 _ hf54) rfl rfl (nlc (NLt.agg _ (nlc (nld Qaa _) (nlc (nld Qab _) nl0))) (nlc (nld Qaa _) nl0)) nll rfl), asb hb56 (amv rfl), ag_ (alm (c := Qac) (l := p2) (aln rfl Try.underlying37 rfl)), ag_ (alm (c := Qao) (l := p1) (aln rfl Try.underlying89 rfl)), trivial⟩ ?_
     rcases bft (((p2.length : Int) != (p1.length : Int))) with hc57 | hc57
     ·replace h := Qaw hc57 h
      refine wft hc57 (by kernel_rfl) ?_
      refine wx tbk [] trivial ?_
      refine Qaf ?_
      refine Qa4 ?_
      obtain rfl := osi h
      exact fend ⟨[B false], ⟨rot (by kernel_rfl), trivial⟩, rfl⟩ nll
     ·replace h := Qax hc57 h
      refine wfn hc57 (by kernel_rfl) ?_
      refine Qak ?_
      refine thn ?_
      exact ⟨(), h, (mto (n := 90) [(1, (Qh0 p1)), (2, (Qfe p2)), (3, I p3), (4, (Qhw p4)), (11, .ref 0 2 0 0)] [0] [(Qke p0 p1)] hφ0 (pc (.rn (.plain _ (nld Qab _))) (pc (.rn (.plain _ (nld Qaa _))) (pc rwl (pc (.rn (.plain _ (nld Qaa _))) (pc (.rn (rqr rfl)) pn))))) (qc (spb (lc (.rn (.plain _ (nld Qaa _))) (lc (.rn (.plain _ (nld Qab _))) ln))) qn))⟩
end Go.Proofs.Ytlhakkkjgdbdpaa
