/-
  Functions of the program: what they compute, as plain functions, and that they do. No conditions.
-/
import Derived.Test.YtflmombnmnblnaaXt
namespace Go.Proofs.Ytflmombnmnblnaa
set_option maxRecDepth 100000
set_option maxHeartbeats 4000000
open Go.RowKit
def Qcs (N : Nat) (p0 : (List GBracket)) (k2 : (List GBracket) → Option (List GBracket)) : Nat → (List GBracket) → Int → Option (List GBracket)
  | 0, _, _ => none
  | n7 + 1, y3, y4 =>
    bif (decide (y4 < (p0.length : Int))) then
     (getI p0 y4).bind fun x9 =>
     chk (decide ((y3.length + ([x9]).length) * 16 ≤ 140737488355328)) <|
     Qcs N p0 k2 n7 (y3 ++ ([x9])) (w64 (y4 + 1))
    else
     k2 (y3)
def Qex (N : Nat) (p0 : (List GBracket)) : Option (List GBracket) :=
  Qcg (fun y1 =>
    some y1) fun k2 : (List GBracket) → Option (List GBracket) =>
  Qcs N p0 k2 N ([]) 0
def z1_0 (p0 : (List GBracket)) : AV := .dat 2 ((p0 : List GBracket).map Qad)
def z1_15 (y3 : (List GBracket)) : AV := .acc 0 154 2 ((y3 : List GBracket).map Qad)
def z1_19 (x9 : GBracket) : AV := .agg [(I (x9.Upto)), (I (x9.Price))]
theorem Qiv (N : Nat) (p0 : (List GBracket)) (r : (List GBracket)) (h : Qex N p0 = some r) : Spec Try.prog 21 [(.dat 2 (p0.map Qad))] [] (.dat 2 (r.map Qad)) [] := by
  refine Qah Try.func21 rfl 0 (nle rfl) (fun X φ0 w0 hφ0 hd0 => ?_)
  unfold Qex at h
  refine wx tbk [] trivial ?_
  refine wx tbk [] trivial ?_
  obtain ⟨k2, hk_k2, h⟩ := jko h
  refine wjn (τ := (List GBracket)) (fun t => k2 t = some r) (fun y1 => ⟨mk 26 [(3, (.acc 0 154 2 ((y1 : List GBracket).map Qad)))], [.tok]⟩) (fun y1 h => ?_) ?_
  ·subst hk_k2
   refine wx tbk [] trivial ?_
   refine Qae ?_
   obtain rfl := osi h
   exact fend ⟨[(.dat 2 ((y1 : List GBracket).map Qad))], ⟨Qfq (v := (.acc 0 154 2 ((y1 : List GBracket).map Qad))) (rot (by kernel_rfl)) Less.acc, trivial⟩, rfl⟩ (nld Qai _)
  ·skip
   refine wx tbk [] trivial ?_
   refine Qag ?_
   refine wmr (Mor.trans (Qk2 0 154 2 3 (by kernel_rfl) (by kernel_rfl)) (mto (n := 26) (l' := [(0, (z1_0 p0)), (3, (.acc 0 154 2 ((([]) : List GBracket).map Qad))), (4, I 0)]) (own' := [.tok]) [(0, (z1_0 p0)), (3, (.acc 0 154 2 (([] : List GBracket).map Qad))), (4, I 0)] [0] [.tok] hφ0 (pc (.rn (.plain _ (nld Qai _))) (pc (.rn (Qcr rfl (Qb2 Qai _))) (pc rwl pn))) (qc .tok qn))) ?_
   refine Qca (τ := (List GBracket) × Int) (fun n t => Qcs N p0 k2 n t.1 t.2 = some r) (fun ⟨y3, y4⟩ => ⟨mk 26 [(0, (z1_0 p0)), (3, (z1_15 y3)), (4, I y4)], [.tok]⟩) (fun t h => by rw [Qcs] at h; cases h) (fun n7 ih t h => ?_) N ([], 0) h
   obtain ⟨y3, y4⟩ := t
   rw [Qcs] at h
   skip
   refine wsq ?_
   refine wx tbk [(2, rp [(.tmp 6, (z1_0 p0))] (I ((p0.length : Int))))] ⟨alm (c := Qad) (l := p0) (aln rfl Try.underlying72 rfl), trivial⟩ ?_
   rcases bft ((decide (y4 < (p0.length : Int)))) with hc8 | hc8
   ·replace h := Qaw hc8 h
    refine wft hc8 (by kernel_rfl) ?_
    refine Qak ?_
    refine thn ?_
    refine wsq ?_
    refine Qag ?_
    obtain ⟨x9, hg10, h⟩ := bno h
    obtain ⟨hi11, hj12⟩ := gsm hg10
    obtain ⟨ha13, h⟩ := cko h
    refine wy1 tbk [(3, rp [(.tmp 12, (z1_0 p0)), (.tmp 13, I y4)] (.dptr (Qad (x9)) 0)), (8, rp [(.tmp 17, (z1_0 p0)), (.tmp 18, I y4)] (.dptr (Qad (x9)) 0)), (11, rp [(.tmp 16, I x9.Upto), (.tmp 21, I x9.Price)] (z1_19 x9)), (12, rp [(.tmp 22, (z1_19 x9))] (.dat 2 (([x9] : List GBracket).map Qad))), (13, ⟨[(.tmp 11, (z1_15 y3)), (.tmp 23, (.dat 2 (([x9] : List GBracket).map Qad)))], [(0, .tok), (1, .unused)], (.acc 1 154 2 ((y3 ++ ([x9]) : List GBracket).map Qad)), [(0, .dead), (1, .tok)], false⟩)] ⟨aid rfl Try.underlying72 Qiu rfl rfl hi11 (mgt Qad hj12) rfl, aid rfl Try.underlying72 Qiu rfl rfl hi11 (mgt Qad hj12) rfl, Qhx (vs := [I x9.Upto, I x9.Price]) rfl ts154 tz154 rfl (by rfl) rfl, Qdg (vs := [(z1_19 x9)]) rfl Try.underlying77 ti154 tz154 rfl (by decide) rfl (by decide) (by rfl) (by rfl) (by rfl) rfl, Qgm rfl Try.underlying77 te154 (Base.acc _ _) rfl rfl (by rfl) (Qin Qad ha13) (Qim Qad ha13 (by decide)) (Qil Qad) rfl rfl, trivial⟩ ?_
    refine bln ?_
    refine thn ?_
    refine wx1 tbk [] trivial ?_
    refine thn ?_
    exact arm (mto (n := 26) [(0, (z1_0 p0)), (3, (.acc 1 154 2 ((y3 ++ ([x9]) : List GBracket).map Qad))), (4, (I (w64 (y4 + 1))))] [1] [.tok] hφ0 (pc (.rn (.plain _ (nld Qai _))) (pc (.rn (Qcr rfl (Qb2 Qai _))) (pc rwl pn))) (qc .tok qn)) (ih (y3 ++ ([x9]), w64 (y4 + 1)) h)
   ·replace h := Qax hc8 h
    refine wfn hc8 (by kernel_rfl) ?_
    refine Qbk ?_
    refine Qav ?_
    refine Qav ?_
    refine Qbj rfl ?_
    refine thn ?_
    exact ⟨(y3), h, (mto (n := 26) [(3, (z1_15 y3))] [0] [.tok] hφ0 (pc (.rn (Qcr rfl (Qb2 Qai _))) pn) (qc .tok qn))⟩
def Qgi (_N : Nat) (p0 : Int) (p1 : Int) (p2 : Int) : Option Bool :=
  bif (decide (p0 ≥ p1)) then
   some (decide (p0 ≤ p2))
  else
   some false
theorem Qd4 (N : Nat) (p0 : Int) (p1 : Int) (p2 : Int) (r : Bool) (h : Qgi N p0 p1 p2 = some r) : Spec Try.prog 9 [(I p0), (I p1), (I p2)] [] (B r) [] := by
  refine Qah Try.func9 rfl 0 (nle rfl) (fun X φ0 w0 hφ0 hd0 => ?_)
  unfold Qgi at h
  refine wx tbk [] trivial ?_
  rcases bft ((decide (p0 ≥ p1))) with hb1 | hb1
  ·replace h := Qaw hb1 h
   refine wx tbk [(3, rp [(.tmp 9, (B ((decide (p0 ≥ p1)))))] (B true))] ⟨asb hb1 (amv rfl), trivial⟩ ?_
   refine Qae ?_
   obtain rfl := osi h
   exact fend ⟨[(B ((decide (p0 ≤ p2))))], ⟨rot (by kernel_rfl), trivial⟩, rfl⟩ nll
  ·replace h := Qax hb1 h
   refine wx tbk [(3, rp [(.tmp 9, (B ((decide (p0 ≥ p1)))))] (B false))] ⟨asb hb1 (amv rfl), trivial⟩ ?_
   refine Qae ?_
   obtain rfl := osi h
   exact fend ⟨[B false], ⟨rot (by kernel_rfl), trivial⟩, rfl⟩ nll
def Qb7 (N : Nat) (p0 : (List GBracket)) (k1 : Unit → Option Bool) : Nat → Int → Option Bool
  | 0, _ => none
  | n5 + 1, y3 =>
    bif (decide (y3 < (p0.length : Int))) then
     (getI p0 y3).bind fun x7 =>
     (Qgi N x7.Upto 1 1000000000000).bind fun x12 =>
     bif (!x12) then
      some false
     else
      (Qgi N x7.Price 0 1000).bind fun x15 =>
      bif (!x15) then
       some false
      else
       bif (decide (y3 > 0)) then
        (getI p0 (w64 (y3 - 1))).bind fun x18 =>
        bif (decide (x7.Upto ≤ x18.Upto)) then
         some false
        else
         Qb7 N p0 k1 n5 (w64 (y3 + 1))
       else
        Qb7 N p0 k1 n5 (w64 (y3 + 1))
    else
     k1 ()
def Qet (N : Nat) (p0 : (List GBracket)) : Option Bool :=
  Qcg (fun _ =>
    bif (decide ((p0.length : Int) ≥ 1)) then
     some (decide ((p0.length : Int) ≤ 6))
    else
     some false) fun k1 : Unit → Option Bool =>
  Qb7 N p0 k1 N 0
def z2_0 (p0 : (List GBracket)) : AV := .dat 2 ((p0 : List GBracket).map Qad)
theorem Qec (N : Nat) (p0 : (List GBracket)) (r : Bool) (h : Qet N p0 = some r) : Spec Try.prog 19 [(.dat 2 (p0.map Qad))] [] (B r) [] := by
  refine Qah Try.func19 rfl 0 (nle rfl) (fun X φ0 w0 hφ0 hd0 => ?_)
  unfold Qet at h
  refine wx tbk [] trivial ?_
  obtain ⟨k1, hk_k1, h⟩ := jko h
  refine wjn (τ := Unit) (fun t => k1 t = some r) (fun _ => ⟨mk 52 [(0, (z2_0 p0))], []⟩) (fun t h => ?_) ?_
  ·subst hk_k1
   rcases bft ((decide ((p0.length : Int) ≥ 1))) with hb2 | hb2
   ·replace h := Qaw hb2 h
    refine wx tbk [(1, rp [(.tmp 44, (z2_0 p0))] (I ((p0.length : Int)))), (3, rp [(.tmp 46, (B ((decide ((p0.length : Int) ≥ 1)))))] (B true)), (5, rp [(.tmp 47, B true), (.tmp 48, (z2_0 p0))] (I ((p0.length : Int))))] ⟨alm (c := Qad) (l := p0) (aln rfl Try.underlying72 rfl), asb hb2 (amv rfl), ag_ (alm (c := Qad) (l := p0) (aln rfl Try.underlying72 rfl)), trivial⟩ ?_
    refine Qae ?_
    obtain rfl := osi h
    exact fend ⟨[(B ((decide ((p0.length : Int) ≤ 6))))], ⟨rot (by kernel_rfl), trivial⟩, rfl⟩ nll
   ·replace h := Qax hb2 h
    refine wx tbk [(1, rp [(.tmp 44, (z2_0 p0))] (I ((p0.length : Int)))), (3, rp [(.tmp 46, (B ((decide ((p0.length : Int) ≥ 1)))))] (B false))] ⟨alm (c := Qad) (l := p0) (aln rfl Try.underlying72 rfl), asb hb2 (amv rfl), trivial⟩ ?_
    refine Qae ?_
    obtain rfl := osi h
    exact fend ⟨[B false], ⟨rot (by kernel_rfl), trivial⟩, rfl⟩ nll
  ·skip
   refine wx tbk [] trivial ?_
   refine Qag ?_
   refine wmr (mto (n := 52) (l' := [(0, (z2_0 p0)), (3, I 0)]) (own' := []) [(0, (z2_0 p0)), (3, I 0)] [] [] hφ0 (pc (.rn (.plain _ (nld Qai _))) (pc rwl pn)) qn) ?_
   refine Qca (τ := Int) (fun n t => Qb7 N p0 k1 n t = some r) (fun y3 => ⟨mk 52 [(0, (z2_0 p0)), (3, I y3)], []⟩) (fun t h => by rw [Qb7] at h; cases h) (fun n5 ih y3 h => ?_) N (0) h
   rw [Qb7] at h
   skip
   refine wsq ?_
   refine wx tbk [(2, rp [(.tmp 5, (z2_0 p0))] (I ((p0.length : Int))))] ⟨alm (c := Qad) (l := p0) (aln rfl Try.underlying72 rfl), trivial⟩ ?_
   rcases bft ((decide (y3 < (p0.length : Int)))) with hc6 | hc6
   ·replace h := Qaw hc6 h
    refine wft hc6 (by kernel_rfl) ?_
    refine Qak ?_
    refine thn ?_
    refine wsq ?_
    refine Qag ?_
    obtain ⟨x7, hg8, h⟩ := bno h
    obtain ⟨hi9, hj10⟩ := gsm hg8
    obtain ⟨x12, hf11, h⟩ := bno h
    rcases bft ((!x12)) with hb13 | hb13
    ·replace h := Qaw hb13 h
     refine wxd tbk [(2, rp [(.tmp 10, (z2_0 p0)), (.tmp 11, I y3)] (.dptr (Qad (x7)) 0)), (5, rp [fu 9, (.tmp 14, I x7.Upto), ci 1, ci 1000000000000] (B x12)), (7, rp [(.tmp 16, (B ((!x12))))] (B true))] ⟨aid rfl Try.underlying72 Qiu rfl rfl hi9 (mgt Qad hj10) rfl, apc (first := []) (cap := []) (vs := [I x7.Upto, I 1, I 1000000000000]) rfl Qjj (Qd4 N x7.Upto 1 1000000000000 _ hf11) rfl rfl (nlc nll (nlc nll (nlc nll nl0))) nll rfl, asb hb13 (amv rfl), trivial⟩ ?_
     refine Qb0 (by kernel_rfl) ?_
     refine wx tbk [] trivial ?_
     refine Qae ?_
     refine Qao ?_
     refine Qaf ?_
     refine Qaf ?_
     refine Qao ?_
     refine Qaf ?_
     obtain rfl := osi h
     exact fend ⟨[B false], ⟨rot (by kernel_rfl), trivial⟩, rfl⟩ nll
    ·replace h := Qax hb13 h
     obtain ⟨x15, hf14, h⟩ := bno h
     rcases bft ((!x15)) with hb16 | hb16
     ·replace h := Qaw hb16 h
      refine wxd tbk [(2, rp [(.tmp 10, (z2_0 p0)), (.tmp 11, I y3)] (.dptr (Qad (x7)) 0)), (5, rp [fu 9, (.tmp 14, I x7.Upto), ci 1, ci 1000000000000] (B x12)), (7, rp [(.tmp 16, (B ((!x12))))] (B false)), (10, rp [(.tmp 17, B false), (.tmp 18, (z2_0 p0)), (.tmp 19, I y3)] (.dptr (Qad (x7)) 0)), (13, rp [(.tmp 17, B false), fu 9, (.tmp 22, I x7.Price), ci 0, ci 1000] (B x15)), (16, rp [(.tmp 25, (B ((!x15))))] (B true))] ⟨aid rfl Try.underlying72 Qiu rfl rfl hi9 (mgt Qad hj10) rfl, apc (first := []) (cap := []) (vs := [I x7.Upto, I 1, I 1000000000000]) rfl Qjj (Qd4 N x7.Upto 1 1000000000000 _ hf11) rfl rfl (nlc nll (nlc nll (nlc nll nl0))) nll rfl, asb hb13 (amv rfl), ag_ (aid rfl Try.underlying72 Qiu rfl rfl hi9 (mgt Qad hj10) rfl), ag_ (apc (first := []) (cap := []) (vs := [I x7.Price, I 0, I 1000]) rfl Qjj (Qd4 N x7.Price 0 1000 _ hf14) rfl rfl (nlc nll (nlc nll (nlc nll nl0))) nll rfl), asb hb16 (amv rfl), trivial⟩ ?_
      refine Qb0 (by kernel_rfl) ?_
      refine wx tbk [] trivial ?_
      refine Qae ?_
      refine Qao ?_
      refine Qaf ?_
      refine Qaf ?_
      refine Qao ?_
      refine Qaf ?_
      obtain rfl := osi h
      exact fend ⟨[B false], ⟨rot (by kernel_rfl), trivial⟩, rfl⟩ nll
     ·replace h := Qax hb16 h
      rcases bft ((decide (y3 > 0))) with hb17 | hb17
      ·replace h := Qaw hb17 h
       obtain ⟨x18, hg19, h⟩ := bno h
       obtain ⟨hi20, hj21⟩ := gsm hg19
       refine wxd tbk [(2, rp [(.tmp 10, (z2_0 p0)), (.tmp 11, I y3)] (.dptr (Qad (x7)) 0)), (5, rp [fu 9, (.tmp 14, I x7.Upto), ci 1, ci 1000000000000] (B x12)), (7, rp [(.tmp 16, (B ((!x12))))] (B false)), (10, rp [(.tmp 17, B false), (.tmp 18, (z2_0 p0)), (.tmp 19, I y3)] (.dptr (Qad (x7)) 0)), (13, rp [(.tmp 17, B false), fu 9, (.tmp 22, I x7.Price), ci 0, ci 1000] (B x15)), (16, rp [(.tmp 25, (B ((!x15))))] (B false)), (19, rp [(.tmp 26, B false), (.tmp 28, (B ((decide (y3 > 0)))))] (B true)), (22, rp [(.tmp 29, B true), (.tmp 30, (z2_0 p0)), (.tmp 31, I y3)] (.dptr (Qad (x7)) 0)), (28, rp [(.tmp 29, B true), (.tmp 35, (z2_0 p0)), (.tmp 37, (I (w64 (y3 - 1))))] (.dptr (Qad (x18)) 0))] ⟨aid rfl Try.underlying72 Qiu rfl rfl hi9 (mgt Qad hj10) rfl, apc (first := []) (cap := []) (vs := [I x7.Upto, I 1, I 1000000000000]) rfl Qjj (Qd4 N x7.Upto 1 1000000000000 _ hf11) rfl rfl (nlc nll (nlc nll (nlc nll nl0))) nll rfl, asb hb13 (amv rfl), ag_ (aid rfl Try.underlying72 Qiu rfl rfl hi9 (mgt Qad hj10) rfl), ag_ (apc (first := []) (cap := []) (vs := [I x7.Price, I 0, I 1000]) rfl Qjj (Qd4 N x7.Price 0 1000 _ hf14) rfl rfl (nlc nll (nlc nll (nlc nll nl0))) nll rfl), asb hb16 (amv rfl), asb hb17 (ag_ (amv rfl)), ag_ (aid rfl Try.underlying72 Qiu rfl rfl hi9 (mgt Qad hj10) rfl), ag_ (aid rfl Try.underlying72 Qiu rfl rfl hi20 (mgt Qad hj21) rfl), trivial⟩ ?_
       rcases bft ((decide (x7.Upto ≤ x18.Upto))) with hc22 | hc22
       ·replace h := Qaw hc22 h
        refine wft hc22 (by kernel_rfl) ?_
        refine wx tbk [] trivial ?_
        refine Qae ?_
        refine Qao ?_
        refine Qaf ?_
        refine Qaf ?_
        refine Qao ?_
        refine Qaf ?_
        obtain rfl := osi h
        exact fend ⟨[B false], ⟨rot (by kernel_rfl), trivial⟩, rfl⟩ nll
       ·replace h := Qax hc22 h
        refine wfn hc22 (by kernel_rfl) ?_
        refine Qak ?_
        refine bln ?_
        refine thn ?_
        refine wx1 tbk [] trivial ?_
        refine thn ?_
        exact arm (mto (n := 52) [(0, (z2_0 p0)), (3, (I (w64 (y3 + 1))))] [] [] hφ0 (pc (.rn (.plain _ (nld Qai _))) (pc rwl pn)) qn) (ih (w64 (y3 + 1)) h)
      ·replace h := Qax hb17 h
       refine wxd tbk [(2, rp [(.tmp 10, (z2_0 p0)), (.tmp 11, I y3)] (.dptr (Qad (x7)) 0)), (5, rp [fu 9, (.tmp 14, I x7.Upto), ci 1, ci 1000000000000] (B x12)), (7, rp [(.tmp 16, (B ((!x12))))] (B false)), (10, rp [(.tmp 17, B false), (.tmp 18, (z2_0 p0)), (.tmp 19, I y3)] (.dptr (Qad (x7)) 0)), (13, rp [(.tmp 17, B false), fu 9, (.tmp 22, I x7.Price), ci 0, ci 1000] (B x15)), (16, rp [(.tmp 25, (B ((!x15))))] (B false)), (19, rp [(.tmp 26, B false), (.tmp 28, (B ((decide (y3 > 0)))))] (B false))] ⟨aid rfl Try.underlying72 Qiu rfl rfl hi9 (mgt Qad hj10) rfl, apc (first := []) (cap := []) (vs := [I x7.Upto, I 1, I 1000000000000]) rfl Qjj (Qd4 N x7.Upto 1 1000000000000 _ hf11) rfl rfl (nlc nll (nlc nll (nlc nll nl0))) nll rfl, asb hb13 (amv rfl), ag_ (aid rfl Try.underlying72 Qiu rfl rfl hi9 (mgt Qad hj10) rfl), ag_ (apc (first := []) (cap := []) (vs := [I x7.Price, I 0, I 1000]) rfl Qjj (Qd4 N x7.Price 0 1000 _ hf14) rfl rfl (nlc nll (nlc nll (nlc nll nl0))) nll rfl), asb hb16 (amv rfl), asb hb17 (ag_ (amv rfl)), trivial⟩ ?_
       refine Qeb (by kernel_rfl) ?_
       refine Qak ?_
       refine bln ?_
       refine thn ?_
       refine wx1 tbk [] trivial ?_
       refine thn ?_
       exact arm (mto (n := 52) [(0, (z2_0 p0)), (3, (I (w64 (y3 + 1))))] [] [] hφ0 (pc (.rn (.plain _ (nld Qai _))) (pc rwl pn)) qn) (ih (w64 (y3 + 1)) h)
   ·replace h := Qax hc6 h
    refine wfn hc6 (by kernel_rfl) ?_
    refine Qbk ?_
    refine Qav ?_
    refine Qav ?_
    refine Qbj rfl ?_
    refine thn ?_
    exact ⟨(), h, (mto (n := 52) [(0, (z2_0 p0))] [] [] hφ0 (pc (.rn (.plain _ (nld Qai _))) pn) qn)⟩
def Qb5 (_N : Nat) (p0 : Int) (p1 : Int) (p2 : Int) : Option Bool :=
  bif (decide (p1 ≤ p0)) then
   some (decide (p0 ≤ p2))
  else
   some false
theorem Qar (N : Nat) (p0 : Int) (p1 : Int) (p2 : Int) (r : Bool) (h : Qb5 N p0 p1 p2 = some r) : Spec Try.prog 64 [(I p0), (I p1), (I p2)] [] (B r) [] := by
  refine Qah Try.func64 rfl 0 (nle rfl) (fun X φ0 w0 hφ0 hd0 => ?_)
  unfold Qb5 at h
  refine wx tbk [] trivial ?_
  rcases bft ((decide (p1 ≤ p0))) with hb1 | hb1
  ·replace h := Qaw hb1 h
   refine wx tbk [(3, rp [(.tmp 9, (B ((decide (p1 ≤ p0)))))] (B true))] ⟨asb hb1 (amv rfl), trivial⟩ ?_
   refine Qae ?_
   obtain rfl := osi h
   exact fend ⟨[(B ((decide (p0 ≤ p2))))], ⟨rot (by kernel_rfl), trivial⟩, rfl⟩ nll
  ·replace h := Qax hb1 h
   refine wx tbk [(3, rp [(.tmp 9, (B ((decide (p1 ≤ p0)))))] (B false))] ⟨asb hb1 (amv rfl), trivial⟩ ?_
   refine Qae ?_
   obtain rfl := osi h
   exact fend ⟨[B false], ⟨rot (by kernel_rfl), trivial⟩, rfl⟩ nll
def Qch (N : Nat) (p0 : (List GBracket)) (k1 : Unit → Option Bool) : Nat → Int → Option Bool
  | 0, _ => none
  | n6 + 1, y4 =>
    bif (decide (y4 < (p0.length : Int))) then
     (getI p0 y4).bind fun x8 =>
     (Qb5 N x8.Upto 1 1000000000000).bind fun x13 =>
     bif (!x13) then
      some false
     else
      (Qb5 N x8.Price 0 1000).bind fun x16 =>
      bif (!x16) then
       some false
      else
       bif (decide (y4 > 0)) then
        (getI p0 (w64 (y4 - 1))).bind fun x19 =>
        bif (decide (x8.Upto ≤ x19.Upto)) then
         some false
        else
         Qch N p0 k1 n6 (w64 (y4 + 1))
       else
        Qch N p0 k1 n6 (w64 (y4 + 1))
    else
     k1 ()
def Qej (N : Nat) (p0 : (List GBracket)) : Option Bool :=
  Qcg (fun _ =>
    (Qb5 N (p0.length : Int) 1 6).bind fun x3 =>
    some x3) fun k1 : Unit → Option Bool =>
  Qch N p0 k1 N 0
def z5_0 (p0 : (List GBracket)) : AV := .dat 2 ((p0 : List GBracket).map Qad)
theorem Qg4 (N : Nat) (p0 : (List GBracket)) (r : Bool) (h : Qej N p0 = some r) : Spec Try.prog 63 [(.dat 2 (p0.map Qad))] [] (B r) [] := by
  refine Qah Try.func63 rfl 0 (nle rfl) (fun X φ0 w0 hφ0 hd0 => ?_)
  unfold Qej at h
  refine wx tbk [] trivial ?_
  obtain ⟨k1, hk_k1, h⟩ := jko h
  refine wjn (τ := Unit) (fun t => k1 t = some r) (fun _ => ⟨mk 41 [(0, (z5_0 p0))], []⟩) (fun t h => ?_) ?_
  ·subst hk_k1
   obtain ⟨x3, hf2, h⟩ := bno h
   refine wx tbk [(1, rp [(.tmp 38, (z5_0 p0))] (I ((p0.length : Int)))), (2, rp [fu 64, (.tmp 39, (I ((p0.length : Int)))), ci 1, ci 6] (B x3))] ⟨alm (c := Qad) (l := p0) (aln rfl Try.underlying77 rfl), apc (first := []) (cap := []) (vs := [(I ((p0.length : Int))), I 1, I 6]) rfl Qdc (Qar N (p0.length : Int) 1 6 _ hf2) rfl rfl (nlc nll (nlc nll (nlc nll nl0))) nll rfl, trivial⟩ ?_
   refine Qae ?_
   obtain rfl := osi h
   exact fend ⟨[B x3], ⟨rot (by kernel_rfl), trivial⟩, rfl⟩ nll
  ·skip
   refine wx tbk [(1, rp [(.tmp 5, (z5_0 p0))] (I ((p0.length : Int))))] ⟨alm (c := Qad) (l := p0) (aln rfl Try.underlying77 rfl), trivial⟩ ?_
   refine Qag ?_
   refine wmr (mto (n := 41) (l' := [(0, (z5_0 p0)), (5, (z5_0 p0)), (6, (I ((p0.length : Int)))), (7, I 0)]) (own' := []) [(0, (z5_0 p0)), (5, (z5_0 p0)), (6, (I ((p0.length : Int)))), (7, I 0)] [] [] hφ0 (pc (.rn (.plain _ (nld Qai _))) (pc (.rn (.plain _ (nld Qai _))) (pc rwl (pc rwl pn)))) qn) ?_
   refine Qca (τ := Int) (fun n t => Qch N p0 k1 n t = some r) (fun y4 => ⟨mk 41 [(0, (z5_0 p0)), (5, (z5_0 p0)), (6, (I ((p0.length : Int)))), (7, I y4)], []⟩) (fun t h => by rw [Qch] at h; cases h) (fun n6 ih y4 h => ?_) N (0) h
   rw [Qch] at h
   skip
   refine wx tbk [] trivial ?_
   refine wsq ?_
   rcases bft ((decide (y4 < (p0.length : Int)))) with hc7 | hc7
   ·replace h := Qaw hc7 h
    refine wft hc7 (by kernel_rfl) ?_
    refine Qak ?_
    refine thn ?_
    refine wsq ?_
    refine Qag ?_
    obtain ⟨x8, hg9, h⟩ := bno h
    obtain ⟨hi10, hj11⟩ := gsm hg9
    refine wx tbk [(1, rp [(.tmp 5, (z5_0 p0)), (.tmp 7, I y4)] (.dptr (Qad (x8)) 0))] ⟨aid rfl Try.underlying77 ti154 rfl rfl hi10 (mgt Qad hj11) rfl, trivial⟩ ?_
    obtain ⟨x13, hf12, h⟩ := bno h
    rcases bft ((!x13)) with hb14 | hb14
    ·replace h := Qaw hb14 h
     refine wxd tbk [(2, rp [fu 64, (.tmp 13, I x8.Upto), ci 1, ci 1000000000000] (B x13)), (4, rp [(.tmp 15, (B ((!x13))))] (B true))] ⟨apc (first := []) (cap := []) (vs := [I x8.Upto, I 1, I 1000000000000]) rfl Qdc (Qar N x8.Upto 1 1000000000000 _ hf12) rfl rfl (nlc nll (nlc nll (nlc nll nl0))) nll rfl, asb hb14 (amv rfl), trivial⟩ ?_
     refine Qb0 (by kernel_rfl) ?_
     refine wx tbk [] trivial ?_
     refine Qae ?_
     refine Qao ?_
     refine Qaf ?_
     refine Qaf ?_
     refine Qao ?_
     refine Qaf ?_
     obtain rfl := osi h
     exact fend ⟨[B false], ⟨rot (by kernel_rfl), trivial⟩, rfl⟩ nll
    ·replace h := Qax hb14 h
     obtain ⟨x16, hf15, h⟩ := bno h
     rcases bft ((!x16)) with hb17 | hb17
     ·replace h := Qaw hb17 h
      refine wxd tbk [(2, rp [fu 64, (.tmp 13, I x8.Upto), ci 1, ci 1000000000000] (B x13)), (4, rp [(.tmp 15, (B ((!x13))))] (B false)), (7, rp [(.tmp 16, B false), fu 64, (.tmp 18, I x8.Price), ci 0, ci 1000] (B x16)), (10, rp [(.tmp 21, (B ((!x16))))] (B true))] ⟨apc (first := []) (cap := []) (vs := [I x8.Upto, I 1, I 1000000000000]) rfl Qdc (Qar N x8.Upto 1 1000000000000 _ hf12) rfl rfl (nlc nll (nlc nll (nlc nll nl0))) nll rfl, asb hb14 (amv rfl), ag_ (apc (first := []) (cap := []) (vs := [I x8.Price, I 0, I 1000]) rfl Qdc (Qar N x8.Price 0 1000 _ hf15) rfl rfl (nlc nll (nlc nll (nlc nll nl0))) nll rfl), asb hb17 (amv rfl), trivial⟩ ?_
      refine Qb0 (by kernel_rfl) ?_
      refine wx tbk [] trivial ?_
      refine Qae ?_
      refine Qao ?_
      refine Qaf ?_
      refine Qaf ?_
      refine Qao ?_
      refine Qaf ?_
      obtain rfl := osi h
      exact fend ⟨[B false], ⟨rot (by kernel_rfl), trivial⟩, rfl⟩ nll
     ·replace h := Qax hb17 h
      rcases bft ((decide (y4 > 0))) with hb18 | hb18
      ·replace h := Qaw hb18 h
       obtain ⟨x19, hg20, h⟩ := bno h
       obtain ⟨hi21, hj22⟩ := gsm hg20
       refine wxd tbk [(2, rp [fu 64, (.tmp 13, I x8.Upto), ci 1, ci 1000000000000] (B x13)), (4, rp [(.tmp 15, (B ((!x13))))] (B false)), (7, rp [(.tmp 16, B false), fu 64, (.tmp 18, I x8.Price), ci 0, ci 1000] (B x16)), (10, rp [(.tmp 21, (B ((!x16))))] (B false)), (13, rp [(.tmp 22, B false), (.tmp 24, (B ((decide (y4 > 0)))))] (B true)), (19, rp [(.tmp 25, B true), (.tmp 28, (z5_0 p0)), (.tmp 30, (I (w64 (y4 - 1))))] (.dptr (Qad (x19)) 0))] ⟨apc (first := []) (cap := []) (vs := [I x8.Upto, I 1, I 1000000000000]) rfl Qdc (Qar N x8.Upto 1 1000000000000 _ hf12) rfl rfl (nlc nll (nlc nll (nlc nll nl0))) nll rfl, asb hb14 (amv rfl), ag_ (apc (first := []) (cap := []) (vs := [I x8.Price, I 0, I 1000]) rfl Qdc (Qar N x8.Price 0 1000 _ hf15) rfl rfl (nlc nll (nlc nll (nlc nll nl0))) nll rfl), asb hb17 (amv rfl), asb hb18 (ag_ (amv rfl)), ag_ (aid rfl Try.underlying77 ti154 rfl rfl hi21 (mgt Qad hj22) rfl), trivial⟩ ?_
       rcases bft ((decide (x8.Upto ≤ x19.Upto))) with hc23 | hc23
       ·replace h := Qaw hc23 h
        refine wft hc23 (by kernel_rfl) ?_
        refine wx tbk [] trivial ?_
        refine Qae ?_
        refine Qao ?_
        refine Qaf ?_
        refine Qaf ?_
        refine Qao ?_
        refine Qaf ?_
        obtain rfl := osi h
        exact fend ⟨[B false], ⟨rot (by kernel_rfl), trivial⟩, rfl⟩ nll
       ·replace h := Qax hc23 h
        refine wfn hc23 (by kernel_rfl) ?_
        refine Qak ?_
        refine bln ?_
        refine thn ?_
        refine wx1 tbk [] trivial ?_
        refine thn ?_
        exact arm (mto (n := 41) [(0, (z5_0 p0)), (5, (z5_0 p0)), (6, (I ((p0.length : Int)))), (7, (I (w64 (y4 + 1))))] [] [] hφ0 (pc (.rn (.plain _ (nld Qai _))) (pc (.rn (.plain _ (nld Qai _))) (pc rwl (pc rwl pn)))) qn) (ih (w64 (y4 + 1)) h)
      ·replace h := Qax hb18 h
       refine wxd tbk [(2, rp [fu 64, (.tmp 13, I x8.Upto), ci 1, ci 1000000000000] (B x13)), (4, rp [(.tmp 15, (B ((!x13))))] (B false)), (7, rp [(.tmp 16, B false), fu 64, (.tmp 18, I x8.Price), ci 0, ci 1000] (B x16)), (10, rp [(.tmp 21, (B ((!x16))))] (B false)), (13, rp [(.tmp 22, B false), (.tmp 24, (B ((decide (y4 > 0)))))] (B false))] ⟨apc (first := []) (cap := []) (vs := [I x8.Upto, I 1, I 1000000000000]) rfl Qdc (Qar N x8.Upto 1 1000000000000 _ hf12) rfl rfl (nlc nll (nlc nll (nlc nll nl0))) nll rfl, asb hb14 (amv rfl), ag_ (apc (first := []) (cap := []) (vs := [I x8.Price, I 0, I 1000]) rfl Qdc (Qar N x8.Price 0 1000 _ hf15) rfl rfl (nlc nll (nlc nll (nlc nll nl0))) nll rfl), asb hb17 (amv rfl), asb hb18 (ag_ (amv rfl)), trivial⟩ ?_
       refine Qeb (by kernel_rfl) ?_
       refine Qak ?_
       refine bln ?_
       refine thn ?_
       refine wx1 tbk [] trivial ?_
       refine thn ?_
       exact arm (mto (n := 41) [(0, (z5_0 p0)), (5, (z5_0 p0)), (6, (I ((p0.length : Int)))), (7, (I (w64 (y4 + 1))))] [] [] hφ0 (pc (.rn (.plain _ (nld Qai _))) (pc (.rn (.plain _ (nld Qai _))) (pc rwl (pc rwl pn)))) qn) (ih (w64 (y4 + 1)) h)
   ·replace h := Qax hc7 h
    refine wfn hc7 (by kernel_rfl) ?_
    refine Qbk ?_
    refine Qav ?_
    refine Qav ?_
    refine Qbj rfl ?_
    refine thn ?_
    exact ⟨(), h, (mto (n := 41) [(0, (z5_0 p0))] [] [] hφ0 (pc (.rn (.plain _ (nld Qai _))) pn) qn)⟩
def Qci (N : Nat) (p0 : (List GBracket)) (p1 : Int) (k2 : Int → Option Int) : Nat → Int → Int → Int → Option Int
  | 0, _, _, _ => none
  | n9 + 1, y3, y4, y5 =>
    bif (decide (y5 < (p0.length : Int))) then
     (getI p0 y5).bind fun x11 =>
     Qcg (fun y15 =>
       (some (w64 ((if (w64 (y15 - y4)) > 0 then w64 (y15 - y4) else 0) * x11.Price))).bind fun x17 =>
       (some (if y15 > y4 then y15 else y4)).bind fun x19 =>
       Qci N p0 p1 k2 n9 (w64 (y3 + x17)) x19 (w64 (y5 + 1))) fun k16 : Int → Option Int =>
     bif (y5 == (w64 ((p0.length : Int) - 1))) then
      k16 (p1)
     else
      bif (decide (x11.Upto > p1)) then
       k16 (p1)
      else
       k16 (x11.Upto)
    else
     k2 (y3)
def Qd2 (N : Nat) (p0 : (List GBracket)) (p1 : Int) : Option Int :=
  Qcg (fun y1 =>
    some (w64 (y1.tdiv 1000))) fun k2 : Int → Option Int =>
  Qci N p0 p1 k2 N 0 0 0
def z7_0 (p0 : (List GBracket)) : AV := .dat 2 ((p0 : List GBracket).map Qad)
def z7_13 (x11 : GBracket) : Slot := .own 2 [[(I (x11.Upto)), (I (x11.Price))]]
theorem Qfx (N : Nat) (p0 : (List GBracket)) (p1 : Int) (r : Int) (h : Qd2 N p0 p1 = some r) : Spec Try.prog 65 [(.dat 2 (p0.map Qad)), (I p1)] [] (I r) [] := by
  refine Qah Try.func65 rfl 0 (nle rfl) (fun X φ0 w0 hφ0 hd0 => ?_)
  unfold Qd2 at h
  refine wx tbk [] trivial ?_
  refine wx tbk [] trivial ?_
  obtain ⟨k2, hk_k2, h⟩ := jko h
  refine wjn (τ := Int) (fun t => k2 t = some r) (fun y1 => ⟨mk 45 [(5, I y1)], []⟩) (fun y1 h => ?_) ?_
  ·subst hk_k2
   refine wx tbk [(1, rp [(.tmp 43, I y1), ci 1000] (I (w64 (y1.tdiv 1000))))] ⟨Qib rfl (by decide), trivial⟩ ?_
   refine Qae ?_
   obtain rfl := osi h
   exact fend ⟨[(I (w64 (y1.tdiv 1000)))], ⟨rot (by kernel_rfl), trivial⟩, rfl⟩ nll
  ·skip
   refine wx tbk [(1, rp [(.tmp 10, (z7_0 p0))] (I ((p0.length : Int))))] ⟨alm (c := Qad) (l := p0) (aln rfl Try.underlying77 rfl), trivial⟩ ?_
   refine Qag ?_
   refine wmr (mto (n := 45) (l' := [(0, (z7_0 p0)), (1, I p1), (5, I 0), (6, I 0), (10, (z7_0 p0)), (11, (I ((p0.length : Int)))), (12, I 0)]) (own' := []) [(0, (z7_0 p0)), (1, I p1), (5, I 0), (6, I 0), (10, (z7_0 p0)), (11, (I ((p0.length : Int)))), (12, I 0)] [] [] hφ0 (pc (.rn (.plain _ (nld Qai _))) (pc rwl (pc rwl (pc rwl (pc (.rn (.plain _ (nld Qai _))) (pc rwl (pc rwl pn))))))) qn) ?_
   refine Qca (τ := Int × Int × Int) (fun n t => Qci N p0 p1 k2 n t.1 t.2.1 t.2.2 = some r) (fun ⟨y3, y4, y5⟩ => ⟨mk 45 [(0, (z7_0 p0)), (1, I p1), (5, I y3), (6, I y4), (10, (z7_0 p0)), (11, (I ((p0.length : Int)))), (12, I y5)], []⟩) (fun t h => by rw [Qci] at h; cases h) (fun n9 ih t h => ?_) N (0, 0, 0) h
   obtain ⟨y3, y4, y5⟩ := t
   rw [Qci] at h
   skip
   refine wx tbk [] trivial ?_
   refine wsq ?_
   rcases bft ((decide (y5 < (p0.length : Int)))) with hc10 | hc10
   ·replace h := Qaw hc10 h
    refine wft hc10 (by kernel_rfl) ?_
    refine Qak ?_
    refine thn ?_
    refine wsq ?_
    refine Qag ?_
    obtain ⟨x11, hg12, h⟩ := bno h
    obtain ⟨hi13, hj14⟩ := gsm hg12
    refine wx tbk [(1, rp [(.tmp 10, (z7_0 p0)), (.tmp 12, I y5)] (.dptr (Qad (x11)) 0))] ⟨aid rfl Try.underlying77 ti154 rfl rfl hi13 (mgt Qad hj14) rfl, trivial⟩ ?_
    refine wx tbk [] trivial ?_
    obtain ⟨k16, hk_k16, h⟩ := jko h
    refine wjn (τ := Int) (fun t => k16 t = some r) (fun y15 => ⟨mk 45 [(0, (z7_0 p0)), (1, I p1), (5, I y3), (6, I y4), (8, .ref 0 2 0 0), (9, I y15), (10, (z7_0 p0)), (11, (I ((p0.length : Int)))), (12, I y5)], [(z7_13 x11)]⟩) (fun y15 h => ?_) ?_
    ·subst hk_k16
     obtain ⟨x17, hl18, h⟩ := bno h
     refine wx tbk [(4, rp [ci 0, (.tmp 33, (I (w64 (y15 - y4))))] (I ((if (w64 (y15 - y4)) > 0 then w64 (y15 - y4) else 0)))), (7, rp [(.tmp 34, (I ((if (w64 (y15 - y4)) > 0 then w64 (y15 - y4) else 0)))), (.tmp 36, I x11.Price)] (I x17))] ⟨astep_max rfl, Qez hl18 (abn rfl rfl), trivial⟩ ?_
     obtain ⟨x19, hl20, h⟩ := bno h
     refine wx1 tbk [(2, rp [(.tmp 39, I y4), (.tmp 40, I y15)] (I ((if y15 > y4 then y15 else y4)))), (3, rp [(.tmp 41, (I ((if y15 > y4 then y15 else y4))))] (I x19))] ⟨astep_max rfl, Qez hl20 (aas rfl), trivial⟩ ?_
     refine bln ?_
     refine thn ?_
     refine wx1 tbk [] trivial ?_
     refine thn ?_
     exact arm (mto (n := 45) [(0, (z7_0 p0)), (1, I p1), (5, (I (w64 (y3 + x17)))), (6, I x19), (10, (z7_0 p0)), (11, (I ((p0.length : Int)))), (12, (I (w64 (y5 + 1))))] [] [] hφ0 (pc (.rn (.plain _ (nld Qai _))) (pc rwl (pc rwl (pc rwl (pc (.rn (.plain _ (nld Qai _))) (pc rwl (pc rwl pn))))))) qn) (ih (w64 (y3 + x17), x19, w64 (y5 + 1)) h)
    ·skip
     rcases bft ((y5 == (w64 ((p0.length : Int) - 1)))) with hb21 | hb21
     ·replace h := Qaw hb21 h
      refine wx tbk [(2, rp [(.tmp 20, (z7_0 p0))] (I ((p0.length : Int)))), (5, rp [(.tmp 23, (B ((y5 == (w64 ((p0.length : Int) - 1))))))] (B true))] ⟨alm (c := Qad) (l := p0) (aln rfl Try.underlying77 rfl), asb hb21 (amv rfl), trivial⟩ ?_
      refine Qb0 (by kernel_rfl) ?_
      refine wx1 tbk [] trivial ?_
      refine thn ?_
      exact ⟨(p1), h, (mto (n := 45) [(0, (z7_0 p0)), (1, I p1), (5, I y3), (6, I y4), (8, .ref 0 2 0 0), (9, I p1), (10, (z7_0 p0)), (11, (I ((p0.length : Int)))), (12, I y5)] [0] [(z7_13 x11)] hφ0 (pc (.rn (.plain _ (nld Qai _))) (pc rwl (pc rwl (pc rwl (pc (.rn (rqr rfl)) (pc rwl (pc (.rn (.plain _ (nld Qai _))) (pc rwl (pc rwl pn))))))))) (qc (spb (lc rwl (lc rwl ln))) qn))⟩
     ·replace h := Qax hb21 h
      refine wx tbk [(2, rp [(.tmp 20, (z7_0 p0))] (I ((p0.length : Int)))), (5, rp [(.tmp 23, (B ((y5 == (w64 ((p0.length : Int) - 1))))))] (B false))] ⟨alm (c := Qad) (l := p0) (aln rfl Try.underlying77 rfl), asb hb21 (amv rfl), trivial⟩ ?_
      rcases bft ((decide (x11.Upto > p1))) with hc22 | hc22
      ·replace h := Qaw hc22 h
       refine wft hc22 (by kernel_rfl) ?_
       refine wx1 tbk [] trivial ?_
       refine thn ?_
       exact ⟨(p1), h, (mto (n := 45) [(0, (z7_0 p0)), (1, I p1), (5, I y3), (6, I y4), (8, .ref 0 2 0 0), (9, I p1), (10, (z7_0 p0)), (11, (I ((p0.length : Int)))), (12, I y5)] [0] [(z7_13 x11)] hφ0 (pc (.rn (.plain _ (nld Qai _))) (pc rwl (pc rwl (pc rwl (pc (.rn (rqr rfl)) (pc rwl (pc (.rn (.plain _ (nld Qai _))) (pc rwl (pc rwl pn))))))))) (qc (spb (lc rwl (lc rwl ln))) qn))⟩
      ·replace h := Qax hc22 h
       refine wfn hc22 (by kernel_rfl) ?_
       refine Qak ?_
       refine thn ?_
       exact ⟨(x11.Upto), h, (mto (n := 45) [(0, (z7_0 p0)), (1, I p1), (5, I y3), (6, I y4), (8, .ref 0 2 0 0), (9, I x11.Upto), (10, (z7_0 p0)), (11, (I ((p0.length : Int)))), (12, I y5)] [0] [(z7_13 x11)] hφ0 (pc (.rn (.plain _ (nld Qai _))) (pc rwl (pc rwl (pc rwl (pc (.rn (rqr rfl)) (pc rwl (pc (.rn (.plain _ (nld Qai _))) (pc rwl (pc rwl pn))))))))) (qc (spb (lc rwl (lc rwl ln))) qn))⟩
   ·replace h := Qax hc10 h
    refine wfn hc10 (by kernel_rfl) ?_
    refine Qbk ?_
    refine Qav ?_
    refine Qav ?_
    refine Qbj rfl ?_
    refine thn ?_
    exact ⟨(y3), h, (mto (n := 45) [(5, I y3)] [] [] hφ0 (pc rwl pn) qn)⟩
def Qe9 (N : Nat) (p0 : (List GBracket)) (p1 : Int) : Option (Int × Int) :=
  (Qej N p0).bind fun x2 =>
  bif (!x2) then
   some (0, 1)
  else
   (Qb5 N p1 0 1000000000000).bind fun x5 =>
   bif (!x5) then
    some (0, 2)
   else
    (Qd2 N p0 p1).bind fun x8 =>
    some (x8, 0)
def z4_0 (p0 : (List GBracket)) : AV := .dat 2 ((p0 : List GBracket).map Qad)
theorem Qi5 (N : Nat) (p0 : (List GBracket)) (p1 : Int) (r : (Int × Int)) (h : Qe9 N p0 p1 = some r) : Spec Try.prog 24 [(.dat 2 (p0.map Qad)), (I p1)] [] (.tup [(I r.1), (I r.2)]) [] := by
  refine Qah Try.func24 rfl 0 (nle rfl) (fun X φ0 w0 hφ0 hd0 => ?_)
  unfold Qe9 at h
  refine wx tbk [] trivial ?_
  refine wsq ?_
  refine Qag ?_
  obtain ⟨x2, hf1, h⟩ := bno h
  refine wx tbk [(1, rp [fu 63, (.tmp 7, (z4_0 p0))] (B x2))] ⟨apc (first := []) (cap := []) (vs := [(z4_0 p0)]) rfl enter63 (Qg4 N p0 _ hf1) rfl rfl (nlc (nld Qai _) nl0) nll rfl, trivial⟩ ?_
  rcases bft ((!x2)) with hc3 | hc3
  ·replace h := Qaw hc3 h
   refine wft hc3 (by kernel_rfl) ?_
   refine wx tbk [] trivial ?_
   refine Qae ?_
   refine Qao ?_
   refine Qaf ?_
   obtain rfl := osi h
   exact fend ⟨[I 0, I 1], ⟨rot (by kernel_rfl), rot (by kernel_rfl), trivial⟩, rfl⟩ (NLt.tup _ (nlc nll (nlc nll nl0)))
  ·replace h := Qax hc3 h
   refine wfn hc3 (by kernel_rfl) ?_
   obtain ⟨x5, hf4, h⟩ := bno h
   refine wx tbk [(1, rp [fu 64, (.tmp 11, I p1), ci 0, ci 1000000000000] (B x5))] ⟨apc (first := []) (cap := []) (vs := [I p1, I 0, I 1000000000000]) rfl Qdc (Qar N p1 0 1000000000000 _ hf4) rfl rfl (nlc nll (nlc nll (nlc nll nl0))) nll rfl, trivial⟩ ?_
   rcases bft ((!x5)) with hc6 | hc6
   ·replace h := Qaw hc6 h
    refine wft hc6 (by kernel_rfl) ?_
    refine wx tbk [] trivial ?_
    refine Qae ?_
    refine Qao ?_
    refine Qaf ?_
    obtain rfl := osi h
    exact fend ⟨[I 0, I 2], ⟨rot (by kernel_rfl), rot (by kernel_rfl), trivial⟩, rfl⟩ (NLt.tup _ (nlc nll (nlc nll nl0)))
   ·replace h := Qax hc6 h
    refine wfn hc6 (by kernel_rfl) ?_
    refine Qak ?_
    refine bln ?_
    refine thn ?_
    obtain ⟨x8, hf7, h⟩ := bno h
    refine wx tbk [(2, rp [fu 65, (.tmp 14, (z4_0 p0)), (.tmp 15, I p1)] (I x8))] ⟨apc (first := []) (cap := []) (vs := [(z4_0 p0), I p1]) rfl enter65 (Qfx N p0 p1 _ hf7) rfl rfl (nlc (nld Qai _) (nlc nll nl0)) nll rfl, trivial⟩ ?_
    refine Qae ?_
    obtain rfl := osi h
    exact fend ⟨[I x8, I 0], ⟨rot (by kernel_rfl), rot (by kernel_rfl), trivial⟩, rfl⟩ (NLt.tup _ (nlc nll (nlc nll nl0)))
def Qgh (N : Nat) (p0 : (List GBracket)) (p1 : Int) (p2 : Int) : Option (Int × Int) :=
  Qcg (fun _ =>
    (Qd2 N p0 (w64 (p1 + p2))).bind fun x3 =>
    (Qd2 N p0 p1).bind fun x5 =>
    some (w64 (x3 - x5), 0)) fun k1 : Unit → Option (Int × Int) =>
  (Qej N p0).bind fun x7 =>
  bif (!x7) then
   some (0, 1)
  else
   (Qb5 N p1 0 1000000000000).bind fun x10 =>
   bif (!x10) then
    some (0, 2)
   else
    (Qb5 N p2 0 1000000000000).bind fun x13 =>
    bif (!x13) then
     some (0, 2)
    else
     bif (decide ((w64 (p1 + p2)) > 1000000000000)) then
      some (0, 2)
     else
      k1 ()
def z8_0 (p0 : (List GBracket)) : AV := .dat 2 ((p0 : List GBracket).map Qad)
theorem Qku (N : Nat) (p0 : (List GBracket)) (p1 : Int) (p2 : Int) (r : (Int × Int)) (h : Qgh N p0 p1 p2 = some r) : Spec Try.prog 22 [(.dat 2 (p0.map Qad)), (I p1), (I p2)] [] (.tup [(I r.1), (I r.2)]) [] := by
  refine Qah Try.func22 rfl 0 (nle rfl) (fun X φ0 w0 hφ0 hd0 => ?_)
  unfold Qgh at h
  refine wx tbk [] trivial ?_
  obtain ⟨k1, hk_k1, h⟩ := jko h
  refine wjn (τ := Unit) (fun t => k1 t = some r) (fun _ => ⟨mk 36 [(0, (z8_0 p0)), (1, I p1), (2, I p2)], []⟩) (fun t h => ?_) ?_
  ·subst hk_k1
   obtain ⟨x3, hf2, h⟩ := bno h
   obtain ⟨x5, hf4, h⟩ := bno h
   refine wx tbk [(4, rp [fu 65, (.tmp 27, (z8_0 p0)), (.tmp 30, (I (w64 (p1 + p2))))] (I x3)), (7, rp [fu 65, (.tmp 32, (z8_0 p0)), (.tmp 33, I p1)] (I x5))] ⟨apc (first := []) (cap := []) (vs := [(z8_0 p0), (I (w64 (p1 + p2)))]) rfl enter65 (Qfx N p0 (w64 (p1 + p2)) _ hf2) rfl rfl (nlc (nld Qai _) (nlc nll nl0)) nll rfl, apc (first := []) (cap := []) (vs := [(z8_0 p0), I p1]) rfl enter65 (Qfx N p0 p1 _ hf4) rfl rfl (nlc (nld Qai _) (nlc nll nl0)) nll rfl, trivial⟩ ?_
   refine Qae ?_
   obtain rfl := osi h
   exact fend ⟨[(I (w64 (x3 - x5))), I 0], ⟨rot (by kernel_rfl), rot (by kernel_rfl), trivial⟩, rfl⟩ (NLt.tup _ (nlc nll (nlc nll nl0)))
  ·skip
   refine Qag ?_
   obtain ⟨x7, hf6, h⟩ := bno h
   refine wx tbk [(1, rp [fu 63, (.tmp 9, (z8_0 p0))] (B x7))] ⟨apc (first := []) (cap := []) (vs := [(z8_0 p0)]) rfl enter63 (Qg4 N p0 _ hf6) rfl rfl (nlc (nld Qai _) nl0) nll rfl, trivial⟩ ?_
   rcases bft ((!x7)) with hc8 | hc8
   ·replace h := Qaw hc8 h
    refine wft hc8 (by kernel_rfl) ?_
    refine wx tbk [] trivial ?_
    refine Qae ?_
    refine Qao ?_
    refine Qaf ?_
    obtain rfl := osi h
    exact fend ⟨[I 0, I 1], ⟨rot (by kernel_rfl), rot (by kernel_rfl), trivial⟩, rfl⟩ (NLt.tup _ (nlc nll (nlc nll nl0)))
   ·replace h := Qax hc8 h
    refine wfn hc8 (by kernel_rfl) ?_
    obtain ⟨x10, hf9, h⟩ := bno h
    rcases bft ((!x10)) with hb11 | hb11
    ·replace h := Qaw hb11 h
     refine wx tbk [(1, rp [fu 64, (.tmp 13, I p1), ci 0, ci 1000000000000] (B x10)), (3, rp [(.tmp 15, (B ((!x10))))] (B true))] ⟨apc (first := []) (cap := []) (vs := [I p1, I 0, I 1000000000000]) rfl Qdc (Qar N p1 0 1000000000000 _ hf9) rfl rfl (nlc nll (nlc nll (nlc nll nl0))) nll rfl, asb hb11 (amv rfl), trivial⟩ ?_
     refine Qb0 (by kernel_rfl) ?_
     refine wx tbk [] trivial ?_
     refine Qae ?_
     refine Qao ?_
     refine Qaf ?_
     obtain rfl := osi h
     exact fend ⟨[I 0, I 2], ⟨rot (by kernel_rfl), rot (by kernel_rfl), trivial⟩, rfl⟩ (NLt.tup _ (nlc nll (nlc nll nl0)))
    ·replace h := Qax hb11 h
     obtain ⟨x13, hf12, h⟩ := bno h
     rcases bft ((!x13)) with hb14 | hb14
     ·replace h := Qaw hb14 h
      refine wx tbk [(1, rp [fu 64, (.tmp 13, I p1), ci 0, ci 1000000000000] (B x10)), (3, rp [(.tmp 15, (B ((!x10))))] (B false)), (5, rp [(.tmp 16, B false), fu 64, (.tmp 17, I p2), ci 0, ci 1000000000000] (B x13)), (8, rp [(.tmp 20, (B ((!x13))))] (B true))] ⟨apc (first := []) (cap := []) (vs := [I p1, I 0, I 1000000000000]) rfl Qdc (Qar N p1 0 1000000000000 _ hf9) rfl rfl (nlc nll (nlc nll (nlc nll nl0))) nll rfl, asb hb11 (amv rfl), ag_ (apc (first := []) (cap := []) (vs := [I p2, I 0, I 1000000000000]) rfl Qdc (Qar N p2 0 1000000000000 _ hf12) rfl rfl (nlc nll (nlc nll (nlc nll nl0))) nll rfl), asb hb14 (amv rfl), trivial⟩ ?_
      refine Qb0 (by kernel_rfl) ?_
      refine wx tbk [] trivial ?_
      refine Qae ?_
      refine Qao ?_
      refine Qaf ?_
      obtain rfl := osi h
      exact fend ⟨[I 0, I 2], ⟨rot (by kernel_rfl), rot (by kernel_rfl), trivial⟩, rfl⟩ (NLt.tup _ (nlc nll (nlc nll nl0)))
     ·replace h := Qax hb14 h
      refine wx tbk [(1, rp [fu 64, (.tmp 13, I p1), ci 0, ci 1000000000000] (B x10)), (3, rp [(.tmp 15, (B ((!x10))))] (B false)), (5, rp [(.tmp 16, B false), fu 64, (.tmp 17, I p2), ci 0, ci 1000000000000] (B x13)), (8, rp [(.tmp 20, (B ((!x13))))] (B false))] ⟨apc (first := []) (cap := []) (vs := [I p1, I 0, I 1000000000000]) rfl Qdc (Qar N p1 0 1000000000000 _ hf9) rfl rfl (nlc nll (nlc nll (nlc nll nl0))) nll rfl, asb hb11 (amv rfl), ag_ (apc (first := []) (cap := []) (vs := [I p2, I 0, I 1000000000000]) rfl Qdc (Qar N p2 0 1000000000000 _ hf12) rfl rfl (nlc nll (nlc nll (nlc nll nl0))) nll rfl), asb hb14 (amv rfl), trivial⟩ ?_
      rcases bft ((decide ((w64 (p1 + p2)) > 1000000000000))) with hc15 | hc15
      ·replace h := Qaw hc15 h
       refine wft hc15 (by kernel_rfl) ?_
       refine wx tbk [] trivial ?_
       refine Qae ?_
       refine Qao ?_
       refine Qaf ?_
       obtain rfl := osi h
       exact fend ⟨[I 0, I 2], ⟨rot (by kernel_rfl), rot (by kernel_rfl), trivial⟩, rfl⟩ (NLt.tup _ (nlc nll (nlc nll nl0)))
      ·replace h := Qax hc15 h
       refine wfn hc15 (by kernel_rfl) ?_
       refine Qak ?_
       refine bln ?_
       refine thn ?_
       exact ⟨(), h, (mto (n := 36) [(0, (z8_0 p0)), (1, I p1), (2, I p2)] [] [] hφ0 (pc (.rn (.plain _ (nld Qai _))) (pc rwl (pc rwl pn))) qn)⟩
end Go.Proofs.Ytflmombnmnblnaa
