/-
  Functions of the program: what they compute, as plain functions, and that they do. No conditions.
-/
import Derived.Test.YtgdepcgbjjgnfaaX12
namespace Go.Proofs.Ytgdepcgbjjgnfaa
open Go.RowKit
def Qcu (N : Nat) (p0 : (List GNode)) (y4 : Int) (k10 : (List Int) → Option (List Int)) : Nat → (List Int) → Int → Option (List Int)
  | 0, _, _ => none
  | n15 + 1, y11, y12 =>
    bif (decide (y12 < (p0.length : Int))) then
     (getI p0 y12).bind fun x17 =>
     bif (x17.Rank == y4) then
      chk (decide ((y11.length + ([y12]).length) * 8 ≤ 140737488355328)) <|
      Qcu N p0 y4 k10 n15 (y11 ++ ([y12])) (w64 (y12 + 1))
     else
      Qcu N p0 y4 k10 n15 y11 (w64 (y12 + 1))
    else
     k10 (y11)
def Qcv (N : Nat) (p0 : (List GNode)) (k2 : (List Int) → Option (List Int)) : Nat → (List Int) → Int → Option (List Int)
  | 0, _, _ => none
  | n7 + 1, y3, y4 =>
    bif (decide (y4 ≤ 100)) then
     Qcd (fun y9 =>
       Qcv N p0 k2 n7 y9 (w64 (y4 + 1))) fun k10 : (List Int) → Option (List Int) =>
     Qcu N p0 y4 k10 N y3 0
    else
     k2 (y3)
def Qgf (N : Nat) (p0 : (List GNode)) : Option (List Int) :=
  Qcd (fun y1 =>
    some y1) fun k2 : (List Int) → Option (List Int) =>
  Qcv N p0 k2 N ([]) 0
def Qkn (p0 : (List GNode)) : AV := .dat 4 ((p0 : List GNode).map Qad)
def Qwz (y3 : (List Int)) : AV := .acc 0 3 1 ((y3 : List Int).map Qac)
def Qrg (y11 : (List Int)) : AV := .acc 0 3 1 ((y11 : List Int).map Qac)
set_option maxRecDepth 100000 in
set_option maxHeartbeats 4000000 in
theorem Qlx (N : Nat) (p0 : (List GNode)) (r : (List Int)) (h : Qgf N p0 = some r) : Spec Try.prog 73 [(.dat 4 (p0.map Qad))] [] (.dat 1 (r.map Qac)) [] := by
  refine Qai Try.func73 rfl 0 (nle rfl) (fun X φ0 w0 hφ0 => ?_)
  unfold Qgf at h
  refine wx tbk [] trivial ?_
  refine wx tbk [] trivial ?_
  obtain ⟨k2, hk_k2, h⟩ := jko h
  refine wjn (τ := (List Int)) (fun t => k2 t = some r) (fun y1 => ⟨mk 28 [(3, (.acc 0 3 1 ((y1 : List Int).map Qac)))], [.tok]⟩) (fun y1 h => ?_) ?_
  ·subst hk_k2
   refine wx tbk [] trivial ?_
   refine Qah ?_
   obtain rfl := osi h
   exact fend ⟨[(.dat 1 ((y1 : List Int).map Qac))], ⟨Qhl (v := (.acc 0 3 1 ((y1 : List Int).map Qac))) (rot (by kernel_rfl)) Less.acc, trivial⟩, rfl⟩ (nld Qaa _)
  ·skip
   refine wx tbk [] trivial ?_
   refine Qaf ?_
   refine wmr (Mor.trans (Qvi 0 3 1 3 (by kernel_rfl) (by kernel_rfl)) (mto (n := 28) (l' := [(0, (Qkn p0)), (3, (.acc 0 3 1 ((([]) : List Int).map Qac))), (4, I 0)]) (own' := [.tok]) [(0, (Qkn p0)), (3, (.acc 0 3 1 (([] : List Int).map Qac))), (4, I 0)] [0] [.tok] hφ0 (pc (.rn (.plain _ (nld Qab _))) (pc (.rn (Qhf rfl (Qfd Qaa _))) (pc rwl pn))) (qc .tok qn))) ?_
   refine Qb0 (τ := (List Int) × Int) (fun n t => Qcv N p0 k2 n t.1 t.2 = some r) (fun ⟨y3, y4⟩ => ⟨mk 28 [(0, (Qkn p0)), (3, (Qwz y3)), (4, I y4)], [.tok]⟩) (fun t h => by rw [Qcv] at h; cases h) (fun n7 ih t h => ?_) N ([], 0) h
   obtain ⟨y3, y4⟩ := t
   rw [Qcv] at h
   skip
   refine wsq ?_
   refine wx tbk [] trivial ?_
   rcases bft ((decide (y4 ≤ 100))) with hc8 | hc8
   ·replace h := Qau hc8 h
    refine wft hc8 (by kernel_rfl) ?_
    refine Qag ?_
    refine thn ?_
    obtain ⟨k10, hk_k10, h⟩ := jko h
    refine wjn (τ := (List Int)) (fun t => k10 t = some r) (fun y9 => ⟨mk 28 [(0, (Qkn p0)), (3, (.acc 0 3 1 ((y9 : List Int).map Qac))), (4, I y4)], [.tok]⟩) (fun y9 h => ?_) ?_
    ·subst hk_k10
     refine wx1 tbk [] trivial ?_
     refine thn ?_
     exact arm (mto (n := 28) [(0, (Qkn p0)), (3, (.acc 0 3 1 ((y9 : List Int).map Qac))), (4, (I (w64 (y4 + 1))))] [0] [.tok] hφ0 (pc (.rn (.plain _ (nld Qab _))) (pc (.rn (Qhf rfl (Qfd Qaa _))) (pc rwl pn))) (qc .tok qn)) (ih (y9, w64 (y4 + 1)) h)
    ·skip
     refine Qaf ?_
     refine wx tbk [] trivial ?_
     refine Qaf ?_
     refine wmr (mto (n := 28) (l' := [(0, (Qkn p0)), (3, (Qwz y3)), (4, I y4), (5, I 0)]) (own' := [.tok]) [(0, (Qkn p0)), (3, (Qwz y3)), (4, I y4), (5, I 0)] [0] [.tok] hφ0 (pc (.rn (.plain _ (nld Qab _))) (pc (.rn (Qhf rfl (Qfd Qaa _))) (pc rwl (pc rwl pn)))) (qc .tok qn)) ?_
     refine Qb0 (τ := (List Int) × Int) (fun n t => Qcu N p0 y4 k10 n t.1 t.2 = some r) (fun ⟨y11, y12⟩ => ⟨mk 28 [(0, (Qkn p0)), (3, (Qrg y11)), (4, I y4), (5, I y12)], [.tok]⟩) (fun t h => by rw [Qcu] at h; cases h) (fun n15 ih t h => ?_) N (y3, 0) h
     obtain ⟨y11, y12⟩ := t
     rw [Qcu] at h
     skip
     refine wsq ?_
     refine wx tbk [(2, rp [(.tmp 11, (Qkn p0))] (I ((p0.length : Int))))] ⟨alm (c := Qad) (l := p0) (aln rfl Try.underlying22 rfl), trivial⟩ ?_
     rcases bft ((decide (y12 < (p0.length : Int)))) with hc16 | hc16
     ·replace h := Qau hc16 h
      refine wft hc16 (by kernel_rfl) ?_
      refine Qag ?_
      refine thn ?_
      refine wsq ?_
      refine Qaf ?_
      obtain ⟨x17, hg18, h⟩ := bno h
      obtain ⟨hi19, hj20⟩ := gsm hg18
      refine wx tbk [(2, rp [(.tmp 16, (Qkn p0)), (.tmp 17, I y12)] (.dptr (Qad (x17)) 0))] ⟨aid rfl Try.underlying22 ti56 rfl rfl hi19 (mgt Qad hj20) rfl, trivial⟩ ?_
      rcases bft ((x17.Rank == y4)) with hc21 | hc21
      ·replace h := Qau hc21 h
       refine wft hc21 (by kernel_rfl) ?_
       obtain ⟨ha22, h⟩ := cko h
       refine wx1 tbk [(2, rp [(.tmp 24, I y12)] (.dat 1 (([y12] : List Int).map Qac))), (3, ⟨[(.tmp 23, (Qrg y11)), (.tmp 25, (.dat 1 (([y12] : List Int).map Qac)))], [(0, .tok), (1, .unused)], (.acc 1 3 1 ((y11 ++ ([y12]) : List Int).map Qac)), [(0, .dead), (1, .tok)], false⟩)] ⟨Qbk (vs := [I y12]) rfl Try.underlying23 ti3 tz3 rfl (by decide) rfl (by decide) (by rfl) (by rfl) (by rfl) rfl, Qmg rfl Try.underlying23 te3 (Base.acc _ _) rfl rfl (by rfl) (Qrc Qac ha22) (Qrb Qac ha22 (by decide)) (Qra Qac) rfl rfl, trivial⟩ ?_
       refine bln ?_
       refine thn ?_
       refine wx1 tbk [] trivial ?_
       refine thn ?_
       exact arm (mto (n := 28) [(0, (Qkn p0)), (3, (.acc 1 3 1 ((y11 ++ ([y12]) : List Int).map Qac))), (4, I y4), (5, (I (w64 (y12 + 1))))] [1] [.tok] hφ0 (pc (.rn (.plain _ (nld Qab _))) (pc (.rn (Qhf rfl (Qfd Qaa _))) (pc rwl (pc rwl pn)))) (qc .tok qn)) (ih (y11 ++ ([y12]), w64 (y12 + 1)) h)
      ·replace h := Qav hc21 h
       refine wfn hc21 (by kernel_rfl) ?_
       refine Qag ?_
       refine bln ?_
       refine thn ?_
       refine wx1 tbk [] trivial ?_
       refine thn ?_
       exact arm (mto (n := 28) [(0, (Qkn p0)), (3, (Qrg y11)), (4, I y4), (5, (I (w64 (y12 + 1))))] [0] [.tok] hφ0 (pc (.rn (.plain _ (nld Qab _))) (pc (.rn (Qhf rfl (Qfd Qaa _))) (pc rwl (pc rwl pn)))) (qc .tok qn)) (ih (y11, w64 (y12 + 1)) h)
     ·replace h := Qav hc16 h
      refine wfn hc16 (by kernel_rfl) ?_
      refine Qbc ?_
      refine Qam ?_
      refine Qam ?_
      refine Qbb rfl ?_
      refine bln ?_
      refine thn ?_
      exact ⟨(y11), h, (mto (n := 28) [(0, (Qkn p0)), (3, (Qrg y11)), (4, I y4)] [0] [.tok] hφ0 (pc (.rn (.plain _ (nld Qab _))) (pc (.rn (Qhf rfl (Qfd Qaa _))) (pc rwl pn))) (qc .tok qn))⟩
   ·replace h := Qav hc8 h
    refine wfn hc8 (by kernel_rfl) ?_
    refine Qbc ?_
    refine Qam ?_
    refine Qam ?_
    refine Qbb rfl ?_
    refine thn ?_
    exact ⟨(y3), h, (mto (n := 28) [(3, (Qwz y3))] [0] [.tok] hφ0 (pc (.rn (Qhf rfl (Qfd Qaa _))) pn) (qc .tok qn))⟩
def Qcq (N : Nat) (p0 : (List GNode)) (rec_ : ((List GNode) → Nat → Int → (List Int) → Option Int)) (p1 : Nat) (p2 : Int) (p3 : (List Int)) (k7 : Int → Option Int) : Nat → Int → Int → Option Int
  | 0, _, _ => none
  | n17 + 1, y13, y14 =>
    bif (decide (y14 < (p0.length : Int))) then
     (getI p0 y14).bind fun x19 =>
     bif (x19.Parent == p2) then
      (rec_ p0 p1 y14 p3).bind fun x25 =>
      Qcq N p0 rec_ p1 p2 p3 k7 n17 (w64 (y13 + x25)) (w64 (y14 + 1))
     else
      Qcq N p0 rec_ p1 p2 p3 k7 n17 y13 (w64 (y14 + 1))
    else
     k7 (y13)
def Qd3 (N : Nat) (rec_ : (List GNode) → Nat → Int → (List Int) → Option Int) (p0 : (List GNode)) (p1 : Nat) (p2 : Int) (p3 : (List Int)) : Option Int :=
  chk (decide (0 ≤ p2) && decide (p2.toNat < p1)) <|
  (p3[p2.toNat]?).bind fun x4 =>
  Qcd (fun y6 =>
    bif (decide (y6 > 0)) then
     (getI p0 p2).bind fun x9 =>
     some (w64 (y6 + x9.Loss))
    else
     some y6) fun k7 : Int → Option Int =>
  Qcq N p0 rec_ p1 p2 p3 k7 N x4 (w64 (p2 + 1))
def Qdf : Nat → (List GNode) → Nat → Int → (List Int) → Option Int
  | 0, _, _, _, _ => none
  | N + 1, p0, p1, p2, p3 => Qd3 N (Qdf N) p0 p1 p2 p3
def Qkm (p0 : (List GNode)) : AV := .dat 4 ((p0 : List GNode).map Qad)
def Qhp (p3 : (List Int)) : Slot := .own 1 ((p3 : List Int).map Qac)
set_option maxRecDepth 100000 in
set_option maxHeartbeats 4000000 in
theorem Qgn : ∀ (N : Nat) (p0 : (List GNode)) (p1 : Nat) (p2 : Int) (p3 : (List Int)) (r : Int) (_ : Qdf N p0 p1 p2 p3 = some r), Spec Try.prog 39 [(Qkm p0), (.own 0 1 (0) (p1)), (I (p2))] [(Qhp p3)] (I (r)) [(Qhp p3)] := by
  intro N
  induction N with
  | zero => intro p0 p1 p2 p3 r h; exact nomatch (show (none : Option Int) = some r from h)
  | succ N ihX =>
  intro p0 p1 p2 p3 r h
  replace h : Qd3 N (Qdf N) p0 p1 p2 p3 = some r := h
  refine Qai Try.func39 rfl 1 (nle rfl) (fun X φ0 w0 hφ0 => ?_)
  unfold Qd3 at h
  refine Qcm ?_
  refine wx tbk [] trivial ?_
  obtain ⟨hi3, h⟩ := cko h
  obtain ⟨hi3a, hi3b⟩ := Qa3 hi3
  obtain ⟨x4, hg5, h⟩ := bno h
  refine wx tbk [(2, rb [(.tmp 9, (.own 0 1 (0) (p1))), (.tmp 10, I p2)] [(0, (Qhp p3))] (.ref 0 1 (p2.toNat) 0)), (3, rb [(.tmp 11, (.ref 0 1 (p2.toNat) 0))] [(0, (Qhp p3))] (I x4))] ⟨aio rfl Try.underlying23 ti3 (odt hi3a) (odt hi3b) (Nat.zero_add _), ald rfl ti3 (by decide) (mgt Qac hg5) (nle rfl) rfl, trivial⟩ ?_
  obtain ⟨k7, hk_k7, h⟩ := jko h
  refine wjn (τ := Int) (fun t => k7 t = some r) (fun y6 => ⟨mk 44 [(0, (Qkm p0)), (2, I p2), (7, I y6)], [(Qhp p3)]⟩) (fun y6 h => ?_) ?_
  ·subst hk_k7
   refine wsq ?_
   refine wx tbk [] trivial ?_
   rcases bft ((decide (y6 > 0))) with hc8 | hc8
   ·replace h := Qau hc8 h
    refine wft hc8 (by kernel_rfl) ?_
    obtain ⟨x9, hg10, h⟩ := bno h
    obtain ⟨hi11, hj12⟩ := gsm hg10
    refine wx1 tbk [(3, rp [(.tmp 37, (Qkm p0)), (.tmp 38, I p2)] (.dptr (Qad (x9)) 0))] ⟨aid rfl Try.underlying22 ti56 rfl rfl hi11 (mgt Qad hj12) rfl, trivial⟩ ?_
    refine thn ?_
    refine wx tbk [] trivial ?_
    refine wmr (mto (n := 44) (l' := [(6, (I (w64 (y6 + x9.Loss))))]) (own' := [(Qhp p3)]) [(6, (I (w64 (y6 + x9.Loss))))] [0] [(Qhp p3)] hφ0 (pc rwl pn) (qc (spr Qaa) qn)) ?_
    refine Qah ?_
    obtain rfl := osi h
    exact ⟨_, Mor.rfl, Qcw (vs := [(I (w64 (y6 + x9.Loss)))]) ⟨rot (by kernel_rfl), trivial⟩ rfl (NLt.of0 nll) (by kernel_rfl) (Qao (Qda Qaa _) Qbw)⟩
   ·replace h := Qav hc8 h
    refine wfn hc8 (by kernel_rfl) ?_
    refine Qag ?_
    refine thn ?_
    refine wx tbk [] trivial ?_
    refine wmr (mto (n := 44) (l' := [(6, I y6)]) (own' := [(Qhp p3)]) [(6, I y6)] [0] [(Qhp p3)] hφ0 (pc rwl pn) (qc (spr Qaa) qn)) ?_
    refine Qah ?_
    obtain rfl := osi h
    exact ⟨_, Mor.rfl, Qcw (vs := [I y6]) ⟨rot (by kernel_rfl), trivial⟩ rfl (NLt.of0 nll) (by kernel_rfl) (Qao (Qda Qaa _) Qbw)⟩
  ·skip
   refine wx tbk [] trivial ?_
   refine Qaf ?_
   refine wmr (mto (n := 44) (l' := [(0, (Qkm p0)), (1, (.own 0 1 (0) (p1))), (2, I p2), (7, I x4), (8, (I ((w64 (p2 + 1)))))]) (own' := [(Qhp p3)]) [(0, (Qkm p0)), (1, (.own 0 1 (0) (p1))), (2, I p2), (7, I x4), (8, (I (w64 (p2 + 1))))] [0] [(Qhp p3)] hφ0 (pc (.rn (.plain _ (nld Qab _))) (pc (.rn (Qae rfl)) (pc rwl (pc rwl (pc rwl pn))))) (qc (spr Qaa) qn)) ?_
   refine Qb0 (τ := Int × Int) (fun n t => Qcq N p0 (Qdf N) p1 p2 p3 k7 n t.1 t.2 = some r) (fun ⟨y13, y14⟩ => ⟨mk 44 [(0, (Qkm p0)), (1, (.own 0 1 (0) (p1))), (2, I p2), (7, I y13), (8, I y14)], [(Qhp p3)]⟩) (fun t h => by rw [Qcq] at h; cases h) (fun n17 ih t h => ?_) N (x4, w64 (p2 + 1)) h
   obtain ⟨y13, y14⟩ := t
   rw [Qcq] at h
   skip
   refine wsq ?_
   refine wx tbk [(2, rp [(.tmp 16, (Qkm p0))] (I ((p0.length : Int))))] ⟨alm (c := Qad) (l := p0) (aln rfl Try.underlying22 rfl), trivial⟩ ?_
   rcases bft ((decide (y14 < (p0.length : Int)))) with hc18 | hc18
   ·replace h := Qau hc18 h
    refine wft hc18 (by kernel_rfl) ?_
    refine Qag ?_
    refine thn ?_
    refine wsq ?_
    refine Qaf ?_
    obtain ⟨x19, hg20, h⟩ := bno h
    obtain ⟨hi21, hj22⟩ := gsm hg20
    refine wx tbk [(2, rp [(.tmp 21, (Qkm p0)), (.tmp 22, I y14)] (.dptr (Qad (x19)) 0))] ⟨aid rfl Try.underlying22 ti56 rfl rfl hi21 (mgt Qad hj22) rfl, trivial⟩ ?_
    rcases bft ((x19.Parent == p2)) with hc23 | hc23
    ·replace h := Qau hc23 h
     refine wft hc23 (by kernel_rfl) ?_
     obtain ⟨x25, hf24, h⟩ := bno h
     refine wx1 tbk [(4, ⟨[fu 39, (.tmp 29, (Qkm p0)), (.tmp 30, (.own 0 1 (0) (p1))), (.tmp 31, I y14)], [(0, (Qhp p3))], I x25, [(0, (Qhp p3))], false⟩)] ⟨Qas (first := []) (cap := []) (vs := [(Qkm p0), (.own 0 1 (0) (p1)), I y14]) (σr := [(Qhp p3)]) (σr' := [(Qhp p3)]) (res' := (I x25)) [0] rfl Qod (ihX p0 p1 y14 p3 _ hf24) rfl (Qcn (rnc (.plain _ (nld Qab _)) (rnc (Qdo rfl) (rnc (.plain _ nll) rn0)))) (slc (Qbg Qaa) Qan) (slc (Qbg Qaa) Qan) (.plain _ nll) rfl rfl rfl, trivial⟩ ?_
     refine bln ?_
     refine thn ?_
     refine wx1 tbk [] trivial ?_
     refine thn ?_
     exact arm (mto (n := 44) [(0, (Qkm p0)), (1, (.own 0 1 (0) (p1))), (2, I p2), (7, (I (w64 (y13 + x25)))), (8, (I (w64 (y14 + 1))))] [0] [(Qhp p3)] hφ0 (pc (.rn (.plain _ (nld Qab _))) (pc (.rn (Qae rfl)) (pc rwl (pc rwl (pc rwl pn))))) (qc (spr Qaa) qn)) (ih (w64 (y13 + x25), w64 (y14 + 1)) h)
    ·replace h := Qav hc23 h
     refine wfn hc23 (by kernel_rfl) ?_
     refine Qag ?_
     refine bln ?_
     refine thn ?_
     refine wx1 tbk [] trivial ?_
     refine thn ?_
     exact arm (mto (n := 44) [(0, (Qkm p0)), (1, (.own 0 1 (0) (p1))), (2, I p2), (7, I y13), (8, (I (w64 (y14 + 1))))] [0] [(Qhp p3)] hφ0 (pc (.rn (.plain _ (nld Qab _))) (pc (.rn (Qae rfl)) (pc rwl (pc rwl (pc rwl pn))))) (qc (spr Qaa) qn)) (ih (y13, w64 (y14 + 1)) h)
   ·replace h := Qav hc18 h
    refine wfn hc18 (by kernel_rfl) ?_
    refine Qbc ?_
    refine Qam ?_
    refine Qam ?_
    refine Qbb rfl ?_
    refine thn ?_
    exact ⟨(y13), h, (mto (n := 44) [(0, (Qkm p0)), (2, I p2), (7, I y13)] [0] [(Qhp p3)] hφ0 (pc (.rn (.plain _ (nld Qab _))) (pc rwl (pc rwl pn))) (qc (spr Qaa) qn))⟩
def Qc1 (N : Nat) (p0 : (List GNode)) (p1 : Nat) (k2 : Unit → Option Int) (p2 : (List Int)) : Nat → Int → Option Int
  | 0, _ => none
  | n5 + 1, y3 =>
    bif (decide (y3 < (p0.length : Int))) then
     (Qdf N p0 p1 y3 p2).bind fun x8 =>
     (getI p0 y3).bind fun x9 =>
     bif (decide (x8 > x9.Limit)) then
      some y3
     else
      Qc1 N p0 p1 k2 p2 n5 (w64 (y3 + 1))
    else
     k2 ()
def Qfl (N : Nat) (p0 : (List GNode)) (p1 : Nat) (p2 : (List Int)) : Option Int :=
  Qcd (fun _ =>
    some (-1)) fun k2 : Unit → Option Int =>
  Qc1 N p0 p1 k2 p2 N 1
def Qnc (p0 : (List GNode)) : AV := .dat 4 ((p0 : List GNode).map Qad)
def Qix (p2 : (List Int)) : Slot := .own 1 ((p2 : List Int).map Qac)
set_option maxRecDepth 100000 in
set_option maxHeartbeats 4000000 in
theorem Qh8 (N : Nat) (p0 : (List GNode)) (p1 : Nat) (p2 : (List Int)) (r : Int) (h : Qfl N p0 p1 p2 = some r) : Spec Try.prog 38 [(Qnc p0), (.own 0 1 (0) (p1))] [(Qix p2)] (I (r)) [(Qix p2)] := by
  refine Qai Try.func38 rfl 1 (nle rfl) (fun X φ0 w0 hφ0 => ?_)
  unfold Qfl at h
  refine Qcm ?_
  refine wx tbk [] trivial ?_
  obtain ⟨k2, hk_k2, h⟩ := jko h
  refine wjn (τ := Unit) (fun t => k2 t = some r) (fun _ => ⟨mk 23 [], [(Qix p2)]⟩) (fun t h => ?_) ?_
  ·subst hk_k2
   refine wx tbk [] trivial ?_
   refine wmr (mto (n := 23) (l' := [(4, (I ((-1))))]) (own' := [(Qix p2)]) [(4, (I ((-1))))] [0] [(Qix p2)] hφ0 (pc rwl pn) (qc (spr Qaa) qn)) ?_
   refine Qah ?_
   obtain rfl := osi h
   exact ⟨_, Mor.rfl, Qcw (vs := [(I ((-1)))]) ⟨rot (by kernel_rfl), trivial⟩ rfl (NLt.of0 nll) (by kernel_rfl) (Qao (Qda Qaa _) Qbw)⟩
  ·skip
   refine wx tbk [] trivial ?_
   refine Qaf ?_
   refine wmr (mto (n := 23) (l' := [(0, (Qnc p0)), (1, (.own 0 1 (0) (p1))), (5, I 1)]) (own' := [(Qix p2)]) [(0, (Qnc p0)), (1, (.own 0 1 (0) (p1))), (5, I 1)] [0] [(Qix p2)] hφ0 (pc (.rn (.plain _ (nld Qab _))) (pc (.rn (Qae rfl)) (pc rwl pn))) (qc (spr Qaa) qn)) ?_
   refine Qb0 (τ := Int) (fun n t => Qc1 N p0 p1 k2 p2 n t = some r) (fun y3 => ⟨mk 23 [(0, (Qnc p0)), (1, (.own 0 1 (0) (p1))), (5, I y3)], [(Qix p2)]⟩) (fun t h => by rw [Qc1] at h; cases h) (fun n5 ih y3 h => ?_) N (1) h
   rw [Qc1] at h
   skip
   refine wsq ?_
   refine wx tbk [(2, rp [(.tmp 7, (Qnc p0))] (I ((p0.length : Int))))] ⟨alm (c := Qad) (l := p0) (aln rfl Try.underlying22 rfl), trivial⟩ ?_
   rcases bft ((decide (y3 < (p0.length : Int)))) with hc6 | hc6
   ·replace h := Qau hc6 h
    refine wft hc6 (by kernel_rfl) ?_
    refine Qag ?_
    refine thn ?_
    refine wsq ?_
    refine Qaf ?_
    obtain ⟨x8, hf7, h⟩ := bno h
    obtain ⟨x9, hg10, h⟩ := bno h
    obtain ⟨hi11, hj12⟩ := gsm hg10
    refine wxd tbk [(3, ⟨[fu 39, (.tmp 12, (Qnc p0)), (.tmp 13, (.own 0 1 (0) (p1))), (.tmp 14, I y3)], [(0, (Qix p2))], I x8, [(0, (Qix p2))], false⟩), (6, rp [(.tmp 16, (Qnc p0)), (.tmp 17, I y3)] (.dptr (Qad (x9)) 0))] ⟨Qas (first := []) (cap := []) (vs := [(Qnc p0), (.own 0 1 (0) (p1)), I y3]) (σr := [(Qix p2)]) (σr' := [(Qix p2)]) (res' := (I x8)) [0] rfl Qod (Qgn N p0 p1 y3 p2 _ hf7) rfl (Qcn (rnc (.plain _ (nld Qab _)) (rnc (Qdo rfl) (rnc (.plain _ nll) rn0)))) (slc (Qbg Qaa) Qan) (slc (Qbg Qaa) Qan) (.plain _ nll) rfl rfl rfl, aid rfl Try.underlying22 ti56 rfl rfl hi11 (mgt Qad hj12) rfl, trivial⟩ ?_
    rcases bft ((decide (x8 > x9.Limit))) with hc13 | hc13
    ·replace h := Qau hc13 h
     refine wft hc13 (by kernel_rfl) ?_
     refine wx tbk [] trivial ?_
     refine wmr (mto (n := 23) (l' := [(4, I y3)]) (own' := [(Qix p2)]) [(4, I y3)] [0] [(Qix p2)] hφ0 (pc rwl pn) (qc (spr Qaa) qn)) ?_
     refine Qah ?_
     refine Qa0 ?_
     refine Qak ?_
     refine Qak ?_
     refine Qa0 ?_
     refine Qak ?_
     obtain rfl := osi h
     exact ⟨_, Mor.rfl, Qcw (vs := [I y3]) ⟨rot (by kernel_rfl), trivial⟩ rfl (NLt.of0 nll) (by kernel_rfl) (Qao (Qda Qaa _) Qbw)⟩
    ·replace h := Qav hc13 h
     refine wfn hc13 (by kernel_rfl) ?_
     refine Qag ?_
     refine bln ?_
     refine thn ?_
     refine wx1 tbk [] trivial ?_
     refine thn ?_
     exact arm (mto (n := 23) [(0, (Qnc p0)), (1, (.own 0 1 (0) (p1))), (5, (I (w64 (y3 + 1))))] [0] [(Qix p2)] hφ0 (pc (.rn (.plain _ (nld Qab _))) (pc (.rn (Qae rfl)) (pc rwl pn))) (qc (spr Qaa) qn)) (ih (w64 (y3 + 1)) h)
   ·replace h := Qav hc6 h
    refine wfn hc6 (by kernel_rfl) ?_
    refine Qbc ?_
    refine Qam ?_
    refine Qam ?_
    refine Qbb rfl ?_
    refine thn ?_
    exact ⟨(), h, (mto (n := 23) [] [0] [(Qix p2)] hφ0 pn (qc (spr Qaa) qn))⟩
def Qck (N : Nat) (p0 : (List GNode)) (p1 : (List Int)) (p2 : Int) (x7 : (List Int)) (k10 : (List Bool) × (List Int) → Option ((List Bool) × Int)) : Nat → Int → (List Bool) → (List Int) → Option ((List Bool) × Int)
  | 0, _, _, _ => none
  | n20 + 1, y14, y15, y16 =>
    bif (decide (y14 < (x7.length : Int))) then
     (getI x7 y14).bind fun x22 =>
     (getI p1 x22).bind fun x26 =>
     chk (decide (0 ≤ x22) && decide (x22.toNat < (p0.length : Int).toNat)) <|
     (y16[x22.toNat]?).bind fun _ =>
     chk (decide (0 ≤ x22) && decide (x22.toNat < (p0.length : Int).toNat)) <|
     (y15[x22.toNat]?).bind fun _ =>
     (Qfl N p0 ((p0.length : Int).toNat) (y16.set x22.toNat x26)).bind fun x37 =>
     bif (decide (x37 ≥ 0)) then
      chk (decide (0 ≤ x22) && decide (x22.toNat < (p0.length : Int).toNat)) <|
      ((y16.set x22.toNat x26)[x22.toNat]?).bind fun _ =>
      chk (decide (0 ≤ x22) && decide (x22.toNat < (p0.length : Int).toNat)) <|
      ((y15.set x22.toNat (decide (x26 > 0)))[x22.toNat]?).bind fun _ =>
      Qck N p0 p1 p2 x7 k10 n20 (w64 (y14 + 1)) ((y15.set x22.toNat (decide (x26 > 0))).set x22.toNat false) ((y16.set x22.toNat x26).set x22.toNat 0)
     else
      (Qdf N p0 ((p0.length : Int).toNat) 0 (y16.set x22.toNat x26)).bind fun x46 =>
      bif (decide (x46 > p2)) then
       chk (decide (0 ≤ x22) && decide (x22.toNat < (p0.length : Int).toNat)) <|
       ((y16.set x22.toNat x26)[x22.toNat]?).bind fun _ =>
       chk (decide (0 ≤ x22) && decide (x22.toNat < (p0.length : Int).toNat)) <|
       ((y15.set x22.toNat (decide (x26 > 0)))[x22.toNat]?).bind fun _ =>
       Qck N p0 p1 p2 x7 k10 n20 (w64 (y14 + 1)) ((y15.set x22.toNat (decide (x26 > 0))).set x22.toNat false) ((y16.set x22.toNat x26).set x22.toNat 0)
      else
       Qck N p0 p1 p2 x7 k10 n20 (w64 (y14 + 1)) (y15.set x22.toNat (decide (x26 > 0))) (y16.set x22.toNat x26)
    else
     k10 (y15, y16)
def Qgd (N : Nat) (p0 : (List GNode)) (p1 : (List Int)) (p2 : Int) : Option ((List Bool) × Int) :=
  chk (decide (0 ≤ (p0.length : Int)) && decide (1 * (p0.length : Int) ≤ 281474976710656) && decide ((p0.length : Int) ≤ 9223372036854775807)) <|
  chk (decide (0 ≤ (p0.length : Int)) && decide (8 * (p0.length : Int) ≤ 281474976710656) && decide ((p0.length : Int) ≤ 9223372036854775807)) <|
  (Qgf N p0).bind fun x7 =>
  Qcd (fun ⟨y8, y9⟩ =>
    (Qdf N p0 ((p0.length : Int).toNat) 0 y9).bind fun x12 =>
    chk (decide ((p0.length : Int).toNat ≤ y8.length)) <|
    some (y8.take ((p0.length : Int).toNat), x12)) fun k10 : (List Bool) × (List Int) → Option ((List Bool) × Int) =>
  Qck N p0 p1 p2 x7 k10 N 0 (List.replicate (p0.length : Int).toNat false) (List.replicate (p0.length : Int).toNat 0)
def Qhi (p0 : (List GNode)) : AV := .dat 4 ((p0 : List GNode).map Qad)
def z84_1 (p0 : (List GNode)) : Slot := .own 1 ((List.replicate (p0.length : Int).toNat false : List Bool).map Qa2)
def z84_2 (p0 : (List GNode)) : Slot := .own 1 ((List.replicate (p0.length : Int).toNat 0 : List Int).map Qac)
def Qjv (x7 : (List Int)) : AV := .dat 1 ((x7 : List Int).map Qac)
def Qoo (y9 : (List Int)) : Slot := .own 1 ((y9 : List Int).map Qac)
def Qrl (y8 : (List Bool)) (p0 : (List GNode)) : AV := .dat 1 ((y8.take ((p0.length : Int).toNat) : List Bool).map Qa2)
def Qop (p1 : (List Int)) : AV := .dat 1 ((p1 : List Int).map Qac)
def Qrj (y15 : (List Bool)) : Slot := .own 1 ((y15 : List Bool).map Qa2)
def Qrk (y16 : (List Int)) : Slot := .own 1 ((y16 : List Int).map Qac)
def Qfn (y16 : (List Int)) (x22 : Int) (x26 : Int) : Slot := .own 1 ((y16.set x22.toNat x26 : List Int).map Qac)
def Qmr (y15 : (List Bool)) (x22 : Int) (x26 : Int) : Slot := .own 1 ((y15.set x22.toNat (decide (x26 > 0)) : List Bool).map Qa2)
def Qri (y16 : (List Int)) (x22 : Int) (x26 : Int) : Slot := .own 1 (((y16.set x22.toNat x26).set x22.toNat 0 : List Int).map Qac)
def Qrh (y15 : (List Bool)) (x22 : Int) (x26 : Int) : Slot := .own 1 (((y15.set x22.toNat (decide (x26 > 0))).set x22.toNat false : List Bool).map Qa2)
set_option maxRecDepth 100000 in
set_option maxHeartbeats 4000000 in
theorem Qlv (N : Nat) (p0 : (List GNode)) (p1 : (List Int)) (p2 : Int) (r : ((List Bool) × Int)) (h : Qgd N p0 p1 p2 = some r) : Spec Try.prog 28 [(.dat 4 (p0.map Qad)), (.dat 1 (p1.map Qac)), (I p2)] [] (.tup [(.dat 1 ((r.1 : List Bool).map Qa2)), (I (r.2))]) [] := by
  refine Qai Try.func28 rfl 0 (nle rfl) (fun X φ0 w0 hφ0 => ?_)
  unfold Qgd at h
  refine Qcm ?_
  refine wx tbk [] trivial ?_
  obtain ⟨hm4, h⟩ := cko h
  refine wx tbk [(1, rp [(.tmp 13, (Qhi p0))] (I ((p0.length : Int)))), (2, ⟨[(.tmp 14, (I ((p0.length : Int)))), (.tmp 14, (I ((p0.length : Int))))], [(0, .unused)], (.own 0 1 (0) ((p0.length : Int).toNat)), [(0, (z84_1 p0))], false⟩)] ⟨alm (c := Qad) (l := p0) (aln rfl Try.underlying22 rfl), Qfz rfl Try.underlying26 te4 tz4 rfl (Qre hm4) rfl (Qrd hm4) (Qmk hm4) (Qjm Qa2 rfl), trivial⟩ ?_
  obtain ⟨hm5, h⟩ := cko h
  refine wx tbk [(1, rp [(.tmp 16, (Qhi p0))] (I ((p0.length : Int)))), (2, ⟨[(.tmp 17, (I ((p0.length : Int)))), (.tmp 17, (I ((p0.length : Int))))], [(1, .unused)], (.own 1 1 (0) ((p0.length : Int).toNat)), [(1, (z84_2 p0))], false⟩)] ⟨alm (c := Qad) (l := p0) (aln rfl Try.underlying22 rfl), Qfz rfl Try.underlying23 te3 tz3 rfl (Qre hm5) rfl (Qrd hm5) (Qmk hm5) (Qjm Qac rfl), trivial⟩ ?_
  obtain ⟨x7, hf6, h⟩ := bno h
  refine wx tbk [(1, rp [fu 73, (.tmp 19, (Qhi p0))] (Qjv x7))] ⟨apc (first := []) (cap := []) (vs := [(Qhi p0)]) rfl enter73 (Qlx N p0 _ hf6) rfl rfl (nlc (nld Qab _) nl0) (nld Qaa _) rfl, trivial⟩ ?_
  obtain ⟨k10, hk_k10, h⟩ := jko h
  refine wjn (τ := (List Bool) × (List Int)) (fun t => k10 t = some r) (fun ⟨y8, y9⟩ => ⟨mk 67 [(0, (Qhi p0)), (8, (.own 0 1 (0) ((p0.length : Int).toNat))), (9, (.own 1 1 (0) ((p0.length : Int).toNat)))], [(.own 1 ((y8 : List Bool).map Qa2)), (Qoo y9)]⟩) (fun t h => ?_) ?_
  ·subst hk_k10
   obtain ⟨y8, y9⟩ := t
   obtain ⟨x12, hf11, h⟩ := bno h
   refine wx tbk [(3, ⟨[fu 39, (.tmp 64, (Qhi p0)), (.tmp 65, (.own 1 1 (0) ((p0.length : Int).toNat))), ci 0], [(1, (Qoo y9))], I x12, [(1, (Qoo y9))], false⟩)] ⟨Qas (first := []) (cap := []) (vs := [(Qhi p0), (.own 1 1 (0) (((p0.length : Int).toNat))), I 0]) (σr := [(Qoo y9)]) (σr' := [(Qoo y9)]) (res' := (I x12)) [1] rfl Qod (Qgn N p0 ((p0.length : Int).toNat) 0 y9 _ hf11) rfl (Qcn (rnc (.plain _ (nld Qab _)) (rnc (Qdo rfl) (rnc (.plain _ nll) rn0)))) (slc (Qbg Qaa) Qan) (slc (Qbg Qaa) Qan) (.plain _ nll) rfl rfl rfl, trivial⟩ ?_
   obtain ⟨hz13, h⟩ := cko h
   refine wmr (Ql1 (n := 67) (l' := [(6, (Qrl y8 p0)), (7, I x12)]) 0 [(6, (.own 0 1 (0) ((p0.length : Int).toNat))), (7, I x12)] (by kernel_rfl) (by kernel_rfl) (by kernel_rfl) ⟨rfl, (Qjt hz13), rfl, (.same _), trivial⟩ rfl) ?_
   refine wmr (mto (n := 67) (l' := [(6, (Qrl y8 p0)), (7, I x12)]) (own' := []) [(6, (Qrl y8 p0)), (7, I x12)] [] [] hφ0 (pc (.rn (.plain _ (nld Qc2 _))) (pc rwl pn)) qn) ?_
   refine Qah ?_
   obtain rfl := osi h
   exact ⟨_, Mor.rfl, Qcw (vs := [(Qrl y8 p0), I x12]) ⟨rot (by kernel_rfl), rot (by kernel_rfl), trivial⟩ rfl (NLt.tup _ (nlc (nld Qc2 _) (nlc nll nl0))) (by kernel_rfl) Qbw⟩
  ·skip
   refine wx tbk [] trivial ?_
   refine Qaf ?_
   refine wmr (mto (n := 67) (l' := [(0, (Qhi p0)), (1, (Qop p1)), (2, I p2), (8, (.own 0 1 (0) ((p0.length : Int).toNat))), (9, (.own 1 1 (0) ((p0.length : Int).toNat))), (10, (Qjv x7)), (11, I 0)]) (own' := [(.own 1 (((List.replicate (p0.length : Int).toNat false) : List Bool).map Qa2)), (.own 1 (((List.replicate (p0.length : Int).toNat 0) : List Int).map Qac))]) [(0, (Qhi p0)), (1, (Qop p1)), (2, I p2), (8, (.own 0 1 (0) ((p0.length : Int).toNat))), (9, (.own 1 1 (0) ((p0.length : Int).toNat))), (10, (Qjv x7)), (11, I 0)] [0, 1] [(z84_1 p0), (z84_2 p0)] hφ0 (pc (.rn (.plain _ (nld Qab _))) (pc (.rn (.plain _ (nld Qaa _))) (pc rwl (pc (.rn (Qae rfl)) (pc (.rn (Qae rfl)) (pc (.rn (.plain _ (nld Qaa _))) (pc rwl pn))))))) (qc (spr Qc2) (qc (spr Qaa) qn))) ?_
   refine Qb0 (τ := Int × (List Bool) × (List Int)) (fun n t => Qck N p0 p1 p2 x7 k10 n t.1 t.2.1 t.2.2 = some r) (fun ⟨y14, y15, y16⟩ => ⟨mk 67 [(0, (Qhi p0)), (1, (Qop p1)), (2, I p2), (8, (.own 0 1 (0) ((p0.length : Int).toNat))), (9, (.own 1 1 (0) ((p0.length : Int).toNat))), (10, (Qjv x7)), (11, I y14)], [(Qrj y15), (Qrk y16)]⟩) (fun t h => by rw [Qck] at h; cases h) (fun n20 ih t h => ?_) N (0, List.replicate (p0.length : Int).toNat false, List.replicate (p0.length : Int).toNat 0) h
   obtain ⟨y14, y15, y16⟩ := t
   rw [Qck] at h
   skip
   refine wsq ?_
   refine wx tbk [(2, rp [(.tmp 22, (Qjv x7))] (I ((x7.length : Int))))] ⟨alm (c := Qac) (l := x7) (aln rfl Try.underlying23 rfl), trivial⟩ ?_
   rcases bft ((decide (y14 < (x7.length : Int)))) with hc21 | hc21
   ·replace h := Qau hc21 h
    refine wft hc21 (by kernel_rfl) ?_
    refine Qag ?_
    refine thn ?_
    refine wsq ?_
    refine Qaf ?_
    obtain ⟨x22, hg23, h⟩ := bno h
    obtain ⟨hi24, hj25⟩ := gsm hg23
    refine wx tbk [(2, rp [(.tmp 27, (Qjv x7)), (.tmp 28, I y14)] (.dptr (Qac (x22)) 0))] ⟨aid rfl Try.underlying23 ti3 rfl rfl hi24 (mgt Qac hj25) rfl, trivial⟩ ?_
    obtain ⟨x26, hg27, h⟩ := bno h
    obtain ⟨hi28, hj29⟩ := gsm hg27
    obtain ⟨hi30, h⟩ := cko h
    obtain ⟨hi30a, hi30b⟩ := Qa3 hi30
    obtain ⟨x31, hg32, h⟩ := bno h
    refine wx tbk [(4, rp [(.tmp 33, (Qop p1)), (.tmp 34, I x22)] (.dptr (Qac (x26)) 0)), (6, rb [(.tmp 31, (.own 1 1 (0) ((p0.length : Int).toNat))), (.tmp 32, I x22)] [(1, (Qrk y16))] (.ref 1 1 (x22.toNat) 0)), (7, ⟨[(.tmp 37, (.ref 1 1 (x22.toNat) 0)), (.tmp 36, I x26)], [(1, (Qrk y16))], .any, [(1, (Qfn y16 x22 x26))], false⟩)] ⟨aid rfl Try.underlying23 ti3 rfl rfl hi28 (mgt Qac hj29) rfl, aio rfl Try.underlying23 ti3 (odt hi30a) (odt hi30b) (Nat.zero_add _), ast rfl ti3 (by rfl) (mgt Qac hg32) (nle rfl) (Qdt Qac rfl), trivial⟩ ?_
    obtain ⟨hi33, h⟩ := cko h
    obtain ⟨hi33a, hi33b⟩ := Qa3 hi33
    obtain ⟨x34, hg35, h⟩ := bno h
    refine wx tbk [(4, rp [(.tmp 40, (Qop p1)), (.tmp 41, I x22)] (.dptr (Qac (x26)) 0)), (7, rb [(.tmp 38, (.own 0 1 (0) ((p0.length : Int).toNat))), (.tmp 39, I x22)] [(0, (Qrj y15))] (.ref 0 1 (x22.toNat) 0)), (8, ⟨[(.tmp 45, (.ref 0 1 (x22.toNat) 0)), (.tmp 44, (B ((decide (x26 > 0)))))], [(0, (Qrj y15))], .any, [(0, (Qmr y15 x22 x26))], false⟩)] ⟨aid rfl Try.underlying23 ti3 rfl rfl hi28 (mgt Qac hj29) rfl, aio rfl Try.underlying26 ti4 (odt hi33a) (odt hi33b) (Nat.zero_add _), ast rfl ti4 (by rfl) (mgt Qa2 hg35) (nle rfl) (Qdt Qa2 rfl), trivial⟩ ?_
    obtain ⟨x37, hf36, h⟩ := bno h
    rcases bft ((decide (x37 ≥ 0))) with hb38 | hb38
    ·replace h := Qau hb38 h
     refine wx tbk [(2, ⟨[fu 38, (.tmp 46, (Qhi p0)), (.tmp 47, (.own 1 1 (0) ((p0.length : Int).toNat)))], [(1, (Qfn y16 x22 x26))], I x37, [(1, (Qfn y16 x22 x26))], false⟩), (4, rp [(.tmp 49, (B ((decide (x37 ≥ 0)))))] (B true))] ⟨Qas (first := []) (cap := []) (vs := [(Qhi p0), (.own 1 1 (0) (((p0.length : Int).toNat)))]) (σr := [(Qfn y16 x22 x26)]) (σr' := [(Qfn y16 x22 x26)]) (res' := (I x37)) [1] rfl Qwc (Qh8 N p0 ((p0.length : Int).toNat) (y16.set x22.toNat x26) _ hf36) rfl (Qcn (rnc (.plain _ (nld Qab _)) (rnc (Qdo rfl) rn0))) (slc (Qbg Qaa) Qan) (slc (Qbg Qaa) Qan) (.plain _ nll) rfl rfl rfl, asb hb38 (amv rfl), trivial⟩ ?_
     refine Qcl (by kernel_rfl) ?_
     obtain ⟨hi39, h⟩ := cko h
     obtain ⟨hi39a, hi39b⟩ := Qa3 hi39
     obtain ⟨x40, hg41, h⟩ := bno h
     refine wx tbk [(2, rb [(.tmp 57, (.own 1 1 (0) ((p0.length : Int).toNat))), (.tmp 58, I x22)] [(1, (Qfn y16 x22 x26))] (.ref 1 1 (x22.toNat) 0)), (3, ⟨[(.tmp 59, (.ref 1 1 (x22.toNat) 0)), ci 0], [(1, (Qfn y16 x22 x26))], .any, [(1, (Qri y16 x22 x26))], false⟩)] ⟨aio rfl Try.underlying23 ti3 (odt hi39a) (odt hi39b) (Nat.zero_add _), ast rfl ti3 (by rfl) (mgt Qac hg41) (nle rfl) (Qdt Qac rfl), trivial⟩ ?_
     obtain ⟨hi42, h⟩ := cko h
     obtain ⟨hi42a, hi42b⟩ := Qa3 hi42
     obtain ⟨x43, hg44, h⟩ := bno h
     refine wx1 tbk [(2, rb [(.tmp 60, (.own 0 1 (0) ((p0.length : Int).toNat))), (.tmp 61, I x22)] [(0, (Qmr y15 x22 x26))] (.ref 0 1 (x22.toNat) 0)), (3, ⟨[(.tmp 62, (.ref 0 1 (x22.toNat) 0)), cb false], [(0, (Qmr y15 x22 x26))], .any, [(0, (Qrh y15 x22 x26))], false⟩)] ⟨aio rfl Try.underlying26 ti4 (odt hi42a) (odt hi42b) (Nat.zero_add _), ast rfl ti4 (by rfl) (mgt Qa2 hg44) (nle rfl) (Qdt Qa2 rfl), trivial⟩ ?_
     refine bln ?_
     refine thn ?_
     refine wx1 tbk [] trivial ?_
     refine thn ?_
     exact arm (mto (n := 67) [(0, (Qhi p0)), (1, (Qop p1)), (2, I p2), (8, (.own 0 1 (0) ((p0.length : Int).toNat))), (9, (.own 1 1 (0) ((p0.length : Int).toNat))), (10, (Qjv x7)), (11, (I (w64 (y14 + 1))))] [0, 1] [(Qrh y15 x22 x26), (Qri y16 x22 x26)] hφ0 (pc (.rn (.plain _ (nld Qab _))) (pc (.rn (.plain _ (nld Qaa _))) (pc rwl (pc (.rn (Qae rfl)) (pc (.rn (Qae rfl)) (pc (.rn (.plain _ (nld Qaa _))) (pc rwl pn))))))) (qc (spr Qc2) (qc (spr Qaa) qn))) (ih (w64 (y14 + 1), (y15.set x22.toNat (decide (x26 > 0))).set x22.toNat false, (y16.set x22.toNat x26).set x22.toNat 0) h)
    ·replace h := Qav hb38 h
     obtain ⟨x46, hf45, h⟩ := bno h
     refine wx tbk [(2, ⟨[fu 38, (.tmp 46, (Qhi p0)), (.tmp 47, (.own 1 1 (0) ((p0.length : Int).toNat)))], [(1, (Qfn y16 x22 x26))], I x37, [(1, (Qfn y16 x22 x26))], false⟩), (4, rp [(.tmp 49, (B ((decide (x37 ≥ 0)))))] (B false)), (7, ⟨[(.tmp 50, B false), fu 39, (.tmp 51, (Qhi p0)), (.tmp 52, (.own 1 1 (0) ((p0.length : Int).toNat))), ci 0], [(1, (Qfn y16 x22 x26))], I x46, [(1, (Qfn y16 x22 x26))], false⟩)] ⟨Qas (first := []) (cap := []) (vs := [(Qhi p0), (.own 1 1 (0) (((p0.length : Int).toNat)))]) (σr := [(Qfn y16 x22 x26)]) (σr' := [(Qfn y16 x22 x26)]) (res' := (I x37)) [1] rfl Qwc (Qh8 N p0 ((p0.length : Int).toNat) (y16.set x22.toNat x26) _ hf36) rfl (Qcn (rnc (.plain _ (nld Qab _)) (rnc (Qdo rfl) rn0))) (slc (Qbg Qaa) Qan) (slc (Qbg Qaa) Qan) (.plain _ nll) rfl rfl rfl, asb hb38 (amv rfl), ag_ (Qas (first := []) (cap := []) (vs := [(Qhi p0), (.own 1 1 (0) (((p0.length : Int).toNat))), I 0]) (σr := [(Qfn y16 x22 x26)]) (σr' := [(Qfn y16 x22 x26)]) (res' := (I x46)) [1] rfl Qod (Qgn N p0 ((p0.length : Int).toNat) 0 (y16.set x22.toNat x26) _ hf45) rfl (Qcn (rnc (.plain _ (nld Qab _)) (rnc (Qdo rfl) (rnc (.plain _ nll) rn0)))) (slc (Qbg Qaa) Qan) (slc (Qbg Qaa) Qan) (.plain _ nll) rfl rfl rfl), trivial⟩ ?_
     rcases bft ((decide (x46 > p2))) with hc47 | hc47
     ·replace h := Qau hc47 h
      refine wft hc47 (by kernel_rfl) ?_
      obtain ⟨hi48, h⟩ := cko h
      obtain ⟨hi48a, hi48b⟩ := Qa3 hi48
      obtain ⟨x49, hg50, h⟩ := bno h
      refine wx tbk [(2, rb [(.tmp 57, (.own 1 1 (0) ((p0.length : Int).toNat))), (.tmp 58, I x22)] [(1, (Qfn y16 x22 x26))] (.ref 1 1 (x22.toNat) 0)), (3, ⟨[(.tmp 59, (.ref 1 1 (x22.toNat) 0)), ci 0], [(1, (Qfn y16 x22 x26))], .any, [(1, (Qri y16 x22 x26))], false⟩)] ⟨aio rfl Try.underlying23 ti3 (odt hi48a) (odt hi48b) (Nat.zero_add _), ast rfl ti3 (by rfl) (mgt Qac hg50) (nle rfl) (Qdt Qac rfl), trivial⟩ ?_
      obtain ⟨hi51, h⟩ := cko h
      obtain ⟨hi51a, hi51b⟩ := Qa3 hi51
      obtain ⟨x52, hg53, h⟩ := bno h
      refine wx1 tbk [(2, rb [(.tmp 60, (.own 0 1 (0) ((p0.length : Int).toNat))), (.tmp 61, I x22)] [(0, (Qmr y15 x22 x26))] (.ref 0 1 (x22.toNat) 0)), (3, ⟨[(.tmp 62, (.ref 0 1 (x22.toNat) 0)), cb false], [(0, (Qmr y15 x22 x26))], .any, [(0, (Qrh y15 x22 x26))], false⟩)] ⟨aio rfl Try.underlying26 ti4 (odt hi51a) (odt hi51b) (Nat.zero_add _), ast rfl ti4 (by rfl) (mgt Qa2 hg53) (nle rfl) (Qdt Qa2 rfl), trivial⟩ ?_
      refine bln ?_
      refine thn ?_
      refine wx1 tbk [] trivial ?_
      refine thn ?_
      exact arm (mto (n := 67) [(0, (Qhi p0)), (1, (Qop p1)), (2, I p2), (8, (.own 0 1 (0) ((p0.length : Int).toNat))), (9, (.own 1 1 (0) ((p0.length : Int).toNat))), (10, (Qjv x7)), (11, (I (w64 (y14 + 1))))] [0, 1] [(Qrh y15 x22 x26), (Qri y16 x22 x26)] hφ0 (pc (.rn (.plain _ (nld Qab _))) (pc (.rn (.plain _ (nld Qaa _))) (pc rwl (pc (.rn (Qae rfl)) (pc (.rn (Qae rfl)) (pc (.rn (.plain _ (nld Qaa _))) (pc rwl pn))))))) (qc (spr Qc2) (qc (spr Qaa) qn))) (ih (w64 (y14 + 1), (y15.set x22.toNat (decide (x26 > 0))).set x22.toNat false, (y16.set x22.toNat x26).set x22.toNat 0) h)
     ·replace h := Qav hc47 h
      refine wfn hc47 (by kernel_rfl) ?_
      refine Qag ?_
      refine bln ?_
      refine thn ?_
      refine wx1 tbk [] trivial ?_
      refine thn ?_
      exact arm (mto (n := 67) [(0, (Qhi p0)), (1, (Qop p1)), (2, I p2), (8, (.own 0 1 (0) ((p0.length : Int).toNat))), (9, (.own 1 1 (0) ((p0.length : Int).toNat))), (10, (Qjv x7)), (11, (I (w64 (y14 + 1))))] [0, 1] [(Qmr y15 x22 x26), (Qfn y16 x22 x26)] hφ0 (pc (.rn (.plain _ (nld Qab _))) (pc (.rn (.plain _ (nld Qaa _))) (pc rwl (pc (.rn (Qae rfl)) (pc (.rn (Qae rfl)) (pc (.rn (.plain _ (nld Qaa _))) (pc rwl pn))))))) (qc (spr Qc2) (qc (spr Qaa) qn))) (ih (w64 (y14 + 1), y15.set x22.toNat (decide (x26 > 0)), y16.set x22.toNat x26) h)
   ·replace h := Qav hc21 h
    refine wfn hc21 (by kernel_rfl) ?_
    refine Qbc ?_
    refine Qam ?_
    refine Qam ?_
    refine Qbb rfl ?_
    refine thn ?_
    exact ⟨(y15, y16), h, (mto (n := 67) [(0, (Qhi p0)), (8, (.own 0 1 (0) ((p0.length : Int).toNat))), (9, (.own 1 1 (0) ((p0.length : Int).toNat)))] [0, 1] [(Qrj y15), (Qrk y16)] hφ0 (pc (.rn (.plain _ (nld Qab _))) (pc (.rn (Qae rfl)) (pc (.rn (Qae rfl)) pn))) (qc (spr Qc2) (qc (spr Qaa) qn)))⟩
def Qcc (N : Nat) (x11 : ((List Bool) × Int × Int)) (x21 : ((List Bool) × Int)) (k23 : Unit → Option Bool) : Nat → Int → Option Bool
  | 0, _ => none
  | n28 + 1, y26 =>
    bif (decide (y26 < (x11.1.length : Int))) then
     (getI x11.1 y26).bind fun x30 =>
     (getI x21.1 y26).bind fun x34 =>
     bif (!(x30 == x34)) then
      some false
     else
      Qcc N x11 x21 k23 n28 (w64 (y26 + 1))
    else
     k23 ()
def Qeb (N : Nat) (p0 : (List GNode)) (p1 : (List Int)) (p2 : Int) : Option Bool :=
  (Qhm N p0 p1).bind fun x2 =>
  bif (!x2) then
   (Qfe 2000 ).bind fun x5 =>
   some x5
  else
   (Qg3 N p0).bind fun x7 =>
   (Qg2 N p1).bind fun x9 =>
   (Qfs N x7 x9 p2).bind fun x11 =>
   Qcd (fun y12 =>
     bif (y12 != 0) then
      bif (x11.2.2 == y12) then
       bif (x11.2.1 == 0) then
        bif ((x11.1.length : Int) == 0) then
         (Qfe 2000 ).bind fun x19 =>
         some x19
        else
         some false
       else
        some false
      else
       some false
     else
      (Qgd N p0 p1 p2).bind fun x21 =>
      Qcd (fun _ =>
        Qcd (fun _ =>
          (Qfe 2000 ).bind fun x25 =>
          some x25) fun k23 : Unit → Option Bool =>
        Qcc N x11 x21 k23 N 0) fun k22 : Unit → Option Bool =>
      bif (x11.2.2 != 0) then
       some false
      else
       bif (x11.2.1 != x21.2) then
        some false
       else
        bif ((x11.1.length : Int) != (x21.1.length : Int)) then
         some false
        else
         k22 ()) fun k13 : Int → Option Bool =>
   (Qge N p0).bind fun x43 =>
   bif (!x43) then
    k13 (1)
   else
    (Qg0 N p0 p1).bind fun x46 =>
    bif (!x46) then
     k13 (2)
    else
     (Qd9 N p2 0 100000000000).bind fun x49 =>
     bif (!x49) then
      k13 (2)
     else
      k13 (0)
def Qif (p0 : (List GNode)) : AV := .dat 4 ((p0 : List GNode).map Qad)
def Qjc (p1 : (List Int)) : AV := .dat 1 ((p1 : List Int).map Qac)
def z83_2 (x7 : (List GNode)) : AV := .dat 4 ((x7 : List GNode).map Qad)
def z83_3 (x9 : (List Int)) : AV := .dat 1 ((x9 : List Int).map Qac)
def Qie (x11 : ((List Bool) × Int × Int)) : AV := .dat 1 ((x11.1 : List Bool).map Qa2)
def Qnd (x21 : ((List Bool) × Int)) : AV := .dat 1 ((x21.1 : List Bool).map Qa2)
set_option maxRecDepth 100000 in
set_option maxHeartbeats 4000000 in
theorem Qi6 (N : Nat) (p0 : (List GNode)) (p1 : (List Int)) (p2 : Int) (r : Bool) (h : Qeb N p0 p1 p2 = some r) : Spec Try.prog 3 [(.dat 4 (p0.map Qad)), (.dat 1 (p1.map Qac)), (I p2)] [] (B r) [] := by
  refine Qai Try.func3 rfl 0 (nle rfl) (fun X φ0 w0 hφ0 => ?_)
  unfold Qeb at h
  refine wx tbk [] trivial ?_
  refine wsq ?_
  obtain ⟨x2, hf1, h⟩ := bno h
  refine wx tbk [(2, rp [fu 20, (.tmp 14, (Qif p0)), (.tmp 15, (Qjc p1))] (B x2))] ⟨apc (first := []) (cap := []) (vs := [(Qif p0), (Qjc p1)]) rfl enter20 (Qn7 N p0 p1 _ hf1) rfl rfl (nlc (nld Qab _) (nlc (nld Qaa _) nl0)) nll rfl, trivial⟩ ?_
  rcases bft ((!x2)) with hc3 | hc3
  ·replace h := Qau hc3 h
   refine wft hc3 (by kernel_rfl) ?_
   obtain ⟨x5, hf4, h⟩ := bno h
   refine wx tbk [(0, rp [fu 21] (B x5))] ⟨apc (first := []) (cap := []) (vs := []) rfl Qqu (Qg1 2000  _ hf4) rfl rfl nl0 nll rfl, trivial⟩ ?_
   refine Qah ?_
   refine Qak ?_
   obtain rfl := osi h
   exact fend ⟨[B x5], ⟨rot (by kernel_rfl), trivial⟩, rfl⟩ nll
  ·replace h := Qav hc3 h
   refine wfn hc3 (by kernel_rfl) ?_
   refine Qag ?_
   refine thn ?_
   obtain ⟨x7, hf6, h⟩ := bno h
   obtain ⟨x9, hf8, h⟩ := bno h
   obtain ⟨x11, hf10, h⟩ := bno h
   refine wx tbk [(1, rp [fu 23, (.tmp 20, (Qif p0))] (z83_2 x7)), (3, rp [fu 24, (.tmp 22, (Qjc p1))] (z83_3 x9)), (5, rp [fu 22, (.tmp 21, (z83_2 x7)), (.tmp 23, (z83_3 x9)), (.tmp 24, I p2)] (.tup [(Qie x11), I x11.2.1, I x11.2.2]))] ⟨apc (first := []) (cap := []) (vs := [(Qif p0)]) rfl enter23 (Qmq N p0 _ hf6) rfl rfl (nlc (nld Qab _) nl0) (nld Qab _) rfl, apc (first := []) (cap := []) (vs := [(Qjc p1)]) rfl enter24 (Qmp N p1 _ hf8) rfl rfl (nlc (nld Qaa _) nl0) (nld Qaa _) rfl, apc (first := []) (cap := []) (vs := [(z83_2 x7), (z83_3 x9), I p2]) rfl Qwe (Qi9 N x7 x9 p2 _ hf10) rfl rfl (nlc (nld Qab _) (nlc (nld Qaa _) (nlc nll nl0))) (NLt.tup _ (nlc (nld Qc2 _) (nlc nll (nlc nll nl0)))) rfl, trivial⟩ ?_
   refine wx tbk [] trivial ?_
   obtain ⟨k13, hk_k13, h⟩ := jko h
   refine wjn (τ := Int) (fun t => k13 t = some r) (fun y12 => ⟨mk 95 [(0, (Qif p0)), (1, (Qjc p1)), (2, I p2), (7, (Qie x11)), (8, I x11.2.1), (9, I x11.2.2), (10, I y12)], []⟩) (fun y12 h => ?_) ?_
   ·subst hk_k13
    refine wsq ?_
    refine wx tbk [] trivial ?_
    rcases bft ((y12 != 0)) with hc14 | hc14
    ·replace h := Qau hc14 h
     refine wft hc14 (by kernel_rfl) ?_
     rcases bft ((x11.2.2 == y12)) with hb15 | hb15
     ·replace h := Qau hb15 h
      rcases bft ((x11.2.1 == 0)) with hb16 | hb16
      ·replace h := Qau hb16 h
       rcases bft (((x11.1.length : Int) == 0)) with hb17 | hb17
       ·replace h := Qau hb17 h
        obtain ⟨x19, hf18, h⟩ := bno h
        refine wx tbk [(3, rp [(.tmp 45, (B ((x11.2.2 == y12))))] (B true)), (7, rp [(.tmp 49, (B ((x11.2.1 == 0))))] (B true)), (9, rp [(.tmp 50, B true), (.tmp 51, (Qie x11))] (I ((x11.1.length : Int)))), (12, rp [(.tmp 54, (B (((x11.1.length : Int) == 0))))] (B true)), (13, rp [(.tmp 55, B true), fu 21] (B x19))] ⟨asb hb15 (amv rfl), asb hb16 (amv rfl), ag_ (alm (c := Qa2) (l := x11.1) (aln rfl Try.underlying26 rfl)), asb hb17 (amv rfl), ag_ (apc (first := []) (cap := []) (vs := []) rfl Qqu (Qg1 2000  _ hf18) rfl rfl nl0 nll rfl), trivial⟩ ?_
        refine Qah ?_
        refine Qak ?_
        obtain rfl := osi h
        exact fend ⟨[B x19], ⟨rot (by kernel_rfl), trivial⟩, rfl⟩ nll
       ·replace h := Qav hb17 h
        refine wx tbk [(3, rp [(.tmp 45, (B ((x11.2.2 == y12))))] (B true)), (7, rp [(.tmp 49, (B ((x11.2.1 == 0))))] (B true)), (9, rp [(.tmp 50, B true), (.tmp 51, (Qie x11))] (I ((x11.1.length : Int)))), (12, rp [(.tmp 54, (B (((x11.1.length : Int) == 0))))] (B false))] ⟨asb hb15 (amv rfl), asb hb16 (amv rfl), ag_ (alm (c := Qa2) (l := x11.1) (aln rfl Try.underlying26 rfl)), asb hb17 (amv rfl), trivial⟩ ?_
        refine Qah ?_
        refine Qak ?_
        obtain rfl := osi h
        exact fend ⟨[B false], ⟨rot (by kernel_rfl), trivial⟩, rfl⟩ nll
      ·replace h := Qav hb16 h
       refine wx tbk [(3, rp [(.tmp 45, (B ((x11.2.2 == y12))))] (B true)), (7, rp [(.tmp 49, (B ((x11.2.1 == 0))))] (B false))] ⟨asb hb15 (amv rfl), asb hb16 (amv rfl), trivial⟩ ?_
       refine Qah ?_
       refine Qak ?_
       obtain rfl := osi h
       exact fend ⟨[B false], ⟨rot (by kernel_rfl), trivial⟩, rfl⟩ nll
     ·replace h := Qav hb15 h
      refine wx tbk [(3, rp [(.tmp 45, (B ((x11.2.2 == y12))))] (B false))] ⟨asb hb15 (amv rfl), trivial⟩ ?_
      refine Qah ?_
      refine Qak ?_
      obtain rfl := osi h
      exact fend ⟨[B false], ⟨rot (by kernel_rfl), trivial⟩, rfl⟩ nll
    ·replace h := Qav hc14 h
     refine wfn hc14 (by kernel_rfl) ?_
     refine Qag ?_
     refine thn ?_
     obtain ⟨x21, hf20, h⟩ := bno h
     refine wx tbk [(3, rp [fu 28, (.tmp 59, (Qif p0)), (.tmp 60, (Qjc p1)), (.tmp 61, I p2)] (.tup [(Qnd x21), I x21.2]))] ⟨apc (first := []) (cap := []) (vs := [(Qif p0), (Qjc p1), I p2]) rfl enter28 (Qlv N p0 p1 p2 _ hf20) rfl rfl (nlc (nld Qab _) (nlc (nld Qaa _) (nlc nll nl0))) (NLt.tup _ (nlc (nld Qc2 _) (nlc nll nl0))) rfl, trivial⟩ ?_
     obtain ⟨k22, hk_k22, h⟩ := jko h
     refine wjn (τ := Unit) (fun t => k22 t = some r) (fun _ => ⟨mk 95 [(7, (Qie x11)), (11, (Qnd x21))], []⟩) (fun t h => ?_) ?_
     ·subst hk_k22
      obtain ⟨k23, hk_k23, h⟩ := jko h
      refine wjn (τ := Unit) (fun t => k23 t = some r) (fun _ => ⟨mk 95 [], []⟩) (fun t h => ?_) ?_
      ·subst hk_k23
       obtain ⟨x25, hf24, h⟩ := bno h
       refine wx tbk [(0, rp [fu 21] (B x25))] ⟨apc (first := []) (cap := []) (vs := []) rfl Qqu (Qg1 2000  _ hf24) rfl rfl nl0 nll rfl, trivial⟩ ?_
       refine Qah ?_
       obtain rfl := osi h
       exact fend ⟨[B x25], ⟨rot (by kernel_rfl), trivial⟩, rfl⟩ nll
      ·skip
       refine wx tbk [] trivial ?_
       refine Qaf ?_
       refine wmr (mto (n := 95) (l' := [(7, (Qie x11)), (11, (Qnd x21)), (13, I 0)]) (own' := []) [(7, (Qie x11)), (11, (Qnd x21)), (13, I 0)] [] [] hφ0 (pc (.rn (.plain _ (nld Qc2 _))) (pc (.rn (.plain _ (nld Qc2 _))) (pc rwl pn))) qn) ?_
       refine Qb0 (τ := Int) (fun n t => Qcc N x11 x21 k23 n t = some r) (fun y26 => ⟨mk 95 [(7, (Qie x11)), (11, (Qnd x21)), (13, I y26)], []⟩) (fun t h => by rw [Qcc] at h; cases h) (fun n28 ih y26 h => ?_) N (0) h
       rw [Qcc] at h
       skip
       refine wsq ?_
       refine wx tbk [(2, rp [(.tmp 80, (Qie x11))] (I ((x11.1.length : Int))))] ⟨alm (c := Qa2) (l := x11.1) (aln rfl Try.underlying26 rfl), trivial⟩ ?_
       rcases bft ((decide (y26 < (x11.1.length : Int)))) with hc29 | hc29
       ·replace h := Qau hc29 h
        refine wft hc29 (by kernel_rfl) ?_
        refine Qag ?_
        refine thn ?_
        refine wsq ?_
        refine Qaf ?_
        obtain ⟨x30, hg31, h⟩ := bno h
        obtain ⟨hi32, hj33⟩ := gsm hg31
        obtain ⟨x34, hg35, h⟩ := bno h
        obtain ⟨hi36, hj37⟩ := gsm hg35
        refine wxd tbk [(2, rp [(.tmp 85, (Qie x11)), (.tmp 86, I y26)] (.dptr (Qa2 (x30)) 0)), (6, rp [(.tmp 89, (Qnd x21)), (.tmp 90, I y26)] (.dptr (Qa2 (x34)) 0)), (8, rp [(.tmp 88, B x30), (.tmp 92, B x34)] (B ((!(x30 == x34)))))] ⟨aid rfl Try.underlying26 ti4 rfl rfl hi32 (mgt Qa2 hj33) rfl, aid rfl Try.underlying26 ti4 rfl rfl hi36 (mgt Qa2 hj37) rfl, Qwr rfl Try.underlying4, trivial⟩ ?_
        rcases bft ((!(x30 == x34))) with hc38 | hc38
        ·replace h := Qau hc38 h
         refine wft hc38 (by kernel_rfl) ?_
         refine wx tbk [] trivial ?_
         refine Qah ?_
         refine Qa0 ?_
         refine Qak ?_
         refine Qak ?_
         refine Qa0 ?_
         refine Qak ?_
         obtain rfl := osi h
         exact fend ⟨[B false], ⟨rot (by kernel_rfl), trivial⟩, rfl⟩ nll
        ·replace h := Qav hc38 h
         refine wfn hc38 (by kernel_rfl) ?_
         refine Qag ?_
         refine bln ?_
         refine thn ?_
         refine wx1 tbk [] trivial ?_
         refine thn ?_
         exact arm (mto (n := 95) [(7, (Qie x11)), (11, (Qnd x21)), (13, (I (w64 (y26 + 1))))] [] [] hφ0 (pc (.rn (.plain _ (nld Qc2 _))) (pc (.rn (.plain _ (nld Qc2 _))) (pc rwl pn))) qn) (ih (w64 (y26 + 1)) h)
       ·replace h := Qav hc29 h
        refine wfn hc29 (by kernel_rfl) ?_
        refine Qbc ?_
        refine Qam ?_
        refine Qam ?_
        refine Qbb rfl ?_
        refine thn ?_
        exact ⟨(), h, (mto (n := 95) [] [] [] hφ0 pn qn)⟩
     ·skip
      rcases bft ((x11.2.2 != 0)) with hb39 | hb39
      ·replace h := Qau hb39 h
       refine wx tbk [(2, rp [(.tmp 66, (B ((x11.2.2 != 0))))] (B true))] ⟨asb hb39 (amv rfl), trivial⟩ ?_
       refine Qcl (by kernel_rfl) ?_
       refine wx tbk [] trivial ?_
       refine Qah ?_
       refine Qak ?_
       obtain rfl := osi h
       exact fend ⟨[B false], ⟨rot (by kernel_rfl), trivial⟩, rfl⟩ nll
      ·replace h := Qav hb39 h
       rcases bft ((x11.2.1 != x21.2)) with hb40 | hb40
       ·replace h := Qau hb40 h
        refine wx tbk [(2, rp [(.tmp 66, (B ((x11.2.2 != 0))))] (B false)), (7, rp [(.tmp 71, (B ((x11.2.1 != x21.2))))] (B true))] ⟨asb hb39 (amv rfl), asb hb40 (amv rfl), trivial⟩ ?_
        refine Qcl (by kernel_rfl) ?_
        refine wx tbk [] trivial ?_
        refine Qah ?_
        refine Qak ?_
        obtain rfl := osi h
        exact fend ⟨[B false], ⟨rot (by kernel_rfl), trivial⟩, rfl⟩ nll
       ·replace h := Qav hb40 h
        refine wx tbk [(2, rp [(.tmp 66, (B ((x11.2.2 != 0))))] (B false)), (7, rp [(.tmp 71, (B ((x11.2.1 != x21.2))))] (B false)), (9, rp [(.tmp 72, B false), (.tmp 73, (Qie x11))] (I ((x11.1.length : Int)))), (11, rp [(.tmp 72, B false), (.tmp 75, (Qnd x21))] (I ((x21.1.length : Int))))] ⟨asb hb39 (amv rfl), asb hb40 (amv rfl), ag_ (alm (c := Qa2) (l := x11.1) (aln rfl Try.underlying26 rfl)), ag_ (alm (c := Qa2) (l := x21.1) (aln rfl Try.underlying26 rfl)), trivial⟩ ?_
        rcases bft (((x11.1.length : Int) != (x21.1.length : Int))) with hc41 | hc41
        ·replace h := Qau hc41 h
         refine wft hc41 (by kernel_rfl) ?_
         refine wx tbk [] trivial ?_
         refine Qah ?_
         refine Qak ?_
         obtain rfl := osi h
         exact fend ⟨[B false], ⟨rot (by kernel_rfl), trivial⟩, rfl⟩ nll
        ·replace h := Qav hc41 h
         refine wfn hc41 (by kernel_rfl) ?_
         refine Qag ?_
         refine thn ?_
         exact ⟨(), h, (mto (n := 95) [(7, (Qie x11)), (11, (Qnd x21))] [] [] hφ0 (pc (.rn (.plain _ (nld Qc2 _))) (pc (.rn (.plain _ (nld Qc2 _))) pn)) qn)⟩
   ·skip
    obtain ⟨x43, hf42, h⟩ := bno h
    refine wx tbk [(1, rp [fu 25, (.tmp 29, (Qif p0))] (B x43))] ⟨apc (first := []) (cap := []) (vs := [(Qif p0)]) rfl enter25 (Qlw N p0 _ hf42) rfl rfl (nlc (nld Qab _) nl0) nll rfl, trivial⟩ ?_
    rcases bft ((!x43)) with hc44 | hc44
    ·replace h := Qau hc44 h
     refine wft hc44 (by kernel_rfl) ?_
     refine wx1 tbk [] trivial ?_
     refine thn ?_
     exact ⟨(1), h, (mto (n := 95) [(0, (Qif p0)), (1, (Qjc p1)), (2, I p2), (7, (Qie x11)), (8, I x11.2.1), (9, I x11.2.2), (10, I 1)] [] [] hφ0 (pc (.rn (.plain _ (nld Qab _))) (pc (.rn (.plain _ (nld Qaa _))) (pc rwl (pc (.rn (.plain _ (nld Qc2 _))) (pc rwl (pc rwl (pc rwl pn))))))) qn)⟩
    ·replace h := Qav hc44 h
     refine wfn hc44 (by kernel_rfl) ?_
     obtain ⟨x46, hf45, h⟩ := bno h
     rcases bft ((!x46)) with hb47 | hb47
     ·replace h := Qau hb47 h
      refine wx tbk [(2, rp [fu 26, (.tmp 32, (Qif p0)), (.tmp 33, (Qjc p1))] (B x46)), (4, rp [(.tmp 35, (B ((!x46))))] (B true))] ⟨apc (first := []) (cap := []) (vs := [(Qif p0), (Qjc p1)]) rfl Qwd (Qja N p0 p1 _ hf45) rfl rfl (nlc (nld Qab _) (nlc (nld Qaa _) nl0)) nll rfl, asb hb47 (amv rfl), trivial⟩ ?_
      refine Qcl (by kernel_rfl) ?_
      refine wx1 tbk [] trivial ?_
      refine thn ?_
      exact ⟨(2), h, (mto (n := 95) [(0, (Qif p0)), (1, (Qjc p1)), (2, I p2), (7, (Qie x11)), (8, I x11.2.1), (9, I x11.2.2), (10, I 2)] [] [] hφ0 (pc (.rn (.plain _ (nld Qab _))) (pc (.rn (.plain _ (nld Qaa _))) (pc rwl (pc (.rn (.plain _ (nld Qc2 _))) (pc rwl (pc rwl (pc rwl pn))))))) qn)⟩
     ·replace h := Qav hb47 h
      obtain ⟨x49, hf48, h⟩ := bno h
      refine wx tbk [(2, rp [fu 26, (.tmp 32, (Qif p0)), (.tmp 33, (Qjc p1))] (B x46)), (4, rp [(.tmp 35, (B ((!x46))))] (B false)), (6, rp [(.tmp 36, B false), fu 27, (.tmp 37, I p2), ci 0, ci 100000000000] (B x49))] ⟨apc (first := []) (cap := []) (vs := [(Qif p0), (Qjc p1)]) rfl Qwd (Qja N p0 p1 _ hf45) rfl rfl (nlc (nld Qab _) (nlc (nld Qaa _) nl0)) nll rfl, asb hb47 (amv rfl), ag_ (apc (first := []) (cap := []) (vs := [I p2, I 0, I 100000000000]) rfl Qet (Qb2 N p2 0 100000000000 _ hf48) rfl rfl (nlc nll (nlc nll (nlc nll nl0))) nll rfl), trivial⟩ ?_
      rcases bft ((!x49)) with hc50 | hc50
      ·replace h := Qau hc50 h
       refine wft hc50 (by kernel_rfl) ?_
       refine wx1 tbk [] trivial ?_
       refine thn ?_
       exact ⟨(2), h, (mto (n := 95) [(0, (Qif p0)), (1, (Qjc p1)), (2, I p2), (7, (Qie x11)), (8, I x11.2.1), (9, I x11.2.2), (10, I 2)] [] [] hφ0 (pc (.rn (.plain _ (nld Qab _))) (pc (.rn (.plain _ (nld Qaa _))) (pc rwl (pc (.rn (.plain _ (nld Qc2 _))) (pc rwl (pc rwl (pc rwl pn))))))) qn)⟩
      ·replace h := Qav hc50 h
       refine wfn hc50 (by kernel_rfl) ?_
       refine Qag ?_
       refine thn ?_
       exact ⟨(0), h, (mto (n := 95) [(0, (Qif p0)), (1, (Qjc p1)), (2, I p2), (7, (Qie x11)), (8, I x11.2.1), (9, I x11.2.2), (10, I 0)] [] [] hφ0 (pc (.rn (.plain _ (nld Qab _))) (pc (.rn (.plain _ (nld Qaa _))) (pc rwl (pc (.rn (.plain _ (nld Qc2 _))) (pc rwl (pc rwl (pc rwl pn))))))) qn)⟩
end Go.Proofs.Ytgdepcgbjjgnfaa
