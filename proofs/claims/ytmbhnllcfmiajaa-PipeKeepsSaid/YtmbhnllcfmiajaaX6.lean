/-
  Functions of the program: what they compute, as plain functions, and that they do. No conditions.
-/
import Derived.Test.YtmbhnllcfmiajaaX5
namespace Go.Proofs.Ytmbhnllcfmiajaa
set_option maxRecDepth 100000
set_option maxHeartbeats 4000000
open Go.RowKit
def Qd8 (N : Nat) (p0 : (List GRow)) (k2 : (List GRow) → Option (List GRow)) : Nat → (List GRow) → Int → Option (List GRow)
  | 0, _, _ => none
  | n7 + 1, y3, y4 =>
    bif (decide (y4 < (p0.length : Int))) then
     (getI p0 y4).bind fun x9 =>
     chk (decide ((y3.length + ([x9]).length) * 40 ≤ 140737488355328)) <|
     Qd8 N p0 k2 n7 (y3 ++ ([x9])) (w64 (y4 + 1))
    else
     k2 (y3)
def Qio (N : Nat) (p0 : (List GRow)) : Option (List GRow) :=
  Qcc (fun y1 =>
    some y1) fun k2 : (List GRow) → Option (List GRow) =>
  Qd8 N p0 k2 N ([]) 0
def Qrg (p0 : (List GRow)) : AV := .dat 5 ((p0 : List GRow).map Qa8)
def Q22 (y3 : (List GRow)) : AV := .acc 0 107 5 ((y3 : List GRow).map Qa8)
def Q21 (x9 : GRow) : AV := .agg [(I (x9.T)), (I (x9.P)), (I (x9.Liquid)), (I (x9.Vapour)), (I (x9.Silica))]
theorem Qqh (N : Nat) (p0 : (List GRow)) (r : (List GRow)) (h : Qio N p0 = some r) : Spec Try.prog 23 [(.dat 5 (p0.map Qa8))] [] (.dat 5 (r.map Qa8)) [] := by
  refine Qah Try.func23 rfl 0 (nle rfl) (fun X φ0 w0 hφ0 hd0 => ?_)
  unfold Qio at h
  refine wx tbk [] trivial ?_
  refine wx tbk [] trivial ?_
  obtain ⟨k2, hk_k2, h⟩ := jko h
  refine wjn (τ := (List GRow)) (fun t => k2 t = some r) (fun y1 => ⟨mk 41 [(3, (.acc 0 107 5 ((y1 : List GRow).map Qa8)))], [.tok]⟩) (fun y1 h => ?_) ?_
  ·subst hk_k2
   refine wx tbk [] trivial ?_
   refine Qag ?_
   obtain rfl := osi h
   exact fend ⟨[(.dat 5 ((y1 : List GRow).map Qa8))], ⟨Qfw (v := (.acc 0 107 5 ((y1 : List GRow).map Qa8))) (rot (by kernel_rfl)) Less.acc, trivial⟩, rfl⟩ (nld Qai _)
  ·skip
   refine wx tbk [] trivial ?_
   refine Qao ?_
   refine wmr (Mor.trans (Qtd 0 107 5 3 (by kernel_rfl) (by kernel_rfl)) (mto (n := 41) (l' := [(0, (Qrg p0)), (3, (.acc 0 107 5 ((([]) : List GRow).map Qa8))), (4, I 0)]) (own' := [.tok]) [(0, (Qrg p0)), (3, (.acc 0 107 5 (([] : List GRow).map Qa8))), (4, I 0)] [0] [.tok] hφ0 (pc (.rn (.plain _ (nld Qai _))) (pc (.rn (Qc2 rfl (Qci Qai _))) (pc rwl pn))) (qc .tok qn))) ?_
   refine Qc0 (τ := (List GRow) × Int) (fun n t => Qd8 N p0 k2 n t.1 t.2 = some r) (fun ⟨y3, y4⟩ => ⟨mk 41 [(0, (Qrg p0)), (3, (Q22 y3)), (4, I y4)], [.tok]⟩) (fun t h => by rw [Qd8] at h; cases h) (fun n7 ih t h => ?_) N ([], 0) h
   obtain ⟨y3, y4⟩ := t
   rw [Qd8] at h
   skip
   refine wsq ?_
   refine wx tbk [(2, rp [(.tmp 6, (Qrg p0))] (I ((p0.length : Int))))] ⟨alm (c := Qa8) (l := p0) (aln rfl Try.underlying23 rfl), trivial⟩ ?_
   rcases bft ((decide (y4 < (p0.length : Int)))) with hc8 | hc8
   ·replace h := Qa6 hc8 h
    refine wft hc8 (by kernel_rfl) ?_
    refine Qas ?_
    refine thn ?_
    refine wsq ?_
    refine Qao ?_
    obtain ⟨x9, hg10, h⟩ := bno h
    obtain ⟨hi11, hj12⟩ := gsm hg10
    obtain ⟨ha13, h⟩ := cko h
    refine wy1 tbk [(3, rp [(.tmp 12, (Qrg p0)), (.tmp 13, I y4)] (.dptr (Qa8 (x9)) 0)), (8, rp [(.tmp 17, (Qrg p0)), (.tmp 18, I y4)] (.dptr (Qa8 (x9)) 0)), (13, rp [(.tmp 22, (Qrg p0)), (.tmp 23, I y4)] (.dptr (Qa8 (x9)) 0)), (18, rp [(.tmp 27, (Qrg p0)), (.tmp 28, I y4)] (.dptr (Qa8 (x9)) 0)), (23, rp [(.tmp 32, (Qrg p0)), (.tmp 33, I y4)] (.dptr (Qa8 (x9)) 0)), (26, rp [(.tmp 16, I x9.T), (.tmp 21, I x9.P), (.tmp 26, I x9.Liquid), (.tmp 31, I x9.Vapour), (.tmp 36, I x9.Silica)] (Q21 x9)), (27, rp [(.tmp 37, (Q21 x9))] (.dat 5 (([x9] : List GRow).map Qa8))), (28, ⟨[(.tmp 11, (Q22 y3)), (.tmp 38, (.dat 5 (([x9] : List GRow).map Qa8)))], [(0, .tok), (1, .unused)], (.acc 1 107 5 ((y3 ++ ([x9]) : List GRow).map Qa8)), [(0, .dead), (1, .tok)], false⟩)] ⟨aid rfl Try.underlying23 Q1p rfl rfl hi11 (mgt Qa8 hj12) rfl, aid rfl Try.underlying23 Q1p rfl rfl hi11 (mgt Qa8 hj12) rfl, aid rfl Try.underlying23 Q1p rfl rfl hi11 (mgt Qa8 hj12) rfl, aid rfl Try.underlying23 Q1p rfl rfl hi11 (mgt Qa8 hj12) rfl, aid rfl Try.underlying23 Q1p rfl rfl hi11 (mgt Qa8 hj12) rfl, Qar (vs := [I x9.T, I x9.P, I x9.Liquid, I x9.Vapour, I x9.Silica]) rfl Q8b Qw8 rfl (by rfl) rfl, Qb6 (vs := [(Q21 x9)]) rfl Try.underlying39 Qri Qw8 rfl (by decide) rfl (by decide) (by rfl) (by rfl) (by rfl) rfl, Qgn rfl Try.underlying39 Zha (Base.acc _ _) rfl rfl (by rfl) (Qjq Qa8 ha13) (Qjp Qa8 ha13 (by decide)) (Qjo Qa8) rfl rfl, trivial⟩ ?_
    refine bln ?_
    refine thn ?_
    refine wx1 tbk [] trivial ?_
    refine thn ?_
    exact arm (mto (n := 41) [(0, (Qrg p0)), (3, (.acc 1 107 5 ((y3 ++ ([x9]) : List GRow).map Qa8))), (4, (I (w64 (y4 + 1))))] [1] [.tok] hφ0 (pc (.rn (.plain _ (nld Qai _))) (pc (.rn (Qc2 rfl (Qci Qai _))) (pc rwl pn))) (qc .tok qn)) (ih (y3 ++ ([x9]), w64 (y4 + 1)) h)
   ·replace h := Qa7 hc8 h
    refine wfn hc8 (by kernel_rfl) ?_
    refine Qb4 ?_
    refine Qa5 ?_
    refine Qa5 ?_
    refine Qb3 rfl ?_
    refine thn ?_
    exact ⟨(y3), h, (mto (n := 41) [(3, (Q22 y3))] [0] [.tok] hφ0 (pc (.rn (Qc2 rfl (Qci Qai _))) pn) (qc .tok qn))⟩
def Qeu (N : Nat) (x13 : GElement) (k21 : (List GElement) × (List GPort) × (List Int) → Option GNet) : Nat → Int → (List GElement) → (List GPort) → (List Int) → Option GNet
  | 0, _, _, _, _ => none
  | n31 + 1, y23, y24, y25, y26 =>
    bif (decide (y23 < (x13.From.length : Int))) then
     (getI x13.From y23).bind fun x33 =>
     chk (decide ((y25.length + ([x33]).length) * 16 ≤ 140737488355328)) <|
     Qeu N x13 k21 n31 (w64 (y23 + 1)) y24 (y25 ++ ([x33])) y26
    else
     k21 (y24, y25, y26)
def Qev (N : Nat) (p0 : GNet) (k4 : (List GElement) → Option GNet) : Nat → Int → (List GElement) → Option GNet
  | 0, _, _ => none
  | n9 + 1, y5, y6 =>
    bif (decide (y5 < (p0.Elements.length : Int))) then
     Qcc (fun y11 =>
       Qev N p0 k4 n9 (w64 (y5 + 1)) y11) fun k12 : (List GElement) → Option GNet =>
     (getI p0.Elements y5).bind fun x13 =>
     chk (decide ((([] : List Int).length + x13.Weights.length) * 8 ≤ 140737488355328)) <|
     Qcc (fun ⟨y18, y19, y20⟩ =>
       chk (decide ((y18.length + ([(⟨x13.Kind, y19, x13.Level, x13.Amount, x13.Wide, x13.Narrow, y20⟩ : GElement)]).length) * 88 ≤ 140737488355328)) <|
       k12 (y18 ++ ([(⟨x13.Kind, y19, x13.Level, x13.Amount, x13.Wide, x13.Narrow, y20⟩ : GElement)]))) fun k21 : (List GElement) × (List GPort) × (List Int) → Option GNet =>
     Qeu N x13 k21 N 0 y6 ([]) (([] : List Int) ++ x13.Weights)
    else
     k4 (y6)
def Qh0 (N : Nat) (p0 : GNet) : Option GNet :=
  (Qio N p0.Table).bind fun x2 =>
  Qcc (fun y3 =>
    some (⟨x2, y3⟩ : GNet)) fun k4 : (List GElement) → Option GNet =>
  Qev N p0 k4 N 0 ([])
def Zav (p0 : GNet) : AV := .dat 5 ((p0.Table : List GRow).map Qa8)
def Qjr (x2 : (List GRow)) : AV := .dat 5 ((x2 : List GRow).map Qa8)
def Qwc (y3 : (List GElement)) : AV := .acc 2 76 7 ((y3 : List GElement).map Qad)
def Zau (p0 : GNet) : AV := .dat 7 ((p0.Elements : List GElement).map Qad)
def Qo4 (p0 : GNet) : Slot := .own 2 [[(Zav p0), (Zau p0)]]
def Qwd (y6 : (List GElement)) : AV := .acc 3 76 7 ((y6 : List GElement).map Qad)
def Q20 : AV := .acc 5 3 1 ((([] : List Int) : List Int).map Qam)
def Q2y (x13 : GElement) : AV := .dat 1 ((x13.Weights : List Int).map Qam)
def Qnx (x13 : GElement) : AV := .acc 6 3 1 ((([] : List Int) ++ x13.Weights : List Int).map Qam)
def Q2z (y20 : (List Int)) : AV := .acc 6 3 1 ((y20 : List Int).map Qam)
def Q2w (x13 : GElement) (y19 : (List GPort)) (y20 : (List Int)) : AV := .dat 7 (([(⟨x13.Kind, y19, x13.Level, x13.Amount, x13.Wide, x13.Narrow, y20⟩ : GElement)] : List GElement).map Qad)
def Q2x (x13 : GElement) (y19 : (List GPort)) (y20 : (List Int)) : AV := .agg [(K .u8 (x13.Kind)), (.dat 2 ((y19 : List GPort).map Qav)), (I (x13.Level)), (I (x13.Amount)), (I (x13.Wide)), (I (x13.Narrow)), (.dat 1 ((y20 : List Int).map Qam))]
def Qss (x13 : GElement) : AV := .dat 2 ((x13.From : List GPort).map Qav)
def Qsr (x13 : GElement) : Slot := .own 7 [[(K .u8 (x13.Kind)), (Qss x13), (I (x13.Level)), (I (x13.Amount)), (I (x13.Wide)), (I (x13.Narrow)), (Q2y x13)]]
def Zas : AV := .acc 6 57 2 ((([]) : List GPort).map Qav)
def Zat : AV := .acc 8 57 2 (([] : List GPort).map Qav)
def Qwb (y24 : (List GElement)) : AV := .acc 5 76 7 ((y24 : List GElement).map Qad)
def Q2v (y26 : (List Int)) : AV := .acc 7 3 1 ((y26 : List Int).map Qam)
def Q2u (x13 : GElement) (y25 : (List GPort)) (y26 : (List Int)) : Slot := .own 7 [[(K .u8 (x13.Kind)), (.acc 6 57 2 ((y25 : List GPort).map Qav)), (I (x13.Level)), (I (x13.Amount)), (I (x13.Wide)), (I (x13.Narrow)), (Q2v y26)]]
def Qwa (x33 : GPort) : AV := .agg [(I (x33.Element)), (I (x33.Outlet))]
theorem Qk1 (N : Nat) (p0 : GNet) (r : GNet) (h : Qh0 N p0 = some r) : Spec Try.prog 9 [(.agg (Qj0 p0))] [] (.agg (Qj0 r)) [] := by
  refine Qah Try.func9 rfl 0 (nle rfl) (fun X φ0 w0 hφ0 hd0 => ?_)
  unfold Qh0 at h
  refine wx tbk [] trivial ?_
  obtain ⟨x2, hf1, h⟩ := bno h
  refine wx tbk [(2, rp [fu 23, (.tmp 9, (Zav p0))] (Qjr x2)), (3, rp [(.tmp 10, (Qjr x2))] (.agg [(Qjr x2), nilS]))] ⟨apc (first := []) (cap := []) (vs := [(Zav p0)]) rfl Zeu (Qqh N p0.Table _ hf1) rfl rfl (nlc (nld Qai _) nl0) (nld Qai _) rfl, Qar (vs := [(Qjr x2)]) rfl ts42 tz42 rfl (by rfl) rfl, trivial⟩ ?_
  obtain ⟨k4, hk_k4, h⟩ := jko h
  refine wjn (τ := (List GElement)) (fun t => k4 t = some r) (fun y3 => ⟨mk 71 [(2, .ref 0 2 0 0), (3, .ref 1 2 0 0)], [(.own 2 [[nilS, nilS]]), (.own 2 [[(Qjr x2), (Qwc y3)]]), .tok]⟩) (fun y3 h => ?_) ?_
  ·subst hk_k4
   refine wx tbk [] trivial ?_
   refine Qag ?_
   obtain rfl := osi h
   exact fend ⟨[(.agg [(Qjr x2), (.dat 7 ((y3 : List GElement).map Qad))])], ⟨Qfw (v := (.agg [(Qjr x2), (Qwc y3)])) (Qbo (n := 0) (m := 2) (j := 0) (i := 0) (xs := [[(Qjr x2), (Qwc y3)]]) (by kernel_rfl) (by kernel_rfl) ti42 (by decide) rfl (nle rfl) rfl) (Less.agg ⟨lrf, Less.acc, trivial⟩), trivial⟩, rfl⟩ (NLt.agg _ (nlc (nld Qai _) (nlc (nld Qaa _) nl0)))
  ·skip
   refine wx tbk [] trivial ?_
   refine Qao ?_
   refine wmr (Mor.trans (Qnh (n := 3) (ty := 76) (m := 7) (q := 2) (mq := 2) (c := [(Qjr x2), nilS]) 1 (by kernel_rfl) (by kernel_rfl) (by kernel_rfl) (by decide)) (mto (n := 71) (l' := [(1, .ref 0 2 0 0), (2, .ref 1 2 0 0), (3, .ref 2 2 0 0), (4, I 0)]) (own' := [(Qo4 p0), (.own 2 [[nilS, nilS]]), (.own 2 [[(Qjr x2), (.acc 3 76 7 ((([]) : List GElement).map Qad))]]), .tok]) [(1, .ref 0 2 0 0), (2, .ref 1 2 0 0), (3, .ref 2 2 0 0), (4, I 0)] [0, 1, 2, 3] [(Qo4 p0), (.own 2 [[nilS, nilS]]), (.own 2 [[(Qjr x2), (.acc 3 76 7 (([] : List GElement).map Qad))]]), .tok] hφ0 (pc (.rn (rqr rfl)) (pc (.rn (rqr rfl)) (pc (.rn (rqr rfl)) (pc rwl pn)))) (qc (spb (lc (.rn (.plain _ (nld Qai _))) (lc (.rn (.plain _ (nld Qaa _))) ln))) (qc (spb (lc rwl (lc rwl ln))) (qc (spb (lc (.rn (.plain _ (nld Qai _))) (lc (.rn (Qc2 rfl (Qci Qaa _))) ln))) (qc .tok qn)))))) ?_
   refine Qc0 (τ := Int × (List GElement)) (fun n t => Qev N p0 k4 n t.1 t.2 = some r) (fun ⟨y5, y6⟩ => ⟨mk 71 [(1, .ref 0 2 0 0), (2, .ref 1 2 0 0), (3, .ref 2 2 0 0), (4, I y5)], [(Qo4 p0), (.own 2 [[nilS, nilS]]), (.own 2 [[(Qjr x2), (Qwd y6)]]), .tok]⟩) (fun t h => by rw [Qev] at h; cases h) (fun n9 ih t h => ?_) N (0, []) h
   obtain ⟨y5, y6⟩ := t
   rw [Qev] at h
   skip
   refine wsq ?_
   refine wx tbk [(3, rp [(.tmp 14, (Zau p0))] (I ((p0.Elements.length : Int))))] ⟨alm (c := Qad) (l := p0.Elements) (aln rfl Try.underlying24 rfl), trivial⟩ ?_
   rcases bft ((decide (y5 < (p0.Elements.length : Int)))) with hc10 | hc10
   ·replace h := Qa6 hc10 h
    refine wft hc10 (by kernel_rfl) ?_
    refine Qas ?_
    refine thn ?_
    obtain ⟨k12, hk_k12, h⟩ := jko h
    refine wjn (τ := (List GElement)) (fun t => k12 t = some r) (fun y11 => ⟨mk 71 [(1, .ref 0 2 0 0), (2, .ref 1 2 0 0), (3, .ref 2 2 0 0), (4, I y5)], [(Qo4 p0), (.own 2 [[nilS, nilS]]), (.own 2 [[(Qjr x2), (.acc 3 76 7 ((y11 : List GElement).map Qad))]]), .tok]⟩) (fun y11 h => ?_) ?_
    ·subst hk_k12
     refine wx1 tbk [] trivial ?_
     refine thn ?_
     exact arm (mto (n := 71) [(1, .ref 0 2 0 0), (2, .ref 1 2 0 0), (3, .ref 2 2 0 0), (4, (I (w64 (y5 + 1))))] [0, 1, 2, 3] [(Qo4 p0), (.own 2 [[nilS, nilS]]), (.own 2 [[(Qjr x2), (.acc 3 76 7 ((y11 : List GElement).map Qad))]]), .tok] hφ0 (pc (.rn (rqr rfl)) (pc (.rn (rqr rfl)) (pc (.rn (rqr rfl)) (pc rwl pn)))) (qc (spb (lc (.rn (.plain _ (nld Qai _))) (lc (.rn (.plain _ (nld Qaa _))) ln))) (qc (spb (lc rwl (lc rwl ln))) (qc (spb (lc (.rn (.plain _ (nld Qai _))) (lc (.rn (Qc2 rfl (Qci Qaa _))) ln))) (qc .tok qn))))) (ih (w64 (y5 + 1), y11) h)
    ·skip
     refine Qao ?_
     obtain ⟨x13, hg14, h⟩ := bno h
     obtain ⟨hi15, hj16⟩ := gsm hg14
     refine wx tbk [(3, rp [(.tmp 20, (Zau p0)), (.tmp 21, I y5)] (.dptr (Qad (x13)) 0))] ⟨aid rfl Try.underlying24 ti70 rfl rfl hi15 (mgt Qad hj16) rfl, trivial⟩ ?_
     obtain ⟨ha17, h⟩ := cko h
     refine wxd tbk [(10, ⟨[], [(5, .unused)], Q20, [(5, .tok)], false⟩), (13, ⟨[(.tmp 34, Q20), (.tmp 36, (Q2y x13))], [(5, .tok), (6, .unused)], (Qnx x13), [(5, .dead), (6, .tok)], false⟩), (14, rp [(.tmp 25, (K .u8 (x13.Kind))), (.tmp 27, I x13.Level), (.tmp 29, I x13.Amount), (.tmp 31, I x13.Wide), (.tmp 33, I x13.Narrow), (.tmp 37, (Qnx x13))] (.agg [(K .u8 (x13.Kind)), nilS, I x13.Level, I x13.Amount, I x13.Wide, I x13.Narrow, (Qnx x13)]))] ⟨Qk3 rfl Try.underlying27 ti3 tz3, Qgn rfl Try.underlying27 te3 (Base.acc _ _) rfl rfl (Qtb Qam Qxk _) (Qjq Qam ha17) (Qjp Qam ha17 (by decide)) (Qjo Qam) rfl rfl, Qar (vs := [(K .u8 (x13.Kind)), I x13.Level, I x13.Amount, I x13.Wide, I x13.Narrow, (Qnx x13)]) rfl ts76 tz76 rfl (by rfl) rfl, trivial⟩ ?_
     obtain ⟨k21, hk_k21, h⟩ := jko h
     refine wjn (τ := (List GElement) × (List GPort) × (List Int)) (fun t => k21 t = some r) (fun ⟨y18, y19, y20⟩ => ⟨mk 71 [(1, .ref 0 2 0 0), (2, .ref 1 2 0 0), (3, .ref 2 2 0 0), (4, I y5), (6, .ref 3 7 0 0)], [(Qo4 p0), (.own 2 [[nilS, nilS]]), (.own 2 [[(Qjr x2), (.acc 4 76 7 ((y18 : List GElement).map Qad))]]), (.own 7 [[(K .u8 (x13.Kind)), (.acc 5 57 2 ((y19 : List GPort).map Qav)), I x13.Level, I x13.Amount, I x13.Wide, I x13.Narrow, (Q2z y20)]]), .tok, .tok, .tok]⟩) (fun t h => ?_) ?_
     ·subst hk_k21
      obtain ⟨y18, y19, y20⟩ := t
      obtain ⟨ha22, h⟩ := cko h
      refine wx1 tbk [(3, rp [(.tmp 66, (.agg [(K .u8 (x13.Kind)), (.acc 5 57 2 ((y19 : List GPort).map Qav)), I x13.Level, I x13.Amount, I x13.Wide, I x13.Narrow, (Q2z y20)]))] (Q2w x13 y19 y20)), (4, ⟨[(.tmp 65, (.acc 4 76 7 ((y18 : List GElement).map Qad))), (.tmp 67, (Q2w x13 y19 y20))], [(4, .tok), (7, .unused)], (.acc 7 76 7 ((y18 ++ ([(⟨x13.Kind, y19, x13.Level, x13.Amount, x13.Wide, x13.Narrow, y20⟩ : GElement)]) : List GElement).map Qad)), [(4, .dead), (7, .tok)], false⟩)] ⟨awk (rd' := [(.tmp 66, (Q2x x13 y19 y20))]) ⟨rfl, (Less.agg ⟨lrf, Less.acc, lrf, lrf, lrf, lrf, Less.acc, trivial⟩), trivial⟩ (Qb6 (vs := [(Q2x x13 y19 y20)]) rfl Try.underlying40 ti76 tz76 rfl (by decide) rfl (by decide) (by rfl) (by rfl) (by rfl) rfl), Qgn rfl Try.underlying40 te76 (Base.acc _ _) rfl rfl (by rfl) (Qjq Qad ha22) (Qjp Qad ha22 (by decide)) (Qjo Qad) rfl rfl, trivial⟩ ?_
      refine bln ?_
      refine thn ?_
      exact ⟨(y18 ++ ([(⟨x13.Kind, y19, x13.Level, x13.Amount, x13.Wide, x13.Narrow, y20⟩ : GElement)])), h, (mto (n := 71) [(1, .ref 0 2 0 0), (2, .ref 1 2 0 0), (3, .ref 2 2 0 0), (4, I y5)] [0, 1, 2, 7] [(Qo4 p0), (.own 2 [[nilS, nilS]]), (.own 2 [[(Qjr x2), (.acc 7 76 7 ((y18 ++ ([(⟨x13.Kind, y19, x13.Level, x13.Amount, x13.Wide, x13.Narrow, y20⟩ : GElement)]) : List GElement).map Qad))]]), .tok] hφ0 (pc (.rn (rqr rfl)) (pc (.rn (rqr rfl)) (pc (.rn (rqr rfl)) (pc rwl pn)))) (qc (spb (lc (.rn (.plain _ (nld Qai _))) (lc (.rn (.plain _ (nld Qaa _))) ln))) (qc (spb (lc rwl (lc rwl ln))) (qc (spb (lc (.rn (.plain _ (nld Qai _))) (lc (.rn (Qc2 rfl (Qci Qaa _))) ln))) (qc .tok qn)))))⟩
     ·skip
      refine wx tbk [] trivial ?_
      refine Qao ?_
      refine wmr (Mor.trans (Qnh (n := 8) (ty := 57) (m := 2) (q := 7) (mq := 7) (c := [(K .u8 (x13.Kind)), nilS, I x13.Level, I x13.Amount, I x13.Wide, I x13.Narrow, (Qnx x13)]) 1 (by kernel_rfl) (by kernel_rfl) (by kernel_rfl) (by decide)) (mto (n := 71) (l' := [(1, .ref 0 2 0 0), (2, .ref 1 2 0 0), (3, .ref 2 2 0 0), (4, I y5), (5, .ref 3 7 0 0), (6, .ref 4 7 0 0), (7, I 0)]) (own' := [(Qo4 p0), (.own 2 [[nilS, nilS]]), (.own 2 [[(Qjr x2), (.acc 5 76 7 ((y6 : List GElement).map Qad))]]), (Qsr x13), (.own 7 [[(K .u8 (x13.Kind)), Zas, I x13.Level, I x13.Amount, I x13.Wide, I x13.Narrow, (.acc 7 3 1 (((([] : List Int) ++ x13.Weights) : List Int).map Qam))]]), .tok, .tok, .tok]) [(1, .ref 0 2 0 0), (2, .ref 1 2 0 0), (3, .ref 2 2 0 0), (4, I y5), (5, .ref 4 7 0 0), (6, .ref 7 7 0 0), (7, I 0)] [0, 1, 2, 4, 7, 3, 8, 6] [(Qo4 p0), (.own 2 [[nilS, nilS]]), (.own 2 [[(Qjr x2), (Qwd y6)]]), (Qsr x13), (.own 7 [[(K .u8 (x13.Kind)), Zat, I x13.Level, I x13.Amount, I x13.Wide, I x13.Narrow, (Qnx x13)]]), .tok, .tok, .tok] hφ0 (pc (.rn (rqr rfl)) (pc (.rn (rqr rfl)) (pc (.rn (rqr rfl)) (pc rwl (pc (.rn (rqr rfl)) (pc (.rn (rqr rfl)) (pc rwl pn))))))) (qc (spb (lc (.rn (.plain _ (nld Qai _))) (lc (.rn (.plain _ (nld Qaa _))) ln))) (qc (spb (lc rwl (lc rwl ln))) (qc (spb (lc (.rn (.plain _ (nld Qai _))) (lc (.rn (Qc2 rfl (Qci Qaa _))) ln))) (qc (spb (lc rwl (lc (.rn (.plain _ (nld Qbq _))) (lc rwl (lc rwl (lc rwl (lc rwl (lc (.rn (.plain _ (nld Qaf _))) ln)))))))) (qc (spb (lc rwl (lc (.rn (Qc2 rfl (Qci Qbq _))) (lc rwl (lc rwl (lc rwl (lc rwl (lc (.rn (Qc2 rfl (Qci Qaf _))) ln)))))))) (qc .tok (qc .tok (qc .tok qn)))))))))) ?_
      refine Qc0 (τ := Int × (List GElement) × (List GPort) × (List Int)) (fun n t => Qeu N x13 k21 n t.1 t.2.1 t.2.2.1 t.2.2.2 = some r) (fun ⟨y23, y24, y25, y26⟩ => ⟨mk 71 [(1, .ref 0 2 0 0), (2, .ref 1 2 0 0), (3, .ref 2 2 0 0), (4, I y5), (5, .ref 3 7 0 0), (6, .ref 4 7 0 0), (7, I y23)], [(Qo4 p0), (.own 2 [[nilS, nilS]]), (.own 2 [[(Qjr x2), (Qwb y24)]]), (Qsr x13), (Q2u x13 y25 y26), .tok, .tok, .tok]⟩) (fun t h => by rw [Qeu] at h; cases h) (fun n31 ih t h => ?_) N (0, y6, [], ([] : List Int) ++ x13.Weights) h
      obtain ⟨y23, y24, y25, y26⟩ := t
      rw [Qeu] at h
      skip
      refine wsq ?_
      refine wx tbk [(3, rp [(.tmp 41, (Qss x13))] (I ((x13.From.length : Int))))] ⟨alm (c := Qav) (l := x13.From) (aln rfl Try.underlying64 rfl), trivial⟩ ?_
      rcases bft ((decide (y23 < (x13.From.length : Int)))) with hc32 | hc32
      ·replace h := Qa6 hc32 h
       refine wft hc32 (by kernel_rfl) ?_
       refine Qas ?_
       refine thn ?_
       refine wsq ?_
       refine Qao ?_
       obtain ⟨x33, hg34, h⟩ := bno h
       obtain ⟨hi35, hj36⟩ := gsm hg34
       obtain ⟨ha37, h⟩ := cko h
       refine wy1 tbk [(5, rp [(.tmp 49, (Qss x13)), (.tmp 50, I y23)] (.dptr (Qav (x33)) 0)), (11, rp [(.tmp 55, (Qss x13)), (.tmp 56, I y23)] (.dptr (Qav (x33)) 0)), (14, rp [(.tmp 53, I x33.Element), (.tmp 59, I x33.Outlet)] (Qwa x33)), (15, rp [(.tmp 60, (Qwa x33))] (.dat 2 (([x33] : List GPort).map Qav))), (16, ⟨[(.tmp 47, (.acc 6 57 2 ((y25 : List GPort).map Qav))), (.tmp 61, (.dat 2 (([x33] : List GPort).map Qav)))], [(6, .tok), (8, .unused)], (.acc 8 57 2 ((y25 ++ ([x33]) : List GPort).map Qav)), [(6, .dead), (8, .tok)], false⟩)] ⟨aid rfl Try.underlying64 ti66 rfl rfl hi35 (mgt Qav hj36) rfl, aid rfl Try.underlying64 ti66 rfl rfl hi35 (mgt Qav hj36) rfl, Qar (vs := [I x33.Element, I x33.Outlet]) rfl ts57 tz57 rfl (by rfl) rfl, Qb6 (vs := [(Qwa x33)]) rfl Try.underlying53 ti57 tz57 rfl (by decide) rfl (by decide) (by rfl) (by rfl) (by rfl) rfl, Qgn rfl Try.underlying53 te57 (Base.acc _ _) rfl rfl (by rfl) (Qjq Qav ha37) (Qjp Qav ha37 (by decide)) (Qjo Qav) rfl rfl, trivial⟩ ?_
       refine bln ?_
       refine thn ?_
       refine wx1 tbk [] trivial ?_
       refine thn ?_
       exact arm (mto (n := 71) [(1, .ref 0 2 0 0), (2, .ref 1 2 0 0), (3, .ref 2 2 0 0), (4, I y5), (5, .ref 3 7 0 0), (6, .ref 4 7 0 0), (7, (I (w64 (y23 + 1))))] [0, 1, 2, 3, 4, 5, 8, 7] [(Qo4 p0), (.own 2 [[nilS, nilS]]), (.own 2 [[(Qjr x2), (Qwb y24)]]), (Qsr x13), (.own 7 [[(K .u8 (x13.Kind)), (.acc 8 57 2 ((y25 ++ ([x33]) : List GPort).map Qav)), I x13.Level, I x13.Amount, I x13.Wide, I x13.Narrow, (Q2v y26)]]), .tok, .tok, .tok] hφ0 (pc (.rn (rqr rfl)) (pc (.rn (rqr rfl)) (pc (.rn (rqr rfl)) (pc rwl (pc (.rn (rqr rfl)) (pc (.rn (rqr rfl)) (pc rwl pn))))))) (qc (spb (lc (.rn (.plain _ (nld Qai _))) (lc (.rn (.plain _ (nld Qaa _))) ln))) (qc (spb (lc rwl (lc rwl ln))) (qc (spb (lc (.rn (.plain _ (nld Qai _))) (lc (.rn (Qc2 rfl (Qci Qaa _))) ln))) (qc (spb (lc rwl (lc (.rn (.plain _ (nld Qbq _))) (lc rwl (lc rwl (lc rwl (lc rwl (lc (.rn (.plain _ (nld Qaf _))) ln)))))))) (qc (spb (lc rwl (lc (.rn (Qc2 rfl (Qci Qbq _))) (lc rwl (lc rwl (lc rwl (lc rwl (lc (.rn (Qc2 rfl (Qci Qaf _))) ln)))))))) (qc .tok (qc .tok (qc .tok qn))))))))) (ih (w64 (y23 + 1), y24, y25 ++ ([x33]), y26) h)
      ·replace h := Qa7 hc32 h
       refine wfn hc32 (by kernel_rfl) ?_
       refine Qb4 ?_
       refine Qa5 ?_
       refine Qa5 ?_
       refine Qb3 rfl ?_
       refine thn ?_
       exact ⟨(y24, y25, y26), h, (mto (n := 71) [(1, .ref 0 2 0 0), (2, .ref 1 2 0 0), (3, .ref 2 2 0 0), (4, I y5), (6, .ref 4 7 0 0)] [0, 1, 2, 4, 5, 6, 7] [(Qo4 p0), (.own 2 [[nilS, nilS]]), (.own 2 [[(Qjr x2), (Qwb y24)]]), (Q2u x13 y25 y26), .tok, .tok, .tok] hφ0 (pc (.rn (rqr rfl)) (pc (.rn (rqr rfl)) (pc (.rn (rqr rfl)) (pc rwl (pc (.rn (rqr rfl)) pn))))) (qc (spb (lc (.rn (.plain _ (nld Qai _))) (lc (.rn (.plain _ (nld Qaa _))) ln))) (qc (spb (lc rwl (lc rwl ln))) (qc (spb (lc (.rn (.plain _ (nld Qai _))) (lc (.rn (Qc2 rfl (Qci Qaa _))) ln))) (qc (spb (lc rwl (lc (.rn (Qc2 rfl (Qci Qbq _))) (lc rwl (lc rwl (lc rwl (lc rwl (lc (.rn (Qc2 rfl (Qci Qaf _))) ln)))))))) (qc .tok (qc .tok (qc .tok qn))))))))⟩
   ·replace h := Qa7 hc10 h
    refine wfn hc10 (by kernel_rfl) ?_
    refine Qb4 ?_
    refine Qa5 ?_
    refine Qa5 ?_
    refine Qb3 rfl ?_
    refine thn ?_
    exact ⟨(y6), h, (mto (n := 71) [(2, .ref 1 2 0 0), (3, .ref 2 2 0 0)] [1, 2, 3] [(.own 2 [[nilS, nilS]]), (.own 2 [[(Qjr x2), (Qwd y6)]]), .tok] hφ0 (pc (.rn (rqr rfl)) (pc (.rn (rqr rfl)) pn)) (qc (spb (lc rwl (lc rwl ln))) (qc (spb (lc (.rn (.plain _ (nld Qai _))) (lc (.rn (Qc2 rfl (Qci Qaa _))) ln))) (qc .tok qn))))⟩
def Qhz (_N : Nat) (p0 : (List Int)) : Option (List Int) :=
  chk (decide ((([] : List Int).length + p0.length) * 8 ≤ 140737488355328)) <|
  some (([] : List Int) ++ p0)
def Zfc : AV := .acc 0 3 1 ((([] : List Int) : List Int).map Qam)
def Zfb (p0 : (List Int)) : AV := .acc 1 3 1 ((([] : List Int) ++ p0 : List Int).map Qam)
theorem Qma (N : Nat) (p0 : (List Int)) (r : (List Int)) (h : Qhz N p0 = some r) : Spec Try.prog 10 [(.dat 1 (p0.map Qam))] [] (.dat 1 (r.map Qam)) [] := by
  refine Qah Try.func10 rfl 0 (nle rfl) (fun X φ0 w0 hφ0 hd0 => ?_)
  unfold Qhz at h
  refine wx tbk [] trivial ?_
  obtain ⟨ha1, h⟩ := cko h
  refine wx tbk [(0, ⟨[], [(0, .unused)], Zfc, [(0, .tok)], false⟩), (2, ⟨[(.tmp 3, Zfc), (.tmp 4, (.dat 1 ((p0 : List Int).map Qam)))], [(0, .tok), (1, .unused)], (Zfb p0), [(0, .dead), (1, .tok)], false⟩)] ⟨Qk3 rfl Try.underlying27 ti3 tz3, Qgn rfl Try.underlying27 te3 (Base.acc _ _) rfl rfl (Qtb Qam Qxk _) (Qjq Qam ha1) (Qjp Qam ha1 (by decide)) (Qjo Qam) rfl rfl, trivial⟩ ?_
  refine Qag ?_
  obtain rfl := osi h
  exact fend ⟨[(.dat 1 ((([] : List Int) ++ p0 : List Int).map Qam))], ⟨Qfw (v := (Zfb p0)) (rot (by kernel_rfl)) Less.acc, trivial⟩, rfl⟩ (nld Qaf _)
def Qew (N : Nat) (p0 : GNet) (k1 : Unit → Option Bool) : Nat → Int → Option Bool
  | 0, _ => none
  | n6 + 1, y4 =>
    bif (decide (y4 < (p0.Elements.length : Int))) then
     (getI p0.Elements y4).bind fun x8 =>
     bif (decide ((x8.From.length : Int) > 25)) then
      some false
     else
      bif (decide ((x8.Weights.length : Int) > 25)) then
       some false
      else
       Qew N p0 k1 n6 (w64 (y4 + 1))
    else
     k1 ()
def Qi6 (N : Nat) (p0 : GNet) (p1 : (List GStream)) : Option Bool :=
  Qcc (fun _ =>
    bif (decide ((p0.Elements.length : Int) ≤ 18)) then
     bif (decide ((p0.Table.length : Int) ≤ 25)) then
      some (decide ((p1.length : Int) ≤ 25))
     else
      some false
    else
     some false) fun k1 : Unit → Option Bool =>
  Qew N p0 k1 N 0
def Qv9 (p1 : (List GStream)) : AV := .dat 4 ((p1 : List GStream).map Qab)
def Zar (p0 : GNet) : AV := .dat 5 ((p0.Table : List GRow).map Qa8)
def Qtx (p0 : GNet) : AV := .dat 7 ((p0.Elements : List GElement).map Qad)
def Q0q (p0 : GNet) : Slot := .own 2 [[(Zar p0), (Qtx p0)]]
theorem Qnk (N : Nat) (p0 : GNet) (p1 : (List GStream)) (r : Bool) (h : Qi6 N p0 p1 = some r) : Spec Try.prog 6 [(.agg (Qj0 p0)), (.dat 4 (p1.map Qab))] [] (B r) [] := by
  refine Qah Try.func6 rfl 0 (nle rfl) (fun X φ0 w0 hφ0 hd0 => ?_)
  unfold Qi6 at h
  refine wx tbk [] trivial ?_
  obtain ⟨k1, hk_k1, h⟩ := jko h
  refine wjn (τ := Unit) (fun t => k1 t = some r) (fun _ => ⟨mk 46 [(1, (Qv9 p1)), (2, .ref 0 2 0 0)], [(Q0q p0)]⟩) (fun t h => ?_) ?_
  ·subst hk_k1
   rcases bft ((decide ((p0.Elements.length : Int) ≤ 18))) with hb2 | hb2
   ·replace h := Qa6 hb2 h
    rcases bft ((decide ((p0.Table.length : Int) ≤ 25))) with hb3 | hb3
    ·replace h := Qa6 hb3 h
     refine wx tbk [(2, rp [(.tmp 32, (Qtx p0))] (I ((p0.Elements.length : Int)))), (4, rp [(.tmp 34, (B ((decide ((p0.Elements.length : Int) ≤ 18)))))] (B true)), (7, rp [(.tmp 35, B true), (.tmp 37, (Zar p0))] (I ((p0.Table.length : Int)))), (10, rp [(.tmp 40, (B ((decide ((p0.Table.length : Int) ≤ 25)))))] (B true)), (12, rp [(.tmp 41, B true), (.tmp 42, (Qv9 p1))] (I ((p1.length : Int))))] ⟨alm (c := Qad) (l := p0.Elements) (aln rfl Try.underlying24 rfl), asb hb2 (amv rfl), ag_ (alm (c := Qa8) (l := p0.Table) (aln rfl Try.underlying23 rfl)), asb hb3 (amv rfl), ag_ (alm (c := Qab) (l := p1) (aln rfl Try.underlying28 rfl)), trivial⟩ ?_
     refine Qag ?_
     obtain rfl := osi h
     exact fend ⟨[(B ((decide ((p1.length : Int) ≤ 25))))], ⟨rot (by kernel_rfl), trivial⟩, rfl⟩ nll
    ·replace h := Qa7 hb3 h
     refine wx tbk [(2, rp [(.tmp 32, (Qtx p0))] (I ((p0.Elements.length : Int)))), (4, rp [(.tmp 34, (B ((decide ((p0.Elements.length : Int) ≤ 18)))))] (B true)), (7, rp [(.tmp 35, B true), (.tmp 37, (Zar p0))] (I ((p0.Table.length : Int)))), (10, rp [(.tmp 40, (B ((decide ((p0.Table.length : Int) ≤ 25)))))] (B false))] ⟨alm (c := Qad) (l := p0.Elements) (aln rfl Try.underlying24 rfl), asb hb2 (amv rfl), ag_ (alm (c := Qa8) (l := p0.Table) (aln rfl Try.underlying23 rfl)), asb hb3 (amv rfl), trivial⟩ ?_
     refine Qag ?_
     obtain rfl := osi h
     exact fend ⟨[B false], ⟨rot (by kernel_rfl), trivial⟩, rfl⟩ nll
   ·replace h := Qa7 hb2 h
    refine wx tbk [(2, rp [(.tmp 32, (Qtx p0))] (I ((p0.Elements.length : Int)))), (4, rp [(.tmp 34, (B ((decide ((p0.Elements.length : Int) ≤ 18)))))] (B false))] ⟨alm (c := Qad) (l := p0.Elements) (aln rfl Try.underlying24 rfl), asb hb2 (amv rfl), trivial⟩ ?_
    refine Qag ?_
    obtain rfl := osi h
    exact fend ⟨[B false], ⟨rot (by kernel_rfl), trivial⟩, rfl⟩ nll
  ·skip
   refine wx tbk [] trivial ?_
   refine Qao ?_
   refine wmr (mto (n := 46) (l' := [(1, (Qv9 p1)), (2, .ref 0 2 0 0), (5, I 0)]) (own' := [(Q0q p0)]) [(1, (Qv9 p1)), (2, .ref 0 2 0 0), (5, I 0)] [0] [(Q0q p0)] hφ0 (pc (.rn (.plain _ (nld Qac _))) (pc (.rn (rqr rfl)) (pc rwl pn))) (qc (spb (lc (.rn (.plain _ (nld Qai _))) (lc (.rn (.plain _ (nld Qaa _))) ln))) qn)) ?_
   refine Qc0 (τ := Int) (fun n t => Qew N p0 k1 n t = some r) (fun y4 => ⟨mk 46 [(1, (Qv9 p1)), (2, .ref 0 2 0 0), (5, I y4)], [(Q0q p0)]⟩) (fun t h => by rw [Qew] at h; cases h) (fun n6 ih y4 h => ?_) N (0) h
   rw [Qew] at h
   skip
   refine wsq ?_
   refine wx tbk [(3, rp [(.tmp 8, (Qtx p0))] (I ((p0.Elements.length : Int))))] ⟨alm (c := Qad) (l := p0.Elements) (aln rfl Try.underlying24 rfl), trivial⟩ ?_
   rcases bft ((decide (y4 < (p0.Elements.length : Int)))) with hc7 | hc7
   ·replace h := Qa6 hc7 h
    refine wft hc7 (by kernel_rfl) ?_
    refine Qas ?_
    refine thn ?_
    refine wsq ?_
    refine Qao ?_
    obtain ⟨x8, hg9, h⟩ := bno h
    obtain ⟨hi10, hj11⟩ := gsm hg9
    rcases bft ((decide ((x8.From.length : Int) > 25))) with hb12 | hb12
    ·replace h := Qa6 hb12 h
     refine wx tbk [(3, rp [(.tmp 14, (Qtx p0)), (.tmp 15, I y4)] (.dptr (Qad (x8)) 0)), (6, rp [(.tmp 18, (.dat 2 ((x8.From : List GPort).map Qav)))] (I ((x8.From.length : Int)))), (8, rp [(.tmp 20, (B ((decide ((x8.From.length : Int) > 25)))))] (B true))] ⟨aid rfl Try.underlying24 ti70 rfl rfl hi10 (mgt Qad hj11) rfl, alm (c := Qav) (l := x8.From) (aln rfl Try.underlying64 rfl), asb hb12 (amv rfl), trivial⟩ ?_
     refine Qch (by kernel_rfl) ?_
     refine wx tbk [] trivial ?_
     refine Qag ?_
     refine Qax ?_
     refine Qaj ?_
     refine Qaj ?_
     refine Qax ?_
     refine Qaj ?_
     obtain rfl := osi h
     exact fend ⟨[B false], ⟨rot (by kernel_rfl), trivial⟩, rfl⟩ nll
    ·replace h := Qa7 hb12 h
     refine wx tbk [(3, rp [(.tmp 14, (Qtx p0)), (.tmp 15, I y4)] (.dptr (Qad (x8)) 0)), (6, rp [(.tmp 18, (.dat 2 ((x8.From : List GPort).map Qav)))] (I ((x8.From.length : Int)))), (8, rp [(.tmp 20, (B ((decide ((x8.From.length : Int) > 25)))))] (B false)), (12, rp [(.tmp 21, B false), (.tmp 23, (Qtx p0)), (.tmp 24, I y4)] (.dptr (Qad (x8)) 0)), (15, rp [(.tmp 21, B false), (.tmp 27, (.dat 1 ((x8.Weights : List Int).map Qam)))] (I ((x8.Weights.length : Int))))] ⟨aid rfl Try.underlying24 ti70 rfl rfl hi10 (mgt Qad hj11) rfl, alm (c := Qav) (l := x8.From) (aln rfl Try.underlying64 rfl), asb hb12 (amv rfl), ag_ (aid rfl Try.underlying24 ti70 rfl rfl hi10 (mgt Qad hj11) rfl), ag_ (alm (c := Qam) (l := x8.Weights) (aln rfl Try.underlying27 rfl)), trivial⟩ ?_
     rcases bft ((decide ((x8.Weights.length : Int) > 25))) with hc13 | hc13
     ·replace h := Qa6 hc13 h
      refine wft hc13 (by kernel_rfl) ?_
      refine wx tbk [] trivial ?_
      refine Qag ?_
      refine Qax ?_
      refine Qaj ?_
      refine Qaj ?_
      refine Qax ?_
      refine Qaj ?_
      obtain rfl := osi h
      exact fend ⟨[B false], ⟨rot (by kernel_rfl), trivial⟩, rfl⟩ nll
     ·replace h := Qa7 hc13 h
      refine wfn hc13 (by kernel_rfl) ?_
      refine Qas ?_
      refine bln ?_
      refine thn ?_
      refine wx1 tbk [] trivial ?_
      refine thn ?_
      exact arm (mto (n := 46) [(1, (Qv9 p1)), (2, .ref 0 2 0 0), (5, (I (w64 (y4 + 1))))] [0] [(Q0q p0)] hφ0 (pc (.rn (.plain _ (nld Qac _))) (pc (.rn (rqr rfl)) (pc rwl pn))) (qc (spb (lc (.rn (.plain _ (nld Qai _))) (lc (.rn (.plain _ (nld Qaa _))) ln))) qn)) (ih (w64 (y4 + 1)) h)
   ·replace h := Qa7 hc7 h
    refine wfn hc7 (by kernel_rfl) ?_
    refine Qb4 ?_
    refine Qa5 ?_
    refine Qa5 ?_
    refine Qb3 rfl ?_
    refine thn ?_
    exact ⟨(), h, (mto (n := 46) [(1, (Qv9 p1)), (2, .ref 0 2 0 0)] [0] [(Q0q p0)] hφ0 (pc (.rn (.plain _ (nld Qac _))) (pc (.rn (rqr rfl)) pn)) (qc (spb (lc (.rn (.plain _ (nld Qai _))) (lc (.rn (.plain _ (nld Qaa _))) ln))) qn))⟩
def Qi2 (_N : Nat) (p0 : GStream) : Option GStream :=
  some p0
def Zae (p0 : GStream) : AV := .agg [(I (p0.Mass)), (I (p0.Heat)), (I (p0.Silica)), (I (p0.Gas))]
theorem Qpc (N : Nat) (p0 : GStream) (r : GStream) (h : Qi2 N p0 = some r) : Spec Try.prog 24 [(.agg (Qab p0))] [] (.agg (Qab r)) [] := by
  refine Qah Try.func24 rfl 0 (nle rfl) (fun X φ0 w0 hφ0 hd0 => ?_)
  unfold Qi2 at h
  refine wx tbk [] trivial ?_
  refine wx tbk [(8, rp [(.tmp 4, I p0.Mass), (.tmp 6, I p0.Heat), (.tmp 8, I p0.Silica), (.tmp 10, I p0.Gas)] (Zae p0))] ⟨Qar (vs := [I p0.Mass, I p0.Heat, I p0.Silica, I p0.Gas]) rfl ts48 tz48 rfl (by rfl) rfl, trivial⟩ ?_
  refine Qag ?_
  obtain rfl := osi h
  exact fend ⟨[(Zae p0)], ⟨Qbo (n := 1) (m := 4) (j := 0) (i := 0) (xs := [[I p0.Mass, I p0.Heat, I p0.Silica, I p0.Gas]]) (by kernel_rfl) (by kernel_rfl) ti48 (by decide) rfl (nle rfl) rfl, trivial⟩, rfl⟩ (NLt.agg _ (nlc nll (nlc nll (nlc nll (nlc nll nl0)))))
def Qdi (N : Nat) (p0 : (List GStream)) (k2 : (List GStream) → Option (List GStream)) : Nat → (List GStream) → Int → Option (List GStream)
  | 0, _, _ => none
  | n7 + 1, y3, y4 =>
    bif (decide (y4 < (p0.length : Int))) then
     (getI p0 y4).bind fun x9 =>
     (Qi2 N x9).bind fun x14 =>
     chk (decide ((y3.length + ([x14]).length) * 32 ≤ 140737488355328)) <|
     Qdi N p0 k2 n7 (y3 ++ ([x14])) (w64 (y4 + 1))
    else
     k2 (y3)
def Qgb (N : Nat) (p0 : (List GStream)) : Option (List GStream) :=
  Qcc (fun y1 =>
    some y1) fun k2 : (List GStream) → Option (List GStream) =>
  Qdi N p0 k2 N ([]) 0
def Qrw (p0 : (List GStream)) : AV := .dat 4 ((p0 : List GStream).map Qab)
def Qw4 (y3 : (List GStream)) : AV := .acc 0 48 4 ((y3 : List GStream).map Qab)
def Zad (x9 : GStream) : AV := .agg [(I (x9.Mass)), (I (x9.Heat)), (I (x9.Silica)), (I (x9.Gas))]
def Qw3 (x14 : GStream) : AV := .agg [(I (x14.Mass)), (I (x14.Heat)), (I (x14.Silica)), (I (x14.Gas))]
theorem Qkl (N : Nat) (p0 : (List GStream)) (r : (List GStream)) (h : Qgb N p0 = some r) : Spec Try.prog 11 [(.dat 4 (p0.map Qab))] [] (.dat 4 (r.map Qab)) [] := by
  refine Qah Try.func11 rfl 0 (nle rfl) (fun X φ0 w0 hφ0 hd0 => ?_)
  unfold Qgb at h
  refine wx tbk [] trivial ?_
  refine wx tbk [] trivial ?_
  obtain ⟨k2, hk_k2, h⟩ := jko h
  refine wjn (τ := (List GStream)) (fun t => k2 t = some r) (fun y1 => ⟨mk 20 [(3, (.acc 0 48 4 ((y1 : List GStream).map Qab)))], [.tok]⟩) (fun y1 h => ?_) ?_
  ·subst hk_k2
   refine wx tbk [] trivial ?_
   refine Qag ?_
   obtain rfl := osi h
   exact fend ⟨[(.dat 4 ((y1 : List GStream).map Qab))], ⟨Qfw (v := (.acc 0 48 4 ((y1 : List GStream).map Qab))) (rot (by kernel_rfl)) Less.acc, trivial⟩, rfl⟩ (nld Qac _)
  ·skip
   refine wx tbk [] trivial ?_
   refine Qao ?_
   refine wmr (Mor.trans (Qtd 0 48 4 3 (by kernel_rfl) (by kernel_rfl)) (mto (n := 20) (l' := [(0, (Qrw p0)), (3, (.acc 0 48 4 ((([]) : List GStream).map Qab))), (4, I 0)]) (own' := [.tok]) [(0, (Qrw p0)), (3, (.acc 0 48 4 (([] : List GStream).map Qab))), (4, I 0)] [0] [.tok] hφ0 (pc (.rn (.plain _ (nld Qac _))) (pc (.rn (Qc2 rfl (Qci Qac _))) (pc rwl pn))) (qc .tok qn))) ?_
   refine Qc0 (τ := (List GStream) × Int) (fun n t => Qdi N p0 k2 n t.1 t.2 = some r) (fun ⟨y3, y4⟩ => ⟨mk 20 [(0, (Qrw p0)), (3, (Qw4 y3)), (4, I y4)], [.tok]⟩) (fun t h => by rw [Qdi] at h; cases h) (fun n7 ih t h => ?_) N ([], 0) h
   obtain ⟨y3, y4⟩ := t
   rw [Qdi] at h
   skip
   refine wsq ?_
   refine wx tbk [(2, rp [(.tmp 6, (Qrw p0))] (I ((p0.length : Int))))] ⟨alm (c := Qab) (l := p0) (aln rfl Try.underlying28 rfl), trivial⟩ ?_
   rcases bft ((decide (y4 < (p0.length : Int)))) with hc8 | hc8
   ·replace h := Qa6 hc8 h
    refine wft hc8 (by kernel_rfl) ?_
    refine Qas ?_
    refine thn ?_
    refine wsq ?_
    refine Qao ?_
    obtain ⟨x9, hg10, h⟩ := bno h
    obtain ⟨hi11, hj12⟩ := gsm hg10
    obtain ⟨x14, hf13, h⟩ := bno h
    obtain ⟨ha15, h⟩ := cko h
    refine wx1 tbk [(3, rp [(.tmp 12, (Qrw p0)), (.tmp 13, I y4)] (.dptr (Qab (x9)) 0)), (5, rp [fu 24, (.tmp 15, (Zad x9))] (Qw3 x14)), (6, rp [(.tmp 16, (Qw3 x14))] (.dat 4 (([x14] : List GStream).map Qab))), (7, ⟨[(.tmp 11, (Qw4 y3)), (.tmp 17, (.dat 4 (([x14] : List GStream).map Qab)))], [(0, .tok), (1, .unused)], (.acc 1 48 4 ((y3 ++ ([x14]) : List GStream).map Qab)), [(0, .dead), (1, .tok)], false⟩)] ⟨aid rfl Try.underlying28 ti71 rfl rfl hi11 (mgt Qab hj12) rfl, apc (first := []) (cap := []) (vs := [(Zad x9)]) rfl Zet (Qpc N x9 _ hf13) rfl rfl (nlc (NLt.agg _ (nlc nll (nlc nll (nlc nll (nlc nll nl0))))) nl0) (NLt.agg _ (nlc nll (nlc nll (nlc nll (nlc nll nl0))))) rfl, Qb6 (vs := [(Qw3 x14)]) rfl Try.underlying45 ti48 tz48 rfl (by decide) rfl (by decide) (by rfl) (by rfl) (by rfl) rfl, Qgn rfl Try.underlying45 te48 (Base.acc _ _) rfl rfl (by rfl) (Qjq Qab ha15) (Qjp Qab ha15 (by decide)) (Qjo Qab) rfl rfl, trivial⟩ ?_
    refine bln ?_
    refine thn ?_
    refine wx1 tbk [] trivial ?_
    refine thn ?_
    exact arm (mto (n := 20) [(0, (Qrw p0)), (3, (.acc 1 48 4 ((y3 ++ ([x14]) : List GStream).map Qab))), (4, (I (w64 (y4 + 1))))] [1] [.tok] hφ0 (pc (.rn (.plain _ (nld Qac _))) (pc (.rn (Qc2 rfl (Qci Qac _))) (pc rwl pn))) (qc .tok qn)) (ih (y3 ++ ([x14]), w64 (y4 + 1)) h)
   ·replace h := Qa7 hc8 h
    refine wfn hc8 (by kernel_rfl) ?_
    refine Qb4 ?_
    refine Qa5 ?_
    refine Qa5 ?_
    refine Qb3 rfl ?_
    refine thn ?_
    exact ⟨(y3), h, (mto (n := 20) [(3, (Qw4 y3))] [0] [.tok] hφ0 (pc (.rn (Qc2 rfl (Qci Qac _))) pn) (qc .tok qn))⟩
def Qdt (N : Nat) (x2 : (GTick × Int × Int)) (k11 : Int × Int × Int × Int × (List GStream) → Option (GStream × GStream × GLost × Int)) : Nat → Int → Int → Int → Int → Int → (List GStream) → Option (GStream × GStream × GLost × Int)
  | 0, _, _, _, _, _, _ => none
  | n28 + 1, y16, y17, y18, y19, y20, y21 =>
    bif (decide (y16 < (x2.1.Lost.length : Int))) then
     (getI x2.1.Lost y16).bind fun x30 =>
     Qdt N x2 k11 n28 (w64 (y16 + 1)) (w64 (y17 + x30.Heat)) (w64 (y18 + x30.Silica)) (w64 (y19 + x30.Gas)) (w64 (y20 + x30.Scale)) y21
    else
     k11 (y17, y18, y19, y20, y21)
def Qc1 (N : Nat) (x2 : (GTick × Int × Int)) (k5 : (List GStream) → Option (GStream × GStream × GLost × Int)) : (List GPort) → (List GStream) → Option (GStream × GStream × GLost × Int)
  | [], y38 =>
    k5 (y38)
  | x41 :: q42, y38 =>
    (getI x2.1.Out x41.Element).bind fun x50 =>
    (getI x50 x41.Outlet).bind fun x54 =>
    chk (decide ((y38.length + ([x54]).length) * 32 ≤ 140737488355328)) <|
    Qc1 N x2 k5 q42 (y38 ++ ([x54]))
def Qhq (N : Nat) (p0 : GNet) (p1 : (List Int)) (p2 : (List GStream)) : Option (GStream × GStream × GLost × Int) :=
  (Qkx N p0 p1 p2).bind fun x2 =>
  bif (x2.2.2 != 0) then
   some ((⟨0, 0, 0, 0⟩ : GStream), (⟨0, 0, 0, 0⟩ : GStream), (⟨0, 0, 0, 0⟩ : GLost), x2.2.2)
  else
   Qcc (fun y4 =>
     Qcc (fun ⟨y6, y7, y8, y9, y10⟩ =>
       (Qd6 N p2).bind fun x13 =>
       (Qd6 N y10).bind fun x15 =>
       some (x13, x15, (⟨y6, y7, y8, y9⟩ : GLost), 0)) fun k11 : Int × Int × Int × Int × (List GStream) → Option (GStream × GStream × GLost × Int) =>
     Qdt N x2 k11 N 0 0 0 0 0 y4) fun k5 : (List GStream) → Option (GStream × GStream × GLost × Int) =>
   (Qfd N p0).bind fun x35 =>
   (Qet N p0.Table p0.Elements x35).bind fun q36 =>
   Qc1 N x2 k5 q36 ([])
def Zac (p0 : GNet) : AV := .dat 7 ((p0.Elements : List GElement).map Qad)
def Qzi (p0 : GNet) : AV := .agg [(.dat 5 ((p0.Table : List GRow).map Qa8)), (Zac p0)]
def Qju (p2 : (List GStream)) : AV := .dat 4 ((p2 : List GStream).map Qab)
def Q4b (x2 : (GTick × Int × Int)) : AV := .dat 1 ((x2.1.Out : List (List GStream)).map Qae)
def Qot (x2 : (GTick × Int × Int)) : AV := .dat 4 ((x2.1.Lost : List GLost).map Qa2)
def Qw2 : AV := .agg [(I (0)), (I (0)), (I (0)), (I (0))]
def Qeg : Slot := .own 4 [[(I (0)), (I (0)), (I (0)), (I (0))]]
def Qmk (x2 : (GTick × Int × Int)) : Slot := .own 3 [[(Q4b x2), (Qot x2), (.dat 1 ((x2.1.State : List Int).map Qam))]]
def Q4d (x13 : GStream) : AV := .agg [(I (x13.Mass)), (I (x13.Heat)), (I (x13.Silica)), (I (x13.Gas))]
def Q4c (x15 : GStream) : AV := .agg [(I (x15.Mass)), (I (x15.Heat)), (I (x15.Silica)), (I (x15.Gas))]
def Qw0 (y21 : (List GStream)) : AV := .acc 4 48 4 ((y21 : List GStream).map Qab)
def Qw1 : AV := .fn (.func 53) [] [(.ref 6 2 (0) 0), (.ref 7 1 (0) 0)]
def Quh (p0 : GNet) : Slot := .own 2 [[(.dat 5 ((p0.Table : List GRow).map Qa8)), (Zac p0)]]
def Qwz (y38 : (List GStream)) : AV := .acc 8 48 4 ((y38 : List GStream).map Qab)
def Qzj (x54 : GStream) : AV := .agg [(I (x54.Mass)), (I (x54.Heat)), (I (x54.Silica)), (I (x54.Gas))]
theorem Qpb (N : Nat) (p0 : GNet) (p1 : (List Int)) (p2 : (List GStream)) (r : (GStream × GStream × GLost × Int)) (h : Qhq N p0 p1 p2 = some r) : Spec Try.prog 12 [(.agg (Qj0 p0)), (.dat 1 (p1.map Qam)), (.dat 4 (p2.map Qab))] [] (.tup [(.agg (Qab r.1)), (.agg (Qab r.2.1)), (.agg (Qa2 r.2.2.1)), (I r.2.2.2)]) [] := by
  refine Qah Try.func12 rfl 0 (nle rfl) (fun X φ0 w0 hφ0 hd0 => ?_)
  unfold Qhq at h
  refine wx tbk [] trivial ?_
  obtain ⟨x2, hf1, h⟩ := bno h
  refine wx tbk [(3, rp [fu 8, (.tmp 17, (Qzi p0)), (.tmp 18, (.dat 1 ((p1 : List Int).map Qam))), (.tmp 19, (Qju p2))] (.tup [(.agg [(Q4b x2), (Qot x2), (.dat 1 ((x2.1.State : List Int).map Qam))]), I x2.2.1, I x2.2.2]))] ⟨apc (first := []) (cap := []) (vs := [(Qzi p0), (.dat 1 ((p1 : List Int).map Qam)), (Qju p2)]) rfl Q56 (Qmq N p0 p1 p2 _ hf1) rfl rfl (nlc (NLt.agg _ (nlc (nld Qai _) (nlc (nld Qaa _) nl0))) (nlc (nld Qaf _) (nlc (nld Qac _) nl0))) (NLt.tup _ (nlc (NLt.agg _ (nlc (nld Qak _) (nlc (nld Qaw _) (nlc (nld Qaf _) nl0)))) (nlc nll (nlc nll nl0)))) rfl, trivial⟩ ?_
  refine wsq ?_
  refine wx tbk [] trivial ?_
  rcases bft ((x2.2.2 != 0)) with hc3 | hc3
  ·replace h := Qa6 hc3 h
   refine wft hc3 (by kernel_rfl) ?_
   refine wxd tbk [] trivial ?_
   refine Qag ?_
   refine Qaj ?_
   obtain rfl := osi h
   exact fend ⟨[Qw2, Qw2, Qw2, I x2.2.2], ⟨Qbo (n := 1) (m := 4) (j := 0) (i := 0) (xs := [[I 0, I 0, I 0, I 0]]) (by kernel_rfl) (by kernel_rfl) ti48 (by decide) rfl (nle rfl) rfl, Qbo (n := 2) (m := 4) (j := 0) (i := 0) (xs := [[I 0, I 0, I 0, I 0]]) (by kernel_rfl) (by kernel_rfl) ti48 (by decide) rfl (nle rfl) rfl, Qbo (n := 3) (m := 4) (j := 0) (i := 0) (xs := [[I 0, I 0, I 0, I 0]]) (by kernel_rfl) (by kernel_rfl) ti50 (by decide) rfl (nle rfl) rfl, rot (by kernel_rfl), trivial⟩, rfl⟩ (NLt.tup _ (nlc (NLt.agg _ (nlc nll (nlc nll (nlc nll (nlc nll nl0))))) (nlc (NLt.agg _ (nlc nll (nlc nll (nlc nll (nlc nll nl0))))) (nlc (NLt.agg _ (nlc nll (nlc nll (nlc nll (nlc nll nl0))))) (nlc nll nl0)))))
  ·replace h := Qa7 hc3 h
   refine wfn hc3 (by kernel_rfl) ?_
   refine Qas ?_
   refine thn ?_
   refine wx tbk [] trivial ?_
   obtain ⟨k5, hk_k5, h⟩ := jko h
   refine wjn (τ := (List GStream)) (fun t => k5 t = some r) (fun y4 => ⟨mk 80 [(2, (Qju p2)), (6, .ref 0 4 0 0), (7, .ref 1 4 0 0), (8, .ref 2 4 0 0), (10, .ref 3 3 0 0), (12, .ref 4 1 0 0)], [Qeg, Qeg, Qeg, (Qmk x2), (.own 1 [[(.acc 5 48 4 ((y4 : List GStream).map Qab))]]), .tok]⟩) (fun y4 h => ?_) ?_
   ·subst hk_k5
    obtain ⟨k11, hk_k11, h⟩ := jko h
    refine wjn (τ := Int × Int × Int × Int × (List GStream)) (fun t => k11 t = some r) (fun ⟨y6, y7, y8, y9, y10⟩ => ⟨mk 80 [(2, (Qju p2)), (6, .ref 0 4 0 0), (7, .ref 1 4 0 0), (8, .ref 2 4 0 0), (12, .ref 3 1 0 0)], [Qeg, Qeg, (.own 4 [[I y6, I y7, I y8, I y9]]), (.own 1 [[(.acc 4 48 4 ((y10 : List GStream).map Qab))]]), .tok]⟩) (fun t h => ?_) ?_
    ·subst hk_k11
     obtain ⟨y6, y7, y8, y9, y10⟩ := t
     obtain ⟨x13, hf12, h⟩ := bno h
     obtain ⟨x15, hf14, h⟩ := bno h
     refine wxd tbk [(1, rp [fu 31, (.tmp 75, (Qju p2))] (Q4d x13)), (3, rp [fu 31, (.tmp 77, (.acc 4 48 4 ((y10 : List GStream).map Qab)))] (Q4c x15))] ⟨apc (first := []) (cap := []) (vs := [(Qju p2)]) rfl Qqu (Qgz N p2 _ hf12) rfl rfl (nlc (nld Qac _) nl0) (NLt.agg _ (nlc nll (nlc nll (nlc nll (nlc nll nl0))))) rfl, awk (rd' := (.func 31, (.fn (.func 31) [] [])) :: [(.tmp 77, (.dat 4 ((y10 : List GStream).map Qab)))]) ⟨rfl, lrf, rfl, Less.acc, trivial⟩ (apc (first := []) (cap := []) (vs := [(.dat 4 ((y10 : List GStream).map Qab))]) rfl Qqu (Qgz N y10 _ hf14) rfl rfl (nlc (nld Qac _) nl0) (NLt.agg _ (nlc nll (nlc nll (nlc nll (nlc nll nl0))))) rfl), trivial⟩ ?_
     refine Qag ?_
     obtain rfl := osi h
     exact fend ⟨[(Q4d x13), (Q4c x15), (.agg [I y6, I y7, I y8, I y9]), I 0], ⟨Qbo (n := 0) (m := 4) (j := 0) (i := 0) (xs := [[I x13.Mass, I x13.Heat, I x13.Silica, I x13.Gas]]) (by kernel_rfl) (by kernel_rfl) ti48 (by decide) rfl (nle rfl) rfl, Qbo (n := 1) (m := 4) (j := 0) (i := 0) (xs := [[I x15.Mass, I x15.Heat, I x15.Silica, I x15.Gas]]) (by kernel_rfl) (by kernel_rfl) ti48 (by decide) rfl (nle rfl) rfl, Qbo (n := 2) (m := 4) (j := 0) (i := 0) (xs := [[I y6, I y7, I y8, I y9]]) (by kernel_rfl) (by kernel_rfl) ti50 (by decide) rfl (nle rfl) rfl, rot (by kernel_rfl), trivial⟩, rfl⟩ (NLt.tup _ (nlc (NLt.agg _ (nlc nll (nlc nll (nlc nll (nlc nll nl0))))) (nlc (NLt.agg _ (nlc nll (nlc nll (nlc nll (nlc nll nl0))))) (nlc (NLt.agg _ (nlc nll (nlc nll (nlc nll (nlc nll nl0))))) (nlc nll nl0)))))
    ·skip
     refine wx tbk [(2, rp [(.tmp 47, (Qot x2))] (I ((x2.1.Lost.length : Int))))] ⟨alm (c := Qa2) (l := x2.1.Lost) (aln rfl Try.underlying32 rfl), trivial⟩ ?_
     refine Qao ?_
     refine wmr (mto (n := 80) (l' := [(2, (Qju p2)), (6, .ref 0 4 0 0), (7, .ref 1 4 0 0), (8, .ref 2 4 0 0), (12, .ref 3 1 0 0), (47, (Qot x2)), (48, (I ((x2.1.Lost.length : Int)))), (49, I 0)]) (own' := [Qeg, Qeg, Qeg, (.own 1 [[(.acc 4 48 4 ((y4 : List GStream).map Qab))]]), .tok]) [(2, (Qju p2)), (6, .ref 0 4 0 0), (7, .ref 1 4 0 0), (8, .ref 2 4 0 0), (12, .ref 4 1 0 0), (47, (Qot x2)), (48, (I ((x2.1.Lost.length : Int)))), (49, I 0)] [0, 1, 2, 4, 5] [Qeg, Qeg, Qeg, (.own 1 [[(.acc 5 48 4 ((y4 : List GStream).map Qab))]]), .tok] hφ0 (pc (.rn (.plain _ (nld Qac _))) (pc (.rn (rqr rfl)) (pc (.rn (rqr rfl)) (pc (.rn (rqr rfl)) (pc (.rn (rqr rfl)) (pc (.rn (.plain _ (nld Qaw _))) (pc rwl (pc rwl pn)))))))) (qc (spb (lc rwl (lc rwl (lc rwl (lc rwl ln))))) (qc (spb (lc rwl (lc rwl (lc rwl (lc rwl ln))))) (qc (spb (lc rwl (lc rwl (lc rwl (lc rwl ln))))) (qc (spb (lc (.rn (Qc2 rfl (Qci Qac _))) ln)) (qc .tok qn)))))) ?_
     refine Qc0 (τ := Int × Int × Int × Int × Int × (List GStream)) (fun n t => Qdt N x2 k11 n t.1 t.2.1 t.2.2.1 t.2.2.2.1 t.2.2.2.2.1 t.2.2.2.2.2 = some r) (fun ⟨y16, y17, y18, y19, y20, y21⟩ => ⟨mk 80 [(2, (Qju p2)), (6, .ref 0 4 0 0), (7, .ref 1 4 0 0), (8, .ref 2 4 0 0), (12, .ref 3 1 0 0), (47, (Qot x2)), (48, (I ((x2.1.Lost.length : Int)))), (49, I y16)], [Qeg, Qeg, (.own 4 [[I y17, I y18, I y19, I y20]]), (.own 1 [[(Qw0 y21)]]), .tok]⟩) (fun t h => by rw [Qdt] at h; cases h) (fun n28 ih t h => ?_) N (0, 0, 0, 0, 0, y4) h
     obtain ⟨y16, y17, y18, y19, y20, y21⟩ := t
     rw [Qdt] at h
     skip
     refine wx tbk [] trivial ?_
     refine wsq ?_
     rcases bft ((decide (y16 < (x2.1.Lost.length : Int)))) with hc29 | hc29
     ·replace h := Qa6 hc29 h
      refine wft hc29 (by kernel_rfl) ?_
      refine Qas ?_
      refine thn ?_
      refine wsq ?_
      refine Qao ?_
      obtain ⟨x30, hg31, h⟩ := bno h
      obtain ⟨hi32, hj33⟩ := gsm hg31
      refine wx tbk [(0, rp [(.tmp 47, (Qot x2)), (.tmp 49, I y16)] (.dptr (Qa2 (x30)) 0))] ⟨aid rfl Try.underlying32 ti50 rfl rfl hi32 (mgt Qa2 hj33) rfl, trivial⟩ ?_
      refine wx1 tbk [(20, rp [(.tmp 57, (I (w64 (y17 + x30.Heat)))), (.tmp 62, (I (w64 (y18 + x30.Silica)))), (.tmp 67, (I (w64 (y19 + x30.Gas)))), (.tmp 72, (I (w64 (y20 + x30.Scale))))] (.agg [(I (w64 (y17 + x30.Heat))), (I (w64 (y18 + x30.Silica))), (I (w64 (y19 + x30.Gas))), (I (w64 (y20 + x30.Scale)))]))] ⟨Qar (vs := [(I (w64 (y17 + x30.Heat))), (I (w64 (y18 + x30.Silica))), (I (w64 (y19 + x30.Gas))), (I (w64 (y20 + x30.Scale)))]) rfl ts50 tz50 rfl (by rfl) rfl, trivial⟩ ?_
      refine bln ?_
      refine thn ?_
      refine wx1 tbk [] trivial ?_
      refine thn ?_
      exact arm (mto (n := 80) [(2, (Qju p2)), (6, .ref 0 4 0 0), (7, .ref 1 4 0 0), (8, .ref 2 4 0 0), (12, .ref 3 1 0 0), (47, (Qot x2)), (48, (I ((x2.1.Lost.length : Int)))), (49, (I (w64 (y16 + 1))))] [0, 1, 2, 3, 4] [Qeg, Qeg, (.own 4 [[(I (w64 (y17 + x30.Heat))), (I (w64 (y18 + x30.Silica))), (I (w64 (y19 + x30.Gas))), (I (w64 (y20 + x30.Scale)))]]), (.own 1 [[(Qw0 y21)]]), .tok] hφ0 (pc (.rn (.plain _ (nld Qac _))) (pc (.rn (rqr rfl)) (pc (.rn (rqr rfl)) (pc (.rn (rqr rfl)) (pc (.rn (rqr rfl)) (pc (.rn (.plain _ (nld Qaw _))) (pc rwl (pc rwl pn)))))))) (qc (spb (lc rwl (lc rwl (lc rwl (lc rwl ln))))) (qc (spb (lc rwl (lc rwl (lc rwl (lc rwl ln))))) (qc (spb (lc rwl (lc rwl (lc rwl (lc rwl ln))))) (qc (spb (lc (.rn (Qc2 rfl (Qci Qac _))) ln)) (qc .tok qn)))))) (ih (w64 (y16 + 1), w64 (y17 + x30.Heat), w64 (y18 + x30.Silica), w64 (y19 + x30.Gas), w64 (y20 + x30.Scale), y21) h)
     ·replace h := Qa7 hc29 h
      refine wfn hc29 (by kernel_rfl) ?_
      refine Qb4 ?_
      refine Qa5 ?_
      refine Qa5 ?_
      refine Qb3 rfl ?_
      refine thn ?_
      exact ⟨(y17, y18, y19, y20, y21), h, (mto (n := 80) [(2, (Qju p2)), (6, .ref 0 4 0 0), (7, .ref 1 4 0 0), (8, .ref 2 4 0 0), (12, .ref 3 1 0 0)] [0, 1, 2, 3, 4] [Qeg, Qeg, (.own 4 [[I y17, I y18, I y19, I y20]]), (.own 1 [[(Qw0 y21)]]), .tok] hφ0 (pc (.rn (.plain _ (nld Qac _))) (pc (.rn (rqr rfl)) (pc (.rn (rqr rfl)) (pc (.rn (rqr rfl)) (pc (.rn (rqr rfl)) pn))))) (qc (spb (lc rwl (lc rwl (lc rwl (lc rwl ln))))) (qc (spb (lc rwl (lc rwl (lc rwl (lc rwl ln))))) (qc (spb (lc rwl (lc rwl (lc rwl (lc rwl ln))))) (qc (spb (lc (.rn (Qc2 rfl (Qci Qac _))) ln)) (qc .tok qn))))))⟩
   ·skip
    obtain ⟨x35, hf34, h⟩ := bno h
    refine wx tbk [(1, ⟨[fu 30, (.tmp 30, (Qzi p0))], [(6, .unused), (7, .unused), (8, .unused)], Qw1, [(6, (Quh p0)), (7, (.own 1 [[(.mp 8)]])), (8, (Qc9 x35))], false⟩)] ⟨Qaq (first := []) (cap := []) (vs := [(Qzi p0)]) (σr := []) (σr' := [(Quh p0), (.own 1 [[(.mp 8)]]), (Qc9 x35)]) (res' := Qw1) [6, 7, 8] rfl Q6c (Qjj N p0 _ hf34) rfl (Qbn (rnc (.plain _ (NLt.agg _ (nlc (nld Qai _) (nlc (nld Qaa _) nl0)))) rn0)) Qap (slc (Qan (rnc (.plain _ (nld Qai _)) (rnc (.plain _ (nld Qaa _)) rn0))) (slc (Qan (rnc (Qzo rfl) rn0)) (slc Qlp Qap))) (Qbk rn0 (rnc (Qbl rfl) (rnc (Qbl rfl) rn0))) rfl rfl rfl, trivial⟩ ?_
    refine Qao ?_
    obtain ⟨q36, hL37, h⟩ := bno h
    refine wmr (mto (n := 80) (l' := [(2, (Qju p2)), (6, .ref 0 4 0 0), (7, .ref 1 4 0 0), (8, .ref 2 4 0 0), (10, .ref 3 3 0 0), (12, .ref 4 1 0 0), (31, (.fn (.func 53) [] [.ref 5 2 0 0, .ref 6 1 0 0]))]) (own' := [Qeg, Qeg, Qeg, (Qmk x2), (.own 1 [[nilS]]), (Quh p0), (.own 1 [[(.mp 7)]]), (Qc9 x35)]) [(2, (Qju p2)), (6, .ref 1 4 0 0), (7, .ref 2 4 0 0), (8, .ref 3 4 0 0), (10, .ref 4 3 0 0), (12, .ref 5 1 0 0), (31, Qw1)] [1, 2, 3, 4, 5, 6, 7, 8] [Qeg, Qeg, Qeg, (Qmk x2), (.own 1 [[nilS]]), (Quh p0), (.own 1 [[(.mp 8)]]), (Qc9 x35)] hφ0 (pc (.rn (.plain _ (nld Qac _))) (pc (.rn (rqr rfl)) (pc (.rn (rqr rfl)) (pc (.rn (rqr rfl)) (pc (.rn (rqr rfl)) (pc (.rn (rqr rfl)) (pc (.rn (Qbk rn0 (rnc (rqr rfl) (rnc (rqr rfl) rn0)))) pn))))))) (qc (spb (lc rwl (lc rwl (lc rwl (lc rwl ln))))) (qc (spb (lc rwl (lc rwl (lc rwl (lc rwl ln))))) (qc (spb (lc rwl (lc rwl (lc rwl (lc rwl ln))))) (qc (spb (lc (.rn (.plain _ (nld Qak _))) (lc (.rn (.plain _ (nld Qaw _))) (lc (.rn (.plain _ (nld Qaf _))) ln)))) (qc (spb (lc rwl ln)) (qc (spb (lc (.rn (.plain _ (nld Qai _))) (lc (.rn (.plain _ (nld Qaa _))) ln))) (qc (spb (lc (.rn (Qg8 rfl)) ln)) (qc Qen qn))))))))) ?_
    refine wmr (Qnh (n := 8) (ty := 48) (m := 4) (q := 4) (mq := 1) (c := [nilS]) 0 (by kernel_rfl) (by kernel_rfl) (by kernel_rfl) (by decide)) ?_
    refine Qol (τ := ((List GStream))) (kb := 8) (caps := [.ref 5 2 0 0, .ref 6 1 0 0]) (σr := [(Quh p0), (.own 1 [[(.mp 7)]]), (Qc9 x35)]) (encs := fun x => [(.agg #[(.int .i64 (x.Element)), (.int .i64 (x.Outlet))])]) (fun x => [(.agg [I x.Element, I x.Outlet])]) [5, 6, 7] (fun n hn => hφ0 n (Nat.le_trans (nle rfl) hn)) hd0 (Qji N p0.Table p0.Elements x35 _ hL37) Q57 (by kernel_rfl) (by kernel_rfl) (Qbn (rnc (Qbl rfl) (rnc (Qbl rfl) rn0))) (slc (Qan (rnc (.plain _ (nld Qai _)) (rnc (.plain _ (nld Qaa _)) rn0))) (slc (Qan (rnc (Qzo rfl) rn0)) (slc Qlp Qap))) (by kernel_rfl) (fun _ => rfl) (fun x => ⟨(Less.unlits [(.int .i64 (x.Element)), (.int .i64 (x.Outlet))]), trivial⟩) (Q5c (Qhr (NLt.of0 (nld Qac _)) (Qhr (NLt.ref _ _ _ _ (by decide)) (Qhr (NLt.ref _ _ _ _ (by decide)) (Qhr (NLt.ref _ _ _ _ (by decide)) (Qhr (NLt.ref _ _ _ _ (by decide)) (Qhr (NLt.ref _ _ _ _ (by decide)) (Qhr (NLt.fn _ _ _ nl0 (nlc (NLt.ref _ _ _ _ (by decide)) (nlc (NLt.ref _ _ _ _ (by decide)) nl0))) Qxm)))))))) (fun y38 => [Qeg, Qeg, Qeg, (Qmk x2), (.own 1 [[(Qwz y38)]]), .dead, .dead, .dead, .tok]) (fun _ => rfl) (fun _ => rfl) (fun l t => Qc1 N x2 k5 l t = some r) ([]) h (by kernel_rfl) ?_ ?_
    ·intro l43 o44 X47 φ48 w49 hφ46 x41 q42 y38 h
     rw [Qc1] at h
     refine wx1 tbk [] trivial ?_
     refine ⟨by kernel_rfl, fun o45 => ?_⟩
     refine Qao ?_
     obtain ⟨x50, hg51, h⟩ := bno h
     obtain ⟨hi52, hj53⟩ := gsm hg51
     obtain ⟨x54, hg55, h⟩ := bno h
     obtain ⟨hi56, hj57⟩ := gsm hg55
     obtain ⟨ha58, h⟩ := cko h
     refine wy1 tbk [(5, rp [(.tmp 35, (Q4b x2)), (.tmp 37, I x41.Element)] (.dptr (Qae (x50)) 0)), (9, rp [(.tmp 39, (.dat 4 ((x50 : List GStream).map Qab))), (.tmp 41, I x41.Outlet)] (.dptr (Qab (x54)) 0)), (11, rp [(.tmp 43, (Qzj x54))] (.dat 4 (([x54] : List GStream).map Qab))), (12, ⟨[(.tmp 33, (Qwz y38)), (.tmp 44, (.dat 4 (([x54] : List GStream).map Qab)))], [(8, .tok), (11, .unused)], (.acc 11 48 4 ((y38 ++ ([x54]) : List GStream).map Qab)), [(8, .dead), (11, .tok)], false⟩)] ⟨aid rfl Try.underlying31 ti45 rfl rfl hi52 (mgt Qae hj53) rfl, aid rfl Try.underlying45 ti48 rfl rfl hi56 (mgt Qab hj57) rfl, Qb6 (vs := [(Qzj x54)]) rfl Try.underlying45 ti48 tz48 rfl (by decide) rfl (by decide) (by rfl) (by rfl) (by rfl) rfl, Qgn rfl Try.underlying45 te48 (Base.acc _ _) rfl rfl (by rfl) (Qjq Qab ha58) (Qjp Qab ha58 (by decide)) (Qjo Qab) rfl rfl, trivial⟩ ?_
     refine bln ?_
     exact ⟨(y38 ++ ([x54])), h, Q40 (own' := [Qeg, Qeg, Qeg, (Qmk x2), (.own 1 [[(.acc 8 48 4 (((y38 ++ ([x54])) : List GStream).map Qab))]]), .dead, .dead, .dead, .tok, (.far (farL l43 o45))]) [0, 1, 2, 3, 4, 5, 6, 7, 11, 9] [Qeg, Qeg, Qeg, (Qmk x2), (.own 1 [[(.acc 11 48 4 ((y38 ++ ([x54]) : List GStream).map Qab))]]), .dead, .dead, .dead, .tok, (.far (farL l43 o45))] (by kernel_rfl) (by kernel_rfl) ⟨(spb (lc rwl (lc rwl (lc rwl (lc rwl ln))))), (spb (lc rwl (lc rwl (lc rwl (lc rwl ln))))), (spb (lc rwl (lc rwl (lc rwl (lc rwl ln))))), (spb (lc (.rn (.plain _ (nld Qak _))) (lc (.rn (.plain _ (nld Qaw _))) (lc (.rn (.plain _ (nld Qaf _))) ln)))), (spb (lc (.rn (Qc2 rfl (Qci Qac _))) ln)), .dead, .dead, .dead, .tok, .far _, trivial⟩⟩
    ·intro y38 h
     rw [Qc1] at h
     refine bln ?_
     refine thn ?_
     exact ⟨(y38), h, (mto (n := 80) [(2, (Qju p2)), (6, .ref 0 4 0 0), (7, .ref 1 4 0 0), (8, .ref 2 4 0 0), (10, .ref 3 3 0 0), (12, .ref 4 1 0 0)] [0, 1, 2, 3, 4, 8] [Qeg, Qeg, Qeg, (Qmk x2), (.own 1 [[(Qwz y38)]]), .tok] hφ0 (pc (.rn (.plain _ (nld Qac _))) (pc (.rn (rqr rfl)) (pc (.rn (rqr rfl)) (pc (.rn (rqr rfl)) (pc (.rn (rqr rfl)) (pc (.rn (rqr rfl)) pn)))))) (qc (spb (lc rwl (lc rwl (lc rwl (lc rwl ln))))) (qc (spb (lc rwl (lc rwl (lc rwl (lc rwl ln))))) (qc (spb (lc rwl (lc rwl (lc rwl (lc rwl ln))))) (qc (spb (lc (.rn (.plain _ (nld Qak _))) (lc (.rn (.plain _ (nld Qaw _))) (lc (.rn (.plain _ (nld Qaf _))) ln)))) (qc (spb (lc (.rn (Qc2 rfl (Qci Qac _))) ln)) (qc .tok qn)))))))⟩
end Go.Proofs.Ytmbhnllcfmiajaa
