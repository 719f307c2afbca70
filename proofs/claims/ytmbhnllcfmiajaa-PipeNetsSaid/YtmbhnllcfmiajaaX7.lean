/-
  Functions of the program: what they compute, as plain functions, and that they do. No conditions.
-/
import Derived.Test.YtmbhnllcfmiajaaX6
namespace Go.Proofs.Ytmbhnllcfmiajaa
set_option maxRecDepth 100000
set_option maxHeartbeats 4000000
open Go.RowKit
def Qd8 (N : Nat) (p0 : GNet) (p1 : (List Int)) (k5 : (List Int) → Option ((List Int) × Int)) : Nat → (List Int) → Int → Option ((List Int) × Int)
  | 0, _, _ => none
  | n10 + 1, y6, y7 =>
    bif (decide (y7 < (p0.Elements.length : Int))) then
     (getI p0.Elements y7).bind fun x12 =>
     (getI p1 y7).bind fun x16 =>
     (Qei N x12 x16).bind fun x21 =>
     chk (decide ((y6.length + ([x21]).length) * 8 ≤ 140737488355328)) <|
     Qd8 N p0 p1 k5 n10 (y6 ++ ([x21])) (w64 (y7 + 1))
    else
     k5 (y6)
def Qi2 (N : Nat) (p0 : GNet) (p1 : (List Int)) : Option ((List Int) × Int) :=
  (Qhq N p0 p1).bind fun x2 =>
  bif (x2 != 0) then
   some ([], x2)
  else
   Qbz (fun y4 =>
     some (y4, 0)) fun k5 : (List Int) → Option ((List Int) × Int) =>
   Qd8 N p0 p1 k5 N ([]) 0
def Q8n (p0 : GNet) : AV := .dat 5 ((p0.Table : List GRow).map Qa3)
def Qpc (p0 : GNet) : AV := .dat 7 ((p0.Elements : List GElement).map Qac)
def Qqf (p1 : (List Int)) : AV := .dat 1 ((p1 : List Int).map Qaj)
def Qwn (y6 : (List Int)) : AV := .acc 0 3 1 ((y6 : List Int).map Qaj)
def Q21 (x12 : GElement) : AV := .agg [(K .u8 (x12.Kind)), (.dat 2 ((x12.From : List GPort).map Qam)), (I (x12.Level)), (I (x12.Amount)), (I (x12.Wide)), (I (x12.Narrow)), (.dat 1 ((x12.Weights : List Int).map Qaj))]
theorem Qqs (N : Nat) (p0 : GNet) (p1 : (List Int)) (r : ((List Int) × Int)) (h : Qi2 N p0 p1 = some r) : Spec Try.prog 15 [(.agg (Qia p0)), (.dat 1 (p1.map Qaj))] [] (.tup [(.dat 1 (r.1.map Qaj)), (I r.2)]) [] := by
  refine Qak Try.func15 rfl 0 (nle rfl) (fun X φ0 w0 hφ0 hd0 => ?_)
  unfold Qi2 at h
  refine wx tbk [] trivial ?_
  refine wsq ?_
  obtain ⟨x2, hf1, h⟩ := bno h
  refine wx tbk [(2, rp [fu 35, (.tmp 10, (.agg [(Q8n p0), (Qpc p0)])), (.tmp 11, (Qqf p1))] (I x2))] ⟨apc (first := []) (cap := []) (vs := [(.agg [(Q8n p0), (Qpc p0)]), (Qqf p1)]) rfl Q4r (Ql2 N p0 p1 _ hf1) rfl rfl (nlc (NLt.agg _ (nlc (nld Qah _) (nlc (nld Qaa _) nl0))) (nlc (nld Qab _) nl0)) nll rfl, trivial⟩ ?_
  refine wx tbk [] trivial ?_
  rcases bft ((x2 != 0)) with hc3 | hc3
  ·replace h := Qaw hc3 h
   refine wft hc3 (by kernel_rfl) ?_
   refine wx tbk [] trivial ?_
   refine Qad ?_
   refine Qaf ?_
   obtain rfl := osi h
   exact fend ⟨[(.dat 1 (([] : List Int).map Qaj)), I x2], ⟨Qe9 (v := nilS) (rot (by kernel_rfl)) Less.nil, rot (by kernel_rfl), trivial⟩, rfl⟩ (NLt.tup _ (nlc (nld Qab _) (nlc nll nl0)))
  ·replace h := Qax hc3 h
   refine wfn hc3 (by kernel_rfl) ?_
   refine Qap ?_
   refine thn ?_
   refine wx tbk [] trivial ?_
   obtain ⟨k5, hk_k5, h⟩ := jko h
   refine wjn (τ := (List Int)) (fun t => k5 t = some r) (fun y4 => ⟨mk 35 [(7, (.acc 0 3 1 ((y4 : List Int).map Qaj)))], [.tok]⟩) (fun y4 h => ?_) ?_
   ·subst hk_k5
    refine wx tbk [] trivial ?_
    refine Qad ?_
    obtain rfl := osi h
    exact fend ⟨[(.dat 1 ((y4 : List Int).map Qaj)), I 0], ⟨Qe9 (v := (.acc 0 3 1 ((y4 : List Int).map Qaj))) (rot (by kernel_rfl)) Less.acc, rot (by kernel_rfl), trivial⟩, rfl⟩ (NLt.tup _ (nlc (nld Qab _) (nlc nll nl0)))
   ·skip
    refine wx tbk [(2, rp [(.tmp 17, (Qpc p0))] (I ((p0.Elements.length : Int))))] ⟨alm (c := Qac) (l := p0.Elements) (aln rfl Try.underlying40 rfl), trivial⟩ ?_
    refine Qan ?_
    refine wmr (Mor.trans (Qnc 1 3 1 7 (by kernel_rfl) (by kernel_rfl)) (mto (n := 35) (l' := [(1, (Qqf p1)), (7, (.acc 0 3 1 ((([]) : List Int).map Qaj))), (17, (Qpc p0)), (18, (I ((p0.Elements.length : Int)))), (19, I 0)]) (own' := [.tok]) [(1, (Qqf p1)), (7, (.acc 1 3 1 (([] : List Int).map Qaj))), (17, (Qpc p0)), (18, (I ((p0.Elements.length : Int)))), (19, I 0)] [1] [.tok] hφ0 (pc (.rn (.plain _ (nld Qab _))) (pc (.rn (Qbx rfl (Qbo Qab _))) (pc (.rn (.plain _ (nld Qaa _))) (pc rwl (pc rwl pn))))) (qc .tok qn))) ?_
    refine Qby (τ := (List Int) × Int) (fun n t => Qd8 N p0 p1 k5 n t.1 t.2 = some r) (fun ⟨y6, y7⟩ => ⟨mk 35 [(1, (Qqf p1)), (7, (Qwn y6)), (17, (Qpc p0)), (18, (I ((p0.Elements.length : Int)))), (19, I y7)], [.tok]⟩) (fun t h => by rw [Qd8] at h; cases h) (fun n10 ih t h => ?_) N ([], 0) h
    obtain ⟨y6, y7⟩ := t
    rw [Qd8] at h
    skip
    refine wx tbk [] trivial ?_
    refine wsq ?_
    rcases bft ((decide (y7 < (p0.Elements.length : Int)))) with hc11 | hc11
    ·replace h := Qaw hc11 h
     refine wft hc11 (by kernel_rfl) ?_
     refine Qap ?_
     refine thn ?_
     refine wsq ?_
     refine Qan ?_
     obtain ⟨x12, hg13, h⟩ := bno h
     obtain ⟨hi14, hj15⟩ := gsm hg13
     refine wx tbk [(1, rp [(.tmp 17, (Qpc p0)), (.tmp 19, I y7)] (.dptr (Qac (x12)) 0))] ⟨aid rfl Try.underlying40 ti76 rfl rfl hi14 (mgt Qac hj15) rfl, trivial⟩ ?_
     obtain ⟨x16, hg17, h⟩ := bno h
     obtain ⟨hi18, hj19⟩ := gsm hg17
     obtain ⟨x21, hf20, h⟩ := bno h
     obtain ⟨ha22, h⟩ := cko h
     refine wy1 tbk [(4, rp [(.tmp 26, (Qqf p1)), (.tmp 27, I y7)] (.dptr (Qaj (x16)) 0)), (6, rp [fu 36, (.tmp 25, (Q21 x12)), (.tmp 29, I x16)] (I x21)), (7, rp [(.tmp 30, I x21)] (.dat 1 (([x21] : List Int).map Qaj))), (8, ⟨[(.tmp 24, (Qwn y6)), (.tmp 31, (.dat 1 (([x21] : List Int).map Qaj)))], [(0, .tok), (2, .unused)], (.acc 2 3 1 ((y6 ++ ([x21]) : List Int).map Qaj)), [(0, .dead), (2, .tok)], false⟩)] ⟨aid rfl Try.underlying27 ti3 rfl rfl hi18 (mgt Qaj hj19) rfl, apc (first := []) (cap := []) (vs := [(Q21 x12), I x16]) rfl Qxb (Qgz N x12 x16 _ hf20) rfl rfl (nlc (NLt.agg _ (nlc nll (nlc (nld Qau _) (nlc nll (nlc nll (nlc nll (nlc nll (nlc (nld Qab _) nl0)))))))) (nlc nll nl0)) nll rfl, Qb1 (vs := [I x21]) rfl Try.underlying27 ti3 tz3 rfl (by decide) rfl (by decide) (by rfl) (by rfl) (by rfl) rfl, Qgk rfl Try.underlying27 te3 (Base.acc _ _) rfl rfl (by rfl) (Qij Qaj ha22) (Qii Qaj ha22 (by decide)) (Qih Qaj) rfl rfl, trivial⟩ ?_
     refine bln ?_
     refine thn ?_
     refine wx1 tbk [] trivial ?_
     refine thn ?_
     exact arm (mto (n := 35) [(1, (Qqf p1)), (7, (.acc 2 3 1 ((y6 ++ ([x21]) : List Int).map Qaj))), (17, (Qpc p0)), (18, (I ((p0.Elements.length : Int)))), (19, (I (w64 (y7 + 1))))] [2] [.tok] hφ0 (pc (.rn (.plain _ (nld Qab _))) (pc (.rn (Qbx rfl (Qbo Qab _))) (pc (.rn (.plain _ (nld Qaa _))) (pc rwl (pc rwl pn))))) (qc .tok qn)) (ih (y6 ++ ([x21]), w64 (y7 + 1)) h)
    ·replace h := Qax hc11 h
     refine wfn hc11 (by kernel_rfl) ?_
     refine Qbi ?_
     refine Qay ?_
     refine Qay ?_
     refine Qbh rfl ?_
     refine thn ?_
     exact ⟨(y6), h, (mto (n := 35) [(7, (Qwn y6))] [0] [.tok] hφ0 (pc (.rn (Qbx rfl (Qbo Qab _))) pn) (qc .tok qn))⟩
def Qdu (N : Nat) (p0 : GNet) (y7 : Int) (k15 : (List GPort) × (List GPort) → Option (List GPort)) : Nat → (List GPort) → (List GPort) → Int → Option (List GPort)
  | 0, _, _, _ => none
  | n22 + 1, y16, y17, y18 =>
    (getI p0.Elements y7).bind fun x23 =>
    (Qgu N x23).bind fun x28 =>
    bif (decide (y18 < x28)) then
     (Qhp N y16 (⟨y7, y18⟩ : GPort)).bind fun x31 =>
     bif (!x31) then
      chk (decide ((y17.length + ([(⟨y7, y18⟩ : GPort)]).length) * 16 ≤ 140737488355328)) <|
      Qdu N p0 y7 k15 n22 y16 (y17 ++ ([(⟨y7, y18⟩ : GPort)])) (w64 (y18 + 1))
     else
      Qdu N p0 y7 k15 n22 y16 y17 (w64 (y18 + 1))
    else
     k15 (y16, y17)
def Qeh (N : Nat) (p0 : GNet) (k4 : (List GPort) → Option (List GPort)) : Nat → (List GPort) → (List GPort) → Int → Option (List GPort)
  | 0, _, _, _ => none
  | n11 + 1, y5, y6, y7 =>
    bif (decide (y7 < (p0.Elements.length : Int))) then
     Qbz (fun ⟨y13, y14⟩ =>
       Qeh N p0 k4 n11 y13 y14 (w64 (y7 + 1))) fun k15 : (List GPort) × (List GPort) → Option (List GPort) =>
     Qdu N p0 y7 k15 N y5 y6 0
    else
     k4 (y6)
def Qeg (N : Nat) (p0 : GNet) (k2 : (List GPort) → Option (List GPort)) : Nat → (List GPort) → Int → Option (List GPort)
  | 0, _, _ => none
  | n38 + 1, y34, y35 =>
    bif (decide (y35 < (p0.Elements.length : Int))) then
     (getI p0.Elements y35).bind fun x40 =>
     chk (decide ((y34.length + x40.From.length) * 16 ≤ 140737488355328)) <|
     Qeg N p0 k2 n38 (y34 ++ x40.From) (w64 (y35 + 1))
    else
     k2 (y34)
def Qjw (N : Nat) (p0 : GNet) : Option (List GPort) :=
  Qbz (fun y1 =>
    Qbz (fun y3 =>
      some y3) fun k4 : (List GPort) → Option (List GPort) =>
    Qeh N p0 k4 N y1 ([]) 0) fun k2 : (List GPort) → Option (List GPort) =>
  Qeg N p0 k2 N ([]) 0
def Q20 (y1 : (List GPort)) : AV := .acc 1 66 2 ((y1 : List GPort).map Qam)
def Qut (p0 : GNet) : AV := .dat 7 ((p0.Elements : List GElement).map Qac)
def Qin (p0 : GNet) : Slot := .own 2 [[(.dat 5 ((p0.Table : List GRow).map Qa3)), (Qut p0)]]
def Qwm (y5 : (List GPort)) : AV := .acc 1 66 2 ((y5 : List GPort).map Qam)
def Qs7 (y6 : (List GPort)) : AV := .acc 2 66 2 ((y6 : List GPort).map Qam)
def Qnn (y16 : (List GPort)) : AV := .acc 1 66 2 ((y16 : List GPort).map Qam)
def Qpt (y17 : (List GPort)) : AV := .acc 2 66 2 ((y17 : List GPort).map Qam)
def Qy0 (x23 : GElement) : AV := .agg [(K .u8 (x23.Kind)), (.dat 2 ((x23.From : List GPort).map Qam)), (I (x23.Level)), (I (x23.Amount)), (I (x23.Wide)), (I (x23.Narrow)), (.dat 1 ((x23.Weights : List Int).map Qaj))]
def Qk2 (y7 : Int) (y18 : Int) : AV := .agg [(I (y7)), (I (y18))]
def Qs8 (y34 : (List GPort)) : AV := .acc 1 66 2 ((y34 : List GPort).map Qam)
theorem Qrx (N : Nat) (p0 : GNet) (r : (List GPort)) (h : Qjw N p0 = some r) : Spec Try.prog 18 [(.agg (Qia p0))] [] (.dat 2 (r.map Qam)) [] := by
  refine Qak Try.func18 rfl 0 (nle rfl) (fun X φ0 w0 hφ0 hd0 => ?_)
  unfold Qjw at h
  refine wx tbk [] trivial ?_
  refine wx tbk [] trivial ?_
  obtain ⟨k2, hk_k2, h⟩ := jko h
  refine wjn (τ := (List GPort)) (fun t => k2 t = some r) (fun y1 => ⟨mk 53 [(1, .ref 0 2 0 0), (3, (Q20 y1)), (4, nilS)], [(Qin p0), .tok]⟩) (fun y1 h => ?_) ?_
  ·subst hk_k2
   obtain ⟨k4, hk_k4, h⟩ := jko h
   refine wjn (τ := (List GPort)) (fun t => k4 t = some r) (fun y3 => ⟨mk 53 [(4, (.acc 0 66 2 ((y3 : List GPort).map Qam)))], [.tok]⟩) (fun y3 h => ?_) ?_
   ·subst hk_k4
    refine wx tbk [] trivial ?_
    refine Qad ?_
    obtain rfl := osi h
    exact fend ⟨[(.dat 2 ((y3 : List GPort).map Qam))], ⟨Qe9 (v := (.acc 0 66 2 ((y3 : List GPort).map Qam))) (rot (by kernel_rfl)) Less.acc, trivial⟩, rfl⟩ (nld Qau _)
   ·skip
    refine wx tbk [] trivial ?_
    refine Qan ?_
    refine wmr (Mor.trans (Qnc 2 66 2 4 (by kernel_rfl) (by kernel_rfl)) (mto (n := 53) (l' := [(1, .ref 0 2 0 0), (3, (Q20 y1)), (4, (.acc 2 66 2 ((([]) : List GPort).map Qam))), (6, I 0)]) (own' := [(Qin p0), .tok, .tok]) [(1, .ref 0 2 0 0), (3, (Q20 y1)), (4, (.acc 2 66 2 (([] : List GPort).map Qam))), (6, I 0)] [0, 1, 2] [(Qin p0), .tok, .tok] hφ0 (pc (.rn (rqr rfl)) (pc (.rn (Qbx rfl (Qbo Qau _))) (pc (.rn (Qbx rfl (Qbo Qau _))) (pc rwl pn)))) (qc (spb (lc (.rn (.plain _ (nld Qah _))) (lc (.rn (.plain _ (nld Qaa _))) ln))) (qc .tok (qc .tok qn))))) ?_
    refine Qby (τ := (List GPort) × (List GPort) × Int) (fun n t => Qeh N p0 k4 n t.1 t.2.1 t.2.2 = some r) (fun ⟨y5, y6, y7⟩ => ⟨mk 53 [(1, .ref 0 2 0 0), (3, (Qwm y5)), (4, (Qs7 y6)), (6, I y7)], [(Qin p0), .tok, .tok]⟩) (fun t h => by rw [Qeh] at h; cases h) (fun n11 ih t h => ?_) N (y1, [], 0) h
    obtain ⟨y5, y6, y7⟩ := t
    rw [Qeh] at h
    skip
    refine wsq ?_
    refine wx tbk [(3, rp [(.tmp 25, (Qut p0))] (I ((p0.Elements.length : Int))))] ⟨alm (c := Qac) (l := p0.Elements) (aln rfl Try.underlying24 rfl), trivial⟩ ?_
    rcases bft ((decide (y7 < (p0.Elements.length : Int)))) with hc12 | hc12
    ·replace h := Qaw hc12 h
     refine wft hc12 (by kernel_rfl) ?_
     refine Qap ?_
     refine thn ?_
     obtain ⟨k15, hk_k15, h⟩ := jko h
     refine wjn (τ := (List GPort) × (List GPort)) (fun t => k15 t = some r) (fun ⟨y13, y14⟩ => ⟨mk 53 [(1, .ref 0 2 0 0), (3, (.acc 1 66 2 ((y13 : List GPort).map Qam))), (4, (.acc 2 66 2 ((y14 : List GPort).map Qam))), (6, I y7)], [(Qin p0), .tok, .tok]⟩) (fun t h => ?_) ?_
     ·subst hk_k15
      obtain ⟨y13, y14⟩ := t
      refine wx1 tbk [] trivial ?_
      refine thn ?_
      exact arm (mto (n := 53) [(1, .ref 0 2 0 0), (3, (.acc 1 66 2 ((y13 : List GPort).map Qam))), (4, (.acc 2 66 2 ((y14 : List GPort).map Qam))), (6, (I (w64 (y7 + 1))))] [0, 1, 2] [(Qin p0), .tok, .tok] hφ0 (pc (.rn (rqr rfl)) (pc (.rn (Qbx rfl (Qbo Qau _))) (pc (.rn (Qbx rfl (Qbo Qau _))) (pc rwl pn)))) (qc (spb (lc (.rn (.plain _ (nld Qah _))) (lc (.rn (.plain _ (nld Qaa _))) ln))) (qc .tok (qc .tok qn)))) (ih (y13, y14, w64 (y7 + 1)) h)
     ·skip
      refine Qan ?_
      refine wx tbk [] trivial ?_
      refine Qan ?_
      refine wmr (mto (n := 53) (l' := [(1, .ref 0 2 0 0), (3, (Qwm y5)), (4, (Qs7 y6)), (6, I y7), (7, I 0)]) (own' := [(Qin p0), .tok, .tok]) [(1, .ref 0 2 0 0), (3, (Qwm y5)), (4, (Qs7 y6)), (6, I y7), (7, I 0)] [0, 1, 2] [(Qin p0), .tok, .tok] hφ0 (pc (.rn (rqr rfl)) (pc (.rn (Qbx rfl (Qbo Qau _))) (pc (.rn (Qbx rfl (Qbo Qau _))) (pc rwl (pc rwl pn))))) (qc (spb (lc (.rn (.plain _ (nld Qah _))) (lc (.rn (.plain _ (nld Qaa _))) ln))) (qc .tok (qc .tok qn)))) ?_
      refine Qby (τ := (List GPort) × (List GPort) × Int) (fun n t => Qdu N p0 y7 k15 n t.1 t.2.1 t.2.2 = some r) (fun ⟨y16, y17, y18⟩ => ⟨mk 53 [(1, .ref 0 2 0 0), (3, (Qnn y16)), (4, (Qpt y17)), (6, I y7), (7, I y18)], [(Qin p0), .tok, .tok]⟩) (fun t h => by rw [Qdu] at h; cases h) (fun n22 ih t h => ?_) N (y5, y6, 0) h
      obtain ⟨y16, y17, y18⟩ := t
      rw [Qdu] at h
      skip
      refine wsq ?_
      obtain ⟨x23, hg24, h⟩ := bno h
      obtain ⟨hi25, hj26⟩ := gsm hg24
      obtain ⟨x28, hf27, h⟩ := bno h
      refine wx tbk [(4, rp [(.tmp 32, (Qut p0)), (.tmp 33, I y7)] (.dptr (Qac (x23)) 0)), (6, rp [fu 39, (.tmp 35, (Qy0 x23))] (I x28))] ⟨aid rfl Try.underlying24 ti70 rfl rfl hi25 (mgt Qac hj26) rfl, apc (first := []) (cap := []) (vs := [(Qy0 x23)]) rfl Qtw (Qha N x23 _ hf27) rfl rfl (nlc (NLt.agg _ (nlc nll (nlc (nld Qau _) (nlc nll (nlc nll (nlc nll (nlc nll (nlc (nld Qab _) nl0)))))))) nl0) nll rfl, trivial⟩ ?_
      rcases bft ((decide (y18 < x28))) with hc29 | hc29
      ·replace h := Qaw hc29 h
       refine wft hc29 (by kernel_rfl) ?_
       refine Qap ?_
       refine thn ?_
       refine wsq ?_
       refine Qan ?_
       obtain ⟨x31, hf30, h⟩ := bno h
       refine wx tbk [(3, rp [(.tmp 41, I y7), (.tmp 42, I y18)] (Qk2 y7 y18)), (4, rp [fu 40, (.tmp 40, (Qnn y16)), (.tmp 43, (Qk2 y7 y18))] (B x31))] ⟨Qa2 (vs := [I y7, I y18]) rfl ts66 tz66 rfl (by rfl) rfl, awk (rd' := (.func 40, (.fn (.func 40) [] [])) :: [(.tmp 40, (.dat 2 ((y16 : List GPort).map Qam))), (.tmp 43, (Qk2 y7 y18))]) ⟨rfl, lrf, rfl, Less.acc, rfl, lrf, trivial⟩ (apc (first := []) (cap := []) (vs := [(.dat 2 ((y16 : List GPort).map Qam)), (Qk2 y7 y18)]) rfl Q4p (Qlz N y16 (⟨y7, y18⟩ : GPort) _ hf30) rfl rfl (nlc (nld Qau _) (nlc (NLt.agg _ (nlc nll (nlc nll nl0))) nl0)) nll rfl), trivial⟩ ?_
       rcases bft ((!x31)) with hc32 | hc32
       ·replace h := Qaw hc32 h
        refine wft hc32 (by kernel_rfl) ?_
        obtain ⟨ha33, h⟩ := cko h
        refine wx1 tbk [(3, rp [(.tmp 47, I y7), (.tmp 48, I y18)] (Qk2 y7 y18)), (4, rp [(.tmp 49, (Qk2 y7 y18))] (.dat 2 (([(⟨y7, y18⟩ : GPort)] : List GPort).map Qam))), (5, ⟨[(.tmp 46, (Qpt y17)), (.tmp 50, (.dat 2 (([(⟨y7, y18⟩ : GPort)] : List GPort).map Qam)))], [(2, .tok), (3, .unused)], (.acc 3 66 2 ((y17 ++ ([(⟨y7, y18⟩ : GPort)]) : List GPort).map Qam)), [(2, .dead), (3, .tok)], false⟩)] ⟨Qa2 (vs := [I y7, I y18]) rfl ts66 tz66 rfl (by rfl) rfl, Qb1 (vs := [(Qk2 y7 y18)]) rfl Try.underlying64 ti66 tz66 rfl (by decide) rfl (by decide) (by rfl) (by rfl) (by rfl) rfl, Qgk rfl Try.underlying64 te66 (Base.acc _ _) rfl rfl (by rfl) (Qij Qam ha33) (Qii Qam ha33 (by decide)) (Qih Qam) rfl rfl, trivial⟩ ?_
        refine bln ?_
        refine thn ?_
        refine wx1 tbk [] trivial ?_
        refine thn ?_
        exact arm (mto (n := 53) [(1, .ref 0 2 0 0), (3, (Qnn y16)), (4, (.acc 3 66 2 ((y17 ++ ([(⟨y7, y18⟩ : GPort)]) : List GPort).map Qam))), (6, I y7), (7, (I (w64 (y18 + 1))))] [0, 1, 3] [(Qin p0), .tok, .tok] hφ0 (pc (.rn (rqr rfl)) (pc (.rn (Qbx rfl (Qbo Qau _))) (pc (.rn (Qbx rfl (Qbo Qau _))) (pc rwl (pc rwl pn))))) (qc (spb (lc (.rn (.plain _ (nld Qah _))) (lc (.rn (.plain _ (nld Qaa _))) ln))) (qc .tok (qc .tok qn)))) (ih (y16, y17 ++ ([(⟨y7, y18⟩ : GPort)]), w64 (y18 + 1)) h)
       ·replace h := Qax hc32 h
        refine wfn hc32 (by kernel_rfl) ?_
        refine Qap ?_
        refine bln ?_
        refine thn ?_
        refine wx1 tbk [] trivial ?_
        refine thn ?_
        exact arm (mto (n := 53) [(1, .ref 0 2 0 0), (3, (Qnn y16)), (4, (Qpt y17)), (6, I y7), (7, (I (w64 (y18 + 1))))] [0, 1, 2] [(Qin p0), .tok, .tok] hφ0 (pc (.rn (rqr rfl)) (pc (.rn (Qbx rfl (Qbo Qau _))) (pc (.rn (Qbx rfl (Qbo Qau _))) (pc rwl (pc rwl pn))))) (qc (spb (lc (.rn (.plain _ (nld Qah _))) (lc (.rn (.plain _ (nld Qaa _))) ln))) (qc .tok (qc .tok qn)))) (ih (y16, y17, w64 (y18 + 1)) h)
      ·replace h := Qax hc29 h
       refine wfn hc29 (by kernel_rfl) ?_
       refine Qbi ?_
       refine Qay ?_
       refine Qay ?_
       refine Qbh rfl ?_
       refine bln ?_
       refine thn ?_
       exact ⟨(y16, y17), h, (mto (n := 53) [(1, .ref 0 2 0 0), (3, (Qnn y16)), (4, (Qpt y17)), (6, I y7)] [0, 1, 2] [(Qin p0), .tok, .tok] hφ0 (pc (.rn (rqr rfl)) (pc (.rn (Qbx rfl (Qbo Qau _))) (pc (.rn (Qbx rfl (Qbo Qau _))) (pc rwl pn)))) (qc (spb (lc (.rn (.plain _ (nld Qah _))) (lc (.rn (.plain _ (nld Qaa _))) ln))) (qc .tok (qc .tok qn))))⟩
    ·replace h := Qax hc12 h
     refine wfn hc12 (by kernel_rfl) ?_
     refine Qbi ?_
     refine Qay ?_
     refine Qay ?_
     refine Qbh rfl ?_
     refine thn ?_
     exact ⟨(y6), h, (mto (n := 53) [(4, (Qs7 y6))] [2] [.tok] hφ0 (pc (.rn (Qbx rfl (Qbo Qau _))) pn) (qc .tok qn))⟩
  ·skip
   refine wx tbk [] trivial ?_
   refine Qan ?_
   refine wmr (Mor.trans (Qnc 1 66 2 3 (by kernel_rfl) (by kernel_rfl)) (mto (n := 53) (l' := [(1, .ref 0 2 0 0), (3, (.acc 1 66 2 ((([]) : List GPort).map Qam))), (4, nilS), (5, I 0)]) (own' := [(Qin p0), .tok]) [(1, .ref 0 2 0 0), (3, (.acc 1 66 2 (([] : List GPort).map Qam))), (4, nilS), (5, I 0)] [0, 1] [(Qin p0), .tok] hφ0 (pc (.rn (rqr rfl)) (pc (.rn (Qbx rfl (Qbo Qau _))) (pc rwl (pc rwl pn)))) (qc (spb (lc (.rn (.plain _ (nld Qah _))) (lc (.rn (.plain _ (nld Qaa _))) ln))) (qc .tok qn)))) ?_
   refine Qby (τ := (List GPort) × Int) (fun n t => Qeg N p0 k2 n t.1 t.2 = some r) (fun ⟨y34, y35⟩ => ⟨mk 53 [(1, .ref 0 2 0 0), (3, (Qs8 y34)), (4, nilS), (5, I y35)], [(Qin p0), .tok]⟩) (fun t h => by rw [Qeg] at h; cases h) (fun n38 ih t h => ?_) N ([], 0) h
   obtain ⟨y34, y35⟩ := t
   rw [Qeg] at h
   skip
   refine wsq ?_
   refine wx tbk [(3, rp [(.tmp 10, (Qut p0))] (I ((p0.Elements.length : Int))))] ⟨alm (c := Qac) (l := p0.Elements) (aln rfl Try.underlying24 rfl), trivial⟩ ?_
   rcases bft ((decide (y35 < (p0.Elements.length : Int)))) with hc39 | hc39
   ·replace h := Qaw hc39 h
    refine wft hc39 (by kernel_rfl) ?_
    refine Qap ?_
    refine thn ?_
    refine wsq ?_
    refine Qan ?_
    obtain ⟨x40, hg41, h⟩ := bno h
    obtain ⟨hi42, hj43⟩ := gsm hg41
    obtain ⟨ha44, h⟩ := cko h
    refine wx1 tbk [(4, rp [(.tmp 17, (Qut p0)), (.tmp 18, I y35)] (.dptr (Qac (x40)) 0)), (7, ⟨[(.tmp 15, (Qs8 y34)), (.tmp 21, (.dat 2 ((x40.From : List GPort).map Qam)))], [(1, .tok), (2, .unused)], (.acc 2 66 2 ((y34 ++ x40.From : List GPort).map Qam)), [(1, .dead), (2, .tok)], false⟩)] ⟨aid rfl Try.underlying24 ti70 rfl rfl hi42 (mgt Qac hj43) rfl, Qgk rfl Try.underlying64 te66 (Base.acc _ _) rfl rfl (Qpz Qam Q3w _) (Qij Qam ha44) (Qii Qam ha44 (by decide)) (Qih Qam) rfl rfl, trivial⟩ ?_
    refine bln ?_
    refine thn ?_
    refine wx1 tbk [] trivial ?_
    refine thn ?_
    exact arm (mto (n := 53) [(1, .ref 0 2 0 0), (3, (.acc 2 66 2 ((y34 ++ x40.From : List GPort).map Qam))), (4, nilS), (5, (I (w64 (y35 + 1))))] [0, 2] [(Qin p0), .tok] hφ0 (pc (.rn (rqr rfl)) (pc (.rn (Qbx rfl (Qbo Qau _))) (pc rwl (pc rwl pn)))) (qc (spb (lc (.rn (.plain _ (nld Qah _))) (lc (.rn (.plain _ (nld Qaa _))) ln))) (qc .tok qn))) (ih (y34 ++ x40.From, w64 (y35 + 1)) h)
   ·replace h := Qax hc39 h
    refine wfn hc39 (by kernel_rfl) ?_
    refine Qbi ?_
    refine Qay ?_
    refine Qay ?_
    refine Qbh rfl ?_
    refine thn ?_
    exact ⟨(y34), h, (mto (n := 53) [(1, .ref 0 2 0 0), (3, (Qs8 y34)), (4, nilS)] [0, 1] [(Qin p0), .tok] hφ0 (pc (.rn (rqr rfl)) (pc (.rn (Qbx rfl (Qbo Qau _))) (pc rwl pn))) (qc (spb (lc (.rn (.plain _ (nld Qah _))) (lc (.rn (.plain _ (nld Qaa _))) ln))) (qc .tok qn)))⟩
def Qiy (_N : Nat) (p0 : GElement) (p1 : Int) : Option Int :=
  chk (p0.Narrow != 0) <|
  (some (if (w64 (p0.Wide - (w64 (p1.tdiv p0.Narrow)))) > 0 then w64 (p0.Wide - (w64 (p1.tdiv p0.Narrow))) else 0)).bind fun x2 =>
  some x2
theorem Qqn (N : Nat) (p0 : GElement) (p1 : Int) (r : Int) (h : Qiy N p0 p1 = some r) : Spec Try.prog 20 [(.agg (Qac p0)), (I p1)] [] (I r) [] := by
  refine Qak Try.func20 rfl 0 (nle rfl) (fun X φ0 w0 hφ0 hd0 => ?_)
  unfold Qiy at h
  refine wx tbk [] trivial ?_
  obtain ⟨hz1, h⟩ := cko h
  obtain ⟨x2, hl3, h⟩ := bno h
  refine wxd tbk [(5, rp [(.tmp 7, I p1), (.tmp 9, I p0.Narrow)] (I (w64 (p1.tdiv p0.Narrow)))), (7, rp [ci 0, (.tmp 11, (I (w64 (p0.Wide - (w64 (p1.tdiv p0.Narrow))))))] (I x2))] ⟨Ql8 rfl (Qo4 hz1), Qgj hl3 (Ql9 rfl), trivial⟩ ?_
  refine Qad ?_
  obtain rfl := osi h
  exact fend ⟨[I x2], ⟨rot (by kernel_rfl), trivial⟩, rfl⟩ nll
def Qdg (N : Nat) (p0 : GNet) (p1 : (List Int)) (x11 : ((List Int) × Int)) (k37 : Unit → Option Bool) : Nat → Int → Option Bool
  | 0, _ => none
  | n42 + 1, y40 =>
    bif (decide (y40 < (x11.1.length : Int))) then
     (getI x11.1 y40).bind fun x44 =>
     (getI p0.Elements y40).bind fun x48 =>
     (getI p1 y40).bind fun x52 =>
     (Qiy N x48 x52).bind fun x57 =>
     bif (x44 != x57) then
      some false
     else
      Qdg N p0 p1 x11 k37 n42 (w64 (y40 + 1))
    else
     k37 ()
def Qdf (N : Nat) (x5 : ((List GPort) × Int)) (x26 : (List GPort)) (k28 : Unit → Option Bool) : Nat → Int → Option Bool
  | 0, _ => none
  | n63 + 1, y61 =>
    bif (decide (y61 < (x26.length : Int))) then
     (getI x5.1 y61).bind fun x65 =>
     (getI x26 y61).bind fun x69 =>
     bif (x65.Element != x69.Element) then
      some false
     else
      bif (x65.Outlet != x69.Outlet) then
       some false
      else
       Qdf N x5 x26 k28 n63 (w64 (y61 + 1))
    else
     k28 ()
def Qh8 (N : Nat) (p0 : GNet) (p1 : (List Int)) : Option Bool :=
  Qbz (fun _ =>
    (Qhr N p0).bind fun x3 =>
    (Qhb N x3).bind fun x5 =>
    (Qhr N p0).bind fun x7 =>
    (Qj3 N p1).bind fun x9 =>
    (Qi2 N x7 x9).bind fun x11 =>
    (Qiz N p0).bind fun x13 =>
    bif (!x13) then
     (Qhr N p0).bind fun x16 =>
     (Qgv N x16).bind fun x18 =>
     bif (x18 == 1) then
      bif (x5.2 == 1) then
       bif (x11.2 == 1) then
        bif ((w64 ((x5.1.length : Int) + (x11.1.length : Int))) == 0) then
         (Qgl 2000 ).bind fun x24 =>
         some x24
        else
         some false
       else
        some false
      else
       some false
     else
      some false
    else
     (Qjw N p0).bind fun x26 =>
     Qbz (fun _ =>
       Qbz (fun _ =>
         (Qgc N p0 p1).bind fun x30 =>
         bif (!x30) then
          bif (x11.2 == 1) then
           bif ((x11.1.length : Int) == 0) then
            (Qgl 2000 ).bind fun x35 =>
            some x35
           else
            some false
          else
           some false
         else
          Qbz (fun _ =>
            Qbz (fun _ =>
              (Qgl 2000 ).bind fun x39 =>
              some x39) fun k37 : Unit → Option Bool =>
            Qdg N p0 p1 x11 k37 N 0) fun k36 : Unit → Option Bool =>
          bif (x11.2 != 0) then
           some false
          else
           bif ((x11.1.length : Int) != (p1.length : Int)) then
            some false
           else
            k36 ()) fun k28 : Unit → Option Bool =>
       Qdf N x5 x26 k28 N 0) fun k27 : Unit → Option Bool =>
     (Qhr N p0).bind fun x76 =>
     (Qgv N x76).bind fun x78 =>
     bif (x78 != 0) then
      some false
     else
      bif (x5.2 != 0) then
       some false
      else
       bif ((x5.1.length : Int) != (x26.length : Int)) then
        some false
       else
        k27 ()) fun k1 : Unit → Option Bool =>
  (Qjl N p0 ([])).bind fun x83 =>
  bif (!x83) then
   (Qgl 2000 ).bind fun x86 =>
   some x86
  else
   bif (decide ((p1.length : Int) > 25)) then
    (Qgl 2000 ).bind fun x89 =>
    some x89
   else
    k1 ()
def Qg2 (p1 : (List Int)) : AV := .dat 1 ((p1 : List Int).map Qaj)
def Q24 (p0 : GNet) : AV := .dat 7 ((p0.Elements : List GElement).map Qac)
def Qje (p0 : GNet) : Slot := .own 2 [[(.dat 5 ((p0.Table : List GRow).map Qa3)), (Q24 p0)]]
def Qe7 (p0 : GNet) : AV := .agg [(.dat 5 ((p0.Table : List GRow).map Qa3)), (Q24 p0)]
def Q22 (x3 : GNet) : AV := .agg [(.dat 5 ((x3.Table : List GRow).map Qa3)), (.dat 7 ((x3.Elements : List GElement).map Qac))]
def Qkq (x5 : ((List GPort) × Int)) : AV := .dat 2 ((x5.1 : List GPort).map Qam)
def Qwo (x7 : GNet) : AV := .agg [(.dat 5 ((x7.Table : List GRow).map Qa3)), (.dat 7 ((x7.Elements : List GElement).map Qac))]
def Qfr (x11 : ((List Int) × Int)) : AV := .dat 1 ((x11.1 : List Int).map Qaj)
def Qhi (x16 : GNet) : AV := .agg [(.dat 5 ((x16.Table : List GRow).map Qa3)), (.dat 7 ((x16.Elements : List GElement).map Qac))]
def Qi6 (x26 : (List GPort)) : AV := .dat 2 ((x26 : List GPort).map Qam)
def Q23 (x48 : GElement) : AV := .agg [(K .u8 (x48.Kind)), (.dat 2 ((x48.From : List GPort).map Qam)), (I (x48.Level)), (I (x48.Amount)), (I (x48.Wide)), (I (x48.Narrow)), (.dat 1 ((x48.Weights : List Int).map Qaj))]
def Qk3 (x76 : GNet) : AV := .agg [(.dat 5 ((x76.Table : List GRow).map Qa3)), (.dat 7 ((x76.Elements : List GElement).map Qac))]
def Qy1 : AV := .dat 4 (([] : List GStream).map Qae)
theorem Qn6 (N : Nat) (p0 : GNet) (p1 : (List Int)) (r : Bool) (h : Qh8 N p0 p1 = some r) : Spec Try.prog 4 [(.agg (Qia p0)), (.dat 1 (p1.map Qaj))] [] (B r) [] := by
  refine Qak Try.func4 rfl 0 (nle rfl) (fun X φ0 w0 hφ0 hd0 => ?_)
  unfold Qh8 at h
  refine wx tbk [] trivial ?_
  obtain ⟨k1, hk_k1, h⟩ := jko h
  refine wjn (τ := Unit) (fun t => k1 t = some r) (fun _ => ⟨mk 153 [(1, (Qg2 p1)), (2, .ref 0 2 0 0)], [(Qje p0)]⟩) (fun t h => ?_) ?_
  ·subst hk_k1
   obtain ⟨x3, hf2, h⟩ := bno h
   obtain ⟨x5, hf4, h⟩ := bno h
   refine wx tbk [(1, rp [fu 9, (.tmp 22, (Qe7 p0))] (Q22 x3)), (2, rp [fu 13, (.tmp 23, (Q22 x3))] (.tup [(Qkq x5), I x5.2]))] ⟨apc (first := []) (cap := []) (vs := [(Qe7 p0)]) rfl Qmw (Qel N p0 _ hf2) rfl rfl (nlc (NLt.agg _ (nlc (nld Qah _) (nlc (nld Qaa _) nl0))) nl0) (NLt.agg _ (nlc (nld Qah _) (nlc (nld Qaa _) nl0))) rfl, apc (first := []) (cap := []) (vs := [(Q22 x3)]) rfl Q4t (Qn4 N x3 _ hf4) rfl rfl (nlc (NLt.agg _ (nlc (nld Qah _) (nlc (nld Qaa _) nl0))) nl0) (NLt.tup _ (nlc (nld Qau _) (nlc nll nl0))) rfl, trivial⟩ ?_
   obtain ⟨x7, hf6, h⟩ := bno h
   obtain ⟨x9, hf8, h⟩ := bno h
   obtain ⟨x11, hf10, h⟩ := bno h
   refine wx tbk [(1, rp [fu 9, (.tmp 28, (Qe7 p0))] (Qwo x7)), (3, rp [fu 10, (.tmp 30, (Qg2 p1))] (.dat 1 ((x9 : List Int).map Qaj))), (4, rp [fu 15, (.tmp 29, (Qwo x7)), (.tmp 31, (.dat 1 ((x9 : List Int).map Qaj)))] (.tup [(Qfr x11), I x11.2]))] ⟨apc (first := []) (cap := []) (vs := [(Qe7 p0)]) rfl Qmw (Qel N p0 _ hf6) rfl rfl (nlc (NLt.agg _ (nlc (nld Qah _) (nlc (nld Qaa _) nl0))) nl0) (NLt.agg _ (nlc (nld Qah _) (nlc (nld Qaa _) nl0))) rfl, apc (first := []) (cap := []) (vs := [(Qg2 p1)]) rfl Zc9 (Qr0 N p1 _ hf8) rfl rfl (nlc (nld Qab _) nl0) (nld Qab _) rfl, apc (first := []) (cap := []) (vs := [(Qwo x7), (.dat 1 ((x9 : List Int).map Qaj))]) rfl Zc7 (Qqs N x7 x9 _ hf10) rfl rfl (nlc (NLt.agg _ (nlc (nld Qah _) (nlc (nld Qaa _) nl0))) (nlc (nld Qab _) nl0)) (NLt.tup _ (nlc (nld Qab _) (nlc nll nl0))) rfl, trivial⟩ ?_
   refine wsq ?_
   obtain ⟨x13, hf12, h⟩ := bno h
   refine wx tbk [(1, rp [fu 16, (.tmp 35, (Qe7 p0))] (B x13))] ⟨apc (first := []) (cap := []) (vs := [(Qe7 p0)]) rfl Zc6 (Qqo N p0 _ hf12) rfl rfl (nlc (NLt.agg _ (nlc (nld Qah _) (nlc (nld Qaa _) nl0))) nl0) nll rfl, trivial⟩ ?_
   rcases bft ((!x13)) with hc14 | hc14
   ·replace h := Qaw hc14 h
    refine wft hc14 (by kernel_rfl) ?_
    obtain ⟨x16, hf15, h⟩ := bno h
    obtain ⟨x18, hf17, h⟩ := bno h
    rcases bft ((x18 == 1)) with hb19 | hb19
    ·replace h := Qaw hb19 h
     rcases bft ((x5.2 == 1)) with hb20 | hb20
     ·replace h := Qaw hb20 h
      rcases bft ((x11.2 == 1)) with hb21 | hb21
      ·replace h := Qaw hb21 h
       rcases bft (((w64 ((x5.1.length : Int) + (x11.1.length : Int))) == 0)) with hb22 | hb22
       ·replace h := Qaw hb22 h
        obtain ⟨x24, hf23, h⟩ := bno h
        refine wx tbk [(1, rp [fu 9, (.tmp 38, (Qe7 p0))] (Qhi x16)), (2, rp [fu 17, (.tmp 39, (Qhi x16))] (I x18)), (4, rp [(.tmp 41, (B ((x18 == 1))))] (B true)), (8, rp [(.tmp 45, (B ((x5.2 == 1))))] (B true)), (12, rp [(.tmp 49, (B ((x11.2 == 1))))] (B true)), (14, rp [(.tmp 50, B true), (.tmp 51, (Qkq x5))] (I ((x5.1.length : Int)))), (16, rp [(.tmp 50, B true), (.tmp 53, (Qfr x11))] (I ((x11.1.length : Int)))), (20, rp [(.tmp 57, (B (((w64 ((x5.1.length : Int) + (x11.1.length : Int))) == 0))))] (B true)), (21, rp [(.tmp 58, B true), fu 7] (B x24))] ⟨apc (first := []) (cap := []) (vs := [(Qe7 p0)]) rfl Qmw (Qel N p0 _ hf15) rfl rfl (nlc (NLt.agg _ (nlc (nld Qah _) (nlc (nld Qaa _) nl0))) nl0) (NLt.agg _ (nlc (nld Qah _) (nlc (nld Qaa _) nl0))) rfl, apc (first := []) (cap := []) (vs := [(Qhi x16)]) rfl Ql4 (Qdx N x16 _ hf17) rfl rfl (nlc (NLt.agg _ (nlc (nld Qah _) (nlc (nld Qaa _) nl0))) nl0) nll rfl, asb hb19 (amv rfl), asb hb20 (amv rfl), asb hb21 (amv rfl), ag_ (alm (c := Qam) (l := x5.1) (aln rfl Try.underlying53 rfl)), ag_ (alm (c := Qaj) (l := x11.1) (aln rfl Try.underlying27 rfl)), asb hb22 (amv rfl), ag_ (apc (first := []) (cap := []) (vs := []) rfl Qvj (Qg5 2000  _ hf23) rfl rfl nl0 nll rfl), trivial⟩ ?_
        refine Qad ?_
        refine Qaf ?_
        obtain rfl := osi h
        exact fend ⟨[B x24], ⟨rot (by kernel_rfl), trivial⟩, rfl⟩ nll
       ·replace h := Qax hb22 h
        refine wx tbk [(1, rp [fu 9, (.tmp 38, (Qe7 p0))] (Qhi x16)), (2, rp [fu 17, (.tmp 39, (Qhi x16))] (I x18)), (4, rp [(.tmp 41, (B ((x18 == 1))))] (B true)), (8, rp [(.tmp 45, (B ((x5.2 == 1))))] (B true)), (12, rp [(.tmp 49, (B ((x11.2 == 1))))] (B true)), (14, rp [(.tmp 50, B true), (.tmp 51, (Qkq x5))] (I ((x5.1.length : Int)))), (16, rp [(.tmp 50, B true), (.tmp 53, (Qfr x11))] (I ((x11.1.length : Int)))), (20, rp [(.tmp 57, (B (((w64 ((x5.1.length : Int) + (x11.1.length : Int))) == 0))))] (B false))] ⟨apc (first := []) (cap := []) (vs := [(Qe7 p0)]) rfl Qmw (Qel N p0 _ hf15) rfl rfl (nlc (NLt.agg _ (nlc (nld Qah _) (nlc (nld Qaa _) nl0))) nl0) (NLt.agg _ (nlc (nld Qah _) (nlc (nld Qaa _) nl0))) rfl, apc (first := []) (cap := []) (vs := [(Qhi x16)]) rfl Ql4 (Qdx N x16 _ hf17) rfl rfl (nlc (NLt.agg _ (nlc (nld Qah _) (nlc (nld Qaa _) nl0))) nl0) nll rfl, asb hb19 (amv rfl), asb hb20 (amv rfl), asb hb21 (amv rfl), ag_ (alm (c := Qam) (l := x5.1) (aln rfl Try.underlying53 rfl)), ag_ (alm (c := Qaj) (l := x11.1) (aln rfl Try.underlying27 rfl)), asb hb22 (amv rfl), trivial⟩ ?_
        refine Qad ?_
        refine Qaf ?_
        obtain rfl := osi h
        exact fend ⟨[B false], ⟨rot (by kernel_rfl), trivial⟩, rfl⟩ nll
      ·replace h := Qax hb21 h
       refine wx tbk [(1, rp [fu 9, (.tmp 38, (Qe7 p0))] (Qhi x16)), (2, rp [fu 17, (.tmp 39, (Qhi x16))] (I x18)), (4, rp [(.tmp 41, (B ((x18 == 1))))] (B true)), (8, rp [(.tmp 45, (B ((x5.2 == 1))))] (B true)), (12, rp [(.tmp 49, (B ((x11.2 == 1))))] (B false))] ⟨apc (first := []) (cap := []) (vs := [(Qe7 p0)]) rfl Qmw (Qel N p0 _ hf15) rfl rfl (nlc (NLt.agg _ (nlc (nld Qah _) (nlc (nld Qaa _) nl0))) nl0) (NLt.agg _ (nlc (nld Qah _) (nlc (nld Qaa _) nl0))) rfl, apc (first := []) (cap := []) (vs := [(Qhi x16)]) rfl Ql4 (Qdx N x16 _ hf17) rfl rfl (nlc (NLt.agg _ (nlc (nld Qah _) (nlc (nld Qaa _) nl0))) nl0) nll rfl, asb hb19 (amv rfl), asb hb20 (amv rfl), asb hb21 (amv rfl), trivial⟩ ?_
       refine Qad ?_
       refine Qaf ?_
       obtain rfl := osi h
       exact fend ⟨[B false], ⟨rot (by kernel_rfl), trivial⟩, rfl⟩ nll
     ·replace h := Qax hb20 h
      refine wx tbk [(1, rp [fu 9, (.tmp 38, (Qe7 p0))] (Qhi x16)), (2, rp [fu 17, (.tmp 39, (Qhi x16))] (I x18)), (4, rp [(.tmp 41, (B ((x18 == 1))))] (B true)), (8, rp [(.tmp 45, (B ((x5.2 == 1))))] (B false))] ⟨apc (first := []) (cap := []) (vs := [(Qe7 p0)]) rfl Qmw (Qel N p0 _ hf15) rfl rfl (nlc (NLt.agg _ (nlc (nld Qah _) (nlc (nld Qaa _) nl0))) nl0) (NLt.agg _ (nlc (nld Qah _) (nlc (nld Qaa _) nl0))) rfl, apc (first := []) (cap := []) (vs := [(Qhi x16)]) rfl Ql4 (Qdx N x16 _ hf17) rfl rfl (nlc (NLt.agg _ (nlc (nld Qah _) (nlc (nld Qaa _) nl0))) nl0) nll rfl, asb hb19 (amv rfl), asb hb20 (amv rfl), trivial⟩ ?_
      refine Qad ?_
      refine Qaf ?_
      obtain rfl := osi h
      exact fend ⟨[B false], ⟨rot (by kernel_rfl), trivial⟩, rfl⟩ nll
    ·replace h := Qax hb19 h
     refine wx tbk [(1, rp [fu 9, (.tmp 38, (Qe7 p0))] (Qhi x16)), (2, rp [fu 17, (.tmp 39, (Qhi x16))] (I x18)), (4, rp [(.tmp 41, (B ((x18 == 1))))] (B false))] ⟨apc (first := []) (cap := []) (vs := [(Qe7 p0)]) rfl Qmw (Qel N p0 _ hf15) rfl rfl (nlc (NLt.agg _ (nlc (nld Qah _) (nlc (nld Qaa _) nl0))) nl0) (NLt.agg _ (nlc (nld Qah _) (nlc (nld Qaa _) nl0))) rfl, apc (first := []) (cap := []) (vs := [(Qhi x16)]) rfl Ql4 (Qdx N x16 _ hf17) rfl rfl (nlc (NLt.agg _ (nlc (nld Qah _) (nlc (nld Qaa _) nl0))) nl0) nll rfl, asb hb19 (amv rfl), trivial⟩ ?_
     refine Qad ?_
     refine Qaf ?_
     obtain rfl := osi h
     exact fend ⟨[B false], ⟨rot (by kernel_rfl), trivial⟩, rfl⟩ nll
   ·replace h := Qax hc14 h
    refine wfn hc14 (by kernel_rfl) ?_
    refine Qap ?_
    refine thn ?_
    obtain ⟨x26, hf25, h⟩ := bno h
    refine wx tbk [(1, rp [fu 18, (.tmp 61, (Qe7 p0))] (Qi6 x26))] ⟨apc (first := []) (cap := []) (vs := [(Qe7 p0)]) rfl Zc5 (Qrx N p0 _ hf25) rfl rfl (nlc (NLt.agg _ (nlc (nld Qah _) (nlc (nld Qaa _) nl0))) nl0) (nld Qau _) rfl, trivial⟩ ?_
    obtain ⟨k27, hk_k27, h⟩ := jko h
    refine wjn (τ := Unit) (fun t => k27 t = some r) (fun _ => ⟨mk 153 [(1, (Qg2 p1)), (2, .ref 0 2 0 0), (5, (Qkq x5)), (7, (Qfr x11)), (8, I x11.2), (9, (Qi6 x26))], [(Qje p0)]⟩) (fun t h => ?_) ?_
    ·subst hk_k27
     obtain ⟨k28, hk_k28, h⟩ := jko h
     refine wjn (τ := Unit) (fun t => k28 t = some r) (fun _ => ⟨mk 153 [(1, (Qg2 p1)), (2, .ref 0 2 0 0), (7, (Qfr x11)), (8, I x11.2)], [(Qje p0)]⟩) (fun t h => ?_) ?_
     ·subst hk_k28
      refine wsq ?_
      obtain ⟨x30, hf29, h⟩ := bno h
      refine wx tbk [(2, rp [fu 19, (.tmp 108, (Qe7 p0)), (.tmp 109, (Qg2 p1))] (B x30))] ⟨apc (first := []) (cap := []) (vs := [(Qe7 p0), (Qg2 p1)]) rfl Zc4 (Qmn N p0 p1 _ hf29) rfl rfl (nlc (NLt.agg _ (nlc (nld Qah _) (nlc (nld Qaa _) nl0))) (nlc (nld Qab _) nl0)) nll rfl, trivial⟩ ?_
      rcases bft ((!x30)) with hc31 | hc31
      ·replace h := Qaw hc31 h
       refine wft hc31 (by kernel_rfl) ?_
       rcases bft ((x11.2 == 1)) with hb32 | hb32
       ·replace h := Qaw hb32 h
        rcases bft (((x11.1.length : Int) == 0)) with hb33 | hb33
        ·replace h := Qaw hb33 h
         obtain ⟨x35, hf34, h⟩ := bno h
         refine wx tbk [(2, rp [(.tmp 113, (B ((x11.2 == 1))))] (B true)), (4, rp [(.tmp 114, B true), (.tmp 115, (Qfr x11))] (I ((x11.1.length : Int)))), (7, rp [(.tmp 118, (B (((x11.1.length : Int) == 0))))] (B true)), (8, rp [(.tmp 119, B true), fu 7] (B x35))] ⟨asb hb32 (amv rfl), ag_ (alm (c := Qaj) (l := x11.1) (aln rfl Try.underlying27 rfl)), asb hb33 (amv rfl), ag_ (apc (first := []) (cap := []) (vs := []) rfl Qvj (Qg5 2000  _ hf34) rfl rfl nl0 nll rfl), trivial⟩ ?_
         refine Qad ?_
         refine Qaf ?_
         obtain rfl := osi h
         exact fend ⟨[B x35], ⟨rot (by kernel_rfl), trivial⟩, rfl⟩ nll
        ·replace h := Qax hb33 h
         refine wx tbk [(2, rp [(.tmp 113, (B ((x11.2 == 1))))] (B true)), (4, rp [(.tmp 114, B true), (.tmp 115, (Qfr x11))] (I ((x11.1.length : Int)))), (7, rp [(.tmp 118, (B (((x11.1.length : Int) == 0))))] (B false))] ⟨asb hb32 (amv rfl), ag_ (alm (c := Qaj) (l := x11.1) (aln rfl Try.underlying27 rfl)), asb hb33 (amv rfl), trivial⟩ ?_
         refine Qad ?_
         refine Qaf ?_
         obtain rfl := osi h
         exact fend ⟨[B false], ⟨rot (by kernel_rfl), trivial⟩, rfl⟩ nll
       ·replace h := Qax hb32 h
        refine wx tbk [(2, rp [(.tmp 113, (B ((x11.2 == 1))))] (B false))] ⟨asb hb32 (amv rfl), trivial⟩ ?_
        refine Qad ?_
        refine Qaf ?_
        obtain rfl := osi h
        exact fend ⟨[B false], ⟨rot (by kernel_rfl), trivial⟩, rfl⟩ nll
      ·replace h := Qax hc31 h
       refine wfn hc31 (by kernel_rfl) ?_
       refine Qap ?_
       refine thn ?_
       obtain ⟨k36, hk_k36, h⟩ := jko h
       refine wjn (τ := Unit) (fun t => k36 t = some r) (fun _ => ⟨mk 153 [(1, (Qg2 p1)), (2, .ref 0 2 0 0), (7, (Qfr x11))], [(Qje p0)]⟩) (fun t h => ?_) ?_
       ·subst hk_k36
        obtain ⟨k37, hk_k37, h⟩ := jko h
        refine wjn (τ := Unit) (fun t => k37 t = some r) (fun _ => ⟨mk 153 [], []⟩) (fun t h => ?_) ?_
        ·subst hk_k37
         obtain ⟨x39, hf38, h⟩ := bno h
         refine wx tbk [(0, rp [fu 7] (B x39))] ⟨apc (first := []) (cap := []) (vs := []) rfl Qvj (Qg5 2000  _ hf38) rfl rfl nl0 nll rfl, trivial⟩ ?_
         refine Qad ?_
         obtain rfl := osi h
         exact fend ⟨[B x39], ⟨rot (by kernel_rfl), trivial⟩, rfl⟩ nll
        ·skip
         refine wx tbk [] trivial ?_
         refine Qan ?_
         refine wmr (mto (n := 153) (l' := [(1, (Qg2 p1)), (2, .ref 0 2 0 0), (7, (Qfr x11)), (11, I 0)]) (own' := [(Qje p0)]) [(1, (Qg2 p1)), (2, .ref 0 2 0 0), (7, (Qfr x11)), (11, I 0)] [0] [(Qje p0)] hφ0 (pc (.rn (.plain _ (nld Qab _))) (pc (.rn (rqr rfl)) (pc (.rn (.plain _ (nld Qab _))) (pc rwl pn)))) (qc (spb (lc (.rn (.plain _ (nld Qah _))) (lc (.rn (.plain _ (nld Qaa _))) ln))) qn)) ?_
         refine Qby (τ := Int) (fun n t => Qdg N p0 p1 x11 k37 n t = some r) (fun y40 => ⟨mk 153 [(1, (Qg2 p1)), (2, .ref 0 2 0 0), (7, (Qfr x11)), (11, I y40)], [(Qje p0)]⟩) (fun t h => by rw [Qdg] at h; cases h) (fun n42 ih y40 h => ?_) N (0) h
         rw [Qdg] at h
         skip
         refine wsq ?_
         refine wx tbk [(2, rp [(.tmp 132, (Qfr x11))] (I ((x11.1.length : Int))))] ⟨alm (c := Qaj) (l := x11.1) (aln rfl Try.underlying27 rfl), trivial⟩ ?_
         rcases bft ((decide (y40 < (x11.1.length : Int)))) with hc43 | hc43
         ·replace h := Qaw hc43 h
          refine wft hc43 (by kernel_rfl) ?_
          refine Qap ?_
          refine thn ?_
          refine wsq ?_
          refine Qan ?_
          obtain ⟨x44, hg45, h⟩ := bno h
          obtain ⟨hi46, hj47⟩ := gsm hg45
          obtain ⟨x48, hg49, h⟩ := bno h
          obtain ⟨hi50, hj51⟩ := gsm hg49
          obtain ⟨x52, hg53, h⟩ := bno h
          obtain ⟨hi54, hj55⟩ := gsm hg53
          obtain ⟨x57, hf56, h⟩ := bno h
          refine wxd tbk [(2, rp [(.tmp 137, (Qfr x11)), (.tmp 138, I y40)] (.dptr (Qaj (x44)) 0)), (7, rp [(.tmp 142, (Q24 p0)), (.tmp 143, I y40)] (.dptr (Qac (x48)) 0)), (11, rp [(.tmp 146, (Qg2 p1)), (.tmp 147, I y40)] (.dptr (Qaj (x52)) 0)), (13, rp [fu 20, (.tmp 145, (Q23 x48)), (.tmp 149, I x52)] (I x57))] ⟨aid rfl Try.underlying27 ti3 rfl rfl hi46 (mgt Qaj hj47) rfl, aid rfl Try.underlying24 ti70 rfl rfl hi50 (mgt Qac hj51) rfl, aid rfl Try.underlying27 ti3 rfl rfl hi54 (mgt Qaj hj55) rfl, apc (first := []) (cap := []) (vs := [(Q23 x48), I x52]) rfl Zc3 (Qqn N x48 x52 _ hf56) rfl rfl (nlc (NLt.agg _ (nlc nll (nlc (nld Qau _) (nlc nll (nlc nll (nlc nll (nlc nll (nlc (nld Qab _) nl0)))))))) (nlc nll nl0)) nll rfl, trivial⟩ ?_
          rcases bft ((x44 != x57)) with hc58 | hc58
          ·replace h := Qaw hc58 h
           refine wft hc58 (by kernel_rfl) ?_
           refine wx tbk [] trivial ?_
           refine Qad ?_
           refine Qas ?_
           refine Qaf ?_
           refine Qaf ?_
           refine Qas ?_
           refine Qaf ?_
           obtain rfl := osi h
           exact fend ⟨[B false], ⟨rot (by kernel_rfl), trivial⟩, rfl⟩ nll
          ·replace h := Qax hc58 h
           refine wfn hc58 (by kernel_rfl) ?_
           refine Qap ?_
           refine bln ?_
           refine thn ?_
           refine wx1 tbk [] trivial ?_
           refine thn ?_
           exact arm (mto (n := 153) [(1, (Qg2 p1)), (2, .ref 0 2 0 0), (7, (Qfr x11)), (11, (I (w64 (y40 + 1))))] [0] [(Qje p0)] hφ0 (pc (.rn (.plain _ (nld Qab _))) (pc (.rn (rqr rfl)) (pc (.rn (.plain _ (nld Qab _))) (pc rwl pn)))) (qc (spb (lc (.rn (.plain _ (nld Qah _))) (lc (.rn (.plain _ (nld Qaa _))) ln))) qn)) (ih (w64 (y40 + 1)) h)
         ·replace h := Qax hc43 h
          refine wfn hc43 (by kernel_rfl) ?_
          refine Qbi ?_
          refine Qay ?_
          refine Qay ?_
          refine Qbh rfl ?_
          refine thn ?_
          exact ⟨(), h, (mto (n := 153) [] [] [] hφ0 pn qn)⟩
       ·skip
        rcases bft ((x11.2 != 0)) with hb59 | hb59
        ·replace h := Qaw hb59 h
         refine wx tbk [(2, rp [(.tmp 123, (B ((x11.2 != 0))))] (B true))] ⟨asb hb59 (amv rfl), trivial⟩ ?_
         refine Qbk (by kernel_rfl) ?_
         refine wx tbk [] trivial ?_
         refine Qad ?_
         refine Qaf ?_
         obtain rfl := osi h
         exact fend ⟨[B false], ⟨rot (by kernel_rfl), trivial⟩, rfl⟩ nll
        ·replace h := Qax hb59 h
         refine wx tbk [(2, rp [(.tmp 123, (B ((x11.2 != 0))))] (B false)), (4, rp [(.tmp 124, B false), (.tmp 125, (Qfr x11))] (I ((x11.1.length : Int)))), (6, rp [(.tmp 124, B false), (.tmp 127, (Qg2 p1))] (I ((p1.length : Int))))] ⟨asb hb59 (amv rfl), ag_ (alm (c := Qaj) (l := x11.1) (aln rfl Try.underlying27 rfl)), ag_ (alm (c := Qaj) (l := p1) (aln rfl Try.underlying27 rfl)), trivial⟩ ?_
         rcases bft (((x11.1.length : Int) != (p1.length : Int))) with hc60 | hc60
         ·replace h := Qaw hc60 h
          refine wft hc60 (by kernel_rfl) ?_
          refine wx tbk [] trivial ?_
          refine Qad ?_
          refine Qaf ?_
          obtain rfl := osi h
          exact fend ⟨[B false], ⟨rot (by kernel_rfl), trivial⟩, rfl⟩ nll
         ·replace h := Qax hc60 h
          refine wfn hc60 (by kernel_rfl) ?_
          refine Qap ?_
          refine thn ?_
          exact ⟨(), h, (mto (n := 153) [(1, (Qg2 p1)), (2, .ref 0 2 0 0), (7, (Qfr x11))] [0] [(Qje p0)] hφ0 (pc (.rn (.plain _ (nld Qab _))) (pc (.rn (rqr rfl)) (pc (.rn (.plain _ (nld Qab _))) pn))) (qc (spb (lc (.rn (.plain _ (nld Qah _))) (lc (.rn (.plain _ (nld Qaa _))) ln))) qn))⟩
     ·skip
      refine wx tbk [] trivial ?_
      refine Qan ?_
      refine wmr (mto (n := 153) (l' := [(1, (Qg2 p1)), (2, .ref 0 2 0 0), (5, (Qkq x5)), (7, (Qfr x11)), (8, I x11.2), (9, (Qi6 x26)), (10, I 0)]) (own' := [(Qje p0)]) [(1, (Qg2 p1)), (2, .ref 0 2 0 0), (5, (Qkq x5)), (7, (Qfr x11)), (8, I x11.2), (9, (Qi6 x26)), (10, I 0)] [0] [(Qje p0)] hφ0 (pc (.rn (.plain _ (nld Qab _))) (pc (.rn (rqr rfl)) (pc (.rn (.plain _ (nld Qau _))) (pc (.rn (.plain _ (nld Qab _))) (pc rwl (pc (.rn (.plain _ (nld Qau _))) (pc rwl pn))))))) (qc (spb (lc (.rn (.plain _ (nld Qah _))) (lc (.rn (.plain _ (nld Qaa _))) ln))) qn)) ?_
      refine Qby (τ := Int) (fun n t => Qdf N x5 x26 k28 n t = some r) (fun y61 => ⟨mk 153 [(1, (Qg2 p1)), (2, .ref 0 2 0 0), (5, (Qkq x5)), (7, (Qfr x11)), (8, I x11.2), (9, (Qi6 x26)), (10, I y61)], [(Qje p0)]⟩) (fun t h => by rw [Qdf] at h; cases h) (fun n63 ih y61 h => ?_) N (0) h
      rw [Qdf] at h
      skip
      refine wsq ?_
      refine wx tbk [(2, rp [(.tmp 79, (Qi6 x26))] (I ((x26.length : Int))))] ⟨alm (c := Qam) (l := x26) (aln rfl Try.underlying64 rfl), trivial⟩ ?_
      rcases bft ((decide (y61 < (x26.length : Int)))) with hc64 | hc64
      ·replace h := Qaw hc64 h
       refine wft hc64 (by kernel_rfl) ?_
       refine Qap ?_
       refine thn ?_
       refine wsq ?_
       refine Qan ?_
       obtain ⟨x65, hg66, h⟩ := bno h
       obtain ⟨hi67, hj68⟩ := gsm hg66
       obtain ⟨x69, hg70, h⟩ := bno h
       obtain ⟨hi71, hj72⟩ := gsm hg70
       rcases bft ((x65.Element != x69.Element)) with hb73 | hb73
       ·replace h := Qaw hb73 h
        refine wxd tbk [(2, rp [(.tmp 84, (Qkq x5)), (.tmp 85, I y61)] (.dptr (Qam (x65)) 0)), (7, rp [(.tmp 89, (Qi6 x26)), (.tmp 90, I y61)] (.dptr (Qam (x69)) 0)), (11, rp [(.tmp 94, (B ((x65.Element != x69.Element))))] (B true))] ⟨aid rfl Try.underlying53 ti57 rfl rfl hi67 (mgt Qam hj68) rfl, aid rfl Try.underlying64 ti66 rfl rfl hi71 (mgt Qam hj72) rfl, asb hb73 (amv rfl), trivial⟩ ?_
        refine Qbk (by kernel_rfl) ?_
        refine wx tbk [] trivial ?_
        refine Qad ?_
        refine Qas ?_
        refine Qaf ?_
        refine Qaf ?_
        refine Qas ?_
        refine Qaf ?_
        obtain rfl := osi h
        exact fend ⟨[B false], ⟨rot (by kernel_rfl), trivial⟩, rfl⟩ nll
       ·replace h := Qax hb73 h
        refine wxd tbk [(2, rp [(.tmp 84, (Qkq x5)), (.tmp 85, I y61)] (.dptr (Qam (x65)) 0)), (7, rp [(.tmp 89, (Qi6 x26)), (.tmp 90, I y61)] (.dptr (Qam (x69)) 0)), (11, rp [(.tmp 94, (B ((x65.Element != x69.Element))))] (B false)), (14, rp [(.tmp 95, B false), (.tmp 96, (Qkq x5)), (.tmp 97, I y61)] (.dptr (Qam (x65)) 0)), (19, rp [(.tmp 95, B false), (.tmp 101, (Qi6 x26)), (.tmp 102, I y61)] (.dptr (Qam (x69)) 0))] ⟨aid rfl Try.underlying53 ti57 rfl rfl hi67 (mgt Qam hj68) rfl, aid rfl Try.underlying64 ti66 rfl rfl hi71 (mgt Qam hj72) rfl, asb hb73 (amv rfl), ag_ (aid rfl Try.underlying53 ti57 rfl rfl hi67 (mgt Qam hj68) rfl), ag_ (aid rfl Try.underlying64 ti66 rfl rfl hi71 (mgt Qam hj72) rfl), trivial⟩ ?_
        rcases bft ((x65.Outlet != x69.Outlet)) with hc74 | hc74
        ·replace h := Qaw hc74 h
         refine wft hc74 (by kernel_rfl) ?_
         refine wx tbk [] trivial ?_
         refine Qad ?_
         refine Qas ?_
         refine Qaf ?_
         refine Qaf ?_
         refine Qas ?_
         refine Qaf ?_
         obtain rfl := osi h
         exact fend ⟨[B false], ⟨rot (by kernel_rfl), trivial⟩, rfl⟩ nll
        ·replace h := Qax hc74 h
         refine wfn hc74 (by kernel_rfl) ?_
         refine Qap ?_
         refine bln ?_
         refine thn ?_
         refine wx1 tbk [] trivial ?_
         refine thn ?_
         exact arm (mto (n := 153) [(1, (Qg2 p1)), (2, .ref 0 2 0 0), (5, (Qkq x5)), (7, (Qfr x11)), (8, I x11.2), (9, (Qi6 x26)), (10, (I (w64 (y61 + 1))))] [0] [(Qje p0)] hφ0 (pc (.rn (.plain _ (nld Qab _))) (pc (.rn (rqr rfl)) (pc (.rn (.plain _ (nld Qau _))) (pc (.rn (.plain _ (nld Qab _))) (pc rwl (pc (.rn (.plain _ (nld Qau _))) (pc rwl pn))))))) (qc (spb (lc (.rn (.plain _ (nld Qah _))) (lc (.rn (.plain _ (nld Qaa _))) ln))) qn)) (ih (w64 (y61 + 1)) h)
      ·replace h := Qax hc64 h
       refine wfn hc64 (by kernel_rfl) ?_
       refine Qbi ?_
       refine Qay ?_
       refine Qay ?_
       refine Qbh rfl ?_
       refine thn ?_
       exact ⟨(), h, (mto (n := 153) [(1, (Qg2 p1)), (2, .ref 0 2 0 0), (7, (Qfr x11)), (8, I x11.2)] [0] [(Qje p0)] hφ0 (pc (.rn (.plain _ (nld Qab _))) (pc (.rn (rqr rfl)) (pc (.rn (.plain _ (nld Qab _))) (pc rwl pn)))) (qc (spb (lc (.rn (.plain _ (nld Qah _))) (lc (.rn (.plain _ (nld Qaa _))) ln))) qn))⟩
    ·skip
     obtain ⟨x76, hf75, h⟩ := bno h
     obtain ⟨x78, hf77, h⟩ := bno h
     rcases bft ((x78 != 0)) with hb79 | hb79
     ·replace h := Qaw hb79 h
      refine wx tbk [(1, rp [fu 9, (.tmp 63, (Qe7 p0))] (Qk3 x76)), (2, rp [fu 17, (.tmp 64, (Qk3 x76))] (I x78)), (4, rp [(.tmp 66, (B ((x78 != 0))))] (B true))] ⟨apc (first := []) (cap := []) (vs := [(Qe7 p0)]) rfl Qmw (Qel N p0 _ hf75) rfl rfl (nlc (NLt.agg _ (nlc (nld Qah _) (nlc (nld Qaa _) nl0))) nl0) (NLt.agg _ (nlc (nld Qah _) (nlc (nld Qaa _) nl0))) rfl, apc (first := []) (cap := []) (vs := [(Qk3 x76)]) rfl Ql4 (Qdx N x76 _ hf77) rfl rfl (nlc (NLt.agg _ (nlc (nld Qah _) (nlc (nld Qaa _) nl0))) nl0) nll rfl, asb hb79 (amv rfl), trivial⟩ ?_
      refine Qbk (by kernel_rfl) ?_
      refine wx tbk [] trivial ?_
      refine Qad ?_
      refine Qaf ?_
      obtain rfl := osi h
      exact fend ⟨[B false], ⟨rot (by kernel_rfl), trivial⟩, rfl⟩ nll
     ·replace h := Qax hb79 h
      rcases bft ((x5.2 != 0)) with hb80 | hb80
      ·replace h := Qaw hb80 h
       refine wx tbk [(1, rp [fu 9, (.tmp 63, (Qe7 p0))] (Qk3 x76)), (2, rp [fu 17, (.tmp 64, (Qk3 x76))] (I x78)), (4, rp [(.tmp 66, (B ((x78 != 0))))] (B false)), (8, rp [(.tmp 70, (B ((x5.2 != 0))))] (B true))] ⟨apc (first := []) (cap := []) (vs := [(Qe7 p0)]) rfl Qmw (Qel N p0 _ hf75) rfl rfl (nlc (NLt.agg _ (nlc (nld Qah _) (nlc (nld Qaa _) nl0))) nl0) (NLt.agg _ (nlc (nld Qah _) (nlc (nld Qaa _) nl0))) rfl, apc (first := []) (cap := []) (vs := [(Qk3 x76)]) rfl Ql4 (Qdx N x76 _ hf77) rfl rfl (nlc (NLt.agg _ (nlc (nld Qah _) (nlc (nld Qaa _) nl0))) nl0) nll rfl, asb hb79 (amv rfl), asb hb80 (amv rfl), trivial⟩ ?_
       refine Qbk (by kernel_rfl) ?_
       refine wx tbk [] trivial ?_
       refine Qad ?_
       refine Qaf ?_
       obtain rfl := osi h
       exact fend ⟨[B false], ⟨rot (by kernel_rfl), trivial⟩, rfl⟩ nll
      ·replace h := Qax hb80 h
       refine wx tbk [(1, rp [fu 9, (.tmp 63, (Qe7 p0))] (Qk3 x76)), (2, rp [fu 17, (.tmp 64, (Qk3 x76))] (I x78)), (4, rp [(.tmp 66, (B ((x78 != 0))))] (B false)), (8, rp [(.tmp 70, (B ((x5.2 != 0))))] (B false)), (10, rp [(.tmp 71, B false), (.tmp 72, (Qkq x5))] (I ((x5.1.length : Int)))), (12, rp [(.tmp 71, B false), (.tmp 74, (Qi6 x26))] (I ((x26.length : Int))))] ⟨apc (first := []) (cap := []) (vs := [(Qe7 p0)]) rfl Qmw (Qel N p0 _ hf75) rfl rfl (nlc (NLt.agg _ (nlc (nld Qah _) (nlc (nld Qaa _) nl0))) nl0) (NLt.agg _ (nlc (nld Qah _) (nlc (nld Qaa _) nl0))) rfl, apc (first := []) (cap := []) (vs := [(Qk3 x76)]) rfl Ql4 (Qdx N x76 _ hf77) rfl rfl (nlc (NLt.agg _ (nlc (nld Qah _) (nlc (nld Qaa _) nl0))) nl0) nll rfl, asb hb79 (amv rfl), asb hb80 (amv rfl), ag_ (alm (c := Qam) (l := x5.1) (aln rfl Try.underlying53 rfl)), ag_ (alm (c := Qam) (l := x26) (aln rfl Try.underlying64 rfl)), trivial⟩ ?_
       rcases bft (((x5.1.length : Int) != (x26.length : Int))) with hc81 | hc81
       ·replace h := Qaw hc81 h
        refine wft hc81 (by kernel_rfl) ?_
        refine wx tbk [] trivial ?_
        refine Qad ?_
        refine Qaf ?_
        obtain rfl := osi h
        exact fend ⟨[B false], ⟨rot (by kernel_rfl), trivial⟩, rfl⟩ nll
       ·replace h := Qax hc81 h
        refine wfn hc81 (by kernel_rfl) ?_
        refine Qap ?_
        refine thn ?_
        exact ⟨(), h, (mto (n := 153) [(1, (Qg2 p1)), (2, .ref 0 2 0 0), (5, (Qkq x5)), (7, (Qfr x11)), (8, I x11.2), (9, (Qi6 x26))] [0] [(Qje p0)] hφ0 (pc (.rn (.plain _ (nld Qab _))) (pc (.rn (rqr rfl)) (pc (.rn (.plain _ (nld Qau _))) (pc (.rn (.plain _ (nld Qab _))) (pc rwl (pc (.rn (.plain _ (nld Qau _))) pn)))))) (qc (spb (lc (.rn (.plain _ (nld Qah _))) (lc (.rn (.plain _ (nld Qaa _))) ln))) qn))⟩
  ·skip
   obtain ⟨x83, hf82, h⟩ := bno h
   rcases bft ((!x83)) with hb84 | hb84
   ·replace h := Qaw hb84 h
    refine wx tbk [(1, rp [fu 6, (.tmp 12, (Qe7 p0)), ((.const (.slice none 0 0)), nilS)] (B x83)), (3, rp [(.tmp 14, (B ((!x83))))] (B true))] ⟨awk (rd' := (.func 6, (.fn (.func 6) [] [])) :: [(.tmp 12, (Qe7 p0)), ((.const (.slice none 0 0)), Qy1)]) ⟨rfl, lrf, rfl, lrf, rfl, Less.nil, trivial⟩ (apc (first := []) (cap := []) (vs := [(Qe7 p0), Qy1]) rfl Q82 (Qn7 N p0 ([]) _ hf82) rfl rfl (nlc (NLt.agg _ (nlc (nld Qah _) (nlc (nld Qaa _) nl0))) (nlc (nld Qai _) nl0)) nll rfl), asb hb84 (amv rfl), trivial⟩ ?_
    refine Qbk (by kernel_rfl) ?_
    obtain ⟨x86, hf85, h⟩ := bno h
    refine wx tbk [(0, rp [fu 7] (B x86))] ⟨apc (first := []) (cap := []) (vs := []) rfl Qvj (Qg5 2000  _ hf85) rfl rfl nl0 nll rfl, trivial⟩ ?_
    refine Qad ?_
    refine Qaf ?_
    obtain rfl := osi h
    exact fend ⟨[B x86], ⟨rot (by kernel_rfl), trivial⟩, rfl⟩ nll
   ·replace h := Qax hb84 h
    refine wx tbk [(1, rp [fu 6, (.tmp 12, (Qe7 p0)), ((.const (.slice none 0 0)), nilS)] (B x83)), (3, rp [(.tmp 14, (B ((!x83))))] (B false)), (5, rp [(.tmp 15, B false), (.tmp 16, (Qg2 p1))] (I ((p1.length : Int))))] ⟨awk (rd' := (.func 6, (.fn (.func 6) [] [])) :: [(.tmp 12, (Qe7 p0)), ((.const (.slice none 0 0)), Qy1)]) ⟨rfl, lrf, rfl, lrf, rfl, Less.nil, trivial⟩ (apc (first := []) (cap := []) (vs := [(Qe7 p0), Qy1]) rfl Q82 (Qn7 N p0 ([]) _ hf82) rfl rfl (nlc (NLt.agg _ (nlc (nld Qah _) (nlc (nld Qaa _) nl0))) (nlc (nld Qai _) nl0)) nll rfl), asb hb84 (amv rfl), ag_ (alm (c := Qaj) (l := p1) (aln rfl Try.underlying27 rfl)), trivial⟩ ?_
    rcases bft ((decide ((p1.length : Int) > 25))) with hc87 | hc87
    ·replace h := Qaw hc87 h
     refine wft hc87 (by kernel_rfl) ?_
     obtain ⟨x89, hf88, h⟩ := bno h
     refine wx tbk [(0, rp [fu 7] (B x89))] ⟨apc (first := []) (cap := []) (vs := []) rfl Qvj (Qg5 2000  _ hf88) rfl rfl nl0 nll rfl, trivial⟩ ?_
     refine Qad ?_
     refine Qaf ?_
     obtain rfl := osi h
     exact fend ⟨[B x89], ⟨rot (by kernel_rfl), trivial⟩, rfl⟩ nll
    ·replace h := Qax hc87 h
     refine wfn hc87 (by kernel_rfl) ?_
     refine Qap ?_
     refine thn ?_
     exact ⟨(), h, (mto (n := 153) [(1, (Qg2 p1)), (2, .ref 0 2 0 0)] [0] [(Qje p0)] hφ0 (pc (.rn (.plain _ (nld Qab _))) (pc (.rn (rqr rfl)) pn)) (qc (spb (lc (.rn (.plain _ (nld Qah _))) (lc (.rn (.plain _ (nld Qaa _))) ln))) qn))⟩
end Go.Proofs.Ytmbhnllcfmiajaa
