/-
  Functions of the program: what they compute, as plain functions, and that they do. No conditions.
-/
import Derived.Test.YtgdepcgbjjgnfaaX3
namespace Go.Proofs.Ytgdepcgbjjgnfaa
open Go.RowKit
def Qd8 (_N : Nat) (p0 : Int) (_p1 : Int) (_p2 : Int) (p3 : (List GHour)) (_p4 : Nat) (_p5 : Nat) (p6 : (Nat → Int)) (p7 : (Nat → Int)) (_p8 : (List Int)) (_p9 : (List Int)) : Option (GStair × Bool) :=
  chk (decide (0 ≤ p0) && decide (p0.toNat < 24)) <|
  (getI p3 p0).bind fun x6 =>
  bif ((p6 p0.toNat) == (x6.Stairs.length : Int)) then
   some ((⟨0, 0⟩ : GStair), false)
  else
   chk (decide (0 ≤ p0) && decide (p0.toNat < 24)) <|
   chk (decide (0 ≤ p0) && decide (p0.toNat < 24)) <|
   (getI x6.Stairs (p6 p0.toNat)).bind fun x13 =>
   some ((⟨p7 p0.toNat, x13.Price⟩ : GStair), true)
def Qvy (p3 : (List GHour)) : AV := .dat 2 ((p3 : List GHour).map Qaj)
def Qj0 (p1 : Int) (p2 : Int) (p3 : (List GHour)) (p4 : Nat) (p5 : Nat) (p6 : (Nat → Int)) (p7 : (Nat → Int)) : Slot := .own 53 [((I (p1)) :: (I (p2)) :: (Qvy p3) :: (.own 1 1 (0) (p4)) :: (.own 2 1 (0) (p5)) :: (arrF 24 p6 ++ arrF 24 p7))]
def Qvx (p8 : (List Int)) : Slot := .own 1 ((p8 : List Int).map Qab)
def Qvw (p9 : (List Int)) : Slot := .own 1 ((p9 : List Int).map Qab)
set_option maxRecDepth 100000 in
set_option maxHeartbeats 4000000 in
theorem Qkt (N : Nat) (p0 : Int) (p1 : Int) (p2 : Int) (p3 : (List GHour)) (p4 : Nat) (p5 : Nat) (p6 : (Nat → Int)) (p7 : (Nat → Int)) (p8 : (List Int)) (p9 : (List Int)) (r : (GStair × Bool)) (h : Qd8 N p0 p1 p2 p3 p4 p5 p6 p7 p8 p9 = some r) : Spec Try.prog 102 [(.ref 0 53 (0) 0), (I (p0))] [(Qj0 p1 p2 p3 p4 p5 p6 p7), (Qvx p8), (Qvw p9)] (.tup [(.agg [(I (r.1.Amount)), (I (r.1.Price))]), (B (r.2))]) [(Qj0 p1 p2 p3 p4 p5 p6 p7), (Qvx p8), (Qvw p9), (.own 2 [[(I (r.1.Amount)), (I (r.1.Price))]])] := by
  refine Qal Try.func102 rfl 4 (nle rfl) (fun X φ0 w0 hφ0 => ?_)
  unfold Qd8 at h
  refine Qc3 ?_
  refine wx tbk [] trivial ?_
  refine wsq ?_
  obtain ⟨hi5, h⟩ := cko h
  obtain ⟨hi5a, hi5b⟩ := Qa1 hi5
  obtain ⟨x6, hg7, h⟩ := bno h
  obtain ⟨hi8, hj9⟩ := gsm hg7
  refine wxd tbk [(2, rb [(.tmp 6, .ref 0 53 0 0)] [(0, (Qj0 p1 p2 p3 p4 p5 p6 p7))] (.ref 0 53 0 0)), (4, rb [(.tmp 9, .ref 0 53 0 5), (.tmp 7, I p0)] [(0, (Qj0 p1 p2 p3 p4 p5 p6 p7))] (.ref 0 53 0 (5 + p0.toNat * 1))), (5, rb [(.tmp 10, (.ref 0 53 0 (5 + p0.toNat * 1)))] [(0, (Qj0 p1 p2 p3 p4 p5 p6 p7))] (I (p6 p0.toNat))), (7, rb [(.tmp 12, .ref 0 53 0 0)] [(0, (Qj0 p1 p2 p3 p4 p5 p6 p7))] (.ref 0 53 0 0)), (12, rp [(.tmp 16, (Qvy p3)), (.tmp 17, I p0)] (.dptr (Qaj (x6)) 0)), (15, rp [(.tmp 20, (.dat 2 ((x6.Stairs : List GStair).map Qan)))] (I ((x6.Stairs.length : Int))))] ⟨Qbz rfl, Qes rfl Try.underlying150 ti3 (odt hi5a) (odt hi5b) rfl, ald rfl ti3 (by decide) rfl (Qi0 (n := 24) (odt hi5b) (nle rfl)) (Qmy (pre := [I p1, I p2, (Qvy p3), (.own 1 1 (0) (p4)), (.own 2 1 (0) (p5))]) (post := arrF 24 p7) (n := 24) (f := p6) (by kernel_rfl) rfl (odt hi5b)), Qbz rfl, aid rfl Try.underlying45 ti62 rfl rfl hi8 (mgt Qaj hj9) rfl, alm (c := Qan) (l := x6.Stairs) (aln rfl Try.underlying60 rfl), trivial⟩ ?_
  rcases bft (((p6 p0.toNat) == (x6.Stairs.length : Int))) with hc10 | hc10
  ·replace h := Qar hc10 h
   refine wft hc10 (by kernel_rfl) ?_
   refine wx tbk [(0, rp [] (.agg [I 0, I 0]))] ⟨Qbk (vs := []) rfl ts64 tz64 rfl (by rfl) rfl, trivial⟩ ?_
   refine wmr (mto (n := 49) (l' := [(4, .ref 3 2 0 0), (5, B false)]) (own' := [(Qj0 p1 p2 p3 p4 p5 p6 p7), (Qvx p8), (Qvw p9), (.own 2 [[(I (((⟨0, 0⟩ : GStair).Amount))), (I (((⟨0, 0⟩ : GStair).Price)))]])]) [(4, .ref 3 2 0 0), (5, B false)] [0, 1, 2, 3] [(Qj0 p1 p2 p3 p4 p5 p6 p7), (Qvx p8), (Qvw p9), (.own 2 [[I 0, I 0]])] hφ0 (pc (.rn (rqr rfl)) (pc rwl pn)) (qc (spb (lc rwl (lc rwl (lc (.rn (.plain _ (nld Qac _))) (lc (.rn (Qaf rfl)) (lc (.rn (Qaf rfl)) (Qbh (Qaq fun _ => rwl) (Qaq fun _ => rwl)))))))) (qc (spr Qaa) (qc (spr Qaa) (qc (spb (lc rwl (lc rwl ln))) qn))))) ?_
   refine Qah ?_
   refine Qad ?_
   obtain rfl := osi h
   exact ⟨_, Mor.rfl, Qdi (vs := [(.agg [(I ((⟨0, 0⟩ : GStair).Amount)), (I ((⟨0, 0⟩ : GStair).Price))]), B false]) ⟨Qc9 (n := 3) (m := 2) (j := 0) (i := 0) (xs := [[(I ((⟨0, 0⟩ : GStair).Amount)), (I ((⟨0, 0⟩ : GStair).Price))]]) (by kernel_rfl) (by kernel_rfl) ti64 (by decide) rfl (nle rfl) rfl, rot (by kernel_rfl), trivial⟩ rfl (NLt.tup _ (nlc (NLt.of0 (NLt.agg _ (nlc nll (nlc nll nl0)))) (nlc (NLt.of0 nll) nl0))) (by kernel_rfl) (Qau (Qbt (nlc (NLt.of0 nll) (nlc (NLt.of0 nll) (nlc (NLt.of0 (nld Qac _)) (nlc (NLt.own _ _ _ _ (by decide)) (nlc (NLt.own _ _ _ _ (by decide)) (Qfl Qdn Qdn))))))) (Qau (Qd9 Qaa _) (Qau (Qd9 Qaa _) (Qau (Qbt (nlc (NLt.of0 nll) (nlc (NLt.of0 nll) nl0))) Qb0))))⟩
  ·replace h := Qas hc10 h
   refine wfn hc10 (by kernel_rfl) ?_
   refine Qag ?_
   refine thn ?_
   obtain ⟨hi11, h⟩ := cko h
   obtain ⟨hi11a, hi11b⟩ := Qa1 hi11
   obtain ⟨hi12, h⟩ := cko h
   obtain ⟨hi12a, hi12b⟩ := Qa1 hi12
   obtain ⟨x13, hg14, h⟩ := bno h
   obtain ⟨hi15, hj16⟩ := gsm hg14
   refine wxd tbk [(2, rb [(.tmp 24, .ref 0 53 0 0)] [(0, (Qj0 p1 p2 p3 p4 p5 p6 p7))] (.ref 0 53 0 0)), (4, rb [(.tmp 27, .ref 0 53 0 29), (.tmp 25, I p0)] [(0, (Qj0 p1 p2 p3 p4 p5 p6 p7))] (.ref 0 53 0 (29 + p0.toNat * 1))), (5, rb [(.tmp 28, (.ref 0 53 0 (29 + p0.toNat * 1)))] [(0, (Qj0 p1 p2 p3 p4 p5 p6 p7))] (I (p7 p0.toNat))), (7, rb [(.tmp 30, .ref 0 53 0 0)] [(0, (Qj0 p1 p2 p3 p4 p5 p6 p7))] (.ref 0 53 0 0)), (12, rp [(.tmp 34, (Qvy p3)), (.tmp 35, I p0)] (.dptr (Qaj (x6)) 0)), (17, rb [(.tmp 39, .ref 0 53 0 0)] [(0, (Qj0 p1 p2 p3 p4 p5 p6 p7))] (.ref 0 53 0 0)), (19, rb [(.tmp 42, .ref 0 53 0 5), (.tmp 40, I p0)] [(0, (Qj0 p1 p2 p3 p4 p5 p6 p7))] (.ref 0 53 0 (5 + p0.toNat * 1))), (20, rb [(.tmp 43, (.ref 0 53 0 (5 + p0.toNat * 1)))] [(0, (Qj0 p1 p2 p3 p4 p5 p6 p7))] (I (p6 p0.toNat))), (21, rp [(.tmp 38, (.dat 2 ((x6.Stairs : List GStair).map Qan))), (.tmp 44, I (p6 p0.toNat))] (.dptr (Qan (x13)) 0)), (24, rp [(.tmp 29, I (p7 p0.toNat)), (.tmp 47, I x13.Price)] (.agg [I (p7 p0.toNat), I x13.Price]))] ⟨Qbz rfl, Qes rfl Try.underlying150 ti3 (odt hi11a) (odt hi11b) rfl, ald rfl ti3 (by decide) rfl (Qi0 (n := 24) (odt hi11b) (nle rfl)) (Qmy (pre := ((I p1) :: (I p2) :: (Qvy p3) :: (.own 1 1 (0) (p4)) :: (.own 2 1 (0) (p5)) :: arrF 24 p6)) (post := []) (n := 24) (f := p7) (by kernel_rfl) rfl (odt hi11b)), Qbz rfl, aid rfl Try.underlying45 ti62 rfl rfl hi8 (mgt Qaj hj9) rfl, Qbz rfl, Qes rfl Try.underlying150 ti3 (odt hi12a) (odt hi12b) rfl, ald rfl ti3 (by decide) rfl (Qi0 (n := 24) (odt hi12b) (nle rfl)) (Qmy (pre := [I p1, I p2, (Qvy p3), (.own 1 1 (0) (p4)), (.own 2 1 (0) (p5))]) (post := arrF 24 p7) (n := 24) (f := p6) (by kernel_rfl) rfl (odt hi12b)), aid rfl Try.underlying60 ti64 rfl rfl hi15 (mgt Qan hj16) rfl, Qbk (vs := [I (p7 p0.toNat), I x13.Price]) rfl ts64 tz64 rfl (by rfl) rfl, trivial⟩ ?_
   refine wmr (mto (n := 49) (l' := [(4, .ref 3 2 0 0), (5, B true)]) (own' := [(Qj0 p1 p2 p3 p4 p5 p6 p7), (Qvx p8), (Qvw p9), (.own 2 [[(I (((⟨p7 p0.toNat, x13.Price⟩ : GStair).Amount))), (I (((⟨p7 p0.toNat, x13.Price⟩ : GStair).Price)))]])]) [(4, .ref 3 2 0 0), (5, B true)] [0, 1, 2, 3] [(Qj0 p1 p2 p3 p4 p5 p6 p7), (Qvx p8), (Qvw p9), (.own 2 [[I (p7 p0.toNat), I x13.Price]])] hφ0 (pc (.rn (rqr rfl)) (pc rwl pn)) (qc (spb (lc rwl (lc rwl (lc (.rn (.plain _ (nld Qac _))) (lc (.rn (Qaf rfl)) (lc (.rn (Qaf rfl)) (Qbh (Qaq fun _ => rwl) (Qaq fun _ => rwl)))))))) (qc (spr Qaa) (qc (spr Qaa) (qc (spb (lc rwl (lc rwl ln))) qn))))) ?_
   refine Qah ?_
   obtain rfl := osi h
   exact ⟨_, Mor.rfl, Qdi (vs := [(.agg [(I ((⟨p7 p0.toNat, x13.Price⟩ : GStair).Amount)), (I ((⟨p7 p0.toNat, x13.Price⟩ : GStair).Price))]), B true]) ⟨Qc9 (n := 3) (m := 2) (j := 0) (i := 0) (xs := [[(I ((⟨p7 p0.toNat, x13.Price⟩ : GStair).Amount)), (I ((⟨p7 p0.toNat, x13.Price⟩ : GStair).Price))]]) (by kernel_rfl) (by kernel_rfl) ti64 (by decide) rfl (nle rfl) rfl, rot (by kernel_rfl), trivial⟩ rfl (NLt.tup _ (nlc (NLt.of0 (NLt.agg _ (nlc nll (nlc nll nl0)))) (nlc (NLt.of0 nll) nl0))) (by kernel_rfl) (Qau (Qbt (nlc (NLt.of0 nll) (nlc (NLt.of0 nll) (nlc (NLt.of0 (nld Qac _)) (nlc (NLt.own _ _ _ _ (by decide)) (nlc (NLt.own _ _ _ _ (by decide)) (Qfl Qdn Qdn))))))) (Qau (Qd9 Qaa _) (Qau (Qd9 Qaa _) (Qau (Qbt (nlc (NLt.of0 nll) (nlc (NLt.of0 nll) nl0))) Qb0))))⟩
def Qb3 (N : Nat) (p0 : Int) (p1 : Int) (p2 : Int) (x6 : Int) (p7 : Nat) (p10 : (List Int)) (y13 : (Nat → Int)) (y14 : (Nat → Int)) : Nat → Int → (List Int) → Option ((Nat → Int) × (Nat → Int) × (List Int) × (List Int))
  | 0, _, _ => none
  | n20 + 1, y16, y17 =>
    bif (decide (y16 < p1)) then
     chk (decide (0 ≤ y16) && decide (y16.toNat < p7)) <|
     (y17[y16.toNat]?).bind fun x23 =>
     chk (decide (0 ≤ y16) && decide (y16.toNat < p7)) <|
     (y17[y16.toNat]?).bind fun _ =>
     Qb3 N p0 p1 p2 x6 p7 p10 y13 y14 n20 (w64 (y16 + 1)) (y17.set y16.toNat (w64 (x23 + p2)))
    else
     some (y13, y14, p10.set p0.toNat (w64 (x6 + p2)), y17)
def Qep (N : Nat) (p0 : Int) (p1 : Int) (p2 : Int) (_p3 : Int) (_p4 : Int) (p5 : (List GHour)) (p6 : Nat) (p7 : Nat) (p8 : (Nat → Int)) (p9 : (Nat → Int)) (p10 : (List Int)) (p11 : (List Int)) : Option ((Nat → Int) × (Nat → Int) × (List Int) × (List Int)) :=
  chk (decide (0 ≤ p0) && decide (p0.toNat < p6)) <|
  (p10[p0.toNat]?).bind fun x6 =>
  chk (decide (0 ≤ p0) && decide (p0.toNat < p6)) <|
  (p10[p0.toNat]?).bind fun _ =>
  chk (decide (0 ≤ p0) && decide (p0.toNat < 24)) <|
  chk (decide (0 ≤ p0) && decide (p0.toNat < 24)) <|
  Qbr (fun ⟨y13, y14⟩ =>
    Qb3 N p0 p1 p2 x6 p7 p10 y13 y14 N p0 p11) fun k15 : (Nat → Int) × (Nat → Int) → Option ((Nat → Int) × (Nat → Int) × (List Int) × (List Int)) =>
  chk (decide (0 ≤ p0) && decide (p0.toNat < 24)) <|
  bif (((setF p9 p0.toNat (w64 ((p9 p0.toNat) - p2))) p0.toNat) == 0) then
   chk (decide (0 ≤ p0) && decide (p0.toNat < 24)) <|
   chk (decide (0 ≤ p0) && decide (p0.toNat < 24)) <|
   (getI p5 p0).bind fun x32 =>
   chk (decide (0 ≤ p0) && decide (p0.toNat < 24)) <|
   bif (decide (((setF p8 p0.toNat (w64 ((p8 p0.toNat) + 1))) p0.toNat) < (x32.Stairs.length : Int))) then
    chk (decide (0 ≤ p0) && decide (p0.toNat < 24)) <|
    (getI x32.Stairs ((setF p8 p0.toNat (w64 ((p8 p0.toNat) + 1))) p0.toNat)).bind fun x39 =>
    chk (decide (0 ≤ p0) && decide (p0.toNat < 24)) <|
    k15 (setF p8 p0.toNat (w64 ((p8 p0.toNat) + 1)), setF (setF p9 p0.toNat (w64 ((p9 p0.toNat) - p2))) p0.toNat x39.Amount)
   else
    k15 (setF p8 p0.toNat (w64 ((p8 p0.toNat) + 1)), setF p9 p0.toNat (w64 ((p9 p0.toNat) - p2)))
  else
   k15 (p8, setF p9 p0.toNat (w64 ((p9 p0.toNat) - p2)))
def Qkp (p5 : (List GHour)) : AV := .dat 2 ((p5 : List GHour).map Qaj)
def Qre (p3 : Int) (p4 : Int) (p5 : (List GHour)) (p6 : Nat) (p7 : Nat) (p8 : (Nat → Int)) (p9 : (Nat → Int)) : Slot := .own 53 [((I (p3)) :: (I (p4)) :: (Qkp p5) :: (.own 1 1 (0) (p6)) :: (.own 2 1 (0) (p7)) :: (arrF 24 p8 ++ arrF 24 p9))]
def Qxh (p10 : (List Int)) : Slot := .own 1 ((p10 : List Int).map Qab)
def Qss (p11 : (List Int)) : Slot := .own 1 ((p11 : List Int).map Qab)
def Qk0 (p10 : (List Int)) (p0 : Int) (x6 : Int) (p2 : Int) : Slot := .own 1 ((p10.set p0.toNat (w64 (x6 + p2)) : List Int).map Qab)
def Qnp (p3 : Int) (p4 : Int) (p5 : (List GHour)) (p6 : Nat) (p7 : Nat) (p8 : (Nat → Int)) (p9 : (Nat → Int)) (p0 : Int) (p2 : Int) : Slot := .own 53 [((I (p3)) :: (I (p4)) :: (Qkp p5) :: (.own 1 1 (0) (p6)) :: (.own 2 1 (0) (p7)) :: (arrF 24 p8 ++ arrF 24 (setF p9 p0.toNat (w64 ((p9 p0.toNat) - p2)))))]
def Qmu (p3 : Int) (p4 : Int) (p5 : (List GHour)) (p6 : Nat) (p7 : Nat) (y13 : (Nat → Int)) (y14 : (Nat → Int)) : Slot := .own 53 [((I (p3)) :: (I (p4)) :: (Qkp p5) :: (.own 1 1 (0) (p6)) :: (.own 2 1 (0) (p7)) :: (arrF 24 y13 ++ arrF 24 y14))]
def Qnq (y17 : (List Int)) : Slot := .own 1 ((y17 : List Int).map Qab)
def Qm4 (p3 : Int) (p4 : Int) (p5 : (List GHour)) (p6 : Nat) (p7 : Nat) (p8 : (Nat → Int)) (p0 : Int) (p9 : (Nat → Int)) (p2 : Int) : Slot := .own 53 [((I (p3)) :: (I (p4)) :: (Qkp p5) :: (.own 1 1 (0) (p6)) :: (.own 2 1 (0) (p7)) :: (arrF 24 (setF p8 p0.toNat (w64 ((p8 p0.toNat) + 1))) ++ arrF 24 (setF p9 p0.toNat (w64 ((p9 p0.toNat) - p2)))))]
set_option maxRecDepth 100000 in
set_option maxHeartbeats 4000000 in
theorem Qks (N : Nat) (p0 : Int) (p1 : Int) (p2 : Int) (p3 : Int) (p4 : Int) (p5 : (List GHour)) (p6 : Nat) (p7 : Nat) (p8 : (Nat → Int)) (p9 : (Nat → Int)) (p10 : (List Int)) (p11 : (List Int)) (r : ((Nat → Int) × (Nat → Int) × (List Int) × (List Int))) (h : Qep N p0 p1 p2 p3 p4 p5 p6 p7 p8 p9 p10 p11 = some r) : Spec Try.prog 103 [(.ref 0 53 (0) 0), (I (p0)), (I (p1)), (I (p2))] [(Qre p3 p4 p5 p6 p7 p8 p9), (Qxh p10), (Qss p11)] (.tup []) [(.own 53 [((I (p3)) :: (I (p4)) :: (Qkp p5) :: (.own 1 1 (0) (p6)) :: (.own 2 1 (0) (p7)) :: (arrF 24 r.1 ++ arrF 24 r.2.1))]), (.own 1 ((r.2.2.1 : List Int).map Qab)), (.own 1 ((r.2.2.2 : List Int).map Qab))] := by
  refine Qal Try.func103 rfl 3 (nle rfl) (fun X φ0 w0 hφ0 => ?_)
  unfold Qep at h
  refine Qc3 ?_
  obtain ⟨hi5, h⟩ := cko h
  obtain ⟨hi5a, hi5b⟩ := Qa1 hi5
  obtain ⟨x6, hg7, h⟩ := bno h
  obtain ⟨hi8, h⟩ := cko h
  obtain ⟨hi8a, hi8b⟩ := Qa1 hi8
  obtain ⟨x9, hg10, h⟩ := bno h
  refine wx tbk [(1, rb [(.tmp 10, .ref 0 53 0 0)] [(0, (Qre p3 p4 p5 p6 p7 p8 p9))] (.ref 0 53 0 0)), (5, rb [(.tmp 13, (.own 1 1 (0) (p6))), (.tmp 14, I p0)] [(1, (Qxh p10))] (.ref 1 1 (p0.toNat) 0)), (6, rb [(.tmp 15, (.ref 1 1 (p0.toNat) 0))] [(1, (Qxh p10))] (I x6)), (9, rb [(.tmp 13, (.own 1 1 (0) (p6))), (.tmp 14, I p0)] [(1, (Qxh p10))] (.ref 1 1 (p0.toNat) 0)), (10, ⟨[(.tmp 19, (.ref 1 1 (p0.toNat) 0)), (.tmp 18, (I (w64 (x6 + p2))))], [(1, (Qxh p10))], .any, [(1, (Qk0 p10 p0 x6 p2))], false⟩)] ⟨Qbz rfl, aio rfl Try.underlying23 ti3 (odt hi5a) (odt hi5b) (Nat.zero_add _), ald rfl ti3 (by decide) (mgt Qab hg7) (nle rfl) rfl, aio rfl Try.underlying23 ti3 (odt hi8a) (odt hi8b) (Nat.zero_add _), ast rfl ti3 (by rfl) (mgt Qab hg10) (nle rfl) (Qel Qab rfl), trivial⟩ ?_
  obtain ⟨hi11, h⟩ := cko h
  obtain ⟨hi11a, hi11b⟩ := Qa1 hi11
  obtain ⟨hi12, h⟩ := cko h
  obtain ⟨hi12a, hi12b⟩ := Qa1 hi12
  refine wxd tbk [(2, rb [(.tmp 20, .ref 0 53 0 0)] [(0, (Qre p3 p4 p5 p6 p7 p8 p9))] (.ref 0 53 0 0)), (4, rb [(.tmp 23, .ref 0 53 0 29), (.tmp 21, I p0)] [(0, (Qre p3 p4 p5 p6 p7 p8 p9))] (.ref 0 53 0 (29 + p0.toNat * 1))), (5, rb [(.tmp 24, (.ref 0 53 0 (29 + p0.toNat * 1)))] [(0, (Qre p3 p4 p5 p6 p7 p8 p9))] (I (p9 p0.toNat))), (8, rb [(.tmp 20, .ref 0 53 0 0)] [(0, (Qre p3 p4 p5 p6 p7 p8 p9))] (.ref 0 53 0 0)), (10, rb [(.tmp 29, .ref 0 53 0 29), (.tmp 21, I p0)] [(0, (Qre p3 p4 p5 p6 p7 p8 p9))] (.ref 0 53 0 (29 + p0.toNat * 1))), (11, ⟨[(.tmp 30, (.ref 0 53 0 (29 + p0.toNat * 1))), (.tmp 27, (I (w64 ((p9 p0.toNat) - p2))))], [(0, (Qre p3 p4 p5 p6 p7 p8 p9))], .any, [(0, (Qnp p3 p4 p5 p6 p7 p8 p9 p0 p2))], false⟩)] ⟨Qbz rfl, Qes rfl Try.underlying150 ti3 (odt hi11a) (odt hi11b) rfl, ald rfl ti3 (by decide) rfl (Qi0 (n := 24) (odt hi11b) (nle rfl)) (Qmy (pre := ((I p3) :: (I p4) :: (Qkp p5) :: (.own 1 1 (0) (p6)) :: (.own 2 1 (0) (p7)) :: arrF 24 p8)) (post := []) (n := 24) (f := p9) (by kernel_rfl) rfl (odt hi11b)), Qbz rfl, Qes rfl Try.underlying150 ti3 (odt hi12a) (odt hi12b) rfl, ast rfl ti3 (by rfl) rfl (Qi0 (n := 24) (odt hi12b) (nle rfl)) (Qrv (pre := ((I p3) :: (I p4) :: (Qkp p5) :: (.own 1 1 (0) (p6)) :: (.own 2 1 (0) (p7)) :: arrF 24 p8)) (post := []) (n := 24) (f := p9) (by kernel_rfl) rfl (by kernel_rfl) (odt hi12b)), trivial⟩ ?_
  obtain ⟨k15, hk_k15, h⟩ := jko h
  refine wjn (τ := (Nat → Int) × (Nat → Int)) (fun t => k15 t = some r) (fun ⟨y13, y14⟩ => ⟨mk 97 [(0, .ref 0 53 0 0), (1, I p0), (2, I p1), (3, I p2)], [(Qmu p3 p4 p5 p6 p7 y13 y14), (Qk0 p10 p0 x6 p2), (Qss p11)]⟩) (fun t h => ?_) ?_
  ·subst hk_k15
   obtain ⟨y13, y14⟩ := t
   refine wx tbk [] trivial ?_
   refine Qai ?_
   refine wmr (mto (n := 97) (l' := [(0, .ref 0 53 0 0), (2, I p1), (3, I p2), (9, I p0)]) (own' := [(Qmu p3 p4 p5 p6 p7 y13 y14), (Qk0 p10 p0 x6 p2), (Qss p11)]) [(0, .ref 0 53 0 0), (2, I p1), (3, I p2), (9, I p0)] [0, 1, 2] [(Qmu p3 p4 p5 p6 p7 y13 y14), (Qk0 p10 p0 x6 p2), (Qss p11)] hφ0 (pc (.rn (rqr rfl)) (pc rwl (pc rwl (pc rwl pn)))) (qc (spb (lc rwl (lc rwl (lc (.rn (.plain _ (nld Qac _))) (lc (.rn (Qaf rfl)) (lc (.rn (Qaf rfl)) (Qbh (Qaq fun _ => rwl) (Qaq fun _ => rwl)))))))) (qc (spr Qaa) (qc (spr Qaa) qn)))) ?_
   refine Qbu (τ := Int × (List Int)) (fun n t => Qb3 N p0 p1 p2 x6 p7 p10 y13 y14 n t.1 t.2 = some r) (fun ⟨y16, y17⟩ => ⟨mk 97 [(0, .ref 0 53 0 0), (2, I p1), (3, I p2), (9, I y16)], [(Qmu p3 p4 p5 p6 p7 y13 y14), (Qk0 p10 p0 x6 p2), (Qnq y17)]⟩) (fun t h => by rw [Qb3] at h; cases h) (fun n20 ih t h => ?_) N (p0, p11) h
   obtain ⟨y16, y17⟩ := t
   rw [Qb3] at h
   skip
   refine wsq ?_
   refine wx tbk [] trivial ?_
   rcases bft ((decide (y16 < p1))) with hc21 | hc21
   ·replace h := Qar hc21 h
    refine wft hc21 (by kernel_rfl) ?_
    refine Qag ?_
    refine thn ?_
    refine wsq ?_
    refine Qai ?_
    obtain ⟨hi22, h⟩ := cko h
    obtain ⟨hi22a, hi22b⟩ := Qa1 hi22
    obtain ⟨x23, hg24, h⟩ := bno h
    obtain ⟨hi25, h⟩ := cko h
    obtain ⟨hi25a, hi25b⟩ := Qa1 hi25
    obtain ⟨x26, hg27, h⟩ := bno h
    refine wx1 tbk [(1, rb [(.tmp 87, .ref 0 53 0 0)] [(0, (Qmu p3 p4 p5 p6 p7 y13 y14))] (.ref 0 53 0 0)), (5, rb [(.tmp 90, (.own 2 1 (0) (p7))), (.tmp 91, I y16)] [(2, (Qnq y17))] (.ref 2 1 (y16.toNat) 0)), (6, rb [(.tmp 92, (.ref 2 1 (y16.toNat) 0))] [(2, (Qnq y17))] (I x23)), (9, rb [(.tmp 90, (.own 2 1 (0) (p7))), (.tmp 91, I y16)] [(2, (Qnq y17))] (.ref 2 1 (y16.toNat) 0)), (10, ⟨[(.tmp 96, (.ref 2 1 (y16.toNat) 0)), (.tmp 95, (I (w64 (x23 + p2))))], [(2, (Qnq y17))], .any, [(2, (.own 1 ((y17.set y16.toNat (w64 (x23 + p2)) : List Int).map Qab)))], false⟩)] ⟨Qbz rfl, aio rfl Try.underlying23 ti3 (odt hi22a) (odt hi22b) (Nat.zero_add _), ald rfl ti3 (by decide) (mgt Qab hg24) (nle rfl) rfl, aio rfl Try.underlying23 ti3 (odt hi25a) (odt hi25b) (Nat.zero_add _), ast rfl ti3 (by rfl) (mgt Qab hg27) (nle rfl) (Qel Qab rfl), trivial⟩ ?_
    refine bln ?_
    refine thn ?_
    refine wx1 tbk [] trivial ?_
    refine thn ?_
    exact arm (mto (n := 97) [(0, .ref 0 53 0 0), (2, I p1), (3, I p2), (9, (I (w64 (y16 + 1))))] [0, 1, 2] [(Qmu p3 p4 p5 p6 p7 y13 y14), (Qk0 p10 p0 x6 p2), (.own 1 ((y17.set y16.toNat (w64 (x23 + p2)) : List Int).map Qab))] hφ0 (pc (.rn (rqr rfl)) (pc rwl (pc rwl (pc rwl pn)))) (qc (spb (lc rwl (lc rwl (lc (.rn (.plain _ (nld Qac _))) (lc (.rn (Qaf rfl)) (lc (.rn (Qaf rfl)) (Qbh (Qaq fun _ => rwl) (Qaq fun _ => rwl)))))))) (qc (spr Qaa) (qc (spr Qaa) qn)))) (ih (w64 (y16 + 1), y17.set y16.toNat (w64 (x23 + p2))) h)
   ·replace h := Qas hc21 h
    refine wfn hc21 (by kernel_rfl) ?_
    refine Qa3 ?_
    refine Qao ?_
    refine Qao ?_
    refine Qa2 rfl ?_
    obtain rfl := osi h
    exact ⟨_, (mto (n := 97) (l' := []) (own' := [(Qmu p3 p4 p5 p6 p7 y13 y14), (.own 1 (((p10.set p0.toNat (w64 (x6 + p2))) : List Int).map Qab)), (Qnq y17)]) [] [0, 1, 2] [(Qmu p3 p4 p5 p6 p7 y13 y14), (Qk0 p10 p0 x6 p2), (Qnq y17)] hφ0 pn (qc (spb (lc rwl (lc rwl (lc (.rn (.plain _ (nld Qac _))) (lc (.rn (Qaf rfl)) (lc (.rn (Qaf rfl)) (Qbh (Qaq fun _ => rwl) (Qaq fun _ => rwl)))))))) (qc (spr Qaa) (qc (spr Qaa) qn)))), Qdi (vs := []) trivial rfl (NLt.tup _ nl0) (by kernel_rfl) (Qau (Qbt (nlc (NLt.of0 nll) (nlc (NLt.of0 nll) (nlc (NLt.of0 (nld Qac _)) (nlc (NLt.own _ _ _ _ (by decide)) (nlc (NLt.own _ _ _ _ (by decide)) (Qfl Qdn Qdn))))))) (Qau (Qd9 Qaa _) (Qau (Qd9 Qaa _) Qb0)))⟩
  ·skip
   obtain ⟨hi28, h⟩ := cko h
   obtain ⟨hi28a, hi28b⟩ := Qa1 hi28
   refine wx tbk [(2, rb [(.tmp 31, .ref 0 53 0 0)] [(0, (Qnp p3 p4 p5 p6 p7 p8 p9 p0 p2))] (.ref 0 53 0 0)), (4, rb [(.tmp 34, .ref 0 53 0 29), (.tmp 32, I p0)] [(0, (Qnp p3 p4 p5 p6 p7 p8 p9 p0 p2))] (.ref 0 53 0 (29 + p0.toNat * 1))), (5, rb [(.tmp 35, (.ref 0 53 0 (29 + p0.toNat * 1)))] [(0, (Qnp p3 p4 p5 p6 p7 p8 p9 p0 p2))] (I ((setF p9 p0.toNat (w64 ((p9 p0.toNat) - p2))) p0.toNat)))] ⟨Qbz rfl, Qes rfl Try.underlying150 ti3 (odt hi28a) (odt hi28b) rfl, ald rfl ti3 (by decide) rfl (Qi0 (n := 24) (odt hi28b) (nle rfl)) (Qmy (pre := ((I p3) :: (I p4) :: (Qkp p5) :: (.own 1 1 (0) (p6)) :: (.own 2 1 (0) (p7)) :: arrF 24 p8)) (post := []) (n := 24) (f := setF p9 p0.toNat (w64 ((p9 p0.toNat) - p2))) (by kernel_rfl) rfl (odt hi28b)), trivial⟩ ?_
   rcases bft ((((setF p9 p0.toNat (w64 ((p9 p0.toNat) - p2))) p0.toNat) == 0)) with hc29 | hc29
   ·replace h := Qar hc29 h
    refine wft hc29 (by kernel_rfl) ?_
    obtain ⟨hi30, h⟩ := cko h
    obtain ⟨hi30a, hi30b⟩ := Qa1 hi30
    obtain ⟨hi31, h⟩ := cko h
    obtain ⟨hi31a, hi31b⟩ := Qa1 hi31
    refine wxd tbk [(2, rb [(.tmp 38, .ref 0 53 0 0)] [(0, (Qnp p3 p4 p5 p6 p7 p8 p9 p0 p2))] (.ref 0 53 0 0)), (4, rb [(.tmp 41, .ref 0 53 0 5), (.tmp 39, I p0)] [(0, (Qnp p3 p4 p5 p6 p7 p8 p9 p0 p2))] (.ref 0 53 0 (5 + p0.toNat * 1))), (5, rb [(.tmp 42, (.ref 0 53 0 (5 + p0.toNat * 1)))] [(0, (Qnp p3 p4 p5 p6 p7 p8 p9 p0 p2))] (I (p8 p0.toNat))), (7, rb [(.tmp 38, .ref 0 53 0 0)] [(0, (Qnp p3 p4 p5 p6 p7 p8 p9 p0 p2))] (.ref 0 53 0 0)), (9, rb [(.tmp 46, .ref 0 53 0 5), (.tmp 39, I p0)] [(0, (Qnp p3 p4 p5 p6 p7 p8 p9 p0 p2))] (.ref 0 53 0 (5 + p0.toNat * 1))), (10, ⟨[(.tmp 47, (.ref 0 53 0 (5 + p0.toNat * 1))), (.tmp 44, (I (w64 ((p8 p0.toNat) + 1))))], [(0, (Qnp p3 p4 p5 p6 p7 p8 p9 p0 p2))], .any, [(0, (Qm4 p3 p4 p5 p6 p7 p8 p0 p9 p2))], false⟩)] ⟨Qbz rfl, Qes rfl Try.underlying150 ti3 (odt hi30a) (odt hi30b) rfl, ald rfl ti3 (by decide) rfl (Qi0 (n := 24) (odt hi30b) (nle rfl)) (Qmy (pre := [I p3, I p4, (Qkp p5), (.own 1 1 (0) (p6)), (.own 2 1 (0) (p7))]) (post := arrF 24 (setF p9 p0.toNat (w64 ((p9 p0.toNat) - p2)))) (n := 24) (f := p8) (by kernel_rfl) rfl (odt hi30b)), Qbz rfl, Qes rfl Try.underlying150 ti3 (odt hi31a) (odt hi31b) rfl, ast rfl ti3 (by rfl) rfl (Qi0 (n := 24) (odt hi31b) (nle rfl)) (Qrv (pre := [I p3, I p4, (Qkp p5), (.own 1 1 (0) (p6)), (.own 2 1 (0) (p7))]) (post := arrF 24 (setF p9 p0.toNat (w64 ((p9 p0.toNat) - p2)))) (n := 24) (f := p8) (by kernel_rfl) rfl (by kernel_rfl) (odt hi31b)), trivial⟩ ?_
    obtain ⟨x32, hg33, h⟩ := bno h
    obtain ⟨hi34, hj35⟩ := gsm hg33
    refine wx tbk [(1, rb [(.tmp 48, .ref 0 53 0 0)] [(0, (Qm4 p3 p4 p5 p6 p7 p8 p0 p9 p2))] (.ref 0 53 0 0)), (6, rp [(.tmp 52, (Qkp p5)), (.tmp 53, I p0)] (.dptr (Qaj (x32)) 0))] ⟨Qbz rfl, aid rfl Try.underlying45 ti62 rfl rfl hi34 (mgt Qaj hj35) rfl, trivial⟩ ?_
    obtain ⟨hi36, h⟩ := cko h
    obtain ⟨hi36a, hi36b⟩ := Qa1 hi36
    refine wx tbk [(2, rb [(.tmp 57, .ref 0 53 0 0)] [(0, (Qm4 p3 p4 p5 p6 p7 p8 p0 p9 p2))] (.ref 0 53 0 0)), (4, rb [(.tmp 60, .ref 0 53 0 5), (.tmp 58, I p0)] [(0, (Qm4 p3 p4 p5 p6 p7 p8 p0 p9 p2))] (.ref 0 53 0 (5 + p0.toNat * 1))), (5, rb [(.tmp 61, (.ref 0 53 0 (5 + p0.toNat * 1)))] [(0, (Qm4 p3 p4 p5 p6 p7 p8 p0 p9 p2))] (I ((setF p8 p0.toNat (w64 ((p8 p0.toNat) + 1))) p0.toNat))), (7, rp [(.tmp 63, (.dat 2 ((x32.Stairs : List GStair).map Qan)))] (I ((x32.Stairs.length : Int))))] ⟨Qbz rfl, Qes rfl Try.underlying150 ti3 (odt hi36a) (odt hi36b) rfl, ald rfl ti3 (by decide) rfl (Qi0 (n := 24) (odt hi36b) (nle rfl)) (Qmy (pre := [I p3, I p4, (Qkp p5), (.own 1 1 (0) (p6)), (.own 2 1 (0) (p7))]) (post := arrF 24 (setF p9 p0.toNat (w64 ((p9 p0.toNat) - p2)))) (n := 24) (f := setF p8 p0.toNat (w64 ((p8 p0.toNat) + 1))) (by kernel_rfl) rfl (odt hi36b)), alm (c := Qan) (l := x32.Stairs) (aln rfl Try.underlying60 rfl), trivial⟩ ?_
    rcases bft ((decide (((setF p8 p0.toNat (w64 ((p8 p0.toNat) + 1))) p0.toNat) < (x32.Stairs.length : Int)))) with hc37 | hc37
    ·replace h := Qar hc37 h
     refine wft hc37 (by kernel_rfl) ?_
     obtain ⟨hi38, h⟩ := cko h
     obtain ⟨hi38a, hi38b⟩ := Qa1 hi38
     obtain ⟨x39, hg40, h⟩ := bno h
     obtain ⟨hi41, hj42⟩ := gsm hg40
     obtain ⟨hi43, h⟩ := cko h
     obtain ⟨hi43a, hi43b⟩ := Qa1 hi43
     refine wy1 tbk [(5, rb [(.tmp 69, .ref 0 53 0 0)] [(0, (Qm4 p3 p4 p5 p6 p7 p8 p0 p9 p2))] (.ref 0 53 0 0)), (7, rb [(.tmp 72, .ref 0 53 0 5), (.tmp 70, I p0)] [(0, (Qm4 p3 p4 p5 p6 p7 p8 p0 p9 p2))] (.ref 0 53 0 (5 + p0.toNat * 1))), (8, rb [(.tmp 73, (.ref 0 53 0 (5 + p0.toNat * 1)))] [(0, (Qm4 p3 p4 p5 p6 p7 p8 p0 p9 p2))] (I ((setF p8 p0.toNat (w64 ((p8 p0.toNat) + 1))) p0.toNat))), (9, rp [(.tmp 68, (.dat 2 ((x32.Stairs : List GStair).map Qan))), (.tmp 74, (I ((setF p8 p0.toNat (w64 ((p8 p0.toNat) + 1))) p0.toNat)))] (.dptr (Qan (x39)) 0)), (12, rb [(.tmp 66, .ref 0 53 0 0)] [(0, (Qm4 p3 p4 p5 p6 p7 p8 p0 p9 p2))] (.ref 0 53 0 0)), (14, rb [(.tmp 79, .ref 0 53 0 29), (.tmp 67, I p0)] [(0, (Qm4 p3 p4 p5 p6 p7 p8 p0 p9 p2))] (.ref 0 53 0 (29 + p0.toNat * 1))), (15, ⟨[(.tmp 80, (.ref 0 53 0 (29 + p0.toNat * 1))), (.tmp 77, I x39.Amount)], [(0, (Qm4 p3 p4 p5 p6 p7 p8 p0 p9 p2))], .any, [(0, (.own 53 [((I p3) :: (I p4) :: (Qkp p5) :: (.own 1 1 (0) (p6)) :: (.own 2 1 (0) (p7)) :: (arrF 24 (setF p8 p0.toNat (w64 ((p8 p0.toNat) + 1))) ++ arrF 24 (setF (setF p9 p0.toNat (w64 ((p9 p0.toNat) - p2))) p0.toNat x39.Amount)))]))], false⟩)] ⟨Qbz rfl, Qes rfl Try.underlying150 ti3 (odt hi38a) (odt hi38b) rfl, ald rfl ti3 (by decide) rfl (Qi0 (n := 24) (odt hi38b) (nle rfl)) (Qmy (pre := [I p3, I p4, (Qkp p5), (.own 1 1 (0) (p6)), (.own 2 1 (0) (p7))]) (post := arrF 24 (setF p9 p0.toNat (w64 ((p9 p0.toNat) - p2)))) (n := 24) (f := setF p8 p0.toNat (w64 ((p8 p0.toNat) + 1))) (by kernel_rfl) rfl (odt hi38b)), aid rfl Try.underlying60 ti64 rfl rfl hi41 (mgt Qan hj42) rfl, Qbz rfl, Qes rfl Try.underlying150 ti3 (odt hi43a) (odt hi43b) rfl, ast rfl ti3 (by rfl) rfl (Qi0 (n := 24) (odt hi43b) (nle rfl)) (Qrv (pre := ((I p3) :: (I p4) :: (Qkp p5) :: (.own 1 1 (0) (p6)) :: (.own 2 1 (0) (p7)) :: arrF 24 (setF p8 p0.toNat (w64 ((p8 p0.toNat) + 1))))) (post := []) (n := 24) (f := setF p9 p0.toNat (w64 ((p9 p0.toNat) - p2))) (by kernel_rfl) rfl (by kernel_rfl) (odt hi43b)), trivial⟩ ?_
     refine thn ?_
     exact ⟨(setF p8 p0.toNat (w64 ((p8 p0.toNat) + 1)), setF (setF p9 p0.toNat (w64 ((p9 p0.toNat) - p2))) p0.toNat x39.Amount), h, (mto (n := 97) [(0, .ref 0 53 0 0), (1, I p0), (2, I p1), (3, I p2)] [0, 1, 2] [(.own 53 [((I p3) :: (I p4) :: (Qkp p5) :: (.own 1 1 (0) (p6)) :: (.own 2 1 (0) (p7)) :: (arrF 24 (setF p8 p0.toNat (w64 ((p8 p0.toNat) + 1))) ++ arrF 24 (setF (setF p9 p0.toNat (w64 ((p9 p0.toNat) - p2))) p0.toNat x39.Amount)))]), (Qk0 p10 p0 x6 p2), (Qss p11)] hφ0 (pc (.rn (rqr rfl)) (pc rwl (pc rwl (pc rwl pn)))) (qc (spb (lc rwl (lc rwl (lc (.rn (.plain _ (nld Qac _))) (lc (.rn (Qaf rfl)) (lc (.rn (Qaf rfl)) (Qbh (Qaq fun _ => rwl) (Qaq fun _ => rwl)))))))) (qc (spr Qaa) (qc (spr Qaa) qn))))⟩
    ·replace h := Qas hc37 h
     refine wfn hc37 (by kernel_rfl) ?_
     refine Qag ?_
     refine thn ?_
     exact ⟨(setF p8 p0.toNat (w64 ((p8 p0.toNat) + 1)), setF p9 p0.toNat (w64 ((p9 p0.toNat) - p2))), h, (mto (n := 97) [(0, .ref 0 53 0 0), (1, I p0), (2, I p1), (3, I p2)] [0, 1, 2] [(Qm4 p3 p4 p5 p6 p7 p8 p0 p9 p2), (Qk0 p10 p0 x6 p2), (Qss p11)] hφ0 (pc (.rn (rqr rfl)) (pc rwl (pc rwl (pc rwl pn)))) (qc (spb (lc rwl (lc rwl (lc (.rn (.plain _ (nld Qac _))) (lc (.rn (Qaf rfl)) (lc (.rn (Qaf rfl)) (Qbh (Qaq fun _ => rwl) (Qaq fun _ => rwl)))))))) (qc (spr Qaa) (qc (spr Qaa) qn))))⟩
   ·replace h := Qas hc29 h
    refine wfn hc29 (by kernel_rfl) ?_
    refine Qag ?_
    refine thn ?_
    exact ⟨(p8, setF p9 p0.toNat (w64 ((p9 p0.toNat) - p2))), h, (mto (n := 97) [(0, .ref 0 53 0 0), (1, I p0), (2, I p1), (3, I p2)] [0, 1, 2] [(Qnp p3 p4 p5 p6 p7 p8 p9 p0 p2), (Qk0 p10 p0 x6 p2), (Qss p11)] hφ0 (pc (.rn (rqr rfl)) (pc rwl (pc rwl (pc rwl pn)))) (qc (spb (lc rwl (lc rwl (lc (.rn (.plain _ (nld Qac _))) (lc (.rn (Qaf rfl)) (lc (.rn (Qaf rfl)) (Qbh (Qaq fun _ => rwl) (Qaq fun _ => rwl)))))))) (qc (spr Qaa) (qc (spr Qaa) qn))))⟩
def Qaz (N : Nat) (p0 : Int) (p2 : Int) (p3 : Int) (p4 : (List GHour)) (p5 : Nat) (p6 : Nat) (y6 : (Nat → Int)) (y7 : (Nat → Int)) (y8 : (List Int)) (y9 : (List Int)) (k19 : Int × Int → Option ((Nat → Int) × (Nat → Int) × (List Int) × (List Int))) : Nat → Int → Int → Int → Int → Int → Option ((Nat → Int) × (Nat → Int) × (List Int) × (List Int))
  | 0, _, _, _, _, _ => none
  | n33 + 1, y23, y24, y25, y26, y27 =>
    bif (decide (y27 ≥ 0)) then
     Qbr (fun y35 =>
       bif (y35 == 0) then
        k19 (y23, y25)
       else
        (Qd8 N y27 p2 p3 p4 p5 p6 y6 y7 y8 y9).bind fun x39 =>
        bif x39.2 then
         bif (decide (y23 < 0)) then
          (some (if x39.1.Amount < y35 then x39.1.Amount else y35)).bind fun x42 =>
          Qaz N p0 p2 p3 p4 p5 p6 y6 y7 y8 y9 k19 n33 y27 x39.1.Price x42 y35 (w64 (y27 - 1))
         else
          bif (decide (x39.1.Price < y24)) then
           (some (if x39.1.Amount < y35 then x39.1.Amount else y35)).bind fun x45 =>
           Qaz N p0 p2 p3 p4 p5 p6 y6 y7 y8 y9 k19 n33 y27 x39.1.Price x45 y35 (w64 (y27 - 1))
          else
           Qaz N p0 p2 p3 p4 p5 p6 y6 y7 y8 y9 k19 n33 y23 y24 y25 y35 (w64 (y27 - 1))
        else
         Qaz N p0 p2 p3 p4 p5 p6 y6 y7 y8 y9 k19 n33 y23 y24 y25 y35 (w64 (y27 - 1))) fun k36 : Int → Option ((Nat → Int) × (Nat → Int) × (List Int) × (List Int)) =>
     bif (decide (y27 < p0)) then
      chk (decide (0 ≤ y27) && decide (y27.toNat < p6)) <|
      (y9[y27.toNat]?).bind fun x49 =>
      (some (if (w64 (p2 - x49)) < y26 then w64 (p2 - x49) else y26)).bind fun x51 =>
      k36 (x51)
     else
      k36 (y26)
    else
     k19 (y23, y25)
def Qbm (N : Nat) (p0 : Int) (p2 : Int) (p3 : Int) (p4 : (List GHour)) (p5 : Nat) (p6 : Nat) : Nat → Int → (Nat → Int) → (Nat → Int) → (List Int) → (List Int) → Option ((Nat → Int) × (Nat → Int) × (List Int) × (List Int))
  | 0, _, _, _, _, _ => none
  | n15 + 1, y5, y6, y7, y8, y9 =>
    bif (decide (y5 > 0)) then
     Qbr (fun ⟨y17, y18⟩ =>
       bif (decide (y17 < 0)) then
        some (y6, y7, y8, y9)
       else
        (Qep N y17 p0 y18 p2 p3 p4 p5 p6 y6 y7 y8 y9).bind fun x22 =>
        Qbm N p0 p2 p3 p4 p5 p6 n15 (w64 (y5 - y18)) x22.1 x22.2.1 x22.2.2.1 x22.2.2.2) fun k19 : Int × Int → Option ((Nat → Int) × (Nat → Int) × (List Int) × (List Int)) =>
     Qaz N p0 p2 p3 p4 p5 p6 y6 y7 y8 y9 k19 N (-1) 0 0 y5 p0
    else
     some (y6, y7, y8, y9)
def Qeq (N : Nat) (p0 : Int) (p1 : Int) (p2 : Int) (p3 : Int) (p4 : (List GHour)) (p5 : Nat) (p6 : Nat) (p7 : (Nat → Int)) (p8 : (Nat → Int)) (p9 : (List Int)) (p10 : (List Int)) : Option ((Nat → Int) × (Nat → Int) × (List Int) × (List Int)) :=
  Qbm N p0 p2 p3 p4 p5 p6 N p1 p7 p8 p9 p10
def z44_0 (p4 : (List GHour)) : AV := .dat 2 ((p4 : List GHour).map Qaj)
def z44_1 (p2 : Int) (p3 : Int) (p4 : (List GHour)) (p5 : Nat) (p6 : Nat) (p7 : (Nat → Int)) (p8 : (Nat → Int)) : Slot := .own 53 [((I (p2)) :: (I (p3)) :: (z44_0 p4) :: (.own 1 1 (0) (p5)) :: (.own 2 1 (0) (p6)) :: (arrF 24 p7 ++ arrF 24 p8))]
def z44_3 (p9 : (List Int)) : Slot := .own 1 ((p9 : List Int).map Qab)
def z44_2 (p10 : (List Int)) : Slot := .own 1 ((p10 : List Int).map Qab)
def Qfj (p2 : Int) (p3 : Int) (p4 : (List GHour)) (p5 : Nat) (p6 : Nat) (y6 : (Nat → Int)) (y7 : (Nat → Int)) : Slot := .own 53 [((I (p2)) :: (I (p3)) :: (z44_0 p4) :: (.own 1 1 (0) (p5)) :: (.own 2 1 (0) (p6)) :: (arrF 24 y6 ++ arrF 24 y7))]
def Qfy (y8 : (List Int)) : Slot := .own 1 ((y8 : List Int).map Qab)
def Qfi (y9 : (List Int)) : Slot := .own 1 ((y9 : List Int).map Qab)
def Qxi (p2 : Int) (p3 : Int) (p4 : (List GHour)) (p5 : Nat) (p6 : Nat) (x22 : ((Nat → Int) × (Nat → Int) × (List Int) × (List Int))) : Slot := .own 53 [((I (p2)) :: (I (p3)) :: (z44_0 p4) :: (.own 1 1 (0) (p5)) :: (.own 2 1 (0) (p6)) :: (arrF 24 x22.1 ++ arrF 24 x22.2.1))]
set_option maxRecDepth 100000 in
set_option maxHeartbeats 4000000 in
theorem Qhv (N : Nat) (p0 : Int) (p1 : Int) (p2 : Int) (p3 : Int) (p4 : (List GHour)) (p5 : Nat) (p6 : Nat) (p7 : (Nat → Int)) (p8 : (Nat → Int)) (p9 : (List Int)) (p10 : (List Int)) (r : ((Nat → Int) × (Nat → Int) × (List Int) × (List Int))) (h : Qeq N p0 p1 p2 p3 p4 p5 p6 p7 p8 p9 p10 = some r) : Spec Try.prog 76 [(.ref 0 53 (0) 0), (I (p0)), (I (p1))] [(z44_1 p2 p3 p4 p5 p6 p7 p8), (z44_3 p9), (z44_2 p10)] (.tup []) [(.own 53 [((I (p2)) :: (I (p3)) :: (z44_0 p4) :: (.own 1 1 (0) (p5)) :: (.own 2 1 (0) (p6)) :: (arrF 24 r.1 ++ arrF 24 r.2.1))]), (.own 1 ((r.2.2.1 : List Int).map Qab)), (.own 1 ((r.2.2.2 : List Int).map Qab))] := by
  refine Qal Try.func76 rfl 3 (nle rfl) (fun X φ0 w0 hφ0 => ?_)
  unfold Qeq at h
  refine Qc3 ?_
  refine awp_scope ?_
  refine wsq ?_
  refine awp_label ?_
  refine thn ?_
  refine Qai ?_
  refine wmr (mto (n := 75) (l' := [(0, .ref 0 53 0 0), (1, I p0), (2, I p1)]) (own' := [(z44_1 p2 p3 p4 p5 p6 p7 p8), (z44_3 p9), (z44_2 p10)]) [(0, .ref 0 53 0 0), (1, I p0), (2, I p1)] [0, 1, 2] [(z44_1 p2 p3 p4 p5 p6 p7 p8), (z44_3 p9), (z44_2 p10)] hφ0 (pc (.rn (rqr rfl)) (pc rwl (pc rwl pn))) (qc (spb (lc rwl (lc rwl (lc (.rn (.plain _ (nld Qac _))) (lc (.rn (Qaf rfl)) (lc (.rn (Qaf rfl)) (Qbh (Qaq fun _ => rwl) (Qaq fun _ => rwl)))))))) (qc (spr Qaa) (qc (spr Qaa) qn)))) ?_
  refine Qbu (τ := Int × (Nat → Int) × (Nat → Int) × (List Int) × (List Int)) (fun n t => Qbm N p0 p2 p3 p4 p5 p6 n t.1 t.2.1 t.2.2.1 t.2.2.2.1 t.2.2.2.2 = some r) (fun ⟨y5, y6, y7, y8, y9⟩ => ⟨mk 75 [(0, .ref 0 53 0 0), (1, I p0), (2, I y5)], [(Qfj p2 p3 p4 p5 p6 y6 y7), (Qfy y8), (Qfi y9)]⟩) (fun t h => by rw [Qbm] at h; cases h) (fun n15 ih t h => ?_) N (p1, p7, p8, p9, p10) h
  obtain ⟨y5, y6, y7, y8, y9⟩ := t
  rw [Qbm] at h
  skip
  refine wsq ?_
  refine wx tbk [] trivial ?_
  rcases bft ((decide (y5 > 0))) with hc16 | hc16
  ·replace h := Qar hc16 h
   refine wft hc16 (by kernel_rfl) ?_
   refine Qag ?_
   refine thn ?_
   refine Qai ?_
   refine wx tbk [] trivial ?_
   refine wx tbk [] trivial ?_
   obtain ⟨k19, hk_k19, h⟩ := jko h
   refine wjn (τ := Int × Int) (fun t => k19 t = some r) (fun ⟨y17, y18⟩ => ⟨mk 75 [(0, .ref 0 53 0 0), (1, I p0), (2, I y5), (6, I y17), (8, I y18)], [(Qfj p2 p3 p4 p5 p6 y6 y7), (Qfy y8), (Qfi y9)]⟩) (fun t h => ?_) ?_
   ·subst hk_k19
    obtain ⟨y17, y18⟩ := t
    refine wsq ?_
    refine wx tbk [] trivial ?_
    rcases bft ((decide (y17 < 0))) with hc20 | hc20
    ·replace h := Qar hc20 h
     refine wft hc20 (by kernel_rfl) ?_
     refine Qa3 ?_
     refine Qao ?_
     refine Qvl (by decide) ?_
     refine Qao ?_
     refine Qa2 rfl ?_
     refine Quy ?_
     obtain rfl := osi h
     exact ⟨_, (mto (n := 75) (l' := []) (own' := [(Qfj p2 p3 p4 p5 p6 y6 y7), (Qfy y8), (Qfi y9)]) [] [0, 1, 2] [(Qfj p2 p3 p4 p5 p6 y6 y7), (Qfy y8), (Qfi y9)] hφ0 pn (qc (spb (lc rwl (lc rwl (lc (.rn (.plain _ (nld Qac _))) (lc (.rn (Qaf rfl)) (lc (.rn (Qaf rfl)) (Qbh (Qaq fun _ => rwl) (Qaq fun _ => rwl)))))))) (qc (spr Qaa) (qc (spr Qaa) qn)))), Qdi (vs := []) trivial rfl (NLt.tup _ nl0) (by kernel_rfl) (Qau (Qbt (nlc (NLt.of0 nll) (nlc (NLt.of0 nll) (nlc (NLt.of0 (nld Qac _)) (nlc (NLt.own _ _ _ _ (by decide)) (nlc (NLt.own _ _ _ _ (by decide)) (Qfl Qdn Qdn))))))) (Qau (Qd9 Qaa _) (Qau (Qd9 Qaa _) Qb0)))⟩
    ·replace h := Qas hc20 h
     refine wfn hc20 (by kernel_rfl) ?_
     refine Qag ?_
     refine thn ?_
     obtain ⟨x22, hf21, h⟩ := bno h
     refine wx tbk [(4, ⟨[fu 103, (.tmp 67, .ref 0 53 0 0), (.tmp 68, I y17), (.tmp 69, I p0), (.tmp 70, I y18)], [(0, (Qfj p2 p3 p4 p5 p6 y6 y7)), (1, (Qfy y8)), (2, (Qfi y9))], (.tup []), [(0, (Qxi p2 p3 p4 p5 p6 x22)), (1, (.own 1 ((x22.2.2.1 : List Int).map Qab))), (2, (.own 1 ((x22.2.2.2 : List Int).map Qab)))], false⟩)] ⟨Qat (first := []) (cap := []) (vs := [.ref 0 53 0 0, I y17, I p0, I y18]) (σr := [(Qfj p2 p3 p4 p5 p6 y6 y7), (Qfy y8), (Qfi y9)]) (σr' := [(Qxi p2 p3 p4 p5 p6 x22), (.own 1 ((x22.2.2.1 : List Int).map Qab)), (.own 1 ((x22.2.2.2 : List Int).map Qab))]) (res' := (.tup [])) [0, 1, 2] rfl enter103 (Qks N y17 p0 y18 p2 p3 p4 p5 p6 y6 y7 y8 y9 _ hf21) rfl (Qcq (rnc (Qbn rfl) (rnc (.plain _ nll) (rnc (.plain _ nll) (rnc (.plain _ nll) rn0))))) (slc (Qam (rnc (.plain _ nll) (rnc (.plain _ nll) (rnc (.plain _ (nld Qac _)) (rnc (Qex rfl) (rnc (Qex rfl) (Qbh (Qaq fun _ => (.plain _ nll)) (Qaq fun _ => (.plain _ nll))))))))) (slc (Qbg Qaa) (slc (Qbg Qaa) Qap))) (slc (Qam (rnc (.plain _ nll) (rnc (.plain _ nll) (rnc (.plain _ (nld Qac _)) (rnc (Qgf rfl) (rnc (Qgf rfl) (Qbh (Qaq fun _ => (.plain _ nll)) (Qaq fun _ => (.plain _ nll))))))))) (slc (Qbg Qaa) (slc (Qbg Qaa) Qap))) (.plain _ (NLt.tup _ nl0)) rfl rfl rfl, trivial⟩ ?_
     refine wx1 tbk [] trivial ?_
     refine bln ?_
     refine thn ?_
     exact arm (mto (n := 75) [(0, .ref 0 53 0 0), (1, I p0), (2, (I (w64 (y5 - y18))))] [0, 1, 2] [(Qxi p2 p3 p4 p5 p6 x22), (.own 1 ((x22.2.2.1 : List Int).map Qab)), (.own 1 ((x22.2.2.2 : List Int).map Qab))] hφ0 (pc (.rn (rqr rfl)) (pc rwl (pc rwl pn))) (qc (spb (lc rwl (lc rwl (lc (.rn (.plain _ (nld Qac _))) (lc (.rn (Qaf rfl)) (lc (.rn (Qaf rfl)) (Qbh (Qaq fun _ => rwl) (Qaq fun _ => rwl)))))))) (qc (spr Qaa) (qc (spr Qaa) qn)))) (ih (w64 (y5 - y18), x22.1, x22.2.1, x22.2.2.1, x22.2.2.2) h)
   ·skip
    refine wx tbk [] trivial ?_
    refine Qai ?_
    refine wmr (mto (n := 75) (l' := [(0, .ref 0 53 0 0), (1, I p0), (2, I y5), (6, (I ((-1)))), (7, I 0), (8, I 0), (9, I y5), (10, I p0)]) (own' := [(Qfj p2 p3 p4 p5 p6 y6 y7), (Qfy y8), (Qfi y9)]) [(0, .ref 0 53 0 0), (1, I p0), (2, I y5), (6, (I ((-1)))), (7, I 0), (8, I 0), (9, I y5), (10, I p0)] [0, 1, 2] [(Qfj p2 p3 p4 p5 p6 y6 y7), (Qfy y8), (Qfi y9)] hφ0 (pc (.rn (rqr rfl)) (pc rwl (pc rwl (pc rwl (pc rwl (pc rwl (pc rwl (pc rwl pn)))))))) (qc (spb (lc rwl (lc rwl (lc (.rn (.plain _ (nld Qac _))) (lc (.rn (Qaf rfl)) (lc (.rn (Qaf rfl)) (Qbh (Qaq fun _ => rwl) (Qaq fun _ => rwl)))))))) (qc (spr Qaa) (qc (spr Qaa) qn)))) ?_
    refine Qbu (τ := Int × Int × Int × Int × Int) (fun n t => Qaz N p0 p2 p3 p4 p5 p6 y6 y7 y8 y9 k19 n t.1 t.2.1 t.2.2.1 t.2.2.2.1 t.2.2.2.2 = some r) (fun ⟨y23, y24, y25, y26, y27⟩ => ⟨mk 75 [(0, .ref 0 53 0 0), (1, I p0), (2, I y5), (6, I y23), (7, I y24), (8, I y25), (9, I y26), (10, I y27)], [(Qfj p2 p3 p4 p5 p6 y6 y7), (Qfy y8), (Qfi y9)]⟩) (fun t h => by rw [Qaz] at h; cases h) (fun n33 ih t h => ?_) N ((-1), 0, 0, y5, p0) h
    obtain ⟨y23, y24, y25, y26, y27⟩ := t
    rw [Qaz] at h
    skip
    refine wsq ?_
    refine wx tbk [] trivial ?_
    rcases bft ((decide (y27 ≥ 0))) with hc34 | hc34
    ·replace h := Qar hc34 h
     refine wft hc34 (by kernel_rfl) ?_
     refine Qag ?_
     refine thn ?_
     refine wsq ?_
     refine Qai ?_
     obtain ⟨k36, hk_k36, h⟩ := jko h
     refine wjn (τ := Int) (fun t => k36 t = some r) (fun y35 => ⟨mk 75 [(0, .ref 0 53 0 0), (1, I p0), (2, I y5), (6, I y23), (7, I y24), (8, I y25), (9, I y35), (10, I y27)], [(Qfj p2 p3 p4 p5 p6 y6 y7), (Qfy y8), (Qfi y9)]⟩) (fun y35 h => ?_) ?_
     ·subst hk_k36
      refine wsq ?_
      refine wx tbk [] trivial ?_
      rcases bft ((y35 == 0)) with hc37 | hc37
      ·replace h := Qar hc37 h
       refine wft hc37 (by kernel_rfl) ?_
       refine Qa3 ?_
       refine Qao ?_
       refine Qvl (by decide) ?_
       refine Qao ?_
       refine Qao ?_
       refine Qa2 rfl ?_
       refine thn ?_
       exact ⟨(y23, y25), h, (mto (n := 75) [(0, .ref 0 53 0 0), (1, I p0), (2, I y5), (6, I y23), (8, I y25)] [0, 1, 2] [(Qfj p2 p3 p4 p5 p6 y6 y7), (Qfy y8), (Qfi y9)] hφ0 (pc (.rn (rqr rfl)) (pc rwl (pc rwl (pc rwl (pc rwl pn))))) (qc (spb (lc rwl (lc rwl (lc (.rn (.plain _ (nld Qac _))) (lc (.rn (Qaf rfl)) (lc (.rn (Qaf rfl)) (Qbh (Qaq fun _ => rwl) (Qaq fun _ => rwl)))))))) (qc (spr Qaa) (qc (spr Qaa) qn))))⟩
      ·replace h := Qas hc37 h
       refine wfn hc37 (by kernel_rfl) ?_
       refine Qag ?_
       refine thn ?_
       obtain ⟨x39, hf38, h⟩ := bno h
       refine wx tbk [(2, ⟨[fu 102, (.tmp 42, .ref 0 53 0 0), (.tmp 43, I y27)], [(0, (Qfj p2 p3 p4 p5 p6 y6 y7)), (1, (Qfy y8)), (2, (Qfi y9)), (3, .unused)], (.tup [(.agg [I x39.1.Amount, I x39.1.Price]), B x39.2]), [(0, (Qfj p2 p3 p4 p5 p6 y6 y7)), (1, (Qfy y8)), (2, (Qfi y9)), (3, .own 2 [[I x39.1.Amount, I x39.1.Price]])], false⟩)] ⟨Qat (first := []) (cap := []) (vs := [.ref 0 53 0 0, I y27]) (σr := [(Qfj p2 p3 p4 p5 p6 y6 y7), (Qfy y8), (Qfi y9)]) (σr' := [(Qfj p2 p3 p4 p5 p6 y6 y7), (Qfy y8), (Qfi y9), (.own 2 [[I x39.1.Amount, I x39.1.Price]])]) (res' := (.tup [(.agg [I x39.1.Amount, I x39.1.Price]), B x39.2])) [0, 1, 2, 3] rfl enter102 (Qkt N y27 p2 p3 p4 p5 p6 y6 y7 y8 y9 _ hf38) rfl (Qcq (rnc (Qbn rfl) (rnc (.plain _ nll) rn0))) (slc (Qam (rnc (.plain _ nll) (rnc (.plain _ nll) (rnc (.plain _ (nld Qac _)) (rnc (Qex rfl) (rnc (Qex rfl) (Qbh (Qaq fun _ => (.plain _ nll)) (Qaq fun _ => (.plain _ nll))))))))) (slc (Qbg Qaa) (slc (Qbg Qaa) Qap))) (slc (Qam (rnc (.plain _ nll) (rnc (.plain _ nll) (rnc (.plain _ (nld Qac _)) (rnc (Qgf rfl) (rnc (Qgf rfl) (Qbh (Qaq fun _ => (.plain _ nll)) (Qaq fun _ => (.plain _ nll))))))))) (slc (Qbg Qaa) (slc (Qbg Qaa) (slc (Qam (rnc (.plain _ nll) (rnc (.plain _ nll) rn0))) Qap)))) (.plain _ (NLt.tup _ (nlc (NLt.agg _ (nlc nll (nlc nll nl0))) (nlc nll nl0)))) rfl rfl rfl, trivial⟩ ?_
       rcases bft (x39.2) with hb40 | hb40
       ·replace h := Qar hb40 h
        rcases bft ((decide (y23 < 0))) with hb41 | hb41
        ·replace h := Qar hb41 h
         refine wx tbk [(1, rp [(.tmp 47, B x39.2)] (B true)), (4, rp [(.tmp 48, B true), (.tmp 50, (B ((decide (y23 < 0)))))] (B true))] ⟨asb hb40 (amv rfl), asb hb41 (ag_ (amv rfl)), trivial⟩ ?_
         refine Qcm (by kernel_rfl) ?_
         obtain ⟨x42, hl43, h⟩ := bno h
         refine wy1 tbk [(6, rp [(.tmp 61, I y35), (.tmp 63, I x39.1.Amount)] (I ((if x39.1.Amount < y35 then x39.1.Amount else y35)))), (9, rp [(.tmp 64, (I ((if x39.1.Amount < y35 then x39.1.Amount else y35))))] (I x42))] ⟨Qi4 rfl, Qd4 hl43 (aas rfl), trivial⟩ ?_
         refine bln ?_
         refine thn ?_
         refine wx1 tbk [] trivial ?_
         refine thn ?_
         exact arm (mto (n := 75) [(0, .ref 0 53 0 0), (1, I p0), (2, I y5), (6, I y27), (7, I x39.1.Price), (8, I x42), (9, I y35), (10, (I (w64 (y27 - 1))))] [0, 1, 2] [(Qfj p2 p3 p4 p5 p6 y6 y7), (Qfy y8), (Qfi y9)] hφ0 (pc (.rn (rqr rfl)) (pc rwl (pc rwl (pc rwl (pc rwl (pc rwl (pc rwl (pc rwl pn)))))))) (qc (spb (lc rwl (lc rwl (lc (.rn (.plain _ (nld Qac _))) (lc (.rn (Qaf rfl)) (lc (.rn (Qaf rfl)) (Qbh (Qaq fun _ => rwl) (Qaq fun _ => rwl)))))))) (qc (spr Qaa) (qc (spr Qaa) qn)))) (ih (y27, x39.1.Price, x42, y35, w64 (y27 - 1)) h)
        ·replace h := Qas hb41 h
         refine wx tbk [(1, rp [(.tmp 47, B x39.2)] (B true)), (4, rp [(.tmp 48, B true), (.tmp 50, (B ((decide (y23 < 0)))))] (B false))] ⟨asb hb40 (amv rfl), asb hb41 (ag_ (amv rfl)), trivial⟩ ?_
         rcases bft ((decide (x39.1.Price < y24))) with hc44 | hc44
         ·replace h := Qar hc44 h
          refine wft hc44 (by kernel_rfl) ?_
          obtain ⟨x45, hl46, h⟩ := bno h
          refine wy1 tbk [(6, rp [(.tmp 61, I y35), (.tmp 63, I x39.1.Amount)] (I ((if x39.1.Amount < y35 then x39.1.Amount else y35)))), (9, rp [(.tmp 64, (I ((if x39.1.Amount < y35 then x39.1.Amount else y35))))] (I x45))] ⟨Qi4 rfl, Qd4 hl46 (aas rfl), trivial⟩ ?_
          refine bln ?_
          refine thn ?_
          refine wx1 tbk [] trivial ?_
          refine thn ?_
          exact arm (mto (n := 75) [(0, .ref 0 53 0 0), (1, I p0), (2, I y5), (6, I y27), (7, I x39.1.Price), (8, I x45), (9, I y35), (10, (I (w64 (y27 - 1))))] [0, 1, 2] [(Qfj p2 p3 p4 p5 p6 y6 y7), (Qfy y8), (Qfi y9)] hφ0 (pc (.rn (rqr rfl)) (pc rwl (pc rwl (pc rwl (pc rwl (pc rwl (pc rwl (pc rwl pn)))))))) (qc (spb (lc rwl (lc rwl (lc (.rn (.plain _ (nld Qac _))) (lc (.rn (Qaf rfl)) (lc (.rn (Qaf rfl)) (Qbh (Qaq fun _ => rwl) (Qaq fun _ => rwl)))))))) (qc (spr Qaa) (qc (spr Qaa) qn)))) (ih (y27, x39.1.Price, x45, y35, w64 (y27 - 1)) h)
         ·replace h := Qas hc44 h
          refine wfn hc44 (by kernel_rfl) ?_
          refine Qag ?_
          refine bln ?_
          refine thn ?_
          refine wx1 tbk [] trivial ?_
          refine thn ?_
          exact arm (mto (n := 75) [(0, .ref 0 53 0 0), (1, I p0), (2, I y5), (6, I y23), (7, I y24), (8, I y25), (9, I y35), (10, (I (w64 (y27 - 1))))] [0, 1, 2] [(Qfj p2 p3 p4 p5 p6 y6 y7), (Qfy y8), (Qfi y9)] hφ0 (pc (.rn (rqr rfl)) (pc rwl (pc rwl (pc rwl (pc rwl (pc rwl (pc rwl (pc rwl pn)))))))) (qc (spb (lc rwl (lc rwl (lc (.rn (.plain _ (nld Qac _))) (lc (.rn (Qaf rfl)) (lc (.rn (Qaf rfl)) (Qbh (Qaq fun _ => rwl) (Qaq fun _ => rwl)))))))) (qc (spr Qaa) (qc (spr Qaa) qn)))) (ih (y23, y24, y25, y35, w64 (y27 - 1)) h)
       ·replace h := Qas hb40 h
        refine wx tbk [(1, rp [(.tmp 47, B x39.2)] (B false))] ⟨asb hb40 (amv rfl), trivial⟩ ?_
        refine Qdj (by kernel_rfl) ?_
        refine Qag ?_
        refine bln ?_
        refine thn ?_
        refine wx1 tbk [] trivial ?_
        refine thn ?_
        exact arm (mto (n := 75) [(0, .ref 0 53 0 0), (1, I p0), (2, I y5), (6, I y23), (7, I y24), (8, I y25), (9, I y35), (10, (I (w64 (y27 - 1))))] [0, 1, 2] [(Qfj p2 p3 p4 p5 p6 y6 y7), (Qfy y8), (Qfi y9)] hφ0 (pc (.rn (rqr rfl)) (pc rwl (pc rwl (pc rwl (pc rwl (pc rwl (pc rwl (pc rwl pn)))))))) (qc (spb (lc rwl (lc rwl (lc (.rn (.plain _ (nld Qac _))) (lc (.rn (Qaf rfl)) (lc (.rn (Qaf rfl)) (Qbh (Qaq fun _ => rwl) (Qaq fun _ => rwl)))))))) (qc (spr Qaa) (qc (spr Qaa) qn)))) (ih (y23, y24, y25, y35, w64 (y27 - 1)) h)
     ·skip
      refine wx tbk [] trivial ?_
      rcases bft ((decide (y27 < p0))) with hc47 | hc47
      ·replace h := Qar hc47 h
       refine wft hc47 (by kernel_rfl) ?_
       obtain ⟨hi48, h⟩ := cko h
       obtain ⟨hi48a, hi48b⟩ := Qa1 hi48
       obtain ⟨x49, hg50, h⟩ := bno h
       obtain ⟨x51, hl52, h⟩ := bno h
       refine wy1 tbk [(2, rb [(.tmp 25, .ref 0 53 0 0)] [(0, (Qfj p2 p3 p4 p5 p6 y6 y7))] (.ref 0 53 0 0)), (7, rb [(.tmp 30, .ref 0 53 0 0)] [(0, (Qfj p2 p3 p4 p5 p6 y6 y7))] (.ref 0 53 0 0)), (11, rb [(.tmp 33, (.own 2 1 (0) (p6))), (.tmp 34, I y27)] [(2, (Qfi y9))] (.ref 2 1 (y27.toNat) 0)), (12, rb [(.tmp 35, (.ref 2 1 (y27.toNat) 0))] [(2, (Qfi y9))] (I x49)), (14, rp [(.tmp 24, I y26), (.tmp 37, (I (w64 (p2 - x49))))] (I ((if (w64 (p2 - x49)) < y26 then w64 (p2 - x49) else y26)))), (15, rp [(.tmp 38, (I ((if (w64 (p2 - x49)) < y26 then w64 (p2 - x49) else y26))))] (I x51))] ⟨Qbz rfl, Qbz rfl, aio rfl Try.underlying23 ti3 (odt hi48a) (odt hi48b) (Nat.zero_add _), ald rfl ti3 (by decide) (mgt Qab hg50) (nle rfl) rfl, Qi4 rfl, Qd4 hl52 (aas rfl), trivial⟩ ?_
       refine thn ?_
       exact ⟨(x51), h, (mto (n := 75) [(0, .ref 0 53 0 0), (1, I p0), (2, I y5), (6, I y23), (7, I y24), (8, I y25), (9, I x51), (10, I y27)] [0, 1, 2] [(Qfj p2 p3 p4 p5 p6 y6 y7), (Qfy y8), (Qfi y9)] hφ0 (pc (.rn (rqr rfl)) (pc rwl (pc rwl (pc rwl (pc rwl (pc rwl (pc rwl (pc rwl pn)))))))) (qc (spb (lc rwl (lc rwl (lc (.rn (.plain _ (nld Qac _))) (lc (.rn (Qaf rfl)) (lc (.rn (Qaf rfl)) (Qbh (Qaq fun _ => rwl) (Qaq fun _ => rwl)))))))) (qc (spr Qaa) (qc (spr Qaa) qn))))⟩
      ·replace h := Qas hc47 h
       refine wfn hc47 (by kernel_rfl) ?_
       refine Qag ?_
       refine thn ?_
       exact ⟨(y26), h, (mto (n := 75) [(0, .ref 0 53 0 0), (1, I p0), (2, I y5), (6, I y23), (7, I y24), (8, I y25), (9, I y26), (10, I y27)] [0, 1, 2] [(Qfj p2 p3 p4 p5 p6 y6 y7), (Qfy y8), (Qfi y9)] hφ0 (pc (.rn (rqr rfl)) (pc rwl (pc rwl (pc rwl (pc rwl (pc rwl (pc rwl (pc rwl pn)))))))) (qc (spb (lc rwl (lc rwl (lc (.rn (.plain _ (nld Qac _))) (lc (.rn (Qaf rfl)) (lc (.rn (Qaf rfl)) (Qbh (Qaq fun _ => rwl) (Qaq fun _ => rwl)))))))) (qc (spr Qaa) (qc (spr Qaa) qn))))⟩
    ·replace h := Qas hc34 h
     refine wfn hc34 (by kernel_rfl) ?_
     refine Qa3 ?_
     refine Qao ?_
     refine Qao ?_
     refine Qa2 rfl ?_
     refine thn ?_
     exact ⟨(y23, y25), h, (mto (n := 75) [(0, .ref 0 53 0 0), (1, I p0), (2, I y5), (6, I y23), (8, I y25)] [0, 1, 2] [(Qfj p2 p3 p4 p5 p6 y6 y7), (Qfy y8), (Qfi y9)] hφ0 (pc (.rn (rqr rfl)) (pc rwl (pc rwl (pc rwl (pc rwl pn))))) (qc (spb (lc rwl (lc rwl (lc (.rn (.plain _ (nld Qac _))) (lc (.rn (Qaf rfl)) (lc (.rn (Qaf rfl)) (Qbh (Qaq fun _ => rwl) (Qaq fun _ => rwl)))))))) (qc (spr Qaa) (qc (spr Qaa) qn))))⟩
  ·replace h := Qas hc16 h
   refine wfn hc16 (by kernel_rfl) ?_
   refine Qa3 ?_
   refine Qao ?_
   refine Qao ?_
   refine Qa2 rfl ?_
   refine Quy ?_
   obtain rfl := osi h
   exact ⟨_, (mto (n := 75) (l' := []) (own' := [(Qfj p2 p3 p4 p5 p6 y6 y7), (Qfy y8), (Qfi y9)]) [] [0, 1, 2] [(Qfj p2 p3 p4 p5 p6 y6 y7), (Qfy y8), (Qfi y9)] hφ0 pn (qc (spb (lc rwl (lc rwl (lc (.rn (.plain _ (nld Qac _))) (lc (.rn (Qaf rfl)) (lc (.rn (Qaf rfl)) (Qbh (Qaq fun _ => rwl) (Qaq fun _ => rwl)))))))) (qc (spr Qaa) (qc (spr Qaa) qn)))), Qdi (vs := []) trivial rfl (NLt.tup _ nl0) (by kernel_rfl) (Qau (Qbt (nlc (NLt.of0 nll) (nlc (NLt.of0 nll) (nlc (NLt.of0 (nld Qac _)) (nlc (NLt.own _ _ _ _ (by decide)) (nlc (NLt.own _ _ _ _ (by decide)) (Qfl Qdn Qdn))))))) (Qau (Qd9 Qaa _) (Qau (Qd9 Qaa _) Qb0)))⟩
def Qbp (N : Nat) (p0 : Int) (p2 : (List GHour)) (p4 : (List Int)) (k14 : (List Int) → Option (List Int)) : Nat → Int → (List Int) → Option (List Int)
  | 0, _, _ => none
  | n19 + 1, y15, y16 =>
    bif (decide (y15 < (w64 ((((p2.length : Int).toNat : Nat) : Int) - 1)))) then
     Qbr (fun y21 =>
       (getI p4 y15).bind fun x23 =>
       bif (decide (x23 < p0)) then
        chk (decide (0 ≤ y15) && decide (y15.toNat < (p2.length : Int).toNat)) <|
        (y21[y15.toNat]?).bind fun x29 =>
        chk (decide (0 ≤ w64 (y15 + 1)) && decide ((w64 (y15 + 1)).toNat < (p2.length : Int).toNat)) <|
        (y21[(w64 (y15 + 1)).toNat]?).bind fun x32 =>
        chk (decide (0 ≤ y15) && decide (y15.toNat < (p2.length : Int).toNat)) <|
        (y21[y15.toNat]?).bind fun _ =>
        Qbp N p0 p2 p4 k14 n19 (w64 (y15 + 1)) (y21.set y15.toNat (if x32 > x29 then x32 else x29))
       else
        Qbp N p0 p2 p4 k14 n19 (w64 (y15 + 1)) y21) fun k22 : (List Int) → Option (List Int) =>
     (getI p4 y15).bind fun x37 =>
     bif (decide (x37 > 0)) then
      chk (decide (0 ≤ w64 (y15 + 1)) && decide ((w64 (y15 + 1)).toNat < (p2.length : Int).toNat)) <|
      (y16[(w64 (y15 + 1)).toNat]?).bind fun x43 =>
      chk (decide (0 ≤ y15) && decide (y15.toNat < (p2.length : Int).toNat)) <|
      (y16[y15.toNat]?).bind fun x46 =>
      chk (decide (0 ≤ w64 (y15 + 1)) && decide ((w64 (y15 + 1)).toNat < (p2.length : Int).toNat)) <|
      (y16[(w64 (y15 + 1)).toNat]?).bind fun _ =>
      k22 (y16.set ((w64 (y15 + 1)).toNat) (if x46 > x43 then x46 else x43))
     else
      k22 (y16)
    else
     k14 (y16)
def Qbf (N : Nat) (p0 : Int) (p2 : (List GHour)) (p4 : (List Int)) (k6 : (List Int) → Option (List Int)) : Nat → Int → (List Int) → Option (List Int)
  | 0, _, _ => none
  | n11 + 1, y7, y8 =>
    bif (decide (y7 < (p2.length : Int))) then
     Qbr (fun y13 =>
       Qbf N p0 p2 p4 k6 n11 (w64 (y7 + 1)) y13) fun k14 : (List Int) → Option (List Int) =>
     Qbp N p0 p2 p4 k14 N 0 y8
    else
     k6 (y8)
def Qa9 (N : Nat) (p2 : (List GHour)) (y51 : Int) (k58 : (List Int) → Option (List Int)) : (List (GStair × Int)) → (List Int) → Option (List Int)
  | [], y71 =>
    k58 (y71)
  | x74 :: q75, y71 =>
    bif (decide (x74.2 > 0)) then
     chk (decide (0 ≤ y51) && decide (y51.toNat < (p2.length : Int).toNat)) <|
     (y71[y51.toNat]?).bind fun _ =>
     Qa9 N p2 y51 k58 q75 (y71.set y51.toNat x74.1.Price)
    else
     Qa9 N p2 y51 k58 q75 y71
def Qbo (N : Nat) (p2 : (List GHour)) (p3 : (List Int)) (k4 : (List Int) → Option (List Int)) : Nat → Int → (List Int) → Option (List Int)
  | 0, _, _ => none
  | n55 + 1, y51, y52 =>
    bif (decide (y51 < (p2.length : Int))) then
     Qbr (fun y57 =>
       Qbo N p2 p3 k4 n55 (w64 (y51 + 1)) y57) fun k58 : (List Int) → Option (List Int) =>
     (getI p2 y51).bind fun x59 =>
     (getI p3 y51).bind fun x63 =>
     (Qde N x59 x63).bind fun _ =>
     (Qdd N x59.Use x59.Stairs x63).bind fun q69 =>
     Qa9 N p2 y51 k58 q69 y52
    else
     k4 (y52)
def Qcy (N : Nat) (p0 : Int) (_p1 : Int) (p2 : (List GHour)) (p3 : (List Int)) (p4 : (List Int)) (_p5 : (Nat → Int)) (_p6 : (Nat → Int)) : Option (List Int) :=
  chk (decide (0 ≤ (p2.length : Int)) && decide (8 * (p2.length : Int) ≤ 281474976710656) && decide ((p2.length : Int) ≤ 9223372036854775807)) <|
  Qbr (fun y3 =>
    Qbr (fun y5 =>
      some y5) fun k6 : (List Int) → Option (List Int) =>
    Qbf N p0 p2 p4 k6 N 0 y3) fun k4 : (List Int) → Option (List Int) =>
  Qbo N p2 p3 k4 N 0 (List.replicate (p2.length : Int).toNat 0)
def Qfu (p2 : (List GHour)) : AV := .dat 2 ((p2 : List GHour).map Qaj)
def Qhe (p3 : (List Int)) : AV := .dat 1 ((p3 : List Int).map Qab)
def Qg2 (p4 : (List Int)) : AV := .dat 1 ((p4 : List Int).map Qab)
def z47_3 (p2 : (List GHour)) : Slot := .own 1 ((List.replicate (p2.length : Int).toNat 0 : List Int).map Qab)
def Qf1 (p2 : (List GHour)) : Slot := .own 1 [[(.own 1 1 (0) ((p2.length : Int).toNat))]]
def Qxg (y3 : (List Int)) : Slot := .own 1 ((y3 : List Int).map Qab)
def Qxf (y5 : (List Int)) : Slot := .own 1 ((y5 : List Int).map Qab)
def Qt5 (y8 : (List Int)) : Slot := .own 1 ((y8 : List Int).map Qab)
def Qi7 (y16 : (List Int)) : Slot := .own 1 ((y16 : List Int).map Qab)
def Qjz (y21 : (List Int)) : Slot := .own 1 ((y21 : List Int).map Qab)
def Qpw (y52 : (List Int)) : Slot := .own 1 ((y52 : List Int).map Qab)
def Qsr (x59 : GHour) : AV := .dat 2 ((x59.Stairs : List GStair).map Qan)
def z47_9 : AV := .fn (.func 109) [] [(.ref 4 2 (0) 0), (.ref 5 1 (0) 0)]
def Qnn (x59 : GHour) : Slot := .own 2 [[(I (x59.Use)), (Qsr x59)]]
def Qno (p2 : (List GHour)) : Slot := .own 1 [[(.own 4 1 (0) ((p2.length : Int).toNat))]]
def Ql5 (y71 : (List Int)) : Slot := .own 1 ((y71 : List Int).map Qab)
set_option maxRecDepth 100000 in
set_option maxHeartbeats 4000000 in
theorem Qg1 (N : Nat) (p0 : Int) (p1 : Int) (p2 : (List GHour)) (p3 : (List Int)) (p4 : (List Int)) (p5 : (Nat → Int)) (p6 : (Nat → Int)) (r : (List Int)) (h : Qcy N p0 p1 p2 p3 p4 p5 p6 = some r) : Spec Try.prog 78 [(.dptr ((I (p0)) :: (I (p1)) :: (Qfu p2) :: (Qhe p3) :: (Qg2 p4) :: (arrF 24 p5 ++ arrF 24 p6)) 0)] [] (.own 0 1 (0) ((p2.length : Int).toNat)) [(.own 1 ((r : List Int).map Qab))] := by
  refine Qal Try.func78 rfl 1 (nle rfl) (fun X φ0 w0 hφ0 => ?_)
  unfold Qcy at h
  refine Qc3 ?_
  refine wx tbk [] trivial ?_
  obtain ⟨hm2, h⟩ := cko h
  refine wx tbk [(5, rp [(.tmp 13, (Qfu p2))] (I ((p2.length : Int)))), (6, ⟨[(.tmp 14, (I ((p2.length : Int)))), (.tmp 14, (I ((p2.length : Int))))], [(0, .unused)], (.own 0 1 (0) ((p2.length : Int).toNat)), [(0, (z47_3 p2))], false⟩)] ⟨alm (c := Qaj) (l := p2) (aln rfl Try.underlying45 rfl), Qhb rfl Try.underlying23 te3 tz3 rfl (Qt3 hm2) rfl (Qt2 hm2) (Qoz hm2) (Qlg Qab rfl), trivial⟩ ?_
  obtain ⟨k4, hk_k4, h⟩ := jko h
  refine wjn (τ := (List Int)) (fun t => k4 t = some r) (fun y3 => ⟨mk 111 [(0, (.dptr ((I p0) :: (I p1) :: (Qfu p2) :: (Qhe p3) :: (Qg2 p4) :: (arrF 24 p5 ++ arrF 24 p6)) 0)), (3, .ref 0 1 0 0)], [(Qf1 p2), (Qxg y3)]⟩) (fun y3 h => ?_) ?_
  ·subst hk_k4
   obtain ⟨k6, hk_k6, h⟩ := jko h
   refine wjn (τ := (List Int)) (fun t => k6 t = some r) (fun y5 => ⟨mk 111 [(3, .ref 0 1 0 0)], [(Qf1 p2), (Qxf y5)]⟩) (fun y5 h => ?_) ?_
   ·subst hk_k6
    refine wx tbk [] trivial ?_
    refine wmr (mto (n := 111) (l' := [(2, (.own 0 1 (0) ((p2.length : Int).toNat)))]) (own' := [(Qxf y5)]) [(2, (.own 1 1 (0) ((p2.length : Int).toNat)))] [1] [(Qxf y5)] hφ0 (pc (.rn (Qaf rfl)) pn) (qc (spr Qaa) qn)) ?_
    refine Qah ?_
    obtain rfl := osi h
    exact ⟨_, Mor.rfl, Qdi (vs := [(.own 0 1 (0) ((p2.length : Int).toNat))]) ⟨rot (by kernel_rfl), trivial⟩ rfl (NLt.own _ _ _ _ (by decide)) (by kernel_rfl) (Qau (Qd9 Qaa _) Qb0)⟩
   ·skip
    refine wx tbk [(5, rp [(.tmp 50, (Qfu p2))] (I ((p2.length : Int))))] ⟨alm (c := Qaj) (l := p2) (aln rfl Try.underlying45 rfl), trivial⟩ ?_
    refine Qai ?_
    refine wmr (mto (n := 111) (l' := [(0, (.dptr ((I p0) :: (I p1) :: (Qfu p2) :: (Qhe p3) :: (Qg2 p4) :: (arrF 24 p5 ++ arrF 24 p6)) 0)), (3, .ref 0 1 0 0), (51, (I ((p2.length : Int)))), (52, I 0)]) (own' := [(Qf1 p2), (Qxg y3)]) [(0, (.dptr ((I p0) :: (I p1) :: (Qfu p2) :: (Qhe p3) :: (Qg2 p4) :: (arrF 24 p5 ++ arrF 24 p6)) 0)), (3, .ref 0 1 0 0), (51, (I ((p2.length : Int)))), (52, I 0)] [0, 1] [(Qf1 p2), (Qxg y3)] hφ0 (pc (.rn (.plain _ (NLt.dptr _ _ (nlc nll (nlc nll (nlc (nld Qac _) (nlc (nld Qaa _) (nlc (nld Qaa _) (Qfl Qdn Qdn))))))))) (pc (.rn (rqr rfl)) (pc rwl (pc rwl pn)))) (qc (spb (lc (.rn (Qaf rfl)) ln)) (qc (spr Qaa) qn))) ?_
    refine Qbu (τ := Int × (List Int)) (fun n t => Qbf N p0 p2 p4 k6 n t.1 t.2 = some r) (fun ⟨y7, y8⟩ => ⟨mk 111 [(0, (.dptr ((I p0) :: (I p1) :: (Qfu p2) :: (Qhe p3) :: (Qg2 p4) :: (arrF 24 p5 ++ arrF 24 p6)) 0)), (3, .ref 0 1 0 0), (51, (I ((p2.length : Int)))), (52, I y7)], [(Qf1 p2), (Qt5 y8)]⟩) (fun t h => by rw [Qbf] at h; cases h) (fun n11 ih t h => ?_) N (0, y3) h
    obtain ⟨y7, y8⟩ := t
    rw [Qbf] at h
    skip
    refine wx tbk [] trivial ?_
    refine wsq ?_
    rcases bft ((decide (y7 < (p2.length : Int)))) with hc12 | hc12
    ·replace h := Qar hc12 h
     refine wft hc12 (by kernel_rfl) ?_
     refine Qag ?_
     refine thn ?_
     obtain ⟨k14, hk_k14, h⟩ := jko h
     refine wjn (τ := (List Int)) (fun t => k14 t = some r) (fun y13 => ⟨mk 111 [(0, (.dptr ((I p0) :: (I p1) :: (Qfu p2) :: (Qhe p3) :: (Qg2 p4) :: (arrF 24 p5 ++ arrF 24 p6)) 0)), (3, .ref 0 1 0 0), (51, (I ((p2.length : Int)))), (52, I y7)], [(Qf1 p2), (.own 1 ((y13 : List Int).map Qab))]⟩) (fun y13 h => ?_) ?_
     ·subst hk_k14
      refine wx1 tbk [] trivial ?_
      refine thn ?_
      exact arm (mto (n := 111) [(0, (.dptr ((I p0) :: (I p1) :: (Qfu p2) :: (Qhe p3) :: (Qg2 p4) :: (arrF 24 p5 ++ arrF 24 p6)) 0)), (3, .ref 0 1 0 0), (51, (I ((p2.length : Int)))), (52, (I (w64 (y7 + 1))))] [0, 1] [(Qf1 p2), (.own 1 ((y13 : List Int).map Qab))] hφ0 (pc (.rn (.plain _ (NLt.dptr _ _ (nlc nll (nlc nll (nlc (nld Qac _) (nlc (nld Qaa _) (nlc (nld Qaa _) (Qfl Qdn Qdn))))))))) (pc (.rn (rqr rfl)) (pc rwl (pc rwl pn)))) (qc (spb (lc (.rn (Qaf rfl)) ln)) (qc (spr Qaa) qn))) (ih (w64 (y7 + 1), y13) h)
     ·skip
      refine Qai ?_
      refine wx tbk [(1, rp [(.tmp 54, (.own 1 1 (0) ((p2.length : Int).toNat)))] (I ((((p2.length : Int).toNat : Nat) : Int))))] ⟨aln rfl Try.underlying23 rfl, trivial⟩ ?_
      refine Qai ?_
      refine wmr (mto (n := 111) (l' := [(0, (.dptr ((I p0) :: (I p1) :: (Qfu p2) :: (Qhe p3) :: (Qg2 p4) :: (arrF 24 p5 ++ arrF 24 p6)) 0)), (3, .ref 0 1 0 0), (51, (I ((p2.length : Int)))), (52, I y7), (56, (I (w64 ((((p2.length : Int).toNat : Nat) : Int) - 1)))), (57, I 0)]) (own' := [(Qf1 p2), (Qt5 y8)]) [(0, (.dptr ((I p0) :: (I p1) :: (Qfu p2) :: (Qhe p3) :: (Qg2 p4) :: (arrF 24 p5 ++ arrF 24 p6)) 0)), (3, .ref 0 1 0 0), (51, (I ((p2.length : Int)))), (52, I y7), (56, (I (w64 ((((p2.length : Int).toNat : Nat) : Int) - 1)))), (57, I 0)] [0, 1] [(Qf1 p2), (Qt5 y8)] hφ0 (pc (.rn (.plain _ (NLt.dptr _ _ (nlc nll (nlc nll (nlc (nld Qac _) (nlc (nld Qaa _) (nlc (nld Qaa _) (Qfl Qdn Qdn))))))))) (pc (.rn (rqr rfl)) (pc rwl (pc rwl (pc rwl (pc rwl pn)))))) (qc (spb (lc (.rn (Qaf rfl)) ln)) (qc (spr Qaa) qn))) ?_
      refine Qbu (τ := Int × (List Int)) (fun n t => Qbp N p0 p2 p4 k14 n t.1 t.2 = some r) (fun ⟨y15, y16⟩ => ⟨mk 111 [(0, (.dptr ((I p0) :: (I p1) :: (Qfu p2) :: (Qhe p3) :: (Qg2 p4) :: (arrF 24 p5 ++ arrF 24 p6)) 0)), (3, .ref 0 1 0 0), (51, (I ((p2.length : Int)))), (52, I y7), (56, (I (w64 ((((p2.length : Int).toNat : Nat) : Int) - 1)))), (57, I y15)], [(Qf1 p2), (Qi7 y16)]⟩) (fun t h => by rw [Qbp] at h; cases h) (fun n19 ih t h => ?_) N (0, y8) h
      obtain ⟨y15, y16⟩ := t
      rw [Qbp] at h
      skip
      refine wx tbk [] trivial ?_
      refine wsq ?_
      rcases bft ((decide (y15 < (w64 ((((p2.length : Int).toNat : Nat) : Int) - 1))))) with hc20 | hc20
      ·replace h := Qar hc20 h
       refine wft hc20 (by kernel_rfl) ?_
       refine Qag ?_
       refine thn ?_
       refine wsq ?_
       refine Qai ?_
       refine wx tbk [] trivial ?_
       obtain ⟨k22, hk_k22, h⟩ := jko h
       refine wjn (τ := (List Int)) (fun t => k22 t = some r) (fun y21 => ⟨mk 111 [(0, (.dptr ((I p0) :: (I p1) :: (Qfu p2) :: (Qhe p3) :: (Qg2 p4) :: (arrF 24 p5 ++ arrF 24 p6)) 0)), (3, .ref 0 1 0 0), (8, I y15), (51, (I ((p2.length : Int)))), (52, I y7), (56, (I (w64 ((((p2.length : Int).toNat : Nat) : Int) - 1)))), (57, I y15)], [(Qf1 p2), (Qjz y21)]⟩) (fun y21 h => ?_) ?_
       ·subst hk_k22
        obtain ⟨x23, hg24, h⟩ := bno h
        obtain ⟨hi25, hj26⟩ := gsm hg24
        refine wxd tbk [(5, rp [(.tmp 85, (Qg2 p4)), (.tmp 86, I y15)] (.dptr (Qab (x23)) 0))] ⟨aid rfl Try.underlying23 ti3 rfl rfl hi25 (mgt Qab hj26) rfl, trivial⟩ ?_
        rcases bft ((decide (x23 < p0))) with hc27 | hc27
        ·replace h := Qar hc27 h
         refine wft hc27 (by kernel_rfl) ?_
         obtain ⟨hi28, h⟩ := cko h
         obtain ⟨hi28a, hi28b⟩ := Qa1 hi28
         obtain ⟨x29, hg30, h⟩ := bno h
         obtain ⟨hi31, h⟩ := cko h
         obtain ⟨hi31a, hi31b⟩ := Qa1 hi31
         obtain ⟨x32, hg33, h⟩ := bno h
         obtain ⟨hi34, h⟩ := cko h
         obtain ⟨hi34a, hi34b⟩ := Qa1 hi34
         obtain ⟨x35, hg36, h⟩ := bno h
         refine wy1 tbk [(4, rb [(.tmp 97, (.own 1 1 (0) ((p2.length : Int).toNat))), (.tmp 98, I y15)] [(1, (Qjz y21))] (.ref 1 1 (y15.toNat) 0)), (5, rb [(.tmp 99, (.ref 1 1 (y15.toNat) 0))] [(1, (Qjz y21))] (I x29)), (9, rb [(.tmp 101, (.own 1 1 (0) ((p2.length : Int).toNat))), (.tmp 103, (I (w64 (y15 + 1))))] [(1, (Qjz y21))] (.ref 1 1 ((w64 (y15 + 1)).toNat) 0)), (10, rb [(.tmp 104, (.ref 1 1 ((w64 (y15 + 1)).toNat) 0))] [(1, (Qjz y21))] (I x32)), (11, rp [(.tmp 100, I x29), (.tmp 105, I x32)] (I ((if x32 > x29 then x32 else x29)))), (12, rb [(.tmp 95, (.own 1 1 (0) ((p2.length : Int).toNat))), (.tmp 96, I y15)] [(1, (Qjz y21))] (.ref 1 1 (y15.toNat) 0)), (13, ⟨[(.tmp 107, (.ref 1 1 (y15.toNat) 0)), (.tmp 106, (I ((if x32 > x29 then x32 else x29))))], [(1, (Qjz y21))], .any, [(1, (.own 1 ((y21.set y15.toNat (if x32 > x29 then x32 else x29) : List Int).map Qab)))], false⟩)] ⟨aio rfl Try.underlying23 ti3 (odt hi28a) (odt hi28b) (Nat.zero_add _), ald rfl ti3 (by decide) (mgt Qab hg30) (nle rfl) rfl, aio rfl Try.underlying23 ti3 (odt hi31a) (odt hi31b) (Nat.zero_add _), ald rfl ti3 (by decide) (mgt Qab hg33) (nle rfl) rfl, Qi5 rfl, aio rfl Try.underlying23 ti3 (odt hi34a) (odt hi34b) (Nat.zero_add _), ast rfl ti3 (by rfl) (mgt Qab hg36) (nle rfl) (Qel Qab rfl), trivial⟩ ?_
         refine bln ?_
         refine thn ?_
         refine wx1 tbk [] trivial ?_
         refine thn ?_
         exact arm (mto (n := 111) [(0, (.dptr ((I p0) :: (I p1) :: (Qfu p2) :: (Qhe p3) :: (Qg2 p4) :: (arrF 24 p5 ++ arrF 24 p6)) 0)), (3, .ref 0 1 0 0), (51, (I ((p2.length : Int)))), (52, I y7), (56, (I (w64 ((((p2.length : Int).toNat : Nat) : Int) - 1)))), (57, (I (w64 (y15 + 1))))] [0, 1] [(Qf1 p2), (.own 1 ((y21.set y15.toNat (if x32 > x29 then x32 else x29) : List Int).map Qab))] hφ0 (pc (.rn (.plain _ (NLt.dptr _ _ (nlc nll (nlc nll (nlc (nld Qac _) (nlc (nld Qaa _) (nlc (nld Qaa _) (Qfl Qdn Qdn))))))))) (pc (.rn (rqr rfl)) (pc rwl (pc rwl (pc rwl (pc rwl pn)))))) (qc (spb (lc (.rn (Qaf rfl)) ln)) (qc (spr Qaa) qn))) (ih (w64 (y15 + 1), y21.set y15.toNat (if x32 > x29 then x32 else x29)) h)
        ·replace h := Qas hc27 h
         refine wfn hc27 (by kernel_rfl) ?_
         refine Qag ?_
         refine bln ?_
         refine thn ?_
         refine wx1 tbk [] trivial ?_
         refine thn ?_
         exact arm (mto (n := 111) [(0, (.dptr ((I p0) :: (I p1) :: (Qfu p2) :: (Qhe p3) :: (Qg2 p4) :: (arrF 24 p5 ++ arrF 24 p6)) 0)), (3, .ref 0 1 0 0), (51, (I ((p2.length : Int)))), (52, I y7), (56, (I (w64 ((((p2.length : Int).toNat : Nat) : Int) - 1)))), (57, (I (w64 (y15 + 1))))] [0, 1] [(Qf1 p2), (Qjz y21)] hφ0 (pc (.rn (.plain _ (NLt.dptr _ _ (nlc nll (nlc nll (nlc (nld Qac _) (nlc (nld Qaa _) (nlc (nld Qaa _) (Qfl Qdn Qdn))))))))) (pc (.rn (rqr rfl)) (pc rwl (pc rwl (pc rwl (pc rwl pn)))))) (qc (spb (lc (.rn (Qaf rfl)) ln)) (qc (spr Qaa) qn))) (ih (w64 (y15 + 1), y21) h)
       ·skip
        obtain ⟨x37, hg38, h⟩ := bno h
        obtain ⟨hi39, hj40⟩ := gsm hg38
        refine wx tbk [(5, rp [(.tmp 63, (Qg2 p4)), (.tmp 64, I y15)] (.dptr (Qab (x37)) 0))] ⟨aid rfl Try.underlying23 ti3 rfl rfl hi39 (mgt Qab hj40) rfl, trivial⟩ ?_
        rcases bft ((decide (x37 > 0))) with hc41 | hc41
        ·replace h := Qar hc41 h
         refine wft hc41 (by kernel_rfl) ?_
         obtain ⟨hi42, h⟩ := cko h
         obtain ⟨hi42a, hi42b⟩ := Qa1 hi42
         obtain ⟨x43, hg44, h⟩ := bno h
         obtain ⟨hi45, h⟩ := cko h
         obtain ⟨hi45a, hi45b⟩ := Qa1 hi45
         obtain ⟨x46, hg47, h⟩ := bno h
         obtain ⟨hi48, h⟩ := cko h
         obtain ⟨hi48a, hi48b⟩ := Qa1 hi48
         obtain ⟨x49, hg50, h⟩ := bno h
         refine wy1 tbk [(6, rb [(.tmp 71, (.own 1 1 (0) ((p2.length : Int).toNat))), (.tmp 73, (I (w64 (y15 + 1))))] [(1, (Qi7 y16))] (.ref 1 1 ((w64 (y15 + 1)).toNat) 0)), (7, rb [(.tmp 74, (.ref 1 1 ((w64 (y15 + 1)).toNat) 0))] [(1, (Qi7 y16))] (I x43)), (10, rb [(.tmp 76, (.own 1 1 (0) ((p2.length : Int).toNat))), (.tmp 77, I y15)] [(1, (Qi7 y16))] (.ref 1 1 (y15.toNat) 0)), (11, rb [(.tmp 78, (.ref 1 1 (y15.toNat) 0))] [(1, (Qi7 y16))] (I x46)), (12, rp [(.tmp 75, I x43), (.tmp 79, I x46)] (I ((if x46 > x43 then x46 else x43)))), (13, rb [(.tmp 68, (.own 1 1 (0) ((p2.length : Int).toNat))), (.tmp 70, (I (w64 (y15 + 1))))] [(1, (Qi7 y16))] (.ref 1 1 ((w64 (y15 + 1)).toNat) 0)), (14, ⟨[(.tmp 81, (.ref 1 1 ((w64 (y15 + 1)).toNat) 0)), (.tmp 80, (I ((if x46 > x43 then x46 else x43))))], [(1, (Qi7 y16))], .any, [(1, (.own 1 ((y16.set ((w64 (y15 + 1)).toNat) (if x46 > x43 then x46 else x43) : List Int).map Qab)))], false⟩)] ⟨aio rfl Try.underlying23 ti3 (odt hi42a) (odt hi42b) (Nat.zero_add _), ald rfl ti3 (by decide) (mgt Qab hg44) (nle rfl) rfl, aio rfl Try.underlying23 ti3 (odt hi45a) (odt hi45b) (Nat.zero_add _), ald rfl ti3 (by decide) (mgt Qab hg47) (nle rfl) rfl, Qi5 rfl, aio rfl Try.underlying23 ti3 (odt hi48a) (odt hi48b) (Nat.zero_add _), ast rfl ti3 (by rfl) (mgt Qab hg50) (nle rfl) (Qel Qab rfl), trivial⟩ ?_
         refine thn ?_
         exact ⟨(y16.set ((w64 (y15 + 1)).toNat) (if x46 > x43 then x46 else x43)), h, (mto (n := 111) [(0, (.dptr ((I p0) :: (I p1) :: (Qfu p2) :: (Qhe p3) :: (Qg2 p4) :: (arrF 24 p5 ++ arrF 24 p6)) 0)), (3, .ref 0 1 0 0), (8, I y15), (51, (I ((p2.length : Int)))), (52, I y7), (56, (I (w64 ((((p2.length : Int).toNat : Nat) : Int) - 1)))), (57, I y15)] [0, 1] [(Qf1 p2), (.own 1 ((y16.set ((w64 (y15 + 1)).toNat) (if x46 > x43 then x46 else x43) : List Int).map Qab))] hφ0 (pc (.rn (.plain _ (NLt.dptr _ _ (nlc nll (nlc nll (nlc (nld Qac _) (nlc (nld Qaa _) (nlc (nld Qaa _) (Qfl Qdn Qdn))))))))) (pc (.rn (rqr rfl)) (pc rwl (pc rwl (pc rwl (pc rwl (pc rwl pn))))))) (qc (spb (lc (.rn (Qaf rfl)) ln)) (qc (spr Qaa) qn)))⟩
        ·replace h := Qas hc41 h
         refine wfn hc41 (by kernel_rfl) ?_
         refine Qag ?_
         refine thn ?_
         exact ⟨(y16), h, (mto (n := 111) [(0, (.dptr ((I p0) :: (I p1) :: (Qfu p2) :: (Qhe p3) :: (Qg2 p4) :: (arrF 24 p5 ++ arrF 24 p6)) 0)), (3, .ref 0 1 0 0), (8, I y15), (51, (I ((p2.length : Int)))), (52, I y7), (56, (I (w64 ((((p2.length : Int).toNat : Nat) : Int) - 1)))), (57, I y15)] [0, 1] [(Qf1 p2), (Qi7 y16)] hφ0 (pc (.rn (.plain _ (NLt.dptr _ _ (nlc nll (nlc nll (nlc (nld Qac _) (nlc (nld Qaa _) (nlc (nld Qaa _) (Qfl Qdn Qdn))))))))) (pc (.rn (rqr rfl)) (pc rwl (pc rwl (pc rwl (pc rwl (pc rwl pn))))))) (qc (spb (lc (.rn (Qaf rfl)) ln)) (qc (spr Qaa) qn)))⟩
      ·replace h := Qas hc20 h
       refine wfn hc20 (by kernel_rfl) ?_
       refine Qa3 ?_
       refine Qao ?_
       refine Qao ?_
       refine Qa2 rfl ?_
       refine bln ?_
       refine thn ?_
       exact ⟨(y16), h, (mto (n := 111) [(0, (.dptr ((I p0) :: (I p1) :: (Qfu p2) :: (Qhe p3) :: (Qg2 p4) :: (arrF 24 p5 ++ arrF 24 p6)) 0)), (3, .ref 0 1 0 0), (51, (I ((p2.length : Int)))), (52, I y7)] [0, 1] [(Qf1 p2), (Qi7 y16)] hφ0 (pc (.rn (.plain _ (NLt.dptr _ _ (nlc nll (nlc nll (nlc (nld Qac _) (nlc (nld Qaa _) (nlc (nld Qaa _) (Qfl Qdn Qdn))))))))) (pc (.rn (rqr rfl)) (pc rwl (pc rwl pn)))) (qc (spb (lc (.rn (Qaf rfl)) ln)) (qc (spr Qaa) qn)))⟩
    ·replace h := Qas hc12 h
     refine wfn hc12 (by kernel_rfl) ?_
     refine Qa3 ?_
     refine Qao ?_
     refine Qao ?_
     refine Qa2 rfl ?_
     refine thn ?_
     exact ⟨(y8), h, (mto (n := 111) [(3, .ref 0 1 0 0)] [0, 1] [(Qf1 p2), (Qt5 y8)] hφ0 (pc (.rn (rqr rfl)) pn) (qc (spb (lc (.rn (Qaf rfl)) ln)) (qc (spr Qaa) qn)))⟩
  ·skip
   refine wx tbk [(5, rp [(.tmp 20, (Qfu p2))] (I ((p2.length : Int))))] ⟨alm (c := Qaj) (l := p2) (aln rfl Try.underlying45 rfl), trivial⟩ ?_
   refine Qai ?_
   refine wmr (mto (n := 111) (l' := [(0, (.dptr ((I p0) :: (I p1) :: (Qfu p2) :: (Qhe p3) :: (Qg2 p4) :: (arrF 24 p5 ++ arrF 24 p6)) 0)), (3, .ref 0 1 0 0), (20, (Qfu p2)), (21, (I ((p2.length : Int)))), (22, I 0)]) (own' := [(Qf1 p2), (.own 1 (((List.replicate (p2.length : Int).toNat 0) : List Int).map Qab))]) [(0, (.dptr ((I p0) :: (I p1) :: (Qfu p2) :: (Qhe p3) :: (Qg2 p4) :: (arrF 24 p5 ++ arrF 24 p6)) 0)), (3, .ref 1 1 0 0), (20, (Qfu p2)), (21, (I ((p2.length : Int)))), (22, I 0)] [1, 0] [(.own 1 [[(.own 0 1 (0) ((p2.length : Int).toNat))]]), (z47_3 p2)] hφ0 (pc (.rn (.plain _ (NLt.dptr _ _ (nlc nll (nlc nll (nlc (nld Qac _) (nlc (nld Qaa _) (nlc (nld Qaa _) (Qfl Qdn Qdn))))))))) (pc (.rn (rqr rfl)) (pc (.rn (.plain _ (nld Qac _))) (pc rwl (pc rwl pn))))) (qc (spb (lc (.rn (Qaf rfl)) ln)) (qc (spr Qaa) qn))) ?_
   refine Qbu (τ := Int × (List Int)) (fun n t => Qbo N p2 p3 k4 n t.1 t.2 = some r) (fun ⟨y51, y52⟩ => ⟨mk 111 [(0, (.dptr ((I p0) :: (I p1) :: (Qfu p2) :: (Qhe p3) :: (Qg2 p4) :: (arrF 24 p5 ++ arrF 24 p6)) 0)), (3, .ref 0 1 0 0), (20, (Qfu p2)), (21, (I ((p2.length : Int)))), (22, I y51)], [(Qf1 p2), (Qpw y52)]⟩) (fun t h => by rw [Qbo] at h; cases h) (fun n55 ih t h => ?_) N (0, List.replicate (p2.length : Int).toNat 0) h
   obtain ⟨y51, y52⟩ := t
   rw [Qbo] at h
   skip
   refine wx tbk [] trivial ?_
   refine wsq ?_
   rcases bft ((decide (y51 < (p2.length : Int)))) with hc56 | hc56
   ·replace h := Qar hc56 h
    refine wft hc56 (by kernel_rfl) ?_
    refine Qag ?_
    refine thn ?_
    obtain ⟨k58, hk_k58, h⟩ := jko h
    refine wjn (τ := (List Int)) (fun t => k58 t = some r) (fun y57 => ⟨mk 111 [(0, (.dptr ((I p0) :: (I p1) :: (Qfu p2) :: (Qhe p3) :: (Qg2 p4) :: (arrF 24 p5 ++ arrF 24 p6)) 0)), (3, .ref 0 1 0 0), (20, (Qfu p2)), (21, (I ((p2.length : Int)))), (22, I y51)], [(Qf1 p2), (.own 1 ((y57 : List Int).map Qab))]⟩) (fun y57 h => ?_) ?_
    ·subst hk_k58
     refine wx1 tbk [] trivial ?_
     refine thn ?_
     exact arm (mto (n := 111) [(0, (.dptr ((I p0) :: (I p1) :: (Qfu p2) :: (Qhe p3) :: (Qg2 p4) :: (arrF 24 p5 ++ arrF 24 p6)) 0)), (3, .ref 0 1 0 0), (20, (Qfu p2)), (21, (I ((p2.length : Int)))), (22, (I (w64 (y51 + 1))))] [0, 1] [(Qf1 p2), (.own 1 ((y57 : List Int).map Qab))] hφ0 (pc (.rn (.plain _ (NLt.dptr _ _ (nlc nll (nlc nll (nlc (nld Qac _) (nlc (nld Qaa _) (nlc (nld Qaa _) (Qfl Qdn Qdn))))))))) (pc (.rn (rqr rfl)) (pc (.rn (.plain _ (nld Qac _))) (pc rwl (pc rwl pn))))) (qc (spb (lc (.rn (Qaf rfl)) ln)) (qc (spr Qaa) qn))) (ih (w64 (y51 + 1), y57) h)
    ·skip
     refine Qai ?_
     obtain ⟨x59, hg60, h⟩ := bno h
     obtain ⟨hi61, hj62⟩ := gsm hg60
     refine wx tbk [(1, rp [(.tmp 20, (Qfu p2)), (.tmp 22, I y51)] (.dptr (Qaj (x59)) 0))] ⟨aid rfl Try.underlying45 ti62 rfl rfl hi61 (mgt Qaj hj62) rfl, trivial⟩ ?_
     obtain ⟨x63, hg64, h⟩ := bno h
     obtain ⟨hi65, hj66⟩ := gsm hg64
     obtain ⟨x68, hf67, h⟩ := bno h
     refine wxd tbk [(6, rp [(.tmp 31, (Qhe p3)), (.tmp 32, I y51)] (.dptr (Qab (x63)) 0)), (8, ⟨[fu 93, (.tmp 27, (.agg [I x59.Use, (Qsr x59)])), (.tmp 34, I x63)], [(4, .unused), (5, .unused)], z47_9, [(4, (Qnn x59)), (5, .own 1 [[I x63]])], false⟩)] ⟨aid rfl Try.underlying23 ti3 rfl rfl hi65 (mgt Qab hj66) rfl, Qat (first := []) (cap := []) (vs := [(.agg [I x59.Use, (Qsr x59)]), I x63]) (σr := []) (σr' := [(Qnn x59), (.own 1 [[I x63]])]) (res' := z47_9) [4, 5] rfl Qtj (Qf4 N x59 x63 _ hf67) rfl (Qcq (rnc (.plain _ (NLt.agg _ (nlc nll (nlc (nld Qa5 _) nl0)))) (rnc (.plain _ nll) rn0))) Qap (slc (Qam (rnc (.plain _ nll) (rnc (.plain _ (nld Qa5 _)) rn0))) (slc (Qam (rnc (.plain _ nll) rn0)) Qap)) (Qay rn0 (rnc (Qge rfl) (rnc (Qge rfl) rn0))) rfl rfl rfl, trivial⟩ ?_
     refine Qai ?_
     obtain ⟨q69, hL70, h⟩ := bno h
     refine wmr (mto (n := 111) (l' := [(0, (.dptr ((I p0) :: (I p1) :: (Qfu p2) :: (Qhe p3) :: (Qg2 p4) :: (arrF 24 p5 ++ arrF 24 p6)) 0)), (3, .ref 0 1 0 0), (4, .ref 1 1 0 0), (20, (Qfu p2)), (21, (I ((p2.length : Int)))), (22, I y51), (35, (.fn (.func 109) [] [.ref 2 2 0 0, .ref 3 1 0 0]))]) (own' := [(Qno p2), (.own 1 [[I y51]]), (Qnn x59), (.own 1 [[I x63]]), (Qpw y52)]) [(0, (.dptr ((I p0) :: (I p1) :: (Qfu p2) :: (Qhe p3) :: (Qg2 p4) :: (arrF 24 p5 ++ arrF 24 p6)) 0)), (3, .ref 0 1 0 0), (4, .ref 2 1 0 0), (20, (Qfu p2)), (21, (I ((p2.length : Int)))), (22, I y51), (35, z47_9)] [0, 2, 4, 5, 1] [(Qf1 p2), (.own 1 [[I y51]]), (Qnn x59), (.own 1 [[I x63]]), (Qpw y52)] hφ0 (pc (.rn (.plain _ (NLt.dptr _ _ (nlc nll (nlc nll (nlc (nld Qac _) (nlc (nld Qaa _) (nlc (nld Qaa _) (Qfl Qdn Qdn))))))))) (pc (.rn (rqr rfl)) (pc (.rn (rqr rfl)) (pc (.rn (.plain _ (nld Qac _))) (pc rwl (pc rwl (pc (.rn (Qay rn0 (rnc (rqr rfl) (rnc (rqr rfl) rn0)))) pn))))))) (qc (spb (lc (.rn (Qaf rfl)) ln)) (qc (spb (lc rwl ln)) (qc (spb (lc rwl (lc (.rn (.plain _ (nld Qa5 _))) ln))) (qc (spb (lc rwl ln)) (qc (spr Qaa) qn)))))) ?_
     refine Qi2 (τ := ((List Int))) (kb := 5) (caps := [.ref 2 2 0 0, .ref 3 1 0 0]) (σr := [(Qnn x59), (.own 1 [[I x63]])]) (encs := fun x => [(.agg #[(.int .i64 (x.1.Amount)), (.int .i64 (x.1.Price))]), (.int .i64 (x.2))]) (fun x => [(.agg [I x.1.Amount, I x.1.Price]), I x.2]) [2, 3] (fun n hn => hφ0 n (Nat.le_trans (nle rfl) hn)) (Qf3 N x59.Use x59.Stairs x63 _ hL70) Qq1 (by kernel_rfl) (by kernel_rfl) (Qcq (rnc (Qge rfl) (rnc (Qge rfl) rn0))) (slc (Qam (rnc (.plain _ nll) (rnc (.plain _ (nld Qa5 _)) rn0))) (slc (Qam (rnc (.plain _ nll) rn0)) Qap)) (by kernel_rfl) (fun _ => rfl) (fun x => ⟨(Less.unlits [(.int .i64 (x.1.Amount)), (.int .i64 (x.1.Price))]), lrf, trivial⟩) (Qr5 (Qdl (NLt.of0 (NLt.dptr _ _ (nlc nll (nlc nll (nlc (nld Qac _) (nlc (nld Qaa _) (nlc (nld Qaa _) (Qfl Qdn Qdn)))))))) (Qdl (NLt.ref _ _ _ _ (by decide)) (Qdl (NLt.ref _ _ _ _ (by decide)) (Qdl (NLt.of0 (nld Qac _)) (Qdl (NLt.of0 nll) (Qdl (NLt.of0 nll) (Qdl (NLt.fn _ _ _ nl0 (nlc (NLt.ref _ _ _ _ (by decide)) (nlc (NLt.ref _ _ _ _ (by decide)) nl0))) Qoc)))))))) (fun y71 => [(Qno p2), (.own 1 [[I y51]]), .dead, .dead, (Ql5 y71)]) (fun _ => rfl) (fun _ => rfl) (fun l t => Qa9 N p2 y51 k58 l t = some r) (y52) h (by kernel_rfl) ?_ ?_
     ·intro l76 o77 X80 φ81 w82 hφ79 x74 q75 y71 h
      rw [Qa9] at h
      refine wx tbk [] trivial ?_
      refine wx1 tbk [] trivial ?_
      refine ⟨by kernel_rfl, fun o78 => ?_⟩
      refine Qai ?_
      refine wx tbk [] trivial ?_
      rcases bft ((decide (x74.2 > 0))) with hc83 | hc83
      ·replace h := Qar hc83 h
       refine wft hc83 (by kernel_rfl) ?_
       obtain ⟨hi84, h⟩ := cko h
       obtain ⟨hi84a, hi84b⟩ := Qa1 hi84
       obtain ⟨x85, hg86, h⟩ := bno h
       refine wx1 tbk [(4, rb [(.tmp 40, (.own 4 1 (0) ((p2.length : Int).toNat))), (.tmp 41, I y51)] [(4, (Ql5 y71))] (.ref 4 1 (y51.toNat) 0)), (5, ⟨[(.tmp 44, (.ref 4 1 (y51.toNat) 0)), (.tmp 43, I x74.1.Price)], [(4, (Ql5 y71))], .any, [(4, (.own 1 ((y71.set y51.toNat x74.1.Price : List Int).map Qab)))], false⟩)] ⟨aio rfl Try.underlying23 ti3 (odt hi84a) (odt hi84b) (Nat.zero_add _), ast rfl ti3 (by rfl) (mgt Qab hg86) (nle rfl) (Qel Qab rfl), trivial⟩ ?_
       refine bln ?_
       exact ⟨(y71.set y51.toNat x74.1.Price), h, Qjt (own' := [(Qno p2), (.own 1 [[I y51]]), .dead, .dead, (.own 1 (((y71.set y51.toNat x74.1.Price) : List Int).map Qab)), (.far (farL l76 o78))]) [0, 1, 2, 3, 4, 5] [(Qno p2), (.own 1 [[I y51]]), .dead, .dead, (.own 1 ((y71.set y51.toNat x74.1.Price : List Int).map Qab)), (.far (farL l76 o78))] (by kernel_rfl) (by kernel_rfl) ⟨(spb (lc (.rn (Qaf rfl)) ln)), (spb (lc rwl ln)), .dead, .dead, (spr Qaa), .far _, trivial⟩⟩
      ·replace h := Qas hc83 h
       refine wfn hc83 (by kernel_rfl) ?_
       refine Qag ?_
       refine bln ?_
       exact ⟨(y71), h, Qjt (own' := [(Qno p2), (.own 1 [[I y51]]), .dead, .dead, (Ql5 y71), (.far (farL l76 o78))]) [0, 1, 2, 3, 4, 5] [(Qno p2), (.own 1 [[I y51]]), .dead, .dead, (Ql5 y71), (.far (farL l76 o78))] (by kernel_rfl) (by kernel_rfl) ⟨(spb (lc (.rn (Qaf rfl)) ln)), (spb (lc rwl ln)), .dead, .dead, (spr Qaa), .far _, trivial⟩⟩
     ·intro y71 h
      rw [Qa9] at h
      refine bln ?_
      refine bln ?_
      refine thn ?_
      exact ⟨(y71), h, (mto (n := 111) [(0, (.dptr ((I p0) :: (I p1) :: (Qfu p2) :: (Qhe p3) :: (Qg2 p4) :: (arrF 24 p5 ++ arrF 24 p6)) 0)), (3, .ref 0 1 0 0), (20, (Qfu p2)), (21, (I ((p2.length : Int)))), (22, I y51)] [0, 4] [(Qno p2), (Ql5 y71)] hφ0 (pc (.rn (.plain _ (NLt.dptr _ _ (nlc nll (nlc nll (nlc (nld Qac _) (nlc (nld Qaa _) (nlc (nld Qaa _) (Qfl Qdn Qdn))))))))) (pc (.rn (rqr rfl)) (pc (.rn (.plain _ (nld Qac _))) (pc rwl (pc rwl pn))))) (qc (spb (lc (.rn (Qaf rfl)) ln)) (qc (spr Qaa) qn)))⟩
   ·replace h := Qas hc56 h
    refine wfn hc56 (by kernel_rfl) ?_
    refine Qa3 ?_
    refine Qao ?_
    refine Qao ?_
    refine Qa2 rfl ?_
    refine thn ?_
    exact ⟨(y52), h, (mto (n := 111) [(0, (.dptr ((I p0) :: (I p1) :: (Qfu p2) :: (Qhe p3) :: (Qg2 p4) :: (arrF 24 p5 ++ arrF 24 p6)) 0)), (3, .ref 0 1 0 0)] [0, 1] [(Qf1 p2), (Qpw y52)] hφ0 (pc (.rn (.plain _ (NLt.dptr _ _ (nlc nll (nlc nll (nlc (nld Qac _) (nlc (nld Qaa _) (nlc (nld Qaa _) (Qfl Qdn Qdn))))))))) (pc (.rn (rqr rfl)) pn)) (qc (spb (lc (.rn (Qaf rfl)) ln)) (qc (spr Qaa) qn)))⟩
def Qbl (N : Nat) (p0 : GDay) (y19 : (List Int)) (k23 : Int → Option ((List Int) × (List Int) × Int × Int)) : Nat → Int → Int → Option ((List Int) × (List Int) × Int × Int)
  | 0, _, _ => none
  | n34 + 1, y30, y31 =>
    bif (decide (y31 < (p0.Hours.length : Int))) then
     (getI p0.Hours y31).bind fun x36 =>
     chk (decide (0 ≤ y31) && decide (y31.toNat < (p0.Hours.length : Int).toNat)) <|
     (y19[y31.toNat]?).bind fun x41 =>
     (Qfc N x36 x41).bind fun x44 =>
     Qbl N p0 y19 k23 n34 (w64 (y30 + x44)) (w64 (y31 + 1))
    else
     k23 (y30)
def Qb2 (N : Nat) (p0 : GDay) (k21 : (Nat → Int) × (Nat → Int) × (List Int) × (List Int) → Option ((List Int) × (List Int) × Int × Int)) : Nat → Int → Int → (Nat → Int) → (Nat → Int) → (List Int) → (List Int) → Option ((List Int) × (List Int) × Int × Int)
  | 0, _, _, _, _, _, _ => none
  | n57 + 1, y45, y46, y47, y48, y49, y50 =>
    bif (decide (y46 < (p0.Hours.length : Int))) then
     (getI p0.Hours y46).bind fun x59 =>
     (some (if (w64 (x59.Use - y45)) > 0 then w64 (x59.Use - y45) else 0)).bind fun x63 =>
     (Qeq N y46 x63 p0.Tank p0.Start p0.Hours ((p0.Hours.length : Int).toNat) ((p0.Hours.length : Int).toNat) y47 y48 y49 y50).bind fun x66 =>
     (some (if (w64 (y45 - x59.Use)) > 0 then w64 (y45 - x59.Use) else 0)).bind fun x67 =>
     chk (decide (0 ≤ y46) && decide (y46.toNat < ((p0.Hours.length : Int).toNat))) <|
     (x66.2.2.2[y46.toNat]?).bind fun x70 =>
     chk (decide (0 ≤ y46) && decide (y46.toNat < ((p0.Hours.length : Int).toNat))) <|
     (x66.2.2.2[y46.toNat]?).bind fun _ =>
     Qb2 N p0 k21 n57 x67 (w64 (y46 + 1)) x66.1 x66.2.1 x66.2.2.1 (x66.2.2.2.set y46.toNat (w64 (x70 + x67)))
    else
     k21 (y47, y48, y49, y50)
def Qb1 (N : Nat) (p0 : GDay) (k16 : (Nat → Int) → Option ((List Int) × (List Int) × Int × Int)) : Nat → Int → (Nat → Int) → Option ((List Int) × (List Int) × Int × Int)
  | 0, _, _ => none
  | n79 + 1, y75, y76 =>
    bif (decide (y75 < (p0.Hours.length : Int))) then
     (getI p0.Hours y75).bind fun x81 =>
     bif (decide ((x81.Stairs.length : Int) > 0)) then
      (getI x81.Stairs 0).bind fun x86 =>
      chk (decide (0 ≤ y75) && decide (y75.toNat < 24)) <|
      Qb1 N p0 k16 n79 (w64 (y75 + 1)) (setF y76 y75.toNat x86.Amount)
     else
      Qb1 N p0 k16 n79 (w64 (y75 + 1)) y76
    else
     k16 (y76)
def Qen (N : Nat) (p0 : GDay) : Option ((List Int) × (List Int) × Int × Int) :=
  (Qet N p0).bind fun x8 =>
  bif (!x8) then
   some ([], [], 0, 1)
  else
   (Qfd N p0).bind fun x11 =>
   bif (decide (x11.1 ≥ 0)) then
    some ([], [], 0, 7)
   else
    chk (decide (0 ≤ (p0.Hours.length : Int)) && decide (8 * (p0.Hours.length : Int) ≤ 281474976710656) && decide ((p0.Hours.length : Int) ≤ 9223372036854775807)) <|
    chk (decide (0 ≤ (p0.Hours.length : Int)) && decide (8 * (p0.Hours.length : Int) ≤ 281474976710656) && decide ((p0.Hours.length : Int) ≤ 9223372036854775807)) <|
    Qbr (fun y15 =>
      Qbr (fun ⟨y17, y18, y19, y20⟩ =>
        Qbr (fun y22 =>
          chk (decide ((p0.Hours.length : Int).toNat ≤ y19.length)) <|
          chk (decide ((p0.Hours.length : Int).toNat ≤ y20.length)) <|
          (Qcy N p0.Tank p0.Start p0.Hours (y19.take ((p0.Hours.length : Int).toNat)) (y20.take ((p0.Hours.length : Int).toNat)) y17 y18).bind fun x27 =>
          chk (decide ((p0.Hours.length : Int).toNat ≤ y19.length)) <|
          chk (decide ((p0.Hours.length : Int).toNat ≤ x27.length)) <|
          some (y19.take ((p0.Hours.length : Int).toNat), x27.take ((p0.Hours.length : Int).toNat), y22, 0)) fun k23 : Int → Option ((List Int) × (List Int) × Int × Int) =>
        Qbl N p0 y19 k23 N 0 0) fun k21 : (Nat → Int) × (Nat → Int) × (List Int) × (List Int) → Option ((List Int) × (List Int) × Int × Int) =>
      Qb2 N p0 k21 N p0.Start 0 (fun _ => 0) y15 (List.replicate (p0.Hours.length : Int).toNat 0) (List.replicate (p0.Hours.length : Int).toNat 0)) fun k16 : (Nat → Int) → Option ((List Int) × (List Int) × Int × Int) =>
    Qb1 N p0 k16 N 0 (fun _ => 0)
def Qfv (p0 : GDay) : AV := .dat 2 ((p0.Hours : List GHour).map Qaj)
def Qvz (p0 : GDay) : AV := .agg [(I (p0.Tank)), (I (p0.Start)), (Qfv p0)]
def Qj3 : AV := .dat 1 (([] : List Int).map Qab)
def Qjv (p0 : GDay) : Slot := .own 1 ((List.replicate (p0.Hours.length : Int).toNat 0 : List Int).map Qab)
def Ql8 (p0 : GDay) : Slot := .own 3 [[(I (p0.Tank)), (I (p0.Start)), (Qfv p0)]]
def Qst (p0 : GDay) (y15 : (Nat → Int)) : Slot := .own 53 [((I (p0.Tank)) :: (I (p0.Start)) :: (Qfv p0) :: (.own 2 1 (0) ((p0.Hours.length : Int).toNat)) :: (.own 3 1 (0) ((p0.Hours.length : Int).toNat)) :: (arrF 24 (fun _ => 0) ++ arrF 24 y15))]
def Qxm (p0 : GDay) (y17 : (Nat → Int)) (y18 : (Nat → Int)) : Slot := .own 53 [((I (p0.Tank)) :: (I (p0.Start)) :: (Qfv p0) :: (.own 2 1 (0) ((p0.Hours.length : Int).toNat)) :: (.own 3 1 (0) ((p0.Hours.length : Int).toNat)) :: (arrF 24 y17 ++ arrF 24 y18))]
def Qik (y19 : (List Int)) : Slot := .own 1 ((y19 : List Int).map Qab)
def Qj2 (y20 : (List Int)) : Slot := .own 1 ((y20 : List Int).map Qab)
def Qj1 (p0 : GDay) (y17 : (Nat → Int)) (y18 : (Nat → Int)) : Slot := .own 53 [((I (p0.Tank)) :: (I (p0.Start)) :: (Qfv p0) :: (.own 1 1 (0) ((p0.Hours.length : Int).toNat)) :: (.own 2 1 (0) ((p0.Hours.length : Int).toNat)) :: (arrF 24 y17 ++ arrF 24 y18))]
def Qk5 (y19 : (List Int)) (p0 : GDay) : AV := .dat 1 ((y19.take ((p0.Hours.length : Int).toNat) : List Int).map Qab)
def Qp1 (x27 : (List Int)) (p0 : GDay) : AV := .dat 1 ((x27.take ((p0.Hours.length : Int).toNat) : List Int).map Qab)
def Qxl (x36 : GHour) : AV := .dat 2 ((x36.Stairs : List GStair).map Qan)
def z43_36 (p0 : GDay) : Slot := .own 1 (((List.replicate (p0.Hours.length : Int).toNat 0) : List Int).map Qab)
def Qp0 (p0 : GDay) (y47 : (Nat → Int)) (y48 : (Nat → Int)) : Slot := .own 53 [((I (p0.Tank)) :: (I (p0.Start)) :: (Qfv p0) :: (.own 2 1 (0) ((p0.Hours.length : Int).toNat)) :: (.own 3 1 (0) ((p0.Hours.length : Int).toNat)) :: (arrF 24 y47 ++ arrF 24 y48))]
def Qpz (y49 : (List Int)) : Slot := .own 1 ((y49 : List Int).map Qab)
def Qpy (y50 : (List Int)) : Slot := .own 1 ((y50 : List Int).map Qab)
def Qpx (p0 : GDay) (x66 : ((Nat → Int) × (Nat → Int) × (List Int) × (List Int))) : Slot := .own 53 [((I (p0.Tank)) :: (I (p0.Start)) :: (Qfv p0) :: (.own 2 1 (0) (((p0.Hours.length : Int).toNat))) :: (.own 3 1 (0) (((p0.Hours.length : Int).toNat))) :: (arrF 24 x66.1 ++ arrF 24 x66.2.1))]
def Ql7 (x66 : ((Nat → Int) × (Nat → Int) × (List Int) × (List Int))) : Slot := .own 1 ((x66.2.2.2 : List Int).map Qab)
def Ql6 (p0 : GDay) (y76 : (Nat → Int)) : Slot := .own 53 [((I (p0.Tank)) :: (I (p0.Start)) :: (Qfv p0) :: (.own 2 1 (0) ((p0.Hours.length : Int).toNat)) :: (.own 3 1 (0) ((p0.Hours.length : Int).toNat)) :: (arrF 24 (fun _ => 0) ++ arrF 24 y76))]
def Qxk (x81 : GHour) : AV := .dat 2 ((x81.Stairs : List GStair).map Qan)
def Qxj (p0 : GDay) (y76 : (Nat → Int)) (y75 : Int) (x86 : GStair) : Slot := .own 53 [((I (p0.Tank)) :: (I (p0.Start)) :: (Qfv p0) :: (.own 2 1 (0) ((p0.Hours.length : Int).toNat)) :: (.own 3 1 (0) ((p0.Hours.length : Int).toNat)) :: (arrF 24 (fun _ => 0) ++ arrF 24 (setF y76 y75.toNat x86.Amount)))]
set_option maxRecDepth 100000 in
set_option maxHeartbeats 4000000 in
theorem Qmd (N : Nat) (p0 : GDay) (r : ((List Int) × (List Int) × Int × Int)) (h : Qen N p0 = some r) : Spec Try.prog 30 [(.agg (Qii p0))] [] (.tup [(.dat 1 ((r.1 : List Int).map Qab)), (.dat 1 ((r.2.1 : List Int).map Qab)), (I (r.2.2.1)), (I (r.2.2.2))]) [] := by
  refine Qal Try.func30 rfl 0 (nle rfl) (fun X φ0 w0 hφ0 => ?_)
  unfold Qen at h
  refine Qc3 ?_
  refine wx tbk [] trivial ?_
  refine wsq ?_
  obtain ⟨x8, hf7, h⟩ := bno h
  refine wx tbk [(1, rp [fu 74, (.tmp 16, (Qvz p0))] (B x8))] ⟨apc (first := []) (cap := []) (vs := [(Qvz p0)]) rfl Qol (Qe3 N p0 _ hf7) rfl rfl (nlc (NLt.agg _ (nlc nll (nlc nll (nlc (nld Qac _) nl0)))) nl0) nll rfl, trivial⟩ ?_
  rcases bft ((!x8)) with hc9 | hc9
  ·replace h := Qar hc9 h
   refine wft hc9 (by kernel_rfl) ?_
   refine wx tbk [] trivial ?_
   refine wmr (mto (n := 121) (l' := [(2, Qj3), (3, Qj3), (4, I 0), (5, I 1)]) (own' := []) [(2, nilS), (3, nilS), (4, I 0), (5, I 1)] [] [] hφ0 (pc (.nil _) (pc (.nil _) (pc rwl (pc rwl pn)))) qn) ?_
   refine Qah ?_
   refine Qad ?_
   obtain rfl := osi h
   exact ⟨_, Mor.rfl, Qdi (vs := [Qj3, Qj3, I 0, I 1]) ⟨rot (by kernel_rfl), rot (by kernel_rfl), rot (by kernel_rfl), rot (by kernel_rfl), trivial⟩ rfl (NLt.tup _ (nlc (nld Qaa _) (nlc (nld Qaa _) (nlc nll (nlc nll nl0))))) (by kernel_rfl) Qb0⟩
  ·replace h := Qas hc9 h
   refine wfn hc9 (by kernel_rfl) ?_
   refine Qag ?_
   refine thn ?_
   refine wsq ?_
   obtain ⟨x11, hf10, h⟩ := bno h
   refine wx tbk [(1, rp [fu 75, (.tmp 20, (Qvz p0))] (.tup [I x11.1, I x11.2]))] ⟨apc (first := []) (cap := []) (vs := [(Qvz p0)]) rfl Qy9 (Qig N p0 _ hf10) rfl rfl (nlc (NLt.agg _ (nlc nll (nlc nll (nlc (nld Qac _) nl0)))) nl0) (NLt.tup _ (nlc nll (nlc nll nl0))) rfl, trivial⟩ ?_
   refine wx tbk [] trivial ?_
   rcases bft ((decide (x11.1 ≥ 0))) with hc12 | hc12
   ·replace h := Qar hc12 h
    refine wft hc12 (by kernel_rfl) ?_
    refine wx tbk [] trivial ?_
    refine wmr (mto (n := 121) (l' := [(2, Qj3), (3, Qj3), (4, I 0), (5, I 7)]) (own' := []) [(2, nilS), (3, nilS), (4, I 0), (5, I 7)] [] [] hφ0 (pc (.nil _) (pc (.nil _) (pc rwl (pc rwl pn)))) qn) ?_
    refine Qah ?_
    refine Qad ?_
    obtain rfl := osi h
    exact ⟨_, Mor.rfl, Qdi (vs := [Qj3, Qj3, I 0, I 7]) ⟨rot (by kernel_rfl), rot (by kernel_rfl), rot (by kernel_rfl), rot (by kernel_rfl), trivial⟩ rfl (NLt.tup _ (nlc (nld Qaa _) (nlc (nld Qaa _) (nlc nll (nlc nll nl0))))) (by kernel_rfl) Qb0⟩
   ·replace h := Qas hc12 h
    refine wfn hc12 (by kernel_rfl) ?_
    refine Qag ?_
    refine thn ?_
    obtain ⟨hm13, h⟩ := cko h
    obtain ⟨hm14, h⟩ := cko h
    refine wxd tbk [(3, rp [(.tmp 28, (Qfv p0))] (I ((p0.Hours.length : Int)))), (4, ⟨[(.tmp 29, (I ((p0.Hours.length : Int)))), (.tmp 29, (I ((p0.Hours.length : Int))))], [(1, .unused)], (.own 1 1 (0) ((p0.Hours.length : Int).toNat)), [(1, (Qjv p0))], false⟩), (7, rp [(.tmp 32, (Qfv p0))] (I ((p0.Hours.length : Int)))), (8, ⟨[(.tmp 33, (I ((p0.Hours.length : Int)))), (.tmp 33, (I ((p0.Hours.length : Int))))], [(2, .unused)], (.own 2 1 (0) ((p0.Hours.length : Int).toNat)), [(2, (Qjv p0))], false⟩), (9, rp [(.tmp 26, (Qvz p0)), (.tmp 30, (.own 1 1 (0) ((p0.Hours.length : Int).toNat))), (.tmp 34, (.own 2 1 (0) ((p0.Hours.length : Int).toNat)))] (.agg ((I p0.Tank) :: (I p0.Start) :: (Qfv p0) :: (.own 1 1 (0) ((p0.Hours.length : Int).toNat)) :: (.own 2 1 (0) ((p0.Hours.length : Int).toNat)) :: (arrF 24 (fun _ => 0) ++ arrF 24 (fun _ => 0)))))] ⟨alm (c := Qaj) (l := p0.Hours) (aln rfl Try.underlying45 rfl), Qhb rfl Try.underlying23 te3 tz3 rfl (Qt3 hm13) rfl (Qt2 hm13) (Qoz hm13) (Qlg Qab rfl), alm (c := Qaj) (l := p0.Hours) (aln rfl Try.underlying45 rfl), Qhb rfl Try.underlying23 te3 tz3 rfl (Qt3 hm14) rfl (Qt2 hm14) (Qoz hm14) (Qlg Qab rfl), Qbk (vs := [(Qvz p0), (.own 1 1 (0) ((p0.Hours.length : Int).toNat)), (.own 2 1 (0) ((p0.Hours.length : Int).toNat))]) rfl ts152 tz152 rfl (by rfl) rfl, trivial⟩ ?_
    obtain ⟨k16, hk_k16, h⟩ := jko h
    refine wjn (τ := (Nat → Int)) (fun t => k16 t = some r) (fun y15 => ⟨mk 121 [(1, .ref 0 3 0 0), (4, I 0), (8, .ref 1 53 0 0)], [(Ql8 p0), (Qst p0 y15), (Qjv p0), (Qjv p0)]⟩) (fun y15 h => ?_) ?_
    ·subst hk_k16
     refine wx tbk [] trivial ?_
     obtain ⟨k21, hk_k21, h⟩ := jko h
     refine wjn (τ := (Nat → Int) × (Nat → Int) × (List Int) × (List Int)) (fun t => k21 t = some r) (fun ⟨y17, y18, y19, y20⟩ => ⟨mk 121 [(1, .ref 0 3 0 0), (4, I 0), (8, .ref 1 53 0 0)], [(Ql8 p0), (Qxm p0 y17 y18), (Qik y19), (Qj2 y20)]⟩) (fun t h => ?_) ?_
     ·subst hk_k21
      obtain ⟨y17, y18, y19, y20⟩ := t
      obtain ⟨k23, hk_k23, h⟩ := jko h
      refine wjn (τ := Int) (fun t => k23 t = some r) (fun y22 => ⟨mk 121 [(4, I y22), (8, .ref 0 53 0 0)], [(Qj1 p0 y17 y18), (Qik y19), (Qj2 y20)]⟩) (fun y22 h => ?_) ?_
      ·subst hk_k23
       obtain ⟨hz24, h⟩ := cko h
       obtain ⟨hz25, h⟩ := cko h
       obtain ⟨x27, hf26, h⟩ := bno h
       refine wxd tbk [(1, rb [(.tmp 114, .ref 0 53 0 0)] [(0, (Qj1 p0 y17 y18))] (.ref 0 53 0 0)), (5, ⟨[fu 78, (.tmp 118, .ref 0 53 0 0)], [(0, (Qj1 p0 y17 y18)), (1, (Qik y19)), (2, (Qj2 y20)), (3, .unused)], (.own 3 1 (0) ((p0.Hours.length : Int).toNat)), [(3, (.own 1 ((x27 : List Int).map Qab)))], false⟩)] ⟨Qbz rfl, Qjn (rd' := [fu 78, (.tmp 118, (.dptr ((I p0.Tank) :: (I p0.Start) :: (Qfv p0) :: (Qk5 y19 p0) :: (.dat 1 ((y20.take ((p0.Hours.length : Int).toNat) : List Int).map Qab)) :: (arrF 24 y17 ++ arrF 24 y18)) 0))]) [(0, 53, [((I p0.Tank) :: (I p0.Start) :: (Qfv p0) :: (.own 1 1 (0) ((p0.Hours.length : Int).toNat)) :: (.own 2 1 (0) ((p0.Hours.length : Int).toNat)) :: (arrF 24 y17 ++ arrF 24 y18))]), (1, 1, (y19 : List Int).map Qab), (2, 1, (y20 : List Int).map Qab)] ⟨rfl, .same _, rfl, (cv_box 0 rfl (lc (.same _) (lc (.same _) (lc (.same _) (lc (Qon 1 rfl hz24) (lc (Qon 2 rfl hz25) (Qbh (Qaq fun _ => (.same _)) (Qaq fun _ => (.same _))))))))), trivial⟩ (by rfl) (.own _ _ _ _ (nin rfl)) (Qql (.own _ _ (Qmj Qtg _)) Qs7) (Qat (first := []) (cap := []) (vs := [(.dptr ((I p0.Tank) :: (I p0.Start) :: (Qfv p0) :: (.dat 1 (((y19.take ((p0.Hours.length : Int).toNat)) : List Int).map Qab)) :: (.dat 1 (((y20.take ((p0.Hours.length : Int).toNat)) : List Int).map Qab)) :: (arrF 24 y17 ++ arrF 24 y18)) 0)]) (σr := []) (σr' := [(.own 1 ((x27 : List Int).map Qab))]) (res' := (.own 3 1 (0) ((p0.Hours.length : Int).toNat))) [3] rfl Qy6 (Qg1 N p0.Tank p0.Start p0.Hours (y19.take ((p0.Hours.length : Int).toNat)) (y20.take ((p0.Hours.length : Int).toNat)) y17 y18 _ hf26) rfl (Qcq (rnc (.plain _ (NLt.dptr _ _ (nlc nll (nlc nll (nlc (nld Qac _) (nlc (nld Qaa _) (nlc (nld Qaa _) (Qfl Qdn Qdn)))))))) rn0)) Qap (slc (Qbg Qaa) Qap) (Qgf rfl) rfl rfl rfl), trivial⟩ ?_
       obtain ⟨hz28, h⟩ := cko h
       refine wmr (Qk2 (n := 121) (l' := [(2, (Qk5 y19 p0)), (3, (.own 3 1 (0) ((p0.Hours.length : Int).toNat))), (4, I y22), (5, I 0)]) 1 [(2, (.own 1 1 (0) ((p0.Hours.length : Int).toNat))), (3, (.own 3 1 (0) ((p0.Hours.length : Int).toNat))), (4, I y22), (5, I 0)] (by kernel_rfl) (by kernel_rfl) (by kernel_rfl) ⟨rfl, (Qip hz28), rfl, (.same _), rfl, (.same _), rfl, (.same _), trivial⟩ rfl) ?_
       obtain ⟨hz29, h⟩ := cko h
       refine wmr (Qk2 (n := 121) (l' := [(2, (Qk5 y19 p0)), (3, (Qp1 x27 p0)), (4, I y22), (5, I 0)]) 3 [(2, (Qk5 y19 p0)), (3, (.own 3 1 (0) ((p0.Hours.length : Int).toNat))), (4, I y22), (5, I 0)] (by kernel_rfl) (by kernel_rfl) (by kernel_rfl) ⟨rfl, (.same _), rfl, (Qip hz29), rfl, (.same _), rfl, (.same _), trivial⟩ rfl) ?_
       refine wmr (mto (n := 121) (l' := [(2, (Qk5 y19 p0)), (3, (Qp1 x27 p0)), (4, I y22), (5, I 0)]) (own' := []) [(2, (Qk5 y19 p0)), (3, (Qp1 x27 p0)), (4, I y22), (5, I 0)] [] [] hφ0 (pc (.rn (.plain _ (nld Qaa _))) (pc (.rn (.plain _ (nld Qaa _))) (pc rwl (pc rwl pn)))) qn) ?_
       refine Qah ?_
       obtain rfl := osi h
       exact ⟨_, Mor.rfl, Qdi (vs := [(Qk5 y19 p0), (Qp1 x27 p0), I y22, I 0]) ⟨rot (by kernel_rfl), rot (by kernel_rfl), rot (by kernel_rfl), rot (by kernel_rfl), trivial⟩ rfl (NLt.tup _ (nlc (nld Qaa _) (nlc (nld Qaa _) (nlc nll (nlc nll nl0))))) (by kernel_rfl) Qb0⟩
      ·skip
       refine wx tbk [(2, rp [(.tmp 95, (Qfv p0))] (I ((p0.Hours.length : Int))))] ⟨alm (c := Qaj) (l := p0.Hours) (aln rfl Try.underlying45 rfl), trivial⟩ ?_
       refine Qai ?_
       refine wmr (mto (n := 121) (l' := [(4, I 0), (8, .ref 0 53 0 0), (95, (Qfv p0)), (96, (I ((p0.Hours.length : Int)))), (97, I 0)]) (own' := [(Qj1 p0 y17 y18), (Qik y19), (Qj2 y20)]) [(4, I 0), (8, .ref 1 53 0 0), (95, (Qfv p0)), (96, (I ((p0.Hours.length : Int)))), (97, I 0)] [1, 2, 3] [(Qxm p0 y17 y18), (Qik y19), (Qj2 y20)] hφ0 (pc rwl (pc (.rn (rqr rfl)) (pc (.rn (.plain _ (nld Qac _))) (pc rwl (pc rwl pn))))) (qc (spb (lc rwl (lc rwl (lc (.rn (.plain _ (nld Qac _))) (lc (.rn (Qaf rfl)) (lc (.rn (Qaf rfl)) (Qbh (Qaq fun _ => rwl) (Qaq fun _ => rwl)))))))) (qc (spr Qaa) (qc (spr Qaa) qn)))) ?_
       refine Qbu (τ := Int × Int) (fun n t => Qbl N p0 y19 k23 n t.1 t.2 = some r) (fun ⟨y30, y31⟩ => ⟨mk 121 [(4, I y30), (8, .ref 0 53 0 0), (95, (Qfv p0)), (96, (I ((p0.Hours.length : Int)))), (97, I y31)], [(Qj1 p0 y17 y18), (Qik y19), (Qj2 y20)]⟩) (fun t h => by rw [Qbl] at h; cases h) (fun n34 ih t h => ?_) N (0, 0) h
       obtain ⟨y30, y31⟩ := t
       rw [Qbl] at h
       skip
       refine wx tbk [] trivial ?_
       refine wsq ?_
       rcases bft ((decide (y31 < (p0.Hours.length : Int)))) with hc35 | hc35
       ·replace h := Qar hc35 h
        refine wft hc35 (by kernel_rfl) ?_
        refine Qag ?_
        refine thn ?_
        refine wsq ?_
        refine Qai ?_
        obtain ⟨x36, hg37, h⟩ := bno h
        obtain ⟨hi38, hj39⟩ := gsm hg37
        refine wx tbk [(1, rp [(.tmp 95, (Qfv p0)), (.tmp 97, I y31)] (.dptr (Qaj (x36)) 0))] ⟨aid rfl Try.underlying45 ti62 rfl rfl hi38 (mgt Qaj hj39) rfl, trivial⟩ ?_
        obtain ⟨hi40, h⟩ := cko h
        obtain ⟨hi40a, hi40b⟩ := Qa1 hi40
        obtain ⟨x41, hg42, h⟩ := bno h
        obtain ⟨x44, hf43, h⟩ := bno h
        refine wy1 tbk [(3, rb [(.tmp 104, .ref 0 53 0 0)] [(0, (Qj1 p0 y17 y18))] (.ref 0 53 0 0)), (7, rb [(.tmp 107, (.own 1 1 (0) ((p0.Hours.length : Int).toNat))), (.tmp 108, I y31)] [(1, (Qik y19))] (.ref 1 1 (y31.toNat) 0)), (8, rb [(.tmp 109, (.ref 1 1 (y31.toNat) 0))] [(1, (Qik y19))] (I x41)), (9, rp [fu 77, (.tmp 103, (.agg [I x36.Use, (Qxl x36)])), (.tmp 110, I x41)] (I x44))] ⟨Qbz rfl, aio rfl Try.underlying23 ti3 (odt hi40a) (odt hi40b) (Nat.zero_add _), ald rfl ti3 (by decide) (mgt Qab hg42) (nle rfl) rfl, apc (first := []) (cap := []) (vs := [(.agg [I x36.Use, (Qxl x36)]), I x41]) rfl Qy7 (Qif N x36 x41 _ hf43) rfl rfl (nlc (NLt.agg _ (nlc nll (nlc (nld Qa5 _) nl0))) (nlc nll nl0)) nll rfl, trivial⟩ ?_
        refine bln ?_
        refine thn ?_
        refine wx1 tbk [] trivial ?_
        refine thn ?_
        exact arm (mto (n := 121) [(4, (I (w64 (y30 + x44)))), (8, .ref 0 53 0 0), (95, (Qfv p0)), (96, (I ((p0.Hours.length : Int)))), (97, (I (w64 (y31 + 1))))] [0, 1, 2] [(Qj1 p0 y17 y18), (Qik y19), (Qj2 y20)] hφ0 (pc rwl (pc (.rn (rqr rfl)) (pc (.rn (.plain _ (nld Qac _))) (pc rwl (pc rwl pn))))) (qc (spb (lc rwl (lc rwl (lc (.rn (.plain _ (nld Qac _))) (lc (.rn (Qaf rfl)) (lc (.rn (Qaf rfl)) (Qbh (Qaq fun _ => rwl) (Qaq fun _ => rwl)))))))) (qc (spr Qaa) (qc (spr Qaa) qn)))) (ih (w64 (y30 + x44), w64 (y31 + 1)) h)
       ·replace h := Qas hc35 h
        refine wfn hc35 (by kernel_rfl) ?_
        refine Qa3 ?_
        refine Qao ?_
        refine Qao ?_
        refine Qa2 rfl ?_
        refine thn ?_
        exact ⟨(y30), h, (mto (n := 121) [(4, I y30), (8, .ref 0 53 0 0)] [0, 1, 2] [(Qj1 p0 y17 y18), (Qik y19), (Qj2 y20)] hφ0 (pc rwl (pc (.rn (rqr rfl)) pn)) (qc (spb (lc rwl (lc rwl (lc (.rn (.plain _ (nld Qac _))) (lc (.rn (Qaf rfl)) (lc (.rn (Qaf rfl)) (Qbh (Qaq fun _ => rwl) (Qaq fun _ => rwl)))))))) (qc (spr Qaa) (qc (spr Qaa) qn))))⟩
     ·skip
      refine wx tbk [(2, rp [(.tmp 63, (Qfv p0))] (I ((p0.Hours.length : Int))))] ⟨alm (c := Qaj) (l := p0.Hours) (aln rfl Try.underlying45 rfl), trivial⟩ ?_
      refine Qai ?_
      refine wmr (mto (n := 121) (l' := [(1, .ref 0 3 0 0), (4, I 0), (8, .ref 1 53 0 0), (11, I p0.Start), (63, (Qfv p0)), (64, (I ((p0.Hours.length : Int)))), (65, I 0)]) (own' := [(Ql8 p0), (Qst p0 y15), (z43_36 p0), (z43_36 p0)]) [(1, .ref 0 3 0 0), (4, I 0), (8, .ref 1 53 0 0), (11, I p0.Start), (63, (Qfv p0)), (64, (I ((p0.Hours.length : Int)))), (65, I 0)] [0, 1, 2, 3] [(Ql8 p0), (Qst p0 y15), (Qjv p0), (Qjv p0)] hφ0 (pc (.rn (rqr rfl)) (pc rwl (pc (.rn (rqr rfl)) (pc rwl (pc (.rn (.plain _ (nld Qac _))) (pc rwl (pc rwl pn))))))) (qc (spb (lc rwl (lc rwl (lc (.rn (.plain _ (nld Qac _))) ln)))) (qc (spb (lc rwl (lc rwl (lc (.rn (.plain _ (nld Qac _))) (lc (.rn (Qaf rfl)) (lc (.rn (Qaf rfl)) (Qbh (Qaq fun _ => rwl) (Qaq fun _ => rwl)))))))) (qc (spr Qaa) (qc (spr Qaa) qn))))) ?_
      refine Qbu (τ := Int × Int × (Nat → Int) × (Nat → Int) × (List Int) × (List Int)) (fun n t => Qb2 N p0 k21 n t.1 t.2.1 t.2.2.1 t.2.2.2.1 t.2.2.2.2.1 t.2.2.2.2.2 = some r) (fun ⟨y45, y46, y47, y48, y49, y50⟩ => ⟨mk 121 [(1, .ref 0 3 0 0), (4, I 0), (8, .ref 1 53 0 0), (11, I y45), (63, (Qfv p0)), (64, (I ((p0.Hours.length : Int)))), (65, I y46)], [(Ql8 p0), (Qp0 p0 y47 y48), (Qpz y49), (Qpy y50)]⟩) (fun t h => by rw [Qb2] at h; cases h) (fun n57 ih t h => ?_) N (p0.Start, 0, fun _ => 0, y15, List.replicate (p0.Hours.length : Int).toNat 0, List.replicate (p0.Hours.length : Int).toNat 0) h
      obtain ⟨y45, y46, y47, y48, y49, y50⟩ := t
      rw [Qb2] at h
      skip
      refine wx tbk [] trivial ?_
      refine wsq ?_
      rcases bft ((decide (y46 < (p0.Hours.length : Int)))) with hc58 | hc58
      ·replace h := Qar hc58 h
       refine wft hc58 (by kernel_rfl) ?_
       refine Qag ?_
       refine thn ?_
       refine wsq ?_
       refine Qai ?_
       obtain ⟨x59, hg60, h⟩ := bno h
       obtain ⟨hi61, hj62⟩ := gsm hg60
       refine wx tbk [(1, rp [(.tmp 63, (Qfv p0)), (.tmp 65, I y46)] (.dptr (Qaj (x59)) 0))] ⟨aid rfl Try.underlying45 ti62 rfl rfl hi61 (mgt Qaj hj62) rfl, trivial⟩ ?_
       obtain ⟨x63, hl64, h⟩ := bno h
       obtain ⟨x66, hf65, h⟩ := bno h
       refine wx tbk [(6, rp [ci 0, (.tmp 75, (I (w64 (x59.Use - y45))))] (I x63)), (7, ⟨[fu 76, (.tmp 70, .ref 1 53 0 0), (.tmp 71, I y46), (.tmp 76, I x63)], [(1, (Qp0 p0 y47 y48)), (2, (Qpz y49)), (3, (Qpy y50))], (.tup []), [(1, (Qpx p0 x66)), (2, (.own 1 ((x66.2.2.1 : List Int).map Qab))), (3, (Ql7 x66))], false⟩)] ⟨Qd4 hl64 (Qi5 rfl), Qat (first := []) (cap := []) (vs := [.ref 1 53 0 0, I y46, I x63]) (σr := [(Qp0 p0 y47 y48), (Qpz y49), (Qpy y50)]) (σr' := [(Qpx p0 x66), (.own 1 ((x66.2.2.1 : List Int).map Qab)), (Ql7 x66)]) (res' := (.tup [])) [1, 2, 3] rfl Qy8 (Qhv N y46 x63 p0.Tank p0.Start p0.Hours ((p0.Hours.length : Int).toNat) ((p0.Hours.length : Int).toNat) y47 y48 y49 y50 _ hf65) rfl (Qcq (rnc (Qbn rfl) (rnc (.plain _ nll) (rnc (.plain _ nll) rn0)))) (slc (Qam (rnc (.plain _ nll) (rnc (.plain _ nll) (rnc (.plain _ (nld Qac _)) (rnc (Qex rfl) (rnc (Qex rfl) (Qbh (Qaq fun _ => (.plain _ nll)) (Qaq fun _ => (.plain _ nll))))))))) (slc (Qbg Qaa) (slc (Qbg Qaa) Qap))) (slc (Qam (rnc (.plain _ nll) (rnc (.plain _ nll) (rnc (.plain _ (nld Qac _)) (rnc (Qgf rfl) (rnc (Qgf rfl) (Qbh (Qaq fun _ => (.plain _ nll)) (Qaq fun _ => (.plain _ nll))))))))) (slc (Qbg Qaa) (slc (Qbg Qaa) Qap))) (.plain _ (NLt.tup _ nl0)) rfl rfl rfl, trivial⟩ ?_
       obtain ⟨x67, hl68, h⟩ := bno h
       refine wx tbk [(4, rp [ci 0, (.tmp 81, (I (w64 (y45 - x59.Use))))] (I x67))] ⟨Qd4 hl68 (Qi5 rfl), trivial⟩ ?_
       obtain ⟨hi69, h⟩ := cko h
       obtain ⟨hi69a, hi69b⟩ := Qa1 hi69
       obtain ⟨x70, hg71, h⟩ := bno h
       obtain ⟨hi72, h⟩ := cko h
       obtain ⟨hi72a, hi72b⟩ := Qa1 hi72
       obtain ⟨x73, hg74, h⟩ := bno h
       refine wx1 tbk [(1, rb [(.tmp 83, .ref 1 53 0 0)] [(1, (Qpx p0 x66))] (.ref 1 53 0 0)), (5, rb [(.tmp 86, (.own 3 1 (0) (((p0.Hours.length : Int).toNat)))), (.tmp 87, I y46)] [(3, (Ql7 x66))] (.ref 3 1 (y46.toNat) 0)), (6, rb [(.tmp 88, (.ref 3 1 (y46.toNat) 0))] [(3, (Ql7 x66))] (I x70)), (9, rb [(.tmp 86, (.own 3 1 (0) (((p0.Hours.length : Int).toNat)))), (.tmp 87, I y46)] [(3, (Ql7 x66))] (.ref 3 1 (y46.toNat) 0)), (10, ⟨[(.tmp 92, (.ref 3 1 (y46.toNat) 0)), (.tmp 91, (I (w64 (x70 + x67))))], [(3, (Ql7 x66))], .any, [(3, (.own 1 ((x66.2.2.2.set y46.toNat (w64 (x70 + x67)) : List Int).map Qab)))], false⟩)] ⟨Qbz rfl, aio rfl Try.underlying23 ti3 (odt hi69a) (odt hi69b) (Nat.zero_add _), ald rfl ti3 (by decide) (mgt Qab hg71) (nle rfl) rfl, aio rfl Try.underlying23 ti3 (odt hi72a) (odt hi72b) (Nat.zero_add _), ast rfl ti3 (by rfl) (mgt Qab hg74) (nle rfl) (Qel Qab rfl), trivial⟩ ?_
       refine bln ?_
       refine thn ?_
       refine wx1 tbk [] trivial ?_
       refine thn ?_
       exact arm (mto (n := 121) [(1, .ref 0 3 0 0), (4, I 0), (8, .ref 1 53 0 0), (11, I x67), (63, (Qfv p0)), (64, (I ((p0.Hours.length : Int)))), (65, (I (w64 (y46 + 1))))] [0, 1, 2, 3] [(Ql8 p0), (Qpx p0 x66), (.own 1 ((x66.2.2.1 : List Int).map Qab)), (.own 1 ((x66.2.2.2.set y46.toNat (w64 (x70 + x67)) : List Int).map Qab))] hφ0 (pc (.rn (rqr rfl)) (pc rwl (pc (.rn (rqr rfl)) (pc rwl (pc (.rn (.plain _ (nld Qac _))) (pc rwl (pc rwl pn))))))) (qc (spb (lc rwl (lc rwl (lc (.rn (.plain _ (nld Qac _))) ln)))) (qc (spb (lc rwl (lc rwl (lc (.rn (.plain _ (nld Qac _))) (lc (.rn (Qaf rfl)) (lc (.rn (Qaf rfl)) (Qbh (Qaq fun _ => rwl) (Qaq fun _ => rwl)))))))) (qc (spr Qaa) (qc (spr Qaa) qn))))) (ih (x67, w64 (y46 + 1), x66.1, x66.2.1, x66.2.2.1, x66.2.2.2.set y46.toNat (w64 (x70 + x67))) h)
      ·replace h := Qas hc58 h
       refine wfn hc58 (by kernel_rfl) ?_
       refine Qa3 ?_
       refine Qao ?_
       refine Qao ?_
       refine Qa2 rfl ?_
       refine thn ?_
       exact ⟨(y47, y48, y49, y50), h, (mto (n := 121) [(1, .ref 0 3 0 0), (4, I 0), (8, .ref 1 53 0 0)] [0, 1, 2, 3] [(Ql8 p0), (Qp0 p0 y47 y48), (Qpz y49), (Qpy y50)] hφ0 (pc (.rn (rqr rfl)) (pc rwl (pc (.rn (rqr rfl)) pn))) (qc (spb (lc rwl (lc rwl (lc (.rn (.plain _ (nld Qac _))) ln)))) (qc (spb (lc rwl (lc rwl (lc (.rn (.plain _ (nld Qac _))) (lc (.rn (Qaf rfl)) (lc (.rn (Qaf rfl)) (Qbh (Qaq fun _ => rwl) (Qaq fun _ => rwl)))))))) (qc (spr Qaa) (qc (spr Qaa) qn)))))⟩
    ·skip
     refine wx tbk [(2, rp [(.tmp 38, (Qfv p0))] (I ((p0.Hours.length : Int))))] ⟨alm (c := Qaj) (l := p0.Hours) (aln rfl Try.underlying45 rfl), trivial⟩ ?_
     refine Qai ?_
     refine wmr (mto (n := 121) (l' := [(1, .ref 0 3 0 0), (4, I 0), (8, .ref 1 53 0 0), (38, (Qfv p0)), (39, (I ((p0.Hours.length : Int)))), (40, I 0)]) (own' := [(Ql8 p0), (.own 53 [((I p0.Tank) :: (I p0.Start) :: (Qfv p0) :: (.own 2 1 (0) ((p0.Hours.length : Int).toNat)) :: (.own 3 1 (0) ((p0.Hours.length : Int).toNat)) :: (arrF 24 (fun _ => 0) ++ arrF 24 (fun _ => 0)))]), (Qjv p0), (Qjv p0)]) [(1, .ref 0 3 0 0), (4, I 0), (8, .ref 3 53 0 0), (38, (Qfv p0)), (39, (I ((p0.Hours.length : Int)))), (40, I 0)] [0, 3, 1, 2] [(Ql8 p0), (.own 53 [((I p0.Tank) :: (I p0.Start) :: (Qfv p0) :: (.own 1 1 (0) ((p0.Hours.length : Int).toNat)) :: (.own 2 1 (0) ((p0.Hours.length : Int).toNat)) :: (arrF 24 (fun _ => 0) ++ arrF 24 (fun _ => 0)))]), (Qjv p0), (Qjv p0)] hφ0 (pc (.rn (rqr rfl)) (pc rwl (pc (.rn (rqr rfl)) (pc (.rn (.plain _ (nld Qac _))) (pc rwl (pc rwl pn)))))) (qc (spb (lc rwl (lc rwl (lc (.rn (.plain _ (nld Qac _))) ln)))) (qc (spb (lc rwl (lc rwl (lc (.rn (.plain _ (nld Qac _))) (lc (.rn (Qaf rfl)) (lc (.rn (Qaf rfl)) (Qbh (Qaq fun _ => rwl) (Qaq fun _ => rwl)))))))) (qc (spr Qaa) (qc (spr Qaa) qn))))) ?_
     refine Qbu (τ := Int × (Nat → Int)) (fun n t => Qb1 N p0 k16 n t.1 t.2 = some r) (fun ⟨y75, y76⟩ => ⟨mk 121 [(1, .ref 0 3 0 0), (4, I 0), (8, .ref 1 53 0 0), (38, (Qfv p0)), (39, (I ((p0.Hours.length : Int)))), (40, I y75)], [(Ql8 p0), (Ql6 p0 y76), (Qjv p0), (Qjv p0)]⟩) (fun t h => by rw [Qb1] at h; cases h) (fun n79 ih t h => ?_) N (0, fun _ => 0) h
     obtain ⟨y75, y76⟩ := t
     rw [Qb1] at h
     skip
     refine wx tbk [] trivial ?_
     refine wsq ?_
     rcases bft ((decide (y75 < (p0.Hours.length : Int)))) with hc80 | hc80
     ·replace h := Qar hc80 h
      refine wft hc80 (by kernel_rfl) ?_
      refine Qag ?_
      refine thn ?_
      refine wsq ?_
      refine Qai ?_
      obtain ⟨x81, hg82, h⟩ := bno h
      obtain ⟨hi83, hj84⟩ := gsm hg82
      refine wx tbk [(1, rp [(.tmp 38, (Qfv p0)), (.tmp 40, I y75)] (.dptr (Qaj (x81)) 0))] ⟨aid rfl Try.underlying45 ti62 rfl rfl hi83 (mgt Qaj hj84) rfl, trivial⟩ ?_
      refine wx tbk [(2, rp [(.tmp 46, (Qxk x81))] (I ((x81.Stairs.length : Int))))] ⟨alm (c := Qan) (l := x81.Stairs) (aln rfl Try.underlying60 rfl), trivial⟩ ?_
      rcases bft ((decide ((x81.Stairs.length : Int) > 0))) with hc85 | hc85
      ·replace h := Qar hc85 h
       refine wft hc85 (by kernel_rfl) ?_
       obtain ⟨x86, hg87, h⟩ := bno h
       obtain ⟨hi88, hj89⟩ := gsm hg87
       obtain ⟨hi90, h⟩ := cko h
       obtain ⟨hi90a, hi90b⟩ := Qa1 hi90
       refine wy1 tbk [(4, rp [(.tmp 52, (Qxk x81)), ci 0] (.dptr (Qan (x86)) 0)), (7, rb [(.tmp 49, .ref 1 53 0 0)] [(1, (Ql6 p0 y76))] (.ref 1 53 0 0)), (9, rb [(.tmp 57, .ref 1 53 0 29), (.tmp 50, I y75)] [(1, (Ql6 p0 y76))] (.ref 1 53 0 (29 + y75.toNat * 1))), (10, ⟨[(.tmp 58, (.ref 1 53 0 (29 + y75.toNat * 1))), (.tmp 55, I x86.Amount)], [(1, (Ql6 p0 y76))], .any, [(1, (Qxj p0 y76 y75 x86))], false⟩)] ⟨aid rfl Try.underlying60 ti64 rfl rfl hi88 (mgt Qan hj89) rfl, Qbz rfl, Qes rfl Try.underlying150 ti3 (odt hi90a) (odt hi90b) rfl, ast rfl ti3 (by rfl) rfl (Qi0 (n := 24) (odt hi90b) (nle rfl)) (Qrv (pre := ((I p0.Tank) :: (I p0.Start) :: (Qfv p0) :: (.own 2 1 (0) ((p0.Hours.length : Int).toNat)) :: (.own 3 1 (0) ((p0.Hours.length : Int).toNat)) :: arrF 24 (fun _ => 0))) (post := []) (n := 24) (f := y76) (by kernel_rfl) rfl (by kernel_rfl) (odt hi90b)), trivial⟩ ?_
       refine bln ?_
       refine thn ?_
       refine wx1 tbk [] trivial ?_
       refine thn ?_
       exact arm (mto (n := 121) [(1, .ref 0 3 0 0), (4, I 0), (8, .ref 1 53 0 0), (38, (Qfv p0)), (39, (I ((p0.Hours.length : Int)))), (40, (I (w64 (y75 + 1))))] [0, 1, 2, 3] [(Ql8 p0), (Qxj p0 y76 y75 x86), (Qjv p0), (Qjv p0)] hφ0 (pc (.rn (rqr rfl)) (pc rwl (pc (.rn (rqr rfl)) (pc (.rn (.plain _ (nld Qac _))) (pc rwl (pc rwl pn)))))) (qc (spb (lc rwl (lc rwl (lc (.rn (.plain _ (nld Qac _))) ln)))) (qc (spb (lc rwl (lc rwl (lc (.rn (.plain _ (nld Qac _))) (lc (.rn (Qaf rfl)) (lc (.rn (Qaf rfl)) (Qbh (Qaq fun _ => rwl) (Qaq fun _ => rwl)))))))) (qc (spr Qaa) (qc (spr Qaa) qn))))) (ih (w64 (y75 + 1), setF y76 y75.toNat x86.Amount) h)
      ·replace h := Qas hc85 h
       refine wfn hc85 (by kernel_rfl) ?_
       refine Qag ?_
       refine bln ?_
       refine thn ?_
       refine wx1 tbk [] trivial ?_
       refine thn ?_
       exact arm (mto (n := 121) [(1, .ref 0 3 0 0), (4, I 0), (8, .ref 1 53 0 0), (38, (Qfv p0)), (39, (I ((p0.Hours.length : Int)))), (40, (I (w64 (y75 + 1))))] [0, 1, 2, 3] [(Ql8 p0), (Ql6 p0 y76), (Qjv p0), (Qjv p0)] hφ0 (pc (.rn (rqr rfl)) (pc rwl (pc (.rn (rqr rfl)) (pc (.rn (.plain _ (nld Qac _))) (pc rwl (pc rwl pn)))))) (qc (spb (lc rwl (lc rwl (lc (.rn (.plain _ (nld Qac _))) ln)))) (qc (spb (lc rwl (lc rwl (lc (.rn (.plain _ (nld Qac _))) (lc (.rn (Qaf rfl)) (lc (.rn (Qaf rfl)) (Qbh (Qaq fun _ => rwl) (Qaq fun _ => rwl)))))))) (qc (spr Qaa) (qc (spr Qaa) qn))))) (ih (w64 (y75 + 1), y76) h)
     ·replace h := Qas hc80 h
      refine wfn hc80 (by kernel_rfl) ?_
      refine Qa3 ?_
      refine Qao ?_
      refine Qao ?_
      refine Qa2 rfl ?_
      refine thn ?_
      exact ⟨(y76), h, (mto (n := 121) [(1, .ref 0 3 0 0), (4, I 0), (8, .ref 1 53 0 0)] [0, 1, 2, 3] [(Ql8 p0), (Ql6 p0 y76), (Qjv p0), (Qjv p0)] hφ0 (pc (.rn (rqr rfl)) (pc rwl (pc (.rn (rqr rfl)) pn))) (qc (spb (lc rwl (lc rwl (lc (.rn (.plain _ (nld Qac _))) ln)))) (qc (spb (lc rwl (lc rwl (lc (.rn (.plain _ (nld Qac _))) (lc (.rn (Qaf rfl)) (lc (.rn (Qaf rfl)) (Qbh (Qaq fun _ => rwl) (Qaq fun _ => rwl)))))))) (qc (spr Qaa) (qc (spr Qaa) qn)))))⟩
end Go.Proofs.Ytgdepcgbjjgnfaa
