/-
  Functions of the program: what they compute, as plain functions, and that they do. No conditions.
-/
import Derived.Test.YtgdepcgbjjgnfaaX20
import Derived.Test.YtgdepcgbjjgnfaaX19
namespace Go.Proofs.Ytgdepcgbjjgnfaa
open Go.RowKit
def Qf8 (_N : Nat) (p0 : (List Int)) : Option (List Int) :=
  chk (decide ((([] : List Int).length + p0.length) * 8 ≤ 140737488355328)) <|
  some (([] : List Int) ++ p0)
def z136_0 : AV := .acc 0 3 1 ((([] : List Int) : List Int).map Qab)
def z136_2 (p0 : (List Int)) : AV := .acc 1 3 1 ((([] : List Int) ++ p0 : List Int).map Qab)
set_option maxRecDepth 100000 in
set_option maxHeartbeats 4000000 in
theorem Qju (N : Nat) (p0 : (List Int)) (r : (List Int)) (h : Qf8 N p0 = some r) : Spec Try.prog 24 [(.dat 1 ((p0 : List Int).map Qab))] [] (.dat 1 ((r : List Int).map Qab)) [] := by
  refine Qal Try.func24 rfl 0 (nle rfl) (fun X φ0 w0 hφ0 => ?_)
  unfold Qf8 at h
  refine wx tbk [] trivial ?_
  obtain ⟨ha1, h⟩ := cko h
  refine wx tbk [(0, ⟨[], [(0, .unused)], z136_0, [(0, .tok)], false⟩), (2, ⟨[(.tmp 3, z136_0), (.tmp 4, (.dat 1 ((p0 : List Int).map Qab)))], [(0, .tok), (1, .unused)], (z136_2 p0), [(0, .dead), (1, .tok)], false⟩)] ⟨Qjm rfl Try.underlying23 ti3 tz3, Qi6 rfl Try.underlying23 te3 (Base.acc _ _) rfl rfl (Qqp Qab Qte _) (Qmr Qab ha1) (Qmq Qab ha1 (by decide)) (Qmp Qab) rfl rfl, trivial⟩ ?_
  refine Qah ?_
  obtain rfl := osi h
  exact fend ⟨[(.dat 1 ((([] : List Int) ++ p0 : List Int).map Qab))], ⟨Qer (v := (z136_2 p0)) (rot (by kernel_rfl)) Less.acc, trivial⟩, rfl⟩ (nld Qaa _)
def Qc8 (N : Nat) (p0 : GDay) (y17 : (List Int)) (k21 : Int → Option (Int ⊕ (Int × (List Int) × (List Int)))) : Nat → Int → Int → Option (Int ⊕ (Int × (List Int) × (List Int)))
  | 0, _, _ => none
  | n30 + 1, y26, y27 =>
    bif (decide (y27 < (p0.Hours.length : Int))) then
     (getI p0.Hours y27).bind fun x32 =>
     chk (decide (0 ≤ y27) && decide (y27.toNat < (p0.Hours.length : Int).toNat)) <|
     (y17[y27.toNat]?).bind fun x37 =>
     (Qfc N x32 x37).bind fun x40 =>
     Qc8 N p0 y17 k21 n30 (w64 (y26 + x40)) (w64 (y27 + 1))
    else
     k21 (y26)
def Qc7 (N : Nat) (p0 : GDay) (k19 : (Nat → Int) × (Nat → Int) × (List Int) × (List Int) → Option (Int ⊕ (Int × (List Int) × (List Int)))) : Nat → Int → Int → (Nat → Int) → (Nat → Int) → (List Int) → (List Int) → Option (Int ⊕ (Int × (List Int) × (List Int)))
  | 0, _, _, _, _, _, _ => none
  | n53 + 1, y41, y42, y43, y44, y45, y46 =>
    bif (decide (y42 < (p0.Hours.length : Int))) then
     (getI p0.Hours y42).bind fun x55 =>
     (some (if (w64 (x55.Use - y41)) > 0 then w64 (x55.Use - y41) else 0)).bind fun x59 =>
     (Qeq N y42 x59 p0.Tank p0.Start p0.Hours ((p0.Hours.length : Int).toNat) ((p0.Hours.length : Int).toNat) y43 y44 y45 y46).bind fun x62 =>
     (some (if (w64 (y41 - x55.Use)) > 0 then w64 (y41 - x55.Use) else 0)).bind fun x63 =>
     chk (decide (0 ≤ y42) && decide (y42.toNat < ((p0.Hours.length : Int).toNat))) <|
     (x62.2.2.2[y42.toNat]?).bind fun x66 =>
     chk (decide (0 ≤ y42) && decide (y42.toNat < ((p0.Hours.length : Int).toNat))) <|
     (x62.2.2.2[y42.toNat]?).bind fun _ =>
     Qc7 N p0 k19 n53 x63 (w64 (y42 + 1)) x62.1 x62.2.1 x62.2.2.1 (x62.2.2.2.set y42.toNat (w64 (x66 + x63)))
    else
     k19 (y43, y44, y45, y46)
def Qcj (N : Nat) (p0 : GDay) (k14 : (Nat → Int) → Option (Int ⊕ (Int × (List Int) × (List Int)))) : Nat → Int → (Nat → Int) → Option (Int ⊕ (Int × (List Int) × (List Int)))
  | 0, _, _ => none
  | n75 + 1, y71, y72 =>
    bif (decide (y71 < (p0.Hours.length : Int))) then
     (getI p0.Hours y71).bind fun x77 =>
     bif (decide ((x77.Stairs.length : Int) > 0)) then
      (getI x77.Stairs 0).bind fun x82 =>
      chk (decide (0 ≤ y71) && decide (y71.toNat < 24)) <|
      Qcj N p0 k14 n75 (w64 (y71 + 1)) (setF y72 y71.toNat x82.Amount)
     else
      Qcj N p0 k14 n75 (w64 (y71 + 1)) y72
    else
     k14 (y72)
def Qee (N : Nat) (p0 : GDay) : Option (Int ⊕ (Int × (List Int) × (List Int))) :=
  (Qet N p0).bind fun x6 =>
  bif (!x6) then
   some (.inl 1)
  else
   (Qfd N p0).bind fun x9 =>
   bif (decide (x9.1 ≥ 0)) then
    some (.inl 7)
   else
    chk (decide (0 ≤ (p0.Hours.length : Int)) && decide (8 * (p0.Hours.length : Int) ≤ 281474976710656) && decide ((p0.Hours.length : Int) ≤ 9223372036854775807)) <|
    chk (decide (0 ≤ (p0.Hours.length : Int)) && decide (8 * (p0.Hours.length : Int) ≤ 281474976710656) && decide ((p0.Hours.length : Int) ≤ 9223372036854775807)) <|
    Qbr (fun y13 =>
      Qbr (fun ⟨y15, y16, y17, y18⟩ =>
        Qbr (fun y20 =>
          chk (decide ((p0.Hours.length : Int).toNat ≤ y17.length)) <|
          chk (decide ((p0.Hours.length : Int).toNat ≤ y18.length)) <|
          (Qcy N p0.Tank p0.Start p0.Hours (y17.take ((p0.Hours.length : Int).toNat)) (y18.take ((p0.Hours.length : Int).toNat)) y15 y16).bind fun x25 =>
          some (.inr (y20, y17, x25))) fun k21 : Int → Option (Int ⊕ (Int × (List Int) × (List Int))) =>
        Qc8 N p0 y17 k21 N 0 0) fun k19 : (Nat → Int) × (Nat → Int) × (List Int) × (List Int) → Option (Int ⊕ (Int × (List Int) × (List Int))) =>
      Qc7 N p0 k19 N p0.Start 0 (fun _ => 0) y13 (List.replicate (p0.Hours.length : Int).toNat 0) (List.replicate (p0.Hours.length : Int).toNat 0)) fun k14 : (Nat → Int) → Option (Int ⊕ (Int × (List Int) × (List Int))) =>
    Qcj N p0 k14 N 0 (fun _ => 0)
def Qd5 (p0 : GDay) : AV := .dat 2 ((p0.Hours : List GHour).map Qaj)
def Qlp (p0 : GDay) : AV := .agg [(I (p0.Tank)), (I (p0.Start)), (Qd5 p0)]
def Qg0 (p0 : GDay) : Slot := .own 1 ((List.replicate (p0.Hours.length : Int).toNat 0 : List Int).map Qab)
def Qit (p0 : GDay) : Slot := .own 3 [[(I (p0.Tank)), (I (p0.Start)), (Qd5 p0)]]
def Qp6 (p0 : GDay) (y13 : (Nat → Int)) : Slot := .own 53 [((I (p0.Tank)) :: (I (p0.Start)) :: (Qd5 p0) :: (.own 2 1 (0) ((p0.Hours.length : Int).toNat)) :: (.own 3 1 (0) ((p0.Hours.length : Int).toNat)) :: (arrF 24 (fun _ => 0) ++ arrF 24 y13))]
def Qum (p0 : GDay) (y15 : (Nat → Int)) (y16 : (Nat → Int)) : Slot := .own 53 [((I (p0.Tank)) :: (I (p0.Start)) :: (Qd5 p0) :: (.own 2 1 (0) ((p0.Hours.length : Int).toNat)) :: (.own 3 1 (0) ((p0.Hours.length : Int).toNat)) :: (arrF 24 y15 ++ arrF 24 y16))]
def Qgg (y17 : (List Int)) : Slot := .own 1 ((y17 : List Int).map Qab)
def Qid (y18 : (List Int)) : Slot := .own 1 ((y18 : List Int).map Qab)
def Qic (p0 : GDay) (y15 : (Nat → Int)) (y16 : (Nat → Int)) : Slot := .own 53 [((I (p0.Tank)) :: (I (p0.Start)) :: (Qd5 p0) :: (.own 1 1 (0) ((p0.Hours.length : Int).toNat)) :: (.own 2 1 (0) ((p0.Hours.length : Int).toNat)) :: (arrF 24 y15 ++ arrF 24 y16))]
def Qne (x25 : (List Int)) : Slot := .own 1 ((x25 : List Int).map Qab)
def Qul (x32 : GHour) : AV := .dat 2 ((x32.Stairs : List GStair).map Qan)
def Qxs (p0 : GDay) : Slot := .own 1 (((List.replicate (p0.Hours.length : Int).toNat 0) : List Int).map Qab)
def Qnd (p0 : GDay) (y43 : (Nat → Int)) (y44 : (Nat → Int)) : Slot := .own 53 [((I (p0.Tank)) :: (I (p0.Start)) :: (Qd5 p0) :: (.own 2 1 (0) ((p0.Hours.length : Int).toNat)) :: (.own 3 1 (0) ((p0.Hours.length : Int).toNat)) :: (arrF 24 y43 ++ arrF 24 y44))]
def Qnc (y45 : (List Int)) : Slot := .own 1 ((y45 : List Int).map Qab)
def Qnb (y46 : (List Int)) : Slot := .own 1 ((y46 : List Int).map Qab)
def Qna (p0 : GDay) (x62 : ((Nat → Int) × (Nat → Int) × (List Int) × (List Int))) : Slot := .own 53 [((I (p0.Tank)) :: (I (p0.Start)) :: (Qd5 p0) :: (.own 2 1 (0) (((p0.Hours.length : Int).toNat))) :: (.own 3 1 (0) (((p0.Hours.length : Int).toNat))) :: (arrF 24 x62.1 ++ arrF 24 x62.2.1))]
def Qki (x62 : ((Nat → Int) × (Nat → Int) × (List Int) × (List Int))) : Slot := .own 1 ((x62.2.2.2 : List Int).map Qab)
def Qkh (p0 : GDay) (y72 : (Nat → Int)) : Slot := .own 53 [((I (p0.Tank)) :: (I (p0.Start)) :: (Qd5 p0) :: (.own 2 1 (0) ((p0.Hours.length : Int).toNat)) :: (.own 3 1 (0) ((p0.Hours.length : Int).toNat)) :: (arrF 24 (fun _ => 0) ++ arrF 24 y72))]
def Quk (x77 : GHour) : AV := .dat 2 ((x77.Stairs : List GStair).map Qan)
def Quj (p0 : GDay) (y72 : (Nat → Int)) (y71 : Int) (x82 : GStair) : Slot := .own 53 [((I (p0.Tank)) :: (I (p0.Start)) :: (Qd5 p0) :: (.own 2 1 (0) ((p0.Hours.length : Int).toNat)) :: (.own 3 1 (0) ((p0.Hours.length : Int).toNat)) :: (arrF 24 (fun _ => 0) ++ arrF 24 (setF y72 y71.toNat x82.Amount)))]
set_option maxRecDepth 100000 in
set_option maxHeartbeats 4000000 in
theorem Qh6 (N : Nat) (p0 : GDay) (r : (Int ⊕ (Int × (List Int) × (List Int)))) (h : Qee N p0 = some r) : Spec Try.prog 30 [(Qlp p0)] [] (((Sum.elim (fun r => (.tup [nilS, nilS, (I (0)), (I (r))])) (fun r => (.tup [(.own 0 1 (0) ((p0.Hours.length : Int).toNat)), (.own 1 1 (0) ((p0.Hours.length : Int).toNat)), (I (r.1)), (I (0))]))) : (Int ⊕ (Int × (List Int) × (List Int))) → AV) r) (((Sum.elim (fun r => []) (fun r => [(.own 1 ((r.2.1 : List Int).map Qab)), (.own 1 ((r.2.2 : List Int).map Qab))])) : (Int ⊕ (Int × (List Int) × (List Int))) → List Slot) r) := by
  refine Qal Try.func30 rfl 2 (nle rfl) (fun X φ0 w0 hφ0 => ?_)
  unfold Qee at h
  refine Qc3 ?_
  refine wx tbk [] trivial ?_
  refine wsq ?_
  obtain ⟨x6, hf5, h⟩ := bno h
  refine wx tbk [(1, rp [fu 74, (.tmp 16, (Qlp p0))] (B x6))] ⟨apc (first := []) (cap := []) (vs := [(Qlp p0)]) rfl Qol (Qe3 N p0 _ hf5) rfl rfl (nlc (NLt.agg _ (nlc nll (nlc nll (nlc (nld Qac _) nl0)))) nl0) nll rfl, trivial⟩ ?_
  rcases bft ((!x6)) with hc7 | hc7
  ·replace h := Qar hc7 h
   refine wft hc7 (by kernel_rfl) ?_
   refine wx tbk [] trivial ?_
   refine wmr (mto (n := 121) (l' := [(2, nilS), (3, nilS), (4, I 0), (5, I 1)]) (own' := []) [(2, nilS), (3, nilS), (4, I 0), (5, I 1)] [] [] hφ0 (pc rwl (pc rwl (pc rwl (pc rwl pn)))) qn) ?_
   refine Qah ?_
   refine Qad ?_
   obtain rfl := osi h
   exact ⟨_, Mor.rfl, Qqv (vs := [nilS, nilS, I 0, I 1]) ⟨rot (by kernel_rfl), rot (by kernel_rfl), rot (by kernel_rfl), rot (by kernel_rfl), trivial⟩ rfl (NLt.tup _ (nlc (NLt.of0 nll) (nlc (NLt.of0 nll) (nlc (NLt.of0 nll) (nlc (NLt.of0 nll) nl0))))) (by kernel_rfl) Qb0⟩
  ·replace h := Qas hc7 h
   refine wfn hc7 (by kernel_rfl) ?_
   refine Qag ?_
   refine thn ?_
   refine wsq ?_
   obtain ⟨x9, hf8, h⟩ := bno h
   refine wx tbk [(1, rp [fu 75, (.tmp 20, (Qlp p0))] (.tup [I x9.1, I x9.2]))] ⟨apc (first := []) (cap := []) (vs := [(Qlp p0)]) rfl Qy9 (Qig N p0 _ hf8) rfl rfl (nlc (NLt.agg _ (nlc nll (nlc nll (nlc (nld Qac _) nl0)))) nl0) (NLt.tup _ (nlc nll (nlc nll nl0))) rfl, trivial⟩ ?_
   refine wx tbk [] trivial ?_
   rcases bft ((decide (x9.1 ≥ 0))) with hc10 | hc10
   ·replace h := Qar hc10 h
    refine wft hc10 (by kernel_rfl) ?_
    refine wx tbk [] trivial ?_
    refine wmr (mto (n := 121) (l' := [(2, nilS), (3, nilS), (4, I 0), (5, I 7)]) (own' := []) [(2, nilS), (3, nilS), (4, I 0), (5, I 7)] [] [] hφ0 (pc rwl (pc rwl (pc rwl (pc rwl pn)))) qn) ?_
    refine Qah ?_
    refine Qad ?_
    obtain rfl := osi h
    exact ⟨_, Mor.rfl, Qqv (vs := [nilS, nilS, I 0, I 7]) ⟨rot (by kernel_rfl), rot (by kernel_rfl), rot (by kernel_rfl), rot (by kernel_rfl), trivial⟩ rfl (NLt.tup _ (nlc (NLt.of0 nll) (nlc (NLt.of0 nll) (nlc (NLt.of0 nll) (nlc (NLt.of0 nll) nl0))))) (by kernel_rfl) Qb0⟩
   ·replace h := Qas hc10 h
    refine wfn hc10 (by kernel_rfl) ?_
    refine Qag ?_
    refine thn ?_
    obtain ⟨hm11, h⟩ := cko h
    obtain ⟨hm12, h⟩ := cko h
    refine wxd tbk [(3, rp [(.tmp 28, (Qd5 p0))] (I ((p0.Hours.length : Int)))), (4, ⟨[(.tmp 29, (I ((p0.Hours.length : Int)))), (.tmp 29, (I ((p0.Hours.length : Int))))], [(1, .unused)], (.own 1 1 (0) ((p0.Hours.length : Int).toNat)), [(1, (Qg0 p0))], false⟩), (7, rp [(.tmp 32, (Qd5 p0))] (I ((p0.Hours.length : Int)))), (8, ⟨[(.tmp 33, (I ((p0.Hours.length : Int)))), (.tmp 33, (I ((p0.Hours.length : Int))))], [(2, .unused)], (.own 2 1 (0) ((p0.Hours.length : Int).toNat)), [(2, (Qg0 p0))], false⟩), (9, rp [(.tmp 26, (Qlp p0)), (.tmp 30, (.own 1 1 (0) ((p0.Hours.length : Int).toNat))), (.tmp 34, (.own 2 1 (0) ((p0.Hours.length : Int).toNat)))] (.agg ((I p0.Tank) :: (I p0.Start) :: (Qd5 p0) :: (.own 1 1 (0) ((p0.Hours.length : Int).toNat)) :: (.own 2 1 (0) ((p0.Hours.length : Int).toNat)) :: (arrF 24 (fun _ => 0) ++ arrF 24 (fun _ => 0)))))] ⟨alm (c := Qaj) (l := p0.Hours) (aln rfl Try.underlying45 rfl), Qhb rfl Try.underlying23 te3 tz3 rfl (Qt3 hm11) rfl (Qt2 hm11) (Qoz hm11) (Qlg Qab rfl), alm (c := Qaj) (l := p0.Hours) (aln rfl Try.underlying45 rfl), Qhb rfl Try.underlying23 te3 tz3 rfl (Qt3 hm12) rfl (Qt2 hm12) (Qoz hm12) (Qlg Qab rfl), Qbk (vs := [(Qlp p0), (.own 1 1 (0) ((p0.Hours.length : Int).toNat)), (.own 2 1 (0) ((p0.Hours.length : Int).toNat))]) rfl ts152 tz152 rfl (by rfl) rfl, trivial⟩ ?_
    obtain ⟨k14, hk_k14, h⟩ := jko h
    refine wjn (τ := (Nat → Int)) (fun t => k14 t = some r) (fun y13 => ⟨mk 121 [(1, .ref 0 3 0 0), (4, I 0), (8, .ref 1 53 0 0)], [(Qit p0), (Qp6 p0 y13), (Qg0 p0), (Qg0 p0)]⟩) (fun y13 h => ?_) ?_
    ·subst hk_k14
     refine wx tbk [] trivial ?_
     obtain ⟨k19, hk_k19, h⟩ := jko h
     refine wjn (τ := (Nat → Int) × (Nat → Int) × (List Int) × (List Int)) (fun t => k19 t = some r) (fun ⟨y15, y16, y17, y18⟩ => ⟨mk 121 [(1, .ref 0 3 0 0), (4, I 0), (8, .ref 1 53 0 0)], [(Qit p0), (Qum p0 y15 y16), (Qgg y17), (Qid y18)]⟩) (fun t h => ?_) ?_
     ·subst hk_k19
      obtain ⟨y15, y16, y17, y18⟩ := t
      obtain ⟨k21, hk_k21, h⟩ := jko h
      refine wjn (τ := Int) (fun t => k21 t = some r) (fun y20 => ⟨mk 121 [(4, I y20), (8, .ref 0 53 0 0)], [(Qic p0 y15 y16), (Qgg y17), (Qid y18)]⟩) (fun y20 h => ?_) ?_
      ·subst hk_k21
       obtain ⟨hz22, h⟩ := cko h
       obtain ⟨hz23, h⟩ := cko h
       obtain ⟨x25, hf24, h⟩ := bno h
       refine wxd tbk [(1, rb [(.tmp 114, .ref 0 53 0 0)] [(0, (Qic p0 y15 y16))] (.ref 0 53 0 0)), (5, ⟨[fu 78, (.tmp 118, .ref 0 53 0 0)], [(0, (Qic p0 y15 y16)), (1, (Qgg y17)), (2, (Qid y18)), (3, .unused)], (.own 3 1 (0) ((p0.Hours.length : Int).toNat)), [(3, (Qne x25))], false⟩)] ⟨Qbz rfl, Qjn (rd' := [fu 78, (.tmp 118, (.dptr ((I p0.Tank) :: (I p0.Start) :: (Qd5 p0) :: (.dat 1 ((y17.take ((p0.Hours.length : Int).toNat) : List Int).map Qab)) :: (.dat 1 ((y18.take ((p0.Hours.length : Int).toNat) : List Int).map Qab)) :: (arrF 24 y15 ++ arrF 24 y16)) 0))]) [(0, 53, [((I p0.Tank) :: (I p0.Start) :: (Qd5 p0) :: (.own 1 1 (0) ((p0.Hours.length : Int).toNat)) :: (.own 2 1 (0) ((p0.Hours.length : Int).toNat)) :: (arrF 24 y15 ++ arrF 24 y16))]), (1, 1, (y17 : List Int).map Qab), (2, 1, (y18 : List Int).map Qab)] ⟨rfl, .same _, rfl, (cv_box 0 rfl (lc (.same _) (lc (.same _) (lc (.same _) (lc (Qon 1 rfl hz22) (lc (Qon 2 rfl hz23) (Qbh (Qaq fun _ => (.same _)) (Qaq fun _ => (.same _))))))))), trivial⟩ (by rfl) (.own _ _ _ _ (nin rfl)) (Qql (.own _ _ (Qmj Qtg _)) Qs7) (Qat (first := []) (cap := []) (vs := [(.dptr ((I p0.Tank) :: (I p0.Start) :: (Qd5 p0) :: (.dat 1 (((y17.take ((p0.Hours.length : Int).toNat)) : List Int).map Qab)) :: (.dat 1 (((y18.take ((p0.Hours.length : Int).toNat)) : List Int).map Qab)) :: (arrF 24 y15 ++ arrF 24 y16)) 0)]) (σr := []) (σr' := [(Qne x25)]) (res' := (.own 3 1 (0) ((p0.Hours.length : Int).toNat))) [3] rfl Qy6 (Qg1 N p0.Tank p0.Start p0.Hours (y17.take ((p0.Hours.length : Int).toNat)) (y18.take ((p0.Hours.length : Int).toNat)) y15 y16 _ hf24) rfl (Qcq (rnc (.plain _ (NLt.dptr _ _ (nlc nll (nlc nll (nlc (nld Qac _) (nlc (nld Qaa _) (nlc (nld Qaa _) (Qfl Qdn Qdn)))))))) rn0)) Qap (slc (Qbg Qaa) Qap) (Qgf rfl) rfl rfl rfl), trivial⟩ ?_
       refine wmr (mto (n := 121) (l' := [(2, (.own 0 1 (0) ((p0.Hours.length : Int).toNat))), (3, (.own 1 1 (0) ((p0.Hours.length : Int).toNat))), (4, I y20), (5, I 0)]) (own' := [(Qgg y17), (Qne x25)]) [(2, (.own 1 1 (0) ((p0.Hours.length : Int).toNat))), (3, (.own 3 1 (0) ((p0.Hours.length : Int).toNat))), (4, I y20), (5, I 0)] [1, 3] [(Qgg y17), (Qne x25)] hφ0 (pc (.rn (Qaf rfl)) (pc (.rn (Qaf rfl)) (pc rwl (pc rwl pn)))) (qc (spr Qaa) (qc (spr Qaa) qn))) ?_
       refine Qah ?_
       obtain rfl := osi h
       exact ⟨_, Mor.rfl, Qqv (vs := [(.own 0 1 (0) ((p0.Hours.length : Int).toNat)), (.own 1 1 (0) ((p0.Hours.length : Int).toNat)), I y20, I 0]) ⟨rot (by kernel_rfl), rot (by kernel_rfl), rot (by kernel_rfl), rot (by kernel_rfl), trivial⟩ rfl (NLt.tup _ (nlc (NLt.own _ _ _ _ (by decide)) (nlc (NLt.own _ _ _ _ (by decide)) (nlc (NLt.of0 nll) (nlc (NLt.of0 nll) nl0))))) (by kernel_rfl) (Qau (Qd9 Qaa _) (Qau (Qd9 Qaa _) Qb0))⟩
      ·skip
       refine wx tbk [(2, rp [(.tmp 95, (Qd5 p0))] (I ((p0.Hours.length : Int))))] ⟨alm (c := Qaj) (l := p0.Hours) (aln rfl Try.underlying45 rfl), trivial⟩ ?_
       refine Qai ?_
       refine wmr (mto (n := 121) (l' := [(4, I 0), (8, .ref 0 53 0 0), (95, (Qd5 p0)), (96, (I ((p0.Hours.length : Int)))), (97, I 0)]) (own' := [(Qic p0 y15 y16), (Qgg y17), (Qid y18)]) [(4, I 0), (8, .ref 1 53 0 0), (95, (Qd5 p0)), (96, (I ((p0.Hours.length : Int)))), (97, I 0)] [1, 2, 3] [(Qum p0 y15 y16), (Qgg y17), (Qid y18)] hφ0 (pc rwl (pc (.rn (rqr rfl)) (pc (.rn (.plain _ (nld Qac _))) (pc rwl (pc rwl pn))))) (qc (spb (lc rwl (lc rwl (lc (.rn (.plain _ (nld Qac _))) (lc (.rn (Qaf rfl)) (lc (.rn (Qaf rfl)) (Qbh (Qaq fun _ => rwl) (Qaq fun _ => rwl)))))))) (qc (spr Qaa) (qc (spr Qaa) qn)))) ?_
       refine Qbu (τ := Int × Int) (fun n t => Qc8 N p0 y17 k21 n t.1 t.2 = some r) (fun ⟨y26, y27⟩ => ⟨mk 121 [(4, I y26), (8, .ref 0 53 0 0), (95, (Qd5 p0)), (96, (I ((p0.Hours.length : Int)))), (97, I y27)], [(Qic p0 y15 y16), (Qgg y17), (Qid y18)]⟩) (fun t h => by rw [Qc8] at h; cases h) (fun n30 ih t h => ?_) N (0, 0) h
       obtain ⟨y26, y27⟩ := t
       rw [Qc8] at h
       skip
       refine wx tbk [] trivial ?_
       refine wsq ?_
       rcases bft ((decide (y27 < (p0.Hours.length : Int)))) with hc31 | hc31
       ·replace h := Qar hc31 h
        refine wft hc31 (by kernel_rfl) ?_
        refine Qag ?_
        refine thn ?_
        refine wsq ?_
        refine Qai ?_
        obtain ⟨x32, hg33, h⟩ := bno h
        obtain ⟨hi34, hj35⟩ := gsm hg33
        refine wx tbk [(1, rp [(.tmp 95, (Qd5 p0)), (.tmp 97, I y27)] (.dptr (Qaj (x32)) 0))] ⟨aid rfl Try.underlying45 ti62 rfl rfl hi34 (mgt Qaj hj35) rfl, trivial⟩ ?_
        obtain ⟨hi36, h⟩ := cko h
        obtain ⟨hi36a, hi36b⟩ := Qa1 hi36
        obtain ⟨x37, hg38, h⟩ := bno h
        obtain ⟨x40, hf39, h⟩ := bno h
        refine wy1 tbk [(3, rb [(.tmp 104, .ref 0 53 0 0)] [(0, (Qic p0 y15 y16))] (.ref 0 53 0 0)), (7, rb [(.tmp 107, (.own 1 1 (0) ((p0.Hours.length : Int).toNat))), (.tmp 108, I y27)] [(1, (Qgg y17))] (.ref 1 1 (y27.toNat) 0)), (8, rb [(.tmp 109, (.ref 1 1 (y27.toNat) 0))] [(1, (Qgg y17))] (I x37)), (9, rp [fu 77, (.tmp 103, (.agg [I x32.Use, (Qul x32)])), (.tmp 110, I x37)] (I x40))] ⟨Qbz rfl, aio rfl Try.underlying23 ti3 (odt hi36a) (odt hi36b) (Nat.zero_add _), ald rfl ti3 (by decide) (mgt Qab hg38) (nle rfl) rfl, apc (first := []) (cap := []) (vs := [(.agg [I x32.Use, (Qul x32)]), I x37]) rfl Qy7 (Qif N x32 x37 _ hf39) rfl rfl (nlc (NLt.agg _ (nlc nll (nlc (nld Qa5 _) nl0))) (nlc nll nl0)) nll rfl, trivial⟩ ?_
        refine bln ?_
        refine thn ?_
        refine wx1 tbk [] trivial ?_
        refine thn ?_
        exact arm (mto (n := 121) [(4, (I (w64 (y26 + x40)))), (8, .ref 0 53 0 0), (95, (Qd5 p0)), (96, (I ((p0.Hours.length : Int)))), (97, (I (w64 (y27 + 1))))] [0, 1, 2] [(Qic p0 y15 y16), (Qgg y17), (Qid y18)] hφ0 (pc rwl (pc (.rn (rqr rfl)) (pc (.rn (.plain _ (nld Qac _))) (pc rwl (pc rwl pn))))) (qc (spb (lc rwl (lc rwl (lc (.rn (.plain _ (nld Qac _))) (lc (.rn (Qaf rfl)) (lc (.rn (Qaf rfl)) (Qbh (Qaq fun _ => rwl) (Qaq fun _ => rwl)))))))) (qc (spr Qaa) (qc (spr Qaa) qn)))) (ih (w64 (y26 + x40), w64 (y27 + 1)) h)
       ·replace h := Qas hc31 h
        refine wfn hc31 (by kernel_rfl) ?_
        refine Qa3 ?_
        refine Qao ?_
        refine Qao ?_
        refine Qa2 rfl ?_
        refine thn ?_
        exact ⟨(y26), h, (mto (n := 121) [(4, I y26), (8, .ref 0 53 0 0)] [0, 1, 2] [(Qic p0 y15 y16), (Qgg y17), (Qid y18)] hφ0 (pc rwl (pc (.rn (rqr rfl)) pn)) (qc (spb (lc rwl (lc rwl (lc (.rn (.plain _ (nld Qac _))) (lc (.rn (Qaf rfl)) (lc (.rn (Qaf rfl)) (Qbh (Qaq fun _ => rwl) (Qaq fun _ => rwl)))))))) (qc (spr Qaa) (qc (spr Qaa) qn))))⟩
     ·skip
      refine wx tbk [(2, rp [(.tmp 63, (Qd5 p0))] (I ((p0.Hours.length : Int))))] ⟨alm (c := Qaj) (l := p0.Hours) (aln rfl Try.underlying45 rfl), trivial⟩ ?_
      refine Qai ?_
      refine wmr (mto (n := 121) (l' := [(1, .ref 0 3 0 0), (4, I 0), (8, .ref 1 53 0 0), (11, I p0.Start), (63, (Qd5 p0)), (64, (I ((p0.Hours.length : Int)))), (65, I 0)]) (own' := [(Qit p0), (Qp6 p0 y13), (Qxs p0), (Qxs p0)]) [(1, .ref 0 3 0 0), (4, I 0), (8, .ref 1 53 0 0), (11, I p0.Start), (63, (Qd5 p0)), (64, (I ((p0.Hours.length : Int)))), (65, I 0)] [0, 1, 2, 3] [(Qit p0), (Qp6 p0 y13), (Qg0 p0), (Qg0 p0)] hφ0 (pc (.rn (rqr rfl)) (pc rwl (pc (.rn (rqr rfl)) (pc rwl (pc (.rn (.plain _ (nld Qac _))) (pc rwl (pc rwl pn))))))) (qc (spb (lc rwl (lc rwl (lc (.rn (.plain _ (nld Qac _))) ln)))) (qc (spb (lc rwl (lc rwl (lc (.rn (.plain _ (nld Qac _))) (lc (.rn (Qaf rfl)) (lc (.rn (Qaf rfl)) (Qbh (Qaq fun _ => rwl) (Qaq fun _ => rwl)))))))) (qc (spr Qaa) (qc (spr Qaa) qn))))) ?_
      refine Qbu (τ := Int × Int × (Nat → Int) × (Nat → Int) × (List Int) × (List Int)) (fun n t => Qc7 N p0 k19 n t.1 t.2.1 t.2.2.1 t.2.2.2.1 t.2.2.2.2.1 t.2.2.2.2.2 = some r) (fun ⟨y41, y42, y43, y44, y45, y46⟩ => ⟨mk 121 [(1, .ref 0 3 0 0), (4, I 0), (8, .ref 1 53 0 0), (11, I y41), (63, (Qd5 p0)), (64, (I ((p0.Hours.length : Int)))), (65, I y42)], [(Qit p0), (Qnd p0 y43 y44), (Qnc y45), (Qnb y46)]⟩) (fun t h => by rw [Qc7] at h; cases h) (fun n53 ih t h => ?_) N (p0.Start, 0, fun _ => 0, y13, List.replicate (p0.Hours.length : Int).toNat 0, List.replicate (p0.Hours.length : Int).toNat 0) h
      obtain ⟨y41, y42, y43, y44, y45, y46⟩ := t
      rw [Qc7] at h
      skip
      refine wx tbk [] trivial ?_
      refine wsq ?_
      rcases bft ((decide (y42 < (p0.Hours.length : Int)))) with hc54 | hc54
      ·replace h := Qar hc54 h
       refine wft hc54 (by kernel_rfl) ?_
       refine Qag ?_
       refine thn ?_
       refine wsq ?_
       refine Qai ?_
       obtain ⟨x55, hg56, h⟩ := bno h
       obtain ⟨hi57, hj58⟩ := gsm hg56
       refine wx tbk [(1, rp [(.tmp 63, (Qd5 p0)), (.tmp 65, I y42)] (.dptr (Qaj (x55)) 0))] ⟨aid rfl Try.underlying45 ti62 rfl rfl hi57 (mgt Qaj hj58) rfl, trivial⟩ ?_
       obtain ⟨x59, hl60, h⟩ := bno h
       obtain ⟨x62, hf61, h⟩ := bno h
       refine wx tbk [(6, rp [ci 0, (.tmp 75, (I (w64 (x55.Use - y41))))] (I x59)), (7, ⟨[fu 76, (.tmp 70, .ref 1 53 0 0), (.tmp 71, I y42), (.tmp 76, I x59)], [(1, (Qnd p0 y43 y44)), (2, (Qnc y45)), (3, (Qnb y46))], (.tup []), [(1, (Qna p0 x62)), (2, (.own 1 ((x62.2.2.1 : List Int).map Qab))), (3, (Qki x62))], false⟩)] ⟨Qd4 hl60 (Qi5 rfl), Qat (first := []) (cap := []) (vs := [.ref 1 53 0 0, I y42, I x59]) (σr := [(Qnd p0 y43 y44), (Qnc y45), (Qnb y46)]) (σr' := [(Qna p0 x62), (.own 1 ((x62.2.2.1 : List Int).map Qab)), (Qki x62)]) (res' := (.tup [])) [1, 2, 3] rfl Qy8 (Qhv N y42 x59 p0.Tank p0.Start p0.Hours ((p0.Hours.length : Int).toNat) ((p0.Hours.length : Int).toNat) y43 y44 y45 y46 _ hf61) rfl (Qcq (rnc (Qbn rfl) (rnc (.plain _ nll) (rnc (.plain _ nll) rn0)))) (slc (Qam (rnc (.plain _ nll) (rnc (.plain _ nll) (rnc (.plain _ (nld Qac _)) (rnc (Qex rfl) (rnc (Qex rfl) (Qbh (Qaq fun _ => (.plain _ nll)) (Qaq fun _ => (.plain _ nll))))))))) (slc (Qbg Qaa) (slc (Qbg Qaa) Qap))) (slc (Qam (rnc (.plain _ nll) (rnc (.plain _ nll) (rnc (.plain _ (nld Qac _)) (rnc (Qgf rfl) (rnc (Qgf rfl) (Qbh (Qaq fun _ => (.plain _ nll)) (Qaq fun _ => (.plain _ nll))))))))) (slc (Qbg Qaa) (slc (Qbg Qaa) Qap))) (.plain _ (NLt.tup _ nl0)) rfl rfl rfl, trivial⟩ ?_
       obtain ⟨x63, hl64, h⟩ := bno h
       refine wx tbk [(4, rp [ci 0, (.tmp 81, (I (w64 (y41 - x55.Use))))] (I x63))] ⟨Qd4 hl64 (Qi5 rfl), trivial⟩ ?_
       obtain ⟨hi65, h⟩ := cko h
       obtain ⟨hi65a, hi65b⟩ := Qa1 hi65
       obtain ⟨x66, hg67, h⟩ := bno h
       obtain ⟨hi68, h⟩ := cko h
       obtain ⟨hi68a, hi68b⟩ := Qa1 hi68
       obtain ⟨x69, hg70, h⟩ := bno h
       refine wx1 tbk [(1, rb [(.tmp 83, .ref 1 53 0 0)] [(1, (Qna p0 x62))] (.ref 1 53 0 0)), (5, rb [(.tmp 86, (.own 3 1 (0) (((p0.Hours.length : Int).toNat)))), (.tmp 87, I y42)] [(3, (Qki x62))] (.ref 3 1 (y42.toNat) 0)), (6, rb [(.tmp 88, (.ref 3 1 (y42.toNat) 0))] [(3, (Qki x62))] (I x66)), (9, rb [(.tmp 86, (.own 3 1 (0) (((p0.Hours.length : Int).toNat)))), (.tmp 87, I y42)] [(3, (Qki x62))] (.ref 3 1 (y42.toNat) 0)), (10, ⟨[(.tmp 92, (.ref 3 1 (y42.toNat) 0)), (.tmp 91, (I (w64 (x66 + x63))))], [(3, (Qki x62))], .any, [(3, (.own 1 ((x62.2.2.2.set y42.toNat (w64 (x66 + x63)) : List Int).map Qab)))], false⟩)] ⟨Qbz rfl, aio rfl Try.underlying23 ti3 (odt hi65a) (odt hi65b) (Nat.zero_add _), ald rfl ti3 (by decide) (mgt Qab hg67) (nle rfl) rfl, aio rfl Try.underlying23 ti3 (odt hi68a) (odt hi68b) (Nat.zero_add _), ast rfl ti3 (by rfl) (mgt Qab hg70) (nle rfl) (Qel Qab rfl), trivial⟩ ?_
       refine bln ?_
       refine thn ?_
       refine wx1 tbk [] trivial ?_
       refine thn ?_
       exact arm (mto (n := 121) [(1, .ref 0 3 0 0), (4, I 0), (8, .ref 1 53 0 0), (11, I x63), (63, (Qd5 p0)), (64, (I ((p0.Hours.length : Int)))), (65, (I (w64 (y42 + 1))))] [0, 1, 2, 3] [(Qit p0), (Qna p0 x62), (.own 1 ((x62.2.2.1 : List Int).map Qab)), (.own 1 ((x62.2.2.2.set y42.toNat (w64 (x66 + x63)) : List Int).map Qab))] hφ0 (pc (.rn (rqr rfl)) (pc rwl (pc (.rn (rqr rfl)) (pc rwl (pc (.rn (.plain _ (nld Qac _))) (pc rwl (pc rwl pn))))))) (qc (spb (lc rwl (lc rwl (lc (.rn (.plain _ (nld Qac _))) ln)))) (qc (spb (lc rwl (lc rwl (lc (.rn (.plain _ (nld Qac _))) (lc (.rn (Qaf rfl)) (lc (.rn (Qaf rfl)) (Qbh (Qaq fun _ => rwl) (Qaq fun _ => rwl)))))))) (qc (spr Qaa) (qc (spr Qaa) qn))))) (ih (x63, w64 (y42 + 1), x62.1, x62.2.1, x62.2.2.1, x62.2.2.2.set y42.toNat (w64 (x66 + x63))) h)
      ·replace h := Qas hc54 h
       refine wfn hc54 (by kernel_rfl) ?_
       refine Qa3 ?_
       refine Qao ?_
       refine Qao ?_
       refine Qa2 rfl ?_
       refine thn ?_
       exact ⟨(y43, y44, y45, y46), h, (mto (n := 121) [(1, .ref 0 3 0 0), (4, I 0), (8, .ref 1 53 0 0)] [0, 1, 2, 3] [(Qit p0), (Qnd p0 y43 y44), (Qnc y45), (Qnb y46)] hφ0 (pc (.rn (rqr rfl)) (pc rwl (pc (.rn (rqr rfl)) pn))) (qc (spb (lc rwl (lc rwl (lc (.rn (.plain _ (nld Qac _))) ln)))) (qc (spb (lc rwl (lc rwl (lc (.rn (.plain _ (nld Qac _))) (lc (.rn (Qaf rfl)) (lc (.rn (Qaf rfl)) (Qbh (Qaq fun _ => rwl) (Qaq fun _ => rwl)))))))) (qc (spr Qaa) (qc (spr Qaa) qn)))))⟩
    ·skip
     refine wx tbk [(2, rp [(.tmp 38, (Qd5 p0))] (I ((p0.Hours.length : Int))))] ⟨alm (c := Qaj) (l := p0.Hours) (aln rfl Try.underlying45 rfl), trivial⟩ ?_
     refine Qai ?_
     refine wmr (mto (n := 121) (l' := [(1, .ref 0 3 0 0), (4, I 0), (8, .ref 1 53 0 0), (38, (Qd5 p0)), (39, (I ((p0.Hours.length : Int)))), (40, I 0)]) (own' := [(Qit p0), (.own 53 [((I p0.Tank) :: (I p0.Start) :: (Qd5 p0) :: (.own 2 1 (0) ((p0.Hours.length : Int).toNat)) :: (.own 3 1 (0) ((p0.Hours.length : Int).toNat)) :: (arrF 24 (fun _ => 0) ++ arrF 24 (fun _ => 0)))]), (Qg0 p0), (Qg0 p0)]) [(1, .ref 0 3 0 0), (4, I 0), (8, .ref 3 53 0 0), (38, (Qd5 p0)), (39, (I ((p0.Hours.length : Int)))), (40, I 0)] [0, 3, 1, 2] [(Qit p0), (.own 53 [((I p0.Tank) :: (I p0.Start) :: (Qd5 p0) :: (.own 1 1 (0) ((p0.Hours.length : Int).toNat)) :: (.own 2 1 (0) ((p0.Hours.length : Int).toNat)) :: (arrF 24 (fun _ => 0) ++ arrF 24 (fun _ => 0)))]), (Qg0 p0), (Qg0 p0)] hφ0 (pc (.rn (rqr rfl)) (pc rwl (pc (.rn (rqr rfl)) (pc (.rn (.plain _ (nld Qac _))) (pc rwl (pc rwl pn)))))) (qc (spb (lc rwl (lc rwl (lc (.rn (.plain _ (nld Qac _))) ln)))) (qc (spb (lc rwl (lc rwl (lc (.rn (.plain _ (nld Qac _))) (lc (.rn (Qaf rfl)) (lc (.rn (Qaf rfl)) (Qbh (Qaq fun _ => rwl) (Qaq fun _ => rwl)))))))) (qc (spr Qaa) (qc (spr Qaa) qn))))) ?_
     refine Qbu (τ := Int × (Nat → Int)) (fun n t => Qcj N p0 k14 n t.1 t.2 = some r) (fun ⟨y71, y72⟩ => ⟨mk 121 [(1, .ref 0 3 0 0), (4, I 0), (8, .ref 1 53 0 0), (38, (Qd5 p0)), (39, (I ((p0.Hours.length : Int)))), (40, I y71)], [(Qit p0), (Qkh p0 y72), (Qg0 p0), (Qg0 p0)]⟩) (fun t h => by rw [Qcj] at h; cases h) (fun n75 ih t h => ?_) N (0, fun _ => 0) h
     obtain ⟨y71, y72⟩ := t
     rw [Qcj] at h
     skip
     refine wx tbk [] trivial ?_
     refine wsq ?_
     rcases bft ((decide (y71 < (p0.Hours.length : Int)))) with hc76 | hc76
     ·replace h := Qar hc76 h
      refine wft hc76 (by kernel_rfl) ?_
      refine Qag ?_
      refine thn ?_
      refine wsq ?_
      refine Qai ?_
      obtain ⟨x77, hg78, h⟩ := bno h
      obtain ⟨hi79, hj80⟩ := gsm hg78
      refine wx tbk [(1, rp [(.tmp 38, (Qd5 p0)), (.tmp 40, I y71)] (.dptr (Qaj (x77)) 0))] ⟨aid rfl Try.underlying45 ti62 rfl rfl hi79 (mgt Qaj hj80) rfl, trivial⟩ ?_
      refine wx tbk [(2, rp [(.tmp 46, (Quk x77))] (I ((x77.Stairs.length : Int))))] ⟨alm (c := Qan) (l := x77.Stairs) (aln rfl Try.underlying60 rfl), trivial⟩ ?_
      rcases bft ((decide ((x77.Stairs.length : Int) > 0))) with hc81 | hc81
      ·replace h := Qar hc81 h
       refine wft hc81 (by kernel_rfl) ?_
       obtain ⟨x82, hg83, h⟩ := bno h
       obtain ⟨hi84, hj85⟩ := gsm hg83
       obtain ⟨hi86, h⟩ := cko h
       obtain ⟨hi86a, hi86b⟩ := Qa1 hi86
       refine wy1 tbk [(4, rp [(.tmp 52, (Quk x77)), ci 0] (.dptr (Qan (x82)) 0)), (7, rb [(.tmp 49, .ref 1 53 0 0)] [(1, (Qkh p0 y72))] (.ref 1 53 0 0)), (9, rb [(.tmp 57, .ref 1 53 0 29), (.tmp 50, I y71)] [(1, (Qkh p0 y72))] (.ref 1 53 0 (29 + y71.toNat * 1))), (10, ⟨[(.tmp 58, (.ref 1 53 0 (29 + y71.toNat * 1))), (.tmp 55, I x82.Amount)], [(1, (Qkh p0 y72))], .any, [(1, (Quj p0 y72 y71 x82))], false⟩)] ⟨aid rfl Try.underlying60 ti64 rfl rfl hi84 (mgt Qan hj85) rfl, Qbz rfl, Qes rfl Try.underlying150 ti3 (odt hi86a) (odt hi86b) rfl, ast rfl ti3 (by rfl) rfl (Qi0 (n := 24) (odt hi86b) (nle rfl)) (Qrv (pre := ((I p0.Tank) :: (I p0.Start) :: (Qd5 p0) :: (.own 2 1 (0) ((p0.Hours.length : Int).toNat)) :: (.own 3 1 (0) ((p0.Hours.length : Int).toNat)) :: arrF 24 (fun _ => 0))) (post := []) (n := 24) (f := y72) (by kernel_rfl) rfl (by kernel_rfl) (odt hi86b)), trivial⟩ ?_
       refine bln ?_
       refine thn ?_
       refine wx1 tbk [] trivial ?_
       refine thn ?_
       exact arm (mto (n := 121) [(1, .ref 0 3 0 0), (4, I 0), (8, .ref 1 53 0 0), (38, (Qd5 p0)), (39, (I ((p0.Hours.length : Int)))), (40, (I (w64 (y71 + 1))))] [0, 1, 2, 3] [(Qit p0), (Quj p0 y72 y71 x82), (Qg0 p0), (Qg0 p0)] hφ0 (pc (.rn (rqr rfl)) (pc rwl (pc (.rn (rqr rfl)) (pc (.rn (.plain _ (nld Qac _))) (pc rwl (pc rwl pn)))))) (qc (spb (lc rwl (lc rwl (lc (.rn (.plain _ (nld Qac _))) ln)))) (qc (spb (lc rwl (lc rwl (lc (.rn (.plain _ (nld Qac _))) (lc (.rn (Qaf rfl)) (lc (.rn (Qaf rfl)) (Qbh (Qaq fun _ => rwl) (Qaq fun _ => rwl)))))))) (qc (spr Qaa) (qc (spr Qaa) qn))))) (ih (w64 (y71 + 1), setF y72 y71.toNat x82.Amount) h)
      ·replace h := Qas hc81 h
       refine wfn hc81 (by kernel_rfl) ?_
       refine Qag ?_
       refine bln ?_
       refine thn ?_
       refine wx1 tbk [] trivial ?_
       refine thn ?_
       exact arm (mto (n := 121) [(1, .ref 0 3 0 0), (4, I 0), (8, .ref 1 53 0 0), (38, (Qd5 p0)), (39, (I ((p0.Hours.length : Int)))), (40, (I (w64 (y71 + 1))))] [0, 1, 2, 3] [(Qit p0), (Qkh p0 y72), (Qg0 p0), (Qg0 p0)] hφ0 (pc (.rn (rqr rfl)) (pc rwl (pc (.rn (rqr rfl)) (pc (.rn (.plain _ (nld Qac _))) (pc rwl (pc rwl pn)))))) (qc (spb (lc rwl (lc rwl (lc (.rn (.plain _ (nld Qac _))) ln)))) (qc (spb (lc rwl (lc rwl (lc (.rn (.plain _ (nld Qac _))) (lc (.rn (Qaf rfl)) (lc (.rn (Qaf rfl)) (Qbh (Qaq fun _ => rwl) (Qaq fun _ => rwl)))))))) (qc (spr Qaa) (qc (spr Qaa) qn))))) (ih (w64 (y71 + 1), y72) h)
     ·replace h := Qas hc76 h
      refine wfn hc76 (by kernel_rfl) ?_
      refine Qa3 ?_
      refine Qao ?_
      refine Qao ?_
      refine Qa2 rfl ?_
      refine thn ?_
      exact ⟨(y72), h, (mto (n := 121) [(1, .ref 0 3 0 0), (4, I 0), (8, .ref 1 53 0 0)] [0, 1, 2, 3] [(Qit p0), (Qkh p0 y72), (Qg0 p0), (Qg0 p0)] hφ0 (pc (.rn (rqr rfl)) (pc rwl (pc (.rn (rqr rfl)) pn))) (qc (spb (lc rwl (lc rwl (lc (.rn (.plain _ (nld Qac _))) ln)))) (qc (spb (lc rwl (lc rwl (lc (.rn (.plain _ (nld Qac _))) (lc (.rn (Qaf rfl)) (lc (.rn (Qaf rfl)) (Qbh (Qaq fun _ => rwl) (Qaq fun _ => rwl)))))))) (qc (spr Qaa) (qc (spr Qaa) qn)))))⟩
theorem Qky (N : Nat) (p0 : GDay) (r : Int) (h : Qee N p0 = some (.inl r)) : Spec Try.prog 30 [(Qlp p0)] [] (.tup [nilS, nilS, I 0, I r]) [] := Qh6 N p0 _ h
theorem Qkx (N : Nat) (p0 : GDay) (r : (Int × (List Int) × (List Int))) (h : Qee N p0 = some (.inr r)) : Spec Try.prog 30 [(Qlp p0)] [] (.tup [(.own 0 1 (0) ((p0.Hours.length : Int).toNat)), (.own 1 1 (0) ((p0.Hours.length : Int).toNat)), I r.1, I 0]) [(.own 1 ((r.2.1 : List Int).map Qab)), (.own 1 ((r.2.2 : List Int).map Qab))] := Qh6 N p0 _ h
def Qf9 (N : Nat) (p0 : GDay) (p1 : (List Int)) (p2 : (List Int)) (p3 : Bool) (p4 : Int) (p5 : Int) : Option Bool :=
  Qbr (fun _ =>
    (Qf5 N p0).bind fun x3 =>
    (Qf8 N p1).bind fun x5 =>
    (Qf8 N p2).bind fun x7 =>
    Qbr (fun ⟨y8, y9⟩ =>
      (Qhy N p0).bind fun x12 =>
      (Qf6 N y8).bind fun x14 =>
      (Qf6 N y9).bind fun x16 =>
      (Qda N x12 x14 x16).bind fun x18 =>
      bif x3 then
       (Qgn N p0 y8 y9).bind fun x21 =>
       bif (x18 == x21) then
        (Qe4 2000 ).bind fun x24 =>
        some x24
       else
        some false
      else
       bif (x18 == false) then
        (Qe4 2000 ).bind fun x27 =>
        some x27
       else
        some false) fun k10 : (List Int) × (List Int) → Option Bool =>
    Qbr (fun y28 =>
      bif y28 then
       (Qhy N p0).bind fun x32 =>
       (Qee N x32).bind (
        Sum.elim (fun x35 =>
          bif (x35 != 0) then
           bif (x35 == 7) then
            (Qe4 2000 ).bind fun x39 =>
            some x39
           else
            some false
          else
           Qbr (fun _ =>
             chk ((p0.Hours.length : Int) != 0) <|
             (some ((w64 p4).tmod (p0.Hours.length : Int))).bind fun _ =>
             bif ((p5.tmod 2) == 0) then
              none
             else
              chk ((p0.Hours.length : Int) != 0) <|
              (some ((w64 (IntKind.wrap .u8 (p4.tdiv 16))).tmod (p0.Hours.length : Int))).bind fun _ =>
              none) fun k40 : Unit → Option Bool =>
           bif (0 != (p0.Hours.length : Int)) then
            some false
           else
            k40 ())
        (fun x49 =>
          Qbr (fun _ =>
            chk ((p0.Hours.length : Int) != 0) <|
            (some ((w64 p4).tmod (p0.Hours.length : Int))).bind fun x52 =>
            bif ((p5.tmod 2) == 0) then
             chk (decide (0 ≤ x52) && decide (x52.toNat < (x32.Hours.length : Int).toNat)) <|
             (x49.2.2[x52.toNat]?).bind fun x56 =>
             chk (decide (0 ≤ x52) && decide (x52.toNat < (x32.Hours.length : Int).toNat)) <|
             (x49.2.2[x52.toNat]?).bind fun _ =>
             chk (decide ((x32.Hours.length : Int).toNat ≤ x49.2.1.length)) <|
             chk (decide ((x32.Hours.length : Int).toNat ≤ (x49.2.2.set x52.toNat (w64 (x56 + (w64 ((w64 p5).tdiv 2))))).length)) <|
             k10 (x49.2.1.take ((x32.Hours.length : Int).toNat), (x49.2.2.set x52.toNat (w64 (x56 + (w64 ((w64 p5).tdiv 2))))).take ((x32.Hours.length : Int).toNat))
            else
             chk ((p0.Hours.length : Int) != 0) <|
             (some ((w64 (IntKind.wrap .u8 (p4.tdiv 16))).tmod (p0.Hours.length : Int))).bind fun x64 =>
             chk (decide (0 ≤ x52) && decide (x52.toNat < (x32.Hours.length : Int).toNat)) <|
             (x49.2.1[x52.toNat]?).bind fun x67 =>
             chk (decide (0 ≤ x52) && decide (x52.toNat < (x32.Hours.length : Int).toNat)) <|
             (x49.2.1[x52.toNat]?).bind fun _ =>
             chk (decide (0 ≤ x64) && decide (x64.toNat < (x32.Hours.length : Int).toNat)) <|
             ((x49.2.1.set x52.toNat (w64 (x67 + (w64 p5))))[x64.toNat]?).bind fun x73 =>
             chk (decide (0 ≤ x64) && decide (x64.toNat < (x32.Hours.length : Int).toNat)) <|
             ((x49.2.1.set x52.toNat (w64 (x67 + (w64 p5))))[x64.toNat]?).bind fun _ =>
             chk (decide ((x32.Hours.length : Int).toNat ≤ ((x49.2.1.set x52.toNat (w64 (x67 + (w64 p5)))).set x64.toNat (w64 (x73 - (w64 p5)))).length)) <|
             chk (decide ((x32.Hours.length : Int).toNat ≤ x49.2.2.length)) <|
             k10 (((x49.2.1.set x52.toNat (w64 (x67 + (w64 p5)))).set x64.toNat (w64 (x73 - (w64 p5)))).take ((x32.Hours.length : Int).toNat), x49.2.2.take ((x32.Hours.length : Int).toNat))) fun k50 : Unit → Option Bool =>
          bif ((((x32.Hours.length : Int).toNat : Nat) : Int) != (p0.Hours.length : Int)) then
           some false
          else
           k50 ()))
      else
       k10 (x5, x7)) fun k29 : Bool → Option Bool =>
    bif p3 then
     k29 (x3)
    else
     k29 (false)) fun k1 : Unit → Option Bool =>
  (Qiz N p0).bind fun x83 =>
  bif (!x83) then
   (Qe4 2000 ).bind fun x86 =>
   some x86
  else
   bif (decide ((p1.length : Int) > 35)) then
    (Qe4 2000 ).bind fun x89 =>
    some x89
   else
    bif (decide ((p2.length : Int) > 35)) then
     (Qe4 2000 ).bind fun x92 =>
     some x92
    else
     k1 ()
def Qo9 (p1 : (List Int)) : AV := .dat 1 ((p1 : List Int).map Qab)
def Qrn (p2 : (List Int)) : AV := .dat 1 ((p2 : List Int).map Qab)
def Qjq (p0 : GDay) : AV := .dat 2 ((p0.Hours : List GHour).map Qaj)
def Qhg (p0 : GDay) : Slot := .own 3 [[(I (p0.Tank)), (I (p0.Start)), (Qjq p0)]]
def Qfz (p0 : GDay) : AV := .agg [(I (p0.Tank)), (I (p0.Start)), (Qjq p0)]
def Qo8 (x5 : (List Int)) : AV := .dat 1 ((x5 : List Int).map Qab)
def Qo7 (x7 : (List Int)) : AV := .dat 1 ((x7 : List Int).map Qab)
def Qg4 (y8 : (List Int)) : AV := .dat 1 ((y8 : List Int).map Qab)
def Qg3 (y9 : (List Int)) : AV := .dat 1 ((y9 : List Int).map Qab)
def Qjp (x12 : GDay) : AV := .agg [(I (x12.Tank)), (I (x12.Start)), (.dat 2 ((x12.Hours : List GHour).map Qaj))]
def Qhn (x14 : (List Int)) : AV := .dat 1 ((x14 : List Int).map Qab)
def Qhm (x16 : (List Int)) : AV := .dat 1 ((x16 : List Int).map Qab)
def Qmb (x32 : GDay) : AV := .agg [(I (x32.Tank)), (I (x32.Start)), (.dat 2 ((x32.Hours : List GHour).map Qaj))]
def Qj7 (x49 : (Int × (List Int) × (List Int))) : Slot := .own 1 ((x49.2.1 : List Int).map Qab)
def Qi8 (x49 : (Int × (List Int) × (List Int))) : Slot := .own 1 ((x49.2.2 : List Int).map Qab)
def Qp8 (x49 : (Int × (List Int) × (List Int))) (x32 : GDay) : AV := .dat 1 ((x49.2.1.take ((x32.Hours.length : Int).toNat) : List Int).map Qab)
def Qnu (x49 : (Int × (List Int) × (List Int))) (x52 : Int) (x67 : Int) (p5 : Int) : Slot := .own 1 ((x49.2.1.set x52.toNat (w64 (x67 + (w64 p5))) : List Int).map Qab)
def Qp7 (x49 : (Int × (List Int) × (List Int))) (x52 : Int) (x67 : Int) (p5 : Int) (x64 : Int) (x73 : Int) (x32 : GDay) : AV := .dat 1 ((((x49.2.1.set x52.toNat (w64 (x67 + (w64 p5)))).set x64.toNat (w64 (x73 - (w64 p5)))).take ((x32.Hours.length : Int).toNat) : List Int).map Qab)
set_option maxRecDepth 100000 in
set_option maxHeartbeats 4000000 in
theorem Qkz (N : Nat) (p0 : GDay) (p1 : (List Int)) (p2 : (List Int)) (p3 : Bool) (p4 : Int) (p5 : Int) (r : Bool) (h : Qf9 N p0 p1 p2 p3 p4 p5 = some r) : Spec Try.prog 16 [(.agg (Qii p0)), (.dat 1 (p1.map Qab)), (.dat 1 (p2.map Qab)), (B p3), (K .u8 p4), (K .i8 p5)] [] (B r) [] := by
  refine Qal Try.func16 rfl 0 (nle rfl) (fun X φ0 w0 hφ0 => ?_)
  unfold Qf9 at h
  refine wx tbk [] trivial ?_
  obtain ⟨k1, hk_k1, h⟩ := jko h
  refine wjn (τ := Unit) (fun t => k1 t = some r) (fun _ => ⟨mk 136 [(1, (Qo9 p1)), (2, (Qrn p2)), (3, B p3), (4, (K .u8 (p4))), (5, (K .i8 (p5))), (6, .ref 0 3 0 0)], [(Qhg p0)]⟩) (fun t h => ?_) ?_
  ·subst hk_k1
   obtain ⟨x3, hf2, h⟩ := bno h
   refine wx tbk [(1, rp [fu 32, (.tmp 36, (Qfz p0))] (B x3))] ⟨apc (first := []) (cap := []) (vs := [(Qfz p0)]) rfl enter32 (Qlv N p0 _ hf2) rfl rfl (nlc (NLt.agg _ (nlc nll (nlc nll (nlc (nld Qac _) nl0)))) nl0) nll rfl, trivial⟩ ?_
   obtain ⟨x5, hf4, h⟩ := bno h
   obtain ⟨x7, hf6, h⟩ := bno h
   refine wx tbk [(1, rp [fu 24, (.tmp 38, (Qo9 p1))] (Qo8 x5)), (3, rp [fu 24, (.tmp 40, (Qrn p2))] (Qo7 x7))] ⟨Qat (first := []) (cap := []) (vs := [(Qo9 p1)]) (σr := []) (σr' := []) (res' := (Qo8 x5)) [] rfl Qiq (Qju N p1 _ hf4) rfl (Qcq (rnc (.plain _ (nld Qaa _)) rn0)) Qap Qap (.plain _ (nld Qaa _)) rfl rfl rfl, Qat (first := []) (cap := []) (vs := [(Qrn p2)]) (σr := []) (σr' := []) (res' := (Qo7 x7)) [] rfl Qiq (Qju N p2 _ hf6) rfl (Qcq (rnc (.plain _ (nld Qaa _)) rn0)) Qap Qap (.plain _ (nld Qaa _)) rfl rfl rfl, trivial⟩ ?_
   obtain ⟨k10, hk_k10, h⟩ := jko h
   refine wjn (τ := (List Int) × (List Int)) (fun t => k10 t = some r) (fun ⟨y8, y9⟩ => ⟨mk 136 [(6, .ref 0 3 0 0), (13, B x3), (14, (Qg4 y8)), (15, (Qg3 y9))], [(Qhg p0)]⟩) (fun t h => ?_) ?_
   ·subst hk_k10
    obtain ⟨y8, y9⟩ := t
    obtain ⟨x12, hf11, h⟩ := bno h
    obtain ⟨x14, hf13, h⟩ := bno h
    obtain ⟨x16, hf15, h⟩ := bno h
    obtain ⟨x18, hf17, h⟩ := bno h
    rcases bft (x3) with hb19 | hb19
    ·replace h := Qar hb19 h
     obtain ⟨x21, hf20, h⟩ := bno h
     rcases bft ((x18 == x21)) with hb22 | hb22
     ·replace h := Qar hb22 h
      obtain ⟨x24, hf23, h⟩ := bno h
      refine wx tbk [(1, rp [fu 31, (.tmp 118, (Qfz p0))] (Qjp x12)), (3, rp [fu 24, (.tmp 120, (Qg4 y8))] (Qhn x14)), (5, rp [fu 24, (.tmp 122, (Qg3 y9))] (Qhm x16)), (6, rp [fu 60, (.tmp 119, (Qjp x12)), (.tmp 121, (Qhn x14)), (.tmp 123, (Qhm x16))] (B x18)), (8, rp [(.tmp 125, B x3)] (B true)), (12, rp [(.tmp 126, B true), fu 34, (.tmp 127, (Qfz p0)), (.tmp 128, (Qg4 y8)), (.tmp 129, (Qg3 y9))] (B x21)), (14, rp [(.tmp 124, B x18), (.tmp 131, B x21)] (B ((x18 == x21)))), (15, rp [(.tmp 132, (B ((x18 == x21))))] (B true)), (16, rp [(.tmp 133, B true), fu 21] (B x24))] ⟨apc (first := []) (cap := []) (vs := [(Qfz p0)]) rfl Qmk (Qga N p0 _ hf11) rfl rfl (nlc (NLt.agg _ (nlc nll (nlc nll (nlc (nld Qac _) nl0)))) nl0) (NLt.agg _ (nlc nll (nlc nll (nlc (nld Qac _) nl0)))) rfl, apc (first := []) (cap := []) (vs := [(Qg4 y8)]) rfl Qiq (Qeo N y8 _ hf13) rfl rfl (nlc (nld Qaa _) nl0) (nld Qaa _) rfl, apc (first := []) (cap := []) (vs := [(Qg3 y9)]) rfl Qiq (Qeo N y9 _ hf15) rfl rfl (nlc (nld Qaa _) nl0) (nld Qaa _) rfl, apc (first := []) (cap := []) (vs := [(Qjp x12), (Qhn x14), (Qhm x16)]) rfl Qqz (Qey N x12 x14 x16 _ hf17) rfl rfl (nlc (NLt.agg _ (nlc nll (nlc nll (nlc (nld Qac _) nl0)))) (nlc (nld Qaa _) (nlc (nld Qaa _) nl0))) nll rfl, asb hb19 (amv rfl), ag_ (apc (first := []) (cap := []) (vs := [(Qfz p0), (Qg4 y8), (Qg3 y9)]) rfl enter34 (Qka N p0 y8 y9 _ hf20) rfl rfl (nlc (NLt.agg _ (nlc nll (nlc nll (nlc (nld Qac _) nl0)))) (nlc (nld Qaa _) (nlc (nld Qaa _) nl0))) nll rfl), Ql3 rfl Try.underlying4, asb hb22 (amv rfl), ag_ (apc (first := []) (cap := []) (vs := []) rfl Qml (Qfg 2000  _ hf23) rfl rfl nl0 nll rfl), trivial⟩ ?_
      refine Qah ?_
      obtain rfl := osi h
      exact fend ⟨[B x24], ⟨rot (by kernel_rfl), trivial⟩, rfl⟩ nll
     ·replace h := Qas hb22 h
      refine wx tbk [(1, rp [fu 31, (.tmp 118, (Qfz p0))] (Qjp x12)), (3, rp [fu 24, (.tmp 120, (Qg4 y8))] (Qhn x14)), (5, rp [fu 24, (.tmp 122, (Qg3 y9))] (Qhm x16)), (6, rp [fu 60, (.tmp 119, (Qjp x12)), (.tmp 121, (Qhn x14)), (.tmp 123, (Qhm x16))] (B x18)), (8, rp [(.tmp 125, B x3)] (B true)), (12, rp [(.tmp 126, B true), fu 34, (.tmp 127, (Qfz p0)), (.tmp 128, (Qg4 y8)), (.tmp 129, (Qg3 y9))] (B x21)), (14, rp [(.tmp 124, B x18), (.tmp 131, B x21)] (B ((x18 == x21)))), (15, rp [(.tmp 132, (B ((x18 == x21))))] (B false))] ⟨apc (first := []) (cap := []) (vs := [(Qfz p0)]) rfl Qmk (Qga N p0 _ hf11) rfl rfl (nlc (NLt.agg _ (nlc nll (nlc nll (nlc (nld Qac _) nl0)))) nl0) (NLt.agg _ (nlc nll (nlc nll (nlc (nld Qac _) nl0)))) rfl, apc (first := []) (cap := []) (vs := [(Qg4 y8)]) rfl Qiq (Qeo N y8 _ hf13) rfl rfl (nlc (nld Qaa _) nl0) (nld Qaa _) rfl, apc (first := []) (cap := []) (vs := [(Qg3 y9)]) rfl Qiq (Qeo N y9 _ hf15) rfl rfl (nlc (nld Qaa _) nl0) (nld Qaa _) rfl, apc (first := []) (cap := []) (vs := [(Qjp x12), (Qhn x14), (Qhm x16)]) rfl Qqz (Qey N x12 x14 x16 _ hf17) rfl rfl (nlc (NLt.agg _ (nlc nll (nlc nll (nlc (nld Qac _) nl0)))) (nlc (nld Qaa _) (nlc (nld Qaa _) nl0))) nll rfl, asb hb19 (amv rfl), ag_ (apc (first := []) (cap := []) (vs := [(Qfz p0), (Qg4 y8), (Qg3 y9)]) rfl enter34 (Qka N p0 y8 y9 _ hf20) rfl rfl (nlc (NLt.agg _ (nlc nll (nlc nll (nlc (nld Qac _) nl0)))) (nlc (nld Qaa _) (nlc (nld Qaa _) nl0))) nll rfl), Ql3 rfl Try.underlying4, asb hb22 (amv rfl), trivial⟩ ?_
      refine Qah ?_
      obtain rfl := osi h
      exact fend ⟨[B false], ⟨rot (by kernel_rfl), trivial⟩, rfl⟩ nll
    ·replace h := Qas hb19 h
     rcases bft ((x18 == false)) with hb25 | hb25
     ·replace h := Qar hb25 h
      obtain ⟨x27, hf26, h⟩ := bno h
      refine wx tbk [(1, rp [fu 31, (.tmp 118, (Qfz p0))] (Qjp x12)), (3, rp [fu 24, (.tmp 120, (Qg4 y8))] (Qhn x14)), (5, rp [fu 24, (.tmp 122, (Qg3 y9))] (Qhm x16)), (6, rp [fu 60, (.tmp 119, (Qjp x12)), (.tmp 121, (Qhn x14)), (.tmp 123, (Qhm x16))] (B x18)), (8, rp [(.tmp 125, B x3)] (B false)), (14, rp [(.tmp 124, B x18), (.tmp 131, B false)] (B ((x18 == false)))), (15, rp [(.tmp 132, (B ((x18 == false))))] (B true)), (16, rp [(.tmp 133, B true), fu 21] (B x27))] ⟨apc (first := []) (cap := []) (vs := [(Qfz p0)]) rfl Qmk (Qga N p0 _ hf11) rfl rfl (nlc (NLt.agg _ (nlc nll (nlc nll (nlc (nld Qac _) nl0)))) nl0) (NLt.agg _ (nlc nll (nlc nll (nlc (nld Qac _) nl0)))) rfl, apc (first := []) (cap := []) (vs := [(Qg4 y8)]) rfl Qiq (Qeo N y8 _ hf13) rfl rfl (nlc (nld Qaa _) nl0) (nld Qaa _) rfl, apc (first := []) (cap := []) (vs := [(Qg3 y9)]) rfl Qiq (Qeo N y9 _ hf15) rfl rfl (nlc (nld Qaa _) nl0) (nld Qaa _) rfl, apc (first := []) (cap := []) (vs := [(Qjp x12), (Qhn x14), (Qhm x16)]) rfl Qqz (Qey N x12 x14 x16 _ hf17) rfl rfl (nlc (NLt.agg _ (nlc nll (nlc nll (nlc (nld Qac _) nl0)))) (nlc (nld Qaa _) (nlc (nld Qaa _) nl0))) nll rfl, asb hb19 (amv rfl), Ql3 rfl Try.underlying4, asb hb25 (amv rfl), ag_ (apc (first := []) (cap := []) (vs := []) rfl Qml (Qfg 2000  _ hf26) rfl rfl nl0 nll rfl), trivial⟩ ?_
      refine Qah ?_
      obtain rfl := osi h
      exact fend ⟨[B x27], ⟨rot (by kernel_rfl), trivial⟩, rfl⟩ nll
     ·replace h := Qas hb25 h
      refine wx tbk [(1, rp [fu 31, (.tmp 118, (Qfz p0))] (Qjp x12)), (3, rp [fu 24, (.tmp 120, (Qg4 y8))] (Qhn x14)), (5, rp [fu 24, (.tmp 122, (Qg3 y9))] (Qhm x16)), (6, rp [fu 60, (.tmp 119, (Qjp x12)), (.tmp 121, (Qhn x14)), (.tmp 123, (Qhm x16))] (B x18)), (8, rp [(.tmp 125, B x3)] (B false)), (14, rp [(.tmp 124, B x18), (.tmp 131, B false)] (B ((x18 == false)))), (15, rp [(.tmp 132, (B ((x18 == false))))] (B false))] ⟨apc (first := []) (cap := []) (vs := [(Qfz p0)]) rfl Qmk (Qga N p0 _ hf11) rfl rfl (nlc (NLt.agg _ (nlc nll (nlc nll (nlc (nld Qac _) nl0)))) nl0) (NLt.agg _ (nlc nll (nlc nll (nlc (nld Qac _) nl0)))) rfl, apc (first := []) (cap := []) (vs := [(Qg4 y8)]) rfl Qiq (Qeo N y8 _ hf13) rfl rfl (nlc (nld Qaa _) nl0) (nld Qaa _) rfl, apc (first := []) (cap := []) (vs := [(Qg3 y9)]) rfl Qiq (Qeo N y9 _ hf15) rfl rfl (nlc (nld Qaa _) nl0) (nld Qaa _) rfl, apc (first := []) (cap := []) (vs := [(Qjp x12), (Qhn x14), (Qhm x16)]) rfl Qqz (Qey N x12 x14 x16 _ hf17) rfl rfl (nlc (NLt.agg _ (nlc nll (nlc nll (nlc (nld Qac _) nl0)))) (nlc (nld Qaa _) (nlc (nld Qaa _) nl0))) nll rfl, asb hb19 (amv rfl), Ql3 rfl Try.underlying4, asb hb25 (amv rfl), trivial⟩ ?_
      refine Qah ?_
      obtain rfl := osi h
      exact fend ⟨[B false], ⟨rot (by kernel_rfl), trivial⟩, rfl⟩ nll
   ·skip
    obtain ⟨k29, hk_k29, h⟩ := jko h
    refine wjn (τ := Bool) (fun t => k29 t = some r) (fun y28 => ⟨mk 136 [(4, (K .u8 (p4))), (5, (K .i8 (p5))), (6, .ref 0 3 0 0), (13, B x3), (14, (Qo8 x5)), (15, (Qo7 x7)), (45, B y28)], [(Qhg p0)]⟩) (fun y28 h => ?_) ?_
    ·subst hk_k29
     rcases bft (y28) with hc30 | hc30
     ·replace h := Qar hc30 h
      refine wft hc30 (by kernel_rfl) ?_
      obtain ⟨x32, hf31, h⟩ := bno h
      obtain ⟨x34, hf33, h⟩ := bno h
      rcases x34 with x35 | x49
      ·replace h := sum_l h
       refine wx tbk [(1, rp [fu 31, (.tmp 47, (Qfz p0))] (Qmb x32)), (2, rp [fu 30, (.tmp 48, (Qmb x32))] (.tup [nilS, nilS, I 0, I x35]))] ⟨apc (first := []) (cap := []) (vs := [(Qfz p0)]) rfl Qmk (Qga N p0 _ hf31) rfl rfl (nlc (NLt.agg _ (nlc nll (nlc nll (nlc (nld Qac _) nl0)))) nl0) (NLt.agg _ (nlc nll (nlc nll (nlc (nld Qac _) nl0)))) rfl, Qat (first := []) (cap := []) (vs := [(Qmb x32)]) (σr := []) (σr' := []) (res' := (.tup [nilS, nilS, I 0, I x35])) [] rfl Qtl (Qky N x32 _ hf33) rfl (Qcq (rnc (.plain _ (NLt.agg _ (nlc nll (nlc nll (nlc (nld Qac _) nl0))))) rn0)) Qap Qap (.plain _ (NLt.tup _ (nlc nll (nlc nll (nlc nll (nlc nll nl0)))))) rfl rfl rfl, trivial⟩ ?_
       refine wsq ?_
       refine wx tbk [] trivial ?_
       rcases bft ((x35 != 0)) with hc36 | hc36
       ·replace h := Qar hc36 h
        refine wft hc36 (by kernel_rfl) ?_
        rcases bft ((x35 == 7)) with hb37 | hb37
        ·replace h := Qar hb37 h
         obtain ⟨x39, hf38, h⟩ := bno h
         refine wx tbk [(2, rp [(.tmp 57, (B ((x35 == 7))))] (B true)), (3, rp [(.tmp 58, B true), fu 21] (B x39))] ⟨asb hb37 (amv rfl), ag_ (apc (first := []) (cap := []) (vs := []) rfl Qml (Qfg 2000  _ hf38) rfl rfl nl0 nll rfl), trivial⟩ ?_
         refine Qah ?_
         refine Qad ?_
         refine Qad ?_
         obtain rfl := osi h
         exact fend ⟨[B x39], ⟨rot (by kernel_rfl), trivial⟩, rfl⟩ nll
        ·replace h := Qas hb37 h
         refine wx tbk [(2, rp [(.tmp 57, (B ((x35 == 7))))] (B false))] ⟨asb hb37 (amv rfl), trivial⟩ ?_
         refine Qah ?_
         refine Qad ?_
         refine Qad ?_
         obtain rfl := osi h
         exact fend ⟨[B false], ⟨rot (by kernel_rfl), trivial⟩, rfl⟩ nll
       ·replace h := Qas hc36 h
        refine wfn hc36 (by kernel_rfl) ?_
        refine Qag ?_
        refine thn ?_
        obtain ⟨k40, hk_k40, h⟩ := jko h
        refine wjn (τ := Unit) (fun t => k40 t = some r) (fun _ => ⟨mk 136 [(4, (K .u8 (p4))), (5, (K .i8 (p5))), (6, .ref 0 3 0 0), (13, B x3), (16, nilS), (17, nilS)], [(Qhg p0)]⟩) (fun t h => ?_) ?_
        ·subst hk_k40
         refine wx tbk [] trivial ?_
         obtain ⟨hz41, h⟩ := cko h
         obtain ⟨x42, hl43, h⟩ := bno h
         refine wx tbk [(1, rp [(.tmp 77, (K .u8 (p4)))] (I (w64 p4))), (4, rp [(.tmp 80, (Qjq p0))] (I ((p0.Hours.length : Int)))), (5, rp [(.tmp 78, I (w64 p4)), (.tmp 81, (I ((p0.Hours.length : Int))))] (I ((w64 p4).tmod (p0.Hours.length : Int)))), (6, rp [(.tmp 82, (I ((w64 p4).tmod (p0.Hours.length : Int))))] (I x42))] ⟨acv rfl (by rw [Try.underlying5]; rfl) Try.underlying3, alm (c := Qaj) (l := p0.Hours) (aln rfl Try.underlying39 rfl), Qi3 rfl (Qmn hz41), Qd4 hl43 (aas rfl), trivial⟩ ?_
         refine wx tbk [(1, rp [(.tmp 83, (K .i8 (p5))), (.const (.int .i8 2), (K .i8 (2)))] (K .i8 (p5.tmod 2)))] ⟨Qi3 rfl (by decide), trivial⟩ ?_
         rcases bft (((p5.tmod 2) == 0)) with hc44 | hc44
         ·replace h := Qar hc44 h
          refine wft hc44 (by kernel_rfl) ?_
          cases h
         ·replace h := Qas hc44 h
          refine wfn hc44 (by kernel_rfl) ?_
          obtain ⟨hz45, h⟩ := cko h
          obtain ⟨x46, hl47, h⟩ := bno h
          refine wx tbk [(1, rp [(.tmp 95, (K .u8 (p4))), (.const (.int .u8 16), (K .u8 (16)))] (K .u8 (IntKind.wrap .u8 (p4.tdiv 16)))), (2, rp [(.tmp 96, (K .u8 (IntKind.wrap .u8 (p4.tdiv 16))))] (I (w64 (IntKind.wrap .u8 (p4.tdiv 16))))), (5, rp [(.tmp 99, (Qjq p0))] (I ((p0.Hours.length : Int)))), (6, rp [(.tmp 97, (I (w64 (IntKind.wrap .u8 (p4.tdiv 16))))), (.tmp 100, (I ((p0.Hours.length : Int))))] (I x46))] ⟨Qkf rfl (by decide), acv rfl (by rw [Try.underlying5]; rfl) Try.underlying3, alm (c := Qaj) (l := p0.Hours) (aln rfl Try.underlying39 rfl), Qd4 hl47 (Qi3 rfl (Qmn hz45)), trivial⟩ ?_
          cases h
        ·skip
         rcases bft ((0 != (p0.Hours.length : Int))) with hb48 | hb48
         ·replace h := Qar hb48 h
          refine wx tbk [(1, rp [(.tmp 61, nilS)] (I 0)), (4, rp [(.tmp 64, (Qjq p0))] (I ((p0.Hours.length : Int)))), (6, rp [(.tmp 66, (B ((0 != (p0.Hours.length : Int)))))] (B true))] ⟨aln rfl Try.underlying23 rfl, alm (c := Qaj) (l := p0.Hours) (aln rfl Try.underlying39 rfl), asb hb48 (amv rfl), trivial⟩ ?_
          refine Qcm (by kernel_rfl) ?_
          refine wx tbk [] trivial ?_
          refine Qah ?_
          refine Qad ?_
          refine Qad ?_
          obtain rfl := osi h
          exact fend ⟨[B false], ⟨rot (by kernel_rfl), trivial⟩, rfl⟩ nll
         ·replace h := Qas hb48 h
          refine wx tbk [(1, rp [(.tmp 61, nilS)] (I 0)), (4, rp [(.tmp 64, (Qjq p0))] (I ((p0.Hours.length : Int)))), (6, rp [(.tmp 66, (B ((0 != (p0.Hours.length : Int)))))] (B false)), (8, rp [(.tmp 67, B false), (.tmp 68, nilS)] (I 0)), (11, rp [(.tmp 67, B false), (.tmp 71, (Qjq p0))] (I ((p0.Hours.length : Int))))] ⟨aln rfl Try.underlying23 rfl, alm (c := Qaj) (l := p0.Hours) (aln rfl Try.underlying39 rfl), asb hb48 (amv rfl), ag_ (aln rfl Try.underlying23 rfl), ag_ (alm (c := Qaj) (l := p0.Hours) (aln rfl Try.underlying39 rfl)), trivial⟩ ?_
          refine wfn hb48 (by kernel_rfl) ?_
          refine Qag ?_
          refine thn ?_
          exact ⟨(), h, (mto (n := 136) [(4, (K .u8 (p4))), (5, (K .i8 (p5))), (6, .ref 0 3 0 0), (13, B x3), (16, nilS), (17, nilS)] [0] [(Qhg p0)] hφ0 (pc rwl (pc rwl (pc (.rn (rqr rfl)) (pc rwl (pc rwl (pc rwl pn)))))) (qc (spb (lc rwl (lc rwl (lc (.rn (.plain _ (nld Qac _))) ln)))) qn))⟩
      ·replace h := sum_r h
       refine wx tbk [(1, rp [fu 31, (.tmp 47, (Qfz p0))] (Qmb x32)), (2, ⟨[fu 30, (.tmp 48, (Qmb x32))], [(1, .unused), (2, .unused)], (.tup [(.own 1 1 (0) ((x32.Hours.length : Int).toNat)), (.own 2 1 (0) ((x32.Hours.length : Int).toNat)), I x49.1, I 0]), [(1, (Qj7 x49)), (2, (Qi8 x49))], false⟩)] ⟨apc (first := []) (cap := []) (vs := [(Qfz p0)]) rfl Qmk (Qga N p0 _ hf31) rfl rfl (nlc (NLt.agg _ (nlc nll (nlc nll (nlc (nld Qac _) nl0)))) nl0) (NLt.agg _ (nlc nll (nlc nll (nlc (nld Qac _) nl0)))) rfl, Qat (first := []) (cap := []) (vs := [(Qmb x32)]) (σr := []) (σr' := [(Qj7 x49), (Qi8 x49)]) (res' := (.tup [(.own 1 1 (0) ((x32.Hours.length : Int).toNat)), (.own 2 1 (0) ((x32.Hours.length : Int).toNat)), I x49.1, I 0])) [1, 2] rfl Qtl (Qkx N x32 _ hf33) rfl (Qcq (rnc (.plain _ (NLt.agg _ (nlc nll (nlc nll (nlc (nld Qac _) nl0))))) rn0)) Qap (slc (Qbg Qaa) (slc (Qbg Qaa) Qap)) (rn_tup (rnc (Qgf rfl) (rnc (Qgf rfl) (rnc (.plain _ nll) (rnc (.plain _ nll) rn0))))) rfl rfl rfl, trivial⟩ ?_
       refine wsq ?_
       refine wx tbk [] trivial ?_
       refine Qdj (by kernel_rfl) ?_
       refine Qag ?_
       refine thn ?_
       obtain ⟨k50, hk_k50, h⟩ := jko h
       refine wjn (τ := Unit) (fun t => k50 t = some r) (fun _ => ⟨mk 136 [(4, (K .u8 (p4))), (5, (K .i8 (p5))), (6, .ref 0 3 0 0), (13, B x3), (16, (.own 1 1 (0) ((x32.Hours.length : Int).toNat))), (17, (.own 2 1 (0) ((x32.Hours.length : Int).toNat)))], [(Qhg p0), (Qj7 x49), (Qi8 x49)]⟩) (fun t h => ?_) ?_
       ·subst hk_k50
        refine wx tbk [] trivial ?_
        obtain ⟨hz51, h⟩ := cko h
        obtain ⟨x52, hl53, h⟩ := bno h
        refine wx tbk [(1, rp [(.tmp 77, (K .u8 (p4)))] (I (w64 p4))), (4, rp [(.tmp 80, (Qjq p0))] (I ((p0.Hours.length : Int)))), (5, rp [(.tmp 78, I (w64 p4)), (.tmp 81, (I ((p0.Hours.length : Int))))] (I ((w64 p4).tmod (p0.Hours.length : Int)))), (6, rp [(.tmp 82, (I ((w64 p4).tmod (p0.Hours.length : Int))))] (I x52))] ⟨acv rfl (by rw [Try.underlying5]; rfl) Try.underlying3, alm (c := Qaj) (l := p0.Hours) (aln rfl Try.underlying39 rfl), Qi3 rfl (Qmn hz51), Qd4 hl53 (aas rfl), trivial⟩ ?_
        refine wx tbk [(1, rp [(.tmp 83, (K .i8 (p5))), (.const (.int .i8 2), (K .i8 (2)))] (K .i8 (p5.tmod 2)))] ⟨Qi3 rfl (by decide), trivial⟩ ?_
        rcases bft (((p5.tmod 2) == 0)) with hc54 | hc54
        ·replace h := Qar hc54 h
         refine wft hc54 (by kernel_rfl) ?_
         obtain ⟨hi55, h⟩ := cko h
         obtain ⟨hi55a, hi55b⟩ := Qa1 hi55
         obtain ⟨x56, hg57, h⟩ := bno h
         obtain ⟨hi58, h⟩ := cko h
         obtain ⟨hi58a, hi58b⟩ := Qa1 hi58
         obtain ⟨x59, hg60, h⟩ := bno h
         refine wx1 tbk [(2, rb [(.tmp 86, (.own 2 1 (0) ((x32.Hours.length : Int).toNat))), (.tmp 87, I x52)] [(2, (Qi8 x49))] (.ref 2 1 (x52.toNat) 0)), (3, rb [(.tmp 88, (.ref 2 1 (x52.toNat) 0))] [(2, (Qi8 x49))] (I x56)), (5, rp [(.tmp 90, (K .i8 (p5)))] (I (w64 p5))), (6, rp [(.tmp 91, I (w64 p5)), ci 2] (I (w64 ((w64 p5).tdiv 2)))), (8, rb [(.tmp 86, (.own 2 1 (0) ((x32.Hours.length : Int).toNat))), (.tmp 87, I x52)] [(2, (Qi8 x49))] (.ref 2 1 (x52.toNat) 0)), (9, ⟨[(.tmp 94, (.ref 2 1 (x52.toNat) 0)), (.tmp 93, (I (w64 (x56 + (w64 ((w64 p5).tdiv 2))))))], [(2, (Qi8 x49))], .any, [(2, (.own 1 ((x49.2.2.set x52.toNat (w64 (x56 + (w64 ((w64 p5).tdiv 2)))) : List Int).map Qab)))], false⟩)] ⟨aio rfl Try.underlying23 ti3 (odt hi55a) (odt hi55b) (Nat.zero_add _), ald rfl ti3 (by decide) (mgt Qab hg57) (nle rfl) rfl, acv rfl (by rw [Try.underlying125]; rfl) Try.underlying3, Qkf rfl (by decide), aio rfl Try.underlying23 ti3 (odt hi58a) (odt hi58b) (Nat.zero_add _), ast rfl ti3 (by rfl) (mgt Qab hg60) (nle rfl) (Qel Qab rfl), trivial⟩ ?_
         refine thn ?_
         obtain ⟨hz61, h⟩ := cko h
         obtain ⟨hz62, h⟩ := cko h
         exact ⟨(x49.2.1.take ((x32.Hours.length : Int).toNat), (x49.2.2.set x52.toNat (w64 (x56 + (w64 ((w64 p5).tdiv 2))))).take ((x32.Hours.length : Int).toNat)), h, (Mor.trans (Qk2 (n := 136) (m := 1) (xs := (x49.2.1 : List Int).map Qab) (l' := [(6, .ref 0 3 0 0), (13, B x3), (14, (Qp8 x49 x32)), (15, (.own 2 1 (0) ((x32.Hours.length : Int).toNat)))]) (own' := [(Qhg p0), .dead, (.own 1 ((x49.2.2.set x52.toNat (w64 (x56 + (w64 ((w64 p5).tdiv 2)))) : List Int).map Qab))]) 1 [(6, .ref 0 3 0 0), (13, B x3), (14, (.own 1 1 (0) ((x32.Hours.length : Int).toNat))), (15, (.own 2 1 (0) ((x32.Hours.length : Int).toNat)))] (by kernel_rfl) (by kernel_rfl) (by kernel_rfl) ⟨rfl, .same _, rfl, .same _, rfl, (Qip hz61), rfl, .same _, trivial⟩ (by kernel_rfl)) (Mor.trans (Qk2 (n := 136) (m := 1) (xs := (x49.2.2.set x52.toNat (w64 (x56 + (w64 ((w64 p5).tdiv 2)))) : List Int).map Qab) (l' := [(6, .ref 0 3 0 0), (13, B x3), (14, (Qp8 x49 x32)), (15, (.dat 1 (((x49.2.2.set x52.toNat (w64 (x56 + (w64 ((w64 p5).tdiv 2))))).take ((x32.Hours.length : Int).toNat) : List Int).map Qab)))]) (own' := [(Qhg p0), .dead, .dead]) 2 [(6, .ref 0 3 0 0), (13, B x3), (14, (Qp8 x49 x32)), (15, (.own 2 1 (0) ((x32.Hours.length : Int).toNat)))] (by kernel_rfl) (by kernel_rfl) (by kernel_rfl) ⟨rfl, .same _, rfl, .same _, rfl, .same _, rfl, (Qip hz62), trivial⟩ (by kernel_rfl)) (mto (n := 136) [(6, .ref 0 3 0 0), (13, B x3), (14, (Qp8 x49 x32)), (15, (.dat 1 (((x49.2.2.set x52.toNat (w64 (x56 + (w64 ((w64 p5).tdiv 2))))).take ((x32.Hours.length : Int).toNat) : List Int).map Qab)))] [0] [(Qhg p0)] hφ0 (pc (.rn (rqr rfl)) (pc rwl (pc (.rn (.plain _ (nld Qaa _))) (pc (.rn (.plain _ (nld Qaa _))) pn)))) (qc (spb (lc rwl (lc rwl (lc (.rn (.plain _ (nld Qac _))) ln)))) qn))))⟩
        ·replace h := Qas hc54 h
         refine wfn hc54 (by kernel_rfl) ?_
         obtain ⟨hz63, h⟩ := cko h
         obtain ⟨x64, hl65, h⟩ := bno h
         refine wx tbk [(1, rp [(.tmp 95, (K .u8 (p4))), (.const (.int .u8 16), (K .u8 (16)))] (K .u8 (IntKind.wrap .u8 (p4.tdiv 16)))), (2, rp [(.tmp 96, (K .u8 (IntKind.wrap .u8 (p4.tdiv 16))))] (I (w64 (IntKind.wrap .u8 (p4.tdiv 16))))), (5, rp [(.tmp 99, (Qjq p0))] (I ((p0.Hours.length : Int)))), (6, rp [(.tmp 97, (I (w64 (IntKind.wrap .u8 (p4.tdiv 16))))), (.tmp 100, (I ((p0.Hours.length : Int))))] (I x64))] ⟨Qkf rfl (by decide), acv rfl (by rw [Try.underlying5]; rfl) Try.underlying3, alm (c := Qaj) (l := p0.Hours) (aln rfl Try.underlying39 rfl), Qd4 hl65 (Qi3 rfl (Qmn hz63)), trivial⟩ ?_
         obtain ⟨hi66, h⟩ := cko h
         obtain ⟨hi66a, hi66b⟩ := Qa1 hi66
         obtain ⟨x67, hg68, h⟩ := bno h
         obtain ⟨hi69, h⟩ := cko h
         obtain ⟨hi69a, hi69b⟩ := Qa1 hi69
         obtain ⟨x70, hg71, h⟩ := bno h
         refine wx tbk [(2, rb [(.tmp 102, (.own 1 1 (0) ((x32.Hours.length : Int).toNat))), (.tmp 103, I x52)] [(1, (Qj7 x49))] (.ref 1 1 (x52.toNat) 0)), (3, rb [(.tmp 104, (.ref 1 1 (x52.toNat) 0))] [(1, (Qj7 x49))] (I x67)), (5, rp [(.tmp 106, (K .i8 (p5)))] (I (w64 p5))), (7, rb [(.tmp 102, (.own 1 1 (0) ((x32.Hours.length : Int).toNat))), (.tmp 103, I x52)] [(1, (Qj7 x49))] (.ref 1 1 (x52.toNat) 0)), (8, ⟨[(.tmp 109, (.ref 1 1 (x52.toNat) 0)), (.tmp 108, (I (w64 (x67 + (w64 p5)))))], [(1, (Qj7 x49))], .any, [(1, (Qnu x49 x52 x67 p5))], false⟩)] ⟨aio rfl Try.underlying23 ti3 (odt hi66a) (odt hi66b) (Nat.zero_add _), ald rfl ti3 (by decide) (mgt Qab hg68) (nle rfl) rfl, acv rfl (by rw [Try.underlying125]; rfl) Try.underlying3, aio rfl Try.underlying23 ti3 (odt hi69a) (odt hi69b) (Nat.zero_add _), ast rfl ti3 (by rfl) (mgt Qab hg71) (nle rfl) (Qel Qab rfl), trivial⟩ ?_
         obtain ⟨hi72, h⟩ := cko h
         obtain ⟨hi72a, hi72b⟩ := Qa1 hi72
         obtain ⟨x73, hg74, h⟩ := bno h
         obtain ⟨hi75, h⟩ := cko h
         obtain ⟨hi75a, hi75b⟩ := Qa1 hi75
         obtain ⟨x76, hg77, h⟩ := bno h
         refine wx1 tbk [(2, rb [(.tmp 110, (.own 1 1 (0) ((x32.Hours.length : Int).toNat))), (.tmp 111, I x64)] [(1, (Qnu x49 x52 x67 p5))] (.ref 1 1 (x64.toNat) 0)), (3, rb [(.tmp 112, (.ref 1 1 (x64.toNat) 0))] [(1, (Qnu x49 x52 x67 p5))] (I x73)), (5, rp [(.tmp 114, (K .i8 (p5)))] (I (w64 p5))), (7, rb [(.tmp 110, (.own 1 1 (0) ((x32.Hours.length : Int).toNat))), (.tmp 111, I x64)] [(1, (Qnu x49 x52 x67 p5))] (.ref 1 1 (x64.toNat) 0)), (8, ⟨[(.tmp 117, (.ref 1 1 (x64.toNat) 0)), (.tmp 116, (I (w64 (x73 - (w64 p5)))))], [(1, (Qnu x49 x52 x67 p5))], .any, [(1, (.own 1 (((x49.2.1.set x52.toNat (w64 (x67 + (w64 p5)))).set x64.toNat (w64 (x73 - (w64 p5))) : List Int).map Qab)))], false⟩)] ⟨aio rfl Try.underlying23 ti3 (odt hi72a) (odt hi72b) (Nat.zero_add _), ald rfl ti3 (by decide) (mgt Qab hg74) (nle rfl) rfl, acv rfl (by rw [Try.underlying125]; rfl) Try.underlying3, aio rfl Try.underlying23 ti3 (odt hi75a) (odt hi75b) (Nat.zero_add _), ast rfl ti3 (by rfl) (mgt Qab hg77) (nle rfl) (Qel Qab rfl), trivial⟩ ?_
         refine thn ?_
         obtain ⟨hz78, h⟩ := cko h
         obtain ⟨hz79, h⟩ := cko h
         exact ⟨(((x49.2.1.set x52.toNat (w64 (x67 + (w64 p5)))).set x64.toNat (w64 (x73 - (w64 p5)))).take ((x32.Hours.length : Int).toNat), x49.2.2.take ((x32.Hours.length : Int).toNat)), h, (Mor.trans (Qk2 (n := 136) (m := 1) (xs := ((x49.2.1.set x52.toNat (w64 (x67 + (w64 p5)))).set x64.toNat (w64 (x73 - (w64 p5))) : List Int).map Qab) (l' := [(6, .ref 0 3 0 0), (13, B x3), (14, (Qp7 x49 x52 x67 p5 x64 x73 x32)), (15, (.own 2 1 (0) ((x32.Hours.length : Int).toNat)))]) (own' := [(Qhg p0), .dead, (Qi8 x49)]) 1 [(6, .ref 0 3 0 0), (13, B x3), (14, (.own 1 1 (0) ((x32.Hours.length : Int).toNat))), (15, (.own 2 1 (0) ((x32.Hours.length : Int).toNat)))] (by kernel_rfl) (by kernel_rfl) (by kernel_rfl) ⟨rfl, .same _, rfl, .same _, rfl, (Qip hz78), rfl, .same _, trivial⟩ (by kernel_rfl)) (Mor.trans (Qk2 (n := 136) (m := 1) (xs := (x49.2.2 : List Int).map Qab) (l' := [(6, .ref 0 3 0 0), (13, B x3), (14, (Qp7 x49 x52 x67 p5 x64 x73 x32)), (15, (.dat 1 ((x49.2.2.take ((x32.Hours.length : Int).toNat) : List Int).map Qab)))]) (own' := [(Qhg p0), .dead, .dead]) 2 [(6, .ref 0 3 0 0), (13, B x3), (14, (Qp7 x49 x52 x67 p5 x64 x73 x32)), (15, (.own 2 1 (0) ((x32.Hours.length : Int).toNat)))] (by kernel_rfl) (by kernel_rfl) (by kernel_rfl) ⟨rfl, .same _, rfl, .same _, rfl, .same _, rfl, (Qip hz79), trivial⟩ (by kernel_rfl)) (mto (n := 136) [(6, .ref 0 3 0 0), (13, B x3), (14, (Qp7 x49 x52 x67 p5 x64 x73 x32)), (15, (.dat 1 ((x49.2.2.take ((x32.Hours.length : Int).toNat) : List Int).map Qab)))] [0] [(Qhg p0)] hφ0 (pc (.rn (rqr rfl)) (pc rwl (pc (.rn (.plain _ (nld Qaa _))) (pc (.rn (.plain _ (nld Qaa _))) pn)))) (qc (spb (lc rwl (lc rwl (lc (.rn (.plain _ (nld Qac _))) ln)))) qn))))⟩
       ·skip
        rcases bft (((((x32.Hours.length : Int).toNat : Nat) : Int) != (p0.Hours.length : Int))) with hb80 | hb80
        ·replace h := Qar hb80 h
         refine wx tbk [(1, rp [(.tmp 61, (.own 1 1 (0) ((x32.Hours.length : Int).toNat)))] (I ((((x32.Hours.length : Int).toNat : Nat) : Int)))), (4, rp [(.tmp 64, (Qjq p0))] (I ((p0.Hours.length : Int)))), (6, rp [(.tmp 66, (B (((((x32.Hours.length : Int).toNat : Nat) : Int) != (p0.Hours.length : Int)))))] (B true))] ⟨aln rfl Try.underlying23 rfl, alm (c := Qaj) (l := p0.Hours) (aln rfl Try.underlying39 rfl), asb hb80 (amv rfl), trivial⟩ ?_
         refine Qcm (by kernel_rfl) ?_
         refine wx tbk [] trivial ?_
         refine Qah ?_
         refine Qad ?_
         refine Qad ?_
         obtain rfl := osi h
         exact fend ⟨[B false], ⟨rot (by kernel_rfl), trivial⟩, rfl⟩ nll
        ·replace h := Qas hb80 h
         refine wx tbk [(1, rp [(.tmp 61, (.own 1 1 (0) ((x32.Hours.length : Int).toNat)))] (I ((((x32.Hours.length : Int).toNat : Nat) : Int)))), (4, rp [(.tmp 64, (Qjq p0))] (I ((p0.Hours.length : Int)))), (6, rp [(.tmp 66, (B (((((x32.Hours.length : Int).toNat : Nat) : Int) != (p0.Hours.length : Int)))))] (B false)), (8, rp [(.tmp 67, B false), (.tmp 68, (.own 2 1 (0) ((x32.Hours.length : Int).toNat)))] (I ((((x32.Hours.length : Int).toNat : Nat) : Int)))), (11, rp [(.tmp 67, B false), (.tmp 71, (Qjq p0))] (I ((p0.Hours.length : Int))))] ⟨aln rfl Try.underlying23 rfl, alm (c := Qaj) (l := p0.Hours) (aln rfl Try.underlying39 rfl), asb hb80 (amv rfl), ag_ (aln rfl Try.underlying23 rfl), ag_ (alm (c := Qaj) (l := p0.Hours) (aln rfl Try.underlying39 rfl)), trivial⟩ ?_
         refine wfn hb80 (by kernel_rfl) ?_
         refine Qag ?_
         refine thn ?_
         exact ⟨(), h, (mto (n := 136) [(4, (K .u8 (p4))), (5, (K .i8 (p5))), (6, .ref 0 3 0 0), (13, B x3), (16, (.own 1 1 (0) ((x32.Hours.length : Int).toNat))), (17, (.own 2 1 (0) ((x32.Hours.length : Int).toNat)))] [0, 1, 2] [(Qhg p0), (Qj7 x49), (Qi8 x49)] hφ0 (pc rwl (pc rwl (pc (.rn (rqr rfl)) (pc rwl (pc (.rn (Qaf rfl)) (pc (.rn (Qaf rfl)) pn)))))) (qc (spb (lc rwl (lc rwl (lc (.rn (.plain _ (nld Qac _))) ln)))) (qc (spr Qaa) (qc (spr Qaa) qn))))⟩
     ·replace h := Qas hc30 h
      refine wfn hc30 (by kernel_rfl) ?_
      refine Qag ?_
      refine thn ?_
      exact ⟨(x5, x7), h, (mto (n := 136) [(6, .ref 0 3 0 0), (13, B x3), (14, (Qo8 x5)), (15, (Qo7 x7))] [0] [(Qhg p0)] hφ0 (pc (.rn (rqr rfl)) (pc rwl (pc (.rn (.plain _ (nld Qaa _))) (pc (.rn (.plain _ (nld Qaa _))) pn)))) (qc (spb (lc rwl (lc rwl (lc (.rn (.plain _ (nld Qac _))) ln)))) qn))⟩
    ·skip
     rcases bft (p3) with hb81 | hb81
     ·replace h := Qar hb81 h
      refine wx1 tbk [(1, rp [(.tmp 42, B p3)] (B true))] ⟨asb hb81 (amv rfl), trivial⟩ ?_
      refine thn ?_
      exact ⟨(x3), h, (mto (n := 136) [(4, (K .u8 (p4))), (5, (K .i8 (p5))), (6, .ref 0 3 0 0), (13, B x3), (14, (Qo8 x5)), (15, (Qo7 x7)), (45, B x3)] [0] [(Qhg p0)] hφ0 (pc rwl (pc rwl (pc (.rn (rqr rfl)) (pc rwl (pc (.rn (.plain _ (nld Qaa _))) (pc (.rn (.plain _ (nld Qaa _))) (pc rwl pn))))))) (qc (spb (lc rwl (lc rwl (lc (.rn (.plain _ (nld Qac _))) ln)))) qn))⟩
     ·replace h := Qas hb81 h
      refine wx1 tbk [(1, rp [(.tmp 42, B p3)] (B false))] ⟨asb hb81 (amv rfl), trivial⟩ ?_
      refine thn ?_
      exact ⟨(false), h, (mto (n := 136) [(4, (K .u8 (p4))), (5, (K .i8 (p5))), (6, .ref 0 3 0 0), (13, B x3), (14, (Qo8 x5)), (15, (Qo7 x7)), (45, B false)] [0] [(Qhg p0)] hφ0 (pc rwl (pc rwl (pc (.rn (rqr rfl)) (pc rwl (pc (.rn (.plain _ (nld Qaa _))) (pc (.rn (.plain _ (nld Qaa _))) (pc rwl pn))))))) (qc (spb (lc rwl (lc rwl (lc (.rn (.plain _ (nld Qac _))) ln)))) qn))⟩
  ·skip
   obtain ⟨x83, hf82, h⟩ := bno h
   rcases bft ((!x83)) with hb84 | hb84
   ·replace h := Qar hb84 h
    refine wx tbk [(1, rp [fu 29, (.tmp 22, (Qfz p0))] (B x83)), (3, rp [(.tmp 24, (B ((!x83))))] (B true))] ⟨apc (first := []) (cap := []) (vs := [(Qfz p0)]) rfl Qtm (Qjk N p0 _ hf82) rfl rfl (nlc (NLt.agg _ (nlc nll (nlc nll (nlc (nld Qac _) nl0)))) nl0) nll rfl, asb hb84 (amv rfl), trivial⟩ ?_
    refine Qcm (by kernel_rfl) ?_
    obtain ⟨x86, hf85, h⟩ := bno h
    refine wx tbk [(0, rp [fu 21] (B x86))] ⟨apc (first := []) (cap := []) (vs := []) rfl Qml (Qfg 2000  _ hf85) rfl rfl nl0 nll rfl, trivial⟩ ?_
    refine Qah ?_
    refine Qad ?_
    obtain rfl := osi h
    exact fend ⟨[B x86], ⟨rot (by kernel_rfl), trivial⟩, rfl⟩ nll
   ·replace h := Qas hb84 h
    rcases bft ((decide ((p1.length : Int) > 35))) with hb87 | hb87
    ·replace h := Qar hb87 h
     refine wx tbk [(1, rp [fu 29, (.tmp 22, (Qfz p0))] (B x83)), (3, rp [(.tmp 24, (B ((!x83))))] (B false)), (5, rp [(.tmp 25, B false), (.tmp 26, (Qo9 p1))] (I ((p1.length : Int)))), (8, rp [(.tmp 29, (B ((decide ((p1.length : Int) > 35)))))] (B true))] ⟨apc (first := []) (cap := []) (vs := [(Qfz p0)]) rfl Qtm (Qjk N p0 _ hf82) rfl rfl (nlc (NLt.agg _ (nlc nll (nlc nll (nlc (nld Qac _) nl0)))) nl0) nll rfl, asb hb84 (amv rfl), ag_ (alm (c := Qab) (l := p1) (aln rfl Try.underlying23 rfl)), asb hb87 (amv rfl), trivial⟩ ?_
     refine Qcm (by kernel_rfl) ?_
     obtain ⟨x89, hf88, h⟩ := bno h
     refine wx tbk [(0, rp [fu 21] (B x89))] ⟨apc (first := []) (cap := []) (vs := []) rfl Qml (Qfg 2000  _ hf88) rfl rfl nl0 nll rfl, trivial⟩ ?_
     refine Qah ?_
     refine Qad ?_
     obtain rfl := osi h
     exact fend ⟨[B x89], ⟨rot (by kernel_rfl), trivial⟩, rfl⟩ nll
    ·replace h := Qas hb87 h
     refine wx tbk [(1, rp [fu 29, (.tmp 22, (Qfz p0))] (B x83)), (3, rp [(.tmp 24, (B ((!x83))))] (B false)), (5, rp [(.tmp 25, B false), (.tmp 26, (Qo9 p1))] (I ((p1.length : Int)))), (8, rp [(.tmp 29, (B ((decide ((p1.length : Int) > 35)))))] (B false)), (10, rp [(.tmp 30, B false), (.tmp 31, (Qrn p2))] (I ((p2.length : Int))))] ⟨apc (first := []) (cap := []) (vs := [(Qfz p0)]) rfl Qtm (Qjk N p0 _ hf82) rfl rfl (nlc (NLt.agg _ (nlc nll (nlc nll (nlc (nld Qac _) nl0)))) nl0) nll rfl, asb hb84 (amv rfl), ag_ (alm (c := Qab) (l := p1) (aln rfl Try.underlying23 rfl)), asb hb87 (amv rfl), ag_ (alm (c := Qab) (l := p2) (aln rfl Try.underlying23 rfl)), trivial⟩ ?_
     rcases bft ((decide ((p2.length : Int) > 35))) with hc90 | hc90
     ·replace h := Qar hc90 h
      refine wft hc90 (by kernel_rfl) ?_
      obtain ⟨x92, hf91, h⟩ := bno h
      refine wx tbk [(0, rp [fu 21] (B x92))] ⟨apc (first := []) (cap := []) (vs := []) rfl Qml (Qfg 2000  _ hf91) rfl rfl nl0 nll rfl, trivial⟩ ?_
      refine Qah ?_
      refine Qad ?_
      obtain rfl := osi h
      exact fend ⟨[B x92], ⟨rot (by kernel_rfl), trivial⟩, rfl⟩ nll
     ·replace h := Qas hc90 h
      refine wfn hc90 (by kernel_rfl) ?_
      refine Qag ?_
      refine thn ?_
      exact ⟨(), h, (mto (n := 136) [(1, (Qo9 p1)), (2, (Qrn p2)), (3, B p3), (4, (K .u8 (p4))), (5, (K .i8 (p5))), (6, .ref 0 3 0 0)] [0] [(Qhg p0)] hφ0 (pc (.rn (.plain _ (nld Qaa _))) (pc (.rn (.plain _ (nld Qaa _))) (pc rwl (pc rwl (pc rwl (pc (.rn (rqr rfl)) pn)))))) (qc (spb (lc rwl (lc rwl (lc (.rn (.plain _ (nld Qac _))) ln)))) qn))⟩
end Go.Proofs.Ytgdepcgbjjgnfaa
