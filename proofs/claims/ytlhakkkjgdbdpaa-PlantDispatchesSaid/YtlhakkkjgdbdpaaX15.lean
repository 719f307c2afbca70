/-
  Functions of the program: what they compute, as plain functions, and that they do. No conditions.
-/
import Derived.Test.YtlhakkkjgdbdpaaX14
namespace Go.Proofs.Ytlhakkkjgdbdpaa
open Go.RowKit
def Qc5 (N : Nat) (p0 : GJob) (y16 : Int) (y17 : (List (Nat × Nat))) (y18 : (List (List Int))) (y30 : Int) (k37 : (List (List Int)) → Option (List (List Int))) : Nat → Int → (List (List Int)) → Option (List (List Int))
  | 0, _, _ => none
  | n49 + 1, y45, y46 =>
    bif (decide (y45 < (p0.Levels.length : Int))) then
     (Qev N p0 y16 y30 y45).bind fun x52 =>
     bif x52 then
      chk (decide (0 ≤ y16) && decide (y16.toNat < (w64 ((p0.Hours.length : Int) + 1)).toNat)) <|
      ((y17.set y16.toNat (y18.length, (p0.Levels.length : Int).toNat))[y16.toNat]?).bind fun x55 =>
      chk (decide (0 ≤ y16) && decide (y16.toNat < (w64 ((p0.Hours.length : Int) + 1)).toNat)) <|
      ((y17.set y16.toNat (y18.length, (p0.Levels.length : Int).toNat))[y16.toNat]?).bind fun x58 =>
      chk (!(y46.getD x58.1 []).isEmpty) <|
      chk (decide (0 ≤ y30) && decide (y30.toNat < x58.2)) <|
      (getM y46 x58.1 y30.toNat).bind fun x62 =>
      (Qhk N p0 y16 y30 y45).bind fun x65 =>
      chk (decide (0 ≤ w64 (y16 + 1)) && decide ((w64 (y16 + 1)).toNat < (w64 ((p0.Hours.length : Int) + 1)).toNat)) <|
      ((y17.set y16.toNat (y18.length, (p0.Levels.length : Int).toNat))[(w64 (y16 + 1)).toNat]?).bind fun x67 =>
      chk (!(y46.getD x67.1 []).isEmpty) <|
      chk (decide (0 ≤ y45) && decide (y45.toNat < x67.2)) <|
      (getM y46 x67.1 y45.toNat).bind fun x71 =>
      chk (!(y46.getD x55.1 []).isEmpty) <|
      chk (decide (0 ≤ y30) && decide (y30.toNat < x55.2)) <|
      (getM y46 x55.1 y30.toNat).bind fun _ =>
      Qc5 N p0 y16 y17 y18 y30 k37 n49 (w64 (y45 + 1)) (setM y46 x55.1 y30.toNat (if (w64 (x65 + x71)) > x62 then w64 (x65 + x71) else x62))
     else
      Qc5 N p0 y16 y17 y18 y30 k37 n49 (w64 (y45 + 1)) y46
    else
     k37 (y46)
def Qc6 (N : Nat) (p0 : GJob) (y16 : Int) (y17 : (List (Nat × Nat))) (y18 : (List (List Int))) (k25 : (List (List Int)) → Option (List (List Int))) : Nat → Int → (List (List Int)) → Option (List (List Int))
  | 0, _, _ => none
  | n34 + 1, y30, y31 =>
    bif (decide (y30 < (p0.Levels.length : Int))) then
     Qcn (fun y36 =>
       Qc6 N p0 y16 y17 y18 k25 n34 (w64 (y30 + 1)) y36) fun k37 : (List (List Int)) → Option (List (List Int)) =>
     chk (decide (0 ≤ y16) && decide (y16.toNat < (w64 ((p0.Hours.length : Int) + 1)).toNat)) <|
     ((y17.set y16.toNat (y18.length, (p0.Levels.length : Int).toNat))[y16.toNat]?).bind fun x39 =>
     chk (!(y31.getD x39.1 []).isEmpty) <|
     chk (decide (0 ≤ y30) && decide (y30.toNat < x39.2)) <|
     (getM y31 x39.1 y30.toNat).bind fun _ =>
     Qc5 N p0 y16 y17 y18 y30 k37 N 0 (setM y31 x39.1 y30.toNat (-1000000000000))
    else
     k25 (y31)
def Qdq (N : Nat) (p0 : GJob) (k11 : (List (Nat × Nat)) × (List (List Int)) → Option (List (List Int))) : Nat → Int → (List (Nat × Nat)) → (List (List Int)) → Option (List (List Int))
  | 0, _, _, _ => none
  | n22 + 1, y16, y17, y18 =>
    bif (decide (y16 ≥ 0)) then
     Qcn (fun y24 =>
       Qdq N p0 k11 n22 (w64 (y16 - 1)) (y17.set y16.toNat (y18.length, (p0.Levels.length : Int).toNat)) y24) fun k25 : (List (List Int)) → Option (List (List Int)) =>
     chk (decide (0 ≤ (p0.Levels.length : Int)) && decide (8 * (p0.Levels.length : Int) ≤ 281474976710656) && decide ((p0.Levels.length : Int) ≤ 9223372036854775807)) <|
     chk (decide (0 ≤ y16) && decide (y16.toNat < (w64 ((p0.Hours.length : Int) + 1)).toNat)) <|
     (y17[y16.toNat]?).bind fun _ =>
     Qc6 N p0 y16 y17 y18 k25 N 0 (y18 ++ [List.replicate (p0.Levels.length : Int).toNat 0])
    else
     k11 (y17, y18)
def Qhv (N : Nat) (p0 : GJob) : Option (List (List Int)) :=
  chk (decide (0 ≤ w64 ((p0.Hours.length : Int) + 1)) && decide (24 * (w64 ((p0.Hours.length : Int) + 1)) ≤ 281474976710656) && decide (w64 ((p0.Hours.length : Int) + 1) ≤ 9223372036854775807)) <|
  chk (decide (0 ≤ (p0.Levels.length : Int)) && decide (8 * (p0.Levels.length : Int) ≤ 281474976710656) && decide ((p0.Levels.length : Int) ≤ 9223372036854775807)) <|
  chk (decide (0 ≤ (p0.Hours.length : Int)) && decide ((p0.Hours.length : Int).toNat < (w64 ((p0.Hours.length : Int) + 1)).toNat)) <|
  ((List.replicate (w64 ((p0.Hours.length : Int) + 1)).toNat (0, 0))[(p0.Hours.length : Int).toNat]?).bind fun _ =>
  Qcn (fun ⟨y9, y10⟩ =>
    chk (y9.all fun x => decide (x.2 ≤ (y10.getD x.1 []).length)) <|
    chk (decide ((w64 ((p0.Hours.length : Int) + 1)).toNat ≤ ((y9).map fun x => (y10.getD x.1 []).take x.2).length)) <|
    some (((y9).map fun x => (y10.getD x.1 []).take x.2).take ((w64 ((p0.Hours.length : Int) + 1)).toNat))) fun k11 : (List (Nat × Nat)) × (List (List Int)) → Option (List (List Int)) =>
  (some (w64 ((p0.Hours.length : Int) - 1))).bind fun x14 =>
  Qdq N p0 k11 N x14 ((List.replicate (w64 ((p0.Hours.length : Int) + 1)).toNat (0, 0)).set ((p0.Hours.length : Int).toNat) (([] : List (List Int)).length, (p0.Levels.length : Int).toNat)) (([] : List (List Int)) ++ [List.replicate (p0.Levels.length : Int).toNat 0])
def Qyh (p0 : GJob) : AV := .dat 2 ((p0.Hours : List GHour).map Qay)
def Qyg (p0 : GJob) : Slot := .own 1 ((List.replicate (w64 ((p0.Hours.length : Int) + 1)).toNat (0, 0) : List (Nat × Nat)).map (c_mr 2 1))
def z143_5 : Slot := .mat 1 (matA Qab (([] : List (List Int)) : List (List Int)))
def Qpc (p0 : GJob) : AV := .dat 1 ((p0.Levels : List Int).map Qab)
def z143_6 (p0 : GJob) : Slot := .mat 1 (matA Qab (([] : List (List Int)) ++ [List.replicate (p0.Levels.length : Int).toNat 0] : List (List Int)))
def z143_7 (p0 : GJob) : Slot := .own 1 (((List.replicate (w64 ((p0.Hours.length : Int) + 1)).toNat (0, 0)).set ((p0.Hours.length : Int).toNat) (([] : List (List Int)).length, (p0.Levels.length : Int).toNat) : List (Nat × Nat)).map (c_mr 2 1))
def Qnj (y9 : (List (Nat × Nat))) (y10 : (List (List Int))) (p0 : GJob) : AV := .dat 1 ((((y9).map fun x => (y10.getD x.1 []).take x.2).take ((w64 ((p0.Hours.length : Int) + 1)).toNat) : List (List Int)).map Qdx)
def Qhr (p0 : GJob) : Slot := .own 5 [[(Qpc p0), (I (p0.Ramp)), (I (p0.Start)), (I (p0.First)), (Qyh p0)]]
def Qni (y17 : (List (Nat × Nat))) : Slot := .own 1 ((y17 : List (Nat × Nat)).map (c_mr 2 1))
def Qtk (y18 : (List (List Int))) : Slot := .mat 1 (matA Qab (y18 : List (List Int)))
def Qdn (y17 : (List (Nat × Nat))) (y16 : Int) (y18 : (List (List Int))) (p0 : GJob) : Slot := .own 1 ((y17.set y16.toNat (y18.length, (p0.Levels.length : Int).toNat) : List (Nat × Nat)).map (c_mr 2 1))
def Qut (y18 : (List (List Int))) (p0 : GJob) : Slot := .mat 1 (matA Qab (y18 ++ [List.replicate (p0.Levels.length : Int).toNat 0] : List (List Int)))
def Qqb (y31 : (List (List Int))) : Slot := .mat 1 (matA Qab (y31 : List (List Int)))
def Qic (y46 : (List (List Int))) : Slot := .mat 1 (matA Qab (y46 : List (List Int)))
def Quu (p0 : GJob) : AV := .agg [(Qpc p0), (I (p0.Ramp)), (I (p0.Start)), (I (p0.First)), (Qyh p0)]
set_option maxRecDepth 100000 in
set_option maxHeartbeats 4000000 in
theorem Qkl (N : Nat) (p0 : GJob) (r : (List (List Int))) (h : Qhv N p0 = some r) : Spec Try.prog 42 [(.agg (Qhb p0))] [] (.dat 1 ((r : List (List Int)).map Qdx)) [] := by
  refine Qae Try.func42 rfl 0 (nle rfl) (fun X φ0 w0 hφ0 => ?_)
  unfold Qhv at h
  refine Qbr ?_
  refine wx tbk [] trivial ?_
  refine wx tbk [(2, rp [(.tmp 9, (Qyh p0))] (I ((p0.Hours.length : Int))))] ⟨alm (c := Qay) (l := p0.Hours) (aln rfl Try.underlying38 rfl), trivial⟩ ?_
  obtain ⟨hm4, h⟩ := cko h
  refine wx tbk [(2, ⟨[(.tmp 12, (I (w64 ((p0.Hours.length : Int) + 1)))), (.tmp 12, (I (w64 ((p0.Hours.length : Int) + 1))))], [(1, .unused), (2, .unused)], (.own 1 1 (0) ((w64 ((p0.Hours.length : Int) + 1)).toNat)), [(1, (Qyg p0)), (2, z143_5)], false⟩)] ⟨Qm2 1 rfl (Qf6 rfl Try.underlying42 te37 tz37 rfl (Qo8 hm4) rfl (Qo7 hm4) (Qmi hm4) rfl), trivial⟩ ?_
  obtain ⟨hm5, h⟩ := cko h
  obtain ⟨hi6, h⟩ := cko h
  obtain ⟨hi6a, hi6b⟩ := Qaz hi6
  obtain ⟨x7, hg8, h⟩ := bno h
  refine wx tbk [(4, rp [(.tmp 17, (Qpc p0))] (I ((p0.Levels.length : Int)))), (5, ⟨[(.tmp 18, (I ((p0.Levels.length : Int)))), (.tmp 18, (I ((p0.Levels.length : Int))))], [(3, .unused), (2, z143_5)], (.row 2 (([] : List (List Int)).length) 1 (0) ((p0.Levels.length : Int).toNat)), [(3, .dead), (2, (z143_6 p0))], false⟩), (6, rb [(.tmp 14, (.own 1 1 (0) ((w64 ((p0.Hours.length : Int) + 1)).toNat))), (.tmp 15, (I ((p0.Hours.length : Int))))] [(1, (Qyg p0))] (.ref 1 1 ((p0.Hours.length : Int).toNat) 0)), (7, ⟨[(.tmp 20, (.ref 1 1 ((p0.Hours.length : Int).toNat) 0)), (.tmp 19, (.row 2 (([] : List (List Int)).length) 1 (0) ((p0.Levels.length : Int).toNat)))], [(1, (Qyg p0))], .any, [(1, (z143_7 p0))], false⟩)] ⟨alm (c := Qab) (l := p0.Levels) (aln rfl Try.underlying37 rfl), Qii rfl (Qf6 rfl Try.underlying37 te3 tz3 rfl (Qo8 hm5) rfl (Qo7 hm5) (Qmi hm5) (Qmu Qab rfl)), aio rfl Try.underlying42 ti37 (odt hi6a) (odt hi6b) (Nat.zero_add _), ast rfl ti37 (by rfl) (mgt (c_mr 2 1) hg8) (nle rfl) (Qfs (x' := (([] : List (List Int)).length, (p0.Levels.length : Int).toNat)) (c_mr 2 1) rfl), trivial⟩ ?_
  obtain ⟨k11, hk_k11, h⟩ := jko h
  refine wjn (τ := (List (Nat × Nat)) × (List (List Int))) (fun t => k11 t = some r) (fun ⟨y9, y10⟩ => ⟨mk 88 [(4, (.own 0 1 (0) ((w64 ((p0.Hours.length : Int) + 1)).toNat)))], [(.own 1 ((y9 : List (Nat × Nat)).map (c_mr 1 1))), (.mat 1 (matA Qab (y10 : List (List Int))))]⟩) (fun t h => ?_) ?_
  ·subst hk_k11
   obtain ⟨y9, y10⟩ := t
   refine wx tbk [] trivial ?_
   obtain ⟨hz12, h⟩ := cko h
   refine wmr (mor_fzM (q := 0) (a := 1) (m := 1) (c := Qab) (cl := Qdx) (E := y9) (R := y10) (own' := [(.own 1 (((y9).map fun x => (y10.getD x.1 []).take x.2 : List (List Int)).map Qdx)), .dead]) rfl (by kernel_rfl) (by kernel_rfl) (by kernel_rfl) hz12 (fun _ => rfl) (by kernel_rfl)) ?_
   obtain ⟨hz13, h⟩ := cko h
   refine wmr (Qu9 (n := 88) (l' := [(2, (Qnj y9 y10 p0))]) 0 [(2, (.own 0 1 (0) ((w64 ((p0.Hours.length : Int) + 1)).toNat)))] (by kernel_rfl) (by kernel_rfl) (by kernel_rfl) ⟨rfl, (Qoi hz13), trivial⟩ rfl) ?_
   refine wmr (mto (n := 88) (l' := [(2, (Qnj y9 y10 p0))]) (own' := []) [(2, (Qnj y9 y10 p0))] [] [] hφ0 (pc (.rn (.plain _ (nld Qei _))) pn) qn) ?_
   refine Qac ?_
   obtain rfl := osi h
   exact ⟨_, Mor.rfl, Qb9 (vs := [(Qnj y9 y10 p0)]) ⟨rot (by kernel_rfl), trivial⟩ rfl (nld Qei _) (by kernel_rfl) Qbl⟩
  ·skip
   obtain ⟨x14, hl15, h⟩ := bno h
   refine wx tbk [(2, rp [(.tmp 22, (I (w64 ((p0.Hours.length : Int) - 1))))] (I x14))] ⟨Qe8 hl15 (aas rfl), trivial⟩ ?_
   refine Qai ?_
   refine wmr (mto (n := 88) (l' := [(1, .ref 0 5 0 0), (4, (.own 1 1 (0) ((w64 ((p0.Hours.length : Int) + 1)).toNat))), (5, I x14)]) (own' := [(Qhr p0), (.own 1 ((((List.replicate (w64 ((p0.Hours.length : Int) + 1)).toNat (0, 0)).set ((p0.Hours.length : Int).toNat) (([] : List (List Int)).length, (p0.Levels.length : Int).toNat)) : List (Nat × Nat)).map (c_mr 2 1))), (.mat 1 (matA Qab ((([] : List (List Int)) ++ [List.replicate (p0.Levels.length : Int).toNat 0]) : List (List Int))))]) [(1, .ref 0 5 0 0), (4, (.own 1 1 (0) ((w64 ((p0.Hours.length : Int) + 1)).toNat))), (5, I x14)] [0, 1, 2] [(Qhr p0), (z143_7 p0), (z143_6 p0)] hφ0 (pc (.rn (rqr rfl)) (pc (.rn (Qad rfl)) (pc rwl pn))) (qc (spb (lc (.rn (.plain _ (nld Qaa _))) (lc rwl (lc rwl (lc rwl (lc (.rn (.plain _ (nld Qaj _))) ln)))))) (qc (Qa1 rfl) (qc (Qbo Qaa) qn)))) ?_
   refine Qby (τ := Int × (List (Nat × Nat)) × (List (List Int))) (fun n t => Qdq N p0 k11 n t.1 t.2.1 t.2.2 = some r) (fun ⟨y16, y17, y18⟩ => ⟨mk 88 [(1, .ref 0 5 0 0), (4, (.own 1 1 (0) ((w64 ((p0.Hours.length : Int) + 1)).toNat))), (5, I y16)], [(Qhr p0), (Qni y17), (Qtk y18)]⟩) (fun t h => by rw [Qdq] at h; cases h) (fun n22 ih t h => ?_) N (x14, (List.replicate (w64 ((p0.Hours.length : Int) + 1)).toNat (0, 0)).set ((p0.Hours.length : Int).toNat) (([] : List (List Int)).length, (p0.Levels.length : Int).toNat), ([] : List (List Int)) ++ [List.replicate (p0.Levels.length : Int).toNat 0]) h
   obtain ⟨y16, y17, y18⟩ := t
   rw [Qdq] at h
   skip
   refine wsq ?_
   refine wx tbk [] trivial ?_
   rcases bft ((decide (y16 ≥ 0))) with hc23 | hc23
   ·replace h := Qau hc23 h
    refine wft hc23 (by kernel_rfl) ?_
    refine Qal ?_
    refine thn ?_
    obtain ⟨k25, hk_k25, h⟩ := jko h
    refine wjn (τ := (List (List Int))) (fun t => k25 t = some r) (fun y24 => ⟨mk 88 [(1, .ref 0 5 0 0), (4, (.own 1 1 (0) ((w64 ((p0.Hours.length : Int) + 1)).toNat))), (5, I y16)], [(Qhr p0), (Qdn y17 y16 y18 p0), (.mat 1 (matA Qab (y24 : List (List Int))))]⟩) (fun y24 h => ?_) ?_
    ·subst hk_k25
     refine wx1 tbk [] trivial ?_
     refine thn ?_
     exact arm (mto (n := 88) [(1, .ref 0 5 0 0), (4, (.own 1 1 (0) ((w64 ((p0.Hours.length : Int) + 1)).toNat))), (5, (I (w64 (y16 - 1))))] [0, 1, 2] [(Qhr p0), (Qdn y17 y16 y18 p0), (.mat 1 (matA Qab (y24 : List (List Int))))] hφ0 (pc (.rn (rqr rfl)) (pc (.rn (Qad rfl)) (pc rwl pn))) (qc (spb (lc (.rn (.plain _ (nld Qaa _))) (lc rwl (lc rwl (lc rwl (lc (.rn (.plain _ (nld Qaj _))) ln)))))) (qc (Qa1 rfl) (qc (Qbo Qaa) qn)))) (ih (w64 (y16 - 1), y17.set y16.toNat (y18.length, (p0.Levels.length : Int).toNat), y24) h)
    ·skip
     refine Qai ?_
     obtain ⟨hm26, h⟩ := cko h
     obtain ⟨hi27, h⟩ := cko h
     obtain ⟨hi27a, hi27b⟩ := Qaz hi27
     obtain ⟨x28, hg29, h⟩ := bno h
     refine wx tbk [(4, rp [(.tmp 30, (Qpc p0))] (I ((p0.Levels.length : Int)))), (5, ⟨[(.tmp 31, (I ((p0.Levels.length : Int)))), (.tmp 31, (I ((p0.Levels.length : Int))))], [(3, .unused), (2, (Qtk y18))], (.row 2 y18.length 1 (0) ((p0.Levels.length : Int).toNat)), [(3, .dead), (2, (Qut y18 p0))], false⟩), (6, rb [(.tmp 27, (.own 1 1 (0) ((w64 ((p0.Hours.length : Int) + 1)).toNat))), (.tmp 28, I y16)] [(1, (Qni y17))] (.ref 1 1 (y16.toNat) 0)), (7, ⟨[(.tmp 33, (.ref 1 1 (y16.toNat) 0)), (.tmp 32, (.row 2 y18.length 1 (0) ((p0.Levels.length : Int).toNat)))], [(1, (Qni y17))], .any, [(1, (Qdn y17 y16 y18 p0))], false⟩)] ⟨alm (c := Qab) (l := p0.Levels) (aln rfl Try.underlying37 rfl), Qii rfl (Qf6 rfl Try.underlying37 te3 tz3 rfl (Qo8 hm26) rfl (Qo7 hm26) (Qmi hm26) (Qmu Qab rfl)), aio rfl Try.underlying42 ti37 (odt hi27a) (odt hi27b) (Nat.zero_add _), ast rfl ti37 (by rfl) (mgt (c_mr 2 1) hg29) (nle rfl) (Qfs (x' := (y18.length, (p0.Levels.length : Int).toNat)) (c_mr 2 1) rfl), trivial⟩ ?_
     refine wx tbk [] trivial ?_
     refine Qai ?_
     refine wmr (mto (n := 88) (l' := [(1, .ref 0 5 0 0), (4, (.own 1 1 (0) ((w64 ((p0.Hours.length : Int) + 1)).toNat))), (5, I y16), (6, I 0)]) (own' := [(Qhr p0), (Qdn y17 y16 y18 p0), (.mat 1 (matA Qab ((y18 ++ [List.replicate (p0.Levels.length : Int).toNat 0]) : List (List Int))))]) [(1, .ref 0 5 0 0), (4, (.own 1 1 (0) ((w64 ((p0.Hours.length : Int) + 1)).toNat))), (5, I y16), (6, I 0)] [0, 1, 2] [(Qhr p0), (Qdn y17 y16 y18 p0), (Qut y18 p0)] hφ0 (pc (.rn (rqr rfl)) (pc (.rn (Qad rfl)) (pc rwl (pc rwl pn)))) (qc (spb (lc (.rn (.plain _ (nld Qaa _))) (lc rwl (lc rwl (lc rwl (lc (.rn (.plain _ (nld Qaj _))) ln)))))) (qc (Qa1 rfl) (qc (Qbo Qaa) qn)))) ?_
     refine Qby (τ := Int × (List (List Int))) (fun n t => Qc6 N p0 y16 y17 y18 k25 n t.1 t.2 = some r) (fun ⟨y30, y31⟩ => ⟨mk 88 [(1, .ref 0 5 0 0), (4, (.own 1 1 (0) ((w64 ((p0.Hours.length : Int) + 1)).toNat))), (5, I y16), (6, I y30)], [(Qhr p0), (Qdn y17 y16 y18 p0), (Qqb y31)]⟩) (fun t h => by rw [Qc6] at h; cases h) (fun n34 ih t h => ?_) N (0, y18 ++ [List.replicate (p0.Levels.length : Int).toNat 0]) h
     obtain ⟨y30, y31⟩ := t
     rw [Qc6] at h
     skip
     refine wsq ?_
     refine wx tbk [(3, rp [(.tmp 36, (Qpc p0))] (I ((p0.Levels.length : Int))))] ⟨alm (c := Qab) (l := p0.Levels) (aln rfl Try.underlying37 rfl), trivial⟩ ?_
     rcases bft ((decide (y30 < (p0.Levels.length : Int)))) with hc35 | hc35
     ·replace h := Qau hc35 h
      refine wft hc35 (by kernel_rfl) ?_
      refine Qal ?_
      refine thn ?_
      obtain ⟨k37, hk_k37, h⟩ := jko h
      refine wjn (τ := (List (List Int))) (fun t => k37 t = some r) (fun y36 => ⟨mk 88 [(1, .ref 0 5 0 0), (4, (.own 1 1 (0) ((w64 ((p0.Hours.length : Int) + 1)).toNat))), (5, I y16), (6, I y30)], [(Qhr p0), (Qdn y17 y16 y18 p0), (.mat 1 (matA Qab (y36 : List (List Int))))]⟩) (fun y36 h => ?_) ?_
      ·subst hk_k37
       refine wx1 tbk [] trivial ?_
       refine thn ?_
       exact arm (mto (n := 88) [(1, .ref 0 5 0 0), (4, (.own 1 1 (0) ((w64 ((p0.Hours.length : Int) + 1)).toNat))), (5, I y16), (6, (I (w64 (y30 + 1))))] [0, 1, 2] [(Qhr p0), (Qdn y17 y16 y18 p0), (.mat 1 (matA Qab (y36 : List (List Int))))] hφ0 (pc (.rn (rqr rfl)) (pc (.rn (Qad rfl)) (pc rwl (pc rwl pn)))) (qc (spb (lc (.rn (.plain _ (nld Qaa _))) (lc rwl (lc rwl (lc rwl (lc (.rn (.plain _ (nld Qaj _))) ln)))))) (qc (Qa1 rfl) (qc (Qbo Qaa) qn)))) (ih (w64 (y30 + 1), y36) h)
      ·skip
       refine Qai ?_
       obtain ⟨hi38, h⟩ := cko h
       obtain ⟨hi38a, hi38b⟩ := Qaz hi38
       obtain ⟨x39, hg40, h⟩ := bno h
       obtain ⟨hz42, h⟩ := cko h
       obtain ⟨hi41, h⟩ := cko h
       obtain ⟨hi41a, hi41b⟩ := Qaz hi41
       obtain ⟨x43, hg44, h⟩ := bno h
       refine wx tbk [(2, rb [(.tmp 41, (.own 1 1 (0) ((w64 ((p0.Hours.length : Int) + 1)).toNat))), (.tmp 42, I y16)] [(1, (Qdn y17 y16 y18 p0))] (.ref 1 1 (y16.toNat) 0)), (3, rb [(.tmp 43, (.ref 1 1 (y16.toNat) 0))] [(1, (Qdn y17 y16 y18 p0))] (.row 2 x39.1 1 (0) (x39.2))), (5, rb [(.tmp 44, (.row 2 x39.1 1 (0) (x39.2))), (.tmp 45, I y30)] [(2, (Qqb y31))] (.rowp 2 x39.1 1 (y30.toNat) 0)), (6, ⟨[(.tmp 46, (.rowp 2 x39.1 1 (y30.toNat) 0)), ci (-1000000000000)], [(2, (Qqb y31))], .any, [(2, (.mat 1 (matA Qab (setM y31 x39.1 y30.toNat (-1000000000000) : List (List Int)))))], false⟩)] ⟨aio rfl Try.underlying42 ti37 (odt hi38a) (odt hi38b) (Nat.zero_add _), ald rfl ti37 (by decide) (mgt (c_mr 2 1) hg40) (nle rfl) rfl, Qcd rfl Try.underlying37 ti3 (odt hi41a) (odt hi41b) hz42 (Nat.zero_add _), Qfx (u' := (-1000000000000)) rfl ti3 (by rfl) hg44 (nle rfl) rfl, trivial⟩ ?_
       refine wx tbk [] trivial ?_
       refine Qai ?_
       refine wmr (mto (n := 88) (l' := [(1, .ref 0 5 0 0), (4, (.own 1 1 (0) ((w64 ((p0.Hours.length : Int) + 1)).toNat))), (5, I y16), (6, I y30), (7, I 0)]) (own' := [(Qhr p0), (Qdn y17 y16 y18 p0), (.mat 1 (matA Qab ((setM y31 x39.1 y30.toNat (-1000000000000)) : List (List Int))))]) [(1, .ref 0 5 0 0), (4, (.own 1 1 (0) ((w64 ((p0.Hours.length : Int) + 1)).toNat))), (5, I y16), (6, I y30), (7, I 0)] [0, 1, 2] [(Qhr p0), (Qdn y17 y16 y18 p0), (.mat 1 (matA Qab (setM y31 x39.1 y30.toNat (-1000000000000) : List (List Int))))] hφ0 (pc (.rn (rqr rfl)) (pc (.rn (Qad rfl)) (pc rwl (pc rwl (pc rwl pn))))) (qc (spb (lc (.rn (.plain _ (nld Qaa _))) (lc rwl (lc rwl (lc rwl (lc (.rn (.plain _ (nld Qaj _))) ln)))))) (qc (Qa1 rfl) (qc (Qbo Qaa) qn)))) ?_
       refine Qby (τ := Int × (List (List Int))) (fun n t => Qc5 N p0 y16 y17 y18 y30 k37 n t.1 t.2 = some r) (fun ⟨y45, y46⟩ => ⟨mk 88 [(1, .ref 0 5 0 0), (4, (.own 1 1 (0) ((w64 ((p0.Hours.length : Int) + 1)).toNat))), (5, I y16), (6, I y30), (7, I y45)], [(Qhr p0), (Qdn y17 y16 y18 p0), (Qic y46)]⟩) (fun t h => by rw [Qc5] at h; cases h) (fun n49 ih t h => ?_) N (0, setM y31 x39.1 y30.toNat (-1000000000000)) h
       obtain ⟨y45, y46⟩ := t
       rw [Qc5] at h
       skip
       refine wsq ?_
       refine wx tbk [(3, rp [(.tmp 49, (Qpc p0))] (I ((p0.Levels.length : Int))))] ⟨alm (c := Qab) (l := p0.Levels) (aln rfl Try.underlying37 rfl), trivial⟩ ?_
       rcases bft ((decide (y45 < (p0.Levels.length : Int)))) with hc50 | hc50
       ·replace h := Qau hc50 h
        refine wft hc50 (by kernel_rfl) ?_
        refine Qal ?_
        refine thn ?_
        refine wsq ?_
        refine Qai ?_
        obtain ⟨x52, hf51, h⟩ := bno h
        refine wx tbk [(4, rp [fu 77, (.tmp 54, (Quu p0)), (.tmp 55, I y16), (.tmp 56, I y30), (.tmp 57, I y45)] (B x52))] ⟨apc (first := []) (cap := []) (vs := [(Quu p0), I y16, I y30, I y45]) rfl Qty (Qhl N p0 y16 y30 y45 _ hf51) rfl rfl (nlc (NLt.agg _ (nlc (nld Qaa _) (nlc nll (nlc nll (nlc nll (nlc (nld Qaj _) nl0)))))) (nlc nll (nlc nll (nlc nll nl0)))) nll rfl, trivial⟩ ?_
        rcases bft (x52) with hc53 | hc53
        ·replace h := Qau hc53 h
         refine wft hc53 (by kernel_rfl) ?_
         obtain ⟨hi54, h⟩ := cko h
         obtain ⟨hi54a, hi54b⟩ := Qaz hi54
         obtain ⟨x55, hg56, h⟩ := bno h
         obtain ⟨hi57, h⟩ := cko h
         obtain ⟨hi57a, hi57b⟩ := Qaz hi57
         obtain ⟨x58, hg59, h⟩ := bno h
         obtain ⟨hz61, h⟩ := cko h
         obtain ⟨hi60, h⟩ := cko h
         obtain ⟨hi60a, hi60b⟩ := Qaz hi60
         obtain ⟨x62, hg63, h⟩ := bno h
         obtain ⟨x65, hf64, h⟩ := bno h
         obtain ⟨hi66, h⟩ := cko h
         obtain ⟨hi66a, hi66b⟩ := Qaz hi66
         obtain ⟨x67, hg68, h⟩ := bno h
         obtain ⟨hz70, h⟩ := cko h
         obtain ⟨hi69, h⟩ := cko h
         obtain ⟨hi69a, hi69b⟩ := Qaz hi69
         obtain ⟨x71, hg72, h⟩ := bno h
         obtain ⟨hz74, h⟩ := cko h
         obtain ⟨hi73, h⟩ := cko h
         obtain ⟨hi73a, hi73b⟩ := Qaz hi73
         obtain ⟨x75, hg76, h⟩ := bno h
         refine wy1 tbk [(2, rb [(.tmp 59, (.own 1 1 (0) ((w64 ((p0.Hours.length : Int) + 1)).toNat))), (.tmp 60, I y16)] [(1, (Qdn y17 y16 y18 p0))] (.ref 1 1 (y16.toNat) 0)), (3, rb [(.tmp 61, (.ref 1 1 (y16.toNat) 0))] [(1, (Qdn y17 y16 y18 p0))] (.row 2 x55.1 1 (0) (x55.2))), (7, rb [(.tmp 64, (.own 1 1 (0) ((w64 ((p0.Hours.length : Int) + 1)).toNat))), (.tmp 65, I y16)] [(1, (Qdn y17 y16 y18 p0))] (.ref 1 1 (y16.toNat) 0)), (8, rb [(.tmp 66, (.ref 1 1 (y16.toNat) 0))] [(1, (Qdn y17 y16 y18 p0))] (.row 2 x58.1 1 (0) (x58.2))), (10, rb [(.tmp 67, (.row 2 x58.1 1 (0) (x58.2))), (.tmp 68, I y30)] [(2, (Qic y46))] (.rowp 2 x58.1 1 (y30.toNat) 0)), (11, rb [(.tmp 69, (.rowp 2 x58.1 1 (y30.toNat) 0))] [(2, (Qic y46))] (I x62)), (16, rp [fu 78, (.tmp 71, (Quu p0)), (.tmp 72, I y16), (.tmp 73, I y30), (.tmp 74, I y45)] (I x65)), (20, rb [(.tmp 76, (.own 1 1 (0) ((w64 ((p0.Hours.length : Int) + 1)).toNat))), (.tmp 78, (I (w64 (y16 + 1))))] [(1, (Qdn y17 y16 y18 p0))] (.ref 1 1 ((w64 (y16 + 1)).toNat) 0)), (21, rb [(.tmp 79, (.ref 1 1 ((w64 (y16 + 1)).toNat) 0))] [(1, (Qdn y17 y16 y18 p0))] (.row 2 x67.1 1 (0) (x67.2))), (23, rb [(.tmp 80, (.row 2 x67.1 1 (0) (x67.2))), (.tmp 81, I y45)] [(2, (Qic y46))] (.rowp 2 x67.1 1 (y45.toNat) 0)), (24, rb [(.tmp 82, (.rowp 2 x67.1 1 (y45.toNat) 0))] [(2, (Qic y46))] (I x71)), (26, rp [(.tmp 70, I x62), (.tmp 84, (I (w64 (x65 + x71))))] (I ((if (w64 (x65 + x71)) > x62 then w64 (x65 + x71) else x62)))), (27, rb [(.tmp 62, (.row 2 x55.1 1 (0) (x55.2))), (.tmp 63, I y30)] [(2, (Qic y46))] (.rowp 2 x55.1 1 (y30.toNat) 0)), (28, ⟨[(.tmp 86, (.rowp 2 x55.1 1 (y30.toNat) 0)), (.tmp 85, (I ((if (w64 (x65 + x71)) > x62 then w64 (x65 + x71) else x62))))], [(2, (Qic y46))], .any, [(2, (.mat 1 (matA Qab (setM y46 x55.1 y30.toNat (if (w64 (x65 + x71)) > x62 then w64 (x65 + x71) else x62) : List (List Int)))))], false⟩)] ⟨aio rfl Try.underlying42 ti37 (odt hi54a) (odt hi54b) (Nat.zero_add _), ald rfl ti37 (by decide) (mgt (c_mr 2 1) hg56) (nle rfl) rfl, aio rfl Try.underlying42 ti37 (odt hi57a) (odt hi57b) (Nat.zero_add _), ald rfl ti37 (by decide) (mgt (c_mr 2 1) hg59) (nle rfl) rfl, Qcd rfl Try.underlying37 ti3 (odt hi60a) (odt hi60b) hz61 (Nat.zero_add _), Qdv rfl ti3 (by decide) hg63 (nle rfl) rfl, apc (first := []) (cap := []) (vs := [(Quu p0), I y16, I y30, I y45]) rfl enter78 (Qll N p0 y16 y30 y45 _ hf64) rfl rfl (nlc (NLt.agg _ (nlc (nld Qaa _) (nlc nll (nlc nll (nlc nll (nlc (nld Qaj _) nl0)))))) (nlc nll (nlc nll (nlc nll nl0)))) nll rfl, aio rfl Try.underlying42 ti37 (odt hi66a) (odt hi66b) (Nat.zero_add _), ald rfl ti37 (by decide) (mgt (c_mr 2 1) hg68) (nle rfl) rfl, Qcd rfl Try.underlying37 ti3 (odt hi69a) (odt hi69b) hz70 (Nat.zero_add _), Qdv rfl ti3 (by decide) hg72 (nle rfl) rfl, Qmf rfl, Qcd rfl Try.underlying37 ti3 (odt hi73a) (odt hi73b) hz74 (Nat.zero_add _), Qfx (u' := (if (w64 (x65 + x71)) > x62 then w64 (x65 + x71) else x62)) rfl ti3 (by rfl) hg76 (nle rfl) rfl, trivial⟩ ?_
         refine bln ?_
         refine thn ?_
         refine wx1 tbk [] trivial ?_
         refine thn ?_
         exact arm (mto (n := 88) [(1, .ref 0 5 0 0), (4, (.own 1 1 (0) ((w64 ((p0.Hours.length : Int) + 1)).toNat))), (5, I y16), (6, I y30), (7, (I (w64 (y45 + 1))))] [0, 1, 2] [(Qhr p0), (Qdn y17 y16 y18 p0), (.mat 1 (matA Qab (setM y46 x55.1 y30.toNat (if (w64 (x65 + x71)) > x62 then w64 (x65 + x71) else x62) : List (List Int))))] hφ0 (pc (.rn (rqr rfl)) (pc (.rn (Qad rfl)) (pc rwl (pc rwl (pc rwl pn))))) (qc (spb (lc (.rn (.plain _ (nld Qaa _))) (lc rwl (lc rwl (lc rwl (lc (.rn (.plain _ (nld Qaj _))) ln)))))) (qc (Qa1 rfl) (qc (Qbo Qaa) qn)))) (ih (w64 (y45 + 1), setM y46 x55.1 y30.toNat (if (w64 (x65 + x71)) > x62 then w64 (x65 + x71) else x62)) h)
        ·replace h := Qav hc53 h
         refine wfn hc53 (by kernel_rfl) ?_
         refine Qal ?_
         refine bln ?_
         refine thn ?_
         refine wx1 tbk [] trivial ?_
         refine thn ?_
         exact arm (mto (n := 88) [(1, .ref 0 5 0 0), (4, (.own 1 1 (0) ((w64 ((p0.Hours.length : Int) + 1)).toNat))), (5, I y16), (6, I y30), (7, (I (w64 (y45 + 1))))] [0, 1, 2] [(Qhr p0), (Qdn y17 y16 y18 p0), (Qic y46)] hφ0 (pc (.rn (rqr rfl)) (pc (.rn (Qad rfl)) (pc rwl (pc rwl (pc rwl pn))))) (qc (spb (lc (.rn (.plain _ (nld Qaa _))) (lc rwl (lc rwl (lc rwl (lc (.rn (.plain _ (nld Qaj _))) ln)))))) (qc (Qa1 rfl) (qc (Qbo Qaa) qn)))) (ih (w64 (y45 + 1), y46) h)
       ·replace h := Qav hc50 h
        refine wfn hc50 (by kernel_rfl) ?_
        refine Qbd ?_
        refine Qas ?_
        refine Qas ?_
        refine Qbc rfl ?_
        refine bln ?_
        refine thn ?_
        exact ⟨(y46), h, (mto (n := 88) [(1, .ref 0 5 0 0), (4, (.own 1 1 (0) ((w64 ((p0.Hours.length : Int) + 1)).toNat))), (5, I y16), (6, I y30)] [0, 1, 2] [(Qhr p0), (Qdn y17 y16 y18 p0), (Qic y46)] hφ0 (pc (.rn (rqr rfl)) (pc (.rn (Qad rfl)) (pc rwl (pc rwl pn)))) (qc (spb (lc (.rn (.plain _ (nld Qaa _))) (lc rwl (lc rwl (lc rwl (lc (.rn (.plain _ (nld Qaj _))) ln)))))) (qc (Qa1 rfl) (qc (Qbo Qaa) qn))))⟩
     ·replace h := Qav hc35 h
      refine wfn hc35 (by kernel_rfl) ?_
      refine Qbd ?_
      refine Qas ?_
      refine Qas ?_
      refine Qbc rfl ?_
      refine bln ?_
      refine thn ?_
      exact ⟨(y31), h, (mto (n := 88) [(1, .ref 0 5 0 0), (4, (.own 1 1 (0) ((w64 ((p0.Hours.length : Int) + 1)).toNat))), (5, I y16)] [0, 1, 2] [(Qhr p0), (Qdn y17 y16 y18 p0), (Qqb y31)] hφ0 (pc (.rn (rqr rfl)) (pc (.rn (Qad rfl)) (pc rwl pn))) (qc (spb (lc (.rn (.plain _ (nld Qaa _))) (lc rwl (lc rwl (lc rwl (lc (.rn (.plain _ (nld Qaj _))) ln)))))) (qc (Qa1 rfl) (qc (Qbo Qaa) qn))))⟩
   ·replace h := Qav hc23 h
    refine wfn hc23 (by kernel_rfl) ?_
    refine Qbd ?_
    refine Qas ?_
    refine Qas ?_
    refine Qbc rfl ?_
    refine thn ?_
    exact ⟨(y17, y18), h, (mto (n := 88) [(4, (.own 1 1 (0) ((w64 ((p0.Hours.length : Int) + 1)).toNat)))] [1, 2] [(Qni y17), (Qtk y18)] hφ0 (pc (.rn (Qad rfl)) pn) (qc (Qa1 rfl) (qc (Qbo Qaa) qn)))⟩
def Qdd (N : Nat) (p0 : (List (List Int))) (p1 : (List (List Int))) (k2 : Unit → Option Bool) : Nat → Int → Option Bool
  | 0, _ => none
  | n5 + 1, y3 =>
    bif (decide (y3 < (p0.length : Int))) then
     (getI p0 y3).bind fun x7 =>
     (getI p1 y3).bind fun x11 =>
     (Qgn N x7 x11).bind fun x16 =>
     bif (!x16) then
      some false
     else
      Qdd N p0 p1 k2 n5 (w64 (y3 + 1))
    else
     k2 ()
def Qg8 (N : Nat) (p0 : (List (List Int))) (p1 : (List (List Int))) : Option Bool :=
  bif ((p0.length : Int) != (p1.length : Int)) then
   some false
  else
   Qcn (fun _ =>
     some true) fun k2 : Unit → Option Bool =>
   Qdd N p0 p1 k2 N 0
def Qnu (p0 : (List (List Int))) : AV := .dat 1 ((p0 : List (List Int)).map Qdx)
def Qpb (p1 : (List (List Int))) : AV := .dat 1 ((p1 : List (List Int)).map Qdx)
set_option maxRecDepth 100000 in
set_option maxHeartbeats 4000000 in
theorem Qj5 (N : Nat) (p0 : (List (List Int))) (p1 : (List (List Int))) (r : Bool) (h : Qg8 N p0 p1 = some r) : Spec Try.prog 41 [(.dat 1 (p0.map Qdx)), (.dat 1 (p1.map Qdx))] [] (B r) [] := by
  refine Qae Try.func41 rfl 0 (nle rfl) (fun X φ0 w0 hφ0 => ?_)
  unfold Qg8 at h
  refine wx tbk [] trivial ?_
  refine wsq ?_
  refine wx tbk [(1, rp [(.tmp 6, (Qnu p0))] (I ((p0.length : Int)))), (3, rp [(.tmp 8, (Qpb p1))] (I ((p1.length : Int))))] ⟨alm (c := Qdx) (l := p0) (aln rfl Try.underlying42 rfl), alm (c := Qdx) (l := p1) (aln rfl Try.underlying42 rfl), trivial⟩ ?_
  rcases bft (((p0.length : Int) != (p1.length : Int))) with hc1 | hc1
  ·replace h := Qau hc1 h
   refine wft hc1 (by kernel_rfl) ?_
   refine wx tbk [] trivial ?_
   refine Qac ?_
   refine Qar ?_
   obtain rfl := osi h
   exact fend ⟨[B false], ⟨rot (by kernel_rfl), trivial⟩, rfl⟩ nll
  ·replace h := Qav hc1 h
   refine wfn hc1 (by kernel_rfl) ?_
   refine Qal ?_
   refine thn ?_
   obtain ⟨k2, hk_k2, h⟩ := jko h
   refine wjn (τ := Unit) (fun t => k2 t = some r) (fun _ => ⟨mk 27 [], []⟩) (fun t h => ?_) ?_
   ·subst hk_k2
    refine wx tbk [] trivial ?_
    refine Qac ?_
    obtain rfl := osi h
    exact fend ⟨[B true], ⟨rot (by kernel_rfl), trivial⟩, rfl⟩ nll
   ·skip
    refine wx tbk [] trivial ?_
    refine Qai ?_
    refine wmr (mto (n := 27) (l' := [(0, (Qnu p0)), (1, (Qpb p1)), (5, I 0)]) (own' := []) [(0, (Qnu p0)), (1, (Qpb p1)), (5, I 0)] [] [] hφ0 (pc (.rn (.plain _ (nld Qei _))) (pc (.rn (.plain _ (nld Qei _))) (pc rwl pn))) qn) ?_
    refine Qby (τ := Int) (fun n t => Qdd N p0 p1 k2 n t = some r) (fun y3 => ⟨mk 27 [(0, (Qnu p0)), (1, (Qpb p1)), (5, I y3)], []⟩) (fun t h => by rw [Qdd] at h; cases h) (fun n5 ih y3 h => ?_) N (0) h
    rw [Qdd] at h
    skip
    refine wsq ?_
    refine wx tbk [(2, rp [(.tmp 12, (Qnu p0))] (I ((p0.length : Int))))] ⟨alm (c := Qdx) (l := p0) (aln rfl Try.underlying42 rfl), trivial⟩ ?_
    rcases bft ((decide (y3 < (p0.length : Int)))) with hc6 | hc6
    ·replace h := Qau hc6 h
     refine wft hc6 (by kernel_rfl) ?_
     refine Qal ?_
     refine thn ?_
     refine wsq ?_
     refine Qai ?_
     obtain ⟨x7, hg8, h⟩ := bno h
     obtain ⟨hi9, hj10⟩ := gsm hg8
     obtain ⟨x11, hg12, h⟩ := bno h
     obtain ⟨hi13, hj14⟩ := gsm hg12
     obtain ⟨x16, hf15, h⟩ := bno h
     refine wxd tbk [(2, rp [(.tmp 17, (Qnu p0)), (.tmp 18, I y3)] (.dptr (Qdx (x7)) 0)), (6, rp [(.tmp 21, (Qpb p1)), (.tmp 22, I y3)] (.dptr (Qdx (x11)) 0)), (8, rp [fu 40, (.tmp 20, (.dat 1 ((x7 : List Int).map Qab))), (.tmp 24, (.dat 1 ((x11 : List Int).map Qab)))] (B x16))] ⟨aid rfl Try.underlying42 ti37 rfl rfl hi9 (mgt Qdx hj10) rfl, aid rfl Try.underlying42 ti37 rfl rfl hi13 (mgt Qdx hj14) rfl, apc (first := []) (cap := []) (vs := [(.dat 1 ((x7 : List Int).map Qab)), (.dat 1 ((x11 : List Int).map Qab))]) rfl Qlx (Qez N x7 x11 _ hf15) rfl rfl (nlc (nld Qaa _) (nlc (nld Qaa _) nl0)) nll rfl, trivial⟩ ?_
     rcases bft ((!x16)) with hc17 | hc17
     ·replace h := Qau hc17 h
      refine wft hc17 (by kernel_rfl) ?_
      refine wx tbk [] trivial ?_
      refine Qac ?_
      refine Qbv ?_
      refine Qar ?_
      refine Qar ?_
      refine Qbv ?_
      refine Qar ?_
      obtain rfl := osi h
      exact fend ⟨[B false], ⟨rot (by kernel_rfl), trivial⟩, rfl⟩ nll
     ·replace h := Qav hc17 h
      refine wfn hc17 (by kernel_rfl) ?_
      refine Qal ?_
      refine bln ?_
      refine thn ?_
      refine wx1 tbk [] trivial ?_
      refine thn ?_
      exact arm (mto (n := 27) [(0, (Qnu p0)), (1, (Qpb p1)), (5, (I (w64 (y3 + 1))))] [] [] hφ0 (pc (.rn (.plain _ (nld Qei _))) (pc (.rn (.plain _ (nld Qei _))) (pc rwl pn))) qn) (ih (w64 (y3 + 1)) h)
    ·replace h := Qav hc6 h
     refine wfn hc6 (by kernel_rfl) ?_
     refine Qbd ?_
     refine Qas ?_
     refine Qas ?_
     refine Qbc rfl ?_
     refine thn ?_
     exact ⟨(), h, (mto (n := 27) [] [] [] hφ0 pn qn)⟩
def Qeh (N : Nat) (p0 : GJob) (p1 : (List Int)) : Option Bool :=
  Qcn (fun _ =>
    (Qik N p0).bind fun x3 =>
    (Qhm N p1).bind fun x5 =>
    (Qg5 N x3 x5).bind fun x7 =>
    (Qik N p0).bind fun x9 =>
    (Qdz N x9).bind fun x11 =>
    (Qe6 N p0).bind fun x13 =>
    bif (!x13) then
     bif (x7.2 == 1) then
      bif (x11.2.2.2 == 1) then
       bif (x7.1 == 0) then
        bif ((w64 ((x11.1.length : Int) + (x11.2.2.1.length : Int))) == 0) then
         bif (x11.2.1 == 0) then
          (Qfc 2000 ).bind fun x21 =>
          some x21
         else
          some false
        else
         some false
       else
        some false
      else
       some false
     else
      some false
    else
     Qcn (fun _ =>
       (Qit N p0).bind fun x24 =>
       bif ((x24.1.length : Int) == 0) then
        bif (x11.2.2.2 == 7) then
         bif ((w64 ((x11.1.length : Int) + (x11.2.2.1.length : Int))) == 0) then
          bif (x11.2.1 == 0) then
           (Qfc 2000 ).bind fun x30 =>
           some x30
          else
           some false
         else
          some false
        else
         some false
       else
        bif (x11.2.2.2 == 0) then
         (Qgn N x11.1 x24.1).bind fun x33 =>
         bif x33 then
          bif (x11.2.1 == x24.2) then
           (Qhv N p0).bind fun x37 =>
           (Qg8 N x11.2.2.1 x37).bind fun x39 =>
           bif x39 then
            (Qfc 2000 ).bind fun x42 =>
            some x42
           else
            some false
          else
           some false
         else
          some false
        else
         some false) fun k22 : Unit → Option Bool =>
     (Qf2 N p0 p1).bind fun x44 =>
     bif x44.2 then
      bif (x7.2 != 0) then
       some false
      else
       bif (x7.1 != x44.1) then
        some false
       else
        bif (!x44.2) then
         bif (x7.2 != 1) then
          some false
         else
          bif (x7.1 != 0) then
           some false
          else
           k22 ()
        else
         k22 ()
     else
      bif (!x44.2) then
       bif (x7.2 != 1) then
        some false
       else
        bif (x7.1 != 0) then
         some false
        else
         k22 ()
      else
       k22 ()) fun k1 : Unit → Option Bool =>
  (Qh0 N p0).bind fun x55 =>
  bif (!x55) then
   (Qfc 2000 ).bind fun x58 =>
   some x58
  else
   bif (decide ((p1.length : Int) > 10)) then
    (Qfc 2000 ).bind fun x61 =>
    some x61
   else
    k1 ()
def Qns (p1 : (List Int)) : AV := .dat 1 ((p1 : List Int).map Qab)
def Qnt (p0 : GJob) : Slot := .own 5 [[(.dat 1 ((p0.Levels : List Int).map Qab)), (I (p0.Ramp)), (I (p0.Start)), (I (p0.First)), (.dat 2 ((p0.Hours : List GHour).map Qay))]]
def Qhf (p0 : GJob) : AV := .agg [(.dat 1 ((p0.Levels : List Int).map Qab)), (I (p0.Ramp)), (I (p0.Start)), (I (p0.First)), (.dat 2 ((p0.Hours : List GHour).map Qay))]
def Qyf (x3 : GJob) : AV := .agg [(.dat 1 ((x3.Levels : List Int).map Qab)), (I (x3.Ramp)), (I (x3.Start)), (I (x3.First)), (.dat 2 ((x3.Hours : List GHour).map Qay))]
def Qye (x5 : (List Int)) : AV := .dat 1 ((x5 : List Int).map Qab)
def Qtj (x9 : GJob) : AV := .agg [(.dat 1 ((x9.Levels : List Int).map Qab)), (I (x9.Ramp)), (I (x9.Start)), (I (x9.First)), (.dat 2 ((x9.Hours : List GHour).map Qay))]
def Qe4 (x11 : ((List Int) × Int × (List (List Int)) × Int)) : AV := .dat 1 ((x11.1 : List Int).map Qab)
def Qf9 (x11 : ((List Int) × Int × (List (List Int)) × Int)) : AV := .dat 1 ((x11.2.2.1 : List (List Int)).map Qdx)
def Qi8 (x24 : ((List Int) × Int)) : AV := .dat 1 ((x24.1 : List Int).map Qab)
def Qmr (x37 : (List (List Int))) : AV := .dat 1 ((x37 : List (List Int)).map Qdx)
set_option maxRecDepth 100000 in
set_option maxHeartbeats 4000000 in
theorem Qjc (N : Nat) (p0 : GJob) (p1 : (List Int)) (r : Bool) (h : Qeh N p0 p1 = some r) : Spec Try.prog 7 [(.agg (Qhb p0)), (.dat 1 (p1.map Qab))] [] (B r) [] := by
  refine Qae Try.func7 rfl 0 (nle rfl) (fun X φ0 w0 hφ0 => ?_)
  unfold Qeh at h
  refine wx tbk [] trivial ?_
  obtain ⟨k1, hk_k1, h⟩ := jko h
  refine wjn (τ := Unit) (fun t => k1 t = some r) (fun _ => ⟨mk 142 [(1, (Qns p1)), (2, .ref 0 5 0 0)], [(Qnt p0)]⟩) (fun t h => ?_) ?_
  ·subst hk_k1
   obtain ⟨x3, hf2, h⟩ := bno h
   obtain ⟨x5, hf4, h⟩ := bno h
   obtain ⟨x7, hf6, h⟩ := bno h
   refine wx tbk [(1, rp [fu 22, (.tmp 25, (Qhf p0))] (Qyf x3)), (3, rp [fu 37, (.tmp 27, (Qns p1))] (Qye x5)), (4, rp [fu 36, (.tmp 26, (Qyf x3)), (.tmp 28, (Qye x5))] (.tup [I x7.1, I x7.2]))] ⟨apc (first := []) (cap := []) (vs := [(Qhf p0)]) rfl enter22 (Qmb N p0 _ hf2) rfl rfl (nlc (NLt.agg _ (nlc (nld Qaa _) (nlc nll (nlc nll (nlc nll (nlc (nld Qaj _) nl0)))))) nl0) (NLt.agg _ (nlc (nld Qaa _) (nlc nll (nlc nll (nlc nll (nlc (nld Qaj _) nl0)))))) rfl, apc (first := []) (cap := []) (vs := [(Qns p1)]) rfl enter37 (Qlm N p1 _ hf4) rfl rfl (nlc (nld Qaa _) nl0) (nld Qaa _) rfl, apc (first := []) (cap := []) (vs := [(Qyf x3), (Qye x5)]) rfl enter36 (Qng N x3 x5 _ hf6) rfl rfl (nlc (NLt.agg _ (nlc (nld Qaa _) (nlc nll (nlc nll (nlc nll (nlc (nld Qaj _) nl0)))))) (nlc (nld Qaa _) nl0)) (NLt.tup _ (nlc nll (nlc nll nl0))) rfl, trivial⟩ ?_
   obtain ⟨x9, hf8, h⟩ := bno h
   obtain ⟨x11, hf10, h⟩ := bno h
   refine wx tbk [(1, rp [fu 22, (.tmp 33, (Qhf p0))] (Qtj x9)), (2, rp [fu 21, (.tmp 34, (Qtj x9))] (.tup [(Qe4 x11), I x11.2.1, (Qf9 x11), I x11.2.2.2]))] ⟨apc (first := []) (cap := []) (vs := [(Qhf p0)]) rfl enter22 (Qmb N p0 _ hf8) rfl rfl (nlc (NLt.agg _ (nlc (nld Qaa _) (nlc nll (nlc nll (nlc nll (nlc (nld Qaj _) nl0)))))) nl0) (NLt.agg _ (nlc (nld Qaa _) (nlc nll (nlc nll (nlc nll (nlc (nld Qaj _) nl0)))))) rfl, apc (first := []) (cap := []) (vs := [(Qtj x9)]) rfl enter21 (Qi3 N x9 _ hf10) rfl rfl (nlc (NLt.agg _ (nlc (nld Qaa _) (nlc nll (nlc nll (nlc nll (nlc (nld Qaj _) nl0)))))) nl0) (NLt.tup _ (nlc (nld Qaa _) (nlc nll (nlc (nld Qei _) (nlc nll nl0))))) rfl, trivial⟩ ?_
   refine wsq ?_
   obtain ⟨x13, hf12, h⟩ := bno h
   refine wx tbk [(1, rp [fu 20, (.tmp 40, (Qhf p0))] (B x13))] ⟨apc (first := []) (cap := []) (vs := [(Qhf p0)]) rfl Qqt (Qfo N p0 _ hf12) rfl rfl (nlc (NLt.agg _ (nlc (nld Qaa _) (nlc nll (nlc nll (nlc nll (nlc (nld Qaj _) nl0)))))) nl0) nll rfl, trivial⟩ ?_
   rcases bft ((!x13)) with hc14 | hc14
   ·replace h := Qau hc14 h
    refine wft hc14 (by kernel_rfl) ?_
    rcases bft ((x7.2 == 1)) with hb15 | hb15
    ·replace h := Qau hb15 h
     rcases bft ((x11.2.2.2 == 1)) with hb16 | hb16
     ·replace h := Qau hb16 h
      rcases bft ((x7.1 == 0)) with hb17 | hb17
      ·replace h := Qau hb17 h
       rcases bft (((w64 ((x11.1.length : Int) + (x11.2.2.1.length : Int))) == 0)) with hb18 | hb18
       ·replace h := Qau hb18 h
        rcases bft ((x11.2.1 == 0)) with hb19 | hb19
        ·replace h := Qau hb19 h
         obtain ⟨x21, hf20, h⟩ := bno h
         refine wx tbk [(2, rp [(.tmp 44, (B ((x7.2 == 1))))] (B true)), (6, rp [(.tmp 48, (B ((x11.2.2.2 == 1))))] (B true)), (10, rp [(.tmp 52, (B ((x7.1 == 0))))] (B true)), (12, rp [(.tmp 53, B true), (.tmp 54, (Qe4 x11))] (I ((x11.1.length : Int)))), (14, rp [(.tmp 53, B true), (.tmp 56, (Qf9 x11))] (I ((x11.2.2.1.length : Int)))), (18, rp [(.tmp 60, (B (((w64 ((x11.1.length : Int) + (x11.2.2.1.length : Int))) == 0))))] (B true)), (22, rp [(.tmp 64, (B ((x11.2.1 == 0))))] (B true)), (23, rp [(.tmp 65, B true), fu 17] (B x21))] ⟨asb hb15 (amv rfl), asb hb16 (amv rfl), asb hb17 (amv rfl), ag_ (alm (c := Qab) (l := x11.1) (aln rfl Try.underlying37 rfl)), ag_ (alm (c := Qdx) (l := x11.2.2.1) (aln rfl Try.underlying42 rfl)), asb hb18 (amv rfl), asb hb19 (amv rfl), ag_ (apc (first := []) (cap := []) (vs := []) rfl Qom (Qfv 2000  _ hf20) rfl rfl nl0 nll rfl), trivial⟩ ?_
         refine Qac ?_
         refine Qar ?_
         obtain rfl := osi h
         exact fend ⟨[B x21], ⟨rot (by kernel_rfl), trivial⟩, rfl⟩ nll
        ·replace h := Qav hb19 h
         refine wx tbk [(2, rp [(.tmp 44, (B ((x7.2 == 1))))] (B true)), (6, rp [(.tmp 48, (B ((x11.2.2.2 == 1))))] (B true)), (10, rp [(.tmp 52, (B ((x7.1 == 0))))] (B true)), (12, rp [(.tmp 53, B true), (.tmp 54, (Qe4 x11))] (I ((x11.1.length : Int)))), (14, rp [(.tmp 53, B true), (.tmp 56, (Qf9 x11))] (I ((x11.2.2.1.length : Int)))), (18, rp [(.tmp 60, (B (((w64 ((x11.1.length : Int) + (x11.2.2.1.length : Int))) == 0))))] (B true)), (22, rp [(.tmp 64, (B ((x11.2.1 == 0))))] (B false))] ⟨asb hb15 (amv rfl), asb hb16 (amv rfl), asb hb17 (amv rfl), ag_ (alm (c := Qab) (l := x11.1) (aln rfl Try.underlying37 rfl)), ag_ (alm (c := Qdx) (l := x11.2.2.1) (aln rfl Try.underlying42 rfl)), asb hb18 (amv rfl), asb hb19 (amv rfl), trivial⟩ ?_
         refine Qac ?_
         refine Qar ?_
         obtain rfl := osi h
         exact fend ⟨[B false], ⟨rot (by kernel_rfl), trivial⟩, rfl⟩ nll
       ·replace h := Qav hb18 h
        refine wx tbk [(2, rp [(.tmp 44, (B ((x7.2 == 1))))] (B true)), (6, rp [(.tmp 48, (B ((x11.2.2.2 == 1))))] (B true)), (10, rp [(.tmp 52, (B ((x7.1 == 0))))] (B true)), (12, rp [(.tmp 53, B true), (.tmp 54, (Qe4 x11))] (I ((x11.1.length : Int)))), (14, rp [(.tmp 53, B true), (.tmp 56, (Qf9 x11))] (I ((x11.2.2.1.length : Int)))), (18, rp [(.tmp 60, (B (((w64 ((x11.1.length : Int) + (x11.2.2.1.length : Int))) == 0))))] (B false))] ⟨asb hb15 (amv rfl), asb hb16 (amv rfl), asb hb17 (amv rfl), ag_ (alm (c := Qab) (l := x11.1) (aln rfl Try.underlying37 rfl)), ag_ (alm (c := Qdx) (l := x11.2.2.1) (aln rfl Try.underlying42 rfl)), asb hb18 (amv rfl), trivial⟩ ?_
        refine Qac ?_
        refine Qar ?_
        obtain rfl := osi h
        exact fend ⟨[B false], ⟨rot (by kernel_rfl), trivial⟩, rfl⟩ nll
      ·replace h := Qav hb17 h
       refine wx tbk [(2, rp [(.tmp 44, (B ((x7.2 == 1))))] (B true)), (6, rp [(.tmp 48, (B ((x11.2.2.2 == 1))))] (B true)), (10, rp [(.tmp 52, (B ((x7.1 == 0))))] (B false))] ⟨asb hb15 (amv rfl), asb hb16 (amv rfl), asb hb17 (amv rfl), trivial⟩ ?_
       refine Qac ?_
       refine Qar ?_
       obtain rfl := osi h
       exact fend ⟨[B false], ⟨rot (by kernel_rfl), trivial⟩, rfl⟩ nll
     ·replace h := Qav hb16 h
      refine wx tbk [(2, rp [(.tmp 44, (B ((x7.2 == 1))))] (B true)), (6, rp [(.tmp 48, (B ((x11.2.2.2 == 1))))] (B false))] ⟨asb hb15 (amv rfl), asb hb16 (amv rfl), trivial⟩ ?_
      refine Qac ?_
      refine Qar ?_
      obtain rfl := osi h
      exact fend ⟨[B false], ⟨rot (by kernel_rfl), trivial⟩, rfl⟩ nll
    ·replace h := Qav hb15 h
     refine wx tbk [(2, rp [(.tmp 44, (B ((x7.2 == 1))))] (B false))] ⟨asb hb15 (amv rfl), trivial⟩ ?_
     refine Qac ?_
     refine Qar ?_
     obtain rfl := osi h
     exact fend ⟨[B false], ⟨rot (by kernel_rfl), trivial⟩, rfl⟩ nll
   ·replace h := Qav hc14 h
    refine wfn hc14 (by kernel_rfl) ?_
    refine Qal ?_
    refine thn ?_
    obtain ⟨k22, hk_k22, h⟩ := jko h
    refine wjn (τ := Unit) (fun t => k22 t = some r) (fun _ => ⟨mk 142 [(2, .ref 0 5 0 0), (7, (Qe4 x11)), (8, I x11.2.1), (9, (Qf9 x11)), (10, I x11.2.2.2)], [(Qnt p0)]⟩) (fun t h => ?_) ?_
    ·subst hk_k22
     obtain ⟨x24, hf23, h⟩ := bno h
     refine wx tbk [(1, rp [fu 39, (.tmp 97, (Qhf p0))] (.tup [(Qi8 x24), I x24.2]))] ⟨apc (first := []) (cap := []) (vs := [(Qhf p0)]) rfl enter39 (Qo3 N p0 _ hf23) rfl rfl (nlc (NLt.agg _ (nlc (nld Qaa _) (nlc nll (nlc nll (nlc nll (nlc (nld Qaj _) nl0)))))) nl0) (NLt.tup _ (nlc (nld Qaa _) (nlc nll nl0))) rfl, trivial⟩ ?_
     refine wsq ?_
     refine wx tbk [(1, rp [(.tmp 101, (Qi8 x24))] (I ((x24.1.length : Int))))] ⟨alm (c := Qab) (l := x24.1) (aln rfl Try.underlying37 rfl), trivial⟩ ?_
     rcases bft (((x24.1.length : Int) == 0)) with hc25 | hc25
     ·replace h := Qau hc25 h
      refine wft hc25 (by kernel_rfl) ?_
      rcases bft ((x11.2.2.2 == 7)) with hb26 | hb26
      ·replace h := Qau hb26 h
       rcases bft (((w64 ((x11.1.length : Int) + (x11.2.2.1.length : Int))) == 0)) with hb27 | hb27
       ·replace h := Qau hb27 h
        rcases bft ((x11.2.1 == 0)) with hb28 | hb28
        ·replace h := Qau hb28 h
         obtain ⟨x30, hf29, h⟩ := bno h
         refine wx tbk [(2, rp [(.tmp 105, (B ((x11.2.2.2 == 7))))] (B true)), (4, rp [(.tmp 106, B true), (.tmp 107, (Qe4 x11))] (I ((x11.1.length : Int)))), (6, rp [(.tmp 106, B true), (.tmp 109, (Qf9 x11))] (I ((x11.2.2.1.length : Int)))), (10, rp [(.tmp 113, (B (((w64 ((x11.1.length : Int) + (x11.2.2.1.length : Int))) == 0))))] (B true)), (14, rp [(.tmp 117, (B ((x11.2.1 == 0))))] (B true)), (15, rp [(.tmp 118, B true), fu 17] (B x30))] ⟨asb hb26 (amv rfl), ag_ (alm (c := Qab) (l := x11.1) (aln rfl Try.underlying37 rfl)), ag_ (alm (c := Qdx) (l := x11.2.2.1) (aln rfl Try.underlying42 rfl)), asb hb27 (amv rfl), asb hb28 (amv rfl), ag_ (apc (first := []) (cap := []) (vs := []) rfl Qom (Qfv 2000  _ hf29) rfl rfl nl0 nll rfl), trivial⟩ ?_
         refine Qac ?_
         refine Qar ?_
         obtain rfl := osi h
         exact fend ⟨[B x30], ⟨rot (by kernel_rfl), trivial⟩, rfl⟩ nll
        ·replace h := Qav hb28 h
         refine wx tbk [(2, rp [(.tmp 105, (B ((x11.2.2.2 == 7))))] (B true)), (4, rp [(.tmp 106, B true), (.tmp 107, (Qe4 x11))] (I ((x11.1.length : Int)))), (6, rp [(.tmp 106, B true), (.tmp 109, (Qf9 x11))] (I ((x11.2.2.1.length : Int)))), (10, rp [(.tmp 113, (B (((w64 ((x11.1.length : Int) + (x11.2.2.1.length : Int))) == 0))))] (B true)), (14, rp [(.tmp 117, (B ((x11.2.1 == 0))))] (B false))] ⟨asb hb26 (amv rfl), ag_ (alm (c := Qab) (l := x11.1) (aln rfl Try.underlying37 rfl)), ag_ (alm (c := Qdx) (l := x11.2.2.1) (aln rfl Try.underlying42 rfl)), asb hb27 (amv rfl), asb hb28 (amv rfl), trivial⟩ ?_
         refine Qac ?_
         refine Qar ?_
         obtain rfl := osi h
         exact fend ⟨[B false], ⟨rot (by kernel_rfl), trivial⟩, rfl⟩ nll
       ·replace h := Qav hb27 h
        refine wx tbk [(2, rp [(.tmp 105, (B ((x11.2.2.2 == 7))))] (B true)), (4, rp [(.tmp 106, B true), (.tmp 107, (Qe4 x11))] (I ((x11.1.length : Int)))), (6, rp [(.tmp 106, B true), (.tmp 109, (Qf9 x11))] (I ((x11.2.2.1.length : Int)))), (10, rp [(.tmp 113, (B (((w64 ((x11.1.length : Int) + (x11.2.2.1.length : Int))) == 0))))] (B false))] ⟨asb hb26 (amv rfl), ag_ (alm (c := Qab) (l := x11.1) (aln rfl Try.underlying37 rfl)), ag_ (alm (c := Qdx) (l := x11.2.2.1) (aln rfl Try.underlying42 rfl)), asb hb27 (amv rfl), trivial⟩ ?_
        refine Qac ?_
        refine Qar ?_
        obtain rfl := osi h
        exact fend ⟨[B false], ⟨rot (by kernel_rfl), trivial⟩, rfl⟩ nll
      ·replace h := Qav hb26 h
       refine wx tbk [(2, rp [(.tmp 105, (B ((x11.2.2.2 == 7))))] (B false))] ⟨asb hb26 (amv rfl), trivial⟩ ?_
       refine Qac ?_
       refine Qar ?_
       obtain rfl := osi h
       exact fend ⟨[B false], ⟨rot (by kernel_rfl), trivial⟩, rfl⟩ nll
     ·replace h := Qav hc25 h
      refine wfn hc25 (by kernel_rfl) ?_
      refine Qal ?_
      refine thn ?_
      rcases bft ((x11.2.2.2 == 0)) with hb31 | hb31
      ·replace h := Qau hb31 h
       obtain ⟨x33, hf32, h⟩ := bno h
       rcases bft (x33) with hb34 | hb34
       ·replace h := Qau hb34 h
        rcases bft ((x11.2.1 == x24.2)) with hb35 | hb35
        ·replace h := Qau hb35 h
         obtain ⟨x37, hf36, h⟩ := bno h
         obtain ⟨x39, hf38, h⟩ := bno h
         rcases bft (x39) with hb40 | hb40
         ·replace h := Qau hb40 h
          obtain ⟨x42, hf41, h⟩ := bno h
          refine wx tbk [(2, rp [(.tmp 122, (B ((x11.2.2.2 == 0))))] (B true)), (5, rp [(.tmp 123, B true), fu 40, (.tmp 124, (Qe4 x11)), (.tmp 125, (Qi8 x24))] (B x33)), (7, rp [(.tmp 127, B x33)] (B true)), (12, rp [(.tmp 132, (B ((x11.2.1 == x24.2))))] (B true)), (15, rp [(.tmp 133, B true), fu 42, (.tmp 135, (Qhf p0))] (Qmr x37)), (16, rp [(.tmp 133, B true), fu 41, (.tmp 134, (Qf9 x11)), (.tmp 136, (Qmr x37))] (B x39)), (18, rp [(.tmp 138, B x39)] (B true)), (19, rp [(.tmp 139, B true), fu 17] (B x42))] ⟨asb hb31 (amv rfl), ag_ (apc (first := []) (cap := []) (vs := [(Qe4 x11), (Qi8 x24)]) rfl Qlx (Qez N x11.1 x24.1 _ hf32) rfl rfl (nlc (nld Qaa _) (nlc (nld Qaa _) nl0)) nll rfl), asb hb34 (amv rfl), asb hb35 (amv rfl), ag_ (apc (first := []) (cap := []) (vs := [(Qhf p0)]) rfl enter42 (Qkl N p0 _ hf36) rfl rfl (nlc (NLt.agg _ (nlc (nld Qaa _) (nlc nll (nlc nll (nlc nll (nlc (nld Qaj _) nl0)))))) nl0) (nld Qei _) rfl), ag_ (apc (first := []) (cap := []) (vs := [(Qf9 x11), (Qmr x37)]) rfl enter41 (Qj5 N x11.2.2.1 x37 _ hf38) rfl rfl (nlc (nld Qei _) (nlc (nld Qei _) nl0)) nll rfl), asb hb40 (amv rfl), ag_ (apc (first := []) (cap := []) (vs := []) rfl Qom (Qfv 2000  _ hf41) rfl rfl nl0 nll rfl), trivial⟩ ?_
          refine Qac ?_
          obtain rfl := osi h
          exact fend ⟨[B x42], ⟨rot (by kernel_rfl), trivial⟩, rfl⟩ nll
         ·replace h := Qav hb40 h
          refine wx tbk [(2, rp [(.tmp 122, (B ((x11.2.2.2 == 0))))] (B true)), (5, rp [(.tmp 123, B true), fu 40, (.tmp 124, (Qe4 x11)), (.tmp 125, (Qi8 x24))] (B x33)), (7, rp [(.tmp 127, B x33)] (B true)), (12, rp [(.tmp 132, (B ((x11.2.1 == x24.2))))] (B true)), (15, rp [(.tmp 133, B true), fu 42, (.tmp 135, (Qhf p0))] (Qmr x37)), (16, rp [(.tmp 133, B true), fu 41, (.tmp 134, (Qf9 x11)), (.tmp 136, (Qmr x37))] (B x39)), (18, rp [(.tmp 138, B x39)] (B false))] ⟨asb hb31 (amv rfl), ag_ (apc (first := []) (cap := []) (vs := [(Qe4 x11), (Qi8 x24)]) rfl Qlx (Qez N x11.1 x24.1 _ hf32) rfl rfl (nlc (nld Qaa _) (nlc (nld Qaa _) nl0)) nll rfl), asb hb34 (amv rfl), asb hb35 (amv rfl), ag_ (apc (first := []) (cap := []) (vs := [(Qhf p0)]) rfl enter42 (Qkl N p0 _ hf36) rfl rfl (nlc (NLt.agg _ (nlc (nld Qaa _) (nlc nll (nlc nll (nlc nll (nlc (nld Qaj _) nl0)))))) nl0) (nld Qei _) rfl), ag_ (apc (first := []) (cap := []) (vs := [(Qf9 x11), (Qmr x37)]) rfl enter41 (Qj5 N x11.2.2.1 x37 _ hf38) rfl rfl (nlc (nld Qei _) (nlc (nld Qei _) nl0)) nll rfl), asb hb40 (amv rfl), trivial⟩ ?_
          refine Qac ?_
          obtain rfl := osi h
          exact fend ⟨[B false], ⟨rot (by kernel_rfl), trivial⟩, rfl⟩ nll
        ·replace h := Qav hb35 h
         refine wx tbk [(2, rp [(.tmp 122, (B ((x11.2.2.2 == 0))))] (B true)), (5, rp [(.tmp 123, B true), fu 40, (.tmp 124, (Qe4 x11)), (.tmp 125, (Qi8 x24))] (B x33)), (7, rp [(.tmp 127, B x33)] (B true)), (12, rp [(.tmp 132, (B ((x11.2.1 == x24.2))))] (B false))] ⟨asb hb31 (amv rfl), ag_ (apc (first := []) (cap := []) (vs := [(Qe4 x11), (Qi8 x24)]) rfl Qlx (Qez N x11.1 x24.1 _ hf32) rfl rfl (nlc (nld Qaa _) (nlc (nld Qaa _) nl0)) nll rfl), asb hb34 (amv rfl), asb hb35 (amv rfl), trivial⟩ ?_
         refine Qac ?_
         obtain rfl := osi h
         exact fend ⟨[B false], ⟨rot (by kernel_rfl), trivial⟩, rfl⟩ nll
       ·replace h := Qav hb34 h
        refine wx tbk [(2, rp [(.tmp 122, (B ((x11.2.2.2 == 0))))] (B true)), (5, rp [(.tmp 123, B true), fu 40, (.tmp 124, (Qe4 x11)), (.tmp 125, (Qi8 x24))] (B x33)), (7, rp [(.tmp 127, B x33)] (B false))] ⟨asb hb31 (amv rfl), ag_ (apc (first := []) (cap := []) (vs := [(Qe4 x11), (Qi8 x24)]) rfl Qlx (Qez N x11.1 x24.1 _ hf32) rfl rfl (nlc (nld Qaa _) (nlc (nld Qaa _) nl0)) nll rfl), asb hb34 (amv rfl), trivial⟩ ?_
        refine Qac ?_
        obtain rfl := osi h
        exact fend ⟨[B false], ⟨rot (by kernel_rfl), trivial⟩, rfl⟩ nll
      ·replace h := Qav hb31 h
       refine wx tbk [(2, rp [(.tmp 122, (B ((x11.2.2.2 == 0))))] (B false))] ⟨asb hb31 (amv rfl), trivial⟩ ?_
       refine Qac ?_
       obtain rfl := osi h
       exact fend ⟨[B false], ⟨rot (by kernel_rfl), trivial⟩, rfl⟩ nll
    ·skip
     obtain ⟨x44, hf43, h⟩ := bno h
     refine wx tbk [(2, rp [fu 38, (.tmp 69, (Qhf p0)), (.tmp 70, (Qns p1))] (.tup [I x44.1, B x44.2]))] ⟨apc (first := []) (cap := []) (vs := [(Qhf p0), (Qns p1)]) rfl enter38 (Qj4 N p0 p1 _ hf43) rfl rfl (nlc (NLt.agg _ (nlc (nld Qaa _) (nlc nll (nlc nll (nlc nll (nlc (nld Qaj _) nl0)))))) (nlc (nld Qaa _) nl0)) (NLt.tup _ (nlc nll (nlc nll nl0))) rfl, trivial⟩ ?_
     rcases bft (x44.2) with hb45 | hb45
     ·replace h := Qau hb45 h
      rcases bft ((x7.2 != 0)) with hb46 | hb46
      ·replace h := Qau hb46 h
       refine wx tbk [(1, rp [(.tmp 74, B x44.2)] (B true)), (4, rp [(.tmp 75, B true), (.tmp 77, (B ((x7.2 != 0))))] (B true))] ⟨asb hb45 (amv rfl), asb hb46 (ag_ (amv rfl)), trivial⟩ ?_
       refine Qe3 (by kernel_rfl) ?_
       refine wx tbk [] trivial ?_
       refine Qac ?_
       refine Qar ?_
       obtain rfl := osi h
       exact fend ⟨[B false], ⟨rot (by kernel_rfl), trivial⟩, rfl⟩ nll
      ·replace h := Qav hb46 h
       rcases bft ((x7.1 != x44.1)) with hb47 | hb47
       ·replace h := Qau hb47 h
        refine wx tbk [(1, rp [(.tmp 74, B x44.2)] (B true)), (4, rp [(.tmp 75, B true), (.tmp 77, (B ((x7.2 != 0))))] (B false)), (10, rp [(.tmp 83, (B ((x7.1 != x44.1))))] (B true))] ⟨asb hb45 (amv rfl), asb hb46 (ag_ (amv rfl)), asb hb47 (amv rfl), trivial⟩ ?_
        refine Qe3 (by kernel_rfl) ?_
        refine wx tbk [] trivial ?_
        refine Qac ?_
        refine Qar ?_
        obtain rfl := osi h
        exact fend ⟨[B false], ⟨rot (by kernel_rfl), trivial⟩, rfl⟩ nll
       ·replace h := Qav hb47 h
        rcases bft ((!x44.2)) with hb48 | hb48
        ·replace h := Qau hb48 h
         rcases bft ((x7.2 != 1)) with hb49 | hb49
         ·replace h := Qau hb49 h
          refine wx tbk [(1, rp [(.tmp 74, B x44.2)] (B true)), (4, rp [(.tmp 75, B true), (.tmp 77, (B ((x7.2 != 0))))] (B false)), (10, rp [(.tmp 83, (B ((x7.1 != x44.1))))] (B false)), (13, rp [(.tmp 84, B false), (.tmp 86, (B ((!x44.2))))] (B true)), (16, rp [(.tmp 87, B true), (.tmp 89, (B ((x7.2 != 1))))] (B true))] ⟨asb hb45 (amv rfl), asb hb46 (ag_ (amv rfl)), asb hb47 (amv rfl), asb hb48 (ag_ (amv rfl)), asb hb49 (ag_ (amv rfl)), trivial⟩ ?_
          refine Qe3 (by kernel_rfl) ?_
          refine wx tbk [] trivial ?_
          refine Qac ?_
          refine Qar ?_
          obtain rfl := osi h
          exact fend ⟨[B false], ⟨rot (by kernel_rfl), trivial⟩, rfl⟩ nll
         ·replace h := Qav hb49 h
          refine wx tbk [(1, rp [(.tmp 74, B x44.2)] (B true)), (4, rp [(.tmp 75, B true), (.tmp 77, (B ((x7.2 != 0))))] (B false)), (10, rp [(.tmp 83, (B ((x7.1 != x44.1))))] (B false)), (13, rp [(.tmp 84, B false), (.tmp 86, (B ((!x44.2))))] (B true)), (16, rp [(.tmp 87, B true), (.tmp 89, (B ((x7.2 != 1))))] (B false))] ⟨asb hb45 (amv rfl), asb hb46 (ag_ (amv rfl)), asb hb47 (amv rfl), asb hb48 (ag_ (amv rfl)), asb hb49 (ag_ (amv rfl)), trivial⟩ ?_
          rcases bft ((x7.1 != 0)) with hc50 | hc50
          ·replace h := Qau hc50 h
           refine wft hc50 (by kernel_rfl) ?_
           refine wx tbk [] trivial ?_
           refine Qac ?_
           refine Qar ?_
           obtain rfl := osi h
           exact fend ⟨[B false], ⟨rot (by kernel_rfl), trivial⟩, rfl⟩ nll
          ·replace h := Qav hc50 h
           refine wfn hc50 (by kernel_rfl) ?_
           refine Qal ?_
           refine thn ?_
           exact ⟨(), h, (mto (n := 142) [(2, .ref 0 5 0 0), (7, (Qe4 x11)), (8, I x11.2.1), (9, (Qf9 x11)), (10, I x11.2.2.2)] [0] [(Qnt p0)] hφ0 (pc (.rn (rqr rfl)) (pc (.rn (.plain _ (nld Qaa _))) (pc rwl (pc (.rn (.plain _ (nld Qei _))) (pc rwl pn))))) (qc (spb (lc (.rn (.plain _ (nld Qaa _))) (lc rwl (lc rwl (lc rwl (lc (.rn (.plain _ (nld Qaj _))) ln)))))) qn))⟩
        ·replace h := Qav hb48 h
         refine wx tbk [(1, rp [(.tmp 74, B x44.2)] (B true)), (4, rp [(.tmp 75, B true), (.tmp 77, (B ((x7.2 != 0))))] (B false)), (10, rp [(.tmp 83, (B ((x7.1 != x44.1))))] (B false)), (13, rp [(.tmp 84, B false), (.tmp 86, (B ((!x44.2))))] (B false))] ⟨asb hb45 (amv rfl), asb hb46 (ag_ (amv rfl)), asb hb47 (amv rfl), asb hb48 (ag_ (amv rfl)), trivial⟩ ?_
         refine Qeg (by kernel_rfl) ?_
         refine Qal ?_
         refine thn ?_
         exact ⟨(), h, (mto (n := 142) [(2, .ref 0 5 0 0), (7, (Qe4 x11)), (8, I x11.2.1), (9, (Qf9 x11)), (10, I x11.2.2.2)] [0] [(Qnt p0)] hφ0 (pc (.rn (rqr rfl)) (pc (.rn (.plain _ (nld Qaa _))) (pc rwl (pc (.rn (.plain _ (nld Qei _))) (pc rwl pn))))) (qc (spb (lc (.rn (.plain _ (nld Qaa _))) (lc rwl (lc rwl (lc rwl (lc (.rn (.plain _ (nld Qaj _))) ln)))))) qn))⟩
     ·replace h := Qav hb45 h
      rcases bft ((!x44.2)) with hb51 | hb51
      ·replace h := Qau hb51 h
       rcases bft ((x7.2 != 1)) with hb52 | hb52
       ·replace h := Qau hb52 h
        refine wx tbk [(1, rp [(.tmp 74, B x44.2)] (B false)), (13, rp [(.tmp 84, B false), (.tmp 86, (B ((!x44.2))))] (B true)), (16, rp [(.tmp 87, B true), (.tmp 89, (B ((x7.2 != 1))))] (B true))] ⟨asb hb45 (amv rfl), asb hb51 (ag_ (amv rfl)), asb hb52 (ag_ (amv rfl)), trivial⟩ ?_
        refine Qe3 (by kernel_rfl) ?_
        refine wx tbk [] trivial ?_
        refine Qac ?_
        refine Qar ?_
        obtain rfl := osi h
        exact fend ⟨[B false], ⟨rot (by kernel_rfl), trivial⟩, rfl⟩ nll
       ·replace h := Qav hb52 h
        refine wx tbk [(1, rp [(.tmp 74, B x44.2)] (B false)), (13, rp [(.tmp 84, B false), (.tmp 86, (B ((!x44.2))))] (B true)), (16, rp [(.tmp 87, B true), (.tmp 89, (B ((x7.2 != 1))))] (B false))] ⟨asb hb45 (amv rfl), asb hb51 (ag_ (amv rfl)), asb hb52 (ag_ (amv rfl)), trivial⟩ ?_
        rcases bft ((x7.1 != 0)) with hc53 | hc53
        ·replace h := Qau hc53 h
         refine wft hc53 (by kernel_rfl) ?_
         refine wx tbk [] trivial ?_
         refine Qac ?_
         refine Qar ?_
         obtain rfl := osi h
         exact fend ⟨[B false], ⟨rot (by kernel_rfl), trivial⟩, rfl⟩ nll
        ·replace h := Qav hc53 h
         refine wfn hc53 (by kernel_rfl) ?_
         refine Qal ?_
         refine thn ?_
         exact ⟨(), h, (mto (n := 142) [(2, .ref 0 5 0 0), (7, (Qe4 x11)), (8, I x11.2.1), (9, (Qf9 x11)), (10, I x11.2.2.2)] [0] [(Qnt p0)] hφ0 (pc (.rn (rqr rfl)) (pc (.rn (.plain _ (nld Qaa _))) (pc rwl (pc (.rn (.plain _ (nld Qei _))) (pc rwl pn))))) (qc (spb (lc (.rn (.plain _ (nld Qaa _))) (lc rwl (lc rwl (lc rwl (lc (.rn (.plain _ (nld Qaj _))) ln)))))) qn))⟩
      ·replace h := Qav hb51 h
       refine wx tbk [(1, rp [(.tmp 74, B x44.2)] (B false)), (13, rp [(.tmp 84, B false), (.tmp 86, (B ((!x44.2))))] (B false))] ⟨asb hb45 (amv rfl), asb hb51 (ag_ (amv rfl)), trivial⟩ ?_
       refine Qeg (by kernel_rfl) ?_
       refine Qal ?_
       refine thn ?_
       exact ⟨(), h, (mto (n := 142) [(2, .ref 0 5 0 0), (7, (Qe4 x11)), (8, I x11.2.1), (9, (Qf9 x11)), (10, I x11.2.2.2)] [0] [(Qnt p0)] hφ0 (pc (.rn (rqr rfl)) (pc (.rn (.plain _ (nld Qaa _))) (pc rwl (pc (.rn (.plain _ (nld Qei _))) (pc rwl pn))))) (qc (spb (lc (.rn (.plain _ (nld Qaa _))) (lc rwl (lc rwl (lc rwl (lc (.rn (.plain _ (nld Qaj _))) ln)))))) qn))⟩
  ·skip
   obtain ⟨x55, hf54, h⟩ := bno h
   rcases bft ((!x55)) with hb56 | hb56
   ·replace h := Qau hb56 h
    refine wx tbk [(1, rp [fu 35, (.tmp 15, (Qhf p0))] (B x55)), (3, rp [(.tmp 17, (B ((!x55))))] (B true))] ⟨apc (first := []) (cap := []) (vs := [(Qhf p0)]) rfl enter35 (Qky N p0 _ hf54) rfl rfl (nlc (NLt.agg _ (nlc (nld Qaa _) (nlc nll (nlc nll (nlc nll (nlc (nld Qaj _) nl0)))))) nl0) nll rfl, asb hb56 (amv rfl), trivial⟩ ?_
    refine Qe3 (by kernel_rfl) ?_
    obtain ⟨x58, hf57, h⟩ := bno h
    refine wx tbk [(0, rp [fu 17] (B x58))] ⟨apc (first := []) (cap := []) (vs := []) rfl Qom (Qfv 2000  _ hf57) rfl rfl nl0 nll rfl, trivial⟩ ?_
    refine Qac ?_
    refine Qar ?_
    obtain rfl := osi h
    exact fend ⟨[B x58], ⟨rot (by kernel_rfl), trivial⟩, rfl⟩ nll
   ·replace h := Qav hb56 h
    refine wx tbk [(1, rp [fu 35, (.tmp 15, (Qhf p0))] (B x55)), (3, rp [(.tmp 17, (B ((!x55))))] (B false)), (5, rp [(.tmp 18, B false), (.tmp 19, (Qns p1))] (I ((p1.length : Int))))] ⟨apc (first := []) (cap := []) (vs := [(Qhf p0)]) rfl enter35 (Qky N p0 _ hf54) rfl rfl (nlc (NLt.agg _ (nlc (nld Qaa _) (nlc nll (nlc nll (nlc nll (nlc (nld Qaj _) nl0)))))) nl0) nll rfl, asb hb56 (amv rfl), ag_ (alm (c := Qab) (l := p1) (aln rfl Try.underlying37 rfl)), trivial⟩ ?_
    rcases bft ((decide ((p1.length : Int) > 10))) with hc59 | hc59
    ·replace h := Qau hc59 h
     refine wft hc59 (by kernel_rfl) ?_
     obtain ⟨x61, hf60, h⟩ := bno h
     refine wx tbk [(0, rp [fu 17] (B x61))] ⟨apc (first := []) (cap := []) (vs := []) rfl Qom (Qfv 2000  _ hf60) rfl rfl nl0 nll rfl, trivial⟩ ?_
     refine Qac ?_
     refine Qar ?_
     obtain rfl := osi h
     exact fend ⟨[B x61], ⟨rot (by kernel_rfl), trivial⟩, rfl⟩ nll
    ·replace h := Qav hc59 h
     refine wfn hc59 (by kernel_rfl) ?_
     refine Qal ?_
     refine thn ?_
     exact ⟨(), h, (mto (n := 142) [(1, (Qns p1)), (2, .ref 0 5 0 0)] [0] [(Qnt p0)] hφ0 (pc (.rn (.plain _ (nld Qaa _))) (pc (.rn (rqr rfl)) pn)) (qc (spb (lc (.rn (.plain _ (nld Qaa _))) (lc rwl (lc rwl (lc rwl (lc (.rn (.plain _ (nld Qaj _))) ln)))))) qn))⟩
end Go.Proofs.Ytlhakkkjgdbdpaa
