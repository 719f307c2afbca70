/-
  Functions of the program: what they compute, as plain functions, and that they do. No conditions.
-/
import Derived.Test.YtlhakkkjgdbdpaaX1
namespace Go.Proofs.Ytlhakkkjgdbdpaa
open Go.RowKit
def Qfh (_N : Nat) (p0 : (List Int)) : Option Unit :=
  chk (!p0.isEmpty) <|
  chk (!p0.isEmpty) <|
  chk (decide ((0 + p0.length) * 8 ≤ 140737488355328)) <|
  some ()
def z26_0 (p0 : (List Int)) : AV := .dat 1 ((p0 : List Int).map Qad)
def z26_2 (p0 : (List Int)) : Slot := .own 1 ((p0 : List Int).map Qad)
def z26_1 : AV := .acc 0 3 1 ((([] : List Int) : List Int).map Qad)
set_option maxRecDepth 100000 in
set_option maxHeartbeats 4000000 in
theorem Qja (N : Nat) (p0 : (List Int)) (r : Unit) (h : Qfh N p0 = some r) : Spec Try.prog 108 [(z26_0 p0)] [] (.own 0 1 (0) (p0.length)) [(z26_2 p0)] := by
  refine Qac Try.func108 rfl 1 (nle rfl) (fun X φ0 w0 hφ0 => ?_)
  unfold Qfh at h
  refine Qbj ?_
  refine wx tbk [] trivial ?_
  refine wsq ?_
  obtain ⟨hz1, h⟩ := cko h
  refine wx tbk [(1, rp [(.tmp 3, (z26_0 p0)), ((.const (.slice none 0 0)), nilS)] (B false))] ⟨Qug rfl Try.underlying37 rfl (Qhv hz1), trivial⟩ ?_
  refine Qgg (by kernel_rfl) ?_
  refine Qao ?_
  refine thn ?_
  obtain ⟨ha3, h⟩ := cko h
  obtain ⟨ha2, h⟩ := cko h
  refine wx tbk [(0, ⟨[], [(0, .unused)], z26_1, [(0, .tok)], false⟩), (2, ⟨[(.tmp 5, z26_1), (.tmp 6, (z26_0 p0))], [(0, .tok), (1, .unused)], (.own 1 1 (0) (p0.length)), [(0, .dead), (1, (z26_2 p0))], false⟩)] ⟨Qq9 rfl Try.underlying37 ti3 tz3, Qw0 rfl Try.underlying37 te3 (Base.acc _ _) rfl rfl (Qhv ha3) (ones_map Qad one_i64 _) (app_le1n Qad ha2) (app_le2n Qad ha2 (by decide)) (List.length_map _), trivial⟩ ?_
  refine wmr (mto (n := 8) (l' := [(2, (.own 0 1 (0) (p0.length)))]) (own' := [(z26_2 p0)]) [(2, (.own 1 1 (0) (p0.length)))] [1] [(z26_2 p0)] hφ0 (pc (.rn (Qaf rfl)) pn) (qc (spr Qaa) qn)) ?_
  refine Qab ?_
  obtain rfl := osi h
  exact ⟨_, Mor.rfl, Qbx (vs := [(.own 0 1 (0) (p0.length))]) ⟨rot (by kernel_rfl), trivial⟩ rfl (NLt.own _ _ _ _ (by decide)) (by kernel_rfl) (Qag (Qgm Qaa _) Qa5)⟩
def Qc4 (N : Nat) (p0 : GShared) (k5 : (List Int) → Option (List Int)) : Nat → Int → (List Int) → Option (List Int)
  | 0, _, _ => none
  | n12 + 1, y8, y9 =>
    bif (decide (y8 ≥ 0)) then
     chk (decide (0 ≤ y8) && decide (y8.toNat < p0.heads.length)) <|
     (y9[y8.toNat]?).bind fun x15 =>
     chk (decide (0 ≤ w64 (y8 + 1)) && decide ((w64 (y8 + 1)).toNat < p0.heads.length)) <|
     (y9[(w64 (y8 + 1)).toNat]?).bind fun x18 =>
     chk (decide (0 ≤ y8) && decide (y8.toNat < p0.heads.length)) <|
     (y9[y8.toNat]?).bind fun _ =>
     Qc4 N p0 k5 n12 (w64 (y8 - 1)) (y9.set y8.toNat (w64 (x15 + x18)))
    else
     k5 (y9)
def Qd5 (N : Nat) (p0 : GShared) : Option (List Int) :=
  (Qfh N p0.heads).bind fun _ =>
  Qdu (fun y4 =>
    some y4) fun k5 : (List Int) → Option (List Int) =>
  (some (w64 (((p0.heads.length : Nat) : Int) - 2))).bind fun x6 =>
  Qc4 N p0 k5 N x6 p0.heads
def z25_0 (p0 : GShared) : AV := .dat 1 ((p0.heads : List Int).map Qad)
def z25_4 (p0 : GShared) : Slot := .own 1 ((p0.heads : List Int).map Qad)
def Qyb (y4 : (List Int)) : Slot := .own 1 ((y4 : List Int).map Qad)
def Qnq (y9 : (List Int)) : Slot := .own 1 ((y9 : List Int).map Qad)
set_option maxRecDepth 100000 in
set_option maxHeartbeats 4000000 in
theorem Qfj (N : Nat) (p0 : GShared) (r : (List Int)) (h : Qd5 N p0 = some r) : Spec Try.prog 87 [(.agg [(z25_0 p0), (.dat 2 ((p0.units : List GUnit).map Qbo))])] [] (.own 0 1 (0) (p0.heads.length)) [(.own 1 ((r : List Int).map Qad))] := by
  refine Qac Try.func87 rfl 1 (nle rfl) (fun X φ0 w0 hφ0 => ?_)
  unfold Qd5 at h
  refine Qbj ?_
  refine wx tbk [] trivial ?_
  obtain ⟨x3, hf2, h⟩ := bno h
  refine wx tbk [(2, ⟨[fu 108, (.tmp 6, (z25_0 p0))], [(1, .unused)], (.own 1 1 (0) (p0.heads.length)), [(1, (z25_4 p0))], false⟩)] ⟨Qam (first := []) (cap := []) (vs := [(z25_0 p0)]) (σr := []) (σr' := [(z25_4 p0)]) (res' := (.own 1 1 (0) (p0.heads.length))) [1] rfl enter108 (Qja N p0.heads _ hf2) rfl (Qbi (rnc (.plain _ (nld Qaa _)) rn0)) Qal (slc (Qcn Qaa) Qal) (Qhs rfl) rfl rfl rfl, trivial⟩ ?_
  obtain ⟨k5, hk_k5, h⟩ := jko h
  refine wjn (τ := (List Int)) (fun t => k5 t = some r) (fun y4 => ⟨mk 27 [(3, (.own 0 1 (0) (p0.heads.length)))], [(Qyb y4)]⟩) (fun y4 h => ?_) ?_
  ·subst hk_k5
   refine wx tbk [] trivial ?_
   refine wmr (mto (n := 27) (l' := [(2, (.own 0 1 (0) (p0.heads.length)))]) (own' := [(Qyb y4)]) [(2, (.own 0 1 (0) (p0.heads.length)))] [0] [(Qyb y4)] hφ0 (pc (.rn (Qaf rfl)) pn) (qc (spr Qaa) qn)) ?_
   refine Qab ?_
   obtain rfl := osi h
   exact ⟨_, Mor.rfl, Qbx (vs := [(.own 0 1 (0) (p0.heads.length))]) ⟨rot (by kernel_rfl), trivial⟩ rfl (NLt.own _ _ _ _ (by decide)) (by kernel_rfl) (Qag (Qgm Qaa _) Qa5)⟩
  ·skip
   obtain ⟨x6, hl7, h⟩ := bno h
   refine wx tbk [(1, rp [(.tmp 8, (.own 1 1 (0) (p0.heads.length)))] (I (((p0.heads.length : Nat) : Int)))), (3, rp [(.tmp 10, (I (w64 (((p0.heads.length : Nat) : Int) - 2))))] (I x6))] ⟨aln rfl Try.underlying37 rfl, Qep hl7 (aas rfl), trivial⟩ ?_
   refine Qak ?_
   refine wmr (mto (n := 27) (l' := [(3, (.own 0 1 (0) (p0.heads.length))), (4, I x6)]) (own' := [(z25_4 p0)]) [(3, (.own 1 1 (0) (p0.heads.length))), (4, I x6)] [1] [(z25_4 p0)] hφ0 (pc (.rn (Qaf rfl)) (pc rwl pn)) (qc (spr Qaa) qn)) ?_
   refine Qb1 (τ := Int × (List Int)) (fun n t => Qc4 N p0 k5 n t.1 t.2 = some r) (fun ⟨y8, y9⟩ => ⟨mk 27 [(3, (.own 0 1 (0) (p0.heads.length))), (4, I y8)], [(Qnq y9)]⟩) (fun t h => by rw [Qc4] at h; cases h) (fun n12 ih t h => ?_) N (x6, p0.heads) h
   obtain ⟨y8, y9⟩ := t
   rw [Qc4] at h
   skip
   refine wsq ?_
   refine wx tbk [] trivial ?_
   rcases bft ((decide (y8 ≥ 0))) with hc13 | hc13
   ·replace h := Qav hc13 h
    refine wft hc13 (by kernel_rfl) ?_
    refine Qao ?_
    refine thn ?_
    refine wsq ?_
    refine Qak ?_
    obtain ⟨hi14, h⟩ := cko h
    obtain ⟨hi14a, hi14b⟩ := Qaz hi14
    obtain ⟨x15, hg16, h⟩ := bno h
    obtain ⟨hi17, h⟩ := cko h
    obtain ⟨hi17a, hi17b⟩ := Qaz hi17
    obtain ⟨x18, hg19, h⟩ := bno h
    obtain ⟨hi20, h⟩ := cko h
    obtain ⟨hi20a, hi20b⟩ := Qaz hi20
    obtain ⟨x21, hg22, h⟩ := bno h
    refine wy1 tbk [(2, rb [(.tmp 15, (.own 0 1 (0) (p0.heads.length))), (.tmp 16, I y8)] [(0, (Qnq y9))] (.ref 0 1 (y8.toNat) 0)), (3, rb [(.tmp 17, (.ref 0 1 (y8.toNat) 0))] [(0, (Qnq y9))] (I x15)), (7, rb [(.tmp 19, (.own 0 1 (0) (p0.heads.length))), (.tmp 21, (I (w64 (y8 + 1))))] [(0, (Qnq y9))] (.ref 0 1 ((w64 (y8 + 1)).toNat) 0)), (8, rb [(.tmp 22, (.ref 0 1 ((w64 (y8 + 1)).toNat) 0))] [(0, (Qnq y9))] (I x18)), (10, rb [(.tmp 15, (.own 0 1 (0) (p0.heads.length))), (.tmp 16, I y8)] [(0, (Qnq y9))] (.ref 0 1 (y8.toNat) 0)), (11, ⟨[(.tmp 25, (.ref 0 1 (y8.toNat) 0)), (.tmp 24, (I (w64 (x15 + x18))))], [(0, (Qnq y9))], .any, [(0, (.own 1 ((y9.set y8.toNat (w64 (x15 + x18)) : List Int).map Qad)))], false⟩)] ⟨aio rfl Try.underlying37 ti3 (odt hi14a) (odt hi14b) (Nat.zero_add _), ald rfl ti3 (by decide) (mgt Qad hg16) (nle rfl) rfl, aio rfl Try.underlying37 ti3 (odt hi17a) (odt hi17b) (Nat.zero_add _), ald rfl ti3 (by decide) (mgt Qad hg19) (nle rfl) rfl, aio rfl Try.underlying37 ti3 (odt hi20a) (odt hi20b) (Nat.zero_add _), ast rfl ti3 (by rfl) (mgt Qad hg22) (nle rfl) (Qfx Qad rfl), trivial⟩ ?_
    refine bln ?_
    refine thn ?_
    refine wx1 tbk [] trivial ?_
    refine thn ?_
    exact arm (mto (n := 27) [(3, (.own 0 1 (0) (p0.heads.length))), (4, (I (w64 (y8 - 1))))] [0] [(.own 1 ((y9.set y8.toNat (w64 (x15 + x18)) : List Int).map Qad))] hφ0 (pc (.rn (Qaf rfl)) (pc rwl pn)) (qc (spr Qaa) qn)) (ih (w64 (y8 - 1), y9.set y8.toNat (w64 (x15 + x18))) h)
   ·replace h := Qaw hc13 h
    refine wfn hc13 (by kernel_rfl) ?_
    refine Qbh ?_
    refine Qar ?_
    refine Qar ?_
    refine Qbg rfl ?_
    refine thn ?_
    exact ⟨(y9), h, (mto (n := 27) [(3, (.own 0 1 (0) (p0.heads.length)))] [0] [(Qnq y9)] hφ0 (pc (.rn (Qaf rfl)) pn) (qc (spr Qaa) qn))⟩
def Qe8 (_N : Nat) (p0 : GPiece) : Option Int :=
  some p0.Part.Gain
set_option maxRecDepth 100000 in
set_option maxHeartbeats 4000000 in
theorem Qg5 (N : Nat) (p0 : GPiece) (r : Int) (h : Qe8 N p0 = some r) : Spec Try.prog 106 [(.agg (Qap p0))] [] (I r) [] := by
  refine Qac Try.func106 rfl 0 (nle rfl) (fun X φ0 w0 hφ0 => ?_)
  unfold Qe8 at h
  refine wx tbk [] trivial ?_
  refine wx tbk [] trivial ?_
  refine Qab ?_
  obtain rfl := osi h
  exact fend ⟨[I p0.Part.Gain], ⟨rot (by kernel_rfl), trivial⟩, rfl⟩ nll
def Qb7 (N : Nat) (p0 : GPiece) (p1 : GPiece) : Option Int :=
  (Qe8 N (⟨p1.unit, (⟨p1.Part.Width, p1.Part.Gain⟩ : GPart)⟩ : GPiece)).bind fun x3 =>
  (Qe8 N (⟨p0.unit, (⟨p0.Part.Width, p0.Part.Gain⟩ : GPart)⟩ : GPiece)).bind fun x5 =>
  some (w64 (x3 - x5))
def z31_1 (p0 : GPiece) : AV := .agg [(I (p0.unit)), (I (p0.Part.Width)), (I (p0.Part.Gain))]
def z31_3 (p1 : GPiece) : AV := .agg [(I (p1.unit)), (I (p1.Part.Width)), (I (p1.Part.Gain))]
def z31_4 : Slot := .own 1 [[(.fn (.func 106) [] [])]]
set_option maxRecDepth 100000 in
set_option maxHeartbeats 4000000 in
theorem Qcx (N : Nat) (p0 : GPiece) (p1 : GPiece) (r : Int) (h : Qb7 N p0 p1 = some r) : Spec Try.prog 124 [(z31_1 p0), (z31_3 p1), (.ref 0 1 (0) 0)] [z31_4] (I (r)) [z31_4] := by
  refine Qac Try.func124 rfl 1 (nle rfl) (fun X φ0 w0 hφ0 => ?_)
  unfold Qb7 at h
  refine Qbj ?_
  refine wx tbk [] trivial ?_
  obtain ⟨x3, hf2, h⟩ := bno h
  obtain ⟨x5, hf4, h⟩ := bno h
  refine wxd tbk [(2, rp [(.tmp 6, (.fn (.func 106) [] [])), (.tmp 7, (z31_3 p1))] (I x3)), (5, rp [(.tmp 9, (.fn (.func 106) [] [])), (.tmp 10, (z31_1 p0))] (I x5))] ⟨apc (first := []) (cap := []) (vs := [(z31_3 p1)]) rfl Qvm (Qg5 N (⟨p1.unit, (⟨p1.Part.Width, p1.Part.Gain⟩ : GPart)⟩ : GPiece) _ hf2) rfl rfl (nlc (NLt.agg _ (nlc nll (nlc nll (nlc nll nl0)))) nl0) nll rfl, apc (first := []) (cap := []) (vs := [(z31_1 p0)]) rfl Qvm (Qg5 N (⟨p0.unit, (⟨p0.Part.Width, p0.Part.Gain⟩ : GPart)⟩ : GPiece) _ hf4) rfl rfl (nlc (NLt.agg _ (nlc nll (nlc nll (nlc nll nl0)))) nl0) nll rfl, trivial⟩ ?_
  refine wmr (mto (n := 13) (l' := [(5, (I ((w64 (x3 - x5)))))]) (own' := [z31_4]) [(5, (I (w64 (x3 - x5))))] [0] [z31_4] hφ0 (pc rwl pn) (qc (spb (lc (.rn (Qaq rn0 rn0)) ln)) qn)) ?_
  refine Qab ?_
  obtain rfl := osi h
  exact ⟨_, Mor.rfl, Qbx (vs := [(I (w64 (x3 - x5)))]) ⟨rot (by kernel_rfl), trivial⟩ rfl (NLt.of0 nll) (by kernel_rfl) (Qag (Qas (nlc (NLt.of0 (NLt.fn _ _ _ nl0 nl0)) nl0)) Qa5)⟩
def Qa6 (N : Nat) (p0 : Nat) (p1 : Int) (k9 : (List GPiece) → Option (List GPiece)) : Nat → Int → (List GPiece) → Option (List GPiece)
  | 0, _, _ => none
  | n14 + 1, y10, y11 =>
    Qdu (fun _ =>
      chk (decide (0 ≤ w64 (y10 - 1)) && decide ((w64 (y10 - 1)).toNat < p0)) <|
      (y11[(w64 (y10 - 1)).toNat]?).bind fun x17 =>
      chk (decide (0 ≤ y10) && decide (y10.toNat < p0)) <|
      (y11[y10.toNat]?).bind fun x20 =>
      chk (decide (0 ≤ y10) && decide (y10.toNat < p0)) <|
      (y11[y10.toNat]?).bind fun _ =>
      chk (decide (0 ≤ w64 (y10 - 1)) && decide ((w64 (y10 - 1)).toNat < p0)) <|
      ((y11.set y10.toNat (⟨x17.unit, (⟨x17.Part.Width, x17.Part.Gain⟩ : GPart)⟩ : GPiece))[(w64 (y10 - 1)).toNat]?).bind fun _ =>
      Qa6 N p0 p1 k9 n14 (w64 (y10 - 1)) ((y11.set y10.toNat (⟨x17.unit, (⟨x17.Part.Width, x17.Part.Gain⟩ : GPart)⟩ : GPiece)).set ((w64 (y10 - 1)).toNat) (⟨x20.unit, (⟨x20.Part.Width, x20.Part.Gain⟩ : GPart)⟩ : GPiece))) fun k15 : Unit → Option (List GPiece) =>
    bif (decide (y10 > p1)) then
     chk (decide (0 ≤ y10) && decide (y10.toNat < p0)) <|
     (y11[y10.toNat]?).bind fun x30 =>
     chk (decide (0 ≤ w64 (y10 - 1)) && decide ((w64 (y10 - 1)).toNat < p0)) <|
     (y11[(w64 (y10 - 1)).toNat]?).bind fun x33 =>
     (Qb7 N (⟨x30.unit, (⟨x30.Part.Width, x30.Part.Gain⟩ : GPart)⟩ : GPiece) (⟨x33.unit, (⟨x33.Part.Width, x33.Part.Gain⟩ : GPart)⟩ : GPiece)).bind fun x36 =>
     bif (decide (x36 < 0)) then
      k15 ()
     else
      k9 (y11)
    else
     k9 (y11)
def Qa7 (N : Nat) (p0 : Nat) (p1 : Int) (p2 : Int) : Nat → Int → (List GPiece) → Option (List GPiece)
  | 0, _, _ => none
  | n6 + 1, y2, y3 =>
    bif (decide (y2 < p2)) then
     Qdu (fun y8 =>
       Qa7 N p0 p1 p2 n6 (w64 (y2 + 1)) y8) fun k9 : (List GPiece) → Option (List GPiece) =>
     Qa6 N p0 p1 k9 N y2 y3
    else
     some y3
def Qb0 (N : Nat) (p0 : Nat) (p1 : Int) (p2 : Int) (p3 : (List GPiece)) : Option (List GPiece) :=
  Qa7 N p0 p1 p2 N (w64 (p1 + 1)) p3
def Ql4 : AV := .fn (.func 124) [] [(.ref 1 1 (0) 0)]
def z30_1 (p3 : (List GPiece)) : Slot := .own 3 ((p3 : List GPiece).map Qap)
def Qjj : Slot := .own 1 [[(.fn (.func 106) [] [])]]
def Qrz (y3 : (List GPiece)) : Slot := .own 3 ((y3 : List GPiece).map Qap)
def Qgk (y11 : (List GPiece)) : Slot := .own 3 ((y11 : List GPiece).map Qap)
def z30_9 (x17 : GPiece) : AV := .agg [(I (x17.unit)), (I (x17.Part.Width)), (I (x17.Part.Gain))]
def z30_10 (x20 : GPiece) : AV := .agg [(I (x20.unit)), (I (x20.Part.Width)), (I (x20.Part.Gain))]
def Qtj (y11 : (List GPiece)) (y10 : Int) (x17 : GPiece) : Slot := .own 3 ((y11.set y10.toNat (⟨x17.unit, (⟨x17.Part.Width, x17.Part.Gain⟩ : GPart)⟩ : GPiece) : List GPiece).map Qap)
def Qx7 (y11 : (List GPiece)) (y10 : Int) (x17 : GPiece) (x20 : GPiece) : Slot := .own 3 (((y11.set y10.toNat (⟨x17.unit, (⟨x17.Part.Width, x17.Part.Gain⟩ : GPart)⟩ : GPiece)).set ((w64 (y10 - 1)).toNat) (⟨x20.unit, (⟨x20.Part.Width, x20.Part.Gain⟩ : GPart)⟩ : GPiece) : List GPiece).map Qap)
def z30_83 (x30 : GPiece) : AV := .agg [(I (x30.unit)), (I (x30.Part.Width)), (I (x30.Part.Gain))]
def Qx6 (x33 : GPiece) : AV := .agg [(I (x33.unit)), (I (x33.Part.Width)), (I (x33.Part.Gain))]
set_option maxRecDepth 100000 in
set_option maxHeartbeats 4000000 in
theorem Qdf (N : Nat) (p0 : Nat) (p1 : Int) (p2 : Int) (p3 : (List GPiece)) (r : (List GPiece)) (h : Qb0 N p0 p1 p2 p3 = some r) : Spec Try.prog 135 [(.own 0 3 (0) (p0)), (I (p1)), (I (p2)), Ql4] [(z30_1 p3), Qjj] (.tup []) [(.own 3 ((r : List GPiece).map Qap)), Qjj] := by
  refine Qac Try.func135 rfl 2 (nle rfl) (fun X φ0 w0 hφ0 => ?_)
  unfold Qb0 at h
  refine Qbj ?_
  refine wx tbk [] trivial ?_
  refine Qak ?_
  refine wmr (mto (n := 53) (l' := [(0, (.own 0 3 (0) (p0))), (1, I p1), (2, I p2), (3, Ql4), (8, (I ((w64 (p1 + 1)))))]) (own' := [(z30_1 p3), Qjj]) [(0, (.own 0 3 (0) (p0))), (1, I p1), (2, I p2), (3, Ql4), (8, (I (w64 (p1 + 1))))] [0, 1] [(z30_1 p3), Qjj] hφ0 (pc (.rn (Qaf rfl)) (pc rwl (pc rwl (pc (.rn (Qaq rn0 (rnc (rqr rfl) rn0))) (pc rwl pn))))) (qc (spr Qah) (qc (spb (lc (.rn (Qaq rn0 rn0)) ln)) qn))) ?_
  refine Qb1 (τ := Int × (List GPiece)) (fun n t => Qa7 N p0 p1 p2 n t.1 t.2 = some r) (fun ⟨y2, y3⟩ => ⟨mk 53 [(0, (.own 0 3 (0) (p0))), (1, I p1), (2, I p2), (3, Ql4), (8, I y2)], [(Qrz y3), Qjj]⟩) (fun t h => by rw [Qa7] at h; cases h) (fun n6 ih t h => ?_) N (w64 (p1 + 1), p3) h
  obtain ⟨y2, y3⟩ := t
  rw [Qa7] at h
  skip
  refine wsq ?_
  refine wx tbk [] trivial ?_
  rcases bft ((decide (y2 < p2))) with hc7 | hc7
  ·replace h := Qav hc7 h
   refine wft hc7 (by kernel_rfl) ?_
   refine Qao ?_
   refine thn ?_
   obtain ⟨k9, hk_k9, h⟩ := jko h
   refine wjn (τ := (List GPiece)) (fun t => k9 t = some r) (fun y8 => ⟨mk 53 [(0, (.own 0 3 (0) (p0))), (1, I p1), (2, I p2), (3, Ql4), (8, I y2)], [(.own 3 ((y8 : List GPiece).map Qap)), Qjj]⟩) (fun y8 h => ?_) ?_
   ·subst hk_k9
    refine wx1 tbk [] trivial ?_
    refine thn ?_
    exact arm (mto (n := 53) [(0, (.own 0 3 (0) (p0))), (1, I p1), (2, I p2), (3, Ql4), (8, (I (w64 (y2 + 1))))] [0, 1] [(.own 3 ((y8 : List GPiece).map Qap)), Qjj] hφ0 (pc (.rn (Qaf rfl)) (pc rwl (pc rwl (pc (.rn (Qaq rn0 (rnc (rqr rfl) rn0))) (pc rwl pn))))) (qc (spr Qah) (qc (spb (lc (.rn (Qaq rn0 rn0)) ln)) qn))) (ih (w64 (y2 + 1), y8) h)
   ·skip
    refine Qak ?_
    refine wx tbk [] trivial ?_
    refine Qak ?_
    refine wmr (mto (n := 53) (l' := [(0, (.own 0 3 (0) (p0))), (1, I p1), (2, I p2), (3, Ql4), (8, I y2), (9, I y2)]) (own' := [(Qrz y3), Qjj]) [(0, (.own 0 3 (0) (p0))), (1, I p1), (2, I p2), (3, Ql4), (8, I y2), (9, I y2)] [0, 1] [(Qrz y3), Qjj] hφ0 (pc (.rn (Qaf rfl)) (pc rwl (pc rwl (pc (.rn (Qaq rn0 (rnc (rqr rfl) rn0))) (pc rwl (pc rwl pn)))))) (qc (spr Qah) (qc (spb (lc (.rn (Qaq rn0 rn0)) ln)) qn))) ?_
    refine Qb1 (τ := Int × (List GPiece)) (fun n t => Qa6 N p0 p1 k9 n t.1 t.2 = some r) (fun ⟨y10, y11⟩ => ⟨mk 53 [(0, (.own 0 3 (0) (p0))), (1, I p1), (2, I p2), (3, Ql4), (8, I y2), (9, I y10)], [(Qgk y11), Qjj]⟩) (fun t h => by rw [Qa6] at h; cases h) (fun n14 ih t h => ?_) N (y2, y3) h
    obtain ⟨y10, y11⟩ := t
    rw [Qa6] at h
    skip
    obtain ⟨k15, hk_k15, h⟩ := jko h
    refine wjn (τ := Unit) (fun t => k15 t = some r) (fun _ => ⟨mk 53 [(0, (.own 0 3 (0) (p0))), (1, I p1), (2, I p2), (3, Ql4), (8, I y2), (9, I y10)], [(Qgk y11), Qjj]⟩) (fun t h => ?_) ?_
    ·subst hk_k15
     refine wsq ?_
     refine Qak ?_
     obtain ⟨hi16, h⟩ := cko h
     obtain ⟨hi16a, hi16b⟩ := Qaz hi16
     obtain ⟨x17, hg18, h⟩ := bno h
     obtain ⟨hi19, h⟩ := cko h
     obtain ⟨hi19a, hi19b⟩ := Qaz hi19
     obtain ⟨x20, hg21, h⟩ := bno h
     obtain ⟨hi22, h⟩ := cko h
     obtain ⟨hi22a, hi22b⟩ := Qaz hi22
     obtain ⟨x23, hg24, h⟩ := bno h
     obtain ⟨hi25, h⟩ := cko h
     obtain ⟨hi25a, hi25b⟩ := Qaz hi25
     obtain ⟨x26, hg27, h⟩ := bno h
     refine wy1 tbk [(8, rb [(.tmp 42, (.own 0 3 (0) (p0))), (.tmp 44, (I (w64 (y10 - 1))))] [(0, (Qgk y11))] (.ref 0 3 ((w64 (y10 - 1)).toNat) 0)), (9, rb [(.tmp 45, (.ref 0 3 ((w64 (y10 - 1)).toNat) 0))] [(0, (Qgk y11))] (z30_9 x17)), (12, rb [(.tmp 47, (.own 0 3 (0) (p0))), (.tmp 48, I y10)] [(0, (Qgk y11))] (.ref 0 3 (y10.toNat) 0)), (13, rb [(.tmp 49, (.ref 0 3 (y10.toNat) 0))] [(0, (Qgk y11))] (z30_10 x20)), (14, rb [(.tmp 37, (.own 0 3 (0) (p0))), (.tmp 38, I y10)] [(0, (Qgk y11))] (.ref 0 3 (y10.toNat) 0)), (15, ⟨[(.tmp 51, (.ref 0 3 (y10.toNat) 0)), (.tmp 46, (z30_9 x17))], [(0, (Qgk y11))], .any, [(0, (Qtj y11 y10 x17))], false⟩), (16, rb [(.tmp 39, (.own 0 3 (0) (p0))), (.tmp 41, (I (w64 (y10 - 1))))] [(0, (Qtj y11 y10 x17))] (.ref 0 3 ((w64 (y10 - 1)).toNat) 0)), (17, ⟨[(.tmp 52, (.ref 0 3 ((w64 (y10 - 1)).toNat) 0)), (.tmp 50, (z30_10 x20))], [(0, (Qtj y11 y10 x17))], .any, [(0, (Qx7 y11 y10 x17 x20))], false⟩)] ⟨aio rfl Try.underlying158 Qd3 (odt hi16a) (odt hi16b) (Nat.zero_add _), ald rfl Qd3 (by decide) (mgt Qap hg18) (nle rfl) rfl, aio rfl Try.underlying158 Qd3 (odt hi19a) (odt hi19b) (Nat.zero_add _), ald rfl Qd3 (by decide) (mgt Qap hg21) (nle rfl) rfl, aio rfl Try.underlying158 Qd3 (odt hi22a) (odt hi22b) (Nat.zero_add _), ast rfl Qd3 (by rfl) (mgt Qap hg24) (nle rfl) (Qfx Qap rfl), aio rfl Try.underlying158 Qd3 (odt hi25a) (odt hi25b) (Nat.zero_add _), ast rfl Qd3 (by rfl) (mgt Qap hg27) (nle rfl) (Qfx Qap rfl), trivial⟩ ?_
     refine bln ?_
     refine thn ?_
     refine wx1 tbk [] trivial ?_
     refine thn ?_
     exact arm (mto (n := 53) [(0, (.own 0 3 (0) (p0))), (1, I p1), (2, I p2), (3, Ql4), (8, I y2), (9, (I (w64 (y10 - 1))))] [0, 1] [(Qx7 y11 y10 x17 x20), Qjj] hφ0 (pc (.rn (Qaf rfl)) (pc rwl (pc rwl (pc (.rn (Qaq rn0 (rnc (rqr rfl) rn0))) (pc rwl (pc rwl pn)))))) (qc (spr Qah) (qc (spb (lc (.rn (Qaq rn0 rn0)) ln)) qn))) (ih (w64 (y10 - 1), (y11.set y10.toNat (⟨x17.unit, (⟨x17.Part.Width, x17.Part.Gain⟩ : GPart)⟩ : GPiece)).set ((w64 (y10 - 1)).toNat) (⟨x20.unit, (⟨x20.Part.Width, x20.Part.Gain⟩ : GPart)⟩ : GPiece)) h)
    ·skip
     rcases bft ((decide (y10 > p1))) with hb28 | hb28
     ·replace h := Qav hb28 h
      obtain ⟨hi29, h⟩ := cko h
      obtain ⟨hi29a, hi29b⟩ := Qaz hi29
      obtain ⟨x30, hg31, h⟩ := bno h
      obtain ⟨hi32, h⟩ := cko h
      obtain ⟨hi32a, hi32b⟩ := Qaz hi32
      obtain ⟨x33, hg34, h⟩ := bno h
      obtain ⟨x36, hf35, h⟩ := bno h
      refine wxd tbk [(3, rp [(.tmp 20, (B ((decide (y10 > p1)))))] (B true)), (7, rb [(.tmp 21, B true), (.tmp 23, (.own 0 3 (0) (p0))), (.tmp 24, I y10)] [(0, (Qgk y11))] (.ref 0 3 (y10.toNat) 0)), (8, rb [(.tmp 21, B true), (.tmp 25, (.ref 0 3 (y10.toNat) 0))] [(0, (Qgk y11))] (z30_83 x30)), (12, rb [(.tmp 21, B true), (.tmp 27, (.own 0 3 (0) (p0))), (.tmp 29, (I (w64 (y10 - 1))))] [(0, (Qgk y11))] (.ref 0 3 ((w64 (y10 - 1)).toNat) 0)), (13, rb [(.tmp 21, B true), (.tmp 30, (.ref 0 3 ((w64 (y10 - 1)).toNat) 0))] [(0, (Qgk y11))] (Qx6 x33)), (14, ⟨[(.tmp 21, B true), (.tmp 22, Ql4), (.tmp 26, (z30_83 x30)), (.tmp 31, (Qx6 x33))], [(1, Qjj)], I x36, [(1, Qjj)], false⟩)] ⟨asb hb28 (amv rfl), ag_ (aio rfl Try.underlying158 Qd3 (odt hi29a) (odt hi29b) (Nat.zero_add _)), ag_ (ald rfl Qd3 (by decide) (mgt Qap hg31) (nle rfl) rfl), ag_ (aio rfl Try.underlying158 Qd3 (odt hi32a) (odt hi32b) (Nat.zero_add _)), ag_ (ald rfl Qd3 (by decide) (mgt Qap hg34) (nle rfl) rfl), ag_ (Qam (first := []) (cap := [.ref 1 1 0 0]) (vs := [(.agg [(I ((⟨x30.unit, (⟨x30.Part.Width, x30.Part.Gain⟩ : GPart)⟩ : GPiece).unit)), (I ((⟨x30.unit, (⟨x30.Part.Width, x30.Part.Gain⟩ : GPart)⟩ : GPiece).Part.Width)), (I ((⟨x30.unit, (⟨x30.Part.Width, x30.Part.Gain⟩ : GPart)⟩ : GPiece).Part.Gain))]), (.agg [(I ((⟨x33.unit, (⟨x33.Part.Width, x33.Part.Gain⟩ : GPart)⟩ : GPiece).unit)), (I ((⟨x33.unit, (⟨x33.Part.Width, x33.Part.Gain⟩ : GPart)⟩ : GPiece).Part.Width)), (I ((⟨x33.unit, (⟨x33.Part.Width, x33.Part.Gain⟩ : GPart)⟩ : GPiece).Part.Gain))])]) (σr := [Qjj]) (σr' := [Qjj]) (res' := (I x36)) [1] rfl Qn6 (Qcx N (⟨x30.unit, (⟨x30.Part.Width, x30.Part.Gain⟩ : GPart)⟩ : GPiece) (⟨x33.unit, (⟨x33.Part.Width, x33.Part.Gain⟩ : GPart)⟩ : GPiece) _ hf35) rfl (Qbi (rnc (.plain _ (NLt.agg _ (nlc nll (nlc nll (nlc nll nl0))))) (rnc (.plain _ (NLt.agg _ (nlc nll (nlc nll (nlc nll nl0))))) (rnc (Qax rfl) rn0)))) (slc (Qai (rnc (.plain _ (NLt.fn _ _ _ nl0 nl0)) rn0)) Qal) (slc (Qai (rnc (.plain _ (NLt.fn _ _ _ nl0 nl0)) rn0)) Qal) (.plain _ nll) rfl rfl rfl), trivial⟩ ?_
      rcases bft ((decide (x36 < 0))) with hc37 | hc37
      ·replace h := Qav hc37 h
       refine wft hc37 (by kernel_rfl) ?_
       refine Qao ?_
       refine thn ?_
       exact ⟨(), h, (mto (n := 53) [(0, (.own 0 3 (0) (p0))), (1, I p1), (2, I p2), (3, Ql4), (8, I y2), (9, I y10)] [0, 1] [(Qgk y11), Qjj] hφ0 (pc (.rn (Qaf rfl)) (pc rwl (pc rwl (pc (.rn (Qaq rn0 (rnc (rqr rfl) rn0))) (pc rwl (pc rwl pn)))))) (qc (spr Qah) (qc (spb (lc (.rn (Qaq rn0 rn0)) ln)) qn)))⟩
      ·replace h := Qaw hc37 h
       refine wfn hc37 (by kernel_rfl) ?_
       refine Qbh ?_
       refine Qar ?_
       refine Qar ?_
       refine Qbg rfl ?_
       refine bln ?_
       refine thn ?_
       exact ⟨(y11), h, (mto (n := 53) [(0, (.own 0 3 (0) (p0))), (1, I p1), (2, I p2), (3, Ql4), (8, I y2)] [0, 1] [(Qgk y11), Qjj] hφ0 (pc (.rn (Qaf rfl)) (pc rwl (pc rwl (pc (.rn (Qaq rn0 (rnc (rqr rfl) rn0))) (pc rwl pn))))) (qc (spr Qah) (qc (spb (lc (.rn (Qaq rn0 rn0)) ln)) qn)))⟩
     ·replace h := Qaw hb28 h
      refine wxd tbk [(3, rp [(.tmp 20, (B ((decide (y10 > p1)))))] (B false))] ⟨asb hb28 (amv rfl), trivial⟩ ?_
      refine Qgg (by kernel_rfl) ?_
      refine Qbh ?_
      refine Qar ?_
      refine Qar ?_
      refine Qbg rfl ?_
      refine bln ?_
      refine thn ?_
      exact ⟨(y11), h, (mto (n := 53) [(0, (.own 0 3 (0) (p0))), (1, I p1), (2, I p2), (3, Ql4), (8, I y2)] [0, 1] [(Qgk y11), Qjj] hφ0 (pc (.rn (Qaf rfl)) (pc rwl (pc rwl (pc (.rn (Qaq rn0 (rnc (rqr rfl) rn0))) (pc rwl pn))))) (qc (spr Qah) (qc (spb (lc (.rn (Qaq rn0 rn0)) ln)) qn)))⟩
  ·replace h := Qaw hc7 h
   refine wfn hc7 (by kernel_rfl) ?_
   refine Qbh ?_
   refine Qar ?_
   refine Qar ?_
   refine Qbg rfl ?_
   obtain rfl := osi h
   exact ⟨_, (mto (n := 53) (l' := []) (own' := [(Qrz y3), Qjj]) [] [0, 1] [(Qrz y3), Qjj] hφ0 pn (qc (spr Qah) (qc (spb (lc (.rn (Qaq rn0 rn0)) ln)) qn))), Qbx (vs := []) trivial rfl (NLt.tup _ nl0) (by kernel_rfl) (Qag (Qgm Qah _) (Qag (Qas (nlc (NLt.of0 (NLt.fn _ _ _ nl0 nl0)) nl0)) Qa5))⟩
def Qbl (N : Nat) (p0 : Nat) (p1 : Int) (p2 : Int) (p3 : Int) : Nat → Int → (List GPiece) → Option (List GPiece)
  | 0, _, _ => none
  | n6 + 1, y2, y3 =>
    bif (decide (y2 < p3)) then
     chk (decide (0 ≤ w64 (p2 + y2)) && decide ((w64 (p2 + y2)).toNat < p0)) <|
     (y3[(w64 (p2 + y2)).toNat]?).bind fun x9 =>
     chk (decide (0 ≤ w64 (p1 + y2)) && decide ((w64 (p1 + y2)).toNat < p0)) <|
     (y3[(w64 (p1 + y2)).toNat]?).bind fun x12 =>
     chk (decide (0 ≤ w64 (p1 + y2)) && decide ((w64 (p1 + y2)).toNat < p0)) <|
     (y3[(w64 (p1 + y2)).toNat]?).bind fun _ =>
     chk (decide (0 ≤ w64 (p2 + y2)) && decide ((w64 (p2 + y2)).toNat < p0)) <|
     ((y3.set ((w64 (p1 + y2)).toNat) (⟨x9.unit, (⟨x9.Part.Width, x9.Part.Gain⟩ : GPart)⟩ : GPiece))[(w64 (p2 + y2)).toNat]?).bind fun _ =>
     Qbl N p0 p1 p2 p3 n6 (w64 (y2 + 1)) ((y3.set ((w64 (p1 + y2)).toNat) (⟨x9.unit, (⟨x9.Part.Width, x9.Part.Gain⟩ : GPart)⟩ : GPiece)).set ((w64 (p2 + y2)).toNat) (⟨x12.unit, (⟨x12.Part.Width, x12.Part.Gain⟩ : GPart)⟩ : GPiece))
    else
     some y3
def Qbu (N : Nat) (p0 : Nat) (p1 : Int) (p2 : Int) (p3 : Int) (p4 : (List GPiece)) : Option (List GPiece) :=
  Qbl N p0 p1 p2 p3 N 0 p4
def z35_0 (p4 : (List GPiece)) : Slot := .own 3 ((p4 : List GPiece).map Qap)
def Qnp : Slot := .own 1 [[(.fn (.func 106) [] [])]]
def Qmj (y3 : (List GPiece)) : Slot := .own 3 ((y3 : List GPiece).map Qap)
def z35_20 (x9 : GPiece) : AV := .agg [(I (x9.unit)), (I (x9.Part.Width)), (I (x9.Part.Gain))]
def z35_23 (x12 : GPiece) : AV := .agg [(I (x12.unit)), (I (x12.Part.Width)), (I (x12.Part.Gain))]
def Qxr (y3 : (List GPiece)) (p1 : Int) (y2 : Int) (x9 : GPiece) : Slot := .own 3 ((y3.set ((w64 (p1 + y2)).toNat) (⟨x9.unit, (⟨x9.Part.Width, x9.Part.Gain⟩ : GPart)⟩ : GPiece) : List GPiece).map Qap)
def z35_25 (y3 : (List GPiece)) (p1 : Int) (y2 : Int) (x9 : GPiece) (p2 : Int) (x12 : GPiece) : Slot := .own 3 (((y3.set ((w64 (p1 + y2)).toNat) (⟨x9.unit, (⟨x9.Part.Width, x9.Part.Gain⟩ : GPart)⟩ : GPiece)).set ((w64 (p2 + y2)).toNat) (⟨x12.unit, (⟨x12.Part.Width, x12.Part.Gain⟩ : GPart)⟩ : GPiece) : List GPiece).map Qap)
set_option maxRecDepth 100000 in
set_option maxHeartbeats 4000000 in
theorem Qct (N : Nat) (p0 : Nat) (p1 : Int) (p2 : Int) (p3 : Int) (p4 : (List GPiece)) (r : (List GPiece)) (h : Qbu N p0 p1 p2 p3 p4 = some r) : Spec Try.prog 138 [(.own 0 3 (0) (p0)), (I (p1)), (I (p2)), (I (p3)), (.fn (.func 124) [] [(.ref 1 1 (0) 0)])] [(z35_0 p4), Qnp] (.tup []) [(.own 3 ((r : List GPiece).map Qap)), Qnp] := by
  refine Qac Try.func138 rfl 2 (nle rfl) (fun X φ0 w0 hφ0 => ?_)
  unfold Qbu at h
  refine Qbj ?_
  refine wx tbk [] trivial ?_
  refine Qak ?_
  refine wmr (mto (n := 38) (l' := [(0, (.own 0 3 (0) (p0))), (1, I p1), (2, I p2), (3, I p3), (10, I 0)]) (own' := [(z35_0 p4), Qnp]) [(0, (.own 0 3 (0) (p0))), (1, I p1), (2, I p2), (3, I p3), (10, I 0)] [0, 1] [(z35_0 p4), Qnp] hφ0 (pc (.rn (Qaf rfl)) (pc rwl (pc rwl (pc rwl (pc rwl pn))))) (qc (spr Qah) (qc (spb (lc (.rn (Qaq rn0 rn0)) ln)) qn))) ?_
  refine Qb1 (τ := Int × (List GPiece)) (fun n t => Qbl N p0 p1 p2 p3 n t.1 t.2 = some r) (fun ⟨y2, y3⟩ => ⟨mk 38 [(0, (.own 0 3 (0) (p0))), (1, I p1), (2, I p2), (3, I p3), (10, I y2)], [(Qmj y3), Qnp]⟩) (fun t h => by rw [Qbl] at h; cases h) (fun n6 ih t h => ?_) N (0, p4) h
  obtain ⟨y2, y3⟩ := t
  rw [Qbl] at h
  skip
  refine wsq ?_
  refine wx tbk [] trivial ?_
  rcases bft ((decide (y2 < p3))) with hc7 | hc7
  ·replace h := Qav hc7 h
   refine wft hc7 (by kernel_rfl) ?_
   refine Qao ?_
   refine thn ?_
   refine wsq ?_
   refine Qak ?_
   obtain ⟨hi8, h⟩ := cko h
   obtain ⟨hi8a, hi8b⟩ := Qaz hi8
   obtain ⟨x9, hg10, h⟩ := bno h
   obtain ⟨hi11, h⟩ := cko h
   obtain ⟨hi11a, hi11b⟩ := Qaz hi11
   obtain ⟨x12, hg13, h⟩ := bno h
   obtain ⟨hi14, h⟩ := cko h
   obtain ⟨hi14a, hi14b⟩ := Qaz hi14
   obtain ⟨x15, hg16, h⟩ := bno h
   obtain ⟨hi17, h⟩ := cko h
   obtain ⟨hi17a, hi17b⟩ := Qaz hi17
   obtain ⟨x18, hg19, h⟩ := bno h
   refine wy1 tbk [(12, rb [(.tmp 24, (.own 0 3 (0) (p0))), (.tmp 27, (I (w64 (p2 + y2))))] [(0, (Qmj y3))] (.ref 0 3 ((w64 (p2 + y2)).toNat) 0)), (13, rb [(.tmp 28, (.ref 0 3 ((w64 (p2 + y2)).toNat) 0))] [(0, (Qmj y3))] (z35_20 x9)), (18, rb [(.tmp 30, (.own 0 3 (0) (p0))), (.tmp 33, (I (w64 (p1 + y2))))] [(0, (Qmj y3))] (.ref 0 3 ((w64 (p1 + y2)).toNat) 0)), (19, rb [(.tmp 34, (.ref 0 3 ((w64 (p1 + y2)).toNat) 0))] [(0, (Qmj y3))] (z35_23 x12)), (20, rb [(.tmp 16, (.own 0 3 (0) (p0))), (.tmp 19, (I (w64 (p1 + y2))))] [(0, (Qmj y3))] (.ref 0 3 ((w64 (p1 + y2)).toNat) 0)), (21, ⟨[(.tmp 36, (.ref 0 3 ((w64 (p1 + y2)).toNat) 0)), (.tmp 29, (z35_20 x9))], [(0, (Qmj y3))], .any, [(0, (Qxr y3 p1 y2 x9))], false⟩), (22, rb [(.tmp 20, (.own 0 3 (0) (p0))), (.tmp 23, (I (w64 (p2 + y2))))] [(0, (Qxr y3 p1 y2 x9))] (.ref 0 3 ((w64 (p2 + y2)).toNat) 0)), (23, ⟨[(.tmp 37, (.ref 0 3 ((w64 (p2 + y2)).toNat) 0)), (.tmp 35, (z35_23 x12))], [(0, (Qxr y3 p1 y2 x9))], .any, [(0, (z35_25 y3 p1 y2 x9 p2 x12))], false⟩)] ⟨aio rfl Try.underlying158 Qd3 (odt hi8a) (odt hi8b) (Nat.zero_add _), ald rfl Qd3 (by decide) (mgt Qap hg10) (nle rfl) rfl, aio rfl Try.underlying158 Qd3 (odt hi11a) (odt hi11b) (Nat.zero_add _), ald rfl Qd3 (by decide) (mgt Qap hg13) (nle rfl) rfl, aio rfl Try.underlying158 Qd3 (odt hi14a) (odt hi14b) (Nat.zero_add _), ast rfl Qd3 (by rfl) (mgt Qap hg16) (nle rfl) (Qfx Qap rfl), aio rfl Try.underlying158 Qd3 (odt hi17a) (odt hi17b) (Nat.zero_add _), ast rfl Qd3 (by rfl) (mgt Qap hg19) (nle rfl) (Qfx Qap rfl), trivial⟩ ?_
   refine bln ?_
   refine thn ?_
   refine wx1 tbk [] trivial ?_
   refine thn ?_
   exact arm (mto (n := 38) [(0, (.own 0 3 (0) (p0))), (1, I p1), (2, I p2), (3, I p3), (10, (I (w64 (y2 + 1))))] [0, 1] [(z35_25 y3 p1 y2 x9 p2 x12), Qnp] hφ0 (pc (.rn (Qaf rfl)) (pc rwl (pc rwl (pc rwl (pc rwl pn))))) (qc (spr Qah) (qc (spb (lc (.rn (Qaq rn0 rn0)) ln)) qn))) (ih (w64 (y2 + 1), (y3.set ((w64 (p1 + y2)).toNat) (⟨x9.unit, (⟨x9.Part.Width, x9.Part.Gain⟩ : GPart)⟩ : GPiece)).set ((w64 (p2 + y2)).toNat) (⟨x12.unit, (⟨x12.Part.Width, x12.Part.Gain⟩ : GPart)⟩ : GPiece)) h)
  ·replace h := Qaw hc7 h
   refine wfn hc7 (by kernel_rfl) ?_
   refine Qbh ?_
   refine Qar ?_
   refine Qar ?_
   refine Qbg rfl ?_
   obtain rfl := osi h
   exact ⟨_, (mto (n := 38) (l' := []) (own' := [(Qmj y3), Qnp]) [] [0, 1] [(Qmj y3), Qnp] hφ0 pn (qc (spr Qah) (qc (spb (lc (.rn (Qaq rn0 rn0)) ln)) qn))), Qbx (vs := []) trivial rfl (NLt.tup _ nl0) (by kernel_rfl) (Qag (Qgm Qah _) (Qag (Qas (nlc (NLt.of0 (NLt.fn _ _ _ nl0 nl0)) nl0)) Qa5))⟩
def Qbb (N : Nat) (p0 : Nat) (p2 : Int) (k4 : Int × (List GPiece) → Option (List GPiece)) : Nat → Int → Int → (List GPiece) → Option (List GPiece)
  | 0, _, _, _ => none
  | n13 + 1, y7, y8, y9 =>
    bif (y7 != y8) then
     bif (decide (y7 > y8)) then
      (Qbu N p0 (w64 (p2 - y7)) p2 y8 y9).bind fun x17 =>
      Qbb N p0 p2 k4 n13 (w64 (y7 - y8)) y8 x17
     else
      (Qbu N p0 (w64 (p2 - y7)) (w64 ((w64 (p2 + y8)) - y7)) y7 y9).bind fun x19 =>
      Qbb N p0 p2 k4 n13 y7 (w64 (y8 - y7)) x19
    else
     k4 (y7, y9)
def Qdd (N : Nat) (p0 : Nat) (p1 : Int) (p2 : Int) (p3 : Int) (p4 : (List GPiece)) : Option (List GPiece) :=
  Qdu (fun ⟨y2, y3⟩ =>
    (Qbu N p0 (w64 (p2 - y2)) p2 y2 y3).bind fun x6 =>
    some x6) fun k4 : Int × (List GPiece) → Option (List GPiece) =>
  Qbb N p0 p2 k4 N (w64 (p2 - p1)) (w64 (p3 - p2)) p4
def Qmk : AV := .fn (.func 124) [] [(.ref 1 1 (0) 0)]
def z34_1 (p4 : (List GPiece)) : Slot := .own 3 ((p4 : List GPiece).map Qap)
def Qi2 : Slot := .own 1 [[(.fn (.func 106) [] [])]]
def z34_5 (y3 : (List GPiece)) : Slot := .own 3 ((y3 : List GPiece).map Qap)
def Qut (x6 : (List GPiece)) : Slot := .own 3 ((x6 : List GPiece).map Qap)
def Qpi (y9 : (List GPiece)) : Slot := .own 3 ((y9 : List GPiece).map Qap)
def Qxt (x17 : (List GPiece)) : Slot := .own 3 ((x17 : List GPiece).map Qap)
def Qxs (x19 : (List GPiece)) : Slot := .own 3 ((x19 : List GPiece).map Qap)
set_option maxRecDepth 100000 in
set_option maxHeartbeats 4000000 in
theorem Qga (N : Nat) (p0 : Nat) (p1 : Int) (p2 : Int) (p3 : Int) (p4 : (List GPiece)) (r : (List GPiece)) (h : Qdd N p0 p1 p2 p3 p4 = some r) : Spec Try.prog 137 [(.own 0 3 (0) (p0)), (I (p1)), (I (p2)), (I (p3)), Qmk] [(z34_1 p4), Qi2] (.tup []) [(.own 3 ((r : List GPiece).map Qap)), Qi2] := by
  refine Qac Try.func137 rfl 2 (nle rfl) (fun X φ0 w0 hφ0 => ?_)
  unfold Qdd at h
  refine Qbj ?_
  refine wx tbk [] trivial ?_
  refine wx tbk [] trivial ?_
  obtain ⟨k4, hk_k4, h⟩ := jko h
  refine wjn (τ := Int × (List GPiece)) (fun t => k4 t = some r) (fun ⟨y2, y3⟩ => ⟨mk 58 [(0, (.own 0 3 (0) (p0))), (2, I p2), (4, Qmk), (10, I y2)], [(z34_5 y3), Qi2]⟩) (fun t h => ?_) ?_
  ·subst hk_k4
   obtain ⟨y2, y3⟩ := t
   obtain ⟨x6, hf5, h⟩ := bno h
   refine wx1 tbk [(7, ⟨[fu 138, (.tmp 50, (.own 0 3 (0) (p0))), (.tmp 53, (I (w64 (p2 - y2)))), (.tmp 54, I p2), (.tmp 55, I y2), (.tmp 56, Qmk)], [(0, (z34_5 y3)), (1, Qi2)], (.tup []), [(0, (Qut x6)), (1, Qi2)], false⟩)] ⟨Qam (first := []) (cap := []) (vs := [(.own 0 3 (0) (p0)), (I (w64 (p2 - y2))), I p2, I y2, Qmk]) (σr := [(z34_5 y3), Qi2]) (σr' := [(Qut x6), Qi2]) (res' := (.tup [])) [0, 1] rfl Qq0 (Qct N p0 (w64 (p2 - y2)) p2 y2 y3 _ hf5) rfl (Qbi (rnc (Qej rfl) (rnc (.plain _ nll) (rnc (.plain _ nll) (rnc (.plain _ nll) (rnc (Qaq rn0 (rnc (Qax rfl) rn0)) rn0)))))) (slc (Qcn Qah) (slc (Qai (rnc (.plain _ (NLt.fn _ _ _ nl0 nl0)) rn0)) Qal)) (slc (Qcn Qah) (slc (Qai (rnc (.plain _ (NLt.fn _ _ _ nl0 nl0)) rn0)) Qal)) (.plain _ (NLt.tup _ nl0)) rfl rfl rfl, trivial⟩ ?_
   obtain rfl := osi h
   exact ⟨_, (mto (n := 58) (l' := []) (own' := [(Qut x6), Qi2]) [] [0, 1] [(Qut x6), Qi2] hφ0 pn (qc (spr Qah) (qc (spb (lc (.rn (Qaq rn0 rn0)) ln)) qn))), Qbx (vs := []) trivial rfl (NLt.tup _ nl0) (by kernel_rfl) (Qag (Qgm Qah _) (Qag (Qas (nlc (NLt.of0 (NLt.fn _ _ _ nl0 nl0)) nl0)) Qa5))⟩
  ·skip
   refine Qak ?_
   refine wmr (mto (n := 58) (l' := [(0, (.own 0 3 (0) (p0))), (2, I p2), (4, Qmk), (10, (I ((w64 (p2 - p1))))), (11, (I ((w64 (p3 - p2)))))]) (own' := [(z34_1 p4), Qi2]) [(0, (.own 0 3 (0) (p0))), (2, I p2), (4, Qmk), (10, (I (w64 (p2 - p1)))), (11, (I (w64 (p3 - p2))))] [0, 1] [(z34_1 p4), Qi2] hφ0 (pc (.rn (Qaf rfl)) (pc rwl (pc (.rn (Qaq rn0 (rnc (rqr rfl) rn0))) (pc rwl (pc rwl pn))))) (qc (spr Qah) (qc (spb (lc (.rn (Qaq rn0 rn0)) ln)) qn))) ?_
   refine Qb1 (τ := Int × Int × (List GPiece)) (fun n t => Qbb N p0 p2 k4 n t.1 t.2.1 t.2.2 = some r) (fun ⟨y7, y8, y9⟩ => ⟨mk 58 [(0, (.own 0 3 (0) (p0))), (2, I p2), (4, Qmk), (10, I y7), (11, I y8)], [(Qpi y9), Qi2]⟩) (fun t h => by rw [Qbb] at h; cases h) (fun n13 ih t h => ?_) N (w64 (p2 - p1), w64 (p3 - p2), p4) h
   obtain ⟨y7, y8, y9⟩ := t
   rw [Qbb] at h
   skip
   refine wsq ?_
   refine wx tbk [] trivial ?_
   rcases bft ((y7 != y8)) with hc14 | hc14
   ·replace h := Qav hc14 h
    refine wft hc14 (by kernel_rfl) ?_
    refine Qao ?_
    refine thn ?_
    refine Qak ?_
    refine wx tbk [] trivial ?_
    rcases bft ((decide (y7 > y8))) with hc15 | hc15
    ·replace h := Qav hc15 h
     refine wft hc15 (by kernel_rfl) ?_
     obtain ⟨x17, hf16, h⟩ := bno h
     refine wx tbk [(7, ⟨[fu 138, (.tmp 24, (.own 0 3 (0) (p0))), (.tmp 27, (I (w64 (p2 - y7)))), (.tmp 28, I p2), (.tmp 29, I y8), (.tmp 30, Qmk)], [(0, (Qpi y9)), (1, Qi2)], (.tup []), [(0, (Qxt x17)), (1, Qi2)], false⟩)] ⟨Qam (first := []) (cap := []) (vs := [(.own 0 3 (0) (p0)), (I (w64 (p2 - y7))), I p2, I y8, Qmk]) (σr := [(Qpi y9), Qi2]) (σr' := [(Qxt x17), Qi2]) (res' := (.tup [])) [0, 1] rfl Qq0 (Qct N p0 (w64 (p2 - y7)) p2 y8 y9 _ hf16) rfl (Qbi (rnc (Qej rfl) (rnc (.plain _ nll) (rnc (.plain _ nll) (rnc (.plain _ nll) (rnc (Qaq rn0 (rnc (Qax rfl) rn0)) rn0)))))) (slc (Qcn Qah) (slc (Qai (rnc (.plain _ (NLt.fn _ _ _ nl0 nl0)) rn0)) Qal)) (slc (Qcn Qah) (slc (Qai (rnc (.plain _ (NLt.fn _ _ _ nl0 nl0)) rn0)) Qal)) (.plain _ (NLt.tup _ nl0)) rfl rfl rfl, trivial⟩ ?_
     refine wx1 tbk [] trivial ?_
     refine bln ?_
     refine thn ?_
     exact arm (mto (n := 58) [(0, (.own 0 3 (0) (p0))), (2, I p2), (4, Qmk), (10, (I (w64 (y7 - y8)))), (11, I y8)] [0, 1] [(Qxt x17), Qi2] hφ0 (pc (.rn (Qaf rfl)) (pc rwl (pc (.rn (Qaq rn0 (rnc (rqr rfl) rn0))) (pc rwl (pc rwl pn))))) (qc (spr Qah) (qc (spb (lc (.rn (Qaq rn0 rn0)) ln)) qn))) (ih (w64 (y7 - y8), y8, x17) h)
    ·replace h := Qaw hc15 h
     refine wfn hc15 (by kernel_rfl) ?_
     obtain ⟨x19, hf18, h⟩ := bno h
     refine wx tbk [(11, ⟨[fu 138, (.tmp 35, (.own 0 3 (0) (p0))), (.tmp 38, (I (w64 (p2 - y7)))), (.tmp 43, (I (w64 ((w64 (p2 + y8)) - y7)))), (.tmp 44, I y7), (.tmp 45, Qmk)], [(0, (Qpi y9)), (1, Qi2)], (.tup []), [(0, (Qxs x19)), (1, Qi2)], false⟩)] ⟨Qam (first := []) (cap := []) (vs := [(.own 0 3 (0) (p0)), (I (w64 (p2 - y7))), (I (w64 ((w64 (p2 + y8)) - y7))), I y7, Qmk]) (σr := [(Qpi y9), Qi2]) (σr' := [(Qxs x19), Qi2]) (res' := (.tup [])) [0, 1] rfl Qq0 (Qct N p0 (w64 (p2 - y7)) (w64 ((w64 (p2 + y8)) - y7)) y7 y9 _ hf18) rfl (Qbi (rnc (Qej rfl) (rnc (.plain _ nll) (rnc (.plain _ nll) (rnc (.plain _ nll) (rnc (Qaq rn0 (rnc (Qax rfl) rn0)) rn0)))))) (slc (Qcn Qah) (slc (Qai (rnc (.plain _ (NLt.fn _ _ _ nl0 nl0)) rn0)) Qal)) (slc (Qcn Qah) (slc (Qai (rnc (.plain _ (NLt.fn _ _ _ nl0 nl0)) rn0)) Qal)) (.plain _ (NLt.tup _ nl0)) rfl rfl rfl, trivial⟩ ?_
     refine wx1 tbk [] trivial ?_
     refine bln ?_
     refine thn ?_
     exact arm (mto (n := 58) [(0, (.own 0 3 (0) (p0))), (2, I p2), (4, Qmk), (10, I y7), (11, (I (w64 (y8 - y7))))] [0, 1] [(Qxs x19), Qi2] hφ0 (pc (.rn (Qaf rfl)) (pc rwl (pc (.rn (Qaq rn0 (rnc (rqr rfl) rn0))) (pc rwl (pc rwl pn))))) (qc (spr Qah) (qc (spb (lc (.rn (Qaq rn0 rn0)) ln)) qn))) (ih (y7, w64 (y8 - y7), x19) h)
   ·replace h := Qaw hc14 h
    refine wfn hc14 (by kernel_rfl) ?_
    refine Qbh ?_
    refine Qar ?_
    refine Qar ?_
    refine Qbg rfl ?_
    refine thn ?_
    exact ⟨(y7, y9), h, (mto (n := 58) [(0, (.own 0 3 (0) (p0))), (2, I p2), (4, Qmk), (10, I y7)] [0, 1] [(Qpi y9), Qi2] hφ0 (pc (.rn (Qaf rfl)) (pc rwl (pc (.rn (Qaq rn0 (rnc (rqr rfl) rn0))) (pc rwl pn)))) (qc (spr Qah) (qc (spb (lc (.rn (Qaq rn0 rn0)) ln)) qn)))⟩
def Qa4 (N : Nat) (p0 : Nat) (p4 : (List GPiece)) (x10 : Int) (k13 : Int → Option (List GPiece)) : Nat → Int → Int → Option (List GPiece)
  | 0, _, _ => none
  | n36 + 1, y32, y33 =>
    bif (decide (y32 < y33)) then
     (some (w64 ((IntKind.wrap .u64 (w64 (y32 + y33))) / 2))).bind fun x38 =>
     chk (decide (0 ≤ w64 (x10 - x38)) && decide ((w64 (x10 - x38)).toNat < p0)) <|
     (p4[(w64 (x10 - x38)).toNat]?).bind fun x41 =>
     chk (decide (0 ≤ x38) && decide (x38.toNat < p0)) <|
     (p4[x38.toNat]?).bind fun x44 =>
     (Qb7 N (⟨x41.unit, (⟨x41.Part.Width, x41.Part.Gain⟩ : GPart)⟩ : GPiece) (⟨x44.unit, (⟨x44.Part.Width, x44.Part.Gain⟩ : GPart)⟩ : GPiece)).bind fun x47 =>
     bif (!(decide (x47 < 0))) then
      Qa4 N p0 p4 x10 k13 n36 (w64 (x38 + 1)) y33
     else
      Qa4 N p0 p4 x10 k13 n36 y32 x38
    else
     k13 (y32)
def Qbn (N : Nat) (p0 : Nat) (y53 : Int) (k56 : (List GPiece) → Option (List GPiece)) : Nat → Int → (List GPiece) → Option (List GPiece)
  | 0, _, _ => none
  | n61 + 1, y57, y58 =>
    bif (decide (y57 > y53)) then
     chk (decide (0 ≤ w64 (y57 - 1)) && decide ((w64 (y57 - 1)).toNat < p0)) <|
     (y58[(w64 (y57 - 1)).toNat]?).bind fun x64 =>
     chk (decide (0 ≤ y57) && decide (y57.toNat < p0)) <|
     (y58[y57.toNat]?).bind fun x67 =>
     chk (decide (0 ≤ y57) && decide (y57.toNat < p0)) <|
     (y58[y57.toNat]?).bind fun _ =>
     chk (decide (0 ≤ w64 (y57 - 1)) && decide ((w64 (y57 - 1)).toNat < p0)) <|
     ((y58.set y57.toNat (⟨x64.unit, (⟨x64.Part.Width, x64.Part.Gain⟩ : GPart)⟩ : GPiece))[(w64 (y57 - 1)).toNat]?).bind fun _ =>
     Qbn N p0 y53 k56 n61 (w64 (y57 - 1)) ((y58.set y57.toNat (⟨x64.unit, (⟨x64.Part.Width, x64.Part.Gain⟩ : GPart)⟩ : GPiece)).set ((w64 (y57 - 1)).toNat) (⟨x67.unit, (⟨x67.Part.Width, x67.Part.Gain⟩ : GPart)⟩ : GPiece))
    else
     k56 (y58)
def Qa3 (N : Nat) (p0 : Nat) (p2 : Int) (p4 : (List GPiece)) (k54 : Int → Option (List GPiece)) : Nat → Int → Int → Option (List GPiece)
  | 0, _, _ => none
  | n79 + 1, y75, y76 =>
    bif (decide (y75 < y76)) then
     (some (w64 ((IntKind.wrap .u64 (w64 (y75 + y76))) / 2))).bind fun x81 =>
     chk (decide (0 ≤ p2) && decide (p2.toNat < p0)) <|
     (p4[p2.toNat]?).bind fun x84 =>
     chk (decide (0 ≤ x81) && decide (x81.toNat < p0)) <|
     (p4[x81.toNat]?).bind fun x87 =>
     (Qb7 N (⟨x84.unit, (⟨x84.Part.Width, x84.Part.Gain⟩ : GPart)⟩ : GPiece) (⟨x87.unit, (⟨x87.Part.Width, x87.Part.Gain⟩ : GPart)⟩ : GPiece)).bind fun x90 =>
     bif (!(decide (x90 < 0))) then
      Qa3 N p0 p2 p4 k54 n79 (w64 (x81 + 1)) y76
     else
      Qa3 N p0 p2 p4 k54 n79 y75 x81
    else
     k54 (y75)
def Qbm (N : Nat) (p0 : Nat) (y93 : Int) (k96 : (List GPiece) → Option (List GPiece)) : Nat → Int → (List GPiece) → Option (List GPiece)
  | 0, _, _ => none
  | n101 + 1, y97, y98 =>
    bif (decide (y97 < (w64 (y93 - 1)))) then
     chk (decide (0 ≤ w64 (y97 + 1)) && decide ((w64 (y97 + 1)).toNat < p0)) <|
     (y98[(w64 (y97 + 1)).toNat]?).bind fun x104 =>
     chk (decide (0 ≤ y97) && decide (y97.toNat < p0)) <|
     (y98[y97.toNat]?).bind fun x107 =>
     chk (decide (0 ≤ y97) && decide (y97.toNat < p0)) <|
     (y98[y97.toNat]?).bind fun _ =>
     chk (decide (0 ≤ w64 (y97 + 1)) && decide ((w64 (y97 + 1)).toNat < p0)) <|
     ((y98.set y97.toNat (⟨x104.unit, (⟨x104.Part.Width, x104.Part.Gain⟩ : GPart)⟩ : GPiece))[(w64 (y97 + 1)).toNat]?).bind fun _ =>
     Qbm N p0 y93 k96 n101 (w64 (y97 + 1)) ((y98.set y97.toNat (⟨x104.unit, (⟨x104.Part.Width, x104.Part.Gain⟩ : GPart)⟩ : GPiece)).set ((w64 (y97 + 1)).toNat) (⟨x107.unit, (⟨x107.Part.Width, x107.Part.Gain⟩ : GPart)⟩ : GPiece))
    else
     k96 (y98)
def Qa2 (N : Nat) (p0 : Nat) (p1 : Int) (p4 : (List GPiece)) (k94 : Int → Option (List GPiece)) : Nat → Int → Int → Option (List GPiece)
  | 0, _, _ => none
  | n119 + 1, y115, y116 =>
    bif (decide (y115 < y116)) then
     (some (w64 ((IntKind.wrap .u64 (w64 (y115 + y116))) / 2))).bind fun x121 =>
     chk (decide (0 ≤ x121) && decide (x121.toNat < p0)) <|
     (p4[x121.toNat]?).bind fun x124 =>
     chk (decide (0 ≤ p1) && decide (p1.toNat < p0)) <|
     (p4[p1.toNat]?).bind fun x127 =>
     (Qb7 N (⟨x124.unit, (⟨x124.Part.Width, x124.Part.Gain⟩ : GPart)⟩ : GPiece) (⟨x127.unit, (⟨x127.Part.Width, x127.Part.Gain⟩ : GPart)⟩ : GPiece)).bind fun x130 =>
     bif (decide (x130 < 0)) then
      Qa2 N p0 p1 p4 k94 n119 (w64 (x121 + 1)) y116
     else
      Qa2 N p0 p1 p4 k94 n119 y115 x121
    else
     k94 (y115)
def Qcq (N : Nat) (rec_ : Nat → Int → Int → Int → (List GPiece) → Option (List GPiece)) (p0 : Nat) (p1 : Int) (p2 : Int) (p3 : Int) (p4 : (List GPiece)) : Option (List GPiece) :=
  Qdu (fun _ =>
    Qdu (fun _ =>
      (some (w64 ((IntKind.wrap .u64 (w64 (p1 + p3))) / 2))).bind fun x5 =>
      Qdu (fun ⟨y7, y8⟩ =>
        (some (w64 ((w64 (x5 + p2)) - 1))).bind fun x10 =>
        Qdu (fun y12 =>
          (some (w64 ((w64 (x5 + p2)) - y12))).bind fun x14 =>
          Qdu (fun y16 =>
            Qdu (fun y18 =>
              bif (decide (x5 < x14)) then
               bif (decide (x14 < p3)) then
                (rec_ p0 x5 x14 p3 y18).bind fun x23 =>
                some x23
               else
                some y18
              else
               some y18) fun k19 : (List GPiece) → Option (List GPiece) =>
            bif (decide (p1 < y12)) then
             bif (decide (y12 < x5)) then
              (rec_ p0 p1 y12 x5 y16).bind fun x27 =>
              k19 (x27)
             else
              k19 (y16)
            else
             k19 (y16)) fun k17 : (List GPiece) → Option (List GPiece) =>
          bif (decide (y12 < p2)) then
           bif (decide (p2 < x14)) then
            (Qdd N p0 y12 p2 x14 p4).bind fun x31 =>
            k17 (x31)
           else
            k17 (p4)
          else
           k17 (p4)) fun k13 : Int → Option (List GPiece) =>
        Qa4 N p0 p4 x10 k13 N y7 y8) fun k9 : Int × Int → Option (List GPiece) =>
      bif (decide (p2 > x5)) then
       (some (w64 ((w64 (x5 + p2)) - p3))).bind fun x50 =>
       k9 (x50, x5)
      else
       k9 (p1, p2)) fun k4 : Unit → Option (List GPiece) =>
    bif ((w64 (p3 - p2)) == 1) then
     Qdu (fun y53 =>
       Qdu (fun y55 =>
         some y55) fun k56 : (List GPiece) → Option (List GPiece) =>
       Qbn N p0 y53 k56 N p2 p4) fun k54 : Int → Option (List GPiece) =>
     Qa3 N p0 p2 p4 k54 N p1 p2
    else
     k4 ()) fun k3 : Unit → Option (List GPiece) =>
  bif ((w64 (p2 - p1)) == 1) then
   Qdu (fun y93 =>
     Qdu (fun y95 =>
       some y95) fun k96 : (List GPiece) → Option (List GPiece) =>
     Qbm N p0 y93 k96 N p1 p4) fun k94 : Int → Option (List GPiece) =>
   Qa2 N p0 p1 p4 k94 N p2 p3
  else
   k3 ()
def Qbw : Nat → Nat → Int → Int → Int → (List GPiece) → Option (List GPiece)
  | 0, _, _, _, _, _ => none
  | N + 1, p0, p1, p2, p3, p4 => Qcq N (Qbw N) p0 p1 p2 p3 p4
def Qe6 : AV := .fn (.func 124) [] [(.ref 1 1 (0) 0)]
def Qd8 (p4 : (List GPiece)) : Slot := .own 3 ((p4 : List GPiece).map Qap)
def Qcg : Slot := .own 1 [[(.fn (.func 106) [] [])]]
def Qn9 (y16 : (List GPiece)) : Slot := .own 3 ((y16 : List GPiece).map Qap)
def Ql3 (y18 : (List GPiece)) : Slot := .own 3 ((y18 : List GPiece).map Qap)
def Qqc (x23 : (List GPiece)) : Slot := .own 3 ((x23 : List GPiece).map Qap)
def Qtg (x27 : (List GPiece)) : Slot := .own 3 ((x27 : List GPiece).map Qap)
def Qtf (x31 : (List GPiece)) : Slot := .own 3 ((x31 : List GPiece).map Qap)
def Qx3 (x41 : GPiece) : AV := .agg [(I (x41.unit)), (I (x41.Part.Width)), (I (x41.Part.Gain))]
def Qx2 (x44 : GPiece) : AV := .agg [(I (x44.unit)), (I (x44.Part.Width)), (I (x44.Part.Gain))]
def Qti (y55 : (List GPiece)) : Slot := .own 3 ((y55 : List GPiece).map Qap)
def Qku (y58 : (List GPiece)) : Slot := .own 3 ((y58 : List GPiece).map Qap)
def Qx5 (x64 : GPiece) : AV := .agg [(I (x64.unit)), (I (x64.Part.Width)), (I (x64.Part.Gain))]
def Qx1 (x67 : GPiece) : AV := .agg [(I (x67.unit)), (I (x67.Part.Width)), (I (x67.Part.Gain))]
def Qte (y58 : (List GPiece)) (y57 : Int) (x64 : GPiece) : Slot := .own 3 ((y58.set y57.toNat (⟨x64.unit, (⟨x64.Part.Width, x64.Part.Gain⟩ : GPart)⟩ : GPiece) : List GPiece).map Qap)
def Qx0 (y58 : (List GPiece)) (y57 : Int) (x64 : GPiece) (x67 : GPiece) : Slot := .own 3 (((y58.set y57.toNat (⟨x64.unit, (⟨x64.Part.Width, x64.Part.Gain⟩ : GPart)⟩ : GPiece)).set ((w64 (y57 - 1)).toNat) (⟨x67.unit, (⟨x67.Part.Width, x67.Part.Gain⟩ : GPart)⟩ : GPiece) : List GPiece).map Qap)
def Qxz (x84 : GPiece) : AV := .agg [(I (x84.unit)), (I (x84.Part.Width)), (I (x84.Part.Gain))]
def Qxy (x87 : GPiece) : AV := .agg [(I (x87.unit)), (I (x87.Part.Width)), (I (x87.Part.Gain))]
def Qth (y95 : (List GPiece)) : Slot := .own 3 ((y95 : List GPiece).map Qap)
def Qkt (y98 : (List GPiece)) : Slot := .own 3 ((y98 : List GPiece).map Qap)
def Qx4 (x104 : GPiece) : AV := .agg [(I (x104.unit)), (I (x104.Part.Width)), (I (x104.Part.Gain))]
def Qxx (x107 : GPiece) : AV := .agg [(I (x107.unit)), (I (x107.Part.Width)), (I (x107.Part.Gain))]
def Qtd (y98 : (List GPiece)) (y97 : Int) (x104 : GPiece) : Slot := .own 3 ((y98.set y97.toNat (⟨x104.unit, (⟨x104.Part.Width, x104.Part.Gain⟩ : GPart)⟩ : GPiece) : List GPiece).map Qap)
def Qxw (y98 : (List GPiece)) (y97 : Int) (x104 : GPiece) (x107 : GPiece) : Slot := .own 3 (((y98.set y97.toNat (⟨x104.unit, (⟨x104.Part.Width, x104.Part.Gain⟩ : GPart)⟩ : GPiece)).set ((w64 (y97 + 1)).toNat) (⟨x107.unit, (⟨x107.Part.Width, x107.Part.Gain⟩ : GPart)⟩ : GPiece) : List GPiece).map Qap)
def Qxv (x124 : GPiece) : AV := .agg [(I (x124.unit)), (I (x124.Part.Width)), (I (x124.Part.Gain))]
def Qxu (x127 : GPiece) : AV := .agg [(I (x127.unit)), (I (x127.Part.Width)), (I (x127.Part.Gain))]
set_option maxRecDepth 100000 in
set_option maxHeartbeats 4000000 in
theorem Qdw : ∀ (N : Nat) (p0 : Nat) (p1 : Int) (p2 : Int) (p3 : Int) (p4 : (List GPiece)) (r : (List GPiece)) (_ : Qbw N p0 p1 p2 p3 p4 = some r), Spec Try.prog 136 [(.own 0 3 (0) (p0)), (I (p1)), (I (p2)), (I (p3)), Qe6] [(Qd8 p4), Qcg] (.tup []) [(.own 3 ((r : List GPiece).map Qap)), Qcg] := by
  intro N
  induction N with
  | zero => intro p0 p1 p2 p3 p4 r h; exact nomatch (show (none : Option (List GPiece)) = some r from h)
  | succ N ihX =>
  intro p0 p1 p2 p3 p4 r h
  replace h : Qcq N (Qbw N) p0 p1 p2 p3 p4 = some r := h
  refine Qac Try.func136 rfl 2 (nle rfl) (fun X φ0 w0 hφ0 => ?_)
  unfold Qcq at h
  refine Qbj ?_
  obtain ⟨k3, hk_k3, h⟩ := jko h
  refine wjn (τ := Unit) (fun t => k3 t = some r) (fun _ => ⟨mk 220 [(0, (.own 0 3 (0) (p0))), (1, I p1), (2, I p2), (3, I p3), (4, Qe6)], [(Qd8 p4), Qcg]⟩) (fun t h => ?_) ?_
  ·subst hk_k3
   obtain ⟨k4, hk_k4, h⟩ := jko h
   refine wjn (τ := Unit) (fun t => k4 t = some r) (fun _ => ⟨mk 220 [(0, (.own 0 3 (0) (p0))), (1, I p1), (2, I p2), (3, I p3), (4, Qe6)], [(Qd8 p4), Qcg]⟩) (fun t h => ?_) ?_
   ·subst hk_k4
    obtain ⟨x5, hl6, h⟩ := bno h
    refine wx tbk [(3, rp [(.tmp 131, (I (w64 (p1 + p3))))] (K .u64 (IntKind.wrap .u64 (w64 (p1 + p3))))), (4, rp [(.tmp 132, (K .u64 (IntKind.wrap .u64 (w64 (p1 + p3))))), (.const (.int .u64 1), (K .u64 (1)))] (K .u64 ((IntKind.wrap .u64 (w64 (p1 + p3))) / 2))), (5, rp [(.tmp 133, (K .u64 ((IntKind.wrap .u64 (w64 (p1 + p3))) / 2)))] (I (w64 ((IntKind.wrap .u64 (w64 (p1 + p3))) / 2)))), (6, rp [(.tmp 134, (I (w64 ((IntKind.wrap .u64 (w64 (p1 + p3))) / 2))))] (I x5))] ⟨acv rfl (by rw [Try.underlying3]; rfl) Try.underlying180, Qmw rfl (by decide) (by decide), acv rfl (by rw [Try.underlying180]; rfl) Try.underlying3, Qep hl6 (aas rfl), trivial⟩ ?_
    refine wx tbk [] trivial ?_
    refine wx tbk [] trivial ?_
    obtain ⟨k9, hk_k9, h⟩ := jko h
    refine wjn (τ := Int × Int) (fun t => k9 t = some r) (fun ⟨y7, y8⟩ => ⟨mk 220 [(0, (.own 0 3 (0) (p0))), (1, I p1), (2, I p2), (3, I p3), (4, Qe6), (18, I x5), (19, (I (w64 (x5 + p2)))), (20, I y7), (21, I y8)], [(Qd8 p4), Qcg]⟩) (fun t h => ?_) ?_
    ·subst hk_k9
     obtain ⟨y7, y8⟩ := t
     obtain ⟨x10, hl11, h⟩ := bno h
     refine wx tbk [(2, rp [(.tmp 148, (I (w64 ((w64 (x5 + p2)) - 1))))] (I x10))] ⟨Qep hl11 (aas rfl), trivial⟩ ?_
     obtain ⟨k13, hk_k13, h⟩ := jko h
     refine wjn (τ := Int) (fun t => k13 t = some r) (fun y12 => ⟨mk 220 [(0, (.own 0 3 (0) (p0))), (1, I p1), (2, I p2), (3, I p3), (4, Qe6), (18, I x5), (19, (I (w64 (x5 + p2)))), (20, I y12)], [(Qd8 p4), Qcg]⟩) (fun y12 h => ?_) ?_
     ·subst hk_k13
      obtain ⟨x14, hl15, h⟩ := bno h
      refine wx tbk [(3, rp [(.tmp 177, (I (w64 ((w64 (x5 + p2)) - y12))))] (I x14))] ⟨Qep hl15 (aas rfl), trivial⟩ ?_
      obtain ⟨k17, hk_k17, h⟩ := jko h
      refine wjn (τ := (List GPiece)) (fun t => k17 t = some r) (fun y16 => ⟨mk 220 [(0, (.own 0 3 (0) (p0))), (1, I p1), (3, I p3), (4, Qe6), (18, I x5), (20, I y12), (24, I x14)], [(Qn9 y16), Qcg]⟩) (fun y16 h => ?_) ?_
      ·subst hk_k17
       obtain ⟨k19, hk_k19, h⟩ := jko h
       refine wjn (τ := (List GPiece)) (fun t => k19 t = some r) (fun y18 => ⟨mk 220 [(0, (.own 0 3 (0) (p0))), (3, I p3), (4, Qe6), (18, I x5), (24, I x14)], [(Ql3 y18), Qcg]⟩) (fun y18 h => ?_) ?_
       ·subst hk_k19
        rcases bft ((decide (x5 < x14))) with hb20 | hb20
        ·replace h := Qav hb20 h
         refine wx tbk [(3, rp [(.tmp 208, (B ((decide (x5 < x14)))))] (B true))] ⟨asb hb20 (amv rfl), trivial⟩ ?_
         rcases bft ((decide (x14 < p3))) with hc21 | hc21
         ·replace h := Qav hc21 h
          refine wft hc21 (by kernel_rfl) ?_
          obtain ⟨x23, hf22, h⟩ := bno h
          refine wx1 tbk [(5, ⟨[fu 136, (.tmp 214, (.own 0 3 (0) (p0))), (.tmp 215, I x5), (.tmp 216, I x14), (.tmp 217, I p3), (.tmp 218, Qe6)], [(0, (Ql3 y18)), (1, Qcg)], (.tup []), [(0, (Qqc x23)), (1, Qcg)], false⟩)] ⟨Qam (first := []) (cap := []) (vs := [(.own 0 3 (0) (p0)), I x5, I x14, I p3, Qe6]) (σr := [(Ql3 y18), Qcg]) (σr' := [(Qqc x23), Qcg]) (res' := (.tup [])) [0, 1] rfl Qn5 (ihX p0 x5 x14 p3 y18 _ hf22) rfl (Qbi (rnc (Qej rfl) (rnc (.plain _ nll) (rnc (.plain _ nll) (rnc (.plain _ nll) (rnc (Qaq rn0 (rnc (Qax rfl) rn0)) rn0)))))) (slc (Qcn Qah) (slc (Qai (rnc (.plain _ (NLt.fn _ _ _ nl0 nl0)) rn0)) Qal)) (slc (Qcn Qah) (slc (Qai (rnc (.plain _ (NLt.fn _ _ _ nl0 nl0)) rn0)) Qal)) (.plain _ (NLt.tup _ nl0)) rfl rfl rfl, trivial⟩ ?_
          obtain rfl := osi h
          exact ⟨_, (mto (n := 220) (l' := []) (own' := [(Qqc x23), Qcg]) [] [0, 1] [(Qqc x23), Qcg] hφ0 pn (qc (spr Qah) (qc (spb (lc (.rn (Qaq rn0 rn0)) ln)) qn))), Qbx (vs := []) trivial rfl (NLt.tup _ nl0) (by kernel_rfl) (Qag (Qgm Qah _) (Qag (Qas (nlc (NLt.of0 (NLt.fn _ _ _ nl0 nl0)) nl0)) Qa5))⟩
         ·replace h := Qaw hc21 h
          refine wfn hc21 (by kernel_rfl) ?_
          refine Qao ?_
          obtain rfl := osi h
          exact ⟨_, (mto (n := 220) (l' := []) (own' := [(Ql3 y18), Qcg]) [] [0, 1] [(Ql3 y18), Qcg] hφ0 pn (qc (spr Qah) (qc (spb (lc (.rn (Qaq rn0 rn0)) ln)) qn))), Qbx (vs := []) trivial rfl (NLt.tup _ nl0) (by kernel_rfl) (Qag (Qgm Qah _) (Qag (Qas (nlc (NLt.of0 (NLt.fn _ _ _ nl0 nl0)) nl0)) Qa5))⟩
        ·replace h := Qaw hb20 h
         refine wx tbk [(3, rp [(.tmp 208, (B ((decide (x5 < x14)))))] (B false))] ⟨asb hb20 (amv rfl), trivial⟩ ?_
         refine Qgg (by kernel_rfl) ?_
         refine Qao ?_
         obtain rfl := osi h
         exact ⟨_, (mto (n := 220) (l' := []) (own' := [(Ql3 y18), Qcg]) [] [0, 1] [(Ql3 y18), Qcg] hφ0 pn (qc (spr Qah) (qc (spb (lc (.rn (Qaq rn0 rn0)) ln)) qn))), Qbx (vs := []) trivial rfl (NLt.tup _ nl0) (by kernel_rfl) (Qag (Qgm Qah _) (Qag (Qas (nlc (NLt.of0 (NLt.fn _ _ _ nl0 nl0)) nl0)) Qa5))⟩
       ·skip
        rcases bft ((decide (p1 < y12))) with hb24 | hb24
        ·replace h := Qav hb24 h
         refine wx tbk [(3, rp [(.tmp 194, (B ((decide (p1 < y12)))))] (B true))] ⟨asb hb24 (amv rfl), trivial⟩ ?_
         rcases bft ((decide (y12 < x5))) with hc25 | hc25
         ·replace h := Qav hc25 h
          refine wft hc25 (by kernel_rfl) ?_
          obtain ⟨x27, hf26, h⟩ := bno h
          refine wx1 tbk [(5, ⟨[fu 136, (.tmp 200, (.own 0 3 (0) (p0))), (.tmp 201, I p1), (.tmp 202, I y12), (.tmp 203, I x5), (.tmp 204, Qe6)], [(0, (Qn9 y16)), (1, Qcg)], (.tup []), [(0, (Qtg x27)), (1, Qcg)], false⟩)] ⟨Qam (first := []) (cap := []) (vs := [(.own 0 3 (0) (p0)), I p1, I y12, I x5, Qe6]) (σr := [(Qn9 y16), Qcg]) (σr' := [(Qtg x27), Qcg]) (res' := (.tup [])) [0, 1] rfl Qn5 (ihX p0 p1 y12 x5 y16 _ hf26) rfl (Qbi (rnc (Qej rfl) (rnc (.plain _ nll) (rnc (.plain _ nll) (rnc (.plain _ nll) (rnc (Qaq rn0 (rnc (Qax rfl) rn0)) rn0)))))) (slc (Qcn Qah) (slc (Qai (rnc (.plain _ (NLt.fn _ _ _ nl0 nl0)) rn0)) Qal)) (slc (Qcn Qah) (slc (Qai (rnc (.plain _ (NLt.fn _ _ _ nl0 nl0)) rn0)) Qal)) (.plain _ (NLt.tup _ nl0)) rfl rfl rfl, trivial⟩ ?_
          refine thn ?_
          exact ⟨(x27), h, (mto (n := 220) [(0, (.own 0 3 (0) (p0))), (3, I p3), (4, Qe6), (18, I x5), (24, I x14)] [0, 1] [(Qtg x27), Qcg] hφ0 (pc (.rn (Qaf rfl)) (pc rwl (pc (.rn (Qaq rn0 (rnc (rqr rfl) rn0))) (pc rwl (pc rwl pn))))) (qc (spr Qah) (qc (spb (lc (.rn (Qaq rn0 rn0)) ln)) qn)))⟩
         ·replace h := Qaw hc25 h
          refine wfn hc25 (by kernel_rfl) ?_
          refine Qao ?_
          refine thn ?_
          exact ⟨(y16), h, (mto (n := 220) [(0, (.own 0 3 (0) (p0))), (3, I p3), (4, Qe6), (18, I x5), (24, I x14)] [0, 1] [(Qn9 y16), Qcg] hφ0 (pc (.rn (Qaf rfl)) (pc rwl (pc (.rn (Qaq rn0 (rnc (rqr rfl) rn0))) (pc rwl (pc rwl pn))))) (qc (spr Qah) (qc (spb (lc (.rn (Qaq rn0 rn0)) ln)) qn)))⟩
        ·replace h := Qaw hb24 h
         refine wx tbk [(3, rp [(.tmp 194, (B ((decide (p1 < y12)))))] (B false))] ⟨asb hb24 (amv rfl), trivial⟩ ?_
         refine Qgg (by kernel_rfl) ?_
         refine Qao ?_
         refine thn ?_
         exact ⟨(y16), h, (mto (n := 220) [(0, (.own 0 3 (0) (p0))), (3, I p3), (4, Qe6), (18, I x5), (24, I x14)] [0, 1] [(Qn9 y16), Qcg] hφ0 (pc (.rn (Qaf rfl)) (pc rwl (pc (.rn (Qaq rn0 (rnc (rqr rfl) rn0))) (pc rwl (pc rwl pn))))) (qc (spr Qah) (qc (spb (lc (.rn (Qaq rn0 rn0)) ln)) qn)))⟩
      ·skip
       rcases bft ((decide (y12 < p2))) with hb28 | hb28
       ·replace h := Qav hb28 h
        refine wx tbk [(3, rp [(.tmp 180, (B ((decide (y12 < p2)))))] (B true))] ⟨asb hb28 (amv rfl), trivial⟩ ?_
        rcases bft ((decide (p2 < x14))) with hc29 | hc29
        ·replace h := Qav hc29 h
         refine wft hc29 (by kernel_rfl) ?_
         obtain ⟨x31, hf30, h⟩ := bno h
         refine wx1 tbk [(5, ⟨[fu 137, (.tmp 186, (.own 0 3 (0) (p0))), (.tmp 187, I y12), (.tmp 188, I p2), (.tmp 189, I x14), (.tmp 190, Qe6)], [(0, (Qd8 p4)), (1, Qcg)], (.tup []), [(0, (Qtf x31)), (1, Qcg)], false⟩)] ⟨Qam (first := []) (cap := []) (vs := [(.own 0 3 (0) (p0)), I y12, I p2, I x14, Qe6]) (σr := [(Qd8 p4), Qcg]) (σr' := [(Qtf x31), Qcg]) (res' := (.tup [])) [0, 1] rfl enter137 (Qga N p0 y12 p2 x14 p4 _ hf30) rfl (Qbi (rnc (Qej rfl) (rnc (.plain _ nll) (rnc (.plain _ nll) (rnc (.plain _ nll) (rnc (Qaq rn0 (rnc (Qax rfl) rn0)) rn0)))))) (slc (Qcn Qah) (slc (Qai (rnc (.plain _ (NLt.fn _ _ _ nl0 nl0)) rn0)) Qal)) (slc (Qcn Qah) (slc (Qai (rnc (.plain _ (NLt.fn _ _ _ nl0 nl0)) rn0)) Qal)) (.plain _ (NLt.tup _ nl0)) rfl rfl rfl, trivial⟩ ?_
         refine thn ?_
         exact ⟨(x31), h, (mto (n := 220) [(0, (.own 0 3 (0) (p0))), (1, I p1), (3, I p3), (4, Qe6), (18, I x5), (20, I y12), (24, I x14)] [0, 1] [(Qtf x31), Qcg] hφ0 (pc (.rn (Qaf rfl)) (pc rwl (pc rwl (pc (.rn (Qaq rn0 (rnc (rqr rfl) rn0))) (pc rwl (pc rwl (pc rwl pn))))))) (qc (spr Qah) (qc (spb (lc (.rn (Qaq rn0 rn0)) ln)) qn)))⟩
        ·replace h := Qaw hc29 h
         refine wfn hc29 (by kernel_rfl) ?_
         refine Qao ?_
         refine thn ?_
         exact ⟨(p4), h, (mto (n := 220) [(0, (.own 0 3 (0) (p0))), (1, I p1), (3, I p3), (4, Qe6), (18, I x5), (20, I y12), (24, I x14)] [0, 1] [(Qd8 p4), Qcg] hφ0 (pc (.rn (Qaf rfl)) (pc rwl (pc rwl (pc (.rn (Qaq rn0 (rnc (rqr rfl) rn0))) (pc rwl (pc rwl (pc rwl pn))))))) (qc (spr Qah) (qc (spb (lc (.rn (Qaq rn0 rn0)) ln)) qn)))⟩
       ·replace h := Qaw hb28 h
        refine wx tbk [(3, rp [(.tmp 180, (B ((decide (y12 < p2)))))] (B false))] ⟨asb hb28 (amv rfl), trivial⟩ ?_
        refine Qgg (by kernel_rfl) ?_
        refine Qao ?_
        refine thn ?_
        exact ⟨(p4), h, (mto (n := 220) [(0, (.own 0 3 (0) (p0))), (1, I p1), (3, I p3), (4, Qe6), (18, I x5), (20, I y12), (24, I x14)] [0, 1] [(Qd8 p4), Qcg] hφ0 (pc (.rn (Qaf rfl)) (pc rwl (pc rwl (pc (.rn (Qaq rn0 (rnc (rqr rfl) rn0))) (pc rwl (pc rwl (pc rwl pn))))))) (qc (spr Qah) (qc (spb (lc (.rn (Qaq rn0 rn0)) ln)) qn)))⟩
     ·skip
      refine Qak ?_
      refine wmr (mto (n := 220) (l' := [(0, (.own 0 3 (0) (p0))), (1, I p1), (2, I p2), (3, I p3), (4, Qe6), (18, I x5), (19, (I (w64 (x5 + p2)))), (20, I y7), (21, I y8), (22, I x10)]) (own' := [(Qd8 p4), Qcg]) [(0, (.own 0 3 (0) (p0))), (1, I p1), (2, I p2), (3, I p3), (4, Qe6), (18, I x5), (19, (I (w64 (x5 + p2)))), (20, I y7), (21, I y8), (22, I x10)] [0, 1] [(Qd8 p4), Qcg] hφ0 (pc (.rn (Qaf rfl)) (pc rwl (pc rwl (pc rwl (pc (.rn (Qaq rn0 (rnc (rqr rfl) rn0))) (pc rwl (pc rwl (pc rwl (pc rwl (pc rwl pn)))))))))) (qc (spr Qah) (qc (spb (lc (.rn (Qaq rn0 rn0)) ln)) qn))) ?_
      refine Qb1 (τ := Int × Int) (fun n t => Qa4 N p0 p4 x10 k13 n t.1 t.2 = some r) (fun ⟨y32, y33⟩ => ⟨mk 220 [(0, (.own 0 3 (0) (p0))), (1, I p1), (2, I p2), (3, I p3), (4, Qe6), (18, I x5), (19, (I (w64 (x5 + p2)))), (20, I y32), (21, I y33), (22, I x10)], [(Qd8 p4), Qcg]⟩) (fun t h => by rw [Qa4] at h; cases h) (fun n36 ih t h => ?_) N (y7, y8) h
      obtain ⟨y32, y33⟩ := t
      rw [Qa4] at h
      skip
      refine wsq ?_
      refine wx tbk [] trivial ?_
      rcases bft ((decide (y32 < y33))) with hc37 | hc37
      ·replace h := Qav hc37 h
       refine wft hc37 (by kernel_rfl) ?_
       refine Qao ?_
       refine thn ?_
       refine Qak ?_
       obtain ⟨x38, hl39, h⟩ := bno h
       refine wx tbk [(3, rp [(.tmp 154, (I (w64 (y32 + y33))))] (K .u64 (IntKind.wrap .u64 (w64 (y32 + y33))))), (4, rp [(.tmp 155, (K .u64 (IntKind.wrap .u64 (w64 (y32 + y33))))), (.const (.int .u64 1), (K .u64 (1)))] (K .u64 ((IntKind.wrap .u64 (w64 (y32 + y33))) / 2))), (5, rp [(.tmp 156, (K .u64 ((IntKind.wrap .u64 (w64 (y32 + y33))) / 2)))] (I (w64 ((IntKind.wrap .u64 (w64 (y32 + y33))) / 2)))), (6, rp [(.tmp 157, (I (w64 ((IntKind.wrap .u64 (w64 (y32 + y33))) / 2))))] (I x38))] ⟨acv rfl (by rw [Try.underlying3]; rfl) Try.underlying180, Qmw rfl (by decide) (by decide), acv rfl (by rw [Try.underlying180]; rfl) Try.underlying3, Qep hl39 (aas rfl), trivial⟩ ?_
       obtain ⟨hi40, h⟩ := cko h
       obtain ⟨hi40a, hi40b⟩ := Qaz hi40
       obtain ⟨x41, hg42, h⟩ := bno h
       obtain ⟨hi43, h⟩ := cko h
       obtain ⟨hi43a, hi43b⟩ := Qaz hi43
       obtain ⟨x44, hg45, h⟩ := bno h
       obtain ⟨x47, hf46, h⟩ := bno h
       refine wxd tbk [(5, rb [(.tmp 159, (.own 0 3 (0) (p0))), (.tmp 162, (I (w64 (x10 - x38))))] [(0, (Qd8 p4))] (.ref 0 3 ((w64 (x10 - x38)).toNat) 0)), (6, rb [(.tmp 163, (.ref 0 3 ((w64 (x10 - x38)).toNat) 0))] [(0, (Qd8 p4))] (Qx3 x41)), (9, rb [(.tmp 165, (.own 0 3 (0) (p0))), (.tmp 166, I x38)] [(0, (Qd8 p4))] (.ref 0 3 (x38.toNat) 0)), (10, rb [(.tmp 167, (.ref 0 3 (x38.toNat) 0))] [(0, (Qd8 p4))] (Qx2 x44)), (11, ⟨[(.tmp 158, Qe6), (.tmp 164, (Qx3 x41)), (.tmp 168, (Qx2 x44))], [(1, Qcg)], I x47, [(1, Qcg)], false⟩)] ⟨aio rfl Try.underlying158 Qd3 (odt hi40a) (odt hi40b) (Nat.zero_add _), ald rfl Qd3 (by decide) (mgt Qap hg42) (nle rfl) rfl, aio rfl Try.underlying158 Qd3 (odt hi43a) (odt hi43b) (Nat.zero_add _), ald rfl Qd3 (by decide) (mgt Qap hg45) (nle rfl) rfl, Qam (first := []) (cap := [.ref 1 1 0 0]) (vs := [(.agg [(I ((⟨x41.unit, (⟨x41.Part.Width, x41.Part.Gain⟩ : GPart)⟩ : GPiece).unit)), (I ((⟨x41.unit, (⟨x41.Part.Width, x41.Part.Gain⟩ : GPart)⟩ : GPiece).Part.Width)), (I ((⟨x41.unit, (⟨x41.Part.Width, x41.Part.Gain⟩ : GPart)⟩ : GPiece).Part.Gain))]), (.agg [(I ((⟨x44.unit, (⟨x44.Part.Width, x44.Part.Gain⟩ : GPart)⟩ : GPiece).unit)), (I ((⟨x44.unit, (⟨x44.Part.Width, x44.Part.Gain⟩ : GPart)⟩ : GPiece).Part.Width)), (I ((⟨x44.unit, (⟨x44.Part.Width, x44.Part.Gain⟩ : GPart)⟩ : GPiece).Part.Gain))])]) (σr := [Qcg]) (σr' := [Qcg]) (res' := (I x47)) [1] rfl Qn6 (Qcx N (⟨x41.unit, (⟨x41.Part.Width, x41.Part.Gain⟩ : GPart)⟩ : GPiece) (⟨x44.unit, (⟨x44.Part.Width, x44.Part.Gain⟩ : GPart)⟩ : GPiece) _ hf46) rfl (Qbi (rnc (.plain _ (NLt.agg _ (nlc nll (nlc nll (nlc nll nl0))))) (rnc (.plain _ (NLt.agg _ (nlc nll (nlc nll (nlc nll nl0))))) (rnc (Qax rfl) rn0)))) (slc (Qai (rnc (.plain _ (NLt.fn _ _ _ nl0 nl0)) rn0)) Qal) (slc (Qai (rnc (.plain _ (NLt.fn _ _ _ nl0 nl0)) rn0)) Qal) (.plain _ nll) rfl rfl rfl, trivial⟩ ?_
       rcases bft ((!(decide (x47 < 0)))) with hc48 | hc48
       ·replace h := Qav hc48 h
        refine wft hc48 (by kernel_rfl) ?_
        refine wx1 tbk [] trivial ?_
        refine bln ?_
        refine thn ?_
        exact arm (mto (n := 220) [(0, (.own 0 3 (0) (p0))), (1, I p1), (2, I p2), (3, I p3), (4, Qe6), (18, I x5), (19, (I (w64 (x5 + p2)))), (20, (I (w64 (x38 + 1)))), (21, I y33), (22, I x10)] [0, 1] [(Qd8 p4), Qcg] hφ0 (pc (.rn (Qaf rfl)) (pc rwl (pc rwl (pc rwl (pc (.rn (Qaq rn0 (rnc (rqr rfl) rn0))) (pc rwl (pc rwl (pc rwl (pc rwl (pc rwl pn)))))))))) (qc (spr Qah) (qc (spb (lc (.rn (Qaq rn0 rn0)) ln)) qn))) (ih (w64 (x38 + 1), y33) h)
       ·replace h := Qaw hc48 h
        refine wfn hc48 (by kernel_rfl) ?_
        refine wx1 tbk [] trivial ?_
        refine bln ?_
        refine thn ?_
        exact arm (mto (n := 220) [(0, (.own 0 3 (0) (p0))), (1, I p1), (2, I p2), (3, I p3), (4, Qe6), (18, I x5), (19, (I (w64 (x5 + p2)))), (20, I y32), (21, I x38), (22, I x10)] [0, 1] [(Qd8 p4), Qcg] hφ0 (pc (.rn (Qaf rfl)) (pc rwl (pc rwl (pc rwl (pc (.rn (Qaq rn0 (rnc (rqr rfl) rn0))) (pc rwl (pc rwl (pc rwl (pc rwl (pc rwl pn)))))))))) (qc (spr Qah) (qc (spb (lc (.rn (Qaq rn0 rn0)) ln)) qn))) (ih (y32, x38) h)
      ·replace h := Qaw hc37 h
       refine wfn hc37 (by kernel_rfl) ?_
       refine Qbh ?_
       refine Qar ?_
       refine Qar ?_
       refine Qbg rfl ?_
       refine thn ?_
       exact ⟨(y32), h, (mto (n := 220) [(0, (.own 0 3 (0) (p0))), (1, I p1), (2, I p2), (3, I p3), (4, Qe6), (18, I x5), (19, (I (w64 (x5 + p2)))), (20, I y32)] [0, 1] [(Qd8 p4), Qcg] hφ0 (pc (.rn (Qaf rfl)) (pc rwl (pc rwl (pc rwl (pc (.rn (Qaq rn0 (rnc (rqr rfl) rn0))) (pc rwl (pc rwl (pc rwl pn)))))))) (qc (spr Qah) (qc (spb (lc (.rn (Qaq rn0 rn0)) ln)) qn)))⟩
    ·skip
     refine wx tbk [] trivial ?_
     rcases bft ((decide (p2 > x5))) with hc49 | hc49
     ·replace h := Qav hc49 h
      refine wft hc49 (by kernel_rfl) ?_
      obtain ⟨x50, hl51, h⟩ := bno h
      refine wx tbk [(3, rp [(.tmp 143, (I (w64 ((w64 (x5 + p2)) - p3))))] (I x50))] ⟨Qep hl51 (aas rfl), trivial⟩ ?_
      refine wx1 tbk [] trivial ?_
      refine thn ?_
      exact ⟨(x50, x5), h, (mto (n := 220) [(0, (.own 0 3 (0) (p0))), (1, I p1), (2, I p2), (3, I p3), (4, Qe6), (18, I x5), (19, (I (w64 (x5 + p2)))), (20, I x50), (21, I x5)] [0, 1] [(Qd8 p4), Qcg] hφ0 (pc (.rn (Qaf rfl)) (pc rwl (pc rwl (pc rwl (pc (.rn (Qaq rn0 (rnc (rqr rfl) rn0))) (pc rwl (pc rwl (pc rwl (pc rwl pn))))))))) (qc (spr Qah) (qc (spb (lc (.rn (Qaq rn0 rn0)) ln)) qn)))⟩
     ·replace h := Qaw hc49 h
      refine wfn hc49 (by kernel_rfl) ?_
      refine wx tbk [] trivial ?_
      refine wx1 tbk [] trivial ?_
      refine thn ?_
      exact ⟨(p1, p2), h, (mto (n := 220) [(0, (.own 0 3 (0) (p0))), (1, I p1), (2, I p2), (3, I p3), (4, Qe6), (18, I x5), (19, (I (w64 (x5 + p2)))), (20, I p1), (21, I p2)] [0, 1] [(Qd8 p4), Qcg] hφ0 (pc (.rn (Qaf rfl)) (pc rwl (pc rwl (pc rwl (pc (.rn (Qaq rn0 (rnc (rqr rfl) rn0))) (pc rwl (pc rwl (pc rwl (pc rwl pn))))))))) (qc (spr Qah) (qc (spb (lc (.rn (Qaq rn0 rn0)) ln)) qn)))⟩
   ·skip
    refine wx tbk [] trivial ?_
    rcases bft (((w64 (p3 - p2)) == 1)) with hc52 | hc52
    ·replace h := Qav hc52 h
     refine wft hc52 (by kernel_rfl) ?_
     refine wx tbk [] trivial ?_
     refine wx tbk [] trivial ?_
     obtain ⟨k54, hk_k54, h⟩ := jko h
     refine wjn (τ := Int) (fun t => k54 t = some r) (fun y53 => ⟨mk 220 [(0, (.own 0 3 (0) (p0))), (2, I p2), (14, I y53)], [(Qd8 p4), Qcg]⟩) (fun y53 h => ?_) ?_
     ·subst hk_k54
      obtain ⟨k56, hk_k56, h⟩ := jko h
      refine wjn (τ := (List GPiece)) (fun t => k56 t = some r) (fun y55 => ⟨mk 220 [], [(Qti y55), Qcg]⟩) (fun y55 h => ?_) ?_
      ·subst hk_k56
       refine wmr (mto (n := 220) (l' := []) (own' := [(Qti y55), Qcg]) [] [0, 1] [(Qti y55), Qcg] hφ0 pn (qc (spr Qah) (qc (spb (lc (.rn (Qaq rn0 rn0)) ln)) qn))) ?_
       refine Qab ?_
       refine Qau ?_
       obtain rfl := osi h
       exact ⟨_, Mor.rfl, Qbx (vs := []) trivial rfl (NLt.tup _ nl0) (by kernel_rfl) (Qag (Qgm Qah _) (Qag (Qas (nlc (NLt.of0 (NLt.fn _ _ _ nl0 nl0)) nl0)) Qa5))⟩
      ·skip
       refine wx tbk [] trivial ?_
       refine Qak ?_
       refine wmr (mto (n := 220) (l' := [(0, (.own 0 3 (0) (p0))), (14, I y53), (17, I p2)]) (own' := [(Qd8 p4), Qcg]) [(0, (.own 0 3 (0) (p0))), (14, I y53), (17, I p2)] [0, 1] [(Qd8 p4), Qcg] hφ0 (pc (.rn (Qaf rfl)) (pc rwl (pc rwl pn))) (qc (spr Qah) (qc (spb (lc (.rn (Qaq rn0 rn0)) ln)) qn))) ?_
       refine Qb1 (τ := Int × (List GPiece)) (fun n t => Qbn N p0 y53 k56 n t.1 t.2 = some r) (fun ⟨y57, y58⟩ => ⟨mk 220 [(0, (.own 0 3 (0) (p0))), (14, I y53), (17, I y57)], [(Qku y58), Qcg]⟩) (fun t h => by rw [Qbn] at h; cases h) (fun n61 ih t h => ?_) N (p2, p4) h
       obtain ⟨y57, y58⟩ := t
       rw [Qbn] at h
       skip
       refine wsq ?_
       refine wx tbk [] trivial ?_
       rcases bft ((decide (y57 > y53))) with hc62 | hc62
       ·replace h := Qav hc62 h
        refine wft hc62 (by kernel_rfl) ?_
        refine Qao ?_
        refine thn ?_
        refine wsq ?_
        refine Qak ?_
        obtain ⟨hi63, h⟩ := cko h
        obtain ⟨hi63a, hi63b⟩ := Qaz hi63
        obtain ⟨x64, hg65, h⟩ := bno h
        obtain ⟨hi66, h⟩ := cko h
        obtain ⟨hi66a, hi66b⟩ := Qaz hi66
        obtain ⟨x67, hg68, h⟩ := bno h
        obtain ⟨hi69, h⟩ := cko h
        obtain ⟨hi69a, hi69b⟩ := Qaz hi69
        obtain ⟨x70, hg71, h⟩ := bno h
        obtain ⟨hi72, h⟩ := cko h
        obtain ⟨hi72a, hi72b⟩ := Qaz hi72
        obtain ⟨x73, hg74, h⟩ := bno h
        refine wy1 tbk [(8, rb [(.tmp 118, (.own 0 3 (0) (p0))), (.tmp 120, (I (w64 (y57 - 1))))] [(0, (Qku y58))] (.ref 0 3 ((w64 (y57 - 1)).toNat) 0)), (9, rb [(.tmp 121, (.ref 0 3 ((w64 (y57 - 1)).toNat) 0))] [(0, (Qku y58))] (Qx5 x64)), (12, rb [(.tmp 123, (.own 0 3 (0) (p0))), (.tmp 124, I y57)] [(0, (Qku y58))] (.ref 0 3 (y57.toNat) 0)), (13, rb [(.tmp 125, (.ref 0 3 (y57.toNat) 0))] [(0, (Qku y58))] (Qx1 x67)), (14, rb [(.tmp 113, (.own 0 3 (0) (p0))), (.tmp 114, I y57)] [(0, (Qku y58))] (.ref 0 3 (y57.toNat) 0)), (15, ⟨[(.tmp 127, (.ref 0 3 (y57.toNat) 0)), (.tmp 122, (Qx5 x64))], [(0, (Qku y58))], .any, [(0, (Qte y58 y57 x64))], false⟩), (16, rb [(.tmp 115, (.own 0 3 (0) (p0))), (.tmp 117, (I (w64 (y57 - 1))))] [(0, (Qte y58 y57 x64))] (.ref 0 3 ((w64 (y57 - 1)).toNat) 0)), (17, ⟨[(.tmp 128, (.ref 0 3 ((w64 (y57 - 1)).toNat) 0)), (.tmp 126, (Qx1 x67))], [(0, (Qte y58 y57 x64))], .any, [(0, (Qx0 y58 y57 x64 x67))], false⟩)] ⟨aio rfl Try.underlying158 Qd3 (odt hi63a) (odt hi63b) (Nat.zero_add _), ald rfl Qd3 (by decide) (mgt Qap hg65) (nle rfl) rfl, aio rfl Try.underlying158 Qd3 (odt hi66a) (odt hi66b) (Nat.zero_add _), ald rfl Qd3 (by decide) (mgt Qap hg68) (nle rfl) rfl, aio rfl Try.underlying158 Qd3 (odt hi69a) (odt hi69b) (Nat.zero_add _), ast rfl Qd3 (by rfl) (mgt Qap hg71) (nle rfl) (Qfx Qap rfl), aio rfl Try.underlying158 Qd3 (odt hi72a) (odt hi72b) (Nat.zero_add _), ast rfl Qd3 (by rfl) (mgt Qap hg74) (nle rfl) (Qfx Qap rfl), trivial⟩ ?_
        refine bln ?_
        refine thn ?_
        refine wx1 tbk [] trivial ?_
        refine thn ?_
        exact arm (mto (n := 220) [(0, (.own 0 3 (0) (p0))), (14, I y53), (17, (I (w64 (y57 - 1))))] [0, 1] [(Qx0 y58 y57 x64 x67), Qcg] hφ0 (pc (.rn (Qaf rfl)) (pc rwl (pc rwl pn))) (qc (spr Qah) (qc (spb (lc (.rn (Qaq rn0 rn0)) ln)) qn))) (ih (w64 (y57 - 1), (y58.set y57.toNat (⟨x64.unit, (⟨x64.Part.Width, x64.Part.Gain⟩ : GPart)⟩ : GPiece)).set ((w64 (y57 - 1)).toNat) (⟨x67.unit, (⟨x67.Part.Width, x67.Part.Gain⟩ : GPart)⟩ : GPiece)) h)
       ·replace h := Qaw hc62 h
        refine wfn hc62 (by kernel_rfl) ?_
        refine Qbh ?_
        refine Qar ?_
        refine Qar ?_
        refine Qbg rfl ?_
        refine thn ?_
        exact ⟨(y58), h, (mto (n := 220) [] [0, 1] [(Qku y58), Qcg] hφ0 pn (qc (spr Qah) (qc (spb (lc (.rn (Qaq rn0 rn0)) ln)) qn)))⟩
     ·skip
      refine Qak ?_
      refine wmr (mto (n := 220) (l' := [(0, (.own 0 3 (0) (p0))), (2, I p2), (4, Qe6), (14, I p1), (15, I p2)]) (own' := [(Qd8 p4), Qcg]) [(0, (.own 0 3 (0) (p0))), (2, I p2), (4, Qe6), (14, I p1), (15, I p2)] [0, 1] [(Qd8 p4), Qcg] hφ0 (pc (.rn (Qaf rfl)) (pc rwl (pc (.rn (Qaq rn0 (rnc (rqr rfl) rn0))) (pc rwl (pc rwl pn))))) (qc (spr Qah) (qc (spb (lc (.rn (Qaq rn0 rn0)) ln)) qn))) ?_
      refine Qb1 (τ := Int × Int) (fun n t => Qa3 N p0 p2 p4 k54 n t.1 t.2 = some r) (fun ⟨y75, y76⟩ => ⟨mk 220 [(0, (.own 0 3 (0) (p0))), (2, I p2), (4, Qe6), (14, I y75), (15, I y76)], [(Qd8 p4), Qcg]⟩) (fun t h => by rw [Qa3] at h; cases h) (fun n79 ih t h => ?_) N (p1, p2) h
      obtain ⟨y75, y76⟩ := t
      rw [Qa3] at h
      skip
      refine wsq ?_
      refine wx tbk [] trivial ?_
      rcases bft ((decide (y75 < y76))) with hc80 | hc80
      ·replace h := Qav hc80 h
       refine wft hc80 (by kernel_rfl) ?_
       refine Qao ?_
       refine thn ?_
       refine Qak ?_
       obtain ⟨x81, hl82, h⟩ := bno h
       refine wx tbk [(3, rp [(.tmp 88, (I (w64 (y75 + y76))))] (K .u64 (IntKind.wrap .u64 (w64 (y75 + y76))))), (4, rp [(.tmp 89, (K .u64 (IntKind.wrap .u64 (w64 (y75 + y76))))), (.const (.int .u64 1), (K .u64 (1)))] (K .u64 ((IntKind.wrap .u64 (w64 (y75 + y76))) / 2))), (5, rp [(.tmp 90, (K .u64 ((IntKind.wrap .u64 (w64 (y75 + y76))) / 2)))] (I (w64 ((IntKind.wrap .u64 (w64 (y75 + y76))) / 2)))), (6, rp [(.tmp 91, (I (w64 ((IntKind.wrap .u64 (w64 (y75 + y76))) / 2))))] (I x81))] ⟨acv rfl (by rw [Try.underlying3]; rfl) Try.underlying180, Qmw rfl (by decide) (by decide), acv rfl (by rw [Try.underlying180]; rfl) Try.underlying3, Qep hl82 (aas rfl), trivial⟩ ?_
       obtain ⟨hi83, h⟩ := cko h
       obtain ⟨hi83a, hi83b⟩ := Qaz hi83
       obtain ⟨x84, hg85, h⟩ := bno h
       obtain ⟨hi86, h⟩ := cko h
       obtain ⟨hi86a, hi86b⟩ := Qaz hi86
       obtain ⟨x87, hg88, h⟩ := bno h
       obtain ⟨x90, hf89, h⟩ := bno h
       refine wxd tbk [(3, rb [(.tmp 93, (.own 0 3 (0) (p0))), (.tmp 94, I p2)] [(0, (Qd8 p4))] (.ref 0 3 (p2.toNat) 0)), (4, rb [(.tmp 95, (.ref 0 3 (p2.toNat) 0))] [(0, (Qd8 p4))] (Qxz x84)), (7, rb [(.tmp 97, (.own 0 3 (0) (p0))), (.tmp 98, I x81)] [(0, (Qd8 p4))] (.ref 0 3 (x81.toNat) 0)), (8, rb [(.tmp 99, (.ref 0 3 (x81.toNat) 0))] [(0, (Qd8 p4))] (Qxy x87)), (9, ⟨[(.tmp 92, Qe6), (.tmp 96, (Qxz x84)), (.tmp 100, (Qxy x87))], [(1, Qcg)], I x90, [(1, Qcg)], false⟩)] ⟨aio rfl Try.underlying158 Qd3 (odt hi83a) (odt hi83b) (Nat.zero_add _), ald rfl Qd3 (by decide) (mgt Qap hg85) (nle rfl) rfl, aio rfl Try.underlying158 Qd3 (odt hi86a) (odt hi86b) (Nat.zero_add _), ald rfl Qd3 (by decide) (mgt Qap hg88) (nle rfl) rfl, Qam (first := []) (cap := [.ref 1 1 0 0]) (vs := [(.agg [(I ((⟨x84.unit, (⟨x84.Part.Width, x84.Part.Gain⟩ : GPart)⟩ : GPiece).unit)), (I ((⟨x84.unit, (⟨x84.Part.Width, x84.Part.Gain⟩ : GPart)⟩ : GPiece).Part.Width)), (I ((⟨x84.unit, (⟨x84.Part.Width, x84.Part.Gain⟩ : GPart)⟩ : GPiece).Part.Gain))]), (.agg [(I ((⟨x87.unit, (⟨x87.Part.Width, x87.Part.Gain⟩ : GPart)⟩ : GPiece).unit)), (I ((⟨x87.unit, (⟨x87.Part.Width, x87.Part.Gain⟩ : GPart)⟩ : GPiece).Part.Width)), (I ((⟨x87.unit, (⟨x87.Part.Width, x87.Part.Gain⟩ : GPart)⟩ : GPiece).Part.Gain))])]) (σr := [Qcg]) (σr' := [Qcg]) (res' := (I x90)) [1] rfl Qn6 (Qcx N (⟨x84.unit, (⟨x84.Part.Width, x84.Part.Gain⟩ : GPart)⟩ : GPiece) (⟨x87.unit, (⟨x87.Part.Width, x87.Part.Gain⟩ : GPart)⟩ : GPiece) _ hf89) rfl (Qbi (rnc (.plain _ (NLt.agg _ (nlc nll (nlc nll (nlc nll nl0))))) (rnc (.plain _ (NLt.agg _ (nlc nll (nlc nll (nlc nll nl0))))) (rnc (Qax rfl) rn0)))) (slc (Qai (rnc (.plain _ (NLt.fn _ _ _ nl0 nl0)) rn0)) Qal) (slc (Qai (rnc (.plain _ (NLt.fn _ _ _ nl0 nl0)) rn0)) Qal) (.plain _ nll) rfl rfl rfl, trivial⟩ ?_
       rcases bft ((!(decide (x90 < 0)))) with hc91 | hc91
       ·replace h := Qav hc91 h
        refine wft hc91 (by kernel_rfl) ?_
        refine wx1 tbk [] trivial ?_
        refine bln ?_
        refine thn ?_
        exact arm (mto (n := 220) [(0, (.own 0 3 (0) (p0))), (2, I p2), (4, Qe6), (14, (I (w64 (x81 + 1)))), (15, I y76)] [0, 1] [(Qd8 p4), Qcg] hφ0 (pc (.rn (Qaf rfl)) (pc rwl (pc (.rn (Qaq rn0 (rnc (rqr rfl) rn0))) (pc rwl (pc rwl pn))))) (qc (spr Qah) (qc (spb (lc (.rn (Qaq rn0 rn0)) ln)) qn))) (ih (w64 (x81 + 1), y76) h)
       ·replace h := Qaw hc91 h
        refine wfn hc91 (by kernel_rfl) ?_
        refine wx1 tbk [] trivial ?_
        refine bln ?_
        refine thn ?_
        exact arm (mto (n := 220) [(0, (.own 0 3 (0) (p0))), (2, I p2), (4, Qe6), (14, I y75), (15, I x81)] [0, 1] [(Qd8 p4), Qcg] hφ0 (pc (.rn (Qaf rfl)) (pc rwl (pc (.rn (Qaq rn0 (rnc (rqr rfl) rn0))) (pc rwl (pc rwl pn))))) (qc (spr Qah) (qc (spb (lc (.rn (Qaq rn0 rn0)) ln)) qn))) (ih (y75, x81) h)
      ·replace h := Qaw hc80 h
       refine wfn hc80 (by kernel_rfl) ?_
       refine Qbh ?_
       refine Qar ?_
       refine Qar ?_
       refine Qbg rfl ?_
       refine thn ?_
       exact ⟨(y75), h, (mto (n := 220) [(0, (.own 0 3 (0) (p0))), (2, I p2), (14, I y75)] [0, 1] [(Qd8 p4), Qcg] hφ0 (pc (.rn (Qaf rfl)) (pc rwl (pc rwl pn))) (qc (spr Qah) (qc (spb (lc (.rn (Qaq rn0 rn0)) ln)) qn)))⟩
    ·replace h := Qaw hc52 h
     refine wfn hc52 (by kernel_rfl) ?_
     refine Qao ?_
     refine thn ?_
     exact ⟨(), h, (mto (n := 220) [(0, (.own 0 3 (0) (p0))), (1, I p1), (2, I p2), (3, I p3), (4, Qe6)] [0, 1] [(Qd8 p4), Qcg] hφ0 (pc (.rn (Qaf rfl)) (pc rwl (pc rwl (pc rwl (pc (.rn (Qaq rn0 (rnc (rqr rfl) rn0))) pn))))) (qc (spr Qah) (qc (spb (lc (.rn (Qaq rn0 rn0)) ln)) qn)))⟩
  ·skip
   refine wx tbk [] trivial ?_
   rcases bft (((w64 (p2 - p1)) == 1)) with hc92 | hc92
   ·replace h := Qav hc92 h
    refine wft hc92 (by kernel_rfl) ?_
    refine wx tbk [] trivial ?_
    refine wx tbk [] trivial ?_
    obtain ⟨k94, hk_k94, h⟩ := jko h
    refine wjn (τ := Int) (fun t => k94 t = some r) (fun y93 => ⟨mk 220 [(0, (.own 0 3 (0) (p0))), (1, I p1), (10, I y93)], [(Qd8 p4), Qcg]⟩) (fun y93 h => ?_) ?_
    ·subst hk_k94
     obtain ⟨k96, hk_k96, h⟩ := jko h
     refine wjn (τ := (List GPiece)) (fun t => k96 t = some r) (fun y95 => ⟨mk 220 [], [(Qth y95), Qcg]⟩) (fun y95 h => ?_) ?_
     ·subst hk_k96
      refine wmr (mto (n := 220) (l' := []) (own' := [(Qth y95), Qcg]) [] [0, 1] [(Qth y95), Qcg] hφ0 pn (qc (spr Qah) (qc (spb (lc (.rn (Qaq rn0 rn0)) ln)) qn))) ?_
      refine Qab ?_
      refine Qau ?_
      obtain rfl := osi h
      exact ⟨_, Mor.rfl, Qbx (vs := []) trivial rfl (NLt.tup _ nl0) (by kernel_rfl) (Qag (Qgm Qah _) (Qag (Qas (nlc (NLt.of0 (NLt.fn _ _ _ nl0 nl0)) nl0)) Qa5))⟩
     ·skip
      refine wx tbk [] trivial ?_
      refine Qak ?_
      refine wmr (mto (n := 220) (l' := [(0, (.own 0 3 (0) (p0))), (10, I y93), (13, I p1)]) (own' := [(Qd8 p4), Qcg]) [(0, (.own 0 3 (0) (p0))), (10, I y93), (13, I p1)] [0, 1] [(Qd8 p4), Qcg] hφ0 (pc (.rn (Qaf rfl)) (pc rwl (pc rwl pn))) (qc (spr Qah) (qc (spb (lc (.rn (Qaq rn0 rn0)) ln)) qn))) ?_
      refine Qb1 (τ := Int × (List GPiece)) (fun n t => Qbm N p0 y93 k96 n t.1 t.2 = some r) (fun ⟨y97, y98⟩ => ⟨mk 220 [(0, (.own 0 3 (0) (p0))), (10, I y93), (13, I y97)], [(Qkt y98), Qcg]⟩) (fun t h => by rw [Qbm] at h; cases h) (fun n101 ih t h => ?_) N (p1, p4) h
      obtain ⟨y97, y98⟩ := t
      rw [Qbm] at h
      skip
      refine wsq ?_
      refine wx tbk [] trivial ?_
      rcases bft ((decide (y97 < (w64 (y93 - 1))))) with hc102 | hc102
      ·replace h := Qav hc102 h
       refine wft hc102 (by kernel_rfl) ?_
       refine Qao ?_
       refine thn ?_
       refine wsq ?_
       refine Qak ?_
       obtain ⟨hi103, h⟩ := cko h
       obtain ⟨hi103a, hi103b⟩ := Qaz hi103
       obtain ⟨x104, hg105, h⟩ := bno h
       obtain ⟨hi106, h⟩ := cko h
       obtain ⟨hi106a, hi106b⟩ := Qaz hi106
       obtain ⟨x107, hg108, h⟩ := bno h
       obtain ⟨hi109, h⟩ := cko h
       obtain ⟨hi109a, hi109b⟩ := Qaz hi109
       obtain ⟨x110, hg111, h⟩ := bno h
       obtain ⟨hi112, h⟩ := cko h
       obtain ⟨hi112a, hi112b⟩ := Qaz hi112
       obtain ⟨x113, hg114, h⟩ := bno h
       refine wy1 tbk [(8, rb [(.tmp 66, (.own 0 3 (0) (p0))), (.tmp 68, (I (w64 (y97 + 1))))] [(0, (Qkt y98))] (.ref 0 3 ((w64 (y97 + 1)).toNat) 0)), (9, rb [(.tmp 69, (.ref 0 3 ((w64 (y97 + 1)).toNat) 0))] [(0, (Qkt y98))] (Qx4 x104)), (12, rb [(.tmp 71, (.own 0 3 (0) (p0))), (.tmp 72, I y97)] [(0, (Qkt y98))] (.ref 0 3 (y97.toNat) 0)), (13, rb [(.tmp 73, (.ref 0 3 (y97.toNat) 0))] [(0, (Qkt y98))] (Qxx x107)), (14, rb [(.tmp 61, (.own 0 3 (0) (p0))), (.tmp 62, I y97)] [(0, (Qkt y98))] (.ref 0 3 (y97.toNat) 0)), (15, ⟨[(.tmp 75, (.ref 0 3 (y97.toNat) 0)), (.tmp 70, (Qx4 x104))], [(0, (Qkt y98))], .any, [(0, (Qtd y98 y97 x104))], false⟩), (16, rb [(.tmp 63, (.own 0 3 (0) (p0))), (.tmp 65, (I (w64 (y97 + 1))))] [(0, (Qtd y98 y97 x104))] (.ref 0 3 ((w64 (y97 + 1)).toNat) 0)), (17, ⟨[(.tmp 76, (.ref 0 3 ((w64 (y97 + 1)).toNat) 0)), (.tmp 74, (Qxx x107))], [(0, (Qtd y98 y97 x104))], .any, [(0, (Qxw y98 y97 x104 x107))], false⟩)] ⟨aio rfl Try.underlying158 Qd3 (odt hi103a) (odt hi103b) (Nat.zero_add _), ald rfl Qd3 (by decide) (mgt Qap hg105) (nle rfl) rfl, aio rfl Try.underlying158 Qd3 (odt hi106a) (odt hi106b) (Nat.zero_add _), ald rfl Qd3 (by decide) (mgt Qap hg108) (nle rfl) rfl, aio rfl Try.underlying158 Qd3 (odt hi109a) (odt hi109b) (Nat.zero_add _), ast rfl Qd3 (by rfl) (mgt Qap hg111) (nle rfl) (Qfx Qap rfl), aio rfl Try.underlying158 Qd3 (odt hi112a) (odt hi112b) (Nat.zero_add _), ast rfl Qd3 (by rfl) (mgt Qap hg114) (nle rfl) (Qfx Qap rfl), trivial⟩ ?_
       refine bln ?_
       refine thn ?_
       refine wx1 tbk [] trivial ?_
       refine thn ?_
       exact arm (mto (n := 220) [(0, (.own 0 3 (0) (p0))), (10, I y93), (13, (I (w64 (y97 + 1))))] [0, 1] [(Qxw y98 y97 x104 x107), Qcg] hφ0 (pc (.rn (Qaf rfl)) (pc rwl (pc rwl pn))) (qc (spr Qah) (qc (spb (lc (.rn (Qaq rn0 rn0)) ln)) qn))) (ih (w64 (y97 + 1), (y98.set y97.toNat (⟨x104.unit, (⟨x104.Part.Width, x104.Part.Gain⟩ : GPart)⟩ : GPiece)).set ((w64 (y97 + 1)).toNat) (⟨x107.unit, (⟨x107.Part.Width, x107.Part.Gain⟩ : GPart)⟩ : GPiece)) h)
      ·replace h := Qaw hc102 h
       refine wfn hc102 (by kernel_rfl) ?_
       refine Qbh ?_
       refine Qar ?_
       refine Qar ?_
       refine Qbg rfl ?_
       refine thn ?_
       exact ⟨(y98), h, (mto (n := 220) [] [0, 1] [(Qkt y98), Qcg] hφ0 pn (qc (spr Qah) (qc (spb (lc (.rn (Qaq rn0 rn0)) ln)) qn)))⟩
    ·skip
     refine Qak ?_
     refine wmr (mto (n := 220) (l' := [(0, (.own 0 3 (0) (p0))), (1, I p1), (4, Qe6), (10, I p2), (11, I p3)]) (own' := [(Qd8 p4), Qcg]) [(0, (.own 0 3 (0) (p0))), (1, I p1), (4, Qe6), (10, I p2), (11, I p3)] [0, 1] [(Qd8 p4), Qcg] hφ0 (pc (.rn (Qaf rfl)) (pc rwl (pc (.rn (Qaq rn0 (rnc (rqr rfl) rn0))) (pc rwl (pc rwl pn))))) (qc (spr Qah) (qc (spb (lc (.rn (Qaq rn0 rn0)) ln)) qn))) ?_
     refine Qb1 (τ := Int × Int) (fun n t => Qa2 N p0 p1 p4 k94 n t.1 t.2 = some r) (fun ⟨y115, y116⟩ => ⟨mk 220 [(0, (.own 0 3 (0) (p0))), (1, I p1), (4, Qe6), (10, I y115), (11, I y116)], [(Qd8 p4), Qcg]⟩) (fun t h => by rw [Qa2] at h; cases h) (fun n119 ih t h => ?_) N (p2, p3) h
     obtain ⟨y115, y116⟩ := t
     rw [Qa2] at h
     skip
     refine wsq ?_
     refine wx tbk [] trivial ?_
     rcases bft ((decide (y115 < y116))) with hc120 | hc120
     ·replace h := Qav hc120 h
      refine wft hc120 (by kernel_rfl) ?_
      refine Qao ?_
      refine thn ?_
      refine Qak ?_
      obtain ⟨x121, hl122, h⟩ := bno h
      refine wx tbk [(3, rp [(.tmp 36, (I (w64 (y115 + y116))))] (K .u64 (IntKind.wrap .u64 (w64 (y115 + y116))))), (4, rp [(.tmp 37, (K .u64 (IntKind.wrap .u64 (w64 (y115 + y116))))), (.const (.int .u64 1), (K .u64 (1)))] (K .u64 ((IntKind.wrap .u64 (w64 (y115 + y116))) / 2))), (5, rp [(.tmp 38, (K .u64 ((IntKind.wrap .u64 (w64 (y115 + y116))) / 2)))] (I (w64 ((IntKind.wrap .u64 (w64 (y115 + y116))) / 2)))), (6, rp [(.tmp 39, (I (w64 ((IntKind.wrap .u64 (w64 (y115 + y116))) / 2))))] (I x121))] ⟨acv rfl (by rw [Try.underlying3]; rfl) Try.underlying180, Qmw rfl (by decide) (by decide), acv rfl (by rw [Try.underlying180]; rfl) Try.underlying3, Qep hl122 (aas rfl), trivial⟩ ?_
      obtain ⟨hi123, h⟩ := cko h
      obtain ⟨hi123a, hi123b⟩ := Qaz hi123
      obtain ⟨x124, hg125, h⟩ := bno h
      obtain ⟨hi126, h⟩ := cko h
      obtain ⟨hi126a, hi126b⟩ := Qaz hi126
      obtain ⟨x127, hg128, h⟩ := bno h
      obtain ⟨x130, hf129, h⟩ := bno h
      refine wxd tbk [(3, rb [(.tmp 41, (.own 0 3 (0) (p0))), (.tmp 42, I x121)] [(0, (Qd8 p4))] (.ref 0 3 (x121.toNat) 0)), (4, rb [(.tmp 43, (.ref 0 3 (x121.toNat) 0))] [(0, (Qd8 p4))] (Qxv x124)), (7, rb [(.tmp 45, (.own 0 3 (0) (p0))), (.tmp 46, I p1)] [(0, (Qd8 p4))] (.ref 0 3 (p1.toNat) 0)), (8, rb [(.tmp 47, (.ref 0 3 (p1.toNat) 0))] [(0, (Qd8 p4))] (Qxu x127)), (9, ⟨[(.tmp 40, Qe6), (.tmp 44, (Qxv x124)), (.tmp 48, (Qxu x127))], [(1, Qcg)], I x130, [(1, Qcg)], false⟩)] ⟨aio rfl Try.underlying158 Qd3 (odt hi123a) (odt hi123b) (Nat.zero_add _), ald rfl Qd3 (by decide) (mgt Qap hg125) (nle rfl) rfl, aio rfl Try.underlying158 Qd3 (odt hi126a) (odt hi126b) (Nat.zero_add _), ald rfl Qd3 (by decide) (mgt Qap hg128) (nle rfl) rfl, Qam (first := []) (cap := [.ref 1 1 0 0]) (vs := [(.agg [(I ((⟨x124.unit, (⟨x124.Part.Width, x124.Part.Gain⟩ : GPart)⟩ : GPiece).unit)), (I ((⟨x124.unit, (⟨x124.Part.Width, x124.Part.Gain⟩ : GPart)⟩ : GPiece).Part.Width)), (I ((⟨x124.unit, (⟨x124.Part.Width, x124.Part.Gain⟩ : GPart)⟩ : GPiece).Part.Gain))]), (.agg [(I ((⟨x127.unit, (⟨x127.Part.Width, x127.Part.Gain⟩ : GPart)⟩ : GPiece).unit)), (I ((⟨x127.unit, (⟨x127.Part.Width, x127.Part.Gain⟩ : GPart)⟩ : GPiece).Part.Width)), (I ((⟨x127.unit, (⟨x127.Part.Width, x127.Part.Gain⟩ : GPart)⟩ : GPiece).Part.Gain))])]) (σr := [Qcg]) (σr' := [Qcg]) (res' := (I x130)) [1] rfl Qn6 (Qcx N (⟨x124.unit, (⟨x124.Part.Width, x124.Part.Gain⟩ : GPart)⟩ : GPiece) (⟨x127.unit, (⟨x127.Part.Width, x127.Part.Gain⟩ : GPart)⟩ : GPiece) _ hf129) rfl (Qbi (rnc (.plain _ (NLt.agg _ (nlc nll (nlc nll (nlc nll nl0))))) (rnc (.plain _ (NLt.agg _ (nlc nll (nlc nll (nlc nll nl0))))) (rnc (Qax rfl) rn0)))) (slc (Qai (rnc (.plain _ (NLt.fn _ _ _ nl0 nl0)) rn0)) Qal) (slc (Qai (rnc (.plain _ (NLt.fn _ _ _ nl0 nl0)) rn0)) Qal) (.plain _ nll) rfl rfl rfl, trivial⟩ ?_
      rcases bft ((decide (x130 < 0))) with hc131 | hc131
      ·replace h := Qav hc131 h
       refine wft hc131 (by kernel_rfl) ?_
       refine wx1 tbk [] trivial ?_
       refine bln ?_
       refine thn ?_
       exact arm (mto (n := 220) [(0, (.own 0 3 (0) (p0))), (1, I p1), (4, Qe6), (10, (I (w64 (x121 + 1)))), (11, I y116)] [0, 1] [(Qd8 p4), Qcg] hφ0 (pc (.rn (Qaf rfl)) (pc rwl (pc (.rn (Qaq rn0 (rnc (rqr rfl) rn0))) (pc rwl (pc rwl pn))))) (qc (spr Qah) (qc (spb (lc (.rn (Qaq rn0 rn0)) ln)) qn))) (ih (w64 (x121 + 1), y116) h)
      ·replace h := Qaw hc131 h
       refine wfn hc131 (by kernel_rfl) ?_
       refine wx1 tbk [] trivial ?_
       refine bln ?_
       refine thn ?_
       exact arm (mto (n := 220) [(0, (.own 0 3 (0) (p0))), (1, I p1), (4, Qe6), (10, I y115), (11, I x121)] [0, 1] [(Qd8 p4), Qcg] hφ0 (pc (.rn (Qaf rfl)) (pc rwl (pc (.rn (Qaq rn0 (rnc (rqr rfl) rn0))) (pc rwl (pc rwl pn))))) (qc (spr Qah) (qc (spb (lc (.rn (Qaq rn0 rn0)) ln)) qn))) (ih (y115, x121) h)
     ·replace h := Qaw hc120 h
      refine wfn hc120 (by kernel_rfl) ?_
      refine Qbh ?_
      refine Qar ?_
      refine Qar ?_
      refine Qbg rfl ?_
      refine thn ?_
      exact ⟨(y115), h, (mto (n := 220) [(0, (.own 0 3 (0) (p0))), (1, I p1), (10, I y115)] [0, 1] [(Qd8 p4), Qcg] hφ0 (pc (.rn (Qaf rfl)) (pc rwl (pc rwl pn))) (qc (spr Qah) (qc (spb (lc (.rn (Qaq rn0 rn0)) ln)) qn)))⟩
   ·replace h := Qaw hc92 h
    refine wfn hc92 (by kernel_rfl) ?_
    refine Qao ?_
    refine thn ?_
    exact ⟨(), h, (mto (n := 220) [(0, (.own 0 3 (0) (p0))), (1, I p1), (2, I p2), (3, I p3), (4, Qe6)] [0, 1] [(Qd8 p4), Qcg] hφ0 (pc (.rn (Qaf rfl)) (pc rwl (pc rwl (pc rwl (pc (.rn (Qaq rn0 (rnc (rqr rfl) rn0))) pn))))) (qc (spr Qah) (qc (spb (lc (.rn (Qaq rn0 rn0)) ln)) qn)))⟩
def Qbr (N : Nat) (p0 : Nat) (p1 : Int) (y7 : Int) (k15 : Int × (List GPiece) → Option (List GPiece)) : Nat → Int → Int → (List GPiece) → Option (List GPiece)
  | 0, _, _, _ => none
  | n25 + 1, y19, y20, y21 =>
    bif (decide (y20 ≤ p1)) then
     (Qbw N p0 y19 (w64 (y19 + y7)) y20 y21).bind fun x28 =>
     (some (w64 (y20 + (w64 (2 * y7))))).bind fun x29 =>
     Qbr N p0 p1 y7 k15 n25 y20 x29 x28
    else
     k15 (y19, y21)
def Qba (N : Nat) (p0 : Nat) (p1 : Int) : Nat → Int → (List GPiece) → Option (List GPiece)
  | 0, _, _ => none
  | n11 + 1, y7, y8 =>
    bif (decide (y7 < p1)) then
     Qdu (fun ⟨y13, y14⟩ =>
       bif (decide ((w64 (y13 + y7)) < p1)) then
        (Qbw N p0 y13 (w64 (y13 + y7)) p1 y14).bind fun x18 =>
        Qba N p0 p1 n11 (w64 (y7 * 2)) x18
       else
        Qba N p0 p1 n11 (w64 (y7 * 2)) y14) fun k15 : Int × (List GPiece) → Option (List GPiece) =>
     Qbr N p0 p1 y7 k15 N 0 (w64 (2 * y7)) y8
    else
     some y8
def Qbq (N : Nat) (p0 : Nat) (p1 : Int) (k4 : Int × (List GPiece) → Option (List GPiece)) : Nat → Int → Int → (List GPiece) → Option (List GPiece)
  | 0, _, _, _ => none
  | n37 + 1, y31, y32, y33 =>
    bif (decide (y32 ≤ p1)) then
     (Qb0 N p0 y31 y32 y33).bind fun x40 =>
     Qbq N p0 p1 k4 n37 y32 (w64 (y32 + 20)) x40
    else
     k4 (y31, y33)
def Qdc (N : Nat) (p0 : Nat) (p1 : Int) (p2 : (List GPiece)) : Option (List GPiece) :=
  Qdu (fun ⟨y2, y3⟩ =>
    (Qb0 N p0 y2 p1 y3).bind fun x6 =>
    Qba N p0 p1 N 20 x6) fun k4 : Int × (List GPiece) → Option (List GPiece) =>
  Qbq N p0 p1 k4 N 0 20 p2
def Qh1 : AV := .fn (.func 124) [] [(.ref 1 1 (0) 0)]
def z29_1 (p2 : (List GPiece)) : Slot := .own 3 ((p2 : List GPiece).map Qap)
def Qfv : Slot := .own 1 [[(.fn (.func 106) [] [])]]
def z29_4 (y3 : (List GPiece)) : Slot := .own 3 ((y3 : List GPiece).map Qap)
def z29_5 (x6 : (List GPiece)) : Slot := .own 3 ((x6 : List GPiece).map Qap)
def Qr0 (y8 : (List GPiece)) : Slot := .own 3 ((y8 : List GPiece).map Qap)
def Quw (y14 : (List GPiece)) : Slot := .own 3 ((y14 : List GPiece).map Qap)
def Qya (x18 : (List GPiece)) : Slot := .own 3 ((x18 : List GPiece).map Qap)
def Quv (y21 : (List GPiece)) : Slot := .own 3 ((y21 : List GPiece).map Qap)
def Qx9 (x28 : (List GPiece)) : Slot := .own 3 ((x28 : List GPiece).map Qap)
def Quu (y33 : (List GPiece)) : Slot := .own 3 ((y33 : List GPiece).map Qap)
def Qx8 (x40 : (List GPiece)) : Slot := .own 3 ((x40 : List GPiece).map Qap)
set_option maxRecDepth 100000 in
set_option maxHeartbeats 4000000 in
theorem Qf9 (N : Nat) (p0 : Nat) (p1 : Int) (p2 : (List GPiece)) (r : (List GPiece)) (h : Qdc N p0 p1 p2 = some r) : Spec Try.prog 133 [(.own 0 3 (0) (p0)), (I (p1)), Qh1] [(z29_1 p2), Qfv] (.tup []) [(.own 3 ((r : List GPiece).map Qap)), Qfv] := by
  refine Qac Try.func133 rfl 2 (nle rfl) (fun X φ0 w0 hφ0 => ?_)
  unfold Qdc at h
  refine Qbj ?_
  refine wx tbk [] trivial ?_
  refine wx tbk [] trivial ?_
  obtain ⟨k4, hk_k4, h⟩ := jko h
  refine wjn (τ := Int × (List GPiece)) (fun t => k4 t = some r) (fun ⟨y2, y3⟩ => ⟨mk 63 [(0, (.own 0 3 (0) (p0))), (1, I p1), (2, Qh1), (6, I 20), (7, I y2)], [(z29_4 y3), Qfv]⟩) (fun t h => ?_) ?_
  ·subst hk_k4
   obtain ⟨y2, y3⟩ := t
   obtain ⟨x6, hf5, h⟩ := bno h
   refine wx tbk [(4, ⟨[fu 135, (.tmp 23, (.own 0 3 (0) (p0))), (.tmp 24, I y2), (.tmp 25, I p1), (.tmp 26, Qh1)], [(0, (z29_4 y3)), (1, Qfv)], (.tup []), [(0, (z29_5 x6)), (1, Qfv)], false⟩)] ⟨Qam (first := []) (cap := []) (vs := [(.own 0 3 (0) (p0)), I y2, I p1, Qh1]) (σr := [(z29_4 y3), Qfv]) (σr' := [(z29_5 x6), Qfv]) (res' := (.tup [])) [0, 1] rfl Qvi (Qdf N p0 y2 p1 y3 _ hf5) rfl (Qbi (rnc (Qej rfl) (rnc (.plain _ nll) (rnc (.plain _ nll) (rnc (Qaq rn0 (rnc (Qax rfl) rn0)) rn0))))) (slc (Qcn Qah) (slc (Qai (rnc (.plain _ (NLt.fn _ _ _ nl0 nl0)) rn0)) Qal)) (slc (Qcn Qah) (slc (Qai (rnc (.plain _ (NLt.fn _ _ _ nl0 nl0)) rn0)) Qal)) (.plain _ (NLt.tup _ nl0)) rfl rfl rfl, trivial⟩ ?_
   refine Qak ?_
   refine wmr (mto (n := 63) (l' := [(0, (.own 0 3 (0) (p0))), (1, I p1), (2, Qh1), (6, I 20)]) (own' := [(z29_5 x6), Qfv]) [(0, (.own 0 3 (0) (p0))), (1, I p1), (2, Qh1), (6, I 20)] [0, 1] [(z29_5 x6), Qfv] hφ0 (pc (.rn (Qaf rfl)) (pc rwl (pc (.rn (Qaq rn0 (rnc (rqr rfl) rn0))) (pc rwl pn)))) (qc (spr Qah) (qc (spb (lc (.rn (Qaq rn0 rn0)) ln)) qn))) ?_
   refine Qb1 (τ := Int × (List GPiece)) (fun n t => Qba N p0 p1 n t.1 t.2 = some r) (fun ⟨y7, y8⟩ => ⟨mk 63 [(0, (.own 0 3 (0) (p0))), (1, I p1), (2, Qh1), (6, I y7)], [(Qr0 y8), Qfv]⟩) (fun t h => by rw [Qba] at h; cases h) (fun n11 ih t h => ?_) N (20, x6) h
   obtain ⟨y7, y8⟩ := t
   rw [Qba] at h
   skip
   refine wsq ?_
   refine wx tbk [] trivial ?_
   rcases bft ((decide (y7 < p1))) with hc12 | hc12
   ·replace h := Qav hc12 h
    refine wft hc12 (by kernel_rfl) ?_
    refine Qao ?_
    refine thn ?_
    refine Qak ?_
    refine wx tbk [] trivial ?_
    obtain ⟨k15, hk_k15, h⟩ := jko h
    refine wjn (τ := Int × (List GPiece)) (fun t => k15 t = some r) (fun ⟨y13, y14⟩ => ⟨mk 63 [(0, (.own 0 3 (0) (p0))), (1, I p1), (2, Qh1), (6, I y7), (7, I y13)], [(Quw y14), Qfv]⟩) (fun t h => ?_) ?_
    ·subst hk_k15
     obtain ⟨y13, y14⟩ := t
     refine wsq ?_
     refine wx tbk [] trivial ?_
     refine wx tbk [] trivial ?_
     rcases bft ((decide ((w64 (y13 + y7)) < p1))) with hc16 | hc16
     ·replace h := Qav hc16 h
      refine wft hc16 (by kernel_rfl) ?_
      obtain ⟨x18, hf17, h⟩ := bno h
      refine wx1 tbk [(5, ⟨[fu 136, (.tmp 55, (.own 0 3 (0) (p0))), (.tmp 56, I y13), (.tmp 57, (I (w64 (y13 + y7)))), (.tmp 58, I p1), (.tmp 59, Qh1)], [(0, (Quw y14)), (1, Qfv)], (.tup []), [(0, (Qya x18)), (1, Qfv)], false⟩)] ⟨Qam (first := []) (cap := []) (vs := [(.own 0 3 (0) (p0)), I y13, (I (w64 (y13 + y7))), I p1, Qh1]) (σr := [(Quw y14), Qfv]) (σr' := [(Qya x18), Qfv]) (res' := (.tup [])) [0, 1] rfl Qn5 (Qdw N p0 y13 (w64 (y13 + y7)) p1 y14 _ hf17) rfl (Qbi (rnc (Qej rfl) (rnc (.plain _ nll) (rnc (.plain _ nll) (rnc (.plain _ nll) (rnc (Qaq rn0 (rnc (Qax rfl) rn0)) rn0)))))) (slc (Qcn Qah) (slc (Qai (rnc (.plain _ (NLt.fn _ _ _ nl0 nl0)) rn0)) Qal)) (slc (Qcn Qah) (slc (Qai (rnc (.plain _ (NLt.fn _ _ _ nl0 nl0)) rn0)) Qal)) (.plain _ (NLt.tup _ nl0)) rfl rfl rfl, trivial⟩ ?_
      refine thn ?_
      refine wx1 tbk [] trivial ?_
      refine bln ?_
      refine thn ?_
      exact arm (mto (n := 63) [(0, (.own 0 3 (0) (p0))), (1, I p1), (2, Qh1), (6, (I (w64 (y7 * 2))))] [0, 1] [(Qya x18), Qfv] hφ0 (pc (.rn (Qaf rfl)) (pc rwl (pc (.rn (Qaq rn0 (rnc (rqr rfl) rn0))) (pc rwl pn)))) (qc (spr Qah) (qc (spb (lc (.rn (Qaq rn0 rn0)) ln)) qn))) (ih (w64 (y7 * 2), x18) h)
     ·replace h := Qaw hc16 h
      refine wfn hc16 (by kernel_rfl) ?_
      refine Qao ?_
      refine thn ?_
      refine wx1 tbk [] trivial ?_
      refine bln ?_
      refine thn ?_
      exact arm (mto (n := 63) [(0, (.own 0 3 (0) (p0))), (1, I p1), (2, Qh1), (6, (I (w64 (y7 * 2))))] [0, 1] [(Quw y14), Qfv] hφ0 (pc (.rn (Qaf rfl)) (pc rwl (pc (.rn (Qaq rn0 (rnc (rqr rfl) rn0))) (pc rwl pn)))) (qc (spr Qah) (qc (spb (lc (.rn (Qaq rn0 rn0)) ln)) qn))) (ih (w64 (y7 * 2), y14) h)
    ·skip
     refine Qak ?_
     refine wmr (mto (n := 63) (l' := [(0, (.own 0 3 (0) (p0))), (1, I p1), (2, Qh1), (6, I y7), (7, I 0), (8, (I ((w64 (2 * y7)))))]) (own' := [(Qr0 y8), Qfv]) [(0, (.own 0 3 (0) (p0))), (1, I p1), (2, Qh1), (6, I y7), (7, I 0), (8, (I (w64 (2 * y7))))] [0, 1] [(Qr0 y8), Qfv] hφ0 (pc (.rn (Qaf rfl)) (pc rwl (pc (.rn (Qaq rn0 (rnc (rqr rfl) rn0))) (pc rwl (pc rwl (pc rwl pn)))))) (qc (spr Qah) (qc (spb (lc (.rn (Qaq rn0 rn0)) ln)) qn))) ?_
     refine Qb1 (τ := Int × Int × (List GPiece)) (fun n t => Qbr N p0 p1 y7 k15 n t.1 t.2.1 t.2.2 = some r) (fun ⟨y19, y20, y21⟩ => ⟨mk 63 [(0, (.own 0 3 (0) (p0))), (1, I p1), (2, Qh1), (6, I y7), (7, I y19), (8, I y20)], [(Quv y21), Qfv]⟩) (fun t h => by rw [Qbr] at h; cases h) (fun n25 ih t h => ?_) N (0, w64 (2 * y7), y8) h
     obtain ⟨y19, y20, y21⟩ := t
     rw [Qbr] at h
     skip
     refine wsq ?_
     refine wx tbk [] trivial ?_
     rcases bft ((decide (y20 ≤ p1))) with hc26 | hc26
     ·replace h := Qav hc26 h
      refine wft hc26 (by kernel_rfl) ?_
      refine Qao ?_
      refine thn ?_
      refine Qak ?_
      obtain ⟨x28, hf27, h⟩ := bno h
      refine wx tbk [(7, ⟨[fu 136, (.tmp 36, (.own 0 3 (0) (p0))), (.tmp 37, I y19), (.tmp 40, (I (w64 (y19 + y7)))), (.tmp 41, I y20), (.tmp 42, Qh1)], [(0, (Quv y21)), (1, Qfv)], (.tup []), [(0, (Qx9 x28)), (1, Qfv)], false⟩)] ⟨Qam (first := []) (cap := []) (vs := [(.own 0 3 (0) (p0)), I y19, (I (w64 (y19 + y7))), I y20, Qh1]) (σr := [(Quv y21), Qfv]) (σr' := [(Qx9 x28), Qfv]) (res' := (.tup [])) [0, 1] rfl Qn5 (Qdw N p0 y19 (w64 (y19 + y7)) y20 y21 _ hf27) rfl (Qbi (rnc (Qej rfl) (rnc (.plain _ nll) (rnc (.plain _ nll) (rnc (.plain _ nll) (rnc (Qaq rn0 (rnc (Qax rfl) rn0)) rn0)))))) (slc (Qcn Qah) (slc (Qai (rnc (.plain _ (NLt.fn _ _ _ nl0 nl0)) rn0)) Qal)) (slc (Qcn Qah) (slc (Qai (rnc (.plain _ (NLt.fn _ _ _ nl0 nl0)) rn0)) Qal)) (.plain _ (NLt.tup _ nl0)) rfl rfl rfl, trivial⟩ ?_
      refine wx tbk [] trivial ?_
      obtain ⟨x29, hl30, h⟩ := bno h
      refine wx1 tbk [(4, rp [(.tmp 48, (I (w64 (y20 + (w64 (2 * y7))))))] (I x29))] ⟨Qep hl30 (aas rfl), trivial⟩ ?_
      refine bln ?_
      refine thn ?_
      exact arm (mto (n := 63) [(0, (.own 0 3 (0) (p0))), (1, I p1), (2, Qh1), (6, I y7), (7, I y20), (8, I x29)] [0, 1] [(Qx9 x28), Qfv] hφ0 (pc (.rn (Qaf rfl)) (pc rwl (pc (.rn (Qaq rn0 (rnc (rqr rfl) rn0))) (pc rwl (pc rwl (pc rwl pn)))))) (qc (spr Qah) (qc (spb (lc (.rn (Qaq rn0 rn0)) ln)) qn))) (ih (y20, x29, x28) h)
     ·replace h := Qaw hc26 h
      refine wfn hc26 (by kernel_rfl) ?_
      refine Qbh ?_
      refine Qar ?_
      refine Qar ?_
      refine Qbg rfl ?_
      refine thn ?_
      exact ⟨(y19, y21), h, (mto (n := 63) [(0, (.own 0 3 (0) (p0))), (1, I p1), (2, Qh1), (6, I y7), (7, I y19)] [0, 1] [(Quv y21), Qfv] hφ0 (pc (.rn (Qaf rfl)) (pc rwl (pc (.rn (Qaq rn0 (rnc (rqr rfl) rn0))) (pc rwl (pc rwl pn))))) (qc (spr Qah) (qc (spb (lc (.rn (Qaq rn0 rn0)) ln)) qn)))⟩
   ·replace h := Qaw hc12 h
    refine wfn hc12 (by kernel_rfl) ?_
    refine Qbh ?_
    refine Qar ?_
    refine Qar ?_
    refine Qbg rfl ?_
    obtain rfl := osi h
    exact ⟨_, (mto (n := 63) (l' := []) (own' := [(Qr0 y8), Qfv]) [] [0, 1] [(Qr0 y8), Qfv] hφ0 pn (qc (spr Qah) (qc (spb (lc (.rn (Qaq rn0 rn0)) ln)) qn))), Qbx (vs := []) trivial rfl (NLt.tup _ nl0) (by kernel_rfl) (Qag (Qgm Qah _) (Qag (Qas (nlc (NLt.of0 (NLt.fn _ _ _ nl0 nl0)) nl0)) Qa5))⟩
  ·skip
   refine Qak ?_
   refine wmr (mto (n := 63) (l' := [(0, (.own 0 3 (0) (p0))), (1, I p1), (2, Qh1), (6, I 20), (7, I 0), (8, I 20)]) (own' := [(z29_1 p2), Qfv]) [(0, (.own 0 3 (0) (p0))), (1, I p1), (2, Qh1), (6, I 20), (7, I 0), (8, I 20)] [0, 1] [(z29_1 p2), Qfv] hφ0 (pc (.rn (Qaf rfl)) (pc rwl (pc (.rn (Qaq rn0 (rnc (rqr rfl) rn0))) (pc rwl (pc rwl (pc rwl pn)))))) (qc (spr Qah) (qc (spb (lc (.rn (Qaq rn0 rn0)) ln)) qn))) ?_
   refine Qb1 (τ := Int × Int × (List GPiece)) (fun n t => Qbq N p0 p1 k4 n t.1 t.2.1 t.2.2 = some r) (fun ⟨y31, y32, y33⟩ => ⟨mk 63 [(0, (.own 0 3 (0) (p0))), (1, I p1), (2, Qh1), (6, I 20), (7, I y31), (8, I y32)], [(Quu y33), Qfv]⟩) (fun t h => by rw [Qbq] at h; cases h) (fun n37 ih t h => ?_) N (0, 20, p2) h
   obtain ⟨y31, y32, y33⟩ := t
   rw [Qbq] at h
   skip
   refine wsq ?_
   refine wx tbk [] trivial ?_
   rcases bft ((decide (y32 ≤ p1))) with hc38 | hc38
   ·replace h := Qav hc38 h
    refine wft hc38 (by kernel_rfl) ?_
    refine Qao ?_
    refine thn ?_
    refine Qak ?_
    obtain ⟨x40, hf39, h⟩ := bno h
    refine wx tbk [(4, ⟨[fu 135, (.tmp 14, (.own 0 3 (0) (p0))), (.tmp 15, I y31), (.tmp 16, I y32), (.tmp 17, Qh1)], [(0, (Quu y33)), (1, Qfv)], (.tup []), [(0, (Qx8 x40)), (1, Qfv)], false⟩)] ⟨Qam (first := []) (cap := []) (vs := [(.own 0 3 (0) (p0)), I y31, I y32, Qh1]) (σr := [(Quu y33), Qfv]) (σr' := [(Qx8 x40), Qfv]) (res' := (.tup [])) [0, 1] rfl Qvi (Qdf N p0 y31 y32 y33 _ hf39) rfl (Qbi (rnc (Qej rfl) (rnc (.plain _ nll) (rnc (.plain _ nll) (rnc (Qaq rn0 (rnc (Qax rfl) rn0)) rn0))))) (slc (Qcn Qah) (slc (Qai (rnc (.plain _ (NLt.fn _ _ _ nl0 nl0)) rn0)) Qal)) (slc (Qcn Qah) (slc (Qai (rnc (.plain _ (NLt.fn _ _ _ nl0 nl0)) rn0)) Qal)) (.plain _ (NLt.tup _ nl0)) rfl rfl rfl, trivial⟩ ?_
    refine wx tbk [] trivial ?_
    refine wx1 tbk [] trivial ?_
    refine bln ?_
    refine thn ?_
    exact arm (mto (n := 63) [(0, (.own 0 3 (0) (p0))), (1, I p1), (2, Qh1), (6, I 20), (7, I y32), (8, (I (w64 (y32 + 20))))] [0, 1] [(Qx8 x40), Qfv] hφ0 (pc (.rn (Qaf rfl)) (pc rwl (pc (.rn (Qaq rn0 (rnc (rqr rfl) rn0))) (pc rwl (pc rwl (pc rwl pn)))))) (qc (spr Qah) (qc (spb (lc (.rn (Qaq rn0 rn0)) ln)) qn))) (ih (y32, w64 (y32 + 20), x40) h)
   ·replace h := Qaw hc38 h
    refine wfn hc38 (by kernel_rfl) ?_
    refine Qbh ?_
    refine Qar ?_
    refine Qar ?_
    refine Qbg rfl ?_
    refine thn ?_
    exact ⟨(y31, y33), h, (mto (n := 63) [(0, (.own 0 3 (0) (p0))), (1, I p1), (2, Qh1), (6, I 20), (7, I y31)] [0, 1] [(Quu y33), Qfv] hφ0 (pc (.rn (Qaf rfl)) (pc rwl (pc (.rn (Qaq rn0 (rnc (rqr rfl) rn0))) (pc rwl (pc rwl pn))))) (qc (spr Qah) (qc (spb (lc (.rn (Qaq rn0 rn0)) ln)) qn)))⟩
def Qb8 (N : Nat) (p0 : Nat) (p1 : (List GPiece)) : Option (List GPiece) :=
  (Qdc N p0 ((p0 : Nat) : Int) p1).bind fun x3 =>
  some x3
def z28_0 : AV := .fn (.func 124) [] [(.ref 1 1 (0) 0)]
def z28_1 (p1 : (List GPiece)) : Slot := .own 3 ((p1 : List GPiece).map Qap)
def Qr1 : Slot := .own 1 [[(.fn (.func 106) [] [])]]
def z28_4 (x3 : (List GPiece)) : Slot := .own 3 ((x3 : List GPiece).map Qap)
set_option maxRecDepth 100000 in
set_option maxHeartbeats 4000000 in
theorem Qec (N : Nat) (p0 : Nat) (p1 : (List GPiece)) (r : (List GPiece)) (h : Qb8 N p0 p1 = some r) : Spec Try.prog 123 [(.own 0 3 (0) (p0)), z28_0] [(z28_1 p1), Qr1] (.tup []) [(.own 3 ((r : List GPiece).map Qap)), Qr1] := by
  refine Qac Try.func123 rfl 2 (nle rfl) (fun X φ0 w0 hφ0 => ?_)
  unfold Qb8 at h
  refine Qbj ?_
  obtain ⟨x3, hf2, h⟩ := bno h
  refine wx1 tbk [(2, rp [(.tmp 5, (.own 0 3 (0) (p0)))] (I (((p0 : Nat) : Int)))), (4, ⟨[fu 133, (.tmp 4, (.own 0 3 (0) (p0))), (.tmp 6, (I (((p0 : Nat) : Int)))), (.tmp 7, z28_0)], [(0, (z28_1 p1)), (1, Qr1)], (.tup []), [(0, (z28_4 x3)), (1, Qr1)], false⟩)] ⟨aln rfl Try.underlying158 rfl, Qam (first := []) (cap := []) (vs := [(.own 0 3 (0) (p0)), (I (((p0 : Nat) : Int))), z28_0]) (σr := [(z28_1 p1), Qr1]) (σr' := [(z28_4 x3), Qr1]) (res' := (.tup [])) [0, 1] rfl enter133 (Qf9 N p0 ((p0 : Nat) : Int) p1 _ hf2) rfl (Qbi (rnc (Qej rfl) (rnc (.plain _ nll) (rnc (Qaq rn0 (rnc (Qax rfl) rn0)) rn0)))) (slc (Qcn Qah) (slc (Qai (rnc (.plain _ (NLt.fn _ _ _ nl0 nl0)) rn0)) Qal)) (slc (Qcn Qah) (slc (Qai (rnc (.plain _ (NLt.fn _ _ _ nl0 nl0)) rn0)) Qal)) (.plain _ (NLt.tup _ nl0)) rfl rfl rfl, trivial⟩ ?_
  obtain rfl := osi h
  exact ⟨_, (mto (n := 9) (l' := []) (own' := [(z28_4 x3), Qr1]) [] [0, 1] [(z28_4 x3), Qr1] hφ0 pn (qc (spr Qah) (qc (spb (lc (.rn (Qaq rn0 rn0)) ln)) qn))), Qbx (vs := []) trivial rfl (NLt.tup _ nl0) (by kernel_rfl) (Qag (Qgm Qah _) (Qag (Qas (nlc (NLt.of0 (NLt.fn _ _ _ nl0 nl0)) nl0)) Qa5))⟩
def Qel (N : Nat) (p0 : Nat) (p1 : (List GPiece)) : Option (List GPiece) :=
  (Qb8 N p0 p1).bind fun x3 =>
  some x3
def z27_2 (p1 : (List GPiece)) : Slot := .own 3 ((p1 : List GPiece).map Qap)
def z27_1 : AV := .fn (.func 124) [] [(.ref 1 1 (0) 0)]
def z27_0 : Slot := .own 1 [[(.fn (.func 106) [] [])]]
def z27_4 (x3 : (List GPiece)) : Slot := .own 3 ((x3 : List GPiece).map Qap)
set_option maxRecDepth 100000 in
set_option maxHeartbeats 4000000 in
theorem Qh8 (N : Nat) (p0 : Nat) (p1 : (List GPiece)) (r : (List GPiece)) (h : Qel N p0 p1 = some r) : Spec Try.prog 105 [(.own 0 3 (0) (p0)), (.fn (.func 106) [] [])] [(z27_2 p1)] (.own 0 3 (0) (p0)) [(.own 3 ((r : List GPiece).map Qap))] := by
  refine Qac Try.func105 rfl 1 (nle rfl) (fun X φ0 w0 hφ0 => ?_)
  unfold Qel at h
  refine Qbj ?_
  refine wx tbk [] trivial ?_
  obtain ⟨x3, hf2, h⟩ := bno h
  refine wx tbk [(1, rp [(.tmp 3, .ref 1 1 0 0)] z27_1), (2, ⟨[fu 123, (.tmp 5, (.own 0 3 (0) (p0))), (.tmp 6, z27_1)], [(0, (z27_2 p1)), (1, z27_0)], (.tup []), [(0, (z27_4 x3)), (1, z27_0)], false⟩)] ⟨Qdt (fs := []) (cs := [.ref 1 1 0 0]) rfl rfl rfl rfl, Qam (first := []) (cap := []) (vs := [(.own 0 3 (0) (p0)), z27_1]) (σr := [(z27_2 p1), z27_0]) (σr' := [(z27_4 x3), z27_0]) (res' := (.tup [])) [0, 1] rfl enter123 (Qec N p0 p1 _ hf2) rfl (Qbi (rnc (Qej rfl) (rnc (Qaq rn0 (rnc (Qax rfl) rn0)) rn0))) (slc (Qcn Qah) (slc (Qai (rnc (.plain _ (NLt.fn _ _ _ nl0 nl0)) rn0)) Qal)) (slc (Qcn Qah) (slc (Qai (rnc (.plain _ (NLt.fn _ _ _ nl0 nl0)) rn0)) Qal)) (.plain _ (NLt.tup _ nl0)) rfl rfl rfl, trivial⟩ ?_
  refine wx tbk [] trivial ?_
  refine wmr (mto (n := 9) (l' := [(4, (.own 0 3 (0) (p0)))]) (own' := [(z27_4 x3)]) [(4, (.own 0 3 (0) (p0)))] [0] [(z27_4 x3)] hφ0 (pc (.rn (Qaf rfl)) pn) (qc (spr Qah) qn)) ?_
  refine Qab ?_
  obtain rfl := osi h
  exact ⟨_, Mor.rfl, Qbx (vs := [(.own 0 3 (0) (p0))]) ⟨rot (by kernel_rfl), trivial⟩ rfl (NLt.own _ _ _ _ (by decide)) (by kernel_rfl) (Qag (Qgm Qah _) Qa5)⟩
def Qcz (N : Nat) (p0 : Nat) (p1 : (List Int)) (k7 : Int → Option Int) : Nat → Int → Int → Option Int
  | 0, _, _ => none
  | n12 + 1, y8, y9 =>
    bif (decide (y9 < ((p0 : Nat) : Int))) then
     chk (decide (0 ≤ y9) && decide (y9.toNat < p0)) <|
     (p1[y9.toNat]?).bind fun x15 =>
     (some (if x15 < y8 then x15 else y8)).bind fun x17 =>
     Qcz N p0 p1 k7 n12 x17 (w64 (y9 + 1))
    else
     k7 (y8)
def Qer (N : Nat) (p0 : Nat) (p1 : (List Int)) : Option Int :=
  Qdu (fun _ =>
    chk (decide (0 ≤ 0) && decide ((0 : Int).toNat < p0)) <|
    (p1[(0 : Int).toNat]?).bind fun x4 =>
    Qdu (fun y6 =>
      some y6) fun k7 : Int → Option Int =>
    Qcz N p0 p1 k7 N x4 1) fun k2 : Unit → Option Int =>
  bif (decide (((p0 : Nat) : Int) < 1)) then
   none
  else
   k2 ()
def Qlw (p1 : (List Int)) : Slot := .own 1 ((p1 : List Int).map Qad)
set_option maxRecDepth 100000 in
set_option maxHeartbeats 4000000 in
theorem Qd4 (N : Nat) (p0 : Nat) (p1 : (List Int)) (r : Int) (h : Qer N p0 p1 = some r) : Spec Try.prog 88 [(.own 0 1 (0) (p0))] [(Qlw p1)] (I (r)) [(Qlw p1)] := by
  refine Qac Try.func88 rfl 1 (nle rfl) (fun X φ0 w0 hφ0 => ?_)
  unfold Qer at h
  refine Qbj ?_
  refine wx tbk [] trivial ?_
  obtain ⟨k2, hk_k2, h⟩ := jko h
  refine wjn (τ := Unit) (fun t => k2 t = some r) (fun _ => ⟨mk 25 [(0, (.own 0 1 (0) (p0)))], [(Qlw p1)]⟩) (fun t h => ?_) ?_
  ·subst hk_k2
   obtain ⟨hi3, h⟩ := cko h
   obtain ⟨hi3a, hi3b⟩ := Qaz hi3
   obtain ⟨x4, hg5, h⟩ := bno h
   refine wx tbk [(1, rb [(.tmp 9, (.own 0 1 (0) (p0))), ci 0] [(0, (Qlw p1))] (.ref 0 1 ((0 : Int).toNat) 0)), (2, rb [(.tmp 10, (.ref 0 1 ((0 : Int).toNat) 0))] [(0, (Qlw p1))] (I x4))] ⟨aio rfl Try.underlying37 ti3 (odt hi3a) (odt hi3b) (Nat.zero_add _), ald rfl ti3 (by decide) (mgt Qad hg5) (nle rfl) rfl, trivial⟩ ?_
   obtain ⟨k7, hk_k7, h⟩ := jko h
   refine wjn (τ := Int) (fun t => k7 t = some r) (fun y6 => ⟨mk 25 [(3, I y6)], [(Qlw p1)]⟩) (fun y6 h => ?_) ?_
   ·subst hk_k7
    refine wx tbk [] trivial ?_
    refine wmr (mto (n := 25) (l' := [(2, I y6)]) (own' := [(Qlw p1)]) [(2, I y6)] [0] [(Qlw p1)] hφ0 (pc rwl pn) (qc (spr Qaa) qn)) ?_
    refine Qab ?_
    obtain rfl := osi h
    exact ⟨_, Mor.rfl, Qbx (vs := [I y6]) ⟨rot (by kernel_rfl), trivial⟩ rfl (NLt.of0 nll) (by kernel_rfl) (Qag (Qgm Qaa _) Qa5)⟩
   ·skip
    refine wx tbk [] trivial ?_
    refine Qak ?_
    refine wmr (mto (n := 25) (l' := [(0, (.own 0 1 (0) (p0))), (3, I x4), (4, I 1)]) (own' := [(Qlw p1)]) [(0, (.own 0 1 (0) (p0))), (3, I x4), (4, I 1)] [0] [(Qlw p1)] hφ0 (pc (.rn (Qaf rfl)) (pc rwl (pc rwl pn))) (qc (spr Qaa) qn)) ?_
    refine Qb1 (τ := Int × Int) (fun n t => Qcz N p0 p1 k7 n t.1 t.2 = some r) (fun ⟨y8, y9⟩ => ⟨mk 25 [(0, (.own 0 1 (0) (p0))), (3, I y8), (4, I y9)], [(Qlw p1)]⟩) (fun t h => by rw [Qcz] at h; cases h) (fun n12 ih t h => ?_) N (x4, 1) h
    obtain ⟨y8, y9⟩ := t
    rw [Qcz] at h
    skip
    refine wsq ?_
    refine wx tbk [(2, rp [(.tmp 13, (.own 0 1 (0) (p0)))] (I (((p0 : Nat) : Int))))] ⟨aln rfl Try.underlying37 rfl, trivial⟩ ?_
    rcases bft ((decide (y9 < ((p0 : Nat) : Int)))) with hc13 | hc13
    ·replace h := Qav hc13 h
     refine wft hc13 (by kernel_rfl) ?_
     refine Qao ?_
     refine thn ?_
     refine wsq ?_
     refine Qak ?_
     obtain ⟨hi14, h⟩ := cko h
     obtain ⟨hi14a, hi14b⟩ := Qaz hi14
     obtain ⟨x15, hg16, h⟩ := bno h
     obtain ⟨x17, hl18, h⟩ := bno h
     refine wx1 tbk [(3, rb [(.tmp 19, (.own 0 1 (0) (p0))), (.tmp 20, I y9)] [(0, (Qlw p1))] (.ref 0 1 (y9.toNat) 0)), (4, rb [(.tmp 21, (.ref 0 1 (y9.toNat) 0))] [(0, (Qlw p1))] (I x15)), (5, rp [(.tmp 18, I y8), (.tmp 22, I x15)] (I ((if x15 < y8 then x15 else y8)))), (6, rp [(.tmp 23, (I ((if x15 < y8 then x15 else y8))))] (I x17))] ⟨aio rfl Try.underlying37 ti3 (odt hi14a) (odt hi14b) (Nat.zero_add _), ald rfl ti3 (by decide) (mgt Qad hg16) (nle rfl) rfl, Qmy rfl, Qep hl18 (aas rfl), trivial⟩ ?_
     refine bln ?_
     refine thn ?_
     refine wx1 tbk [] trivial ?_
     refine thn ?_
     exact arm (mto (n := 25) [(0, (.own 0 1 (0) (p0))), (3, I x17), (4, (I (w64 (y9 + 1))))] [0] [(Qlw p1)] hφ0 (pc (.rn (Qaf rfl)) (pc rwl (pc rwl pn))) (qc (spr Qaa) qn)) (ih (x17, w64 (y9 + 1)) h)
    ·replace h := Qaw hc13 h
     refine wfn hc13 (by kernel_rfl) ?_
     refine Qbh ?_
     refine Qar ?_
     refine Qar ?_
     refine Qbg rfl ?_
     refine thn ?_
     exact ⟨(y8), h, (mto (n := 25) [(3, I y8)] [0] [(Qlw p1)] hφ0 (pc rwl pn) (qc (spr Qaa) qn))⟩
  ·skip
   refine wx tbk [(1, rp [(.tmp 5, (.own 0 1 (0) (p0)))] (I (((p0 : Nat) : Int))))] ⟨aln rfl Try.underlying37 rfl, trivial⟩ ?_
   rcases bft ((decide (((p0 : Nat) : Int) < 1))) with hc19 | hc19
   ·replace h := Qav hc19 h
    refine wft hc19 (by kernel_rfl) ?_
    cases h
   ·replace h := Qaw hc19 h
    refine wfn hc19 (by kernel_rfl) ?_
    refine Qao ?_
    refine thn ?_
    exact ⟨(), h, (mto (n := 25) [(0, (.own 0 1 (0) (p0)))] [0] [(Qlw p1)] hφ0 (pc (.rn (Qaf rfl)) pn) (qc (spr Qaa) qn))⟩
def Qdj (N : Nat) (x41 : GUnit) (x49 : Int) (k52 : (List Int) → Option ((List Int) × (List Int) × (List Int))) (x67 : Int) : Nat → Int → (List Int) → Option ((List Int) × (List Int) × (List Int))
  | 0, _, _ => none
  | n73 + 1, y69, y70 =>
    bif (decide (y69 < x67)) then
     chk (decide (0 ≤ y69) && decide (y69.toNat < (w64 (x41.Inlet + 1)).toNat - (0 : Int).toNat)) <|
     (y70[y69.toNat]?).bind fun x76 =>
     chk (decide (0 ≤ y69) && decide (y69.toNat < (w64 (x41.Inlet + 1)).toNat - (0 : Int).toNat)) <|
     (y70[y69.toNat]?).bind fun _ =>
     Qdj N x41 x49 k52 x67 n73 (w64 (y69 + 1)) (y70.set y69.toNat (w64 (x76 - x49)))
    else
     k52 (y70)
def Qdk (N : Nat) (p0 : GShared) (y10 : (List Int)) (y11 : (List GPiece)) (k17 : (List Int) × (List Int) × (List Int) → Option ((List Int) × (List Int) × (List Int))) (x23 : (List GPiece)) : Nat → Int → (List Int) → (List Int) → (List Int) → Option ((List Int) × (List Int) × (List Int))
  | 0, _, _, _, _ => none
  | n32 + 1, y24, y25, y26, y27 =>
    bif (decide (y24 < ((y11.length : Nat) : Int))) then
     Qdu (fun ⟨y34, y35, y36⟩ =>
       Qdk N p0 y10 y11 k17 x23 n32 (w64 (y24 + 1)) y34 y35 y36) fun k37 : (List Int) × (List Int) × (List Int) → Option ((List Int) × (List Int) × (List Int)) =>
     chk (decide (0 ≤ y24) && decide (y24.toNat < y11.length)) <|
     (x23[y24.toNat]?).bind fun x39 =>
     (getI p0.units x39.unit).bind fun x41 =>
     chk (decide ((0 : Int) ≤ 0) && decide (0 ≤ w64 (x41.Inlet + 1)) && decide (w64 (x41.Inlet + 1) ≤ ((p0.heads.length : Nat) : Int))) <|
     chk (decide ((0 : Int) < ((p0.heads.length : Nat) : Int))) <|
     (Qer N ((w64 (x41.Inlet + 1)).toNat - (0 : Int).toNat) y26).bind fun x48 =>
     (some (if x48 < x39.Part.Width then x48 else x39.Part.Width)).bind fun x49 =>
     Qdu (fun y51 =>
       chk (decide (0 ≤ x39.unit) && decide (x39.unit.toNat < (p0.units.length : Int).toNat)) <|
       (y25[x39.unit.toNat]?).bind fun x54 =>
       chk (decide (0 ≤ x39.unit) && decide (x39.unit.toNat < (p0.units.length : Int).toNat)) <|
       (y25[x39.unit.toNat]?).bind fun _ =>
       bif (decide (x49 < x39.Part.Width)) then
        chk (decide (0 ≤ x39.unit) && decide (x39.unit.toNat < y10.length)) <|
        (y27[x39.unit.toNat]?).bind fun x61 =>
        bif (decide (x61 < 0)) then
         chk (decide (0 ≤ x39.unit) && decide (x39.unit.toNat < y10.length)) <|
         (y27[x39.unit.toNat]?).bind fun _ =>
         k37 (y25.set x39.unit.toNat (w64 (x54 + x49)), y51, y27.set x39.unit.toNat x39.Part.Gain)
        else
         k37 (y25.set x39.unit.toNat (w64 (x54 + x49)), y51, y27)
       else
        k37 (y25.set x39.unit.toNat (w64 (x54 + x49)), y51, y27)) fun k52 : (List Int) → Option ((List Int) × (List Int) × (List Int)) =>
     (some (((w64 (x41.Inlet + 1)).toNat - (0 : Int).toNat : Nat) : Int)).bind fun x67 =>
     Qdj N x41 x49 k52 x67 N 0 y26
    else
     k17 (y25, y26, y27)
def Qdh (N : Nat) (y81 : Int) (k91 : (List Int) × (List GPiece) → Option ((List Int) × (List Int) × (List Int))) (x92 : GUnit) : Nat → Int → (List Int) → (List GPiece) → Option ((List Int) × (List Int) × (List Int))
  | 0, _, _, _ => none
  | n103 + 1, y97, y98, y99 =>
    bif (decide (y97 < (x92.Parts.length : Int))) then
     (getI x92.Parts y97).bind fun x105 =>
     chk (decide ((y99.length + ([(⟨y81, x105⟩ : GPiece)]).length) * 24 ≤ 140737488355328)) <|
     Qdh N y81 k91 x92 n103 (w64 (y97 + 1)) y98 (y99 ++ ([(⟨y81, x105⟩ : GPiece)]))
    else
     k91 (y98, y99)
def Qdi (N : Nat) (p0 : GShared) (k12 : (List Int) × (List GPiece) → Option ((List Int) × (List Int) × (List Int))) : Nat → Int → (List Int) → (List GPiece) → Option ((List Int) × (List Int) × (List Int))
  | 0, _, _, _ => none
  | n87 + 1, y81, y82, y83 =>
    bif (decide (y81 < (p0.units.length : Int))) then
     Qdu (fun ⟨y89, y90⟩ =>
       Qdi N p0 k12 n87 (w64 (y81 + 1)) y89 y90) fun k91 : (List Int) × (List GPiece) → Option ((List Int) × (List Int) × (List Int)) =>
     (getI p0.units y81).bind fun x92 =>
     chk (decide ((y82.length + ([(-1)]).length) * 8 ≤ 140737488355328)) <|
     Qdh N y81 k91 x92 N 0 (y82 ++ ([(-1)])) y83
    else
     k12 (y82, y83)
def Qg6 (N : Nat) (p0 : GShared) : Option ((List Int) × (List Int) × (List Int)) :=
  chk (decide (0 ≤ (p0.units.length : Int)) && decide (8 * (p0.units.length : Int) ≤ 281474976710656) && decide ((p0.units.length : Int) ≤ 9223372036854775807)) <|
  (Qd5 N p0).bind fun x9 =>
  Qdu (fun ⟨y10, y11⟩ =>
    chk (!y10.isEmpty) <|
    Qdu (fun ⟨y14, y15, y16⟩ =>
      chk (decide ((p0.units.length : Int).toNat ≤ y14.length)) <|
      chk (decide (p0.heads.length ≤ y15.length)) <|
      chk (decide (y10.length ≤ y16.length)) <|
      some (y14.take ((p0.units.length : Int).toNat), y15.take p0.heads.length, y16.take y10.length)) fun k17 : (List Int) × (List Int) × (List Int) → Option ((List Int) × (List Int) × (List Int)) =>
    chk (!y11.isEmpty) <|
    (Qel N y11.length y11).bind fun x23 =>
    Qdk N p0 y10 y11 k17 x23 N 0 (List.replicate (p0.units.length : Int).toNat 0) x9 y10) fun k12 : (List Int) × (List GPiece) → Option ((List Int) × (List Int) × (List Int)) =>
  Qdi N p0 k12 N 0 ([] : List Int) ([] : List GPiece)
def Qkw (p0 : GShared) : AV := .dat 2 ((p0.units : List GUnit).map Qbo)
def Qml (p0 : GShared) : Slot := .own 1 ((List.replicate (p0.units.length : Int).toNat 0 : List Int).map Qad)
def z24_0 (p0 : GShared) : AV := .dat 1 ((p0.heads : List Int).map Qad)
def Qgc (x9 : (List Int)) : Slot := .own 1 ((x9 : List Int).map Qad)
def Qh2 (p0 : GShared) : Slot := .own 2 [[(z24_0 p0), (Qkw p0)]]
def Qkv (y14 : (List Int)) (p0 : GShared) : AV := .dat 1 ((y14.take ((p0.units.length : Int).toNat) : List Int).map Qad)
def Qm7 (y15 : (List Int)) (p0 : GShared) : AV := .dat 1 ((y15.take p0.heads.length : List Int).map Qad)
def Qqe (y16 : (List Int)) (y10 : (List Int)) : AV := .dat 1 ((y16.take y10.length : List Int).map Qad)
def Qfw (x23 : (List GPiece)) : Slot := .own 3 ((x23 : List GPiece).map Qap)
def Qie (y25 : (List Int)) : Slot := .own 1 ((y25 : List Int).map Qad)
def Qj2 (y26 : (List Int)) : Slot := .own 1 ((y26 : List Int).map Qad)
def Qgy (y27 : (List Int)) : Slot := .own 1 ((y27 : List Int).map Qad)
def Qqf (y51 : (List Int)) : Slot := .own 1 ((y51 : List Int).map Qad)
def Qm6 (x39 : GPiece) : Slot := .own 3 [[(I (x39.unit)), (I (x39.Part.Width)), (I (x39.Part.Gain))]]
def Qqd (y25 : (List Int)) (x39 : GPiece) (x54 : Int) (x49 : Int) : Slot := .own 1 ((y25.set x39.unit.toNat (w64 (x54 + x49)) : List Int).map Qad)
def Qm5 (y70 : (List Int)) : Slot := .own 1 ((y70 : List Int).map Qad)
def z24_97 : Slot := .gro 1 ((([] : List Int) : List Int).map Qad)
def z24_24 : Slot := .gro 3 ((([] : List GPiece) : List GPiece).map Qap)
def Qqg (y83 : (List GPiece)) : Slot := .gro 3 ((y83 : List GPiece).map Qap)
def z24_10 : AV := .dat 1 (([(-1)] : List Int).map Qad)
def Qm4 (x92 : GUnit) : AV := .dat 2 ((x92.Parts : List GPart).map Qby)
def Qtl (y99 : (List GPiece)) : Slot := .gro 3 ((y99 : List GPiece).map Qap)
def Qtk (y81 : Int) (x105 : GPart) : AV := .agg [(I (y81)), (I (x105.Width)), (I (x105.Gain))]
set_option maxRecDepth 100000 in
set_option maxHeartbeats 4000000 in
theorem Qk0 (N : Nat) (p0 : GShared) (r : ((List Int) × (List Int) × (List Int))) (h : Qg6 N p0 = some r) : Spec Try.prog 81 [(.agg (Qlf p0))] [] (.tup [(.dat 1 ((r.1 : List Int).map Qad)), (.dat 1 ((r.2.1 : List Int).map Qad)), (.dat 1 ((r.2.2 : List Int).map Qad))]) [] := by
  refine Qac Try.func81 rfl 0 (nle rfl) (fun X φ0 w0 hφ0 => ?_)
  unfold Qg6 at h
  refine Qbj ?_
  refine wx tbk [] trivial ?_
  refine wx tbk [] trivial ?_
  obtain ⟨hm7, h⟩ := cko h
  obtain ⟨x9, hf8, h⟩ := bno h
  refine wxd tbk [(2, rp [(.tmp 16, (Qkw p0))] (I ((p0.units.length : Int)))), (3, ⟨[(.tmp 17, (I ((p0.units.length : Int)))), (.tmp 17, (I ((p0.units.length : Int))))], [(1, .unused)], (.own 1 1 (0) ((p0.units.length : Int).toNat)), [(1, (Qml p0))], false⟩), (5, ⟨[fu 87, (.tmp 19, (.agg [(z24_0 p0), (Qkw p0)]))], [(2, .unused)], (.own 2 1 (0) (p0.heads.length)), [(2, (Qgc x9))], false⟩)] ⟨alm (c := Qbo) (l := p0.units) (aln rfl Try.underlying89 rfl), Qhz rfl Try.underlying37 te3 tz3 rfl (Qrd hm7) rfl (Qrc hm7) (Qpd hm7) (Qos Qad rfl), Qam (first := []) (cap := []) (vs := [(.agg [(z24_0 p0), (Qkw p0)])]) (σr := []) (σr' := [(Qgc x9)]) (res' := (.own 2 1 (0) (p0.heads.length))) [2] rfl Qtw (Qfj N p0 _ hf8) rfl (Qbi (rnc (.plain _ (NLt.agg _ (nlc (nld Qaa _) (nlc (nld Qan _) nl0)))) rn0)) Qal (slc (Qcn Qaa) Qal) (Qhs rfl) rfl rfl rfl, trivial⟩ ?_
  obtain ⟨k12, hk_k12, h⟩ := jko h
  refine wjn (τ := (List Int) × (List GPiece)) (fun t => k12 t = some r) (fun ⟨y10, y11⟩ => ⟨mk 115 [(1, .ref 0 2 0 0), (2, (.own 1 1 (0) ((p0.units.length : Int).toNat))), (3, (.own 2 1 (0) (p0.heads.length))), (4, (.gro 3 3 1 (y10.length))), (5, (.gro 4 160 3 (y11.length)))], [(Qh2 p0), (Qml p0), (Qgc x9), (.gro 1 ((y10 : List Int).map Qad)), (.gro 3 ((y11 : List GPiece).map Qap))]⟩) (fun t h => ?_) ?_
  ·subst hk_k12
   obtain ⟨y10, y11⟩ := t
   obtain ⟨hz13, h⟩ := cko h
   refine wmr (mor_ungt (n := 115) (m := 1) (xs := (y10 : List Int).map Qad) (l' := [(1, .ref 0 2 0 0), (2, (.own 1 1 (0) ((p0.units.length : Int).toNat))), (3, (.own 2 1 (0) (p0.heads.length))), (4, (.own 3 1 (0) (y10.length))), (5, (.gro 4 160 3 (y11.length)))]) 3 [(1, .ref 0 2 0 0), (2, (.own 1 1 (0) ((p0.units.length : Int).toNat))), (3, (.own 2 1 (0) (p0.heads.length))), (4, (.gro 3 3 1 (y10.length))), (5, (.gro 4 160 3 (y11.length)))] (by kernel_rfl) (by kernel_rfl) (by kernel_rfl) (Qhv hz13) ⟨rfl, .same _, rfl, .same _, rfl, .same _, rfl, .own _ _ _, rfl, .same _, trivial⟩ rfl) ?_
   obtain ⟨k17, hk_k17, h⟩ := jko h
   refine wjn (τ := (List Int) × (List Int) × (List Int)) (fun t => k17 t = some r) (fun ⟨y14, y15, y16⟩ => ⟨mk 115 [(2, (.own 0 1 (0) ((p0.units.length : Int).toNat))), (3, (.own 1 1 (0) (p0.heads.length))), (4, (.own 2 1 (0) (y10.length)))], [(.own 1 ((y14 : List Int).map Qad)), (.own 1 ((y15 : List Int).map Qad)), (.own 1 ((y16 : List Int).map Qad))]⟩) (fun t h => ?_) ?_
   ·subst hk_k17
    obtain ⟨y14, y15, y16⟩ := t
    refine wx tbk [] trivial ?_
    obtain ⟨hz18, h⟩ := cko h
    refine wmr (mor_fz (n := 115) (l' := [(2, (Qkv y14 p0)), (3, (.own 1 1 (0) (p0.heads.length))), (4, (.own 2 1 (0) (y10.length)))]) 0 [(2, (.own 0 1 (0) ((p0.units.length : Int).toNat))), (3, (.own 1 1 (0) (p0.heads.length))), (4, (.own 2 1 (0) (y10.length)))] (by kernel_rfl) (by kernel_rfl) (by kernel_rfl) ⟨rfl, (Qld hz18), rfl, (.same _), rfl, (.same _), trivial⟩ rfl) ?_
    obtain ⟨hz19, h⟩ := cko h
    refine wmr (mor_fz (n := 115) (l' := [(2, (Qkv y14 p0)), (3, (Qm7 y15 p0)), (4, (.own 2 1 (0) (y10.length)))]) 1 [(2, (Qkv y14 p0)), (3, (.own 1 1 (0) (p0.heads.length))), (4, (.own 2 1 (0) (y10.length)))] (by kernel_rfl) (by kernel_rfl) (by kernel_rfl) ⟨rfl, (.same _), rfl, (Qld hz19), rfl, (.same _), trivial⟩ rfl) ?_
    obtain ⟨hz20, h⟩ := cko h
    refine wmr (mor_fz (n := 115) (l' := [(2, (Qkv y14 p0)), (3, (Qm7 y15 p0)), (4, (Qqe y16 y10))]) 2 [(2, (Qkv y14 p0)), (3, (Qm7 y15 p0)), (4, (.own 2 1 (0) (y10.length)))] (by kernel_rfl) (by kernel_rfl) (by kernel_rfl) ⟨rfl, (.same _), rfl, (.same _), rfl, (Qld hz20), trivial⟩ rfl) ?_
    refine wmr (mto (n := 115) (l' := [(2, (Qkv y14 p0)), (3, (Qm7 y15 p0)), (4, (Qqe y16 y10))]) (own' := []) [(2, (Qkv y14 p0)), (3, (Qm7 y15 p0)), (4, (Qqe y16 y10))] [] [] hφ0 (pc (.rn (.plain _ (nld Qaa _))) (pc (.rn (.plain _ (nld Qaa _))) (pc (.rn (.plain _ (nld Qaa _))) pn))) qn) ?_
    refine Qab ?_
    obtain rfl := osi h
    exact ⟨_, Mor.rfl, Qbx (vs := [(Qkv y14 p0), (Qm7 y15 p0), (Qqe y16 y10)]) ⟨rot (by kernel_rfl), rot (by kernel_rfl), rot (by kernel_rfl), trivial⟩ rfl (NLt.tup _ (nlc (nld Qaa _) (nlc (nld Qaa _) (nlc (nld Qaa _) nl0)))) (by kernel_rfl) Qa5⟩
   ·skip
    obtain ⟨hz21, h⟩ := cko h
    obtain ⟨x23, hf22, h⟩ := bno h
    refine wx tbk [(1, ⟨[fu 105, (.tmp 47, (.gro 4 160 3 (y11.length))), fu 106], [(4, (.gro 3 ((y11 : List GPiece).map Qap)))], (.own 4 3 (0) (y11.length)), [(4, (Qfw x23))], false⟩), (2, rp [(.tmp 48, (.own 4 3 (0) (y11.length)))] (I (((y11.length : Nat) : Int))))] ⟨Qub (bl' := [(4, (.own 3 ((y11 : List GPiece).map Qap)))]) ⟨rfl, SLess.gro (Qhv hz21), trivial⟩ (awk (rd' := [fu 105, (.tmp 47, (.own 4 3 (0) (y11.length))), fu 106]) ⟨rfl, lrf, rfl, Less.gro, rfl, lrf, trivial⟩ (Qam (first := []) (cap := []) (vs := [(.own 4 3 (0) (y11.length)), (.fn (.func 106) [] [])]) (σr := [(.own 3 ((y11 : List GPiece).map Qap))]) (σr' := [(Qfw x23)]) (res' := (.own 4 3 (0) (y11.length))) [4] rfl enter105 (Qh8 N y11.length y11 _ hf22) rfl (Qbi (rnc (Qej rfl) (rnc (.plain _ (NLt.fn _ _ _ nl0 nl0)) rn0))) (slc (Qcn Qah) Qal) (slc (Qcn Qah) Qal) (Qhs rfl) rfl rfl rfl)), aln rfl Try.underlying158 rfl, trivial⟩ ?_
    refine Qak ?_
    refine wmr (mto (n := 115) (l' := [(1, .ref 0 2 0 0), (2, (.own 1 1 (0) ((p0.units.length : Int).toNat))), (3, (.own 2 1 (0) (p0.heads.length))), (4, (.own 3 1 (0) (y10.length))), (48, (.own 4 3 (0) (y11.length))), (49, (I (((y11.length : Nat) : Int)))), (50, I 0)]) (own' := [(Qh2 p0), (.own 1 (((List.replicate (p0.units.length : Int).toNat 0) : List Int).map Qad)), (Qgc x9), (.own 1 ((y10 : List Int).map Qad)), (Qfw x23)]) [(1, .ref 0 2 0 0), (2, (.own 1 1 (0) ((p0.units.length : Int).toNat))), (3, (.own 2 1 (0) (p0.heads.length))), (4, (.own 3 1 (0) (y10.length))), (48, (.own 4 3 (0) (y11.length))), (49, (I (((y11.length : Nat) : Int)))), (50, I 0)] [0, 1, 2, 3, 4] [(Qh2 p0), (Qml p0), (Qgc x9), (.own 1 ((y10 : List Int).map Qad)), (Qfw x23)] hφ0 (pc (.rn (rqr rfl)) (pc (.rn (Qaf rfl)) (pc (.rn (Qaf rfl)) (pc (.rn (Qaf rfl)) (pc (.rn (Qaf rfl)) (pc rwl (pc rwl pn))))))) (qc (spb (lc (.rn (.plain _ (nld Qaa _))) (lc (.rn (.plain _ (nld Qan _))) ln))) (qc (spr Qaa) (qc (spr Qaa) (qc (spr Qaa) (qc (spr Qah) qn)))))) ?_
    refine Qb1 (τ := Int × (List Int) × (List Int) × (List Int)) (fun n t => Qdk N p0 y10 y11 k17 x23 n t.1 t.2.1 t.2.2.1 t.2.2.2 = some r) (fun ⟨y24, y25, y26, y27⟩ => ⟨mk 115 [(1, .ref 0 2 0 0), (2, (.own 1 1 (0) ((p0.units.length : Int).toNat))), (3, (.own 2 1 (0) (p0.heads.length))), (4, (.own 3 1 (0) (y10.length))), (48, (.own 4 3 (0) (y11.length))), (49, (I (((y11.length : Nat) : Int)))), (50, I y24)], [(Qh2 p0), (Qie y25), (Qj2 y26), (Qgy y27), (Qfw x23)]⟩) (fun t h => by rw [Qdk] at h; cases h) (fun n32 ih t h => ?_) N (0, List.replicate (p0.units.length : Int).toNat 0, x9, y10) h
    obtain ⟨y24, y25, y26, y27⟩ := t
    rw [Qdk] at h
    skip
    refine wx tbk [] trivial ?_
    refine wsq ?_
    rcases bft ((decide (y24 < ((y11.length : Nat) : Int)))) with hc33 | hc33
    ·replace h := Qav hc33 h
     refine wft hc33 (by kernel_rfl) ?_
     refine Qao ?_
     refine thn ?_
     obtain ⟨k37, hk_k37, h⟩ := jko h
     refine wjn (τ := (List Int) × (List Int) × (List Int)) (fun t => k37 t = some r) (fun ⟨y34, y35, y36⟩ => ⟨mk 115 [(1, .ref 0 2 0 0), (2, (.own 1 1 (0) ((p0.units.length : Int).toNat))), (3, (.own 2 1 (0) (p0.heads.length))), (4, (.own 3 1 (0) (y10.length))), (48, (.own 4 3 (0) (y11.length))), (49, (I (((y11.length : Nat) : Int)))), (50, I y24)], [(Qh2 p0), (.own 1 ((y34 : List Int).map Qad)), (.own 1 ((y35 : List Int).map Qad)), (.own 1 ((y36 : List Int).map Qad)), (Qfw x23)]⟩) (fun t h => ?_) ?_
     ·subst hk_k37
      obtain ⟨y34, y35, y36⟩ := t
      refine wx1 tbk [] trivial ?_
      refine thn ?_
      exact arm (mto (n := 115) [(1, .ref 0 2 0 0), (2, (.own 1 1 (0) ((p0.units.length : Int).toNat))), (3, (.own 2 1 (0) (p0.heads.length))), (4, (.own 3 1 (0) (y10.length))), (48, (.own 4 3 (0) (y11.length))), (49, (I (((y11.length : Nat) : Int)))), (50, (I (w64 (y24 + 1))))] [0, 1, 2, 3, 4] [(Qh2 p0), (.own 1 ((y34 : List Int).map Qad)), (.own 1 ((y35 : List Int).map Qad)), (.own 1 ((y36 : List Int).map Qad)), (Qfw x23)] hφ0 (pc (.rn (rqr rfl)) (pc (.rn (Qaf rfl)) (pc (.rn (Qaf rfl)) (pc (.rn (Qaf rfl)) (pc (.rn (Qaf rfl)) (pc rwl (pc rwl pn))))))) (qc (spb (lc (.rn (.plain _ (nld Qaa _))) (lc (.rn (.plain _ (nld Qan _))) ln))) (qc (spr Qaa) (qc (spr Qaa) (qc (spr Qaa) (qc (spr Qah) qn)))))) (ih (w64 (y24 + 1), y34, y35, y36) h)
     ·skip
      refine Qak ?_
      obtain ⟨hi38, h⟩ := cko h
      obtain ⟨hi38a, hi38b⟩ := Qaz hi38
      obtain ⟨x39, hg40, h⟩ := bno h
      refine wx tbk [(0, rb [(.tmp 48, (.own 4 3 (0) (y11.length))), (.tmp 50, I y24)] [(4, (Qfw x23))] (.ref 4 3 (y24.toNat) 0)), (1, rb [(.tmp 52, (.ref 4 3 (y24.toNat) 0))] [(4, (Qfw x23))] (.agg [I x39.unit, I x39.Part.Width, I x39.Part.Gain]))] ⟨aio rfl Try.underlying158 Qd3 (odt hi38a) (odt hi38b) (Nat.zero_add _), ald rfl Qd3 (by decide) (mgt Qap hg40) (nle rfl) rfl, trivial⟩ ?_
      obtain ⟨x41, hg42, h⟩ := bno h
      obtain ⟨hi43, hj44⟩ := gsm hg42
      obtain ⟨hs45, h⟩ := cko h
      obtain ⟨hs46, h⟩ := cko h
      refine wx tbk [(5, rp [(.tmp 56, (Qkw p0)), (.tmp 58, I x39.unit)] (.dptr (Qbo (x41)) 0)), (9, rb [(.tmp 54, (.own 2 1 (0) (p0.heads.length))), (.tmp 62, (I (w64 (x41.Inlet + 1))))] [(2, (Qj2 y26))] (.own 2 1 (0) ((w64 (x41.Inlet + 1)).toNat - (0 : Int).toNat)))] ⟨aid rfl Try.underlying89 ti34 rfl rfl hi43 (mgt Qbo hj44) rfl, Qnu (k := .i64) (k' := .i64) (lo := none) (hi := some (.tmp 62)) (l := 0) (hh := w64 (x41.Inlet + 1)) rfl Try.underlying37 ti3 (fun _ => rfl) (fun e => nomatch e) (Qrd hs45) (Qrc hs45) (odt (Qaz hs45).2) (odt hs46) rfl rfl, trivial⟩ ?_
      obtain ⟨x48, hf47, h⟩ := bno h
      obtain ⟨x49, hl50, h⟩ := bno h
      refine wxd tbk [(4, ⟨[fu 88, (.tmp 67, (.own 2 1 (0) ((w64 (x41.Inlet + 1)).toNat - (0 : Int).toNat)))], [(2, (Qj2 y26))], I x48, [(2, (Qj2 y26))], false⟩), (5, rp [(.tmp 66, I x39.Part.Width), (.tmp 68, I x48)] (I ((if x48 < x39.Part.Width then x48 else x39.Part.Width)))), (6, rp [(.tmp 69, (I ((if x48 < x39.Part.Width then x48 else x39.Part.Width))))] (I x49))] ⟨Qam (first := []) (cap := []) (vs := [(.own 2 1 (0) (((w64 (x41.Inlet + 1)).toNat - (0 : Int).toNat)))]) (σr := [(Qj2 y26)]) (σr' := [(Qj2 y26)]) (res' := (I x48)) [2] rfl Qqw (Qd4 N ((w64 (x41.Inlet + 1)).toNat - (0 : Int).toNat) y26 _ hf47) rfl (Qbi (rnc (Qej rfl) rn0)) (slc (Qcn Qaa) Qal) (slc (Qcn Qaa) Qal) (.plain _ nll) rfl rfl rfl, Qmy rfl, Qep hl50 (aas rfl), trivial⟩ ?_
      obtain ⟨k52, hk_k52, h⟩ := jko h
      refine wjn (τ := (List Int)) (fun t => k52 t = some r) (fun y51 => ⟨mk 115 [(1, .ref 0 2 0 0), (2, (.own 1 1 (0) ((p0.units.length : Int).toNat))), (3, (.own 2 1 (0) (p0.heads.length))), (4, (.own 3 1 (0) (y10.length))), (11, .ref 4 3 0 0), (13, I x49), (48, (.own 5 3 (0) (y11.length))), (49, (I (((y11.length : Nat) : Int)))), (50, I y24)], [(Qh2 p0), (Qie y25), (Qqf y51), (Qgy y27), (Qm6 x39), (Qfw x23)]⟩) (fun y51 h => ?_) ?_
      ·subst hk_k52
       obtain ⟨hi53, h⟩ := cko h
       obtain ⟨hi53a, hi53b⟩ := Qaz hi53
       obtain ⟨x54, hg55, h⟩ := bno h
       obtain ⟨hi56, h⟩ := cko h
       obtain ⟨hi56a, hi56b⟩ := Qaz hi56
       obtain ⟨x57, hg58, h⟩ := bno h
       refine wx tbk [(3, rb [(.tmp 83, (.own 1 1 (0) ((p0.units.length : Int).toNat))), (.tmp 85, I x39.unit)] [(1, (Qie y25))] (.ref 1 1 (x39.unit.toNat) 0)), (4, rb [(.tmp 86, (.ref 1 1 (x39.unit.toNat) 0))] [(1, (Qie y25))] (I x54)), (7, rb [(.tmp 83, (.own 1 1 (0) ((p0.units.length : Int).toNat))), (.tmp 85, I x39.unit)] [(1, (Qie y25))] (.ref 1 1 (x39.unit.toNat) 0)), (8, ⟨[(.tmp 90, (.ref 1 1 (x39.unit.toNat) 0)), (.tmp 89, (I (w64 (x54 + x49))))], [(1, (Qie y25))], .any, [(1, (Qqd y25 x39 x54 x49))], false⟩)] ⟨aio rfl Try.underlying37 ti3 (odt hi53a) (odt hi53b) (Nat.zero_add _), ald rfl ti3 (by decide) (mgt Qad hg55) (nle rfl) rfl, aio rfl Try.underlying37 ti3 (odt hi56a) (odt hi56b) (Nat.zero_add _), ast rfl ti3 (by rfl) (mgt Qad hg58) (nle rfl) (Qfx Qad rfl), trivial⟩ ?_
       rcases bft ((decide (x49 < x39.Part.Width))) with hb59 | hb59
       ·replace h := Qav hb59 h
        obtain ⟨hi60, h⟩ := cko h
        obtain ⟨hi60a, hi60b⟩ := Qaz hi60
        obtain ⟨x61, hg62, h⟩ := bno h
        refine wx tbk [(5, rp [(.tmp 95, (B ((decide (x49 < x39.Part.Width)))))] (B true)), (9, rb [(.tmp 96, B true), (.tmp 97, (.own 3 1 (0) (y10.length))), (.tmp 99, I x39.unit)] [(3, (Qgy y27))] (.ref 3 1 (x39.unit.toNat) 0)), (10, rb [(.tmp 96, B true), (.tmp 100, (.ref 3 1 (x39.unit.toNat) 0))] [(3, (Qgy y27))] (I x61))] ⟨asb hb59 (amv rfl), ag_ (aio rfl Try.underlying37 ti3 (odt hi60a) (odt hi60b) (Nat.zero_add _)), ag_ (ald rfl ti3 (by decide) (mgt Qad hg62) (nle rfl) rfl), trivial⟩ ?_
        rcases bft ((decide (x61 < 0))) with hc63 | hc63
        ·replace h := Qav hc63 h
         refine wft hc63 (by kernel_rfl) ?_
         obtain ⟨hi64, h⟩ := cko h
         obtain ⟨hi64a, hi64b⟩ := Qaz hi64
         obtain ⟨x65, hg66, h⟩ := bno h
         refine wx1 tbk [(6, rb [(.tmp 104, (.own 3 1 (0) (y10.length))), (.tmp 106, I x39.unit)] [(3, (Qgy y27))] (.ref 3 1 (x39.unit.toNat) 0)), (7, ⟨[(.tmp 110, (.ref 3 1 (x39.unit.toNat) 0)), (.tmp 109, I x39.Part.Gain)], [(3, (Qgy y27))], .any, [(3, (.own 1 ((y27.set x39.unit.toNat x39.Part.Gain : List Int).map Qad)))], false⟩)] ⟨aio rfl Try.underlying37 ti3 (odt hi64a) (odt hi64b) (Nat.zero_add _), ast rfl ti3 (by rfl) (mgt Qad hg66) (nle rfl) (Qfx Qad rfl), trivial⟩ ?_
         refine bln ?_
         refine thn ?_
         exact ⟨(y25.set x39.unit.toNat (w64 (x54 + x49)), y51, y27.set x39.unit.toNat x39.Part.Gain), h, (mto (n := 115) [(1, .ref 0 2 0 0), (2, (.own 1 1 (0) ((p0.units.length : Int).toNat))), (3, (.own 2 1 (0) (p0.heads.length))), (4, (.own 3 1 (0) (y10.length))), (48, (.own 5 3 (0) (y11.length))), (49, (I (((y11.length : Nat) : Int)))), (50, I y24)] [0, 1, 2, 3, 5] [(Qh2 p0), (Qqd y25 x39 x54 x49), (Qqf y51), (.own 1 ((y27.set x39.unit.toNat x39.Part.Gain : List Int).map Qad)), (Qfw x23)] hφ0 (pc (.rn (rqr rfl)) (pc (.rn (Qaf rfl)) (pc (.rn (Qaf rfl)) (pc (.rn (Qaf rfl)) (pc (.rn (Qaf rfl)) (pc rwl (pc rwl pn))))))) (qc (spb (lc (.rn (.plain _ (nld Qaa _))) (lc (.rn (.plain _ (nld Qan _))) ln))) (qc (spr Qaa) (qc (spr Qaa) (qc (spr Qaa) (qc (spr Qah) qn))))))⟩
        ·replace h := Qaw hc63 h
         refine wfn hc63 (by kernel_rfl) ?_
         refine Qao ?_
         refine bln ?_
         refine thn ?_
         exact ⟨(y25.set x39.unit.toNat (w64 (x54 + x49)), y51, y27), h, (mto (n := 115) [(1, .ref 0 2 0 0), (2, (.own 1 1 (0) ((p0.units.length : Int).toNat))), (3, (.own 2 1 (0) (p0.heads.length))), (4, (.own 3 1 (0) (y10.length))), (48, (.own 5 3 (0) (y11.length))), (49, (I (((y11.length : Nat) : Int)))), (50, I y24)] [0, 1, 2, 3, 5] [(Qh2 p0), (Qqd y25 x39 x54 x49), (Qqf y51), (Qgy y27), (Qfw x23)] hφ0 (pc (.rn (rqr rfl)) (pc (.rn (Qaf rfl)) (pc (.rn (Qaf rfl)) (pc (.rn (Qaf rfl)) (pc (.rn (Qaf rfl)) (pc rwl (pc rwl pn))))))) (qc (spb (lc (.rn (.plain _ (nld Qaa _))) (lc (.rn (.plain _ (nld Qan _))) ln))) (qc (spr Qaa) (qc (spr Qaa) (qc (spr Qaa) (qc (spr Qah) qn))))))⟩
       ·replace h := Qaw hb59 h
        refine wx tbk [(5, rp [(.tmp 95, (B ((decide (x49 < x39.Part.Width)))))] (B false))] ⟨asb hb59 (amv rfl), trivial⟩ ?_
        refine Qgg (by kernel_rfl) ?_
        refine Qao ?_
        refine bln ?_
        refine thn ?_
        exact ⟨(y25.set x39.unit.toNat (w64 (x54 + x49)), y51, y27), h, (mto (n := 115) [(1, .ref 0 2 0 0), (2, (.own 1 1 (0) ((p0.units.length : Int).toNat))), (3, (.own 2 1 (0) (p0.heads.length))), (4, (.own 3 1 (0) (y10.length))), (48, (.own 5 3 (0) (y11.length))), (49, (I (((y11.length : Nat) : Int)))), (50, I y24)] [0, 1, 2, 3, 5] [(Qh2 p0), (Qqd y25 x39 x54 x49), (Qqf y51), (Qgy y27), (Qfw x23)] hφ0 (pc (.rn (rqr rfl)) (pc (.rn (Qaf rfl)) (pc (.rn (Qaf rfl)) (pc (.rn (Qaf rfl)) (pc (.rn (Qaf rfl)) (pc rwl (pc rwl pn))))))) (qc (spb (lc (.rn (.plain _ (nld Qaa _))) (lc (.rn (.plain _ (nld Qan _))) ln))) (qc (spr Qaa) (qc (spr Qaa) (qc (spr Qaa) (qc (spr Qah) qn))))))⟩
      ·skip
       obtain ⟨x67, hl68, h⟩ := bno h
       refine wx tbk [(1, rp [(.tmp 70, (.own 2 1 (0) ((w64 (x41.Inlet + 1)).toNat - (0 : Int).toNat)))] (I x67))] ⟨Qep hl68 (aln rfl Try.underlying37 rfl), trivial⟩ ?_
       refine Qak ?_
       refine wmr (mto (n := 115) (l' := [(1, .ref 0 2 0 0), (2, (.own 1 1 (0) ((p0.units.length : Int).toNat))), (3, (.own 2 1 (0) (p0.heads.length))), (4, (.own 3 1 (0) (y10.length))), (11, .ref 4 3 0 0), (12, (.own 2 1 (0) ((w64 (x41.Inlet + 1)).toNat - (0 : Int).toNat))), (13, I x49), (48, (.own 5 3 (0) (y11.length))), (49, (I (((y11.length : Nat) : Int)))), (50, I y24), (71, I x67), (72, I 0)]) (own' := [(Qh2 p0), (Qie y25), (Qj2 y26), (Qgy y27), (Qm6 x39), (Qfw x23)]) [(1, .ref 0 2 0 0), (2, (.own 1 1 (0) ((p0.units.length : Int).toNat))), (3, (.own 2 1 (0) (p0.heads.length))), (4, (.own 3 1 (0) (y10.length))), (11, .ref 5 3 0 0), (12, (.own 2 1 (0) ((w64 (x41.Inlet + 1)).toNat - (0 : Int).toNat))), (13, I x49), (48, (.own 4 3 (0) (y11.length))), (49, (I (((y11.length : Nat) : Int)))), (50, I y24), (71, I x67), (72, I 0)] [0, 1, 2, 3, 5, 4] [(Qh2 p0), (Qie y25), (Qj2 y26), (Qgy y27), (Qm6 x39), (Qfw x23)] hφ0 (pc (.rn (rqr rfl)) (pc (.rn (Qaf rfl)) (pc (.rn (Qaf rfl)) (pc (.rn (Qaf rfl)) (pc (.rn (rqr rfl)) (pc (.rn (Qaf rfl)) (pc rwl (pc (.rn (Qaf rfl)) (pc rwl (pc rwl (pc rwl (pc rwl pn)))))))))))) (qc (spb (lc (.rn (.plain _ (nld Qaa _))) (lc (.rn (.plain _ (nld Qan _))) ln))) (qc (spr Qaa) (qc (spr Qaa) (qc (spr Qaa) (qc (spb (lc rwl (lc rwl (lc rwl ln)))) (qc (spr Qah) qn))))))) ?_
       refine Qb1 (τ := Int × (List Int)) (fun n t => Qdj N x41 x49 k52 x67 n t.1 t.2 = some r) (fun ⟨y69, y70⟩ => ⟨mk 115 [(1, .ref 0 2 0 0), (2, (.own 1 1 (0) ((p0.units.length : Int).toNat))), (3, (.own 2 1 (0) (p0.heads.length))), (4, (.own 3 1 (0) (y10.length))), (11, .ref 4 3 0 0), (12, (.own 2 1 (0) ((w64 (x41.Inlet + 1)).toNat - (0 : Int).toNat))), (13, I x49), (48, (.own 5 3 (0) (y11.length))), (49, (I (((y11.length : Nat) : Int)))), (50, I y24), (71, I x67), (72, I y69)], [(Qh2 p0), (Qie y25), (Qm5 y70), (Qgy y27), (Qm6 x39), (Qfw x23)]⟩) (fun t h => by rw [Qdj] at h; cases h) (fun n73 ih t h => ?_) N (0, y26) h
       obtain ⟨y69, y70⟩ := t
       rw [Qdj] at h
       skip
       refine wx tbk [] trivial ?_
       refine wsq ?_
       rcases bft ((decide (y69 < x67))) with hc74 | hc74
       ·replace h := Qav hc74 h
        refine wft hc74 (by kernel_rfl) ?_
        refine Qao ?_
        refine thn ?_
        refine wsq ?_
        refine Qak ?_
        refine wx tbk [] trivial ?_
        obtain ⟨hi75, h⟩ := cko h
        obtain ⟨hi75a, hi75b⟩ := Qaz hi75
        obtain ⟨x76, hg77, h⟩ := bno h
        obtain ⟨hi78, h⟩ := cko h
        obtain ⟨hi78a, hi78b⟩ := Qaz hi78
        obtain ⟨x79, hg80, h⟩ := bno h
        refine wx1 tbk [(2, rb [(.tmp 75, (.own 2 1 (0) ((w64 (x41.Inlet + 1)).toNat - (0 : Int).toNat))), (.tmp 76, I y69)] [(2, (Qm5 y70))] (.ref 2 1 (y69.toNat) 0)), (3, rb [(.tmp 77, (.ref 2 1 (y69.toNat) 0))] [(2, (Qm5 y70))] (I x76)), (6, rb [(.tmp 75, (.own 2 1 (0) ((w64 (x41.Inlet + 1)).toNat - (0 : Int).toNat))), (.tmp 76, I y69)] [(2, (Qm5 y70))] (.ref 2 1 (y69.toNat) 0)), (7, ⟨[(.tmp 81, (.ref 2 1 (y69.toNat) 0)), (.tmp 80, (I (w64 (x76 - x49))))], [(2, (Qm5 y70))], .any, [(2, (.own 1 ((y70.set y69.toNat (w64 (x76 - x49)) : List Int).map Qad)))], false⟩)] ⟨aio rfl Try.underlying37 ti3 (odt hi75a) (odt hi75b) (Nat.zero_add _), ald rfl ti3 (by decide) (mgt Qad hg77) (nle rfl) rfl, aio rfl Try.underlying37 ti3 (odt hi78a) (odt hi78b) (Nat.zero_add _), ast rfl ti3 (by rfl) (mgt Qad hg80) (nle rfl) (Qfx Qad rfl), trivial⟩ ?_
        refine bln ?_
        refine thn ?_
        refine wx1 tbk [] trivial ?_
        refine thn ?_
        exact arm (mto (n := 115) [(1, .ref 0 2 0 0), (2, (.own 1 1 (0) ((p0.units.length : Int).toNat))), (3, (.own 2 1 (0) (p0.heads.length))), (4, (.own 3 1 (0) (y10.length))), (11, .ref 4 3 0 0), (12, (.own 2 1 (0) ((w64 (x41.Inlet + 1)).toNat - (0 : Int).toNat))), (13, I x49), (48, (.own 5 3 (0) (y11.length))), (49, (I (((y11.length : Nat) : Int)))), (50, I y24), (71, I x67), (72, (I (w64 (y69 + 1))))] [0, 1, 2, 3, 4, 5] [(Qh2 p0), (Qie y25), (.own 1 ((y70.set y69.toNat (w64 (x76 - x49)) : List Int).map Qad)), (Qgy y27), (Qm6 x39), (Qfw x23)] hφ0 (pc (.rn (rqr rfl)) (pc (.rn (Qaf rfl)) (pc (.rn (Qaf rfl)) (pc (.rn (Qaf rfl)) (pc (.rn (rqr rfl)) (pc (.rn (Qaf rfl)) (pc rwl (pc (.rn (Qaf rfl)) (pc rwl (pc rwl (pc rwl (pc rwl pn)))))))))))) (qc (spb (lc (.rn (.plain _ (nld Qaa _))) (lc (.rn (.plain _ (nld Qan _))) ln))) (qc (spr Qaa) (qc (spr Qaa) (qc (spr Qaa) (qc (spb (lc rwl (lc rwl (lc rwl ln)))) (qc (spr Qah) qn))))))) (ih (w64 (y69 + 1), y70.set y69.toNat (w64 (x76 - x49))) h)
       ·replace h := Qaw hc74 h
        refine wfn hc74 (by kernel_rfl) ?_
        refine Qbh ?_
        refine Qar ?_
        refine Qar ?_
        refine Qbg rfl ?_
        refine thn ?_
        exact ⟨(y70), h, (mto (n := 115) [(1, .ref 0 2 0 0), (2, (.own 1 1 (0) ((p0.units.length : Int).toNat))), (3, (.own 2 1 (0) (p0.heads.length))), (4, (.own 3 1 (0) (y10.length))), (11, .ref 4 3 0 0), (13, I x49), (48, (.own 5 3 (0) (y11.length))), (49, (I (((y11.length : Nat) : Int)))), (50, I y24)] [0, 1, 2, 3, 4, 5] [(Qh2 p0), (Qie y25), (Qm5 y70), (Qgy y27), (Qm6 x39), (Qfw x23)] hφ0 (pc (.rn (rqr rfl)) (pc (.rn (Qaf rfl)) (pc (.rn (Qaf rfl)) (pc (.rn (Qaf rfl)) (pc (.rn (rqr rfl)) (pc rwl (pc (.rn (Qaf rfl)) (pc rwl (pc rwl pn))))))))) (qc (spb (lc (.rn (.plain _ (nld Qaa _))) (lc (.rn (.plain _ (nld Qan _))) ln))) (qc (spr Qaa) (qc (spr Qaa) (qc (spr Qaa) (qc (spb (lc rwl (lc rwl (lc rwl ln)))) (qc (spr Qah) qn)))))))⟩
    ·replace h := Qaw hc33 h
     refine wfn hc33 (by kernel_rfl) ?_
     refine Qbh ?_
     refine Qar ?_
     refine Qar ?_
     refine Qbg rfl ?_
     refine thn ?_
     exact ⟨(y25, y26, y27), h, (mto (n := 115) [(2, (.own 1 1 (0) ((p0.units.length : Int).toNat))), (3, (.own 2 1 (0) (p0.heads.length))), (4, (.own 3 1 (0) (y10.length)))] [1, 2, 3] [(Qie y25), (Qj2 y26), (Qgy y27)] hφ0 (pc (.rn (Qaf rfl)) (pc (.rn (Qaf rfl)) (pc (.rn (Qaf rfl)) pn))) (qc (spr Qaa) (qc (spr Qaa) (qc (spr Qaa) qn))))⟩
  ·skip
   refine wx tbk [(2, rp [(.tmp 22, (Qkw p0))] (I ((p0.units.length : Int))))] ⟨alm (c := Qbo) (l := p0.units) (aln rfl Try.underlying89 rfl), trivial⟩ ?_
   refine Qak ?_
   refine wmr (Mor.trans (Qvb 3 3 1 4 (by kernel_rfl) (by kernel_rfl)) (Mor.trans (Qvb 4 160 3 5 (by kernel_rfl) (by kernel_rfl)) (mto (n := 115) (l' := [(1, .ref 0 2 0 0), (2, (.own 1 1 (0) ((p0.units.length : Int).toNat))), (3, (.own 2 1 (0) (p0.heads.length))), (4, (.gro 3 3 1 (([] : List Int).length))), (5, (.gro 4 160 3 (([] : List GPiece).length))), (22, (Qkw p0)), (23, (I ((p0.units.length : Int)))), (24, I 0)]) (own' := [(Qh2 p0), (Qml p0), (Qgc x9), z24_97, z24_24]) [(1, .ref 0 2 0 0), (2, (.own 1 1 (0) ((p0.units.length : Int).toNat))), (3, (.own 2 1 (0) (p0.heads.length))), (4, (.gro 3 3 1 (([] : List Int).length))), (5, (.gro 4 160 3 (([] : List GPiece).length))), (22, (Qkw p0)), (23, (I ((p0.units.length : Int)))), (24, I 0)] [0, 1, 2, 3, 4] [(Qh2 p0), (Qml p0), (Qgc x9), z24_97, z24_24] hφ0 (pc (.rn (rqr rfl)) (pc (.rn (Qaf rfl)) (pc (.rn (Qaf rfl)) (pc (.rn (Qij rfl)) (pc (.rn (Qij rfl)) (pc (.rn (.plain _ (nld Qan _))) (pc rwl (pc rwl pn)))))))) (qc (spb (lc (.rn (.plain _ (nld Qaa _))) (lc (.rn (.plain _ (nld Qan _))) ln))) (qc (spr Qaa) (qc (spr Qaa) (qc (Qgh Qaa) (qc (Qgh Qah) qn)))))))) ?_
   refine Qb1 (τ := Int × (List Int) × (List GPiece)) (fun n t => Qdi N p0 k12 n t.1 t.2.1 t.2.2 = some r) (fun ⟨y81, y82, y83⟩ => ⟨mk 115 [(1, .ref 0 2 0 0), (2, (.own 1 1 (0) ((p0.units.length : Int).toNat))), (3, (.own 2 1 (0) (p0.heads.length))), (4, (.gro 3 3 1 (y82.length))), (5, (.gro 4 160 3 (y83.length))), (22, (Qkw p0)), (23, (I ((p0.units.length : Int)))), (24, I y81)], [(Qh2 p0), (Qml p0), (Qgc x9), (.gro 1 ((y82 : List Int).map Qad)), (Qqg y83)]⟩) (fun t h => by rw [Qdi] at h; cases h) (fun n87 ih t h => ?_) N (0, ([] : List Int), ([] : List GPiece)) h
   obtain ⟨y81, y82, y83⟩ := t
   rw [Qdi] at h
   skip
   refine wx tbk [] trivial ?_
   refine wsq ?_
   rcases bft ((decide (y81 < (p0.units.length : Int)))) with hc88 | hc88
   ·replace h := Qav hc88 h
    refine wft hc88 (by kernel_rfl) ?_
    refine Qao ?_
    refine thn ?_
    obtain ⟨k91, hk_k91, h⟩ := jko h
    refine wjn (τ := (List Int) × (List GPiece)) (fun t => k91 t = some r) (fun ⟨y89, y90⟩ => ⟨mk 115 [(1, .ref 0 2 0 0), (2, (.own 1 1 (0) ((p0.units.length : Int).toNat))), (3, (.own 2 1 (0) (p0.heads.length))), (4, (.gro 3 3 1 (y89.length))), (5, (.gro 4 160 3 (y90.length))), (22, (Qkw p0)), (23, (I ((p0.units.length : Int)))), (24, I y81)], [(Qh2 p0), (Qml p0), (Qgc x9), (.gro 1 ((y89 : List Int).map Qad)), (.gro 3 ((y90 : List GPiece).map Qap))]⟩) (fun t h => ?_) ?_
    ·subst hk_k91
     obtain ⟨y89, y90⟩ := t
     refine wx1 tbk [] trivial ?_
     refine thn ?_
     exact arm (mto (n := 115) [(1, .ref 0 2 0 0), (2, (.own 1 1 (0) ((p0.units.length : Int).toNat))), (3, (.own 2 1 (0) (p0.heads.length))), (4, (.gro 3 3 1 (y89.length))), (5, (.gro 4 160 3 (y90.length))), (22, (Qkw p0)), (23, (I ((p0.units.length : Int)))), (24, (I (w64 (y81 + 1))))] [0, 1, 2, 3, 4] [(Qh2 p0), (Qml p0), (Qgc x9), (.gro 1 ((y89 : List Int).map Qad)), (.gro 3 ((y90 : List GPiece).map Qap))] hφ0 (pc (.rn (rqr rfl)) (pc (.rn (Qaf rfl)) (pc (.rn (Qaf rfl)) (pc (.rn (Qij rfl)) (pc (.rn (Qij rfl)) (pc (.rn (.plain _ (nld Qan _))) (pc rwl (pc rwl pn)))))))) (qc (spb (lc (.rn (.plain _ (nld Qaa _))) (lc (.rn (.plain _ (nld Qan _))) ln))) (qc (spr Qaa) (qc (spr Qaa) (qc (Qgh Qaa) (qc (Qgh Qah) qn)))))) (ih (w64 (y81 + 1), y89, y90) h)
    ·skip
     refine Qak ?_
     obtain ⟨x92, hg93, h⟩ := bno h
     obtain ⟨hi94, hj95⟩ := gsm hg93
     refine wx tbk [(1, rp [(.tmp 22, (Qkw p0)), (.tmp 24, I y81)] (.dptr (Qbo (x92)) 0))] ⟨aid rfl Try.underlying89 ti34 rfl rfl hi94 (mgt Qbo hj95) rfl, trivial⟩ ?_
     obtain ⟨ha96, h⟩ := cko h
     refine wx tbk [(1, rp [ci (-1)] z24_10), (2, ⟨[(.tmp 29, (.gro 3 3 1 (y82.length))), (.tmp 30, z24_10)], [(3, (.gro 1 ((y82 : List Int).map Qad))), (6, .unused)], (.gro 6 3 1 ((y82 ++ ([(-1)])).length)), [(3, .dead), (6, (.gro 1 ((y82 ++ ([(-1)]) : List Int).map Qad)))], false⟩)] ?_ ?_
     ·exact ⟨Qbk (vs := [(I ((-1)))]) rfl Try.underlying37 ti3 tz3 rfl (by decide) rfl (by decide) (by rfl) (by rfl) (by rfl) rfl, Qpb (c := Qad) (a := y82) (b := [(-1)]) rfl Try.underlying37 te3 rfl (Qhv rfl) (by rfl) ha96 (by decide), trivial⟩
     refine wx tbk [(2, rp [(.tmp 33, (Qm4 x92))] (I ((x92.Parts.length : Int))))] ⟨alm (c := Qby) (l := x92.Parts) (aln rfl Try.underlying32 rfl), trivial⟩ ?_
     refine Qak ?_
     refine wmr (mto (n := 115) (l' := [(1, .ref 0 2 0 0), (2, (.own 1 1 (0) ((p0.units.length : Int).toNat))), (3, (.own 2 1 (0) (p0.heads.length))), (4, (.gro 3 3 1 ((y82 ++ ([(-1)])).length))), (5, (.gro 4 160 3 (y83.length))), (6, I y81), (22, (Qkw p0)), (23, (I ((p0.units.length : Int)))), (24, I y81), (33, (Qm4 x92)), (34, (I ((x92.Parts.length : Int)))), (35, I 0)]) (own' := [(Qh2 p0), (Qml p0), (Qgc x9), (.gro 1 (((y82 ++ ([(-1)])) : List Int).map Qad)), (Qqg y83)]) [(1, .ref 0 2 0 0), (2, (.own 1 1 (0) ((p0.units.length : Int).toNat))), (3, (.own 2 1 (0) (p0.heads.length))), (4, (.gro 6 3 1 ((y82 ++ ([(-1)])).length))), (5, (.gro 4 160 3 (y83.length))), (6, I y81), (22, (Qkw p0)), (23, (I ((p0.units.length : Int)))), (24, I y81), (33, (Qm4 x92)), (34, (I ((x92.Parts.length : Int)))), (35, I 0)] [0, 1, 2, 6, 4] [(Qh2 p0), (Qml p0), (Qgc x9), (.gro 1 ((y82 ++ ([(-1)]) : List Int).map Qad)), (Qqg y83)] hφ0 (pc (.rn (rqr rfl)) (pc (.rn (Qaf rfl)) (pc (.rn (Qaf rfl)) (pc (.rn (Qij rfl)) (pc (.rn (Qij rfl)) (pc rwl (pc (.rn (.plain _ (nld Qan _))) (pc rwl (pc rwl (pc (.rn (.plain _ (nld Qbc _))) (pc rwl (pc rwl pn)))))))))))) (qc (spb (lc (.rn (.plain _ (nld Qaa _))) (lc (.rn (.plain _ (nld Qan _))) ln))) (qc (spr Qaa) (qc (spr Qaa) (qc (Qgh Qaa) (qc (Qgh Qah) qn)))))) ?_
     refine Qb1 (τ := Int × (List Int) × (List GPiece)) (fun n t => Qdh N y81 k91 x92 n t.1 t.2.1 t.2.2 = some r) (fun ⟨y97, y98, y99⟩ => ⟨mk 115 [(1, .ref 0 2 0 0), (2, (.own 1 1 (0) ((p0.units.length : Int).toNat))), (3, (.own 2 1 (0) (p0.heads.length))), (4, (.gro 3 3 1 (y98.length))), (5, (.gro 4 160 3 (y99.length))), (6, I y81), (22, (Qkw p0)), (23, (I ((p0.units.length : Int)))), (24, I y81), (33, (Qm4 x92)), (34, (I ((x92.Parts.length : Int)))), (35, I y97)], [(Qh2 p0), (Qml p0), (Qgc x9), (.gro 1 ((y98 : List Int).map Qad)), (Qtl y99)]⟩) (fun t h => by rw [Qdh] at h; cases h) (fun n103 ih t h => ?_) N (0, y82 ++ ([(-1)]), y83) h
     obtain ⟨y97, y98, y99⟩ := t
     rw [Qdh] at h
     skip
     refine wx tbk [] trivial ?_
     refine wsq ?_
     rcases bft ((decide (y97 < (x92.Parts.length : Int)))) with hc104 | hc104
     ·replace h := Qav hc104 h
      refine wft hc104 (by kernel_rfl) ?_
      refine Qao ?_
      refine thn ?_
      refine wsq ?_
      refine Qak ?_
      obtain ⟨x105, hg106, h⟩ := bno h
      obtain ⟨hi107, hj108⟩ := gsm hg106
      refine wx tbk [(0, rp [(.tmp 33, (Qm4 x92)), (.tmp 35, I y97)] (.dptr (Qby (x105)) 0))] ⟨aid rfl Try.underlying32 Qn1 rfl rfl hi107 (mgt Qby hj108) rfl, trivial⟩ ?_
      obtain ⟨ha109, h⟩ := cko h
      refine wx1 tbk [(3, rp [(.tmp 40, I y81), (.tmp 41, (.agg [I x105.Width, I x105.Gain]))] (Qtk y81 x105)), (4, rp [(.tmp 42, (Qtk y81 x105))] (.dat 3 (([(⟨y81, x105⟩ : GPiece)] : List GPiece).map Qap))), (5, ⟨[(.tmp 39, (.gro 4 160 3 (y99.length))), (.tmp 43, (.dat 3 (([(⟨y81, x105⟩ : GPiece)] : List GPiece).map Qap)))], [(4, (Qtl y99)), (6, .unused)], (.gro 6 160 3 ((y99 ++ ([(⟨y81, x105⟩ : GPiece)])).length)), [(4, .dead), (6, (.gro 3 ((y99 ++ ([(⟨y81, x105⟩ : GPiece)]) : List GPiece).map Qap)))], false⟩)] ?_ ?_
      ·exact ⟨Qaj (vs := [I y81, (.agg [I x105.Width, I x105.Gain])]) rfl ts160 tz160 rfl (by rfl) rfl, Qbk (vs := [(Qtk y81 x105)]) rfl Try.underlying158 Qd3 tz160 rfl (by decide) rfl (by decide) (by rfl) (by rfl) (by rfl) rfl, Qpb (c := Qap) (a := y99) (b := [(⟨y81, x105⟩ : GPiece)]) rfl Try.underlying158 te160 rfl (Qhv rfl) (by rfl) ha109 (by decide), trivial⟩
      refine bln ?_
      refine thn ?_
      refine wx1 tbk [] trivial ?_
      refine thn ?_
      exact arm (mto (n := 115) [(1, .ref 0 2 0 0), (2, (.own 1 1 (0) ((p0.units.length : Int).toNat))), (3, (.own 2 1 (0) (p0.heads.length))), (4, (.gro 3 3 1 (y98.length))), (5, (.gro 6 160 3 ((y99 ++ ([(⟨y81, x105⟩ : GPiece)])).length))), (6, I y81), (22, (Qkw p0)), (23, (I ((p0.units.length : Int)))), (24, I y81), (33, (Qm4 x92)), (34, (I ((x92.Parts.length : Int)))), (35, (I (w64 (y97 + 1))))] [0, 1, 2, 3, 6] [(Qh2 p0), (Qml p0), (Qgc x9), (.gro 1 ((y98 : List Int).map Qad)), (.gro 3 ((y99 ++ ([(⟨y81, x105⟩ : GPiece)]) : List GPiece).map Qap))] hφ0 (pc (.rn (rqr rfl)) (pc (.rn (Qaf rfl)) (pc (.rn (Qaf rfl)) (pc (.rn (Qij rfl)) (pc (.rn (Qij rfl)) (pc rwl (pc (.rn (.plain _ (nld Qan _))) (pc rwl (pc rwl (pc (.rn (.plain _ (nld Qbc _))) (pc rwl (pc rwl pn)))))))))))) (qc (spb (lc (.rn (.plain _ (nld Qaa _))) (lc (.rn (.plain _ (nld Qan _))) ln))) (qc (spr Qaa) (qc (spr Qaa) (qc (Qgh Qaa) (qc (Qgh Qah) qn)))))) (ih (w64 (y97 + 1), y98, y99 ++ ([(⟨y81, x105⟩ : GPiece)])) h)
     ·replace h := Qaw hc104 h
      refine wfn hc104 (by kernel_rfl) ?_
      refine Qbh ?_
      refine Qar ?_
      refine Qar ?_
      refine Qbg rfl ?_
      refine bln ?_
      refine thn ?_
      exact ⟨(y98, y99), h, (mto (n := 115) [(1, .ref 0 2 0 0), (2, (.own 1 1 (0) ((p0.units.length : Int).toNat))), (3, (.own 2 1 (0) (p0.heads.length))), (4, (.gro 3 3 1 (y98.length))), (5, (.gro 4 160 3 (y99.length))), (22, (Qkw p0)), (23, (I ((p0.units.length : Int)))), (24, I y81)] [0, 1, 2, 3, 4] [(Qh2 p0), (Qml p0), (Qgc x9), (.gro 1 ((y98 : List Int).map Qad)), (Qtl y99)] hφ0 (pc (.rn (rqr rfl)) (pc (.rn (Qaf rfl)) (pc (.rn (Qaf rfl)) (pc (.rn (Qij rfl)) (pc (.rn (Qij rfl)) (pc (.rn (.plain _ (nld Qan _))) (pc rwl (pc rwl pn)))))))) (qc (spb (lc (.rn (.plain _ (nld Qaa _))) (lc (.rn (.plain _ (nld Qan _))) ln))) (qc (spr Qaa) (qc (spr Qaa) (qc (Qgh Qaa) (qc (Qgh Qah) qn))))))⟩
   ·replace h := Qaw hc88 h
    refine wfn hc88 (by kernel_rfl) ?_
    refine Qbh ?_
    refine Qar ?_
    refine Qar ?_
    refine Qbg rfl ?_
    refine thn ?_
    exact ⟨(y82, y83), h, (mto (n := 115) [(1, .ref 0 2 0 0), (2, (.own 1 1 (0) ((p0.units.length : Int).toNat))), (3, (.own 2 1 (0) (p0.heads.length))), (4, (.gro 3 3 1 (y82.length))), (5, (.gro 4 160 3 (y83.length)))] [0, 1, 2, 3, 4] [(Qh2 p0), (Qml p0), (Qgc x9), (.gro 1 ((y82 : List Int).map Qad)), (Qqg y83)] hφ0 (pc (.rn (rqr rfl)) (pc (.rn (Qaf rfl)) (pc (.rn (Qaf rfl)) (pc (.rn (Qij rfl)) (pc (.rn (Qij rfl)) pn))))) (qc (spb (lc (.rn (.plain _ (nld Qaa _))) (lc (.rn (.plain _ (nld Qan _))) ln))) (qc (spr Qaa) (qc (spr Qaa) (qc (Qgh Qaa) (qc (Qgh Qah) qn))))))⟩
end Go.Proofs.Ytlhakkkjgdbdpaa
