/-
  Functions of the program: what they compute, as plain functions, and that they do. No conditions.
-/
import Derived.Test.YtlhakkkjgdbdpaaGreatX1
namespace Go.Proofs.YtlhakkkjgdbdpaaGreat
set_option maxRecDepth 100000
set_option maxHeartbeats 4000000
open Go.RowKit
def Qf6 (_N : Nat) (p0 : (List Int)) : Option Unit :=
  chk (!p0.isEmpty) <|
  chk (!p0.isEmpty) <|
  chk (decide ((0 + p0.length) * 8 ≤ 140737488355328)) <|
  some ()
def Q99 (p0 : (List Int)) : AV := .dat 1 ((p0 : List Int).map Qal)
def Q5x (p0 : (List Int)) : Slot := .own 1 ((p0 : List Int).map Qal)
def Zds : AV := .acc 0 3 1 ((([] : List Int) : List Int).map Qal)
theorem Qj8 (N : Nat) (p0 : (List Int)) (r : Unit) (h : Qf6 N p0 = some r) : Spec Tryz.prog 108 [(Q99 p0)] [] (.own 0 1 (0) (p0.length)) [(Q5x p0)] := by
  refine Qac Tryz.func108 rfl 1 (nle rfl) (fun X φ0 w0 hφ0 hd0 => ?_)
  unfold Qf6 at h
  refine Qbh ?_
  refine wx tbk [] trivial ?_
  refine wsq ?_
  obtain ⟨hz1, h⟩ := cko h
  refine wx tbk [(1, rp [(.tmp 3, (Q99 p0)), ((.const (.slice none 0 0)), nilS)] (B false))] ⟨Qx9 rfl Tryz.underlying73 rfl (Qil hz1), trivial⟩ ?_
  refine Qfa (by kernel_rfl) ?_
  refine Qam ?_
  refine thn ?_
  obtain ⟨ha3, h⟩ := cko h
  obtain ⟨ha2, h⟩ := cko h
  refine wx tbk [(0, ⟨[], [(0, .unused)], Zds, [(0, .tok)], false⟩), (2, ⟨[(.tmp 5, Zds), (.tmp 6, (Q99 p0))], [(0, .tok), (1, .unused)], (.own 1 1 (0) (p0.length)), [(0, .dead), (1, (Q5x p0))], false⟩)] ⟨Qt2 rfl Tryz.underlying73 ti3 tz3, Q07 rfl Tryz.underlying73 te3 (Base.acc _ _) rfl rfl (Qil ha3) (Q6g Qal Za6 _) (Q7o Qal ha2) (Q7n Qal ha2 (by decide)) (List.length_map _), trivial⟩ ?_
  refine wmr (mto (n := 8) (l' := [(2, (.own 0 1 (0) (p0.length)))]) (own' := [(Q5x p0)]) [(2, (.own 1 1 (0) (p0.length)))] [1] [(Q5x p0)] hφ0 (pc (.rn (Qak rfl)) pn) (qc (spr Qab) qn)) ?_
  refine Qaa ?_
  obtain rfl := osi h
  exact ⟨_, Mor.rfl, Qb7 (vs := [(.own 0 1 (0) (p0.length))]) ⟨rot (by kernel_rfl), trivial⟩ rfl (NLt.own _ _ _ _ (by decide)) (by kernel_rfl) (Qaf (Qhw Qab _) Qbd)⟩
def Qdl (N : Nat) (p0 : GShared) (k5 : (List Int) → Option (List Int)) : Nat → Int → (List Int) → Option (List Int)
  | 0, _, _ => none
  | n12 + 1, y8, y9 =>
    bif (decide (y8 ≥ 0)) then
     chk (decide (0 ≤ y8) && decide (y8.toNat < p0.heads.length)) <|
     (y9[y8.toNat]?).bind fun x15 =>
     chk (decide (0 ≤ w64 (y8 + 1)) && decide ((w64 (y8 + 1)).toNat < p0.heads.length)) <|
     (y9[(w64 (y8 + 1)).toNat]?).bind fun x18 =>
     chk (decide (0 ≤ y8) && decide (y8.toNat < p0.heads.length)) <|
     (y9[y8.toNat]?).bind fun _ =>
     Qdl N p0 k5 n12 (w64 (y8 - 1)) (y9.set y8.toNat (w64 (x15 + x18)))
    else
     k5 (y9)
def Qg6 (N : Nat) (p0 : GShared) : Option (List Int) :=
  (Qf6 N p0.heads).bind fun _ =>
  Qc5 (fun y4 =>
    some y4) fun k5 : (List Int) → Option (List Int) =>
  (some (w64 (((p0.heads.length : Nat) : Int) - 2))).bind fun x6 =>
  Qdl N p0 k5 N x6 p0.heads
def Zaa (p0 : GShared) : AV := .dat 1 ((p0.heads : List Int).map Qal)
def Q5y (p0 : GShared) : Slot := .own 1 ((p0.heads : List Int).map Qal)
def Q2o (y4 : (List Int)) : Slot := .own 1 ((y4 : List Int).map Qal)
def Qpm (y9 : (List Int)) : Slot := .own 1 ((y9 : List Int).map Qal)
theorem Qk5 (N : Nat) (p0 : GShared) (r : (List Int)) (h : Qg6 N p0 = some r) : Spec Tryz.prog 87 [(.agg [(Zaa p0), (.dat 2 ((p0.units : List GUnit).map Qck))])] [] (.own 0 1 (0) (p0.heads.length)) [(.own 1 ((r : List Int).map Qal))] := by
  refine Qac Tryz.func87 rfl 1 (nle rfl) (fun X φ0 w0 hφ0 hd0 => ?_)
  unfold Qg6 at h
  refine Qbh ?_
  refine wx tbk [] trivial ?_
  obtain ⟨x3, hf2, h⟩ := bno h
  refine wx tbk [(2, ⟨[fu 108, (.tmp 6, (Zaa p0))], [(1, .unused)], (.own 1 1 (0) (p0.heads.length)), [(1, (Q5y p0))], false⟩)] ⟨Qah (first := []) (cap := []) (vs := [(Zaa p0)]) (σr := []) (σr' := [(Q5y p0)]) (res' := (.own 1 1 (0) (p0.heads.length))) [1] rfl Q66 (Qj8 N p0.heads _ hf2) rfl (Qbc (rnc (.plain _ (nld Qab _)) rn0)) Qag (slc (Qd7 Qab) Qag) (Qk3 rfl) rfl rfl rfl, trivial⟩ ?_
  obtain ⟨k5, hk_k5, h⟩ := jko h
  refine wjn (τ := (List Int)) (fun t => k5 t = some r) (fun y4 => ⟨mk 27 [(3, (.own 0 1 (0) (p0.heads.length)))], [(Q2o y4)]⟩) (fun y4 h => ?_) ?_
  ·subst hk_k5
   refine wx tbk [] trivial ?_
   refine wmr (mto (n := 27) (l' := [(2, (.own 0 1 (0) (p0.heads.length)))]) (own' := [(Q2o y4)]) [(2, (.own 0 1 (0) (p0.heads.length)))] [0] [(Q2o y4)] hφ0 (pc (.rn (Qak rfl)) pn) (qc (spr Qab) qn)) ?_
   refine Qaa ?_
   obtain rfl := osi h
   exact ⟨_, Mor.rfl, Qb7 (vs := [(.own 0 1 (0) (p0.heads.length))]) ⟨rot (by kernel_rfl), trivial⟩ rfl (NLt.own _ _ _ _ (by decide)) (by kernel_rfl) (Qaf (Qhw Qab _) Qbd)⟩
  ·skip
   obtain ⟨x6, hl7, h⟩ := bno h
   refine wx tbk [(1, rp [(.tmp 8, (.own 1 1 (0) (p0.heads.length)))] (I (((p0.heads.length : Nat) : Int)))), (3, rp [(.tmp 10, (I (w64 (((p0.heads.length : Nat) : Int) - 2))))] (I x6))] ⟨aln rfl Tryz.underlying73 rfl, Qd8 hl7 (aas rfl), trivial⟩ ?_
   refine Qaj ?_
   refine wmr (mto (n := 27) (l' := [(3, (.own 0 1 (0) (p0.heads.length))), (4, I x6)]) (own' := [(Q5y p0)]) [(3, (.own 1 1 (0) (p0.heads.length))), (4, I x6)] [1] [(Q5y p0)] hφ0 (pc (.rn (Qak rfl)) (pc rwl pn)) (qc (spr Qab) qn)) ?_
   refine Qcl (τ := Int × (List Int)) (fun n t => Qdl N p0 k5 n t.1 t.2 = some r) (fun ⟨y8, y9⟩ => ⟨mk 27 [(3, (.own 0 1 (0) (p0.heads.length))), (4, I y8)], [(Qpm y9)]⟩) (fun t h => by rw [Qdl] at h; cases h) (fun n12 ih t h => ?_) N (x6, p0.heads) h
   obtain ⟨y8, y9⟩ := t
   rw [Qdl] at h
   skip
   refine wsq ?_
   refine wx tbk [] trivial ?_
   rcases bft ((decide (y8 ≥ 0))) with hc13 | hc13
   ·replace h := Qat hc13 h
    refine wft hc13 (by kernel_rfl) ?_
    refine Qam ?_
    refine thn ?_
    refine wsq ?_
    refine Qaj ?_
    obtain ⟨hi14, h⟩ := cko h
    obtain ⟨hi14a, hi14b⟩ := Qbi hi14
    obtain ⟨x15, hg16, h⟩ := bno h
    obtain ⟨hi17, h⟩ := cko h
    obtain ⟨hi17a, hi17b⟩ := Qbi hi17
    obtain ⟨x18, hg19, h⟩ := bno h
    obtain ⟨hi20, h⟩ := cko h
    obtain ⟨hi20a, hi20b⟩ := Qbi hi20
    obtain ⟨x21, hg22, h⟩ := bno h
    refine wy1 tbk [(2, rb [(.tmp 15, (.own 0 1 (0) (p0.heads.length))), (.tmp 16, I y8)] [(0, (Qpm y9))] (.ref 0 1 (y8.toNat) 0)), (3, rb [(.tmp 17, (.ref 0 1 (y8.toNat) 0))] [(0, (Qpm y9))] (I x15)), (7, rb [(.tmp 19, (.own 0 1 (0) (p0.heads.length))), (.tmp 21, (I (w64 (y8 + 1))))] [(0, (Qpm y9))] (.ref 0 1 ((w64 (y8 + 1)).toNat) 0)), (8, rb [(.tmp 22, (.ref 0 1 ((w64 (y8 + 1)).toNat) 0))] [(0, (Qpm y9))] (I x18)), (10, rb [(.tmp 15, (.own 0 1 (0) (p0.heads.length))), (.tmp 16, I y8)] [(0, (Qpm y9))] (.ref 0 1 (y8.toNat) 0)), (11, ⟨[(.tmp 25, (.ref 0 1 (y8.toNat) 0)), (.tmp 24, (I (w64 (x15 + x18))))], [(0, (Qpm y9))], .any, [(0, (.own 1 ((y9.set y8.toNat (w64 (x15 + x18)) : List Int).map Qal)))], false⟩)] ⟨aio rfl Tryz.underlying73 ti3 (odt hi14a) (odt hi14b) (Nat.zero_add _), ald rfl ti3 (by decide) (mgt Qal hg16) (nle rfl) rfl, aio rfl Tryz.underlying73 ti3 (odt hi17a) (odt hi17b) (Nat.zero_add _), ald rfl ti3 (by decide) (mgt Qal hg19) (nle rfl) rfl, aio rfl Tryz.underlying73 ti3 (odt hi20a) (odt hi20b) (Nat.zero_add _), ast rfl ti3 (by rfl) (mgt Qal hg22) (nle rfl) (Qhf Qal rfl), trivial⟩ ?_
    refine bln ?_
    refine thn ?_
    refine wx1 tbk [] trivial ?_
    refine thn ?_
    exact arm (mto (n := 27) [(3, (.own 0 1 (0) (p0.heads.length))), (4, (I (w64 (y8 - 1))))] [0] [(.own 1 ((y9.set y8.toNat (w64 (x15 + x18)) : List Int).map Qal))] hφ0 (pc (.rn (Qak rfl)) (pc rwl pn)) (qc (spr Qab) qn)) (ih (w64 (y8 - 1), y9.set y8.toNat (w64 (x15 + x18))) h)
   ·replace h := Qau hc13 h
    refine wfn hc13 (by kernel_rfl) ?_
    refine Qbr ?_
    refine Qay ?_
    refine Qay ?_
    refine Qbq rfl ?_
    refine thn ?_
    exact ⟨(y9), h, (mto (n := 27) [(3, (.own 0 1 (0) (p0.heads.length)))] [0] [(Qpm y9)] hφ0 (pc (.rn (Qak rfl)) pn) (qc (spr Qab) qn))⟩
def Qfu (_N : Nat) (p0 : GPiece) : Option Int :=
  some p0.Part.Gain
theorem Qh1 (N : Nat) (p0 : GPiece) (r : Int) (h : Qfu N p0 = some r) : Spec Tryz.prog 89 [(.agg (Qap p0))] [] (I r) [] := by
  refine Qac Tryz.func89 rfl 0 (nle rfl) (fun X φ0 w0 hφ0 hd0 => ?_)
  unfold Qfu at h
  refine wx tbk [] trivial ?_
  refine wx tbk [] trivial ?_
  refine Qaa ?_
  obtain rfl := osi h
  exact fend ⟨[I p0.Part.Gain], ⟨rot (by kernel_rfl), trivial⟩, rfl⟩ nll
def Qco (N : Nat) (p0 : GPiece) (p1 : GPiece) : Option Int :=
  (Qfu N (⟨p1.unit, (⟨p1.Part.Width, p1.Part.Gain⟩ : GPart)⟩ : GPiece)).bind fun x3 =>
  (Qfu N (⟨p0.unit, (⟨p0.Part.Width, p0.Part.Gain⟩ : GPart)⟩ : GPiece)).bind fun x5 =>
  some (w64 (x3 - x5))
def Q91 (p0 : GPiece) : AV := .agg [(I (p0.unit)), (I (p0.Part.Width)), (I (p0.Part.Gain))]
def Q90 (p1 : GPiece) : AV := .agg [(I (p1.unit)), (I (p1.Part.Width)), (I (p1.Part.Gain))]
def Q5s : Slot := .own 1 [[(.fn (.func 89) [] [])]]
theorem Qde (N : Nat) (p0 : GPiece) (p1 : GPiece) (r : Int) (h : Qco N p0 p1 = some r) : Spec Tryz.prog 110 [(Q91 p0), (Q90 p1), (.ref 0 1 (0) 0)] [Q5s] (I (r)) [Q5s] := by
  refine Qac Tryz.func110 rfl 1 (nle rfl) (fun X φ0 w0 hφ0 hd0 => ?_)
  unfold Qco at h
  refine Qbh ?_
  refine wx tbk [] trivial ?_
  obtain ⟨x3, hf2, h⟩ := bno h
  obtain ⟨x5, hf4, h⟩ := bno h
  refine wxd tbk [(2, rp [(.tmp 6, (.fn (.func 89) [] [])), (.tmp 7, (Q90 p1))] (I x3)), (5, rp [(.tmp 9, (.fn (.func 89) [] [])), (.tmp 10, (Q91 p0))] (I x5))] ⟨apc (first := []) (cap := []) (vs := [(Q90 p1)]) rfl Q4a (Qh1 N (⟨p1.unit, (⟨p1.Part.Width, p1.Part.Gain⟩ : GPart)⟩ : GPiece) _ hf2) rfl rfl (nlc (NLt.agg _ (nlc nll (nlc nll (nlc nll nl0)))) nl0) nll rfl, apc (first := []) (cap := []) (vs := [(Q91 p0)]) rfl Q4a (Qh1 N (⟨p0.unit, (⟨p0.Part.Width, p0.Part.Gain⟩ : GPart)⟩ : GPiece) _ hf4) rfl rfl (nlc (NLt.agg _ (nlc nll (nlc nll (nlc nll nl0)))) nl0) nll rfl, trivial⟩ ?_
  refine wmr (mto (n := 13) (l' := [(5, (I ((w64 (x3 - x5)))))]) (own' := [Q5s]) [(5, (I (w64 (x3 - x5))))] [0] [Q5s] hφ0 (pc rwl pn) (qc (spb (lc (.rn (Qas rn0 rn0)) ln)) qn)) ?_
  refine Qaa ?_
  obtain rfl := osi h
  exact ⟨_, Mor.rfl, Qb7 (vs := [(I (w64 (x3 - x5)))]) ⟨rot (by kernel_rfl), trivial⟩ rfl (NLt.of0 nll) (by kernel_rfl) (Qaf (Qav (nlc (NLt.of0 (NLt.fn _ _ _ nl0 nl0)) nl0)) Qbd)⟩
def Qbj (N : Nat) (p0 : Nat) (p1 : Int) (k9 : (List GPiece) → Option (List GPiece)) : Nat → Int → (List GPiece) → Option (List GPiece)
  | 0, _, _ => none
  | n14 + 1, y10, y11 =>
    Qc5 (fun _ =>
      chk (decide (0 ≤ w64 (y10 - 1)) && decide ((w64 (y10 - 1)).toNat < p0)) <|
      (y11[(w64 (y10 - 1)).toNat]?).bind fun x17 =>
      chk (decide (0 ≤ y10) && decide (y10.toNat < p0)) <|
      (y11[y10.toNat]?).bind fun x20 =>
      chk (decide (0 ≤ y10) && decide (y10.toNat < p0)) <|
      (y11[y10.toNat]?).bind fun _ =>
      chk (decide (0 ≤ w64 (y10 - 1)) && decide ((w64 (y10 - 1)).toNat < p0)) <|
      ((y11.set y10.toNat (⟨x17.unit, (⟨x17.Part.Width, x17.Part.Gain⟩ : GPart)⟩ : GPiece))[(w64 (y10 - 1)).toNat]?).bind fun _ =>
      Qbj N p0 p1 k9 n14 (w64 (y10 - 1)) ((y11.set y10.toNat (⟨x17.unit, (⟨x17.Part.Width, x17.Part.Gain⟩ : GPart)⟩ : GPiece)).set ((w64 (y10 - 1)).toNat) (⟨x20.unit, (⟨x20.Part.Width, x20.Part.Gain⟩ : GPart)⟩ : GPiece))) fun k15 : Unit → Option (List GPiece) =>
    bif (decide (y10 > p1)) then
     chk (decide (0 ≤ y10) && decide (y10.toNat < p0)) <|
     (y11[y10.toNat]?).bind fun x30 =>
     chk (decide (0 ≤ w64 (y10 - 1)) && decide ((w64 (y10 - 1)).toNat < p0)) <|
     (y11[(w64 (y10 - 1)).toNat]?).bind fun x33 =>
     (Qco N (⟨x30.unit, (⟨x30.Part.Width, x30.Part.Gain⟩ : GPart)⟩ : GPiece) (⟨x33.unit, (⟨x33.Part.Width, x33.Part.Gain⟩ : GPart)⟩ : GPiece)).bind fun x36 =>
     bif (decide (x36 < 0)) then
      k15 ()
     else
      k9 (y11)
    else
     k9 (y11)
def Qbk (N : Nat) (p0 : Nat) (p1 : Int) (p2 : Int) : Nat → Int → (List GPiece) → Option (List GPiece)
  | 0, _, _ => none
  | n6 + 1, y2, y3 =>
    bif (decide (y2 < p2)) then
     Qc5 (fun y8 =>
       Qbk N p0 p1 p2 n6 (w64 (y2 + 1)) y8) fun k9 : (List GPiece) → Option (List GPiece) =>
     Qbj N p0 p1 k9 N y2 y3
    else
     some y3
def Qcf (N : Nat) (p0 : Nat) (p1 : Int) (p2 : Int) (p3 : (List GPiece)) : Option (List GPiece) :=
  Qbk N p0 p1 p2 N (w64 (p1 + 1)) p3
def Qnr : AV := .fn (.func 110) [] [(.ref 1 1 (0) 0)]
def Q92 (p3 : (List GPiece)) : Slot := .own 3 ((p3 : List GPiece).map Qap)
def Qkg : Slot := .own 1 [[(.fn (.func 89) [] [])]]
def Qup (y3 : (List GPiece)) : Slot := .own 3 ((y3 : List GPiece).map Qap)
def Qhe (y11 : (List GPiece)) : Slot := .own 3 ((y11 : List GPiece).map Qap)
def Zdr (x17 : GPiece) : AV := .agg [(I (x17.unit)), (I (x17.Part.Width)), (I (x17.Part.Gain))]
def Q72 (x20 : GPiece) : AV := .agg [(I (x20.unit)), (I (x20.Part.Width)), (I (x20.Part.Gain))]
def Qw3 (y11 : (List GPiece)) (y10 : Int) (x17 : GPiece) : Slot := .own 3 ((y11.set y10.toNat (⟨x17.unit, (⟨x17.Part.Width, x17.Part.Gain⟩ : GPart)⟩ : GPiece) : List GPiece).map Qap)
def Q2k (y11 : (List GPiece)) (y10 : Int) (x17 : GPiece) (x20 : GPiece) : Slot := .own 3 (((y11.set y10.toNat (⟨x17.unit, (⟨x17.Part.Width, x17.Part.Gain⟩ : GPart)⟩ : GPiece)).set ((w64 (y10 - 1)).toNat) (⟨x20.unit, (⟨x20.Part.Width, x20.Part.Gain⟩ : GPart)⟩ : GPiece) : List GPiece).map Qap)
def Q71 (x30 : GPiece) : AV := .agg [(I (x30.unit)), (I (x30.Part.Width)), (I (x30.Part.Gain))]
def Q2j (x33 : GPiece) : AV := .agg [(I (x33.unit)), (I (x33.Part.Width)), (I (x33.Part.Gain))]
theorem Qd0 (N : Nat) (p0 : Nat) (p1 : Int) (p2 : Int) (p3 : (List GPiece)) (r : (List GPiece)) (h : Qcf N p0 p1 p2 p3 = some r) : Spec Tryz.prog 120 [(.own 0 3 (0) (p0)), (I (p1)), (I (p2)), Qnr] [(Q92 p3), Qkg] (.tup []) [(.own 3 ((r : List GPiece).map Qap)), Qkg] := by
  refine Qac Tryz.func120 rfl 2 (nle rfl) (fun X φ0 w0 hφ0 hd0 => ?_)
  unfold Qcf at h
  refine Qbh ?_
  refine wx tbk [] trivial ?_
  refine Qaj ?_
  refine wmr (mto (n := 53) (l' := [(0, (.own 0 3 (0) (p0))), (1, I p1), (2, I p2), (3, Qnr), (8, (I ((w64 (p1 + 1)))))]) (own' := [(Q92 p3), Qkg]) [(0, (.own 0 3 (0) (p0))), (1, I p1), (2, I p2), (3, Qnr), (8, (I (w64 (p1 + 1))))] [0, 1] [(Q92 p3), Qkg] hφ0 (pc (.rn (Qak rfl)) (pc rwl (pc rwl (pc (.rn (Qas rn0 (rnc (rqr rfl) rn0))) (pc rwl pn))))) (qc (spr Qai) (qc (spb (lc (.rn (Qas rn0 rn0)) ln)) qn))) ?_
  refine Qcl (τ := Int × (List GPiece)) (fun n t => Qbk N p0 p1 p2 n t.1 t.2 = some r) (fun ⟨y2, y3⟩ => ⟨mk 53 [(0, (.own 0 3 (0) (p0))), (1, I p1), (2, I p2), (3, Qnr), (8, I y2)], [(Qup y3), Qkg]⟩) (fun t h => by rw [Qbk] at h; cases h) (fun n6 ih t h => ?_) N (w64 (p1 + 1), p3) h
  obtain ⟨y2, y3⟩ := t
  rw [Qbk] at h
  skip
  refine wsq ?_
  refine wx tbk [] trivial ?_
  rcases bft ((decide (y2 < p2))) with hc7 | hc7
  ·replace h := Qat hc7 h
   refine wft hc7 (by kernel_rfl) ?_
   refine Qam ?_
   refine thn ?_
   obtain ⟨k9, hk_k9, h⟩ := jko h
   refine wjn (τ := (List GPiece)) (fun t => k9 t = some r) (fun y8 => ⟨mk 53 [(0, (.own 0 3 (0) (p0))), (1, I p1), (2, I p2), (3, Qnr), (8, I y2)], [(.own 3 ((y8 : List GPiece).map Qap)), Qkg]⟩) (fun y8 h => ?_) ?_
   ·subst hk_k9
    refine wx1 tbk [] trivial ?_
    refine thn ?_
    exact arm (mto (n := 53) [(0, (.own 0 3 (0) (p0))), (1, I p1), (2, I p2), (3, Qnr), (8, (I (w64 (y2 + 1))))] [0, 1] [(.own 3 ((y8 : List GPiece).map Qap)), Qkg] hφ0 (pc (.rn (Qak rfl)) (pc rwl (pc rwl (pc (.rn (Qas rn0 (rnc (rqr rfl) rn0))) (pc rwl pn))))) (qc (spr Qai) (qc (spb (lc (.rn (Qas rn0 rn0)) ln)) qn))) (ih (w64 (y2 + 1), y8) h)
   ·skip
    refine Qaj ?_
    refine wx tbk [] trivial ?_
    refine Qaj ?_
    refine wmr (mto (n := 53) (l' := [(0, (.own 0 3 (0) (p0))), (1, I p1), (2, I p2), (3, Qnr), (8, I y2), (9, I y2)]) (own' := [(Qup y3), Qkg]) [(0, (.own 0 3 (0) (p0))), (1, I p1), (2, I p2), (3, Qnr), (8, I y2), (9, I y2)] [0, 1] [(Qup y3), Qkg] hφ0 (pc (.rn (Qak rfl)) (pc rwl (pc rwl (pc (.rn (Qas rn0 (rnc (rqr rfl) rn0))) (pc rwl (pc rwl pn)))))) (qc (spr Qai) (qc (spb (lc (.rn (Qas rn0 rn0)) ln)) qn))) ?_
    refine Qcl (τ := Int × (List GPiece)) (fun n t => Qbj N p0 p1 k9 n t.1 t.2 = some r) (fun ⟨y10, y11⟩ => ⟨mk 53 [(0, (.own 0 3 (0) (p0))), (1, I p1), (2, I p2), (3, Qnr), (8, I y2), (9, I y10)], [(Qhe y11), Qkg]⟩) (fun t h => by rw [Qbj] at h; cases h) (fun n14 ih t h => ?_) N (y2, y3) h
    obtain ⟨y10, y11⟩ := t
    rw [Qbj] at h
    skip
    obtain ⟨k15, hk_k15, h⟩ := jko h
    refine wjn (τ := Unit) (fun t => k15 t = some r) (fun _ => ⟨mk 53 [(0, (.own 0 3 (0) (p0))), (1, I p1), (2, I p2), (3, Qnr), (8, I y2), (9, I y10)], [(Qhe y11), Qkg]⟩) (fun t h => ?_) ?_
    ·subst hk_k15
     refine wsq ?_
     refine Qaj ?_
     obtain ⟨hi16, h⟩ := cko h
     obtain ⟨hi16a, hi16b⟩ := Qbi hi16
     obtain ⟨x17, hg18, h⟩ := bno h
     obtain ⟨hi19, h⟩ := cko h
     obtain ⟨hi19a, hi19b⟩ := Qbi hi19
     obtain ⟨x20, hg21, h⟩ := bno h
     obtain ⟨hi22, h⟩ := cko h
     obtain ⟨hi22a, hi22b⟩ := Qbi hi22
     obtain ⟨x23, hg24, h⟩ := bno h
     obtain ⟨hi25, h⟩ := cko h
     obtain ⟨hi25a, hi25b⟩ := Qbi hi25
     obtain ⟨x26, hg27, h⟩ := bno h
     refine wy1 tbk [(8, rb [(.tmp 42, (.own 0 3 (0) (p0))), (.tmp 44, (I (w64 (y10 - 1))))] [(0, (Qhe y11))] (.ref 0 3 ((w64 (y10 - 1)).toNat) 0)), (9, rb [(.tmp 45, (.ref 0 3 ((w64 (y10 - 1)).toNat) 0))] [(0, (Qhe y11))] (Zdr x17)), (12, rb [(.tmp 47, (.own 0 3 (0) (p0))), (.tmp 48, I y10)] [(0, (Qhe y11))] (.ref 0 3 (y10.toNat) 0)), (13, rb [(.tmp 49, (.ref 0 3 (y10.toNat) 0))] [(0, (Qhe y11))] (Q72 x20)), (14, rb [(.tmp 37, (.own 0 3 (0) (p0))), (.tmp 38, I y10)] [(0, (Qhe y11))] (.ref 0 3 (y10.toNat) 0)), (15, ⟨[(.tmp 51, (.ref 0 3 (y10.toNat) 0)), (.tmp 46, (Zdr x17))], [(0, (Qhe y11))], .any, [(0, (Qw3 y11 y10 x17))], false⟩), (16, rb [(.tmp 39, (.own 0 3 (0) (p0))), (.tmp 41, (I (w64 (y10 - 1))))] [(0, (Qw3 y11 y10 x17))] (.ref 0 3 ((w64 (y10 - 1)).toNat) 0)), (17, ⟨[(.tmp 52, (.ref 0 3 ((w64 (y10 - 1)).toNat) 0)), (.tmp 50, (Q72 x20))], [(0, (Qw3 y11 y10 x17))], .any, [(0, (Q2k y11 y10 x17 x20))], false⟩)] ⟨aio rfl Tryz.underlying162 Qes (odt hi16a) (odt hi16b) (Nat.zero_add _), ald rfl Qes (by decide) (mgt Qap hg18) (nle rfl) rfl, aio rfl Tryz.underlying162 Qes (odt hi19a) (odt hi19b) (Nat.zero_add _), ald rfl Qes (by decide) (mgt Qap hg21) (nle rfl) rfl, aio rfl Tryz.underlying162 Qes (odt hi22a) (odt hi22b) (Nat.zero_add _), ast rfl Qes (by rfl) (mgt Qap hg24) (nle rfl) (Qhf Qap rfl), aio rfl Tryz.underlying162 Qes (odt hi25a) (odt hi25b) (Nat.zero_add _), ast rfl Qes (by rfl) (mgt Qap hg27) (nle rfl) (Qhf Qap rfl), trivial⟩ ?_
     refine bln ?_
     refine thn ?_
     refine wx1 tbk [] trivial ?_
     refine thn ?_
     exact arm (mto (n := 53) [(0, (.own 0 3 (0) (p0))), (1, I p1), (2, I p2), (3, Qnr), (8, I y2), (9, (I (w64 (y10 - 1))))] [0, 1] [(Q2k y11 y10 x17 x20), Qkg] hφ0 (pc (.rn (Qak rfl)) (pc rwl (pc rwl (pc (.rn (Qas rn0 (rnc (rqr rfl) rn0))) (pc rwl (pc rwl pn)))))) (qc (spr Qai) (qc (spb (lc (.rn (Qas rn0 rn0)) ln)) qn))) (ih (w64 (y10 - 1), (y11.set y10.toNat (⟨x17.unit, (⟨x17.Part.Width, x17.Part.Gain⟩ : GPart)⟩ : GPiece)).set ((w64 (y10 - 1)).toNat) (⟨x20.unit, (⟨x20.Part.Width, x20.Part.Gain⟩ : GPart)⟩ : GPiece)) h)
    ·skip
     rcases bft ((decide (y10 > p1))) with hb28 | hb28
     ·replace h := Qat hb28 h
      obtain ⟨hi29, h⟩ := cko h
      obtain ⟨hi29a, hi29b⟩ := Qbi hi29
      obtain ⟨x30, hg31, h⟩ := bno h
      obtain ⟨hi32, h⟩ := cko h
      obtain ⟨hi32a, hi32b⟩ := Qbi hi32
      obtain ⟨x33, hg34, h⟩ := bno h
      obtain ⟨x36, hf35, h⟩ := bno h
      refine wxd tbk [(3, rp [(.tmp 20, (B ((decide (y10 > p1)))))] (B true)), (7, rb [(.tmp 21, B true), (.tmp 23, (.own 0 3 (0) (p0))), (.tmp 24, I y10)] [(0, (Qhe y11))] (.ref 0 3 (y10.toNat) 0)), (8, rb [(.tmp 21, B true), (.tmp 25, (.ref 0 3 (y10.toNat) 0))] [(0, (Qhe y11))] (Q71 x30)), (12, rb [(.tmp 21, B true), (.tmp 27, (.own 0 3 (0) (p0))), (.tmp 29, (I (w64 (y10 - 1))))] [(0, (Qhe y11))] (.ref 0 3 ((w64 (y10 - 1)).toNat) 0)), (13, rb [(.tmp 21, B true), (.tmp 30, (.ref 0 3 ((w64 (y10 - 1)).toNat) 0))] [(0, (Qhe y11))] (Q2j x33)), (14, ⟨[(.tmp 21, B true), (.tmp 22, Qnr), (.tmp 26, (Q71 x30)), (.tmp 31, (Q2j x33))], [(1, Qkg)], I x36, [(1, Qkg)], false⟩)] ⟨asb hb28 (amv rfl), ag_ (aio rfl Tryz.underlying162 Qes (odt hi29a) (odt hi29b) (Nat.zero_add _)), ag_ (ald rfl Qes (by decide) (mgt Qap hg31) (nle rfl) rfl), ag_ (aio rfl Tryz.underlying162 Qes (odt hi32a) (odt hi32b) (Nat.zero_add _)), ag_ (ald rfl Qes (by decide) (mgt Qap hg34) (nle rfl) rfl), ag_ (Qah (first := []) (cap := [.ref 1 1 0 0]) (vs := [(.agg [(I ((⟨x30.unit, (⟨x30.Part.Width, x30.Part.Gain⟩ : GPart)⟩ : GPiece).unit)), (I ((⟨x30.unit, (⟨x30.Part.Width, x30.Part.Gain⟩ : GPart)⟩ : GPiece).Part.Width)), (I ((⟨x30.unit, (⟨x30.Part.Width, x30.Part.Gain⟩ : GPart)⟩ : GPiece).Part.Gain))]), (.agg [(I ((⟨x33.unit, (⟨x33.Part.Width, x33.Part.Gain⟩ : GPart)⟩ : GPiece).unit)), (I ((⟨x33.unit, (⟨x33.Part.Width, x33.Part.Gain⟩ : GPart)⟩ : GPiece).Part.Width)), (I ((⟨x33.unit, (⟨x33.Part.Width, x33.Part.Gain⟩ : GPart)⟩ : GPiece).Part.Gain))])]) (σr := [Qkg]) (σr' := [Qkg]) (res' := (I x36)) [1] rfl Qqc (Qde N (⟨x30.unit, (⟨x30.Part.Width, x30.Part.Gain⟩ : GPart)⟩ : GPiece) (⟨x33.unit, (⟨x33.Part.Width, x33.Part.Gain⟩ : GPart)⟩ : GPiece) _ hf35) rfl (Qbc (rnc (.plain _ (NLt.agg _ (nlc nll (nlc nll (nlc nll nl0))))) (rnc (.plain _ (NLt.agg _ (nlc nll (nlc nll (nlc nll nl0))))) (rnc (Qa2 rfl) rn0)))) (slc (Qae (rnc (.plain _ (NLt.fn _ _ _ nl0 nl0)) rn0)) Qag) (slc (Qae (rnc (.plain _ (NLt.fn _ _ _ nl0 nl0)) rn0)) Qag) (.plain _ nll) rfl rfl rfl), trivial⟩ ?_
      rcases bft ((decide (x36 < 0))) with hc37 | hc37
      ·replace h := Qat hc37 h
       refine wft hc37 (by kernel_rfl) ?_
       refine Qam ?_
       refine thn ?_
       exact ⟨(), h, (mto (n := 53) [(0, (.own 0 3 (0) (p0))), (1, I p1), (2, I p2), (3, Qnr), (8, I y2), (9, I y10)] [0, 1] [(Qhe y11), Qkg] hφ0 (pc (.rn (Qak rfl)) (pc rwl (pc rwl (pc (.rn (Qas rn0 (rnc (rqr rfl) rn0))) (pc rwl (pc rwl pn)))))) (qc (spr Qai) (qc (spb (lc (.rn (Qas rn0 rn0)) ln)) qn)))⟩
      ·replace h := Qau hc37 h
       refine wfn hc37 (by kernel_rfl) ?_
       refine Qbr ?_
       refine Qay ?_
       refine Qay ?_
       refine Qbq rfl ?_
       refine bln ?_
       refine thn ?_
       exact ⟨(y11), h, (mto (n := 53) [(0, (.own 0 3 (0) (p0))), (1, I p1), (2, I p2), (3, Qnr), (8, I y2)] [0, 1] [(Qhe y11), Qkg] hφ0 (pc (.rn (Qak rfl)) (pc rwl (pc rwl (pc (.rn (Qas rn0 (rnc (rqr rfl) rn0))) (pc rwl pn))))) (qc (spr Qai) (qc (spb (lc (.rn (Qas rn0 rn0)) ln)) qn)))⟩
     ·replace h := Qau hb28 h
      refine wxd tbk [(3, rp [(.tmp 20, (B ((decide (y10 > p1)))))] (B false))] ⟨asb hb28 (amv rfl), trivial⟩ ?_
      refine Qfa (by kernel_rfl) ?_
      refine Qbr ?_
      refine Qay ?_
      refine Qay ?_
      refine Qbq rfl ?_
      refine bln ?_
      refine thn ?_
      exact ⟨(y11), h, (mto (n := 53) [(0, (.own 0 3 (0) (p0))), (1, I p1), (2, I p2), (3, Qnr), (8, I y2)] [0, 1] [(Qhe y11), Qkg] hφ0 (pc (.rn (Qak rfl)) (pc rwl (pc rwl (pc (.rn (Qas rn0 (rnc (rqr rfl) rn0))) (pc rwl pn))))) (qc (spr Qai) (qc (spb (lc (.rn (Qas rn0 rn0)) ln)) qn)))⟩
  ·replace h := Qau hc7 h
   refine wfn hc7 (by kernel_rfl) ?_
   refine Qbr ?_
   refine Qay ?_
   refine Qay ?_
   refine Qbq rfl ?_
   obtain rfl := osi h
   exact ⟨_, (mto (n := 53) (l' := []) (own' := [(Qup y3), Qkg]) [] [0, 1] [(Qup y3), Qkg] hφ0 pn (qc (spr Qai) (qc (spb (lc (.rn (Qas rn0 rn0)) ln)) qn))), Qb7 (vs := []) trivial rfl (NLt.tup _ nl0) (by kernel_rfl) (Qaf (Qhw Qai _) (Qaf (Qav (nlc (NLt.of0 (NLt.fn _ _ _ nl0 nl0)) nl0)) Qbd))⟩
def Qbu (N : Nat) (p0 : Nat) (p1 : Int) (p2 : Int) (p3 : Int) : Nat → Int → (List GPiece) → Option (List GPiece)
  | 0, _, _ => none
  | n6 + 1, y2, y3 =>
    bif (decide (y2 < p3)) then
     chk (decide (0 ≤ w64 (p2 + y2)) && decide ((w64 (p2 + y2)).toNat < p0)) <|
     (y3[(w64 (p2 + y2)).toNat]?).bind fun x9 =>
     chk (decide (0 ≤ w64 (p1 + y2)) && decide ((w64 (p1 + y2)).toNat < p0)) <|
     (y3[(w64 (p1 + y2)).toNat]?).bind fun x12 =>
     chk (decide (0 ≤ w64 (p1 + y2)) && decide ((w64 (p1 + y2)).toNat < p0)) <|
     (y3[(w64 (p1 + y2)).toNat]?).bind fun _ =>
     chk (decide (0 ≤ w64 (p2 + y2)) && decide ((w64 (p2 + y2)).toNat < p0)) <|
     ((y3.set ((w64 (p1 + y2)).toNat) (⟨x9.unit, (⟨x9.Part.Width, x9.Part.Gain⟩ : GPart)⟩ : GPiece))[(w64 (p2 + y2)).toNat]?).bind fun _ =>
     Qbu N p0 p1 p2 p3 n6 (w64 (y2 + 1)) ((y3.set ((w64 (p1 + y2)).toNat) (⟨x9.unit, (⟨x9.Part.Width, x9.Part.Gain⟩ : GPart)⟩ : GPiece)).set ((w64 (p2 + y2)).toNat) (⟨x12.unit, (⟨x12.Part.Width, x12.Part.Gain⟩ : GPart)⟩ : GPiece))
    else
     some y3
def Qb8 (N : Nat) (p0 : Nat) (p1 : Int) (p2 : Int) (p3 : Int) (p4 : (List GPiece)) : Option (List GPiece) :=
  Qbu N p0 p1 p2 p3 N 0 p4
def Q9x (p4 : (List GPiece)) : Slot := .own 3 ((p4 : List GPiece).map Qap)
def Qpl : Slot := .own 1 [[(.fn (.func 89) [] [])]]
def Qn6 (y3 : (List GPiece)) : Slot := .own 3 ((y3 : List GPiece).map Qap)
def Q70 (x9 : GPiece) : AV := .agg [(I (x9.unit)), (I (x9.Part.Width)), (I (x9.Part.Gain))]
def Q7z (x12 : GPiece) : AV := .agg [(I (x12.unit)), (I (x12.Part.Width)), (I (x12.Part.Gain))]
def Q14 (y3 : (List GPiece)) (p1 : Int) (y2 : Int) (x9 : GPiece) : Slot := .own 3 ((y3.set ((w64 (p1 + y2)).toNat) (⟨x9.unit, (⟨x9.Part.Width, x9.Part.Gain⟩ : GPart)⟩ : GPiece) : List GPiece).map Qap)
def Q7y (y3 : (List GPiece)) (p1 : Int) (y2 : Int) (x9 : GPiece) (p2 : Int) (x12 : GPiece) : Slot := .own 3 (((y3.set ((w64 (p1 + y2)).toNat) (⟨x9.unit, (⟨x9.Part.Width, x9.Part.Gain⟩ : GPart)⟩ : GPiece)).set ((w64 (p2 + y2)).toNat) (⟨x12.unit, (⟨x12.Part.Width, x12.Part.Gain⟩ : GPart)⟩ : GPiece) : List GPiece).map Qap)
theorem Qc7 (N : Nat) (p0 : Nat) (p1 : Int) (p2 : Int) (p3 : Int) (p4 : (List GPiece)) (r : (List GPiece)) (h : Qb8 N p0 p1 p2 p3 p4 = some r) : Spec Tryz.prog 123 [(.own 0 3 (0) (p0)), (I (p1)), (I (p2)), (I (p3)), (.fn (.func 110) [] [(.ref 1 1 (0) 0)])] [(Q9x p4), Qpl] (.tup []) [(.own 3 ((r : List GPiece).map Qap)), Qpl] := by
  refine Qac Tryz.func123 rfl 2 (nle rfl) (fun X φ0 w0 hφ0 hd0 => ?_)
  unfold Qb8 at h
  refine Qbh ?_
  refine wx tbk [] trivial ?_
  refine Qaj ?_
  refine wmr (mto (n := 38) (l' := [(0, (.own 0 3 (0) (p0))), (1, I p1), (2, I p2), (3, I p3), (10, I 0)]) (own' := [(Q9x p4), Qpl]) [(0, (.own 0 3 (0) (p0))), (1, I p1), (2, I p2), (3, I p3), (10, I 0)] [0, 1] [(Q9x p4), Qpl] hφ0 (pc (.rn (Qak rfl)) (pc rwl (pc rwl (pc rwl (pc rwl pn))))) (qc (spr Qai) (qc (spb (lc (.rn (Qas rn0 rn0)) ln)) qn))) ?_
  refine Qcl (τ := Int × (List GPiece)) (fun n t => Qbu N p0 p1 p2 p3 n t.1 t.2 = some r) (fun ⟨y2, y3⟩ => ⟨mk 38 [(0, (.own 0 3 (0) (p0))), (1, I p1), (2, I p2), (3, I p3), (10, I y2)], [(Qn6 y3), Qpl]⟩) (fun t h => by rw [Qbu] at h; cases h) (fun n6 ih t h => ?_) N (0, p4) h
  obtain ⟨y2, y3⟩ := t
  rw [Qbu] at h
  skip
  refine wsq ?_
  refine wx tbk [] trivial ?_
  rcases bft ((decide (y2 < p3))) with hc7 | hc7
  ·replace h := Qat hc7 h
   refine wft hc7 (by kernel_rfl) ?_
   refine Qam ?_
   refine thn ?_
   refine wsq ?_
   refine Qaj ?_
   obtain ⟨hi8, h⟩ := cko h
   obtain ⟨hi8a, hi8b⟩ := Qbi hi8
   obtain ⟨x9, hg10, h⟩ := bno h
   obtain ⟨hi11, h⟩ := cko h
   obtain ⟨hi11a, hi11b⟩ := Qbi hi11
   obtain ⟨x12, hg13, h⟩ := bno h
   obtain ⟨hi14, h⟩ := cko h
   obtain ⟨hi14a, hi14b⟩ := Qbi hi14
   obtain ⟨x15, hg16, h⟩ := bno h
   obtain ⟨hi17, h⟩ := cko h
   obtain ⟨hi17a, hi17b⟩ := Qbi hi17
   obtain ⟨x18, hg19, h⟩ := bno h
   refine wy1 tbk [(12, rb [(.tmp 24, (.own 0 3 (0) (p0))), (.tmp 27, (I (w64 (p2 + y2))))] [(0, (Qn6 y3))] (.ref 0 3 ((w64 (p2 + y2)).toNat) 0)), (13, rb [(.tmp 28, (.ref 0 3 ((w64 (p2 + y2)).toNat) 0))] [(0, (Qn6 y3))] (Q70 x9)), (18, rb [(.tmp 30, (.own 0 3 (0) (p0))), (.tmp 33, (I (w64 (p1 + y2))))] [(0, (Qn6 y3))] (.ref 0 3 ((w64 (p1 + y2)).toNat) 0)), (19, rb [(.tmp 34, (.ref 0 3 ((w64 (p1 + y2)).toNat) 0))] [(0, (Qn6 y3))] (Q7z x12)), (20, rb [(.tmp 16, (.own 0 3 (0) (p0))), (.tmp 19, (I (w64 (p1 + y2))))] [(0, (Qn6 y3))] (.ref 0 3 ((w64 (p1 + y2)).toNat) 0)), (21, ⟨[(.tmp 36, (.ref 0 3 ((w64 (p1 + y2)).toNat) 0)), (.tmp 29, (Q70 x9))], [(0, (Qn6 y3))], .any, [(0, (Q14 y3 p1 y2 x9))], false⟩), (22, rb [(.tmp 20, (.own 0 3 (0) (p0))), (.tmp 23, (I (w64 (p2 + y2))))] [(0, (Q14 y3 p1 y2 x9))] (.ref 0 3 ((w64 (p2 + y2)).toNat) 0)), (23, ⟨[(.tmp 37, (.ref 0 3 ((w64 (p2 + y2)).toNat) 0)), (.tmp 35, (Q7z x12))], [(0, (Q14 y3 p1 y2 x9))], .any, [(0, (Q7y y3 p1 y2 x9 p2 x12))], false⟩)] ⟨aio rfl Tryz.underlying162 Qes (odt hi8a) (odt hi8b) (Nat.zero_add _), ald rfl Qes (by decide) (mgt Qap hg10) (nle rfl) rfl, aio rfl Tryz.underlying162 Qes (odt hi11a) (odt hi11b) (Nat.zero_add _), ald rfl Qes (by decide) (mgt Qap hg13) (nle rfl) rfl, aio rfl Tryz.underlying162 Qes (odt hi14a) (odt hi14b) (Nat.zero_add _), ast rfl Qes (by rfl) (mgt Qap hg16) (nle rfl) (Qhf Qap rfl), aio rfl Tryz.underlying162 Qes (odt hi17a) (odt hi17b) (Nat.zero_add _), ast rfl Qes (by rfl) (mgt Qap hg19) (nle rfl) (Qhf Qap rfl), trivial⟩ ?_
   refine bln ?_
   refine thn ?_
   refine wx1 tbk [] trivial ?_
   refine thn ?_
   exact arm (mto (n := 38) [(0, (.own 0 3 (0) (p0))), (1, I p1), (2, I p2), (3, I p3), (10, (I (w64 (y2 + 1))))] [0, 1] [(Q7y y3 p1 y2 x9 p2 x12), Qpl] hφ0 (pc (.rn (Qak rfl)) (pc rwl (pc rwl (pc rwl (pc rwl pn))))) (qc (spr Qai) (qc (spb (lc (.rn (Qas rn0 rn0)) ln)) qn))) (ih (w64 (y2 + 1), (y3.set ((w64 (p1 + y2)).toNat) (⟨x9.unit, (⟨x9.Part.Width, x9.Part.Gain⟩ : GPart)⟩ : GPiece)).set ((w64 (p2 + y2)).toNat) (⟨x12.unit, (⟨x12.Part.Width, x12.Part.Gain⟩ : GPart)⟩ : GPiece)) h)
  ·replace h := Qau hc7 h
   refine wfn hc7 (by kernel_rfl) ?_
   refine Qbr ?_
   refine Qay ?_
   refine Qay ?_
   refine Qbq rfl ?_
   obtain rfl := osi h
   exact ⟨_, (mto (n := 38) (l' := []) (own' := [(Qn6 y3), Qpl]) [] [0, 1] [(Qn6 y3), Qpl] hφ0 pn (qc (spr Qai) (qc (spb (lc (.rn (Qas rn0 rn0)) ln)) qn))), Qb7 (vs := []) trivial rfl (NLt.tup _ nl0) (by kernel_rfl) (Qaf (Qhw Qai _) (Qaf (Qav (nlc (NLt.of0 (NLt.fn _ _ _ nl0 nl0)) nl0)) Qbd))⟩
def Qbn (N : Nat) (p0 : Nat) (p2 : Int) (k4 : Int × (List GPiece) → Option (List GPiece)) : Nat → Int → Int → (List GPiece) → Option (List GPiece)
  | 0, _, _, _ => none
  | n13 + 1, y7, y8, y9 =>
    bif (y7 != y8) then
     bif (decide (y7 > y8)) then
      (Qb8 N p0 (w64 (p2 - y7)) p2 y8 y9).bind fun x17 =>
      Qbn N p0 p2 k4 n13 (w64 (y7 - y8)) y8 x17
     else
      (Qb8 N p0 (w64 (p2 - y7)) (w64 ((w64 (p2 + y8)) - y7)) y7 y9).bind fun x19 =>
      Qbn N p0 p2 k4 n13 y7 (w64 (y8 - y7)) x19
    else
     k4 (y7, y9)
def Qdw (N : Nat) (p0 : Nat) (p1 : Int) (p2 : Int) (p3 : Int) (p4 : (List GPiece)) : Option (List GPiece) :=
  Qc5 (fun ⟨y2, y3⟩ =>
    (Qb8 N p0 (w64 (p2 - y2)) p2 y2 y3).bind fun x6 =>
    some x6) fun k4 : Int × (List GPiece) → Option (List GPiece) =>
  Qbn N p0 p2 k4 N (w64 (p2 - p1)) (w64 (p3 - p2)) p4
def Qn7 : AV := .fn (.func 110) [] [(.ref 1 1 (0) 0)]
def Q9z (p4 : (List GPiece)) : Slot := .own 3 ((p4 : List GPiece).map Qap)
def Qjy : Slot := .own 1 [[(.fn (.func 89) [] [])]]
def Q9y (y3 : (List GPiece)) : Slot := .own 3 ((y3 : List GPiece).map Qap)
def Qyi (x6 : (List GPiece)) : Slot := .own 3 ((x6 : List GPiece).map Qap)
def Qrx (y9 : (List GPiece)) : Slot := .own 3 ((y9 : List GPiece).map Qap)
def Q16 (x17 : (List GPiece)) : Slot := .own 3 ((x17 : List GPiece).map Qap)
def Q15 (x19 : (List GPiece)) : Slot := .own 3 ((x19 : List GPiece).map Qap)
theorem Qgz (N : Nat) (p0 : Nat) (p1 : Int) (p2 : Int) (p3 : Int) (p4 : (List GPiece)) (r : (List GPiece)) (h : Qdw N p0 p1 p2 p3 p4 = some r) : Spec Tryz.prog 122 [(.own 0 3 (0) (p0)), (I (p1)), (I (p2)), (I (p3)), Qn7] [(Q9z p4), Qjy] (.tup []) [(.own 3 ((r : List GPiece).map Qap)), Qjy] := by
  refine Qac Tryz.func122 rfl 2 (nle rfl) (fun X φ0 w0 hφ0 hd0 => ?_)
  unfold Qdw at h
  refine Qbh ?_
  refine wx tbk [] trivial ?_
  refine wx tbk [] trivial ?_
  obtain ⟨k4, hk_k4, h⟩ := jko h
  refine wjn (τ := Int × (List GPiece)) (fun t => k4 t = some r) (fun ⟨y2, y3⟩ => ⟨mk 58 [(0, (.own 0 3 (0) (p0))), (2, I p2), (4, Qn7), (10, I y2)], [(Q9y y3), Qjy]⟩) (fun t h => ?_) ?_
  ·subst hk_k4
   obtain ⟨y2, y3⟩ := t
   obtain ⟨x6, hf5, h⟩ := bno h
   refine wx1 tbk [(7, ⟨[fu 123, (.tmp 50, (.own 0 3 (0) (p0))), (.tmp 53, (I (w64 (p2 - y2)))), (.tmp 54, I p2), (.tmp 55, I y2), (.tmp 56, Qn7)], [(0, (Q9y y3)), (1, Qjy)], (.tup []), [(0, (Qyi x6)), (1, Qjy)], false⟩)] ⟨Qah (first := []) (cap := []) (vs := [(.own 0 3 (0) (p0)), (I (w64 (p2 - y2))), I p2, I y2, Qn7]) (σr := [(Q9y y3), Qjy]) (σr' := [(Qyi x6), Qjy]) (res' := (.tup [])) [0, 1] rfl Qtt (Qc7 N p0 (w64 (p2 - y2)) p2 y2 y3 _ hf5) rfl (Qbc (rnc (Qfy rfl) (rnc (.plain _ nll) (rnc (.plain _ nll) (rnc (.plain _ nll) (rnc (Qas rn0 (rnc (Qa2 rfl) rn0)) rn0)))))) (slc (Qd7 Qai) (slc (Qae (rnc (.plain _ (NLt.fn _ _ _ nl0 nl0)) rn0)) Qag)) (slc (Qd7 Qai) (slc (Qae (rnc (.plain _ (NLt.fn _ _ _ nl0 nl0)) rn0)) Qag)) (.plain _ (NLt.tup _ nl0)) rfl rfl rfl, trivial⟩ ?_
   obtain rfl := osi h
   exact ⟨_, (mto (n := 58) (l' := []) (own' := [(Qyi x6), Qjy]) [] [0, 1] [(Qyi x6), Qjy] hφ0 pn (qc (spr Qai) (qc (spb (lc (.rn (Qas rn0 rn0)) ln)) qn))), Qb7 (vs := []) trivial rfl (NLt.tup _ nl0) (by kernel_rfl) (Qaf (Qhw Qai _) (Qaf (Qav (nlc (NLt.of0 (NLt.fn _ _ _ nl0 nl0)) nl0)) Qbd))⟩
  ·skip
   refine Qaj ?_
   refine wmr (mto (n := 58) (l' := [(0, (.own 0 3 (0) (p0))), (2, I p2), (4, Qn7), (10, (I ((w64 (p2 - p1))))), (11, (I ((w64 (p3 - p2)))))]) (own' := [(Q9z p4), Qjy]) [(0, (.own 0 3 (0) (p0))), (2, I p2), (4, Qn7), (10, (I (w64 (p2 - p1)))), (11, (I (w64 (p3 - p2))))] [0, 1] [(Q9z p4), Qjy] hφ0 (pc (.rn (Qak rfl)) (pc rwl (pc (.rn (Qas rn0 (rnc (rqr rfl) rn0))) (pc rwl (pc rwl pn))))) (qc (spr Qai) (qc (spb (lc (.rn (Qas rn0 rn0)) ln)) qn))) ?_
   refine Qcl (τ := Int × Int × (List GPiece)) (fun n t => Qbn N p0 p2 k4 n t.1 t.2.1 t.2.2 = some r) (fun ⟨y7, y8, y9⟩ => ⟨mk 58 [(0, (.own 0 3 (0) (p0))), (2, I p2), (4, Qn7), (10, I y7), (11, I y8)], [(Qrx y9), Qjy]⟩) (fun t h => by rw [Qbn] at h; cases h) (fun n13 ih t h => ?_) N (w64 (p2 - p1), w64 (p3 - p2), p4) h
   obtain ⟨y7, y8, y9⟩ := t
   rw [Qbn] at h
   skip
   refine wsq ?_
   refine wx tbk [] trivial ?_
   rcases bft ((y7 != y8)) with hc14 | hc14
   ·replace h := Qat hc14 h
    refine wft hc14 (by kernel_rfl) ?_
    refine Qam ?_
    refine thn ?_
    refine Qaj ?_
    refine wx tbk [] trivial ?_
    rcases bft ((decide (y7 > y8))) with hc15 | hc15
    ·replace h := Qat hc15 h
     refine wft hc15 (by kernel_rfl) ?_
     obtain ⟨x17, hf16, h⟩ := bno h
     refine wx tbk [(7, ⟨[fu 123, (.tmp 24, (.own 0 3 (0) (p0))), (.tmp 27, (I (w64 (p2 - y7)))), (.tmp 28, I p2), (.tmp 29, I y8), (.tmp 30, Qn7)], [(0, (Qrx y9)), (1, Qjy)], (.tup []), [(0, (Q16 x17)), (1, Qjy)], false⟩)] ⟨Qah (first := []) (cap := []) (vs := [(.own 0 3 (0) (p0)), (I (w64 (p2 - y7))), I p2, I y8, Qn7]) (σr := [(Qrx y9), Qjy]) (σr' := [(Q16 x17), Qjy]) (res' := (.tup [])) [0, 1] rfl Qtt (Qc7 N p0 (w64 (p2 - y7)) p2 y8 y9 _ hf16) rfl (Qbc (rnc (Qfy rfl) (rnc (.plain _ nll) (rnc (.plain _ nll) (rnc (.plain _ nll) (rnc (Qas rn0 (rnc (Qa2 rfl) rn0)) rn0)))))) (slc (Qd7 Qai) (slc (Qae (rnc (.plain _ (NLt.fn _ _ _ nl0 nl0)) rn0)) Qag)) (slc (Qd7 Qai) (slc (Qae (rnc (.plain _ (NLt.fn _ _ _ nl0 nl0)) rn0)) Qag)) (.plain _ (NLt.tup _ nl0)) rfl rfl rfl, trivial⟩ ?_
     refine wx1 tbk [] trivial ?_
     refine bln ?_
     refine thn ?_
     exact arm (mto (n := 58) [(0, (.own 0 3 (0) (p0))), (2, I p2), (4, Qn7), (10, (I (w64 (y7 - y8)))), (11, I y8)] [0, 1] [(Q16 x17), Qjy] hφ0 (pc (.rn (Qak rfl)) (pc rwl (pc (.rn (Qas rn0 (rnc (rqr rfl) rn0))) (pc rwl (pc rwl pn))))) (qc (spr Qai) (qc (spb (lc (.rn (Qas rn0 rn0)) ln)) qn))) (ih (w64 (y7 - y8), y8, x17) h)
    ·replace h := Qau hc15 h
     refine wfn hc15 (by kernel_rfl) ?_
     obtain ⟨x19, hf18, h⟩ := bno h
     refine wx tbk [(11, ⟨[fu 123, (.tmp 35, (.own 0 3 (0) (p0))), (.tmp 38, (I (w64 (p2 - y7)))), (.tmp 43, (I (w64 ((w64 (p2 + y8)) - y7)))), (.tmp 44, I y7), (.tmp 45, Qn7)], [(0, (Qrx y9)), (1, Qjy)], (.tup []), [(0, (Q15 x19)), (1, Qjy)], false⟩)] ⟨Qah (first := []) (cap := []) (vs := [(.own 0 3 (0) (p0)), (I (w64 (p2 - y7))), (I (w64 ((w64 (p2 + y8)) - y7))), I y7, Qn7]) (σr := [(Qrx y9), Qjy]) (σr' := [(Q15 x19), Qjy]) (res' := (.tup [])) [0, 1] rfl Qtt (Qc7 N p0 (w64 (p2 - y7)) (w64 ((w64 (p2 + y8)) - y7)) y7 y9 _ hf18) rfl (Qbc (rnc (Qfy rfl) (rnc (.plain _ nll) (rnc (.plain _ nll) (rnc (.plain _ nll) (rnc (Qas rn0 (rnc (Qa2 rfl) rn0)) rn0)))))) (slc (Qd7 Qai) (slc (Qae (rnc (.plain _ (NLt.fn _ _ _ nl0 nl0)) rn0)) Qag)) (slc (Qd7 Qai) (slc (Qae (rnc (.plain _ (NLt.fn _ _ _ nl0 nl0)) rn0)) Qag)) (.plain _ (NLt.tup _ nl0)) rfl rfl rfl, trivial⟩ ?_
     refine wx1 tbk [] trivial ?_
     refine bln ?_
     refine thn ?_
     exact arm (mto (n := 58) [(0, (.own 0 3 (0) (p0))), (2, I p2), (4, Qn7), (10, I y7), (11, (I (w64 (y8 - y7))))] [0, 1] [(Q15 x19), Qjy] hφ0 (pc (.rn (Qak rfl)) (pc rwl (pc (.rn (Qas rn0 (rnc (rqr rfl) rn0))) (pc rwl (pc rwl pn))))) (qc (spr Qai) (qc (spb (lc (.rn (Qas rn0 rn0)) ln)) qn))) (ih (y7, w64 (y8 - y7), x19) h)
   ·replace h := Qau hc14 h
    refine wfn hc14 (by kernel_rfl) ?_
    refine Qbr ?_
    refine Qay ?_
    refine Qay ?_
    refine Qbq rfl ?_
    refine thn ?_
    exact ⟨(y7, y9), h, (mto (n := 58) [(0, (.own 0 3 (0) (p0))), (2, I p2), (4, Qn7), (10, I y7)] [0, 1] [(Qrx y9), Qjy] hφ0 (pc (.rn (Qak rfl)) (pc rwl (pc (.rn (Qas rn0 (rnc (rqr rfl) rn0))) (pc rwl pn)))) (qc (spr Qai) (qc (spb (lc (.rn (Qas rn0 rn0)) ln)) qn)))⟩
def Qbg (N : Nat) (p0 : Nat) (p4 : (List GPiece)) (x10 : Int) (k13 : Int → Option (List GPiece)) : Nat → Int → Int → Option (List GPiece)
  | 0, _, _ => none
  | n36 + 1, y32, y33 =>
    bif (decide (y32 < y33)) then
     (some (w64 ((IntKind.wrap .u64 (w64 (y32 + y33))) / 2))).bind fun x38 =>
     chk (decide (0 ≤ w64 (x10 - x38)) && decide ((w64 (x10 - x38)).toNat < p0)) <|
     (p4[(w64 (x10 - x38)).toNat]?).bind fun x41 =>
     chk (decide (0 ≤ x38) && decide (x38.toNat < p0)) <|
     (p4[x38.toNat]?).bind fun x44 =>
     (Qco N (⟨x41.unit, (⟨x41.Part.Width, x41.Part.Gain⟩ : GPart)⟩ : GPiece) (⟨x44.unit, (⟨x44.Part.Width, x44.Part.Gain⟩ : GPart)⟩ : GPiece)).bind fun x47 =>
     bif (!(decide (x47 < 0))) then
      Qbg N p0 p4 x10 k13 n36 (w64 (x38 + 1)) y33
     else
      Qbg N p0 p4 x10 k13 n36 y32 x38
    else
     k13 (y32)
def Qby (N : Nat) (p0 : Nat) (y53 : Int) (k56 : (List GPiece) → Option (List GPiece)) : Nat → Int → (List GPiece) → Option (List GPiece)
  | 0, _, _ => none
  | n61 + 1, y57, y58 =>
    bif (decide (y57 > y53)) then
     chk (decide (0 ≤ w64 (y57 - 1)) && decide ((w64 (y57 - 1)).toNat < p0)) <|
     (y58[(w64 (y57 - 1)).toNat]?).bind fun x64 =>
     chk (decide (0 ≤ y57) && decide (y57.toNat < p0)) <|
     (y58[y57.toNat]?).bind fun x67 =>
     chk (decide (0 ≤ y57) && decide (y57.toNat < p0)) <|
     (y58[y57.toNat]?).bind fun _ =>
     chk (decide (0 ≤ w64 (y57 - 1)) && decide ((w64 (y57 - 1)).toNat < p0)) <|
     ((y58.set y57.toNat (⟨x64.unit, (⟨x64.Part.Width, x64.Part.Gain⟩ : GPart)⟩ : GPiece))[(w64 (y57 - 1)).toNat]?).bind fun _ =>
     Qby N p0 y53 k56 n61 (w64 (y57 - 1)) ((y58.set y57.toNat (⟨x64.unit, (⟨x64.Part.Width, x64.Part.Gain⟩ : GPart)⟩ : GPiece)).set ((w64 (y57 - 1)).toNat) (⟨x67.unit, (⟨x67.Part.Width, x67.Part.Gain⟩ : GPart)⟩ : GPiece))
    else
     k56 (y58)
def Qbf (N : Nat) (p0 : Nat) (p2 : Int) (p4 : (List GPiece)) (k54 : Int → Option (List GPiece)) : Nat → Int → Int → Option (List GPiece)
  | 0, _, _ => none
  | n79 + 1, y75, y76 =>
    bif (decide (y75 < y76)) then
     (some (w64 ((IntKind.wrap .u64 (w64 (y75 + y76))) / 2))).bind fun x81 =>
     chk (decide (0 ≤ p2) && decide (p2.toNat < p0)) <|
     (p4[p2.toNat]?).bind fun x84 =>
     chk (decide (0 ≤ x81) && decide (x81.toNat < p0)) <|
     (p4[x81.toNat]?).bind fun x87 =>
     (Qco N (⟨x84.unit, (⟨x84.Part.Width, x84.Part.Gain⟩ : GPart)⟩ : GPiece) (⟨x87.unit, (⟨x87.Part.Width, x87.Part.Gain⟩ : GPart)⟩ : GPiece)).bind fun x90 =>
     bif (!(decide (x90 < 0))) then
      Qbf N p0 p2 p4 k54 n79 (w64 (x81 + 1)) y76
     else
      Qbf N p0 p2 p4 k54 n79 y75 x81
    else
     k54 (y75)
def Qbx (N : Nat) (p0 : Nat) (y93 : Int) (k96 : (List GPiece) → Option (List GPiece)) : Nat → Int → (List GPiece) → Option (List GPiece)
  | 0, _, _ => none
  | n101 + 1, y97, y98 =>
    bif (decide (y97 < (w64 (y93 - 1)))) then
     chk (decide (0 ≤ w64 (y97 + 1)) && decide ((w64 (y97 + 1)).toNat < p0)) <|
     (y98[(w64 (y97 + 1)).toNat]?).bind fun x104 =>
     chk (decide (0 ≤ y97) && decide (y97.toNat < p0)) <|
     (y98[y97.toNat]?).bind fun x107 =>
     chk (decide (0 ≤ y97) && decide (y97.toNat < p0)) <|
     (y98[y97.toNat]?).bind fun _ =>
     chk (decide (0 ≤ w64 (y97 + 1)) && decide ((w64 (y97 + 1)).toNat < p0)) <|
     ((y98.set y97.toNat (⟨x104.unit, (⟨x104.Part.Width, x104.Part.Gain⟩ : GPart)⟩ : GPiece))[(w64 (y97 + 1)).toNat]?).bind fun _ =>
     Qbx N p0 y93 k96 n101 (w64 (y97 + 1)) ((y98.set y97.toNat (⟨x104.unit, (⟨x104.Part.Width, x104.Part.Gain⟩ : GPart)⟩ : GPiece)).set ((w64 (y97 + 1)).toNat) (⟨x107.unit, (⟨x107.Part.Width, x107.Part.Gain⟩ : GPart)⟩ : GPiece))
    else
     k96 (y98)
def Qbe (N : Nat) (p0 : Nat) (p1 : Int) (p4 : (List GPiece)) (k94 : Int → Option (List GPiece)) : Nat → Int → Int → Option (List GPiece)
  | 0, _, _ => none
  | n119 + 1, y115, y116 =>
    bif (decide (y115 < y116)) then
     (some (w64 ((IntKind.wrap .u64 (w64 (y115 + y116))) / 2))).bind fun x121 =>
     chk (decide (0 ≤ x121) && decide (x121.toNat < p0)) <|
     (p4[x121.toNat]?).bind fun x124 =>
     chk (decide (0 ≤ p1) && decide (p1.toNat < p0)) <|
     (p4[p1.toNat]?).bind fun x127 =>
     (Qco N (⟨x124.unit, (⟨x124.Part.Width, x124.Part.Gain⟩ : GPart)⟩ : GPiece) (⟨x127.unit, (⟨x127.Part.Width, x127.Part.Gain⟩ : GPart)⟩ : GPiece)).bind fun x130 =>
     bif (decide (x130 < 0)) then
      Qbe N p0 p1 p4 k94 n119 (w64 (x121 + 1)) y116
     else
      Qbe N p0 p1 p4 k94 n119 y115 x121
    else
     k94 (y115)
def Qc6 (N : Nat) (rec_ : Nat → Int → Int → Int → (List GPiece) → Option (List GPiece)) (p0 : Nat) (p1 : Int) (p2 : Int) (p3 : Int) (p4 : (List GPiece)) : Option (List GPiece) :=
  Qc5 (fun _ =>
    Qc5 (fun _ =>
      (some (w64 ((IntKind.wrap .u64 (w64 (p1 + p3))) / 2))).bind fun x5 =>
      Qc5 (fun ⟨y7, y8⟩ =>
        (some (w64 ((w64 (x5 + p2)) - 1))).bind fun x10 =>
        Qc5 (fun y12 =>
          (some (w64 ((w64 (x5 + p2)) - y12))).bind fun x14 =>
          Qc5 (fun y16 =>
            Qc5 (fun y18 =>
              bif (decide (x5 < x14)) then
               bif (decide (x14 < p3)) then
                (rec_ p0 x5 x14 p3 y18).bind fun x23 =>
                some x23
               else
                some y18
              else
               some y18) fun k19 : (List GPiece) → Option (List GPiece) =>
            bif (decide (p1 < y12)) then
             bif (decide (y12 < x5)) then
              (rec_ p0 p1 y12 x5 y16).bind fun x27 =>
              k19 (x27)
             else
              k19 (y16)
            else
             k19 (y16)) fun k17 : (List GPiece) → Option (List GPiece) =>
          bif (decide (y12 < p2)) then
           bif (decide (p2 < x14)) then
            (Qdw N p0 y12 p2 x14 p4).bind fun x31 =>
            k17 (x31)
           else
            k17 (p4)
          else
           k17 (p4)) fun k13 : Int → Option (List GPiece) =>
        Qbg N p0 p4 x10 k13 N y7 y8) fun k9 : Int × Int → Option (List GPiece) =>
      bif (decide (p2 > x5)) then
       (some (w64 ((w64 (x5 + p2)) - p3))).bind fun x50 =>
       k9 (x50, x5)
      else
       k9 (p1, p2)) fun k4 : Unit → Option (List GPiece) =>
    bif ((w64 (p3 - p2)) == 1) then
     Qc5 (fun y53 =>
       Qc5 (fun y55 =>
         some y55) fun k56 : (List GPiece) → Option (List GPiece) =>
       Qby N p0 y53 k56 N p2 p4) fun k54 : Int → Option (List GPiece) =>
     Qbf N p0 p2 p4 k54 N p1 p2
    else
     k4 ()) fun k3 : Unit → Option (List GPiece) =>
  bif ((w64 (p2 - p1)) == 1) then
   Qc5 (fun y93 =>
     Qc5 (fun y95 =>
       some y95) fun k96 : (List GPiece) → Option (List GPiece) =>
     Qbx N p0 y93 k96 N p1 p4) fun k94 : Int → Option (List GPiece) =>
   Qbe N p0 p1 p4 k94 N p2 p3
  else
   k3 ()
def Qcd : Nat → Nat → Int → Int → Int → (List GPiece) → Option (List GPiece)
  | 0, _, _, _, _, _ => none
  | N + 1, p0, p1, p2, p3, p4 => Qc6 N (Qcd N) p0 p1 p2 p3 p4
def Qfs : AV := .fn (.func 110) [] [(.ref 1 1 (0) 0)]
def Qez (p4 : (List GPiece)) : Slot := .own 3 ((p4 : List GPiece).map Qap)
def Qcw : Slot := .own 1 [[(.fn (.func 89) [] [])]]
def Qqf (y16 : (List GPiece)) : Slot := .own 3 ((y16 : List GPiece).map Qap)
def Qnq (y18 : (List GPiece)) : Slot := .own 3 ((y18 : List GPiece).map Qap)
def Qs2 (x23 : (List GPiece)) : Slot := .own 3 ((x23 : List GPiece).map Qap)
def Qw0 (x27 : (List GPiece)) : Slot := .own 3 ((x27 : List GPiece).map Qap)
def Qwz (x31 : (List GPiece)) : Slot := .own 3 ((x31 : List GPiece).map Qap)
def Q2g (x41 : GPiece) : AV := .agg [(I (x41.unit)), (I (x41.Part.Width)), (I (x41.Part.Gain))]
def Q2f (x44 : GPiece) : AV := .agg [(I (x44.unit)), (I (x44.Part.Width)), (I (x44.Part.Gain))]
def Qw2 (y55 : (List GPiece)) : Slot := .own 3 ((y55 : List GPiece).map Qap)
def Qlv (y58 : (List GPiece)) : Slot := .own 3 ((y58 : List GPiece).map Qap)
def Q2i (x64 : GPiece) : AV := .agg [(I (x64.unit)), (I (x64.Part.Width)), (I (x64.Part.Gain))]
def Q2e (x67 : GPiece) : AV := .agg [(I (x67.unit)), (I (x67.Part.Width)), (I (x67.Part.Gain))]
def Qwy (y58 : (List GPiece)) (y57 : Int) (x64 : GPiece) : Slot := .own 3 ((y58.set y57.toNat (⟨x64.unit, (⟨x64.Part.Width, x64.Part.Gain⟩ : GPart)⟩ : GPiece) : List GPiece).map Qap)
def Q2d (y58 : (List GPiece)) (y57 : Int) (x64 : GPiece) (x67 : GPiece) : Slot := .own 3 (((y58.set y57.toNat (⟨x64.unit, (⟨x64.Part.Width, x64.Part.Gain⟩ : GPart)⟩ : GPiece)).set ((w64 (y57 - 1)).toNat) (⟨x67.unit, (⟨x67.Part.Width, x67.Part.Gain⟩ : GPart)⟩ : GPiece) : List GPiece).map Qap)
def Q2c (x84 : GPiece) : AV := .agg [(I (x84.unit)), (I (x84.Part.Width)), (I (x84.Part.Gain))]
def Q2b (x87 : GPiece) : AV := .agg [(I (x87.unit)), (I (x87.Part.Width)), (I (x87.Part.Gain))]
def Qw1 (y95 : (List GPiece)) : Slot := .own 3 ((y95 : List GPiece).map Qap)
def Qlu (y98 : (List GPiece)) : Slot := .own 3 ((y98 : List GPiece).map Qap)
def Q2h (x104 : GPiece) : AV := .agg [(I (x104.unit)), (I (x104.Part.Width)), (I (x104.Part.Gain))]
def Q2a (x107 : GPiece) : AV := .agg [(I (x107.unit)), (I (x107.Part.Width)), (I (x107.Part.Gain))]
def Qwx (y98 : (List GPiece)) (y97 : Int) (x104 : GPiece) : Slot := .own 3 ((y98.set y97.toNat (⟨x104.unit, (⟨x104.Part.Width, x104.Part.Gain⟩ : GPart)⟩ : GPiece) : List GPiece).map Qap)
def Q19 (y98 : (List GPiece)) (y97 : Int) (x104 : GPiece) (x107 : GPiece) : Slot := .own 3 (((y98.set y97.toNat (⟨x104.unit, (⟨x104.Part.Width, x104.Part.Gain⟩ : GPart)⟩ : GPiece)).set ((w64 (y97 + 1)).toNat) (⟨x107.unit, (⟨x107.Part.Width, x107.Part.Gain⟩ : GPart)⟩ : GPiece) : List GPiece).map Qap)
def Q18 (x124 : GPiece) : AV := .agg [(I (x124.unit)), (I (x124.Part.Width)), (I (x124.Part.Gain))]
def Q17 (x127 : GPiece) : AV := .agg [(I (x127.unit)), (I (x127.Part.Width)), (I (x127.Part.Gain))]
theorem Qei : ∀ (N : Nat) (p0 : Nat) (p1 : Int) (p2 : Int) (p3 : Int) (p4 : (List GPiece)) (r : (List GPiece)) (_ : Qcd N p0 p1 p2 p3 p4 = some r), Spec Tryz.prog 121 [(.own 0 3 (0) (p0)), (I (p1)), (I (p2)), (I (p3)), Qfs] [(Qez p4), Qcw] (.tup []) [(.own 3 ((r : List GPiece).map Qap)), Qcw] := by
  intro N
  induction N with
  | zero => intro p0 p1 p2 p3 p4 r h; exact nomatch (show (none : Option (List GPiece)) = some r from h)
  | succ N ihX =>
  intro p0 p1 p2 p3 p4 r h
  replace h : Qc6 N (Qcd N) p0 p1 p2 p3 p4 = some r := h
  refine Qac Tryz.func121 rfl 2 (nle rfl) (fun X φ0 w0 hφ0 hd0 => ?_)
  unfold Qc6 at h
  refine Qbh ?_
  obtain ⟨k3, hk_k3, h⟩ := jko h
  refine wjn (τ := Unit) (fun t => k3 t = some r) (fun _ => ⟨mk 220 [(0, (.own 0 3 (0) (p0))), (1, I p1), (2, I p2), (3, I p3), (4, Qfs)], [(Qez p4), Qcw]⟩) (fun t h => ?_) ?_
  ·subst hk_k3
   obtain ⟨k4, hk_k4, h⟩ := jko h
   refine wjn (τ := Unit) (fun t => k4 t = some r) (fun _ => ⟨mk 220 [(0, (.own 0 3 (0) (p0))), (1, I p1), (2, I p2), (3, I p3), (4, Qfs)], [(Qez p4), Qcw]⟩) (fun t h => ?_) ?_
   ·subst hk_k4
    obtain ⟨x5, hl6, h⟩ := bno h
    refine wx tbk [(3, rp [(.tmp 131, (I (w64 (p1 + p3))))] (K .u64 (IntKind.wrap .u64 (w64 (p1 + p3))))), (4, rp [(.tmp 132, (K .u64 (IntKind.wrap .u64 (w64 (p1 + p3))))), (.const (.int .u64 1), (K .u64 (1)))] (K .u64 ((IntKind.wrap .u64 (w64 (p1 + p3))) / 2))), (5, rp [(.tmp 133, (K .u64 ((IntKind.wrap .u64 (w64 (p1 + p3))) / 2)))] (I (w64 ((IntKind.wrap .u64 (w64 (p1 + p3))) / 2)))), (6, rp [(.tmp 134, (I (w64 ((IntKind.wrap .u64 (w64 (p1 + p3))) / 2))))] (I x5))] ⟨acv rfl (by rw [Tryz.underlying3]; rfl) Tryz.underlying187, Qot rfl (by decide) (by decide), acv rfl (by rw [Tryz.underlying187]; rfl) Tryz.underlying3, Qd8 hl6 (aas rfl), trivial⟩ ?_
    refine wx tbk [] trivial ?_
    refine wx tbk [] trivial ?_
    obtain ⟨k9, hk_k9, h⟩ := jko h
    refine wjn (τ := Int × Int) (fun t => k9 t = some r) (fun ⟨y7, y8⟩ => ⟨mk 220 [(0, (.own 0 3 (0) (p0))), (1, I p1), (2, I p2), (3, I p3), (4, Qfs), (18, I x5), (19, (I (w64 (x5 + p2)))), (20, I y7), (21, I y8)], [(Qez p4), Qcw]⟩) (fun t h => ?_) ?_
    ·subst hk_k9
     obtain ⟨y7, y8⟩ := t
     obtain ⟨x10, hl11, h⟩ := bno h
     refine wx tbk [(2, rp [(.tmp 148, (I (w64 ((w64 (x5 + p2)) - 1))))] (I x10))] ⟨Qd8 hl11 (aas rfl), trivial⟩ ?_
     obtain ⟨k13, hk_k13, h⟩ := jko h
     refine wjn (τ := Int) (fun t => k13 t = some r) (fun y12 => ⟨mk 220 [(0, (.own 0 3 (0) (p0))), (1, I p1), (2, I p2), (3, I p3), (4, Qfs), (18, I x5), (19, (I (w64 (x5 + p2)))), (20, I y12)], [(Qez p4), Qcw]⟩) (fun y12 h => ?_) ?_
     ·subst hk_k13
      obtain ⟨x14, hl15, h⟩ := bno h
      refine wx tbk [(3, rp [(.tmp 177, (I (w64 ((w64 (x5 + p2)) - y12))))] (I x14))] ⟨Qd8 hl15 (aas rfl), trivial⟩ ?_
      obtain ⟨k17, hk_k17, h⟩ := jko h
      refine wjn (τ := (List GPiece)) (fun t => k17 t = some r) (fun y16 => ⟨mk 220 [(0, (.own 0 3 (0) (p0))), (1, I p1), (3, I p3), (4, Qfs), (18, I x5), (20, I y12), (24, I x14)], [(Qqf y16), Qcw]⟩) (fun y16 h => ?_) ?_
      ·subst hk_k17
       obtain ⟨k19, hk_k19, h⟩ := jko h
       refine wjn (τ := (List GPiece)) (fun t => k19 t = some r) (fun y18 => ⟨mk 220 [(0, (.own 0 3 (0) (p0))), (3, I p3), (4, Qfs), (18, I x5), (24, I x14)], [(Qnq y18), Qcw]⟩) (fun y18 h => ?_) ?_
       ·subst hk_k19
        rcases bft ((decide (x5 < x14))) with hb20 | hb20
        ·replace h := Qat hb20 h
         refine wx tbk [(3, rp [(.tmp 208, (B ((decide (x5 < x14)))))] (B true))] ⟨asb hb20 (amv rfl), trivial⟩ ?_
         rcases bft ((decide (x14 < p3))) with hc21 | hc21
         ·replace h := Qat hc21 h
          refine wft hc21 (by kernel_rfl) ?_
          obtain ⟨x23, hf22, h⟩ := bno h
          refine wx1 tbk [(5, ⟨[fu 121, (.tmp 214, (.own 0 3 (0) (p0))), (.tmp 215, I x5), (.tmp 216, I x14), (.tmp 217, I p3), (.tmp 218, Qfs)], [(0, (Qnq y18)), (1, Qcw)], (.tup []), [(0, (Qs2 x23)), (1, Qcw)], false⟩)] ⟨Qah (first := []) (cap := []) (vs := [(.own 0 3 (0) (p0)), I x5, I x14, I p3, Qfs]) (σr := [(Qnq y18), Qcw]) (σr' := [(Qs2 x23), Qcw]) (res' := (.tup [])) [0, 1] rfl Qqb (ihX p0 x5 x14 p3 y18 _ hf22) rfl (Qbc (rnc (Qfy rfl) (rnc (.plain _ nll) (rnc (.plain _ nll) (rnc (.plain _ nll) (rnc (Qas rn0 (rnc (Qa2 rfl) rn0)) rn0)))))) (slc (Qd7 Qai) (slc (Qae (rnc (.plain _ (NLt.fn _ _ _ nl0 nl0)) rn0)) Qag)) (slc (Qd7 Qai) (slc (Qae (rnc (.plain _ (NLt.fn _ _ _ nl0 nl0)) rn0)) Qag)) (.plain _ (NLt.tup _ nl0)) rfl rfl rfl, trivial⟩ ?_
          obtain rfl := osi h
          exact ⟨_, (mto (n := 220) (l' := []) (own' := [(Qs2 x23), Qcw]) [] [0, 1] [(Qs2 x23), Qcw] hφ0 pn (qc (spr Qai) (qc (spb (lc (.rn (Qas rn0 rn0)) ln)) qn))), Qb7 (vs := []) trivial rfl (NLt.tup _ nl0) (by kernel_rfl) (Qaf (Qhw Qai _) (Qaf (Qav (nlc (NLt.of0 (NLt.fn _ _ _ nl0 nl0)) nl0)) Qbd))⟩
         ·replace h := Qau hc21 h
          refine wfn hc21 (by kernel_rfl) ?_
          refine Qam ?_
          obtain rfl := osi h
          exact ⟨_, (mto (n := 220) (l' := []) (own' := [(Qnq y18), Qcw]) [] [0, 1] [(Qnq y18), Qcw] hφ0 pn (qc (spr Qai) (qc (spb (lc (.rn (Qas rn0 rn0)) ln)) qn))), Qb7 (vs := []) trivial rfl (NLt.tup _ nl0) (by kernel_rfl) (Qaf (Qhw Qai _) (Qaf (Qav (nlc (NLt.of0 (NLt.fn _ _ _ nl0 nl0)) nl0)) Qbd))⟩
        ·replace h := Qau hb20 h
         refine wx tbk [(3, rp [(.tmp 208, (B ((decide (x5 < x14)))))] (B false))] ⟨asb hb20 (amv rfl), trivial⟩ ?_
         refine Qfa (by kernel_rfl) ?_
         refine Qam ?_
         obtain rfl := osi h
         exact ⟨_, (mto (n := 220) (l' := []) (own' := [(Qnq y18), Qcw]) [] [0, 1] [(Qnq y18), Qcw] hφ0 pn (qc (spr Qai) (qc (spb (lc (.rn (Qas rn0 rn0)) ln)) qn))), Qb7 (vs := []) trivial rfl (NLt.tup _ nl0) (by kernel_rfl) (Qaf (Qhw Qai _) (Qaf (Qav (nlc (NLt.of0 (NLt.fn _ _ _ nl0 nl0)) nl0)) Qbd))⟩
       ·skip
        rcases bft ((decide (p1 < y12))) with hb24 | hb24
        ·replace h := Qat hb24 h
         refine wx tbk [(3, rp [(.tmp 194, (B ((decide (p1 < y12)))))] (B true))] ⟨asb hb24 (amv rfl), trivial⟩ ?_
         rcases bft ((decide (y12 < x5))) with hc25 | hc25
         ·replace h := Qat hc25 h
          refine wft hc25 (by kernel_rfl) ?_
          obtain ⟨x27, hf26, h⟩ := bno h
          refine wx1 tbk [(5, ⟨[fu 121, (.tmp 200, (.own 0 3 (0) (p0))), (.tmp 201, I p1), (.tmp 202, I y12), (.tmp 203, I x5), (.tmp 204, Qfs)], [(0, (Qqf y16)), (1, Qcw)], (.tup []), [(0, (Qw0 x27)), (1, Qcw)], false⟩)] ⟨Qah (first := []) (cap := []) (vs := [(.own 0 3 (0) (p0)), I p1, I y12, I x5, Qfs]) (σr := [(Qqf y16), Qcw]) (σr' := [(Qw0 x27), Qcw]) (res' := (.tup [])) [0, 1] rfl Qqb (ihX p0 p1 y12 x5 y16 _ hf26) rfl (Qbc (rnc (Qfy rfl) (rnc (.plain _ nll) (rnc (.plain _ nll) (rnc (.plain _ nll) (rnc (Qas rn0 (rnc (Qa2 rfl) rn0)) rn0)))))) (slc (Qd7 Qai) (slc (Qae (rnc (.plain _ (NLt.fn _ _ _ nl0 nl0)) rn0)) Qag)) (slc (Qd7 Qai) (slc (Qae (rnc (.plain _ (NLt.fn _ _ _ nl0 nl0)) rn0)) Qag)) (.plain _ (NLt.tup _ nl0)) rfl rfl rfl, trivial⟩ ?_
          refine thn ?_
          exact ⟨(x27), h, (mto (n := 220) [(0, (.own 0 3 (0) (p0))), (3, I p3), (4, Qfs), (18, I x5), (24, I x14)] [0, 1] [(Qw0 x27), Qcw] hφ0 (pc (.rn (Qak rfl)) (pc rwl (pc (.rn (Qas rn0 (rnc (rqr rfl) rn0))) (pc rwl (pc rwl pn))))) (qc (spr Qai) (qc (spb (lc (.rn (Qas rn0 rn0)) ln)) qn)))⟩
         ·replace h := Qau hc25 h
          refine wfn hc25 (by kernel_rfl) ?_
          refine Qam ?_
          refine thn ?_
          exact ⟨(y16), h, (mto (n := 220) [(0, (.own 0 3 (0) (p0))), (3, I p3), (4, Qfs), (18, I x5), (24, I x14)] [0, 1] [(Qqf y16), Qcw] hφ0 (pc (.rn (Qak rfl)) (pc rwl (pc (.rn (Qas rn0 (rnc (rqr rfl) rn0))) (pc rwl (pc rwl pn))))) (qc (spr Qai) (qc (spb (lc (.rn (Qas rn0 rn0)) ln)) qn)))⟩
        ·replace h := Qau hb24 h
         refine wx tbk [(3, rp [(.tmp 194, (B ((decide (p1 < y12)))))] (B false))] ⟨asb hb24 (amv rfl), trivial⟩ ?_
         refine Qfa (by kernel_rfl) ?_
         refine Qam ?_
         refine thn ?_
         exact ⟨(y16), h, (mto (n := 220) [(0, (.own 0 3 (0) (p0))), (3, I p3), (4, Qfs), (18, I x5), (24, I x14)] [0, 1] [(Qqf y16), Qcw] hφ0 (pc (.rn (Qak rfl)) (pc rwl (pc (.rn (Qas rn0 (rnc (rqr rfl) rn0))) (pc rwl (pc rwl pn))))) (qc (spr Qai) (qc (spb (lc (.rn (Qas rn0 rn0)) ln)) qn)))⟩
      ·skip
       rcases bft ((decide (y12 < p2))) with hb28 | hb28
       ·replace h := Qat hb28 h
        refine wx tbk [(3, rp [(.tmp 180, (B ((decide (y12 < p2)))))] (B true))] ⟨asb hb28 (amv rfl), trivial⟩ ?_
        rcases bft ((decide (p2 < x14))) with hc29 | hc29
        ·replace h := Qat hc29 h
         refine wft hc29 (by kernel_rfl) ?_
         obtain ⟨x31, hf30, h⟩ := bno h
         refine wx1 tbk [(5, ⟨[fu 122, (.tmp 186, (.own 0 3 (0) (p0))), (.tmp 187, I y12), (.tmp 188, I p2), (.tmp 189, I x14), (.tmp 190, Qfs)], [(0, (Qez p4)), (1, Qcw)], (.tup []), [(0, (Qwz x31)), (1, Qcw)], false⟩)] ⟨Qah (first := []) (cap := []) (vs := [(.own 0 3 (0) (p0)), I y12, I p2, I x14, Qfs]) (σr := [(Qez p4), Qcw]) (σr' := [(Qwz x31), Qcw]) (res' := (.tup [])) [0, 1] rfl Q6w (Qgz N p0 y12 p2 x14 p4 _ hf30) rfl (Qbc (rnc (Qfy rfl) (rnc (.plain _ nll) (rnc (.plain _ nll) (rnc (.plain _ nll) (rnc (Qas rn0 (rnc (Qa2 rfl) rn0)) rn0)))))) (slc (Qd7 Qai) (slc (Qae (rnc (.plain _ (NLt.fn _ _ _ nl0 nl0)) rn0)) Qag)) (slc (Qd7 Qai) (slc (Qae (rnc (.plain _ (NLt.fn _ _ _ nl0 nl0)) rn0)) Qag)) (.plain _ (NLt.tup _ nl0)) rfl rfl rfl, trivial⟩ ?_
         refine thn ?_
         exact ⟨(x31), h, (mto (n := 220) [(0, (.own 0 3 (0) (p0))), (1, I p1), (3, I p3), (4, Qfs), (18, I x5), (20, I y12), (24, I x14)] [0, 1] [(Qwz x31), Qcw] hφ0 (pc (.rn (Qak rfl)) (pc rwl (pc rwl (pc (.rn (Qas rn0 (rnc (rqr rfl) rn0))) (pc rwl (pc rwl (pc rwl pn))))))) (qc (spr Qai) (qc (spb (lc (.rn (Qas rn0 rn0)) ln)) qn)))⟩
        ·replace h := Qau hc29 h
         refine wfn hc29 (by kernel_rfl) ?_
         refine Qam ?_
         refine thn ?_
         exact ⟨(p4), h, (mto (n := 220) [(0, (.own 0 3 (0) (p0))), (1, I p1), (3, I p3), (4, Qfs), (18, I x5), (20, I y12), (24, I x14)] [0, 1] [(Qez p4), Qcw] hφ0 (pc (.rn (Qak rfl)) (pc rwl (pc rwl (pc (.rn (Qas rn0 (rnc (rqr rfl) rn0))) (pc rwl (pc rwl (pc rwl pn))))))) (qc (spr Qai) (qc (spb (lc (.rn (Qas rn0 rn0)) ln)) qn)))⟩
       ·replace h := Qau hb28 h
        refine wx tbk [(3, rp [(.tmp 180, (B ((decide (y12 < p2)))))] (B false))] ⟨asb hb28 (amv rfl), trivial⟩ ?_
        refine Qfa (by kernel_rfl) ?_
        refine Qam ?_
        refine thn ?_
        exact ⟨(p4), h, (mto (n := 220) [(0, (.own 0 3 (0) (p0))), (1, I p1), (3, I p3), (4, Qfs), (18, I x5), (20, I y12), (24, I x14)] [0, 1] [(Qez p4), Qcw] hφ0 (pc (.rn (Qak rfl)) (pc rwl (pc rwl (pc (.rn (Qas rn0 (rnc (rqr rfl) rn0))) (pc rwl (pc rwl (pc rwl pn))))))) (qc (spr Qai) (qc (spb (lc (.rn (Qas rn0 rn0)) ln)) qn)))⟩
     ·skip
      refine Qaj ?_
      refine wmr (mto (n := 220) (l' := [(0, (.own 0 3 (0) (p0))), (1, I p1), (2, I p2), (3, I p3), (4, Qfs), (18, I x5), (19, (I (w64 (x5 + p2)))), (20, I y7), (21, I y8), (22, I x10)]) (own' := [(Qez p4), Qcw]) [(0, (.own 0 3 (0) (p0))), (1, I p1), (2, I p2), (3, I p3), (4, Qfs), (18, I x5), (19, (I (w64 (x5 + p2)))), (20, I y7), (21, I y8), (22, I x10)] [0, 1] [(Qez p4), Qcw] hφ0 (pc (.rn (Qak rfl)) (pc rwl (pc rwl (pc rwl (pc (.rn (Qas rn0 (rnc (rqr rfl) rn0))) (pc rwl (pc rwl (pc rwl (pc rwl (pc rwl pn)))))))))) (qc (spr Qai) (qc (spb (lc (.rn (Qas rn0 rn0)) ln)) qn))) ?_
      refine Qcl (τ := Int × Int) (fun n t => Qbg N p0 p4 x10 k13 n t.1 t.2 = some r) (fun ⟨y32, y33⟩ => ⟨mk 220 [(0, (.own 0 3 (0) (p0))), (1, I p1), (2, I p2), (3, I p3), (4, Qfs), (18, I x5), (19, (I (w64 (x5 + p2)))), (20, I y32), (21, I y33), (22, I x10)], [(Qez p4), Qcw]⟩) (fun t h => by rw [Qbg] at h; cases h) (fun n36 ih t h => ?_) N (y7, y8) h
      obtain ⟨y32, y33⟩ := t
      rw [Qbg] at h
      skip
      refine wsq ?_
      refine wx tbk [] trivial ?_
      rcases bft ((decide (y32 < y33))) with hc37 | hc37
      ·replace h := Qat hc37 h
       refine wft hc37 (by kernel_rfl) ?_
       refine Qam ?_
       refine thn ?_
       refine Qaj ?_
       obtain ⟨x38, hl39, h⟩ := bno h
       refine wx tbk [(3, rp [(.tmp 154, (I (w64 (y32 + y33))))] (K .u64 (IntKind.wrap .u64 (w64 (y32 + y33))))), (4, rp [(.tmp 155, (K .u64 (IntKind.wrap .u64 (w64 (y32 + y33))))), (.const (.int .u64 1), (K .u64 (1)))] (K .u64 ((IntKind.wrap .u64 (w64 (y32 + y33))) / 2))), (5, rp [(.tmp 156, (K .u64 ((IntKind.wrap .u64 (w64 (y32 + y33))) / 2)))] (I (w64 ((IntKind.wrap .u64 (w64 (y32 + y33))) / 2)))), (6, rp [(.tmp 157, (I (w64 ((IntKind.wrap .u64 (w64 (y32 + y33))) / 2))))] (I x38))] ⟨acv rfl (by rw [Tryz.underlying3]; rfl) Tryz.underlying187, Qot rfl (by decide) (by decide), acv rfl (by rw [Tryz.underlying187]; rfl) Tryz.underlying3, Qd8 hl39 (aas rfl), trivial⟩ ?_
       obtain ⟨hi40, h⟩ := cko h
       obtain ⟨hi40a, hi40b⟩ := Qbi hi40
       obtain ⟨x41, hg42, h⟩ := bno h
       obtain ⟨hi43, h⟩ := cko h
       obtain ⟨hi43a, hi43b⟩ := Qbi hi43
       obtain ⟨x44, hg45, h⟩ := bno h
       obtain ⟨x47, hf46, h⟩ := bno h
       refine wxd tbk [(5, rb [(.tmp 159, (.own 0 3 (0) (p0))), (.tmp 162, (I (w64 (x10 - x38))))] [(0, (Qez p4))] (.ref 0 3 ((w64 (x10 - x38)).toNat) 0)), (6, rb [(.tmp 163, (.ref 0 3 ((w64 (x10 - x38)).toNat) 0))] [(0, (Qez p4))] (Q2g x41)), (9, rb [(.tmp 165, (.own 0 3 (0) (p0))), (.tmp 166, I x38)] [(0, (Qez p4))] (.ref 0 3 (x38.toNat) 0)), (10, rb [(.tmp 167, (.ref 0 3 (x38.toNat) 0))] [(0, (Qez p4))] (Q2f x44)), (11, ⟨[(.tmp 158, Qfs), (.tmp 164, (Q2g x41)), (.tmp 168, (Q2f x44))], [(1, Qcw)], I x47, [(1, Qcw)], false⟩)] ⟨aio rfl Tryz.underlying162 Qes (odt hi40a) (odt hi40b) (Nat.zero_add _), ald rfl Qes (by decide) (mgt Qap hg42) (nle rfl) rfl, aio rfl Tryz.underlying162 Qes (odt hi43a) (odt hi43b) (Nat.zero_add _), ald rfl Qes (by decide) (mgt Qap hg45) (nle rfl) rfl, Qah (first := []) (cap := [.ref 1 1 0 0]) (vs := [(.agg [(I ((⟨x41.unit, (⟨x41.Part.Width, x41.Part.Gain⟩ : GPart)⟩ : GPiece).unit)), (I ((⟨x41.unit, (⟨x41.Part.Width, x41.Part.Gain⟩ : GPart)⟩ : GPiece).Part.Width)), (I ((⟨x41.unit, (⟨x41.Part.Width, x41.Part.Gain⟩ : GPart)⟩ : GPiece).Part.Gain))]), (.agg [(I ((⟨x44.unit, (⟨x44.Part.Width, x44.Part.Gain⟩ : GPart)⟩ : GPiece).unit)), (I ((⟨x44.unit, (⟨x44.Part.Width, x44.Part.Gain⟩ : GPart)⟩ : GPiece).Part.Width)), (I ((⟨x44.unit, (⟨x44.Part.Width, x44.Part.Gain⟩ : GPart)⟩ : GPiece).Part.Gain))])]) (σr := [Qcw]) (σr' := [Qcw]) (res' := (I x47)) [1] rfl Qqc (Qde N (⟨x41.unit, (⟨x41.Part.Width, x41.Part.Gain⟩ : GPart)⟩ : GPiece) (⟨x44.unit, (⟨x44.Part.Width, x44.Part.Gain⟩ : GPart)⟩ : GPiece) _ hf46) rfl (Qbc (rnc (.plain _ (NLt.agg _ (nlc nll (nlc nll (nlc nll nl0))))) (rnc (.plain _ (NLt.agg _ (nlc nll (nlc nll (nlc nll nl0))))) (rnc (Qa2 rfl) rn0)))) (slc (Qae (rnc (.plain _ (NLt.fn _ _ _ nl0 nl0)) rn0)) Qag) (slc (Qae (rnc (.plain _ (NLt.fn _ _ _ nl0 nl0)) rn0)) Qag) (.plain _ nll) rfl rfl rfl, trivial⟩ ?_
       rcases bft ((!(decide (x47 < 0)))) with hc48 | hc48
       ·replace h := Qat hc48 h
        refine wft hc48 (by kernel_rfl) ?_
        refine wx1 tbk [] trivial ?_
        refine bln ?_
        refine thn ?_
        exact arm (mto (n := 220) [(0, (.own 0 3 (0) (p0))), (1, I p1), (2, I p2), (3, I p3), (4, Qfs), (18, I x5), (19, (I (w64 (x5 + p2)))), (20, (I (w64 (x38 + 1)))), (21, I y33), (22, I x10)] [0, 1] [(Qez p4), Qcw] hφ0 (pc (.rn (Qak rfl)) (pc rwl (pc rwl (pc rwl (pc (.rn (Qas rn0 (rnc (rqr rfl) rn0))) (pc rwl (pc rwl (pc rwl (pc rwl (pc rwl pn)))))))))) (qc (spr Qai) (qc (spb (lc (.rn (Qas rn0 rn0)) ln)) qn))) (ih (w64 (x38 + 1), y33) h)
       ·replace h := Qau hc48 h
        refine wfn hc48 (by kernel_rfl) ?_
        refine wx1 tbk [] trivial ?_
        refine bln ?_
        refine thn ?_
        exact arm (mto (n := 220) [(0, (.own 0 3 (0) (p0))), (1, I p1), (2, I p2), (3, I p3), (4, Qfs), (18, I x5), (19, (I (w64 (x5 + p2)))), (20, I y32), (21, I x38), (22, I x10)] [0, 1] [(Qez p4), Qcw] hφ0 (pc (.rn (Qak rfl)) (pc rwl (pc rwl (pc rwl (pc (.rn (Qas rn0 (rnc (rqr rfl) rn0))) (pc rwl (pc rwl (pc rwl (pc rwl (pc rwl pn)))))))))) (qc (spr Qai) (qc (spb (lc (.rn (Qas rn0 rn0)) ln)) qn))) (ih (y32, x38) h)
      ·replace h := Qau hc37 h
       refine wfn hc37 (by kernel_rfl) ?_
       refine Qbr ?_
       refine Qay ?_
       refine Qay ?_
       refine Qbq rfl ?_
       refine thn ?_
       exact ⟨(y32), h, (mto (n := 220) [(0, (.own 0 3 (0) (p0))), (1, I p1), (2, I p2), (3, I p3), (4, Qfs), (18, I x5), (19, (I (w64 (x5 + p2)))), (20, I y32)] [0, 1] [(Qez p4), Qcw] hφ0 (pc (.rn (Qak rfl)) (pc rwl (pc rwl (pc rwl (pc (.rn (Qas rn0 (rnc (rqr rfl) rn0))) (pc rwl (pc rwl (pc rwl pn)))))))) (qc (spr Qai) (qc (spb (lc (.rn (Qas rn0 rn0)) ln)) qn)))⟩
    ·skip
     refine wx tbk [] trivial ?_
     rcases bft ((decide (p2 > x5))) with hc49 | hc49
     ·replace h := Qat hc49 h
      refine wft hc49 (by kernel_rfl) ?_
      obtain ⟨x50, hl51, h⟩ := bno h
      refine wx tbk [(3, rp [(.tmp 143, (I (w64 ((w64 (x5 + p2)) - p3))))] (I x50))] ⟨Qd8 hl51 (aas rfl), trivial⟩ ?_
      refine wx1 tbk [] trivial ?_
      refine thn ?_
      exact ⟨(x50, x5), h, (mto (n := 220) [(0, (.own 0 3 (0) (p0))), (1, I p1), (2, I p2), (3, I p3), (4, Qfs), (18, I x5), (19, (I (w64 (x5 + p2)))), (20, I x50), (21, I x5)] [0, 1] [(Qez p4), Qcw] hφ0 (pc (.rn (Qak rfl)) (pc rwl (pc rwl (pc rwl (pc (.rn (Qas rn0 (rnc (rqr rfl) rn0))) (pc rwl (pc rwl (pc rwl (pc rwl pn))))))))) (qc (spr Qai) (qc (spb (lc (.rn (Qas rn0 rn0)) ln)) qn)))⟩
     ·replace h := Qau hc49 h
      refine wfn hc49 (by kernel_rfl) ?_
      refine wx tbk [] trivial ?_
      refine wx1 tbk [] trivial ?_
      refine thn ?_
      exact ⟨(p1, p2), h, (mto (n := 220) [(0, (.own 0 3 (0) (p0))), (1, I p1), (2, I p2), (3, I p3), (4, Qfs), (18, I x5), (19, (I (w64 (x5 + p2)))), (20, I p1), (21, I p2)] [0, 1] [(Qez p4), Qcw] hφ0 (pc (.rn (Qak rfl)) (pc rwl (pc rwl (pc rwl (pc (.rn (Qas rn0 (rnc (rqr rfl) rn0))) (pc rwl (pc rwl (pc rwl (pc rwl pn))))))))) (qc (spr Qai) (qc (spb (lc (.rn (Qas rn0 rn0)) ln)) qn)))⟩
   ·skip
    refine wx tbk [] trivial ?_
    rcases bft (((w64 (p3 - p2)) == 1)) with hc52 | hc52
    ·replace h := Qat hc52 h
     refine wft hc52 (by kernel_rfl) ?_
     refine wx tbk [] trivial ?_
     refine wx tbk [] trivial ?_
     obtain ⟨k54, hk_k54, h⟩ := jko h
     refine wjn (τ := Int) (fun t => k54 t = some r) (fun y53 => ⟨mk 220 [(0, (.own 0 3 (0) (p0))), (2, I p2), (14, I y53)], [(Qez p4), Qcw]⟩) (fun y53 h => ?_) ?_
     ·subst hk_k54
      obtain ⟨k56, hk_k56, h⟩ := jko h
      refine wjn (τ := (List GPiece)) (fun t => k56 t = some r) (fun y55 => ⟨mk 220 [], [(Qw2 y55), Qcw]⟩) (fun y55 h => ?_) ?_
      ·subst hk_k56
       refine wmr (mto (n := 220) (l' := []) (own' := [(Qw2 y55), Qcw]) [] [0, 1] [(Qw2 y55), Qcw] hφ0 pn (qc (spr Qai) (qc (spb (lc (.rn (Qas rn0 rn0)) ln)) qn))) ?_
       refine Qaa ?_
       refine Qan ?_
       obtain rfl := osi h
       exact ⟨_, Mor.rfl, Qb7 (vs := []) trivial rfl (NLt.tup _ nl0) (by kernel_rfl) (Qaf (Qhw Qai _) (Qaf (Qav (nlc (NLt.of0 (NLt.fn _ _ _ nl0 nl0)) nl0)) Qbd))⟩
      ·skip
       refine wx tbk [] trivial ?_
       refine Qaj ?_
       refine wmr (mto (n := 220) (l' := [(0, (.own 0 3 (0) (p0))), (14, I y53), (17, I p2)]) (own' := [(Qez p4), Qcw]) [(0, (.own 0 3 (0) (p0))), (14, I y53), (17, I p2)] [0, 1] [(Qez p4), Qcw] hφ0 (pc (.rn (Qak rfl)) (pc rwl (pc rwl pn))) (qc (spr Qai) (qc (spb (lc (.rn (Qas rn0 rn0)) ln)) qn))) ?_
       refine Qcl (τ := Int × (List GPiece)) (fun n t => Qby N p0 y53 k56 n t.1 t.2 = some r) (fun ⟨y57, y58⟩ => ⟨mk 220 [(0, (.own 0 3 (0) (p0))), (14, I y53), (17, I y57)], [(Qlv y58), Qcw]⟩) (fun t h => by rw [Qby] at h; cases h) (fun n61 ih t h => ?_) N (p2, p4) h
       obtain ⟨y57, y58⟩ := t
       rw [Qby] at h
       skip
       refine wsq ?_
       refine wx tbk [] trivial ?_
       rcases bft ((decide (y57 > y53))) with hc62 | hc62
       ·replace h := Qat hc62 h
        refine wft hc62 (by kernel_rfl) ?_
        refine Qam ?_
        refine thn ?_
        refine wsq ?_
        refine Qaj ?_
        obtain ⟨hi63, h⟩ := cko h
        obtain ⟨hi63a, hi63b⟩ := Qbi hi63
        obtain ⟨x64, hg65, h⟩ := bno h
        obtain ⟨hi66, h⟩ := cko h
        obtain ⟨hi66a, hi66b⟩ := Qbi hi66
        obtain ⟨x67, hg68, h⟩ := bno h
        obtain ⟨hi69, h⟩ := cko h
        obtain ⟨hi69a, hi69b⟩ := Qbi hi69
        obtain ⟨x70, hg71, h⟩ := bno h
        obtain ⟨hi72, h⟩ := cko h
        obtain ⟨hi72a, hi72b⟩ := Qbi hi72
        obtain ⟨x73, hg74, h⟩ := bno h
        refine wy1 tbk [(8, rb [(.tmp 118, (.own 0 3 (0) (p0))), (.tmp 120, (I (w64 (y57 - 1))))] [(0, (Qlv y58))] (.ref 0 3 ((w64 (y57 - 1)).toNat) 0)), (9, rb [(.tmp 121, (.ref 0 3 ((w64 (y57 - 1)).toNat) 0))] [(0, (Qlv y58))] (Q2i x64)), (12, rb [(.tmp 123, (.own 0 3 (0) (p0))), (.tmp 124, I y57)] [(0, (Qlv y58))] (.ref 0 3 (y57.toNat) 0)), (13, rb [(.tmp 125, (.ref 0 3 (y57.toNat) 0))] [(0, (Qlv y58))] (Q2e x67)), (14, rb [(.tmp 113, (.own 0 3 (0) (p0))), (.tmp 114, I y57)] [(0, (Qlv y58))] (.ref 0 3 (y57.toNat) 0)), (15, ⟨[(.tmp 127, (.ref 0 3 (y57.toNat) 0)), (.tmp 122, (Q2i x64))], [(0, (Qlv y58))], .any, [(0, (Qwy y58 y57 x64))], false⟩), (16, rb [(.tmp 115, (.own 0 3 (0) (p0))), (.tmp 117, (I (w64 (y57 - 1))))] [(0, (Qwy y58 y57 x64))] (.ref 0 3 ((w64 (y57 - 1)).toNat) 0)), (17, ⟨[(.tmp 128, (.ref 0 3 ((w64 (y57 - 1)).toNat) 0)), (.tmp 126, (Q2e x67))], [(0, (Qwy y58 y57 x64))], .any, [(0, (Q2d y58 y57 x64 x67))], false⟩)] ⟨aio rfl Tryz.underlying162 Qes (odt hi63a) (odt hi63b) (Nat.zero_add _), ald rfl Qes (by decide) (mgt Qap hg65) (nle rfl) rfl, aio rfl Tryz.underlying162 Qes (odt hi66a) (odt hi66b) (Nat.zero_add _), ald rfl Qes (by decide) (mgt Qap hg68) (nle rfl) rfl, aio rfl Tryz.underlying162 Qes (odt hi69a) (odt hi69b) (Nat.zero_add _), ast rfl Qes (by rfl) (mgt Qap hg71) (nle rfl) (Qhf Qap rfl), aio rfl Tryz.underlying162 Qes (odt hi72a) (odt hi72b) (Nat.zero_add _), ast rfl Qes (by rfl) (mgt Qap hg74) (nle rfl) (Qhf Qap rfl), trivial⟩ ?_
        refine bln ?_
        refine thn ?_
        refine wx1 tbk [] trivial ?_
        refine thn ?_
        exact arm (mto (n := 220) [(0, (.own 0 3 (0) (p0))), (14, I y53), (17, (I (w64 (y57 - 1))))] [0, 1] [(Q2d y58 y57 x64 x67), Qcw] hφ0 (pc (.rn (Qak rfl)) (pc rwl (pc rwl pn))) (qc (spr Qai) (qc (spb (lc (.rn (Qas rn0 rn0)) ln)) qn))) (ih (w64 (y57 - 1), (y58.set y57.toNat (⟨x64.unit, (⟨x64.Part.Width, x64.Part.Gain⟩ : GPart)⟩ : GPiece)).set ((w64 (y57 - 1)).toNat) (⟨x67.unit, (⟨x67.Part.Width, x67.Part.Gain⟩ : GPart)⟩ : GPiece)) h)
       ·replace h := Qau hc62 h
        refine wfn hc62 (by kernel_rfl) ?_
        refine Qbr ?_
        refine Qay ?_
        refine Qay ?_
        refine Qbq rfl ?_
        refine thn ?_
        exact ⟨(y58), h, (mto (n := 220) [] [0, 1] [(Qlv y58), Qcw] hφ0 pn (qc (spr Qai) (qc (spb (lc (.rn (Qas rn0 rn0)) ln)) qn)))⟩
     ·skip
      refine Qaj ?_
      refine wmr (mto (n := 220) (l' := [(0, (.own 0 3 (0) (p0))), (2, I p2), (4, Qfs), (14, I p1), (15, I p2)]) (own' := [(Qez p4), Qcw]) [(0, (.own 0 3 (0) (p0))), (2, I p2), (4, Qfs), (14, I p1), (15, I p2)] [0, 1] [(Qez p4), Qcw] hφ0 (pc (.rn (Qak rfl)) (pc rwl (pc (.rn (Qas rn0 (rnc (rqr rfl) rn0))) (pc rwl (pc rwl pn))))) (qc (spr Qai) (qc (spb (lc (.rn (Qas rn0 rn0)) ln)) qn))) ?_
      refine Qcl (τ := Int × Int) (fun n t => Qbf N p0 p2 p4 k54 n t.1 t.2 = some r) (fun ⟨y75, y76⟩ => ⟨mk 220 [(0, (.own 0 3 (0) (p0))), (2, I p2), (4, Qfs), (14, I y75), (15, I y76)], [(Qez p4), Qcw]⟩) (fun t h => by rw [Qbf] at h; cases h) (fun n79 ih t h => ?_) N (p1, p2) h
      obtain ⟨y75, y76⟩ := t
      rw [Qbf] at h
      skip
      refine wsq ?_
      refine wx tbk [] trivial ?_
      rcases bft ((decide (y75 < y76))) with hc80 | hc80
      ·replace h := Qat hc80 h
       refine wft hc80 (by kernel_rfl) ?_
       refine Qam ?_
       refine thn ?_
       refine Qaj ?_
       obtain ⟨x81, hl82, h⟩ := bno h
       refine wx tbk [(3, rp [(.tmp 88, (I (w64 (y75 + y76))))] (K .u64 (IntKind.wrap .u64 (w64 (y75 + y76))))), (4, rp [(.tmp 89, (K .u64 (IntKind.wrap .u64 (w64 (y75 + y76))))), (.const (.int .u64 1), (K .u64 (1)))] (K .u64 ((IntKind.wrap .u64 (w64 (y75 + y76))) / 2))), (5, rp [(.tmp 90, (K .u64 ((IntKind.wrap .u64 (w64 (y75 + y76))) / 2)))] (I (w64 ((IntKind.wrap .u64 (w64 (y75 + y76))) / 2)))), (6, rp [(.tmp 91, (I (w64 ((IntKind.wrap .u64 (w64 (y75 + y76))) / 2))))] (I x81))] ⟨acv rfl (by rw [Tryz.underlying3]; rfl) Tryz.underlying187, Qot rfl (by decide) (by decide), acv rfl (by rw [Tryz.underlying187]; rfl) Tryz.underlying3, Qd8 hl82 (aas rfl), trivial⟩ ?_
       obtain ⟨hi83, h⟩ := cko h
       obtain ⟨hi83a, hi83b⟩ := Qbi hi83
       obtain ⟨x84, hg85, h⟩ := bno h
       obtain ⟨hi86, h⟩ := cko h
       obtain ⟨hi86a, hi86b⟩ := Qbi hi86
       obtain ⟨x87, hg88, h⟩ := bno h
       obtain ⟨x90, hf89, h⟩ := bno h
       refine wxd tbk [(3, rb [(.tmp 93, (.own 0 3 (0) (p0))), (.tmp 94, I p2)] [(0, (Qez p4))] (.ref 0 3 (p2.toNat) 0)), (4, rb [(.tmp 95, (.ref 0 3 (p2.toNat) 0))] [(0, (Qez p4))] (Q2c x84)), (7, rb [(.tmp 97, (.own 0 3 (0) (p0))), (.tmp 98, I x81)] [(0, (Qez p4))] (.ref 0 3 (x81.toNat) 0)), (8, rb [(.tmp 99, (.ref 0 3 (x81.toNat) 0))] [(0, (Qez p4))] (Q2b x87)), (9, ⟨[(.tmp 92, Qfs), (.tmp 96, (Q2c x84)), (.tmp 100, (Q2b x87))], [(1, Qcw)], I x90, [(1, Qcw)], false⟩)] ⟨aio rfl Tryz.underlying162 Qes (odt hi83a) (odt hi83b) (Nat.zero_add _), ald rfl Qes (by decide) (mgt Qap hg85) (nle rfl) rfl, aio rfl Tryz.underlying162 Qes (odt hi86a) (odt hi86b) (Nat.zero_add _), ald rfl Qes (by decide) (mgt Qap hg88) (nle rfl) rfl, Qah (first := []) (cap := [.ref 1 1 0 0]) (vs := [(.agg [(I ((⟨x84.unit, (⟨x84.Part.Width, x84.Part.Gain⟩ : GPart)⟩ : GPiece).unit)), (I ((⟨x84.unit, (⟨x84.Part.Width, x84.Part.Gain⟩ : GPart)⟩ : GPiece).Part.Width)), (I ((⟨x84.unit, (⟨x84.Part.Width, x84.Part.Gain⟩ : GPart)⟩ : GPiece).Part.Gain))]), (.agg [(I ((⟨x87.unit, (⟨x87.Part.Width, x87.Part.Gain⟩ : GPart)⟩ : GPiece).unit)), (I ((⟨x87.unit, (⟨x87.Part.Width, x87.Part.Gain⟩ : GPart)⟩ : GPiece).Part.Width)), (I ((⟨x87.unit, (⟨x87.Part.Width, x87.Part.Gain⟩ : GPart)⟩ : GPiece).Part.Gain))])]) (σr := [Qcw]) (σr' := [Qcw]) (res' := (I x90)) [1] rfl Qqc (Qde N (⟨x84.unit, (⟨x84.Part.Width, x84.Part.Gain⟩ : GPart)⟩ : GPiece) (⟨x87.unit, (⟨x87.Part.Width, x87.Part.Gain⟩ : GPart)⟩ : GPiece) _ hf89) rfl (Qbc (rnc (.plain _ (NLt.agg _ (nlc nll (nlc nll (nlc nll nl0))))) (rnc (.plain _ (NLt.agg _ (nlc nll (nlc nll (nlc nll nl0))))) (rnc (Qa2 rfl) rn0)))) (slc (Qae (rnc (.plain _ (NLt.fn _ _ _ nl0 nl0)) rn0)) Qag) (slc (Qae (rnc (.plain _ (NLt.fn _ _ _ nl0 nl0)) rn0)) Qag) (.plain _ nll) rfl rfl rfl, trivial⟩ ?_
       rcases bft ((!(decide (x90 < 0)))) with hc91 | hc91
       ·replace h := Qat hc91 h
        refine wft hc91 (by kernel_rfl) ?_
        refine wx1 tbk [] trivial ?_
        refine bln ?_
        refine thn ?_
        exact arm (mto (n := 220) [(0, (.own 0 3 (0) (p0))), (2, I p2), (4, Qfs), (14, (I (w64 (x81 + 1)))), (15, I y76)] [0, 1] [(Qez p4), Qcw] hφ0 (pc (.rn (Qak rfl)) (pc rwl (pc (.rn (Qas rn0 (rnc (rqr rfl) rn0))) (pc rwl (pc rwl pn))))) (qc (spr Qai) (qc (spb (lc (.rn (Qas rn0 rn0)) ln)) qn))) (ih (w64 (x81 + 1), y76) h)
       ·replace h := Qau hc91 h
        refine wfn hc91 (by kernel_rfl) ?_
        refine wx1 tbk [] trivial ?_
        refine bln ?_
        refine thn ?_
        exact arm (mto (n := 220) [(0, (.own 0 3 (0) (p0))), (2, I p2), (4, Qfs), (14, I y75), (15, I x81)] [0, 1] [(Qez p4), Qcw] hφ0 (pc (.rn (Qak rfl)) (pc rwl (pc (.rn (Qas rn0 (rnc (rqr rfl) rn0))) (pc rwl (pc rwl pn))))) (qc (spr Qai) (qc (spb (lc (.rn (Qas rn0 rn0)) ln)) qn))) (ih (y75, x81) h)
      ·replace h := Qau hc80 h
       refine wfn hc80 (by kernel_rfl) ?_
       refine Qbr ?_
       refine Qay ?_
       refine Qay ?_
       refine Qbq rfl ?_
       refine thn ?_
       exact ⟨(y75), h, (mto (n := 220) [(0, (.own 0 3 (0) (p0))), (2, I p2), (14, I y75)] [0, 1] [(Qez p4), Qcw] hφ0 (pc (.rn (Qak rfl)) (pc rwl (pc rwl pn))) (qc (spr Qai) (qc (spb (lc (.rn (Qas rn0 rn0)) ln)) qn)))⟩
    ·replace h := Qau hc52 h
     refine wfn hc52 (by kernel_rfl) ?_
     refine Qam ?_
     refine thn ?_
     exact ⟨(), h, (mto (n := 220) [(0, (.own 0 3 (0) (p0))), (1, I p1), (2, I p2), (3, I p3), (4, Qfs)] [0, 1] [(Qez p4), Qcw] hφ0 (pc (.rn (Qak rfl)) (pc rwl (pc rwl (pc rwl (pc (.rn (Qas rn0 (rnc (rqr rfl) rn0))) pn))))) (qc (spr Qai) (qc (spb (lc (.rn (Qas rn0 rn0)) ln)) qn)))⟩
  ·skip
   refine wx tbk [] trivial ?_
   rcases bft (((w64 (p2 - p1)) == 1)) with hc92 | hc92
   ·replace h := Qat hc92 h
    refine wft hc92 (by kernel_rfl) ?_
    refine wx tbk [] trivial ?_
    refine wx tbk [] trivial ?_
    obtain ⟨k94, hk_k94, h⟩ := jko h
    refine wjn (τ := Int) (fun t => k94 t = some r) (fun y93 => ⟨mk 220 [(0, (.own 0 3 (0) (p0))), (1, I p1), (10, I y93)], [(Qez p4), Qcw]⟩) (fun y93 h => ?_) ?_
    ·subst hk_k94
     obtain ⟨k96, hk_k96, h⟩ := jko h
     refine wjn (τ := (List GPiece)) (fun t => k96 t = some r) (fun y95 => ⟨mk 220 [], [(Qw1 y95), Qcw]⟩) (fun y95 h => ?_) ?_
     ·subst hk_k96
      refine wmr (mto (n := 220) (l' := []) (own' := [(Qw1 y95), Qcw]) [] [0, 1] [(Qw1 y95), Qcw] hφ0 pn (qc (spr Qai) (qc (spb (lc (.rn (Qas rn0 rn0)) ln)) qn))) ?_
      refine Qaa ?_
      refine Qan ?_
      obtain rfl := osi h
      exact ⟨_, Mor.rfl, Qb7 (vs := []) trivial rfl (NLt.tup _ nl0) (by kernel_rfl) (Qaf (Qhw Qai _) (Qaf (Qav (nlc (NLt.of0 (NLt.fn _ _ _ nl0 nl0)) nl0)) Qbd))⟩
     ·skip
      refine wx tbk [] trivial ?_
      refine Qaj ?_
      refine wmr (mto (n := 220) (l' := [(0, (.own 0 3 (0) (p0))), (10, I y93), (13, I p1)]) (own' := [(Qez p4), Qcw]) [(0, (.own 0 3 (0) (p0))), (10, I y93), (13, I p1)] [0, 1] [(Qez p4), Qcw] hφ0 (pc (.rn (Qak rfl)) (pc rwl (pc rwl pn))) (qc (spr Qai) (qc (spb (lc (.rn (Qas rn0 rn0)) ln)) qn))) ?_
      refine Qcl (τ := Int × (List GPiece)) (fun n t => Qbx N p0 y93 k96 n t.1 t.2 = some r) (fun ⟨y97, y98⟩ => ⟨mk 220 [(0, (.own 0 3 (0) (p0))), (10, I y93), (13, I y97)], [(Qlu y98), Qcw]⟩) (fun t h => by rw [Qbx] at h; cases h) (fun n101 ih t h => ?_) N (p1, p4) h
      obtain ⟨y97, y98⟩ := t
      rw [Qbx] at h
      skip
      refine wsq ?_
      refine wx tbk [] trivial ?_
      rcases bft ((decide (y97 < (w64 (y93 - 1))))) with hc102 | hc102
      ·replace h := Qat hc102 h
       refine wft hc102 (by kernel_rfl) ?_
       refine Qam ?_
       refine thn ?_
       refine wsq ?_
       refine Qaj ?_
       obtain ⟨hi103, h⟩ := cko h
       obtain ⟨hi103a, hi103b⟩ := Qbi hi103
       obtain ⟨x104, hg105, h⟩ := bno h
       obtain ⟨hi106, h⟩ := cko h
       obtain ⟨hi106a, hi106b⟩ := Qbi hi106
       obtain ⟨x107, hg108, h⟩ := bno h
       obtain ⟨hi109, h⟩ := cko h
       obtain ⟨hi109a, hi109b⟩ := Qbi hi109
       obtain ⟨x110, hg111, h⟩ := bno h
       obtain ⟨hi112, h⟩ := cko h
       obtain ⟨hi112a, hi112b⟩ := Qbi hi112
       obtain ⟨x113, hg114, h⟩ := bno h
       refine wy1 tbk [(8, rb [(.tmp 66, (.own 0 3 (0) (p0))), (.tmp 68, (I (w64 (y97 + 1))))] [(0, (Qlu y98))] (.ref 0 3 ((w64 (y97 + 1)).toNat) 0)), (9, rb [(.tmp 69, (.ref 0 3 ((w64 (y97 + 1)).toNat) 0))] [(0, (Qlu y98))] (Q2h x104)), (12, rb [(.tmp 71, (.own 0 3 (0) (p0))), (.tmp 72, I y97)] [(0, (Qlu y98))] (.ref 0 3 (y97.toNat) 0)), (13, rb [(.tmp 73, (.ref 0 3 (y97.toNat) 0))] [(0, (Qlu y98))] (Q2a x107)), (14, rb [(.tmp 61, (.own 0 3 (0) (p0))), (.tmp 62, I y97)] [(0, (Qlu y98))] (.ref 0 3 (y97.toNat) 0)), (15, ⟨[(.tmp 75, (.ref 0 3 (y97.toNat) 0)), (.tmp 70, (Q2h x104))], [(0, (Qlu y98))], .any, [(0, (Qwx y98 y97 x104))], false⟩), (16, rb [(.tmp 63, (.own 0 3 (0) (p0))), (.tmp 65, (I (w64 (y97 + 1))))] [(0, (Qwx y98 y97 x104))] (.ref 0 3 ((w64 (y97 + 1)).toNat) 0)), (17, ⟨[(.tmp 76, (.ref 0 3 ((w64 (y97 + 1)).toNat) 0)), (.tmp 74, (Q2a x107))], [(0, (Qwx y98 y97 x104))], .any, [(0, (Q19 y98 y97 x104 x107))], false⟩)] ⟨aio rfl Tryz.underlying162 Qes (odt hi103a) (odt hi103b) (Nat.zero_add _), ald rfl Qes (by decide) (mgt Qap hg105) (nle rfl) rfl, aio rfl Tryz.underlying162 Qes (odt hi106a) (odt hi106b) (Nat.zero_add _), ald rfl Qes (by decide) (mgt Qap hg108) (nle rfl) rfl, aio rfl Tryz.underlying162 Qes (odt hi109a) (odt hi109b) (Nat.zero_add _), ast rfl Qes (by rfl) (mgt Qap hg111) (nle rfl) (Qhf Qap rfl), aio rfl Tryz.underlying162 Qes (odt hi112a) (odt hi112b) (Nat.zero_add _), ast rfl Qes (by rfl) (mgt Qap hg114) (nle rfl) (Qhf Qap rfl), trivial⟩ ?_
       refine bln ?_
       refine thn ?_
       refine wx1 tbk [] trivial ?_
       refine thn ?_
       exact arm (mto (n := 220) [(0, (.own 0 3 (0) (p0))), (10, I y93), (13, (I (w64 (y97 + 1))))] [0, 1] [(Q19 y98 y97 x104 x107), Qcw] hφ0 (pc (.rn (Qak rfl)) (pc rwl (pc rwl pn))) (qc (spr Qai) (qc (spb (lc (.rn (Qas rn0 rn0)) ln)) qn))) (ih (w64 (y97 + 1), (y98.set y97.toNat (⟨x104.unit, (⟨x104.Part.Width, x104.Part.Gain⟩ : GPart)⟩ : GPiece)).set ((w64 (y97 + 1)).toNat) (⟨x107.unit, (⟨x107.Part.Width, x107.Part.Gain⟩ : GPart)⟩ : GPiece)) h)
      ·replace h := Qau hc102 h
       refine wfn hc102 (by kernel_rfl) ?_
       refine Qbr ?_
       refine Qay ?_
       refine Qay ?_
       refine Qbq rfl ?_
       refine thn ?_
       exact ⟨(y98), h, (mto (n := 220) [] [0, 1] [(Qlu y98), Qcw] hφ0 pn (qc (spr Qai) (qc (spb (lc (.rn (Qas rn0 rn0)) ln)) qn)))⟩
    ·skip
     refine Qaj ?_
     refine wmr (mto (n := 220) (l' := [(0, (.own 0 3 (0) (p0))), (1, I p1), (4, Qfs), (10, I p2), (11, I p3)]) (own' := [(Qez p4), Qcw]) [(0, (.own 0 3 (0) (p0))), (1, I p1), (4, Qfs), (10, I p2), (11, I p3)] [0, 1] [(Qez p4), Qcw] hφ0 (pc (.rn (Qak rfl)) (pc rwl (pc (.rn (Qas rn0 (rnc (rqr rfl) rn0))) (pc rwl (pc rwl pn))))) (qc (spr Qai) (qc (spb (lc (.rn (Qas rn0 rn0)) ln)) qn))) ?_
     refine Qcl (τ := Int × Int) (fun n t => Qbe N p0 p1 p4 k94 n t.1 t.2 = some r) (fun ⟨y115, y116⟩ => ⟨mk 220 [(0, (.own 0 3 (0) (p0))), (1, I p1), (4, Qfs), (10, I y115), (11, I y116)], [(Qez p4), Qcw]⟩) (fun t h => by rw [Qbe] at h; cases h) (fun n119 ih t h => ?_) N (p2, p3) h
     obtain ⟨y115, y116⟩ := t
     rw [Qbe] at h
     skip
     refine wsq ?_
     refine wx tbk [] trivial ?_
     rcases bft ((decide (y115 < y116))) with hc120 | hc120
     ·replace h := Qat hc120 h
      refine wft hc120 (by kernel_rfl) ?_
      refine Qam ?_
      refine thn ?_
      refine Qaj ?_
      obtain ⟨x121, hl122, h⟩ := bno h
      refine wx tbk [(3, rp [(.tmp 36, (I (w64 (y115 + y116))))] (K .u64 (IntKind.wrap .u64 (w64 (y115 + y116))))), (4, rp [(.tmp 37, (K .u64 (IntKind.wrap .u64 (w64 (y115 + y116))))), (.const (.int .u64 1), (K .u64 (1)))] (K .u64 ((IntKind.wrap .u64 (w64 (y115 + y116))) / 2))), (5, rp [(.tmp 38, (K .u64 ((IntKind.wrap .u64 (w64 (y115 + y116))) / 2)))] (I (w64 ((IntKind.wrap .u64 (w64 (y115 + y116))) / 2)))), (6, rp [(.tmp 39, (I (w64 ((IntKind.wrap .u64 (w64 (y115 + y116))) / 2))))] (I x121))] ⟨acv rfl (by rw [Tryz.underlying3]; rfl) Tryz.underlying187, Qot rfl (by decide) (by decide), acv rfl (by rw [Tryz.underlying187]; rfl) Tryz.underlying3, Qd8 hl122 (aas rfl), trivial⟩ ?_
      obtain ⟨hi123, h⟩ := cko h
      obtain ⟨hi123a, hi123b⟩ := Qbi hi123
      obtain ⟨x124, hg125, h⟩ := bno h
      obtain ⟨hi126, h⟩ := cko h
      obtain ⟨hi126a, hi126b⟩ := Qbi hi126
      obtain ⟨x127, hg128, h⟩ := bno h
      obtain ⟨x130, hf129, h⟩ := bno h
      refine wxd tbk [(3, rb [(.tmp 41, (.own 0 3 (0) (p0))), (.tmp 42, I x121)] [(0, (Qez p4))] (.ref 0 3 (x121.toNat) 0)), (4, rb [(.tmp 43, (.ref 0 3 (x121.toNat) 0))] [(0, (Qez p4))] (Q18 x124)), (7, rb [(.tmp 45, (.own 0 3 (0) (p0))), (.tmp 46, I p1)] [(0, (Qez p4))] (.ref 0 3 (p1.toNat) 0)), (8, rb [(.tmp 47, (.ref 0 3 (p1.toNat) 0))] [(0, (Qez p4))] (Q17 x127)), (9, ⟨[(.tmp 40, Qfs), (.tmp 44, (Q18 x124)), (.tmp 48, (Q17 x127))], [(1, Qcw)], I x130, [(1, Qcw)], false⟩)] ⟨aio rfl Tryz.underlying162 Qes (odt hi123a) (odt hi123b) (Nat.zero_add _), ald rfl Qes (by decide) (mgt Qap hg125) (nle rfl) rfl, aio rfl Tryz.underlying162 Qes (odt hi126a) (odt hi126b) (Nat.zero_add _), ald rfl Qes (by decide) (mgt Qap hg128) (nle rfl) rfl, Qah (first := []) (cap := [.ref 1 1 0 0]) (vs := [(.agg [(I ((⟨x124.unit, (⟨x124.Part.Width, x124.Part.Gain⟩ : GPart)⟩ : GPiece).unit)), (I ((⟨x124.unit, (⟨x124.Part.Width, x124.Part.Gain⟩ : GPart)⟩ : GPiece).Part.Width)), (I ((⟨x124.unit, (⟨x124.Part.Width, x124.Part.Gain⟩ : GPart)⟩ : GPiece).Part.Gain))]), (.agg [(I ((⟨x127.unit, (⟨x127.Part.Width, x127.Part.Gain⟩ : GPart)⟩ : GPiece).unit)), (I ((⟨x127.unit, (⟨x127.Part.Width, x127.Part.Gain⟩ : GPart)⟩ : GPiece).Part.Width)), (I ((⟨x127.unit, (⟨x127.Part.Width, x127.Part.Gain⟩ : GPart)⟩ : GPiece).Part.Gain))])]) (σr := [Qcw]) (σr' := [Qcw]) (res' := (I x130)) [1] rfl Qqc (Qde N (⟨x124.unit, (⟨x124.Part.Width, x124.Part.Gain⟩ : GPart)⟩ : GPiece) (⟨x127.unit, (⟨x127.Part.Width, x127.Part.Gain⟩ : GPart)⟩ : GPiece) _ hf129) rfl (Qbc (rnc (.plain _ (NLt.agg _ (nlc nll (nlc nll (nlc nll nl0))))) (rnc (.plain _ (NLt.agg _ (nlc nll (nlc nll (nlc nll nl0))))) (rnc (Qa2 rfl) rn0)))) (slc (Qae (rnc (.plain _ (NLt.fn _ _ _ nl0 nl0)) rn0)) Qag) (slc (Qae (rnc (.plain _ (NLt.fn _ _ _ nl0 nl0)) rn0)) Qag) (.plain _ nll) rfl rfl rfl, trivial⟩ ?_
      rcases bft ((decide (x130 < 0))) with hc131 | hc131
      ·replace h := Qat hc131 h
       refine wft hc131 (by kernel_rfl) ?_
       refine wx1 tbk [] trivial ?_
       refine bln ?_
       refine thn ?_
       exact arm (mto (n := 220) [(0, (.own 0 3 (0) (p0))), (1, I p1), (4, Qfs), (10, (I (w64 (x121 + 1)))), (11, I y116)] [0, 1] [(Qez p4), Qcw] hφ0 (pc (.rn (Qak rfl)) (pc rwl (pc (.rn (Qas rn0 (rnc (rqr rfl) rn0))) (pc rwl (pc rwl pn))))) (qc (spr Qai) (qc (spb (lc (.rn (Qas rn0 rn0)) ln)) qn))) (ih (w64 (x121 + 1), y116) h)
      ·replace h := Qau hc131 h
       refine wfn hc131 (by kernel_rfl) ?_
       refine wx1 tbk [] trivial ?_
       refine bln ?_
       refine thn ?_
       exact arm (mto (n := 220) [(0, (.own 0 3 (0) (p0))), (1, I p1), (4, Qfs), (10, I y115), (11, I x121)] [0, 1] [(Qez p4), Qcw] hφ0 (pc (.rn (Qak rfl)) (pc rwl (pc (.rn (Qas rn0 (rnc (rqr rfl) rn0))) (pc rwl (pc rwl pn))))) (qc (spr Qai) (qc (spb (lc (.rn (Qas rn0 rn0)) ln)) qn))) (ih (y115, x121) h)
     ·replace h := Qau hc120 h
      refine wfn hc120 (by kernel_rfl) ?_
      refine Qbr ?_
      refine Qay ?_
      refine Qay ?_
      refine Qbq rfl ?_
      refine thn ?_
      exact ⟨(y115), h, (mto (n := 220) [(0, (.own 0 3 (0) (p0))), (1, I p1), (10, I y115)] [0, 1] [(Qez p4), Qcw] hφ0 (pc (.rn (Qak rfl)) (pc rwl (pc rwl pn))) (qc (spr Qai) (qc (spb (lc (.rn (Qas rn0 rn0)) ln)) qn)))⟩
   ·replace h := Qau hc92 h
    refine wfn hc92 (by kernel_rfl) ?_
    refine Qam ?_
    refine thn ?_
    exact ⟨(), h, (mto (n := 220) [(0, (.own 0 3 (0) (p0))), (1, I p1), (2, I p2), (3, I p3), (4, Qfs)] [0, 1] [(Qez p4), Qcw] hφ0 (pc (.rn (Qak rfl)) (pc rwl (pc rwl (pc rwl (pc (.rn (Qas rn0 (rnc (rqr rfl) rn0))) pn))))) (qc (spr Qai) (qc (spb (lc (.rn (Qas rn0 rn0)) ln)) qn)))⟩
def Qb1 (N : Nat) (p0 : Nat) (p1 : Int) (y7 : Int) (k15 : Int × (List GPiece) → Option (List GPiece)) : Nat → Int → Int → (List GPiece) → Option (List GPiece)
  | 0, _, _, _ => none
  | n25 + 1, y19, y20, y21 =>
    bif (decide (y20 ≤ p1)) then
     (Qcd N p0 y19 (w64 (y19 + y7)) y20 y21).bind fun x28 =>
     (some (w64 (y20 + (w64 (2 * y7))))).bind fun x29 =>
     Qb1 N p0 p1 y7 k15 n25 y20 x29 x28
    else
     k15 (y19, y21)
def Qbm (N : Nat) (p0 : Nat) (p1 : Int) : Nat → Int → (List GPiece) → Option (List GPiece)
  | 0, _, _ => none
  | n11 + 1, y7, y8 =>
    bif (decide (y7 < p1)) then
     Qc5 (fun ⟨y13, y14⟩ =>
       bif (decide ((w64 (y13 + y7)) < p1)) then
        (Qcd N p0 y13 (w64 (y13 + y7)) p1 y14).bind fun x18 =>
        Qbm N p0 p1 n11 (w64 (y7 * 2)) x18
       else
        Qbm N p0 p1 n11 (w64 (y7 * 2)) y14) fun k15 : Int × (List GPiece) → Option (List GPiece) =>
     Qb1 N p0 p1 y7 k15 N 0 (w64 (2 * y7)) y8
    else
     some y8
def Qb0 (N : Nat) (p0 : Nat) (p1 : Int) (k4 : Int × (List GPiece) → Option (List GPiece)) : Nat → Int → Int → (List GPiece) → Option (List GPiece)
  | 0, _, _, _ => none
  | n37 + 1, y31, y32, y33 =>
    bif (decide (y32 ≤ p1)) then
     (Qcf N p0 y31 y32 y33).bind fun x40 =>
     Qb0 N p0 p1 k4 n37 y32 (w64 (y32 + 20)) x40
    else
     k4 (y31, y33)
def Qdv (N : Nat) (p0 : Nat) (p1 : Int) (p2 : (List GPiece)) : Option (List GPiece) :=
  Qc5 (fun ⟨y2, y3⟩ =>
    (Qcf N p0 y2 p1 y3).bind fun x6 =>
    Qbm N p0 p1 N 20 x6) fun k4 : Int × (List GPiece) → Option (List GPiece) =>
  Qb0 N p0 p1 k4 N 0 20 p2
def Qis : AV := .fn (.func 110) [] [(.ref 1 1 (0) 0)]
def Q94 (p2 : (List GPiece)) : Slot := .own 3 ((p2 : List GPiece).map Qap)
def Qgf : Slot := .own 1 [[(.fn (.func 89) [] [])]]
def Q93 (y3 : (List GPiece)) : Slot := .own 3 ((y3 : List GPiece).map Qap)
def Q5t (x6 : (List GPiece)) : Slot := .own 3 ((x6 : List GPiece).map Qap)
def Quq (y8 : (List GPiece)) : Slot := .own 3 ((y8 : List GPiece).map Qap)
def Qyl (y14 : (List GPiece)) : Slot := .own 3 ((y14 : List GPiece).map Qap)
def Q2n (x18 : (List GPiece)) : Slot := .own 3 ((x18 : List GPiece).map Qap)
def Qyk (y21 : (List GPiece)) : Slot := .own 3 ((y21 : List GPiece).map Qap)
def Q2m (x28 : (List GPiece)) : Slot := .own 3 ((x28 : List GPiece).map Qap)
def Qyj (y33 : (List GPiece)) : Slot := .own 3 ((y33 : List GPiece).map Qap)
def Q2l (x40 : (List GPiece)) : Slot := .own 3 ((x40 : List GPiece).map Qap)
theorem Qgy (N : Nat) (p0 : Nat) (p1 : Int) (p2 : (List GPiece)) (r : (List GPiece)) (h : Qdv N p0 p1 p2 = some r) : Spec Tryz.prog 118 [(.own 0 3 (0) (p0)), (I (p1)), Qis] [(Q94 p2), Qgf] (.tup []) [(.own 3 ((r : List GPiece).map Qap)), Qgf] := by
  refine Qac Tryz.func118 rfl 2 (nle rfl) (fun X φ0 w0 hφ0 hd0 => ?_)
  unfold Qdv at h
  refine Qbh ?_
  refine wx tbk [] trivial ?_
  refine wx tbk [] trivial ?_
  obtain ⟨k4, hk_k4, h⟩ := jko h
  refine wjn (τ := Int × (List GPiece)) (fun t => k4 t = some r) (fun ⟨y2, y3⟩ => ⟨mk 63 [(0, (.own 0 3 (0) (p0))), (1, I p1), (2, Qis), (6, I 20), (7, I y2)], [(Q93 y3), Qgf]⟩) (fun t h => ?_) ?_
  ·subst hk_k4
   obtain ⟨y2, y3⟩ := t
   obtain ⟨x6, hf5, h⟩ := bno h
   refine wx tbk [(4, ⟨[fu 120, (.tmp 23, (.own 0 3 (0) (p0))), (.tmp 24, I y2), (.tmp 25, I p1), (.tmp 26, Qis)], [(0, (Q93 y3)), (1, Qgf)], (.tup []), [(0, (Q5t x6)), (1, Qgf)], false⟩)] ⟨Qah (first := []) (cap := []) (vs := [(.own 0 3 (0) (p0)), I y2, I p1, Qis]) (σr := [(Q93 y3), Qgf]) (σr' := [(Q5t x6), Qgf]) (res' := (.tup [])) [0, 1] rfl Qzi (Qd0 N p0 y2 p1 y3 _ hf5) rfl (Qbc (rnc (Qfy rfl) (rnc (.plain _ nll) (rnc (.plain _ nll) (rnc (Qas rn0 (rnc (Qa2 rfl) rn0)) rn0))))) (slc (Qd7 Qai) (slc (Qae (rnc (.plain _ (NLt.fn _ _ _ nl0 nl0)) rn0)) Qag)) (slc (Qd7 Qai) (slc (Qae (rnc (.plain _ (NLt.fn _ _ _ nl0 nl0)) rn0)) Qag)) (.plain _ (NLt.tup _ nl0)) rfl rfl rfl, trivial⟩ ?_
   refine Qaj ?_
   refine wmr (mto (n := 63) (l' := [(0, (.own 0 3 (0) (p0))), (1, I p1), (2, Qis), (6, I 20)]) (own' := [(Q5t x6), Qgf]) [(0, (.own 0 3 (0) (p0))), (1, I p1), (2, Qis), (6, I 20)] [0, 1] [(Q5t x6), Qgf] hφ0 (pc (.rn (Qak rfl)) (pc rwl (pc (.rn (Qas rn0 (rnc (rqr rfl) rn0))) (pc rwl pn)))) (qc (spr Qai) (qc (spb (lc (.rn (Qas rn0 rn0)) ln)) qn))) ?_
   refine Qcl (τ := Int × (List GPiece)) (fun n t => Qbm N p0 p1 n t.1 t.2 = some r) (fun ⟨y7, y8⟩ => ⟨mk 63 [(0, (.own 0 3 (0) (p0))), (1, I p1), (2, Qis), (6, I y7)], [(Quq y8), Qgf]⟩) (fun t h => by rw [Qbm] at h; cases h) (fun n11 ih t h => ?_) N (20, x6) h
   obtain ⟨y7, y8⟩ := t
   rw [Qbm] at h
   skip
   refine wsq ?_
   refine wx tbk [] trivial ?_
   rcases bft ((decide (y7 < p1))) with hc12 | hc12
   ·replace h := Qat hc12 h
    refine wft hc12 (by kernel_rfl) ?_
    refine Qam ?_
    refine thn ?_
    refine Qaj ?_
    refine wx tbk [] trivial ?_
    obtain ⟨k15, hk_k15, h⟩ := jko h
    refine wjn (τ := Int × (List GPiece)) (fun t => k15 t = some r) (fun ⟨y13, y14⟩ => ⟨mk 63 [(0, (.own 0 3 (0) (p0))), (1, I p1), (2, Qis), (6, I y7), (7, I y13)], [(Qyl y14), Qgf]⟩) (fun t h => ?_) ?_
    ·subst hk_k15
     obtain ⟨y13, y14⟩ := t
     refine wsq ?_
     refine wx tbk [] trivial ?_
     refine wx tbk [] trivial ?_
     rcases bft ((decide ((w64 (y13 + y7)) < p1))) with hc16 | hc16
     ·replace h := Qat hc16 h
      refine wft hc16 (by kernel_rfl) ?_
      obtain ⟨x18, hf17, h⟩ := bno h
      refine wx1 tbk [(5, ⟨[fu 121, (.tmp 55, (.own 0 3 (0) (p0))), (.tmp 56, I y13), (.tmp 57, (I (w64 (y13 + y7)))), (.tmp 58, I p1), (.tmp 59, Qis)], [(0, (Qyl y14)), (1, Qgf)], (.tup []), [(0, (Q2n x18)), (1, Qgf)], false⟩)] ⟨Qah (first := []) (cap := []) (vs := [(.own 0 3 (0) (p0)), I y13, (I (w64 (y13 + y7))), I p1, Qis]) (σr := [(Qyl y14), Qgf]) (σr' := [(Q2n x18), Qgf]) (res' := (.tup [])) [0, 1] rfl Qqb (Qei N p0 y13 (w64 (y13 + y7)) p1 y14 _ hf17) rfl (Qbc (rnc (Qfy rfl) (rnc (.plain _ nll) (rnc (.plain _ nll) (rnc (.plain _ nll) (rnc (Qas rn0 (rnc (Qa2 rfl) rn0)) rn0)))))) (slc (Qd7 Qai) (slc (Qae (rnc (.plain _ (NLt.fn _ _ _ nl0 nl0)) rn0)) Qag)) (slc (Qd7 Qai) (slc (Qae (rnc (.plain _ (NLt.fn _ _ _ nl0 nl0)) rn0)) Qag)) (.plain _ (NLt.tup _ nl0)) rfl rfl rfl, trivial⟩ ?_
      refine thn ?_
      refine wx1 tbk [] trivial ?_
      refine bln ?_
      refine thn ?_
      exact arm (mto (n := 63) [(0, (.own 0 3 (0) (p0))), (1, I p1), (2, Qis), (6, (I (w64 (y7 * 2))))] [0, 1] [(Q2n x18), Qgf] hφ0 (pc (.rn (Qak rfl)) (pc rwl (pc (.rn (Qas rn0 (rnc (rqr rfl) rn0))) (pc rwl pn)))) (qc (spr Qai) (qc (spb (lc (.rn (Qas rn0 rn0)) ln)) qn))) (ih (w64 (y7 * 2), x18) h)
     ·replace h := Qau hc16 h
      refine wfn hc16 (by kernel_rfl) ?_
      refine Qam ?_
      refine thn ?_
      refine wx1 tbk [] trivial ?_
      refine bln ?_
      refine thn ?_
      exact arm (mto (n := 63) [(0, (.own 0 3 (0) (p0))), (1, I p1), (2, Qis), (6, (I (w64 (y7 * 2))))] [0, 1] [(Qyl y14), Qgf] hφ0 (pc (.rn (Qak rfl)) (pc rwl (pc (.rn (Qas rn0 (rnc (rqr rfl) rn0))) (pc rwl pn)))) (qc (spr Qai) (qc (spb (lc (.rn (Qas rn0 rn0)) ln)) qn))) (ih (w64 (y7 * 2), y14) h)
    ·skip
     refine Qaj ?_
     refine wmr (mto (n := 63) (l' := [(0, (.own 0 3 (0) (p0))), (1, I p1), (2, Qis), (6, I y7), (7, I 0), (8, (I ((w64 (2 * y7)))))]) (own' := [(Quq y8), Qgf]) [(0, (.own 0 3 (0) (p0))), (1, I p1), (2, Qis), (6, I y7), (7, I 0), (8, (I (w64 (2 * y7))))] [0, 1] [(Quq y8), Qgf] hφ0 (pc (.rn (Qak rfl)) (pc rwl (pc (.rn (Qas rn0 (rnc (rqr rfl) rn0))) (pc rwl (pc rwl (pc rwl pn)))))) (qc (spr Qai) (qc (spb (lc (.rn (Qas rn0 rn0)) ln)) qn))) ?_
     refine Qcl (τ := Int × Int × (List GPiece)) (fun n t => Qb1 N p0 p1 y7 k15 n t.1 t.2.1 t.2.2 = some r) (fun ⟨y19, y20, y21⟩ => ⟨mk 63 [(0, (.own 0 3 (0) (p0))), (1, I p1), (2, Qis), (6, I y7), (7, I y19), (8, I y20)], [(Qyk y21), Qgf]⟩) (fun t h => by rw [Qb1] at h; cases h) (fun n25 ih t h => ?_) N (0, w64 (2 * y7), y8) h
     obtain ⟨y19, y20, y21⟩ := t
     rw [Qb1] at h
     skip
     refine wsq ?_
     refine wx tbk [] trivial ?_
     rcases bft ((decide (y20 ≤ p1))) with hc26 | hc26
     ·replace h := Qat hc26 h
      refine wft hc26 (by kernel_rfl) ?_
      refine Qam ?_
      refine thn ?_
      refine Qaj ?_
      obtain ⟨x28, hf27, h⟩ := bno h
      refine wx tbk [(7, ⟨[fu 121, (.tmp 36, (.own 0 3 (0) (p0))), (.tmp 37, I y19), (.tmp 40, (I (w64 (y19 + y7)))), (.tmp 41, I y20), (.tmp 42, Qis)], [(0, (Qyk y21)), (1, Qgf)], (.tup []), [(0, (Q2m x28)), (1, Qgf)], false⟩)] ⟨Qah (first := []) (cap := []) (vs := [(.own 0 3 (0) (p0)), I y19, (I (w64 (y19 + y7))), I y20, Qis]) (σr := [(Qyk y21), Qgf]) (σr' := [(Q2m x28), Qgf]) (res' := (.tup [])) [0, 1] rfl Qqb (Qei N p0 y19 (w64 (y19 + y7)) y20 y21 _ hf27) rfl (Qbc (rnc (Qfy rfl) (rnc (.plain _ nll) (rnc (.plain _ nll) (rnc (.plain _ nll) (rnc (Qas rn0 (rnc (Qa2 rfl) rn0)) rn0)))))) (slc (Qd7 Qai) (slc (Qae (rnc (.plain _ (NLt.fn _ _ _ nl0 nl0)) rn0)) Qag)) (slc (Qd7 Qai) (slc (Qae (rnc (.plain _ (NLt.fn _ _ _ nl0 nl0)) rn0)) Qag)) (.plain _ (NLt.tup _ nl0)) rfl rfl rfl, trivial⟩ ?_
      refine wx tbk [] trivial ?_
      obtain ⟨x29, hl30, h⟩ := bno h
      refine wx1 tbk [(4, rp [(.tmp 48, (I (w64 (y20 + (w64 (2 * y7))))))] (I x29))] ⟨Qd8 hl30 (aas rfl), trivial⟩ ?_
      refine bln ?_
      refine thn ?_
      exact arm (mto (n := 63) [(0, (.own 0 3 (0) (p0))), (1, I p1), (2, Qis), (6, I y7), (7, I y20), (8, I x29)] [0, 1] [(Q2m x28), Qgf] hφ0 (pc (.rn (Qak rfl)) (pc rwl (pc (.rn (Qas rn0 (rnc (rqr rfl) rn0))) (pc rwl (pc rwl (pc rwl pn)))))) (qc (spr Qai) (qc (spb (lc (.rn (Qas rn0 rn0)) ln)) qn))) (ih (y20, x29, x28) h)
     ·replace h := Qau hc26 h
      refine wfn hc26 (by kernel_rfl) ?_
      refine Qbr ?_
      refine Qay ?_
      refine Qay ?_
      refine Qbq rfl ?_
      refine thn ?_
      exact ⟨(y19, y21), h, (mto (n := 63) [(0, (.own 0 3 (0) (p0))), (1, I p1), (2, Qis), (6, I y7), (7, I y19)] [0, 1] [(Qyk y21), Qgf] hφ0 (pc (.rn (Qak rfl)) (pc rwl (pc (.rn (Qas rn0 (rnc (rqr rfl) rn0))) (pc rwl (pc rwl pn))))) (qc (spr Qai) (qc (spb (lc (.rn (Qas rn0 rn0)) ln)) qn)))⟩
   ·replace h := Qau hc12 h
    refine wfn hc12 (by kernel_rfl) ?_
    refine Qbr ?_
    refine Qay ?_
    refine Qay ?_
    refine Qbq rfl ?_
    obtain rfl := osi h
    exact ⟨_, (mto (n := 63) (l' := []) (own' := [(Quq y8), Qgf]) [] [0, 1] [(Quq y8), Qgf] hφ0 pn (qc (spr Qai) (qc (spb (lc (.rn (Qas rn0 rn0)) ln)) qn))), Qb7 (vs := []) trivial rfl (NLt.tup _ nl0) (by kernel_rfl) (Qaf (Qhw Qai _) (Qaf (Qav (nlc (NLt.of0 (NLt.fn _ _ _ nl0 nl0)) nl0)) Qbd))⟩
  ·skip
   refine Qaj ?_
   refine wmr (mto (n := 63) (l' := [(0, (.own 0 3 (0) (p0))), (1, I p1), (2, Qis), (6, I 20), (7, I 0), (8, I 20)]) (own' := [(Q94 p2), Qgf]) [(0, (.own 0 3 (0) (p0))), (1, I p1), (2, Qis), (6, I 20), (7, I 0), (8, I 20)] [0, 1] [(Q94 p2), Qgf] hφ0 (pc (.rn (Qak rfl)) (pc rwl (pc (.rn (Qas rn0 (rnc (rqr rfl) rn0))) (pc rwl (pc rwl (pc rwl pn)))))) (qc (spr Qai) (qc (spb (lc (.rn (Qas rn0 rn0)) ln)) qn))) ?_
   refine Qcl (τ := Int × Int × (List GPiece)) (fun n t => Qb0 N p0 p1 k4 n t.1 t.2.1 t.2.2 = some r) (fun ⟨y31, y32, y33⟩ => ⟨mk 63 [(0, (.own 0 3 (0) (p0))), (1, I p1), (2, Qis), (6, I 20), (7, I y31), (8, I y32)], [(Qyj y33), Qgf]⟩) (fun t h => by rw [Qb0] at h; cases h) (fun n37 ih t h => ?_) N (0, 20, p2) h
   obtain ⟨y31, y32, y33⟩ := t
   rw [Qb0] at h
   skip
   refine wsq ?_
   refine wx tbk [] trivial ?_
   rcases bft ((decide (y32 ≤ p1))) with hc38 | hc38
   ·replace h := Qat hc38 h
    refine wft hc38 (by kernel_rfl) ?_
    refine Qam ?_
    refine thn ?_
    refine Qaj ?_
    obtain ⟨x40, hf39, h⟩ := bno h
    refine wx tbk [(4, ⟨[fu 120, (.tmp 14, (.own 0 3 (0) (p0))), (.tmp 15, I y31), (.tmp 16, I y32), (.tmp 17, Qis)], [(0, (Qyj y33)), (1, Qgf)], (.tup []), [(0, (Q2l x40)), (1, Qgf)], false⟩)] ⟨Qah (first := []) (cap := []) (vs := [(.own 0 3 (0) (p0)), I y31, I y32, Qis]) (σr := [(Qyj y33), Qgf]) (σr' := [(Q2l x40), Qgf]) (res' := (.tup [])) [0, 1] rfl Qzi (Qd0 N p0 y31 y32 y33 _ hf39) rfl (Qbc (rnc (Qfy rfl) (rnc (.plain _ nll) (rnc (.plain _ nll) (rnc (Qas rn0 (rnc (Qa2 rfl) rn0)) rn0))))) (slc (Qd7 Qai) (slc (Qae (rnc (.plain _ (NLt.fn _ _ _ nl0 nl0)) rn0)) Qag)) (slc (Qd7 Qai) (slc (Qae (rnc (.plain _ (NLt.fn _ _ _ nl0 nl0)) rn0)) Qag)) (.plain _ (NLt.tup _ nl0)) rfl rfl rfl, trivial⟩ ?_
    refine wx tbk [] trivial ?_
    refine wx1 tbk [] trivial ?_
    refine bln ?_
    refine thn ?_
    exact arm (mto (n := 63) [(0, (.own 0 3 (0) (p0))), (1, I p1), (2, Qis), (6, I 20), (7, I y32), (8, (I (w64 (y32 + 20))))] [0, 1] [(Q2l x40), Qgf] hφ0 (pc (.rn (Qak rfl)) (pc rwl (pc (.rn (Qas rn0 (rnc (rqr rfl) rn0))) (pc rwl (pc rwl (pc rwl pn)))))) (qc (spr Qai) (qc (spb (lc (.rn (Qas rn0 rn0)) ln)) qn))) (ih (y32, w64 (y32 + 20), x40) h)
   ·replace h := Qau hc38 h
    refine wfn hc38 (by kernel_rfl) ?_
    refine Qbr ?_
    refine Qay ?_
    refine Qay ?_
    refine Qbq rfl ?_
    refine thn ?_
    exact ⟨(y31, y33), h, (mto (n := 63) [(0, (.own 0 3 (0) (p0))), (1, I p1), (2, Qis), (6, I 20), (7, I y31)] [0, 1] [(Qyj y33), Qgf] hφ0 (pc (.rn (Qak rfl)) (pc rwl (pc (.rn (Qas rn0 (rnc (rqr rfl) rn0))) (pc rwl (pc rwl pn))))) (qc (spr Qai) (qc (spb (lc (.rn (Qas rn0 rn0)) ln)) qn)))⟩
def Qcq (N : Nat) (p0 : Nat) (p1 : (List GPiece)) : Option (List GPiece) :=
  (Qdv N p0 ((p0 : Nat) : Int) p1).bind fun x3 =>
  some x3
def Q96 : AV := .fn (.func 110) [] [(.ref 1 1 (0) 0)]
def Q95 (p1 : (List GPiece)) : Slot := .own 3 ((p1 : List GPiece).map Qap)
def Qur : Slot := .own 1 [[(.fn (.func 89) [] [])]]
def Q5u (x3 : (List GPiece)) : Slot := .own 3 ((x3 : List GPiece).map Qap)
theorem Qe1 (N : Nat) (p0 : Nat) (p1 : (List GPiece)) (r : (List GPiece)) (h : Qcq N p0 p1 = some r) : Spec Tryz.prog 109 [(.own 0 3 (0) (p0)), Q96] [(Q95 p1), Qur] (.tup []) [(.own 3 ((r : List GPiece).map Qap)), Qur] := by
  refine Qac Tryz.func109 rfl 2 (nle rfl) (fun X φ0 w0 hφ0 hd0 => ?_)
  unfold Qcq at h
  refine Qbh ?_
  obtain ⟨x3, hf2, h⟩ := bno h
  refine wx1 tbk [(2, rp [(.tmp 5, (.own 0 3 (0) (p0)))] (I (((p0 : Nat) : Int)))), (4, ⟨[fu 118, (.tmp 4, (.own 0 3 (0) (p0))), (.tmp 6, (I (((p0 : Nat) : Int)))), (.tmp 7, Q96)], [(0, (Q95 p1)), (1, Qur)], (.tup []), [(0, (Q5u x3)), (1, Qur)], false⟩)] ⟨aln rfl Tryz.underlying162 rfl, Qah (first := []) (cap := []) (vs := [(.own 0 3 (0) (p0)), (I (((p0 : Nat) : Int))), Q96]) (σr := [(Q95 p1), Qur]) (σr' := [(Q5u x3), Qur]) (res' := (.tup [])) [0, 1] rfl Q6y (Qgy N p0 ((p0 : Nat) : Int) p1 _ hf2) rfl (Qbc (rnc (Qfy rfl) (rnc (.plain _ nll) (rnc (Qas rn0 (rnc (Qa2 rfl) rn0)) rn0)))) (slc (Qd7 Qai) (slc (Qae (rnc (.plain _ (NLt.fn _ _ _ nl0 nl0)) rn0)) Qag)) (slc (Qd7 Qai) (slc (Qae (rnc (.plain _ (NLt.fn _ _ _ nl0 nl0)) rn0)) Qag)) (.plain _ (NLt.tup _ nl0)) rfl rfl rfl, trivial⟩ ?_
  obtain rfl := osi h
  exact ⟨_, (mto (n := 9) (l' := []) (own' := [(Q5u x3), Qur]) [] [0, 1] [(Q5u x3), Qur] hφ0 pn (qc (spr Qai) (qc (spb (lc (.rn (Qas rn0 rn0)) ln)) qn))), Qb7 (vs := []) trivial rfl (NLt.tup _ nl0) (by kernel_rfl) (Qaf (Qhw Qai _) (Qaf (Qav (nlc (NLt.of0 (NLt.fn _ _ _ nl0 nl0)) nl0)) Qbd))⟩
def Qe7 (N : Nat) (p0 : Nat) (p1 : (List GPiece)) : Option (List GPiece) :=
  (Qcq N p0 p1).bind fun x3 =>
  some x3
def Q97 (p1 : (List GPiece)) : Slot := .own 3 ((p1 : List GPiece).map Qap)
def Q98 : AV := .fn (.func 110) [] [(.ref 1 1 (0) 0)]
def Q5w : Slot := .own 1 [[(.fn (.func 89) [] [])]]
def Q5v (x3 : (List GPiece)) : Slot := .own 3 ((x3 : List GPiece).map Qap)
theorem Qi4 (N : Nat) (p0 : Nat) (p1 : (List GPiece)) (r : (List GPiece)) (h : Qe7 N p0 p1 = some r) : Spec Tryz.prog 88 [(.own 0 3 (0) (p0)), (.fn (.func 89) [] [])] [(Q97 p1)] (.own 0 3 (0) (p0)) [(.own 3 ((r : List GPiece).map Qap))] := by
  refine Qac Tryz.func88 rfl 1 (nle rfl) (fun X φ0 w0 hφ0 hd0 => ?_)
  unfold Qe7 at h
  refine Qbh ?_
  refine wx tbk [] trivial ?_
  obtain ⟨x3, hf2, h⟩ := bno h
  refine wx tbk [(1, rp [(.tmp 3, .ref 1 1 0 0)] Q98), (2, ⟨[fu 109, (.tmp 5, (.own 0 3 (0) (p0))), (.tmp 6, Q98)], [(0, (Q97 p1)), (1, Q5w)], (.tup []), [(0, (Q5v x3)), (1, Q5w)], false⟩)] ⟨Qdd (fs := []) (cs := [.ref 1 1 0 0]) rfl rfl rfl rfl, Qah (first := []) (cap := []) (vs := [(.own 0 3 (0) (p0)), Q98]) (σr := [(Q97 p1), Q5w]) (σr' := [(Q5v x3), Q5w]) (res' := (.tup [])) [0, 1] rfl Q65 (Qe1 N p0 p1 _ hf2) rfl (Qbc (rnc (Qfy rfl) (rnc (Qas rn0 (rnc (Qa2 rfl) rn0)) rn0))) (slc (Qd7 Qai) (slc (Qae (rnc (.plain _ (NLt.fn _ _ _ nl0 nl0)) rn0)) Qag)) (slc (Qd7 Qai) (slc (Qae (rnc (.plain _ (NLt.fn _ _ _ nl0 nl0)) rn0)) Qag)) (.plain _ (NLt.tup _ nl0)) rfl rfl rfl, trivial⟩ ?_
  refine wx tbk [] trivial ?_
  refine wmr (mto (n := 9) (l' := [(4, (.own 0 3 (0) (p0)))]) (own' := [(Q5v x3)]) [(4, (.own 0 3 (0) (p0)))] [0] [(Q5v x3)] hφ0 (pc (.rn (Qak rfl)) pn) (qc (spr Qai) qn)) ?_
  refine Qaa ?_
  obtain rfl := osi h
  exact ⟨_, Mor.rfl, Qb7 (vs := [(.own 0 3 (0) (p0))]) ⟨rot (by kernel_rfl), trivial⟩ rfl (NLt.own _ _ _ _ (by decide)) (by kernel_rfl) (Qaf (Qhw Qai _) Qbd)⟩
def Qdf (N : Nat) (p0 : Nat) (p1 : (List Int)) (k7 : Int → Option Int) : Nat → Int → Int → Option Int
  | 0, _, _ => none
  | n12 + 1, y8, y9 =>
    bif (decide (y9 < ((p0 : Nat) : Int))) then
     chk (decide (0 ≤ y9) && decide (y9.toNat < p0)) <|
     (p1[y9.toNat]?).bind fun x15 =>
     (some (if x15 < y8 then x15 else y8)).bind fun x17 =>
     Qdf N p0 p1 k7 n12 x17 (w64 (y9 + 1))
    else
     k7 (y8)
def Qgn (N : Nat) (p0 : Nat) (p1 : (List Int)) : Option Int :=
  Qc5 (fun _ =>
    chk (decide (0 ≤ 0) && decide ((0 : Int).toNat < p0)) <|
    (p1[(0 : Int).toNat]?).bind fun x4 =>
    Qc5 (fun y6 =>
      some y6) fun k7 : Int → Option Int =>
    Qdf N p0 p1 k7 N x4 1) fun k2 : Unit → Option Int =>
  bif (decide (((p0 : Nat) : Int) < 1)) then
   none
  else
   k2 ()
def Qne (p1 : (List Int)) : Slot := .own 1 ((p1 : List Int).map Qal)
theorem Qkr (N : Nat) (p0 : Nat) (p1 : (List Int)) (r : Int) (h : Qgn N p0 p1 = some r) : Spec Tryz.prog 90 [(.own 0 1 (0) (p0))] [(Qne p1)] (I (r)) [(Qne p1)] := by
  refine Qac Tryz.func90 rfl 1 (nle rfl) (fun X φ0 w0 hφ0 hd0 => ?_)
  unfold Qgn at h
  refine Qbh ?_
  refine wx tbk [] trivial ?_
  obtain ⟨k2, hk_k2, h⟩ := jko h
  refine wjn (τ := Unit) (fun t => k2 t = some r) (fun _ => ⟨mk 25 [(0, (.own 0 1 (0) (p0)))], [(Qne p1)]⟩) (fun t h => ?_) ?_
  ·subst hk_k2
   obtain ⟨hi3, h⟩ := cko h
   obtain ⟨hi3a, hi3b⟩ := Qbi hi3
   obtain ⟨x4, hg5, h⟩ := bno h
   refine wx tbk [(1, rb [(.tmp 9, (.own 0 1 (0) (p0))), ci 0] [(0, (Qne p1))] (.ref 0 1 ((0 : Int).toNat) 0)), (2, rb [(.tmp 10, (.ref 0 1 ((0 : Int).toNat) 0))] [(0, (Qne p1))] (I x4))] ⟨aio rfl Tryz.underlying73 ti3 (odt hi3a) (odt hi3b) (Nat.zero_add _), ald rfl ti3 (by decide) (mgt Qal hg5) (nle rfl) rfl, trivial⟩ ?_
   obtain ⟨k7, hk_k7, h⟩ := jko h
   refine wjn (τ := Int) (fun t => k7 t = some r) (fun y6 => ⟨mk 25 [(3, I y6)], [(Qne p1)]⟩) (fun y6 h => ?_) ?_
   ·subst hk_k7
    refine wx tbk [] trivial ?_
    refine wmr (mto (n := 25) (l' := [(2, I y6)]) (own' := [(Qne p1)]) [(2, I y6)] [0] [(Qne p1)] hφ0 (pc rwl pn) (qc (spr Qab) qn)) ?_
    refine Qaa ?_
    obtain rfl := osi h
    exact ⟨_, Mor.rfl, Qb7 (vs := [I y6]) ⟨rot (by kernel_rfl), trivial⟩ rfl (NLt.of0 nll) (by kernel_rfl) (Qaf (Qhw Qab _) Qbd)⟩
   ·skip
    refine wx tbk [] trivial ?_
    refine Qaj ?_
    refine wmr (mto (n := 25) (l' := [(0, (.own 0 1 (0) (p0))), (3, I x4), (4, I 1)]) (own' := [(Qne p1)]) [(0, (.own 0 1 (0) (p0))), (3, I x4), (4, I 1)] [0] [(Qne p1)] hφ0 (pc (.rn (Qak rfl)) (pc rwl (pc rwl pn))) (qc (spr Qab) qn)) ?_
    refine Qcl (τ := Int × Int) (fun n t => Qdf N p0 p1 k7 n t.1 t.2 = some r) (fun ⟨y8, y9⟩ => ⟨mk 25 [(0, (.own 0 1 (0) (p0))), (3, I y8), (4, I y9)], [(Qne p1)]⟩) (fun t h => by rw [Qdf] at h; cases h) (fun n12 ih t h => ?_) N (x4, 1) h
    obtain ⟨y8, y9⟩ := t
    rw [Qdf] at h
    skip
    refine wsq ?_
    refine wx tbk [(2, rp [(.tmp 13, (.own 0 1 (0) (p0)))] (I (((p0 : Nat) : Int))))] ⟨aln rfl Tryz.underlying73 rfl, trivial⟩ ?_
    rcases bft ((decide (y9 < ((p0 : Nat) : Int)))) with hc13 | hc13
    ·replace h := Qat hc13 h
     refine wft hc13 (by kernel_rfl) ?_
     refine Qam ?_
     refine thn ?_
     refine wsq ?_
     refine Qaj ?_
     obtain ⟨hi14, h⟩ := cko h
     obtain ⟨hi14a, hi14b⟩ := Qbi hi14
     obtain ⟨x15, hg16, h⟩ := bno h
     obtain ⟨x17, hl18, h⟩ := bno h
     refine wx1 tbk [(3, rb [(.tmp 19, (.own 0 1 (0) (p0))), (.tmp 20, I y9)] [(0, (Qne p1))] (.ref 0 1 (y9.toNat) 0)), (4, rb [(.tmp 21, (.ref 0 1 (y9.toNat) 0))] [(0, (Qne p1))] (I x15)), (5, rp [(.tmp 18, I y8), (.tmp 22, I x15)] (I ((if x15 < y8 then x15 else y8)))), (6, rp [(.tmp 23, (I ((if x15 < y8 then x15 else y8))))] (I x17))] ⟨aio rfl Tryz.underlying73 ti3 (odt hi14a) (odt hi14b) (Nat.zero_add _), ald rfl ti3 (by decide) (mgt Qal hg16) (nle rfl) rfl, Qmm rfl, Qd8 hl18 (aas rfl), trivial⟩ ?_
     refine bln ?_
     refine thn ?_
     refine wx1 tbk [] trivial ?_
     refine thn ?_
     exact arm (mto (n := 25) [(0, (.own 0 1 (0) (p0))), (3, I x17), (4, (I (w64 (y9 + 1))))] [0] [(Qne p1)] hφ0 (pc (.rn (Qak rfl)) (pc rwl (pc rwl pn))) (qc (spr Qab) qn)) (ih (x17, w64 (y9 + 1)) h)
    ·replace h := Qau hc13 h
     refine wfn hc13 (by kernel_rfl) ?_
     refine Qbr ?_
     refine Qay ?_
     refine Qay ?_
     refine Qbq rfl ?_
     refine thn ?_
     exact ⟨(y8), h, (mto (n := 25) [(3, I y8)] [0] [(Qne p1)] hφ0 (pc rwl pn) (qc (spr Qab) qn))⟩
  ·skip
   refine wx tbk [(1, rp [(.tmp 5, (.own 0 1 (0) (p0)))] (I (((p0 : Nat) : Int))))] ⟨aln rfl Tryz.underlying73 rfl, trivial⟩ ?_
   rcases bft ((decide (((p0 : Nat) : Int) < 1))) with hc19 | hc19
   ·replace h := Qat hc19 h
    refine wft hc19 (by kernel_rfl) ?_
    cases h
   ·replace h := Qau hc19 h
    refine wfn hc19 (by kernel_rfl) ?_
    refine Qam ?_
    refine thn ?_
    exact ⟨(), h, (mto (n := 25) [(0, (.own 0 1 (0) (p0)))] [0] [(Qne p1)] hφ0 (pc (.rn (Qak rfl)) pn) (qc (spr Qab) qn))⟩
def Qd4 (N : Nat) (x41 : GUnit) (x49 : Int) (k52 : (List Int) → Option ((List Int) × (List Int) × (List Int))) (x67 : Int) : Nat → Int → (List Int) → Option ((List Int) × (List Int) × (List Int))
  | 0, _, _ => none
  | n73 + 1, y69, y70 =>
    bif (decide (y69 < x67)) then
     chk (decide (0 ≤ y69) && decide (y69.toNat < (w64 (x41.Inlet + 1)).toNat - (0 : Int).toNat)) <|
     (y70[y69.toNat]?).bind fun x76 =>
     chk (decide (0 ≤ y69) && decide (y69.toNat < (w64 (x41.Inlet + 1)).toNat - (0 : Int).toNat)) <|
     (y70[y69.toNat]?).bind fun _ =>
     Qd4 N x41 x49 k52 x67 n73 (w64 (y69 + 1)) (y70.set y69.toNat (w64 (x76 - x49)))
    else
     k52 (y70)
def Qd5 (N : Nat) (p0 : GShared) (y10 : (List Int)) (y11 : (List GPiece)) (k17 : (List Int) × (List Int) × (List Int) → Option ((List Int) × (List Int) × (List Int))) (x23 : (List GPiece)) : Nat → Int → (List Int) → (List Int) → (List Int) → Option ((List Int) × (List Int) × (List Int))
  | 0, _, _, _, _ => none
  | n32 + 1, y24, y25, y26, y27 =>
    bif (decide (y24 < ((y11.length : Nat) : Int))) then
     Qc5 (fun ⟨y34, y35, y36⟩ =>
       Qd5 N p0 y10 y11 k17 x23 n32 (w64 (y24 + 1)) y34 y35 y36) fun k37 : (List Int) × (List Int) × (List Int) → Option ((List Int) × (List Int) × (List Int)) =>
     chk (decide (0 ≤ y24) && decide (y24.toNat < y11.length)) <|
     (x23[y24.toNat]?).bind fun x39 =>
     (getI p0.units x39.unit).bind fun x41 =>
     chk (decide ((0 : Int) ≤ 0) && decide (0 ≤ w64 (x41.Inlet + 1)) && decide (w64 (x41.Inlet + 1) ≤ ((p0.heads.length : Nat) : Int))) <|
     chk (decide ((0 : Int) < ((p0.heads.length : Nat) : Int))) <|
     (Qgn N ((w64 (x41.Inlet + 1)).toNat - (0 : Int).toNat) y26).bind fun x48 =>
     (some (if x48 < x39.Part.Width then x48 else x39.Part.Width)).bind fun x49 =>
     Qc5 (fun y51 =>
       chk (decide (0 ≤ x39.unit) && decide (x39.unit.toNat < (p0.units.length : Int).toNat)) <|
       (y25[x39.unit.toNat]?).bind fun x54 =>
       chk (decide (0 ≤ x39.unit) && decide (x39.unit.toNat < (p0.units.length : Int).toNat)) <|
       (y25[x39.unit.toNat]?).bind fun _ =>
       bif (decide (x49 < x39.Part.Width)) then
        chk (decide (0 ≤ x39.unit) && decide (x39.unit.toNat < y10.length)) <|
        (y27[x39.unit.toNat]?).bind fun x61 =>
        bif (decide (x61 < 0)) then
         chk (decide (0 ≤ x39.unit) && decide (x39.unit.toNat < y10.length)) <|
         (y27[x39.unit.toNat]?).bind fun _ =>
         k37 (y25.set x39.unit.toNat (w64 (x54 + x49)), y51, y27.set x39.unit.toNat x39.Part.Gain)
        else
         k37 (y25.set x39.unit.toNat (w64 (x54 + x49)), y51, y27)
       else
        k37 (y25.set x39.unit.toNat (w64 (x54 + x49)), y51, y27)) fun k52 : (List Int) → Option ((List Int) × (List Int) × (List Int)) =>
     (some (((w64 (x41.Inlet + 1)).toNat - (0 : Int).toNat : Nat) : Int)).bind fun x67 =>
     Qd4 N x41 x49 k52 x67 N 0 y26
    else
     k17 (y25, y26, y27)
def Qd2 (N : Nat) (y81 : Int) (k91 : (List Int) × (List GPiece) → Option ((List Int) × (List Int) × (List Int))) (x92 : GUnit) : Nat → Int → (List Int) → (List GPiece) → Option ((List Int) × (List Int) × (List Int))
  | 0, _, _, _ => none
  | n103 + 1, y97, y98, y99 =>
    bif (decide (y97 < (x92.Parts.length : Int))) then
     (getI x92.Parts y97).bind fun x105 =>
     chk (decide ((y99.length + ([(⟨y81, x105⟩ : GPiece)]).length) * 24 ≤ 140737488355328)) <|
     Qd2 N y81 k91 x92 n103 (w64 (y97 + 1)) y98 (y99 ++ ([(⟨y81, x105⟩ : GPiece)]))
    else
     k91 (y98, y99)
def Qd3 (N : Nat) (p0 : GShared) (k12 : (List Int) × (List GPiece) → Option ((List Int) × (List Int) × (List Int))) : Nat → Int → (List Int) → (List GPiece) → Option ((List Int) × (List Int) × (List Int))
  | 0, _, _, _ => none
  | n87 + 1, y81, y82, y83 =>
    bif (decide (y81 < (p0.units.length : Int))) then
     Qc5 (fun ⟨y89, y90⟩ =>
       Qd3 N p0 k12 n87 (w64 (y81 + 1)) y89 y90) fun k91 : (List Int) × (List GPiece) → Option ((List Int) × (List Int) × (List Int)) =>
     (getI p0.units y81).bind fun x92 =>
     chk (decide ((y82.length + ([(-1)]).length) * 8 ≤ 140737488355328)) <|
     Qd2 N y81 k91 x92 N 0 (y82 ++ ([(-1)])) y83
    else
     k12 (y82, y83)
def Qh2 (N : Nat) (p0 : GShared) : Option ((List Int) × (List Int) × (List Int)) :=
  chk (decide (0 ≤ (p0.units.length : Int)) && decide (8 * (p0.units.length : Int) ≤ 281474976710656) && decide ((p0.units.length : Int) ≤ 9223372036854775807)) <|
  (Qg6 N p0).bind fun x9 =>
  Qc5 (fun ⟨y10, y11⟩ =>
    chk (!y10.isEmpty) <|
    Qc5 (fun ⟨y14, y15, y16⟩ =>
      chk (decide ((p0.units.length : Int).toNat ≤ y14.length)) <|
      chk (decide (p0.heads.length ≤ y15.length)) <|
      chk (decide (y10.length ≤ y16.length)) <|
      some (y14.take ((p0.units.length : Int).toNat), y15.take p0.heads.length, y16.take y10.length)) fun k17 : (List Int) × (List Int) × (List Int) → Option ((List Int) × (List Int) × (List Int)) =>
    chk (!y11.isEmpty) <|
    (Qe7 N y11.length y11).bind fun x23 =>
    Qd5 N p0 y10 y11 k17 x23 N 0 (List.replicate (p0.units.length : Int).toNat 0) x9 y10) fun k12 : (List Int) × (List GPiece) → Option ((List Int) × (List Int) × (List Int)) =>
  Qd3 N p0 k12 N 0 ([] : List Int) ([] : List GPiece)
def Qlx (p0 : GShared) : AV := .dat 2 ((p0.units : List GUnit).map Qck)
def Qn8 (p0 : GShared) : Slot := .own 1 ((List.replicate (p0.units.length : Int).toNat 0 : List Int).map Qal)
def Zab (p0 : GShared) : AV := .dat 1 ((p0.heads : List Int).map Qal)
def Qg4 (x9 : (List Int)) : Slot := .own 1 ((x9 : List Int).map Qal)
def Qit (p0 : GShared) : Slot := .own 2 [[(Zab p0), (Qlx p0)]]
def Qlw (y14 : (List Int)) (p0 : GShared) : AV := .dat 1 ((y14.take ((p0.units.length : Int).toNat) : List Int).map Qal)
def Qo2 (y15 : (List Int)) (p0 : GShared) : AV := .dat 1 ((y15.take p0.heads.length : List Int).map Qal)
def Qs4 (y16 : (List Int)) (y10 : (List Int)) : AV := .dat 1 ((y16.take y10.length : List Int).map Qal)
def Qgg (x23 : (List GPiece)) : Slot := .own 3 ((x23 : List GPiece).map Qap)
def Qi9 (y25 : (List Int)) : Slot := .own 1 ((y25 : List Int).map Qal)
def Qky (y26 : (List Int)) : Slot := .own 1 ((y26 : List Int).map Qal)
def Qhs (y27 : (List Int)) : Slot := .own 1 ((y27 : List Int).map Qal)
def Qs5 (y51 : (List Int)) : Slot := .own 1 ((y51 : List Int).map Qal)
def Qo1 (x39 : GPiece) : Slot := .own 3 [[(I (x39.unit)), (I (x39.Part.Width)), (I (x39.Part.Gain))]]
def Qs3 (y25 : (List Int)) (x39 : GPiece) (x54 : Int) (x49 : Int) : Slot := .own 1 ((y25.set x39.unit.toNat (w64 (x54 + x49)) : List Int).map Qal)
def Qo0 (y70 : (List Int)) : Slot := .own 1 ((y70 : List Int).map Qal)
def Q73 : Slot := .gro 1 ((([] : List Int) : List Int).map Qal)
def Q74 : Slot := .gro 3 ((([] : List GPiece) : List GPiece).map Qap)
def Qs6 (y83 : (List GPiece)) : Slot := .gro 3 ((y83 : List GPiece).map Qap)
def Q75 : AV := .dat 1 (([(-1)] : List Int).map Qal)
def Qoz (x92 : GUnit) : AV := .dat 2 ((x92.Parts : List GPart).map Qba)
def Qw5 (y99 : (List GPiece)) : Slot := .gro 3 ((y99 : List GPiece).map Qap)
def Qw4 (y81 : Int) (x105 : GPart) : AV := .agg [(I (y81)), (I (x105.Width)), (I (x105.Gain))]
theorem Ql6 (N : Nat) (p0 : GShared) (r : ((List Int) × (List Int) × (List Int))) (h : Qh2 N p0 = some r) : Spec Tryz.prog 60 [(.agg (Qrd p0))] [] (.tup [(.dat 1 ((r.1 : List Int).map Qal)), (.dat 1 ((r.2.1 : List Int).map Qal)), (.dat 1 ((r.2.2 : List Int).map Qal))]) [] := by
  refine Qac Tryz.func60 rfl 0 (nle rfl) (fun X φ0 w0 hφ0 hd0 => ?_)
  unfold Qh2 at h
  refine Qbh ?_
  refine wx tbk [] trivial ?_
  refine wx tbk [] trivial ?_
  obtain ⟨hm7, h⟩ := cko h
  obtain ⟨x9, hf8, h⟩ := bno h
  refine wxd tbk [(2, rp [(.tmp 16, (Qlx p0))] (I ((p0.units.length : Int)))), (3, ⟨[(.tmp 17, (I ((p0.units.length : Int)))), (.tmp 17, (I ((p0.units.length : Int))))], [(1, .unused)], (.own 1 1 (0) ((p0.units.length : Int).toNat)), [(1, (Qn8 p0))], false⟩), (5, ⟨[fu 87, (.tmp 19, (.agg [(Zab p0), (Qlx p0)]))], [(2, .unused)], (.own 2 1 (0) (p0.heads.length)), [(2, (Qg4 x9))], false⟩)] ⟨alm (c := Qck) (l := p0.units) (aln rfl Tryz.underlying74 rfl), Qjv rfl Tryz.underlying73 te3 tz3 rfl (Qwd hm7) rfl (Qwc hm7) (Qst hm7) (Qtj Qal rfl), Qah (first := []) (cap := []) (vs := [(.agg [(Zab p0), (Qlx p0)])]) (σr := []) (σr' := [(Qg4 x9)]) (res' := (.own 2 1 (0) (p0.heads.length))) [2] rfl Zbp (Qk5 N p0 _ hf8) rfl (Qbc (rnc (.plain _ (NLt.agg _ (nlc (nld Qab _) (nlc (nld Qax _) nl0)))) rn0)) Qag (slc (Qd7 Qab) Qag) (Qk3 rfl) rfl rfl rfl, trivial⟩ ?_
  obtain ⟨k12, hk_k12, h⟩ := jko h
  refine wjn (τ := (List Int) × (List GPiece)) (fun t => k12 t = some r) (fun ⟨y10, y11⟩ => ⟨mk 115 [(1, .ref 0 2 0 0), (2, (.own 1 1 (0) ((p0.units.length : Int).toNat))), (3, (.own 2 1 (0) (p0.heads.length))), (4, (.gro 3 3 1 (y10.length))), (5, (.gro 4 165 3 (y11.length)))], [(Qit p0), (Qn8 p0), (Qg4 x9), (.gro 1 ((y10 : List Int).map Qal)), (.gro 3 ((y11 : List GPiece).map Qap))]⟩) (fun t h => ?_) ?_
  ·subst hk_k12
   obtain ⟨y10, y11⟩ := t
   obtain ⟨hz13, h⟩ := cko h
   refine wmr (Q6j (n := 115) (m := 1) (xs := (y10 : List Int).map Qal) (l' := [(1, .ref 0 2 0 0), (2, (.own 1 1 (0) ((p0.units.length : Int).toNat))), (3, (.own 2 1 (0) (p0.heads.length))), (4, (.own 3 1 (0) (y10.length))), (5, (.gro 4 165 3 (y11.length)))]) 3 [(1, .ref 0 2 0 0), (2, (.own 1 1 (0) ((p0.units.length : Int).toNat))), (3, (.own 2 1 (0) (p0.heads.length))), (4, (.gro 3 3 1 (y10.length))), (5, (.gro 4 165 3 (y11.length)))] (by kernel_rfl) (by kernel_rfl) (by kernel_rfl) (Qil hz13) ⟨rfl, .same _, rfl, .same _, rfl, .same _, rfl, .own _ _ _, rfl, .same _, trivial⟩ rfl) ?_
   obtain ⟨k17, hk_k17, h⟩ := jko h
   refine wjn (τ := (List Int) × (List Int) × (List Int)) (fun t => k17 t = some r) (fun ⟨y14, y15, y16⟩ => ⟨mk 115 [(2, (.own 0 1 (0) ((p0.units.length : Int).toNat))), (3, (.own 1 1 (0) (p0.heads.length))), (4, (.own 2 1 (0) (y10.length)))], [(.own 1 ((y14 : List Int).map Qal)), (.own 1 ((y15 : List Int).map Qal)), (.own 1 ((y16 : List Int).map Qal))]⟩) (fun t h => ?_) ?_
   ·subst hk_k17
    obtain ⟨y14, y15, y16⟩ := t
    refine wx tbk [] trivial ?_
    obtain ⟨hz18, h⟩ := cko h
    refine wmr (Q3o (n := 115) (l' := [(2, (Qlw y14 p0)), (3, (.own 1 1 (0) (p0.heads.length))), (4, (.own 2 1 (0) (y10.length)))]) 0 [(2, (.own 0 1 (0) ((p0.units.length : Int).toNat))), (3, (.own 1 1 (0) (p0.heads.length))), (4, (.own 2 1 (0) (y10.length)))] (by kernel_rfl) (by kernel_rfl) (by kernel_rfl) ⟨rfl, (Qtp hz18), rfl, (.same _), rfl, (.same _), trivial⟩ rfl) ?_
    obtain ⟨hz19, h⟩ := cko h
    refine wmr (Q3o (n := 115) (l' := [(2, (Qlw y14 p0)), (3, (Qo2 y15 p0)), (4, (.own 2 1 (0) (y10.length)))]) 1 [(2, (Qlw y14 p0)), (3, (.own 1 1 (0) (p0.heads.length))), (4, (.own 2 1 (0) (y10.length)))] (by kernel_rfl) (by kernel_rfl) (by kernel_rfl) ⟨rfl, (.same _), rfl, (Qtp hz19), rfl, (.same _), trivial⟩ rfl) ?_
    obtain ⟨hz20, h⟩ := cko h
    refine wmr (Q3o (n := 115) (l' := [(2, (Qlw y14 p0)), (3, (Qo2 y15 p0)), (4, (Qs4 y16 y10))]) 2 [(2, (Qlw y14 p0)), (3, (Qo2 y15 p0)), (4, (.own 2 1 (0) (y10.length)))] (by kernel_rfl) (by kernel_rfl) (by kernel_rfl) ⟨rfl, (.same _), rfl, (.same _), rfl, (Qtp hz20), trivial⟩ rfl) ?_
    refine wmr (mto (n := 115) (l' := [(2, (Qlw y14 p0)), (3, (Qo2 y15 p0)), (4, (Qs4 y16 y10))]) (own' := []) [(2, (Qlw y14 p0)), (3, (Qo2 y15 p0)), (4, (Qs4 y16 y10))] [] [] hφ0 (pc (.rn (.plain _ (nld Qab _))) (pc (.rn (.plain _ (nld Qab _))) (pc (.rn (.plain _ (nld Qab _))) pn))) qn) ?_
    refine Qaa ?_
    obtain rfl := osi h
    exact ⟨_, Mor.rfl, Qb7 (vs := [(Qlw y14 p0), (Qo2 y15 p0), (Qs4 y16 y10)]) ⟨rot (by kernel_rfl), rot (by kernel_rfl), rot (by kernel_rfl), trivial⟩ rfl (NLt.tup _ (nlc (nld Qab _) (nlc (nld Qab _) (nlc (nld Qab _) nl0)))) (by kernel_rfl) Qbd⟩
   ·skip
    obtain ⟨hz21, h⟩ := cko h
    obtain ⟨x23, hf22, h⟩ := bno h
    refine wx tbk [(1, ⟨[fu 88, (.tmp 47, (.gro 4 165 3 (y11.length))), fu 89], [(4, (.gro 3 ((y11 : List GPiece).map Qap)))], (.own 4 3 (0) (y11.length)), [(4, (Qgg x23))], false⟩), (2, rp [(.tmp 48, (.own 4 3 (0) (y11.length)))] (I (((y11.length : Nat) : Int))))] ⟨Qx2 (bl' := [(4, (.own 3 ((y11 : List GPiece).map Qap)))]) ⟨rfl, SLess.gro (Qil hz21), trivial⟩ (awk (rd' := [fu 88, (.tmp 47, (.own 4 3 (0) (y11.length))), fu 89]) ⟨rfl, lrf, rfl, Less.gro, rfl, lrf, trivial⟩ (Qah (first := []) (cap := []) (vs := [(.own 4 3 (0) (y11.length)), (.fn (.func 89) [] [])]) (σr := [(.own 3 ((y11 : List GPiece).map Qap))]) (σr' := [(Qgg x23)]) (res' := (.own 4 3 (0) (y11.length))) [4] rfl Zbo (Qi4 N y11.length y11 _ hf22) rfl (Qbc (rnc (Qfy rfl) (rnc (.plain _ (NLt.fn _ _ _ nl0 nl0)) rn0))) (slc (Qd7 Qai) Qag) (slc (Qd7 Qai) Qag) (Qk3 rfl) rfl rfl rfl)), aln rfl Tryz.underlying162 rfl, trivial⟩ ?_
    refine Qaj ?_
    refine wmr (mto (n := 115) (l' := [(1, .ref 0 2 0 0), (2, (.own 1 1 (0) ((p0.units.length : Int).toNat))), (3, (.own 2 1 (0) (p0.heads.length))), (4, (.own 3 1 (0) (y10.length))), (48, (.own 4 3 (0) (y11.length))), (49, (I (((y11.length : Nat) : Int)))), (50, I 0)]) (own' := [(Qit p0), (.own 1 (((List.replicate (p0.units.length : Int).toNat 0) : List Int).map Qal)), (Qg4 x9), (.own 1 ((y10 : List Int).map Qal)), (Qgg x23)]) [(1, .ref 0 2 0 0), (2, (.own 1 1 (0) ((p0.units.length : Int).toNat))), (3, (.own 2 1 (0) (p0.heads.length))), (4, (.own 3 1 (0) (y10.length))), (48, (.own 4 3 (0) (y11.length))), (49, (I (((y11.length : Nat) : Int)))), (50, I 0)] [0, 1, 2, 3, 4] [(Qit p0), (Qn8 p0), (Qg4 x9), (.own 1 ((y10 : List Int).map Qal)), (Qgg x23)] hφ0 (pc (.rn (rqr rfl)) (pc (.rn (Qak rfl)) (pc (.rn (Qak rfl)) (pc (.rn (Qak rfl)) (pc (.rn (Qak rfl)) (pc rwl (pc rwl pn))))))) (qc (spb (lc (.rn (.plain _ (nld Qab _))) (lc (.rn (.plain _ (nld Qax _))) ln))) (qc (spr Qab) (qc (spr Qab) (qc (spr Qab) (qc (spr Qai) qn)))))) ?_
    refine Qcl (τ := Int × (List Int) × (List Int) × (List Int)) (fun n t => Qd5 N p0 y10 y11 k17 x23 n t.1 t.2.1 t.2.2.1 t.2.2.2 = some r) (fun ⟨y24, y25, y26, y27⟩ => ⟨mk 115 [(1, .ref 0 2 0 0), (2, (.own 1 1 (0) ((p0.units.length : Int).toNat))), (3, (.own 2 1 (0) (p0.heads.length))), (4, (.own 3 1 (0) (y10.length))), (48, (.own 4 3 (0) (y11.length))), (49, (I (((y11.length : Nat) : Int)))), (50, I y24)], [(Qit p0), (Qi9 y25), (Qky y26), (Qhs y27), (Qgg x23)]⟩) (fun t h => by rw [Qd5] at h; cases h) (fun n32 ih t h => ?_) N (0, List.replicate (p0.units.length : Int).toNat 0, x9, y10) h
    obtain ⟨y24, y25, y26, y27⟩ := t
    rw [Qd5] at h
    skip
    refine wx tbk [] trivial ?_
    refine wsq ?_
    rcases bft ((decide (y24 < ((y11.length : Nat) : Int)))) with hc33 | hc33
    ·replace h := Qat hc33 h
     refine wft hc33 (by kernel_rfl) ?_
     refine Qam ?_
     refine thn ?_
     obtain ⟨k37, hk_k37, h⟩ := jko h
     refine wjn (τ := (List Int) × (List Int) × (List Int)) (fun t => k37 t = some r) (fun ⟨y34, y35, y36⟩ => ⟨mk 115 [(1, .ref 0 2 0 0), (2, (.own 1 1 (0) ((p0.units.length : Int).toNat))), (3, (.own 2 1 (0) (p0.heads.length))), (4, (.own 3 1 (0) (y10.length))), (48, (.own 4 3 (0) (y11.length))), (49, (I (((y11.length : Nat) : Int)))), (50, I y24)], [(Qit p0), (.own 1 ((y34 : List Int).map Qal)), (.own 1 ((y35 : List Int).map Qal)), (.own 1 ((y36 : List Int).map Qal)), (Qgg x23)]⟩) (fun t h => ?_) ?_
     ·subst hk_k37
      obtain ⟨y34, y35, y36⟩ := t
      refine wx1 tbk [] trivial ?_
      refine thn ?_
      exact arm (mto (n := 115) [(1, .ref 0 2 0 0), (2, (.own 1 1 (0) ((p0.units.length : Int).toNat))), (3, (.own 2 1 (0) (p0.heads.length))), (4, (.own 3 1 (0) (y10.length))), (48, (.own 4 3 (0) (y11.length))), (49, (I (((y11.length : Nat) : Int)))), (50, (I (w64 (y24 + 1))))] [0, 1, 2, 3, 4] [(Qit p0), (.own 1 ((y34 : List Int).map Qal)), (.own 1 ((y35 : List Int).map Qal)), (.own 1 ((y36 : List Int).map Qal)), (Qgg x23)] hφ0 (pc (.rn (rqr rfl)) (pc (.rn (Qak rfl)) (pc (.rn (Qak rfl)) (pc (.rn (Qak rfl)) (pc (.rn (Qak rfl)) (pc rwl (pc rwl pn))))))) (qc (spb (lc (.rn (.plain _ (nld Qab _))) (lc (.rn (.plain _ (nld Qax _))) ln))) (qc (spr Qab) (qc (spr Qab) (qc (spr Qab) (qc (spr Qai) qn)))))) (ih (w64 (y24 + 1), y34, y35, y36) h)
     ·skip
      refine Qaj ?_
      obtain ⟨hi38, h⟩ := cko h
      obtain ⟨hi38a, hi38b⟩ := Qbi hi38
      obtain ⟨x39, hg40, h⟩ := bno h
      refine wx tbk [(0, rb [(.tmp 48, (.own 4 3 (0) (y11.length))), (.tmp 50, I y24)] [(4, (Qgg x23))] (.ref 4 3 (y24.toNat) 0)), (1, rb [(.tmp 52, (.ref 4 3 (y24.toNat) 0))] [(4, (Qgg x23))] (.agg [I x39.unit, I x39.Part.Width, I x39.Part.Gain]))] ⟨aio rfl Tryz.underlying162 Qes (odt hi38a) (odt hi38b) (Nat.zero_add _), ald rfl Qes (by decide) (mgt Qap hg40) (nle rfl) rfl, trivial⟩ ?_
      obtain ⟨x41, hg42, h⟩ := bno h
      obtain ⟨hi43, hj44⟩ := gsm hg42
      obtain ⟨hs45, h⟩ := cko h
      obtain ⟨hs46, h⟩ := cko h
      refine wx tbk [(5, rp [(.tmp 56, (Qlx p0)), (.tmp 58, I x39.unit)] (.dptr (Qck (x41)) 0)), (9, rb [(.tmp 54, (.own 2 1 (0) (p0.heads.length))), (.tmp 62, (I (w64 (x41.Inlet + 1))))] [(2, (Qky y26))] (.own 2 1 (0) ((w64 (x41.Inlet + 1)).toNat - (0 : Int).toNat)))] ⟨aid rfl Tryz.underlying74 ti45 rfl rfl hi43 (mgt Qck hj44) rfl, Qv3 (k := .i64) (k' := .i64) (lo := none) (hi := some (.tmp 62)) (l := 0) (hh := w64 (x41.Inlet + 1)) rfl Tryz.underlying73 ti3 (fun _ => rfl) (fun e => nomatch e) (Qwd hs45) (Qwc hs45) (odt (Qbi hs45).2) (odt hs46) rfl rfl, trivial⟩ ?_
      obtain ⟨x48, hf47, h⟩ := bno h
      obtain ⟨x49, hl50, h⟩ := bno h
      refine wxd tbk [(4, ⟨[fu 90, (.tmp 67, (.own 2 1 (0) ((w64 (x41.Inlet + 1)).toNat - (0 : Int).toNat)))], [(2, (Qky y26))], I x48, [(2, (Qky y26))], false⟩), (5, rp [(.tmp 66, I x39.Part.Width), (.tmp 68, I x48)] (I ((if x48 < x39.Part.Width then x48 else x39.Part.Width)))), (6, rp [(.tmp 69, (I ((if x48 < x39.Part.Width then x48 else x39.Part.Width))))] (I x49))] ⟨Qah (first := []) (cap := []) (vs := [(.own 2 1 (0) (((w64 (x41.Inlet + 1)).toNat - (0 : Int).toNat)))]) (σr := [(Qky y26)]) (σr' := [(Qky y26)]) (res' := (I x48)) [2] rfl Zbn (Qkr N ((w64 (x41.Inlet + 1)).toNat - (0 : Int).toNat) y26 _ hf47) rfl (Qbc (rnc (Qfy rfl) rn0)) (slc (Qd7 Qab) Qag) (slc (Qd7 Qab) Qag) (.plain _ nll) rfl rfl rfl, Qmm rfl, Qd8 hl50 (aas rfl), trivial⟩ ?_
      obtain ⟨k52, hk_k52, h⟩ := jko h
      refine wjn (τ := (List Int)) (fun t => k52 t = some r) (fun y51 => ⟨mk 115 [(1, .ref 0 2 0 0), (2, (.own 1 1 (0) ((p0.units.length : Int).toNat))), (3, (.own 2 1 (0) (p0.heads.length))), (4, (.own 3 1 (0) (y10.length))), (11, .ref 4 3 0 0), (13, I x49), (48, (.own 5 3 (0) (y11.length))), (49, (I (((y11.length : Nat) : Int)))), (50, I y24)], [(Qit p0), (Qi9 y25), (Qs5 y51), (Qhs y27), (Qo1 x39), (Qgg x23)]⟩) (fun y51 h => ?_) ?_
      ·subst hk_k52
       obtain ⟨hi53, h⟩ := cko h
       obtain ⟨hi53a, hi53b⟩ := Qbi hi53
       obtain ⟨x54, hg55, h⟩ := bno h
       obtain ⟨hi56, h⟩ := cko h
       obtain ⟨hi56a, hi56b⟩ := Qbi hi56
       obtain ⟨x57, hg58, h⟩ := bno h
       refine wx tbk [(3, rb [(.tmp 83, (.own 1 1 (0) ((p0.units.length : Int).toNat))), (.tmp 85, I x39.unit)] [(1, (Qi9 y25))] (.ref 1 1 (x39.unit.toNat) 0)), (4, rb [(.tmp 86, (.ref 1 1 (x39.unit.toNat) 0))] [(1, (Qi9 y25))] (I x54)), (7, rb [(.tmp 83, (.own 1 1 (0) ((p0.units.length : Int).toNat))), (.tmp 85, I x39.unit)] [(1, (Qi9 y25))] (.ref 1 1 (x39.unit.toNat) 0)), (8, ⟨[(.tmp 90, (.ref 1 1 (x39.unit.toNat) 0)), (.tmp 89, (I (w64 (x54 + x49))))], [(1, (Qi9 y25))], .any, [(1, (Qs3 y25 x39 x54 x49))], false⟩)] ⟨aio rfl Tryz.underlying73 ti3 (odt hi53a) (odt hi53b) (Nat.zero_add _), ald rfl ti3 (by decide) (mgt Qal hg55) (nle rfl) rfl, aio rfl Tryz.underlying73 ti3 (odt hi56a) (odt hi56b) (Nat.zero_add _), ast rfl ti3 (by rfl) (mgt Qal hg58) (nle rfl) (Qhf Qal rfl), trivial⟩ ?_
       rcases bft ((decide (x49 < x39.Part.Width))) with hb59 | hb59
       ·replace h := Qat hb59 h
        obtain ⟨hi60, h⟩ := cko h
        obtain ⟨hi60a, hi60b⟩ := Qbi hi60
        obtain ⟨x61, hg62, h⟩ := bno h
        refine wx tbk [(5, rp [(.tmp 95, (B ((decide (x49 < x39.Part.Width)))))] (B true)), (9, rb [(.tmp 96, B true), (.tmp 97, (.own 3 1 (0) (y10.length))), (.tmp 99, I x39.unit)] [(3, (Qhs y27))] (.ref 3 1 (x39.unit.toNat) 0)), (10, rb [(.tmp 96, B true), (.tmp 100, (.ref 3 1 (x39.unit.toNat) 0))] [(3, (Qhs y27))] (I x61))] ⟨asb hb59 (amv rfl), ag_ (aio rfl Tryz.underlying73 ti3 (odt hi60a) (odt hi60b) (Nat.zero_add _)), ag_ (ald rfl ti3 (by decide) (mgt Qal hg62) (nle rfl) rfl), trivial⟩ ?_
        rcases bft ((decide (x61 < 0))) with hc63 | hc63
        ·replace h := Qat hc63 h
         refine wft hc63 (by kernel_rfl) ?_
         obtain ⟨hi64, h⟩ := cko h
         obtain ⟨hi64a, hi64b⟩ := Qbi hi64
         obtain ⟨x65, hg66, h⟩ := bno h
         refine wx1 tbk [(6, rb [(.tmp 104, (.own 3 1 (0) (y10.length))), (.tmp 106, I x39.unit)] [(3, (Qhs y27))] (.ref 3 1 (x39.unit.toNat) 0)), (7, ⟨[(.tmp 110, (.ref 3 1 (x39.unit.toNat) 0)), (.tmp 109, I x39.Part.Gain)], [(3, (Qhs y27))], .any, [(3, (.own 1 ((y27.set x39.unit.toNat x39.Part.Gain : List Int).map Qal)))], false⟩)] ⟨aio rfl Tryz.underlying73 ti3 (odt hi64a) (odt hi64b) (Nat.zero_add _), ast rfl ti3 (by rfl) (mgt Qal hg66) (nle rfl) (Qhf Qal rfl), trivial⟩ ?_
         refine bln ?_
         refine thn ?_
         exact ⟨(y25.set x39.unit.toNat (w64 (x54 + x49)), y51, y27.set x39.unit.toNat x39.Part.Gain), h, (mto (n := 115) [(1, .ref 0 2 0 0), (2, (.own 1 1 (0) ((p0.units.length : Int).toNat))), (3, (.own 2 1 (0) (p0.heads.length))), (4, (.own 3 1 (0) (y10.length))), (48, (.own 5 3 (0) (y11.length))), (49, (I (((y11.length : Nat) : Int)))), (50, I y24)] [0, 1, 2, 3, 5] [(Qit p0), (Qs3 y25 x39 x54 x49), (Qs5 y51), (.own 1 ((y27.set x39.unit.toNat x39.Part.Gain : List Int).map Qal)), (Qgg x23)] hφ0 (pc (.rn (rqr rfl)) (pc (.rn (Qak rfl)) (pc (.rn (Qak rfl)) (pc (.rn (Qak rfl)) (pc (.rn (Qak rfl)) (pc rwl (pc rwl pn))))))) (qc (spb (lc (.rn (.plain _ (nld Qab _))) (lc (.rn (.plain _ (nld Qax _))) ln))) (qc (spr Qab) (qc (spr Qab) (qc (spr Qab) (qc (spr Qai) qn))))))⟩
        ·replace h := Qau hc63 h
         refine wfn hc63 (by kernel_rfl) ?_
         refine Qam ?_
         refine bln ?_
         refine thn ?_
         exact ⟨(y25.set x39.unit.toNat (w64 (x54 + x49)), y51, y27), h, (mto (n := 115) [(1, .ref 0 2 0 0), (2, (.own 1 1 (0) ((p0.units.length : Int).toNat))), (3, (.own 2 1 (0) (p0.heads.length))), (4, (.own 3 1 (0) (y10.length))), (48, (.own 5 3 (0) (y11.length))), (49, (I (((y11.length : Nat) : Int)))), (50, I y24)] [0, 1, 2, 3, 5] [(Qit p0), (Qs3 y25 x39 x54 x49), (Qs5 y51), (Qhs y27), (Qgg x23)] hφ0 (pc (.rn (rqr rfl)) (pc (.rn (Qak rfl)) (pc (.rn (Qak rfl)) (pc (.rn (Qak rfl)) (pc (.rn (Qak rfl)) (pc rwl (pc rwl pn))))))) (qc (spb (lc (.rn (.plain _ (nld Qab _))) (lc (.rn (.plain _ (nld Qax _))) ln))) (qc (spr Qab) (qc (spr Qab) (qc (spr Qab) (qc (spr Qai) qn))))))⟩
       ·replace h := Qau hb59 h
        refine wx tbk [(5, rp [(.tmp 95, (B ((decide (x49 < x39.Part.Width)))))] (B false))] ⟨asb hb59 (amv rfl), trivial⟩ ?_
        refine Qfa (by kernel_rfl) ?_
        refine Qam ?_
        refine bln ?_
        refine thn ?_
        exact ⟨(y25.set x39.unit.toNat (w64 (x54 + x49)), y51, y27), h, (mto (n := 115) [(1, .ref 0 2 0 0), (2, (.own 1 1 (0) ((p0.units.length : Int).toNat))), (3, (.own 2 1 (0) (p0.heads.length))), (4, (.own 3 1 (0) (y10.length))), (48, (.own 5 3 (0) (y11.length))), (49, (I (((y11.length : Nat) : Int)))), (50, I y24)] [0, 1, 2, 3, 5] [(Qit p0), (Qs3 y25 x39 x54 x49), (Qs5 y51), (Qhs y27), (Qgg x23)] hφ0 (pc (.rn (rqr rfl)) (pc (.rn (Qak rfl)) (pc (.rn (Qak rfl)) (pc (.rn (Qak rfl)) (pc (.rn (Qak rfl)) (pc rwl (pc rwl pn))))))) (qc (spb (lc (.rn (.plain _ (nld Qab _))) (lc (.rn (.plain _ (nld Qax _))) ln))) (qc (spr Qab) (qc (spr Qab) (qc (spr Qab) (qc (spr Qai) qn))))))⟩
      ·skip
       obtain ⟨x67, hl68, h⟩ := bno h
       refine wx tbk [(1, rp [(.tmp 70, (.own 2 1 (0) ((w64 (x41.Inlet + 1)).toNat - (0 : Int).toNat)))] (I x67))] ⟨Qd8 hl68 (aln rfl Tryz.underlying73 rfl), trivial⟩ ?_
       refine Qaj ?_
       refine wmr (mto (n := 115) (l' := [(1, .ref 0 2 0 0), (2, (.own 1 1 (0) ((p0.units.length : Int).toNat))), (3, (.own 2 1 (0) (p0.heads.length))), (4, (.own 3 1 (0) (y10.length))), (11, .ref 4 3 0 0), (12, (.own 2 1 (0) ((w64 (x41.Inlet + 1)).toNat - (0 : Int).toNat))), (13, I x49), (48, (.own 5 3 (0) (y11.length))), (49, (I (((y11.length : Nat) : Int)))), (50, I y24), (71, I x67), (72, I 0)]) (own' := [(Qit p0), (Qi9 y25), (Qky y26), (Qhs y27), (Qo1 x39), (Qgg x23)]) [(1, .ref 0 2 0 0), (2, (.own 1 1 (0) ((p0.units.length : Int).toNat))), (3, (.own 2 1 (0) (p0.heads.length))), (4, (.own 3 1 (0) (y10.length))), (11, .ref 5 3 0 0), (12, (.own 2 1 (0) ((w64 (x41.Inlet + 1)).toNat - (0 : Int).toNat))), (13, I x49), (48, (.own 4 3 (0) (y11.length))), (49, (I (((y11.length : Nat) : Int)))), (50, I y24), (71, I x67), (72, I 0)] [0, 1, 2, 3, 5, 4] [(Qit p0), (Qi9 y25), (Qky y26), (Qhs y27), (Qo1 x39), (Qgg x23)] hφ0 (pc (.rn (rqr rfl)) (pc (.rn (Qak rfl)) (pc (.rn (Qak rfl)) (pc (.rn (Qak rfl)) (pc (.rn (rqr rfl)) (pc (.rn (Qak rfl)) (pc rwl (pc (.rn (Qak rfl)) (pc rwl (pc rwl (pc rwl (pc rwl pn)))))))))))) (qc (spb (lc (.rn (.plain _ (nld Qab _))) (lc (.rn (.plain _ (nld Qax _))) ln))) (qc (spr Qab) (qc (spr Qab) (qc (spr Qab) (qc (spb (lc rwl (lc rwl (lc rwl ln)))) (qc (spr Qai) qn))))))) ?_
       refine Qcl (τ := Int × (List Int)) (fun n t => Qd4 N x41 x49 k52 x67 n t.1 t.2 = some r) (fun ⟨y69, y70⟩ => ⟨mk 115 [(1, .ref 0 2 0 0), (2, (.own 1 1 (0) ((p0.units.length : Int).toNat))), (3, (.own 2 1 (0) (p0.heads.length))), (4, (.own 3 1 (0) (y10.length))), (11, .ref 4 3 0 0), (12, (.own 2 1 (0) ((w64 (x41.Inlet + 1)).toNat - (0 : Int).toNat))), (13, I x49), (48, (.own 5 3 (0) (y11.length))), (49, (I (((y11.length : Nat) : Int)))), (50, I y24), (71, I x67), (72, I y69)], [(Qit p0), (Qi9 y25), (Qo0 y70), (Qhs y27), (Qo1 x39), (Qgg x23)]⟩) (fun t h => by rw [Qd4] at h; cases h) (fun n73 ih t h => ?_) N (0, y26) h
       obtain ⟨y69, y70⟩ := t
       rw [Qd4] at h
       skip
       refine wx tbk [] trivial ?_
       refine wsq ?_
       rcases bft ((decide (y69 < x67))) with hc74 | hc74
       ·replace h := Qat hc74 h
        refine wft hc74 (by kernel_rfl) ?_
        refine Qam ?_
        refine thn ?_
        refine wsq ?_
        refine Qaj ?_
        refine wx tbk [] trivial ?_
        obtain ⟨hi75, h⟩ := cko h
        obtain ⟨hi75a, hi75b⟩ := Qbi hi75
        obtain ⟨x76, hg77, h⟩ := bno h
        obtain ⟨hi78, h⟩ := cko h
        obtain ⟨hi78a, hi78b⟩ := Qbi hi78
        obtain ⟨x79, hg80, h⟩ := bno h
        refine wx1 tbk [(2, rb [(.tmp 75, (.own 2 1 (0) ((w64 (x41.Inlet + 1)).toNat - (0 : Int).toNat))), (.tmp 76, I y69)] [(2, (Qo0 y70))] (.ref 2 1 (y69.toNat) 0)), (3, rb [(.tmp 77, (.ref 2 1 (y69.toNat) 0))] [(2, (Qo0 y70))] (I x76)), (6, rb [(.tmp 75, (.own 2 1 (0) ((w64 (x41.Inlet + 1)).toNat - (0 : Int).toNat))), (.tmp 76, I y69)] [(2, (Qo0 y70))] (.ref 2 1 (y69.toNat) 0)), (7, ⟨[(.tmp 81, (.ref 2 1 (y69.toNat) 0)), (.tmp 80, (I (w64 (x76 - x49))))], [(2, (Qo0 y70))], .any, [(2, (.own 1 ((y70.set y69.toNat (w64 (x76 - x49)) : List Int).map Qal)))], false⟩)] ⟨aio rfl Tryz.underlying73 ti3 (odt hi75a) (odt hi75b) (Nat.zero_add _), ald rfl ti3 (by decide) (mgt Qal hg77) (nle rfl) rfl, aio rfl Tryz.underlying73 ti3 (odt hi78a) (odt hi78b) (Nat.zero_add _), ast rfl ti3 (by rfl) (mgt Qal hg80) (nle rfl) (Qhf Qal rfl), trivial⟩ ?_
        refine bln ?_
        refine thn ?_
        refine wx1 tbk [] trivial ?_
        refine thn ?_
        exact arm (mto (n := 115) [(1, .ref 0 2 0 0), (2, (.own 1 1 (0) ((p0.units.length : Int).toNat))), (3, (.own 2 1 (0) (p0.heads.length))), (4, (.own 3 1 (0) (y10.length))), (11, .ref 4 3 0 0), (12, (.own 2 1 (0) ((w64 (x41.Inlet + 1)).toNat - (0 : Int).toNat))), (13, I x49), (48, (.own 5 3 (0) (y11.length))), (49, (I (((y11.length : Nat) : Int)))), (50, I y24), (71, I x67), (72, (I (w64 (y69 + 1))))] [0, 1, 2, 3, 4, 5] [(Qit p0), (Qi9 y25), (.own 1 ((y70.set y69.toNat (w64 (x76 - x49)) : List Int).map Qal)), (Qhs y27), (Qo1 x39), (Qgg x23)] hφ0 (pc (.rn (rqr rfl)) (pc (.rn (Qak rfl)) (pc (.rn (Qak rfl)) (pc (.rn (Qak rfl)) (pc (.rn (rqr rfl)) (pc (.rn (Qak rfl)) (pc rwl (pc (.rn (Qak rfl)) (pc rwl (pc rwl (pc rwl (pc rwl pn)))))))))))) (qc (spb (lc (.rn (.plain _ (nld Qab _))) (lc (.rn (.plain _ (nld Qax _))) ln))) (qc (spr Qab) (qc (spr Qab) (qc (spr Qab) (qc (spb (lc rwl (lc rwl (lc rwl ln)))) (qc (spr Qai) qn))))))) (ih (w64 (y69 + 1), y70.set y69.toNat (w64 (x76 - x49))) h)
       ·replace h := Qau hc74 h
        refine wfn hc74 (by kernel_rfl) ?_
        refine Qbr ?_
        refine Qay ?_
        refine Qay ?_
        refine Qbq rfl ?_
        refine thn ?_
        exact ⟨(y70), h, (mto (n := 115) [(1, .ref 0 2 0 0), (2, (.own 1 1 (0) ((p0.units.length : Int).toNat))), (3, (.own 2 1 (0) (p0.heads.length))), (4, (.own 3 1 (0) (y10.length))), (11, .ref 4 3 0 0), (13, I x49), (48, (.own 5 3 (0) (y11.length))), (49, (I (((y11.length : Nat) : Int)))), (50, I y24)] [0, 1, 2, 3, 4, 5] [(Qit p0), (Qi9 y25), (Qo0 y70), (Qhs y27), (Qo1 x39), (Qgg x23)] hφ0 (pc (.rn (rqr rfl)) (pc (.rn (Qak rfl)) (pc (.rn (Qak rfl)) (pc (.rn (Qak rfl)) (pc (.rn (rqr rfl)) (pc rwl (pc (.rn (Qak rfl)) (pc rwl (pc rwl pn))))))))) (qc (spb (lc (.rn (.plain _ (nld Qab _))) (lc (.rn (.plain _ (nld Qax _))) ln))) (qc (spr Qab) (qc (spr Qab) (qc (spr Qab) (qc (spb (lc rwl (lc rwl (lc rwl ln)))) (qc (spr Qai) qn)))))))⟩
    ·replace h := Qau hc33 h
     refine wfn hc33 (by kernel_rfl) ?_
     refine Qbr ?_
     refine Qay ?_
     refine Qay ?_
     refine Qbq rfl ?_
     refine thn ?_
     exact ⟨(y25, y26, y27), h, (mto (n := 115) [(2, (.own 1 1 (0) ((p0.units.length : Int).toNat))), (3, (.own 2 1 (0) (p0.heads.length))), (4, (.own 3 1 (0) (y10.length)))] [1, 2, 3] [(Qi9 y25), (Qky y26), (Qhs y27)] hφ0 (pc (.rn (Qak rfl)) (pc (.rn (Qak rfl)) (pc (.rn (Qak rfl)) pn))) (qc (spr Qab) (qc (spr Qab) (qc (spr Qab) qn))))⟩
  ·skip
   refine wx tbk [(2, rp [(.tmp 22, (Qlx p0))] (I ((p0.units.length : Int))))] ⟨alm (c := Qck) (l := p0.units) (aln rfl Tryz.underlying74 rfl), trivial⟩ ?_
   refine Qaj ?_
   refine wmr (Mor.trans (Qy3 3 3 1 4 (by kernel_rfl) (by kernel_rfl)) (Mor.trans (Qy3 4 165 3 5 (by kernel_rfl) (by kernel_rfl)) (mto (n := 115) (l' := [(1, .ref 0 2 0 0), (2, (.own 1 1 (0) ((p0.units.length : Int).toNat))), (3, (.own 2 1 (0) (p0.heads.length))), (4, (.gro 3 3 1 (([] : List Int).length))), (5, (.gro 4 165 3 (([] : List GPiece).length))), (22, (Qlx p0)), (23, (I ((p0.units.length : Int)))), (24, I 0)]) (own' := [(Qit p0), (Qn8 p0), (Qg4 x9), Q73, Q74]) [(1, .ref 0 2 0 0), (2, (.own 1 1 (0) ((p0.units.length : Int).toNat))), (3, (.own 2 1 (0) (p0.heads.length))), (4, (.gro 3 3 1 (([] : List Int).length))), (5, (.gro 4 165 3 (([] : List GPiece).length))), (22, (Qlx p0)), (23, (I ((p0.units.length : Int)))), (24, I 0)] [0, 1, 2, 3, 4] [(Qit p0), (Qn8 p0), (Qg4 x9), Q73, Q74] hφ0 (pc (.rn (rqr rfl)) (pc (.rn (Qak rfl)) (pc (.rn (Qak rfl)) (pc (.rn (Qjc rfl)) (pc (.rn (Qjc rfl)) (pc (.rn (.plain _ (nld Qax _))) (pc rwl (pc rwl pn)))))))) (qc (spb (lc (.rn (.plain _ (nld Qab _))) (lc (.rn (.plain _ (nld Qax _))) ln))) (qc (spr Qab) (qc (spr Qab) (qc (Qhc Qab) (qc (Qhc Qai) qn)))))))) ?_
   refine Qcl (τ := Int × (List Int) × (List GPiece)) (fun n t => Qd3 N p0 k12 n t.1 t.2.1 t.2.2 = some r) (fun ⟨y81, y82, y83⟩ => ⟨mk 115 [(1, .ref 0 2 0 0), (2, (.own 1 1 (0) ((p0.units.length : Int).toNat))), (3, (.own 2 1 (0) (p0.heads.length))), (4, (.gro 3 3 1 (y82.length))), (5, (.gro 4 165 3 (y83.length))), (22, (Qlx p0)), (23, (I ((p0.units.length : Int)))), (24, I y81)], [(Qit p0), (Qn8 p0), (Qg4 x9), (.gro 1 ((y82 : List Int).map Qal)), (Qs6 y83)]⟩) (fun t h => by rw [Qd3] at h; cases h) (fun n87 ih t h => ?_) N (0, ([] : List Int), ([] : List GPiece)) h
   obtain ⟨y81, y82, y83⟩ := t
   rw [Qd3] at h
   skip
   refine wx tbk [] trivial ?_
   refine wsq ?_
   rcases bft ((decide (y81 < (p0.units.length : Int)))) with hc88 | hc88
   ·replace h := Qat hc88 h
    refine wft hc88 (by kernel_rfl) ?_
    refine Qam ?_
    refine thn ?_
    obtain ⟨k91, hk_k91, h⟩ := jko h
    refine wjn (τ := (List Int) × (List GPiece)) (fun t => k91 t = some r) (fun ⟨y89, y90⟩ => ⟨mk 115 [(1, .ref 0 2 0 0), (2, (.own 1 1 (0) ((p0.units.length : Int).toNat))), (3, (.own 2 1 (0) (p0.heads.length))), (4, (.gro 3 3 1 (y89.length))), (5, (.gro 4 165 3 (y90.length))), (22, (Qlx p0)), (23, (I ((p0.units.length : Int)))), (24, I y81)], [(Qit p0), (Qn8 p0), (Qg4 x9), (.gro 1 ((y89 : List Int).map Qal)), (.gro 3 ((y90 : List GPiece).map Qap))]⟩) (fun t h => ?_) ?_
    ·subst hk_k91
     obtain ⟨y89, y90⟩ := t
     refine wx1 tbk [] trivial ?_
     refine thn ?_
     exact arm (mto (n := 115) [(1, .ref 0 2 0 0), (2, (.own 1 1 (0) ((p0.units.length : Int).toNat))), (3, (.own 2 1 (0) (p0.heads.length))), (4, (.gro 3 3 1 (y89.length))), (5, (.gro 4 165 3 (y90.length))), (22, (Qlx p0)), (23, (I ((p0.units.length : Int)))), (24, (I (w64 (y81 + 1))))] [0, 1, 2, 3, 4] [(Qit p0), (Qn8 p0), (Qg4 x9), (.gro 1 ((y89 : List Int).map Qal)), (.gro 3 ((y90 : List GPiece).map Qap))] hφ0 (pc (.rn (rqr rfl)) (pc (.rn (Qak rfl)) (pc (.rn (Qak rfl)) (pc (.rn (Qjc rfl)) (pc (.rn (Qjc rfl)) (pc (.rn (.plain _ (nld Qax _))) (pc rwl (pc rwl pn)))))))) (qc (spb (lc (.rn (.plain _ (nld Qab _))) (lc (.rn (.plain _ (nld Qax _))) ln))) (qc (spr Qab) (qc (spr Qab) (qc (Qhc Qab) (qc (Qhc Qai) qn)))))) (ih (w64 (y81 + 1), y89, y90) h)
    ·skip
     refine Qaj ?_
     obtain ⟨x92, hg93, h⟩ := bno h
     obtain ⟨hi94, hj95⟩ := gsm hg93
     refine wx tbk [(1, rp [(.tmp 22, (Qlx p0)), (.tmp 24, I y81)] (.dptr (Qck (x92)) 0))] ⟨aid rfl Tryz.underlying74 ti45 rfl rfl hi94 (mgt Qck hj95) rfl, trivial⟩ ?_
     obtain ⟨ha96, h⟩ := cko h
     refine wx tbk [(1, rp [ci (-1)] Q75), (2, ⟨[(.tmp 29, (.gro 3 3 1 (y82.length))), (.tmp 30, Q75)], [(3, (.gro 1 ((y82 : List Int).map Qal))), (6, .unused)], (.gro 6 3 1 ((y82 ++ ([(-1)])).length)), [(3, .dead), (6, (.gro 1 ((y82 ++ ([(-1)]) : List Int).map Qal)))], false⟩)] ?_ ?_
     ·exact ⟨Qcb (vs := [(I ((-1)))]) rfl Tryz.underlying73 ti3 tz3 rfl (by decide) rfl (by decide) (by rfl) (by rfl) (by rfl) rfl, Qrk (c := Qal) (a := y82) (b := [(-1)]) rfl Tryz.underlying73 te3 rfl (Qil rfl) (by rfl) ha96 (by decide), trivial⟩
     refine wx tbk [(2, rp [(.tmp 33, (Qoz x92))] (I ((x92.Parts.length : Int))))] ⟨alm (c := Qba) (l := x92.Parts) (aln rfl Tryz.underlying43 rfl), trivial⟩ ?_
     refine Qaj ?_
     refine wmr (mto (n := 115) (l' := [(1, .ref 0 2 0 0), (2, (.own 1 1 (0) ((p0.units.length : Int).toNat))), (3, (.own 2 1 (0) (p0.heads.length))), (4, (.gro 3 3 1 ((y82 ++ ([(-1)])).length))), (5, (.gro 4 165 3 (y83.length))), (6, I y81), (22, (Qlx p0)), (23, (I ((p0.units.length : Int)))), (24, I y81), (33, (Qoz x92)), (34, (I ((x92.Parts.length : Int)))), (35, I 0)]) (own' := [(Qit p0), (Qn8 p0), (Qg4 x9), (.gro 1 (((y82 ++ ([(-1)])) : List Int).map Qal)), (Qs6 y83)]) [(1, .ref 0 2 0 0), (2, (.own 1 1 (0) ((p0.units.length : Int).toNat))), (3, (.own 2 1 (0) (p0.heads.length))), (4, (.gro 6 3 1 ((y82 ++ ([(-1)])).length))), (5, (.gro 4 165 3 (y83.length))), (6, I y81), (22, (Qlx p0)), (23, (I ((p0.units.length : Int)))), (24, I y81), (33, (Qoz x92)), (34, (I ((x92.Parts.length : Int)))), (35, I 0)] [0, 1, 2, 6, 4] [(Qit p0), (Qn8 p0), (Qg4 x9), (.gro 1 ((y82 ++ ([(-1)]) : List Int).map Qal)), (Qs6 y83)] hφ0 (pc (.rn (rqr rfl)) (pc (.rn (Qak rfl)) (pc (.rn (Qak rfl)) (pc (.rn (Qjc rfl)) (pc (.rn (Qjc rfl)) (pc rwl (pc (.rn (.plain _ (nld Qax _))) (pc rwl (pc rwl (pc (.rn (.plain _ (nld Qaq _))) (pc rwl (pc rwl pn)))))))))))) (qc (spb (lc (.rn (.plain _ (nld Qab _))) (lc (.rn (.plain _ (nld Qax _))) ln))) (qc (spr Qab) (qc (spr Qab) (qc (Qhc Qab) (qc (Qhc Qai) qn)))))) ?_
     refine Qcl (τ := Int × (List Int) × (List GPiece)) (fun n t => Qd2 N y81 k91 x92 n t.1 t.2.1 t.2.2 = some r) (fun ⟨y97, y98, y99⟩ => ⟨mk 115 [(1, .ref 0 2 0 0), (2, (.own 1 1 (0) ((p0.units.length : Int).toNat))), (3, (.own 2 1 (0) (p0.heads.length))), (4, (.gro 3 3 1 (y98.length))), (5, (.gro 4 165 3 (y99.length))), (6, I y81), (22, (Qlx p0)), (23, (I ((p0.units.length : Int)))), (24, I y81), (33, (Qoz x92)), (34, (I ((x92.Parts.length : Int)))), (35, I y97)], [(Qit p0), (Qn8 p0), (Qg4 x9), (.gro 1 ((y98 : List Int).map Qal)), (Qw5 y99)]⟩) (fun t h => by rw [Qd2] at h; cases h) (fun n103 ih t h => ?_) N (0, y82 ++ ([(-1)]), y83) h
     obtain ⟨y97, y98, y99⟩ := t
     rw [Qd2] at h
     skip
     refine wx tbk [] trivial ?_
     refine wsq ?_
     rcases bft ((decide (y97 < (x92.Parts.length : Int)))) with hc104 | hc104
     ·replace h := Qat hc104 h
      refine wft hc104 (by kernel_rfl) ?_
      refine Qam ?_
      refine thn ?_
      refine wsq ?_
      refine Qaj ?_
      obtain ⟨x105, hg106, h⟩ := bno h
      obtain ⟨hi107, hj108⟩ := gsm hg106
      refine wx tbk [(0, rp [(.tmp 33, (Qoz x92)), (.tmp 35, I y97)] (.dptr (Qba (x105)) 0))] ⟨aid rfl Tryz.underlying43 Qp1 rfl rfl hi107 (mgt Qba hj108) rfl, trivial⟩ ?_
      obtain ⟨ha109, h⟩ := cko h
      refine wx1 tbk [(3, rp [(.tmp 40, I y81), (.tmp 41, (.agg [I x105.Width, I x105.Gain]))] (Qw4 y81 x105)), (4, rp [(.tmp 42, (Qw4 y81 x105))] (.dat 3 (([(⟨y81, x105⟩ : GPiece)] : List GPiece).map Qap))), (5, ⟨[(.tmp 39, (.gro 4 165 3 (y99.length))), (.tmp 43, (.dat 3 (([(⟨y81, x105⟩ : GPiece)] : List GPiece).map Qap)))], [(4, (Qw5 y99)), (6, .unused)], (.gro 6 165 3 ((y99 ++ ([(⟨y81, x105⟩ : GPiece)])).length)), [(4, .dead), (6, (.gro 3 ((y99 ++ ([(⟨y81, x105⟩ : GPiece)]) : List GPiece).map Qap)))], false⟩)] ?_ ?_
      ·exact ⟨Qao (vs := [I y81, (.agg [I x105.Width, I x105.Gain])]) rfl Zez Zao rfl (by rfl) rfl, Qcb (vs := [(Qw4 y81 x105)]) rfl Tryz.underlying162 Qes Zao rfl (by decide) rfl (by decide) (by rfl) (by rfl) (by rfl) rfl, Qrk (c := Qap) (a := y99) (b := [(⟨y81, x105⟩ : GPiece)]) rfl Tryz.underlying162 Zfd rfl (Qil rfl) (by rfl) ha109 (by decide), trivial⟩
      refine bln ?_
      refine thn ?_
      refine wx1 tbk [] trivial ?_
      refine thn ?_
      exact arm (mto (n := 115) [(1, .ref 0 2 0 0), (2, (.own 1 1 (0) ((p0.units.length : Int).toNat))), (3, (.own 2 1 (0) (p0.heads.length))), (4, (.gro 3 3 1 (y98.length))), (5, (.gro 6 165 3 ((y99 ++ ([(⟨y81, x105⟩ : GPiece)])).length))), (6, I y81), (22, (Qlx p0)), (23, (I ((p0.units.length : Int)))), (24, I y81), (33, (Qoz x92)), (34, (I ((x92.Parts.length : Int)))), (35, (I (w64 (y97 + 1))))] [0, 1, 2, 3, 6] [(Qit p0), (Qn8 p0), (Qg4 x9), (.gro 1 ((y98 : List Int).map Qal)), (.gro 3 ((y99 ++ ([(⟨y81, x105⟩ : GPiece)]) : List GPiece).map Qap))] hφ0 (pc (.rn (rqr rfl)) (pc (.rn (Qak rfl)) (pc (.rn (Qak rfl)) (pc (.rn (Qjc rfl)) (pc (.rn (Qjc rfl)) (pc rwl (pc (.rn (.plain _ (nld Qax _))) (pc rwl (pc rwl (pc (.rn (.plain _ (nld Qaq _))) (pc rwl (pc rwl pn)))))))))))) (qc (spb (lc (.rn (.plain _ (nld Qab _))) (lc (.rn (.plain _ (nld Qax _))) ln))) (qc (spr Qab) (qc (spr Qab) (qc (Qhc Qab) (qc (Qhc Qai) qn)))))) (ih (w64 (y97 + 1), y98, y99 ++ ([(⟨y81, x105⟩ : GPiece)])) h)
     ·replace h := Qau hc104 h
      refine wfn hc104 (by kernel_rfl) ?_
      refine Qbr ?_
      refine Qay ?_
      refine Qay ?_
      refine Qbq rfl ?_
      refine bln ?_
      refine thn ?_
      exact ⟨(y98, y99), h, (mto (n := 115) [(1, .ref 0 2 0 0), (2, (.own 1 1 (0) ((p0.units.length : Int).toNat))), (3, (.own 2 1 (0) (p0.heads.length))), (4, (.gro 3 3 1 (y98.length))), (5, (.gro 4 165 3 (y99.length))), (22, (Qlx p0)), (23, (I ((p0.units.length : Int)))), (24, I y81)] [0, 1, 2, 3, 4] [(Qit p0), (Qn8 p0), (Qg4 x9), (.gro 1 ((y98 : List Int).map Qal)), (Qw5 y99)] hφ0 (pc (.rn (rqr rfl)) (pc (.rn (Qak rfl)) (pc (.rn (Qak rfl)) (pc (.rn (Qjc rfl)) (pc (.rn (Qjc rfl)) (pc (.rn (.plain _ (nld Qax _))) (pc rwl (pc rwl pn)))))))) (qc (spb (lc (.rn (.plain _ (nld Qab _))) (lc (.rn (.plain _ (nld Qax _))) ln))) (qc (spr Qab) (qc (spr Qab) (qc (Qhc Qab) (qc (Qhc Qai) qn))))))⟩
   ·replace h := Qau hc88 h
    refine wfn hc88 (by kernel_rfl) ?_
    refine Qbr ?_
    refine Qay ?_
    refine Qay ?_
    refine Qbq rfl ?_
    refine thn ?_
    exact ⟨(y82, y83), h, (mto (n := 115) [(1, .ref 0 2 0 0), (2, (.own 1 1 (0) ((p0.units.length : Int).toNat))), (3, (.own 2 1 (0) (p0.heads.length))), (4, (.gro 3 3 1 (y82.length))), (5, (.gro 4 165 3 (y83.length)))] [0, 1, 2, 3, 4] [(Qit p0), (Qn8 p0), (Qg4 x9), (.gro 1 ((y82 : List Int).map Qal)), (Qs6 y83)] hφ0 (pc (.rn (rqr rfl)) (pc (.rn (Qak rfl)) (pc (.rn (Qak rfl)) (pc (.rn (Qjc rfl)) (pc (.rn (Qjc rfl)) pn))))) (qc (spb (lc (.rn (.plain _ (nld Qab _))) (lc (.rn (.plain _ (nld Qax _))) ln))) (qc (spr Qab) (qc (spr Qab) (qc (Qhc Qab) (qc (Qhc Qai) qn))))))⟩
end Go.Proofs.YtlhakkkjgdbdpaaGreat
