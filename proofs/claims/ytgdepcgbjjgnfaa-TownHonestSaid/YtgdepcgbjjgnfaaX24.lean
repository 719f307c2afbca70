/-
  Functions of the program: what they compute, as plain functions, and that they do. No conditions.
-/
import Derived.Test.YtgdepcgbjjgnfaaX21
namespace Go.Proofs.Ytgdepcgbjjgnfaa
open Go.RowKit
def Qf1 (_N : Nat) (p0 : Int) (p1 : Int) : Option GMeter :=
  (some ((w64 (IntKind.wrap .u16 (p1.tdiv 2))).tmod 501)).bind fun x1 =>
  bif ((p1.tmod 2) == 0) then
   some (⟨w64 ((w64 ((w64 (p0 * (w64 (1000 - x1)))) + 999)).tdiv 1000), x1⟩ : GMeter)
  else
   some (⟨w64 ((w64 (p0 * (w64 (1000 + x1)))).tdiv 1000), x1⟩ : GMeter)
def z133_1 (p0 : Int) (x1 : Int) : AV := .agg [(I (w64 ((w64 ((w64 (p0 * (w64 (1000 - x1)))) + 999)).tdiv 1000))), (I (x1))]
def z133_3 (p0 : Int) (x1 : Int) : AV := .agg [(I (w64 ((w64 (p0 * (w64 (1000 + x1)))).tdiv 1000))), (I (x1))]
set_option maxRecDepth 100000 in
set_option maxHeartbeats 4000000 in
theorem Qh4 (N : Nat) (p0 : Int) (p1 : Int) (r : GMeter) (h : Qf1 N p0 p1 = some r) : Spec Try.prog 54 [(I p0), (K .u16 p1)] [] (.agg (Qay r)) [] := by
  refine Qaj Try.func54 rfl 0 (nle rfl) (fun X φ0 w0 hφ0 => ?_)
  unfold Qf1 at h
  refine wx tbk [] trivial ?_
  obtain ⟨x1, hl2, h⟩ := bno h
  refine wx tbk [(1, rp [(.tmp 6, (K .u16 (p1))), (.const (.int .u16 2), (K .u16 (2)))] (K .u16 (IntKind.wrap .u16 (p1.tdiv 2)))), (2, rp [(.tmp 7, (K .u16 (IntKind.wrap .u16 (p1.tdiv 2))))] (I (w64 (IntKind.wrap .u16 (p1.tdiv 2))))), (3, rp [(.tmp 8, (I (w64 (IntKind.wrap .u16 (p1.tdiv 2))))), ci 501] (I ((w64 (IntKind.wrap .u16 (p1.tdiv 2))).tmod 501))), (4, rp [(.tmp 9, (I ((w64 (IntKind.wrap .u16 (p1.tdiv 2))).tmod 501)))] (I x1))] ⟨Qjg rfl (by decide), acv rfl (by rw [Try.underlying58]; rfl) Try.underlying3, Qie rfl (by decide), Qe0 hl2 (aas rfl), trivial⟩ ?_
  refine wsq ?_
  refine wx tbk [(1, rp [(.tmp 10, (K .u16 (p1))), (.const (.int .u16 2), (K .u16 (2)))] (K .u16 (p1.tmod 2)))] ⟨Qie rfl (by decide), trivial⟩ ?_
  rcases bft (((p1.tmod 2) == 0)) with hc3 | hc3
  ·replace h := Qar hc3 h
   refine wft hc3 (by kernel_rfl) ?_
   refine wx tbk [(5, rp [(.tmp 17, (I (w64 ((w64 (p0 * (w64 (1000 - x1)))) + 999)))), ci 1000] (I (w64 ((w64 ((w64 (p0 * (w64 (1000 - x1)))) + 999)).tdiv 1000)))), (7, rp [(.tmp 18, (I (w64 ((w64 ((w64 (p0 * (w64 (1000 - x1)))) + 999)).tdiv 1000)))), (.tmp 19, I x1)] (z133_1 p0 x1))] ⟨Qjg rfl (by decide), Qa6 (vs := [(I (w64 ((w64 ((w64 (p0 * (w64 (1000 - x1)))) + 999)).tdiv 1000))), I x1]) rfl ts96 tz96 rfl (by rfl) rfl, trivial⟩ ?_
   refine Qai ?_
   refine Qag ?_
   obtain rfl := osi h
   exact fend ⟨[(z133_1 p0 x1)], ⟨Qfq (n := 0) (m := 2) (j := 0) (i := 0) (xs := [[(I (w64 ((w64 ((w64 (p0 * (w64 (1000 - x1)))) + 999)).tdiv 1000))), I x1]]) (by kernel_rfl) (by kernel_rfl) ti96 (by decide) rfl (nle rfl) rfl, trivial⟩, rfl⟩ (NLt.agg _ (nlc nll (nlc nll nl0)))
  ·replace h := Qas hc3 h
   refine wfn hc3 (by kernel_rfl) ?_
   refine Qaf ?_
   refine thn ?_
   refine wx tbk [(4, rp [(.tmp 24, (I (w64 (p0 * (w64 (1000 + x1)))))), ci 1000] (I (w64 ((w64 (p0 * (w64 (1000 + x1)))).tdiv 1000)))), (6, rp [(.tmp 25, (I (w64 ((w64 (p0 * (w64 (1000 + x1)))).tdiv 1000)))), (.tmp 26, I x1)] (z133_3 p0 x1))] ⟨Qjg rfl (by decide), Qa6 (vs := [(I (w64 ((w64 (p0 * (w64 (1000 + x1)))).tdiv 1000))), I x1]) rfl ts96 tz96 rfl (by rfl) rfl, trivial⟩ ?_
   refine Qai ?_
   obtain rfl := osi h
   exact fend ⟨[(z133_3 p0 x1)], ⟨Qfq (n := 0) (m := 2) (j := 0) (i := 0) (xs := [[(I (w64 ((w64 (p0 * (w64 (1000 + x1)))).tdiv 1000))), I x1]]) (by kernel_rfl) (by kernel_rfl) ti96 (by decide) rfl (nle rfl) rfl, trivial⟩, rfl⟩ (NLt.agg _ (nlc nll (nlc nll nl0)))
def Qax (N : Nat) (p0 : (List GNode)) (x4 : Int) (y13 : (List Bool)) (x19 : ((List GRange) × Int)) (k21 : Unit → Option Bool) : Nat → Int → Option Bool
  | 0, _ => none
  | n32 + 1, y30 =>
    bif (decide (y30 < (p0.length : Int))) then
     (getI y13 y30).bind fun x34 =>
     bif (!x34) then
      (getI x19.1 y30).bind fun x39 =>
      bif (!(([x39.Lo, x39.Hi] : List Int) == [0, 0])) then
       some false
      else
       bif x34 then
        bif (y30 != x4) then
         bif (decide (x39.Lo > 0)) then
          some false
         else
          bif (decide (x39.Hi < 0)) then
           some false
          else
           Qax N p0 x4 y13 x19 k21 n32 (w64 (y30 + 1))
        else
         Qax N p0 x4 y13 x19 k21 n32 (w64 (y30 + 1))
       else
        Qax N p0 x4 y13 x19 k21 n32 (w64 (y30 + 1))
     else
      bif x34 then
       bif (y30 != x4) then
        (getI x19.1 y30).bind fun x50 =>
        bif (decide (x50.Lo > 0)) then
         some false
        else
         bif (decide (x50.Hi < 0)) then
          some false
         else
          Qax N p0 x4 y13 x19 k21 n32 (w64 (y30 + 1))
       else
        Qax N p0 x4 y13 x19 k21 n32 (w64 (y30 + 1))
      else
       Qax N p0 x4 y13 x19 k21 n32 (w64 (y30 + 1))
    else
     k21 ()
def Qa7 (N : Nat) (p0 : (List GNode)) (p1 : (List Int)) (p2 : (List Int)) (p5 : Int) (y7 : (List GMeter)) (k14 : (List GMeter) × (List GMeter) × (List Bool) → Option Bool) : Nat → Int → (List GMeter) → (List GMeter) → (List Bool) → Option Bool
  | 0, _, _, _, _ => none
  | n66 + 1, y58, y59, y60, y61 =>
    bif (decide (y58 > 0)) then
     (getI p0 y58).bind fun x68 =>
     (Qep N p0 p1 x68.Parent).bind fun x73 =>
     Qcv (fun ⟨y74, y75⟩ =>
       chk ((p2.length : Int) != 0) <|
       (getI p2 ((w64 (x68.Parent + 1)).tmod (p2.length : Int))).bind fun x78 =>
       (Qf1 N (w64 (x73 + (w64 p5))) x78).bind fun x83 =>
       chk (decide (0 ≤ x68.Parent) && decide (x68.Parent.toNat < y7.length)) <|
       (y60[x68.Parent.toNat]?).bind fun _ =>
       Qa7 N p0 p1 p2 p5 y7 k14 n66 x68.Parent y74 (y60.set x68.Parent.toNat x83) y75) fun k76 : (List GMeter) × (List Bool) → Option Bool =>
     bif (decide ((w64 (x73 + (w64 p5))) > 1000000000)) then
      (Qds 2000 ).bind fun x89 =>
      some x89
     else
      (Qep N p0 p1 x68.Parent).bind fun x91 =>
      bif (x91 == 0) then
       bif (decide (p5 > 0)) then
        (Qds 2000 ).bind fun x95 =>
        some x95
       else
        k76 (y59, y61)
      else
       k76 (y59, y61)
    else
     k14 (y59, y60, y61)
def Qbn (N : Nat) (p0 : (List GNode)) (p1 : (List Int)) (p2 : (List Int)) (p3 : Int) (x4 : Int) (p5 : Int) (k9 : (List GMeter) × (List GMeter) × (List Bool) → Option Bool) : Nat → Int → (List GMeter) → (List GMeter) → (List Bool) → Option Bool
  | 0, _, _, _, _ => none
  | n104 + 1, y96, y97, y98, y99 =>
    bif (decide (y96 < (p0.length : Int))) then
     (Qep N p0 p1 y96).bind fun x107 =>
     Qcv (fun ⟨y108, y109, y110, y111⟩ =>
       (getI p1 y96).bind fun x113 =>
       chk ((p2.length : Int) != 0) <|
       (getI p2 (y96.tmod (p2.length : Int))).bind fun x118 =>
       (Qf1 N x113 x118).bind fun x123 =>
       chk (decide ((y109.length + ([x123]).length) * 16 ≤ 140737488355328)) <|
       chk ((p2.length : Int) != 0) <|
       (getI p2 ((w64 (y96 + 1)).tmod (p2.length : Int))).bind fun x126 =>
       (Qf1 N y108 x126).bind fun x131 =>
       chk (decide ((y110.length + ([x131]).length) * 16 ≤ 140737488355328)) <|
       bif (y96 == x4) then
        chk (decide ((y111.length + ([true]).length) * 1 ≤ 140737488355328)) <|
        Qbn N p0 p1 p2 p3 x4 p5 k9 n104 (w64 (y96 + 1)) (y109 ++ ([x123])) (y110 ++ ([x131])) (y111 ++ ([true]))
       else
        chk (decide (0 ≤ (IntKind.wrap .u64 y96))) <|
        chk (decide ((y111.length + ([((andI .u32 (p3 / 2 ^ min (IntKind.wrap .u64 y96).toNat 32) 1) == 1)]).length) * 1 ≤ 140737488355328)) <|
        Qbn N p0 p1 p2 p3 x4 p5 k9 n104 (w64 (y96 + 1)) (y109 ++ ([x123])) (y110 ++ ([x131])) (y111 ++ ([((andI .u32 (p3 / 2 ^ min (IntKind.wrap .u64 y96).toNat 32) 1) == 1)]))) fun k112 : Int × (List GMeter) × (List GMeter) × (List Bool) → Option Bool =>
     bif (y96 == x4) then
      k112 (w64 (x107 + (w64 p5)), y97, y98, y99)
     else
      k112 (x107, y97, y98, y99)
    else
     k9 (y97, y98, y99)
def Qb5 (N : Nat) (p0 : (List GNode)) (p1 : (List Int)) (k2 : Unit → Option Bool) : Nat → Int → Option Bool
  | 0, _ => none
  | n140 + 1, y138 =>
    bif (decide (y138 < (p0.length : Int))) then
     (getI p1 y138).bind fun x142 =>
     bif (decide (x142 > 1000000)) then
      (Qds 2000 ).bind fun x148 =>
      some x148
     else
      (getI p0 y138).bind fun x149 =>
      bif (decide (x149.Loss > 1000000)) then
       (Qds 2000 ).bind fun x155 =>
       some x155
      else
       Qb5 N p0 p1 k2 n140 (w64 (y138 + 1))
    else
     k2 ()
def Qez (N : Nat) (p0 : (List GNode)) (p1 : (List Int)) (p2 : (List Int)) (p3 : Int) (p4 : Int) (p5 : Int) : Option Bool :=
  Qcv (fun _ =>
    Qcv (fun _ =>
      chk ((p0.length : Int) != 0) <|
      (some ((w64 p4).tmod (p0.length : Int))).bind fun x4 =>
      Qcv (fun ⟨y6, y7, y8⟩ =>
        chk (!y7.isEmpty) <|
        Qcv (fun ⟨y11, y12, y13⟩ =>
          chk (decide (y7.length ≤ y12.length)) <|
          (Qfn N p0).bind fun x17 =>
          (Qen N x17 (⟨y11, y12.take y7.length, y13⟩ : GMeters)).bind fun x19 =>
          Qcv (fun _ =>
            Qcv (fun _ =>
              (getI x19.1 x4).bind fun x22 =>
              bif (decide (x22.Hi ≥ (w64 p5))) then
               bif (decide (x22.Lo ≤ (w64 p5))) then
                (Qds 2000 ).bind fun x29 =>
                some x29
               else
                some false
              else
               some false) fun k21 : Unit → Option Bool =>
            Qax N p0 x4 y13 x19 k21 N 0) fun k20 : Unit → Option Bool =>
          bif (x19.2 != 0) then
           some false
          else
           bif ((x19.1.length : Int) != (p0.length : Int)) then
            some false
           else
            k20 ()) fun k14 : (List GMeter) × (List GMeter) × (List Bool) → Option Bool =>
        Qa7 N p0 p1 p2 p5 y7 k14 N x4 y6 y7 y8) fun k9 : (List GMeter) × (List GMeter) × (List Bool) → Option Bool =>
      Qbn N p0 p1 p2 p3 x4 p5 k9 N 0 ([] : List GMeter) ([] : List GMeter) ([] : List Bool)) fun k2 : Unit → Option Bool =>
    Qb5 N p0 p1 k2 N 0) fun k1 : Unit → Option Bool =>
  (Qh9 N p0 p1).bind fun x157 =>
  bif (!x157) then
   (Qds 2000 ).bind fun x160 =>
   some x160
  else
   (Qgx N p0).bind fun x162 =>
   bif (!x162) then
    (Qds 2000 ).bind fun x165 =>
    some x165
   else
    (Qhk N p0 p1).bind fun x167 =>
    bif (!x167) then
     (Qds 2000 ).bind fun x170 =>
     some x170
    else
     bif ((p2.length : Int) == 0) then
      (Qds 2000 ).bind fun x173 =>
      some x173
     else
      k1 ()
def Qba (p0 : (List GNode)) : AV := .dat 4 ((p0 : List GNode).map Qac)
def Qcs (p1 : (List Int)) : AV := .dat 1 ((p1 : List Int).map Qad)
def Qd4 (p2 : (List Int)) : AV := .dat 1 ((p2 : List Int).map Qjz)
def Qo0 (y6 : (List GMeter)) : Slot := .gro 2 ((y6 : List GMeter).map Qay)
def Qoz (y8 : (List Bool)) : Slot := .gro 1 ((y8 : List Bool).map Qan)
def Qrm (y6 : (List GMeter)) (y7 : (List GMeter)) (y8 : (List Bool)) : Slot := .own 3 [[(.gro 1 96 2 (y6.length)), (.own 2 2 (0) (y7.length)), (.gro 3 4 1 (y8.length))]]
def Qrl (y7 : (List GMeter)) : Slot := .own 2 ((y7 : List GMeter).map Qay)
def Qoy (y12 : (List GMeter)) : Slot := .own 2 ((y12 : List GMeter).map Qay)
def Qld (y13 : (List Bool)) : Slot := .gro 1 ((y13 : List Bool).map Qan)
def Qih (y11 : (List GMeter)) : AV := .dat 2 ((y11 : List GMeter).map Qay)
def Qko (y12 : (List GMeter)) (y7 : (List GMeter)) : AV := .dat 2 ((y12.take y7.length : List GMeter).map Qay)
def Qd5 (y13 : (List Bool)) : AV := .dat 1 ((y13 : List Bool).map Qan)
def Qfu (y11 : (List GMeter)) (y12 : (List GMeter)) (y7 : (List GMeter)) (y13 : (List Bool)) : Slot := .own 3 [[(Qih y11), (Qko y12 y7), (Qd5 y13)]]
def Qci (x19 : ((List GRange) × Int)) : AV := .dat 2 ((x19.1 : List GRange).map Qa2)
def Qgn : AV := .agg [(I (0)), (I (0))]
def Qkn (x39 : GRange) : AV := .agg [(I (x39.Lo)), (I (x39.Hi))]
def Qmb (y59 : (List GMeter)) (y7 : (List GMeter)) (y61 : (List Bool)) : Slot := .own 3 [[(.gro 1 96 2 (y59.length)), (.own 2 2 (0) (y7.length)), (.gro 3 4 1 (y61.length))]]
def Qma (y59 : (List GMeter)) : Slot := .gro 2 ((y59 : List GMeter).map Qay)
def Qig (y60 : (List GMeter)) : Slot := .own 2 ((y60 : List GMeter).map Qay)
def Ql9 (y61 : (List Bool)) : Slot := .gro 1 ((y61 : List Bool).map Qan)
def Qvm : Slot := .own 3 [[(.gro 1 96 2 (([] : List GMeter).length)), (.gro 2 96 2 (([] : List GMeter).length)), (.gro 3 4 1 (([] : List Bool).length))]]
def Qo1 : Slot := .gro 2 ((([] : List GMeter) : List GMeter).map Qay)
def Qvl : Slot := .gro 1 ((([] : List Bool) : List Bool).map Qan)
def Ql8 (y97 : (List GMeter)) (y98 : (List GMeter)) (y99 : (List Bool)) : Slot := .own 3 [[(.gro 1 96 2 (y97.length)), (.gro 2 96 2 (y98.length)), (.gro 3 4 1 (y99.length))]]
def Ql7 (y97 : (List GMeter)) : Slot := .gro 2 ((y97 : List GMeter).map Qay)
def Ql6 (y98 : (List GMeter)) : Slot := .gro 2 ((y98 : List GMeter).map Qay)
def Ql5 (y99 : (List Bool)) : Slot := .gro 1 ((y99 : List Bool).map Qan)
def Qo3 (x123 : GMeter) : AV := .agg [(I (x123.Reading)), (I (x123.Off))]
def Qo2 (x131 : GMeter) : AV := .agg [(I (x131.Reading)), (I (x131.Off))]
def Qvn : AV := .dat 1 (([true] : List Bool).map Qan)
def Qs1 (p3 : Int) (y96 : Int) : AV := .dat 1 (([((andI .u32 (p3 / 2 ^ min (IntKind.wrap .u64 y96).toNat 32) 1) == 1)] : List Bool).map Qan)
def Qs0 (y111 : (List Bool)) (p3 : Int) (y96 : Int) : Slot := .gro 1 ((y111 ++ ([((andI .u32 (p3 / 2 ^ min (IntKind.wrap .u64 y96).toNat 32) 1) == 1)]) : List Bool).map Qan)
set_option maxRecDepth 100000 in
set_option maxHeartbeats 4000000 in
theorem Qjy (N : Nat) (p0 : (List GNode)) (p1 : (List Int)) (p2 : (List Int)) (p3 : Int) (p4 : Int) (p5 : Int) (r : Bool) (h : Qez N p0 p1 p2 p3 p4 p5 = some r) : Spec Try.prog 13 [(.dat 4 (p0.map Qac)), (.dat 1 (p1.map Qad)), (.dat 1 (p2.map Qjz)), (K .u32 p3), (K .u8 p4), (K .u16 p5)] [] (B r) [] := by
  refine Qaj Try.func13 rfl 0 (nle rfl) (fun X φ0 w0 hφ0 => ?_)
  unfold Qez at h
  refine wx tbk [] trivial ?_
  obtain ⟨k1, hk_k1, h⟩ := jko h
  refine wjn (τ := Unit) (fun t => k1 t = some r) (fun _ => ⟨mk 269 [(0, (Qba p0)), (1, (Qcs p1)), (2, (Qd4 p2)), (3, (K .u32 (p3))), (4, (K .u8 (p4))), (5, (K .u16 (p5)))], []⟩) (fun t h => ?_) ?_
  ·subst hk_k1
   obtain ⟨k2, hk_k2, h⟩ := jko h
   refine wjn (τ := Unit) (fun t => k2 t = some r) (fun _ => ⟨mk 269 [(0, (Qba p0)), (1, (Qcs p1)), (2, (Qd4 p2)), (3, (K .u32 (p3))), (4, (K .u8 (p4))), (5, (K .u16 (p5)))], []⟩) (fun t h => ?_) ?_
   ·subst hk_k2
    obtain ⟨hz3, h⟩ := cko h
    obtain ⟨x4, hl5, h⟩ := bno h
    refine wx tbk [(1, rp [(.tmp 65, (K .u8 (p4)))] (I (w64 p4))), (3, rp [(.tmp 67, (Qba p0))] (I ((p0.length : Int)))), (4, rp [(.tmp 66, I (w64 p4)), (.tmp 68, (I ((p0.length : Int))))] (I ((w64 p4).tmod (p0.length : Int)))), (5, rp [(.tmp 69, (I ((w64 p4).tmod (p0.length : Int))))] (I x4))] ⟨acv rfl (by rw [Try.underlying5]; rfl) Try.underlying3, alm (c := Qac) (l := p0) (aln rfl Try.underlying22 rfl), Qie rfl (Qlp hz3), Qe0 hl5 (aas rfl), trivial⟩ ?_
    refine wx tbk [(0, rp [] (.agg [nilS, nilS, nilS]))] ⟨Qa6 (vs := []) rfl ts105 tz105 rfl (by rfl) rfl, trivial⟩ ?_
    obtain ⟨k9, hk_k9, h⟩ := jko h
    refine wjn (τ := (List GMeter) × (List GMeter) × (List Bool)) (fun t => k9 t = some r) (fun ⟨y6, y7, y8⟩ => ⟨mk 269 [(0, (Qba p0)), (1, (Qcs p1)), (2, (Qd4 p2)), (5, (K .u16 (p5))), (14, I x4), (15, .ref 0 3 0 0)], [(.own 3 [[(.gro 1 96 2 (y6.length)), (.gro 2 96 2 (y7.length)), (.gro 3 4 1 (y8.length))]]), (Qo0 y6), (.gro 2 ((y7 : List GMeter).map Qay)), (Qoz y8)]⟩) (fun t h => ?_) ?_
    ·subst hk_k9
     obtain ⟨y6, y7, y8⟩ := t
     obtain ⟨hz10, h⟩ := cko h
     refine wmr (Qyh (n := 269) (m := 2) (c := Qay) (e := y7) (l' := [(0, (Qba p0)), (1, (Qcs p1)), (2, (Qd4 p2)), (5, (K .u16 (p5))), (14, I x4), (15, .ref 0 3 0 0)]) (own' := [(Qrm y6 y7 y8), (Qo0 y6), (Qrl y7), (Qoz y8)]) 2 [(0, (Qba p0)), (1, (Qcs p1)), (2, (Qd4 p2)), (5, (K .u16 (p5))), (14, I x4), (15, .ref 0 3 0 0)] (by kernel_rfl) (by kernel_rfl) (by kernel_rfl) (Qe5 hz10) Qam ⟨rfl, .same _, rfl, .same _, rfl, .same _, rfl, .same _, rfl, .same _, rfl, .same _, trivial⟩ (qc (Qme (lc (.same _) (lc (.own _ _ _) (lc (.same _) ln)))) (qc Qmu (qc Qmu (qc Qmu qn))))) ?_
     obtain ⟨k14, hk_k14, h⟩ := jko h
     refine wjn (τ := (List GMeter) × (List GMeter) × (List Bool)) (fun t => k14 t = some r) (fun ⟨y11, y12, y13⟩ => ⟨mk 269 [(0, (Qba p0)), (5, (K .u16 (p5))), (14, I x4), (15, .ref 0 3 0 0)], [(.own 3 [[(.gro 1 96 2 (y11.length)), (.own 2 2 (0) (y7.length)), (.gro 3 4 1 (y13.length))]]), (.gro 2 ((y11 : List GMeter).map Qay)), (Qoy y12), (Qld y13)]⟩) (fun t h => ?_) ?_
     ·subst hk_k14
      obtain ⟨y11, y12, y13⟩ := t
      refine wmr (Qry [(.own 3 [[(.gro 1 96 2 (y11.length)), (.own 2 2 (0) (y7.length)), (.gro 3 4 1 (y13.length))]]), (.gro 2 ((y11 : List GMeter).map Qay)), (Qoy y12), (Qld y13)] (Qti (n := 269) (m := 2) (xs := (y11 : List GMeter).map Qay) (l' := [(0, (Qba p0)), (5, (K .u16 (p5))), (14, I x4), (15, .ref 0 3 0 0)]) (own' := [(.own 3 [[(Qih y11), (.own 2 2 (0) (y7.length)), (.gro 3 4 1 (y13.length))]]), .dead, (Qoy y12), (Qld y13)]) 1 [(0, (Qba p0)), (5, (K .u16 (p5))), (14, I x4), (15, .ref 0 3 0 0)] (by kernel_rfl) (by kernel_rfl) (by kernel_rfl) ⟨rfl, (.same _), rfl, (.same _), rfl, (.same _), rfl, (.same _), trivial⟩ (qc (Qme (lc (.gro _ _ (Qwj).symm) (lc (.same _) (lc (.same _) ln)))) (qc .dead (qc Qmd (qc Qmd qn)))))) ?_
      obtain ⟨hz15, h⟩ := cko h
      refine wmr (Qry [(.own 3 [[(Qih y11), (.own 2 2 (0) (y7.length)), (.gro 3 4 1 (y13.length))]]), .dead, (Qoy y12), (Qld y13)] (mor_fzq (n := 269) (m := 2) (xs := (y12 : List GMeter).map Qay) (l' := [(0, (Qba p0)), (5, (K .u16 (p5))), (14, I x4), (15, .ref 0 3 0 0)]) (own' := [(.own 3 [[(Qih y11), (Qko y12 y7), (.gro 3 4 1 (y13.length))]]), .dead, .dead, (Qld y13)]) 2 [(0, (Qba p0)), (5, (K .u16 (p5))), (14, I x4), (15, .ref 0 3 0 0)] (by kernel_rfl) (by kernel_rfl) (by kernel_rfl) ⟨rfl, (.same _), rfl, (.same _), rfl, (.same _), rfl, (.same _), trivial⟩ (qc (Qme (lc (.same _) (lc (Qjc hz15) (lc (.same _) ln)))) (qc Qqd (qc .dead (qc Qqd qn)))))) ?_
      refine wmr (Qry [(.own 3 [[(Qih y11), (Qko y12 y7), (.gro 3 4 1 (y13.length))]]), .dead, .dead, (Qld y13)] (Qti (n := 269) (m := 1) (xs := (y13 : List Bool).map Qan) (l' := [(0, (Qba p0)), (5, (K .u16 (p5))), (14, I x4), (15, .ref 0 3 0 0)]) (own' := [(Qfu y11 y12 y7 y13), .dead, .dead, .dead]) 3 [(0, (Qba p0)), (5, (K .u16 (p5))), (14, I x4), (15, .ref 0 3 0 0)] (by kernel_rfl) (by kernel_rfl) (by kernel_rfl) ⟨rfl, (.same _), rfl, (.same _), rfl, (.same _), rfl, (.same _), trivial⟩ (qc (Qme (lc (.same _) (lc (.same _) (lc (.gro _ _ (Qwj).symm) ln)))) (qc Qmd (qc Qmd (qc .dead qn)))))) ?_
      obtain ⟨x17, hf16, h⟩ := bno h
      obtain ⟨x19, hf18, h⟩ := bno h
      refine wxd tbk [(1, rp [fu 23, (.tmp 185, (Qba p0))] (.dat 4 ((x17 : List GNode).map Qac))), (3, rp [fu 50, (.tmp 186, (.dat 4 ((x17 : List GNode).map Qac))), (.tmp 187, (.agg [(Qih y11), (Qko y12 y7), (Qd5 y13)]))] (.tup [(Qci x19), I x19.2]))] ⟨apc (first := []) (cap := []) (vs := [(Qba p0)]) rfl enter23 (Qnw N p0 _ hf16) rfl rfl (nlc (nld Qab _) nl0) (nld Qab _) rfl, apc (first := []) (cap := []) (vs := [(.dat 4 ((x17 : List GNode).map Qac)), (.agg [(Qih y11), (Qko y12 y7), (Qd5 y13)])]) rfl enter50 (Ql3 N x17 (⟨y11, y12.take y7.length, y13⟩ : GMeters) _ hf18) rfl rfl (nlc (nld Qab _) (nlc (NLt.agg _ (nlc (nld Qam _) (nlc (nld Qam _) (nlc (nld Qbv _) nl0)))) nl0)) (NLt.tup _ (nlc (nld Qbe _) (nlc nll nl0))) rfl, trivial⟩ ?_
      obtain ⟨k20, hk_k20, h⟩ := jko h
      refine wjn (τ := Unit) (fun t => k20 t = some r) (fun _ => ⟨mk 269 [(0, (Qba p0)), (5, (K .u16 (p5))), (14, I x4), (15, .ref 0 3 0 0), (21, (Qci x19))], [(Qfu y11 y12 y7 y13)]⟩) (fun t h => ?_) ?_
      ·subst hk_k20
       obtain ⟨k21, hk_k21, h⟩ := jko h
       refine wjn (τ := Unit) (fun t => k21 t = some r) (fun _ => ⟨mk 269 [(5, (K .u16 (p5))), (14, I x4), (21, (Qci x19))], []⟩) (fun t h => ?_) ?_
       ·subst hk_k21
        obtain ⟨x22, hg23, h⟩ := bno h
        obtain ⟨hi24, hj25⟩ := gsm hg23
        rcases bft ((decide (x22.Hi ≥ (w64 p5)))) with hb26 | hb26
        ·replace h := Qar hb26 h
         rcases bft ((decide (x22.Lo ≤ (w64 p5)))) with hb27 | hb27
         ·replace h := Qar hb27 h
          obtain ⟨x29, hf28, h⟩ := bno h
          refine wx tbk [(2, rp [(.tmp 248, (Qci x19)), (.tmp 249, I x4)] (.dptr (Qa2 (x22)) 0)), (6, rp [(.tmp 253, (K .u16 (p5)))] (I (w64 p5))), (8, rp [(.tmp 255, (B ((decide (x22.Hi ≥ (w64 p5))))))] (B true)), (11, rp [(.tmp 256, B true), (.tmp 257, (Qci x19)), (.tmp 258, I x4)] (.dptr (Qa2 (x22)) 0)), (15, rp [(.tmp 256, B true), (.tmp 262, (K .u16 (p5)))] (I (w64 p5))), (18, rp [(.tmp 265, (B ((decide (x22.Lo ≤ (w64 p5))))))] (B true)), (19, rp [(.tmp 266, B true), fu 21] (B x29))] ⟨aid rfl Try.underlying100 ti93 rfl rfl hi24 (mgt Qa2 hj25) rfl, acv rfl (by rw [Try.underlying58]; rfl) Try.underlying3, asb hb26 (amv rfl), ag_ (aid rfl Try.underlying100 ti93 rfl rfl hi24 (mgt Qa2 hj25) rfl), ag_ (acv rfl (by rw [Try.underlying58]; rfl) Try.underlying3), asb hb27 (amv rfl), ag_ (apc (first := []) (cap := []) (vs := []) rfl Qiw (Qdq 2000  _ hf28) rfl rfl nl0 nll rfl), trivial⟩ ?_
          refine Qai ?_
          obtain rfl := osi h
          exact fend ⟨[B x29], ⟨rot (by kernel_rfl), trivial⟩, rfl⟩ nll
         ·replace h := Qas hb27 h
          refine wx tbk [(2, rp [(.tmp 248, (Qci x19)), (.tmp 249, I x4)] (.dptr (Qa2 (x22)) 0)), (6, rp [(.tmp 253, (K .u16 (p5)))] (I (w64 p5))), (8, rp [(.tmp 255, (B ((decide (x22.Hi ≥ (w64 p5))))))] (B true)), (11, rp [(.tmp 256, B true), (.tmp 257, (Qci x19)), (.tmp 258, I x4)] (.dptr (Qa2 (x22)) 0)), (15, rp [(.tmp 256, B true), (.tmp 262, (K .u16 (p5)))] (I (w64 p5))), (18, rp [(.tmp 265, (B ((decide (x22.Lo ≤ (w64 p5))))))] (B false))] ⟨aid rfl Try.underlying100 ti93 rfl rfl hi24 (mgt Qa2 hj25) rfl, acv rfl (by rw [Try.underlying58]; rfl) Try.underlying3, asb hb26 (amv rfl), ag_ (aid rfl Try.underlying100 ti93 rfl rfl hi24 (mgt Qa2 hj25) rfl), ag_ (acv rfl (by rw [Try.underlying58]; rfl) Try.underlying3), asb hb27 (amv rfl), trivial⟩ ?_
          refine Qai ?_
          obtain rfl := osi h
          exact fend ⟨[B false], ⟨rot (by kernel_rfl), trivial⟩, rfl⟩ nll
        ·replace h := Qas hb26 h
         refine wx tbk [(2, rp [(.tmp 248, (Qci x19)), (.tmp 249, I x4)] (.dptr (Qa2 (x22)) 0)), (6, rp [(.tmp 253, (K .u16 (p5)))] (I (w64 p5))), (8, rp [(.tmp 255, (B ((decide (x22.Hi ≥ (w64 p5))))))] (B false))] ⟨aid rfl Try.underlying100 ti93 rfl rfl hi24 (mgt Qa2 hj25) rfl, acv rfl (by rw [Try.underlying58]; rfl) Try.underlying3, asb hb26 (amv rfl), trivial⟩ ?_
         refine Qai ?_
         obtain rfl := osi h
         exact fend ⟨[B false], ⟨rot (by kernel_rfl), trivial⟩, rfl⟩ nll
       ·skip
        refine wx tbk [] trivial ?_
        refine Qah ?_
        refine wmr (mto (n := 269) (l' := [(0, (Qba p0)), (5, (K .u16 (p5))), (14, I x4), (15, .ref 0 3 0 0), (21, (Qci x19)), (23, I 0)]) (own' := [(Qfu y11 y12 y7 y13)]) [(0, (Qba p0)), (5, (K .u16 (p5))), (14, I x4), (15, .ref 0 3 0 0), (21, (Qci x19)), (23, I 0)] [0] [(Qfu y11 y12 y7 y13)] hφ0 (pc (.rn (.plain _ (nld Qab _))) (pc rwl (pc rwl (pc (.rn (rqr rfl)) (pc (.rn (.plain _ (nld Qbe _))) (pc rwl pn)))))) (qc (spb (lc (.rn (.plain _ (nld Qam _))) (lc (.rn (.plain _ (nld Qam _))) (lc (.rn (.plain _ (nld Qbv _))) ln)))) qn)) ?_
        refine Qb7 (τ := Int) (fun n t => Qax N p0 x4 y13 x19 k21 n t = some r) (fun y30 => ⟨mk 269 [(0, (Qba p0)), (5, (K .u16 (p5))), (14, I x4), (15, .ref 0 3 0 0), (21, (Qci x19)), (23, I y30)], [(Qfu y11 y12 y7 y13)]⟩) (fun t h => by rw [Qax] at h; cases h) (fun n32 ih y30 h => ?_) N (0) h
        rw [Qax] at h
        skip
        refine wsq ?_
        refine wx tbk [(2, rp [(.tmp 201, (Qba p0))] (I ((p0.length : Int))))] ⟨alm (c := Qac) (l := p0) (aln rfl Try.underlying22 rfl), trivial⟩ ?_
        rcases bft ((decide (y30 < (p0.length : Int)))) with hc33 | hc33
        ·replace h := Qar hc33 h
         refine wft hc33 (by kernel_rfl) ?_
         refine Qaf ?_
         refine thn ?_
         refine wsq ?_
         refine Qah ?_
         obtain ⟨x34, hg35, h⟩ := bno h
         obtain ⟨hi36, hj37⟩ := gsm hg35
         rcases bft ((!x34)) with hb38 | hb38
         ·replace h := Qar hb38 h
          obtain ⟨x39, hg40, h⟩ := bno h
          obtain ⟨hi41, hj42⟩ := gsm hg40
          rcases bft ((!(([x39.Lo, x39.Hi] : List Int) == [0, 0]))) with hb43 | hb43
          ·replace h := Qar hb43 h
           refine wx tbk [(3, rp [(.tmp 207, (Qd5 y13)), (.tmp 208, I y30)] (.dptr (Qan (x34)) 0)), (6, rp [(.tmp 211, (B ((!x34))))] (B true)), (9, rp [(.tmp 212, B true), (.tmp 213, (Qci x19)), (.tmp 214, I y30)] (.dptr (Qa2 (x39)) 0)), (11, rp [(.tmp 212, B true)] Qgn), (12, rp [(.tmp 212, B true), (.tmp 216, (Qkn x39)), (.tmp 217, Qgn)] (B ((!(([x39.Lo, x39.Hi] : List Int) == [0, 0]))))), (14, rp [(.tmp 219, (B ((!(([x39.Lo, x39.Hi] : List Int) == [0, 0])))))] (B true))] ⟨aid rfl Try.underlying26 ti4 rfl rfl hi36 (mgt Qan hj37) rfl, asb hb38 (amv rfl), ag_ (aid rfl Try.underlying100 ti93 rfl rfl hi41 (mgt Qa2 hj42) rfl), ag_ (Qa6 (vs := []) rfl ts93 tz93 rfl (by rfl) rfl), ag_ (Qji (ls := [x39.Lo, x39.Hi]) (ks := [0, 0]) rfl rfl Qph (by kernel_rfl) rfl rfl), asb hb43 (amv rfl), trivial⟩ ?_
           refine Qbs (by kernel_rfl) ?_
           refine wx tbk [] trivial ?_
           refine Qai ?_
           refine Qaq ?_
           refine Qag ?_
           refine Qag ?_
           refine Qaq ?_
           refine Qag ?_
           obtain rfl := osi h
           exact fend ⟨[B false], ⟨rot (by kernel_rfl), trivial⟩, rfl⟩ nll
          ·replace h := Qas hb43 h
           rcases bft (x34) with hb44 | hb44
           ·replace h := Qar hb44 h
            rcases bft ((y30 != x4)) with hb45 | hb45
            ·replace h := Qar hb45 h
             rcases bft ((decide (x39.Lo > 0))) with hb46 | hb46
             ·replace h := Qar hb46 h
              refine wx tbk [(3, rp [(.tmp 207, (Qd5 y13)), (.tmp 208, I y30)] (.dptr (Qan (x34)) 0)), (6, rp [(.tmp 211, (B ((!x34))))] (B true)), (9, rp [(.tmp 212, B true), (.tmp 213, (Qci x19)), (.tmp 214, I y30)] (.dptr (Qa2 (x39)) 0)), (11, rp [(.tmp 212, B true)] Qgn), (12, rp [(.tmp 212, B true), (.tmp 216, (Qkn x39)), (.tmp 217, Qgn)] (B ((!(([x39.Lo, x39.Hi] : List Int) == [0, 0]))))), (14, rp [(.tmp 219, (B ((!(([x39.Lo, x39.Hi] : List Int) == [0, 0])))))] (B false)), (18, rp [(.tmp 220, B false), (.tmp 222, (Qd5 y13)), (.tmp 223, I y30)] (.dptr (Qan (x34)) 0)), (20, rp [(.tmp 220, B false), (.tmp 225, B x34)] (B true)), (25, rp [(.tmp 220, B false), (.tmp 230, (B ((y30 != x4))))] (B true)), (28, rp [(.tmp 231, B true), (.tmp 232, (Qci x19)), (.tmp 233, I y30)] (.dptr (Qa2 (x39)) 0)), (32, rp [(.tmp 231, B true), (.tmp 237, (B ((decide (x39.Lo > 0)))))] (B true))] ⟨aid rfl Try.underlying26 ti4 rfl rfl hi36 (mgt Qan hj37) rfl, asb hb38 (amv rfl), ag_ (aid rfl Try.underlying100 ti93 rfl rfl hi41 (mgt Qa2 hj42) rfl), ag_ (Qa6 (vs := []) rfl ts93 tz93 rfl (by rfl) rfl), ag_ (Qji (ls := [x39.Lo, x39.Hi]) (ks := [0, 0]) rfl rfl Qph (by kernel_rfl) rfl rfl), asb hb43 (amv rfl), ag_ (aid rfl Try.underlying26 ti4 rfl rfl hi36 (mgt Qan hj37) rfl), asb hb44 (ag_ (amv rfl)), asb hb45 (ag_ (amv rfl)), ag_ (aid rfl Try.underlying100 ti93 rfl rfl hi41 (mgt Qa2 hj42) rfl), asb hb46 (ag_ (amv rfl)), trivial⟩ ?_
              refine Qbs (by kernel_rfl) ?_
              refine wx tbk [] trivial ?_
              refine Qai ?_
              refine Qaq ?_
              refine Qag ?_
              refine Qag ?_
              refine Qaq ?_
              refine Qag ?_
              obtain rfl := osi h
              exact fend ⟨[B false], ⟨rot (by kernel_rfl), trivial⟩, rfl⟩ nll
             ·replace h := Qas hb46 h
              refine wx tbk [(3, rp [(.tmp 207, (Qd5 y13)), (.tmp 208, I y30)] (.dptr (Qan (x34)) 0)), (6, rp [(.tmp 211, (B ((!x34))))] (B true)), (9, rp [(.tmp 212, B true), (.tmp 213, (Qci x19)), (.tmp 214, I y30)] (.dptr (Qa2 (x39)) 0)), (11, rp [(.tmp 212, B true)] Qgn), (12, rp [(.tmp 212, B true), (.tmp 216, (Qkn x39)), (.tmp 217, Qgn)] (B ((!(([x39.Lo, x39.Hi] : List Int) == [0, 0]))))), (14, rp [(.tmp 219, (B ((!(([x39.Lo, x39.Hi] : List Int) == [0, 0])))))] (B false)), (18, rp [(.tmp 220, B false), (.tmp 222, (Qd5 y13)), (.tmp 223, I y30)] (.dptr (Qan (x34)) 0)), (20, rp [(.tmp 220, B false), (.tmp 225, B x34)] (B true)), (25, rp [(.tmp 220, B false), (.tmp 230, (B ((y30 != x4))))] (B true)), (28, rp [(.tmp 231, B true), (.tmp 232, (Qci x19)), (.tmp 233, I y30)] (.dptr (Qa2 (x39)) 0)), (32, rp [(.tmp 231, B true), (.tmp 237, (B ((decide (x39.Lo > 0)))))] (B false)), (35, rp [(.tmp 238, B false), (.tmp 239, (Qci x19)), (.tmp 240, I y30)] (.dptr (Qa2 (x39)) 0))] ⟨aid rfl Try.underlying26 ti4 rfl rfl hi36 (mgt Qan hj37) rfl, asb hb38 (amv rfl), ag_ (aid rfl Try.underlying100 ti93 rfl rfl hi41 (mgt Qa2 hj42) rfl), ag_ (Qa6 (vs := []) rfl ts93 tz93 rfl (by rfl) rfl), ag_ (Qji (ls := [x39.Lo, x39.Hi]) (ks := [0, 0]) rfl rfl Qph (by kernel_rfl) rfl rfl), asb hb43 (amv rfl), ag_ (aid rfl Try.underlying26 ti4 rfl rfl hi36 (mgt Qan hj37) rfl), asb hb44 (ag_ (amv rfl)), asb hb45 (ag_ (amv rfl)), ag_ (aid rfl Try.underlying100 ti93 rfl rfl hi41 (mgt Qa2 hj42) rfl), asb hb46 (ag_ (amv rfl)), ag_ (aid rfl Try.underlying100 ti93 rfl rfl hi41 (mgt Qa2 hj42) rfl), trivial⟩ ?_
              rcases bft ((decide (x39.Hi < 0))) with hc47 | hc47
              ·replace h := Qar hc47 h
               refine wft hc47 (by kernel_rfl) ?_
               refine wx tbk [] trivial ?_
               refine Qai ?_
               refine Qaq ?_
               refine Qag ?_
               refine Qag ?_
               refine Qaq ?_
               refine Qag ?_
               obtain rfl := osi h
               exact fend ⟨[B false], ⟨rot (by kernel_rfl), trivial⟩, rfl⟩ nll
              ·replace h := Qas hc47 h
               refine wfn hc47 (by kernel_rfl) ?_
               refine Qaf ?_
               refine bln ?_
               refine thn ?_
               refine wx1 tbk [] trivial ?_
               refine thn ?_
               exact arm (mto (n := 269) [(0, (Qba p0)), (5, (K .u16 (p5))), (14, I x4), (15, .ref 0 3 0 0), (21, (Qci x19)), (23, (I (w64 (y30 + 1))))] [0] [(Qfu y11 y12 y7 y13)] hφ0 (pc (.rn (.plain _ (nld Qab _))) (pc rwl (pc rwl (pc (.rn (rqr rfl)) (pc (.rn (.plain _ (nld Qbe _))) (pc rwl pn)))))) (qc (spb (lc (.rn (.plain _ (nld Qam _))) (lc (.rn (.plain _ (nld Qam _))) (lc (.rn (.plain _ (nld Qbv _))) ln)))) qn)) (ih (w64 (y30 + 1)) h)
            ·replace h := Qas hb45 h
             refine wx tbk [(3, rp [(.tmp 207, (Qd5 y13)), (.tmp 208, I y30)] (.dptr (Qan (x34)) 0)), (6, rp [(.tmp 211, (B ((!x34))))] (B true)), (9, rp [(.tmp 212, B true), (.tmp 213, (Qci x19)), (.tmp 214, I y30)] (.dptr (Qa2 (x39)) 0)), (11, rp [(.tmp 212, B true)] Qgn), (12, rp [(.tmp 212, B true), (.tmp 216, (Qkn x39)), (.tmp 217, Qgn)] (B ((!(([x39.Lo, x39.Hi] : List Int) == [0, 0]))))), (14, rp [(.tmp 219, (B ((!(([x39.Lo, x39.Hi] : List Int) == [0, 0])))))] (B false)), (18, rp [(.tmp 220, B false), (.tmp 222, (Qd5 y13)), (.tmp 223, I y30)] (.dptr (Qan (x34)) 0)), (20, rp [(.tmp 220, B false), (.tmp 225, B x34)] (B true)), (25, rp [(.tmp 220, B false), (.tmp 230, (B ((y30 != x4))))] (B false))] ⟨aid rfl Try.underlying26 ti4 rfl rfl hi36 (mgt Qan hj37) rfl, asb hb38 (amv rfl), ag_ (aid rfl Try.underlying100 ti93 rfl rfl hi41 (mgt Qa2 hj42) rfl), ag_ (Qa6 (vs := []) rfl ts93 tz93 rfl (by rfl) rfl), ag_ (Qji (ls := [x39.Lo, x39.Hi]) (ks := [0, 0]) rfl rfl Qph (by kernel_rfl) rfl rfl), asb hb43 (amv rfl), ag_ (aid rfl Try.underlying26 ti4 rfl rfl hi36 (mgt Qan hj37) rfl), asb hb44 (ag_ (amv rfl)), asb hb45 (ag_ (amv rfl)), trivial⟩ ?_
             refine Qd3 (by kernel_rfl) ?_
             refine Qaf ?_
             refine bln ?_
             refine thn ?_
             refine wx1 tbk [] trivial ?_
             refine thn ?_
             exact arm (mto (n := 269) [(0, (Qba p0)), (5, (K .u16 (p5))), (14, I x4), (15, .ref 0 3 0 0), (21, (Qci x19)), (23, (I (w64 (y30 + 1))))] [0] [(Qfu y11 y12 y7 y13)] hφ0 (pc (.rn (.plain _ (nld Qab _))) (pc rwl (pc rwl (pc (.rn (rqr rfl)) (pc (.rn (.plain _ (nld Qbe _))) (pc rwl pn)))))) (qc (spb (lc (.rn (.plain _ (nld Qam _))) (lc (.rn (.plain _ (nld Qam _))) (lc (.rn (.plain _ (nld Qbv _))) ln)))) qn)) (ih (w64 (y30 + 1)) h)
           ·replace h := Qas hb44 h
            refine wx tbk [(3, rp [(.tmp 207, (Qd5 y13)), (.tmp 208, I y30)] (.dptr (Qan (x34)) 0)), (6, rp [(.tmp 211, (B ((!x34))))] (B true)), (9, rp [(.tmp 212, B true), (.tmp 213, (Qci x19)), (.tmp 214, I y30)] (.dptr (Qa2 (x39)) 0)), (11, rp [(.tmp 212, B true)] Qgn), (12, rp [(.tmp 212, B true), (.tmp 216, (Qkn x39)), (.tmp 217, Qgn)] (B ((!(([x39.Lo, x39.Hi] : List Int) == [0, 0]))))), (14, rp [(.tmp 219, (B ((!(([x39.Lo, x39.Hi] : List Int) == [0, 0])))))] (B false)), (18, rp [(.tmp 220, B false), (.tmp 222, (Qd5 y13)), (.tmp 223, I y30)] (.dptr (Qan (x34)) 0)), (20, rp [(.tmp 220, B false), (.tmp 225, B x34)] (B false))] ⟨aid rfl Try.underlying26 ti4 rfl rfl hi36 (mgt Qan hj37) rfl, asb hb38 (amv rfl), ag_ (aid rfl Try.underlying100 ti93 rfl rfl hi41 (mgt Qa2 hj42) rfl), ag_ (Qa6 (vs := []) rfl ts93 tz93 rfl (by rfl) rfl), ag_ (Qji (ls := [x39.Lo, x39.Hi]) (ks := [0, 0]) rfl rfl Qph (by kernel_rfl) rfl rfl), asb hb43 (amv rfl), ag_ (aid rfl Try.underlying26 ti4 rfl rfl hi36 (mgt Qan hj37) rfl), asb hb44 (ag_ (amv rfl)), trivial⟩ ?_
            refine Qd3 (by kernel_rfl) ?_
            refine Qaf ?_
            refine bln ?_
            refine thn ?_
            refine wx1 tbk [] trivial ?_
            refine thn ?_
            exact arm (mto (n := 269) [(0, (Qba p0)), (5, (K .u16 (p5))), (14, I x4), (15, .ref 0 3 0 0), (21, (Qci x19)), (23, (I (w64 (y30 + 1))))] [0] [(Qfu y11 y12 y7 y13)] hφ0 (pc (.rn (.plain _ (nld Qab _))) (pc rwl (pc rwl (pc (.rn (rqr rfl)) (pc (.rn (.plain _ (nld Qbe _))) (pc rwl pn)))))) (qc (spb (lc (.rn (.plain _ (nld Qam _))) (lc (.rn (.plain _ (nld Qam _))) (lc (.rn (.plain _ (nld Qbv _))) ln)))) qn)) (ih (w64 (y30 + 1)) h)
         ·replace h := Qas hb38 h
          rcases bft (x34) with hb48 | hb48
          ·replace h := Qar hb48 h
           rcases bft ((y30 != x4)) with hb49 | hb49
           ·replace h := Qar hb49 h
            obtain ⟨x50, hg51, h⟩ := bno h
            obtain ⟨hi52, hj53⟩ := gsm hg51
            rcases bft ((decide (x50.Lo > 0))) with hb54 | hb54
            ·replace h := Qar hb54 h
             refine wx tbk [(3, rp [(.tmp 207, (Qd5 y13)), (.tmp 208, I y30)] (.dptr (Qan (x34)) 0)), (6, rp [(.tmp 211, (B ((!x34))))] (B false)), (18, rp [(.tmp 220, B false), (.tmp 222, (Qd5 y13)), (.tmp 223, I y30)] (.dptr (Qan (x34)) 0)), (20, rp [(.tmp 220, B false), (.tmp 225, B x34)] (B true)), (25, rp [(.tmp 220, B false), (.tmp 230, (B ((y30 != x4))))] (B true)), (28, rp [(.tmp 231, B true), (.tmp 232, (Qci x19)), (.tmp 233, I y30)] (.dptr (Qa2 (x50)) 0)), (32, rp [(.tmp 231, B true), (.tmp 237, (B ((decide (x50.Lo > 0)))))] (B true))] ⟨aid rfl Try.underlying26 ti4 rfl rfl hi36 (mgt Qan hj37) rfl, asb hb38 (amv rfl), ag_ (aid rfl Try.underlying26 ti4 rfl rfl hi36 (mgt Qan hj37) rfl), asb hb48 (ag_ (amv rfl)), asb hb49 (ag_ (amv rfl)), ag_ (aid rfl Try.underlying100 ti93 rfl rfl hi52 (mgt Qa2 hj53) rfl), asb hb54 (ag_ (amv rfl)), trivial⟩ ?_
             refine Qbs (by kernel_rfl) ?_
             refine wx tbk [] trivial ?_
             refine Qai ?_
             refine Qaq ?_
             refine Qag ?_
             refine Qag ?_
             refine Qaq ?_
             refine Qag ?_
             obtain rfl := osi h
             exact fend ⟨[B false], ⟨rot (by kernel_rfl), trivial⟩, rfl⟩ nll
            ·replace h := Qas hb54 h
             refine wx tbk [(3, rp [(.tmp 207, (Qd5 y13)), (.tmp 208, I y30)] (.dptr (Qan (x34)) 0)), (6, rp [(.tmp 211, (B ((!x34))))] (B false)), (18, rp [(.tmp 220, B false), (.tmp 222, (Qd5 y13)), (.tmp 223, I y30)] (.dptr (Qan (x34)) 0)), (20, rp [(.tmp 220, B false), (.tmp 225, B x34)] (B true)), (25, rp [(.tmp 220, B false), (.tmp 230, (B ((y30 != x4))))] (B true)), (28, rp [(.tmp 231, B true), (.tmp 232, (Qci x19)), (.tmp 233, I y30)] (.dptr (Qa2 (x50)) 0)), (32, rp [(.tmp 231, B true), (.tmp 237, (B ((decide (x50.Lo > 0)))))] (B false)), (35, rp [(.tmp 238, B false), (.tmp 239, (Qci x19)), (.tmp 240, I y30)] (.dptr (Qa2 (x50)) 0))] ⟨aid rfl Try.underlying26 ti4 rfl rfl hi36 (mgt Qan hj37) rfl, asb hb38 (amv rfl), ag_ (aid rfl Try.underlying26 ti4 rfl rfl hi36 (mgt Qan hj37) rfl), asb hb48 (ag_ (amv rfl)), asb hb49 (ag_ (amv rfl)), ag_ (aid rfl Try.underlying100 ti93 rfl rfl hi52 (mgt Qa2 hj53) rfl), asb hb54 (ag_ (amv rfl)), ag_ (aid rfl Try.underlying100 ti93 rfl rfl hi52 (mgt Qa2 hj53) rfl), trivial⟩ ?_
             rcases bft ((decide (x50.Hi < 0))) with hc55 | hc55
             ·replace h := Qar hc55 h
              refine wft hc55 (by kernel_rfl) ?_
              refine wx tbk [] trivial ?_
              refine Qai ?_
              refine Qaq ?_
              refine Qag ?_
              refine Qag ?_
              refine Qaq ?_
              refine Qag ?_
              obtain rfl := osi h
              exact fend ⟨[B false], ⟨rot (by kernel_rfl), trivial⟩, rfl⟩ nll
             ·replace h := Qas hc55 h
              refine wfn hc55 (by kernel_rfl) ?_
              refine Qaf ?_
              refine bln ?_
              refine thn ?_
              refine wx1 tbk [] trivial ?_
              refine thn ?_
              exact arm (mto (n := 269) [(0, (Qba p0)), (5, (K .u16 (p5))), (14, I x4), (15, .ref 0 3 0 0), (21, (Qci x19)), (23, (I (w64 (y30 + 1))))] [0] [(Qfu y11 y12 y7 y13)] hφ0 (pc (.rn (.plain _ (nld Qab _))) (pc rwl (pc rwl (pc (.rn (rqr rfl)) (pc (.rn (.plain _ (nld Qbe _))) (pc rwl pn)))))) (qc (spb (lc (.rn (.plain _ (nld Qam _))) (lc (.rn (.plain _ (nld Qam _))) (lc (.rn (.plain _ (nld Qbv _))) ln)))) qn)) (ih (w64 (y30 + 1)) h)
           ·replace h := Qas hb49 h
            refine wx tbk [(3, rp [(.tmp 207, (Qd5 y13)), (.tmp 208, I y30)] (.dptr (Qan (x34)) 0)), (6, rp [(.tmp 211, (B ((!x34))))] (B false)), (18, rp [(.tmp 220, B false), (.tmp 222, (Qd5 y13)), (.tmp 223, I y30)] (.dptr (Qan (x34)) 0)), (20, rp [(.tmp 220, B false), (.tmp 225, B x34)] (B true)), (25, rp [(.tmp 220, B false), (.tmp 230, (B ((y30 != x4))))] (B false))] ⟨aid rfl Try.underlying26 ti4 rfl rfl hi36 (mgt Qan hj37) rfl, asb hb38 (amv rfl), ag_ (aid rfl Try.underlying26 ti4 rfl rfl hi36 (mgt Qan hj37) rfl), asb hb48 (ag_ (amv rfl)), asb hb49 (ag_ (amv rfl)), trivial⟩ ?_
            refine Qd3 (by kernel_rfl) ?_
            refine Qaf ?_
            refine bln ?_
            refine thn ?_
            refine wx1 tbk [] trivial ?_
            refine thn ?_
            exact arm (mto (n := 269) [(0, (Qba p0)), (5, (K .u16 (p5))), (14, I x4), (15, .ref 0 3 0 0), (21, (Qci x19)), (23, (I (w64 (y30 + 1))))] [0] [(Qfu y11 y12 y7 y13)] hφ0 (pc (.rn (.plain _ (nld Qab _))) (pc rwl (pc rwl (pc (.rn (rqr rfl)) (pc (.rn (.plain _ (nld Qbe _))) (pc rwl pn)))))) (qc (spb (lc (.rn (.plain _ (nld Qam _))) (lc (.rn (.plain _ (nld Qam _))) (lc (.rn (.plain _ (nld Qbv _))) ln)))) qn)) (ih (w64 (y30 + 1)) h)
          ·replace h := Qas hb48 h
           refine wx tbk [(3, rp [(.tmp 207, (Qd5 y13)), (.tmp 208, I y30)] (.dptr (Qan (x34)) 0)), (6, rp [(.tmp 211, (B ((!x34))))] (B false)), (18, rp [(.tmp 220, B false), (.tmp 222, (Qd5 y13)), (.tmp 223, I y30)] (.dptr (Qan (x34)) 0)), (20, rp [(.tmp 220, B false), (.tmp 225, B x34)] (B false))] ⟨aid rfl Try.underlying26 ti4 rfl rfl hi36 (mgt Qan hj37) rfl, asb hb38 (amv rfl), ag_ (aid rfl Try.underlying26 ti4 rfl rfl hi36 (mgt Qan hj37) rfl), asb hb48 (ag_ (amv rfl)), trivial⟩ ?_
           refine Qd3 (by kernel_rfl) ?_
           refine Qaf ?_
           refine bln ?_
           refine thn ?_
           refine wx1 tbk [] trivial ?_
           refine thn ?_
           exact arm (mto (n := 269) [(0, (Qba p0)), (5, (K .u16 (p5))), (14, I x4), (15, .ref 0 3 0 0), (21, (Qci x19)), (23, (I (w64 (y30 + 1))))] [0] [(Qfu y11 y12 y7 y13)] hφ0 (pc (.rn (.plain _ (nld Qab _))) (pc rwl (pc rwl (pc (.rn (rqr rfl)) (pc (.rn (.plain _ (nld Qbe _))) (pc rwl pn)))))) (qc (spb (lc (.rn (.plain _ (nld Qam _))) (lc (.rn (.plain _ (nld Qam _))) (lc (.rn (.plain _ (nld Qbv _))) ln)))) qn)) (ih (w64 (y30 + 1)) h)
        ·replace h := Qas hc33 h
         refine wfn hc33 (by kernel_rfl) ?_
         refine Qbc ?_
         refine Qao ?_
         refine Qao ?_
         refine Qbb rfl ?_
         refine thn ?_
         exact ⟨(), h, (mto (n := 269) [(5, (K .u16 (p5))), (14, I x4), (21, (Qci x19))] [] [] hφ0 (pc rwl (pc rwl (pc (.rn (.plain _ (nld Qbe _))) pn))) qn)⟩
      ·skip
       rcases bft ((x19.2 != 0)) with hb56 | hb56
       ·replace h := Qar hb56 h
        refine wx tbk [(2, rp [(.tmp 192, (B ((x19.2 != 0))))] (B true))] ⟨asb hb56 (amv rfl), trivial⟩ ?_
        refine Qbs (by kernel_rfl) ?_
        refine wx tbk [] trivial ?_
        refine Qai ?_
        refine Qag ?_
        obtain rfl := osi h
        exact fend ⟨[B false], ⟨rot (by kernel_rfl), trivial⟩, rfl⟩ nll
       ·replace h := Qas hb56 h
        refine wx tbk [(2, rp [(.tmp 192, (B ((x19.2 != 0))))] (B false)), (4, rp [(.tmp 193, B false), (.tmp 194, (Qci x19))] (I ((x19.1.length : Int)))), (6, rp [(.tmp 193, B false), (.tmp 196, (Qba p0))] (I ((p0.length : Int))))] ⟨asb hb56 (amv rfl), ag_ (alm (c := Qa2) (l := x19.1) (aln rfl Try.underlying100 rfl)), ag_ (alm (c := Qac) (l := p0) (aln rfl Try.underlying22 rfl)), trivial⟩ ?_
        rcases bft (((x19.1.length : Int) != (p0.length : Int))) with hc57 | hc57
        ·replace h := Qar hc57 h
         refine wft hc57 (by kernel_rfl) ?_
         refine wx tbk [] trivial ?_
         refine Qai ?_
         refine Qag ?_
         obtain rfl := osi h
         exact fend ⟨[B false], ⟨rot (by kernel_rfl), trivial⟩, rfl⟩ nll
        ·replace h := Qas hc57 h
         refine wfn hc57 (by kernel_rfl) ?_
         refine Qaf ?_
         refine thn ?_
         exact ⟨(), h, (mto (n := 269) [(0, (Qba p0)), (5, (K .u16 (p5))), (14, I x4), (15, .ref 0 3 0 0), (21, (Qci x19))] [0] [(Qfu y11 y12 y7 y13)] hφ0 (pc (.rn (.plain _ (nld Qab _))) (pc rwl (pc rwl (pc (.rn (rqr rfl)) (pc (.rn (.plain _ (nld Qbe _))) pn))))) (qc (spb (lc (.rn (.plain _ (nld Qam _))) (lc (.rn (.plain _ (nld Qam _))) (lc (.rn (.plain _ (nld Qbv _))) ln)))) qn))⟩
     ·skip
      refine wx tbk [] trivial ?_
      refine Qah ?_
      refine wmr (mto (n := 269) (l' := [(0, (Qba p0)), (1, (Qcs p1)), (2, (Qd4 p2)), (5, (K .u16 (p5))), (14, I x4), (15, .ref 0 3 0 0), (18, I x4)]) (own' := [(Qrm y6 y7 y8), (Qo0 y6), (Qrl y7), (Qoz y8)]) [(0, (Qba p0)), (1, (Qcs p1)), (2, (Qd4 p2)), (5, (K .u16 (p5))), (14, I x4), (15, .ref 0 3 0 0), (18, I x4)] [0, 1, 2, 3] [(Qrm y6 y7 y8), (Qo0 y6), (Qrl y7), (Qoz y8)] hφ0 (pc (.rn (.plain _ (nld Qab _))) (pc (.rn (.plain _ (nld Qaa _))) (pc (.rn (.plain _ (nld Qhs _))) (pc rwl (pc rwl (pc (.rn (rqr rfl)) (pc rwl pn))))))) (qc (spb (lc (.rn (Qdc rfl)) (lc (.rn (Qae rfl)) (lc (.rn (Qdc rfl)) ln)))) (qc (Qcj Qam) (qc (spr Qam) (qc (Qcj Qbv) qn))))) ?_
      refine Qb7 (τ := Int × (List GMeter) × (List GMeter) × (List Bool)) (fun n t => Qa7 N p0 p1 p2 p5 y7 k14 n t.1 t.2.1 t.2.2.1 t.2.2.2 = some r) (fun ⟨y58, y59, y60, y61⟩ => ⟨mk 269 [(0, (Qba p0)), (1, (Qcs p1)), (2, (Qd4 p2)), (5, (K .u16 (p5))), (14, I x4), (15, .ref 0 3 0 0), (18, I y58)], [(Qmb y59 y7 y61), (Qma y59), (Qig y60), (Ql9 y61)]⟩) (fun t h => by rw [Qa7] at h; cases h) (fun n66 ih t h => ?_) N (x4, y6, y7, y8) h
      obtain ⟨y58, y59, y60, y61⟩ := t
      rw [Qa7] at h
      skip
      refine wsq ?_
      refine wx tbk [] trivial ?_
      rcases bft ((decide (y58 > 0))) with hc67 | hc67
      ·replace h := Qar hc67 h
       refine wft hc67 (by kernel_rfl) ?_
       refine Qaf ?_
       refine thn ?_
       refine wsq ?_
       refine Qah ?_
       obtain ⟨x68, hg69, h⟩ := bno h
       obtain ⟨hi70, hj71⟩ := gsm hg69
       refine wx tbk [(2, rp [(.tmp 144, (Qba p0)), (.tmp 145, I y58)] (.dptr (Qac (x68)) 0))] ⟨aid rfl Try.underlying22 ti56 rfl rfl hi70 (mgt Qac hj71) rfl, trivial⟩ ?_
       obtain ⟨x73, hf72, h⟩ := bno h
       refine wx tbk [(3, rp [fu 39, (.tmp 149, (Qba p0)), (.tmp 150, (Qcs p1)), (.tmp 151, I x68.Parent)] (I x73)), (5, rp [(.tmp 153, (K .u16 (p5)))] (I (w64 p5)))] ⟨apc (first := []) (cap := []) (vs := [(Qba p0), (Qcs p1), I x68.Parent]) rfl Qnd (Qgo N p0 p1 x68.Parent _ hf72) rfl rfl (nlc (nld Qab _) (nlc (nld Qaa _) (nlc nll nl0))) nll rfl, acv rfl (by rw [Try.underlying58]; rfl) Try.underlying3, trivial⟩ ?_
       obtain ⟨k76, hk_k76, h⟩ := jko h
       refine wjn (τ := (List GMeter) × (List Bool)) (fun t => k76 t = some r) (fun ⟨y74, y75⟩ => ⟨mk 269 [(0, (Qba p0)), (1, (Qcs p1)), (2, (Qd4 p2)), (5, (K .u16 (p5))), (14, I x4), (15, .ref 0 3 0 0), (18, I y58), (19, I x68.Parent), (20, (I (w64 (x73 + (w64 p5)))))], [(.own 3 [[(.gro 1 96 2 (y74.length)), (.own 2 2 (0) (y7.length)), (.gro 3 4 1 (y75.length))]]), (.gro 2 ((y74 : List GMeter).map Qay)), (Qig y60), (.gro 1 ((y75 : List Bool).map Qan))]⟩) (fun t h => ?_) ?_
       ·subst hk_k76
        obtain ⟨y74, y75⟩ := t
        obtain ⟨hz77, h⟩ := cko h
        obtain ⟨x78, hg79, h⟩ := bno h
        obtain ⟨hi80, hj81⟩ := gsm hg79
        obtain ⟨x83, hf82, h⟩ := bno h
        obtain ⟨hi84, h⟩ := cko h
        obtain ⟨hi84a, hi84b⟩ := Qa5 hi84
        obtain ⟨x85, hg86, h⟩ := bno h
        refine wy1 tbk [(8, rp [(.tmp 177, (Qd4 p2))] (I ((p2.length : Int)))), (9, rp [(.tmp 176, (I (w64 (x68.Parent + 1)))), (.tmp 178, (I ((p2.length : Int))))] (I ((w64 (x68.Parent + 1)).tmod (p2.length : Int)))), (10, rp [(.tmp 174, (Qd4 p2)), (.tmp 179, (I ((w64 (x68.Parent + 1)).tmod (p2.length : Int))))] (.dptr (Qjz (x78)) 0)), (12, rp [fu 54, (.tmp 173, (I (w64 (x73 + (w64 p5))))), (.tmp 181, (K .u16 (x78)))] (.agg [I x83.Reading, I x83.Off])), (13, rb [(.tmp 171, (.own 2 2 (0) (y7.length))), (.tmp 172, I x68.Parent)] [(2, (Qig y60))] (.ref 2 2 (x68.Parent.toNat) 0)), (14, ⟨[(.tmp 183, (.ref 2 2 (x68.Parent.toNat) 0)), (.tmp 182, (.agg [I x83.Reading, I x83.Off]))], [(2, (Qig y60))], .any, [(2, (.own 2 ((y60.set x68.Parent.toNat x83 : List GMeter).map Qay)))], false⟩)] ⟨alm (c := Qjz) (l := p2) (aln rfl Try.underlying110 rfl), Qie rfl (Qlp hz77), aid rfl Try.underlying110 ti58 rfl rfl hi80 (mgt Qjz hj81) rfl, apc (first := []) (cap := []) (vs := [(I (w64 (x73 + (w64 p5)))), (K .u16 (x78))]) rfl Qr3 (Qh4 N (w64 (x73 + (w64 p5))) x78 _ hf82) rfl rfl (nlc nll (nlc nll nl0)) (NLt.agg _ (nlc nll (nlc nll nl0))) rfl, aio rfl Try.underlying103 ti96 (odt hi84a) (odt hi84b) (Nat.zero_add _), ast rfl ti96 (by rfl) (mgt Qay hg86) (nle rfl) (Qei Qay rfl), trivial⟩ ?_
        refine bln ?_
        refine thn ?_
        refine wx1 tbk [(2, rp [(.tmp 139, (Qba p0)), (.tmp 140, I y58)] (.dptr (Qac (x68)) 0))] ⟨aid rfl Try.underlying22 ti56 rfl rfl hi70 (mgt Qac hj71) rfl, trivial⟩ ?_
        refine thn ?_
        exact arm (mto (n := 269) [(0, (Qba p0)), (1, (Qcs p1)), (2, (Qd4 p2)), (5, (K .u16 (p5))), (14, I x4), (15, .ref 0 3 0 0), (18, I x68.Parent)] [0, 1, 2, 3] [(.own 3 [[(.gro 1 96 2 (y74.length)), (.own 2 2 (0) (y7.length)), (.gro 3 4 1 (y75.length))]]), (.gro 2 ((y74 : List GMeter).map Qay)), (.own 2 ((y60.set x68.Parent.toNat x83 : List GMeter).map Qay)), (.gro 1 ((y75 : List Bool).map Qan))] hφ0 (pc (.rn (.plain _ (nld Qab _))) (pc (.rn (.plain _ (nld Qaa _))) (pc (.rn (.plain _ (nld Qhs _))) (pc rwl (pc rwl (pc (.rn (rqr rfl)) (pc rwl pn))))))) (qc (spb (lc (.rn (Qdc rfl)) (lc (.rn (Qae rfl)) (lc (.rn (Qdc rfl)) ln)))) (qc (Qcj Qam) (qc (spr Qam) (qc (Qcj Qbv) qn))))) (ih (x68.Parent, y74, y60.set x68.Parent.toNat x83, y75) h)
       ·skip
        rcases bft ((decide ((w64 (x73 + (w64 p5))) > 1000000000))) with hb87 | hb87
        ·replace h := Qar hb87 h
         refine wx tbk [(2, rp [(.tmp 157, (B ((decide ((w64 (x73 + (w64 p5))) > 1000000000)))))] (B true))] ⟨asb hb87 (amv rfl), trivial⟩ ?_
         refine Qbs (by kernel_rfl) ?_
         obtain ⟨x89, hf88, h⟩ := bno h
         refine wx tbk [(0, rp [fu 21] (B x89))] ⟨apc (first := []) (cap := []) (vs := []) rfl Qiw (Qdq 2000  _ hf88) rfl rfl nl0 nll rfl, trivial⟩ ?_
         refine Qai ?_
         refine Qag ?_
         refine Qaq ?_
         refine Qag ?_
         refine Qag ?_
         refine Qaq ?_
         refine Qag ?_
         obtain rfl := osi h
         exact fend ⟨[B x89], ⟨rot (by kernel_rfl), trivial⟩, rfl⟩ nll
        ·replace h := Qas hb87 h
         obtain ⟨x91, hf90, h⟩ := bno h
         rcases bft ((x91 == 0)) with hb92 | hb92
         ·replace h := Qar hb92 h
          refine wx tbk [(2, rp [(.tmp 157, (B ((decide ((w64 (x73 + (w64 p5))) > 1000000000)))))] (B false)), (6, rp [(.tmp 158, B false), fu 39, (.tmp 159, (Qba p0)), (.tmp 160, (Qcs p1)), (.tmp 161, I x68.Parent)] (I x91)), (8, rp [(.tmp 158, B false), (.tmp 163, (B ((x91 == 0))))] (B true))] ⟨asb hb87 (amv rfl), ag_ (apc (first := []) (cap := []) (vs := [(Qba p0), (Qcs p1), I x68.Parent]) rfl Qnd (Qgo N p0 p1 x68.Parent _ hf90) rfl rfl (nlc (nld Qab _) (nlc (nld Qaa _) (nlc nll nl0))) nll rfl), asb hb92 (ag_ (amv rfl)), trivial⟩ ?_
          rcases bft ((decide (p5 > 0))) with hc93 | hc93
          ·replace h := Qar hc93 h
           refine wft hc93 (by kernel_rfl) ?_
           obtain ⟨x95, hf94, h⟩ := bno h
           refine wx tbk [(0, rp [fu 21] (B x95))] ⟨apc (first := []) (cap := []) (vs := []) rfl Qiw (Qdq 2000  _ hf94) rfl rfl nl0 nll rfl, trivial⟩ ?_
           refine Qai ?_
           refine Qag ?_
           refine Qaq ?_
           refine Qag ?_
           refine Qag ?_
           refine Qaq ?_
           refine Qag ?_
           obtain rfl := osi h
           exact fend ⟨[B x95], ⟨rot (by kernel_rfl), trivial⟩, rfl⟩ nll
          ·replace h := Qas hc93 h
           refine wfn hc93 (by kernel_rfl) ?_
           refine Qaf ?_
           refine thn ?_
           exact ⟨(y59, y61), h, (mto (n := 269) [(0, (Qba p0)), (1, (Qcs p1)), (2, (Qd4 p2)), (5, (K .u16 (p5))), (14, I x4), (15, .ref 0 3 0 0), (18, I y58), (19, I x68.Parent), (20, (I (w64 (x73 + (w64 p5)))))] [0, 1, 2, 3] [(Qmb y59 y7 y61), (Qma y59), (Qig y60), (Ql9 y61)] hφ0 (pc (.rn (.plain _ (nld Qab _))) (pc (.rn (.plain _ (nld Qaa _))) (pc (.rn (.plain _ (nld Qhs _))) (pc rwl (pc rwl (pc (.rn (rqr rfl)) (pc rwl (pc rwl (pc rwl pn))))))))) (qc (spb (lc (.rn (Qdc rfl)) (lc (.rn (Qae rfl)) (lc (.rn (Qdc rfl)) ln)))) (qc (Qcj Qam) (qc (spr Qam) (qc (Qcj Qbv) qn)))))⟩
         ·replace h := Qas hb92 h
          refine wx tbk [(2, rp [(.tmp 157, (B ((decide ((w64 (x73 + (w64 p5))) > 1000000000)))))] (B false)), (6, rp [(.tmp 158, B false), fu 39, (.tmp 159, (Qba p0)), (.tmp 160, (Qcs p1)), (.tmp 161, I x68.Parent)] (I x91)), (8, rp [(.tmp 158, B false), (.tmp 163, (B ((x91 == 0))))] (B false))] ⟨asb hb87 (amv rfl), ag_ (apc (first := []) (cap := []) (vs := [(Qba p0), (Qcs p1), I x68.Parent]) rfl Qnd (Qgo N p0 p1 x68.Parent _ hf90) rfl rfl (nlc (nld Qab _) (nlc (nld Qaa _) (nlc nll nl0))) nll rfl), asb hb92 (ag_ (amv rfl)), trivial⟩ ?_
          refine Qd3 (by kernel_rfl) ?_
          refine Qaf ?_
          refine thn ?_
          exact ⟨(y59, y61), h, (mto (n := 269) [(0, (Qba p0)), (1, (Qcs p1)), (2, (Qd4 p2)), (5, (K .u16 (p5))), (14, I x4), (15, .ref 0 3 0 0), (18, I y58), (19, I x68.Parent), (20, (I (w64 (x73 + (w64 p5)))))] [0, 1, 2, 3] [(Qmb y59 y7 y61), (Qma y59), (Qig y60), (Ql9 y61)] hφ0 (pc (.rn (.plain _ (nld Qab _))) (pc (.rn (.plain _ (nld Qaa _))) (pc (.rn (.plain _ (nld Qhs _))) (pc rwl (pc rwl (pc (.rn (rqr rfl)) (pc rwl (pc rwl (pc rwl pn))))))))) (qc (spb (lc (.rn (Qdc rfl)) (lc (.rn (Qae rfl)) (lc (.rn (Qdc rfl)) ln)))) (qc (Qcj Qam) (qc (spr Qam) (qc (Qcj Qbv) qn)))))⟩
      ·replace h := Qas hc67 h
       refine wfn hc67 (by kernel_rfl) ?_
       refine Qbc ?_
       refine Qao ?_
       refine Qao ?_
       refine Qbb rfl ?_
       refine thn ?_
       exact ⟨(y59, y60, y61), h, (mto (n := 269) [(0, (Qba p0)), (5, (K .u16 (p5))), (14, I x4), (15, .ref 0 3 0 0)] [0, 1, 2, 3] [(Qmb y59 y7 y61), (Qma y59), (Qig y60), (Ql9 y61)] hφ0 (pc (.rn (.plain _ (nld Qab _))) (pc rwl (pc rwl (pc (.rn (rqr rfl)) pn)))) (qc (spb (lc (.rn (Qdc rfl)) (lc (.rn (Qae rfl)) (lc (.rn (Qdc rfl)) ln)))) (qc (Qcj Qam) (qc (spr Qam) (qc (Qcj Qbv) qn)))))⟩
    ·skip
     refine wx tbk [] trivial ?_
     refine Qah ?_
     refine wmr (Mor.trans (Qm5 (n := 1) (ty := 96) (m := 2) (q := 0) (mq := 3) (c := [nilS, nilS, nilS]) 0 (by kernel_rfl) (by kernel_rfl) (by kernel_rfl) (by decide)) (Mor.trans (Qm5 (n := 2) (ty := 96) (m := 2) (q := 0) (mq := 3) (c := [(.gro 1 96 2 (([] : List GMeter).length)), nilS, nilS]) 1 (by kernel_rfl) (by kernel_rfl) (by kernel_rfl) (by decide)) (Mor.trans (Qm5 (n := 3) (ty := 4) (m := 1) (q := 0) (mq := 3) (c := [(.gro 1 96 2 (([] : List GMeter).length)), (.gro 2 96 2 (([] : List GMeter).length)), nilS]) 2 (by kernel_rfl) (by kernel_rfl) (by kernel_rfl) (by decide)) (mto (n := 269) (l' := [(0, (Qba p0)), (1, (Qcs p1)), (2, (Qd4 p2)), (3, (K .u32 (p3))), (5, (K .u16 (p5))), (14, I x4), (15, .ref 0 3 0 0), (16, I 0)]) (own' := [Qvm, Qo1, Qo1, Qvl]) [(0, (Qba p0)), (1, (Qcs p1)), (2, (Qd4 p2)), (3, (K .u32 (p3))), (5, (K .u16 (p5))), (14, I x4), (15, .ref 0 3 0 0), (16, I 0)] [0, 1, 2, 3] [Qvm, Qo1, Qo1, Qvl] hφ0 (pc (.rn (.plain _ (nld Qab _))) (pc (.rn (.plain _ (nld Qaa _))) (pc (.rn (.plain _ (nld Qhs _))) (pc rwl (pc rwl (pc rwl (pc (.rn (rqr rfl)) (pc rwl pn)))))))) (qc (spb (lc (.rn (Qdc rfl)) (lc (.rn (Qdc rfl)) (lc (.rn (Qdc rfl)) ln)))) (qc (Qcj Qam) (qc (Qcj Qam) (qc (Qcj Qbv) qn)))))))) ?_
     refine Qb7 (τ := Int × (List GMeter) × (List GMeter) × (List Bool)) (fun n t => Qbn N p0 p1 p2 p3 x4 p5 k9 n t.1 t.2.1 t.2.2.1 t.2.2.2 = some r) (fun ⟨y96, y97, y98, y99⟩ => ⟨mk 269 [(0, (Qba p0)), (1, (Qcs p1)), (2, (Qd4 p2)), (3, (K .u32 (p3))), (5, (K .u16 (p5))), (14, I x4), (15, .ref 0 3 0 0), (16, I y96)], [(Ql8 y97 y98 y99), (Ql7 y97), (Ql6 y98), (Ql5 y99)]⟩) (fun t h => by rw [Qbn] at h; cases h) (fun n104 ih t h => ?_) N (0, ([] : List GMeter), ([] : List GMeter), ([] : List Bool)) h
     obtain ⟨y96, y97, y98, y99⟩ := t
     rw [Qbn] at h
     skip
     refine wsq ?_
     refine wx tbk [(2, rp [(.tmp 72, (Qba p0))] (I ((p0.length : Int))))] ⟨alm (c := Qac) (l := p0) (aln rfl Try.underlying22 rfl), trivial⟩ ?_
     rcases bft ((decide (y96 < (p0.length : Int)))) with hc105 | hc105
     ·replace h := Qar hc105 h
      refine wft hc105 (by kernel_rfl) ?_
      refine Qaf ?_
      refine thn ?_
      refine wsq ?_
      refine Qah ?_
      obtain ⟨x107, hf106, h⟩ := bno h
      refine wx tbk [(3, rp [fu 39, (.tmp 77, (Qba p0)), (.tmp 78, (Qcs p1)), (.tmp 79, I y96)] (I x107))] ⟨apc (first := []) (cap := []) (vs := [(Qba p0), (Qcs p1), I y96]) rfl Qnd (Qgo N p0 p1 y96 _ hf106) rfl rfl (nlc (nld Qab _) (nlc (nld Qaa _) (nlc nll nl0))) nll rfl, trivial⟩ ?_
      obtain ⟨k112, hk_k112, h⟩ := jko h
      refine wjn (τ := Int × (List GMeter) × (List GMeter) × (List Bool)) (fun t => k112 t = some r) (fun ⟨y108, y109, y110, y111⟩ => ⟨mk 269 [(0, (Qba p0)), (1, (Qcs p1)), (2, (Qd4 p2)), (3, (K .u32 (p3))), (5, (K .u16 (p5))), (14, I x4), (15, .ref 0 3 0 0), (16, I y96), (17, I y108)], [(.own 3 [[(.gro 1 96 2 (y109.length)), (.gro 2 96 2 (y110.length)), (.gro 3 4 1 (y111.length))]]), (.gro 2 ((y109 : List GMeter).map Qay)), (.gro 2 ((y110 : List GMeter).map Qay)), (.gro 1 ((y111 : List Bool).map Qan))]⟩) (fun t h => ?_) ?_
      ·subst hk_k112
       obtain ⟨y108, y109, y110, y111⟩ := t
       obtain ⟨x113, hg114, h⟩ := bno h
       obtain ⟨hi115, hj116⟩ := gsm hg114
       obtain ⟨hz117, h⟩ := cko h
       obtain ⟨x118, hg119, h⟩ := bno h
       obtain ⟨hi120, hj121⟩ := gsm hg119
       obtain ⟨x123, hf122, h⟩ := bno h
       obtain ⟨ha124, h⟩ := cko h
       refine wxd tbk [(4, rp [(.tmp 90, (Qcs p1)), (.tmp 91, I y96)] (.dptr (Qad (x113)) 0)), (9, rp [(.tmp 96, (Qd4 p2))] (I ((p2.length : Int)))), (10, rp [(.tmp 95, I y96), (.tmp 97, (I ((p2.length : Int))))] (I (y96.tmod (p2.length : Int)))), (11, rp [(.tmp 94, (Qd4 p2)), (.tmp 98, (I (y96.tmod (p2.length : Int))))] (.dptr (Qjz (x118)) 0)), (13, rp [fu 54, (.tmp 93, I x113), (.tmp 100, (K .u16 (x118)))] (Qo3 x123)), (14, rp [(.tmp 101, (Qo3 x123))] (.dat 2 (([x123] : List GMeter).map Qay))), (15, ⟨[(.tmp 89, (.gro 1 96 2 (y109.length))), (.tmp 102, (.dat 2 (([x123] : List GMeter).map Qay)))], [(1, (.gro 2 ((y109 : List GMeter).map Qay))), (4, .unused)], (.gro 4 96 2 ((y109 ++ ([x123])).length)), [(1, .dead), (4, (.gro 2 ((y109 ++ ([x123]) : List GMeter).map Qay)))], false⟩)] ?_ ?_
       ·exact ⟨aid rfl Try.underlying23 ti3 rfl rfl hi115 (mgt Qad hj116) rfl, alm (c := Qjz) (l := p2) (aln rfl Try.underlying110 rfl), Qie rfl (Qlp hz117), aid rfl Try.underlying110 ti58 rfl rfl hi120 (mgt Qjz hj121) rfl, apc (first := []) (cap := []) (vs := [I x113, (K .u16 (x118))]) rfl Qr3 (Qh4 N x113 x118 _ hf122) rfl rfl (nlc nll (nlc nll nl0)) (NLt.agg _ (nlc nll (nlc nll nl0))) rfl, Qbd (vs := [(Qo3 x123)]) rfl Try.underlying103 ti96 tz96 rfl (by decide) rfl (by decide) (by rfl) (by rfl) (by rfl) rfl, Qhn (c := Qay) (a := y109) (b := [x123]) rfl Try.underlying103 te96 rfl (Qe5 rfl) (by rfl) ha124 (by decide), trivial⟩
       obtain ⟨hz125, h⟩ := cko h
       obtain ⟨x126, hg127, h⟩ := bno h
       obtain ⟨hi128, hj129⟩ := gsm hg127
       obtain ⟨x131, hf130, h⟩ := bno h
       obtain ⟨ha132, h⟩ := cko h
       refine wxd tbk [(7, rp [(.tmp 111, (Qd4 p2))] (I ((p2.length : Int)))), (8, rp [(.tmp 110, (I (w64 (y96 + 1)))), (.tmp 112, (I ((p2.length : Int))))] (I ((w64 (y96 + 1)).tmod (p2.length : Int)))), (9, rp [(.tmp 108, (Qd4 p2)), (.tmp 113, (I ((w64 (y96 + 1)).tmod (p2.length : Int))))] (.dptr (Qjz (x126)) 0)), (11, rp [fu 54, (.tmp 107, I y108), (.tmp 115, (K .u16 (x126)))] (Qo2 x131)), (12, rp [(.tmp 116, (Qo2 x131))] (.dat 2 (([x131] : List GMeter).map Qay))), (13, ⟨[(.tmp 106, (.gro 2 96 2 (y110.length))), (.tmp 117, (.dat 2 (([x131] : List GMeter).map Qay)))], [(2, (.gro 2 ((y110 : List GMeter).map Qay))), (5, .unused)], (.gro 5 96 2 ((y110 ++ ([x131])).length)), [(2, .dead), (5, (.gro 2 ((y110 ++ ([x131]) : List GMeter).map Qay)))], false⟩)] ?_ ?_
       ·exact ⟨alm (c := Qjz) (l := p2) (aln rfl Try.underlying110 rfl), Qie rfl (Qlp hz125), aid rfl Try.underlying110 ti58 rfl rfl hi128 (mgt Qjz hj129) rfl, apc (first := []) (cap := []) (vs := [I y108, (K .u16 (x126))]) rfl Qr3 (Qh4 N y108 x126 _ hf130) rfl rfl (nlc nll (nlc nll nl0)) (NLt.agg _ (nlc nll (nlc nll nl0))) rfl, Qbd (vs := [(Qo2 x131)]) rfl Try.underlying103 ti96 tz96 rfl (by decide) rfl (by decide) (by rfl) (by rfl) (by rfl) rfl, Qhn (c := Qay) (a := y110) (b := [x131]) rfl Try.underlying103 te96 rfl (Qe5 rfl) (by rfl) ha132 (by decide), trivial⟩
       rcases bft ((y96 == x4)) with hb133 | hb133
       ·replace h := Qar hb133 h
        obtain ⟨ha134, h⟩ := cko h
        refine wx1 tbk [(5, rp [(.tmp 124, (B ((y96 == x4))))] (B true)), (13, rp [(.tmp 132, B true)] Qvn), (14, ⟨[(.tmp 121, (.gro 3 4 1 (y111.length))), (.tmp 133, Qvn)], [(3, (.gro 1 ((y111 : List Bool).map Qan))), (6, .unused)], (.gro 6 4 1 ((y111 ++ ([true])).length)), [(3, .dead), (6, (.gro 1 ((y111 ++ ([true]) : List Bool).map Qan)))], false⟩)] ?_ ?_
        ·exact ⟨asb hb133 (amv rfl), Qbd (vs := [B true]) rfl Try.underlying26 ti4 tz4 rfl (by decide) rfl (by decide) (by rfl) (by rfl) (by rfl) rfl, Qhn (c := Qan) (a := y111) (b := [true]) rfl Try.underlying26 te4 rfl (Qe5 rfl) (by rfl) ha134 (by decide), trivial⟩
        refine bln ?_
        refine thn ?_
        refine wx1 tbk [] trivial ?_
        refine thn ?_
        exact arm (mto (n := 269) [(0, (Qba p0)), (1, (Qcs p1)), (2, (Qd4 p2)), (3, (K .u32 (p3))), (5, (K .u16 (p5))), (14, I x4), (15, .ref 0 3 0 0), (16, (I (w64 (y96 + 1))))] [0, 4, 5, 6] [(.own 3 [[(.gro 4 96 2 ((y109 ++ ([x123])).length)), (.gro 5 96 2 ((y110 ++ ([x131])).length)), (.gro 6 4 1 ((y111 ++ ([true])).length))]]), (.gro 2 ((y109 ++ ([x123]) : List GMeter).map Qay)), (.gro 2 ((y110 ++ ([x131]) : List GMeter).map Qay)), (.gro 1 ((y111 ++ ([true]) : List Bool).map Qan))] hφ0 (pc (.rn (.plain _ (nld Qab _))) (pc (.rn (.plain _ (nld Qaa _))) (pc (.rn (.plain _ (nld Qhs _))) (pc rwl (pc rwl (pc rwl (pc (.rn (rqr rfl)) (pc rwl pn)))))))) (qc (spb (lc (.rn (Qdc rfl)) (lc (.rn (Qdc rfl)) (lc (.rn (Qdc rfl)) ln)))) (qc (Qcj Qam) (qc (Qcj Qam) (qc (Qcj Qbv) qn))))) (ih (w64 (y96 + 1), y109 ++ ([x123]), y110 ++ ([x131]), y111 ++ ([true])) h)
       ·replace h := Qas hb133 h
        obtain ⟨hz135, h⟩ := cko h
        obtain ⟨ha136, h⟩ := cko h
        refine wx1 tbk [(5, rp [(.tmp 124, (B ((y96 == x4))))] (B false)), (8, rp [(.tmp 125, B false), (.tmp 127, I y96)] (K .u64 (IntKind.wrap .u64 y96))), (9, rp [(.tmp 125, B false), (.tmp 126, (K .u32 (p3))), (.tmp 128, (K .u64 (IntKind.wrap .u64 y96)))] (K .u32 (p3 / 2 ^ min (IntKind.wrap .u64 y96).toNat 32))), (10, rp [(.tmp 125, B false), (.tmp 129, (K .u32 (p3 / 2 ^ min (IntKind.wrap .u64 y96).toNat 32))), (.const (.int .u32 1), (K .u32 (1)))] (K .u32 (andI .u32 (p3 / 2 ^ min (IntKind.wrap .u64 y96).toNat 32) 1))), (13, rp [(.tmp 132, (B (((andI .u32 (p3 / 2 ^ min (IntKind.wrap .u64 y96).toNat 32) 1) == 1))))] (Qs1 p3 y96)), (14, ⟨[(.tmp 121, (.gro 3 4 1 (y111.length))), (.tmp 133, (Qs1 p3 y96))], [(3, (.gro 1 ((y111 : List Bool).map Qan))), (6, .unused)], (.gro 6 4 1 ((y111 ++ ([((andI .u32 (p3 / 2 ^ min (IntKind.wrap .u64 y96).toNat 32) 1) == 1)])).length)), [(3, .dead), (6, (Qs0 y111 p3 y96))], false⟩)] ?_ ?_
        ·exact ⟨asb hb133 (amv rfl), ag_ (acv rfl (by rw [Try.underlying3]; rfl) Try.underlying112), ag_ (Qjf rfl (of_decide_eq_true hz135) rfl), ag_ (Qxn rfl), Qbd (vs := [(B (((andI .u32 (p3 / 2 ^ min (IntKind.wrap .u64 y96).toNat 32) 1) == 1)))]) rfl Try.underlying26 ti4 tz4 rfl (by decide) rfl (by decide) (by rfl) (by rfl) (by rfl) rfl, Qhn (c := Qan) (a := y111) (b := [((andI .u32 (p3 / 2 ^ min (IntKind.wrap .u64 y96).toNat 32) 1) == 1)]) rfl Try.underlying26 te4 rfl (Qe5 rfl) (by rfl) ha136 (by decide), trivial⟩
        refine bln ?_
        refine thn ?_
        refine wx1 tbk [] trivial ?_
        refine thn ?_
        exact arm (mto (n := 269) [(0, (Qba p0)), (1, (Qcs p1)), (2, (Qd4 p2)), (3, (K .u32 (p3))), (5, (K .u16 (p5))), (14, I x4), (15, .ref 0 3 0 0), (16, (I (w64 (y96 + 1))))] [0, 4, 5, 6] [(.own 3 [[(.gro 4 96 2 ((y109 ++ ([x123])).length)), (.gro 5 96 2 ((y110 ++ ([x131])).length)), (.gro 6 4 1 ((y111 ++ ([((andI .u32 (p3 / 2 ^ min (IntKind.wrap .u64 y96).toNat 32) 1) == 1)])).length))]]), (.gro 2 ((y109 ++ ([x123]) : List GMeter).map Qay)), (.gro 2 ((y110 ++ ([x131]) : List GMeter).map Qay)), (Qs0 y111 p3 y96)] hφ0 (pc (.rn (.plain _ (nld Qab _))) (pc (.rn (.plain _ (nld Qaa _))) (pc (.rn (.plain _ (nld Qhs _))) (pc rwl (pc rwl (pc rwl (pc (.rn (rqr rfl)) (pc rwl pn)))))))) (qc (spb (lc (.rn (Qdc rfl)) (lc (.rn (Qdc rfl)) (lc (.rn (Qdc rfl)) ln)))) (qc (Qcj Qam) (qc (Qcj Qam) (qc (Qcj Qbv) qn))))) (ih (w64 (y96 + 1), y109 ++ ([x123]), y110 ++ ([x131]), y111 ++ ([((andI .u32 (p3 / 2 ^ min (IntKind.wrap .u64 y96).toNat 32) 1) == 1)])) h)
      ·skip
       refine wx tbk [] trivial ?_
       rcases bft ((y96 == x4)) with hc137 | hc137
       ·replace h := Qar hc137 h
        refine wft hc137 (by kernel_rfl) ?_
        refine wx1 tbk [(2, rp [(.tmp 85, (K .u16 (p5)))] (I (w64 p5)))] ⟨acv rfl (by rw [Try.underlying58]; rfl) Try.underlying3, trivial⟩ ?_
        refine thn ?_
        exact ⟨(w64 (x107 + (w64 p5)), y97, y98, y99), h, (mto (n := 269) [(0, (Qba p0)), (1, (Qcs p1)), (2, (Qd4 p2)), (3, (K .u32 (p3))), (5, (K .u16 (p5))), (14, I x4), (15, .ref 0 3 0 0), (16, I y96), (17, (I (w64 (x107 + (w64 p5)))))] [0, 1, 2, 3] [(Ql8 y97 y98 y99), (Ql7 y97), (Ql6 y98), (Ql5 y99)] hφ0 (pc (.rn (.plain _ (nld Qab _))) (pc (.rn (.plain _ (nld Qaa _))) (pc (.rn (.plain _ (nld Qhs _))) (pc rwl (pc rwl (pc rwl (pc (.rn (rqr rfl)) (pc rwl (pc rwl pn))))))))) (qc (spb (lc (.rn (Qdc rfl)) (lc (.rn (Qdc rfl)) (lc (.rn (Qdc rfl)) ln)))) (qc (Qcj Qam) (qc (Qcj Qam) (qc (Qcj Qbv) qn)))))⟩
       ·replace h := Qas hc137 h
        refine wfn hc137 (by kernel_rfl) ?_
        refine Qaf ?_
        refine thn ?_
        exact ⟨(x107, y97, y98, y99), h, (mto (n := 269) [(0, (Qba p0)), (1, (Qcs p1)), (2, (Qd4 p2)), (3, (K .u32 (p3))), (5, (K .u16 (p5))), (14, I x4), (15, .ref 0 3 0 0), (16, I y96), (17, I x107)] [0, 1, 2, 3] [(Ql8 y97 y98 y99), (Ql7 y97), (Ql6 y98), (Ql5 y99)] hφ0 (pc (.rn (.plain _ (nld Qab _))) (pc (.rn (.plain _ (nld Qaa _))) (pc (.rn (.plain _ (nld Qhs _))) (pc rwl (pc rwl (pc rwl (pc (.rn (rqr rfl)) (pc rwl (pc rwl pn))))))))) (qc (spb (lc (.rn (Qdc rfl)) (lc (.rn (Qdc rfl)) (lc (.rn (Qdc rfl)) ln)))) (qc (Qcj Qam) (qc (Qcj Qam) (qc (Qcj Qbv) qn)))))⟩
     ·replace h := Qas hc105 h
      refine wfn hc105 (by kernel_rfl) ?_
      refine Qbc ?_
      refine Qao ?_
      refine Qao ?_
      refine Qbb rfl ?_
      refine thn ?_
      exact ⟨(y97, y98, y99), h, (mto (n := 269) [(0, (Qba p0)), (1, (Qcs p1)), (2, (Qd4 p2)), (5, (K .u16 (p5))), (14, I x4), (15, .ref 0 3 0 0)] [0, 1, 2, 3] [(Ql8 y97 y98 y99), (Ql7 y97), (Ql6 y98), (Ql5 y99)] hφ0 (pc (.rn (.plain _ (nld Qab _))) (pc (.rn (.plain _ (nld Qaa _))) (pc (.rn (.plain _ (nld Qhs _))) (pc rwl (pc rwl (pc (.rn (rqr rfl)) pn)))))) (qc (spb (lc (.rn (Qdc rfl)) (lc (.rn (Qdc rfl)) (lc (.rn (Qdc rfl)) ln)))) (qc (Qcj Qam) (qc (Qcj Qam) (qc (Qcj Qbv) qn)))))⟩
   ·skip
    refine wx tbk [] trivial ?_
    refine Qah ?_
    refine wmr (mto (n := 269) (l' := [(0, (Qba p0)), (1, (Qcs p1)), (2, (Qd4 p2)), (3, (K .u32 (p3))), (4, (K .u8 (p4))), (5, (K .u16 (p5))), (13, I 0)]) (own' := []) [(0, (Qba p0)), (1, (Qcs p1)), (2, (Qd4 p2)), (3, (K .u32 (p3))), (4, (K .u8 (p4))), (5, (K .u16 (p5))), (13, I 0)] [] [] hφ0 (pc (.rn (.plain _ (nld Qab _))) (pc (.rn (.plain _ (nld Qaa _))) (pc (.rn (.plain _ (nld Qhs _))) (pc rwl (pc rwl (pc rwl (pc rwl pn))))))) qn) ?_
    refine Qb7 (τ := Int) (fun n t => Qb5 N p0 p1 k2 n t = some r) (fun y138 => ⟨mk 269 [(0, (Qba p0)), (1, (Qcs p1)), (2, (Qd4 p2)), (3, (K .u32 (p3))), (4, (K .u8 (p4))), (5, (K .u16 (p5))), (13, I y138)], []⟩) (fun t h => by rw [Qb5] at h; cases h) (fun n140 ih y138 h => ?_) N (0) h
    rw [Qb5] at h
    skip
    refine wsq ?_
    refine wx tbk [(2, rp [(.tmp 46, (Qba p0))] (I ((p0.length : Int))))] ⟨alm (c := Qac) (l := p0) (aln rfl Try.underlying22 rfl), trivial⟩ ?_
    rcases bft ((decide (y138 < (p0.length : Int)))) with hc141 | hc141
    ·replace h := Qar hc141 h
     refine wft hc141 (by kernel_rfl) ?_
     refine Qaf ?_
     refine thn ?_
     refine wsq ?_
     refine Qah ?_
     obtain ⟨x142, hg143, h⟩ := bno h
     obtain ⟨hi144, hj145⟩ := gsm hg143
     rcases bft ((decide (x142 > 1000000))) with hb146 | hb146
     ·replace h := Qar hb146 h
      refine wx tbk [(2, rp [(.tmp 51, (Qcs p1)), (.tmp 52, I y138)] (.dptr (Qad (x142)) 0)), (5, rp [(.tmp 55, (B ((decide (x142 > 1000000)))))] (B true))] ⟨aid rfl Try.underlying23 ti3 rfl rfl hi144 (mgt Qad hj145) rfl, asb hb146 (amv rfl), trivial⟩ ?_
      refine Qbs (by kernel_rfl) ?_
      obtain ⟨x148, hf147, h⟩ := bno h
      refine wx tbk [(0, rp [fu 21] (B x148))] ⟨apc (first := []) (cap := []) (vs := []) rfl Qiw (Qdq 2000  _ hf147) rfl rfl nl0 nll rfl, trivial⟩ ?_
      refine Qai ?_
      refine Qaq ?_
      refine Qag ?_
      refine Qag ?_
      refine Qaq ?_
      refine Qag ?_
      obtain rfl := osi h
      exact fend ⟨[B x148], ⟨rot (by kernel_rfl), trivial⟩, rfl⟩ nll
     ·replace h := Qas hb146 h
      obtain ⟨x149, hg150, h⟩ := bno h
      obtain ⟨hi151, hj152⟩ := gsm hg150
      refine wx tbk [(2, rp [(.tmp 51, (Qcs p1)), (.tmp 52, I y138)] (.dptr (Qad (x142)) 0)), (5, rp [(.tmp 55, (B ((decide (x142 > 1000000)))))] (B false)), (8, rp [(.tmp 56, B false), (.tmp 57, (Qba p0)), (.tmp 58, I y138)] (.dptr (Qac (x149)) 0))] ⟨aid rfl Try.underlying23 ti3 rfl rfl hi144 (mgt Qad hj145) rfl, asb hb146 (amv rfl), ag_ (aid rfl Try.underlying22 ti56 rfl rfl hi151 (mgt Qac hj152) rfl), trivial⟩ ?_
      rcases bft ((decide (x149.Loss > 1000000))) with hc153 | hc153
      ·replace h := Qar hc153 h
       refine wft hc153 (by kernel_rfl) ?_
       obtain ⟨x155, hf154, h⟩ := bno h
       refine wx tbk [(0, rp [fu 21] (B x155))] ⟨apc (first := []) (cap := []) (vs := []) rfl Qiw (Qdq 2000  _ hf154) rfl rfl nl0 nll rfl, trivial⟩ ?_
       refine Qai ?_
       refine Qaq ?_
       refine Qag ?_
       refine Qag ?_
       refine Qaq ?_
       refine Qag ?_
       obtain rfl := osi h
       exact fend ⟨[B x155], ⟨rot (by kernel_rfl), trivial⟩, rfl⟩ nll
      ·replace h := Qas hc153 h
       refine wfn hc153 (by kernel_rfl) ?_
       refine Qaf ?_
       refine bln ?_
       refine thn ?_
       refine wx1 tbk [] trivial ?_
       refine thn ?_
       exact arm (mto (n := 269) [(0, (Qba p0)), (1, (Qcs p1)), (2, (Qd4 p2)), (3, (K .u32 (p3))), (4, (K .u8 (p4))), (5, (K .u16 (p5))), (13, (I (w64 (y138 + 1))))] [] [] hφ0 (pc (.rn (.plain _ (nld Qab _))) (pc (.rn (.plain _ (nld Qaa _))) (pc (.rn (.plain _ (nld Qhs _))) (pc rwl (pc rwl (pc rwl (pc rwl pn))))))) qn) (ih (w64 (y138 + 1)) h)
    ·replace h := Qas hc141 h
     refine wfn hc141 (by kernel_rfl) ?_
     refine Qbc ?_
     refine Qao ?_
     refine Qao ?_
     refine Qbb rfl ?_
     refine thn ?_
     exact ⟨(), h, (mto (n := 269) [(0, (Qba p0)), (1, (Qcs p1)), (2, (Qd4 p2)), (3, (K .u32 (p3))), (4, (K .u8 (p4))), (5, (K .u16 (p5)))] [] [] hφ0 (pc (.rn (.plain _ (nld Qab _))) (pc (.rn (.plain _ (nld Qaa _))) (pc (.rn (.plain _ (nld Qhs _))) (pc rwl (pc rwl (pc rwl pn)))))) qn)⟩
  ·skip
   obtain ⟨x157, hf156, h⟩ := bno h
   rcases bft ((!x157)) with hb158 | hb158
   ·replace h := Qar hb158 h
    refine wx tbk [(2, rp [fu 20, (.tmp 24, (Qba p0)), (.tmp 25, (Qcs p1))] (B x157)), (4, rp [(.tmp 27, (B ((!x157))))] (B true))] ⟨apc (first := []) (cap := []) (vs := [(Qba p0), (Qcs p1)]) rfl Qpk (Qg7 N p0 p1 _ hf156) rfl rfl (nlc (nld Qab _) (nlc (nld Qaa _) nl0)) nll rfl, asb hb158 (amv rfl), trivial⟩ ?_
    refine Qbs (by kernel_rfl) ?_
    obtain ⟨x160, hf159, h⟩ := bno h
    refine wx tbk [(0, rp [fu 21] (B x160))] ⟨apc (first := []) (cap := []) (vs := []) rfl Qiw (Qdq 2000  _ hf159) rfl rfl nl0 nll rfl, trivial⟩ ?_
    refine Qai ?_
    refine Qag ?_
    obtain rfl := osi h
    exact fend ⟨[B x160], ⟨rot (by kernel_rfl), trivial⟩, rfl⟩ nll
   ·replace h := Qas hb158 h
    obtain ⟨x162, hf161, h⟩ := bno h
    rcases bft ((!x162)) with hb163 | hb163
    ·replace h := Qar hb163 h
     refine wx tbk [(2, rp [fu 20, (.tmp 24, (Qba p0)), (.tmp 25, (Qcs p1))] (B x157)), (4, rp [(.tmp 27, (B ((!x157))))] (B false)), (6, rp [(.tmp 28, B false), fu 25, (.tmp 29, (Qba p0))] (B x162)), (9, rp [(.tmp 32, (B ((!x162))))] (B true))] ⟨apc (first := []) (cap := []) (vs := [(Qba p0), (Qcs p1)]) rfl Qpk (Qg7 N p0 p1 _ hf156) rfl rfl (nlc (nld Qab _) (nlc (nld Qaa _) nl0)) nll rfl, asb hb158 (amv rfl), ag_ (apc (first := []) (cap := []) (vs := [(Qba p0)]) rfl Qr4 (Qhl N p0 _ hf161) rfl rfl (nlc (nld Qab _) nl0) nll rfl), asb hb163 (amv rfl), trivial⟩ ?_
     refine Qbs (by kernel_rfl) ?_
     obtain ⟨x165, hf164, h⟩ := bno h
     refine wx tbk [(0, rp [fu 21] (B x165))] ⟨apc (first := []) (cap := []) (vs := []) rfl Qiw (Qdq 2000  _ hf164) rfl rfl nl0 nll rfl, trivial⟩ ?_
     refine Qai ?_
     refine Qag ?_
     obtain rfl := osi h
     exact fend ⟨[B x165], ⟨rot (by kernel_rfl), trivial⟩, rfl⟩ nll
    ·replace h := Qas hb163 h
     obtain ⟨x167, hf166, h⟩ := bno h
     rcases bft ((!x167)) with hb168 | hb168
     ·replace h := Qar hb168 h
      refine wx tbk [(2, rp [fu 20, (.tmp 24, (Qba p0)), (.tmp 25, (Qcs p1))] (B x157)), (4, rp [(.tmp 27, (B ((!x157))))] (B false)), (6, rp [(.tmp 28, B false), fu 25, (.tmp 29, (Qba p0))] (B x162)), (9, rp [(.tmp 32, (B ((!x162))))] (B false)), (12, rp [(.tmp 33, B false), fu 26, (.tmp 34, (Qba p0)), (.tmp 35, (Qcs p1))] (B x167)), (15, rp [(.tmp 38, (B ((!x167))))] (B true))] ⟨apc (first := []) (cap := []) (vs := [(Qba p0), (Qcs p1)]) rfl Qpk (Qg7 N p0 p1 _ hf156) rfl rfl (nlc (nld Qab _) (nlc (nld Qaa _) nl0)) nll rfl, asb hb158 (amv rfl), ag_ (apc (first := []) (cap := []) (vs := [(Qba p0)]) rfl Qr4 (Qhl N p0 _ hf161) rfl rfl (nlc (nld Qab _) nl0) nll rfl), asb hb163 (amv rfl), ag_ (apc (first := []) (cap := []) (vs := [(Qba p0), (Qcs p1)]) rfl Qw5 (Qj2 N p0 p1 _ hf166) rfl rfl (nlc (nld Qab _) (nlc (nld Qaa _) nl0)) nll rfl), asb hb168 (amv rfl), trivial⟩ ?_
      refine Qbs (by kernel_rfl) ?_
      obtain ⟨x170, hf169, h⟩ := bno h
      refine wx tbk [(0, rp [fu 21] (B x170))] ⟨apc (first := []) (cap := []) (vs := []) rfl Qiw (Qdq 2000  _ hf169) rfl rfl nl0 nll rfl, trivial⟩ ?_
      refine Qai ?_
      refine Qag ?_
      obtain rfl := osi h
      exact fend ⟨[B x170], ⟨rot (by kernel_rfl), trivial⟩, rfl⟩ nll
     ·replace h := Qas hb168 h
      refine wx tbk [(2, rp [fu 20, (.tmp 24, (Qba p0)), (.tmp 25, (Qcs p1))] (B x157)), (4, rp [(.tmp 27, (B ((!x157))))] (B false)), (6, rp [(.tmp 28, B false), fu 25, (.tmp 29, (Qba p0))] (B x162)), (9, rp [(.tmp 32, (B ((!x162))))] (B false)), (12, rp [(.tmp 33, B false), fu 26, (.tmp 34, (Qba p0)), (.tmp 35, (Qcs p1))] (B x167)), (15, rp [(.tmp 38, (B ((!x167))))] (B false)), (17, rp [(.tmp 39, B false), (.tmp 40, (Qd4 p2))] (I ((p2.length : Int))))] ⟨apc (first := []) (cap := []) (vs := [(Qba p0), (Qcs p1)]) rfl Qpk (Qg7 N p0 p1 _ hf156) rfl rfl (nlc (nld Qab _) (nlc (nld Qaa _) nl0)) nll rfl, asb hb158 (amv rfl), ag_ (apc (first := []) (cap := []) (vs := [(Qba p0)]) rfl Qr4 (Qhl N p0 _ hf161) rfl rfl (nlc (nld Qab _) nl0) nll rfl), asb hb163 (amv rfl), ag_ (apc (first := []) (cap := []) (vs := [(Qba p0), (Qcs p1)]) rfl Qw5 (Qj2 N p0 p1 _ hf166) rfl rfl (nlc (nld Qab _) (nlc (nld Qaa _) nl0)) nll rfl), asb hb168 (amv rfl), ag_ (alm (c := Qjz) (l := p2) (aln rfl Try.underlying110 rfl)), trivial⟩ ?_
      rcases bft (((p2.length : Int) == 0)) with hc171 | hc171
      ·replace h := Qar hc171 h
       refine wft hc171 (by kernel_rfl) ?_
       obtain ⟨x173, hf172, h⟩ := bno h
       refine wx tbk [(0, rp [fu 21] (B x173))] ⟨apc (first := []) (cap := []) (vs := []) rfl Qiw (Qdq 2000  _ hf172) rfl rfl nl0 nll rfl, trivial⟩ ?_
       refine Qai ?_
       refine Qag ?_
       obtain rfl := osi h
       exact fend ⟨[B x173], ⟨rot (by kernel_rfl), trivial⟩, rfl⟩ nll
      ·replace h := Qas hc171 h
       refine wfn hc171 (by kernel_rfl) ?_
       refine Qaf ?_
       refine thn ?_
       exact ⟨(), h, (mto (n := 269) [(0, (Qba p0)), (1, (Qcs p1)), (2, (Qd4 p2)), (3, (K .u32 (p3))), (4, (K .u8 (p4))), (5, (K .u16 (p5)))] [] [] hφ0 (pc (.rn (.plain _ (nld Qab _))) (pc (.rn (.plain _ (nld Qaa _))) (pc (.rn (.plain _ (nld Qhs _))) (pc rwl (pc rwl (pc rwl pn)))))) qn)⟩
end Go.Proofs.Ytgdepcgbjjgnfaa
