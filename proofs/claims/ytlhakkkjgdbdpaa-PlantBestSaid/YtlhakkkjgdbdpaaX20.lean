/-
  Functions of the program: what they compute, as plain functions, and that they do. No conditions.
-/
import Derived.Test.YtlhakkkjgdbdpaaX17
namespace Go.Proofs.Ytlhakkkjgdbdpaa
open Go.RowKit
def Qc9 (N : Nat) (p2 : (List Int)) (x7 : (List GUnit)) (k87 : Int → Option Bool) : Nat → Int → Int → Option Bool
  | 0, _, _ => none
  | n93 + 1, y89, y90 =>
    bif (decide (y90 < (p2.length : Int))) then
     (getI x7 y90).bind fun x95 =>
     (getI p2 y90).bind fun x99 =>
     (Qg9 N x95 x99).bind fun x104 =>
     bif (x104.2 != 0) then
      some false
     else
      Qc9 N p2 x7 k87 n93 (w64 (y89 + x104.1)) (w64 (y90 + 1))
    else
     k87 (y89)
def Qg0 (N : Nat) (p0 : (List Int)) (p1 : (List GUnit)) (p2 : (List Int)) (p3 : (List Int)) (p4 : Int) (p5 : Int) (p6 : Int) : Option Bool :=
  (Qfo N p0 p1).bind fun x2 =>
  bif (!x2) then
   (Qio 2000 ).bind fun x5 =>
   some x5
  else
   (Qip N p1).bind fun x7 =>
   (Qgh N p0).bind fun x9 =>
   (Qfu N x9 x7).bind fun x11 =>
   Qb2 (fun _ =>
     Qb2 (fun _ =>
       Qb2 (fun _ =>
         chk ((p0.length : Int) != 0) <|
         (some ((w64 p4).tmod (p0.length : Int))).bind fun x16 =>
         (Qgm N p0).bind fun x19 =>
         chk (!x19.isEmpty) <|
         chk (decide (0 ≤ x16) && decide (x16.toNat < x19.length)) <|
         (x19[x16.toNat]?).bind fun x22 =>
         (some (if (w64 (x22 + (w64 p6))) < 1000000 then w64 (x22 + (w64 p6)) else 1000000)).bind fun x24 =>
         chk (decide (0 ≤ x16) && decide (x16.toNat < x19.length)) <|
         (x19[x16.toNat]?).bind fun _ =>
         chk (decide (x19.length ≤ (x19.set x16.toNat x24).length)) <|
         (Qfu N ((x19.set x16.toNat x24).take x19.length) x7).bind fun x31 =>
         Qb2 (fun _ =>
           chk ((w64 ((p0.length : Int) - x16)) != 0) <|
           (some (w64 (x16 + ((w64 p5).tmod (w64 ((p0.length : Int) - x16)))))).bind fun x34 =>
           (Qgm N p0).bind fun x37 =>
           chk (!x37.isEmpty) <|
           chk (decide (0 ≤ x16) && decide (x16.toNat < x37.length)) <|
           (x37[x16.toNat]?).bind fun x40 =>
           chk (decide (0 ≤ x34) && decide (x34.toNat < x37.length)) <|
           (x37[x34.toNat]?).bind fun x43 =>
           (some (if (w64 (1000000 - x43)) < (if (w64 p6) < x40 then w64 p6 else x40) then w64 (1000000 - x43) else (if (w64 p6) < x40 then w64 p6 else x40))).bind fun x45 =>
           Qb2 (fun y47 =>
             chk (decide (x37.length ≤ y47.length)) <|
             (Qfu N (y47.take x37.length) x7).bind fun x51 =>
             bif (x51.2.2.2 == 0) then
              bif (decide (x51.2.1 ≥ x11.2.1)) then
               (Qio 2000 ).bind fun x55 =>
               some x55
              else
               some false
             else
              some false) fun k48 : (List Int) → Option Bool =>
           bif (decide (x34 > x16)) then
            chk (decide (0 ≤ x16) && decide (x16.toNat < x37.length)) <|
            (x37[x16.toNat]?).bind fun x58 =>
            chk (decide (0 ≤ x16) && decide (x16.toNat < x37.length)) <|
            (x37[x16.toNat]?).bind fun _ =>
            chk (decide (0 ≤ x34) && decide (x34.toNat < x37.length)) <|
            ((x37.set x16.toNat (w64 (x58 - x45)))[x34.toNat]?).bind fun x64 =>
            chk (decide (0 ≤ x34) && decide (x34.toNat < x37.length)) <|
            ((x37.set x16.toNat (w64 (x58 - x45)))[x34.toNat]?).bind fun _ =>
            k48 ((x37.set x16.toNat (w64 (x58 - x45))).set x34.toNat (w64 (x64 + x45)))
           else
            k48 (x37)) fun k32 : Unit → Option Bool =>
         bif (x31.2.2.2 != 0) then
          some false
         else
          bif (decide (x31.2.1 < x11.2.1)) then
           some false
          else
           k32 ()) fun k14 : Unit → Option Bool =>
       (Qgh N p0).bind fun x72 =>
       (Qgh N p3).bind fun x74 =>
       (Qin N x72 x7 x74).bind fun x76 =>
       bif (x76.2 == 0) then
        bif (decide (x76.1 < x11.2.1)) then
         some false
        else
         bif (x76.2 != 0) then
          bif (x76.2 != 1) then
           some false
          else
           k14 ()
         else
          k14 ()
       else
        bif (x76.2 != 0) then
         bif (x76.2 != 1) then
          some false
         else
          k14 ()
        else
         k14 ()) fun k13 : Unit → Option Bool =>
     (Qja N p0 p1 p2).bind fun x84 =>
     bif x84 then
      Qb2 (fun y86 =>
        bif (decide (y86 > x11.2.1)) then
         some false
        else
         k13 ()) fun k87 : Int → Option Bool =>
      Qc9 N p2 x7 k87 N 0 0
     else
      k13 ()) fun k12 : Unit → Option Bool =>
   bif (x11.2.2.2 != 0) then
    some false
   else
    (Qgh N p0).bind fun x108 =>
    (Qfp N x108 x7 x11.1 x11.2.1 x11.2.2.1).bind fun x110 =>
    bif (!x110) then
     some false
    else
     k12 ()
def Qc3 (p0 : (List Int)) : AV := .dat 1 ((p0 : List Int).map Qab)
def Qoj (p1 : (List GUnit)) : AV := .dat 2 ((p1 : List GUnit).map Qat)
def Qdw (x7 : (List GUnit)) : AV := .dat 2 ((x7 : List GUnit).map Qat)
def z154_3 (x9 : (List Int)) : AV := .dat 1 ((x9 : List Int).map Qab)
def Qmk (p2 : (List Int)) : AV := .dat 1 ((p2 : List Int).map Qab)
def Qj6 (p3 : (List Int)) : AV := .dat 1 ((p3 : List Int).map Qab)
def Qn1 (x19 : (List Int)) : Slot := .gro 1 ((x19 : List Int).map Qab)
def Qrh (x19 : (List Int)) : Slot := .own 1 ((x19 : List Int).map Qab)
def Qn0 (x19 : (List Int)) (x16 : Int) (x24 : Int) : AV := .dat 1 (((x19.set x16.toNat x24).take x19.length : List Int).map Qab)
def Qnz (x37 : (List Int)) : Slot := .gro 1 ((x37 : List Int).map Qab)
def Qkj (x37 : (List Int)) : Slot := .own 1 ((x37 : List Int).map Qab)
def Qo5 (x37 : (List Int)) (x16 : Int) (x58 : Int) (x45 : Int) : Slot := .own 1 ((x37.set x16.toNat (w64 (x58 - x45)) : List Int).map Qab)
set_option maxRecDepth 100000 in
set_option maxHeartbeats 4000000 in
theorem Qm3 (N : Nat) (p0 : (List Int)) (p1 : (List GUnit)) (p2 : (List Int)) (p3 : (List Int)) (p4 : Int) (p5 : Int) (p6 : Int) (r : Bool) (h : Qg0 N p0 p1 p2 p3 p4 p5 p6 = some r) : Spec Try.prog 10 [(.dat 1 (p0.map Qab)), (.dat 2 (p1.map Qat)), (.dat 1 (p2.map Qab)), (.dat 1 (p3.map Qab)), (K .u8 p4), (K .u8 p5), (K .u16 p6)] [] (B r) [] := by
  refine Qad Try.func10 rfl 0 (nle rfl) (fun X φ0 w0 hφ0 => ?_)
  unfold Qg0 at h
  refine wx tbk [] trivial ?_
  refine wsq ?_
  obtain ⟨x2, hf1, h⟩ := bno h
  refine wx tbk [(2, rp [fu 47, (.tmp 35, (Qc3 p0)), (.tmp 36, (Qoj p1))] (B x2))] ⟨apc (first := []) (cap := []) (vs := [(Qc3 p0), (Qoj p1)]) rfl enter47 (Qmh N p0 p1 _ hf1) rfl rfl (nlc (nld Qaa _) (nlc (nld Qac _) nl0)) nll rfl, trivial⟩ ?_
  rcases bft ((!x2)) with hc3 | hc3
  ·replace h := Qaz hc3 h
   refine wft hc3 (by kernel_rfl) ?_
   obtain ⟨x5, hf4, h⟩ := bno h
   refine wx tbk [(0, rp [fu 17] (B x5))] ⟨apc (first := []) (cap := []) (vs := []) rfl enter17 (Qls 2000  _ hf4) rfl rfl nl0 nll rfl, trivial⟩ ?_
   refine Qae ?_
   refine Qaw ?_
   obtain rfl := osi h
   exact fend ⟨[B x5], ⟨rot (by kernel_rfl), trivial⟩, rfl⟩ nll
  ·replace h := Qa0 hc3 h
   refine wfn hc3 (by kernel_rfl) ?_
   refine Qal ?_
   refine thn ?_
   obtain ⟨x7, hf6, h⟩ := bno h
   refine wx tbk [(1, rp [fu 45, (.tmp 40, (Qoj p1))] (Qdw x7))] ⟨apc (first := []) (cap := []) (vs := [(Qoj p1)]) rfl enter45 (Qpt N p1 _ hf6) rfl rfl (nlc (nld Qac _) nl0) (nld Qac _) rfl, trivial⟩ ?_
   obtain ⟨x9, hf8, h⟩ := bno h
   obtain ⟨x11, hf10, h⟩ := bno h
   refine wx tbk [(1, rp [fu 37, (.tmp 43, (Qc3 p0))] (z154_3 x9)), (3, rp [fu 44, (.tmp 44, (z154_3 x9)), (.tmp 45, (Qdw x7))] (.tup [(.dat 1 ((x11.1 : List Int).map Qab)), I x11.2.1, (.dat 1 ((x11.2.2.1 : List Int).map Qab)), I x11.2.2.2]))] ⟨apc (first := []) (cap := []) (vs := [(Qc3 p0)]) rfl Qoe (Qh9 N p0 _ hf8) rfl rfl (nlc (nld Qaa _) nl0) (nld Qaa _) rfl, apc (first := []) (cap := []) (vs := [(z154_3 x9), (Qdw x7)]) rfl Qsi (Qho N x9 x7 _ hf10) rfl rfl (nlc (nld Qaa _) (nlc (nld Qac _) nl0)) (NLt.tup _ (nlc (nld Qaa _) (nlc nll (nlc (nld Qaa _) (nlc nll nl0))))) rfl, trivial⟩ ?_
   obtain ⟨k12, hk_k12, h⟩ := jko h
   refine wjn (τ := Unit) (fun t => k12 t = some r) (fun _ => ⟨mk 208 [(0, (Qc3 p0)), (1, (Qoj p1)), (2, (Qmk p2)), (3, (Qj6 p3)), (4, (K .u8 (p4))), (5, (K .u8 (p5))), (6, (K .u16 (p6))), (15, (Qdw x7)), (17, I x11.2.1)], []⟩) (fun t h => ?_) ?_
   ·subst hk_k12
    obtain ⟨k13, hk_k13, h⟩ := jko h
    refine wjn (τ := Unit) (fun t => k13 t = some r) (fun _ => ⟨mk 208 [(0, (Qc3 p0)), (3, (Qj6 p3)), (4, (K .u8 (p4))), (5, (K .u8 (p5))), (6, (K .u16 (p6))), (15, (Qdw x7)), (17, I x11.2.1)], []⟩) (fun t h => ?_) ?_
    ·subst hk_k13
     obtain ⟨k14, hk_k14, h⟩ := jko h
     refine wjn (τ := Unit) (fun t => k14 t = some r) (fun _ => ⟨mk 208 [(0, (Qc3 p0)), (4, (K .u8 (p4))), (5, (K .u8 (p5))), (6, (K .u16 (p6))), (15, (Qdw x7)), (17, I x11.2.1)], []⟩) (fun t h => ?_) ?_
     ·subst hk_k14
      obtain ⟨hz15, h⟩ := cko h
      obtain ⟨x16, hl17, h⟩ := bno h
      refine wx tbk [(1, rp [(.tmp 117, (K .u8 (p4)))] (I (w64 p4))), (3, rp [(.tmp 119, (Qc3 p0))] (I ((p0.length : Int)))), (4, rp [(.tmp 118, I (w64 p4)), (.tmp 120, (I ((p0.length : Int))))] (I ((w64 p4).tmod (p0.length : Int)))), (5, rp [(.tmp 121, (I ((w64 p4).tmod (p0.length : Int))))] (I x16))] ⟨acv rfl (by rw [Try.underlying5]; rfl) Try.underlying3, alm (c := Qab) (l := p0) (aln rfl Try.underlying37 rfl), Qum rfl (bne_out hz15), Qeh hl17 (aas rfl), trivial⟩ ?_
      obtain ⟨x19, hf18, h⟩ := bno h
      refine wx tbk [(1, ⟨[fu 37, (.tmp 122, (Qc3 p0))], [(0, .unused)], (.gro 0 3 1 (x19.length)), [(0, (Qn1 x19))], false⟩)] ⟨Qan (first := []) (cap := []) (vs := [(Qc3 p0)]) (σr := []) (σr' := [(Qn1 x19)]) (res' := (.gro 0 3 1 (x19.length))) [0] rfl Qoe (Qk0 N p0 _ hf18) rfl (Qb0 (rnc (.plain _ (nld Qaa _)) rn0)) Qam (slc (Qwz Qaa) Qam) (rnj_gro rfl) rfl rfl rfl, trivial⟩ ?_
      obtain ⟨hz20, h⟩ := cko h
      obtain ⟨hi21, h⟩ := cko h
      obtain ⟨hi21a, hi21b⟩ := Qa5 hi21
      obtain ⟨x22, hg23, h⟩ := bno h
      obtain ⟨x24, hl25, h⟩ := bno h
      obtain ⟨hi26, h⟩ := cko h
      obtain ⟨hi26a, hi26b⟩ := Qa5 hi26
      obtain ⟨x27, hg28, h⟩ := bno h
      refine wx tbk [(4, rb [(.tmp 126, (.gro 0 3 1 (x19.length))), (.tmp 127, I x16)] [(0, (Qn1 x19))] (.ref 0 1 (x16.toNat) 0)), (5, rb [(.tmp 128, (.ref 0 1 (x16.toNat) 0))] [(0, (Qn1 x19))] (I x22)), (7, rp [(.tmp 130, (K .u16 (p6)))] (I (w64 p6))), (9, rp [ci 1000000, (.tmp 132, (I (w64 (x22 + (w64 p6)))))] (I x24)), (10, rb [(.tmp 124, (.gro 0 3 1 (x19.length))), (.tmp 125, I x16)] [(0, (Qn1 x19))] (.ref 0 1 (x16.toNat) 0)), (11, ⟨[(.tmp 134, (.ref 0 1 (x16.toNat) 0)), (.tmp 133, I x24)], [(0, (Qn1 x19))], .any, [(0, (.own 1 ((x19.set x16.toNat x24 : List Int).map Qab)))], false⟩)] ⟨Qfz (bl' := [(0, (Qrh x19))]) ⟨rfl, SLess.gro (Qdu hz20), trivial⟩ (awk (rd' := [(.tmp 126, (.own 0 1 (0) (x19.length))), (.tmp 127, I x16)]) ⟨rfl, Less.gro, rfl, lrf, trivial⟩ (aio rfl Try.underlying37 ti3 (odt hi21a) (odt hi21b) (Nat.zero_add _))), Qfz (bl' := [(0, (Qrh x19))]) ⟨rfl, SLess.gro (Qdu hz20), trivial⟩ (ald rfl ti3 (by decide) (mgt Qab hg23) (nle rfl) rfl), acv rfl (by rw [Try.underlying98]; rfl) Try.underlying3, Qeh hl25 (Qlx rfl), Qfz (bl' := [(0, (Qrh x19))]) ⟨rfl, SLess.gro (Qdu hz20), trivial⟩ (awk (rd' := [(.tmp 124, (.own 0 1 (0) (x19.length))), (.tmp 125, I x16)]) ⟨rfl, Less.gro, rfl, lrf, trivial⟩ (aio rfl Try.underlying37 ti3 (odt hi26a) (odt hi26b) (Nat.zero_add _))), Qfz (bl' := [(0, (Qrh x19))]) ⟨rfl, SLess.gro (Qdu hz20), trivial⟩ (ast rfl ti3 (by rfl) (mgt Qab hg28) (nle rfl) (Qfn Qab rfl)), trivial⟩ ?_
      refine wmr (mor_own [(.own 1 ((x19.set x16.toNat x24 : List Int).map Qab))] (mor_lessq (n := 208) (l' := [(0, (Qc3 p0)), (4, (K .u8 (p4))), (5, (K .u8 (p5))), (6, (K .u16 (p6))), (15, (Qdw x7)), (17, I x11.2.1), (26, I x16), (27, (.own 0 1 (0) (x19.length))), (117, (K .u8 (p4))), (118, I (w64 p4)), (119, (Qc3 p0)), (120, (I ((p0.length : Int)))), (121, (I ((w64 p4).tmod (p0.length : Int)))), (122, (Qc3 p0)), (123, (.own 0 1 (0) (x19.length))), (124, (.own 0 1 (0) (x19.length))), (125, I x16), (126, (.own 0 1 (0) (x19.length))), (127, I x16), (128, (.ref 0 1 (x16.toNat) 0)), (129, I x22), (130, (K .u16 (p6))), (131, I (w64 p6)), (132, (I (w64 (x22 + (w64 p6))))), (133, I x24), (134, (.ref 0 1 (x16.toNat) 0))]) (own' := [(.own 1 ((x19.set x16.toNat x24 : List Int).map Qab))]) [(0, (Qc3 p0)), (4, (K .u8 (p4))), (5, (K .u8 (p5))), (6, (K .u16 (p6))), (15, (Qdw x7)), (17, I x11.2.1), (26, I x16), (27, (.gro 0 3 1 (x19.length))), (117, (K .u8 (p4))), (118, I (w64 p4)), (119, (Qc3 p0)), (120, (I ((p0.length : Int)))), (121, (I ((w64 p4).tmod (p0.length : Int)))), (122, (Qc3 p0)), (123, (.gro 0 3 1 (x19.length))), (124, (.gro 0 3 1 (x19.length))), (125, I x16), (126, (.gro 0 3 1 (x19.length))), (127, I x16), (128, (.ref 0 1 (x16.toNat) 0)), (129, I x22), (130, (K .u16 (p6))), (131, I (w64 p6)), (132, (I (w64 (x22 + (w64 p6))))), (133, I x24), (134, (.ref 0 1 (x16.toNat) 0))] (by kernel_rfl) (by kernel_rfl) ⟨rfl, lrf, rfl, lrf, rfl, lrf, rfl, lrf, rfl, lrf, rfl, lrf, rfl, lrf, rfl, Less.gro, rfl, lrf, rfl, lrf, rfl, lrf, rfl, lrf, rfl, lrf, rfl, lrf, rfl, Less.gro, rfl, Less.gro, rfl, lrf, rfl, Less.gro, rfl, lrf, rfl, lrf, rfl, lrf, rfl, lrf, rfl, lrf, rfl, lrf, rfl, lrf, rfl, lrf, trivial⟩ (qc spw_sameL qn))) ?_
      obtain ⟨hz29, h⟩ := cko h
      refine wmr (mor_fzq (n := 208) (m := 1) (xs := (x19.set x16.toNat x24 : List Int).map Qab) (l' := [(0, (Qc3 p0)), (4, (K .u8 (p4))), (5, (K .u8 (p5))), (6, (K .u16 (p6))), (15, (Qdw x7)), (17, I x11.2.1), (26, I x16), (27, (Qn0 x19 x16 x24)), (117, (K .u8 (p4))), (118, I (w64 p4)), (119, (Qc3 p0)), (120, (I ((p0.length : Int)))), (121, (I ((w64 p4).tmod (p0.length : Int)))), (122, (Qc3 p0)), (123, (Qn0 x19 x16 x24)), (124, (Qn0 x19 x16 x24)), (125, I x16), (126, (Qn0 x19 x16 x24)), (127, I x16), (128, .any), (129, I x22), (130, (K .u16 (p6))), (131, I (w64 p6)), (132, (I (w64 (x22 + (w64 p6))))), (133, I x24), (134, .any)]) (own' := [.dead]) 0 [(0, (Qc3 p0)), (4, (K .u8 (p4))), (5, (K .u8 (p5))), (6, (K .u16 (p6))), (15, (Qdw x7)), (17, I x11.2.1), (26, I x16), (27, (.own 0 1 (0) (x19.length))), (117, (K .u8 (p4))), (118, I (w64 p4)), (119, (Qc3 p0)), (120, (I ((p0.length : Int)))), (121, (I ((w64 p4).tmod (p0.length : Int)))), (122, (Qc3 p0)), (123, (.own 0 1 (0) (x19.length))), (124, (.own 0 1 (0) (x19.length))), (125, I x16), (126, (.own 0 1 (0) (x19.length))), (127, I x16), (128, (.ref 0 1 (x16.toNat) 0)), (129, I x22), (130, (K .u16 (p6))), (131, I (w64 p6)), (132, (I (w64 (x22 + (w64 p6))))), (133, I x24), (134, (.ref 0 1 (x16.toNat) 0))] (by kernel_rfl) (by kernel_rfl) (by kernel_rfl) ⟨rfl, (.same _), rfl, (.same _), rfl, (.same _), rfl, (.same _), rfl, (.same _), rfl, (.same _), rfl, (.same _), rfl, (Qkw hz29), rfl, (.same _), rfl, (.same _), rfl, (.same _), rfl, (.same _), rfl, (.same _), rfl, (.same _), rfl, (Qkw hz29), rfl, (Qkw hz29), rfl, (.same _), rfl, (Qkw hz29), rfl, (.same _), rfl, (.any _), rfl, (.same _), rfl, (.same _), rfl, (.same _), rfl, (.same _), rfl, (.same _), rfl, (.any _), trivial⟩ (qc .dead qn)) ?_
      obtain ⟨x31, hf30, h⟩ := bno h
      refine wx tbk [(2, rp [fu 44, (.tmp 136, (Qn0 x19 x16 x24)), (.tmp 137, (Qdw x7))] (.tup [(.dat 1 ((x31.1 : List Int).map Qab)), I x31.2.1, (.dat 1 ((x31.2.2.1 : List Int).map Qab)), I x31.2.2.2]))] ⟨apc (first := []) (cap := []) (vs := [(Qn0 x19 x16 x24), (Qdw x7)]) rfl Qsi (Qho N ((x19.set x16.toNat x24).take x19.length) x7 _ hf30) rfl rfl (nlc (nld Qaa _) (nlc (nld Qac _) nl0)) (NLt.tup _ (nlc (nld Qaa _) (nlc nll (nlc (nld Qaa _) (nlc nll nl0))))) rfl, trivial⟩ ?_
      obtain ⟨k32, hk_k32, h⟩ := jko h
      refine wjn (τ := Unit) (fun t => k32 t = some r) (fun _ => ⟨mk 208 [(0, (Qc3 p0)), (5, (K .u8 (p5))), (6, (K .u16 (p6))), (15, (Qdw x7)), (17, I x11.2.1), (26, I x16)], []⟩) (fun t h => ?_) ?_
      ·subst hk_k32
       obtain ⟨hz33, h⟩ := cko h
       obtain ⟨x34, hl35, h⟩ := bno h
       refine wx tbk [(2, rp [(.tmp 151, (K .u8 (p5)))] (I (w64 p5))), (4, rp [(.tmp 153, (Qc3 p0))] (I ((p0.length : Int)))), (7, rp [(.tmp 152, I (w64 p5)), (.tmp 156, (I (w64 ((p0.length : Int) - x16))))] (I ((w64 p5).tmod (w64 ((p0.length : Int) - x16))))), (9, rp [(.tmp 158, (I (w64 (x16 + ((w64 p5).tmod (w64 ((p0.length : Int) - x16)))))))] (I x34))] ⟨acv rfl (by rw [Try.underlying5]; rfl) Try.underlying3, alm (c := Qab) (l := p0) (aln rfl Try.underlying37 rfl), Qum rfl (bne_out hz33), Qeh hl35 (aas rfl), trivial⟩ ?_
       obtain ⟨x37, hf36, h⟩ := bno h
       refine wx tbk [(1, ⟨[fu 37, (.tmp 159, (Qc3 p0))], [(0, .unused)], (.gro 0 3 1 (x37.length)), [(0, (Qnz x37))], false⟩)] ⟨Qan (first := []) (cap := []) (vs := [(Qc3 p0)]) (σr := []) (σr' := [(Qnz x37)]) (res' := (.gro 0 3 1 (x37.length))) [0] rfl Qoe (Qk0 N p0 _ hf36) rfl (Qb0 (rnc (.plain _ (nld Qaa _)) rn0)) Qam (slc (Qwz Qaa) Qam) (rnj_gro rfl) rfl rfl rfl, trivial⟩ ?_
       obtain ⟨hz38, h⟩ := cko h
       obtain ⟨hi39, h⟩ := cko h
       obtain ⟨hi39a, hi39b⟩ := Qa5 hi39
       obtain ⟨x40, hg41, h⟩ := bno h
       obtain ⟨hi42, h⟩ := cko h
       obtain ⟨hi42a, hi42b⟩ := Qa5 hi42
       obtain ⟨x43, hg44, h⟩ := bno h
       obtain ⟨x45, hl46, h⟩ := bno h
       refine wxd tbk [(2, rb [(.tmp 161, (.gro 0 3 1 (x37.length))), (.tmp 162, I x16)] [(0, (Qnz x37))] (.ref 0 1 (x16.toNat) 0)), (3, rb [(.tmp 163, (.ref 0 1 (x16.toNat) 0))] [(0, (Qnz x37))] (I x40)), (5, rp [(.tmp 165, (K .u16 (p6)))] (I (w64 p6))), (8, rb [(.tmp 167, (.gro 0 3 1 (x37.length))), (.tmp 168, I x34)] [(0, (Qnz x37))] (.ref 0 1 (x34.toNat) 0)), (9, rb [(.tmp 169, (.ref 0 1 (x34.toNat) 0))] [(0, (Qnz x37))] (I x43)), (11, rp [(.tmp 164, I x40), (.tmp 166, I (w64 p6)), (.tmp 171, (I (w64 (1000000 - x43))))] (I x45))] ⟨Qfz (bl' := [(0, (Qkj x37))]) ⟨rfl, SLess.gro (Qdu hz38), trivial⟩ (awk (rd' := [(.tmp 161, (.own 0 1 (0) (x37.length))), (.tmp 162, I x16)]) ⟨rfl, Less.gro, rfl, lrf, trivial⟩ (aio rfl Try.underlying37 ti3 (odt hi39a) (odt hi39b) (Nat.zero_add _))), Qfz (bl' := [(0, (Qkj x37))]) ⟨rfl, SLess.gro (Qdu hz38), trivial⟩ (ald rfl ti3 (by decide) (mgt Qab hg41) (nle rfl) rfl), acv rfl (by rw [Try.underlying98]; rfl) Try.underlying3, Qfz (bl' := [(0, (Qkj x37))]) ⟨rfl, SLess.gro (Qdu hz38), trivial⟩ (awk (rd' := [(.tmp 167, (.own 0 1 (0) (x37.length))), (.tmp 168, I x34)]) ⟨rfl, Less.gro, rfl, lrf, trivial⟩ (aio rfl Try.underlying37 ti3 (odt hi42a) (odt hi42b) (Nat.zero_add _))), Qfz (bl' := [(0, (Qkj x37))]) ⟨rfl, SLess.gro (Qdu hz38), trivial⟩ (ald rfl ti3 (by decide) (mgt Qab hg44) (nle rfl) rfl), Qeh hl46 (astep_min3 rfl), trivial⟩ ?_
       refine wmr (Qxa (n := 208) (m := 1) (xs := (x37 : List Int).map Qab) (l' := [(0, (Qc3 p0)), (5, (K .u8 (p5))), (6, (K .u16 (p6))), (15, (Qdw x7)), (17, I x11.2.1), (26, I x16), (32, I x34), (33, (.own 0 1 (0) (x37.length))), (34, I x45), (150, I x16), (151, (K .u8 (p5))), (152, I (w64 p5)), (153, (Qc3 p0)), (154, (I ((p0.length : Int)))), (155, I x16), (156, (I (w64 ((p0.length : Int) - x16)))), (157, (I ((w64 p5).tmod (w64 ((p0.length : Int) - x16))))), (158, (I (w64 (x16 + ((w64 p5).tmod (w64 ((p0.length : Int) - x16))))))), (159, (Qc3 p0)), (160, (.own 0 1 (0) (x37.length))), (161, (.own 0 1 (0) (x37.length))), (162, I x16), (163, (.ref 0 1 (x16.toNat) 0)), (164, I x40), (165, (K .u16 (p6))), (166, I (w64 p6)), (167, (.own 0 1 (0) (x37.length))), (168, I x34), (169, (.ref 0 1 (x34.toNat) 0)), (170, I x43), (171, (I (w64 (1000000 - x43)))), (172, I x45)]) 0 [(0, (Qc3 p0)), (5, (K .u8 (p5))), (6, (K .u16 (p6))), (15, (Qdw x7)), (17, I x11.2.1), (26, I x16), (32, I x34), (33, (.gro 0 3 1 (x37.length))), (34, I x45), (150, I x16), (151, (K .u8 (p5))), (152, I (w64 p5)), (153, (Qc3 p0)), (154, (I ((p0.length : Int)))), (155, I x16), (156, (I (w64 ((p0.length : Int) - x16)))), (157, (I ((w64 p5).tmod (w64 ((p0.length : Int) - x16))))), (158, (I (w64 (x16 + ((w64 p5).tmod (w64 ((p0.length : Int) - x16))))))), (159, (Qc3 p0)), (160, (.gro 0 3 1 (x37.length))), (161, (.gro 0 3 1 (x37.length))), (162, I x16), (163, (.ref 0 1 (x16.toNat) 0)), (164, I x40), (165, (K .u16 (p6))), (166, I (w64 p6)), (167, (.gro 0 3 1 (x37.length))), (168, I x34), (169, (.ref 0 1 (x34.toNat) 0)), (170, I x43), (171, (I (w64 (1000000 - x43)))), (172, I x45)] (by kernel_rfl) (by kernel_rfl) (by kernel_rfl) (Qdu hz38) ⟨rfl, .same _, rfl, .same _, rfl, .same _, rfl, .same _, rfl, .same _, rfl, .same _, rfl, .same _, rfl, .own _ _ _, rfl, .same _, rfl, .same _, rfl, .same _, rfl, .same _, rfl, .same _, rfl, .same _, rfl, .same _, rfl, .same _, rfl, .same _, rfl, .same _, rfl, .same _, rfl, .own _ _ _, rfl, .own _ _ _, rfl, .same _, rfl, .same _, rfl, .same _, rfl, .same _, rfl, .same _, rfl, .own _ _ _, rfl, .same _, rfl, .same _, rfl, .same _, rfl, .same _, rfl, .same _, trivial⟩ rfl) ?_
       obtain ⟨k48, hk_k48, h⟩ := jko h
       refine wjn (τ := (List Int)) (fun t => k48 t = some r) (fun y47 => ⟨mk 208 [(15, (Qdw x7)), (17, I x11.2.1), (33, (.own 0 1 (0) (x37.length)))], [(.own 1 ((y47 : List Int).map Qab))]⟩) (fun y47 h => ?_) ?_
       ·subst hk_k48
        obtain ⟨hz49, h⟩ := cko h
        refine wmr (mor_fzq (n := 208) (m := 1) (xs := (y47 : List Int).map Qab) (l' := [(15, (Qdw x7)), (17, I x11.2.1), (33, (.dat 1 ((y47.take x37.length : List Int).map Qab)))]) (own' := [.dead]) 0 [(15, (Qdw x7)), (17, I x11.2.1), (33, (.own 0 1 (0) (x37.length)))] (by kernel_rfl) (by kernel_rfl) (by kernel_rfl) ⟨rfl, (.same _), rfl, (.same _), rfl, (Qkw hz49), trivial⟩ (qc .dead qn)) ?_
        obtain ⟨x51, hf50, h⟩ := bno h
        refine wx tbk [(2, rp [fu 44, (.tmp 191, (.dat 1 ((y47.take x37.length : List Int).map Qab))), (.tmp 192, (Qdw x7))] (.tup [(.dat 1 ((x51.1 : List Int).map Qab)), I x51.2.1, (.dat 1 ((x51.2.2.1 : List Int).map Qab)), I x51.2.2.2]))] ⟨apc (first := []) (cap := []) (vs := [(.dat 1 ((y47.take x37.length : List Int).map Qab)), (Qdw x7)]) rfl Qsi (Qho N (y47.take x37.length) x7 _ hf50) rfl rfl (nlc (nld Qaa _) (nlc (nld Qac _) nl0)) (NLt.tup _ (nlc (nld Qaa _) (nlc nll (nlc (nld Qaa _) (nlc nll nl0))))) rfl, trivial⟩ ?_
        rcases bft ((x51.2.2.2 == 0)) with hb52 | hb52
        ·replace h := Qaz hb52 h
         rcases bft ((decide (x51.2.1 ≥ x11.2.1))) with hb53 | hb53
         ·replace h := Qaz hb53 h
          obtain ⟨x55, hf54, h⟩ := bno h
          refine wx tbk [(2, rp [(.tmp 199, (B ((x51.2.2.2 == 0))))] (B true)), (7, rp [(.tmp 204, (B ((decide (x51.2.1 ≥ x11.2.1)))))] (B true)), (8, rp [(.tmp 205, B true), fu 17] (B x55))] ⟨asb hb52 (amv rfl), asb hb53 (amv rfl), ag_ (apc (first := []) (cap := []) (vs := []) rfl enter17 (Qls 2000  _ hf54) rfl rfl nl0 nll rfl), trivial⟩ ?_
          refine Qae ?_
          obtain rfl := osi h
          exact fend ⟨[B x55], ⟨rot (by kernel_rfl), trivial⟩, rfl⟩ nll
         ·replace h := Qa0 hb53 h
          refine wx tbk [(2, rp [(.tmp 199, (B ((x51.2.2.2 == 0))))] (B true)), (7, rp [(.tmp 204, (B ((decide (x51.2.1 ≥ x11.2.1)))))] (B false))] ⟨asb hb52 (amv rfl), asb hb53 (amv rfl), trivial⟩ ?_
          refine Qae ?_
          obtain rfl := osi h
          exact fend ⟨[B false], ⟨rot (by kernel_rfl), trivial⟩, rfl⟩ nll
        ·replace h := Qa0 hb52 h
         refine wx tbk [(2, rp [(.tmp 199, (B ((x51.2.2.2 == 0))))] (B false))] ⟨asb hb52 (amv rfl), trivial⟩ ?_
         refine Qae ?_
         obtain rfl := osi h
         exact fend ⟨[B false], ⟨rot (by kernel_rfl), trivial⟩, rfl⟩ nll
       ·skip
        refine wx tbk [] trivial ?_
        rcases bft ((decide (x34 > x16))) with hc56 | hc56
        ·replace h := Qaz hc56 h
         refine wft hc56 (by kernel_rfl) ?_
         obtain ⟨hi57, h⟩ := cko h
         obtain ⟨hi57a, hi57b⟩ := Qa5 hi57
         obtain ⟨x58, hg59, h⟩ := bno h
         obtain ⟨hi60, h⟩ := cko h
         obtain ⟨hi60a, hi60b⟩ := Qa5 hi60
         obtain ⟨x61, hg62, h⟩ := bno h
         refine wx tbk [(2, rb [(.tmp 176, (.own 0 1 (0) (x37.length))), (.tmp 177, I x16)] [(0, (Qkj x37))] (.ref 0 1 (x16.toNat) 0)), (3, rb [(.tmp 178, (.ref 0 1 (x16.toNat) 0))] [(0, (Qkj x37))] (I x58)), (6, rb [(.tmp 176, (.own 0 1 (0) (x37.length))), (.tmp 177, I x16)] [(0, (Qkj x37))] (.ref 0 1 (x16.toNat) 0)), (7, ⟨[(.tmp 182, (.ref 0 1 (x16.toNat) 0)), (.tmp 181, (I (w64 (x58 - x45))))], [(0, (Qkj x37))], .any, [(0, (Qo5 x37 x16 x58 x45))], false⟩)] ⟨aio rfl Try.underlying37 ti3 (odt hi57a) (odt hi57b) (Nat.zero_add _), ald rfl ti3 (by decide) (mgt Qab hg59) (nle rfl) rfl, aio rfl Try.underlying37 ti3 (odt hi60a) (odt hi60b) (Nat.zero_add _), ast rfl ti3 (by rfl) (mgt Qab hg62) (nle rfl) (Qfn Qab rfl), trivial⟩ ?_
         obtain ⟨hi63, h⟩ := cko h
         obtain ⟨hi63a, hi63b⟩ := Qa5 hi63
         obtain ⟨x64, hg65, h⟩ := bno h
         obtain ⟨hi66, h⟩ := cko h
         obtain ⟨hi66a, hi66b⟩ := Qa5 hi66
         obtain ⟨x67, hg68, h⟩ := bno h
         refine wx1 tbk [(2, rb [(.tmp 183, (.own 0 1 (0) (x37.length))), (.tmp 184, I x34)] [(0, (Qo5 x37 x16 x58 x45))] (.ref 0 1 (x34.toNat) 0)), (3, rb [(.tmp 185, (.ref 0 1 (x34.toNat) 0))] [(0, (Qo5 x37 x16 x58 x45))] (I x64)), (6, rb [(.tmp 183, (.own 0 1 (0) (x37.length))), (.tmp 184, I x34)] [(0, (Qo5 x37 x16 x58 x45))] (.ref 0 1 (x34.toNat) 0)), (7, ⟨[(.tmp 189, (.ref 0 1 (x34.toNat) 0)), (.tmp 188, (I (w64 (x64 + x45))))], [(0, (Qo5 x37 x16 x58 x45))], .any, [(0, (.own 1 (((x37.set x16.toNat (w64 (x58 - x45))).set x34.toNat (w64 (x64 + x45)) : List Int).map Qab)))], false⟩)] ⟨aio rfl Try.underlying37 ti3 (odt hi63a) (odt hi63b) (Nat.zero_add _), ald rfl ti3 (by decide) (mgt Qab hg65) (nle rfl) rfl, aio rfl Try.underlying37 ti3 (odt hi66a) (odt hi66b) (Nat.zero_add _), ast rfl ti3 (by rfl) (mgt Qab hg68) (nle rfl) (Qfn Qab rfl), trivial⟩ ?_
         refine thn ?_
         exact ⟨((x37.set x16.toNat (w64 (x58 - x45))).set x34.toNat (w64 (x64 + x45))), h, (mto (n := 208) [(15, (Qdw x7)), (17, I x11.2.1), (33, (.own 0 1 (0) (x37.length)))] [0] [(.own 1 (((x37.set x16.toNat (w64 (x58 - x45))).set x34.toNat (w64 (x64 + x45)) : List Int).map Qab))] hφ0 (pc (.rn (.plain _ (nld Qac _))) (pc rwl (pc (.rn (Qaf rfl)) pn))) (qc (spr Qaa) qn))⟩
        ·replace h := Qa0 hc56 h
         refine wfn hc56 (by kernel_rfl) ?_
         refine Qal ?_
         refine thn ?_
         exact ⟨(x37), h, (mto (n := 208) [(15, (Qdw x7)), (17, I x11.2.1), (33, (.own 0 1 (0) (x37.length)))] [0] [(Qkj x37)] hφ0 (pc (.rn (.plain _ (nld Qac _))) (pc rwl (pc (.rn (Qaf rfl)) pn))) (qc (spr Qaa) qn))⟩
      ·skip
       rcases bft ((x31.2.2.2 != 0)) with hb69 | hb69
       ·replace h := Qaz hb69 h
        refine wx tbk [(2, rp [(.tmp 144, (B ((x31.2.2.2 != 0))))] (B true))] ⟨asb hb69 (amv rfl), trivial⟩ ?_
        refine Qgd (by kernel_rfl) ?_
        refine wx tbk [] trivial ?_
        refine Qae ?_
        refine Qaw ?_
        obtain rfl := osi h
        exact fend ⟨[B false], ⟨rot (by kernel_rfl), trivial⟩, rfl⟩ nll
       ·replace h := Qa0 hb69 h
        refine wx tbk [(2, rp [(.tmp 144, (B ((x31.2.2.2 != 0))))] (B false))] ⟨asb hb69 (amv rfl), trivial⟩ ?_
        rcases bft ((decide (x31.2.1 < x11.2.1))) with hc70 | hc70
        ·replace h := Qaz hc70 h
         refine wft hc70 (by kernel_rfl) ?_
         refine wx tbk [] trivial ?_
         refine Qae ?_
         refine Qaw ?_
         obtain rfl := osi h
         exact fend ⟨[B false], ⟨rot (by kernel_rfl), trivial⟩, rfl⟩ nll
        ·replace h := Qa0 hc70 h
         refine wfn hc70 (by kernel_rfl) ?_
         refine Qal ?_
         refine thn ?_
         exact ⟨(), h, (mto (n := 208) [(0, (Qc3 p0)), (5, (K .u8 (p5))), (6, (K .u16 (p6))), (15, (Qdw x7)), (17, I x11.2.1), (26, I x16)] [] [] hφ0 (pc (.rn (.plain _ (nld Qaa _))) (pc rwl (pc rwl (pc (.rn (.plain _ (nld Qac _))) (pc rwl (pc rwl pn)))))) qn)⟩
     ·skip
      obtain ⟨x72, hf71, h⟩ := bno h
      obtain ⟨x74, hf73, h⟩ := bno h
      obtain ⟨x76, hf75, h⟩ := bno h
      refine wx tbk [(1, rp [fu 37, (.tmp 94, (Qc3 p0))] (.dat 1 ((x72 : List Int).map Qab))), (4, rp [fu 37, (.tmp 97, (Qj6 p3))] (.dat 1 ((x74 : List Int).map Qab))), (5, rp [fu 46, (.tmp 95, (.dat 1 ((x72 : List Int).map Qab))), (.tmp 96, (Qdw x7)), (.tmp 98, (.dat 1 ((x74 : List Int).map Qab)))] (.tup [I x76.1, I x76.2]))] ⟨apc (first := []) (cap := []) (vs := [(Qc3 p0)]) rfl Qoe (Qh9 N p0 _ hf71) rfl rfl (nlc (nld Qaa _) nl0) (nld Qaa _) rfl, apc (first := []) (cap := []) (vs := [(Qj6 p3)]) rfl Qoe (Qh9 N p3 _ hf73) rfl rfl (nlc (nld Qaa _) nl0) (nld Qaa _) rfl, apc (first := []) (cap := []) (vs := [(.dat 1 ((x72 : List Int).map Qab)), (Qdw x7), (.dat 1 ((x74 : List Int).map Qab))]) rfl enter46 (Qpn N x72 x7 x74 _ hf75) rfl rfl (nlc (nld Qaa _) (nlc (nld Qac _) (nlc (nld Qaa _) nl0))) (NLt.tup _ (nlc nll (nlc nll nl0))) rfl, trivial⟩ ?_
      rcases bft ((x76.2 == 0)) with hb77 | hb77
      ·replace h := Qaz hb77 h
       rcases bft ((decide (x76.1 < x11.2.1))) with hb78 | hb78
       ·replace h := Qaz hb78 h
        refine wx tbk [(2, rp [(.tmp 103, (B ((x76.2 == 0))))] (B true)), (7, rp [(.tmp 108, (B ((decide (x76.1 < x11.2.1)))))] (B true))] ⟨asb hb77 (amv rfl), asb hb78 (amv rfl), trivial⟩ ?_
        refine Qgd (by kernel_rfl) ?_
        refine wx tbk [] trivial ?_
        refine Qae ?_
        refine Qaw ?_
        obtain rfl := osi h
        exact fend ⟨[B false], ⟨rot (by kernel_rfl), trivial⟩, rfl⟩ nll
       ·replace h := Qa0 hb78 h
        rcases bft ((x76.2 != 0)) with hb79 | hb79
        ·replace h := Qaz hb79 h
         refine wx tbk [(2, rp [(.tmp 103, (B ((x76.2 == 0))))] (B true)), (7, rp [(.tmp 108, (B ((decide (x76.1 < x11.2.1)))))] (B false)), (10, rp [(.tmp 109, B false), (.tmp 111, (B ((x76.2 != 0))))] (B true))] ⟨asb hb77 (amv rfl), asb hb78 (amv rfl), asb hb79 (ag_ (amv rfl)), trivial⟩ ?_
         rcases bft ((x76.2 != 1)) with hc80 | hc80
         ·replace h := Qaz hc80 h
          refine wft hc80 (by kernel_rfl) ?_
          refine wx tbk [] trivial ?_
          refine Qae ?_
          refine Qaw ?_
          obtain rfl := osi h
          exact fend ⟨[B false], ⟨rot (by kernel_rfl), trivial⟩, rfl⟩ nll
         ·replace h := Qa0 hc80 h
          refine wfn hc80 (by kernel_rfl) ?_
          refine Qal ?_
          refine thn ?_
          exact ⟨(), h, (mto (n := 208) [(0, (Qc3 p0)), (4, (K .u8 (p4))), (5, (K .u8 (p5))), (6, (K .u16 (p6))), (15, (Qdw x7)), (17, I x11.2.1)] [] [] hφ0 (pc (.rn (.plain _ (nld Qaa _))) (pc rwl (pc rwl (pc rwl (pc (.rn (.plain _ (nld Qac _))) (pc rwl pn)))))) qn)⟩
        ·replace h := Qa0 hb79 h
         refine wx tbk [(2, rp [(.tmp 103, (B ((x76.2 == 0))))] (B true)), (7, rp [(.tmp 108, (B ((decide (x76.1 < x11.2.1)))))] (B false)), (10, rp [(.tmp 109, B false), (.tmp 111, (B ((x76.2 != 0))))] (B false))] ⟨asb hb77 (amv rfl), asb hb78 (amv rfl), asb hb79 (ag_ (amv rfl)), trivial⟩ ?_
         refine Qf3 (by kernel_rfl) ?_
         refine Qal ?_
         refine thn ?_
         exact ⟨(), h, (mto (n := 208) [(0, (Qc3 p0)), (4, (K .u8 (p4))), (5, (K .u8 (p5))), (6, (K .u16 (p6))), (15, (Qdw x7)), (17, I x11.2.1)] [] [] hφ0 (pc (.rn (.plain _ (nld Qaa _))) (pc rwl (pc rwl (pc rwl (pc (.rn (.plain _ (nld Qac _))) (pc rwl pn)))))) qn)⟩
      ·replace h := Qa0 hb77 h
       rcases bft ((x76.2 != 0)) with hb81 | hb81
       ·replace h := Qaz hb81 h
        refine wx tbk [(2, rp [(.tmp 103, (B ((x76.2 == 0))))] (B false)), (10, rp [(.tmp 109, B false), (.tmp 111, (B ((x76.2 != 0))))] (B true))] ⟨asb hb77 (amv rfl), asb hb81 (ag_ (amv rfl)), trivial⟩ ?_
        rcases bft ((x76.2 != 1)) with hc82 | hc82
        ·replace h := Qaz hc82 h
         refine wft hc82 (by kernel_rfl) ?_
         refine wx tbk [] trivial ?_
         refine Qae ?_
         refine Qaw ?_
         obtain rfl := osi h
         exact fend ⟨[B false], ⟨rot (by kernel_rfl), trivial⟩, rfl⟩ nll
        ·replace h := Qa0 hc82 h
         refine wfn hc82 (by kernel_rfl) ?_
         refine Qal ?_
         refine thn ?_
         exact ⟨(), h, (mto (n := 208) [(0, (Qc3 p0)), (4, (K .u8 (p4))), (5, (K .u8 (p5))), (6, (K .u16 (p6))), (15, (Qdw x7)), (17, I x11.2.1)] [] [] hφ0 (pc (.rn (.plain _ (nld Qaa _))) (pc rwl (pc rwl (pc rwl (pc (.rn (.plain _ (nld Qac _))) (pc rwl pn)))))) qn)⟩
       ·replace h := Qa0 hb81 h
        refine wx tbk [(2, rp [(.tmp 103, (B ((x76.2 == 0))))] (B false)), (10, rp [(.tmp 109, B false), (.tmp 111, (B ((x76.2 != 0))))] (B false))] ⟨asb hb77 (amv rfl), asb hb81 (ag_ (amv rfl)), trivial⟩ ?_
        refine Qf3 (by kernel_rfl) ?_
        refine Qal ?_
        refine thn ?_
        exact ⟨(), h, (mto (n := 208) [(0, (Qc3 p0)), (4, (K .u8 (p4))), (5, (K .u8 (p5))), (6, (K .u16 (p6))), (15, (Qdw x7)), (17, I x11.2.1)] [] [] hφ0 (pc (.rn (.plain _ (nld Qaa _))) (pc rwl (pc rwl (pc rwl (pc (.rn (.plain _ (nld Qac _))) (pc rwl pn)))))) qn)⟩
    ·skip
     obtain ⟨x84, hf83, h⟩ := bno h
     refine wx tbk [(3, rp [fu 48, (.tmp 63, (Qc3 p0)), (.tmp 64, (Qoj p1)), (.tmp 65, (Qmk p2))] (B x84))] ⟨apc (first := []) (cap := []) (vs := [(Qc3 p0), (Qoj p1), (Qmk p2)]) rfl enter48 (Qov N p0 p1 p2 _ hf83) rfl rfl (nlc (nld Qaa _) (nlc (nld Qac _) (nlc (nld Qaa _) nl0))) nll rfl, trivial⟩ ?_
     rcases bft (x84) with hc85 | hc85
     ·replace h := Qaz hc85 h
      refine wft hc85 (by kernel_rfl) ?_
      refine wx tbk [] trivial ?_
      obtain ⟨k87, hk_k87, h⟩ := jko h
      refine wjn (τ := Int) (fun t => k87 t = some r) (fun y86 => ⟨mk 208 [(0, (Qc3 p0)), (3, (Qj6 p3)), (4, (K .u8 (p4))), (5, (K .u8 (p5))), (6, (K .u16 (p6))), (15, (Qdw x7)), (17, I x11.2.1), (20, I y86)], []⟩) (fun y86 h => ?_) ?_
      ·subst hk_k87
       refine wx tbk [] trivial ?_
       rcases bft ((decide (y86 > x11.2.1))) with hc88 | hc88
       ·replace h := Qaz hc88 h
        refine wft hc88 (by kernel_rfl) ?_
        refine wx tbk [] trivial ?_
        refine Qae ?_
        refine Qaw ?_
        obtain rfl := osi h
        exact fend ⟨[B false], ⟨rot (by kernel_rfl), trivial⟩, rfl⟩ nll
       ·replace h := Qa0 hc88 h
        refine wfn hc88 (by kernel_rfl) ?_
        refine Qal ?_
        refine thn ?_
        exact ⟨(), h, (mto (n := 208) [(0, (Qc3 p0)), (3, (Qj6 p3)), (4, (K .u8 (p4))), (5, (K .u8 (p5))), (6, (K .u16 (p6))), (15, (Qdw x7)), (17, I x11.2.1)] [] [] hφ0 (pc (.rn (.plain _ (nld Qaa _))) (pc (.rn (.plain _ (nld Qaa _))) (pc rwl (pc rwl (pc rwl (pc (.rn (.plain _ (nld Qac _))) (pc rwl pn))))))) qn)⟩
      ·skip
       refine wx tbk [] trivial ?_
       refine Qah ?_
       refine wmr (mto (n := 208) (l' := [(0, (Qc3 p0)), (2, (Qmk p2)), (3, (Qj6 p3)), (4, (K .u8 (p4))), (5, (K .u8 (p5))), (6, (K .u16 (p6))), (15, (Qdw x7)), (17, I x11.2.1), (20, I 0), (21, I 0)]) (own' := []) [(0, (Qc3 p0)), (2, (Qmk p2)), (3, (Qj6 p3)), (4, (K .u8 (p4))), (5, (K .u8 (p5))), (6, (K .u16 (p6))), (15, (Qdw x7)), (17, I x11.2.1), (20, I 0), (21, I 0)] [] [] hφ0 (pc (.rn (.plain _ (nld Qaa _))) (pc (.rn (.plain _ (nld Qaa _))) (pc (.rn (.plain _ (nld Qaa _))) (pc rwl (pc rwl (pc rwl (pc (.rn (.plain _ (nld Qac _))) (pc rwl (pc rwl (pc rwl pn)))))))))) qn) ?_
       refine Qbw (τ := Int × Int) (fun n t => Qc9 N p2 x7 k87 n t.1 t.2 = some r) (fun ⟨y89, y90⟩ => ⟨mk 208 [(0, (Qc3 p0)), (2, (Qmk p2)), (3, (Qj6 p3)), (4, (K .u8 (p4))), (5, (K .u8 (p5))), (6, (K .u16 (p6))), (15, (Qdw x7)), (17, I x11.2.1), (20, I y89), (21, I y90)], []⟩) (fun t h => by rw [Qc9] at h; cases h) (fun n93 ih t h => ?_) N (0, 0) h
       obtain ⟨y89, y90⟩ := t
       rw [Qc9] at h
       skip
       refine wsq ?_
       refine wx tbk [(2, rp [(.tmp 68, (Qmk p2))] (I ((p2.length : Int))))] ⟨alm (c := Qab) (l := p2) (aln rfl Try.underlying37 rfl), trivial⟩ ?_
       rcases bft ((decide (y90 < (p2.length : Int)))) with hc94 | hc94
       ·replace h := Qaz hc94 h
        refine wft hc94 (by kernel_rfl) ?_
        refine Qal ?_
        refine thn ?_
        refine wsq ?_
        refine Qah ?_
        obtain ⟨x95, hg96, h⟩ := bno h
        obtain ⟨hi97, hj98⟩ := gsm hg96
        obtain ⟨x99, hg100, h⟩ := bno h
        obtain ⟨hi101, hj102⟩ := gsm hg100
        obtain ⟨x104, hf103, h⟩ := bno h
        refine wxd tbk [(2, rp [(.tmp 74, (Qdw x7)), (.tmp 75, I y90)] (.dptr (Qat (x95)) 0)), (6, rp [(.tmp 78, (Qmk p2)), (.tmp 79, I y90)] (.dptr (Qab (x99)) 0)), (8, rp [fu 18, (.tmp 77, (.agg [I x95.Inlet, (.dat 2 ((x95.Parts : List GPart).map Qa4))])), (.tmp 81, I x99)] (.tup [I x104.1, I x104.2]))] ⟨aid rfl Try.underlying89 ti34 rfl rfl hi97 (mgt Qat hj98) rfl, aid rfl Try.underlying37 ti3 rfl rfl hi101 (mgt Qab hj102) rfl, apc (first := []) (cap := []) (vs := [(.agg [I x95.Inlet, (.dat 2 ((x95.Parts : List GPart).map Qa4))]), I x99]) rfl enter18 (Qlq N x95 x99 _ hf103) rfl rfl (nlc (NLt.agg _ (nlc nll (nlc (nld Qbg _) nl0))) (nlc nll nl0)) (NLt.tup _ (nlc nll (nlc nll nl0))) rfl, trivial⟩ ?_
        refine wsq ?_
        refine wx tbk [] trivial ?_
        rcases bft ((x104.2 != 0)) with hc105 | hc105
        ·replace h := Qaz hc105 h
         refine wft hc105 (by kernel_rfl) ?_
         refine wx tbk [] trivial ?_
         refine Qae ?_
         refine Qaw ?_
         refine Qbz ?_
         refine Qaw ?_
         refine Qaw ?_
         refine Qbz ?_
         refine Qaw ?_
         refine Qaw ?_
         obtain rfl := osi h
         exact fend ⟨[B false], ⟨rot (by kernel_rfl), trivial⟩, rfl⟩ nll
        ·replace h := Qa0 hc105 h
         refine wfn hc105 (by kernel_rfl) ?_
         refine Qal ?_
         refine thn ?_
         refine wx1 tbk [] trivial ?_
         refine bln ?_
         refine thn ?_
         refine wx1 tbk [] trivial ?_
         refine thn ?_
         exact arm (mto (n := 208) [(0, (Qc3 p0)), (2, (Qmk p2)), (3, (Qj6 p3)), (4, (K .u8 (p4))), (5, (K .u8 (p5))), (6, (K .u16 (p6))), (15, (Qdw x7)), (17, I x11.2.1), (20, (I (w64 (y89 + x104.1)))), (21, (I (w64 (y90 + 1))))] [] [] hφ0 (pc (.rn (.plain _ (nld Qaa _))) (pc (.rn (.plain _ (nld Qaa _))) (pc (.rn (.plain _ (nld Qaa _))) (pc rwl (pc rwl (pc rwl (pc (.rn (.plain _ (nld Qac _))) (pc rwl (pc rwl (pc rwl pn)))))))))) qn) (ih (w64 (y89 + x104.1), w64 (y90 + 1)) h)
       ·replace h := Qa0 hc94 h
        refine wfn hc94 (by kernel_rfl) ?_
        refine Qbe ?_
        refine Qap ?_
        refine Qap ?_
        refine Qbd rfl ?_
        refine thn ?_
        exact ⟨(y89), h, (mto (n := 208) [(0, (Qc3 p0)), (3, (Qj6 p3)), (4, (K .u8 (p4))), (5, (K .u8 (p5))), (6, (K .u16 (p6))), (15, (Qdw x7)), (17, I x11.2.1), (20, I y89)] [] [] hφ0 (pc (.rn (.plain _ (nld Qaa _))) (pc (.rn (.plain _ (nld Qaa _))) (pc rwl (pc rwl (pc rwl (pc (.rn (.plain _ (nld Qac _))) (pc rwl (pc rwl pn)))))))) qn)⟩
     ·replace h := Qa0 hc85 h
      refine wfn hc85 (by kernel_rfl) ?_
      refine Qal ?_
      refine thn ?_
      exact ⟨(), h, (mto (n := 208) [(0, (Qc3 p0)), (3, (Qj6 p3)), (4, (K .u8 (p4))), (5, (K .u8 (p5))), (6, (K .u16 (p6))), (15, (Qdw x7)), (17, I x11.2.1)] [] [] hφ0 (pc (.rn (.plain _ (nld Qaa _))) (pc (.rn (.plain _ (nld Qaa _))) (pc rwl (pc rwl (pc rwl (pc (.rn (.plain _ (nld Qac _))) (pc rwl pn))))))) qn)⟩
   ·skip
    rcases bft ((x11.2.2.2 != 0)) with hb106 | hb106
    ·replace h := Qaz hb106 h
     refine wx tbk [(2, rp [(.tmp 52, (B ((x11.2.2.2 != 0))))] (B true))] ⟨asb hb106 (amv rfl), trivial⟩ ?_
     refine Qgd (by kernel_rfl) ?_
     refine wx tbk [] trivial ?_
     refine Qae ?_
     refine Qaw ?_
     obtain rfl := osi h
     exact fend ⟨[B false], ⟨rot (by kernel_rfl), trivial⟩, rfl⟩ nll
    ·replace h := Qa0 hb106 h
     obtain ⟨x108, hf107, h⟩ := bno h
     obtain ⟨x110, hf109, h⟩ := bno h
     refine wx tbk [(2, rp [(.tmp 52, (B ((x11.2.2.2 != 0))))] (B false)), (4, rp [(.tmp 53, B false), fu 37, (.tmp 54, (Qc3 p0))] (.dat 1 ((x108 : List Int).map Qab))), (9, rp [(.tmp 53, B false), fu 53, (.tmp 55, (.dat 1 ((x108 : List Int).map Qab))), (.tmp 56, (Qdw x7)), (.tmp 57, (.dat 1 ((x11.1 : List Int).map Qab))), (.tmp 58, I x11.2.1), (.tmp 59, (.dat 1 ((x11.2.2.1 : List Int).map Qab)))] (B x110))] ⟨asb hb106 (amv rfl), ag_ (apc (first := []) (cap := []) (vs := [(Qc3 p0)]) rfl Qoe (Qh9 N p0 _ hf107) rfl rfl (nlc (nld Qaa _) nl0) (nld Qaa _) rfl), ag_ (apc (first := []) (cap := []) (vs := [(.dat 1 ((x108 : List Int).map Qab)), (Qdw x7), (.dat 1 ((x11.1 : List Int).map Qab)), I x11.2.1, (.dat 1 ((x11.2.2.1 : List Int).map Qab))]) rfl enter53 (Qmi N x108 x7 x11.1 x11.2.1 x11.2.2.1 _ hf109) rfl rfl (nlc (nld Qaa _) (nlc (nld Qac _) (nlc (nld Qaa _) (nlc nll (nlc (nld Qaa _) nl0))))) nll rfl), trivial⟩ ?_
     rcases bft ((!x110)) with hc111 | hc111
     ·replace h := Qaz hc111 h
      refine wft hc111 (by kernel_rfl) ?_
      refine wx tbk [] trivial ?_
      refine Qae ?_
      refine Qaw ?_
      obtain rfl := osi h
      exact fend ⟨[B false], ⟨rot (by kernel_rfl), trivial⟩, rfl⟩ nll
     ·replace h := Qa0 hc111 h
      refine wfn hc111 (by kernel_rfl) ?_
      refine Qal ?_
      refine thn ?_
      exact ⟨(), h, (mto (n := 208) [(0, (Qc3 p0)), (1, (Qoj p1)), (2, (Qmk p2)), (3, (Qj6 p3)), (4, (K .u8 (p4))), (5, (K .u8 (p5))), (6, (K .u16 (p6))), (15, (Qdw x7)), (17, I x11.2.1)] [] [] hφ0 (pc (.rn (.plain _ (nld Qaa _))) (pc (.rn (.plain _ (nld Qac _))) (pc (.rn (.plain _ (nld Qaa _))) (pc (.rn (.plain _ (nld Qaa _))) (pc rwl (pc rwl (pc rwl (pc (.rn (.plain _ (nld Qac _))) (pc rwl pn))))))))) qn)⟩
end Go.Proofs.Ytlhakkkjgdbdpaa
