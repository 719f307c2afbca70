/-
  Functions of the program: what they compute, as plain functions, and that they do. No conditions.
-/
import Derived.Test.YtlhakkkjgdbdpaaX12
namespace Go.Proofs.Ytlhakkkjgdbdpaa
open Go.RowKit
def Qg8 (_N : Nat) (p0 : (List Int)) : Option (List Int) :=
  chk (decide ((0 + p0.length) * 8 ≤ 140737488355328)) <|
  some p0
def z148_1 (p0 : (List Int)) : Slot := .gro 1 ((p0 : List Int).map Qac)
set_option maxRecDepth 100000 in
set_option maxHeartbeats 4000000 in
theorem Qln (N : Nat) (p0 : (List Int)) (r : (List Int)) (h : Qg8 N p0 = some r) : Spec Try.prog 37 [(.dat 1 ((p0 : List Int).map Qac))] [] (.gro 0 3 1 (r.length)) [(.gro 1 ((r : List Int).map Qac))] := by
  refine Qad Try.func37 rfl 1 (nle rfl) (fun X φ0 w0 hφ0 => ?_)
  unfold Qg8 at h
  refine Qbx ?_
  refine wx tbk [] trivial ?_
  obtain ⟨ha2, h⟩ := cko h
  refine wx tbk [(1, ⟨[((.const (.slice none 0 0)), nilS), (.tmp 3, (.dat 1 ((p0 : List Int).map Qac)))], [(0, .unused), (1, .unused)], (.gro 1 3 1 (p0.length)), [(0, .dead), (1, (z148_1 p0))], false⟩)] ⟨astep_appN (c := Qac) (b := p0) rfl Try.underlying37 te3 rfl (Qtd Qac Qxf _) ha2 (by decide) rfl, trivial⟩ ?_
  refine wmr (mto (n := 5) (l' := [(2, (.gro 0 3 1 (p0.length)))]) (own' := [(z148_1 p0)]) [(2, (.gro 1 3 1 (p0.length)))] [1] [(z148_1 p0)] hφ0 (pc (.rn (Qg0 rfl)) pn) (qc (Qfv Qaa) qn)) ?_
  refine Qaf ?_
  obtain rfl := osi h
  exact ⟨_, Mor.rfl, Qci (vs := [(.gro 0 3 1 (p0.length))]) ⟨rot (by kernel_rfl), trivial⟩ rfl (NLt.gro _ _ _ _ (by decide)) (by kernel_rfl) (Qaj (snl_grow Qaa _) Qbq)⟩
def Qgz (N : Nat) (p0 : (List Int)) (p1 : (List GUnit)) (p2 : (List Int)) (p3 : Int) (p4 : (List Int)) (p5 : Bool) (p6 : Int) (p7 : Int) : Option Bool :=
  Qby (fun _ =>
    Qby (fun ⟨y2, y3, y4⟩ =>
      (Qgb N p0 p1).bind fun x7 =>
      bif x7 then
       (Qjt N p0 p1 y2).bind fun x10 =>
       bif x10 then
        (Qfx N p0 y4).bind fun x13 =>
        bif x13 then
         (Qj2 N p1 y2).bind fun x16 =>
         bif (x16 == y3) then
          (Qi3 N p0 p1 y4).bind fun x19 =>
          (Qc4 N p0).bind fun x21 =>
          (Qfb N p1).bind fun x23 =>
          (Qc4 N y2).bind fun x25 =>
          (Qc4 N y4).bind fun x27 =>
          (Qdl N x21 x23 x25 y3 x27).bind fun x29 =>
          bif (x29 == (x19 == y3)) then
           (Qev 2000 ).bind fun x32 =>
           some x32
          else
           some false
         else
          (Qc4 N p0).bind fun x34 =>
          (Qfb N p1).bind fun x36 =>
          (Qc4 N y2).bind fun x38 =>
          (Qc4 N y4).bind fun x40 =>
          (Qdl N x34 x36 x38 y3 x40).bind fun x42 =>
          bif (x42 == false) then
           (Qev 2000 ).bind fun x45 =>
           some x45
          else
           some false
        else
         (Qc4 N p0).bind fun x47 =>
         (Qfb N p1).bind fun x49 =>
         (Qc4 N y2).bind fun x51 =>
         (Qc4 N y4).bind fun x53 =>
         (Qdl N x47 x49 x51 y3 x53).bind fun x55 =>
         bif (x55 == false) then
          (Qev 2000 ).bind fun x58 =>
          some x58
         else
          some false
       else
        (Qc4 N p0).bind fun x60 =>
        (Qfb N p1).bind fun x62 =>
        (Qc4 N y2).bind fun x64 =>
        (Qc4 N y4).bind fun x66 =>
        (Qdl N x60 x62 x64 y3 x66).bind fun x68 =>
        bif (x68 == false) then
         (Qev 2000 ).bind fun x71 =>
         some x71
        else
         some false
      else
       (Qc4 N p0).bind fun x73 =>
       (Qfb N p1).bind fun x75 =>
       (Qc4 N y2).bind fun x77 =>
       (Qc4 N y4).bind fun x79 =>
       (Qdl N x73 x75 x77 y3 x79).bind fun x81 =>
       bif (x81 == false) then
        (Qev 2000 ).bind fun x84 =>
        some x84
       else
        some false) fun k5 : (List Int) × Int × (List Int) → Option Bool =>
    bif p5 then
     (Qc4 N p0).bind fun x87 =>
     (Qfb N p1).bind fun x89 =>
     (Qgg N x87 x89).bind fun x91 =>
     bif (x91.2.2.2 == 0) then
      (Qg8 N x91.1).bind fun x94 =>
      (Qg8 N x91.2.2.1).bind fun x96 =>
      (Qgm N p7 (-1000000) 1000000).bind fun x98 =>
      bif x98 then
       Qby (fun ⟨y100, y101, y102⟩ =>
         bif y100 then
          chk (!y101.isEmpty) <|
          chk (decide (0 ≤ p6) && decide (p6.toNat < y101.length)) <|
          (y101[p6.toNat]?).bind fun x107 =>
          chk (decide (0 ≤ p6) && decide (p6.toNat < y101.length)) <|
          (y101[p6.toNat]?).bind fun _ =>
          chk (decide (y101.length ≤ (y101.set p6.toNat (w64 (x107 + p7))).length)) <|
          k5 ((y101.set p6.toNat (w64 (x107 + p7))).take y101.length, x91.2.1, y102)
         else
          bif (decide ((w64 (p6 - 20)) ≥ 0)) then
           bif (decide ((w64 (p6 - 20)) < ((y102.length : Nat) : Int))) then
            chk (!y102.isEmpty) <|
            chk (decide (0 ≤ w64 (p6 - 20)) && decide ((w64 (p6 - 20)).toNat < y102.length)) <|
            (y102[(w64 (p6 - 20)).toNat]?).bind fun x117 =>
            chk (decide (0 ≤ w64 (p6 - 20)) && decide ((w64 (p6 - 20)).toNat < y102.length)) <|
            (y102[(w64 (p6 - 20)).toNat]?).bind fun _ =>
            chk (decide (y102.length ≤ (y102.set ((w64 (p6 - 20)).toNat) (w64 (x117 + p7))).length)) <|
            k5 (y101, x91.2.1, (y102.set ((w64 (p6 - 20)).toNat) (w64 (x117 + p7))).take y102.length)
           else
            bif (p6 == 40) then
             k5 (y101, w64 (x91.2.1 + p7), y102)
            else
             k5 (y101, x91.2.1, y102)
          else
           bif (p6 == 40) then
            k5 (y101, w64 (x91.2.1 + p7), y102)
           else
            k5 (y101, x91.2.1, y102)) fun k103 : Bool × (List Int) × (List Int) → Option Bool =>
       bif (decide (p6 ≥ 0)) then
        k103 ((decide (p6 < ((x94.length : Nat) : Int))), x94, x96)
       else
        k103 (false, x94, x96)
      else
       k5 (x94, x91.2.1, x96)
     else
      k5 (p2, p3, p4)
    else
     k5 (p2, p3, p4)) fun k1 : Unit → Option Bool =>
  (Qk3 N p0 p1).bind fun x127 =>
  bif (!x127) then
   (Qev 2000 ).bind fun x130 =>
   some x130
  else
   bif (decide ((p2.length : Int) > 15)) then
    (Qev 2000 ).bind fun x133 =>
    some x133
   else
    bif (decide ((p4.length : Int) > 10)) then
     (Qev 2000 ).bind fun x136 =>
     some x136
    else
     k1 ()
def Qbe (p0 : (List Int)) : AV := .dat 1 ((p0 : List Int).map Qac)
def Qbh (p1 : (List GUnit)) : AV := .dat 2 ((p1 : List GUnit).map Qao)
def Qru (p2 : (List Int)) : AV := .dat 1 ((p2 : List Int).map Qac)
def Qu0 (p4 : (List Int)) : AV := .dat 1 ((p4 : List Int).map Qac)
def Qdn (y2 : (List Int)) : AV := .dat 1 ((y2 : List Int).map Qac)
def Qd6 (y4 : (List Int)) : AV := .dat 1 ((y4 : List Int).map Qac)
def Qo7 (x21 : (List Int)) : AV := .dat 1 ((x21 : List Int).map Qac)
def Qo6 (x23 : (List GUnit)) : AV := .dat 2 ((x23 : List GUnit).map Qao)
def Qo5 (x25 : (List Int)) : AV := .dat 1 ((x25 : List Int).map Qac)
def Qo4 (x27 : (List Int)) : AV := .dat 1 ((x27 : List Int).map Qac)
def Qo3 (x34 : (List Int)) : AV := .dat 1 ((x34 : List Int).map Qac)
def Qo2 (x36 : (List GUnit)) : AV := .dat 2 ((x36 : List GUnit).map Qao)
def Qo1 (x38 : (List Int)) : AV := .dat 1 ((x38 : List Int).map Qac)
def Qo0 (x40 : (List Int)) : AV := .dat 1 ((x40 : List Int).map Qac)
def Qoz (x47 : (List Int)) : AV := .dat 1 ((x47 : List Int).map Qac)
def Qoy (x49 : (List GUnit)) : AV := .dat 2 ((x49 : List GUnit).map Qao)
def Qox (x51 : (List Int)) : AV := .dat 1 ((x51 : List Int).map Qac)
def Qow (x53 : (List Int)) : AV := .dat 1 ((x53 : List Int).map Qac)
def Qov (x60 : (List Int)) : AV := .dat 1 ((x60 : List Int).map Qac)
def Qou (x62 : (List GUnit)) : AV := .dat 2 ((x62 : List GUnit).map Qao)
def Qot (x64 : (List Int)) : AV := .dat 1 ((x64 : List Int).map Qac)
def Qos (x66 : (List Int)) : AV := .dat 1 ((x66 : List Int).map Qac)
def Qor (x73 : (List Int)) : AV := .dat 1 ((x73 : List Int).map Qac)
def Qoq (x75 : (List GUnit)) : AV := .dat 2 ((x75 : List GUnit).map Qao)
def Qop (x77 : (List Int)) : AV := .dat 1 ((x77 : List Int).map Qac)
def Qoo (x79 : (List Int)) : AV := .dat 1 ((x79 : List Int).map Qac)
def Qwz (x89 : (List GUnit)) : AV := .dat 2 ((x89 : List GUnit).map Qao)
def Qs0 (x94 : (List Int)) : Slot := .gro 1 ((x94 : List Int).map Qac)
def Qqb (x96 : (List Int)) : Slot := .gro 1 ((x96 : List Int).map Qac)
def Qqa (y101 : (List Int)) : Slot := .gro 1 ((y101 : List Int).map Qac)
def Qkn (y102 : (List Int)) : Slot := .gro 1 ((y102 : List Int).map Qac)
def Qsz (y101 : (List Int)) : Slot := .own 1 ((y101 : List Int).map Qac)
def Qsy (y101 : (List Int)) (p6 : Int) (x107 : Int) (p7 : Int) : AV := .dat 1 (((y101.set p6.toNat (w64 (x107 + p7))).take y101.length : List Int).map Qac)
def Qkm (y102 : (List Int)) : AV := .dat 1 ((y102 : List Int).map Qac)
def Qsx (y102 : (List Int)) : Slot := .own 1 ((y102 : List Int).map Qac)
def Qfr (y101 : (List Int)) : AV := .dat 1 ((y101 : List Int).map Qac)
def Qsw (x94 : (List Int)) : AV := .dat 1 ((x94 : List Int).map Qac)
set_option maxRecDepth 100000 in
set_option maxHeartbeats 4000000 in
theorem Qmh (N : Nat) (p0 : (List Int)) (p1 : (List GUnit)) (p2 : (List Int)) (p3 : Int) (p4 : (List Int)) (p5 : Bool) (p6 : Int) (p7 : Int) (r : Bool) (h : Qgz N p0 p1 p2 p3 p4 p5 p6 p7 = some r) : Spec Try.prog 9 [(.dat 1 (p0.map Qac)), (.dat 2 (p1.map Qao)), (.dat 1 (p2.map Qac)), (I p3), (.dat 1 (p4.map Qac)), (B p5), (I p6), (I p7)] [] (B r) [] := by
  refine Qad Try.func9 rfl 0 (nle rfl) (fun X φ0 w0 hφ0 => ?_)
  unfold Qgz at h
  refine wx tbk [] trivial ?_
  obtain ⟨k1, hk_k1, h⟩ := jko h
  refine wjn (τ := Unit) (fun t => k1 t = some r) (fun _ => ⟨mk 139 [(0, (Qbe p0)), (1, (Qbh p1)), (2, (Qru p2)), (3, I p3), (4, (Qu0 p4)), (5, B p5), (6, I p6), (7, I p7)], []⟩) (fun t h => ?_) ?_
  ·subst hk_k1
   obtain ⟨k5, hk_k5, h⟩ := jko h
   refine wjn (τ := (List Int) × Int × (List Int)) (fun t => k5 t = some r) (fun ⟨y2, y3, y4⟩ => ⟨mk 139 [(0, (Qbe p0)), (1, (Qbh p1)), (2, (Qdn y2)), (3, I y3), (4, (Qd6 y4))], []⟩) (fun t h => ?_) ?_
   ·subst hk_k5
    obtain ⟨y2, y3, y4⟩ := t
    obtain ⟨x7, hf6, h⟩ := bno h
    rcases bft (x7) with hb8 | hb8
    ·replace h := Qaw hb8 h
     obtain ⟨x10, hf9, h⟩ := bno h
     rcases bft (x10) with hb11 | hb11
     ·replace h := Qaw hb11 h
      obtain ⟨x13, hf12, h⟩ := bno h
      rcases bft (x13) with hb14 | hb14
      ·replace h := Qaw hb14 h
       obtain ⟨x16, hf15, h⟩ := bno h
       rcases bft ((x16 == y3)) with hb17 | hb17
       ·replace h := Qaw hb17 h
        obtain ⟨x19, hf18, h⟩ := bno h
        refine wx tbk [(2, rp [fu 47, (.tmp 95, (Qbe p0)), (.tmp 96, (Qbh p1))] (B x7)), (3, rp [(.tmp 97, B x7)] (B true)), (7, rp [(.tmp 98, B true), fu 48, (.tmp 99, (Qbe p0)), (.tmp 100, (Qbh p1)), (.tmp 101, (Qdn y2))] (B x10)), (9, rp [(.tmp 103, B x10)] (B true)), (12, rp [(.tmp 104, B true), fu 51, (.tmp 105, (Qbe p0)), (.tmp 106, (Qd6 y4))] (B x13)), (14, rp [(.tmp 108, B x13)] (B true)), (17, rp [(.tmp 109, B true), fu 49, (.tmp 110, (Qbh p1)), (.tmp 111, (Qdn y2))] (I x16)), (21, rp [(.tmp 115, (B ((x16 == y3))))] (B true)), (25, rp [(.tmp 116, B true), fu 52, (.tmp 117, (Qbe p0)), (.tmp 118, (Qbh p1)), (.tmp 119, (Qd6 y4))] (I x19))] ⟨apc (first := []) (cap := []) (vs := [(Qbe p0), (Qbh p1)]) rfl Qq7 (Qe2 N p0 p1 _ hf6) rfl rfl (nlc (nld Qaa _) (nlc (nld Qab _) nl0)) nll rfl, asb hb8 (amv rfl), ag_ (apc (first := []) (cap := []) (vs := [(Qbe p0), (Qbh p1), (Qdn y2)]) rfl Qt1 (Qhm N p0 p1 y2 _ hf9) rfl rfl (nlc (nld Qaa _) (nlc (nld Qab _) (nlc (nld Qaa _) nl0))) nll rfl), asb hb11 (amv rfl), ag_ (apc (first := []) (cap := []) (vs := [(Qbe p0), (Qd6 y4)]) rfl Qxp (Qg1 N p0 y4 _ hf12) rfl rfl (nlc (nld Qaa _) (nlc (nld Qaa _) nl0)) nll rfl), asb hb14 (amv rfl), ag_ (apc (first := []) (cap := []) (vs := [(Qbh p1), (Qdn y2)]) rfl enter49 (Qnb N p1 y2 _ hf15) rfl rfl (nlc (nld Qab _) (nlc (nld Qaa _) nl0)) nll rfl), asb hb17 (amv rfl), ag_ (apc (first := []) (cap := []) (vs := [(Qbe p0), (Qbh p1), (Qd6 y4)]) rfl enter52 (Qqs N p0 p1 y4 _ hf18) rfl rfl (nlc (nld Qaa _) (nlc (nld Qab _) (nlc (nld Qaa _) nl0))) nll rfl), trivial⟩ ?_
        obtain ⟨x21, hf20, h⟩ := bno h
        obtain ⟨x23, hf22, h⟩ := bno h
        obtain ⟨x25, hf24, h⟩ := bno h
        obtain ⟨x27, hf26, h⟩ := bno h
        obtain ⟨x29, hf28, h⟩ := bno h
        rcases bft ((x29 == (x19 == y3))) with hb30 | hb30
        ·replace h := Qaw hb30 h
         obtain ⟨x32, hf31, h⟩ := bno h
         refine wx tbk [(1, rp [fu 37, (.tmp 124, (Qbe p0))] (Qo7 x21)), (3, rp [fu 45, (.tmp 126, (Qbh p1))] (Qo6 x23)), (5, rp [fu 37, (.tmp 128, (Qdn y2))] (Qo5 x25)), (8, rp [fu 37, (.tmp 131, (Qd6 y4))] (Qo4 x27)), (9, rp [fu 53, (.tmp 125, (Qo7 x21)), (.tmp 127, (Qo6 x23)), (.tmp 129, (Qo5 x25)), (.tmp 130, I y3), (.tmp 132, (Qo4 x27))] (B x29)), (11, rp [(.tmp 133, B x29), (.tmp 134, (B ((x19 == y3))))] (B ((x29 == (x19 == y3))))), (12, rp [(.tmp 135, (B ((x29 == (x19 == y3)))))] (B true)), (13, rp [(.tmp 136, B true), fu 17] (B x32))] ⟨apc (first := []) (cap := []) (vs := [(Qbe p0)]) rfl Qdr (Qa3 N p0 _ hf20) rfl rfl (nlc (nld Qaa _) nl0) (nld Qaa _) rfl, apc (first := []) (cap := []) (vs := [(Qbh p1)]) rfl Qj6 (Qdj N p1 _ hf22) rfl rfl (nlc (nld Qab _) nl0) (nld Qab _) rfl, apc (first := []) (cap := []) (vs := [(Qdn y2)]) rfl Qdr (Qa3 N y2 _ hf24) rfl rfl (nlc (nld Qaa _) nl0) (nld Qaa _) rfl, apc (first := []) (cap := []) (vs := [(Qd6 y4)]) rfl Qdr (Qa3 N y4 _ hf26) rfl rfl (nlc (nld Qaa _) nl0) (nld Qaa _) rfl, apc (first := []) (cap := []) (vs := [(Qo7 x21), (Qo6 x23), (Qo5 x25), I y3, (Qo4 x27)]) rfl Qkt (Qch N x21 x23 x25 y3 x27 _ hf28) rfl rfl (nlc (nld Qaa _) (nlc (nld Qab _) (nlc (nld Qaa _) (nlc nll (nlc (nld Qaa _) nl0))))) nll rfl, Qhi rfl Try.underlying4, asb hb30 (amv rfl), ag_ (apc (first := []) (cap := []) (vs := []) rfl Qmj (Qeu 2000  _ hf31) rfl rfl nl0 nll rfl), trivial⟩ ?_
         refine Qaf ?_
         obtain rfl := osi h
         exact fend ⟨[B x32], ⟨rot (by kernel_rfl), trivial⟩, rfl⟩ nll
        ·replace h := Qax hb30 h
         refine wx tbk [(1, rp [fu 37, (.tmp 124, (Qbe p0))] (Qo7 x21)), (3, rp [fu 45, (.tmp 126, (Qbh p1))] (Qo6 x23)), (5, rp [fu 37, (.tmp 128, (Qdn y2))] (Qo5 x25)), (8, rp [fu 37, (.tmp 131, (Qd6 y4))] (Qo4 x27)), (9, rp [fu 53, (.tmp 125, (Qo7 x21)), (.tmp 127, (Qo6 x23)), (.tmp 129, (Qo5 x25)), (.tmp 130, I y3), (.tmp 132, (Qo4 x27))] (B x29)), (11, rp [(.tmp 133, B x29), (.tmp 134, (B ((x19 == y3))))] (B ((x29 == (x19 == y3))))), (12, rp [(.tmp 135, (B ((x29 == (x19 == y3)))))] (B false))] ⟨apc (first := []) (cap := []) (vs := [(Qbe p0)]) rfl Qdr (Qa3 N p0 _ hf20) rfl rfl (nlc (nld Qaa _) nl0) (nld Qaa _) rfl, apc (first := []) (cap := []) (vs := [(Qbh p1)]) rfl Qj6 (Qdj N p1 _ hf22) rfl rfl (nlc (nld Qab _) nl0) (nld Qab _) rfl, apc (first := []) (cap := []) (vs := [(Qdn y2)]) rfl Qdr (Qa3 N y2 _ hf24) rfl rfl (nlc (nld Qaa _) nl0) (nld Qaa _) rfl, apc (first := []) (cap := []) (vs := [(Qd6 y4)]) rfl Qdr (Qa3 N y4 _ hf26) rfl rfl (nlc (nld Qaa _) nl0) (nld Qaa _) rfl, apc (first := []) (cap := []) (vs := [(Qo7 x21), (Qo6 x23), (Qo5 x25), I y3, (Qo4 x27)]) rfl Qkt (Qch N x21 x23 x25 y3 x27 _ hf28) rfl rfl (nlc (nld Qaa _) (nlc (nld Qab _) (nlc (nld Qaa _) (nlc nll (nlc (nld Qaa _) nl0))))) nll rfl, Qhi rfl Try.underlying4, asb hb30 (amv rfl), trivial⟩ ?_
         refine Qaf ?_
         obtain rfl := osi h
         exact fend ⟨[B false], ⟨rot (by kernel_rfl), trivial⟩, rfl⟩ nll
       ·replace h := Qax hb17 h
        refine wx tbk [(2, rp [fu 47, (.tmp 95, (Qbe p0)), (.tmp 96, (Qbh p1))] (B x7)), (3, rp [(.tmp 97, B x7)] (B true)), (7, rp [(.tmp 98, B true), fu 48, (.tmp 99, (Qbe p0)), (.tmp 100, (Qbh p1)), (.tmp 101, (Qdn y2))] (B x10)), (9, rp [(.tmp 103, B x10)] (B true)), (12, rp [(.tmp 104, B true), fu 51, (.tmp 105, (Qbe p0)), (.tmp 106, (Qd6 y4))] (B x13)), (14, rp [(.tmp 108, B x13)] (B true)), (17, rp [(.tmp 109, B true), fu 49, (.tmp 110, (Qbh p1)), (.tmp 111, (Qdn y2))] (I x16)), (21, rp [(.tmp 115, (B ((x16 == y3))))] (B false))] ⟨apc (first := []) (cap := []) (vs := [(Qbe p0), (Qbh p1)]) rfl Qq7 (Qe2 N p0 p1 _ hf6) rfl rfl (nlc (nld Qaa _) (nlc (nld Qab _) nl0)) nll rfl, asb hb8 (amv rfl), ag_ (apc (first := []) (cap := []) (vs := [(Qbe p0), (Qbh p1), (Qdn y2)]) rfl Qt1 (Qhm N p0 p1 y2 _ hf9) rfl rfl (nlc (nld Qaa _) (nlc (nld Qab _) (nlc (nld Qaa _) nl0))) nll rfl), asb hb11 (amv rfl), ag_ (apc (first := []) (cap := []) (vs := [(Qbe p0), (Qd6 y4)]) rfl Qxp (Qg1 N p0 y4 _ hf12) rfl rfl (nlc (nld Qaa _) (nlc (nld Qaa _) nl0)) nll rfl), asb hb14 (amv rfl), ag_ (apc (first := []) (cap := []) (vs := [(Qbh p1), (Qdn y2)]) rfl enter49 (Qnb N p1 y2 _ hf15) rfl rfl (nlc (nld Qab _) (nlc (nld Qaa _) nl0)) nll rfl), asb hb17 (amv rfl), trivial⟩ ?_
        obtain ⟨x34, hf33, h⟩ := bno h
        obtain ⟨x36, hf35, h⟩ := bno h
        obtain ⟨x38, hf37, h⟩ := bno h
        obtain ⟨x40, hf39, h⟩ := bno h
        obtain ⟨x42, hf41, h⟩ := bno h
        rcases bft ((x42 == false)) with hb43 | hb43
        ·replace h := Qaw hb43 h
         obtain ⟨x45, hf44, h⟩ := bno h
         refine wx tbk [(1, rp [fu 37, (.tmp 124, (Qbe p0))] (Qo3 x34)), (3, rp [fu 45, (.tmp 126, (Qbh p1))] (Qo2 x36)), (5, rp [fu 37, (.tmp 128, (Qdn y2))] (Qo1 x38)), (8, rp [fu 37, (.tmp 131, (Qd6 y4))] (Qo0 x40)), (9, rp [fu 53, (.tmp 125, (Qo3 x34)), (.tmp 127, (Qo2 x36)), (.tmp 129, (Qo1 x38)), (.tmp 130, I y3), (.tmp 132, (Qo0 x40))] (B x42)), (11, rp [(.tmp 133, B x42), (.tmp 134, B false)] (B ((x42 == false)))), (12, rp [(.tmp 135, (B ((x42 == false))))] (B true)), (13, rp [(.tmp 136, B true), fu 17] (B x45))] ⟨apc (first := []) (cap := []) (vs := [(Qbe p0)]) rfl Qdr (Qa3 N p0 _ hf33) rfl rfl (nlc (nld Qaa _) nl0) (nld Qaa _) rfl, apc (first := []) (cap := []) (vs := [(Qbh p1)]) rfl Qj6 (Qdj N p1 _ hf35) rfl rfl (nlc (nld Qab _) nl0) (nld Qab _) rfl, apc (first := []) (cap := []) (vs := [(Qdn y2)]) rfl Qdr (Qa3 N y2 _ hf37) rfl rfl (nlc (nld Qaa _) nl0) (nld Qaa _) rfl, apc (first := []) (cap := []) (vs := [(Qd6 y4)]) rfl Qdr (Qa3 N y4 _ hf39) rfl rfl (nlc (nld Qaa _) nl0) (nld Qaa _) rfl, apc (first := []) (cap := []) (vs := [(Qo3 x34), (Qo2 x36), (Qo1 x38), I y3, (Qo0 x40)]) rfl Qkt (Qch N x34 x36 x38 y3 x40 _ hf41) rfl rfl (nlc (nld Qaa _) (nlc (nld Qab _) (nlc (nld Qaa _) (nlc nll (nlc (nld Qaa _) nl0))))) nll rfl, Qhi rfl Try.underlying4, asb hb43 (amv rfl), ag_ (apc (first := []) (cap := []) (vs := []) rfl Qmj (Qeu 2000  _ hf44) rfl rfl nl0 nll rfl), trivial⟩ ?_
         refine Qaf ?_
         obtain rfl := osi h
         exact fend ⟨[B x45], ⟨rot (by kernel_rfl), trivial⟩, rfl⟩ nll
        ·replace h := Qax hb43 h
         refine wx tbk [(1, rp [fu 37, (.tmp 124, (Qbe p0))] (Qo3 x34)), (3, rp [fu 45, (.tmp 126, (Qbh p1))] (Qo2 x36)), (5, rp [fu 37, (.tmp 128, (Qdn y2))] (Qo1 x38)), (8, rp [fu 37, (.tmp 131, (Qd6 y4))] (Qo0 x40)), (9, rp [fu 53, (.tmp 125, (Qo3 x34)), (.tmp 127, (Qo2 x36)), (.tmp 129, (Qo1 x38)), (.tmp 130, I y3), (.tmp 132, (Qo0 x40))] (B x42)), (11, rp [(.tmp 133, B x42), (.tmp 134, B false)] (B ((x42 == false)))), (12, rp [(.tmp 135, (B ((x42 == false))))] (B false))] ⟨apc (first := []) (cap := []) (vs := [(Qbe p0)]) rfl Qdr (Qa3 N p0 _ hf33) rfl rfl (nlc (nld Qaa _) nl0) (nld Qaa _) rfl, apc (first := []) (cap := []) (vs := [(Qbh p1)]) rfl Qj6 (Qdj N p1 _ hf35) rfl rfl (nlc (nld Qab _) nl0) (nld Qab _) rfl, apc (first := []) (cap := []) (vs := [(Qdn y2)]) rfl Qdr (Qa3 N y2 _ hf37) rfl rfl (nlc (nld Qaa _) nl0) (nld Qaa _) rfl, apc (first := []) (cap := []) (vs := [(Qd6 y4)]) rfl Qdr (Qa3 N y4 _ hf39) rfl rfl (nlc (nld Qaa _) nl0) (nld Qaa _) rfl, apc (first := []) (cap := []) (vs := [(Qo3 x34), (Qo2 x36), (Qo1 x38), I y3, (Qo0 x40)]) rfl Qkt (Qch N x34 x36 x38 y3 x40 _ hf41) rfl rfl (nlc (nld Qaa _) (nlc (nld Qab _) (nlc (nld Qaa _) (nlc nll (nlc (nld Qaa _) nl0))))) nll rfl, Qhi rfl Try.underlying4, asb hb43 (amv rfl), trivial⟩ ?_
         refine Qaf ?_
         obtain rfl := osi h
         exact fend ⟨[B false], ⟨rot (by kernel_rfl), trivial⟩, rfl⟩ nll
      ·replace h := Qax hb14 h
       refine wx tbk [(2, rp [fu 47, (.tmp 95, (Qbe p0)), (.tmp 96, (Qbh p1))] (B x7)), (3, rp [(.tmp 97, B x7)] (B true)), (7, rp [(.tmp 98, B true), fu 48, (.tmp 99, (Qbe p0)), (.tmp 100, (Qbh p1)), (.tmp 101, (Qdn y2))] (B x10)), (9, rp [(.tmp 103, B x10)] (B true)), (12, rp [(.tmp 104, B true), fu 51, (.tmp 105, (Qbe p0)), (.tmp 106, (Qd6 y4))] (B x13)), (14, rp [(.tmp 108, B x13)] (B false))] ⟨apc (first := []) (cap := []) (vs := [(Qbe p0), (Qbh p1)]) rfl Qq7 (Qe2 N p0 p1 _ hf6) rfl rfl (nlc (nld Qaa _) (nlc (nld Qab _) nl0)) nll rfl, asb hb8 (amv rfl), ag_ (apc (first := []) (cap := []) (vs := [(Qbe p0), (Qbh p1), (Qdn y2)]) rfl Qt1 (Qhm N p0 p1 y2 _ hf9) rfl rfl (nlc (nld Qaa _) (nlc (nld Qab _) (nlc (nld Qaa _) nl0))) nll rfl), asb hb11 (amv rfl), ag_ (apc (first := []) (cap := []) (vs := [(Qbe p0), (Qd6 y4)]) rfl Qxp (Qg1 N p0 y4 _ hf12) rfl rfl (nlc (nld Qaa _) (nlc (nld Qaa _) nl0)) nll rfl), asb hb14 (amv rfl), trivial⟩ ?_
       obtain ⟨x47, hf46, h⟩ := bno h
       obtain ⟨x49, hf48, h⟩ := bno h
       obtain ⟨x51, hf50, h⟩ := bno h
       obtain ⟨x53, hf52, h⟩ := bno h
       obtain ⟨x55, hf54, h⟩ := bno h
       rcases bft ((x55 == false)) with hb56 | hb56
       ·replace h := Qaw hb56 h
        obtain ⟨x58, hf57, h⟩ := bno h
        refine wx tbk [(1, rp [fu 37, (.tmp 124, (Qbe p0))] (Qoz x47)), (3, rp [fu 45, (.tmp 126, (Qbh p1))] (Qoy x49)), (5, rp [fu 37, (.tmp 128, (Qdn y2))] (Qox x51)), (8, rp [fu 37, (.tmp 131, (Qd6 y4))] (Qow x53)), (9, rp [fu 53, (.tmp 125, (Qoz x47)), (.tmp 127, (Qoy x49)), (.tmp 129, (Qox x51)), (.tmp 130, I y3), (.tmp 132, (Qow x53))] (B x55)), (11, rp [(.tmp 133, B x55), (.tmp 134, B false)] (B ((x55 == false)))), (12, rp [(.tmp 135, (B ((x55 == false))))] (B true)), (13, rp [(.tmp 136, B true), fu 17] (B x58))] ⟨apc (first := []) (cap := []) (vs := [(Qbe p0)]) rfl Qdr (Qa3 N p0 _ hf46) rfl rfl (nlc (nld Qaa _) nl0) (nld Qaa _) rfl, apc (first := []) (cap := []) (vs := [(Qbh p1)]) rfl Qj6 (Qdj N p1 _ hf48) rfl rfl (nlc (nld Qab _) nl0) (nld Qab _) rfl, apc (first := []) (cap := []) (vs := [(Qdn y2)]) rfl Qdr (Qa3 N y2 _ hf50) rfl rfl (nlc (nld Qaa _) nl0) (nld Qaa _) rfl, apc (first := []) (cap := []) (vs := [(Qd6 y4)]) rfl Qdr (Qa3 N y4 _ hf52) rfl rfl (nlc (nld Qaa _) nl0) (nld Qaa _) rfl, apc (first := []) (cap := []) (vs := [(Qoz x47), (Qoy x49), (Qox x51), I y3, (Qow x53)]) rfl Qkt (Qch N x47 x49 x51 y3 x53 _ hf54) rfl rfl (nlc (nld Qaa _) (nlc (nld Qab _) (nlc (nld Qaa _) (nlc nll (nlc (nld Qaa _) nl0))))) nll rfl, Qhi rfl Try.underlying4, asb hb56 (amv rfl), ag_ (apc (first := []) (cap := []) (vs := []) rfl Qmj (Qeu 2000  _ hf57) rfl rfl nl0 nll rfl), trivial⟩ ?_
        refine Qaf ?_
        obtain rfl := osi h
        exact fend ⟨[B x58], ⟨rot (by kernel_rfl), trivial⟩, rfl⟩ nll
       ·replace h := Qax hb56 h
        refine wx tbk [(1, rp [fu 37, (.tmp 124, (Qbe p0))] (Qoz x47)), (3, rp [fu 45, (.tmp 126, (Qbh p1))] (Qoy x49)), (5, rp [fu 37, (.tmp 128, (Qdn y2))] (Qox x51)), (8, rp [fu 37, (.tmp 131, (Qd6 y4))] (Qow x53)), (9, rp [fu 53, (.tmp 125, (Qoz x47)), (.tmp 127, (Qoy x49)), (.tmp 129, (Qox x51)), (.tmp 130, I y3), (.tmp 132, (Qow x53))] (B x55)), (11, rp [(.tmp 133, B x55), (.tmp 134, B false)] (B ((x55 == false)))), (12, rp [(.tmp 135, (B ((x55 == false))))] (B false))] ⟨apc (first := []) (cap := []) (vs := [(Qbe p0)]) rfl Qdr (Qa3 N p0 _ hf46) rfl rfl (nlc (nld Qaa _) nl0) (nld Qaa _) rfl, apc (first := []) (cap := []) (vs := [(Qbh p1)]) rfl Qj6 (Qdj N p1 _ hf48) rfl rfl (nlc (nld Qab _) nl0) (nld Qab _) rfl, apc (first := []) (cap := []) (vs := [(Qdn y2)]) rfl Qdr (Qa3 N y2 _ hf50) rfl rfl (nlc (nld Qaa _) nl0) (nld Qaa _) rfl, apc (first := []) (cap := []) (vs := [(Qd6 y4)]) rfl Qdr (Qa3 N y4 _ hf52) rfl rfl (nlc (nld Qaa _) nl0) (nld Qaa _) rfl, apc (first := []) (cap := []) (vs := [(Qoz x47), (Qoy x49), (Qox x51), I y3, (Qow x53)]) rfl Qkt (Qch N x47 x49 x51 y3 x53 _ hf54) rfl rfl (nlc (nld Qaa _) (nlc (nld Qab _) (nlc (nld Qaa _) (nlc nll (nlc (nld Qaa _) nl0))))) nll rfl, Qhi rfl Try.underlying4, asb hb56 (amv rfl), trivial⟩ ?_
        refine Qaf ?_
        obtain rfl := osi h
        exact fend ⟨[B false], ⟨rot (by kernel_rfl), trivial⟩, rfl⟩ nll
     ·replace h := Qax hb11 h
      refine wx tbk [(2, rp [fu 47, (.tmp 95, (Qbe p0)), (.tmp 96, (Qbh p1))] (B x7)), (3, rp [(.tmp 97, B x7)] (B true)), (7, rp [(.tmp 98, B true), fu 48, (.tmp 99, (Qbe p0)), (.tmp 100, (Qbh p1)), (.tmp 101, (Qdn y2))] (B x10)), (9, rp [(.tmp 103, B x10)] (B false))] ⟨apc (first := []) (cap := []) (vs := [(Qbe p0), (Qbh p1)]) rfl Qq7 (Qe2 N p0 p1 _ hf6) rfl rfl (nlc (nld Qaa _) (nlc (nld Qab _) nl0)) nll rfl, asb hb8 (amv rfl), ag_ (apc (first := []) (cap := []) (vs := [(Qbe p0), (Qbh p1), (Qdn y2)]) rfl Qt1 (Qhm N p0 p1 y2 _ hf9) rfl rfl (nlc (nld Qaa _) (nlc (nld Qab _) (nlc (nld Qaa _) nl0))) nll rfl), asb hb11 (amv rfl), trivial⟩ ?_
      obtain ⟨x60, hf59, h⟩ := bno h
      obtain ⟨x62, hf61, h⟩ := bno h
      obtain ⟨x64, hf63, h⟩ := bno h
      obtain ⟨x66, hf65, h⟩ := bno h
      obtain ⟨x68, hf67, h⟩ := bno h
      rcases bft ((x68 == false)) with hb69 | hb69
      ·replace h := Qaw hb69 h
       obtain ⟨x71, hf70, h⟩ := bno h
       refine wx tbk [(1, rp [fu 37, (.tmp 124, (Qbe p0))] (Qov x60)), (3, rp [fu 45, (.tmp 126, (Qbh p1))] (Qou x62)), (5, rp [fu 37, (.tmp 128, (Qdn y2))] (Qot x64)), (8, rp [fu 37, (.tmp 131, (Qd6 y4))] (Qos x66)), (9, rp [fu 53, (.tmp 125, (Qov x60)), (.tmp 127, (Qou x62)), (.tmp 129, (Qot x64)), (.tmp 130, I y3), (.tmp 132, (Qos x66))] (B x68)), (11, rp [(.tmp 133, B x68), (.tmp 134, B false)] (B ((x68 == false)))), (12, rp [(.tmp 135, (B ((x68 == false))))] (B true)), (13, rp [(.tmp 136, B true), fu 17] (B x71))] ⟨apc (first := []) (cap := []) (vs := [(Qbe p0)]) rfl Qdr (Qa3 N p0 _ hf59) rfl rfl (nlc (nld Qaa _) nl0) (nld Qaa _) rfl, apc (first := []) (cap := []) (vs := [(Qbh p1)]) rfl Qj6 (Qdj N p1 _ hf61) rfl rfl (nlc (nld Qab _) nl0) (nld Qab _) rfl, apc (first := []) (cap := []) (vs := [(Qdn y2)]) rfl Qdr (Qa3 N y2 _ hf63) rfl rfl (nlc (nld Qaa _) nl0) (nld Qaa _) rfl, apc (first := []) (cap := []) (vs := [(Qd6 y4)]) rfl Qdr (Qa3 N y4 _ hf65) rfl rfl (nlc (nld Qaa _) nl0) (nld Qaa _) rfl, apc (first := []) (cap := []) (vs := [(Qov x60), (Qou x62), (Qot x64), I y3, (Qos x66)]) rfl Qkt (Qch N x60 x62 x64 y3 x66 _ hf67) rfl rfl (nlc (nld Qaa _) (nlc (nld Qab _) (nlc (nld Qaa _) (nlc nll (nlc (nld Qaa _) nl0))))) nll rfl, Qhi rfl Try.underlying4, asb hb69 (amv rfl), ag_ (apc (first := []) (cap := []) (vs := []) rfl Qmj (Qeu 2000  _ hf70) rfl rfl nl0 nll rfl), trivial⟩ ?_
       refine Qaf ?_
       obtain rfl := osi h
       exact fend ⟨[B x71], ⟨rot (by kernel_rfl), trivial⟩, rfl⟩ nll
      ·replace h := Qax hb69 h
       refine wx tbk [(1, rp [fu 37, (.tmp 124, (Qbe p0))] (Qov x60)), (3, rp [fu 45, (.tmp 126, (Qbh p1))] (Qou x62)), (5, rp [fu 37, (.tmp 128, (Qdn y2))] (Qot x64)), (8, rp [fu 37, (.tmp 131, (Qd6 y4))] (Qos x66)), (9, rp [fu 53, (.tmp 125, (Qov x60)), (.tmp 127, (Qou x62)), (.tmp 129, (Qot x64)), (.tmp 130, I y3), (.tmp 132, (Qos x66))] (B x68)), (11, rp [(.tmp 133, B x68), (.tmp 134, B false)] (B ((x68 == false)))), (12, rp [(.tmp 135, (B ((x68 == false))))] (B false))] ⟨apc (first := []) (cap := []) (vs := [(Qbe p0)]) rfl Qdr (Qa3 N p0 _ hf59) rfl rfl (nlc (nld Qaa _) nl0) (nld Qaa _) rfl, apc (first := []) (cap := []) (vs := [(Qbh p1)]) rfl Qj6 (Qdj N p1 _ hf61) rfl rfl (nlc (nld Qab _) nl0) (nld Qab _) rfl, apc (first := []) (cap := []) (vs := [(Qdn y2)]) rfl Qdr (Qa3 N y2 _ hf63) rfl rfl (nlc (nld Qaa _) nl0) (nld Qaa _) rfl, apc (first := []) (cap := []) (vs := [(Qd6 y4)]) rfl Qdr (Qa3 N y4 _ hf65) rfl rfl (nlc (nld Qaa _) nl0) (nld Qaa _) rfl, apc (first := []) (cap := []) (vs := [(Qov x60), (Qou x62), (Qot x64), I y3, (Qos x66)]) rfl Qkt (Qch N x60 x62 x64 y3 x66 _ hf67) rfl rfl (nlc (nld Qaa _) (nlc (nld Qab _) (nlc (nld Qaa _) (nlc nll (nlc (nld Qaa _) nl0))))) nll rfl, Qhi rfl Try.underlying4, asb hb69 (amv rfl), trivial⟩ ?_
       refine Qaf ?_
       obtain rfl := osi h
       exact fend ⟨[B false], ⟨rot (by kernel_rfl), trivial⟩, rfl⟩ nll
    ·replace h := Qax hb8 h
     refine wx tbk [(2, rp [fu 47, (.tmp 95, (Qbe p0)), (.tmp 96, (Qbh p1))] (B x7)), (3, rp [(.tmp 97, B x7)] (B false))] ⟨apc (first := []) (cap := []) (vs := [(Qbe p0), (Qbh p1)]) rfl Qq7 (Qe2 N p0 p1 _ hf6) rfl rfl (nlc (nld Qaa _) (nlc (nld Qab _) nl0)) nll rfl, asb hb8 (amv rfl), trivial⟩ ?_
     obtain ⟨x73, hf72, h⟩ := bno h
     obtain ⟨x75, hf74, h⟩ := bno h
     obtain ⟨x77, hf76, h⟩ := bno h
     obtain ⟨x79, hf78, h⟩ := bno h
     obtain ⟨x81, hf80, h⟩ := bno h
     rcases bft ((x81 == false)) with hb82 | hb82
     ·replace h := Qaw hb82 h
      obtain ⟨x84, hf83, h⟩ := bno h
      refine wx tbk [(1, rp [fu 37, (.tmp 124, (Qbe p0))] (Qor x73)), (3, rp [fu 45, (.tmp 126, (Qbh p1))] (Qoq x75)), (5, rp [fu 37, (.tmp 128, (Qdn y2))] (Qop x77)), (8, rp [fu 37, (.tmp 131, (Qd6 y4))] (Qoo x79)), (9, rp [fu 53, (.tmp 125, (Qor x73)), (.tmp 127, (Qoq x75)), (.tmp 129, (Qop x77)), (.tmp 130, I y3), (.tmp 132, (Qoo x79))] (B x81)), (11, rp [(.tmp 133, B x81), (.tmp 134, B false)] (B ((x81 == false)))), (12, rp [(.tmp 135, (B ((x81 == false))))] (B true)), (13, rp [(.tmp 136, B true), fu 17] (B x84))] ⟨apc (first := []) (cap := []) (vs := [(Qbe p0)]) rfl Qdr (Qa3 N p0 _ hf72) rfl rfl (nlc (nld Qaa _) nl0) (nld Qaa _) rfl, apc (first := []) (cap := []) (vs := [(Qbh p1)]) rfl Qj6 (Qdj N p1 _ hf74) rfl rfl (nlc (nld Qab _) nl0) (nld Qab _) rfl, apc (first := []) (cap := []) (vs := [(Qdn y2)]) rfl Qdr (Qa3 N y2 _ hf76) rfl rfl (nlc (nld Qaa _) nl0) (nld Qaa _) rfl, apc (first := []) (cap := []) (vs := [(Qd6 y4)]) rfl Qdr (Qa3 N y4 _ hf78) rfl rfl (nlc (nld Qaa _) nl0) (nld Qaa _) rfl, apc (first := []) (cap := []) (vs := [(Qor x73), (Qoq x75), (Qop x77), I y3, (Qoo x79)]) rfl Qkt (Qch N x73 x75 x77 y3 x79 _ hf80) rfl rfl (nlc (nld Qaa _) (nlc (nld Qab _) (nlc (nld Qaa _) (nlc nll (nlc (nld Qaa _) nl0))))) nll rfl, Qhi rfl Try.underlying4, asb hb82 (amv rfl), ag_ (apc (first := []) (cap := []) (vs := []) rfl Qmj (Qeu 2000  _ hf83) rfl rfl nl0 nll rfl), trivial⟩ ?_
      refine Qaf ?_
      obtain rfl := osi h
      exact fend ⟨[B x84], ⟨rot (by kernel_rfl), trivial⟩, rfl⟩ nll
     ·replace h := Qax hb82 h
      refine wx tbk [(1, rp [fu 37, (.tmp 124, (Qbe p0))] (Qor x73)), (3, rp [fu 45, (.tmp 126, (Qbh p1))] (Qoq x75)), (5, rp [fu 37, (.tmp 128, (Qdn y2))] (Qop x77)), (8, rp [fu 37, (.tmp 131, (Qd6 y4))] (Qoo x79)), (9, rp [fu 53, (.tmp 125, (Qor x73)), (.tmp 127, (Qoq x75)), (.tmp 129, (Qop x77)), (.tmp 130, I y3), (.tmp 132, (Qoo x79))] (B x81)), (11, rp [(.tmp 133, B x81), (.tmp 134, B false)] (B ((x81 == false)))), (12, rp [(.tmp 135, (B ((x81 == false))))] (B false))] ⟨apc (first := []) (cap := []) (vs := [(Qbe p0)]) rfl Qdr (Qa3 N p0 _ hf72) rfl rfl (nlc (nld Qaa _) nl0) (nld Qaa _) rfl, apc (first := []) (cap := []) (vs := [(Qbh p1)]) rfl Qj6 (Qdj N p1 _ hf74) rfl rfl (nlc (nld Qab _) nl0) (nld Qab _) rfl, apc (first := []) (cap := []) (vs := [(Qdn y2)]) rfl Qdr (Qa3 N y2 _ hf76) rfl rfl (nlc (nld Qaa _) nl0) (nld Qaa _) rfl, apc (first := []) (cap := []) (vs := [(Qd6 y4)]) rfl Qdr (Qa3 N y4 _ hf78) rfl rfl (nlc (nld Qaa _) nl0) (nld Qaa _) rfl, apc (first := []) (cap := []) (vs := [(Qor x73), (Qoq x75), (Qop x77), I y3, (Qoo x79)]) rfl Qkt (Qch N x73 x75 x77 y3 x79 _ hf80) rfl rfl (nlc (nld Qaa _) (nlc (nld Qab _) (nlc (nld Qaa _) (nlc nll (nlc (nld Qaa _) nl0))))) nll rfl, Qhi rfl Try.underlying4, asb hb82 (amv rfl), trivial⟩ ?_
      refine Qaf ?_
      obtain rfl := osi h
      exact fend ⟨[B false], ⟨rot (by kernel_rfl), trivial⟩, rfl⟩ nll
   ·skip
    refine wx tbk [] trivial ?_
    rcases bft (p5) with hc85 | hc85
    ·replace h := Qaw hc85 h
     refine wft hc85 (by kernel_rfl) ?_
     obtain ⟨x87, hf86, h⟩ := bno h
     obtain ⟨x89, hf88, h⟩ := bno h
     obtain ⟨x91, hf90, h⟩ := bno h
     refine wx tbk [(1, rp [fu 37, (.tmp 39, (Qbe p0))] (.dat 1 ((x87 : List Int).map Qac))), (3, rp [fu 45, (.tmp 41, (Qbh p1))] (Qwz x89)), (4, rp [fu 44, (.tmp 40, (.dat 1 ((x87 : List Int).map Qac))), (.tmp 42, (Qwz x89))] (.tup [(.dat 1 ((x91.1 : List Int).map Qac)), I x91.2.1, (.dat 1 ((x91.2.2.1 : List Int).map Qac)), I x91.2.2.2]))] ⟨apc (first := []) (cap := []) (vs := [(Qbe p0)]) rfl Qdr (Qa3 N p0 _ hf86) rfl rfl (nlc (nld Qaa _) nl0) (nld Qaa _) rfl, apc (first := []) (cap := []) (vs := [(Qbh p1)]) rfl Qj6 (Qdj N p1 _ hf88) rfl rfl (nlc (nld Qab _) nl0) (nld Qab _) rfl, apc (first := []) (cap := []) (vs := [(.dat 1 ((x87 : List Int).map Qac)), (Qwz x89)]) rfl enter44 (Qme N x87 x89 _ hf90) rfl rfl (nlc (nld Qaa _) (nlc (nld Qab _) nl0)) (NLt.tup _ (nlc (nld Qaa _) (nlc nll (nlc (nld Qaa _) (nlc nll nl0))))) rfl, trivial⟩ ?_
     refine wx tbk [] trivial ?_
     rcases bft ((x91.2.2.2 == 0)) with hc92 | hc92
     ·replace h := Qaw hc92 h
      refine wft hc92 (by kernel_rfl) ?_
      obtain ⟨x94, hf93, h⟩ := bno h
      obtain ⟨x96, hf95, h⟩ := bno h
      refine wx tbk [(1, ⟨[fu 37, (.tmp 50, (.dat 1 ((x91.1 : List Int).map Qac)))], [(0, .unused)], (.gro 0 3 1 (x94.length)), [(0, (Qs0 x94))], false⟩), (4, ⟨[fu 37, (.tmp 53, (.dat 1 ((x91.2.2.1 : List Int).map Qac)))], [(1, .unused)], (.gro 1 3 1 (x96.length)), [(1, (Qqb x96))], false⟩)] ⟨Qan (first := []) (cap := []) (vs := [(.dat 1 ((x91.1 : List Int).map Qac))]) (σr := []) (σr' := [(Qs0 x94)]) (res' := (.gro 0 3 1 (x94.length))) [0] rfl Qdr (Qln N x91.1 _ hf93) rfl (Qb4 (rnc (.plain _ (nld Qaa _)) rn0)) Qam (slc (Qyl Qaa) Qam) (rnj_gro rfl) rfl rfl rfl, Qan (first := []) (cap := []) (vs := [(.dat 1 ((x91.2.2.1 : List Int).map Qac))]) (σr := []) (σr' := [(Qqb x96)]) (res' := (.gro 1 3 1 (x96.length))) [1] rfl Qdr (Qln N x91.2.2.1 _ hf95) rfl (Qb4 (rnc (.plain _ (nld Qaa _)) rn0)) Qam (slc (Qyl Qaa) Qam) (rnj_gro rfl) rfl rfl rfl, trivial⟩ ?_
      obtain ⟨x98, hf97, h⟩ := bno h
      refine wx tbk [(1, rp [fu 25, (.tmp 55, I p7), ci (-1000000), ci 1000000] (B x98))] ⟨apc (first := []) (cap := []) (vs := [I p7, (I ((-1000000))), I 1000000]) rfl Qif (Qdw N p7 (-1000000) 1000000 _ hf97) rfl rfl (nlc nll (nlc nll (nlc nll nl0))) nll rfl, trivial⟩ ?_
      rcases bft (x98) with hc99 | hc99
      ·replace h := Qaw hc99 h
       refine wft hc99 (by kernel_rfl) ?_
       obtain ⟨k103, hk_k103, h⟩ := jko h
       refine wjn (τ := Bool × (List Int) × (List Int)) (fun t => k103 t = some r) (fun ⟨y100, y101, y102⟩ => ⟨mk 139 [(0, (Qbe p0)), (1, (Qbh p1)), (2, (.gro 0 3 1 (y101.length))), (3, I x91.2.1), (4, (.gro 1 3 1 (y102.length))), (6, I p6), (7, I p7), (64, B y100)], [(Qqa y101), (Qkn y102)]⟩) (fun t h => ?_) ?_
       ·subst hk_k103
        obtain ⟨y100, y101, y102⟩ := t
        rcases bft (y100) with hc104 | hc104
        ·replace h := Qaw hc104 h
         refine wft hc104 (by kernel_rfl) ?_
         obtain ⟨hz105, h⟩ := cko h
         obtain ⟨hi106, h⟩ := cko h
         obtain ⟨hi106a, hi106b⟩ := Qbc hi106
         obtain ⟨x107, hg108, h⟩ := bno h
         obtain ⟨hi109, h⟩ := cko h
         obtain ⟨hi109a, hi109b⟩ := Qbc hi109
         obtain ⟨x110, hg111, h⟩ := bno h
         refine wx1 tbk [(2, rb [(.tmp 65, (.gro 0 3 1 (y101.length))), (.tmp 66, I p6)] [(0, (Qqa y101))] (.ref 0 1 (p6.toNat) 0)), (3, rb [(.tmp 67, (.ref 0 1 (p6.toNat) 0))] [(0, (Qqa y101))] (I x107)), (6, rb [(.tmp 65, (.gro 0 3 1 (y101.length))), (.tmp 66, I p6)] [(0, (Qqa y101))] (.ref 0 1 (p6.toNat) 0)), (7, ⟨[(.tmp 71, (.ref 0 1 (p6.toNat) 0)), (.tmp 70, (I (w64 (x107 + p7))))], [(0, (Qqa y101))], .any, [(0, (.own 1 ((y101.set p6.toNat (w64 (x107 + p7)) : List Int).map Qac)))], false⟩)] ⟨Qgk (bl' := [(0, (Qsz y101))]) ⟨rfl, SLess.gro (Qeh hz105), trivial⟩ (awk (rd' := [(.tmp 65, (.own 0 1 (0) (y101.length))), (.tmp 66, I p6)]) ⟨rfl, Less.gro, rfl, lrf, trivial⟩ (aio rfl Try.underlying37 ti3 (odt hi106a) (odt hi106b) (Nat.zero_add _))), Qgk (bl' := [(0, (Qsz y101))]) ⟨rfl, SLess.gro (Qeh hz105), trivial⟩ (ald rfl ti3 (by decide) (mgt Qac hg108) (nle rfl) rfl), Qgk (bl' := [(0, (Qsz y101))]) ⟨rfl, SLess.gro (Qeh hz105), trivial⟩ (awk (rd' := [(.tmp 65, (.own 0 1 (0) (y101.length))), (.tmp 66, I p6)]) ⟨rfl, Less.gro, rfl, lrf, trivial⟩ (aio rfl Try.underlying37 ti3 (odt hi109a) (odt hi109b) (Nat.zero_add _))), Qgk (bl' := [(0, (Qsz y101))]) ⟨rfl, SLess.gro (Qeh hz105), trivial⟩ (ast rfl ti3 (by rfl) (mgt Qac hg111) (nle rfl) (Qgh Qac rfl)), trivial⟩ ?_
         refine thn ?_
         obtain ⟨hz112, h⟩ := cko h
         exact ⟨((y101.set p6.toNat (w64 (x107 + p7))).take y101.length, x91.2.1, y102), h, (Mor.trans (Qyx (n := 139) (l' := [(0, (Qbe p0)), (1, (Qbh p1)), (2, (.own 0 1 (0) (y101.length))), (3, I x91.2.1), (4, (.gro 1 3 1 (y102.length)))]) [(0, (Qbe p0)), (1, (Qbh p1)), (2, (.gro 0 3 1 (y101.length))), (3, I x91.2.1), (4, (.gro 1 3 1 (y102.length)))] (by kernel_rfl) (by kernel_rfl) ⟨rfl, lrf, rfl, lrf, rfl, Less.gro, rfl, lrf, rfl, lrf, trivial⟩) (Mor.trans (Qvh (n := 139) (m := 1) (xs := (y101.set p6.toNat (w64 (x107 + p7)) : List Int).map Qac) (l' := [(0, (Qbe p0)), (1, (Qbh p1)), (2, (Qsy y101 p6 x107 p7)), (3, I x91.2.1), (4, (.gro 1 3 1 (y102.length)))]) (own' := [.dead, (Qkn y102)]) 0 [(0, (Qbe p0)), (1, (Qbh p1)), (2, (.own 0 1 (0) (y101.length))), (3, I x91.2.1), (4, (.gro 1 3 1 (y102.length)))] (by kernel_rfl) (by kernel_rfl) (by kernel_rfl) ⟨rfl, .same _, rfl, .same _, rfl, (Qpi hz112), rfl, .same _, rfl, .same _, trivial⟩ (by kernel_rfl)) (Mor.trans (Qjg (n := 139) (m := 1) (xs := (y102 : List Int).map Qac) (l' := [(0, (Qbe p0)), (1, (Qbh p1)), (2, (Qsy y101 p6 x107 p7)), (3, I x91.2.1), (4, (Qkm y102))]) (own' := [.dead, .dead]) 1 [(0, (Qbe p0)), (1, (Qbh p1)), (2, (Qsy y101 p6 x107 p7)), (3, I x91.2.1), (4, (.gro 1 3 1 (y102.length)))] (by kernel_rfl) (by kernel_rfl) (by kernel_rfl) ⟨rfl, .same _, rfl, .same _, rfl, .same _, rfl, .same _, rfl, (.gro _ _ (Qjh).symm), trivial⟩ (by kernel_rfl)) (mto (n := 139) [(0, (Qbe p0)), (1, (Qbh p1)), (2, (Qsy y101 p6 x107 p7)), (3, I x91.2.1), (4, (Qkm y102))] [] [] hφ0 (pc (.rn (.plain _ (nld Qaa _))) (pc (.rn (.plain _ (nld Qab _))) (pc (.rn (.plain _ (nld Qaa _))) (pc rwl (pc (.rn (.plain _ (nld Qaa _))) pn))))) qn))))⟩
        ·replace h := Qax hc104 h
         refine wfn hc104 (by kernel_rfl) ?_
         rcases bft ((decide ((w64 (p6 - 20)) ≥ 0))) with hb113 | hb113
         ·replace h := Qaw hb113 h
          refine wx tbk [(3, rp [(.tmp 74, (B ((decide ((w64 (p6 - 20)) ≥ 0)))))] (B true)), (7, rp [(.tmp 75, B true), (.tmp 78, (.gro 1 3 1 (y102.length)))] (I (((y102.length : Nat) : Int))))] ⟨asb hb113 (amv rfl), ag_ (aln rfl Try.underlying37 rfl), trivial⟩ ?_
          rcases bft ((decide ((w64 (p6 - 20)) < ((y102.length : Nat) : Int)))) with hc114 | hc114
          ·replace h := Qaw hc114 h
           refine wft hc114 (by kernel_rfl) ?_
           obtain ⟨hz115, h⟩ := cko h
           obtain ⟨hi116, h⟩ := cko h
           obtain ⟨hi116a, hi116b⟩ := Qbc hi116
           obtain ⟨x117, hg118, h⟩ := bno h
           obtain ⟨hi119, h⟩ := cko h
           obtain ⟨hi119a, hi119b⟩ := Qbc hi119
           obtain ⟨x120, hg121, h⟩ := bno h
           refine wx1 tbk [(3, rb [(.tmp 82, (.gro 1 3 1 (y102.length))), (.tmp 84, (I (w64 (p6 - 20))))] [(1, (Qkn y102))] (.ref 1 1 ((w64 (p6 - 20)).toNat) 0)), (4, rb [(.tmp 85, (.ref 1 1 ((w64 (p6 - 20)).toNat) 0))] [(1, (Qkn y102))] (I x117)), (7, rb [(.tmp 82, (.gro 1 3 1 (y102.length))), (.tmp 84, (I (w64 (p6 - 20))))] [(1, (Qkn y102))] (.ref 1 1 ((w64 (p6 - 20)).toNat) 0)), (8, ⟨[(.tmp 89, (.ref 1 1 ((w64 (p6 - 20)).toNat) 0)), (.tmp 88, (I (w64 (x117 + p7))))], [(1, (Qkn y102))], .any, [(1, (.own 1 ((y102.set ((w64 (p6 - 20)).toNat) (w64 (x117 + p7)) : List Int).map Qac)))], false⟩)] ⟨Qgk (bl' := [(1, (Qsx y102))]) ⟨rfl, SLess.gro (Qeh hz115), trivial⟩ (awk (rd' := [(.tmp 82, (.own 1 1 (0) (y102.length))), (.tmp 84, (I (w64 (p6 - 20))))]) ⟨rfl, Less.gro, rfl, lrf, trivial⟩ (aio rfl Try.underlying37 ti3 (odt hi116a) (odt hi116b) (Nat.zero_add _))), Qgk (bl' := [(1, (Qsx y102))]) ⟨rfl, SLess.gro (Qeh hz115), trivial⟩ (ald rfl ti3 (by decide) (mgt Qac hg118) (nle rfl) rfl), Qgk (bl' := [(1, (Qsx y102))]) ⟨rfl, SLess.gro (Qeh hz115), trivial⟩ (awk (rd' := [(.tmp 82, (.own 1 1 (0) (y102.length))), (.tmp 84, (I (w64 (p6 - 20))))]) ⟨rfl, Less.gro, rfl, lrf, trivial⟩ (aio rfl Try.underlying37 ti3 (odt hi119a) (odt hi119b) (Nat.zero_add _))), Qgk (bl' := [(1, (Qsx y102))]) ⟨rfl, SLess.gro (Qeh hz115), trivial⟩ (ast rfl ti3 (by rfl) (mgt Qac hg121) (nle rfl) (Qgh Qac rfl)), trivial⟩ ?_
           refine thn ?_
           obtain ⟨hz122, h⟩ := cko h
           exact ⟨(y101, x91.2.1, (y102.set ((w64 (p6 - 20)).toNat) (w64 (x117 + p7))).take y102.length), h, (Mor.trans (Qjg (n := 139) (m := 1) (xs := (y101 : List Int).map Qac) (l' := [(0, (Qbe p0)), (1, (Qbh p1)), (2, (Qfr y101)), (3, I x91.2.1), (4, (.gro 1 3 1 (y102.length)))]) (own' := [.dead, (.own 1 ((y102.set ((w64 (p6 - 20)).toNat) (w64 (x117 + p7)) : List Int).map Qac))]) 0 [(0, (Qbe p0)), (1, (Qbh p1)), (2, (.gro 0 3 1 (y101.length))), (3, I x91.2.1), (4, (.gro 1 3 1 (y102.length)))] (by kernel_rfl) (by kernel_rfl) (by kernel_rfl) ⟨rfl, .same _, rfl, .same _, rfl, (.gro _ _ (Qjh).symm), rfl, .same _, rfl, .same _, trivial⟩ (by kernel_rfl)) (Mor.trans (Qyx (n := 139) (l' := [(0, (Qbe p0)), (1, (Qbh p1)), (2, (Qfr y101)), (3, I x91.2.1), (4, (.own 1 1 (0) (y102.length)))]) [(0, (Qbe p0)), (1, (Qbh p1)), (2, (Qfr y101)), (3, I x91.2.1), (4, (.gro 1 3 1 (y102.length)))] (by kernel_rfl) (by kernel_rfl) ⟨rfl, lrf, rfl, lrf, rfl, lrf, rfl, lrf, rfl, Less.gro, trivial⟩) (Mor.trans (Qvh (n := 139) (m := 1) (xs := (y102.set ((w64 (p6 - 20)).toNat) (w64 (x117 + p7)) : List Int).map Qac) (l' := [(0, (Qbe p0)), (1, (Qbh p1)), (2, (Qfr y101)), (3, I x91.2.1), (4, (.dat 1 (((y102.set ((w64 (p6 - 20)).toNat) (w64 (x117 + p7))).take y102.length : List Int).map Qac)))]) (own' := [.dead, .dead]) 1 [(0, (Qbe p0)), (1, (Qbh p1)), (2, (Qfr y101)), (3, I x91.2.1), (4, (.own 1 1 (0) (y102.length)))] (by kernel_rfl) (by kernel_rfl) (by kernel_rfl) ⟨rfl, .same _, rfl, .same _, rfl, .same _, rfl, .same _, rfl, (Qpi hz122), trivial⟩ (by kernel_rfl)) (mto (n := 139) [(0, (Qbe p0)), (1, (Qbh p1)), (2, (Qfr y101)), (3, I x91.2.1), (4, (.dat 1 (((y102.set ((w64 (p6 - 20)).toNat) (w64 (x117 + p7))).take y102.length : List Int).map Qac)))] [] [] hφ0 (pc (.rn (.plain _ (nld Qaa _))) (pc (.rn (.plain _ (nld Qab _))) (pc (.rn (.plain _ (nld Qaa _))) (pc rwl (pc (.rn (.plain _ (nld Qaa _))) pn))))) qn))))⟩
          ·replace h := Qax hc114 h
           refine wfn hc114 (by kernel_rfl) ?_
           refine wx tbk [] trivial ?_
           rcases bft ((p6 == 40)) with hc123 | hc123
           ·replace h := Qaw hc123 h
            refine wft hc123 (by kernel_rfl) ?_
            refine wx1 tbk [] trivial ?_
            refine thn ?_
            exact ⟨(y101, w64 (x91.2.1 + p7), y102), h, (Mor.trans (Qjg (n := 139) (m := 1) (xs := (y101 : List Int).map Qac) (l' := [(0, (Qbe p0)), (1, (Qbh p1)), (2, (Qfr y101)), (3, (I (w64 (x91.2.1 + p7)))), (4, (.gro 1 3 1 (y102.length)))]) (own' := [.dead, (Qkn y102)]) 0 [(0, (Qbe p0)), (1, (Qbh p1)), (2, (.gro 0 3 1 (y101.length))), (3, (I (w64 (x91.2.1 + p7)))), (4, (.gro 1 3 1 (y102.length)))] (by kernel_rfl) (by kernel_rfl) (by kernel_rfl) ⟨rfl, .same _, rfl, .same _, rfl, (.gro _ _ (Qjh).symm), rfl, .same _, rfl, .same _, trivial⟩ (by kernel_rfl)) (Mor.trans (Qjg (n := 139) (m := 1) (xs := (y102 : List Int).map Qac) (l' := [(0, (Qbe p0)), (1, (Qbh p1)), (2, (Qfr y101)), (3, (I (w64 (x91.2.1 + p7)))), (4, (Qkm y102))]) (own' := [.dead, .dead]) 1 [(0, (Qbe p0)), (1, (Qbh p1)), (2, (Qfr y101)), (3, (I (w64 (x91.2.1 + p7)))), (4, (.gro 1 3 1 (y102.length)))] (by kernel_rfl) (by kernel_rfl) (by kernel_rfl) ⟨rfl, .same _, rfl, .same _, rfl, .same _, rfl, .same _, rfl, (.gro _ _ (Qjh).symm), trivial⟩ (by kernel_rfl)) (mto (n := 139) [(0, (Qbe p0)), (1, (Qbh p1)), (2, (Qfr y101)), (3, (I (w64 (x91.2.1 + p7)))), (4, (Qkm y102))] [] [] hφ0 (pc (.rn (.plain _ (nld Qaa _))) (pc (.rn (.plain _ (nld Qab _))) (pc (.rn (.plain _ (nld Qaa _))) (pc rwl (pc (.rn (.plain _ (nld Qaa _))) pn))))) qn)))⟩
           ·replace h := Qax hc123 h
            refine wfn hc123 (by kernel_rfl) ?_
            refine Qak ?_
            refine thn ?_
            exact ⟨(y101, x91.2.1, y102), h, (Mor.trans (Qjg (n := 139) (m := 1) (xs := (y101 : List Int).map Qac) (l' := [(0, (Qbe p0)), (1, (Qbh p1)), (2, (Qfr y101)), (3, I x91.2.1), (4, (.gro 1 3 1 (y102.length)))]) (own' := [.dead, (Qkn y102)]) 0 [(0, (Qbe p0)), (1, (Qbh p1)), (2, (.gro 0 3 1 (y101.length))), (3, I x91.2.1), (4, (.gro 1 3 1 (y102.length)))] (by kernel_rfl) (by kernel_rfl) (by kernel_rfl) ⟨rfl, .same _, rfl, .same _, rfl, (.gro _ _ (Qjh).symm), rfl, .same _, rfl, .same _, trivial⟩ (by kernel_rfl)) (Mor.trans (Qjg (n := 139) (m := 1) (xs := (y102 : List Int).map Qac) (l' := [(0, (Qbe p0)), (1, (Qbh p1)), (2, (Qfr y101)), (3, I x91.2.1), (4, (Qkm y102))]) (own' := [.dead, .dead]) 1 [(0, (Qbe p0)), (1, (Qbh p1)), (2, (Qfr y101)), (3, I x91.2.1), (4, (.gro 1 3 1 (y102.length)))] (by kernel_rfl) (by kernel_rfl) (by kernel_rfl) ⟨rfl, .same _, rfl, .same _, rfl, .same _, rfl, .same _, rfl, (.gro _ _ (Qjh).symm), trivial⟩ (by kernel_rfl)) (mto (n := 139) [(0, (Qbe p0)), (1, (Qbh p1)), (2, (Qfr y101)), (3, I x91.2.1), (4, (Qkm y102))] [] [] hφ0 (pc (.rn (.plain _ (nld Qaa _))) (pc (.rn (.plain _ (nld Qab _))) (pc (.rn (.plain _ (nld Qaa _))) (pc rwl (pc (.rn (.plain _ (nld Qaa _))) pn))))) qn)))⟩
         ·replace h := Qax hb113 h
          refine wx tbk [(3, rp [(.tmp 74, (B ((decide ((w64 (p6 - 20)) ≥ 0)))))] (B false))] ⟨asb hb113 (amv rfl), trivial⟩ ?_
          refine Qg4 (by kernel_rfl) ?_
          refine wx tbk [] trivial ?_
          rcases bft ((p6 == 40)) with hc124 | hc124
          ·replace h := Qaw hc124 h
           refine wft hc124 (by kernel_rfl) ?_
           refine wx1 tbk [] trivial ?_
           refine thn ?_
           exact ⟨(y101, w64 (x91.2.1 + p7), y102), h, (Mor.trans (Qjg (n := 139) (m := 1) (xs := (y101 : List Int).map Qac) (l' := [(0, (Qbe p0)), (1, (Qbh p1)), (2, (Qfr y101)), (3, (I (w64 (x91.2.1 + p7)))), (4, (.gro 1 3 1 (y102.length)))]) (own' := [.dead, (Qkn y102)]) 0 [(0, (Qbe p0)), (1, (Qbh p1)), (2, (.gro 0 3 1 (y101.length))), (3, (I (w64 (x91.2.1 + p7)))), (4, (.gro 1 3 1 (y102.length)))] (by kernel_rfl) (by kernel_rfl) (by kernel_rfl) ⟨rfl, .same _, rfl, .same _, rfl, (.gro _ _ (Qjh).symm), rfl, .same _, rfl, .same _, trivial⟩ (by kernel_rfl)) (Mor.trans (Qjg (n := 139) (m := 1) (xs := (y102 : List Int).map Qac) (l' := [(0, (Qbe p0)), (1, (Qbh p1)), (2, (Qfr y101)), (3, (I (w64 (x91.2.1 + p7)))), (4, (Qkm y102))]) (own' := [.dead, .dead]) 1 [(0, (Qbe p0)), (1, (Qbh p1)), (2, (Qfr y101)), (3, (I (w64 (x91.2.1 + p7)))), (4, (.gro 1 3 1 (y102.length)))] (by kernel_rfl) (by kernel_rfl) (by kernel_rfl) ⟨rfl, .same _, rfl, .same _, rfl, .same _, rfl, .same _, rfl, (.gro _ _ (Qjh).symm), trivial⟩ (by kernel_rfl)) (mto (n := 139) [(0, (Qbe p0)), (1, (Qbh p1)), (2, (Qfr y101)), (3, (I (w64 (x91.2.1 + p7)))), (4, (Qkm y102))] [] [] hφ0 (pc (.rn (.plain _ (nld Qaa _))) (pc (.rn (.plain _ (nld Qab _))) (pc (.rn (.plain _ (nld Qaa _))) (pc rwl (pc (.rn (.plain _ (nld Qaa _))) pn))))) qn)))⟩
          ·replace h := Qax hc124 h
           refine wfn hc124 (by kernel_rfl) ?_
           refine Qak ?_
           refine thn ?_
           exact ⟨(y101, x91.2.1, y102), h, (Mor.trans (Qjg (n := 139) (m := 1) (xs := (y101 : List Int).map Qac) (l' := [(0, (Qbe p0)), (1, (Qbh p1)), (2, (Qfr y101)), (3, I x91.2.1), (4, (.gro 1 3 1 (y102.length)))]) (own' := [.dead, (Qkn y102)]) 0 [(0, (Qbe p0)), (1, (Qbh p1)), (2, (.gro 0 3 1 (y101.length))), (3, I x91.2.1), (4, (.gro 1 3 1 (y102.length)))] (by kernel_rfl) (by kernel_rfl) (by kernel_rfl) ⟨rfl, .same _, rfl, .same _, rfl, (.gro _ _ (Qjh).symm), rfl, .same _, rfl, .same _, trivial⟩ (by kernel_rfl)) (Mor.trans (Qjg (n := 139) (m := 1) (xs := (y102 : List Int).map Qac) (l' := [(0, (Qbe p0)), (1, (Qbh p1)), (2, (Qfr y101)), (3, I x91.2.1), (4, (Qkm y102))]) (own' := [.dead, .dead]) 1 [(0, (Qbe p0)), (1, (Qbh p1)), (2, (Qfr y101)), (3, I x91.2.1), (4, (.gro 1 3 1 (y102.length)))] (by kernel_rfl) (by kernel_rfl) (by kernel_rfl) ⟨rfl, .same _, rfl, .same _, rfl, .same _, rfl, .same _, rfl, (.gro _ _ (Qjh).symm), trivial⟩ (by kernel_rfl)) (mto (n := 139) [(0, (Qbe p0)), (1, (Qbh p1)), (2, (Qfr y101)), (3, I x91.2.1), (4, (Qkm y102))] [] [] hφ0 (pc (.rn (.plain _ (nld Qaa _))) (pc (.rn (.plain _ (nld Qab _))) (pc (.rn (.plain _ (nld Qaa _))) (pc rwl (pc (.rn (.plain _ (nld Qaa _))) pn))))) qn)))⟩
       ·skip
        rcases bft ((decide (p6 ≥ 0))) with hb125 | hb125
        ·replace h := Qaw hb125 h
         refine wx1 tbk [(2, rp [(.tmp 58, (B ((decide (p6 ≥ 0)))))] (B true)), (5, rp [(.tmp 59, B true), (.tmp 61, (.gro 0 3 1 (x94.length)))] (I (((x94.length : Nat) : Int))))] ⟨asb hb125 (amv rfl), ag_ (aln rfl Try.underlying37 rfl), trivial⟩ ?_
         refine thn ?_
         exact ⟨((decide (p6 < ((x94.length : Nat) : Int))), x94, x96), h, (mto (n := 139) [(0, (Qbe p0)), (1, (Qbh p1)), (2, (.gro 0 3 1 (x94.length))), (3, I x91.2.1), (4, (.gro 1 3 1 (x96.length))), (6, I p6), (7, I p7), (64, (B ((decide (p6 < ((x94.length : Nat) : Int))))))] [0, 1] [(Qs0 x94), (Qqb x96)] hφ0 (pc (.rn (.plain _ (nld Qaa _))) (pc (.rn (.plain _ (nld Qab _))) (pc (.rn (Qg0 rfl)) (pc rwl (pc (.rn (Qg0 rfl)) (pc rwl (pc rwl (pc rwl pn)))))))) (qc (Qfv Qaa) (qc (Qfv Qaa) qn)))⟩
        ·replace h := Qax hb125 h
         refine wx1 tbk [(2, rp [(.tmp 58, (B ((decide (p6 ≥ 0)))))] (B false))] ⟨asb hb125 (amv rfl), trivial⟩ ?_
         refine thn ?_
         exact ⟨(false, x94, x96), h, (mto (n := 139) [(0, (Qbe p0)), (1, (Qbh p1)), (2, (.gro 0 3 1 (x94.length))), (3, I x91.2.1), (4, (.gro 1 3 1 (x96.length))), (6, I p6), (7, I p7), (64, B false)] [0, 1] [(Qs0 x94), (Qqb x96)] hφ0 (pc (.rn (.plain _ (nld Qaa _))) (pc (.rn (.plain _ (nld Qab _))) (pc (.rn (Qg0 rfl)) (pc rwl (pc (.rn (Qg0 rfl)) (pc rwl (pc rwl (pc rwl pn)))))))) (qc (Qfv Qaa) (qc (Qfv Qaa) qn)))⟩
      ·replace h := Qax hc99 h
       refine wfn hc99 (by kernel_rfl) ?_
       refine Qak ?_
       refine thn ?_
       exact ⟨(x94, x91.2.1, x96), h, (Mor.trans (Qjg (n := 139) (m := 1) (xs := (x94 : List Int).map Qac) (l' := [(0, (Qbe p0)), (1, (Qbh p1)), (2, (Qsw x94)), (3, I x91.2.1), (4, (.gro 1 3 1 (x96.length)))]) (own' := [.dead, (Qqb x96)]) 0 [(0, (Qbe p0)), (1, (Qbh p1)), (2, (.gro 0 3 1 (x94.length))), (3, I x91.2.1), (4, (.gro 1 3 1 (x96.length)))] (by kernel_rfl) (by kernel_rfl) (by kernel_rfl) ⟨rfl, .same _, rfl, .same _, rfl, (.gro _ _ (Qjh).symm), rfl, .same _, rfl, .same _, trivial⟩ (by kernel_rfl)) (Mor.trans (Qjg (n := 139) (m := 1) (xs := (x96 : List Int).map Qac) (l' := [(0, (Qbe p0)), (1, (Qbh p1)), (2, (Qsw x94)), (3, I x91.2.1), (4, (.dat 1 ((x96 : List Int).map Qac)))]) (own' := [.dead, .dead]) 1 [(0, (Qbe p0)), (1, (Qbh p1)), (2, (Qsw x94)), (3, I x91.2.1), (4, (.gro 1 3 1 (x96.length)))] (by kernel_rfl) (by kernel_rfl) (by kernel_rfl) ⟨rfl, .same _, rfl, .same _, rfl, .same _, rfl, .same _, rfl, (.gro _ _ (Qjh).symm), trivial⟩ (by kernel_rfl)) (mto (n := 139) [(0, (Qbe p0)), (1, (Qbh p1)), (2, (Qsw x94)), (3, I x91.2.1), (4, (.dat 1 ((x96 : List Int).map Qac)))] [] [] hφ0 (pc (.rn (.plain _ (nld Qaa _))) (pc (.rn (.plain _ (nld Qab _))) (pc (.rn (.plain _ (nld Qaa _))) (pc rwl (pc (.rn (.plain _ (nld Qaa _))) pn))))) qn)))⟩
     ·replace h := Qax hc92 h
      refine wfn hc92 (by kernel_rfl) ?_
      refine Qak ?_
      refine thn ?_
      exact ⟨(p2, p3, p4), h, (mto (n := 139) [(0, (Qbe p0)), (1, (Qbh p1)), (2, (Qru p2)), (3, I p3), (4, (Qu0 p4))] [] [] hφ0 (pc (.rn (.plain _ (nld Qaa _))) (pc (.rn (.plain _ (nld Qab _))) (pc (.rn (.plain _ (nld Qaa _))) (pc rwl (pc (.rn (.plain _ (nld Qaa _))) pn))))) qn)⟩
    ·replace h := Qax hc85 h
     refine wfn hc85 (by kernel_rfl) ?_
     refine Qak ?_
     refine thn ?_
     exact ⟨(p2, p3, p4), h, (mto (n := 139) [(0, (Qbe p0)), (1, (Qbh p1)), (2, (Qru p2)), (3, I p3), (4, (Qu0 p4))] [] [] hφ0 (pc (.rn (.plain _ (nld Qaa _))) (pc (.rn (.plain _ (nld Qab _))) (pc (.rn (.plain _ (nld Qaa _))) (pc rwl (pc (.rn (.plain _ (nld Qaa _))) pn))))) qn)⟩
  ·skip
   obtain ⟨x127, hf126, h⟩ := bno h
   rcases bft ((!x127)) with hb128 | hb128
   ·replace h := Qaw hb128 h
    refine wx tbk [(2, rp [fu 43, (.tmp 22, (Qbe p0)), (.tmp 23, (Qbh p1))] (B x127)), (4, rp [(.tmp 25, (B ((!x127))))] (B true))] ⟨apc (first := []) (cap := []) (vs := [(Qbe p0), (Qbh p1)]) rfl Qxq (Qll N p0 p1 _ hf126) rfl rfl (nlc (nld Qaa _) (nlc (nld Qab _) nl0)) nll rfl, asb hb128 (amv rfl), trivial⟩ ?_
    refine Qhn (by kernel_rfl) ?_
    obtain ⟨x130, hf129, h⟩ := bno h
    refine wx tbk [(0, rp [fu 17] (B x130))] ⟨apc (first := []) (cap := []) (vs := []) rfl Qmj (Qeu 2000  _ hf129) rfl rfl nl0 nll rfl, trivial⟩ ?_
    refine Qaf ?_
    refine Qa4 ?_
    obtain rfl := osi h
    exact fend ⟨[B x130], ⟨rot (by kernel_rfl), trivial⟩, rfl⟩ nll
   ·replace h := Qax hb128 h
    rcases bft ((decide ((p2.length : Int) > 15))) with hb131 | hb131
    ·replace h := Qaw hb131 h
     refine wx tbk [(2, rp [fu 43, (.tmp 22, (Qbe p0)), (.tmp 23, (Qbh p1))] (B x127)), (4, rp [(.tmp 25, (B ((!x127))))] (B false)), (6, rp [(.tmp 26, B false), (.tmp 27, (Qru p2))] (I ((p2.length : Int)))), (9, rp [(.tmp 30, (B ((decide ((p2.length : Int) > 15)))))] (B true))] ⟨apc (first := []) (cap := []) (vs := [(Qbe p0), (Qbh p1)]) rfl Qxq (Qll N p0 p1 _ hf126) rfl rfl (nlc (nld Qaa _) (nlc (nld Qab _) nl0)) nll rfl, asb hb128 (amv rfl), ag_ (alm (c := Qac) (l := p2) (aln rfl Try.underlying37 rfl)), asb hb131 (amv rfl), trivial⟩ ?_
     refine Qhn (by kernel_rfl) ?_
     obtain ⟨x133, hf132, h⟩ := bno h
     refine wx tbk [(0, rp [fu 17] (B x133))] ⟨apc (first := []) (cap := []) (vs := []) rfl Qmj (Qeu 2000  _ hf132) rfl rfl nl0 nll rfl, trivial⟩ ?_
     refine Qaf ?_
     refine Qa4 ?_
     obtain rfl := osi h
     exact fend ⟨[B x133], ⟨rot (by kernel_rfl), trivial⟩, rfl⟩ nll
    ·replace h := Qax hb131 h
     refine wx tbk [(2, rp [fu 43, (.tmp 22, (Qbe p0)), (.tmp 23, (Qbh p1))] (B x127)), (4, rp [(.tmp 25, (B ((!x127))))] (B false)), (6, rp [(.tmp 26, B false), (.tmp 27, (Qru p2))] (I ((p2.length : Int)))), (9, rp [(.tmp 30, (B ((decide ((p2.length : Int) > 15)))))] (B false)), (11, rp [(.tmp 31, B false), (.tmp 32, (Qu0 p4))] (I ((p4.length : Int))))] ⟨apc (first := []) (cap := []) (vs := [(Qbe p0), (Qbh p1)]) rfl Qxq (Qll N p0 p1 _ hf126) rfl rfl (nlc (nld Qaa _) (nlc (nld Qab _) nl0)) nll rfl, asb hb128 (amv rfl), ag_ (alm (c := Qac) (l := p2) (aln rfl Try.underlying37 rfl)), asb hb131 (amv rfl), ag_ (alm (c := Qac) (l := p4) (aln rfl Try.underlying37 rfl)), trivial⟩ ?_
     rcases bft ((decide ((p4.length : Int) > 10))) with hc134 | hc134
     ·replace h := Qaw hc134 h
      refine wft hc134 (by kernel_rfl) ?_
      obtain ⟨x136, hf135, h⟩ := bno h
      refine wx tbk [(0, rp [fu 17] (B x136))] ⟨apc (first := []) (cap := []) (vs := []) rfl Qmj (Qeu 2000  _ hf135) rfl rfl nl0 nll rfl, trivial⟩ ?_
      refine Qaf ?_
      refine Qa4 ?_
      obtain rfl := osi h
      exact fend ⟨[B x136], ⟨rot (by kernel_rfl), trivial⟩, rfl⟩ nll
     ·replace h := Qax hc134 h
      refine wfn hc134 (by kernel_rfl) ?_
      refine Qak ?_
      refine thn ?_
      exact ⟨(), h, (mto (n := 139) [(0, (Qbe p0)), (1, (Qbh p1)), (2, (Qru p2)), (3, I p3), (4, (Qu0 p4)), (5, B p5), (6, I p6), (7, I p7)] [] [] hφ0 (pc (.rn (.plain _ (nld Qaa _))) (pc (.rn (.plain _ (nld Qab _))) (pc (.rn (.plain _ (nld Qaa _))) (pc rwl (pc (.rn (.plain _ (nld Qaa _))) (pc rwl (pc rwl (pc rwl pn)))))))) qn)⟩
end Go.Proofs.Ytlhakkkjgdbdpaa
