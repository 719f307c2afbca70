/-
  Functions of the program: what they compute, as plain functions, and that they do. No conditions.
-/
import Derived.Test.YtflmombnmnblnaaX4
namespace Go.Proofs.Ytflmombnmnblnaa
set_option maxRecDepth 100000
set_option maxHeartbeats 4000000
open Go.RowKit
def Qcq (N : Nat) (p1 : (List Int)) (y2 : (List Int)) (y17 : (List Int)) (x23 : ((List Int) × Int)) (k26 : Unit → Option Bool) : Nat → (List Int) → Int → Option Bool
  | 0, _, _ => none
  | n36 + 1, y32, y33 =>
    bif (decide (y33 < (y32.length : Int))) then
     chk (decide (0 ≤ y33) && decide (y33.toNat < (y2.length : Int).toNat)) <|
     (y17[y33.toNat]?).bind fun x39 =>
     (getI x23.1 y33).bind fun x41 =>
     bif (decide ((w64 (x39 - x41)) > (w64 ((p1.length : Int) + 1)))) then
      some false
     else
      bif (decide ((w64 (x39 - x41)) < (w64 ((w64 (0 - (p1.length : Int))) - 1)))) then
       some false
      else
       Qcq N p1 y2 y17 x23 k26 n36 y32 (w64 (y33 + 1))
    else
     k26 ()
def Qcp (N : Nat) (y2 : (List Int)) (x78 : ((List Int) × Int)) (k84 : (List Int) × Int × (List Int) → Option Bool) : Nat → (List Int) → Int → Int → (List Int) → Option Bool
  | 0, _, _, _, _ => none
  | n94 + 1, y86, y87, y88, y89 =>
    bif (decide (y88 < (y86.length : Int))) then
     chk (decide (0 ≤ y88) && decide (y88.toNat < (y2.length : Int).toNat)) <|
     (y89[y88.toNat]?).bind fun x97 =>
     (getI x78.1 y88).bind fun x99 =>
     chk (decide (0 ≤ y88) && decide (y88.toNat < (y2.length : Int).toNat)) <|
     (y89[y88.toNat]?).bind fun _ =>
     Qcp N y2 x78 k84 n94 y86 (w64 (y87 + x99)) (w64 (y88 + 1)) (y89.set y88.toNat (w64 (x97 + x99)))
    else
     k84 (y86, y87, y89)
def Qb6 (N : Nat) (p1 : (List Int)) (y2 : (List Int)) (x12 : (List GBracket)) (k18 : (List Int) × Int × Int × (List Int) → Option Bool) : Nat → (List Int) → Int → Int → Int → (List Int) → Option Bool
  | 0, _, _, _, _, _ => none
  | n61 + 1, y51, y52, y53, y54, y55 =>
    bif (decide (y54 < (p1.length : Int))) then
     Qcg (fun ⟨y63, y64, y65, y66⟩ =>
       Qb6 N p1 y2 x12 k18 n61 y63 y64 y65 (w64 (y54 + 1)) y66) fun k67 : (List Int) × Int × Int × (List Int) → Option Bool =>
     (getI p1 y54).bind fun x68 =>
     (Qgh N x12 y52 (w64 x68)).bind fun x73 =>
     Qcg (fun y74 =>
       chk (decide ((([] : List Int).length + y74.length) * 8 ≤ 140737488355328)) <|
       (Qen N x73.1 (([] : List Int) ++ y74)).bind fun x78 =>
       Qcg (fun y79 =>
         Qcg (fun ⟨y81, y82, y83⟩ =>
           bif (y82 != x73.1) then
            some false
           else
            k67 (y81, w64 (y52 + (w64 x68)), w64 (y53 + x73.1), y83)) fun k84 : (List Int) × Int × (List Int) → Option Bool =>
         Qcp N y2 x78 k84 N y79 0 0 y55) fun k80 : (List Int) → Option Bool =>
       bif (x78.2 != 0) then
        some false
       else
        bif ((x78.1.length : Int) != (y74.length : Int)) then
         some false
        else
         k80 (y74)) fun k75 : (List Int) → Option Bool =>
     bif (x73.2 != 0) then
      some false
     else
      bif (decide (x73.1 < 0)) then
       some false
      else
       k75 (y51)
    else
     k18 (y51, y52, y53, y55)
def Qco (N : Nat) (p2 : (List Int)) (k4 : (List Int) × Int → Option Bool) : Nat → (List Int) → Int → Int → Option Bool
  | 0, _, _, _ => none
  | n116 + 1, y110, y111, y112 =>
    bif (decide (y112 < (p2.length : Int))) then
     (getI p2 y112).bind fun x118 =>
     chk (decide ((y110.length + ([w64 (x118 / 16)]).length) * 8 ≤ 140737488355328)) <|
     (some (w64 (y111 + (w64 (x118 / 16))))).bind fun x123 =>
     Qco N p2 k4 n116 (y110 ++ ([w64 (x118 / 16)])) x123 (w64 (y112 + 1))
    else
     k4 (y110, y111)
def Qfm (N : Nat) (p0 : (List GBracket)) (p1 : (List Int)) (p2 : (List Int)) : Option Bool :=
  Qcg (fun _ =>
    Qcg (fun ⟨y2, y3⟩ =>
      bif (y3 == 0) then
       (Qd9 2000 ).bind fun x7 =>
       bif x7 then
        (Qd8 2000 ).bind fun x10 =>
        some x10
       else
        some false
      else
       (Qex N p0).bind fun x12 =>
       chk (decide (0 ≤ (y2.length : Int)) && decide (8 * (y2.length : Int) ≤ 281474976710656) && decide ((y2.length : Int) ≤ 9223372036854775807)) <|
       Qcg (fun ⟨y14, y15, y16, y17⟩ =>
         (Qe9 N x12 y15).bind fun x20 =>
         chk (decide ((([] : List Int).length + y14.length) * 8 ≤ 140737488355328)) <|
         (Qen N x20.1 (([] : List Int) ++ y14)).bind fun x23 =>
         Qcg (fun y24 =>
           Qcg (fun _ =>
             (Qd9 2000 ).bind fun x28 =>
             bif x28 then
              (Qd8 2000 ).bind fun x31 =>
              some x31
             else
              some false) fun k26 : Unit → Option Bool =>
           Qcq N p1 y2 y17 x23 k26 N y24 0) fun k25 : (List Int) → Option Bool =>
         bif (x20.2 != 0) then
          some false
         else
          bif (x23.2 != 0) then
           some false
          else
           bif (x20.1 != y16) then
            some false
           else
            bif ((x23.1.length : Int) != (y14.length : Int)) then
             some false
            else
             k25 (y14)) fun k18 : (List Int) × Int × Int × (List Int) → Option Bool =>
       Qb6 N p1 y2 x12 k18 N y2 0 0 0 (List.replicate (y2.length : Int).toNat 0)) fun k4 : (List Int) × Int → Option Bool =>
    Qco N p2 k4 N ([]) 0 0) fun k1 : Unit → Option Bool =>
  bif (decide ((p0.length : Int) > 10)) then
   (Qd9 2000 ).bind fun x127 =>
   bif x127 then
    (Qd8 2000 ).bind fun x130 =>
    some x130
   else
    some false
  else
   (Qet N p0).bind fun x132 =>
   bif (!x132) then
    (Qd9 2000 ).bind fun x135 =>
    bif x135 then
     (Qd8 2000 ).bind fun x138 =>
     some x138
    else
     some false
   else
    bif (decide ((p1.length : Int) > 12)) then
     (Qd9 2000 ).bind fun x141 =>
     bif x141 then
      (Qd8 2000 ).bind fun x144 =>
      some x144
     else
      some false
    else
     bif (decide ((p2.length : Int) < 1)) then
      (Qd9 2000 ).bind fun x147 =>
      bif x147 then
       (Qd8 2000 ).bind fun x150 =>
       some x150
      else
       some false
     else
      bif (decide ((p2.length : Int) > 8)) then
       (Qd9 2000 ).bind fun x153 =>
       bif x153 then
        (Qd8 2000 ).bind fun x156 =>
        some x156
       else
        some false
      else
       k1 ()
def Qfs (p0 : (List GBracket)) : AV := .dat 2 ((p0 : List GBracket).map Qad)
def Qdp (p1 : (List Int)) : AV := .dat 1 ((p1 : List Int).map Qe2)
def Qiq (p2 : (List Int)) : AV := .dat 1 ((p2 : List Int).map Qe2)
def z57_5 (y2 : (List Int)) : AV := .acc 0 3 1 ((y2 : List Int).map Qab)
def Qd1 (x12 : (List GBracket)) : AV := .dat 2 ((x12 : List GBracket).map Qad)
def z57_14 (y2 : (List Int)) : Slot := .own 1 ((List.replicate (y2.length : Int).toNat 0 : List Int).map Qab)
def z57_35 (y14 : (List Int)) : AV := .acc 0 3 1 ((y14 : List Int).map Qab)
def Qgo (y17 : (List Int)) : Slot := .own 1 ((y17 : List Int).map Qab)
def z57_16 : AV := .acc 2 3 1 ((([] : List Int) : List Int).map Qab)
def Qgn (x23 : ((List Int) × Int)) : AV := .dat 1 ((x23.1 : List Int).map Qab)
def z57_106 (y24 : (List Int)) : AV := .acc 0 3 1 ((y24 : List Int).map Qab)
def z57_41 (y32 : (List Int)) : AV := .acc 0 3 1 ((y32 : List Int).map Qab)
def z57_125 (y51 : (List Int)) : AV := .acc 0 3 1 ((y51 : List Int).map Qab)
def Qg1 (y55 : (List Int)) : Slot := .own 1 ((y55 : List Int).map Qab)
def Qkn (y74 : (List Int)) : AV := .acc 0 3 1 ((y74 : List Int).map Qab)
def Qgb (x78 : ((List Int) × Int)) : AV := .dat 1 ((x78.1 : List Int).map Qab)
def z57_185 (y79 : (List Int)) : AV := .acc 0 3 1 ((y79 : List Int).map Qab)
def Qkm (y86 : (List Int)) : AV := .acc 0 3 1 ((y86 : List Int).map Qab)
def Qid (y89 : (List Int)) : Slot := .own 1 ((y89 : List Int).map Qab)
def z57_194 (y110 : (List Int)) : AV := .acc 0 3 1 ((y110 : List Int).map Qab)
theorem Qit (N : Nat) (p0 : (List GBracket)) (p1 : (List Int)) (p2 : (List Int)) (r : Bool) (h : Qfm N p0 p1 p2 = some r) : Spec Try.prog 5 [(.dat 2 (p0.map Qad)), (.dat 1 (p1.map Qe2)), (.dat 1 (p2.map Qe2))] [] (B r) [] := by
  refine Qah Try.func5 rfl 0 (nle rfl) (fun X φ0 w0 hφ0 hd0 => ?_)
  unfold Qfm at h
  refine wx tbk [] trivial ?_
  obtain ⟨k1, hk_k1, h⟩ := jko h
  refine wjn (τ := Unit) (fun t => k1 t = some r) (fun _ => ⟨mk 227 [(0, (Qfs p0)), (1, (Qdp p1)), (2, (Qiq p2))], []⟩) (fun t h => ?_) ?_
  ·subst hk_k1
   refine wx tbk [] trivial ?_
   refine wx tbk [] trivial ?_
   obtain ⟨k4, hk_k4, h⟩ := jko h
   refine wjn (τ := (List Int) × Int) (fun t => k4 t = some r) (fun ⟨y2, y3⟩ => ⟨mk 227 [(0, (Qfs p0)), (1, (Qdp p1)), (7, (z57_5 y2)), (8, I y3)], [.tok]⟩) (fun t h => ?_) ?_
   ·subst hk_k4
    obtain ⟨y2, y3⟩ := t
    refine wsq ?_
    refine wx tbk [] trivial ?_
    rcases bft ((y3 == 0)) with hc5 | hc5
    ·replace h := Qaw hc5 h
     refine wft hc5 (by kernel_rfl) ?_
     obtain ⟨x7, hf6, h⟩ := bno h
     rcases bft (x7) with hb8 | hb8
     ·replace h := Qaw hb8 h
      obtain ⟨x10, hf9, h⟩ := bno h
      refine wx tbk [(0, rp [fu 20] (B x7)), (1, rp [(.tmp 79, B x7)] (B true)), (2, rp [(.tmp 80, B true), fu 8] (B x10))] ⟨apc (first := []) (cap := []) (vs := []) rfl Qey (Qcj 2000  _ hf6) rfl rfl nl0 nll rfl, asb hb8 (amv rfl), ag_ (apc (first := []) (cap := []) (vs := []) rfl Qjk (Qd3 2000  _ hf9) rfl rfl nl0 nll rfl), trivial⟩ ?_
      refine Qae ?_
      refine Qaf ?_
      obtain rfl := osi h
      exact fend ⟨[B x10], ⟨rot (by kernel_rfl), trivial⟩, rfl⟩ nll
     ·replace h := Qax hb8 h
      refine wx tbk [(0, rp [fu 20] (B x7)), (1, rp [(.tmp 79, B x7)] (B false))] ⟨apc (first := []) (cap := []) (vs := []) rfl Qey (Qcj 2000  _ hf6) rfl rfl nl0 nll rfl, asb hb8 (amv rfl), trivial⟩ ?_
      refine Qae ?_
      refine Qaf ?_
      obtain rfl := osi h
      exact fend ⟨[B false], ⟨rot (by kernel_rfl), trivial⟩, rfl⟩ nll
    ·replace h := Qax hc5 h
     refine wfn hc5 (by kernel_rfl) ?_
     refine Qak ?_
     refine thn ?_
     obtain ⟨x12, hf11, h⟩ := bno h
     refine wx tbk [(1, rp [fu 21, (.tmp 83, (Qfs p0))] (Qd1 x12))] ⟨apc (first := []) (cap := []) (vs := [(Qfs p0)]) rfl enter21 (Qiv N p0 _ hf11) rfl rfl (nlc (nld Qai _) nl0) (nld Qai _) rfl, trivial⟩ ?_
     obtain ⟨hm13, h⟩ := cko h
     refine wx tbk [(1, rp [(.tmp 85, (z57_5 y2))] (I ((y2.length : Int)))), (2, ⟨[(.tmp 86, (I ((y2.length : Int)))), (.tmp 86, (I ((y2.length : Int))))], [(1, .unused)], (.own 1 1 (0) ((y2.length : Int).toNat)), [(1, (z57_14 y2))], false⟩)] ⟨alm (c := Qab) (l := y2) (aln rfl Try.underlying22 rfl), Qkh rfl Try.underlying22 te3 tz3 rfl (and3a hm13) rfl (and3b hm13) (and3c' hm13) (rep_map Qab rfl), trivial⟩ ?_
     refine wx tbk [] trivial ?_
     obtain ⟨k18, hk_k18, h⟩ := jko h
     refine wjn (τ := (List Int) × Int × Int × (List Int)) (fun t => k18 t = some r) (fun ⟨y14, y15, y16, y17⟩ => ⟨mk 227 [(1, (Qdp p1)), (7, (z57_35 y14)), (10, (Qd1 x12)), (11, (.own 1 1 (0) ((y2.length : Int).toNat))), (12, I y15), (13, I y16)], [.tok, (Qgo y17)]⟩) (fun t h => ?_) ?_
     ·subst hk_k18
      obtain ⟨y14, y15, y16, y17⟩ := t
      obtain ⟨x20, hf19, h⟩ := bno h
      refine wx tbk [(2, rp [fu 24, (.tmp 164, (Qd1 x12)), (.tmp 165, I y15)] (.tup [I x20.1, I x20.2]))] ⟨apc (first := []) (cap := []) (vs := [(Qd1 x12), I y15]) rfl enter24 (Qi5 N x12 y15 _ hf19) rfl rfl (nlc (nld Qai _) (nlc nll nl0)) (NLt.tup _ (nlc nll (nlc nll nl0))) rfl, trivial⟩ ?_
      obtain ⟨ha21, h⟩ := cko h
      obtain ⟨x23, hf22, h⟩ := bno h
      refine wx tbk [(1, ⟨[], [(2, .unused)], z57_16, [(2, .tok)], false⟩), (3, ⟨[(.tmp 171, z57_16), (.tmp 172, (z57_35 y14))], [(2, .tok), (3, .unused)], (.acc 3 3 1 ((([] : List Int) ++ y14 : List Int).map Qab)), [(2, .dead), (3, .tok)], false⟩), (4, rp [fu 23, (.tmp 170, I x20.1), (.tmp 173, (.acc 3 3 1 ((([] : List Int) ++ y14 : List Int).map Qab)))] (.tup [(Qgn x23), I x23.2]))] ⟨Qg0 rfl Try.underlying22 ti3 tz3, Qgm rfl Try.underlying22 te3 (Base.acc _ _) rfl rfl (Qkz Qab one_i64 _) (Qin Qab ha21) (Qim Qab ha21 (by decide)) (Qil Qab) rfl rfl, awk (rd' := (.func 23, (.fn (.func 23) [] [])) :: [(.tmp 170, I x20.1), (.tmp 173, (.dat 1 ((([] : List Int) ++ y14 : List Int).map Qab)))]) ⟨rfl, lrf, rfl, lrf, rfl, Less.acc, trivial⟩ (apc (first := []) (cap := []) (vs := [I x20.1, (.dat 1 ((([] : List Int) ++ y14 : List Int).map Qab))]) rfl enter23 (Qg9 N x20.1 (([] : List Int) ++ y14) _ hf22) rfl rfl (nlc nll (nlc (nld Qac _) nl0)) (NLt.tup _ (nlc (nld Qac _) (nlc nll nl0))) rfl), trivial⟩ ?_
      obtain ⟨k25, hk_k25, h⟩ := jko h
      refine wjn (τ := (List Int)) (fun t => k25 t = some r) (fun y24 => ⟨mk 227 [(1, (Qdp p1)), (7, (z57_106 y24)), (11, (.own 1 1 (0) ((y2.length : Int).toNat))), (23, (Qgn x23))], [.tok, (Qgo y17)]⟩) (fun y24 h => ?_) ?_
      ·subst hk_k25
       obtain ⟨k26, hk_k26, h⟩ := jko h
       refine wjn (τ := Unit) (fun t => k26 t = some r) (fun _ => ⟨mk 227 [], []⟩) (fun t h => ?_) ?_
       ·subst hk_k26
        obtain ⟨x28, hf27, h⟩ := bno h
        rcases bft (x28) with hb29 | hb29
        ·replace h := Qaw hb29 h
         obtain ⟨x31, hf30, h⟩ := bno h
         refine wx tbk [(0, rp [fu 20] (B x28)), (1, rp [(.tmp 223, B x28)] (B true)), (2, rp [(.tmp 224, B true), fu 8] (B x31))] ⟨apc (first := []) (cap := []) (vs := []) rfl Qey (Qcj 2000  _ hf27) rfl rfl nl0 nll rfl, asb hb29 (amv rfl), ag_ (apc (first := []) (cap := []) (vs := []) rfl Qjk (Qd3 2000  _ hf30) rfl rfl nl0 nll rfl), trivial⟩ ?_
         refine Qae ?_
         obtain rfl := osi h
         exact fend ⟨[B x31], ⟨rot (by kernel_rfl), trivial⟩, rfl⟩ nll
        ·replace h := Qax hb29 h
         refine wx tbk [(0, rp [fu 20] (B x28)), (1, rp [(.tmp 223, B x28)] (B false))] ⟨apc (first := []) (cap := []) (vs := []) rfl Qey (Qcj 2000  _ hf27) rfl rfl nl0 nll rfl, asb hb29 (amv rfl), trivial⟩ ?_
         refine Qae ?_
         obtain rfl := osi h
         exact fend ⟨[B false], ⟨rot (by kernel_rfl), trivial⟩, rfl⟩ nll
       ·skip
        refine wx tbk [] trivial ?_
        refine Qag ?_
        refine wmr (mto (n := 227) (l' := [(1, (Qdp p1)), (7, (z57_106 y24)), (11, (.own 1 1 (0) ((y2.length : Int).toNat))), (23, (Qgn x23)), (25, I 0)]) (own' := [.tok, (Qgo y17)]) [(1, (Qdp p1)), (7, (z57_106 y24)), (11, (.own 1 1 (0) ((y2.length : Int).toNat))), (23, (Qgn x23)), (25, I 0)] [0, 1] [.tok, (Qgo y17)] hφ0 (pc (.rn (.plain _ (nld Qeu _))) (pc (.rn (Qcr rfl (Qb2 Qac _))) (pc (.rn (Qas rfl)) (pc (.rn (.plain _ (nld Qac _))) (pc rwl pn))))) (qc .tok (qc (spr Qac) qn))) ?_
        refine Qca (τ := (List Int) × Int) (fun n t => Qcq N p1 y2 y17 x23 k26 n t.1 t.2 = some r) (fun ⟨y32, y33⟩ => ⟨mk 227 [(1, (Qdp p1)), (7, (z57_41 y32)), (11, (.own 1 1 (0) ((y2.length : Int).toNat))), (23, (Qgn x23)), (25, I y33)], [.tok, (Qgo y17)]⟩) (fun t h => by rw [Qcq] at h; cases h) (fun n36 ih t h => ?_) N (y24, 0) h
        obtain ⟨y32, y33⟩ := t
        rw [Qcq] at h
        skip
        refine wsq ?_
        refine wx tbk [(2, rp [(.tmp 196, (z57_41 y32))] (I ((y32.length : Int))))] ⟨alm (c := Qab) (l := y32) (aln rfl Try.underlying22 rfl), trivial⟩ ?_
        rcases bft ((decide (y33 < (y32.length : Int)))) with hc37 | hc37
        ·replace h := Qaw hc37 h
         refine wft hc37 (by kernel_rfl) ?_
         refine Qak ?_
         refine thn ?_
         refine wsq ?_
         refine Qag ?_
         obtain ⟨hi38, h⟩ := cko h
         obtain ⟨hi38a, hi38b⟩ := Qb4 hi38
         obtain ⟨x39, hg40, h⟩ := bno h
         obtain ⟨x41, hg42, h⟩ := bno h
         obtain ⟨hi43, hj44⟩ := gsm hg42
         refine wxd tbk [(2, rb [(.tmp 201, (.own 1 1 (0) ((y2.length : Int).toNat))), (.tmp 202, I y33)] [(1, (Qgo y17))] (.ref 1 1 (y33.toNat) 0)), (3, rb [(.tmp 203, (.ref 1 1 (y33.toNat) 0))] [(1, (Qgo y17))] (I x39)), (6, rp [(.tmp 205, (Qgn x23)), (.tmp 206, I y33)] (.dptr (Qab (x41)) 0))] ⟨aio rfl Try.underlying22 ti3 (odt hi38a) (odt hi38b) (Nat.zero_add _), ald rfl ti3 (by decide) (mgt Qab hg40) (nle rfl) rfl, aid rfl Try.underlying22 ti3 rfl rfl hi43 (mgt Qab hj44) rfl, trivial⟩ ?_
         rcases bft ((decide ((w64 (x39 - x41)) > (w64 ((p1.length : Int) + 1))))) with hb45 | hb45
         ·replace h := Qaw hb45 h
          refine wx tbk [(2, rp [(.tmp 211, (Qdp p1))] (I ((p1.length : Int)))), (5, rp [(.tmp 214, (B ((decide ((w64 (x39 - x41)) > (w64 ((p1.length : Int) + 1)))))))] (B true))] ⟨alm (c := Qe2) (l := p1) (aln rfl Try.underlying73 rfl), asb hb45 (amv rfl), trivial⟩ ?_
          refine Qb0 (by kernel_rfl) ?_
          refine wx tbk [] trivial ?_
          refine Qae ?_
          refine Qao ?_
          refine Qaf ?_
          refine Qaf ?_
          refine Qao ?_
          refine Qaf ?_
          obtain rfl := osi h
          exact fend ⟨[B false], ⟨rot (by kernel_rfl), trivial⟩, rfl⟩ nll
         ·replace h := Qax hb45 h
          refine wx tbk [(2, rp [(.tmp 211, (Qdp p1))] (I ((p1.length : Int)))), (5, rp [(.tmp 214, (B ((decide ((w64 (x39 - x41)) > (w64 ((p1.length : Int) + 1)))))))] (B false)), (8, rp [(.tmp 215, B false), (.tmp 217, (Qdp p1))] (I ((p1.length : Int))))] ⟨alm (c := Qe2) (l := p1) (aln rfl Try.underlying73 rfl), asb hb45 (amv rfl), ag_ (alm (c := Qe2) (l := p1) (aln rfl Try.underlying73 rfl)), trivial⟩ ?_
          rcases bft ((decide ((w64 (x39 - x41)) < (w64 ((w64 (0 - (p1.length : Int))) - 1))))) with hc46 | hc46
          ·replace h := Qaw hc46 h
           refine wft hc46 (by kernel_rfl) ?_
           refine wx tbk [] trivial ?_
           refine Qae ?_
           refine Qao ?_
           refine Qaf ?_
           refine Qaf ?_
           refine Qao ?_
           refine Qaf ?_
           obtain rfl := osi h
           exact fend ⟨[B false], ⟨rot (by kernel_rfl), trivial⟩, rfl⟩ nll
          ·replace h := Qax hc46 h
           refine wfn hc46 (by kernel_rfl) ?_
           refine Qak ?_
           refine bln ?_
           refine thn ?_
           refine wx1 tbk [] trivial ?_
           refine thn ?_
           exact arm (mto (n := 227) [(1, (Qdp p1)), (7, (z57_41 y32)), (11, (.own 1 1 (0) ((y2.length : Int).toNat))), (23, (Qgn x23)), (25, (I (w64 (y33 + 1))))] [0, 1] [.tok, (Qgo y17)] hφ0 (pc (.rn (.plain _ (nld Qeu _))) (pc (.rn (Qcr rfl (Qb2 Qac _))) (pc (.rn (Qas rfl)) (pc (.rn (.plain _ (nld Qac _))) (pc rwl pn))))) (qc .tok (qc (spr Qac) qn))) (ih (y32, w64 (y33 + 1)) h)
        ·replace h := Qax hc37 h
         refine wfn hc37 (by kernel_rfl) ?_
         refine Qbk ?_
         refine Qav ?_
         refine Qav ?_
         refine Qbj rfl ?_
         refine thn ?_
         exact ⟨(), h, (mto (n := 227) [] [] [] hφ0 pn qn)⟩
      ·skip
       rcases bft ((x20.2 != 0)) with hb47 | hb47
       ·replace h := Qaw hb47 h
        refine wx tbk [(2, rp [(.tmp 178, (B ((x20.2 != 0))))] (B true))] ⟨asb hb47 (amv rfl), trivial⟩ ?_
        refine Qb0 (by kernel_rfl) ?_
        refine wx tbk [] trivial ?_
        refine Qae ?_
        refine Qaf ?_
        obtain rfl := osi h
        exact fend ⟨[B false], ⟨rot (by kernel_rfl), trivial⟩, rfl⟩ nll
       ·replace h := Qax hb47 h
        rcases bft ((x23.2 != 0)) with hb48 | hb48
        ·replace h := Qaw hb48 h
         refine wx tbk [(2, rp [(.tmp 178, (B ((x20.2 != 0))))] (B false)), (6, rp [(.tmp 182, (B ((x23.2 != 0))))] (B true))] ⟨asb hb47 (amv rfl), asb hb48 (amv rfl), trivial⟩ ?_
         refine Qb0 (by kernel_rfl) ?_
         refine wx tbk [] trivial ?_
         refine Qae ?_
         refine Qaf ?_
         obtain rfl := osi h
         exact fend ⟨[B false], ⟨rot (by kernel_rfl), trivial⟩, rfl⟩ nll
        ·replace h := Qax hb48 h
         rcases bft ((x20.1 != y16)) with hb49 | hb49
         ·replace h := Qaw hb49 h
          refine wx tbk [(2, rp [(.tmp 178, (B ((x20.2 != 0))))] (B false)), (6, rp [(.tmp 182, (B ((x23.2 != 0))))] (B false)), (11, rp [(.tmp 187, (B ((x20.1 != y16))))] (B true))] ⟨asb hb47 (amv rfl), asb hb48 (amv rfl), asb hb49 (amv rfl), trivial⟩ ?_
          refine Qb0 (by kernel_rfl) ?_
          refine wx tbk [] trivial ?_
          refine Qae ?_
          refine Qaf ?_
          obtain rfl := osi h
          exact fend ⟨[B false], ⟨rot (by kernel_rfl), trivial⟩, rfl⟩ nll
         ·replace h := Qax hb49 h
          refine wx tbk [(2, rp [(.tmp 178, (B ((x20.2 != 0))))] (B false)), (6, rp [(.tmp 182, (B ((x23.2 != 0))))] (B false)), (11, rp [(.tmp 187, (B ((x20.1 != y16))))] (B false)), (13, rp [(.tmp 188, B false), (.tmp 189, (Qgn x23))] (I ((x23.1.length : Int)))), (15, rp [(.tmp 188, B false), (.tmp 191, (z57_35 y14))] (I ((y14.length : Int))))] ⟨asb hb47 (amv rfl), asb hb48 (amv rfl), asb hb49 (amv rfl), ag_ (alm (c := Qab) (l := x23.1) (aln rfl Try.underlying22 rfl)), ag_ (alm (c := Qab) (l := y14) (aln rfl Try.underlying22 rfl)), trivial⟩ ?_
          rcases bft (((x23.1.length : Int) != (y14.length : Int))) with hc50 | hc50
          ·replace h := Qaw hc50 h
           refine wft hc50 (by kernel_rfl) ?_
           refine wx tbk [] trivial ?_
           refine Qae ?_
           refine Qaf ?_
           obtain rfl := osi h
           exact fend ⟨[B false], ⟨rot (by kernel_rfl), trivial⟩, rfl⟩ nll
          ·replace h := Qax hc50 h
           refine wfn hc50 (by kernel_rfl) ?_
           refine Qak ?_
           refine thn ?_
           exact ⟨(y14), h, (mto (n := 227) [(1, (Qdp p1)), (7, (z57_35 y14)), (11, (.own 1 1 (0) ((y2.length : Int).toNat))), (23, (Qgn x23))] [0, 1] [.tok, (Qgo y17)] hφ0 (pc (.rn (.plain _ (nld Qeu _))) (pc (.rn (Qcr rfl (Qb2 Qac _))) (pc (.rn (Qas rfl)) (pc (.rn (.plain _ (nld Qac _))) pn)))) (qc .tok (qc (spr Qac) qn)))⟩
     ·skip
      refine wx tbk [] trivial ?_
      refine Qag ?_
      refine wmr (mto (n := 227) (l' := [(1, (Qdp p1)), (7, (z57_5 y2)), (10, (Qd1 x12)), (11, (.own 1 1 (0) ((y2.length : Int).toNat))), (12, I 0), (13, I 0), (14, I 0)]) (own' := [.tok, (.own 1 (((List.replicate (y2.length : Int).toNat 0) : List Int).map Qab))]) [(1, (Qdp p1)), (7, (z57_5 y2)), (10, (Qd1 x12)), (11, (.own 1 1 (0) ((y2.length : Int).toNat))), (12, I 0), (13, I 0), (14, I 0)] [0, 1] [.tok, (z57_14 y2)] hφ0 (pc (.rn (.plain _ (nld Qeu _))) (pc (.rn (Qcr rfl (Qb2 Qac _))) (pc (.rn (.plain _ (nld Qai _))) (pc (.rn (Qas rfl)) (pc rwl (pc rwl (pc rwl pn))))))) (qc .tok (qc (spr Qac) qn))) ?_
      refine Qca (τ := (List Int) × Int × Int × Int × (List Int)) (fun n t => Qb6 N p1 y2 x12 k18 n t.1 t.2.1 t.2.2.1 t.2.2.2.1 t.2.2.2.2 = some r) (fun ⟨y51, y52, y53, y54, y55⟩ => ⟨mk 227 [(1, (Qdp p1)), (7, (z57_125 y51)), (10, (Qd1 x12)), (11, (.own 1 1 (0) ((y2.length : Int).toNat))), (12, I y52), (13, I y53), (14, I y54)], [.tok, (Qg1 y55)]⟩) (fun t h => by rw [Qb6] at h; cases h) (fun n61 ih t h => ?_) N (y2, 0, 0, 0, List.replicate (y2.length : Int).toNat 0) h
      obtain ⟨y51, y52, y53, y54, y55⟩ := t
      rw [Qb6] at h
      skip
      refine wsq ?_
      refine wx tbk [(2, rp [(.tmp 89, (Qdp p1))] (I ((p1.length : Int))))] ⟨alm (c := Qe2) (l := p1) (aln rfl Try.underlying73 rfl), trivial⟩ ?_
      rcases bft ((decide (y54 < (p1.length : Int)))) with hc62 | hc62
      ·replace h := Qaw hc62 h
       refine wft hc62 (by kernel_rfl) ?_
       refine Qak ?_
       refine thn ?_
       obtain ⟨k67, hk_k67, h⟩ := jko h
       refine wjn (τ := (List Int) × Int × Int × (List Int)) (fun t => k67 t = some r) (fun ⟨y63, y64, y65, y66⟩ => ⟨mk 227 [(1, (Qdp p1)), (7, (.acc 0 3 1 ((y63 : List Int).map Qab))), (10, (Qd1 x12)), (11, (.own 1 1 (0) ((y2.length : Int).toNat))), (12, I y64), (13, I y65), (14, I y54)], [.tok, (.own 1 ((y66 : List Int).map Qab))]⟩) (fun t h => ?_) ?_
       ·subst hk_k67
        obtain ⟨y63, y64, y65, y66⟩ := t
        refine wx1 tbk [] trivial ?_
        refine thn ?_
        exact arm (mto (n := 227) [(1, (Qdp p1)), (7, (.acc 0 3 1 ((y63 : List Int).map Qab))), (10, (Qd1 x12)), (11, (.own 1 1 (0) ((y2.length : Int).toNat))), (12, I y64), (13, I y65), (14, (I (w64 (y54 + 1))))] [0, 1] [.tok, (.own 1 ((y66 : List Int).map Qab))] hφ0 (pc (.rn (.plain _ (nld Qeu _))) (pc (.rn (Qcr rfl (Qb2 Qac _))) (pc (.rn (.plain _ (nld Qai _))) (pc (.rn (Qas rfl)) (pc rwl (pc rwl (pc rwl pn))))))) (qc .tok (qc (spr Qac) qn))) (ih (y63, y64, y65, w64 (y54 + 1), y66) h)
       ·skip
        refine Qag ?_
        obtain ⟨x68, hg69, h⟩ := bno h
        obtain ⟨hi70, hj71⟩ := gsm hg69
        obtain ⟨x73, hf72, h⟩ := bno h
        refine wx tbk [(4, rp [(.tmp 97, (Qdp p1)), (.tmp 98, I y54)] (.dptr (Qe2 (x68)) 0)), (6, rp [(.tmp 100, (K .u32 (x68)))] (I (w64 x68))), (7, rp [fu 22, (.tmp 95, (Qd1 x12)), (.tmp 96, I y52), (.tmp 101, I (w64 x68))] (.tup [I x73.1, I x73.2]))] ⟨aid rfl Try.underlying73 ti75 rfl rfl hi70 (mgt Qe2 hj71) rfl, acv rfl (by rw [Try.underlying75]; rfl) Try.underlying3, apc (first := []) (cap := []) (vs := [(Qd1 x12), I y52, I (w64 x68)]) rfl enter22 (Qku N x12 y52 (w64 x68) _ hf72) rfl rfl (nlc (nld Qai _) (nlc nll (nlc nll nl0))) (NLt.tup _ (nlc nll (nlc nll nl0))) rfl, trivial⟩ ?_
        obtain ⟨k75, hk_k75, h⟩ := jko h
        refine wjn (τ := (List Int)) (fun t => k75 t = some r) (fun y74 => ⟨mk 227 [(1, (Qdp p1)), (7, (Qkn y74)), (10, (Qd1 x12)), (11, (.own 1 1 (0) ((y2.length : Int).toNat))), (12, I y52), (13, I y53), (14, I y54), (15, I x73.1)], [.tok, (Qg1 y55)]⟩) (fun y74 h => ?_) ?_
        ·subst hk_k75
         obtain ⟨ha76, h⟩ := cko h
         obtain ⟨x78, hf77, h⟩ := bno h
         refine wx tbk [(1, ⟨[], [(2, .unused)], z57_16, [(2, .tok)], false⟩), (3, ⟨[(.tmp 113, z57_16), (.tmp 114, (Qkn y74))], [(2, .tok), (3, .unused)], (.acc 3 3 1 ((([] : List Int) ++ y74 : List Int).map Qab)), [(2, .dead), (3, .tok)], false⟩), (4, rp [fu 23, (.tmp 112, I x73.1), (.tmp 115, (.acc 3 3 1 ((([] : List Int) ++ y74 : List Int).map Qab)))] (.tup [(Qgb x78), I x78.2]))] ⟨Qg0 rfl Try.underlying22 ti3 tz3, Qgm rfl Try.underlying22 te3 (Base.acc _ _) rfl rfl (Qkz Qab one_i64 _) (Qin Qab ha76) (Qim Qab ha76 (by decide)) (Qil Qab) rfl rfl, awk (rd' := (.func 23, (.fn (.func 23) [] [])) :: [(.tmp 112, I x73.1), (.tmp 115, (.dat 1 ((([] : List Int) ++ y74 : List Int).map Qab)))]) ⟨rfl, lrf, rfl, lrf, rfl, Less.acc, trivial⟩ (apc (first := []) (cap := []) (vs := [I x73.1, (.dat 1 ((([] : List Int) ++ y74 : List Int).map Qab))]) rfl enter23 (Qg9 N x73.1 (([] : List Int) ++ y74) _ hf77) rfl rfl (nlc nll (nlc (nld Qac _) nl0)) (NLt.tup _ (nlc (nld Qac _) (nlc nll nl0))) rfl), trivial⟩ ?_
         obtain ⟨k80, hk_k80, h⟩ := jko h
         refine wjn (τ := (List Int)) (fun t => k80 t = some r) (fun y79 => ⟨mk 227 [(1, (Qdp p1)), (7, (z57_185 y79)), (10, (Qd1 x12)), (11, (.own 1 1 (0) ((y2.length : Int).toNat))), (12, I y52), (13, I y53), (14, I y54), (15, I x73.1), (17, (Qgb x78))], [.tok, (Qg1 y55)]⟩) (fun y79 h => ?_) ?_
         ·subst hk_k80
          refine wx tbk [] trivial ?_
          obtain ⟨k84, hk_k84, h⟩ := jko h
          refine wjn (τ := (List Int) × Int × (List Int)) (fun t => k84 t = some r) (fun ⟨y81, y82, y83⟩ => ⟨mk 227 [(1, (Qdp p1)), (7, (.acc 0 3 1 ((y81 : List Int).map Qab))), (10, (Qd1 x12)), (11, (.own 1 1 (0) ((y2.length : Int).toNat))), (12, I y52), (13, I y53), (14, I y54), (15, I x73.1), (19, I y82)], [.tok, (.own 1 ((y83 : List Int).map Qab))]⟩) (fun t h => ?_) ?_
          ·subst hk_k84
           obtain ⟨y81, y82, y83⟩ := t
           refine wsq ?_
           refine wx tbk [] trivial ?_
           rcases bft ((y82 != x73.1)) with hc85 | hc85
           ·replace h := Qaw hc85 h
            refine wft hc85 (by kernel_rfl) ?_
            refine wx tbk [] trivial ?_
            refine Qae ?_
            refine Qaf ?_
            refine Qao ?_
            refine Qaf ?_
            refine Qaf ?_
            refine Qao ?_
            refine Qaf ?_
            obtain rfl := osi h
            exact fend ⟨[B false], ⟨rot (by kernel_rfl), trivial⟩, rfl⟩ nll
           ·replace h := Qax hc85 h
            refine wfn hc85 (by kernel_rfl) ?_
            refine Qak ?_
            refine thn ?_
            refine wx1 tbk [(3, rp [(.tmp 154, (Qdp p1)), (.tmp 155, I y54)] (.dptr (Qe2 (x68)) 0)), (5, rp [(.tmp 157, (K .u32 (x68)))] (I (w64 x68)))] ⟨aid rfl Try.underlying73 ti75 rfl rfl hi70 (mgt Qe2 hj71) rfl, acv rfl (by rw [Try.underlying75]; rfl) Try.underlying3, trivial⟩ ?_
            refine bln ?_
            refine thn ?_
            exact ⟨(y81, w64 (y52 + (w64 x68)), w64 (y53 + x73.1), y83), h, (mto (n := 227) [(1, (Qdp p1)), (7, (.acc 0 3 1 ((y81 : List Int).map Qab))), (10, (Qd1 x12)), (11, (.own 1 1 (0) ((y2.length : Int).toNat))), (12, (I (w64 (y52 + (w64 x68))))), (13, (I (w64 (y53 + x73.1)))), (14, I y54)] [0, 1] [.tok, (.own 1 ((y83 : List Int).map Qab))] hφ0 (pc (.rn (.plain _ (nld Qeu _))) (pc (.rn (Qcr rfl (Qb2 Qac _))) (pc (.rn (.plain _ (nld Qai _))) (pc (.rn (Qas rfl)) (pc rwl (pc rwl (pc rwl pn))))))) (qc .tok (qc (spr Qac) qn)))⟩
          ·skip
           refine wx tbk [] trivial ?_
           refine Qag ?_
           refine wmr (mto (n := 227) (l' := [(1, (Qdp p1)), (7, (z57_185 y79)), (10, (Qd1 x12)), (11, (.own 1 1 (0) ((y2.length : Int).toNat))), (12, I y52), (13, I y53), (14, I y54), (15, I x73.1), (17, (Qgb x78)), (19, I 0), (20, I 0)]) (own' := [.tok, (Qg1 y55)]) [(1, (Qdp p1)), (7, (z57_185 y79)), (10, (Qd1 x12)), (11, (.own 1 1 (0) ((y2.length : Int).toNat))), (12, I y52), (13, I y53), (14, I y54), (15, I x73.1), (17, (Qgb x78)), (19, I 0), (20, I 0)] [0, 1] [.tok, (Qg1 y55)] hφ0 (pc (.rn (.plain _ (nld Qeu _))) (pc (.rn (Qcr rfl (Qb2 Qac _))) (pc (.rn (.plain _ (nld Qai _))) (pc (.rn (Qas rfl)) (pc rwl (pc rwl (pc rwl (pc rwl (pc (.rn (.plain _ (nld Qac _))) (pc rwl (pc rwl pn))))))))))) (qc .tok (qc (spr Qac) qn))) ?_
           refine Qca (τ := (List Int) × Int × Int × (List Int)) (fun n t => Qcp N y2 x78 k84 n t.1 t.2.1 t.2.2.1 t.2.2.2 = some r) (fun ⟨y86, y87, y88, y89⟩ => ⟨mk 227 [(1, (Qdp p1)), (7, (Qkm y86)), (10, (Qd1 x12)), (11, (.own 1 1 (0) ((y2.length : Int).toNat))), (12, I y52), (13, I y53), (14, I y54), (15, I x73.1), (17, (Qgb x78)), (19, I y87), (20, I y88)], [.tok, (Qid y89)]⟩) (fun t h => by rw [Qcp] at h; cases h) (fun n94 ih t h => ?_) N (y79, 0, 0, y55) h
           obtain ⟨y86, y87, y88, y89⟩ := t
           rw [Qcp] at h
           skip
           refine wsq ?_
           refine wx tbk [(2, rp [(.tmp 129, (Qkm y86))] (I ((y86.length : Int))))] ⟨alm (c := Qab) (l := y86) (aln rfl Try.underlying22 rfl), trivial⟩ ?_
           rcases bft ((decide (y88 < (y86.length : Int)))) with hc95 | hc95
           ·replace h := Qaw hc95 h
            refine wft hc95 (by kernel_rfl) ?_
            refine Qak ?_
            refine thn ?_
            refine wsq ?_
            refine Qag ?_
            obtain ⟨hi96, h⟩ := cko h
            obtain ⟨hi96a, hi96b⟩ := Qb4 hi96
            obtain ⟨x97, hg98, h⟩ := bno h
            obtain ⟨x99, hg100, h⟩ := bno h
            obtain ⟨hi101, hj102⟩ := gsm hg100
            obtain ⟨hi103, h⟩ := cko h
            obtain ⟨hi103a, hi103b⟩ := Qb4 hi103
            obtain ⟨x104, hg105, h⟩ := bno h
            refine wxd tbk [(2, rb [(.tmp 134, (.own 1 1 (0) ((y2.length : Int).toNat))), (.tmp 135, I y88)] [(1, (Qid y89))] (.ref 1 1 (y88.toNat) 0)), (3, rb [(.tmp 136, (.ref 1 1 (y88.toNat) 0))] [(1, (Qid y89))] (I x97)), (6, rp [(.tmp 138, (Qgb x78)), (.tmp 139, I y88)] (.dptr (Qab (x99)) 0)), (9, rb [(.tmp 134, (.own 1 1 (0) ((y2.length : Int).toNat))), (.tmp 135, I y88)] [(1, (Qid y89))] (.ref 1 1 (y88.toNat) 0)), (10, ⟨[(.tmp 143, (.ref 1 1 (y88.toNat) 0)), (.tmp 142, (I (w64 (x97 + x99))))], [(1, (Qid y89))], .any, [(1, (.own 1 ((y89.set y88.toNat (w64 (x97 + x99)) : List Int).map Qab)))], false⟩)] ⟨aio rfl Try.underlying22 ti3 (odt hi96a) (odt hi96b) (Nat.zero_add _), ald rfl ti3 (by decide) (mgt Qab hg98) (nle rfl) rfl, aid rfl Try.underlying22 ti3 rfl rfl hi101 (mgt Qab hj102) rfl, aio rfl Try.underlying22 ti3 (odt hi103a) (odt hi103b) (Nat.zero_add _), ast rfl ti3 (by rfl) (mgt Qab hg105) (nle rfl) (Qe5 Qab rfl), trivial⟩ ?_
            refine wx1 tbk [(3, rp [(.tmp 145, (Qgb x78)), (.tmp 146, I y88)] (.dptr (Qab (x99)) 0))] ⟨aid rfl Try.underlying22 ti3 rfl rfl hi101 (mgt Qab hj102) rfl, trivial⟩ ?_
            refine bln ?_
            refine thn ?_
            refine wx1 tbk [] trivial ?_
            refine thn ?_
            exact arm (mto (n := 227) [(1, (Qdp p1)), (7, (Qkm y86)), (10, (Qd1 x12)), (11, (.own 1 1 (0) ((y2.length : Int).toNat))), (12, I y52), (13, I y53), (14, I y54), (15, I x73.1), (17, (Qgb x78)), (19, (I (w64 (y87 + x99)))), (20, (I (w64 (y88 + 1))))] [0, 1] [.tok, (.own 1 ((y89.set y88.toNat (w64 (x97 + x99)) : List Int).map Qab))] hφ0 (pc (.rn (.plain _ (nld Qeu _))) (pc (.rn (Qcr rfl (Qb2 Qac _))) (pc (.rn (.plain _ (nld Qai _))) (pc (.rn (Qas rfl)) (pc rwl (pc rwl (pc rwl (pc rwl (pc (.rn (.plain _ (nld Qac _))) (pc rwl (pc rwl pn))))))))))) (qc .tok (qc (spr Qac) qn))) (ih (y86, w64 (y87 + x99), w64 (y88 + 1), y89.set y88.toNat (w64 (x97 + x99))) h)
           ·replace h := Qax hc95 h
            refine wfn hc95 (by kernel_rfl) ?_
            refine Qbk ?_
            refine Qav ?_
            refine Qav ?_
            refine Qbj rfl ?_
            refine thn ?_
            exact ⟨(y86, y87, y89), h, (mto (n := 227) [(1, (Qdp p1)), (7, (Qkm y86)), (10, (Qd1 x12)), (11, (.own 1 1 (0) ((y2.length : Int).toNat))), (12, I y52), (13, I y53), (14, I y54), (15, I x73.1), (19, I y87)] [0, 1] [.tok, (Qid y89)] hφ0 (pc (.rn (.plain _ (nld Qeu _))) (pc (.rn (Qcr rfl (Qb2 Qac _))) (pc (.rn (.plain _ (nld Qai _))) (pc (.rn (Qas rfl)) (pc rwl (pc rwl (pc rwl (pc rwl (pc rwl pn))))))))) (qc .tok (qc (spr Qac) qn)))⟩
         ·skip
          rcases bft ((x78.2 != 0)) with hb106 | hb106
          ·replace h := Qaw hb106 h
           refine wx tbk [(2, rp [(.tmp 120, (B ((x78.2 != 0))))] (B true))] ⟨asb hb106 (amv rfl), trivial⟩ ?_
           refine Qb0 (by kernel_rfl) ?_
           refine wx tbk [] trivial ?_
           refine Qae ?_
           refine Qaf ?_
           refine Qao ?_
           refine Qaf ?_
           refine Qaf ?_
           refine Qao ?_
           refine Qaf ?_
           obtain rfl := osi h
           exact fend ⟨[B false], ⟨rot (by kernel_rfl), trivial⟩, rfl⟩ nll
          ·replace h := Qax hb106 h
           refine wx tbk [(2, rp [(.tmp 120, (B ((x78.2 != 0))))] (B false)), (4, rp [(.tmp 121, B false), (.tmp 122, (Qgb x78))] (I ((x78.1.length : Int)))), (6, rp [(.tmp 121, B false), (.tmp 124, (Qkn y74))] (I ((y74.length : Int))))] ⟨asb hb106 (amv rfl), ag_ (alm (c := Qab) (l := x78.1) (aln rfl Try.underlying22 rfl)), ag_ (alm (c := Qab) (l := y74) (aln rfl Try.underlying22 rfl)), trivial⟩ ?_
           rcases bft (((x78.1.length : Int) != (y74.length : Int))) with hc107 | hc107
           ·replace h := Qaw hc107 h
            refine wft hc107 (by kernel_rfl) ?_
            refine wx tbk [] trivial ?_
            refine Qae ?_
            refine Qaf ?_
            refine Qao ?_
            refine Qaf ?_
            refine Qaf ?_
            refine Qao ?_
            refine Qaf ?_
            obtain rfl := osi h
            exact fend ⟨[B false], ⟨rot (by kernel_rfl), trivial⟩, rfl⟩ nll
           ·replace h := Qax hc107 h
            refine wfn hc107 (by kernel_rfl) ?_
            refine Qak ?_
            refine thn ?_
            exact ⟨(y74), h, (mto (n := 227) [(1, (Qdp p1)), (7, (Qkn y74)), (10, (Qd1 x12)), (11, (.own 1 1 (0) ((y2.length : Int).toNat))), (12, I y52), (13, I y53), (14, I y54), (15, I x73.1), (17, (Qgb x78))] [0, 1] [.tok, (Qg1 y55)] hφ0 (pc (.rn (.plain _ (nld Qeu _))) (pc (.rn (Qcr rfl (Qb2 Qac _))) (pc (.rn (.plain _ (nld Qai _))) (pc (.rn (Qas rfl)) (pc rwl (pc rwl (pc rwl (pc rwl (pc (.rn (.plain _ (nld Qac _))) pn))))))))) (qc .tok (qc (spr Qac) qn)))⟩
        ·skip
         rcases bft ((x73.2 != 0)) with hb108 | hb108
         ·replace h := Qaw hb108 h
          refine wx tbk [(2, rp [(.tmp 106, (B ((x73.2 != 0))))] (B true))] ⟨asb hb108 (amv rfl), trivial⟩ ?_
          refine Qb0 (by kernel_rfl) ?_
          refine wx tbk [] trivial ?_
          refine Qae ?_
          refine Qaf ?_
          refine Qao ?_
          refine Qaf ?_
          refine Qaf ?_
          refine Qao ?_
          refine Qaf ?_
          obtain rfl := osi h
          exact fend ⟨[B false], ⟨rot (by kernel_rfl), trivial⟩, rfl⟩ nll
         ·replace h := Qax hb108 h
          refine wx tbk [(2, rp [(.tmp 106, (B ((x73.2 != 0))))] (B false))] ⟨asb hb108 (amv rfl), trivial⟩ ?_
          rcases bft ((decide (x73.1 < 0))) with hc109 | hc109
          ·replace h := Qaw hc109 h
           refine wft hc109 (by kernel_rfl) ?_
           refine wx tbk [] trivial ?_
           refine Qae ?_
           refine Qaf ?_
           refine Qao ?_
           refine Qaf ?_
           refine Qaf ?_
           refine Qao ?_
           refine Qaf ?_
           obtain rfl := osi h
           exact fend ⟨[B false], ⟨rot (by kernel_rfl), trivial⟩, rfl⟩ nll
          ·replace h := Qax hc109 h
           refine wfn hc109 (by kernel_rfl) ?_
           refine Qak ?_
           refine thn ?_
           exact ⟨(y51), h, (mto (n := 227) [(1, (Qdp p1)), (7, (z57_125 y51)), (10, (Qd1 x12)), (11, (.own 1 1 (0) ((y2.length : Int).toNat))), (12, I y52), (13, I y53), (14, I y54), (15, I x73.1)] [0, 1] [.tok, (Qg1 y55)] hφ0 (pc (.rn (.plain _ (nld Qeu _))) (pc (.rn (Qcr rfl (Qb2 Qac _))) (pc (.rn (.plain _ (nld Qai _))) (pc (.rn (Qas rfl)) (pc rwl (pc rwl (pc rwl (pc rwl pn)))))))) (qc .tok (qc (spr Qac) qn)))⟩
      ·replace h := Qax hc62 h
       refine wfn hc62 (by kernel_rfl) ?_
       refine Qbk ?_
       refine Qav ?_
       refine Qav ?_
       refine Qbj rfl ?_
       refine thn ?_
       exact ⟨(y51, y52, y53, y55), h, (mto (n := 227) [(1, (Qdp p1)), (7, (z57_125 y51)), (10, (Qd1 x12)), (11, (.own 1 1 (0) ((y2.length : Int).toNat))), (12, I y52), (13, I y53)] [0, 1] [.tok, (Qg1 y55)] hφ0 (pc (.rn (.plain _ (nld Qeu _))) (pc (.rn (Qcr rfl (Qb2 Qac _))) (pc (.rn (.plain _ (nld Qai _))) (pc (.rn (Qas rfl)) (pc rwl (pc rwl pn)))))) (qc .tok (qc (spr Qac) qn)))⟩
   ·skip
    refine wx tbk [] trivial ?_
    refine Qag ?_
    refine wmr (Mor.trans (Qk2 0 3 1 7 (by kernel_rfl) (by kernel_rfl)) (mto (n := 227) (l' := [(0, (Qfs p0)), (1, (Qdp p1)), (2, (Qiq p2)), (7, (.acc 0 3 1 ((([]) : List Int).map Qab))), (8, I 0), (9, I 0)]) (own' := [.tok]) [(0, (Qfs p0)), (1, (Qdp p1)), (2, (Qiq p2)), (7, (.acc 0 3 1 (([] : List Int).map Qab))), (8, I 0), (9, I 0)] [0] [.tok] hφ0 (pc (.rn (.plain _ (nld Qai _))) (pc (.rn (.plain _ (nld Qeu _))) (pc (.rn (.plain _ (nld Qeu _))) (pc (.rn (Qcr rfl (Qb2 Qac _))) (pc rwl (pc rwl pn)))))) (qc .tok qn))) ?_
    refine Qca (τ := (List Int) × Int × Int) (fun n t => Qco N p2 k4 n t.1 t.2.1 t.2.2 = some r) (fun ⟨y110, y111, y112⟩ => ⟨mk 227 [(0, (Qfs p0)), (1, (Qdp p1)), (2, (Qiq p2)), (7, (z57_194 y110)), (8, I y111), (9, I y112)], [.tok]⟩) (fun t h => by rw [Qco] at h; cases h) (fun n116 ih t h => ?_) N ([], 0, 0) h
    obtain ⟨y110, y111, y112⟩ := t
    rw [Qco] at h
    skip
    refine wsq ?_
    refine wx tbk [(2, rp [(.tmp 55, (Qiq p2))] (I ((p2.length : Int))))] ⟨alm (c := Qe2) (l := p2) (aln rfl Try.underlying73 rfl), trivial⟩ ?_
    rcases bft ((decide (y112 < (p2.length : Int)))) with hc117 | hc117
    ·replace h := Qaw hc117 h
     refine wft hc117 (by kernel_rfl) ?_
     refine Qak ?_
     refine thn ?_
     refine wsq ?_
     refine Qag ?_
     obtain ⟨x118, hg119, h⟩ := bno h
     obtain ⟨hi120, hj121⟩ := gsm hg119
     obtain ⟨ha122, h⟩ := cko h
     refine wx tbk [(3, rp [(.tmp 61, (Qiq p2)), (.tmp 62, I y112)] (.dptr (Qe2 (x118)) 0)), (5, rp [(.tmp 64, (K .u32 (x118))), (.const (.int .u64 4), (K .u64 (4)))] (K .u32 (x118 / 16))), (6, rp [(.tmp 65, (K .u32 (x118 / 16)))] (I (w64 (x118 / 16)))), (7, rp [(.tmp 66, (I (w64 (x118 / 16))))] (.dat 1 (([w64 (x118 / 16)] : List Int).map Qab))), (8, ⟨[(.tmp 60, (z57_194 y110)), (.tmp 67, (.dat 1 (([w64 (x118 / 16)] : List Int).map Qab)))], [(0, .tok), (1, .unused)], (.acc 1 3 1 ((y110 ++ ([w64 (x118 / 16)]) : List Int).map Qab)), [(0, .dead), (1, .tok)], false⟩)] ⟨aid rfl Try.underlying73 ti75 rfl rfl hi120 (mgt Qe2 hj121) rfl, Qf7 rfl (by decide) (by decide), acv rfl (by rw [Try.underlying75]; rfl) Try.underlying3, Qdg (vs := [(I (w64 (x118 / 16)))]) rfl Try.underlying22 ti3 tz3 rfl (by decide) rfl (by decide) (by rfl) (by rfl) (by rfl) rfl, Qgm rfl Try.underlying22 te3 (Base.acc _ _) rfl rfl (by rfl) (Qin Qab ha122) (Qim Qab ha122 (by decide)) (Qil Qab) rfl rfl, trivial⟩ ?_
     obtain ⟨x123, hl124, h⟩ := bno h
     refine wx1 tbk [(3, rp [(.tmp 70, (Qiq p2)), (.tmp 71, I y112)] (.dptr (Qe2 (x118)) 0)), (5, rp [(.tmp 73, (K .u32 (x118))), (.const (.int .u64 4), (K .u64 (4)))] (K .u32 (x118 / 16))), (6, rp [(.tmp 74, (K .u32 (x118 / 16)))] (I (w64 (x118 / 16)))), (8, rp [(.tmp 76, (I (w64 (y111 + (w64 (x118 / 16))))))] (I x123))] ⟨aid rfl Try.underlying73 ti75 rfl rfl hi120 (mgt Qe2 hj121) rfl, Qf7 rfl (by decide) (by decide), acv rfl (by rw [Try.underlying75]; rfl) Try.underlying3, Qez hl124 (aas rfl), trivial⟩ ?_
     refine bln ?_
     refine thn ?_
     refine wx1 tbk [] trivial ?_
     refine thn ?_
     exact arm (mto (n := 227) [(0, (Qfs p0)), (1, (Qdp p1)), (2, (Qiq p2)), (7, (.acc 1 3 1 ((y110 ++ ([w64 (x118 / 16)]) : List Int).map Qab))), (8, I x123), (9, (I (w64 (y112 + 1))))] [1] [.tok] hφ0 (pc (.rn (.plain _ (nld Qai _))) (pc (.rn (.plain _ (nld Qeu _))) (pc (.rn (.plain _ (nld Qeu _))) (pc (.rn (Qcr rfl (Qb2 Qac _))) (pc rwl (pc rwl pn)))))) (qc .tok qn)) (ih (y110 ++ ([w64 (x118 / 16)]), x123, w64 (y112 + 1)) h)
    ·replace h := Qax hc117 h
     refine wfn hc117 (by kernel_rfl) ?_
     refine Qbk ?_
     refine Qav ?_
     refine Qav ?_
     refine Qbj rfl ?_
     refine thn ?_
     exact ⟨(y110, y111), h, (mto (n := 227) [(0, (Qfs p0)), (1, (Qdp p1)), (7, (z57_194 y110)), (8, I y111)] [0] [.tok] hφ0 (pc (.rn (.plain _ (nld Qai _))) (pc (.rn (.plain _ (nld Qeu _))) (pc (.rn (Qcr rfl (Qb2 Qac _))) (pc rwl pn)))) (qc .tok qn))⟩
  ·skip
   rcases bft ((decide ((p0.length : Int) > 10))) with hb125 | hb125
   ·replace h := Qaw hb125 h
    refine wx tbk [(1, rp [(.tmp 27, (Qfs p0))] (I ((p0.length : Int)))), (3, rp [(.tmp 29, (B ((decide ((p0.length : Int) > 10)))))] (B true))] ⟨alm (c := Qad) (l := p0) (aln rfl Try.underlying72 rfl), asb hb125 (amv rfl), trivial⟩ ?_
    refine Qb0 (by kernel_rfl) ?_
    obtain ⟨x127, hf126, h⟩ := bno h
    rcases bft (x127) with hb128 | hb128
    ·replace h := Qaw hb128 h
     obtain ⟨x130, hf129, h⟩ := bno h
     refine wx tbk [(0, rp [fu 20] (B x127)), (1, rp [(.tmp 50, B x127)] (B true)), (2, rp [(.tmp 51, B true), fu 8] (B x130))] ⟨apc (first := []) (cap := []) (vs := []) rfl Qey (Qcj 2000  _ hf126) rfl rfl nl0 nll rfl, asb hb128 (amv rfl), ag_ (apc (first := []) (cap := []) (vs := []) rfl Qjk (Qd3 2000  _ hf129) rfl rfl nl0 nll rfl), trivial⟩ ?_
     refine Qae ?_
     refine Qaf ?_
     obtain rfl := osi h
     exact fend ⟨[B x130], ⟨rot (by kernel_rfl), trivial⟩, rfl⟩ nll
    ·replace h := Qax hb128 h
     refine wx tbk [(0, rp [fu 20] (B x127)), (1, rp [(.tmp 50, B x127)] (B false))] ⟨apc (first := []) (cap := []) (vs := []) rfl Qey (Qcj 2000  _ hf126) rfl rfl nl0 nll rfl, asb hb128 (amv rfl), trivial⟩ ?_
     refine Qae ?_
     refine Qaf ?_
     obtain rfl := osi h
     exact fend ⟨[B false], ⟨rot (by kernel_rfl), trivial⟩, rfl⟩ nll
   ·replace h := Qax hb125 h
    obtain ⟨x132, hf131, h⟩ := bno h
    rcases bft ((!x132)) with hb133 | hb133
    ·replace h := Qaw hb133 h
     refine wx tbk [(1, rp [(.tmp 27, (Qfs p0))] (I ((p0.length : Int)))), (3, rp [(.tmp 29, (B ((decide ((p0.length : Int) > 10)))))] (B false)), (5, rp [(.tmp 30, B false), fu 19, (.tmp 31, (Qfs p0))] (B x132)), (8, rp [(.tmp 34, (B ((!x132))))] (B true))] ⟨alm (c := Qad) (l := p0) (aln rfl Try.underlying72 rfl), asb hb125 (amv rfl), ag_ (apc (first := []) (cap := []) (vs := [(Qfs p0)]) rfl Qlb (Qec N p0 _ hf131) rfl rfl (nlc (nld Qai _) nl0) nll rfl), asb hb133 (amv rfl), trivial⟩ ?_
     refine Qb0 (by kernel_rfl) ?_
     obtain ⟨x135, hf134, h⟩ := bno h
     rcases bft (x135) with hb136 | hb136
     ·replace h := Qaw hb136 h
      obtain ⟨x138, hf137, h⟩ := bno h
      refine wx tbk [(0, rp [fu 20] (B x135)), (1, rp [(.tmp 50, B x135)] (B true)), (2, rp [(.tmp 51, B true), fu 8] (B x138))] ⟨apc (first := []) (cap := []) (vs := []) rfl Qey (Qcj 2000  _ hf134) rfl rfl nl0 nll rfl, asb hb136 (amv rfl), ag_ (apc (first := []) (cap := []) (vs := []) rfl Qjk (Qd3 2000  _ hf137) rfl rfl nl0 nll rfl), trivial⟩ ?_
      refine Qae ?_
      refine Qaf ?_
      obtain rfl := osi h
      exact fend ⟨[B x138], ⟨rot (by kernel_rfl), trivial⟩, rfl⟩ nll
     ·replace h := Qax hb136 h
      refine wx tbk [(0, rp [fu 20] (B x135)), (1, rp [(.tmp 50, B x135)] (B false))] ⟨apc (first := []) (cap := []) (vs := []) rfl Qey (Qcj 2000  _ hf134) rfl rfl nl0 nll rfl, asb hb136 (amv rfl), trivial⟩ ?_
      refine Qae ?_
      refine Qaf ?_
      obtain rfl := osi h
      exact fend ⟨[B false], ⟨rot (by kernel_rfl), trivial⟩, rfl⟩ nll
    ·replace h := Qax hb133 h
     rcases bft ((decide ((p1.length : Int) > 12))) with hb139 | hb139
     ·replace h := Qaw hb139 h
      refine wx tbk [(1, rp [(.tmp 27, (Qfs p0))] (I ((p0.length : Int)))), (3, rp [(.tmp 29, (B ((decide ((p0.length : Int) > 10)))))] (B false)), (5, rp [(.tmp 30, B false), fu 19, (.tmp 31, (Qfs p0))] (B x132)), (8, rp [(.tmp 34, (B ((!x132))))] (B false)), (10, rp [(.tmp 35, B false), (.tmp 36, (Qdp p1))] (I ((p1.length : Int)))), (13, rp [(.tmp 39, (B ((decide ((p1.length : Int) > 12)))))] (B true))] ⟨alm (c := Qad) (l := p0) (aln rfl Try.underlying72 rfl), asb hb125 (amv rfl), ag_ (apc (first := []) (cap := []) (vs := [(Qfs p0)]) rfl Qlb (Qec N p0 _ hf131) rfl rfl (nlc (nld Qai _) nl0) nll rfl), asb hb133 (amv rfl), ag_ (alm (c := Qe2) (l := p1) (aln rfl Try.underlying73 rfl)), asb hb139 (amv rfl), trivial⟩ ?_
      refine Qb0 (by kernel_rfl) ?_
      obtain ⟨x141, hf140, h⟩ := bno h
      rcases bft (x141) with hb142 | hb142
      ·replace h := Qaw hb142 h
       obtain ⟨x144, hf143, h⟩ := bno h
       refine wx tbk [(0, rp [fu 20] (B x141)), (1, rp [(.tmp 50, B x141)] (B true)), (2, rp [(.tmp 51, B true), fu 8] (B x144))] ⟨apc (first := []) (cap := []) (vs := []) rfl Qey (Qcj 2000  _ hf140) rfl rfl nl0 nll rfl, asb hb142 (amv rfl), ag_ (apc (first := []) (cap := []) (vs := []) rfl Qjk (Qd3 2000  _ hf143) rfl rfl nl0 nll rfl), trivial⟩ ?_
       refine Qae ?_
       refine Qaf ?_
       obtain rfl := osi h
       exact fend ⟨[B x144], ⟨rot (by kernel_rfl), trivial⟩, rfl⟩ nll
      ·replace h := Qax hb142 h
       refine wx tbk [(0, rp [fu 20] (B x141)), (1, rp [(.tmp 50, B x141)] (B false))] ⟨apc (first := []) (cap := []) (vs := []) rfl Qey (Qcj 2000  _ hf140) rfl rfl nl0 nll rfl, asb hb142 (amv rfl), trivial⟩ ?_
       refine Qae ?_
       refine Qaf ?_
       obtain rfl := osi h
       exact fend ⟨[B false], ⟨rot (by kernel_rfl), trivial⟩, rfl⟩ nll
     ·replace h := Qax hb139 h
      rcases bft ((decide ((p2.length : Int) < 1))) with hb145 | hb145
      ·replace h := Qaw hb145 h
       refine wx tbk [(1, rp [(.tmp 27, (Qfs p0))] (I ((p0.length : Int)))), (3, rp [(.tmp 29, (B ((decide ((p0.length : Int) > 10)))))] (B false)), (5, rp [(.tmp 30, B false), fu 19, (.tmp 31, (Qfs p0))] (B x132)), (8, rp [(.tmp 34, (B ((!x132))))] (B false)), (10, rp [(.tmp 35, B false), (.tmp 36, (Qdp p1))] (I ((p1.length : Int)))), (13, rp [(.tmp 39, (B ((decide ((p1.length : Int) > 12)))))] (B false)), (15, rp [(.tmp 40, B false), (.tmp 41, (Qiq p2))] (I ((p2.length : Int)))), (18, rp [(.tmp 44, (B ((decide ((p2.length : Int) < 1)))))] (B true))] ⟨alm (c := Qad) (l := p0) (aln rfl Try.underlying72 rfl), asb hb125 (amv rfl), ag_ (apc (first := []) (cap := []) (vs := [(Qfs p0)]) rfl Qlb (Qec N p0 _ hf131) rfl rfl (nlc (nld Qai _) nl0) nll rfl), asb hb133 (amv rfl), ag_ (alm (c := Qe2) (l := p1) (aln rfl Try.underlying73 rfl)), asb hb139 (amv rfl), ag_ (alm (c := Qe2) (l := p2) (aln rfl Try.underlying73 rfl)), asb hb145 (amv rfl), trivial⟩ ?_
       refine Qb0 (by kernel_rfl) ?_
       obtain ⟨x147, hf146, h⟩ := bno h
       rcases bft (x147) with hb148 | hb148
       ·replace h := Qaw hb148 h
        obtain ⟨x150, hf149, h⟩ := bno h
        refine wx tbk [(0, rp [fu 20] (B x147)), (1, rp [(.tmp 50, B x147)] (B true)), (2, rp [(.tmp 51, B true), fu 8] (B x150))] ⟨apc (first := []) (cap := []) (vs := []) rfl Qey (Qcj 2000  _ hf146) rfl rfl nl0 nll rfl, asb hb148 (amv rfl), ag_ (apc (first := []) (cap := []) (vs := []) rfl Qjk (Qd3 2000  _ hf149) rfl rfl nl0 nll rfl), trivial⟩ ?_
        refine Qae ?_
        refine Qaf ?_
        obtain rfl := osi h
        exact fend ⟨[B x150], ⟨rot (by kernel_rfl), trivial⟩, rfl⟩ nll
       ·replace h := Qax hb148 h
        refine wx tbk [(0, rp [fu 20] (B x147)), (1, rp [(.tmp 50, B x147)] (B false))] ⟨apc (first := []) (cap := []) (vs := []) rfl Qey (Qcj 2000  _ hf146) rfl rfl nl0 nll rfl, asb hb148 (amv rfl), trivial⟩ ?_
        refine Qae ?_
        refine Qaf ?_
        obtain rfl := osi h
        exact fend ⟨[B false], ⟨rot (by kernel_rfl), trivial⟩, rfl⟩ nll
      ·replace h := Qax hb145 h
       refine wx tbk [(1, rp [(.tmp 27, (Qfs p0))] (I ((p0.length : Int)))), (3, rp [(.tmp 29, (B ((decide ((p0.length : Int) > 10)))))] (B false)), (5, rp [(.tmp 30, B false), fu 19, (.tmp 31, (Qfs p0))] (B x132)), (8, rp [(.tmp 34, (B ((!x132))))] (B false)), (10, rp [(.tmp 35, B false), (.tmp 36, (Qdp p1))] (I ((p1.length : Int)))), (13, rp [(.tmp 39, (B ((decide ((p1.length : Int) > 12)))))] (B false)), (15, rp [(.tmp 40, B false), (.tmp 41, (Qiq p2))] (I ((p2.length : Int)))), (18, rp [(.tmp 44, (B ((decide ((p2.length : Int) < 1)))))] (B false)), (20, rp [(.tmp 45, B false), (.tmp 46, (Qiq p2))] (I ((p2.length : Int))))] ⟨alm (c := Qad) (l := p0) (aln rfl Try.underlying72 rfl), asb hb125 (amv rfl), ag_ (apc (first := []) (cap := []) (vs := [(Qfs p0)]) rfl Qlb (Qec N p0 _ hf131) rfl rfl (nlc (nld Qai _) nl0) nll rfl), asb hb133 (amv rfl), ag_ (alm (c := Qe2) (l := p1) (aln rfl Try.underlying73 rfl)), asb hb139 (amv rfl), ag_ (alm (c := Qe2) (l := p2) (aln rfl Try.underlying73 rfl)), asb hb145 (amv rfl), ag_ (alm (c := Qe2) (l := p2) (aln rfl Try.underlying73 rfl)), trivial⟩ ?_
       rcases bft ((decide ((p2.length : Int) > 8))) with hc151 | hc151
       ·replace h := Qaw hc151 h
        refine wft hc151 (by kernel_rfl) ?_
        obtain ⟨x153, hf152, h⟩ := bno h
        rcases bft (x153) with hb154 | hb154
        ·replace h := Qaw hb154 h
         obtain ⟨x156, hf155, h⟩ := bno h
         refine wx tbk [(0, rp [fu 20] (B x153)), (1, rp [(.tmp 50, B x153)] (B true)), (2, rp [(.tmp 51, B true), fu 8] (B x156))] ⟨apc (first := []) (cap := []) (vs := []) rfl Qey (Qcj 2000  _ hf152) rfl rfl nl0 nll rfl, asb hb154 (amv rfl), ag_ (apc (first := []) (cap := []) (vs := []) rfl Qjk (Qd3 2000  _ hf155) rfl rfl nl0 nll rfl), trivial⟩ ?_
         refine Qae ?_
         refine Qaf ?_
         obtain rfl := osi h
         exact fend ⟨[B x156], ⟨rot (by kernel_rfl), trivial⟩, rfl⟩ nll
        ·replace h := Qax hb154 h
         refine wx tbk [(0, rp [fu 20] (B x153)), (1, rp [(.tmp 50, B x153)] (B false))] ⟨apc (first := []) (cap := []) (vs := []) rfl Qey (Qcj 2000  _ hf152) rfl rfl nl0 nll rfl, asb hb154 (amv rfl), trivial⟩ ?_
         refine Qae ?_
         refine Qaf ?_
         obtain rfl := osi h
         exact fend ⟨[B false], ⟨rot (by kernel_rfl), trivial⟩, rfl⟩ nll
       ·replace h := Qax hc151 h
        refine wfn hc151 (by kernel_rfl) ?_
        refine Qak ?_
        refine thn ?_
        exact ⟨(), h, (mto (n := 227) [(0, (Qfs p0)), (1, (Qdp p1)), (2, (Qiq p2))] [] [] hφ0 (pc (.rn (.plain _ (nld Qai _))) (pc (.rn (.plain _ (nld Qeu _))) (pc (.rn (.plain _ (nld Qeu _))) pn))) qn)⟩
end Go.Proofs.Ytflmombnmnblnaa
