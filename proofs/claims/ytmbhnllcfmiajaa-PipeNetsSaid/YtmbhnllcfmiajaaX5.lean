/-
  Functions of the program: what they compute, as plain functions, and that they do. No conditions.
-/
import Derived.Test.YtmbhnllcfmiajaaX4
namespace Go.Proofs.Ytmbhnllcfmiajaa
set_option maxRecDepth 100000
set_option maxHeartbeats 4000000
open Go.RowKit
def Qe2 (N : Nat) (p0 : GNet) (p1 : (List Int)) (p2 : (List GStream)) (k16 : (List (List GStream)) × (List GLost) × (List Int) × Int → Option (Int ⊕ (Int × Int × (List (List GStream)) × (List GLost) × (List Int)))) : Nat → Int → (List (List GStream)) → (List GLost) → (List Int) → Int → Option (Int ⊕ (Int × Int × (List (List GStream)) × (List GLost) × (List Int)))
  | 0, _, _, _, _, _ => none
  | n27 + 1, y17, y18, y19, y20, y21 =>
    bif (decide (y17 < (p0.Elements.length : Int))) then
     (getI p0.Elements y17).bind fun x29 =>
     (getI p1 y17).bind fun x33 =>
     (Qei N x29 x33).bind fun x38 =>
     (Qe1 N y17 x38 p0.Table p0.Elements ((p0.Elements.length : Int).toNat) ((p0.Elements.length : Int).toNat) p1.length p2 y21 y18 y19 y20).bind (
      Sum.elim (fun x41 =>
        Qe2 N p0 p1 p2 k16 n27 (w64 (y17 + 1)) x41.2.1 x41.2.2.1 x41.2.2.2 x41.1)
      (fun x42 =>
        some (.inl x42)))
    else
     k16 (y18, y19, y20, y21)
def Qhe (N : Nat) (p0 : GNet) (p1 : (List Int)) (p2 : (List GStream)) : Option (Int ⊕ (Int × Int × (List (List GStream)) × (List GLost) × (List Int))) :=
  chk (decide (0 ≤ (p0.Elements.length : Int)) && decide (24 * (p0.Elements.length : Int) ≤ 281474976710656) && decide ((p0.Elements.length : Int) ≤ 9223372036854775807)) <|
  chk (decide (0 ≤ (p0.Elements.length : Int)) && decide (32 * (p0.Elements.length : Int) ≤ 281474976710656) && decide ((p0.Elements.length : Int) ≤ 9223372036854775807)) <|
  (Qgm N p1).bind fun _ =>
  Qbz (fun ⟨y12, y13, y14, y15⟩ =>
    some (.inr ((-1), y15, y12, y13, y14))) fun k16 : (List (List GStream)) × (List GLost) × (List Int) × Int → Option (Int ⊕ (Int × Int × (List (List GStream)) × (List GLost) × (List Int))) =>
  Qe2 N p0 p1 p2 k16 N 0 (List.replicate (p0.Elements.length : Int).toNat ([])) (List.replicate (p0.Elements.length : Int).toNat (⟨0, 0, 0, 0⟩ : GLost)) p1 0
def Qv9 (p0 : GNet) : AV := .dat 5 ((p0.Table : List GRow).map Qa3)
def Qm0 (p0 : GNet) : AV := .dat 7 ((p0.Elements : List GElement).map Qac)
def Q13 (p0 : GNet) : AV := .agg [(Qv9 p0), (Qm0 p0)]
def Qnh (p1 : (List Int)) : AV := .dat 1 ((p1 : List Int).map Qaj)
def Qmt (p2 : (List GStream)) : AV := .dat 4 ((p2 : List GStream).map Qae)
def Zdq (p0 : GNet) : Slot := .own 1 ((List.replicate (p0.Elements.length : Int).toNat ([]) : List (List GStream)).map Qao)
def Zdp (p0 : GNet) : Slot := .own 4 ((List.replicate (p0.Elements.length : Int).toNat (⟨0, 0, 0, 0⟩ : GLost) : List GLost).map Qbd)
def Q5v (p1 : (List Int)) : Slot := .own 1 ((p1 : List Int).map Qaj)
def Q9f (p0 : GNet) (p1 : (List Int)) : AV := .agg [(.own 3 1 (0) ((p0.Elements.length : Int).toNat)), (.own 4 4 (0) ((p0.Elements.length : Int).toNat)), (.own 5 1 (0) (p1.length))]
def Qzw (p0 : GNet) : Slot := .own 2 [[(Qv9 p0), (Qm0 p0)]]
def Qo9 : Slot := .own 1 [[(.ref 6 7 (0) 0)]]
def Qv8 (y12 : (List (List GStream))) : Slot := .own 1 ((y12 : List (List GStream)).map Qao)
def Qv7 (y13 : (List GLost)) : Slot := .own 4 ((y13 : List GLost).map Qbd)
def Qv6 (p0 : GNet) (p1 : (List Int)) (p2 : (List GStream)) (y15 : Int) : Slot := .own 7 [[(Qv9 p0), (Qm0 p0), (.own 3 1 (0) ((p0.Elements.length : Int).toNat)), (.own 4 4 (0) ((p0.Elements.length : Int).toNat)), (.own 5 1 (0) (p1.length)), (Qmt p2), (I (y15))]]
def Q8a (p0 : GNet) (p1 : (List Int)) (p2 : (List GStream)) : Slot := .own 7 [[(Qv9 p0), (Qm0 p0), (.own 3 1 (0) ((p0.Elements.length : Int).toNat)), (.own 4 4 (0) ((p0.Elements.length : Int).toNat)), (.own 5 1 (0) (p1.length)), (Qmt p2), (I (0))]]
def Qok (y18 : (List (List GStream))) : Slot := .own 1 ((y18 : List (List GStream)).map Qao)
def Qoj (y19 : (List GLost)) : Slot := .own 4 ((y19 : List GLost).map Qbd)
def Qoi (y20 : (List Int)) : Slot := .own 1 ((y20 : List Int).map Qaj)
def Qol (p0 : GNet) (p1 : (List Int)) (p2 : (List GStream)) (y21 : Int) : Slot := .own 7 [[(Qv9 p0), (Qm0 p0), (.own 3 1 (0) ((p0.Elements.length : Int).toNat)), (.own 4 4 (0) ((p0.Elements.length : Int).toNat)), (.own 5 1 (0) (p1.length)), (Qmt p2), (I (y21))]]
def Qmz (x29 : GElement) : AV := .agg [(K .u8 (x29.Kind)), (.dat 2 ((x29.From : List GPort).map Qam)), (I (x29.Level)), (I (x29.Amount)), (I (x29.Wide)), (I (x29.Narrow)), (.dat 1 ((x29.Weights : List Int).map Qaj))]
def Qv5 (p0 : GNet) (p1 : (List Int)) (p2 : (List GStream)) (x41 : (Int × (List (List GStream)) × (List GLost) × (List Int))) : Slot := .own 7 [[(Qv9 p0), (Qm0 p0), (.own 3 1 (0) (((p0.Elements.length : Int).toNat))), (.own 4 4 (0) (((p0.Elements.length : Int).toNat))), (.own 5 1 (0) (p1.length)), (Qmt p2), (I (x41.1))]]
def Zdr : Slot := .own 1 [[(.lit (.pointer none))]]
theorem Qku (N : Nat) (p0 : GNet) (p1 : (List Int)) (p2 : (List GStream)) (r : (Int ⊕ (Int × Int × (List (List GStream)) × (List GLost) × (List Int)))) (h : Qhe N p0 p1 p2 = some r) : Spec Try.prog 29 [(Q13 p0), (Qnh p1), (Qmt p2)] [] (((Sum.elim (fun r => (.tup [(.lit (.pointer none)), (I (r))])) (fun r => (.tup [(.ref 2 7 (0) 0), (I (r.1))]))) : (Int ⊕ (Int × Int × (List (List GStream)) × (List GLost) × (List Int))) → AV) r) (((Sum.elim (fun r => [(.own 1 [[(.lit (.pointer none))]]), (.own 1 [[(I (r))]])]) (fun r => [(.own 1 [[(.ref 2 7 (0) 0)]]), (.own 1 [[(I (r.1))]]), (.own 7 [[(.dat 5 ((p0.Table : List GRow).map Qa3)), (.dat 7 ((p0.Elements : List GElement).map Qac)), (.own 3 1 (0) ((p0.Elements.length : Int).toNat)), (.own 4 4 (0) ((p0.Elements.length : Int).toNat)), (.own 5 1 (0) (p1.length)), (.dat 4 ((p2 : List GStream).map Qae)), (I (r.2.1))]]), (.own 1 ((r.2.2.1 : List (List GStream)).map Qao)), (.own 4 ((r.2.2.2.1 : List GLost).map Qbd)), (.own 1 ((r.2.2.2.2 : List Int).map Qaj))])) : (Int ⊕ (Int × Int × (List (List GStream)) × (List GLost) × (List Int))) → List Slot) r) := by
  refine Quy Try.func29 rfl (fun X φ0 w0 hφ0 hd0 => ?_)
  unfold Qhe at h
  refine Qzq (k := 6) hd0 (fun n hn => hφ0 n (Nat.le_trans (nle rfl) hn)) ?_
  refine wx1 tbk [] trivial ?_
  refine thn ?_
  refine Qzq (k := 6) hd0 (fun n hn => hφ0 n (Nat.le_trans (nle rfl) hn)) ?_
  obtain ⟨hm8, h⟩ := cko h
  obtain ⟨hm9, h⟩ := cko h
  obtain ⟨x11, hf10, h⟩ := bno h
  refine wy1 tbk [(3, rp [(.tmp 12, (Qm0 p0))] (I ((p0.Elements.length : Int)))), (4, ⟨[(.tmp 13, (I ((p0.Elements.length : Int)))), (.tmp 13, (I ((p0.Elements.length : Int))))], [(3, .unused)], (.own 3 1 (0) ((p0.Elements.length : Int).toNat)), [(3, (Zdq p0))], false⟩), (7, rp [(.tmp 16, (Qm0 p0))] (I ((p0.Elements.length : Int)))), (8, ⟨[(.tmp 17, (I ((p0.Elements.length : Int)))), (.tmp 17, (I ((p0.Elements.length : Int))))], [(4, .unused)], (.own 4 4 (0) ((p0.Elements.length : Int).toNat)), [(4, (Zdp p0))], false⟩), (10, ⟨[fu 50, (.tmp 19, (Qnh p1))], [(5, .unused)], (.own 5 1 (0) (p1.length)), [(5, (Q5v p1))], false⟩), (11, rp [(.tmp 14, (.own 3 1 (0) ((p0.Elements.length : Int).toNat))), (.tmp 18, (.own 4 4 (0) ((p0.Elements.length : Int).toNat))), (.tmp 20, (.own 5 1 (0) (p1.length)))] (Q9f p0 p1)), (13, rp [(.tmp 10, (Q13 p0)), (.tmp 21, (Q9f p0 p1)), (.tmp 22, (Qmt p2))] (.agg [(Qv9 p0), (Qm0 p0), (.own 3 1 (0) ((p0.Elements.length : Int).toNat)), (.own 4 4 (0) ((p0.Elements.length : Int).toNat)), (.own 5 1 (0) (p1.length)), (Qmt p2), I 0]))] ⟨alm (c := Qac) (l := p0.Elements) (aln rfl Try.underlying40 rfl), Q5f (c := Qao) (v := ([])) (z := [nilS]) (k := (p0.Elements.length : Int).toNat) ⟨Less.nil, trivial⟩ (Qo5 rfl Try.underlying31 te45 tz45 rfl (Q5p hm8) rfl (Q5o hm8) (Q5n hm8) rfl), alm (c := Qac) (l := p0.Elements) (aln rfl Try.underlying40 rfl), Qo5 rfl Try.underlying32 te50 tz50 rfl (Q5p hm9) rfl (Q5o hm9) (Q5n hm9) (Q3n Qbd rfl), Qar (first := []) (cap := []) (vs := [(Qnh p1)]) (σr := []) (σr' := [(Q5v p1)]) (res' := (.own 5 1 (0) (p1.length))) [5] rfl Zcs (Qj9 N p1 _ hf10) rfl (Qbm (rnc (.plain _ (nld Qab _)) rn0)) Qaq (slc (Qa8 Qab) Qaq) (Qdh rfl) rfl rfl rfl, Qa2 (vs := [(.own 3 1 (0) ((p0.Elements.length : Int).toNat)), (.own 4 4 (0) ((p0.Elements.length : Int).toNat)), (.own 5 1 (0) (p1.length))]) rfl ts34 tz34 rfl (by rfl) rfl, Qa2 (vs := [(Q13 p0), (Q9f p0 p1), (Qmt p2)]) rfl ts93 tz93 rfl (by rfl) rfl, trivial⟩ ?_
  refine thn ?_
  refine Q08 (k := 6) [(1, 1), (2, 1)] hd0 (fun n hn => hφ0 n (Nat.le_trans (nle rfl) hn)) Zcr rfl rfl (by kernel_rfl) (by kernel_rfl) (by kernel_rfl) Qow (fun φ1 w1 hφ1 hd1 => ?_)
  obtain ⟨k16, hk_k16, h⟩ := jko h
  refine wjn (τ := (List (List GStream)) × (List GLost) × (List Int) × Int) (fun t => k16 t = some r) (fun ⟨y12, y13, y14, y15⟩ => ⟨mk 45 [(6, .ref 1 1 0 0), (7, .ref 2 1 0 0)], [(Qzw p0), Qo9, (.own 1 [[I 0]]), (Qv8 y12), (Qv7 y13), (.own 1 ((y14 : List Int).map Qaj)), (Qv6 p0 p1 p2 y15)]⟩) (fun t h => ?_) ?_
  ·subst hk_k16
   obtain ⟨y12, y13, y14, y15⟩ := t
   refine wx tbk [] trivial ?_
   refine Qad ?_
   obtain rfl := osi h
   exact ⟨_, (mto (n := 45) (l' := [(6, .ref 0 1 0 0), (7, .ref 1 1 0 0)]) (own' := [(.own 1 [[.ref 2 7 0 0]]), (.own 1 [[(I ((-1)))]]), (Qv6 p0 p1 p2 y15), (Qv8 y12), (Qv7 y13), (.own 1 ((y14 : List Int).map Qaj))]) [(6, .ref 1 1 0 0), (7, .ref 2 1 0 0)] [1, 2, 6, 3, 4, 5] [Qo9, (.own 1 [[(I ((-1)))]]), (Qv6 p0 p1 p2 y15), (Qv8 y12), (Qv7 y13), (.own 1 ((y14 : List Int).map Qaj))] hφ0 (pc (.rn (rqr rfl)) (pc (.rn (rqr rfl)) pn)) (qc (spb (lc (.rn (rqr rfl)) ln)) (qc (spb (lc rwl ln)) (qc (spb (lc (.rn (.plain _ (nld Qah _))) (lc (.rn (.plain _ (nld Qaa _))) (lc (.rn (Qaz rfl)) (lc (.rn (Qaz rfl)) (lc (.rn (Qaz rfl)) (lc (.rn (.plain _ (nld Qai _))) (lc rwl ln)))))))) (qc (spr Qat) (qc (spr Qa9) (qc (spr Qab) qn))))))), Qke (vs := [.ref 2 7 0 0, I (-1)]) ⟨Qch (n := 0) (m := 1) (j := 0) (i := 0) (xs := [[.ref 2 7 0 0]]) (by kernel_rfl) (by kernel_rfl) ti89 (by decide) rfl (nle rfl) rfl, Qch (n := 1) (m := 1) (j := 0) (i := 0) (xs := [[I (-1)]]) (by kernel_rfl) (by kernel_rfl) ti3 (by decide) rfl (nle rfl) rfl, trivial⟩ rfl (NLt.tup _ (nlc (NLt.ref _ _ _ _ (by decide)) (nlc (NLt.of0 nll) nl0))) (by kernel_rfl) (Qal (Qa4 (nlc (NLt.ref _ _ _ _ (by decide)) nl0)) (Qal (Qa4 (nlc (NLt.of0 nll) nl0)) (Qal (Qa4 (nlc (NLt.of0 (nld Qah _)) (nlc (NLt.of0 (nld Qaa _)) (nlc (NLt.own _ _ _ _ (by decide)) (nlc (NLt.own _ _ _ _ (by decide)) (nlc (NLt.own _ _ _ _ (by decide)) (nlc (NLt.of0 (nld Qai _)) (nlc (NLt.of0 nll) nl0)))))))) (Qal (Qb0 Qat _) (Qal (Qb0 Qa9 _) (Qal (Qb0 Qab _) Qbn))))))⟩
  ·skip
   refine wx tbk [(2, rp [(.tmp 27, (Qm0 p0))] (I ((p0.Elements.length : Int))))] ⟨alm (c := Qac) (l := p0.Elements) (aln rfl Try.underlying40 rfl), trivial⟩ ?_
   refine Qan ?_
   refine wmr (mto (n := 45) (l' := [(1, (Qnh p1)), (6, .ref 1 1 0 0), (7, .ref 2 1 0 0), (27, (Qm0 p0)), (28, (I ((p0.Elements.length : Int)))), (29, I 0)]) (own' := [(Qzw p0), Qo9, (.own 1 [[I 0]]), (.own 1 (((List.replicate (p0.Elements.length : Int).toNat ([])) : List (List GStream)).map Qao)), (.own 4 (((List.replicate (p0.Elements.length : Int).toNat (⟨0, 0, 0, 0⟩ : GLost)) : List GLost).map Qbd)), (Q5v p1), (Q8a p0 p1 p2)]) [(1, (Qnh p1)), (6, .ref 1 1 0 0), (7, .ref 2 1 0 0), (27, (Qm0 p0)), (28, (I ((p0.Elements.length : Int)))), (29, I 0)] [0, 1, 2, 3, 4, 5, 6] [(Qzw p0), Qo9, (.own 1 [[I 0]]), (Zdq p0), (Zdp p0), (Q5v p1), (Q8a p0 p1 p2)] hφ1 (pc (.rn (.plain _ (nld Qab _))) (pc (.rn (rqr rfl)) (pc (.rn (rqr rfl)) (pc (.rn (.plain _ (nld Qaa _))) (pc rwl (pc rwl pn)))))) (qc (spb (lc (.rn (.plain _ (nld Qah _))) (lc (.rn (.plain _ (nld Qaa _))) ln))) (qc (spb (lc (.rn (rqr rfl)) ln)) (qc (spb (lc rwl ln)) (qc (spr Qat) (qc (spr Qa9) (qc (spr Qab) (qc (spb (lc (.rn (.plain _ (nld Qah _))) (lc (.rn (.plain _ (nld Qaa _))) (lc (.rn (Qaz rfl)) (lc (.rn (Qaz rfl)) (lc (.rn (Qaz rfl)) (lc (.rn (.plain _ (nld Qai _))) (lc rwl ln)))))))) qn)))))))) ?_
   refine Qby (τ := Int × (List (List GStream)) × (List GLost) × (List Int) × Int) (fun n t => Qe2 N p0 p1 p2 k16 n t.1 t.2.1 t.2.2.1 t.2.2.2.1 t.2.2.2.2 = some r) (fun ⟨y17, y18, y19, y20, y21⟩ => ⟨mk 45 [(1, (Qnh p1)), (6, .ref 1 1 0 0), (7, .ref 2 1 0 0), (27, (Qm0 p0)), (28, (I ((p0.Elements.length : Int)))), (29, I y17)], [(Qzw p0), Qo9, (.own 1 [[I 0]]), (Qok y18), (Qoj y19), (Qoi y20), (Qol p0 p1 p2 y21)]⟩) (fun t h => by rw [Qe2] at h; cases h) (fun n27 ih t h => ?_) N (0, List.replicate (p0.Elements.length : Int).toNat ([]), List.replicate (p0.Elements.length : Int).toNat (⟨0, 0, 0, 0⟩ : GLost), p1, 0) h
   obtain ⟨y17, y18, y19, y20, y21⟩ := t
   rw [Qe2] at h
   skip
   refine wx tbk [] trivial ?_
   refine wsq ?_
   rcases bft ((decide (y17 < (p0.Elements.length : Int)))) with hc28 | hc28
   ·replace h := Qaw hc28 h
    refine wft hc28 (by kernel_rfl) ?_
    refine Qap ?_
    refine thn ?_
    refine wsq ?_
    refine Qan ?_
    obtain ⟨x29, hg30, h⟩ := bno h
    obtain ⟨hi31, hj32⟩ := gsm hg30
    refine wx tbk [(1, rp [(.tmp 27, (Qm0 p0)), (.tmp 29, I y17)] (.dptr (Qac (x29)) 0))] ⟨aid rfl Try.underlying40 ti76 rfl rfl hi31 (mgt Qac hj32) rfl, trivial⟩ ?_
    obtain ⟨x33, hg34, h⟩ := bno h
    obtain ⟨hi35, hj36⟩ := gsm hg34
    obtain ⟨x38, hf37, h⟩ := bno h
    obtain ⟨x40, hf39, h⟩ := bno h
    rcases x40 with x41 | x42
    ·replace h := Zeh h
     refine wy1 tbk [(5, rp [(.tmp 37, (Qnh p1)), (.tmp 38, I y17)] (.dptr (Qaj (x33)) 0)), (7, rp [fu 36, (.tmp 36, (Qmz x29)), (.tmp 40, I x33)] (I x38)), (8, ⟨[fu 52, (.tmp 34, .ref 6 7 0 0), (.tmp 35, I y17), (.tmp 41, I x38)], [(6, (Qol p0 p1 p2 y21)), (3, (Qok y18)), (4, (Qoj y19)), (5, (Qoi y20))], (.tup []), [(6, (Qv5 p0 p1 p2 x41)), (3, (.own 1 ((x41.2.1 : List (List GStream)).map Qao))), (4, (.own 4 ((x41.2.2.1 : List GLost).map Qbd))), (5, (.own 1 ((x41.2.2.2 : List Int).map Qaj)))], false⟩)] ⟨aid rfl Try.underlying27 ti3 rfl rfl hi35 (mgt Qaj hj36) rfl, apc (first := []) (cap := []) (vs := [(Qmz x29), I x33]) rfl Qxb (Qgz N x29 x33 _ hf37) rfl rfl (nlc (NLt.agg _ (nlc nll (nlc (nld Qau _) (nlc nll (nlc nll (nlc nll (nlc nll (nlc (nld Qab _) nl0)))))))) (nlc nll nl0)) nll rfl, Qar (first := []) (cap := []) (vs := [.ref 6 7 0 0, I y17, I x38]) (σr := [(Qol p0 p1 p2 y21), (Qok y18), (Qoj y19), (Qoi y20)]) (σr' := [(Qv5 p0 p1 p2 x41), (.own 1 ((x41.2.1 : List (List GStream)).map Qao)), (.own 4 ((x41.2.2.1 : List GLost).map Qbd)), (.own 1 ((x41.2.2.2 : List Int).map Qaj))]) (res' := (.tup [])) [6, 3, 4, 5] rfl Q4m (Qkt N y17 x38 p0.Table p0.Elements ((p0.Elements.length : Int).toNat) ((p0.Elements.length : Int).toNat) p1.length p2 y21 y18 y19 y20 _ hf39) rfl (Qbm (rnc (Qa0 rfl) (rnc (.plain _ nll) (rnc (.plain _ nll) rn0)))) (slc (Qag (rnc (.plain _ (nld Qah _)) (rnc (.plain _ (nld Qaa _)) (rnc (Qcg rfl) (rnc (Qcg rfl) (rnc (Qcg rfl) (rnc (.plain _ (nld Qai _)) (rnc (.plain _ nll) rn0)))))))) (slc (Qa8 Qat) (slc (Qa8 Qa9) (slc (Qa8 Qab) Qaq)))) (slc (Qag (rnc (.plain _ (nld Qah _)) (rnc (.plain _ (nld Qaa _)) (rnc (Qdh rfl) (rnc (Qdh rfl) (rnc (Qdh rfl) (rnc (.plain _ (nld Qai _)) (rnc (.plain _ nll) rn0)))))))) (slc (Qa8 Qat) (slc (Qa8 Qa9) (slc (Qa8 Qab) Qaq)))) (.plain _ (NLt.tup _ nl0)) rfl rfl rfl, trivial⟩ ?_
     refine bln ?_
     refine thn ?_
     refine wx1 tbk [] trivial ?_
     refine thn ?_
     exact arm (mto (n := 45) [(1, (Qnh p1)), (6, .ref 1 1 0 0), (7, .ref 2 1 0 0), (27, (Qm0 p0)), (28, (I ((p0.Elements.length : Int)))), (29, (I (w64 (y17 + 1))))] [0, 1, 2, 3, 4, 5, 6] [(Qzw p0), Qo9, (.own 1 [[I 0]]), (.own 1 ((x41.2.1 : List (List GStream)).map Qao)), (.own 4 ((x41.2.2.1 : List GLost).map Qbd)), (.own 1 ((x41.2.2.2 : List Int).map Qaj)), (Qv5 p0 p1 p2 x41)] hφ1 (pc (.rn (.plain _ (nld Qab _))) (pc (.rn (rqr rfl)) (pc (.rn (rqr rfl)) (pc (.rn (.plain _ (nld Qaa _))) (pc rwl (pc rwl pn)))))) (qc (spb (lc (.rn (.plain _ (nld Qah _))) (lc (.rn (.plain _ (nld Qaa _))) ln))) (qc (spb (lc (.rn (rqr rfl)) ln)) (qc (spb (lc rwl ln)) (qc (spr Qat) (qc (spr Qa9) (qc (spr Qab) (qc (spb (lc (.rn (.plain _ (nld Qah _))) (lc (.rn (.plain _ (nld Qaa _))) (lc (.rn (Qaz rfl)) (lc (.rn (Qaz rfl)) (lc (.rn (Qaz rfl)) (lc (.rn (.plain _ (nld Qai _))) (lc rwl ln)))))))) qn)))))))) (ih (w64 (y17 + 1), x41.2.1, x41.2.2.1, x41.2.2.2, x41.1) h)
    ·replace h := Zeg h
     refine Q48 8 [rb [(.tmp 6, .ref 1 1 0 0)] [(1, Qo9)] (.ref 6 7 0 0), mv 8 (I y17), rb [(.tmp 9, .ref 7 7 0 0)] [(7, (.own 7 [[(K .u8 (x29.Kind)), (.dat 2 ((x29.From : List GPort).map Qam)), I x29.Level, I x29.Amount, I x29.Wide, I x29.Narrow, (.dat 1 ((x29.Weights : List Int).map Qaj))]]))] (Qmz x29), mv 1 (Qnh p1), mv 8 (I y17), rp [(.tmp 37, (Qnh p1)), (.tmp 38, I y17)] (.dptr (Qaj (x33)) 0), rp [(.tmp 39, (.dptr (Qaj (x33)) 0))] (I x33), rp [fu 36, (.tmp 36, (Qmz x29)), (.tmp 40, I x33)] (I x38), ⟨[fu 52, (.tmp 34, .ref 6 7 0 0), (.tmp 35, I y17), (.tmp 41, I x38), (.tmp 36, (Qmz x29)), (.tmp 37, (Qnh p1)), (.tmp 38, I y17), (.tmp 39, (.dptr (Qaj (x33)) 0)), (.tmp 40, I x33)], [(6, (Qol p0 p1 p2 y21)), (3, (Qok y18)), (4, (Qoj y19)), (5, (Qoi y20))], .any, [(6, .dead), (3, .dead), (4, .dead), (5, .dead)], false⟩] (by exact ⟨by kernel_rfl, by kernel_rfl⟩) rfl (by kernel_rfl) rfl (PStep.to (by rfl) (PStep.more (rd' := [(.tmp 36, (Qmz x29)), (.tmp 37, (Qnh p1)), (.tmp 38, I y17), (.tmp 39, (.dptr (Qaj (x33)) 0)), (.tmp 40, I x33)]) (Qwx (first := []) (cap := []) (vs := [.ref 6 7 0 0, I y17, I x38]) (σr := [(Qol p0 p1 p2 y21), (Qok y18), (Qoj y19), (Qoi y20)]) [6, 3, 4, 5] rfl Q4m (Qks N y17 x38 p0.Table p0.Elements ((p0.Elements.length : Int).toNat) ((p0.Elements.length : Int).toNat) p1.length p2 y21 y18 y19 y20 _ hf39) rfl (Qbm (rnc (Qa0 rfl) (rnc (.plain _ nll) (rnc (.plain _ nll) rn0)))) (slc (Qag (rnc (.plain _ (nld Qah _)) (rnc (.plain _ (nld Qaa _)) (rnc (Qcg rfl) (rnc (Qcg rfl) (rnc (Qcg rfl) (rnc (.plain _ (nld Qai _)) (rnc (.plain _ nll) rn0)))))))) (slc (Qa8 Qat) (slc (Qa8 Qa9) (slc (Qa8 Qab) Qaq)))) rfl rfl rfl))) (⟨fun _ _ => ald rfl ti89 (by decide) rfl (nle rfl) rfl, fun _ _ => amv rfl, fun _ _ => ald rfl ti76 (by decide) rfl (nle rfl) rfl, fun _ _ => amv rfl, fun _ _ => amv rfl, fun _ _ => aid rfl Try.underlying27 ti3 rfl rfl hi35 (mgt Qaj hj36) rfl, fun _ _ => ald_ rfl ti3 (by decide) (nle rfl) rfl, fun _ _ => apc (first := []) (cap := []) (vs := [(Qmz x29), I x33]) rfl Qxb (Qgz N x29 x33 _ hf37) rfl rfl (nlc (NLt.agg _ (nlc nll (nlc (nld Qau _) (nlc nll (nlc nll (nlc nll (nlc nll (nlc (nld Qab _) nl0)))))))) (nlc nll nl0)) nll rfl, fun _ h => absurd rfl h, trivial⟩) ?_ (by kernel_rfl) (by kernel_rfl) (by kernel_rfl)
     obtain rfl := osi h
     exact ⟨_, [[(.lit (.pointer none))], [I x42]], rfl, (Qn1 x42), (Qy7 (nlc nll nl0) (Qy7 (nlc nll nl0) Zbg)), by kernel_rfl, _, (mto (n := 45) (l' := [(6, .ref 0 1 0 0), (7, .ref 1 1 0 0)]) (own' := [Zdr, (.own 1 [[I x42]])]) [(6, .ref 1 1 0 0), (7, .ref 2 1 0 0)] [1, 2] [Zdr, (.own 1 [[I x42]])] hφ0 (pc (.rn (rqr rfl)) (pc (.rn (rqr rfl)) pn)) (qc (spb (lc rwl ln)) (qc (spb (lc rwl ln)) qn))), Qke (vs := [(.lit (.pointer none)), I x42]) ⟨Qch (n := 0) (m := 1) (j := 0) (i := 0) (xs := [[(.lit (.pointer none))]]) (by kernel_rfl) (by kernel_rfl) ti89 (by decide) rfl (nle rfl) rfl, Qch (n := 1) (m := 1) (j := 0) (i := 0) (xs := [[I x42]]) (by kernel_rfl) (by kernel_rfl) ti3 (by decide) rfl (nle rfl) rfl, trivial⟩ rfl (NLt.tup _ (nlc (NLt.of0 nll) (nlc (NLt.of0 nll) nl0))) (by kernel_rfl) (Qal (Qa4 (nlc (NLt.of0 nll) nl0)) (Qal (Qa4 (nlc (NLt.of0 nll) nl0)) Qbn))⟩
   ·replace h := Qax hc28 h
    refine wfn hc28 (by kernel_rfl) ?_
    refine Qbi ?_
    refine Qay ?_
    refine Qay ?_
    refine Qbh rfl ?_
    refine thn ?_
    exact ⟨(y18, y19, y20, y21), h, (mto (n := 45) [(6, .ref 1 1 0 0), (7, .ref 2 1 0 0)] [0, 1, 2, 3, 4, 5, 6] [(Qzw p0), Qo9, (.own 1 [[I 0]]), (Qok y18), (Qoj y19), (Qoi y20), (Qol p0 p1 p2 y21)] hφ1 (pc (.rn (rqr rfl)) (pc (.rn (rqr rfl)) pn)) (qc (spb (lc (.rn (.plain _ (nld Qah _))) (lc (.rn (.plain _ (nld Qaa _))) ln))) (qc (spb (lc (.rn (rqr rfl)) ln)) (qc (spb (lc rwl ln)) (qc (spr Qat) (qc (spr Qa9) (qc (spr Qab) (qc (spb (lc (.rn (.plain _ (nld Qah _))) (lc (.rn (.plain _ (nld Qaa _))) (lc (.rn (Qaz rfl)) (lc (.rn (Qaz rfl)) (lc (.rn (Qaz rfl)) (lc (.rn (.plain _ (nld Qai _))) (lc rwl ln)))))))) qn))))))))⟩
theorem Qn3 (N : Nat) (p0 : GNet) (p1 : (List Int)) (p2 : (List GStream)) (r : Int) (h : Qhe N p0 p1 p2 = some (.inl r)) : Spec Try.prog 29 [(Q13 p0), (Qnh p1), (Qmt p2)] [] (.tup [(.lit (.pointer none)), I r]) [(.own 1 [[(.lit (.pointer none))]]), (.own 1 [[I r]])] := Qku N p0 p1 p2 _ h
theorem Qn2 (N : Nat) (p0 : GNet) (p1 : (List Int)) (p2 : (List GStream)) (r : (Int × Int × (List (List GStream)) × (List GLost) × (List Int))) (h : Qhe N p0 p1 p2 = some (.inr r)) : Spec Try.prog 29 [(Q13 p0), (Qnh p1), (Qmt p2)] [] (.tup [.ref 2 7 0 0, I r.1]) [(.own 1 [[.ref 2 7 0 0]]), (.own 1 [[I r.1]]), (.own 7 [[(.dat 5 ((p0.Table : List GRow).map Qa3)), (.dat 7 ((p0.Elements : List GElement).map Qac)), (.own 3 1 (0) ((p0.Elements.length : Int).toNat)), (.own 4 4 (0) ((p0.Elements.length : Int).toNat)), (.own 5 1 (0) (p1.length)), (.dat 4 ((p2 : List GStream).map Qae)), I r.2.1]]), (.own 1 ((r.2.2.1 : List (List GStream)).map Qao)), (.own 4 ((r.2.2.2.1 : List GLost).map Qbd)), (.own 1 ((r.2.2.2.2 : List Int).map Qaj))] := Qku N p0 p1 p2 _ h
def Qtn (N : Nat) (p0 : GNet) (p1 : (List Int)) (p2 : (List GStream)) : Option (GTick × Int × Int) :=
  (Qm9 N p0 p1 p2).bind fun x11 =>
  bif (x11 != 0) then
   some ((⟨[], [], []⟩ : GTick), 0, x11)
  else
   (Qhe N p0 p1 p2).bind (
    Sum.elim (fun x15 =>
      bif (decide (x15 ≥ 0)) then
       some ((⟨[], [], []⟩ : GTick), x15, 11)
      else
       none)
    (fun x17 =>
      bif (decide (x17.1 ≥ 0)) then
       some ((⟨[], [], []⟩ : GTick), x17.1, 11)
      else
       chk (decide ((p0.Elements.length : Int).toNat ≤ x17.2.2.1.length)) <|
       chk (decide ((p0.Elements.length : Int).toNat ≤ x17.2.2.2.1.length)) <|
       chk (decide (p1.length ≤ x17.2.2.2.2.length)) <|
       some ((⟨x17.2.2.1.take ((p0.Elements.length : Int).toNat), x17.2.2.2.1.take ((p0.Elements.length : Int).toNat), x17.2.2.2.2.take p1.length⟩ : GTick), 0, 0)))
def Q9k (p0 : GNet) : AV := .dat 5 ((p0.Table : List GRow).map Qa3)
def Q9j (p0 : GNet) : AV := .dat 7 ((p0.Elements : List GElement).map Qac)
def Qzy (p0 : GNet) : AV := .agg [(Q9k p0), (Q9j p0)]
def Qzx (p1 : (List Int)) : AV := .dat 1 ((p1 : List Int).map Qaj)
def Qwa (p2 : (List GStream)) : AV := .dat 4 ((p2 : List GStream).map Qae)
def Q9g : AV := .agg [nilS, nilS, nilS]
def Q16 : Slot := .own 3 [[(.dat 1 ((((⟨[], [], []⟩ : GTick).Out) : List (List GStream)).map Qao)), (.dat 4 ((((⟨[], [], []⟩ : GTick).Lost) : List GLost).map Qbd)), (.dat 1 ((((⟨[], [], []⟩ : GTick).State) : List Int).map Qaj))]]
def Q9h : Slot := .own 3 [[nilS, nilS, nilS]]
def Qx2 : AV := .dat 1 (((⟨[], [], []⟩ : GTick).Out : List (List GStream)).map Qao)
def Qx1 : AV := .dat 4 (((⟨[], [], []⟩ : GTick).Lost : List GLost).map Qbd)
def Qx0 : AV := .dat 1 (((⟨[], [], []⟩ : GTick).State : List Int).map Qaj)
def Q15 : AV := .agg [Qx2, Qx1, Qx0]
def Zds : Slot := .own 1 [[(.lit (.pointer none))]]
def Q14 : Slot := .own 1 [[(.ref 4 7 (0) 0)]]
def Qr6 (p0 : GNet) (p1 : (List Int)) (p2 : (List GStream)) (x17 : (Int × Int × (List (List GStream)) × (List GLost) × (List Int))) : Slot := .own 7 [[(Q9k p0), (Q9j p0), (.own 5 1 (0) ((p0.Elements.length : Int).toNat)), (.own 6 4 (0) ((p0.Elements.length : Int).toNat)), (.own 7 1 (0) (p1.length)), (Qwa p2), (I (x17.2.1))]]
def Qni (x17 : (Int × Int × (List (List GStream)) × (List GLost) × (List Int))) (p0 : GNet) : AV := .dat 1 ((x17.2.2.1.take ((p0.Elements.length : Int).toNat) : List (List GStream)).map Qao)
def Q9i (p0 : GNet) : Slot := .own 2 [[(Q9k p0), (Q9j p0)]]
def Qr5 (x17 : (Int × Int × (List (List GStream)) × (List GLost) × (List Int))) (p0 : GNet) : AV := .dat 4 ((x17.2.2.2.1.take ((p0.Elements.length : Int).toNat) : List GLost).map Qbd)
def Q8d (x17 : (Int × Int × (List (List GStream)) × (List GLost) × (List Int))) (p0 : GNet) (p1 : (List Int)) : AV := .dat 1 (((⟨x17.2.2.1.take ((p0.Elements.length : Int).toNat), x17.2.2.2.1.take ((p0.Elements.length : Int).toNat), x17.2.2.2.2.take p1.length⟩ : GTick).Out : List (List GStream)).map Qao)
def Q8c (x17 : (Int × Int × (List (List GStream)) × (List GLost) × (List Int))) (p0 : GNet) (p1 : (List Int)) : AV := .dat 4 (((⟨x17.2.2.1.take ((p0.Elements.length : Int).toNat), x17.2.2.2.1.take ((p0.Elements.length : Int).toNat), x17.2.2.2.2.take p1.length⟩ : GTick).Lost : List GLost).map Qbd)
def Q8b (x17 : (Int × Int × (List (List GStream)) × (List GLost) × (List Int))) (p0 : GNet) (p1 : (List Int)) : AV := .dat 1 (((⟨x17.2.2.1.take ((p0.Elements.length : Int).toNat), x17.2.2.2.1.take ((p0.Elements.length : Int).toNat), x17.2.2.2.2.take p1.length⟩ : GTick).State : List Int).map Qaj)
theorem Qwy (N : Nat) (p0 : GNet) (p1 : (List Int)) (p2 : (List GStream)) (r : (GTick × Int × Int)) (h : Qtn N p0 p1 p2 = some r) : Spec Try.prog 8 [(.agg (Qia p0)), (.dat 1 (p1.map Qaj)), (.dat 4 (p2.map Qae))] [] (.tup [(.agg [(.dat 1 ((r.1.Out : List (List GStream)).map Qao)), (.dat 4 ((r.1.Lost : List GLost).map Qbd)), (.dat 1 ((r.1.State : List Int).map Qaj))]), (I (r.2.1)), (I (r.2.2))]) [] := by
  refine Qak Try.func8 rfl 0 (nle rfl) (fun X φ0 w0 hφ0 hd0 => ?_)
  unfold Qtn at h
  refine Qbp ?_
  refine wx tbk [] trivial ?_
  refine wsq ?_
  obtain ⟨x11, hf10, h⟩ := bno h
  refine wx tbk [(3, rp [fu 28, (.tmp 12, (Qzy p0)), (.tmp 13, (Qzx p1)), (.tmp 14, (Qwa p2))] (I x11))] ⟨apc (first := []) (cap := []) (vs := [(Qzy p0), (Qzx p1), (Qwa p2)]) rfl Zcz (Qry N p0 p1 p2 _ hf10) rfl rfl (nlc (NLt.agg _ (nlc (nld Qah _) (nlc (nld Qaa _) nl0))) (nlc (nld Qab _) (nlc (nld Qai _) nl0))) nll rfl, trivial⟩ ?_
  refine wx tbk [] trivial ?_
  rcases bft ((x11 != 0)) with hc12 | hc12
  ·replace h := Qaw hc12 h
   refine wft hc12 (by kernel_rfl) ?_
   refine wx tbk [(0, rp [] Q9g)] ⟨Qa2 (vs := []) rfl ts34 tz34 rfl (by rfl) rfl, trivial⟩ ?_
   refine wmr (mto (n := 35) (l' := [(6, .ref 0 3 0 0), (7, I 0), (8, I x11)]) (own' := [Q16]) [(6, .ref 1 3 0 0), (7, I 0), (8, I x11)] [1] [Q9h] hφ0 (pc (.rn (rqr rfl)) (pc rwl (pc rwl pn))) (qc (spb (lc (.nil _) (lc (.nil _) (lc (.nil _) ln)))) qn)) ?_
   refine Qad ?_
   refine Qaf ?_
   obtain rfl := osi h
   exact ⟨_, Mor.rfl, ⟨⟨[Q15, I 0, I x11], ⟨Qch (n := 0) (m := 3) (j := 0) (i := 0) (xs := [[Qx2, Qx1, Qx0]]) (by kernel_rfl) (by kernel_rfl) ti34 (by decide) rfl (nle rfl) rfl, rot (by kernel_rfl), rot (by kernel_rfl), trivial⟩, rfl⟩, (NLt.tup _ (nlc (NLt.agg _ (nlc (nld Qat _) (nlc (nld Qa9 _) (nlc (nld Qab _) nl0)))) (nlc nll (nlc nll nl0)))), Nat.le_refl _, fun n hn => absurd hn (Nat.not_lt_zero n)⟩⟩
  ·replace h := Qax hc12 h
   refine wfn hc12 (by kernel_rfl) ?_
   refine Qap ?_
   refine thn ?_
   obtain ⟨x14, hf13, h⟩ := bno h
   rcases x14 with x15 | x17
   ·replace h := Zeh h
    refine wx tbk [(3, ⟨[fu 29, (.tmp 21, (Qzy p0)), (.tmp 22, (Qzx p1)), (.tmp 23, (Qwa p2))], [(2, .unused), (3, .unused)], (.tup [(.lit (.pointer none)), I x15]), [(2, Zds), (3, .own 1 [[I x15]])], false⟩)] ⟨Qar (first := []) (cap := []) (vs := [(Qzy p0), (Qzx p1), (Qwa p2)]) (σr := []) (σr' := [Zds, (.own 1 [[I x15]])]) (res' := (.tup [(.lit (.pointer none)), I x15])) [2, 3] rfl Q4s (Qn3 N p0 p1 p2 _ hf13) rfl (Qbm (rnc (.plain _ (NLt.agg _ (nlc (nld Qah _) (nlc (nld Qaa _) nl0)))) (rnc (.plain _ (nld Qab _)) (rnc (.plain _ (nld Qai _)) rn0)))) Qaq (slc (Qag (rnc (.plain _ nll) rn0)) (slc (Qag (rnc (.plain _ nll) rn0)) Qaq)) (.plain _ (NLt.tup _ (nlc nll (nlc nll nl0)))) rfl rfl rfl, trivial⟩ ?_
    refine wsq ?_
    refine wx tbk [] trivial ?_
    rcases bft ((decide (x15 ≥ 0))) with hc16 | hc16
    ·replace h := Qaw hc16 h
     refine wft hc16 (by kernel_rfl) ?_
     refine wx tbk [(0, rp [] Q9g)] ⟨Qa2 (vs := []) rfl ts34 tz34 rfl (by rfl) rfl, trivial⟩ ?_
     refine wmr (mto (n := 35) (l' := [(6, .ref 0 3 0 0), (7, I x15), (8, I 11)]) (own' := [Q16]) [(6, .ref 1 3 0 0), (7, I x15), (8, I 11)] [1] [Q9h] hφ0 (pc (.rn (rqr rfl)) (pc rwl (pc rwl pn))) (qc (spb (lc (.nil _) (lc (.nil _) (lc (.nil _) ln)))) qn)) ?_
     refine Qad ?_
     refine Qaf ?_
     obtain rfl := osi h
     exact ⟨_, Mor.rfl, ⟨⟨[Q15, I x15, I 11], ⟨Qch (n := 0) (m := 3) (j := 0) (i := 0) (xs := [[Qx2, Qx1, Qx0]]) (by kernel_rfl) (by kernel_rfl) ti34 (by decide) rfl (nle rfl) rfl, rot (by kernel_rfl), rot (by kernel_rfl), trivial⟩, rfl⟩, (NLt.tup _ (nlc (NLt.agg _ (nlc (nld Qat _) (nlc (nld Qa9 _) (nlc (nld Qab _) nl0)))) (nlc nll (nlc nll nl0)))), Nat.le_refl _, fun n hn => absurd hn (Nat.not_lt_zero n)⟩⟩
    ·replace h := Qax hc16 h
     refine wfn hc16 (by kernel_rfl) ?_
     refine Qap ?_
     refine thn ?_
     cases h
   ·replace h := Zeg h
    refine wx tbk [(3, ⟨[fu 29, (.tmp 21, (Qzy p0)), (.tmp 22, (Qzx p1)), (.tmp 23, (Qwa p2))], [(2, .unused), (3, .unused), (4, .unused), (5, .unused), (6, .unused), (7, .unused)], (.tup [.ref 4 7 0 0, I x17.1]), [(2, Q14), (3, .own 1 [[I x17.1]]), (4, (Qr6 p0 p1 p2 x17)), (5, (.own 1 ((x17.2.2.1 : List (List GStream)).map Qao))), (6, (.own 4 ((x17.2.2.2.1 : List GLost).map Qbd))), (7, (.own 1 ((x17.2.2.2.2 : List Int).map Qaj)))], false⟩)] ⟨Qar (first := []) (cap := []) (vs := [(Qzy p0), (Qzx p1), (Qwa p2)]) (σr := []) (σr' := [Q14, (.own 1 [[I x17.1]]), (Qr6 p0 p1 p2 x17), (.own 1 ((x17.2.2.1 : List (List GStream)).map Qao)), (.own 4 ((x17.2.2.2.1 : List GLost).map Qbd)), (.own 1 ((x17.2.2.2.2 : List Int).map Qaj))]) (res' := (.tup [.ref 4 7 0 0, I x17.1])) [2, 3, 4, 5, 6, 7] rfl Q4s (Qn2 N p0 p1 p2 _ hf13) rfl (Qbm (rnc (.plain _ (NLt.agg _ (nlc (nld Qah _) (nlc (nld Qaa _) nl0)))) (rnc (.plain _ (nld Qab _)) (rnc (.plain _ (nld Qai _)) rn0)))) Qaq (slc (Qag (rnc (Qbb rfl) rn0)) (slc (Qag (rnc (.plain _ nll) rn0)) (slc (Qag (rnc (.plain _ (nld Qah _)) (rnc (.plain _ (nld Qaa _)) (rnc (Qdh rfl) (rnc (Qdh rfl) (rnc (Qdh rfl) (rnc (.plain _ (nld Qai _)) (rnc (.plain _ nll) rn0)))))))) (slc (Qa8 Qat) (slc (Qa8 Qa9) (slc (Qa8 Qab) Qaq)))))) (Zej (rnc (Qbb rfl) (rnc (.plain _ nll) rn0))) rfl rfl rfl, trivial⟩ ?_
    refine wsq ?_
    refine wx tbk [] trivial ?_
    rcases bft ((decide (x17.1 ≥ 0))) with hc18 | hc18
    ·replace h := Qaw hc18 h
     refine wft hc18 (by kernel_rfl) ?_
     refine wx tbk [(0, rp [] Q9g)] ⟨Qa2 (vs := []) rfl ts34 tz34 rfl (by rfl) rfl, trivial⟩ ?_
     refine wmr (mto (n := 35) (l' := [(6, .ref 0 3 0 0), (7, I x17.1), (8, I 11)]) (own' := [Q16]) [(6, .ref 1 3 0 0), (7, I x17.1), (8, I 11)] [1] [Q9h] hφ0 (pc (.rn (rqr rfl)) (pc rwl (pc rwl pn))) (qc (spb (lc (.nil _) (lc (.nil _) (lc (.nil _) ln)))) qn)) ?_
     refine Qad ?_
     refine Qaf ?_
     obtain rfl := osi h
     exact ⟨_, Mor.rfl, ⟨⟨[Q15, I x17.1, I 11], ⟨Qch (n := 0) (m := 3) (j := 0) (i := 0) (xs := [[Qx2, Qx1, Qx0]]) (by kernel_rfl) (by kernel_rfl) ti34 (by decide) rfl (nle rfl) rfl, rot (by kernel_rfl), rot (by kernel_rfl), trivial⟩, rfl⟩, (NLt.tup _ (nlc (NLt.agg _ (nlc (nld Qat _) (nlc (nld Qa9 _) (nlc (nld Qab _) nl0)))) (nlc nll (nlc nll nl0)))), Nat.le_refl _, fun n hn => absurd hn (Nat.not_lt_zero n)⟩⟩
    ·replace h := Qax hc18 h
     refine wfn hc18 (by kernel_rfl) ?_
     refine Qap ?_
     refine thn ?_
     refine wx tbk [(1, rb [(.tmp 31, .ref 4 7 0 0)] [(4, (Qr6 p0 p1 p2 x17))] (.ref 4 7 0 0))] ⟨Qbf rfl, trivial⟩ ?_
     obtain ⟨hz19, h⟩ := cko h
     refine wmr (Qw0 (n := 35) (mp := 3) (m := 1) (xs := (x17.2.2.1 : List (List GStream)).map Qao) (c := [(.own 5 1 (0) ((p0.Elements.length : Int).toNat)), (.own 6 4 (0) ((p0.Elements.length : Int).toNat)), (.own 7 1 (0) (p1.length))]) (l' := [(6, .ref 1 3 0 0), (7, I 0), (8, I 0)]) (c' := [(Qni x17 p0), (.own 6 4 (0) ((p0.Elements.length : Int).toNat)), (.own 7 1 (0) (p1.length))]) (own' := [(Q9i p0), (.own 3 [[(Qni x17 p0), (.own 6 4 (0) ((p0.Elements.length : Int).toNat)), (.own 7 1 (0) (p1.length))]]), Q14, (.own 1 [[I x17.1]]), (Qr6 p0 p1 p2 x17), .dead, (.own 4 ((x17.2.2.2.1 : List GLost).map Qbd)), (.own 1 ((x17.2.2.2.2 : List Int).map Qaj))]) 5 1 [(6, .ref 1 3 0 0), (7, I 0), (8, I 0)] (by kernel_rfl) (by kernel_rfl) (by kernel_rfl) (by kernel_rfl) ⟨(Qq0 hz19), (.same _), (.same _), trivial⟩ ⟨rfl, (.same _), rfl, (.same _), rfl, (.same _), trivial⟩ (by kernel_rfl)) ?_
     obtain ⟨hz20, h⟩ := cko h
     refine wmr (Qw0 (n := 35) (mp := 3) (m := 4) (xs := (x17.2.2.2.1 : List GLost).map Qbd) (c := [(Qni x17 p0), (.own 6 4 (0) ((p0.Elements.length : Int).toNat)), (.own 7 1 (0) (p1.length))]) (l' := [(6, .ref 1 3 0 0), (7, I 0), (8, I 0)]) (c' := [(Qni x17 p0), (Qr5 x17 p0), (.own 7 1 (0) (p1.length))]) (own' := [(Q9i p0), (.own 3 [[(Qni x17 p0), (Qr5 x17 p0), (.own 7 1 (0) (p1.length))]]), Q14, (.own 1 [[I x17.1]]), (Qr6 p0 p1 p2 x17), .dead, .dead, (.own 1 ((x17.2.2.2.2 : List Int).map Qaj))]) 6 1 [(6, .ref 1 3 0 0), (7, I 0), (8, I 0)] (by kernel_rfl) (by kernel_rfl) (by kernel_rfl) (by kernel_rfl) ⟨(.same _), (Qq0 hz20), (.same _), trivial⟩ ⟨rfl, (.same _), rfl, (.same _), rfl, (.same _), trivial⟩ (by kernel_rfl)) ?_
     obtain ⟨hz21, h⟩ := cko h
     refine wmr (Qw0 (n := 35) (mp := 3) (m := 1) (xs := (x17.2.2.2.2 : List Int).map Qaj) (c := [(Qni x17 p0), (Qr5 x17 p0), (.own 7 1 (0) (p1.length))]) (l' := [(6, .ref 1 3 0 0), (7, I 0), (8, I 0)]) (c' := [(Qni x17 p0), (Qr5 x17 p0), (.dat 1 ((x17.2.2.2.2.take p1.length : List Int).map Qaj))]) (own' := [(Q9i p0), (.own 3 [[(Qni x17 p0), (Qr5 x17 p0), (.dat 1 ((x17.2.2.2.2.take p1.length : List Int).map Qaj))]]), Q14, (.own 1 [[I x17.1]]), (Qr6 p0 p1 p2 x17), .dead, .dead, .dead]) 7 1 [(6, .ref 1 3 0 0), (7, I 0), (8, I 0)] (by kernel_rfl) (by kernel_rfl) (by kernel_rfl) (by kernel_rfl) ⟨(.same _), (.same _), (Qq0 hz21), trivial⟩ ⟨rfl, (.same _), rfl, (.same _), rfl, (.same _), trivial⟩ (by kernel_rfl)) ?_
     refine wmr (mto (n := 35) (l' := [(6, .ref 0 3 0 0), (7, I 0), (8, I 0)]) (own' := [(.own 3 [[(.dat 1 ((((⟨x17.2.2.1.take ((p0.Elements.length : Int).toNat), x17.2.2.2.1.take ((p0.Elements.length : Int).toNat), x17.2.2.2.2.take p1.length⟩ : GTick).Out) : List (List GStream)).map Qao)), (.dat 4 ((((⟨x17.2.2.1.take ((p0.Elements.length : Int).toNat), x17.2.2.2.1.take ((p0.Elements.length : Int).toNat), x17.2.2.2.2.take p1.length⟩ : GTick).Lost) : List GLost).map Qbd)), (.dat 1 ((((⟨x17.2.2.1.take ((p0.Elements.length : Int).toNat), x17.2.2.2.1.take ((p0.Elements.length : Int).toNat), x17.2.2.2.2.take p1.length⟩ : GTick).State) : List Int).map Qaj))]])]) [(6, .ref 1 3 0 0), (7, I 0), (8, I 0)] [1] [(.own 3 [[(Qni x17 p0), (Qr5 x17 p0), (.dat 1 ((x17.2.2.2.2.take p1.length : List Int).map Qaj))]])] hφ0 (pc (.rn (rqr rfl)) (pc rwl (pc rwl pn))) (qc (spb (lc (.rn (.plain _ (nld Qat _))) (lc (.rn (.plain _ (nld Qa9 _))) (lc (.rn (.plain _ (nld Qab _))) ln)))) qn)) ?_
     refine Qad ?_
     obtain rfl := osi h
     exact ⟨_, Mor.rfl, ⟨⟨[(.agg [(Q8d x17 p0 p1), (Q8c x17 p0 p1), (Q8b x17 p0 p1)]), I 0, I 0], ⟨Qch (n := 0) (m := 3) (j := 0) (i := 0) (xs := [[(Q8d x17 p0 p1), (Q8c x17 p0 p1), (Q8b x17 p0 p1)]]) (by kernel_rfl) (by kernel_rfl) ti34 (by decide) rfl (nle rfl) rfl, rot (by kernel_rfl), rot (by kernel_rfl), trivial⟩, rfl⟩, (NLt.tup _ (nlc (NLt.agg _ (nlc (nld Qat _) (nlc (nld Qa9 _) (nlc (nld Qab _) nl0)))) (nlc nll (nlc nll nl0)))), Nat.le_refl _, fun n hn => absurd hn (Nat.not_lt_zero n)⟩⟩
def Qnd (_N : Nat) : Option (GNet × (List GStream)) :=
  some ((⟨[(⟨100, 101, 419, 2676, 150⟩ : GRow), (⟨150, 476, 632, 2746, 300⟩ : GRow), (⟨200, 1555, 852, 2793, 600⟩ : GRow)], [(⟨1, [], 2, 0, 1000, 1000000, []⟩ : GElement), (⟨3, [(⟨0, 0⟩ : GPort)], 2, 2000, 1000, 1000000, []⟩ : GElement), (⟨4, [(⟨1, 0⟩ : GPort)], 0, 100, 1000, 1000000, []⟩ : GElement)]⟩ : GNet), [(⟨1000, 852000, 250000, 50⟩ : GStream)])
def Q9c : AV := .agg [(I (100)), (I (101)), (I (419)), (I (2676)), (I (150))]
def Q9b : AV := .agg [(I (150)), (I (476)), (I (632)), (I (2746)), (I (300))]
def Q9a : AV := .agg [(I (200)), (I (1555)), (I (852)), (I (2793)), (I (600))]
def Qzv : AV := .dat 5 (([(⟨100, 101, 419, 2676, 150⟩ : GRow), (⟨150, 476, 632, 2746, 300⟩ : GRow), (⟨200, 1555, 852, 2793, 600⟩ : GRow)] : List GRow).map Qa3)
def Zdo : AV := .agg [(K .u8 (1)), nilS, (I (2)), (I (0)), (I (1000)), (I (1000000)), nilS]
def Q89 : AV := .agg [(I (0)), (I (0))]
def Q1y : AV := .dat 2 (([(⟨0, 0⟩ : GPort)] : List GPort).map Qam)
def Zdn : AV := .agg [(K .u8 (3)), Q1y, (I (2)), (I (2000)), (I (1000)), (I (1000000)), nilS]
def Q88 : AV := .agg [(I (1)), (I (0))]
def Q1x : AV := .dat 2 (([(⟨1, 0⟩ : GPort)] : List GPort).map Qam)
def Q79 : AV := .agg [(K .u8 (4)), Q1x, (I (0)), (I (100)), (I (1000)), (I (1000000)), nilS]
def Qr3 : AV := .dat 7 (([(⟨1, [], 2, 0, 1000, 1000000, []⟩ : GElement), (⟨3, [(⟨0, 0⟩ : GPort)], 2, 2000, 1000, 1000000, []⟩ : GElement), (⟨4, [(⟨1, 0⟩ : GPort)], 0, 100, 1000, 1000000, []⟩ : GElement)] : List GElement).map Qac)
def Q10 : AV := .dat 1 (([] : List Int).map Qaj)
def Q78 : AV := .agg [(K .u8 (1)), (.dat 2 (([] : List GPort).map Qam)), (I (2)), (I (0)), (I (1000)), (I (1000000)), Q10]
def Q77 : AV := .agg [(K .u8 (3)), Q1y, (I (2)), (I (2000)), (I (1000)), (I (1000000)), Q10]
def Q76 : AV := .agg [(K .u8 (4)), Q1x, (I (0)), (I (100)), (I (1000)), (I (1000000)), Q10]
def Q1z : AV := .agg [(I (1000)), (I (852000)), (I (250000)), (I (50))]
def Q75 : AV := .dat 4 (([(⟨1000, 852000, 250000, 50⟩ : GStream)] : List GStream).map Qae)
theorem Qrz (N : Nat) (r : (GNet × (List GStream))) (h : Qnd N = some r) : Spec Try.prog 27 [] [] (.tup [(.agg (Qia r.1)), (.dat 4 (r.2.map Qae))]) [] := by
  refine Qak Try.func27 rfl 0 (nle rfl) (fun X φ0 w0 hφ0 hd0 => ?_)
  unfold Qnd at h
  refine wx tbk [] trivial ?_
  refine wx tbk [(0, rp [ci 100, ci 101, ci 419, ci 2676, ci 150] Q9c), (1, rp [ci 150, ci 476, ci 632, ci 2746, ci 300] Q9b), (2, rp [ci 200, ci 1555, ci 852, ci 2793, ci 600] Q9a), (3, rp [(.tmp 4, Q9c), (.tmp 5, Q9b), (.tmp 6, Q9a)] Qzv)] ⟨Qa2 (vs := [I 100, I 101, I 419, I 2676, I 150]) rfl Q6x Qwr rfl (by rfl) rfl, Qa2 (vs := [I 150, I 476, I 632, I 2746, I 300]) rfl Q6x Qwr rfl (by rfl) rfl, Qa2 (vs := [I 200, I 1555, I 852, I 2793, I 600]) rfl Q6x Qwr rfl (by rfl) rfl, Qb1 (vs := [Q9c, Q9b, Q9a]) rfl Try.underlying39 Qrv Qwr rfl (by decide) rfl (by decide) (by rfl) (by rfl) (by rfl) rfl, trivial⟩ ?_
  refine wx tbk [(0, rp [(.const (.int .u8 1), (K .u8 (1))), ci 2, ci 1000, ci 1000000] Zdo), (1, rp [] Q89), (2, rp [(.tmp 9, Q89)] Q1y), (3, rp [(.const (.int .u8 3), (K .u8 (3))), (.tmp 10, Q1y), ci 2, ci 2000, ci 1000, ci 1000000] Zdn), (4, rp [ci 1] Q88), (5, rp [(.tmp 12, Q88)] Q1x), (6, rp [(.const (.int .u8 4), (K .u8 (4))), (.tmp 13, Q1x), ci 100, ci 1000, ci 1000000] Q79), (7, rp [(.tmp 8, Zdo), (.tmp 11, Zdn), (.tmp 14, Q79)] Qr3)] ⟨Qa2 (vs := [(K .u8 (1)), I 2, I 1000, I 1000000]) rfl ts76 tz76 rfl (by rfl) rfl, Qa2 (vs := []) rfl ts57 tz57 rfl (by rfl) rfl, Qb1 (vs := [Q89]) rfl Try.underlying53 ti57 tz57 rfl (by decide) rfl (by decide) (by rfl) (by rfl) (by rfl) rfl, Qa2 (vs := [(K .u8 (3)), Q1y, I 2, I 2000, I 1000, I 1000000]) rfl ts76 tz76 rfl (by rfl) rfl, Qa2 (vs := [I 1]) rfl ts57 tz57 rfl (by rfl) rfl, Qb1 (vs := [Q88]) rfl Try.underlying53 ti57 tz57 rfl (by decide) rfl (by decide) (by rfl) (by rfl) (by rfl) rfl, Qa2 (vs := [(K .u8 (4)), Q1x, I 100, I 1000, I 1000000]) rfl ts76 tz76 rfl (by rfl) rfl, awk (rd' := [(.tmp 8, Q78), (.tmp 11, Q77), (.tmp 14, Q76)]) ⟨rfl, (Less.agg ⟨lrf, Less.nil, lrf, lrf, lrf, lrf, Less.nil, trivial⟩), rfl, (Less.agg ⟨lrf, lrf, lrf, lrf, lrf, lrf, Less.nil, trivial⟩), rfl, (Less.agg ⟨lrf, lrf, lrf, lrf, lrf, lrf, Less.nil, trivial⟩), trivial⟩ (Qb1 (vs := [Q78, Q77, Q76]) rfl Try.underlying40 ti76 tz76 rfl (by decide) rfl (by decide) (by rfl) (by rfl) (by rfl) rfl), trivial⟩ ?_
  refine wx tbk [(2, rp [(.tmp 16, Qzv), (.tmp 17, Qr3)] (.agg [Qzv, Qr3])), (3, rp [ci 1000, ci 852000, ci 250000, ci 50] Q1z), (4, rp [(.tmp 19, Q1z)] Q75)] ⟨Qa2 (vs := [Qzv, Qr3]) rfl ts42 tz42 rfl (by rfl) rfl, Qa2 (vs := [I 1000, I 852000, I 250000, I 50]) rfl ts48 tz48 rfl (by rfl) rfl, Qb1 (vs := [Q1z]) rfl Try.underlying45 ti48 tz48 rfl (by decide) rfl (by decide) (by rfl) (by rfl) (by rfl) rfl, trivial⟩ ?_
  refine Qad ?_
  obtain rfl := osi h
  exact fend ⟨[(.agg [Qzv, Qr3]), Q75], ⟨Qch (n := 0) (m := 2) (j := 0) (i := 0) (xs := [[Qzv, Qr3]]) (by kernel_rfl) (by kernel_rfl) ti42 (by decide) rfl (nle rfl) rfl, rot (by kernel_rfl), trivial⟩, rfl⟩ (NLt.tup _ (nlc (NLt.agg _ (nlc (nld Qah _) (nlc (nld Qaa _) nl0))) (nlc (nld Qai _) nl0)))
def Qgl (N : Nat) : Option Bool :=
  (Qnd 2000 ).bind fun x2 =>
  (Qhb N (⟨x2.1.Table, x2.1.Elements⟩ : GNet)).bind fun x4 =>
  (Qtn N (⟨x2.1.Table, x2.1.Elements⟩ : GNet) ([0, 0, 0]) x2.2).bind fun x6 =>
  bif (x4.2 == 0) then
   bif (x6.2.2 == 0) then
    bif ((x4.1.length : Int) == 2) then
     (getI x4.1 1).bind fun x10 =>
     bif (([x10.Element, x10.Outlet] : List Int) == [2, 1]) then
      bif ((x6.1.Out.length : Int) == 3) then
       (getI x6.1.Out 2).bind fun x16 =>
       bif ((x16.length : Int) == 2) then
        bif ((x6.1.Lost.length : Int) == 3) then
         (getI x16 0).bind fun x22 =>
         bif (([x22.Mass, x22.Heat, x22.Silica, x22.Gas] : List Int) == [271, 542596, 12150, 50]) then
          (getI x16 1).bind fun x27 =>
          bif (([x27.Mass, x27.Heat, x27.Silica, x27.Gas] : List Int) == [729, 307404, 109350, 0]) then
           (getI x6.1.Lost 1).bind fun x32 =>
           bif (x32.Heat == 2000) then
            (getI x6.1.Lost 2).bind fun x37 =>
            some (x37.Scale == 128500)
           else
            some false
          else
           some false
         else
          some false
        else
         some false
       else
        some false
      else
       some false
     else
      some false
    else
     some false
   else
    some false
  else
   some false
def Q11 (x2 : (GNet × (List GStream))) : AV := .agg [(.dat 5 ((x2.1.Table : List GRow).map Qa3)), (.dat 7 ((x2.1.Elements : List GElement).map Qac))]
def Q9e (x2 : (GNet × (List GStream))) : AV := .dat 4 ((x2.2 : List GStream).map Qae)
def Qlj (x4 : ((List GPort) × Int)) : AV := .dat 2 ((x4.1 : List GPort).map Qam)
def Q9d : AV := .dat 1 (([0, 0, 0] : List Int).map Qaj)
def Qkf (x6 : (GTick × Int × Int)) : AV := .dat 1 ((x6.1.Out : List (List GStream)).map Qao)
def Qs3 (x6 : (GTick × Int × Int)) : AV := .dat 4 ((x6.1.Lost : List GLost).map Qbd)
def Qjd : AV := .agg [(I (2)), (I (1))]
def Qo8 (x10 : GPort) : AV := .agg [(I (x10.Element)), (I (x10.Outlet))]
def Qkp (x16 : (List GStream)) : AV := .dat 4 ((x16 : List GStream).map Qae)
def Qo7 : AV := .agg [(I (271)), (I (542596)), (I (12150)), (I (50))]
def Qxz (x22 : GStream) : AV := .agg [(I (x22.Mass)), (I (x22.Heat)), (I (x22.Silica)), (I (x22.Gas))]
def Qr4 : AV := .agg [(I (729)), (I (307404)), (I (109350)), (I (0))]
def Q12 (x27 : GStream) : AV := .agg [(I (x27.Mass)), (I (x27.Heat)), (I (x27.Silica)), (I (x27.Gas))]
theorem Qg5 (N : Nat) (r : Bool) (h : Qgl N = some r) : Spec Try.prog 7 [] [] (B r) [] := by
  refine Qak Try.func7 rfl 0 (nle rfl) (fun X φ0 w0 hφ0 hd0 => ?_)
  unfold Qgl at h
  refine wx tbk [] trivial ?_
  obtain ⟨x2, hf1, h⟩ := bno h
  refine wx tbk [(0, rp [fu 27] (.tup [(Q11 x2), (Q9e x2)]))] ⟨apc (first := []) (cap := []) (vs := []) rfl Zc0 (Qrz 2000  _ hf1) rfl rfl nl0 (NLt.tup _ (nlc (NLt.agg _ (nlc (nld Qah _) (nlc (nld Qaa _) nl0))) (nlc (nld Qai _) nl0))) rfl, trivial⟩ ?_
  obtain ⟨x4, hf3, h⟩ := bno h
  refine wx tbk [(1, rp [fu 13, (.tmp 13, (Q11 x2))] (.tup [(Qlj x4), I x4.2]))] ⟨apc (first := []) (cap := []) (vs := [(Q11 x2)]) rfl Q4t (Qn4 N (⟨x2.1.Table, x2.1.Elements⟩ : GNet) _ hf3) rfl rfl (nlc (NLt.agg _ (nlc (nld Qah _) (nlc (nld Qaa _) nl0))) nl0) (NLt.tup _ (nlc (nld Qau _) (nlc nll nl0))) rfl, trivial⟩ ?_
  obtain ⟨x6, hf5, h⟩ := bno h
  refine wx tbk [(1, rp [ci 0, ci 0, ci 0] Q9d), (3, rp [fu 8, (.tmp 18, (Q11 x2)), (.tmp 19, Q9d), (.tmp 20, (Q9e x2))] (.tup [(.agg [(Qkf x6), (Qs3 x6), (.dat 1 ((x6.1.State : List Int).map Qaj))]), I x6.2.1, I x6.2.2]))] ⟨Qb1 (vs := [I 0, I 0, I 0]) rfl Try.underlying27 ti3 tz3 rfl (by decide) rfl (by decide) (by rfl) (by rfl) (by rfl) rfl, apc (first := []) (cap := []) (vs := [(Q11 x2), Q9d, (Q9e x2)]) rfl Zet (Qwy N (⟨x2.1.Table, x2.1.Elements⟩ : GNet) ([0, 0, 0]) x2.2 _ hf5) rfl rfl (nlc (NLt.agg _ (nlc (nld Qah _) (nlc (nld Qaa _) nl0))) (nlc (nld Qab _) (nlc (nld Qai _) nl0))) (NLt.tup _ (nlc (NLt.agg _ (nlc (nld Qat _) (nlc (nld Qa9 _) (nlc (nld Qab _) nl0)))) (nlc nll (nlc nll nl0)))) rfl, trivial⟩ ?_
  rcases bft ((x4.2 == 0)) with hb7 | hb7
  ·replace h := Qaw hb7 h
   rcases bft ((x6.2.2 == 0)) with hb8 | hb8
   ·replace h := Qaw hb8 h
    rcases bft (((x4.1.length : Int) == 2)) with hb9 | hb9
    ·replace h := Qaw hb9 h
     obtain ⟨x10, hg11, h⟩ := bno h
     obtain ⟨hi12, hj13⟩ := gsm hg11
     rcases bft ((([x10.Element, x10.Outlet] : List Int) == [2, 1])) with hb14 | hb14
     ·replace h := Qaw hb14 h
      rcases bft (((x6.1.Out.length : Int) == 3)) with hb15 | hb15
      ·replace h := Qaw hb15 h
       obtain ⟨x16, hg17, h⟩ := bno h
       obtain ⟨hi18, hj19⟩ := gsm hg17
       rcases bft (((x16.length : Int) == 2)) with hb20 | hb20
       ·replace h := Qaw hb20 h
        rcases bft (((x6.1.Lost.length : Int) == 3)) with hb21 | hb21
        ·replace h := Qaw hb21 h
         obtain ⟨x22, hg23, h⟩ := bno h
         obtain ⟨hi24, hj25⟩ := gsm hg23
         rcases bft ((([x22.Mass, x22.Heat, x22.Silica, x22.Gas] : List Int) == [271, 542596, 12150, 50])) with hb26 | hb26
         ·replace h := Qaw hb26 h
          obtain ⟨x27, hg28, h⟩ := bno h
          obtain ⟨hi29, hj30⟩ := gsm hg28
          rcases bft ((([x27.Mass, x27.Heat, x27.Silica, x27.Gas] : List Int) == [729, 307404, 109350, 0])) with hb31 | hb31
          ·replace h := Qaw hb31 h
           obtain ⟨x32, hg33, h⟩ := bno h
           obtain ⟨hi34, hj35⟩ := gsm hg33
           rcases bft ((x32.Heat == 2000)) with hb36 | hb36
           ·replace h := Qaw hb36 h
            obtain ⟨x37, hg38, h⟩ := bno h
            obtain ⟨hi39, hj40⟩ := gsm hg38
            refine wx tbk [(2, rp [(.tmp 26, (B ((x4.2 == 0))))] (B true)), (6, rp [(.tmp 30, (B ((x6.2.2 == 0))))] (B true)), (8, rp [(.tmp 31, B true), (.tmp 32, (Qlj x4))] (I ((x4.1.length : Int)))), (11, rp [(.tmp 35, (B (((x4.1.length : Int) == 2))))] (B true)), (13, rp [(.tmp 36, B true), (.tmp 37, (Qlj x4)), ci 1] (.dptr (Qam (x10)) 0)), (15, rp [(.tmp 36, B true), ci 2, ci 1] Qjd), (16, rp [(.tmp 36, B true), (.tmp 39, (Qo8 x10)), (.tmp 40, Qjd)] (B ((([x10.Element, x10.Outlet] : List Int) == [2, 1])))), (18, rp [(.tmp 42, (B ((([x10.Element, x10.Outlet] : List Int) == [2, 1]))))] (B true)), (21, rp [(.tmp 43, B true), (.tmp 45, (Qkf x6))] (I ((x6.1.Out.length : Int)))), (24, rp [(.tmp 48, (B (((x6.1.Out.length : Int) == 3))))] (B true)), (27, rp [(.tmp 49, B true), (.tmp 51, (Qkf x6)), ci 2] (.dptr (Qao (x16)) 0)), (29, rp [(.tmp 49, B true), (.tmp 53, (Qkp x16))] (I ((x16.length : Int)))), (32, rp [(.tmp 56, (B (((x16.length : Int) == 2))))] (B true)), (35, rp [(.tmp 57, B true), (.tmp 59, (Qs3 x6))] (I ((x6.1.Lost.length : Int)))), (38, rp [(.tmp 62, (B (((x6.1.Lost.length : Int) == 3))))] (B true)), (41, rp [(.tmp 63, B true), (.tmp 65, (Qkf x6)), ci 2] (.dptr (Qao (x16)) 0)), (43, rp [(.tmp 63, B true), (.tmp 67, (Qkp x16)), ci 0] (.dptr (Qae (x22)) 0)), (45, rp [(.tmp 63, B true), ci 271, ci 542596, ci 12150, ci 50] Qo7), (46, rp [(.tmp 63, B true), (.tmp 69, (Qxz x22)), (.tmp 70, Qo7)] (B ((([x22.Mass, x22.Heat, x22.Silica, x22.Gas] : List Int) == [271, 542596, 12150, 50])))), (48, rp [(.tmp 72, (B ((([x22.Mass, x22.Heat, x22.Silica, x22.Gas] : List Int) == [271, 542596, 12150, 50]))))] (B true)), (51, rp [(.tmp 73, B true), (.tmp 75, (Qkf x6)), ci 2] (.dptr (Qao (x16)) 0)), (53, rp [(.tmp 73, B true), (.tmp 77, (Qkp x16)), ci 1] (.dptr (Qae (x27)) 0)), (55, rp [(.tmp 73, B true), ci 729, ci 307404, ci 109350] Qr4), (56, rp [(.tmp 73, B true), (.tmp 79, (Q12 x27)), (.tmp 80, Qr4)] (B ((([x27.Mass, x27.Heat, x27.Silica, x27.Gas] : List Int) == [729, 307404, 109350, 0])))), (58, rp [(.tmp 82, (B ((([x27.Mass, x27.Heat, x27.Silica, x27.Gas] : List Int) == [729, 307404, 109350, 0]))))] (B true)), (61, rp [(.tmp 83, B true), (.tmp 85, (Qs3 x6)), ci 1] (.dptr (Qbd (x32)) 0)), (66, rp [(.tmp 90, (B ((x32.Heat == 2000))))] (B true)), (69, rp [(.tmp 91, B true), (.tmp 93, (Qs3 x6)), ci 2] (.dptr (Qbd (x37)) 0))] ⟨asb hb7 (amv rfl), asb hb8 (amv rfl), ag_ (alm (c := Qam) (l := x4.1) (aln rfl Try.underlying53 rfl)), asb hb9 (amv rfl), ag_ (aid rfl Try.underlying53 ti57 rfl rfl hi12 (mgt Qam hj13) rfl), ag_ (Qa2 (vs := [I 2, I 1]) rfl ts57 tz57 rfl (by rfl) rfl), ag_ (Qe4 (ls := [x10.Element, x10.Outlet]) (ks := [2, 1]) rfl rfl Qne (by kernel_rfl) rfl rfl), asb hb14 (amv rfl), ag_ (alm (c := Qao) (l := x6.1.Out) (aln rfl Try.underlying31 rfl)), asb hb15 (amv rfl), ag_ (aid rfl Try.underlying31 ti45 rfl rfl hi18 (mgt Qao hj19) rfl), ag_ (alm (c := Qae) (l := x16) (aln rfl Try.underlying45 rfl)), asb hb20 (amv rfl), ag_ (alm (c := Qbd) (l := x6.1.Lost) (aln rfl Try.underlying32 rfl)), asb hb21 (amv rfl), ag_ (aid rfl Try.underlying31 ti45 rfl rfl hi18 (mgt Qao hj19) rfl), ag_ (aid rfl Try.underlying45 ti48 rfl rfl hi24 (mgt Qae hj25) rfl), ag_ (Qa2 (vs := [I 271, I 542596, I 12150, I 50]) rfl ts48 tz48 rfl (by rfl) rfl), ag_ (Qe4 (ls := [x22.Mass, x22.Heat, x22.Silica, x22.Gas]) (ks := [271, 542596, 12150, 50]) rfl rfl Qw7 (by kernel_rfl) rfl rfl), asb hb26 (amv rfl), ag_ (aid rfl Try.underlying31 ti45 rfl rfl hi18 (mgt Qao hj19) rfl), ag_ (aid rfl Try.underlying45 ti48 rfl rfl hi29 (mgt Qae hj30) rfl), ag_ (Qa2 (vs := [I 729, I 307404, I 109350]) rfl ts48 tz48 rfl (by rfl) rfl), ag_ (Qe4 (ls := [x27.Mass, x27.Heat, x27.Silica, x27.Gas]) (ks := [729, 307404, 109350, 0]) rfl rfl Qw7 (by kernel_rfl) rfl rfl), asb hb31 (amv rfl), ag_ (aid rfl Try.underlying32 ti50 rfl rfl hi34 (mgt Qbd hj35) rfl), asb hb36 (amv rfl), ag_ (aid rfl Try.underlying32 ti50 rfl rfl hi39 (mgt Qbd hj40) rfl), trivial⟩ ?_
            refine Qad ?_
            obtain rfl := osi h
            exact fend ⟨[(B ((x37.Scale == 128500)))], ⟨rot (by kernel_rfl), trivial⟩, rfl⟩ nll
           ·replace h := Qax hb36 h
            refine wx tbk [(2, rp [(.tmp 26, (B ((x4.2 == 0))))] (B true)), (6, rp [(.tmp 30, (B ((x6.2.2 == 0))))] (B true)), (8, rp [(.tmp 31, B true), (.tmp 32, (Qlj x4))] (I ((x4.1.length : Int)))), (11, rp [(.tmp 35, (B (((x4.1.length : Int) == 2))))] (B true)), (13, rp [(.tmp 36, B true), (.tmp 37, (Qlj x4)), ci 1] (.dptr (Qam (x10)) 0)), (15, rp [(.tmp 36, B true), ci 2, ci 1] Qjd), (16, rp [(.tmp 36, B true), (.tmp 39, (Qo8 x10)), (.tmp 40, Qjd)] (B ((([x10.Element, x10.Outlet] : List Int) == [2, 1])))), (18, rp [(.tmp 42, (B ((([x10.Element, x10.Outlet] : List Int) == [2, 1]))))] (B true)), (21, rp [(.tmp 43, B true), (.tmp 45, (Qkf x6))] (I ((x6.1.Out.length : Int)))), (24, rp [(.tmp 48, (B (((x6.1.Out.length : Int) == 3))))] (B true)), (27, rp [(.tmp 49, B true), (.tmp 51, (Qkf x6)), ci 2] (.dptr (Qao (x16)) 0)), (29, rp [(.tmp 49, B true), (.tmp 53, (Qkp x16))] (I ((x16.length : Int)))), (32, rp [(.tmp 56, (B (((x16.length : Int) == 2))))] (B true)), (35, rp [(.tmp 57, B true), (.tmp 59, (Qs3 x6))] (I ((x6.1.Lost.length : Int)))), (38, rp [(.tmp 62, (B (((x6.1.Lost.length : Int) == 3))))] (B true)), (41, rp [(.tmp 63, B true), (.tmp 65, (Qkf x6)), ci 2] (.dptr (Qao (x16)) 0)), (43, rp [(.tmp 63, B true), (.tmp 67, (Qkp x16)), ci 0] (.dptr (Qae (x22)) 0)), (45, rp [(.tmp 63, B true), ci 271, ci 542596, ci 12150, ci 50] Qo7), (46, rp [(.tmp 63, B true), (.tmp 69, (Qxz x22)), (.tmp 70, Qo7)] (B ((([x22.Mass, x22.Heat, x22.Silica, x22.Gas] : List Int) == [271, 542596, 12150, 50])))), (48, rp [(.tmp 72, (B ((([x22.Mass, x22.Heat, x22.Silica, x22.Gas] : List Int) == [271, 542596, 12150, 50]))))] (B true)), (51, rp [(.tmp 73, B true), (.tmp 75, (Qkf x6)), ci 2] (.dptr (Qao (x16)) 0)), (53, rp [(.tmp 73, B true), (.tmp 77, (Qkp x16)), ci 1] (.dptr (Qae (x27)) 0)), (55, rp [(.tmp 73, B true), ci 729, ci 307404, ci 109350] Qr4), (56, rp [(.tmp 73, B true), (.tmp 79, (Q12 x27)), (.tmp 80, Qr4)] (B ((([x27.Mass, x27.Heat, x27.Silica, x27.Gas] : List Int) == [729, 307404, 109350, 0])))), (58, rp [(.tmp 82, (B ((([x27.Mass, x27.Heat, x27.Silica, x27.Gas] : List Int) == [729, 307404, 109350, 0]))))] (B true)), (61, rp [(.tmp 83, B true), (.tmp 85, (Qs3 x6)), ci 1] (.dptr (Qbd (x32)) 0)), (66, rp [(.tmp 90, (B ((x32.Heat == 2000))))] (B false))] ⟨asb hb7 (amv rfl), asb hb8 (amv rfl), ag_ (alm (c := Qam) (l := x4.1) (aln rfl Try.underlying53 rfl)), asb hb9 (amv rfl), ag_ (aid rfl Try.underlying53 ti57 rfl rfl hi12 (mgt Qam hj13) rfl), ag_ (Qa2 (vs := [I 2, I 1]) rfl ts57 tz57 rfl (by rfl) rfl), ag_ (Qe4 (ls := [x10.Element, x10.Outlet]) (ks := [2, 1]) rfl rfl Qne (by kernel_rfl) rfl rfl), asb hb14 (amv rfl), ag_ (alm (c := Qao) (l := x6.1.Out) (aln rfl Try.underlying31 rfl)), asb hb15 (amv rfl), ag_ (aid rfl Try.underlying31 ti45 rfl rfl hi18 (mgt Qao hj19) rfl), ag_ (alm (c := Qae) (l := x16) (aln rfl Try.underlying45 rfl)), asb hb20 (amv rfl), ag_ (alm (c := Qbd) (l := x6.1.Lost) (aln rfl Try.underlying32 rfl)), asb hb21 (amv rfl), ag_ (aid rfl Try.underlying31 ti45 rfl rfl hi18 (mgt Qao hj19) rfl), ag_ (aid rfl Try.underlying45 ti48 rfl rfl hi24 (mgt Qae hj25) rfl), ag_ (Qa2 (vs := [I 271, I 542596, I 12150, I 50]) rfl ts48 tz48 rfl (by rfl) rfl), ag_ (Qe4 (ls := [x22.Mass, x22.Heat, x22.Silica, x22.Gas]) (ks := [271, 542596, 12150, 50]) rfl rfl Qw7 (by kernel_rfl) rfl rfl), asb hb26 (amv rfl), ag_ (aid rfl Try.underlying31 ti45 rfl rfl hi18 (mgt Qao hj19) rfl), ag_ (aid rfl Try.underlying45 ti48 rfl rfl hi29 (mgt Qae hj30) rfl), ag_ (Qa2 (vs := [I 729, I 307404, I 109350]) rfl ts48 tz48 rfl (by rfl) rfl), ag_ (Qe4 (ls := [x27.Mass, x27.Heat, x27.Silica, x27.Gas]) (ks := [729, 307404, 109350, 0]) rfl rfl Qw7 (by kernel_rfl) rfl rfl), asb hb31 (amv rfl), ag_ (aid rfl Try.underlying32 ti50 rfl rfl hi34 (mgt Qbd hj35) rfl), asb hb36 (amv rfl), trivial⟩ ?_
            refine Qad ?_
            obtain rfl := osi h
            exact fend ⟨[B false], ⟨rot (by kernel_rfl), trivial⟩, rfl⟩ nll
          ·replace h := Qax hb31 h
           refine wx tbk [(2, rp [(.tmp 26, (B ((x4.2 == 0))))] (B true)), (6, rp [(.tmp 30, (B ((x6.2.2 == 0))))] (B true)), (8, rp [(.tmp 31, B true), (.tmp 32, (Qlj x4))] (I ((x4.1.length : Int)))), (11, rp [(.tmp 35, (B (((x4.1.length : Int) == 2))))] (B true)), (13, rp [(.tmp 36, B true), (.tmp 37, (Qlj x4)), ci 1] (.dptr (Qam (x10)) 0)), (15, rp [(.tmp 36, B true), ci 2, ci 1] Qjd), (16, rp [(.tmp 36, B true), (.tmp 39, (Qo8 x10)), (.tmp 40, Qjd)] (B ((([x10.Element, x10.Outlet] : List Int) == [2, 1])))), (18, rp [(.tmp 42, (B ((([x10.Element, x10.Outlet] : List Int) == [2, 1]))))] (B true)), (21, rp [(.tmp 43, B true), (.tmp 45, (Qkf x6))] (I ((x6.1.Out.length : Int)))), (24, rp [(.tmp 48, (B (((x6.1.Out.length : Int) == 3))))] (B true)), (27, rp [(.tmp 49, B true), (.tmp 51, (Qkf x6)), ci 2] (.dptr (Qao (x16)) 0)), (29, rp [(.tmp 49, B true), (.tmp 53, (Qkp x16))] (I ((x16.length : Int)))), (32, rp [(.tmp 56, (B (((x16.length : Int) == 2))))] (B true)), (35, rp [(.tmp 57, B true), (.tmp 59, (Qs3 x6))] (I ((x6.1.Lost.length : Int)))), (38, rp [(.tmp 62, (B (((x6.1.Lost.length : Int) == 3))))] (B true)), (41, rp [(.tmp 63, B true), (.tmp 65, (Qkf x6)), ci 2] (.dptr (Qao (x16)) 0)), (43, rp [(.tmp 63, B true), (.tmp 67, (Qkp x16)), ci 0] (.dptr (Qae (x22)) 0)), (45, rp [(.tmp 63, B true), ci 271, ci 542596, ci 12150, ci 50] Qo7), (46, rp [(.tmp 63, B true), (.tmp 69, (Qxz x22)), (.tmp 70, Qo7)] (B ((([x22.Mass, x22.Heat, x22.Silica, x22.Gas] : List Int) == [271, 542596, 12150, 50])))), (48, rp [(.tmp 72, (B ((([x22.Mass, x22.Heat, x22.Silica, x22.Gas] : List Int) == [271, 542596, 12150, 50]))))] (B true)), (51, rp [(.tmp 73, B true), (.tmp 75, (Qkf x6)), ci 2] (.dptr (Qao (x16)) 0)), (53, rp [(.tmp 73, B true), (.tmp 77, (Qkp x16)), ci 1] (.dptr (Qae (x27)) 0)), (55, rp [(.tmp 73, B true), ci 729, ci 307404, ci 109350] Qr4), (56, rp [(.tmp 73, B true), (.tmp 79, (Q12 x27)), (.tmp 80, Qr4)] (B ((([x27.Mass, x27.Heat, x27.Silica, x27.Gas] : List Int) == [729, 307404, 109350, 0])))), (58, rp [(.tmp 82, (B ((([x27.Mass, x27.Heat, x27.Silica, x27.Gas] : List Int) == [729, 307404, 109350, 0]))))] (B false))] ⟨asb hb7 (amv rfl), asb hb8 (amv rfl), ag_ (alm (c := Qam) (l := x4.1) (aln rfl Try.underlying53 rfl)), asb hb9 (amv rfl), ag_ (aid rfl Try.underlying53 ti57 rfl rfl hi12 (mgt Qam hj13) rfl), ag_ (Qa2 (vs := [I 2, I 1]) rfl ts57 tz57 rfl (by rfl) rfl), ag_ (Qe4 (ls := [x10.Element, x10.Outlet]) (ks := [2, 1]) rfl rfl Qne (by kernel_rfl) rfl rfl), asb hb14 (amv rfl), ag_ (alm (c := Qao) (l := x6.1.Out) (aln rfl Try.underlying31 rfl)), asb hb15 (amv rfl), ag_ (aid rfl Try.underlying31 ti45 rfl rfl hi18 (mgt Qao hj19) rfl), ag_ (alm (c := Qae) (l := x16) (aln rfl Try.underlying45 rfl)), asb hb20 (amv rfl), ag_ (alm (c := Qbd) (l := x6.1.Lost) (aln rfl Try.underlying32 rfl)), asb hb21 (amv rfl), ag_ (aid rfl Try.underlying31 ti45 rfl rfl hi18 (mgt Qao hj19) rfl), ag_ (aid rfl Try.underlying45 ti48 rfl rfl hi24 (mgt Qae hj25) rfl), ag_ (Qa2 (vs := [I 271, I 542596, I 12150, I 50]) rfl ts48 tz48 rfl (by rfl) rfl), ag_ (Qe4 (ls := [x22.Mass, x22.Heat, x22.Silica, x22.Gas]) (ks := [271, 542596, 12150, 50]) rfl rfl Qw7 (by kernel_rfl) rfl rfl), asb hb26 (amv rfl), ag_ (aid rfl Try.underlying31 ti45 rfl rfl hi18 (mgt Qao hj19) rfl), ag_ (aid rfl Try.underlying45 ti48 rfl rfl hi29 (mgt Qae hj30) rfl), ag_ (Qa2 (vs := [I 729, I 307404, I 109350]) rfl ts48 tz48 rfl (by rfl) rfl), ag_ (Qe4 (ls := [x27.Mass, x27.Heat, x27.Silica, x27.Gas]) (ks := [729, 307404, 109350, 0]) rfl rfl Qw7 (by kernel_rfl) rfl rfl), asb hb31 (amv rfl), trivial⟩ ?_
           refine Qad ?_
           obtain rfl := osi h
           exact fend ⟨[B false], ⟨rot (by kernel_rfl), trivial⟩, rfl⟩ nll
         ·replace h := Qax hb26 h
          refine wx tbk [(2, rp [(.tmp 26, (B ((x4.2 == 0))))] (B true)), (6, rp [(.tmp 30, (B ((x6.2.2 == 0))))] (B true)), (8, rp [(.tmp 31, B true), (.tmp 32, (Qlj x4))] (I ((x4.1.length : Int)))), (11, rp [(.tmp 35, (B (((x4.1.length : Int) == 2))))] (B true)), (13, rp [(.tmp 36, B true), (.tmp 37, (Qlj x4)), ci 1] (.dptr (Qam (x10)) 0)), (15, rp [(.tmp 36, B true), ci 2, ci 1] Qjd), (16, rp [(.tmp 36, B true), (.tmp 39, (Qo8 x10)), (.tmp 40, Qjd)] (B ((([x10.Element, x10.Outlet] : List Int) == [2, 1])))), (18, rp [(.tmp 42, (B ((([x10.Element, x10.Outlet] : List Int) == [2, 1]))))] (B true)), (21, rp [(.tmp 43, B true), (.tmp 45, (Qkf x6))] (I ((x6.1.Out.length : Int)))), (24, rp [(.tmp 48, (B (((x6.1.Out.length : Int) == 3))))] (B true)), (27, rp [(.tmp 49, B true), (.tmp 51, (Qkf x6)), ci 2] (.dptr (Qao (x16)) 0)), (29, rp [(.tmp 49, B true), (.tmp 53, (Qkp x16))] (I ((x16.length : Int)))), (32, rp [(.tmp 56, (B (((x16.length : Int) == 2))))] (B true)), (35, rp [(.tmp 57, B true), (.tmp 59, (Qs3 x6))] (I ((x6.1.Lost.length : Int)))), (38, rp [(.tmp 62, (B (((x6.1.Lost.length : Int) == 3))))] (B true)), (41, rp [(.tmp 63, B true), (.tmp 65, (Qkf x6)), ci 2] (.dptr (Qao (x16)) 0)), (43, rp [(.tmp 63, B true), (.tmp 67, (Qkp x16)), ci 0] (.dptr (Qae (x22)) 0)), (45, rp [(.tmp 63, B true), ci 271, ci 542596, ci 12150, ci 50] Qo7), (46, rp [(.tmp 63, B true), (.tmp 69, (Qxz x22)), (.tmp 70, Qo7)] (B ((([x22.Mass, x22.Heat, x22.Silica, x22.Gas] : List Int) == [271, 542596, 12150, 50])))), (48, rp [(.tmp 72, (B ((([x22.Mass, x22.Heat, x22.Silica, x22.Gas] : List Int) == [271, 542596, 12150, 50]))))] (B false))] ⟨asb hb7 (amv rfl), asb hb8 (amv rfl), ag_ (alm (c := Qam) (l := x4.1) (aln rfl Try.underlying53 rfl)), asb hb9 (amv rfl), ag_ (aid rfl Try.underlying53 ti57 rfl rfl hi12 (mgt Qam hj13) rfl), ag_ (Qa2 (vs := [I 2, I 1]) rfl ts57 tz57 rfl (by rfl) rfl), ag_ (Qe4 (ls := [x10.Element, x10.Outlet]) (ks := [2, 1]) rfl rfl Qne (by kernel_rfl) rfl rfl), asb hb14 (amv rfl), ag_ (alm (c := Qao) (l := x6.1.Out) (aln rfl Try.underlying31 rfl)), asb hb15 (amv rfl), ag_ (aid rfl Try.underlying31 ti45 rfl rfl hi18 (mgt Qao hj19) rfl), ag_ (alm (c := Qae) (l := x16) (aln rfl Try.underlying45 rfl)), asb hb20 (amv rfl), ag_ (alm (c := Qbd) (l := x6.1.Lost) (aln rfl Try.underlying32 rfl)), asb hb21 (amv rfl), ag_ (aid rfl Try.underlying31 ti45 rfl rfl hi18 (mgt Qao hj19) rfl), ag_ (aid rfl Try.underlying45 ti48 rfl rfl hi24 (mgt Qae hj25) rfl), ag_ (Qa2 (vs := [I 271, I 542596, I 12150, I 50]) rfl ts48 tz48 rfl (by rfl) rfl), ag_ (Qe4 (ls := [x22.Mass, x22.Heat, x22.Silica, x22.Gas]) (ks := [271, 542596, 12150, 50]) rfl rfl Qw7 (by kernel_rfl) rfl rfl), asb hb26 (amv rfl), trivial⟩ ?_
          refine Qad ?_
          obtain rfl := osi h
          exact fend ⟨[B false], ⟨rot (by kernel_rfl), trivial⟩, rfl⟩ nll
        ·replace h := Qax hb21 h
         refine wx tbk [(2, rp [(.tmp 26, (B ((x4.2 == 0))))] (B true)), (6, rp [(.tmp 30, (B ((x6.2.2 == 0))))] (B true)), (8, rp [(.tmp 31, B true), (.tmp 32, (Qlj x4))] (I ((x4.1.length : Int)))), (11, rp [(.tmp 35, (B (((x4.1.length : Int) == 2))))] (B true)), (13, rp [(.tmp 36, B true), (.tmp 37, (Qlj x4)), ci 1] (.dptr (Qam (x10)) 0)), (15, rp [(.tmp 36, B true), ci 2, ci 1] Qjd), (16, rp [(.tmp 36, B true), (.tmp 39, (Qo8 x10)), (.tmp 40, Qjd)] (B ((([x10.Element, x10.Outlet] : List Int) == [2, 1])))), (18, rp [(.tmp 42, (B ((([x10.Element, x10.Outlet] : List Int) == [2, 1]))))] (B true)), (21, rp [(.tmp 43, B true), (.tmp 45, (Qkf x6))] (I ((x6.1.Out.length : Int)))), (24, rp [(.tmp 48, (B (((x6.1.Out.length : Int) == 3))))] (B true)), (27, rp [(.tmp 49, B true), (.tmp 51, (Qkf x6)), ci 2] (.dptr (Qao (x16)) 0)), (29, rp [(.tmp 49, B true), (.tmp 53, (Qkp x16))] (I ((x16.length : Int)))), (32, rp [(.tmp 56, (B (((x16.length : Int) == 2))))] (B true)), (35, rp [(.tmp 57, B true), (.tmp 59, (Qs3 x6))] (I ((x6.1.Lost.length : Int)))), (38, rp [(.tmp 62, (B (((x6.1.Lost.length : Int) == 3))))] (B false))] ⟨asb hb7 (amv rfl), asb hb8 (amv rfl), ag_ (alm (c := Qam) (l := x4.1) (aln rfl Try.underlying53 rfl)), asb hb9 (amv rfl), ag_ (aid rfl Try.underlying53 ti57 rfl rfl hi12 (mgt Qam hj13) rfl), ag_ (Qa2 (vs := [I 2, I 1]) rfl ts57 tz57 rfl (by rfl) rfl), ag_ (Qe4 (ls := [x10.Element, x10.Outlet]) (ks := [2, 1]) rfl rfl Qne (by kernel_rfl) rfl rfl), asb hb14 (amv rfl), ag_ (alm (c := Qao) (l := x6.1.Out) (aln rfl Try.underlying31 rfl)), asb hb15 (amv rfl), ag_ (aid rfl Try.underlying31 ti45 rfl rfl hi18 (mgt Qao hj19) rfl), ag_ (alm (c := Qae) (l := x16) (aln rfl Try.underlying45 rfl)), asb hb20 (amv rfl), ag_ (alm (c := Qbd) (l := x6.1.Lost) (aln rfl Try.underlying32 rfl)), asb hb21 (amv rfl), trivial⟩ ?_
         refine Qad ?_
         obtain rfl := osi h
         exact fend ⟨[B false], ⟨rot (by kernel_rfl), trivial⟩, rfl⟩ nll
       ·replace h := Qax hb20 h
        refine wx tbk [(2, rp [(.tmp 26, (B ((x4.2 == 0))))] (B true)), (6, rp [(.tmp 30, (B ((x6.2.2 == 0))))] (B true)), (8, rp [(.tmp 31, B true), (.tmp 32, (Qlj x4))] (I ((x4.1.length : Int)))), (11, rp [(.tmp 35, (B (((x4.1.length : Int) == 2))))] (B true)), (13, rp [(.tmp 36, B true), (.tmp 37, (Qlj x4)), ci 1] (.dptr (Qam (x10)) 0)), (15, rp [(.tmp 36, B true), ci 2, ci 1] Qjd), (16, rp [(.tmp 36, B true), (.tmp 39, (Qo8 x10)), (.tmp 40, Qjd)] (B ((([x10.Element, x10.Outlet] : List Int) == [2, 1])))), (18, rp [(.tmp 42, (B ((([x10.Element, x10.Outlet] : List Int) == [2, 1]))))] (B true)), (21, rp [(.tmp 43, B true), (.tmp 45, (Qkf x6))] (I ((x6.1.Out.length : Int)))), (24, rp [(.tmp 48, (B (((x6.1.Out.length : Int) == 3))))] (B true)), (27, rp [(.tmp 49, B true), (.tmp 51, (Qkf x6)), ci 2] (.dptr (Qao (x16)) 0)), (29, rp [(.tmp 49, B true), (.tmp 53, (Qkp x16))] (I ((x16.length : Int)))), (32, rp [(.tmp 56, (B (((x16.length : Int) == 2))))] (B false))] ⟨asb hb7 (amv rfl), asb hb8 (amv rfl), ag_ (alm (c := Qam) (l := x4.1) (aln rfl Try.underlying53 rfl)), asb hb9 (amv rfl), ag_ (aid rfl Try.underlying53 ti57 rfl rfl hi12 (mgt Qam hj13) rfl), ag_ (Qa2 (vs := [I 2, I 1]) rfl ts57 tz57 rfl (by rfl) rfl), ag_ (Qe4 (ls := [x10.Element, x10.Outlet]) (ks := [2, 1]) rfl rfl Qne (by kernel_rfl) rfl rfl), asb hb14 (amv rfl), ag_ (alm (c := Qao) (l := x6.1.Out) (aln rfl Try.underlying31 rfl)), asb hb15 (amv rfl), ag_ (aid rfl Try.underlying31 ti45 rfl rfl hi18 (mgt Qao hj19) rfl), ag_ (alm (c := Qae) (l := x16) (aln rfl Try.underlying45 rfl)), asb hb20 (amv rfl), trivial⟩ ?_
        refine Qad ?_
        obtain rfl := osi h
        exact fend ⟨[B false], ⟨rot (by kernel_rfl), trivial⟩, rfl⟩ nll
      ·replace h := Qax hb15 h
       refine wx tbk [(2, rp [(.tmp 26, (B ((x4.2 == 0))))] (B true)), (6, rp [(.tmp 30, (B ((x6.2.2 == 0))))] (B true)), (8, rp [(.tmp 31, B true), (.tmp 32, (Qlj x4))] (I ((x4.1.length : Int)))), (11, rp [(.tmp 35, (B (((x4.1.length : Int) == 2))))] (B true)), (13, rp [(.tmp 36, B true), (.tmp 37, (Qlj x4)), ci 1] (.dptr (Qam (x10)) 0)), (15, rp [(.tmp 36, B true), ci 2, ci 1] Qjd), (16, rp [(.tmp 36, B true), (.tmp 39, (Qo8 x10)), (.tmp 40, Qjd)] (B ((([x10.Element, x10.Outlet] : List Int) == [2, 1])))), (18, rp [(.tmp 42, (B ((([x10.Element, x10.Outlet] : List Int) == [2, 1]))))] (B true)), (21, rp [(.tmp 43, B true), (.tmp 45, (Qkf x6))] (I ((x6.1.Out.length : Int)))), (24, rp [(.tmp 48, (B (((x6.1.Out.length : Int) == 3))))] (B false))] ⟨asb hb7 (amv rfl), asb hb8 (amv rfl), ag_ (alm (c := Qam) (l := x4.1) (aln rfl Try.underlying53 rfl)), asb hb9 (amv rfl), ag_ (aid rfl Try.underlying53 ti57 rfl rfl hi12 (mgt Qam hj13) rfl), ag_ (Qa2 (vs := [I 2, I 1]) rfl ts57 tz57 rfl (by rfl) rfl), ag_ (Qe4 (ls := [x10.Element, x10.Outlet]) (ks := [2, 1]) rfl rfl Qne (by kernel_rfl) rfl rfl), asb hb14 (amv rfl), ag_ (alm (c := Qao) (l := x6.1.Out) (aln rfl Try.underlying31 rfl)), asb hb15 (amv rfl), trivial⟩ ?_
       refine Qad ?_
       obtain rfl := osi h
       exact fend ⟨[B false], ⟨rot (by kernel_rfl), trivial⟩, rfl⟩ nll
     ·replace h := Qax hb14 h
      refine wx tbk [(2, rp [(.tmp 26, (B ((x4.2 == 0))))] (B true)), (6, rp [(.tmp 30, (B ((x6.2.2 == 0))))] (B true)), (8, rp [(.tmp 31, B true), (.tmp 32, (Qlj x4))] (I ((x4.1.length : Int)))), (11, rp [(.tmp 35, (B (((x4.1.length : Int) == 2))))] (B true)), (13, rp [(.tmp 36, B true), (.tmp 37, (Qlj x4)), ci 1] (.dptr (Qam (x10)) 0)), (15, rp [(.tmp 36, B true), ci 2, ci 1] Qjd), (16, rp [(.tmp 36, B true), (.tmp 39, (Qo8 x10)), (.tmp 40, Qjd)] (B ((([x10.Element, x10.Outlet] : List Int) == [2, 1])))), (18, rp [(.tmp 42, (B ((([x10.Element, x10.Outlet] : List Int) == [2, 1]))))] (B false))] ⟨asb hb7 (amv rfl), asb hb8 (amv rfl), ag_ (alm (c := Qam) (l := x4.1) (aln rfl Try.underlying53 rfl)), asb hb9 (amv rfl), ag_ (aid rfl Try.underlying53 ti57 rfl rfl hi12 (mgt Qam hj13) rfl), ag_ (Qa2 (vs := [I 2, I 1]) rfl ts57 tz57 rfl (by rfl) rfl), ag_ (Qe4 (ls := [x10.Element, x10.Outlet]) (ks := [2, 1]) rfl rfl Qne (by kernel_rfl) rfl rfl), asb hb14 (amv rfl), trivial⟩ ?_
      refine Qad ?_
      obtain rfl := osi h
      exact fend ⟨[B false], ⟨rot (by kernel_rfl), trivial⟩, rfl⟩ nll
    ·replace h := Qax hb9 h
     refine wx tbk [(2, rp [(.tmp 26, (B ((x4.2 == 0))))] (B true)), (6, rp [(.tmp 30, (B ((x6.2.2 == 0))))] (B true)), (8, rp [(.tmp 31, B true), (.tmp 32, (Qlj x4))] (I ((x4.1.length : Int)))), (11, rp [(.tmp 35, (B (((x4.1.length : Int) == 2))))] (B false))] ⟨asb hb7 (amv rfl), asb hb8 (amv rfl), ag_ (alm (c := Qam) (l := x4.1) (aln rfl Try.underlying53 rfl)), asb hb9 (amv rfl), trivial⟩ ?_
     refine Qad ?_
     obtain rfl := osi h
     exact fend ⟨[B false], ⟨rot (by kernel_rfl), trivial⟩, rfl⟩ nll
   ·replace h := Qax hb8 h
    refine wx tbk [(2, rp [(.tmp 26, (B ((x4.2 == 0))))] (B true)), (6, rp [(.tmp 30, (B ((x6.2.2 == 0))))] (B false))] ⟨asb hb7 (amv rfl), asb hb8 (amv rfl), trivial⟩ ?_
    refine Qad ?_
    obtain rfl := osi h
    exact fend ⟨[B false], ⟨rot (by kernel_rfl), trivial⟩, rfl⟩ nll
  ·replace h := Qax hb7 h
   refine wx tbk [(2, rp [(.tmp 26, (B ((x4.2 == 0))))] (B false))] ⟨asb hb7 (amv rfl), trivial⟩ ?_
   refine Qad ?_
   obtain rfl := osi h
   exact fend ⟨[B false], ⟨rot (by kernel_rfl), trivial⟩, rfl⟩ nll
end Go.Proofs.Ytmbhnllcfmiajaa
