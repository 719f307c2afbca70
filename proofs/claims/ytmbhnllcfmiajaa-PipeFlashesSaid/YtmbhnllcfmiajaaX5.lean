/-
  Functions of the program: what they compute, as plain functions, and that they do. No conditions.
-/
import Derived.Test.YtmbhnllcfmiajaaX4
namespace Go.Proofs.Ytmbhnllcfmiajaa
set_option maxRecDepth 100000
set_option maxHeartbeats 4000000
open Go.RowKit
def Qdi (N : Nat) (p0 : GNet) (p1 : (List Int)) (p2 : (List GStream)) (k16 : (List (List GStream)) × (List GLost) × (List Int) × Int → Option (Int ⊕ (Int × Int × (List (List GStream)) × (List GLost) × (List Int)))) : Nat → Int → (List (List GStream)) → (List GLost) → (List Int) → Int → Option (Int ⊕ (Int × Int × (List (List GStream)) × (List GLost) × (List Int)))
  | 0, _, _, _, _, _ => none
  | n27 + 1, y17, y18, y19, y20, y21 =>
    bif (decide (y17 < (p0.Elements.length : Int))) then
     (getI p0.Elements y17).bind fun x29 =>
     (getI p1 y17).bind fun x33 =>
     (Qfc N x29 x33).bind fun x38 =>
     (Qcu N y17 x38 p0.Table p0.Elements ((p0.Elements.length : Int).toNat) ((p0.Elements.length : Int).toNat) p1.length p2 y21 y18 y19 y20).bind (
      Sum.elim (fun x41 =>
        Qdi N p0 p1 p2 k16 n27 (w64 (y17 + 1)) x41.2.1 x41.2.2.1 x41.2.2.2 x41.1)
      (fun x42 =>
        some (.inl x42)))
    else
     k16 (y18, y19, y20, y21)
def Qfw (N : Nat) (p0 : GNet) (p1 : (List Int)) (p2 : (List GStream)) : Option (Int ⊕ (Int × Int × (List (List GStream)) × (List GLost) × (List Int))) :=
  chk (decide (0 ≤ (p0.Elements.length : Int)) && decide (24 * (p0.Elements.length : Int) ≤ 281474976710656) && decide ((p0.Elements.length : Int) ≤ 9223372036854775807)) <|
  chk (decide (0 ≤ (p0.Elements.length : Int)) && decide (32 * (p0.Elements.length : Int) ≤ 281474976710656) && decide ((p0.Elements.length : Int) ≤ 9223372036854775807)) <|
  (Qe1 N p1).bind fun _ =>
  Qcv (fun ⟨y12, y13, y14, y15⟩ =>
    some (.inr ((-1), y15, y12, y13, y14))) fun k16 : (List (List GStream)) × (List GLost) × (List Int) × Int → Option (Int ⊕ (Int × Int × (List (List GStream)) × (List GLost) × (List Int))) =>
  Qdi N p0 p1 p2 k16 N 0 (List.replicate (p0.Elements.length : Int).toNat ([])) (List.replicate (p0.Elements.length : Int).toNat (⟨0, 0, 0, 0⟩ : GLost)) p1 0
def Qwi (p0 : GNet) : AV := .dat 5 ((p0.Table : List GRow).map Qav)
def Qmt (p0 : GNet) : AV := .dat 7 ((p0.Elements : List GElement).map Qah)
def Q29 (p0 : GNet) : AV := .agg [(Qwi p0), (Qmt p0)]
def Qne (p1 : (List Int)) : AV := .dat 1 ((p1 : List Int).map Qam)
def Qmk (p2 : (List GStream)) : AV := .dat 4 ((p2 : List GStream).map Qaa)
def Zfp (p0 : GNet) : Slot := .own 1 ((List.replicate (p0.Elements.length : Int).toNat ([]) : List (List GStream)).map Qab)
def Zfo (p0 : GNet) : Slot := .own 4 ((List.replicate (p0.Elements.length : Int).toNat (⟨0, 0, 0, 0⟩ : GLost) : List GLost).map Qax)
def Q7j (p1 : (List Int)) : Slot := .own 1 ((p1 : List Int).map Qam)
def Za7 (p0 : GNet) (p1 : (List Int)) : AV := .agg [(.own 3 1 (0) ((p0.Elements.length : Int).toNat)), (.own 4 4 (0) ((p0.Elements.length : Int).toNat)), (.own 5 1 (0) (p1.length))]
def Q04 (p0 : GNet) : Slot := .own 2 [[(Qwi p0), (Qmt p0)]]
def Qo7 : Slot := .own 1 [[(.ref 6 7 (0) 0)]]
def Qwh (y12 : (List (List GStream))) : Slot := .own 1 ((y12 : List (List GStream)).map Qab)
def Qwg (y13 : (List GLost)) : Slot := .own 4 ((y13 : List GLost).map Qax)
def Qwf (p0 : GNet) (p1 : (List Int)) (p2 : (List GStream)) (y15 : Int) : Slot := .own 7 [[(Qwi p0), (Qmt p0), (.own 3 1 (0) ((p0.Elements.length : Int).toNat)), (.own 4 4 (0) ((p0.Elements.length : Int).toNat)), (.own 5 1 (0) (p1.length)), (Qmk p2), (I (y15))]]
def Q95 (p0 : GNet) (p1 : (List Int)) (p2 : (List GStream)) : Slot := .own 7 [[(Qwi p0), (Qmt p0), (.own 3 1 (0) ((p0.Elements.length : Int).toNat)), (.own 4 4 (0) ((p0.Elements.length : Int).toNat)), (.own 5 1 (0) (p1.length)), (Qmk p2), (I (0))]]
def Qoa (y18 : (List (List GStream))) : Slot := .own 1 ((y18 : List (List GStream)).map Qab)
def Qn9 (y19 : (List GLost)) : Slot := .own 4 ((y19 : List GLost).map Qax)
def Qn8 (y20 : (List Int)) : Slot := .own 1 ((y20 : List Int).map Qam)
def Qob (p0 : GNet) (p1 : (List Int)) (p2 : (List GStream)) (y21 : Int) : Slot := .own 7 [[(Qwi p0), (Qmt p0), (.own 3 1 (0) ((p0.Elements.length : Int).toNat)), (.own 4 4 (0) ((p0.Elements.length : Int).toNat)), (.own 5 1 (0) (p1.length)), (Qmk p2), (I (y21))]]
def Qms (x29 : GElement) : AV := .agg [(K .u8 (x29.Kind)), (.dat 2 ((x29.From : List GPort).map Qa7)), (I (x29.Level)), (I (x29.Amount)), (I (x29.Wide)), (I (x29.Narrow)), (.dat 1 ((x29.Weights : List Int).map Qam))]
def Qwe (p0 : GNet) (p1 : (List Int)) (p2 : (List GStream)) (x41 : (Int × (List (List GStream)) × (List GLost) × (List Int))) : Slot := .own 7 [[(Qwi p0), (Qmt p0), (.own 3 1 (0) (((p0.Elements.length : Int).toNat))), (.own 4 4 (0) (((p0.Elements.length : Int).toNat))), (.own 5 1 (0) (p1.length)), (Qmk p2), (I (x41.1))]]
def Zfq : Slot := .own 1 [[(.lit (.pointer none))]]
theorem Qkn (N : Nat) (p0 : GNet) (p1 : (List Int)) (p2 : (List GStream)) (r : (Int ⊕ (Int × Int × (List (List GStream)) × (List GLost) × (List Int)))) (h : Qfw N p0 p1 p2 = some r) : Spec Try.prog 29 [(Q29 p0), (Qne p1), (Qmk p2)] [] (((Sum.elim (fun r => (.tup [(.lit (.pointer none)), (I (r))])) (fun r => (.tup [(.ref 2 7 (0) 0), (I (r.1))]))) : (Int ⊕ (Int × Int × (List (List GStream)) × (List GLost) × (List Int))) → AV) r) (((Sum.elim (fun r => [(.own 1 [[(.lit (.pointer none))]]), (.own 1 [[(I (r))]])]) (fun r => [(.own 1 [[(.ref 2 7 (0) 0)]]), (.own 1 [[(I (r.1))]]), (.own 7 [[(.dat 5 ((p0.Table : List GRow).map Qav)), (.dat 7 ((p0.Elements : List GElement).map Qah)), (.own 3 1 (0) ((p0.Elements.length : Int).toNat)), (.own 4 4 (0) ((p0.Elements.length : Int).toNat)), (.own 5 1 (0) (p1.length)), (.dat 4 ((p2 : List GStream).map Qaa)), (I (r.2.1))]]), (.own 1 ((r.2.2.1 : List (List GStream)).map Qab)), (.own 4 ((r.2.2.2.1 : List GLost).map Qax)), (.own 1 ((r.2.2.2.2 : List Int).map Qam))])) : (Int ⊕ (Int × Int × (List (List GStream)) × (List GLost) × (List Int))) → List Slot) r) := by
  refine Qu3 Try.func29 rfl (fun X φ0 w0 hφ0 hd0 => ?_)
  unfold Qfw at h
  refine Q0y (k := 6) hd0 (fun n hn => hφ0 n (Nat.le_trans (nle rfl) hn)) ?_
  refine wx1 tbk [] trivial ?_
  refine thn ?_
  refine Q0y (k := 6) hd0 (fun n hn => hφ0 n (Nat.le_trans (nle rfl) hn)) ?_
  obtain ⟨hm8, h⟩ := cko h
  obtain ⟨hm9, h⟩ := cko h
  obtain ⟨x11, hf10, h⟩ := bno h
  refine wy1 tbk [(3, rp [(.tmp 12, (Qmt p0))] (I ((p0.Elements.length : Int)))), (4, ⟨[(.tmp 13, (I ((p0.Elements.length : Int)))), (.tmp 13, (I ((p0.Elements.length : Int))))], [(3, .unused)], (.own 3 1 (0) ((p0.Elements.length : Int).toNat)), [(3, (Zfp p0))], false⟩), (7, rp [(.tmp 16, (Qmt p0))] (I ((p0.Elements.length : Int)))), (8, ⟨[(.tmp 17, (I ((p0.Elements.length : Int)))), (.tmp 17, (I ((p0.Elements.length : Int))))], [(4, .unused)], (.own 4 4 (0) ((p0.Elements.length : Int).toNat)), [(4, (Zfo p0))], false⟩), (10, ⟨[fu 50, (.tmp 19, (Qne p1))], [(5, .unused)], (.own 5 1 (0) (p1.length)), [(5, (Q7j p1))], false⟩), (11, rp [(.tmp 14, (.own 3 1 (0) ((p0.Elements.length : Int).toNat))), (.tmp 18, (.own 4 4 (0) ((p0.Elements.length : Int).toNat))), (.tmp 20, (.own 5 1 (0) (p1.length)))] (Za7 p0 p1)), (13, rp [(.tmp 10, (Q29 p0)), (.tmp 21, (Za7 p0 p1)), (.tmp 22, (Qmk p2))] (.agg [(Qwi p0), (Qmt p0), (.own 3 1 (0) ((p0.Elements.length : Int).toNat)), (.own 4 4 (0) ((p0.Elements.length : Int).toNat)), (.own 5 1 (0) (p1.length)), (Qmk p2), I 0]))] ⟨alm (c := Qah) (l := p0.Elements) (aln rfl Try.underlying40 rfl), Q66 (c := Qab) (v := ([])) (z := [nilS]) (k := (p0.Elements.length : Int).toNat) ⟨Less.nil, trivial⟩ (Qoz rfl Try.underlying31 te45 tz45 rfl (Qys hm8) rfl (Qyr hm8) (Q7e hm8) rfl), alm (c := Qah) (l := p0.Elements) (aln rfl Try.underlying40 rfl), Qoz rfl Try.underlying32 te50 tz50 rfl (Qys hm9) rfl (Qyr hm9) (Q7e hm9) (Q5c Qax rfl), Qao (first := []) (cap := []) (vs := [(Qne p1)]) (σr := []) (σr' := [(Q7j p1)]) (res' := (.own 5 1 (0) (p1.length))) [5] rfl Zev (Qjy N p1 _ hf10) rfl (Qbr (rnc (.plain _ (nld Qaf _)) rn0)) Qan (slc (Qa9 Qaf) Qan) (Qdd rfl) rfl rfl rfl, Qat (vs := [(.own 3 1 (0) ((p0.Elements.length : Int).toNat)), (.own 4 4 (0) ((p0.Elements.length : Int).toNat)), (.own 5 1 (0) (p1.length))]) rfl ts34 tz34 rfl (by rfl) rfl, Qat (vs := [(Q29 p0), (Za7 p0 p1), (Qmk p2)]) rfl ts93 tz93 rfl (by rfl) rfl, trivial⟩ ?_
  refine thn ?_
  refine Q2l (k := 6) [(1, 1), (2, 1)] hd0 (fun n hn => hφ0 n (Nat.le_trans (nle rfl) hn)) Zeu rfl rfl (by kernel_rfl) (by kernel_rfl) (by kernel_rfl) Qoo (fun φ1 w1 hφ1 hd1 => ?_)
  obtain ⟨k16, hk_k16, h⟩ := jko h
  refine wjn (τ := (List (List GStream)) × (List GLost) × (List Int) × Int) (fun t => k16 t = some r) (fun ⟨y12, y13, y14, y15⟩ => ⟨mk 45 [(6, .ref 1 1 0 0), (7, .ref 2 1 0 0)], [(Q04 p0), Qo7, (.own 1 [[I 0]]), (Qwh y12), (Qwg y13), (.own 1 ((y14 : List Int).map Qam)), (Qwf p0 p1 p2 y15)]⟩) (fun t h => ?_) ?_
  ·subst hk_k16
   obtain ⟨y12, y13, y14, y15⟩ := t
   refine wx tbk [] trivial ?_
   refine Qad ?_
   obtain rfl := osi h
   exact ⟨_, (mto (n := 45) (l' := [(6, .ref 0 1 0 0), (7, .ref 1 1 0 0)]) (own' := [(.own 1 [[.ref 2 7 0 0]]), (.own 1 [[(I ((-1)))]]), (Qwf p0 p1 p2 y15), (Qwh y12), (Qwg y13), (.own 1 ((y14 : List Int).map Qam))]) [(6, .ref 1 1 0 0), (7, .ref 2 1 0 0)] [1, 2, 6, 3, 4, 5] [Qo7, (.own 1 [[(I ((-1)))]]), (Qwf p0 p1 p2 y15), (Qwh y12), (Qwg y13), (.own 1 ((y14 : List Int).map Qam))] hφ0 (pc (.rn (rqr rfl)) (pc (.rn (rqr rfl)) pn)) (qc (spb (lc (.rn (rqr rfl)) ln)) (qc (spb (lc rwl ln)) (qc (spb (lc (.rn (.plain _ (nld Qai _))) (lc (.rn (.plain _ (nld Qac _))) (lc (.rn (Qba rfl)) (lc (.rn (Qba rfl)) (lc (.rn (Qba rfl)) (lc (.rn (.plain _ (nld Qae _))) (lc rwl ln)))))))) (qc (spr Qap) (qc (spr Qa1) (qc (spr Qaf) qn))))))), Qj4 (vs := [.ref 2 7 0 0, I (-1)]) ⟨Qcm (n := 0) (m := 1) (j := 0) (i := 0) (xs := [[.ref 2 7 0 0]]) (by kernel_rfl) (by kernel_rfl) ti89 (by decide) rfl (nle rfl) rfl, Qcm (n := 1) (m := 1) (j := 0) (i := 0) (xs := [[I (-1)]]) (by kernel_rfl) (by kernel_rfl) ti3 (by decide) rfl (nle rfl) rfl, trivial⟩ rfl (NLt.tup _ (nlc (NLt.ref _ _ _ _ (by decide)) (nlc (NLt.of0 nll) nl0))) (by kernel_rfl) (Qak (Qa6 (nlc (NLt.ref _ _ _ _ (by decide)) nl0)) (Qak (Qa6 (nlc (NLt.of0 nll) nl0)) (Qak (Qa6 (nlc (NLt.of0 (nld Qai _)) (nlc (NLt.of0 (nld Qac _)) (nlc (NLt.own _ _ _ _ (by decide)) (nlc (NLt.own _ _ _ _ (by decide)) (nlc (NLt.own _ _ _ _ (by decide)) (nlc (NLt.of0 (nld Qae _)) (nlc (NLt.of0 nll) nl0)))))))) (Qak (Qcl Qap _) (Qak (Qcl Qa1 _) (Qak (Qcl Qaf _) Qbo))))))⟩
  ·skip
   refine wx tbk [(2, rp [(.tmp 27, (Qmt p0))] (I ((p0.Elements.length : Int))))] ⟨alm (c := Qah) (l := p0.Elements) (aln rfl Try.underlying40 rfl), trivial⟩ ?_
   refine Qaq ?_
   refine wmr (mto (n := 45) (l' := [(1, (Qne p1)), (6, .ref 1 1 0 0), (7, .ref 2 1 0 0), (27, (Qmt p0)), (28, (I ((p0.Elements.length : Int)))), (29, I 0)]) (own' := [(Q04 p0), Qo7, (.own 1 [[I 0]]), (.own 1 (((List.replicate (p0.Elements.length : Int).toNat ([])) : List (List GStream)).map Qab)), (.own 4 (((List.replicate (p0.Elements.length : Int).toNat (⟨0, 0, 0, 0⟩ : GLost)) : List GLost).map Qax)), (Q7j p1), (Q95 p0 p1 p2)]) [(1, (Qne p1)), (6, .ref 1 1 0 0), (7, .ref 2 1 0 0), (27, (Qmt p0)), (28, (I ((p0.Elements.length : Int)))), (29, I 0)] [0, 1, 2, 3, 4, 5, 6] [(Q04 p0), Qo7, (.own 1 [[I 0]]), (Zfp p0), (Zfo p0), (Q7j p1), (Q95 p0 p1 p2)] hφ1 (pc (.rn (.plain _ (nld Qaf _))) (pc (.rn (rqr rfl)) (pc (.rn (rqr rfl)) (pc (.rn (.plain _ (nld Qac _))) (pc rwl (pc rwl pn)))))) (qc (spb (lc (.rn (.plain _ (nld Qai _))) (lc (.rn (.plain _ (nld Qac _))) ln))) (qc (spb (lc (.rn (rqr rfl)) ln)) (qc (spb (lc rwl ln)) (qc (spr Qap) (qc (spr Qa1) (qc (spr Qaf) (qc (spb (lc (.rn (.plain _ (nld Qai _))) (lc (.rn (.plain _ (nld Qac _))) (lc (.rn (Qba rfl)) (lc (.rn (Qba rfl)) (lc (.rn (Qba rfl)) (lc (.rn (.plain _ (nld Qae _))) (lc rwl ln)))))))) qn)))))))) ?_
   refine Qc9 (τ := Int × (List (List GStream)) × (List GLost) × (List Int) × Int) (fun n t => Qdi N p0 p1 p2 k16 n t.1 t.2.1 t.2.2.1 t.2.2.2.1 t.2.2.2.2 = some r) (fun ⟨y17, y18, y19, y20, y21⟩ => ⟨mk 45 [(1, (Qne p1)), (6, .ref 1 1 0 0), (7, .ref 2 1 0 0), (27, (Qmt p0)), (28, (I ((p0.Elements.length : Int)))), (29, I y17)], [(Q04 p0), Qo7, (.own 1 [[I 0]]), (Qoa y18), (Qn9 y19), (Qn8 y20), (Qob p0 p1 p2 y21)]⟩) (fun t h => by rw [Qdi] at h; cases h) (fun n27 ih t h => ?_) N (0, List.replicate (p0.Elements.length : Int).toNat ([]), List.replicate (p0.Elements.length : Int).toNat (⟨0, 0, 0, 0⟩ : GLost), p1, 0) h
   obtain ⟨y17, y18, y19, y20, y21⟩ := t
   rw [Qdi] at h
   skip
   refine wx tbk [] trivial ?_
   refine wsq ?_
   rcases bft ((decide (y17 < (p0.Elements.length : Int)))) with hc28 | hc28
   ·replace h := Qa2 hc28 h
    refine wft hc28 (by kernel_rfl) ?_
    refine Qar ?_
    refine thn ?_
    refine wsq ?_
    refine Qaq ?_
    obtain ⟨x29, hg30, h⟩ := bno h
    obtain ⟨hi31, hj32⟩ := gsm hg30
    refine wx tbk [(1, rp [(.tmp 27, (Qmt p0)), (.tmp 29, I y17)] (.dptr (Qah (x29)) 0))] ⟨aid rfl Try.underlying40 ti76 rfl rfl hi31 (mgt Qah hj32) rfl, trivial⟩ ?_
    obtain ⟨x33, hg34, h⟩ := bno h
    obtain ⟨hi35, hj36⟩ := gsm hg34
    obtain ⟨x38, hf37, h⟩ := bno h
    obtain ⟨x40, hf39, h⟩ := bno h
    rcases x40 with x41 | x42
    ·replace h := Zgf h
     refine wy1 tbk [(5, rp [(.tmp 37, (Qne p1)), (.tmp 38, I y17)] (.dptr (Qam (x33)) 0)), (7, rp [fu 36, (.tmp 36, (Qms x29)), (.tmp 40, I x33)] (I x38)), (8, ⟨[fu 52, (.tmp 34, .ref 6 7 0 0), (.tmp 35, I y17), (.tmp 41, I x38)], [(6, (Qob p0 p1 p2 y21)), (3, (Qoa y18)), (4, (Qn9 y19)), (5, (Qn8 y20))], (.tup []), [(6, (Qwe p0 p1 p2 x41)), (3, (.own 1 ((x41.2.1 : List (List GStream)).map Qab))), (4, (.own 4 ((x41.2.2.1 : List GLost).map Qax))), (5, (.own 1 ((x41.2.2.2 : List Int).map Qam)))], false⟩)] ⟨aid rfl Try.underlying27 ti3 rfl rfl hi35 (mgt Qam hj36) rfl, apc (first := []) (cap := []) (vs := [(Qms x29), I x33]) rfl Q6o (Qh6 N x29 x33 _ hf37) rfl rfl (nlc (NLt.agg _ (nlc nll (nlc (nld Qcp _) (nlc nll (nlc nll (nlc nll (nlc nll (nlc (nld Qaf _) nl0)))))))) (nlc nll nl0)) nll rfl, Qao (first := []) (cap := []) (vs := [.ref 6 7 0 0, I y17, I x38]) (σr := [(Qob p0 p1 p2 y21), (Qoa y18), (Qn9 y19), (Qn8 y20)]) (σr' := [(Qwe p0 p1 p2 x41), (.own 1 ((x41.2.1 : List (List GStream)).map Qab)), (.own 4 ((x41.2.2.1 : List GLost).map Qax)), (.own 1 ((x41.2.2.2 : List Int).map Qam))]) (res' := (.tup [])) [6, 3, 4, 5] rfl Q6k (Qkm N y17 x38 p0.Table p0.Elements ((p0.Elements.length : Int).toNat) ((p0.Elements.length : Int).toNat) p1.length p2 y21 y18 y19 y20 _ hf39) rfl (Qbr (rnc (Qbb rfl) (rnc (.plain _ nll) (rnc (.plain _ nll) rn0)))) (slc (Qal (rnc (.plain _ (nld Qai _)) (rnc (.plain _ (nld Qac _)) (rnc (Qc7 rfl) (rnc (Qc7 rfl) (rnc (Qc7 rfl) (rnc (.plain _ (nld Qae _)) (rnc (.plain _ nll) rn0)))))))) (slc (Qa9 Qap) (slc (Qa9 Qa1) (slc (Qa9 Qaf) Qan)))) (slc (Qal (rnc (.plain _ (nld Qai _)) (rnc (.plain _ (nld Qac _)) (rnc (Qdd rfl) (rnc (Qdd rfl) (rnc (Qdd rfl) (rnc (.plain _ (nld Qae _)) (rnc (.plain _ nll) rn0)))))))) (slc (Qa9 Qap) (slc (Qa9 Qa1) (slc (Qa9 Qaf) Qan)))) (.plain _ (NLt.tup _ nl0)) rfl rfl rfl, trivial⟩ ?_
     refine bln ?_
     refine thn ?_
     refine wx1 tbk [] trivial ?_
     refine thn ?_
     exact arm (mto (n := 45) [(1, (Qne p1)), (6, .ref 1 1 0 0), (7, .ref 2 1 0 0), (27, (Qmt p0)), (28, (I ((p0.Elements.length : Int)))), (29, (I (w64 (y17 + 1))))] [0, 1, 2, 3, 4, 5, 6] [(Q04 p0), Qo7, (.own 1 [[I 0]]), (.own 1 ((x41.2.1 : List (List GStream)).map Qab)), (.own 4 ((x41.2.2.1 : List GLost).map Qax)), (.own 1 ((x41.2.2.2 : List Int).map Qam)), (Qwe p0 p1 p2 x41)] hφ1 (pc (.rn (.plain _ (nld Qaf _))) (pc (.rn (rqr rfl)) (pc (.rn (rqr rfl)) (pc (.rn (.plain _ (nld Qac _))) (pc rwl (pc rwl pn)))))) (qc (spb (lc (.rn (.plain _ (nld Qai _))) (lc (.rn (.plain _ (nld Qac _))) ln))) (qc (spb (lc (.rn (rqr rfl)) ln)) (qc (spb (lc rwl ln)) (qc (spr Qap) (qc (spr Qa1) (qc (spr Qaf) (qc (spb (lc (.rn (.plain _ (nld Qai _))) (lc (.rn (.plain _ (nld Qac _))) (lc (.rn (Qba rfl)) (lc (.rn (Qba rfl)) (lc (.rn (Qba rfl)) (lc (.rn (.plain _ (nld Qae _))) (lc rwl ln)))))))) qn)))))))) (ih (w64 (y17 + 1), x41.2.1, x41.2.2.1, x41.2.2.2, x41.1) h)
    ·replace h := Zge h
     refine Q60 8 [rb [(.tmp 6, .ref 1 1 0 0)] [(1, Qo7)] (.ref 6 7 0 0), mv 8 (I y17), rb [(.tmp 9, .ref 7 7 0 0)] [(7, (.own 7 [[(K .u8 (x29.Kind)), (.dat 2 ((x29.From : List GPort).map Qa7)), I x29.Level, I x29.Amount, I x29.Wide, I x29.Narrow, (.dat 1 ((x29.Weights : List Int).map Qam))]]))] (Qms x29), mv 1 (Qne p1), mv 8 (I y17), rp [(.tmp 37, (Qne p1)), (.tmp 38, I y17)] (.dptr (Qam (x33)) 0), rp [(.tmp 39, (.dptr (Qam (x33)) 0))] (I x33), rp [fu 36, (.tmp 36, (Qms x29)), (.tmp 40, I x33)] (I x38), ⟨[fu 52, (.tmp 34, .ref 6 7 0 0), (.tmp 35, I y17), (.tmp 41, I x38), (.tmp 36, (Qms x29)), (.tmp 37, (Qne p1)), (.tmp 38, I y17), (.tmp 39, (.dptr (Qam (x33)) 0)), (.tmp 40, I x33)], [(6, (Qob p0 p1 p2 y21)), (3, (Qoa y18)), (4, (Qn9 y19)), (5, (Qn8 y20))], .any, [(6, .dead), (3, .dead), (4, .dead), (5, .dead)], false⟩] (by exact ⟨by kernel_rfl, by kernel_rfl⟩) rfl (by kernel_rfl) rfl (PStep.to (by rfl) (PStep.more (rd' := [(.tmp 36, (Qms x29)), (.tmp 37, (Qne p1)), (.tmp 38, I y17), (.tmp 39, (.dptr (Qam (x33)) 0)), (.tmp 40, I x33)]) (Qxm (first := []) (cap := []) (vs := [.ref 6 7 0 0, I y17, I x38]) (σr := [(Qob p0 p1 p2 y21), (Qoa y18), (Qn9 y19), (Qn8 y20)]) [6, 3, 4, 5] rfl Q6k (Qkl N y17 x38 p0.Table p0.Elements ((p0.Elements.length : Int).toNat) ((p0.Elements.length : Int).toNat) p1.length p2 y21 y18 y19 y20 _ hf39) rfl (Qbr (rnc (Qbb rfl) (rnc (.plain _ nll) (rnc (.plain _ nll) rn0)))) (slc (Qal (rnc (.plain _ (nld Qai _)) (rnc (.plain _ (nld Qac _)) (rnc (Qc7 rfl) (rnc (Qc7 rfl) (rnc (Qc7 rfl) (rnc (.plain _ (nld Qae _)) (rnc (.plain _ nll) rn0)))))))) (slc (Qa9 Qap) (slc (Qa9 Qa1) (slc (Qa9 Qaf) Qan)))) rfl rfl rfl))) (⟨fun _ _ => ald rfl ti89 (by decide) rfl (nle rfl) rfl, fun _ _ => amv rfl, fun _ _ => ald rfl ti76 (by decide) rfl (nle rfl) rfl, fun _ _ => amv rfl, fun _ _ => amv rfl, fun _ _ => aid rfl Try.underlying27 ti3 rfl rfl hi35 (mgt Qam hj36) rfl, fun _ _ => ald_ rfl ti3 (by decide) (nle rfl) rfl, fun _ _ => apc (first := []) (cap := []) (vs := [(Qms x29), I x33]) rfl Q6o (Qh6 N x29 x33 _ hf37) rfl rfl (nlc (NLt.agg _ (nlc nll (nlc (nld Qcp _) (nlc nll (nlc nll (nlc nll (nlc nll (nlc (nld Qaf _) nl0)))))))) (nlc nll nl0)) nll rfl, fun _ h => absurd rfl h, trivial⟩) ?_ (by kernel_rfl) (by kernel_rfl) (by kernel_rfl)
     obtain rfl := osi h
     exact ⟨_, [[(.lit (.pointer none))], [I x42]], rfl, (Qnq x42), (Qz8 (nlc nll nl0) (Qz8 (nlc nll nl0) Zc8)), by kernel_rfl, _, (mto (n := 45) (l' := [(6, .ref 0 1 0 0), (7, .ref 1 1 0 0)]) (own' := [Zfq, (.own 1 [[I x42]])]) [(6, .ref 1 1 0 0), (7, .ref 2 1 0 0)] [1, 2] [Zfq, (.own 1 [[I x42]])] hφ0 (pc (.rn (rqr rfl)) (pc (.rn (rqr rfl)) pn)) (qc (spb (lc rwl ln)) (qc (spb (lc rwl ln)) qn))), Qj4 (vs := [(.lit (.pointer none)), I x42]) ⟨Qcm (n := 0) (m := 1) (j := 0) (i := 0) (xs := [[(.lit (.pointer none))]]) (by kernel_rfl) (by kernel_rfl) ti89 (by decide) rfl (nle rfl) rfl, Qcm (n := 1) (m := 1) (j := 0) (i := 0) (xs := [[I x42]]) (by kernel_rfl) (by kernel_rfl) ti3 (by decide) rfl (nle rfl) rfl, trivial⟩ rfl (NLt.tup _ (nlc (NLt.of0 nll) (nlc (NLt.of0 nll) nl0))) (by kernel_rfl) (Qak (Qa6 (nlc (NLt.of0 nll) nl0)) (Qak (Qa6 (nlc (NLt.of0 nll) nl0)) Qbo))⟩
   ·replace h := Qa3 hc28 h
    refine wfn hc28 (by kernel_rfl) ?_
    refine Qcf ?_
    refine Qa8 ?_
    refine Qa8 ?_
    refine Qce rfl ?_
    refine thn ?_
    exact ⟨(y18, y19, y20, y21), h, (mto (n := 45) [(6, .ref 1 1 0 0), (7, .ref 2 1 0 0)] [0, 1, 2, 3, 4, 5, 6] [(Q04 p0), Qo7, (.own 1 [[I 0]]), (Qoa y18), (Qn9 y19), (Qn8 y20), (Qob p0 p1 p2 y21)] hφ1 (pc (.rn (rqr rfl)) (pc (.rn (rqr rfl)) pn)) (qc (spb (lc (.rn (.plain _ (nld Qai _))) (lc (.rn (.plain _ (nld Qac _))) ln))) (qc (spb (lc (.rn (rqr rfl)) ln)) (qc (spb (lc rwl ln)) (qc (spr Qap) (qc (spr Qa1) (qc (spr Qaf) (qc (spb (lc (.rn (.plain _ (nld Qai _))) (lc (.rn (.plain _ (nld Qac _))) (lc (.rn (Qba rfl)) (lc (.rn (Qba rfl)) (lc (.rn (Qba rfl)) (lc (.rn (.plain _ (nld Qae _))) (lc rwl ln)))))))) qn))))))))⟩
theorem Qns (N : Nat) (p0 : GNet) (p1 : (List Int)) (p2 : (List GStream)) (r : Int) (h : Qfw N p0 p1 p2 = some (.inl r)) : Spec Try.prog 29 [(Q29 p0), (Qne p1), (Qmk p2)] [] (.tup [(.lit (.pointer none)), I r]) [(.own 1 [[(.lit (.pointer none))]]), (.own 1 [[I r]])] := Qkn N p0 p1 p2 _ h
theorem Qnr (N : Nat) (p0 : GNet) (p1 : (List Int)) (p2 : (List GStream)) (r : (Int × Int × (List (List GStream)) × (List GLost) × (List Int))) (h : Qfw N p0 p1 p2 = some (.inr r)) : Spec Try.prog 29 [(Q29 p0), (Qne p1), (Qmk p2)] [] (.tup [.ref 2 7 0 0, I r.1]) [(.own 1 [[.ref 2 7 0 0]]), (.own 1 [[I r.1]]), (.own 7 [[(.dat 5 ((p0.Table : List GRow).map Qav)), (.dat 7 ((p0.Elements : List GElement).map Qah)), (.own 3 1 (0) ((p0.Elements.length : Int).toNat)), (.own 4 4 (0) ((p0.Elements.length : Int).toNat)), (.own 5 1 (0) (p1.length)), (.dat 4 ((p2 : List GStream).map Qaa)), I r.2.1]]), (.own 1 ((r.2.2.1 : List (List GStream)).map Qab)), (.own 4 ((r.2.2.2.1 : List GLost).map Qax)), (.own 1 ((r.2.2.2.2 : List Int).map Qam))] := Qkn N p0 p1 p2 _ h
def Qjb (N : Nat) (p0 : GNet) (p1 : (List Int)) (p2 : (List GStream)) : Option (GTick × Int × Int) :=
  (Qjo N p0 p1 p2).bind fun x11 =>
  bif (x11 != 0) then
   some ((⟨[], [], []⟩ : GTick), 0, x11)
  else
   (Qfw N p0 p1 p2).bind (
    Sum.elim (fun x15 =>
      bif (decide (x15 ≥ 0)) then
       some ((⟨[], [], []⟩ : GTick), x15, 11)
      else
       none)
    (fun x17 =>
      bif (decide (x17.1 ≥ 0)) then
       some ((⟨[], [], []⟩ : GTick), x17.1, 11)
      else
       chk (decide ((p0.Elements.length : Int).toNat ≤ x17.2.2.1.length)) <|
       chk (decide ((p0.Elements.length : Int).toNat ≤ x17.2.2.2.1.length)) <|
       chk (decide (p1.length ≤ x17.2.2.2.2.length)) <|
       some ((⟨x17.2.2.1.take ((p0.Elements.length : Int).toNat), x17.2.2.2.1.take ((p0.Elements.length : Int).toNat), x17.2.2.2.2.take p1.length⟩ : GTick), 0, 0)))
def Zbc (p0 : GNet) : AV := .dat 5 ((p0.Table : List GRow).map Qav)
def Zbb (p0 : GNet) : AV := .dat 7 ((p0.Elements : List GElement).map Qah)
def Q06 (p0 : GNet) : AV := .agg [(Zbc p0), (Zbb p0)]
def Q05 (p1 : (List Int)) : AV := .dat 1 ((p1 : List Int).map Qam)
def Qwj (p2 : (List GStream)) : AV := .dat 4 ((p2 : List GStream).map Qaa)
def Za8 : AV := .agg [nilS, nilS, nilS]
def Q3c : Slot := .own 3 [[(.dat 1 ((((⟨[], [], []⟩ : GTick).Out) : List (List GStream)).map Qab)), (.dat 4 ((((⟨[], [], []⟩ : GTick).Lost) : List GLost).map Qax)), (.dat 1 ((((⟨[], [], []⟩ : GTick).State) : List Int).map Qam))]]
def Za9 : Slot := .own 3 [[nilS, nilS, nilS]]
def Qyz : AV := .dat 1 (((⟨[], [], []⟩ : GTick).Out : List (List GStream)).map Qab)
def Qyy : AV := .dat 4 (((⟨[], [], []⟩ : GTick).Lost : List GLost).map Qax)
def Qyx : AV := .dat 1 (((⟨[], [], []⟩ : GTick).State : List Int).map Qam)
def Q3b : AV := .agg [Qyz, Qyy, Qyx]
def Zfr : Slot := .own 1 [[(.lit (.pointer none))]]
def Q3a : Slot := .own 1 [[(.ref 4 7 (0) 0)]]
def Qr7 (p0 : GNet) (p1 : (List Int)) (p2 : (List GStream)) (x17 : (Int × Int × (List (List GStream)) × (List GLost) × (List Int))) : Slot := .own 7 [[(Zbc p0), (Zbb p0), (.own 5 1 (0) ((p0.Elements.length : Int).toNat)), (.own 6 4 (0) ((p0.Elements.length : Int).toNat)), (.own 7 1 (0) (p1.length)), (Qwj p2), (I (x17.2.1))]]
def Qnf (x17 : (Int × Int × (List (List GStream)) × (List GLost) × (List Int))) (p0 : GNet) : AV := .dat 1 ((x17.2.2.1.take ((p0.Elements.length : Int).toNat) : List (List GStream)).map Qab)
def Zba (p0 : GNet) : Slot := .own 2 [[(Zbc p0), (Zbb p0)]]
def Qr6 (x17 : (Int × Int × (List (List GStream)) × (List GLost) × (List Int))) (p0 : GNet) : AV := .dat 4 ((x17.2.2.2.1.take ((p0.Elements.length : Int).toNat) : List GLost).map Qax)
def Q98 (x17 : (Int × Int × (List (List GStream)) × (List GLost) × (List Int))) (p0 : GNet) (p1 : (List Int)) : AV := .dat 1 (((⟨x17.2.2.1.take ((p0.Elements.length : Int).toNat), x17.2.2.2.1.take ((p0.Elements.length : Int).toNat), x17.2.2.2.2.take p1.length⟩ : GTick).Out : List (List GStream)).map Qab)
def Q97 (x17 : (Int × Int × (List (List GStream)) × (List GLost) × (List Int))) (p0 : GNet) (p1 : (List Int)) : AV := .dat 4 (((⟨x17.2.2.1.take ((p0.Elements.length : Int).toNat), x17.2.2.2.1.take ((p0.Elements.length : Int).toNat), x17.2.2.2.2.take p1.length⟩ : GTick).Lost : List GLost).map Qax)
def Q96 (x17 : (Int × Int × (List (List GStream)) × (List GLost) × (List Int))) (p0 : GNet) (p1 : (List Int)) : AV := .dat 1 (((⟨x17.2.2.1.take ((p0.Elements.length : Int).toNat), x17.2.2.2.1.take ((p0.Elements.length : Int).toNat), x17.2.2.2.2.take p1.length⟩ : GTick).State : List Int).map Qam)
theorem Qm6 (N : Nat) (p0 : GNet) (p1 : (List Int)) (p2 : (List GStream)) (r : (GTick × Int × Int)) (h : Qjb N p0 p1 p2 = some r) : Spec Try.prog 8 [(.agg (Qpg p0)), (.dat 1 (p1.map Qam)), (.dat 4 (p2.map Qaa))] [] (.tup [(.agg [(.dat 1 ((r.1.Out : List (List GStream)).map Qab)), (.dat 4 ((r.1.Lost : List GLost).map Qax)), (.dat 1 ((r.1.State : List Int).map Qam))]), (I (r.2.1)), (I (r.2.2))]) [] := by
  refine Qag Try.func8 rfl 0 (nle rfl) (fun X φ0 w0 hφ0 hd0 => ?_)
  unfold Qjb at h
  refine Qbs ?_
  refine wx tbk [] trivial ?_
  refine wsq ?_
  obtain ⟨x11, hf10, h⟩ := bno h
  refine wx tbk [(3, rp [fu 28, (.tmp 12, (Q06 p0)), (.tmp 13, (Q05 p1)), (.tmp 14, (Qwj p2))] (I x11))] ⟨apc (first := []) (cap := []) (vs := [(Q06 p0), (Q05 p1), (Qwj p2)]) rfl Ze2 (Qry N p0 p1 p2 _ hf10) rfl rfl (nlc (NLt.agg _ (nlc (nld Qai _) (nlc (nld Qac _) nl0))) (nlc (nld Qaf _) (nlc (nld Qae _) nl0))) nll rfl, trivial⟩ ?_
  refine wx tbk [] trivial ?_
  rcases bft ((x11 != 0)) with hc12 | hc12
  ·replace h := Qa2 hc12 h
   refine wft hc12 (by kernel_rfl) ?_
   refine wx tbk [(0, rp [] Za8)] ⟨Qat (vs := []) rfl ts34 tz34 rfl (by rfl) rfl, trivial⟩ ?_
   refine wmr (mto (n := 35) (l' := [(6, .ref 0 3 0 0), (7, I 0), (8, I x11)]) (own' := [Q3c]) [(6, .ref 1 3 0 0), (7, I 0), (8, I x11)] [1] [Za9] hφ0 (pc (.rn (rqr rfl)) (pc rwl (pc rwl pn))) (qc (spb (lc (.nil _) (lc (.nil _) (lc (.nil _) ln)))) qn)) ?_
   refine Qad ?_
   refine Qaj ?_
   obtain rfl := osi h
   exact ⟨_, Mor.rfl, ⟨⟨[Q3b, I 0, I x11], ⟨Qcm (n := 0) (m := 3) (j := 0) (i := 0) (xs := [[Qyz, Qyy, Qyx]]) (by kernel_rfl) (by kernel_rfl) ti34 (by decide) rfl (nle rfl) rfl, rot (by kernel_rfl), rot (by kernel_rfl), trivial⟩, rfl⟩, (NLt.tup _ (nlc (NLt.agg _ (nlc (nld Qap _) (nlc (nld Qa1 _) (nlc (nld Qaf _) nl0)))) (nlc nll (nlc nll nl0)))), Nat.le_refl _, fun n hn => absurd hn (Nat.not_lt_zero n)⟩⟩
  ·replace h := Qa3 hc12 h
   refine wfn hc12 (by kernel_rfl) ?_
   refine Qar ?_
   refine thn ?_
   obtain ⟨x14, hf13, h⟩ := bno h
   rcases x14 with x15 | x17
   ·replace h := Zgf h
    refine wx tbk [(3, ⟨[fu 29, (.tmp 21, (Q06 p0)), (.tmp 22, (Q05 p1)), (.tmp 23, (Qwj p2))], [(2, .unused), (3, .unused)], (.tup [(.lit (.pointer none)), I x15]), [(2, Zfr), (3, .own 1 [[I x15]])], false⟩)] ⟨Qao (first := []) (cap := []) (vs := [(Q06 p0), (Q05 p1), (Qwj p2)]) (σr := []) (σr' := [Zfr, (.own 1 [[I x15]])]) (res' := (.tup [(.lit (.pointer none)), I x15])) [2, 3] rfl Q6p (Qns N p0 p1 p2 _ hf13) rfl (Qbr (rnc (.plain _ (NLt.agg _ (nlc (nld Qai _) (nlc (nld Qac _) nl0)))) (rnc (.plain _ (nld Qaf _)) (rnc (.plain _ (nld Qae _)) rn0)))) Qan (slc (Qal (rnc (.plain _ nll) rn0)) (slc (Qal (rnc (.plain _ nll) rn0)) Qan)) (.plain _ (NLt.tup _ (nlc nll (nlc nll nl0)))) rfl rfl rfl, trivial⟩ ?_
    refine wsq ?_
    refine wx tbk [] trivial ?_
    rcases bft ((decide (x15 ≥ 0))) with hc16 | hc16
    ·replace h := Qa2 hc16 h
     refine wft hc16 (by kernel_rfl) ?_
     refine wx tbk [(0, rp [] Za8)] ⟨Qat (vs := []) rfl ts34 tz34 rfl (by rfl) rfl, trivial⟩ ?_
     refine wmr (mto (n := 35) (l' := [(6, .ref 0 3 0 0), (7, I x15), (8, I 11)]) (own' := [Q3c]) [(6, .ref 1 3 0 0), (7, I x15), (8, I 11)] [1] [Za9] hφ0 (pc (.rn (rqr rfl)) (pc rwl (pc rwl pn))) (qc (spb (lc (.nil _) (lc (.nil _) (lc (.nil _) ln)))) qn)) ?_
     refine Qad ?_
     refine Qaj ?_
     obtain rfl := osi h
     exact ⟨_, Mor.rfl, ⟨⟨[Q3b, I x15, I 11], ⟨Qcm (n := 0) (m := 3) (j := 0) (i := 0) (xs := [[Qyz, Qyy, Qyx]]) (by kernel_rfl) (by kernel_rfl) ti34 (by decide) rfl (nle rfl) rfl, rot (by kernel_rfl), rot (by kernel_rfl), trivial⟩, rfl⟩, (NLt.tup _ (nlc (NLt.agg _ (nlc (nld Qap _) (nlc (nld Qa1 _) (nlc (nld Qaf _) nl0)))) (nlc nll (nlc nll nl0)))), Nat.le_refl _, fun n hn => absurd hn (Nat.not_lt_zero n)⟩⟩
    ·replace h := Qa3 hc16 h
     refine wfn hc16 (by kernel_rfl) ?_
     refine Qar ?_
     refine thn ?_
     cases h
   ·replace h := Zge h
    refine wx tbk [(3, ⟨[fu 29, (.tmp 21, (Q06 p0)), (.tmp 22, (Q05 p1)), (.tmp 23, (Qwj p2))], [(2, .unused), (3, .unused), (4, .unused), (5, .unused), (6, .unused), (7, .unused)], (.tup [.ref 4 7 0 0, I x17.1]), [(2, Q3a), (3, .own 1 [[I x17.1]]), (4, (Qr7 p0 p1 p2 x17)), (5, (.own 1 ((x17.2.2.1 : List (List GStream)).map Qab))), (6, (.own 4 ((x17.2.2.2.1 : List GLost).map Qax))), (7, (.own 1 ((x17.2.2.2.2 : List Int).map Qam)))], false⟩)] ⟨Qao (first := []) (cap := []) (vs := [(Q06 p0), (Q05 p1), (Qwj p2)]) (σr := []) (σr' := [Q3a, (.own 1 [[I x17.1]]), (Qr7 p0 p1 p2 x17), (.own 1 ((x17.2.2.1 : List (List GStream)).map Qab)), (.own 4 ((x17.2.2.2.1 : List GLost).map Qax)), (.own 1 ((x17.2.2.2.2 : List Int).map Qam))]) (res' := (.tup [.ref 4 7 0 0, I x17.1])) [2, 3, 4, 5, 6, 7] rfl Q6p (Qnr N p0 p1 p2 _ hf13) rfl (Qbr (rnc (.plain _ (NLt.agg _ (nlc (nld Qai _) (nlc (nld Qac _) nl0)))) (rnc (.plain _ (nld Qaf _)) (rnc (.plain _ (nld Qae _)) rn0)))) Qan (slc (Qal (rnc (Qbk rfl) rn0)) (slc (Qal (rnc (.plain _ nll) rn0)) (slc (Qal (rnc (.plain _ (nld Qai _)) (rnc (.plain _ (nld Qac _)) (rnc (Qdd rfl) (rnc (Qdd rfl) (rnc (Qdd rfl) (rnc (.plain _ (nld Qae _)) (rnc (.plain _ nll) rn0)))))))) (slc (Qa9 Qap) (slc (Qa9 Qa1) (slc (Qa9 Qaf) Qan)))))) (Zgl (rnc (Qbk rfl) (rnc (.plain _ nll) rn0))) rfl rfl rfl, trivial⟩ ?_
    refine wsq ?_
    refine wx tbk [] trivial ?_
    rcases bft ((decide (x17.1 ≥ 0))) with hc18 | hc18
    ·replace h := Qa2 hc18 h
     refine wft hc18 (by kernel_rfl) ?_
     refine wx tbk [(0, rp [] Za8)] ⟨Qat (vs := []) rfl ts34 tz34 rfl (by rfl) rfl, trivial⟩ ?_
     refine wmr (mto (n := 35) (l' := [(6, .ref 0 3 0 0), (7, I x17.1), (8, I 11)]) (own' := [Q3c]) [(6, .ref 1 3 0 0), (7, I x17.1), (8, I 11)] [1] [Za9] hφ0 (pc (.rn (rqr rfl)) (pc rwl (pc rwl pn))) (qc (spb (lc (.nil _) (lc (.nil _) (lc (.nil _) ln)))) qn)) ?_
     refine Qad ?_
     refine Qaj ?_
     obtain rfl := osi h
     exact ⟨_, Mor.rfl, ⟨⟨[Q3b, I x17.1, I 11], ⟨Qcm (n := 0) (m := 3) (j := 0) (i := 0) (xs := [[Qyz, Qyy, Qyx]]) (by kernel_rfl) (by kernel_rfl) ti34 (by decide) rfl (nle rfl) rfl, rot (by kernel_rfl), rot (by kernel_rfl), trivial⟩, rfl⟩, (NLt.tup _ (nlc (NLt.agg _ (nlc (nld Qap _) (nlc (nld Qa1 _) (nlc (nld Qaf _) nl0)))) (nlc nll (nlc nll nl0)))), Nat.le_refl _, fun n hn => absurd hn (Nat.not_lt_zero n)⟩⟩
    ·replace h := Qa3 hc18 h
     refine wfn hc18 (by kernel_rfl) ?_
     refine Qar ?_
     refine thn ?_
     refine wx tbk [(1, rb [(.tmp 31, .ref 4 7 0 0)] [(4, (Qr7 p0 p1 p2 x17))] (.ref 4 7 0 0))] ⟨Qbd rfl, trivial⟩ ?_
     obtain ⟨hz19, h⟩ := cko h
     refine wmr (Qxr (n := 35) (mp := 3) (m := 1) (xs := (x17.2.2.1 : List (List GStream)).map Qab) (c := [(.own 5 1 (0) ((p0.Elements.length : Int).toNat)), (.own 6 4 (0) ((p0.Elements.length : Int).toNat)), (.own 7 1 (0) (p1.length))]) (l' := [(6, .ref 1 3 0 0), (7, I 0), (8, I 0)]) (c' := [(Qnf x17 p0), (.own 6 4 (0) ((p0.Elements.length : Int).toNat)), (.own 7 1 (0) (p1.length))]) (own' := [(Zba p0), (.own 3 [[(Qnf x17 p0), (.own 6 4 (0) ((p0.Elements.length : Int).toNat)), (.own 7 1 (0) (p1.length))]]), Q3a, (.own 1 [[I x17.1]]), (Qr7 p0 p1 p2 x17), .dead, (.own 4 ((x17.2.2.2.1 : List GLost).map Qax)), (.own 1 ((x17.2.2.2.2 : List Int).map Qam))]) 5 1 [(6, .ref 1 3 0 0), (7, I 0), (8, I 0)] (by kernel_rfl) (by kernel_rfl) (by kernel_rfl) (by kernel_rfl) ⟨(Qq2 hz19), (.same _), (.same _), trivial⟩ ⟨rfl, (.same _), rfl, (.same _), rfl, (.same _), trivial⟩ (by kernel_rfl)) ?_
     obtain ⟨hz20, h⟩ := cko h
     refine wmr (Qxr (n := 35) (mp := 3) (m := 4) (xs := (x17.2.2.2.1 : List GLost).map Qax) (c := [(Qnf x17 p0), (.own 6 4 (0) ((p0.Elements.length : Int).toNat)), (.own 7 1 (0) (p1.length))]) (l' := [(6, .ref 1 3 0 0), (7, I 0), (8, I 0)]) (c' := [(Qnf x17 p0), (Qr6 x17 p0), (.own 7 1 (0) (p1.length))]) (own' := [(Zba p0), (.own 3 [[(Qnf x17 p0), (Qr6 x17 p0), (.own 7 1 (0) (p1.length))]]), Q3a, (.own 1 [[I x17.1]]), (Qr7 p0 p1 p2 x17), .dead, .dead, (.own 1 ((x17.2.2.2.2 : List Int).map Qam))]) 6 1 [(6, .ref 1 3 0 0), (7, I 0), (8, I 0)] (by kernel_rfl) (by kernel_rfl) (by kernel_rfl) (by kernel_rfl) ⟨(.same _), (Qq2 hz20), (.same _), trivial⟩ ⟨rfl, (.same _), rfl, (.same _), rfl, (.same _), trivial⟩ (by kernel_rfl)) ?_
     obtain ⟨hz21, h⟩ := cko h
     refine wmr (Qxr (n := 35) (mp := 3) (m := 1) (xs := (x17.2.2.2.2 : List Int).map Qam) (c := [(Qnf x17 p0), (Qr6 x17 p0), (.own 7 1 (0) (p1.length))]) (l' := [(6, .ref 1 3 0 0), (7, I 0), (8, I 0)]) (c' := [(Qnf x17 p0), (Qr6 x17 p0), (.dat 1 ((x17.2.2.2.2.take p1.length : List Int).map Qam))]) (own' := [(Zba p0), (.own 3 [[(Qnf x17 p0), (Qr6 x17 p0), (.dat 1 ((x17.2.2.2.2.take p1.length : List Int).map Qam))]]), Q3a, (.own 1 [[I x17.1]]), (Qr7 p0 p1 p2 x17), .dead, .dead, .dead]) 7 1 [(6, .ref 1 3 0 0), (7, I 0), (8, I 0)] (by kernel_rfl) (by kernel_rfl) (by kernel_rfl) (by kernel_rfl) ⟨(.same _), (.same _), (Qq2 hz21), trivial⟩ ⟨rfl, (.same _), rfl, (.same _), rfl, (.same _), trivial⟩ (by kernel_rfl)) ?_
     refine wmr (mto (n := 35) (l' := [(6, .ref 0 3 0 0), (7, I 0), (8, I 0)]) (own' := [(.own 3 [[(.dat 1 ((((⟨x17.2.2.1.take ((p0.Elements.length : Int).toNat), x17.2.2.2.1.take ((p0.Elements.length : Int).toNat), x17.2.2.2.2.take p1.length⟩ : GTick).Out) : List (List GStream)).map Qab)), (.dat 4 ((((⟨x17.2.2.1.take ((p0.Elements.length : Int).toNat), x17.2.2.2.1.take ((p0.Elements.length : Int).toNat), x17.2.2.2.2.take p1.length⟩ : GTick).Lost) : List GLost).map Qax)), (.dat 1 ((((⟨x17.2.2.1.take ((p0.Elements.length : Int).toNat), x17.2.2.2.1.take ((p0.Elements.length : Int).toNat), x17.2.2.2.2.take p1.length⟩ : GTick).State) : List Int).map Qam))]])]) [(6, .ref 1 3 0 0), (7, I 0), (8, I 0)] [1] [(.own 3 [[(Qnf x17 p0), (Qr6 x17 p0), (.dat 1 ((x17.2.2.2.2.take p1.length : List Int).map Qam))]])] hφ0 (pc (.rn (rqr rfl)) (pc rwl (pc rwl pn))) (qc (spb (lc (.rn (.plain _ (nld Qap _))) (lc (.rn (.plain _ (nld Qa1 _))) (lc (.rn (.plain _ (nld Qaf _))) ln)))) qn)) ?_
     refine Qad ?_
     obtain rfl := osi h
     exact ⟨_, Mor.rfl, ⟨⟨[(.agg [(Q98 x17 p0 p1), (Q97 x17 p0 p1), (Q96 x17 p0 p1)]), I 0, I 0], ⟨Qcm (n := 0) (m := 3) (j := 0) (i := 0) (xs := [[(Q98 x17 p0 p1), (Q97 x17 p0 p1), (Q96 x17 p0 p1)]]) (by kernel_rfl) (by kernel_rfl) ti34 (by decide) rfl (nle rfl) rfl, rot (by kernel_rfl), rot (by kernel_rfl), trivial⟩, rfl⟩, (NLt.tup _ (nlc (NLt.agg _ (nlc (nld Qap _) (nlc (nld Qa1 _) (nlc (nld Qaf _) nl0)))) (nlc nll (nlc nll nl0)))), Nat.le_refl _, fun n hn => absurd hn (Nat.not_lt_zero n)⟩⟩
def Qm8 (_N : Nat) : Option (GNet × (List GStream)) :=
  some ((⟨[(⟨100, 101, 419, 2676, 150⟩ : GRow), (⟨150, 476, 632, 2746, 300⟩ : GRow), (⟨200, 1555, 852, 2793, 600⟩ : GRow)], [(⟨1, [], 2, 0, 1000, 1000000, []⟩ : GElement), (⟨3, [(⟨0, 0⟩ : GPort)], 2, 2000, 1000, 1000000, []⟩ : GElement), (⟨4, [(⟨1, 0⟩ : GPort)], 0, 100, 1000, 1000000, []⟩ : GElement)]⟩ : GNet), [(⟨1000, 852000, 250000, 50⟩ : GStream)])
def Za4 : AV := .agg [(I (100)), (I (101)), (I (419)), (I (2676)), (I (150))]
def Za3 : AV := .agg [(I (150)), (I (476)), (I (632)), (I (2746)), (I (300))]
def Za2 : AV := .agg [(I (200)), (I (1555)), (I (852)), (I (2793)), (I (600))]
def Q03 : AV := .dat 5 (([(⟨100, 101, 419, 2676, 150⟩ : GRow), (⟨150, 476, 632, 2746, 300⟩ : GRow), (⟨200, 1555, 852, 2793, 600⟩ : GRow)] : List GRow).map Qav)
def Zfn : AV := .agg [(K .u8 (1)), nilS, (I (2)), (I (0)), (I (1000)), (I (1000000)), nilS]
def Za1 : AV := .agg [(I (0)), (I (0))]
def Q24 : AV := .dat 2 (([(⟨0, 0⟩ : GPort)] : List GPort).map Qa7)
def Zfm : AV := .agg [(K .u8 (3)), Q24, (I (2)), (I (2000)), (I (1000)), (I (1000000)), nilS]
def Za0 : AV := .agg [(I (1)), (I (0))]
def Q23 : AV := .dat 2 (([(⟨1, 0⟩ : GPort)] : List GPort).map Qa7)
def Q94 : AV := .agg [(K .u8 (4)), Q23, (I (0)), (I (100)), (I (1000)), (I (1000000)), nilS]
def Qr4 : AV := .dat 7 (([(⟨1, [], 2, 0, 1000, 1000000, []⟩ : GElement), (⟨3, [(⟨0, 0⟩ : GPort)], 2, 2000, 1000, 1000000, []⟩ : GElement), (⟨4, [(⟨1, 0⟩ : GPort)], 0, 100, 1000, 1000000, []⟩ : GElement)] : List GElement).map Qah)
def Q26 : AV := .dat 1 (([] : List Int).map Qam)
def Q93 : AV := .agg [(K .u8 (1)), (.dat 2 (([] : List GPort).map Qa7)), (I (2)), (I (0)), (I (1000)), (I (1000000)), Q26]
def Q92 : AV := .agg [(K .u8 (3)), Q24, (I (2)), (I (2000)), (I (1000)), (I (1000000)), Q26]
def Q91 : AV := .agg [(K .u8 (4)), Q23, (I (0)), (I (100)), (I (1000)), (I (1000000)), Q26]
def Q25 : AV := .agg [(I (1000)), (I (852000)), (I (250000)), (I (50))]
def Q90 : AV := .dat 4 (([(⟨1000, 852000, 250000, 50⟩ : GStream)] : List GStream).map Qaa)
theorem Qrz (N : Nat) (r : (GNet × (List GStream))) (h : Qm8 N = some r) : Spec Try.prog 27 [] [] (.tup [(.agg (Qpg r.1)), (.dat 4 (r.2.map Qaa))]) [] := by
  refine Qag Try.func27 rfl 0 (nle rfl) (fun X φ0 w0 hφ0 hd0 => ?_)
  unfold Qm8 at h
  refine wx tbk [] trivial ?_
  refine wx tbk [(0, rp [ci 100, ci 101, ci 419, ci 2676, ci 150] Za4), (1, rp [ci 150, ci 476, ci 632, ci 2746, ci 300] Za3), (2, rp [ci 200, ci 1555, ci 852, ci 2793, ci 600] Za2), (3, rp [(.tmp 4, Za4), (.tmp 5, Za3), (.tmp 6, Za2)] Q03)] ⟨Qat (vs := [I 100, I 101, I 419, I 2676, I 150]) rfl Q8i Qxc rfl (by rfl) rfl, Qat (vs := [I 150, I 476, I 632, I 2746, I 300]) rfl Q8i Qxc rfl (by rfl) rfl, Qat (vs := [I 200, I 1555, I 852, I 2793, I 600]) rfl Q8i Qxc rfl (by rfl) rfl, Qbp (vs := [Za4, Za3, Za2]) rfl Try.underlying39 Qrw Qxc rfl (by decide) rfl (by decide) (by rfl) (by rfl) (by rfl) rfl, trivial⟩ ?_
  refine wx tbk [(0, rp [(.const (.int .u8 1), (K .u8 (1))), ci 2, ci 1000, ci 1000000] Zfn), (1, rp [] Za1), (2, rp [(.tmp 9, Za1)] Q24), (3, rp [(.const (.int .u8 3), (K .u8 (3))), (.tmp 10, Q24), ci 2, ci 2000, ci 1000, ci 1000000] Zfm), (4, rp [ci 1] Za0), (5, rp [(.tmp 12, Za0)] Q23), (6, rp [(.const (.int .u8 4), (K .u8 (4))), (.tmp 13, Q23), ci 100, ci 1000, ci 1000000] Q94), (7, rp [(.tmp 8, Zfn), (.tmp 11, Zfm), (.tmp 14, Q94)] Qr4)] ⟨Qat (vs := [(K .u8 (1)), I 2, I 1000, I 1000000]) rfl ts76 tz76 rfl (by rfl) rfl, Qat (vs := []) rfl ts57 tz57 rfl (by rfl) rfl, Qbp (vs := [Za1]) rfl Try.underlying53 ti57 tz57 rfl (by decide) rfl (by decide) (by rfl) (by rfl) (by rfl) rfl, Qat (vs := [(K .u8 (3)), Q24, I 2, I 2000, I 1000, I 1000000]) rfl ts76 tz76 rfl (by rfl) rfl, Qat (vs := [I 1]) rfl ts57 tz57 rfl (by rfl) rfl, Qbp (vs := [Za0]) rfl Try.underlying53 ti57 tz57 rfl (by decide) rfl (by decide) (by rfl) (by rfl) (by rfl) rfl, Qat (vs := [(K .u8 (4)), Q23, I 100, I 1000, I 1000000]) rfl ts76 tz76 rfl (by rfl) rfl, awk (rd' := [(.tmp 8, Q93), (.tmp 11, Q92), (.tmp 14, Q91)]) ⟨rfl, (Less.agg ⟨lrf, Less.nil, lrf, lrf, lrf, lrf, Less.nil, trivial⟩), rfl, (Less.agg ⟨lrf, lrf, lrf, lrf, lrf, lrf, Less.nil, trivial⟩), rfl, (Less.agg ⟨lrf, lrf, lrf, lrf, lrf, lrf, Less.nil, trivial⟩), trivial⟩ (Qbp (vs := [Q93, Q92, Q91]) rfl Try.underlying40 ti76 tz76 rfl (by decide) rfl (by decide) (by rfl) (by rfl) (by rfl) rfl), trivial⟩ ?_
  refine wx tbk [(2, rp [(.tmp 16, Q03), (.tmp 17, Qr4)] (.agg [Q03, Qr4])), (3, rp [ci 1000, ci 852000, ci 250000, ci 50] Q25), (4, rp [(.tmp 19, Q25)] Q90)] ⟨Qat (vs := [Q03, Qr4]) rfl ts42 tz42 rfl (by rfl) rfl, Qat (vs := [I 1000, I 852000, I 250000, I 50]) rfl ts48 tz48 rfl (by rfl) rfl, Qbp (vs := [Q25]) rfl Try.underlying45 ti48 tz48 rfl (by decide) rfl (by decide) (by rfl) (by rfl) (by rfl) rfl, trivial⟩ ?_
  refine Qad ?_
  obtain rfl := osi h
  exact fend ⟨[(.agg [Q03, Qr4]), Q90], ⟨Qcm (n := 0) (m := 2) (j := 0) (i := 0) (xs := [[Q03, Qr4]]) (by kernel_rfl) (by kernel_rfl) ti42 (by decide) rfl (nle rfl) rfl, rot (by kernel_rfl), trivial⟩, rfl⟩ (NLt.tup _ (nlc (NLt.agg _ (nlc (nld Qai _) (nlc (nld Qac _) nl0))) (nlc (nld Qae _) nl0)))
def Qhj (N : Nat) : Option Bool :=
  (Qm8 2000 ).bind fun x2 =>
  (Qop N (⟨x2.1.Table, x2.1.Elements⟩ : GNet)).bind fun x4 =>
  (Qjb N (⟨x2.1.Table, x2.1.Elements⟩ : GNet) ([0, 0, 0]) x2.2).bind fun x6 =>
  bif (x4.2 == 0) then
   bif (x6.2.2 == 0) then
    bif ((x4.1.length : Int) == 2) then
     (getI x4.1 1).bind fun x10 =>
     bif (([x10.Element, x10.Outlet] : List Int) == [2, 1]) then
      bif ((x6.1.Out.length : Int) == 3) then
       (getI x6.1.Out 2).bind fun x16 =>
       bif ((x16.length : Int) == 2) then
        bif ((x6.1.Lost.length : Int) == 3) then
         (getI x16 0).bind fun x22 =>
         bif (([x22.Mass, x22.Heat, x22.Silica, x22.Gas] : List Int) == [271, 542596, 12150, 50]) then
          (getI x16 1).bind fun x27 =>
          bif (([x27.Mass, x27.Heat, x27.Silica, x27.Gas] : List Int) == [729, 307404, 109350, 0]) then
           (getI x6.1.Lost 1).bind fun x32 =>
           bif (x32.Heat == 2000) then
            (getI x6.1.Lost 2).bind fun x37 =>
            some (x37.Scale == 128500)
           else
            some false
          else
           some false
         else
          some false
        else
         some false
       else
        some false
      else
       some false
     else
      some false
    else
     some false
   else
    some false
  else
   some false
def Q27 (x2 : (GNet × (List GStream))) : AV := .agg [(.dat 5 ((x2.1.Table : List GRow).map Qav)), (.dat 7 ((x2.1.Elements : List GElement).map Qah))]
def Za6 (x2 : (GNet × (List GStream))) : AV := .dat 4 ((x2.2 : List GStream).map Qaa)
def Qlf (x4 : ((List GPort) × Int)) : AV := .dat 2 ((x4.1 : List GPort).map Qa7)
def Za5 : AV := .dat 1 (([0, 0, 0] : List Int).map Qam)
def Qj7 (x6 : (GTick × Int × Int)) : AV := .dat 1 ((x6.1.Out : List (List GStream)).map Qab)
def Qs4 (x6 : (GTick × Int × Int)) : AV := .dat 4 ((x6.1.Lost : List GLost).map Qax)
def Qi5 : AV := .agg [(I (2)), (I (1))]
def Qo6 (x10 : GPort) : AV := .agg [(I (x10.Element)), (I (x10.Outlet))]
def Qkg (x16 : (List GStream)) : AV := .dat 4 ((x16 : List GStream).map Qaa)
def Qo5 : AV := .agg [(I (271)), (I (542596)), (I (12150)), (I (50))]
def Qyw (x22 : GStream) : AV := .agg [(I (x22.Mass)), (I (x22.Heat)), (I (x22.Silica)), (I (x22.Gas))]
def Qr5 : AV := .agg [(I (729)), (I (307404)), (I (109350)), (I (0))]
def Q28 (x27 : GStream) : AV := .agg [(I (x27.Mass)), (I (x27.Heat)), (I (x27.Silica)), (I (x27.Gas))]
theorem Qjr (N : Nat) (r : Bool) (h : Qhj N = some r) : Spec Try.prog 7 [] [] (B r) [] := by
  refine Qag Try.func7 rfl 0 (nle rfl) (fun X φ0 w0 hφ0 hd0 => ?_)
  unfold Qhj at h
  refine wx tbk [] trivial ?_
  obtain ⟨x2, hf1, h⟩ := bno h
  refine wx tbk [(0, rp [fu 27] (.tup [(Q27 x2), (Za6 x2)]))] ⟨apc (first := []) (cap := []) (vs := []) rfl Ze3 (Qrz 2000  _ hf1) rfl rfl nl0 (NLt.tup _ (nlc (NLt.agg _ (nlc (nld Qai _) (nlc (nld Qac _) nl0))) (nlc (nld Qae _) nl0))) rfl, trivial⟩ ?_
  obtain ⟨x4, hf3, h⟩ := bno h
  refine wx tbk [(1, rp [fu 13, (.tmp 13, (Q27 x2))] (.tup [(Qlf x4), I x4.2]))] ⟨apc (first := []) (cap := []) (vs := [(Q27 x2)]) rfl Ze7 (Qtl N (⟨x2.1.Table, x2.1.Elements⟩ : GNet) _ hf3) rfl rfl (nlc (NLt.agg _ (nlc (nld Qai _) (nlc (nld Qac _) nl0))) nl0) (NLt.tup _ (nlc (nld Qcp _) (nlc nll nl0))) rfl, trivial⟩ ?_
  obtain ⟨x6, hf5, h⟩ := bno h
  refine wx tbk [(1, rp [ci 0, ci 0, ci 0] Za5), (3, rp [fu 8, (.tmp 18, (Q27 x2)), (.tmp 19, Za5), (.tmp 20, (Za6 x2))] (.tup [(.agg [(Qj7 x6), (Qs4 x6), (.dat 1 ((x6.1.State : List Int).map Qam))]), I x6.2.1, I x6.2.2]))] ⟨Qbp (vs := [I 0, I 0, I 0]) rfl Try.underlying27 ti3 tz3 rfl (by decide) rfl (by decide) (by rfl) (by rfl) (by rfl) rfl, apc (first := []) (cap := []) (vs := [(Q27 x2), Za5, (Za6 x2)]) rfl Q6h (Qm6 N (⟨x2.1.Table, x2.1.Elements⟩ : GNet) ([0, 0, 0]) x2.2 _ hf5) rfl rfl (nlc (NLt.agg _ (nlc (nld Qai _) (nlc (nld Qac _) nl0))) (nlc (nld Qaf _) (nlc (nld Qae _) nl0))) (NLt.tup _ (nlc (NLt.agg _ (nlc (nld Qap _) (nlc (nld Qa1 _) (nlc (nld Qaf _) nl0)))) (nlc nll (nlc nll nl0)))) rfl, trivial⟩ ?_
  rcases bft ((x4.2 == 0)) with hb7 | hb7
  ·replace h := Qa2 hb7 h
   rcases bft ((x6.2.2 == 0)) with hb8 | hb8
   ·replace h := Qa2 hb8 h
    rcases bft (((x4.1.length : Int) == 2)) with hb9 | hb9
    ·replace h := Qa2 hb9 h
     obtain ⟨x10, hg11, h⟩ := bno h
     obtain ⟨hi12, hj13⟩ := gsm hg11
     rcases bft ((([x10.Element, x10.Outlet] : List Int) == [2, 1])) with hb14 | hb14
     ·replace h := Qa2 hb14 h
      rcases bft (((x6.1.Out.length : Int) == 3)) with hb15 | hb15
      ·replace h := Qa2 hb15 h
       obtain ⟨x16, hg17, h⟩ := bno h
       obtain ⟨hi18, hj19⟩ := gsm hg17
       rcases bft (((x16.length : Int) == 2)) with hb20 | hb20
       ·replace h := Qa2 hb20 h
        rcases bft (((x6.1.Lost.length : Int) == 3)) with hb21 | hb21
        ·replace h := Qa2 hb21 h
         obtain ⟨x22, hg23, h⟩ := bno h
         obtain ⟨hi24, hj25⟩ := gsm hg23
         rcases bft ((([x22.Mass, x22.Heat, x22.Silica, x22.Gas] : List Int) == [271, 542596, 12150, 50])) with hb26 | hb26
         ·replace h := Qa2 hb26 h
          obtain ⟨x27, hg28, h⟩ := bno h
          obtain ⟨hi29, hj30⟩ := gsm hg28
          rcases bft ((([x27.Mass, x27.Heat, x27.Silica, x27.Gas] : List Int) == [729, 307404, 109350, 0])) with hb31 | hb31
          ·replace h := Qa2 hb31 h
           obtain ⟨x32, hg33, h⟩ := bno h
           obtain ⟨hi34, hj35⟩ := gsm hg33
           rcases bft ((x32.Heat == 2000)) with hb36 | hb36
           ·replace h := Qa2 hb36 h
            obtain ⟨x37, hg38, h⟩ := bno h
            obtain ⟨hi39, hj40⟩ := gsm hg38
            refine wx tbk [(2, rp [(.tmp 26, (B ((x4.2 == 0))))] (B true)), (6, rp [(.tmp 30, (B ((x6.2.2 == 0))))] (B true)), (8, rp [(.tmp 31, B true), (.tmp 32, (Qlf x4))] (I ((x4.1.length : Int)))), (11, rp [(.tmp 35, (B (((x4.1.length : Int) == 2))))] (B true)), (13, rp [(.tmp 36, B true), (.tmp 37, (Qlf x4)), ci 1] (.dptr (Qa7 (x10)) 0)), (15, rp [(.tmp 36, B true), ci 2, ci 1] Qi5), (16, rp [(.tmp 36, B true), (.tmp 39, (Qo6 x10)), (.tmp 40, Qi5)] (B ((([x10.Element, x10.Outlet] : List Int) == [2, 1])))), (18, rp [(.tmp 42, (B ((([x10.Element, x10.Outlet] : List Int) == [2, 1]))))] (B true)), (21, rp [(.tmp 43, B true), (.tmp 45, (Qj7 x6))] (I ((x6.1.Out.length : Int)))), (24, rp [(.tmp 48, (B (((x6.1.Out.length : Int) == 3))))] (B true)), (27, rp [(.tmp 49, B true), (.tmp 51, (Qj7 x6)), ci 2] (.dptr (Qab (x16)) 0)), (29, rp [(.tmp 49, B true), (.tmp 53, (Qkg x16))] (I ((x16.length : Int)))), (32, rp [(.tmp 56, (B (((x16.length : Int) == 2))))] (B true)), (35, rp [(.tmp 57, B true), (.tmp 59, (Qs4 x6))] (I ((x6.1.Lost.length : Int)))), (38, rp [(.tmp 62, (B (((x6.1.Lost.length : Int) == 3))))] (B true)), (41, rp [(.tmp 63, B true), (.tmp 65, (Qj7 x6)), ci 2] (.dptr (Qab (x16)) 0)), (43, rp [(.tmp 63, B true), (.tmp 67, (Qkg x16)), ci 0] (.dptr (Qaa (x22)) 0)), (45, rp [(.tmp 63, B true), ci 271, ci 542596, ci 12150, ci 50] Qo5), (46, rp [(.tmp 63, B true), (.tmp 69, (Qyw x22)), (.tmp 70, Qo5)] (B ((([x22.Mass, x22.Heat, x22.Silica, x22.Gas] : List Int) == [271, 542596, 12150, 50])))), (48, rp [(.tmp 72, (B ((([x22.Mass, x22.Heat, x22.Silica, x22.Gas] : List Int) == [271, 542596, 12150, 50]))))] (B true)), (51, rp [(.tmp 73, B true), (.tmp 75, (Qj7 x6)), ci 2] (.dptr (Qab (x16)) 0)), (53, rp [(.tmp 73, B true), (.tmp 77, (Qkg x16)), ci 1] (.dptr (Qaa (x27)) 0)), (55, rp [(.tmp 73, B true), ci 729, ci 307404, ci 109350] Qr5), (56, rp [(.tmp 73, B true), (.tmp 79, (Q28 x27)), (.tmp 80, Qr5)] (B ((([x27.Mass, x27.Heat, x27.Silica, x27.Gas] : List Int) == [729, 307404, 109350, 0])))), (58, rp [(.tmp 82, (B ((([x27.Mass, x27.Heat, x27.Silica, x27.Gas] : List Int) == [729, 307404, 109350, 0]))))] (B true)), (61, rp [(.tmp 83, B true), (.tmp 85, (Qs4 x6)), ci 1] (.dptr (Qax (x32)) 0)), (66, rp [(.tmp 90, (B ((x32.Heat == 2000))))] (B true)), (69, rp [(.tmp 91, B true), (.tmp 93, (Qs4 x6)), ci 2] (.dptr (Qax (x37)) 0))] ⟨asb hb7 (amv rfl), asb hb8 (amv rfl), ag_ (alm (c := Qa7) (l := x4.1) (aln rfl Try.underlying53 rfl)), asb hb9 (amv rfl), ag_ (aid rfl Try.underlying53 ti57 rfl rfl hi12 (mgt Qa7 hj13) rfl), ag_ (Qat (vs := [I 2, I 1]) rfl ts57 tz57 rfl (by rfl) rfl), ag_ (Qbu (ls := [x10.Element, x10.Outlet]) (ks := [2, 1]) rfl rfl Qm9 (by kernel_rfl) rfl rfl), asb hb14 (amv rfl), ag_ (alm (c := Qab) (l := x6.1.Out) (aln rfl Try.underlying31 rfl)), asb hb15 (amv rfl), ag_ (aid rfl Try.underlying31 ti45 rfl rfl hi18 (mgt Qab hj19) rfl), ag_ (alm (c := Qaa) (l := x16) (aln rfl Try.underlying45 rfl)), asb hb20 (amv rfl), ag_ (alm (c := Qax) (l := x6.1.Lost) (aln rfl Try.underlying32 rfl)), asb hb21 (amv rfl), ag_ (aid rfl Try.underlying31 ti45 rfl rfl hi18 (mgt Qab hj19) rfl), ag_ (aid rfl Try.underlying45 ti48 rfl rfl hi24 (mgt Qaa hj25) rfl), ag_ (Qat (vs := [I 271, I 542596, I 12150, I 50]) rfl ts48 tz48 rfl (by rfl) rfl), ag_ (Qbu (ls := [x22.Mass, x22.Heat, x22.Silica, x22.Gas]) (ks := [271, 542596, 12150, 50]) rfl rfl Qhc (by kernel_rfl) rfl rfl), asb hb26 (amv rfl), ag_ (aid rfl Try.underlying31 ti45 rfl rfl hi18 (mgt Qab hj19) rfl), ag_ (aid rfl Try.underlying45 ti48 rfl rfl hi29 (mgt Qaa hj30) rfl), ag_ (Qat (vs := [I 729, I 307404, I 109350]) rfl ts48 tz48 rfl (by rfl) rfl), ag_ (Qbu (ls := [x27.Mass, x27.Heat, x27.Silica, x27.Gas]) (ks := [729, 307404, 109350, 0]) rfl rfl Qhc (by kernel_rfl) rfl rfl), asb hb31 (amv rfl), ag_ (aid rfl Try.underlying32 ti50 rfl rfl hi34 (mgt Qax hj35) rfl), asb hb36 (amv rfl), ag_ (aid rfl Try.underlying32 ti50 rfl rfl hi39 (mgt Qax hj40) rfl), trivial⟩ ?_
            refine Qad ?_
            obtain rfl := osi h
            exact fend ⟨[(B ((x37.Scale == 128500)))], ⟨rot (by kernel_rfl), trivial⟩, rfl⟩ nll
           ·replace h := Qa3 hb36 h
            refine wx tbk [(2, rp [(.tmp 26, (B ((x4.2 == 0))))] (B true)), (6, rp [(.tmp 30, (B ((x6.2.2 == 0))))] (B true)), (8, rp [(.tmp 31, B true), (.tmp 32, (Qlf x4))] (I ((x4.1.length : Int)))), (11, rp [(.tmp 35, (B (((x4.1.length : Int) == 2))))] (B true)), (13, rp [(.tmp 36, B true), (.tmp 37, (Qlf x4)), ci 1] (.dptr (Qa7 (x10)) 0)), (15, rp [(.tmp 36, B true), ci 2, ci 1] Qi5), (16, rp [(.tmp 36, B true), (.tmp 39, (Qo6 x10)), (.tmp 40, Qi5)] (B ((([x10.Element, x10.Outlet] : List Int) == [2, 1])))), (18, rp [(.tmp 42, (B ((([x10.Element, x10.Outlet] : List Int) == [2, 1]))))] (B true)), (21, rp [(.tmp 43, B true), (.tmp 45, (Qj7 x6))] (I ((x6.1.Out.length : Int)))), (24, rp [(.tmp 48, (B (((x6.1.Out.length : Int) == 3))))] (B true)), (27, rp [(.tmp 49, B true), (.tmp 51, (Qj7 x6)), ci 2] (.dptr (Qab (x16)) 0)), (29, rp [(.tmp 49, B true), (.tmp 53, (Qkg x16))] (I ((x16.length : Int)))), (32, rp [(.tmp 56, (B (((x16.length : Int) == 2))))] (B true)), (35, rp [(.tmp 57, B true), (.tmp 59, (Qs4 x6))] (I ((x6.1.Lost.length : Int)))), (38, rp [(.tmp 62, (B (((x6.1.Lost.length : Int) == 3))))] (B true)), (41, rp [(.tmp 63, B true), (.tmp 65, (Qj7 x6)), ci 2] (.dptr (Qab (x16)) 0)), (43, rp [(.tmp 63, B true), (.tmp 67, (Qkg x16)), ci 0] (.dptr (Qaa (x22)) 0)), (45, rp [(.tmp 63, B true), ci 271, ci 542596, ci 12150, ci 50] Qo5), (46, rp [(.tmp 63, B true), (.tmp 69, (Qyw x22)), (.tmp 70, Qo5)] (B ((([x22.Mass, x22.Heat, x22.Silica, x22.Gas] : List Int) == [271, 542596, 12150, 50])))), (48, rp [(.tmp 72, (B ((([x22.Mass, x22.Heat, x22.Silica, x22.Gas] : List Int) == [271, 542596, 12150, 50]))))] (B true)), (51, rp [(.tmp 73, B true), (.tmp 75, (Qj7 x6)), ci 2] (.dptr (Qab (x16)) 0)), (53, rp [(.tmp 73, B true), (.tmp 77, (Qkg x16)), ci 1] (.dptr (Qaa (x27)) 0)), (55, rp [(.tmp 73, B true), ci 729, ci 307404, ci 109350] Qr5), (56, rp [(.tmp 73, B true), (.tmp 79, (Q28 x27)), (.tmp 80, Qr5)] (B ((([x27.Mass, x27.Heat, x27.Silica, x27.Gas] : List Int) == [729, 307404, 109350, 0])))), (58, rp [(.tmp 82, (B ((([x27.Mass, x27.Heat, x27.Silica, x27.Gas] : List Int) == [729, 307404, 109350, 0]))))] (B true)), (61, rp [(.tmp 83, B true), (.tmp 85, (Qs4 x6)), ci 1] (.dptr (Qax (x32)) 0)), (66, rp [(.tmp 90, (B ((x32.Heat == 2000))))] (B false))] ⟨asb hb7 (amv rfl), asb hb8 (amv rfl), ag_ (alm (c := Qa7) (l := x4.1) (aln rfl Try.underlying53 rfl)), asb hb9 (amv rfl), ag_ (aid rfl Try.underlying53 ti57 rfl rfl hi12 (mgt Qa7 hj13) rfl), ag_ (Qat (vs := [I 2, I 1]) rfl ts57 tz57 rfl (by rfl) rfl), ag_ (Qbu (ls := [x10.Element, x10.Outlet]) (ks := [2, 1]) rfl rfl Qm9 (by kernel_rfl) rfl rfl), asb hb14 (amv rfl), ag_ (alm (c := Qab) (l := x6.1.Out) (aln rfl Try.underlying31 rfl)), asb hb15 (amv rfl), ag_ (aid rfl Try.underlying31 ti45 rfl rfl hi18 (mgt Qab hj19) rfl), ag_ (alm (c := Qaa) (l := x16) (aln rfl Try.underlying45 rfl)), asb hb20 (amv rfl), ag_ (alm (c := Qax) (l := x6.1.Lost) (aln rfl Try.underlying32 rfl)), asb hb21 (amv rfl), ag_ (aid rfl Try.underlying31 ti45 rfl rfl hi18 (mgt Qab hj19) rfl), ag_ (aid rfl Try.underlying45 ti48 rfl rfl hi24 (mgt Qaa hj25) rfl), ag_ (Qat (vs := [I 271, I 542596, I 12150, I 50]) rfl ts48 tz48 rfl (by rfl) rfl), ag_ (Qbu (ls := [x22.Mass, x22.Heat, x22.Silica, x22.Gas]) (ks := [271, 542596, 12150, 50]) rfl rfl Qhc (by kernel_rfl) rfl rfl), asb hb26 (amv rfl), ag_ (aid rfl Try.underlying31 ti45 rfl rfl hi18 (mgt Qab hj19) rfl), ag_ (aid rfl Try.underlying45 ti48 rfl rfl hi29 (mgt Qaa hj30) rfl), ag_ (Qat (vs := [I 729, I 307404, I 109350]) rfl ts48 tz48 rfl (by rfl) rfl), ag_ (Qbu (ls := [x27.Mass, x27.Heat, x27.Silica, x27.Gas]) (ks := [729, 307404, 109350, 0]) rfl rfl Qhc (by kernel_rfl) rfl rfl), asb hb31 (amv rfl), ag_ (aid rfl Try.underlying32 ti50 rfl rfl hi34 (mgt Qax hj35) rfl), asb hb36 (amv rfl), trivial⟩ ?_
            refine Qad ?_
            obtain rfl := osi h
            exact fend ⟨[B false], ⟨rot (by kernel_rfl), trivial⟩, rfl⟩ nll
          ·replace h := Qa3 hb31 h
           refine wx tbk [(2, rp [(.tmp 26, (B ((x4.2 == 0))))] (B true)), (6, rp [(.tmp 30, (B ((x6.2.2 == 0))))] (B true)), (8, rp [(.tmp 31, B true), (.tmp 32, (Qlf x4))] (I ((x4.1.length : Int)))), (11, rp [(.tmp 35, (B (((x4.1.length : Int) == 2))))] (B true)), (13, rp [(.tmp 36, B true), (.tmp 37, (Qlf x4)), ci 1] (.dptr (Qa7 (x10)) 0)), (15, rp [(.tmp 36, B true), ci 2, ci 1] Qi5), (16, rp [(.tmp 36, B true), (.tmp 39, (Qo6 x10)), (.tmp 40, Qi5)] (B ((([x10.Element, x10.Outlet] : List Int) == [2, 1])))), (18, rp [(.tmp 42, (B ((([x10.Element, x10.Outlet] : List Int) == [2, 1]))))] (B true)), (21, rp [(.tmp 43, B true), (.tmp 45, (Qj7 x6))] (I ((x6.1.Out.length : Int)))), (24, rp [(.tmp 48, (B (((x6.1.Out.length : Int) == 3))))] (B true)), (27, rp [(.tmp 49, B true), (.tmp 51, (Qj7 x6)), ci 2] (.dptr (Qab (x16)) 0)), (29, rp [(.tmp 49, B true), (.tmp 53, (Qkg x16))] (I ((x16.length : Int)))), (32, rp [(.tmp 56, (B (((x16.length : Int) == 2))))] (B true)), (35, rp [(.tmp 57, B true), (.tmp 59, (Qs4 x6))] (I ((x6.1.Lost.length : Int)))), (38, rp [(.tmp 62, (B (((x6.1.Lost.length : Int) == 3))))] (B true)), (41, rp [(.tmp 63, B true), (.tmp 65, (Qj7 x6)), ci 2] (.dptr (Qab (x16)) 0)), (43, rp [(.tmp 63, B true), (.tmp 67, (Qkg x16)), ci 0] (.dptr (Qaa (x22)) 0)), (45, rp [(.tmp 63, B true), ci 271, ci 542596, ci 12150, ci 50] Qo5), (46, rp [(.tmp 63, B true), (.tmp 69, (Qyw x22)), (.tmp 70, Qo5)] (B ((([x22.Mass, x22.Heat, x22.Silica, x22.Gas] : List Int) == [271, 542596, 12150, 50])))), (48, rp [(.tmp 72, (B ((([x22.Mass, x22.Heat, x22.Silica, x22.Gas] : List Int) == [271, 542596, 12150, 50]))))] (B true)), (51, rp [(.tmp 73, B true), (.tmp 75, (Qj7 x6)), ci 2] (.dptr (Qab (x16)) 0)), (53, rp [(.tmp 73, B true), (.tmp 77, (Qkg x16)), ci 1] (.dptr (Qaa (x27)) 0)), (55, rp [(.tmp 73, B true), ci 729, ci 307404, ci 109350] Qr5), (56, rp [(.tmp 73, B true), (.tmp 79, (Q28 x27)), (.tmp 80, Qr5)] (B ((([x27.Mass, x27.Heat, x27.Silica, x27.Gas] : List Int) == [729, 307404, 109350, 0])))), (58, rp [(.tmp 82, (B ((([x27.Mass, x27.Heat, x27.Silica, x27.Gas] : List Int) == [729, 307404, 109350, 0]))))] (B false))] ⟨asb hb7 (amv rfl), asb hb8 (amv rfl), ag_ (alm (c := Qa7) (l := x4.1) (aln rfl Try.underlying53 rfl)), asb hb9 (amv rfl), ag_ (aid rfl Try.underlying53 ti57 rfl rfl hi12 (mgt Qa7 hj13) rfl), ag_ (Qat (vs := [I 2, I 1]) rfl ts57 tz57 rfl (by rfl) rfl), ag_ (Qbu (ls := [x10.Element, x10.Outlet]) (ks := [2, 1]) rfl rfl Qm9 (by kernel_rfl) rfl rfl), asb hb14 (amv rfl), ag_ (alm (c := Qab) (l := x6.1.Out) (aln rfl Try.underlying31 rfl)), asb hb15 (amv rfl), ag_ (aid rfl Try.underlying31 ti45 rfl rfl hi18 (mgt Qab hj19) rfl), ag_ (alm (c := Qaa) (l := x16) (aln rfl Try.underlying45 rfl)), asb hb20 (amv rfl), ag_ (alm (c := Qax) (l := x6.1.Lost) (aln rfl Try.underlying32 rfl)), asb hb21 (amv rfl), ag_ (aid rfl Try.underlying31 ti45 rfl rfl hi18 (mgt Qab hj19) rfl), ag_ (aid rfl Try.underlying45 ti48 rfl rfl hi24 (mgt Qaa hj25) rfl), ag_ (Qat (vs := [I 271, I 542596, I 12150, I 50]) rfl ts48 tz48 rfl (by rfl) rfl), ag_ (Qbu (ls := [x22.Mass, x22.Heat, x22.Silica, x22.Gas]) (ks := [271, 542596, 12150, 50]) rfl rfl Qhc (by kernel_rfl) rfl rfl), asb hb26 (amv rfl), ag_ (aid rfl Try.underlying31 ti45 rfl rfl hi18 (mgt Qab hj19) rfl), ag_ (aid rfl Try.underlying45 ti48 rfl rfl hi29 (mgt Qaa hj30) rfl), ag_ (Qat (vs := [I 729, I 307404, I 109350]) rfl ts48 tz48 rfl (by rfl) rfl), ag_ (Qbu (ls := [x27.Mass, x27.Heat, x27.Silica, x27.Gas]) (ks := [729, 307404, 109350, 0]) rfl rfl Qhc (by kernel_rfl) rfl rfl), asb hb31 (amv rfl), trivial⟩ ?_
           refine Qad ?_
           obtain rfl := osi h
           exact fend ⟨[B false], ⟨rot (by kernel_rfl), trivial⟩, rfl⟩ nll
         ·replace h := Qa3 hb26 h
          refine wx tbk [(2, rp [(.tmp 26, (B ((x4.2 == 0))))] (B true)), (6, rp [(.tmp 30, (B ((x6.2.2 == 0))))] (B true)), (8, rp [(.tmp 31, B true), (.tmp 32, (Qlf x4))] (I ((x4.1.length : Int)))), (11, rp [(.tmp 35, (B (((x4.1.length : Int) == 2))))] (B true)), (13, rp [(.tmp 36, B true), (.tmp 37, (Qlf x4)), ci 1] (.dptr (Qa7 (x10)) 0)), (15, rp [(.tmp 36, B true), ci 2, ci 1] Qi5), (16, rp [(.tmp 36, B true), (.tmp 39, (Qo6 x10)), (.tmp 40, Qi5)] (B ((([x10.Element, x10.Outlet] : List Int) == [2, 1])))), (18, rp [(.tmp 42, (B ((([x10.Element, x10.Outlet] : List Int) == [2, 1]))))] (B true)), (21, rp [(.tmp 43, B true), (.tmp 45, (Qj7 x6))] (I ((x6.1.Out.length : Int)))), (24, rp [(.tmp 48, (B (((x6.1.Out.length : Int) == 3))))] (B true)), (27, rp [(.tmp 49, B true), (.tmp 51, (Qj7 x6)), ci 2] (.dptr (Qab (x16)) 0)), (29, rp [(.tmp 49, B true), (.tmp 53, (Qkg x16))] (I ((x16.length : Int)))), (32, rp [(.tmp 56, (B (((x16.length : Int) == 2))))] (B true)), (35, rp [(.tmp 57, B true), (.tmp 59, (Qs4 x6))] (I ((x6.1.Lost.length : Int)))), (38, rp [(.tmp 62, (B (((x6.1.Lost.length : Int) == 3))))] (B true)), (41, rp [(.tmp 63, B true), (.tmp 65, (Qj7 x6)), ci 2] (.dptr (Qab (x16)) 0)), (43, rp [(.tmp 63, B true), (.tmp 67, (Qkg x16)), ci 0] (.dptr (Qaa (x22)) 0)), (45, rp [(.tmp 63, B true), ci 271, ci 542596, ci 12150, ci 50] Qo5), (46, rp [(.tmp 63, B true), (.tmp 69, (Qyw x22)), (.tmp 70, Qo5)] (B ((([x22.Mass, x22.Heat, x22.Silica, x22.Gas] : List Int) == [271, 542596, 12150, 50])))), (48, rp [(.tmp 72, (B ((([x22.Mass, x22.Heat, x22.Silica, x22.Gas] : List Int) == [271, 542596, 12150, 50]))))] (B false))] ⟨asb hb7 (amv rfl), asb hb8 (amv rfl), ag_ (alm (c := Qa7) (l := x4.1) (aln rfl Try.underlying53 rfl)), asb hb9 (amv rfl), ag_ (aid rfl Try.underlying53 ti57 rfl rfl hi12 (mgt Qa7 hj13) rfl), ag_ (Qat (vs := [I 2, I 1]) rfl ts57 tz57 rfl (by rfl) rfl), ag_ (Qbu (ls := [x10.Element, x10.Outlet]) (ks := [2, 1]) rfl rfl Qm9 (by kernel_rfl) rfl rfl), asb hb14 (amv rfl), ag_ (alm (c := Qab) (l := x6.1.Out) (aln rfl Try.underlying31 rfl)), asb hb15 (amv rfl), ag_ (aid rfl Try.underlying31 ti45 rfl rfl hi18 (mgt Qab hj19) rfl), ag_ (alm (c := Qaa) (l := x16) (aln rfl Try.underlying45 rfl)), asb hb20 (amv rfl), ag_ (alm (c := Qax) (l := x6.1.Lost) (aln rfl Try.underlying32 rfl)), asb hb21 (amv rfl), ag_ (aid rfl Try.underlying31 ti45 rfl rfl hi18 (mgt Qab hj19) rfl), ag_ (aid rfl Try.underlying45 ti48 rfl rfl hi24 (mgt Qaa hj25) rfl), ag_ (Qat (vs := [I 271, I 542596, I 12150, I 50]) rfl ts48 tz48 rfl (by rfl) rfl), ag_ (Qbu (ls := [x22.Mass, x22.Heat, x22.Silica, x22.Gas]) (ks := [271, 542596, 12150, 50]) rfl rfl Qhc (by kernel_rfl) rfl rfl), asb hb26 (amv rfl), trivial⟩ ?_
          refine Qad ?_
          obtain rfl := osi h
          exact fend ⟨[B false], ⟨rot (by kernel_rfl), trivial⟩, rfl⟩ nll
        ·replace h := Qa3 hb21 h
         refine wx tbk [(2, rp [(.tmp 26, (B ((x4.2 == 0))))] (B true)), (6, rp [(.tmp 30, (B ((x6.2.2 == 0))))] (B true)), (8, rp [(.tmp 31, B true), (.tmp 32, (Qlf x4))] (I ((x4.1.length : Int)))), (11, rp [(.tmp 35, (B (((x4.1.length : Int) == 2))))] (B true)), (13, rp [(.tmp 36, B true), (.tmp 37, (Qlf x4)), ci 1] (.dptr (Qa7 (x10)) 0)), (15, rp [(.tmp 36, B true), ci 2, ci 1] Qi5), (16, rp [(.tmp 36, B true), (.tmp 39, (Qo6 x10)), (.tmp 40, Qi5)] (B ((([x10.Element, x10.Outlet] : List Int) == [2, 1])))), (18, rp [(.tmp 42, (B ((([x10.Element, x10.Outlet] : List Int) == [2, 1]))))] (B true)), (21, rp [(.tmp 43, B true), (.tmp 45, (Qj7 x6))] (I ((x6.1.Out.length : Int)))), (24, rp [(.tmp 48, (B (((x6.1.Out.length : Int) == 3))))] (B true)), (27, rp [(.tmp 49, B true), (.tmp 51, (Qj7 x6)), ci 2] (.dptr (Qab (x16)) 0)), (29, rp [(.tmp 49, B true), (.tmp 53, (Qkg x16))] (I ((x16.length : Int)))), (32, rp [(.tmp 56, (B (((x16.length : Int) == 2))))] (B true)), (35, rp [(.tmp 57, B true), (.tmp 59, (Qs4 x6))] (I ((x6.1.Lost.length : Int)))), (38, rp [(.tmp 62, (B (((x6.1.Lost.length : Int) == 3))))] (B false))] ⟨asb hb7 (amv rfl), asb hb8 (amv rfl), ag_ (alm (c := Qa7) (l := x4.1) (aln rfl Try.underlying53 rfl)), asb hb9 (amv rfl), ag_ (aid rfl Try.underlying53 ti57 rfl rfl hi12 (mgt Qa7 hj13) rfl), ag_ (Qat (vs := [I 2, I 1]) rfl ts57 tz57 rfl (by rfl) rfl), ag_ (Qbu (ls := [x10.Element, x10.Outlet]) (ks := [2, 1]) rfl rfl Qm9 (by kernel_rfl) rfl rfl), asb hb14 (amv rfl), ag_ (alm (c := Qab) (l := x6.1.Out) (aln rfl Try.underlying31 rfl)), asb hb15 (amv rfl), ag_ (aid rfl Try.underlying31 ti45 rfl rfl hi18 (mgt Qab hj19) rfl), ag_ (alm (c := Qaa) (l := x16) (aln rfl Try.underlying45 rfl)), asb hb20 (amv rfl), ag_ (alm (c := Qax) (l := x6.1.Lost) (aln rfl Try.underlying32 rfl)), asb hb21 (amv rfl), trivial⟩ ?_
         refine Qad ?_
         obtain rfl := osi h
         exact fend ⟨[B false], ⟨rot (by kernel_rfl), trivial⟩, rfl⟩ nll
       ·replace h := Qa3 hb20 h
        refine wx tbk [(2, rp [(.tmp 26, (B ((x4.2 == 0))))] (B true)), (6, rp [(.tmp 30, (B ((x6.2.2 == 0))))] (B true)), (8, rp [(.tmp 31, B true), (.tmp 32, (Qlf x4))] (I ((x4.1.length : Int)))), (11, rp [(.tmp 35, (B (((x4.1.length : Int) == 2))))] (B true)), (13, rp [(.tmp 36, B true), (.tmp 37, (Qlf x4)), ci 1] (.dptr (Qa7 (x10)) 0)), (15, rp [(.tmp 36, B true), ci 2, ci 1] Qi5), (16, rp [(.tmp 36, B true), (.tmp 39, (Qo6 x10)), (.tmp 40, Qi5)] (B ((([x10.Element, x10.Outlet] : List Int) == [2, 1])))), (18, rp [(.tmp 42, (B ((([x10.Element, x10.Outlet] : List Int) == [2, 1]))))] (B true)), (21, rp [(.tmp 43, B true), (.tmp 45, (Qj7 x6))] (I ((x6.1.Out.length : Int)))), (24, rp [(.tmp 48, (B (((x6.1.Out.length : Int) == 3))))] (B true)), (27, rp [(.tmp 49, B true), (.tmp 51, (Qj7 x6)), ci 2] (.dptr (Qab (x16)) 0)), (29, rp [(.tmp 49, B true), (.tmp 53, (Qkg x16))] (I ((x16.length : Int)))), (32, rp [(.tmp 56, (B (((x16.length : Int) == 2))))] (B false))] ⟨asb hb7 (amv rfl), asb hb8 (amv rfl), ag_ (alm (c := Qa7) (l := x4.1) (aln rfl Try.underlying53 rfl)), asb hb9 (amv rfl), ag_ (aid rfl Try.underlying53 ti57 rfl rfl hi12 (mgt Qa7 hj13) rfl), ag_ (Qat (vs := [I 2, I 1]) rfl ts57 tz57 rfl (by rfl) rfl), ag_ (Qbu (ls := [x10.Element, x10.Outlet]) (ks := [2, 1]) rfl rfl Qm9 (by kernel_rfl) rfl rfl), asb hb14 (amv rfl), ag_ (alm (c := Qab) (l := x6.1.Out) (aln rfl Try.underlying31 rfl)), asb hb15 (amv rfl), ag_ (aid rfl Try.underlying31 ti45 rfl rfl hi18 (mgt Qab hj19) rfl), ag_ (alm (c := Qaa) (l := x16) (aln rfl Try.underlying45 rfl)), asb hb20 (amv rfl), trivial⟩ ?_
        refine Qad ?_
        obtain rfl := osi h
        exact fend ⟨[B false], ⟨rot (by kernel_rfl), trivial⟩, rfl⟩ nll
      ·replace h := Qa3 hb15 h
       refine wx tbk [(2, rp [(.tmp 26, (B ((x4.2 == 0))))] (B true)), (6, rp [(.tmp 30, (B ((x6.2.2 == 0))))] (B true)), (8, rp [(.tmp 31, B true), (.tmp 32, (Qlf x4))] (I ((x4.1.length : Int)))), (11, rp [(.tmp 35, (B (((x4.1.length : Int) == 2))))] (B true)), (13, rp [(.tmp 36, B true), (.tmp 37, (Qlf x4)), ci 1] (.dptr (Qa7 (x10)) 0)), (15, rp [(.tmp 36, B true), ci 2, ci 1] Qi5), (16, rp [(.tmp 36, B true), (.tmp 39, (Qo6 x10)), (.tmp 40, Qi5)] (B ((([x10.Element, x10.Outlet] : List Int) == [2, 1])))), (18, rp [(.tmp 42, (B ((([x10.Element, x10.Outlet] : List Int) == [2, 1]))))] (B true)), (21, rp [(.tmp 43, B true), (.tmp 45, (Qj7 x6))] (I ((x6.1.Out.length : Int)))), (24, rp [(.tmp 48, (B (((x6.1.Out.length : Int) == 3))))] (B false))] ⟨asb hb7 (amv rfl), asb hb8 (amv rfl), ag_ (alm (c := Qa7) (l := x4.1) (aln rfl Try.underlying53 rfl)), asb hb9 (amv rfl), ag_ (aid rfl Try.underlying53 ti57 rfl rfl hi12 (mgt Qa7 hj13) rfl), ag_ (Qat (vs := [I 2, I 1]) rfl ts57 tz57 rfl (by rfl) rfl), ag_ (Qbu (ls := [x10.Element, x10.Outlet]) (ks := [2, 1]) rfl rfl Qm9 (by kernel_rfl) rfl rfl), asb hb14 (amv rfl), ag_ (alm (c := Qab) (l := x6.1.Out) (aln rfl Try.underlying31 rfl)), asb hb15 (amv rfl), trivial⟩ ?_
       refine Qad ?_
       obtain rfl := osi h
       exact fend ⟨[B false], ⟨rot (by kernel_rfl), trivial⟩, rfl⟩ nll
     ·replace h := Qa3 hb14 h
      refine wx tbk [(2, rp [(.tmp 26, (B ((x4.2 == 0))))] (B true)), (6, rp [(.tmp 30, (B ((x6.2.2 == 0))))] (B true)), (8, rp [(.tmp 31, B true), (.tmp 32, (Qlf x4))] (I ((x4.1.length : Int)))), (11, rp [(.tmp 35, (B (((x4.1.length : Int) == 2))))] (B true)), (13, rp [(.tmp 36, B true), (.tmp 37, (Qlf x4)), ci 1] (.dptr (Qa7 (x10)) 0)), (15, rp [(.tmp 36, B true), ci 2, ci 1] Qi5), (16, rp [(.tmp 36, B true), (.tmp 39, (Qo6 x10)), (.tmp 40, Qi5)] (B ((([x10.Element, x10.Outlet] : List Int) == [2, 1])))), (18, rp [(.tmp 42, (B ((([x10.Element, x10.Outlet] : List Int) == [2, 1]))))] (B false))] ⟨asb hb7 (amv rfl), asb hb8 (amv rfl), ag_ (alm (c := Qa7) (l := x4.1) (aln rfl Try.underlying53 rfl)), asb hb9 (amv rfl), ag_ (aid rfl Try.underlying53 ti57 rfl rfl hi12 (mgt Qa7 hj13) rfl), ag_ (Qat (vs := [I 2, I 1]) rfl ts57 tz57 rfl (by rfl) rfl), ag_ (Qbu (ls := [x10.Element, x10.Outlet]) (ks := [2, 1]) rfl rfl Qm9 (by kernel_rfl) rfl rfl), asb hb14 (amv rfl), trivial⟩ ?_
      refine Qad ?_
      obtain rfl := osi h
      exact fend ⟨[B false], ⟨rot (by kernel_rfl), trivial⟩, rfl⟩ nll
    ·replace h := Qa3 hb9 h
     refine wx tbk [(2, rp [(.tmp 26, (B ((x4.2 == 0))))] (B true)), (6, rp [(.tmp 30, (B ((x6.2.2 == 0))))] (B true)), (8, rp [(.tmp 31, B true), (.tmp 32, (Qlf x4))] (I ((x4.1.length : Int)))), (11, rp [(.tmp 35, (B (((x4.1.length : Int) == 2))))] (B false))] ⟨asb hb7 (amv rfl), asb hb8 (amv rfl), ag_ (alm (c := Qa7) (l := x4.1) (aln rfl Try.underlying53 rfl)), asb hb9 (amv rfl), trivial⟩ ?_
     refine Qad ?_
     obtain rfl := osi h
     exact fend ⟨[B false], ⟨rot (by kernel_rfl), trivial⟩, rfl⟩ nll
   ·replace h := Qa3 hb8 h
    refine wx tbk [(2, rp [(.tmp 26, (B ((x4.2 == 0))))] (B true)), (6, rp [(.tmp 30, (B ((x6.2.2 == 0))))] (B false))] ⟨asb hb7 (amv rfl), asb hb8 (amv rfl), trivial⟩ ?_
    refine Qad ?_
    obtain rfl := osi h
    exact fend ⟨[B false], ⟨rot (by kernel_rfl), trivial⟩, rfl⟩ nll
  ·replace h := Qa3 hb7 h
   refine wx tbk [(2, rp [(.tmp 26, (B ((x4.2 == 0))))] (B false))] ⟨asb hb7 (amv rfl), trivial⟩ ?_
   refine Qad ?_
   obtain rfl := osi h
   exact fend ⟨[B false], ⟨rot (by kernel_rfl), trivial⟩, rfl⟩ nll
end Go.Proofs.Ytmbhnllcfmiajaa
