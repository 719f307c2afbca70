/-
  Functions of the program: what they compute, as plain functions, and that they do. No conditions.
-/
import Derived.Test.YtlhakkkjgdbdpaaX6
namespace Go.Proofs.Ytlhakkkjgdbdpaa
open Go.RowKit
def Qd1 (N : Nat) (p0 : GJob) (k4 : (List GHour) → Option GJob) : Nat → Int → (List GHour) → Option GJob
  | 0, _, _ => none
  | n9 + 1, y5, y6 =>
    bif (decide (y5 < (p0.Hours.length : Int))) then
     (getI p0.Hours y5).bind fun x11 =>
     chk (decide ((y6.length + ([x11]).length) * 16 ≤ 140737488355328)) <|
     Qd1 N p0 k4 n9 (w64 (y5 + 1)) (y6 ++ ([x11]))
    else
     k4 (y6)
def Qik (N : Nat) (p0 : GJob) : Option GJob :=
  (Qhm N p0.Levels).bind fun x2 =>
  Qcn (fun y3 =>
    some (⟨x2, p0.Ramp, p0.Start, p0.First, y3⟩ : GJob)) fun k4 : (List GHour) → Option GJob =>
  Qd1 N p0 k4 N 0 ([])
def Qyo (p0 : GJob) : AV := .dat 1 ((p0.Levels : List Int).map Qab)
def Qi2 (x2 : (List Int)) : AV := .dat 1 ((x2 : List Int).map Qab)
def Qph : Slot := .own 5 [[nilS, (I (0)), (I (0)), (I (0)), nilS]]
def Qto (y3 : (List GHour)) : AV := .acc 2 50 2 ((y3 : List GHour).map Qay)
def Qu0 (p0 : GJob) : AV := .dat 2 ((p0.Hours : List GHour).map Qay)
def Quz (p0 : GJob) : Slot := .own 5 [[(Qyo p0), (I (p0.Ramp)), (I (p0.Start)), (I (p0.First)), (Qu0 p0)]]
def Qtn (y6 : (List GHour)) : AV := .acc 3 50 2 ((y6 : List GHour).map Qay)
def Qtm (x11 : GHour) : AV := .agg [(I (x11.Price)), (I (x11.Most))]
set_option maxRecDepth 100000 in
set_option maxHeartbeats 4000000 in
theorem Qmb (N : Nat) (p0 : GJob) (r : GJob) (h : Qik N p0 = some r) : Spec Try.prog 22 [(.agg (Qhb p0))] [] (.agg (Qhb r)) [] := by
  refine Qae Try.func22 rfl 0 (nle rfl) (fun X φ0 w0 hφ0 => ?_)
  unfold Qik at h
  refine wx tbk [] trivial ?_
  obtain ⟨x2, hf1, h⟩ := bno h
  refine wxd tbk [(2, rp [fu 37, (.tmp 6, (Qyo p0))] (Qi2 x2)), (9, rp [(.tmp 7, (Qi2 x2)), (.tmp 9, I p0.Ramp), (.tmp 11, I p0.Start), (.tmp 13, I p0.First)] (.agg [(Qi2 x2), I p0.Ramp, I p0.Start, I p0.First, nilS]))] ⟨apc (first := []) (cap := []) (vs := [(Qyo p0)]) rfl enter37 (Qlm N p0.Levels _ hf1) rfl rfl (nlc (nld Qaa _) nl0) (nld Qaa _) rfl, Qbp (vs := [(Qi2 x2), I p0.Ramp, I p0.Start, I p0.First]) rfl ts47 tz47 rfl (by rfl) rfl, trivial⟩ ?_
  obtain ⟨k4, hk_k4, h⟩ := jko h
  refine wjn (τ := (List GHour)) (fun t => k4 t = some r) (fun y3 => ⟨mk 41 [(2, .ref 0 5 0 0), (3, .ref 1 5 0 0)], [Qph, (.own 5 [[(Qi2 x2), I p0.Ramp, I p0.Start, I p0.First, (Qto y3)]]), .tok]⟩) (fun y3 h => ?_) ?_
  ·subst hk_k4
   refine wx tbk [] trivial ?_
   refine Qac ?_
   obtain rfl := osi h
   exact fend ⟨[(.agg [(Qi2 x2), I p0.Ramp, I p0.Start, I p0.First, (.dat 2 ((y3 : List GHour).map Qay))])], ⟨Qf1 (v := (.agg [(Qi2 x2), I p0.Ramp, I p0.Start, I p0.First, (Qto y3)])) (Qfk (n := 0) (m := 5) (j := 0) (i := 0) (xs := [[(Qi2 x2), I p0.Ramp, I p0.Start, I p0.First, (Qto y3)]]) (by kernel_rfl) (by kernel_rfl) ti47 (by decide) rfl (nle rfl) rfl) (Less.agg ⟨lrf, lrf, lrf, lrf, Less.acc, trivial⟩), trivial⟩, rfl⟩ (NLt.agg _ (nlc (nld Qaa _) (nlc nll (nlc nll (nlc nll (nlc (nld Qaj _) nl0))))))
  ·skip
   refine wx tbk [] trivial ?_
   refine Qai ?_
   refine wmr (Mor.trans (mor_nilb (n := 3) (ty := 50) (m := 2) (q := 2) (mq := 5) (c := [(Qi2 x2), I p0.Ramp, I p0.Start, I p0.First, nilS]) 4 (by kernel_rfl) (by kernel_rfl) (by kernel_rfl) (by decide)) (mto (n := 41) (l' := [(1, .ref 0 5 0 0), (2, .ref 1 5 0 0), (3, .ref 2 5 0 0), (4, I 0)]) (own' := [(Quz p0), Qph, (.own 5 [[(Qi2 x2), I p0.Ramp, I p0.Start, I p0.First, (.acc 3 50 2 ((([]) : List GHour).map Qay))]]), .tok]) [(1, .ref 0 5 0 0), (2, .ref 1 5 0 0), (3, .ref 2 5 0 0), (4, I 0)] [0, 1, 2, 3] [(Quz p0), Qph, (.own 5 [[(Qi2 x2), I p0.Ramp, I p0.Start, I p0.First, (.acc 3 50 2 (([] : List GHour).map Qay))]]), .tok] hφ0 (pc (.rn (rqr rfl)) (pc (.rn (rqr rfl)) (pc (.rn (rqr rfl)) (pc rwl pn)))) (qc (spb (lc (.rn (.plain _ (nld Qaa _))) (lc rwl (lc rwl (lc rwl (lc (.rn (.plain _ (nld Qaj _))) ln)))))) (qc (spb (lc rwl (lc rwl (lc rwl (lc rwl (lc rwl ln)))))) (qc (spb (lc (.rn (.plain _ (nld Qaa _))) (lc rwl (lc rwl (lc rwl (lc (.rn (Qh7 rfl (Qfn Qaj _))) ln)))))) (qc .tok qn)))))) ?_
   refine Qby (τ := Int × (List GHour)) (fun n t => Qd1 N p0 k4 n t.1 t.2 = some r) (fun ⟨y5, y6⟩ => ⟨mk 41 [(1, .ref 0 5 0 0), (2, .ref 1 5 0 0), (3, .ref 2 5 0 0), (4, I y5)], [(Quz p0), Qph, (.own 5 [[(Qi2 x2), I p0.Ramp, I p0.Start, I p0.First, (Qtn y6)]]), .tok]⟩) (fun t h => by rw [Qd1] at h; cases h) (fun n9 ih t h => ?_) N (0, []) h
   obtain ⟨y5, y6⟩ := t
   rw [Qd1] at h
   skip
   refine wsq ?_
   refine wx tbk [(3, rp [(.tmp 17, (Qu0 p0))] (I ((p0.Hours.length : Int))))] ⟨alm (c := Qay) (l := p0.Hours) (aln rfl Try.underlying38 rfl), trivial⟩ ?_
   rcases bft ((decide (y5 < (p0.Hours.length : Int)))) with hc10 | hc10
   ·replace h := Qau hc10 h
    refine wft hc10 (by kernel_rfl) ?_
    refine Qal ?_
    refine thn ?_
    refine wsq ?_
    refine Qai ?_
    obtain ⟨x11, hg12, h⟩ := bno h
    obtain ⟨hi13, hj14⟩ := gsm hg12
    obtain ⟨ha15, h⟩ := cko h
    refine wy1 tbk [(5, rp [(.tmp 25, (Qu0 p0)), (.tmp 26, I y5)] (.dptr (Qay (x11)) 0)), (11, rp [(.tmp 31, (Qu0 p0)), (.tmp 32, I y5)] (.dptr (Qay (x11)) 0)), (14, rp [(.tmp 29, I x11.Price), (.tmp 35, I x11.Most)] (Qtm x11)), (15, rp [(.tmp 36, (Qtm x11))] (.dat 2 (([x11] : List GHour).map Qay))), (16, ⟨[(.tmp 23, (Qtn y6)), (.tmp 37, (.dat 2 (([x11] : List GHour).map Qay)))], [(3, .tok), (4, .unused)], (.acc 4 50 2 ((y6 ++ ([x11]) : List GHour).map Qay)), [(3, .dead), (4, .tok)], false⟩)] ⟨aid rfl Try.underlying38 Qrq rfl rfl hi13 (mgt Qay hj14) rfl, aid rfl Try.underlying38 Qrq rfl rfl hi13 (mgt Qay hj14) rfl, Qbp (vs := [I x11.Price, I x11.Most]) rfl ts50 tz50 rfl (by rfl) rfl, Qcq (vs := [(Qtm x11)]) rfl Try.underlying45 ti50 tz50 rfl (by decide) rfl (by decide) (by rfl) (by rfl) (by rfl) rfl, Qhd rfl Try.underlying45 te50 (Base.acc _ _) rfl rfl (by rfl) (Qo0 Qay ha15) (Qoz Qay ha15 (by decide)) (Qoy Qay) rfl rfl, trivial⟩ ?_
    refine bln ?_
    refine thn ?_
    refine wx1 tbk [] trivial ?_
    refine thn ?_
    exact arm (mto (n := 41) [(1, .ref 0 5 0 0), (2, .ref 1 5 0 0), (3, .ref 2 5 0 0), (4, (I (w64 (y5 + 1))))] [0, 1, 2, 4] [(Quz p0), Qph, (.own 5 [[(Qi2 x2), I p0.Ramp, I p0.Start, I p0.First, (.acc 4 50 2 ((y6 ++ ([x11]) : List GHour).map Qay))]]), .tok] hφ0 (pc (.rn (rqr rfl)) (pc (.rn (rqr rfl)) (pc (.rn (rqr rfl)) (pc rwl pn)))) (qc (spb (lc (.rn (.plain _ (nld Qaa _))) (lc rwl (lc rwl (lc rwl (lc (.rn (.plain _ (nld Qaj _))) ln)))))) (qc (spb (lc rwl (lc rwl (lc rwl (lc rwl (lc rwl ln)))))) (qc (spb (lc (.rn (.plain _ (nld Qaa _))) (lc rwl (lc rwl (lc rwl (lc (.rn (Qh7 rfl (Qfn Qaj _))) ln)))))) (qc .tok qn))))) (ih (w64 (y5 + 1), y6 ++ ([x11])) h)
   ·replace h := Qav hc10 h
    refine wfn hc10 (by kernel_rfl) ?_
    refine Qbd ?_
    refine Qas ?_
    refine Qas ?_
    refine Qbc rfl ?_
    refine thn ?_
    exact ⟨(y6), h, (mto (n := 41) [(2, .ref 1 5 0 0), (3, .ref 2 5 0 0)] [1, 2, 3] [Qph, (.own 5 [[(Qi2 x2), I p0.Ramp, I p0.Start, I p0.First, (Qtn y6)]]), .tok] hφ0 (pc (.rn (rqr rfl)) (pc (.rn (rqr rfl)) pn)) (qc (spb (lc rwl (lc rwl (lc rwl (lc rwl (lc rwl ln)))))) (qc (spb (lc (.rn (.plain _ (nld Qaa _))) (lc rwl (lc rwl (lc rwl (lc (.rn (Qh7 rfl (Qfn Qaj _))) ln)))))) (qc .tok qn))))⟩
def Qci (N : Nat) (p0 : GJob) (k2 : Unit → Option Bool) : Nat → Int → Option Bool
  | 0, _ => none
  | n17 + 1, y15 =>
    bif (decide (y15 < (p0.Hours.length : Int))) then
     (getI p0.Hours y15).bind fun x19 =>
     (Qe7 N x19.Price (-1000) 1000).bind fun x24 =>
     bif (!x24) then
      some false
     else
      (Qe7 N x19.Most 0 1000000).bind fun x27 =>
      bif (!x27) then
       some false
      else
       Qci N p0 k2 n17 (w64 (y15 + 1))
    else
     k2 ()
def Qbx (N : Nat) (p0 : GJob) (k1 : Unit → Option Bool) : Nat → Int → Option Bool
  | 0, _ => none
  | n31 + 1, y29 =>
    bif (decide (y29 < (p0.Levels.length : Int))) then
     (getI p0.Levels y29).bind fun x33 =>
     bif (decide (x33 < 0)) then
      some false
     else
      bif (decide (x33 > 1000000)) then
       some false
      else
       bif (y29 == 0) then
        bif (x33 != 0) then
         some false
        else
         bif (decide (y29 > 0)) then
          (getI p0.Levels (w64 (y29 - 1))).bind fun x42 =>
          bif (decide (x33 ≤ x42)) then
           some false
          else
           Qbx N p0 k1 n31 (w64 (y29 + 1))
         else
          Qbx N p0 k1 n31 (w64 (y29 + 1))
       else
        bif (decide (y29 > 0)) then
         (getI p0.Levels (w64 (y29 - 1))).bind fun x48 =>
         bif (decide (x33 ≤ x48)) then
          some false
         else
          Qbx N p0 k1 n31 (w64 (y29 + 1))
        else
         Qbx N p0 k1 n31 (w64 (y29 + 1))
    else
     k1 ()
def Qe6 (N : Nat) (p0 : GJob) : Option Bool :=
  Qcn (fun _ =>
    Qcn (fun _ =>
      bif (decide ((p0.Levels.length : Int) ≥ 2)) then
       bif (decide ((p0.Levels.length : Int) ≤ 12)) then
        (Qe7 N p0.Ramp 1 12).bind fun x6 =>
        bif x6 then
         (Qe7 N p0.Start 0 1000000000).bind fun x9 =>
         bif x9 then
          (Qe7 N p0.First 0 (w64 ((p0.Levels.length : Int) - 1))).bind fun x12 =>
          bif x12 then
           bif (decide ((p0.Hours.length : Int) ≥ 1)) then
            some (decide ((p0.Hours.length : Int) ≤ 100))
           else
            some false
          else
           some false
         else
          some false
        else
         some false
       else
        some false
      else
       some false) fun k2 : Unit → Option Bool =>
    Qci N p0 k2 N 0) fun k1 : Unit → Option Bool =>
  Qbx N p0 k1 N 0
def Qds (p0 : GJob) : AV := .dat 1 ((p0.Levels : List Int).map Qab)
def Qm7 (p0 : GJob) : AV := .dat 2 ((p0.Hours : List GHour).map Qay)
def Qiq (p0 : GJob) : Slot := .own 5 [[(Qds p0), (I (p0.Ramp)), (I (p0.Start)), (I (p0.First)), (Qm7 p0)]]
set_option maxRecDepth 100000 in
set_option maxHeartbeats 4000000 in
theorem Qfo (N : Nat) (p0 : GJob) (r : Bool) (h : Qe6 N p0 = some r) : Spec Try.prog 20 [(.agg (Qhb p0))] [] (B r) [] := by
  refine Qae Try.func20 rfl 0 (nle rfl) (fun X φ0 w0 hφ0 => ?_)
  unfold Qe6 at h
  refine wx tbk [] trivial ?_
  obtain ⟨k1, hk_k1, h⟩ := jko h
  refine wjn (τ := Unit) (fun t => k1 t = some r) (fun _ => ⟨mk 122 [(1, .ref 0 5 0 0)], [(Qiq p0)]⟩) (fun t h => ?_) ?_
  ·subst hk_k1
   obtain ⟨k2, hk_k2, h⟩ := jko h
   refine wjn (τ := Unit) (fun t => k2 t = some r) (fun _ => ⟨mk 122 [(1, .ref 0 5 0 0)], [(Qiq p0)]⟩) (fun t h => ?_) ?_
   ·subst hk_k2
    rcases bft ((decide ((p0.Levels.length : Int) ≥ 2))) with hb3 | hb3
    ·replace h := Qau hb3 h
     rcases bft ((decide ((p0.Levels.length : Int) ≤ 12))) with hb4 | hb4
     ·replace h := Qau hb4 h
      obtain ⟨x6, hf5, h⟩ := bno h
      rcases bft (x6) with hb7 | hb7
      ·replace h := Qau hb7 h
       obtain ⟨x9, hf8, h⟩ := bno h
       rcases bft (x9) with hb10 | hb10
       ·replace h := Qau hb10 h
        obtain ⟨x12, hf11, h⟩ := bno h
        rcases bft (x12) with hb13 | hb13
        ·replace h := Qau hb13 h
         rcases bft ((decide ((p0.Hours.length : Int) ≥ 1))) with hb14 | hb14
         ·replace h := Qau hb14 h
          refine wx tbk [(2, rp [(.tmp 82, (Qds p0))] (I ((p0.Levels.length : Int)))), (4, rp [(.tmp 84, (B ((decide ((p0.Levels.length : Int) ≥ 2)))))] (B true)), (7, rp [(.tmp 85, B true), (.tmp 87, (Qds p0))] (I ((p0.Levels.length : Int)))), (10, rp [(.tmp 90, (B ((decide ((p0.Levels.length : Int) ≤ 12)))))] (B true)), (13, rp [(.tmp 91, B true), fu 25, (.tmp 93, I p0.Ramp), ci 1, ci 12] (B x6)), (15, rp [(.tmp 95, B x6)] (B true)), (18, rp [(.tmp 96, B true), fu 25, (.tmp 98, I p0.Start), ci 0, ci 1000000000] (B x9)), (20, rp [(.tmp 100, B x9)] (B true)), (25, rp [(.tmp 101, B true), (.tmp 105, (Qds p0))] (I ((p0.Levels.length : Int)))), (27, rp [(.tmp 101, B true), fu 25, (.tmp 103, I p0.First), ci 0, (.tmp 107, (I (w64 ((p0.Levels.length : Int) - 1))))] (B x12)), (29, rp [(.tmp 109, B x12)] (B true)), (32, rp [(.tmp 110, B true), (.tmp 112, (Qm7 p0))] (I ((p0.Hours.length : Int)))), (35, rp [(.tmp 115, (B ((decide ((p0.Hours.length : Int) ≥ 1)))))] (B true)), (38, rp [(.tmp 116, B true), (.tmp 118, (Qm7 p0))] (I ((p0.Hours.length : Int))))] ⟨alm (c := Qab) (l := p0.Levels) (aln rfl Try.underlying37 rfl), asb hb3 (amv rfl), ag_ (alm (c := Qab) (l := p0.Levels) (aln rfl Try.underlying37 rfl)), asb hb4 (amv rfl), ag_ (apc (first := []) (cap := []) (vs := [I p0.Ramp, I 1, I 12]) rfl Qfw (Qcj N p0.Ramp 1 12 _ hf5) rfl rfl (nlc nll (nlc nll (nlc nll nl0))) nll rfl), asb hb7 (amv rfl), ag_ (apc (first := []) (cap := []) (vs := [I p0.Start, I 0, I 1000000000]) rfl Qfw (Qcj N p0.Start 0 1000000000 _ hf8) rfl rfl (nlc nll (nlc nll (nlc nll nl0))) nll rfl), asb hb10 (amv rfl), ag_ (alm (c := Qab) (l := p0.Levels) (aln rfl Try.underlying37 rfl)), ag_ (apc (first := []) (cap := []) (vs := [I p0.First, I 0, (I (w64 ((p0.Levels.length : Int) - 1)))]) rfl Qfw (Qcj N p0.First 0 (w64 ((p0.Levels.length : Int) - 1)) _ hf11) rfl rfl (nlc nll (nlc nll (nlc nll nl0))) nll rfl), asb hb13 (amv rfl), ag_ (alm (c := Qay) (l := p0.Hours) (aln rfl Try.underlying38 rfl)), asb hb14 (amv rfl), ag_ (alm (c := Qay) (l := p0.Hours) (aln rfl Try.underlying38 rfl)), trivial⟩ ?_
          refine Qac ?_
          obtain rfl := osi h
          exact fend ⟨[(B ((decide ((p0.Hours.length : Int) ≤ 100))))], ⟨rot (by kernel_rfl), trivial⟩, rfl⟩ nll
         ·replace h := Qav hb14 h
          refine wx tbk [(2, rp [(.tmp 82, (Qds p0))] (I ((p0.Levels.length : Int)))), (4, rp [(.tmp 84, (B ((decide ((p0.Levels.length : Int) ≥ 2)))))] (B true)), (7, rp [(.tmp 85, B true), (.tmp 87, (Qds p0))] (I ((p0.Levels.length : Int)))), (10, rp [(.tmp 90, (B ((decide ((p0.Levels.length : Int) ≤ 12)))))] (B true)), (13, rp [(.tmp 91, B true), fu 25, (.tmp 93, I p0.Ramp), ci 1, ci 12] (B x6)), (15, rp [(.tmp 95, B x6)] (B true)), (18, rp [(.tmp 96, B true), fu 25, (.tmp 98, I p0.Start), ci 0, ci 1000000000] (B x9)), (20, rp [(.tmp 100, B x9)] (B true)), (25, rp [(.tmp 101, B true), (.tmp 105, (Qds p0))] (I ((p0.Levels.length : Int)))), (27, rp [(.tmp 101, B true), fu 25, (.tmp 103, I p0.First), ci 0, (.tmp 107, (I (w64 ((p0.Levels.length : Int) - 1))))] (B x12)), (29, rp [(.tmp 109, B x12)] (B true)), (32, rp [(.tmp 110, B true), (.tmp 112, (Qm7 p0))] (I ((p0.Hours.length : Int)))), (35, rp [(.tmp 115, (B ((decide ((p0.Hours.length : Int) ≥ 1)))))] (B false))] ⟨alm (c := Qab) (l := p0.Levels) (aln rfl Try.underlying37 rfl), asb hb3 (amv rfl), ag_ (alm (c := Qab) (l := p0.Levels) (aln rfl Try.underlying37 rfl)), asb hb4 (amv rfl), ag_ (apc (first := []) (cap := []) (vs := [I p0.Ramp, I 1, I 12]) rfl Qfw (Qcj N p0.Ramp 1 12 _ hf5) rfl rfl (nlc nll (nlc nll (nlc nll nl0))) nll rfl), asb hb7 (amv rfl), ag_ (apc (first := []) (cap := []) (vs := [I p0.Start, I 0, I 1000000000]) rfl Qfw (Qcj N p0.Start 0 1000000000 _ hf8) rfl rfl (nlc nll (nlc nll (nlc nll nl0))) nll rfl), asb hb10 (amv rfl), ag_ (alm (c := Qab) (l := p0.Levels) (aln rfl Try.underlying37 rfl)), ag_ (apc (first := []) (cap := []) (vs := [I p0.First, I 0, (I (w64 ((p0.Levels.length : Int) - 1)))]) rfl Qfw (Qcj N p0.First 0 (w64 ((p0.Levels.length : Int) - 1)) _ hf11) rfl rfl (nlc nll (nlc nll (nlc nll nl0))) nll rfl), asb hb13 (amv rfl), ag_ (alm (c := Qay) (l := p0.Hours) (aln rfl Try.underlying38 rfl)), asb hb14 (amv rfl), trivial⟩ ?_
          refine Qac ?_
          obtain rfl := osi h
          exact fend ⟨[B false], ⟨rot (by kernel_rfl), trivial⟩, rfl⟩ nll
        ·replace h := Qav hb13 h
         refine wx tbk [(2, rp [(.tmp 82, (Qds p0))] (I ((p0.Levels.length : Int)))), (4, rp [(.tmp 84, (B ((decide ((p0.Levels.length : Int) ≥ 2)))))] (B true)), (7, rp [(.tmp 85, B true), (.tmp 87, (Qds p0))] (I ((p0.Levels.length : Int)))), (10, rp [(.tmp 90, (B ((decide ((p0.Levels.length : Int) ≤ 12)))))] (B true)), (13, rp [(.tmp 91, B true), fu 25, (.tmp 93, I p0.Ramp), ci 1, ci 12] (B x6)), (15, rp [(.tmp 95, B x6)] (B true)), (18, rp [(.tmp 96, B true), fu 25, (.tmp 98, I p0.Start), ci 0, ci 1000000000] (B x9)), (20, rp [(.tmp 100, B x9)] (B true)), (25, rp [(.tmp 101, B true), (.tmp 105, (Qds p0))] (I ((p0.Levels.length : Int)))), (27, rp [(.tmp 101, B true), fu 25, (.tmp 103, I p0.First), ci 0, (.tmp 107, (I (w64 ((p0.Levels.length : Int) - 1))))] (B x12)), (29, rp [(.tmp 109, B x12)] (B false))] ⟨alm (c := Qab) (l := p0.Levels) (aln rfl Try.underlying37 rfl), asb hb3 (amv rfl), ag_ (alm (c := Qab) (l := p0.Levels) (aln rfl Try.underlying37 rfl)), asb hb4 (amv rfl), ag_ (apc (first := []) (cap := []) (vs := [I p0.Ramp, I 1, I 12]) rfl Qfw (Qcj N p0.Ramp 1 12 _ hf5) rfl rfl (nlc nll (nlc nll (nlc nll nl0))) nll rfl), asb hb7 (amv rfl), ag_ (apc (first := []) (cap := []) (vs := [I p0.Start, I 0, I 1000000000]) rfl Qfw (Qcj N p0.Start 0 1000000000 _ hf8) rfl rfl (nlc nll (nlc nll (nlc nll nl0))) nll rfl), asb hb10 (amv rfl), ag_ (alm (c := Qab) (l := p0.Levels) (aln rfl Try.underlying37 rfl)), ag_ (apc (first := []) (cap := []) (vs := [I p0.First, I 0, (I (w64 ((p0.Levels.length : Int) - 1)))]) rfl Qfw (Qcj N p0.First 0 (w64 ((p0.Levels.length : Int) - 1)) _ hf11) rfl rfl (nlc nll (nlc nll (nlc nll nl0))) nll rfl), asb hb13 (amv rfl), trivial⟩ ?_
         refine Qac ?_
         obtain rfl := osi h
         exact fend ⟨[B false], ⟨rot (by kernel_rfl), trivial⟩, rfl⟩ nll
       ·replace h := Qav hb10 h
        refine wx tbk [(2, rp [(.tmp 82, (Qds p0))] (I ((p0.Levels.length : Int)))), (4, rp [(.tmp 84, (B ((decide ((p0.Levels.length : Int) ≥ 2)))))] (B true)), (7, rp [(.tmp 85, B true), (.tmp 87, (Qds p0))] (I ((p0.Levels.length : Int)))), (10, rp [(.tmp 90, (B ((decide ((p0.Levels.length : Int) ≤ 12)))))] (B true)), (13, rp [(.tmp 91, B true), fu 25, (.tmp 93, I p0.Ramp), ci 1, ci 12] (B x6)), (15, rp [(.tmp 95, B x6)] (B true)), (18, rp [(.tmp 96, B true), fu 25, (.tmp 98, I p0.Start), ci 0, ci 1000000000] (B x9)), (20, rp [(.tmp 100, B x9)] (B false))] ⟨alm (c := Qab) (l := p0.Levels) (aln rfl Try.underlying37 rfl), asb hb3 (amv rfl), ag_ (alm (c := Qab) (l := p0.Levels) (aln rfl Try.underlying37 rfl)), asb hb4 (amv rfl), ag_ (apc (first := []) (cap := []) (vs := [I p0.Ramp, I 1, I 12]) rfl Qfw (Qcj N p0.Ramp 1 12 _ hf5) rfl rfl (nlc nll (nlc nll (nlc nll nl0))) nll rfl), asb hb7 (amv rfl), ag_ (apc (first := []) (cap := []) (vs := [I p0.Start, I 0, I 1000000000]) rfl Qfw (Qcj N p0.Start 0 1000000000 _ hf8) rfl rfl (nlc nll (nlc nll (nlc nll nl0))) nll rfl), asb hb10 (amv rfl), trivial⟩ ?_
        refine Qac ?_
        obtain rfl := osi h
        exact fend ⟨[B false], ⟨rot (by kernel_rfl), trivial⟩, rfl⟩ nll
      ·replace h := Qav hb7 h
       refine wx tbk [(2, rp [(.tmp 82, (Qds p0))] (I ((p0.Levels.length : Int)))), (4, rp [(.tmp 84, (B ((decide ((p0.Levels.length : Int) ≥ 2)))))] (B true)), (7, rp [(.tmp 85, B true), (.tmp 87, (Qds p0))] (I ((p0.Levels.length : Int)))), (10, rp [(.tmp 90, (B ((decide ((p0.Levels.length : Int) ≤ 12)))))] (B true)), (13, rp [(.tmp 91, B true), fu 25, (.tmp 93, I p0.Ramp), ci 1, ci 12] (B x6)), (15, rp [(.tmp 95, B x6)] (B false))] ⟨alm (c := Qab) (l := p0.Levels) (aln rfl Try.underlying37 rfl), asb hb3 (amv rfl), ag_ (alm (c := Qab) (l := p0.Levels) (aln rfl Try.underlying37 rfl)), asb hb4 (amv rfl), ag_ (apc (first := []) (cap := []) (vs := [I p0.Ramp, I 1, I 12]) rfl Qfw (Qcj N p0.Ramp 1 12 _ hf5) rfl rfl (nlc nll (nlc nll (nlc nll nl0))) nll rfl), asb hb7 (amv rfl), trivial⟩ ?_
       refine Qac ?_
       obtain rfl := osi h
       exact fend ⟨[B false], ⟨rot (by kernel_rfl), trivial⟩, rfl⟩ nll
     ·replace h := Qav hb4 h
      refine wx tbk [(2, rp [(.tmp 82, (Qds p0))] (I ((p0.Levels.length : Int)))), (4, rp [(.tmp 84, (B ((decide ((p0.Levels.length : Int) ≥ 2)))))] (B true)), (7, rp [(.tmp 85, B true), (.tmp 87, (Qds p0))] (I ((p0.Levels.length : Int)))), (10, rp [(.tmp 90, (B ((decide ((p0.Levels.length : Int) ≤ 12)))))] (B false))] ⟨alm (c := Qab) (l := p0.Levels) (aln rfl Try.underlying37 rfl), asb hb3 (amv rfl), ag_ (alm (c := Qab) (l := p0.Levels) (aln rfl Try.underlying37 rfl)), asb hb4 (amv rfl), trivial⟩ ?_
      refine Qac ?_
      obtain rfl := osi h
      exact fend ⟨[B false], ⟨rot (by kernel_rfl), trivial⟩, rfl⟩ nll
    ·replace h := Qav hb3 h
     refine wx tbk [(2, rp [(.tmp 82, (Qds p0))] (I ((p0.Levels.length : Int)))), (4, rp [(.tmp 84, (B ((decide ((p0.Levels.length : Int) ≥ 2)))))] (B false))] ⟨alm (c := Qab) (l := p0.Levels) (aln rfl Try.underlying37 rfl), asb hb3 (amv rfl), trivial⟩ ?_
     refine Qac ?_
     obtain rfl := osi h
     exact fend ⟨[B false], ⟨rot (by kernel_rfl), trivial⟩, rfl⟩ nll
   ·skip
    refine wx tbk [] trivial ?_
    refine Qai ?_
    refine wmr (mto (n := 122) (l' := [(1, .ref 0 5 0 0), (4, I 0)]) (own' := [(Qiq p0)]) [(1, .ref 0 5 0 0), (4, I 0)] [0] [(Qiq p0)] hφ0 (pc (.rn (rqr rfl)) (pc rwl pn)) (qc (spb (lc (.rn (.plain _ (nld Qaa _))) (lc rwl (lc rwl (lc rwl (lc (.rn (.plain _ (nld Qaj _))) ln)))))) qn)) ?_
    refine Qby (τ := Int) (fun n t => Qci N p0 k2 n t = some r) (fun y15 => ⟨mk 122 [(1, .ref 0 5 0 0), (4, I y15)], [(Qiq p0)]⟩) (fun t h => by rw [Qci] at h; cases h) (fun n17 ih y15 h => ?_) N (0) h
    rw [Qci] at h
    skip
    refine wsq ?_
    refine wx tbk [(3, rp [(.tmp 58, (Qm7 p0))] (I ((p0.Hours.length : Int))))] ⟨alm (c := Qay) (l := p0.Hours) (aln rfl Try.underlying38 rfl), trivial⟩ ?_
    rcases bft ((decide (y15 < (p0.Hours.length : Int)))) with hc18 | hc18
    ·replace h := Qau hc18 h
     refine wft hc18 (by kernel_rfl) ?_
     refine Qal ?_
     refine thn ?_
     refine wsq ?_
     refine Qai ?_
     obtain ⟨x19, hg20, h⟩ := bno h
     obtain ⟨hi21, hj22⟩ := gsm hg20
     obtain ⟨x24, hf23, h⟩ := bno h
     rcases bft ((!x24)) with hb25 | hb25
     ·replace h := Qau hb25 h
      refine wx tbk [(3, rp [(.tmp 64, (Qm7 p0)), (.tmp 65, I y15)] (.dptr (Qay (x19)) 0)), (6, rp [fu 25, (.tmp 68, I x19.Price), ci (-1000), ci 1000] (B x24)), (8, rp [(.tmp 70, (B ((!x24))))] (B true))] ⟨aid rfl Try.underlying38 Qrq rfl rfl hi21 (mgt Qay hj22) rfl, apc (first := []) (cap := []) (vs := [I x19.Price, (I ((-1000))), I 1000]) rfl Qfw (Qcj N x19.Price (-1000) 1000 _ hf23) rfl rfl (nlc nll (nlc nll (nlc nll nl0))) nll rfl, asb hb25 (amv rfl), trivial⟩ ?_
      refine Qe3 (by kernel_rfl) ?_
      refine wx tbk [] trivial ?_
      refine Qac ?_
      refine Qbv ?_
      refine Qar ?_
      refine Qar ?_
      refine Qbv ?_
      refine Qar ?_
      obtain rfl := osi h
      exact fend ⟨[B false], ⟨rot (by kernel_rfl), trivial⟩, rfl⟩ nll
     ·replace h := Qav hb25 h
      obtain ⟨x27, hf26, h⟩ := bno h
      refine wx tbk [(3, rp [(.tmp 64, (Qm7 p0)), (.tmp 65, I y15)] (.dptr (Qay (x19)) 0)), (6, rp [fu 25, (.tmp 68, I x19.Price), ci (-1000), ci 1000] (B x24)), (8, rp [(.tmp 70, (B ((!x24))))] (B false)), (12, rp [(.tmp 71, B false), (.tmp 73, (Qm7 p0)), (.tmp 74, I y15)] (.dptr (Qay (x19)) 0)), (15, rp [(.tmp 71, B false), fu 25, (.tmp 77, I x19.Most), ci 0, ci 1000000] (B x27))] ⟨aid rfl Try.underlying38 Qrq rfl rfl hi21 (mgt Qay hj22) rfl, apc (first := []) (cap := []) (vs := [I x19.Price, (I ((-1000))), I 1000]) rfl Qfw (Qcj N x19.Price (-1000) 1000 _ hf23) rfl rfl (nlc nll (nlc nll (nlc nll nl0))) nll rfl, asb hb25 (amv rfl), ag_ (aid rfl Try.underlying38 Qrq rfl rfl hi21 (mgt Qay hj22) rfl), ag_ (apc (first := []) (cap := []) (vs := [I x19.Most, I 0, I 1000000]) rfl Qfw (Qcj N x19.Most 0 1000000 _ hf26) rfl rfl (nlc nll (nlc nll (nlc nll nl0))) nll rfl), trivial⟩ ?_
      rcases bft ((!x27)) with hc28 | hc28
      ·replace h := Qau hc28 h
       refine wft hc28 (by kernel_rfl) ?_
       refine wx tbk [] trivial ?_
       refine Qac ?_
       refine Qbv ?_
       refine Qar ?_
       refine Qar ?_
       refine Qbv ?_
       refine Qar ?_
       obtain rfl := osi h
       exact fend ⟨[B false], ⟨rot (by kernel_rfl), trivial⟩, rfl⟩ nll
      ·replace h := Qav hc28 h
       refine wfn hc28 (by kernel_rfl) ?_
       refine Qal ?_
       refine bln ?_
       refine thn ?_
       refine wx1 tbk [] trivial ?_
       refine thn ?_
       exact arm (mto (n := 122) [(1, .ref 0 5 0 0), (4, (I (w64 (y15 + 1))))] [0] [(Qiq p0)] hφ0 (pc (.rn (rqr rfl)) (pc rwl pn)) (qc (spb (lc (.rn (.plain _ (nld Qaa _))) (lc rwl (lc rwl (lc rwl (lc (.rn (.plain _ (nld Qaj _))) ln)))))) qn)) (ih (w64 (y15 + 1)) h)
    ·replace h := Qav hc18 h
     refine wfn hc18 (by kernel_rfl) ?_
     refine Qbd ?_
     refine Qas ?_
     refine Qas ?_
     refine Qbc rfl ?_
     refine thn ?_
     exact ⟨(), h, (mto (n := 122) [(1, .ref 0 5 0 0)] [0] [(Qiq p0)] hφ0 (pc (.rn (rqr rfl)) pn) (qc (spb (lc (.rn (.plain _ (nld Qaa _))) (lc rwl (lc rwl (lc rwl (lc (.rn (.plain _ (nld Qaj _))) ln)))))) qn))⟩
  ·skip
   refine wx tbk [] trivial ?_
   refine Qai ?_
   refine wmr (mto (n := 122) (l' := [(1, .ref 0 5 0 0), (3, I 0)]) (own' := [(Qiq p0)]) [(1, .ref 0 5 0 0), (3, I 0)] [0] [(Qiq p0)] hφ0 (pc (.rn (rqr rfl)) (pc rwl pn)) (qc (spb (lc (.rn (.plain _ (nld Qaa _))) (lc rwl (lc rwl (lc rwl (lc (.rn (.plain _ (nld Qaj _))) ln)))))) qn)) ?_
   refine Qby (τ := Int) (fun n t => Qbx N p0 k1 n t = some r) (fun y29 => ⟨mk 122 [(1, .ref 0 5 0 0), (3, I y29)], [(Qiq p0)]⟩) (fun t h => by rw [Qbx] at h; cases h) (fun n31 ih y29 h => ?_) N (0) h
   rw [Qbx] at h
   skip
   refine wsq ?_
   refine wx tbk [(3, rp [(.tmp 7, (Qds p0))] (I ((p0.Levels.length : Int))))] ⟨alm (c := Qab) (l := p0.Levels) (aln rfl Try.underlying37 rfl), trivial⟩ ?_
   rcases bft ((decide (y29 < (p0.Levels.length : Int)))) with hc32 | hc32
   ·replace h := Qau hc32 h
    refine wft hc32 (by kernel_rfl) ?_
    refine Qal ?_
    refine thn ?_
    refine wsq ?_
    refine Qai ?_
    obtain ⟨x33, hg34, h⟩ := bno h
    obtain ⟨hi35, hj36⟩ := gsm hg34
    rcases bft ((decide (x33 < 0))) with hb37 | hb37
    ·replace h := Qau hb37 h
     refine wxd tbk [(3, rp [(.tmp 13, (Qds p0)), (.tmp 14, I y29)] (.dptr (Qab (x33)) 0)), (6, rp [(.tmp 17, (B ((decide (x33 < 0)))))] (B true))] ⟨aid rfl Try.underlying37 ti3 rfl rfl hi35 (mgt Qab hj36) rfl, asb hb37 (amv rfl), trivial⟩ ?_
     refine Qe3 (by kernel_rfl) ?_
     refine wx tbk [] trivial ?_
     refine Qac ?_
     refine Qbv ?_
     refine Qar ?_
     refine Qar ?_
     refine Qbv ?_
     refine Qar ?_
     obtain rfl := osi h
     exact fend ⟨[B false], ⟨rot (by kernel_rfl), trivial⟩, rfl⟩ nll
    ·replace h := Qav hb37 h
     rcases bft ((decide (x33 > 1000000))) with hb38 | hb38
     ·replace h := Qau hb38 h
      refine wxd tbk [(3, rp [(.tmp 13, (Qds p0)), (.tmp 14, I y29)] (.dptr (Qab (x33)) 0)), (6, rp [(.tmp 17, (B ((decide (x33 < 0)))))] (B false)), (10, rp [(.tmp 18, B false), (.tmp 20, (Qds p0)), (.tmp 21, I y29)] (.dptr (Qab (x33)) 0)), (14, rp [(.tmp 25, (B ((decide (x33 > 1000000)))))] (B true))] ⟨aid rfl Try.underlying37 ti3 rfl rfl hi35 (mgt Qab hj36) rfl, asb hb37 (amv rfl), ag_ (aid rfl Try.underlying37 ti3 rfl rfl hi35 (mgt Qab hj36) rfl), asb hb38 (amv rfl), trivial⟩ ?_
      refine Qe3 (by kernel_rfl) ?_
      refine wx tbk [] trivial ?_
      refine Qac ?_
      refine Qbv ?_
      refine Qar ?_
      refine Qar ?_
      refine Qbv ?_
      refine Qar ?_
      obtain rfl := osi h
      exact fend ⟨[B false], ⟨rot (by kernel_rfl), trivial⟩, rfl⟩ nll
     ·replace h := Qav hb38 h
      rcases bft ((y29 == 0)) with hb39 | hb39
      ·replace h := Qau hb39 h
       rcases bft ((x33 != 0)) with hb40 | hb40
       ·replace h := Qau hb40 h
        refine wxd tbk [(3, rp [(.tmp 13, (Qds p0)), (.tmp 14, I y29)] (.dptr (Qab (x33)) 0)), (6, rp [(.tmp 17, (B ((decide (x33 < 0)))))] (B false)), (10, rp [(.tmp 18, B false), (.tmp 20, (Qds p0)), (.tmp 21, I y29)] (.dptr (Qab (x33)) 0)), (14, rp [(.tmp 25, (B ((decide (x33 > 1000000)))))] (B false)), (17, rp [(.tmp 26, B false), (.tmp 28, (B ((y29 == 0))))] (B true)), (21, rp [(.tmp 29, B true), (.tmp 31, (Qds p0)), (.tmp 32, I y29)] (.dptr (Qab (x33)) 0)), (26, rp [(.tmp 37, (B ((x33 != 0))))] (B true))] ⟨aid rfl Try.underlying37 ti3 rfl rfl hi35 (mgt Qab hj36) rfl, asb hb37 (amv rfl), ag_ (aid rfl Try.underlying37 ti3 rfl rfl hi35 (mgt Qab hj36) rfl), asb hb38 (amv rfl), asb hb39 (ag_ (amv rfl)), ag_ (aid rfl Try.underlying37 ti3 rfl rfl hi35 (mgt Qab hj36) rfl), asb hb40 (amv rfl), trivial⟩ ?_
        refine Qe3 (by kernel_rfl) ?_
        refine wx tbk [] trivial ?_
        refine Qac ?_
        refine Qbv ?_
        refine Qar ?_
        refine Qar ?_
        refine Qbv ?_
        refine Qar ?_
        obtain rfl := osi h
        exact fend ⟨[B false], ⟨rot (by kernel_rfl), trivial⟩, rfl⟩ nll
       ·replace h := Qav hb40 h
        rcases bft ((decide (y29 > 0))) with hb41 | hb41
        ·replace h := Qau hb41 h
         obtain ⟨x42, hg43, h⟩ := bno h
         obtain ⟨hi44, hj45⟩ := gsm hg43
         refine wxd tbk [(3, rp [(.tmp 13, (Qds p0)), (.tmp 14, I y29)] (.dptr (Qab (x33)) 0)), (6, rp [(.tmp 17, (B ((decide (x33 < 0)))))] (B false)), (10, rp [(.tmp 18, B false), (.tmp 20, (Qds p0)), (.tmp 21, I y29)] (.dptr (Qab (x33)) 0)), (14, rp [(.tmp 25, (B ((decide (x33 > 1000000)))))] (B false)), (17, rp [(.tmp 26, B false), (.tmp 28, (B ((y29 == 0))))] (B true)), (21, rp [(.tmp 29, B true), (.tmp 31, (Qds p0)), (.tmp 32, I y29)] (.dptr (Qab (x33)) 0)), (26, rp [(.tmp 37, (B ((x33 != 0))))] (B false)), (29, rp [(.tmp 38, B false), (.tmp 40, (B ((decide (y29 > 0)))))] (B true)), (33, rp [(.tmp 41, B true), (.tmp 43, (Qds p0)), (.tmp 44, I y29)] (.dptr (Qab (x33)) 0)), (39, rp [(.tmp 41, B true), (.tmp 48, (Qds p0)), (.tmp 50, (I (w64 (y29 - 1))))] (.dptr (Qab (x42)) 0))] ⟨aid rfl Try.underlying37 ti3 rfl rfl hi35 (mgt Qab hj36) rfl, asb hb37 (amv rfl), ag_ (aid rfl Try.underlying37 ti3 rfl rfl hi35 (mgt Qab hj36) rfl), asb hb38 (amv rfl), asb hb39 (ag_ (amv rfl)), ag_ (aid rfl Try.underlying37 ti3 rfl rfl hi35 (mgt Qab hj36) rfl), asb hb40 (amv rfl), asb hb41 (ag_ (amv rfl)), ag_ (aid rfl Try.underlying37 ti3 rfl rfl hi35 (mgt Qab hj36) rfl), ag_ (aid rfl Try.underlying37 ti3 rfl rfl hi44 (mgt Qab hj45) rfl), trivial⟩ ?_
         rcases bft ((decide (x33 ≤ x42))) with hc46 | hc46
         ·replace h := Qau hc46 h
          refine wft hc46 (by kernel_rfl) ?_
          refine wx tbk [] trivial ?_
          refine Qac ?_
          refine Qbv ?_
          refine Qar ?_
          refine Qar ?_
          refine Qbv ?_
          refine Qar ?_
          obtain rfl := osi h
          exact fend ⟨[B false], ⟨rot (by kernel_rfl), trivial⟩, rfl⟩ nll
         ·replace h := Qav hc46 h
          refine wfn hc46 (by kernel_rfl) ?_
          refine Qal ?_
          refine bln ?_
          refine thn ?_
          refine wx1 tbk [] trivial ?_
          refine thn ?_
          exact arm (mto (n := 122) [(1, .ref 0 5 0 0), (3, (I (w64 (y29 + 1))))] [0] [(Qiq p0)] hφ0 (pc (.rn (rqr rfl)) (pc rwl pn)) (qc (spb (lc (.rn (.plain _ (nld Qaa _))) (lc rwl (lc rwl (lc rwl (lc (.rn (.plain _ (nld Qaj _))) ln)))))) qn)) (ih (w64 (y29 + 1)) h)
        ·replace h := Qav hb41 h
         refine wxd tbk [(3, rp [(.tmp 13, (Qds p0)), (.tmp 14, I y29)] (.dptr (Qab (x33)) 0)), (6, rp [(.tmp 17, (B ((decide (x33 < 0)))))] (B false)), (10, rp [(.tmp 18, B false), (.tmp 20, (Qds p0)), (.tmp 21, I y29)] (.dptr (Qab (x33)) 0)), (14, rp [(.tmp 25, (B ((decide (x33 > 1000000)))))] (B false)), (17, rp [(.tmp 26, B false), (.tmp 28, (B ((y29 == 0))))] (B true)), (21, rp [(.tmp 29, B true), (.tmp 31, (Qds p0)), (.tmp 32, I y29)] (.dptr (Qab (x33)) 0)), (26, rp [(.tmp 37, (B ((x33 != 0))))] (B false)), (29, rp [(.tmp 38, B false), (.tmp 40, (B ((decide (y29 > 0)))))] (B false))] ⟨aid rfl Try.underlying37 ti3 rfl rfl hi35 (mgt Qab hj36) rfl, asb hb37 (amv rfl), ag_ (aid rfl Try.underlying37 ti3 rfl rfl hi35 (mgt Qab hj36) rfl), asb hb38 (amv rfl), asb hb39 (ag_ (amv rfl)), ag_ (aid rfl Try.underlying37 ti3 rfl rfl hi35 (mgt Qab hj36) rfl), asb hb40 (amv rfl), asb hb41 (ag_ (amv rfl)), trivial⟩ ?_
         refine Qeg (by kernel_rfl) ?_
         refine Qal ?_
         refine bln ?_
         refine thn ?_
         refine wx1 tbk [] trivial ?_
         refine thn ?_
         exact arm (mto (n := 122) [(1, .ref 0 5 0 0), (3, (I (w64 (y29 + 1))))] [0] [(Qiq p0)] hφ0 (pc (.rn (rqr rfl)) (pc rwl pn)) (qc (spb (lc (.rn (.plain _ (nld Qaa _))) (lc rwl (lc rwl (lc rwl (lc (.rn (.plain _ (nld Qaj _))) ln)))))) qn)) (ih (w64 (y29 + 1)) h)
      ·replace h := Qav hb39 h
       rcases bft ((decide (y29 > 0))) with hb47 | hb47
       ·replace h := Qau hb47 h
        obtain ⟨x48, hg49, h⟩ := bno h
        obtain ⟨hi50, hj51⟩ := gsm hg49
        refine wxd tbk [(3, rp [(.tmp 13, (Qds p0)), (.tmp 14, I y29)] (.dptr (Qab (x33)) 0)), (6, rp [(.tmp 17, (B ((decide (x33 < 0)))))] (B false)), (10, rp [(.tmp 18, B false), (.tmp 20, (Qds p0)), (.tmp 21, I y29)] (.dptr (Qab (x33)) 0)), (14, rp [(.tmp 25, (B ((decide (x33 > 1000000)))))] (B false)), (17, rp [(.tmp 26, B false), (.tmp 28, (B ((y29 == 0))))] (B false)), (29, rp [(.tmp 38, B false), (.tmp 40, (B ((decide (y29 > 0)))))] (B true)), (33, rp [(.tmp 41, B true), (.tmp 43, (Qds p0)), (.tmp 44, I y29)] (.dptr (Qab (x33)) 0)), (39, rp [(.tmp 41, B true), (.tmp 48, (Qds p0)), (.tmp 50, (I (w64 (y29 - 1))))] (.dptr (Qab (x48)) 0))] ⟨aid rfl Try.underlying37 ti3 rfl rfl hi35 (mgt Qab hj36) rfl, asb hb37 (amv rfl), ag_ (aid rfl Try.underlying37 ti3 rfl rfl hi35 (mgt Qab hj36) rfl), asb hb38 (amv rfl), asb hb39 (ag_ (amv rfl)), asb hb47 (ag_ (amv rfl)), ag_ (aid rfl Try.underlying37 ti3 rfl rfl hi35 (mgt Qab hj36) rfl), ag_ (aid rfl Try.underlying37 ti3 rfl rfl hi50 (mgt Qab hj51) rfl), trivial⟩ ?_
        rcases bft ((decide (x33 ≤ x48))) with hc52 | hc52
        ·replace h := Qau hc52 h
         refine wft hc52 (by kernel_rfl) ?_
         refine wx tbk [] trivial ?_
         refine Qac ?_
         refine Qbv ?_
         refine Qar ?_
         refine Qar ?_
         refine Qbv ?_
         refine Qar ?_
         obtain rfl := osi h
         exact fend ⟨[B false], ⟨rot (by kernel_rfl), trivial⟩, rfl⟩ nll
        ·replace h := Qav hc52 h
         refine wfn hc52 (by kernel_rfl) ?_
         refine Qal ?_
         refine bln ?_
         refine thn ?_
         refine wx1 tbk [] trivial ?_
         refine thn ?_
         exact arm (mto (n := 122) [(1, .ref 0 5 0 0), (3, (I (w64 (y29 + 1))))] [0] [(Qiq p0)] hφ0 (pc (.rn (rqr rfl)) (pc rwl pn)) (qc (spb (lc (.rn (.plain _ (nld Qaa _))) (lc rwl (lc rwl (lc rwl (lc (.rn (.plain _ (nld Qaj _))) ln)))))) qn)) (ih (w64 (y29 + 1)) h)
       ·replace h := Qav hb47 h
        refine wxd tbk [(3, rp [(.tmp 13, (Qds p0)), (.tmp 14, I y29)] (.dptr (Qab (x33)) 0)), (6, rp [(.tmp 17, (B ((decide (x33 < 0)))))] (B false)), (10, rp [(.tmp 18, B false), (.tmp 20, (Qds p0)), (.tmp 21, I y29)] (.dptr (Qab (x33)) 0)), (14, rp [(.tmp 25, (B ((decide (x33 > 1000000)))))] (B false)), (17, rp [(.tmp 26, B false), (.tmp 28, (B ((y29 == 0))))] (B false)), (29, rp [(.tmp 38, B false), (.tmp 40, (B ((decide (y29 > 0)))))] (B false))] ⟨aid rfl Try.underlying37 ti3 rfl rfl hi35 (mgt Qab hj36) rfl, asb hb37 (amv rfl), ag_ (aid rfl Try.underlying37 ti3 rfl rfl hi35 (mgt Qab hj36) rfl), asb hb38 (amv rfl), asb hb39 (ag_ (amv rfl)), asb hb47 (ag_ (amv rfl)), trivial⟩ ?_
        refine Qeg (by kernel_rfl) ?_
        refine Qal ?_
        refine bln ?_
        refine thn ?_
        refine wx1 tbk [] trivial ?_
        refine thn ?_
        exact arm (mto (n := 122) [(1, .ref 0 5 0 0), (3, (I (w64 (y29 + 1))))] [0] [(Qiq p0)] hφ0 (pc (.rn (rqr rfl)) (pc rwl pn)) (qc (spb (lc (.rn (.plain _ (nld Qaa _))) (lc rwl (lc rwl (lc rwl (lc (.rn (.plain _ (nld Qaj _))) ln)))))) qn)) (ih (w64 (y29 + 1)) h)
   ·replace h := Qav hc32 h
    refine wfn hc32 (by kernel_rfl) ?_
    refine Qbd ?_
    refine Qas ?_
    refine Qas ?_
    refine Qbc rfl ?_
    refine thn ?_
    exact ⟨(), h, (mto (n := 122) [(1, .ref 0 5 0 0)] [0] [(Qiq p0)] hφ0 (pc (.rn (rqr rfl)) pn) (qc (spb (lc (.rn (.plain _ (nld Qaa _))) (lc rwl (lc rwl (lc rwl (lc (.rn (.plain _ (nld Qaj _))) ln)))))) qn))⟩
def Qcl (N : Nat) (p0 : GJob) (p1 : (List Int)) (k2 : Int → Option (Int × Bool)) : Nat → Int → Int → Int → Option (Int × Bool)
  | 0, _, _, _ => none
  | n9 + 1, y3, y4, y5 =>
    bif (decide (y5 < (p1.length : Int))) then
     (getI p1 y5).bind fun x11 =>
     (Qed N p0 y5 y4 x11).bind fun x16 =>
     bif (!x16.2) then
      some (0, false)
     else
      Qcl N p0 p1 k2 n9 (w64 (y3 + x16.1)) x11 (w64 (y5 + 1))
    else
     k2 (y3)
def Qf5 (N : Nat) (p0 : GJob) (p1 : (List Int)) : Option (Int × Bool) :=
  Qcn (fun y1 =>
    some (y1, true)) fun k2 : Int → Option (Int × Bool) =>
  Qcl N p0 p1 k2 N 0 p0.First 0
def Qpf (p1 : (List Int)) : AV := .dat 1 ((p1 : List Int).map Qab)
def Quy (p0 : GJob) : Slot := .own 5 [[(.dat 1 ((p0.Levels : List Int).map Qab)), (I (p0.Ramp)), (I (p0.Start)), (I (p0.First)), (.dat 2 ((p0.Hours : List GHour).map Qay))]]
def z128_3 (p0 : GJob) : AV := .agg [(.dat 1 ((p0.Levels : List Int).map Qab)), (I (p0.Ramp)), (I (p0.Start)), (I (p0.First)), (.dat 2 ((p0.Hours : List GHour).map Qay))]
set_option maxRecDepth 100000 in
set_option maxHeartbeats 4000000 in
theorem Qlk (N : Nat) (p0 : GJob) (p1 : (List Int)) (r : (Int × Bool)) (h : Qf5 N p0 p1 = some r) : Spec Try.prog 76 [(.agg (Qhb p0)), (.dat 1 (p1.map Qab))] [] (.tup [(I r.1), (B r.2)]) [] := by
  refine Qae Try.func76 rfl 0 (nle rfl) (fun X φ0 w0 hφ0 => ?_)
  unfold Qf5 at h
  refine wx tbk [] trivial ?_
  refine wx tbk [] trivial ?_
  obtain ⟨k2, hk_k2, h⟩ := jko h
  refine wjn (τ := Int) (fun t => k2 t = some r) (fun y1 => ⟨mk 36 [(4, I y1)], []⟩) (fun y1 h => ?_) ?_
  ·subst hk_k2
   refine wx tbk [] trivial ?_
   refine Qac ?_
   obtain rfl := osi h
   exact fend ⟨[I y1, B true], ⟨rot (by kernel_rfl), rot (by kernel_rfl), trivial⟩, rfl⟩ (NLt.tup _ (nlc nll (nlc nll nl0)))
  ·skip
   refine wx tbk [(1, rp [(.tmp 13, (Qpf p1))] (I ((p1.length : Int))))] ⟨alm (c := Qab) (l := p1) (aln rfl Try.underlying37 rfl), trivial⟩ ?_
   refine Qai ?_
   refine wmr (mto (n := 36) (l' := [(2, .ref 0 5 0 0), (4, I 0), (6, I p0.First), (13, (Qpf p1)), (14, (I ((p1.length : Int)))), (15, I 0)]) (own' := [(Quy p0)]) [(2, .ref 0 5 0 0), (4, I 0), (6, I p0.First), (13, (Qpf p1)), (14, (I ((p1.length : Int)))), (15, I 0)] [0] [(Quy p0)] hφ0 (pc (.rn (rqr rfl)) (pc rwl (pc rwl (pc (.rn (.plain _ (nld Qaa _))) (pc rwl (pc rwl pn)))))) (qc (spb (lc (.rn (.plain _ (nld Qaa _))) (lc rwl (lc rwl (lc rwl (lc (.rn (.plain _ (nld Qaj _))) ln)))))) qn)) ?_
   refine Qby (τ := Int × Int × Int) (fun n t => Qcl N p0 p1 k2 n t.1 t.2.1 t.2.2 = some r) (fun ⟨y3, y4, y5⟩ => ⟨mk 36 [(2, .ref 0 5 0 0), (4, I y3), (6, I y4), (13, (Qpf p1)), (14, (I ((p1.length : Int)))), (15, I y5)], [(Quy p0)]⟩) (fun t h => by rw [Qcl] at h; cases h) (fun n9 ih t h => ?_) N (0, p0.First, 0) h
   obtain ⟨y3, y4, y5⟩ := t
   rw [Qcl] at h
   skip
   refine wx tbk [] trivial ?_
   refine wsq ?_
   rcases bft ((decide (y5 < (p1.length : Int)))) with hc10 | hc10
   ·replace h := Qau hc10 h
    refine wft hc10 (by kernel_rfl) ?_
    refine Qal ?_
    refine thn ?_
    refine wsq ?_
    refine Qai ?_
    obtain ⟨x11, hg12, h⟩ := bno h
    obtain ⟨hi13, hj14⟩ := gsm hg12
    refine wx tbk [(1, rp [(.tmp 13, (Qpf p1)), (.tmp 15, I y5)] (.dptr (Qab (x11)) 0))] ⟨aid rfl Try.underlying37 ti3 rfl rfl hi13 (mgt Qab hj14) rfl, trivial⟩ ?_
    obtain ⟨x16, hf15, h⟩ := bno h
    refine wx tbk [(4, rp [fu 70, (.tmp 21, (z128_3 p0)), (.tmp 22, I y5), (.tmp 23, I y4), (.tmp 24, I x11)] (.tup [I x16.1, B x16.2]))] ⟨apc (first := []) (cap := []) (vs := [(z128_3 p0), I y5, I y4, I x11]) rfl Qt0 (Qg6 N p0 y5 y4 x11 _ hf15) rfl rfl (nlc (NLt.agg _ (nlc (nld Qaa _) (nlc nll (nlc nll (nlc nll (nlc (nld Qaj _) nl0)))))) (nlc nll (nlc nll (nlc nll nl0)))) (NLt.tup _ (nlc nll (nlc nll nl0))) rfl, trivial⟩ ?_
    refine wsq ?_
    refine wx tbk [] trivial ?_
    rcases bft ((!x16.2)) with hc17 | hc17
    ·replace h := Qau hc17 h
     refine wft hc17 (by kernel_rfl) ?_
     refine wx tbk [] trivial ?_
     refine Qac ?_
     refine Qar ?_
     refine Qbv ?_
     refine Qar ?_
     refine Qar ?_
     refine Qbv ?_
     refine Qar ?_
     obtain rfl := osi h
     exact fend ⟨[I 0, B false], ⟨rot (by kernel_rfl), rot (by kernel_rfl), trivial⟩, rfl⟩ (NLt.tup _ (nlc nll (nlc nll nl0)))
    ·replace h := Qav hc17 h
     refine wfn hc17 (by kernel_rfl) ?_
     refine Qal ?_
     refine thn ?_
     refine wx tbk [] trivial ?_
     refine wx1 tbk [] trivial ?_
     refine bln ?_
     refine thn ?_
     refine wx1 tbk [] trivial ?_
     refine thn ?_
     exact arm (mto (n := 36) [(2, .ref 0 5 0 0), (4, (I (w64 (y3 + x16.1)))), (6, I x11), (13, (Qpf p1)), (14, (I ((p1.length : Int)))), (15, (I (w64 (y5 + 1))))] [0] [(Quy p0)] hφ0 (pc (.rn (rqr rfl)) (pc rwl (pc rwl (pc (.rn (.plain _ (nld Qaa _))) (pc rwl (pc rwl pn)))))) (qc (spb (lc (.rn (.plain _ (nld Qaa _))) (lc rwl (lc rwl (lc rwl (lc (.rn (.plain _ (nld Qaj _))) ln)))))) qn)) (ih (w64 (y3 + x16.1), x11, w64 (y5 + 1)) h)
   ·replace h := Qav hc10 h
    refine wfn hc10 (by kernel_rfl) ?_
    refine Qbd ?_
    refine Qas ?_
    refine Qas ?_
    refine Qbc rfl ?_
    refine thn ?_
    exact ⟨(y3), h, (mto (n := 36) [(4, I y3)] [] [] hφ0 (pc rwl pn) qn)⟩
def Qg5 (N : Nat) (p0 : GJob) (p1 : (List Int)) : Option (Int × Int) :=
  Qcn (fun _ =>
    (Qf5 N p0 p1).bind fun x3 =>
    bif (!x3.2) then
     some (0, 1)
    else
     some (x3.1, 0)) fun k1 : Unit → Option (Int × Int) =>
  (Qej N p0).bind fun x6 =>
  bif (!x6) then
   some (0, 1)
  else
   bif ((p1.length : Int) != (p0.Hours.length : Int)) then
    some (0, 1)
   else
    k1 ()
def Qrm (p1 : (List Int)) : AV := .dat 1 ((p1 : List Int).map Qab)
def Qyn (p0 : GJob) : AV := .dat 2 ((p0.Hours : List GHour).map Qay)
def z127_2 (p0 : GJob) : Slot := .own 5 [[(.dat 1 ((p0.Levels : List Int).map Qab)), (I (p0.Ramp)), (I (p0.Start)), (I (p0.First)), (Qyn p0)]]
def Qpg (p0 : GJob) : AV := .agg [(.dat 1 ((p0.Levels : List Int).map Qab)), (I (p0.Ramp)), (I (p0.Start)), (I (p0.First)), (Qyn p0)]
set_option maxRecDepth 100000 in
set_option maxHeartbeats 4000000 in
theorem Qng (N : Nat) (p0 : GJob) (p1 : (List Int)) (r : (Int × Int)) (h : Qg5 N p0 p1 = some r) : Spec Try.prog 36 [(.agg (Qhb p0)), (.dat 1 (p1.map Qab))] [] (.tup [(I r.1), (I r.2)]) [] := by
  refine Qae Try.func36 rfl 0 (nle rfl) (fun X φ0 w0 hφ0 => ?_)
  unfold Qg5 at h
  refine wx tbk [] trivial ?_
  obtain ⟨k1, hk_k1, h⟩ := jko h
  refine wjn (τ := Unit) (fun t => k1 t = some r) (fun _ => ⟨mk 28 [(1, (Qrm p1)), (2, .ref 0 5 0 0)], [(z127_2 p0)]⟩) (fun t h => ?_) ?_
  ·subst hk_k1
   obtain ⟨x3, hf2, h⟩ := bno h
   refine wx tbk [(2, rp [fu 76, (.tmp 20, (Qpg p0)), (.tmp 21, (Qrm p1))] (.tup [I x3.1, B x3.2]))] ⟨apc (first := []) (cap := []) (vs := [(Qpg p0), (Qrm p1)]) rfl enter76 (Qlk N p0 p1 _ hf2) rfl rfl (nlc (NLt.agg _ (nlc (nld Qaa _) (nlc nll (nlc nll (nlc nll (nlc (nld Qaj _) nl0)))))) (nlc (nld Qaa _) nl0)) (NLt.tup _ (nlc nll (nlc nll nl0))) rfl, trivial⟩ ?_
   refine wsq ?_
   refine wx tbk [] trivial ?_
   rcases bft ((!x3.2)) with hc4 | hc4
   ·replace h := Qau hc4 h
    refine wft hc4 (by kernel_rfl) ?_
    refine wx tbk [] trivial ?_
    refine Qac ?_
    refine Qar ?_
    obtain rfl := osi h
    exact fend ⟨[I 0, I 1], ⟨rot (by kernel_rfl), rot (by kernel_rfl), trivial⟩, rfl⟩ (NLt.tup _ (nlc nll (nlc nll nl0)))
   ·replace h := Qav hc4 h
    refine wfn hc4 (by kernel_rfl) ?_
    refine Qal ?_
    refine thn ?_
    refine wx tbk [] trivial ?_
    refine Qac ?_
    obtain rfl := osi h
    exact fend ⟨[I x3.1, I 0], ⟨rot (by kernel_rfl), rot (by kernel_rfl), trivial⟩, rfl⟩ (NLt.tup _ (nlc nll (nlc nll nl0)))
  ·skip
   obtain ⟨x6, hf5, h⟩ := bno h
   rcases bft ((!x6)) with hb7 | hb7
   ·replace h := Qau hb7 h
    refine wx tbk [(1, rp [fu 68, (.tmp 8, (Qpg p0))] (B x6)), (3, rp [(.tmp 10, (B ((!x6))))] (B true))] ⟨apc (first := []) (cap := []) (vs := [(Qpg p0)]) rfl Qt1 (Qgl N p0 _ hf5) rfl rfl (nlc (NLt.agg _ (nlc (nld Qaa _) (nlc nll (nlc nll (nlc nll (nlc (nld Qaj _) nl0)))))) nl0) nll rfl, asb hb7 (amv rfl), trivial⟩ ?_
    refine Qe3 (by kernel_rfl) ?_
    refine wx tbk [] trivial ?_
    refine Qac ?_
    refine Qar ?_
    obtain rfl := osi h
    exact fend ⟨[I 0, I 1], ⟨rot (by kernel_rfl), rot (by kernel_rfl), trivial⟩, rfl⟩ (NLt.tup _ (nlc nll (nlc nll nl0)))
   ·replace h := Qav hb7 h
    refine wx tbk [(1, rp [fu 68, (.tmp 8, (Qpg p0))] (B x6)), (3, rp [(.tmp 10, (B ((!x6))))] (B false)), (5, rp [(.tmp 11, B false), (.tmp 12, (Qrm p1))] (I ((p1.length : Int)))), (8, rp [(.tmp 11, B false), (.tmp 15, (Qyn p0))] (I ((p0.Hours.length : Int))))] ⟨apc (first := []) (cap := []) (vs := [(Qpg p0)]) rfl Qt1 (Qgl N p0 _ hf5) rfl rfl (nlc (NLt.agg _ (nlc (nld Qaa _) (nlc nll (nlc nll (nlc nll (nlc (nld Qaj _) nl0)))))) nl0) nll rfl, asb hb7 (amv rfl), ag_ (alm (c := Qab) (l := p1) (aln rfl Try.underlying37 rfl)), ag_ (alm (c := Qay) (l := p0.Hours) (aln rfl Try.underlying45 rfl)), trivial⟩ ?_
    rcases bft (((p1.length : Int) != (p0.Hours.length : Int))) with hc8 | hc8
    ·replace h := Qau hc8 h
     refine wft hc8 (by kernel_rfl) ?_
     refine wx tbk [] trivial ?_
     refine Qac ?_
     refine Qar ?_
     obtain rfl := osi h
     exact fend ⟨[I 0, I 1], ⟨rot (by kernel_rfl), rot (by kernel_rfl), trivial⟩, rfl⟩ (NLt.tup _ (nlc nll (nlc nll nl0)))
    ·replace h := Qav hc8 h
     refine wfn hc8 (by kernel_rfl) ?_
     refine Qal ?_
     refine thn ?_
     exact ⟨(), h, (mto (n := 28) [(1, (Qrm p1)), (2, .ref 0 5 0 0)] [0] [(z127_2 p0)] hφ0 (pc (.rn (.plain _ (nld Qaa _))) (pc (.rn (rqr rfl)) pn)) (qc (spb (lc (.rn (.plain _ (nld Qaa _))) (lc rwl (lc rwl (lc rwl (lc (.rn (.plain _ (nld Qaj _))) ln)))))) qn))⟩
def Qev (N : Nat) (p0 : GJob) (p1 : Int) (p2 : Int) (p3 : Int) : Option Bool :=
  bif (decide (p3 ≥ 0)) then
   bif (decide (p3 < (p0.Levels.length : Int))) then
    (Qe7 N (w64 (p3 - p2)) (w64 (0 - p0.Ramp)) p0.Ramp).bind fun x4 =>
    bif x4 then
     (getI p0.Levels p3).bind fun x6 =>
     (getI p0.Hours p1).bind fun x10 =>
     some (decide (x6 ≤ x10.Most))
    else
     some false
   else
    some false
  else
   some false
def Quv (p0 : GJob) : AV := .dat 1 ((p0.Levels : List Int).map Qab)
def z130_1 (p0 : GJob) : AV := .dat 2 ((p0.Hours : List GHour).map Qay)
set_option maxRecDepth 100000 in
set_option maxHeartbeats 4000000 in
theorem Qhl (N : Nat) (p0 : GJob) (p1 : Int) (p2 : Int) (p3 : Int) (r : Bool) (h : Qev N p0 p1 p2 p3 = some r) : Spec Try.prog 77 [(.agg (Qhb p0)), (I p1), (I p2), (I p3)] [] (B r) [] := by
  refine Qae Try.func77 rfl 0 (nle rfl) (fun X φ0 w0 hφ0 => ?_)
  unfold Qev at h
  refine wx tbk [] trivial ?_
  rcases bft ((decide (p3 ≥ 0))) with hb1 | hb1
  ·replace h := Qau hb1 h
   rcases bft ((decide (p3 < (p0.Levels.length : Int)))) with hb2 | hb2
   ·replace h := Qau hb2 h
    obtain ⟨x4, hf3, h⟩ := bno h
    rcases bft (x4) with hb5 | hb5
    ·replace h := Qau hb5 h
     obtain ⟨x6, hg7, h⟩ := bno h
     obtain ⟨hi8, hj9⟩ := gsm hg7
     obtain ⟨x10, hg11, h⟩ := bno h
     obtain ⟨hi12, hj13⟩ := gsm hg11
     refine wxd tbk [(2, rp [(.tmp 10, (B ((decide (p3 ≥ 0)))))] (B true)), (6, rp [(.tmp 11, B true), (.tmp 14, (Quv p0))] (I ((p0.Levels.length : Int)))), (9, rp [(.tmp 17, (B ((decide (p3 < (p0.Levels.length : Int))))))] (B true)), (18, rp [(.tmp 18, B true), fu 25, (.tmp 21, (I (w64 (p3 - p2)))), (.tmp 24, (I (w64 (0 - p0.Ramp)))), (.tmp 26, I p0.Ramp)] (B x4)), (20, rp [(.tmp 28, B x4)] (B true)), (24, rp [(.tmp 29, B true), (.tmp 31, (Quv p0)), (.tmp 32, I p3)] (.dptr (Qab (x6)) 0)), (29, rp [(.tmp 29, B true), (.tmp 36, (z130_1 p0)), (.tmp 37, I p1)] (.dptr (Qay (x10)) 0))] ⟨asb hb1 (amv rfl), ag_ (alm (c := Qab) (l := p0.Levels) (aln rfl Try.underlying37 rfl)), asb hb2 (amv rfl), ag_ (apc (first := []) (cap := []) (vs := [(I (w64 (p3 - p2))), (I (w64 (0 - p0.Ramp))), I p0.Ramp]) rfl Qfw (Qcj N (w64 (p3 - p2)) (w64 (0 - p0.Ramp)) p0.Ramp _ hf3) rfl rfl (nlc nll (nlc nll (nlc nll nl0))) nll rfl), asb hb5 (amv rfl), ag_ (aid rfl Try.underlying37 ti3 rfl rfl hi8 (mgt Qab hj9) rfl), ag_ (aid rfl Try.underlying38 Qrq rfl rfl hi12 (mgt Qay hj13) rfl), trivial⟩ ?_
     refine Qac ?_
     obtain rfl := osi h
     exact fend ⟨[(B ((decide (x6 ≤ x10.Most))))], ⟨rot (by kernel_rfl), trivial⟩, rfl⟩ nll
    ·replace h := Qav hb5 h
     refine wxd tbk [(2, rp [(.tmp 10, (B ((decide (p3 ≥ 0)))))] (B true)), (6, rp [(.tmp 11, B true), (.tmp 14, (Quv p0))] (I ((p0.Levels.length : Int)))), (9, rp [(.tmp 17, (B ((decide (p3 < (p0.Levels.length : Int))))))] (B true)), (18, rp [(.tmp 18, B true), fu 25, (.tmp 21, (I (w64 (p3 - p2)))), (.tmp 24, (I (w64 (0 - p0.Ramp)))), (.tmp 26, I p0.Ramp)] (B x4)), (20, rp [(.tmp 28, B x4)] (B false))] ⟨asb hb1 (amv rfl), ag_ (alm (c := Qab) (l := p0.Levels) (aln rfl Try.underlying37 rfl)), asb hb2 (amv rfl), ag_ (apc (first := []) (cap := []) (vs := [(I (w64 (p3 - p2))), (I (w64 (0 - p0.Ramp))), I p0.Ramp]) rfl Qfw (Qcj N (w64 (p3 - p2)) (w64 (0 - p0.Ramp)) p0.Ramp _ hf3) rfl rfl (nlc nll (nlc nll (nlc nll nl0))) nll rfl), asb hb5 (amv rfl), trivial⟩ ?_
     refine Qac ?_
     obtain rfl := osi h
     exact fend ⟨[B false], ⟨rot (by kernel_rfl), trivial⟩, rfl⟩ nll
   ·replace h := Qav hb2 h
    refine wxd tbk [(2, rp [(.tmp 10, (B ((decide (p3 ≥ 0)))))] (B true)), (6, rp [(.tmp 11, B true), (.tmp 14, (Quv p0))] (I ((p0.Levels.length : Int)))), (9, rp [(.tmp 17, (B ((decide (p3 < (p0.Levels.length : Int))))))] (B false))] ⟨asb hb1 (amv rfl), ag_ (alm (c := Qab) (l := p0.Levels) (aln rfl Try.underlying37 rfl)), asb hb2 (amv rfl), trivial⟩ ?_
    refine Qac ?_
    obtain rfl := osi h
    exact fend ⟨[B false], ⟨rot (by kernel_rfl), trivial⟩, rfl⟩ nll
  ·replace h := Qav hb1 h
   refine wxd tbk [(2, rp [(.tmp 10, (B ((decide (p3 ≥ 0)))))] (B false))] ⟨asb hb1 (amv rfl), trivial⟩ ?_
   refine Qac ?_
   obtain rfl := osi h
   exact fend ⟨[B false], ⟨rot (by kernel_rfl), trivial⟩, rfl⟩ nll
def Qhk (_N : Nat) (p0 : GJob) (p1 : Int) (p2 : Int) (p3 : Int) : Option Int :=
  (getI p0.Hours p1).bind fun x1 =>
  (getI p0.Levels p3).bind fun x5 =>
  bif (p2 == 0) then
   bif (decide (p3 > 0)) then
    (some (w64 ((w64 (x1.Price * x5)) - p0.Start))).bind fun x11 =>
    some x11
   else
    some (w64 (x1.Price * x5))
  else
   some (w64 (x1.Price * x5))
def z131_1 (p0 : GJob) : AV := .dat 2 ((p0.Hours : List GHour).map Qay)
def z131_0 (p0 : GJob) : AV := .dat 1 ((p0.Levels : List Int).map Qab)
set_option maxRecDepth 100000 in
set_option maxHeartbeats 4000000 in
theorem Qll (N : Nat) (p0 : GJob) (p1 : Int) (p2 : Int) (p3 : Int) (r : Int) (h : Qhk N p0 p1 p2 p3 = some r) : Spec Try.prog 78 [(.agg (Qhb p0)), (I p1), (I p2), (I p3)] [] (I r) [] := by
  refine Qae Try.func78 rfl 0 (nle rfl) (fun X φ0 w0 hφ0 => ?_)
  unfold Qhk at h
  refine wx tbk [] trivial ?_
  obtain ⟨x1, hg2, h⟩ := bno h
  obtain ⟨hi3, hj4⟩ := gsm hg2
  obtain ⟨x5, hg6, h⟩ := bno h
  obtain ⟨hi7, hj8⟩ := gsm hg6
  refine wxd tbk [(3, rp [(.tmp 11, (z131_1 p0)), (.tmp 12, I p1)] (.dptr (Qay (x1)) 0)), (9, rp [(.tmp 17, (z131_0 p0)), (.tmp 18, I p3)] (.dptr (Qab (x5)) 0))] ⟨aid rfl Try.underlying38 Qrq rfl rfl hi3 (mgt Qay hj4) rfl, aid rfl Try.underlying37 ti3 rfl rfl hi7 (mgt Qab hj8) rfl, trivial⟩ ?_
  refine wsq ?_
  rcases bft ((p2 == 0)) with hb9 | hb9
  ·replace h := Qau hb9 h
   refine wx tbk [(2, rp [(.tmp 23, (B ((p2 == 0))))] (B true))] ⟨asb hb9 (amv rfl), trivial⟩ ?_
   rcases bft ((decide (p3 > 0))) with hc10 | hc10
   ·replace h := Qau hc10 h
    refine wft hc10 (by kernel_rfl) ?_
    obtain ⟨x11, hl12, h⟩ := bno h
    refine wx1 tbk [(4, rp [(.tmp 31, (I (w64 ((w64 (x1.Price * x5)) - p0.Start))))] (I x11))] ⟨Qe8 hl12 (aas rfl), trivial⟩ ?_
    refine thn ?_
    refine wx tbk [] trivial ?_
    refine Qac ?_
    obtain rfl := osi h
    exact fend ⟨[I x11], ⟨rot (by kernel_rfl), trivial⟩, rfl⟩ nll
   ·replace h := Qav hc10 h
    refine wfn hc10 (by kernel_rfl) ?_
    refine Qal ?_
    refine thn ?_
    refine wx tbk [] trivial ?_
    refine Qac ?_
    obtain rfl := osi h
    exact fend ⟨[(I (w64 (x1.Price * x5)))], ⟨rot (by kernel_rfl), trivial⟩, rfl⟩ nll
  ·replace h := Qav hb9 h
   refine wx tbk [(2, rp [(.tmp 23, (B ((p2 == 0))))] (B false))] ⟨asb hb9 (amv rfl), trivial⟩ ?_
   refine Qeg (by kernel_rfl) ?_
   refine Qal ?_
   refine thn ?_
   refine wx tbk [] trivial ?_
   refine Qac ?_
   obtain rfl := osi h
   exact fend ⟨[(I (w64 (x1.Price * x5)))], ⟨rot (by kernel_rfl), trivial⟩, rfl⟩ nll
def Qda (N : Nat) (p0 : GJob) (p1 : (List Int)) (k3 : Int → Option (Int × Bool)) : Nat → Int → Int → Int → Option (Int × Bool)
  | 0, _, _, _ => none
  | n10 + 1, y4, y5, y6 =>
    bif (decide (y6 < (p1.length : Int))) then
     (getI p1 y6).bind fun x12 =>
     (Qev N p0 y6 y5 x12).bind fun x17 =>
     bif (!x17) then
      some (0, false)
     else
      (Qhk N p0 y6 y5 x12).bind fun x20 =>
      Qda N p0 p1 k3 n10 (w64 (y4 + x20)) x12 (w64 (y6 + 1))
    else
     k3 (y4)
def Qf2 (N : Nat) (p0 : GJob) (p1 : (List Int)) : Option (Int × Bool) :=
  bif ((p1.length : Int) != (p0.Hours.length : Int)) then
   some (0, false)
  else
   Qcn (fun y2 =>
     some (y2, true)) fun k3 : Int → Option (Int × Bool) =>
   Qda N p0 p1 k3 N 0 p0.First 0
def Ql4 (p1 : (List Int)) : AV := .dat 1 ((p1 : List Int).map Qab)
def Qym (p0 : GJob) : AV := .dat 2 ((p0.Hours : List GHour).map Qay)
def Qux (p0 : GJob) : Slot := .own 5 [[(.dat 1 ((p0.Levels : List Int).map Qab)), (I (p0.Ramp)), (I (p0.Start)), (I (p0.First)), (Qym p0)]]
def Quw (p0 : GJob) : AV := .agg [(.dat 1 ((p0.Levels : List Int).map Qab)), (I (p0.Ramp)), (I (p0.Start)), (I (p0.First)), (Qym p0)]
set_option maxRecDepth 100000 in
set_option maxHeartbeats 4000000 in
theorem Qj4 (N : Nat) (p0 : GJob) (p1 : (List Int)) (r : (Int × Bool)) (h : Qf2 N p0 p1 = some r) : Spec Try.prog 38 [(.agg (Qhb p0)), (.dat 1 (p1.map Qab))] [] (.tup [(I r.1), (B r.2)]) [] := by
  refine Qae Try.func38 rfl 0 (nle rfl) (fun X φ0 w0 hφ0 => ?_)
  unfold Qf2 at h
  refine wx tbk [] trivial ?_
  refine wsq ?_
  refine wx tbk [(1, rp [(.tmp 9, (Ql4 p1))] (I ((p1.length : Int)))), (4, rp [(.tmp 12, (Qym p0))] (I ((p0.Hours.length : Int))))] ⟨alm (c := Qab) (l := p1) (aln rfl Try.underlying37 rfl), alm (c := Qay) (l := p0.Hours) (aln rfl Try.underlying38 rfl), trivial⟩ ?_
  rcases bft (((p1.length : Int) != (p0.Hours.length : Int))) with hc1 | hc1
  ·replace h := Qau hc1 h
   refine wft hc1 (by kernel_rfl) ?_
   refine wx tbk [] trivial ?_
   refine Qac ?_
   refine Qar ?_
   obtain rfl := osi h
   exact fend ⟨[I 0, B false], ⟨rot (by kernel_rfl), rot (by kernel_rfl), trivial⟩, rfl⟩ (NLt.tup _ (nlc nll (nlc nll nl0)))
  ·replace h := Qav hc1 h
   refine wfn hc1 (by kernel_rfl) ?_
   refine Qal ?_
   refine thn ?_
   refine wxd tbk [] trivial ?_
   obtain ⟨k3, hk_k3, h⟩ := jko h
   refine wjn (τ := Int) (fun t => k3 t = some r) (fun y2 => ⟨mk 47 [(6, I y2)], []⟩) (fun y2 h => ?_) ?_
   ·subst hk_k3
    refine wx tbk [] trivial ?_
    refine Qac ?_
    obtain rfl := osi h
    exact fend ⟨[I y2, B true], ⟨rot (by kernel_rfl), rot (by kernel_rfl), trivial⟩, rfl⟩ (NLt.tup _ (nlc nll (nlc nll nl0)))
   ·skip
    refine wx tbk [] trivial ?_
    refine Qai ?_
    refine wmr (mto (n := 47) (l' := [(1, (Ql4 p1)), (2, .ref 0 5 0 0), (6, I 0), (7, I p0.First), (8, I 0)]) (own' := [(Qux p0)]) [(1, (Ql4 p1)), (2, .ref 0 5 0 0), (6, I 0), (7, I p0.First), (8, I 0)] [0] [(Qux p0)] hφ0 (pc (.rn (.plain _ (nld Qaa _))) (pc (.rn (rqr rfl)) (pc rwl (pc rwl (pc rwl pn))))) (qc (spb (lc (.rn (.plain _ (nld Qaa _))) (lc rwl (lc rwl (lc rwl (lc (.rn (.plain _ (nld Qaj _))) ln)))))) qn)) ?_
    refine Qby (τ := Int × Int × Int) (fun n t => Qda N p0 p1 k3 n t.1 t.2.1 t.2.2 = some r) (fun ⟨y4, y5, y6⟩ => ⟨mk 47 [(1, (Ql4 p1)), (2, .ref 0 5 0 0), (6, I y4), (7, I y5), (8, I y6)], [(Qux p0)]⟩) (fun t h => by rw [Qda] at h; cases h) (fun n10 ih t h => ?_) N (0, p0.First, 0) h
    obtain ⟨y4, y5, y6⟩ := t
    rw [Qda] at h
    skip
    refine wsq ?_
    refine wx tbk [(2, rp [(.tmp 18, (Ql4 p1))] (I ((p1.length : Int))))] ⟨alm (c := Qab) (l := p1) (aln rfl Try.underlying37 rfl), trivial⟩ ?_
    rcases bft ((decide (y6 < (p1.length : Int)))) with hc11 | hc11
    ·replace h := Qau hc11 h
     refine wft hc11 (by kernel_rfl) ?_
     refine Qal ?_
     refine thn ?_
     refine wsq ?_
     refine Qai ?_
     refine wsq ?_
     obtain ⟨x12, hg13, h⟩ := bno h
     obtain ⟨hi14, hj15⟩ := gsm hg13
     obtain ⟨x17, hf16, h⟩ := bno h
     refine wxd tbk [(5, rp [(.tmp 26, (Ql4 p1)), (.tmp 27, I y6)] (.dptr (Qab (x12)) 0)), (7, rp [fu 77, (.tmp 23, (Quw p0)), (.tmp 24, I y6), (.tmp 25, I y5), (.tmp 29, I x12)] (B x17))] ⟨aid rfl Try.underlying37 ti3 rfl rfl hi14 (mgt Qab hj15) rfl, apc (first := []) (cap := []) (vs := [(Quw p0), I y6, I y5, I x12]) rfl Qty (Qhl N p0 y6 y5 x12 _ hf16) rfl rfl (nlc (NLt.agg _ (nlc (nld Qaa _) (nlc nll (nlc nll (nlc nll (nlc (nld Qaj _) nl0)))))) (nlc nll (nlc nll (nlc nll nl0)))) nll rfl, trivial⟩ ?_
     rcases bft ((!x17)) with hc18 | hc18
     ·replace h := Qau hc18 h
      refine wft hc18 (by kernel_rfl) ?_
      refine wx tbk [] trivial ?_
      refine Qac ?_
      refine Qar ?_
      refine Qbv ?_
      refine Qar ?_
      refine Qar ?_
      refine Qbv ?_
      refine Qar ?_
      obtain rfl := osi h
      exact fend ⟨[I 0, B false], ⟨rot (by kernel_rfl), rot (by kernel_rfl), trivial⟩, rfl⟩ (NLt.tup _ (nlc nll (nlc nll nl0)))
     ·replace h := Qav hc18 h
      refine wfn hc18 (by kernel_rfl) ?_
      refine Qal ?_
      refine thn ?_
      obtain ⟨x20, hf19, h⟩ := bno h
      refine wxd tbk [(6, rp [(.tmp 36, (Ql4 p1)), (.tmp 37, I y6)] (.dptr (Qab (x12)) 0)), (8, rp [fu 78, (.tmp 33, (Quw p0)), (.tmp 34, I y6), (.tmp 35, I y5), (.tmp 39, I x12)] (I x20))] ⟨aid rfl Try.underlying37 ti3 rfl rfl hi14 (mgt Qab hj15) rfl, apc (first := []) (cap := []) (vs := [(Quw p0), I y6, I y5, I x12]) rfl enter78 (Qll N p0 y6 y5 x12 _ hf19) rfl rfl (nlc (NLt.agg _ (nlc (nld Qaa _) (nlc nll (nlc nll (nlc nll (nlc (nld Qaj _) nl0)))))) (nlc nll (nlc nll (nlc nll nl0)))) nll rfl, trivial⟩ ?_
      refine wx1 tbk [(2, rp [(.tmp 42, (Ql4 p1)), (.tmp 43, I y6)] (.dptr (Qab (x12)) 0))] ⟨aid rfl Try.underlying37 ti3 rfl rfl hi14 (mgt Qab hj15) rfl, trivial⟩ ?_
      refine bln ?_
      refine thn ?_
      refine wx1 tbk [] trivial ?_
      refine thn ?_
      exact arm (mto (n := 47) [(1, (Ql4 p1)), (2, .ref 0 5 0 0), (6, (I (w64 (y4 + x20)))), (7, I x12), (8, (I (w64 (y6 + 1))))] [0] [(Qux p0)] hφ0 (pc (.rn (.plain _ (nld Qaa _))) (pc (.rn (rqr rfl)) (pc rwl (pc rwl (pc rwl pn))))) (qc (spb (lc (.rn (.plain _ (nld Qaa _))) (lc rwl (lc rwl (lc rwl (lc (.rn (.plain _ (nld Qaj _))) ln)))))) qn)) (ih (w64 (y4 + x20), x12, w64 (y6 + 1)) h)
    ·replace h := Qav hc11 h
     refine wfn hc11 (by kernel_rfl) ?_
     refine Qbd ?_
     refine Qas ?_
     refine Qas ?_
     refine Qbc rfl ?_
     refine thn ?_
     exact ⟨(y4), h, (mto (n := 47) [(6, I y4)] [] [] hφ0 (pc rwl pn) qn)⟩
def nesA (m : Nat) : List (List AV) → AV
  | [] => nilS
  | x :: xs => .dat m (x :: xs)
theorem nns {m : Nat} : ∀ l : List Int, NLt 0 (nesA m (l.map Qab))
  | [] => .lit _
  | x :: l => nld Qaa (x :: l)
theorem Less.nes {m : Nat} : ∀ {xs : List (List AV)}, Less (nesA m xs) (.dat m xs)
  | [] => Less.nil
  | _ :: _ => lrf
theorem Less.nes0 {m : Nat} : ∀ {l : List Int}, l.isEmpty = true → Less (nesA m (l.map Qab)) nilS
  | [], _ => lrf
  | _ :: _, h => nomatch (show false = true from h)
theorem Less.accnes {n : Nat} {ty : TypeId} {m : Nat} : ∀ {l : List Int}, (!l.isEmpty) = true → Less (.acc n ty m (l.map Qab)) (nesA m (l.map Qab))
  | [], h => nomatch (show false = true from h)
  | _ :: _, _ => Less.acc
theorem Qsr {P : Program} {o : Oper} {t t' e : TypeId} {x y : Operand} (h : o.op = .binOp .eql t x y t') (ht : P.underlying t = some (.slice e)) :
    Qcu P o [(x, nilS), (y, .lit (.slice none 0 0))] [] (.lit (.bool true)) [] := Qb8 fun X φ ac w hr _ => by
  have h1 : ac.eval x = .slice none 0 0 := Qcg (hr (x, nilS) (by simp))
  have h2 : ac.eval y = .slice none 0 0 := Qcg (hr (y, .lit (.slice none 0 0)) (by simp))
  have hg : (eqGuard .eql t x y (.slice none 0 0) (.slice none 0 0)).run P w = .ok () w := rfl
  exact ⟨_, by simp only [execOp, h, h1, h2, Sem.run_bind, hg, Result.andThen_ok, Lib.run_eql_slice_nil w t e _ _ _ _ _ ht]; rfl, .lit _⟩
def Qcx (N : Nat) (p0 : GJob) (rec_ : (GJob → (List Int) → (List Int) → Int → Option ((List Int) × Int))) (p1 : (List Int)) (y8 : Int) (k12 : (List Int) × Int → Option ((List Int) × Int)) : Nat → (List Int) → Int → Int → Option ((List Int) × Int)
  | 0, _, _, _ => none
  | n19 + 1, y13, y14, y15 =>
    bif (decide (y15 < (p0.Levels.length : Int))) then
     (Qev N p0 (p1.length : Int) y8 y15).bind fun x22 =>
     bif x22 then
      chk (decide ((0 + p1.length) * 8 ≤ 140737488355328)) <|
      chk (decide ((p1.length + ([y15]).length) * 8 ≤ 140737488355328)) <|
      (rec_ p0 (p1 ++ ([y15])) y13 y14).bind fun x27 =>
      Qcx N p0 rec_ p1 y8 k12 n19 x27.1 x27.2 (w64 (y15 + 1))
     else
      Qcx N p0 rec_ p1 y8 k12 n19 y13 y14 (w64 (y15 + 1))
    else
     k12 (y13, y14)
def Qem (N : Nat) (rec_ : GJob → (List Int) → (List Int) → Int → Option ((List Int) × Int)) (p0 : GJob) (p1 : (List Int)) (p2 : (List Int)) (p3 : Int) : Option ((List Int) × Int) :=
  bif ((p1.length : Int) == (p0.Hours.length : Int)) then
   (Qf2 N p0 p1).bind fun x3 =>
   bif x3.2 then
    bif p2.isEmpty then
     chk (!p1.isEmpty) <|
     chk (decide ((0 + p1.length) * 8 ≤ 140737488355328)) <|
     some (p1, x3.1)
    else
    bif (decide (x3.1 > p3)) then
     chk (!p1.isEmpty) <|
     chk (decide ((0 + p1.length) * 8 ≤ 140737488355328)) <|
     some (p1, x3.1)
    else
     some (p2, p3)
   else
    some (p2, p3)
  else
   Qcn (fun y8 =>
     Qcn (fun ⟨y10, y11⟩ =>
       some (y10, y11)) fun k12 : (List Int) × Int → Option ((List Int) × Int) =>
     Qcx N p0 rec_ p1 y8 k12 N p2 p3 0) fun k9 : Int → Option ((List Int) × Int) =>
   bif (decide ((p1.length : Int) > 0)) then
    (getI p1 (w64 ((p1.length : Int) - 1))).bind fun x29 =>
    k9 (x29)
   else
    k9 (p0.First)
def Qd5 : Nat → GJob → (List Int) → (List Int) → Int → Option ((List Int) × Int)
  | 0, _, _, _, _ => none
  | N + 1, p0, p1, p2, p3 => Qem N (Qd5 N) p0 p1 p2 p3
def Qip (p1 : (List Int)) : AV := .dat 1 ((p1 : List Int).map Qab)
def Qyi (p0 : GJob) : AV := .dat 2 ((p0.Hours : List GHour).map Qay)
def Qyj (p0 : GJob) : AV := .dat 1 ((p0.Levels : List Int).map Qab)
def Qnx (p0 : GJob) : AV := .agg [(Qyj p0), (I (p0.Ramp)), (I (p0.Start)), (I (p0.First)), (Qyi p0)]
def Ql3 (p2 : (List Int)) : AV := nesA 1 ((p2 : List Int).map Qab)
def Qpe (p1 : (List Int)) : AV := .acc 1 3 1 ((p1 : List Int).map Qab)
def Qm6 (p0 : GJob) : Slot := .own 5 [[(Qyj p0), (I (p0.Ramp)), (I (p0.Start)), (I (p0.First)), (Qyi p0)]]
def Qms (y13 : (List Int)) : AV := nesA 1 ((y13 : List Int).map Qab)
set_option maxRecDepth 100000 in
set_option maxHeartbeats 4000000 in
theorem Qne : ∀ (N : Nat) (p0 : GJob) (p1 : (List Int)) (p2 : (List Int)) (p3 : Int) (r : ((List Int) × Int)) (_ : Qd5 N p0 p1 p2 p3 = some r), Spec Try.prog 79 [(.agg (Qhb p0)), (.dat 1 (p1.map Qab)), (nesA 1 (p2.map Qab)), (I p3)] [] (.tup [(nesA 1 (r.1.map Qab)), (I r.2)]) [] := by
  intro N
  induction N with
  | zero => intro p0 p1 p2 p3 r h; exact nomatch (show (none : Option ((List Int) × Int)) = some r from h)
  | succ N ihX =>
  intro p0 p1 p2 p3 r h
  replace h : Qem N (Qd5 N) p0 p1 p2 p3 = some r := h
  refine Qae Try.func79 rfl 0 (nle rfl) (fun X φ0 w0 hφ0 => ?_)
  unfold Qem at h
  refine wx tbk [] trivial ?_
  refine wx tbk [(1, rp [(.tmp 15, (Qip p1))] (I ((p1.length : Int))))] ⟨alm (c := Qab) (l := p1) (aln rfl Try.underlying37 rfl), trivial⟩ ?_
  refine wsq ?_
  refine wx tbk [(3, rp [(.tmp 19, (Qyi p0))] (I ((p0.Hours.length : Int))))] ⟨alm (c := Qay) (l := p0.Hours) (aln rfl Try.underlying38 rfl), trivial⟩ ?_
  rcases bft (((p1.length : Int) == (p0.Hours.length : Int))) with hc1 | hc1
  ·replace h := Qau hc1 h
   refine wft hc1 (by kernel_rfl) ?_
   obtain ⟨x3, hf2, h⟩ := bno h
   refine wx tbk [(2, rp [fu 38, (.tmp 23, (Qnx p0)), (.tmp 24, (Qip p1))] (.tup [I x3.1, B x3.2]))] ⟨apc (first := []) (cap := []) (vs := [(Qnx p0), (Qip p1)]) rfl enter38 (Qj4 N p0 p1 _ hf2) rfl rfl (nlc (NLt.agg _ (nlc (nld Qaa _) (nlc nll (nlc nll (nlc nll (nlc (nld Qaj _) nl0)))))) (nlc (nld Qaa _) nl0)) (NLt.tup _ (nlc nll (nlc nll nl0))) rfl, trivial⟩ ?_
   refine wsq ?_
   rcases bft (x3.2) with hb4 | hb4
   ·replace h := Qau hb4 h
    rcases bft (p2.isEmpty) with he | he
    ·replace h := Qau he h
     refine wx tbk [(1, rp [(.tmp 28, B x3.2)] (B true)), (3, rp [(.tmp 29, B true), (.tmp 30, (Ql3 p2)), ((.const (.slice none 0 0)), nilS)] (B true))] ⟨asb hb4 (amv rfl), ag_ (awk (rd' := [(.tmp 30, nilS), ((.const (.slice none 0 0)), nilS)]) ⟨rfl, Less.nes0 he, rfl, lrf, trivial⟩ (Qsr rfl Try.underlying37)), trivial⟩ ?_
     refine Qe3 (by kernel_rfl) ?_
     obtain ⟨hz8, h⟩ := cko h
     obtain ⟨ha7, h⟩ := cko h
     refine wx tbk [(1, ⟨[((.const (.slice none 0 0)), nilS), (.tmp 38, (Qip p1))], [(1, .unused)], (Qpe p1), [(1, .tok)], false⟩)] ⟨Qhd rfl Try.underlying37 te3 (Base.nil) rfl rfl (Ql9 Qab Qoe _) (Qmh Qab ha7) (Qmg Qab ha7 (by decide)) (Qno Qab) rfl rfl, trivial⟩ ?_
     refine Qac ?_
     refine Qar ?_
     refine Qar ?_
     obtain rfl := osi h
     exact fend ⟨[(nesA 1 ((p1 : List Int).map Qab)), I x3.1], ⟨Qf1 (v := (Qpe p1)) (rot (by kernel_rfl)) (Less.accnes hz8), rot (by kernel_rfl), trivial⟩, rfl⟩ (NLt.tup _ (nlc (nns _) (nlc nll nl0)))
    replace h := Qav he h
    have hz5 : (!p2.isEmpty) = true := by rw [he]; rfl
    refine wx tbk [(1, rp [(.tmp 28, B x3.2)] (B true)), (3, rp [(.tmp 29, B true), (.tmp 30, (Ql3 p2)), ((.const (.slice none 0 0)), nilS)] (B false))] ⟨asb hb4 (amv rfl), ag_ (awk (rd' := [(.tmp 30, .dat 1 ((p2 : List Int).map Qab)), ((.const (.slice none 0 0)), nilS)]) ⟨rfl, Less.nes, rfl, lrf, trivial⟩ (Qow rfl Try.underlying37 rfl (Qgm hz5))), trivial⟩ ?_
    rcases bft ((decide (x3.1 > p3))) with hc6 | hc6
    ·replace h := Qau hc6 h
     refine wft hc6 (by kernel_rfl) ?_
     obtain ⟨hz8, h⟩ := cko h
     obtain ⟨ha7, h⟩ := cko h
     refine wx tbk [(1, ⟨[((.const (.slice none 0 0)), nilS), (.tmp 38, (Qip p1))], [(1, .unused)], (Qpe p1), [(1, .tok)], false⟩)] ⟨Qhd rfl Try.underlying37 te3 (Base.nil) rfl rfl (Ql9 Qab Qoe _) (Qmh Qab ha7) (Qmg Qab ha7 (by decide)) (Qno Qab) rfl rfl, trivial⟩ ?_
     refine Qac ?_
     refine Qar ?_
     refine Qar ?_
     obtain rfl := osi h
     exact fend ⟨[(nesA 1 ((p1 : List Int).map Qab)), I x3.1], ⟨Qf1 (v := (Qpe p1)) (rot (by kernel_rfl)) (Less.accnes hz8), rot (by kernel_rfl), trivial⟩, rfl⟩ (NLt.tup _ (nlc (nns _) (nlc nll nl0)))
    ·replace h := Qav hc6 h
     refine wfn hc6 (by kernel_rfl) ?_
     refine Qal ?_
     refine thn ?_
     refine wx tbk [] trivial ?_
     refine Qac ?_
     refine Qar ?_
     obtain rfl := osi h
     exact fend ⟨[(Ql3 p2), I p3], ⟨rot (by kernel_rfl), rot (by kernel_rfl), trivial⟩, rfl⟩ (NLt.tup _ (nlc (nns _) (nlc nll nl0)))
   ·replace h := Qav hb4 h
    refine wx tbk [(1, rp [(.tmp 28, B x3.2)] (B false))] ⟨asb hb4 (amv rfl), trivial⟩ ?_
    refine Qeg (by kernel_rfl) ?_
    refine Qal ?_
    refine thn ?_
    refine wx tbk [] trivial ?_
    refine Qac ?_
    refine Qar ?_
    obtain rfl := osi h
    exact fend ⟨[(Ql3 p2), I p3], ⟨rot (by kernel_rfl), rot (by kernel_rfl), trivial⟩, rfl⟩ (NLt.tup _ (nlc (nns _) (nlc nll nl0)))
  ·replace h := Qav hc1 h
   refine wfn hc1 (by kernel_rfl) ?_
   refine Qal ?_
   refine thn ?_
   refine wx tbk [] trivial ?_
   obtain ⟨k9, hk_k9, h⟩ := jko h
   refine wjn (τ := Int) (fun t => k9 t = some r) (fun y8 => ⟨mk 78 [(1, (Qip p1)), (2, (Ql3 p2)), (3, I p3), (4, .ref 0 5 0 0), (10, (I ((p1.length : Int)))), (13, I y8)], [(Qm6 p0)]⟩) (fun y8 h => ?_) ?_
   ·subst hk_k9
    obtain ⟨k12, hk_k12, h⟩ := jko h
    refine wjn (τ := (List Int) × Int) (fun t => k12 t = some r) (fun ⟨y10, y11⟩ => ⟨mk 78 [(2, (nesA 1 ((y10 : List Int).map Qab))), (3, I y11)], []⟩) (fun t h => ?_) ?_
    ·subst hk_k12
     obtain ⟨y10, y11⟩ := t
     refine wx tbk [] trivial ?_
     refine Qac ?_
     obtain rfl := osi h
     exact fend ⟨[(nesA 1 ((y10 : List Int).map Qab)), I y11], ⟨rot (by kernel_rfl), rot (by kernel_rfl), trivial⟩, rfl⟩ (NLt.tup _ (nlc (nns _) (nlc nll nl0)))
    ·skip
     refine wx tbk [] trivial ?_
     refine Qai ?_
     refine wmr (mto (n := 78) (hmask := by generalize p2 = q; cases q <;> kernel_rfl) (l' := [(1, (Qip p1)), (2, (Ql3 p2)), (3, I p3), (4, .ref 0 5 0 0), (10, (I ((p1.length : Int)))), (13, I y8), (14, I 0)]) (own' := [(Qm6 p0)]) [(1, (Qip p1)), (2, (Ql3 p2)), (3, I p3), (4, .ref 0 5 0 0), (10, (I ((p1.length : Int)))), (13, I y8), (14, I 0)] [0] [(Qm6 p0)] hφ0 (pc (.rn (.plain _ (nld Qaa _))) (pc (.rn (.plain _ (nns _))) (pc rwl (pc (.rn (rqr rfl)) (pc rwl (pc rwl (pc rwl pn))))))) (qc (spb (lc (.rn (.plain _ (nld Qaa _))) (lc rwl (lc rwl (lc rwl (lc (.rn (.plain _ (nld Qaj _))) ln)))))) qn)) ?_
     refine Qby (τ := (List Int) × Int × Int) (fun n t => Qcx N p0 (Qd5 N) p1 y8 k12 n t.1 t.2.1 t.2.2 = some r) (fun ⟨y13, y14, y15⟩ => ⟨mk 78 [(1, (Qip p1)), (2, (Qms y13)), (3, I y14), (4, .ref 0 5 0 0), (10, (I ((p1.length : Int)))), (13, I y8), (14, I y15)], [(Qm6 p0)]⟩) (fun t h => by rw [Qcx] at h; cases h) (fun n19 ih t h => ?_) N (p2, p3, 0) h
     obtain ⟨y13, y14, y15⟩ := t
     rw [Qcx] at h
     skip
     refine wsq ?_
     refine wx tbk [(3, rp [(.tmp 54, (Qyj p0))] (I ((p0.Levels.length : Int))))] ⟨alm (c := Qab) (l := p0.Levels) (aln rfl Try.underlying37 rfl), trivial⟩ ?_
     rcases bft ((decide (y15 < (p0.Levels.length : Int)))) with hc20 | hc20
     ·replace h := Qau hc20 h
      refine wft hc20 (by kernel_rfl) ?_
      refine Qal ?_
      refine thn ?_
      refine wsq ?_
      refine Qai ?_
      obtain ⟨x22, hf21, h⟩ := bno h
      refine wx tbk [(4, rp [fu 77, (.tmp 59, (Qnx p0)), (.tmp 60, (I ((p1.length : Int)))), (.tmp 61, I y8), (.tmp 62, I y15)] (B x22))] ⟨apc (first := []) (cap := []) (vs := [(Qnx p0), (I ((p1.length : Int))), I y8, I y15]) rfl Qty (Qhl N p0 (p1.length : Int) y8 y15 _ hf21) rfl rfl (nlc (NLt.agg _ (nlc (nld Qaa _) (nlc nll (nlc nll (nlc nll (nlc (nld Qaj _) nl0)))))) (nlc nll (nlc nll (nlc nll nl0)))) nll rfl, trivial⟩ ?_
      rcases bft (x22) with hc23 | hc23
      ·replace h := Qau hc23 h
       refine wft hc23 (by kernel_rfl) ?_
       obtain ⟨ha24, h⟩ := cko h
       obtain ⟨ha25, h⟩ := cko h
       obtain ⟨x27, hf26, h⟩ := bno h
       refine wy1 tbk [(2, ⟨[((.const (.slice none 0 0)), nilS), (.tmp 66, (Qip p1))], [(1, .unused)], (Qpe p1), [(1, .tok)], false⟩), (4, rp [(.tmp 68, I y15)] (.dat 1 (([y15] : List Int).map Qab))), (5, ⟨[(.tmp 67, (Qpe p1)), (.tmp 69, (.dat 1 (([y15] : List Int).map Qab)))], [(1, .tok), (2, .unused)], (.acc 2 3 1 ((p1 ++ ([y15]) : List Int).map Qab)), [(1, .dead), (2, .tok)], false⟩), (8, rp [fu 79, (.tmp 65, (Qnx p0)), (.tmp 70, (.acc 2 3 1 ((p1 ++ ([y15]) : List Int).map Qab))), (.tmp 71, (Qms y13)), (.tmp 72, I y14)] (.tup [(nesA 1 ((x27.1 : List Int).map Qab)), I x27.2]))] ⟨Qhd rfl Try.underlying37 te3 (Base.nil) rfl rfl (Ql9 Qab Qoe _) (Qmh Qab ha24) (Qmg Qab ha24 (by decide)) (Qno Qab) rfl rfl, Qcq (vs := [I y15]) rfl Try.underlying37 ti3 tz3 rfl (by decide) rfl (by decide) (by rfl) (by rfl) (by rfl) rfl, Qhd rfl Try.underlying37 te3 (Base.acc _ _) rfl rfl (by rfl) (Qo0 Qab ha25) (Qoz Qab ha25 (by decide)) (Qoy Qab) rfl rfl, awk (rd' := (.func 79, (.fn (.func 79) [] [])) :: [(.tmp 65, (Qnx p0)), (.tmp 70, (.dat 1 ((p1 ++ ([y15]) : List Int).map Qab))), (.tmp 71, (Qms y13)), (.tmp 72, I y14)]) ⟨rfl, lrf, rfl, lrf, rfl, Less.acc, rfl, lrf, rfl, lrf, trivial⟩ (apc (first := []) (cap := []) (vs := [(Qnx p0), (.dat 1 ((p1 ++ ([y15]) : List Int).map Qab)), (Qms y13), I y14]) rfl enter79 (ihX p0 (p1 ++ ([y15])) y13 y14 _ hf26) rfl rfl (nlc (NLt.agg _ (nlc (nld Qaa _) (nlc nll (nlc nll (nlc nll (nlc (nld Qaj _) nl0)))))) (nlc (nld Qaa _) (nlc (nns _) (nlc nll nl0)))) (NLt.tup _ (nlc (nns _) (nlc nll nl0))) rfl), trivial⟩ ?_
       refine bln ?_
       refine thn ?_
       refine wx1 tbk [] trivial ?_
       refine thn ?_
       exact arm (mto (n := 78) (hmask := by generalize x27.1 = q; cases q <;> kernel_rfl) [(1, (Qip p1)), (2, (nesA 1 ((x27.1 : List Int).map Qab))), (3, I x27.2), (4, .ref 0 5 0 0), (10, (I ((p1.length : Int)))), (13, I y8), (14, (I (w64 (y15 + 1))))] [0] [(Qm6 p0)] hφ0 (pc (.rn (.plain _ (nld Qaa _))) (pc (.rn (.plain _ (nns _))) (pc rwl (pc (.rn (rqr rfl)) (pc rwl (pc rwl (pc rwl pn))))))) (qc (spb (lc (.rn (.plain _ (nld Qaa _))) (lc rwl (lc rwl (lc rwl (lc (.rn (.plain _ (nld Qaj _))) ln)))))) qn)) (ih (x27.1, x27.2, w64 (y15 + 1)) h)
      ·replace h := Qav hc23 h
       refine wfn hc23 (by kernel_rfl) ?_
       refine Qal ?_
       refine bln ?_
       refine thn ?_
       refine wx1 tbk [] trivial ?_
       refine thn ?_
       exact arm (mto (n := 78) (hmask := by generalize y13 = q; cases q <;> kernel_rfl) [(1, (Qip p1)), (2, (Qms y13)), (3, I y14), (4, .ref 0 5 0 0), (10, (I ((p1.length : Int)))), (13, I y8), (14, (I (w64 (y15 + 1))))] [0] [(Qm6 p0)] hφ0 (pc (.rn (.plain _ (nld Qaa _))) (pc (.rn (.plain _ (nns _))) (pc rwl (pc (.rn (rqr rfl)) (pc rwl (pc rwl (pc rwl pn))))))) (qc (spb (lc (.rn (.plain _ (nld Qaa _))) (lc rwl (lc rwl (lc rwl (lc (.rn (.plain _ (nld Qaj _))) ln)))))) qn)) (ih (y13, y14, w64 (y15 + 1)) h)
     ·replace h := Qav hc20 h
      refine wfn hc20 (by kernel_rfl) ?_
      refine Qbd ?_
      refine Qas ?_
      refine Qas ?_
      refine Qbc rfl ?_
      refine thn ?_
      exact ⟨(y13, y14), h, (mto (n := 78) (hmask := by generalize y13 = q; cases q <;> kernel_rfl) [(2, (Qms y13)), (3, I y14)] [] [] hφ0 (pc (.rn (.plain _ (nns _))) (pc rwl pn)) qn)⟩
   ·skip
    refine wx tbk [] trivial ?_
    rcases bft ((decide ((p1.length : Int) > 0))) with hc28 | hc28
    ·replace h := Qau hc28 h
     refine wft hc28 (by kernel_rfl) ?_
     obtain ⟨x29, hg30, h⟩ := bno h
     obtain ⟨hi31, hj32⟩ := gsm hg30
     refine wx1 tbk [(3, rp [(.tmp 47, (Qip p1)), (.tmp 49, (I (w64 ((p1.length : Int) - 1))))] (.dptr (Qab (x29)) 0))] ⟨aid rfl Try.underlying37 ti3 rfl rfl hi31 (mgt Qab hj32) rfl, trivial⟩ ?_
     refine thn ?_
     exact ⟨(x29), h, (mto (n := 78) (hmask := by generalize p2 = q; cases q <;> kernel_rfl) [(1, (Qip p1)), (2, (Ql3 p2)), (3, I p3), (4, .ref 0 5 0 0), (10, (I ((p1.length : Int)))), (13, I x29)] [0] [(Qm6 p0)] hφ0 (pc (.rn (.plain _ (nld Qaa _))) (pc (.rn (.plain _ (nns _))) (pc rwl (pc (.rn (rqr rfl)) (pc rwl (pc rwl pn)))))) (qc (spb (lc (.rn (.plain _ (nld Qaa _))) (lc rwl (lc rwl (lc rwl (lc (.rn (.plain _ (nld Qaj _))) ln)))))) qn))⟩
    ·replace h := Qav hc28 h
     refine wfn hc28 (by kernel_rfl) ?_
     refine Qal ?_
     refine thn ?_
     exact ⟨(p0.First), h, (mto (n := 78) (hmask := by generalize p2 = q; cases q <;> kernel_rfl) [(1, (Qip p1)), (2, (Ql3 p2)), (3, I p3), (4, .ref 0 5 0 0), (10, (I ((p1.length : Int)))), (13, I p0.First)] [0] [(Qm6 p0)] hφ0 (pc (.rn (.plain _ (nld Qaa _))) (pc (.rn (.plain _ (nns _))) (pc rwl (pc (.rn (rqr rfl)) (pc rwl (pc rwl pn)))))) (qc (spb (lc (.rn (.plain _ (nld Qaa _))) (lc rwl (lc rwl (lc rwl (lc (.rn (.plain _ (nld Qaj _))) ln)))))) qn))⟩
def Qit (N : Nat) (p0 : GJob) : Option ((List Int) × Int) :=
  (Qd5 N p0 ([]) ([]) 0).bind fun x2 =>
  some (x2.1, x2.2)
def Qyk (p0 : GJob) : AV := .agg [(.dat 1 ((p0.Levels : List Int).map Qab)), (I (p0.Ramp)), (I (p0.Start)), (I (p0.First)), (.dat 2 ((p0.Hours : List GHour).map Qay))]
def z140_4 : AV := .dat 1 (([] : List Int).map Qab)
set_option maxRecDepth 100000 in
set_option maxHeartbeats 4000000 in
theorem Qo3 (N : Nat) (p0 : GJob) (r : ((List Int) × Int)) (h : Qit N p0 = some r) : Spec Try.prog 39 [(.agg (Qhb p0))] [] (.tup [(.dat 1 (r.1.map Qab)), (I r.2)]) [] := by
  refine Qae Try.func39 rfl 0 (nle rfl) (fun X φ0 w0 hφ0 => ?_)
  unfold Qit at h
  refine wx tbk [] trivial ?_
  obtain ⟨x2, hf1, h⟩ := bno h
  refine wx tbk [(1, rp [fu 79, (.tmp 4, (Qyk p0)), ((.const (.slice none 0 0)), nilS), ((.const (.slice none 0 0)), nilS), ci 0] (.tup [(nesA 1 ((x2.1 : List Int).map Qab)), I x2.2]))] ⟨awk (rd' := (.func 79, (.fn (.func 79) [] [])) :: [(.tmp 4, (Qyk p0)), ((.const (.slice none 0 0)), z140_4), ((.const (.slice none 0 0)), nilS), (.const (.int .i64 0), I 0)]) ⟨rfl, lrf, rfl, lrf, rfl, Less.nil, rfl, lrf, rfl, lrf, trivial⟩ (apc (first := []) (cap := []) (vs := [(Qyk p0), z140_4, nilS, I 0]) rfl enter79 (Qne N p0 ([]) ([]) 0 _ hf1) rfl rfl (nlc (NLt.agg _ (nlc (nld Qaa _) (nlc nll (nlc nll (nlc nll (nlc (nld Qaj _) nl0)))))) (nlc (nld Qaa _) (nlc nll (nlc nll nl0)))) (NLt.tup _ (nlc (nns _) (nlc nll nl0))) rfl), trivial⟩ ?_
  refine Qac ?_
  obtain rfl := osi h
  exact fend ⟨[(.dat 1 ((x2.1 : List Int).map Qab)), I x2.2], ⟨Qf1 (v := nesA 1 ((x2.1 : List Int).map Qab)) (rot (by kernel_rfl)) Less.nes, rot (by kernel_rfl), trivial⟩, rfl⟩ (NLt.tup _ (nlc (nld Qaa _) (nlc nll nl0)))
def Qh0 (N : Nat) (p0 : GJob) : Option Bool :=
  bif (decide ((p0.Levels.length : Int) ≤ 15)) then
   bif (decide ((p0.Hours.length : Int) ≤ 103)) then
    (Qe6 N p0).bind fun x4 =>
    bif (!x4) then
     some true
    else
     bif (decide ((p0.Hours.length : Int) ≤ 5)) then
      some (decide ((p0.Levels.length : Int) ≤ 5))
     else
      some false
   else
    some false
  else
   some false
def Qnw (p0 : GJob) : AV := .dat 1 ((p0.Levels : List Int).map Qab)
def Qnv (p0 : GJob) : AV := .dat 2 ((p0.Hours : List GHour).map Qay)
def Qpd (p0 : GJob) : AV := .agg [(Qnw p0), (I (p0.Ramp)), (I (p0.Start)), (I (p0.First)), (Qnv p0)]
set_option maxRecDepth 100000 in
set_option maxHeartbeats 4000000 in
theorem Qky (N : Nat) (p0 : GJob) (r : Bool) (h : Qh0 N p0 = some r) : Spec Try.prog 35 [(.agg (Qhb p0))] [] (B r) [] := by
  refine Qae Try.func35 rfl 0 (nle rfl) (fun X φ0 w0 hφ0 => ?_)
  unfold Qh0 at h
  refine wx tbk [] trivial ?_
  rcases bft ((decide ((p0.Levels.length : Int) ≤ 15))) with hb1 | hb1
  ·replace h := Qau hb1 h
   rcases bft ((decide ((p0.Hours.length : Int) ≤ 103))) with hb2 | hb2
   ·replace h := Qau hb2 h
    obtain ⟨x4, hf3, h⟩ := bno h
    rcases bft ((!x4)) with hb5 | hb5
    ·replace h := Qau hb5 h
     refine wx tbk [(2, rp [(.tmp 4, (Qnw p0))] (I ((p0.Levels.length : Int)))), (4, rp [(.tmp 6, (B ((decide ((p0.Levels.length : Int) ≤ 15)))))] (B true)), (7, rp [(.tmp 7, B true), (.tmp 9, (Qnv p0))] (I ((p0.Hours.length : Int)))), (10, rp [(.tmp 12, (B ((decide ((p0.Hours.length : Int) ≤ 103)))))] (B true)), (12, rp [(.tmp 13, B true), fu 20, (.tmp 14, (Qpd p0))] (B x4)), (14, rp [(.tmp 13, B true), (.tmp 16, (B ((!x4))))] (B true))] ⟨alm (c := Qab) (l := p0.Levels) (aln rfl Try.underlying37 rfl), asb hb1 (amv rfl), ag_ (alm (c := Qay) (l := p0.Hours) (aln rfl Try.underlying38 rfl)), asb hb2 (amv rfl), ag_ (apc (first := []) (cap := []) (vs := [(Qpd p0)]) rfl Qqt (Qfo N p0 _ hf3) rfl rfl (nlc (NLt.agg _ (nlc (nld Qaa _) (nlc nll (nlc nll (nlc nll (nlc (nld Qaj _) nl0)))))) nl0) nll rfl), asb hb5 (ag_ (amv rfl)), trivial⟩ ?_
     refine Qac ?_
     obtain rfl := osi h
     exact fend ⟨[B true], ⟨rot (by kernel_rfl), trivial⟩, rfl⟩ nll
    ·replace h := Qav hb5 h
     rcases bft ((decide ((p0.Hours.length : Int) ≤ 5))) with hb6 | hb6
     ·replace h := Qau hb6 h
      refine wx tbk [(2, rp [(.tmp 4, (Qnw p0))] (I ((p0.Levels.length : Int)))), (4, rp [(.tmp 6, (B ((decide ((p0.Levels.length : Int) ≤ 15)))))] (B true)), (7, rp [(.tmp 7, B true), (.tmp 9, (Qnv p0))] (I ((p0.Hours.length : Int)))), (10, rp [(.tmp 12, (B ((decide ((p0.Hours.length : Int) ≤ 103)))))] (B true)), (12, rp [(.tmp 13, B true), fu 20, (.tmp 14, (Qpd p0))] (B x4)), (14, rp [(.tmp 13, B true), (.tmp 16, (B ((!x4))))] (B false)), (17, rp [(.tmp 17, B false), (.tmp 19, (Qnv p0))] (I ((p0.Hours.length : Int)))), (19, rp [(.tmp 17, B false), (.tmp 21, (B ((decide ((p0.Hours.length : Int) ≤ 5)))))] (B true)), (22, rp [(.tmp 22, B true), (.tmp 24, (Qnw p0))] (I ((p0.Levels.length : Int))))] ⟨alm (c := Qab) (l := p0.Levels) (aln rfl Try.underlying37 rfl), asb hb1 (amv rfl), ag_ (alm (c := Qay) (l := p0.Hours) (aln rfl Try.underlying38 rfl)), asb hb2 (amv rfl), ag_ (apc (first := []) (cap := []) (vs := [(Qpd p0)]) rfl Qqt (Qfo N p0 _ hf3) rfl rfl (nlc (NLt.agg _ (nlc (nld Qaa _) (nlc nll (nlc nll (nlc nll (nlc (nld Qaj _) nl0)))))) nl0) nll rfl), asb hb5 (ag_ (amv rfl)), ag_ (alm (c := Qay) (l := p0.Hours) (aln rfl Try.underlying38 rfl)), asb hb6 (ag_ (amv rfl)), ag_ (alm (c := Qab) (l := p0.Levels) (aln rfl Try.underlying37 rfl)), trivial⟩ ?_
      refine Qac ?_
      obtain rfl := osi h
      exact fend ⟨[(B ((decide ((p0.Levels.length : Int) ≤ 5))))], ⟨rot (by kernel_rfl), trivial⟩, rfl⟩ nll
     ·replace h := Qav hb6 h
      refine wx tbk [(2, rp [(.tmp 4, (Qnw p0))] (I ((p0.Levels.length : Int)))), (4, rp [(.tmp 6, (B ((decide ((p0.Levels.length : Int) ≤ 15)))))] (B true)), (7, rp [(.tmp 7, B true), (.tmp 9, (Qnv p0))] (I ((p0.Hours.length : Int)))), (10, rp [(.tmp 12, (B ((decide ((p0.Hours.length : Int) ≤ 103)))))] (B true)), (12, rp [(.tmp 13, B true), fu 20, (.tmp 14, (Qpd p0))] (B x4)), (14, rp [(.tmp 13, B true), (.tmp 16, (B ((!x4))))] (B false)), (17, rp [(.tmp 17, B false), (.tmp 19, (Qnv p0))] (I ((p0.Hours.length : Int)))), (19, rp [(.tmp 17, B false), (.tmp 21, (B ((decide ((p0.Hours.length : Int) ≤ 5)))))] (B false))] ⟨alm (c := Qab) (l := p0.Levels) (aln rfl Try.underlying37 rfl), asb hb1 (amv rfl), ag_ (alm (c := Qay) (l := p0.Hours) (aln rfl Try.underlying38 rfl)), asb hb2 (amv rfl), ag_ (apc (first := []) (cap := []) (vs := [(Qpd p0)]) rfl Qqt (Qfo N p0 _ hf3) rfl rfl (nlc (NLt.agg _ (nlc (nld Qaa _) (nlc nll (nlc nll (nlc nll (nlc (nld Qaj _) nl0)))))) nl0) nll rfl), asb hb5 (ag_ (amv rfl)), ag_ (alm (c := Qay) (l := p0.Hours) (aln rfl Try.underlying38 rfl)), asb hb6 (ag_ (amv rfl)), trivial⟩ ?_
      refine Qac ?_
      obtain rfl := osi h
      exact fend ⟨[B false], ⟨rot (by kernel_rfl), trivial⟩, rfl⟩ nll
   ·replace h := Qav hb2 h
    refine wx tbk [(2, rp [(.tmp 4, (Qnw p0))] (I ((p0.Levels.length : Int)))), (4, rp [(.tmp 6, (B ((decide ((p0.Levels.length : Int) ≤ 15)))))] (B true)), (7, rp [(.tmp 7, B true), (.tmp 9, (Qnv p0))] (I ((p0.Hours.length : Int)))), (10, rp [(.tmp 12, (B ((decide ((p0.Hours.length : Int) ≤ 103)))))] (B false))] ⟨alm (c := Qab) (l := p0.Levels) (aln rfl Try.underlying37 rfl), asb hb1 (amv rfl), ag_ (alm (c := Qay) (l := p0.Hours) (aln rfl Try.underlying38 rfl)), asb hb2 (amv rfl), trivial⟩ ?_
    refine Qac ?_
    obtain rfl := osi h
    exact fend ⟨[B false], ⟨rot (by kernel_rfl), trivial⟩, rfl⟩ nll
  ·replace h := Qav hb1 h
   refine wx tbk [(2, rp [(.tmp 4, (Qnw p0))] (I ((p0.Levels.length : Int)))), (4, rp [(.tmp 6, (B ((decide ((p0.Levels.length : Int) ≤ 15)))))] (B false))] ⟨alm (c := Qab) (l := p0.Levels) (aln rfl Try.underlying37 rfl), asb hb1 (amv rfl), trivial⟩ ?_
   refine Qac ?_
   obtain rfl := osi h
   exact fend ⟨[B false], ⟨rot (by kernel_rfl), trivial⟩, rfl⟩ nll
end Go.Proofs.Ytlhakkkjgdbdpaa
