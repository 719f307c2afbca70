/-
  Functions of the program: what they compute, as plain functions, and that they do. No conditions.
-/
import Derived.Test.YtlhakkkjgdbdpaaX6
namespace Go.Proofs.Ytlhakkkjgdbdpaa
open Go.RowKit
def Qek (N : Nat) (p0 : GJob) (k4 : (List GHour) → Option GJob) : Nat → Int → (List GHour) → Option GJob
  | 0, _, _ => none
  | n9 + 1, y5, y6 =>
    bif (decide (y5 < (p0.Hours.length : Int))) then
     (getI p0.Hours y5).bind fun x11 =>
     chk (decide ((y6.length + ([x11]).length) * 16 ≤ 140737488355328)) <|
     Qek N p0 k4 n9 (w64 (y5 + 1)) (y6 ++ ([x11]))
    else
     k4 (y6)
def Qkf (N : Nat) (p0 : GJob) : Option GJob :=
  (Qf5 N p0.Levels).bind fun x2 =>
  Qb0 (fun y3 =>
    some (⟨x2, p0.Ramp, p0.Start, p0.First, y3⟩ : GJob)) fun k4 : (List GHour) → Option GJob =>
  Qek N p0 k4 N 0 ([])
def z125_0 (p0 : GJob) : AV := .dat 1 ((p0.Levels : List Int).map Qab)
def Qjx (x2 : (List Int)) : AV := .dat 1 ((x2 : List Int).map Qab)
def Qqx : Slot := .own 5 [[nilS, (I (0)), (I (0)), (I (0)), nilS]]
def Qve (y3 : (List GHour)) : AV := .acc 2 50 2 ((y3 : List GHour).map Qax)
def Qwo (p0 : GJob) : AV := .dat 2 ((p0.Hours : List GHour).map Qax)
def Qwn (p0 : GJob) : Slot := .own 5 [[(z125_0 p0), (I (p0.Ramp)), (I (p0.Start)), (I (p0.First)), (Qwo p0)]]
def Qvd (y6 : (List GHour)) : AV := .acc 3 50 2 ((y6 : List GHour).map Qax)
def Qvc (x11 : GHour) : AV := .agg [(I (x11.Price)), (I (x11.Most))]
set_option maxRecDepth 100000 in
set_option maxHeartbeats 4000000 in
theorem Qnj (N : Nat) (p0 : GJob) (r : GJob) (h : Qkf N p0 = some r) : Spec Try.prog 22 [(.agg (Qhk p0))] [] (.agg (Qhk r)) [] := by
  refine Qae Try.func22 rfl 0 (nle rfl) (fun X φ0 w0 hφ0 => ?_)
  unfold Qkf at h
  refine wx tbk [] trivial ?_
  obtain ⟨x2, hf1, h⟩ := bno h
  refine wxd tbk [(2, rp [fu 37, (.tmp 6, (z125_0 p0))] (Qjx x2)), (9, rp [(.tmp 7, (Qjx x2)), (.tmp 9, I p0.Ramp), (.tmp 11, I p0.Start), (.tmp 13, I p0.First)] (.agg [(Qjx x2), I p0.Ramp, I p0.Start, I p0.First, nilS]))] ⟨apc (first := []) (cap := []) (vs := [(z125_0 p0)]) rfl Qse (Qic N p0.Levels _ hf1) rfl rfl (nlc (nld Qaa _) nl0) (nld Qaa _) rfl, Qbt (vs := [(Qjx x2), I p0.Ramp, I p0.Start, I p0.First]) rfl ts47 tz47 rfl (by rfl) rfl, trivial⟩ ?_
  obtain ⟨k4, hk_k4, h⟩ := jko h
  refine wjn (τ := (List GHour)) (fun t => k4 t = some r) (fun y3 => ⟨mk 41 [(2, .ref 0 5 0 0), (3, .ref 1 5 0 0)], [Qqx, (.own 5 [[(Qjx x2), I p0.Ramp, I p0.Start, I p0.First, (Qve y3)]]), .tok]⟩) (fun y3 h => ?_) ?_
  ·subst hk_k4
   refine wx tbk [] trivial ?_
   refine Qad ?_
   obtain rfl := osi h
   exact fend ⟨[(.agg [(Qjx x2), I p0.Ramp, I p0.Start, I p0.First, (.dat 2 ((y3 : List GHour).map Qax))])], ⟨Qga (v := (.agg [(Qjx x2), I p0.Ramp, I p0.Start, I p0.First, (Qve y3)])) (Qgb (n := 0) (m := 5) (j := 0) (i := 0) (xs := [[(Qjx x2), I p0.Ramp, I p0.Start, I p0.First, (Qve y3)]]) (by kernel_rfl) (by kernel_rfl) ti47 (by decide) rfl (nle rfl) rfl) (Less.agg ⟨lrf, lrf, lrf, lrf, Less.acc, trivial⟩), trivial⟩, rfl⟩ (NLt.agg _ (nlc (nld Qaa _) (nlc nll (nlc nll (nlc nll (nlc (nld Qac _) nl0))))))
  ·skip
   refine wx tbk [] trivial ?_
   refine Qaf ?_
   refine wmr (Mor.trans (mor_nilb (n := 3) (ty := 50) (m := 2) (q := 2) (mq := 5) (c := [(Qjx x2), I p0.Ramp, I p0.Start, I p0.First, nilS]) 4 (by kernel_rfl) (by kernel_rfl) (by kernel_rfl) (by decide)) (mto (n := 41) (l' := [(1, .ref 0 5 0 0), (2, .ref 1 5 0 0), (3, .ref 2 5 0 0), (4, I 0)]) (own' := [(Qwn p0), Qqx, (.own 5 [[(Qjx x2), I p0.Ramp, I p0.Start, I p0.First, (.acc 3 50 2 ((([]) : List GHour).map Qax))]]), .tok]) [(1, .ref 0 5 0 0), (2, .ref 1 5 0 0), (3, .ref 2 5 0 0), (4, I 0)] [0, 1, 2, 3] [(Qwn p0), Qqx, (.own 5 [[(Qjx x2), I p0.Ramp, I p0.Start, I p0.First, (.acc 3 50 2 (([] : List GHour).map Qax))]]), .tok] hφ0 (pc (.rn (rqr rfl)) (pc (.rn (rqr rfl)) (pc (.rn (rqr rfl)) (pc rwl pn)))) (qc (spb (lc (.rn (.plain _ (nld Qaa _))) (lc rwl (lc rwl (lc rwl (lc (.rn (.plain _ (nld Qac _))) ln)))))) (qc (spb (lc rwl (lc rwl (lc rwl (lc rwl (lc rwl ln)))))) (qc (spb (lc (.rn (.plain _ (nld Qaa _))) (lc rwl (lc rwl (lc rwl (lc (.rn (Qg9 rfl (Qfm Qac _))) ln)))))) (qc .tok qn)))))) ?_
   refine Qbk (τ := Int × (List GHour)) (fun n t => Qek N p0 k4 n t.1 t.2 = some r) (fun ⟨y5, y6⟩ => ⟨mk 41 [(1, .ref 0 5 0 0), (2, .ref 1 5 0 0), (3, .ref 2 5 0 0), (4, I y5)], [(Qwn p0), Qqx, (.own 5 [[(Qjx x2), I p0.Ramp, I p0.Start, I p0.First, (Qvd y6)]]), .tok]⟩) (fun t h => by rw [Qek] at h; cases h) (fun n9 ih t h => ?_) N (0, []) h
   obtain ⟨y5, y6⟩ := t
   rw [Qek] at h
   skip
   refine wsq ?_
   refine wx tbk [(3, rp [(.tmp 17, (Qwo p0))] (I ((p0.Hours.length : Int))))] ⟨alm (c := Qax) (l := p0.Hours) (aln rfl Try.underlying38 rfl), trivial⟩ ?_
   rcases bft ((decide (y5 < (p0.Hours.length : Int)))) with hc10 | hc10
   ·replace h := Qas hc10 h
    refine wft hc10 (by kernel_rfl) ?_
    refine Qai ?_
    refine thn ?_
    refine wsq ?_
    refine Qaf ?_
    obtain ⟨x11, hg12, h⟩ := bno h
    obtain ⟨hi13, hj14⟩ := gsm hg12
    obtain ⟨ha15, h⟩ := cko h
    refine wy1 tbk [(5, rp [(.tmp 25, (Qwo p0)), (.tmp 26, I y5)] (.dptr (Qax (x11)) 0)), (11, rp [(.tmp 31, (Qwo p0)), (.tmp 32, I y5)] (.dptr (Qax (x11)) 0)), (14, rp [(.tmp 29, I x11.Price), (.tmp 35, I x11.Most)] (Qvc x11)), (15, rp [(.tmp 36, (Qvc x11))] (.dat 2 (([x11] : List GHour).map Qax))), (16, ⟨[(.tmp 23, (Qvd y6)), (.tmp 37, (.dat 2 (([x11] : List GHour).map Qax)))], [(3, .tok), (4, .unused)], (.acc 4 50 2 ((y6 ++ ([x11]) : List GHour).map Qax)), [(3, .dead), (4, .tok)], false⟩)] ⟨aid rfl Try.underlying38 Qth rfl rfl hi13 (mgt Qax hj14) rfl, aid rfl Try.underlying38 Qth rfl rfl hi13 (mgt Qax hj14) rfl, Qbt (vs := [I x11.Price, I x11.Most]) rfl ts50 tz50 rfl (by rfl) rfl, Qct (vs := [(Qvc x11)]) rfl Try.underlying45 ti50 tz50 rfl (by decide) rfl (by decide) (by rfl) (by rfl) (by rfl) rfl, Qg4 rfl Try.underlying45 te50 (Base.acc _ _) rfl rfl (by rfl) (Qoj Qax ha15) (Qoi Qax ha15 (by decide)) (Qoh Qax) rfl rfl, trivial⟩ ?_
    refine bln ?_
    refine thn ?_
    refine wx1 tbk [] trivial ?_
    refine thn ?_
    exact arm (mto (n := 41) [(1, .ref 0 5 0 0), (2, .ref 1 5 0 0), (3, .ref 2 5 0 0), (4, (I (w64 (y5 + 1))))] [0, 1, 2, 4] [(Qwn p0), Qqx, (.own 5 [[(Qjx x2), I p0.Ramp, I p0.Start, I p0.First, (.acc 4 50 2 ((y6 ++ ([x11]) : List GHour).map Qax))]]), .tok] hφ0 (pc (.rn (rqr rfl)) (pc (.rn (rqr rfl)) (pc (.rn (rqr rfl)) (pc rwl pn)))) (qc (spb (lc (.rn (.plain _ (nld Qaa _))) (lc rwl (lc rwl (lc rwl (lc (.rn (.plain _ (nld Qac _))) ln)))))) (qc (spb (lc rwl (lc rwl (lc rwl (lc rwl (lc rwl ln)))))) (qc (spb (lc (.rn (.plain _ (nld Qaa _))) (lc rwl (lc rwl (lc rwl (lc (.rn (Qg9 rfl (Qfm Qac _))) ln)))))) (qc .tok qn))))) (ih (w64 (y5 + 1), y6 ++ ([x11])) h)
   ·replace h := Qat hc10 h
    refine wfn hc10 (by kernel_rfl) ?_
    refine Qa2 ?_
    refine Qaq ?_
    refine Qaq ?_
    refine Qa1 rfl ?_
    refine thn ?_
    exact ⟨(y6), h, (mto (n := 41) [(2, .ref 1 5 0 0), (3, .ref 2 5 0 0)] [1, 2, 3] [Qqx, (.own 5 [[(Qjx x2), I p0.Ramp, I p0.Start, I p0.First, (Qvd y6)]]), .tok] hφ0 (pc (.rn (rqr rfl)) (pc (.rn (rqr rfl)) pn)) (qc (spb (lc rwl (lc rwl (lc rwl (lc rwl (lc rwl ln)))))) (qc (spb (lc (.rn (.plain _ (nld Qaa _))) (lc rwl (lc rwl (lc rwl (lc (.rn (Qg9 rfl (Qfm Qac _))) ln)))))) (qc .tok qn))))⟩
def Qcs (N : Nat) (p0 : GJob) (k2 : Unit → Option Bool) : Nat → Int → Option Bool
  | 0, _ => none
  | n17 + 1, y15 =>
    bif (decide (y15 < (p0.Hours.length : Int))) then
     (getI p0.Hours y15).bind fun x19 =>
     (Qez N x19.Price (-1000) 1000).bind fun x24 =>
     bif (!x24) then
      some false
     else
      (Qez N x19.Most 0 1000000).bind fun x27 =>
      bif (!x27) then
       some false
      else
       Qcs N p0 k2 n17 (w64 (y15 + 1))
    else
     k2 ()
def Qb3 (N : Nat) (p0 : GJob) (k1 : Unit → Option Bool) : Nat → Int → Option Bool
  | 0, _ => none
  | n31 + 1, y29 =>
    bif (decide (y29 < (p0.Levels.length : Int))) then
     (getI p0.Levels y29).bind fun x33 =>
     bif (decide (x33 < 0)) then
      some false
     else
      bif (decide (x33 > 1000000)) then
       some false
      else
       bif (y29 == 0) then
        bif (x33 != 0) then
         some false
        else
         bif (decide (y29 > 0)) then
          (getI p0.Levels (w64 (y29 - 1))).bind fun x42 =>
          bif (decide (x33 ≤ x42)) then
           some false
          else
           Qb3 N p0 k1 n31 (w64 (y29 + 1))
         else
          Qb3 N p0 k1 n31 (w64 (y29 + 1))
       else
        bif (decide (y29 > 0)) then
         (getI p0.Levels (w64 (y29 - 1))).bind fun x48 =>
         bif (decide (x33 ≤ x48)) then
          some false
         else
          Qb3 N p0 k1 n31 (w64 (y29 + 1))
        else
         Qb3 N p0 k1 n31 (w64 (y29 + 1))
    else
     k1 ()
def Qft (N : Nat) (p0 : GJob) : Option Bool :=
  Qb0 (fun _ =>
    Qb0 (fun _ =>
      bif (decide ((p0.Levels.length : Int) ≥ 2)) then
       bif (decide ((p0.Levels.length : Int) ≤ 12)) then
        (Qez N p0.Ramp 1 12).bind fun x6 =>
        bif x6 then
         (Qez N p0.Start 0 1000000000).bind fun x9 =>
         bif x9 then
          (Qez N p0.First 0 (w64 ((p0.Levels.length : Int) - 1))).bind fun x12 =>
          bif x12 then
           bif (decide ((p0.Hours.length : Int) ≥ 1)) then
            some (decide ((p0.Hours.length : Int) ≤ 100))
           else
            some false
          else
           some false
         else
          some false
        else
         some false
       else
        some false
      else
       some false) fun k2 : Unit → Option Bool =>
    Qcs N p0 k2 N 0) fun k1 : Unit → Option Bool =>
  Qb3 N p0 k1 N 0
def Qea (p0 : GJob) : AV := .dat 1 ((p0.Levels : List Int).map Qab)
def Qoo (p0 : GJob) : AV := .dat 2 ((p0.Hours : List GHour).map Qax)
def Qjg (p0 : GJob) : Slot := .own 5 [[(Qea p0), (I (p0.Ramp)), (I (p0.Start)), (I (p0.First)), (Qoo p0)]]
set_option maxRecDepth 100000 in
set_option maxHeartbeats 4000000 in
theorem Qgf (N : Nat) (p0 : GJob) (r : Bool) (h : Qft N p0 = some r) : Spec Try.prog 20 [(.agg (Qhk p0))] [] (B r) [] := by
  refine Qae Try.func20 rfl 0 (nle rfl) (fun X φ0 w0 hφ0 => ?_)
  unfold Qft at h
  refine wx tbk [] trivial ?_
  obtain ⟨k1, hk_k1, h⟩ := jko h
  refine wjn (τ := Unit) (fun t => k1 t = some r) (fun _ => ⟨mk 122 [(1, .ref 0 5 0 0)], [(Qjg p0)]⟩) (fun t h => ?_) ?_
  ·subst hk_k1
   obtain ⟨k2, hk_k2, h⟩ := jko h
   refine wjn (τ := Unit) (fun t => k2 t = some r) (fun _ => ⟨mk 122 [(1, .ref 0 5 0 0)], [(Qjg p0)]⟩) (fun t h => ?_) ?_
   ·subst hk_k2
    rcases bft ((decide ((p0.Levels.length : Int) ≥ 2))) with hb3 | hb3
    ·replace h := Qas hb3 h
     rcases bft ((decide ((p0.Levels.length : Int) ≤ 12))) with hb4 | hb4
     ·replace h := Qas hb4 h
      obtain ⟨x6, hf5, h⟩ := bno h
      rcases bft (x6) with hb7 | hb7
      ·replace h := Qas hb7 h
       obtain ⟨x9, hf8, h⟩ := bno h
       rcases bft (x9) with hb10 | hb10
       ·replace h := Qas hb10 h
        obtain ⟨x12, hf11, h⟩ := bno h
        rcases bft (x12) with hb13 | hb13
        ·replace h := Qas hb13 h
         rcases bft ((decide ((p0.Hours.length : Int) ≥ 1))) with hb14 | hb14
         ·replace h := Qas hb14 h
          refine wx tbk [(2, rp [(.tmp 82, (Qea p0))] (I ((p0.Levels.length : Int)))), (4, rp [(.tmp 84, (B ((decide ((p0.Levels.length : Int) ≥ 2)))))] (B true)), (7, rp [(.tmp 85, B true), (.tmp 87, (Qea p0))] (I ((p0.Levels.length : Int)))), (10, rp [(.tmp 90, (B ((decide ((p0.Levels.length : Int) ≤ 12)))))] (B true)), (13, rp [(.tmp 91, B true), fu 25, (.tmp 93, I p0.Ramp), ci 1, ci 12] (B x6)), (15, rp [(.tmp 95, B x6)] (B true)), (18, rp [(.tmp 96, B true), fu 25, (.tmp 98, I p0.Start), ci 0, ci 1000000000] (B x9)), (20, rp [(.tmp 100, B x9)] (B true)), (25, rp [(.tmp 101, B true), (.tmp 105, (Qea p0))] (I ((p0.Levels.length : Int)))), (27, rp [(.tmp 101, B true), fu 25, (.tmp 103, I p0.First), ci 0, (.tmp 107, (I (w64 ((p0.Levels.length : Int) - 1))))] (B x12)), (29, rp [(.tmp 109, B x12)] (B true)), (32, rp [(.tmp 110, B true), (.tmp 112, (Qoo p0))] (I ((p0.Hours.length : Int)))), (35, rp [(.tmp 115, (B ((decide ((p0.Hours.length : Int) ≥ 1)))))] (B true)), (38, rp [(.tmp 116, B true), (.tmp 118, (Qoo p0))] (I ((p0.Hours.length : Int))))] ⟨alm (c := Qab) (l := p0.Levels) (aln rfl Try.underlying37 rfl), asb hb3 (amv rfl), ag_ (alm (c := Qab) (l := p0.Levels) (aln rfl Try.underlying37 rfl)), asb hb4 (amv rfl), ag_ (apc (first := []) (cap := []) (vs := [I p0.Ramp, I 1, I 12]) rfl Qfn (Qb4 N p0.Ramp 1 12 _ hf5) rfl rfl (nlc nll (nlc nll (nlc nll nl0))) nll rfl), asb hb7 (amv rfl), ag_ (apc (first := []) (cap := []) (vs := [I p0.Start, I 0, I 1000000000]) rfl Qfn (Qb4 N p0.Start 0 1000000000 _ hf8) rfl rfl (nlc nll (nlc nll (nlc nll nl0))) nll rfl), asb hb10 (amv rfl), ag_ (alm (c := Qab) (l := p0.Levels) (aln rfl Try.underlying37 rfl)), ag_ (apc (first := []) (cap := []) (vs := [I p0.First, I 0, (I (w64 ((p0.Levels.length : Int) - 1)))]) rfl Qfn (Qb4 N p0.First 0 (w64 ((p0.Levels.length : Int) - 1)) _ hf11) rfl rfl (nlc nll (nlc nll (nlc nll nl0))) nll rfl), asb hb13 (amv rfl), ag_ (alm (c := Qax) (l := p0.Hours) (aln rfl Try.underlying38 rfl)), asb hb14 (amv rfl), ag_ (alm (c := Qax) (l := p0.Hours) (aln rfl Try.underlying38 rfl)), trivial⟩ ?_
          refine Qad ?_
          obtain rfl := osi h
          exact fend ⟨[(B ((decide ((p0.Hours.length : Int) ≤ 100))))], ⟨rot (by kernel_rfl), trivial⟩, rfl⟩ nll
         ·replace h := Qat hb14 h
          refine wx tbk [(2, rp [(.tmp 82, (Qea p0))] (I ((p0.Levels.length : Int)))), (4, rp [(.tmp 84, (B ((decide ((p0.Levels.length : Int) ≥ 2)))))] (B true)), (7, rp [(.tmp 85, B true), (.tmp 87, (Qea p0))] (I ((p0.Levels.length : Int)))), (10, rp [(.tmp 90, (B ((decide ((p0.Levels.length : Int) ≤ 12)))))] (B true)), (13, rp [(.tmp 91, B true), fu 25, (.tmp 93, I p0.Ramp), ci 1, ci 12] (B x6)), (15, rp [(.tmp 95, B x6)] (B true)), (18, rp [(.tmp 96, B true), fu 25, (.tmp 98, I p0.Start), ci 0, ci 1000000000] (B x9)), (20, rp [(.tmp 100, B x9)] (B true)), (25, rp [(.tmp 101, B true), (.tmp 105, (Qea p0))] (I ((p0.Levels.length : Int)))), (27, rp [(.tmp 101, B true), fu 25, (.tmp 103, I p0.First), ci 0, (.tmp 107, (I (w64 ((p0.Levels.length : Int) - 1))))] (B x12)), (29, rp [(.tmp 109, B x12)] (B true)), (32, rp [(.tmp 110, B true), (.tmp 112, (Qoo p0))] (I ((p0.Hours.length : Int)))), (35, rp [(.tmp 115, (B ((decide ((p0.Hours.length : Int) ≥ 1)))))] (B false))] ⟨alm (c := Qab) (l := p0.Levels) (aln rfl Try.underlying37 rfl), asb hb3 (amv rfl), ag_ (alm (c := Qab) (l := p0.Levels) (aln rfl Try.underlying37 rfl)), asb hb4 (amv rfl), ag_ (apc (first := []) (cap := []) (vs := [I p0.Ramp, I 1, I 12]) rfl Qfn (Qb4 N p0.Ramp 1 12 _ hf5) rfl rfl (nlc nll (nlc nll (nlc nll nl0))) nll rfl), asb hb7 (amv rfl), ag_ (apc (first := []) (cap := []) (vs := [I p0.Start, I 0, I 1000000000]) rfl Qfn (Qb4 N p0.Start 0 1000000000 _ hf8) rfl rfl (nlc nll (nlc nll (nlc nll nl0))) nll rfl), asb hb10 (amv rfl), ag_ (alm (c := Qab) (l := p0.Levels) (aln rfl Try.underlying37 rfl)), ag_ (apc (first := []) (cap := []) (vs := [I p0.First, I 0, (I (w64 ((p0.Levels.length : Int) - 1)))]) rfl Qfn (Qb4 N p0.First 0 (w64 ((p0.Levels.length : Int) - 1)) _ hf11) rfl rfl (nlc nll (nlc nll (nlc nll nl0))) nll rfl), asb hb13 (amv rfl), ag_ (alm (c := Qax) (l := p0.Hours) (aln rfl Try.underlying38 rfl)), asb hb14 (amv rfl), trivial⟩ ?_
          refine Qad ?_
          obtain rfl := osi h
          exact fend ⟨[B false], ⟨rot (by kernel_rfl), trivial⟩, rfl⟩ nll
        ·replace h := Qat hb13 h
         refine wx tbk [(2, rp [(.tmp 82, (Qea p0))] (I ((p0.Levels.length : Int)))), (4, rp [(.tmp 84, (B ((decide ((p0.Levels.length : Int) ≥ 2)))))] (B true)), (7, rp [(.tmp 85, B true), (.tmp 87, (Qea p0))] (I ((p0.Levels.length : Int)))), (10, rp [(.tmp 90, (B ((decide ((p0.Levels.length : Int) ≤ 12)))))] (B true)), (13, rp [(.tmp 91, B true), fu 25, (.tmp 93, I p0.Ramp), ci 1, ci 12] (B x6)), (15, rp [(.tmp 95, B x6)] (B true)), (18, rp [(.tmp 96, B true), fu 25, (.tmp 98, I p0.Start), ci 0, ci 1000000000] (B x9)), (20, rp [(.tmp 100, B x9)] (B true)), (25, rp [(.tmp 101, B true), (.tmp 105, (Qea p0))] (I ((p0.Levels.length : Int)))), (27, rp [(.tmp 101, B true), fu 25, (.tmp 103, I p0.First), ci 0, (.tmp 107, (I (w64 ((p0.Levels.length : Int) - 1))))] (B x12)), (29, rp [(.tmp 109, B x12)] (B false))] ⟨alm (c := Qab) (l := p0.Levels) (aln rfl Try.underlying37 rfl), asb hb3 (amv rfl), ag_ (alm (c := Qab) (l := p0.Levels) (aln rfl Try.underlying37 rfl)), asb hb4 (amv rfl), ag_ (apc (first := []) (cap := []) (vs := [I p0.Ramp, I 1, I 12]) rfl Qfn (Qb4 N p0.Ramp 1 12 _ hf5) rfl rfl (nlc nll (nlc nll (nlc nll nl0))) nll rfl), asb hb7 (amv rfl), ag_ (apc (first := []) (cap := []) (vs := [I p0.Start, I 0, I 1000000000]) rfl Qfn (Qb4 N p0.Start 0 1000000000 _ hf8) rfl rfl (nlc nll (nlc nll (nlc nll nl0))) nll rfl), asb hb10 (amv rfl), ag_ (alm (c := Qab) (l := p0.Levels) (aln rfl Try.underlying37 rfl)), ag_ (apc (first := []) (cap := []) (vs := [I p0.First, I 0, (I (w64 ((p0.Levels.length : Int) - 1)))]) rfl Qfn (Qb4 N p0.First 0 (w64 ((p0.Levels.length : Int) - 1)) _ hf11) rfl rfl (nlc nll (nlc nll (nlc nll nl0))) nll rfl), asb hb13 (amv rfl), trivial⟩ ?_
         refine Qad ?_
         obtain rfl := osi h
         exact fend ⟨[B false], ⟨rot (by kernel_rfl), trivial⟩, rfl⟩ nll
       ·replace h := Qat hb10 h
        refine wx tbk [(2, rp [(.tmp 82, (Qea p0))] (I ((p0.Levels.length : Int)))), (4, rp [(.tmp 84, (B ((decide ((p0.Levels.length : Int) ≥ 2)))))] (B true)), (7, rp [(.tmp 85, B true), (.tmp 87, (Qea p0))] (I ((p0.Levels.length : Int)))), (10, rp [(.tmp 90, (B ((decide ((p0.Levels.length : Int) ≤ 12)))))] (B true)), (13, rp [(.tmp 91, B true), fu 25, (.tmp 93, I p0.Ramp), ci 1, ci 12] (B x6)), (15, rp [(.tmp 95, B x6)] (B true)), (18, rp [(.tmp 96, B true), fu 25, (.tmp 98, I p0.Start), ci 0, ci 1000000000] (B x9)), (20, rp [(.tmp 100, B x9)] (B false))] ⟨alm (c := Qab) (l := p0.Levels) (aln rfl Try.underlying37 rfl), asb hb3 (amv rfl), ag_ (alm (c := Qab) (l := p0.Levels) (aln rfl Try.underlying37 rfl)), asb hb4 (amv rfl), ag_ (apc (first := []) (cap := []) (vs := [I p0.Ramp, I 1, I 12]) rfl Qfn (Qb4 N p0.Ramp 1 12 _ hf5) rfl rfl (nlc nll (nlc nll (nlc nll nl0))) nll rfl), asb hb7 (amv rfl), ag_ (apc (first := []) (cap := []) (vs := [I p0.Start, I 0, I 1000000000]) rfl Qfn (Qb4 N p0.Start 0 1000000000 _ hf8) rfl rfl (nlc nll (nlc nll (nlc nll nl0))) nll rfl), asb hb10 (amv rfl), trivial⟩ ?_
        refine Qad ?_
        obtain rfl := osi h
        exact fend ⟨[B false], ⟨rot (by kernel_rfl), trivial⟩, rfl⟩ nll
      ·replace h := Qat hb7 h
       refine wx tbk [(2, rp [(.tmp 82, (Qea p0))] (I ((p0.Levels.length : Int)))), (4, rp [(.tmp 84, (B ((decide ((p0.Levels.length : Int) ≥ 2)))))] (B true)), (7, rp [(.tmp 85, B true), (.tmp 87, (Qea p0))] (I ((p0.Levels.length : Int)))), (10, rp [(.tmp 90, (B ((decide ((p0.Levels.length : Int) ≤ 12)))))] (B true)), (13, rp [(.tmp 91, B true), fu 25, (.tmp 93, I p0.Ramp), ci 1, ci 12] (B x6)), (15, rp [(.tmp 95, B x6)] (B false))] ⟨alm (c := Qab) (l := p0.Levels) (aln rfl Try.underlying37 rfl), asb hb3 (amv rfl), ag_ (alm (c := Qab) (l := p0.Levels) (aln rfl Try.underlying37 rfl)), asb hb4 (amv rfl), ag_ (apc (first := []) (cap := []) (vs := [I p0.Ramp, I 1, I 12]) rfl Qfn (Qb4 N p0.Ramp 1 12 _ hf5) rfl rfl (nlc nll (nlc nll (nlc nll nl0))) nll rfl), asb hb7 (amv rfl), trivial⟩ ?_
       refine Qad ?_
       obtain rfl := osi h
       exact fend ⟨[B false], ⟨rot (by kernel_rfl), trivial⟩, rfl⟩ nll
     ·replace h := Qat hb4 h
      refine wx tbk [(2, rp [(.tmp 82, (Qea p0))] (I ((p0.Levels.length : Int)))), (4, rp [(.tmp 84, (B ((decide ((p0.Levels.length : Int) ≥ 2)))))] (B true)), (7, rp [(.tmp 85, B true), (.tmp 87, (Qea p0))] (I ((p0.Levels.length : Int)))), (10, rp [(.tmp 90, (B ((decide ((p0.Levels.length : Int) ≤ 12)))))] (B false))] ⟨alm (c := Qab) (l := p0.Levels) (aln rfl Try.underlying37 rfl), asb hb3 (amv rfl), ag_ (alm (c := Qab) (l := p0.Levels) (aln rfl Try.underlying37 rfl)), asb hb4 (amv rfl), trivial⟩ ?_
      refine Qad ?_
      obtain rfl := osi h
      exact fend ⟨[B false], ⟨rot (by kernel_rfl), trivial⟩, rfl⟩ nll
    ·replace h := Qat hb3 h
     refine wx tbk [(2, rp [(.tmp 82, (Qea p0))] (I ((p0.Levels.length : Int)))), (4, rp [(.tmp 84, (B ((decide ((p0.Levels.length : Int) ≥ 2)))))] (B false))] ⟨alm (c := Qab) (l := p0.Levels) (aln rfl Try.underlying37 rfl), asb hb3 (amv rfl), trivial⟩ ?_
     refine Qad ?_
     obtain rfl := osi h
     exact fend ⟨[B false], ⟨rot (by kernel_rfl), trivial⟩, rfl⟩ nll
   ·skip
    refine wx tbk [] trivial ?_
    refine Qaf ?_
    refine wmr (mto (n := 122) (l' := [(1, .ref 0 5 0 0), (4, I 0)]) (own' := [(Qjg p0)]) [(1, .ref 0 5 0 0), (4, I 0)] [0] [(Qjg p0)] hφ0 (pc (.rn (rqr rfl)) (pc rwl pn)) (qc (spb (lc (.rn (.plain _ (nld Qaa _))) (lc rwl (lc rwl (lc rwl (lc (.rn (.plain _ (nld Qac _))) ln)))))) qn)) ?_
    refine Qbk (τ := Int) (fun n t => Qcs N p0 k2 n t = some r) (fun y15 => ⟨mk 122 [(1, .ref 0 5 0 0), (4, I y15)], [(Qjg p0)]⟩) (fun t h => by rw [Qcs] at h; cases h) (fun n17 ih y15 h => ?_) N (0) h
    rw [Qcs] at h
    skip
    refine wsq ?_
    refine wx tbk [(3, rp [(.tmp 58, (Qoo p0))] (I ((p0.Hours.length : Int))))] ⟨alm (c := Qax) (l := p0.Hours) (aln rfl Try.underlying38 rfl), trivial⟩ ?_
    rcases bft ((decide (y15 < (p0.Hours.length : Int)))) with hc18 | hc18
    ·replace h := Qas hc18 h
     refine wft hc18 (by kernel_rfl) ?_
     refine Qai ?_
     refine thn ?_
     refine wsq ?_
     refine Qaf ?_
     obtain ⟨x19, hg20, h⟩ := bno h
     obtain ⟨hi21, hj22⟩ := gsm hg20
     obtain ⟨x24, hf23, h⟩ := bno h
     rcases bft ((!x24)) with hb25 | hb25
     ·replace h := Qas hb25 h
      refine wx tbk [(3, rp [(.tmp 64, (Qoo p0)), (.tmp 65, I y15)] (.dptr (Qax (x19)) 0)), (6, rp [fu 25, (.tmp 68, I x19.Price), ci (-1000), ci 1000] (B x24)), (8, rp [(.tmp 70, (B ((!x24))))] (B true))] ⟨aid rfl Try.underlying38 Qth rfl rfl hi21 (mgt Qax hj22) rfl, apc (first := []) (cap := []) (vs := [I x19.Price, (I ((-1000))), I 1000]) rfl Qfn (Qb4 N x19.Price (-1000) 1000 _ hf23) rfl rfl (nlc nll (nlc nll (nlc nll nl0))) nll rfl, asb hb25 (amv rfl), trivial⟩ ?_
      refine Qff (by kernel_rfl) ?_
      refine wx tbk [] trivial ?_
      refine Qad ?_
      refine Qay ?_
      refine Qam ?_
      refine Qam ?_
      refine Qay ?_
      refine Qam ?_
      obtain rfl := osi h
      exact fend ⟨[B false], ⟨rot (by kernel_rfl), trivial⟩, rfl⟩ nll
     ·replace h := Qat hb25 h
      obtain ⟨x27, hf26, h⟩ := bno h
      refine wx tbk [(3, rp [(.tmp 64, (Qoo p0)), (.tmp 65, I y15)] (.dptr (Qax (x19)) 0)), (6, rp [fu 25, (.tmp 68, I x19.Price), ci (-1000), ci 1000] (B x24)), (8, rp [(.tmp 70, (B ((!x24))))] (B false)), (12, rp [(.tmp 71, B false), (.tmp 73, (Qoo p0)), (.tmp 74, I y15)] (.dptr (Qax (x19)) 0)), (15, rp [(.tmp 71, B false), fu 25, (.tmp 77, I x19.Most), ci 0, ci 1000000] (B x27))] ⟨aid rfl Try.underlying38 Qth rfl rfl hi21 (mgt Qax hj22) rfl, apc (first := []) (cap := []) (vs := [I x19.Price, (I ((-1000))), I 1000]) rfl Qfn (Qb4 N x19.Price (-1000) 1000 _ hf23) rfl rfl (nlc nll (nlc nll (nlc nll nl0))) nll rfl, asb hb25 (amv rfl), ag_ (aid rfl Try.underlying38 Qth rfl rfl hi21 (mgt Qax hj22) rfl), ag_ (apc (first := []) (cap := []) (vs := [I x19.Most, I 0, I 1000000]) rfl Qfn (Qb4 N x19.Most 0 1000000 _ hf26) rfl rfl (nlc nll (nlc nll (nlc nll nl0))) nll rfl), trivial⟩ ?_
      rcases bft ((!x27)) with hc28 | hc28
      ·replace h := Qas hc28 h
       refine wft hc28 (by kernel_rfl) ?_
       refine wx tbk [] trivial ?_
       refine Qad ?_
       refine Qay ?_
       refine Qam ?_
       refine Qam ?_
       refine Qay ?_
       refine Qam ?_
       obtain rfl := osi h
       exact fend ⟨[B false], ⟨rot (by kernel_rfl), trivial⟩, rfl⟩ nll
      ·replace h := Qat hc28 h
       refine wfn hc28 (by kernel_rfl) ?_
       refine Qai ?_
       refine bln ?_
       refine thn ?_
       refine wx1 tbk [] trivial ?_
       refine thn ?_
       exact arm (mto (n := 122) [(1, .ref 0 5 0 0), (4, (I (w64 (y15 + 1))))] [0] [(Qjg p0)] hφ0 (pc (.rn (rqr rfl)) (pc rwl pn)) (qc (spb (lc (.rn (.plain _ (nld Qaa _))) (lc rwl (lc rwl (lc rwl (lc (.rn (.plain _ (nld Qac _))) ln)))))) qn)) (ih (w64 (y15 + 1)) h)
    ·replace h := Qat hc18 h
     refine wfn hc18 (by kernel_rfl) ?_
     refine Qa2 ?_
     refine Qaq ?_
     refine Qaq ?_
     refine Qa1 rfl ?_
     refine thn ?_
     exact ⟨(), h, (mto (n := 122) [(1, .ref 0 5 0 0)] [0] [(Qjg p0)] hφ0 (pc (.rn (rqr rfl)) pn) (qc (spb (lc (.rn (.plain _ (nld Qaa _))) (lc rwl (lc rwl (lc rwl (lc (.rn (.plain _ (nld Qac _))) ln)))))) qn))⟩
  ·skip
   refine wx tbk [] trivial ?_
   refine Qaf ?_
   refine wmr (mto (n := 122) (l' := [(1, .ref 0 5 0 0), (3, I 0)]) (own' := [(Qjg p0)]) [(1, .ref 0 5 0 0), (3, I 0)] [0] [(Qjg p0)] hφ0 (pc (.rn (rqr rfl)) (pc rwl pn)) (qc (spb (lc (.rn (.plain _ (nld Qaa _))) (lc rwl (lc rwl (lc rwl (lc (.rn (.plain _ (nld Qac _))) ln)))))) qn)) ?_
   refine Qbk (τ := Int) (fun n t => Qb3 N p0 k1 n t = some r) (fun y29 => ⟨mk 122 [(1, .ref 0 5 0 0), (3, I y29)], [(Qjg p0)]⟩) (fun t h => by rw [Qb3] at h; cases h) (fun n31 ih y29 h => ?_) N (0) h
   rw [Qb3] at h
   skip
   refine wsq ?_
   refine wx tbk [(3, rp [(.tmp 7, (Qea p0))] (I ((p0.Levels.length : Int))))] ⟨alm (c := Qab) (l := p0.Levels) (aln rfl Try.underlying37 rfl), trivial⟩ ?_
   rcases bft ((decide (y29 < (p0.Levels.length : Int)))) with hc32 | hc32
   ·replace h := Qas hc32 h
    refine wft hc32 (by kernel_rfl) ?_
    refine Qai ?_
    refine thn ?_
    refine wsq ?_
    refine Qaf ?_
    obtain ⟨x33, hg34, h⟩ := bno h
    obtain ⟨hi35, hj36⟩ := gsm hg34
    rcases bft ((decide (x33 < 0))) with hb37 | hb37
    ·replace h := Qas hb37 h
     refine wxd tbk [(3, rp [(.tmp 13, (Qea p0)), (.tmp 14, I y29)] (.dptr (Qab (x33)) 0)), (6, rp [(.tmp 17, (B ((decide (x33 < 0)))))] (B true))] ⟨aid rfl Try.underlying37 ti3 rfl rfl hi35 (mgt Qab hj36) rfl, asb hb37 (amv rfl), trivial⟩ ?_
     refine Qff (by kernel_rfl) ?_
     refine wx tbk [] trivial ?_
     refine Qad ?_
     refine Qay ?_
     refine Qam ?_
     refine Qam ?_
     refine Qay ?_
     refine Qam ?_
     obtain rfl := osi h
     exact fend ⟨[B false], ⟨rot (by kernel_rfl), trivial⟩, rfl⟩ nll
    ·replace h := Qat hb37 h
     rcases bft ((decide (x33 > 1000000))) with hb38 | hb38
     ·replace h := Qas hb38 h
      refine wxd tbk [(3, rp [(.tmp 13, (Qea p0)), (.tmp 14, I y29)] (.dptr (Qab (x33)) 0)), (6, rp [(.tmp 17, (B ((decide (x33 < 0)))))] (B false)), (10, rp [(.tmp 18, B false), (.tmp 20, (Qea p0)), (.tmp 21, I y29)] (.dptr (Qab (x33)) 0)), (14, rp [(.tmp 25, (B ((decide (x33 > 1000000)))))] (B true))] ⟨aid rfl Try.underlying37 ti3 rfl rfl hi35 (mgt Qab hj36) rfl, asb hb37 (amv rfl), ag_ (aid rfl Try.underlying37 ti3 rfl rfl hi35 (mgt Qab hj36) rfl), asb hb38 (amv rfl), trivial⟩ ?_
      refine Qff (by kernel_rfl) ?_
      refine wx tbk [] trivial ?_
      refine Qad ?_
      refine Qay ?_
      refine Qam ?_
      refine Qam ?_
      refine Qay ?_
      refine Qam ?_
      obtain rfl := osi h
      exact fend ⟨[B false], ⟨rot (by kernel_rfl), trivial⟩, rfl⟩ nll
     ·replace h := Qat hb38 h
      rcases bft ((y29 == 0)) with hb39 | hb39
      ·replace h := Qas hb39 h
       rcases bft ((x33 != 0)) with hb40 | hb40
       ·replace h := Qas hb40 h
        refine wxd tbk [(3, rp [(.tmp 13, (Qea p0)), (.tmp 14, I y29)] (.dptr (Qab (x33)) 0)), (6, rp [(.tmp 17, (B ((decide (x33 < 0)))))] (B false)), (10, rp [(.tmp 18, B false), (.tmp 20, (Qea p0)), (.tmp 21, I y29)] (.dptr (Qab (x33)) 0)), (14, rp [(.tmp 25, (B ((decide (x33 > 1000000)))))] (B false)), (17, rp [(.tmp 26, B false), (.tmp 28, (B ((y29 == 0))))] (B true)), (21, rp [(.tmp 29, B true), (.tmp 31, (Qea p0)), (.tmp 32, I y29)] (.dptr (Qab (x33)) 0)), (26, rp [(.tmp 37, (B ((x33 != 0))))] (B true))] ⟨aid rfl Try.underlying37 ti3 rfl rfl hi35 (mgt Qab hj36) rfl, asb hb37 (amv rfl), ag_ (aid rfl Try.underlying37 ti3 rfl rfl hi35 (mgt Qab hj36) rfl), asb hb38 (amv rfl), asb hb39 (ag_ (amv rfl)), ag_ (aid rfl Try.underlying37 ti3 rfl rfl hi35 (mgt Qab hj36) rfl), asb hb40 (amv rfl), trivial⟩ ?_
        refine Qff (by kernel_rfl) ?_
        refine wx tbk [] trivial ?_
        refine Qad ?_
        refine Qay ?_
        refine Qam ?_
        refine Qam ?_
        refine Qay ?_
        refine Qam ?_
        obtain rfl := osi h
        exact fend ⟨[B false], ⟨rot (by kernel_rfl), trivial⟩, rfl⟩ nll
       ·replace h := Qat hb40 h
        rcases bft ((decide (y29 > 0))) with hb41 | hb41
        ·replace h := Qas hb41 h
         obtain ⟨x42, hg43, h⟩ := bno h
         obtain ⟨hi44, hj45⟩ := gsm hg43
         refine wxd tbk [(3, rp [(.tmp 13, (Qea p0)), (.tmp 14, I y29)] (.dptr (Qab (x33)) 0)), (6, rp [(.tmp 17, (B ((decide (x33 < 0)))))] (B false)), (10, rp [(.tmp 18, B false), (.tmp 20, (Qea p0)), (.tmp 21, I y29)] (.dptr (Qab (x33)) 0)), (14, rp [(.tmp 25, (B ((decide (x33 > 1000000)))))] (B false)), (17, rp [(.tmp 26, B false), (.tmp 28, (B ((y29 == 0))))] (B true)), (21, rp [(.tmp 29, B true), (.tmp 31, (Qea p0)), (.tmp 32, I y29)] (.dptr (Qab (x33)) 0)), (26, rp [(.tmp 37, (B ((x33 != 0))))] (B false)), (29, rp [(.tmp 38, B false), (.tmp 40, (B ((decide (y29 > 0)))))] (B true)), (33, rp [(.tmp 41, B true), (.tmp 43, (Qea p0)), (.tmp 44, I y29)] (.dptr (Qab (x33)) 0)), (39, rp [(.tmp 41, B true), (.tmp 48, (Qea p0)), (.tmp 50, (I (w64 (y29 - 1))))] (.dptr (Qab (x42)) 0))] ⟨aid rfl Try.underlying37 ti3 rfl rfl hi35 (mgt Qab hj36) rfl, asb hb37 (amv rfl), ag_ (aid rfl Try.underlying37 ti3 rfl rfl hi35 (mgt Qab hj36) rfl), asb hb38 (amv rfl), asb hb39 (ag_ (amv rfl)), ag_ (aid rfl Try.underlying37 ti3 rfl rfl hi35 (mgt Qab hj36) rfl), asb hb40 (amv rfl), asb hb41 (ag_ (amv rfl)), ag_ (aid rfl Try.underlying37 ti3 rfl rfl hi35 (mgt Qab hj36) rfl), ag_ (aid rfl Try.underlying37 ti3 rfl rfl hi44 (mgt Qab hj45) rfl), trivial⟩ ?_
         rcases bft ((decide (x33 ≤ x42))) with hc46 | hc46
         ·replace h := Qas hc46 h
          refine wft hc46 (by kernel_rfl) ?_
          refine wx tbk [] trivial ?_
          refine Qad ?_
          refine Qay ?_
          refine Qam ?_
          refine Qam ?_
          refine Qay ?_
          refine Qam ?_
          obtain rfl := osi h
          exact fend ⟨[B false], ⟨rot (by kernel_rfl), trivial⟩, rfl⟩ nll
         ·replace h := Qat hc46 h
          refine wfn hc46 (by kernel_rfl) ?_
          refine Qai ?_
          refine bln ?_
          refine thn ?_
          refine wx1 tbk [] trivial ?_
          refine thn ?_
          exact arm (mto (n := 122) [(1, .ref 0 5 0 0), (3, (I (w64 (y29 + 1))))] [0] [(Qjg p0)] hφ0 (pc (.rn (rqr rfl)) (pc rwl pn)) (qc (spb (lc (.rn (.plain _ (nld Qaa _))) (lc rwl (lc rwl (lc rwl (lc (.rn (.plain _ (nld Qac _))) ln)))))) qn)) (ih (w64 (y29 + 1)) h)
        ·replace h := Qat hb41 h
         refine wxd tbk [(3, rp [(.tmp 13, (Qea p0)), (.tmp 14, I y29)] (.dptr (Qab (x33)) 0)), (6, rp [(.tmp 17, (B ((decide (x33 < 0)))))] (B false)), (10, rp [(.tmp 18, B false), (.tmp 20, (Qea p0)), (.tmp 21, I y29)] (.dptr (Qab (x33)) 0)), (14, rp [(.tmp 25, (B ((decide (x33 > 1000000)))))] (B false)), (17, rp [(.tmp 26, B false), (.tmp 28, (B ((y29 == 0))))] (B true)), (21, rp [(.tmp 29, B true), (.tmp 31, (Qea p0)), (.tmp 32, I y29)] (.dptr (Qab (x33)) 0)), (26, rp [(.tmp 37, (B ((x33 != 0))))] (B false)), (29, rp [(.tmp 38, B false), (.tmp 40, (B ((decide (y29 > 0)))))] (B false))] ⟨aid rfl Try.underlying37 ti3 rfl rfl hi35 (mgt Qab hj36) rfl, asb hb37 (amv rfl), ag_ (aid rfl Try.underlying37 ti3 rfl rfl hi35 (mgt Qab hj36) rfl), asb hb38 (amv rfl), asb hb39 (ag_ (amv rfl)), ag_ (aid rfl Try.underlying37 ti3 rfl rfl hi35 (mgt Qab hj36) rfl), asb hb40 (amv rfl), asb hb41 (ag_ (amv rfl)), trivial⟩ ?_
         refine Qd2 (by kernel_rfl) ?_
         refine Qai ?_
         refine bln ?_
         refine thn ?_
         refine wx1 tbk [] trivial ?_
         refine thn ?_
         exact arm (mto (n := 122) [(1, .ref 0 5 0 0), (3, (I (w64 (y29 + 1))))] [0] [(Qjg p0)] hφ0 (pc (.rn (rqr rfl)) (pc rwl pn)) (qc (spb (lc (.rn (.plain _ (nld Qaa _))) (lc rwl (lc rwl (lc rwl (lc (.rn (.plain _ (nld Qac _))) ln)))))) qn)) (ih (w64 (y29 + 1)) h)
      ·replace h := Qat hb39 h
       rcases bft ((decide (y29 > 0))) with hb47 | hb47
       ·replace h := Qas hb47 h
        obtain ⟨x48, hg49, h⟩ := bno h
        obtain ⟨hi50, hj51⟩ := gsm hg49
        refine wxd tbk [(3, rp [(.tmp 13, (Qea p0)), (.tmp 14, I y29)] (.dptr (Qab (x33)) 0)), (6, rp [(.tmp 17, (B ((decide (x33 < 0)))))] (B false)), (10, rp [(.tmp 18, B false), (.tmp 20, (Qea p0)), (.tmp 21, I y29)] (.dptr (Qab (x33)) 0)), (14, rp [(.tmp 25, (B ((decide (x33 > 1000000)))))] (B false)), (17, rp [(.tmp 26, B false), (.tmp 28, (B ((y29 == 0))))] (B false)), (29, rp [(.tmp 38, B false), (.tmp 40, (B ((decide (y29 > 0)))))] (B true)), (33, rp [(.tmp 41, B true), (.tmp 43, (Qea p0)), (.tmp 44, I y29)] (.dptr (Qab (x33)) 0)), (39, rp [(.tmp 41, B true), (.tmp 48, (Qea p0)), (.tmp 50, (I (w64 (y29 - 1))))] (.dptr (Qab (x48)) 0))] ⟨aid rfl Try.underlying37 ti3 rfl rfl hi35 (mgt Qab hj36) rfl, asb hb37 (amv rfl), ag_ (aid rfl Try.underlying37 ti3 rfl rfl hi35 (mgt Qab hj36) rfl), asb hb38 (amv rfl), asb hb39 (ag_ (amv rfl)), asb hb47 (ag_ (amv rfl)), ag_ (aid rfl Try.underlying37 ti3 rfl rfl hi35 (mgt Qab hj36) rfl), ag_ (aid rfl Try.underlying37 ti3 rfl rfl hi50 (mgt Qab hj51) rfl), trivial⟩ ?_
        rcases bft ((decide (x33 ≤ x48))) with hc52 | hc52
        ·replace h := Qas hc52 h
         refine wft hc52 (by kernel_rfl) ?_
         refine wx tbk [] trivial ?_
         refine Qad ?_
         refine Qay ?_
         refine Qam ?_
         refine Qam ?_
         refine Qay ?_
         refine Qam ?_
         obtain rfl := osi h
         exact fend ⟨[B false], ⟨rot (by kernel_rfl), trivial⟩, rfl⟩ nll
        ·replace h := Qat hc52 h
         refine wfn hc52 (by kernel_rfl) ?_
         refine Qai ?_
         refine bln ?_
         refine thn ?_
         refine wx1 tbk [] trivial ?_
         refine thn ?_
         exact arm (mto (n := 122) [(1, .ref 0 5 0 0), (3, (I (w64 (y29 + 1))))] [0] [(Qjg p0)] hφ0 (pc (.rn (rqr rfl)) (pc rwl pn)) (qc (spb (lc (.rn (.plain _ (nld Qaa _))) (lc rwl (lc rwl (lc rwl (lc (.rn (.plain _ (nld Qac _))) ln)))))) qn)) (ih (w64 (y29 + 1)) h)
       ·replace h := Qat hb47 h
        refine wxd tbk [(3, rp [(.tmp 13, (Qea p0)), (.tmp 14, I y29)] (.dptr (Qab (x33)) 0)), (6, rp [(.tmp 17, (B ((decide (x33 < 0)))))] (B false)), (10, rp [(.tmp 18, B false), (.tmp 20, (Qea p0)), (.tmp 21, I y29)] (.dptr (Qab (x33)) 0)), (14, rp [(.tmp 25, (B ((decide (x33 > 1000000)))))] (B false)), (17, rp [(.tmp 26, B false), (.tmp 28, (B ((y29 == 0))))] (B false)), (29, rp [(.tmp 38, B false), (.tmp 40, (B ((decide (y29 > 0)))))] (B false))] ⟨aid rfl Try.underlying37 ti3 rfl rfl hi35 (mgt Qab hj36) rfl, asb hb37 (amv rfl), ag_ (aid rfl Try.underlying37 ti3 rfl rfl hi35 (mgt Qab hj36) rfl), asb hb38 (amv rfl), asb hb39 (ag_ (amv rfl)), asb hb47 (ag_ (amv rfl)), trivial⟩ ?_
        refine Qd2 (by kernel_rfl) ?_
        refine Qai ?_
        refine bln ?_
        refine thn ?_
        refine wx1 tbk [] trivial ?_
        refine thn ?_
        exact arm (mto (n := 122) [(1, .ref 0 5 0 0), (3, (I (w64 (y29 + 1))))] [0] [(Qjg p0)] hφ0 (pc (.rn (rqr rfl)) (pc rwl pn)) (qc (spb (lc (.rn (.plain _ (nld Qaa _))) (lc rwl (lc rwl (lc rwl (lc (.rn (.plain _ (nld Qac _))) ln)))))) qn)) (ih (w64 (y29 + 1)) h)
   ·replace h := Qat hc32 h
    refine wfn hc32 (by kernel_rfl) ?_
    refine Qa2 ?_
    refine Qaq ?_
    refine Qaq ?_
    refine Qa1 rfl ?_
    refine thn ?_
    exact ⟨(), h, (mto (n := 122) [(1, .ref 0 5 0 0)] [0] [(Qjg p0)] hφ0 (pc (.rn (rqr rfl)) pn) (qc (spb (lc (.rn (.plain _ (nld Qaa _))) (lc rwl (lc rwl (lc rwl (lc (.rn (.plain _ (nld Qac _))) ln)))))) qn))⟩
def Qcu (N : Nat) (p0 : GJob) (p1 : (List Int)) (k2 : Int → Option (Int × Bool)) : Nat → Int → Int → Int → Option (Int × Bool)
  | 0, _, _, _ => none
  | n9 + 1, y3, y4, y5 =>
    bif (decide (y5 < (p1.length : Int))) then
     (getI p1 y5).bind fun x11 =>
     (Qef N p0 y5 y4 x11).bind fun x16 =>
     bif (!x16.2) then
      some (0, false)
     else
      Qcu N p0 p1 k2 n9 (w64 (y3 + x16.1)) x11 (w64 (y5 + 1))
    else
     k2 (y3)
def Qgw (N : Nat) (p0 : GJob) (p1 : (List Int)) : Option (Int × Bool) :=
  Qb0 (fun y1 =>
    some (y1, true)) fun k2 : Int → Option (Int × Bool) =>
  Qcu N p0 p1 k2 N 0 p0.First 0
def Qqv (p1 : (List Int)) : AV := .dat 1 ((p1 : List Int).map Qab)
def Qwm (p0 : GJob) : Slot := .own 5 [[(.dat 1 ((p0.Levels : List Int).map Qab)), (I (p0.Ramp)), (I (p0.Start)), (I (p0.First)), (.dat 2 ((p0.Hours : List GHour).map Qax))]]
def z128_3 (p0 : GJob) : AV := .agg [(.dat 1 ((p0.Levels : List Int).map Qab)), (I (p0.Ramp)), (I (p0.Start)), (I (p0.First)), (.dat 2 ((p0.Hours : List GHour).map Qax))]
set_option maxRecDepth 100000 in
set_option maxHeartbeats 4000000 in
theorem Qmm (N : Nat) (p0 : GJob) (p1 : (List Int)) (r : (Int × Bool)) (h : Qgw N p0 p1 = some r) : Spec Try.prog 76 [(.agg (Qhk p0)), (.dat 1 (p1.map Qab))] [] (.tup [(I r.1), (B r.2)]) [] := by
  refine Qae Try.func76 rfl 0 (nle rfl) (fun X φ0 w0 hφ0 => ?_)
  unfold Qgw at h
  refine wx tbk [] trivial ?_
  refine wx tbk [] trivial ?_
  obtain ⟨k2, hk_k2, h⟩ := jko h
  refine wjn (τ := Int) (fun t => k2 t = some r) (fun y1 => ⟨mk 36 [(4, I y1)], []⟩) (fun y1 h => ?_) ?_
  ·subst hk_k2
   refine wx tbk [] trivial ?_
   refine Qad ?_
   obtain rfl := osi h
   exact fend ⟨[I y1, B true], ⟨rot (by kernel_rfl), rot (by kernel_rfl), trivial⟩, rfl⟩ (NLt.tup _ (nlc nll (nlc nll nl0)))
  ·skip
   refine wx tbk [(1, rp [(.tmp 13, (Qqv p1))] (I ((p1.length : Int))))] ⟨alm (c := Qab) (l := p1) (aln rfl Try.underlying37 rfl), trivial⟩ ?_
   refine Qaf ?_
   refine wmr (mto (n := 36) (l' := [(2, .ref 0 5 0 0), (4, I 0), (6, I p0.First), (13, (Qqv p1)), (14, (I ((p1.length : Int)))), (15, I 0)]) (own' := [(Qwm p0)]) [(2, .ref 0 5 0 0), (4, I 0), (6, I p0.First), (13, (Qqv p1)), (14, (I ((p1.length : Int)))), (15, I 0)] [0] [(Qwm p0)] hφ0 (pc (.rn (rqr rfl)) (pc rwl (pc rwl (pc (.rn (.plain _ (nld Qaa _))) (pc rwl (pc rwl pn)))))) (qc (spb (lc (.rn (.plain _ (nld Qaa _))) (lc rwl (lc rwl (lc rwl (lc (.rn (.plain _ (nld Qac _))) ln)))))) qn)) ?_
   refine Qbk (τ := Int × Int × Int) (fun n t => Qcu N p0 p1 k2 n t.1 t.2.1 t.2.2 = some r) (fun ⟨y3, y4, y5⟩ => ⟨mk 36 [(2, .ref 0 5 0 0), (4, I y3), (6, I y4), (13, (Qqv p1)), (14, (I ((p1.length : Int)))), (15, I y5)], [(Qwm p0)]⟩) (fun t h => by rw [Qcu] at h; cases h) (fun n9 ih t h => ?_) N (0, p0.First, 0) h
   obtain ⟨y3, y4, y5⟩ := t
   rw [Qcu] at h
   skip
   refine wx tbk [] trivial ?_
   refine wsq ?_
   rcases bft ((decide (y5 < (p1.length : Int)))) with hc10 | hc10
   ·replace h := Qas hc10 h
    refine wft hc10 (by kernel_rfl) ?_
    refine Qai ?_
    refine thn ?_
    refine wsq ?_
    refine Qaf ?_
    obtain ⟨x11, hg12, h⟩ := bno h
    obtain ⟨hi13, hj14⟩ := gsm hg12
    refine wx tbk [(1, rp [(.tmp 13, (Qqv p1)), (.tmp 15, I y5)] (.dptr (Qab (x11)) 0))] ⟨aid rfl Try.underlying37 ti3 rfl rfl hi13 (mgt Qab hj14) rfl, trivial⟩ ?_
    obtain ⟨x16, hf15, h⟩ := bno h
    refine wx tbk [(4, rp [fu 70, (.tmp 21, (z128_3 p0)), (.tmp 22, I y5), (.tmp 23, I y4), (.tmp 24, I x11)] (.tup [I x16.1, B x16.2]))] ⟨apc (first := []) (cap := []) (vs := [(z128_3 p0), I y5, I y4, I x11]) rfl Qsd (Qgh N p0 y5 y4 x11 _ hf15) rfl rfl (nlc (NLt.agg _ (nlc (nld Qaa _) (nlc nll (nlc nll (nlc nll (nlc (nld Qac _) nl0)))))) (nlc nll (nlc nll (nlc nll nl0)))) (NLt.tup _ (nlc nll (nlc nll nl0))) rfl, trivial⟩ ?_
    refine wsq ?_
    refine wx tbk [] trivial ?_
    rcases bft ((!x16.2)) with hc17 | hc17
    ·replace h := Qas hc17 h
     refine wft hc17 (by kernel_rfl) ?_
     refine wx tbk [] trivial ?_
     refine Qad ?_
     refine Qam ?_
     refine Qay ?_
     refine Qam ?_
     refine Qam ?_
     refine Qay ?_
     refine Qam ?_
     obtain rfl := osi h
     exact fend ⟨[I 0, B false], ⟨rot (by kernel_rfl), rot (by kernel_rfl), trivial⟩, rfl⟩ (NLt.tup _ (nlc nll (nlc nll nl0)))
    ·replace h := Qat hc17 h
     refine wfn hc17 (by kernel_rfl) ?_
     refine Qai ?_
     refine thn ?_
     refine wx tbk [] trivial ?_
     refine wx1 tbk [] trivial ?_
     refine bln ?_
     refine thn ?_
     refine wx1 tbk [] trivial ?_
     refine thn ?_
     exact arm (mto (n := 36) [(2, .ref 0 5 0 0), (4, (I (w64 (y3 + x16.1)))), (6, I x11), (13, (Qqv p1)), (14, (I ((p1.length : Int)))), (15, (I (w64 (y5 + 1))))] [0] [(Qwm p0)] hφ0 (pc (.rn (rqr rfl)) (pc rwl (pc rwl (pc (.rn (.plain _ (nld Qaa _))) (pc rwl (pc rwl pn)))))) (qc (spb (lc (.rn (.plain _ (nld Qaa _))) (lc rwl (lc rwl (lc rwl (lc (.rn (.plain _ (nld Qac _))) ln)))))) qn)) (ih (w64 (y3 + x16.1), x11, w64 (y5 + 1)) h)
   ·replace h := Qat hc10 h
    refine wfn hc10 (by kernel_rfl) ?_
    refine Qa2 ?_
    refine Qaq ?_
    refine Qaq ?_
    refine Qa1 rfl ?_
    refine thn ?_
    exact ⟨(y3), h, (mto (n := 36) [(4, I y3)] [] [] hφ0 (pc rwl pn) qn)⟩
def Qh0 (N : Nat) (p0 : GJob) (p1 : (List Int)) : Option (Int × Int) :=
  Qb0 (fun _ =>
    (Qgw N p0 p1).bind fun x3 =>
    bif (!x3.2) then
     some (0, 1)
    else
     some (x3.1, 0)) fun k1 : Unit → Option (Int × Int) =>
  (Qe5 N p0).bind fun x6 =>
  bif (!x6) then
   some (0, 1)
  else
   bif ((p1.length : Int) != (p0.Hours.length : Int)) then
    some (0, 1)
   else
    k1 ()
def Qtd (p1 : (List Int)) : AV := .dat 1 ((p1 : List Int).map Qab)
def z127_1 (p0 : GJob) : AV := .dat 2 ((p0.Hours : List GHour).map Qax)
def z127_2 (p0 : GJob) : Slot := .own 5 [[(.dat 1 ((p0.Levels : List Int).map Qab)), (I (p0.Ramp)), (I (p0.Start)), (I (p0.First)), (z127_1 p0)]]
def Qqw (p0 : GJob) : AV := .agg [(.dat 1 ((p0.Levels : List Int).map Qab)), (I (p0.Ramp)), (I (p0.Start)), (I (p0.First)), (z127_1 p0)]
set_option maxRecDepth 100000 in
set_option maxHeartbeats 4000000 in
theorem Qoy (N : Nat) (p0 : GJob) (p1 : (List Int)) (r : (Int × Int)) (h : Qh0 N p0 p1 = some r) : Spec Try.prog 36 [(.agg (Qhk p0)), (.dat 1 (p1.map Qab))] [] (.tup [(I r.1), (I r.2)]) [] := by
  refine Qae Try.func36 rfl 0 (nle rfl) (fun X φ0 w0 hφ0 => ?_)
  unfold Qh0 at h
  refine wx tbk [] trivial ?_
  obtain ⟨k1, hk_k1, h⟩ := jko h
  refine wjn (τ := Unit) (fun t => k1 t = some r) (fun _ => ⟨mk 28 [(1, (Qtd p1)), (2, .ref 0 5 0 0)], [(z127_2 p0)]⟩) (fun t h => ?_) ?_
  ·subst hk_k1
   obtain ⟨x3, hf2, h⟩ := bno h
   refine wx tbk [(2, rp [fu 76, (.tmp 20, (Qqw p0)), (.tmp 21, (Qtd p1))] (.tup [I x3.1, B x3.2]))] ⟨apc (first := []) (cap := []) (vs := [(Qqw p0), (Qtd p1)]) rfl enter76 (Qmm N p0 p1 _ hf2) rfl rfl (nlc (NLt.agg _ (nlc (nld Qaa _) (nlc nll (nlc nll (nlc nll (nlc (nld Qac _) nl0)))))) (nlc (nld Qaa _) nl0)) (NLt.tup _ (nlc nll (nlc nll nl0))) rfl, trivial⟩ ?_
   refine wsq ?_
   refine wx tbk [] trivial ?_
   rcases bft ((!x3.2)) with hc4 | hc4
   ·replace h := Qas hc4 h
    refine wft hc4 (by kernel_rfl) ?_
    refine wx tbk [] trivial ?_
    refine Qad ?_
    refine Qam ?_
    obtain rfl := osi h
    exact fend ⟨[I 0, I 1], ⟨rot (by kernel_rfl), rot (by kernel_rfl), trivial⟩, rfl⟩ (NLt.tup _ (nlc nll (nlc nll nl0)))
   ·replace h := Qat hc4 h
    refine wfn hc4 (by kernel_rfl) ?_
    refine Qai ?_
    refine thn ?_
    refine wx tbk [] trivial ?_
    refine Qad ?_
    obtain rfl := osi h
    exact fend ⟨[I x3.1, I 0], ⟨rot (by kernel_rfl), rot (by kernel_rfl), trivial⟩, rfl⟩ (NLt.tup _ (nlc nll (nlc nll nl0)))
  ·skip
   obtain ⟨x6, hf5, h⟩ := bno h
   rcases bft ((!x6)) with hb7 | hb7
   ·replace h := Qas hb7 h
    refine wx tbk [(1, rp [fu 68, (.tmp 8, (Qqw p0))] (B x6)), (3, rp [(.tmp 10, (B ((!x6))))] (B true))] ⟨apc (first := []) (cap := []) (vs := [(Qqw p0)]) rfl Qvn (Qhe N p0 _ hf5) rfl rfl (nlc (NLt.agg _ (nlc (nld Qaa _) (nlc nll (nlc nll (nlc nll (nlc (nld Qac _) nl0)))))) nl0) nll rfl, asb hb7 (amv rfl), trivial⟩ ?_
    refine Qff (by kernel_rfl) ?_
    refine wx tbk [] trivial ?_
    refine Qad ?_
    refine Qam ?_
    obtain rfl := osi h
    exact fend ⟨[I 0, I 1], ⟨rot (by kernel_rfl), rot (by kernel_rfl), trivial⟩, rfl⟩ (NLt.tup _ (nlc nll (nlc nll nl0)))
   ·replace h := Qat hb7 h
    refine wx tbk [(1, rp [fu 68, (.tmp 8, (Qqw p0))] (B x6)), (3, rp [(.tmp 10, (B ((!x6))))] (B false)), (5, rp [(.tmp 11, B false), (.tmp 12, (Qtd p1))] (I ((p1.length : Int)))), (8, rp [(.tmp 11, B false), (.tmp 15, (z127_1 p0))] (I ((p0.Hours.length : Int))))] ⟨apc (first := []) (cap := []) (vs := [(Qqw p0)]) rfl Qvn (Qhe N p0 _ hf5) rfl rfl (nlc (NLt.agg _ (nlc (nld Qaa _) (nlc nll (nlc nll (nlc nll (nlc (nld Qac _) nl0)))))) nl0) nll rfl, asb hb7 (amv rfl), ag_ (alm (c := Qab) (l := p1) (aln rfl Try.underlying37 rfl)), ag_ (alm (c := Qax) (l := p0.Hours) (aln rfl Try.underlying45 rfl)), trivial⟩ ?_
    rcases bft (((p1.length : Int) != (p0.Hours.length : Int))) with hc8 | hc8
    ·replace h := Qas hc8 h
     refine wft hc8 (by kernel_rfl) ?_
     refine wx tbk [] trivial ?_
     refine Qad ?_
     refine Qam ?_
     obtain rfl := osi h
     exact fend ⟨[I 0, I 1], ⟨rot (by kernel_rfl), rot (by kernel_rfl), trivial⟩, rfl⟩ (NLt.tup _ (nlc nll (nlc nll nl0)))
    ·replace h := Qat hc8 h
     refine wfn hc8 (by kernel_rfl) ?_
     refine Qai ?_
     refine thn ?_
     exact ⟨(), h, (mto (n := 28) [(1, (Qtd p1)), (2, .ref 0 5 0 0)] [0] [(z127_2 p0)] hφ0 (pc (.rn (.plain _ (nld Qaa _))) (pc (.rn (rqr rfl)) pn)) (qc (spb (lc (.rn (.plain _ (nld Qaa _))) (lc rwl (lc rwl (lc rwl (lc (.rn (.plain _ (nld Qac _))) ln)))))) qn))⟩
def Qet (N : Nat) (p0 : GJob) (p1 : Int) (p2 : Int) (p3 : Int) : Option Bool :=
  bif (decide (p3 ≥ 0)) then
   bif (decide (p3 < (p0.Levels.length : Int))) then
    (Qez N (w64 (p3 - p2)) (w64 (0 - p0.Ramp)) p0.Ramp).bind fun x4 =>
    bif x4 then
     (getI p0.Levels p3).bind fun x6 =>
     (getI p0.Hours p1).bind fun x10 =>
     some (decide (x6 ≤ x10.Most))
    else
     some false
   else
    some false
  else
   some false
def Qwj (p0 : GJob) : AV := .dat 1 ((p0.Levels : List Int).map Qab)
def z130_1 (p0 : GJob) : AV := .dat 2 ((p0.Hours : List GHour).map Qax)
set_option maxRecDepth 100000 in
set_option maxHeartbeats 4000000 in
theorem Qfu (N : Nat) (p0 : GJob) (p1 : Int) (p2 : Int) (p3 : Int) (r : Bool) (h : Qet N p0 p1 p2 p3 = some r) : Spec Try.prog 77 [(.agg (Qhk p0)), (I p1), (I p2), (I p3)] [] (B r) [] := by
  refine Qae Try.func77 rfl 0 (nle rfl) (fun X φ0 w0 hφ0 => ?_)
  unfold Qet at h
  refine wx tbk [] trivial ?_
  rcases bft ((decide (p3 ≥ 0))) with hb1 | hb1
  ·replace h := Qas hb1 h
   rcases bft ((decide (p3 < (p0.Levels.length : Int)))) with hb2 | hb2
   ·replace h := Qas hb2 h
    obtain ⟨x4, hf3, h⟩ := bno h
    rcases bft (x4) with hb5 | hb5
    ·replace h := Qas hb5 h
     obtain ⟨x6, hg7, h⟩ := bno h
     obtain ⟨hi8, hj9⟩ := gsm hg7
     obtain ⟨x10, hg11, h⟩ := bno h
     obtain ⟨hi12, hj13⟩ := gsm hg11
     refine wxd tbk [(2, rp [(.tmp 10, (B ((decide (p3 ≥ 0)))))] (B true)), (6, rp [(.tmp 11, B true), (.tmp 14, (Qwj p0))] (I ((p0.Levels.length : Int)))), (9, rp [(.tmp 17, (B ((decide (p3 < (p0.Levels.length : Int))))))] (B true)), (18, rp [(.tmp 18, B true), fu 25, (.tmp 21, (I (w64 (p3 - p2)))), (.tmp 24, (I (w64 (0 - p0.Ramp)))), (.tmp 26, I p0.Ramp)] (B x4)), (20, rp [(.tmp 28, B x4)] (B true)), (24, rp [(.tmp 29, B true), (.tmp 31, (Qwj p0)), (.tmp 32, I p3)] (.dptr (Qab (x6)) 0)), (29, rp [(.tmp 29, B true), (.tmp 36, (z130_1 p0)), (.tmp 37, I p1)] (.dptr (Qax (x10)) 0))] ⟨asb hb1 (amv rfl), ag_ (alm (c := Qab) (l := p0.Levels) (aln rfl Try.underlying37 rfl)), asb hb2 (amv rfl), ag_ (apc (first := []) (cap := []) (vs := [(I (w64 (p3 - p2))), (I (w64 (0 - p0.Ramp))), I p0.Ramp]) rfl Qfn (Qb4 N (w64 (p3 - p2)) (w64 (0 - p0.Ramp)) p0.Ramp _ hf3) rfl rfl (nlc nll (nlc nll (nlc nll nl0))) nll rfl), asb hb5 (amv rfl), ag_ (aid rfl Try.underlying37 ti3 rfl rfl hi8 (mgt Qab hj9) rfl), ag_ (aid rfl Try.underlying38 Qth rfl rfl hi12 (mgt Qax hj13) rfl), trivial⟩ ?_
     refine Qad ?_
     obtain rfl := osi h
     exact fend ⟨[(B ((decide (x6 ≤ x10.Most))))], ⟨rot (by kernel_rfl), trivial⟩, rfl⟩ nll
    ·replace h := Qat hb5 h
     refine wxd tbk [(2, rp [(.tmp 10, (B ((decide (p3 ≥ 0)))))] (B true)), (6, rp [(.tmp 11, B true), (.tmp 14, (Qwj p0))] (I ((p0.Levels.length : Int)))), (9, rp [(.tmp 17, (B ((decide (p3 < (p0.Levels.length : Int))))))] (B true)), (18, rp [(.tmp 18, B true), fu 25, (.tmp 21, (I (w64 (p3 - p2)))), (.tmp 24, (I (w64 (0 - p0.Ramp)))), (.tmp 26, I p0.Ramp)] (B x4)), (20, rp [(.tmp 28, B x4)] (B false))] ⟨asb hb1 (amv rfl), ag_ (alm (c := Qab) (l := p0.Levels) (aln rfl Try.underlying37 rfl)), asb hb2 (amv rfl), ag_ (apc (first := []) (cap := []) (vs := [(I (w64 (p3 - p2))), (I (w64 (0 - p0.Ramp))), I p0.Ramp]) rfl Qfn (Qb4 N (w64 (p3 - p2)) (w64 (0 - p0.Ramp)) p0.Ramp _ hf3) rfl rfl (nlc nll (nlc nll (nlc nll nl0))) nll rfl), asb hb5 (amv rfl), trivial⟩ ?_
     refine Qad ?_
     obtain rfl := osi h
     exact fend ⟨[B false], ⟨rot (by kernel_rfl), trivial⟩, rfl⟩ nll
   ·replace h := Qat hb2 h
    refine wxd tbk [(2, rp [(.tmp 10, (B ((decide (p3 ≥ 0)))))] (B true)), (6, rp [(.tmp 11, B true), (.tmp 14, (Qwj p0))] (I ((p0.Levels.length : Int)))), (9, rp [(.tmp 17, (B ((decide (p3 < (p0.Levels.length : Int))))))] (B false))] ⟨asb hb1 (amv rfl), ag_ (alm (c := Qab) (l := p0.Levels) (aln rfl Try.underlying37 rfl)), asb hb2 (amv rfl), trivial⟩ ?_
    refine Qad ?_
    obtain rfl := osi h
    exact fend ⟨[B false], ⟨rot (by kernel_rfl), trivial⟩, rfl⟩ nll
  ·replace h := Qat hb1 h
   refine wxd tbk [(2, rp [(.tmp 10, (B ((decide (p3 ≥ 0)))))] (B false))] ⟨asb hb1 (amv rfl), trivial⟩ ?_
   refine Qad ?_
   obtain rfl := osi h
   exact fend ⟨[B false], ⟨rot (by kernel_rfl), trivial⟩, rfl⟩ nll
def Qha (_N : Nat) (p0 : GJob) (p1 : Int) (p2 : Int) (p3 : Int) : Option Int :=
  (getI p0.Hours p1).bind fun x1 =>
  (getI p0.Levels p3).bind fun x5 =>
  bif (p2 == 0) then
   bif (decide (p3 > 0)) then
    (some (w64 ((w64 (x1.Price * x5)) - p0.Start))).bind fun x11 =>
    some x11
   else
    some (w64 (x1.Price * x5))
  else
   some (w64 (x1.Price * x5))
def z131_1 (p0 : GJob) : AV := .dat 2 ((p0.Hours : List GHour).map Qax)
def z131_0 (p0 : GJob) : AV := .dat 1 ((p0.Levels : List Int).map Qab)
set_option maxRecDepth 100000 in
set_option maxHeartbeats 4000000 in
theorem Qj2 (N : Nat) (p0 : GJob) (p1 : Int) (p2 : Int) (p3 : Int) (r : Int) (h : Qha N p0 p1 p2 p3 = some r) : Spec Try.prog 78 [(.agg (Qhk p0)), (I p1), (I p2), (I p3)] [] (I r) [] := by
  refine Qae Try.func78 rfl 0 (nle rfl) (fun X φ0 w0 hφ0 => ?_)
  unfold Qha at h
  refine wx tbk [] trivial ?_
  obtain ⟨x1, hg2, h⟩ := bno h
  obtain ⟨hi3, hj4⟩ := gsm hg2
  obtain ⟨x5, hg6, h⟩ := bno h
  obtain ⟨hi7, hj8⟩ := gsm hg6
  refine wxd tbk [(3, rp [(.tmp 11, (z131_1 p0)), (.tmp 12, I p1)] (.dptr (Qax (x1)) 0)), (9, rp [(.tmp 17, (z131_0 p0)), (.tmp 18, I p3)] (.dptr (Qab (x5)) 0))] ⟨aid rfl Try.underlying38 Qth rfl rfl hi3 (mgt Qax hj4) rfl, aid rfl Try.underlying37 ti3 rfl rfl hi7 (mgt Qab hj8) rfl, trivial⟩ ?_
  refine wsq ?_
  rcases bft ((p2 == 0)) with hb9 | hb9
  ·replace h := Qas hb9 h
   refine wx tbk [(2, rp [(.tmp 23, (B ((p2 == 0))))] (B true))] ⟨asb hb9 (amv rfl), trivial⟩ ?_
   rcases bft ((decide (p3 > 0))) with hc10 | hc10
   ·replace h := Qas hc10 h
    refine wft hc10 (by kernel_rfl) ?_
    obtain ⟨x11, hl12, h⟩ := bno h
    refine wx1 tbk [(4, rp [(.tmp 31, (I (w64 ((w64 (x1.Price * x5)) - p0.Start))))] (I x11))] ⟨Qfo hl12 (aas rfl), trivial⟩ ?_
    refine thn ?_
    refine wx tbk [] trivial ?_
    refine Qad ?_
    obtain rfl := osi h
    exact fend ⟨[I x11], ⟨rot (by kernel_rfl), trivial⟩, rfl⟩ nll
   ·replace h := Qat hc10 h
    refine wfn hc10 (by kernel_rfl) ?_
    refine Qai ?_
    refine thn ?_
    refine wx tbk [] trivial ?_
    refine Qad ?_
    obtain rfl := osi h
    exact fend ⟨[(I (w64 (x1.Price * x5)))], ⟨rot (by kernel_rfl), trivial⟩, rfl⟩ nll
  ·replace h := Qat hb9 h
   refine wx tbk [(2, rp [(.tmp 23, (B ((p2 == 0))))] (B false))] ⟨asb hb9 (amv rfl), trivial⟩ ?_
   refine Qd2 (by kernel_rfl) ?_
   refine Qai ?_
   refine thn ?_
   refine wx tbk [] trivial ?_
   refine Qad ?_
   obtain rfl := osi h
   exact fend ⟨[(I (w64 (x1.Price * x5)))], ⟨rot (by kernel_rfl), trivial⟩, rfl⟩ nll
def Qdr (N : Nat) (p0 : GJob) (p1 : (List Int)) (k3 : Int → Option (Int × Bool)) : Nat → Int → Int → Int → Option (Int × Bool)
  | 0, _, _, _ => none
  | n10 + 1, y4, y5, y6 =>
    bif (decide (y6 < (p1.length : Int))) then
     (getI p1 y6).bind fun x12 =>
     (Qet N p0 y6 y5 x12).bind fun x17 =>
     bif (!x17) then
      some (0, false)
     else
      (Qha N p0 y6 y5 x12).bind fun x20 =>
      Qdr N p0 p1 k3 n10 (w64 (y4 + x20)) x12 (w64 (y6 + 1))
    else
     k3 (y4)
def Qgt (N : Nat) (p0 : GJob) (p1 : (List Int)) : Option (Int × Bool) :=
  bif ((p1.length : Int) != (p0.Hours.length : Int)) then
   some (0, false)
  else
   Qb0 (fun y2 =>
     some (y2, true)) fun k3 : Int → Option (Int × Bool) =>
   Qdr N p0 p1 k3 N 0 p0.First 0
def Qm8 (p1 : (List Int)) : AV := .dat 1 ((p1 : List Int).map Qab)
def z129_1 (p0 : GJob) : AV := .dat 2 ((p0.Hours : List GHour).map Qax)
def Qwl (p0 : GJob) : Slot := .own 5 [[(.dat 1 ((p0.Levels : List Int).map Qab)), (I (p0.Ramp)), (I (p0.Start)), (I (p0.First)), (z129_1 p0)]]
def Qwk (p0 : GJob) : AV := .agg [(.dat 1 ((p0.Levels : List Int).map Qab)), (I (p0.Ramp)), (I (p0.Start)), (I (p0.First)), (z129_1 p0)]
set_option maxRecDepth 100000 in
set_option maxHeartbeats 4000000 in
theorem Qk3 (N : Nat) (p0 : GJob) (p1 : (List Int)) (r : (Int × Bool)) (h : Qgt N p0 p1 = some r) : Spec Try.prog 38 [(.agg (Qhk p0)), (.dat 1 (p1.map Qab))] [] (.tup [(I r.1), (B r.2)]) [] := by
  refine Qae Try.func38 rfl 0 (nle rfl) (fun X φ0 w0 hφ0 => ?_)
  unfold Qgt at h
  refine wx tbk [] trivial ?_
  refine wsq ?_
  refine wx tbk [(1, rp [(.tmp 9, (Qm8 p1))] (I ((p1.length : Int)))), (4, rp [(.tmp 12, (z129_1 p0))] (I ((p0.Hours.length : Int))))] ⟨alm (c := Qab) (l := p1) (aln rfl Try.underlying37 rfl), alm (c := Qax) (l := p0.Hours) (aln rfl Try.underlying38 rfl), trivial⟩ ?_
  rcases bft (((p1.length : Int) != (p0.Hours.length : Int))) with hc1 | hc1
  ·replace h := Qas hc1 h
   refine wft hc1 (by kernel_rfl) ?_
   refine wx tbk [] trivial ?_
   refine Qad ?_
   refine Qam ?_
   obtain rfl := osi h
   exact fend ⟨[I 0, B false], ⟨rot (by kernel_rfl), rot (by kernel_rfl), trivial⟩, rfl⟩ (NLt.tup _ (nlc nll (nlc nll nl0)))
  ·replace h := Qat hc1 h
   refine wfn hc1 (by kernel_rfl) ?_
   refine Qai ?_
   refine thn ?_
   refine wxd tbk [] trivial ?_
   obtain ⟨k3, hk_k3, h⟩ := jko h
   refine wjn (τ := Int) (fun t => k3 t = some r) (fun y2 => ⟨mk 47 [(6, I y2)], []⟩) (fun y2 h => ?_) ?_
   ·subst hk_k3
    refine wx tbk [] trivial ?_
    refine Qad ?_
    obtain rfl := osi h
    exact fend ⟨[I y2, B true], ⟨rot (by kernel_rfl), rot (by kernel_rfl), trivial⟩, rfl⟩ (NLt.tup _ (nlc nll (nlc nll nl0)))
   ·skip
    refine wx tbk [] trivial ?_
    refine Qaf ?_
    refine wmr (mto (n := 47) (l' := [(1, (Qm8 p1)), (2, .ref 0 5 0 0), (6, I 0), (7, I p0.First), (8, I 0)]) (own' := [(Qwl p0)]) [(1, (Qm8 p1)), (2, .ref 0 5 0 0), (6, I 0), (7, I p0.First), (8, I 0)] [0] [(Qwl p0)] hφ0 (pc (.rn (.plain _ (nld Qaa _))) (pc (.rn (rqr rfl)) (pc rwl (pc rwl (pc rwl pn))))) (qc (spb (lc (.rn (.plain _ (nld Qaa _))) (lc rwl (lc rwl (lc rwl (lc (.rn (.plain _ (nld Qac _))) ln)))))) qn)) ?_
    refine Qbk (τ := Int × Int × Int) (fun n t => Qdr N p0 p1 k3 n t.1 t.2.1 t.2.2 = some r) (fun ⟨y4, y5, y6⟩ => ⟨mk 47 [(1, (Qm8 p1)), (2, .ref 0 5 0 0), (6, I y4), (7, I y5), (8, I y6)], [(Qwl p0)]⟩) (fun t h => by rw [Qdr] at h; cases h) (fun n10 ih t h => ?_) N (0, p0.First, 0) h
    obtain ⟨y4, y5, y6⟩ := t
    rw [Qdr] at h
    skip
    refine wsq ?_
    refine wx tbk [(2, rp [(.tmp 18, (Qm8 p1))] (I ((p1.length : Int))))] ⟨alm (c := Qab) (l := p1) (aln rfl Try.underlying37 rfl), trivial⟩ ?_
    rcases bft ((decide (y6 < (p1.length : Int)))) with hc11 | hc11
    ·replace h := Qas hc11 h
     refine wft hc11 (by kernel_rfl) ?_
     refine Qai ?_
     refine thn ?_
     refine wsq ?_
     refine Qaf ?_
     refine wsq ?_
     obtain ⟨x12, hg13, h⟩ := bno h
     obtain ⟨hi14, hj15⟩ := gsm hg13
     obtain ⟨x17, hf16, h⟩ := bno h
     refine wxd tbk [(5, rp [(.tmp 26, (Qm8 p1)), (.tmp 27, I y6)] (.dptr (Qab (x12)) 0)), (7, rp [fu 77, (.tmp 23, (Qwk p0)), (.tmp 24, I y6), (.tmp 25, I y5), (.tmp 29, I x12)] (B x17))] ⟨aid rfl Try.underlying37 ti3 rfl rfl hi14 (mgt Qab hj15) rfl, apc (first := []) (cap := []) (vs := [(Qwk p0), I y6, I y5, I x12]) rfl Qp2 (Qfu N p0 y6 y5 x12 _ hf16) rfl rfl (nlc (NLt.agg _ (nlc (nld Qaa _) (nlc nll (nlc nll (nlc nll (nlc (nld Qac _) nl0)))))) (nlc nll (nlc nll (nlc nll nl0)))) nll rfl, trivial⟩ ?_
     rcases bft ((!x17)) with hc18 | hc18
     ·replace h := Qas hc18 h
      refine wft hc18 (by kernel_rfl) ?_
      refine wx tbk [] trivial ?_
      refine Qad ?_
      refine Qam ?_
      refine Qay ?_
      refine Qam ?_
      refine Qam ?_
      refine Qay ?_
      refine Qam ?_
      obtain rfl := osi h
      exact fend ⟨[I 0, B false], ⟨rot (by kernel_rfl), rot (by kernel_rfl), trivial⟩, rfl⟩ (NLt.tup _ (nlc nll (nlc nll nl0)))
     ·replace h := Qat hc18 h
      refine wfn hc18 (by kernel_rfl) ?_
      refine Qai ?_
      refine thn ?_
      obtain ⟨x20, hf19, h⟩ := bno h
      refine wxd tbk [(6, rp [(.tmp 36, (Qm8 p1)), (.tmp 37, I y6)] (.dptr (Qab (x12)) 0)), (8, rp [fu 78, (.tmp 33, (Qwk p0)), (.tmp 34, I y6), (.tmp 35, I y5), (.tmp 39, I x12)] (I x20))] ⟨aid rfl Try.underlying37 ti3 rfl rfl hi14 (mgt Qab hj15) rfl, apc (first := []) (cap := []) (vs := [(Qwk p0), I y6, I y5, I x12]) rfl Qvm (Qj2 N p0 y6 y5 x12 _ hf19) rfl rfl (nlc (NLt.agg _ (nlc (nld Qaa _) (nlc nll (nlc nll (nlc nll (nlc (nld Qac _) nl0)))))) (nlc nll (nlc nll (nlc nll nl0)))) nll rfl, trivial⟩ ?_
      refine wx1 tbk [(2, rp [(.tmp 42, (Qm8 p1)), (.tmp 43, I y6)] (.dptr (Qab (x12)) 0))] ⟨aid rfl Try.underlying37 ti3 rfl rfl hi14 (mgt Qab hj15) rfl, trivial⟩ ?_
      refine bln ?_
      refine thn ?_
      refine wx1 tbk [] trivial ?_
      refine thn ?_
      exact arm (mto (n := 47) [(1, (Qm8 p1)), (2, .ref 0 5 0 0), (6, (I (w64 (y4 + x20)))), (7, I x12), (8, (I (w64 (y6 + 1))))] [0] [(Qwl p0)] hφ0 (pc (.rn (.plain _ (nld Qaa _))) (pc (.rn (rqr rfl)) (pc rwl (pc rwl (pc rwl pn))))) (qc (spb (lc (.rn (.plain _ (nld Qaa _))) (lc rwl (lc rwl (lc rwl (lc (.rn (.plain _ (nld Qac _))) ln)))))) qn)) (ih (w64 (y4 + x20), x12, w64 (y6 + 1)) h)
    ·replace h := Qat hc11 h
     refine wfn hc11 (by kernel_rfl) ?_
     refine Qa2 ?_
     refine Qaq ?_
     refine Qaq ?_
     refine Qa1 rfl ?_
     refine thn ?_
     exact ⟨(y4), h, (mto (n := 47) [(6, I y4)] [] [] hφ0 (pc rwl pn) qn)⟩
def Qec (N : Nat) (p0 : (List (List Int))) (k2 : (List (List Int)) → Option (List (List Int))) : Nat → (List (List Int)) → Int → Option (List (List Int))
  | 0, _, _ => none
  | n7 + 1, y3, y4 =>
    bif (decide (y4 < (p0.length : Int))) then
     (getI p0 y4).bind fun x9 =>
     (Qf5 N x9).bind fun x14 =>
     chk (decide ((y3.length + ([x14]).length) * 24 ≤ 140737488355328)) <|
     Qec N p0 k2 n7 (y3 ++ ([x14])) (w64 (y4 + 1))
    else
     k2 (y3)
def Qjn (N : Nat) (p0 : (List (List Int))) : Option (List (List Int)) :=
  Qb0 (fun y1 =>
    some y1) fun k2 : (List (List Int)) → Option (List (List Int)) =>
  Qec N p0 k2 N ([]) 0
def Qqu (p0 : (List (List Int))) : AV := .dat 1 ((p0 : List (List Int)).map Qa3)
def Qva (y3 : (List (List Int))) : AV := .acc 0 37 1 ((y3 : List (List Int)).map Qa3)
set_option maxRecDepth 100000 in
set_option maxHeartbeats 4000000 in
theorem Qmo (N : Nat) (p0 : (List (List Int))) (r : (List (List Int))) (h : Qjn N p0 = some r) : Spec Try.prog 56 [(.dat 1 (p0.map Qa3))] [] (.dat 1 (r.map Qa3)) [] := by
  refine Qae Try.func56 rfl 0 (nle rfl) (fun X φ0 w0 hφ0 => ?_)
  unfold Qjn at h
  refine wx tbk [] trivial ?_
  refine wx tbk [] trivial ?_
  obtain ⟨k2, hk_k2, h⟩ := jko h
  refine wjn (τ := (List (List Int))) (fun t => k2 t = some r) (fun y1 => ⟨mk 20 [(3, (.acc 0 37 1 ((y1 : List (List Int)).map Qa3)))], [.tok]⟩) (fun y1 h => ?_) ?_
  ·subst hk_k2
   refine wx tbk [] trivial ?_
   refine Qad ?_
   obtain rfl := osi h
   exact fend ⟨[(.dat 1 ((y1 : List (List Int)).map Qa3))], ⟨Qga (v := (.acc 0 37 1 ((y1 : List (List Int)).map Qa3))) (rot (by kernel_rfl)) Less.acc, trivial⟩, rfl⟩ (nld Qa4 _)
  ·skip
   refine wx tbk [] trivial ?_
   refine Qaf ?_
   refine wmr (Mor.trans (Qr1 0 37 1 3 (by kernel_rfl) (by kernel_rfl)) (mto (n := 20) (l' := [(0, (Qqu p0)), (3, (.acc 0 37 1 ((([]) : List (List Int)).map Qa3))), (4, I 0)]) (own' := [.tok]) [(0, (Qqu p0)), (3, (.acc 0 37 1 (([] : List (List Int)).map Qa3))), (4, I 0)] [0] [.tok] hφ0 (pc (.rn (.plain _ (nld Qa4 _))) (pc (.rn (Qg9 rfl (Qfm Qa4 _))) (pc rwl pn))) (qc .tok qn))) ?_
   refine Qbk (τ := (List (List Int)) × Int) (fun n t => Qec N p0 k2 n t.1 t.2 = some r) (fun ⟨y3, y4⟩ => ⟨mk 20 [(0, (Qqu p0)), (3, (Qva y3)), (4, I y4)], [.tok]⟩) (fun t h => by rw [Qec] at h; cases h) (fun n7 ih t h => ?_) N ([], 0) h
   obtain ⟨y3, y4⟩ := t
   rw [Qec] at h
   skip
   refine wsq ?_
   refine wx tbk [(2, rp [(.tmp 6, (Qqu p0))] (I ((p0.length : Int))))] ⟨alm (c := Qa3) (l := p0) (aln rfl Try.underlying42 rfl), trivial⟩ ?_
   rcases bft ((decide (y4 < (p0.length : Int)))) with hc8 | hc8
   ·replace h := Qas hc8 h
    refine wft hc8 (by kernel_rfl) ?_
    refine Qai ?_
    refine thn ?_
    refine wsq ?_
    refine Qaf ?_
    obtain ⟨x9, hg10, h⟩ := bno h
    obtain ⟨hi11, hj12⟩ := gsm hg10
    obtain ⟨x14, hf13, h⟩ := bno h
    obtain ⟨ha15, h⟩ := cko h
    refine wx1 tbk [(3, rp [(.tmp 12, (Qqu p0)), (.tmp 13, I y4)] (.dptr (Qa3 (x9)) 0)), (5, rp [fu 37, (.tmp 15, (.dat 1 ((x9 : List Int).map Qab)))] (.dat 1 ((x14 : List Int).map Qab))), (6, rp [(.tmp 16, (.dat 1 ((x14 : List Int).map Qab)))] (.dat 1 (([x14] : List (List Int)).map Qa3))), (7, ⟨[(.tmp 11, (Qva y3)), (.tmp 17, (.dat 1 (([x14] : List (List Int)).map Qa3)))], [(0, .tok), (1, .unused)], (.acc 1 37 1 ((y3 ++ ([x14]) : List (List Int)).map Qa3)), [(0, .dead), (1, .tok)], false⟩)] ⟨aid rfl Try.underlying42 ti37 rfl rfl hi11 (mgt Qa3 hj12) rfl, apc (first := []) (cap := []) (vs := [(.dat 1 ((x9 : List Int).map Qab))]) rfl Qse (Qic N x9 _ hf13) rfl rfl (nlc (nld Qaa _) nl0) (nld Qaa _) rfl, Qct (vs := [(.dat 1 ((x14 : List Int).map Qab))]) rfl Try.underlying42 ti37 tz37 rfl (by decide) rfl (by decide) (by rfl) (by rfl) (by rfl) rfl, Qg4 rfl Try.underlying42 te37 (Base.acc _ _) rfl rfl (by rfl) (Qoj Qa3 ha15) (Qoi Qa3 ha15 (by decide)) (Qoh Qa3) rfl rfl, trivial⟩ ?_
    refine bln ?_
    refine thn ?_
    refine wx1 tbk [] trivial ?_
    refine thn ?_
    exact arm (mto (n := 20) [(0, (Qqu p0)), (3, (.acc 1 37 1 ((y3 ++ ([x14]) : List (List Int)).map Qa3))), (4, (I (w64 (y4 + 1))))] [1] [.tok] hφ0 (pc (.rn (.plain _ (nld Qa4 _))) (pc (.rn (Qg9 rfl (Qfm Qa4 _))) (pc rwl pn))) (qc .tok qn)) (ih (y3 ++ ([x14]), w64 (y4 + 1)) h)
   ·replace h := Qat hc8 h
    refine wfn hc8 (by kernel_rfl) ?_
    refine Qa2 ?_
    refine Qaq ?_
    refine Qaq ?_
    refine Qa1 rfl ?_
    refine thn ?_
    exact ⟨(y3), h, (mto (n := 20) [(3, (Qva y3))] [0] [.tok] hφ0 (pc (.rn (Qg9 rfl (Qfm Qa4 _))) pn) (qc .tok qn))⟩
def Qe3 (N : Nat) (p0 : Int) : Option Bool :=
  (Qbh N p0 (-1000000000000) 1000000000000).bind fun x2 =>
  some x2
set_option maxRecDepth 100000 in
set_option maxHeartbeats 4000000 in
theorem Qj4 (N : Nat) (p0 : Int) (r : Bool) (h : Qe3 N p0 = some r) : Spec Try.prog 90 [(I p0)] [] (B r) [] := by
  refine Qae Try.func90 rfl 0 (nle rfl) (fun X φ0 w0 hφ0 => ?_)
  unfold Qe3 at h
  refine wx tbk [] trivial ?_
  obtain ⟨x2, hf1, h⟩ := bno h
  refine wx tbk [(1, rp [fu 65, (.tmp 3, I p0), ci (-1000000000000), ci 1000000000000] (B x2))] ⟨apc (first := []) (cap := []) (vs := [I p0, (I ((-1000000000000))), I 1000000000000]) rfl Qbu (Qah N p0 (-1000000000000) 1000000000000 _ hf1) rfl rfl (nlc nll (nlc nll (nlc nll nl0))) nll rfl, trivial⟩ ?_
  refine Qad ?_
  obtain rfl := osi h
  exact fend ⟨[B x2], ⟨rot (by kernel_rfl), trivial⟩, rfl⟩ nll
def Qe9 (N : Nat) (p0 : Int) : Option Bool :=
  (Qe3 N p0).bind fun x3 =>
  some (!x3)
def Qwf : Slot := .own 1 [[(.fn (.func 90) [] [])]]
set_option maxRecDepth 100000 in
set_option maxHeartbeats 4000000 in
theorem Qlp (N : Nat) (p0 : Int) (r : Bool) (h : Qe9 N p0 = some r) : Spec Try.prog 110 [(I (p0)), (.ref 0 1 (0) 0)] [Qwf] (B (r)) [Qwf] := by
  refine Qae Try.func110 rfl 1 (nle rfl) (fun X φ0 w0 hφ0 => ?_)
  unfold Qe9 at h
  refine Qbp ?_
  refine wx tbk [] trivial ?_
  obtain ⟨x3, hf2, h⟩ := bno h
  refine wx tbk [(2, rp [(.tmp 4, (.fn (.func 90) [] [])), (.tmp 5, I p0)] (B x3))] ⟨apc (first := []) (cap := []) (vs := [I p0]) rfl enter90 (Qj4 N p0 _ hf2) rfl rfl (nlc nll nl0) nll rfl, trivial⟩ ?_
  refine wmr (mto (n := 8) (l' := [(3, (B ((!x3))))]) (own' := [Qwf]) [(3, (B ((!x3))))] [0] [Qwf] hφ0 (pc rwl pn) (qc (spb (lc (.rn (Qar rn0 rn0)) ln)) qn)) ?_
  refine Qad ?_
  obtain rfl := osi h
  exact ⟨_, Mor.rfl, Qb9 (vs := [(B ((!x3)))]) ⟨rot (by kernel_rfl), trivial⟩ rfl (NLt.of0 nll) (by kernel_rfl) (Qak (Qaw (nlc (NLt.of0 (NLt.fn _ _ _ nl0 nl0)) nl0)) Qbi)⟩
def Qbn (N : Nat) (p0 : (List Int)) (k2 : Unit → Option Int) : Nat → Int → Option Int
  | 0, _ => none
  | n5 + 1, y3 =>
    bif (decide (y3 < (p0.length : Int))) then
     (getI p0 y3).bind fun x7 =>
     (Qe9 N x7).bind fun x12 =>
     bif x12 then
      some y3
     else
      Qbn N p0 k2 n5 (w64 (y3 + 1))
    else
     k2 ()
def Qd5 (N : Nat) (p0 : (List Int)) : Option Int :=
  Qb0 (fun _ =>
    some (-1)) fun k2 : Unit → Option Int =>
  Qbn N p0 k2 N 0
def Qpb (p0 : (List Int)) : AV := .dat 1 ((p0 : List Int).map Qab)
def Qqs : AV := .fn (.func 110) [] [(.ref 0 1 (0) 0)]
def Qi0 : Slot := .own 1 [[(.fn (.func 90) [] [])]]
set_option maxRecDepth 100000 in
set_option maxHeartbeats 4000000 in
theorem Qih (N : Nat) (p0 : (List Int)) (r : Int) (h : Qd5 N p0 = some r) : Spec Try.prog 71 [(Qpb p0), Qqs] [Qi0] (I (r)) [Qi0] := by
  refine Qae Try.func71 rfl 1 (nle rfl) (fun X φ0 w0 hφ0 => ?_)
  unfold Qd5 at h
  refine Qbp ?_
  refine wx tbk [] trivial ?_
  obtain ⟨k2, hk_k2, h⟩ := jko h
  refine wjn (τ := Unit) (fun t => k2 t = some r) (fun _ => ⟨mk 19 [], [Qi0]⟩) (fun t h => ?_) ?_
  ·subst hk_k2
   refine wx tbk [] trivial ?_
   refine wmr (mto (n := 19) (l' := [(4, (I ((-1))))]) (own' := [Qi0]) [(4, (I ((-1))))] [0] [Qi0] hφ0 (pc rwl pn) (qc (spb (lc (.rn (Qar rn0 rn0)) ln)) qn)) ?_
   refine Qad ?_
   obtain rfl := osi h
   exact ⟨_, Mor.rfl, Qb9 (vs := [(I ((-1)))]) ⟨rot (by kernel_rfl), trivial⟩ rfl (NLt.of0 nll) (by kernel_rfl) (Qak (Qaw (nlc (NLt.of0 (NLt.fn _ _ _ nl0 nl0)) nl0)) Qbi)⟩
  ·skip
   refine wx tbk [(1, rp [(.tmp 6, (Qpb p0))] (I ((p0.length : Int))))] ⟨alm (c := Qab) (l := p0) (aln rfl Try.underlying37 rfl), trivial⟩ ?_
   refine Qaf ?_
   refine wmr (mto (n := 19) (l' := [(0, (Qpb p0)), (1, Qqs), (7, (I ((p0.length : Int)))), (8, I 0)]) (own' := [Qi0]) [(0, (Qpb p0)), (1, Qqs), (7, (I ((p0.length : Int)))), (8, I 0)] [0] [Qi0] hφ0 (pc (.rn (.plain _ (nld Qaa _))) (pc (.rn (Qar rn0 (rnc (rqr rfl) rn0))) (pc rwl (pc rwl pn)))) (qc (spb (lc (.rn (Qar rn0 rn0)) ln)) qn)) ?_
   refine Qbk (τ := Int) (fun n t => Qbn N p0 k2 n t = some r) (fun y3 => ⟨mk 19 [(0, (Qpb p0)), (1, Qqs), (7, (I ((p0.length : Int)))), (8, I y3)], [Qi0]⟩) (fun t h => by rw [Qbn] at h; cases h) (fun n5 ih y3 h => ?_) N (0) h
   rw [Qbn] at h
   skip
   refine wx tbk [] trivial ?_
   refine wsq ?_
   rcases bft ((decide (y3 < (p0.length : Int)))) with hc6 | hc6
   ·replace h := Qas hc6 h
    refine wft hc6 (by kernel_rfl) ?_
    refine Qai ?_
    refine thn ?_
    refine wsq ?_
    refine Qaf ?_
    refine wx tbk [] trivial ?_
    obtain ⟨x7, hg8, h⟩ := bno h
    obtain ⟨hi9, hj10⟩ := gsm hg8
    obtain ⟨x12, hf11, h⟩ := bno h
    refine wx tbk [(3, rp [(.tmp 12, (Qpb p0)), (.tmp 13, I y3)] (.dptr (Qab (x7)) 0)), (5, ⟨[(.tmp 11, Qqs), (.tmp 15, I x7)], [(0, Qi0)], B x12, [(0, Qi0)], false⟩)] ⟨aid rfl Try.underlying37 ti3 rfl rfl hi9 (mgt Qab hj10) rfl, Qap (first := []) (cap := [.ref 0 1 0 0]) (vs := [I x7]) (σr := [Qi0]) (σr' := [Qi0]) (res' := (B x12)) [0] rfl Qsh (Qlp N x7 _ hf11) rfl (Qb6 (rnc (.plain _ nll) (rnc (Qa7 rfl) rn0))) (slc (Qal (rnc (.plain _ (NLt.fn _ _ _ nl0 nl0)) rn0)) Qao) (slc (Qal (rnc (.plain _ (NLt.fn _ _ _ nl0 nl0)) rn0)) Qao) (.plain _ nll) rfl rfl rfl, trivial⟩ ?_
    rcases bft (x12) with hc13 | hc13
    ·replace h := Qas hc13 h
     refine wft hc13 (by kernel_rfl) ?_
     refine wx tbk [] trivial ?_
     refine wmr (mto (n := 19) (l' := [(4, I y3)]) (own' := [Qi0]) [(4, I y3)] [0] [Qi0] hφ0 (pc rwl pn) (qc (spb (lc (.rn (Qar rn0 rn0)) ln)) qn)) ?_
     refine Qad ?_
     refine Qay ?_
     refine Qam ?_
     refine Qam ?_
     refine Qay ?_
     refine Qam ?_
     obtain rfl := osi h
     exact ⟨_, Mor.rfl, Qb9 (vs := [I y3]) ⟨rot (by kernel_rfl), trivial⟩ rfl (NLt.of0 nll) (by kernel_rfl) (Qak (Qaw (nlc (NLt.of0 (NLt.fn _ _ _ nl0 nl0)) nl0)) Qbi)⟩
    ·replace h := Qat hc13 h
     refine wfn hc13 (by kernel_rfl) ?_
     refine Qai ?_
     refine bln ?_
     refine thn ?_
     refine wx1 tbk [] trivial ?_
     refine thn ?_
     exact arm (mto (n := 19) [(0, (Qpb p0)), (1, Qqs), (7, (I ((p0.length : Int)))), (8, (I (w64 (y3 + 1))))] [0] [Qi0] hφ0 (pc (.rn (.plain _ (nld Qaa _))) (pc (.rn (Qar rn0 (rnc (rqr rfl) rn0))) (pc rwl (pc rwl pn)))) (qc (spb (lc (.rn (Qar rn0 rn0)) ln)) qn)) (ih (w64 (y3 + 1)) h)
   ·replace h := Qat hc6 h
    refine wfn hc6 (by kernel_rfl) ?_
    refine Qa2 ?_
    refine Qaq ?_
    refine Qaq ?_
    refine Qa1 rfl ?_
    refine thn ?_
    exact ⟨(), h, (mto (n := 19) [] [0] [Qi0] hφ0 pn (qc (spb (lc (.rn (Qar rn0 rn0)) ln)) qn))⟩
def Qdf (N : Nat) (p0 : (List Int)) : Option Bool :=
  (Qd5 N p0).bind fun x3 =>
  some (decide (x3 ≥ 0))
def z135_0 (p0 : (List Int)) : AV := .dat 1 ((p0 : List Int).map Qab)
def z135_1 : AV := .fn (.func 110) [] [(.ref 0 1 (0) 0)]
def Qon : Slot := .own 1 [[(.fn (.func 90) [] [])]]
set_option maxRecDepth 100000 in
set_option maxHeartbeats 4000000 in
theorem Qhq (N : Nat) (p0 : (List Int)) (r : Bool) (h : Qdf N p0 = some r) : Spec Try.prog 109 [(z135_0 p0), z135_1] [Qon] (B (r)) [Qon] := by
  refine Qae Try.func109 rfl 1 (nle rfl) (fun X φ0 w0 hφ0 => ?_)
  unfold Qdf at h
  refine Qbp ?_
  refine wx tbk [] trivial ?_
  obtain ⟨x3, hf2, h⟩ := bno h
  refine wx tbk [(2, ⟨[fu 71, (.tmp 5, (z135_0 p0)), (.tmp 6, z135_1)], [(0, Qon)], I x3, [(0, Qon)], false⟩)] ⟨Qap (first := []) (cap := []) (vs := [(z135_0 p0), z135_1]) (σr := [Qon]) (σr' := [Qon]) (res' := (I x3)) [0] rfl Qsc (Qih N p0 _ hf2) rfl (Qb6 (rnc (.plain _ (nld Qaa _)) (rnc (Qar rn0 (rnc (Qa7 rfl) rn0)) rn0))) (slc (Qal (rnc (.plain _ (NLt.fn _ _ _ nl0 nl0)) rn0)) Qao) (slc (Qal (rnc (.plain _ (NLt.fn _ _ _ nl0 nl0)) rn0)) Qao) (.plain _ nll) rfl rfl rfl, trivial⟩ ?_
  refine wmr (mto (n := 9) (l' := [(4, (B ((decide (x3 ≥ 0)))))]) (own' := [Qon]) [(4, (B ((decide (x3 ≥ 0)))))] [0] [Qon] hφ0 (pc rwl pn) (qc (spb (lc (.rn (Qar rn0 rn0)) ln)) qn)) ?_
  refine Qad ?_
  obtain rfl := osi h
  exact ⟨_, Mor.rfl, Qb9 (vs := [(B ((decide (x3 ≥ 0))))]) ⟨rot (by kernel_rfl), trivial⟩ rfl (NLt.of0 nll) (by kernel_rfl) (Qak (Qaw (nlc (NLt.of0 (NLt.fn _ _ _ nl0 nl0)) nl0)) Qbi)⟩
def Qf8 (N : Nat) (p0 : (List Int)) : Option Bool :=
  (Qdf N p0).bind fun x2 =>
  some (!x2)
def z134_1 (p0 : (List Int)) : AV := .dat 1 ((p0 : List Int).map Qab)
def z134_2 : AV := .fn (.func 110) [] [(.ref 0 1 (0) 0)]
def Qwg : Slot := .own 1 [[(.fn (.func 90) [] [])]]
set_option maxRecDepth 100000 in
set_option maxHeartbeats 4000000 in
theorem Qmy (N : Nat) (p0 : (List Int)) (r : Bool) (h : Qf8 N p0 = some r) : Spec Try.prog 89 [(z134_1 p0), (.fn (.func 90) [] [])] [] (B (r)) [] := by
  refine Qae Try.func89 rfl 0 (nle rfl) (fun X φ0 w0 hφ0 => ?_)
  unfold Qf8 at h
  refine wx tbk [] trivial ?_
  obtain ⟨x2, hf1, h⟩ := bno h
  refine wx tbk [(1, rp [(.tmp 3, .ref 0 1 0 0)] z134_2), (2, ⟨[fu 109, (.tmp 5, (z134_1 p0)), (.tmp 6, z134_2)], [(0, Qwg)], B x2, [(0, Qwg)], false⟩)] ⟨Qej (fs := []) (cs := [.ref 0 1 0 0]) rfl rfl rfl rfl, Qap (first := []) (cap := []) (vs := [(z134_1 p0), z134_2]) (σr := [Qwg]) (σr' := [Qwg]) (res' := (B x2)) [0] rfl Qsi (Qhq N p0 _ hf1) rfl (Qb6 (rnc (.plain _ (nld Qaa _)) (rnc (Qar rn0 (rnc (Qa7 rfl) rn0)) rn0))) (slc (Qal (rnc (.plain _ (NLt.fn _ _ _ nl0 nl0)) rn0)) Qao) (slc (Qal (rnc (.plain _ (NLt.fn _ _ _ nl0 nl0)) rn0)) Qao) (.plain _ nll) rfl rfl rfl, trivial⟩ ?_
  refine Qad ?_
  obtain rfl := osi h
  exact fend ⟨[(B ((!x2)))], ⟨rot (by kernel_rfl), trivial⟩, rfl⟩ nll
def Qci (N : Nat) (p0 : (List Int)) (k7 : Int → Option Int) : Nat → Int → Int → Option Int
  | 0, _, _ => none
  | n12 + 1, y8, y9 =>
    bif (decide (y9 < (p0.length : Int))) then
     (getI p0 y9).bind fun x14 =>
     (some (if x14 < y8 then x14 else y8)).bind fun x18 =>
     Qci N p0 k7 n12 x18 (w64 (y9 + 1))
    else
     k7 (y8)
def Qev (N : Nat) (p0 : (List Int)) : Option Int :=
  Qb0 (fun _ =>
    (getI p0 0).bind fun x2 =>
    Qb0 (fun y6 =>
      some y6) fun k7 : Int → Option Int =>
    Qci N p0 k7 N x2 1) fun k1 : Unit → Option Int =>
  bif (decide ((p0.length : Int) < 1)) then
   none
  else
   k1 ()
def Qmn (p0 : (List Int)) : AV := .dat 1 ((p0 : List Int).map Qab)
set_option maxRecDepth 100000 in
set_option maxHeartbeats 4000000 in
theorem Qk5 (N : Nat) (p0 : (List Int)) (r : Int) (h : Qev N p0 = some r) : Spec Try.prog 88 [(.dat 1 (p0.map Qab))] [] (I r) [] := by
  refine Qae Try.func88 rfl 0 (nle rfl) (fun X φ0 w0 hφ0 => ?_)
  unfold Qev at h
  refine wx tbk [] trivial ?_
  obtain ⟨k1, hk_k1, h⟩ := jko h
  refine wjn (τ := Unit) (fun t => k1 t = some r) (fun _ => ⟨mk 25 [(0, (Qmn p0))], []⟩) (fun t h => ?_) ?_
  ·subst hk_k1
   obtain ⟨x2, hg3, h⟩ := bno h
   obtain ⟨hi4, hj5⟩ := gsm hg3
   refine wx tbk [(1, rp [(.tmp 9, (Qmn p0)), ci 0] (.dptr (Qab (x2)) 0))] ⟨aid rfl Try.underlying37 ti3 rfl rfl hi4 (mgt Qab hj5) rfl, trivial⟩ ?_
   obtain ⟨k7, hk_k7, h⟩ := jko h
   refine wjn (τ := Int) (fun t => k7 t = some r) (fun y6 => ⟨mk 25 [(3, I y6)], []⟩) (fun y6 h => ?_) ?_
   ·subst hk_k7
    refine wx tbk [] trivial ?_
    refine Qad ?_
    obtain rfl := osi h
    exact fend ⟨[I y6], ⟨rot (by kernel_rfl), trivial⟩, rfl⟩ nll
   ·skip
    refine wx tbk [] trivial ?_
    refine Qaf ?_
    refine wmr (mto (n := 25) (l' := [(0, (Qmn p0)), (3, I x2), (4, I 1)]) (own' := []) [(0, (Qmn p0)), (3, I x2), (4, I 1)] [] [] hφ0 (pc (.rn (.plain _ (nld Qaa _))) (pc rwl (pc rwl pn))) qn) ?_
    refine Qbk (τ := Int × Int) (fun n t => Qci N p0 k7 n t.1 t.2 = some r) (fun ⟨y8, y9⟩ => ⟨mk 25 [(0, (Qmn p0)), (3, I y8), (4, I y9)], []⟩) (fun t h => by rw [Qci] at h; cases h) (fun n12 ih t h => ?_) N (x2, 1) h
    obtain ⟨y8, y9⟩ := t
    rw [Qci] at h
    skip
    refine wsq ?_
    refine wx tbk [(2, rp [(.tmp 13, (Qmn p0))] (I ((p0.length : Int))))] ⟨alm (c := Qab) (l := p0) (aln rfl Try.underlying37 rfl), trivial⟩ ?_
    rcases bft ((decide (y9 < (p0.length : Int)))) with hc13 | hc13
    ·replace h := Qas hc13 h
     refine wft hc13 (by kernel_rfl) ?_
     refine Qai ?_
     refine thn ?_
     refine wsq ?_
     refine Qaf ?_
     obtain ⟨x14, hg15, h⟩ := bno h
     obtain ⟨hi16, hj17⟩ := gsm hg15
     obtain ⟨x18, hl19, h⟩ := bno h
     refine wx1 tbk [(3, rp [(.tmp 19, (Qmn p0)), (.tmp 20, I y9)] (.dptr (Qab (x14)) 0)), (5, rp [(.tmp 18, I y8), (.tmp 22, I x14)] (I ((if x14 < y8 then x14 else y8)))), (6, rp [(.tmp 23, (I ((if x14 < y8 then x14 else y8))))] (I x18))] ⟨aid rfl Try.underlying37 ti3 rfl rfl hi16 (mgt Qab hj17) rfl, Ql3 rfl, Qfo hl19 (aas rfl), trivial⟩ ?_
     refine bln ?_
     refine thn ?_
     refine wx1 tbk [] trivial ?_
     refine thn ?_
     exact arm (mto (n := 25) [(0, (Qmn p0)), (3, I x18), (4, (I (w64 (y9 + 1))))] [] [] hφ0 (pc (.rn (.plain _ (nld Qaa _))) (pc rwl (pc rwl pn))) qn) (ih (x18, w64 (y9 + 1)) h)
    ·replace h := Qat hc13 h
     refine wfn hc13 (by kernel_rfl) ?_
     refine Qa2 ?_
     refine Qaq ?_
     refine Qaq ?_
     refine Qa1 rfl ?_
     refine thn ?_
     exact ⟨(y8), h, (mto (n := 25) [(3, I y8)] [] [] hφ0 (pc rwl pn) qn)⟩
  ·skip
   refine wx tbk [(1, rp [(.tmp 5, (Qmn p0))] (I ((p0.length : Int))))] ⟨alm (c := Qab) (l := p0) (aln rfl Try.underlying37 rfl), trivial⟩ ?_
   rcases bft ((decide ((p0.length : Int) < 1))) with hc20 | hc20
   ·replace h := Qas hc20 h
    refine wft hc20 (by kernel_rfl) ?_
    cases h
   ·replace h := Qat hc20 h
    refine wfn hc20 (by kernel_rfl) ?_
    refine Qai ?_
    refine thn ?_
    exact ⟨(), h, (mto (n := 25) [(0, (Qmn p0))] [] [] hφ0 (pc (.rn (.plain _ (nld Qaa _))) pn) qn)⟩
def Qbx (N : Nat) (p0 : GJob) (y14 : Int) (y23 : Int) (k27 : Unit → Option Bool) (x28 : Int) (x32 : (List Int)) : Nat → Int → Option Bool
  | 0, _ => none
  | n38 + 1, y36 =>
    bif (decide (y36 < (x32.length : Int))) then
     (getI x32 y36).bind fun x40 =>
     (Qef N p0 y14 y23 y36).bind fun x45 =>
     bif x45.2 then
      bif (decide (x28 < (w64 (x45.1 + x40)))) then
       some false
      else
       Qbx N p0 y14 y23 k27 x28 x32 n38 (w64 (y36 + 1))
     else
      Qbx N p0 y14 y23 k27 x28 x32 n38 (w64 (y36 + 1))
    else
     k27 ()
def Qby (N : Nat) (p0 : GJob) (p3 : (List (List Int))) (y14 : Int) (k18 : Unit → Option Bool) (x19 : (List Int)) : Nat → Int → Option Bool
  | 0, _ => none
  | n25 + 1, y23 =>
    bif (decide (y23 < (x19.length : Int))) then
     Qb0 (fun _ =>
       Qby N p0 p3 y14 k18 x19 n25 (w64 (y23 + 1))) fun k27 : Unit → Option Bool =>
     (getI x19 y23).bind fun x28 =>
     (getI p3 (w64 (y14 + 1))).bind fun x32 =>
     Qbx N p0 y14 y23 k27 x28 x32 N 0
    else
     k18 ()
def Qbz (N : Nat) (p0 : GJob) (p3 : (List (List Int))) (k5 : Unit → Option Bool) : Nat → Int → Option Bool
  | 0, _ => none
  | n16 + 1, y14 =>
    bif (decide (y14 < (p0.Hours.length : Int))) then
     Qb0 (fun _ =>
       Qbz N p0 p3 k5 n16 (w64 (y14 + 1))) fun k18 : Unit → Option Bool =>
     (getI p3 y14).bind fun x19 =>
     Qby N p0 p3 y14 k18 x19 N 0
    else
     k5 ()
def Qbw (N : Nat) (p0 : GJob) (p3 : (List (List Int))) (k4 : Unit → Option Bool) : Nat → Int → Option Bool
  | 0, _ => none
  | n50 + 1, y48 =>
    bif (decide (y48 < (p3.length : Int))) then
     (getI p3 y48).bind fun x52 =>
     Qb0 (fun _ =>
       bif (y48 == (p0.Hours.length : Int)) then
        (Qev N x52).bind fun x59 =>
        bif (decide (x59 < 0)) then
         some false
        else
         Qbw N p0 p3 k4 n50 (w64 (y48 + 1))
       else
        Qbw N p0 p3 k4 n50 (w64 (y48 + 1))) fun k56 : Unit → Option Bool =>
     bif ((x52.length : Int) != (p0.Levels.length : Int)) then
      some false
     else
      (Qf8 N x52).bind fun x63 =>
      bif (!x63) then
       some false
      else
       k56 ()
    else
     k4 ()
def Qel (N : Nat) (p0 : GJob) (p1 : (List Int)) (p2 : Int) (p3 : (List (List Int))) : Option Bool :=
  (Qh0 N p0 p1).bind fun x2 =>
  Qb0 (fun _ =>
    Qb0 (fun _ =>
      Qb0 (fun _ =>
        (getI p3 0).bind fun x6 =>
        (getI x6 p0.First).bind fun x10 =>
        some (decide (x10 ≤ p2))) fun k5 : Unit → Option Bool =>
      Qbz N p0 p3 k5 N 0) fun k4 : Unit → Option Bool =>
    Qbw N p0 p3 k4 N 0) fun k3 : Unit → Option Bool =>
  bif (x2.2 != 0) then
   some false
  else
   bif (x2.1 != p2) then
    some false
   else
    bif ((p3.length : Int) != (w64 ((p0.Hours.length : Int) + 1))) then
     some false
    else
     k3 ()
def Qwi (p0 : GJob) : AV := .dat 1 ((p0.Levels : List Int).map Qab)
def Qqt (p0 : GJob) : AV := .dat 2 ((p0.Hours : List GHour).map Qax)
def Qwh (p0 : GJob) : AV := .agg [(Qwi p0), (I (p0.Ramp)), (I (p0.Start)), (I (p0.First)), (Qqt p0)]
def Qdl (p3 : (List (List Int))) : AV := .dat 1 ((p3 : List (List Int)).map Qa3)
def Qe4 (p0 : GJob) : Slot := .own 5 [[(Qwi p0), (I (p0.Ramp)), (I (p0.Start)), (I (p0.First)), (Qqt p0)]]
def Qh7 (x19 : (List Int)) : AV := .dat 1 ((x19 : List Int).map Qab)
def Qmu (x32 : (List Int)) : AV := .dat 1 ((x32 : List Int).map Qab)
def Qli (x52 : (List Int)) : AV := .dat 1 ((x52 : List Int).map Qab)
set_option maxRecDepth 100000 in
set_option maxHeartbeats 4000000 in
theorem Qhz (N : Nat) (p0 : GJob) (p1 : (List Int)) (p2 : Int) (p3 : (List (List Int))) (r : Bool) (h : Qel N p0 p1 p2 p3 = some r) : Spec Try.prog 55 [(.agg (Qhk p0)), (.dat 1 (p1.map Qab)), (I p2), (.dat 1 (p3.map Qa3))] [] (B r) [] := by
  refine Qae Try.func55 rfl 0 (nle rfl) (fun X φ0 w0 hφ0 => ?_)
  unfold Qel at h
  refine wx tbk [] trivial ?_
  obtain ⟨x2, hf1, h⟩ := bno h
  refine wx tbk [(2, rp [fu 36, (.tmp 21, (Qwh p0)), (.tmp 22, (.dat 1 ((p1 : List Int).map Qab)))] (.tup [I x2.1, I x2.2]))] ⟨apc (first := []) (cap := []) (vs := [(Qwh p0), (.dat 1 ((p1 : List Int).map Qab))]) rfl enter36 (Qoy N p0 p1 _ hf1) rfl rfl (nlc (NLt.agg _ (nlc (nld Qaa _) (nlc nll (nlc nll (nlc nll (nlc (nld Qac _) nl0)))))) (nlc (nld Qaa _) nl0)) (NLt.tup _ (nlc nll (nlc nll nl0))) rfl, trivial⟩ ?_
  obtain ⟨k3, hk_k3, h⟩ := jko h
  refine wjn (τ := Unit) (fun t => k3 t = some r) (fun _ => ⟨mk 126 [(2, I p2), (3, (Qdl p3)), (4, .ref 0 5 0 0)], [(Qe4 p0)]⟩) (fun t h => ?_) ?_
  ·subst hk_k3
   obtain ⟨k4, hk_k4, h⟩ := jko h
   refine wjn (τ := Unit) (fun t => k4 t = some r) (fun _ => ⟨mk 126 [(2, I p2), (3, (Qdl p3)), (4, .ref 0 5 0 0)], [(Qe4 p0)]⟩) (fun t h => ?_) ?_
   ·subst hk_k4
    obtain ⟨k5, hk_k5, h⟩ := jko h
    refine wjn (τ := Unit) (fun t => k5 t = some r) (fun _ => ⟨mk 126 [(2, I p2), (3, (Qdl p3)), (4, .ref 0 5 0 0)], [(Qe4 p0)]⟩) (fun t h => ?_) ?_
    ·subst hk_k5
     obtain ⟨x6, hg7, h⟩ := bno h
     obtain ⟨hi8, hj9⟩ := gsm hg7
     obtain ⟨x10, hg11, h⟩ := bno h
     obtain ⟨hi12, hj13⟩ := gsm hg11
     refine wxd tbk [(1, rp [(.tmp 117, (Qdl p3)), ci 0] (.dptr (Qa3 (x6)) 0)), (5, rp [(.tmp 119, (.dat 1 ((x6 : List Int).map Qab))), (.tmp 121, I p0.First)] (.dptr (Qab (x10)) 0))] ⟨aid rfl Try.underlying42 ti37 rfl rfl hi8 (mgt Qa3 hj9) rfl, aid rfl Try.underlying37 ti3 rfl rfl hi12 (mgt Qab hj13) rfl, trivial⟩ ?_
     refine Qad ?_
     obtain rfl := osi h
     exact fend ⟨[(B ((decide (x10 ≤ p2))))], ⟨rot (by kernel_rfl), trivial⟩, rfl⟩ nll
    ·skip
     refine wx tbk [(2, rp [(.tmp 72, (Qqt p0))] (I ((p0.Hours.length : Int))))] ⟨alm (c := Qax) (l := p0.Hours) (aln rfl Try.underlying45 rfl), trivial⟩ ?_
     refine Qaf ?_
     refine wmr (mto (n := 126) (l' := [(2, I p2), (3, (Qdl p3)), (4, .ref 0 5 0 0), (73, (I ((p0.Hours.length : Int)))), (74, I 0)]) (own' := [(Qe4 p0)]) [(2, I p2), (3, (Qdl p3)), (4, .ref 0 5 0 0), (73, (I ((p0.Hours.length : Int)))), (74, I 0)] [0] [(Qe4 p0)] hφ0 (pc rwl (pc (.rn (.plain _ (nld Qa4 _))) (pc (.rn (rqr rfl)) (pc rwl (pc rwl pn))))) (qc (spb (lc (.rn (.plain _ (nld Qaa _))) (lc rwl (lc rwl (lc rwl (lc (.rn (.plain _ (nld Qac _))) ln)))))) qn)) ?_
     refine Qbk (τ := Int) (fun n t => Qbz N p0 p3 k5 n t = some r) (fun y14 => ⟨mk 126 [(2, I p2), (3, (Qdl p3)), (4, .ref 0 5 0 0), (73, (I ((p0.Hours.length : Int)))), (74, I y14)], [(Qe4 p0)]⟩) (fun t h => by rw [Qbz] at h; cases h) (fun n16 ih y14 h => ?_) N (0) h
     rw [Qbz] at h
     skip
     refine wx tbk [] trivial ?_
     refine wsq ?_
     rcases bft ((decide (y14 < (p0.Hours.length : Int)))) with hc17 | hc17
     ·replace h := Qas hc17 h
      refine wft hc17 (by kernel_rfl) ?_
      refine Qai ?_
      refine thn ?_
      obtain ⟨k18, hk_k18, h⟩ := jko h
      refine wjn (τ := Unit) (fun t => k18 t = some r) (fun _ => ⟨mk 126 [(2, I p2), (3, (Qdl p3)), (4, .ref 0 5 0 0), (73, (I ((p0.Hours.length : Int)))), (74, I y14)], [(Qe4 p0)]⟩) (fun t h => ?_) ?_
      ·subst hk_k18
       refine wx1 tbk [] trivial ?_
       refine thn ?_
       exact arm (mto (n := 126) [(2, I p2), (3, (Qdl p3)), (4, .ref 0 5 0 0), (73, (I ((p0.Hours.length : Int)))), (74, (I (w64 (y14 + 1))))] [0] [(Qe4 p0)] hφ0 (pc rwl (pc (.rn (.plain _ (nld Qa4 _))) (pc (.rn (rqr rfl)) (pc rwl (pc rwl pn))))) (qc (spb (lc (.rn (.plain _ (nld Qaa _))) (lc rwl (lc rwl (lc rwl (lc (.rn (.plain _ (nld Qac _))) ln)))))) qn)) (ih (w64 (y14 + 1)) h)
      ·skip
       refine Qaf ?_
       refine wx tbk [] trivial ?_
       obtain ⟨x19, hg20, h⟩ := bno h
       obtain ⟨hi21, hj22⟩ := gsm hg20
       refine wx tbk [(2, rp [(.tmp 77, (Qdl p3)), (.tmp 78, I y14)] (.dptr (Qa3 (x19)) 0)), (4, rp [(.tmp 80, (Qh7 x19))] (I ((x19.length : Int))))] ⟨aid rfl Try.underlying42 ti37 rfl rfl hi21 (mgt Qa3 hj22) rfl, alm (c := Qab) (l := x19) (aln rfl Try.underlying37 rfl), trivial⟩ ?_
       refine Qaf ?_
       refine wmr (mto (n := 126) (l' := [(2, I p2), (3, (Qdl p3)), (4, .ref 0 5 0 0), (13, I y14), (73, (I ((p0.Hours.length : Int)))), (74, I y14), (80, (Qh7 x19)), (81, (I ((x19.length : Int)))), (82, I 0)]) (own' := [(Qe4 p0)]) [(2, I p2), (3, (Qdl p3)), (4, .ref 0 5 0 0), (13, I y14), (73, (I ((p0.Hours.length : Int)))), (74, I y14), (80, (Qh7 x19)), (81, (I ((x19.length : Int)))), (82, I 0)] [0] [(Qe4 p0)] hφ0 (pc rwl (pc (.rn (.plain _ (nld Qa4 _))) (pc (.rn (rqr rfl)) (pc rwl (pc rwl (pc rwl (pc (.rn (.plain _ (nld Qaa _))) (pc rwl (pc rwl pn))))))))) (qc (spb (lc (.rn (.plain _ (nld Qaa _))) (lc rwl (lc rwl (lc rwl (lc (.rn (.plain _ (nld Qac _))) ln)))))) qn)) ?_
       refine Qbk (τ := Int) (fun n t => Qby N p0 p3 y14 k18 x19 n t = some r) (fun y23 => ⟨mk 126 [(2, I p2), (3, (Qdl p3)), (4, .ref 0 5 0 0), (13, I y14), (73, (I ((p0.Hours.length : Int)))), (74, I y14), (80, (Qh7 x19)), (81, (I ((x19.length : Int)))), (82, I y23)], [(Qe4 p0)]⟩) (fun t h => by rw [Qby] at h; cases h) (fun n25 ih y23 h => ?_) N (0) h
       rw [Qby] at h
       skip
       refine wx tbk [] trivial ?_
       refine wsq ?_
       rcases bft ((decide (y23 < (x19.length : Int)))) with hc26 | hc26
       ·replace h := Qas hc26 h
        refine wft hc26 (by kernel_rfl) ?_
        refine Qai ?_
        refine thn ?_
        obtain ⟨k27, hk_k27, h⟩ := jko h
        refine wjn (τ := Unit) (fun t => k27 t = some r) (fun _ => ⟨mk 126 [(2, I p2), (3, (Qdl p3)), (4, .ref 0 5 0 0), (13, I y14), (73, (I ((p0.Hours.length : Int)))), (74, I y14), (80, (Qh7 x19)), (81, (I ((x19.length : Int)))), (82, I y23)], [(Qe4 p0)]⟩) (fun t h => ?_) ?_
        ·subst hk_k27
         refine wx1 tbk [] trivial ?_
         refine thn ?_
         exact arm (mto (n := 126) [(2, I p2), (3, (Qdl p3)), (4, .ref 0 5 0 0), (13, I y14), (73, (I ((p0.Hours.length : Int)))), (74, I y14), (80, (Qh7 x19)), (81, (I ((x19.length : Int)))), (82, (I (w64 (y23 + 1))))] [0] [(Qe4 p0)] hφ0 (pc rwl (pc (.rn (.plain _ (nld Qa4 _))) (pc (.rn (rqr rfl)) (pc rwl (pc rwl (pc rwl (pc (.rn (.plain _ (nld Qaa _))) (pc rwl (pc rwl pn))))))))) (qc (spb (lc (.rn (.plain _ (nld Qaa _))) (lc rwl (lc rwl (lc rwl (lc (.rn (.plain _ (nld Qac _))) ln)))))) qn)) (ih (w64 (y23 + 1)) h)
        ·skip
         refine Qaf ?_
         obtain ⟨x28, hg29, h⟩ := bno h
         obtain ⟨hi30, hj31⟩ := gsm hg29
         refine wx tbk [(1, rp [(.tmp 80, (Qh7 x19)), (.tmp 82, I y23)] (.dptr (Qab (x28)) 0))] ⟨aid rfl Try.underlying37 ti3 rfl rfl hi30 (mgt Qab hj31) rfl, trivial⟩ ?_
         obtain ⟨x32, hg33, h⟩ := bno h
         obtain ⟨hi34, hj35⟩ := gsm hg33
         refine wx tbk [(3, rp [(.tmp 87, (Qdl p3)), (.tmp 89, (I (w64 (y14 + 1))))] (.dptr (Qa3 (x32)) 0)), (5, rp [(.tmp 91, (Qmu x32))] (I ((x32.length : Int))))] ⟨aid rfl Try.underlying42 ti37 rfl rfl hi34 (mgt Qa3 hj35) rfl, alm (c := Qab) (l := x32) (aln rfl Try.underlying37 rfl), trivial⟩ ?_
         refine Qaf ?_
         refine wmr (mto (n := 126) (l' := [(2, I p2), (3, (Qdl p3)), (4, .ref 0 5 0 0), (13, I y14), (14, I y23), (15, I x28), (73, (I ((p0.Hours.length : Int)))), (74, I y14), (80, (Qh7 x19)), (81, (I ((x19.length : Int)))), (82, I y23), (91, (Qmu x32)), (92, (I ((x32.length : Int)))), (93, I 0)]) (own' := [(Qe4 p0)]) [(2, I p2), (3, (Qdl p3)), (4, .ref 0 5 0 0), (13, I y14), (14, I y23), (15, I x28), (73, (I ((p0.Hours.length : Int)))), (74, I y14), (80, (Qh7 x19)), (81, (I ((x19.length : Int)))), (82, I y23), (91, (Qmu x32)), (92, (I ((x32.length : Int)))), (93, I 0)] [0] [(Qe4 p0)] hφ0 (pc rwl (pc (.rn (.plain _ (nld Qa4 _))) (pc (.rn (rqr rfl)) (pc rwl (pc rwl (pc rwl (pc rwl (pc rwl (pc (.rn (.plain _ (nld Qaa _))) (pc rwl (pc rwl (pc (.rn (.plain _ (nld Qaa _))) (pc rwl (pc rwl pn)))))))))))))) (qc (spb (lc (.rn (.plain _ (nld Qaa _))) (lc rwl (lc rwl (lc rwl (lc (.rn (.plain _ (nld Qac _))) ln)))))) qn)) ?_
         refine Qbk (τ := Int) (fun n t => Qbx N p0 y14 y23 k27 x28 x32 n t = some r) (fun y36 => ⟨mk 126 [(2, I p2), (3, (Qdl p3)), (4, .ref 0 5 0 0), (13, I y14), (14, I y23), (15, I x28), (73, (I ((p0.Hours.length : Int)))), (74, I y14), (80, (Qh7 x19)), (81, (I ((x19.length : Int)))), (82, I y23), (91, (Qmu x32)), (92, (I ((x32.length : Int)))), (93, I y36)], [(Qe4 p0)]⟩) (fun t h => by rw [Qbx] at h; cases h) (fun n38 ih y36 h => ?_) N (0) h
         rw [Qbx] at h
         skip
         refine wx tbk [] trivial ?_
         refine wsq ?_
         rcases bft ((decide (y36 < (x32.length : Int)))) with hc39 | hc39
         ·replace h := Qas hc39 h
          refine wft hc39 (by kernel_rfl) ?_
          refine Qai ?_
          refine thn ?_
          refine wsq ?_
          refine Qaf ?_
          obtain ⟨x40, hg41, h⟩ := bno h
          obtain ⟨hi42, hj43⟩ := gsm hg41
          refine wx tbk [(1, rp [(.tmp 91, (Qmu x32)), (.tmp 93, I y36)] (.dptr (Qab (x40)) 0))] ⟨aid rfl Try.underlying37 ti3 rfl rfl hi42 (mgt Qab hj43) rfl, trivial⟩ ?_
          obtain ⟨x45, hf44, h⟩ := bno h
          refine wx tbk [(4, rp [fu 70, (.tmp 99, (Qwh p0)), (.tmp 100, I y14), (.tmp 101, I y23), (.tmp 102, I y36)] (.tup [I x45.1, B x45.2]))] ⟨apc (first := []) (cap := []) (vs := [(Qwh p0), I y14, I y23, I y36]) rfl Qsd (Qgh N p0 y14 y23 y36 _ hf44) rfl rfl (nlc (NLt.agg _ (nlc (nld Qaa _) (nlc nll (nlc nll (nlc nll (nlc (nld Qac _) nl0)))))) (nlc nll (nlc nll (nlc nll nl0)))) (NLt.tup _ (nlc nll (nlc nll nl0))) rfl, trivial⟩ ?_
          rcases bft (x45.2) with hb46 | hb46
          ·replace h := Qas hb46 h
           refine wx tbk [(1, rp [(.tmp 106, B x45.2)] (B true))] ⟨asb hb46 (amv rfl), trivial⟩ ?_
           rcases bft ((decide (x28 < (w64 (x45.1 + x40))))) with hc47 | hc47
           ·replace h := Qas hc47 h
            refine wft hc47 (by kernel_rfl) ?_
            refine wx tbk [] trivial ?_
            refine Qad ?_
            refine Qay ?_
            refine Qam ?_
            refine Qam ?_
            refine Qay ?_
            refine Qay ?_
            refine Qam ?_
            refine Qam ?_
            refine Qay ?_
            refine Qay ?_
            refine Qam ?_
            refine Qam ?_
            refine Qay ?_
            refine Qam ?_
            obtain rfl := osi h
            exact fend ⟨[B false], ⟨rot (by kernel_rfl), trivial⟩, rfl⟩ nll
           ·replace h := Qat hc47 h
            refine wfn hc47 (by kernel_rfl) ?_
            refine Qai ?_
            refine bln ?_
            refine thn ?_
            refine wx1 tbk [] trivial ?_
            refine thn ?_
            exact arm (mto (n := 126) [(2, I p2), (3, (Qdl p3)), (4, .ref 0 5 0 0), (13, I y14), (14, I y23), (15, I x28), (73, (I ((p0.Hours.length : Int)))), (74, I y14), (80, (Qh7 x19)), (81, (I ((x19.length : Int)))), (82, I y23), (91, (Qmu x32)), (92, (I ((x32.length : Int)))), (93, (I (w64 (y36 + 1))))] [0] [(Qe4 p0)] hφ0 (pc rwl (pc (.rn (.plain _ (nld Qa4 _))) (pc (.rn (rqr rfl)) (pc rwl (pc rwl (pc rwl (pc rwl (pc rwl (pc (.rn (.plain _ (nld Qaa _))) (pc rwl (pc rwl (pc (.rn (.plain _ (nld Qaa _))) (pc rwl (pc rwl pn)))))))))))))) (qc (spb (lc (.rn (.plain _ (nld Qaa _))) (lc rwl (lc rwl (lc rwl (lc (.rn (.plain _ (nld Qac _))) ln)))))) qn)) (ih (w64 (y36 + 1)) h)
          ·replace h := Qat hb46 h
           refine wx tbk [(1, rp [(.tmp 106, B x45.2)] (B false))] ⟨asb hb46 (amv rfl), trivial⟩ ?_
           refine Qd2 (by kernel_rfl) ?_
           refine Qai ?_
           refine bln ?_
           refine thn ?_
           refine wx1 tbk [] trivial ?_
           refine thn ?_
           exact arm (mto (n := 126) [(2, I p2), (3, (Qdl p3)), (4, .ref 0 5 0 0), (13, I y14), (14, I y23), (15, I x28), (73, (I ((p0.Hours.length : Int)))), (74, I y14), (80, (Qh7 x19)), (81, (I ((x19.length : Int)))), (82, I y23), (91, (Qmu x32)), (92, (I ((x32.length : Int)))), (93, (I (w64 (y36 + 1))))] [0] [(Qe4 p0)] hφ0 (pc rwl (pc (.rn (.plain _ (nld Qa4 _))) (pc (.rn (rqr rfl)) (pc rwl (pc rwl (pc rwl (pc rwl (pc rwl (pc (.rn (.plain _ (nld Qaa _))) (pc rwl (pc rwl (pc (.rn (.plain _ (nld Qaa _))) (pc rwl (pc rwl pn)))))))))))))) (qc (spb (lc (.rn (.plain _ (nld Qaa _))) (lc rwl (lc rwl (lc rwl (lc (.rn (.plain _ (nld Qac _))) ln)))))) qn)) (ih (w64 (y36 + 1)) h)
         ·replace h := Qat hc39 h
          refine wfn hc39 (by kernel_rfl) ?_
          refine Qa2 ?_
          refine Qaq ?_
          refine Qaq ?_
          refine Qa1 rfl ?_
          refine bln ?_
          refine thn ?_
          exact ⟨(), h, (mto (n := 126) [(2, I p2), (3, (Qdl p3)), (4, .ref 0 5 0 0), (13, I y14), (73, (I ((p0.Hours.length : Int)))), (74, I y14), (80, (Qh7 x19)), (81, (I ((x19.length : Int)))), (82, I y23)] [0] [(Qe4 p0)] hφ0 (pc rwl (pc (.rn (.plain _ (nld Qa4 _))) (pc (.rn (rqr rfl)) (pc rwl (pc rwl (pc rwl (pc (.rn (.plain _ (nld Qaa _))) (pc rwl (pc rwl pn))))))))) (qc (spb (lc (.rn (.plain _ (nld Qaa _))) (lc rwl (lc rwl (lc rwl (lc (.rn (.plain _ (nld Qac _))) ln)))))) qn))⟩
       ·replace h := Qat hc26 h
        refine wfn hc26 (by kernel_rfl) ?_
        refine Qa2 ?_
        refine Qaq ?_
        refine Qaq ?_
        refine Qa1 rfl ?_
        refine bln ?_
        refine thn ?_
        exact ⟨(), h, (mto (n := 126) [(2, I p2), (3, (Qdl p3)), (4, .ref 0 5 0 0), (73, (I ((p0.Hours.length : Int)))), (74, I y14)] [0] [(Qe4 p0)] hφ0 (pc rwl (pc (.rn (.plain _ (nld Qa4 _))) (pc (.rn (rqr rfl)) (pc rwl (pc rwl pn))))) (qc (spb (lc (.rn (.plain _ (nld Qaa _))) (lc rwl (lc rwl (lc rwl (lc (.rn (.plain _ (nld Qac _))) ln)))))) qn))⟩
     ·replace h := Qat hc17 h
      refine wfn hc17 (by kernel_rfl) ?_
      refine Qa2 ?_
      refine Qaq ?_
      refine Qaq ?_
      refine Qa1 rfl ?_
      refine thn ?_
      exact ⟨(), h, (mto (n := 126) [(2, I p2), (3, (Qdl p3)), (4, .ref 0 5 0 0)] [0] [(Qe4 p0)] hφ0 (pc rwl (pc (.rn (.plain _ (nld Qa4 _))) (pc (.rn (rqr rfl)) pn))) (qc (spb (lc (.rn (.plain _ (nld Qaa _))) (lc rwl (lc rwl (lc rwl (lc (.rn (.plain _ (nld Qac _))) ln)))))) qn))⟩
   ·skip
    refine wx tbk [(1, rp [(.tmp 42, (Qdl p3))] (I ((p3.length : Int))))] ⟨alm (c := Qa3) (l := p3) (aln rfl Try.underlying42 rfl), trivial⟩ ?_
    refine Qaf ?_
    refine wmr (mto (n := 126) (l' := [(2, I p2), (3, (Qdl p3)), (4, .ref 0 5 0 0), (42, (Qdl p3)), (43, (I ((p3.length : Int)))), (44, I 0)]) (own' := [(Qe4 p0)]) [(2, I p2), (3, (Qdl p3)), (4, .ref 0 5 0 0), (42, (Qdl p3)), (43, (I ((p3.length : Int)))), (44, I 0)] [0] [(Qe4 p0)] hφ0 (pc rwl (pc (.rn (.plain _ (nld Qa4 _))) (pc (.rn (rqr rfl)) (pc (.rn (.plain _ (nld Qa4 _))) (pc rwl (pc rwl pn)))))) (qc (spb (lc (.rn (.plain _ (nld Qaa _))) (lc rwl (lc rwl (lc rwl (lc (.rn (.plain _ (nld Qac _))) ln)))))) qn)) ?_
    refine Qbk (τ := Int) (fun n t => Qbw N p0 p3 k4 n t = some r) (fun y48 => ⟨mk 126 [(2, I p2), (3, (Qdl p3)), (4, .ref 0 5 0 0), (42, (Qdl p3)), (43, (I ((p3.length : Int)))), (44, I y48)], [(Qe4 p0)]⟩) (fun t h => by rw [Qbw] at h; cases h) (fun n50 ih y48 h => ?_) N (0) h
    rw [Qbw] at h
    skip
    refine wx tbk [] trivial ?_
    refine wsq ?_
    rcases bft ((decide (y48 < (p3.length : Int)))) with hc51 | hc51
    ·replace h := Qas hc51 h
     refine wft hc51 (by kernel_rfl) ?_
     refine Qai ?_
     refine thn ?_
     refine wsq ?_
     refine Qaf ?_
     obtain ⟨x52, hg53, h⟩ := bno h
     obtain ⟨hi54, hj55⟩ := gsm hg53
     refine wx tbk [(1, rp [(.tmp 42, (Qdl p3)), (.tmp 44, I y48)] (.dptr (Qa3 (x52)) 0))] ⟨aid rfl Try.underlying42 ti37 rfl rfl hi54 (mgt Qa3 hj55) rfl, trivial⟩ ?_
     obtain ⟨k56, hk_k56, h⟩ := jko h
     refine wjn (τ := Unit) (fun t => k56 t = some r) (fun _ => ⟨mk 126 [(2, I p2), (3, (Qdl p3)), (4, .ref 0 5 0 0), (11, I y48), (12, (Qli x52)), (42, (Qdl p3)), (43, (I ((p3.length : Int)))), (44, I y48)], [(Qe4 p0)]⟩) (fun t h => ?_) ?_
     ·subst hk_k56
      rcases bft ((y48 == (p0.Hours.length : Int))) with hb57 | hb57
      ·replace h := Qas hb57 h
       obtain ⟨x59, hf58, h⟩ := bno h
       refine wx tbk [(3, rp [(.tmp 62, (Qqt p0))] (I ((p0.Hours.length : Int)))), (5, rp [(.tmp 64, (B ((y48 == (p0.Hours.length : Int)))))] (B true)), (7, rp [(.tmp 65, B true), fu 88, (.tmp 66, (Qli x52))] (I x59))] ⟨alm (c := Qax) (l := p0.Hours) (aln rfl Try.underlying45 rfl), asb hb57 (amv rfl), ag_ (apc (first := []) (cap := []) (vs := [(Qli x52)]) rfl enter88 (Qk5 N x52 _ hf58) rfl rfl (nlc (nld Qaa _) nl0) nll rfl), trivial⟩ ?_
       rcases bft ((decide (x59 < 0))) with hc60 | hc60
       ·replace h := Qas hc60 h
        refine wft hc60 (by kernel_rfl) ?_
        refine wx tbk [] trivial ?_
        refine Qad ?_
        refine Qay ?_
        refine Qam ?_
        refine Qam ?_
        refine Qay ?_
        refine Qam ?_
        obtain rfl := osi h
        exact fend ⟨[B false], ⟨rot (by kernel_rfl), trivial⟩, rfl⟩ nll
       ·replace h := Qat hc60 h
        refine wfn hc60 (by kernel_rfl) ?_
        refine Qai ?_
        refine bln ?_
        refine thn ?_
        refine wx1 tbk [] trivial ?_
        refine thn ?_
        exact arm (mto (n := 126) [(2, I p2), (3, (Qdl p3)), (4, .ref 0 5 0 0), (42, (Qdl p3)), (43, (I ((p3.length : Int)))), (44, (I (w64 (y48 + 1))))] [0] [(Qe4 p0)] hφ0 (pc rwl (pc (.rn (.plain _ (nld Qa4 _))) (pc (.rn (rqr rfl)) (pc (.rn (.plain _ (nld Qa4 _))) (pc rwl (pc rwl pn)))))) (qc (spb (lc (.rn (.plain _ (nld Qaa _))) (lc rwl (lc rwl (lc rwl (lc (.rn (.plain _ (nld Qac _))) ln)))))) qn)) (ih (w64 (y48 + 1)) h)
      ·replace h := Qat hb57 h
       refine wx tbk [(3, rp [(.tmp 62, (Qqt p0))] (I ((p0.Hours.length : Int)))), (5, rp [(.tmp 64, (B ((y48 == (p0.Hours.length : Int)))))] (B false))] ⟨alm (c := Qax) (l := p0.Hours) (aln rfl Try.underlying45 rfl), asb hb57 (amv rfl), trivial⟩ ?_
       refine Qd2 (by kernel_rfl) ?_
       refine Qai ?_
       refine bln ?_
       refine thn ?_
       refine wx1 tbk [] trivial ?_
       refine thn ?_
       exact arm (mto (n := 126) [(2, I p2), (3, (Qdl p3)), (4, .ref 0 5 0 0), (42, (Qdl p3)), (43, (I ((p3.length : Int)))), (44, (I (w64 (y48 + 1))))] [0] [(Qe4 p0)] hφ0 (pc rwl (pc (.rn (.plain _ (nld Qa4 _))) (pc (.rn (rqr rfl)) (pc (.rn (.plain _ (nld Qa4 _))) (pc rwl (pc rwl pn)))))) (qc (spb (lc (.rn (.plain _ (nld Qaa _))) (lc rwl (lc rwl (lc rwl (lc (.rn (.plain _ (nld Qac _))) ln)))))) qn)) (ih (w64 (y48 + 1)) h)
     ·skip
      rcases bft (((x52.length : Int) != (p0.Levels.length : Int))) with hb61 | hb61
      ·replace h := Qas hb61 h
       refine wx tbk [(1, rp [(.tmp 49, (Qli x52))] (I ((x52.length : Int)))), (4, rp [(.tmp 52, (Qwi p0))] (I ((p0.Levels.length : Int)))), (6, rp [(.tmp 54, (B (((x52.length : Int) != (p0.Levels.length : Int)))))] (B true))] ⟨alm (c := Qab) (l := x52) (aln rfl Try.underlying37 rfl), alm (c := Qab) (l := p0.Levels) (aln rfl Try.underlying37 rfl), asb hb61 (amv rfl), trivial⟩ ?_
       refine Qff (by kernel_rfl) ?_
       refine wx tbk [] trivial ?_
       refine Qad ?_
       refine Qam ?_
       refine Qay ?_
       refine Qam ?_
       refine Qam ?_
       refine Qay ?_
       refine Qam ?_
       obtain rfl := osi h
       exact fend ⟨[B false], ⟨rot (by kernel_rfl), trivial⟩, rfl⟩ nll
      ·replace h := Qat hb61 h
       obtain ⟨x63, hf62, h⟩ := bno h
       refine wx tbk [(1, rp [(.tmp 49, (Qli x52))] (I ((x52.length : Int)))), (4, rp [(.tmp 52, (Qwi p0))] (I ((p0.Levels.length : Int)))), (6, rp [(.tmp 54, (B (((x52.length : Int) != (p0.Levels.length : Int)))))] (B false)), (8, rp [(.tmp 55, B false), fu 89, (.tmp 56, (Qli x52)), fu 90] (B x63))] ⟨alm (c := Qab) (l := x52) (aln rfl Try.underlying37 rfl), alm (c := Qab) (l := p0.Levels) (aln rfl Try.underlying37 rfl), asb hb61 (amv rfl), ag_ (Qap (first := []) (cap := []) (vs := [(Qli x52), (.fn (.func 90) [] [])]) (σr := []) (σr' := []) (res' := (B x63)) [] rfl Qj6 (Qmy N x52 _ hf62) rfl (Qb6 (rnc (.plain _ (nld Qaa _)) (rnc (.plain _ (NLt.fn _ _ _ nl0 nl0)) rn0))) Qao Qao (.plain _ nll) rfl rfl rfl), trivial⟩ ?_
       rcases bft ((!x63)) with hc64 | hc64
       ·replace h := Qas hc64 h
        refine wft hc64 (by kernel_rfl) ?_
        refine wx tbk [] trivial ?_
        refine Qad ?_
        refine Qam ?_
        refine Qay ?_
        refine Qam ?_
        refine Qam ?_
        refine Qay ?_
        refine Qam ?_
        obtain rfl := osi h
        exact fend ⟨[B false], ⟨rot (by kernel_rfl), trivial⟩, rfl⟩ nll
       ·replace h := Qat hc64 h
        refine wfn hc64 (by kernel_rfl) ?_
        refine Qai ?_
        refine thn ?_
        exact ⟨(), h, (mto (n := 126) [(2, I p2), (3, (Qdl p3)), (4, .ref 0 5 0 0), (11, I y48), (12, (Qli x52)), (42, (Qdl p3)), (43, (I ((p3.length : Int)))), (44, I y48)] [0] [(Qe4 p0)] hφ0 (pc rwl (pc (.rn (.plain _ (nld Qa4 _))) (pc (.rn (rqr rfl)) (pc rwl (pc (.rn (.plain _ (nld Qaa _))) (pc (.rn (.plain _ (nld Qa4 _))) (pc rwl (pc rwl pn)))))))) (qc (spb (lc (.rn (.plain _ (nld Qaa _))) (lc rwl (lc rwl (lc rwl (lc (.rn (.plain _ (nld Qac _))) ln)))))) qn))⟩
    ·replace h := Qat hc51 h
     refine wfn hc51 (by kernel_rfl) ?_
     refine Qa2 ?_
     refine Qaq ?_
     refine Qaq ?_
     refine Qa1 rfl ?_
     refine thn ?_
     exact ⟨(), h, (mto (n := 126) [(2, I p2), (3, (Qdl p3)), (4, .ref 0 5 0 0)] [0] [(Qe4 p0)] hφ0 (pc rwl (pc (.rn (.plain _ (nld Qa4 _))) (pc (.rn (rqr rfl)) pn))) (qc (spb (lc (.rn (.plain _ (nld Qaa _))) (lc rwl (lc rwl (lc rwl (lc (.rn (.plain _ (nld Qac _))) ln)))))) qn))⟩
  ·skip
   rcases bft ((x2.2 != 0)) with hb65 | hb65
   ·replace h := Qas hb65 h
    refine wx tbk [(2, rp [(.tmp 27, (B ((x2.2 != 0))))] (B true))] ⟨asb hb65 (amv rfl), trivial⟩ ?_
    refine Qff (by kernel_rfl) ?_
    refine wx tbk [] trivial ?_
    refine Qad ?_
    refine Qam ?_
    obtain rfl := osi h
    exact fend ⟨[B false], ⟨rot (by kernel_rfl), trivial⟩, rfl⟩ nll
   ·replace h := Qat hb65 h
    rcases bft ((x2.1 != p2)) with hb66 | hb66
    ·replace h := Qas hb66 h
     refine wx tbk [(2, rp [(.tmp 27, (B ((x2.2 != 0))))] (B false)), (7, rp [(.tmp 32, (B ((x2.1 != p2))))] (B true))] ⟨asb hb65 (amv rfl), asb hb66 (amv rfl), trivial⟩ ?_
     refine Qff (by kernel_rfl) ?_
     refine wx tbk [] trivial ?_
     refine Qad ?_
     refine Qam ?_
     obtain rfl := osi h
     exact fend ⟨[B false], ⟨rot (by kernel_rfl), trivial⟩, rfl⟩ nll
    ·replace h := Qat hb66 h
     refine wx tbk [(2, rp [(.tmp 27, (B ((x2.2 != 0))))] (B false)), (7, rp [(.tmp 32, (B ((x2.1 != p2))))] (B false)), (9, rp [(.tmp 33, B false), (.tmp 34, (Qdl p3))] (I ((p3.length : Int)))), (12, rp [(.tmp 33, B false), (.tmp 37, (Qqt p0))] (I ((p0.Hours.length : Int))))] ⟨asb hb65 (amv rfl), asb hb66 (amv rfl), ag_ (alm (c := Qa3) (l := p3) (aln rfl Try.underlying42 rfl)), ag_ (alm (c := Qax) (l := p0.Hours) (aln rfl Try.underlying45 rfl)), trivial⟩ ?_
     rcases bft (((p3.length : Int) != (w64 ((p0.Hours.length : Int) + 1)))) with hc67 | hc67
     ·replace h := Qas hc67 h
      refine wft hc67 (by kernel_rfl) ?_
      refine wx tbk [] trivial ?_
      refine Qad ?_
      refine Qam ?_
      obtain rfl := osi h
      exact fend ⟨[B false], ⟨rot (by kernel_rfl), trivial⟩, rfl⟩ nll
     ·replace h := Qat hc67 h
      refine wfn hc67 (by kernel_rfl) ?_
      refine Qai ?_
      refine thn ?_
      exact ⟨(), h, (mto (n := 126) [(2, I p2), (3, (Qdl p3)), (4, .ref 0 5 0 0)] [0] [(Qe4 p0)] hφ0 (pc rwl (pc (.rn (.plain _ (nld Qa4 _))) (pc (.rn (rqr rfl)) pn))) (qc (spb (lc (.rn (.plain _ (nld Qaa _))) (lc rwl (lc rwl (lc rwl (lc (.rn (.plain _ (nld Qac _))) ln)))))) qn))⟩
def nesA (m : Nat) : List (List AV) → AV
  | [] => nilS
  | x :: xs => .dat m (x :: xs)
theorem nns {m : Nat} : ∀ l : List Int, NLt 0 (nesA m (l.map Qab))
  | [] => .lit _
  | x :: l => nld Qaa (x :: l)
theorem Less.nes {m : Nat} : ∀ {xs : List (List AV)}, Less (nesA m xs) (.dat m xs)
  | [] => Less.nil
  | _ :: _ => lrf
theorem Less.nes0 {m : Nat} : ∀ {l : List Int}, l.isEmpty = true → Less (nesA m (l.map Qab)) nilS
  | [], _ => lrf
  | _ :: _, h => nomatch (show false = true from h)
theorem Less.accnes {n : Nat} {ty : TypeId} {m : Nat} : ∀ {l : List Int}, (!l.isEmpty) = true → Less (.acc n ty m (l.map Qab)) (nesA m (l.map Qab))
  | [], h => nomatch (show false = true from h)
  | _ :: _, _ => Less.acc
theorem Qug {P : Program} {o : Oper} {t t' e : TypeId} {x y : Operand} (h : o.op = .binOp .eql t x y t') (ht : P.underlying t = some (.slice e)) :
    Qc4 P o [(x, nilS), (y, .lit (.slice none 0 0))] [] (.lit (.bool true)) [] := Qca fun X φ ac w hr _ => by
  have h1 : ac.eval x = .slice none 0 0 := Qck (hr (x, nilS) (by simp))
  have h2 : ac.eval y = .slice none 0 0 := Qck (hr (y, .lit (.slice none 0 0)) (by simp))
  have hg : (eqGuard .eql t x y (.slice none 0 0) (.slice none 0 0)).run P w = .ok () w := rfl
  exact ⟨_, by simp only [execOp, h, h1, h2, Sem.run_bind, hg, Result.andThen_ok, Lib.run_eql_slice_nil w t e _ _ _ _ _ ht]; rfl, .lit _⟩
def Qc8 (N : Nat) (p0 : GJob) (rec_ : (GJob → (List Int) → (List Int) → Int → Option ((List Int) × Int))) (p1 : (List Int)) (y8 : Int) (k12 : (List Int) × Int → Option ((List Int) × Int)) : Nat → (List Int) → Int → Int → Option ((List Int) × Int)
  | 0, _, _, _ => none
  | n19 + 1, y13, y14, y15 =>
    bif (decide (y15 < (p0.Levels.length : Int))) then
     (Qet N p0 (p1.length : Int) y8 y15).bind fun x22 =>
     bif x22 then
      chk (decide ((0 + p1.length) * 8 ≤ 140737488355328)) <|
      chk (decide ((p1.length + ([y15]).length) * 8 ≤ 140737488355328)) <|
      (rec_ p0 (p1 ++ ([y15])) y13 y14).bind fun x27 =>
      Qc8 N p0 rec_ p1 y8 k12 n19 x27.1 x27.2 (w64 (y15 + 1))
     else
      Qc8 N p0 rec_ p1 y8 k12 n19 y13 y14 (w64 (y15 + 1))
    else
     k12 (y13, y14)
def Qe8 (N : Nat) (rec_ : GJob → (List Int) → (List Int) → Int → Option ((List Int) × Int)) (p0 : GJob) (p1 : (List Int)) (p2 : (List Int)) (p3 : Int) : Option ((List Int) × Int) :=
  bif ((p1.length : Int) == (p0.Hours.length : Int)) then
   (Qgt N p0 p1).bind fun x3 =>
   bif x3.2 then
    bif p2.isEmpty then
     chk (!p1.isEmpty) <|
     chk (decide ((0 + p1.length) * 8 ≤ 140737488355328)) <|
     some (p1, x3.1)
    else
    bif (decide (x3.1 > p3)) then
     chk (!p1.isEmpty) <|
     chk (decide ((0 + p1.length) * 8 ≤ 140737488355328)) <|
     some (p1, x3.1)
    else
     some (p2, p3)
   else
    some (p2, p3)
  else
   Qb0 (fun y8 =>
     Qb0 (fun ⟨y10, y11⟩ =>
       some (y10, y11)) fun k12 : (List Int) × Int → Option ((List Int) × Int) =>
     Qc8 N p0 rec_ p1 y8 k12 N p2 p3 0) fun k9 : Int → Option ((List Int) × Int) =>
   bif (decide ((p1.length : Int) > 0)) then
    (getI p1 (w64 ((p1.length : Int) - 1))).bind fun x29 =>
    k9 (x29)
   else
    k9 (p0.First)
def Qeq : Nat → GJob → (List Int) → (List Int) → Int → Option ((List Int) × Int)
  | 0, _, _, _, _ => none
  | N + 1, p0, p1, p2, p3 => Qe8 N (Qeq N) p0 p1 p2 p3
def Qjf (p1 : (List Int)) : AV := .dat 1 ((p1 : List Int).map Qab)
def z141_1 (p0 : GJob) : AV := .dat 2 ((p0.Hours : List GHour).map Qax)
def z141_0 (p0 : GJob) : AV := .dat 1 ((p0.Levels : List Int).map Qab)
def Qpa (p0 : GJob) : AV := .agg [(z141_0 p0), (I (p0.Ramp)), (I (p0.Start)), (I (p0.First)), (z141_1 p0)]
def Qm7 (p2 : (List Int)) : AV := nesA 1 ((p2 : List Int).map Qab)
def Qqr (p1 : (List Int)) : AV := .acc 1 3 1 ((p1 : List Int).map Qab)
def Qom (p0 : GJob) : Slot := .own 5 [[(z141_0 p0), (I (p0.Ramp)), (I (p0.Start)), (I (p0.First)), (z141_1 p0)]]
def Qn5 (y13 : (List Int)) : AV := nesA 1 ((y13 : List Int).map Qab)
set_option maxRecDepth 100000 in
set_option maxHeartbeats 4000000 in
theorem Qow : ∀ (N : Nat) (p0 : GJob) (p1 : (List Int)) (p2 : (List Int)) (p3 : Int) (r : ((List Int) × Int)) (_ : Qeq N p0 p1 p2 p3 = some r), Spec Try.prog 79 [(.agg (Qhk p0)), (.dat 1 (p1.map Qab)), (nesA 1 (p2.map Qab)), (I p3)] [] (.tup [(nesA 1 (r.1.map Qab)), (I r.2)]) [] := by
  intro N
  induction N with
  | zero => intro p0 p1 p2 p3 r h; exact nomatch (show (none : Option ((List Int) × Int)) = some r from h)
  | succ N ihX =>
  intro p0 p1 p2 p3 r h
  replace h : Qe8 N (Qeq N) p0 p1 p2 p3 = some r := h
  refine Qae Try.func79 rfl 0 (nle rfl) (fun X φ0 w0 hφ0 => ?_)
  unfold Qe8 at h
  refine wx tbk [] trivial ?_
  refine wx tbk [(1, rp [(.tmp 15, (Qjf p1))] (I ((p1.length : Int))))] ⟨alm (c := Qab) (l := p1) (aln rfl Try.underlying37 rfl), trivial⟩ ?_
  refine wsq ?_
  refine wx tbk [(3, rp [(.tmp 19, (z141_1 p0))] (I ((p0.Hours.length : Int))))] ⟨alm (c := Qax) (l := p0.Hours) (aln rfl Try.underlying38 rfl), trivial⟩ ?_
  rcases bft (((p1.length : Int) == (p0.Hours.length : Int))) with hc1 | hc1
  ·replace h := Qas hc1 h
   refine wft hc1 (by kernel_rfl) ?_
   obtain ⟨x3, hf2, h⟩ := bno h
   refine wx tbk [(2, rp [fu 38, (.tmp 23, (Qpa p0)), (.tmp 24, (Qjf p1))] (.tup [I x3.1, B x3.2]))] ⟨apc (first := []) (cap := []) (vs := [(Qpa p0), (Qjf p1)]) rfl enter38 (Qk3 N p0 p1 _ hf2) rfl rfl (nlc (NLt.agg _ (nlc (nld Qaa _) (nlc nll (nlc nll (nlc nll (nlc (nld Qac _) nl0)))))) (nlc (nld Qaa _) nl0)) (NLt.tup _ (nlc nll (nlc nll nl0))) rfl, trivial⟩ ?_
   refine wsq ?_
   rcases bft (x3.2) with hb4 | hb4
   ·replace h := Qas hb4 h
    rcases bft (p2.isEmpty) with he | he
    ·replace h := Qas he h
     refine wx tbk [(1, rp [(.tmp 28, B x3.2)] (B true)), (3, rp [(.tmp 29, B true), (.tmp 30, (Qm7 p2)), ((.const (.slice none 0 0)), nilS)] (B true))] ⟨asb hb4 (amv rfl), ag_ (awk (rd' := [(.tmp 30, nilS), ((.const (.slice none 0 0)), nilS)]) ⟨rfl, Less.nes0 he, rfl, lrf, trivial⟩ (Qug rfl Try.underlying37)), trivial⟩ ?_
     refine Qff (by kernel_rfl) ?_
     obtain ⟨hz8, h⟩ := cko h
     obtain ⟨ha7, h⟩ := cko h
     refine wx tbk [(1, ⟨[((.const (.slice none 0 0)), nilS), (.tmp 38, (Qjf p1))], [(1, .unused)], (Qqr p1), [(1, .tok)], false⟩)] ⟨Qg4 rfl Try.underlying37 te3 (Base.nil) rfl rfl (Qnh Qab Qpw _) (Qnp Qab ha7) (Qno Qab ha7 (by decide)) (Qo4 Qab) rfl rfl, trivial⟩ ?_
     refine Qad ?_
     refine Qam ?_
     refine Qam ?_
     obtain rfl := osi h
     exact fend ⟨[(nesA 1 ((p1 : List Int).map Qab)), I x3.1], ⟨Qga (v := (Qqr p1)) (rot (by kernel_rfl)) (Less.accnes hz8), rot (by kernel_rfl), trivial⟩, rfl⟩ (NLt.tup _ (nlc (nns _) (nlc nll nl0)))
    replace h := Qat he h
    have hz5 : (!p2.isEmpty) = true := by rw [he]; rfl
    refine wx tbk [(1, rp [(.tmp 28, B x3.2)] (B true)), (3, rp [(.tmp 29, B true), (.tmp 30, (Qm7 p2)), ((.const (.slice none 0 0)), nilS)] (B false))] ⟨asb hb4 (amv rfl), ag_ (awk (rd' := [(.tmp 30, .dat 1 ((p2 : List Int).map Qab)), ((.const (.slice none 0 0)), nilS)]) ⟨rfl, Less.nes, rfl, lrf, trivial⟩ (Qqc rfl Try.underlying37 rfl (Qhh hz5))), trivial⟩ ?_
    rcases bft ((decide (x3.1 > p3))) with hc6 | hc6
    ·replace h := Qas hc6 h
     refine wft hc6 (by kernel_rfl) ?_
     obtain ⟨hz8, h⟩ := cko h
     obtain ⟨ha7, h⟩ := cko h
     refine wx tbk [(1, ⟨[((.const (.slice none 0 0)), nilS), (.tmp 38, (Qjf p1))], [(1, .unused)], (Qqr p1), [(1, .tok)], false⟩)] ⟨Qg4 rfl Try.underlying37 te3 (Base.nil) rfl rfl (Qnh Qab Qpw _) (Qnp Qab ha7) (Qno Qab ha7 (by decide)) (Qo4 Qab) rfl rfl, trivial⟩ ?_
     refine Qad ?_
     refine Qam ?_
     refine Qam ?_
     obtain rfl := osi h
     exact fend ⟨[(nesA 1 ((p1 : List Int).map Qab)), I x3.1], ⟨Qga (v := (Qqr p1)) (rot (by kernel_rfl)) (Less.accnes hz8), rot (by kernel_rfl), trivial⟩, rfl⟩ (NLt.tup _ (nlc (nns _) (nlc nll nl0)))
    ·replace h := Qat hc6 h
     refine wfn hc6 (by kernel_rfl) ?_
     refine Qai ?_
     refine thn ?_
     refine wx tbk [] trivial ?_
     refine Qad ?_
     refine Qam ?_
     obtain rfl := osi h
     exact fend ⟨[(Qm7 p2), I p3], ⟨rot (by kernel_rfl), rot (by kernel_rfl), trivial⟩, rfl⟩ (NLt.tup _ (nlc (nns _) (nlc nll nl0)))
   ·replace h := Qat hb4 h
    refine wx tbk [(1, rp [(.tmp 28, B x3.2)] (B false))] ⟨asb hb4 (amv rfl), trivial⟩ ?_
    refine Qd2 (by kernel_rfl) ?_
    refine Qai ?_
    refine thn ?_
    refine wx tbk [] trivial ?_
    refine Qad ?_
    refine Qam ?_
    obtain rfl := osi h
    exact fend ⟨[(Qm7 p2), I p3], ⟨rot (by kernel_rfl), rot (by kernel_rfl), trivial⟩, rfl⟩ (NLt.tup _ (nlc (nns _) (nlc nll nl0)))
  ·replace h := Qat hc1 h
   refine wfn hc1 (by kernel_rfl) ?_
   refine Qai ?_
   refine thn ?_
   refine wx tbk [] trivial ?_
   obtain ⟨k9, hk_k9, h⟩ := jko h
   refine wjn (τ := Int) (fun t => k9 t = some r) (fun y8 => ⟨mk 78 [(1, (Qjf p1)), (2, (Qm7 p2)), (3, I p3), (4, .ref 0 5 0 0), (10, (I ((p1.length : Int)))), (13, I y8)], [(Qom p0)]⟩) (fun y8 h => ?_) ?_
   ·subst hk_k9
    obtain ⟨k12, hk_k12, h⟩ := jko h
    refine wjn (τ := (List Int) × Int) (fun t => k12 t = some r) (fun ⟨y10, y11⟩ => ⟨mk 78 [(2, (nesA 1 ((y10 : List Int).map Qab))), (3, I y11)], []⟩) (fun t h => ?_) ?_
    ·subst hk_k12
     obtain ⟨y10, y11⟩ := t
     refine wx tbk [] trivial ?_
     refine Qad ?_
     obtain rfl := osi h
     exact fend ⟨[(nesA 1 ((y10 : List Int).map Qab)), I y11], ⟨rot (by kernel_rfl), rot (by kernel_rfl), trivial⟩, rfl⟩ (NLt.tup _ (nlc (nns _) (nlc nll nl0)))
    ·skip
     refine wx tbk [] trivial ?_
     refine Qaf ?_
     refine wmr (mto (n := 78) (hmask := by generalize p2 = q; cases q <;> kernel_rfl) (l' := [(1, (Qjf p1)), (2, (Qm7 p2)), (3, I p3), (4, .ref 0 5 0 0), (10, (I ((p1.length : Int)))), (13, I y8), (14, I 0)]) (own' := [(Qom p0)]) [(1, (Qjf p1)), (2, (Qm7 p2)), (3, I p3), (4, .ref 0 5 0 0), (10, (I ((p1.length : Int)))), (13, I y8), (14, I 0)] [0] [(Qom p0)] hφ0 (pc (.rn (.plain _ (nld Qaa _))) (pc (.rn (.plain _ (nns _))) (pc rwl (pc (.rn (rqr rfl)) (pc rwl (pc rwl (pc rwl pn))))))) (qc (spb (lc (.rn (.plain _ (nld Qaa _))) (lc rwl (lc rwl (lc rwl (lc (.rn (.plain _ (nld Qac _))) ln)))))) qn)) ?_
     refine Qbk (τ := (List Int) × Int × Int) (fun n t => Qc8 N p0 (Qeq N) p1 y8 k12 n t.1 t.2.1 t.2.2 = some r) (fun ⟨y13, y14, y15⟩ => ⟨mk 78 [(1, (Qjf p1)), (2, (Qn5 y13)), (3, I y14), (4, .ref 0 5 0 0), (10, (I ((p1.length : Int)))), (13, I y8), (14, I y15)], [(Qom p0)]⟩) (fun t h => by rw [Qc8] at h; cases h) (fun n19 ih t h => ?_) N (p2, p3, 0) h
     obtain ⟨y13, y14, y15⟩ := t
     rw [Qc8] at h
     skip
     refine wsq ?_
     refine wx tbk [(3, rp [(.tmp 54, (z141_0 p0))] (I ((p0.Levels.length : Int))))] ⟨alm (c := Qab) (l := p0.Levels) (aln rfl Try.underlying37 rfl), trivial⟩ ?_
     rcases bft ((decide (y15 < (p0.Levels.length : Int)))) with hc20 | hc20
     ·replace h := Qas hc20 h
      refine wft hc20 (by kernel_rfl) ?_
      refine Qai ?_
      refine thn ?_
      refine wsq ?_
      refine Qaf ?_
      obtain ⟨x22, hf21, h⟩ := bno h
      refine wx tbk [(4, rp [fu 77, (.tmp 59, (Qpa p0)), (.tmp 60, (I ((p1.length : Int)))), (.tmp 61, I y8), (.tmp 62, I y15)] (B x22))] ⟨apc (first := []) (cap := []) (vs := [(Qpa p0), (I ((p1.length : Int))), I y8, I y15]) rfl Qp2 (Qfu N p0 (p1.length : Int) y8 y15 _ hf21) rfl rfl (nlc (NLt.agg _ (nlc (nld Qaa _) (nlc nll (nlc nll (nlc nll (nlc (nld Qac _) nl0)))))) (nlc nll (nlc nll (nlc nll nl0)))) nll rfl, trivial⟩ ?_
      rcases bft (x22) with hc23 | hc23
      ·replace h := Qas hc23 h
       refine wft hc23 (by kernel_rfl) ?_
       obtain ⟨ha24, h⟩ := cko h
       obtain ⟨ha25, h⟩ := cko h
       obtain ⟨x27, hf26, h⟩ := bno h
       refine wy1 tbk [(2, ⟨[((.const (.slice none 0 0)), nilS), (.tmp 66, (Qjf p1))], [(1, .unused)], (Qqr p1), [(1, .tok)], false⟩), (4, rp [(.tmp 68, I y15)] (.dat 1 (([y15] : List Int).map Qab))), (5, ⟨[(.tmp 67, (Qqr p1)), (.tmp 69, (.dat 1 (([y15] : List Int).map Qab)))], [(1, .tok), (2, .unused)], (.acc 2 3 1 ((p1 ++ ([y15]) : List Int).map Qab)), [(1, .dead), (2, .tok)], false⟩), (8, rp [fu 79, (.tmp 65, (Qpa p0)), (.tmp 70, (.acc 2 3 1 ((p1 ++ ([y15]) : List Int).map Qab))), (.tmp 71, (Qn5 y13)), (.tmp 72, I y14)] (.tup [(nesA 1 ((x27.1 : List Int).map Qab)), I x27.2]))] ⟨Qg4 rfl Try.underlying37 te3 (Base.nil) rfl rfl (Qnh Qab Qpw _) (Qnp Qab ha24) (Qno Qab ha24 (by decide)) (Qo4 Qab) rfl rfl, Qct (vs := [I y15]) rfl Try.underlying37 ti3 tz3 rfl (by decide) rfl (by decide) (by rfl) (by rfl) (by rfl) rfl, Qg4 rfl Try.underlying37 te3 (Base.acc _ _) rfl rfl (by rfl) (Qoj Qab ha25) (Qoi Qab ha25 (by decide)) (Qoh Qab) rfl rfl, awk (rd' := (.func 79, (.fn (.func 79) [] [])) :: [(.tmp 65, (Qpa p0)), (.tmp 70, (.dat 1 ((p1 ++ ([y15]) : List Int).map Qab))), (.tmp 71, (Qn5 y13)), (.tmp 72, I y14)]) ⟨rfl, lrf, rfl, lrf, rfl, Less.acc, rfl, lrf, rfl, lrf, trivial⟩ (apc (first := []) (cap := []) (vs := [(Qpa p0), (.dat 1 ((p1 ++ ([y15]) : List Int).map Qab)), (Qn5 y13), I y14]) rfl enter79 (ihX p0 (p1 ++ ([y15])) y13 y14 _ hf26) rfl rfl (nlc (NLt.agg _ (nlc (nld Qaa _) (nlc nll (nlc nll (nlc nll (nlc (nld Qac _) nl0)))))) (nlc (nld Qaa _) (nlc (nns _) (nlc nll nl0)))) (NLt.tup _ (nlc (nns _) (nlc nll nl0))) rfl), trivial⟩ ?_
       refine bln ?_
       refine thn ?_
       refine wx1 tbk [] trivial ?_
       refine thn ?_
       exact arm (mto (n := 78) (hmask := by generalize x27.1 = q; cases q <;> kernel_rfl) [(1, (Qjf p1)), (2, (nesA 1 ((x27.1 : List Int).map Qab))), (3, I x27.2), (4, .ref 0 5 0 0), (10, (I ((p1.length : Int)))), (13, I y8), (14, (I (w64 (y15 + 1))))] [0] [(Qom p0)] hφ0 (pc (.rn (.plain _ (nld Qaa _))) (pc (.rn (.plain _ (nns _))) (pc rwl (pc (.rn (rqr rfl)) (pc rwl (pc rwl (pc rwl pn))))))) (qc (spb (lc (.rn (.plain _ (nld Qaa _))) (lc rwl (lc rwl (lc rwl (lc (.rn (.plain _ (nld Qac _))) ln)))))) qn)) (ih (x27.1, x27.2, w64 (y15 + 1)) h)
      ·replace h := Qat hc23 h
       refine wfn hc23 (by kernel_rfl) ?_
       refine Qai ?_
       refine bln ?_
       refine thn ?_
       refine wx1 tbk [] trivial ?_
       refine thn ?_
       exact arm (mto (n := 78) (hmask := by generalize y13 = q; cases q <;> kernel_rfl) [(1, (Qjf p1)), (2, (Qn5 y13)), (3, I y14), (4, .ref 0 5 0 0), (10, (I ((p1.length : Int)))), (13, I y8), (14, (I (w64 (y15 + 1))))] [0] [(Qom p0)] hφ0 (pc (.rn (.plain _ (nld Qaa _))) (pc (.rn (.plain _ (nns _))) (pc rwl (pc (.rn (rqr rfl)) (pc rwl (pc rwl (pc rwl pn))))))) (qc (spb (lc (.rn (.plain _ (nld Qaa _))) (lc rwl (lc rwl (lc rwl (lc (.rn (.plain _ (nld Qac _))) ln)))))) qn)) (ih (y13, y14, w64 (y15 + 1)) h)
     ·replace h := Qat hc20 h
      refine wfn hc20 (by kernel_rfl) ?_
      refine Qa2 ?_
      refine Qaq ?_
      refine Qaq ?_
      refine Qa1 rfl ?_
      refine thn ?_
      exact ⟨(y13, y14), h, (mto (n := 78) (hmask := by generalize y13 = q; cases q <;> kernel_rfl) [(2, (Qn5 y13)), (3, I y14)] [] [] hφ0 (pc (.rn (.plain _ (nns _))) (pc rwl pn)) qn)⟩
   ·skip
    refine wx tbk [] trivial ?_
    rcases bft ((decide ((p1.length : Int) > 0))) with hc28 | hc28
    ·replace h := Qas hc28 h
     refine wft hc28 (by kernel_rfl) ?_
     obtain ⟨x29, hg30, h⟩ := bno h
     obtain ⟨hi31, hj32⟩ := gsm hg30
     refine wx1 tbk [(3, rp [(.tmp 47, (Qjf p1)), (.tmp 49, (I (w64 ((p1.length : Int) - 1))))] (.dptr (Qab (x29)) 0))] ⟨aid rfl Try.underlying37 ti3 rfl rfl hi31 (mgt Qab hj32) rfl, trivial⟩ ?_
     refine thn ?_
     exact ⟨(x29), h, (mto (n := 78) (hmask := by generalize p2 = q; cases q <;> kernel_rfl) [(1, (Qjf p1)), (2, (Qm7 p2)), (3, I p3), (4, .ref 0 5 0 0), (10, (I ((p1.length : Int)))), (13, I x29)] [0] [(Qom p0)] hφ0 (pc (.rn (.plain _ (nld Qaa _))) (pc (.rn (.plain _ (nns _))) (pc rwl (pc (.rn (rqr rfl)) (pc rwl (pc rwl pn)))))) (qc (spb (lc (.rn (.plain _ (nld Qaa _))) (lc rwl (lc rwl (lc rwl (lc (.rn (.plain _ (nld Qac _))) ln)))))) qn))⟩
    ·replace h := Qat hc28 h
     refine wfn hc28 (by kernel_rfl) ?_
     refine Qai ?_
     refine thn ?_
     exact ⟨(p0.First), h, (mto (n := 78) (hmask := by generalize p2 = q; cases q <;> kernel_rfl) [(1, (Qjf p1)), (2, (Qm7 p2)), (3, I p3), (4, .ref 0 5 0 0), (10, (I ((p1.length : Int)))), (13, I p0.First)] [0] [(Qom p0)] hφ0 (pc (.rn (.plain _ (nld Qaa _))) (pc (.rn (.plain _ (nns _))) (pc rwl (pc (.rn (rqr rfl)) (pc rwl (pc rwl pn)))))) (qc (spb (lc (.rn (.plain _ (nld Qaa _))) (lc rwl (lc rwl (lc rwl (lc (.rn (.plain _ (nld Qac _))) ln)))))) qn))⟩
def Qjj (N : Nat) (p0 : GJob) : Option ((List Int) × Int) :=
  (Qeq N p0 ([]) ([]) 0).bind fun x2 =>
  some (x2.1, x2.2)
def z140_3 (p0 : GJob) : AV := .agg [(.dat 1 ((p0.Levels : List Int).map Qab)), (I (p0.Ramp)), (I (p0.Start)), (I (p0.First)), (.dat 2 ((p0.Hours : List GHour).map Qax))]
def z140_4 : AV := .dat 1 (([] : List Int).map Qab)
set_option maxRecDepth 100000 in
set_option maxHeartbeats 4000000 in
theorem Qqg (N : Nat) (p0 : GJob) (r : ((List Int) × Int)) (h : Qjj N p0 = some r) : Spec Try.prog 39 [(.agg (Qhk p0))] [] (.tup [(.dat 1 (r.1.map Qab)), (I r.2)]) [] := by
  refine Qae Try.func39 rfl 0 (nle rfl) (fun X φ0 w0 hφ0 => ?_)
  unfold Qjj at h
  refine wx tbk [] trivial ?_
  obtain ⟨x2, hf1, h⟩ := bno h
  refine wx tbk [(1, rp [fu 79, (.tmp 4, (z140_3 p0)), ((.const (.slice none 0 0)), nilS), ((.const (.slice none 0 0)), nilS), ci 0] (.tup [(nesA 1 ((x2.1 : List Int).map Qab)), I x2.2]))] ⟨awk (rd' := (.func 79, (.fn (.func 79) [] [])) :: [(.tmp 4, (z140_3 p0)), ((.const (.slice none 0 0)), z140_4), ((.const (.slice none 0 0)), nilS), (.const (.int .i64 0), I 0)]) ⟨rfl, lrf, rfl, lrf, rfl, Less.nil, rfl, lrf, rfl, lrf, trivial⟩ (apc (first := []) (cap := []) (vs := [(z140_3 p0), z140_4, nilS, I 0]) rfl enter79 (Qow N p0 ([]) ([]) 0 _ hf1) rfl rfl (nlc (NLt.agg _ (nlc (nld Qaa _) (nlc nll (nlc nll (nlc nll (nlc (nld Qac _) nl0)))))) (nlc (nld Qaa _) (nlc nll (nlc nll nl0)))) (NLt.tup _ (nlc (nns _) (nlc nll nl0))) rfl), trivial⟩ ?_
  refine Qad ?_
  obtain rfl := osi h
  exact fend ⟨[(.dat 1 ((x2.1 : List Int).map Qab)), I x2.2], ⟨Qga (v := nesA 1 ((x2.1 : List Int).map Qab)) (rot (by kernel_rfl)) Less.nes, rot (by kernel_rfl), trivial⟩, rfl⟩ (NLt.tup _ (nlc (nld Qaa _) (nlc nll nl0)))
def Qip (N : Nat) (p0 : GJob) : Option Bool :=
  bif (decide ((p0.Levels.length : Int) ≤ 15)) then
   bif (decide ((p0.Hours.length : Int) ≤ 103)) then
    (Qft N p0).bind fun x4 =>
    bif (!x4) then
     some true
    else
     bif (decide ((p0.Hours.length : Int) ≤ 5)) then
      some (decide ((p0.Levels.length : Int) ≤ 5))
     else
      some false
   else
    some false
  else
   some false
def Qo9 (p0 : GJob) : AV := .dat 1 ((p0.Levels : List Int).map Qab)
def Qo8 (p0 : GJob) : AV := .dat 2 ((p0.Hours : List GHour).map Qax)
def Qqq (p0 : GJob) : AV := .agg [(Qo9 p0), (I (p0.Ramp)), (I (p0.Start)), (I (p0.First)), (Qo8 p0)]
set_option maxRecDepth 100000 in
set_option maxHeartbeats 4000000 in
theorem Qjo (N : Nat) (p0 : GJob) (r : Bool) (h : Qip N p0 = some r) : Spec Try.prog 35 [(.agg (Qhk p0))] [] (B r) [] := by
  refine Qae Try.func35 rfl 0 (nle rfl) (fun X φ0 w0 hφ0 => ?_)
  unfold Qip at h
  refine wx tbk [] trivial ?_
  rcases bft ((decide ((p0.Levels.length : Int) ≤ 15))) with hb1 | hb1
  ·replace h := Qas hb1 h
   rcases bft ((decide ((p0.Hours.length : Int) ≤ 103))) with hb2 | hb2
   ·replace h := Qas hb2 h
    obtain ⟨x4, hf3, h⟩ := bno h
    rcases bft ((!x4)) with hb5 | hb5
    ·replace h := Qas hb5 h
     refine wx tbk [(2, rp [(.tmp 4, (Qo9 p0))] (I ((p0.Levels.length : Int)))), (4, rp [(.tmp 6, (B ((decide ((p0.Levels.length : Int) ≤ 15)))))] (B true)), (7, rp [(.tmp 7, B true), (.tmp 9, (Qo8 p0))] (I ((p0.Hours.length : Int)))), (10, rp [(.tmp 12, (B ((decide ((p0.Hours.length : Int) ≤ 103)))))] (B true)), (12, rp [(.tmp 13, B true), fu 20, (.tmp 14, (Qqq p0))] (B x4)), (14, rp [(.tmp 13, B true), (.tmp 16, (B ((!x4))))] (B true))] ⟨alm (c := Qab) (l := p0.Levels) (aln rfl Try.underlying37 rfl), asb hb1 (amv rfl), ag_ (alm (c := Qax) (l := p0.Hours) (aln rfl Try.underlying38 rfl)), asb hb2 (amv rfl), ag_ (apc (first := []) (cap := []) (vs := [(Qqq p0)]) rfl Qsf (Qgf N p0 _ hf3) rfl rfl (nlc (NLt.agg _ (nlc (nld Qaa _) (nlc nll (nlc nll (nlc nll (nlc (nld Qac _) nl0)))))) nl0) nll rfl), asb hb5 (ag_ (amv rfl)), trivial⟩ ?_
     refine Qad ?_
     obtain rfl := osi h
     exact fend ⟨[B true], ⟨rot (by kernel_rfl), trivial⟩, rfl⟩ nll
    ·replace h := Qat hb5 h
     rcases bft ((decide ((p0.Hours.length : Int) ≤ 5))) with hb6 | hb6
     ·replace h := Qas hb6 h
      refine wx tbk [(2, rp [(.tmp 4, (Qo9 p0))] (I ((p0.Levels.length : Int)))), (4, rp [(.tmp 6, (B ((decide ((p0.Levels.length : Int) ≤ 15)))))] (B true)), (7, rp [(.tmp 7, B true), (.tmp 9, (Qo8 p0))] (I ((p0.Hours.length : Int)))), (10, rp [(.tmp 12, (B ((decide ((p0.Hours.length : Int) ≤ 103)))))] (B true)), (12, rp [(.tmp 13, B true), fu 20, (.tmp 14, (Qqq p0))] (B x4)), (14, rp [(.tmp 13, B true), (.tmp 16, (B ((!x4))))] (B false)), (17, rp [(.tmp 17, B false), (.tmp 19, (Qo8 p0))] (I ((p0.Hours.length : Int)))), (19, rp [(.tmp 17, B false), (.tmp 21, (B ((decide ((p0.Hours.length : Int) ≤ 5)))))] (B true)), (22, rp [(.tmp 22, B true), (.tmp 24, (Qo9 p0))] (I ((p0.Levels.length : Int))))] ⟨alm (c := Qab) (l := p0.Levels) (aln rfl Try.underlying37 rfl), asb hb1 (amv rfl), ag_ (alm (c := Qax) (l := p0.Hours) (aln rfl Try.underlying38 rfl)), asb hb2 (amv rfl), ag_ (apc (first := []) (cap := []) (vs := [(Qqq p0)]) rfl Qsf (Qgf N p0 _ hf3) rfl rfl (nlc (NLt.agg _ (nlc (nld Qaa _) (nlc nll (nlc nll (nlc nll (nlc (nld Qac _) nl0)))))) nl0) nll rfl), asb hb5 (ag_ (amv rfl)), ag_ (alm (c := Qax) (l := p0.Hours) (aln rfl Try.underlying38 rfl)), asb hb6 (ag_ (amv rfl)), ag_ (alm (c := Qab) (l := p0.Levels) (aln rfl Try.underlying37 rfl)), trivial⟩ ?_
      refine Qad ?_
      obtain rfl := osi h
      exact fend ⟨[(B ((decide ((p0.Levels.length : Int) ≤ 5))))], ⟨rot (by kernel_rfl), trivial⟩, rfl⟩ nll
     ·replace h := Qat hb6 h
      refine wx tbk [(2, rp [(.tmp 4, (Qo9 p0))] (I ((p0.Levels.length : Int)))), (4, rp [(.tmp 6, (B ((decide ((p0.Levels.length : Int) ≤ 15)))))] (B true)), (7, rp [(.tmp 7, B true), (.tmp 9, (Qo8 p0))] (I ((p0.Hours.length : Int)))), (10, rp [(.tmp 12, (B ((decide ((p0.Hours.length : Int) ≤ 103)))))] (B true)), (12, rp [(.tmp 13, B true), fu 20, (.tmp 14, (Qqq p0))] (B x4)), (14, rp [(.tmp 13, B true), (.tmp 16, (B ((!x4))))] (B false)), (17, rp [(.tmp 17, B false), (.tmp 19, (Qo8 p0))] (I ((p0.Hours.length : Int)))), (19, rp [(.tmp 17, B false), (.tmp 21, (B ((decide ((p0.Hours.length : Int) ≤ 5)))))] (B false))] ⟨alm (c := Qab) (l := p0.Levels) (aln rfl Try.underlying37 rfl), asb hb1 (amv rfl), ag_ (alm (c := Qax) (l := p0.Hours) (aln rfl Try.underlying38 rfl)), asb hb2 (amv rfl), ag_ (apc (first := []) (cap := []) (vs := [(Qqq p0)]) rfl Qsf (Qgf N p0 _ hf3) rfl rfl (nlc (NLt.agg _ (nlc (nld Qaa _) (nlc nll (nlc nll (nlc nll (nlc (nld Qac _) nl0)))))) nl0) nll rfl), asb hb5 (ag_ (amv rfl)), ag_ (alm (c := Qax) (l := p0.Hours) (aln rfl Try.underlying38 rfl)), asb hb6 (ag_ (amv rfl)), trivial⟩ ?_
      refine Qad ?_
      obtain rfl := osi h
      exact fend ⟨[B false], ⟨rot (by kernel_rfl), trivial⟩, rfl⟩ nll
   ·replace h := Qat hb2 h
    refine wx tbk [(2, rp [(.tmp 4, (Qo9 p0))] (I ((p0.Levels.length : Int)))), (4, rp [(.tmp 6, (B ((decide ((p0.Levels.length : Int) ≤ 15)))))] (B true)), (7, rp [(.tmp 7, B true), (.tmp 9, (Qo8 p0))] (I ((p0.Hours.length : Int)))), (10, rp [(.tmp 12, (B ((decide ((p0.Hours.length : Int) ≤ 103)))))] (B false))] ⟨alm (c := Qab) (l := p0.Levels) (aln rfl Try.underlying37 rfl), asb hb1 (amv rfl), ag_ (alm (c := Qax) (l := p0.Hours) (aln rfl Try.underlying38 rfl)), asb hb2 (amv rfl), trivial⟩ ?_
    refine Qad ?_
    obtain rfl := osi h
    exact fend ⟨[B false], ⟨rot (by kernel_rfl), trivial⟩, rfl⟩ nll
  ·replace h := Qat hb1 h
   refine wx tbk [(2, rp [(.tmp 4, (Qo9 p0))] (I ((p0.Levels.length : Int)))), (4, rp [(.tmp 6, (B ((decide ((p0.Levels.length : Int) ≤ 15)))))] (B false))] ⟨alm (c := Qab) (l := p0.Levels) (aln rfl Try.underlying37 rfl), asb hb1 (amv rfl), trivial⟩ ?_
   refine Qad ?_
   obtain rfl := osi h
   exact fend ⟨[B false], ⟨rot (by kernel_rfl), trivial⟩, rfl⟩ nll
end Go.Proofs.Ytlhakkkjgdbdpaa
