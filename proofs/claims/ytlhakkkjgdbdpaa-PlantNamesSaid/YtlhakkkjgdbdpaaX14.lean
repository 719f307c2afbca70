/-
  Functions of the program: what they compute, as plain functions, and that they do. No conditions.
-/
import Derived.Test.YtlhakkkjgdbdpaaX6
namespace Go.Proofs.Ytlhakkkjgdbdpaa
open Go.RowKit
def Qdp (N : Nat) (p0 : GJob) (p1 : (List Int)) (k2 : Int → Option (Int × Bool)) : Nat → Int → Int → Int → Option (Int × Bool)
  | 0, _, _, _ => none
  | n9 + 1, y3, y4, y5 =>
    bif (decide (y5 < (p1.length : Int))) then
     (getI p1 y5).bind fun x11 =>
     (Qf5 N p0 y5 y4 x11).bind fun x16 =>
     bif (!x16.2) then
      some (0, false)
     else
      Qdp N p0 p1 k2 n9 (w64 (y3 + x16.1)) x11 (w64 (y5 + 1))
    else
     k2 (y3)
def Qhu (N : Nat) (p0 : GJob) (p1 : (List Int)) : Option (Int × Bool) :=
  Qdu (fun y1 =>
    some (y1, true)) fun k2 : Int → Option (Int × Bool) =>
  Qdp N p0 p1 k2 N 0 p0.First 0
def Qpl (p1 : (List Int)) : AV := .dat 1 ((p1 : List Int).map Qad)
def Quz (p0 : GJob) : Slot := .own 5 [[(.dat 1 ((p0.Levels : List Int).map Qad)), (I (p0.Ramp)), (I (p0.Start)), (I (p0.First)), (.dat 2 ((p0.Hours : List GHour).map Qcr))]]
def z128_3 (p0 : GJob) : AV := .agg [(.dat 1 ((p0.Levels : List Int).map Qad)), (I (p0.Ramp)), (I (p0.Start)), (I (p0.First)), (.dat 2 ((p0.Hours : List GHour).map Qcr))]
set_option maxRecDepth 100000 in
set_option maxHeartbeats 4000000 in
theorem Qly (N : Nat) (p0 : GJob) (p1 : (List Int)) (r : (Int × Bool)) (h : Qhu N p0 p1 = some r) : Spec Try.prog 76 [(.agg (Qo5 p0)), (.dat 1 (p1.map Qad))] [] (.tup [(I r.1), (B r.2)]) [] := by
  refine Qac Try.func76 rfl 0 (nle rfl) (fun X φ0 w0 hφ0 => ?_)
  unfold Qhu at h
  refine wx tbk [] trivial ?_
  refine wx tbk [] trivial ?_
  obtain ⟨k2, hk_k2, h⟩ := jko h
  refine wjn (τ := Int) (fun t => k2 t = some r) (fun y1 => ⟨mk 36 [(4, I y1)], []⟩) (fun y1 h => ?_) ?_
  ·subst hk_k2
   refine wx tbk [] trivial ?_
   refine Qab ?_
   obtain rfl := osi h
   exact fend ⟨[I y1, B true], ⟨rot (by kernel_rfl), rot (by kernel_rfl), trivial⟩, rfl⟩ (NLt.tup _ (nlc nll (nlc nll nl0)))
  ·skip
   refine wx tbk [(1, rp [(.tmp 13, (Qpl p1))] (I ((p1.length : Int))))] ⟨alm (c := Qad) (l := p1) (aln rfl Try.underlying37 rfl), trivial⟩ ?_
   refine Qak ?_
   refine wmr (mto (n := 36) (l' := [(2, .ref 0 5 0 0), (4, I 0), (6, I p0.First), (13, (Qpl p1)), (14, (I ((p1.length : Int)))), (15, I 0)]) (own' := [(Quz p0)]) [(2, .ref 0 5 0 0), (4, I 0), (6, I p0.First), (13, (Qpl p1)), (14, (I ((p1.length : Int)))), (15, I 0)] [0] [(Quz p0)] hφ0 (pc (.rn (rqr rfl)) (pc rwl (pc rwl (pc (.rn (.plain _ (nld Qaa _))) (pc rwl (pc rwl pn)))))) (qc (spb (lc (.rn (.plain _ (nld Qaa _))) (lc rwl (lc rwl (lc rwl (lc (.rn (.plain _ (nld Qay _))) ln)))))) qn)) ?_
   refine Qb1 (τ := Int × Int × Int) (fun n t => Qdp N p0 p1 k2 n t.1 t.2.1 t.2.2 = some r) (fun ⟨y3, y4, y5⟩ => ⟨mk 36 [(2, .ref 0 5 0 0), (4, I y3), (6, I y4), (13, (Qpl p1)), (14, (I ((p1.length : Int)))), (15, I y5)], [(Quz p0)]⟩) (fun t h => by rw [Qdp] at h; cases h) (fun n9 ih t h => ?_) N (0, p0.First, 0) h
   obtain ⟨y3, y4, y5⟩ := t
   rw [Qdp] at h
   skip
   refine wx tbk [] trivial ?_
   refine wsq ?_
   rcases bft ((decide (y5 < (p1.length : Int)))) with hc10 | hc10
   ·replace h := Qav hc10 h
    refine wft hc10 (by kernel_rfl) ?_
    refine Qao ?_
    refine thn ?_
    refine wsq ?_
    refine Qak ?_
    obtain ⟨x11, hg12, h⟩ := bno h
    obtain ⟨hi13, hj14⟩ := gsm hg12
    refine wx tbk [(1, rp [(.tmp 13, (Qpl p1)), (.tmp 15, I y5)] (.dptr (Qad (x11)) 0))] ⟨aid rfl Try.underlying37 ti3 rfl rfl hi13 (mgt Qad hj14) rfl, trivial⟩ ?_
    obtain ⟨x16, hf15, h⟩ := bno h
    refine wx tbk [(4, rp [fu 70, (.tmp 21, (z128_3 p0)), (.tmp 22, I y5), (.tmp 23, I y4), (.tmp 24, I x11)] (.tup [I x16.1, B x16.2]))] ⟨apc (first := []) (cap := []) (vs := [(z128_3 p0), I y5, I y4, I x11]) rfl Qtz (Qhe N p0 y5 y4 x11 _ hf15) rfl rfl (nlc (NLt.agg _ (nlc (nld Qaa _) (nlc nll (nlc nll (nlc nll (nlc (nld Qay _) nl0)))))) (nlc nll (nlc nll (nlc nll nl0)))) (NLt.tup _ (nlc nll (nlc nll nl0))) rfl, trivial⟩ ?_
    refine wsq ?_
    refine wx tbk [] trivial ?_
    rcases bft ((!x16.2)) with hc17 | hc17
    ·replace h := Qav hc17 h
     refine wft hc17 (by kernel_rfl) ?_
     refine wx tbk [] trivial ?_
     refine Qab ?_
     refine Qau ?_
     refine Qb2 ?_
     refine Qau ?_
     refine Qau ?_
     refine Qb2 ?_
     refine Qau ?_
     obtain rfl := osi h
     exact fend ⟨[I 0, B false], ⟨rot (by kernel_rfl), rot (by kernel_rfl), trivial⟩, rfl⟩ (NLt.tup _ (nlc nll (nlc nll nl0)))
    ·replace h := Qaw hc17 h
     refine wfn hc17 (by kernel_rfl) ?_
     refine Qao ?_
     refine thn ?_
     refine wx tbk [] trivial ?_
     refine wx1 tbk [] trivial ?_
     refine bln ?_
     refine thn ?_
     refine wx1 tbk [] trivial ?_
     refine thn ?_
     exact arm (mto (n := 36) [(2, .ref 0 5 0 0), (4, (I (w64 (y3 + x16.1)))), (6, I x11), (13, (Qpl p1)), (14, (I ((p1.length : Int)))), (15, (I (w64 (y5 + 1))))] [0] [(Quz p0)] hφ0 (pc (.rn (rqr rfl)) (pc rwl (pc rwl (pc (.rn (.plain _ (nld Qaa _))) (pc rwl (pc rwl pn)))))) (qc (spb (lc (.rn (.plain _ (nld Qaa _))) (lc rwl (lc rwl (lc rwl (lc (.rn (.plain _ (nld Qay _))) ln)))))) qn)) (ih (w64 (y3 + x16.1), x11, w64 (y5 + 1)) h)
   ·replace h := Qaw hc10 h
    refine wfn hc10 (by kernel_rfl) ?_
    refine Qbh ?_
    refine Qar ?_
    refine Qar ?_
    refine Qbg rfl ?_
    refine thn ?_
    exact ⟨(y3), h, (mto (n := 36) [(4, I y3)] [] [] hφ0 (pc rwl pn) qn)⟩
def Qix (N : Nat) (p0 : GJob) (p1 : (List Int)) : Option (Int × Int) :=
  Qdu (fun _ =>
    (Qhu N p0 p1).bind fun x3 =>
    bif (!x3.2) then
     some (0, 1)
    else
     some (x3.1, 0)) fun k1 : Unit → Option (Int × Int) =>
  (Qgj N p0).bind fun x6 =>
  bif (!x6) then
   some (0, 1)
  else
   bif ((p1.length : Int) != (p0.Hours.length : Int)) then
    some (0, 1)
   else
    k1 ()
def Qr3 (p1 : (List Int)) : AV := .dat 1 ((p1 : List Int).map Qad)
def Qyp (p0 : GJob) : AV := .dat 2 ((p0.Hours : List GHour).map Qcr)
def z127_2 (p0 : GJob) : Slot := .own 5 [[(.dat 1 ((p0.Levels : List Int).map Qad)), (I (p0.Ramp)), (I (p0.Start)), (I (p0.First)), (Qyp p0)]]
def Qpm (p0 : GJob) : AV := .agg [(.dat 1 ((p0.Levels : List Int).map Qad)), (I (p0.Ramp)), (I (p0.Start)), (I (p0.First)), (Qyp p0)]
set_option maxRecDepth 100000 in
set_option maxHeartbeats 4000000 in
theorem Qkk (N : Nat) (p0 : GJob) (p1 : (List Int)) (r : (Int × Int)) (h : Qix N p0 p1 = some r) : Spec Try.prog 36 [(.agg (Qo5 p0)), (.dat 1 (p1.map Qad))] [] (.tup [(I r.1), (I r.2)]) [] := by
  refine Qac Try.func36 rfl 0 (nle rfl) (fun X φ0 w0 hφ0 => ?_)
  unfold Qix at h
  refine wx tbk [] trivial ?_
  obtain ⟨k1, hk_k1, h⟩ := jko h
  refine wjn (τ := Unit) (fun t => k1 t = some r) (fun _ => ⟨mk 28 [(1, (Qr3 p1)), (2, .ref 0 5 0 0)], [(z127_2 p0)]⟩) (fun t h => ?_) ?_
  ·subst hk_k1
   obtain ⟨x3, hf2, h⟩ := bno h
   refine wx tbk [(2, rp [fu 76, (.tmp 20, (Qpm p0)), (.tmp 21, (Qr3 p1))] (.tup [I x3.1, B x3.2]))] ⟨apc (first := []) (cap := []) (vs := [(Qpm p0), (Qr3 p1)]) rfl enter76 (Qly N p0 p1 _ hf2) rfl rfl (nlc (NLt.agg _ (nlc (nld Qaa _) (nlc nll (nlc nll (nlc nll (nlc (nld Qay _) nl0)))))) (nlc (nld Qaa _) nl0)) (NLt.tup _ (nlc nll (nlc nll nl0))) rfl, trivial⟩ ?_
   refine wsq ?_
   refine wx tbk [] trivial ?_
   rcases bft ((!x3.2)) with hc4 | hc4
   ·replace h := Qav hc4 h
    refine wft hc4 (by kernel_rfl) ?_
    refine wx tbk [] trivial ?_
    refine Qab ?_
    refine Qau ?_
    obtain rfl := osi h
    exact fend ⟨[I 0, I 1], ⟨rot (by kernel_rfl), rot (by kernel_rfl), trivial⟩, rfl⟩ (NLt.tup _ (nlc nll (nlc nll nl0)))
   ·replace h := Qaw hc4 h
    refine wfn hc4 (by kernel_rfl) ?_
    refine Qao ?_
    refine thn ?_
    refine wx tbk [] trivial ?_
    refine Qab ?_
    obtain rfl := osi h
    exact fend ⟨[I x3.1, I 0], ⟨rot (by kernel_rfl), rot (by kernel_rfl), trivial⟩, rfl⟩ (NLt.tup _ (nlc nll (nlc nll nl0)))
  ·skip
   obtain ⟨x6, hf5, h⟩ := bno h
   rcases bft ((!x6)) with hb7 | hb7
   ·replace h := Qav hb7 h
    refine wx tbk [(1, rp [fu 68, (.tmp 8, (Qpm p0))] (B x6)), (3, rp [(.tmp 10, (B ((!x6))))] (B true))] ⟨apc (first := []) (cap := []) (vs := [(Qpm p0)]) rfl Qt0 (Qgp N p0 _ hf5) rfl rfl (nlc (NLt.agg _ (nlc (nld Qaa _) (nlc nll (nlc nll (nlc nll (nlc (nld Qay _) nl0)))))) nl0) nll rfl, asb hb7 (amv rfl), trivial⟩ ?_
    refine Qcy (by kernel_rfl) ?_
    refine wx tbk [] trivial ?_
    refine Qab ?_
    refine Qau ?_
    obtain rfl := osi h
    exact fend ⟨[I 0, I 1], ⟨rot (by kernel_rfl), rot (by kernel_rfl), trivial⟩, rfl⟩ (NLt.tup _ (nlc nll (nlc nll nl0)))
   ·replace h := Qaw hb7 h
    refine wx tbk [(1, rp [fu 68, (.tmp 8, (Qpm p0))] (B x6)), (3, rp [(.tmp 10, (B ((!x6))))] (B false)), (5, rp [(.tmp 11, B false), (.tmp 12, (Qr3 p1))] (I ((p1.length : Int)))), (8, rp [(.tmp 11, B false), (.tmp 15, (Qyp p0))] (I ((p0.Hours.length : Int))))] ⟨apc (first := []) (cap := []) (vs := [(Qpm p0)]) rfl Qt0 (Qgp N p0 _ hf5) rfl rfl (nlc (NLt.agg _ (nlc (nld Qaa _) (nlc nll (nlc nll (nlc nll (nlc (nld Qay _) nl0)))))) nl0) nll rfl, asb hb7 (amv rfl), ag_ (alm (c := Qad) (l := p1) (aln rfl Try.underlying37 rfl)), ag_ (alm (c := Qcr) (l := p0.Hours) (aln rfl Try.underlying45 rfl)), trivial⟩ ?_
    rcases bft (((p1.length : Int) != (p0.Hours.length : Int))) with hc8 | hc8
    ·replace h := Qav hc8 h
     refine wft hc8 (by kernel_rfl) ?_
     refine wx tbk [] trivial ?_
     refine Qab ?_
     refine Qau ?_
     obtain rfl := osi h
     exact fend ⟨[I 0, I 1], ⟨rot (by kernel_rfl), rot (by kernel_rfl), trivial⟩, rfl⟩ (NLt.tup _ (nlc nll (nlc nll nl0)))
    ·replace h := Qaw hc8 h
     refine wfn hc8 (by kernel_rfl) ?_
     refine Qao ?_
     refine thn ?_
     exact ⟨(), h, (mto (n := 28) [(1, (Qr3 p1)), (2, .ref 0 5 0 0)] [0] [(z127_2 p0)] hφ0 (pc (.rn (.plain _ (nld Qaa _))) (pc (.rn (rqr rfl)) pn)) (qc (spb (lc (.rn (.plain _ (nld Qaa _))) (lc rwl (lc rwl (lc rwl (lc (.rn (.plain _ (nld Qay _))) ln)))))) qn))⟩
end Go.Proofs.Ytlhakkkjgdbdpaa
