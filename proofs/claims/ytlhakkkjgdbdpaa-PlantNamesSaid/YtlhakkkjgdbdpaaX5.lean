/-
  Functions of the program: what they compute, as plain functions, and that they do. No conditions.
-/
import Derived.Test.YtlhakkkjgdbdpaaX4
namespace Go.Proofs.Ytlhakkkjgdbdpaa
open Go.RowKit
def Qhw (_N : Nat) : Option GUnit :=
  some (⟨1, [(⟨100, 500⟩ : GPart), (⟨50, 300⟩ : GPart)]⟩ : GUnit)
def z68_1 : AV := .agg [(I (100)), (I (500))]
def z68_2 : AV := .agg [(I (50)), (I (300))]
def Qv6 : AV := .dat 2 (([(⟨100, 500⟩ : GPart), (⟨50, 300⟩ : GPart)] : List GPart).map Qby)
set_option maxRecDepth 100000 in
set_option maxHeartbeats 4000000 in
theorem Qhi (N : Nat) (r : GUnit) (h : Qhw N = some r) : Spec Try.prog 61 [] [] (.agg (Qbo r)) [] := by
  refine Qac Try.func61 rfl 0 (nle rfl) (fun X φ0 w0 hφ0 => ?_)
  unfold Qhw at h
  refine wx tbk [] trivial ?_
  refine wx tbk [(0, rp [ci 100, ci 500] z68_1), (1, rp [ci 50, ci 300] z68_2), (2, rp [(.tmp 1, z68_1), (.tmp 2, z68_2)] Qv6), (3, rp [ci 1, (.tmp 3, Qv6)] (.agg [I 1, Qv6]))] ⟨Qaj (vs := [I 100, I 500]) rfl ts118 Qwh rfl (by rfl) rfl, Qaj (vs := [I 50, I 300]) rfl ts118 Qwh rfl (by rfl) rfl, Qbk (vs := [z68_1, z68_2]) rfl Try.underlying32 Qn1 Qwh rfl (by decide) rfl (by decide) (by rfl) (by rfl) (by rfl) rfl, Qaj (vs := [I 1, Qv6]) rfl ts34 tz34 rfl (by rfl) rfl, trivial⟩ ?_
  refine Qab ?_
  obtain rfl := osi h
  exact fend ⟨[(.agg [I 1, Qv6])], ⟨Qbv (n := 0) (m := 2) (j := 0) (i := 0) (xs := [[I 1, Qv6]]) (by kernel_rfl) (by kernel_rfl) ti34 (by decide) rfl (nle rfl) rfl, trivial⟩, rfl⟩ (NLt.agg _ (nlc nll (nlc (nld Qbc _) nl0)))
def Qkh (_N : Nat) : Option ((List Int) × (List GUnit)) :=
  (Qhw 2000 ).bind fun x2 =>
  some ([30, 100], [x2, (⟨0, [(⟨200, 400⟩ : GPart)]⟩ : GUnit)])
def z69_0 : AV := .dat 1 (([30, 100] : List Int).map Qad)
def z69_2 (x2 : GUnit) : AV := .agg [(I (x2.Inlet)), (.dat 2 ((x2.Parts : List GPart).map Qby))]
def z69_3 : AV := .agg [(I (200)), (I (400))]
def Qv5 : AV := .dat 2 (([(⟨200, 400⟩ : GPart)] : List GPart).map Qby)
def z69_5 (x2 : GUnit) : AV := .dat 2 (([x2, (⟨0, [(⟨200, 400⟩ : GPart)]⟩ : GUnit)] : List GUnit).map Qbo)
set_option maxRecDepth 100000 in
set_option maxHeartbeats 4000000 in
theorem Ql0 (N : Nat) (r : ((List Int) × (List GUnit))) (h : Qkh N = some r) : Spec Try.prog 62 [] [] (.tup [(.dat 1 (r.1.map Qad)), (.dat 2 (r.2.map Qbo))]) [] := by
  refine Qac Try.func62 rfl 0 (nle rfl) (fun X φ0 w0 hφ0 => ?_)
  unfold Qkh at h
  refine wx tbk [] trivial ?_
  obtain ⟨x2, hf1, h⟩ := bno h
  refine wx tbk [(0, rp [ci 30, ci 100] z69_0), (1, rp [fu 61] (z69_2 x2)), (2, rp [ci 200, ci 400] z69_3), (3, rp [(.tmp 4, z69_3)] Qv5), (4, rp [(.tmp 5, Qv5)] (.agg [I 0, Qv5])), (5, rp [(.tmp 3, (z69_2 x2)), (.tmp 6, (.agg [I 0, Qv5]))] (z69_5 x2))] ⟨Qbk (vs := [I 30, I 100]) rfl Try.underlying37 ti3 tz3 rfl (by decide) rfl (by decide) (by rfl) (by rfl) (by rfl) rfl, apc (first := []) (cap := []) (vs := []) rfl Qo3 (Qhi 2000  _ hf1) rfl rfl nl0 (NLt.agg _ (nlc nll (nlc (nld Qbc _) nl0))) rfl, Qaj (vs := [I 200, I 400]) rfl ts118 Qwh rfl (by rfl) rfl, Qbk (vs := [z69_3]) rfl Try.underlying32 Qn1 Qwh rfl (by decide) rfl (by decide) (by rfl) (by rfl) (by rfl) rfl, Qaj (vs := [Qv5]) rfl ts34 tz34 rfl (by rfl) rfl, Qbk (vs := [(z69_2 x2), (.agg [I 0, Qv5])]) rfl Try.underlying89 ti34 tz34 rfl (by decide) rfl (by decide) (by rfl) (by rfl) (by rfl) rfl, trivial⟩ ?_
  refine Qab ?_
  obtain rfl := osi h
  exact fend ⟨[z69_0, (z69_5 x2)], ⟨rot (by kernel_rfl), rot (by kernel_rfl), trivial⟩, rfl⟩ (NLt.tup _ (nlc (nld Qaa _) (nlc (nld Qan _) nl0)))
def Qjx (_N : Nat) : Option GJob :=
  some (⟨[0, 50, 100], 1, 2000, 0, [(⟨10, 100⟩ : GHour), (⟨(-5), 100⟩ : GHour), (⟨40, 100⟩ : GHour), (⟨40, 100⟩ : GHour)]⟩ : GJob)
def Qw7 : AV := .dat 1 (([0, 50, 100] : List Int).map Qad)
def z70_2 : AV := .agg [(I (10)), (I (100))]
def z70_3 : AV := .agg [(I ((-5))), (I (100))]
def Qv4 : AV := .agg [(I (40)), (I (100))]
def Qw6 : AV := .dat 2 (([(⟨10, 100⟩ : GHour), (⟨(-5), 100⟩ : GHour), (⟨40, 100⟩ : GHour), (⟨40, 100⟩ : GHour)] : List GHour).map Qcr)
def z70_6 : AV := .agg [Qw7, (I (1)), (I (2000)), (I (0)), Qw6]
set_option maxRecDepth 100000 in
set_option maxHeartbeats 4000000 in
theorem Qki (N : Nat) (r : GJob) (h : Qjx N = some r) : Spec Try.prog 63 [] [] (.agg (Qo5 r)) [] := by
  refine Qac Try.func63 rfl 0 (nle rfl) (fun X φ0 w0 hφ0 => ?_)
  unfold Qjx at h
  refine wx tbk [] trivial ?_
  refine wx tbk [(0, rp [ci 0, ci 50, ci 100] Qw7), (1, rp [ci 10, ci 100] z70_2), (2, rp [ci (-5), ci 100] z70_3), (3, rp [ci 40, ci 100] Qv4), (4, rp [ci 40, ci 100] Qv4), (5, rp [(.tmp 2, z70_2), (.tmp 3, z70_3), (.tmp 4, Qv4), (.tmp 5, Qv4)] Qw6), (6, rp [(.tmp 1, Qw7), ci 1, ci 2000, (.tmp 6, Qw6)] z70_6)] ⟨Qbk (vs := [I 0, I 50, I 100]) rfl Try.underlying37 ti3 tz3 rfl (by decide) rfl (by decide) (by rfl) (by rfl) (by rfl) rfl, Qaj (vs := [I 10, I 100]) rfl ts50 tz50 rfl (by rfl) rfl, Qaj (vs := [(I ((-5))), I 100]) rfl ts50 tz50 rfl (by rfl) rfl, Qaj (vs := [I 40, I 100]) rfl ts50 tz50 rfl (by rfl) rfl, Qaj (vs := [I 40, I 100]) rfl ts50 tz50 rfl (by rfl) rfl, Qbk (vs := [z70_2, z70_3, Qv4, Qv4]) rfl Try.underlying45 ti50 tz50 rfl (by decide) rfl (by decide) (by rfl) (by rfl) (by rfl) rfl, Qaj (vs := [Qw7, I 1, I 2000, Qw6]) rfl ts47 tz47 rfl (by rfl) rfl, trivial⟩ ?_
  refine Qab ?_
  obtain rfl := osi h
  exact fend ⟨[z70_6], ⟨Qbv (n := 0) (m := 5) (j := 0) (i := 0) (xs := [[Qw7, I 1, I 2000, I 0, Qw6]]) (by kernel_rfl) (by kernel_rfl) ti47 (by decide) rfl (nle rfl) rfl, trivial⟩, rfl⟩ (NLt.agg _ (nlc (nld Qaa _) (nlc nll (nlc nll (nlc nll (nlc (nld Qay _) nl0))))))
def Qfb (N : Nat) (p0 : (List Int)) (p1 : (List Int)) (k2 : Unit → Option Bool) : Nat → Int → Option Bool
  | 0, _ => none
  | n5 + 1, y3 =>
    bif (decide (y3 < (p0.length : Int))) then
     (getI p0 y3).bind fun x7 =>
     (getI p1 y3).bind fun x11 =>
     bif (x7 != x11) then
      some false
     else
      Qfb N p0 p1 k2 n5 (w64 (y3 + 1))
    else
     k2 ()
def Qkg (N : Nat) (p0 : (List Int)) (p1 : (List Int)) : Option Bool :=
  bif ((p0.length : Int) != (p1.length : Int)) then
   some false
  else
   Qdu (fun _ =>
     some true) fun k2 : Unit → Option Bool =>
   Qfb N p0 p1 k2 N 0
def Qsz (p0 : (List Int)) : AV := .dat 1 ((p0 : List Int).map Qad)
def Qv3 (p1 : (List Int)) : AV := .dat 1 ((p1 : List Int).map Qad)
set_option maxRecDepth 100000 in
set_option maxHeartbeats 4000000 in
theorem Qfu (N : Nat) (p0 : (List Int)) (p1 : (List Int)) (r : Bool) (h : Qkg N p0 p1 = some r) : Spec Try.prog 40 [(.dat 1 (p0.map Qad)), (.dat 1 (p1.map Qad))] [] (B r) [] := by
  refine Qac Try.func40 rfl 0 (nle rfl) (fun X φ0 w0 hφ0 => ?_)
  unfold Qkg at h
  refine wx tbk [] trivial ?_
  refine wsq ?_
  refine wx tbk [(1, rp [(.tmp 6, (Qsz p0))] (I ((p0.length : Int)))), (3, rp [(.tmp 8, (Qv3 p1))] (I ((p1.length : Int))))] ⟨alm (c := Qad) (l := p0) (aln rfl Try.underlying37 rfl), alm (c := Qad) (l := p1) (aln rfl Try.underlying37 rfl), trivial⟩ ?_
  rcases bft (((p0.length : Int) != (p1.length : Int))) with hc1 | hc1
  ·replace h := Qav hc1 h
   refine wft hc1 (by kernel_rfl) ?_
   refine wx tbk [] trivial ?_
   refine Qab ?_
   refine Qau ?_
   obtain rfl := osi h
   exact fend ⟨[B false], ⟨rot (by kernel_rfl), trivial⟩, rfl⟩ nll
  ·replace h := Qaw hc1 h
   refine wfn hc1 (by kernel_rfl) ?_
   refine Qao ?_
   refine thn ?_
   obtain ⟨k2, hk_k2, h⟩ := jko h
   refine wjn (τ := Unit) (fun t => k2 t = some r) (fun _ => ⟨mk 26 [], []⟩) (fun t h => ?_) ?_
   ·subst hk_k2
    refine wx tbk [] trivial ?_
    refine Qab ?_
    obtain rfl := osi h
    exact fend ⟨[B true], ⟨rot (by kernel_rfl), trivial⟩, rfl⟩ nll
   ·skip
    refine wx tbk [] trivial ?_
    refine Qak ?_
    refine wmr (mto (n := 26) (l' := [(0, (Qsz p0)), (1, (Qv3 p1)), (5, I 0)]) (own' := []) [(0, (Qsz p0)), (1, (Qv3 p1)), (5, I 0)] [] [] hφ0 (pc (.rn (.plain _ (nld Qaa _))) (pc (.rn (.plain _ (nld Qaa _))) (pc rwl pn))) qn) ?_
    refine Qb1 (τ := Int) (fun n t => Qfb N p0 p1 k2 n t = some r) (fun y3 => ⟨mk 26 [(0, (Qsz p0)), (1, (Qv3 p1)), (5, I y3)], []⟩) (fun t h => by rw [Qfb] at h; cases h) (fun n5 ih y3 h => ?_) N (0) h
    rw [Qfb] at h
    skip
    refine wsq ?_
    refine wx tbk [(2, rp [(.tmp 12, (Qsz p0))] (I ((p0.length : Int))))] ⟨alm (c := Qad) (l := p0) (aln rfl Try.underlying37 rfl), trivial⟩ ?_
    rcases bft ((decide (y3 < (p0.length : Int)))) with hc6 | hc6
    ·replace h := Qav hc6 h
     refine wft hc6 (by kernel_rfl) ?_
     refine Qao ?_
     refine thn ?_
     refine wsq ?_
     refine Qak ?_
     obtain ⟨x7, hg8, h⟩ := bno h
     obtain ⟨hi9, hj10⟩ := gsm hg8
     obtain ⟨x11, hg12, h⟩ := bno h
     obtain ⟨hi13, hj14⟩ := gsm hg12
     refine wxd tbk [(2, rp [(.tmp 17, (Qsz p0)), (.tmp 18, I y3)] (.dptr (Qad (x7)) 0)), (6, rp [(.tmp 21, (Qv3 p1)), (.tmp 22, I y3)] (.dptr (Qad (x11)) 0))] ⟨aid rfl Try.underlying37 ti3 rfl rfl hi9 (mgt Qad hj10) rfl, aid rfl Try.underlying37 ti3 rfl rfl hi13 (mgt Qad hj14) rfl, trivial⟩ ?_
     rcases bft ((x7 != x11)) with hc15 | hc15
     ·replace h := Qav hc15 h
      refine wft hc15 (by kernel_rfl) ?_
      refine wx tbk [] trivial ?_
      refine Qab ?_
      refine Qb2 ?_
      refine Qau ?_
      refine Qau ?_
      refine Qb2 ?_
      refine Qau ?_
      obtain rfl := osi h
      exact fend ⟨[B false], ⟨rot (by kernel_rfl), trivial⟩, rfl⟩ nll
     ·replace h := Qaw hc15 h
      refine wfn hc15 (by kernel_rfl) ?_
      refine Qao ?_
      refine bln ?_
      refine thn ?_
      refine wx1 tbk [] trivial ?_
      refine thn ?_
      exact arm (mto (n := 26) [(0, (Qsz p0)), (1, (Qv3 p1)), (5, (I (w64 (y3 + 1))))] [] [] hφ0 (pc (.rn (.plain _ (nld Qaa _))) (pc (.rn (.plain _ (nld Qaa _))) (pc rwl pn))) qn) (ih (w64 (y3 + 1)) h)
    ·replace h := Qaw hc6 h
     refine wfn hc6 (by kernel_rfl) ?_
     refine Qbh ?_
     refine Qar ?_
     refine Qar ?_
     refine Qbg rfl ?_
     refine thn ?_
     exact ⟨(), h, (mto (n := 26) [] [] [] hφ0 pn qn)⟩
def Qlb (N : Nat) : Option Bool :=
  (Qhw 2000 ).bind fun x2 =>
  (Qjg N x2 120).bind fun x4 =>
  (Qnh N (⟨300, 120, 50000⟩ : GCycle) (⟨500, 210000, 0, 0⟩ : GStream)).bind fun x6 =>
  (Qkh 2000 ).bind fun x8 =>
  (Qia N x8.1 x8.2).bind fun x10 =>
  (Qjx 2000 ).bind fun x12 =>
  (Qhf N x12).bind fun x14 =>
  bif (x4.2 == 0) then
   bif (x4.1 == 56000) then
    bif (x6.2.2.2 == 0) then
     bif (([x6.1.Mass, x6.1.Heat, x6.1.Silica, x6.1.Gas] : List Int) == [500, 160000, 0, 0]) then
      bif (x6.2.1 == 6000) then
       bif (x6.2.2.1 == 44000) then
        bif (x10.2.2.2 == 0) then
         bif (x10.2.1 == 62000) then
          bif ((x10.2.2.1.length : Int) == 2) then
           bif (x14.2.2.2 == 0) then
            (Qkg N x14.1 ([1, 1, 2, 2])).bind fun x26 =>
            bif x26 then
             some (x14.2.1 == 6250)
            else
             some false
           else
            some false
          else
           some false
         else
          some false
        else
         some false
       else
        some false
      else
       some false
     else
      some false
    else
     some false
   else
    some false
  else
   some false
def z67_1 (x2 : GUnit) : AV := .agg [(I (x2.Inlet)), (.dat 2 ((x2.Parts : List GPart).map Qby))]
def z67_2 : AV := .agg [(I (300)), (I (120)), (I (50000))]
def z67_3 : AV := .agg [(I (500)), (I (210000)), (I (0)), (I (0))]
def Qpf (x6 : (GStream × Int × Int × Int)) : AV := .agg [(I (x6.1.Mass)), (I (x6.1.Heat)), (I (x6.1.Silica)), (I (x6.1.Gas))]
def z67_8 (x8 : ((List Int) × (List GUnit))) : AV := .dat 2 ((x8.2 : List GUnit).map Qbo)
def Qrm (x10 : ((List Int) × Int × (List Int) × Int)) : AV := .dat 1 ((x10.2.2.1 : List Int).map Qad)
def Qw9 (x12 : GJob) : AV := .agg [(.dat 1 ((x12.Levels : List Int).map Qad)), (I (x12.Ramp)), (I (x12.Start)), (I (x12.First)), (.dat 2 ((x12.Hours : List GHour).map Qcr))]
def Qrl (x14 : ((List Int) × Int × (List (List Int)) × Int)) : AV := .dat 1 ((x14.1 : List Int).map Qad)
def Qhk : AV := .agg [(I (500)), (I (160000)), (I (0)), (I (0))]
def Qph : AV := .dat 1 (([1, 1, 2, 2] : List Int).map Qad)
set_option maxRecDepth 100000 in
set_option maxHeartbeats 4000000 in
theorem Qo0 (N : Nat) (r : Bool) (h : Qlb N = some r) : Spec Try.prog 17 [] [] (B r) [] := by
  refine Qac Try.func17 rfl 0 (nle rfl) (fun X φ0 w0 hφ0 => ?_)
  unfold Qlb at h
  refine wx tbk [] trivial ?_
  obtain ⟨x2, hf1, h⟩ := bno h
  obtain ⟨x4, hf3, h⟩ := bno h
  refine wx tbk [(0, rp [fu 61] (z67_1 x2)), (1, rp [fu 18, (.tmp 18, (z67_1 x2)), ci 120] (.tup [I x4.1, I x4.2]))] ⟨apc (first := []) (cap := []) (vs := []) rfl Qo3 (Qhi 2000  _ hf1) rfl rfl nl0 (NLt.agg _ (nlc nll (nlc (nld Qbc _) nl0))) rfl, apc (first := []) (cap := []) (vs := [(z67_1 x2), I 120]) rfl enter18 (Qk7 N x2 120 _ hf3) rfl rfl (nlc (NLt.agg _ (nlc nll (nlc (nld Qbc _) nl0))) (nlc nll nl0)) (NLt.tup _ (nlc nll (nlc nll nl0))) rfl, trivial⟩ ?_
  obtain ⟨x6, hf5, h⟩ := bno h
  refine wx tbk [(0, rp [ci 300, ci 120, ci 50000] z67_2), (1, rp [ci 500, ci 210000] z67_3), (2, rp [fu 29, (.tmp 23, z67_2), (.tmp 24, z67_3)] (.tup [(Qpf x6), I x6.2.1, I x6.2.2.1, I x6.2.2.2]))] ⟨Qaj (vs := [I 300, I 120, I 50000]) rfl ts66 tz66 rfl (by rfl) rfl, Qaj (vs := [I 500, I 210000]) rfl ts60 tz60 rfl (by rfl) rfl, apc (first := []) (cap := []) (vs := [z67_2, z67_3]) rfl enter29 (Qqr N (⟨300, 120, 50000⟩ : GCycle) (⟨500, 210000, 0, 0⟩ : GStream) _ hf5) rfl rfl (nlc (NLt.agg _ (nlc nll (nlc nll (nlc nll nl0)))) (nlc (NLt.agg _ (nlc nll (nlc nll (nlc nll (nlc nll nl0))))) nl0)) (NLt.tup _ (nlc (NLt.agg _ (nlc nll (nlc nll (nlc nll (nlc nll nl0))))) (nlc nll (nlc nll (nlc nll nl0))))) rfl, trivial⟩ ?_
  obtain ⟨x8, hf7, h⟩ := bno h
  refine wx tbk [(0, rp [fu 62] (.tup [(.dat 1 ((x8.1 : List Int).map Qad)), (z67_8 x8)]))] ⟨apc (first := []) (cap := []) (vs := []) rfl enter62 (Ql0 2000  _ hf7) rfl rfl nl0 (NLt.tup _ (nlc (nld Qaa _) (nlc (nld Qan _) nl0))) rfl, trivial⟩ ?_
  obtain ⟨x10, hf9, h⟩ := bno h
  refine wx tbk [(2, rp [fu 44, (.tmp 35, (.dat 1 ((x8.1 : List Int).map Qad))), (.tmp 36, (z67_8 x8))] (.tup [(.dat 1 ((x10.1 : List Int).map Qad)), I x10.2.1, (Qrm x10), I x10.2.2.2]))] ⟨apc (first := []) (cap := []) (vs := [(.dat 1 ((x8.1 : List Int).map Qad)), (z67_8 x8)]) rfl Qt5 (Qi6 N x8.1 x8.2 _ hf9) rfl rfl (nlc (nld Qaa _) (nlc (nld Qan _) nl0)) (NLt.tup _ (nlc (nld Qaa _) (nlc nll (nlc (nld Qaa _) (nlc nll nl0))))) rfl, trivial⟩ ?_
  obtain ⟨x12, hf11, h⟩ := bno h
  obtain ⟨x14, hf13, h⟩ := bno h
  refine wx tbk [(0, rp [fu 63] (Qw9 x12)), (1, rp [fu 21, (.tmp 43, (Qw9 x12))] (.tup [(Qrl x14), I x14.2.1, (.dat 1 ((x14.2.2.1 : List (List Int)).map Qjz)), I x14.2.2.2]))] ⟨apc (first := []) (cap := []) (vs := []) rfl Qqz (Qki 2000  _ hf11) rfl rfl nl0 (NLt.agg _ (nlc (nld Qaa _) (nlc nll (nlc nll (nlc nll (nlc (nld Qay _) nl0)))))) rfl, apc (first := []) (cap := []) (vs := [(Qw9 x12)]) rfl enter21 (Qjh N x12 _ hf13) rfl rfl (nlc (NLt.agg _ (nlc (nld Qaa _) (nlc nll (nlc nll (nlc nll (nlc (nld Qay _) nl0)))))) nl0) (NLt.tup _ (nlc (nld Qaa _) (nlc nll (nlc (nld Qni _) (nlc nll nl0))))) rfl, trivial⟩ ?_
  rcases bft ((x4.2 == 0)) with hb15 | hb15
  ·replace h := Qav hb15 h
   rcases bft ((x4.1 == 56000)) with hb16 | hb16
   ·replace h := Qav hb16 h
    rcases bft ((x6.2.2.2 == 0)) with hb17 | hb17
    ·replace h := Qav hb17 h
     rcases bft ((([x6.1.Mass, x6.1.Heat, x6.1.Silica, x6.1.Gas] : List Int) == [500, 160000, 0, 0])) with hb18 | hb18
     ·replace h := Qav hb18 h
      rcases bft ((x6.2.1 == 6000)) with hb19 | hb19
      ·replace h := Qav hb19 h
       rcases bft ((x6.2.2.1 == 44000)) with hb20 | hb20
       ·replace h := Qav hb20 h
        rcases bft ((x10.2.2.2 == 0)) with hb21 | hb21
        ·replace h := Qav hb21 h
         rcases bft ((x10.2.1 == 62000)) with hb22 | hb22
         ·replace h := Qav hb22 h
          rcases bft (((x10.2.2.1.length : Int) == 2)) with hb23 | hb23
          ·replace h := Qav hb23 h
           rcases bft ((x14.2.2.2 == 0)) with hb24 | hb24
           ·replace h := Qav hb24 h
            obtain ⟨x26, hf25, h⟩ := bno h
            rcases bft (x26) with hb27 | hb27
            ·replace h := Qav hb27 h
             refine wx tbk [(2, rp [(.tmp 50, (B ((x4.2 == 0))))] (B true)), (6, rp [(.tmp 54, (B ((x4.1 == 56000))))] (B true)), (10, rp [(.tmp 58, (B ((x6.2.2.2 == 0))))] (B true)), (12, rp [(.tmp 59, B true), ci 500, ci 160000] Qhk), (13, rp [(.tmp 59, B true), (.tmp 60, (Qpf x6)), (.tmp 61, Qhk)] (B ((([x6.1.Mass, x6.1.Heat, x6.1.Silica, x6.1.Gas] : List Int) == [500, 160000, 0, 0])))), (15, rp [(.tmp 63, (B ((([x6.1.Mass, x6.1.Heat, x6.1.Silica, x6.1.Gas] : List Int) == [500, 160000, 0, 0]))))] (B true)), (19, rp [(.tmp 67, (B ((x6.2.1 == 6000))))] (B true)), (23, rp [(.tmp 71, (B ((x6.2.2.1 == 44000))))] (B true)), (27, rp [(.tmp 75, (B ((x10.2.2.2 == 0))))] (B true)), (31, rp [(.tmp 79, (B ((x10.2.1 == 62000))))] (B true)), (33, rp [(.tmp 80, B true), (.tmp 81, (Qrm x10))] (I ((x10.2.2.1.length : Int)))), (36, rp [(.tmp 84, (B (((x10.2.2.1.length : Int) == 2))))] (B true)), (40, rp [(.tmp 88, (B ((x14.2.2.2 == 0))))] (B true)), (42, rp [(.tmp 89, B true), ci 1, ci 1, ci 2, ci 2] Qph), (43, rp [(.tmp 89, B true), fu 40, (.tmp 90, (Qrl x14)), (.tmp 91, Qph)] (B x26)), (45, rp [(.tmp 93, B x26)] (B true))] ⟨asb hb15 (amv rfl), asb hb16 (amv rfl), asb hb17 (amv rfl), ag_ (Qaj (vs := [I 500, I 160000]) rfl ts60 tz60 rfl (by rfl) rfl), ag_ (Qhj (ls := [x6.1.Mass, x6.1.Heat, x6.1.Silica, x6.1.Gas]) (ks := [500, 160000, 0, 0]) rfl rfl Qfq (by kernel_rfl) rfl rfl), asb hb18 (amv rfl), asb hb19 (amv rfl), asb hb20 (amv rfl), asb hb21 (amv rfl), asb hb22 (amv rfl), ag_ (alm (c := Qad) (l := x10.2.2.1) (aln rfl Try.underlying37 rfl)), asb hb23 (amv rfl), asb hb24 (amv rfl), ag_ (Qbk (vs := [I 1, I 1, I 2, I 2]) rfl Try.underlying37 ti3 tz3 rfl (by decide) rfl (by decide) (by rfl) (by rfl) (by rfl) rfl), ag_ (apc (first := []) (cap := []) (vs := [(Qrl x14), Qph]) rfl Qnn (Qfu N x14.1 ([1, 1, 2, 2]) _ hf25) rfl rfl (nlc (nld Qaa _) (nlc (nld Qaa _) nl0)) nll rfl), asb hb27 (amv rfl), trivial⟩ ?_
             refine Qab ?_
             obtain rfl := osi h
             exact fend ⟨[(B ((x14.2.1 == 6250)))], ⟨rot (by kernel_rfl), trivial⟩, rfl⟩ nll
            ·replace h := Qaw hb27 h
             refine wx tbk [(2, rp [(.tmp 50, (B ((x4.2 == 0))))] (B true)), (6, rp [(.tmp 54, (B ((x4.1 == 56000))))] (B true)), (10, rp [(.tmp 58, (B ((x6.2.2.2 == 0))))] (B true)), (12, rp [(.tmp 59, B true), ci 500, ci 160000] Qhk), (13, rp [(.tmp 59, B true), (.tmp 60, (Qpf x6)), (.tmp 61, Qhk)] (B ((([x6.1.Mass, x6.1.Heat, x6.1.Silica, x6.1.Gas] : List Int) == [500, 160000, 0, 0])))), (15, rp [(.tmp 63, (B ((([x6.1.Mass, x6.1.Heat, x6.1.Silica, x6.1.Gas] : List Int) == [500, 160000, 0, 0]))))] (B true)), (19, rp [(.tmp 67, (B ((x6.2.1 == 6000))))] (B true)), (23, rp [(.tmp 71, (B ((x6.2.2.1 == 44000))))] (B true)), (27, rp [(.tmp 75, (B ((x10.2.2.2 == 0))))] (B true)), (31, rp [(.tmp 79, (B ((x10.2.1 == 62000))))] (B true)), (33, rp [(.tmp 80, B true), (.tmp 81, (Qrm x10))] (I ((x10.2.2.1.length : Int)))), (36, rp [(.tmp 84, (B (((x10.2.2.1.length : Int) == 2))))] (B true)), (40, rp [(.tmp 88, (B ((x14.2.2.2 == 0))))] (B true)), (42, rp [(.tmp 89, B true), ci 1, ci 1, ci 2, ci 2] Qph), (43, rp [(.tmp 89, B true), fu 40, (.tmp 90, (Qrl x14)), (.tmp 91, Qph)] (B x26)), (45, rp [(.tmp 93, B x26)] (B false))] ⟨asb hb15 (amv rfl), asb hb16 (amv rfl), asb hb17 (amv rfl), ag_ (Qaj (vs := [I 500, I 160000]) rfl ts60 tz60 rfl (by rfl) rfl), ag_ (Qhj (ls := [x6.1.Mass, x6.1.Heat, x6.1.Silica, x6.1.Gas]) (ks := [500, 160000, 0, 0]) rfl rfl Qfq (by kernel_rfl) rfl rfl), asb hb18 (amv rfl), asb hb19 (amv rfl), asb hb20 (amv rfl), asb hb21 (amv rfl), asb hb22 (amv rfl), ag_ (alm (c := Qad) (l := x10.2.2.1) (aln rfl Try.underlying37 rfl)), asb hb23 (amv rfl), asb hb24 (amv rfl), ag_ (Qbk (vs := [I 1, I 1, I 2, I 2]) rfl Try.underlying37 ti3 tz3 rfl (by decide) rfl (by decide) (by rfl) (by rfl) (by rfl) rfl), ag_ (apc (first := []) (cap := []) (vs := [(Qrl x14), Qph]) rfl Qnn (Qfu N x14.1 ([1, 1, 2, 2]) _ hf25) rfl rfl (nlc (nld Qaa _) (nlc (nld Qaa _) nl0)) nll rfl), asb hb27 (amv rfl), trivial⟩ ?_
             refine Qab ?_
             obtain rfl := osi h
             exact fend ⟨[B false], ⟨rot (by kernel_rfl), trivial⟩, rfl⟩ nll
           ·replace h := Qaw hb24 h
            refine wx tbk [(2, rp [(.tmp 50, (B ((x4.2 == 0))))] (B true)), (6, rp [(.tmp 54, (B ((x4.1 == 56000))))] (B true)), (10, rp [(.tmp 58, (B ((x6.2.2.2 == 0))))] (B true)), (12, rp [(.tmp 59, B true), ci 500, ci 160000] Qhk), (13, rp [(.tmp 59, B true), (.tmp 60, (Qpf x6)), (.tmp 61, Qhk)] (B ((([x6.1.Mass, x6.1.Heat, x6.1.Silica, x6.1.Gas] : List Int) == [500, 160000, 0, 0])))), (15, rp [(.tmp 63, (B ((([x6.1.Mass, x6.1.Heat, x6.1.Silica, x6.1.Gas] : List Int) == [500, 160000, 0, 0]))))] (B true)), (19, rp [(.tmp 67, (B ((x6.2.1 == 6000))))] (B true)), (23, rp [(.tmp 71, (B ((x6.2.2.1 == 44000))))] (B true)), (27, rp [(.tmp 75, (B ((x10.2.2.2 == 0))))] (B true)), (31, rp [(.tmp 79, (B ((x10.2.1 == 62000))))] (B true)), (33, rp [(.tmp 80, B true), (.tmp 81, (Qrm x10))] (I ((x10.2.2.1.length : Int)))), (36, rp [(.tmp 84, (B (((x10.2.2.1.length : Int) == 2))))] (B true)), (40, rp [(.tmp 88, (B ((x14.2.2.2 == 0))))] (B false))] ⟨asb hb15 (amv rfl), asb hb16 (amv rfl), asb hb17 (amv rfl), ag_ (Qaj (vs := [I 500, I 160000]) rfl ts60 tz60 rfl (by rfl) rfl), ag_ (Qhj (ls := [x6.1.Mass, x6.1.Heat, x6.1.Silica, x6.1.Gas]) (ks := [500, 160000, 0, 0]) rfl rfl Qfq (by kernel_rfl) rfl rfl), asb hb18 (amv rfl), asb hb19 (amv rfl), asb hb20 (amv rfl), asb hb21 (amv rfl), asb hb22 (amv rfl), ag_ (alm (c := Qad) (l := x10.2.2.1) (aln rfl Try.underlying37 rfl)), asb hb23 (amv rfl), asb hb24 (amv rfl), trivial⟩ ?_
            refine Qab ?_
            obtain rfl := osi h
            exact fend ⟨[B false], ⟨rot (by kernel_rfl), trivial⟩, rfl⟩ nll
          ·replace h := Qaw hb23 h
           refine wx tbk [(2, rp [(.tmp 50, (B ((x4.2 == 0))))] (B true)), (6, rp [(.tmp 54, (B ((x4.1 == 56000))))] (B true)), (10, rp [(.tmp 58, (B ((x6.2.2.2 == 0))))] (B true)), (12, rp [(.tmp 59, B true), ci 500, ci 160000] Qhk), (13, rp [(.tmp 59, B true), (.tmp 60, (Qpf x6)), (.tmp 61, Qhk)] (B ((([x6.1.Mass, x6.1.Heat, x6.1.Silica, x6.1.Gas] : List Int) == [500, 160000, 0, 0])))), (15, rp [(.tmp 63, (B ((([x6.1.Mass, x6.1.Heat, x6.1.Silica, x6.1.Gas] : List Int) == [500, 160000, 0, 0]))))] (B true)), (19, rp [(.tmp 67, (B ((x6.2.1 == 6000))))] (B true)), (23, rp [(.tmp 71, (B ((x6.2.2.1 == 44000))))] (B true)), (27, rp [(.tmp 75, (B ((x10.2.2.2 == 0))))] (B true)), (31, rp [(.tmp 79, (B ((x10.2.1 == 62000))))] (B true)), (33, rp [(.tmp 80, B true), (.tmp 81, (Qrm x10))] (I ((x10.2.2.1.length : Int)))), (36, rp [(.tmp 84, (B (((x10.2.2.1.length : Int) == 2))))] (B false))] ⟨asb hb15 (amv rfl), asb hb16 (amv rfl), asb hb17 (amv rfl), ag_ (Qaj (vs := [I 500, I 160000]) rfl ts60 tz60 rfl (by rfl) rfl), ag_ (Qhj (ls := [x6.1.Mass, x6.1.Heat, x6.1.Silica, x6.1.Gas]) (ks := [500, 160000, 0, 0]) rfl rfl Qfq (by kernel_rfl) rfl rfl), asb hb18 (amv rfl), asb hb19 (amv rfl), asb hb20 (amv rfl), asb hb21 (amv rfl), asb hb22 (amv rfl), ag_ (alm (c := Qad) (l := x10.2.2.1) (aln rfl Try.underlying37 rfl)), asb hb23 (amv rfl), trivial⟩ ?_
           refine Qab ?_
           obtain rfl := osi h
           exact fend ⟨[B false], ⟨rot (by kernel_rfl), trivial⟩, rfl⟩ nll
         ·replace h := Qaw hb22 h
          refine wx tbk [(2, rp [(.tmp 50, (B ((x4.2 == 0))))] (B true)), (6, rp [(.tmp 54, (B ((x4.1 == 56000))))] (B true)), (10, rp [(.tmp 58, (B ((x6.2.2.2 == 0))))] (B true)), (12, rp [(.tmp 59, B true), ci 500, ci 160000] Qhk), (13, rp [(.tmp 59, B true), (.tmp 60, (Qpf x6)), (.tmp 61, Qhk)] (B ((([x6.1.Mass, x6.1.Heat, x6.1.Silica, x6.1.Gas] : List Int) == [500, 160000, 0, 0])))), (15, rp [(.tmp 63, (B ((([x6.1.Mass, x6.1.Heat, x6.1.Silica, x6.1.Gas] : List Int) == [500, 160000, 0, 0]))))] (B true)), (19, rp [(.tmp 67, (B ((x6.2.1 == 6000))))] (B true)), (23, rp [(.tmp 71, (B ((x6.2.2.1 == 44000))))] (B true)), (27, rp [(.tmp 75, (B ((x10.2.2.2 == 0))))] (B true)), (31, rp [(.tmp 79, (B ((x10.2.1 == 62000))))] (B false))] ⟨asb hb15 (amv rfl), asb hb16 (amv rfl), asb hb17 (amv rfl), ag_ (Qaj (vs := [I 500, I 160000]) rfl ts60 tz60 rfl (by rfl) rfl), ag_ (Qhj (ls := [x6.1.Mass, x6.1.Heat, x6.1.Silica, x6.1.Gas]) (ks := [500, 160000, 0, 0]) rfl rfl Qfq (by kernel_rfl) rfl rfl), asb hb18 (amv rfl), asb hb19 (amv rfl), asb hb20 (amv rfl), asb hb21 (amv rfl), asb hb22 (amv rfl), trivial⟩ ?_
          refine Qab ?_
          obtain rfl := osi h
          exact fend ⟨[B false], ⟨rot (by kernel_rfl), trivial⟩, rfl⟩ nll
        ·replace h := Qaw hb21 h
         refine wx tbk [(2, rp [(.tmp 50, (B ((x4.2 == 0))))] (B true)), (6, rp [(.tmp 54, (B ((x4.1 == 56000))))] (B true)), (10, rp [(.tmp 58, (B ((x6.2.2.2 == 0))))] (B true)), (12, rp [(.tmp 59, B true), ci 500, ci 160000] Qhk), (13, rp [(.tmp 59, B true), (.tmp 60, (Qpf x6)), (.tmp 61, Qhk)] (B ((([x6.1.Mass, x6.1.Heat, x6.1.Silica, x6.1.Gas] : List Int) == [500, 160000, 0, 0])))), (15, rp [(.tmp 63, (B ((([x6.1.Mass, x6.1.Heat, x6.1.Silica, x6.1.Gas] : List Int) == [500, 160000, 0, 0]))))] (B true)), (19, rp [(.tmp 67, (B ((x6.2.1 == 6000))))] (B true)), (23, rp [(.tmp 71, (B ((x6.2.2.1 == 44000))))] (B true)), (27, rp [(.tmp 75, (B ((x10.2.2.2 == 0))))] (B false))] ⟨asb hb15 (amv rfl), asb hb16 (amv rfl), asb hb17 (amv rfl), ag_ (Qaj (vs := [I 500, I 160000]) rfl ts60 tz60 rfl (by rfl) rfl), ag_ (Qhj (ls := [x6.1.Mass, x6.1.Heat, x6.1.Silica, x6.1.Gas]) (ks := [500, 160000, 0, 0]) rfl rfl Qfq (by kernel_rfl) rfl rfl), asb hb18 (amv rfl), asb hb19 (amv rfl), asb hb20 (amv rfl), asb hb21 (amv rfl), trivial⟩ ?_
         refine Qab ?_
         obtain rfl := osi h
         exact fend ⟨[B false], ⟨rot (by kernel_rfl), trivial⟩, rfl⟩ nll
       ·replace h := Qaw hb20 h
        refine wx tbk [(2, rp [(.tmp 50, (B ((x4.2 == 0))))] (B true)), (6, rp [(.tmp 54, (B ((x4.1 == 56000))))] (B true)), (10, rp [(.tmp 58, (B ((x6.2.2.2 == 0))))] (B true)), (12, rp [(.tmp 59, B true), ci 500, ci 160000] Qhk), (13, rp [(.tmp 59, B true), (.tmp 60, (Qpf x6)), (.tmp 61, Qhk)] (B ((([x6.1.Mass, x6.1.Heat, x6.1.Silica, x6.1.Gas] : List Int) == [500, 160000, 0, 0])))), (15, rp [(.tmp 63, (B ((([x6.1.Mass, x6.1.Heat, x6.1.Silica, x6.1.Gas] : List Int) == [500, 160000, 0, 0]))))] (B true)), (19, rp [(.tmp 67, (B ((x6.2.1 == 6000))))] (B true)), (23, rp [(.tmp 71, (B ((x6.2.2.1 == 44000))))] (B false))] ⟨asb hb15 (amv rfl), asb hb16 (amv rfl), asb hb17 (amv rfl), ag_ (Qaj (vs := [I 500, I 160000]) rfl ts60 tz60 rfl (by rfl) rfl), ag_ (Qhj (ls := [x6.1.Mass, x6.1.Heat, x6.1.Silica, x6.1.Gas]) (ks := [500, 160000, 0, 0]) rfl rfl Qfq (by kernel_rfl) rfl rfl), asb hb18 (amv rfl), asb hb19 (amv rfl), asb hb20 (amv rfl), trivial⟩ ?_
        refine Qab ?_
        obtain rfl := osi h
        exact fend ⟨[B false], ⟨rot (by kernel_rfl), trivial⟩, rfl⟩ nll
      ·replace h := Qaw hb19 h
       refine wx tbk [(2, rp [(.tmp 50, (B ((x4.2 == 0))))] (B true)), (6, rp [(.tmp 54, (B ((x4.1 == 56000))))] (B true)), (10, rp [(.tmp 58, (B ((x6.2.2.2 == 0))))] (B true)), (12, rp [(.tmp 59, B true), ci 500, ci 160000] Qhk), (13, rp [(.tmp 59, B true), (.tmp 60, (Qpf x6)), (.tmp 61, Qhk)] (B ((([x6.1.Mass, x6.1.Heat, x6.1.Silica, x6.1.Gas] : List Int) == [500, 160000, 0, 0])))), (15, rp [(.tmp 63, (B ((([x6.1.Mass, x6.1.Heat, x6.1.Silica, x6.1.Gas] : List Int) == [500, 160000, 0, 0]))))] (B true)), (19, rp [(.tmp 67, (B ((x6.2.1 == 6000))))] (B false))] ⟨asb hb15 (amv rfl), asb hb16 (amv rfl), asb hb17 (amv rfl), ag_ (Qaj (vs := [I 500, I 160000]) rfl ts60 tz60 rfl (by rfl) rfl), ag_ (Qhj (ls := [x6.1.Mass, x6.1.Heat, x6.1.Silica, x6.1.Gas]) (ks := [500, 160000, 0, 0]) rfl rfl Qfq (by kernel_rfl) rfl rfl), asb hb18 (amv rfl), asb hb19 (amv rfl), trivial⟩ ?_
       refine Qab ?_
       obtain rfl := osi h
       exact fend ⟨[B false], ⟨rot (by kernel_rfl), trivial⟩, rfl⟩ nll
     ·replace h := Qaw hb18 h
      refine wx tbk [(2, rp [(.tmp 50, (B ((x4.2 == 0))))] (B true)), (6, rp [(.tmp 54, (B ((x4.1 == 56000))))] (B true)), (10, rp [(.tmp 58, (B ((x6.2.2.2 == 0))))] (B true)), (12, rp [(.tmp 59, B true), ci 500, ci 160000] Qhk), (13, rp [(.tmp 59, B true), (.tmp 60, (Qpf x6)), (.tmp 61, Qhk)] (B ((([x6.1.Mass, x6.1.Heat, x6.1.Silica, x6.1.Gas] : List Int) == [500, 160000, 0, 0])))), (15, rp [(.tmp 63, (B ((([x6.1.Mass, x6.1.Heat, x6.1.Silica, x6.1.Gas] : List Int) == [500, 160000, 0, 0]))))] (B false))] ⟨asb hb15 (amv rfl), asb hb16 (amv rfl), asb hb17 (amv rfl), ag_ (Qaj (vs := [I 500, I 160000]) rfl ts60 tz60 rfl (by rfl) rfl), ag_ (Qhj (ls := [x6.1.Mass, x6.1.Heat, x6.1.Silica, x6.1.Gas]) (ks := [500, 160000, 0, 0]) rfl rfl Qfq (by kernel_rfl) rfl rfl), asb hb18 (amv rfl), trivial⟩ ?_
      refine Qab ?_
      obtain rfl := osi h
      exact fend ⟨[B false], ⟨rot (by kernel_rfl), trivial⟩, rfl⟩ nll
    ·replace h := Qaw hb17 h
     refine wx tbk [(2, rp [(.tmp 50, (B ((x4.2 == 0))))] (B true)), (6, rp [(.tmp 54, (B ((x4.1 == 56000))))] (B true)), (10, rp [(.tmp 58, (B ((x6.2.2.2 == 0))))] (B false))] ⟨asb hb15 (amv rfl), asb hb16 (amv rfl), asb hb17 (amv rfl), trivial⟩ ?_
     refine Qab ?_
     obtain rfl := osi h
     exact fend ⟨[B false], ⟨rot (by kernel_rfl), trivial⟩, rfl⟩ nll
   ·replace h := Qaw hb16 h
    refine wx tbk [(2, rp [(.tmp 50, (B ((x4.2 == 0))))] (B true)), (6, rp [(.tmp 54, (B ((x4.1 == 56000))))] (B false))] ⟨asb hb15 (amv rfl), asb hb16 (amv rfl), trivial⟩ ?_
    refine Qab ?_
    obtain rfl := osi h
    exact fend ⟨[B false], ⟨rot (by kernel_rfl), trivial⟩, rfl⟩ nll
  ·replace h := Qaw hb15 h
   refine wx tbk [(2, rp [(.tmp 50, (B ((x4.2 == 0))))] (B false))] ⟨asb hb15 (amv rfl), trivial⟩ ?_
   refine Qab ?_
   obtain rfl := osi h
   exact fend ⟨[B false], ⟨rot (by kernel_rfl), trivial⟩, rfl⟩ nll
end Go.Proofs.Ytlhakkkjgdbdpaa
