/-
  Functions of the program: what they compute, as plain functions, and that they do. No conditions.
-/
import Derived.Test.YtlhakkkjgdbdpaaGreatX4
namespace Go.Proofs.YtlhakkkjgdbdpaaGreat
set_option maxRecDepth 100000
set_option maxHeartbeats 4000000
open Go.RowKit
def Qmw (_N : Nat) : Option GUnit :=
  some (⟨1, [(⟨100, 500⟩ : GPart), (⟨50, 300⟩ : GPart)]⟩ : GUnit)
def Q84 : AV := .agg [(I (100)), (I (500))]
def Q83 : AV := .agg [(I (50)), (I (300))]
def Qz4 : AV := .dat 2 (([(⟨100, 500⟩ : GPart), (⟨50, 300⟩ : GPart)] : List GPart).map Qba)
theorem Qom (N : Nat) (r : GUnit) (h : Qmw N = some r) : Spec Tryz.prog 22 [] [] (.agg (Qck r)) [] := by
  refine Qac Tryz.func22 rfl 0 (nle rfl) (fun X φ0 w0 hφ0 hd0 => ?_)
  unfold Qmw at h
  refine wx tbk [] trivial ?_
  refine wx tbk [(0, rp [ci 100, ci 500] Q84), (1, rp [ci 50, ci 300] Q83), (2, rp [(.tmp 1, Q84), (.tmp 2, Q83)] Qz4), (3, rp [ci 1, (.tmp 3, Qz4)] (.agg [I 1, Qz4]))] ⟨Qao (vs := [I 100, I 500]) rfl Q56 Qu0 rfl (by rfl) rfl, Qao (vs := [I 50, I 300]) rfl Q56 Qu0 rfl (by rfl) rfl, Qcb (vs := [Q84, Q83]) rfl Tryz.underlying43 Qp1 Qu0 rfl (by decide) rfl (by decide) (by rfl) (by rfl) (by rfl) rfl, Qao (vs := [I 1, Qz4]) rfl ts45 tz45 rfl (by rfl) rfl, trivial⟩ ?_
  refine Qaa ?_
  obtain rfl := osi h
  exact fend ⟨[(.agg [I 1, Qz4])], ⟨Qa0 (n := 0) (m := 2) (j := 0) (i := 0) (xs := [[I 1, Qz4]]) (by kernel_rfl) (by kernel_rfl) ti45 (by decide) rfl (nle rfl) rfl, trivial⟩, rfl⟩ (NLt.agg _ (nlc nll (nlc (nld Qaq _) nl0)))
def Qn2 (_N : Nat) : Option ((List Int) × (List GUnit)) :=
  (Qmw 2000 ).bind fun x2 =>
  some ([30, 100], [x2, (⟨0, [(⟨200, 400⟩ : GPart)]⟩ : GUnit)])
def Zdj : AV := .dat 1 (([30, 100] : List Int).map Qal)
def Q82 (x2 : GUnit) : AV := .agg [(I (x2.Inlet)), (.dat 2 ((x2.Parts : List GPart).map Qba))]
def Q81 : AV := .agg [(I (200)), (I (400))]
def Qz3 : AV := .dat 2 (([(⟨200, 400⟩ : GPart)] : List GPart).map Qba)
def Zdi (x2 : GUnit) : AV := .dat 2 (([x2, (⟨0, [(⟨200, 400⟩ : GPart)]⟩ : GUnit)] : List GUnit).map Qck)
theorem Qrs (N : Nat) (r : ((List Int) × (List GUnit))) (h : Qn2 N = some r) : Spec Tryz.prog 23 [] [] (.tup [(.dat 1 (r.1.map Qal)), (.dat 2 (r.2.map Qck))]) [] := by
  refine Qac Tryz.func23 rfl 0 (nle rfl) (fun X φ0 w0 hφ0 hd0 => ?_)
  unfold Qn2 at h
  refine wx tbk [] trivial ?_
  obtain ⟨x2, hf1, h⟩ := bno h
  refine wx tbk [(0, rp [ci 30, ci 100] Zdj), (1, rp [fu 22] (Q82 x2)), (2, rp [ci 200, ci 400] Q81), (3, rp [(.tmp 4, Q81)] Qz3), (4, rp [(.tmp 5, Qz3)] (.agg [I 0, Qz3])), (5, rp [(.tmp 3, (Q82 x2)), (.tmp 6, (.agg [I 0, Qz3]))] (Zdi x2))] ⟨Qcb (vs := [I 30, I 100]) rfl Tryz.underlying73 ti3 tz3 rfl (by decide) rfl (by decide) (by rfl) (by rfl) (by rfl) rfl, apc (first := []) (cap := []) (vs := []) rfl Q4k (Qom 2000  _ hf1) rfl rfl nl0 (NLt.agg _ (nlc nll (nlc (nld Qaq _) nl0))) rfl, Qao (vs := [I 200, I 400]) rfl Q56 Qu0 rfl (by rfl) rfl, Qcb (vs := [Q81]) rfl Tryz.underlying43 Qp1 Qu0 rfl (by decide) rfl (by decide) (by rfl) (by rfl) (by rfl) rfl, Qao (vs := [Qz3]) rfl ts45 tz45 rfl (by rfl) rfl, Qcb (vs := [(Q82 x2), (.agg [I 0, Qz3])]) rfl Tryz.underlying74 ti45 tz45 rfl (by decide) rfl (by decide) (by rfl) (by rfl) (by rfl) rfl, trivial⟩ ?_
  refine Qaa ?_
  obtain rfl := osi h
  exact fend ⟨[Zdj, (Zdi x2)], ⟨rot (by kernel_rfl), rot (by kernel_rfl), trivial⟩, rfl⟩ (NLt.tup _ (nlc (nld Qab _) (nlc (nld Qax _) nl0)))
def Qpd (_N : Nat) : Option GJob :=
  some (⟨[0, 50, 100], 1, 2000, 0, [(⟨10, 100⟩ : GHour), (⟨(-5), 100⟩ : GHour), (⟨40, 100⟩ : GHour), (⟨40, 100⟩ : GHour)]⟩ : GJob)
def Q1k : AV := .dat 1 (([0, 50, 100] : List Int).map Qal)
def Q80 : AV := .agg [(I (10)), (I (100))]
def Q8z : AV := .agg [(I ((-5))), (I (100))]
def Qz2 : AV := .agg [(I (40)), (I (100))]
def Q1j : AV := .dat 2 (([(⟨10, 100⟩ : GHour), (⟨(-5), 100⟩ : GHour), (⟨40, 100⟩ : GHour), (⟨40, 100⟩ : GHour)] : List GHour).map Qey)
def Zdh : AV := .agg [Q1k, (I (1)), (I (2000)), (I (0)), Q1j]
theorem Qtn (N : Nat) (r : GJob) (h : Qpd N = some r) : Spec Tryz.prog 26 [] [] (.agg (Qvy r)) [] := by
  refine Qac Tryz.func26 rfl 0 (nle rfl) (fun X φ0 w0 hφ0 hd0 => ?_)
  unfold Qpd at h
  refine wx tbk [] trivial ?_
  refine wx tbk [(0, rp [ci 0, ci 50, ci 100] Q1k), (1, rp [ci 10, ci 100] Q80), (2, rp [ci (-5), ci 100] Q8z), (3, rp [ci 40, ci 100] Qz2), (4, rp [ci 40, ci 100] Qz2), (5, rp [(.tmp 2, Q80), (.tmp 3, Q8z), (.tmp 4, Qz2), (.tmp 5, Qz2)] Q1j), (6, rp [(.tmp 1, Q1k), ci 1, ci 2000, (.tmp 6, Q1j)] Zdh)] ⟨Qcb (vs := [I 0, I 50, I 100]) rfl Tryz.underlying73 ti3 tz3 rfl (by decide) rfl (by decide) (by rfl) (by rfl) (by rfl) rfl, Qao (vs := [I 10, I 100]) rfl Q55 Q0f rfl (by rfl) rfl, Qao (vs := [(I ((-5))), I 100]) rfl Q55 Q0f rfl (by rfl) rfl, Qao (vs := [I 40, I 100]) rfl Q55 Q0f rfl (by rfl) rfl, Qao (vs := [I 40, I 100]) rfl Q55 Q0f rfl (by rfl) rfl, Qcb (vs := [Q80, Q8z, Qz2, Qz2]) rfl Tryz.underlying82 Q58 Q0f rfl (by decide) rfl (by decide) (by rfl) (by rfl) (by rfl) rfl, Qao (vs := [Q1k, I 1, I 2000, Q1j]) rfl ts84 tz84 rfl (by rfl) rfl, trivial⟩ ?_
  refine Qaa ?_
  obtain rfl := osi h
  exact fend ⟨[Zdh], ⟨Qa0 (n := 0) (m := 5) (j := 0) (i := 0) (xs := [[Q1k, I 1, I 2000, I 0, Q1j]]) (by kernel_rfl) (by kernel_rfl) ti84 (by decide) rfl (nle rfl) rfl, trivial⟩, rfl⟩ (NLt.agg _ (nlc (nld Qab _) (nlc nll (nlc nll (nlc nll (nlc (nld Qbv _) nl0))))))
def Qf2 (N : Nat) (p0 : (List Int)) (p1 : (List Int)) (k2 : Unit → Option Bool) : Nat → Int → Option Bool
  | 0, _ => none
  | n5 + 1, y3 =>
    bif (decide (y3 < (p0.length : Int))) then
     (getI p0 y3).bind fun x7 =>
     (getI p1 y3).bind fun x11 =>
     bif (x7 != x11) then
      some false
     else
      Qf2 N p0 p1 k2 n5 (w64 (y3 + 1))
    else
     k2 ()
def Qn1 (N : Nat) (p0 : (List Int)) (p1 : (List Int)) : Option Bool :=
  bif ((p0.length : Int) != (p1.length : Int)) then
   some false
  else
   Qc5 (fun _ =>
     some true) fun k2 : Unit → Option Bool =>
   Qf2 N p0 p1 k2 N 0
def Qwj (p0 : (List Int)) : AV := .dat 1 ((p0 : List Int).map Qal)
def Qz1 (p1 : (List Int)) : AV := .dat 1 ((p1 : List Int).map Qal)
theorem Qnn (N : Nat) (p0 : (List Int)) (p1 : (List Int)) (r : Bool) (h : Qn1 N p0 p1 = some r) : Spec Tryz.prog 27 [(.dat 1 (p0.map Qal)), (.dat 1 (p1.map Qal))] [] (B r) [] := by
  refine Qac Tryz.func27 rfl 0 (nle rfl) (fun X φ0 w0 hφ0 hd0 => ?_)
  unfold Qn1 at h
  refine wx tbk [] trivial ?_
  refine wsq ?_
  refine wx tbk [(1, rp [(.tmp 6, (Qwj p0))] (I ((p0.length : Int)))), (3, rp [(.tmp 8, (Qz1 p1))] (I ((p1.length : Int))))] ⟨alm (c := Qal) (l := p0) (aln rfl Tryz.underlying73 rfl), alm (c := Qal) (l := p1) (aln rfl Tryz.underlying73 rfl), trivial⟩ ?_
  rcases bft (((p0.length : Int) != (p1.length : Int))) with hc1 | hc1
  ·replace h := Qat hc1 h
   refine wft hc1 (by kernel_rfl) ?_
   refine wx tbk [] trivial ?_
   refine Qaa ?_
   refine Qan ?_
   obtain rfl := osi h
   exact fend ⟨[B false], ⟨rot (by kernel_rfl), trivial⟩, rfl⟩ nll
  ·replace h := Qau hc1 h
   refine wfn hc1 (by kernel_rfl) ?_
   refine Qam ?_
   refine thn ?_
   obtain ⟨k2, hk_k2, h⟩ := jko h
   refine wjn (τ := Unit) (fun t => k2 t = some r) (fun _ => ⟨mk 26 [], []⟩) (fun t h => ?_) ?_
   ·subst hk_k2
    refine wx tbk [] trivial ?_
    refine Qaa ?_
    obtain rfl := osi h
    exact fend ⟨[B true], ⟨rot (by kernel_rfl), trivial⟩, rfl⟩ nll
   ·skip
    refine wx tbk [] trivial ?_
    refine Qaj ?_
    refine wmr (mto (n := 26) (l' := [(0, (Qwj p0)), (1, (Qz1 p1)), (5, I 0)]) (own' := []) [(0, (Qwj p0)), (1, (Qz1 p1)), (5, I 0)] [] [] hφ0 (pc (.rn (.plain _ (nld Qab _))) (pc (.rn (.plain _ (nld Qab _))) (pc rwl pn))) qn) ?_
    refine Qcl (τ := Int) (fun n t => Qf2 N p0 p1 k2 n t = some r) (fun y3 => ⟨mk 26 [(0, (Qwj p0)), (1, (Qz1 p1)), (5, I y3)], []⟩) (fun t h => by rw [Qf2] at h; cases h) (fun n5 ih y3 h => ?_) N (0) h
    rw [Qf2] at h
    skip
    refine wsq ?_
    refine wx tbk [(2, rp [(.tmp 12, (Qwj p0))] (I ((p0.length : Int))))] ⟨alm (c := Qal) (l := p0) (aln rfl Tryz.underlying73 rfl), trivial⟩ ?_
    rcases bft ((decide (y3 < (p0.length : Int)))) with hc6 | hc6
    ·replace h := Qat hc6 h
     refine wft hc6 (by kernel_rfl) ?_
     refine Qam ?_
     refine thn ?_
     refine wsq ?_
     refine Qaj ?_
     obtain ⟨x7, hg8, h⟩ := bno h
     obtain ⟨hi9, hj10⟩ := gsm hg8
     obtain ⟨x11, hg12, h⟩ := bno h
     obtain ⟨hi13, hj14⟩ := gsm hg12
     refine wxd tbk [(2, rp [(.tmp 17, (Qwj p0)), (.tmp 18, I y3)] (.dptr (Qal (x7)) 0)), (6, rp [(.tmp 21, (Qz1 p1)), (.tmp 22, I y3)] (.dptr (Qal (x11)) 0))] ⟨aid rfl Tryz.underlying73 ti3 rfl rfl hi9 (mgt Qal hj10) rfl, aid rfl Tryz.underlying73 ti3 rfl rfl hi13 (mgt Qal hj14) rfl, trivial⟩ ?_
     rcases bft ((x7 != x11)) with hc15 | hc15
     ·replace h := Qat hc15 h
      refine wft hc15 (by kernel_rfl) ?_
      refine wx tbk [] trivial ?_
      refine Qaa ?_
      refine Qa3 ?_
      refine Qan ?_
      refine Qan ?_
      refine Qa3 ?_
      refine Qan ?_
      obtain rfl := osi h
      exact fend ⟨[B false], ⟨rot (by kernel_rfl), trivial⟩, rfl⟩ nll
     ·replace h := Qau hc15 h
      refine wfn hc15 (by kernel_rfl) ?_
      refine Qam ?_
      refine bln ?_
      refine thn ?_
      refine wx1 tbk [] trivial ?_
      refine thn ?_
      exact arm (mto (n := 26) [(0, (Qwj p0)), (1, (Qz1 p1)), (5, (I (w64 (y3 + 1))))] [] [] hφ0 (pc (.rn (.plain _ (nld Qab _))) (pc (.rn (.plain _ (nld Qab _))) (pc rwl pn))) qn) (ih (w64 (y3 + 1)) h)
    ·replace h := Qau hc6 h
     refine wfn hc6 (by kernel_rfl) ?_
     refine Qbr ?_
     refine Qay ?_
     refine Qay ?_
     refine Qbq rfl ?_
     refine thn ?_
     exact ⟨(), h, (mto (n := 26) [] [] [] hφ0 pn qn)⟩
def Qeq (N : Nat) : Option Bool :=
  (Qmw 2000 ).bind fun x2 =>
  (Qmc N x2 120).bind fun x4 =>
  (Qju N (⟨300, 120, 50000⟩ : GCycle) (⟨500, 210000, 0, 0⟩ : GStream)).bind fun x6 =>
  (Qn2 2000 ).bind fun x8 =>
  (Qmb N x8.1 x8.2).bind fun x10 =>
  (Qpd 2000 ).bind fun x12 =>
  (Qj2 N x12).bind fun x14 =>
  bif (x4.2 == 0) then
   bif (x4.1 == 56000) then
    bif (x6.2.2.2 == 0) then
     bif (([x6.1.Mass, x6.1.Heat, x6.1.Silica, x6.1.Gas] : List Int) == [500, 160000, 0, 0]) then
      bif (x6.2.1 == 6000) then
       bif (x6.2.2.1 == 44000) then
        bif (x10.2.2.2 == 0) then
         bif (x10.2.1 == 62000) then
          bif ((x10.2.2.1.length : Int) == 2) then
           bif (x14.2.2.2 == 0) then
            (Qn1 N x14.1 ([1, 1, 2, 2])).bind fun x26 =>
            bif x26 then
             some (x14.2.1 == 6250)
            else
             some false
           else
            some false
          else
           some false
         else
          some false
        else
         some false
       else
        some false
      else
       some false
     else
      some false
    else
     some false
   else
    some false
  else
   some false
def Q88 (x2 : GUnit) : AV := .agg [(I (x2.Inlet)), (.dat 2 ((x2.Parts : List GPart).map Qba))]
def Q87 : AV := .agg [(I (300)), (I (120)), (I (50000))]
def Q86 : AV := .agg [(I (500)), (I (210000)), (I (0)), (I (0))]
def Qrq (x6 : (GStream × Int × Int × Int)) : AV := .agg [(I (x6.1.Mass)), (I (x6.1.Heat)), (I (x6.1.Silica)), (I (x6.1.Gas))]
def Q85 (x8 : ((List Int) × (List GUnit))) : AV := .dat 2 ((x8.2 : List GUnit).map Qck)
def Quc (x10 : ((List Int) × Int × (List Int) × Int)) : AV := .dat 1 ((x10.2.2.1 : List Int).map Qal)
def Q1m (x12 : GJob) : AV := .agg [(.dat 1 ((x12.Levels : List Int).map Qal)), (I (x12.Ramp)), (I (x12.Start)), (I (x12.First)), (.dat 2 ((x12.Hours : List GHour).map Qey))]
def Qub (x14 : ((List Int) × Int × (List (List Int)) × Int)) : AV := .dat 1 ((x14.1 : List Int).map Qal)
def Qid : AV := .agg [(I (500)), (I (160000)), (I (0)), (I (0))]
def Qrw : AV := .dat 1 (([1, 1, 2, 2] : List Int).map Qal)
theorem Qep (N : Nat) (r : Bool) (h : Qeq N = some r) : Spec Tryz.prog 7 [] [] (B r) [] := by
  refine Qac Tryz.func7 rfl 0 (nle rfl) (fun X φ0 w0 hφ0 hd0 => ?_)
  unfold Qeq at h
  refine wx tbk [] trivial ?_
  obtain ⟨x2, hf1, h⟩ := bno h
  obtain ⟨x4, hf3, h⟩ := bno h
  refine wx tbk [(0, rp [fu 22] (Q88 x2)), (1, rp [fu 21, (.tmp 18, (Q88 x2)), ci 120] (.tup [I x4.1, I x4.2]))] ⟨apc (first := []) (cap := []) (vs := []) rfl Q4k (Qom 2000  _ hf1) rfl rfl nl0 (NLt.agg _ (nlc nll (nlc (nld Qaq _) nl0))) rfl, apc (first := []) (cap := []) (vs := [(Q88 x2), I 120]) rfl Zcn (Qqx N x2 120 _ hf3) rfl rfl (nlc (NLt.agg _ (nlc nll (nlc (nld Qaq _) nl0))) (nlc nll nl0)) (NLt.tup _ (nlc nll (nlc nll nl0))) rfl, trivial⟩ ?_
  obtain ⟨x6, hf5, h⟩ := bno h
  refine wx tbk [(0, rp [ci 300, ci 120, ci 50000] Q87), (1, rp [ci 500, ci 210000] Q86), (2, rp [fu 20, (.tmp 23, Q87), (.tmp 24, Q86)] (.tup [(Qrq x6), I x6.2.1, I x6.2.2.1, I x6.2.2.2]))] ⟨Qao (vs := [I 300, I 120, I 50000]) rfl ts46 tz46 rfl (by rfl) rfl, Qao (vs := [I 500, I 210000]) rfl ts35 tz35 rfl (by rfl) rfl, apc (first := []) (cap := []) (vs := [Q87, Q86]) rfl Q4l (Qoj N (⟨300, 120, 50000⟩ : GCycle) (⟨500, 210000, 0, 0⟩ : GStream) _ hf5) rfl rfl (nlc (NLt.agg _ (nlc nll (nlc nll (nlc nll nl0)))) (nlc (NLt.agg _ (nlc nll (nlc nll (nlc nll (nlc nll nl0))))) nl0)) (NLt.tup _ (nlc (NLt.agg _ (nlc nll (nlc nll (nlc nll (nlc nll nl0))))) (nlc nll (nlc nll (nlc nll nl0))))) rfl, trivial⟩ ?_
  obtain ⟨x8, hf7, h⟩ := bno h
  refine wx tbk [(0, rp [fu 23] (.tup [(.dat 1 ((x8.1 : List Int).map Qal)), (Q85 x8)]))] ⟨apc (first := []) (cap := []) (vs := []) rfl Zcm (Qrs 2000  _ hf7) rfl rfl nl0 (NLt.tup _ (nlc (nld Qab _) (nlc (nld Qax _) nl0))) rfl, trivial⟩ ?_
  obtain ⟨x10, hf9, h⟩ := bno h
  refine wx tbk [(2, rp [fu 24, (.tmp 35, (.dat 1 ((x8.1 : List Int).map Qal))), (.tmp 36, (Q85 x8))] (.tup [(.dat 1 ((x10.1 : List Int).map Qal)), I x10.2.1, (Quc x10), I x10.2.2.2]))] ⟨apc (first := []) (cap := []) (vs := [(.dat 1 ((x8.1 : List Int).map Qal)), (Q85 x8)]) rfl Zcl (Qqw N x8.1 x8.2 _ hf9) rfl rfl (nlc (nld Qab _) (nlc (nld Qax _) nl0)) (NLt.tup _ (nlc (nld Qab _) (nlc nll (nlc (nld Qab _) (nlc nll nl0))))) rfl, trivial⟩ ?_
  obtain ⟨x12, hf11, h⟩ := bno h
  obtain ⟨x14, hf13, h⟩ := bno h
  refine wx tbk [(0, rp [fu 26] (Q1m x12)), (1, rp [fu 25, (.tmp 43, (Q1m x12))] (.tup [(Qub x14), I x14.2.1, (.dat 1 ((x14.2.2.1 : List (List Int)).map Qlk)), I x14.2.2.2]))] ⟨apc (first := []) (cap := []) (vs := []) rfl Zcj (Qtn 2000  _ hf11) rfl rfl nl0 (NLt.agg _ (nlc (nld Qab _) (nlc nll (nlc nll (nlc nll (nlc (nld Qbv _) nl0)))))) rfl, apc (first := []) (cap := []) (vs := [(Q1m x12)]) rfl Zck (Qok N x12 _ hf13) rfl rfl (nlc (NLt.agg _ (nlc (nld Qab _) (nlc nll (nlc nll (nlc nll (nlc (nld Qbv _) nl0)))))) nl0) (NLt.tup _ (nlc (nld Qab _) (nlc nll (nlc (nld Qq2 _) (nlc nll nl0))))) rfl, trivial⟩ ?_
  rcases bft ((x4.2 == 0)) with hb15 | hb15
  ·replace h := Qat hb15 h
   rcases bft ((x4.1 == 56000)) with hb16 | hb16
   ·replace h := Qat hb16 h
    rcases bft ((x6.2.2.2 == 0)) with hb17 | hb17
    ·replace h := Qat hb17 h
     rcases bft ((([x6.1.Mass, x6.1.Heat, x6.1.Silica, x6.1.Gas] : List Int) == [500, 160000, 0, 0])) with hb18 | hb18
     ·replace h := Qat hb18 h
      rcases bft ((x6.2.1 == 6000)) with hb19 | hb19
      ·replace h := Qat hb19 h
       rcases bft ((x6.2.2.1 == 44000)) with hb20 | hb20
       ·replace h := Qat hb20 h
        rcases bft ((x10.2.2.2 == 0)) with hb21 | hb21
        ·replace h := Qat hb21 h
         rcases bft ((x10.2.1 == 62000)) with hb22 | hb22
         ·replace h := Qat hb22 h
          rcases bft (((x10.2.2.1.length : Int) == 2)) with hb23 | hb23
          ·replace h := Qat hb23 h
           rcases bft ((x14.2.2.2 == 0)) with hb24 | hb24
           ·replace h := Qat hb24 h
            obtain ⟨x26, hf25, h⟩ := bno h
            rcases bft (x26) with hb27 | hb27
            ·replace h := Qat hb27 h
             refine wx tbk [(2, rp [(.tmp 50, (B ((x4.2 == 0))))] (B true)), (6, rp [(.tmp 54, (B ((x4.1 == 56000))))] (B true)), (10, rp [(.tmp 58, (B ((x6.2.2.2 == 0))))] (B true)), (12, rp [(.tmp 59, B true), ci 500, ci 160000] Qid), (13, rp [(.tmp 59, B true), (.tmp 60, (Qrq x6)), (.tmp 61, Qid)] (B ((([x6.1.Mass, x6.1.Heat, x6.1.Silica, x6.1.Gas] : List Int) == [500, 160000, 0, 0])))), (15, rp [(.tmp 63, (B ((([x6.1.Mass, x6.1.Heat, x6.1.Silica, x6.1.Gas] : List Int) == [500, 160000, 0, 0]))))] (B true)), (19, rp [(.tmp 67, (B ((x6.2.1 == 6000))))] (B true)), (23, rp [(.tmp 71, (B ((x6.2.2.1 == 44000))))] (B true)), (27, rp [(.tmp 75, (B ((x10.2.2.2 == 0))))] (B true)), (31, rp [(.tmp 79, (B ((x10.2.1 == 62000))))] (B true)), (33, rp [(.tmp 80, B true), (.tmp 81, (Quc x10))] (I ((x10.2.2.1.length : Int)))), (36, rp [(.tmp 84, (B (((x10.2.2.1.length : Int) == 2))))] (B true)), (40, rp [(.tmp 88, (B ((x14.2.2.2 == 0))))] (B true)), (42, rp [(.tmp 89, B true), ci 1, ci 1, ci 2, ci 2] Qrw), (43, rp [(.tmp 89, B true), fu 27, (.tmp 90, (Qub x14)), (.tmp 91, Qrw)] (B x26)), (45, rp [(.tmp 93, B x26)] (B true))] ⟨asb hb15 (amv rfl), asb hb16 (amv rfl), asb hb17 (amv rfl), ag_ (Qao (vs := [I 500, I 160000]) rfl ts35 tz35 rfl (by rfl) rfl), ag_ (Qer (ls := [x6.1.Mass, x6.1.Heat, x6.1.Silica, x6.1.Gas]) (ks := [500, 160000, 0, 0]) rfl rfl Qtr (by kernel_rfl) rfl rfl), asb hb18 (amv rfl), asb hb19 (amv rfl), asb hb20 (amv rfl), asb hb21 (amv rfl), asb hb22 (amv rfl), ag_ (alm (c := Qal) (l := x10.2.2.1) (aln rfl Tryz.underlying73 rfl)), asb hb23 (amv rfl), asb hb24 (amv rfl), ag_ (Qcb (vs := [I 1, I 1, I 2, I 2]) rfl Tryz.underlying73 ti3 tz3 rfl (by decide) rfl (by decide) (by rfl) (by rfl) (by rfl) rfl), ag_ (apc (first := []) (cap := []) (vs := [(Qub x14), Qrw]) rfl Q4j (Qnn N x14.1 ([1, 1, 2, 2]) _ hf25) rfl rfl (nlc (nld Qab _) (nlc (nld Qab _) nl0)) nll rfl), asb hb27 (amv rfl), trivial⟩ ?_
             refine Qaa ?_
             obtain rfl := osi h
             exact fend ⟨[(B ((x14.2.1 == 6250)))], ⟨rot (by kernel_rfl), trivial⟩, rfl⟩ nll
            ·replace h := Qau hb27 h
             refine wx tbk [(2, rp [(.tmp 50, (B ((x4.2 == 0))))] (B true)), (6, rp [(.tmp 54, (B ((x4.1 == 56000))))] (B true)), (10, rp [(.tmp 58, (B ((x6.2.2.2 == 0))))] (B true)), (12, rp [(.tmp 59, B true), ci 500, ci 160000] Qid), (13, rp [(.tmp 59, B true), (.tmp 60, (Qrq x6)), (.tmp 61, Qid)] (B ((([x6.1.Mass, x6.1.Heat, x6.1.Silica, x6.1.Gas] : List Int) == [500, 160000, 0, 0])))), (15, rp [(.tmp 63, (B ((([x6.1.Mass, x6.1.Heat, x6.1.Silica, x6.1.Gas] : List Int) == [500, 160000, 0, 0]))))] (B true)), (19, rp [(.tmp 67, (B ((x6.2.1 == 6000))))] (B true)), (23, rp [(.tmp 71, (B ((x6.2.2.1 == 44000))))] (B true)), (27, rp [(.tmp 75, (B ((x10.2.2.2 == 0))))] (B true)), (31, rp [(.tmp 79, (B ((x10.2.1 == 62000))))] (B true)), (33, rp [(.tmp 80, B true), (.tmp 81, (Quc x10))] (I ((x10.2.2.1.length : Int)))), (36, rp [(.tmp 84, (B (((x10.2.2.1.length : Int) == 2))))] (B true)), (40, rp [(.tmp 88, (B ((x14.2.2.2 == 0))))] (B true)), (42, rp [(.tmp 89, B true), ci 1, ci 1, ci 2, ci 2] Qrw), (43, rp [(.tmp 89, B true), fu 27, (.tmp 90, (Qub x14)), (.tmp 91, Qrw)] (B x26)), (45, rp [(.tmp 93, B x26)] (B false))] ⟨asb hb15 (amv rfl), asb hb16 (amv rfl), asb hb17 (amv rfl), ag_ (Qao (vs := [I 500, I 160000]) rfl ts35 tz35 rfl (by rfl) rfl), ag_ (Qer (ls := [x6.1.Mass, x6.1.Heat, x6.1.Silica, x6.1.Gas]) (ks := [500, 160000, 0, 0]) rfl rfl Qtr (by kernel_rfl) rfl rfl), asb hb18 (amv rfl), asb hb19 (amv rfl), asb hb20 (amv rfl), asb hb21 (amv rfl), asb hb22 (amv rfl), ag_ (alm (c := Qal) (l := x10.2.2.1) (aln rfl Tryz.underlying73 rfl)), asb hb23 (amv rfl), asb hb24 (amv rfl), ag_ (Qcb (vs := [I 1, I 1, I 2, I 2]) rfl Tryz.underlying73 ti3 tz3 rfl (by decide) rfl (by decide) (by rfl) (by rfl) (by rfl) rfl), ag_ (apc (first := []) (cap := []) (vs := [(Qub x14), Qrw]) rfl Q4j (Qnn N x14.1 ([1, 1, 2, 2]) _ hf25) rfl rfl (nlc (nld Qab _) (nlc (nld Qab _) nl0)) nll rfl), asb hb27 (amv rfl), trivial⟩ ?_
             refine Qaa ?_
             obtain rfl := osi h
             exact fend ⟨[B false], ⟨rot (by kernel_rfl), trivial⟩, rfl⟩ nll
           ·replace h := Qau hb24 h
            refine wx tbk [(2, rp [(.tmp 50, (B ((x4.2 == 0))))] (B true)), (6, rp [(.tmp 54, (B ((x4.1 == 56000))))] (B true)), (10, rp [(.tmp 58, (B ((x6.2.2.2 == 0))))] (B true)), (12, rp [(.tmp 59, B true), ci 500, ci 160000] Qid), (13, rp [(.tmp 59, B true), (.tmp 60, (Qrq x6)), (.tmp 61, Qid)] (B ((([x6.1.Mass, x6.1.Heat, x6.1.Silica, x6.1.Gas] : List Int) == [500, 160000, 0, 0])))), (15, rp [(.tmp 63, (B ((([x6.1.Mass, x6.1.Heat, x6.1.Silica, x6.1.Gas] : List Int) == [500, 160000, 0, 0]))))] (B true)), (19, rp [(.tmp 67, (B ((x6.2.1 == 6000))))] (B true)), (23, rp [(.tmp 71, (B ((x6.2.2.1 == 44000))))] (B true)), (27, rp [(.tmp 75, (B ((x10.2.2.2 == 0))))] (B true)), (31, rp [(.tmp 79, (B ((x10.2.1 == 62000))))] (B true)), (33, rp [(.tmp 80, B true), (.tmp 81, (Quc x10))] (I ((x10.2.2.1.length : Int)))), (36, rp [(.tmp 84, (B (((x10.2.2.1.length : Int) == 2))))] (B true)), (40, rp [(.tmp 88, (B ((x14.2.2.2 == 0))))] (B false))] ⟨asb hb15 (amv rfl), asb hb16 (amv rfl), asb hb17 (amv rfl), ag_ (Qao (vs := [I 500, I 160000]) rfl ts35 tz35 rfl (by rfl) rfl), ag_ (Qer (ls := [x6.1.Mass, x6.1.Heat, x6.1.Silica, x6.1.Gas]) (ks := [500, 160000, 0, 0]) rfl rfl Qtr (by kernel_rfl) rfl rfl), asb hb18 (amv rfl), asb hb19 (amv rfl), asb hb20 (amv rfl), asb hb21 (amv rfl), asb hb22 (amv rfl), ag_ (alm (c := Qal) (l := x10.2.2.1) (aln rfl Tryz.underlying73 rfl)), asb hb23 (amv rfl), asb hb24 (amv rfl), trivial⟩ ?_
            refine Qaa ?_
            obtain rfl := osi h
            exact fend ⟨[B false], ⟨rot (by kernel_rfl), trivial⟩, rfl⟩ nll
          ·replace h := Qau hb23 h
           refine wx tbk [(2, rp [(.tmp 50, (B ((x4.2 == 0))))] (B true)), (6, rp [(.tmp 54, (B ((x4.1 == 56000))))] (B true)), (10, rp [(.tmp 58, (B ((x6.2.2.2 == 0))))] (B true)), (12, rp [(.tmp 59, B true), ci 500, ci 160000] Qid), (13, rp [(.tmp 59, B true), (.tmp 60, (Qrq x6)), (.tmp 61, Qid)] (B ((([x6.1.Mass, x6.1.Heat, x6.1.Silica, x6.1.Gas] : List Int) == [500, 160000, 0, 0])))), (15, rp [(.tmp 63, (B ((([x6.1.Mass, x6.1.Heat, x6.1.Silica, x6.1.Gas] : List Int) == [500, 160000, 0, 0]))))] (B true)), (19, rp [(.tmp 67, (B ((x6.2.1 == 6000))))] (B true)), (23, rp [(.tmp 71, (B ((x6.2.2.1 == 44000))))] (B true)), (27, rp [(.tmp 75, (B ((x10.2.2.2 == 0))))] (B true)), (31, rp [(.tmp 79, (B ((x10.2.1 == 62000))))] (B true)), (33, rp [(.tmp 80, B true), (.tmp 81, (Quc x10))] (I ((x10.2.2.1.length : Int)))), (36, rp [(.tmp 84, (B (((x10.2.2.1.length : Int) == 2))))] (B false))] ⟨asb hb15 (amv rfl), asb hb16 (amv rfl), asb hb17 (amv rfl), ag_ (Qao (vs := [I 500, I 160000]) rfl ts35 tz35 rfl (by rfl) rfl), ag_ (Qer (ls := [x6.1.Mass, x6.1.Heat, x6.1.Silica, x6.1.Gas]) (ks := [500, 160000, 0, 0]) rfl rfl Qtr (by kernel_rfl) rfl rfl), asb hb18 (amv rfl), asb hb19 (amv rfl), asb hb20 (amv rfl), asb hb21 (amv rfl), asb hb22 (amv rfl), ag_ (alm (c := Qal) (l := x10.2.2.1) (aln rfl Tryz.underlying73 rfl)), asb hb23 (amv rfl), trivial⟩ ?_
           refine Qaa ?_
           obtain rfl := osi h
           exact fend ⟨[B false], ⟨rot (by kernel_rfl), trivial⟩, rfl⟩ nll
         ·replace h := Qau hb22 h
          refine wx tbk [(2, rp [(.tmp 50, (B ((x4.2 == 0))))] (B true)), (6, rp [(.tmp 54, (B ((x4.1 == 56000))))] (B true)), (10, rp [(.tmp 58, (B ((x6.2.2.2 == 0))))] (B true)), (12, rp [(.tmp 59, B true), ci 500, ci 160000] Qid), (13, rp [(.tmp 59, B true), (.tmp 60, (Qrq x6)), (.tmp 61, Qid)] (B ((([x6.1.Mass, x6.1.Heat, x6.1.Silica, x6.1.Gas] : List Int) == [500, 160000, 0, 0])))), (15, rp [(.tmp 63, (B ((([x6.1.Mass, x6.1.Heat, x6.1.Silica, x6.1.Gas] : List Int) == [500, 160000, 0, 0]))))] (B true)), (19, rp [(.tmp 67, (B ((x6.2.1 == 6000))))] (B true)), (23, rp [(.tmp 71, (B ((x6.2.2.1 == 44000))))] (B true)), (27, rp [(.tmp 75, (B ((x10.2.2.2 == 0))))] (B true)), (31, rp [(.tmp 79, (B ((x10.2.1 == 62000))))] (B false))] ⟨asb hb15 (amv rfl), asb hb16 (amv rfl), asb hb17 (amv rfl), ag_ (Qao (vs := [I 500, I 160000]) rfl ts35 tz35 rfl (by rfl) rfl), ag_ (Qer (ls := [x6.1.Mass, x6.1.Heat, x6.1.Silica, x6.1.Gas]) (ks := [500, 160000, 0, 0]) rfl rfl Qtr (by kernel_rfl) rfl rfl), asb hb18 (amv rfl), asb hb19 (amv rfl), asb hb20 (amv rfl), asb hb21 (amv rfl), asb hb22 (amv rfl), trivial⟩ ?_
          refine Qaa ?_
          obtain rfl := osi h
          exact fend ⟨[B false], ⟨rot (by kernel_rfl), trivial⟩, rfl⟩ nll
        ·replace h := Qau hb21 h
         refine wx tbk [(2, rp [(.tmp 50, (B ((x4.2 == 0))))] (B true)), (6, rp [(.tmp 54, (B ((x4.1 == 56000))))] (B true)), (10, rp [(.tmp 58, (B ((x6.2.2.2 == 0))))] (B true)), (12, rp [(.tmp 59, B true), ci 500, ci 160000] Qid), (13, rp [(.tmp 59, B true), (.tmp 60, (Qrq x6)), (.tmp 61, Qid)] (B ((([x6.1.Mass, x6.1.Heat, x6.1.Silica, x6.1.Gas] : List Int) == [500, 160000, 0, 0])))), (15, rp [(.tmp 63, (B ((([x6.1.Mass, x6.1.Heat, x6.1.Silica, x6.1.Gas] : List Int) == [500, 160000, 0, 0]))))] (B true)), (19, rp [(.tmp 67, (B ((x6.2.1 == 6000))))] (B true)), (23, rp [(.tmp 71, (B ((x6.2.2.1 == 44000))))] (B true)), (27, rp [(.tmp 75, (B ((x10.2.2.2 == 0))))] (B false))] ⟨asb hb15 (amv rfl), asb hb16 (amv rfl), asb hb17 (amv rfl), ag_ (Qao (vs := [I 500, I 160000]) rfl ts35 tz35 rfl (by rfl) rfl), ag_ (Qer (ls := [x6.1.Mass, x6.1.Heat, x6.1.Silica, x6.1.Gas]) (ks := [500, 160000, 0, 0]) rfl rfl Qtr (by kernel_rfl) rfl rfl), asb hb18 (amv rfl), asb hb19 (amv rfl), asb hb20 (amv rfl), asb hb21 (amv rfl), trivial⟩ ?_
         refine Qaa ?_
         obtain rfl := osi h
         exact fend ⟨[B false], ⟨rot (by kernel_rfl), trivial⟩, rfl⟩ nll
       ·replace h := Qau hb20 h
        refine wx tbk [(2, rp [(.tmp 50, (B ((x4.2 == 0))))] (B true)), (6, rp [(.tmp 54, (B ((x4.1 == 56000))))] (B true)), (10, rp [(.tmp 58, (B ((x6.2.2.2 == 0))))] (B true)), (12, rp [(.tmp 59, B true), ci 500, ci 160000] Qid), (13, rp [(.tmp 59, B true), (.tmp 60, (Qrq x6)), (.tmp 61, Qid)] (B ((([x6.1.Mass, x6.1.Heat, x6.1.Silica, x6.1.Gas] : List Int) == [500, 160000, 0, 0])))), (15, rp [(.tmp 63, (B ((([x6.1.Mass, x6.1.Heat, x6.1.Silica, x6.1.Gas] : List Int) == [500, 160000, 0, 0]))))] (B true)), (19, rp [(.tmp 67, (B ((x6.2.1 == 6000))))] (B true)), (23, rp [(.tmp 71, (B ((x6.2.2.1 == 44000))))] (B false))] ⟨asb hb15 (amv rfl), asb hb16 (amv rfl), asb hb17 (amv rfl), ag_ (Qao (vs := [I 500, I 160000]) rfl ts35 tz35 rfl (by rfl) rfl), ag_ (Qer (ls := [x6.1.Mass, x6.1.Heat, x6.1.Silica, x6.1.Gas]) (ks := [500, 160000, 0, 0]) rfl rfl Qtr (by kernel_rfl) rfl rfl), asb hb18 (amv rfl), asb hb19 (amv rfl), asb hb20 (amv rfl), trivial⟩ ?_
        refine Qaa ?_
        obtain rfl := osi h
        exact fend ⟨[B false], ⟨rot (by kernel_rfl), trivial⟩, rfl⟩ nll
      ·replace h := Qau hb19 h
       refine wx tbk [(2, rp [(.tmp 50, (B ((x4.2 == 0))))] (B true)), (6, rp [(.tmp 54, (B ((x4.1 == 56000))))] (B true)), (10, rp [(.tmp 58, (B ((x6.2.2.2 == 0))))] (B true)), (12, rp [(.tmp 59, B true), ci 500, ci 160000] Qid), (13, rp [(.tmp 59, B true), (.tmp 60, (Qrq x6)), (.tmp 61, Qid)] (B ((([x6.1.Mass, x6.1.Heat, x6.1.Silica, x6.1.Gas] : List Int) == [500, 160000, 0, 0])))), (15, rp [(.tmp 63, (B ((([x6.1.Mass, x6.1.Heat, x6.1.Silica, x6.1.Gas] : List Int) == [500, 160000, 0, 0]))))] (B true)), (19, rp [(.tmp 67, (B ((x6.2.1 == 6000))))] (B false))] ⟨asb hb15 (amv rfl), asb hb16 (amv rfl), asb hb17 (amv rfl), ag_ (Qao (vs := [I 500, I 160000]) rfl ts35 tz35 rfl (by rfl) rfl), ag_ (Qer (ls := [x6.1.Mass, x6.1.Heat, x6.1.Silica, x6.1.Gas]) (ks := [500, 160000, 0, 0]) rfl rfl Qtr (by kernel_rfl) rfl rfl), asb hb18 (amv rfl), asb hb19 (amv rfl), trivial⟩ ?_
       refine Qaa ?_
       obtain rfl := osi h
       exact fend ⟨[B false], ⟨rot (by kernel_rfl), trivial⟩, rfl⟩ nll
     ·replace h := Qau hb18 h
      refine wx tbk [(2, rp [(.tmp 50, (B ((x4.2 == 0))))] (B true)), (6, rp [(.tmp 54, (B ((x4.1 == 56000))))] (B true)), (10, rp [(.tmp 58, (B ((x6.2.2.2 == 0))))] (B true)), (12, rp [(.tmp 59, B true), ci 500, ci 160000] Qid), (13, rp [(.tmp 59, B true), (.tmp 60, (Qrq x6)), (.tmp 61, Qid)] (B ((([x6.1.Mass, x6.1.Heat, x6.1.Silica, x6.1.Gas] : List Int) == [500, 160000, 0, 0])))), (15, rp [(.tmp 63, (B ((([x6.1.Mass, x6.1.Heat, x6.1.Silica, x6.1.Gas] : List Int) == [500, 160000, 0, 0]))))] (B false))] ⟨asb hb15 (amv rfl), asb hb16 (amv rfl), asb hb17 (amv rfl), ag_ (Qao (vs := [I 500, I 160000]) rfl ts35 tz35 rfl (by rfl) rfl), ag_ (Qer (ls := [x6.1.Mass, x6.1.Heat, x6.1.Silica, x6.1.Gas]) (ks := [500, 160000, 0, 0]) rfl rfl Qtr (by kernel_rfl) rfl rfl), asb hb18 (amv rfl), trivial⟩ ?_
      refine Qaa ?_
      obtain rfl := osi h
      exact fend ⟨[B false], ⟨rot (by kernel_rfl), trivial⟩, rfl⟩ nll
    ·replace h := Qau hb17 h
     refine wx tbk [(2, rp [(.tmp 50, (B ((x4.2 == 0))))] (B true)), (6, rp [(.tmp 54, (B ((x4.1 == 56000))))] (B true)), (10, rp [(.tmp 58, (B ((x6.2.2.2 == 0))))] (B false))] ⟨asb hb15 (amv rfl), asb hb16 (amv rfl), asb hb17 (amv rfl), trivial⟩ ?_
     refine Qaa ?_
     obtain rfl := osi h
     exact fend ⟨[B false], ⟨rot (by kernel_rfl), trivial⟩, rfl⟩ nll
   ·replace h := Qau hb16 h
    refine wx tbk [(2, rp [(.tmp 50, (B ((x4.2 == 0))))] (B true)), (6, rp [(.tmp 54, (B ((x4.1 == 56000))))] (B false))] ⟨asb hb15 (amv rfl), asb hb16 (amv rfl), trivial⟩ ?_
    refine Qaa ?_
    obtain rfl := osi h
    exact fend ⟨[B false], ⟨rot (by kernel_rfl), trivial⟩, rfl⟩ nll
  ·replace h := Qau hb15 h
   refine wx tbk [(2, rp [(.tmp 50, (B ((x4.2 == 0))))] (B false))] ⟨asb hb15 (amv rfl), trivial⟩ ?_
   refine Qaa ?_
   obtain rfl := osi h
   exact fend ⟨[B false], ⟨rot (by kernel_rfl), trivial⟩, rfl⟩ nll
end Go.Proofs.YtlhakkkjgdbdpaaGreat
