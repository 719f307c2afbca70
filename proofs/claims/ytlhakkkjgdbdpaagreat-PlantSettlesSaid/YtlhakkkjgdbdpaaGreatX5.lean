/-
  Functions of the program: what they compute, as plain functions, and that they do. No conditions.
-/
import Derived.Test.YtlhakkkjgdbdpaaGreatX4
namespace Go.Proofs.YtlhakkkjgdbdpaaGreat
set_option maxRecDepth 100000
set_option maxHeartbeats 4000000
open Go.RowKit
def Qng (_N : Nat) : Option GUnit :=
  some (⟨1, [(⟨100, 500⟩ : GPart), (⟨50, 300⟩ : GPart)]⟩ : GUnit)
def Za0 : AV := .agg [(I (100)), (I (500))]
def Zaz : AV := .agg [(I (50)), (I (300))]
def Q1d : AV := .dat 2 (([(⟨100, 500⟩ : GPart), (⟨50, 300⟩ : GPart)] : List GPart).map Qa4)
theorem Qo9 (N : Nat) (r : GUnit) (h : Qng N = some r) : Spec Tryz.prog 22 [] [] (.agg (Qcd r)) [] := by
  refine Qab Tryz.func22 rfl 0 (nle rfl) (fun X φ0 w0 hφ0 hd0 => ?_)
  unfold Qng at h
  refine wx tbk [] trivial ?_
  refine wx tbk [(0, rp [ci 100, ci 500] Za0), (1, rp [ci 50, ci 300] Zaz), (2, rp [(.tmp 1, Za0), (.tmp 2, Zaz)] Q1d), (3, rp [ci 1, (.tmp 3, Q1d)] (.agg [I 1, Q1d]))] ⟨Qan (vs := [I 100, I 500]) rfl Q7n Qvz rfl (by rfl) rfl, Qan (vs := [I 50, I 300]) rfl Q7n Qvz rfl (by rfl) rfl, Qb8 (vs := [Za0, Zaz]) rfl Tryz.underlying43 Qqm Qvz rfl (by decide) rfl (by decide) (by rfl) (by rfl) (by rfl) rfl, Qan (vs := [I 1, Q1d]) rfl ts45 tz45 rfl (by rfl) rfl, trivial⟩ ?_
  refine Qaa ?_
  obtain rfl := osi h
  exact fend ⟨[(.agg [I 1, Q1d])], ⟨Qas (n := 0) (m := 2) (j := 0) (i := 0) (xs := [[I 1, Q1d]]) (by kernel_rfl) (by kernel_rfl) ti45 (by decide) rfl (nle rfl) rfl, trivial⟩, rfl⟩ (NLt.agg _ (nlc nll (nlc (nld Qap _) nl0)))
def Qom (_N : Nat) : Option ((List Int) × (List GUnit)) :=
  (Qng 2000 ).bind fun x2 =>
  some ([30, 100], [x2, (⟨0, [(⟨200, 400⟩ : GPart)]⟩ : GUnit)])
def Zfv : AV := .dat 1 (([30, 100] : List Int).map Qam)
def Zay (x2 : GUnit) : AV := .agg [(I (x2.Inlet)), (.dat 2 ((x2.Parts : List GPart).map Qa4))]
def Zax : AV := .agg [(I (200)), (I (400))]
def Q1c : AV := .dat 2 (([(⟨200, 400⟩ : GPart)] : List GPart).map Qa4)
def Zfu (x2 : GUnit) : AV := .dat 2 (([x2, (⟨0, [(⟨200, 400⟩ : GPart)]⟩ : GUnit)] : List GUnit).map Qcd)
theorem Qsj (N : Nat) (r : ((List Int) × (List GUnit))) (h : Qom N = some r) : Spec Tryz.prog 23 [] [] (.tup [(.dat 1 (r.1.map Qam)), (.dat 2 (r.2.map Qcd))]) [] := by
  refine Qab Tryz.func23 rfl 0 (nle rfl) (fun X φ0 w0 hφ0 hd0 => ?_)
  unfold Qom at h
  refine wx tbk [] trivial ?_
  obtain ⟨x2, hf1, h⟩ := bno h
  refine wx tbk [(0, rp [ci 30, ci 100] Zfv), (1, rp [fu 22] (Zay x2)), (2, rp [ci 200, ci 400] Zax), (3, rp [(.tmp 4, Zax)] Q1c), (4, rp [(.tmp 5, Q1c)] (.agg [I 0, Q1c])), (5, rp [(.tmp 3, (Zay x2)), (.tmp 6, (.agg [I 0, Q1c]))] (Zfu x2))] ⟨Qb8 (vs := [I 30, I 100]) rfl Tryz.underlying73 ti3 tz3 rfl (by decide) rfl (by decide) (by rfl) (by rfl) (by rfl) rfl, apc (first := []) (cap := []) (vs := []) rfl Q5z (Qo9 2000  _ hf1) rfl rfl nl0 (NLt.agg _ (nlc nll (nlc (nld Qap _) nl0))) rfl, Qan (vs := [I 200, I 400]) rfl Q7n Qvz rfl (by rfl) rfl, Qb8 (vs := [Zax]) rfl Tryz.underlying43 Qqm Qvz rfl (by decide) rfl (by decide) (by rfl) (by rfl) (by rfl) rfl, Qan (vs := [Q1c]) rfl ts45 tz45 rfl (by rfl) rfl, Qb8 (vs := [(Zay x2), (.agg [I 0, Q1c])]) rfl Tryz.underlying74 ti45 tz45 rfl (by decide) rfl (by decide) (by rfl) (by rfl) (by rfl) rfl, trivial⟩ ?_
  refine Qaa ?_
  obtain rfl := osi h
  exact fend ⟨[Zfv, (Zfu x2)], ⟨rot (by kernel_rfl), rot (by kernel_rfl), trivial⟩, rfl⟩ (NLt.tup _ (nlc (nld Qac _) (nlc (nld Qa0 _) nl0)))
def Qp0 (_N : Nat) : Option GJob :=
  some (⟨[0, 50, 100], 1, 2000, 0, [(⟨10, 100⟩ : GHour), (⟨(-5), 100⟩ : GHour), (⟨40, 100⟩ : GHour), (⟨40, 100⟩ : GHour)]⟩ : GJob)
def Q2t : AV := .dat 1 (([0, 50, 100] : List Int).map Qam)
def Zaw : AV := .agg [(I (10)), (I (100))]
def Zav : AV := .agg [(I ((-5))), (I (100))]
def Q1b : AV := .agg [(I (40)), (I (100))]
def Q2s : AV := .dat 2 (([(⟨10, 100⟩ : GHour), (⟨(-5), 100⟩ : GHour), (⟨40, 100⟩ : GHour), (⟨40, 100⟩ : GHour)] : List GHour).map Qex)
def Zft : AV := .agg [Q2t, (I (1)), (I (2000)), (I (0)), Q2s]
theorem Quk (N : Nat) (r : GJob) (h : Qp0 N = some r) : Spec Tryz.prog 26 [] [] (.agg (Qwy r)) [] := by
  refine Qab Tryz.func26 rfl 0 (nle rfl) (fun X φ0 w0 hφ0 hd0 => ?_)
  unfold Qp0 at h
  refine wx tbk [] trivial ?_
  refine wx tbk [(0, rp [ci 0, ci 50, ci 100] Q2t), (1, rp [ci 10, ci 100] Zaw), (2, rp [ci (-5), ci 100] Zav), (3, rp [ci 40, ci 100] Q1b), (4, rp [ci 40, ci 100] Q1b), (5, rp [(.tmp 2, Zaw), (.tmp 3, Zav), (.tmp 4, Q1b), (.tmp 5, Q1b)] Q2s), (6, rp [(.tmp 1, Q2t), ci 1, ci 2000, (.tmp 6, Q2s)] Zft)] ⟨Qb8 (vs := [I 0, I 50, I 100]) rfl Tryz.underlying73 ti3 tz3 rfl (by decide) rfl (by decide) (by rfl) (by rfl) (by rfl) rfl, Qan (vs := [I 10, I 100]) rfl Q7m Q1o rfl (by rfl) rfl, Qan (vs := [(I ((-5))), I 100]) rfl Q7m Q1o rfl (by rfl) rfl, Qan (vs := [I 40, I 100]) rfl Q7m Q1o rfl (by rfl) rfl, Qan (vs := [I 40, I 100]) rfl Q7m Q1o rfl (by rfl) rfl, Qb8 (vs := [Zaw, Zav, Q1b, Q1b]) rfl Tryz.underlying82 Q7p Q1o rfl (by decide) rfl (by decide) (by rfl) (by rfl) (by rfl) rfl, Qan (vs := [Q2t, I 1, I 2000, Q2s]) rfl ts84 tz84 rfl (by rfl) rfl, trivial⟩ ?_
  refine Qaa ?_
  obtain rfl := osi h
  exact fend ⟨[Zft], ⟨Qas (n := 0) (m := 5) (j := 0) (i := 0) (xs := [[Q2t, I 1, I 2000, I 0, Q2s]]) (by kernel_rfl) (by kernel_rfl) ti84 (by decide) rfl (nle rfl) rfl, trivial⟩, rfl⟩ (NLt.agg _ (nlc (nld Qac _) (nlc nll (nlc nll (nlc nll (nlc (nld Qbv _) nl0))))))
def Qf4 (N : Nat) (p0 : (List Int)) (p1 : (List Int)) (k2 : Unit → Option Bool) : Nat → Int → Option Bool
  | 0, _ => none
  | n5 + 1, y3 =>
    bif (decide (y3 < (p0.length : Int))) then
     (getI p0 y3).bind fun x7 =>
     (getI p1 y3).bind fun x11 =>
     bif (x7 != x11) then
      some false
     else
      Qf4 N p0 p1 k2 n5 (w64 (y3 + 1))
    else
     k2 ()
def Qol (N : Nat) (p0 : (List Int)) (p1 : (List Int)) : Option Bool :=
  bif ((p0.length : Int) != (p1.length : Int)) then
   some false
  else
   Qck (fun _ =>
     some true) fun k2 : Unit → Option Bool =>
   Qf4 N p0 p1 k2 N 0
def Qxh (p0 : (List Int)) : AV := .dat 1 ((p0 : List Int).map Qam)
def Q1a (p1 : (List Int)) : AV := .dat 1 ((p1 : List Int).map Qam)
theorem Qn6 (N : Nat) (p0 : (List Int)) (p1 : (List Int)) (r : Bool) (h : Qol N p0 p1 = some r) : Spec Tryz.prog 27 [(.dat 1 (p0.map Qam)), (.dat 1 (p1.map Qam))] [] (B r) [] := by
  refine Qab Tryz.func27 rfl 0 (nle rfl) (fun X φ0 w0 hφ0 hd0 => ?_)
  unfold Qol at h
  refine wx tbk [] trivial ?_
  refine wsq ?_
  refine wx tbk [(1, rp [(.tmp 6, (Qxh p0))] (I ((p0.length : Int)))), (3, rp [(.tmp 8, (Q1a p1))] (I ((p1.length : Int))))] ⟨alm (c := Qam) (l := p0) (aln rfl Tryz.underlying73 rfl), alm (c := Qam) (l := p1) (aln rfl Tryz.underlying73 rfl), trivial⟩ ?_
  rcases bft (((p0.length : Int) != (p1.length : Int))) with hc1 | hc1
  ·replace h := Qav hc1 h
   refine wft hc1 (by kernel_rfl) ?_
   refine wx tbk [] trivial ?_
   refine Qaa ?_
   refine Qao ?_
   obtain rfl := osi h
   exact fend ⟨[B false], ⟨rot (by kernel_rfl), trivial⟩, rfl⟩ nll
  ·replace h := Qaw hc1 h
   refine wfn hc1 (by kernel_rfl) ?_
   refine Qak ?_
   refine thn ?_
   obtain ⟨k2, hk_k2, h⟩ := jko h
   refine wjn (τ := Unit) (fun t => k2 t = some r) (fun _ => ⟨mk 26 [], []⟩) (fun t h => ?_) ?_
   ·subst hk_k2
    refine wx tbk [] trivial ?_
    refine Qaa ?_
    obtain rfl := osi h
    exact fend ⟨[B true], ⟨rot (by kernel_rfl), trivial⟩, rfl⟩ nll
   ·skip
    refine wx tbk [] trivial ?_
    refine Qag ?_
    refine wmr (mto (n := 26) (l' := [(0, (Qxh p0)), (1, (Q1a p1)), (5, I 0)]) (own' := []) [(0, (Qxh p0)), (1, (Q1a p1)), (5, I 0)] [] [] hφ0 (pc (.rn (.plain _ (nld Qac _))) (pc (.rn (.plain _ (nld Qac _))) (pc rwl pn))) qn) ?_
    refine Qce (τ := Int) (fun n t => Qf4 N p0 p1 k2 n t = some r) (fun y3 => ⟨mk 26 [(0, (Qxh p0)), (1, (Q1a p1)), (5, I y3)], []⟩) (fun t h => by rw [Qf4] at h; cases h) (fun n5 ih y3 h => ?_) N (0) h
    rw [Qf4] at h
    skip
    refine wsq ?_
    refine wx tbk [(2, rp [(.tmp 12, (Qxh p0))] (I ((p0.length : Int))))] ⟨alm (c := Qam) (l := p0) (aln rfl Tryz.underlying73 rfl), trivial⟩ ?_
    rcases bft ((decide (y3 < (p0.length : Int)))) with hc6 | hc6
    ·replace h := Qav hc6 h
     refine wft hc6 (by kernel_rfl) ?_
     refine Qak ?_
     refine thn ?_
     refine wsq ?_
     refine Qag ?_
     obtain ⟨x7, hg8, h⟩ := bno h
     obtain ⟨hi9, hj10⟩ := gsm hg8
     obtain ⟨x11, hg12, h⟩ := bno h
     obtain ⟨hi13, hj14⟩ := gsm hg12
     refine wxd tbk [(2, rp [(.tmp 17, (Qxh p0)), (.tmp 18, I y3)] (.dptr (Qam (x7)) 0)), (6, rp [(.tmp 21, (Q1a p1)), (.tmp 22, I y3)] (.dptr (Qam (x11)) 0))] ⟨aid rfl Tryz.underlying73 ti3 rfl rfl hi9 (mgt Qam hj10) rfl, aid rfl Tryz.underlying73 ti3 rfl rfl hi13 (mgt Qam hj14) rfl, trivial⟩ ?_
     rcases bft ((x7 != x11)) with hc15 | hc15
     ·replace h := Qav hc15 h
      refine wft hc15 (by kernel_rfl) ?_
      refine wx tbk [] trivial ?_
      refine Qaa ?_
      refine Qa5 ?_
      refine Qao ?_
      refine Qao ?_
      refine Qa5 ?_
      refine Qao ?_
      obtain rfl := osi h
      exact fend ⟨[B false], ⟨rot (by kernel_rfl), trivial⟩, rfl⟩ nll
     ·replace h := Qaw hc15 h
      refine wfn hc15 (by kernel_rfl) ?_
      refine Qak ?_
      refine bln ?_
      refine thn ?_
      refine wx1 tbk [] trivial ?_
      refine thn ?_
      exact arm (mto (n := 26) [(0, (Qxh p0)), (1, (Q1a p1)), (5, (I (w64 (y3 + 1))))] [] [] hφ0 (pc (.rn (.plain _ (nld Qac _))) (pc (.rn (.plain _ (nld Qac _))) (pc rwl pn))) qn) (ih (w64 (y3 + 1)) h)
    ·replace h := Qaw hc6 h
     refine wfn hc6 (by kernel_rfl) ?_
     refine Qbk ?_
     refine Qax ?_
     refine Qax ?_
     refine Qbj rfl ?_
     refine thn ?_
     exact ⟨(), h, (mto (n := 26) [] [] [] hφ0 pn qn)⟩
def Qfm (N : Nat) : Option Bool :=
  (Qng 2000 ).bind fun x2 =>
  (Qmx N x2 120).bind fun x4 =>
  (Qj6 N (⟨300, 120, 50000⟩ : GCycle) (⟨500, 210000, 0, 0⟩ : GStream)).bind fun x6 =>
  (Qom 2000 ).bind fun x8 =>
  (Qmw N x8.1 x8.2).bind fun x10 =>
  (Qp0 2000 ).bind fun x12 =>
  (Qke N x12).bind fun x14 =>
  bif (x4.2 == 0) then
   bif (x4.1 == 56000) then
    bif (x6.2.2.2 == 0) then
     bif (([x6.1.Mass, x6.1.Heat, x6.1.Silica, x6.1.Gas] : List Int) == [500, 160000, 0, 0]) then
      bif (x6.2.1 == 6000) then
       bif (x6.2.2.1 == 44000) then
        bif (x10.2.2.2 == 0) then
         bif (x10.2.1 == 62000) then
          bif ((x10.2.2.1.length : Int) == 2) then
           bif (x14.2.2.2 == 0) then
            (Qol N x14.1 ([1, 1, 2, 2])).bind fun x26 =>
            bif x26 then
             some (x14.2.1 == 6250)
            else
             some false
           else
            some false
          else
           some false
         else
          some false
        else
         some false
       else
        some false
      else
       some false
     else
      some false
    else
     some false
   else
    some false
  else
   some false
def Za4 (x2 : GUnit) : AV := .agg [(I (x2.Inlet)), (.dat 2 ((x2.Parts : List GPart).map Qa4))]
def Za3 : AV := .agg [(I (300)), (I (120)), (I (50000))]
def Za2 : AV := .agg [(I (500)), (I (210000)), (I (0)), (I (0))]
def Qsh (x6 : (GStream × Int × Int × Int)) : AV := .agg [(I (x6.1.Mass)), (I (x6.1.Heat)), (I (x6.1.Silica)), (I (x6.1.Gas))]
def Za1 (x8 : ((List Int) × (List GUnit))) : AV := .dat 2 ((x8.2 : List GUnit).map Qcd)
def Qvb (x10 : ((List Int) × Int × (List Int) × Int)) : AV := .dat 1 ((x10.2.2.1 : List Int).map Qam)
def Q2v (x12 : GJob) : AV := .agg [(.dat 1 ((x12.Levels : List Int).map Qam)), (I (x12.Ramp)), (I (x12.Start)), (I (x12.First)), (.dat 2 ((x12.Hours : List GHour).map Qex))]
def Qva (x14 : ((List Int) × Int × (List (List Int)) × Int)) : AV := .dat 1 ((x14.1 : List Int).map Qam)
def Qil : AV := .agg [(I (500)), (I (160000)), (I (0)), (I (0))]
def Qsn : AV := .dat 1 (([1, 1, 2, 2] : List Int).map Qam)
theorem Qf5 (N : Nat) (r : Bool) (h : Qfm N = some r) : Spec Tryz.prog 7 [] [] (B r) [] := by
  refine Qab Tryz.func7 rfl 0 (nle rfl) (fun X φ0 w0 hφ0 hd0 => ?_)
  unfold Qfm at h
  refine wx tbk [] trivial ?_
  obtain ⟨x2, hf1, h⟩ := bno h
  obtain ⟨x4, hf3, h⟩ := bno h
  refine wx tbk [(0, rp [fu 22] (Za4 x2)), (1, rp [fu 21, (.tmp 18, (Za4 x2)), ci 120] (.tup [I x4.1, I x4.2]))] ⟨apc (first := []) (cap := []) (vs := []) rfl Q5z (Qo9 2000  _ hf1) rfl rfl nl0 (NLt.agg _ (nlc nll (nlc (nld Qap _) nl0))) rfl, apc (first := []) (cap := []) (vs := [(Za4 x2), I 120]) rfl Zev (Qrn N x2 120 _ hf3) rfl rfl (nlc (NLt.agg _ (nlc nll (nlc (nld Qap _) nl0))) (nlc nll nl0)) (NLt.tup _ (nlc nll (nlc nll nl0))) rfl, trivial⟩ ?_
  obtain ⟨x6, hf5, h⟩ := bno h
  refine wx tbk [(0, rp [ci 300, ci 120, ci 50000] Za3), (1, rp [ci 500, ci 210000] Za2), (2, rp [fu 20, (.tmp 23, Za3), (.tmp 24, Za2)] (.tup [(Qsh x6), I x6.2.1, I x6.2.2.1, I x6.2.2.2]))] ⟨Qan (vs := [I 300, I 120, I 50000]) rfl ts46 tz46 rfl (by rfl) rfl, Qan (vs := [I 500, I 210000]) rfl ts35 tz35 rfl (by rfl) rfl, apc (first := []) (cap := []) (vs := [Za3, Za2]) rfl Q50 (Qo6 N (⟨300, 120, 50000⟩ : GCycle) (⟨500, 210000, 0, 0⟩ : GStream) _ hf5) rfl rfl (nlc (NLt.agg _ (nlc nll (nlc nll (nlc nll nl0)))) (nlc (NLt.agg _ (nlc nll (nlc nll (nlc nll (nlc nll nl0))))) nl0)) (NLt.tup _ (nlc (NLt.agg _ (nlc nll (nlc nll (nlc nll (nlc nll nl0))))) (nlc nll (nlc nll (nlc nll nl0))))) rfl, trivial⟩ ?_
  obtain ⟨x8, hf7, h⟩ := bno h
  refine wx tbk [(0, rp [fu 23] (.tup [(.dat 1 ((x8.1 : List Int).map Qam)), (Za1 x8)]))] ⟨apc (first := []) (cap := []) (vs := []) rfl Zeu (Qsj 2000  _ hf7) rfl rfl nl0 (NLt.tup _ (nlc (nld Qac _) (nlc (nld Qa0 _) nl0))) rfl, trivial⟩ ?_
  obtain ⟨x10, hf9, h⟩ := bno h
  refine wx tbk [(2, rp [fu 24, (.tmp 35, (.dat 1 ((x8.1 : List Int).map Qam))), (.tmp 36, (Za1 x8))] (.tup [(.dat 1 ((x10.1 : List Int).map Qam)), I x10.2.1, (Qvb x10), I x10.2.2.2]))] ⟨apc (first := []) (cap := []) (vs := [(.dat 1 ((x8.1 : List Int).map Qam)), (Za1 x8)]) rfl Zet (Qrm N x8.1 x8.2 _ hf9) rfl rfl (nlc (nld Qac _) (nlc (nld Qa0 _) nl0)) (NLt.tup _ (nlc (nld Qac _) (nlc nll (nlc (nld Qac _) (nlc nll nl0))))) rfl, trivial⟩ ?_
  obtain ⟨x12, hf11, h⟩ := bno h
  obtain ⟨x14, hf13, h⟩ := bno h
  refine wx tbk [(0, rp [fu 26] (Q2v x12)), (1, rp [fu 25, (.tmp 43, (Q2v x12))] (.tup [(Qva x14), I x14.2.1, (.dat 1 ((x14.2.2.1 : List (List Int)).map Ql4)), I x14.2.2.2]))] ⟨apc (first := []) (cap := []) (vs := []) rfl Zer (Quk 2000  _ hf11) rfl rfl nl0 (NLt.agg _ (nlc (nld Qac _) (nlc nll (nlc nll (nlc nll (nlc (nld Qbv _) nl0)))))) rfl, apc (first := []) (cap := []) (vs := [(Q2v x12)]) rfl Zes (Qo7 N x12 _ hf13) rfl rfl (nlc (NLt.agg _ (nlc (nld Qac _) (nlc nll (nlc nll (nlc nll (nlc (nld Qbv _) nl0)))))) nl0) (NLt.tup _ (nlc (nld Qac _) (nlc nll (nlc (nld Qrs _) (nlc nll nl0))))) rfl, trivial⟩ ?_
  rcases bft ((x4.2 == 0)) with hb15 | hb15
  ·replace h := Qav hb15 h
   rcases bft ((x4.1 == 56000)) with hb16 | hb16
   ·replace h := Qav hb16 h
    rcases bft ((x6.2.2.2 == 0)) with hb17 | hb17
    ·replace h := Qav hb17 h
     rcases bft ((([x6.1.Mass, x6.1.Heat, x6.1.Silica, x6.1.Gas] : List Int) == [500, 160000, 0, 0])) with hb18 | hb18
     ·replace h := Qav hb18 h
      rcases bft ((x6.2.1 == 6000)) with hb19 | hb19
      ·replace h := Qav hb19 h
       rcases bft ((x6.2.2.1 == 44000)) with hb20 | hb20
       ·replace h := Qav hb20 h
        rcases bft ((x10.2.2.2 == 0)) with hb21 | hb21
        ·replace h := Qav hb21 h
         rcases bft ((x10.2.1 == 62000)) with hb22 | hb22
         ·replace h := Qav hb22 h
          rcases bft (((x10.2.2.1.length : Int) == 2)) with hb23 | hb23
          ·replace h := Qav hb23 h
           rcases bft ((x14.2.2.2 == 0)) with hb24 | hb24
           ·replace h := Qav hb24 h
            obtain ⟨x26, hf25, h⟩ := bno h
            rcases bft (x26) with hb27 | hb27
            ·replace h := Qav hb27 h
             refine wx tbk [(2, rp [(.tmp 50, (B ((x4.2 == 0))))] (B true)), (6, rp [(.tmp 54, (B ((x4.1 == 56000))))] (B true)), (10, rp [(.tmp 58, (B ((x6.2.2.2 == 0))))] (B true)), (12, rp [(.tmp 59, B true), ci 500, ci 160000] Qil), (13, rp [(.tmp 59, B true), (.tmp 60, (Qsh x6)), (.tmp 61, Qil)] (B ((([x6.1.Mass, x6.1.Heat, x6.1.Silica, x6.1.Gas] : List Int) == [500, 160000, 0, 0])))), (15, rp [(.tmp 63, (B ((([x6.1.Mass, x6.1.Heat, x6.1.Silica, x6.1.Gas] : List Int) == [500, 160000, 0, 0]))))] (B true)), (19, rp [(.tmp 67, (B ((x6.2.1 == 6000))))] (B true)), (23, rp [(.tmp 71, (B ((x6.2.2.1 == 44000))))] (B true)), (27, rp [(.tmp 75, (B ((x10.2.2.2 == 0))))] (B true)), (31, rp [(.tmp 79, (B ((x10.2.1 == 62000))))] (B true)), (33, rp [(.tmp 80, B true), (.tmp 81, (Qvb x10))] (I ((x10.2.2.1.length : Int)))), (36, rp [(.tmp 84, (B (((x10.2.2.1.length : Int) == 2))))] (B true)), (40, rp [(.tmp 88, (B ((x14.2.2.2 == 0))))] (B true)), (42, rp [(.tmp 89, B true), ci 1, ci 1, ci 2, ci 2] Qsn), (43, rp [(.tmp 89, B true), fu 27, (.tmp 90, (Qva x14)), (.tmp 91, Qsn)] (B x26)), (45, rp [(.tmp 93, B x26)] (B true))] ⟨asb hb15 (amv rfl), asb hb16 (amv rfl), asb hb17 (amv rfl), ag_ (Qan (vs := [I 500, I 160000]) rfl ts35 tz35 rfl (by rfl) rfl), ag_ (Qeq (ls := [x6.1.Mass, x6.1.Heat, x6.1.Silica, x6.1.Gas]) (ks := [500, 160000, 0, 0]) rfl rfl Quo (by kernel_rfl) rfl rfl), asb hb18 (amv rfl), asb hb19 (amv rfl), asb hb20 (amv rfl), asb hb21 (amv rfl), asb hb22 (amv rfl), ag_ (alm (c := Qam) (l := x10.2.2.1) (aln rfl Tryz.underlying73 rfl)), asb hb23 (amv rfl), asb hb24 (amv rfl), ag_ (Qb8 (vs := [I 1, I 1, I 2, I 2]) rfl Tryz.underlying73 ti3 tz3 rfl (by decide) rfl (by decide) (by rfl) (by rfl) (by rfl) rfl), ag_ (apc (first := []) (cap := []) (vs := [(Qva x14), Qsn]) rfl Q5y (Qn6 N x14.1 ([1, 1, 2, 2]) _ hf25) rfl rfl (nlc (nld Qac _) (nlc (nld Qac _) nl0)) nll rfl), asb hb27 (amv rfl), trivial⟩ ?_
             refine Qaa ?_
             obtain rfl := osi h
             exact fend ⟨[(B ((x14.2.1 == 6250)))], ⟨rot (by kernel_rfl), trivial⟩, rfl⟩ nll
            ·replace h := Qaw hb27 h
             refine wx tbk [(2, rp [(.tmp 50, (B ((x4.2 == 0))))] (B true)), (6, rp [(.tmp 54, (B ((x4.1 == 56000))))] (B true)), (10, rp [(.tmp 58, (B ((x6.2.2.2 == 0))))] (B true)), (12, rp [(.tmp 59, B true), ci 500, ci 160000] Qil), (13, rp [(.tmp 59, B true), (.tmp 60, (Qsh x6)), (.tmp 61, Qil)] (B ((([x6.1.Mass, x6.1.Heat, x6.1.Silica, x6.1.Gas] : List Int) == [500, 160000, 0, 0])))), (15, rp [(.tmp 63, (B ((([x6.1.Mass, x6.1.Heat, x6.1.Silica, x6.1.Gas] : List Int) == [500, 160000, 0, 0]))))] (B true)), (19, rp [(.tmp 67, (B ((x6.2.1 == 6000))))] (B true)), (23, rp [(.tmp 71, (B ((x6.2.2.1 == 44000))))] (B true)), (27, rp [(.tmp 75, (B ((x10.2.2.2 == 0))))] (B true)), (31, rp [(.tmp 79, (B ((x10.2.1 == 62000))))] (B true)), (33, rp [(.tmp 80, B true), (.tmp 81, (Qvb x10))] (I ((x10.2.2.1.length : Int)))), (36, rp [(.tmp 84, (B (((x10.2.2.1.length : Int) == 2))))] (B true)), (40, rp [(.tmp 88, (B ((x14.2.2.2 == 0))))] (B true)), (42, rp [(.tmp 89, B true), ci 1, ci 1, ci 2, ci 2] Qsn), (43, rp [(.tmp 89, B true), fu 27, (.tmp 90, (Qva x14)), (.tmp 91, Qsn)] (B x26)), (45, rp [(.tmp 93, B x26)] (B false))] ⟨asb hb15 (amv rfl), asb hb16 (amv rfl), asb hb17 (amv rfl), ag_ (Qan (vs := [I 500, I 160000]) rfl ts35 tz35 rfl (by rfl) rfl), ag_ (Qeq (ls := [x6.1.Mass, x6.1.Heat, x6.1.Silica, x6.1.Gas]) (ks := [500, 160000, 0, 0]) rfl rfl Quo (by kernel_rfl) rfl rfl), asb hb18 (amv rfl), asb hb19 (amv rfl), asb hb20 (amv rfl), asb hb21 (amv rfl), asb hb22 (amv rfl), ag_ (alm (c := Qam) (l := x10.2.2.1) (aln rfl Tryz.underlying73 rfl)), asb hb23 (amv rfl), asb hb24 (amv rfl), ag_ (Qb8 (vs := [I 1, I 1, I 2, I 2]) rfl Tryz.underlying73 ti3 tz3 rfl (by decide) rfl (by decide) (by rfl) (by rfl) (by rfl) rfl), ag_ (apc (first := []) (cap := []) (vs := [(Qva x14), Qsn]) rfl Q5y (Qn6 N x14.1 ([1, 1, 2, 2]) _ hf25) rfl rfl (nlc (nld Qac _) (nlc (nld Qac _) nl0)) nll rfl), asb hb27 (amv rfl), trivial⟩ ?_
             refine Qaa ?_
             obtain rfl := osi h
             exact fend ⟨[B false], ⟨rot (by kernel_rfl), trivial⟩, rfl⟩ nll
           ·replace h := Qaw hb24 h
            refine wx tbk [(2, rp [(.tmp 50, (B ((x4.2 == 0))))] (B true)), (6, rp [(.tmp 54, (B ((x4.1 == 56000))))] (B true)), (10, rp [(.tmp 58, (B ((x6.2.2.2 == 0))))] (B true)), (12, rp [(.tmp 59, B true), ci 500, ci 160000] Qil), (13, rp [(.tmp 59, B true), (.tmp 60, (Qsh x6)), (.tmp 61, Qil)] (B ((([x6.1.Mass, x6.1.Heat, x6.1.Silica, x6.1.Gas] : List Int) == [500, 160000, 0, 0])))), (15, rp [(.tmp 63, (B ((([x6.1.Mass, x6.1.Heat, x6.1.Silica, x6.1.Gas] : List Int) == [500, 160000, 0, 0]))))] (B true)), (19, rp [(.tmp 67, (B ((x6.2.1 == 6000))))] (B true)), (23, rp [(.tmp 71, (B ((x6.2.2.1 == 44000))))] (B true)), (27, rp [(.tmp 75, (B ((x10.2.2.2 == 0))))] (B true)), (31, rp [(.tmp 79, (B ((x10.2.1 == 62000))))] (B true)), (33, rp [(.tmp 80, B true), (.tmp 81, (Qvb x10))] (I ((x10.2.2.1.length : Int)))), (36, rp [(.tmp 84, (B (((x10.2.2.1.length : Int) == 2))))] (B true)), (40, rp [(.tmp 88, (B ((x14.2.2.2 == 0))))] (B false))] ⟨asb hb15 (amv rfl), asb hb16 (amv rfl), asb hb17 (amv rfl), ag_ (Qan (vs := [I 500, I 160000]) rfl ts35 tz35 rfl (by rfl) rfl), ag_ (Qeq (ls := [x6.1.Mass, x6.1.Heat, x6.1.Silica, x6.1.Gas]) (ks := [500, 160000, 0, 0]) rfl rfl Quo (by kernel_rfl) rfl rfl), asb hb18 (amv rfl), asb hb19 (amv rfl), asb hb20 (amv rfl), asb hb21 (amv rfl), asb hb22 (amv rfl), ag_ (alm (c := Qam) (l := x10.2.2.1) (aln rfl Tryz.underlying73 rfl)), asb hb23 (amv rfl), asb hb24 (amv rfl), trivial⟩ ?_
            refine Qaa ?_
            obtain rfl := osi h
            exact fend ⟨[B false], ⟨rot (by kernel_rfl), trivial⟩, rfl⟩ nll
          ·replace h := Qaw hb23 h
           refine wx tbk [(2, rp [(.tmp 50, (B ((x4.2 == 0))))] (B true)), (6, rp [(.tmp 54, (B ((x4.1 == 56000))))] (B true)), (10, rp [(.tmp 58, (B ((x6.2.2.2 == 0))))] (B true)), (12, rp [(.tmp 59, B true), ci 500, ci 160000] Qil), (13, rp [(.tmp 59, B true), (.tmp 60, (Qsh x6)), (.tmp 61, Qil)] (B ((([x6.1.Mass, x6.1.Heat, x6.1.Silica, x6.1.Gas] : List Int) == [500, 160000, 0, 0])))), (15, rp [(.tmp 63, (B ((([x6.1.Mass, x6.1.Heat, x6.1.Silica, x6.1.Gas] : List Int) == [500, 160000, 0, 0]))))] (B true)), (19, rp [(.tmp 67, (B ((x6.2.1 == 6000))))] (B true)), (23, rp [(.tmp 71, (B ((x6.2.2.1 == 44000))))] (B true)), (27, rp [(.tmp 75, (B ((x10.2.2.2 == 0))))] (B true)), (31, rp [(.tmp 79, (B ((x10.2.1 == 62000))))] (B true)), (33, rp [(.tmp 80, B true), (.tmp 81, (Qvb x10))] (I ((x10.2.2.1.length : Int)))), (36, rp [(.tmp 84, (B (((x10.2.2.1.length : Int) == 2))))] (B false))] ⟨asb hb15 (amv rfl), asb hb16 (amv rfl), asb hb17 (amv rfl), ag_ (Qan (vs := [I 500, I 160000]) rfl ts35 tz35 rfl (by rfl) rfl), ag_ (Qeq (ls := [x6.1.Mass, x6.1.Heat, x6.1.Silica, x6.1.Gas]) (ks := [500, 160000, 0, 0]) rfl rfl Quo (by kernel_rfl) rfl rfl), asb hb18 (amv rfl), asb hb19 (amv rfl), asb hb20 (amv rfl), asb hb21 (amv rfl), asb hb22 (amv rfl), ag_ (alm (c := Qam) (l := x10.2.2.1) (aln rfl Tryz.underlying73 rfl)), asb hb23 (amv rfl), trivial⟩ ?_
           refine Qaa ?_
           obtain rfl := osi h
           exact fend ⟨[B false], ⟨rot (by kernel_rfl), trivial⟩, rfl⟩ nll
         ·replace h := Qaw hb22 h
          refine wx tbk [(2, rp [(.tmp 50, (B ((x4.2 == 0))))] (B true)), (6, rp [(.tmp 54, (B ((x4.1 == 56000))))] (B true)), (10, rp [(.tmp 58, (B ((x6.2.2.2 == 0))))] (B true)), (12, rp [(.tmp 59, B true), ci 500, ci 160000] Qil), (13, rp [(.tmp 59, B true), (.tmp 60, (Qsh x6)), (.tmp 61, Qil)] (B ((([x6.1.Mass, x6.1.Heat, x6.1.Silica, x6.1.Gas] : List Int) == [500, 160000, 0, 0])))), (15, rp [(.tmp 63, (B ((([x6.1.Mass, x6.1.Heat, x6.1.Silica, x6.1.Gas] : List Int) == [500, 160000, 0, 0]))))] (B true)), (19, rp [(.tmp 67, (B ((x6.2.1 == 6000))))] (B true)), (23, rp [(.tmp 71, (B ((x6.2.2.1 == 44000))))] (B true)), (27, rp [(.tmp 75, (B ((x10.2.2.2 == 0))))] (B true)), (31, rp [(.tmp 79, (B ((x10.2.1 == 62000))))] (B false))] ⟨asb hb15 (amv rfl), asb hb16 (amv rfl), asb hb17 (amv rfl), ag_ (Qan (vs := [I 500, I 160000]) rfl ts35 tz35 rfl (by rfl) rfl), ag_ (Qeq (ls := [x6.1.Mass, x6.1.Heat, x6.1.Silica, x6.1.Gas]) (ks := [500, 160000, 0, 0]) rfl rfl Quo (by kernel_rfl) rfl rfl), asb hb18 (amv rfl), asb hb19 (amv rfl), asb hb20 (amv rfl), asb hb21 (amv rfl), asb hb22 (amv rfl), trivial⟩ ?_
          refine Qaa ?_
          obtain rfl := osi h
          exact fend ⟨[B false], ⟨rot (by kernel_rfl), trivial⟩, rfl⟩ nll
        ·replace h := Qaw hb21 h
         refine wx tbk [(2, rp [(.tmp 50, (B ((x4.2 == 0))))] (B true)), (6, rp [(.tmp 54, (B ((x4.1 == 56000))))] (B true)), (10, rp [(.tmp 58, (B ((x6.2.2.2 == 0))))] (B true)), (12, rp [(.tmp 59, B true), ci 500, ci 160000] Qil), (13, rp [(.tmp 59, B true), (.tmp 60, (Qsh x6)), (.tmp 61, Qil)] (B ((([x6.1.Mass, x6.1.Heat, x6.1.Silica, x6.1.Gas] : List Int) == [500, 160000, 0, 0])))), (15, rp [(.tmp 63, (B ((([x6.1.Mass, x6.1.Heat, x6.1.Silica, x6.1.Gas] : List Int) == [500, 160000, 0, 0]))))] (B true)), (19, rp [(.tmp 67, (B ((x6.2.1 == 6000))))] (B true)), (23, rp [(.tmp 71, (B ((x6.2.2.1 == 44000))))] (B true)), (27, rp [(.tmp 75, (B ((x10.2.2.2 == 0))))] (B false))] ⟨asb hb15 (amv rfl), asb hb16 (amv rfl), asb hb17 (amv rfl), ag_ (Qan (vs := [I 500, I 160000]) rfl ts35 tz35 rfl (by rfl) rfl), ag_ (Qeq (ls := [x6.1.Mass, x6.1.Heat, x6.1.Silica, x6.1.Gas]) (ks := [500, 160000, 0, 0]) rfl rfl Quo (by kernel_rfl) rfl rfl), asb hb18 (amv rfl), asb hb19 (amv rfl), asb hb20 (amv rfl), asb hb21 (amv rfl), trivial⟩ ?_
         refine Qaa ?_
         obtain rfl := osi h
         exact fend ⟨[B false], ⟨rot (by kernel_rfl), trivial⟩, rfl⟩ nll
       ·replace h := Qaw hb20 h
        refine wx tbk [(2, rp [(.tmp 50, (B ((x4.2 == 0))))] (B true)), (6, rp [(.tmp 54, (B ((x4.1 == 56000))))] (B true)), (10, rp [(.tmp 58, (B ((x6.2.2.2 == 0))))] (B true)), (12, rp [(.tmp 59, B true), ci 500, ci 160000] Qil), (13, rp [(.tmp 59, B true), (.tmp 60, (Qsh x6)), (.tmp 61, Qil)] (B ((([x6.1.Mass, x6.1.Heat, x6.1.Silica, x6.1.Gas] : List Int) == [500, 160000, 0, 0])))), (15, rp [(.tmp 63, (B ((([x6.1.Mass, x6.1.Heat, x6.1.Silica, x6.1.Gas] : List Int) == [500, 160000, 0, 0]))))] (B true)), (19, rp [(.tmp 67, (B ((x6.2.1 == 6000))))] (B true)), (23, rp [(.tmp 71, (B ((x6.2.2.1 == 44000))))] (B false))] ⟨asb hb15 (amv rfl), asb hb16 (amv rfl), asb hb17 (amv rfl), ag_ (Qan (vs := [I 500, I 160000]) rfl ts35 tz35 rfl (by rfl) rfl), ag_ (Qeq (ls := [x6.1.Mass, x6.1.Heat, x6.1.Silica, x6.1.Gas]) (ks := [500, 160000, 0, 0]) rfl rfl Quo (by kernel_rfl) rfl rfl), asb hb18 (amv rfl), asb hb19 (amv rfl), asb hb20 (amv rfl), trivial⟩ ?_
        refine Qaa ?_
        obtain rfl := osi h
        exact fend ⟨[B false], ⟨rot (by kernel_rfl), trivial⟩, rfl⟩ nll
      ·replace h := Qaw hb19 h
       refine wx tbk [(2, rp [(.tmp 50, (B ((x4.2 == 0))))] (B true)), (6, rp [(.tmp 54, (B ((x4.1 == 56000))))] (B true)), (10, rp [(.tmp 58, (B ((x6.2.2.2 == 0))))] (B true)), (12, rp [(.tmp 59, B true), ci 500, ci 160000] Qil), (13, rp [(.tmp 59, B true), (.tmp 60, (Qsh x6)), (.tmp 61, Qil)] (B ((([x6.1.Mass, x6.1.Heat, x6.1.Silica, x6.1.Gas] : List Int) == [500, 160000, 0, 0])))), (15, rp [(.tmp 63, (B ((([x6.1.Mass, x6.1.Heat, x6.1.Silica, x6.1.Gas] : List Int) == [500, 160000, 0, 0]))))] (B true)), (19, rp [(.tmp 67, (B ((x6.2.1 == 6000))))] (B false))] ⟨asb hb15 (amv rfl), asb hb16 (amv rfl), asb hb17 (amv rfl), ag_ (Qan (vs := [I 500, I 160000]) rfl ts35 tz35 rfl (by rfl) rfl), ag_ (Qeq (ls := [x6.1.Mass, x6.1.Heat, x6.1.Silica, x6.1.Gas]) (ks := [500, 160000, 0, 0]) rfl rfl Quo (by kernel_rfl) rfl rfl), asb hb18 (amv rfl), asb hb19 (amv rfl), trivial⟩ ?_
       refine Qaa ?_
       obtain rfl := osi h
       exact fend ⟨[B false], ⟨rot (by kernel_rfl), trivial⟩, rfl⟩ nll
     ·replace h := Qaw hb18 h
      refine wx tbk [(2, rp [(.tmp 50, (B ((x4.2 == 0))))] (B true)), (6, rp [(.tmp 54, (B ((x4.1 == 56000))))] (B true)), (10, rp [(.tmp 58, (B ((x6.2.2.2 == 0))))] (B true)), (12, rp [(.tmp 59, B true), ci 500, ci 160000] Qil), (13, rp [(.tmp 59, B true), (.tmp 60, (Qsh x6)), (.tmp 61, Qil)] (B ((([x6.1.Mass, x6.1.Heat, x6.1.Silica, x6.1.Gas] : List Int) == [500, 160000, 0, 0])))), (15, rp [(.tmp 63, (B ((([x6.1.Mass, x6.1.Heat, x6.1.Silica, x6.1.Gas] : List Int) == [500, 160000, 0, 0]))))] (B false))] ⟨asb hb15 (amv rfl), asb hb16 (amv rfl), asb hb17 (amv rfl), ag_ (Qan (vs := [I 500, I 160000]) rfl ts35 tz35 rfl (by rfl) rfl), ag_ (Qeq (ls := [x6.1.Mass, x6.1.Heat, x6.1.Silica, x6.1.Gas]) (ks := [500, 160000, 0, 0]) rfl rfl Quo (by kernel_rfl) rfl rfl), asb hb18 (amv rfl), trivial⟩ ?_
      refine Qaa ?_
      obtain rfl := osi h
      exact fend ⟨[B false], ⟨rot (by kernel_rfl), trivial⟩, rfl⟩ nll
    ·replace h := Qaw hb17 h
     refine wx tbk [(2, rp [(.tmp 50, (B ((x4.2 == 0))))] (B true)), (6, rp [(.tmp 54, (B ((x4.1 == 56000))))] (B true)), (10, rp [(.tmp 58, (B ((x6.2.2.2 == 0))))] (B false))] ⟨asb hb15 (amv rfl), asb hb16 (amv rfl), asb hb17 (amv rfl), trivial⟩ ?_
     refine Qaa ?_
     obtain rfl := osi h
     exact fend ⟨[B false], ⟨rot (by kernel_rfl), trivial⟩, rfl⟩ nll
   ·replace h := Qaw hb16 h
    refine wx tbk [(2, rp [(.tmp 50, (B ((x4.2 == 0))))] (B true)), (6, rp [(.tmp 54, (B ((x4.1 == 56000))))] (B false))] ⟨asb hb15 (amv rfl), asb hb16 (amv rfl), trivial⟩ ?_
    refine Qaa ?_
    obtain rfl := osi h
    exact fend ⟨[B false], ⟨rot (by kernel_rfl), trivial⟩, rfl⟩ nll
  ·replace h := Qaw hb15 h
   refine wx tbk [(2, rp [(.tmp 50, (B ((x4.2 == 0))))] (B false))] ⟨asb hb15 (amv rfl), trivial⟩ ?_
   refine Qaa ?_
   obtain rfl := osi h
   exact fend ⟨[B false], ⟨rot (by kernel_rfl), trivial⟩, rfl⟩ nll
end Go.Proofs.YtlhakkkjgdbdpaaGreat
