/-
  Functions of the program: what they compute, as plain functions, and that they do. No conditions.
-/
import Derived.Test.YtgdepcgbjjgnfaaX4
namespace Go.Proofs.Ytgdepcgbjjgnfaa
open Go.RowKit
def Qjj (_N : Nat) : Option (List GNode) :=
  some ([(⟨(-1), 0, 0, 0⟩ : GNode), (⟨0, 5, 100, 0⟩ : GNode), (⟨1, 3, 50, 2⟩ : GNode), (⟨1, 2, 60, 1⟩ : GNode)])
def z49_0 : AV := .agg [(I ((-1))), (I (0)), (I (0)), (I (0))]
def z49_1 : AV := .agg [(I (0)), (I (5)), (I (100)), (I (0))]
def z49_2 : AV := .agg [(I (1)), (I (3)), (I (50)), (I (2))]
def z49_3 : AV := .agg [(I (1)), (I (2)), (I (60)), (I (1))]
def z49_4 : AV := .dat 4 (([(⟨(-1), 0, 0, 0⟩ : GNode), (⟨0, 5, 100, 0⟩ : GNode), (⟨1, 3, 50, 2⟩ : GNode), (⟨1, 2, 60, 1⟩ : GNode)] : List GNode).map Qa0)
set_option maxRecDepth 100000 in
set_option maxHeartbeats 4000000 in
theorem Qk3 (N : Nat) (r : (List GNode)) (h : Qjj N = some r) : Spec Try.prog 64 [] [] (.dat 4 (r.map Qa0)) [] := by
  refine Qal Try.func64 rfl 0 (nle rfl) (fun X φ0 w0 hφ0 => ?_)
  unfold Qjj at h
  refine wx tbk [] trivial ?_
  refine wx tbk [(0, rp [ci (-1)] z49_0), (1, rp [ci 5, ci 100] z49_1), (2, rp [ci 1, ci 3, ci 50, ci 2] z49_2), (3, rp [ci 1, ci 2, ci 60, ci 1] z49_3), (4, rp [(.tmp 1, z49_0), (.tmp 2, z49_1), (.tmp 3, z49_2), (.tmp 4, z49_3)] z49_4)] ⟨Qbk (vs := [(I ((-1)))]) rfl ts141 Qv6 rfl (by rfl) rfl, Qbk (vs := [I 5, I 100]) rfl ts141 Qv6 rfl (by rfl) rfl, Qbk (vs := [I 1, I 3, I 50, I 2]) rfl ts141 Qv6 rfl (by rfl) rfl, Qbk (vs := [I 1, I 2, I 60, I 1]) rfl ts141 Qv6 rfl (by rfl) rfl, Qa8 (vs := [z49_0, z49_1, z49_2, z49_3]) rfl Try.underlying31 Qjx Qv6 rfl (by decide) rfl (by decide) (by rfl) (by rfl) (by rfl) rfl, trivial⟩ ?_
  refine Qah ?_
  obtain rfl := osi h
  exact fend ⟨[z49_4], ⟨rot (by kernel_rfl), trivial⟩, rfl⟩ (nld Qae _)
def Qmi (_N : Nat) : Option GDay :=
  some (⟨10, 0, [(⟨5, [(⟨20, 1⟩ : GStair)]⟩ : GHour), (⟨8, [(⟨5, 4⟩ : GStair)]⟩ : GHour), (⟨6, [(⟨9, 2⟩ : GStair)]⟩ : GHour)]⟩ : GDay)
def z50_1 : AV := .agg [(I (20)), (I (1))]
def Qvu : AV := .dat 2 (([(⟨20, 1⟩ : GStair)] : List GStair).map Qan)
def z50_3 : AV := .agg [(I (5)), (I (4))]
def Qvt : AV := .dat 2 (([(⟨5, 4⟩ : GStair)] : List GStair).map Qan)
def z50_5 : AV := .agg [(I (9)), (I (2))]
def Qvs : AV := .dat 2 (([(⟨9, 2⟩ : GStair)] : List GStair).map Qan)
def Qxc : AV := .dat 2 (([(⟨5, [(⟨20, 1⟩ : GStair)]⟩ : GHour), (⟨8, [(⟨5, 4⟩ : GStair)]⟩ : GHour), (⟨6, [(⟨9, 2⟩ : GStair)]⟩ : GHour)] : List GHour).map Qaj)
def z50_8 : AV := .agg [(I (10)), (I (0)), Qxc]
set_option maxRecDepth 100000 in
set_option maxHeartbeats 4000000 in
theorem Qqt (N : Nat) (r : GDay) (h : Qmi N = some r) : Spec Try.prog 65 [] [] (.agg (Qii r)) [] := by
  refine Qal Try.func65 rfl 0 (nle rfl) (fun X φ0 w0 hφ0 => ?_)
  unfold Qmi at h
  refine wx tbk [] trivial ?_
  refine wx tbk [(0, rp [ci 20, ci 1] z50_1), (1, rp [(.tmp 1, z50_1)] Qvu), (2, rp [ci 5, (.tmp 2, Qvu)] (.agg [I 5, Qvu])), (3, rp [ci 5, ci 4] z50_3), (4, rp [(.tmp 4, z50_3)] Qvt), (5, rp [ci 8, (.tmp 5, Qvt)] (.agg [I 8, Qvt])), (6, rp [ci 9, ci 2] z50_5), (7, rp [(.tmp 7, z50_5)] Qvs), (8, rp [ci 6, (.tmp 8, Qvs)] (.agg [I 6, Qvs])), (9, rp [(.tmp 3, (.agg [I 5, Qvu])), (.tmp 6, (.agg [I 8, Qvt])), (.tmp 9, (.agg [I 6, Qvs]))] Qxc), (10, rp [ci 10, (.tmp 10, Qxc)] z50_8)] ⟨Qbk (vs := [I 20, I 1]) rfl ts64 tz64 rfl (by rfl) rfl, Qa8 (vs := [z50_1]) rfl Try.underlying60 ti64 tz64 rfl (by decide) rfl (by decide) (by rfl) (by rfl) (by rfl) rfl, Qbk (vs := [I 5, Qvu]) rfl ts62 tz62 rfl (by rfl) rfl, Qbk (vs := [I 5, I 4]) rfl ts64 tz64 rfl (by rfl) rfl, Qa8 (vs := [z50_3]) rfl Try.underlying60 ti64 tz64 rfl (by decide) rfl (by decide) (by rfl) (by rfl) (by rfl) rfl, Qbk (vs := [I 8, Qvt]) rfl ts62 tz62 rfl (by rfl) rfl, Qbk (vs := [I 9, I 2]) rfl ts64 tz64 rfl (by rfl) rfl, Qa8 (vs := [z50_5]) rfl Try.underlying60 ti64 tz64 rfl (by decide) rfl (by decide) (by rfl) (by rfl) (by rfl) rfl, Qbk (vs := [I 6, Qvs]) rfl ts62 tz62 rfl (by rfl) rfl, Qa8 (vs := [(.agg [I 5, Qvu]), (.agg [I 8, Qvt]), (.agg [I 6, Qvs])]) rfl Try.underlying45 ti62 tz62 rfl (by decide) rfl (by decide) (by rfl) (by rfl) (by rfl) rfl, Qbk (vs := [I 10, Qxc]) rfl ts47 tz47 rfl (by rfl) rfl, trivial⟩ ?_
  refine Qah ?_
  obtain rfl := osi h
  exact fend ⟨[z50_8], ⟨Qc9 (n := 0) (m := 3) (j := 0) (i := 0) (xs := [[I 10, I 0, Qxc]]) (by kernel_rfl) (by kernel_rfl) ti47 (by decide) rfl (nle rfl) rfl, trivial⟩, rfl⟩ (NLt.agg _ (nlc nll (nlc nll (nlc (nld Qac _) nl0))))
def Qfh (N : Nat) (p0 : (List Int)) (p1 : (List Int)) (k2 : Unit → Option Bool) : Nat → Int → Option Bool
  | 0, _ => none
  | n5 + 1, y3 =>
    bif (decide (y3 < (p0.length : Int))) then
     (getI p0 y3).bind fun x7 =>
     (getI p1 y3).bind fun x11 =>
     bif (x7 != x11) then
      some false
     else
      Qfh N p0 p1 k2 n5 (w64 (y3 + 1))
    else
     k2 ()
def Qji (N : Nat) (p0 : (List Int)) (p1 : (List Int)) : Option Bool :=
  bif ((p0.length : Int) != (p1.length : Int)) then
   some false
  else
   Qbr (fun _ =>
     some true) fun k2 : Unit → Option Bool =>
   Qfh N p0 p1 k2 N 0
def Qsq (p0 : (List Int)) : AV := .dat 1 ((p0 : List Int).map Qab)
def Qvr (p1 : (List Int)) : AV := .dat 1 ((p1 : List Int).map Qab)
set_option maxRecDepth 100000 in
set_option maxHeartbeats 4000000 in
theorem Qc4 (N : Nat) (p0 : (List Int)) (p1 : (List Int)) (r : Bool) (h : Qji N p0 p1 = some r) : Spec Try.prog 66 [(.dat 1 (p0.map Qab)), (.dat 1 (p1.map Qab))] [] (B r) [] := by
  refine Qal Try.func66 rfl 0 (nle rfl) (fun X φ0 w0 hφ0 => ?_)
  unfold Qji at h
  refine wx tbk [] trivial ?_
  refine wsq ?_
  refine wx tbk [(1, rp [(.tmp 6, (Qsq p0))] (I ((p0.length : Int)))), (3, rp [(.tmp 8, (Qvr p1))] (I ((p1.length : Int))))] ⟨alm (c := Qab) (l := p0) (aln rfl Try.underlying23 rfl), alm (c := Qab) (l := p1) (aln rfl Try.underlying23 rfl), trivial⟩ ?_
  rcases bft (((p0.length : Int) != (p1.length : Int))) with hc1 | hc1
  ·replace h := Qar hc1 h
   refine wft hc1 (by kernel_rfl) ?_
   refine wx tbk [] trivial ?_
   refine Qah ?_
   refine Qad ?_
   obtain rfl := osi h
   exact fend ⟨[B false], ⟨rot (by kernel_rfl), trivial⟩, rfl⟩ nll
  ·replace h := Qas hc1 h
   refine wfn hc1 (by kernel_rfl) ?_
   refine Qag ?_
   refine thn ?_
   obtain ⟨k2, hk_k2, h⟩ := jko h
   refine wjn (τ := Unit) (fun t => k2 t = some r) (fun _ => ⟨mk 26 [], []⟩) (fun t h => ?_) ?_
   ·subst hk_k2
    refine wx tbk [] trivial ?_
    refine Qah ?_
    obtain rfl := osi h
    exact fend ⟨[B true], ⟨rot (by kernel_rfl), trivial⟩, rfl⟩ nll
   ·skip
    refine wx tbk [] trivial ?_
    refine Qai ?_
    refine wmr (mto (n := 26) (l' := [(0, (Qsq p0)), (1, (Qvr p1)), (5, I 0)]) (own' := []) [(0, (Qsq p0)), (1, (Qvr p1)), (5, I 0)] [] [] hφ0 (pc (.rn (.plain _ (nld Qaa _))) (pc (.rn (.plain _ (nld Qaa _))) (pc rwl pn))) qn) ?_
    refine Qbu (τ := Int) (fun n t => Qfh N p0 p1 k2 n t = some r) (fun y3 => ⟨mk 26 [(0, (Qsq p0)), (1, (Qvr p1)), (5, I y3)], []⟩) (fun t h => by rw [Qfh] at h; cases h) (fun n5 ih y3 h => ?_) N (0) h
    rw [Qfh] at h
    skip
    refine wsq ?_
    refine wx tbk [(2, rp [(.tmp 12, (Qsq p0))] (I ((p0.length : Int))))] ⟨alm (c := Qab) (l := p0) (aln rfl Try.underlying23 rfl), trivial⟩ ?_
    rcases bft ((decide (y3 < (p0.length : Int)))) with hc6 | hc6
    ·replace h := Qar hc6 h
     refine wft hc6 (by kernel_rfl) ?_
     refine Qag ?_
     refine thn ?_
     refine wsq ?_
     refine Qai ?_
     obtain ⟨x7, hg8, h⟩ := bno h
     obtain ⟨hi9, hj10⟩ := gsm hg8
     obtain ⟨x11, hg12, h⟩ := bno h
     obtain ⟨hi13, hj14⟩ := gsm hg12
     refine wxd tbk [(2, rp [(.tmp 17, (Qsq p0)), (.tmp 18, I y3)] (.dptr (Qab (x7)) 0)), (6, rp [(.tmp 21, (Qvr p1)), (.tmp 22, I y3)] (.dptr (Qab (x11)) 0))] ⟨aid rfl Try.underlying23 ti3 rfl rfl hi9 (mgt Qab hj10) rfl, aid rfl Try.underlying23 ti3 rfl rfl hi13 (mgt Qab hj14) rfl, trivial⟩ ?_
     rcases bft ((x7 != x11)) with hc15 | hc15
     ·replace h := Qar hc15 h
      refine wft hc15 (by kernel_rfl) ?_
      refine wx tbk [] trivial ?_
      refine Qah ?_
      refine Qak ?_
      refine Qad ?_
      refine Qad ?_
      refine Qak ?_
      refine Qad ?_
      obtain rfl := osi h
      exact fend ⟨[B false], ⟨rot (by kernel_rfl), trivial⟩, rfl⟩ nll
     ·replace h := Qas hc15 h
      refine wfn hc15 (by kernel_rfl) ?_
      refine Qag ?_
      refine bln ?_
      refine thn ?_
      refine wx1 tbk [] trivial ?_
      refine thn ?_
      exact arm (mto (n := 26) [(0, (Qsq p0)), (1, (Qvr p1)), (5, (I (w64 (y3 + 1))))] [] [] hφ0 (pc (.rn (.plain _ (nld Qaa _))) (pc (.rn (.plain _ (nld Qaa _))) (pc rwl pn))) qn) (ih (w64 (y3 + 1)) h)
    ·replace h := Qas hc6 h
     refine wfn hc6 (by kernel_rfl) ?_
     refine Qa3 ?_
     refine Qao ?_
     refine Qao ?_
     refine Qa2 rfl ?_
     refine thn ?_
     exact ⟨(), h, (mto (n := 26) [] [] [] hφ0 pn qn)⟩
def Qe4 (N : Nat) : Option Bool :=
  (Qjj 2000 ).bind fun x2 =>
  (Qld N x2 ([0, 10, 20, 30])).bind fun x4 =>
  (Qjj 2000 ).bind fun x6 =>
  (Qlb N x6 ([0, 10, 20, 30]) 60).bind fun x8 =>
  (Qi9 N (⟨100, 50⟩ : GMeter)).bind fun x10 =>
  (Qmi 2000 ).bind fun x12 =>
  (Qen N x12).bind fun x14 =>
  bif (x4.2.2 == 0) then
   bif (x8.2.2 == 0) then
    bif (x10.2 == 0) then
     bif (x14.2.2.2 == 0) then
      (Qji N x4.1 ([70, 70, 23, 32])).bind fun x20 =>
      bif x20 then
       bif ((x8.1.length : Int) == 4) then
        (getI x8.1 1).bind fun x23 =>
        bif x23 then
         (getI x8.1 2).bind fun x28 =>
         bif (!x28) then
          (getI x8.1 3).bind fun x33 =>
          bif x33 then
           bif (x8.2.1 == 47) then
            bif (([x10.1.Lo, x10.1.Hi] : List Int) == [96, 105]) then
             (Qji N x14.1 ([15, 0, 4])).bind fun x41 =>
             bif x41 then
              bif ((x14.2.1.length : Int) == 3) then
               some (x14.2.2.1 == 23)
              else
               some false
             else
              some false
            else
             some false
           else
            some false
          else
           some false
         else
          some false
        else
         some false
       else
        some false
      else
       some false
     else
      some false
    else
     some false
   else
    some false
  else
   some false
def z48_0 (x2 : (List GNode)) : AV := .dat 4 ((x2 : List GNode).map Qa0)
def Qvv : AV := .dat 1 (([0, 10, 20, 30] : List Int).map Qab)
def Qij (x4 : ((List Int) × Int × Int)) : AV := .dat 1 ((x4.1 : List Int).map Qab)
def z48_3 (x6 : (List GNode)) : AV := .dat 4 ((x6 : List GNode).map Qa0)
def Qgi (x8 : ((List Bool) × Int × Int)) : AV := .dat 1 ((x8.1 : List Bool).map Qbs)
def z48_5 : AV := .agg [(I (100)), (I (50))]
def Qxd (x10 : (GRange × Int)) : AV := .agg [(I (x10.1.Lo)), (I (x10.1.Hi))]
def Qxe (x12 : GDay) : AV := .agg [(I (x12.Tank)), (I (x12.Start)), (.dat 2 ((x12.Hours : List GHour).map Qaj))]
def Qnm (x14 : ((List Int) × (List Int) × Int × Int)) : AV := .dat 1 ((x14.1 : List Int).map Qab)
def Qez : AV := .dat 1 (([70, 70, 23, 32] : List Int).map Qab)
def Qmt : AV := .agg [(I (96)), (I (105))]
def Qll : AV := .dat 1 (([15, 0, 4] : List Int).map Qab)
set_option maxRecDepth 100000 in
set_option maxHeartbeats 4000000 in
theorem Qfg (N : Nat) (r : Bool) (h : Qe4 N = some r) : Spec Try.prog 21 [] [] (B r) [] := by
  refine Qal Try.func21 rfl 0 (nle rfl) (fun X φ0 w0 hφ0 => ?_)
  unfold Qe4 at h
  refine wx tbk [] trivial ?_
  obtain ⟨x2, hf1, h⟩ := bno h
  obtain ⟨x4, hf3, h⟩ := bno h
  refine wx tbk [(0, rp [fu 64] (z48_0 x2)), (1, rp [ci 0, ci 10, ci 20, ci 30] Qvv), (2, rp [fu 36, (.tmp 14, (z48_0 x2)), (.tmp 15, Qvv)] (.tup [(Qij x4), I x4.2.1, I x4.2.2]))] ⟨apc (first := []) (cap := []) (vs := []) rfl enter64 (Qk3 2000  _ hf1) rfl rfl nl0 (nld Qae _) rfl, Qa8 (vs := [I 0, I 10, I 20, I 30]) rfl Try.underlying23 ti3 tz3 rfl (by decide) rfl (by decide) (by rfl) (by rfl) (by rfl) rfl, apc (first := []) (cap := []) (vs := [(z48_0 x2), Qvv]) rfl enter36 (Qo4 N x2 ([0, 10, 20, 30]) _ hf3) rfl rfl (nlc (nld Qae _) (nlc (nld Qaa _) nl0)) (NLt.tup _ (nlc (nld Qaa _) (nlc nll (nlc nll nl0)))) rfl, trivial⟩ ?_
  obtain ⟨x6, hf5, h⟩ := bno h
  obtain ⟨x8, hf7, h⟩ := bno h
  refine wx tbk [(0, rp [fu 64] (z48_3 x6)), (1, rp [ci 0, ci 10, ci 20, ci 30] Qvv), (2, rp [fu 22, (.tmp 21, (z48_3 x6)), (.tmp 22, Qvv), ci 60] (.tup [(Qgi x8), I x8.2.1, I x8.2.2]))] ⟨apc (first := []) (cap := []) (vs := []) rfl enter64 (Qk3 2000  _ hf5) rfl rfl nl0 (nld Qae _) rfl, Qa8 (vs := [I 0, I 10, I 20, I 30]) rfl Try.underlying23 ti3 tz3 rfl (by decide) rfl (by decide) (by rfl) (by rfl) (by rfl) rfl, apc (first := []) (cap := []) (vs := [(z48_3 x6), Qvv, I 60]) rfl enter22 (Qo3 N x6 ([0, 10, 20, 30]) 60 _ hf7) rfl rfl (nlc (nld Qae _) (nlc (nld Qaa _) (nlc nll nl0))) (NLt.tup _ (nlc (nld Qhs _) (nlc nll (nlc nll nl0)))) rfl, trivial⟩ ?_
  obtain ⟨x10, hf9, h⟩ := bno h
  refine wx tbk [(0, rp [ci 100, ci 50] z48_5), (1, rp [fu 47, (.tmp 28, z48_5)] (.tup [(Qxd x10), I x10.2]))] ⟨Qbk (vs := [I 100, I 50]) rfl ts96 tz96 rfl (by rfl) rfl, apc (first := []) (cap := []) (vs := [z48_5]) rfl enter47 (Qm7 N (⟨100, 50⟩ : GMeter) _ hf9) rfl rfl (nlc (NLt.agg _ (nlc nll (nlc nll nl0))) nl0) (NLt.tup _ (nlc (NLt.agg _ (nlc nll (nlc nll nl0))) (nlc nll nl0))) rfl, trivial⟩ ?_
  obtain ⟨x12, hf11, h⟩ := bno h
  obtain ⟨x14, hf13, h⟩ := bno h
  refine wx tbk [(0, rp [fu 65] (Qxe x12)), (1, rp [fu 30, (.tmp 33, (Qxe x12))] (.tup [(Qnm x14), (.dat 1 ((x14.2.1 : List Int).map Qab)), I x14.2.2.1, I x14.2.2.2]))] ⟨apc (first := []) (cap := []) (vs := []) rfl enter65 (Qqt 2000  _ hf11) rfl rfl nl0 (NLt.agg _ (nlc nll (nlc nll (nlc (nld Qac _) nl0)))) rfl, apc (first := []) (cap := []) (vs := [(Qxe x12)]) rfl Qtl (Qmd N x12 _ hf13) rfl rfl (nlc (NLt.agg _ (nlc nll (nlc nll (nlc (nld Qac _) nl0)))) nl0) (NLt.tup _ (nlc (nld Qaa _) (nlc (nld Qaa _) (nlc nll (nlc nll nl0))))) rfl, trivial⟩ ?_
  rcases bft ((x4.2.2 == 0)) with hb15 | hb15
  ·replace h := Qar hb15 h
   rcases bft ((x8.2.2 == 0)) with hb16 | hb16
   ·replace h := Qar hb16 h
    rcases bft ((x10.2 == 0)) with hb17 | hb17
    ·replace h := Qar hb17 h
     rcases bft ((x14.2.2.2 == 0)) with hb18 | hb18
     ·replace h := Qar hb18 h
      obtain ⟨x20, hf19, h⟩ := bno h
      rcases bft (x20) with hb21 | hb21
      ·replace h := Qar hb21 h
       rcases bft (((x8.1.length : Int) == 4)) with hb22 | hb22
       ·replace h := Qar hb22 h
        obtain ⟨x23, hg24, h⟩ := bno h
        obtain ⟨hi25, hj26⟩ := gsm hg24
        rcases bft (x23) with hb27 | hb27
        ·replace h := Qar hb27 h
         obtain ⟨x28, hg29, h⟩ := bno h
         obtain ⟨hi30, hj31⟩ := gsm hg29
         rcases bft ((!x28)) with hb32 | hb32
         ·replace h := Qar hb32 h
          obtain ⟨x33, hg34, h⟩ := bno h
          obtain ⟨hi35, hj36⟩ := gsm hg34
          rcases bft (x33) with hb37 | hb37
          ·replace h := Qar hb37 h
           rcases bft ((x8.2.1 == 47)) with hb38 | hb38
           ·replace h := Qar hb38 h
            rcases bft ((([x10.1.Lo, x10.1.Hi] : List Int) == [96, 105])) with hb39 | hb39
            ·replace h := Qar hb39 h
             obtain ⟨x41, hf40, h⟩ := bno h
             rcases bft (x41) with hb42 | hb42
             ·replace h := Qar hb42 h
              rcases bft (((x14.2.1.length : Int) == 3)) with hb43 | hb43
              ·replace h := Qar hb43 h
               refine wx tbk [(2, rp [(.tmp 40, (B ((x4.2.2 == 0))))] (B true)), (6, rp [(.tmp 44, (B ((x8.2.2 == 0))))] (B true)), (10, rp [(.tmp 48, (B ((x10.2 == 0))))] (B true)), (14, rp [(.tmp 52, (B ((x14.2.2.2 == 0))))] (B true)), (16, rp [(.tmp 53, B true), ci 70, ci 70, ci 23, ci 32] Qez), (17, rp [(.tmp 53, B true), fu 66, (.tmp 54, (Qij x4)), (.tmp 55, Qez)] (B x20)), (19, rp [(.tmp 57, B x20)] (B true)), (21, rp [(.tmp 58, B true), (.tmp 59, (Qgi x8))] (I ((x8.1.length : Int)))), (24, rp [(.tmp 62, (B (((x8.1.length : Int) == 4))))] (B true)), (26, rp [(.tmp 63, B true), (.tmp 64, (Qgi x8)), ci 1] (.dptr (Qbs (x23)) 0)), (29, rp [(.tmp 67, B x23)] (B true)), (31, rp [(.tmp 68, B true), (.tmp 69, (Qgi x8)), ci 2] (.dptr (Qbs (x28)) 0)), (35, rp [(.tmp 73, (B ((!x28))))] (B true)), (37, rp [(.tmp 74, B true), (.tmp 75, (Qgi x8)), ci 3] (.dptr (Qbs (x33)) 0)), (40, rp [(.tmp 78, B x33)] (B true)), (44, rp [(.tmp 82, (B ((x8.2.1 == 47))))] (B true)), (46, rp [(.tmp 83, B true), ci 96, ci 105] Qmt), (47, rp [(.tmp 83, B true), (.tmp 84, (Qxd x10)), (.tmp 85, Qmt)] (B ((([x10.1.Lo, x10.1.Hi] : List Int) == [96, 105])))), (49, rp [(.tmp 87, (B ((([x10.1.Lo, x10.1.Hi] : List Int) == [96, 105]))))] (B true)), (51, rp [(.tmp 88, B true), ci 15, ci 0, ci 4] Qll), (52, rp [(.tmp 88, B true), fu 66, (.tmp 89, (Qnm x14)), (.tmp 90, Qll)] (B x41)), (54, rp [(.tmp 92, B x41)] (B true)), (56, rp [(.tmp 93, B true), (.tmp 94, (.dat 1 ((x14.2.1 : List Int).map Qab)))] (I ((x14.2.1.length : Int)))), (59, rp [(.tmp 97, (B (((x14.2.1.length : Int) == 3))))] (B true))] ⟨asb hb15 (amv rfl), asb hb16 (amv rfl), asb hb17 (amv rfl), asb hb18 (amv rfl), ag_ (Qa8 (vs := [I 70, I 70, I 23, I 32]) rfl Try.underlying23 ti3 tz3 rfl (by decide) rfl (by decide) (by rfl) (by rfl) (by rfl) rfl), ag_ (apc (first := []) (cap := []) (vs := [(Qij x4), Qez]) rfl Qg9 (Qc4 N x4.1 ([70, 70, 23, 32]) _ hf19) rfl rfl (nlc (nld Qaa _) (nlc (nld Qaa _) nl0)) nll rfl), asb hb21 (amv rfl), ag_ (alm (c := Qbs) (l := x8.1) (aln rfl Try.underlying26 rfl)), asb hb22 (amv rfl), ag_ (aid rfl Try.underlying26 ti4 rfl rfl hi25 (mgt Qbs hj26) rfl), asb hb27 (amv rfl), ag_ (aid rfl Try.underlying26 ti4 rfl rfl hi30 (mgt Qbs hj31) rfl), asb hb32 (amv rfl), ag_ (aid rfl Try.underlying26 ti4 rfl rfl hi35 (mgt Qbs hj36) rfl), asb hb37 (amv rfl), asb hb38 (amv rfl), ag_ (Qbk (vs := [I 96, I 105]) rfl ts93 tz93 rfl (by rfl) rfl), ag_ (Ql2 (ls := [x10.1.Lo, x10.1.Hi]) (ks := [96, 105]) rfl rfl eqt93 (by kernel_rfl) rfl rfl), asb hb39 (amv rfl), ag_ (Qa8 (vs := [I 15, I 0, I 4]) rfl Try.underlying23 ti3 tz3 rfl (by decide) rfl (by decide) (by rfl) (by rfl) (by rfl) rfl), ag_ (apc (first := []) (cap := []) (vs := [(Qnm x14), Qll]) rfl Qg9 (Qc4 N x14.1 ([15, 0, 4]) _ hf40) rfl rfl (nlc (nld Qaa _) (nlc (nld Qaa _) nl0)) nll rfl), asb hb42 (amv rfl), ag_ (alm (c := Qab) (l := x14.2.1) (aln rfl Try.underlying23 rfl)), asb hb43 (amv rfl), trivial⟩ ?_
               refine Qah ?_
               obtain rfl := osi h
               exact fend ⟨[(B ((x14.2.2.1 == 23)))], ⟨rot (by kernel_rfl), trivial⟩, rfl⟩ nll
              ·replace h := Qas hb43 h
               refine wx tbk [(2, rp [(.tmp 40, (B ((x4.2.2 == 0))))] (B true)), (6, rp [(.tmp 44, (B ((x8.2.2 == 0))))] (B true)), (10, rp [(.tmp 48, (B ((x10.2 == 0))))] (B true)), (14, rp [(.tmp 52, (B ((x14.2.2.2 == 0))))] (B true)), (16, rp [(.tmp 53, B true), ci 70, ci 70, ci 23, ci 32] Qez), (17, rp [(.tmp 53, B true), fu 66, (.tmp 54, (Qij x4)), (.tmp 55, Qez)] (B x20)), (19, rp [(.tmp 57, B x20)] (B true)), (21, rp [(.tmp 58, B true), (.tmp 59, (Qgi x8))] (I ((x8.1.length : Int)))), (24, rp [(.tmp 62, (B (((x8.1.length : Int) == 4))))] (B true)), (26, rp [(.tmp 63, B true), (.tmp 64, (Qgi x8)), ci 1] (.dptr (Qbs (x23)) 0)), (29, rp [(.tmp 67, B x23)] (B true)), (31, rp [(.tmp 68, B true), (.tmp 69, (Qgi x8)), ci 2] (.dptr (Qbs (x28)) 0)), (35, rp [(.tmp 73, (B ((!x28))))] (B true)), (37, rp [(.tmp 74, B true), (.tmp 75, (Qgi x8)), ci 3] (.dptr (Qbs (x33)) 0)), (40, rp [(.tmp 78, B x33)] (B true)), (44, rp [(.tmp 82, (B ((x8.2.1 == 47))))] (B true)), (46, rp [(.tmp 83, B true), ci 96, ci 105] Qmt), (47, rp [(.tmp 83, B true), (.tmp 84, (Qxd x10)), (.tmp 85, Qmt)] (B ((([x10.1.Lo, x10.1.Hi] : List Int) == [96, 105])))), (49, rp [(.tmp 87, (B ((([x10.1.Lo, x10.1.Hi] : List Int) == [96, 105]))))] (B true)), (51, rp [(.tmp 88, B true), ci 15, ci 0, ci 4] Qll), (52, rp [(.tmp 88, B true), fu 66, (.tmp 89, (Qnm x14)), (.tmp 90, Qll)] (B x41)), (54, rp [(.tmp 92, B x41)] (B true)), (56, rp [(.tmp 93, B true), (.tmp 94, (.dat 1 ((x14.2.1 : List Int).map Qab)))] (I ((x14.2.1.length : Int)))), (59, rp [(.tmp 97, (B (((x14.2.1.length : Int) == 3))))] (B false))] ⟨asb hb15 (amv rfl), asb hb16 (amv rfl), asb hb17 (amv rfl), asb hb18 (amv rfl), ag_ (Qa8 (vs := [I 70, I 70, I 23, I 32]) rfl Try.underlying23 ti3 tz3 rfl (by decide) rfl (by decide) (by rfl) (by rfl) (by rfl) rfl), ag_ (apc (first := []) (cap := []) (vs := [(Qij x4), Qez]) rfl Qg9 (Qc4 N x4.1 ([70, 70, 23, 32]) _ hf19) rfl rfl (nlc (nld Qaa _) (nlc (nld Qaa _) nl0)) nll rfl), asb hb21 (amv rfl), ag_ (alm (c := Qbs) (l := x8.1) (aln rfl Try.underlying26 rfl)), asb hb22 (amv rfl), ag_ (aid rfl Try.underlying26 ti4 rfl rfl hi25 (mgt Qbs hj26) rfl), asb hb27 (amv rfl), ag_ (aid rfl Try.underlying26 ti4 rfl rfl hi30 (mgt Qbs hj31) rfl), asb hb32 (amv rfl), ag_ (aid rfl Try.underlying26 ti4 rfl rfl hi35 (mgt Qbs hj36) rfl), asb hb37 (amv rfl), asb hb38 (amv rfl), ag_ (Qbk (vs := [I 96, I 105]) rfl ts93 tz93 rfl (by rfl) rfl), ag_ (Ql2 (ls := [x10.1.Lo, x10.1.Hi]) (ks := [96, 105]) rfl rfl eqt93 (by kernel_rfl) rfl rfl), asb hb39 (amv rfl), ag_ (Qa8 (vs := [I 15, I 0, I 4]) rfl Try.underlying23 ti3 tz3 rfl (by decide) rfl (by decide) (by rfl) (by rfl) (by rfl) rfl), ag_ (apc (first := []) (cap := []) (vs := [(Qnm x14), Qll]) rfl Qg9 (Qc4 N x14.1 ([15, 0, 4]) _ hf40) rfl rfl (nlc (nld Qaa _) (nlc (nld Qaa _) nl0)) nll rfl), asb hb42 (amv rfl), ag_ (alm (c := Qab) (l := x14.2.1) (aln rfl Try.underlying23 rfl)), asb hb43 (amv rfl), trivial⟩ ?_
               refine Qah ?_
               obtain rfl := osi h
               exact fend ⟨[B false], ⟨rot (by kernel_rfl), trivial⟩, rfl⟩ nll
             ·replace h := Qas hb42 h
              refine wx tbk [(2, rp [(.tmp 40, (B ((x4.2.2 == 0))))] (B true)), (6, rp [(.tmp 44, (B ((x8.2.2 == 0))))] (B true)), (10, rp [(.tmp 48, (B ((x10.2 == 0))))] (B true)), (14, rp [(.tmp 52, (B ((x14.2.2.2 == 0))))] (B true)), (16, rp [(.tmp 53, B true), ci 70, ci 70, ci 23, ci 32] Qez), (17, rp [(.tmp 53, B true), fu 66, (.tmp 54, (Qij x4)), (.tmp 55, Qez)] (B x20)), (19, rp [(.tmp 57, B x20)] (B true)), (21, rp [(.tmp 58, B true), (.tmp 59, (Qgi x8))] (I ((x8.1.length : Int)))), (24, rp [(.tmp 62, (B (((x8.1.length : Int) == 4))))] (B true)), (26, rp [(.tmp 63, B true), (.tmp 64, (Qgi x8)), ci 1] (.dptr (Qbs (x23)) 0)), (29, rp [(.tmp 67, B x23)] (B true)), (31, rp [(.tmp 68, B true), (.tmp 69, (Qgi x8)), ci 2] (.dptr (Qbs (x28)) 0)), (35, rp [(.tmp 73, (B ((!x28))))] (B true)), (37, rp [(.tmp 74, B true), (.tmp 75, (Qgi x8)), ci 3] (.dptr (Qbs (x33)) 0)), (40, rp [(.tmp 78, B x33)] (B true)), (44, rp [(.tmp 82, (B ((x8.2.1 == 47))))] (B true)), (46, rp [(.tmp 83, B true), ci 96, ci 105] Qmt), (47, rp [(.tmp 83, B true), (.tmp 84, (Qxd x10)), (.tmp 85, Qmt)] (B ((([x10.1.Lo, x10.1.Hi] : List Int) == [96, 105])))), (49, rp [(.tmp 87, (B ((([x10.1.Lo, x10.1.Hi] : List Int) == [96, 105]))))] (B true)), (51, rp [(.tmp 88, B true), ci 15, ci 0, ci 4] Qll), (52, rp [(.tmp 88, B true), fu 66, (.tmp 89, (Qnm x14)), (.tmp 90, Qll)] (B x41)), (54, rp [(.tmp 92, B x41)] (B false))] ⟨asb hb15 (amv rfl), asb hb16 (amv rfl), asb hb17 (amv rfl), asb hb18 (amv rfl), ag_ (Qa8 (vs := [I 70, I 70, I 23, I 32]) rfl Try.underlying23 ti3 tz3 rfl (by decide) rfl (by decide) (by rfl) (by rfl) (by rfl) rfl), ag_ (apc (first := []) (cap := []) (vs := [(Qij x4), Qez]) rfl Qg9 (Qc4 N x4.1 ([70, 70, 23, 32]) _ hf19) rfl rfl (nlc (nld Qaa _) (nlc (nld Qaa _) nl0)) nll rfl), asb hb21 (amv rfl), ag_ (alm (c := Qbs) (l := x8.1) (aln rfl Try.underlying26 rfl)), asb hb22 (amv rfl), ag_ (aid rfl Try.underlying26 ti4 rfl rfl hi25 (mgt Qbs hj26) rfl), asb hb27 (amv rfl), ag_ (aid rfl Try.underlying26 ti4 rfl rfl hi30 (mgt Qbs hj31) rfl), asb hb32 (amv rfl), ag_ (aid rfl Try.underlying26 ti4 rfl rfl hi35 (mgt Qbs hj36) rfl), asb hb37 (amv rfl), asb hb38 (amv rfl), ag_ (Qbk (vs := [I 96, I 105]) rfl ts93 tz93 rfl (by rfl) rfl), ag_ (Ql2 (ls := [x10.1.Lo, x10.1.Hi]) (ks := [96, 105]) rfl rfl eqt93 (by kernel_rfl) rfl rfl), asb hb39 (amv rfl), ag_ (Qa8 (vs := [I 15, I 0, I 4]) rfl Try.underlying23 ti3 tz3 rfl (by decide) rfl (by decide) (by rfl) (by rfl) (by rfl) rfl), ag_ (apc (first := []) (cap := []) (vs := [(Qnm x14), Qll]) rfl Qg9 (Qc4 N x14.1 ([15, 0, 4]) _ hf40) rfl rfl (nlc (nld Qaa _) (nlc (nld Qaa _) nl0)) nll rfl), asb hb42 (amv rfl), trivial⟩ ?_
              refine Qah ?_
              obtain rfl := osi h
              exact fend ⟨[B false], ⟨rot (by kernel_rfl), trivial⟩, rfl⟩ nll
            ·replace h := Qas hb39 h
             refine wx tbk [(2, rp [(.tmp 40, (B ((x4.2.2 == 0))))] (B true)), (6, rp [(.tmp 44, (B ((x8.2.2 == 0))))] (B true)), (10, rp [(.tmp 48, (B ((x10.2 == 0))))] (B true)), (14, rp [(.tmp 52, (B ((x14.2.2.2 == 0))))] (B true)), (16, rp [(.tmp 53, B true), ci 70, ci 70, ci 23, ci 32] Qez), (17, rp [(.tmp 53, B true), fu 66, (.tmp 54, (Qij x4)), (.tmp 55, Qez)] (B x20)), (19, rp [(.tmp 57, B x20)] (B true)), (21, rp [(.tmp 58, B true), (.tmp 59, (Qgi x8))] (I ((x8.1.length : Int)))), (24, rp [(.tmp 62, (B (((x8.1.length : Int) == 4))))] (B true)), (26, rp [(.tmp 63, B true), (.tmp 64, (Qgi x8)), ci 1] (.dptr (Qbs (x23)) 0)), (29, rp [(.tmp 67, B x23)] (B true)), (31, rp [(.tmp 68, B true), (.tmp 69, (Qgi x8)), ci 2] (.dptr (Qbs (x28)) 0)), (35, rp [(.tmp 73, (B ((!x28))))] (B true)), (37, rp [(.tmp 74, B true), (.tmp 75, (Qgi x8)), ci 3] (.dptr (Qbs (x33)) 0)), (40, rp [(.tmp 78, B x33)] (B true)), (44, rp [(.tmp 82, (B ((x8.2.1 == 47))))] (B true)), (46, rp [(.tmp 83, B true), ci 96, ci 105] Qmt), (47, rp [(.tmp 83, B true), (.tmp 84, (Qxd x10)), (.tmp 85, Qmt)] (B ((([x10.1.Lo, x10.1.Hi] : List Int) == [96, 105])))), (49, rp [(.tmp 87, (B ((([x10.1.Lo, x10.1.Hi] : List Int) == [96, 105]))))] (B false))] ⟨asb hb15 (amv rfl), asb hb16 (amv rfl), asb hb17 (amv rfl), asb hb18 (amv rfl), ag_ (Qa8 (vs := [I 70, I 70, I 23, I 32]) rfl Try.underlying23 ti3 tz3 rfl (by decide) rfl (by decide) (by rfl) (by rfl) (by rfl) rfl), ag_ (apc (first := []) (cap := []) (vs := [(Qij x4), Qez]) rfl Qg9 (Qc4 N x4.1 ([70, 70, 23, 32]) _ hf19) rfl rfl (nlc (nld Qaa _) (nlc (nld Qaa _) nl0)) nll rfl), asb hb21 (amv rfl), ag_ (alm (c := Qbs) (l := x8.1) (aln rfl Try.underlying26 rfl)), asb hb22 (amv rfl), ag_ (aid rfl Try.underlying26 ti4 rfl rfl hi25 (mgt Qbs hj26) rfl), asb hb27 (amv rfl), ag_ (aid rfl Try.underlying26 ti4 rfl rfl hi30 (mgt Qbs hj31) rfl), asb hb32 (amv rfl), ag_ (aid rfl Try.underlying26 ti4 rfl rfl hi35 (mgt Qbs hj36) rfl), asb hb37 (amv rfl), asb hb38 (amv rfl), ag_ (Qbk (vs := [I 96, I 105]) rfl ts93 tz93 rfl (by rfl) rfl), ag_ (Ql2 (ls := [x10.1.Lo, x10.1.Hi]) (ks := [96, 105]) rfl rfl eqt93 (by kernel_rfl) rfl rfl), asb hb39 (amv rfl), trivial⟩ ?_
             refine Qah ?_
             obtain rfl := osi h
             exact fend ⟨[B false], ⟨rot (by kernel_rfl), trivial⟩, rfl⟩ nll
           ·replace h := Qas hb38 h
            refine wx tbk [(2, rp [(.tmp 40, (B ((x4.2.2 == 0))))] (B true)), (6, rp [(.tmp 44, (B ((x8.2.2 == 0))))] (B true)), (10, rp [(.tmp 48, (B ((x10.2 == 0))))] (B true)), (14, rp [(.tmp 52, (B ((x14.2.2.2 == 0))))] (B true)), (16, rp [(.tmp 53, B true), ci 70, ci 70, ci 23, ci 32] Qez), (17, rp [(.tmp 53, B true), fu 66, (.tmp 54, (Qij x4)), (.tmp 55, Qez)] (B x20)), (19, rp [(.tmp 57, B x20)] (B true)), (21, rp [(.tmp 58, B true), (.tmp 59, (Qgi x8))] (I ((x8.1.length : Int)))), (24, rp [(.tmp 62, (B (((x8.1.length : Int) == 4))))] (B true)), (26, rp [(.tmp 63, B true), (.tmp 64, (Qgi x8)), ci 1] (.dptr (Qbs (x23)) 0)), (29, rp [(.tmp 67, B x23)] (B true)), (31, rp [(.tmp 68, B true), (.tmp 69, (Qgi x8)), ci 2] (.dptr (Qbs (x28)) 0)), (35, rp [(.tmp 73, (B ((!x28))))] (B true)), (37, rp [(.tmp 74, B true), (.tmp 75, (Qgi x8)), ci 3] (.dptr (Qbs (x33)) 0)), (40, rp [(.tmp 78, B x33)] (B true)), (44, rp [(.tmp 82, (B ((x8.2.1 == 47))))] (B false))] ⟨asb hb15 (amv rfl), asb hb16 (amv rfl), asb hb17 (amv rfl), asb hb18 (amv rfl), ag_ (Qa8 (vs := [I 70, I 70, I 23, I 32]) rfl Try.underlying23 ti3 tz3 rfl (by decide) rfl (by decide) (by rfl) (by rfl) (by rfl) rfl), ag_ (apc (first := []) (cap := []) (vs := [(Qij x4), Qez]) rfl Qg9 (Qc4 N x4.1 ([70, 70, 23, 32]) _ hf19) rfl rfl (nlc (nld Qaa _) (nlc (nld Qaa _) nl0)) nll rfl), asb hb21 (amv rfl), ag_ (alm (c := Qbs) (l := x8.1) (aln rfl Try.underlying26 rfl)), asb hb22 (amv rfl), ag_ (aid rfl Try.underlying26 ti4 rfl rfl hi25 (mgt Qbs hj26) rfl), asb hb27 (amv rfl), ag_ (aid rfl Try.underlying26 ti4 rfl rfl hi30 (mgt Qbs hj31) rfl), asb hb32 (amv rfl), ag_ (aid rfl Try.underlying26 ti4 rfl rfl hi35 (mgt Qbs hj36) rfl), asb hb37 (amv rfl), asb hb38 (amv rfl), trivial⟩ ?_
            refine Qah ?_
            obtain rfl := osi h
            exact fend ⟨[B false], ⟨rot (by kernel_rfl), trivial⟩, rfl⟩ nll
          ·replace h := Qas hb37 h
           refine wx tbk [(2, rp [(.tmp 40, (B ((x4.2.2 == 0))))] (B true)), (6, rp [(.tmp 44, (B ((x8.2.2 == 0))))] (B true)), (10, rp [(.tmp 48, (B ((x10.2 == 0))))] (B true)), (14, rp [(.tmp 52, (B ((x14.2.2.2 == 0))))] (B true)), (16, rp [(.tmp 53, B true), ci 70, ci 70, ci 23, ci 32] Qez), (17, rp [(.tmp 53, B true), fu 66, (.tmp 54, (Qij x4)), (.tmp 55, Qez)] (B x20)), (19, rp [(.tmp 57, B x20)] (B true)), (21, rp [(.tmp 58, B true), (.tmp 59, (Qgi x8))] (I ((x8.1.length : Int)))), (24, rp [(.tmp 62, (B (((x8.1.length : Int) == 4))))] (B true)), (26, rp [(.tmp 63, B true), (.tmp 64, (Qgi x8)), ci 1] (.dptr (Qbs (x23)) 0)), (29, rp [(.tmp 67, B x23)] (B true)), (31, rp [(.tmp 68, B true), (.tmp 69, (Qgi x8)), ci 2] (.dptr (Qbs (x28)) 0)), (35, rp [(.tmp 73, (B ((!x28))))] (B true)), (37, rp [(.tmp 74, B true), (.tmp 75, (Qgi x8)), ci 3] (.dptr (Qbs (x33)) 0)), (40, rp [(.tmp 78, B x33)] (B false))] ⟨asb hb15 (amv rfl), asb hb16 (amv rfl), asb hb17 (amv rfl), asb hb18 (amv rfl), ag_ (Qa8 (vs := [I 70, I 70, I 23, I 32]) rfl Try.underlying23 ti3 tz3 rfl (by decide) rfl (by decide) (by rfl) (by rfl) (by rfl) rfl), ag_ (apc (first := []) (cap := []) (vs := [(Qij x4), Qez]) rfl Qg9 (Qc4 N x4.1 ([70, 70, 23, 32]) _ hf19) rfl rfl (nlc (nld Qaa _) (nlc (nld Qaa _) nl0)) nll rfl), asb hb21 (amv rfl), ag_ (alm (c := Qbs) (l := x8.1) (aln rfl Try.underlying26 rfl)), asb hb22 (amv rfl), ag_ (aid rfl Try.underlying26 ti4 rfl rfl hi25 (mgt Qbs hj26) rfl), asb hb27 (amv rfl), ag_ (aid rfl Try.underlying26 ti4 rfl rfl hi30 (mgt Qbs hj31) rfl), asb hb32 (amv rfl), ag_ (aid rfl Try.underlying26 ti4 rfl rfl hi35 (mgt Qbs hj36) rfl), asb hb37 (amv rfl), trivial⟩ ?_
           refine Qah ?_
           obtain rfl := osi h
           exact fend ⟨[B false], ⟨rot (by kernel_rfl), trivial⟩, rfl⟩ nll
         ·replace h := Qas hb32 h
          refine wx tbk [(2, rp [(.tmp 40, (B ((x4.2.2 == 0))))] (B true)), (6, rp [(.tmp 44, (B ((x8.2.2 == 0))))] (B true)), (10, rp [(.tmp 48, (B ((x10.2 == 0))))] (B true)), (14, rp [(.tmp 52, (B ((x14.2.2.2 == 0))))] (B true)), (16, rp [(.tmp 53, B true), ci 70, ci 70, ci 23, ci 32] Qez), (17, rp [(.tmp 53, B true), fu 66, (.tmp 54, (Qij x4)), (.tmp 55, Qez)] (B x20)), (19, rp [(.tmp 57, B x20)] (B true)), (21, rp [(.tmp 58, B true), (.tmp 59, (Qgi x8))] (I ((x8.1.length : Int)))), (24, rp [(.tmp 62, (B (((x8.1.length : Int) == 4))))] (B true)), (26, rp [(.tmp 63, B true), (.tmp 64, (Qgi x8)), ci 1] (.dptr (Qbs (x23)) 0)), (29, rp [(.tmp 67, B x23)] (B true)), (31, rp [(.tmp 68, B true), (.tmp 69, (Qgi x8)), ci 2] (.dptr (Qbs (x28)) 0)), (35, rp [(.tmp 73, (B ((!x28))))] (B false))] ⟨asb hb15 (amv rfl), asb hb16 (amv rfl), asb hb17 (amv rfl), asb hb18 (amv rfl), ag_ (Qa8 (vs := [I 70, I 70, I 23, I 32]) rfl Try.underlying23 ti3 tz3 rfl (by decide) rfl (by decide) (by rfl) (by rfl) (by rfl) rfl), ag_ (apc (first := []) (cap := []) (vs := [(Qij x4), Qez]) rfl Qg9 (Qc4 N x4.1 ([70, 70, 23, 32]) _ hf19) rfl rfl (nlc (nld Qaa _) (nlc (nld Qaa _) nl0)) nll rfl), asb hb21 (amv rfl), ag_ (alm (c := Qbs) (l := x8.1) (aln rfl Try.underlying26 rfl)), asb hb22 (amv rfl), ag_ (aid rfl Try.underlying26 ti4 rfl rfl hi25 (mgt Qbs hj26) rfl), asb hb27 (amv rfl), ag_ (aid rfl Try.underlying26 ti4 rfl rfl hi30 (mgt Qbs hj31) rfl), asb hb32 (amv rfl), trivial⟩ ?_
          refine Qah ?_
          obtain rfl := osi h
          exact fend ⟨[B false], ⟨rot (by kernel_rfl), trivial⟩, rfl⟩ nll
        ·replace h := Qas hb27 h
         refine wx tbk [(2, rp [(.tmp 40, (B ((x4.2.2 == 0))))] (B true)), (6, rp [(.tmp 44, (B ((x8.2.2 == 0))))] (B true)), (10, rp [(.tmp 48, (B ((x10.2 == 0))))] (B true)), (14, rp [(.tmp 52, (B ((x14.2.2.2 == 0))))] (B true)), (16, rp [(.tmp 53, B true), ci 70, ci 70, ci 23, ci 32] Qez), (17, rp [(.tmp 53, B true), fu 66, (.tmp 54, (Qij x4)), (.tmp 55, Qez)] (B x20)), (19, rp [(.tmp 57, B x20)] (B true)), (21, rp [(.tmp 58, B true), (.tmp 59, (Qgi x8))] (I ((x8.1.length : Int)))), (24, rp [(.tmp 62, (B (((x8.1.length : Int) == 4))))] (B true)), (26, rp [(.tmp 63, B true), (.tmp 64, (Qgi x8)), ci 1] (.dptr (Qbs (x23)) 0)), (29, rp [(.tmp 67, B x23)] (B false))] ⟨asb hb15 (amv rfl), asb hb16 (amv rfl), asb hb17 (amv rfl), asb hb18 (amv rfl), ag_ (Qa8 (vs := [I 70, I 70, I 23, I 32]) rfl Try.underlying23 ti3 tz3 rfl (by decide) rfl (by decide) (by rfl) (by rfl) (by rfl) rfl), ag_ (apc (first := []) (cap := []) (vs := [(Qij x4), Qez]) rfl Qg9 (Qc4 N x4.1 ([70, 70, 23, 32]) _ hf19) rfl rfl (nlc (nld Qaa _) (nlc (nld Qaa _) nl0)) nll rfl), asb hb21 (amv rfl), ag_ (alm (c := Qbs) (l := x8.1) (aln rfl Try.underlying26 rfl)), asb hb22 (amv rfl), ag_ (aid rfl Try.underlying26 ti4 rfl rfl hi25 (mgt Qbs hj26) rfl), asb hb27 (amv rfl), trivial⟩ ?_
         refine Qah ?_
         obtain rfl := osi h
         exact fend ⟨[B false], ⟨rot (by kernel_rfl), trivial⟩, rfl⟩ nll
       ·replace h := Qas hb22 h
        refine wx tbk [(2, rp [(.tmp 40, (B ((x4.2.2 == 0))))] (B true)), (6, rp [(.tmp 44, (B ((x8.2.2 == 0))))] (B true)), (10, rp [(.tmp 48, (B ((x10.2 == 0))))] (B true)), (14, rp [(.tmp 52, (B ((x14.2.2.2 == 0))))] (B true)), (16, rp [(.tmp 53, B true), ci 70, ci 70, ci 23, ci 32] Qez), (17, rp [(.tmp 53, B true), fu 66, (.tmp 54, (Qij x4)), (.tmp 55, Qez)] (B x20)), (19, rp [(.tmp 57, B x20)] (B true)), (21, rp [(.tmp 58, B true), (.tmp 59, (Qgi x8))] (I ((x8.1.length : Int)))), (24, rp [(.tmp 62, (B (((x8.1.length : Int) == 4))))] (B false))] ⟨asb hb15 (amv rfl), asb hb16 (amv rfl), asb hb17 (amv rfl), asb hb18 (amv rfl), ag_ (Qa8 (vs := [I 70, I 70, I 23, I 32]) rfl Try.underlying23 ti3 tz3 rfl (by decide) rfl (by decide) (by rfl) (by rfl) (by rfl) rfl), ag_ (apc (first := []) (cap := []) (vs := [(Qij x4), Qez]) rfl Qg9 (Qc4 N x4.1 ([70, 70, 23, 32]) _ hf19) rfl rfl (nlc (nld Qaa _) (nlc (nld Qaa _) nl0)) nll rfl), asb hb21 (amv rfl), ag_ (alm (c := Qbs) (l := x8.1) (aln rfl Try.underlying26 rfl)), asb hb22 (amv rfl), trivial⟩ ?_
        refine Qah ?_
        obtain rfl := osi h
        exact fend ⟨[B false], ⟨rot (by kernel_rfl), trivial⟩, rfl⟩ nll
      ·replace h := Qas hb21 h
       refine wx tbk [(2, rp [(.tmp 40, (B ((x4.2.2 == 0))))] (B true)), (6, rp [(.tmp 44, (B ((x8.2.2 == 0))))] (B true)), (10, rp [(.tmp 48, (B ((x10.2 == 0))))] (B true)), (14, rp [(.tmp 52, (B ((x14.2.2.2 == 0))))] (B true)), (16, rp [(.tmp 53, B true), ci 70, ci 70, ci 23, ci 32] Qez), (17, rp [(.tmp 53, B true), fu 66, (.tmp 54, (Qij x4)), (.tmp 55, Qez)] (B x20)), (19, rp [(.tmp 57, B x20)] (B false))] ⟨asb hb15 (amv rfl), asb hb16 (amv rfl), asb hb17 (amv rfl), asb hb18 (amv rfl), ag_ (Qa8 (vs := [I 70, I 70, I 23, I 32]) rfl Try.underlying23 ti3 tz3 rfl (by decide) rfl (by decide) (by rfl) (by rfl) (by rfl) rfl), ag_ (apc (first := []) (cap := []) (vs := [(Qij x4), Qez]) rfl Qg9 (Qc4 N x4.1 ([70, 70, 23, 32]) _ hf19) rfl rfl (nlc (nld Qaa _) (nlc (nld Qaa _) nl0)) nll rfl), asb hb21 (amv rfl), trivial⟩ ?_
       refine Qah ?_
       obtain rfl := osi h
       exact fend ⟨[B false], ⟨rot (by kernel_rfl), trivial⟩, rfl⟩ nll
     ·replace h := Qas hb18 h
      refine wx tbk [(2, rp [(.tmp 40, (B ((x4.2.2 == 0))))] (B true)), (6, rp [(.tmp 44, (B ((x8.2.2 == 0))))] (B true)), (10, rp [(.tmp 48, (B ((x10.2 == 0))))] (B true)), (14, rp [(.tmp 52, (B ((x14.2.2.2 == 0))))] (B false))] ⟨asb hb15 (amv rfl), asb hb16 (amv rfl), asb hb17 (amv rfl), asb hb18 (amv rfl), trivial⟩ ?_
      refine Qah ?_
      obtain rfl := osi h
      exact fend ⟨[B false], ⟨rot (by kernel_rfl), trivial⟩, rfl⟩ nll
    ·replace h := Qas hb17 h
     refine wx tbk [(2, rp [(.tmp 40, (B ((x4.2.2 == 0))))] (B true)), (6, rp [(.tmp 44, (B ((x8.2.2 == 0))))] (B true)), (10, rp [(.tmp 48, (B ((x10.2 == 0))))] (B false))] ⟨asb hb15 (amv rfl), asb hb16 (amv rfl), asb hb17 (amv rfl), trivial⟩ ?_
     refine Qah ?_
     obtain rfl := osi h
     exact fend ⟨[B false], ⟨rot (by kernel_rfl), trivial⟩, rfl⟩ nll
   ·replace h := Qas hb16 h
    refine wx tbk [(2, rp [(.tmp 40, (B ((x4.2.2 == 0))))] (B true)), (6, rp [(.tmp 44, (B ((x8.2.2 == 0))))] (B false))] ⟨asb hb15 (amv rfl), asb hb16 (amv rfl), trivial⟩ ?_
    refine Qah ?_
    obtain rfl := osi h
    exact fend ⟨[B false], ⟨rot (by kernel_rfl), trivial⟩, rfl⟩ nll
  ·replace h := Qas hb15 h
   refine wx tbk [(2, rp [(.tmp 40, (B ((x4.2.2 == 0))))] (B false))] ⟨asb hb15 (amv rfl), trivial⟩ ?_
   refine Qah ?_
   obtain rfl := osi h
   exact fend ⟨[B false], ⟨rot (by kernel_rfl), trivial⟩, rfl⟩ nll
def Qf6 (_N : Nat) (p0 : (List Int)) : Option (List Int) :=
  chk (decide ((([] : List Int).length + p0.length) * 8 ≤ 140737488355328)) <|
  some (([] : List Int) ++ p0)
def z52_0 : AV := .acc 0 3 1 ((([] : List Int) : List Int).map Qab)
def z52_2 (p0 : (List Int)) : AV := .acc 1 3 1 ((([] : List Int) ++ p0 : List Int).map Qab)
set_option maxRecDepth 100000 in
set_option maxHeartbeats 4000000 in
theorem Qeo (N : Nat) (p0 : (List Int)) (r : (List Int)) (h : Qf6 N p0 = some r) : Spec Try.prog 24 [(.dat 1 (p0.map Qab))] [] (.dat 1 (r.map Qab)) [] := by
  refine Qal Try.func24 rfl 0 (nle rfl) (fun X φ0 w0 hφ0 => ?_)
  unfold Qf6 at h
  refine wx tbk [] trivial ?_
  obtain ⟨ha1, h⟩ := cko h
  refine wx tbk [(0, ⟨[], [(0, .unused)], z52_0, [(0, .tok)], false⟩), (2, ⟨[(.tmp 3, z52_0), (.tmp 4, (.dat 1 ((p0 : List Int).map Qab)))], [(0, .tok), (1, .unused)], (z52_2 p0), [(0, .dead), (1, .tok)], false⟩)] ⟨Qjm rfl Try.underlying23 ti3 tz3, Qi6 rfl Try.underlying23 te3 (Base.acc _ _) rfl rfl (Qqp Qab Qte _) (Qmr Qab ha1) (Qmq Qab ha1 (by decide)) (Qmp Qab) rfl rfl, trivial⟩ ?_
  refine Qah ?_
  obtain rfl := osi h
  exact fend ⟨[(.dat 1 ((([] : List Int) ++ p0 : List Int).map Qab))], ⟨Qer (v := (z52_2 p0)) (rot (by kernel_rfl)) Less.acc, trivial⟩, rfl⟩ (nld Qaa _)
end Go.Proofs.Ytgdepcgbjjgnfaa
