/-
  Functions of the program: what they compute, as plain functions, and that they do. No conditions.
-/
import Derived.Test.YtgdepcgbjjgnfaaX4
namespace Go.Proofs.Ytgdepcgbjjgnfaa
open Go.RowKit
def Qi1 (_N : Nat) : Option (List GNode) :=
  some ([(⟨(-1), 0, 0, 0⟩ : GNode), (⟨0, 5, 100, 0⟩ : GNode), (⟨1, 3, 50, 2⟩ : GNode), (⟨1, 2, 60, 1⟩ : GNode)])
def z49_0 : AV := .agg [(I ((-1))), (I (0)), (I (0)), (I (0))]
def z49_1 : AV := .agg [(I (0)), (I (5)), (I (100)), (I (0))]
def z49_2 : AV := .agg [(I (1)), (I (3)), (I (50)), (I (2))]
def z49_3 : AV := .agg [(I (1)), (I (2)), (I (60)), (I (1))]
def z49_4 : AV := .dat 4 (([(⟨(-1), 0, 0, 0⟩ : GNode), (⟨0, 5, 100, 0⟩ : GNode), (⟨1, 3, 50, 2⟩ : GNode), (⟨1, 2, 60, 1⟩ : GNode)] : List GNode).map Qa0)
set_option maxRecDepth 100000 in
set_option maxHeartbeats 4000000 in
theorem Qkc (N : Nat) (r : (List GNode)) (h : Qi1 N = some r) : Spec Try.prog 64 [] [] (.dat 4 (r.map Qa0)) [] := by
  refine Qaj Try.func64 rfl 0 (nle rfl) (fun X φ0 w0 hφ0 => ?_)
  unfold Qi1 at h
  refine wx tbk [] trivial ?_
  refine wx tbk [(0, rp [ci (-1)] z49_0), (1, rp [ci 5, ci 100] z49_1), (2, rp [ci 1, ci 3, ci 50, ci 2] z49_2), (3, rp [ci 1, ci 2, ci 60, ci 1] z49_3), (4, rp [(.tmp 1, z49_0), (.tmp 2, z49_1), (.tmp 3, z49_2), (.tmp 4, z49_3)] z49_4)] ⟨Qbj (vs := [(I ((-1)))]) rfl ts141 Qu2 rfl (by rfl) rfl, Qbj (vs := [I 5, I 100]) rfl ts141 Qu2 rfl (by rfl) rfl, Qbj (vs := [I 1, I 3, I 50, I 2]) rfl ts141 Qu2 rfl (by rfl) rfl, Qbj (vs := [I 1, I 2, I 60, I 1]) rfl ts141 Qu2 rfl (by rfl) rfl, Qa9 (vs := [z49_0, z49_1, z49_2, z49_3]) rfl Try.underlying31 Qja Qu2 rfl (by decide) rfl (by decide) (by rfl) (by rfl) (by rfl) rfl, trivial⟩ ?_
  refine Qag ?_
  obtain rfl := osi h
  exact fend ⟨[z49_4], ⟨rot (by kernel_rfl), trivial⟩, rfl⟩ (nld Qad _)
def Qlw (_N : Nat) : Option GDay :=
  some (⟨10, 0, [(⟨5, [(⟨20, 1⟩ : GStair)]⟩ : GHour), (⟨8, [(⟨5, 4⟩ : GStair)]⟩ : GHour), (⟨6, [(⟨9, 2⟩ : GStair)]⟩ : GHour)]⟩ : GDay)
def z50_1 : AV := .agg [(I (20)), (I (1))]
def Quq : AV := .dat 2 (([(⟨20, 1⟩ : GStair)] : List GStair).map Qao)
def z50_3 : AV := .agg [(I (5)), (I (4))]
def Qup : AV := .dat 2 (([(⟨5, 4⟩ : GStair)] : List GStair).map Qao)
def z50_5 : AV := .agg [(I (9)), (I (2))]
def Quo : AV := .dat 2 (([(⟨9, 2⟩ : GStair)] : List GStair).map Qao)
def Qv5 : AV := .dat 2 (([(⟨5, [(⟨20, 1⟩ : GStair)]⟩ : GHour), (⟨8, [(⟨5, 4⟩ : GStair)]⟩ : GHour), (⟨6, [(⟨9, 2⟩ : GStair)]⟩ : GHour)] : List GHour).map Qal)
def z50_8 : AV := .agg [(I (10)), (I (0)), Qv5]
set_option maxRecDepth 100000 in
set_option maxHeartbeats 4000000 in
theorem Qpt (N : Nat) (r : GDay) (h : Qlw N = some r) : Spec Try.prog 65 [] [] (.agg (Qij r)) [] := by
  refine Qaj Try.func65 rfl 0 (nle rfl) (fun X φ0 w0 hφ0 => ?_)
  unfold Qlw at h
  refine wx tbk [] trivial ?_
  refine wx tbk [(0, rp [ci 20, ci 1] z50_1), (1, rp [(.tmp 1, z50_1)] Quq), (2, rp [ci 5, (.tmp 2, Quq)] (.agg [I 5, Quq])), (3, rp [ci 5, ci 4] z50_3), (4, rp [(.tmp 4, z50_3)] Qup), (5, rp [ci 8, (.tmp 5, Qup)] (.agg [I 8, Qup])), (6, rp [ci 9, ci 2] z50_5), (7, rp [(.tmp 7, z50_5)] Quo), (8, rp [ci 6, (.tmp 8, Quo)] (.agg [I 6, Quo])), (9, rp [(.tmp 3, (.agg [I 5, Quq])), (.tmp 6, (.agg [I 8, Qup])), (.tmp 9, (.agg [I 6, Quo]))] Qv5), (10, rp [ci 10, (.tmp 10, Qv5)] z50_8)] ⟨Qbj (vs := [I 20, I 1]) rfl ts64 tz64 rfl (by rfl) rfl, Qa9 (vs := [z50_1]) rfl Try.underlying60 ti64 tz64 rfl (by decide) rfl (by decide) (by rfl) (by rfl) (by rfl) rfl, Qbj (vs := [I 5, Quq]) rfl ts62 tz62 rfl (by rfl) rfl, Qbj (vs := [I 5, I 4]) rfl ts64 tz64 rfl (by rfl) rfl, Qa9 (vs := [z50_3]) rfl Try.underlying60 ti64 tz64 rfl (by decide) rfl (by decide) (by rfl) (by rfl) (by rfl) rfl, Qbj (vs := [I 8, Qup]) rfl ts62 tz62 rfl (by rfl) rfl, Qbj (vs := [I 9, I 2]) rfl ts64 tz64 rfl (by rfl) rfl, Qa9 (vs := [z50_5]) rfl Try.underlying60 ti64 tz64 rfl (by decide) rfl (by decide) (by rfl) (by rfl) (by rfl) rfl, Qbj (vs := [I 6, Quo]) rfl ts62 tz62 rfl (by rfl) rfl, Qa9 (vs := [(.agg [I 5, Quq]), (.agg [I 8, Qup]), (.agg [I 6, Quo])]) rfl Try.underlying45 ti62 tz62 rfl (by decide) rfl (by decide) (by rfl) (by rfl) (by rfl) rfl, Qbj (vs := [I 10, Qv5]) rfl ts47 tz47 rfl (by rfl) rfl, trivial⟩ ?_
  refine Qag ?_
  obtain rfl := osi h
  exact fend ⟨[z50_8], ⟨Qc5 (n := 0) (m := 3) (j := 0) (i := 0) (xs := [[I 10, I 0, Qv5]]) (by kernel_rfl) (by kernel_rfl) ti47 (by decide) rfl (nle rfl) rfl, trivial⟩, rfl⟩ (NLt.agg _ (nlc nll (nlc nll (nlc (nld Qab _) nl0))))
def Qfa (N : Nat) (p0 : (List Int)) (p1 : (List Int)) (k2 : Unit → Option Bool) : Nat → Int → Option Bool
  | 0, _ => none
  | n5 + 1, y3 =>
    bif (decide (y3 < (p0.length : Int))) then
     (getI p0 y3).bind fun x7 =>
     (getI p1 y3).bind fun x11 =>
     bif (x7 != x11) then
      some false
     else
      Qfa N p0 p1 k2 n5 (w64 (y3 + 1))
    else
     k2 ()
def Qi0 (N : Nat) (p0 : (List Int)) (p1 : (List Int)) : Option Bool :=
  bif ((p0.length : Int) != (p1.length : Int)) then
   some false
  else
   Qbw (fun _ =>
     some true) fun k2 : Unit → Option Bool =>
   Qfa N p0 p1 k2 N 0
def Qrs (p0 : (List Int)) : AV := .dat 1 ((p0 : List Int).map Qac)
def Qun (p1 : (List Int)) : AV := .dat 1 ((p1 : List Int).map Qac)
set_option maxRecDepth 100000 in
set_option maxHeartbeats 4000000 in
theorem Qcw (N : Nat) (p0 : (List Int)) (p1 : (List Int)) (r : Bool) (h : Qi0 N p0 p1 = some r) : Spec Try.prog 66 [(.dat 1 (p0.map Qac)), (.dat 1 (p1.map Qac))] [] (B r) [] := by
  refine Qaj Try.func66 rfl 0 (nle rfl) (fun X φ0 w0 hφ0 => ?_)
  unfold Qi0 at h
  refine wx tbk [] trivial ?_
  refine wsq ?_
  refine wx tbk [(1, rp [(.tmp 6, (Qrs p0))] (I ((p0.length : Int)))), (3, rp [(.tmp 8, (Qun p1))] (I ((p1.length : Int))))] ⟨alm (c := Qac) (l := p0) (aln rfl Try.underlying23 rfl), alm (c := Qac) (l := p1) (aln rfl Try.underlying23 rfl), trivial⟩ ?_
  rcases bft (((p0.length : Int) != (p1.length : Int))) with hc1 | hc1
  ·replace h := Qas hc1 h
   refine wft hc1 (by kernel_rfl) ?_
   refine wx tbk [] trivial ?_
   refine Qag ?_
   refine Qaf ?_
   obtain rfl := osi h
   exact fend ⟨[B false], ⟨rot (by kernel_rfl), trivial⟩, rfl⟩ nll
  ·replace h := Qat hc1 h
   refine wfn hc1 (by kernel_rfl) ?_
   refine Qah ?_
   refine thn ?_
   obtain ⟨k2, hk_k2, h⟩ := jko h
   refine wjn (τ := Unit) (fun t => k2 t = some r) (fun _ => ⟨mk 26 [], []⟩) (fun t h => ?_) ?_
   ·subst hk_k2
    refine wx tbk [] trivial ?_
    refine Qag ?_
    obtain rfl := osi h
    exact fend ⟨[B true], ⟨rot (by kernel_rfl), trivial⟩, rfl⟩ nll
   ·skip
    refine wx tbk [] trivial ?_
    refine Qai ?_
    refine wmr (mto (n := 26) (l' := [(0, (Qrs p0)), (1, (Qun p1)), (5, I 0)]) (own' := []) [(0, (Qrs p0)), (1, (Qun p1)), (5, I 0)] [] [] hφ0 (pc (.rn (.plain _ (nld Qaa _))) (pc (.rn (.plain _ (nld Qaa _))) (pc rwl pn))) qn) ?_
    refine Qb7 (τ := Int) (fun n t => Qfa N p0 p1 k2 n t = some r) (fun y3 => ⟨mk 26 [(0, (Qrs p0)), (1, (Qun p1)), (5, I y3)], []⟩) (fun t h => by rw [Qfa] at h; cases h) (fun n5 ih y3 h => ?_) N (0) h
    rw [Qfa] at h
    skip
    refine wsq ?_
    refine wx tbk [(2, rp [(.tmp 12, (Qrs p0))] (I ((p0.length : Int))))] ⟨alm (c := Qac) (l := p0) (aln rfl Try.underlying23 rfl), trivial⟩ ?_
    rcases bft ((decide (y3 < (p0.length : Int)))) with hc6 | hc6
    ·replace h := Qas hc6 h
     refine wft hc6 (by kernel_rfl) ?_
     refine Qah ?_
     refine thn ?_
     refine wsq ?_
     refine Qai ?_
     obtain ⟨x7, hg8, h⟩ := bno h
     obtain ⟨hi9, hj10⟩ := gsm hg8
     obtain ⟨x11, hg12, h⟩ := bno h
     obtain ⟨hi13, hj14⟩ := gsm hg12
     refine wxd tbk [(2, rp [(.tmp 17, (Qrs p0)), (.tmp 18, I y3)] (.dptr (Qac (x7)) 0)), (6, rp [(.tmp 21, (Qun p1)), (.tmp 22, I y3)] (.dptr (Qac (x11)) 0))] ⟨aid rfl Try.underlying23 ti3 rfl rfl hi9 (mgt Qac hj10) rfl, aid rfl Try.underlying23 ti3 rfl rfl hi13 (mgt Qac hj14) rfl, trivial⟩ ?_
     rcases bft ((x7 != x11)) with hc15 | hc15
     ·replace h := Qas hc15 h
      refine wft hc15 (by kernel_rfl) ?_
      refine wx tbk [] trivial ?_
      refine Qag ?_
      refine Qam ?_
      refine Qaf ?_
      refine Qaf ?_
      refine Qam ?_
      refine Qaf ?_
      obtain rfl := osi h
      exact fend ⟨[B false], ⟨rot (by kernel_rfl), trivial⟩, rfl⟩ nll
     ·replace h := Qat hc15 h
      refine wfn hc15 (by kernel_rfl) ?_
      refine Qah ?_
      refine bln ?_
      refine thn ?_
      refine wx1 tbk [] trivial ?_
      refine thn ?_
      exact arm (mto (n := 26) [(0, (Qrs p0)), (1, (Qun p1)), (5, (I (w64 (y3 + 1))))] [] [] hφ0 (pc (.rn (.plain _ (nld Qaa _))) (pc (.rn (.plain _ (nld Qaa _))) (pc rwl pn))) qn) (ih (w64 (y3 + 1)) h)
    ·replace h := Qat hc6 h
     refine wfn hc6 (by kernel_rfl) ?_
     refine Qa4 ?_
     refine Qan ?_
     refine Qan ?_
     refine Qa3 rfl ?_
     refine thn ?_
     exact ⟨(), h, (mto (n := 26) [] [] [] hφ0 pn qn)⟩
def Qd6 (N : Nat) : Option Bool :=
  (Qi1 2000 ).bind fun x2 =>
  (Qko N x2 ([0, 10, 20, 30])).bind fun x4 =>
  (Qi1 2000 ).bind fun x6 =>
  (Qkm N x6 ([0, 10, 20, 30]) 60).bind fun x8 =>
  (Qiq N (⟨100, 50⟩ : GMeter)).bind fun x10 =>
  (Qlw 2000 ).bind fun x12 =>
  (Qeu N x12).bind fun x14 =>
  bif (x4.2.2 == 0) then
   bif (x8.2.2 == 0) then
    bif (x10.2 == 0) then
     bif (x14.2.2.2 == 0) then
      (Qi0 N x4.1 ([70, 70, 23, 32])).bind fun x20 =>
      bif x20 then
       bif ((x8.1.length : Int) == 4) then
        (getI x8.1 1).bind fun x23 =>
        bif x23 then
         (getI x8.1 2).bind fun x28 =>
         bif (!x28) then
          (getI x8.1 3).bind fun x33 =>
          bif x33 then
           bif (x8.2.1 == 47) then
            bif (([x10.1.Lo, x10.1.Hi] : List Int) == [96, 105]) then
             (Qi0 N x14.1 ([15, 0, 4])).bind fun x41 =>
             bif x41 then
              bif ((x14.2.1.length : Int) == 3) then
               some (x14.2.2.1 == 23)
              else
               some false
             else
              some false
            else
             some false
           else
            some false
          else
           some false
         else
          some false
        else
         some false
       else
        some false
      else
       some false
     else
      some false
    else
     some false
   else
    some false
  else
   some false
def z48_0 (x2 : (List GNode)) : AV := .dat 4 ((x2 : List GNode).map Qa0)
def Qur : AV := .dat 1 (([0, 10, 20, 30] : List Int).map Qac)
def Qh3 (x4 : ((List Int) × Int × Int)) : AV := .dat 1 ((x4.1 : List Int).map Qac)
def z48_3 (x6 : (List GNode)) : AV := .dat 4 ((x6 : List GNode).map Qa0)
def Qga (x8 : ((List Bool) × Int × Int)) : AV := .dat 1 ((x8.1 : List Bool).map Qbo)
def z48_5 : AV := .agg [(I (100)), (I (50))]
def Qv6 (x10 : (GRange × Int)) : AV := .agg [(I (x10.1.Lo)), (I (x10.1.Hi))]
def Qv7 (x12 : GDay) : AV := .agg [(I (x12.Tank)), (I (x12.Start)), (.dat 2 ((x12.Hours : List GHour).map Qal))]
def Qmm (x14 : ((List Int) × (List Int) × Int × Int)) : AV := .dat 1 ((x14.1 : List Int).map Qac)
def Qen : AV := .dat 1 (([70, 70, 23, 32] : List Int).map Qac)
def Ql1 : AV := .agg [(I (96)), (I (105))]
def Qkv : AV := .dat 1 (([15, 0, 4] : List Int).map Qac)
set_option maxRecDepth 100000 in
set_option maxHeartbeats 4000000 in
theorem Qd5 (N : Nat) (r : Bool) (h : Qd6 N = some r) : Spec Try.prog 21 [] [] (B r) [] := by
  refine Qaj Try.func21 rfl 0 (nle rfl) (fun X φ0 w0 hφ0 => ?_)
  unfold Qd6 at h
  refine wx tbk [] trivial ?_
  obtain ⟨x2, hf1, h⟩ := bno h
  obtain ⟨x4, hf3, h⟩ := bno h
  refine wx tbk [(0, rp [fu 64] (z48_0 x2)), (1, rp [ci 0, ci 10, ci 20, ci 30] Qur), (2, rp [fu 36, (.tmp 14, (z48_0 x2)), (.tmp 15, Qur)] (.tup [(Qh3 x4), I x4.2.1, I x4.2.2]))] ⟨apc (first := []) (cap := []) (vs := []) rfl Qx6 (Qkc 2000  _ hf1) rfl rfl nl0 (nld Qad _) rfl, Qa9 (vs := [I 0, I 10, I 20, I 30]) rfl Try.underlying23 ti3 tz3 rfl (by decide) rfl (by decide) (by rfl) (by rfl) (by rfl) rfl, apc (first := []) (cap := []) (vs := [(z48_0 x2), Qur]) rfl enter36 (Qn7 N x2 ([0, 10, 20, 30]) _ hf3) rfl rfl (nlc (nld Qad _) (nlc (nld Qaa _) nl0)) (NLt.tup _ (nlc (nld Qaa _) (nlc nll (nlc nll nl0)))) rfl, trivial⟩ ?_
  obtain ⟨x6, hf5, h⟩ := bno h
  obtain ⟨x8, hf7, h⟩ := bno h
  refine wx tbk [(0, rp [fu 64] (z48_3 x6)), (1, rp [ci 0, ci 10, ci 20, ci 30] Qur), (2, rp [fu 22, (.tmp 21, (z48_3 x6)), (.tmp 22, Qur), ci 60] (.tup [(Qga x8), I x8.2.1, I x8.2.2]))] ⟨apc (first := []) (cap := []) (vs := []) rfl Qx6 (Qkc 2000  _ hf5) rfl rfl nl0 (nld Qad _) rfl, Qa9 (vs := [I 0, I 10, I 20, I 30]) rfl Try.underlying23 ti3 tz3 rfl (by decide) rfl (by decide) (by rfl) (by rfl) (by rfl) rfl, apc (first := []) (cap := []) (vs := [(z48_3 x6), Qur, I 60]) rfl enter22 (Qn6 N x6 ([0, 10, 20, 30]) 60 _ hf7) rfl rfl (nlc (nld Qad _) (nlc (nld Qaa _) (nlc nll nl0))) (NLt.tup _ (nlc (nld Qhf _) (nlc nll (nlc nll nl0)))) rfl, trivial⟩ ?_
  obtain ⟨x10, hf9, h⟩ := bno h
  refine wx tbk [(0, rp [ci 100, ci 50] z48_5), (1, rp [fu 47, (.tmp 28, z48_5)] (.tup [(Qv6 x10), I x10.2]))] ⟨Qbj (vs := [I 100, I 50]) rfl ts96 tz96 rfl (by rfl) rfl, apc (first := []) (cap := []) (vs := [z48_5]) rfl enter47 (Qme N (⟨100, 50⟩ : GMeter) _ hf9) rfl rfl (nlc (NLt.agg _ (nlc nll (nlc nll nl0))) nl0) (NLt.tup _ (nlc (NLt.agg _ (nlc nll (nlc nll nl0))) (nlc nll nl0))) rfl, trivial⟩ ?_
  obtain ⟨x12, hf11, h⟩ := bno h
  obtain ⟨x14, hf13, h⟩ := bno h
  refine wx tbk [(0, rp [fu 65] (Qv7 x12)), (1, rp [fu 30, (.tmp 33, (Qv7 x12))] (.tup [(Qmm x14), (.dat 1 ((x14.2.1 : List Int).map Qac)), I x14.2.2.1, I x14.2.2.2]))] ⟨apc (first := []) (cap := []) (vs := []) rfl enter65 (Qpt 2000  _ hf11) rfl rfl nl0 (NLt.agg _ (nlc nll (nlc nll (nlc (nld Qab _) nl0)))) rfl, apc (first := []) (cap := []) (vs := [(Qv7 x12)]) rfl Qx7 (Qid N x12 _ hf13) rfl rfl (nlc (NLt.agg _ (nlc nll (nlc nll (nlc (nld Qab _) nl0)))) nl0) (NLt.tup _ (nlc (nld Qaa _) (nlc (nld Qaa _) (nlc nll (nlc nll nl0))))) rfl, trivial⟩ ?_
  rcases bft ((x4.2.2 == 0)) with hb15 | hb15
  ·replace h := Qas hb15 h
   rcases bft ((x8.2.2 == 0)) with hb16 | hb16
   ·replace h := Qas hb16 h
    rcases bft ((x10.2 == 0)) with hb17 | hb17
    ·replace h := Qas hb17 h
     rcases bft ((x14.2.2.2 == 0)) with hb18 | hb18
     ·replace h := Qas hb18 h
      obtain ⟨x20, hf19, h⟩ := bno h
      rcases bft (x20) with hb21 | hb21
      ·replace h := Qas hb21 h
       rcases bft (((x8.1.length : Int) == 4)) with hb22 | hb22
       ·replace h := Qas hb22 h
        obtain ⟨x23, hg24, h⟩ := bno h
        obtain ⟨hi25, hj26⟩ := gsm hg24
        rcases bft (x23) with hb27 | hb27
        ·replace h := Qas hb27 h
         obtain ⟨x28, hg29, h⟩ := bno h
         obtain ⟨hi30, hj31⟩ := gsm hg29
         rcases bft ((!x28)) with hb32 | hb32
         ·replace h := Qas hb32 h
          obtain ⟨x33, hg34, h⟩ := bno h
          obtain ⟨hi35, hj36⟩ := gsm hg34
          rcases bft (x33) with hb37 | hb37
          ·replace h := Qas hb37 h
           rcases bft ((x8.2.1 == 47)) with hb38 | hb38
           ·replace h := Qas hb38 h
            rcases bft ((([x10.1.Lo, x10.1.Hi] : List Int) == [96, 105])) with hb39 | hb39
            ·replace h := Qas hb39 h
             obtain ⟨x41, hf40, h⟩ := bno h
             rcases bft (x41) with hb42 | hb42
             ·replace h := Qas hb42 h
              rcases bft (((x14.2.1.length : Int) == 3)) with hb43 | hb43
              ·replace h := Qas hb43 h
               refine wx tbk [(2, rp [(.tmp 40, (B ((x4.2.2 == 0))))] (B true)), (6, rp [(.tmp 44, (B ((x8.2.2 == 0))))] (B true)), (10, rp [(.tmp 48, (B ((x10.2 == 0))))] (B true)), (14, rp [(.tmp 52, (B ((x14.2.2.2 == 0))))] (B true)), (16, rp [(.tmp 53, B true), ci 70, ci 70, ci 23, ci 32] Qen), (17, rp [(.tmp 53, B true), fu 66, (.tmp 54, (Qh3 x4)), (.tmp 55, Qen)] (B x20)), (19, rp [(.tmp 57, B x20)] (B true)), (21, rp [(.tmp 58, B true), (.tmp 59, (Qga x8))] (I ((x8.1.length : Int)))), (24, rp [(.tmp 62, (B (((x8.1.length : Int) == 4))))] (B true)), (26, rp [(.tmp 63, B true), (.tmp 64, (Qga x8)), ci 1] (.dptr (Qbo (x23)) 0)), (29, rp [(.tmp 67, B x23)] (B true)), (31, rp [(.tmp 68, B true), (.tmp 69, (Qga x8)), ci 2] (.dptr (Qbo (x28)) 0)), (35, rp [(.tmp 73, (B ((!x28))))] (B true)), (37, rp [(.tmp 74, B true), (.tmp 75, (Qga x8)), ci 3] (.dptr (Qbo (x33)) 0)), (40, rp [(.tmp 78, B x33)] (B true)), (44, rp [(.tmp 82, (B ((x8.2.1 == 47))))] (B true)), (46, rp [(.tmp 83, B true), ci 96, ci 105] Ql1), (47, rp [(.tmp 83, B true), (.tmp 84, (Qv6 x10)), (.tmp 85, Ql1)] (B ((([x10.1.Lo, x10.1.Hi] : List Int) == [96, 105])))), (49, rp [(.tmp 87, (B ((([x10.1.Lo, x10.1.Hi] : List Int) == [96, 105]))))] (B true)), (51, rp [(.tmp 88, B true), ci 15, ci 0, ci 4] Qkv), (52, rp [(.tmp 88, B true), fu 66, (.tmp 89, (Qmm x14)), (.tmp 90, Qkv)] (B x41)), (54, rp [(.tmp 92, B x41)] (B true)), (56, rp [(.tmp 93, B true), (.tmp 94, (.dat 1 ((x14.2.1 : List Int).map Qac)))] (I ((x14.2.1.length : Int)))), (59, rp [(.tmp 97, (B (((x14.2.1.length : Int) == 3))))] (B true))] ⟨asb hb15 (amv rfl), asb hb16 (amv rfl), asb hb17 (amv rfl), asb hb18 (amv rfl), ag_ (Qa9 (vs := [I 70, I 70, I 23, I 32]) rfl Try.underlying23 ti3 tz3 rfl (by decide) rfl (by decide) (by rfl) (by rfl) (by rfl) rfl), ag_ (apc (first := []) (cap := []) (vs := [(Qh3 x4), Qen]) rfl Qgy (Qcw N x4.1 ([70, 70, 23, 32]) _ hf19) rfl rfl (nlc (nld Qaa _) (nlc (nld Qaa _) nl0)) nll rfl), asb hb21 (amv rfl), ag_ (alm (c := Qbo) (l := x8.1) (aln rfl Try.underlying26 rfl)), asb hb22 (amv rfl), ag_ (aid rfl Try.underlying26 ti4 rfl rfl hi25 (mgt Qbo hj26) rfl), asb hb27 (amv rfl), ag_ (aid rfl Try.underlying26 ti4 rfl rfl hi30 (mgt Qbo hj31) rfl), asb hb32 (amv rfl), ag_ (aid rfl Try.underlying26 ti4 rfl rfl hi35 (mgt Qbo hj36) rfl), asb hb37 (amv rfl), asb hb38 (amv rfl), ag_ (Qbj (vs := [I 96, I 105]) rfl ts93 tz93 rfl (by rfl) rfl), ag_ (Qlf (ls := [x10.1.Lo, x10.1.Hi]) (ks := [96, 105]) rfl rfl eqt93 (by kernel_rfl) rfl rfl), asb hb39 (amv rfl), ag_ (Qa9 (vs := [I 15, I 0, I 4]) rfl Try.underlying23 ti3 tz3 rfl (by decide) rfl (by decide) (by rfl) (by rfl) (by rfl) rfl), ag_ (apc (first := []) (cap := []) (vs := [(Qmm x14), Qkv]) rfl Qgy (Qcw N x14.1 ([15, 0, 4]) _ hf40) rfl rfl (nlc (nld Qaa _) (nlc (nld Qaa _) nl0)) nll rfl), asb hb42 (amv rfl), ag_ (alm (c := Qac) (l := x14.2.1) (aln rfl Try.underlying23 rfl)), asb hb43 (amv rfl), trivial⟩ ?_
               refine Qag ?_
               obtain rfl := osi h
               exact fend ⟨[(B ((x14.2.2.1 == 23)))], ⟨rot (by kernel_rfl), trivial⟩, rfl⟩ nll
              ·replace h := Qat hb43 h
               refine wx tbk [(2, rp [(.tmp 40, (B ((x4.2.2 == 0))))] (B true)), (6, rp [(.tmp 44, (B ((x8.2.2 == 0))))] (B true)), (10, rp [(.tmp 48, (B ((x10.2 == 0))))] (B true)), (14, rp [(.tmp 52, (B ((x14.2.2.2 == 0))))] (B true)), (16, rp [(.tmp 53, B true), ci 70, ci 70, ci 23, ci 32] Qen), (17, rp [(.tmp 53, B true), fu 66, (.tmp 54, (Qh3 x4)), (.tmp 55, Qen)] (B x20)), (19, rp [(.tmp 57, B x20)] (B true)), (21, rp [(.tmp 58, B true), (.tmp 59, (Qga x8))] (I ((x8.1.length : Int)))), (24, rp [(.tmp 62, (B (((x8.1.length : Int) == 4))))] (B true)), (26, rp [(.tmp 63, B true), (.tmp 64, (Qga x8)), ci 1] (.dptr (Qbo (x23)) 0)), (29, rp [(.tmp 67, B x23)] (B true)), (31, rp [(.tmp 68, B true), (.tmp 69, (Qga x8)), ci 2] (.dptr (Qbo (x28)) 0)), (35, rp [(.tmp 73, (B ((!x28))))] (B true)), (37, rp [(.tmp 74, B true), (.tmp 75, (Qga x8)), ci 3] (.dptr (Qbo (x33)) 0)), (40, rp [(.tmp 78, B x33)] (B true)), (44, rp [(.tmp 82, (B ((x8.2.1 == 47))))] (B true)), (46, rp [(.tmp 83, B true), ci 96, ci 105] Ql1), (47, rp [(.tmp 83, B true), (.tmp 84, (Qv6 x10)), (.tmp 85, Ql1)] (B ((([x10.1.Lo, x10.1.Hi] : List Int) == [96, 105])))), (49, rp [(.tmp 87, (B ((([x10.1.Lo, x10.1.Hi] : List Int) == [96, 105]))))] (B true)), (51, rp [(.tmp 88, B true), ci 15, ci 0, ci 4] Qkv), (52, rp [(.tmp 88, B true), fu 66, (.tmp 89, (Qmm x14)), (.tmp 90, Qkv)] (B x41)), (54, rp [(.tmp 92, B x41)] (B true)), (56, rp [(.tmp 93, B true), (.tmp 94, (.dat 1 ((x14.2.1 : List Int).map Qac)))] (I ((x14.2.1.length : Int)))), (59, rp [(.tmp 97, (B (((x14.2.1.length : Int) == 3))))] (B false))] ⟨asb hb15 (amv rfl), asb hb16 (amv rfl), asb hb17 (amv rfl), asb hb18 (amv rfl), ag_ (Qa9 (vs := [I 70, I 70, I 23, I 32]) rfl Try.underlying23 ti3 tz3 rfl (by decide) rfl (by decide) (by rfl) (by rfl) (by rfl) rfl), ag_ (apc (first := []) (cap := []) (vs := [(Qh3 x4), Qen]) rfl Qgy (Qcw N x4.1 ([70, 70, 23, 32]) _ hf19) rfl rfl (nlc (nld Qaa _) (nlc (nld Qaa _) nl0)) nll rfl), asb hb21 (amv rfl), ag_ (alm (c := Qbo) (l := x8.1) (aln rfl Try.underlying26 rfl)), asb hb22 (amv rfl), ag_ (aid rfl Try.underlying26 ti4 rfl rfl hi25 (mgt Qbo hj26) rfl), asb hb27 (amv rfl), ag_ (aid rfl Try.underlying26 ti4 rfl rfl hi30 (mgt Qbo hj31) rfl), asb hb32 (amv rfl), ag_ (aid rfl Try.underlying26 ti4 rfl rfl hi35 (mgt Qbo hj36) rfl), asb hb37 (amv rfl), asb hb38 (amv rfl), ag_ (Qbj (vs := [I 96, I 105]) rfl ts93 tz93 rfl (by rfl) rfl), ag_ (Qlf (ls := [x10.1.Lo, x10.1.Hi]) (ks := [96, 105]) rfl rfl eqt93 (by kernel_rfl) rfl rfl), asb hb39 (amv rfl), ag_ (Qa9 (vs := [I 15, I 0, I 4]) rfl Try.underlying23 ti3 tz3 rfl (by decide) rfl (by decide) (by rfl) (by rfl) (by rfl) rfl), ag_ (apc (first := []) (cap := []) (vs := [(Qmm x14), Qkv]) rfl Qgy (Qcw N x14.1 ([15, 0, 4]) _ hf40) rfl rfl (nlc (nld Qaa _) (nlc (nld Qaa _) nl0)) nll rfl), asb hb42 (amv rfl), ag_ (alm (c := Qac) (l := x14.2.1) (aln rfl Try.underlying23 rfl)), asb hb43 (amv rfl), trivial⟩ ?_
               refine Qag ?_
               obtain rfl := osi h
               exact fend ⟨[B false], ⟨rot (by kernel_rfl), trivial⟩, rfl⟩ nll
             ·replace h := Qat hb42 h
              refine wx tbk [(2, rp [(.tmp 40, (B ((x4.2.2 == 0))))] (B true)), (6, rp [(.tmp 44, (B ((x8.2.2 == 0))))] (B true)), (10, rp [(.tmp 48, (B ((x10.2 == 0))))] (B true)), (14, rp [(.tmp 52, (B ((x14.2.2.2 == 0))))] (B true)), (16, rp [(.tmp 53, B true), ci 70, ci 70, ci 23, ci 32] Qen), (17, rp [(.tmp 53, B true), fu 66, (.tmp 54, (Qh3 x4)), (.tmp 55, Qen)] (B x20)), (19, rp [(.tmp 57, B x20)] (B true)), (21, rp [(.tmp 58, B true), (.tmp 59, (Qga x8))] (I ((x8.1.length : Int)))), (24, rp [(.tmp 62, (B (((x8.1.length : Int) == 4))))] (B true)), (26, rp [(.tmp 63, B true), (.tmp 64, (Qga x8)), ci 1] (.dptr (Qbo (x23)) 0)), (29, rp [(.tmp 67, B x23)] (B true)), (31, rp [(.tmp 68, B true), (.tmp 69, (Qga x8)), ci 2] (.dptr (Qbo (x28)) 0)), (35, rp [(.tmp 73, (B ((!x28))))] (B true)), (37, rp [(.tmp 74, B true), (.tmp 75, (Qga x8)), ci 3] (.dptr (Qbo (x33)) 0)), (40, rp [(.tmp 78, B x33)] (B true)), (44, rp [(.tmp 82, (B ((x8.2.1 == 47))))] (B true)), (46, rp [(.tmp 83, B true), ci 96, ci 105] Ql1), (47, rp [(.tmp 83, B true), (.tmp 84, (Qv6 x10)), (.tmp 85, Ql1)] (B ((([x10.1.Lo, x10.1.Hi] : List Int) == [96, 105])))), (49, rp [(.tmp 87, (B ((([x10.1.Lo, x10.1.Hi] : List Int) == [96, 105]))))] (B true)), (51, rp [(.tmp 88, B true), ci 15, ci 0, ci 4] Qkv), (52, rp [(.tmp 88, B true), fu 66, (.tmp 89, (Qmm x14)), (.tmp 90, Qkv)] (B x41)), (54, rp [(.tmp 92, B x41)] (B false))] ⟨asb hb15 (amv rfl), asb hb16 (amv rfl), asb hb17 (amv rfl), asb hb18 (amv rfl), ag_ (Qa9 (vs := [I 70, I 70, I 23, I 32]) rfl Try.underlying23 ti3 tz3 rfl (by decide) rfl (by decide) (by rfl) (by rfl) (by rfl) rfl), ag_ (apc (first := []) (cap := []) (vs := [(Qh3 x4), Qen]) rfl Qgy (Qcw N x4.1 ([70, 70, 23, 32]) _ hf19) rfl rfl (nlc (nld Qaa _) (nlc (nld Qaa _) nl0)) nll rfl), asb hb21 (amv rfl), ag_ (alm (c := Qbo) (l := x8.1) (aln rfl Try.underlying26 rfl)), asb hb22 (amv rfl), ag_ (aid rfl Try.underlying26 ti4 rfl rfl hi25 (mgt Qbo hj26) rfl), asb hb27 (amv rfl), ag_ (aid rfl Try.underlying26 ti4 rfl rfl hi30 (mgt Qbo hj31) rfl), asb hb32 (amv rfl), ag_ (aid rfl Try.underlying26 ti4 rfl rfl hi35 (mgt Qbo hj36) rfl), asb hb37 (amv rfl), asb hb38 (amv rfl), ag_ (Qbj (vs := [I 96, I 105]) rfl ts93 tz93 rfl (by rfl) rfl), ag_ (Qlf (ls := [x10.1.Lo, x10.1.Hi]) (ks := [96, 105]) rfl rfl eqt93 (by kernel_rfl) rfl rfl), asb hb39 (amv rfl), ag_ (Qa9 (vs := [I 15, I 0, I 4]) rfl Try.underlying23 ti3 tz3 rfl (by decide) rfl (by decide) (by rfl) (by rfl) (by rfl) rfl), ag_ (apc (first := []) (cap := []) (vs := [(Qmm x14), Qkv]) rfl Qgy (Qcw N x14.1 ([15, 0, 4]) _ hf40) rfl rfl (nlc (nld Qaa _) (nlc (nld Qaa _) nl0)) nll rfl), asb hb42 (amv rfl), trivial⟩ ?_
              refine Qag ?_
              obtain rfl := osi h
              exact fend ⟨[B false], ⟨rot (by kernel_rfl), trivial⟩, rfl⟩ nll
            ·replace h := Qat hb39 h
             refine wx tbk [(2, rp [(.tmp 40, (B ((x4.2.2 == 0))))] (B true)), (6, rp [(.tmp 44, (B ((x8.2.2 == 0))))] (B true)), (10, rp [(.tmp 48, (B ((x10.2 == 0))))] (B true)), (14, rp [(.tmp 52, (B ((x14.2.2.2 == 0))))] (B true)), (16, rp [(.tmp 53, B true), ci 70, ci 70, ci 23, ci 32] Qen), (17, rp [(.tmp 53, B true), fu 66, (.tmp 54, (Qh3 x4)), (.tmp 55, Qen)] (B x20)), (19, rp [(.tmp 57, B x20)] (B true)), (21, rp [(.tmp 58, B true), (.tmp 59, (Qga x8))] (I ((x8.1.length : Int)))), (24, rp [(.tmp 62, (B (((x8.1.length : Int) == 4))))] (B true)), (26, rp [(.tmp 63, B true), (.tmp 64, (Qga x8)), ci 1] (.dptr (Qbo (x23)) 0)), (29, rp [(.tmp 67, B x23)] (B true)), (31, rp [(.tmp 68, B true), (.tmp 69, (Qga x8)), ci 2] (.dptr (Qbo (x28)) 0)), (35, rp [(.tmp 73, (B ((!x28))))] (B true)), (37, rp [(.tmp 74, B true), (.tmp 75, (Qga x8)), ci 3] (.dptr (Qbo (x33)) 0)), (40, rp [(.tmp 78, B x33)] (B true)), (44, rp [(.tmp 82, (B ((x8.2.1 == 47))))] (B true)), (46, rp [(.tmp 83, B true), ci 96, ci 105] Ql1), (47, rp [(.tmp 83, B true), (.tmp 84, (Qv6 x10)), (.tmp 85, Ql1)] (B ((([x10.1.Lo, x10.1.Hi] : List Int) == [96, 105])))), (49, rp [(.tmp 87, (B ((([x10.1.Lo, x10.1.Hi] : List Int) == [96, 105]))))] (B false))] ⟨asb hb15 (amv rfl), asb hb16 (amv rfl), asb hb17 (amv rfl), asb hb18 (amv rfl), ag_ (Qa9 (vs := [I 70, I 70, I 23, I 32]) rfl Try.underlying23 ti3 tz3 rfl (by decide) rfl (by decide) (by rfl) (by rfl) (by rfl) rfl), ag_ (apc (first := []) (cap := []) (vs := [(Qh3 x4), Qen]) rfl Qgy (Qcw N x4.1 ([70, 70, 23, 32]) _ hf19) rfl rfl (nlc (nld Qaa _) (nlc (nld Qaa _) nl0)) nll rfl), asb hb21 (amv rfl), ag_ (alm (c := Qbo) (l := x8.1) (aln rfl Try.underlying26 rfl)), asb hb22 (amv rfl), ag_ (aid rfl Try.underlying26 ti4 rfl rfl hi25 (mgt Qbo hj26) rfl), asb hb27 (amv rfl), ag_ (aid rfl Try.underlying26 ti4 rfl rfl hi30 (mgt Qbo hj31) rfl), asb hb32 (amv rfl), ag_ (aid rfl Try.underlying26 ti4 rfl rfl hi35 (mgt Qbo hj36) rfl), asb hb37 (amv rfl), asb hb38 (amv rfl), ag_ (Qbj (vs := [I 96, I 105]) rfl ts93 tz93 rfl (by rfl) rfl), ag_ (Qlf (ls := [x10.1.Lo, x10.1.Hi]) (ks := [96, 105]) rfl rfl eqt93 (by kernel_rfl) rfl rfl), asb hb39 (amv rfl), trivial⟩ ?_
             refine Qag ?_
             obtain rfl := osi h
             exact fend ⟨[B false], ⟨rot (by kernel_rfl), trivial⟩, rfl⟩ nll
           ·replace h := Qat hb38 h
            refine wx tbk [(2, rp [(.tmp 40, (B ((x4.2.2 == 0))))] (B true)), (6, rp [(.tmp 44, (B ((x8.2.2 == 0))))] (B true)), (10, rp [(.tmp 48, (B ((x10.2 == 0))))] (B true)), (14, rp [(.tmp 52, (B ((x14.2.2.2 == 0))))] (B true)), (16, rp [(.tmp 53, B true), ci 70, ci 70, ci 23, ci 32] Qen), (17, rp [(.tmp 53, B true), fu 66, (.tmp 54, (Qh3 x4)), (.tmp 55, Qen)] (B x20)), (19, rp [(.tmp 57, B x20)] (B true)), (21, rp [(.tmp 58, B true), (.tmp 59, (Qga x8))] (I ((x8.1.length : Int)))), (24, rp [(.tmp 62, (B (((x8.1.length : Int) == 4))))] (B true)), (26, rp [(.tmp 63, B true), (.tmp 64, (Qga x8)), ci 1] (.dptr (Qbo (x23)) 0)), (29, rp [(.tmp 67, B x23)] (B true)), (31, rp [(.tmp 68, B true), (.tmp 69, (Qga x8)), ci 2] (.dptr (Qbo (x28)) 0)), (35, rp [(.tmp 73, (B ((!x28))))] (B true)), (37, rp [(.tmp 74, B true), (.tmp 75, (Qga x8)), ci 3] (.dptr (Qbo (x33)) 0)), (40, rp [(.tmp 78, B x33)] (B true)), (44, rp [(.tmp 82, (B ((x8.2.1 == 47))))] (B false))] ⟨asb hb15 (amv rfl), asb hb16 (amv rfl), asb hb17 (amv rfl), asb hb18 (amv rfl), ag_ (Qa9 (vs := [I 70, I 70, I 23, I 32]) rfl Try.underlying23 ti3 tz3 rfl (by decide) rfl (by decide) (by rfl) (by rfl) (by rfl) rfl), ag_ (apc (first := []) (cap := []) (vs := [(Qh3 x4), Qen]) rfl Qgy (Qcw N x4.1 ([70, 70, 23, 32]) _ hf19) rfl rfl (nlc (nld Qaa _) (nlc (nld Qaa _) nl0)) nll rfl), asb hb21 (amv rfl), ag_ (alm (c := Qbo) (l := x8.1) (aln rfl Try.underlying26 rfl)), asb hb22 (amv rfl), ag_ (aid rfl Try.underlying26 ti4 rfl rfl hi25 (mgt Qbo hj26) rfl), asb hb27 (amv rfl), ag_ (aid rfl Try.underlying26 ti4 rfl rfl hi30 (mgt Qbo hj31) rfl), asb hb32 (amv rfl), ag_ (aid rfl Try.underlying26 ti4 rfl rfl hi35 (mgt Qbo hj36) rfl), asb hb37 (amv rfl), asb hb38 (amv rfl), trivial⟩ ?_
            refine Qag ?_
            obtain rfl := osi h
            exact fend ⟨[B false], ⟨rot (by kernel_rfl), trivial⟩, rfl⟩ nll
          ·replace h := Qat hb37 h
           refine wx tbk [(2, rp [(.tmp 40, (B ((x4.2.2 == 0))))] (B true)), (6, rp [(.tmp 44, (B ((x8.2.2 == 0))))] (B true)), (10, rp [(.tmp 48, (B ((x10.2 == 0))))] (B true)), (14, rp [(.tmp 52, (B ((x14.2.2.2 == 0))))] (B true)), (16, rp [(.tmp 53, B true), ci 70, ci 70, ci 23, ci 32] Qen), (17, rp [(.tmp 53, B true), fu 66, (.tmp 54, (Qh3 x4)), (.tmp 55, Qen)] (B x20)), (19, rp [(.tmp 57, B x20)] (B true)), (21, rp [(.tmp 58, B true), (.tmp 59, (Qga x8))] (I ((x8.1.length : Int)))), (24, rp [(.tmp 62, (B (((x8.1.length : Int) == 4))))] (B true)), (26, rp [(.tmp 63, B true), (.tmp 64, (Qga x8)), ci 1] (.dptr (Qbo (x23)) 0)), (29, rp [(.tmp 67, B x23)] (B true)), (31, rp [(.tmp 68, B true), (.tmp 69, (Qga x8)), ci 2] (.dptr (Qbo (x28)) 0)), (35, rp [(.tmp 73, (B ((!x28))))] (B true)), (37, rp [(.tmp 74, B true), (.tmp 75, (Qga x8)), ci 3] (.dptr (Qbo (x33)) 0)), (40, rp [(.tmp 78, B x33)] (B false))] ⟨asb hb15 (amv rfl), asb hb16 (amv rfl), asb hb17 (amv rfl), asb hb18 (amv rfl), ag_ (Qa9 (vs := [I 70, I 70, I 23, I 32]) rfl Try.underlying23 ti3 tz3 rfl (by decide) rfl (by decide) (by rfl) (by rfl) (by rfl) rfl), ag_ (apc (first := []) (cap := []) (vs := [(Qh3 x4), Qen]) rfl Qgy (Qcw N x4.1 ([70, 70, 23, 32]) _ hf19) rfl rfl (nlc (nld Qaa _) (nlc (nld Qaa _) nl0)) nll rfl), asb hb21 (amv rfl), ag_ (alm (c := Qbo) (l := x8.1) (aln rfl Try.underlying26 rfl)), asb hb22 (amv rfl), ag_ (aid rfl Try.underlying26 ti4 rfl rfl hi25 (mgt Qbo hj26) rfl), asb hb27 (amv rfl), ag_ (aid rfl Try.underlying26 ti4 rfl rfl hi30 (mgt Qbo hj31) rfl), asb hb32 (amv rfl), ag_ (aid rfl Try.underlying26 ti4 rfl rfl hi35 (mgt Qbo hj36) rfl), asb hb37 (amv rfl), trivial⟩ ?_
           refine Qag ?_
           obtain rfl := osi h
           exact fend ⟨[B false], ⟨rot (by kernel_rfl), trivial⟩, rfl⟩ nll
         ·replace h := Qat hb32 h
          refine wx tbk [(2, rp [(.tmp 40, (B ((x4.2.2 == 0))))] (B true)), (6, rp [(.tmp 44, (B ((x8.2.2 == 0))))] (B true)), (10, rp [(.tmp 48, (B ((x10.2 == 0))))] (B true)), (14, rp [(.tmp 52, (B ((x14.2.2.2 == 0))))] (B true)), (16, rp [(.tmp 53, B true), ci 70, ci 70, ci 23, ci 32] Qen), (17, rp [(.tmp 53, B true), fu 66, (.tmp 54, (Qh3 x4)), (.tmp 55, Qen)] (B x20)), (19, rp [(.tmp 57, B x20)] (B true)), (21, rp [(.tmp 58, B true), (.tmp 59, (Qga x8))] (I ((x8.1.length : Int)))), (24, rp [(.tmp 62, (B (((x8.1.length : Int) == 4))))] (B true)), (26, rp [(.tmp 63, B true), (.tmp 64, (Qga x8)), ci 1] (.dptr (Qbo (x23)) 0)), (29, rp [(.tmp 67, B x23)] (B true)), (31, rp [(.tmp 68, B true), (.tmp 69, (Qga x8)), ci 2] (.dptr (Qbo (x28)) 0)), (35, rp [(.tmp 73, (B ((!x28))))] (B false))] ⟨asb hb15 (amv rfl), asb hb16 (amv rfl), asb hb17 (amv rfl), asb hb18 (amv rfl), ag_ (Qa9 (vs := [I 70, I 70, I 23, I 32]) rfl Try.underlying23 ti3 tz3 rfl (by decide) rfl (by decide) (by rfl) (by rfl) (by rfl) rfl), ag_ (apc (first := []) (cap := []) (vs := [(Qh3 x4), Qen]) rfl Qgy (Qcw N x4.1 ([70, 70, 23, 32]) _ hf19) rfl rfl (nlc (nld Qaa _) (nlc (nld Qaa _) nl0)) nll rfl), asb hb21 (amv rfl), ag_ (alm (c := Qbo) (l := x8.1) (aln rfl Try.underlying26 rfl)), asb hb22 (amv rfl), ag_ (aid rfl Try.underlying26 ti4 rfl rfl hi25 (mgt Qbo hj26) rfl), asb hb27 (amv rfl), ag_ (aid rfl Try.underlying26 ti4 rfl rfl hi30 (mgt Qbo hj31) rfl), asb hb32 (amv rfl), trivial⟩ ?_
          refine Qag ?_
          obtain rfl := osi h
          exact fend ⟨[B false], ⟨rot (by kernel_rfl), trivial⟩, rfl⟩ nll
        ·replace h := Qat hb27 h
         refine wx tbk [(2, rp [(.tmp 40, (B ((x4.2.2 == 0))))] (B true)), (6, rp [(.tmp 44, (B ((x8.2.2 == 0))))] (B true)), (10, rp [(.tmp 48, (B ((x10.2 == 0))))] (B true)), (14, rp [(.tmp 52, (B ((x14.2.2.2 == 0))))] (B true)), (16, rp [(.tmp 53, B true), ci 70, ci 70, ci 23, ci 32] Qen), (17, rp [(.tmp 53, B true), fu 66, (.tmp 54, (Qh3 x4)), (.tmp 55, Qen)] (B x20)), (19, rp [(.tmp 57, B x20)] (B true)), (21, rp [(.tmp 58, B true), (.tmp 59, (Qga x8))] (I ((x8.1.length : Int)))), (24, rp [(.tmp 62, (B (((x8.1.length : Int) == 4))))] (B true)), (26, rp [(.tmp 63, B true), (.tmp 64, (Qga x8)), ci 1] (.dptr (Qbo (x23)) 0)), (29, rp [(.tmp 67, B x23)] (B false))] ⟨asb hb15 (amv rfl), asb hb16 (amv rfl), asb hb17 (amv rfl), asb hb18 (amv rfl), ag_ (Qa9 (vs := [I 70, I 70, I 23, I 32]) rfl Try.underlying23 ti3 tz3 rfl (by decide) rfl (by decide) (by rfl) (by rfl) (by rfl) rfl), ag_ (apc (first := []) (cap := []) (vs := [(Qh3 x4), Qen]) rfl Qgy (Qcw N x4.1 ([70, 70, 23, 32]) _ hf19) rfl rfl (nlc (nld Qaa _) (nlc (nld Qaa _) nl0)) nll rfl), asb hb21 (amv rfl), ag_ (alm (c := Qbo) (l := x8.1) (aln rfl Try.underlying26 rfl)), asb hb22 (amv rfl), ag_ (aid rfl Try.underlying26 ti4 rfl rfl hi25 (mgt Qbo hj26) rfl), asb hb27 (amv rfl), trivial⟩ ?_
         refine Qag ?_
         obtain rfl := osi h
         exact fend ⟨[B false], ⟨rot (by kernel_rfl), trivial⟩, rfl⟩ nll
       ·replace h := Qat hb22 h
        refine wx tbk [(2, rp [(.tmp 40, (B ((x4.2.2 == 0))))] (B true)), (6, rp [(.tmp 44, (B ((x8.2.2 == 0))))] (B true)), (10, rp [(.tmp 48, (B ((x10.2 == 0))))] (B true)), (14, rp [(.tmp 52, (B ((x14.2.2.2 == 0))))] (B true)), (16, rp [(.tmp 53, B true), ci 70, ci 70, ci 23, ci 32] Qen), (17, rp [(.tmp 53, B true), fu 66, (.tmp 54, (Qh3 x4)), (.tmp 55, Qen)] (B x20)), (19, rp [(.tmp 57, B x20)] (B true)), (21, rp [(.tmp 58, B true), (.tmp 59, (Qga x8))] (I ((x8.1.length : Int)))), (24, rp [(.tmp 62, (B (((x8.1.length : Int) == 4))))] (B false))] ⟨asb hb15 (amv rfl), asb hb16 (amv rfl), asb hb17 (amv rfl), asb hb18 (amv rfl), ag_ (Qa9 (vs := [I 70, I 70, I 23, I 32]) rfl Try.underlying23 ti3 tz3 rfl (by decide) rfl (by decide) (by rfl) (by rfl) (by rfl) rfl), ag_ (apc (first := []) (cap := []) (vs := [(Qh3 x4), Qen]) rfl Qgy (Qcw N x4.1 ([70, 70, 23, 32]) _ hf19) rfl rfl (nlc (nld Qaa _) (nlc (nld Qaa _) nl0)) nll rfl), asb hb21 (amv rfl), ag_ (alm (c := Qbo) (l := x8.1) (aln rfl Try.underlying26 rfl)), asb hb22 (amv rfl), trivial⟩ ?_
        refine Qag ?_
        obtain rfl := osi h
        exact fend ⟨[B false], ⟨rot (by kernel_rfl), trivial⟩, rfl⟩ nll
      ·replace h := Qat hb21 h
       refine wx tbk [(2, rp [(.tmp 40, (B ((x4.2.2 == 0))))] (B true)), (6, rp [(.tmp 44, (B ((x8.2.2 == 0))))] (B true)), (10, rp [(.tmp 48, (B ((x10.2 == 0))))] (B true)), (14, rp [(.tmp 52, (B ((x14.2.2.2 == 0))))] (B true)), (16, rp [(.tmp 53, B true), ci 70, ci 70, ci 23, ci 32] Qen), (17, rp [(.tmp 53, B true), fu 66, (.tmp 54, (Qh3 x4)), (.tmp 55, Qen)] (B x20)), (19, rp [(.tmp 57, B x20)] (B false))] ⟨asb hb15 (amv rfl), asb hb16 (amv rfl), asb hb17 (amv rfl), asb hb18 (amv rfl), ag_ (Qa9 (vs := [I 70, I 70, I 23, I 32]) rfl Try.underlying23 ti3 tz3 rfl (by decide) rfl (by decide) (by rfl) (by rfl) (by rfl) rfl), ag_ (apc (first := []) (cap := []) (vs := [(Qh3 x4), Qen]) rfl Qgy (Qcw N x4.1 ([70, 70, 23, 32]) _ hf19) rfl rfl (nlc (nld Qaa _) (nlc (nld Qaa _) nl0)) nll rfl), asb hb21 (amv rfl), trivial⟩ ?_
       refine Qag ?_
       obtain rfl := osi h
       exact fend ⟨[B false], ⟨rot (by kernel_rfl), trivial⟩, rfl⟩ nll
     ·replace h := Qat hb18 h
      refine wx tbk [(2, rp [(.tmp 40, (B ((x4.2.2 == 0))))] (B true)), (6, rp [(.tmp 44, (B ((x8.2.2 == 0))))] (B true)), (10, rp [(.tmp 48, (B ((x10.2 == 0))))] (B true)), (14, rp [(.tmp 52, (B ((x14.2.2.2 == 0))))] (B false))] ⟨asb hb15 (amv rfl), asb hb16 (amv rfl), asb hb17 (amv rfl), asb hb18 (amv rfl), trivial⟩ ?_
      refine Qag ?_
      obtain rfl := osi h
      exact fend ⟨[B false], ⟨rot (by kernel_rfl), trivial⟩, rfl⟩ nll
    ·replace h := Qat hb17 h
     refine wx tbk [(2, rp [(.tmp 40, (B ((x4.2.2 == 0))))] (B true)), (6, rp [(.tmp 44, (B ((x8.2.2 == 0))))] (B true)), (10, rp [(.tmp 48, (B ((x10.2 == 0))))] (B false))] ⟨asb hb15 (amv rfl), asb hb16 (amv rfl), asb hb17 (amv rfl), trivial⟩ ?_
     refine Qag ?_
     obtain rfl := osi h
     exact fend ⟨[B false], ⟨rot (by kernel_rfl), trivial⟩, rfl⟩ nll
   ·replace h := Qat hb16 h
    refine wx tbk [(2, rp [(.tmp 40, (B ((x4.2.2 == 0))))] (B true)), (6, rp [(.tmp 44, (B ((x8.2.2 == 0))))] (B false))] ⟨asb hb15 (amv rfl), asb hb16 (amv rfl), trivial⟩ ?_
    refine Qag ?_
    obtain rfl := osi h
    exact fend ⟨[B false], ⟨rot (by kernel_rfl), trivial⟩, rfl⟩ nll
  ·replace h := Qat hb15 h
   refine wx tbk [(2, rp [(.tmp 40, (B ((x4.2.2 == 0))))] (B false))] ⟨asb hb15 (amv rfl), trivial⟩ ?_
   refine Qag ?_
   obtain rfl := osi h
   exact fend ⟨[B false], ⟨rot (by kernel_rfl), trivial⟩, rfl⟩ nll
def Qem (_N : Nat) (p0 : (List Int)) : Option (List Int) :=
  chk (decide ((([] : List Int).length + p0.length) * 8 ≤ 140737488355328)) <|
  some (([] : List Int) ++ p0)
def z52_0 : AV := .acc 0 3 1 ((([] : List Int) : List Int).map Qac)
def z52_2 (p0 : (List Int)) : AV := .acc 1 3 1 ((([] : List Int) ++ p0 : List Int).map Qac)
set_option maxRecDepth 100000 in
set_option maxHeartbeats 4000000 in
theorem Qbn (N : Nat) (p0 : (List Int)) (r : (List Int)) (h : Qem N p0 = some r) : Spec Try.prog 24 [(.dat 1 (p0.map Qac))] [] (.dat 1 (r.map Qac)) [] := by
  refine Qaj Try.func24 rfl 0 (nle rfl) (fun X φ0 w0 hφ0 => ?_)
  unfold Qem at h
  refine wx tbk [] trivial ?_
  obtain ⟨ha1, h⟩ := cko h
  refine wx tbk [(0, ⟨[], [(0, .unused)], z52_0, [(0, .tok)], false⟩), (2, ⟨[(.tmp 3, z52_0), (.tmp 4, (.dat 1 ((p0 : List Int).map Qac)))], [(0, .tok), (1, .unused)], (z52_2 p0), [(0, .dead), (1, .tok)], false⟩)] ⟨Qlg rfl Try.underlying23 ti3 tz3, Qli rfl Try.underlying23 te3 (Base.acc _ _) rfl rfl (Qtx Qac Qxc _) (Qqg Qac ha1) (Qqf Qac ha1 (by decide)) (Qqe Qac) rfl rfl, trivial⟩ ?_
  refine Qag ?_
  obtain rfl := osi h
  exact fend ⟨[(.dat 1 ((([] : List Int) ++ p0 : List Int).map Qac))], ⟨Qge (v := (z52_2 p0)) (rot (by kernel_rfl)) Less.acc, trivial⟩, rfl⟩ (nld Qaa _)
end Go.Proofs.Ytgdepcgbjjgnfaa
