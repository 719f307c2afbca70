/-
  Functions of the program: what they compute, as plain functions, and that they do. No conditions.
-/
import Derived.Test.YtgdepcgbjjgnfaaX4
namespace Go.Proofs.Ytgdepcgbjjgnfaa
open Go.RowKit
def Qia (_N : Nat) : Option (List GNode) :=
  some ([(⟨(-1), 0, 0, 0⟩ : GNode), (⟨0, 5, 100, 0⟩ : GNode), (⟨1, 3, 50, 2⟩ : GNode), (⟨1, 2, 60, 1⟩ : GNode)])
def z49_0 : AV := .agg [(I ((-1))), (I (0)), (I (0)), (I (0))]
def z49_1 : AV := .agg [(I (0)), (I (5)), (I (100)), (I (0))]
def z49_2 : AV := .agg [(I (1)), (I (3)), (I (50)), (I (2))]
def z49_3 : AV := .agg [(I (1)), (I (2)), (I (60)), (I (1))]
def z49_4 : AV := .dat 4 (([(⟨(-1), 0, 0, 0⟩ : GNode), (⟨0, 5, 100, 0⟩ : GNode), (⟨1, 3, 50, 2⟩ : GNode), (⟨1, 2, 60, 1⟩ : GNode)] : List GNode).map Qad)
set_option maxRecDepth 100000 in
set_option maxHeartbeats 4000000 in
theorem Qjf (N : Nat) (r : (List GNode)) (h : Qia N = some r) : Spec Try.prog 64 [] [] (.dat 4 (r.map Qad)) [] := by
  refine Qaj Try.func64 rfl 0 (nle rfl) (fun X φ0 w0 hφ0 => ?_)
  unfold Qia at h
  refine wx tbk [] trivial ?_
  refine wx tbk [(0, rp [ci (-1)] z49_0), (1, rp [ci 5, ci 100] z49_1), (2, rp [ci 1, ci 3, ci 50, ci 2] z49_2), (3, rp [ci 1, ci 2, ci 60, ci 1] z49_3), (4, rp [(.tmp 1, z49_0), (.tmp 2, z49_1), (.tmp 3, z49_2), (.tmp 4, z49_3)] z49_4)] ⟨Qbx (vs := [(I ((-1)))]) rfl Qvf Qpb rfl (by rfl) rfl, Qbx (vs := [I 5, I 100]) rfl Qvf Qpb rfl (by rfl) rfl, Qbx (vs := [I 1, I 3, I 50, I 2]) rfl Qvf Qpb rfl (by rfl) rfl, Qbx (vs := [I 1, I 2, I 60, I 1]) rfl Qvf Qpb rfl (by rfl) rfl, Qbp (vs := [z49_0, z49_1, z49_2, z49_3]) rfl Try.underlying31 Qhz Qpb rfl (by decide) rfl (by decide) (by rfl) (by rfl) (by rfl) rfl, trivial⟩ ?_
  refine Qaf ?_
  obtain rfl := osi h
  exact fend ⟨[z49_4], ⟨rot (by kernel_rfl), trivial⟩, rfl⟩ (nld Qab _)
def Qkz (_N : Nat) : Option GDay :=
  some (⟨10, 0, [(⟨5, [(⟨20, 1⟩ : GStair)]⟩ : GHour), (⟨8, [(⟨5, 4⟩ : GStair)]⟩ : GHour), (⟨6, [(⟨9, 2⟩ : GStair)]⟩ : GHour)]⟩ : GDay)
def z50_1 : AV := .agg [(I (20)), (I (1))]
def Qtl : AV := .dat 2 (([(⟨20, 1⟩ : GStair)] : List GStair).map Qbk)
def z50_3 : AV := .agg [(I (5)), (I (4))]
def Qtk : AV := .dat 2 (([(⟨5, 4⟩ : GStair)] : List GStair).map Qbk)
def z50_5 : AV := .agg [(I (9)), (I (2))]
def Qtj : AV := .dat 2 (([(⟨9, 2⟩ : GStair)] : List GStair).map Qbk)
def Qus : AV := .dat 2 (([(⟨5, [(⟨20, 1⟩ : GStair)]⟩ : GHour), (⟨8, [(⟨5, 4⟩ : GStair)]⟩ : GHour), (⟨6, [(⟨9, 2⟩ : GStair)]⟩ : GHour)] : List GHour).map Qbu)
def z50_8 : AV := .agg [(I (10)), (I (0)), Qus]
set_option maxRecDepth 100000 in
set_option maxHeartbeats 4000000 in
theorem Qob (N : Nat) (r : GDay) (h : Qkz N = some r) : Spec Try.prog 65 [] [] (.agg (Qtb r)) [] := by
  refine Qaj Try.func65 rfl 0 (nle rfl) (fun X φ0 w0 hφ0 => ?_)
  unfold Qkz at h
  refine wx tbk [] trivial ?_
  refine wx tbk [(0, rp [ci 20, ci 1] z50_1), (1, rp [(.tmp 1, z50_1)] Qtl), (2, rp [ci 5, (.tmp 2, Qtl)] (.agg [I 5, Qtl])), (3, rp [ci 5, ci 4] z50_3), (4, rp [(.tmp 4, z50_3)] Qtk), (5, rp [ci 8, (.tmp 5, Qtk)] (.agg [I 8, Qtk])), (6, rp [ci 9, ci 2] z50_5), (7, rp [(.tmp 7, z50_5)] Qtj), (8, rp [ci 6, (.tmp 8, Qtj)] (.agg [I 6, Qtj])), (9, rp [(.tmp 3, (.agg [I 5, Qtl])), (.tmp 6, (.agg [I 8, Qtk])), (.tmp 9, (.agg [I 6, Qtj]))] Qus), (10, rp [ci 10, (.tmp 10, Qus)] z50_8)] ⟨Qbx (vs := [I 20, I 1]) rfl ts64 tz64 rfl (by rfl) rfl, Qbp (vs := [z50_1]) rfl Try.underlying60 ti64 tz64 rfl (by decide) rfl (by decide) (by rfl) (by rfl) (by rfl) rfl, Qbx (vs := [I 5, Qtl]) rfl ts62 tz62 rfl (by rfl) rfl, Qbx (vs := [I 5, I 4]) rfl ts64 tz64 rfl (by rfl) rfl, Qbp (vs := [z50_3]) rfl Try.underlying60 ti64 tz64 rfl (by decide) rfl (by decide) (by rfl) (by rfl) (by rfl) rfl, Qbx (vs := [I 8, Qtk]) rfl ts62 tz62 rfl (by rfl) rfl, Qbx (vs := [I 9, I 2]) rfl ts64 tz64 rfl (by rfl) rfl, Qbp (vs := [z50_5]) rfl Try.underlying60 ti64 tz64 rfl (by decide) rfl (by decide) (by rfl) (by rfl) (by rfl) rfl, Qbx (vs := [I 6, Qtj]) rfl ts62 tz62 rfl (by rfl) rfl, Qbp (vs := [(.agg [I 5, Qtl]), (.agg [I 8, Qtk]), (.agg [I 6, Qtj])]) rfl Try.underlying45 ti62 tz62 rfl (by decide) rfl (by decide) (by rfl) (by rfl) (by rfl) rfl, Qbx (vs := [I 10, Qus]) rfl ts47 tz47 rfl (by rfl) rfl, trivial⟩ ?_
  refine Qaf ?_
  obtain rfl := osi h
  exact fend ⟨[z50_8], ⟨Qf3 (n := 0) (m := 3) (j := 0) (i := 0) (xs := [[I 10, I 0, Qus]]) (by kernel_rfl) (by kernel_rfl) ti47 (by decide) rfl (nle rfl) rfl, trivial⟩, rfl⟩ (NLt.agg _ (nlc nll (nlc nll (nlc (nld Qak _) nl0))))
def Qef (N : Nat) (p0 : (List Int)) (p1 : (List Int)) (k2 : Unit → Option Bool) : Nat → Int → Option Bool
  | 0, _ => none
  | n5 + 1, y3 =>
    bif (decide (y3 < (p0.length : Int))) then
     (getI p0 y3).bind fun x7 =>
     (getI p1 y3).bind fun x11 =>
     bif (x7 != x11) then
      some false
     else
      Qef N p0 p1 k2 n5 (w64 (y3 + 1))
    else
     k2 ()
def Qh9 (N : Nat) (p0 : (List Int)) (p1 : (List Int)) : Option Bool :=
  bif ((p0.length : Int) != (p1.length : Int)) then
   some false
  else
   Qck (fun _ =>
     some true) fun k2 : Unit → Option Bool =>
   Qef N p0 p1 k2 N 0
def Qqh (p0 : (List Int)) : AV := .dat 1 ((p0 : List Int).map Qac)
def Qti (p1 : (List Int)) : AV := .dat 1 ((p1 : List Int).map Qac)
set_option maxRecDepth 100000 in
set_option maxHeartbeats 4000000 in
theorem Qcp (N : Nat) (p0 : (List Int)) (p1 : (List Int)) (r : Bool) (h : Qh9 N p0 p1 = some r) : Spec Try.prog 66 [(.dat 1 (p0.map Qac)), (.dat 1 (p1.map Qac))] [] (B r) [] := by
  refine Qaj Try.func66 rfl 0 (nle rfl) (fun X φ0 w0 hφ0 => ?_)
  unfold Qh9 at h
  refine wx tbk [] trivial ?_
  refine wsq ?_
  refine wx tbk [(1, rp [(.tmp 6, (Qqh p0))] (I ((p0.length : Int)))), (3, rp [(.tmp 8, (Qti p1))] (I ((p1.length : Int))))] ⟨alm (c := Qac) (l := p0) (aln rfl Try.underlying23 rfl), alm (c := Qac) (l := p1) (aln rfl Try.underlying23 rfl), trivial⟩ ?_
  rcases bft (((p0.length : Int) != (p1.length : Int))) with hc1 | hc1
  ·replace h := Qat hc1 h
   refine wft hc1 (by kernel_rfl) ?_
   refine wx tbk [] trivial ?_
   refine Qaf ?_
   refine Qai ?_
   obtain rfl := osi h
   exact fend ⟨[B false], ⟨rot (by kernel_rfl), trivial⟩, rfl⟩ nll
  ·replace h := Qau hc1 h
   refine wfn hc1 (by kernel_rfl) ?_
   refine Qah ?_
   refine thn ?_
   obtain ⟨k2, hk_k2, h⟩ := jko h
   refine wjn (τ := Unit) (fun t => k2 t = some r) (fun _ => ⟨mk 26 [], []⟩) (fun t h => ?_) ?_
   ·subst hk_k2
    refine wx tbk [] trivial ?_
    refine Qaf ?_
    obtain rfl := osi h
    exact fend ⟨[B true], ⟨rot (by kernel_rfl), trivial⟩, rfl⟩ nll
   ·skip
    refine wx tbk [] trivial ?_
    refine Qag ?_
    refine wmr (mto (n := 26) (l' := [(0, (Qqh p0)), (1, (Qti p1)), (5, I 0)]) (own' := []) [(0, (Qqh p0)), (1, (Qti p1)), (5, I 0)] [] [] hφ0 (pc (.rn (.plain _ (nld Qaa _))) (pc (.rn (.plain _ (nld Qaa _))) (pc rwl pn))) qn) ?_
    refine Qcc (τ := Int) (fun n t => Qef N p0 p1 k2 n t = some r) (fun y3 => ⟨mk 26 [(0, (Qqh p0)), (1, (Qti p1)), (5, I y3)], []⟩) (fun t h => by rw [Qef] at h; cases h) (fun n5 ih y3 h => ?_) N (0) h
    rw [Qef] at h
    skip
    refine wsq ?_
    refine wx tbk [(2, rp [(.tmp 12, (Qqh p0))] (I ((p0.length : Int))))] ⟨alm (c := Qac) (l := p0) (aln rfl Try.underlying23 rfl), trivial⟩ ?_
    rcases bft ((decide (y3 < (p0.length : Int)))) with hc6 | hc6
    ·replace h := Qat hc6 h
     refine wft hc6 (by kernel_rfl) ?_
     refine Qah ?_
     refine thn ?_
     refine wsq ?_
     refine Qag ?_
     obtain ⟨x7, hg8, h⟩ := bno h
     obtain ⟨hi9, hj10⟩ := gsm hg8
     obtain ⟨x11, hg12, h⟩ := bno h
     obtain ⟨hi13, hj14⟩ := gsm hg12
     refine wxd tbk [(2, rp [(.tmp 17, (Qqh p0)), (.tmp 18, I y3)] (.dptr (Qac (x7)) 0)), (6, rp [(.tmp 21, (Qti p1)), (.tmp 22, I y3)] (.dptr (Qac (x11)) 0))] ⟨aid rfl Try.underlying23 ti3 rfl rfl hi9 (mgt Qac hj10) rfl, aid rfl Try.underlying23 ti3 rfl rfl hi13 (mgt Qac hj14) rfl, trivial⟩ ?_
     rcases bft ((x7 != x11)) with hc15 | hc15
     ·replace h := Qat hc15 h
      refine wft hc15 (by kernel_rfl) ?_
      refine wx tbk [] trivial ?_
      refine Qaf ?_
      refine Qax ?_
      refine Qai ?_
      refine Qai ?_
      refine Qax ?_
      refine Qai ?_
      obtain rfl := osi h
      exact fend ⟨[B false], ⟨rot (by kernel_rfl), trivial⟩, rfl⟩ nll
     ·replace h := Qau hc15 h
      refine wfn hc15 (by kernel_rfl) ?_
      refine Qah ?_
      refine bln ?_
      refine thn ?_
      refine wx1 tbk [] trivial ?_
      refine thn ?_
      exact arm (mto (n := 26) [(0, (Qqh p0)), (1, (Qti p1)), (5, (I (w64 (y3 + 1))))] [] [] hφ0 (pc (.rn (.plain _ (nld Qaa _))) (pc (.rn (.plain _ (nld Qaa _))) (pc rwl pn))) qn) (ih (w64 (y3 + 1)) h)
    ·replace h := Qau hc6 h
     refine wfn hc6 (by kernel_rfl) ?_
     refine Qbe ?_
     refine Qap ?_
     refine Qap ?_
     refine Qbd rfl ?_
     refine thn ?_
     exact ⟨(), h, (mto (n := 26) [] [] [] hφ0 pn qn)⟩
def Qei (N : Nat) : Option Bool :=
  (Qia 2000 ).bind fun x2 =>
  (Qfj N x2 ([0, 10, 20, 30])).bind fun x4 =>
  (Qia 2000 ).bind fun x6 =>
  (Qf0 N x6 ([0, 10, 20, 30]) 60).bind fun x8 =>
  (Qhy N (⟨100, 50⟩ : GMeter)).bind fun x10 =>
  (Qkz 2000 ).bind fun x12 =>
  (Qho N x12).bind fun x14 =>
  bif (x4.2.2 == 0) then
   bif (x8.2.2 == 0) then
    bif (x10.2 == 0) then
     bif (x14.2.2.2 == 0) then
      (Qh9 N x4.1 ([70, 70, 23, 32])).bind fun x20 =>
      bif x20 then
       bif ((x8.1.length : Int) == 4) then
        (getI x8.1 1).bind fun x23 =>
        bif x23 then
         (getI x8.1 2).bind fun x28 =>
         bif (!x28) then
          (getI x8.1 3).bind fun x33 =>
          bif x33 then
           bif (x8.2.1 == 47) then
            bif (([x10.1.Lo, x10.1.Hi] : List Int) == [96, 105]) then
             (Qh9 N x14.1 ([15, 0, 4])).bind fun x41 =>
             bif x41 then
              bif ((x14.2.1.length : Int) == 3) then
               some (x14.2.2.1 == 23)
              else
               some false
             else
              some false
            else
             some false
           else
            some false
          else
           some false
         else
          some false
        else
         some false
       else
        some false
      else
       some false
     else
      some false
    else
     some false
   else
    some false
  else
   some false
def z48_0 (x2 : (List GNode)) : AV := .dat 4 ((x2 : List GNode).map Qad)
def Qtm : AV := .dat 1 (([0, 10, 20, 30] : List Int).map Qac)
def Qhi (x4 : ((List Int) × Int × Int)) : AV := .dat 1 ((x4.1 : List Int).map Qac)
def z48_3 (x6 : (List GNode)) : AV := .dat 4 ((x6 : List GNode).map Qad)
def Qfg (x8 : ((List Bool) × Int × Int)) : AV := .dat 1 ((x8.1 : List Bool).map Qa6)
def z48_5 : AV := .agg [(I (100)), (I (50))]
def Qut (x10 : (GRange × Int)) : AV := .agg [(I (x10.1.Lo)), (I (x10.1.Hi))]
def Quu (x12 : GDay) : AV := .agg [(I (x12.Tank)), (I (x12.Start)), (.dat 2 ((x12.Hours : List GHour).map Qbu))]
def Qlp (x14 : ((List Int) × (List Int) × Int × Int)) : AV := .dat 1 ((x14.1 : List Int).map Qac)
def Qd6 : AV := .dat 1 (([70, 70, 23, 32] : List Int).map Qac)
def Qk2 : AV := .agg [(I (96)), (I (105))]
def Qjw : AV := .dat 1 (([15, 0, 4] : List Int).map Qac)
set_option maxRecDepth 100000 in
set_option maxHeartbeats 4000000 in
theorem Qfa (N : Nat) (r : Bool) (h : Qei N = some r) : Spec Try.prog 21 [] [] (B r) [] := by
  refine Qaj Try.func21 rfl 0 (nle rfl) (fun X φ0 w0 hφ0 => ?_)
  unfold Qei at h
  refine wx tbk [] trivial ?_
  obtain ⟨x2, hf1, h⟩ := bno h
  obtain ⟨x4, hf3, h⟩ := bno h
  refine wx tbk [(0, rp [fu 64] (z48_0 x2)), (1, rp [ci 0, ci 10, ci 20, ci 30] Qtm), (2, rp [fu 36, (.tmp 14, (z48_0 x2)), (.tmp 15, Qtm)] (.tup [(Qhi x4), I x4.2.1, I x4.2.2]))] ⟨apc (first := []) (cap := []) (vs := []) rfl Qwp (Qjf 2000  _ hf1) rfl rfl nl0 (nld Qab _) rfl, Qbp (vs := [I 0, I 10, I 20, I 30]) rfl Try.underlying23 ti3 tz3 rfl (by decide) rfl (by decide) (by rfl) (by rfl) (by rfl) rfl, apc (first := []) (cap := []) (vs := [(z48_0 x2), Qtm]) rfl Qrc (Qjd N x2 ([0, 10, 20, 30]) _ hf3) rfl rfl (nlc (nld Qab _) (nlc (nld Qaa _) nl0)) (NLt.tup _ (nlc (nld Qaa _) (nlc nll (nlc nll nl0)))) rfl, trivial⟩ ?_
  obtain ⟨x6, hf5, h⟩ := bno h
  obtain ⟨x8, hf7, h⟩ := bno h
  refine wx tbk [(0, rp [fu 64] (z48_3 x6)), (1, rp [ci 0, ci 10, ci 20, ci 30] Qtm), (2, rp [fu 22, (.tmp 21, (z48_3 x6)), (.tmp 22, Qtm), ci 60] (.tup [(Qfg x8), I x8.2.1, I x8.2.2]))] ⟨apc (first := []) (cap := []) (vs := []) rfl Qwp (Qjf 2000  _ hf5) rfl rfl nl0 (nld Qab _) rfl, Qbp (vs := [I 0, I 10, I 20, I 30]) rfl Try.underlying23 ti3 tz3 rfl (by decide) rfl (by decide) (by rfl) (by rfl) (by rfl) rfl, apc (first := []) (cap := []) (vs := [(z48_3 x6), Qtm, I 60]) rfl Qws (Qjc N x6 ([0, 10, 20, 30]) 60 _ hf7) rfl rfl (nlc (nld Qab _) (nlc (nld Qaa _) (nlc nll nl0))) (NLt.tup _ (nlc (nld Qcx _) (nlc nll (nlc nll nl0)))) rfl, trivial⟩ ?_
  obtain ⟨x10, hf9, h⟩ := bno h
  refine wx tbk [(0, rp [ci 100, ci 50] z48_5), (1, rp [fu 47, (.tmp 28, z48_5)] (.tup [(Qut x10), I x10.2]))] ⟨Qbx (vs := [I 100, I 50]) rfl ts96 tz96 rfl (by rfl) rfl, apc (first := []) (cap := []) (vs := [z48_5]) rfl enter47 (Qle N (⟨100, 50⟩ : GMeter) _ hf9) rfl rfl (nlc (NLt.agg _ (nlc nll (nlc nll nl0))) nl0) (NLt.tup _ (nlc (NLt.agg _ (nlc nll (nlc nll nl0))) (nlc nll nl0))) rfl, trivial⟩ ?_
  obtain ⟨x12, hf11, h⟩ := bno h
  obtain ⟨x14, hf13, h⟩ := bno h
  refine wx tbk [(0, rp [fu 65] (Quu x12)), (1, rp [fu 30, (.tmp 33, (Quu x12))] (.tup [(Qlp x14), (.dat 1 ((x14.2.1 : List Int).map Qac)), I x14.2.2.1, I x14.2.2.2]))] ⟨apc (first := []) (cap := []) (vs := []) rfl enter65 (Qob 2000  _ hf11) rfl rfl nl0 (NLt.agg _ (nlc nll (nlc nll (nlc (nld Qak _) nl0)))) rfl, apc (first := []) (cap := []) (vs := [(Quu x12)]) rfl enter30 (Qkt N x12 _ hf13) rfl rfl (nlc (NLt.agg _ (nlc nll (nlc nll (nlc (nld Qak _) nl0)))) nl0) (NLt.tup _ (nlc (nld Qaa _) (nlc (nld Qaa _) (nlc nll (nlc nll nl0))))) rfl, trivial⟩ ?_
  rcases bft ((x4.2.2 == 0)) with hb15 | hb15
  ·replace h := Qat hb15 h
   rcases bft ((x8.2.2 == 0)) with hb16 | hb16
   ·replace h := Qat hb16 h
    rcases bft ((x10.2 == 0)) with hb17 | hb17
    ·replace h := Qat hb17 h
     rcases bft ((x14.2.2.2 == 0)) with hb18 | hb18
     ·replace h := Qat hb18 h
      obtain ⟨x20, hf19, h⟩ := bno h
      rcases bft (x20) with hb21 | hb21
      ·replace h := Qat hb21 h
       rcases bft (((x8.1.length : Int) == 4)) with hb22 | hb22
       ·replace h := Qat hb22 h
        obtain ⟨x23, hg24, h⟩ := bno h
        obtain ⟨hi25, hj26⟩ := gsm hg24
        rcases bft (x23) with hb27 | hb27
        ·replace h := Qat hb27 h
         obtain ⟨x28, hg29, h⟩ := bno h
         obtain ⟨hi30, hj31⟩ := gsm hg29
         rcases bft ((!x28)) with hb32 | hb32
         ·replace h := Qat hb32 h
          obtain ⟨x33, hg34, h⟩ := bno h
          obtain ⟨hi35, hj36⟩ := gsm hg34
          rcases bft (x33) with hb37 | hb37
          ·replace h := Qat hb37 h
           rcases bft ((x8.2.1 == 47)) with hb38 | hb38
           ·replace h := Qat hb38 h
            rcases bft ((([x10.1.Lo, x10.1.Hi] : List Int) == [96, 105])) with hb39 | hb39
            ·replace h := Qat hb39 h
             obtain ⟨x41, hf40, h⟩ := bno h
             rcases bft (x41) with hb42 | hb42
             ·replace h := Qat hb42 h
              rcases bft (((x14.2.1.length : Int) == 3)) with hb43 | hb43
              ·replace h := Qat hb43 h
               refine wx tbk [(2, rp [(.tmp 40, (B ((x4.2.2 == 0))))] (B true)), (6, rp [(.tmp 44, (B ((x8.2.2 == 0))))] (B true)), (10, rp [(.tmp 48, (B ((x10.2 == 0))))] (B true)), (14, rp [(.tmp 52, (B ((x14.2.2.2 == 0))))] (B true)), (16, rp [(.tmp 53, B true), ci 70, ci 70, ci 23, ci 32] Qd6), (17, rp [(.tmp 53, B true), fu 66, (.tmp 54, (Qhi x4)), (.tmp 55, Qd6)] (B x20)), (19, rp [(.tmp 57, B x20)] (B true)), (21, rp [(.tmp 58, B true), (.tmp 59, (Qfg x8))] (I ((x8.1.length : Int)))), (24, rp [(.tmp 62, (B (((x8.1.length : Int) == 4))))] (B true)), (26, rp [(.tmp 63, B true), (.tmp 64, (Qfg x8)), ci 1] (.dptr (Qa6 (x23)) 0)), (29, rp [(.tmp 67, B x23)] (B true)), (31, rp [(.tmp 68, B true), (.tmp 69, (Qfg x8)), ci 2] (.dptr (Qa6 (x28)) 0)), (35, rp [(.tmp 73, (B ((!x28))))] (B true)), (37, rp [(.tmp 74, B true), (.tmp 75, (Qfg x8)), ci 3] (.dptr (Qa6 (x33)) 0)), (40, rp [(.tmp 78, B x33)] (B true)), (44, rp [(.tmp 82, (B ((x8.2.1 == 47))))] (B true)), (46, rp [(.tmp 83, B true), ci 96, ci 105] Qk2), (47, rp [(.tmp 83, B true), (.tmp 84, (Qut x10)), (.tmp 85, Qk2)] (B ((([x10.1.Lo, x10.1.Hi] : List Int) == [96, 105])))), (49, rp [(.tmp 87, (B ((([x10.1.Lo, x10.1.Hi] : List Int) == [96, 105]))))] (B true)), (51, rp [(.tmp 88, B true), ci 15, ci 0, ci 4] Qjw), (52, rp [(.tmp 88, B true), fu 66, (.tmp 89, (Qlp x14)), (.tmp 90, Qjw)] (B x41)), (54, rp [(.tmp 92, B x41)] (B true)), (56, rp [(.tmp 93, B true), (.tmp 94, (.dat 1 ((x14.2.1 : List Int).map Qac)))] (I ((x14.2.1.length : Int)))), (59, rp [(.tmp 97, (B (((x14.2.1.length : Int) == 3))))] (B true))] ⟨asb hb15 (amv rfl), asb hb16 (amv rfl), asb hb17 (amv rfl), asb hb18 (amv rfl), ag_ (Qbp (vs := [I 70, I 70, I 23, I 32]) rfl Try.underlying23 ti3 tz3 rfl (by decide) rfl (by decide) (by rfl) (by rfl) (by rfl) rfl), ag_ (apc (first := []) (cap := []) (vs := [(Qhi x4), Qd6]) rfl Qf5 (Qcp N x4.1 ([70, 70, 23, 32]) _ hf19) rfl rfl (nlc (nld Qaa _) (nlc (nld Qaa _) nl0)) nll rfl), asb hb21 (amv rfl), ag_ (alm (c := Qa6) (l := x8.1) (aln rfl Try.underlying26 rfl)), asb hb22 (amv rfl), ag_ (aid rfl Try.underlying26 ti4 rfl rfl hi25 (mgt Qa6 hj26) rfl), asb hb27 (amv rfl), ag_ (aid rfl Try.underlying26 ti4 rfl rfl hi30 (mgt Qa6 hj31) rfl), asb hb32 (amv rfl), ag_ (aid rfl Try.underlying26 ti4 rfl rfl hi35 (mgt Qa6 hj36) rfl), asb hb37 (amv rfl), asb hb38 (amv rfl), ag_ (Qbx (vs := [I 96, I 105]) rfl ts93 tz93 rfl (by rfl) rfl), ag_ (Qkk (ls := [x10.1.Lo, x10.1.Hi]) (ks := [96, 105]) rfl rfl Qyn (by kernel_rfl) rfl rfl), asb hb39 (amv rfl), ag_ (Qbp (vs := [I 15, I 0, I 4]) rfl Try.underlying23 ti3 tz3 rfl (by decide) rfl (by decide) (by rfl) (by rfl) (by rfl) rfl), ag_ (apc (first := []) (cap := []) (vs := [(Qlp x14), Qjw]) rfl Qf5 (Qcp N x14.1 ([15, 0, 4]) _ hf40) rfl rfl (nlc (nld Qaa _) (nlc (nld Qaa _) nl0)) nll rfl), asb hb42 (amv rfl), ag_ (alm (c := Qac) (l := x14.2.1) (aln rfl Try.underlying23 rfl)), asb hb43 (amv rfl), trivial⟩ ?_
               refine Qaf ?_
               obtain rfl := osi h
               exact fend ⟨[(B ((x14.2.2.1 == 23)))], ⟨rot (by kernel_rfl), trivial⟩, rfl⟩ nll
              ·replace h := Qau hb43 h
               refine wx tbk [(2, rp [(.tmp 40, (B ((x4.2.2 == 0))))] (B true)), (6, rp [(.tmp 44, (B ((x8.2.2 == 0))))] (B true)), (10, rp [(.tmp 48, (B ((x10.2 == 0))))] (B true)), (14, rp [(.tmp 52, (B ((x14.2.2.2 == 0))))] (B true)), (16, rp [(.tmp 53, B true), ci 70, ci 70, ci 23, ci 32] Qd6), (17, rp [(.tmp 53, B true), fu 66, (.tmp 54, (Qhi x4)), (.tmp 55, Qd6)] (B x20)), (19, rp [(.tmp 57, B x20)] (B true)), (21, rp [(.tmp 58, B true), (.tmp 59, (Qfg x8))] (I ((x8.1.length : Int)))), (24, rp [(.tmp 62, (B (((x8.1.length : Int) == 4))))] (B true)), (26, rp [(.tmp 63, B true), (.tmp 64, (Qfg x8)), ci 1] (.dptr (Qa6 (x23)) 0)), (29, rp [(.tmp 67, B x23)] (B true)), (31, rp [(.tmp 68, B true), (.tmp 69, (Qfg x8)), ci 2] (.dptr (Qa6 (x28)) 0)), (35, rp [(.tmp 73, (B ((!x28))))] (B true)), (37, rp [(.tmp 74, B true), (.tmp 75, (Qfg x8)), ci 3] (.dptr (Qa6 (x33)) 0)), (40, rp [(.tmp 78, B x33)] (B true)), (44, rp [(.tmp 82, (B ((x8.2.1 == 47))))] (B true)), (46, rp [(.tmp 83, B true), ci 96, ci 105] Qk2), (47, rp [(.tmp 83, B true), (.tmp 84, (Qut x10)), (.tmp 85, Qk2)] (B ((([x10.1.Lo, x10.1.Hi] : List Int) == [96, 105])))), (49, rp [(.tmp 87, (B ((([x10.1.Lo, x10.1.Hi] : List Int) == [96, 105]))))] (B true)), (51, rp [(.tmp 88, B true), ci 15, ci 0, ci 4] Qjw), (52, rp [(.tmp 88, B true), fu 66, (.tmp 89, (Qlp x14)), (.tmp 90, Qjw)] (B x41)), (54, rp [(.tmp 92, B x41)] (B true)), (56, rp [(.tmp 93, B true), (.tmp 94, (.dat 1 ((x14.2.1 : List Int).map Qac)))] (I ((x14.2.1.length : Int)))), (59, rp [(.tmp 97, (B (((x14.2.1.length : Int) == 3))))] (B false))] ⟨asb hb15 (amv rfl), asb hb16 (amv rfl), asb hb17 (amv rfl), asb hb18 (amv rfl), ag_ (Qbp (vs := [I 70, I 70, I 23, I 32]) rfl Try.underlying23 ti3 tz3 rfl (by decide) rfl (by decide) (by rfl) (by rfl) (by rfl) rfl), ag_ (apc (first := []) (cap := []) (vs := [(Qhi x4), Qd6]) rfl Qf5 (Qcp N x4.1 ([70, 70, 23, 32]) _ hf19) rfl rfl (nlc (nld Qaa _) (nlc (nld Qaa _) nl0)) nll rfl), asb hb21 (amv rfl), ag_ (alm (c := Qa6) (l := x8.1) (aln rfl Try.underlying26 rfl)), asb hb22 (amv rfl), ag_ (aid rfl Try.underlying26 ti4 rfl rfl hi25 (mgt Qa6 hj26) rfl), asb hb27 (amv rfl), ag_ (aid rfl Try.underlying26 ti4 rfl rfl hi30 (mgt Qa6 hj31) rfl), asb hb32 (amv rfl), ag_ (aid rfl Try.underlying26 ti4 rfl rfl hi35 (mgt Qa6 hj36) rfl), asb hb37 (amv rfl), asb hb38 (amv rfl), ag_ (Qbx (vs := [I 96, I 105]) rfl ts93 tz93 rfl (by rfl) rfl), ag_ (Qkk (ls := [x10.1.Lo, x10.1.Hi]) (ks := [96, 105]) rfl rfl Qyn (by kernel_rfl) rfl rfl), asb hb39 (amv rfl), ag_ (Qbp (vs := [I 15, I 0, I 4]) rfl Try.underlying23 ti3 tz3 rfl (by decide) rfl (by decide) (by rfl) (by rfl) (by rfl) rfl), ag_ (apc (first := []) (cap := []) (vs := [(Qlp x14), Qjw]) rfl Qf5 (Qcp N x14.1 ([15, 0, 4]) _ hf40) rfl rfl (nlc (nld Qaa _) (nlc (nld Qaa _) nl0)) nll rfl), asb hb42 (amv rfl), ag_ (alm (c := Qac) (l := x14.2.1) (aln rfl Try.underlying23 rfl)), asb hb43 (amv rfl), trivial⟩ ?_
               refine Qaf ?_
               obtain rfl := osi h
               exact fend ⟨[B false], ⟨rot (by kernel_rfl), trivial⟩, rfl⟩ nll
             ·replace h := Qau hb42 h
              refine wx tbk [(2, rp [(.tmp 40, (B ((x4.2.2 == 0))))] (B true)), (6, rp [(.tmp 44, (B ((x8.2.2 == 0))))] (B true)), (10, rp [(.tmp 48, (B ((x10.2 == 0))))] (B true)), (14, rp [(.tmp 52, (B ((x14.2.2.2 == 0))))] (B true)), (16, rp [(.tmp 53, B true), ci 70, ci 70, ci 23, ci 32] Qd6), (17, rp [(.tmp 53, B true), fu 66, (.tmp 54, (Qhi x4)), (.tmp 55, Qd6)] (B x20)), (19, rp [(.tmp 57, B x20)] (B true)), (21, rp [(.tmp 58, B true), (.tmp 59, (Qfg x8))] (I ((x8.1.length : Int)))), (24, rp [(.tmp 62, (B (((x8.1.length : Int) == 4))))] (B true)), (26, rp [(.tmp 63, B true), (.tmp 64, (Qfg x8)), ci 1] (.dptr (Qa6 (x23)) 0)), (29, rp [(.tmp 67, B x23)] (B true)), (31, rp [(.tmp 68, B true), (.tmp 69, (Qfg x8)), ci 2] (.dptr (Qa6 (x28)) 0)), (35, rp [(.tmp 73, (B ((!x28))))] (B true)), (37, rp [(.tmp 74, B true), (.tmp 75, (Qfg x8)), ci 3] (.dptr (Qa6 (x33)) 0)), (40, rp [(.tmp 78, B x33)] (B true)), (44, rp [(.tmp 82, (B ((x8.2.1 == 47))))] (B true)), (46, rp [(.tmp 83, B true), ci 96, ci 105] Qk2), (47, rp [(.tmp 83, B true), (.tmp 84, (Qut x10)), (.tmp 85, Qk2)] (B ((([x10.1.Lo, x10.1.Hi] : List Int) == [96, 105])))), (49, rp [(.tmp 87, (B ((([x10.1.Lo, x10.1.Hi] : List Int) == [96, 105]))))] (B true)), (51, rp [(.tmp 88, B true), ci 15, ci 0, ci 4] Qjw), (52, rp [(.tmp 88, B true), fu 66, (.tmp 89, (Qlp x14)), (.tmp 90, Qjw)] (B x41)), (54, rp [(.tmp 92, B x41)] (B false))] ⟨asb hb15 (amv rfl), asb hb16 (amv rfl), asb hb17 (amv rfl), asb hb18 (amv rfl), ag_ (Qbp (vs := [I 70, I 70, I 23, I 32]) rfl Try.underlying23 ti3 tz3 rfl (by decide) rfl (by decide) (by rfl) (by rfl) (by rfl) rfl), ag_ (apc (first := []) (cap := []) (vs := [(Qhi x4), Qd6]) rfl Qf5 (Qcp N x4.1 ([70, 70, 23, 32]) _ hf19) rfl rfl (nlc (nld Qaa _) (nlc (nld Qaa _) nl0)) nll rfl), asb hb21 (amv rfl), ag_ (alm (c := Qa6) (l := x8.1) (aln rfl Try.underlying26 rfl)), asb hb22 (amv rfl), ag_ (aid rfl Try.underlying26 ti4 rfl rfl hi25 (mgt Qa6 hj26) rfl), asb hb27 (amv rfl), ag_ (aid rfl Try.underlying26 ti4 rfl rfl hi30 (mgt Qa6 hj31) rfl), asb hb32 (amv rfl), ag_ (aid rfl Try.underlying26 ti4 rfl rfl hi35 (mgt Qa6 hj36) rfl), asb hb37 (amv rfl), asb hb38 (amv rfl), ag_ (Qbx (vs := [I 96, I 105]) rfl ts93 tz93 rfl (by rfl) rfl), ag_ (Qkk (ls := [x10.1.Lo, x10.1.Hi]) (ks := [96, 105]) rfl rfl Qyn (by kernel_rfl) rfl rfl), asb hb39 (amv rfl), ag_ (Qbp (vs := [I 15, I 0, I 4]) rfl Try.underlying23 ti3 tz3 rfl (by decide) rfl (by decide) (by rfl) (by rfl) (by rfl) rfl), ag_ (apc (first := []) (cap := []) (vs := [(Qlp x14), Qjw]) rfl Qf5 (Qcp N x14.1 ([15, 0, 4]) _ hf40) rfl rfl (nlc (nld Qaa _) (nlc (nld Qaa _) nl0)) nll rfl), asb hb42 (amv rfl), trivial⟩ ?_
              refine Qaf ?_
              obtain rfl := osi h
              exact fend ⟨[B false], ⟨rot (by kernel_rfl), trivial⟩, rfl⟩ nll
            ·replace h := Qau hb39 h
             refine wx tbk [(2, rp [(.tmp 40, (B ((x4.2.2 == 0))))] (B true)), (6, rp [(.tmp 44, (B ((x8.2.2 == 0))))] (B true)), (10, rp [(.tmp 48, (B ((x10.2 == 0))))] (B true)), (14, rp [(.tmp 52, (B ((x14.2.2.2 == 0))))] (B true)), (16, rp [(.tmp 53, B true), ci 70, ci 70, ci 23, ci 32] Qd6), (17, rp [(.tmp 53, B true), fu 66, (.tmp 54, (Qhi x4)), (.tmp 55, Qd6)] (B x20)), (19, rp [(.tmp 57, B x20)] (B true)), (21, rp [(.tmp 58, B true), (.tmp 59, (Qfg x8))] (I ((x8.1.length : Int)))), (24, rp [(.tmp 62, (B (((x8.1.length : Int) == 4))))] (B true)), (26, rp [(.tmp 63, B true), (.tmp 64, (Qfg x8)), ci 1] (.dptr (Qa6 (x23)) 0)), (29, rp [(.tmp 67, B x23)] (B true)), (31, rp [(.tmp 68, B true), (.tmp 69, (Qfg x8)), ci 2] (.dptr (Qa6 (x28)) 0)), (35, rp [(.tmp 73, (B ((!x28))))] (B true)), (37, rp [(.tmp 74, B true), (.tmp 75, (Qfg x8)), ci 3] (.dptr (Qa6 (x33)) 0)), (40, rp [(.tmp 78, B x33)] (B true)), (44, rp [(.tmp 82, (B ((x8.2.1 == 47))))] (B true)), (46, rp [(.tmp 83, B true), ci 96, ci 105] Qk2), (47, rp [(.tmp 83, B true), (.tmp 84, (Qut x10)), (.tmp 85, Qk2)] (B ((([x10.1.Lo, x10.1.Hi] : List Int) == [96, 105])))), (49, rp [(.tmp 87, (B ((([x10.1.Lo, x10.1.Hi] : List Int) == [96, 105]))))] (B false))] ⟨asb hb15 (amv rfl), asb hb16 (amv rfl), asb hb17 (amv rfl), asb hb18 (amv rfl), ag_ (Qbp (vs := [I 70, I 70, I 23, I 32]) rfl Try.underlying23 ti3 tz3 rfl (by decide) rfl (by decide) (by rfl) (by rfl) (by rfl) rfl), ag_ (apc (first := []) (cap := []) (vs := [(Qhi x4), Qd6]) rfl Qf5 (Qcp N x4.1 ([70, 70, 23, 32]) _ hf19) rfl rfl (nlc (nld Qaa _) (nlc (nld Qaa _) nl0)) nll rfl), asb hb21 (amv rfl), ag_ (alm (c := Qa6) (l := x8.1) (aln rfl Try.underlying26 rfl)), asb hb22 (amv rfl), ag_ (aid rfl Try.underlying26 ti4 rfl rfl hi25 (mgt Qa6 hj26) rfl), asb hb27 (amv rfl), ag_ (aid rfl Try.underlying26 ti4 rfl rfl hi30 (mgt Qa6 hj31) rfl), asb hb32 (amv rfl), ag_ (aid rfl Try.underlying26 ti4 rfl rfl hi35 (mgt Qa6 hj36) rfl), asb hb37 (amv rfl), asb hb38 (amv rfl), ag_ (Qbx (vs := [I 96, I 105]) rfl ts93 tz93 rfl (by rfl) rfl), ag_ (Qkk (ls := [x10.1.Lo, x10.1.Hi]) (ks := [96, 105]) rfl rfl Qyn (by kernel_rfl) rfl rfl), asb hb39 (amv rfl), trivial⟩ ?_
             refine Qaf ?_
             obtain rfl := osi h
             exact fend ⟨[B false], ⟨rot (by kernel_rfl), trivial⟩, rfl⟩ nll
           ·replace h := Qau hb38 h
            refine wx tbk [(2, rp [(.tmp 40, (B ((x4.2.2 == 0))))] (B true)), (6, rp [(.tmp 44, (B ((x8.2.2 == 0))))] (B true)), (10, rp [(.tmp 48, (B ((x10.2 == 0))))] (B true)), (14, rp [(.tmp 52, (B ((x14.2.2.2 == 0))))] (B true)), (16, rp [(.tmp 53, B true), ci 70, ci 70, ci 23, ci 32] Qd6), (17, rp [(.tmp 53, B true), fu 66, (.tmp 54, (Qhi x4)), (.tmp 55, Qd6)] (B x20)), (19, rp [(.tmp 57, B x20)] (B true)), (21, rp [(.tmp 58, B true), (.tmp 59, (Qfg x8))] (I ((x8.1.length : Int)))), (24, rp [(.tmp 62, (B (((x8.1.length : Int) == 4))))] (B true)), (26, rp [(.tmp 63, B true), (.tmp 64, (Qfg x8)), ci 1] (.dptr (Qa6 (x23)) 0)), (29, rp [(.tmp 67, B x23)] (B true)), (31, rp [(.tmp 68, B true), (.tmp 69, (Qfg x8)), ci 2] (.dptr (Qa6 (x28)) 0)), (35, rp [(.tmp 73, (B ((!x28))))] (B true)), (37, rp [(.tmp 74, B true), (.tmp 75, (Qfg x8)), ci 3] (.dptr (Qa6 (x33)) 0)), (40, rp [(.tmp 78, B x33)] (B true)), (44, rp [(.tmp 82, (B ((x8.2.1 == 47))))] (B false))] ⟨asb hb15 (amv rfl), asb hb16 (amv rfl), asb hb17 (amv rfl), asb hb18 (amv rfl), ag_ (Qbp (vs := [I 70, I 70, I 23, I 32]) rfl Try.underlying23 ti3 tz3 rfl (by decide) rfl (by decide) (by rfl) (by rfl) (by rfl) rfl), ag_ (apc (first := []) (cap := []) (vs := [(Qhi x4), Qd6]) rfl Qf5 (Qcp N x4.1 ([70, 70, 23, 32]) _ hf19) rfl rfl (nlc (nld Qaa _) (nlc (nld Qaa _) nl0)) nll rfl), asb hb21 (amv rfl), ag_ (alm (c := Qa6) (l := x8.1) (aln rfl Try.underlying26 rfl)), asb hb22 (amv rfl), ag_ (aid rfl Try.underlying26 ti4 rfl rfl hi25 (mgt Qa6 hj26) rfl), asb hb27 (amv rfl), ag_ (aid rfl Try.underlying26 ti4 rfl rfl hi30 (mgt Qa6 hj31) rfl), asb hb32 (amv rfl), ag_ (aid rfl Try.underlying26 ti4 rfl rfl hi35 (mgt Qa6 hj36) rfl), asb hb37 (amv rfl), asb hb38 (amv rfl), trivial⟩ ?_
            refine Qaf ?_
            obtain rfl := osi h
            exact fend ⟨[B false], ⟨rot (by kernel_rfl), trivial⟩, rfl⟩ nll
          ·replace h := Qau hb37 h
           refine wx tbk [(2, rp [(.tmp 40, (B ((x4.2.2 == 0))))] (B true)), (6, rp [(.tmp 44, (B ((x8.2.2 == 0))))] (B true)), (10, rp [(.tmp 48, (B ((x10.2 == 0))))] (B true)), (14, rp [(.tmp 52, (B ((x14.2.2.2 == 0))))] (B true)), (16, rp [(.tmp 53, B true), ci 70, ci 70, ci 23, ci 32] Qd6), (17, rp [(.tmp 53, B true), fu 66, (.tmp 54, (Qhi x4)), (.tmp 55, Qd6)] (B x20)), (19, rp [(.tmp 57, B x20)] (B true)), (21, rp [(.tmp 58, B true), (.tmp 59, (Qfg x8))] (I ((x8.1.length : Int)))), (24, rp [(.tmp 62, (B (((x8.1.length : Int) == 4))))] (B true)), (26, rp [(.tmp 63, B true), (.tmp 64, (Qfg x8)), ci 1] (.dptr (Qa6 (x23)) 0)), (29, rp [(.tmp 67, B x23)] (B true)), (31, rp [(.tmp 68, B true), (.tmp 69, (Qfg x8)), ci 2] (.dptr (Qa6 (x28)) 0)), (35, rp [(.tmp 73, (B ((!x28))))] (B true)), (37, rp [(.tmp 74, B true), (.tmp 75, (Qfg x8)), ci 3] (.dptr (Qa6 (x33)) 0)), (40, rp [(.tmp 78, B x33)] (B false))] ⟨asb hb15 (amv rfl), asb hb16 (amv rfl), asb hb17 (amv rfl), asb hb18 (amv rfl), ag_ (Qbp (vs := [I 70, I 70, I 23, I 32]) rfl Try.underlying23 ti3 tz3 rfl (by decide) rfl (by decide) (by rfl) (by rfl) (by rfl) rfl), ag_ (apc (first := []) (cap := []) (vs := [(Qhi x4), Qd6]) rfl Qf5 (Qcp N x4.1 ([70, 70, 23, 32]) _ hf19) rfl rfl (nlc (nld Qaa _) (nlc (nld Qaa _) nl0)) nll rfl), asb hb21 (amv rfl), ag_ (alm (c := Qa6) (l := x8.1) (aln rfl Try.underlying26 rfl)), asb hb22 (amv rfl), ag_ (aid rfl Try.underlying26 ti4 rfl rfl hi25 (mgt Qa6 hj26) rfl), asb hb27 (amv rfl), ag_ (aid rfl Try.underlying26 ti4 rfl rfl hi30 (mgt Qa6 hj31) rfl), asb hb32 (amv rfl), ag_ (aid rfl Try.underlying26 ti4 rfl rfl hi35 (mgt Qa6 hj36) rfl), asb hb37 (amv rfl), trivial⟩ ?_
           refine Qaf ?_
           obtain rfl := osi h
           exact fend ⟨[B false], ⟨rot (by kernel_rfl), trivial⟩, rfl⟩ nll
         ·replace h := Qau hb32 h
          refine wx tbk [(2, rp [(.tmp 40, (B ((x4.2.2 == 0))))] (B true)), (6, rp [(.tmp 44, (B ((x8.2.2 == 0))))] (B true)), (10, rp [(.tmp 48, (B ((x10.2 == 0))))] (B true)), (14, rp [(.tmp 52, (B ((x14.2.2.2 == 0))))] (B true)), (16, rp [(.tmp 53, B true), ci 70, ci 70, ci 23, ci 32] Qd6), (17, rp [(.tmp 53, B true), fu 66, (.tmp 54, (Qhi x4)), (.tmp 55, Qd6)] (B x20)), (19, rp [(.tmp 57, B x20)] (B true)), (21, rp [(.tmp 58, B true), (.tmp 59, (Qfg x8))] (I ((x8.1.length : Int)))), (24, rp [(.tmp 62, (B (((x8.1.length : Int) == 4))))] (B true)), (26, rp [(.tmp 63, B true), (.tmp 64, (Qfg x8)), ci 1] (.dptr (Qa6 (x23)) 0)), (29, rp [(.tmp 67, B x23)] (B true)), (31, rp [(.tmp 68, B true), (.tmp 69, (Qfg x8)), ci 2] (.dptr (Qa6 (x28)) 0)), (35, rp [(.tmp 73, (B ((!x28))))] (B false))] ⟨asb hb15 (amv rfl), asb hb16 (amv rfl), asb hb17 (amv rfl), asb hb18 (amv rfl), ag_ (Qbp (vs := [I 70, I 70, I 23, I 32]) rfl Try.underlying23 ti3 tz3 rfl (by decide) rfl (by decide) (by rfl) (by rfl) (by rfl) rfl), ag_ (apc (first := []) (cap := []) (vs := [(Qhi x4), Qd6]) rfl Qf5 (Qcp N x4.1 ([70, 70, 23, 32]) _ hf19) rfl rfl (nlc (nld Qaa _) (nlc (nld Qaa _) nl0)) nll rfl), asb hb21 (amv rfl), ag_ (alm (c := Qa6) (l := x8.1) (aln rfl Try.underlying26 rfl)), asb hb22 (amv rfl), ag_ (aid rfl Try.underlying26 ti4 rfl rfl hi25 (mgt Qa6 hj26) rfl), asb hb27 (amv rfl), ag_ (aid rfl Try.underlying26 ti4 rfl rfl hi30 (mgt Qa6 hj31) rfl), asb hb32 (amv rfl), trivial⟩ ?_
          refine Qaf ?_
          obtain rfl := osi h
          exact fend ⟨[B false], ⟨rot (by kernel_rfl), trivial⟩, rfl⟩ nll
        ·replace h := Qau hb27 h
         refine wx tbk [(2, rp [(.tmp 40, (B ((x4.2.2 == 0))))] (B true)), (6, rp [(.tmp 44, (B ((x8.2.2 == 0))))] (B true)), (10, rp [(.tmp 48, (B ((x10.2 == 0))))] (B true)), (14, rp [(.tmp 52, (B ((x14.2.2.2 == 0))))] (B true)), (16, rp [(.tmp 53, B true), ci 70, ci 70, ci 23, ci 32] Qd6), (17, rp [(.tmp 53, B true), fu 66, (.tmp 54, (Qhi x4)), (.tmp 55, Qd6)] (B x20)), (19, rp [(.tmp 57, B x20)] (B true)), (21, rp [(.tmp 58, B true), (.tmp 59, (Qfg x8))] (I ((x8.1.length : Int)))), (24, rp [(.tmp 62, (B (((x8.1.length : Int) == 4))))] (B true)), (26, rp [(.tmp 63, B true), (.tmp 64, (Qfg x8)), ci 1] (.dptr (Qa6 (x23)) 0)), (29, rp [(.tmp 67, B x23)] (B false))] ⟨asb hb15 (amv rfl), asb hb16 (amv rfl), asb hb17 (amv rfl), asb hb18 (amv rfl), ag_ (Qbp (vs := [I 70, I 70, I 23, I 32]) rfl Try.underlying23 ti3 tz3 rfl (by decide) rfl (by decide) (by rfl) (by rfl) (by rfl) rfl), ag_ (apc (first := []) (cap := []) (vs := [(Qhi x4), Qd6]) rfl Qf5 (Qcp N x4.1 ([70, 70, 23, 32]) _ hf19) rfl rfl (nlc (nld Qaa _) (nlc (nld Qaa _) nl0)) nll rfl), asb hb21 (amv rfl), ag_ (alm (c := Qa6) (l := x8.1) (aln rfl Try.underlying26 rfl)), asb hb22 (amv rfl), ag_ (aid rfl Try.underlying26 ti4 rfl rfl hi25 (mgt Qa6 hj26) rfl), asb hb27 (amv rfl), trivial⟩ ?_
         refine Qaf ?_
         obtain rfl := osi h
         exact fend ⟨[B false], ⟨rot (by kernel_rfl), trivial⟩, rfl⟩ nll
       ·replace h := Qau hb22 h
        refine wx tbk [(2, rp [(.tmp 40, (B ((x4.2.2 == 0))))] (B true)), (6, rp [(.tmp 44, (B ((x8.2.2 == 0))))] (B true)), (10, rp [(.tmp 48, (B ((x10.2 == 0))))] (B true)), (14, rp [(.tmp 52, (B ((x14.2.2.2 == 0))))] (B true)), (16, rp [(.tmp 53, B true), ci 70, ci 70, ci 23, ci 32] Qd6), (17, rp [(.tmp 53, B true), fu 66, (.tmp 54, (Qhi x4)), (.tmp 55, Qd6)] (B x20)), (19, rp [(.tmp 57, B x20)] (B true)), (21, rp [(.tmp 58, B true), (.tmp 59, (Qfg x8))] (I ((x8.1.length : Int)))), (24, rp [(.tmp 62, (B (((x8.1.length : Int) == 4))))] (B false))] ⟨asb hb15 (amv rfl), asb hb16 (amv rfl), asb hb17 (amv rfl), asb hb18 (amv rfl), ag_ (Qbp (vs := [I 70, I 70, I 23, I 32]) rfl Try.underlying23 ti3 tz3 rfl (by decide) rfl (by decide) (by rfl) (by rfl) (by rfl) rfl), ag_ (apc (first := []) (cap := []) (vs := [(Qhi x4), Qd6]) rfl Qf5 (Qcp N x4.1 ([70, 70, 23, 32]) _ hf19) rfl rfl (nlc (nld Qaa _) (nlc (nld Qaa _) nl0)) nll rfl), asb hb21 (amv rfl), ag_ (alm (c := Qa6) (l := x8.1) (aln rfl Try.underlying26 rfl)), asb hb22 (amv rfl), trivial⟩ ?_
        refine Qaf ?_
        obtain rfl := osi h
        exact fend ⟨[B false], ⟨rot (by kernel_rfl), trivial⟩, rfl⟩ nll
      ·replace h := Qau hb21 h
       refine wx tbk [(2, rp [(.tmp 40, (B ((x4.2.2 == 0))))] (B true)), (6, rp [(.tmp 44, (B ((x8.2.2 == 0))))] (B true)), (10, rp [(.tmp 48, (B ((x10.2 == 0))))] (B true)), (14, rp [(.tmp 52, (B ((x14.2.2.2 == 0))))] (B true)), (16, rp [(.tmp 53, B true), ci 70, ci 70, ci 23, ci 32] Qd6), (17, rp [(.tmp 53, B true), fu 66, (.tmp 54, (Qhi x4)), (.tmp 55, Qd6)] (B x20)), (19, rp [(.tmp 57, B x20)] (B false))] ⟨asb hb15 (amv rfl), asb hb16 (amv rfl), asb hb17 (amv rfl), asb hb18 (amv rfl), ag_ (Qbp (vs := [I 70, I 70, I 23, I 32]) rfl Try.underlying23 ti3 tz3 rfl (by decide) rfl (by decide) (by rfl) (by rfl) (by rfl) rfl), ag_ (apc (first := []) (cap := []) (vs := [(Qhi x4), Qd6]) rfl Qf5 (Qcp N x4.1 ([70, 70, 23, 32]) _ hf19) rfl rfl (nlc (nld Qaa _) (nlc (nld Qaa _) nl0)) nll rfl), asb hb21 (amv rfl), trivial⟩ ?_
       refine Qaf ?_
       obtain rfl := osi h
       exact fend ⟨[B false], ⟨rot (by kernel_rfl), trivial⟩, rfl⟩ nll
     ·replace h := Qau hb18 h
      refine wx tbk [(2, rp [(.tmp 40, (B ((x4.2.2 == 0))))] (B true)), (6, rp [(.tmp 44, (B ((x8.2.2 == 0))))] (B true)), (10, rp [(.tmp 48, (B ((x10.2 == 0))))] (B true)), (14, rp [(.tmp 52, (B ((x14.2.2.2 == 0))))] (B false))] ⟨asb hb15 (amv rfl), asb hb16 (amv rfl), asb hb17 (amv rfl), asb hb18 (amv rfl), trivial⟩ ?_
      refine Qaf ?_
      obtain rfl := osi h
      exact fend ⟨[B false], ⟨rot (by kernel_rfl), trivial⟩, rfl⟩ nll
    ·replace h := Qau hb17 h
     refine wx tbk [(2, rp [(.tmp 40, (B ((x4.2.2 == 0))))] (B true)), (6, rp [(.tmp 44, (B ((x8.2.2 == 0))))] (B true)), (10, rp [(.tmp 48, (B ((x10.2 == 0))))] (B false))] ⟨asb hb15 (amv rfl), asb hb16 (amv rfl), asb hb17 (amv rfl), trivial⟩ ?_
     refine Qaf ?_
     obtain rfl := osi h
     exact fend ⟨[B false], ⟨rot (by kernel_rfl), trivial⟩, rfl⟩ nll
   ·replace h := Qau hb16 h
    refine wx tbk [(2, rp [(.tmp 40, (B ((x4.2.2 == 0))))] (B true)), (6, rp [(.tmp 44, (B ((x8.2.2 == 0))))] (B false))] ⟨asb hb15 (amv rfl), asb hb16 (amv rfl), trivial⟩ ?_
    refine Qaf ?_
    obtain rfl := osi h
    exact fend ⟨[B false], ⟨rot (by kernel_rfl), trivial⟩, rfl⟩ nll
  ·replace h := Qau hb15 h
   refine wx tbk [(2, rp [(.tmp 40, (B ((x4.2.2 == 0))))] (B false))] ⟨asb hb15 (amv rfl), trivial⟩ ?_
   refine Qaf ?_
   obtain rfl := osi h
   exact fend ⟨[B false], ⟨rot (by kernel_rfl), trivial⟩, rfl⟩ nll
def Qhc (_N : Nat) (p0 : (List Int)) : Option (List Int) :=
  chk (decide ((([] : List Int).length + p0.length) * 8 ≤ 140737488355328)) <|
  some (([] : List Int) ++ p0)
def z52_0 : AV := .acc 0 3 1 ((([] : List Int) : List Int).map Qac)
def z52_2 (p0 : (List Int)) : AV := .acc 1 3 1 ((([] : List Int) ++ p0 : List Int).map Qac)
set_option maxRecDepth 100000 in
set_option maxHeartbeats 4000000 in
theorem Qms (N : Nat) (p0 : (List Int)) (r : (List Int)) (h : Qhc N p0 = some r) : Spec Try.prog 24 [(.dat 1 (p0.map Qac))] [] (.dat 1 (r.map Qac)) [] := by
  refine Qaj Try.func24 rfl 0 (nle rfl) (fun X φ0 w0 hφ0 => ?_)
  unfold Qhc at h
  refine wx tbk [] trivial ?_
  obtain ⟨ha1, h⟩ := cko h
  refine wx tbk [(0, ⟨[], [(0, .unused)], z52_0, [(0, .tok)], false⟩), (2, ⟨[(.tmp 3, z52_0), (.tmp 4, (.dat 1 ((p0 : List Int).map Qac)))], [(0, .tok), (1, .unused)], (z52_2 p0), [(0, .dead), (1, .tok)], false⟩)] ⟨Qic rfl Try.underlying23 ti3 tz3, Qmk rfl Try.underlying23 te3 (Base.acc _ _) rfl rfl (Qn4 Qac Qq4 _) (Qru Qac ha1) (Qrt Qac ha1 (by decide)) (Qrs Qac) rfl rfl, trivial⟩ ?_
  refine Qaf ?_
  obtain rfl := osi h
  exact fend ⟨[(.dat 1 ((([] : List Int) ++ p0 : List Int).map Qac))], ⟨Qiy (v := (z52_2 p0)) (rot (by kernel_rfl)) Less.acc, trivial⟩, rfl⟩ (nld Qaa _)
end Go.Proofs.Ytgdepcgbjjgnfaa
