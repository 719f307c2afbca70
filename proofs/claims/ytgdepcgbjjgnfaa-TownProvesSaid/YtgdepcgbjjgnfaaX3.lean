/-
  Functions of the program: what they compute, as plain functions, and that they do. No conditions.
-/
import Derived.Test.YtgdepcgbjjgnfaaX2
namespace Go.Proofs.Ytgdepcgbjjgnfaa
open Go.RowKit
def Qch (N : Nat) (p0 : GHour) (k1 : Unit → Option Bool) : Nat → Int → Option Bool
  | 0, _ => none
  | n7 + 1, y5 =>
    bif (decide (y5 < (p0.Stairs.length : Int))) then
     (getI p0.Stairs y5).bind fun x9 =>
     (Qcg N x9.Amount 1 1000000000).bind fun x14 =>
     bif (!x14) then
      some false
     else
      (Qcg N x9.Price 0 1000).bind fun x17 =>
      bif (!x17) then
       some false
      else
       bif (decide (y5 > 0)) then
        (getI p0.Stairs (w64 (y5 - 1))).bind fun x20 =>
        bif (decide (x9.Price ≤ x20.Price)) then
         some false
        else
         Qch N p0 k1 n7 (w64 (y5 + 1))
       else
        Qch N p0 k1 n7 (w64 (y5 + 1))
    else
     k1 ()
def Qfp (N : Nat) (p0 : GHour) : Option Bool :=
  Qbr (fun _ =>
    (Qfo N p0.Use).bind fun x3 =>
    bif x3 then
     some (decide ((p0.Stairs.length : Int) ≤ 6))
    else
     some false) fun k1 : Unit → Option Bool =>
  Qch N p0 k1 N 0
def Qo2 (p0 : GHour) : AV := .dat 2 ((p0.Stairs : List GStair).map Qan)
def Qsw (p0 : GHour) : Slot := .own 2 [[(I (p0.Use)), (Qo2 p0)]]
set_option maxRecDepth 100000 in
set_option maxHeartbeats 4000000 in
theorem Qlc (N : Nat) (p0 : GHour) (r : Bool) (h : Qfp N p0 = some r) : Spec Try.prog 100 [(.agg (Qaj p0))] [] (B r) [] := by
  refine Qal Try.func100 rfl 0 (nle rfl) (fun X φ0 w0 hφ0 => ?_)
  unfold Qfp at h
  refine wx tbk [] trivial ?_
  obtain ⟨k1, hk_k1, h⟩ := jko h
  refine wjn (τ := Unit) (fun t => k1 t = some r) (fun _ => ⟨mk 49 [(1, .ref 0 2 0 0)], [(Qsw p0)]⟩) (fun t h => ?_) ?_
  ·subst hk_k1
   obtain ⟨x3, hf2, h⟩ := bno h
   rcases bft (x3) with hb4 | hb4
   ·replace h := Qar hb4 h
    refine wx tbk [(2, rp [fu 94, (.tmp 41, I p0.Use)] (B x3)), (3, rp [(.tmp 42, B x3)] (B true)), (6, rp [(.tmp 43, B true), (.tmp 45, (Qo2 p0))] (I ((p0.Stairs.length : Int))))] ⟨apc (first := []) (cap := []) (vs := [I p0.Use]) rfl Qfm (Qb4 N p0.Use _ hf2) rfl rfl (nlc nll nl0) nll rfl, asb hb4 (amv rfl), ag_ (alm (c := Qan) (l := p0.Stairs) (aln rfl Try.underlying60 rfl)), trivial⟩ ?_
    refine Qah ?_
    obtain rfl := osi h
    exact fend ⟨[(B ((decide ((p0.Stairs.length : Int) ≤ 6))))], ⟨rot (by kernel_rfl), trivial⟩, rfl⟩ nll
   ·replace h := Qas hb4 h
    refine wx tbk [(2, rp [fu 94, (.tmp 41, I p0.Use)] (B x3)), (3, rp [(.tmp 42, B x3)] (B false))] ⟨apc (first := []) (cap := []) (vs := [I p0.Use]) rfl Qfm (Qb4 N p0.Use _ hf2) rfl rfl (nlc nll nl0) nll rfl, asb hb4 (amv rfl), trivial⟩ ?_
    refine Qah ?_
    obtain rfl := osi h
    exact fend ⟨[B false], ⟨rot (by kernel_rfl), trivial⟩, rfl⟩ nll
  ·skip
   refine wx tbk [(2, rp [(.tmp 6, (Qo2 p0))] (I ((p0.Stairs.length : Int))))] ⟨alm (c := Qan) (l := p0.Stairs) (aln rfl Try.underlying60 rfl), trivial⟩ ?_
   refine Qai ?_
   refine wmr (mto (n := 49) (l' := [(1, .ref 0 2 0 0), (6, (Qo2 p0)), (7, (I ((p0.Stairs.length : Int)))), (8, I 0)]) (own' := [(Qsw p0)]) [(1, .ref 0 2 0 0), (6, (Qo2 p0)), (7, (I ((p0.Stairs.length : Int)))), (8, I 0)] [0] [(Qsw p0)] hφ0 (pc (.rn (rqr rfl)) (pc (.rn (.plain _ (nld Qa5 _))) (pc rwl (pc rwl pn)))) (qc (spb (lc rwl (lc (.rn (.plain _ (nld Qa5 _))) ln))) qn)) ?_
   refine Qbu (τ := Int) (fun n t => Qch N p0 k1 n t = some r) (fun y5 => ⟨mk 49 [(1, .ref 0 2 0 0), (6, (Qo2 p0)), (7, (I ((p0.Stairs.length : Int)))), (8, I y5)], [(Qsw p0)]⟩) (fun t h => by rw [Qch] at h; cases h) (fun n7 ih y5 h => ?_) N (0) h
   rw [Qch] at h
   skip
   refine wx tbk [] trivial ?_
   refine wsq ?_
   rcases bft ((decide (y5 < (p0.Stairs.length : Int)))) with hc8 | hc8
   ·replace h := Qar hc8 h
    refine wft hc8 (by kernel_rfl) ?_
    refine Qag ?_
    refine thn ?_
    refine wsq ?_
    refine Qai ?_
    obtain ⟨x9, hg10, h⟩ := bno h
    obtain ⟨hi11, hj12⟩ := gsm hg10
    refine wx tbk [(1, rp [(.tmp 6, (Qo2 p0)), (.tmp 8, I y5)] (.dptr (Qan (x9)) 0))] ⟨aid rfl Try.underlying60 ti64 rfl rfl hi11 (mgt Qan hj12) rfl, trivial⟩ ?_
    obtain ⟨x14, hf13, h⟩ := bno h
    rcases bft ((!x14)) with hb15 | hb15
    ·replace h := Qar hb15 h
     refine wxd tbk [(2, rp [fu 68, (.tmp 14, I x9.Amount), ci 1, ci 1000000000] (B x14)), (4, rp [(.tmp 16, (B ((!x14))))] (B true))] ⟨apc (first := []) (cap := []) (vs := [I x9.Amount, I 1, I 1000000000]) rfl Qd3 (Qaw N x9.Amount 1 1000000000 _ hf13) rfl rfl (nlc nll (nlc nll (nlc nll nl0))) nll rfl, asb hb15 (amv rfl), trivial⟩ ?_
     refine Qcm (by kernel_rfl) ?_
     refine wx tbk [] trivial ?_
     refine Qah ?_
     refine Qak ?_
     refine Qad ?_
     refine Qad ?_
     refine Qak ?_
     refine Qad ?_
     obtain rfl := osi h
     exact fend ⟨[B false], ⟨rot (by kernel_rfl), trivial⟩, rfl⟩ nll
    ·replace h := Qas hb15 h
     obtain ⟨x17, hf16, h⟩ := bno h
     rcases bft ((!x17)) with hb18 | hb18
     ·replace h := Qar hb18 h
      refine wxd tbk [(2, rp [fu 68, (.tmp 14, I x9.Amount), ci 1, ci 1000000000] (B x14)), (4, rp [(.tmp 16, (B ((!x14))))] (B false)), (7, rp [(.tmp 17, B false), fu 68, (.tmp 19, I x9.Price), ci 0, ci 1000] (B x17)), (10, rp [(.tmp 22, (B ((!x17))))] (B true))] ⟨apc (first := []) (cap := []) (vs := [I x9.Amount, I 1, I 1000000000]) rfl Qd3 (Qaw N x9.Amount 1 1000000000 _ hf13) rfl rfl (nlc nll (nlc nll (nlc nll nl0))) nll rfl, asb hb15 (amv rfl), ag_ (apc (first := []) (cap := []) (vs := [I x9.Price, I 0, I 1000]) rfl Qd3 (Qaw N x9.Price 0 1000 _ hf16) rfl rfl (nlc nll (nlc nll (nlc nll nl0))) nll rfl), asb hb18 (amv rfl), trivial⟩ ?_
      refine Qcm (by kernel_rfl) ?_
      refine wx tbk [] trivial ?_
      refine Qah ?_
      refine Qak ?_
      refine Qad ?_
      refine Qad ?_
      refine Qak ?_
      refine Qad ?_
      obtain rfl := osi h
      exact fend ⟨[B false], ⟨rot (by kernel_rfl), trivial⟩, rfl⟩ nll
     ·replace h := Qas hb18 h
      rcases bft ((decide (y5 > 0))) with hb19 | hb19
      ·replace h := Qar hb19 h
       obtain ⟨x20, hg21, h⟩ := bno h
       obtain ⟨hi22, hj23⟩ := gsm hg21
       refine wxd tbk [(2, rp [fu 68, (.tmp 14, I x9.Amount), ci 1, ci 1000000000] (B x14)), (4, rp [(.tmp 16, (B ((!x14))))] (B false)), (7, rp [(.tmp 17, B false), fu 68, (.tmp 19, I x9.Price), ci 0, ci 1000] (B x17)), (10, rp [(.tmp 22, (B ((!x17))))] (B false)), (13, rp [(.tmp 23, B false), (.tmp 25, (B ((decide (y5 > 0)))))] (B true)), (20, rp [(.tmp 26, B true), (.tmp 30, (Qo2 p0)), (.tmp 32, (I (w64 (y5 - 1))))] (.dptr (Qan (x20)) 0))] ⟨apc (first := []) (cap := []) (vs := [I x9.Amount, I 1, I 1000000000]) rfl Qd3 (Qaw N x9.Amount 1 1000000000 _ hf13) rfl rfl (nlc nll (nlc nll (nlc nll nl0))) nll rfl, asb hb15 (amv rfl), ag_ (apc (first := []) (cap := []) (vs := [I x9.Price, I 0, I 1000]) rfl Qd3 (Qaw N x9.Price 0 1000 _ hf16) rfl rfl (nlc nll (nlc nll (nlc nll nl0))) nll rfl), asb hb18 (amv rfl), asb hb19 (ag_ (amv rfl)), ag_ (aid rfl Try.underlying60 ti64 rfl rfl hi22 (mgt Qan hj23) rfl), trivial⟩ ?_
       rcases bft ((decide (x9.Price ≤ x20.Price))) with hc24 | hc24
       ·replace h := Qar hc24 h
        refine wft hc24 (by kernel_rfl) ?_
        refine wx tbk [] trivial ?_
        refine Qah ?_
        refine Qak ?_
        refine Qad ?_
        refine Qad ?_
        refine Qak ?_
        refine Qad ?_
        obtain rfl := osi h
        exact fend ⟨[B false], ⟨rot (by kernel_rfl), trivial⟩, rfl⟩ nll
       ·replace h := Qas hc24 h
        refine wfn hc24 (by kernel_rfl) ?_
        refine Qag ?_
        refine bln ?_
        refine thn ?_
        refine wx1 tbk [] trivial ?_
        refine thn ?_
        exact arm (mto (n := 49) [(1, .ref 0 2 0 0), (6, (Qo2 p0)), (7, (I ((p0.Stairs.length : Int)))), (8, (I (w64 (y5 + 1))))] [0] [(Qsw p0)] hφ0 (pc (.rn (rqr rfl)) (pc (.rn (.plain _ (nld Qa5 _))) (pc rwl (pc rwl pn)))) (qc (spb (lc rwl (lc (.rn (.plain _ (nld Qa5 _))) ln))) qn)) (ih (w64 (y5 + 1)) h)
      ·replace h := Qas hb19 h
       refine wxd tbk [(2, rp [fu 68, (.tmp 14, I x9.Amount), ci 1, ci 1000000000] (B x14)), (4, rp [(.tmp 16, (B ((!x14))))] (B false)), (7, rp [(.tmp 17, B false), fu 68, (.tmp 19, I x9.Price), ci 0, ci 1000] (B x17)), (10, rp [(.tmp 22, (B ((!x17))))] (B false)), (13, rp [(.tmp 23, B false), (.tmp 25, (B ((decide (y5 > 0)))))] (B false))] ⟨apc (first := []) (cap := []) (vs := [I x9.Amount, I 1, I 1000000000]) rfl Qd3 (Qaw N x9.Amount 1 1000000000 _ hf13) rfl rfl (nlc nll (nlc nll (nlc nll nl0))) nll rfl, asb hb15 (amv rfl), ag_ (apc (first := []) (cap := []) (vs := [I x9.Price, I 0, I 1000]) rfl Qd3 (Qaw N x9.Price 0 1000 _ hf16) rfl rfl (nlc nll (nlc nll (nlc nll nl0))) nll rfl), asb hb18 (amv rfl), asb hb19 (ag_ (amv rfl)), trivial⟩ ?_
       refine Qdj (by kernel_rfl) ?_
       refine Qag ?_
       refine bln ?_
       refine thn ?_
       refine wx1 tbk [] trivial ?_
       refine thn ?_
       exact arm (mto (n := 49) [(1, .ref 0 2 0 0), (6, (Qo2 p0)), (7, (I ((p0.Stairs.length : Int)))), (8, (I (w64 (y5 + 1))))] [0] [(Qsw p0)] hφ0 (pc (.rn (rqr rfl)) (pc (.rn (.plain _ (nld Qa5 _))) (pc rwl (pc rwl pn)))) (qc (spb (lc rwl (lc (.rn (.plain _ (nld Qa5 _))) ln))) qn)) (ih (w64 (y5 + 1)) h)
   ·replace h := Qas hc8 h
    refine wfn hc8 (by kernel_rfl) ?_
    refine Qa3 ?_
    refine Qao ?_
    refine Qao ?_
    refine Qa2 rfl ?_
    refine thn ?_
    exact ⟨(), h, (mto (n := 49) [(1, .ref 0 2 0 0)] [0] [(Qsw p0)] hφ0 (pc (.rn (rqr rfl)) pn) (qc (spb (lc rwl (lc (.rn (.plain _ (nld Qa5 _))) ln))) qn))⟩
def Qej (N : Nat) (p0 : GHour) : Option Bool :=
  (Qfp N p0).bind fun x3 =>
  some (!x3)
def z36_2 (p0 : GHour) : AV := .agg [(I (p0.Use)), (.dat 2 ((p0.Stairs : List GStair).map Qan))]
def z36_3 : Slot := .own 1 [[(.fn (.func 100) [] [])]]
set_option maxRecDepth 100000 in
set_option maxHeartbeats 4000000 in
theorem Qib (N : Nat) (p0 : GHour) (r : Bool) (h : Qej N p0 = some r) : Spec Try.prog 112 [(z36_2 p0), (.ref 0 1 (0) 0)] [z36_3] (B (r)) [z36_3] := by
  refine Qal Try.func112 rfl 1 (nle rfl) (fun X φ0 w0 hφ0 => ?_)
  unfold Qej at h
  refine Qc3 ?_
  refine wx tbk [] trivial ?_
  obtain ⟨x3, hf2, h⟩ := bno h
  refine wx tbk [(2, rp [(.tmp 4, (.fn (.func 100) [] [])), (.tmp 5, (z36_2 p0))] (B x3))] ⟨apc (first := []) (cap := []) (vs := [(z36_2 p0)]) rfl enter100 (Qlc N p0 _ hf2) rfl rfl (nlc (NLt.agg _ (nlc nll (nlc (nld Qa5 _) nl0))) nl0) nll rfl, trivial⟩ ?_
  refine wmr (mto (n := 8) (l' := [(3, (B ((!x3))))]) (own' := [z36_3]) [(3, (B ((!x3))))] [0] [z36_3] hφ0 (pc rwl pn) (qc (spb (lc (.rn (Qay rn0 rn0)) ln)) qn)) ?_
  refine Qah ?_
  obtain rfl := osi h
  exact ⟨_, Mor.rfl, Qdi (vs := [(B ((!x3)))]) ⟨rot (by kernel_rfl), trivial⟩ rfl (NLt.of0 nll) (by kernel_rfl) (Qau (Qbt (nlc (NLt.of0 (NLt.fn _ _ _ nl0 nl0)) nl0)) Qb0)⟩
def Qax (N : Nat) (p0 : (List GHour)) (k2 : Unit → Option Int) : Nat → Int → Option Int
  | 0, _ => none
  | n5 + 1, y3 =>
    bif (decide (y3 < (p0.length : Int))) then
     (getI p0 y3).bind fun x7 =>
     (Qej N x7).bind fun x12 =>
     bif x12 then
      some y3
     else
      Qax N p0 k2 n5 (w64 (y3 + 1))
    else
     k2 ()
def Qb7 (N : Nat) (p0 : (List GHour)) : Option Int :=
  Qbr (fun _ =>
    some (-1)) fun k2 : Unit → Option Int =>
  Qax N p0 k2 N 0
def Qsx (p0 : (List GHour)) : AV := .dat 2 ((p0 : List GHour).map Qaj)
def Qv1 : AV := .fn (.func 112) [] [(.ref 0 1 (0) 0)]
def Qkq : Slot := .own 1 [[(.fn (.func 100) [] [])]]
set_option maxRecDepth 100000 in
set_option maxHeartbeats 4000000 in
theorem Qfr (N : Nat) (p0 : (List GHour)) (r : Int) (h : Qb7 N p0 = some r) : Spec Try.prog 116 [(Qsx p0), Qv1] [Qkq] (I (r)) [Qkq] := by
  refine Qal Try.func116 rfl 1 (nle rfl) (fun X φ0 w0 hφ0 => ?_)
  unfold Qb7 at h
  refine Qc3 ?_
  refine wx tbk [] trivial ?_
  obtain ⟨k2, hk_k2, h⟩ := jko h
  refine wjn (τ := Unit) (fun t => k2 t = some r) (fun _ => ⟨mk 19 [], [Qkq]⟩) (fun t h => ?_) ?_
  ·subst hk_k2
   refine wx tbk [] trivial ?_
   refine wmr (mto (n := 19) (l' := [(4, (I ((-1))))]) (own' := [Qkq]) [(4, (I ((-1))))] [0] [Qkq] hφ0 (pc rwl pn) (qc (spb (lc (.rn (Qay rn0 rn0)) ln)) qn)) ?_
   refine Qah ?_
   obtain rfl := osi h
   exact ⟨_, Mor.rfl, Qdi (vs := [(I ((-1)))]) ⟨rot (by kernel_rfl), trivial⟩ rfl (NLt.of0 nll) (by kernel_rfl) (Qau (Qbt (nlc (NLt.of0 (NLt.fn _ _ _ nl0 nl0)) nl0)) Qb0)⟩
  ·skip
   refine wx tbk [(1, rp [(.tmp 6, (Qsx p0))] (I ((p0.length : Int))))] ⟨alm (c := Qaj) (l := p0) (aln rfl Try.underlying45 rfl), trivial⟩ ?_
   refine Qai ?_
   refine wmr (mto (n := 19) (l' := [(0, (Qsx p0)), (1, Qv1), (7, (I ((p0.length : Int)))), (8, I 0)]) (own' := [Qkq]) [(0, (Qsx p0)), (1, Qv1), (7, (I ((p0.length : Int)))), (8, I 0)] [0] [Qkq] hφ0 (pc (.rn (.plain _ (nld Qac _))) (pc (.rn (Qay rn0 (rnc (rqr rfl) rn0))) (pc rwl (pc rwl pn)))) (qc (spb (lc (.rn (Qay rn0 rn0)) ln)) qn)) ?_
   refine Qbu (τ := Int) (fun n t => Qax N p0 k2 n t = some r) (fun y3 => ⟨mk 19 [(0, (Qsx p0)), (1, Qv1), (7, (I ((p0.length : Int)))), (8, I y3)], [Qkq]⟩) (fun t h => by rw [Qax] at h; cases h) (fun n5 ih y3 h => ?_) N (0) h
   rw [Qax] at h
   skip
   refine wx tbk [] trivial ?_
   refine wsq ?_
   rcases bft ((decide (y3 < (p0.length : Int)))) with hc6 | hc6
   ·replace h := Qar hc6 h
    refine wft hc6 (by kernel_rfl) ?_
    refine Qag ?_
    refine thn ?_
    refine wsq ?_
    refine Qai ?_
    refine wx tbk [] trivial ?_
    obtain ⟨x7, hg8, h⟩ := bno h
    obtain ⟨hi9, hj10⟩ := gsm hg8
    obtain ⟨x12, hf11, h⟩ := bno h
    refine wx tbk [(3, rp [(.tmp 12, (Qsx p0)), (.tmp 13, I y3)] (.dptr (Qaj (x7)) 0)), (5, ⟨[(.tmp 11, Qv1), (.tmp 15, (.agg [I x7.Use, (.dat 2 ((x7.Stairs : List GStair).map Qan))]))], [(0, Qkq)], B x12, [(0, Qkq)], false⟩)] ⟨aid rfl Try.underlying45 ti62 rfl rfl hi9 (mgt Qaj hj10) rfl, Qat (first := []) (cap := [.ref 0 1 0 0]) (vs := [(.agg [I x7.Use, (.dat 2 ((x7.Stairs : List GStair).map Qan))])]) (σr := [Qkq]) (σr' := [Qkq]) (res' := (B x12)) [0] rfl enter112 (Qib N x7 _ hf11) rfl (Qcq (rnc (.plain _ (NLt.agg _ (nlc nll (nlc (nld Qa5 _) nl0)))) (rnc (Qbn rfl) rn0))) (slc (Qam (rnc (.plain _ (NLt.fn _ _ _ nl0 nl0)) rn0)) Qap) (slc (Qam (rnc (.plain _ (NLt.fn _ _ _ nl0 nl0)) rn0)) Qap) (.plain _ nll) rfl rfl rfl, trivial⟩ ?_
    rcases bft (x12) with hc13 | hc13
    ·replace h := Qar hc13 h
     refine wft hc13 (by kernel_rfl) ?_
     refine wx tbk [] trivial ?_
     refine wmr (mto (n := 19) (l' := [(4, I y3)]) (own' := [Qkq]) [(4, I y3)] [0] [Qkq] hφ0 (pc rwl pn) (qc (spb (lc (.rn (Qay rn0 rn0)) ln)) qn)) ?_
     refine Qah ?_
     refine Qak ?_
     refine Qad ?_
     refine Qad ?_
     refine Qak ?_
     refine Qad ?_
     obtain rfl := osi h
     exact ⟨_, Mor.rfl, Qdi (vs := [I y3]) ⟨rot (by kernel_rfl), trivial⟩ rfl (NLt.of0 nll) (by kernel_rfl) (Qau (Qbt (nlc (NLt.of0 (NLt.fn _ _ _ nl0 nl0)) nl0)) Qb0)⟩
    ·replace h := Qas hc13 h
     refine wfn hc13 (by kernel_rfl) ?_
     refine Qag ?_
     refine bln ?_
     refine thn ?_
     refine wx1 tbk [] trivial ?_
     refine thn ?_
     exact arm (mto (n := 19) [(0, (Qsx p0)), (1, Qv1), (7, (I ((p0.length : Int)))), (8, (I (w64 (y3 + 1))))] [0] [Qkq] hφ0 (pc (.rn (.plain _ (nld Qac _))) (pc (.rn (Qay rn0 (rnc (rqr rfl) rn0))) (pc rwl (pc rwl pn)))) (qc (spb (lc (.rn (Qay rn0 rn0)) ln)) qn)) (ih (w64 (y3 + 1)) h)
   ·replace h := Qas hc6 h
    refine wfn hc6 (by kernel_rfl) ?_
    refine Qa3 ?_
    refine Qao ?_
    refine Qao ?_
    refine Qa2 rfl ?_
    refine thn ?_
    exact ⟨(), h, (mto (n := 19) [] [0] [Qkq] hφ0 pn (qc (spb (lc (.rn (Qay rn0 rn0)) ln)) qn))⟩
def Qbv (N : Nat) (p0 : (List GHour)) : Option Bool :=
  (Qb7 N p0).bind fun x3 =>
  some (decide (x3 ≥ 0))
def z34_0 (p0 : (List GHour)) : AV := .dat 2 ((p0 : List GHour).map Qaj)
def z34_1 : AV := .fn (.func 112) [] [(.ref 0 1 (0) 0)]
def Qrf : Slot := .own 1 [[(.fn (.func 100) [] [])]]
set_option maxRecDepth 100000 in
set_option maxHeartbeats 4000000 in
theorem Qfe (N : Nat) (p0 : (List GHour)) (r : Bool) (h : Qbv N p0 = some r) : Spec Try.prog 111 [(z34_0 p0), z34_1] [Qrf] (B (r)) [Qrf] := by
  refine Qal Try.func111 rfl 1 (nle rfl) (fun X φ0 w0 hφ0 => ?_)
  unfold Qbv at h
  refine Qc3 ?_
  refine wx tbk [] trivial ?_
  obtain ⟨x3, hf2, h⟩ := bno h
  refine wx tbk [(2, ⟨[fu 116, (.tmp 5, (z34_0 p0)), (.tmp 6, z34_1)], [(0, Qrf)], I x3, [(0, Qrf)], false⟩)] ⟨Qat (first := []) (cap := []) (vs := [(z34_0 p0), z34_1]) (σr := [Qrf]) (σr' := [Qrf]) (res' := (I x3)) [0] rfl enter116 (Qfr N p0 _ hf2) rfl (Qcq (rnc (.plain _ (nld Qac _)) (rnc (Qay rn0 (rnc (Qbn rfl) rn0)) rn0))) (slc (Qam (rnc (.plain _ (NLt.fn _ _ _ nl0 nl0)) rn0)) Qap) (slc (Qam (rnc (.plain _ (NLt.fn _ _ _ nl0 nl0)) rn0)) Qap) (.plain _ nll) rfl rfl rfl, trivial⟩ ?_
  refine wmr (mto (n := 9) (l' := [(4, (B ((decide (x3 ≥ 0)))))]) (own' := [Qrf]) [(4, (B ((decide (x3 ≥ 0)))))] [0] [Qrf] hφ0 (pc rwl pn) (qc (spb (lc (.rn (Qay rn0 rn0)) ln)) qn)) ?_
  refine Qah ?_
  obtain rfl := osi h
  exact ⟨_, Mor.rfl, Qdi (vs := [(B ((decide (x3 ≥ 0))))]) ⟨rot (by kernel_rfl), trivial⟩ rfl (NLt.of0 nll) (by kernel_rfl) (Qau (Qbt (nlc (NLt.of0 (NLt.fn _ _ _ nl0 nl0)) nl0)) Qb0)⟩
def Qec (N : Nat) (p0 : (List GHour)) : Option Bool :=
  (Qbv N p0).bind fun x2 =>
  some (!x2)
def z33_1 (p0 : (List GHour)) : AV := .dat 2 ((p0 : List GHour).map Qaj)
def z33_2 : AV := .fn (.func 112) [] [(.ref 0 1 (0) 0)]
def z33_0 : Slot := .own 1 [[(.fn (.func 100) [] [])]]
set_option maxRecDepth 100000 in
set_option maxHeartbeats 4000000 in
theorem Qiu (N : Nat) (p0 : (List GHour)) (r : Bool) (h : Qec N p0 = some r) : Spec Try.prog 99 [(z33_1 p0), (.fn (.func 100) [] [])] [] (B (r)) [] := by
  refine Qal Try.func99 rfl 0 (nle rfl) (fun X φ0 w0 hφ0 => ?_)
  unfold Qec at h
  refine wx tbk [] trivial ?_
  obtain ⟨x2, hf1, h⟩ := bno h
  refine wx tbk [(1, rp [(.tmp 3, .ref 0 1 0 0)] z33_2), (2, ⟨[fu 111, (.tmp 5, (z33_1 p0)), (.tmp 6, z33_2)], [(0, z33_0)], B x2, [(0, z33_0)], false⟩)] ⟨Qgp (fs := []) (cs := [.ref 0 1 0 0]) rfl rfl rfl rfl, Qat (first := []) (cap := []) (vs := [(z33_1 p0), z33_2]) (σr := [z33_0]) (σr' := [z33_0]) (res' := (B x2)) [0] rfl enter111 (Qfe N p0 _ hf1) rfl (Qcq (rnc (.plain _ (nld Qac _)) (rnc (Qay rn0 (rnc (Qbn rfl) rn0)) rn0))) (slc (Qam (rnc (.plain _ (NLt.fn _ _ _ nl0 nl0)) rn0)) Qap) (slc (Qam (rnc (.plain _ (NLt.fn _ _ _ nl0 nl0)) rn0)) Qap) (.plain _ nll) rfl rfl rfl, trivial⟩ ?_
  refine Qah ?_
  obtain rfl := osi h
  exact fend ⟨[(B ((!x2)))], ⟨rot (by kernel_rfl), trivial⟩, rfl⟩ nll
def Qet (N : Nat) (p0 : GDay) : Option Bool :=
  (Qfo N p0.Tank).bind fun x2 =>
  bif x2 then
   (Qcg N p0.Start 0 p0.Tank).bind fun x5 =>
   bif x5 then
    (Qcg N (p0.Hours.length : Int) 1 24).bind fun x8 =>
    bif x8 then
     (Qec N p0.Hours).bind fun x11 =>
     some x11
    else
     some false
   else
    some false
  else
   some false
def z32_0 (p0 : GDay) : AV := .dat 2 ((p0.Hours : List GHour).map Qaj)
set_option maxRecDepth 100000 in
set_option maxHeartbeats 4000000 in
theorem Qe3 (N : Nat) (p0 : GDay) (r : Bool) (h : Qet N p0 = some r) : Spec Try.prog 74 [(.agg (Qii p0))] [] (B r) [] := by
  refine Qal Try.func74 rfl 0 (nle rfl) (fun X φ0 w0 hφ0 => ?_)
  unfold Qet at h
  refine wx tbk [] trivial ?_
  obtain ⟨x2, hf1, h⟩ := bno h
  rcases bft (x2) with hb3 | hb3
  ·replace h := Qar hb3 h
   obtain ⟨x5, hf4, h⟩ := bno h
   rcases bft (x5) with hb6 | hb6
   ·replace h := Qar hb6 h
    obtain ⟨x8, hf7, h⟩ := bno h
    rcases bft (x8) with hb9 | hb9
    ·replace h := Qar hb9 h
     obtain ⟨x11, hf10, h⟩ := bno h
     refine wx tbk [(2, rp [fu 94, (.tmp 4, I p0.Tank)] (B x2)), (3, rp [(.tmp 5, B x2)] (B true)), (8, rp [(.tmp 6, B true), fu 68, (.tmp 8, I p0.Start), ci 0, (.tmp 10, I p0.Tank)] (B x5)), (10, rp [(.tmp 12, B x5)] (B true)), (13, rp [(.tmp 13, B true), (.tmp 15, (z32_0 p0))] (I ((p0.Hours.length : Int)))), (14, rp [(.tmp 13, B true), fu 68, (.tmp 16, (I ((p0.Hours.length : Int)))), ci 1, ci 24] (B x8)), (16, rp [(.tmp 18, B x8)] (B true)), (19, rp [(.tmp 19, B true), fu 99, (.tmp 21, (z32_0 p0)), fu 100] (B x11))] ⟨apc (first := []) (cap := []) (vs := [I p0.Tank]) rfl Qfm (Qb4 N p0.Tank _ hf1) rfl rfl (nlc nll nl0) nll rfl, asb hb3 (amv rfl), ag_ (apc (first := []) (cap := []) (vs := [I p0.Start, I 0, I p0.Tank]) rfl Qd3 (Qaw N p0.Start 0 p0.Tank _ hf4) rfl rfl (nlc nll (nlc nll (nlc nll nl0))) nll rfl), asb hb6 (amv rfl), ag_ (alm (c := Qaj) (l := p0.Hours) (aln rfl Try.underlying45 rfl)), ag_ (apc (first := []) (cap := []) (vs := [(I ((p0.Hours.length : Int))), I 1, I 24]) rfl Qd3 (Qaw N (p0.Hours.length : Int) 1 24 _ hf7) rfl rfl (nlc nll (nlc nll (nlc nll nl0))) nll rfl), asb hb9 (amv rfl), ag_ (Qat (first := []) (cap := []) (vs := [(z32_0 p0), (.fn (.func 100) [] [])]) (σr := []) (σr' := []) (res' := (B x11)) [] rfl enter99 (Qiu N p0.Hours _ hf10) rfl (Qcq (rnc (.plain _ (nld Qac _)) (rnc (.plain _ (NLt.fn _ _ _ nl0 nl0)) rn0))) Qap Qap (.plain _ nll) rfl rfl rfl), trivial⟩ ?_
     refine Qah ?_
     obtain rfl := osi h
     exact fend ⟨[B x11], ⟨rot (by kernel_rfl), trivial⟩, rfl⟩ nll
    ·replace h := Qas hb9 h
     refine wx tbk [(2, rp [fu 94, (.tmp 4, I p0.Tank)] (B x2)), (3, rp [(.tmp 5, B x2)] (B true)), (8, rp [(.tmp 6, B true), fu 68, (.tmp 8, I p0.Start), ci 0, (.tmp 10, I p0.Tank)] (B x5)), (10, rp [(.tmp 12, B x5)] (B true)), (13, rp [(.tmp 13, B true), (.tmp 15, (z32_0 p0))] (I ((p0.Hours.length : Int)))), (14, rp [(.tmp 13, B true), fu 68, (.tmp 16, (I ((p0.Hours.length : Int)))), ci 1, ci 24] (B x8)), (16, rp [(.tmp 18, B x8)] (B false))] ⟨apc (first := []) (cap := []) (vs := [I p0.Tank]) rfl Qfm (Qb4 N p0.Tank _ hf1) rfl rfl (nlc nll nl0) nll rfl, asb hb3 (amv rfl), ag_ (apc (first := []) (cap := []) (vs := [I p0.Start, I 0, I p0.Tank]) rfl Qd3 (Qaw N p0.Start 0 p0.Tank _ hf4) rfl rfl (nlc nll (nlc nll (nlc nll nl0))) nll rfl), asb hb6 (amv rfl), ag_ (alm (c := Qaj) (l := p0.Hours) (aln rfl Try.underlying45 rfl)), ag_ (apc (first := []) (cap := []) (vs := [(I ((p0.Hours.length : Int))), I 1, I 24]) rfl Qd3 (Qaw N (p0.Hours.length : Int) 1 24 _ hf7) rfl rfl (nlc nll (nlc nll (nlc nll nl0))) nll rfl), asb hb9 (amv rfl), trivial⟩ ?_
     refine Qah ?_
     obtain rfl := osi h
     exact fend ⟨[B false], ⟨rot (by kernel_rfl), trivial⟩, rfl⟩ nll
   ·replace h := Qas hb6 h
    refine wx tbk [(2, rp [fu 94, (.tmp 4, I p0.Tank)] (B x2)), (3, rp [(.tmp 5, B x2)] (B true)), (8, rp [(.tmp 6, B true), fu 68, (.tmp 8, I p0.Start), ci 0, (.tmp 10, I p0.Tank)] (B x5)), (10, rp [(.tmp 12, B x5)] (B false))] ⟨apc (first := []) (cap := []) (vs := [I p0.Tank]) rfl Qfm (Qb4 N p0.Tank _ hf1) rfl rfl (nlc nll nl0) nll rfl, asb hb3 (amv rfl), ag_ (apc (first := []) (cap := []) (vs := [I p0.Start, I 0, I p0.Tank]) rfl Qd3 (Qaw N p0.Start 0 p0.Tank _ hf4) rfl rfl (nlc nll (nlc nll (nlc nll nl0))) nll rfl), asb hb6 (amv rfl), trivial⟩ ?_
    refine Qah ?_
    obtain rfl := osi h
    exact fend ⟨[B false], ⟨rot (by kernel_rfl), trivial⟩, rfl⟩ nll
  ·replace h := Qas hb3 h
   refine wx tbk [(2, rp [fu 94, (.tmp 4, I p0.Tank)] (B x2)), (3, rp [(.tmp 5, B x2)] (B false))] ⟨apc (first := []) (cap := []) (vs := [I p0.Tank]) rfl Qfm (Qb4 N p0.Tank _ hf1) rfl rfl (nlc nll nl0) nll rfl, asb hb3 (amv rfl), trivial⟩ ?_
   refine Qah ?_
   obtain rfl := osi h
   exact fend ⟨[B false], ⟨rot (by kernel_rfl), trivial⟩, rfl⟩ nll
def Qc5 (N : Nat) (p0 : GHour) (k2 : Int → Option Int) : Nat → Int → Int → Option Int
  | 0, _, _ => none
  | n7 + 1, y3, y4 =>
    bif (decide (y4 < (p0.Stairs.length : Int))) then
     (getI p0.Stairs y4).bind fun x9 =>
     Qc5 N p0 k2 n7 (w64 (y3 + x9.Amount)) (w64 (y4 + 1))
    else
     k2 (y3)
def Qe1 (N : Nat) (p0 : GHour) : Option Int :=
  Qbr (fun y1 =>
    some y1) fun k2 : Int → Option Int =>
  Qc5 N p0 k2 N 0 0
def Qv0 (p0 : GHour) : AV := .dat 2 ((p0.Stairs : List GStair).map Qan)
set_option maxRecDepth 100000 in
set_option maxHeartbeats 4000000 in
theorem Qh5 (N : Nat) (p0 : GHour) (r : Int) (h : Qe1 N p0 = some r) : Spec Try.prog 101 [(.agg (Qaj p0))] [] (I r) [] := by
  refine Qal Try.func101 rfl 0 (nle rfl) (fun X φ0 w0 hφ0 => ?_)
  unfold Qe1 at h
  refine wx tbk [] trivial ?_
  obtain ⟨k2, hk_k2, h⟩ := jko h
  refine wjn (τ := Int) (fun t => k2 t = some r) (fun y1 => ⟨mk 18 [(2, I y1)], []⟩) (fun y1 h => ?_) ?_
  ·subst hk_k2
   refine wx tbk [] trivial ?_
   refine Qah ?_
   obtain rfl := osi h
   exact fend ⟨[I y1], ⟨rot (by kernel_rfl), trivial⟩, rfl⟩ nll
  ·skip
   refine wx tbk [(2, rp [(.tmp 6, (Qv0 p0))] (I ((p0.Stairs.length : Int))))] ⟨alm (c := Qan) (l := p0.Stairs) (aln rfl Try.underlying60 rfl), trivial⟩ ?_
   refine Qai ?_
   refine wmr (mto (n := 18) (l' := [(2, I 0), (6, (Qv0 p0)), (7, (I ((p0.Stairs.length : Int)))), (8, I 0)]) (own' := []) [(2, I 0), (6, (Qv0 p0)), (7, (I ((p0.Stairs.length : Int)))), (8, I 0)] [] [] hφ0 (pc rwl (pc (.rn (.plain _ (nld Qa5 _))) (pc rwl (pc rwl pn)))) qn) ?_
   refine Qbu (τ := Int × Int) (fun n t => Qc5 N p0 k2 n t.1 t.2 = some r) (fun ⟨y3, y4⟩ => ⟨mk 18 [(2, I y3), (6, (Qv0 p0)), (7, (I ((p0.Stairs.length : Int)))), (8, I y4)], []⟩) (fun t h => by rw [Qc5] at h; cases h) (fun n7 ih t h => ?_) N (0, 0) h
   obtain ⟨y3, y4⟩ := t
   rw [Qc5] at h
   skip
   refine wx tbk [] trivial ?_
   refine wsq ?_
   rcases bft ((decide (y4 < (p0.Stairs.length : Int)))) with hc8 | hc8
   ·replace h := Qar hc8 h
    refine wft hc8 (by kernel_rfl) ?_
    refine Qag ?_
    refine thn ?_
    refine wsq ?_
    refine Qai ?_
    obtain ⟨x9, hg10, h⟩ := bno h
    obtain ⟨hi11, hj12⟩ := gsm hg10
    refine wx tbk [(0, rp [(.tmp 6, (Qv0 p0)), (.tmp 8, I y4)] (.dptr (Qan (x9)) 0))] ⟨aid rfl Try.underlying60 ti64 rfl rfl hi11 (mgt Qan hj12) rfl, trivial⟩ ?_
    refine wx1 tbk [] trivial ?_
    refine bln ?_
    refine thn ?_
    refine wx1 tbk [] trivial ?_
    refine thn ?_
    exact arm (mto (n := 18) [(2, (I (w64 (y3 + x9.Amount)))), (6, (Qv0 p0)), (7, (I ((p0.Stairs.length : Int)))), (8, (I (w64 (y4 + 1))))] [] [] hφ0 (pc rwl (pc (.rn (.plain _ (nld Qa5 _))) (pc rwl (pc rwl pn)))) qn) (ih (w64 (y3 + x9.Amount), w64 (y4 + 1)) h)
   ·replace h := Qas hc8 h
    refine wfn hc8 (by kernel_rfl) ?_
    refine Qa3 ?_
    refine Qao ?_
    refine Qao ?_
    refine Qa2 rfl ?_
    refine thn ?_
    exact ⟨(y3), h, (mto (n := 18) [(2, I y3)] [] [] hφ0 (pc rwl pn) qn)⟩
def Qcu (N : Nat) (p0 : GDay) (k1 : Unit → Option (Int × Int)) : Nat → Int → Int → Option (Int × Int)
  | 0, _, _ => none
  | n6 + 1, y2, y3 =>
    bif (decide (y3 < (p0.Hours.length : Int))) then
     (getI p0.Hours y3).bind fun x8 =>
     (Qe1 N x8).bind fun x13 =>
     (some (w64 (y2 + (w64 (x13 - x8.Use))))).bind fun x14 =>
     bif (decide (x14 < 0)) then
      some (y3, w64 (0 - x14))
     else
      (some (if p0.Tank < x14 then p0.Tank else x14)).bind fun x17 =>
      Qcu N p0 k1 n6 x17 (w64 (y3 + 1))
    else
     k1 ()
def Qfd (N : Nat) (p0 : GDay) : Option (Int × Int) :=
  Qbr (fun _ =>
    some ((-1), 0)) fun k1 : Unit → Option (Int × Int) =>
  Qcu N p0 k1 N p0.Start 0
def Qsv (p0 : GDay) : AV := .dat 2 ((p0.Hours : List GHour).map Qaj)
def z38_1 (p0 : GDay) : Slot := .own 3 [[(I (p0.Tank)), (I (p0.Start)), (Qsv p0)]]
def z38_19 (x8 : GHour) : AV := .dat 2 ((x8.Stairs : List GStair).map Qan)
set_option maxRecDepth 100000 in
set_option maxHeartbeats 4000000 in
theorem Qig (N : Nat) (p0 : GDay) (r : (Int × Int)) (h : Qfd N p0 = some r) : Spec Try.prog 75 [(.agg (Qii p0))] [] (.tup [(I r.1), (I r.2)]) [] := by
  refine Qal Try.func75 rfl 0 (nle rfl) (fun X φ0 w0 hφ0 => ?_)
  unfold Qfd at h
  refine wx tbk [] trivial ?_
  refine wx tbk [] trivial ?_
  obtain ⟨k1, hk_k1, h⟩ := jko h
  refine wjn (τ := Unit) (fun t => k1 t = some r) (fun _ => ⟨mk 34 [], []⟩) (fun t h => ?_) ?_
  ·subst hk_k1
   refine wx tbk [] trivial ?_
   refine Qah ?_
   obtain rfl := osi h
   exact fend ⟨[(I ((-1))), I 0], ⟨rot (by kernel_rfl), rot (by kernel_rfl), trivial⟩, rfl⟩ (NLt.tup _ (nlc nll (nlc nll nl0)))
  ·skip
   refine wx tbk [(2, rp [(.tmp 10, (Qsv p0))] (I ((p0.Hours.length : Int))))] ⟨alm (c := Qaj) (l := p0.Hours) (aln rfl Try.underlying45 rfl), trivial⟩ ?_
   refine Qai ?_
   refine wmr (mto (n := 34) (l' := [(1, .ref 0 3 0 0), (4, I p0.Start), (10, (Qsv p0)), (11, (I ((p0.Hours.length : Int)))), (12, I 0)]) (own' := [(z38_1 p0)]) [(1, .ref 0 3 0 0), (4, I p0.Start), (10, (Qsv p0)), (11, (I ((p0.Hours.length : Int)))), (12, I 0)] [0] [(z38_1 p0)] hφ0 (pc (.rn (rqr rfl)) (pc rwl (pc (.rn (.plain _ (nld Qac _))) (pc rwl (pc rwl pn))))) (qc (spb (lc rwl (lc rwl (lc (.rn (.plain _ (nld Qac _))) ln)))) qn)) ?_
   refine Qbu (τ := Int × Int) (fun n t => Qcu N p0 k1 n t.1 t.2 = some r) (fun ⟨y2, y3⟩ => ⟨mk 34 [(1, .ref 0 3 0 0), (4, I y2), (10, (Qsv p0)), (11, (I ((p0.Hours.length : Int)))), (12, I y3)], [(z38_1 p0)]⟩) (fun t h => by rw [Qcu] at h; cases h) (fun n6 ih t h => ?_) N (p0.Start, 0) h
   obtain ⟨y2, y3⟩ := t
   rw [Qcu] at h
   skip
   refine wx tbk [] trivial ?_
   refine wsq ?_
   rcases bft ((decide (y3 < (p0.Hours.length : Int)))) with hc7 | hc7
   ·replace h := Qar hc7 h
    refine wft hc7 (by kernel_rfl) ?_
    refine Qag ?_
    refine thn ?_
    refine wsq ?_
    refine Qai ?_
    obtain ⟨x8, hg9, h⟩ := bno h
    obtain ⟨hi10, hj11⟩ := gsm hg9
    refine wx tbk [(1, rp [(.tmp 10, (Qsv p0)), (.tmp 12, I y3)] (.dptr (Qaj (x8)) 0))] ⟨aid rfl Try.underlying45 ti62 rfl rfl hi10 (mgt Qaj hj11) rfl, trivial⟩ ?_
    obtain ⟨x13, hf12, h⟩ := bno h
    obtain ⟨x14, hl15, h⟩ := bno h
    refine wxd tbk [(2, rp [fu 101, (.tmp 18, (.agg [I x8.Use, (z38_19 x8)]))] (I x13)), (7, rp [(.tmp 23, (I (w64 (y2 + (w64 (x13 - x8.Use))))))] (I x14))] ⟨apc (first := []) (cap := []) (vs := [(.agg [I x8.Use, (z38_19 x8)])]) rfl Qvf (Qh5 N x8 _ hf12) rfl rfl (nlc (NLt.agg _ (nlc nll (nlc (nld Qa5 _) nl0))) nl0) nll rfl, Qd4 hl15 (aas rfl), trivial⟩ ?_
    refine wsq ?_
    refine wx tbk [] trivial ?_
    rcases bft ((decide (x14 < 0))) with hc16 | hc16
    ·replace h := Qar hc16 h
     refine wft hc16 (by kernel_rfl) ?_
     refine wx tbk [] trivial ?_
     refine Qah ?_
     refine Qad ?_
     refine Qak ?_
     refine Qad ?_
     refine Qad ?_
     refine Qak ?_
     refine Qad ?_
     obtain rfl := osi h
     exact fend ⟨[I y3, (I (w64 (0 - x14)))], ⟨rot (by kernel_rfl), rot (by kernel_rfl), trivial⟩, rfl⟩ (NLt.tup _ (nlc nll (nlc nll nl0)))
    ·replace h := Qas hc16 h
     refine wfn hc16 (by kernel_rfl) ?_
     refine Qag ?_
     refine thn ?_
     obtain ⟨x17, hl18, h⟩ := bno h
     refine wx1 tbk [(3, rp [(.tmp 29, I x14), (.tmp 31, I p0.Tank)] (I ((if p0.Tank < x14 then p0.Tank else x14)))), (4, rp [(.tmp 32, (I ((if p0.Tank < x14 then p0.Tank else x14))))] (I x17))] ⟨Qi4 rfl, Qd4 hl18 (aas rfl), trivial⟩ ?_
     refine bln ?_
     refine thn ?_
     refine wx1 tbk [] trivial ?_
     refine thn ?_
     exact arm (mto (n := 34) [(1, .ref 0 3 0 0), (4, I x17), (10, (Qsv p0)), (11, (I ((p0.Hours.length : Int)))), (12, (I (w64 (y3 + 1))))] [0] [(z38_1 p0)] hφ0 (pc (.rn (rqr rfl)) (pc rwl (pc (.rn (.plain _ (nld Qac _))) (pc rwl (pc rwl pn))))) (qc (spb (lc rwl (lc rwl (lc (.rn (.plain _ (nld Qac _))) ln)))) qn)) (ih (x17, w64 (y3 + 1)) h)
   ·replace h := Qas hc7 h
    refine wfn hc7 (by kernel_rfl) ?_
    refine Qa3 ?_
    refine Qao ?_
    refine Qao ?_
    refine Qa2 rfl ?_
    refine thn ?_
    exact ⟨(), h, (mto (n := 34) [] [] [] hφ0 pn qn)⟩
def Qde (_N : Nat) (_p0 : GHour) (_p1 : Int) : Option Unit :=
  some ()
def Qxo : AV := .fn (.func 109) [] [(.ref 0 2 (0) 0), (.ref 1 1 (0) 0)]
def z41_1 (p0 : GHour) : Slot := .own 2 [[(I (p0.Use)), (.dat 2 ((p0.Stairs : List GStair).map Qan))]]
set_option maxRecDepth 100000 in
set_option maxHeartbeats 4000000 in
theorem Qf4 (N : Nat) (p0 : GHour) (p1 : Int) (r : Unit) (h : Qde N p0 p1 = some r) : Spec Try.prog 93 [(.agg [(I (p0.Use)), (.dat 2 ((p0.Stairs : List GStair).map Qan))]), (I (p1))] [] Qxo [(z41_1 p0), (.own 1 [[(I (p1))]])] := by
  refine Qal Try.func93 rfl 2 (nle rfl) (fun X φ0 w0 hφ0 => ?_)
  unfold Qde at h
  refine Qc3 ?_
  refine wx tbk [] trivial ?_
  refine wx tbk [(0, rp [(.tmp 2, .ref 0 2 0 0), (.tmp 3, .ref 1 1 0 0)] Qxo)] ⟨Qgp (fs := []) (cs := [.ref 0 2 0 0, .ref 1 1 0 0]) rfl rfl rfl rfl, trivial⟩ ?_
  refine wmr (mto (n := 6) (l' := [(4, Qxo)]) (own' := [(z41_1 p0), (.own 1 [[I p1]])]) [(4, Qxo)] [0, 1] [(z41_1 p0), (.own 1 [[I p1]])] hφ0 (pc (.rn (Qay rn0 (rnc (rqr rfl) (rnc (rqr rfl) rn0)))) pn) (qc (spb (lc rwl (lc (.rn (.plain _ (nld Qa5 _))) ln))) (qc (spb (lc rwl ln)) qn))) ?_
  refine Qah ?_
  obtain rfl := osi h
  exact ⟨_, Mor.rfl, Qdi (vs := [Qxo]) ⟨rot (by kernel_rfl), trivial⟩ rfl (NLt.fn _ _ _ nl0 (nlc (NLt.ref _ _ _ _ (by decide)) (nlc (NLt.ref _ _ _ _ (by decide)) nl0))) (by kernel_rfl) (Qau (Qbt (nlc (NLt.of0 nll) (nlc (NLt.of0 (nld Qa5 _)) nl0))) (Qau (Qbt (nlc (NLt.of0 nll) nl0)) Qb0))⟩
def Qcp (N : Nat) (p1 : (List GStair)) : Nat → Int → Int → Option (List (GStair × Int))
  | 0, _, _ => none
  | n7 + 1, y1, y2 =>
    bif (decide (y1 < (p1.length : Int))) then
     (getI p1 y1).bind fun x9 =>
     (some (if x9.Amount < y2 then x9.Amount else y2)).bind fun x13 =>
     yld (x9, x13) <|
     Qcp N p1 n7 (w64 (y1 + 1)) (w64 (y2 - x13))
    else
     some ([])
def Qdd (N : Nat) (_p0 : Int) (p1 : (List GStair)) (p2 : Int) : Option (List (GStair × Int)) :=
  Qcp N p1 N 0 p2
def Qsu (p1 : (List GStair)) : AV := .dat 2 ((p1 : List GStair).map Qan)
def Qxn (p0 : Int) (p1 : (List GStair)) : Slot := .own 2 [[(I (p0)), (Qsu p1)]]
def z42_9 (x9 : GStair) : AV := .agg [(I (x9.Amount)), (I (x9.Price))]
set_option maxRecDepth 100000 in
set_option maxHeartbeats 4000000 in
theorem Qf3 (N : Nat) (p0 : Int) (p1 : (List GStair)) (p2 : Int) (r : (List (GStair × Int))) (h : Qdd N p0 p1 p2 = some r) : Qo1 Try.prog 109 [(.ref 0 2 (0) 0), (.ref 1 1 (0) 0)] [(Qxn p0 p1), (.own 1 [[(I (p2))]])] (fun x => [(.agg #[(.int .i64 (x.1.Amount)), (.int .i64 (x.1.Price))]), (.int .i64 (x.2))]) r := by
  refine Qpf Try.func109 rfl rfl (fun X φ0 w0 l J hφ0 hy => ?_)
  unfold Qdd at h
  refine wx tbk [(2, rp [(.tmp 8, (Qsu p1))] (I ((p1.length : Int))))] ⟨alm (c := Qan) (l := p1) (aln rfl Try.underlying60 rfl), trivial⟩ ?_
  refine Qai ?_
  refine wmr (mto (n := 27) (l' := [(0, (.lit (.func (.yield l) #[] #[]))), (2, .ref 1 1 0 0), (8, (Qsu p1)), (9, (I ((p1.length : Int)))), (10, I 0)]) (own' := [(Qxn p0 p1), (.own 1 [[I p2]]), (.far (J (some (r))))]) [(0, (.lit (.func (.yield l) #[] #[]))), (2, .ref 1 1 0 0), (8, (Qsu p1)), (9, (I ((p1.length : Int)))), (10, I 0)] [0, 1, 2] [(Qxn p0 p1), (.own 1 [[I p2]]), (.far (J (some (r))))] hφ0 (pc rwl (pc (.rn (rqr rfl)) (pc (.rn (.plain _ (nld Qa5 _))) (pc rwl (pc rwl pn))))) (qc (spb (lc rwl (lc (.rn (.plain _ (nld Qa5 _))) ln))) (qc (spb (lc rwl ln)) (qc (.far _) qn)))) ?_
  refine Qbu (τ := (Int × Int) × List (GStair × Int)) (fun n t => Qcp N p1 n t.1.1 t.1.2 = some t.2) (fun ⟨⟨y1, y2⟩, q3⟩ => ⟨mk 27 [(0, (.lit (.func (.yield l) #[] #[]))), (2, .ref 1 1 0 0), (8, (Qsu p1)), (9, (I ((p1.length : Int)))), (10, I y1)], [(Qxn p0 p1), (.own 1 [[I y2]]), (.far (J (some (q3))))]⟩) (fun t h => by rw [Qcp] at h; cases h) (fun n7 ih t h => ?_) N ((0, p2), r) h
  obtain ⟨⟨y1, y2⟩, q3⟩ := t
  rw [Qcp] at h
  try dsimp only at h
  refine wx tbk [] trivial ?_
  refine wsq ?_
  rcases bft ((decide (y1 < (p1.length : Int)))) with hc8 | hc8
  ·replace h := Qar hc8 h
   refine wft hc8 (by kernel_rfl) ?_
   refine Qag ?_
   refine thn ?_
   refine wsq ?_
   refine Qai ?_
   obtain ⟨x9, hg10, h⟩ := bno h
   obtain ⟨hi11, hj12⟩ := gsm hg10
   refine wx tbk [(0, rp [(.tmp 8, (Qsu p1)), (.tmp 10, I y1)] (.dptr (Qan (x9)) 0))] ⟨aid rfl Try.underlying60 ti64 rfl rfl hi11 (mgt Qan hj12) rfl, trivial⟩ ?_
   obtain ⟨x13, hl14, h⟩ := bno h
   refine wx tbk [(3, rp [(.tmp 14, I y2), (.tmp 16, I x9.Amount)] (I ((if x9.Amount < y2 then x9.Amount else y2)))), (4, rp [(.tmp 17, (I ((if x9.Amount < y2 then x9.Amount else y2))))] (I x13))] ⟨Qi4 rfl, Qd4 hl14 (aas rfl), trivial⟩ ?_
   refine wsq ?_
   obtain ⟨q15, hy_, hq_⟩ := Qx0 h
   clear h
   subst hq_
   have h := hy_
   clear hy_
   refine Qvm 3 [mv 0 (.lit (.func (.yield l) #[] #[])), rb [(.tmp 5, .ref 3 2 0 0)] [(3, .own 2 [[I x9.Amount, I x9.Price]])] (z42_9 x9), mv 6 (I x13), ⟨[(.tmp 18, (.lit (.func (.yield l) #[] #[]))), (.tmp 19, (z42_9 x9)), (.tmp 20, I x13)], [(2, (.far (J (some ((x9, x13) :: q15)))))], B true, [(2, (.far (J (some (q15)))))], false⟩, rp [(.tmp 21, B true)] (B false)] [mv 0 (.lit (.func (.yield l) #[] #[])), rb [(.tmp 5, .ref 3 2 0 0)] [(3, .own 2 [[I x9.Amount, I x9.Price]])] (z42_9 x9), mv 6 (I x13), ⟨[(.tmp 18, (.lit (.func (.yield l) #[] #[]))), (.tmp 19, (z42_9 x9)), (.tmp 20, I x13)], [(2, (.far (J (some ((x9, x13) :: q15)))))], B false, [(2, (.far (J none)))], false⟩, rp [(.tmp 21, B false)] (B true)] (by exact ⟨by kernel_rfl, by kernel_rfl⟩) (by exact ⟨by kernel_rfl, by kernel_rfl⟩) rfl rfl rfl rfl (Qow (rd' := (.tmp 18, .lit (.func (.yield l) #[] #[])) :: [(.tmp 19, .lit (.agg #[(.int .i64 (x9.Amount)), (.int .i64 (x9.Price))])), (.tmp 20, .lit (.int .i64 (x13)))]) ⟨rfl, lrf, rfl, (Less.lits [(.int .i64 (x9.Amount)), (.int .i64 (x9.Price))]), rfl, lrf, trivial⟩ (Qm2 (x := (x9, x13)) (rest := q15) rfl rfl hy rfl)) (⟨fun _ _ => amv rfl, fun _ _ => ald rfl ti64 (by decide) rfl (nle rfl) rfl, fun _ _ => amv rfl, fun _ h => absurd rfl h, fun _ _ => Qkg rfl, trivial⟩) (⟨fun _ _ => amv rfl, fun _ _ => ald rfl ti64 (by decide) rfl (nle rfl) rfl, fun _ _ => amv rfl, fun _ h => absurd rfl h, fun _ _ => Qkg rfl, trivial⟩) ?_ ?_
   ·skip
    refine Qdj (by kernel_rfl) ?_
    refine Qag ?_
    refine thn ?_
    refine wx1 tbk [] trivial ?_
    refine bln ?_
    refine thn ?_
    refine wx1 tbk [] trivial ?_
    refine thn ?_
    exact arm (mto (n := 27) [(0, (.lit (.func (.yield l) #[] #[]))), (2, .ref 1 1 0 0), (8, (Qsu p1)), (9, (I ((p1.length : Int)))), (10, (I (w64 (y1 + 1))))] [0, 1, 2] [(Qxn p0 p1), (.own 1 [[(I (w64 (y2 - x13)))]]), (.far (J (some (q15))))] hφ0 (pc rwl (pc (.rn (rqr rfl)) (pc (.rn (.plain _ (nld Qa5 _))) (pc rwl (pc rwl pn))))) (qc (spb (lc rwl (lc (.rn (.plain _ (nld Qa5 _))) ln))) (qc (spb (lc rwl ln)) (qc (.far _) qn)))) (ih ((w64 (y1 + 1), w64 (y2 - x13)), q15) h)
   ·clear h
    refine Qcm (by kernel_rfl) ?_
    refine Qah ?_
    refine Qad ?_
    refine Qak ?_
    refine Qad ?_
    refine Qad ?_
    refine Qak ?_
    exact Or.inr (by kernel_rfl)
  ·replace h := Qas hc8 h
   refine wfn hc8 (by kernel_rfl) ?_
   refine Qa3 ?_
   refine Qao ?_
   refine Qao ?_
   refine Qa2 rfl ?_
   obtain rfl := osi h
   exact Or.inl rfl
def Qci (N : Nat) (k2 : Int → Option Int) : (List (GStair × Int)) → Int → Option Int
  | [], y7 =>
    k2 (y7)
  | x10 :: q11, y7 =>
    Qci N k2 q11 (w64 (y7 + (w64 (x10.1.Price * x10.2))))
def Qfc (N : Nat) (p0 : GHour) (p1 : Int) : Option Int :=
  Qbr (fun y1 =>
    some y1) fun k2 : Int → Option Int =>
  (Qde N p0 p1).bind fun _ =>
  (Qdd N p0.Use p0.Stairs p1).bind fun q5 =>
  Qci N k2 q5 0
def z40_0 (p0 : GHour) : AV := .dat 2 ((p0.Stairs : List GStair).map Qan)
def z40_3 : AV := .fn (.func 109) [] [(.ref 2 2 (0) 0), (.ref 3 1 (0) 0)]
def Qxp (p0 : GHour) : Slot := .own 2 [[(I (p0.Use)), (z40_0 p0)]]
set_option maxRecDepth 100000 in
set_option maxHeartbeats 4000000 in
theorem Qif (N : Nat) (p0 : GHour) (p1 : Int) (r : Int) (h : Qfc N p0 p1 = some r) : Spec Try.prog 77 [(.agg (Qaj p0)), (I p1)] [] (I r) [] := by
  refine Qal Try.func77 rfl 0 (nle rfl) (fun X φ0 w0 hφ0 => ?_)
  unfold Qfc at h
  refine wx tbk [] trivial ?_
  obtain ⟨k2, hk_k2, h⟩ := jko h
  refine wjn (τ := Int) (fun t => k2 t = some r) (fun y1 => ⟨mk 19 [(4, .ref 0 1 0 0)], [(.own 1 [[I y1]])]⟩) (fun y1 h => ?_) ?_
  ·subst hk_k2
   refine wx tbk [] trivial ?_
   refine Qah ?_
   obtain rfl := osi h
   exact fend ⟨[I y1], ⟨Qc9 (n := 0) (m := 1) (j := 0) (i := 0) (xs := [[I y1]]) (by kernel_rfl) (by kernel_rfl) ti3 (by decide) rfl (nle rfl) rfl, trivial⟩, rfl⟩ nll
  ·skip
   obtain ⟨x4, hf3, h⟩ := bno h
   refine wx tbk [(2, ⟨[fu 93, (.tmp 7, (.agg [I p0.Use, (z40_0 p0)])), (.tmp 8, I p1)], [(2, .unused), (3, .unused)], z40_3, [(2, (Qxp p0)), (3, .own 1 [[I p1]])], false⟩)] ⟨Qat (first := []) (cap := []) (vs := [(.agg [I p0.Use, (z40_0 p0)]), I p1]) (σr := []) (σr' := [(Qxp p0), (.own 1 [[I p1]])]) (res' := z40_3) [2, 3] rfl Qtj (Qf4 N p0 p1 _ hf3) rfl (Qcq (rnc (.plain _ (NLt.agg _ (nlc nll (nlc (nld Qa5 _) nl0)))) (rnc (.plain _ nll) rn0))) Qap (slc (Qam (rnc (.plain _ nll) (rnc (.plain _ (nld Qa5 _)) rn0))) (slc (Qam (rnc (.plain _ nll) rn0)) Qap)) (Qay rn0 (rnc (Qge rfl) (rnc (Qge rfl) rn0))) rfl rfl rfl, trivial⟩ ?_
   refine Qai ?_
   obtain ⟨q5, hL6, h⟩ := bno h
   refine wmr (mto (n := 19) (l' := [(4, .ref 0 1 0 0), (9, (.fn (.func 109) [] [.ref 1 2 0 0, .ref 2 1 0 0]))]) (own' := [(.own 1 [[I 0]]), (Qxp p0), (.own 1 [[I p1]])]) [(4, .ref 1 1 0 0), (9, z40_3)] [1, 2, 3] [(.own 1 [[I 0]]), (Qxp p0), (.own 1 [[I p1]])] hφ0 (pc (.rn (rqr rfl)) (pc (.rn (Qay rn0 (rnc (rqr rfl) (rnc (rqr rfl) rn0)))) pn)) (qc (spb (lc rwl ln)) (qc (spb (lc rwl (lc (.rn (.plain _ (nld Qa5 _))) ln))) (qc (spb (lc rwl ln)) qn)))) ?_
   refine Qi2 (τ := (Int)) (kb := 3) (caps := [.ref 1 2 0 0, .ref 2 1 0 0]) (σr := [(Qxp p0), (.own 1 [[I p1]])]) (encs := fun x => [(.agg #[(.int .i64 (x.1.Amount)), (.int .i64 (x.1.Price))]), (.int .i64 (x.2))]) (fun x => [(.agg [I x.1.Amount, I x.1.Price]), I x.2]) [1, 2] (fun n hn => hφ0 n (Nat.le_trans (nle rfl) hn)) (Qf3 N p0.Use p0.Stairs p1 _ hL6) Qq1 (by kernel_rfl) (by kernel_rfl) (Qcq (rnc (Qge rfl) (rnc (Qge rfl) rn0))) (slc (Qam (rnc (.plain _ nll) (rnc (.plain _ (nld Qa5 _)) rn0))) (slc (Qam (rnc (.plain _ nll) rn0)) Qap)) (by kernel_rfl) (fun _ => rfl) (fun x => ⟨(Less.unlits [(.int .i64 (x.1.Amount)), (.int .i64 (x.1.Price))]), lrf, trivial⟩) (Qr5 (Qdl (NLt.ref _ _ _ _ (by decide)) (Qdl (NLt.fn _ _ _ nl0 (nlc (NLt.ref _ _ _ _ (by decide)) (nlc (NLt.ref _ _ _ _ (by decide)) nl0))) Qoc))) (fun y7 => [(.own 1 [[I y7]]), .dead, .dead]) (fun _ => rfl) (fun _ => rfl) (fun l t => Qci N k2 l t = some r) (0) h (by kernel_rfl) ?_ ?_
   ·intro l12 o13 X16 φ17 w18 hφ15 x10 q11 y7 h
    rw [Qci] at h
    refine wx tbk [] trivial ?_
    refine wx1 tbk [] trivial ?_
    refine ⟨by kernel_rfl, fun o14 => ?_⟩
    refine Qai ?_
    refine wx1 tbk [] trivial ?_
    refine bln ?_
    exact ⟨(w64 (y7 + (w64 (x10.1.Price * x10.2)))), h, Qjt (own' := [(.own 1 [[(I ((w64 (y7 + (w64 (x10.1.Price * x10.2))))))]]), .dead, .dead, (.far (farL l12 o14))]) [0, 1, 2, 3] [(.own 1 [[(I (w64 (y7 + (w64 (x10.1.Price * x10.2)))))]]), .dead, .dead, (.far (farL l12 o14))] (by kernel_rfl) (by kernel_rfl) ⟨(spb (lc rwl ln)), .dead, .dead, .far _, trivial⟩⟩
   ·intro y7 h
    rw [Qci] at h
    refine bln ?_
    refine thn ?_
    exact ⟨(y7), h, (mto (n := 19) [(4, .ref 0 1 0 0)] [0] [(.own 1 [[I y7]])] hφ0 (pc (.rn (rqr rfl)) pn) (qc (spb (lc rwl ln)) qn))⟩
end Go.Proofs.Ytgdepcgbjjgnfaa
