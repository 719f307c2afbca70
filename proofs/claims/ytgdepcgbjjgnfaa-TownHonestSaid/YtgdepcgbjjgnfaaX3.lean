/-
  Functions of the program: what they compute, as plain functions, and that they do. No conditions.
-/
import Derived.Test.YtgdepcgbjjgnfaaX2
namespace Go.Proofs.Ytgdepcgbjjgnfaa
open Go.RowKit
def Qc7 (N : Nat) (p0 : GHour) (k1 : Unit → Option Bool) : Nat → Int → Option Bool
  | 0, _ => none
  | n7 + 1, y5 =>
    bif (decide (y5 < (p0.Stairs.length : Int))) then
     (getI p0.Stairs y5).bind fun x9 =>
     (Qcw N x9.Amount 1 1000000000).bind fun x14 =>
     bif (!x14) then
      some false
     else
      (Qcw N x9.Price 0 1000).bind fun x17 =>
      bif (!x17) then
       some false
      else
       bif (decide (y5 > 0)) then
        (getI p0.Stairs (w64 (y5 - 1))).bind fun x20 =>
        bif (decide (x9.Price ≤ x20.Price)) then
         some false
        else
         Qc7 N p0 k1 n7 (w64 (y5 + 1))
       else
        Qc7 N p0 k1 n7 (w64 (y5 + 1))
    else
     k1 ()
def Qg2 (N : Nat) (p0 : GHour) : Option Bool :=
  Qcv (fun _ =>
    (Qe9 N p0.Use).bind fun x3 =>
    bif x3 then
     some (decide ((p0.Stairs.length : Int) ≤ 6))
    else
     some false) fun k1 : Unit → Option Bool =>
  Qc7 N p0 k1 N 0
def Qns (p0 : GHour) : AV := .dat 2 ((p0.Stairs : List GStair).map Qbk)
def Qri (p0 : GHour) : Slot := .own 2 [[(I (p0.Use)), (Qns p0)]]
set_option maxRecDepth 100000 in
set_option maxHeartbeats 4000000 in
theorem Qka (N : Nat) (p0 : GHour) (r : Bool) (h : Qg2 N p0 = some r) : Spec Try.prog 100 [(.agg (Qbr p0))] [] (B r) [] := by
  refine Qaj Try.func100 rfl 0 (nle rfl) (fun X φ0 w0 hφ0 => ?_)
  unfold Qg2 at h
  refine wx tbk [] trivial ?_
  obtain ⟨k1, hk_k1, h⟩ := jko h
  refine wjn (τ := Unit) (fun t => k1 t = some r) (fun _ => ⟨mk 49 [(1, .ref 0 2 0 0)], [(Qri p0)]⟩) (fun t h => ?_) ?_
  ·subst hk_k1
   obtain ⟨x3, hf2, h⟩ := bno h
   rcases bft (x3) with hb4 | hb4
   ·replace h := Qar hb4 h
    refine wx tbk [(2, rp [fu 94, (.tmp 41, I p0.Use)] (B x3)), (3, rp [(.tmp 42, B x3)] (B true)), (6, rp [(.tmp 43, B true), (.tmp 45, (Qns p0))] (I ((p0.Stairs.length : Int))))] ⟨apc (first := []) (cap := []) (vs := [I p0.Use]) rfl Qe7 (Qb0 N p0.Use _ hf2) rfl rfl (nlc nll nl0) nll rfl, asb hb4 (amv rfl), ag_ (alm (c := Qbk) (l := p0.Stairs) (aln rfl Try.underlying60 rfl)), trivial⟩ ?_
    refine Qai ?_
    obtain rfl := osi h
    exact fend ⟨[(B ((decide ((p0.Stairs.length : Int) ≤ 6))))], ⟨rot (by kernel_rfl), trivial⟩, rfl⟩ nll
   ·replace h := Qas hb4 h
    refine wx tbk [(2, rp [fu 94, (.tmp 41, I p0.Use)] (B x3)), (3, rp [(.tmp 42, B x3)] (B false))] ⟨apc (first := []) (cap := []) (vs := [I p0.Use]) rfl Qe7 (Qb0 N p0.Use _ hf2) rfl rfl (nlc nll nl0) nll rfl, asb hb4 (amv rfl), trivial⟩ ?_
    refine Qai ?_
    obtain rfl := osi h
    exact fend ⟨[B false], ⟨rot (by kernel_rfl), trivial⟩, rfl⟩ nll
  ·skip
   refine wx tbk [(2, rp [(.tmp 6, (Qns p0))] (I ((p0.Stairs.length : Int))))] ⟨alm (c := Qbk) (l := p0.Stairs) (aln rfl Try.underlying60 rfl), trivial⟩ ?_
   refine Qah ?_
   refine wmr (mto (n := 49) (l' := [(1, .ref 0 2 0 0), (6, (Qns p0)), (7, (I ((p0.Stairs.length : Int)))), (8, I 0)]) (own' := [(Qri p0)]) [(1, .ref 0 2 0 0), (6, (Qns p0)), (7, (I ((p0.Stairs.length : Int)))), (8, I 0)] [0] [(Qri p0)] hφ0 (pc (.rn (rqr rfl)) (pc (.rn (.plain _ (nld Qb6 _))) (pc rwl (pc rwl pn)))) (qc (spb (lc rwl (lc (.rn (.plain _ (nld Qb6 _))) ln))) qn)) ?_
   refine Qb7 (τ := Int) (fun n t => Qc7 N p0 k1 n t = some r) (fun y5 => ⟨mk 49 [(1, .ref 0 2 0 0), (6, (Qns p0)), (7, (I ((p0.Stairs.length : Int)))), (8, I y5)], [(Qri p0)]⟩) (fun t h => by rw [Qc7] at h; cases h) (fun n7 ih y5 h => ?_) N (0) h
   rw [Qc7] at h
   skip
   refine wx tbk [] trivial ?_
   refine wsq ?_
   rcases bft ((decide (y5 < (p0.Stairs.length : Int)))) with hc8 | hc8
   ·replace h := Qar hc8 h
    refine wft hc8 (by kernel_rfl) ?_
    refine Qaf ?_
    refine thn ?_
    refine wsq ?_
    refine Qah ?_
    obtain ⟨x9, hg10, h⟩ := bno h
    obtain ⟨hi11, hj12⟩ := gsm hg10
    refine wx tbk [(1, rp [(.tmp 6, (Qns p0)), (.tmp 8, I y5)] (.dptr (Qbk (x9)) 0))] ⟨aid rfl Try.underlying60 ti64 rfl rfl hi11 (mgt Qbk hj12) rfl, trivial⟩ ?_
    obtain ⟨x14, hf13, h⟩ := bno h
    rcases bft ((!x14)) with hb15 | hb15
    ·replace h := Qar hb15 h
     refine wxd tbk [(2, rp [fu 68, (.tmp 14, I x9.Amount), ci 1, ci 1000000000] (B x14)), (4, rp [(.tmp 16, (B ((!x14))))] (B true))] ⟨apc (first := []) (cap := []) (vs := [I x9.Amount, I 1, I 1000000000]) rfl Qd7 (Qa0 N x9.Amount 1 1000000000 _ hf13) rfl rfl (nlc nll (nlc nll (nlc nll nl0))) nll rfl, asb hb15 (amv rfl), trivial⟩ ?_
     refine Qbs (by kernel_rfl) ?_
     refine wx tbk [] trivial ?_
     refine Qai ?_
     refine Qaq ?_
     refine Qag ?_
     refine Qag ?_
     refine Qaq ?_
     refine Qag ?_
     obtain rfl := osi h
     exact fend ⟨[B false], ⟨rot (by kernel_rfl), trivial⟩, rfl⟩ nll
    ·replace h := Qas hb15 h
     obtain ⟨x17, hf16, h⟩ := bno h
     rcases bft ((!x17)) with hb18 | hb18
     ·replace h := Qar hb18 h
      refine wxd tbk [(2, rp [fu 68, (.tmp 14, I x9.Amount), ci 1, ci 1000000000] (B x14)), (4, rp [(.tmp 16, (B ((!x14))))] (B false)), (7, rp [(.tmp 17, B false), fu 68, (.tmp 19, I x9.Price), ci 0, ci 1000] (B x17)), (10, rp [(.tmp 22, (B ((!x17))))] (B true))] ⟨apc (first := []) (cap := []) (vs := [I x9.Amount, I 1, I 1000000000]) rfl Qd7 (Qa0 N x9.Amount 1 1000000000 _ hf13) rfl rfl (nlc nll (nlc nll (nlc nll nl0))) nll rfl, asb hb15 (amv rfl), ag_ (apc (first := []) (cap := []) (vs := [I x9.Price, I 0, I 1000]) rfl Qd7 (Qa0 N x9.Price 0 1000 _ hf16) rfl rfl (nlc nll (nlc nll (nlc nll nl0))) nll rfl), asb hb18 (amv rfl), trivial⟩ ?_
      refine Qbs (by kernel_rfl) ?_
      refine wx tbk [] trivial ?_
      refine Qai ?_
      refine Qaq ?_
      refine Qag ?_
      refine Qag ?_
      refine Qaq ?_
      refine Qag ?_
      obtain rfl := osi h
      exact fend ⟨[B false], ⟨rot (by kernel_rfl), trivial⟩, rfl⟩ nll
     ·replace h := Qas hb18 h
      rcases bft ((decide (y5 > 0))) with hb19 | hb19
      ·replace h := Qar hb19 h
       obtain ⟨x20, hg21, h⟩ := bno h
       obtain ⟨hi22, hj23⟩ := gsm hg21
       refine wxd tbk [(2, rp [fu 68, (.tmp 14, I x9.Amount), ci 1, ci 1000000000] (B x14)), (4, rp [(.tmp 16, (B ((!x14))))] (B false)), (7, rp [(.tmp 17, B false), fu 68, (.tmp 19, I x9.Price), ci 0, ci 1000] (B x17)), (10, rp [(.tmp 22, (B ((!x17))))] (B false)), (13, rp [(.tmp 23, B false), (.tmp 25, (B ((decide (y5 > 0)))))] (B true)), (20, rp [(.tmp 26, B true), (.tmp 30, (Qns p0)), (.tmp 32, (I (w64 (y5 - 1))))] (.dptr (Qbk (x20)) 0))] ⟨apc (first := []) (cap := []) (vs := [I x9.Amount, I 1, I 1000000000]) rfl Qd7 (Qa0 N x9.Amount 1 1000000000 _ hf13) rfl rfl (nlc nll (nlc nll (nlc nll nl0))) nll rfl, asb hb15 (amv rfl), ag_ (apc (first := []) (cap := []) (vs := [I x9.Price, I 0, I 1000]) rfl Qd7 (Qa0 N x9.Price 0 1000 _ hf16) rfl rfl (nlc nll (nlc nll (nlc nll nl0))) nll rfl), asb hb18 (amv rfl), asb hb19 (ag_ (amv rfl)), ag_ (aid rfl Try.underlying60 ti64 rfl rfl hi22 (mgt Qbk hj23) rfl), trivial⟩ ?_
       rcases bft ((decide (x9.Price ≤ x20.Price))) with hc24 | hc24
       ·replace h := Qar hc24 h
        refine wft hc24 (by kernel_rfl) ?_
        refine wx tbk [] trivial ?_
        refine Qai ?_
        refine Qaq ?_
        refine Qag ?_
        refine Qag ?_
        refine Qaq ?_
        refine Qag ?_
        obtain rfl := osi h
        exact fend ⟨[B false], ⟨rot (by kernel_rfl), trivial⟩, rfl⟩ nll
       ·replace h := Qas hc24 h
        refine wfn hc24 (by kernel_rfl) ?_
        refine Qaf ?_
        refine bln ?_
        refine thn ?_
        refine wx1 tbk [] trivial ?_
        refine thn ?_
        exact arm (mto (n := 49) [(1, .ref 0 2 0 0), (6, (Qns p0)), (7, (I ((p0.Stairs.length : Int)))), (8, (I (w64 (y5 + 1))))] [0] [(Qri p0)] hφ0 (pc (.rn (rqr rfl)) (pc (.rn (.plain _ (nld Qb6 _))) (pc rwl (pc rwl pn)))) (qc (spb (lc rwl (lc (.rn (.plain _ (nld Qb6 _))) ln))) qn)) (ih (w64 (y5 + 1)) h)
      ·replace h := Qas hb19 h
       refine wxd tbk [(2, rp [fu 68, (.tmp 14, I x9.Amount), ci 1, ci 1000000000] (B x14)), (4, rp [(.tmp 16, (B ((!x14))))] (B false)), (7, rp [(.tmp 17, B false), fu 68, (.tmp 19, I x9.Price), ci 0, ci 1000] (B x17)), (10, rp [(.tmp 22, (B ((!x17))))] (B false)), (13, rp [(.tmp 23, B false), (.tmp 25, (B ((decide (y5 > 0)))))] (B false))] ⟨apc (first := []) (cap := []) (vs := [I x9.Amount, I 1, I 1000000000]) rfl Qd7 (Qa0 N x9.Amount 1 1000000000 _ hf13) rfl rfl (nlc nll (nlc nll (nlc nll nl0))) nll rfl, asb hb15 (amv rfl), ag_ (apc (first := []) (cap := []) (vs := [I x9.Price, I 0, I 1000]) rfl Qd7 (Qa0 N x9.Price 0 1000 _ hf16) rfl rfl (nlc nll (nlc nll (nlc nll nl0))) nll rfl), asb hb18 (amv rfl), asb hb19 (ag_ (amv rfl)), trivial⟩ ?_
       refine Qd3 (by kernel_rfl) ?_
       refine Qaf ?_
       refine bln ?_
       refine thn ?_
       refine wx1 tbk [] trivial ?_
       refine thn ?_
       exact arm (mto (n := 49) [(1, .ref 0 2 0 0), (6, (Qns p0)), (7, (I ((p0.Stairs.length : Int)))), (8, (I (w64 (y5 + 1))))] [0] [(Qri p0)] hφ0 (pc (.rn (rqr rfl)) (pc (.rn (.plain _ (nld Qb6 _))) (pc rwl (pc rwl pn)))) (qc (spb (lc rwl (lc (.rn (.plain _ (nld Qb6 _))) ln))) qn)) (ih (w64 (y5 + 1)) h)
   ·replace h := Qas hc8 h
    refine wfn hc8 (by kernel_rfl) ?_
    refine Qbc ?_
    refine Qao ?_
    refine Qao ?_
    refine Qbb rfl ?_
    refine thn ?_
    exact ⟨(), h, (mto (n := 49) [(1, .ref 0 2 0 0)] [0] [(Qri p0)] hφ0 (pc (.rn (rqr rfl)) pn) (qc (spb (lc rwl (lc (.rn (.plain _ (nld Qb6 _))) ln))) qn))⟩
def Qe4 (N : Nat) (p0 : GHour) : Option Bool :=
  (Qg2 N p0).bind fun x3 =>
  some (!x3)
def z36_2 (p0 : GHour) : AV := .agg [(I (p0.Use)), (.dat 2 ((p0.Stairs : List GStair).map Qbk))]
def Qxw : Slot := .own 1 [[(.fn (.func 100) [] [])]]
set_option maxRecDepth 100000 in
set_option maxHeartbeats 4000000 in
theorem Qho (N : Nat) (p0 : GHour) (r : Bool) (h : Qe4 N p0 = some r) : Spec Try.prog 112 [(z36_2 p0), (.ref 0 1 (0) 0)] [Qxw] (B (r)) [Qxw] := by
  refine Qaj Try.func112 rfl 1 (nle rfl) (fun X φ0 w0 hφ0 => ?_)
  unfold Qe4 at h
  refine Qc3 ?_
  refine wx tbk [] trivial ?_
  obtain ⟨x3, hf2, h⟩ := bno h
  refine wx tbk [(2, rp [(.tmp 4, (.fn (.func 100) [] [])), (.tmp 5, (z36_2 p0))] (B x3))] ⟨apc (first := []) (cap := []) (vs := [(z36_2 p0)]) rfl Qy1 (Qka N p0 _ hf2) rfl rfl (nlc (NLt.agg _ (nlc nll (nlc (nld Qb6 _) nl0))) nl0) nll rfl, trivial⟩ ?_
  refine wmr (mto (n := 8) (l' := [(3, (B ((!x3))))]) (own' := [Qxw]) [(3, (B ((!x3))))] [0] [Qxw] hφ0 (pc rwl pn) (qc (spb (lc (.rn (Qaw rn0 rn0)) ln)) qn)) ?_
  refine Qai ?_
  obtain rfl := osi h
  exact ⟨_, Mor.rfl, Qc2 (vs := [(B ((!x3)))]) ⟨rot (by kernel_rfl), trivial⟩ rfl (NLt.of0 nll) (by kernel_rfl) (Qat (Qb1 (nlc (NLt.of0 (NLt.fn _ _ _ nl0 nl0)) nl0)) Qbu)⟩
def Qa9 (N : Nat) (p0 : (List GHour)) (k2 : Unit → Option Int) : Nat → Int → Option Int
  | 0, _ => none
  | n5 + 1, y3 =>
    bif (decide (y3 < (p0.length : Int))) then
     (getI p0 y3).bind fun x7 =>
     (Qe4 N x7).bind fun x12 =>
     bif x12 then
      some y3
     else
      Qa9 N p0 k2 n5 (w64 (y3 + 1))
    else
     k2 ()
def Qcz (N : Nat) (p0 : (List GHour)) : Option Int :=
  Qcv (fun _ =>
    some (-1)) fun k2 : Unit → Option Int =>
  Qa9 N p0 k2 N 0
def Qrj (p0 : (List GHour)) : AV := .dat 2 ((p0 : List GHour).map Qbr)
def Qt8 : AV := .fn (.func 112) [] [(.ref 0 1 (0) 0)]
def Qjs : Slot := .own 1 [[(.fn (.func 100) [] [])]]
set_option maxRecDepth 100000 in
set_option maxHeartbeats 4000000 in
theorem Qfa (N : Nat) (p0 : (List GHour)) (r : Int) (h : Qcz N p0 = some r) : Spec Try.prog 116 [(Qrj p0), Qt8] [Qjs] (I (r)) [Qjs] := by
  refine Qaj Try.func116 rfl 1 (nle rfl) (fun X φ0 w0 hφ0 => ?_)
  unfold Qcz at h
  refine Qc3 ?_
  refine wx tbk [] trivial ?_
  obtain ⟨k2, hk_k2, h⟩ := jko h
  refine wjn (τ := Unit) (fun t => k2 t = some r) (fun _ => ⟨mk 19 [], [Qjs]⟩) (fun t h => ?_) ?_
  ·subst hk_k2
   refine wx tbk [] trivial ?_
   refine wmr (mto (n := 19) (l' := [(4, (I ((-1))))]) (own' := [Qjs]) [(4, (I ((-1))))] [0] [Qjs] hφ0 (pc rwl pn) (qc (spb (lc (.rn (Qaw rn0 rn0)) ln)) qn)) ?_
   refine Qai ?_
   obtain rfl := osi h
   exact ⟨_, Mor.rfl, Qc2 (vs := [(I ((-1)))]) ⟨rot (by kernel_rfl), trivial⟩ rfl (NLt.of0 nll) (by kernel_rfl) (Qat (Qb1 (nlc (NLt.of0 (NLt.fn _ _ _ nl0 nl0)) nl0)) Qbu)⟩
  ·skip
   refine wx tbk [(1, rp [(.tmp 6, (Qrj p0))] (I ((p0.length : Int))))] ⟨alm (c := Qbr) (l := p0) (aln rfl Try.underlying45 rfl), trivial⟩ ?_
   refine Qah ?_
   refine wmr (mto (n := 19) (l' := [(0, (Qrj p0)), (1, Qt8), (7, (I ((p0.length : Int)))), (8, I 0)]) (own' := [Qjs]) [(0, (Qrj p0)), (1, Qt8), (7, (I ((p0.length : Int)))), (8, I 0)] [0] [Qjs] hφ0 (pc (.rn (.plain _ (nld Qak _))) (pc (.rn (Qaw rn0 (rnc (rqr rfl) rn0))) (pc rwl (pc rwl pn)))) (qc (spb (lc (.rn (Qaw rn0 rn0)) ln)) qn)) ?_
   refine Qb7 (τ := Int) (fun n t => Qa9 N p0 k2 n t = some r) (fun y3 => ⟨mk 19 [(0, (Qrj p0)), (1, Qt8), (7, (I ((p0.length : Int)))), (8, I y3)], [Qjs]⟩) (fun t h => by rw [Qa9] at h; cases h) (fun n5 ih y3 h => ?_) N (0) h
   rw [Qa9] at h
   skip
   refine wx tbk [] trivial ?_
   refine wsq ?_
   rcases bft ((decide (y3 < (p0.length : Int)))) with hc6 | hc6
   ·replace h := Qar hc6 h
    refine wft hc6 (by kernel_rfl) ?_
    refine Qaf ?_
    refine thn ?_
    refine wsq ?_
    refine Qah ?_
    refine wx tbk [] trivial ?_
    obtain ⟨x7, hg8, h⟩ := bno h
    obtain ⟨hi9, hj10⟩ := gsm hg8
    obtain ⟨x12, hf11, h⟩ := bno h
    refine wx tbk [(3, rp [(.tmp 12, (Qrj p0)), (.tmp 13, I y3)] (.dptr (Qbr (x7)) 0)), (5, ⟨[(.tmp 11, Qt8), (.tmp 15, (.agg [I x7.Use, (.dat 2 ((x7.Stairs : List GStair).map Qbk))]))], [(0, Qjs)], B x12, [(0, Qjs)], false⟩)] ⟨aid rfl Try.underlying45 ti62 rfl rfl hi9 (mgt Qbr hj10) rfl, Qaz (first := []) (cap := [.ref 0 1 0 0]) (vs := [(.agg [I x7.Use, (.dat 2 ((x7.Stairs : List GStair).map Qbk))])]) (σr := [Qjs]) (σr' := [Qjs]) (res' := (B x12)) [0] rfl Qyt (Qho N x7 _ hf11) rfl (Qc5 (rnc (.plain _ (NLt.agg _ (nlc nll (nlc (nld Qb6 _) nl0)))) (rnc (Qby rfl) rn0))) (slc (Qal (rnc (.plain _ (NLt.fn _ _ _ nl0 nl0)) rn0)) Qau) (slc (Qal (rnc (.plain _ (NLt.fn _ _ _ nl0 nl0)) rn0)) Qau) (.plain _ nll) rfl rfl rfl, trivial⟩ ?_
    rcases bft (x12) with hc13 | hc13
    ·replace h := Qar hc13 h
     refine wft hc13 (by kernel_rfl) ?_
     refine wx tbk [] trivial ?_
     refine wmr (mto (n := 19) (l' := [(4, I y3)]) (own' := [Qjs]) [(4, I y3)] [0] [Qjs] hφ0 (pc rwl pn) (qc (spb (lc (.rn (Qaw rn0 rn0)) ln)) qn)) ?_
     refine Qai ?_
     refine Qaq ?_
     refine Qag ?_
     refine Qag ?_
     refine Qaq ?_
     refine Qag ?_
     obtain rfl := osi h
     exact ⟨_, Mor.rfl, Qc2 (vs := [I y3]) ⟨rot (by kernel_rfl), trivial⟩ rfl (NLt.of0 nll) (by kernel_rfl) (Qat (Qb1 (nlc (NLt.of0 (NLt.fn _ _ _ nl0 nl0)) nl0)) Qbu)⟩
    ·replace h := Qas hc13 h
     refine wfn hc13 (by kernel_rfl) ?_
     refine Qaf ?_
     refine bln ?_
     refine thn ?_
     refine wx1 tbk [] trivial ?_
     refine thn ?_
     exact arm (mto (n := 19) [(0, (Qrj p0)), (1, Qt8), (7, (I ((p0.length : Int)))), (8, (I (w64 (y3 + 1))))] [0] [Qjs] hφ0 (pc (.rn (.plain _ (nld Qak _))) (pc (.rn (Qaw rn0 (rnc (rqr rfl) rn0))) (pc rwl (pc rwl pn)))) (qc (spb (lc (.rn (Qaw rn0 rn0)) ln)) qn)) (ih (w64 (y3 + 1)) h)
   ·replace h := Qas hc6 h
    refine wfn hc6 (by kernel_rfl) ?_
    refine Qbc ?_
    refine Qao ?_
    refine Qao ?_
    refine Qbb rfl ?_
    refine thn ?_
    exact ⟨(), h, (mto (n := 19) [] [0] [Qjs] hφ0 pn (qc (spb (lc (.rn (Qaw rn0 rn0)) ln)) qn))⟩
def Qco (N : Nat) (p0 : (List GHour)) : Option Bool :=
  (Qcz N p0).bind fun x3 =>
  some (decide (x3 ≥ 0))
def z34_0 (p0 : (List GHour)) : AV := .dat 2 ((p0 : List GHour).map Qbr)
def z34_1 : AV := .fn (.func 112) [] [(.ref 0 1 (0) 0)]
def Qpz : Slot := .own 1 [[(.fn (.func 100) [] [])]]
set_option maxRecDepth 100000 in
set_option maxHeartbeats 4000000 in
theorem Qew (N : Nat) (p0 : (List GHour)) (r : Bool) (h : Qco N p0 = some r) : Spec Try.prog 111 [(z34_0 p0), z34_1] [Qpz] (B (r)) [Qpz] := by
  refine Qaj Try.func111 rfl 1 (nle rfl) (fun X φ0 w0 hφ0 => ?_)
  unfold Qco at h
  refine Qc3 ?_
  refine wx tbk [] trivial ?_
  obtain ⟨x3, hf2, h⟩ := bno h
  refine wx tbk [(2, ⟨[fu 116, (.tmp 5, (z34_0 p0)), (.tmp 6, z34_1)], [(0, Qpz)], I x3, [(0, Qpz)], false⟩)] ⟨Qaz (first := []) (cap := []) (vs := [(z34_0 p0), z34_1]) (σr := [Qpz]) (σr' := [Qpz]) (res' := (I x3)) [0] rfl Qyr (Qfa N p0 _ hf2) rfl (Qc5 (rnc (.plain _ (nld Qak _)) (rnc (Qaw rn0 (rnc (Qby rfl) rn0)) rn0))) (slc (Qal (rnc (.plain _ (NLt.fn _ _ _ nl0 nl0)) rn0)) Qau) (slc (Qal (rnc (.plain _ (NLt.fn _ _ _ nl0 nl0)) rn0)) Qau) (.plain _ nll) rfl rfl rfl, trivial⟩ ?_
  refine wmr (mto (n := 9) (l' := [(4, (B ((decide (x3 ≥ 0)))))]) (own' := [Qpz]) [(4, (B ((decide (x3 ≥ 0)))))] [0] [Qpz] hφ0 (pc rwl pn) (qc (spb (lc (.rn (Qaw rn0 rn0)) ln)) qn)) ?_
  refine Qai ?_
  obtain rfl := osi h
  exact ⟨_, Mor.rfl, Qc2 (vs := [(B ((decide (x3 ≥ 0))))]) ⟨rot (by kernel_rfl), trivial⟩ rfl (NLt.of0 nll) (by kernel_rfl) (Qat (Qb1 (nlc (NLt.of0 (NLt.fn _ _ _ nl0 nl0)) nl0)) Qbu)⟩
def Qfm (N : Nat) (p0 : (List GHour)) : Option Bool :=
  (Qco N p0).bind fun x2 =>
  some (!x2)
def z33_1 (p0 : (List GHour)) : AV := .dat 2 ((p0 : List GHour).map Qbr)
def z33_2 : AV := .fn (.func 112) [] [(.ref 0 1 (0) 0)]
def Qxx : Slot := .own 1 [[(.fn (.func 100) [] [])]]
set_option maxRecDepth 100000 in
set_option maxHeartbeats 4000000 in
theorem Qh7 (N : Nat) (p0 : (List GHour)) (r : Bool) (h : Qfm N p0 = some r) : Spec Try.prog 99 [(z33_1 p0), (.fn (.func 100) [] [])] [] (B (r)) [] := by
  refine Qaj Try.func99 rfl 0 (nle rfl) (fun X φ0 w0 hφ0 => ?_)
  unfold Qfm at h
  refine wx tbk [] trivial ?_
  obtain ⟨x2, hf1, h⟩ := bno h
  refine wx tbk [(1, rp [(.tmp 3, .ref 0 1 0 0)] z33_2), (2, ⟨[fu 111, (.tmp 5, (z33_1 p0)), (.tmp 6, z33_2)], [(0, Qxx)], B x2, [(0, Qxx)], false⟩)] ⟨Qf3 (fs := []) (cs := [.ref 0 1 0 0]) rfl rfl rfl rfl, Qaz (first := []) (cap := []) (vs := [(z33_1 p0), z33_2]) (σr := [Qxx]) (σr' := [Qxx]) (res' := (B x2)) [0] rfl Qyu (Qew N p0 _ hf1) rfl (Qc5 (rnc (.plain _ (nld Qak _)) (rnc (Qaw rn0 (rnc (Qby rfl) rn0)) rn0))) (slc (Qal (rnc (.plain _ (NLt.fn _ _ _ nl0 nl0)) rn0)) Qau) (slc (Qal (rnc (.plain _ (NLt.fn _ _ _ nl0 nl0)) rn0)) Qau) (.plain _ nll) rfl rfl rfl, trivial⟩ ?_
  refine Qai ?_
  obtain rfl := osi h
  exact fend ⟨[(B ((!x2)))], ⟨rot (by kernel_rfl), trivial⟩, rfl⟩ nll
def Qhg (N : Nat) (p0 : GDay) : Option Bool :=
  (Qe9 N p0.Tank).bind fun x2 =>
  bif x2 then
   (Qcw N p0.Start 0 p0.Tank).bind fun x5 =>
   bif x5 then
    (Qcw N (p0.Hours.length : Int) 1 24).bind fun x8 =>
    bif x8 then
     (Qfm N p0.Hours).bind fun x11 =>
     some x11
    else
     some false
   else
    some false
  else
   some false
def Qxy (p0 : GDay) : AV := .dat 2 ((p0.Hours : List GHour).map Qbr)
set_option maxRecDepth 100000 in
set_option maxHeartbeats 4000000 in
theorem Qkw (N : Nat) (p0 : GDay) (r : Bool) (h : Qhg N p0 = some r) : Spec Try.prog 74 [(.agg (Qts p0))] [] (B r) [] := by
  refine Qaj Try.func74 rfl 0 (nle rfl) (fun X φ0 w0 hφ0 => ?_)
  unfold Qhg at h
  refine wx tbk [] trivial ?_
  obtain ⟨x2, hf1, h⟩ := bno h
  rcases bft (x2) with hb3 | hb3
  ·replace h := Qar hb3 h
   obtain ⟨x5, hf4, h⟩ := bno h
   rcases bft (x5) with hb6 | hb6
   ·replace h := Qar hb6 h
    obtain ⟨x8, hf7, h⟩ := bno h
    rcases bft (x8) with hb9 | hb9
    ·replace h := Qar hb9 h
     obtain ⟨x11, hf10, h⟩ := bno h
     refine wx tbk [(2, rp [fu 94, (.tmp 4, I p0.Tank)] (B x2)), (3, rp [(.tmp 5, B x2)] (B true)), (8, rp [(.tmp 6, B true), fu 68, (.tmp 8, I p0.Start), ci 0, (.tmp 10, I p0.Tank)] (B x5)), (10, rp [(.tmp 12, B x5)] (B true)), (13, rp [(.tmp 13, B true), (.tmp 15, (Qxy p0))] (I ((p0.Hours.length : Int)))), (14, rp [(.tmp 13, B true), fu 68, (.tmp 16, (I ((p0.Hours.length : Int)))), ci 1, ci 24] (B x8)), (16, rp [(.tmp 18, B x8)] (B true)), (19, rp [(.tmp 19, B true), fu 99, (.tmp 21, (Qxy p0)), fu 100] (B x11))] ⟨apc (first := []) (cap := []) (vs := [I p0.Tank]) rfl Qe7 (Qb0 N p0.Tank _ hf1) rfl rfl (nlc nll nl0) nll rfl, asb hb3 (amv rfl), ag_ (apc (first := []) (cap := []) (vs := [I p0.Start, I 0, I p0.Tank]) rfl Qd7 (Qa0 N p0.Start 0 p0.Tank _ hf4) rfl rfl (nlc nll (nlc nll (nlc nll nl0))) nll rfl), asb hb6 (amv rfl), ag_ (alm (c := Qbr) (l := p0.Hours) (aln rfl Try.underlying45 rfl)), ag_ (apc (first := []) (cap := []) (vs := [(I ((p0.Hours.length : Int))), I 1, I 24]) rfl Qd7 (Qa0 N (p0.Hours.length : Int) 1 24 _ hf7) rfl rfl (nlc nll (nlc nll (nlc nll nl0))) nll rfl), asb hb9 (amv rfl), ag_ (Qaz (first := []) (cap := []) (vs := [(Qxy p0), (.fn (.func 100) [] [])]) (σr := []) (σr' := []) (res' := (B x11)) [] rfl enter99 (Qh7 N p0.Hours _ hf10) rfl (Qc5 (rnc (.plain _ (nld Qak _)) (rnc (.plain _ (NLt.fn _ _ _ nl0 nl0)) rn0))) Qau Qau (.plain _ nll) rfl rfl rfl), trivial⟩ ?_
     refine Qai ?_
     obtain rfl := osi h
     exact fend ⟨[B x11], ⟨rot (by kernel_rfl), trivial⟩, rfl⟩ nll
    ·replace h := Qas hb9 h
     refine wx tbk [(2, rp [fu 94, (.tmp 4, I p0.Tank)] (B x2)), (3, rp [(.tmp 5, B x2)] (B true)), (8, rp [(.tmp 6, B true), fu 68, (.tmp 8, I p0.Start), ci 0, (.tmp 10, I p0.Tank)] (B x5)), (10, rp [(.tmp 12, B x5)] (B true)), (13, rp [(.tmp 13, B true), (.tmp 15, (Qxy p0))] (I ((p0.Hours.length : Int)))), (14, rp [(.tmp 13, B true), fu 68, (.tmp 16, (I ((p0.Hours.length : Int)))), ci 1, ci 24] (B x8)), (16, rp [(.tmp 18, B x8)] (B false))] ⟨apc (first := []) (cap := []) (vs := [I p0.Tank]) rfl Qe7 (Qb0 N p0.Tank _ hf1) rfl rfl (nlc nll nl0) nll rfl, asb hb3 (amv rfl), ag_ (apc (first := []) (cap := []) (vs := [I p0.Start, I 0, I p0.Tank]) rfl Qd7 (Qa0 N p0.Start 0 p0.Tank _ hf4) rfl rfl (nlc nll (nlc nll (nlc nll nl0))) nll rfl), asb hb6 (amv rfl), ag_ (alm (c := Qbr) (l := p0.Hours) (aln rfl Try.underlying45 rfl)), ag_ (apc (first := []) (cap := []) (vs := [(I ((p0.Hours.length : Int))), I 1, I 24]) rfl Qd7 (Qa0 N (p0.Hours.length : Int) 1 24 _ hf7) rfl rfl (nlc nll (nlc nll (nlc nll nl0))) nll rfl), asb hb9 (amv rfl), trivial⟩ ?_
     refine Qai ?_
     obtain rfl := osi h
     exact fend ⟨[B false], ⟨rot (by kernel_rfl), trivial⟩, rfl⟩ nll
   ·replace h := Qas hb6 h
    refine wx tbk [(2, rp [fu 94, (.tmp 4, I p0.Tank)] (B x2)), (3, rp [(.tmp 5, B x2)] (B true)), (8, rp [(.tmp 6, B true), fu 68, (.tmp 8, I p0.Start), ci 0, (.tmp 10, I p0.Tank)] (B x5)), (10, rp [(.tmp 12, B x5)] (B false))] ⟨apc (first := []) (cap := []) (vs := [I p0.Tank]) rfl Qe7 (Qb0 N p0.Tank _ hf1) rfl rfl (nlc nll nl0) nll rfl, asb hb3 (amv rfl), ag_ (apc (first := []) (cap := []) (vs := [I p0.Start, I 0, I p0.Tank]) rfl Qd7 (Qa0 N p0.Start 0 p0.Tank _ hf4) rfl rfl (nlc nll (nlc nll (nlc nll nl0))) nll rfl), asb hb6 (amv rfl), trivial⟩ ?_
    refine Qai ?_
    obtain rfl := osi h
    exact fend ⟨[B false], ⟨rot (by kernel_rfl), trivial⟩, rfl⟩ nll
  ·replace h := Qas hb3 h
   refine wx tbk [(2, rp [fu 94, (.tmp 4, I p0.Tank)] (B x2)), (3, rp [(.tmp 5, B x2)] (B false))] ⟨apc (first := []) (cap := []) (vs := [I p0.Tank]) rfl Qe7 (Qb0 N p0.Tank _ hf1) rfl rfl (nlc nll nl0) nll rfl, asb hb3 (amv rfl), trivial⟩ ?_
   refine Qai ?_
   obtain rfl := osi h
   exact fend ⟨[B false], ⟨rot (by kernel_rfl), trivial⟩, rfl⟩ nll
def Qdv (N : Nat) (p0 : GHour) (k2 : Int → Option Int) : Nat → Int → Int → Option Int
  | 0, _, _ => none
  | n7 + 1, y3, y4 =>
    bif (decide (y4 < (p0.Stairs.length : Int))) then
     (getI p0.Stairs y4).bind fun x9 =>
     Qdv N p0 k2 n7 (w64 (y3 + x9.Amount)) (w64 (y4 + 1))
    else
     k2 (y3)
def Qg1 (N : Nat) (p0 : GHour) : Option Int :=
  Qcv (fun y1 =>
    some y1) fun k2 : Int → Option Int =>
  Qdv N p0 k2 N 0 0
def Qt7 (p0 : GHour) : AV := .dat 2 ((p0.Stairs : List GStair).map Qbk)
set_option maxRecDepth 100000 in
set_option maxHeartbeats 4000000 in
theorem Qj9 (N : Nat) (p0 : GHour) (r : Int) (h : Qg1 N p0 = some r) : Spec Try.prog 101 [(.agg (Qbr p0))] [] (I r) [] := by
  refine Qaj Try.func101 rfl 0 (nle rfl) (fun X φ0 w0 hφ0 => ?_)
  unfold Qg1 at h
  refine wx tbk [] trivial ?_
  obtain ⟨k2, hk_k2, h⟩ := jko h
  refine wjn (τ := Int) (fun t => k2 t = some r) (fun y1 => ⟨mk 18 [(2, I y1)], []⟩) (fun y1 h => ?_) ?_
  ·subst hk_k2
   refine wx tbk [] trivial ?_
   refine Qai ?_
   obtain rfl := osi h
   exact fend ⟨[I y1], ⟨rot (by kernel_rfl), trivial⟩, rfl⟩ nll
  ·skip
   refine wx tbk [(2, rp [(.tmp 6, (Qt7 p0))] (I ((p0.Stairs.length : Int))))] ⟨alm (c := Qbk) (l := p0.Stairs) (aln rfl Try.underlying60 rfl), trivial⟩ ?_
   refine Qah ?_
   refine wmr (mto (n := 18) (l' := [(2, I 0), (6, (Qt7 p0)), (7, (I ((p0.Stairs.length : Int)))), (8, I 0)]) (own' := []) [(2, I 0), (6, (Qt7 p0)), (7, (I ((p0.Stairs.length : Int)))), (8, I 0)] [] [] hφ0 (pc rwl (pc (.rn (.plain _ (nld Qb6 _))) (pc rwl (pc rwl pn)))) qn) ?_
   refine Qb7 (τ := Int × Int) (fun n t => Qdv N p0 k2 n t.1 t.2 = some r) (fun ⟨y3, y4⟩ => ⟨mk 18 [(2, I y3), (6, (Qt7 p0)), (7, (I ((p0.Stairs.length : Int)))), (8, I y4)], []⟩) (fun t h => by rw [Qdv] at h; cases h) (fun n7 ih t h => ?_) N (0, 0) h
   obtain ⟨y3, y4⟩ := t
   rw [Qdv] at h
   skip
   refine wx tbk [] trivial ?_
   refine wsq ?_
   rcases bft ((decide (y4 < (p0.Stairs.length : Int)))) with hc8 | hc8
   ·replace h := Qar hc8 h
    refine wft hc8 (by kernel_rfl) ?_
    refine Qaf ?_
    refine thn ?_
    refine wsq ?_
    refine Qah ?_
    obtain ⟨x9, hg10, h⟩ := bno h
    obtain ⟨hi11, hj12⟩ := gsm hg10
    refine wx tbk [(0, rp [(.tmp 6, (Qt7 p0)), (.tmp 8, I y4)] (.dptr (Qbk (x9)) 0))] ⟨aid rfl Try.underlying60 ti64 rfl rfl hi11 (mgt Qbk hj12) rfl, trivial⟩ ?_
    refine wx1 tbk [] trivial ?_
    refine bln ?_
    refine thn ?_
    refine wx1 tbk [] trivial ?_
    refine thn ?_
    exact arm (mto (n := 18) [(2, (I (w64 (y3 + x9.Amount)))), (6, (Qt7 p0)), (7, (I ((p0.Stairs.length : Int)))), (8, (I (w64 (y4 + 1))))] [] [] hφ0 (pc rwl (pc (.rn (.plain _ (nld Qb6 _))) (pc rwl (pc rwl pn)))) qn) (ih (w64 (y3 + x9.Amount), w64 (y4 + 1)) h)
   ·replace h := Qas hc8 h
    refine wfn hc8 (by kernel_rfl) ?_
    refine Qbc ?_
    refine Qao ?_
    refine Qao ?_
    refine Qbb rfl ?_
    refine thn ?_
    exact ⟨(y3), h, (mto (n := 18) [(2, I y3)] [] [] hφ0 (pc rwl pn) qn)⟩
def Qd1 (N : Nat) (p0 : GDay) (k1 : Unit → Option (Int × Int)) : Nat → Int → Int → Option (Int × Int)
  | 0, _, _ => none
  | n6 + 1, y2, y3 =>
    bif (decide (y3 < (p0.Hours.length : Int))) then
     (getI p0.Hours y3).bind fun x8 =>
     (Qg1 N x8).bind fun x13 =>
     (some (w64 (y2 + (w64 (x13 - x8.Use))))).bind fun x14 =>
     bif (decide (x14 < 0)) then
      some (y3, w64 (0 - x14))
     else
      (some (if p0.Tank < x14 then p0.Tank else x14)).bind fun x17 =>
      Qd1 N p0 k1 n6 x17 (w64 (y3 + 1))
    else
     k1 ()
def Qhh (N : Nat) (p0 : GDay) : Option (Int × Int) :=
  Qcv (fun _ =>
    some ((-1), 0)) fun k1 : Unit → Option (Int × Int) =>
  Qd1 N p0 k1 N p0.Start 0
def Qrh (p0 : GDay) : AV := .dat 2 ((p0.Hours : List GHour).map Qbr)
def Qxv (p0 : GDay) : Slot := .own 3 [[(I (p0.Tank)), (I (p0.Start)), (Qrh p0)]]
def z38_19 (x8 : GHour) : AV := .dat 2 ((x8.Stairs : List GStair).map Qbk)
set_option maxRecDepth 100000 in
set_option maxHeartbeats 4000000 in
theorem Qkx (N : Nat) (p0 : GDay) (r : (Int × Int)) (h : Qhh N p0 = some r) : Spec Try.prog 75 [(.agg (Qts p0))] [] (.tup [(I r.1), (I r.2)]) [] := by
  refine Qaj Try.func75 rfl 0 (nle rfl) (fun X φ0 w0 hφ0 => ?_)
  unfold Qhh at h
  refine wx tbk [] trivial ?_
  refine wx tbk [] trivial ?_
  obtain ⟨k1, hk_k1, h⟩ := jko h
  refine wjn (τ := Unit) (fun t => k1 t = some r) (fun _ => ⟨mk 34 [], []⟩) (fun t h => ?_) ?_
  ·subst hk_k1
   refine wx tbk [] trivial ?_
   refine Qai ?_
   obtain rfl := osi h
   exact fend ⟨[(I ((-1))), I 0], ⟨rot (by kernel_rfl), rot (by kernel_rfl), trivial⟩, rfl⟩ (NLt.tup _ (nlc nll (nlc nll nl0)))
  ·skip
   refine wx tbk [(2, rp [(.tmp 10, (Qrh p0))] (I ((p0.Hours.length : Int))))] ⟨alm (c := Qbr) (l := p0.Hours) (aln rfl Try.underlying45 rfl), trivial⟩ ?_
   refine Qah ?_
   refine wmr (mto (n := 34) (l' := [(1, .ref 0 3 0 0), (4, I p0.Start), (10, (Qrh p0)), (11, (I ((p0.Hours.length : Int)))), (12, I 0)]) (own' := [(Qxv p0)]) [(1, .ref 0 3 0 0), (4, I p0.Start), (10, (Qrh p0)), (11, (I ((p0.Hours.length : Int)))), (12, I 0)] [0] [(Qxv p0)] hφ0 (pc (.rn (rqr rfl)) (pc rwl (pc (.rn (.plain _ (nld Qak _))) (pc rwl (pc rwl pn))))) (qc (spb (lc rwl (lc rwl (lc (.rn (.plain _ (nld Qak _))) ln)))) qn)) ?_
   refine Qb7 (τ := Int × Int) (fun n t => Qd1 N p0 k1 n t.1 t.2 = some r) (fun ⟨y2, y3⟩ => ⟨mk 34 [(1, .ref 0 3 0 0), (4, I y2), (10, (Qrh p0)), (11, (I ((p0.Hours.length : Int)))), (12, I y3)], [(Qxv p0)]⟩) (fun t h => by rw [Qd1] at h; cases h) (fun n6 ih t h => ?_) N (p0.Start, 0) h
   obtain ⟨y2, y3⟩ := t
   rw [Qd1] at h
   skip
   refine wx tbk [] trivial ?_
   refine wsq ?_
   rcases bft ((decide (y3 < (p0.Hours.length : Int)))) with hc7 | hc7
   ·replace h := Qar hc7 h
    refine wft hc7 (by kernel_rfl) ?_
    refine Qaf ?_
    refine thn ?_
    refine wsq ?_
    refine Qah ?_
    obtain ⟨x8, hg9, h⟩ := bno h
    obtain ⟨hi10, hj11⟩ := gsm hg9
    refine wx tbk [(1, rp [(.tmp 10, (Qrh p0)), (.tmp 12, I y3)] (.dptr (Qbr (x8)) 0))] ⟨aid rfl Try.underlying45 ti62 rfl rfl hi10 (mgt Qbr hj11) rfl, trivial⟩ ?_
    obtain ⟨x13, hf12, h⟩ := bno h
    obtain ⟨x14, hl15, h⟩ := bno h
    refine wxd tbk [(2, rp [fu 101, (.tmp 18, (.agg [I x8.Use, (z38_19 x8)]))] (I x13)), (7, rp [(.tmp 23, (I (w64 (y2 + (w64 (x13 - x8.Use))))))] (I x14))] ⟨apc (first := []) (cap := []) (vs := [(.agg [I x8.Use, (z38_19 x8)])]) rfl Qy0 (Qj9 N x8 _ hf12) rfl rfl (nlc (NLt.agg _ (nlc nll (nlc (nld Qb6 _) nl0))) nl0) nll rfl, Qe0 hl15 (aas rfl), trivial⟩ ?_
    refine wsq ?_
    refine wx tbk [] trivial ?_
    rcases bft ((decide (x14 < 0))) with hc16 | hc16
    ·replace h := Qar hc16 h
     refine wft hc16 (by kernel_rfl) ?_
     refine wx tbk [] trivial ?_
     refine Qai ?_
     refine Qag ?_
     refine Qaq ?_
     refine Qag ?_
     refine Qag ?_
     refine Qaq ?_
     refine Qag ?_
     obtain rfl := osi h
     exact fend ⟨[I y3, (I (w64 (0 - x14)))], ⟨rot (by kernel_rfl), rot (by kernel_rfl), trivial⟩, rfl⟩ (NLt.tup _ (nlc nll (nlc nll nl0)))
    ·replace h := Qas hc16 h
     refine wfn hc16 (by kernel_rfl) ?_
     refine Qaf ?_
     refine thn ?_
     obtain ⟨x17, hl18, h⟩ := bno h
     refine wx1 tbk [(3, rp [(.tmp 29, I x14), (.tmp 31, I p0.Tank)] (I ((if p0.Tank < x14 then p0.Tank else x14)))), (4, rp [(.tmp 32, (I ((if p0.Tank < x14 then p0.Tank else x14))))] (I x17))] ⟨Qjj rfl, Qe0 hl18 (aas rfl), trivial⟩ ?_
     refine bln ?_
     refine thn ?_
     refine wx1 tbk [] trivial ?_
     refine thn ?_
     exact arm (mto (n := 34) [(1, .ref 0 3 0 0), (4, I x17), (10, (Qrh p0)), (11, (I ((p0.Hours.length : Int)))), (12, (I (w64 (y3 + 1))))] [0] [(Qxv p0)] hφ0 (pc (.rn (rqr rfl)) (pc rwl (pc (.rn (.plain _ (nld Qak _))) (pc rwl (pc rwl pn))))) (qc (spb (lc rwl (lc rwl (lc (.rn (.plain _ (nld Qak _))) ln)))) qn)) (ih (x17, w64 (y3 + 1)) h)
   ·replace h := Qas hc7 h
    refine wfn hc7 (by kernel_rfl) ?_
    refine Qbc ?_
    refine Qao ?_
    refine Qao ?_
    refine Qbb rfl ?_
    refine thn ?_
    exact ⟨(), h, (mto (n := 34) [] [] [] hφ0 pn qn)⟩
def Qfj (_N : Nat) (_p0 : GHour) (_p1 : Int) : Option Unit :=
  some ()
def Qvh : AV := .fn (.func 109) [] [(.ref 0 2 (0) 0), (.ref 1 1 (0) 0)]
def z41_1 (p0 : GHour) : Slot := .own 2 [[(I (p0.Use)), (.dat 2 ((p0.Stairs : List GStair).map Qbk))]]
set_option maxRecDepth 100000 in
set_option maxHeartbeats 4000000 in
theorem Qgt (N : Nat) (p0 : GHour) (p1 : Int) (r : Unit) (h : Qfj N p0 p1 = some r) : Spec Try.prog 93 [(.agg [(I (p0.Use)), (.dat 2 ((p0.Stairs : List GStair).map Qbk))]), (I (p1))] [] Qvh [(z41_1 p0), (.own 1 [[(I (p1))]])] := by
  refine Qaj Try.func93 rfl 2 (nle rfl) (fun X φ0 w0 hφ0 => ?_)
  unfold Qfj at h
  refine Qc3 ?_
  refine wx tbk [] trivial ?_
  refine wx tbk [(0, rp [(.tmp 2, .ref 0 2 0 0), (.tmp 3, .ref 1 1 0 0)] Qvh)] ⟨Qf3 (fs := []) (cs := [.ref 0 2 0 0, .ref 1 1 0 0]) rfl rfl rfl rfl, trivial⟩ ?_
  refine wmr (mto (n := 6) (l' := [(4, Qvh)]) (own' := [(z41_1 p0), (.own 1 [[I p1]])]) [(4, Qvh)] [0, 1] [(z41_1 p0), (.own 1 [[I p1]])] hφ0 (pc (.rn (Qaw rn0 (rnc (rqr rfl) (rnc (rqr rfl) rn0)))) pn) (qc (spb (lc rwl (lc (.rn (.plain _ (nld Qb6 _))) ln))) (qc (spb (lc rwl ln)) qn))) ?_
  refine Qai ?_
  obtain rfl := osi h
  exact ⟨_, Mor.rfl, Qc2 (vs := [Qvh]) ⟨rot (by kernel_rfl), trivial⟩ rfl (NLt.fn _ _ _ nl0 (nlc (NLt.ref _ _ _ _ (by decide)) (nlc (NLt.ref _ _ _ _ (by decide)) nl0))) (by kernel_rfl) (Qat (Qb1 (nlc (NLt.of0 nll) (nlc (NLt.of0 (nld Qb6 _)) nl0))) (Qat (Qb1 (nlc (NLt.of0 nll) nl0)) Qbu))⟩
def Qdg (N : Nat) (p1 : (List GStair)) : Nat → Int → Int → Option (List (GStair × Int))
  | 0, _, _ => none
  | n7 + 1, y1, y2 =>
    bif (decide (y1 < (p1.length : Int))) then
     (getI p1 y1).bind fun x9 =>
     (some (if x9.Amount < y2 then x9.Amount else y2)).bind fun x13 =>
     yld (x9, x13) <|
     Qdg N p1 n7 (w64 (y1 + 1)) (w64 (y2 - x13))
    else
     some ([])
def Qfi (N : Nat) (_p0 : Int) (p1 : (List GStair)) (p2 : Int) : Option (List (GStair × Int)) :=
  Qdg N p1 N 0 p2
def Qrg (p1 : (List GStair)) : AV := .dat 2 ((p1 : List GStair).map Qbk)
def Qvg (p0 : Int) (p1 : (List GStair)) : Slot := .own 2 [[(I (p0)), (Qrg p1)]]
def Qxu (x9 : GStair) : AV := .agg [(I (x9.Amount)), (I (x9.Price))]
set_option maxRecDepth 100000 in
set_option maxHeartbeats 4000000 in
theorem Qgs (N : Nat) (p0 : Int) (p1 : (List GStair)) (p2 : Int) (r : (List (GStair × Int))) (h : Qfi N p0 p1 p2 = some r) : Qnr Try.prog 109 [(.ref 0 2 (0) 0), (.ref 1 1 (0) 0)] [(Qvg p0 p1), (.own 1 [[(I (p2))]])] (fun x => [(.agg #[(.int .i64 (x.1.Amount)), (.int .i64 (x.1.Price))]), (.int .i64 (x.2))]) r := by
  refine Qn1 Try.func109 rfl rfl (fun X φ0 w0 l J hφ0 hy => ?_)
  unfold Qfi at h
  refine wx tbk [(2, rp [(.tmp 8, (Qrg p1))] (I ((p1.length : Int))))] ⟨alm (c := Qbk) (l := p1) (aln rfl Try.underlying60 rfl), trivial⟩ ?_
  refine Qah ?_
  refine wmr (mto (n := 27) (l' := [(0, (.lit (.func (.yield l) #[] #[]))), (2, .ref 1 1 0 0), (8, (Qrg p1)), (9, (I ((p1.length : Int)))), (10, I 0)]) (own' := [(Qvg p0 p1), (.own 1 [[I p2]]), (.far (J (some (r))))]) [(0, (.lit (.func (.yield l) #[] #[]))), (2, .ref 1 1 0 0), (8, (Qrg p1)), (9, (I ((p1.length : Int)))), (10, I 0)] [0, 1, 2] [(Qvg p0 p1), (.own 1 [[I p2]]), (.far (J (some (r))))] hφ0 (pc rwl (pc (.rn (rqr rfl)) (pc (.rn (.plain _ (nld Qb6 _))) (pc rwl (pc rwl pn))))) (qc (spb (lc rwl (lc (.rn (.plain _ (nld Qb6 _))) ln))) (qc (spb (lc rwl ln)) (qc (.far _) qn)))) ?_
  refine Qb7 (τ := (Int × Int) × List (GStair × Int)) (fun n t => Qdg N p1 n t.1.1 t.1.2 = some t.2) (fun ⟨⟨y1, y2⟩, q3⟩ => ⟨mk 27 [(0, (.lit (.func (.yield l) #[] #[]))), (2, .ref 1 1 0 0), (8, (Qrg p1)), (9, (I ((p1.length : Int)))), (10, I y1)], [(Qvg p0 p1), (.own 1 [[I y2]]), (.far (J (some (q3))))]⟩) (fun t h => by rw [Qdg] at h; cases h) (fun n7 ih t h => ?_) N ((0, p2), r) h
  obtain ⟨⟨y1, y2⟩, q3⟩ := t
  rw [Qdg] at h
  try dsimp only at h
  refine wx tbk [] trivial ?_
  refine wsq ?_
  rcases bft ((decide (y1 < (p1.length : Int)))) with hc8 | hc8
  ·replace h := Qar hc8 h
   refine wft hc8 (by kernel_rfl) ?_
   refine Qaf ?_
   refine thn ?_
   refine wsq ?_
   refine Qah ?_
   obtain ⟨x9, hg10, h⟩ := bno h
   obtain ⟨hi11, hj12⟩ := gsm hg10
   refine wx tbk [(0, rp [(.tmp 8, (Qrg p1)), (.tmp 10, I y1)] (.dptr (Qbk (x9)) 0))] ⟨aid rfl Try.underlying60 ti64 rfl rfl hi11 (mgt Qbk hj12) rfl, trivial⟩ ?_
   obtain ⟨x13, hl14, h⟩ := bno h
   refine wx tbk [(3, rp [(.tmp 14, I y2), (.tmp 16, I x9.Amount)] (I ((if x9.Amount < y2 then x9.Amount else y2)))), (4, rp [(.tmp 17, (I ((if x9.Amount < y2 then x9.Amount else y2))))] (I x13))] ⟨Qjj rfl, Qe0 hl14 (aas rfl), trivial⟩ ?_
   refine wsq ?_
   obtain ⟨q15, hy_, hq_⟩ := Qvq h
   clear h
   subst hq_
   have h := hy_
   clear hy_
   refine Qtu 3 [mv 0 (.lit (.func (.yield l) #[] #[])), rb [(.tmp 5, .ref 3 2 0 0)] [(3, .own 2 [[I x9.Amount, I x9.Price]])] (Qxu x9), mv 6 (I x13), ⟨[(.tmp 18, (.lit (.func (.yield l) #[] #[]))), (.tmp 19, (Qxu x9)), (.tmp 20, I x13)], [(2, (.far (J (some ((x9, x13) :: q15)))))], B true, [(2, (.far (J (some (q15)))))], false⟩, rp [(.tmp 21, B true)] (B false)] [mv 0 (.lit (.func (.yield l) #[] #[])), rb [(.tmp 5, .ref 3 2 0 0)] [(3, .own 2 [[I x9.Amount, I x9.Price]])] (Qxu x9), mv 6 (I x13), ⟨[(.tmp 18, (.lit (.func (.yield l) #[] #[]))), (.tmp 19, (Qxu x9)), (.tmp 20, I x13)], [(2, (.far (J (some ((x9, x13) :: q15)))))], B false, [(2, (.far (J none)))], false⟩, rp [(.tmp 21, B false)] (B true)] (by exact ⟨by kernel_rfl, by kernel_rfl⟩) (by exact ⟨by kernel_rfl, by kernel_rfl⟩) rfl rfl rfl rfl (Qnm (rd' := (.tmp 18, .lit (.func (.yield l) #[] #[])) :: [(.tmp 19, .lit (.agg #[(.int .i64 (x9.Amount)), (.int .i64 (x9.Price))])), (.tmp 20, .lit (.int .i64 (x13)))]) ⟨rfl, lrf, rfl, (Less.lits [(.int .i64 (x9.Amount)), (.int .i64 (x9.Price))]), rfl, lrf, trivial⟩ (Qlw (x := (x9, x13)) (rest := q15) rfl rfl hy rfl)) (⟨fun _ _ => amv rfl, fun _ _ => ald rfl ti64 (by decide) rfl (nle rfl) rfl, fun _ _ => amv rfl, fun _ h => absurd rfl h, fun _ _ => Qjh rfl, trivial⟩) (⟨fun _ _ => amv rfl, fun _ _ => ald rfl ti64 (by decide) rfl (nle rfl) rfl, fun _ _ => amv rfl, fun _ h => absurd rfl h, fun _ _ => Qjh rfl, trivial⟩) ?_ ?_
   ·skip
    refine Qd3 (by kernel_rfl) ?_
    refine Qaf ?_
    refine thn ?_
    refine wx1 tbk [] trivial ?_
    refine bln ?_
    refine thn ?_
    refine wx1 tbk [] trivial ?_
    refine thn ?_
    exact arm (mto (n := 27) [(0, (.lit (.func (.yield l) #[] #[]))), (2, .ref 1 1 0 0), (8, (Qrg p1)), (9, (I ((p1.length : Int)))), (10, (I (w64 (y1 + 1))))] [0, 1, 2] [(Qvg p0 p1), (.own 1 [[(I (w64 (y2 - x13)))]]), (.far (J (some (q15))))] hφ0 (pc rwl (pc (.rn (rqr rfl)) (pc (.rn (.plain _ (nld Qb6 _))) (pc rwl (pc rwl pn))))) (qc (spb (lc rwl (lc (.rn (.plain _ (nld Qb6 _))) ln))) (qc (spb (lc rwl ln)) (qc (.far _) qn)))) (ih ((w64 (y1 + 1), w64 (y2 - x13)), q15) h)
   ·clear h
    refine Qbs (by kernel_rfl) ?_
    refine Qai ?_
    refine Qag ?_
    refine Qaq ?_
    refine Qag ?_
    refine Qag ?_
    refine Qaq ?_
    exact Or.inr (by kernel_rfl)
  ·replace h := Qas hc8 h
   refine wfn hc8 (by kernel_rfl) ?_
   refine Qbc ?_
   refine Qao ?_
   refine Qao ?_
   refine Qbb rfl ?_
   obtain rfl := osi h
   exact Or.inl rfl
def Qdw (N : Nat) (k2 : Int → Option Int) : (List (GStair × Int)) → Int → Option Int
  | [], y7 =>
    k2 (y7)
  | x10 :: q11, y7 =>
    Qdw N k2 q11 (w64 (y7 + (w64 (x10.1.Price * x10.2))))
def Qhf (N : Nat) (p0 : GHour) (p1 : Int) : Option Int :=
  Qcv (fun y1 =>
    some y1) fun k2 : Int → Option Int =>
  (Qfj N p0 p1).bind fun _ =>
  (Qfi N p0.Use p0.Stairs p1).bind fun q5 =>
  Qdw N k2 q5 0
def z40_0 (p0 : GHour) : AV := .dat 2 ((p0.Stairs : List GStair).map Qbk)
def z40_3 : AV := .fn (.func 109) [] [(.ref 2 2 (0) 0), (.ref 3 1 (0) 0)]
def Qvi (p0 : GHour) : Slot := .own 2 [[(I (p0.Use)), (z40_0 p0)]]
set_option maxRecDepth 100000 in
set_option maxHeartbeats 4000000 in
theorem Qkv (N : Nat) (p0 : GHour) (p1 : Int) (r : Int) (h : Qhf N p0 p1 = some r) : Spec Try.prog 77 [(.agg (Qbr p0)), (I p1)] [] (I r) [] := by
  refine Qaj Try.func77 rfl 0 (nle rfl) (fun X φ0 w0 hφ0 => ?_)
  unfold Qhf at h
  refine wx tbk [] trivial ?_
  obtain ⟨k2, hk_k2, h⟩ := jko h
  refine wjn (τ := Int) (fun t => k2 t = some r) (fun y1 => ⟨mk 19 [(4, .ref 0 1 0 0)], [(.own 1 [[I y1]])]⟩) (fun y1 h => ?_) ?_
  ·subst hk_k2
   refine wx tbk [] trivial ?_
   refine Qai ?_
   obtain rfl := osi h
   exact fend ⟨[I y1], ⟨Qfq (n := 0) (m := 1) (j := 0) (i := 0) (xs := [[I y1]]) (by kernel_rfl) (by kernel_rfl) ti3 (by decide) rfl (nle rfl) rfl, trivial⟩, rfl⟩ nll
  ·skip
   obtain ⟨x4, hf3, h⟩ := bno h
   refine wx tbk [(2, ⟨[fu 93, (.tmp 7, (.agg [I p0.Use, (z40_0 p0)])), (.tmp 8, I p1)], [(2, .unused), (3, .unused)], z40_3, [(2, (Qvi p0)), (3, .own 1 [[I p1]])], false⟩)] ⟨Qaz (first := []) (cap := []) (vs := [(.agg [I p0.Use, (z40_0 p0)]), I p1]) (σr := []) (σr' := [(Qvi p0), (.own 1 [[I p1]])]) (res' := z40_3) [2, 3] rfl Qwz (Qgt N p0 p1 _ hf3) rfl (Qc5 (rnc (.plain _ (NLt.agg _ (nlc nll (nlc (nld Qb6 _) nl0)))) (rnc (.plain _ nll) rn0))) Qau (slc (Qal (rnc (.plain _ nll) (rnc (.plain _ (nld Qb6 _)) rn0))) (slc (Qal (rnc (.plain _ nll) rn0)) Qau)) (Qaw rn0 (rnc (Qga rfl) (rnc (Qga rfl) rn0))) rfl rfl rfl, trivial⟩ ?_
   refine Qah ?_
   obtain ⟨q5, hL6, h⟩ := bno h
   refine wmr (mto (n := 19) (l' := [(4, .ref 0 1 0 0), (9, (.fn (.func 109) [] [.ref 1 2 0 0, .ref 2 1 0 0]))]) (own' := [(.own 1 [[I 0]]), (Qvi p0), (.own 1 [[I p1]])]) [(4, .ref 1 1 0 0), (9, z40_3)] [1, 2, 3] [(.own 1 [[I 0]]), (Qvi p0), (.own 1 [[I p1]])] hφ0 (pc (.rn (rqr rfl)) (pc (.rn (Qaw rn0 (rnc (rqr rfl) (rnc (rqr rfl) rn0)))) pn)) (qc (spb (lc rwl ln)) (qc (spb (lc rwl (lc (.rn (.plain _ (nld Qb6 _))) ln))) (qc (spb (lc rwl ln)) qn)))) ?_
   refine Qid (τ := (Int)) (kb := 3) (caps := [.ref 1 2 0 0, .ref 2 1 0 0]) (σr := [(Qvi p0), (.own 1 [[I p1]])]) (encs := fun x => [(.agg #[(.int .i64 (x.1.Amount)), (.int .i64 (x.1.Price))]), (.int .i64 (x.2))]) (fun x => [(.agg [I x.1.Amount, I x.1.Price]), I x.2]) [1, 2] (fun n hn => hφ0 n (Nat.le_trans (nle rfl) hn)) (Qgs N p0.Use p0.Stairs p1 _ hL6) Qtq (by kernel_rfl) (by kernel_rfl) (Qc5 (rnc (Qga rfl) (rnc (Qga rfl) rn0))) (slc (Qal (rnc (.plain _ nll) (rnc (.plain _ (nld Qb6 _)) rn0))) (slc (Qal (rnc (.plain _ nll) rn0)) Qau)) (by kernel_rfl) (fun _ => rfl) (fun x => ⟨(Less.unlits [(.int .i64 (x.1.Amount)), (.int .i64 (x.1.Price))]), lrf, trivial⟩) (Qql (Qee (NLt.ref _ _ _ _ (by decide)) (Qee (NLt.fn _ _ _ nl0 (nlc (NLt.ref _ _ _ _ (by decide)) (nlc (NLt.ref _ _ _ _ (by decide)) nl0))) Qm3))) (fun y7 => [(.own 1 [[I y7]]), .dead, .dead]) (fun _ => rfl) (fun _ => rfl) (fun l t => Qdw N k2 l t = some r) (0) h (by kernel_rfl) ?_ ?_
   ·intro l12 o13 X16 φ17 w18 hφ15 x10 q11 y7 h
    rw [Qdw] at h
    refine wx tbk [] trivial ?_
    refine wx1 tbk [] trivial ?_
    refine ⟨by kernel_rfl, fun o14 => ?_⟩
    refine Qah ?_
    refine wx1 tbk [] trivial ?_
    refine bln ?_
    exact ⟨(w64 (y7 + (w64 (x10.1.Price * x10.2)))), h, Qmx (own' := [(.own 1 [[(I ((w64 (y7 + (w64 (x10.1.Price * x10.2))))))]]), .dead, .dead, (.far (farL l12 o14))]) [0, 1, 2, 3] [(.own 1 [[(I (w64 (y7 + (w64 (x10.1.Price * x10.2)))))]]), .dead, .dead, (.far (farL l12 o14))] (by kernel_rfl) (by kernel_rfl) ⟨(spb (lc rwl ln)), .dead, .dead, .far _, trivial⟩⟩
   ·intro y7 h
    rw [Qdw] at h
    refine bln ?_
    refine thn ?_
    exact ⟨(y7), h, (mto (n := 19) [(4, .ref 0 1 0 0)] [0] [(.own 1 [[I y7]])] hφ0 (pc (.rn (rqr rfl)) pn) (qc (spb (lc rwl ln)) qn))⟩
end Go.Proofs.Ytgdepcgbjjgnfaa
