/-
  Functions of the program: what they compute, as plain functions, and that they do. No conditions.
-/
import Derived.Test.YtgdepcgbjjgnfaaX5
namespace Go.Proofs.Ytgdepcgbjjgnfaa
open Go.RowKit
def Qc6 (N : Nat) (p0 : (List GNode)) (k2 : Unit → Option Bool) : Nat → Int → Option Bool
  | 0, _ => none
  | n5 + 1, y3 =>
    bif (decide (y3 < (p0.length : Int))) then
     bif (decide (y3 > 0)) then
      (getI p0 y3).bind fun x8 =>
      (Qfb N x8.Parent 0 (w64 (y3 - 1))).bind fun x13 =>
      bif (!x13) then
       some false
      else
       (Qfb N x8.Loss 0 1000000000).bind fun x16 =>
       bif (!x16) then
        some false
       else
        (Qfb N x8.Limit 0 1000000000).bind fun x19 =>
        bif (!x19) then
         some false
        else
         (Qfb N x8.Rank 0 100).bind fun x22 =>
         bif (!x22) then
          some false
         else
          Qc6 N p0 k2 n5 (w64 (y3 + 1))
     else
      (getI p0 y3).bind fun x24 =>
      (Qfb N x24.Loss 0 1000000000).bind fun x29 =>
      bif (!x29) then
       some false
      else
       (Qfb N x24.Limit 0 1000000000).bind fun x32 =>
       bif (!x32) then
        some false
       else
        (Qfb N x24.Rank 0 100).bind fun x35 =>
        bif (!x35) then
         some false
        else
         Qc6 N p0 k2 n5 (w64 (y3 + 1))
    else
     k2 ()
def Qgx (N : Nat) (p0 : (List GNode)) : Option Bool :=
  Qcv (fun _ =>
    Qcv (fun _ =>
      some true) fun k2 : Unit → Option Bool =>
    Qc6 N p0 k2 N 0) fun k1 : Unit → Option Bool =>
  bif (decide ((p0.length : Int) < 1)) then
   some false
  else
   bif (decide ((p0.length : Int) > 30)) then
    some false
   else
    (getI p0 0).bind fun x39 =>
    bif (x39.Parent != (-1)) then
     some false
    else
     bif (x39.Loss != 0) then
      some false
     else
      bif (x39.Limit != 0) then
       some false
      else
       k1 ()
def Qe3 (p0 : (List GNode)) : AV := .dat 4 ((p0 : List GNode).map Qac)
set_option maxRecDepth 100000 in
set_option maxHeartbeats 4000000 in
theorem Qhl (N : Nat) (p0 : (List GNode)) (r : Bool) (h : Qgx N p0 = some r) : Spec Try.prog 25 [(.dat 4 (p0.map Qac))] [] (B r) [] := by
  refine Qaj Try.func25 rfl 0 (nle rfl) (fun X φ0 w0 hφ0 => ?_)
  unfold Qgx at h
  refine wx tbk [] trivial ?_
  obtain ⟨k1, hk_k1, h⟩ := jko h
  refine wjn (τ := Unit) (fun t => k1 t = some r) (fun _ => ⟨mk 79 [(0, (Qe3 p0))], []⟩) (fun t h => ?_) ?_
  ·subst hk_k1
   obtain ⟨k2, hk_k2, h⟩ := jko h
   refine wjn (τ := Unit) (fun t => k2 t = some r) (fun _ => ⟨mk 79 [], []⟩) (fun t h => ?_) ?_
   ·subst hk_k2
    refine wx tbk [] trivial ?_
    refine Qai ?_
    obtain rfl := osi h
    exact fend ⟨[B true], ⟨rot (by kernel_rfl), trivial⟩, rfl⟩ nll
   ·skip
    refine wx tbk [] trivial ?_
    refine Qah ?_
    refine wmr (mto (n := 79) (l' := [(0, (Qe3 p0)), (3, I 0)]) (own' := []) [(0, (Qe3 p0)), (3, I 0)] [] [] hφ0 (pc (.rn (.plain _ (nld Qab _))) (pc rwl pn)) qn) ?_
    refine Qb7 (τ := Int) (fun n t => Qc6 N p0 k2 n t = some r) (fun y3 => ⟨mk 79 [(0, (Qe3 p0)), (3, I y3)], []⟩) (fun t h => by rw [Qc6] at h; cases h) (fun n5 ih y3 h => ?_) N (0) h
    rw [Qc6] at h
    skip
    refine wsq ?_
    refine wx tbk [(2, rp [(.tmp 34, (Qe3 p0))] (I ((p0.length : Int))))] ⟨alm (c := Qac) (l := p0) (aln rfl Try.underlying22 rfl), trivial⟩ ?_
    rcases bft ((decide (y3 < (p0.length : Int)))) with hc6 | hc6
    ·replace h := Qar hc6 h
     refine wft hc6 (by kernel_rfl) ?_
     refine Qaf ?_
     refine thn ?_
     refine wsq ?_
     refine Qah ?_
     rcases bft ((decide (y3 > 0))) with hb7 | hb7
     ·replace h := Qar hb7 h
      obtain ⟨x8, hg9, h⟩ := bno h
      obtain ⟨hi10, hj11⟩ := gsm hg9
      obtain ⟨x13, hf12, h⟩ := bno h
      rcases bft ((!x13)) with hb14 | hb14
      ·replace h := Qar hb14 h
       refine wx tbk [(2, rp [(.tmp 40, (B ((decide (y3 > 0)))))] (B true)), (5, rp [(.tmp 41, B true), (.tmp 42, (Qe3 p0)), (.tmp 43, I y3)] (.dptr (Qac (x8)) 0)), (10, rp [(.tmp 41, B true), fu 27, (.tmp 46, I x8.Parent), ci 0, (.tmp 48, (I (w64 (y3 - 1))))] (B x13)), (13, rp [(.tmp 51, (B ((!x13))))] (B true))] ⟨asb hb7 (amv rfl), ag_ (aid rfl Try.underlying22 ti56 rfl rfl hi10 (mgt Qac hj11) rfl), ag_ (apc (first := []) (cap := []) (vs := [I x8.Parent, I 0, (I (w64 (y3 - 1)))]) rfl Qfp (Qce N x8.Parent 0 (w64 (y3 - 1)) _ hf12) rfl rfl (nlc nll (nlc nll (nlc nll nl0))) nll rfl), asb hb14 (amv rfl), trivial⟩ ?_
       refine Qbs (by kernel_rfl) ?_
       refine wx tbk [] trivial ?_
       refine Qai ?_
       refine Qaq ?_
       refine Qag ?_
       refine Qag ?_
       refine Qaq ?_
       refine Qag ?_
       obtain rfl := osi h
       exact fend ⟨[B false], ⟨rot (by kernel_rfl), trivial⟩, rfl⟩ nll
      ·replace h := Qas hb14 h
       obtain ⟨x16, hf15, h⟩ := bno h
       rcases bft ((!x16)) with hb17 | hb17
       ·replace h := Qar hb17 h
        refine wx tbk [(2, rp [(.tmp 40, (B ((decide (y3 > 0)))))] (B true)), (5, rp [(.tmp 41, B true), (.tmp 42, (Qe3 p0)), (.tmp 43, I y3)] (.dptr (Qac (x8)) 0)), (10, rp [(.tmp 41, B true), fu 27, (.tmp 46, I x8.Parent), ci 0, (.tmp 48, (I (w64 (y3 - 1))))] (B x13)), (13, rp [(.tmp 51, (B ((!x13))))] (B false)), (16, rp [(.tmp 52, B false), (.tmp 53, (Qe3 p0)), (.tmp 54, I y3)] (.dptr (Qac (x8)) 0)), (19, rp [(.tmp 52, B false), fu 27, (.tmp 57, I x8.Loss), ci 0, ci 1000000000] (B x16)), (22, rp [(.tmp 60, (B ((!x16))))] (B true))] ⟨asb hb7 (amv rfl), ag_ (aid rfl Try.underlying22 ti56 rfl rfl hi10 (mgt Qac hj11) rfl), ag_ (apc (first := []) (cap := []) (vs := [I x8.Parent, I 0, (I (w64 (y3 - 1)))]) rfl Qfp (Qce N x8.Parent 0 (w64 (y3 - 1)) _ hf12) rfl rfl (nlc nll (nlc nll (nlc nll nl0))) nll rfl), asb hb14 (amv rfl), ag_ (aid rfl Try.underlying22 ti56 rfl rfl hi10 (mgt Qac hj11) rfl), ag_ (apc (first := []) (cap := []) (vs := [I x8.Loss, I 0, I 1000000000]) rfl Qfp (Qce N x8.Loss 0 1000000000 _ hf15) rfl rfl (nlc nll (nlc nll (nlc nll nl0))) nll rfl), asb hb17 (amv rfl), trivial⟩ ?_
        refine Qbs (by kernel_rfl) ?_
        refine wx tbk [] trivial ?_
        refine Qai ?_
        refine Qaq ?_
        refine Qag ?_
        refine Qag ?_
        refine Qaq ?_
        refine Qag ?_
        obtain rfl := osi h
        exact fend ⟨[B false], ⟨rot (by kernel_rfl), trivial⟩, rfl⟩ nll
       ·replace h := Qas hb17 h
        obtain ⟨x19, hf18, h⟩ := bno h
        rcases bft ((!x19)) with hb20 | hb20
        ·replace h := Qar hb20 h
         refine wx tbk [(2, rp [(.tmp 40, (B ((decide (y3 > 0)))))] (B true)), (5, rp [(.tmp 41, B true), (.tmp 42, (Qe3 p0)), (.tmp 43, I y3)] (.dptr (Qac (x8)) 0)), (10, rp [(.tmp 41, B true), fu 27, (.tmp 46, I x8.Parent), ci 0, (.tmp 48, (I (w64 (y3 - 1))))] (B x13)), (13, rp [(.tmp 51, (B ((!x13))))] (B false)), (16, rp [(.tmp 52, B false), (.tmp 53, (Qe3 p0)), (.tmp 54, I y3)] (.dptr (Qac (x8)) 0)), (19, rp [(.tmp 52, B false), fu 27, (.tmp 57, I x8.Loss), ci 0, ci 1000000000] (B x16)), (22, rp [(.tmp 60, (B ((!x16))))] (B false)), (25, rp [(.tmp 61, B false), (.tmp 62, (Qe3 p0)), (.tmp 63, I y3)] (.dptr (Qac (x8)) 0)), (28, rp [(.tmp 61, B false), fu 27, (.tmp 66, I x8.Limit), ci 0, ci 1000000000] (B x19)), (31, rp [(.tmp 69, (B ((!x19))))] (B true))] ⟨asb hb7 (amv rfl), ag_ (aid rfl Try.underlying22 ti56 rfl rfl hi10 (mgt Qac hj11) rfl), ag_ (apc (first := []) (cap := []) (vs := [I x8.Parent, I 0, (I (w64 (y3 - 1)))]) rfl Qfp (Qce N x8.Parent 0 (w64 (y3 - 1)) _ hf12) rfl rfl (nlc nll (nlc nll (nlc nll nl0))) nll rfl), asb hb14 (amv rfl), ag_ (aid rfl Try.underlying22 ti56 rfl rfl hi10 (mgt Qac hj11) rfl), ag_ (apc (first := []) (cap := []) (vs := [I x8.Loss, I 0, I 1000000000]) rfl Qfp (Qce N x8.Loss 0 1000000000 _ hf15) rfl rfl (nlc nll (nlc nll (nlc nll nl0))) nll rfl), asb hb17 (amv rfl), ag_ (aid rfl Try.underlying22 ti56 rfl rfl hi10 (mgt Qac hj11) rfl), ag_ (apc (first := []) (cap := []) (vs := [I x8.Limit, I 0, I 1000000000]) rfl Qfp (Qce N x8.Limit 0 1000000000 _ hf18) rfl rfl (nlc nll (nlc nll (nlc nll nl0))) nll rfl), asb hb20 (amv rfl), trivial⟩ ?_
         refine Qbs (by kernel_rfl) ?_
         refine wx tbk [] trivial ?_
         refine Qai ?_
         refine Qaq ?_
         refine Qag ?_
         refine Qag ?_
         refine Qaq ?_
         refine Qag ?_
         obtain rfl := osi h
         exact fend ⟨[B false], ⟨rot (by kernel_rfl), trivial⟩, rfl⟩ nll
        ·replace h := Qas hb20 h
         obtain ⟨x22, hf21, h⟩ := bno h
         refine wx tbk [(2, rp [(.tmp 40, (B ((decide (y3 > 0)))))] (B true)), (5, rp [(.tmp 41, B true), (.tmp 42, (Qe3 p0)), (.tmp 43, I y3)] (.dptr (Qac (x8)) 0)), (10, rp [(.tmp 41, B true), fu 27, (.tmp 46, I x8.Parent), ci 0, (.tmp 48, (I (w64 (y3 - 1))))] (B x13)), (13, rp [(.tmp 51, (B ((!x13))))] (B false)), (16, rp [(.tmp 52, B false), (.tmp 53, (Qe3 p0)), (.tmp 54, I y3)] (.dptr (Qac (x8)) 0)), (19, rp [(.tmp 52, B false), fu 27, (.tmp 57, I x8.Loss), ci 0, ci 1000000000] (B x16)), (22, rp [(.tmp 60, (B ((!x16))))] (B false)), (25, rp [(.tmp 61, B false), (.tmp 62, (Qe3 p0)), (.tmp 63, I y3)] (.dptr (Qac (x8)) 0)), (28, rp [(.tmp 61, B false), fu 27, (.tmp 66, I x8.Limit), ci 0, ci 1000000000] (B x19)), (31, rp [(.tmp 69, (B ((!x19))))] (B false)), (34, rp [(.tmp 70, B false), (.tmp 71, (Qe3 p0)), (.tmp 72, I y3)] (.dptr (Qac (x8)) 0)), (37, rp [(.tmp 70, B false), fu 27, (.tmp 75, I x8.Rank), ci 0, ci 100] (B x22))] ⟨asb hb7 (amv rfl), ag_ (aid rfl Try.underlying22 ti56 rfl rfl hi10 (mgt Qac hj11) rfl), ag_ (apc (first := []) (cap := []) (vs := [I x8.Parent, I 0, (I (w64 (y3 - 1)))]) rfl Qfp (Qce N x8.Parent 0 (w64 (y3 - 1)) _ hf12) rfl rfl (nlc nll (nlc nll (nlc nll nl0))) nll rfl), asb hb14 (amv rfl), ag_ (aid rfl Try.underlying22 ti56 rfl rfl hi10 (mgt Qac hj11) rfl), ag_ (apc (first := []) (cap := []) (vs := [I x8.Loss, I 0, I 1000000000]) rfl Qfp (Qce N x8.Loss 0 1000000000 _ hf15) rfl rfl (nlc nll (nlc nll (nlc nll nl0))) nll rfl), asb hb17 (amv rfl), ag_ (aid rfl Try.underlying22 ti56 rfl rfl hi10 (mgt Qac hj11) rfl), ag_ (apc (first := []) (cap := []) (vs := [I x8.Limit, I 0, I 1000000000]) rfl Qfp (Qce N x8.Limit 0 1000000000 _ hf18) rfl rfl (nlc nll (nlc nll (nlc nll nl0))) nll rfl), asb hb20 (amv rfl), ag_ (aid rfl Try.underlying22 ti56 rfl rfl hi10 (mgt Qac hj11) rfl), ag_ (apc (first := []) (cap := []) (vs := [I x8.Rank, I 0, I 100]) rfl Qfp (Qce N x8.Rank 0 100 _ hf21) rfl rfl (nlc nll (nlc nll (nlc nll nl0))) nll rfl), trivial⟩ ?_
         rcases bft ((!x22)) with hc23 | hc23
         ·replace h := Qar hc23 h
          refine wft hc23 (by kernel_rfl) ?_
          refine wx tbk [] trivial ?_
          refine Qai ?_
          refine Qaq ?_
          refine Qag ?_
          refine Qag ?_
          refine Qaq ?_
          refine Qag ?_
          obtain rfl := osi h
          exact fend ⟨[B false], ⟨rot (by kernel_rfl), trivial⟩, rfl⟩ nll
         ·replace h := Qas hc23 h
          refine wfn hc23 (by kernel_rfl) ?_
          refine Qaf ?_
          refine bln ?_
          refine thn ?_
          refine wx1 tbk [] trivial ?_
          refine thn ?_
          exact arm (mto (n := 79) [(0, (Qe3 p0)), (3, (I (w64 (y3 + 1))))] [] [] hφ0 (pc (.rn (.plain _ (nld Qab _))) (pc rwl pn)) qn) (ih (w64 (y3 + 1)) h)
     ·replace h := Qas hb7 h
      obtain ⟨x24, hg25, h⟩ := bno h
      obtain ⟨hi26, hj27⟩ := gsm hg25
      obtain ⟨x29, hf28, h⟩ := bno h
      rcases bft ((!x29)) with hb30 | hb30
      ·replace h := Qar hb30 h
       refine wx tbk [(2, rp [(.tmp 40, (B ((decide (y3 > 0)))))] (B false)), (16, rp [(.tmp 52, B false), (.tmp 53, (Qe3 p0)), (.tmp 54, I y3)] (.dptr (Qac (x24)) 0)), (19, rp [(.tmp 52, B false), fu 27, (.tmp 57, I x24.Loss), ci 0, ci 1000000000] (B x29)), (22, rp [(.tmp 60, (B ((!x29))))] (B true))] ⟨asb hb7 (amv rfl), ag_ (aid rfl Try.underlying22 ti56 rfl rfl hi26 (mgt Qac hj27) rfl), ag_ (apc (first := []) (cap := []) (vs := [I x24.Loss, I 0, I 1000000000]) rfl Qfp (Qce N x24.Loss 0 1000000000 _ hf28) rfl rfl (nlc nll (nlc nll (nlc nll nl0))) nll rfl), asb hb30 (amv rfl), trivial⟩ ?_
       refine Qbs (by kernel_rfl) ?_
       refine wx tbk [] trivial ?_
       refine Qai ?_
       refine Qaq ?_
       refine Qag ?_
       refine Qag ?_
       refine Qaq ?_
       refine Qag ?_
       obtain rfl := osi h
       exact fend ⟨[B false], ⟨rot (by kernel_rfl), trivial⟩, rfl⟩ nll
      ·replace h := Qas hb30 h
       obtain ⟨x32, hf31, h⟩ := bno h
       rcases bft ((!x32)) with hb33 | hb33
       ·replace h := Qar hb33 h
        refine wx tbk [(2, rp [(.tmp 40, (B ((decide (y3 > 0)))))] (B false)), (16, rp [(.tmp 52, B false), (.tmp 53, (Qe3 p0)), (.tmp 54, I y3)] (.dptr (Qac (x24)) 0)), (19, rp [(.tmp 52, B false), fu 27, (.tmp 57, I x24.Loss), ci 0, ci 1000000000] (B x29)), (22, rp [(.tmp 60, (B ((!x29))))] (B false)), (25, rp [(.tmp 61, B false), (.tmp 62, (Qe3 p0)), (.tmp 63, I y3)] (.dptr (Qac (x24)) 0)), (28, rp [(.tmp 61, B false), fu 27, (.tmp 66, I x24.Limit), ci 0, ci 1000000000] (B x32)), (31, rp [(.tmp 69, (B ((!x32))))] (B true))] ⟨asb hb7 (amv rfl), ag_ (aid rfl Try.underlying22 ti56 rfl rfl hi26 (mgt Qac hj27) rfl), ag_ (apc (first := []) (cap := []) (vs := [I x24.Loss, I 0, I 1000000000]) rfl Qfp (Qce N x24.Loss 0 1000000000 _ hf28) rfl rfl (nlc nll (nlc nll (nlc nll nl0))) nll rfl), asb hb30 (amv rfl), ag_ (aid rfl Try.underlying22 ti56 rfl rfl hi26 (mgt Qac hj27) rfl), ag_ (apc (first := []) (cap := []) (vs := [I x24.Limit, I 0, I 1000000000]) rfl Qfp (Qce N x24.Limit 0 1000000000 _ hf31) rfl rfl (nlc nll (nlc nll (nlc nll nl0))) nll rfl), asb hb33 (amv rfl), trivial⟩ ?_
        refine Qbs (by kernel_rfl) ?_
        refine wx tbk [] trivial ?_
        refine Qai ?_
        refine Qaq ?_
        refine Qag ?_
        refine Qag ?_
        refine Qaq ?_
        refine Qag ?_
        obtain rfl := osi h
        exact fend ⟨[B false], ⟨rot (by kernel_rfl), trivial⟩, rfl⟩ nll
       ·replace h := Qas hb33 h
        obtain ⟨x35, hf34, h⟩ := bno h
        refine wx tbk [(2, rp [(.tmp 40, (B ((decide (y3 > 0)))))] (B false)), (16, rp [(.tmp 52, B false), (.tmp 53, (Qe3 p0)), (.tmp 54, I y3)] (.dptr (Qac (x24)) 0)), (19, rp [(.tmp 52, B false), fu 27, (.tmp 57, I x24.Loss), ci 0, ci 1000000000] (B x29)), (22, rp [(.tmp 60, (B ((!x29))))] (B false)), (25, rp [(.tmp 61, B false), (.tmp 62, (Qe3 p0)), (.tmp 63, I y3)] (.dptr (Qac (x24)) 0)), (28, rp [(.tmp 61, B false), fu 27, (.tmp 66, I x24.Limit), ci 0, ci 1000000000] (B x32)), (31, rp [(.tmp 69, (B ((!x32))))] (B false)), (34, rp [(.tmp 70, B false), (.tmp 71, (Qe3 p0)), (.tmp 72, I y3)] (.dptr (Qac (x24)) 0)), (37, rp [(.tmp 70, B false), fu 27, (.tmp 75, I x24.Rank), ci 0, ci 100] (B x35))] ⟨asb hb7 (amv rfl), ag_ (aid rfl Try.underlying22 ti56 rfl rfl hi26 (mgt Qac hj27) rfl), ag_ (apc (first := []) (cap := []) (vs := [I x24.Loss, I 0, I 1000000000]) rfl Qfp (Qce N x24.Loss 0 1000000000 _ hf28) rfl rfl (nlc nll (nlc nll (nlc nll nl0))) nll rfl), asb hb30 (amv rfl), ag_ (aid rfl Try.underlying22 ti56 rfl rfl hi26 (mgt Qac hj27) rfl), ag_ (apc (first := []) (cap := []) (vs := [I x24.Limit, I 0, I 1000000000]) rfl Qfp (Qce N x24.Limit 0 1000000000 _ hf31) rfl rfl (nlc nll (nlc nll (nlc nll nl0))) nll rfl), asb hb33 (amv rfl), ag_ (aid rfl Try.underlying22 ti56 rfl rfl hi26 (mgt Qac hj27) rfl), ag_ (apc (first := []) (cap := []) (vs := [I x24.Rank, I 0, I 100]) rfl Qfp (Qce N x24.Rank 0 100 _ hf34) rfl rfl (nlc nll (nlc nll (nlc nll nl0))) nll rfl), trivial⟩ ?_
        rcases bft ((!x35)) with hc36 | hc36
        ·replace h := Qar hc36 h
         refine wft hc36 (by kernel_rfl) ?_
         refine wx tbk [] trivial ?_
         refine Qai ?_
         refine Qaq ?_
         refine Qag ?_
         refine Qag ?_
         refine Qaq ?_
         refine Qag ?_
         obtain rfl := osi h
         exact fend ⟨[B false], ⟨rot (by kernel_rfl), trivial⟩, rfl⟩ nll
        ·replace h := Qas hc36 h
         refine wfn hc36 (by kernel_rfl) ?_
         refine Qaf ?_
         refine bln ?_
         refine thn ?_
         refine wx1 tbk [] trivial ?_
         refine thn ?_
         exact arm (mto (n := 79) [(0, (Qe3 p0)), (3, (I (w64 (y3 + 1))))] [] [] hφ0 (pc (.rn (.plain _ (nld Qab _))) (pc rwl pn)) qn) (ih (w64 (y3 + 1)) h)
    ·replace h := Qas hc6 h
     refine wfn hc6 (by kernel_rfl) ?_
     refine Qbc ?_
     refine Qao ?_
     refine Qao ?_
     refine Qbb rfl ?_
     refine thn ?_
     exact ⟨(), h, (mto (n := 79) [] [] [] hφ0 pn qn)⟩
  ·skip
   rcases bft ((decide ((p0.length : Int) < 1))) with hb37 | hb37
   ·replace h := Qar hb37 h
    refine wx tbk [(1, rp [(.tmp 4, (Qe3 p0))] (I ((p0.length : Int)))), (3, rp [(.tmp 6, (B ((decide ((p0.length : Int) < 1)))))] (B true))] ⟨alm (c := Qac) (l := p0) (aln rfl Try.underlying22 rfl), asb hb37 (amv rfl), trivial⟩ ?_
    refine Qbs (by kernel_rfl) ?_
    refine wx tbk [] trivial ?_
    refine Qai ?_
    refine Qag ?_
    obtain rfl := osi h
    exact fend ⟨[B false], ⟨rot (by kernel_rfl), trivial⟩, rfl⟩ nll
   ·replace h := Qas hb37 h
    rcases bft ((decide ((p0.length : Int) > 30))) with hb38 | hb38
    ·replace h := Qar hb38 h
     refine wx tbk [(1, rp [(.tmp 4, (Qe3 p0))] (I ((p0.length : Int)))), (3, rp [(.tmp 6, (B ((decide ((p0.length : Int) < 1)))))] (B false)), (5, rp [(.tmp 7, B false), (.tmp 8, (Qe3 p0))] (I ((p0.length : Int)))), (8, rp [(.tmp 11, (B ((decide ((p0.length : Int) > 30)))))] (B true))] ⟨alm (c := Qac) (l := p0) (aln rfl Try.underlying22 rfl), asb hb37 (amv rfl), ag_ (alm (c := Qac) (l := p0) (aln rfl Try.underlying22 rfl)), asb hb38 (amv rfl), trivial⟩ ?_
     refine Qbs (by kernel_rfl) ?_
     refine wx tbk [] trivial ?_
     refine Qai ?_
     refine Qag ?_
     obtain rfl := osi h
     exact fend ⟨[B false], ⟨rot (by kernel_rfl), trivial⟩, rfl⟩ nll
    ·replace h := Qas hb38 h
     obtain ⟨x39, hg40, h⟩ := bno h
     obtain ⟨hi41, hj42⟩ := gsm hg40
     rcases bft ((x39.Parent != (-1))) with hb43 | hb43
     ·replace h := Qar hb43 h
      refine wx tbk [(1, rp [(.tmp 4, (Qe3 p0))] (I ((p0.length : Int)))), (3, rp [(.tmp 6, (B ((decide ((p0.length : Int) < 1)))))] (B false)), (5, rp [(.tmp 7, B false), (.tmp 8, (Qe3 p0))] (I ((p0.length : Int)))), (8, rp [(.tmp 11, (B ((decide ((p0.length : Int) > 30)))))] (B false)), (10, rp [(.tmp 12, B false), (.tmp 13, (Qe3 p0)), ci 0] (.dptr (Qac (x39)) 0)), (15, rp [(.tmp 18, (B ((x39.Parent != (-1)))))] (B true))] ⟨alm (c := Qac) (l := p0) (aln rfl Try.underlying22 rfl), asb hb37 (amv rfl), ag_ (alm (c := Qac) (l := p0) (aln rfl Try.underlying22 rfl)), asb hb38 (amv rfl), ag_ (aid rfl Try.underlying22 ti56 rfl rfl hi41 (mgt Qac hj42) rfl), asb hb43 (amv rfl), trivial⟩ ?_
      refine Qbs (by kernel_rfl) ?_
      refine wx tbk [] trivial ?_
      refine Qai ?_
      refine Qag ?_
      obtain rfl := osi h
      exact fend ⟨[B false], ⟨rot (by kernel_rfl), trivial⟩, rfl⟩ nll
     ·replace h := Qas hb43 h
      rcases bft ((x39.Loss != 0)) with hb44 | hb44
      ·replace h := Qar hb44 h
       refine wx tbk [(1, rp [(.tmp 4, (Qe3 p0))] (I ((p0.length : Int)))), (3, rp [(.tmp 6, (B ((decide ((p0.length : Int) < 1)))))] (B false)), (5, rp [(.tmp 7, B false), (.tmp 8, (Qe3 p0))] (I ((p0.length : Int)))), (8, rp [(.tmp 11, (B ((decide ((p0.length : Int) > 30)))))] (B false)), (10, rp [(.tmp 12, B false), (.tmp 13, (Qe3 p0)), ci 0] (.dptr (Qac (x39)) 0)), (15, rp [(.tmp 18, (B ((x39.Parent != (-1)))))] (B false)), (17, rp [(.tmp 19, B false), (.tmp 20, (Qe3 p0)), ci 0] (.dptr (Qac (x39)) 0)), (22, rp [(.tmp 25, (B ((x39.Loss != 0))))] (B true))] ⟨alm (c := Qac) (l := p0) (aln rfl Try.underlying22 rfl), asb hb37 (amv rfl), ag_ (alm (c := Qac) (l := p0) (aln rfl Try.underlying22 rfl)), asb hb38 (amv rfl), ag_ (aid rfl Try.underlying22 ti56 rfl rfl hi41 (mgt Qac hj42) rfl), asb hb43 (amv rfl), ag_ (aid rfl Try.underlying22 ti56 rfl rfl hi41 (mgt Qac hj42) rfl), asb hb44 (amv rfl), trivial⟩ ?_
       refine Qbs (by kernel_rfl) ?_
       refine wx tbk [] trivial ?_
       refine Qai ?_
       refine Qag ?_
       obtain rfl := osi h
       exact fend ⟨[B false], ⟨rot (by kernel_rfl), trivial⟩, rfl⟩ nll
      ·replace h := Qas hb44 h
       refine wx tbk [(1, rp [(.tmp 4, (Qe3 p0))] (I ((p0.length : Int)))), (3, rp [(.tmp 6, (B ((decide ((p0.length : Int) < 1)))))] (B false)), (5, rp [(.tmp 7, B false), (.tmp 8, (Qe3 p0))] (I ((p0.length : Int)))), (8, rp [(.tmp 11, (B ((decide ((p0.length : Int) > 30)))))] (B false)), (10, rp [(.tmp 12, B false), (.tmp 13, (Qe3 p0)), ci 0] (.dptr (Qac (x39)) 0)), (15, rp [(.tmp 18, (B ((x39.Parent != (-1)))))] (B false)), (17, rp [(.tmp 19, B false), (.tmp 20, (Qe3 p0)), ci 0] (.dptr (Qac (x39)) 0)), (22, rp [(.tmp 25, (B ((x39.Loss != 0))))] (B false)), (24, rp [(.tmp 26, B false), (.tmp 27, (Qe3 p0)), ci 0] (.dptr (Qac (x39)) 0))] ⟨alm (c := Qac) (l := p0) (aln rfl Try.underlying22 rfl), asb hb37 (amv rfl), ag_ (alm (c := Qac) (l := p0) (aln rfl Try.underlying22 rfl)), asb hb38 (amv rfl), ag_ (aid rfl Try.underlying22 ti56 rfl rfl hi41 (mgt Qac hj42) rfl), asb hb43 (amv rfl), ag_ (aid rfl Try.underlying22 ti56 rfl rfl hi41 (mgt Qac hj42) rfl), asb hb44 (amv rfl), ag_ (aid rfl Try.underlying22 ti56 rfl rfl hi41 (mgt Qac hj42) rfl), trivial⟩ ?_
       rcases bft ((x39.Limit != 0)) with hc45 | hc45
       ·replace h := Qar hc45 h
        refine wft hc45 (by kernel_rfl) ?_
        refine wx tbk [] trivial ?_
        refine Qai ?_
        refine Qag ?_
        obtain rfl := osi h
        exact fend ⟨[B false], ⟨rot (by kernel_rfl), trivial⟩, rfl⟩ nll
       ·replace h := Qas hc45 h
        refine wfn hc45 (by kernel_rfl) ?_
        refine Qaf ?_
        refine thn ?_
        exact ⟨(), h, (mto (n := 79) [(0, (Qe3 p0))] [] [] hφ0 (pc (.rn (.plain _ (nld Qab _))) pn) qn)⟩
def Qdy (N : Nat) (k1 : Unit → Option Bool) (p1 : (List Int)) : Nat → Int → Option Bool
  | 0, _ => none
  | n4 + 1, y2 =>
    bif (decide (y2 < (p1.length : Int))) then
     (getI p1 y2).bind fun x6 =>
     (Qfb N x6 0 1000000000).bind fun x11 =>
     bif (!x11) then
      some false
     else
      Qdy N k1 p1 n4 (w64 (y2 + 1))
    else
     k1 ()
def Qhk (N : Nat) (p0 : (List GNode)) (p1 : (List Int)) : Option Bool :=
  Qcv (fun _ =>
    some ((p1.length : Int) == (p0.length : Int))) fun k1 : Unit → Option Bool =>
  Qdy N k1 p1 N 0
def Qrb (p0 : (List GNode)) : AV := .dat 4 ((p0 : List GNode).map Qac)
def Qon (p1 : (List Int)) : AV := .dat 1 ((p1 : List Int).map Qad)
set_option maxRecDepth 100000 in
set_option maxHeartbeats 4000000 in
theorem Qj2 (N : Nat) (p0 : (List GNode)) (p1 : (List Int)) (r : Bool) (h : Qhk N p0 p1 = some r) : Spec Try.prog 26 [(.dat 4 (p0.map Qac)), (.dat 1 (p1.map Qad))] [] (B r) [] := by
  refine Qaj Try.func26 rfl 0 (nle rfl) (fun X φ0 w0 hφ0 => ?_)
  unfold Qhk at h
  refine wx tbk [] trivial ?_
  obtain ⟨k1, hk_k1, h⟩ := jko h
  refine wjn (τ := Unit) (fun t => k1 t = some r) (fun _ => ⟨mk 23 [(0, (Qrb p0)), (1, (Qon p1))], []⟩) (fun t h => ?_) ?_
  ·subst hk_k1
   refine wx tbk [(1, rp [(.tmp 18, (Qon p1))] (I ((p1.length : Int)))), (3, rp [(.tmp 20, (Qrb p0))] (I ((p0.length : Int))))] ⟨alm (c := Qad) (l := p1) (aln rfl Try.underlying23 rfl), alm (c := Qac) (l := p0) (aln rfl Try.underlying22 rfl), trivial⟩ ?_
   refine Qai ?_
   obtain rfl := osi h
   exact fend ⟨[(B (((p1.length : Int) == (p0.length : Int))))], ⟨rot (by kernel_rfl), trivial⟩, rfl⟩ nll
  ·skip
   refine wx tbk [] trivial ?_
   refine Qah ?_
   refine wmr (mto (n := 23) (l' := [(0, (Qrb p0)), (1, (Qon p1)), (5, I 0)]) (own' := []) [(0, (Qrb p0)), (1, (Qon p1)), (5, I 0)] [] [] hφ0 (pc (.rn (.plain _ (nld Qab _))) (pc (.rn (.plain _ (nld Qaa _))) (pc rwl pn))) qn) ?_
   refine Qb7 (τ := Int) (fun n t => Qdy N k1 p1 n t = some r) (fun y2 => ⟨mk 23 [(0, (Qrb p0)), (1, (Qon p1)), (5, I y2)], []⟩) (fun t h => by rw [Qdy] at h; cases h) (fun n4 ih y2 h => ?_) N (0) h
   rw [Qdy] at h
   skip
   refine wsq ?_
   refine wx tbk [(2, rp [(.tmp 7, (Qon p1))] (I ((p1.length : Int))))] ⟨alm (c := Qad) (l := p1) (aln rfl Try.underlying23 rfl), trivial⟩ ?_
   rcases bft ((decide (y2 < (p1.length : Int)))) with hc5 | hc5
   ·replace h := Qar hc5 h
    refine wft hc5 (by kernel_rfl) ?_
    refine Qaf ?_
    refine thn ?_
    refine wsq ?_
    refine Qah ?_
    obtain ⟨x6, hg7, h⟩ := bno h
    obtain ⟨hi8, hj9⟩ := gsm hg7
    obtain ⟨x11, hf10, h⟩ := bno h
    refine wx tbk [(2, rp [(.tmp 12, (Qon p1)), (.tmp 13, I y2)] (.dptr (Qad (x6)) 0)), (4, rp [fu 27, (.tmp 15, I x6), ci 0, ci 1000000000] (B x11))] ⟨aid rfl Try.underlying23 ti3 rfl rfl hi8 (mgt Qad hj9) rfl, apc (first := []) (cap := []) (vs := [I x6, I 0, I 1000000000]) rfl Qfp (Qce N x6 0 1000000000 _ hf10) rfl rfl (nlc nll (nlc nll (nlc nll nl0))) nll rfl, trivial⟩ ?_
    rcases bft ((!x11)) with hc12 | hc12
    ·replace h := Qar hc12 h
     refine wft hc12 (by kernel_rfl) ?_
     refine wx tbk [] trivial ?_
     refine Qai ?_
     refine Qaq ?_
     refine Qag ?_
     refine Qag ?_
     refine Qaq ?_
     refine Qag ?_
     obtain rfl := osi h
     exact fend ⟨[B false], ⟨rot (by kernel_rfl), trivial⟩, rfl⟩ nll
    ·replace h := Qas hc12 h
     refine wfn hc12 (by kernel_rfl) ?_
     refine Qaf ?_
     refine bln ?_
     refine thn ?_
     refine wx1 tbk [] trivial ?_
     refine thn ?_
     exact arm (mto (n := 23) [(0, (Qrb p0)), (1, (Qon p1)), (5, (I (w64 (y2 + 1))))] [] [] hφ0 (pc (.rn (.plain _ (nld Qab _))) (pc (.rn (.plain _ (nld Qaa _))) (pc rwl pn))) qn) (ih (w64 (y2 + 1)) h)
   ·replace h := Qas hc5 h
    refine wfn hc5 (by kernel_rfl) ?_
    refine Qbc ?_
    refine Qao ?_
    refine Qao ?_
    refine Qbb rfl ?_
    refine thn ?_
    exact ⟨(), h, (mto (n := 23) [(0, (Qrb p0)), (1, (Qon p1))] [] [] hφ0 (pc (.rn (.plain _ (nld Qab _))) (pc (.rn (.plain _ (nld Qaa _))) pn)) qn)⟩
def Qdh (N : Nat) (p0 : (List GNode)) (rec_ : ((List GNode) → (List Int) → Int → Option Int)) (p1 : (List Int)) (p2 : Int) (k6 : Int → Option Int) : Nat → Int → Int → Option Int
  | 0, _, _ => none
  | n16 + 1, y12, y13 =>
    bif (decide (y13 < (p0.length : Int))) then
     (getI p0 y13).bind fun x18 =>
     bif (x18.Parent == p2) then
      (rec_ p0 p1 y13).bind fun x24 =>
      Qdh N p0 rec_ p1 p2 k6 n16 (w64 (y12 + x24)) (w64 (y13 + 1))
     else
      Qdh N p0 rec_ p1 p2 k6 n16 y12 (w64 (y13 + 1))
    else
     k6 (y12)
def Qfc (N : Nat) (rec_ : (List GNode) → (List Int) → Int → Option Int) (p0 : (List GNode)) (p1 : (List Int)) (p2 : Int) : Option Int :=
  (getI p1 p2).bind fun x1 =>
  Qcv (fun y5 =>
    bif (decide (y5 > 0)) then
     (getI p0 p2).bind fun x8 =>
     some (w64 (y5 + x8.Loss))
    else
     some y5) fun k6 : Int → Option Int =>
  Qdh N p0 rec_ p1 p2 k6 N x1 (w64 (p2 + 1))
def Qep : Nat → (List GNode) → (List Int) → Int → Option Int
  | 0, _, _, _ => none
  | N + 1, p0, p1, p2 => Qfc N (Qep N) p0 p1 p2
def Qpx (p1 : (List Int)) : AV := .dat 1 ((p1 : List Int).map Qad)
def Qly (p0 : (List GNode)) : AV := .dat 4 ((p0 : List GNode).map Qac)
set_option maxRecDepth 100000 in
set_option maxHeartbeats 4000000 in
theorem Qgo : ∀ (N : Nat) (p0 : (List GNode)) (p1 : (List Int)) (p2 : Int) (r : Int) (_ : Qep N p0 p1 p2 = some r), Spec Try.prog 39 [(.dat 4 (p0.map Qac)), (.dat 1 (p1.map Qad)), (I p2)] [] (I r) [] := by
  intro N
  induction N with
  | zero => intro p0 p1 p2 r h; exact nomatch (show (none : Option Int) = some r from h)
  | succ N ihX =>
  intro p0 p1 p2 r h
  replace h : Qfc N (Qep N) p0 p1 p2 = some r := h
  refine Qaj Try.func39 rfl 0 (nle rfl) (fun X φ0 w0 hφ0 => ?_)
  unfold Qfc at h
  refine wx tbk [] trivial ?_
  obtain ⟨x1, hg2, h⟩ := bno h
  obtain ⟨hi3, hj4⟩ := gsm hg2
  refine wx tbk [(2, rp [(.tmp 9, (Qpx p1)), (.tmp 10, I p2)] (.dptr (Qad (x1)) 0))] ⟨aid rfl Try.underlying23 ti3 rfl rfl hi3 (mgt Qad hj4) rfl, trivial⟩ ?_
  obtain ⟨k6, hk_k6, h⟩ := jko h
  refine wjn (τ := Int) (fun t => k6 t = some r) (fun y5 => ⟨mk 44 [(0, (Qly p0)), (2, I p2), (7, I y5)], []⟩) (fun y5 h => ?_) ?_
  ·subst hk_k6
   refine wsq ?_
   refine wx tbk [] trivial ?_
   rcases bft ((decide (y5 > 0))) with hc7 | hc7
   ·replace h := Qar hc7 h
    refine wft hc7 (by kernel_rfl) ?_
    obtain ⟨x8, hg9, h⟩ := bno h
    obtain ⟨hi10, hj11⟩ := gsm hg9
    refine wx1 tbk [(3, rp [(.tmp 37, (Qly p0)), (.tmp 38, I p2)] (.dptr (Qac (x8)) 0))] ⟨aid rfl Try.underlying22 ti56 rfl rfl hi10 (mgt Qac hj11) rfl, trivial⟩ ?_
    refine thn ?_
    refine wx tbk [] trivial ?_
    refine Qai ?_
    obtain rfl := osi h
    exact fend ⟨[(I (w64 (y5 + x8.Loss)))], ⟨rot (by kernel_rfl), trivial⟩, rfl⟩ nll
   ·replace h := Qas hc7 h
    refine wfn hc7 (by kernel_rfl) ?_
    refine Qaf ?_
    refine thn ?_
    refine wx tbk [] trivial ?_
    refine Qai ?_
    obtain rfl := osi h
    exact fend ⟨[I y5], ⟨rot (by kernel_rfl), trivial⟩, rfl⟩ nll
  ·skip
   refine wx tbk [] trivial ?_
   refine Qah ?_
   refine wmr (mto (n := 44) (l' := [(0, (Qly p0)), (1, (Qpx p1)), (2, I p2), (7, I x1), (8, (I ((w64 (p2 + 1)))))]) (own' := []) [(0, (Qly p0)), (1, (Qpx p1)), (2, I p2), (7, I x1), (8, (I (w64 (p2 + 1))))] [] [] hφ0 (pc (.rn (.plain _ (nld Qab _))) (pc (.rn (.plain _ (nld Qaa _))) (pc rwl (pc rwl (pc rwl pn))))) qn) ?_
   refine Qb7 (τ := Int × Int) (fun n t => Qdh N p0 (Qep N) p1 p2 k6 n t.1 t.2 = some r) (fun ⟨y12, y13⟩ => ⟨mk 44 [(0, (Qly p0)), (1, (Qpx p1)), (2, I p2), (7, I y12), (8, I y13)], []⟩) (fun t h => by rw [Qdh] at h; cases h) (fun n16 ih t h => ?_) N (x1, w64 (p2 + 1)) h
   obtain ⟨y12, y13⟩ := t
   rw [Qdh] at h
   skip
   refine wsq ?_
   refine wx tbk [(2, rp [(.tmp 16, (Qly p0))] (I ((p0.length : Int))))] ⟨alm (c := Qac) (l := p0) (aln rfl Try.underlying22 rfl), trivial⟩ ?_
   rcases bft ((decide (y13 < (p0.length : Int)))) with hc17 | hc17
   ·replace h := Qar hc17 h
    refine wft hc17 (by kernel_rfl) ?_
    refine Qaf ?_
    refine thn ?_
    refine wsq ?_
    refine Qah ?_
    obtain ⟨x18, hg19, h⟩ := bno h
    obtain ⟨hi20, hj21⟩ := gsm hg19
    refine wx tbk [(2, rp [(.tmp 21, (Qly p0)), (.tmp 22, I y13)] (.dptr (Qac (x18)) 0))] ⟨aid rfl Try.underlying22 ti56 rfl rfl hi20 (mgt Qac hj21) rfl, trivial⟩ ?_
    rcases bft ((x18.Parent == p2)) with hc22 | hc22
    ·replace h := Qar hc22 h
     refine wft hc22 (by kernel_rfl) ?_
     obtain ⟨x24, hf23, h⟩ := bno h
     refine wx1 tbk [(4, rp [fu 39, (.tmp 29, (Qly p0)), (.tmp 30, (Qpx p1)), (.tmp 31, I y13)] (I x24))] ⟨apc (first := []) (cap := []) (vs := [(Qly p0), (Qpx p1), I y13]) rfl Qnd (ihX p0 p1 y13 _ hf23) rfl rfl (nlc (nld Qab _) (nlc (nld Qaa _) (nlc nll nl0))) nll rfl, trivial⟩ ?_
     refine bln ?_
     refine thn ?_
     refine wx1 tbk [] trivial ?_
     refine thn ?_
     exact arm (mto (n := 44) [(0, (Qly p0)), (1, (Qpx p1)), (2, I p2), (7, (I (w64 (y12 + x24)))), (8, (I (w64 (y13 + 1))))] [] [] hφ0 (pc (.rn (.plain _ (nld Qab _))) (pc (.rn (.plain _ (nld Qaa _))) (pc rwl (pc rwl (pc rwl pn))))) qn) (ih (w64 (y12 + x24), w64 (y13 + 1)) h)
    ·replace h := Qas hc22 h
     refine wfn hc22 (by kernel_rfl) ?_
     refine Qaf ?_
     refine bln ?_
     refine thn ?_
     refine wx1 tbk [] trivial ?_
     refine thn ?_
     exact arm (mto (n := 44) [(0, (Qly p0)), (1, (Qpx p1)), (2, I p2), (7, I y12), (8, (I (w64 (y13 + 1))))] [] [] hφ0 (pc (.rn (.plain _ (nld Qab _))) (pc (.rn (.plain _ (nld Qaa _))) (pc rwl (pc rwl (pc rwl pn))))) qn) (ih (y12, w64 (y13 + 1)) h)
   ·replace h := Qas hc17 h
    refine wfn hc17 (by kernel_rfl) ?_
    refine Qbc ?_
    refine Qao ?_
    refine Qao ?_
    refine Qbb rfl ?_
    refine thn ?_
    exact ⟨(y12), h, (mto (n := 44) [(0, (Qly p0)), (2, I p2), (7, I y12)] [] [] hφ0 (pc (.rn (.plain _ (nld Qab _))) (pc rwl (pc rwl pn))) qn)⟩
def Qdz (N : Nat) (p0 : (List GNode)) (k2 : (List GNode) → Option (List GNode)) : Nat → (List GNode) → Int → Option (List GNode)
  | 0, _, _ => none
  | n7 + 1, y3, y4 =>
    bif (decide (y4 < (p0.length : Int))) then
     (getI p0 y4).bind fun x9 =>
     chk (decide ((y3.length + ([x9]).length) * 32 ≤ 140737488355328)) <|
     Qdz N p0 k2 n7 (y3 ++ ([x9])) (w64 (y4 + 1))
    else
     k2 (y3)
def Qfn (N : Nat) (p0 : (List GNode)) : Option (List GNode) :=
  Qcv (fun y1 =>
    some y1) fun k2 : (List GNode) → Option (List GNode) =>
  Qdz N p0 k2 N ([]) 0
def Qom (p0 : (List GNode)) : AV := .dat 4 ((p0 : List GNode).map Qac)
def Qu4 (y3 : (List GNode)) : AV := .acc 0 141 4 ((y3 : List GNode).map Qac)
def Qu3 (x9 : GNode) : AV := .agg [(I (x9.Parent)), (I (x9.Loss)), (I (x9.Limit)), (I (x9.Rank))]
set_option maxRecDepth 100000 in
set_option maxHeartbeats 4000000 in
theorem Qnw (N : Nat) (p0 : (List GNode)) (r : (List GNode)) (h : Qfn N p0 = some r) : Spec Try.prog 23 [(.dat 4 (p0.map Qac))] [] (.dat 4 (r.map Qac)) [] := by
  refine Qaj Try.func23 rfl 0 (nle rfl) (fun X φ0 w0 hφ0 => ?_)
  unfold Qfn at h
  refine wx tbk [] trivial ?_
  refine wx tbk [] trivial ?_
  obtain ⟨k2, hk_k2, h⟩ := jko h
  refine wjn (τ := (List GNode)) (fun t => k2 t = some r) (fun y1 => ⟨mk 36 [(3, (.acc 0 141 4 ((y1 : List GNode).map Qac)))], [.tok]⟩) (fun y1 h => ?_) ?_
  ·subst hk_k2
   refine wx tbk [] trivial ?_
   refine Qai ?_
   obtain rfl := osi h
   exact fend ⟨[(.dat 4 ((y1 : List GNode).map Qac))], ⟨Qli (v := (.acc 0 141 4 ((y1 : List GNode).map Qac))) (rot (by kernel_rfl)) Less.acc, trivial⟩, rfl⟩ (nld Qab _)
  ·skip
   refine wx tbk [] trivial ?_
   refine Qah ?_
   refine wmr (Mor.trans (mor_nil 0 141 4 3 (by kernel_rfl) (by kernel_rfl)) (mto (n := 36) (l' := [(0, (Qom p0)), (3, (.acc 0 141 4 ((([]) : List GNode).map Qac))), (4, I 0)]) (own' := [.tok]) [(0, (Qom p0)), (3, (.acc 0 141 4 (([] : List GNode).map Qac))), (4, I 0)] [0] [.tok] hφ0 (pc (.rn (.plain _ (nld Qab _))) (pc (.rn (Qrs rfl (Qir Qab _))) (pc rwl pn))) (qc .tok qn))) ?_
   refine Qb7 (τ := (List GNode) × Int) (fun n t => Qdz N p0 k2 n t.1 t.2 = some r) (fun ⟨y3, y4⟩ => ⟨mk 36 [(0, (Qom p0)), (3, (Qu4 y3)), (4, I y4)], [.tok]⟩) (fun t h => by rw [Qdz] at h; cases h) (fun n7 ih t h => ?_) N ([], 0) h
   obtain ⟨y3, y4⟩ := t
   rw [Qdz] at h
   skip
   refine wsq ?_
   refine wx tbk [(2, rp [(.tmp 6, (Qom p0))] (I ((p0.length : Int))))] ⟨alm (c := Qac) (l := p0) (aln rfl Try.underlying22 rfl), trivial⟩ ?_
   rcases bft ((decide (y4 < (p0.length : Int)))) with hc8 | hc8
   ·replace h := Qar hc8 h
    refine wft hc8 (by kernel_rfl) ?_
    refine Qaf ?_
    refine thn ?_
    refine wsq ?_
    refine Qah ?_
    obtain ⟨x9, hg10, h⟩ := bno h
    obtain ⟨hi11, hj12⟩ := gsm hg10
    obtain ⟨ha13, h⟩ := cko h
    refine wy1 tbk [(3, rp [(.tmp 12, (Qom p0)), (.tmp 13, I y4)] (.dptr (Qac (x9)) 0)), (8, rp [(.tmp 17, (Qom p0)), (.tmp 18, I y4)] (.dptr (Qac (x9)) 0)), (13, rp [(.tmp 22, (Qom p0)), (.tmp 23, I y4)] (.dptr (Qac (x9)) 0)), (18, rp [(.tmp 27, (Qom p0)), (.tmp 28, I y4)] (.dptr (Qac (x9)) 0)), (21, rp [(.tmp 16, I x9.Parent), (.tmp 21, I x9.Loss), (.tmp 26, I x9.Limit), (.tmp 31, I x9.Rank)] (Qu3 x9)), (22, rp [(.tmp 32, (Qu3 x9))] (.dat 4 (([x9] : List GNode).map Qac))), (23, ⟨[(.tmp 11, (Qu4 y3)), (.tmp 33, (.dat 4 (([x9] : List GNode).map Qac)))], [(0, .tok), (1, .unused)], (.acc 1 141 4 ((y3 ++ ([x9]) : List GNode).map Qac)), [(0, .dead), (1, .tok)], false⟩)] ⟨aid rfl Try.underlying22 ti56 rfl rfl hi11 (mgt Qac hj12) rfl, aid rfl Try.underlying22 ti56 rfl rfl hi11 (mgt Qac hj12) rfl, aid rfl Try.underlying22 ti56 rfl rfl hi11 (mgt Qac hj12) rfl, aid rfl Try.underlying22 ti56 rfl rfl hi11 (mgt Qac hj12) rfl, Qa6 (vs := [I x9.Parent, I x9.Loss, I x9.Limit, I x9.Rank]) rfl Qvt Qqb rfl (by rfl) rfl, Qbd (vs := [(Qu3 x9)]) rfl Try.underlying31 Qil Qqb rfl (by decide) rfl (by decide) (by rfl) (by rfl) (by rfl) rfl, Qxm rfl Try.underlying31 te141 (Base.acc _ _) rfl rfl (by rfl) (app_le1 Qac ha13) (app_le2 Qac ha13 (by decide)) (app_map Qac) rfl rfl, trivial⟩ ?_
    refine bln ?_
    refine thn ?_
    refine wx1 tbk [] trivial ?_
    refine thn ?_
    exact arm (mto (n := 36) [(0, (Qom p0)), (3, (.acc 1 141 4 ((y3 ++ ([x9]) : List GNode).map Qac))), (4, (I (w64 (y4 + 1))))] [1] [.tok] hφ0 (pc (.rn (.plain _ (nld Qab _))) (pc (.rn (Qrs rfl (Qir Qab _))) (pc rwl pn))) (qc .tok qn)) (ih (y3 ++ ([x9]), w64 (y4 + 1)) h)
   ·replace h := Qas hc8 h
    refine wfn hc8 (by kernel_rfl) ?_
    refine Qbc ?_
    refine Qao ?_
    refine Qao ?_
    refine Qbb rfl ?_
    refine thn ?_
    exact ⟨(y3), h, (mto (n := 36) [(3, (Qu4 y3))] [0] [.tok] hφ0 (pc (.rn (Qrs rfl (Qir Qab _))) pn) (qc .tok qn))⟩
def Qh9 (_N : Nat) (p0 : (List GNode)) (p1 : (List Int)) : Option Bool :=
  bif (decide ((p0.length : Int) ≤ 35)) then
   some (decide ((p1.length : Int) ≤ 35))
  else
   some false
set_option maxRecDepth 100000 in
set_option maxHeartbeats 4000000 in
theorem Qg7 (N : Nat) (p0 : (List GNode)) (p1 : (List Int)) (r : Bool) (h : Qh9 N p0 p1 = some r) : Spec Try.prog 20 [(.dat 4 (p0.map Qac)), (.dat 1 (p1.map Qad))] [] (B r) [] := by
  refine Qaj Try.func20 rfl 0 (nle rfl) (fun X φ0 w0 hφ0 => ?_)
  unfold Qh9 at h
  refine wx tbk [] trivial ?_
  rcases bft ((decide ((p0.length : Int) ≤ 35))) with hb1 | hb1
  ·replace h := Qar hb1 h
   refine wx tbk [(1, rp [(.tmp 5, (.dat 4 ((p0 : List GNode).map Qac)))] (I ((p0.length : Int)))), (3, rp [(.tmp 7, (B ((decide ((p0.length : Int) ≤ 35)))))] (B true)), (5, rp [(.tmp 8, B true), (.tmp 9, (.dat 1 ((p1 : List Int).map Qad)))] (I ((p1.length : Int))))] ⟨alm (c := Qac) (l := p0) (aln rfl Try.underlying22 rfl), asb hb1 (amv rfl), ag_ (alm (c := Qad) (l := p1) (aln rfl Try.underlying23 rfl)), trivial⟩ ?_
   refine Qai ?_
   obtain rfl := osi h
   exact fend ⟨[(B ((decide ((p1.length : Int) ≤ 35))))], ⟨rot (by kernel_rfl), trivial⟩, rfl⟩ nll
  ·replace h := Qas hb1 h
   refine wx tbk [(1, rp [(.tmp 5, (.dat 4 ((p0 : List GNode).map Qac)))] (I ((p0.length : Int)))), (3, rp [(.tmp 7, (B ((decide ((p0.length : Int) ≤ 35)))))] (B false))] ⟨alm (c := Qac) (l := p0) (aln rfl Try.underlying22 rfl), asb hb1 (amv rfl), trivial⟩ ?_
   refine Qai ?_
   obtain rfl := osi h
   exact fend ⟨[B false], ⟨rot (by kernel_rfl), trivial⟩, rfl⟩ nll
end Go.Proofs.Ytgdepcgbjjgnfaa
