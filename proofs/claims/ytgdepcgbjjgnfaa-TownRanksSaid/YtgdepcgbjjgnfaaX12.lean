/-
  Functions of the program: what they compute, as plain functions, and that they do. No conditions.
-/
import Derived.Test.YtgdepcgbjjgnfaaX5
namespace Go.Proofs.Ytgdepcgbjjgnfaa
open Go.RowKit
def Qc1 (N : Nat) (p0 : (List GNode)) (k2 : Unit → Option Bool) : Nat → Int → Option Bool
  | 0, _ => none
  | n5 + 1, y3 =>
    bif (decide (y3 < (p0.length : Int))) then
     bif (decide (y3 > 0)) then
      (getI p0 y3).bind fun x8 =>
      (Qee N x8.Parent 0 (w64 (y3 - 1))).bind fun x13 =>
      bif (!x13) then
       some false
      else
       (Qee N x8.Loss 0 1000000000).bind fun x16 =>
       bif (!x16) then
        some false
       else
        (Qee N x8.Limit 0 1000000000).bind fun x19 =>
        bif (!x19) then
         some false
        else
         (Qee N x8.Rank 0 100).bind fun x22 =>
         bif (!x22) then
          some false
         else
          Qc1 N p0 k2 n5 (w64 (y3 + 1))
     else
      (getI p0 y3).bind fun x24 =>
      (Qee N x24.Loss 0 1000000000).bind fun x29 =>
      bif (!x29) then
       some false
      else
       (Qee N x24.Limit 0 1000000000).bind fun x32 =>
       bif (!x32) then
        some false
       else
        (Qee N x24.Rank 0 100).bind fun x35 =>
        bif (!x35) then
         some false
        else
         Qc1 N p0 k2 n5 (w64 (y3 + 1))
    else
     k2 ()
def Qgn (N : Nat) (p0 : (List GNode)) : Option Bool :=
  Qck (fun _ =>
    Qck (fun _ =>
      some true) fun k2 : Unit → Option Bool =>
    Qc1 N p0 k2 N 0) fun k1 : Unit → Option Bool =>
  bif (decide ((p0.length : Int) < 1)) then
   some false
  else
   bif (decide ((p0.length : Int) > 30)) then
    some false
   else
    (getI p0 0).bind fun x39 =>
    bif (x39.Parent != (-1)) then
     some false
    else
     bif (x39.Loss != 0) then
      some false
     else
      bif (x39.Limit != 0) then
       some false
      else
       k1 ()
def Qej (p0 : (List GNode)) : AV := .dat 4 ((p0 : List GNode).map Qad)
set_option maxRecDepth 100000 in
set_option maxHeartbeats 4000000 in
theorem Qhb (N : Nat) (p0 : (List GNode)) (r : Bool) (h : Qgn N p0 = some r) : Spec Try.prog 25 [(.dat 4 (p0.map Qad))] [] (B r) [] := by
  refine Qaj Try.func25 rfl 0 (nle rfl) (fun X φ0 w0 hφ0 => ?_)
  unfold Qgn at h
  refine wx tbk [] trivial ?_
  obtain ⟨k1, hk_k1, h⟩ := jko h
  refine wjn (τ := Unit) (fun t => k1 t = some r) (fun _ => ⟨mk 79 [(0, (Qej p0))], []⟩) (fun t h => ?_) ?_
  ·subst hk_k1
   obtain ⟨k2, hk_k2, h⟩ := jko h
   refine wjn (τ := Unit) (fun t => k2 t = some r) (fun _ => ⟨mk 79 [], []⟩) (fun t h => ?_) ?_
   ·subst hk_k2
    refine wx tbk [] trivial ?_
    refine Qaf ?_
    obtain rfl := osi h
    exact fend ⟨[B true], ⟨rot (by kernel_rfl), trivial⟩, rfl⟩ nll
   ·skip
    refine wx tbk [] trivial ?_
    refine Qag ?_
    refine wmr (mto (n := 79) (l' := [(0, (Qej p0)), (3, I 0)]) (own' := []) [(0, (Qej p0)), (3, I 0)] [] [] hφ0 (pc (.rn (.plain _ (nld Qab _))) (pc rwl pn)) qn) ?_
    refine Qcc (τ := Int) (fun n t => Qc1 N p0 k2 n t = some r) (fun y3 => ⟨mk 79 [(0, (Qej p0)), (3, I y3)], []⟩) (fun t h => by rw [Qc1] at h; cases h) (fun n5 ih y3 h => ?_) N (0) h
    rw [Qc1] at h
    skip
    refine wsq ?_
    refine wx tbk [(2, rp [(.tmp 34, (Qej p0))] (I ((p0.length : Int))))] ⟨alm (c := Qad) (l := p0) (aln rfl Try.underlying22 rfl), trivial⟩ ?_
    rcases bft ((decide (y3 < (p0.length : Int)))) with hc6 | hc6
    ·replace h := Qat hc6 h
     refine wft hc6 (by kernel_rfl) ?_
     refine Qah ?_
     refine thn ?_
     refine wsq ?_
     refine Qag ?_
     rcases bft ((decide (y3 > 0))) with hb7 | hb7
     ·replace h := Qat hb7 h
      obtain ⟨x8, hg9, h⟩ := bno h
      obtain ⟨hi10, hj11⟩ := gsm hg9
      obtain ⟨x13, hf12, h⟩ := bno h
      rcases bft ((!x13)) with hb14 | hb14
      ·replace h := Qat hb14 h
       refine wx tbk [(2, rp [(.tmp 40, (B ((decide (y3 > 0)))))] (B true)), (5, rp [(.tmp 41, B true), (.tmp 42, (Qej p0)), (.tmp 43, I y3)] (.dptr (Qad (x8)) 0)), (10, rp [(.tmp 41, B true), fu 27, (.tmp 46, I x8.Parent), ci 0, (.tmp 48, (I (w64 (y3 - 1))))] (B x13)), (13, rp [(.tmp 51, (B ((!x13))))] (B true))] ⟨asb hb7 (amv rfl), ag_ (aid rfl Try.underlying22 ti56 rfl rfl hi10 (mgt Qad hj11) rfl), ag_ (apc (first := []) (cap := []) (vs := [I x8.Parent, I 0, (I (w64 (y3 - 1)))]) rfl Qe0 (Qb4 N x8.Parent 0 (w64 (y3 - 1)) _ hf12) rfl rfl (nlc nll (nlc nll (nlc nll nl0))) nll rfl), asb hb14 (amv rfl), trivial⟩ ?_
       refine Qbw (by kernel_rfl) ?_
       refine wx tbk [] trivial ?_
       refine Qaf ?_
       refine Qax ?_
       refine Qai ?_
       refine Qai ?_
       refine Qax ?_
       refine Qai ?_
       obtain rfl := osi h
       exact fend ⟨[B false], ⟨rot (by kernel_rfl), trivial⟩, rfl⟩ nll
      ·replace h := Qau hb14 h
       obtain ⟨x16, hf15, h⟩ := bno h
       rcases bft ((!x16)) with hb17 | hb17
       ·replace h := Qat hb17 h
        refine wx tbk [(2, rp [(.tmp 40, (B ((decide (y3 > 0)))))] (B true)), (5, rp [(.tmp 41, B true), (.tmp 42, (Qej p0)), (.tmp 43, I y3)] (.dptr (Qad (x8)) 0)), (10, rp [(.tmp 41, B true), fu 27, (.tmp 46, I x8.Parent), ci 0, (.tmp 48, (I (w64 (y3 - 1))))] (B x13)), (13, rp [(.tmp 51, (B ((!x13))))] (B false)), (16, rp [(.tmp 52, B false), (.tmp 53, (Qej p0)), (.tmp 54, I y3)] (.dptr (Qad (x8)) 0)), (19, rp [(.tmp 52, B false), fu 27, (.tmp 57, I x8.Loss), ci 0, ci 1000000000] (B x16)), (22, rp [(.tmp 60, (B ((!x16))))] (B true))] ⟨asb hb7 (amv rfl), ag_ (aid rfl Try.underlying22 ti56 rfl rfl hi10 (mgt Qad hj11) rfl), ag_ (apc (first := []) (cap := []) (vs := [I x8.Parent, I 0, (I (w64 (y3 - 1)))]) rfl Qe0 (Qb4 N x8.Parent 0 (w64 (y3 - 1)) _ hf12) rfl rfl (nlc nll (nlc nll (nlc nll nl0))) nll rfl), asb hb14 (amv rfl), ag_ (aid rfl Try.underlying22 ti56 rfl rfl hi10 (mgt Qad hj11) rfl), ag_ (apc (first := []) (cap := []) (vs := [I x8.Loss, I 0, I 1000000000]) rfl Qe0 (Qb4 N x8.Loss 0 1000000000 _ hf15) rfl rfl (nlc nll (nlc nll (nlc nll nl0))) nll rfl), asb hb17 (amv rfl), trivial⟩ ?_
        refine Qbw (by kernel_rfl) ?_
        refine wx tbk [] trivial ?_
        refine Qaf ?_
        refine Qax ?_
        refine Qai ?_
        refine Qai ?_
        refine Qax ?_
        refine Qai ?_
        obtain rfl := osi h
        exact fend ⟨[B false], ⟨rot (by kernel_rfl), trivial⟩, rfl⟩ nll
       ·replace h := Qau hb17 h
        obtain ⟨x19, hf18, h⟩ := bno h
        rcases bft ((!x19)) with hb20 | hb20
        ·replace h := Qat hb20 h
         refine wx tbk [(2, rp [(.tmp 40, (B ((decide (y3 > 0)))))] (B true)), (5, rp [(.tmp 41, B true), (.tmp 42, (Qej p0)), (.tmp 43, I y3)] (.dptr (Qad (x8)) 0)), (10, rp [(.tmp 41, B true), fu 27, (.tmp 46, I x8.Parent), ci 0, (.tmp 48, (I (w64 (y3 - 1))))] (B x13)), (13, rp [(.tmp 51, (B ((!x13))))] (B false)), (16, rp [(.tmp 52, B false), (.tmp 53, (Qej p0)), (.tmp 54, I y3)] (.dptr (Qad (x8)) 0)), (19, rp [(.tmp 52, B false), fu 27, (.tmp 57, I x8.Loss), ci 0, ci 1000000000] (B x16)), (22, rp [(.tmp 60, (B ((!x16))))] (B false)), (25, rp [(.tmp 61, B false), (.tmp 62, (Qej p0)), (.tmp 63, I y3)] (.dptr (Qad (x8)) 0)), (28, rp [(.tmp 61, B false), fu 27, (.tmp 66, I x8.Limit), ci 0, ci 1000000000] (B x19)), (31, rp [(.tmp 69, (B ((!x19))))] (B true))] ⟨asb hb7 (amv rfl), ag_ (aid rfl Try.underlying22 ti56 rfl rfl hi10 (mgt Qad hj11) rfl), ag_ (apc (first := []) (cap := []) (vs := [I x8.Parent, I 0, (I (w64 (y3 - 1)))]) rfl Qe0 (Qb4 N x8.Parent 0 (w64 (y3 - 1)) _ hf12) rfl rfl (nlc nll (nlc nll (nlc nll nl0))) nll rfl), asb hb14 (amv rfl), ag_ (aid rfl Try.underlying22 ti56 rfl rfl hi10 (mgt Qad hj11) rfl), ag_ (apc (first := []) (cap := []) (vs := [I x8.Loss, I 0, I 1000000000]) rfl Qe0 (Qb4 N x8.Loss 0 1000000000 _ hf15) rfl rfl (nlc nll (nlc nll (nlc nll nl0))) nll rfl), asb hb17 (amv rfl), ag_ (aid rfl Try.underlying22 ti56 rfl rfl hi10 (mgt Qad hj11) rfl), ag_ (apc (first := []) (cap := []) (vs := [I x8.Limit, I 0, I 1000000000]) rfl Qe0 (Qb4 N x8.Limit 0 1000000000 _ hf18) rfl rfl (nlc nll (nlc nll (nlc nll nl0))) nll rfl), asb hb20 (amv rfl), trivial⟩ ?_
         refine Qbw (by kernel_rfl) ?_
         refine wx tbk [] trivial ?_
         refine Qaf ?_
         refine Qax ?_
         refine Qai ?_
         refine Qai ?_
         refine Qax ?_
         refine Qai ?_
         obtain rfl := osi h
         exact fend ⟨[B false], ⟨rot (by kernel_rfl), trivial⟩, rfl⟩ nll
        ·replace h := Qau hb20 h
         obtain ⟨x22, hf21, h⟩ := bno h
         refine wx tbk [(2, rp [(.tmp 40, (B ((decide (y3 > 0)))))] (B true)), (5, rp [(.tmp 41, B true), (.tmp 42, (Qej p0)), (.tmp 43, I y3)] (.dptr (Qad (x8)) 0)), (10, rp [(.tmp 41, B true), fu 27, (.tmp 46, I x8.Parent), ci 0, (.tmp 48, (I (w64 (y3 - 1))))] (B x13)), (13, rp [(.tmp 51, (B ((!x13))))] (B false)), (16, rp [(.tmp 52, B false), (.tmp 53, (Qej p0)), (.tmp 54, I y3)] (.dptr (Qad (x8)) 0)), (19, rp [(.tmp 52, B false), fu 27, (.tmp 57, I x8.Loss), ci 0, ci 1000000000] (B x16)), (22, rp [(.tmp 60, (B ((!x16))))] (B false)), (25, rp [(.tmp 61, B false), (.tmp 62, (Qej p0)), (.tmp 63, I y3)] (.dptr (Qad (x8)) 0)), (28, rp [(.tmp 61, B false), fu 27, (.tmp 66, I x8.Limit), ci 0, ci 1000000000] (B x19)), (31, rp [(.tmp 69, (B ((!x19))))] (B false)), (34, rp [(.tmp 70, B false), (.tmp 71, (Qej p0)), (.tmp 72, I y3)] (.dptr (Qad (x8)) 0)), (37, rp [(.tmp 70, B false), fu 27, (.tmp 75, I x8.Rank), ci 0, ci 100] (B x22))] ⟨asb hb7 (amv rfl), ag_ (aid rfl Try.underlying22 ti56 rfl rfl hi10 (mgt Qad hj11) rfl), ag_ (apc (first := []) (cap := []) (vs := [I x8.Parent, I 0, (I (w64 (y3 - 1)))]) rfl Qe0 (Qb4 N x8.Parent 0 (w64 (y3 - 1)) _ hf12) rfl rfl (nlc nll (nlc nll (nlc nll nl0))) nll rfl), asb hb14 (amv rfl), ag_ (aid rfl Try.underlying22 ti56 rfl rfl hi10 (mgt Qad hj11) rfl), ag_ (apc (first := []) (cap := []) (vs := [I x8.Loss, I 0, I 1000000000]) rfl Qe0 (Qb4 N x8.Loss 0 1000000000 _ hf15) rfl rfl (nlc nll (nlc nll (nlc nll nl0))) nll rfl), asb hb17 (amv rfl), ag_ (aid rfl Try.underlying22 ti56 rfl rfl hi10 (mgt Qad hj11) rfl), ag_ (apc (first := []) (cap := []) (vs := [I x8.Limit, I 0, I 1000000000]) rfl Qe0 (Qb4 N x8.Limit 0 1000000000 _ hf18) rfl rfl (nlc nll (nlc nll (nlc nll nl0))) nll rfl), asb hb20 (amv rfl), ag_ (aid rfl Try.underlying22 ti56 rfl rfl hi10 (mgt Qad hj11) rfl), ag_ (apc (first := []) (cap := []) (vs := [I x8.Rank, I 0, I 100]) rfl Qe0 (Qb4 N x8.Rank 0 100 _ hf21) rfl rfl (nlc nll (nlc nll (nlc nll nl0))) nll rfl), trivial⟩ ?_
         rcases bft ((!x22)) with hc23 | hc23
         ·replace h := Qat hc23 h
          refine wft hc23 (by kernel_rfl) ?_
          refine wx tbk [] trivial ?_
          refine Qaf ?_
          refine Qax ?_
          refine Qai ?_
          refine Qai ?_
          refine Qax ?_
          refine Qai ?_
          obtain rfl := osi h
          exact fend ⟨[B false], ⟨rot (by kernel_rfl), trivial⟩, rfl⟩ nll
         ·replace h := Qau hc23 h
          refine wfn hc23 (by kernel_rfl) ?_
          refine Qah ?_
          refine bln ?_
          refine thn ?_
          refine wx1 tbk [] trivial ?_
          refine thn ?_
          exact arm (mto (n := 79) [(0, (Qej p0)), (3, (I (w64 (y3 + 1))))] [] [] hφ0 (pc (.rn (.plain _ (nld Qab _))) (pc rwl pn)) qn) (ih (w64 (y3 + 1)) h)
     ·replace h := Qau hb7 h
      obtain ⟨x24, hg25, h⟩ := bno h
      obtain ⟨hi26, hj27⟩ := gsm hg25
      obtain ⟨x29, hf28, h⟩ := bno h
      rcases bft ((!x29)) with hb30 | hb30
      ·replace h := Qat hb30 h
       refine wx tbk [(2, rp [(.tmp 40, (B ((decide (y3 > 0)))))] (B false)), (16, rp [(.tmp 52, B false), (.tmp 53, (Qej p0)), (.tmp 54, I y3)] (.dptr (Qad (x24)) 0)), (19, rp [(.tmp 52, B false), fu 27, (.tmp 57, I x24.Loss), ci 0, ci 1000000000] (B x29)), (22, rp [(.tmp 60, (B ((!x29))))] (B true))] ⟨asb hb7 (amv rfl), ag_ (aid rfl Try.underlying22 ti56 rfl rfl hi26 (mgt Qad hj27) rfl), ag_ (apc (first := []) (cap := []) (vs := [I x24.Loss, I 0, I 1000000000]) rfl Qe0 (Qb4 N x24.Loss 0 1000000000 _ hf28) rfl rfl (nlc nll (nlc nll (nlc nll nl0))) nll rfl), asb hb30 (amv rfl), trivial⟩ ?_
       refine Qbw (by kernel_rfl) ?_
       refine wx tbk [] trivial ?_
       refine Qaf ?_
       refine Qax ?_
       refine Qai ?_
       refine Qai ?_
       refine Qax ?_
       refine Qai ?_
       obtain rfl := osi h
       exact fend ⟨[B false], ⟨rot (by kernel_rfl), trivial⟩, rfl⟩ nll
      ·replace h := Qau hb30 h
       obtain ⟨x32, hf31, h⟩ := bno h
       rcases bft ((!x32)) with hb33 | hb33
       ·replace h := Qat hb33 h
        refine wx tbk [(2, rp [(.tmp 40, (B ((decide (y3 > 0)))))] (B false)), (16, rp [(.tmp 52, B false), (.tmp 53, (Qej p0)), (.tmp 54, I y3)] (.dptr (Qad (x24)) 0)), (19, rp [(.tmp 52, B false), fu 27, (.tmp 57, I x24.Loss), ci 0, ci 1000000000] (B x29)), (22, rp [(.tmp 60, (B ((!x29))))] (B false)), (25, rp [(.tmp 61, B false), (.tmp 62, (Qej p0)), (.tmp 63, I y3)] (.dptr (Qad (x24)) 0)), (28, rp [(.tmp 61, B false), fu 27, (.tmp 66, I x24.Limit), ci 0, ci 1000000000] (B x32)), (31, rp [(.tmp 69, (B ((!x32))))] (B true))] ⟨asb hb7 (amv rfl), ag_ (aid rfl Try.underlying22 ti56 rfl rfl hi26 (mgt Qad hj27) rfl), ag_ (apc (first := []) (cap := []) (vs := [I x24.Loss, I 0, I 1000000000]) rfl Qe0 (Qb4 N x24.Loss 0 1000000000 _ hf28) rfl rfl (nlc nll (nlc nll (nlc nll nl0))) nll rfl), asb hb30 (amv rfl), ag_ (aid rfl Try.underlying22 ti56 rfl rfl hi26 (mgt Qad hj27) rfl), ag_ (apc (first := []) (cap := []) (vs := [I x24.Limit, I 0, I 1000000000]) rfl Qe0 (Qb4 N x24.Limit 0 1000000000 _ hf31) rfl rfl (nlc nll (nlc nll (nlc nll nl0))) nll rfl), asb hb33 (amv rfl), trivial⟩ ?_
        refine Qbw (by kernel_rfl) ?_
        refine wx tbk [] trivial ?_
        refine Qaf ?_
        refine Qax ?_
        refine Qai ?_
        refine Qai ?_
        refine Qax ?_
        refine Qai ?_
        obtain rfl := osi h
        exact fend ⟨[B false], ⟨rot (by kernel_rfl), trivial⟩, rfl⟩ nll
       ·replace h := Qau hb33 h
        obtain ⟨x35, hf34, h⟩ := bno h
        refine wx tbk [(2, rp [(.tmp 40, (B ((decide (y3 > 0)))))] (B false)), (16, rp [(.tmp 52, B false), (.tmp 53, (Qej p0)), (.tmp 54, I y3)] (.dptr (Qad (x24)) 0)), (19, rp [(.tmp 52, B false), fu 27, (.tmp 57, I x24.Loss), ci 0, ci 1000000000] (B x29)), (22, rp [(.tmp 60, (B ((!x29))))] (B false)), (25, rp [(.tmp 61, B false), (.tmp 62, (Qej p0)), (.tmp 63, I y3)] (.dptr (Qad (x24)) 0)), (28, rp [(.tmp 61, B false), fu 27, (.tmp 66, I x24.Limit), ci 0, ci 1000000000] (B x32)), (31, rp [(.tmp 69, (B ((!x32))))] (B false)), (34, rp [(.tmp 70, B false), (.tmp 71, (Qej p0)), (.tmp 72, I y3)] (.dptr (Qad (x24)) 0)), (37, rp [(.tmp 70, B false), fu 27, (.tmp 75, I x24.Rank), ci 0, ci 100] (B x35))] ⟨asb hb7 (amv rfl), ag_ (aid rfl Try.underlying22 ti56 rfl rfl hi26 (mgt Qad hj27) rfl), ag_ (apc (first := []) (cap := []) (vs := [I x24.Loss, I 0, I 1000000000]) rfl Qe0 (Qb4 N x24.Loss 0 1000000000 _ hf28) rfl rfl (nlc nll (nlc nll (nlc nll nl0))) nll rfl), asb hb30 (amv rfl), ag_ (aid rfl Try.underlying22 ti56 rfl rfl hi26 (mgt Qad hj27) rfl), ag_ (apc (first := []) (cap := []) (vs := [I x24.Limit, I 0, I 1000000000]) rfl Qe0 (Qb4 N x24.Limit 0 1000000000 _ hf31) rfl rfl (nlc nll (nlc nll (nlc nll nl0))) nll rfl), asb hb33 (amv rfl), ag_ (aid rfl Try.underlying22 ti56 rfl rfl hi26 (mgt Qad hj27) rfl), ag_ (apc (first := []) (cap := []) (vs := [I x24.Rank, I 0, I 100]) rfl Qe0 (Qb4 N x24.Rank 0 100 _ hf34) rfl rfl (nlc nll (nlc nll (nlc nll nl0))) nll rfl), trivial⟩ ?_
        rcases bft ((!x35)) with hc36 | hc36
        ·replace h := Qat hc36 h
         refine wft hc36 (by kernel_rfl) ?_
         refine wx tbk [] trivial ?_
         refine Qaf ?_
         refine Qax ?_
         refine Qai ?_
         refine Qai ?_
         refine Qax ?_
         refine Qai ?_
         obtain rfl := osi h
         exact fend ⟨[B false], ⟨rot (by kernel_rfl), trivial⟩, rfl⟩ nll
        ·replace h := Qau hc36 h
         refine wfn hc36 (by kernel_rfl) ?_
         refine Qah ?_
         refine bln ?_
         refine thn ?_
         refine wx1 tbk [] trivial ?_
         refine thn ?_
         exact arm (mto (n := 79) [(0, (Qej p0)), (3, (I (w64 (y3 + 1))))] [] [] hφ0 (pc (.rn (.plain _ (nld Qab _))) (pc rwl pn)) qn) (ih (w64 (y3 + 1)) h)
    ·replace h := Qau hc6 h
     refine wfn hc6 (by kernel_rfl) ?_
     refine Qbe ?_
     refine Qap ?_
     refine Qap ?_
     refine Qbd rfl ?_
     refine thn ?_
     exact ⟨(), h, (mto (n := 79) [] [] [] hφ0 pn qn)⟩
  ·skip
   rcases bft ((decide ((p0.length : Int) < 1))) with hb37 | hb37
   ·replace h := Qat hb37 h
    refine wx tbk [(1, rp [(.tmp 4, (Qej p0))] (I ((p0.length : Int)))), (3, rp [(.tmp 6, (B ((decide ((p0.length : Int) < 1)))))] (B true))] ⟨alm (c := Qad) (l := p0) (aln rfl Try.underlying22 rfl), asb hb37 (amv rfl), trivial⟩ ?_
    refine Qbw (by kernel_rfl) ?_
    refine wx tbk [] trivial ?_
    refine Qaf ?_
    refine Qai ?_
    obtain rfl := osi h
    exact fend ⟨[B false], ⟨rot (by kernel_rfl), trivial⟩, rfl⟩ nll
   ·replace h := Qau hb37 h
    rcases bft ((decide ((p0.length : Int) > 30))) with hb38 | hb38
    ·replace h := Qat hb38 h
     refine wx tbk [(1, rp [(.tmp 4, (Qej p0))] (I ((p0.length : Int)))), (3, rp [(.tmp 6, (B ((decide ((p0.length : Int) < 1)))))] (B false)), (5, rp [(.tmp 7, B false), (.tmp 8, (Qej p0))] (I ((p0.length : Int)))), (8, rp [(.tmp 11, (B ((decide ((p0.length : Int) > 30)))))] (B true))] ⟨alm (c := Qad) (l := p0) (aln rfl Try.underlying22 rfl), asb hb37 (amv rfl), ag_ (alm (c := Qad) (l := p0) (aln rfl Try.underlying22 rfl)), asb hb38 (amv rfl), trivial⟩ ?_
     refine Qbw (by kernel_rfl) ?_
     refine wx tbk [] trivial ?_
     refine Qaf ?_
     refine Qai ?_
     obtain rfl := osi h
     exact fend ⟨[B false], ⟨rot (by kernel_rfl), trivial⟩, rfl⟩ nll
    ·replace h := Qau hb38 h
     obtain ⟨x39, hg40, h⟩ := bno h
     obtain ⟨hi41, hj42⟩ := gsm hg40
     rcases bft ((x39.Parent != (-1))) with hb43 | hb43
     ·replace h := Qat hb43 h
      refine wx tbk [(1, rp [(.tmp 4, (Qej p0))] (I ((p0.length : Int)))), (3, rp [(.tmp 6, (B ((decide ((p0.length : Int) < 1)))))] (B false)), (5, rp [(.tmp 7, B false), (.tmp 8, (Qej p0))] (I ((p0.length : Int)))), (8, rp [(.tmp 11, (B ((decide ((p0.length : Int) > 30)))))] (B false)), (10, rp [(.tmp 12, B false), (.tmp 13, (Qej p0)), ci 0] (.dptr (Qad (x39)) 0)), (15, rp [(.tmp 18, (B ((x39.Parent != (-1)))))] (B true))] ⟨alm (c := Qad) (l := p0) (aln rfl Try.underlying22 rfl), asb hb37 (amv rfl), ag_ (alm (c := Qad) (l := p0) (aln rfl Try.underlying22 rfl)), asb hb38 (amv rfl), ag_ (aid rfl Try.underlying22 ti56 rfl rfl hi41 (mgt Qad hj42) rfl), asb hb43 (amv rfl), trivial⟩ ?_
      refine Qbw (by kernel_rfl) ?_
      refine wx tbk [] trivial ?_
      refine Qaf ?_
      refine Qai ?_
      obtain rfl := osi h
      exact fend ⟨[B false], ⟨rot (by kernel_rfl), trivial⟩, rfl⟩ nll
     ·replace h := Qau hb43 h
      rcases bft ((x39.Loss != 0)) with hb44 | hb44
      ·replace h := Qat hb44 h
       refine wx tbk [(1, rp [(.tmp 4, (Qej p0))] (I ((p0.length : Int)))), (3, rp [(.tmp 6, (B ((decide ((p0.length : Int) < 1)))))] (B false)), (5, rp [(.tmp 7, B false), (.tmp 8, (Qej p0))] (I ((p0.length : Int)))), (8, rp [(.tmp 11, (B ((decide ((p0.length : Int) > 30)))))] (B false)), (10, rp [(.tmp 12, B false), (.tmp 13, (Qej p0)), ci 0] (.dptr (Qad (x39)) 0)), (15, rp [(.tmp 18, (B ((x39.Parent != (-1)))))] (B false)), (17, rp [(.tmp 19, B false), (.tmp 20, (Qej p0)), ci 0] (.dptr (Qad (x39)) 0)), (22, rp [(.tmp 25, (B ((x39.Loss != 0))))] (B true))] ⟨alm (c := Qad) (l := p0) (aln rfl Try.underlying22 rfl), asb hb37 (amv rfl), ag_ (alm (c := Qad) (l := p0) (aln rfl Try.underlying22 rfl)), asb hb38 (amv rfl), ag_ (aid rfl Try.underlying22 ti56 rfl rfl hi41 (mgt Qad hj42) rfl), asb hb43 (amv rfl), ag_ (aid rfl Try.underlying22 ti56 rfl rfl hi41 (mgt Qad hj42) rfl), asb hb44 (amv rfl), trivial⟩ ?_
       refine Qbw (by kernel_rfl) ?_
       refine wx tbk [] trivial ?_
       refine Qaf ?_
       refine Qai ?_
       obtain rfl := osi h
       exact fend ⟨[B false], ⟨rot (by kernel_rfl), trivial⟩, rfl⟩ nll
      ·replace h := Qau hb44 h
       refine wx tbk [(1, rp [(.tmp 4, (Qej p0))] (I ((p0.length : Int)))), (3, rp [(.tmp 6, (B ((decide ((p0.length : Int) < 1)))))] (B false)), (5, rp [(.tmp 7, B false), (.tmp 8, (Qej p0))] (I ((p0.length : Int)))), (8, rp [(.tmp 11, (B ((decide ((p0.length : Int) > 30)))))] (B false)), (10, rp [(.tmp 12, B false), (.tmp 13, (Qej p0)), ci 0] (.dptr (Qad (x39)) 0)), (15, rp [(.tmp 18, (B ((x39.Parent != (-1)))))] (B false)), (17, rp [(.tmp 19, B false), (.tmp 20, (Qej p0)), ci 0] (.dptr (Qad (x39)) 0)), (22, rp [(.tmp 25, (B ((x39.Loss != 0))))] (B false)), (24, rp [(.tmp 26, B false), (.tmp 27, (Qej p0)), ci 0] (.dptr (Qad (x39)) 0))] ⟨alm (c := Qad) (l := p0) (aln rfl Try.underlying22 rfl), asb hb37 (amv rfl), ag_ (alm (c := Qad) (l := p0) (aln rfl Try.underlying22 rfl)), asb hb38 (amv rfl), ag_ (aid rfl Try.underlying22 ti56 rfl rfl hi41 (mgt Qad hj42) rfl), asb hb43 (amv rfl), ag_ (aid rfl Try.underlying22 ti56 rfl rfl hi41 (mgt Qad hj42) rfl), asb hb44 (amv rfl), ag_ (aid rfl Try.underlying22 ti56 rfl rfl hi41 (mgt Qad hj42) rfl), trivial⟩ ?_
       rcases bft ((x39.Limit != 0)) with hc45 | hc45
       ·replace h := Qat hc45 h
        refine wft hc45 (by kernel_rfl) ?_
        refine wx tbk [] trivial ?_
        refine Qaf ?_
        refine Qai ?_
        obtain rfl := osi h
        exact fend ⟨[B false], ⟨rot (by kernel_rfl), trivial⟩, rfl⟩ nll
       ·replace h := Qau hc45 h
        refine wfn hc45 (by kernel_rfl) ?_
        refine Qah ?_
        refine thn ?_
        exact ⟨(), h, (mto (n := 79) [(0, (Qej p0))] [] [] hφ0 (pc (.rn (.plain _ (nld Qab _))) pn) qn)⟩
def Qdp (N : Nat) (k1 : Unit → Option Bool) (p1 : (List Int)) : Nat → Int → Option Bool
  | 0, _ => none
  | n4 + 1, y2 =>
    bif (decide (y2 < (p1.length : Int))) then
     (getI p1 y2).bind fun x6 =>
     (Qee N x6 0 1000000000).bind fun x11 =>
     bif (!x11) then
      some false
     else
      Qdp N k1 p1 n4 (w64 (y2 + 1))
    else
     k1 ()
def Qha (N : Nat) (p0 : (List GNode)) (p1 : (List Int)) : Option Bool :=
  Qck (fun _ =>
    some ((p1.length : Int) == (p0.length : Int))) fun k1 : Unit → Option Bool =>
  Qdp N k1 p1 N 0
def Qqg (p0 : (List GNode)) : AV := .dat 4 ((p0 : List GNode).map Qad)
def Qnh (p1 : (List Int)) : AV := .dat 1 ((p1 : List Int).map Qac)
set_option maxRecDepth 100000 in
set_option maxHeartbeats 4000000 in
theorem Qje (N : Nat) (p0 : (List GNode)) (p1 : (List Int)) (r : Bool) (h : Qha N p0 p1 = some r) : Spec Try.prog 26 [(.dat 4 (p0.map Qad)), (.dat 1 (p1.map Qac))] [] (B r) [] := by
  refine Qaj Try.func26 rfl 0 (nle rfl) (fun X φ0 w0 hφ0 => ?_)
  unfold Qha at h
  refine wx tbk [] trivial ?_
  obtain ⟨k1, hk_k1, h⟩ := jko h
  refine wjn (τ := Unit) (fun t => k1 t = some r) (fun _ => ⟨mk 23 [(0, (Qqg p0)), (1, (Qnh p1))], []⟩) (fun t h => ?_) ?_
  ·subst hk_k1
   refine wx tbk [(1, rp [(.tmp 18, (Qnh p1))] (I ((p1.length : Int)))), (3, rp [(.tmp 20, (Qqg p0))] (I ((p0.length : Int))))] ⟨alm (c := Qac) (l := p1) (aln rfl Try.underlying23 rfl), alm (c := Qad) (l := p0) (aln rfl Try.underlying22 rfl), trivial⟩ ?_
   refine Qaf ?_
   obtain rfl := osi h
   exact fend ⟨[(B (((p1.length : Int) == (p0.length : Int))))], ⟨rot (by kernel_rfl), trivial⟩, rfl⟩ nll
  ·skip
   refine wx tbk [] trivial ?_
   refine Qag ?_
   refine wmr (mto (n := 23) (l' := [(0, (Qqg p0)), (1, (Qnh p1)), (5, I 0)]) (own' := []) [(0, (Qqg p0)), (1, (Qnh p1)), (5, I 0)] [] [] hφ0 (pc (.rn (.plain _ (nld Qab _))) (pc (.rn (.plain _ (nld Qaa _))) (pc rwl pn))) qn) ?_
   refine Qcc (τ := Int) (fun n t => Qdp N k1 p1 n t = some r) (fun y2 => ⟨mk 23 [(0, (Qqg p0)), (1, (Qnh p1)), (5, I y2)], []⟩) (fun t h => by rw [Qdp] at h; cases h) (fun n4 ih y2 h => ?_) N (0) h
   rw [Qdp] at h
   skip
   refine wsq ?_
   refine wx tbk [(2, rp [(.tmp 7, (Qnh p1))] (I ((p1.length : Int))))] ⟨alm (c := Qac) (l := p1) (aln rfl Try.underlying23 rfl), trivial⟩ ?_
   rcases bft ((decide (y2 < (p1.length : Int)))) with hc5 | hc5
   ·replace h := Qat hc5 h
    refine wft hc5 (by kernel_rfl) ?_
    refine Qah ?_
    refine thn ?_
    refine wsq ?_
    refine Qag ?_
    obtain ⟨x6, hg7, h⟩ := bno h
    obtain ⟨hi8, hj9⟩ := gsm hg7
    obtain ⟨x11, hf10, h⟩ := bno h
    refine wx tbk [(2, rp [(.tmp 12, (Qnh p1)), (.tmp 13, I y2)] (.dptr (Qac (x6)) 0)), (4, rp [fu 27, (.tmp 15, I x6), ci 0, ci 1000000000] (B x11))] ⟨aid rfl Try.underlying23 ti3 rfl rfl hi8 (mgt Qac hj9) rfl, apc (first := []) (cap := []) (vs := [I x6, I 0, I 1000000000]) rfl Qe0 (Qb4 N x6 0 1000000000 _ hf10) rfl rfl (nlc nll (nlc nll (nlc nll nl0))) nll rfl, trivial⟩ ?_
    rcases bft ((!x11)) with hc12 | hc12
    ·replace h := Qat hc12 h
     refine wft hc12 (by kernel_rfl) ?_
     refine wx tbk [] trivial ?_
     refine Qaf ?_
     refine Qax ?_
     refine Qai ?_
     refine Qai ?_
     refine Qax ?_
     refine Qai ?_
     obtain rfl := osi h
     exact fend ⟨[B false], ⟨rot (by kernel_rfl), trivial⟩, rfl⟩ nll
    ·replace h := Qau hc12 h
     refine wfn hc12 (by kernel_rfl) ?_
     refine Qah ?_
     refine bln ?_
     refine thn ?_
     refine wx1 tbk [] trivial ?_
     refine thn ?_
     exact arm (mto (n := 23) [(0, (Qqg p0)), (1, (Qnh p1)), (5, (I (w64 (y2 + 1))))] [] [] hφ0 (pc (.rn (.plain _ (nld Qab _))) (pc (.rn (.plain _ (nld Qaa _))) (pc rwl pn))) qn) (ih (w64 (y2 + 1)) h)
   ·replace h := Qau hc5 h
    refine wfn hc5 (by kernel_rfl) ?_
    refine Qbe ?_
    refine Qap ?_
    refine Qap ?_
    refine Qbd rfl ?_
    refine thn ?_
    exact ⟨(), h, (mto (n := 23) [(0, (Qqg p0)), (1, (Qnh p1))] [] [] hφ0 (pc (.rn (.plain _ (nld Qab _))) (pc (.rn (.plain _ (nld Qaa _))) pn)) qn)⟩
def Qdq (N : Nat) (p0 : (List GNode)) (k2 : (List GNode) → Option (List GNode)) : Nat → (List GNode) → Int → Option (List GNode)
  | 0, _, _ => none
  | n7 + 1, y3, y4 =>
    bif (decide (y4 < (p0.length : Int))) then
     (getI p0 y4).bind fun x9 =>
     chk (decide ((y3.length + ([x9]).length) * 32 ≤ 140737488355328)) <|
     Qdq N p0 k2 n7 (y3 ++ ([x9])) (w64 (y4 + 1))
    else
     k2 (y3)
def Qfb (N : Nat) (p0 : (List GNode)) : Option (List GNode) :=
  Qck (fun y1 =>
    some y1) fun k2 : (List GNode) → Option (List GNode) =>
  Qdq N p0 k2 N ([]) 0
def Qng (p0 : (List GNode)) : AV := .dat 4 ((p0 : List GNode).map Qad)
def Qur (y3 : (List GNode)) : AV := .acc 0 141 4 ((y3 : List GNode).map Qad)
def Quq (x9 : GNode) : AV := .agg [(I (x9.Parent)), (I (x9.Loss)), (I (x9.Limit)), (I (x9.Rank))]
set_option maxRecDepth 100000 in
set_option maxHeartbeats 4000000 in
theorem Qhp (N : Nat) (p0 : (List GNode)) (r : (List GNode)) (h : Qfb N p0 = some r) : Spec Try.prog 23 [(.dat 4 (p0.map Qad))] [] (.dat 4 (r.map Qad)) [] := by
  refine Qaj Try.func23 rfl 0 (nle rfl) (fun X φ0 w0 hφ0 => ?_)
  unfold Qfb at h
  refine wx tbk [] trivial ?_
  refine wx tbk [] trivial ?_
  obtain ⟨k2, hk_k2, h⟩ := jko h
  refine wjn (τ := (List GNode)) (fun t => k2 t = some r) (fun y1 => ⟨mk 36 [(3, (.acc 0 141 4 ((y1 : List GNode).map Qad)))], [.tok]⟩) (fun y1 h => ?_) ?_
  ·subst hk_k2
   refine wx tbk [] trivial ?_
   refine Qaf ?_
   obtain rfl := osi h
   exact fend ⟨[(.dat 4 ((y1 : List GNode).map Qad))], ⟨Qiy (v := (.acc 0 141 4 ((y1 : List GNode).map Qad))) (rot (by kernel_rfl)) Less.acc, trivial⟩, rfl⟩ (nld Qab _)
  ·skip
   refine wx tbk [] trivial ?_
   refine Qag ?_
   refine wmr (Mor.trans (mor_nil 0 141 4 3 (by kernel_rfl) (by kernel_rfl)) (mto (n := 36) (l' := [(0, (Qng p0)), (3, (.acc 0 141 4 ((([]) : List GNode).map Qad))), (4, I 0)]) (own' := [.tok]) [(0, (Qng p0)), (3, (.acc 0 141 4 (([] : List GNode).map Qad))), (4, I 0)] [0] [.tok] hφ0 (pc (.rn (.plain _ (nld Qab _))) (pc (.rn (Qqz rfl (Qh5 Qab _))) (pc rwl pn))) (qc .tok qn))) ?_
   refine Qcc (τ := (List GNode) × Int) (fun n t => Qdq N p0 k2 n t.1 t.2 = some r) (fun ⟨y3, y4⟩ => ⟨mk 36 [(0, (Qng p0)), (3, (Qur y3)), (4, I y4)], [.tok]⟩) (fun t h => by rw [Qdq] at h; cases h) (fun n7 ih t h => ?_) N ([], 0) h
   obtain ⟨y3, y4⟩ := t
   rw [Qdq] at h
   skip
   refine wsq ?_
   refine wx tbk [(2, rp [(.tmp 6, (Qng p0))] (I ((p0.length : Int))))] ⟨alm (c := Qad) (l := p0) (aln rfl Try.underlying22 rfl), trivial⟩ ?_
   rcases bft ((decide (y4 < (p0.length : Int)))) with hc8 | hc8
   ·replace h := Qat hc8 h
    refine wft hc8 (by kernel_rfl) ?_
    refine Qah ?_
    refine thn ?_
    refine wsq ?_
    refine Qag ?_
    obtain ⟨x9, hg10, h⟩ := bno h
    obtain ⟨hi11, hj12⟩ := gsm hg10
    obtain ⟨ha13, h⟩ := cko h
    refine wy1 tbk [(3, rp [(.tmp 12, (Qng p0)), (.tmp 13, I y4)] (.dptr (Qad (x9)) 0)), (8, rp [(.tmp 17, (Qng p0)), (.tmp 18, I y4)] (.dptr (Qad (x9)) 0)), (13, rp [(.tmp 22, (Qng p0)), (.tmp 23, I y4)] (.dptr (Qad (x9)) 0)), (18, rp [(.tmp 27, (Qng p0)), (.tmp 28, I y4)] (.dptr (Qad (x9)) 0)), (21, rp [(.tmp 16, I x9.Parent), (.tmp 21, I x9.Loss), (.tmp 26, I x9.Limit), (.tmp 31, I x9.Rank)] (Quq x9)), (22, rp [(.tmp 32, (Quq x9))] (.dat 4 (([x9] : List GNode).map Qad))), (23, ⟨[(.tmp 11, (Qur y3)), (.tmp 33, (.dat 4 (([x9] : List GNode).map Qad)))], [(0, .tok), (1, .unused)], (.acc 1 141 4 ((y3 ++ ([x9]) : List GNode).map Qad)), [(0, .dead), (1, .tok)], false⟩)] ⟨aid rfl Try.underlying22 ti56 rfl rfl hi11 (mgt Qad hj12) rfl, aid rfl Try.underlying22 ti56 rfl rfl hi11 (mgt Qad hj12) rfl, aid rfl Try.underlying22 ti56 rfl rfl hi11 (mgt Qad hj12) rfl, aid rfl Try.underlying22 ti56 rfl rfl hi11 (mgt Qad hj12) rfl, Qbx (vs := [I x9.Parent, I x9.Loss, I x9.Limit, I x9.Rank]) rfl Qvf Qpb rfl (by rfl) rfl, Qbp (vs := [(Quq x9)]) rfl Try.underlying31 Qhz Qpb rfl (by decide) rfl (by decide) (by rfl) (by rfl) (by rfl) rfl, Qmk rfl Try.underlying31 te141 (Base.acc _ _) rfl rfl (by rfl) (Qru Qad ha13) (Qrt Qad ha13 (by decide)) (Qrs Qad) rfl rfl, trivial⟩ ?_
    refine bln ?_
    refine thn ?_
    refine wx1 tbk [] trivial ?_
    refine thn ?_
    exact arm (mto (n := 36) [(0, (Qng p0)), (3, (.acc 1 141 4 ((y3 ++ ([x9]) : List GNode).map Qad))), (4, (I (w64 (y4 + 1))))] [1] [.tok] hφ0 (pc (.rn (.plain _ (nld Qab _))) (pc (.rn (Qqz rfl (Qh5 Qab _))) (pc rwl pn))) (qc .tok qn)) (ih (y3 ++ ([x9]), w64 (y4 + 1)) h)
   ·replace h := Qau hc8 h
    refine wfn hc8 (by kernel_rfl) ?_
    refine Qbe ?_
    refine Qap ?_
    refine Qap ?_
    refine Qbd rfl ?_
    refine thn ?_
    exact ⟨(y3), h, (mto (n := 36) [(3, (Qur y3))] [0] [.tok] hφ0 (pc (.rn (Qqz rfl (Qh5 Qab _))) pn) (qc .tok qn))⟩
def Qht (_N : Nat) (p0 : (List GNode)) (p1 : (List Int)) : Option Bool :=
  bif (decide ((p0.length : Int) ≤ 35)) then
   some (decide ((p1.length : Int) ≤ 35))
  else
   some false
set_option maxRecDepth 100000 in
set_option maxHeartbeats 4000000 in
theorem Qgx (N : Nat) (p0 : (List GNode)) (p1 : (List Int)) (r : Bool) (h : Qht N p0 p1 = some r) : Spec Try.prog 20 [(.dat 4 (p0.map Qad)), (.dat 1 (p1.map Qac))] [] (B r) [] := by
  refine Qaj Try.func20 rfl 0 (nle rfl) (fun X φ0 w0 hφ0 => ?_)
  unfold Qht at h
  refine wx tbk [] trivial ?_
  rcases bft ((decide ((p0.length : Int) ≤ 35))) with hb1 | hb1
  ·replace h := Qat hb1 h
   refine wx tbk [(1, rp [(.tmp 5, (.dat 4 ((p0 : List GNode).map Qad)))] (I ((p0.length : Int)))), (3, rp [(.tmp 7, (B ((decide ((p0.length : Int) ≤ 35)))))] (B true)), (5, rp [(.tmp 8, B true), (.tmp 9, (.dat 1 ((p1 : List Int).map Qac)))] (I ((p1.length : Int))))] ⟨alm (c := Qad) (l := p0) (aln rfl Try.underlying22 rfl), asb hb1 (amv rfl), ag_ (alm (c := Qac) (l := p1) (aln rfl Try.underlying23 rfl)), trivial⟩ ?_
   refine Qaf ?_
   obtain rfl := osi h
   exact fend ⟨[(B ((decide ((p1.length : Int) ≤ 35))))], ⟨rot (by kernel_rfl), trivial⟩, rfl⟩ nll
  ·replace h := Qau hb1 h
   refine wx tbk [(1, rp [(.tmp 5, (.dat 4 ((p0 : List GNode).map Qad)))] (I ((p0.length : Int)))), (3, rp [(.tmp 7, (B ((decide ((p0.length : Int) ≤ 35)))))] (B false))] ⟨alm (c := Qad) (l := p0) (aln rfl Try.underlying22 rfl), asb hb1 (amv rfl), trivial⟩ ?_
   refine Qaf ?_
   obtain rfl := osi h
   exact fend ⟨[B false], ⟨rot (by kernel_rfl), trivial⟩, rfl⟩ nll
end Go.Proofs.Ytgdepcgbjjgnfaa
