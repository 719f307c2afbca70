/-
  Functions of the program: what they compute, as plain functions, and that they do. No conditions.
-/
import Derived.Test.YtgdepcgbjjgnfaaXt
namespace Go.Proofs.Ytgdepcgbjjgnfaa
open Go.RowKit
def Qcw (_N : Nat) (p0 : Int) (p1 : Int) (p2 : Int) : Option Bool :=
  bif (decide (p1 ≤ p0)) then
   some (decide (p0 ≤ p2))
  else
   some false
set_option maxRecDepth 100000 in
set_option maxHeartbeats 4000000 in
theorem Qa0 (N : Nat) (p0 : Int) (p1 : Int) (p2 : Int) (r : Bool) (h : Qcw N p0 p1 p2 = some r) : Spec Try.prog 68 [(I p0), (I p1), (I p2)] [] (B r) [] := by
  refine Qaj Try.func68 rfl 0 (nle rfl) (fun X φ0 w0 hφ0 => ?_)
  unfold Qcw at h
  refine wx tbk [] trivial ?_
  rcases bft ((decide (p1 ≤ p0))) with hb1 | hb1
  ·replace h := Qar hb1 h
   refine wx tbk [(3, rp [(.tmp 9, (B ((decide (p1 ≤ p0)))))] (B true))] ⟨asb hb1 (amv rfl), trivial⟩ ?_
   refine Qai ?_
   obtain rfl := osi h
   exact fend ⟨[(B ((decide (p0 ≤ p2))))], ⟨rot (by kernel_rfl), trivial⟩, rfl⟩ nll
  ·replace h := Qas hb1 h
   refine wx tbk [(3, rp [(.tmp 9, (B ((decide (p1 ≤ p0)))))] (B false))] ⟨asb hb1 (amv rfl), trivial⟩ ?_
   refine Qai ?_
   obtain rfl := osi h
   exact fend ⟨[B false], ⟨rot (by kernel_rfl), trivial⟩, rfl⟩ nll
def Qe9 (N : Nat) (p0 : Int) : Option Bool :=
  (Qcw N p0 0 1000000000).bind fun x2 =>
  some x2
set_option maxRecDepth 100000 in
set_option maxHeartbeats 4000000 in
theorem Qb0 (N : Nat) (p0 : Int) (r : Bool) (h : Qe9 N p0 = some r) : Spec Try.prog 94 [(I p0)] [] (B r) [] := by
  refine Qaj Try.func94 rfl 0 (nle rfl) (fun X φ0 w0 hφ0 => ?_)
  unfold Qe9 at h
  refine wx tbk [] trivial ?_
  obtain ⟨x2, hf1, h⟩ := bno h
  refine wx tbk [(1, rp [fu 68, (.tmp 3, I p0), ci 0, ci 1000000000] (B x2))] ⟨apc (first := []) (cap := []) (vs := [I p0, I 0, I 1000000000]) rfl Qd7 (Qa0 N p0 0 1000000000 _ hf1) rfl rfl (nlc nll (nlc nll (nlc nll nl0))) nll rfl, trivial⟩ ?_
  refine Qai ?_
  obtain rfl := osi h
  exact fend ⟨[B x2], ⟨rot (by kernel_rfl), trivial⟩, rfl⟩ nll
def Qb8 (N : Nat) (p0 : (List GNode)) (k2 : Unit → Option Bool) : Nat → Int → Option Bool
  | 0, _ => none
  | n5 + 1, y3 =>
    bif (decide (y3 < (p0.length : Int))) then
     (getI p0 y3).bind fun x7 =>
     bif (decide (y3 > 0)) then
      (Qcw N x7.Parent 0 (w64 (y3 - 1))).bind fun x13 =>
      bif (!x13) then
       some false
      else
       (Qe9 N x7.Loss).bind fun x16 =>
       bif (!x16) then
        some false
       else
        (Qe9 N x7.Limit).bind fun x19 =>
        bif (!x19) then
         some false
        else
         (Qcw N x7.Rank 0 100).bind fun x22 =>
         bif (!x22) then
          some false
         else
          Qb8 N p0 k2 n5 (w64 (y3 + 1))
     else
      (Qe9 N x7.Loss).bind fun x25 =>
      bif (!x25) then
       some false
      else
       (Qe9 N x7.Limit).bind fun x28 =>
       bif (!x28) then
        some false
       else
        (Qcw N x7.Rank 0 100).bind fun x31 =>
        bif (!x31) then
         some false
        else
         Qb8 N p0 k2 n5 (w64 (y3 + 1))
    else
     k2 ()
def Qel (N : Nat) (p0 : (List GNode)) : Option Bool :=
  Qcv (fun _ =>
    Qcv (fun _ =>
      some true) fun k2 : Unit → Option Bool =>
    Qb8 N p0 k2 N 0) fun k1 : Unit → Option Bool =>
  (Qcw N (p0.length : Int) 1 30).bind fun x34 =>
  bif (!x34) then
   some false
  else
   (getI p0 0).bind fun x36 =>
   bif (x36.Parent != (-1)) then
    some false
   else
    bif (x36.Loss != 0) then
     some false
    else
     bif (x36.Limit != 0) then
      some false
     else
      k1 ()
def z3_0 (p0 : (List GNode)) : AV := .dat 4 ((p0 : List GNode).map Qac)
set_option maxRecDepth 100000 in
set_option maxHeartbeats 4000000 in
theorem Qhe (N : Nat) (p0 : (List GNode)) (r : Bool) (h : Qel N p0 = some r) : Spec Try.prog 80 [(.dat 4 (p0.map Qac))] [] (B r) [] := by
  refine Qaj Try.func80 rfl 0 (nle rfl) (fun X φ0 w0 hφ0 => ?_)
  unfold Qel at h
  refine wx tbk [] trivial ?_
  obtain ⟨k1, hk_k1, h⟩ := jko h
  refine wjn (τ := Unit) (fun t => k1 t = some r) (fun _ => ⟨mk 66 [(0, (z3_0 p0))], []⟩) (fun t h => ?_) ?_
  ·subst hk_k1
   obtain ⟨k2, hk_k2, h⟩ := jko h
   refine wjn (τ := Unit) (fun t => k2 t = some r) (fun _ => ⟨mk 66 [], []⟩) (fun t h => ?_) ?_
   ·subst hk_k2
    refine wx tbk [] trivial ?_
    refine Qai ?_
    obtain rfl := osi h
    exact fend ⟨[B true], ⟨rot (by kernel_rfl), trivial⟩, rfl⟩ nll
   ·skip
    refine wx tbk [(1, rp [(.tmp 30, (z3_0 p0))] (I ((p0.length : Int))))] ⟨alm (c := Qac) (l := p0) (aln rfl Try.underlying31 rfl), trivial⟩ ?_
    refine Qah ?_
    refine wmr (mto (n := 66) (l' := [(30, (z3_0 p0)), (31, (I ((p0.length : Int)))), (32, I 0)]) (own' := []) [(30, (z3_0 p0)), (31, (I ((p0.length : Int)))), (32, I 0)] [] [] hφ0 (pc (.rn (.plain _ (nld Qab _))) (pc rwl (pc rwl pn))) qn) ?_
    refine Qb7 (τ := Int) (fun n t => Qb8 N p0 k2 n t = some r) (fun y3 => ⟨mk 66 [(30, (z3_0 p0)), (31, (I ((p0.length : Int)))), (32, I y3)], []⟩) (fun t h => by rw [Qb8] at h; cases h) (fun n5 ih y3 h => ?_) N (0) h
    rw [Qb8] at h
    skip
    refine wx tbk [] trivial ?_
    refine wsq ?_
    rcases bft ((decide (y3 < (p0.length : Int)))) with hc6 | hc6
    ·replace h := Qar hc6 h
     refine wft hc6 (by kernel_rfl) ?_
     refine Qaf ?_
     refine thn ?_
     refine wsq ?_
     refine Qah ?_
     obtain ⟨x7, hg8, h⟩ := bno h
     obtain ⟨hi9, hj10⟩ := gsm hg8
     refine wx tbk [(1, rp [(.tmp 30, (z3_0 p0)), (.tmp 32, I y3)] (.dptr (Qac (x7)) 0))] ⟨aid rfl Try.underlying31 Qil rfl rfl hi9 (mgt Qac hj10) rfl, trivial⟩ ?_
     rcases bft ((decide (y3 > 0))) with hb11 | hb11
     ·replace h := Qar hb11 h
      obtain ⟨x13, hf12, h⟩ := bno h
      rcases bft ((!x13)) with hb14 | hb14
      ·replace h := Qar hb14 h
       refine wx tbk [(2, rp [(.tmp 38, (B ((decide (y3 > 0)))))] (B true)), (7, rp [(.tmp 39, B true), fu 68, (.tmp 41, I x7.Parent), ci 0, (.tmp 43, (I (w64 (y3 - 1))))] (B x13)), (10, rp [(.tmp 46, (B ((!x13))))] (B true))] ⟨asb hb11 (amv rfl), ag_ (apc (first := []) (cap := []) (vs := [I x7.Parent, I 0, (I (w64 (y3 - 1)))]) rfl Qd7 (Qa0 N x7.Parent 0 (w64 (y3 - 1)) _ hf12) rfl rfl (nlc nll (nlc nll (nlc nll nl0))) nll rfl), asb hb14 (amv rfl), trivial⟩ ?_
       refine Qbs (by kernel_rfl) ?_
       refine wx tbk [] trivial ?_
       refine Qai ?_
       refine Qaq ?_
       refine Qag ?_
       refine Qag ?_
       refine Qaq ?_
       refine Qag ?_
       obtain rfl := osi h
       exact fend ⟨[B false], ⟨rot (by kernel_rfl), trivial⟩, rfl⟩ nll
      ·replace h := Qas hb14 h
       obtain ⟨x16, hf15, h⟩ := bno h
       rcases bft ((!x16)) with hb17 | hb17
       ·replace h := Qar hb17 h
        refine wx tbk [(2, rp [(.tmp 38, (B ((decide (y3 > 0)))))] (B true)), (7, rp [(.tmp 39, B true), fu 68, (.tmp 41, I x7.Parent), ci 0, (.tmp 43, (I (w64 (y3 - 1))))] (B x13)), (10, rp [(.tmp 46, (B ((!x13))))] (B false)), (13, rp [(.tmp 47, B false), fu 94, (.tmp 49, I x7.Loss)] (B x16)), (16, rp [(.tmp 52, (B ((!x16))))] (B true))] ⟨asb hb11 (amv rfl), ag_ (apc (first := []) (cap := []) (vs := [I x7.Parent, I 0, (I (w64 (y3 - 1)))]) rfl Qd7 (Qa0 N x7.Parent 0 (w64 (y3 - 1)) _ hf12) rfl rfl (nlc nll (nlc nll (nlc nll nl0))) nll rfl), asb hb14 (amv rfl), ag_ (apc (first := []) (cap := []) (vs := [I x7.Loss]) rfl Qe7 (Qb0 N x7.Loss _ hf15) rfl rfl (nlc nll nl0) nll rfl), asb hb17 (amv rfl), trivial⟩ ?_
        refine Qbs (by kernel_rfl) ?_
        refine wx tbk [] trivial ?_
        refine Qai ?_
        refine Qaq ?_
        refine Qag ?_
        refine Qag ?_
        refine Qaq ?_
        refine Qag ?_
        obtain rfl := osi h
        exact fend ⟨[B false], ⟨rot (by kernel_rfl), trivial⟩, rfl⟩ nll
       ·replace h := Qas hb17 h
        obtain ⟨x19, hf18, h⟩ := bno h
        rcases bft ((!x19)) with hb20 | hb20
        ·replace h := Qar hb20 h
         refine wx tbk [(2, rp [(.tmp 38, (B ((decide (y3 > 0)))))] (B true)), (7, rp [(.tmp 39, B true), fu 68, (.tmp 41, I x7.Parent), ci 0, (.tmp 43, (I (w64 (y3 - 1))))] (B x13)), (10, rp [(.tmp 46, (B ((!x13))))] (B false)), (13, rp [(.tmp 47, B false), fu 94, (.tmp 49, I x7.Loss)] (B x16)), (16, rp [(.tmp 52, (B ((!x16))))] (B false)), (19, rp [(.tmp 53, B false), fu 94, (.tmp 55, I x7.Limit)] (B x19)), (22, rp [(.tmp 58, (B ((!x19))))] (B true))] ⟨asb hb11 (amv rfl), ag_ (apc (first := []) (cap := []) (vs := [I x7.Parent, I 0, (I (w64 (y3 - 1)))]) rfl Qd7 (Qa0 N x7.Parent 0 (w64 (y3 - 1)) _ hf12) rfl rfl (nlc nll (nlc nll (nlc nll nl0))) nll rfl), asb hb14 (amv rfl), ag_ (apc (first := []) (cap := []) (vs := [I x7.Loss]) rfl Qe7 (Qb0 N x7.Loss _ hf15) rfl rfl (nlc nll nl0) nll rfl), asb hb17 (amv rfl), ag_ (apc (first := []) (cap := []) (vs := [I x7.Limit]) rfl Qe7 (Qb0 N x7.Limit _ hf18) rfl rfl (nlc nll nl0) nll rfl), asb hb20 (amv rfl), trivial⟩ ?_
         refine Qbs (by kernel_rfl) ?_
         refine wx tbk [] trivial ?_
         refine Qai ?_
         refine Qaq ?_
         refine Qag ?_
         refine Qag ?_
         refine Qaq ?_
         refine Qag ?_
         obtain rfl := osi h
         exact fend ⟨[B false], ⟨rot (by kernel_rfl), trivial⟩, rfl⟩ nll
        ·replace h := Qas hb20 h
         obtain ⟨x22, hf21, h⟩ := bno h
         refine wx tbk [(2, rp [(.tmp 38, (B ((decide (y3 > 0)))))] (B true)), (7, rp [(.tmp 39, B true), fu 68, (.tmp 41, I x7.Parent), ci 0, (.tmp 43, (I (w64 (y3 - 1))))] (B x13)), (10, rp [(.tmp 46, (B ((!x13))))] (B false)), (13, rp [(.tmp 47, B false), fu 94, (.tmp 49, I x7.Loss)] (B x16)), (16, rp [(.tmp 52, (B ((!x16))))] (B false)), (19, rp [(.tmp 53, B false), fu 94, (.tmp 55, I x7.Limit)] (B x19)), (22, rp [(.tmp 58, (B ((!x19))))] (B false)), (25, rp [(.tmp 59, B false), fu 68, (.tmp 61, I x7.Rank), ci 0, ci 100] (B x22))] ⟨asb hb11 (amv rfl), ag_ (apc (first := []) (cap := []) (vs := [I x7.Parent, I 0, (I (w64 (y3 - 1)))]) rfl Qd7 (Qa0 N x7.Parent 0 (w64 (y3 - 1)) _ hf12) rfl rfl (nlc nll (nlc nll (nlc nll nl0))) nll rfl), asb hb14 (amv rfl), ag_ (apc (first := []) (cap := []) (vs := [I x7.Loss]) rfl Qe7 (Qb0 N x7.Loss _ hf15) rfl rfl (nlc nll nl0) nll rfl), asb hb17 (amv rfl), ag_ (apc (first := []) (cap := []) (vs := [I x7.Limit]) rfl Qe7 (Qb0 N x7.Limit _ hf18) rfl rfl (nlc nll nl0) nll rfl), asb hb20 (amv rfl), ag_ (apc (first := []) (cap := []) (vs := [I x7.Rank, I 0, I 100]) rfl Qd7 (Qa0 N x7.Rank 0 100 _ hf21) rfl rfl (nlc nll (nlc nll (nlc nll nl0))) nll rfl), trivial⟩ ?_
         rcases bft ((!x22)) with hc23 | hc23
         ·replace h := Qar hc23 h
          refine wft hc23 (by kernel_rfl) ?_
          refine wx tbk [] trivial ?_
          refine Qai ?_
          refine Qaq ?_
          refine Qag ?_
          refine Qag ?_
          refine Qaq ?_
          refine Qag ?_
          obtain rfl := osi h
          exact fend ⟨[B false], ⟨rot (by kernel_rfl), trivial⟩, rfl⟩ nll
         ·replace h := Qas hc23 h
          refine wfn hc23 (by kernel_rfl) ?_
          refine Qaf ?_
          refine bln ?_
          refine thn ?_
          refine wx1 tbk [] trivial ?_
          refine thn ?_
          exact arm (mto (n := 66) [(30, (z3_0 p0)), (31, (I ((p0.length : Int)))), (32, (I (w64 (y3 + 1))))] [] [] hφ0 (pc (.rn (.plain _ (nld Qab _))) (pc rwl (pc rwl pn))) qn) (ih (w64 (y3 + 1)) h)
     ·replace h := Qas hb11 h
      obtain ⟨x25, hf24, h⟩ := bno h
      rcases bft ((!x25)) with hb26 | hb26
      ·replace h := Qar hb26 h
       refine wx tbk [(2, rp [(.tmp 38, (B ((decide (y3 > 0)))))] (B false)), (13, rp [(.tmp 47, B false), fu 94, (.tmp 49, I x7.Loss)] (B x25)), (16, rp [(.tmp 52, (B ((!x25))))] (B true))] ⟨asb hb11 (amv rfl), ag_ (apc (first := []) (cap := []) (vs := [I x7.Loss]) rfl Qe7 (Qb0 N x7.Loss _ hf24) rfl rfl (nlc nll nl0) nll rfl), asb hb26 (amv rfl), trivial⟩ ?_
       refine Qbs (by kernel_rfl) ?_
       refine wx tbk [] trivial ?_
       refine Qai ?_
       refine Qaq ?_
       refine Qag ?_
       refine Qag ?_
       refine Qaq ?_
       refine Qag ?_
       obtain rfl := osi h
       exact fend ⟨[B false], ⟨rot (by kernel_rfl), trivial⟩, rfl⟩ nll
      ·replace h := Qas hb26 h
       obtain ⟨x28, hf27, h⟩ := bno h
       rcases bft ((!x28)) with hb29 | hb29
       ·replace h := Qar hb29 h
        refine wx tbk [(2, rp [(.tmp 38, (B ((decide (y3 > 0)))))] (B false)), (13, rp [(.tmp 47, B false), fu 94, (.tmp 49, I x7.Loss)] (B x25)), (16, rp [(.tmp 52, (B ((!x25))))] (B false)), (19, rp [(.tmp 53, B false), fu 94, (.tmp 55, I x7.Limit)] (B x28)), (22, rp [(.tmp 58, (B ((!x28))))] (B true))] ⟨asb hb11 (amv rfl), ag_ (apc (first := []) (cap := []) (vs := [I x7.Loss]) rfl Qe7 (Qb0 N x7.Loss _ hf24) rfl rfl (nlc nll nl0) nll rfl), asb hb26 (amv rfl), ag_ (apc (first := []) (cap := []) (vs := [I x7.Limit]) rfl Qe7 (Qb0 N x7.Limit _ hf27) rfl rfl (nlc nll nl0) nll rfl), asb hb29 (amv rfl), trivial⟩ ?_
        refine Qbs (by kernel_rfl) ?_
        refine wx tbk [] trivial ?_
        refine Qai ?_
        refine Qaq ?_
        refine Qag ?_
        refine Qag ?_
        refine Qaq ?_
        refine Qag ?_
        obtain rfl := osi h
        exact fend ⟨[B false], ⟨rot (by kernel_rfl), trivial⟩, rfl⟩ nll
       ·replace h := Qas hb29 h
        obtain ⟨x31, hf30, h⟩ := bno h
        refine wx tbk [(2, rp [(.tmp 38, (B ((decide (y3 > 0)))))] (B false)), (13, rp [(.tmp 47, B false), fu 94, (.tmp 49, I x7.Loss)] (B x25)), (16, rp [(.tmp 52, (B ((!x25))))] (B false)), (19, rp [(.tmp 53, B false), fu 94, (.tmp 55, I x7.Limit)] (B x28)), (22, rp [(.tmp 58, (B ((!x28))))] (B false)), (25, rp [(.tmp 59, B false), fu 68, (.tmp 61, I x7.Rank), ci 0, ci 100] (B x31))] ⟨asb hb11 (amv rfl), ag_ (apc (first := []) (cap := []) (vs := [I x7.Loss]) rfl Qe7 (Qb0 N x7.Loss _ hf24) rfl rfl (nlc nll nl0) nll rfl), asb hb26 (amv rfl), ag_ (apc (first := []) (cap := []) (vs := [I x7.Limit]) rfl Qe7 (Qb0 N x7.Limit _ hf27) rfl rfl (nlc nll nl0) nll rfl), asb hb29 (amv rfl), ag_ (apc (first := []) (cap := []) (vs := [I x7.Rank, I 0, I 100]) rfl Qd7 (Qa0 N x7.Rank 0 100 _ hf30) rfl rfl (nlc nll (nlc nll (nlc nll nl0))) nll rfl), trivial⟩ ?_
        rcases bft ((!x31)) with hc32 | hc32
        ·replace h := Qar hc32 h
         refine wft hc32 (by kernel_rfl) ?_
         refine wx tbk [] trivial ?_
         refine Qai ?_
         refine Qaq ?_
         refine Qag ?_
         refine Qag ?_
         refine Qaq ?_
         refine Qag ?_
         obtain rfl := osi h
         exact fend ⟨[B false], ⟨rot (by kernel_rfl), trivial⟩, rfl⟩ nll
        ·replace h := Qas hc32 h
         refine wfn hc32 (by kernel_rfl) ?_
         refine Qaf ?_
         refine bln ?_
         refine thn ?_
         refine wx1 tbk [] trivial ?_
         refine thn ?_
         exact arm (mto (n := 66) [(30, (z3_0 p0)), (31, (I ((p0.length : Int)))), (32, (I (w64 (y3 + 1))))] [] [] hφ0 (pc (.rn (.plain _ (nld Qab _))) (pc rwl (pc rwl pn))) qn) (ih (w64 (y3 + 1)) h)
    ·replace h := Qas hc6 h
     refine wfn hc6 (by kernel_rfl) ?_
     refine Qbc ?_
     refine Qao ?_
     refine Qao ?_
     refine Qbb rfl ?_
     refine thn ?_
     exact ⟨(), h, (mto (n := 66) [] [] [] hφ0 pn qn)⟩
  ·skip
   obtain ⟨x34, hf33, h⟩ := bno h
   rcases bft ((!x34)) with hb35 | hb35
   ·replace h := Qar hb35 h
    refine wx tbk [(1, rp [(.tmp 5, (z3_0 p0))] (I ((p0.length : Int)))), (2, rp [fu 68, (.tmp 6, (I ((p0.length : Int)))), ci 1, ci 30] (B x34)), (4, rp [(.tmp 8, (B ((!x34))))] (B true))] ⟨alm (c := Qac) (l := p0) (aln rfl Try.underlying31 rfl), apc (first := []) (cap := []) (vs := [(I ((p0.length : Int))), I 1, I 30]) rfl Qd7 (Qa0 N (p0.length : Int) 1 30 _ hf33) rfl rfl (nlc nll (nlc nll (nlc nll nl0))) nll rfl, asb hb35 (amv rfl), trivial⟩ ?_
    refine Qbs (by kernel_rfl) ?_
    refine wx tbk [] trivial ?_
    refine Qai ?_
    refine Qag ?_
    obtain rfl := osi h
    exact fend ⟨[B false], ⟨rot (by kernel_rfl), trivial⟩, rfl⟩ nll
   ·replace h := Qas hb35 h
    obtain ⟨x36, hg37, h⟩ := bno h
    obtain ⟨hi38, hj39⟩ := gsm hg37
    rcases bft ((x36.Parent != (-1))) with hb40 | hb40
    ·replace h := Qar hb40 h
     refine wx tbk [(1, rp [(.tmp 5, (z3_0 p0))] (I ((p0.length : Int)))), (2, rp [fu 68, (.tmp 6, (I ((p0.length : Int)))), ci 1, ci 30] (B x34)), (4, rp [(.tmp 8, (B ((!x34))))] (B false)), (6, rp [(.tmp 9, B false), (.tmp 10, (z3_0 p0)), ci 0] (.dptr (Qac (x36)) 0)), (11, rp [(.tmp 15, (B ((x36.Parent != (-1)))))] (B true))] ⟨alm (c := Qac) (l := p0) (aln rfl Try.underlying31 rfl), apc (first := []) (cap := []) (vs := [(I ((p0.length : Int))), I 1, I 30]) rfl Qd7 (Qa0 N (p0.length : Int) 1 30 _ hf33) rfl rfl (nlc nll (nlc nll (nlc nll nl0))) nll rfl, asb hb35 (amv rfl), ag_ (aid rfl Try.underlying31 Qil rfl rfl hi38 (mgt Qac hj39) rfl), asb hb40 (amv rfl), trivial⟩ ?_
     refine Qbs (by kernel_rfl) ?_
     refine wx tbk [] trivial ?_
     refine Qai ?_
     refine Qag ?_
     obtain rfl := osi h
     exact fend ⟨[B false], ⟨rot (by kernel_rfl), trivial⟩, rfl⟩ nll
    ·replace h := Qas hb40 h
     rcases bft ((x36.Loss != 0)) with hb41 | hb41
     ·replace h := Qar hb41 h
      refine wx tbk [(1, rp [(.tmp 5, (z3_0 p0))] (I ((p0.length : Int)))), (2, rp [fu 68, (.tmp 6, (I ((p0.length : Int)))), ci 1, ci 30] (B x34)), (4, rp [(.tmp 8, (B ((!x34))))] (B false)), (6, rp [(.tmp 9, B false), (.tmp 10, (z3_0 p0)), ci 0] (.dptr (Qac (x36)) 0)), (11, rp [(.tmp 15, (B ((x36.Parent != (-1)))))] (B false)), (13, rp [(.tmp 16, B false), (.tmp 17, (z3_0 p0)), ci 0] (.dptr (Qac (x36)) 0)), (18, rp [(.tmp 22, (B ((x36.Loss != 0))))] (B true))] ⟨alm (c := Qac) (l := p0) (aln rfl Try.underlying31 rfl), apc (first := []) (cap := []) (vs := [(I ((p0.length : Int))), I 1, I 30]) rfl Qd7 (Qa0 N (p0.length : Int) 1 30 _ hf33) rfl rfl (nlc nll (nlc nll (nlc nll nl0))) nll rfl, asb hb35 (amv rfl), ag_ (aid rfl Try.underlying31 Qil rfl rfl hi38 (mgt Qac hj39) rfl), asb hb40 (amv rfl), ag_ (aid rfl Try.underlying31 Qil rfl rfl hi38 (mgt Qac hj39) rfl), asb hb41 (amv rfl), trivial⟩ ?_
      refine Qbs (by kernel_rfl) ?_
      refine wx tbk [] trivial ?_
      refine Qai ?_
      refine Qag ?_
      obtain rfl := osi h
      exact fend ⟨[B false], ⟨rot (by kernel_rfl), trivial⟩, rfl⟩ nll
     ·replace h := Qas hb41 h
      refine wx tbk [(1, rp [(.tmp 5, (z3_0 p0))] (I ((p0.length : Int)))), (2, rp [fu 68, (.tmp 6, (I ((p0.length : Int)))), ci 1, ci 30] (B x34)), (4, rp [(.tmp 8, (B ((!x34))))] (B false)), (6, rp [(.tmp 9, B false), (.tmp 10, (z3_0 p0)), ci 0] (.dptr (Qac (x36)) 0)), (11, rp [(.tmp 15, (B ((x36.Parent != (-1)))))] (B false)), (13, rp [(.tmp 16, B false), (.tmp 17, (z3_0 p0)), ci 0] (.dptr (Qac (x36)) 0)), (18, rp [(.tmp 22, (B ((x36.Loss != 0))))] (B false)), (20, rp [(.tmp 23, B false), (.tmp 24, (z3_0 p0)), ci 0] (.dptr (Qac (x36)) 0))] ⟨alm (c := Qac) (l := p0) (aln rfl Try.underlying31 rfl), apc (first := []) (cap := []) (vs := [(I ((p0.length : Int))), I 1, I 30]) rfl Qd7 (Qa0 N (p0.length : Int) 1 30 _ hf33) rfl rfl (nlc nll (nlc nll (nlc nll nl0))) nll rfl, asb hb35 (amv rfl), ag_ (aid rfl Try.underlying31 Qil rfl rfl hi38 (mgt Qac hj39) rfl), asb hb40 (amv rfl), ag_ (aid rfl Try.underlying31 Qil rfl rfl hi38 (mgt Qac hj39) rfl), asb hb41 (amv rfl), ag_ (aid rfl Try.underlying31 Qil rfl rfl hi38 (mgt Qac hj39) rfl), trivial⟩ ?_
      rcases bft ((x36.Limit != 0)) with hc42 | hc42
      ·replace h := Qar hc42 h
       refine wft hc42 (by kernel_rfl) ?_
       refine wx tbk [] trivial ?_
       refine Qai ?_
       refine Qag ?_
       obtain rfl := osi h
       exact fend ⟨[B false], ⟨rot (by kernel_rfl), trivial⟩, rfl⟩ nll
      ·replace h := Qas hc42 h
       refine wfn hc42 (by kernel_rfl) ?_
       refine Qaf ?_
       refine thn ?_
       exact ⟨(), h, (mto (n := 66) [(0, (z3_0 p0))] [] [] hφ0 (pc (.rn (.plain _ (nld Qab _))) pn) qn)⟩
def Qgg (N : Nat) (p0 : Int) : Option Bool :=
  (Qe9 N p0).bind fun x3 =>
  some (!x3)
def z9_0 : Slot := .own 1 [[(.fn (.func 94) [] [])]]
set_option maxRecDepth 100000 in
set_option maxHeartbeats 4000000 in
theorem Qjx (N : Nat) (p0 : Int) (r : Bool) (h : Qgg N p0 = some r) : Spec Try.prog 108 [(I (p0)), (.ref 0 1 (0) 0)] [z9_0] (B (r)) [z9_0] := by
  refine Qaj Try.func108 rfl 1 (nle rfl) (fun X φ0 w0 hφ0 => ?_)
  unfold Qgg at h
  refine Qc3 ?_
  refine wx tbk [] trivial ?_
  obtain ⟨x3, hf2, h⟩ := bno h
  refine wx tbk [(2, rp [(.tmp 4, (.fn (.func 94) [] [])), (.tmp 5, I p0)] (B x3))] ⟨apc (first := []) (cap := []) (vs := [I p0]) rfl Qe7 (Qb0 N p0 _ hf2) rfl rfl (nlc nll nl0) nll rfl, trivial⟩ ?_
  refine wmr (mto (n := 8) (l' := [(3, (B ((!x3))))]) (own' := [z9_0]) [(3, (B ((!x3))))] [0] [z9_0] hφ0 (pc rwl pn) (qc (spb (lc (.rn (Qaw rn0 rn0)) ln)) qn)) ?_
  refine Qai ?_
  obtain rfl := osi h
  exact ⟨_, Mor.rfl, Qc2 (vs := [(B ((!x3)))]) ⟨rot (by kernel_rfl), trivial⟩ rfl (NLt.of0 nll) (by kernel_rfl) (Qat (Qb1 (nlc (NLt.of0 (NLt.fn _ _ _ nl0 nl0)) nl0)) Qbu)⟩
def Qb4 (N : Nat) (p0 : (List Int)) (k2 : Unit → Option Int) : Nat → Int → Option Int
  | 0, _ => none
  | n5 + 1, y3 =>
    bif (decide (y3 < (p0.length : Int))) then
     (getI p0 y3).bind fun x7 =>
     (Qgg N x7).bind fun x12 =>
     bif x12 then
      some y3
     else
      Qb4 N p0 k2 n5 (w64 (y3 + 1))
    else
     k2 ()
def Qeh (N : Nat) (p0 : (List Int)) : Option Int :=
  Qcv (fun _ =>
    some (-1)) fun k2 : Unit → Option Int =>
  Qb4 N p0 k2 N 0
def z8_0 (p0 : (List Int)) : AV := .dat 1 ((p0 : List Int).map Qad)
def z8_1 : AV := .fn (.func 108) [] [(.ref 0 1 (0) 0)]
def z8_2 : Slot := .own 1 [[(.fn (.func 94) [] [])]]
set_option maxRecDepth 100000 in
set_option maxHeartbeats 4000000 in
theorem Qgw (N : Nat) (p0 : (List Int)) (r : Int) (h : Qeh N p0 = some r) : Spec Try.prog 113 [(z8_0 p0), z8_1] [z8_2] (I (r)) [z8_2] := by
  refine Qaj Try.func113 rfl 1 (nle rfl) (fun X φ0 w0 hφ0 => ?_)
  unfold Qeh at h
  refine Qc3 ?_
  refine wx tbk [] trivial ?_
  obtain ⟨k2, hk_k2, h⟩ := jko h
  refine wjn (τ := Unit) (fun t => k2 t = some r) (fun _ => ⟨mk 19 [], [z8_2]⟩) (fun t h => ?_) ?_
  ·subst hk_k2
   refine wx tbk [] trivial ?_
   refine wmr (mto (n := 19) (l' := [(4, (I ((-1))))]) (own' := [z8_2]) [(4, (I ((-1))))] [0] [z8_2] hφ0 (pc rwl pn) (qc (spb (lc (.rn (Qaw rn0 rn0)) ln)) qn)) ?_
   refine Qai ?_
   obtain rfl := osi h
   exact ⟨_, Mor.rfl, Qc2 (vs := [(I ((-1)))]) ⟨rot (by kernel_rfl), trivial⟩ rfl (NLt.of0 nll) (by kernel_rfl) (Qat (Qb1 (nlc (NLt.of0 (NLt.fn _ _ _ nl0 nl0)) nl0)) Qbu)⟩
  ·skip
   refine wx tbk [(1, rp [(.tmp 6, (z8_0 p0))] (I ((p0.length : Int))))] ⟨alm (c := Qad) (l := p0) (aln rfl Try.underlying23 rfl), trivial⟩ ?_
   refine Qah ?_
   refine wmr (mto (n := 19) (l' := [(0, (z8_0 p0)), (1, z8_1), (7, (I ((p0.length : Int)))), (8, I 0)]) (own' := [z8_2]) [(0, (z8_0 p0)), (1, z8_1), (7, (I ((p0.length : Int)))), (8, I 0)] [0] [z8_2] hφ0 (pc (.rn (.plain _ (nld Qaa _))) (pc (.rn (Qaw rn0 (rnc (rqr rfl) rn0))) (pc rwl (pc rwl pn)))) (qc (spb (lc (.rn (Qaw rn0 rn0)) ln)) qn)) ?_
   refine Qb7 (τ := Int) (fun n t => Qb4 N p0 k2 n t = some r) (fun y3 => ⟨mk 19 [(0, (z8_0 p0)), (1, z8_1), (7, (I ((p0.length : Int)))), (8, I y3)], [z8_2]⟩) (fun t h => by rw [Qb4] at h; cases h) (fun n5 ih y3 h => ?_) N (0) h
   rw [Qb4] at h
   skip
   refine wx tbk [] trivial ?_
   refine wsq ?_
   rcases bft ((decide (y3 < (p0.length : Int)))) with hc6 | hc6
   ·replace h := Qar hc6 h
    refine wft hc6 (by kernel_rfl) ?_
    refine Qaf ?_
    refine thn ?_
    refine wsq ?_
    refine Qah ?_
    refine wx tbk [] trivial ?_
    obtain ⟨x7, hg8, h⟩ := bno h
    obtain ⟨hi9, hj10⟩ := gsm hg8
    obtain ⟨x12, hf11, h⟩ := bno h
    refine wx tbk [(3, rp [(.tmp 12, (z8_0 p0)), (.tmp 13, I y3)] (.dptr (Qad (x7)) 0)), (5, ⟨[(.tmp 11, z8_1), (.tmp 15, I x7)], [(0, z8_2)], B x12, [(0, z8_2)], false⟩)] ⟨aid rfl Try.underlying23 ti3 rfl rfl hi9 (mgt Qad hj10) rfl, Qaz (first := []) (cap := [.ref 0 1 0 0]) (vs := [I x7]) (σr := [z8_2]) (σr' := [z8_2]) (res' := (B x12)) [0] rfl Qyw (Qjx N x7 _ hf11) rfl (Qc5 (rnc (.plain _ nll) (rnc (Qby rfl) rn0))) (slc (Qal (rnc (.plain _ (NLt.fn _ _ _ nl0 nl0)) rn0)) Qau) (slc (Qal (rnc (.plain _ (NLt.fn _ _ _ nl0 nl0)) rn0)) Qau) (.plain _ nll) rfl rfl rfl, trivial⟩ ?_
    rcases bft (x12) with hc13 | hc13
    ·replace h := Qar hc13 h
     refine wft hc13 (by kernel_rfl) ?_
     refine wx tbk [] trivial ?_
     refine wmr (mto (n := 19) (l' := [(4, I y3)]) (own' := [z8_2]) [(4, I y3)] [0] [z8_2] hφ0 (pc rwl pn) (qc (spb (lc (.rn (Qaw rn0 rn0)) ln)) qn)) ?_
     refine Qai ?_
     refine Qaq ?_
     refine Qag ?_
     refine Qag ?_
     refine Qaq ?_
     refine Qag ?_
     obtain rfl := osi h
     exact ⟨_, Mor.rfl, Qc2 (vs := [I y3]) ⟨rot (by kernel_rfl), trivial⟩ rfl (NLt.of0 nll) (by kernel_rfl) (Qat (Qb1 (nlc (NLt.of0 (NLt.fn _ _ _ nl0 nl0)) nl0)) Qbu)⟩
    ·replace h := Qas hc13 h
     refine wfn hc13 (by kernel_rfl) ?_
     refine Qaf ?_
     refine bln ?_
     refine thn ?_
     refine wx1 tbk [] trivial ?_
     refine thn ?_
     exact arm (mto (n := 19) [(0, (z8_0 p0)), (1, z8_1), (7, (I ((p0.length : Int)))), (8, (I (w64 (y3 + 1))))] [0] [z8_2] hφ0 (pc (.rn (.plain _ (nld Qaa _))) (pc (.rn (Qaw rn0 (rnc (rqr rfl) rn0))) (pc rwl (pc rwl pn)))) (qc (spb (lc (.rn (Qaw rn0 rn0)) ln)) qn)) (ih (w64 (y3 + 1)) h)
   ·replace h := Qas hc6 h
    refine wfn hc6 (by kernel_rfl) ?_
    refine Qbc ?_
    refine Qao ?_
    refine Qao ?_
    refine Qbb rfl ?_
    refine thn ?_
    exact ⟨(), h, (mto (n := 19) [] [0] [z8_2] hφ0 pn (qc (spb (lc (.rn (Qaw rn0 rn0)) ln)) qn))⟩
def Qd2 (N : Nat) (p0 : (List Int)) : Option Bool :=
  (Qeh N p0).bind fun x3 =>
  some (decide (x3 ≥ 0))
def z7_0 (p0 : (List Int)) : AV := .dat 1 ((p0 : List Int).map Qad)
def z7_1 : AV := .fn (.func 108) [] [(.ref 0 1 (0) 0)]
def z7_2 : Slot := .own 1 [[(.fn (.func 94) [] [])]]
set_option maxRecDepth 100000 in
set_option maxHeartbeats 4000000 in
theorem Qf9 (N : Nat) (p0 : (List Int)) (r : Bool) (h : Qd2 N p0 = some r) : Spec Try.prog 107 [(z7_0 p0), z7_1] [z7_2] (B (r)) [z7_2] := by
  refine Qaj Try.func107 rfl 1 (nle rfl) (fun X φ0 w0 hφ0 => ?_)
  unfold Qd2 at h
  refine Qc3 ?_
  refine wx tbk [] trivial ?_
  obtain ⟨x3, hf2, h⟩ := bno h
  refine wx tbk [(2, ⟨[fu 113, (.tmp 5, (z7_0 p0)), (.tmp 6, z7_1)], [(0, z7_2)], I x3, [(0, z7_2)], false⟩)] ⟨Qaz (first := []) (cap := []) (vs := [(z7_0 p0), z7_1]) (σr := [z7_2]) (σr' := [z7_2]) (res' := (I x3)) [0] rfl Qys (Qgw N p0 _ hf2) rfl (Qc5 (rnc (.plain _ (nld Qaa _)) (rnc (Qaw rn0 (rnc (Qby rfl) rn0)) rn0))) (slc (Qal (rnc (.plain _ (NLt.fn _ _ _ nl0 nl0)) rn0)) Qau) (slc (Qal (rnc (.plain _ (NLt.fn _ _ _ nl0 nl0)) rn0)) Qau) (.plain _ nll) rfl rfl rfl, trivial⟩ ?_
  refine wmr (mto (n := 9) (l' := [(4, (B ((decide (x3 ≥ 0)))))]) (own' := [z7_2]) [(4, (B ((decide (x3 ≥ 0)))))] [0] [z7_2] hφ0 (pc rwl pn) (qc (spb (lc (.rn (Qaw rn0 rn0)) ln)) qn)) ?_
  refine Qai ?_
  obtain rfl := osi h
  exact ⟨_, Mor.rfl, Qc2 (vs := [(B ((decide (x3 ≥ 0))))]) ⟨rot (by kernel_rfl), trivial⟩ rfl (NLt.of0 nll) (by kernel_rfl) (Qat (Qb1 (nlc (NLt.of0 (NLt.fn _ _ _ nl0 nl0)) nl0)) Qbu)⟩
def Qhd (N : Nat) (p0 : (List Int)) : Option Bool :=
  (Qd2 N p0).bind fun x2 =>
  some (!x2)
def z6_1 (p0 : (List Int)) : AV := .dat 1 ((p0 : List Int).map Qad)
def z6_2 : AV := .fn (.func 108) [] [(.ref 0 1 (0) 0)]
def z6_0 : Slot := .own 1 [[(.fn (.func 94) [] [])]]
set_option maxRecDepth 100000 in
set_option maxHeartbeats 4000000 in
theorem Qku (N : Nat) (p0 : (List Int)) (r : Bool) (h : Qhd N p0 = some r) : Spec Try.prog 90 [(z6_1 p0), (.fn (.func 94) [] [])] [] (B (r)) [] := by
  refine Qaj Try.func90 rfl 0 (nle rfl) (fun X φ0 w0 hφ0 => ?_)
  unfold Qhd at h
  refine wx tbk [] trivial ?_
  obtain ⟨x2, hf1, h⟩ := bno h
  refine wx tbk [(1, rp [(.tmp 3, .ref 0 1 0 0)] z6_2), (2, ⟨[fu 107, (.tmp 5, (z6_1 p0)), (.tmp 6, z6_2)], [(0, z6_0)], B x2, [(0, z6_0)], false⟩)] ⟨Qf3 (fs := []) (cs := [.ref 0 1 0 0]) rfl rfl rfl rfl, Qaz (first := []) (cap := []) (vs := [(z6_1 p0), z6_2]) (σr := [z6_0]) (σr' := [z6_0]) (res' := (B x2)) [0] rfl Qyx (Qf9 N p0 _ hf1) rfl (Qc5 (rnc (.plain _ (nld Qaa _)) (rnc (Qaw rn0 (rnc (Qby rfl) rn0)) rn0))) (slc (Qal (rnc (.plain _ (NLt.fn _ _ _ nl0 nl0)) rn0)) Qau) (slc (Qal (rnc (.plain _ (NLt.fn _ _ _ nl0 nl0)) rn0)) Qau) (.plain _ nll) rfl rfl rfl, trivial⟩ ?_
  refine Qai ?_
  obtain rfl := osi h
  exact fend ⟨[(B ((!x2)))], ⟨rot (by kernel_rfl), trivial⟩, rfl⟩ nll
def Qjm (N : Nat) (p0 : (List GNode)) (p1 : (List Int)) : Option Int :=
  (Qel N p0).bind fun x2 =>
  bif (!x2) then
   some 1
  else
   bif ((p1.length : Int) != (p0.length : Int)) then
    some 2
   else
    (Qhd N p1).bind fun x6 =>
    bif (!x6) then
     some 2
    else
     some 0
def z2_0 (p0 : (List GNode)) : AV := .dat 4 ((p0 : List GNode).map Qac)
def z2_1 (p1 : (List Int)) : AV := .dat 1 ((p1 : List Int).map Qad)
set_option maxRecDepth 100000 in
set_option maxHeartbeats 4000000 in
theorem Qkt (N : Nat) (p0 : (List GNode)) (p1 : (List Int)) (r : Int) (h : Qjm N p0 p1 = some r) : Spec Try.prog 67 [(.dat 4 (p0.map Qac)), (.dat 1 (p1.map Qad))] [] (I r) [] := by
  refine Qaj Try.func67 rfl 0 (nle rfl) (fun X φ0 w0 hφ0 => ?_)
  unfold Qjm at h
  refine wx tbk [] trivial ?_
  refine wsq ?_
  refine Qah ?_
  obtain ⟨x2, hf1, h⟩ := bno h
  refine wx tbk [(1, rp [fu 80, (.tmp 6, (z2_0 p0))] (B x2))] ⟨apc (first := []) (cap := []) (vs := [(z2_0 p0)]) rfl Qw0 (Qhe N p0 _ hf1) rfl rfl (nlc (nld Qab _) nl0) nll rfl, trivial⟩ ?_
  rcases bft ((!x2)) with hc3 | hc3
  ·replace h := Qar hc3 h
   refine wft hc3 (by kernel_rfl) ?_
   refine wx tbk [] trivial ?_
   refine Qai ?_
   refine Qaq ?_
   refine Qag ?_
   obtain rfl := osi h
   exact fend ⟨[I 1], ⟨rot (by kernel_rfl), trivial⟩, rfl⟩ nll
  ·replace h := Qas hc3 h
   refine wfn hc3 (by kernel_rfl) ?_
   rcases bft (((p1.length : Int) != (p0.length : Int))) with hb4 | hb4
   ·replace h := Qar hb4 h
    refine wx tbk [(1, rp [(.tmp 10, (z2_1 p1))] (I ((p1.length : Int)))), (3, rp [(.tmp 12, (z2_0 p0))] (I ((p0.length : Int)))), (5, rp [(.tmp 14, (B (((p1.length : Int) != (p0.length : Int)))))] (B true))] ⟨alm (c := Qad) (l := p1) (aln rfl Try.underlying23 rfl), alm (c := Qac) (l := p0) (aln rfl Try.underlying31 rfl), asb hb4 (amv rfl), trivial⟩ ?_
    refine Qbs (by kernel_rfl) ?_
    refine wx tbk [] trivial ?_
    refine Qai ?_
    refine Qaq ?_
    refine Qag ?_
    obtain rfl := osi h
    exact fend ⟨[I 2], ⟨rot (by kernel_rfl), trivial⟩, rfl⟩ nll
   ·replace h := Qas hb4 h
    obtain ⟨x6, hf5, h⟩ := bno h
    refine wx tbk [(1, rp [(.tmp 10, (z2_1 p1))] (I ((p1.length : Int)))), (3, rp [(.tmp 12, (z2_0 p0))] (I ((p0.length : Int)))), (5, rp [(.tmp 14, (B (((p1.length : Int) != (p0.length : Int)))))] (B false)), (7, rp [(.tmp 15, B false), fu 90, (.tmp 16, (z2_1 p1)), fu 94] (B x6))] ⟨alm (c := Qad) (l := p1) (aln rfl Try.underlying23 rfl), alm (c := Qac) (l := p0) (aln rfl Try.underlying31 rfl), asb hb4 (amv rfl), ag_ (Qaz (first := []) (cap := []) (vs := [(z2_1 p1), (.fn (.func 94) [] [])]) (σr := []) (σr' := []) (res' := (B x6)) [] rfl enter90 (Qku N p1 _ hf5) rfl (Qc5 (rnc (.plain _ (nld Qaa _)) (rnc (.plain _ (NLt.fn _ _ _ nl0 nl0)) rn0))) Qau Qau (.plain _ nll) rfl rfl rfl), trivial⟩ ?_
    rcases bft ((!x6)) with hc7 | hc7
    ·replace h := Qar hc7 h
     refine wft hc7 (by kernel_rfl) ?_
     refine wx tbk [] trivial ?_
     refine Qai ?_
     refine Qaq ?_
     refine Qag ?_
     obtain rfl := osi h
     exact fend ⟨[I 2], ⟨rot (by kernel_rfl), trivial⟩, rfl⟩ nll
    ·replace h := Qas hc7 h
     refine wfn hc7 (by kernel_rfl) ?_
     refine Qaf ?_
     refine bln ?_
     refine thn ?_
     refine wx tbk [] trivial ?_
     refine Qai ?_
     obtain rfl := osi h
     exact fend ⟨[I 0], ⟨rot (by kernel_rfl), trivial⟩, rfl⟩ nll
def Qed (_N : Nat) (p0 : (List Int)) : Option Unit :=
  chk (!p0.isEmpty) <|
  chk (!p0.isEmpty) <|
  chk (decide ((0 + p0.length) * 8 ≤ 140737488355328)) <|
  some ()
def z11_0 (p0 : (List Int)) : AV := .dat 1 ((p0 : List Int).map Qad)
def Qx6 (p0 : (List Int)) : Slot := .own 1 ((p0 : List Int).map Qad)
def z11_1 : AV := .acc 0 3 1 ((([] : List Int) : List Int).map Qad)
set_option maxRecDepth 100000 in
set_option maxHeartbeats 4000000 in
theorem Qfr (N : Nat) (p0 : (List Int)) (r : Unit) (h : Qed N p0 = some r) : Spec Try.prog 97 [(z11_0 p0)] [] (.own 0 1 (0) (p0.length)) [(Qx6 p0)] := by
  refine Qaj Try.func97 rfl 1 (nle rfl) (fun X φ0 w0 hφ0 => ?_)
  unfold Qed at h
  refine Qc3 ?_
  refine wx tbk [] trivial ?_
  refine wsq ?_
  obtain ⟨hz1, h⟩ := cko h
  refine wx tbk [(1, rp [(.tmp 3, (z11_0 p0)), ((.const (.slice none 0 0)), nilS)] (B false))] ⟨Qsh rfl Try.underlying23 rfl (Qe5 hz1), trivial⟩ ?_
  refine Qd3 (by kernel_rfl) ?_
  refine Qaf ?_
  refine thn ?_
  obtain ⟨ha3, h⟩ := cko h
  obtain ⟨ha2, h⟩ := cko h
  refine wx tbk [(0, ⟨[], [(0, .unused)], z11_1, [(0, .tok)], false⟩), (2, ⟨[(.tmp 5, z11_1), (.tmp 6, (z11_0 p0))], [(0, .tok), (1, .unused)], (.own 1 1 (0) (p0.length)), [(0, .dead), (1, (Qx6 p0))], false⟩)] ⟨Qps rfl Try.underlying23 ti3 tz3, Quz rfl Try.underlying23 te3 (Base.acc _ _) rfl rfl (Qe5 ha3) (Qye Qad one_i64 _) (app_le1n Qad ha2) (app_le2n Qad ha2 (by decide)) (List.length_map _), trivial⟩ ?_
  refine wmr (mto (n := 8) (l' := [(2, (.own 0 1 (0) (p0.length)))]) (own' := [(Qx6 p0)]) [(2, (.own 1 1 (0) (p0.length)))] [1] [(Qx6 p0)] hφ0 (pc (.rn (Qae rfl)) pn) (qc (spr Qaa) qn)) ?_
  refine Qai ?_
  obtain rfl := osi h
  exact ⟨_, Mor.rfl, Qc2 (vs := [(.own 0 1 (0) (p0.length))]) ⟨rot (by kernel_rfl), trivial⟩ rfl (NLt.own _ _ _ _ (by decide)) (by kernel_rfl) (Qat (Qd6 Qaa _) Qbu)⟩
def Qa4 (_N : Nat) (_p0 : (List GNode)) : Option Unit :=
  some ()
def Qx5 (p0 : (List GNode)) : AV := .dat 4 ((p0 : List GNode).map Qac)
def Qvo : AV := .fn (.func 105) [] [(.ref 0 1 (0) 0)]
set_option maxRecDepth 100000 in
set_option maxHeartbeats 4000000 in
theorem Qcu (N : Nat) (p0 : (List GNode)) (r : Unit) (h : Qa4 N p0 = some r) : Spec Try.prog 86 [(Qx5 p0)] [] Qvo [(.own 1 [[(Qx5 p0)]])] := by
  refine Qaj Try.func86 rfl 1 (nle rfl) (fun X φ0 w0 hφ0 => ?_)
  unfold Qa4 at h
  refine Qc3 ?_
  refine wx tbk [] trivial ?_
  refine wx tbk [(0, rp [(.tmp 1, .ref 0 1 0 0)] Qvo)] ⟨Qf3 (fs := []) (cs := [.ref 0 1 0 0]) rfl rfl rfl rfl, trivial⟩ ?_
  refine wmr (mto (n := 4) (l' := [(2, Qvo)]) (own' := [(.own 1 [[(Qx5 p0)]])]) [(2, Qvo)] [0] [(.own 1 [[(Qx5 p0)]])] hφ0 (pc (.rn (Qaw rn0 (rnc (rqr rfl) rn0))) pn) (qc (spb (lc (.rn (.plain _ (nld Qab _))) ln)) qn)) ?_
  refine Qai ?_
  obtain rfl := osi h
  exact ⟨_, Mor.rfl, Qc2 (vs := [Qvo]) ⟨rot (by kernel_rfl), trivial⟩ rfl (NLt.fn _ _ _ nl0 (nlc (NLt.ref _ _ _ _ (by decide)) nl0)) (by kernel_rfl) (Qat (Qb1 (nlc (NLt.of0 (nld Qab _)) nl0)) Qbu)⟩
def Qav (N : Nat) (p0 : (List GNode)) : Nat → Int → Option (List (Int × GNode))
  | 0, _ => none
  | n7 + 1, y3 =>
    bif (decide (y3 ≥ 0)) then
     (getI p0 y3).bind fun x9 =>
     yld (y3, x9) <|
     Qav N p0 n7 (w64 (y3 - 1))
    else
     some ([])
def Qa3 (N : Nat) (p0 : (List GNode)) : Option (List (Int × GNode)) :=
  (some (w64 ((p0.length : Int) - 1))).bind fun x1 =>
  Qav N p0 N x1
def Ql1 (p0 : (List GNode)) : AV := .dat 4 ((p0 : List GNode).map Qac)
def Qx4 (x9 : GNode) : AV := .agg [(I (x9.Parent)), (I (x9.Loss)), (I (x9.Limit)), (I (x9.Rank))]
set_option maxRecDepth 100000 in
set_option maxHeartbeats 4000000 in
theorem Qct (N : Nat) (p0 : (List GNode)) (r : (List (Int × GNode))) (h : Qa3 N p0 = some r) : Qnr Try.prog 105 [(.ref 0 1 (0) 0)] [(.own 1 [[(Ql1 p0)]])] (fun x => [(.int .i64 (x.1)), (.agg #[(.int .i64 (x.2.Parent)), (.int .i64 (x.2.Loss)), (.int .i64 (x.2.Limit)), (.int .i64 (x.2.Rank))])]) r := by
  refine Qn1 Try.func105 rfl rfl (fun X φ0 w0 l J hφ0 hy => ?_)
  unfold Qa3 at h
  obtain ⟨x1, hl2, h⟩ := bno h
  refine wx tbk [(1, rp [(.tmp 4, (Ql1 p0))] (I ((p0.length : Int)))), (3, rp [(.tmp 6, (I (w64 ((p0.length : Int) - 1))))] (I x1))] ⟨alm (c := Qac) (l := p0) (aln rfl Try.underlying31 rfl), Qe0 hl2 (aas rfl), trivial⟩ ?_
  refine Qah ?_
  refine wmr (mto (n := 19) (l' := [(0, (.lit (.func (.yield l) #[] #[]))), (1, .ref 0 1 0 0), (3, I x1)]) (own' := [(.own 1 [[(Ql1 p0)]]), (.far (J (some (r))))]) [(0, (.lit (.func (.yield l) #[] #[]))), (1, .ref 0 1 0 0), (3, I x1)] [0, 1] [(.own 1 [[(Ql1 p0)]]), (.far (J (some (r))))] hφ0 (pc rwl (pc (.rn (rqr rfl)) (pc rwl pn))) (qc (spb (lc (.rn (.plain _ (nld Qab _))) ln)) (qc (.far _) qn))) ?_
  refine Qb7 (τ := (Int) × List (Int × GNode)) (fun n t => Qav N p0 n t.1 = some t.2) (fun ⟨y3, q4⟩ => ⟨mk 19 [(0, (.lit (.func (.yield l) #[] #[]))), (1, .ref 0 1 0 0), (3, I y3)], [(.own 1 [[(Ql1 p0)]]), (.far (J (some (q4))))]⟩) (fun t h => by rw [Qav] at h; cases h) (fun n7 ih t h => ?_) N ((x1), r) h
  obtain ⟨y3, q4⟩ := t
  rw [Qav] at h
  try dsimp only at h
  refine wsq ?_
  refine wx tbk [] trivial ?_
  rcases bft ((decide (y3 ≥ 0))) with hc8 | hc8
  ·replace h := Qar hc8 h
   refine wft hc8 (by kernel_rfl) ?_
   refine Qaf ?_
   refine thn ?_
   refine wsq ?_
   refine Qah ?_
   obtain ⟨x9, hg10, h⟩ := bno h
   obtain ⟨hi11, hj12⟩ := gsm hg10
   obtain ⟨q13, hy_, hq_⟩ := Qvq h
   clear h
   subst hq_
   have h := hy_
   clear hy_
   refine Qtu 6 [mv 0 (.lit (.func (.yield l) #[] #[])), mv 3 (I y3), rb [(.tmp 1, .ref 0 1 0 0)] [(0, (.own 1 [[(Ql1 p0)]]))] (Ql1 p0), mv 3 (I y3), rp [(.tmp 13, (Ql1 p0)), (.tmp 14, I y3)] (.dptr (Qac (x9)) 0), rp [(.tmp 15, (.dptr (Qac (x9)) 0))] (Qx4 x9), ⟨[(.tmp 11, (.lit (.func (.yield l) #[] #[]))), (.tmp 12, I y3), (.tmp 16, (Qx4 x9))], [(1, (.far (J (some ((y3, x9) :: q13)))))], B true, [(1, (.far (J (some (q13)))))], false⟩, rp [(.tmp 17, B true)] (B false)] [mv 0 (.lit (.func (.yield l) #[] #[])), mv 3 (I y3), rb [(.tmp 1, .ref 0 1 0 0)] [(0, (.own 1 [[(Ql1 p0)]]))] (Ql1 p0), mv 3 (I y3), rp [(.tmp 13, (Ql1 p0)), (.tmp 14, I y3)] (.dptr (Qac (x9)) 0), rp [(.tmp 15, (.dptr (Qac (x9)) 0))] (Qx4 x9), ⟨[(.tmp 11, (.lit (.func (.yield l) #[] #[]))), (.tmp 12, I y3), (.tmp 16, (Qx4 x9))], [(1, (.far (J (some ((y3, x9) :: q13)))))], B false, [(1, (.far (J none)))], false⟩, rp [(.tmp 17, B false)] (B true)] (by exact ⟨by kernel_rfl, by kernel_rfl⟩) (by exact ⟨by kernel_rfl, by kernel_rfl⟩) rfl rfl rfl rfl (Qnm (rd' := (.tmp 11, .lit (.func (.yield l) #[] #[])) :: [(.tmp 12, .lit (.int .i64 (y3))), (.tmp 16, .lit (.agg #[(.int .i64 (x9.Parent)), (.int .i64 (x9.Loss)), (.int .i64 (x9.Limit)), (.int .i64 (x9.Rank))]))]) ⟨rfl, lrf, rfl, lrf, rfl, (Less.lits [(.int .i64 (x9.Parent)), (.int .i64 (x9.Loss)), (.int .i64 (x9.Limit)), (.int .i64 (x9.Rank))]), trivial⟩ (Qlw (x := (y3, x9)) (rest := q13) rfl rfl hy rfl)) (⟨fun _ _ => amv rfl, fun _ _ => amv rfl, fun _ _ => ald rfl ti31 (by decide) rfl (nle rfl) rfl, fun _ _ => amv rfl, fun _ _ => aid rfl Try.underlying31 Qil rfl rfl hi11 (mgt Qac hj12) rfl, fun _ _ => ald_ rfl Qil (by decide) (nle rfl) rfl, fun _ h => absurd rfl h, fun _ _ => Qjh rfl, trivial⟩) (⟨fun _ _ => amv rfl, fun _ _ => amv rfl, fun _ _ => ald rfl ti31 (by decide) rfl (nle rfl) rfl, fun _ _ => amv rfl, fun _ _ => aid rfl Try.underlying31 Qil rfl rfl hi11 (mgt Qac hj12) rfl, fun _ _ => ald_ rfl Qil (by decide) (nle rfl) rfl, fun _ h => absurd rfl h, fun _ _ => Qjh rfl, trivial⟩) ?_ ?_
   ·skip
    refine Qd3 (by kernel_rfl) ?_
    refine Qaf ?_
    refine bln ?_
    refine thn ?_
    refine wx1 tbk [] trivial ?_
    refine thn ?_
    exact arm (mto (n := 19) [(0, (.lit (.func (.yield l) #[] #[]))), (1, .ref 0 1 0 0), (3, (I (w64 (y3 - 1))))] [0, 1] [(.own 1 [[(Ql1 p0)]]), (.far (J (some (q13))))] hφ0 (pc rwl (pc (.rn (rqr rfl)) (pc rwl pn))) (qc (spb (lc (.rn (.plain _ (nld Qab _))) ln)) (qc (.far _) qn))) (ih ((w64 (y3 - 1)), q13) h)
   ·clear h
    refine Qbs (by kernel_rfl) ?_
    refine Qai ?_
    refine Qaq ?_
    refine Qag ?_
    refine Qag ?_
    refine Qaq ?_
    exact Or.inr (by kernel_rfl)
  ·replace h := Qas hc8 h
   refine wfn hc8 (by kernel_rfl) ?_
   refine Qbc ?_
   refine Qao ?_
   refine Qao ?_
   refine Qbb rfl ?_
   obtain rfl := osi h
   exact Or.inl rfl
def Qes (_N : Nat) (p0 : Int) (p1 : Nat) (p2 : (List GNode)) (p3 : (List Int)) : Option (List Int) :=
  Qcv (fun y2 =>
    (getI p2 p0).bind fun x4 =>
    bif (decide (x4.Parent ≥ 0)) then
     chk (decide (0 ≤ x4.Parent) && decide (x4.Parent.toNat < p1)) <|
     (y2[x4.Parent.toNat]?).bind fun x10 =>
     chk (decide (0 ≤ p0) && decide (p0.toNat < p1)) <|
     (y2[p0.toNat]?).bind fun x13 =>
     chk (decide (0 ≤ x4.Parent) && decide (x4.Parent.toNat < p1)) <|
     (y2[x4.Parent.toNat]?).bind fun _ =>
     some (y2.set x4.Parent.toNat (w64 (x10 + x13)))
    else
     some y2) fun k3 : (List Int) → Option (List Int) =>
  chk (decide (0 ≤ p0) && decide (p0.toNat < p1)) <|
  (p3[p0.toNat]?).bind fun x19 =>
  bif (decide (x19 > 0)) then
   chk (decide (0 ≤ p0) && decide (p0.toNat < p1)) <|
   (p3[p0.toNat]?).bind fun x23 =>
   (getI p2 p0).bind fun x25 =>
   chk (decide (0 ≤ p0) && decide (p0.toNat < p1)) <|
   (p3[p0.toNat]?).bind fun _ =>
   k3 (p3.set p0.toNat (w64 (x23 + x25.Loss)))
  else
   k3 (p3)
def Qox (p1 : Nat) : Slot := .own 1 [[(.own 2 1 (0) (p1))]]
def Qmq (p2 : (List GNode)) : AV := .dat 4 ((p2 : List GNode).map Qac)
def Qp6 (p3 : (List Int)) : Slot := .own 1 ((p3 : List Int).map Qad)
def Qow (y2 : (List Int)) : Slot := .own 1 ((y2 : List Int).map Qad)
set_option maxRecDepth 100000 in
set_option maxHeartbeats 4000000 in
theorem Qf7 (N : Nat) (p0 : Int) (p1 : Nat) (p2 : (List GNode)) (p3 : (List Int)) (r : (List Int)) (h : Qes N p0 p1 p2 p3 = some r) : Spec Try.prog 98 [(I (p0)), (.ref 0 1 (0) 0), (.ref 1 1 (0) 0)] [(Qox p1), (.own 1 [[(Qmq p2)]]), (Qp6 p3)] (.tup []) [(Qox p1), (.own 1 [[(Qmq p2)]]), (.own 1 ((r : List Int).map Qad))] := by
  refine Qaj Try.func98 rfl 3 (nle rfl) (fun X φ0 w0 hφ0 => ?_)
  unfold Qes at h
  refine Qc3 ?_
  obtain ⟨k3, hk_k3, h⟩ := jko h
  refine wjn (τ := (List Int)) (fun t => k3 t = some r) (fun y2 => ⟨mk 38 [(0, I p0), (1, .ref 0 1 0 0), (2, .ref 1 1 0 0)], [(Qox p1), (.own 1 [[(Qmq p2)]]), (Qow y2)]⟩) (fun y2 h => ?_) ?_
  ·subst hk_k3
   obtain ⟨x4, hg5, h⟩ := bno h
   obtain ⟨hi6, hj7⟩ := gsm hg5
   refine wx tbk [(2, rp [(.tmp 21, (Qmq p2)), (.tmp 22, I p0)] (.dptr (Qac (x4)) 0))] ⟨aid rfl Try.underlying31 Qil rfl rfl hi6 (mgt Qac hj7) rfl, trivial⟩ ?_
   refine wx tbk [] trivial ?_
   rcases bft ((decide (x4.Parent ≥ 0))) with hc8 | hc8
   ·replace h := Qar hc8 h
    refine wft hc8 (by kernel_rfl) ?_
    obtain ⟨hi9, h⟩ := cko h
    obtain ⟨hi9a, hi9b⟩ := Qa5 hi9
    obtain ⟨x10, hg11, h⟩ := bno h
    obtain ⟨hi12, h⟩ := cko h
    obtain ⟨hi12a, hi12b⟩ := Qa5 hi12
    obtain ⟨x13, hg14, h⟩ := bno h
    obtain ⟨hi15, h⟩ := cko h
    obtain ⟨hi15a, hi15b⟩ := Qa5 hi15
    obtain ⟨x16, hg17, h⟩ := bno h
    refine wy1 tbk [(2, rb [(.tmp 28, (.own 2 1 (0) (p1))), (.tmp 29, I x4.Parent)] [(2, (Qow y2))] (.ref 2 1 (x4.Parent.toNat) 0)), (3, rb [(.tmp 30, (.ref 2 1 (x4.Parent.toNat) 0))] [(2, (Qow y2))] (I x10)), (6, rb [(.tmp 32, (.own 2 1 (0) (p1))), (.tmp 33, I p0)] [(2, (Qow y2))] (.ref 2 1 (p0.toNat) 0)), (7, rb [(.tmp 34, (.ref 2 1 (p0.toNat) 0))] [(2, (Qow y2))] (I x13)), (9, rb [(.tmp 28, (.own 2 1 (0) (p1))), (.tmp 29, I x4.Parent)] [(2, (Qow y2))] (.ref 2 1 (x4.Parent.toNat) 0)), (10, ⟨[(.tmp 37, (.ref 2 1 (x4.Parent.toNat) 0)), (.tmp 36, (I (w64 (x10 + x13))))], [(2, (Qow y2))], .any, [(2, (.own 1 ((y2.set x4.Parent.toNat (w64 (x10 + x13)) : List Int).map Qad)))], false⟩)] ⟨aio rfl Try.underlying23 ti3 (odt hi9a) (odt hi9b) (Nat.zero_add _), ald rfl ti3 (by decide) (mgt Qad hg11) (nle rfl) rfl, aio rfl Try.underlying23 ti3 (odt hi12a) (odt hi12b) (Nat.zero_add _), ald rfl ti3 (by decide) (mgt Qad hg14) (nle rfl) rfl, aio rfl Try.underlying23 ti3 (odt hi15a) (odt hi15b) (Nat.zero_add _), ast rfl ti3 (by rfl) (mgt Qad hg17) (nle rfl) (Qei Qad rfl), trivial⟩ ?_
    obtain rfl := osi h
    exact ⟨_, (mto (n := 38) (l' := []) (own' := [(Qox p1), (.own 1 [[(Qmq p2)]]), (.own 1 (((y2.set x4.Parent.toNat (w64 (x10 + x13))) : List Int).map Qad))]) [] [0, 1, 2] [(Qox p1), (.own 1 [[(Qmq p2)]]), (.own 1 ((y2.set x4.Parent.toNat (w64 (x10 + x13)) : List Int).map Qad))] hφ0 pn (qc (spb (lc (.rn (Qae rfl)) ln)) (qc (spb (lc (.rn (.plain _ (nld Qab _))) ln)) (qc (spr Qaa) qn)))), Qc2 (vs := []) trivial rfl (NLt.tup _ nl0) (by kernel_rfl) (Qat (Qb1 (nlc (NLt.own _ _ _ _ (by decide)) nl0)) (Qat (Qb1 (nlc (NLt.of0 (nld Qab _)) nl0)) (Qat (Qd6 Qaa _) Qbu)))⟩
   ·replace h := Qas hc8 h
    refine wfn hc8 (by kernel_rfl) ?_
    refine Qaf ?_
    obtain rfl := osi h
    exact ⟨_, (mto (n := 38) (l' := []) (own' := [(Qox p1), (.own 1 [[(Qmq p2)]]), (Qow y2)]) [] [0, 1, 2] [(Qox p1), (.own 1 [[(Qmq p2)]]), (Qow y2)] hφ0 pn (qc (spb (lc (.rn (Qae rfl)) ln)) (qc (spb (lc (.rn (.plain _ (nld Qab _))) ln)) (qc (spr Qaa) qn)))), Qc2 (vs := []) trivial rfl (NLt.tup _ nl0) (by kernel_rfl) (Qat (Qb1 (nlc (NLt.own _ _ _ _ (by decide)) nl0)) (Qat (Qb1 (nlc (NLt.of0 (nld Qab _)) nl0)) (Qat (Qd6 Qaa _) Qbu)))⟩
  ·skip
   obtain ⟨hi18, h⟩ := cko h
   obtain ⟨hi18a, hi18b⟩ := Qa5 hi18
   obtain ⟨x19, hg20, h⟩ := bno h
   refine wx tbk [(2, rb [(.tmp 5, (.own 2 1 (0) (p1))), (.tmp 6, I p0)] [(2, (Qp6 p3))] (.ref 2 1 (p0.toNat) 0)), (3, rb [(.tmp 7, (.ref 2 1 (p0.toNat) 0))] [(2, (Qp6 p3))] (I x19))] ⟨aio rfl Try.underlying23 ti3 (odt hi18a) (odt hi18b) (Nat.zero_add _), ald rfl ti3 (by decide) (mgt Qad hg20) (nle rfl) rfl, trivial⟩ ?_
   rcases bft ((decide (x19 > 0))) with hc21 | hc21
   ·replace h := Qar hc21 h
    refine wft hc21 (by kernel_rfl) ?_
    obtain ⟨hi22, h⟩ := cko h
    obtain ⟨hi22a, hi22b⟩ := Qa5 hi22
    obtain ⟨x23, hg24, h⟩ := bno h
    obtain ⟨x25, hg26, h⟩ := bno h
    obtain ⟨hi27, hj28⟩ := gsm hg26
    obtain ⟨hi29, h⟩ := cko h
    obtain ⟨hi29a, hi29b⟩ := Qa5 hi29
    obtain ⟨x30, hg31, h⟩ := bno h
    refine wy1 tbk [(2, rb [(.tmp 10, (.own 2 1 (0) (p1))), (.tmp 11, I p0)] [(2, (Qp6 p3))] (.ref 2 1 (p0.toNat) 0)), (3, rb [(.tmp 12, (.ref 2 1 (p0.toNat) 0))] [(2, (Qp6 p3))] (I x23)), (6, rp [(.tmp 14, (Qmq p2)), (.tmp 15, I p0)] (.dptr (Qac (x25)) 0)), (10, rb [(.tmp 10, (.own 2 1 (0) (p1))), (.tmp 11, I p0)] [(2, (Qp6 p3))] (.ref 2 1 (p0.toNat) 0)), (11, ⟨[(.tmp 20, (.ref 2 1 (p0.toNat) 0)), (.tmp 19, (I (w64 (x23 + x25.Loss))))], [(2, (Qp6 p3))], .any, [(2, (.own 1 ((p3.set p0.toNat (w64 (x23 + x25.Loss)) : List Int).map Qad)))], false⟩)] ⟨aio rfl Try.underlying23 ti3 (odt hi22a) (odt hi22b) (Nat.zero_add _), ald rfl ti3 (by decide) (mgt Qad hg24) (nle rfl) rfl, aid rfl Try.underlying31 Qil rfl rfl hi27 (mgt Qac hj28) rfl, aio rfl Try.underlying23 ti3 (odt hi29a) (odt hi29b) (Nat.zero_add _), ast rfl ti3 (by rfl) (mgt Qad hg31) (nle rfl) (Qei Qad rfl), trivial⟩ ?_
    refine thn ?_
    exact ⟨(p3.set p0.toNat (w64 (x23 + x25.Loss))), h, (mto (n := 38) [(0, I p0), (1, .ref 0 1 0 0), (2, .ref 1 1 0 0)] [0, 1, 2] [(Qox p1), (.own 1 [[(Qmq p2)]]), (.own 1 ((p3.set p0.toNat (w64 (x23 + x25.Loss)) : List Int).map Qad))] hφ0 (pc rwl (pc (.rn (rqr rfl)) (pc (.rn (rqr rfl)) pn))) (qc (spb (lc (.rn (Qae rfl)) ln)) (qc (spb (lc (.rn (.plain _ (nld Qab _))) ln)) (qc (spr Qaa) qn))))⟩
   ·replace h := Qas hc21 h
    refine wfn hc21 (by kernel_rfl) ?_
    refine Qaf ?_
    refine thn ?_
    exact ⟨(p3), h, (mto (n := 38) [(0, I p0), (1, .ref 0 1 0 0), (2, .ref 1 1 0 0)] [0, 1, 2] [(Qox p1), (.own 1 [[(Qmq p2)]]), (Qp6 p3)] hφ0 (pc rwl (pc (.rn (rqr rfl)) (pc (.rn (rqr rfl)) pn))) (qc (spb (lc (.rn (Qae rfl)) ln)) (qc (spb (lc (.rn (.plain _ (nld Qab _))) ln)) (qc (spr Qaa) qn))))⟩
def Qdn (N : Nat) (p0 : (List GNode)) (p1 : (List Int)) (k6 : (List Int) → Option (List Int)) : (List (Int × GNode)) → (List Int) → Option (List Int)
  | [], y12 =>
    k6 (y12)
  | x15 :: q16, y12 =>
    (Qes N x15.1 p1.length p0 y12).bind fun x25 =>
    Qdn N p0 p1 k6 q16 x25
def Qg0 (N : Nat) (p0 : (List GNode)) (p1 : (List Int)) : Option (List Int) :=
  (Qed N p1).bind fun _ =>
  Qcv (fun y5 =>
    chk (decide (p1.length ≤ y5.length)) <|
    some (y5.take p1.length)) fun k6 : (List Int) → Option (List Int) =>
  (Qa4 N p0).bind fun _ =>
  (Qa3 N p0).bind fun q10 =>
  Qdn N p0 p1 k6 q10 p1
def Qx7 (p1 : (List Int)) : Slot := .own 1 ((p1 : List Int).map Qad)
def z10_4 : AV := .fn (.func 98) [] [(.ref 2 1 (0) 0), (.ref 0 1 (0) 0)]
def Qs4 (y5 : (List Int)) (p1 : (List Int)) : AV := .dat 1 ((y5.take p1.length : List Int).map Qad)
def Qjt (p0 : (List GNode)) : AV := .dat 4 ((p0 : List GNode).map Qac)
def z10_6 : AV := .fn (.func 105) [] [(.ref 4 1 (0) 0)]
def Qo4 (p1 : (List Int)) : Slot := .own 1 [[(.own 3 1 (0) (p1.length))]]
def Qvp : AV := .fn (.func 98) [] [(.ref 0 1 (0) 0), (.ref 4 1 (0) 0)]
def Qs3 (y12 : (List Int)) : Slot := .own 1 ((y12 : List Int).map Qad)
def Qs2 (x25 : (List Int)) : Slot := .own 1 ((x25 : List Int).map Qad)
set_option maxRecDepth 100000 in
set_option maxHeartbeats 4000000 in
theorem Qj7 (N : Nat) (p0 : (List GNode)) (p1 : (List Int)) (r : (List Int)) (h : Qg0 N p0 p1 = some r) : Spec Try.prog 71 [(.dat 4 (p0.map Qac)), (.dat 1 (p1.map Qad))] [] (.dat 1 ((r : List Int).map Qad)) [] := by
  refine Qaj Try.func71 rfl 0 (nle rfl) (fun X φ0 w0 hφ0 => ?_)
  unfold Qg0 at h
  refine Qc3 ?_
  refine wx tbk [] trivial ?_
  obtain ⟨x4, hf3, h⟩ := bno h
  refine wx tbk [(1, ⟨[fu 97, (.tmp 8, (.dat 1 ((p1 : List Int).map Qad)))], [(1, .unused)], (.own 1 1 (0) (p1.length)), [(1, (Qx7 p1))], false⟩)] ⟨Qaz (first := []) (cap := []) (vs := [(.dat 1 ((p1 : List Int).map Qad))]) (σr := []) (σr' := [(Qx7 p1)]) (res' := (.own 1 1 (0) (p1.length))) [1] rfl Qwy (Qfr N p1 _ hf3) rfl (Qc5 (rnc (.plain _ (nld Qaa _)) rn0)) Qau (slc (Qbx Qaa) Qau) (Qhj rfl) rfl rfl rfl, trivial⟩ ?_
  refine wx tbk [(0, rp [(.tmp 5, .ref 2 1 0 0), (.tmp 2, .ref 0 1 0 0)] z10_4)] ⟨Qf3 (fs := []) (cs := [.ref 2 1 0 0, .ref 0 1 0 0]) rfl rfl rfl rfl, trivial⟩ ?_
  obtain ⟨k6, hk_k6, h⟩ := jko h
  refine wjn (τ := (List Int)) (fun t => k6 t = some r) (fun y5 => ⟨mk 19 [(5, .ref 0 1 0 0)], [(.own 1 [[(.own 1 1 (0) (p1.length))]]), (.own 1 ((y5 : List Int).map Qad))]⟩) (fun y5 h => ?_) ?_
  ·subst hk_k6
   refine wx tbk [] trivial ?_
   obtain ⟨hz7, h⟩ := cko h
   refine wmr (Qm6 (n := 19) (l' := [(4, (Qs4 y5 p1))]) 1 [(4, (.own 1 1 (0) (p1.length)))] (by kernel_rfl) (by kernel_rfl) (by kernel_rfl) ⟨rfl, (Qjc hz7), trivial⟩ rfl) ?_
   refine wmr (mto (n := 19) (l' := [(4, (Qs4 y5 p1))]) (own' := []) [(4, (Qs4 y5 p1))] [] [] hφ0 (pc (.rn (.plain _ (nld Qaa _))) pn) qn) ?_
   refine Qai ?_
   obtain rfl := osi h
   exact ⟨_, Mor.rfl, Qc2 (vs := [(Qs4 y5 p1)]) ⟨rot (by kernel_rfl), trivial⟩ rfl (nld Qaa _) (by kernel_rfl) Qbu⟩
  ·skip
   obtain ⟨x9, hf8, h⟩ := bno h
   refine wx tbk [(1, ⟨[fu 86, (.tmp 11, (Qjt p0))], [(4, .unused)], z10_6, [(4, (.own 1 [[(Qjt p0)]]))], false⟩)] ⟨Qaz (first := []) (cap := []) (vs := [(Qjt p0)]) (σr := []) (σr' := [(.own 1 [[(Qjt p0)]])]) (res' := z10_6) [4] rfl Qr1 (Qcu N p0 _ hf8) rfl (Qc5 (rnc (.plain _ (nld Qab _)) rn0)) Qau (slc (Qal (rnc (.plain _ (nld Qab _)) rn0)) Qau) (Qaw rn0 (rnc (Qga rfl) rn0)) rfl rfl rfl, trivial⟩ ?_
   refine Qah ?_
   obtain ⟨q10, hL11, h⟩ := bno h
   refine wmr (mto (n := 19) (l' := [(5, .ref 0 1 0 0), (6, .ref 1 1 0 0), (12, (.fn (.func 105) [] [.ref 2 1 0 0]))]) (own' := [(Qo4 p1), (.own 1 [[Qvp]]), (.own 1 [[(Qjt p0)]]), (Qx7 p1), (.own 1 [[(Qjt p0)]])]) [(5, .ref 2 1 0 0), (6, .ref 3 1 0 0), (12, z10_6)] [2, 3, 4, 1, 0] [(.own 1 [[(.own 1 1 (0) (p1.length))]]), (.own 1 [[z10_4]]), (.own 1 [[(Qjt p0)]]), (Qx7 p1), (.own 1 [[(Qjt p0)]])] hφ0 (pc (.rn (rqr rfl)) (pc (.rn (rqr rfl)) (pc (.rn (Qaw rn0 (rnc (rqr rfl) rn0))) pn))) (qc (spb (lc (.rn (Qae rfl)) ln)) (qc (spb (lc (.rn (Qaw rn0 (rnc (rqr rfl) (rnc (rqr rfl) rn0)))) ln)) (qc (spb (lc (.rn (.plain _ (nld Qab _))) ln)) (qc (spr Qaa) (qc (spb (lc (.rn (.plain _ (nld Qab _))) ln)) qn)))))) ?_
   refine Qid (τ := ((List Int))) (kb := 5) (caps := [.ref 2 1 0 0]) (σr := [(.own 1 [[(Qjt p0)]])]) (encs := fun x => [(.int .i64 (x.1)), (.agg #[(.int .i64 (x.2.Parent)), (.int .i64 (x.2.Loss)), (.int .i64 (x.2.Limit)), (.int .i64 (x.2.Rank))])]) (fun x => [I x.1, (.agg [I x.2.Parent, I x.2.Loss, I x.2.Limit, I x.2.Rank])]) [2] (fun n hn => hφ0 n (Nat.le_trans (nle rfl) hn)) (Qct N p0 _ hL11) Qpm (by kernel_rfl) (by kernel_rfl) (Qc5 (rnc (Qga rfl) rn0)) (slc (Qal (rnc (.plain _ (nld Qab _)) rn0)) Qau) (by kernel_rfl) (fun _ => rfl) (fun x => ⟨lrf, (Less.unlits [(.int .i64 (x.2.Parent)), (.int .i64 (x.2.Loss)), (.int .i64 (x.2.Limit)), (.int .i64 (x.2.Rank))]), trivial⟩) (Qql (Qee (NLt.ref _ _ _ _ (by decide)) (Qee (NLt.ref _ _ _ _ (by decide)) (Qee (NLt.fn _ _ _ nl0 (nlc (NLt.ref _ _ _ _ (by decide)) nl0)) Qm3)))) (fun y12 => [(Qo4 p1), (.own 1 [[Qvp]]), .dead, (Qs3 y12), (.own 1 [[(Qjt p0)]])]) (fun _ => rfl) (fun _ => rfl) (fun l t => Qdn N p0 p1 k6 l t = some r) (p1) h (by kernel_rfl) ?_ ?_
   ·intro l17 o18 X21 φ22 w23 hφ20 x15 q16 y12 h
    rw [Qdn] at h
    refine wx1 tbk [] trivial ?_
    refine ⟨by kernel_rfl, fun o19 => ?_⟩
    refine Qah ?_
    obtain ⟨x25, hf24, h⟩ := bno h
    refine wx1 tbk [(2, ⟨[(.tmp 15, Qvp), (.tmp 16, I x15.1)], [(0, (Qo4 p1)), (4, (.own 1 [[(Qjt p0)]])), (3, (Qs3 y12))], (.tup []), [(0, (Qo4 p1)), (4, (.own 1 [[(Qjt p0)]])), (3, (Qs2 x25))], false⟩)] ⟨Qaz (first := []) (cap := [.ref 0 1 0 0, .ref 4 1 0 0]) (vs := [I x15.1]) (σr := [(Qo4 p1), (.own 1 [[(Qjt p0)]]), (Qs3 y12)]) (σr' := [(Qo4 p1), (.own 1 [[(Qjt p0)]]), (Qs2 x25)]) (res' := (.tup [])) [0, 4, 3] rfl Qwx (Qf7 N x15.1 p1.length p0 y12 _ hf24) rfl (Qc5 (rnc (.plain _ nll) (rnc (Qby rfl) (rnc (Qby rfl) rn0)))) (slc (Qal (rnc (Qeo rfl) rn0)) (slc (Qal (rnc (.plain _ (nld Qab _)) rn0)) (slc (Qbx Qaa) Qau))) (slc (Qal (rnc (Qhj rfl) rn0)) (slc (Qal (rnc (.plain _ (nld Qab _)) rn0)) (slc (Qbx Qaa) Qau))) (.plain _ (NLt.tup _ nl0)) rfl rfl rfl, trivial⟩ ?_
    refine bln ?_
    exact ⟨(x25), h, Qmx (own' := [(Qo4 p1), (.own 1 [[Qvp]]), .dead, (Qs2 x25), (.own 1 [[(Qjt p0)]]), (.far (farL l17 o19))]) [0, 1, 2, 3, 4, 5] [(Qo4 p1), (.own 1 [[Qvp]]), .dead, (Qs2 x25), (.own 1 [[(Qjt p0)]]), (.far (farL l17 o19))] (by kernel_rfl) (by kernel_rfl) ⟨(spb (lc (.rn (Qae rfl)) ln)), (spb (lc (.rn (Qaw rn0 (rnc (rqr rfl) (rnc (rqr rfl) rn0)))) ln)), .dead, (spr Qaa), (spb (lc (.rn (.plain _ (nld Qab _))) ln)), .far _, trivial⟩⟩
   ·intro y12 h
    rw [Qdn] at h
    refine bln ?_
    refine thn ?_
    exact ⟨(y12), h, (mto (n := 19) [(5, .ref 0 1 0 0)] [0, 3] [(Qo4 p1), (Qs3 y12)] hφ0 (pc (.rn (rqr rfl)) pn) (qc (spb (lc (.rn (Qae rfl)) ln)) (qc (spr Qaa) qn)))⟩
def Qde (N : Nat) (p0 : (List GNode)) (k1 : Unit → Option Int) (p1 : (List Int)) : Nat → Int → Option Int
  | 0, _ => none
  | n4 + 1, y2 =>
    bif (decide (y2 < (p1.length : Int))) then
     (getI p1 y2).bind fun x6 =>
     bif (decide (y2 > 0)) then
      (getI p0 y2).bind fun x11 =>
      bif (decide (x6 > x11.Limit)) then
       some y2
      else
       Qde N p0 k1 p1 n4 (w64 (y2 + 1))
     else
      Qde N p0 k1 p1 n4 (w64 (y2 + 1))
    else
     k1 ()
def Qf6 (N : Nat) (p0 : (List GNode)) (p1 : (List Int)) : Option Int :=
  Qcv (fun _ =>
    some (-1)) fun k1 : Unit → Option Int =>
  Qde N p0 k1 p1 N 0
def Qrk (p1 : (List Int)) : AV := .dat 1 ((p1 : List Int).map Qad)
def Qua (p0 : (List GNode)) : AV := .dat 4 ((p0 : List GNode).map Qac)
set_option maxRecDepth 100000 in
set_option maxHeartbeats 4000000 in
theorem Qf5 (N : Nat) (p0 : (List GNode)) (p1 : (List Int)) (r : Int) (h : Qf6 N p0 p1 = some r) : Spec Try.prog 72 [(.dat 4 (p0.map Qac)), (.dat 1 (p1.map Qad))] [] (I r) [] := by
  refine Qaj Try.func72 rfl 0 (nle rfl) (fun X φ0 w0 hφ0 => ?_)
  unfold Qf6 at h
  refine wx tbk [] trivial ?_
  obtain ⟨k1, hk_k1, h⟩ := jko h
  refine wjn (τ := Unit) (fun t => k1 t = some r) (fun _ => ⟨mk 27 [], []⟩) (fun t h => ?_) ?_
  ·subst hk_k1
   refine wx tbk [] trivial ?_
   refine Qai ?_
   obtain rfl := osi h
   exact fend ⟨[(I ((-1)))], ⟨rot (by kernel_rfl), trivial⟩, rfl⟩ nll
  ·skip
   refine wx tbk [(1, rp [(.tmp 7, (Qrk p1))] (I ((p1.length : Int))))] ⟨alm (c := Qad) (l := p1) (aln rfl Try.underlying23 rfl), trivial⟩ ?_
   refine Qah ?_
   refine wmr (mto (n := 27) (l' := [(0, (Qua p0)), (7, (Qrk p1)), (8, (I ((p1.length : Int)))), (9, I 0)]) (own' := []) [(0, (Qua p0)), (7, (Qrk p1)), (8, (I ((p1.length : Int)))), (9, I 0)] [] [] hφ0 (pc (.rn (.plain _ (nld Qab _))) (pc (.rn (.plain _ (nld Qaa _))) (pc rwl (pc rwl pn)))) qn) ?_
   refine Qb7 (τ := Int) (fun n t => Qde N p0 k1 p1 n t = some r) (fun y2 => ⟨mk 27 [(0, (Qua p0)), (7, (Qrk p1)), (8, (I ((p1.length : Int)))), (9, I y2)], []⟩) (fun t h => by rw [Qde] at h; cases h) (fun n4 ih y2 h => ?_) N (0) h
   rw [Qde] at h
   skip
   refine wx tbk [] trivial ?_
   refine wsq ?_
   rcases bft ((decide (y2 < (p1.length : Int)))) with hc5 | hc5
   ·replace h := Qar hc5 h
    refine wft hc5 (by kernel_rfl) ?_
    refine Qaf ?_
    refine thn ?_
    refine wsq ?_
    refine Qah ?_
    obtain ⟨x6, hg7, h⟩ := bno h
    obtain ⟨hi8, hj9⟩ := gsm hg7
    refine wx tbk [(1, rp [(.tmp 7, (Qrk p1)), (.tmp 9, I y2)] (.dptr (Qad (x6)) 0))] ⟨aid rfl Try.underlying23 ti3 rfl rfl hi8 (mgt Qad hj9) rfl, trivial⟩ ?_
    rcases bft ((decide (y2 > 0))) with hb10 | hb10
    ·replace h := Qar hb10 h
     obtain ⟨x11, hg12, h⟩ := bno h
     obtain ⟨hi13, hj14⟩ := gsm hg12
     refine wx tbk [(2, rp [(.tmp 15, (B ((decide (y2 > 0)))))] (B true)), (6, rp [(.tmp 16, B true), (.tmp 18, (Qua p0)), (.tmp 19, I y2)] (.dptr (Qac (x11)) 0))] ⟨asb hb10 (amv rfl), ag_ (aid rfl Try.underlying31 Qil rfl rfl hi13 (mgt Qac hj14) rfl), trivial⟩ ?_
     rcases bft ((decide (x6 > x11.Limit))) with hc15 | hc15
     ·replace h := Qar hc15 h
      refine wft hc15 (by kernel_rfl) ?_
      refine wx tbk [] trivial ?_
      refine Qai ?_
      refine Qaq ?_
      refine Qag ?_
      refine Qag ?_
      refine Qaq ?_
      refine Qag ?_
      obtain rfl := osi h
      exact fend ⟨[I y2], ⟨rot (by kernel_rfl), trivial⟩, rfl⟩ nll
     ·replace h := Qas hc15 h
      refine wfn hc15 (by kernel_rfl) ?_
      refine Qaf ?_
      refine bln ?_
      refine thn ?_
      refine wx1 tbk [] trivial ?_
      refine thn ?_
      exact arm (mto (n := 27) [(0, (Qua p0)), (7, (Qrk p1)), (8, (I ((p1.length : Int)))), (9, (I (w64 (y2 + 1))))] [] [] hφ0 (pc (.rn (.plain _ (nld Qab _))) (pc (.rn (.plain _ (nld Qaa _))) (pc rwl (pc rwl pn)))) qn) (ih (w64 (y2 + 1)) h)
    ·replace h := Qas hb10 h
     refine wx tbk [(2, rp [(.tmp 15, (B ((decide (y2 > 0)))))] (B false))] ⟨asb hb10 (amv rfl), trivial⟩ ?_
     refine Qd3 (by kernel_rfl) ?_
     refine Qaf ?_
     refine bln ?_
     refine thn ?_
     refine wx1 tbk [] trivial ?_
     refine thn ?_
     exact arm (mto (n := 27) [(0, (Qua p0)), (7, (Qrk p1)), (8, (I ((p1.length : Int)))), (9, (I (w64 (y2 + 1))))] [] [] hφ0 (pc (.rn (.plain _ (nld Qab _))) (pc (.rn (.plain _ (nld Qaa _))) (pc rwl (pc rwl pn)))) qn) (ih (w64 (y2 + 1)) h)
   ·replace h := Qas hc5 h
    refine wfn hc5 (by kernel_rfl) ?_
    refine Qbc ?_
    refine Qao ?_
    refine Qao ?_
    refine Qbb rfl ?_
    refine thn ?_
    exact ⟨(), h, (mto (n := 27) [] [] [] hφ0 pn qn)⟩
def Qkb (N : Nat) (p0 : (List GNode)) (p1 : (List Int)) : Option ((List Int) × Int × Int) :=
  (Qjm N p0 p1).bind fun x2 =>
  bif (x2 != 0) then
   some ([], 0, x2)
  else
   (Qg0 N p0 p1).bind fun x5 =>
   (Qf6 N p0 x5).bind fun x7 =>
   bif (decide (x7 ≥ 0)) then
    some ([], x7, 11)
   else
    some (x5, 0, 0)
def z1_0 (p0 : (List GNode)) : AV := .dat 4 ((p0 : List GNode).map Qac)
def z1_1 (p1 : (List Int)) : AV := .dat 1 ((p1 : List Int).map Qad)
def z1_3 : AV := .dat 1 (([] : List Int).map Qad)
def z1_2 (x5 : (List Int)) : AV := .dat 1 ((x5 : List Int).map Qad)
set_option maxRecDepth 100000 in
set_option maxHeartbeats 4000000 in
theorem Qnu (N : Nat) (p0 : (List GNode)) (p1 : (List Int)) (r : ((List Int) × Int × Int)) (h : Qkb N p0 p1 = some r) : Spec Try.prog 36 [(.dat 4 (p0.map Qac)), (.dat 1 (p1.map Qad))] [] (.tup [(.dat 1 (r.1.map Qad)), (I r.2.1), (I r.2.2)]) [] := by
  refine Qaj Try.func36 rfl 0 (nle rfl) (fun X φ0 w0 hφ0 => ?_)
  unfold Qkb at h
  refine wx tbk [] trivial ?_
  refine wsq ?_
  obtain ⟨x2, hf1, h⟩ := bno h
  refine wx tbk [(2, rp [fu 67, (.tmp 10, (z1_0 p0)), (.tmp 11, (z1_1 p1))] (I x2))] ⟨apc (first := []) (cap := []) (vs := [(z1_0 p0), (z1_1 p1)]) rfl Qw3 (Qkt N p0 p1 _ hf1) rfl rfl (nlc (nld Qab _) (nlc (nld Qaa _) nl0)) nll rfl, trivial⟩ ?_
  refine wx tbk [] trivial ?_
  rcases bft ((x2 != 0)) with hc3 | hc3
  ·replace h := Qar hc3 h
   refine wft hc3 (by kernel_rfl) ?_
   refine wx tbk [] trivial ?_
   refine Qai ?_
   refine Qag ?_
   obtain rfl := osi h
   exact fend ⟨[z1_3, I 0, I x2], ⟨Qli (v := nilS) (rot (by kernel_rfl)) Less.nil, rot (by kernel_rfl), rot (by kernel_rfl), trivial⟩, rfl⟩ (NLt.tup _ (nlc (nld Qaa _) (nlc nll (nlc nll nl0))))
  ·replace h := Qas hc3 h
   refine wfn hc3 (by kernel_rfl) ?_
   refine Qaf ?_
   refine thn ?_
   obtain ⟨x5, hf4, h⟩ := bno h
   refine wx tbk [(2, rp [fu 71, (.tmp 16, (z1_0 p0)), (.tmp 17, (z1_1 p1))] (z1_2 x5))] ⟨apc (first := []) (cap := []) (vs := [(z1_0 p0), (z1_1 p1)]) rfl Qw1 (Qj7 N p0 p1 _ hf4) rfl rfl (nlc (nld Qab _) (nlc (nld Qaa _) nl0)) (nld Qaa _) rfl, trivial⟩ ?_
   refine wsq ?_
   obtain ⟨x7, hf6, h⟩ := bno h
   refine wx tbk [(2, rp [fu 72, (.tmp 19, (z1_0 p0)), (.tmp 20, (z1_2 x5))] (I x7))] ⟨apc (first := []) (cap := []) (vs := [(z1_0 p0), (z1_2 x5)]) rfl Qr2 (Qf5 N p0 x5 _ hf6) rfl rfl (nlc (nld Qab _) (nlc (nld Qaa _) nl0)) nll rfl, trivial⟩ ?_
   refine wx tbk [] trivial ?_
   rcases bft ((decide (x7 ≥ 0))) with hc8 | hc8
   ·replace h := Qar hc8 h
    refine wft hc8 (by kernel_rfl) ?_
    refine wx tbk [] trivial ?_
    refine Qai ?_
    refine Qag ?_
    obtain rfl := osi h
    exact fend ⟨[z1_3, I x7, I 11], ⟨Qli (v := nilS) (rot (by kernel_rfl)) Less.nil, rot (by kernel_rfl), rot (by kernel_rfl), trivial⟩, rfl⟩ (NLt.tup _ (nlc (nld Qaa _) (nlc nll (nlc nll nl0))))
   ·replace h := Qas hc8 h
    refine wfn hc8 (by kernel_rfl) ?_
    refine Qaf ?_
    refine thn ?_
    refine wx tbk [] trivial ?_
    refine Qai ?_
    obtain rfl := osi h
    exact fend ⟨[(z1_2 x5), I 0, I 0], ⟨rot (by kernel_rfl), rot (by kernel_rfl), rot (by kernel_rfl), trivial⟩, rfl⟩ (NLt.tup _ (nlc (nld Qaa _) (nlc nll (nlc nll nl0))))
def Qdx (N : Nat) (p0 : GMeter) : Option Bool :=
  (Qe9 N p0.Reading).bind fun x2 =>
  bif x2 then
   (Qcw N p0.Off 0 500).bind fun x5 =>
   some x5
  else
   some false
set_option maxRecDepth 100000 in
set_option maxHeartbeats 4000000 in
theorem Qd8 (N : Nat) (p0 : GMeter) (r : Bool) (h : Qdx N p0 = some r) : Spec Try.prog 84 [(.agg (Qay p0))] [] (B r) [] := by
  refine Qaj Try.func84 rfl 0 (nle rfl) (fun X φ0 w0 hφ0 => ?_)
  unfold Qdx at h
  refine wx tbk [] trivial ?_
  obtain ⟨x2, hf1, h⟩ := bno h
  rcases bft (x2) with hb3 | hb3
  ·replace h := Qar hb3 h
   obtain ⟨x5, hf4, h⟩ := bno h
   refine wx tbk [(2, rp [fu 94, (.tmp 4, I p0.Reading)] (B x2)), (3, rp [(.tmp 5, B x2)] (B true)), (6, rp [(.tmp 6, B true), fu 68, (.tmp 8, I p0.Off), ci 0, ci 500] (B x5))] ⟨apc (first := []) (cap := []) (vs := [I p0.Reading]) rfl Qe7 (Qb0 N p0.Reading _ hf1) rfl rfl (nlc nll nl0) nll rfl, asb hb3 (amv rfl), ag_ (apc (first := []) (cap := []) (vs := [I p0.Off, I 0, I 500]) rfl Qd7 (Qa0 N p0.Off 0 500 _ hf4) rfl rfl (nlc nll (nlc nll (nlc nll nl0))) nll rfl), trivial⟩ ?_
   refine Qai ?_
   obtain rfl := osi h
   exact fend ⟨[B x5], ⟨rot (by kernel_rfl), trivial⟩, rfl⟩ nll
  ·replace h := Qas hb3 h
   refine wx tbk [(2, rp [fu 94, (.tmp 4, I p0.Reading)] (B x2)), (3, rp [(.tmp 5, B x2)] (B false))] ⟨apc (first := []) (cap := []) (vs := [I p0.Reading]) rfl Qe7 (Qb0 N p0.Reading _ hf1) rfl rfl (nlc nll nl0) nll rfl, asb hb3 (amv rfl), trivial⟩ ?_
   refine Qai ?_
   obtain rfl := osi h
   exact fend ⟨[B false], ⟨rot (by kernel_rfl), trivial⟩, rfl⟩ nll
def Qcy (_N : Nat) (p0 : GMeter) : Option GRange :=
  (some (w64 ((w64 ((w64 (1000 * p0.Reading)) + (w64 (1000 + p0.Off)))) - 1))).bind fun x1 =>
  chk ((w64 (1000 + p0.Off)) != 0) <|
  chk ((w64 (1000 - p0.Off)) != 0) <|
  some (⟨w64 (x1.tdiv (w64 (1000 + p0.Off))), w64 ((w64 (1000 * p0.Reading)).tdiv (w64 (1000 - p0.Off)))⟩ : GRange)
def z18_3 (x1 : Int) (p0 : GMeter) : AV := .agg [(I (w64 (x1.tdiv (w64 (1000 + p0.Off))))), (I (w64 ((w64 (1000 * p0.Reading)).tdiv (w64 (1000 - p0.Off)))))]
set_option maxRecDepth 100000 in
set_option maxHeartbeats 4000000 in
theorem Qej (N : Nat) (p0 : GMeter) (r : GRange) (h : Qcy N p0 = some r) : Spec Try.prog 85 [(.agg (Qay p0))] [] (.agg (Qa2 r)) [] := by
  refine Qaj Try.func85 rfl 0 (nle rfl) (fun X φ0 w0 hφ0 => ?_)
  unfold Qcy at h
  refine wx tbk [] trivial ?_
  refine wxd tbk [] trivial ?_
  obtain ⟨x1, hl2, h⟩ := bno h
  obtain ⟨hz3, h⟩ := cko h
  obtain ⟨hz4, h⟩ := cko h
  refine wxd tbk [(5, rp [(.tmp 15, (I (w64 ((w64 (1000 * p0.Reading)) + (w64 (1000 + p0.Off)))))), ci 1] (I x1)), (7, rp [(.tmp 16, I x1), (.tmp 17, (I (w64 (1000 + p0.Off))))] (I (w64 (x1.tdiv (w64 (1000 + p0.Off)))))), (12, rp [(.tmp 21, (I (w64 (1000 * p0.Reading)))), (.tmp 22, (I (w64 (1000 - p0.Off))))] (I (w64 ((w64 (1000 * p0.Reading)).tdiv (w64 (1000 - p0.Off)))))), (13, rp [(.tmp 18, (I (w64 (x1.tdiv (w64 (1000 + p0.Off)))))), (.tmp 23, (I (w64 ((w64 (1000 * p0.Reading)).tdiv (w64 (1000 - p0.Off))))))] (z18_3 x1 p0))] ⟨Qe0 hl2 (abn rfl rfl), Qjg rfl (Qlp hz3), Qjg rfl (Qlp hz4), Qa6 (vs := [(I (w64 (x1.tdiv (w64 (1000 + p0.Off))))), (I (w64 ((w64 (1000 * p0.Reading)).tdiv (w64 (1000 - p0.Off)))))]) rfl ts93 tz93 rfl (by rfl) rfl, trivial⟩ ?_
  refine Qai ?_
  obtain rfl := osi h
  exact fend ⟨[(z18_3 x1 p0)], ⟨Qfq (n := 1) (m := 2) (j := 0) (i := 0) (xs := [[(I (w64 (x1.tdiv (w64 (1000 + p0.Off))))), (I (w64 ((w64 (1000 * p0.Reading)).tdiv (w64 (1000 - p0.Off)))))]]) (by kernel_rfl) (by kernel_rfl) ti93 (by decide) rfl (nle rfl) rfl, trivial⟩, rfl⟩ (NLt.agg _ (nlc nll (nlc nll nl0)))
def Qik (N : Nat) (p0 : GMeter) : Option (GRange × Int) :=
  (Qdx N p0).bind fun x2 =>
  bif (!x2) then
   some ((⟨0, 0⟩ : GRange), 2)
  else
   (Qcy N p0).bind fun x5 =>
   some (x5, 0)
def Qx3 (p0 : GMeter) : AV := .agg [(I (p0.Reading)), (I (p0.Off))]
set_option maxRecDepth 100000 in
set_option maxHeartbeats 4000000 in
theorem Ql2 (N : Nat) (p0 : GMeter) (r : (GRange × Int)) (h : Qik N p0 = some r) : Spec Try.prog 47 [(.agg (Qay p0))] [] (.tup [(.agg (Qa2 r.1)), (I r.2)]) [] := by
  refine Qaj Try.func47 rfl 0 (nle rfl) (fun X φ0 w0 hφ0 => ?_)
  unfold Qik at h
  refine wx tbk [] trivial ?_
  refine wsq ?_
  obtain ⟨x2, hf1, h⟩ := bno h
  refine wx tbk [(1, rp [fu 84, (.tmp 4, (Qx3 p0))] (B x2))] ⟨apc (first := []) (cap := []) (vs := [(Qx3 p0)]) rfl Qnc (Qd8 N p0 _ hf1) rfl rfl (nlc (NLt.agg _ (nlc nll (nlc nll nl0))) nl0) nll rfl, trivial⟩ ?_
  rcases bft ((!x2)) with hc3 | hc3
  ·replace h := Qar hc3 h
   refine wft hc3 (by kernel_rfl) ?_
   refine wx tbk [(0, rp [] (.agg [I 0, I 0]))] ⟨Qa6 (vs := []) rfl ts93 tz93 rfl (by rfl) rfl, trivial⟩ ?_
   refine Qai ?_
   refine Qag ?_
   obtain rfl := osi h
   exact fend ⟨[(.agg [I 0, I 0]), I 2], ⟨Qfq (n := 1) (m := 2) (j := 0) (i := 0) (xs := [[I 0, I 0]]) (by kernel_rfl) (by kernel_rfl) ti93 (by decide) rfl (nle rfl) rfl, rot (by kernel_rfl), trivial⟩, rfl⟩ (NLt.tup _ (nlc (NLt.agg _ (nlc nll (nlc nll nl0))) (nlc nll nl0)))
  ·replace h := Qas hc3 h
   refine wfn hc3 (by kernel_rfl) ?_
   refine Qaf ?_
   refine thn ?_
   obtain ⟨x5, hf4, h⟩ := bno h
   refine wx tbk [(1, rp [fu 85, (.tmp 8, (Qx3 p0))] (.agg [I x5.Lo, I x5.Hi]))] ⟨apc (first := []) (cap := []) (vs := [(Qx3 p0)]) rfl Qpj (Qej N p0 _ hf4) rfl rfl (nlc (NLt.agg _ (nlc nll (nlc nll nl0))) nl0) (NLt.agg _ (nlc nll (nlc nll nl0))) rfl, trivial⟩ ?_
   refine Qai ?_
   obtain rfl := osi h
   exact fend ⟨[(.agg [I x5.Lo, I x5.Hi]), I 0], ⟨Qfq (n := 1) (m := 2) (j := 0) (i := 0) (xs := [[I x5.Lo, I x5.Hi]]) (by kernel_rfl) (by kernel_rfl) ti93 (by decide) rfl (nle rfl) rfl, rot (by kernel_rfl), trivial⟩, rfl⟩ (NLt.tup _ (nlc (NLt.agg _ (nlc nll (nlc nll nl0))) (nlc nll nl0)))
def Qfb (_N : Nat) (p0 : Int) (p1 : Int) (p2 : Int) : Option Bool :=
  bif (decide (p0 ≥ p1)) then
   some (decide (p0 ≤ p2))
  else
   some false
set_option maxRecDepth 100000 in
set_option maxHeartbeats 4000000 in
theorem Qce (N : Nat) (p0 : Int) (p1 : Int) (p2 : Int) (r : Bool) (h : Qfb N p0 p1 p2 = some r) : Spec Try.prog 27 [(I p0), (I p1), (I p2)] [] (B r) [] := by
  refine Qaj Try.func27 rfl 0 (nle rfl) (fun X φ0 w0 hφ0 => ?_)
  unfold Qfb at h
  refine wx tbk [] trivial ?_
  rcases bft ((decide (p0 ≥ p1))) with hb1 | hb1
  ·replace h := Qar hb1 h
   refine wx tbk [(3, rp [(.tmp 9, (B ((decide (p0 ≥ p1)))))] (B true))] ⟨asb hb1 (amv rfl), trivial⟩ ?_
   refine Qai ?_
   obtain rfl := osi h
   exact fend ⟨[(B ((decide (p0 ≤ p2))))], ⟨rot (by kernel_rfl), trivial⟩, rfl⟩ nll
  ·replace h := Qas hb1 h
   refine wx tbk [(3, rp [(.tmp 9, (B ((decide (p0 ≥ p1)))))] (B false))] ⟨asb hb1 (amv rfl), trivial⟩ ?_
   refine Qai ?_
   obtain rfl := osi h
   exact fend ⟨[B false], ⟨rot (by kernel_rfl), trivial⟩, rfl⟩ nll
end Go.Proofs.Ytgdepcgbjjgnfaa
