/-
  Functions of the program: what they compute, as plain functions, and that they do. No conditions.
-/
import Derived.Test.YtgdepcgbjjgnfaaXt
namespace Go.Proofs.Ytgdepcgbjjgnfaa
open Go.RowKit
def Qcg (_N : Nat) (p0 : Int) (p1 : Int) (p2 : Int) : Option Bool :=
  bif (decide (p1 ≤ p0)) then
   some (decide (p0 ≤ p2))
  else
   some false
set_option maxRecDepth 100000 in
set_option maxHeartbeats 4000000 in
theorem Qaw (N : Nat) (p0 : Int) (p1 : Int) (p2 : Int) (r : Bool) (h : Qcg N p0 p1 p2 = some r) : Spec Try.prog 68 [(I p0), (I p1), (I p2)] [] (B r) [] := by
  refine Qal Try.func68 rfl 0 (nle rfl) (fun X φ0 w0 hφ0 => ?_)
  unfold Qcg at h
  refine wx tbk [] trivial ?_
  rcases bft ((decide (p1 ≤ p0))) with hb1 | hb1
  ·replace h := Qar hb1 h
   refine wx tbk [(3, rp [(.tmp 9, (B ((decide (p1 ≤ p0)))))] (B true))] ⟨asb hb1 (amv rfl), trivial⟩ ?_
   refine Qah ?_
   obtain rfl := osi h
   exact fend ⟨[(B ((decide (p0 ≤ p2))))], ⟨rot (by kernel_rfl), trivial⟩, rfl⟩ nll
  ·replace h := Qas hb1 h
   refine wx tbk [(3, rp [(.tmp 9, (B ((decide (p1 ≤ p0)))))] (B false))] ⟨asb hb1 (amv rfl), trivial⟩ ?_
   refine Qah ?_
   obtain rfl := osi h
   exact fend ⟨[B false], ⟨rot (by kernel_rfl), trivial⟩, rfl⟩ nll
def Qfo (N : Nat) (p0 : Int) : Option Bool :=
  (Qcg N p0 0 1000000000).bind fun x2 =>
  some x2
set_option maxRecDepth 100000 in
set_option maxHeartbeats 4000000 in
theorem Qb4 (N : Nat) (p0 : Int) (r : Bool) (h : Qfo N p0 = some r) : Spec Try.prog 94 [(I p0)] [] (B r) [] := by
  refine Qal Try.func94 rfl 0 (nle rfl) (fun X φ0 w0 hφ0 => ?_)
  unfold Qfo at h
  refine wx tbk [] trivial ?_
  obtain ⟨x2, hf1, h⟩ := bno h
  refine wx tbk [(1, rp [fu 68, (.tmp 3, I p0), ci 0, ci 1000000000] (B x2))] ⟨apc (first := []) (cap := []) (vs := [I p0, I 0, I 1000000000]) rfl Qd3 (Qaw N p0 0 1000000000 _ hf1) rfl rfl (nlc nll (nlc nll (nlc nll nl0))) nll rfl, trivial⟩ ?_
  refine Qah ?_
  obtain rfl := osi h
  exact fend ⟨[B x2], ⟨rot (by kernel_rfl), trivial⟩, rfl⟩ nll
def Qdg (N : Nat) (p0 : (List GNode)) (k2 : Unit → Option Bool) : Nat → Int → Option Bool
  | 0, _ => none
  | n5 + 1, y3 =>
    bif (decide (y3 < (p0.length : Int))) then
     (getI p0 y3).bind fun x7 =>
     bif (decide (y3 > 0)) then
      (Qcg N x7.Parent 0 (w64 (y3 - 1))).bind fun x13 =>
      bif (!x13) then
       some false
      else
       (Qfo N x7.Loss).bind fun x16 =>
       bif (!x16) then
        some false
       else
        (Qfo N x7.Limit).bind fun x19 =>
        bif (!x19) then
         some false
        else
         (Qcg N x7.Rank 0 100).bind fun x22 =>
         bif (!x22) then
          some false
         else
          Qdg N p0 k2 n5 (w64 (y3 + 1))
     else
      (Qfo N x7.Loss).bind fun x25 =>
      bif (!x25) then
       some false
      else
       (Qfo N x7.Limit).bind fun x28 =>
       bif (!x28) then
        some false
       else
        (Qcg N x7.Rank 0 100).bind fun x31 =>
        bif (!x31) then
         some false
        else
         Qdg N p0 k2 n5 (w64 (y3 + 1))
    else
     k2 ()
def Qhq (N : Nat) (p0 : (List GNode)) : Option Bool :=
  Qbr (fun _ =>
    Qbr (fun _ =>
      some true) fun k2 : Unit → Option Bool =>
    Qdg N p0 k2 N 0) fun k1 : Unit → Option Bool =>
  (Qcg N (p0.length : Int) 1 30).bind fun x34 =>
  bif (!x34) then
   some false
  else
   (getI p0 0).bind fun x36 =>
   bif (x36.Parent != (-1)) then
    some false
   else
    bif (x36.Loss != 0) then
     some false
    else
     bif (x36.Limit != 0) then
      some false
     else
      k1 ()
def z3_0 (p0 : (List GNode)) : AV := .dat 4 ((p0 : List GNode).map Qa0)
set_option maxRecDepth 100000 in
set_option maxHeartbeats 4000000 in
theorem Qk9 (N : Nat) (p0 : (List GNode)) (r : Bool) (h : Qhq N p0 = some r) : Spec Try.prog 80 [(.dat 4 (p0.map Qa0))] [] (B r) [] := by
  refine Qal Try.func80 rfl 0 (nle rfl) (fun X φ0 w0 hφ0 => ?_)
  unfold Qhq at h
  refine wx tbk [] trivial ?_
  obtain ⟨k1, hk_k1, h⟩ := jko h
  refine wjn (τ := Unit) (fun t => k1 t = some r) (fun _ => ⟨mk 66 [(0, (z3_0 p0))], []⟩) (fun t h => ?_) ?_
  ·subst hk_k1
   obtain ⟨k2, hk_k2, h⟩ := jko h
   refine wjn (τ := Unit) (fun t => k2 t = some r) (fun _ => ⟨mk 66 [], []⟩) (fun t h => ?_) ?_
   ·subst hk_k2
    refine wx tbk [] trivial ?_
    refine Qah ?_
    obtain rfl := osi h
    exact fend ⟨[B true], ⟨rot (by kernel_rfl), trivial⟩, rfl⟩ nll
   ·skip
    refine wx tbk [(1, rp [(.tmp 30, (z3_0 p0))] (I ((p0.length : Int))))] ⟨alm (c := Qa0) (l := p0) (aln rfl Try.underlying31 rfl), trivial⟩ ?_
    refine Qai ?_
    refine wmr (mto (n := 66) (l' := [(30, (z3_0 p0)), (31, (I ((p0.length : Int)))), (32, I 0)]) (own' := []) [(30, (z3_0 p0)), (31, (I ((p0.length : Int)))), (32, I 0)] [] [] hφ0 (pc (.rn (.plain _ (nld Qae _))) (pc rwl (pc rwl pn))) qn) ?_
    refine Qbu (τ := Int) (fun n t => Qdg N p0 k2 n t = some r) (fun y3 => ⟨mk 66 [(30, (z3_0 p0)), (31, (I ((p0.length : Int)))), (32, I y3)], []⟩) (fun t h => by rw [Qdg] at h; cases h) (fun n5 ih y3 h => ?_) N (0) h
    rw [Qdg] at h
    skip
    refine wx tbk [] trivial ?_
    refine wsq ?_
    rcases bft ((decide (y3 < (p0.length : Int)))) with hc6 | hc6
    ·replace h := Qar hc6 h
     refine wft hc6 (by kernel_rfl) ?_
     refine Qag ?_
     refine thn ?_
     refine wsq ?_
     refine Qai ?_
     obtain ⟨x7, hg8, h⟩ := bno h
     obtain ⟨hi9, hj10⟩ := gsm hg8
     refine wx tbk [(1, rp [(.tmp 30, (z3_0 p0)), (.tmp 32, I y3)] (.dptr (Qa0 (x7)) 0))] ⟨aid rfl Try.underlying31 Qjx rfl rfl hi9 (mgt Qa0 hj10) rfl, trivial⟩ ?_
     rcases bft ((decide (y3 > 0))) with hb11 | hb11
     ·replace h := Qar hb11 h
      obtain ⟨x13, hf12, h⟩ := bno h
      rcases bft ((!x13)) with hb14 | hb14
      ·replace h := Qar hb14 h
       refine wx tbk [(2, rp [(.tmp 38, (B ((decide (y3 > 0)))))] (B true)), (7, rp [(.tmp 39, B true), fu 68, (.tmp 41, I x7.Parent), ci 0, (.tmp 43, (I (w64 (y3 - 1))))] (B x13)), (10, rp [(.tmp 46, (B ((!x13))))] (B true))] ⟨asb hb11 (amv rfl), ag_ (apc (first := []) (cap := []) (vs := [I x7.Parent, I 0, (I (w64 (y3 - 1)))]) rfl Qd3 (Qaw N x7.Parent 0 (w64 (y3 - 1)) _ hf12) rfl rfl (nlc nll (nlc nll (nlc nll nl0))) nll rfl), asb hb14 (amv rfl), trivial⟩ ?_
       refine Qcm (by kernel_rfl) ?_
       refine wx tbk [] trivial ?_
       refine Qah ?_
       refine Qak ?_
       refine Qad ?_
       refine Qad ?_
       refine Qak ?_
       refine Qad ?_
       obtain rfl := osi h
       exact fend ⟨[B false], ⟨rot (by kernel_rfl), trivial⟩, rfl⟩ nll
      ·replace h := Qas hb14 h
       obtain ⟨x16, hf15, h⟩ := bno h
       rcases bft ((!x16)) with hb17 | hb17
       ·replace h := Qar hb17 h
        refine wx tbk [(2, rp [(.tmp 38, (B ((decide (y3 > 0)))))] (B true)), (7, rp [(.tmp 39, B true), fu 68, (.tmp 41, I x7.Parent), ci 0, (.tmp 43, (I (w64 (y3 - 1))))] (B x13)), (10, rp [(.tmp 46, (B ((!x13))))] (B false)), (13, rp [(.tmp 47, B false), fu 94, (.tmp 49, I x7.Loss)] (B x16)), (16, rp [(.tmp 52, (B ((!x16))))] (B true))] ⟨asb hb11 (amv rfl), ag_ (apc (first := []) (cap := []) (vs := [I x7.Parent, I 0, (I (w64 (y3 - 1)))]) rfl Qd3 (Qaw N x7.Parent 0 (w64 (y3 - 1)) _ hf12) rfl rfl (nlc nll (nlc nll (nlc nll nl0))) nll rfl), asb hb14 (amv rfl), ag_ (apc (first := []) (cap := []) (vs := [I x7.Loss]) rfl Qfm (Qb4 N x7.Loss _ hf15) rfl rfl (nlc nll nl0) nll rfl), asb hb17 (amv rfl), trivial⟩ ?_
        refine Qcm (by kernel_rfl) ?_
        refine wx tbk [] trivial ?_
        refine Qah ?_
        refine Qak ?_
        refine Qad ?_
        refine Qad ?_
        refine Qak ?_
        refine Qad ?_
        obtain rfl := osi h
        exact fend ⟨[B false], ⟨rot (by kernel_rfl), trivial⟩, rfl⟩ nll
       ·replace h := Qas hb17 h
        obtain ⟨x19, hf18, h⟩ := bno h
        rcases bft ((!x19)) with hb20 | hb20
        ·replace h := Qar hb20 h
         refine wx tbk [(2, rp [(.tmp 38, (B ((decide (y3 > 0)))))] (B true)), (7, rp [(.tmp 39, B true), fu 68, (.tmp 41, I x7.Parent), ci 0, (.tmp 43, (I (w64 (y3 - 1))))] (B x13)), (10, rp [(.tmp 46, (B ((!x13))))] (B false)), (13, rp [(.tmp 47, B false), fu 94, (.tmp 49, I x7.Loss)] (B x16)), (16, rp [(.tmp 52, (B ((!x16))))] (B false)), (19, rp [(.tmp 53, B false), fu 94, (.tmp 55, I x7.Limit)] (B x19)), (22, rp [(.tmp 58, (B ((!x19))))] (B true))] ⟨asb hb11 (amv rfl), ag_ (apc (first := []) (cap := []) (vs := [I x7.Parent, I 0, (I (w64 (y3 - 1)))]) rfl Qd3 (Qaw N x7.Parent 0 (w64 (y3 - 1)) _ hf12) rfl rfl (nlc nll (nlc nll (nlc nll nl0))) nll rfl), asb hb14 (amv rfl), ag_ (apc (first := []) (cap := []) (vs := [I x7.Loss]) rfl Qfm (Qb4 N x7.Loss _ hf15) rfl rfl (nlc nll nl0) nll rfl), asb hb17 (amv rfl), ag_ (apc (first := []) (cap := []) (vs := [I x7.Limit]) rfl Qfm (Qb4 N x7.Limit _ hf18) rfl rfl (nlc nll nl0) nll rfl), asb hb20 (amv rfl), trivial⟩ ?_
         refine Qcm (by kernel_rfl) ?_
         refine wx tbk [] trivial ?_
         refine Qah ?_
         refine Qak ?_
         refine Qad ?_
         refine Qad ?_
         refine Qak ?_
         refine Qad ?_
         obtain rfl := osi h
         exact fend ⟨[B false], ⟨rot (by kernel_rfl), trivial⟩, rfl⟩ nll
        ·replace h := Qas hb20 h
         obtain ⟨x22, hf21, h⟩ := bno h
         refine wx tbk [(2, rp [(.tmp 38, (B ((decide (y3 > 0)))))] (B true)), (7, rp [(.tmp 39, B true), fu 68, (.tmp 41, I x7.Parent), ci 0, (.tmp 43, (I (w64 (y3 - 1))))] (B x13)), (10, rp [(.tmp 46, (B ((!x13))))] (B false)), (13, rp [(.tmp 47, B false), fu 94, (.tmp 49, I x7.Loss)] (B x16)), (16, rp [(.tmp 52, (B ((!x16))))] (B false)), (19, rp [(.tmp 53, B false), fu 94, (.tmp 55, I x7.Limit)] (B x19)), (22, rp [(.tmp 58, (B ((!x19))))] (B false)), (25, rp [(.tmp 59, B false), fu 68, (.tmp 61, I x7.Rank), ci 0, ci 100] (B x22))] ⟨asb hb11 (amv rfl), ag_ (apc (first := []) (cap := []) (vs := [I x7.Parent, I 0, (I (w64 (y3 - 1)))]) rfl Qd3 (Qaw N x7.Parent 0 (w64 (y3 - 1)) _ hf12) rfl rfl (nlc nll (nlc nll (nlc nll nl0))) nll rfl), asb hb14 (amv rfl), ag_ (apc (first := []) (cap := []) (vs := [I x7.Loss]) rfl Qfm (Qb4 N x7.Loss _ hf15) rfl rfl (nlc nll nl0) nll rfl), asb hb17 (amv rfl), ag_ (apc (first := []) (cap := []) (vs := [I x7.Limit]) rfl Qfm (Qb4 N x7.Limit _ hf18) rfl rfl (nlc nll nl0) nll rfl), asb hb20 (amv rfl), ag_ (apc (first := []) (cap := []) (vs := [I x7.Rank, I 0, I 100]) rfl Qd3 (Qaw N x7.Rank 0 100 _ hf21) rfl rfl (nlc nll (nlc nll (nlc nll nl0))) nll rfl), trivial⟩ ?_
         rcases bft ((!x22)) with hc23 | hc23
         ·replace h := Qar hc23 h
          refine wft hc23 (by kernel_rfl) ?_
          refine wx tbk [] trivial ?_
          refine Qah ?_
          refine Qak ?_
          refine Qad ?_
          refine Qad ?_
          refine Qak ?_
          refine Qad ?_
          obtain rfl := osi h
          exact fend ⟨[B false], ⟨rot (by kernel_rfl), trivial⟩, rfl⟩ nll
         ·replace h := Qas hc23 h
          refine wfn hc23 (by kernel_rfl) ?_
          refine Qag ?_
          refine bln ?_
          refine thn ?_
          refine wx1 tbk [] trivial ?_
          refine thn ?_
          exact arm (mto (n := 66) [(30, (z3_0 p0)), (31, (I ((p0.length : Int)))), (32, (I (w64 (y3 + 1))))] [] [] hφ0 (pc (.rn (.plain _ (nld Qae _))) (pc rwl (pc rwl pn))) qn) (ih (w64 (y3 + 1)) h)
     ·replace h := Qas hb11 h
      obtain ⟨x25, hf24, h⟩ := bno h
      rcases bft ((!x25)) with hb26 | hb26
      ·replace h := Qar hb26 h
       refine wx tbk [(2, rp [(.tmp 38, (B ((decide (y3 > 0)))))] (B false)), (13, rp [(.tmp 47, B false), fu 94, (.tmp 49, I x7.Loss)] (B x25)), (16, rp [(.tmp 52, (B ((!x25))))] (B true))] ⟨asb hb11 (amv rfl), ag_ (apc (first := []) (cap := []) (vs := [I x7.Loss]) rfl Qfm (Qb4 N x7.Loss _ hf24) rfl rfl (nlc nll nl0) nll rfl), asb hb26 (amv rfl), trivial⟩ ?_
       refine Qcm (by kernel_rfl) ?_
       refine wx tbk [] trivial ?_
       refine Qah ?_
       refine Qak ?_
       refine Qad ?_
       refine Qad ?_
       refine Qak ?_
       refine Qad ?_
       obtain rfl := osi h
       exact fend ⟨[B false], ⟨rot (by kernel_rfl), trivial⟩, rfl⟩ nll
      ·replace h := Qas hb26 h
       obtain ⟨x28, hf27, h⟩ := bno h
       rcases bft ((!x28)) with hb29 | hb29
       ·replace h := Qar hb29 h
        refine wx tbk [(2, rp [(.tmp 38, (B ((decide (y3 > 0)))))] (B false)), (13, rp [(.tmp 47, B false), fu 94, (.tmp 49, I x7.Loss)] (B x25)), (16, rp [(.tmp 52, (B ((!x25))))] (B false)), (19, rp [(.tmp 53, B false), fu 94, (.tmp 55, I x7.Limit)] (B x28)), (22, rp [(.tmp 58, (B ((!x28))))] (B true))] ⟨asb hb11 (amv rfl), ag_ (apc (first := []) (cap := []) (vs := [I x7.Loss]) rfl Qfm (Qb4 N x7.Loss _ hf24) rfl rfl (nlc nll nl0) nll rfl), asb hb26 (amv rfl), ag_ (apc (first := []) (cap := []) (vs := [I x7.Limit]) rfl Qfm (Qb4 N x7.Limit _ hf27) rfl rfl (nlc nll nl0) nll rfl), asb hb29 (amv rfl), trivial⟩ ?_
        refine Qcm (by kernel_rfl) ?_
        refine wx tbk [] trivial ?_
        refine Qah ?_
        refine Qak ?_
        refine Qad ?_
        refine Qad ?_
        refine Qak ?_
        refine Qad ?_
        obtain rfl := osi h
        exact fend ⟨[B false], ⟨rot (by kernel_rfl), trivial⟩, rfl⟩ nll
       ·replace h := Qas hb29 h
        obtain ⟨x31, hf30, h⟩ := bno h
        refine wx tbk [(2, rp [(.tmp 38, (B ((decide (y3 > 0)))))] (B false)), (13, rp [(.tmp 47, B false), fu 94, (.tmp 49, I x7.Loss)] (B x25)), (16, rp [(.tmp 52, (B ((!x25))))] (B false)), (19, rp [(.tmp 53, B false), fu 94, (.tmp 55, I x7.Limit)] (B x28)), (22, rp [(.tmp 58, (B ((!x28))))] (B false)), (25, rp [(.tmp 59, B false), fu 68, (.tmp 61, I x7.Rank), ci 0, ci 100] (B x31))] ⟨asb hb11 (amv rfl), ag_ (apc (first := []) (cap := []) (vs := [I x7.Loss]) rfl Qfm (Qb4 N x7.Loss _ hf24) rfl rfl (nlc nll nl0) nll rfl), asb hb26 (amv rfl), ag_ (apc (first := []) (cap := []) (vs := [I x7.Limit]) rfl Qfm (Qb4 N x7.Limit _ hf27) rfl rfl (nlc nll nl0) nll rfl), asb hb29 (amv rfl), ag_ (apc (first := []) (cap := []) (vs := [I x7.Rank, I 0, I 100]) rfl Qd3 (Qaw N x7.Rank 0 100 _ hf30) rfl rfl (nlc nll (nlc nll (nlc nll nl0))) nll rfl), trivial⟩ ?_
        rcases bft ((!x31)) with hc32 | hc32
        ·replace h := Qar hc32 h
         refine wft hc32 (by kernel_rfl) ?_
         refine wx tbk [] trivial ?_
         refine Qah ?_
         refine Qak ?_
         refine Qad ?_
         refine Qad ?_
         refine Qak ?_
         refine Qad ?_
         obtain rfl := osi h
         exact fend ⟨[B false], ⟨rot (by kernel_rfl), trivial⟩, rfl⟩ nll
        ·replace h := Qas hc32 h
         refine wfn hc32 (by kernel_rfl) ?_
         refine Qag ?_
         refine bln ?_
         refine thn ?_
         refine wx1 tbk [] trivial ?_
         refine thn ?_
         exact arm (mto (n := 66) [(30, (z3_0 p0)), (31, (I ((p0.length : Int)))), (32, (I (w64 (y3 + 1))))] [] [] hφ0 (pc (.rn (.plain _ (nld Qae _))) (pc rwl (pc rwl pn))) qn) (ih (w64 (y3 + 1)) h)
    ·replace h := Qas hc6 h
     refine wfn hc6 (by kernel_rfl) ?_
     refine Qa3 ?_
     refine Qao ?_
     refine Qao ?_
     refine Qa2 rfl ?_
     refine thn ?_
     exact ⟨(), h, (mto (n := 66) [] [] [] hφ0 pn qn)⟩
  ·skip
   obtain ⟨x34, hf33, h⟩ := bno h
   rcases bft ((!x34)) with hb35 | hb35
   ·replace h := Qar hb35 h
    refine wx tbk [(1, rp [(.tmp 5, (z3_0 p0))] (I ((p0.length : Int)))), (2, rp [fu 68, (.tmp 6, (I ((p0.length : Int)))), ci 1, ci 30] (B x34)), (4, rp [(.tmp 8, (B ((!x34))))] (B true))] ⟨alm (c := Qa0) (l := p0) (aln rfl Try.underlying31 rfl), apc (first := []) (cap := []) (vs := [(I ((p0.length : Int))), I 1, I 30]) rfl Qd3 (Qaw N (p0.length : Int) 1 30 _ hf33) rfl rfl (nlc nll (nlc nll (nlc nll nl0))) nll rfl, asb hb35 (amv rfl), trivial⟩ ?_
    refine Qcm (by kernel_rfl) ?_
    refine wx tbk [] trivial ?_
    refine Qah ?_
    refine Qad ?_
    obtain rfl := osi h
    exact fend ⟨[B false], ⟨rot (by kernel_rfl), trivial⟩, rfl⟩ nll
   ·replace h := Qas hb35 h
    obtain ⟨x36, hg37, h⟩ := bno h
    obtain ⟨hi38, hj39⟩ := gsm hg37
    rcases bft ((x36.Parent != (-1))) with hb40 | hb40
    ·replace h := Qar hb40 h
     refine wx tbk [(1, rp [(.tmp 5, (z3_0 p0))] (I ((p0.length : Int)))), (2, rp [fu 68, (.tmp 6, (I ((p0.length : Int)))), ci 1, ci 30] (B x34)), (4, rp [(.tmp 8, (B ((!x34))))] (B false)), (6, rp [(.tmp 9, B false), (.tmp 10, (z3_0 p0)), ci 0] (.dptr (Qa0 (x36)) 0)), (11, rp [(.tmp 15, (B ((x36.Parent != (-1)))))] (B true))] ⟨alm (c := Qa0) (l := p0) (aln rfl Try.underlying31 rfl), apc (first := []) (cap := []) (vs := [(I ((p0.length : Int))), I 1, I 30]) rfl Qd3 (Qaw N (p0.length : Int) 1 30 _ hf33) rfl rfl (nlc nll (nlc nll (nlc nll nl0))) nll rfl, asb hb35 (amv rfl), ag_ (aid rfl Try.underlying31 Qjx rfl rfl hi38 (mgt Qa0 hj39) rfl), asb hb40 (amv rfl), trivial⟩ ?_
     refine Qcm (by kernel_rfl) ?_
     refine wx tbk [] trivial ?_
     refine Qah ?_
     refine Qad ?_
     obtain rfl := osi h
     exact fend ⟨[B false], ⟨rot (by kernel_rfl), trivial⟩, rfl⟩ nll
    ·replace h := Qas hb40 h
     rcases bft ((x36.Loss != 0)) with hb41 | hb41
     ·replace h := Qar hb41 h
      refine wx tbk [(1, rp [(.tmp 5, (z3_0 p0))] (I ((p0.length : Int)))), (2, rp [fu 68, (.tmp 6, (I ((p0.length : Int)))), ci 1, ci 30] (B x34)), (4, rp [(.tmp 8, (B ((!x34))))] (B false)), (6, rp [(.tmp 9, B false), (.tmp 10, (z3_0 p0)), ci 0] (.dptr (Qa0 (x36)) 0)), (11, rp [(.tmp 15, (B ((x36.Parent != (-1)))))] (B false)), (13, rp [(.tmp 16, B false), (.tmp 17, (z3_0 p0)), ci 0] (.dptr (Qa0 (x36)) 0)), (18, rp [(.tmp 22, (B ((x36.Loss != 0))))] (B true))] ⟨alm (c := Qa0) (l := p0) (aln rfl Try.underlying31 rfl), apc (first := []) (cap := []) (vs := [(I ((p0.length : Int))), I 1, I 30]) rfl Qd3 (Qaw N (p0.length : Int) 1 30 _ hf33) rfl rfl (nlc nll (nlc nll (nlc nll nl0))) nll rfl, asb hb35 (amv rfl), ag_ (aid rfl Try.underlying31 Qjx rfl rfl hi38 (mgt Qa0 hj39) rfl), asb hb40 (amv rfl), ag_ (aid rfl Try.underlying31 Qjx rfl rfl hi38 (mgt Qa0 hj39) rfl), asb hb41 (amv rfl), trivial⟩ ?_
      refine Qcm (by kernel_rfl) ?_
      refine wx tbk [] trivial ?_
      refine Qah ?_
      refine Qad ?_
      obtain rfl := osi h
      exact fend ⟨[B false], ⟨rot (by kernel_rfl), trivial⟩, rfl⟩ nll
     ·replace h := Qas hb41 h
      refine wx tbk [(1, rp [(.tmp 5, (z3_0 p0))] (I ((p0.length : Int)))), (2, rp [fu 68, (.tmp 6, (I ((p0.length : Int)))), ci 1, ci 30] (B x34)), (4, rp [(.tmp 8, (B ((!x34))))] (B false)), (6, rp [(.tmp 9, B false), (.tmp 10, (z3_0 p0)), ci 0] (.dptr (Qa0 (x36)) 0)), (11, rp [(.tmp 15, (B ((x36.Parent != (-1)))))] (B false)), (13, rp [(.tmp 16, B false), (.tmp 17, (z3_0 p0)), ci 0] (.dptr (Qa0 (x36)) 0)), (18, rp [(.tmp 22, (B ((x36.Loss != 0))))] (B false)), (20, rp [(.tmp 23, B false), (.tmp 24, (z3_0 p0)), ci 0] (.dptr (Qa0 (x36)) 0))] ⟨alm (c := Qa0) (l := p0) (aln rfl Try.underlying31 rfl), apc (first := []) (cap := []) (vs := [(I ((p0.length : Int))), I 1, I 30]) rfl Qd3 (Qaw N (p0.length : Int) 1 30 _ hf33) rfl rfl (nlc nll (nlc nll (nlc nll nl0))) nll rfl, asb hb35 (amv rfl), ag_ (aid rfl Try.underlying31 Qjx rfl rfl hi38 (mgt Qa0 hj39) rfl), asb hb40 (amv rfl), ag_ (aid rfl Try.underlying31 Qjx rfl rfl hi38 (mgt Qa0 hj39) rfl), asb hb41 (amv rfl), ag_ (aid rfl Try.underlying31 Qjx rfl rfl hi38 (mgt Qa0 hj39) rfl), trivial⟩ ?_
      rcases bft ((x36.Limit != 0)) with hc42 | hc42
      ·replace h := Qar hc42 h
       refine wft hc42 (by kernel_rfl) ?_
       refine wx tbk [] trivial ?_
       refine Qah ?_
       refine Qad ?_
       obtain rfl := osi h
       exact fend ⟨[B false], ⟨rot (by kernel_rfl), trivial⟩, rfl⟩ nll
      ·replace h := Qas hc42 h
       refine wfn hc42 (by kernel_rfl) ?_
       refine Qag ?_
       refine thn ?_
       exact ⟨(), h, (mto (n := 66) [(0, (z3_0 p0))] [] [] hφ0 (pc (.rn (.plain _ (nld Qae _))) pn) qn)⟩
def Qg5 (N : Nat) (p0 : Int) : Option Bool :=
  (Qfo N p0).bind fun x3 =>
  some (!x3)
def z9_0 : Slot := .own 1 [[(.fn (.func 94) [] [])]]
set_option maxRecDepth 100000 in
set_option maxHeartbeats 4000000 in
theorem Qkv (N : Nat) (p0 : Int) (r : Bool) (h : Qg5 N p0 = some r) : Spec Try.prog 108 [(I (p0)), (.ref 0 1 (0) 0)] [z9_0] (B (r)) [z9_0] := by
  refine Qal Try.func108 rfl 1 (nle rfl) (fun X φ0 w0 hφ0 => ?_)
  unfold Qg5 at h
  refine Qc3 ?_
  refine wx tbk [] trivial ?_
  obtain ⟨x3, hf2, h⟩ := bno h
  refine wx tbk [(2, rp [(.tmp 4, (.fn (.func 94) [] [])), (.tmp 5, I p0)] (B x3))] ⟨apc (first := []) (cap := []) (vs := [I p0]) rfl Qfm (Qb4 N p0 _ hf2) rfl rfl (nlc nll nl0) nll rfl, trivial⟩ ?_
  refine wmr (mto (n := 8) (l' := [(3, (B ((!x3))))]) (own' := [z9_0]) [(3, (B ((!x3))))] [0] [z9_0] hφ0 (pc rwl pn) (qc (spb (lc (.rn (Qay rn0 rn0)) ln)) qn)) ?_
  refine Qah ?_
  obtain rfl := osi h
  exact ⟨_, Mor.rfl, Qdi (vs := [(B ((!x3)))]) ⟨rot (by kernel_rfl), trivial⟩ rfl (NLt.of0 nll) (by kernel_rfl) (Qau (Qbt (nlc (NLt.of0 (NLt.fn _ _ _ nl0 nl0)) nl0)) Qb0)⟩
def Qb8 (N : Nat) (p0 : (List Int)) (k2 : Unit → Option Int) : Nat → Int → Option Int
  | 0, _ => none
  | n5 + 1, y3 =>
    bif (decide (y3 < (p0.length : Int))) then
     (getI p0 y3).bind fun x7 =>
     (Qg5 N x7).bind fun x12 =>
     bif x12 then
      some y3
     else
      Qb8 N p0 k2 n5 (w64 (y3 + 1))
    else
     k2 ()
def Qew (N : Nat) (p0 : (List Int)) : Option Int :=
  Qbr (fun _ =>
    some (-1)) fun k2 : Unit → Option Int =>
  Qb8 N p0 k2 N 0
def z8_0 (p0 : (List Int)) : AV := .dat 1 ((p0 : List Int).map Qab)
def z8_1 : AV := .fn (.func 108) [] [(.ref 0 1 (0) 0)]
def z8_2 : Slot := .own 1 [[(.fn (.func 94) [] [])]]
set_option maxRecDepth 100000 in
set_option maxHeartbeats 4000000 in
theorem Qhk (N : Nat) (p0 : (List Int)) (r : Int) (h : Qew N p0 = some r) : Spec Try.prog 113 [(z8_0 p0), z8_1] [z8_2] (I (r)) [z8_2] := by
  refine Qal Try.func113 rfl 1 (nle rfl) (fun X φ0 w0 hφ0 => ?_)
  unfold Qew at h
  refine Qc3 ?_
  refine wx tbk [] trivial ?_
  obtain ⟨k2, hk_k2, h⟩ := jko h
  refine wjn (τ := Unit) (fun t => k2 t = some r) (fun _ => ⟨mk 19 [], [z8_2]⟩) (fun t h => ?_) ?_
  ·subst hk_k2
   refine wx tbk [] trivial ?_
   refine wmr (mto (n := 19) (l' := [(4, (I ((-1))))]) (own' := [z8_2]) [(4, (I ((-1))))] [0] [z8_2] hφ0 (pc rwl pn) (qc (spb (lc (.rn (Qay rn0 rn0)) ln)) qn)) ?_
   refine Qah ?_
   obtain rfl := osi h
   exact ⟨_, Mor.rfl, Qdi (vs := [(I ((-1)))]) ⟨rot (by kernel_rfl), trivial⟩ rfl (NLt.of0 nll) (by kernel_rfl) (Qau (Qbt (nlc (NLt.of0 (NLt.fn _ _ _ nl0 nl0)) nl0)) Qb0)⟩
  ·skip
   refine wx tbk [(1, rp [(.tmp 6, (z8_0 p0))] (I ((p0.length : Int))))] ⟨alm (c := Qab) (l := p0) (aln rfl Try.underlying23 rfl), trivial⟩ ?_
   refine Qai ?_
   refine wmr (mto (n := 19) (l' := [(0, (z8_0 p0)), (1, z8_1), (7, (I ((p0.length : Int)))), (8, I 0)]) (own' := [z8_2]) [(0, (z8_0 p0)), (1, z8_1), (7, (I ((p0.length : Int)))), (8, I 0)] [0] [z8_2] hφ0 (pc (.rn (.plain _ (nld Qaa _))) (pc (.rn (Qay rn0 (rnc (rqr rfl) rn0))) (pc rwl (pc rwl pn)))) (qc (spb (lc (.rn (Qay rn0 rn0)) ln)) qn)) ?_
   refine Qbu (τ := Int) (fun n t => Qb8 N p0 k2 n t = some r) (fun y3 => ⟨mk 19 [(0, (z8_0 p0)), (1, z8_1), (7, (I ((p0.length : Int)))), (8, I y3)], [z8_2]⟩) (fun t h => by rw [Qb8] at h; cases h) (fun n5 ih y3 h => ?_) N (0) h
   rw [Qb8] at h
   skip
   refine wx tbk [] trivial ?_
   refine wsq ?_
   rcases bft ((decide (y3 < (p0.length : Int)))) with hc6 | hc6
   ·replace h := Qar hc6 h
    refine wft hc6 (by kernel_rfl) ?_
    refine Qag ?_
    refine thn ?_
    refine wsq ?_
    refine Qai ?_
    refine wx tbk [] trivial ?_
    obtain ⟨x7, hg8, h⟩ := bno h
    obtain ⟨hi9, hj10⟩ := gsm hg8
    obtain ⟨x12, hf11, h⟩ := bno h
    refine wx tbk [(3, rp [(.tmp 12, (z8_0 p0)), (.tmp 13, I y3)] (.dptr (Qab (x7)) 0)), (5, ⟨[(.tmp 11, z8_1), (.tmp 15, I x7)], [(0, z8_2)], B x12, [(0, z8_2)], false⟩)] ⟨aid rfl Try.underlying23 ti3 rfl rfl hi9 (mgt Qab hj10) rfl, Qat (first := []) (cap := [.ref 0 1 0 0]) (vs := [I x7]) (σr := [z8_2]) (σr' := [z8_2]) (res' := (B x12)) [0] rfl Qvc (Qkv N x7 _ hf11) rfl (Qcq (rnc (.plain _ nll) (rnc (Qbn rfl) rn0))) (slc (Qam (rnc (.plain _ (NLt.fn _ _ _ nl0 nl0)) rn0)) Qap) (slc (Qam (rnc (.plain _ (NLt.fn _ _ _ nl0 nl0)) rn0)) Qap) (.plain _ nll) rfl rfl rfl, trivial⟩ ?_
    rcases bft (x12) with hc13 | hc13
    ·replace h := Qar hc13 h
     refine wft hc13 (by kernel_rfl) ?_
     refine wx tbk [] trivial ?_
     refine wmr (mto (n := 19) (l' := [(4, I y3)]) (own' := [z8_2]) [(4, I y3)] [0] [z8_2] hφ0 (pc rwl pn) (qc (spb (lc (.rn (Qay rn0 rn0)) ln)) qn)) ?_
     refine Qah ?_
     refine Qak ?_
     refine Qad ?_
     refine Qad ?_
     refine Qak ?_
     refine Qad ?_
     obtain rfl := osi h
     exact ⟨_, Mor.rfl, Qdi (vs := [I y3]) ⟨rot (by kernel_rfl), trivial⟩ rfl (NLt.of0 nll) (by kernel_rfl) (Qau (Qbt (nlc (NLt.of0 (NLt.fn _ _ _ nl0 nl0)) nl0)) Qb0)⟩
    ·replace h := Qas hc13 h
     refine wfn hc13 (by kernel_rfl) ?_
     refine Qag ?_
     refine bln ?_
     refine thn ?_
     refine wx1 tbk [] trivial ?_
     refine thn ?_
     exact arm (mto (n := 19) [(0, (z8_0 p0)), (1, z8_1), (7, (I ((p0.length : Int)))), (8, (I (w64 (y3 + 1))))] [0] [z8_2] hφ0 (pc (.rn (.plain _ (nld Qaa _))) (pc (.rn (Qay rn0 (rnc (rqr rfl) rn0))) (pc rwl (pc rwl pn)))) (qc (spb (lc (.rn (Qay rn0 rn0)) ln)) qn)) (ih (w64 (y3 + 1)) h)
   ·replace h := Qas hc6 h
    refine wfn hc6 (by kernel_rfl) ?_
    refine Qa3 ?_
    refine Qao ?_
    refine Qao ?_
    refine Qa2 rfl ?_
    refine thn ?_
    exact ⟨(), h, (mto (n := 19) [] [0] [z8_2] hφ0 pn (qc (spb (lc (.rn (Qay rn0 rn0)) ln)) qn))⟩
def Qed (N : Nat) (p0 : (List Int)) : Option Bool :=
  (Qew N p0).bind fun x3 =>
  some (decide (x3 ≥ 0))
def z7_0 (p0 : (List Int)) : AV := .dat 1 ((p0 : List Int).map Qab)
def z7_1 : AV := .fn (.func 108) [] [(.ref 0 1 (0) 0)]
def z7_2 : Slot := .own 1 [[(.fn (.func 94) [] [])]]
set_option maxRecDepth 100000 in
set_option maxHeartbeats 4000000 in
theorem Qgw (N : Nat) (p0 : (List Int)) (r : Bool) (h : Qed N p0 = some r) : Spec Try.prog 107 [(z7_0 p0), z7_1] [z7_2] (B (r)) [z7_2] := by
  refine Qal Try.func107 rfl 1 (nle rfl) (fun X φ0 w0 hφ0 => ?_)
  unfold Qed at h
  refine Qc3 ?_
  refine wx tbk [] trivial ?_
  obtain ⟨x3, hf2, h⟩ := bno h
  refine wx tbk [(2, ⟨[fu 113, (.tmp 5, (z7_0 p0)), (.tmp 6, z7_1)], [(0, z7_2)], I x3, [(0, z7_2)], false⟩)] ⟨Qat (first := []) (cap := []) (vs := [(z7_0 p0), z7_1]) (σr := [z7_2]) (σr' := [z7_2]) (res' := (I x3)) [0] rfl Qvb (Qhk N p0 _ hf2) rfl (Qcq (rnc (.plain _ (nld Qaa _)) (rnc (Qay rn0 (rnc (Qbn rfl) rn0)) rn0))) (slc (Qam (rnc (.plain _ (NLt.fn _ _ _ nl0 nl0)) rn0)) Qap) (slc (Qam (rnc (.plain _ (NLt.fn _ _ _ nl0 nl0)) rn0)) Qap) (.plain _ nll) rfl rfl rfl, trivial⟩ ?_
  refine wmr (mto (n := 9) (l' := [(4, (B ((decide (x3 ≥ 0)))))]) (own' := [z7_2]) [(4, (B ((decide (x3 ≥ 0)))))] [0] [z7_2] hφ0 (pc rwl pn) (qc (spb (lc (.rn (Qay rn0 rn0)) ln)) qn)) ?_
  refine Qah ?_
  obtain rfl := osi h
  exact ⟨_, Mor.rfl, Qdi (vs := [(B ((decide (x3 ≥ 0))))]) ⟨rot (by kernel_rfl), trivial⟩ rfl (NLt.of0 nll) (by kernel_rfl) (Qau (Qbt (nlc (NLt.of0 (NLt.fn _ _ _ nl0 nl0)) nl0)) Qb0)⟩
def Qh4 (N : Nat) (p0 : (List Int)) : Option Bool :=
  (Qed N p0).bind fun x2 =>
  some (!x2)
def z6_1 (p0 : (List Int)) : AV := .dat 1 ((p0 : List Int).map Qab)
def z6_2 : AV := .fn (.func 108) [] [(.ref 0 1 (0) 0)]
def z6_0 : Slot := .own 1 [[(.fn (.func 94) [] [])]]
set_option maxRecDepth 100000 in
set_option maxHeartbeats 4000000 in
theorem Qlu (N : Nat) (p0 : (List Int)) (r : Bool) (h : Qh4 N p0 = some r) : Spec Try.prog 90 [(z6_1 p0), (.fn (.func 94) [] [])] [] (B (r)) [] := by
  refine Qal Try.func90 rfl 0 (nle rfl) (fun X φ0 w0 hφ0 => ?_)
  unfold Qh4 at h
  refine wx tbk [] trivial ?_
  obtain ⟨x2, hf1, h⟩ := bno h
  refine wx tbk [(1, rp [(.tmp 3, .ref 0 1 0 0)] z6_2), (2, ⟨[fu 107, (.tmp 5, (z6_1 p0)), (.tmp 6, z6_2)], [(0, z6_0)], B x2, [(0, z6_0)], false⟩)] ⟨Qgp (fs := []) (cs := [.ref 0 1 0 0]) rfl rfl rfl rfl, Qat (first := []) (cap := []) (vs := [(z6_1 p0), z6_2]) (σr := [z6_0]) (σr' := [z6_0]) (res' := (B x2)) [0] rfl Qvd (Qgw N p0 _ hf1) rfl (Qcq (rnc (.plain _ (nld Qaa _)) (rnc (Qay rn0 (rnc (Qbn rfl) rn0)) rn0))) (slc (Qam (rnc (.plain _ (NLt.fn _ _ _ nl0 nl0)) rn0)) Qap) (slc (Qam (rnc (.plain _ (NLt.fn _ _ _ nl0 nl0)) rn0)) Qap) (.plain _ nll) rfl rfl rfl, trivial⟩ ?_
  refine Qah ?_
  obtain rfl := osi h
  exact fend ⟨[(B ((!x2)))], ⟨rot (by kernel_rfl), trivial⟩, rfl⟩ nll
def Qkk (N : Nat) (p0 : (List GNode)) (p1 : (List Int)) : Option Int :=
  (Qhq N p0).bind fun x2 =>
  bif (!x2) then
   some 1
  else
   bif ((p1.length : Int) != (p0.length : Int)) then
    some 2
   else
    (Qh4 N p1).bind fun x6 =>
    bif (!x6) then
     some 2
    else
     some 0
def z2_0 (p0 : (List GNode)) : AV := .dat 4 ((p0 : List GNode).map Qa0)
def z2_1 (p1 : (List Int)) : AV := .dat 1 ((p1 : List Int).map Qab)
set_option maxRecDepth 100000 in
set_option maxHeartbeats 4000000 in
theorem Qls (N : Nat) (p0 : (List GNode)) (p1 : (List Int)) (r : Int) (h : Qkk N p0 p1 = some r) : Spec Try.prog 67 [(.dat 4 (p0.map Qa0)), (.dat 1 (p1.map Qab))] [] (I r) [] := by
  refine Qal Try.func67 rfl 0 (nle rfl) (fun X φ0 w0 hφ0 => ?_)
  unfold Qkk at h
  refine wx tbk [] trivial ?_
  refine wsq ?_
  refine Qai ?_
  obtain ⟨x2, hf1, h⟩ := bno h
  refine wx tbk [(1, rp [fu 80, (.tmp 6, (z2_0 p0))] (B x2))] ⟨apc (first := []) (cap := []) (vs := [(z2_0 p0)]) rfl enter80 (Qk9 N p0 _ hf1) rfl rfl (nlc (nld Qae _) nl0) nll rfl, trivial⟩ ?_
  rcases bft ((!x2)) with hc3 | hc3
  ·replace h := Qar hc3 h
   refine wft hc3 (by kernel_rfl) ?_
   refine wx tbk [] trivial ?_
   refine Qah ?_
   refine Qak ?_
   refine Qad ?_
   obtain rfl := osi h
   exact fend ⟨[I 1], ⟨rot (by kernel_rfl), trivial⟩, rfl⟩ nll
  ·replace h := Qas hc3 h
   refine wfn hc3 (by kernel_rfl) ?_
   rcases bft (((p1.length : Int) != (p0.length : Int))) with hb4 | hb4
   ·replace h := Qar hb4 h
    refine wx tbk [(1, rp [(.tmp 10, (z2_1 p1))] (I ((p1.length : Int)))), (3, rp [(.tmp 12, (z2_0 p0))] (I ((p0.length : Int)))), (5, rp [(.tmp 14, (B (((p1.length : Int) != (p0.length : Int)))))] (B true))] ⟨alm (c := Qab) (l := p1) (aln rfl Try.underlying23 rfl), alm (c := Qa0) (l := p0) (aln rfl Try.underlying31 rfl), asb hb4 (amv rfl), trivial⟩ ?_
    refine Qcm (by kernel_rfl) ?_
    refine wx tbk [] trivial ?_
    refine Qah ?_
    refine Qak ?_
    refine Qad ?_
    obtain rfl := osi h
    exact fend ⟨[I 2], ⟨rot (by kernel_rfl), trivial⟩, rfl⟩ nll
   ·replace h := Qas hb4 h
    obtain ⟨x6, hf5, h⟩ := bno h
    refine wx tbk [(1, rp [(.tmp 10, (z2_1 p1))] (I ((p1.length : Int)))), (3, rp [(.tmp 12, (z2_0 p0))] (I ((p0.length : Int)))), (5, rp [(.tmp 14, (B (((p1.length : Int) != (p0.length : Int)))))] (B false)), (7, rp [(.tmp 15, B false), fu 90, (.tmp 16, (z2_1 p1)), fu 94] (B x6))] ⟨alm (c := Qab) (l := p1) (aln rfl Try.underlying23 rfl), alm (c := Qa0) (l := p0) (aln rfl Try.underlying31 rfl), asb hb4 (amv rfl), ag_ (Qat (first := []) (cap := []) (vs := [(z2_1 p1), (.fn (.func 94) [] [])]) (σr := []) (σr' := []) (res' := (B x6)) [] rfl Qy4 (Qlu N p1 _ hf5) rfl (Qcq (rnc (.plain _ (nld Qaa _)) (rnc (.plain _ (NLt.fn _ _ _ nl0 nl0)) rn0))) Qap Qap (.plain _ nll) rfl rfl rfl), trivial⟩ ?_
    rcases bft ((!x6)) with hc7 | hc7
    ·replace h := Qar hc7 h
     refine wft hc7 (by kernel_rfl) ?_
     refine wx tbk [] trivial ?_
     refine Qah ?_
     refine Qak ?_
     refine Qad ?_
     obtain rfl := osi h
     exact fend ⟨[I 2], ⟨rot (by kernel_rfl), trivial⟩, rfl⟩ nll
    ·replace h := Qas hc7 h
     refine wfn hc7 (by kernel_rfl) ?_
     refine Qag ?_
     refine bln ?_
     refine thn ?_
     refine wx tbk [] trivial ?_
     refine Qah ?_
     obtain rfl := osi h
     exact fend ⟨[I 0], ⟨rot (by kernel_rfl), trivial⟩, rfl⟩ nll
def Qek (_N : Nat) (p0 : (List Int)) : Option Unit :=
  chk (!p0.isEmpty) <|
  chk (!p0.isEmpty) <|
  chk (decide ((0 + p0.length) * 8 ≤ 140737488355328)) <|
  some ()
def z11_0 (p0 : (List Int)) : AV := .dat 1 ((p0 : List Int).map Qab)
def z11_2 (p0 : (List Int)) : Slot := .own 1 ((p0 : List Int).map Qab)
def z11_1 : AV := .acc 0 3 1 ((([] : List Int) : List Int).map Qab)
set_option maxRecDepth 100000 in
set_option maxHeartbeats 4000000 in
theorem Qgc (N : Nat) (p0 : (List Int)) (r : Unit) (h : Qek N p0 = some r) : Spec Try.prog 97 [(z11_0 p0)] [] (.own 0 1 (0) (p0.length)) [(z11_2 p0)] := by
  refine Qal Try.func97 rfl 1 (nle rfl) (fun X φ0 w0 hφ0 => ?_)
  unfold Qek at h
  refine Qc3 ?_
  refine wx tbk [] trivial ?_
  refine wsq ?_
  obtain ⟨hz1, h⟩ := cko h
  refine wx tbk [(1, rp [(.tmp 3, (z11_0 p0)), ((.const (.slice none 0 0)), nilS)] (B false))] ⟨Qtz rfl Try.underlying23 rfl (Qjf hz1), trivial⟩ ?_
  refine Qdj (by kernel_rfl) ?_
  refine Qag ?_
  refine thn ?_
  obtain ⟨ha3, h⟩ := cko h
  obtain ⟨ha2, h⟩ := cko h
  refine wx tbk [(0, ⟨[], [(0, .unused)], z11_1, [(0, .tok)], false⟩), (2, ⟨[(.tmp 5, z11_1), (.tmp 6, (z11_0 p0))], [(0, .tok), (1, .unused)], (.own 1 1 (0) (p0.length)), [(0, .dead), (1, (z11_2 p0))], false⟩)] ⟨Qjm rfl Try.underlying23 ti3 tz3, Qw5 rfl Try.underlying23 te3 (Base.acc _ _) rfl rfl (Qjf ha3) (Qqp Qab Qte _) (app_le1n Qab ha2) (app_le2n Qab ha2 (by decide)) (List.length_map _), trivial⟩ ?_
  refine wmr (mto (n := 8) (l' := [(2, (.own 0 1 (0) (p0.length)))]) (own' := [(z11_2 p0)]) [(2, (.own 1 1 (0) (p0.length)))] [1] [(z11_2 p0)] hφ0 (pc (.rn (Qaf rfl)) pn) (qc (spr Qaa) qn)) ?_
  refine Qah ?_
  obtain rfl := osi h
  exact ⟨_, Mor.rfl, Qdi (vs := [(.own 0 1 (0) (p0.length))]) ⟨rot (by kernel_rfl), trivial⟩ rfl (NLt.own _ _ _ _ (by decide)) (by kernel_rfl) (Qau (Qd9 Qaa _) Qb0)⟩
def Qce (_N : Nat) (_p0 : (List GNode)) : Option Unit :=
  some ()
def z12_0 (p0 : (List GNode)) : AV := .dat 4 ((p0 : List GNode).map Qa0)
def Qxt : AV := .fn (.func 105) [] [(.ref 0 1 (0) 0)]
set_option maxRecDepth 100000 in
set_option maxHeartbeats 4000000 in
theorem Qd7 (N : Nat) (p0 : (List GNode)) (r : Unit) (h : Qce N p0 = some r) : Spec Try.prog 86 [(z12_0 p0)] [] Qxt [(.own 1 [[(z12_0 p0)]])] := by
  refine Qal Try.func86 rfl 1 (nle rfl) (fun X φ0 w0 hφ0 => ?_)
  unfold Qce at h
  refine Qc3 ?_
  refine wx tbk [] trivial ?_
  refine wx tbk [(0, rp [(.tmp 1, .ref 0 1 0 0)] Qxt)] ⟨Qgp (fs := []) (cs := [.ref 0 1 0 0]) rfl rfl rfl rfl, trivial⟩ ?_
  refine wmr (mto (n := 4) (l' := [(2, Qxt)]) (own' := [(.own 1 [[(z12_0 p0)]])]) [(2, Qxt)] [0] [(.own 1 [[(z12_0 p0)]])] hφ0 (pc (.rn (Qay rn0 (rnc (rqr rfl) rn0))) pn) (qc (spb (lc (.rn (.plain _ (nld Qae _))) ln)) qn)) ?_
  refine Qah ?_
  obtain rfl := osi h
  exact ⟨_, Mor.rfl, Qdi (vs := [Qxt]) ⟨rot (by kernel_rfl), trivial⟩ rfl (NLt.fn _ _ _ nl0 (nlc (NLt.ref _ _ _ _ (by decide)) nl0)) (by kernel_rfl) (Qau (Qbt (nlc (NLt.of0 (nld Qae _)) nl0)) Qb0)⟩
def Qa6 (N : Nat) (p0 : (List GNode)) : Nat → Int → Option (List (Int × GNode))
  | 0, _ => none
  | n7 + 1, y3 =>
    bif (decide (y3 ≥ 0)) then
     (getI p0 y3).bind fun x9 =>
     yld (y3, x9) <|
     Qa6 N p0 n7 (w64 (y3 - 1))
    else
     some ([])
def Qcd (N : Nat) (p0 : (List GNode)) : Option (List (Int × GNode)) :=
  (some (w64 ((p0.length : Int) - 1))).bind fun x1 =>
  Qa6 N p0 N x1
def Qm6 (p0 : (List GNode)) : AV := .dat 4 ((p0 : List GNode).map Qa0)
def z13_3 (x9 : GNode) : AV := .agg [(I (x9.Parent)), (I (x9.Loss)), (I (x9.Limit)), (I (x9.Rank))]
set_option maxRecDepth 100000 in
set_option maxHeartbeats 4000000 in
theorem Qd6 (N : Nat) (p0 : (List GNode)) (r : (List (Int × GNode))) (h : Qcd N p0 = some r) : Qo1 Try.prog 105 [(.ref 0 1 (0) 0)] [(.own 1 [[(Qm6 p0)]])] (fun x => [(.int .i64 (x.1)), (.agg #[(.int .i64 (x.2.Parent)), (.int .i64 (x.2.Loss)), (.int .i64 (x.2.Limit)), (.int .i64 (x.2.Rank))])]) r := by
  refine Qpf Try.func105 rfl rfl (fun X φ0 w0 l J hφ0 hy => ?_)
  unfold Qcd at h
  obtain ⟨x1, hl2, h⟩ := bno h
  refine wx tbk [(1, rp [(.tmp 4, (Qm6 p0))] (I ((p0.length : Int)))), (3, rp [(.tmp 6, (I (w64 ((p0.length : Int) - 1))))] (I x1))] ⟨alm (c := Qa0) (l := p0) (aln rfl Try.underlying31 rfl), Qd4 hl2 (aas rfl), trivial⟩ ?_
  refine Qai ?_
  refine wmr (mto (n := 19) (l' := [(0, (.lit (.func (.yield l) #[] #[]))), (1, .ref 0 1 0 0), (3, I x1)]) (own' := [(.own 1 [[(Qm6 p0)]]), (.far (J (some (r))))]) [(0, (.lit (.func (.yield l) #[] #[]))), (1, .ref 0 1 0 0), (3, I x1)] [0, 1] [(.own 1 [[(Qm6 p0)]]), (.far (J (some (r))))] hφ0 (pc rwl (pc (.rn (rqr rfl)) (pc rwl pn))) (qc (spb (lc (.rn (.plain _ (nld Qae _))) ln)) (qc (.far _) qn))) ?_
  refine Qbu (τ := (Int) × List (Int × GNode)) (fun n t => Qa6 N p0 n t.1 = some t.2) (fun ⟨y3, q4⟩ => ⟨mk 19 [(0, (.lit (.func (.yield l) #[] #[]))), (1, .ref 0 1 0 0), (3, I y3)], [(.own 1 [[(Qm6 p0)]]), (.far (J (some (q4))))]⟩) (fun t h => by rw [Qa6] at h; cases h) (fun n7 ih t h => ?_) N ((x1), r) h
  obtain ⟨y3, q4⟩ := t
  rw [Qa6] at h
  try dsimp only at h
  refine wsq ?_
  refine wx tbk [] trivial ?_
  rcases bft ((decide (y3 ≥ 0))) with hc8 | hc8
  ·replace h := Qar hc8 h
   refine wft hc8 (by kernel_rfl) ?_
   refine Qag ?_
   refine thn ?_
   refine wsq ?_
   refine Qai ?_
   obtain ⟨x9, hg10, h⟩ := bno h
   obtain ⟨hi11, hj12⟩ := gsm hg10
   obtain ⟨q13, hy_, hq_⟩ := Qx0 h
   clear h
   subst hq_
   have h := hy_
   clear hy_
   refine Qvm 6 [mv 0 (.lit (.func (.yield l) #[] #[])), mv 3 (I y3), rb [(.tmp 1, .ref 0 1 0 0)] [(0, (.own 1 [[(Qm6 p0)]]))] (Qm6 p0), mv 3 (I y3), rp [(.tmp 13, (Qm6 p0)), (.tmp 14, I y3)] (.dptr (Qa0 (x9)) 0), rp [(.tmp 15, (.dptr (Qa0 (x9)) 0))] (z13_3 x9), ⟨[(.tmp 11, (.lit (.func (.yield l) #[] #[]))), (.tmp 12, I y3), (.tmp 16, (z13_3 x9))], [(1, (.far (J (some ((y3, x9) :: q13)))))], B true, [(1, (.far (J (some (q13)))))], false⟩, rp [(.tmp 17, B true)] (B false)] [mv 0 (.lit (.func (.yield l) #[] #[])), mv 3 (I y3), rb [(.tmp 1, .ref 0 1 0 0)] [(0, (.own 1 [[(Qm6 p0)]]))] (Qm6 p0), mv 3 (I y3), rp [(.tmp 13, (Qm6 p0)), (.tmp 14, I y3)] (.dptr (Qa0 (x9)) 0), rp [(.tmp 15, (.dptr (Qa0 (x9)) 0))] (z13_3 x9), ⟨[(.tmp 11, (.lit (.func (.yield l) #[] #[]))), (.tmp 12, I y3), (.tmp 16, (z13_3 x9))], [(1, (.far (J (some ((y3, x9) :: q13)))))], B false, [(1, (.far (J none)))], false⟩, rp [(.tmp 17, B false)] (B true)] (by exact ⟨by kernel_rfl, by kernel_rfl⟩) (by exact ⟨by kernel_rfl, by kernel_rfl⟩) rfl rfl rfl rfl (Qow (rd' := (.tmp 11, .lit (.func (.yield l) #[] #[])) :: [(.tmp 12, .lit (.int .i64 (y3))), (.tmp 16, .lit (.agg #[(.int .i64 (x9.Parent)), (.int .i64 (x9.Loss)), (.int .i64 (x9.Limit)), (.int .i64 (x9.Rank))]))]) ⟨rfl, lrf, rfl, lrf, rfl, (Less.lits [(.int .i64 (x9.Parent)), (.int .i64 (x9.Loss)), (.int .i64 (x9.Limit)), (.int .i64 (x9.Rank))]), trivial⟩ (Qm2 (x := (y3, x9)) (rest := q13) rfl rfl hy rfl)) (⟨fun _ _ => amv rfl, fun _ _ => amv rfl, fun _ _ => ald rfl ti31 (by decide) rfl (nle rfl) rfl, fun _ _ => amv rfl, fun _ _ => aid rfl Try.underlying31 Qjx rfl rfl hi11 (mgt Qa0 hj12) rfl, fun _ _ => ald_ rfl Qjx (by decide) (nle rfl) rfl, fun _ h => absurd rfl h, fun _ _ => Qkg rfl, trivial⟩) (⟨fun _ _ => amv rfl, fun _ _ => amv rfl, fun _ _ => ald rfl ti31 (by decide) rfl (nle rfl) rfl, fun _ _ => amv rfl, fun _ _ => aid rfl Try.underlying31 Qjx rfl rfl hi11 (mgt Qa0 hj12) rfl, fun _ _ => ald_ rfl Qjx (by decide) (nle rfl) rfl, fun _ h => absurd rfl h, fun _ _ => Qkg rfl, trivial⟩) ?_ ?_
   ·skip
    refine Qdj (by kernel_rfl) ?_
    refine Qag ?_
    refine bln ?_
    refine thn ?_
    refine wx1 tbk [] trivial ?_
    refine thn ?_
    exact arm (mto (n := 19) [(0, (.lit (.func (.yield l) #[] #[]))), (1, .ref 0 1 0 0), (3, (I (w64 (y3 - 1))))] [0, 1] [(.own 1 [[(Qm6 p0)]]), (.far (J (some (q13))))] hφ0 (pc rwl (pc (.rn (rqr rfl)) (pc rwl pn))) (qc (spb (lc (.rn (.plain _ (nld Qae _))) ln)) (qc (.far _) qn))) (ih ((w64 (y3 - 1)), q13) h)
   ·clear h
    refine Qcm (by kernel_rfl) ?_
    refine Qah ?_
    refine Qak ?_
    refine Qad ?_
    refine Qad ?_
    refine Qak ?_
    exact Or.inr (by kernel_rfl)
  ·replace h := Qas hc8 h
   refine wfn hc8 (by kernel_rfl) ?_
   refine Qa3 ?_
   refine Qao ?_
   refine Qao ?_
   refine Qa2 rfl ?_
   obtain rfl := osi h
   exact Or.inl rfl
def Qe9 (_N : Nat) (p0 : Int) (p1 : Nat) (p2 : (List GNode)) (p3 : (List Int)) : Option (List Int) :=
  Qbr (fun y2 =>
    (getI p2 p0).bind fun x4 =>
    bif (decide (x4.Parent ≥ 0)) then
     chk (decide (0 ≤ x4.Parent) && decide (x4.Parent.toNat < p1)) <|
     (y2[x4.Parent.toNat]?).bind fun x10 =>
     chk (decide (0 ≤ p0) && decide (p0.toNat < p1)) <|
     (y2[p0.toNat]?).bind fun x13 =>
     chk (decide (0 ≤ x4.Parent) && decide (x4.Parent.toNat < p1)) <|
     (y2[x4.Parent.toNat]?).bind fun _ =>
     some (y2.set x4.Parent.toNat (w64 (x10 + x13)))
    else
     some y2) fun k3 : (List Int) → Option (List Int) =>
  chk (decide (0 ≤ p0) && decide (p0.toNat < p1)) <|
  (p3[p0.toNat]?).bind fun x19 =>
  bif (decide (x19 > 0)) then
   chk (decide (0 ≤ p0) && decide (p0.toNat < p1)) <|
   (p3[p0.toNat]?).bind fun x23 =>
   (getI p2 p0).bind fun x25 =>
   chk (decide (0 ≤ p0) && decide (p0.toNat < p1)) <|
   (p3[p0.toNat]?).bind fun _ =>
   k3 (p3.set p0.toNat (w64 (x23 + x25.Loss)))
  else
   k3 (p3)
def Qp5 (p1 : Nat) : Slot := .own 1 [[(.own 2 1 (0) (p1))]]
def Qnt (p2 : (List GNode)) : AV := .dat 4 ((p2 : List GNode).map Qa0)
def Qrm (p3 : (List Int)) : Slot := .own 1 ((p3 : List Int).map Qab)
def Qp4 (y2 : (List Int)) : Slot := .own 1 ((y2 : List Int).map Qab)
set_option maxRecDepth 100000 in
set_option maxHeartbeats 4000000 in
theorem Qgt (N : Nat) (p0 : Int) (p1 : Nat) (p2 : (List GNode)) (p3 : (List Int)) (r : (List Int)) (h : Qe9 N p0 p1 p2 p3 = some r) : Spec Try.prog 98 [(I (p0)), (.ref 0 1 (0) 0), (.ref 1 1 (0) 0)] [(Qp5 p1), (.own 1 [[(Qnt p2)]]), (Qrm p3)] (.tup []) [(Qp5 p1), (.own 1 [[(Qnt p2)]]), (.own 1 ((r : List Int).map Qab))] := by
  refine Qal Try.func98 rfl 3 (nle rfl) (fun X φ0 w0 hφ0 => ?_)
  unfold Qe9 at h
  refine Qc3 ?_
  obtain ⟨k3, hk_k3, h⟩ := jko h
  refine wjn (τ := (List Int)) (fun t => k3 t = some r) (fun y2 => ⟨mk 38 [(0, I p0), (1, .ref 0 1 0 0), (2, .ref 1 1 0 0)], [(Qp5 p1), (.own 1 [[(Qnt p2)]]), (Qp4 y2)]⟩) (fun y2 h => ?_) ?_
  ·subst hk_k3
   obtain ⟨x4, hg5, h⟩ := bno h
   obtain ⟨hi6, hj7⟩ := gsm hg5
   refine wx tbk [(2, rp [(.tmp 21, (Qnt p2)), (.tmp 22, I p0)] (.dptr (Qa0 (x4)) 0))] ⟨aid rfl Try.underlying31 Qjx rfl rfl hi6 (mgt Qa0 hj7) rfl, trivial⟩ ?_
   refine wx tbk [] trivial ?_
   rcases bft ((decide (x4.Parent ≥ 0))) with hc8 | hc8
   ·replace h := Qar hc8 h
    refine wft hc8 (by kernel_rfl) ?_
    obtain ⟨hi9, h⟩ := cko h
    obtain ⟨hi9a, hi9b⟩ := Qa1 hi9
    obtain ⟨x10, hg11, h⟩ := bno h
    obtain ⟨hi12, h⟩ := cko h
    obtain ⟨hi12a, hi12b⟩ := Qa1 hi12
    obtain ⟨x13, hg14, h⟩ := bno h
    obtain ⟨hi15, h⟩ := cko h
    obtain ⟨hi15a, hi15b⟩ := Qa1 hi15
    obtain ⟨x16, hg17, h⟩ := bno h
    refine wy1 tbk [(2, rb [(.tmp 28, (.own 2 1 (0) (p1))), (.tmp 29, I x4.Parent)] [(2, (Qp4 y2))] (.ref 2 1 (x4.Parent.toNat) 0)), (3, rb [(.tmp 30, (.ref 2 1 (x4.Parent.toNat) 0))] [(2, (Qp4 y2))] (I x10)), (6, rb [(.tmp 32, (.own 2 1 (0) (p1))), (.tmp 33, I p0)] [(2, (Qp4 y2))] (.ref 2 1 (p0.toNat) 0)), (7, rb [(.tmp 34, (.ref 2 1 (p0.toNat) 0))] [(2, (Qp4 y2))] (I x13)), (9, rb [(.tmp 28, (.own 2 1 (0) (p1))), (.tmp 29, I x4.Parent)] [(2, (Qp4 y2))] (.ref 2 1 (x4.Parent.toNat) 0)), (10, ⟨[(.tmp 37, (.ref 2 1 (x4.Parent.toNat) 0)), (.tmp 36, (I (w64 (x10 + x13))))], [(2, (Qp4 y2))], .any, [(2, (.own 1 ((y2.set x4.Parent.toNat (w64 (x10 + x13)) : List Int).map Qab)))], false⟩)] ⟨aio rfl Try.underlying23 ti3 (odt hi9a) (odt hi9b) (Nat.zero_add _), ald rfl ti3 (by decide) (mgt Qab hg11) (nle rfl) rfl, aio rfl Try.underlying23 ti3 (odt hi12a) (odt hi12b) (Nat.zero_add _), ald rfl ti3 (by decide) (mgt Qab hg14) (nle rfl) rfl, aio rfl Try.underlying23 ti3 (odt hi15a) (odt hi15b) (Nat.zero_add _), ast rfl ti3 (by rfl) (mgt Qab hg17) (nle rfl) (Qel Qab rfl), trivial⟩ ?_
    obtain rfl := osi h
    exact ⟨_, (mto (n := 38) (l' := []) (own' := [(Qp5 p1), (.own 1 [[(Qnt p2)]]), (.own 1 (((y2.set x4.Parent.toNat (w64 (x10 + x13))) : List Int).map Qab))]) [] [0, 1, 2] [(Qp5 p1), (.own 1 [[(Qnt p2)]]), (.own 1 ((y2.set x4.Parent.toNat (w64 (x10 + x13)) : List Int).map Qab))] hφ0 pn (qc (spb (lc (.rn (Qaf rfl)) ln)) (qc (spb (lc (.rn (.plain _ (nld Qae _))) ln)) (qc (spr Qaa) qn)))), Qdi (vs := []) trivial rfl (NLt.tup _ nl0) (by kernel_rfl) (Qau (Qbt (nlc (NLt.own _ _ _ _ (by decide)) nl0)) (Qau (Qbt (nlc (NLt.of0 (nld Qae _)) nl0)) (Qau (Qd9 Qaa _) Qb0)))⟩
   ·replace h := Qas hc8 h
    refine wfn hc8 (by kernel_rfl) ?_
    refine Qag ?_
    obtain rfl := osi h
    exact ⟨_, (mto (n := 38) (l' := []) (own' := [(Qp5 p1), (.own 1 [[(Qnt p2)]]), (Qp4 y2)]) [] [0, 1, 2] [(Qp5 p1), (.own 1 [[(Qnt p2)]]), (Qp4 y2)] hφ0 pn (qc (spb (lc (.rn (Qaf rfl)) ln)) (qc (spb (lc (.rn (.plain _ (nld Qae _))) ln)) (qc (spr Qaa) qn)))), Qdi (vs := []) trivial rfl (NLt.tup _ nl0) (by kernel_rfl) (Qau (Qbt (nlc (NLt.own _ _ _ _ (by decide)) nl0)) (Qau (Qbt (nlc (NLt.of0 (nld Qae _)) nl0)) (Qau (Qd9 Qaa _) Qb0)))⟩
  ·skip
   obtain ⟨hi18, h⟩ := cko h
   obtain ⟨hi18a, hi18b⟩ := Qa1 hi18
   obtain ⟨x19, hg20, h⟩ := bno h
   refine wx tbk [(2, rb [(.tmp 5, (.own 2 1 (0) (p1))), (.tmp 6, I p0)] [(2, (Qrm p3))] (.ref 2 1 (p0.toNat) 0)), (3, rb [(.tmp 7, (.ref 2 1 (p0.toNat) 0))] [(2, (Qrm p3))] (I x19))] ⟨aio rfl Try.underlying23 ti3 (odt hi18a) (odt hi18b) (Nat.zero_add _), ald rfl ti3 (by decide) (mgt Qab hg20) (nle rfl) rfl, trivial⟩ ?_
   rcases bft ((decide (x19 > 0))) with hc21 | hc21
   ·replace h := Qar hc21 h
    refine wft hc21 (by kernel_rfl) ?_
    obtain ⟨hi22, h⟩ := cko h
    obtain ⟨hi22a, hi22b⟩ := Qa1 hi22
    obtain ⟨x23, hg24, h⟩ := bno h
    obtain ⟨x25, hg26, h⟩ := bno h
    obtain ⟨hi27, hj28⟩ := gsm hg26
    obtain ⟨hi29, h⟩ := cko h
    obtain ⟨hi29a, hi29b⟩ := Qa1 hi29
    obtain ⟨x30, hg31, h⟩ := bno h
    refine wy1 tbk [(2, rb [(.tmp 10, (.own 2 1 (0) (p1))), (.tmp 11, I p0)] [(2, (Qrm p3))] (.ref 2 1 (p0.toNat) 0)), (3, rb [(.tmp 12, (.ref 2 1 (p0.toNat) 0))] [(2, (Qrm p3))] (I x23)), (6, rp [(.tmp 14, (Qnt p2)), (.tmp 15, I p0)] (.dptr (Qa0 (x25)) 0)), (10, rb [(.tmp 10, (.own 2 1 (0) (p1))), (.tmp 11, I p0)] [(2, (Qrm p3))] (.ref 2 1 (p0.toNat) 0)), (11, ⟨[(.tmp 20, (.ref 2 1 (p0.toNat) 0)), (.tmp 19, (I (w64 (x23 + x25.Loss))))], [(2, (Qrm p3))], .any, [(2, (.own 1 ((p3.set p0.toNat (w64 (x23 + x25.Loss)) : List Int).map Qab)))], false⟩)] ⟨aio rfl Try.underlying23 ti3 (odt hi22a) (odt hi22b) (Nat.zero_add _), ald rfl ti3 (by decide) (mgt Qab hg24) (nle rfl) rfl, aid rfl Try.underlying31 Qjx rfl rfl hi27 (mgt Qa0 hj28) rfl, aio rfl Try.underlying23 ti3 (odt hi29a) (odt hi29b) (Nat.zero_add _), ast rfl ti3 (by rfl) (mgt Qab hg31) (nle rfl) (Qel Qab rfl), trivial⟩ ?_
    refine thn ?_
    exact ⟨(p3.set p0.toNat (w64 (x23 + x25.Loss))), h, (mto (n := 38) [(0, I p0), (1, .ref 0 1 0 0), (2, .ref 1 1 0 0)] [0, 1, 2] [(Qp5 p1), (.own 1 [[(Qnt p2)]]), (.own 1 ((p3.set p0.toNat (w64 (x23 + x25.Loss)) : List Int).map Qab))] hφ0 (pc rwl (pc (.rn (rqr rfl)) (pc (.rn (rqr rfl)) pn))) (qc (spb (lc (.rn (Qaf rfl)) ln)) (qc (spb (lc (.rn (.plain _ (nld Qae _))) ln)) (qc (spr Qaa) qn))))⟩
   ·replace h := Qas hc21 h
    refine wfn hc21 (by kernel_rfl) ?_
    refine Qag ?_
    refine thn ?_
    exact ⟨(p3), h, (mto (n := 38) [(0, I p0), (1, .ref 0 1 0 0), (2, .ref 1 1 0 0)] [0, 1, 2] [(Qp5 p1), (.own 1 [[(Qnt p2)]]), (Qrm p3)] hφ0 (pc rwl (pc (.rn (rqr rfl)) (pc (.rn (rqr rfl)) pn))) (qc (spb (lc (.rn (Qaf rfl)) ln)) (qc (spb (lc (.rn (.plain _ (nld Qae _))) ln)) (qc (spr Qaa) qn))))⟩
def Qdu (N : Nat) (p0 : (List GNode)) (p1 : (List Int)) (k6 : (List Int) → Option (List Int)) : (List (Int × GNode)) → (List Int) → Option (List Int)
  | [], y12 =>
    k6 (y12)
  | x15 :: q16, y12 =>
    (Qe9 N x15.1 p1.length p0 y12).bind fun x25 =>
    Qdu N p0 p1 k6 q16 x25
def Qhr (N : Nat) (p0 : (List GNode)) (p1 : (List Int)) : Option (List Int) :=
  (Qek N p1).bind fun _ =>
  Qbr (fun y5 =>
    chk (decide (p1.length ≤ y5.length)) <|
    some (y5.take p1.length)) fun k6 : (List Int) → Option (List Int) =>
  (Qce N p0).bind fun _ =>
  (Qcd N p0).bind fun q10 =>
  Qdu N p0 p1 k6 q10 p1
def z10_2 (p1 : (List Int)) : Slot := .own 1 ((p1 : List Int).map Qab)
def z10_4 : AV := .fn (.func 98) [] [(.ref 2 1 (0) 0), (.ref 0 1 (0) 0)]
def Qur (y5 : (List Int)) (p1 : (List Int)) : AV := .dat 1 ((y5.take p1.length : List Int).map Qab)
def Qkr (p0 : (List GNode)) : AV := .dat 4 ((p0 : List GNode).map Qa0)
def z10_6 : AV := .fn (.func 105) [] [(.ref 4 1 (0) 0)]
def Qp9 (p1 : (List Int)) : Slot := .own 1 [[(.own 3 1 (0) (p1.length))]]
def Qxy : AV := .fn (.func 98) [] [(.ref 0 1 (0) 0), (.ref 4 1 (0) 0)]
def Quq (y12 : (List Int)) : Slot := .own 1 ((y12 : List Int).map Qab)
def Qup (x25 : (List Int)) : Slot := .own 1 ((x25 : List Int).map Qab)
set_option maxRecDepth 100000 in
set_option maxHeartbeats 4000000 in
theorem Qla (N : Nat) (p0 : (List GNode)) (p1 : (List Int)) (r : (List Int)) (h : Qhr N p0 p1 = some r) : Spec Try.prog 71 [(.dat 4 (p0.map Qa0)), (.dat 1 (p1.map Qab))] [] (.dat 1 ((r : List Int).map Qab)) [] := by
  refine Qal Try.func71 rfl 0 (nle rfl) (fun X φ0 w0 hφ0 => ?_)
  unfold Qhr at h
  refine Qc3 ?_
  refine wx tbk [] trivial ?_
  obtain ⟨x4, hf3, h⟩ := bno h
  refine wx tbk [(1, ⟨[fu 97, (.tmp 8, (.dat 1 ((p1 : List Int).map Qab)))], [(1, .unused)], (.own 1 1 (0) (p1.length)), [(1, (z10_2 p1))], false⟩)] ⟨Qat (first := []) (cap := []) (vs := [(.dat 1 ((p1 : List Int).map Qab))]) (σr := []) (σr' := [(z10_2 p1)]) (res' := (.own 1 1 (0) (p1.length))) [1] rfl Qy3 (Qgc N p1 _ hf3) rfl (Qcq (rnc (.plain _ (nld Qaa _)) rn0)) Qap (slc (Qbg Qaa) Qap) (Qgf rfl) rfl rfl rfl, trivial⟩ ?_
  refine wx tbk [(0, rp [(.tmp 5, .ref 2 1 0 0), (.tmp 2, .ref 0 1 0 0)] z10_4)] ⟨Qgp (fs := []) (cs := [.ref 2 1 0 0, .ref 0 1 0 0]) rfl rfl rfl rfl, trivial⟩ ?_
  obtain ⟨k6, hk_k6, h⟩ := jko h
  refine wjn (τ := (List Int)) (fun t => k6 t = some r) (fun y5 => ⟨mk 19 [(5, .ref 0 1 0 0)], [(.own 1 [[(.own 1 1 (0) (p1.length))]]), (.own 1 ((y5 : List Int).map Qab))]⟩) (fun y5 h => ?_) ?_
  ·subst hk_k6
   refine wx tbk [] trivial ?_
   obtain ⟨hz7, h⟩ := cko h
   refine wmr (Qk2 (n := 19) (l' := [(4, (Qur y5 p1))]) 1 [(4, (.own 1 1 (0) (p1.length)))] (by kernel_rfl) (by kernel_rfl) (by kernel_rfl) ⟨rfl, (Qip hz7), trivial⟩ rfl) ?_
   refine wmr (mto (n := 19) (l' := [(4, (Qur y5 p1))]) (own' := []) [(4, (Qur y5 p1))] [] [] hφ0 (pc (.rn (.plain _ (nld Qaa _))) pn) qn) ?_
   refine Qah ?_
   obtain rfl := osi h
   exact ⟨_, Mor.rfl, Qdi (vs := [(Qur y5 p1)]) ⟨rot (by kernel_rfl), trivial⟩ rfl (nld Qaa _) (by kernel_rfl) Qb0⟩
  ·skip
   obtain ⟨x9, hf8, h⟩ := bno h
   refine wx tbk [(1, ⟨[fu 86, (.tmp 11, (Qkr p0))], [(4, .unused)], z10_6, [(4, (.own 1 [[(Qkr p0)]]))], false⟩)] ⟨Qat (first := []) (cap := []) (vs := [(Qkr p0)]) (σr := []) (σr' := [(.own 1 [[(Qkr p0)]])]) (res' := z10_6) [4] rfl Qy5 (Qd7 N p0 _ hf8) rfl (Qcq (rnc (.plain _ (nld Qae _)) rn0)) Qap (slc (Qam (rnc (.plain _ (nld Qae _)) rn0)) Qap) (Qay rn0 (rnc (Qge rfl) rn0)) rfl rfl rfl, trivial⟩ ?_
   refine Qai ?_
   obtain ⟨q10, hL11, h⟩ := bno h
   refine wmr (mto (n := 19) (l' := [(5, .ref 0 1 0 0), (6, .ref 1 1 0 0), (12, (.fn (.func 105) [] [.ref 2 1 0 0]))]) (own' := [(Qp9 p1), (.own 1 [[Qxy]]), (.own 1 [[(Qkr p0)]]), (z10_2 p1), (.own 1 [[(Qkr p0)]])]) [(5, .ref 2 1 0 0), (6, .ref 3 1 0 0), (12, z10_6)] [2, 3, 4, 1, 0] [(.own 1 [[(.own 1 1 (0) (p1.length))]]), (.own 1 [[z10_4]]), (.own 1 [[(Qkr p0)]]), (z10_2 p1), (.own 1 [[(Qkr p0)]])] hφ0 (pc (.rn (rqr rfl)) (pc (.rn (rqr rfl)) (pc (.rn (Qay rn0 (rnc (rqr rfl) rn0))) pn))) (qc (spb (lc (.rn (Qaf rfl)) ln)) (qc (spb (lc (.rn (Qay rn0 (rnc (rqr rfl) (rnc (rqr rfl) rn0)))) ln)) (qc (spb (lc (.rn (.plain _ (nld Qae _))) ln)) (qc (spr Qaa) (qc (spb (lc (.rn (.plain _ (nld Qae _))) ln)) qn)))))) ?_
   refine Qi2 (τ := ((List Int))) (kb := 5) (caps := [.ref 2 1 0 0]) (σr := [(.own 1 [[(Qkr p0)]])]) (encs := fun x => [(.int .i64 (x.1)), (.agg #[(.int .i64 (x.2.Parent)), (.int .i64 (x.2.Loss)), (.int .i64 (x.2.Limit)), (.int .i64 (x.2.Rank))])]) (fun x => [I x.1, (.agg [I x.2.Parent, I x.2.Loss, I x.2.Limit, I x.2.Rank])]) [2] (fun n hn => hφ0 n (Nat.le_trans (nle rfl) hn)) (Qd6 N p0 _ hL11) Qve (by kernel_rfl) (by kernel_rfl) (Qcq (rnc (Qge rfl) rn0)) (slc (Qam (rnc (.plain _ (nld Qae _)) rn0)) Qap) (by kernel_rfl) (fun _ => rfl) (fun x => ⟨lrf, (Less.unlits [(.int .i64 (x.2.Parent)), (.int .i64 (x.2.Loss)), (.int .i64 (x.2.Limit)), (.int .i64 (x.2.Rank))]), trivial⟩) (Qr5 (Qdl (NLt.ref _ _ _ _ (by decide)) (Qdl (NLt.ref _ _ _ _ (by decide)) (Qdl (NLt.fn _ _ _ nl0 (nlc (NLt.ref _ _ _ _ (by decide)) nl0)) Qoc)))) (fun y12 => [(Qp9 p1), (.own 1 [[Qxy]]), .dead, (Quq y12), (.own 1 [[(Qkr p0)]])]) (fun _ => rfl) (fun _ => rfl) (fun l t => Qdu N p0 p1 k6 l t = some r) (p1) h (by kernel_rfl) ?_ ?_
   ·intro l17 o18 X21 φ22 w23 hφ20 x15 q16 y12 h
    rw [Qdu] at h
    refine wx1 tbk [] trivial ?_
    refine ⟨by kernel_rfl, fun o19 => ?_⟩
    refine Qai ?_
    obtain ⟨x25, hf24, h⟩ := bno h
    refine wx1 tbk [(2, ⟨[(.tmp 15, Qxy), (.tmp 16, I x15.1)], [(0, (Qp9 p1)), (4, (.own 1 [[(Qkr p0)]])), (3, (Quq y12))], (.tup []), [(0, (Qp9 p1)), (4, (.own 1 [[(Qkr p0)]])), (3, (Qup x25))], false⟩)] ⟨Qat (first := []) (cap := [.ref 0 1 0 0, .ref 4 1 0 0]) (vs := [I x15.1]) (σr := [(Qp9 p1), (.own 1 [[(Qkr p0)]]), (Quq y12)]) (σr' := [(Qp9 p1), (.own 1 [[(Qkr p0)]]), (Qup x25)]) (res' := (.tup [])) [0, 4, 3] rfl Qy2 (Qgt N x15.1 p1.length p0 y12 _ hf24) rfl (Qcq (rnc (.plain _ nll) (rnc (Qbn rfl) (rnc (Qbn rfl) rn0)))) (slc (Qam (rnc (Qex rfl) rn0)) (slc (Qam (rnc (.plain _ (nld Qae _)) rn0)) (slc (Qbg Qaa) Qap))) (slc (Qam (rnc (Qgf rfl) rn0)) (slc (Qam (rnc (.plain _ (nld Qae _)) rn0)) (slc (Qbg Qaa) Qap))) (.plain _ (NLt.tup _ nl0)) rfl rfl rfl, trivial⟩ ?_
    refine bln ?_
    exact ⟨(x25), h, Qjt (own' := [(Qp9 p1), (.own 1 [[Qxy]]), .dead, (Qup x25), (.own 1 [[(Qkr p0)]]), (.far (farL l17 o19))]) [0, 1, 2, 3, 4, 5] [(Qp9 p1), (.own 1 [[Qxy]]), .dead, (Qup x25), (.own 1 [[(Qkr p0)]]), (.far (farL l17 o19))] (by kernel_rfl) (by kernel_rfl) ⟨(spb (lc (.rn (Qaf rfl)) ln)), (spb (lc (.rn (Qay rn0 (rnc (rqr rfl) (rnc (rqr rfl) rn0)))) ln)), .dead, (spr Qaa), (spb (lc (.rn (.plain _ (nld Qae _))) ln)), .far _, trivial⟩⟩
   ·intro y12 h
    rw [Qdu] at h
    refine bln ?_
    refine thn ?_
    exact ⟨(y12), h, (mto (n := 19) [(5, .ref 0 1 0 0)] [0, 3] [(Qp9 p1), (Quq y12)] hφ0 (pc (.rn (rqr rfl)) pn) (qc (spb (lc (.rn (Qaf rfl)) ln)) (qc (spr Qaa) qn)))⟩
def Qdp (N : Nat) (p0 : (List GNode)) (k1 : Unit → Option Int) (p1 : (List Int)) : Nat → Int → Option Int
  | 0, _ => none
  | n4 + 1, y2 =>
    bif (decide (y2 < (p1.length : Int))) then
     (getI p1 y2).bind fun x6 =>
     bif (decide (y2 > 0)) then
      (getI p0 y2).bind fun x11 =>
      bif (decide (x6 > x11.Limit)) then
       some y2
      else
       Qdp N p0 k1 p1 n4 (w64 (y2 + 1))
     else
      Qdp N p0 k1 p1 n4 (w64 (y2 + 1))
    else
     k1 ()
def Qgs (N : Nat) (p0 : (List GNode)) (p1 : (List Int)) : Option Int :=
  Qbr (fun _ =>
    some (-1)) fun k1 : Unit → Option Int =>
  Qdp N p0 k1 p1 N 0
def Qsy (p1 : (List Int)) : AV := .dat 1 ((p1 : List Int).map Qab)
def Qv3 (p0 : (List GNode)) : AV := .dat 4 ((p0 : List GNode).map Qa0)
set_option maxRecDepth 100000 in
set_option maxHeartbeats 4000000 in
theorem Qgr (N : Nat) (p0 : (List GNode)) (p1 : (List Int)) (r : Int) (h : Qgs N p0 p1 = some r) : Spec Try.prog 72 [(.dat 4 (p0.map Qa0)), (.dat 1 (p1.map Qab))] [] (I r) [] := by
  refine Qal Try.func72 rfl 0 (nle rfl) (fun X φ0 w0 hφ0 => ?_)
  unfold Qgs at h
  refine wx tbk [] trivial ?_
  obtain ⟨k1, hk_k1, h⟩ := jko h
  refine wjn (τ := Unit) (fun t => k1 t = some r) (fun _ => ⟨mk 27 [], []⟩) (fun t h => ?_) ?_
  ·subst hk_k1
   refine wx tbk [] trivial ?_
   refine Qah ?_
   obtain rfl := osi h
   exact fend ⟨[(I ((-1)))], ⟨rot (by kernel_rfl), trivial⟩, rfl⟩ nll
  ·skip
   refine wx tbk [(1, rp [(.tmp 7, (Qsy p1))] (I ((p1.length : Int))))] ⟨alm (c := Qab) (l := p1) (aln rfl Try.underlying23 rfl), trivial⟩ ?_
   refine Qai ?_
   refine wmr (mto (n := 27) (l' := [(0, (Qv3 p0)), (7, (Qsy p1)), (8, (I ((p1.length : Int)))), (9, I 0)]) (own' := []) [(0, (Qv3 p0)), (7, (Qsy p1)), (8, (I ((p1.length : Int)))), (9, I 0)] [] [] hφ0 (pc (.rn (.plain _ (nld Qae _))) (pc (.rn (.plain _ (nld Qaa _))) (pc rwl (pc rwl pn)))) qn) ?_
   refine Qbu (τ := Int) (fun n t => Qdp N p0 k1 p1 n t = some r) (fun y2 => ⟨mk 27 [(0, (Qv3 p0)), (7, (Qsy p1)), (8, (I ((p1.length : Int)))), (9, I y2)], []⟩) (fun t h => by rw [Qdp] at h; cases h) (fun n4 ih y2 h => ?_) N (0) h
   rw [Qdp] at h
   skip
   refine wx tbk [] trivial ?_
   refine wsq ?_
   rcases bft ((decide (y2 < (p1.length : Int)))) with hc5 | hc5
   ·replace h := Qar hc5 h
    refine wft hc5 (by kernel_rfl) ?_
    refine Qag ?_
    refine thn ?_
    refine wsq ?_
    refine Qai ?_
    obtain ⟨x6, hg7, h⟩ := bno h
    obtain ⟨hi8, hj9⟩ := gsm hg7
    refine wx tbk [(1, rp [(.tmp 7, (Qsy p1)), (.tmp 9, I y2)] (.dptr (Qab (x6)) 0))] ⟨aid rfl Try.underlying23 ti3 rfl rfl hi8 (mgt Qab hj9) rfl, trivial⟩ ?_
    rcases bft ((decide (y2 > 0))) with hb10 | hb10
    ·replace h := Qar hb10 h
     obtain ⟨x11, hg12, h⟩ := bno h
     obtain ⟨hi13, hj14⟩ := gsm hg12
     refine wx tbk [(2, rp [(.tmp 15, (B ((decide (y2 > 0)))))] (B true)), (6, rp [(.tmp 16, B true), (.tmp 18, (Qv3 p0)), (.tmp 19, I y2)] (.dptr (Qa0 (x11)) 0))] ⟨asb hb10 (amv rfl), ag_ (aid rfl Try.underlying31 Qjx rfl rfl hi13 (mgt Qa0 hj14) rfl), trivial⟩ ?_
     rcases bft ((decide (x6 > x11.Limit))) with hc15 | hc15
     ·replace h := Qar hc15 h
      refine wft hc15 (by kernel_rfl) ?_
      refine wx tbk [] trivial ?_
      refine Qah ?_
      refine Qak ?_
      refine Qad ?_
      refine Qad ?_
      refine Qak ?_
      refine Qad ?_
      obtain rfl := osi h
      exact fend ⟨[I y2], ⟨rot (by kernel_rfl), trivial⟩, rfl⟩ nll
     ·replace h := Qas hc15 h
      refine wfn hc15 (by kernel_rfl) ?_
      refine Qag ?_
      refine bln ?_
      refine thn ?_
      refine wx1 tbk [] trivial ?_
      refine thn ?_
      exact arm (mto (n := 27) [(0, (Qv3 p0)), (7, (Qsy p1)), (8, (I ((p1.length : Int)))), (9, (I (w64 (y2 + 1))))] [] [] hφ0 (pc (.rn (.plain _ (nld Qae _))) (pc (.rn (.plain _ (nld Qaa _))) (pc rwl (pc rwl pn)))) qn) (ih (w64 (y2 + 1)) h)
    ·replace h := Qas hb10 h
     refine wx tbk [(2, rp [(.tmp 15, (B ((decide (y2 > 0)))))] (B false))] ⟨asb hb10 (amv rfl), trivial⟩ ?_
     refine Qdj (by kernel_rfl) ?_
     refine Qag ?_
     refine bln ?_
     refine thn ?_
     refine wx1 tbk [] trivial ?_
     refine thn ?_
     exact arm (mto (n := 27) [(0, (Qv3 p0)), (7, (Qsy p1)), (8, (I ((p1.length : Int)))), (9, (I (w64 (y2 + 1))))] [] [] hφ0 (pc (.rn (.plain _ (nld Qae _))) (pc (.rn (.plain _ (nld Qaa _))) (pc rwl (pc rwl pn)))) qn) (ih (w64 (y2 + 1)) h)
   ·replace h := Qas hc5 h
    refine wfn hc5 (by kernel_rfl) ?_
    refine Qa3 ?_
    refine Qao ?_
    refine Qao ?_
    refine Qa2 rfl ?_
    refine thn ?_
    exact ⟨(), h, (mto (n := 27) [] [] [] hφ0 pn qn)⟩
def Qld (N : Nat) (p0 : (List GNode)) (p1 : (List Int)) : Option ((List Int) × Int × Int) :=
  (Qkk N p0 p1).bind fun x2 =>
  bif (x2 != 0) then
   some ([], 0, x2)
  else
   (Qhr N p0 p1).bind fun x5 =>
   (Qgs N p0 x5).bind fun x7 =>
   bif (decide (x7 ≥ 0)) then
    some ([], x7, 11)
   else
    some (x5, 0, 0)
def z1_0 (p0 : (List GNode)) : AV := .dat 4 ((p0 : List GNode).map Qa0)
def z1_1 (p1 : (List Int)) : AV := .dat 1 ((p1 : List Int).map Qab)
def z1_3 : AV := .dat 1 (([] : List Int).map Qab)
def z1_2 (x5 : (List Int)) : AV := .dat 1 ((x5 : List Int).map Qab)
set_option maxRecDepth 100000 in
set_option maxHeartbeats 4000000 in
theorem Qo4 (N : Nat) (p0 : (List GNode)) (p1 : (List Int)) (r : ((List Int) × Int × Int)) (h : Qld N p0 p1 = some r) : Spec Try.prog 36 [(.dat 4 (p0.map Qa0)), (.dat 1 (p1.map Qab))] [] (.tup [(.dat 1 (r.1.map Qab)), (I r.2.1), (I r.2.2)]) [] := by
  refine Qal Try.func36 rfl 0 (nle rfl) (fun X φ0 w0 hφ0 => ?_)
  unfold Qld at h
  refine wx tbk [] trivial ?_
  refine wsq ?_
  obtain ⟨x2, hf1, h⟩ := bno h
  refine wx tbk [(2, rp [fu 67, (.tmp 10, (z1_0 p0)), (.tmp 11, (z1_1 p1))] (I x2))] ⟨apc (first := []) (cap := []) (vs := [(z1_0 p0), (z1_1 p1)]) rfl enter67 (Qls N p0 p1 _ hf1) rfl rfl (nlc (nld Qae _) (nlc (nld Qaa _) nl0)) nll rfl, trivial⟩ ?_
  refine wx tbk [] trivial ?_
  rcases bft ((x2 != 0)) with hc3 | hc3
  ·replace h := Qar hc3 h
   refine wft hc3 (by kernel_rfl) ?_
   refine wx tbk [] trivial ?_
   refine Qah ?_
   refine Qad ?_
   obtain rfl := osi h
   exact fend ⟨[z1_3, I 0, I x2], ⟨Qer (v := nilS) (rot (by kernel_rfl)) Less.nil, rot (by kernel_rfl), rot (by kernel_rfl), trivial⟩, rfl⟩ (NLt.tup _ (nlc (nld Qaa _) (nlc nll (nlc nll nl0))))
  ·replace h := Qas hc3 h
   refine wfn hc3 (by kernel_rfl) ?_
   refine Qag ?_
   refine thn ?_
   obtain ⟨x5, hf4, h⟩ := bno h
   refine wx tbk [(2, rp [fu 71, (.tmp 16, (z1_0 p0)), (.tmp 17, (z1_1 p1))] (z1_2 x5))] ⟨apc (first := []) (cap := []) (vs := [(z1_0 p0), (z1_1 p1)]) rfl enter71 (Qla N p0 p1 _ hf4) rfl rfl (nlc (nld Qae _) (nlc (nld Qaa _) nl0)) (nld Qaa _) rfl, trivial⟩ ?_
   refine wsq ?_
   obtain ⟨x7, hf6, h⟩ := bno h
   refine wx tbk [(2, rp [fu 72, (.tmp 19, (z1_0 p0)), (.tmp 20, (z1_2 x5))] (I x7))] ⟨apc (first := []) (cap := []) (vs := [(z1_0 p0), (z1_2 x5)]) rfl Qtk (Qgr N p0 x5 _ hf6) rfl rfl (nlc (nld Qae _) (nlc (nld Qaa _) nl0)) nll rfl, trivial⟩ ?_
   refine wx tbk [] trivial ?_
   rcases bft ((decide (x7 ≥ 0))) with hc8 | hc8
   ·replace h := Qar hc8 h
    refine wft hc8 (by kernel_rfl) ?_
    refine wx tbk [] trivial ?_
    refine Qah ?_
    refine Qad ?_
    obtain rfl := osi h
    exact fend ⟨[z1_3, I x7, I 11], ⟨Qer (v := nilS) (rot (by kernel_rfl)) Less.nil, rot (by kernel_rfl), rot (by kernel_rfl), trivial⟩, rfl⟩ (NLt.tup _ (nlc (nld Qaa _) (nlc nll (nlc nll nl0))))
   ·replace h := Qas hc8 h
    refine wfn hc8 (by kernel_rfl) ?_
    refine Qag ?_
    refine thn ?_
    refine wx tbk [] trivial ?_
    refine Qah ?_
    obtain rfl := osi h
    exact fend ⟨[(z1_2 x5), I 0, I 0], ⟨rot (by kernel_rfl), rot (by kernel_rfl), rot (by kernel_rfl), trivial⟩, rfl⟩ (NLt.tup _ (nlc (nld Qaa _) (nlc nll (nlc nll nl0))))
def Qg6 (N : Nat) (p0 : GMeter) : Option Bool :=
  (Qfo N p0.Reading).bind fun x2 =>
  bif x2 then
   (Qcg N p0.Off 0 500).bind fun x5 =>
   some x5
  else
   some false
set_option maxRecDepth 100000 in
set_option maxHeartbeats 4000000 in
theorem Qkw (N : Nat) (p0 : GMeter) (r : Bool) (h : Qg6 N p0 = some r) : Spec Try.prog 84 [(.agg (Qq3 p0))] [] (B r) [] := by
  refine Qal Try.func84 rfl 0 (nle rfl) (fun X φ0 w0 hφ0 => ?_)
  unfold Qg6 at h
  refine wx tbk [] trivial ?_
  obtain ⟨x2, hf1, h⟩ := bno h
  rcases bft (x2) with hb3 | hb3
  ·replace h := Qar hb3 h
   obtain ⟨x5, hf4, h⟩ := bno h
   refine wx tbk [(2, rp [fu 94, (.tmp 4, I p0.Reading)] (B x2)), (3, rp [(.tmp 5, B x2)] (B true)), (6, rp [(.tmp 6, B true), fu 68, (.tmp 8, I p0.Off), ci 0, ci 500] (B x5))] ⟨apc (first := []) (cap := []) (vs := [I p0.Reading]) rfl Qfm (Qb4 N p0.Reading _ hf1) rfl rfl (nlc nll nl0) nll rfl, asb hb3 (amv rfl), ag_ (apc (first := []) (cap := []) (vs := [I p0.Off, I 0, I 500]) rfl Qd3 (Qaw N p0.Off 0 500 _ hf4) rfl rfl (nlc nll (nlc nll (nlc nll nl0))) nll rfl), trivial⟩ ?_
   refine Qah ?_
   obtain rfl := osi h
   exact fend ⟨[B x5], ⟨rot (by kernel_rfl), trivial⟩, rfl⟩ nll
  ·replace h := Qas hb3 h
   refine wx tbk [(2, rp [fu 94, (.tmp 4, I p0.Reading)] (B x2)), (3, rp [(.tmp 5, B x2)] (B false))] ⟨apc (first := []) (cap := []) (vs := [I p0.Reading]) rfl Qfm (Qb4 N p0.Reading _ hf1) rfl rfl (nlc nll nl0) nll rfl, asb hb3 (amv rfl), trivial⟩ ?_
   refine Qah ?_
   obtain rfl := osi h
   exact fend ⟨[B false], ⟨rot (by kernel_rfl), trivial⟩, rfl⟩ nll
def Qgj (_N : Nat) (p0 : GMeter) : Option GRange :=
  (some (w64 ((w64 ((w64 (1000 * p0.Reading)) + (w64 (1000 + p0.Off)))) - 1))).bind fun x1 =>
  chk ((w64 (1000 + p0.Off)) != 0) <|
  chk ((w64 (1000 - p0.Off)) != 0) <|
  some (⟨w64 (x1.tdiv (w64 (1000 + p0.Off))), w64 ((w64 (1000 * p0.Reading)).tdiv (w64 (1000 - p0.Off)))⟩ : GRange)
def z18_3 (x1 : Int) (p0 : GMeter) : AV := .agg [(I (w64 (x1.tdiv (w64 (1000 + p0.Off))))), (I (w64 ((w64 (1000 * p0.Reading)).tdiv (w64 (1000 - p0.Off)))))]
set_option maxRecDepth 100000 in
set_option maxHeartbeats 4000000 in
theorem Qjw (N : Nat) (p0 : GMeter) (r : GRange) (h : Qgj N p0 = some r) : Spec Try.prog 85 [(.agg (Qq3 p0))] [] (.agg (Qvk r)) [] := by
  refine Qal Try.func85 rfl 0 (nle rfl) (fun X φ0 w0 hφ0 => ?_)
  unfold Qgj at h
  refine wx tbk [] trivial ?_
  refine wxd tbk [] trivial ?_
  obtain ⟨x1, hl2, h⟩ := bno h
  obtain ⟨hz3, h⟩ := cko h
  obtain ⟨hz4, h⟩ := cko h
  refine wxd tbk [(5, rp [(.tmp 15, (I (w64 ((w64 (1000 * p0.Reading)) + (w64 (1000 + p0.Off)))))), ci 1] (I x1)), (7, rp [(.tmp 16, I x1), (.tmp 17, (I (w64 (1000 + p0.Off))))] (I (w64 (x1.tdiv (w64 (1000 + p0.Off)))))), (12, rp [(.tmp 21, (I (w64 (1000 * p0.Reading)))), (.tmp 22, (I (w64 (1000 - p0.Off))))] (I (w64 ((w64 (1000 * p0.Reading)).tdiv (w64 (1000 - p0.Off)))))), (13, rp [(.tmp 18, (I (w64 (x1.tdiv (w64 (1000 + p0.Off)))))), (.tmp 23, (I (w64 ((w64 (1000 * p0.Reading)).tdiv (w64 (1000 - p0.Off))))))] (z18_3 x1 p0))] ⟨Qd4 hl2 (abn rfl rfl), Qkf rfl (Qmn hz3), Qkf rfl (Qmn hz4), Qbk (vs := [(I (w64 (x1.tdiv (w64 (1000 + p0.Off))))), (I (w64 ((w64 (1000 * p0.Reading)).tdiv (w64 (1000 - p0.Off)))))]) rfl ts93 tz93 rfl (by rfl) rfl, trivial⟩ ?_
  refine Qah ?_
  obtain rfl := osi h
  exact fend ⟨[(z18_3 x1 p0)], ⟨Qc9 (n := 1) (m := 2) (j := 0) (i := 0) (xs := [[(I (w64 (x1.tdiv (w64 (1000 + p0.Off))))), (I (w64 ((w64 (1000 * p0.Reading)).tdiv (w64 (1000 - p0.Off)))))]]) (by kernel_rfl) (by kernel_rfl) ti93 (by decide) rfl (nle rfl) rfl, trivial⟩, rfl⟩ (NLt.agg _ (nlc nll (nlc nll nl0)))
def Qi9 (N : Nat) (p0 : GMeter) : Option (GRange × Int) :=
  (Qg6 N p0).bind fun x2 =>
  bif (!x2) then
   some ((⟨0, 0⟩ : GRange), 2)
  else
   (Qgj N p0).bind fun x5 =>
   some (x5, 0)
def z16_1 (p0 : GMeter) : AV := .agg [(I (p0.Reading)), (I (p0.Off))]
set_option maxRecDepth 100000 in
set_option maxHeartbeats 4000000 in
theorem Qm7 (N : Nat) (p0 : GMeter) (r : (GRange × Int)) (h : Qi9 N p0 = some r) : Spec Try.prog 47 [(.agg (Qq3 p0))] [] (.tup [(.agg (Qvk r.1)), (I r.2)]) [] := by
  refine Qal Try.func47 rfl 0 (nle rfl) (fun X φ0 w0 hφ0 => ?_)
  unfold Qi9 at h
  refine wx tbk [] trivial ?_
  refine wsq ?_
  obtain ⟨x2, hf1, h⟩ := bno h
  refine wx tbk [(1, rp [fu 84, (.tmp 4, (z16_1 p0))] (B x2))] ⟨apc (first := []) (cap := []) (vs := [(z16_1 p0)]) rfl enter84 (Qkw N p0 _ hf1) rfl rfl (nlc (NLt.agg _ (nlc nll (nlc nll nl0))) nl0) nll rfl, trivial⟩ ?_
  rcases bft ((!x2)) with hc3 | hc3
  ·replace h := Qar hc3 h
   refine wft hc3 (by kernel_rfl) ?_
   refine wx tbk [(0, rp [] (.agg [I 0, I 0]))] ⟨Qbk (vs := []) rfl ts93 tz93 rfl (by rfl) rfl, trivial⟩ ?_
   refine Qah ?_
   refine Qad ?_
   obtain rfl := osi h
   exact fend ⟨[(.agg [I 0, I 0]), I 2], ⟨Qc9 (n := 1) (m := 2) (j := 0) (i := 0) (xs := [[I 0, I 0]]) (by kernel_rfl) (by kernel_rfl) ti93 (by decide) rfl (nle rfl) rfl, rot (by kernel_rfl), trivial⟩, rfl⟩ (NLt.tup _ (nlc (NLt.agg _ (nlc nll (nlc nll nl0))) (nlc nll nl0)))
  ·replace h := Qas hc3 h
   refine wfn hc3 (by kernel_rfl) ?_
   refine Qag ?_
   refine thn ?_
   obtain ⟨x5, hf4, h⟩ := bno h
   refine wx tbk [(1, rp [fu 85, (.tmp 8, (z16_1 p0))] (.agg [I x5.Lo, I x5.Hi]))] ⟨apc (first := []) (cap := []) (vs := [(z16_1 p0)]) rfl enter85 (Qjw N p0 _ hf4) rfl rfl (nlc (NLt.agg _ (nlc nll (nlc nll nl0))) nl0) (NLt.agg _ (nlc nll (nlc nll nl0))) rfl, trivial⟩ ?_
   refine Qah ?_
   obtain rfl := osi h
   exact fend ⟨[(.agg [I x5.Lo, I x5.Hi]), I 0], ⟨Qc9 (n := 1) (m := 2) (j := 0) (i := 0) (xs := [[I x5.Lo, I x5.Hi]]) (by kernel_rfl) (by kernel_rfl) ti93 (by decide) rfl (nle rfl) rfl, rot (by kernel_rfl), trivial⟩, rfl⟩ (NLt.tup _ (nlc (NLt.agg _ (nlc nll (nlc nll nl0))) (nlc nll nl0)))
def Qfs (_N : Nat) (p0 : Int) (p1 : Int) (p2 : Int) : Option Bool :=
  bif (decide (p0 ≥ p1)) then
   some (decide (p0 ≤ p2))
  else
   some false
set_option maxRecDepth 100000 in
set_option maxHeartbeats 4000000 in
theorem Qca (N : Nat) (p0 : Int) (p1 : Int) (p2 : Int) (r : Bool) (h : Qfs N p0 p1 p2 = some r) : Spec Try.prog 27 [(I p0), (I p1), (I p2)] [] (B r) [] := by
  refine Qal Try.func27 rfl 0 (nle rfl) (fun X φ0 w0 hφ0 => ?_)
  unfold Qfs at h
  refine wx tbk [] trivial ?_
  rcases bft ((decide (p0 ≥ p1))) with hb1 | hb1
  ·replace h := Qar hb1 h
   refine wx tbk [(3, rp [(.tmp 9, (B ((decide (p0 ≥ p1)))))] (B true))] ⟨asb hb1 (amv rfl), trivial⟩ ?_
   refine Qah ?_
   obtain rfl := osi h
   exact fend ⟨[(B ((decide (p0 ≤ p2))))], ⟨rot (by kernel_rfl), trivial⟩, rfl⟩ nll
  ·replace h := Qas hb1 h
   refine wx tbk [(3, rp [(.tmp 9, (B ((decide (p0 ≥ p1)))))] (B false))] ⟨asb hb1 (amv rfl), trivial⟩ ?_
   refine Qah ?_
   obtain rfl := osi h
   exact fend ⟨[B false], ⟨rot (by kernel_rfl), trivial⟩, rfl⟩ nll
end Go.Proofs.Ytgdepcgbjjgnfaa
