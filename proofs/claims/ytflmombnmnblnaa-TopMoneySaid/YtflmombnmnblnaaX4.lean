/-
  Functions of the program: what they compute, as plain functions, and that they do. No conditions.
-/
import Derived.Test.YtflmombnmnblnaaX3
namespace Go.Proofs.Ytflmombnmnblnaa
set_option maxRecDepth 100000
set_option maxHeartbeats 4000000
open Go.RowKit
def Qfw (N : Nat) (p0 : Int) : Option Bool :=
  (Qb5 N p0 0 1000000000).bind fun x2 =>
  some x2
theorem Qc7 (N : Nat) (p0 : Int) (r : Bool) (h : Qfw N p0 = some r) : Spec Try.prog 97 [(I p0)] [] (B r) [] := by
  refine Qah Try.func97 rfl 0 (nle rfl) (fun X φ0 w0 hφ0 hd0 => ?_)
  unfold Qfw at h
  refine wx tbk [] trivial ?_
  obtain ⟨x2, hf1, h⟩ := bno h
  refine wx tbk [(1, rp [fu 64, (.tmp 3, I p0), ci 0, ci 1000000000] (B x2))] ⟨apc (first := []) (cap := []) (vs := [I p0, I 0, I 1000000000]) rfl Qdc (Qar N p0 0 1000000000 _ hf1) rfl rfl (nlc nll (nlc nll (nlc nll nl0))) nll rfl, trivial⟩ ?_
  refine Qae ?_
  obtain rfl := osi h
  exact fend ⟨[B x2], ⟨rot (by kernel_rfl), trivial⟩, rfl⟩ nll
def Qcn (N : Nat) (p0 : (List GNode)) (k2 : Unit → Option Bool) : Nat → Int → Option Bool
  | 0, _ => none
  | n5 + 1, y3 =>
    bif (decide (y3 < (p0.length : Int))) then
     (getI p0 y3).bind fun x7 =>
     bif (decide (y3 > 0)) then
      (Qb5 N x7.Parent 0 (w64 (y3 - 1))).bind fun x13 =>
      bif (!x13) then
       some false
      else
       (Qfw N x7.Loss).bind fun x16 =>
       bif (!x16) then
        some false
       else
        (Qfw N x7.Limit).bind fun x19 =>
        bif (!x19) then
         some false
        else
         (Qb5 N x7.Rank 0 100).bind fun x22 =>
         bif (!x22) then
          some false
         else
          Qcn N p0 k2 n5 (w64 (y3 + 1))
     else
      (Qfw N x7.Loss).bind fun x25 =>
      bif (!x25) then
       some false
      else
       (Qfw N x7.Limit).bind fun x28 =>
       bif (!x28) then
        some false
       else
        (Qb5 N x7.Rank 0 100).bind fun x31 =>
        bif (!x31) then
         some false
        else
         Qcn N p0 k2 n5 (w64 (y3 + 1))
    else
     k2 ()
def Qfi (N : Nat) (p0 : (List GNode)) : Option Bool :=
  Qcg (fun _ =>
    Qcg (fun _ =>
      some true) fun k2 : Unit → Option Bool =>
    Qcn N p0 k2 N 0) fun k1 : Unit → Option Bool =>
  (Qb5 N (p0.length : Int) 1 30).bind fun x34 =>
  bif (!x34) then
   some false
  else
   (getI p0 0).bind fun x36 =>
   bif (x36.Parent != (-1)) then
    some false
   else
    bif (x36.Loss != 0) then
     some false
    else
     bif (x36.Limit != 0) then
      some false
     else
      k1 ()
def Qgp (p0 : (List GNode)) : AV := .dat 4 ((p0 : List GNode).map Qbc)
theorem Qhp (N : Nat) (p0 : (List GNode)) (r : Bool) (h : Qfi N p0 = some r) : Spec Try.prog 156 [(.dat 4 (p0.map Qbc))] [] (B r) [] := by
  refine Qah Try.func156 rfl 0 (nle rfl) (fun X φ0 w0 hφ0 hd0 => ?_)
  unfold Qfi at h
  refine wx tbk [] trivial ?_
  obtain ⟨k1, hk_k1, h⟩ := jko h
  refine wjn (τ := Unit) (fun t => k1 t = some r) (fun _ => ⟨mk 66 [(0, (Qgp p0))], []⟩) (fun t h => ?_) ?_
  ·subst hk_k1
   obtain ⟨k2, hk_k2, h⟩ := jko h
   refine wjn (τ := Unit) (fun t => k2 t = some r) (fun _ => ⟨mk 66 [], []⟩) (fun t h => ?_) ?_
   ·subst hk_k2
    refine wx tbk [] trivial ?_
    refine Qae ?_
    obtain rfl := osi h
    exact fend ⟨[B true], ⟨rot (by kernel_rfl), trivial⟩, rfl⟩ nll
   ·skip
    refine wx tbk [(1, rp [(.tmp 30, (Qgp p0))] (I ((p0.length : Int))))] ⟨alm (c := Qbc) (l := p0) (aln rfl Try.underlying129 rfl), trivial⟩ ?_
    refine Qag ?_
    refine wmr (mto (n := 66) (l' := [(30, (Qgp p0)), (31, (I ((p0.length : Int)))), (32, I 0)]) (own' := []) [(30, (Qgp p0)), (31, (I ((p0.length : Int)))), (32, I 0)] [] [] hφ0 (pc (.rn (.plain _ (nld Qby _))) (pc rwl (pc rwl pn))) qn) ?_
    refine Qca (τ := Int) (fun n t => Qcn N p0 k2 n t = some r) (fun y3 => ⟨mk 66 [(30, (Qgp p0)), (31, (I ((p0.length : Int)))), (32, I y3)], []⟩) (fun t h => by rw [Qcn] at h; cases h) (fun n5 ih y3 h => ?_) N (0) h
    rw [Qcn] at h
    skip
    refine wx tbk [] trivial ?_
    refine wsq ?_
    rcases bft ((decide (y3 < (p0.length : Int)))) with hc6 | hc6
    ·replace h := Qaw hc6 h
     refine wft hc6 (by kernel_rfl) ?_
     refine Qak ?_
     refine thn ?_
     refine wsq ?_
     refine Qag ?_
     obtain ⟨x7, hg8, h⟩ := bno h
     obtain ⟨hi9, hj10⟩ := gsm hg8
     refine wx tbk [(1, rp [(.tmp 30, (Qgp p0)), (.tmp 32, I y3)] (.dptr (Qbc (x7)) 0))] ⟨aid rfl Try.underlying129 Qhl rfl rfl hi9 (mgt Qbc hj10) rfl, trivial⟩ ?_
     rcases bft ((decide (y3 > 0))) with hb11 | hb11
     ·replace h := Qaw hb11 h
      obtain ⟨x13, hf12, h⟩ := bno h
      rcases bft ((!x13)) with hb14 | hb14
      ·replace h := Qaw hb14 h
       refine wx tbk [(2, rp [(.tmp 38, (B ((decide (y3 > 0)))))] (B true)), (7, rp [(.tmp 39, B true), fu 64, (.tmp 41, I x7.Parent), ci 0, (.tmp 43, (I (w64 (y3 - 1))))] (B x13)), (10, rp [(.tmp 46, (B ((!x13))))] (B true))] ⟨asb hb11 (amv rfl), ag_ (apc (first := []) (cap := []) (vs := [I x7.Parent, I 0, (I (w64 (y3 - 1)))]) rfl Qdc (Qar N x7.Parent 0 (w64 (y3 - 1)) _ hf12) rfl rfl (nlc nll (nlc nll (nlc nll nl0))) nll rfl), asb hb14 (amv rfl), trivial⟩ ?_
       refine Qb0 (by kernel_rfl) ?_
       refine wx tbk [] trivial ?_
       refine Qae ?_
       refine Qao ?_
       refine Qaf ?_
       refine Qaf ?_
       refine Qao ?_
       refine Qaf ?_
       obtain rfl := osi h
       exact fend ⟨[B false], ⟨rot (by kernel_rfl), trivial⟩, rfl⟩ nll
      ·replace h := Qax hb14 h
       obtain ⟨x16, hf15, h⟩ := bno h
       rcases bft ((!x16)) with hb17 | hb17
       ·replace h := Qaw hb17 h
        refine wx tbk [(2, rp [(.tmp 38, (B ((decide (y3 > 0)))))] (B true)), (7, rp [(.tmp 39, B true), fu 64, (.tmp 41, I x7.Parent), ci 0, (.tmp 43, (I (w64 (y3 - 1))))] (B x13)), (10, rp [(.tmp 46, (B ((!x13))))] (B false)), (13, rp [(.tmp 47, B false), fu 97, (.tmp 49, I x7.Loss)] (B x16)), (16, rp [(.tmp 52, (B ((!x16))))] (B true))] ⟨asb hb11 (amv rfl), ag_ (apc (first := []) (cap := []) (vs := [I x7.Parent, I 0, (I (w64 (y3 - 1)))]) rfl Qdc (Qar N x7.Parent 0 (w64 (y3 - 1)) _ hf12) rfl rfl (nlc nll (nlc nll (nlc nll nl0))) nll rfl), asb hb14 (amv rfl), ag_ (apc (first := []) (cap := []) (vs := [I x7.Loss]) rfl Qf6 (Qc7 N x7.Loss _ hf15) rfl rfl (nlc nll nl0) nll rfl), asb hb17 (amv rfl), trivial⟩ ?_
        refine Qb0 (by kernel_rfl) ?_
        refine wx tbk [] trivial ?_
        refine Qae ?_
        refine Qao ?_
        refine Qaf ?_
        refine Qaf ?_
        refine Qao ?_
        refine Qaf ?_
        obtain rfl := osi h
        exact fend ⟨[B false], ⟨rot (by kernel_rfl), trivial⟩, rfl⟩ nll
       ·replace h := Qax hb17 h
        obtain ⟨x19, hf18, h⟩ := bno h
        rcases bft ((!x19)) with hb20 | hb20
        ·replace h := Qaw hb20 h
         refine wx tbk [(2, rp [(.tmp 38, (B ((decide (y3 > 0)))))] (B true)), (7, rp [(.tmp 39, B true), fu 64, (.tmp 41, I x7.Parent), ci 0, (.tmp 43, (I (w64 (y3 - 1))))] (B x13)), (10, rp [(.tmp 46, (B ((!x13))))] (B false)), (13, rp [(.tmp 47, B false), fu 97, (.tmp 49, I x7.Loss)] (B x16)), (16, rp [(.tmp 52, (B ((!x16))))] (B false)), (19, rp [(.tmp 53, B false), fu 97, (.tmp 55, I x7.Limit)] (B x19)), (22, rp [(.tmp 58, (B ((!x19))))] (B true))] ⟨asb hb11 (amv rfl), ag_ (apc (first := []) (cap := []) (vs := [I x7.Parent, I 0, (I (w64 (y3 - 1)))]) rfl Qdc (Qar N x7.Parent 0 (w64 (y3 - 1)) _ hf12) rfl rfl (nlc nll (nlc nll (nlc nll nl0))) nll rfl), asb hb14 (amv rfl), ag_ (apc (first := []) (cap := []) (vs := [I x7.Loss]) rfl Qf6 (Qc7 N x7.Loss _ hf15) rfl rfl (nlc nll nl0) nll rfl), asb hb17 (amv rfl), ag_ (apc (first := []) (cap := []) (vs := [I x7.Limit]) rfl Qf6 (Qc7 N x7.Limit _ hf18) rfl rfl (nlc nll nl0) nll rfl), asb hb20 (amv rfl), trivial⟩ ?_
         refine Qb0 (by kernel_rfl) ?_
         refine wx tbk [] trivial ?_
         refine Qae ?_
         refine Qao ?_
         refine Qaf ?_
         refine Qaf ?_
         refine Qao ?_
         refine Qaf ?_
         obtain rfl := osi h
         exact fend ⟨[B false], ⟨rot (by kernel_rfl), trivial⟩, rfl⟩ nll
        ·replace h := Qax hb20 h
         obtain ⟨x22, hf21, h⟩ := bno h
         refine wx tbk [(2, rp [(.tmp 38, (B ((decide (y3 > 0)))))] (B true)), (7, rp [(.tmp 39, B true), fu 64, (.tmp 41, I x7.Parent), ci 0, (.tmp 43, (I (w64 (y3 - 1))))] (B x13)), (10, rp [(.tmp 46, (B ((!x13))))] (B false)), (13, rp [(.tmp 47, B false), fu 97, (.tmp 49, I x7.Loss)] (B x16)), (16, rp [(.tmp 52, (B ((!x16))))] (B false)), (19, rp [(.tmp 53, B false), fu 97, (.tmp 55, I x7.Limit)] (B x19)), (22, rp [(.tmp 58, (B ((!x19))))] (B false)), (25, rp [(.tmp 59, B false), fu 64, (.tmp 61, I x7.Rank), ci 0, ci 100] (B x22))] ⟨asb hb11 (amv rfl), ag_ (apc (first := []) (cap := []) (vs := [I x7.Parent, I 0, (I (w64 (y3 - 1)))]) rfl Qdc (Qar N x7.Parent 0 (w64 (y3 - 1)) _ hf12) rfl rfl (nlc nll (nlc nll (nlc nll nl0))) nll rfl), asb hb14 (amv rfl), ag_ (apc (first := []) (cap := []) (vs := [I x7.Loss]) rfl Qf6 (Qc7 N x7.Loss _ hf15) rfl rfl (nlc nll nl0) nll rfl), asb hb17 (amv rfl), ag_ (apc (first := []) (cap := []) (vs := [I x7.Limit]) rfl Qf6 (Qc7 N x7.Limit _ hf18) rfl rfl (nlc nll nl0) nll rfl), asb hb20 (amv rfl), ag_ (apc (first := []) (cap := []) (vs := [I x7.Rank, I 0, I 100]) rfl Qdc (Qar N x7.Rank 0 100 _ hf21) rfl rfl (nlc nll (nlc nll (nlc nll nl0))) nll rfl), trivial⟩ ?_
         rcases bft ((!x22)) with hc23 | hc23
         ·replace h := Qaw hc23 h
          refine wft hc23 (by kernel_rfl) ?_
          refine wx tbk [] trivial ?_
          refine Qae ?_
          refine Qao ?_
          refine Qaf ?_
          refine Qaf ?_
          refine Qao ?_
          refine Qaf ?_
          obtain rfl := osi h
          exact fend ⟨[B false], ⟨rot (by kernel_rfl), trivial⟩, rfl⟩ nll
         ·replace h := Qax hc23 h
          refine wfn hc23 (by kernel_rfl) ?_
          refine Qak ?_
          refine bln ?_
          refine thn ?_
          refine wx1 tbk [] trivial ?_
          refine thn ?_
          exact arm (mto (n := 66) [(30, (Qgp p0)), (31, (I ((p0.length : Int)))), (32, (I (w64 (y3 + 1))))] [] [] hφ0 (pc (.rn (.plain _ (nld Qby _))) (pc rwl (pc rwl pn))) qn) (ih (w64 (y3 + 1)) h)
     ·replace h := Qax hb11 h
      obtain ⟨x25, hf24, h⟩ := bno h
      rcases bft ((!x25)) with hb26 | hb26
      ·replace h := Qaw hb26 h
       refine wx tbk [(2, rp [(.tmp 38, (B ((decide (y3 > 0)))))] (B false)), (13, rp [(.tmp 47, B false), fu 97, (.tmp 49, I x7.Loss)] (B x25)), (16, rp [(.tmp 52, (B ((!x25))))] (B true))] ⟨asb hb11 (amv rfl), ag_ (apc (first := []) (cap := []) (vs := [I x7.Loss]) rfl Qf6 (Qc7 N x7.Loss _ hf24) rfl rfl (nlc nll nl0) nll rfl), asb hb26 (amv rfl), trivial⟩ ?_
       refine Qb0 (by kernel_rfl) ?_
       refine wx tbk [] trivial ?_
       refine Qae ?_
       refine Qao ?_
       refine Qaf ?_
       refine Qaf ?_
       refine Qao ?_
       refine Qaf ?_
       obtain rfl := osi h
       exact fend ⟨[B false], ⟨rot (by kernel_rfl), trivial⟩, rfl⟩ nll
      ·replace h := Qax hb26 h
       obtain ⟨x28, hf27, h⟩ := bno h
       rcases bft ((!x28)) with hb29 | hb29
       ·replace h := Qaw hb29 h
        refine wx tbk [(2, rp [(.tmp 38, (B ((decide (y3 > 0)))))] (B false)), (13, rp [(.tmp 47, B false), fu 97, (.tmp 49, I x7.Loss)] (B x25)), (16, rp [(.tmp 52, (B ((!x25))))] (B false)), (19, rp [(.tmp 53, B false), fu 97, (.tmp 55, I x7.Limit)] (B x28)), (22, rp [(.tmp 58, (B ((!x28))))] (B true))] ⟨asb hb11 (amv rfl), ag_ (apc (first := []) (cap := []) (vs := [I x7.Loss]) rfl Qf6 (Qc7 N x7.Loss _ hf24) rfl rfl (nlc nll nl0) nll rfl), asb hb26 (amv rfl), ag_ (apc (first := []) (cap := []) (vs := [I x7.Limit]) rfl Qf6 (Qc7 N x7.Limit _ hf27) rfl rfl (nlc nll nl0) nll rfl), asb hb29 (amv rfl), trivial⟩ ?_
        refine Qb0 (by kernel_rfl) ?_
        refine wx tbk [] trivial ?_
        refine Qae ?_
        refine Qao ?_
        refine Qaf ?_
        refine Qaf ?_
        refine Qao ?_
        refine Qaf ?_
        obtain rfl := osi h
        exact fend ⟨[B false], ⟨rot (by kernel_rfl), trivial⟩, rfl⟩ nll
       ·replace h := Qax hb29 h
        obtain ⟨x31, hf30, h⟩ := bno h
        refine wx tbk [(2, rp [(.tmp 38, (B ((decide (y3 > 0)))))] (B false)), (13, rp [(.tmp 47, B false), fu 97, (.tmp 49, I x7.Loss)] (B x25)), (16, rp [(.tmp 52, (B ((!x25))))] (B false)), (19, rp [(.tmp 53, B false), fu 97, (.tmp 55, I x7.Limit)] (B x28)), (22, rp [(.tmp 58, (B ((!x28))))] (B false)), (25, rp [(.tmp 59, B false), fu 64, (.tmp 61, I x7.Rank), ci 0, ci 100] (B x31))] ⟨asb hb11 (amv rfl), ag_ (apc (first := []) (cap := []) (vs := [I x7.Loss]) rfl Qf6 (Qc7 N x7.Loss _ hf24) rfl rfl (nlc nll nl0) nll rfl), asb hb26 (amv rfl), ag_ (apc (first := []) (cap := []) (vs := [I x7.Limit]) rfl Qf6 (Qc7 N x7.Limit _ hf27) rfl rfl (nlc nll nl0) nll rfl), asb hb29 (amv rfl), ag_ (apc (first := []) (cap := []) (vs := [I x7.Rank, I 0, I 100]) rfl Qdc (Qar N x7.Rank 0 100 _ hf30) rfl rfl (nlc nll (nlc nll (nlc nll nl0))) nll rfl), trivial⟩ ?_
        rcases bft ((!x31)) with hc32 | hc32
        ·replace h := Qaw hc32 h
         refine wft hc32 (by kernel_rfl) ?_
         refine wx tbk [] trivial ?_
         refine Qae ?_
         refine Qao ?_
         refine Qaf ?_
         refine Qaf ?_
         refine Qao ?_
         refine Qaf ?_
         obtain rfl := osi h
         exact fend ⟨[B false], ⟨rot (by kernel_rfl), trivial⟩, rfl⟩ nll
        ·replace h := Qax hc32 h
         refine wfn hc32 (by kernel_rfl) ?_
         refine Qak ?_
         refine bln ?_
         refine thn ?_
         refine wx1 tbk [] trivial ?_
         refine thn ?_
         exact arm (mto (n := 66) [(30, (Qgp p0)), (31, (I ((p0.length : Int)))), (32, (I (w64 (y3 + 1))))] [] [] hφ0 (pc (.rn (.plain _ (nld Qby _))) (pc rwl (pc rwl pn))) qn) (ih (w64 (y3 + 1)) h)
    ·replace h := Qax hc6 h
     refine wfn hc6 (by kernel_rfl) ?_
     refine Qbk ?_
     refine Qav ?_
     refine Qav ?_
     refine Qbj rfl ?_
     refine thn ?_
     exact ⟨(), h, (mto (n := 66) [] [] [] hφ0 pn qn)⟩
  ·skip
   obtain ⟨x34, hf33, h⟩ := bno h
   rcases bft ((!x34)) with hb35 | hb35
   ·replace h := Qaw hb35 h
    refine wx tbk [(1, rp [(.tmp 5, (Qgp p0))] (I ((p0.length : Int)))), (2, rp [fu 64, (.tmp 6, (I ((p0.length : Int)))), ci 1, ci 30] (B x34)), (4, rp [(.tmp 8, (B ((!x34))))] (B true))] ⟨alm (c := Qbc) (l := p0) (aln rfl Try.underlying129 rfl), apc (first := []) (cap := []) (vs := [(I ((p0.length : Int))), I 1, I 30]) rfl Qdc (Qar N (p0.length : Int) 1 30 _ hf33) rfl rfl (nlc nll (nlc nll (nlc nll nl0))) nll rfl, asb hb35 (amv rfl), trivial⟩ ?_
    refine Qb0 (by kernel_rfl) ?_
    refine wx tbk [] trivial ?_
    refine Qae ?_
    refine Qaf ?_
    obtain rfl := osi h
    exact fend ⟨[B false], ⟨rot (by kernel_rfl), trivial⟩, rfl⟩ nll
   ·replace h := Qax hb35 h
    obtain ⟨x36, hg37, h⟩ := bno h
    obtain ⟨hi38, hj39⟩ := gsm hg37
    rcases bft ((x36.Parent != (-1))) with hb40 | hb40
    ·replace h := Qaw hb40 h
     refine wx tbk [(1, rp [(.tmp 5, (Qgp p0))] (I ((p0.length : Int)))), (2, rp [fu 64, (.tmp 6, (I ((p0.length : Int)))), ci 1, ci 30] (B x34)), (4, rp [(.tmp 8, (B ((!x34))))] (B false)), (6, rp [(.tmp 9, B false), (.tmp 10, (Qgp p0)), ci 0] (.dptr (Qbc (x36)) 0)), (11, rp [(.tmp 15, (B ((x36.Parent != (-1)))))] (B true))] ⟨alm (c := Qbc) (l := p0) (aln rfl Try.underlying129 rfl), apc (first := []) (cap := []) (vs := [(I ((p0.length : Int))), I 1, I 30]) rfl Qdc (Qar N (p0.length : Int) 1 30 _ hf33) rfl rfl (nlc nll (nlc nll (nlc nll nl0))) nll rfl, asb hb35 (amv rfl), ag_ (aid rfl Try.underlying129 Qhl rfl rfl hi38 (mgt Qbc hj39) rfl), asb hb40 (amv rfl), trivial⟩ ?_
     refine Qb0 (by kernel_rfl) ?_
     refine wx tbk [] trivial ?_
     refine Qae ?_
     refine Qaf ?_
     obtain rfl := osi h
     exact fend ⟨[B false], ⟨rot (by kernel_rfl), trivial⟩, rfl⟩ nll
    ·replace h := Qax hb40 h
     rcases bft ((x36.Loss != 0)) with hb41 | hb41
     ·replace h := Qaw hb41 h
      refine wx tbk [(1, rp [(.tmp 5, (Qgp p0))] (I ((p0.length : Int)))), (2, rp [fu 64, (.tmp 6, (I ((p0.length : Int)))), ci 1, ci 30] (B x34)), (4, rp [(.tmp 8, (B ((!x34))))] (B false)), (6, rp [(.tmp 9, B false), (.tmp 10, (Qgp p0)), ci 0] (.dptr (Qbc (x36)) 0)), (11, rp [(.tmp 15, (B ((x36.Parent != (-1)))))] (B false)), (13, rp [(.tmp 16, B false), (.tmp 17, (Qgp p0)), ci 0] (.dptr (Qbc (x36)) 0)), (18, rp [(.tmp 22, (B ((x36.Loss != 0))))] (B true))] ⟨alm (c := Qbc) (l := p0) (aln rfl Try.underlying129 rfl), apc (first := []) (cap := []) (vs := [(I ((p0.length : Int))), I 1, I 30]) rfl Qdc (Qar N (p0.length : Int) 1 30 _ hf33) rfl rfl (nlc nll (nlc nll (nlc nll nl0))) nll rfl, asb hb35 (amv rfl), ag_ (aid rfl Try.underlying129 Qhl rfl rfl hi38 (mgt Qbc hj39) rfl), asb hb40 (amv rfl), ag_ (aid rfl Try.underlying129 Qhl rfl rfl hi38 (mgt Qbc hj39) rfl), asb hb41 (amv rfl), trivial⟩ ?_
      refine Qb0 (by kernel_rfl) ?_
      refine wx tbk [] trivial ?_
      refine Qae ?_
      refine Qaf ?_
      obtain rfl := osi h
      exact fend ⟨[B false], ⟨rot (by kernel_rfl), trivial⟩, rfl⟩ nll
     ·replace h := Qax hb41 h
      refine wx tbk [(1, rp [(.tmp 5, (Qgp p0))] (I ((p0.length : Int)))), (2, rp [fu 64, (.tmp 6, (I ((p0.length : Int)))), ci 1, ci 30] (B x34)), (4, rp [(.tmp 8, (B ((!x34))))] (B false)), (6, rp [(.tmp 9, B false), (.tmp 10, (Qgp p0)), ci 0] (.dptr (Qbc (x36)) 0)), (11, rp [(.tmp 15, (B ((x36.Parent != (-1)))))] (B false)), (13, rp [(.tmp 16, B false), (.tmp 17, (Qgp p0)), ci 0] (.dptr (Qbc (x36)) 0)), (18, rp [(.tmp 22, (B ((x36.Loss != 0))))] (B false)), (20, rp [(.tmp 23, B false), (.tmp 24, (Qgp p0)), ci 0] (.dptr (Qbc (x36)) 0))] ⟨alm (c := Qbc) (l := p0) (aln rfl Try.underlying129 rfl), apc (first := []) (cap := []) (vs := [(I ((p0.length : Int))), I 1, I 30]) rfl Qdc (Qar N (p0.length : Int) 1 30 _ hf33) rfl rfl (nlc nll (nlc nll (nlc nll nl0))) nll rfl, asb hb35 (amv rfl), ag_ (aid rfl Try.underlying129 Qhl rfl rfl hi38 (mgt Qbc hj39) rfl), asb hb40 (amv rfl), ag_ (aid rfl Try.underlying129 Qhl rfl rfl hi38 (mgt Qbc hj39) rfl), asb hb41 (amv rfl), ag_ (aid rfl Try.underlying129 Qhl rfl rfl hi38 (mgt Qbc hj39) rfl), trivial⟩ ?_
      rcases bft ((x36.Limit != 0)) with hc42 | hc42
      ·replace h := Qaw hc42 h
       refine wft hc42 (by kernel_rfl) ?_
       refine wx tbk [] trivial ?_
       refine Qae ?_
       refine Qaf ?_
       obtain rfl := osi h
       exact fend ⟨[B false], ⟨rot (by kernel_rfl), trivial⟩, rfl⟩ nll
      ·replace h := Qax hc42 h
       refine wfn hc42 (by kernel_rfl) ?_
       refine Qak ?_
       refine thn ?_
       exact ⟨(), h, (mto (n := 66) [(0, (Qgp p0))] [] [] hφ0 (pc (.rn (.plain _ (nld Qby _))) pn) qn)⟩
def Qe3 (N : Nat) (p0 : Int) : Option Bool :=
  (Qfw N p0).bind fun x3 =>
  some (!x3)
def z49_0 : Slot := .own 1 [[(.fn (.func 97) [] [])]]
theorem Qhk (N : Nat) (p0 : Int) (r : Bool) (h : Qe3 N p0 = some r) : Spec Try.prog 207 [(I (p0)), (.ref 0 1 (0) 0)] [z49_0] (B (r)) [z49_0] := by
  refine Qah Try.func207 rfl 1 (nle rfl) (fun X φ0 w0 hφ0 hd0 => ?_)
  unfold Qe3 at h
  refine Qcf ?_
  refine wx tbk [] trivial ?_
  obtain ⟨x3, hf2, h⟩ := bno h
  refine wx tbk [(2, rp [(.tmp 4, (.fn (.func 97) [] [])), (.tmp 5, I p0)] (B x3))] ⟨apc (first := []) (cap := []) (vs := [I p0]) rfl Qf6 (Qc7 N p0 _ hf2) rfl rfl (nlc nll nl0) nll rfl, trivial⟩ ?_
  refine wmr (mto (n := 8) (l' := [(3, (B ((!x3))))]) (own' := [z49_0]) [(3, (B ((!x3))))] [0] [z49_0] hφ0 (pc rwl pn) (qc (spb (lc (.rn (Qal rn0 rn0)) ln)) qn)) ?_
  refine Qae ?_
  obtain rfl := osi h
  exact ⟨_, Mor.rfl, Qcm (vs := [(B ((!x3)))]) ⟨rot (by kernel_rfl), trivial⟩ rfl (NLt.of0 nll) (by kernel_rfl) (Qan (Qa4 (nlc (NLt.of0 (NLt.fn _ _ _ nl0 nl0)) nl0)) Qbl)⟩
def Qbn (N : Nat) (p0 : (List Int)) (k2 : Unit → Option Int) : Nat → Int → Option Int
  | 0, _ => none
  | n5 + 1, y3 =>
    bif (decide (y3 < (p0.length : Int))) then
     (getI p0 y3).bind fun x7 =>
     (Qe3 N x7).bind fun x12 =>
     bif x12 then
      some y3
     else
      Qbn N p0 k2 n5 (w64 (y3 + 1))
    else
     k2 ()
def Qdi (N : Nat) (p0 : (List Int)) : Option Int :=
  Qcg (fun _ =>
    some (-1)) fun k2 : Unit → Option Int =>
  Qbn N p0 k2 N 0
def z48_0 (p0 : (List Int)) : AV := .dat 1 ((p0 : List Int).map Qab)
def z48_1 : AV := .fn (.func 207) [] [(.ref 0 1 (0) 0)]
def Qhf : Slot := .own 1 [[(.fn (.func 97) [] [])]]
theorem Qfc (N : Nat) (p0 : (List Int)) (r : Int) (h : Qdi N p0 = some r) : Spec Try.prog 48 [(z48_0 p0), z48_1] [Qhf] (I (r)) [Qhf] := by
  refine Qah Try.func48 rfl 1 (nle rfl) (fun X φ0 w0 hφ0 hd0 => ?_)
  unfold Qdi at h
  refine Qcf ?_
  refine wx tbk [] trivial ?_
  obtain ⟨k2, hk_k2, h⟩ := jko h
  refine wjn (τ := Unit) (fun t => k2 t = some r) (fun _ => ⟨mk 19 [], [Qhf]⟩) (fun t h => ?_) ?_
  ·subst hk_k2
   refine wx tbk [] trivial ?_
   refine wmr (mto (n := 19) (l' := [(4, (I ((-1))))]) (own' := [Qhf]) [(4, (I ((-1))))] [0] [Qhf] hφ0 (pc rwl pn) (qc (spb (lc (.rn (Qal rn0 rn0)) ln)) qn)) ?_
   refine Qae ?_
   obtain rfl := osi h
   exact ⟨_, Mor.rfl, Qcm (vs := [(I ((-1)))]) ⟨rot (by kernel_rfl), trivial⟩ rfl (NLt.of0 nll) (by kernel_rfl) (Qan (Qa4 (nlc (NLt.of0 (NLt.fn _ _ _ nl0 nl0)) nl0)) Qbl)⟩
  ·skip
   refine wx tbk [(1, rp [(.tmp 6, (z48_0 p0))] (I ((p0.length : Int))))] ⟨alm (c := Qab) (l := p0) (aln rfl Try.underlying22 rfl), trivial⟩ ?_
   refine Qag ?_
   refine wmr (mto (n := 19) (l' := [(0, (z48_0 p0)), (1, z48_1), (7, (I ((p0.length : Int)))), (8, I 0)]) (own' := [Qhf]) [(0, (z48_0 p0)), (1, z48_1), (7, (I ((p0.length : Int)))), (8, I 0)] [0] [Qhf] hφ0 (pc (.rn (.plain _ (nld Qac _))) (pc (.rn (Qal rn0 (rnc (rqr rfl) rn0))) (pc rwl (pc rwl pn)))) (qc (spb (lc (.rn (Qal rn0 rn0)) ln)) qn)) ?_
   refine Qca (τ := Int) (fun n t => Qbn N p0 k2 n t = some r) (fun y3 => ⟨mk 19 [(0, (z48_0 p0)), (1, z48_1), (7, (I ((p0.length : Int)))), (8, I y3)], [Qhf]⟩) (fun t h => by rw [Qbn] at h; cases h) (fun n5 ih y3 h => ?_) N (0) h
   rw [Qbn] at h
   skip
   refine wx tbk [] trivial ?_
   refine wsq ?_
   rcases bft ((decide (y3 < (p0.length : Int)))) with hc6 | hc6
   ·replace h := Qaw hc6 h
    refine wft hc6 (by kernel_rfl) ?_
    refine Qak ?_
    refine thn ?_
    refine wsq ?_
    refine Qag ?_
    refine wx tbk [] trivial ?_
    obtain ⟨x7, hg8, h⟩ := bno h
    obtain ⟨hi9, hj10⟩ := gsm hg8
    obtain ⟨x12, hf11, h⟩ := bno h
    refine wx tbk [(3, rp [(.tmp 12, (z48_0 p0)), (.tmp 13, I y3)] (.dptr (Qab (x7)) 0)), (5, ⟨[(.tmp 11, z48_1), (.tmp 15, I x7)], [(0, Qhf)], B x12, [(0, Qhf)], false⟩)] ⟨aid rfl Try.underlying22 ti3 rfl rfl hi9 (mgt Qab hj10) rfl, Qaq (first := []) (cap := [.ref 0 1 0 0]) (vs := [I x7]) (σr := [Qhf]) (σr' := [Qhf]) (res' := (B x12)) [0] rfl enter207 (Qhk N x7 _ hf11) rfl (Qcu (rnc (.plain _ nll) (rnc (Qba rfl) rn0))) (slc (Qaj (rnc (.plain _ (NLt.fn _ _ _ nl0 nl0)) rn0)) Qap) (slc (Qaj (rnc (.plain _ (NLt.fn _ _ _ nl0 nl0)) rn0)) Qap) (.plain _ nll) rfl rfl rfl, trivial⟩ ?_
    rcases bft (x12) with hc13 | hc13
    ·replace h := Qaw hc13 h
     refine wft hc13 (by kernel_rfl) ?_
     refine wx tbk [] trivial ?_
     refine wmr (mto (n := 19) (l' := [(4, I y3)]) (own' := [Qhf]) [(4, I y3)] [0] [Qhf] hφ0 (pc rwl pn) (qc (spb (lc (.rn (Qal rn0 rn0)) ln)) qn)) ?_
     refine Qae ?_
     refine Qao ?_
     refine Qaf ?_
     refine Qaf ?_
     refine Qao ?_
     refine Qaf ?_
     obtain rfl := osi h
     exact ⟨_, Mor.rfl, Qcm (vs := [I y3]) ⟨rot (by kernel_rfl), trivial⟩ rfl (NLt.of0 nll) (by kernel_rfl) (Qan (Qa4 (nlc (NLt.of0 (NLt.fn _ _ _ nl0 nl0)) nl0)) Qbl)⟩
    ·replace h := Qax hc13 h
     refine wfn hc13 (by kernel_rfl) ?_
     refine Qak ?_
     refine bln ?_
     refine thn ?_
     refine wx1 tbk [] trivial ?_
     refine thn ?_
     exact arm (mto (n := 19) [(0, (z48_0 p0)), (1, z48_1), (7, (I ((p0.length : Int)))), (8, (I (w64 (y3 + 1))))] [0] [Qhf] hφ0 (pc (.rn (.plain _ (nld Qac _))) (pc (.rn (Qal rn0 (rnc (rqr rfl) rn0))) (pc rwl (pc rwl pn)))) (qc (spb (lc (.rn (Qal rn0 rn0)) ln)) qn)) (ih (w64 (y3 + 1)) h)
   ·replace h := Qax hc6 h
    refine wfn hc6 (by kernel_rfl) ?_
    refine Qbk ?_
    refine Qav ?_
    refine Qav ?_
    refine Qbj rfl ?_
    refine thn ?_
    exact ⟨(), h, (mto (n := 19) [] [0] [Qhf] hφ0 pn (qc (spb (lc (.rn (Qal rn0 rn0)) ln)) qn))⟩
def Qc8 (N : Nat) (p0 : (List Int)) : Option Bool :=
  (Qdi N p0).bind fun x3 =>
  some (decide (x3 ≥ 0))
def z47_0 (p0 : (List Int)) : AV := .dat 1 ((p0 : List Int).map Qab)
def z47_1 : AV := .fn (.func 207) [] [(.ref 0 1 (0) 0)]
def z47_2 : Slot := .own 1 [[(.fn (.func 97) [] [])]]
theorem Qeq (N : Nat) (p0 : (List Int)) (r : Bool) (h : Qc8 N p0 = some r) : Spec Try.prog 117 [(z47_0 p0), z47_1] [z47_2] (B (r)) [z47_2] := by
  refine Qah Try.func117 rfl 1 (nle rfl) (fun X φ0 w0 hφ0 hd0 => ?_)
  unfold Qc8 at h
  refine Qcf ?_
  refine wx tbk [] trivial ?_
  obtain ⟨x3, hf2, h⟩ := bno h
  refine wx tbk [(2, ⟨[fu 48, (.tmp 5, (z47_0 p0)), (.tmp 6, z47_1)], [(0, z47_2)], I x3, [(0, z47_2)], false⟩)] ⟨Qaq (first := []) (cap := []) (vs := [(z47_0 p0), z47_1]) (σr := [z47_2]) (σr' := [z47_2]) (res' := (I x3)) [0] rfl enter48 (Qfc N p0 _ hf2) rfl (Qcu (rnc (.plain _ (nld Qac _)) (rnc (Qal rn0 (rnc (Qba rfl) rn0)) rn0))) (slc (Qaj (rnc (.plain _ (NLt.fn _ _ _ nl0 nl0)) rn0)) Qap) (slc (Qaj (rnc (.plain _ (NLt.fn _ _ _ nl0 nl0)) rn0)) Qap) (.plain _ nll) rfl rfl rfl, trivial⟩ ?_
  refine wmr (mto (n := 9) (l' := [(4, (B ((decide (x3 ≥ 0)))))]) (own' := [z47_2]) [(4, (B ((decide (x3 ≥ 0)))))] [0] [z47_2] hφ0 (pc rwl pn) (qc (spb (lc (.rn (Qal rn0 rn0)) ln)) qn)) ?_
  refine Qae ?_
  obtain rfl := osi h
  exact ⟨_, Mor.rfl, Qcm (vs := [(B ((decide (x3 ≥ 0))))]) ⟨rot (by kernel_rfl), trivial⟩ rfl (NLt.of0 nll) (by kernel_rfl) (Qan (Qa4 (nlc (NLt.of0 (NLt.fn _ _ _ nl0 nl0)) nl0)) Qbl)⟩
def Qfy (N : Nat) (p0 : (List Int)) : Option Bool :=
  (Qc8 N p0).bind fun x2 =>
  some (!x2)
def z46_1 (p0 : (List Int)) : AV := .dat 1 ((p0 : List Int).map Qab)
def z46_2 : AV := .fn (.func 207) [] [(.ref 0 1 (0) 0)]
def z46_0 : Slot := .own 1 [[(.fn (.func 97) [] [])]]
theorem Qh4 (N : Nat) (p0 : (List Int)) (r : Bool) (h : Qfy N p0 = some r) : Spec Try.prog 157 [(z46_1 p0), (.fn (.func 97) [] [])] [] (B (r)) [] := by
  refine Qah Try.func157 rfl 0 (nle rfl) (fun X φ0 w0 hφ0 hd0 => ?_)
  unfold Qfy at h
  refine wx tbk [] trivial ?_
  obtain ⟨x2, hf1, h⟩ := bno h
  refine wx tbk [(1, rp [(.tmp 3, .ref 0 1 0 0)] z46_2), (2, ⟨[fu 117, (.tmp 5, (z46_1 p0)), (.tmp 6, z46_2)], [(0, z46_0)], B x2, [(0, z46_0)], false⟩)] ⟨Qep (fs := []) (cs := [.ref 0 1 0 0]) rfl rfl rfl rfl, Qaq (first := []) (cap := []) (vs := [(z46_1 p0), z46_2]) (σr := [z46_0]) (σr' := [z46_0]) (res' := (B x2)) [0] rfl Qlc (Qeq N p0 _ hf1) rfl (Qcu (rnc (.plain _ (nld Qac _)) (rnc (Qal rn0 (rnc (Qba rfl) rn0)) rn0))) (slc (Qaj (rnc (.plain _ (NLt.fn _ _ _ nl0 nl0)) rn0)) Qap) (slc (Qaj (rnc (.plain _ (NLt.fn _ _ _ nl0 nl0)) rn0)) Qap) (.plain _ nll) rfl rfl rfl, trivial⟩ ?_
  refine Qae ?_
  obtain rfl := osi h
  exact fend ⟨[(B ((!x2)))], ⟨rot (by kernel_rfl), trivial⟩, rfl⟩ nll
def Qig (N : Nat) (p0 : (List GNode)) (p1 : (List Int)) : Option Int :=
  (Qfi N p0).bind fun x2 =>
  bif (!x2) then
   some 1
  else
   bif ((p1.length : Int) != (p0.length : Int)) then
    some 2
   else
    (Qfy N p1).bind fun x6 =>
    bif (!x6) then
     some 2
    else
     some 0
def z43_0 (p0 : (List GNode)) : AV := .dat 4 ((p0 : List GNode).map Qbc)
def z43_1 (p1 : (List Int)) : AV := .dat 1 ((p1 : List Int).map Qab)
theorem Qkt (N : Nat) (p0 : (List GNode)) (p1 : (List Int)) (r : Int) (h : Qig N p0 p1 = some r) : Spec Try.prog 94 [(.dat 4 (p0.map Qbc)), (.dat 1 (p1.map Qab))] [] (I r) [] := by
  refine Qah Try.func94 rfl 0 (nle rfl) (fun X φ0 w0 hφ0 hd0 => ?_)
  unfold Qig at h
  refine wx tbk [] trivial ?_
  refine wsq ?_
  refine Qag ?_
  obtain ⟨x2, hf1, h⟩ := bno h
  refine wx tbk [(1, rp [fu 156, (.tmp 6, (z43_0 p0))] (B x2))] ⟨apc (first := []) (cap := []) (vs := [(z43_0 p0)]) rfl enter156 (Qhp N p0 _ hf1) rfl rfl (nlc (nld Qby _) nl0) nll rfl, trivial⟩ ?_
  rcases bft ((!x2)) with hc3 | hc3
  ·replace h := Qaw hc3 h
   refine wft hc3 (by kernel_rfl) ?_
   refine wx tbk [] trivial ?_
   refine Qae ?_
   refine Qao ?_
   refine Qaf ?_
   obtain rfl := osi h
   exact fend ⟨[I 1], ⟨rot (by kernel_rfl), trivial⟩, rfl⟩ nll
  ·replace h := Qax hc3 h
   refine wfn hc3 (by kernel_rfl) ?_
   rcases bft (((p1.length : Int) != (p0.length : Int))) with hb4 | hb4
   ·replace h := Qaw hb4 h
    refine wx tbk [(1, rp [(.tmp 10, (z43_1 p1))] (I ((p1.length : Int)))), (3, rp [(.tmp 12, (z43_0 p0))] (I ((p0.length : Int)))), (5, rp [(.tmp 14, (B (((p1.length : Int) != (p0.length : Int)))))] (B true))] ⟨alm (c := Qab) (l := p1) (aln rfl Try.underlying22 rfl), alm (c := Qbc) (l := p0) (aln rfl Try.underlying129 rfl), asb hb4 (amv rfl), trivial⟩ ?_
    refine Qb0 (by kernel_rfl) ?_
    refine wx tbk [] trivial ?_
    refine Qae ?_
    refine Qao ?_
    refine Qaf ?_
    obtain rfl := osi h
    exact fend ⟨[I 2], ⟨rot (by kernel_rfl), trivial⟩, rfl⟩ nll
   ·replace h := Qax hb4 h
    obtain ⟨x6, hf5, h⟩ := bno h
    refine wx tbk [(1, rp [(.tmp 10, (z43_1 p1))] (I ((p1.length : Int)))), (3, rp [(.tmp 12, (z43_0 p0))] (I ((p0.length : Int)))), (5, rp [(.tmp 14, (B (((p1.length : Int) != (p0.length : Int)))))] (B false)), (7, rp [(.tmp 15, B false), fu 157, (.tmp 16, (z43_1 p1)), fu 97] (B x6))] ⟨alm (c := Qab) (l := p1) (aln rfl Try.underlying22 rfl), alm (c := Qbc) (l := p0) (aln rfl Try.underlying129 rfl), asb hb4 (amv rfl), ag_ (Qaq (first := []) (cap := []) (vs := [(z43_1 p1), (.fn (.func 97) [] [])]) (σr := []) (σr' := []) (res' := (B x6)) [] rfl enter157 (Qh4 N p1 _ hf5) rfl (Qcu (rnc (.plain _ (nld Qac _)) (rnc (.plain _ (NLt.fn _ _ _ nl0 nl0)) rn0))) Qap Qap (.plain _ nll) rfl rfl rfl), trivial⟩ ?_
    rcases bft ((!x6)) with hc7 | hc7
    ·replace h := Qaw hc7 h
     refine wft hc7 (by kernel_rfl) ?_
     refine wx tbk [] trivial ?_
     refine Qae ?_
     refine Qao ?_
     refine Qaf ?_
     obtain rfl := osi h
     exact fend ⟨[I 2], ⟨rot (by kernel_rfl), trivial⟩, rfl⟩ nll
    ·replace h := Qax hc7 h
     refine wfn hc7 (by kernel_rfl) ?_
     refine Qak ?_
     refine bln ?_
     refine thn ?_
     refine wx tbk [] trivial ?_
     refine Qae ?_
     obtain rfl := osi h
     exact fend ⟨[I 0], ⟨rot (by kernel_rfl), trivial⟩, rfl⟩ nll
def Qds (_N : Nat) (p0 : (List Int)) : Option Unit :=
  chk (!p0.isEmpty) <|
  chk (!p0.isEmpty) <|
  chk (decide ((0 + p0.length) * 8 ≤ 140737488355328)) <|
  some ()
def z51_0 (p0 : (List Int)) : AV := .dat 1 ((p0 : List Int).map Qab)
def z51_2 (p0 : (List Int)) : Slot := .own 1 ((p0 : List Int).map Qab)
def z51_1 : AV := .acc 0 3 1 ((([] : List Int) : List Int).map Qab)
theorem Qf8 (N : Nat) (p0 : (List Int)) (r : Unit) (h : Qds N p0 = some r) : Spec Try.prog 158 [(z51_0 p0)] [] (.own 0 1 (0) (p0.length)) [(z51_2 p0)] := by
  refine Qah Try.func158 rfl 1 (nle rfl) (fun X φ0 w0 hφ0 hd0 => ?_)
  unfold Qds at h
  refine Qcf ?_
  refine wx tbk [] trivial ?_
  refine wsq ?_
  obtain ⟨hz1, h⟩ := cko h
  refine wx tbk [(1, rp [(.tmp 3, (z51_0 p0)), ((.const (.slice none 0 0)), nilS)] (B false))] ⟨astep_eqnil rfl Try.underlying22 rfl (Qgw hz1), trivial⟩ ?_
  refine Qeb (by kernel_rfl) ?_
  refine Qak ?_
  refine thn ?_
  obtain ⟨ha3, h⟩ := cko h
  obtain ⟨ha2, h⟩ := cko h
  refine wx tbk [(0, ⟨[], [(0, .unused)], z51_1, [(0, .tok)], false⟩), (2, ⟨[(.tmp 5, z51_1), (.tmp 6, (z51_0 p0))], [(0, .tok), (1, .unused)], (.own 1 1 (0) (p0.length)), [(0, .dead), (1, (z51_2 p0))], false⟩)] ⟨Qg0 rfl Try.underlying22 ti3 tz3, astep_appO rfl Try.underlying22 te3 (Base.acc _ _) rfl rfl (Qgw ha3) (Qkz Qab one_i64 _) (app_le1n Qab ha2) (app_le2n Qab ha2 (by decide)) (List.length_map _), trivial⟩ ?_
  refine wmr (mto (n := 8) (l' := [(2, (.own 0 1 (0) (p0.length)))]) (own' := [(z51_2 p0)]) [(2, (.own 1 1 (0) (p0.length)))] [1] [(z51_2 p0)] hφ0 (pc (.rn (Qas rfl)) pn) (qc (spr Qac) qn)) ?_
  refine Qae ?_
  obtain rfl := osi h
  exact ⟨_, Mor.rfl, Qcm (vs := [(.own 0 1 (0) (p0.length))]) ⟨rot (by kernel_rfl), trivial⟩ rfl (NLt.own _ _ _ _ (by decide)) (by kernel_rfl) (Qan (Qe4 Qac _) Qbl)⟩
def Qcd (_N : Nat) (_p0 : (List GNode)) : Option Unit :=
  some ()
def z52_0 (p0 : (List GNode)) : AV := .dat 4 ((p0 : List GNode).map Qbc)
def z52_1 : AV := .fn (.func 208) [] [(.ref 0 1 (0) 0)]
theorem Qdy (N : Nat) (p0 : (List GNode)) (r : Unit) (h : Qcd N p0 = some r) : Spec Try.prog 160 [(z52_0 p0)] [] z52_1 [(.own 1 [[(z52_0 p0)]])] := by
  refine Qah Try.func160 rfl 1 (nle rfl) (fun X φ0 w0 hφ0 hd0 => ?_)
  unfold Qcd at h
  refine Qcf ?_
  refine wx tbk [] trivial ?_
  refine wx tbk [(0, rp [(.tmp 1, .ref 0 1 0 0)] z52_1)] ⟨Qep (fs := []) (cs := [.ref 0 1 0 0]) rfl rfl rfl rfl, trivial⟩ ?_
  refine wmr (mto (n := 4) (l' := [(2, z52_1)]) (own' := [(.own 1 [[(z52_0 p0)]])]) [(2, z52_1)] [0] [(.own 1 [[(z52_0 p0)]])] hφ0 (pc (.rn (Qal rn0 (rnc (rqr rfl) rn0))) pn) (qc (spb (lc (.rn (.plain _ (nld Qby _))) ln)) qn)) ?_
  refine Qae ?_
  obtain rfl := osi h
  exact ⟨_, Mor.rfl, Qcm (vs := [z52_1]) ⟨rot (by kernel_rfl), trivial⟩ rfl (NLt.fn _ _ _ nl0 (nlc (NLt.ref _ _ _ _ (by decide)) nl0)) (by kernel_rfl) (Qan (Qa4 (nlc (NLt.of0 (nld Qby _)) nl0)) Qbl)⟩
def Qa1 (N : Nat) (p0 : (List GNode)) : Nat → Int → Option (List (Int × GNode))
  | 0, _ => none
  | n7 + 1, y3 =>
    bif (decide (y3 ≥ 0)) then
     (getI p0 y3).bind fun x9 =>
     yld (y3, x9) <|
     Qa1 N p0 n7 (w64 (y3 - 1))
    else
     some ([])
def Qcc (N : Nat) (p0 : (List GNode)) : Option (List (Int × GNode)) :=
  (some (w64 ((p0.length : Int) - 1))).bind fun x1 =>
  Qa1 N p0 N x1
def Qir (p0 : (List GNode)) : AV := .dat 4 ((p0 : List GNode).map Qbc)
def z53_3 (x9 : GNode) : AV := .agg [(I (x9.Parent)), (I (x9.Loss)), (I (x9.Limit)), (I (x9.Rank))]
theorem Qdx (N : Nat) (p0 : (List GNode)) (r : (List (Int × GNode))) (h : Qcc N p0 = some r) : SeqSpec Try.prog 208 [(.ref 0 1 (0) 0)] [(.own 1 [[(Qir p0)]])] (fun x => [(.int .i64 (x.1)), (.agg #[(.int .i64 (x.2.Parent)), (.int .i64 (x.2.Loss)), (.int .i64 (x.2.Limit)), (.int .i64 (x.2.Rank))])]) r := by
  refine seq_of_awp Try.func208 rfl rfl (fun X φ0 w0 l J hφ0 hy => ?_)
  unfold Qcc at h
  obtain ⟨x1, hl2, h⟩ := bno h
  refine wx tbk [(1, rp [(.tmp 4, (Qir p0))] (I ((p0.length : Int)))), (3, rp [(.tmp 6, (I (w64 ((p0.length : Int) - 1))))] (I x1))] ⟨alm (c := Qbc) (l := p0) (aln rfl Try.underlying129 rfl), Qez hl2 (aas rfl), trivial⟩ ?_
  refine Qag ?_
  refine wmr (mto (n := 19) (l' := [(0, (.lit (.func (.yield l) #[] #[]))), (1, .ref 0 1 0 0), (3, I x1)]) (own' := [(.own 1 [[(Qir p0)]]), (.far (J (some (r))))]) [(0, (.lit (.func (.yield l) #[] #[]))), (1, .ref 0 1 0 0), (3, I x1)] [0, 1] [(.own 1 [[(Qir p0)]]), (.far (J (some (r))))] hφ0 (pc rwl (pc (.rn (rqr rfl)) (pc rwl pn))) (qc (spb (lc (.rn (.plain _ (nld Qby _))) ln)) (qc (.far _) qn))) ?_
  refine Qca (τ := (Int) × List (Int × GNode)) (fun n t => Qa1 N p0 n t.1 = some t.2) (fun ⟨y3, q4⟩ => ⟨mk 19 [(0, (.lit (.func (.yield l) #[] #[]))), (1, .ref 0 1 0 0), (3, I y3)], [(.own 1 [[(Qir p0)]]), (.far (J (some (q4))))]⟩) (fun t h => by rw [Qa1] at h; cases h) (fun n7 ih t h => ?_) N ((x1), r) h
  obtain ⟨y3, q4⟩ := t
  rw [Qa1] at h
  try dsimp only at h
  refine wsq ?_
  refine wx tbk [] trivial ?_
  rcases bft ((decide (y3 ≥ 0))) with hc8 | hc8
  ·replace h := Qaw hc8 h
   refine wft hc8 (by kernel_rfl) ?_
   refine Qak ?_
   refine thn ?_
   refine wsq ?_
   refine Qag ?_
   obtain ⟨x9, hg10, h⟩ := bno h
   obtain ⟨hi11, hj12⟩ := gsm hg10
   obtain ⟨q13, hy_, hq_⟩ := yld_out h
   clear h
   subst hq_
   have h := hy_
   clear hy_
   refine awp_regy 6 [mv 0 (.lit (.func (.yield l) #[] #[])), mv 3 (I y3), rb [(.tmp 1, .ref 0 1 0 0)] [(0, (.own 1 [[(Qir p0)]]))] (Qir p0), mv 3 (I y3), rp [(.tmp 13, (Qir p0)), (.tmp 14, I y3)] (.dptr (Qbc (x9)) 0), rp [(.tmp 15, (.dptr (Qbc (x9)) 0))] (z53_3 x9), ⟨[(.tmp 11, (.lit (.func (.yield l) #[] #[]))), (.tmp 12, I y3), (.tmp 16, (z53_3 x9))], [(1, (.far (J (some ((y3, x9) :: q13)))))], B true, [(1, (.far (J (some (q13)))))], false⟩, rp [(.tmp 17, B true)] (B false)] [mv 0 (.lit (.func (.yield l) #[] #[])), mv 3 (I y3), rb [(.tmp 1, .ref 0 1 0 0)] [(0, (.own 1 [[(Qir p0)]]))] (Qir p0), mv 3 (I y3), rp [(.tmp 13, (Qir p0)), (.tmp 14, I y3)] (.dptr (Qbc (x9)) 0), rp [(.tmp 15, (.dptr (Qbc (x9)) 0))] (z53_3 x9), ⟨[(.tmp 11, (.lit (.func (.yield l) #[] #[]))), (.tmp 12, I y3), (.tmp 16, (z53_3 x9))], [(1, (.far (J (some ((y3, x9) :: q13)))))], B false, [(1, (.far (J none)))], false⟩, rp [(.tmp 17, B false)] (B true)] (by exact ⟨by kernel_rfl, by kernel_rfl⟩) (by exact ⟨by kernel_rfl, by kernel_rfl⟩) rfl rfl rfl rfl (astep2_weak (rd' := (.tmp 11, .lit (.func (.yield l) #[] #[])) :: [(.tmp 12, .lit (.int .i64 (y3))), (.tmp 16, .lit (.agg #[(.int .i64 (x9.Parent)), (.int .i64 (x9.Loss)), (.int .i64 (x9.Limit)), (.int .i64 (x9.Rank))]))]) ⟨rfl, lrf, rfl, lrf, rfl, (Less.lits [(.int .i64 (x9.Parent)), (.int .i64 (x9.Loss)), (.int .i64 (x9.Limit)), (.int .i64 (x9.Rank))]), trivial⟩ (astep_yieldq (x := (y3, x9)) (rest := q13) rfl rfl hy rfl)) (⟨fun _ _ => amv rfl, fun _ _ => amv rfl, fun _ _ => ald rfl ti129 (by decide) rfl (nle rfl) rfl, fun _ _ => amv rfl, fun _ _ => aid rfl Try.underlying129 Qhl rfl rfl hi11 (mgt Qbc hj12) rfl, fun _ _ => ald_ rfl Qhl (by decide) (nle rfl) rfl, fun _ h => absurd rfl h, fun _ _ => Qjs rfl, trivial⟩) (⟨fun _ _ => amv rfl, fun _ _ => amv rfl, fun _ _ => ald rfl ti129 (by decide) rfl (nle rfl) rfl, fun _ _ => amv rfl, fun _ _ => aid rfl Try.underlying129 Qhl rfl rfl hi11 (mgt Qbc hj12) rfl, fun _ _ => ald_ rfl Qhl (by decide) (nle rfl) rfl, fun _ h => absurd rfl h, fun _ _ => Qjs rfl, trivial⟩) ?_ ?_
   ·skip
    refine Qeb (by kernel_rfl) ?_
    refine Qak ?_
    refine bln ?_
    refine thn ?_
    refine wx1 tbk [] trivial ?_
    refine thn ?_
    exact arm (mto (n := 19) [(0, (.lit (.func (.yield l) #[] #[]))), (1, .ref 0 1 0 0), (3, (I (w64 (y3 - 1))))] [0, 1] [(.own 1 [[(Qir p0)]]), (.far (J (some (q13))))] hφ0 (pc rwl (pc (.rn (rqr rfl)) (pc rwl pn))) (qc (spb (lc (.rn (.plain _ (nld Qby _))) ln)) (qc (.far _) qn))) (ih ((w64 (y3 - 1)), q13) h)
   ·clear h
    refine Qb0 (by kernel_rfl) ?_
    refine Qae ?_
    refine Qao ?_
    refine Qaf ?_
    refine Qaf ?_
    refine Qao ?_
    exact Or.inr (by kernel_rfl)
  ·replace h := Qax hc8 h
   refine wfn hc8 (by kernel_rfl) ?_
   refine Qbk ?_
   refine Qav ?_
   refine Qav ?_
   refine Qbj rfl ?_
   obtain rfl := osi h
   exact Or.inl rfl
def Qd6 (_N : Nat) (p0 : Int) (p1 : Nat) (p2 : (List GNode)) (p3 : (List Int)) : Option (List Int) :=
  Qcg (fun y2 =>
    (getI p2 p0).bind fun x4 =>
    bif (decide (x4.Parent ≥ 0)) then
     chk (decide (0 ≤ x4.Parent) && decide (x4.Parent.toNat < p1)) <|
     (y2[x4.Parent.toNat]?).bind fun x10 =>
     chk (decide (0 ≤ p0) && decide (p0.toNat < p1)) <|
     (y2[p0.toNat]?).bind fun x13 =>
     chk (decide (0 ≤ x4.Parent) && decide (x4.Parent.toNat < p1)) <|
     (y2[x4.Parent.toNat]?).bind fun _ =>
     some (y2.set x4.Parent.toNat (w64 (x10 + x13)))
    else
     some y2) fun k3 : (List Int) → Option (List Int) =>
  chk (decide (0 ≤ p0) && decide (p0.toNat < p1)) <|
  (p3[p0.toNat]?).bind fun x19 =>
  bif (decide (x19 > 0)) then
   chk (decide (0 ≤ p0) && decide (p0.toNat < p1)) <|
   (p3[p0.toNat]?).bind fun x23 =>
   (getI p2 p0).bind fun x25 =>
   chk (decide (0 ≤ p0) && decide (p0.toNat < p1)) <|
   (p3[p0.toNat]?).bind fun _ =>
   k3 (p3.set p0.toNat (w64 (x23 + x25.Loss)))
  else
   k3 (p3)
def Qkp (p1 : Nat) : Slot := .own 1 [[(.own 2 1 (0) (p1))]]
def Qi0 (p2 : (List GNode)) : AV := .dat 4 ((p2 : List GNode).map Qbc)
def z54_1 (p3 : (List Int)) : Slot := .own 1 ((p3 : List Int).map Qab)
def Qko (y2 : (List Int)) : Slot := .own 1 ((y2 : List Int).map Qab)
theorem Qgq (N : Nat) (p0 : Int) (p1 : Nat) (p2 : (List GNode)) (p3 : (List Int)) (r : (List Int)) (h : Qd6 N p0 p1 p2 p3 = some r) : Spec Try.prog 159 [(I (p0)), (.ref 0 1 (0) 0), (.ref 1 1 (0) 0)] [(Qkp p1), (.own 1 [[(Qi0 p2)]]), (z54_1 p3)] (.tup []) [(Qkp p1), (.own 1 [[(Qi0 p2)]]), (.own 1 ((r : List Int).map Qab))] := by
  refine Qah Try.func159 rfl 3 (nle rfl) (fun X φ0 w0 hφ0 hd0 => ?_)
  unfold Qd6 at h
  refine Qcf ?_
  obtain ⟨k3, hk_k3, h⟩ := jko h
  refine wjn (τ := (List Int)) (fun t => k3 t = some r) (fun y2 => ⟨mk 38 [(0, I p0), (1, .ref 0 1 0 0), (2, .ref 1 1 0 0)], [(Qkp p1), (.own 1 [[(Qi0 p2)]]), (Qko y2)]⟩) (fun y2 h => ?_) ?_
  ·subst hk_k3
   obtain ⟨x4, hg5, h⟩ := bno h
   obtain ⟨hi6, hj7⟩ := gsm hg5
   refine wx tbk [(2, rp [(.tmp 21, (Qi0 p2)), (.tmp 22, I p0)] (.dptr (Qbc (x4)) 0))] ⟨aid rfl Try.underlying129 Qhl rfl rfl hi6 (mgt Qbc hj7) rfl, trivial⟩ ?_
   refine wx tbk [] trivial ?_
   rcases bft ((decide (x4.Parent ≥ 0))) with hc8 | hc8
   ·replace h := Qaw hc8 h
    refine wft hc8 (by kernel_rfl) ?_
    obtain ⟨hi9, h⟩ := cko h
    obtain ⟨hi9a, hi9b⟩ := Qb4 hi9
    obtain ⟨x10, hg11, h⟩ := bno h
    obtain ⟨hi12, h⟩ := cko h
    obtain ⟨hi12a, hi12b⟩ := Qb4 hi12
    obtain ⟨x13, hg14, h⟩ := bno h
    obtain ⟨hi15, h⟩ := cko h
    obtain ⟨hi15a, hi15b⟩ := Qb4 hi15
    obtain ⟨x16, hg17, h⟩ := bno h
    refine wy1 tbk [(2, rb [(.tmp 28, (.own 2 1 (0) (p1))), (.tmp 29, I x4.Parent)] [(2, (Qko y2))] (.ref 2 1 (x4.Parent.toNat) 0)), (3, rb [(.tmp 30, (.ref 2 1 (x4.Parent.toNat) 0))] [(2, (Qko y2))] (I x10)), (6, rb [(.tmp 32, (.own 2 1 (0) (p1))), (.tmp 33, I p0)] [(2, (Qko y2))] (.ref 2 1 (p0.toNat) 0)), (7, rb [(.tmp 34, (.ref 2 1 (p0.toNat) 0))] [(2, (Qko y2))] (I x13)), (9, rb [(.tmp 28, (.own 2 1 (0) (p1))), (.tmp 29, I x4.Parent)] [(2, (Qko y2))] (.ref 2 1 (x4.Parent.toNat) 0)), (10, ⟨[(.tmp 37, (.ref 2 1 (x4.Parent.toNat) 0)), (.tmp 36, (I (w64 (x10 + x13))))], [(2, (Qko y2))], .any, [(2, (.own 1 ((y2.set x4.Parent.toNat (w64 (x10 + x13)) : List Int).map Qab)))], false⟩)] ⟨aio rfl Try.underlying22 ti3 (odt hi9a) (odt hi9b) (Nat.zero_add _), ald rfl ti3 (by decide) (mgt Qab hg11) (nle rfl) rfl, aio rfl Try.underlying22 ti3 (odt hi12a) (odt hi12b) (Nat.zero_add _), ald rfl ti3 (by decide) (mgt Qab hg14) (nle rfl) rfl, aio rfl Try.underlying22 ti3 (odt hi15a) (odt hi15b) (Nat.zero_add _), ast rfl ti3 (by rfl) (mgt Qab hg17) (nle rfl) (Qe5 Qab rfl), trivial⟩ ?_
    obtain rfl := osi h
    exact ⟨_, (mto (n := 38) (l' := []) (own' := [(Qkp p1), (.own 1 [[(Qi0 p2)]]), (.own 1 (((y2.set x4.Parent.toNat (w64 (x10 + x13))) : List Int).map Qab))]) [] [0, 1, 2] [(Qkp p1), (.own 1 [[(Qi0 p2)]]), (.own 1 ((y2.set x4.Parent.toNat (w64 (x10 + x13)) : List Int).map Qab))] hφ0 pn (qc (spb (lc (.rn (Qas rfl)) ln)) (qc (spb (lc (.rn (.plain _ (nld Qby _))) ln)) (qc (spr Qac) qn)))), Qcm (vs := []) trivial rfl (NLt.tup _ nl0) (by kernel_rfl) (Qan (Qa4 (nlc (NLt.own _ _ _ _ (by decide)) nl0)) (Qan (Qa4 (nlc (NLt.of0 (nld Qby _)) nl0)) (Qan (Qe4 Qac _) Qbl)))⟩
   ·replace h := Qax hc8 h
    refine wfn hc8 (by kernel_rfl) ?_
    refine Qak ?_
    obtain rfl := osi h
    exact ⟨_, (mto (n := 38) (l' := []) (own' := [(Qkp p1), (.own 1 [[(Qi0 p2)]]), (Qko y2)]) [] [0, 1, 2] [(Qkp p1), (.own 1 [[(Qi0 p2)]]), (Qko y2)] hφ0 pn (qc (spb (lc (.rn (Qas rfl)) ln)) (qc (spb (lc (.rn (.plain _ (nld Qby _))) ln)) (qc (spr Qac) qn)))), Qcm (vs := []) trivial rfl (NLt.tup _ nl0) (by kernel_rfl) (Qan (Qa4 (nlc (NLt.own _ _ _ _ (by decide)) nl0)) (Qan (Qa4 (nlc (NLt.of0 (nld Qby _)) nl0)) (Qan (Qe4 Qac _) Qbl)))⟩
  ·skip
   obtain ⟨hi18, h⟩ := cko h
   obtain ⟨hi18a, hi18b⟩ := Qb4 hi18
   obtain ⟨x19, hg20, h⟩ := bno h
   refine wx tbk [(2, rb [(.tmp 5, (.own 2 1 (0) (p1))), (.tmp 6, I p0)] [(2, (z54_1 p3))] (.ref 2 1 (p0.toNat) 0)), (3, rb [(.tmp 7, (.ref 2 1 (p0.toNat) 0))] [(2, (z54_1 p3))] (I x19))] ⟨aio rfl Try.underlying22 ti3 (odt hi18a) (odt hi18b) (Nat.zero_add _), ald rfl ti3 (by decide) (mgt Qab hg20) (nle rfl) rfl, trivial⟩ ?_
   rcases bft ((decide (x19 > 0))) with hc21 | hc21
   ·replace h := Qaw hc21 h
    refine wft hc21 (by kernel_rfl) ?_
    obtain ⟨hi22, h⟩ := cko h
    obtain ⟨hi22a, hi22b⟩ := Qb4 hi22
    obtain ⟨x23, hg24, h⟩ := bno h
    obtain ⟨x25, hg26, h⟩ := bno h
    obtain ⟨hi27, hj28⟩ := gsm hg26
    obtain ⟨hi29, h⟩ := cko h
    obtain ⟨hi29a, hi29b⟩ := Qb4 hi29
    obtain ⟨x30, hg31, h⟩ := bno h
    refine wy1 tbk [(2, rb [(.tmp 10, (.own 2 1 (0) (p1))), (.tmp 11, I p0)] [(2, (z54_1 p3))] (.ref 2 1 (p0.toNat) 0)), (3, rb [(.tmp 12, (.ref 2 1 (p0.toNat) 0))] [(2, (z54_1 p3))] (I x23)), (6, rp [(.tmp 14, (Qi0 p2)), (.tmp 15, I p0)] (.dptr (Qbc (x25)) 0)), (10, rb [(.tmp 10, (.own 2 1 (0) (p1))), (.tmp 11, I p0)] [(2, (z54_1 p3))] (.ref 2 1 (p0.toNat) 0)), (11, ⟨[(.tmp 20, (.ref 2 1 (p0.toNat) 0)), (.tmp 19, (I (w64 (x23 + x25.Loss))))], [(2, (z54_1 p3))], .any, [(2, (.own 1 ((p3.set p0.toNat (w64 (x23 + x25.Loss)) : List Int).map Qab)))], false⟩)] ⟨aio rfl Try.underlying22 ti3 (odt hi22a) (odt hi22b) (Nat.zero_add _), ald rfl ti3 (by decide) (mgt Qab hg24) (nle rfl) rfl, aid rfl Try.underlying129 Qhl rfl rfl hi27 (mgt Qbc hj28) rfl, aio rfl Try.underlying22 ti3 (odt hi29a) (odt hi29b) (Nat.zero_add _), ast rfl ti3 (by rfl) (mgt Qab hg31) (nle rfl) (Qe5 Qab rfl), trivial⟩ ?_
    refine thn ?_
    exact ⟨(p3.set p0.toNat (w64 (x23 + x25.Loss))), h, (mto (n := 38) [(0, I p0), (1, .ref 0 1 0 0), (2, .ref 1 1 0 0)] [0, 1, 2] [(Qkp p1), (.own 1 [[(Qi0 p2)]]), (.own 1 ((p3.set p0.toNat (w64 (x23 + x25.Loss)) : List Int).map Qab))] hφ0 (pc rwl (pc (.rn (rqr rfl)) (pc (.rn (rqr rfl)) pn))) (qc (spb (lc (.rn (Qas rfl)) ln)) (qc (spb (lc (.rn (.plain _ (nld Qby _))) ln)) (qc (spr Qac) qn))))⟩
   ·replace h := Qax hc21 h
    refine wfn hc21 (by kernel_rfl) ?_
    refine Qak ?_
    refine thn ?_
    exact ⟨(p3), h, (mto (n := 38) [(0, I p0), (1, .ref 0 1 0 0), (2, .ref 1 1 0 0)] [0, 1, 2] [(Qkp p1), (.own 1 [[(Qi0 p2)]]), (z54_1 p3)] hφ0 (pc rwl (pc (.rn (rqr rfl)) (pc (.rn (rqr rfl)) pn))) (qc (spb (lc (.rn (Qas rfl)) ln)) (qc (spb (lc (.rn (.plain _ (nld Qby _))) ln)) (qc (spr Qac) qn))))⟩
def Qcx (N : Nat) (p0 : (List GNode)) (p1 : (List Int)) (k6 : (List Int) → Option (List Int)) : (List (Int × GNode)) → (List Int) → Option (List Int)
  | [], y12 =>
    k6 (y12)
  | x15 :: q16, y12 =>
    (Qd6 N x15.1 p1.length p0 y12).bind fun x25 =>
    Qcx N p0 p1 k6 q16 x25
def Qfj (N : Nat) (p0 : (List GNode)) (p1 : (List Int)) : Option (List Int) :=
  (Qds N p1).bind fun _ =>
  Qcg (fun y5 =>
    chk (decide (p1.length ≤ y5.length)) <|
    some (y5.take p1.length)) fun k6 : (List Int) → Option (List Int) =>
  (Qcd N p0).bind fun _ =>
  (Qcc N p0).bind fun q10 =>
  Qcx N p0 p1 k6 q10 p1
def z50_2 (p1 : (List Int)) : Slot := .own 1 ((p1 : List Int).map Qab)
def z50_4 : AV := .fn (.func 159) [] [(.ref 2 1 (0) 0), (.ref 0 1 (0) 0)]
def z50_22 (y5 : (List Int)) (p1 : (List Int)) : AV := .dat 1 ((y5.take p1.length : List Int).map Qab)
def Qhe (p0 : (List GNode)) : AV := .dat 4 ((p0 : List GNode).map Qbc)
def z50_6 : AV := .fn (.func 208) [] [(.ref 4 1 (0) 0)]
def Qkq (p1 : (List Int)) : Slot := .own 1 [[(.own 3 1 (0) (p1.length))]]
def z50_9 : AV := .fn (.func 159) [] [(.ref 0 1 (0) 0), (.ref 4 1 (0) 0)]
def z50_24 (y12 : (List Int)) : Slot := .own 1 ((y12 : List Int).map Qab)
def z50_26 (x25 : (List Int)) : Slot := .own 1 ((x25 : List Int).map Qab)
theorem Qhq (N : Nat) (p0 : (List GNode)) (p1 : (List Int)) (r : (List Int)) (h : Qfj N p0 p1 = some r) : Spec Try.prog 95 [(.dat 4 (p0.map Qbc)), (.dat 1 (p1.map Qab))] [] (.dat 1 ((r : List Int).map Qab)) [] := by
  refine Qah Try.func95 rfl 0 (nle rfl) (fun X φ0 w0 hφ0 hd0 => ?_)
  unfold Qfj at h
  refine Qcf ?_
  refine wx tbk [] trivial ?_
  obtain ⟨x4, hf3, h⟩ := bno h
  refine wx tbk [(1, ⟨[fu 158, (.tmp 8, (.dat 1 ((p1 : List Int).map Qab)))], [(1, .unused)], (.own 1 1 (0) (p1.length)), [(1, (z50_2 p1))], false⟩)] ⟨Qaq (first := []) (cap := []) (vs := [(.dat 1 ((p1 : List Int).map Qab))]) (σr := []) (σr' := [(z50_2 p1)]) (res' := (.own 1 1 (0) (p1.length))) [1] rfl enter158 (Qf8 N p1 _ hf3) rfl (Qcu (rnc (.plain _ (nld Qac _)) rn0)) Qap (slc (Qc6 Qac) Qap) (rnj_own rfl) rfl rfl rfl, trivial⟩ ?_
  refine wx tbk [(0, rp [(.tmp 5, .ref 2 1 0 0), (.tmp 2, .ref 0 1 0 0)] z50_4)] ⟨Qep (fs := []) (cs := [.ref 2 1 0 0, .ref 0 1 0 0]) rfl rfl rfl rfl, trivial⟩ ?_
  obtain ⟨k6, hk_k6, h⟩ := jko h
  refine wjn (τ := (List Int)) (fun t => k6 t = some r) (fun y5 => ⟨mk 19 [(5, .ref 0 1 0 0)], [(.own 1 [[(.own 1 1 (0) (p1.length))]]), (.own 1 ((y5 : List Int).map Qab))]⟩) (fun y5 h => ?_) ?_
  ·subst hk_k6
   refine wx tbk [] trivial ?_
   obtain ⟨hz7, h⟩ := cko h
   refine wmr (mor_fz (n := 19) (l' := [(4, (z50_22 y5 p1))]) 1 [(4, (.own 1 1 (0) (p1.length)))] (by kernel_rfl) (by kernel_rfl) (by kernel_rfl) ⟨rfl, (fz_take hz7), trivial⟩ rfl) ?_
   refine wmr (mto (n := 19) (l' := [(4, (z50_22 y5 p1))]) (own' := []) [(4, (z50_22 y5 p1))] [] [] hφ0 (pc (.rn (.plain _ (nld Qac _))) pn) qn) ?_
   refine Qae ?_
   obtain rfl := osi h
   exact ⟨_, Mor.rfl, Qcm (vs := [(z50_22 y5 p1)]) ⟨rot (by kernel_rfl), trivial⟩ rfl (nld Qac _) (by kernel_rfl) Qbl⟩
  ·skip
   obtain ⟨x9, hf8, h⟩ := bno h
   refine wx tbk [(1, ⟨[fu 160, (.tmp 11, (Qhe p0))], [(4, .unused)], z50_6, [(4, (.own 1 [[(Qhe p0)]]))], false⟩)] ⟨Qaq (first := []) (cap := []) (vs := [(Qhe p0)]) (σr := []) (σr' := [(.own 1 [[(Qhe p0)]])]) (res' := z50_6) [4] rfl enter160 (Qdy N p0 _ hf8) rfl (Qcu (rnc (.plain _ (nld Qby _)) rn0)) Qap (slc (Qaj (rnc (.plain _ (nld Qby _)) rn0)) Qap) (Qal rn0 (rnc (Qi9 rfl) rn0)) rfl rfl rfl, trivial⟩ ?_
   refine Qag ?_
   obtain ⟨q10, hL11, h⟩ := bno h
   refine wmr (mto (n := 19) (l' := [(5, .ref 0 1 0 0), (6, .ref 1 1 0 0), (12, (.fn (.func 208) [] [.ref 2 1 0 0]))]) (own' := [(Qkq p1), (.own 1 [[z50_9]]), (.own 1 [[(Qhe p0)]]), (z50_2 p1), (.own 1 [[(Qhe p0)]])]) [(5, .ref 2 1 0 0), (6, .ref 3 1 0 0), (12, z50_6)] [2, 3, 4, 1, 0] [(.own 1 [[(.own 1 1 (0) (p1.length))]]), (.own 1 [[z50_4]]), (.own 1 [[(Qhe p0)]]), (z50_2 p1), (.own 1 [[(Qhe p0)]])] hφ0 (pc (.rn (rqr rfl)) (pc (.rn (rqr rfl)) (pc (.rn (Qal rn0 (rnc (rqr rfl) rn0))) pn))) (qc (spb (lc (.rn (Qas rfl)) ln)) (qc (spb (lc (.rn (Qal rn0 (rnc (rqr rfl) (rnc (rqr rfl) rn0)))) ln)) (qc (spb (lc (.rn (.plain _ (nld Qby _))) ln)) (qc (spr Qac) (qc (spb (lc (.rn (.plain _ (nld Qby _))) ln)) qn)))))) ?_
   refine awp_rangeA (τ := ((List Int))) (kb := 5) (caps := [.ref 2 1 0 0]) (σr := [(.own 1 [[(Qhe p0)]])]) (encs := fun x => [(.int .i64 (x.1)), (.agg #[(.int .i64 (x.2.Parent)), (.int .i64 (x.2.Loss)), (.int .i64 (x.2.Limit)), (.int .i64 (x.2.Rank))])]) (fun x => [I x.1, (.agg [I x.2.Parent, I x.2.Loss, I x.2.Limit, I x.2.Rank])]) [2] (fun n hn => hφ0 n (Nat.le_trans (nle rfl) hn)) hd0 (Qdx N p0 _ hL11) enter208 (by kernel_rfl) (by kernel_rfl) (Qcu (rnc (Qi9 rfl) rn0)) (slc (Qaj (rnc (.plain _ (nld Qby _)) rn0)) Qap) (by kernel_rfl) (fun _ => rfl) (fun x => ⟨lrf, (Less.unlits [(.int .i64 (x.2.Parent)), (.int .i64 (x.2.Loss)), (.int .i64 (x.2.Limit)), (.int .i64 (x.2.Rank))]), trivial⟩) (nlt_mk (Qk0 (NLt.ref _ _ _ _ (by decide)) (Qk0 (NLt.ref _ _ _ _ (by decide)) (Qk0 (NLt.fn _ _ _ nl0 (nlc (NLt.ref _ _ _ _ (by decide)) nl0)) nlp_nil)))) (fun y12 => [(Qkq p1), (.own 1 [[z50_9]]), .dead, (z50_24 y12), (.own 1 [[(Qhe p0)]])]) (fun _ => rfl) (fun _ => rfl) (fun l t => Qcx N p0 p1 k6 l t = some r) (p1) h (by kernel_rfl) ?_ ?_
   ·intro l17 o18 X21 φ22 w23 hφ20 x15 q16 y12 h
    rw [Qcx] at h
    refine wx1 tbk [] trivial ?_
    refine ⟨by kernel_rfl, fun o19 => ?_⟩
    refine Qag ?_
    obtain ⟨x25, hf24, h⟩ := bno h
    refine wx1 tbk [(2, ⟨[(.tmp 15, z50_9), (.tmp 16, I x15.1)], [(0, (Qkq p1)), (4, (.own 1 [[(Qhe p0)]])), (3, (z50_24 y12))], (.tup []), [(0, (Qkq p1)), (4, (.own 1 [[(Qhe p0)]])), (3, (z50_26 x25))], false⟩)] ⟨Qaq (first := []) (cap := [.ref 0 1 0 0, .ref 4 1 0 0]) (vs := [I x15.1]) (σr := [(Qkq p1), (.own 1 [[(Qhe p0)]]), (z50_24 y12)]) (σr' := [(Qkq p1), (.own 1 [[(Qhe p0)]]), (z50_26 x25)]) (res' := (.tup [])) [0, 4, 3] rfl enter159 (Qgq N x15.1 p1.length p0 y12 _ hf24) rfl (Qcu (rnc (.plain _ nll) (rnc (Qba rfl) (rnc (Qba rfl) rn0)))) (slc (Qaj (rnc (Qe6 rfl) rn0)) (slc (Qaj (rnc (.plain _ (nld Qby _)) rn0)) (slc (Qc6 Qac) Qap))) (slc (Qaj (rnc (rnj_own rfl) rn0)) (slc (Qaj (rnc (.plain _ (nld Qby _)) rn0)) (slc (Qc6 Qac) Qap))) (.plain _ (NLt.tup _ nl0)) rfl rfl rfl, trivial⟩ ?_
    refine bln ?_
    exact ⟨(x25), h, ren_to (own' := [(Qkq p1), (.own 1 [[z50_9]]), .dead, (z50_26 x25), (.own 1 [[(Qhe p0)]]), (.far (farL l17 o19))]) [0, 1, 2, 3, 4, 5] [(Qkq p1), (.own 1 [[z50_9]]), .dead, (z50_26 x25), (.own 1 [[(Qhe p0)]]), (.far (farL l17 o19))] (by kernel_rfl) (by kernel_rfl) ⟨(spb (lc (.rn (Qas rfl)) ln)), (spb (lc (.rn (Qal rn0 (rnc (rqr rfl) (rnc (rqr rfl) rn0)))) ln)), .dead, (spr Qac), (spb (lc (.rn (.plain _ (nld Qby _))) ln)), .far _, trivial⟩⟩
   ·intro y12 h
    rw [Qcx] at h
    refine bln ?_
    refine thn ?_
    exact ⟨(y12), h, (mto (n := 19) [(5, .ref 0 1 0 0)] [0, 3] [(Qkq p1), (z50_24 y12)] hφ0 (pc (.rn (rqr rfl)) pn) (qc (spb (lc (.rn (Qas rfl)) ln)) (qc (spr Qac) qn)))⟩
def Qct (N : Nat) (p0 : (List GNode)) (k1 : Unit → Option Int) (p1 : (List Int)) : Nat → Int → Option Int
  | 0, _ => none
  | n4 + 1, y2 =>
    bif (decide (y2 < (p1.length : Int))) then
     (getI p1 y2).bind fun x6 =>
     bif (decide (y2 > 0)) then
      (getI p0 y2).bind fun x11 =>
      bif (decide (x6 > x11.Limit)) then
       some y2
      else
       Qct N p0 k1 p1 n4 (w64 (y2 + 1))
     else
      Qct N p0 k1 p1 n4 (w64 (y2 + 1))
    else
     k1 ()
def Qfz (N : Nat) (p0 : (List GNode)) (p1 : (List Int)) : Option Int :=
  Qcg (fun _ =>
    some (-1)) fun k1 : Unit → Option Int =>
  Qct N p0 k1 p1 N 0
def z55_0 (p1 : (List Int)) : AV := .dat 1 ((p1 : List Int).map Qab)
def z55_1 (p0 : (List GNode)) : AV := .dat 4 ((p0 : List GNode).map Qbc)
theorem Qh5 (N : Nat) (p0 : (List GNode)) (p1 : (List Int)) (r : Int) (h : Qfz N p0 p1 = some r) : Spec Try.prog 96 [(.dat 4 (p0.map Qbc)), (.dat 1 (p1.map Qab))] [] (I r) [] := by
  refine Qah Try.func96 rfl 0 (nle rfl) (fun X φ0 w0 hφ0 hd0 => ?_)
  unfold Qfz at h
  refine wx tbk [] trivial ?_
  obtain ⟨k1, hk_k1, h⟩ := jko h
  refine wjn (τ := Unit) (fun t => k1 t = some r) (fun _ => ⟨mk 27 [], []⟩) (fun t h => ?_) ?_
  ·subst hk_k1
   refine wx tbk [] trivial ?_
   refine Qae ?_
   obtain rfl := osi h
   exact fend ⟨[(I ((-1)))], ⟨rot (by kernel_rfl), trivial⟩, rfl⟩ nll
  ·skip
   refine wx tbk [(1, rp [(.tmp 7, (z55_0 p1))] (I ((p1.length : Int))))] ⟨alm (c := Qab) (l := p1) (aln rfl Try.underlying22 rfl), trivial⟩ ?_
   refine Qag ?_
   refine wmr (mto (n := 27) (l' := [(0, (z55_1 p0)), (7, (z55_0 p1)), (8, (I ((p1.length : Int)))), (9, I 0)]) (own' := []) [(0, (z55_1 p0)), (7, (z55_0 p1)), (8, (I ((p1.length : Int)))), (9, I 0)] [] [] hφ0 (pc (.rn (.plain _ (nld Qby _))) (pc (.rn (.plain _ (nld Qac _))) (pc rwl (pc rwl pn)))) qn) ?_
   refine Qca (τ := Int) (fun n t => Qct N p0 k1 p1 n t = some r) (fun y2 => ⟨mk 27 [(0, (z55_1 p0)), (7, (z55_0 p1)), (8, (I ((p1.length : Int)))), (9, I y2)], []⟩) (fun t h => by rw [Qct] at h; cases h) (fun n4 ih y2 h => ?_) N (0) h
   rw [Qct] at h
   skip
   refine wx tbk [] trivial ?_
   refine wsq ?_
   rcases bft ((decide (y2 < (p1.length : Int)))) with hc5 | hc5
   ·replace h := Qaw hc5 h
    refine wft hc5 (by kernel_rfl) ?_
    refine Qak ?_
    refine thn ?_
    refine wsq ?_
    refine Qag ?_
    obtain ⟨x6, hg7, h⟩ := bno h
    obtain ⟨hi8, hj9⟩ := gsm hg7
    refine wx tbk [(1, rp [(.tmp 7, (z55_0 p1)), (.tmp 9, I y2)] (.dptr (Qab (x6)) 0))] ⟨aid rfl Try.underlying22 ti3 rfl rfl hi8 (mgt Qab hj9) rfl, trivial⟩ ?_
    rcases bft ((decide (y2 > 0))) with hb10 | hb10
    ·replace h := Qaw hb10 h
     obtain ⟨x11, hg12, h⟩ := bno h
     obtain ⟨hi13, hj14⟩ := gsm hg12
     refine wx tbk [(2, rp [(.tmp 15, (B ((decide (y2 > 0)))))] (B true)), (6, rp [(.tmp 16, B true), (.tmp 18, (z55_1 p0)), (.tmp 19, I y2)] (.dptr (Qbc (x11)) 0))] ⟨asb hb10 (amv rfl), ag_ (aid rfl Try.underlying129 Qhl rfl rfl hi13 (mgt Qbc hj14) rfl), trivial⟩ ?_
     rcases bft ((decide (x6 > x11.Limit))) with hc15 | hc15
     ·replace h := Qaw hc15 h
      refine wft hc15 (by kernel_rfl) ?_
      refine wx tbk [] trivial ?_
      refine Qae ?_
      refine Qao ?_
      refine Qaf ?_
      refine Qaf ?_
      refine Qao ?_
      refine Qaf ?_
      obtain rfl := osi h
      exact fend ⟨[I y2], ⟨rot (by kernel_rfl), trivial⟩, rfl⟩ nll
     ·replace h := Qax hc15 h
      refine wfn hc15 (by kernel_rfl) ?_
      refine Qak ?_
      refine bln ?_
      refine thn ?_
      refine wx1 tbk [] trivial ?_
      refine thn ?_
      exact arm (mto (n := 27) [(0, (z55_1 p0)), (7, (z55_0 p1)), (8, (I ((p1.length : Int)))), (9, (I (w64 (y2 + 1))))] [] [] hφ0 (pc (.rn (.plain _ (nld Qby _))) (pc (.rn (.plain _ (nld Qac _))) (pc rwl (pc rwl pn)))) qn) (ih (w64 (y2 + 1)) h)
    ·replace h := Qax hb10 h
     refine wx tbk [(2, rp [(.tmp 15, (B ((decide (y2 > 0)))))] (B false))] ⟨asb hb10 (amv rfl), trivial⟩ ?_
     refine Qeb (by kernel_rfl) ?_
     refine Qak ?_
     refine bln ?_
     refine thn ?_
     refine wx1 tbk [] trivial ?_
     refine thn ?_
     exact arm (mto (n := 27) [(0, (z55_1 p0)), (7, (z55_0 p1)), (8, (I ((p1.length : Int)))), (9, (I (w64 (y2 + 1))))] [] [] hφ0 (pc (.rn (.plain _ (nld Qby _))) (pc (.rn (.plain _ (nld Qac _))) (pc rwl (pc rwl pn)))) qn) (ih (w64 (y2 + 1)) h)
   ·replace h := Qax hc5 h
    refine wfn hc5 (by kernel_rfl) ?_
    refine Qbk ?_
    refine Qav ?_
    refine Qav ?_
    refine Qbj rfl ?_
    refine thn ?_
    exact ⟨(), h, (mto (n := 27) [] [] [] hφ0 pn qn)⟩
def Qhr (N : Nat) (p0 : (List GNode)) (p1 : (List Int)) : Option ((List Int) × Int × Int) :=
  (Qig N p0 p1).bind fun x2 =>
  bif (x2 != 0) then
   some ([], 0, x2)
  else
   (Qfj N p0 p1).bind fun x5 =>
   (Qfz N p0 x5).bind fun x7 =>
   bif (decide (x7 ≥ 0)) then
    some ([], x7, 11)
   else
    some (x5, 0, 0)
def z42_0 (p0 : (List GNode)) : AV := .dat 4 ((p0 : List GNode).map Qbc)
def z42_1 (p1 : (List Int)) : AV := .dat 1 ((p1 : List Int).map Qab)
def z42_3 : AV := .dat 1 (([] : List Int).map Qab)
def z42_2 (x5 : (List Int)) : AV := .dat 1 ((x5 : List Int).map Qab)
theorem Qjz (N : Nat) (p0 : (List GNode)) (p1 : (List Int)) (r : ((List Int) × Int × Int)) (h : Qhr N p0 p1 = some r) : Spec Try.prog 43 [(.dat 4 (p0.map Qbc)), (.dat 1 (p1.map Qab))] [] (.tup [(.dat 1 (r.1.map Qab)), (I r.2.1), (I r.2.2)]) [] := by
  refine Qah Try.func43 rfl 0 (nle rfl) (fun X φ0 w0 hφ0 hd0 => ?_)
  unfold Qhr at h
  refine wx tbk [] trivial ?_
  refine wsq ?_
  obtain ⟨x2, hf1, h⟩ := bno h
  refine wx tbk [(2, rp [fu 94, (.tmp 10, (z42_0 p0)), (.tmp 11, (z42_1 p1))] (I x2))] ⟨apc (first := []) (cap := []) (vs := [(z42_0 p0), (z42_1 p1)]) rfl enter94 (Qkt N p0 p1 _ hf1) rfl rfl (nlc (nld Qby _) (nlc (nld Qac _) nl0)) nll rfl, trivial⟩ ?_
  refine wx tbk [] trivial ?_
  rcases bft ((x2 != 0)) with hc3 | hc3
  ·replace h := Qaw hc3 h
   refine wft hc3 (by kernel_rfl) ?_
   refine wx tbk [] trivial ?_
   refine Qae ?_
   refine Qaf ?_
   obtain rfl := osi h
   exact fend ⟨[z42_3, I 0, I x2], ⟨Qfq (v := nilS) (rot (by kernel_rfl)) Less.nil, rot (by kernel_rfl), rot (by kernel_rfl), trivial⟩, rfl⟩ (NLt.tup _ (nlc (nld Qac _) (nlc nll (nlc nll nl0))))
  ·replace h := Qax hc3 h
   refine wfn hc3 (by kernel_rfl) ?_
   refine Qak ?_
   refine thn ?_
   obtain ⟨x5, hf4, h⟩ := bno h
   refine wx tbk [(2, rp [fu 95, (.tmp 16, (z42_0 p0)), (.tmp 17, (z42_1 p1))] (z42_2 x5))] ⟨apc (first := []) (cap := []) (vs := [(z42_0 p0), (z42_1 p1)]) rfl enter95 (Qhq N p0 p1 _ hf4) rfl rfl (nlc (nld Qby _) (nlc (nld Qac _) nl0)) (nld Qac _) rfl, trivial⟩ ?_
   refine wsq ?_
   obtain ⟨x7, hf6, h⟩ := bno h
   refine wx tbk [(2, rp [fu 96, (.tmp 19, (z42_0 p0)), (.tmp 20, (z42_2 x5))] (I x7))] ⟨apc (first := []) (cap := []) (vs := [(z42_0 p0), (z42_2 x5)]) rfl enter96 (Qh5 N p0 x5 _ hf6) rfl rfl (nlc (nld Qby _) (nlc (nld Qac _) nl0)) nll rfl, trivial⟩ ?_
   refine wx tbk [] trivial ?_
   rcases bft ((decide (x7 ≥ 0))) with hc8 | hc8
   ·replace h := Qaw hc8 h
    refine wft hc8 (by kernel_rfl) ?_
    refine wx tbk [] trivial ?_
    refine Qae ?_
    refine Qaf ?_
    obtain rfl := osi h
    exact fend ⟨[z42_3, I x7, I 11], ⟨Qfq (v := nilS) (rot (by kernel_rfl)) Less.nil, rot (by kernel_rfl), rot (by kernel_rfl), trivial⟩, rfl⟩ (NLt.tup _ (nlc (nld Qac _) (nlc nll (nlc nll nl0))))
   ·replace h := Qax hc8 h
    refine wfn hc8 (by kernel_rfl) ?_
    refine Qak ?_
    refine thn ?_
    refine wx tbk [] trivial ?_
    refine Qae ?_
    obtain rfl := osi h
    exact fend ⟨[(z42_2 x5), I 0, I 0], ⟨rot (by kernel_rfl), rot (by kernel_rfl), rot (by kernel_rfl), trivial⟩, rfl⟩ (NLt.tup _ (nlc (nld Qac _) (nlc nll (nlc nll nl0))))
def Qd8 (N : Nat) : Option Bool :=
  (Qhr N ([(⟨(-1), 0, 0, 0⟩ : GNode)]) ([9])).bind fun x2 =>
  bif (x2.2.2 == 0) then
   bif ((x2.1.length : Int) == 1) then
    (getI x2.1 0).bind fun x5 =>
    some (x5 == 9)
   else
    some false
  else
   some false
def z56_0 : AV := .agg [(I ((-1))), (I (0)), (I (0)), (I (0))]
def z56_1 : AV := .dat 4 (([(⟨(-1), 0, 0, 0⟩ : GNode)] : List GNode).map Qbc)
def z56_2 : AV := .dat 1 (([9] : List Int).map Qab)
def z56_3 (x2 : ((List Int) × Int × Int)) : AV := .dat 1 ((x2.1 : List Int).map Qab)
theorem Qd3 (N : Nat) (r : Bool) (h : Qd8 N = some r) : Spec Try.prog 8 [] [] (B r) [] := by
  refine Qah Try.func8 rfl 0 (nle rfl) (fun X φ0 w0 hφ0 hd0 => ?_)
  unfold Qd8 at h
  refine wx tbk [] trivial ?_
  obtain ⟨x2, hf1, h⟩ := bno h
  refine wx tbk [(0, rp [ci (-1)] z56_0), (1, rp [(.tmp 5, z56_0)] z56_1), (2, rp [ci 9] z56_2), (3, rp [fu 43, (.tmp 6, z56_1), (.tmp 7, z56_2)] (.tup [(z56_3 x2), I x2.2.1, I x2.2.2]))] ⟨Qhx (vs := [(I ((-1)))]) rfl ts127 tz127 rfl (by rfl) rfl, Qdg (vs := [z56_0]) rfl Try.underlying129 Qhl tz127 rfl (by decide) rfl (by decide) (by rfl) (by rfl) (by rfl) rfl, Qdg (vs := [I 9]) rfl Try.underlying22 ti3 tz3 rfl (by decide) rfl (by decide) (by rfl) (by rfl) (by rfl) rfl, apc (first := []) (cap := []) (vs := [z56_1, z56_2]) rfl enter43 (Qjz N ([(⟨(-1), 0, 0, 0⟩ : GNode)]) ([9]) _ hf1) rfl rfl (nlc (nld Qby _) (nlc (nld Qac _) nl0)) (NLt.tup _ (nlc (nld Qac _) (nlc nll (nlc nll nl0)))) rfl, trivial⟩ ?_
  rcases bft ((x2.2.2 == 0)) with hb3 | hb3
  ·replace h := Qaw hb3 h
   rcases bft (((x2.1.length : Int) == 1)) with hb4 | hb4
   ·replace h := Qaw hb4 h
    obtain ⟨x5, hg6, h⟩ := bno h
    obtain ⟨hi7, hj8⟩ := gsm hg6
    refine wx tbk [(2, rp [(.tmp 13, (B ((x2.2.2 == 0))))] (B true)), (4, rp [(.tmp 14, B true), (.tmp 15, (z56_3 x2))] (I ((x2.1.length : Int)))), (7, rp [(.tmp 18, (B (((x2.1.length : Int) == 1))))] (B true)), (9, rp [(.tmp 19, B true), (.tmp 20, (z56_3 x2)), ci 0] (.dptr (Qab (x5)) 0))] ⟨asb hb3 (amv rfl), ag_ (alm (c := Qab) (l := x2.1) (aln rfl Try.underlying22 rfl)), asb hb4 (amv rfl), ag_ (aid rfl Try.underlying22 ti3 rfl rfl hi7 (mgt Qab hj8) rfl), trivial⟩ ?_
    refine Qae ?_
    obtain rfl := osi h
    exact fend ⟨[(B ((x5 == 9)))], ⟨rot (by kernel_rfl), trivial⟩, rfl⟩ nll
   ·replace h := Qax hb4 h
    refine wx tbk [(2, rp [(.tmp 13, (B ((x2.2.2 == 0))))] (B true)), (4, rp [(.tmp 14, B true), (.tmp 15, (z56_3 x2))] (I ((x2.1.length : Int)))), (7, rp [(.tmp 18, (B (((x2.1.length : Int) == 1))))] (B false))] ⟨asb hb3 (amv rfl), ag_ (alm (c := Qab) (l := x2.1) (aln rfl Try.underlying22 rfl)), asb hb4 (amv rfl), trivial⟩ ?_
    refine Qae ?_
    obtain rfl := osi h
    exact fend ⟨[B false], ⟨rot (by kernel_rfl), trivial⟩, rfl⟩ nll
  ·replace h := Qax hb3 h
   refine wx tbk [(2, rp [(.tmp 13, (B ((x2.2.2 == 0))))] (B false))] ⟨asb hb3 (amv rfl), trivial⟩ ?_
   refine Qae ?_
   obtain rfl := osi h
   exact fend ⟨[B false], ⟨rot (by kernel_rfl), trivial⟩, rfl⟩ nll
end Go.Proofs.Ytflmombnmnblnaa
