/-
  Functions of the program: what they compute, as plain functions, and that they do. No conditions.
-/
import Derived.Test.YtgdepcgbjjgnfaaX5
namespace Go.Proofs.Ytgdepcgbjjgnfaa
open Go.RowKit
def Qcf (N : Nat) (k7 : Unit → Option Bool) (x8 : GHour) : Nat → Int → Option Bool
  | 0, _ => none
  | n15 + 1, y13 =>
    bif (decide (y13 < (x8.Stairs.length : Int))) then
     (getI x8.Stairs y13).bind fun x17 =>
     (Qfs N x17.Amount 1 1000000000).bind fun x22 =>
     bif (!x22) then
      some false
     else
      (Qfs N x17.Price 0 1000).bind fun x25 =>
      bif (!x25) then
       some false
      else
       bif (decide (y13 > 0)) then
        (getI x8.Stairs (w64 (y13 - 1))).bind fun x28 =>
        bif (decide (x17.Price ≤ x28.Price)) then
         some false
        else
         Qcf N k7 x8 n15 (w64 (y13 + 1))
       else
        Qcf N k7 x8 n15 (w64 (y13 + 1))
    else
     k7 ()
def Qcv (N : Nat) (p0 : GDay) (k2 : Unit → Option Bool) : Nat → Int → Option Bool
  | 0, _ => none
  | n5 + 1, y3 =>
    bif (decide (y3 < (p0.Hours.length : Int))) then
     Qcl (fun _ =>
       Qcv N p0 k2 n5 (w64 (y3 + 1))) fun k7 : Unit → Option Bool =>
     (getI p0.Hours y3).bind fun x8 =>
     Qcl (fun _ =>
       Qcf N k7 x8 N 0) fun k12 : Unit → Option Bool =>
     (Qfs N x8.Use 0 1000000000).bind fun x34 =>
     bif (!x34) then
      some false
     else
      bif (decide ((x8.Stairs.length : Int) > 6)) then
       some false
      else
       k12 ()
    else
     k2 ()
def Qe8 (N : Nat) (p0 : GDay) : Option Bool :=
  Qcl (fun _ =>
    Qcl (fun _ =>
      some true) fun k2 : Unit → Option Bool =>
    Qcv N p0 k2 N 0) fun k1 : Unit → Option Bool =>
  (Qfs N p0.Tank 0 1000000000).bind fun x38 =>
  bif (!x38) then
   some false
  else
   (Qfs N p0.Start 0 p0.Tank).bind fun x41 =>
   bif (!x41) then
    some false
   else
    bif (decide ((p0.Hours.length : Int) < 1)) then
     some false
    else
     bif (decide ((p0.Hours.length : Int) > 24)) then
      some false
     else
      k1 ()
def Qs3 (p0 : GDay) : AV := .dat 2 ((p0.Hours : List GHour).map Qaf)
def Qja (p0 : GDay) : Slot := .own 3 [[(I (p0.Tank)), (I (p0.Start)), (Qs3 p0)]]
def Qo7 (x8 : GHour) : AV := .dat 2 ((x8.Stairs : List GStair).map Qak)
def Qlb (x8 : GHour) : Slot := .own 2 [[(I (x8.Use)), (Qo7 x8)]]
set_option maxRecDepth 100000 in
set_option maxHeartbeats 4000000 in
theorem Qj0 (N : Nat) (p0 : GDay) (r : Bool) (h : Qe8 N p0 = some r) : Spec Try.prog 32 [(.agg (Qio p0))] [] (B r) [] := by
  refine Qal Try.func32 rfl 0 (nle rfl) (fun X φ0 w0 hφ0 => ?_)
  unfold Qe8 at h
  refine wx tbk [] trivial ?_
  obtain ⟨k1, hk_k1, h⟩ := jko h
  refine wjn (τ := Unit) (fun t => k1 t = some r) (fun _ => ⟨mk 91 [(1, .ref 0 3 0 0)], [(Qja p0)]⟩) (fun t h => ?_) ?_
  ·subst hk_k1
   obtain ⟨k2, hk_k2, h⟩ := jko h
   refine wjn (τ := Unit) (fun t => k2 t = some r) (fun _ => ⟨mk 91 [], []⟩) (fun t h => ?_) ?_
   ·subst hk_k2
    refine wx tbk [] trivial ?_
    refine Qai ?_
    obtain rfl := osi h
    exact fend ⟨[B true], ⟨rot (by kernel_rfl), trivial⟩, rfl⟩ nll
   ·skip
    refine wx tbk [] trivial ?_
    refine Qag ?_
    refine wmr (mto (n := 91) (l' := [(1, .ref 0 3 0 0), (3, I 0)]) (own' := [(Qja p0)]) [(1, .ref 0 3 0 0), (3, I 0)] [0] [(Qja p0)] hφ0 (pc (.rn (rqr rfl)) (pc rwl pn)) (qc (spb (lc rwl (lc rwl (lc (.rn (.plain _ (nld Qac _))) ln)))) qn)) ?_
    refine Qcb (τ := Int) (fun n t => Qcv N p0 k2 n t = some r) (fun y3 => ⟨mk 91 [(1, .ref 0 3 0 0), (3, I y3)], [(Qja p0)]⟩) (fun t h => by rw [Qcv] at h; cases h) (fun n5 ih y3 h => ?_) N (0) h
    rw [Qcv] at h
    skip
    refine wsq ?_
    refine wx tbk [(3, rp [(.tmp 33, (Qs3 p0))] (I ((p0.Hours.length : Int))))] ⟨alm (c := Qaf) (l := p0.Hours) (aln rfl Try.underlying39 rfl), trivial⟩ ?_
    rcases bft ((decide (y3 < (p0.Hours.length : Int)))) with hc6 | hc6
    ·replace h := Qaw hc6 h
     refine wft hc6 (by kernel_rfl) ?_
     refine Qah ?_
     refine thn ?_
     obtain ⟨k7, hk_k7, h⟩ := jko h
     refine wjn (τ := Unit) (fun t => k7 t = some r) (fun _ => ⟨mk 91 [(1, .ref 0 3 0 0), (3, I y3)], [(Qja p0)]⟩) (fun t h => ?_) ?_
     ·subst hk_k7
      refine wx1 tbk [] trivial ?_
      refine thn ?_
      exact arm (mto (n := 91) [(1, .ref 0 3 0 0), (3, (I (w64 (y3 + 1))))] [0] [(Qja p0)] hφ0 (pc (.rn (rqr rfl)) (pc rwl pn)) (qc (spb (lc rwl (lc rwl (lc (.rn (.plain _ (nld Qac _))) ln)))) qn)) (ih (w64 (y3 + 1)) h)
     ·skip
      refine Qag ?_
      obtain ⟨x8, hg9, h⟩ := bno h
      obtain ⟨hi10, hj11⟩ := gsm hg9
      refine wx tbk [(3, rp [(.tmp 39, (Qs3 p0)), (.tmp 40, I y3)] (.dptr (Qaf (x8)) 0))] ⟨aid rfl Try.underlying39 Qn8 rfl rfl hi10 (mgt Qaf hj11) rfl, trivial⟩ ?_
      obtain ⟨k12, hk_k12, h⟩ := jko h
      refine wjn (τ := Unit) (fun t => k12 t = some r) (fun _ => ⟨mk 91 [(1, .ref 0 3 0 0), (3, I y3), (4, .ref 1 2 0 0)], [(Qja p0), (Qlb x8)]⟩) (fun t h => ?_) ?_
      ·subst hk_k12
       refine wx tbk [] trivial ?_
       refine Qag ?_
       refine wmr (mto (n := 91) (l' := [(1, .ref 0 3 0 0), (3, I y3), (4, .ref 1 2 0 0), (5, I 0)]) (own' := [(Qja p0), (Qlb x8)]) [(1, .ref 0 3 0 0), (3, I y3), (4, .ref 1 2 0 0), (5, I 0)] [0, 1] [(Qja p0), (Qlb x8)] hφ0 (pc (.rn (rqr rfl)) (pc rwl (pc (.rn (rqr rfl)) (pc rwl pn)))) (qc (spb (lc rwl (lc rwl (lc (.rn (.plain _ (nld Qac _))) ln)))) (qc (spb (lc rwl (lc (.rn (.plain _ (nld Qa5 _))) ln))) qn))) ?_
       refine Qcb (τ := Int) (fun n t => Qcf N k7 x8 n t = some r) (fun y13 => ⟨mk 91 [(1, .ref 0 3 0 0), (3, I y3), (4, .ref 1 2 0 0), (5, I y13)], [(Qja p0), (Qlb x8)]⟩) (fun t h => by rw [Qcf] at h; cases h) (fun n15 ih y13 h => ?_) N (0) h
       rw [Qcf] at h
       skip
       refine wsq ?_
       refine wx tbk [(3, rp [(.tmp 55, (Qo7 x8))] (I ((x8.Stairs.length : Int))))] ⟨alm (c := Qak) (l := x8.Stairs) (aln rfl Try.underlying145 rfl), trivial⟩ ?_
       rcases bft ((decide (y13 < (x8.Stairs.length : Int)))) with hc16 | hc16
       ·replace h := Qaw hc16 h
        refine wft hc16 (by kernel_rfl) ?_
        refine Qah ?_
        refine thn ?_
        refine wsq ?_
        refine Qag ?_
        obtain ⟨x17, hg18, h⟩ := bno h
        obtain ⟨hi19, hj20⟩ := gsm hg18
        refine wx tbk [(3, rp [(.tmp 61, (Qo7 x8)), (.tmp 62, I y13)] (.dptr (Qak (x17)) 0))] ⟨aid rfl Try.underlying145 Qu6 rfl rfl hi19 (mgt Qak hj20) rfl, trivial⟩ ?_
        obtain ⟨x22, hf21, h⟩ := bno h
        rcases bft ((!x22)) with hb23 | hb23
        ·replace h := Qaw hb23 h
         refine wxd tbk [(2, rp [fu 27, (.tmp 66, I x17.Amount), ci 1, ci 1000000000] (B x22)), (4, rp [(.tmp 68, (B ((!x22))))] (B true))] ⟨apc (first := []) (cap := []) (vs := [I x17.Amount, I 1, I 1000000000]) rfl Qfe (Qcq N x17.Amount 1 1000000000 _ hf21) rfl rfl (nlc nll (nlc nll (nlc nll nl0))) nll rfl, asb hb23 (amv rfl), trivial⟩ ?_
         refine Qcz (by kernel_rfl) ?_
         refine wx tbk [] trivial ?_
         refine Qai ?_
         refine Qa0 ?_
         refine Qaj ?_
         refine Qaj ?_
         refine Qa0 ?_
         refine Qa0 ?_
         refine Qaj ?_
         refine Qaj ?_
         refine Qa0 ?_
         refine Qaj ?_
         obtain rfl := osi h
         exact fend ⟨[B false], ⟨rot (by kernel_rfl), trivial⟩, rfl⟩ nll
        ·replace h := Qax hb23 h
         obtain ⟨x25, hf24, h⟩ := bno h
         rcases bft ((!x25)) with hb26 | hb26
         ·replace h := Qaw hb26 h
          refine wxd tbk [(2, rp [fu 27, (.tmp 66, I x17.Amount), ci 1, ci 1000000000] (B x22)), (4, rp [(.tmp 68, (B ((!x22))))] (B false)), (7, rp [(.tmp 69, B false), fu 27, (.tmp 71, I x17.Price), ci 0, ci 1000] (B x25)), (10, rp [(.tmp 74, (B ((!x25))))] (B true))] ⟨apc (first := []) (cap := []) (vs := [I x17.Amount, I 1, I 1000000000]) rfl Qfe (Qcq N x17.Amount 1 1000000000 _ hf21) rfl rfl (nlc nll (nlc nll (nlc nll nl0))) nll rfl, asb hb23 (amv rfl), ag_ (apc (first := []) (cap := []) (vs := [I x17.Price, I 0, I 1000]) rfl Qfe (Qcq N x17.Price 0 1000 _ hf24) rfl rfl (nlc nll (nlc nll (nlc nll nl0))) nll rfl), asb hb26 (amv rfl), trivial⟩ ?_
          refine Qcz (by kernel_rfl) ?_
          refine wx tbk [] trivial ?_
          refine Qai ?_
          refine Qa0 ?_
          refine Qaj ?_
          refine Qaj ?_
          refine Qa0 ?_
          refine Qa0 ?_
          refine Qaj ?_
          refine Qaj ?_
          refine Qa0 ?_
          refine Qaj ?_
          obtain rfl := osi h
          exact fend ⟨[B false], ⟨rot (by kernel_rfl), trivial⟩, rfl⟩ nll
         ·replace h := Qax hb26 h
          rcases bft ((decide (y13 > 0))) with hb27 | hb27
          ·replace h := Qaw hb27 h
           obtain ⟨x28, hg29, h⟩ := bno h
           obtain ⟨hi30, hj31⟩ := gsm hg29
           refine wxd tbk [(2, rp [fu 27, (.tmp 66, I x17.Amount), ci 1, ci 1000000000] (B x22)), (4, rp [(.tmp 68, (B ((!x22))))] (B false)), (7, rp [(.tmp 69, B false), fu 27, (.tmp 71, I x17.Price), ci 0, ci 1000] (B x25)), (10, rp [(.tmp 74, (B ((!x25))))] (B false)), (13, rp [(.tmp 75, B false), (.tmp 77, (B ((decide (y13 > 0)))))] (B true)), (20, rp [(.tmp 78, B true), (.tmp 82, (Qo7 x8)), (.tmp 84, (I (w64 (y13 - 1))))] (.dptr (Qak (x28)) 0))] ⟨apc (first := []) (cap := []) (vs := [I x17.Amount, I 1, I 1000000000]) rfl Qfe (Qcq N x17.Amount 1 1000000000 _ hf21) rfl rfl (nlc nll (nlc nll (nlc nll nl0))) nll rfl, asb hb23 (amv rfl), ag_ (apc (first := []) (cap := []) (vs := [I x17.Price, I 0, I 1000]) rfl Qfe (Qcq N x17.Price 0 1000 _ hf24) rfl rfl (nlc nll (nlc nll (nlc nll nl0))) nll rfl), asb hb26 (amv rfl), asb hb27 (ag_ (amv rfl)), ag_ (aid rfl Try.underlying145 Qu6 rfl rfl hi30 (mgt Qak hj31) rfl), trivial⟩ ?_
           rcases bft ((decide (x17.Price ≤ x28.Price))) with hc32 | hc32
           ·replace h := Qaw hc32 h
            refine wft hc32 (by kernel_rfl) ?_
            refine wx tbk [] trivial ?_
            refine Qai ?_
            refine Qa0 ?_
            refine Qaj ?_
            refine Qaj ?_
            refine Qa0 ?_
            refine Qa0 ?_
            refine Qaj ?_
            refine Qaj ?_
            refine Qa0 ?_
            refine Qaj ?_
            obtain rfl := osi h
            exact fend ⟨[B false], ⟨rot (by kernel_rfl), trivial⟩, rfl⟩ nll
           ·replace h := Qax hc32 h
            refine wfn hc32 (by kernel_rfl) ?_
            refine Qah ?_
            refine bln ?_
            refine thn ?_
            refine wx1 tbk [] trivial ?_
            refine thn ?_
            exact arm (mto (n := 91) [(1, .ref 0 3 0 0), (3, I y3), (4, .ref 1 2 0 0), (5, (I (w64 (y13 + 1))))] [0, 1] [(Qja p0), (Qlb x8)] hφ0 (pc (.rn (rqr rfl)) (pc rwl (pc (.rn (rqr rfl)) (pc rwl pn)))) (qc (spb (lc rwl (lc rwl (lc (.rn (.plain _ (nld Qac _))) ln)))) (qc (spb (lc rwl (lc (.rn (.plain _ (nld Qa5 _))) ln))) qn))) (ih (w64 (y13 + 1)) h)
          ·replace h := Qax hb27 h
           refine wxd tbk [(2, rp [fu 27, (.tmp 66, I x17.Amount), ci 1, ci 1000000000] (B x22)), (4, rp [(.tmp 68, (B ((!x22))))] (B false)), (7, rp [(.tmp 69, B false), fu 27, (.tmp 71, I x17.Price), ci 0, ci 1000] (B x25)), (10, rp [(.tmp 74, (B ((!x25))))] (B false)), (13, rp [(.tmp 75, B false), (.tmp 77, (B ((decide (y13 > 0)))))] (B false))] ⟨apc (first := []) (cap := []) (vs := [I x17.Amount, I 1, I 1000000000]) rfl Qfe (Qcq N x17.Amount 1 1000000000 _ hf21) rfl rfl (nlc nll (nlc nll (nlc nll nl0))) nll rfl, asb hb23 (amv rfl), ag_ (apc (first := []) (cap := []) (vs := [I x17.Price, I 0, I 1000]) rfl Qfe (Qcq N x17.Price 0 1000 _ hf24) rfl rfl (nlc nll (nlc nll (nlc nll nl0))) nll rfl), asb hb26 (amv rfl), asb hb27 (ag_ (amv rfl)), trivial⟩ ?_
           refine Qey (by kernel_rfl) ?_
           refine Qah ?_
           refine bln ?_
           refine thn ?_
           refine wx1 tbk [] trivial ?_
           refine thn ?_
           exact arm (mto (n := 91) [(1, .ref 0 3 0 0), (3, I y3), (4, .ref 1 2 0 0), (5, (I (w64 (y13 + 1))))] [0, 1] [(Qja p0), (Qlb x8)] hφ0 (pc (.rn (rqr rfl)) (pc rwl (pc (.rn (rqr rfl)) (pc rwl pn)))) (qc (spb (lc rwl (lc rwl (lc (.rn (.plain _ (nld Qac _))) ln)))) (qc (spb (lc rwl (lc (.rn (.plain _ (nld Qa5 _))) ln))) qn))) (ih (w64 (y13 + 1)) h)
       ·replace h := Qax hc16 h
        refine wfn hc16 (by kernel_rfl) ?_
        refine Qa4 ?_
        refine Qan ?_
        refine Qan ?_
        refine Qa3 rfl ?_
        refine bln ?_
        refine thn ?_
        exact ⟨(), h, (mto (n := 91) [(1, .ref 0 3 0 0), (3, I y3)] [0] [(Qja p0)] hφ0 (pc (.rn (rqr rfl)) (pc rwl pn)) (qc (spb (lc rwl (lc rwl (lc (.rn (.plain _ (nld Qac _))) ln)))) qn))⟩
      ·skip
       obtain ⟨x34, hf33, h⟩ := bno h
       rcases bft ((!x34)) with hb35 | hb35
       ·replace h := Qaw hb35 h
        refine wx tbk [(2, rp [fu 27, (.tmp 44, I x8.Use), ci 0, ci 1000000000] (B x34)), (4, rp [(.tmp 46, (B ((!x34))))] (B true))] ⟨apc (first := []) (cap := []) (vs := [I x8.Use, I 0, I 1000000000]) rfl Qfe (Qcq N x8.Use 0 1000000000 _ hf33) rfl rfl (nlc nll (nlc nll (nlc nll nl0))) nll rfl, asb hb35 (amv rfl), trivial⟩ ?_
        refine Qcz (by kernel_rfl) ?_
        refine wx tbk [] trivial ?_
        refine Qai ?_
        refine Qaj ?_
        refine Qa0 ?_
        refine Qaj ?_
        refine Qaj ?_
        refine Qa0 ?_
        refine Qaj ?_
        obtain rfl := osi h
        exact fend ⟨[B false], ⟨rot (by kernel_rfl), trivial⟩, rfl⟩ nll
       ·replace h := Qax hb35 h
        refine wx tbk [(2, rp [fu 27, (.tmp 44, I x8.Use), ci 0, ci 1000000000] (B x34)), (4, rp [(.tmp 46, (B ((!x34))))] (B false)), (7, rp [(.tmp 47, B false), (.tmp 49, (Qo7 x8))] (I ((x8.Stairs.length : Int))))] ⟨apc (first := []) (cap := []) (vs := [I x8.Use, I 0, I 1000000000]) rfl Qfe (Qcq N x8.Use 0 1000000000 _ hf33) rfl rfl (nlc nll (nlc nll (nlc nll nl0))) nll rfl, asb hb35 (amv rfl), ag_ (alm (c := Qak) (l := x8.Stairs) (aln rfl Try.underlying145 rfl)), trivial⟩ ?_
        rcases bft ((decide ((x8.Stairs.length : Int) > 6))) with hc36 | hc36
        ·replace h := Qaw hc36 h
         refine wft hc36 (by kernel_rfl) ?_
         refine wx tbk [] trivial ?_
         refine Qai ?_
         refine Qaj ?_
         refine Qa0 ?_
         refine Qaj ?_
         refine Qaj ?_
         refine Qa0 ?_
         refine Qaj ?_
         obtain rfl := osi h
         exact fend ⟨[B false], ⟨rot (by kernel_rfl), trivial⟩, rfl⟩ nll
        ·replace h := Qax hc36 h
         refine wfn hc36 (by kernel_rfl) ?_
         refine Qah ?_
         refine thn ?_
         exact ⟨(), h, (mto (n := 91) [(1, .ref 0 3 0 0), (3, I y3), (4, .ref 1 2 0 0)] [0, 1] [(Qja p0), (Qlb x8)] hφ0 (pc (.rn (rqr rfl)) (pc rwl (pc (.rn (rqr rfl)) pn))) (qc (spb (lc rwl (lc rwl (lc (.rn (.plain _ (nld Qac _))) ln)))) (qc (spb (lc rwl (lc (.rn (.plain _ (nld Qa5 _))) ln))) qn)))⟩
    ·replace h := Qax hc6 h
     refine wfn hc6 (by kernel_rfl) ?_
     refine Qa4 ?_
     refine Qan ?_
     refine Qan ?_
     refine Qa3 rfl ?_
     refine thn ?_
     exact ⟨(), h, (mto (n := 91) [] [] [] hφ0 pn qn)⟩
  ·skip
   obtain ⟨x38, hf37, h⟩ := bno h
   rcases bft ((!x38)) with hb39 | hb39
   ·replace h := Qaw hb39 h
    refine wx tbk [(2, rp [fu 27, (.tmp 8, I p0.Tank), ci 0, ci 1000000000] (B x38)), (4, rp [(.tmp 10, (B ((!x38))))] (B true))] ⟨apc (first := []) (cap := []) (vs := [I p0.Tank, I 0, I 1000000000]) rfl Qfe (Qcq N p0.Tank 0 1000000000 _ hf37) rfl rfl (nlc nll (nlc nll (nlc nll nl0))) nll rfl, asb hb39 (amv rfl), trivial⟩ ?_
    refine Qcz (by kernel_rfl) ?_
    refine wx tbk [] trivial ?_
    refine Qai ?_
    refine Qaj ?_
    obtain rfl := osi h
    exact fend ⟨[B false], ⟨rot (by kernel_rfl), trivial⟩, rfl⟩ nll
   ·replace h := Qax hb39 h
    obtain ⟨x41, hf40, h⟩ := bno h
    rcases bft ((!x41)) with hb42 | hb42
    ·replace h := Qaw hb42 h
     refine wx tbk [(2, rp [fu 27, (.tmp 8, I p0.Tank), ci 0, ci 1000000000] (B x38)), (4, rp [(.tmp 10, (B ((!x38))))] (B false)), (9, rp [(.tmp 11, B false), fu 27, (.tmp 13, I p0.Start), ci 0, (.tmp 15, I p0.Tank)] (B x41)), (12, rp [(.tmp 18, (B ((!x41))))] (B true))] ⟨apc (first := []) (cap := []) (vs := [I p0.Tank, I 0, I 1000000000]) rfl Qfe (Qcq N p0.Tank 0 1000000000 _ hf37) rfl rfl (nlc nll (nlc nll (nlc nll nl0))) nll rfl, asb hb39 (amv rfl), ag_ (apc (first := []) (cap := []) (vs := [I p0.Start, I 0, I p0.Tank]) rfl Qfe (Qcq N p0.Start 0 p0.Tank _ hf40) rfl rfl (nlc nll (nlc nll (nlc nll nl0))) nll rfl), asb hb42 (amv rfl), trivial⟩ ?_
     refine Qcz (by kernel_rfl) ?_
     refine wx tbk [] trivial ?_
     refine Qai ?_
     refine Qaj ?_
     obtain rfl := osi h
     exact fend ⟨[B false], ⟨rot (by kernel_rfl), trivial⟩, rfl⟩ nll
    ·replace h := Qax hb42 h
     rcases bft ((decide ((p0.Hours.length : Int) < 1))) with hb43 | hb43
     ·replace h := Qaw hb43 h
      refine wx tbk [(2, rp [fu 27, (.tmp 8, I p0.Tank), ci 0, ci 1000000000] (B x38)), (4, rp [(.tmp 10, (B ((!x38))))] (B false)), (9, rp [(.tmp 11, B false), fu 27, (.tmp 13, I p0.Start), ci 0, (.tmp 15, I p0.Tank)] (B x41)), (12, rp [(.tmp 18, (B ((!x41))))] (B false)), (15, rp [(.tmp 19, B false), (.tmp 21, (Qs3 p0))] (I ((p0.Hours.length : Int)))), (18, rp [(.tmp 24, (B ((decide ((p0.Hours.length : Int) < 1)))))] (B true))] ⟨apc (first := []) (cap := []) (vs := [I p0.Tank, I 0, I 1000000000]) rfl Qfe (Qcq N p0.Tank 0 1000000000 _ hf37) rfl rfl (nlc nll (nlc nll (nlc nll nl0))) nll rfl, asb hb39 (amv rfl), ag_ (apc (first := []) (cap := []) (vs := [I p0.Start, I 0, I p0.Tank]) rfl Qfe (Qcq N p0.Start 0 p0.Tank _ hf40) rfl rfl (nlc nll (nlc nll (nlc nll nl0))) nll rfl), asb hb42 (amv rfl), ag_ (alm (c := Qaf) (l := p0.Hours) (aln rfl Try.underlying39 rfl)), asb hb43 (amv rfl), trivial⟩ ?_
      refine Qcz (by kernel_rfl) ?_
      refine wx tbk [] trivial ?_
      refine Qai ?_
      refine Qaj ?_
      obtain rfl := osi h
      exact fend ⟨[B false], ⟨rot (by kernel_rfl), trivial⟩, rfl⟩ nll
     ·replace h := Qax hb43 h
      refine wx tbk [(2, rp [fu 27, (.tmp 8, I p0.Tank), ci 0, ci 1000000000] (B x38)), (4, rp [(.tmp 10, (B ((!x38))))] (B false)), (9, rp [(.tmp 11, B false), fu 27, (.tmp 13, I p0.Start), ci 0, (.tmp 15, I p0.Tank)] (B x41)), (12, rp [(.tmp 18, (B ((!x41))))] (B false)), (15, rp [(.tmp 19, B false), (.tmp 21, (Qs3 p0))] (I ((p0.Hours.length : Int)))), (18, rp [(.tmp 24, (B ((decide ((p0.Hours.length : Int) < 1)))))] (B false)), (21, rp [(.tmp 25, B false), (.tmp 27, (Qs3 p0))] (I ((p0.Hours.length : Int))))] ⟨apc (first := []) (cap := []) (vs := [I p0.Tank, I 0, I 1000000000]) rfl Qfe (Qcq N p0.Tank 0 1000000000 _ hf37) rfl rfl (nlc nll (nlc nll (nlc nll nl0))) nll rfl, asb hb39 (amv rfl), ag_ (apc (first := []) (cap := []) (vs := [I p0.Start, I 0, I p0.Tank]) rfl Qfe (Qcq N p0.Start 0 p0.Tank _ hf40) rfl rfl (nlc nll (nlc nll (nlc nll nl0))) nll rfl), asb hb42 (amv rfl), ag_ (alm (c := Qaf) (l := p0.Hours) (aln rfl Try.underlying39 rfl)), asb hb43 (amv rfl), ag_ (alm (c := Qaf) (l := p0.Hours) (aln rfl Try.underlying39 rfl)), trivial⟩ ?_
      rcases bft ((decide ((p0.Hours.length : Int) > 24))) with hc44 | hc44
      ·replace h := Qaw hc44 h
       refine wft hc44 (by kernel_rfl) ?_
       refine wx tbk [] trivial ?_
       refine Qai ?_
       refine Qaj ?_
       obtain rfl := osi h
       exact fend ⟨[B false], ⟨rot (by kernel_rfl), trivial⟩, rfl⟩ nll
      ·replace h := Qax hc44 h
       refine wfn hc44 (by kernel_rfl) ?_
       refine Qah ?_
       refine thn ?_
       exact ⟨(), h, (mto (n := 91) [(1, .ref 0 3 0 0)] [0] [(Qja p0)] hφ0 (pc (.rn (rqr rfl)) pn) (qc (spb (lc rwl (lc rwl (lc (.rn (.plain _ (nld Qac _))) ln)))) qn))⟩
def Qdw (N : Nat) (x11 : GHour) (k17 : (List GHour) × (List GStair) → Option GDay) : Nat → Int → (List GHour) → (List GStair) → Option GDay
  | 0, _, _, _ => none
  | n25 + 1, y19, y20, y21 =>
    bif (decide (y19 < (x11.Stairs.length : Int))) then
     (getI x11.Stairs y19).bind fun x27 =>
     chk (decide ((y21.length + ([x27]).length) * 16 ≤ 140737488355328)) <|
     Qdw N x11 k17 n25 (w64 (y19 + 1)) y20 (y21 ++ ([x27]))
    else
     k17 (y20, y21)
def Qdi (N : Nat) (p0 : GDay) (k2 : (List GHour) → Option GDay) : Nat → Int → (List GHour) → Option GDay
  | 0, _, _ => none
  | n7 + 1, y3, y4 =>
    bif (decide (y3 < (p0.Hours.length : Int))) then
     Qcl (fun y9 =>
       Qdi N p0 k2 n7 (w64 (y3 + 1)) y9) fun k10 : (List GHour) → Option GDay =>
     (getI p0.Hours y3).bind fun x11 =>
     Qcl (fun ⟨y15, y16⟩ =>
       chk (decide ((y15.length + ([(⟨x11.Use, y16⟩ : GHour)]).length) * 32 ≤ 140737488355328)) <|
       k10 (y15 ++ ([(⟨x11.Use, y16⟩ : GHour)]))) fun k17 : (List GHour) × (List GStair) → Option GDay =>
     Qdw N x11 k17 N 0 y4 ([])
    else
     k2 (y4)
def Qgp (N : Nat) (p0 : GDay) : Option GDay :=
  Qcl (fun y1 =>
    some (⟨p0.Tank, p0.Start, y1⟩ : GDay)) fun k2 : (List GHour) → Option GDay =>
  Qdi N p0 k2 N 0 ([])
def Qg5 : Slot := .own 3 [[(I (0)), (I (0)), nilS]]
def Qn4 (y1 : (List GHour)) : AV := .acc 2 62 2 ((y1 : List GHour).map Qaf)
def Qph (p0 : GDay) : AV := .dat 2 ((p0.Hours : List GHour).map Qaf)
def Qh3 (p0 : GDay) : Slot := .own 3 [[(I (p0.Tank)), (I (p0.Start)), (Qph p0)]]
def Qn5 (p0 : GDay) (y4 : (List GHour)) : Slot := .own 3 [[(I (p0.Tank)), (I (p0.Start)), (.acc 3 62 2 ((y4 : List GHour).map Qaf))]]
def Qr5 (y16 : (List GStair)) : AV := .acc 5 64 2 ((y16 : List GStair).map Qak)
def Qxo : AV := .acc 5 64 2 ((([]) : List GStair).map Qak)
def Qxp : AV := .acc 5 64 2 (([] : List GStair).map Qak)
def Qn2 (p0 : GDay) (y20 : (List GHour)) : Slot := .own 3 [[(I (p0.Tank)), (I (p0.Start)), (.acc 4 62 2 ((y20 : List GHour).map Qaf))]]
def Qn3 (y21 : (List GStair)) : AV := .acc 5 64 2 ((y21 : List GStair).map Qak)
def Qn1 (x27 : GStair) : AV := .agg [(I (x27.Amount)), (I (x27.Price))]
set_option maxRecDepth 100000 in
set_option maxHeartbeats 4000000 in
theorem Qj3 (N : Nat) (p0 : GDay) (r : GDay) (h : Qgp N p0 = some r) : Spec Try.prog 31 [(.agg (Qio p0))] [] (.agg (Qio r)) [] := by
  refine Qal Try.func31 rfl 0 (nle rfl) (fun X φ0 w0 hφ0 => ?_)
  unfold Qgp at h
  refine wx tbk [] trivial ?_
  refine wx tbk [(4, rp [(.tmp 9, I p0.Tank), (.tmp 11, I p0.Start)] (.agg [I p0.Tank, I p0.Start, nilS]))] ⟨Qbb (vs := [I p0.Tank, I p0.Start]) rfl ts47 tz47 rfl (by rfl) rfl, trivial⟩ ?_
  obtain ⟨k2, hk_k2, h⟩ := jko h
  refine wjn (τ := (List GHour)) (fun t => k2 t = some r) (fun y1 => ⟨mk 64 [(2, .ref 0 3 0 0), (3, .ref 1 3 0 0)], [Qg5, (.own 3 [[I p0.Tank, I p0.Start, (Qn4 y1)]]), .tok]⟩) (fun y1 h => ?_) ?_
  ·subst hk_k2
   refine wx tbk [] trivial ?_
   refine Qai ?_
   obtain rfl := osi h
   exact fend ⟨[(.agg [I p0.Tank, I p0.Start, (.dat 2 ((y1 : List GHour).map Qaf))])], ⟨Qkk (v := (.agg [I p0.Tank, I p0.Start, (Qn4 y1)])) (Qfb (n := 0) (m := 3) (j := 0) (i := 0) (xs := [[I p0.Tank, I p0.Start, (Qn4 y1)]]) (by kernel_rfl) (by kernel_rfl) ti47 (by decide) rfl (nle rfl) rfl) (Less.agg ⟨lrf, lrf, Less.acc, trivial⟩), trivial⟩, rfl⟩ (NLt.agg _ (nlc nll (nlc nll (nlc (nld Qac _) nl0))))
  ·skip
   refine wx tbk [] trivial ?_
   refine Qag ?_
   refine wmr (Mor.trans (Qoj (n := 3) (ty := 62) (m := 2) (q := 2) (mq := 3) (c := [I p0.Tank, I p0.Start, nilS]) 2 (by kernel_rfl) (by kernel_rfl) (by kernel_rfl) (by decide)) (mto (n := 64) (l' := [(1, .ref 0 3 0 0), (2, .ref 1 3 0 0), (3, .ref 2 3 0 0), (4, I 0)]) (own' := [(Qh3 p0), Qg5, (.own 3 [[I p0.Tank, I p0.Start, (.acc 3 62 2 ((([]) : List GHour).map Qaf))]]), .tok]) [(1, .ref 0 3 0 0), (2, .ref 1 3 0 0), (3, .ref 2 3 0 0), (4, I 0)] [0, 1, 2, 3] [(Qh3 p0), Qg5, (.own 3 [[I p0.Tank, I p0.Start, (.acc 3 62 2 (([] : List GHour).map Qaf))]]), .tok] hφ0 (pc (.rn (rqr rfl)) (pc (.rn (rqr rfl)) (pc (.rn (rqr rfl)) (pc rwl pn)))) (qc (spb (lc rwl (lc rwl (lc (.rn (.plain _ (nld Qac _))) ln)))) (qc (spb (lc rwl (lc rwl (lc rwl ln)))) (qc (spb (lc rwl (lc rwl (lc (.rn (Qf1 rfl (Qer Qac _))) ln)))) (qc .tok qn)))))) ?_
   refine Qcb (τ := Int × (List GHour)) (fun n t => Qdi N p0 k2 n t.1 t.2 = some r) (fun ⟨y3, y4⟩ => ⟨mk 64 [(1, .ref 0 3 0 0), (2, .ref 1 3 0 0), (3, .ref 2 3 0 0), (4, I y3)], [(Qh3 p0), Qg5, (Qn5 p0 y4), .tok]⟩) (fun t h => by rw [Qdi] at h; cases h) (fun n7 ih t h => ?_) N (0, []) h
   obtain ⟨y3, y4⟩ := t
   rw [Qdi] at h
   skip
   refine wsq ?_
   refine wx tbk [(3, rp [(.tmp 15, (Qph p0))] (I ((p0.Hours.length : Int))))] ⟨alm (c := Qaf) (l := p0.Hours) (aln rfl Try.underlying39 rfl), trivial⟩ ?_
   rcases bft ((decide (y3 < (p0.Hours.length : Int)))) with hc8 | hc8
   ·replace h := Qaw hc8 h
    refine wft hc8 (by kernel_rfl) ?_
    refine Qah ?_
    refine thn ?_
    obtain ⟨k10, hk_k10, h⟩ := jko h
    refine wjn (τ := (List GHour)) (fun t => k10 t = some r) (fun y9 => ⟨mk 64 [(1, .ref 0 3 0 0), (2, .ref 1 3 0 0), (3, .ref 2 3 0 0), (4, I y3)], [(Qh3 p0), Qg5, (.own 3 [[I p0.Tank, I p0.Start, (.acc 3 62 2 ((y9 : List GHour).map Qaf))]]), .tok]⟩) (fun y9 h => ?_) ?_
    ·subst hk_k10
     refine wx1 tbk [] trivial ?_
     refine thn ?_
     exact arm (mto (n := 64) [(1, .ref 0 3 0 0), (2, .ref 1 3 0 0), (3, .ref 2 3 0 0), (4, (I (w64 (y3 + 1))))] [0, 1, 2, 3] [(Qh3 p0), Qg5, (.own 3 [[I p0.Tank, I p0.Start, (.acc 3 62 2 ((y9 : List GHour).map Qaf))]]), .tok] hφ0 (pc (.rn (rqr rfl)) (pc (.rn (rqr rfl)) (pc (.rn (rqr rfl)) (pc rwl pn)))) (qc (spb (lc rwl (lc rwl (lc (.rn (.plain _ (nld Qac _))) ln)))) (qc (spb (lc rwl (lc rwl (lc rwl ln)))) (qc (spb (lc rwl (lc rwl (lc (.rn (Qf1 rfl (Qer Qac _))) ln)))) (qc .tok qn))))) (ih (w64 (y3 + 1), y9) h)
    ·skip
     refine Qag ?_
     obtain ⟨x11, hg12, h⟩ := bno h
     obtain ⟨hi13, hj14⟩ := gsm hg12
     refine wx tbk [(3, rp [(.tmp 21, (Qph p0)), (.tmp 22, I y3)] (.dptr (Qaf (x11)) 0)), (6, rp [(.tmp 25, I x11.Use)] (.agg [I x11.Use, nilS]))] ⟨aid rfl Try.underlying39 Qn8 rfl rfl hi13 (mgt Qaf hj14) rfl, Qbb (vs := [I x11.Use]) rfl ts62 tz62 rfl (by rfl) rfl, trivial⟩ ?_
     obtain ⟨k17, hk_k17, h⟩ := jko h
     refine wjn (τ := (List GHour) × (List GStair)) (fun t => k17 t = some r) (fun ⟨y15, y16⟩ => ⟨mk 64 [(1, .ref 0 3 0 0), (2, .ref 1 3 0 0), (3, .ref 2 3 0 0), (4, I y3), (5, .ref 3 2 0 0)], [(Qh3 p0), Qg5, (.own 3 [[I p0.Tank, I p0.Start, (.acc 4 62 2 ((y15 : List GHour).map Qaf))]]), (.own 2 [[I x11.Use, (Qr5 y16)]]), .tok, .tok]⟩) (fun t h => ?_) ?_
     ·subst hk_k17
      obtain ⟨y15, y16⟩ := t
      obtain ⟨ha18, h⟩ := cko h
      refine wx1 tbk [(3, rp [(.tmp 59, (.agg [I x11.Use, (Qr5 y16)]))] (.dat 2 (([(⟨x11.Use, y16⟩ : GHour)] : List GHour).map Qaf))), (4, ⟨[(.tmp 58, (.acc 4 62 2 ((y15 : List GHour).map Qaf))), (.tmp 60, (.dat 2 (([(⟨x11.Use, y16⟩ : GHour)] : List GHour).map Qaf)))], [(4, .tok), (6, .unused)], (.acc 6 62 2 ((y15 ++ ([(⟨x11.Use, y16⟩ : GHour)]) : List GHour).map Qaf)), [(4, .dead), (6, .tok)], false⟩)] ⟨awk (rd' := [(.tmp 59, (.agg [I x11.Use, (.dat 2 ((y16 : List GStair).map Qak))]))]) ⟨rfl, (Less.agg ⟨lrf, Less.acc, trivial⟩), trivial⟩ (Qa6 (vs := [(.agg [I x11.Use, (.dat 2 ((y16 : List GStair).map Qak))])]) rfl Try.underlying45 ti62 tz62 rfl (by decide) rfl (by decide) (by rfl) (by rfl) (by rfl) rfl), Qmj rfl Try.underlying45 te62 (Base.acc _ _) rfl rfl (by rfl) (Qrf Qaf ha18) (Qre Qaf ha18 (by decide)) (Qrd Qaf) rfl rfl, trivial⟩ ?_
      refine bln ?_
      refine thn ?_
      exact ⟨(y15 ++ ([(⟨x11.Use, y16⟩ : GHour)])), h, (mto (n := 64) [(1, .ref 0 3 0 0), (2, .ref 1 3 0 0), (3, .ref 2 3 0 0), (4, I y3)] [0, 1, 2, 6] [(Qh3 p0), Qg5, (.own 3 [[I p0.Tank, I p0.Start, (.acc 6 62 2 ((y15 ++ ([(⟨x11.Use, y16⟩ : GHour)]) : List GHour).map Qaf))]]), .tok] hφ0 (pc (.rn (rqr rfl)) (pc (.rn (rqr rfl)) (pc (.rn (rqr rfl)) (pc rwl pn)))) (qc (spb (lc rwl (lc rwl (lc (.rn (.plain _ (nld Qac _))) ln)))) (qc (spb (lc rwl (lc rwl (lc rwl ln)))) (qc (spb (lc rwl (lc rwl (lc (.rn (Qf1 rfl (Qer Qac _))) ln)))) (qc .tok qn)))))⟩
     ·skip
      refine wx tbk [] trivial ?_
      refine Qag ?_
      refine wmr (Mor.trans (Qoj (n := 5) (ty := 64) (m := 2) (q := 4) (mq := 2) (c := [I x11.Use, nilS]) 1 (by kernel_rfl) (by kernel_rfl) (by kernel_rfl) (by decide)) (mto (n := 64) (l' := [(1, .ref 0 3 0 0), (2, .ref 1 3 0 0), (3, .ref 2 3 0 0), (4, I y3), (5, .ref 3 2 0 0), (6, I 0)]) (own' := [(Qh3 p0), Qg5, (.own 3 [[I p0.Tank, I p0.Start, (.acc 4 62 2 ((y4 : List GHour).map Qaf))]]), (.own 2 [[I x11.Use, Qxo]]), .tok, .tok]) [(1, .ref 0 3 0 0), (2, .ref 1 3 0 0), (3, .ref 2 3 0 0), (4, I y3), (5, .ref 4 2 0 0), (6, I 0)] [0, 1, 2, 4, 3, 5] [(Qh3 p0), Qg5, (Qn5 p0 y4), (.own 2 [[I x11.Use, Qxp]]), .tok, .tok] hφ0 (pc (.rn (rqr rfl)) (pc (.rn (rqr rfl)) (pc (.rn (rqr rfl)) (pc rwl (pc (.rn (rqr rfl)) (pc rwl pn)))))) (qc (spb (lc rwl (lc rwl (lc (.rn (.plain _ (nld Qac _))) ln)))) (qc (spb (lc rwl (lc rwl (lc rwl ln)))) (qc (spb (lc rwl (lc rwl (lc (.rn (Qf1 rfl (Qer Qac _))) ln)))) (qc (spb (lc rwl (lc (.rn (Qf1 rfl (Qer Qa5 _))) ln))) (qc .tok (qc .tok qn)))))))) ?_
      refine Qcb (τ := Int × (List GHour) × (List GStair)) (fun n t => Qdw N x11 k17 n t.1 t.2.1 t.2.2 = some r) (fun ⟨y19, y20, y21⟩ => ⟨mk 64 [(1, .ref 0 3 0 0), (2, .ref 1 3 0 0), (3, .ref 2 3 0 0), (4, I y3), (5, .ref 3 2 0 0), (6, I y19)], [(Qh3 p0), Qg5, (Qn2 p0 y20), (.own 2 [[I x11.Use, (Qn3 y21)]]), .tok, .tok]⟩) (fun t h => by rw [Qdw] at h; cases h) (fun n25 ih t h => ?_) N (0, y4, []) h
      obtain ⟨y19, y20, y21⟩ := t
      rw [Qdw] at h
      skip
      refine wsq ?_
      refine wx tbk [(4, rp [(.tmp 29, (Qph p0)), (.tmp 30, I y3)] (.dptr (Qaf (x11)) 0)), (7, rp [(.tmp 33, (.dat 2 ((x11.Stairs : List GStair).map Qak)))] (I ((x11.Stairs.length : Int))))] ⟨aid rfl Try.underlying39 Qn8 rfl rfl hi13 (mgt Qaf hj14) rfl, alm (c := Qak) (l := x11.Stairs) (aln rfl Try.underlying145 rfl), trivial⟩ ?_
      rcases bft ((decide (y19 < (x11.Stairs.length : Int)))) with hc26 | hc26
      ·replace h := Qaw hc26 h
       refine wft hc26 (by kernel_rfl) ?_
       refine Qah ?_
       refine thn ?_
       refine wsq ?_
       refine Qag ?_
       obtain ⟨x27, hg28, h⟩ := bno h
       obtain ⟨hi29, hj30⟩ := gsm hg28
       refine wx tbk [(3, rp [(.tmp 39, (Qph p0)), (.tmp 40, I y3)] (.dptr (Qaf (x11)) 0)), (7, rp [(.tmp 43, (.dat 2 ((x11.Stairs : List GStair).map Qak))), (.tmp 44, I y19)] (.dptr (Qak (x27)) 0))] ⟨aid rfl Try.underlying39 Qn8 rfl rfl hi13 (mgt Qaf hj14) rfl, aid rfl Try.underlying145 Qu6 rfl rfl hi29 (mgt Qak hj30) rfl, trivial⟩ ?_
       obtain ⟨ha31, h⟩ := cko h
       refine wx1 tbk [(6, rp [(.tmp 50, I x27.Amount), (.tmp 52, I x27.Price)] (Qn1 x27)), (7, rp [(.tmp 53, (Qn1 x27))] (.dat 2 (([x27] : List GStair).map Qak))), (8, ⟨[(.tmp 48, (Qn3 y21)), (.tmp 54, (.dat 2 (([x27] : List GStair).map Qak)))], [(5, .tok), (7, .unused)], (.acc 7 64 2 ((y21 ++ ([x27]) : List GStair).map Qak)), [(5, .dead), (7, .tok)], false⟩)] ⟨Qbb (vs := [I x27.Amount, I x27.Price]) rfl ts64 tz64 rfl (by rfl) rfl, Qa6 (vs := [(Qn1 x27)]) rfl Try.underlying60 ti64 tz64 rfl (by decide) rfl (by decide) (by rfl) (by rfl) (by rfl) rfl, Qmj rfl Try.underlying60 te64 (Base.acc _ _) rfl rfl (by rfl) (Qrf Qak ha31) (Qre Qak ha31 (by decide)) (Qrd Qak) rfl rfl, trivial⟩ ?_
       refine bln ?_
       refine thn ?_
       refine wx1 tbk [] trivial ?_
       refine thn ?_
       exact arm (mto (n := 64) [(1, .ref 0 3 0 0), (2, .ref 1 3 0 0), (3, .ref 2 3 0 0), (4, I y3), (5, .ref 3 2 0 0), (6, (I (w64 (y19 + 1))))] [0, 1, 2, 3, 4, 7] [(Qh3 p0), Qg5, (Qn2 p0 y20), (.own 2 [[I x11.Use, (.acc 7 64 2 ((y21 ++ ([x27]) : List GStair).map Qak))]]), .tok, .tok] hφ0 (pc (.rn (rqr rfl)) (pc (.rn (rqr rfl)) (pc (.rn (rqr rfl)) (pc rwl (pc (.rn (rqr rfl)) (pc rwl pn)))))) (qc (spb (lc rwl (lc rwl (lc (.rn (.plain _ (nld Qac _))) ln)))) (qc (spb (lc rwl (lc rwl (lc rwl ln)))) (qc (spb (lc rwl (lc rwl (lc (.rn (Qf1 rfl (Qer Qac _))) ln)))) (qc (spb (lc rwl (lc (.rn (Qf1 rfl (Qer Qa5 _))) ln))) (qc .tok (qc .tok qn))))))) (ih (w64 (y19 + 1), y20, y21 ++ ([x27])) h)
      ·replace h := Qax hc26 h
       refine wfn hc26 (by kernel_rfl) ?_
       refine Qa4 ?_
       refine Qan ?_
       refine Qan ?_
       refine Qa3 rfl ?_
       refine thn ?_
       exact ⟨(y20, y21), h, (mto (n := 64) [(1, .ref 0 3 0 0), (2, .ref 1 3 0 0), (3, .ref 2 3 0 0), (4, I y3), (5, .ref 3 2 0 0)] [0, 1, 2, 3, 4, 5] [(Qh3 p0), Qg5, (Qn2 p0 y20), (.own 2 [[I x11.Use, (Qn3 y21)]]), .tok, .tok] hφ0 (pc (.rn (rqr rfl)) (pc (.rn (rqr rfl)) (pc (.rn (rqr rfl)) (pc rwl (pc (.rn (rqr rfl)) pn))))) (qc (spb (lc rwl (lc rwl (lc (.rn (.plain _ (nld Qac _))) ln)))) (qc (spb (lc rwl (lc rwl (lc rwl ln)))) (qc (spb (lc rwl (lc rwl (lc (.rn (Qf1 rfl (Qer Qac _))) ln)))) (qc (spb (lc rwl (lc (.rn (Qf1 rfl (Qer Qa5 _))) ln))) (qc .tok (qc .tok qn)))))))⟩
   ·replace h := Qax hc8 h
    refine wfn hc8 (by kernel_rfl) ?_
    refine Qa4 ?_
    refine Qan ?_
    refine Qan ?_
    refine Qa3 rfl ?_
    refine thn ?_
    exact ⟨(y4), h, (mto (n := 64) [(2, .ref 1 3 0 0), (3, .ref 2 3 0 0)] [1, 2, 3] [Qg5, (Qn5 p0 y4), .tok] hφ0 (pc (.rn (rqr rfl)) (pc (.rn (rqr rfl)) pn)) (qc (spb (lc rwl (lc rwl (lc rwl ln)))) (qc (spb (lc rwl (lc rwl (lc (.rn (Qf1 rfl (Qer Qac _))) ln)))) (qc .tok qn))))⟩
def Qdv (N : Nat) (p0 : GDay) (k1 : Unit → Option Bool) : Nat → Int → Option Bool
  | 0, _ => none
  | n4 + 1, y2 =>
    bif (decide (y2 < (p0.Hours.length : Int))) then
     (getI p0.Hours y2).bind fun x6 =>
     bif (decide ((x6.Stairs.length : Int) > 10)) then
      some false
     else
      Qdv N p0 k1 n4 (w64 (y2 + 1))
    else
     k1 ()
def Qhm (N : Nat) (p0 : GDay) : Option Bool :=
  Qcl (fun _ =>
    some (decide ((p0.Hours.length : Int) ≤ 30))) fun k1 : Unit → Option Bool =>
  Qdv N p0 k1 N 0
def Qr4 (p0 : GDay) : AV := .dat 2 ((p0.Hours : List GHour).map Qaf)
def Qmv (p0 : GDay) : Slot := .own 3 [[(I (p0.Tank)), (I (p0.Start)), (Qr4 p0)]]
set_option maxRecDepth 100000 in
set_option maxHeartbeats 4000000 in
theorem Qj2 (N : Nat) (p0 : GDay) (r : Bool) (h : Qhm N p0 = some r) : Spec Try.prog 29 [(.agg (Qio p0))] [] (B r) [] := by
  refine Qal Try.func29 rfl 0 (nle rfl) (fun X φ0 w0 hφ0 => ?_)
  unfold Qhm at h
  refine wx tbk [] trivial ?_
  obtain ⟨k1, hk_k1, h⟩ := jko h
  refine wjn (τ := Unit) (fun t => k1 t = some r) (fun _ => ⟨mk 23 [(1, .ref 0 3 0 0)], [(Qmv p0)]⟩) (fun t h => ?_) ?_
  ·subst hk_k1
   refine wx tbk [(2, rp [(.tmp 20, (Qr4 p0))] (I ((p0.Hours.length : Int))))] ⟨alm (c := Qaf) (l := p0.Hours) (aln rfl Try.underlying39 rfl), trivial⟩ ?_
   refine Qai ?_
   obtain rfl := osi h
   exact fend ⟨[(B ((decide ((p0.Hours.length : Int) ≤ 30))))], ⟨rot (by kernel_rfl), trivial⟩, rfl⟩ nll
  ·skip
   refine wx tbk [] trivial ?_
   refine Qag ?_
   refine wmr (mto (n := 23) (l' := [(1, .ref 0 3 0 0), (3, I 0)]) (own' := [(Qmv p0)]) [(1, .ref 0 3 0 0), (3, I 0)] [0] [(Qmv p0)] hφ0 (pc (.rn (rqr rfl)) (pc rwl pn)) (qc (spb (lc rwl (lc rwl (lc (.rn (.plain _ (nld Qac _))) ln)))) qn)) ?_
   refine Qcb (τ := Int) (fun n t => Qdv N p0 k1 n t = some r) (fun y2 => ⟨mk 23 [(1, .ref 0 3 0 0), (3, I y2)], [(Qmv p0)]⟩) (fun t h => by rw [Qdv] at h; cases h) (fun n4 ih y2 h => ?_) N (0) h
   rw [Qdv] at h
   skip
   refine wsq ?_
   refine wx tbk [(3, rp [(.tmp 6, (Qr4 p0))] (I ((p0.Hours.length : Int))))] ⟨alm (c := Qaf) (l := p0.Hours) (aln rfl Try.underlying39 rfl), trivial⟩ ?_
   rcases bft ((decide (y2 < (p0.Hours.length : Int)))) with hc5 | hc5
   ·replace h := Qaw hc5 h
    refine wft hc5 (by kernel_rfl) ?_
    refine Qah ?_
    refine thn ?_
    refine wsq ?_
    refine Qag ?_
    obtain ⟨x6, hg7, h⟩ := bno h
    obtain ⟨hi8, hj9⟩ := gsm hg7
    refine wx tbk [(3, rp [(.tmp 12, (Qr4 p0)), (.tmp 13, I y2)] (.dptr (Qaf (x6)) 0)), (6, rp [(.tmp 16, (.dat 2 ((x6.Stairs : List GStair).map Qak)))] (I ((x6.Stairs.length : Int))))] ⟨aid rfl Try.underlying39 Qn8 rfl rfl hi8 (mgt Qaf hj9) rfl, alm (c := Qak) (l := x6.Stairs) (aln rfl Try.underlying145 rfl), trivial⟩ ?_
    rcases bft ((decide ((x6.Stairs.length : Int) > 10))) with hc10 | hc10
    ·replace h := Qaw hc10 h
     refine wft hc10 (by kernel_rfl) ?_
     refine wx tbk [] trivial ?_
     refine Qai ?_
     refine Qa0 ?_
     refine Qaj ?_
     refine Qaj ?_
     refine Qa0 ?_
     refine Qaj ?_
     obtain rfl := osi h
     exact fend ⟨[B false], ⟨rot (by kernel_rfl), trivial⟩, rfl⟩ nll
    ·replace h := Qax hc10 h
     refine wfn hc10 (by kernel_rfl) ?_
     refine Qah ?_
     refine bln ?_
     refine thn ?_
     refine wx1 tbk [] trivial ?_
     refine thn ?_
     exact arm (mto (n := 23) [(1, .ref 0 3 0 0), (3, (I (w64 (y2 + 1))))] [0] [(Qmv p0)] hφ0 (pc (.rn (rqr rfl)) (pc rwl pn)) (qc (spb (lc rwl (lc rwl (lc (.rn (.plain _ (nld Qac _))) ln)))) qn)) (ih (w64 (y2 + 1)) h)
   ·replace h := Qax hc5 h
    refine wfn hc5 (by kernel_rfl) ?_
    refine Qa4 ?_
    refine Qan ?_
    refine Qan ?_
    refine Qa3 rfl ?_
    refine thn ?_
    exact ⟨(), h, (mto (n := 23) [(1, .ref 0 3 0 0)] [0] [(Qmv p0)] hφ0 (pc (.rn (rqr rfl)) pn) (qc (spb (lc rwl (lc rwl (lc (.rn (.plain _ (nld Qac _))) ln)))) qn))⟩
end Go.Proofs.Ytgdepcgbjjgnfaa
