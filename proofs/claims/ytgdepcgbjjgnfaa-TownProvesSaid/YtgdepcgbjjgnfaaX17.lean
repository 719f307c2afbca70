/-
  Functions of the program: what they compute, as plain functions, and that they do. No conditions.
-/
import Derived.Test.YtgdepcgbjjgnfaaX5
namespace Go.Proofs.Ytgdepcgbjjgnfaa
open Go.RowKit
def Qcw (N : Nat) (k7 : Unit → Option Bool) (x8 : GHour) : Nat → Int → Option Bool
  | 0, _ => none
  | n15 + 1, y13 =>
    bif (decide (y13 < (x8.Stairs.length : Int))) then
     (getI x8.Stairs y13).bind fun x17 =>
     (Qfs N x17.Amount 1 1000000000).bind fun x22 =>
     bif (!x22) then
      some false
     else
      (Qfs N x17.Price 0 1000).bind fun x25 =>
      bif (!x25) then
       some false
      else
       bif (decide (y13 > 0)) then
        (getI x8.Stairs (w64 (y13 - 1))).bind fun x28 =>
        bif (decide (x17.Price ≤ x28.Price)) then
         some false
        else
         Qcw N k7 x8 n15 (w64 (y13 + 1))
       else
        Qcw N k7 x8 n15 (w64 (y13 + 1))
    else
     k7 ()
def Qdb (N : Nat) (p0 : GDay) (k2 : Unit → Option Bool) : Nat → Int → Option Bool
  | 0, _ => none
  | n5 + 1, y3 =>
    bif (decide (y3 < (p0.Hours.length : Int))) then
     Qbr (fun _ =>
       Qdb N p0 k2 n5 (w64 (y3 + 1))) fun k7 : Unit → Option Bool =>
     (getI p0.Hours y3).bind fun x8 =>
     Qbr (fun _ =>
       Qcw N k7 x8 N 0) fun k12 : Unit → Option Bool =>
     (Qfs N x8.Use 0 1000000000).bind fun x34 =>
     bif (!x34) then
      some false
     else
      bif (decide ((x8.Stairs.length : Int) > 6)) then
       some false
      else
       k12 ()
    else
     k2 ()
def Qf5 (N : Nat) (p0 : GDay) : Option Bool :=
  Qbr (fun _ =>
    Qbr (fun _ =>
      some true) fun k2 : Unit → Option Bool =>
    Qdb N p0 k2 N 0) fun k1 : Unit → Option Bool =>
  (Qfs N p0.Tank 0 1000000000).bind fun x38 =>
  bif (!x38) then
   some false
  else
   (Qfs N p0.Start 0 p0.Tank).bind fun x41 =>
   bif (!x41) then
    some false
   else
    bif (decide ((p0.Hours.length : Int) < 1)) then
     some false
    else
     bif (decide ((p0.Hours.length : Int) > 24)) then
      some false
     else
      k1 ()
def Qvq (p0 : GDay) : AV := .dat 2 ((p0.Hours : List GHour).map Qaj)
def Qk4 (p0 : GDay) : Slot := .own 3 [[(I (p0.Tank)), (I (p0.Start)), (Qvq p0)]]
def Qrd (x8 : GHour) : AV := .dat 2 ((x8.Stairs : List GStair).map Qan)
def Qnl (x8 : GHour) : Slot := .own 2 [[(I (x8.Use)), (Qrd x8)]]
set_option maxRecDepth 100000 in
set_option maxHeartbeats 4000000 in
theorem Qlv (N : Nat) (p0 : GDay) (r : Bool) (h : Qf5 N p0 = some r) : Spec Try.prog 32 [(.agg (Qii p0))] [] (B r) [] := by
  refine Qal Try.func32 rfl 0 (nle rfl) (fun X φ0 w0 hφ0 => ?_)
  unfold Qf5 at h
  refine wx tbk [] trivial ?_
  obtain ⟨k1, hk_k1, h⟩ := jko h
  refine wjn (τ := Unit) (fun t => k1 t = some r) (fun _ => ⟨mk 91 [(1, .ref 0 3 0 0)], [(Qk4 p0)]⟩) (fun t h => ?_) ?_
  ·subst hk_k1
   obtain ⟨k2, hk_k2, h⟩ := jko h
   refine wjn (τ := Unit) (fun t => k2 t = some r) (fun _ => ⟨mk 91 [], []⟩) (fun t h => ?_) ?_
   ·subst hk_k2
    refine wx tbk [] trivial ?_
    refine Qah ?_
    obtain rfl := osi h
    exact fend ⟨[B true], ⟨rot (by kernel_rfl), trivial⟩, rfl⟩ nll
   ·skip
    refine wx tbk [] trivial ?_
    refine Qai ?_
    refine wmr (mto (n := 91) (l' := [(1, .ref 0 3 0 0), (3, I 0)]) (own' := [(Qk4 p0)]) [(1, .ref 0 3 0 0), (3, I 0)] [0] [(Qk4 p0)] hφ0 (pc (.rn (rqr rfl)) (pc rwl pn)) (qc (spb (lc rwl (lc rwl (lc (.rn (.plain _ (nld Qac _))) ln)))) qn)) ?_
    refine Qbu (τ := Int) (fun n t => Qdb N p0 k2 n t = some r) (fun y3 => ⟨mk 91 [(1, .ref 0 3 0 0), (3, I y3)], [(Qk4 p0)]⟩) (fun t h => by rw [Qdb] at h; cases h) (fun n5 ih y3 h => ?_) N (0) h
    rw [Qdb] at h
    skip
    refine wsq ?_
    refine wx tbk [(3, rp [(.tmp 33, (Qvq p0))] (I ((p0.Hours.length : Int))))] ⟨alm (c := Qaj) (l := p0.Hours) (aln rfl Try.underlying39 rfl), trivial⟩ ?_
    rcases bft ((decide (y3 < (p0.Hours.length : Int)))) with hc6 | hc6
    ·replace h := Qar hc6 h
     refine wft hc6 (by kernel_rfl) ?_
     refine Qag ?_
     refine thn ?_
     obtain ⟨k7, hk_k7, h⟩ := jko h
     refine wjn (τ := Unit) (fun t => k7 t = some r) (fun _ => ⟨mk 91 [(1, .ref 0 3 0 0), (3, I y3)], [(Qk4 p0)]⟩) (fun t h => ?_) ?_
     ·subst hk_k7
      refine wx1 tbk [] trivial ?_
      refine thn ?_
      exact arm (mto (n := 91) [(1, .ref 0 3 0 0), (3, (I (w64 (y3 + 1))))] [0] [(Qk4 p0)] hφ0 (pc (.rn (rqr rfl)) (pc rwl pn)) (qc (spb (lc rwl (lc rwl (lc (.rn (.plain _ (nld Qac _))) ln)))) qn)) (ih (w64 (y3 + 1)) h)
     ·skip
      refine Qai ?_
      obtain ⟨x8, hg9, h⟩ := bno h
      obtain ⟨hi10, hj11⟩ := gsm hg9
      refine wx tbk [(3, rp [(.tmp 39, (Qvq p0)), (.tmp 40, I y3)] (.dptr (Qaj (x8)) 0))] ⟨aid rfl Try.underlying39 Qo5 rfl rfl hi10 (mgt Qaj hj11) rfl, trivial⟩ ?_
      obtain ⟨k12, hk_k12, h⟩ := jko h
      refine wjn (τ := Unit) (fun t => k12 t = some r) (fun _ => ⟨mk 91 [(1, .ref 0 3 0 0), (3, I y3), (4, .ref 1 2 0 0)], [(Qk4 p0), (Qnl x8)]⟩) (fun t h => ?_) ?_
      ·subst hk_k12
       refine wx tbk [] trivial ?_
       refine Qai ?_
       refine wmr (mto (n := 91) (l' := [(1, .ref 0 3 0 0), (3, I y3), (4, .ref 1 2 0 0), (5, I 0)]) (own' := [(Qk4 p0), (Qnl x8)]) [(1, .ref 0 3 0 0), (3, I y3), (4, .ref 1 2 0 0), (5, I 0)] [0, 1] [(Qk4 p0), (Qnl x8)] hφ0 (pc (.rn (rqr rfl)) (pc rwl (pc (.rn (rqr rfl)) (pc rwl pn)))) (qc (spb (lc rwl (lc rwl (lc (.rn (.plain _ (nld Qac _))) ln)))) (qc (spb (lc rwl (lc (.rn (.plain _ (nld Qa5 _))) ln))) qn))) ?_
       refine Qbu (τ := Int) (fun n t => Qcw N k7 x8 n t = some r) (fun y13 => ⟨mk 91 [(1, .ref 0 3 0 0), (3, I y3), (4, .ref 1 2 0 0), (5, I y13)], [(Qk4 p0), (Qnl x8)]⟩) (fun t h => by rw [Qcw] at h; cases h) (fun n15 ih y13 h => ?_) N (0) h
       rw [Qcw] at h
       skip
       refine wsq ?_
       refine wx tbk [(3, rp [(.tmp 55, (Qrd x8))] (I ((x8.Stairs.length : Int))))] ⟨alm (c := Qan) (l := x8.Stairs) (aln rfl Try.underlying145 rfl), trivial⟩ ?_
       rcases bft ((decide (y13 < (x8.Stairs.length : Int)))) with hc16 | hc16
       ·replace h := Qar hc16 h
        refine wft hc16 (by kernel_rfl) ?_
        refine Qag ?_
        refine thn ?_
        refine wsq ?_
        refine Qai ?_
        obtain ⟨x17, hg18, h⟩ := bno h
        obtain ⟨hi19, hj20⟩ := gsm hg18
        refine wx tbk [(3, rp [(.tmp 61, (Qrd x8)), (.tmp 62, I y13)] (.dptr (Qan (x17)) 0))] ⟨aid rfl Try.underlying145 Qv7 rfl rfl hi19 (mgt Qan hj20) rfl, trivial⟩ ?_
        obtain ⟨x22, hf21, h⟩ := bno h
        rcases bft ((!x22)) with hb23 | hb23
        ·replace h := Qar hb23 h
         refine wxd tbk [(2, rp [fu 27, (.tmp 66, I x17.Amount), ci 1, ci 1000000000] (B x22)), (4, rp [(.tmp 68, (B ((!x22))))] (B true))] ⟨apc (first := []) (cap := []) (vs := [I x17.Amount, I 1, I 1000000000]) rfl Qfn (Qca N x17.Amount 1 1000000000 _ hf21) rfl rfl (nlc nll (nlc nll (nlc nll nl0))) nll rfl, asb hb23 (amv rfl), trivial⟩ ?_
         refine Qcm (by kernel_rfl) ?_
         refine wx tbk [] trivial ?_
         refine Qah ?_
         refine Qak ?_
         refine Qad ?_
         refine Qad ?_
         refine Qak ?_
         refine Qak ?_
         refine Qad ?_
         refine Qad ?_
         refine Qak ?_
         refine Qad ?_
         obtain rfl := osi h
         exact fend ⟨[B false], ⟨rot (by kernel_rfl), trivial⟩, rfl⟩ nll
        ·replace h := Qas hb23 h
         obtain ⟨x25, hf24, h⟩ := bno h
         rcases bft ((!x25)) with hb26 | hb26
         ·replace h := Qar hb26 h
          refine wxd tbk [(2, rp [fu 27, (.tmp 66, I x17.Amount), ci 1, ci 1000000000] (B x22)), (4, rp [(.tmp 68, (B ((!x22))))] (B false)), (7, rp [(.tmp 69, B false), fu 27, (.tmp 71, I x17.Price), ci 0, ci 1000] (B x25)), (10, rp [(.tmp 74, (B ((!x25))))] (B true))] ⟨apc (first := []) (cap := []) (vs := [I x17.Amount, I 1, I 1000000000]) rfl Qfn (Qca N x17.Amount 1 1000000000 _ hf21) rfl rfl (nlc nll (nlc nll (nlc nll nl0))) nll rfl, asb hb23 (amv rfl), ag_ (apc (first := []) (cap := []) (vs := [I x17.Price, I 0, I 1000]) rfl Qfn (Qca N x17.Price 0 1000 _ hf24) rfl rfl (nlc nll (nlc nll (nlc nll nl0))) nll rfl), asb hb26 (amv rfl), trivial⟩ ?_
          refine Qcm (by kernel_rfl) ?_
          refine wx tbk [] trivial ?_
          refine Qah ?_
          refine Qak ?_
          refine Qad ?_
          refine Qad ?_
          refine Qak ?_
          refine Qak ?_
          refine Qad ?_
          refine Qad ?_
          refine Qak ?_
          refine Qad ?_
          obtain rfl := osi h
          exact fend ⟨[B false], ⟨rot (by kernel_rfl), trivial⟩, rfl⟩ nll
         ·replace h := Qas hb26 h
          rcases bft ((decide (y13 > 0))) with hb27 | hb27
          ·replace h := Qar hb27 h
           obtain ⟨x28, hg29, h⟩ := bno h
           obtain ⟨hi30, hj31⟩ := gsm hg29
           refine wxd tbk [(2, rp [fu 27, (.tmp 66, I x17.Amount), ci 1, ci 1000000000] (B x22)), (4, rp [(.tmp 68, (B ((!x22))))] (B false)), (7, rp [(.tmp 69, B false), fu 27, (.tmp 71, I x17.Price), ci 0, ci 1000] (B x25)), (10, rp [(.tmp 74, (B ((!x25))))] (B false)), (13, rp [(.tmp 75, B false), (.tmp 77, (B ((decide (y13 > 0)))))] (B true)), (20, rp [(.tmp 78, B true), (.tmp 82, (Qrd x8)), (.tmp 84, (I (w64 (y13 - 1))))] (.dptr (Qan (x28)) 0))] ⟨apc (first := []) (cap := []) (vs := [I x17.Amount, I 1, I 1000000000]) rfl Qfn (Qca N x17.Amount 1 1000000000 _ hf21) rfl rfl (nlc nll (nlc nll (nlc nll nl0))) nll rfl, asb hb23 (amv rfl), ag_ (apc (first := []) (cap := []) (vs := [I x17.Price, I 0, I 1000]) rfl Qfn (Qca N x17.Price 0 1000 _ hf24) rfl rfl (nlc nll (nlc nll (nlc nll nl0))) nll rfl), asb hb26 (amv rfl), asb hb27 (ag_ (amv rfl)), ag_ (aid rfl Try.underlying145 Qv7 rfl rfl hi30 (mgt Qan hj31) rfl), trivial⟩ ?_
           rcases bft ((decide (x17.Price ≤ x28.Price))) with hc32 | hc32
           ·replace h := Qar hc32 h
            refine wft hc32 (by kernel_rfl) ?_
            refine wx tbk [] trivial ?_
            refine Qah ?_
            refine Qak ?_
            refine Qad ?_
            refine Qad ?_
            refine Qak ?_
            refine Qak ?_
            refine Qad ?_
            refine Qad ?_
            refine Qak ?_
            refine Qad ?_
            obtain rfl := osi h
            exact fend ⟨[B false], ⟨rot (by kernel_rfl), trivial⟩, rfl⟩ nll
           ·replace h := Qas hc32 h
            refine wfn hc32 (by kernel_rfl) ?_
            refine Qag ?_
            refine bln ?_
            refine thn ?_
            refine wx1 tbk [] trivial ?_
            refine thn ?_
            exact arm (mto (n := 91) [(1, .ref 0 3 0 0), (3, I y3), (4, .ref 1 2 0 0), (5, (I (w64 (y13 + 1))))] [0, 1] [(Qk4 p0), (Qnl x8)] hφ0 (pc (.rn (rqr rfl)) (pc rwl (pc (.rn (rqr rfl)) (pc rwl pn)))) (qc (spb (lc rwl (lc rwl (lc (.rn (.plain _ (nld Qac _))) ln)))) (qc (spb (lc rwl (lc (.rn (.plain _ (nld Qa5 _))) ln))) qn))) (ih (w64 (y13 + 1)) h)
          ·replace h := Qas hb27 h
           refine wxd tbk [(2, rp [fu 27, (.tmp 66, I x17.Amount), ci 1, ci 1000000000] (B x22)), (4, rp [(.tmp 68, (B ((!x22))))] (B false)), (7, rp [(.tmp 69, B false), fu 27, (.tmp 71, I x17.Price), ci 0, ci 1000] (B x25)), (10, rp [(.tmp 74, (B ((!x25))))] (B false)), (13, rp [(.tmp 75, B false), (.tmp 77, (B ((decide (y13 > 0)))))] (B false))] ⟨apc (first := []) (cap := []) (vs := [I x17.Amount, I 1, I 1000000000]) rfl Qfn (Qca N x17.Amount 1 1000000000 _ hf21) rfl rfl (nlc nll (nlc nll (nlc nll nl0))) nll rfl, asb hb23 (amv rfl), ag_ (apc (first := []) (cap := []) (vs := [I x17.Price, I 0, I 1000]) rfl Qfn (Qca N x17.Price 0 1000 _ hf24) rfl rfl (nlc nll (nlc nll (nlc nll nl0))) nll rfl), asb hb26 (amv rfl), asb hb27 (ag_ (amv rfl)), trivial⟩ ?_
           refine Qdj (by kernel_rfl) ?_
           refine Qag ?_
           refine bln ?_
           refine thn ?_
           refine wx1 tbk [] trivial ?_
           refine thn ?_
           exact arm (mto (n := 91) [(1, .ref 0 3 0 0), (3, I y3), (4, .ref 1 2 0 0), (5, (I (w64 (y13 + 1))))] [0, 1] [(Qk4 p0), (Qnl x8)] hφ0 (pc (.rn (rqr rfl)) (pc rwl (pc (.rn (rqr rfl)) (pc rwl pn)))) (qc (spb (lc rwl (lc rwl (lc (.rn (.plain _ (nld Qac _))) ln)))) (qc (spb (lc rwl (lc (.rn (.plain _ (nld Qa5 _))) ln))) qn))) (ih (w64 (y13 + 1)) h)
       ·replace h := Qas hc16 h
        refine wfn hc16 (by kernel_rfl) ?_
        refine Qa3 ?_
        refine Qao ?_
        refine Qao ?_
        refine Qa2 rfl ?_
        refine bln ?_
        refine thn ?_
        exact ⟨(), h, (mto (n := 91) [(1, .ref 0 3 0 0), (3, I y3)] [0] [(Qk4 p0)] hφ0 (pc (.rn (rqr rfl)) (pc rwl pn)) (qc (spb (lc rwl (lc rwl (lc (.rn (.plain _ (nld Qac _))) ln)))) qn))⟩
      ·skip
       obtain ⟨x34, hf33, h⟩ := bno h
       rcases bft ((!x34)) with hb35 | hb35
       ·replace h := Qar hb35 h
        refine wx tbk [(2, rp [fu 27, (.tmp 44, I x8.Use), ci 0, ci 1000000000] (B x34)), (4, rp [(.tmp 46, (B ((!x34))))] (B true))] ⟨apc (first := []) (cap := []) (vs := [I x8.Use, I 0, I 1000000000]) rfl Qfn (Qca N x8.Use 0 1000000000 _ hf33) rfl rfl (nlc nll (nlc nll (nlc nll nl0))) nll rfl, asb hb35 (amv rfl), trivial⟩ ?_
        refine Qcm (by kernel_rfl) ?_
        refine wx tbk [] trivial ?_
        refine Qah ?_
        refine Qad ?_
        refine Qak ?_
        refine Qad ?_
        refine Qad ?_
        refine Qak ?_
        refine Qad ?_
        obtain rfl := osi h
        exact fend ⟨[B false], ⟨rot (by kernel_rfl), trivial⟩, rfl⟩ nll
       ·replace h := Qas hb35 h
        refine wx tbk [(2, rp [fu 27, (.tmp 44, I x8.Use), ci 0, ci 1000000000] (B x34)), (4, rp [(.tmp 46, (B ((!x34))))] (B false)), (7, rp [(.tmp 47, B false), (.tmp 49, (Qrd x8))] (I ((x8.Stairs.length : Int))))] ⟨apc (first := []) (cap := []) (vs := [I x8.Use, I 0, I 1000000000]) rfl Qfn (Qca N x8.Use 0 1000000000 _ hf33) rfl rfl (nlc nll (nlc nll (nlc nll nl0))) nll rfl, asb hb35 (amv rfl), ag_ (alm (c := Qan) (l := x8.Stairs) (aln rfl Try.underlying145 rfl)), trivial⟩ ?_
        rcases bft ((decide ((x8.Stairs.length : Int) > 6))) with hc36 | hc36
        ·replace h := Qar hc36 h
         refine wft hc36 (by kernel_rfl) ?_
         refine wx tbk [] trivial ?_
         refine Qah ?_
         refine Qad ?_
         refine Qak ?_
         refine Qad ?_
         refine Qad ?_
         refine Qak ?_
         refine Qad ?_
         obtain rfl := osi h
         exact fend ⟨[B false], ⟨rot (by kernel_rfl), trivial⟩, rfl⟩ nll
        ·replace h := Qas hc36 h
         refine wfn hc36 (by kernel_rfl) ?_
         refine Qag ?_
         refine thn ?_
         exact ⟨(), h, (mto (n := 91) [(1, .ref 0 3 0 0), (3, I y3), (4, .ref 1 2 0 0)] [0, 1] [(Qk4 p0), (Qnl x8)] hφ0 (pc (.rn (rqr rfl)) (pc rwl (pc (.rn (rqr rfl)) pn))) (qc (spb (lc rwl (lc rwl (lc (.rn (.plain _ (nld Qac _))) ln)))) (qc (spb (lc rwl (lc (.rn (.plain _ (nld Qa5 _))) ln))) qn)))⟩
    ·replace h := Qas hc6 h
     refine wfn hc6 (by kernel_rfl) ?_
     refine Qa3 ?_
     refine Qao ?_
     refine Qao ?_
     refine Qa2 rfl ?_
     refine thn ?_
     exact ⟨(), h, (mto (n := 91) [] [] [] hφ0 pn qn)⟩
  ·skip
   obtain ⟨x38, hf37, h⟩ := bno h
   rcases bft ((!x38)) with hb39 | hb39
   ·replace h := Qar hb39 h
    refine wx tbk [(2, rp [fu 27, (.tmp 8, I p0.Tank), ci 0, ci 1000000000] (B x38)), (4, rp [(.tmp 10, (B ((!x38))))] (B true))] ⟨apc (first := []) (cap := []) (vs := [I p0.Tank, I 0, I 1000000000]) rfl Qfn (Qca N p0.Tank 0 1000000000 _ hf37) rfl rfl (nlc nll (nlc nll (nlc nll nl0))) nll rfl, asb hb39 (amv rfl), trivial⟩ ?_
    refine Qcm (by kernel_rfl) ?_
    refine wx tbk [] trivial ?_
    refine Qah ?_
    refine Qad ?_
    obtain rfl := osi h
    exact fend ⟨[B false], ⟨rot (by kernel_rfl), trivial⟩, rfl⟩ nll
   ·replace h := Qas hb39 h
    obtain ⟨x41, hf40, h⟩ := bno h
    rcases bft ((!x41)) with hb42 | hb42
    ·replace h := Qar hb42 h
     refine wx tbk [(2, rp [fu 27, (.tmp 8, I p0.Tank), ci 0, ci 1000000000] (B x38)), (4, rp [(.tmp 10, (B ((!x38))))] (B false)), (9, rp [(.tmp 11, B false), fu 27, (.tmp 13, I p0.Start), ci 0, (.tmp 15, I p0.Tank)] (B x41)), (12, rp [(.tmp 18, (B ((!x41))))] (B true))] ⟨apc (first := []) (cap := []) (vs := [I p0.Tank, I 0, I 1000000000]) rfl Qfn (Qca N p0.Tank 0 1000000000 _ hf37) rfl rfl (nlc nll (nlc nll (nlc nll nl0))) nll rfl, asb hb39 (amv rfl), ag_ (apc (first := []) (cap := []) (vs := [I p0.Start, I 0, I p0.Tank]) rfl Qfn (Qca N p0.Start 0 p0.Tank _ hf40) rfl rfl (nlc nll (nlc nll (nlc nll nl0))) nll rfl), asb hb42 (amv rfl), trivial⟩ ?_
     refine Qcm (by kernel_rfl) ?_
     refine wx tbk [] trivial ?_
     refine Qah ?_
     refine Qad ?_
     obtain rfl := osi h
     exact fend ⟨[B false], ⟨rot (by kernel_rfl), trivial⟩, rfl⟩ nll
    ·replace h := Qas hb42 h
     rcases bft ((decide ((p0.Hours.length : Int) < 1))) with hb43 | hb43
     ·replace h := Qar hb43 h
      refine wx tbk [(2, rp [fu 27, (.tmp 8, I p0.Tank), ci 0, ci 1000000000] (B x38)), (4, rp [(.tmp 10, (B ((!x38))))] (B false)), (9, rp [(.tmp 11, B false), fu 27, (.tmp 13, I p0.Start), ci 0, (.tmp 15, I p0.Tank)] (B x41)), (12, rp [(.tmp 18, (B ((!x41))))] (B false)), (15, rp [(.tmp 19, B false), (.tmp 21, (Qvq p0))] (I ((p0.Hours.length : Int)))), (18, rp [(.tmp 24, (B ((decide ((p0.Hours.length : Int) < 1)))))] (B true))] ⟨apc (first := []) (cap := []) (vs := [I p0.Tank, I 0, I 1000000000]) rfl Qfn (Qca N p0.Tank 0 1000000000 _ hf37) rfl rfl (nlc nll (nlc nll (nlc nll nl0))) nll rfl, asb hb39 (amv rfl), ag_ (apc (first := []) (cap := []) (vs := [I p0.Start, I 0, I p0.Tank]) rfl Qfn (Qca N p0.Start 0 p0.Tank _ hf40) rfl rfl (nlc nll (nlc nll (nlc nll nl0))) nll rfl), asb hb42 (amv rfl), ag_ (alm (c := Qaj) (l := p0.Hours) (aln rfl Try.underlying39 rfl)), asb hb43 (amv rfl), trivial⟩ ?_
      refine Qcm (by kernel_rfl) ?_
      refine wx tbk [] trivial ?_
      refine Qah ?_
      refine Qad ?_
      obtain rfl := osi h
      exact fend ⟨[B false], ⟨rot (by kernel_rfl), trivial⟩, rfl⟩ nll
     ·replace h := Qas hb43 h
      refine wx tbk [(2, rp [fu 27, (.tmp 8, I p0.Tank), ci 0, ci 1000000000] (B x38)), (4, rp [(.tmp 10, (B ((!x38))))] (B false)), (9, rp [(.tmp 11, B false), fu 27, (.tmp 13, I p0.Start), ci 0, (.tmp 15, I p0.Tank)] (B x41)), (12, rp [(.tmp 18, (B ((!x41))))] (B false)), (15, rp [(.tmp 19, B false), (.tmp 21, (Qvq p0))] (I ((p0.Hours.length : Int)))), (18, rp [(.tmp 24, (B ((decide ((p0.Hours.length : Int) < 1)))))] (B false)), (21, rp [(.tmp 25, B false), (.tmp 27, (Qvq p0))] (I ((p0.Hours.length : Int))))] ⟨apc (first := []) (cap := []) (vs := [I p0.Tank, I 0, I 1000000000]) rfl Qfn (Qca N p0.Tank 0 1000000000 _ hf37) rfl rfl (nlc nll (nlc nll (nlc nll nl0))) nll rfl, asb hb39 (amv rfl), ag_ (apc (first := []) (cap := []) (vs := [I p0.Start, I 0, I p0.Tank]) rfl Qfn (Qca N p0.Start 0 p0.Tank _ hf40) rfl rfl (nlc nll (nlc nll (nlc nll nl0))) nll rfl), asb hb42 (amv rfl), ag_ (alm (c := Qaj) (l := p0.Hours) (aln rfl Try.underlying39 rfl)), asb hb43 (amv rfl), ag_ (alm (c := Qaj) (l := p0.Hours) (aln rfl Try.underlying39 rfl)), trivial⟩ ?_
      rcases bft ((decide ((p0.Hours.length : Int) > 24))) with hc44 | hc44
      ·replace h := Qar hc44 h
       refine wft hc44 (by kernel_rfl) ?_
       refine wx tbk [] trivial ?_
       refine Qah ?_
       refine Qad ?_
       obtain rfl := osi h
       exact fend ⟨[B false], ⟨rot (by kernel_rfl), trivial⟩, rfl⟩ nll
      ·replace h := Qas hc44 h
       refine wfn hc44 (by kernel_rfl) ?_
       refine Qag ?_
       refine thn ?_
       exact ⟨(), h, (mto (n := 91) [(1, .ref 0 3 0 0)] [0] [(Qk4 p0)] hφ0 (pc (.rn (rqr rfl)) pn) (qc (spb (lc rwl (lc rwl (lc (.rn (.plain _ (nld Qac _))) ln)))) qn))⟩
def Qdx (N : Nat) (p0 : GHour) (k2 : Int → Option Int) : Nat → Int → Int → Option Int
  | 0, _, _ => none
  | n7 + 1, y3, y4 =>
    bif (decide (y4 < (p0.Stairs.length : Int))) then
     (getI p0.Stairs y4).bind fun x9 =>
     Qdx N p0 k2 n7 (w64 (y3 + x9.Amount)) (w64 (y4 + 1))
    else
     k2 (y3)
def Qhl (N : Nat) (p0 : GHour) : Option Int :=
  Qbr (fun y1 =>
    some y1) fun k2 : Int → Option Int =>
  Qdx N p0 k2 N 0 0
def z97_0 (p0 : GHour) : AV := .dat 2 ((p0.Stairs : List GStair).map Qan)
def z97_1 (p0 : GHour) : Slot := .own 2 [[(I (p0.Use)), (z97_0 p0)]]
set_option maxRecDepth 100000 in
set_option maxHeartbeats 4000000 in
theorem Qn6 (N : Nat) (p0 : GHour) (r : Int) (h : Qhl N p0 = some r) : Spec Try.prog 79 [(.agg (Qaj p0))] [] (I r) [] := by
  refine Qal Try.func79 rfl 0 (nle rfl) (fun X φ0 w0 hφ0 => ?_)
  unfold Qhl at h
  refine wx tbk [] trivial ?_
  refine wx tbk [] trivial ?_
  obtain ⟨k2, hk_k2, h⟩ := jko h
  refine wjn (τ := Int) (fun t => k2 t = some r) (fun y1 => ⟨mk 21 [(3, I y1)], []⟩) (fun y1 h => ?_) ?_
  ·subst hk_k2
   refine wx tbk [] trivial ?_
   refine Qah ?_
   obtain rfl := osi h
   exact fend ⟨[I y1], ⟨rot (by kernel_rfl), trivial⟩, rfl⟩ nll
  ·skip
   refine wx tbk [] trivial ?_
   refine Qai ?_
   refine wmr (mto (n := 21) (l' := [(1, .ref 0 2 0 0), (3, I 0), (4, I 0)]) (own' := [(z97_1 p0)]) [(1, .ref 0 2 0 0), (3, I 0), (4, I 0)] [0] [(z97_1 p0)] hφ0 (pc (.rn (rqr rfl)) (pc rwl (pc rwl pn))) (qc (spb (lc rwl (lc (.rn (.plain _ (nld Qa5 _))) ln))) qn)) ?_
   refine Qbu (τ := Int × Int) (fun n t => Qdx N p0 k2 n t.1 t.2 = some r) (fun ⟨y3, y4⟩ => ⟨mk 21 [(1, .ref 0 2 0 0), (3, I y3), (4, I y4)], [(z97_1 p0)]⟩) (fun t h => by rw [Qdx] at h; cases h) (fun n7 ih t h => ?_) N (0, 0) h
   obtain ⟨y3, y4⟩ := t
   rw [Qdx] at h
   skip
   refine wsq ?_
   refine wx tbk [(3, rp [(.tmp 7, (z97_0 p0))] (I ((p0.Stairs.length : Int))))] ⟨alm (c := Qan) (l := p0.Stairs) (aln rfl Try.underlying145 rfl), trivial⟩ ?_
   rcases bft ((decide (y4 < (p0.Stairs.length : Int)))) with hc8 | hc8
   ·replace h := Qar hc8 h
    refine wft hc8 (by kernel_rfl) ?_
    refine Qag ?_
    refine thn ?_
    refine wsq ?_
    refine Qai ?_
    obtain ⟨x9, hg10, h⟩ := bno h
    obtain ⟨hi11, hj12⟩ := gsm hg10
    refine wx1 tbk [(4, rp [(.tmp 14, (z97_0 p0)), (.tmp 15, I y4)] (.dptr (Qan (x9)) 0))] ⟨aid rfl Try.underlying145 Qv7 rfl rfl hi11 (mgt Qan hj12) rfl, trivial⟩ ?_
    refine bln ?_
    refine thn ?_
    refine wx1 tbk [] trivial ?_
    refine thn ?_
    exact arm (mto (n := 21) [(1, .ref 0 2 0 0), (3, (I (w64 (y3 + x9.Amount)))), (4, (I (w64 (y4 + 1))))] [0] [(z97_1 p0)] hφ0 (pc (.rn (rqr rfl)) (pc rwl (pc rwl pn))) (qc (spb (lc rwl (lc (.rn (.plain _ (nld Qa5 _))) ln))) qn)) (ih (w64 (y3 + x9.Amount), w64 (y4 + 1)) h)
   ·replace h := Qas hc8 h
    refine wfn hc8 (by kernel_rfl) ?_
    refine Qa3 ?_
    refine Qao ?_
    refine Qao ?_
    refine Qa2 rfl ?_
    refine thn ?_
    exact ⟨(y3), h, (mto (n := 21) [(3, I y3)] [] [] hφ0 (pc rwl pn) qn)⟩
def Qdo (N : Nat) (p0 : GDay) (p1 : (List Int)) (k3 : (List Int) → Option ((List Int) × Bool)) : Nat → (List Int) → Int → Int → Option ((List Int) × Bool)
  | 0, _, _, _ => none
  | n10 + 1, y4, y5, y6 =>
    bif (decide (y6 < (p1.length : Int))) then
     (getI p1 y6).bind fun x12 =>
     (getI p0.Hours y6).bind fun x16 =>
     (Qhl N x16).bind fun x21 =>
     (Qfs N x12 0 x21).bind fun x23 =>
     bif (!x23) then
      some ([], false)
     else
      (some (w64 ((w64 (y5 + x12)) - x16.Use))).bind fun x25 =>
      (Qfs N x25 0 p0.Tank).bind fun x28 =>
      bif (!x28) then
       some ([], false)
      else
       chk (decide ((y4.length + ([x25]).length) * 8 ≤ 140737488355328)) <|
       Qdo N p0 p1 k3 n10 (y4 ++ ([x25])) x25 (w64 (y6 + 1))
    else
     k3 (y4)
def Qgy (N : Nat) (p0 : GDay) (p1 : (List Int)) : Option ((List Int) × Bool) :=
  bif ((p1.length : Int) != (p0.Hours.length : Int)) then
   some ([], false)
  else
   Qbr (fun y2 =>
     some (y2, true)) fun k3 : (List Int) → Option ((List Int) × Bool) =>
   Qdo N p0 p1 k3 N ([]) p0.Start 0
def Qrc (p1 : (List Int)) : AV := .dat 1 ((p1 : List Int).map Qab)
def z98_0 (p0 : GDay) : AV := .dat 2 ((p0.Hours : List GHour).map Qaj)
def Qxa : AV := .dat 1 (([] : List Int).map Qab)
def z98_1 (p0 : GDay) : Slot := .own 3 [[(I (p0.Tank)), (I (p0.Start)), (z98_0 p0)]]
def Qxb (y4 : (List Int)) : AV := .acc 1 3 1 ((y4 : List Int).map Qab)
set_option maxRecDepth 100000 in
set_option maxHeartbeats 4000000 in
theorem Qm8 (N : Nat) (p0 : GDay) (p1 : (List Int)) (r : ((List Int) × Bool)) (h : Qgy N p0 p1 = some r) : Spec Try.prog 63 [(.agg (Qii p0)), (.dat 1 (p1.map Qab))] [] (.tup [(.dat 1 (r.1.map Qab)), (B r.2)]) [] := by
  refine Qal Try.func63 rfl 0 (nle rfl) (fun X φ0 w0 hφ0 => ?_)
  unfold Qgy at h
  refine wx tbk [] trivial ?_
  refine wsq ?_
  refine wx tbk [(1, rp [(.tmp 9, (Qrc p1))] (I ((p1.length : Int)))), (4, rp [(.tmp 12, (z98_0 p0))] (I ((p0.Hours.length : Int))))] ⟨alm (c := Qab) (l := p1) (aln rfl Try.underlying23 rfl), alm (c := Qaj) (l := p0.Hours) (aln rfl Try.underlying39 rfl), trivial⟩ ?_
  rcases bft (((p1.length : Int) != (p0.Hours.length : Int))) with hc1 | hc1
  ·replace h := Qar hc1 h
   refine wft hc1 (by kernel_rfl) ?_
   refine wx tbk [] trivial ?_
   refine Qah ?_
   refine Qad ?_
   obtain rfl := osi h
   exact fend ⟨[Qxa, B false], ⟨Qer (v := nilS) (rot (by kernel_rfl)) Less.nil, rot (by kernel_rfl), trivial⟩, rfl⟩ (NLt.tup _ (nlc (nld Qaa _) (nlc nll nl0)))
  ·replace h := Qas hc1 h
   refine wfn hc1 (by kernel_rfl) ?_
   refine Qag ?_
   refine thn ?_
   refine wx tbk [] trivial ?_
   refine wx tbk [] trivial ?_
   obtain ⟨k3, hk_k3, h⟩ := jko h
   refine wjn (τ := (List Int)) (fun t => k3 t = some r) (fun y2 => ⟨mk 58 [(6, (.acc 0 3 1 ((y2 : List Int).map Qab)))], [.tok]⟩) (fun y2 h => ?_) ?_
   ·subst hk_k3
    refine wx tbk [] trivial ?_
    refine Qah ?_
    obtain rfl := osi h
    exact fend ⟨[(.dat 1 ((y2 : List Int).map Qab)), B true], ⟨Qer (v := (.acc 0 3 1 ((y2 : List Int).map Qab))) (rot (by kernel_rfl)) Less.acc, rot (by kernel_rfl), trivial⟩, rfl⟩ (NLt.tup _ (nlc (nld Qaa _) (nlc nll nl0)))
   ·skip
    refine wx tbk [] trivial ?_
    refine Qai ?_
    refine wmr (Mor.trans (Qyk 1 3 1 6 (by kernel_rfl) (by kernel_rfl)) (mto (n := 58) (l' := [(1, (Qrc p1)), (2, .ref 0 3 0 0), (6, (.acc 1 3 1 ((([]) : List Int).map Qab))), (7, I p0.Start), (8, I 0)]) (own' := [(z98_1 p0), .tok]) [(1, (Qrc p1)), (2, .ref 0 3 0 0), (6, (.acc 1 3 1 (([] : List Int).map Qab))), (7, I p0.Start), (8, I 0)] [0, 1] [(z98_1 p0), .tok] hφ0 (pc (.rn (.plain _ (nld Qaa _))) (pc (.rn (rqr rfl)) (pc (.rn (Qgd rfl (Qe5 Qaa _))) (pc rwl (pc rwl pn))))) (qc (spb (lc rwl (lc rwl (lc (.rn (.plain _ (nld Qac _))) ln)))) (qc .tok qn)))) ?_
    refine Qbu (τ := (List Int) × Int × Int) (fun n t => Qdo N p0 p1 k3 n t.1 t.2.1 t.2.2 = some r) (fun ⟨y4, y5, y6⟩ => ⟨mk 58 [(1, (Qrc p1)), (2, .ref 0 3 0 0), (6, (Qxb y4)), (7, I y5), (8, I y6)], [(z98_1 p0), .tok]⟩) (fun t h => by rw [Qdo] at h; cases h) (fun n10 ih t h => ?_) N ([], p0.Start, 0) h
    obtain ⟨y4, y5, y6⟩ := t
    rw [Qdo] at h
    skip
    refine wsq ?_
    refine wx tbk [(2, rp [(.tmp 18, (Qrc p1))] (I ((p1.length : Int))))] ⟨alm (c := Qab) (l := p1) (aln rfl Try.underlying23 rfl), trivial⟩ ?_
    rcases bft ((decide (y6 < (p1.length : Int)))) with hc11 | hc11
    ·replace h := Qar hc11 h
     refine wft hc11 (by kernel_rfl) ?_
     refine Qag ?_
     refine thn ?_
     refine wsq ?_
     refine Qai ?_
     refine wsq ?_
     obtain ⟨x12, hg13, h⟩ := bno h
     obtain ⟨hi14, hj15⟩ := gsm hg13
     obtain ⟨x16, hg17, h⟩ := bno h
     obtain ⟨hi18, hj19⟩ := gsm hg17
     obtain ⟨x21, hf20, h⟩ := bno h
     obtain ⟨x23, hf22, h⟩ := bno h
     refine wxd tbk [(2, rp [(.tmp 23, (Qrc p1)), (.tmp 24, I y6)] (.dptr (Qab (x12)) 0)), (7, rp [(.tmp 28, (z98_0 p0)), (.tmp 29, I y6)] (.dptr (Qaj (x16)) 0)), (9, rp [fu 79, (.tmp 31, (.agg [I x16.Use, (.dat 2 ((x16.Stairs : List GStair).map Qan))]))] (I x21)), (10, rp [fu 27, (.tmp 26, I x12), ci 0, (.tmp 32, I x21)] (B x23))] ⟨aid rfl Try.underlying23 ti3 rfl rfl hi14 (mgt Qab hj15) rfl, aid rfl Try.underlying39 Qo5 rfl rfl hi18 (mgt Qaj hj19) rfl, apc (first := []) (cap := []) (vs := [(.agg [I x16.Use, (.dat 2 ((x16.Stairs : List GStair).map Qan))])]) rfl enter79 (Qn6 N x16 _ hf20) rfl rfl (nlc (NLt.agg _ (nlc nll (nlc (nld Qa5 _) nl0))) nl0) nll rfl, apc (first := []) (cap := []) (vs := [I x12, I 0, I x21]) rfl Qfn (Qca N x12 0 x21 _ hf22) rfl rfl (nlc nll (nlc nll (nlc nll nl0))) nll rfl, trivial⟩ ?_
     rcases bft ((!x23)) with hc24 | hc24
     ·replace h := Qar hc24 h
      refine wft hc24 (by kernel_rfl) ?_
      refine wx tbk [] trivial ?_
      refine Qah ?_
      refine Qad ?_
      refine Qak ?_
      refine Qad ?_
      refine Qad ?_
      refine Qak ?_
      refine Qad ?_
      obtain rfl := osi h
      exact fend ⟨[Qxa, B false], ⟨Qer (v := nilS) (rot (by kernel_rfl)) Less.nil, rot (by kernel_rfl), trivial⟩, rfl⟩ (NLt.tup _ (nlc (nld Qaa _) (nlc nll nl0)))
     ·replace h := Qas hc24 h
      refine wfn hc24 (by kernel_rfl) ?_
      refine Qag ?_
      refine thn ?_
      obtain ⟨x25, hl26, h⟩ := bno h
      refine wxd tbk [(3, rp [(.tmp 36, (Qrc p1)), (.tmp 37, I y6)] (.dptr (Qab (x12)) 0)), (9, rp [(.tmp 42, (z98_0 p0)), (.tmp 43, I y6)] (.dptr (Qaj (x16)) 0)), (13, rp [(.tmp 47, (I (w64 ((w64 (y5 + x12)) - x16.Use))))] (I x25))] ⟨aid rfl Try.underlying23 ti3 rfl rfl hi14 (mgt Qab hj15) rfl, aid rfl Try.underlying39 Qo5 rfl rfl hi18 (mgt Qaj hj19) rfl, Qd4 hl26 (aas rfl), trivial⟩ ?_
      refine wsq ?_
      obtain ⟨x28, hf27, h⟩ := bno h
      refine wx tbk [(3, rp [fu 27, (.tmp 48, I x25), ci 0, (.tmp 50, I p0.Tank)] (B x28))] ⟨apc (first := []) (cap := []) (vs := [I x25, I 0, I p0.Tank]) rfl Qfn (Qca N x25 0 p0.Tank _ hf27) rfl rfl (nlc nll (nlc nll (nlc nll nl0))) nll rfl, trivial⟩ ?_
      rcases bft ((!x28)) with hc29 | hc29
      ·replace h := Qar hc29 h
       refine wft hc29 (by kernel_rfl) ?_
       refine wx tbk [] trivial ?_
       refine Qah ?_
       refine Qad ?_
       refine Qak ?_
       refine Qad ?_
       refine Qad ?_
       refine Qak ?_
       refine Qad ?_
       obtain rfl := osi h
       exact fend ⟨[Qxa, B false], ⟨Qer (v := nilS) (rot (by kernel_rfl)) Less.nil, rot (by kernel_rfl), trivial⟩, rfl⟩ (NLt.tup _ (nlc (nld Qaa _) (nlc nll nl0)))
      ·replace h := Qas hc29 h
       refine wfn hc29 (by kernel_rfl) ?_
       refine Qag ?_
       refine thn ?_
       obtain ⟨ha30, h⟩ := cko h
       refine wx1 tbk [(2, rp [(.tmp 54, I x25)] (.dat 1 (([x25] : List Int).map Qab))), (3, ⟨[(.tmp 53, (Qxb y4)), (.tmp 55, (.dat 1 (([x25] : List Int).map Qab)))], [(1, .tok), (2, .unused)], (.acc 2 3 1 ((y4 ++ ([x25]) : List Int).map Qab)), [(1, .dead), (2, .tok)], false⟩)] ⟨Qa8 (vs := [I x25]) rfl Try.underlying23 ti3 tz3 rfl (by decide) rfl (by decide) (by rfl) (by rfl) (by rfl) rfl, Qi6 rfl Try.underlying23 te3 (Base.acc _ _) rfl rfl (by rfl) (Qmr Qab ha30) (Qmq Qab ha30 (by decide)) (Qmp Qab) rfl rfl, trivial⟩ ?_
       refine bln ?_
       refine thn ?_
       refine wx1 tbk [] trivial ?_
       refine thn ?_
       exact arm (mto (n := 58) [(1, (Qrc p1)), (2, .ref 0 3 0 0), (6, (.acc 2 3 1 ((y4 ++ ([x25]) : List Int).map Qab))), (7, I x25), (8, (I (w64 (y6 + 1))))] [0, 2] [(z98_1 p0), .tok] hφ0 (pc (.rn (.plain _ (nld Qaa _))) (pc (.rn (rqr rfl)) (pc (.rn (Qgd rfl (Qe5 Qaa _))) (pc rwl (pc rwl pn))))) (qc (spb (lc rwl (lc rwl (lc (.rn (.plain _ (nld Qac _))) ln)))) (qc .tok qn))) (ih (y4 ++ ([x25]), x25, w64 (y6 + 1)) h)
    ·replace h := Qas hc11 h
     refine wfn hc11 (by kernel_rfl) ?_
     refine Qa3 ?_
     refine Qao ?_
     refine Qao ?_
     refine Qa2 rfl ?_
     refine thn ?_
     exact ⟨(y4), h, (mto (n := 58) [(6, (Qxb y4))] [1] [.tok] hφ0 (pc (.rn (Qgd rfl (Qe5 Qaa _))) pn) (qc .tok qn))⟩
def Qeg (N : Nat) (x11 : GHour) (k17 : (List GHour) × (List GStair) → Option GDay) : Nat → Int → (List GHour) → (List GStair) → Option GDay
  | 0, _, _, _ => none
  | n25 + 1, y19, y20, y21 =>
    bif (decide (y19 < (x11.Stairs.length : Int))) then
     (getI x11.Stairs y19).bind fun x27 =>
     chk (decide ((y21.length + ([x27]).length) * 16 ≤ 140737488355328)) <|
     Qeg N x11 k17 n25 (w64 (y19 + 1)) y20 (y21 ++ ([x27]))
    else
     k17 (y20, y21)
def Qd1 (N : Nat) (p0 : GDay) (k2 : (List GHour) → Option GDay) : Nat → Int → (List GHour) → Option GDay
  | 0, _, _ => none
  | n7 + 1, y3, y4 =>
    bif (decide (y3 < (p0.Hours.length : Int))) then
     Qbr (fun y9 =>
       Qd1 N p0 k2 n7 (w64 (y3 + 1)) y9) fun k10 : (List GHour) → Option GDay =>
     (getI p0.Hours y3).bind fun x11 =>
     Qbr (fun ⟨y15, y16⟩ =>
       chk (decide ((y15.length + ([(⟨x11.Use, y16⟩ : GHour)]).length) * 32 ≤ 140737488355328)) <|
       k10 (y15 ++ ([(⟨x11.Use, y16⟩ : GHour)]))) fun k17 : (List GHour) × (List GStair) → Option GDay =>
     Qeg N x11 k17 N 0 y4 ([])
    else
     k2 (y4)
def Qhy (N : Nat) (p0 : GDay) : Option GDay :=
  Qbr (fun y1 =>
    some (⟨p0.Tank, p0.Start, y1⟩ : GDay)) fun k2 : (List GHour) → Option GDay =>
  Qd1 N p0 k2 N 0 ([])
def Qie : Slot := .own 3 [[(I (0)), (I (0)), nilS]]
def Qqd (y1 : (List GHour)) : AV := .acc 2 62 2 ((y1 : List GHour).map Qaj)
def Qrp (p0 : GDay) : AV := .dat 2 ((p0.Hours : List GHour).map Qaj)
def Qjr (p0 : GDay) : Slot := .own 3 [[(I (p0.Tank)), (I (p0.Start)), (Qrp p0)]]
def Qqe (p0 : GDay) (y4 : (List GHour)) : Slot := .own 3 [[(I (p0.Tank)), (I (p0.Start)), (.acc 3 62 2 ((y4 : List GHour).map Qaj))]]
def Quu (y16 : (List GStair)) : AV := .acc 5 64 2 ((y16 : List GStair).map Qan)
def z100_114 : AV := .acc 5 64 2 ((([]) : List GStair).map Qan)
def z100_110 : AV := .acc 5 64 2 (([] : List GStair).map Qan)
def Qqb (p0 : GDay) (y20 : (List GHour)) : Slot := .own 3 [[(I (p0.Tank)), (I (p0.Start)), (.acc 4 62 2 ((y20 : List GHour).map Qaj))]]
def Qqc (y21 : (List GStair)) : AV := .acc 5 64 2 ((y21 : List GStair).map Qan)
def Qqa (x27 : GStair) : AV := .agg [(I (x27.Amount)), (I (x27.Price))]
set_option maxRecDepth 100000 in
set_option maxHeartbeats 4000000 in
theorem Qga (N : Nat) (p0 : GDay) (r : GDay) (h : Qhy N p0 = some r) : Spec Try.prog 31 [(.agg (Qii p0))] [] (.agg (Qii r)) [] := by
  refine Qal Try.func31 rfl 0 (nle rfl) (fun X φ0 w0 hφ0 => ?_)
  unfold Qhy at h
  refine wx tbk [] trivial ?_
  refine wx tbk [(4, rp [(.tmp 9, I p0.Tank), (.tmp 11, I p0.Start)] (.agg [I p0.Tank, I p0.Start, nilS]))] ⟨Qbk (vs := [I p0.Tank, I p0.Start]) rfl ts47 tz47 rfl (by rfl) rfl, trivial⟩ ?_
  obtain ⟨k2, hk_k2, h⟩ := jko h
  refine wjn (τ := (List GHour)) (fun t => k2 t = some r) (fun y1 => ⟨mk 64 [(2, .ref 0 3 0 0), (3, .ref 1 3 0 0)], [Qie, (.own 3 [[I p0.Tank, I p0.Start, (Qqd y1)]]), .tok]⟩) (fun y1 h => ?_) ?_
  ·subst hk_k2
   refine wx tbk [] trivial ?_
   refine Qah ?_
   obtain rfl := osi h
   exact fend ⟨[(.agg [I p0.Tank, I p0.Start, (.dat 2 ((y1 : List GHour).map Qaj))])], ⟨Qer (v := (.agg [I p0.Tank, I p0.Start, (Qqd y1)])) (Qc9 (n := 0) (m := 3) (j := 0) (i := 0) (xs := [[I p0.Tank, I p0.Start, (Qqd y1)]]) (by kernel_rfl) (by kernel_rfl) ti47 (by decide) rfl (nle rfl) rfl) (Less.agg ⟨lrf, lrf, Less.acc, trivial⟩), trivial⟩, rfl⟩ (NLt.agg _ (nlc nll (nlc nll (nlc (nld Qac _) nl0))))
  ·skip
   refine wx tbk [] trivial ?_
   refine Qai ?_
   refine wmr (Mor.trans (Qu4 (n := 3) (ty := 62) (m := 2) (q := 2) (mq := 3) (c := [I p0.Tank, I p0.Start, nilS]) 2 (by kernel_rfl) (by kernel_rfl) (by kernel_rfl) (by decide)) (mto (n := 64) (l' := [(1, .ref 0 3 0 0), (2, .ref 1 3 0 0), (3, .ref 2 3 0 0), (4, I 0)]) (own' := [(Qjr p0), Qie, (.own 3 [[I p0.Tank, I p0.Start, (.acc 3 62 2 ((([]) : List GHour).map Qaj))]]), .tok]) [(1, .ref 0 3 0 0), (2, .ref 1 3 0 0), (3, .ref 2 3 0 0), (4, I 0)] [0, 1, 2, 3] [(Qjr p0), Qie, (.own 3 [[I p0.Tank, I p0.Start, (.acc 3 62 2 (([] : List GHour).map Qaj))]]), .tok] hφ0 (pc (.rn (rqr rfl)) (pc (.rn (rqr rfl)) (pc (.rn (rqr rfl)) (pc rwl pn)))) (qc (spb (lc rwl (lc rwl (lc (.rn (.plain _ (nld Qac _))) ln)))) (qc (spb (lc rwl (lc rwl (lc rwl ln)))) (qc (spb (lc rwl (lc rwl (lc (.rn (Qgd rfl (Qe5 Qac _))) ln)))) (qc .tok qn)))))) ?_
   refine Qbu (τ := Int × (List GHour)) (fun n t => Qd1 N p0 k2 n t.1 t.2 = some r) (fun ⟨y3, y4⟩ => ⟨mk 64 [(1, .ref 0 3 0 0), (2, .ref 1 3 0 0), (3, .ref 2 3 0 0), (4, I y3)], [(Qjr p0), Qie, (Qqe p0 y4), .tok]⟩) (fun t h => by rw [Qd1] at h; cases h) (fun n7 ih t h => ?_) N (0, []) h
   obtain ⟨y3, y4⟩ := t
   rw [Qd1] at h
   skip
   refine wsq ?_
   refine wx tbk [(3, rp [(.tmp 15, (Qrp p0))] (I ((p0.Hours.length : Int))))] ⟨alm (c := Qaj) (l := p0.Hours) (aln rfl Try.underlying39 rfl), trivial⟩ ?_
   rcases bft ((decide (y3 < (p0.Hours.length : Int)))) with hc8 | hc8
   ·replace h := Qar hc8 h
    refine wft hc8 (by kernel_rfl) ?_
    refine Qag ?_
    refine thn ?_
    obtain ⟨k10, hk_k10, h⟩ := jko h
    refine wjn (τ := (List GHour)) (fun t => k10 t = some r) (fun y9 => ⟨mk 64 [(1, .ref 0 3 0 0), (2, .ref 1 3 0 0), (3, .ref 2 3 0 0), (4, I y3)], [(Qjr p0), Qie, (.own 3 [[I p0.Tank, I p0.Start, (.acc 3 62 2 ((y9 : List GHour).map Qaj))]]), .tok]⟩) (fun y9 h => ?_) ?_
    ·subst hk_k10
     refine wx1 tbk [] trivial ?_
     refine thn ?_
     exact arm (mto (n := 64) [(1, .ref 0 3 0 0), (2, .ref 1 3 0 0), (3, .ref 2 3 0 0), (4, (I (w64 (y3 + 1))))] [0, 1, 2, 3] [(Qjr p0), Qie, (.own 3 [[I p0.Tank, I p0.Start, (.acc 3 62 2 ((y9 : List GHour).map Qaj))]]), .tok] hφ0 (pc (.rn (rqr rfl)) (pc (.rn (rqr rfl)) (pc (.rn (rqr rfl)) (pc rwl pn)))) (qc (spb (lc rwl (lc rwl (lc (.rn (.plain _ (nld Qac _))) ln)))) (qc (spb (lc rwl (lc rwl (lc rwl ln)))) (qc (spb (lc rwl (lc rwl (lc (.rn (Qgd rfl (Qe5 Qac _))) ln)))) (qc .tok qn))))) (ih (w64 (y3 + 1), y9) h)
    ·skip
     refine Qai ?_
     obtain ⟨x11, hg12, h⟩ := bno h
     obtain ⟨hi13, hj14⟩ := gsm hg12
     refine wx tbk [(3, rp [(.tmp 21, (Qrp p0)), (.tmp 22, I y3)] (.dptr (Qaj (x11)) 0)), (6, rp [(.tmp 25, I x11.Use)] (.agg [I x11.Use, nilS]))] ⟨aid rfl Try.underlying39 Qo5 rfl rfl hi13 (mgt Qaj hj14) rfl, Qbk (vs := [I x11.Use]) rfl ts62 tz62 rfl (by rfl) rfl, trivial⟩ ?_
     obtain ⟨k17, hk_k17, h⟩ := jko h
     refine wjn (τ := (List GHour) × (List GStair)) (fun t => k17 t = some r) (fun ⟨y15, y16⟩ => ⟨mk 64 [(1, .ref 0 3 0 0), (2, .ref 1 3 0 0), (3, .ref 2 3 0 0), (4, I y3), (5, .ref 3 2 0 0)], [(Qjr p0), Qie, (.own 3 [[I p0.Tank, I p0.Start, (.acc 4 62 2 ((y15 : List GHour).map Qaj))]]), (.own 2 [[I x11.Use, (Quu y16)]]), .tok, .tok]⟩) (fun t h => ?_) ?_
     ·subst hk_k17
      obtain ⟨y15, y16⟩ := t
      obtain ⟨ha18, h⟩ := cko h
      refine wx1 tbk [(3, rp [(.tmp 59, (.agg [I x11.Use, (Quu y16)]))] (.dat 2 (([(⟨x11.Use, y16⟩ : GHour)] : List GHour).map Qaj))), (4, ⟨[(.tmp 58, (.acc 4 62 2 ((y15 : List GHour).map Qaj))), (.tmp 60, (.dat 2 (([(⟨x11.Use, y16⟩ : GHour)] : List GHour).map Qaj)))], [(4, .tok), (6, .unused)], (.acc 6 62 2 ((y15 ++ ([(⟨x11.Use, y16⟩ : GHour)]) : List GHour).map Qaj)), [(4, .dead), (6, .tok)], false⟩)] ⟨awk (rd' := [(.tmp 59, (.agg [I x11.Use, (.dat 2 ((y16 : List GStair).map Qan))]))]) ⟨rfl, (Less.agg ⟨lrf, Less.acc, trivial⟩), trivial⟩ (Qa8 (vs := [(.agg [I x11.Use, (.dat 2 ((y16 : List GStair).map Qan))])]) rfl Try.underlying45 ti62 tz62 rfl (by decide) rfl (by decide) (by rfl) (by rfl) (by rfl) rfl), Qi6 rfl Try.underlying45 te62 (Base.acc _ _) rfl rfl (by rfl) (Qmr Qaj ha18) (Qmq Qaj ha18 (by decide)) (Qmp Qaj) rfl rfl, trivial⟩ ?_
      refine bln ?_
      refine thn ?_
      exact ⟨(y15 ++ ([(⟨x11.Use, y16⟩ : GHour)])), h, (mto (n := 64) [(1, .ref 0 3 0 0), (2, .ref 1 3 0 0), (3, .ref 2 3 0 0), (4, I y3)] [0, 1, 2, 6] [(Qjr p0), Qie, (.own 3 [[I p0.Tank, I p0.Start, (.acc 6 62 2 ((y15 ++ ([(⟨x11.Use, y16⟩ : GHour)]) : List GHour).map Qaj))]]), .tok] hφ0 (pc (.rn (rqr rfl)) (pc (.rn (rqr rfl)) (pc (.rn (rqr rfl)) (pc rwl pn)))) (qc (spb (lc rwl (lc rwl (lc (.rn (.plain _ (nld Qac _))) ln)))) (qc (spb (lc rwl (lc rwl (lc rwl ln)))) (qc (spb (lc rwl (lc rwl (lc (.rn (Qgd rfl (Qe5 Qac _))) ln)))) (qc .tok qn)))))⟩
     ·skip
      refine wx tbk [] trivial ?_
      refine Qai ?_
      refine wmr (Mor.trans (Qu4 (n := 5) (ty := 64) (m := 2) (q := 4) (mq := 2) (c := [I x11.Use, nilS]) 1 (by kernel_rfl) (by kernel_rfl) (by kernel_rfl) (by decide)) (mto (n := 64) (l' := [(1, .ref 0 3 0 0), (2, .ref 1 3 0 0), (3, .ref 2 3 0 0), (4, I y3), (5, .ref 3 2 0 0), (6, I 0)]) (own' := [(Qjr p0), Qie, (.own 3 [[I p0.Tank, I p0.Start, (.acc 4 62 2 ((y4 : List GHour).map Qaj))]]), (.own 2 [[I x11.Use, z100_114]]), .tok, .tok]) [(1, .ref 0 3 0 0), (2, .ref 1 3 0 0), (3, .ref 2 3 0 0), (4, I y3), (5, .ref 4 2 0 0), (6, I 0)] [0, 1, 2, 4, 3, 5] [(Qjr p0), Qie, (Qqe p0 y4), (.own 2 [[I x11.Use, z100_110]]), .tok, .tok] hφ0 (pc (.rn (rqr rfl)) (pc (.rn (rqr rfl)) (pc (.rn (rqr rfl)) (pc rwl (pc (.rn (rqr rfl)) (pc rwl pn)))))) (qc (spb (lc rwl (lc rwl (lc (.rn (.plain _ (nld Qac _))) ln)))) (qc (spb (lc rwl (lc rwl (lc rwl ln)))) (qc (spb (lc rwl (lc rwl (lc (.rn (Qgd rfl (Qe5 Qac _))) ln)))) (qc (spb (lc rwl (lc (.rn (Qgd rfl (Qe5 Qa5 _))) ln))) (qc .tok (qc .tok qn)))))))) ?_
      refine Qbu (τ := Int × (List GHour) × (List GStair)) (fun n t => Qeg N x11 k17 n t.1 t.2.1 t.2.2 = some r) (fun ⟨y19, y20, y21⟩ => ⟨mk 64 [(1, .ref 0 3 0 0), (2, .ref 1 3 0 0), (3, .ref 2 3 0 0), (4, I y3), (5, .ref 3 2 0 0), (6, I y19)], [(Qjr p0), Qie, (Qqb p0 y20), (.own 2 [[I x11.Use, (Qqc y21)]]), .tok, .tok]⟩) (fun t h => by rw [Qeg] at h; cases h) (fun n25 ih t h => ?_) N (0, y4, []) h
      obtain ⟨y19, y20, y21⟩ := t
      rw [Qeg] at h
      skip
      refine wsq ?_
      refine wx tbk [(4, rp [(.tmp 29, (Qrp p0)), (.tmp 30, I y3)] (.dptr (Qaj (x11)) 0)), (7, rp [(.tmp 33, (.dat 2 ((x11.Stairs : List GStair).map Qan)))] (I ((x11.Stairs.length : Int))))] ⟨aid rfl Try.underlying39 Qo5 rfl rfl hi13 (mgt Qaj hj14) rfl, alm (c := Qan) (l := x11.Stairs) (aln rfl Try.underlying145 rfl), trivial⟩ ?_
      rcases bft ((decide (y19 < (x11.Stairs.length : Int)))) with hc26 | hc26
      ·replace h := Qar hc26 h
       refine wft hc26 (by kernel_rfl) ?_
       refine Qag ?_
       refine thn ?_
       refine wsq ?_
       refine Qai ?_
       obtain ⟨x27, hg28, h⟩ := bno h
       obtain ⟨hi29, hj30⟩ := gsm hg28
       refine wx tbk [(3, rp [(.tmp 39, (Qrp p0)), (.tmp 40, I y3)] (.dptr (Qaj (x11)) 0)), (7, rp [(.tmp 43, (.dat 2 ((x11.Stairs : List GStair).map Qan))), (.tmp 44, I y19)] (.dptr (Qan (x27)) 0))] ⟨aid rfl Try.underlying39 Qo5 rfl rfl hi13 (mgt Qaj hj14) rfl, aid rfl Try.underlying145 Qv7 rfl rfl hi29 (mgt Qan hj30) rfl, trivial⟩ ?_
       obtain ⟨ha31, h⟩ := cko h
       refine wx1 tbk [(6, rp [(.tmp 50, I x27.Amount), (.tmp 52, I x27.Price)] (Qqa x27)), (7, rp [(.tmp 53, (Qqa x27))] (.dat 2 (([x27] : List GStair).map Qan))), (8, ⟨[(.tmp 48, (Qqc y21)), (.tmp 54, (.dat 2 (([x27] : List GStair).map Qan)))], [(5, .tok), (7, .unused)], (.acc 7 64 2 ((y21 ++ ([x27]) : List GStair).map Qan)), [(5, .dead), (7, .tok)], false⟩)] ⟨Qbk (vs := [I x27.Amount, I x27.Price]) rfl ts64 tz64 rfl (by rfl) rfl, Qa8 (vs := [(Qqa x27)]) rfl Try.underlying60 ti64 tz64 rfl (by decide) rfl (by decide) (by rfl) (by rfl) (by rfl) rfl, Qi6 rfl Try.underlying60 te64 (Base.acc _ _) rfl rfl (by rfl) (Qmr Qan ha31) (Qmq Qan ha31 (by decide)) (Qmp Qan) rfl rfl, trivial⟩ ?_
       refine bln ?_
       refine thn ?_
       refine wx1 tbk [] trivial ?_
       refine thn ?_
       exact arm (mto (n := 64) [(1, .ref 0 3 0 0), (2, .ref 1 3 0 0), (3, .ref 2 3 0 0), (4, I y3), (5, .ref 3 2 0 0), (6, (I (w64 (y19 + 1))))] [0, 1, 2, 3, 4, 7] [(Qjr p0), Qie, (Qqb p0 y20), (.own 2 [[I x11.Use, (.acc 7 64 2 ((y21 ++ ([x27]) : List GStair).map Qan))]]), .tok, .tok] hφ0 (pc (.rn (rqr rfl)) (pc (.rn (rqr rfl)) (pc (.rn (rqr rfl)) (pc rwl (pc (.rn (rqr rfl)) (pc rwl pn)))))) (qc (spb (lc rwl (lc rwl (lc (.rn (.plain _ (nld Qac _))) ln)))) (qc (spb (lc rwl (lc rwl (lc rwl ln)))) (qc (spb (lc rwl (lc rwl (lc (.rn (Qgd rfl (Qe5 Qac _))) ln)))) (qc (spb (lc rwl (lc (.rn (Qgd rfl (Qe5 Qa5 _))) ln))) (qc .tok (qc .tok qn))))))) (ih (w64 (y19 + 1), y20, y21 ++ ([x27])) h)
      ·replace h := Qas hc26 h
       refine wfn hc26 (by kernel_rfl) ?_
       refine Qa3 ?_
       refine Qao ?_
       refine Qao ?_
       refine Qa2 rfl ?_
       refine thn ?_
       exact ⟨(y20, y21), h, (mto (n := 64) [(1, .ref 0 3 0 0), (2, .ref 1 3 0 0), (3, .ref 2 3 0 0), (4, I y3), (5, .ref 3 2 0 0)] [0, 1, 2, 3, 4, 5] [(Qjr p0), Qie, (Qqb p0 y20), (.own 2 [[I x11.Use, (Qqc y21)]]), .tok, .tok] hφ0 (pc (.rn (rqr rfl)) (pc (.rn (rqr rfl)) (pc (.rn (rqr rfl)) (pc rwl (pc (.rn (rqr rfl)) pn))))) (qc (spb (lc rwl (lc rwl (lc (.rn (.plain _ (nld Qac _))) ln)))) (qc (spb (lc rwl (lc rwl (lc rwl ln)))) (qc (spb (lc rwl (lc rwl (lc (.rn (Qgd rfl (Qe5 Qac _))) ln)))) (qc (spb (lc rwl (lc (.rn (Qgd rfl (Qe5 Qa5 _))) ln))) (qc .tok (qc .tok qn)))))))⟩
   ·replace h := Qas hc8 h
    refine wfn hc8 (by kernel_rfl) ?_
    refine Qa3 ?_
    refine Qao ?_
    refine Qao ?_
    refine Qa2 rfl ?_
    refine thn ?_
    exact ⟨(y4), h, (mto (n := 64) [(2, .ref 1 3 0 0), (3, .ref 2 3 0 0)] [1, 2, 3] [Qie, (Qqe p0 y4), .tok] hφ0 (pc (.rn (rqr rfl)) (pc (.rn (rqr rfl)) pn)) (qc (spb (lc rwl (lc rwl (lc rwl ln)))) (qc (spb (lc rwl (lc rwl (lc (.rn (Qgd rfl (Qe5 Qac _))) ln)))) (qc .tok qn))))⟩
def Qef (N : Nat) (p0 : GDay) (k1 : Unit → Option Bool) : Nat → Int → Option Bool
  | 0, _ => none
  | n4 + 1, y2 =>
    bif (decide (y2 < (p0.Hours.length : Int))) then
     (getI p0.Hours y2).bind fun x6 =>
     bif (decide ((x6.Stairs.length : Int) > 10)) then
      some false
     else
      Qef N p0 k1 n4 (w64 (y2 + 1))
    else
     k1 ()
def Qiz (N : Nat) (p0 : GDay) : Option Bool :=
  Qbr (fun _ =>
    some (decide ((p0.Hours.length : Int) ≤ 30))) fun k1 : Unit → Option Bool =>
  Qef N p0 k1 N 0
def Qut (p0 : GDay) : AV := .dat 2 ((p0.Hours : List GHour).map Qaj)
def Qpb (p0 : GDay) : Slot := .own 3 [[(I (p0.Tank)), (I (p0.Start)), (Qut p0)]]
set_option maxRecDepth 100000 in
set_option maxHeartbeats 4000000 in
theorem Qjk (N : Nat) (p0 : GDay) (r : Bool) (h : Qiz N p0 = some r) : Spec Try.prog 29 [(.agg (Qii p0))] [] (B r) [] := by
  refine Qal Try.func29 rfl 0 (nle rfl) (fun X φ0 w0 hφ0 => ?_)
  unfold Qiz at h
  refine wx tbk [] trivial ?_
  obtain ⟨k1, hk_k1, h⟩ := jko h
  refine wjn (τ := Unit) (fun t => k1 t = some r) (fun _ => ⟨mk 23 [(1, .ref 0 3 0 0)], [(Qpb p0)]⟩) (fun t h => ?_) ?_
  ·subst hk_k1
   refine wx tbk [(2, rp [(.tmp 20, (Qut p0))] (I ((p0.Hours.length : Int))))] ⟨alm (c := Qaj) (l := p0.Hours) (aln rfl Try.underlying39 rfl), trivial⟩ ?_
   refine Qah ?_
   obtain rfl := osi h
   exact fend ⟨[(B ((decide ((p0.Hours.length : Int) ≤ 30))))], ⟨rot (by kernel_rfl), trivial⟩, rfl⟩ nll
  ·skip
   refine wx tbk [] trivial ?_
   refine Qai ?_
   refine wmr (mto (n := 23) (l' := [(1, .ref 0 3 0 0), (3, I 0)]) (own' := [(Qpb p0)]) [(1, .ref 0 3 0 0), (3, I 0)] [0] [(Qpb p0)] hφ0 (pc (.rn (rqr rfl)) (pc rwl pn)) (qc (spb (lc rwl (lc rwl (lc (.rn (.plain _ (nld Qac _))) ln)))) qn)) ?_
   refine Qbu (τ := Int) (fun n t => Qef N p0 k1 n t = some r) (fun y2 => ⟨mk 23 [(1, .ref 0 3 0 0), (3, I y2)], [(Qpb p0)]⟩) (fun t h => by rw [Qef] at h; cases h) (fun n4 ih y2 h => ?_) N (0) h
   rw [Qef] at h
   skip
   refine wsq ?_
   refine wx tbk [(3, rp [(.tmp 6, (Qut p0))] (I ((p0.Hours.length : Int))))] ⟨alm (c := Qaj) (l := p0.Hours) (aln rfl Try.underlying39 rfl), trivial⟩ ?_
   rcases bft ((decide (y2 < (p0.Hours.length : Int)))) with hc5 | hc5
   ·replace h := Qar hc5 h
    refine wft hc5 (by kernel_rfl) ?_
    refine Qag ?_
    refine thn ?_
    refine wsq ?_
    refine Qai ?_
    obtain ⟨x6, hg7, h⟩ := bno h
    obtain ⟨hi8, hj9⟩ := gsm hg7
    refine wx tbk [(3, rp [(.tmp 12, (Qut p0)), (.tmp 13, I y2)] (.dptr (Qaj (x6)) 0)), (6, rp [(.tmp 16, (.dat 2 ((x6.Stairs : List GStair).map Qan)))] (I ((x6.Stairs.length : Int))))] ⟨aid rfl Try.underlying39 Qo5 rfl rfl hi8 (mgt Qaj hj9) rfl, alm (c := Qan) (l := x6.Stairs) (aln rfl Try.underlying145 rfl), trivial⟩ ?_
    rcases bft ((decide ((x6.Stairs.length : Int) > 10))) with hc10 | hc10
    ·replace h := Qar hc10 h
     refine wft hc10 (by kernel_rfl) ?_
     refine wx tbk [] trivial ?_
     refine Qah ?_
     refine Qak ?_
     refine Qad ?_
     refine Qad ?_
     refine Qak ?_
     refine Qad ?_
     obtain rfl := osi h
     exact fend ⟨[B false], ⟨rot (by kernel_rfl), trivial⟩, rfl⟩ nll
    ·replace h := Qas hc10 h
     refine wfn hc10 (by kernel_rfl) ?_
     refine Qag ?_
     refine bln ?_
     refine thn ?_
     refine wx1 tbk [] trivial ?_
     refine thn ?_
     exact arm (mto (n := 23) [(1, .ref 0 3 0 0), (3, (I (w64 (y2 + 1))))] [0] [(Qpb p0)] hφ0 (pc (.rn (rqr rfl)) (pc rwl pn)) (qc (spb (lc rwl (lc rwl (lc (.rn (.plain _ (nld Qac _))) ln)))) qn)) (ih (w64 (y2 + 1)) h)
   ·replace h := Qas hc5 h
    refine wfn hc5 (by kernel_rfl) ?_
    refine Qa3 ?_
    refine Qao ?_
    refine Qao ?_
    refine Qa2 rfl ?_
    refine thn ?_
    exact ⟨(), h, (mto (n := 23) [(1, .ref 0 3 0 0)] [0] [(Qpb p0)] hφ0 (pc (.rn (rqr rfl)) pn) (qc (spb (lc rwl (lc rwl (lc (.rn (.plain _ (nld Qac _))) ln)))) qn))⟩
def Qc6 (N : Nat) (p0 : GDay) (p1 : (List Int)) (k3 : (List Int) → Option ((List Int) × Bool)) : Nat → (List Int) → Int → Int → Option ((List Int) × Bool)
  | 0, _, _, _ => none
  | n10 + 1, y4, y5, y6 =>
    bif (decide (y6 < (p0.Hours.length : Int))) then
     (getI p0.Hours y6).bind fun x12 =>
     (getI p1 y6).bind fun x16 =>
     (Qe1 N x12).bind fun x21 =>
     (Qcg N x16 0 x21).bind fun x23 =>
     bif (!x23) then
      some ([], false)
     else
      (some (w64 (y5 + (w64 (x16 - x12.Use))))).bind fun x25 =>
      (Qcg N x25 0 p0.Tank).bind fun x28 =>
      bif (!x28) then
       some ([], false)
      else
       chk (decide ((y4.length + ([x25]).length) * 8 ≤ 140737488355328)) <|
       Qc6 N p0 p1 k3 n10 (y4 ++ ([x25])) x25 (w64 (y6 + 1))
    else
     k3 (y4)
def Qfq (N : Nat) (p0 : GDay) (p1 : (List Int)) : Option ((List Int) × Bool) :=
  bif ((p1.length : Int) != (p0.Hours.length : Int)) then
   some ([], false)
  else
   Qbr (fun y2 =>
     some (y2, true)) fun k3 : (List Int) → Option ((List Int) × Bool) =>
   Qc6 N p0 p1 k3 N ([]) p0.Start 0
def Qnx (p1 : (List Int)) : AV := .dat 1 ((p1 : List Int).map Qab)
def Qmx (p0 : GDay) : AV := .dat 2 ((p0.Hours : List GHour).map Qaj)
def Qs1 : AV := .dat 1 (([] : List Int).map Qab)
def Qus (p0 : GDay) : Slot := .own 3 [[(I (p0.Tank)), (I (p0.Start)), (Qmx p0)]]
def Qs2 (y4 : (List Int)) : AV := .acc 1 3 1 ((y4 : List Int).map Qab)
def Qxz (x12 : GHour) : AV := .dat 2 ((x12.Stairs : List GStair).map Qan)
set_option maxRecDepth 100000 in
set_option maxHeartbeats 4000000 in
theorem Qle (N : Nat) (p0 : GDay) (p1 : (List Int)) (r : ((List Int) × Bool)) (h : Qfq N p0 p1 = some r) : Spec Try.prog 92 [(.agg (Qii p0)), (.dat 1 (p1.map Qab))] [] (.tup [(.dat 1 (r.1.map Qab)), (B r.2)]) [] := by
  refine Qal Try.func92 rfl 0 (nle rfl) (fun X φ0 w0 hφ0 => ?_)
  unfold Qfq at h
  refine wx tbk [] trivial ?_
  refine wsq ?_
  refine wx tbk [(1, rp [(.tmp 10, (Qnx p1))] (I ((p1.length : Int)))), (4, rp [(.tmp 13, (Qmx p0))] (I ((p0.Hours.length : Int))))] ⟨alm (c := Qab) (l := p1) (aln rfl Try.underlying23 rfl), alm (c := Qaj) (l := p0.Hours) (aln rfl Try.underlying45 rfl), trivial⟩ ?_
  rcases bft (((p1.length : Int) != (p0.Hours.length : Int))) with hc1 | hc1
  ·replace h := Qar hc1 h
   refine wft hc1 (by kernel_rfl) ?_
   refine wx tbk [] trivial ?_
   refine Qah ?_
   refine Qad ?_
   obtain rfl := osi h
   exact fend ⟨[Qs1, B false], ⟨Qer (v := nilS) (rot (by kernel_rfl)) Less.nil, rot (by kernel_rfl), trivial⟩, rfl⟩ (NLt.tup _ (nlc (nld Qaa _) (nlc nll nl0)))
  ·replace h := Qas hc1 h
   refine wfn hc1 (by kernel_rfl) ?_
   refine Qag ?_
   refine thn ?_
   refine wx tbk [] trivial ?_
   refine wx tbk [] trivial ?_
   obtain ⟨k3, hk_k3, h⟩ := jko h
   refine wjn (τ := (List Int)) (fun t => k3 t = some r) (fun y2 => ⟨mk 54 [(6, (.acc 0 3 1 ((y2 : List Int).map Qab)))], [.tok]⟩) (fun y2 h => ?_) ?_
   ·subst hk_k3
    refine wx tbk [] trivial ?_
    refine Qah ?_
    obtain rfl := osi h
    exact fend ⟨[(.dat 1 ((y2 : List Int).map Qab)), B true], ⟨Qer (v := (.acc 0 3 1 ((y2 : List Int).map Qab))) (rot (by kernel_rfl)) Less.acc, rot (by kernel_rfl), trivial⟩, rfl⟩ (NLt.tup _ (nlc (nld Qaa _) (nlc nll nl0)))
   ·skip
    refine wx tbk [(2, rp [(.tmp 19, (Qmx p0))] (I ((p0.Hours.length : Int))))] ⟨alm (c := Qaj) (l := p0.Hours) (aln rfl Try.underlying45 rfl), trivial⟩ ?_
    refine Qai ?_
    refine wmr (Mor.trans (Qyk 1 3 1 6 (by kernel_rfl) (by kernel_rfl)) (mto (n := 54) (l' := [(1, (Qnx p1)), (2, .ref 0 3 0 0), (6, (.acc 1 3 1 ((([]) : List Int).map Qab))), (7, I p0.Start), (19, (Qmx p0)), (20, (I ((p0.Hours.length : Int)))), (21, I 0)]) (own' := [(Qus p0), .tok]) [(1, (Qnx p1)), (2, .ref 0 3 0 0), (6, (.acc 1 3 1 (([] : List Int).map Qab))), (7, I p0.Start), (19, (Qmx p0)), (20, (I ((p0.Hours.length : Int)))), (21, I 0)] [0, 1] [(Qus p0), .tok] hφ0 (pc (.rn (.plain _ (nld Qaa _))) (pc (.rn (rqr rfl)) (pc (.rn (Qgd rfl (Qe5 Qaa _))) (pc rwl (pc (.rn (.plain _ (nld Qac _))) (pc rwl (pc rwl pn))))))) (qc (spb (lc rwl (lc rwl (lc (.rn (.plain _ (nld Qac _))) ln)))) (qc .tok qn)))) ?_
    refine Qbu (τ := (List Int) × Int × Int) (fun n t => Qc6 N p0 p1 k3 n t.1 t.2.1 t.2.2 = some r) (fun ⟨y4, y5, y6⟩ => ⟨mk 54 [(1, (Qnx p1)), (2, .ref 0 3 0 0), (6, (Qs2 y4)), (7, I y5), (19, (Qmx p0)), (20, (I ((p0.Hours.length : Int)))), (21, I y6)], [(Qus p0), .tok]⟩) (fun t h => by rw [Qc6] at h; cases h) (fun n10 ih t h => ?_) N ([], p0.Start, 0) h
    obtain ⟨y4, y5, y6⟩ := t
    rw [Qc6] at h
    skip
    refine wx tbk [] trivial ?_
    refine wsq ?_
    rcases bft ((decide (y6 < (p0.Hours.length : Int)))) with hc11 | hc11
    ·replace h := Qar hc11 h
     refine wft hc11 (by kernel_rfl) ?_
     refine Qag ?_
     refine thn ?_
     refine wsq ?_
     refine Qai ?_
     obtain ⟨x12, hg13, h⟩ := bno h
     obtain ⟨hi14, hj15⟩ := gsm hg13
     refine wx tbk [(1, rp [(.tmp 19, (Qmx p0)), (.tmp 21, I y6)] (.dptr (Qaj (x12)) 0))] ⟨aid rfl Try.underlying45 ti62 rfl rfl hi14 (mgt Qaj hj15) rfl, trivial⟩ ?_
     refine wsq ?_
     obtain ⟨x16, hg17, h⟩ := bno h
     obtain ⟨hi18, hj19⟩ := gsm hg17
     obtain ⟨x21, hf20, h⟩ := bno h
     obtain ⟨x23, hf22, h⟩ := bno h
     refine wxd tbk [(2, rp [(.tmp 26, (Qnx p1)), (.tmp 27, I y6)] (.dptr (Qab (x16)) 0)), (5, rp [fu 101, (.tmp 30, (.agg [I x12.Use, (Qxz x12)]))] (I x21)), (6, rp [fu 68, (.tmp 29, I x16), ci 0, (.tmp 31, I x21)] (B x23))] ⟨aid rfl Try.underlying23 ti3 rfl rfl hi18 (mgt Qab hj19) rfl, apc (first := []) (cap := []) (vs := [(.agg [I x12.Use, (Qxz x12)])]) rfl Qvf (Qh5 N x12 _ hf20) rfl rfl (nlc (NLt.agg _ (nlc nll (nlc (nld Qa5 _) nl0))) nl0) nll rfl, apc (first := []) (cap := []) (vs := [I x16, I 0, I x21]) rfl Qd3 (Qaw N x16 0 x21 _ hf22) rfl rfl (nlc nll (nlc nll (nlc nll nl0))) nll rfl, trivial⟩ ?_
     rcases bft ((!x23)) with hc24 | hc24
     ·replace h := Qar hc24 h
      refine wft hc24 (by kernel_rfl) ?_
      refine wx tbk [] trivial ?_
      refine Qah ?_
      refine Qad ?_
      refine Qak ?_
      refine Qad ?_
      refine Qad ?_
      refine Qak ?_
      refine Qad ?_
      obtain rfl := osi h
      exact fend ⟨[Qs1, B false], ⟨Qer (v := nilS) (rot (by kernel_rfl)) Less.nil, rot (by kernel_rfl), trivial⟩, rfl⟩ (NLt.tup _ (nlc (nld Qaa _) (nlc nll nl0)))
     ·replace h := Qas hc24 h
      refine wfn hc24 (by kernel_rfl) ?_
      refine Qag ?_
      refine thn ?_
      obtain ⟨x25, hl26, h⟩ := bno h
      refine wxd tbk [(3, rp [(.tmp 35, (Qnx p1)), (.tmp 36, I y6)] (.dptr (Qab (x16)) 0)), (9, rp [(.tmp 42, (I (w64 (y5 + (w64 (x16 - x12.Use))))))] (I x25))] ⟨aid rfl Try.underlying23 ti3 rfl rfl hi18 (mgt Qab hj19) rfl, Qd4 hl26 (aas rfl), trivial⟩ ?_
      refine wsq ?_
      obtain ⟨x28, hf27, h⟩ := bno h
      refine wx tbk [(3, rp [fu 68, (.tmp 43, I x25), ci 0, (.tmp 45, I p0.Tank)] (B x28))] ⟨apc (first := []) (cap := []) (vs := [I x25, I 0, I p0.Tank]) rfl Qd3 (Qaw N x25 0 p0.Tank _ hf27) rfl rfl (nlc nll (nlc nll (nlc nll nl0))) nll rfl, trivial⟩ ?_
      rcases bft ((!x28)) with hc29 | hc29
      ·replace h := Qar hc29 h
       refine wft hc29 (by kernel_rfl) ?_
       refine wx tbk [] trivial ?_
       refine Qah ?_
       refine Qad ?_
       refine Qak ?_
       refine Qad ?_
       refine Qad ?_
       refine Qak ?_
       refine Qad ?_
       obtain rfl := osi h
       exact fend ⟨[Qs1, B false], ⟨Qer (v := nilS) (rot (by kernel_rfl)) Less.nil, rot (by kernel_rfl), trivial⟩, rfl⟩ (NLt.tup _ (nlc (nld Qaa _) (nlc nll nl0)))
      ·replace h := Qas hc29 h
       refine wfn hc29 (by kernel_rfl) ?_
       refine Qag ?_
       refine thn ?_
       obtain ⟨ha30, h⟩ := cko h
       refine wx1 tbk [(2, rp [(.tmp 49, I x25)] (.dat 1 (([x25] : List Int).map Qab))), (3, ⟨[(.tmp 48, (Qs2 y4)), (.tmp 50, (.dat 1 (([x25] : List Int).map Qab)))], [(1, .tok), (3, .unused)], (.acc 3 3 1 ((y4 ++ ([x25]) : List Int).map Qab)), [(1, .dead), (3, .tok)], false⟩)] ⟨Qa8 (vs := [I x25]) rfl Try.underlying23 ti3 tz3 rfl (by decide) rfl (by decide) (by rfl) (by rfl) (by rfl) rfl, Qi6 rfl Try.underlying23 te3 (Base.acc _ _) rfl rfl (by rfl) (Qmr Qab ha30) (Qmq Qab ha30 (by decide)) (Qmp Qab) rfl rfl, trivial⟩ ?_
       refine bln ?_
       refine thn ?_
       refine wx1 tbk [] trivial ?_
       refine thn ?_
       exact arm (mto (n := 54) [(1, (Qnx p1)), (2, .ref 0 3 0 0), (6, (.acc 3 3 1 ((y4 ++ ([x25]) : List Int).map Qab))), (7, I x25), (19, (Qmx p0)), (20, (I ((p0.Hours.length : Int)))), (21, (I (w64 (y6 + 1))))] [0, 3] [(Qus p0), .tok] hφ0 (pc (.rn (.plain _ (nld Qaa _))) (pc (.rn (rqr rfl)) (pc (.rn (Qgd rfl (Qe5 Qaa _))) (pc rwl (pc (.rn (.plain _ (nld Qac _))) (pc rwl (pc rwl pn))))))) (qc (spb (lc rwl (lc rwl (lc (.rn (.plain _ (nld Qac _))) ln)))) (qc .tok qn))) (ih (y4 ++ ([x25]), x25, w64 (y6 + 1)) h)
    ·replace h := Qas hc11 h
     refine wfn hc11 (by kernel_rfl) ?_
     refine Qa3 ?_
     refine Qao ?_
     refine Qao ?_
     refine Qa2 rfl ?_
     refine thn ?_
     exact ⟨(y4), h, (mto (n := 54) [(6, (Qs2 y4))] [1] [.tok] hφ0 (pc (.rn (Qgd rfl (Qe5 Qaa _))) pn) (qc .tok qn))⟩
end Go.Proofs.Ytgdepcgbjjgnfaa
