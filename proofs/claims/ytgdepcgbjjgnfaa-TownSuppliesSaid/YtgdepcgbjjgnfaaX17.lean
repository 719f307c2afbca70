/-
  Functions of the program: what they compute, as plain functions, and that they do. No conditions.
-/
import Derived.Test.YtgdepcgbjjgnfaaX5
namespace Go.Proofs.Ytgdepcgbjjgnfaa
open Go.RowKit
def Qck (N : Nat) (k7 : Unit → Option Bool) (x8 : GHour) : Nat → Int → Option Bool
  | 0, _ => none
  | n15 + 1, y13 =>
    bif (decide (y13 < (x8.Stairs.length : Int))) then
     (getI x8.Stairs y13).bind fun x17 =>
     (Qe8 N x17.Amount 1 1000000000).bind fun x22 =>
     bif (!x22) then
      some false
     else
      (Qe8 N x17.Price 0 1000).bind fun x25 =>
      bif (!x25) then
       some false
      else
       bif (decide (y13 > 0)) then
        (getI x8.Stairs (w64 (y13 - 1))).bind fun x28 =>
        bif (decide (x17.Price ≤ x28.Price)) then
         some false
        else
         Qck N k7 x8 n15 (w64 (y13 + 1))
       else
        Qck N k7 x8 n15 (w64 (y13 + 1))
    else
     k7 ()
def Qcz (N : Nat) (p0 : GDay) (k2 : Unit → Option Bool) : Nat → Int → Option Bool
  | 0, _ => none
  | n5 + 1, y3 =>
    bif (decide (y3 < (p0.Hours.length : Int))) then
     Qb4 (fun _ =>
       Qcz N p0 k2 n5 (w64 (y3 + 1))) fun k7 : Unit → Option Bool =>
     (getI p0.Hours y3).bind fun x8 =>
     Qb4 (fun _ =>
       Qck N k7 x8 N 0) fun k12 : Unit → Option Bool =>
     (Qe8 N x8.Use 0 1000000000).bind fun x34 =>
     bif (!x34) then
      some false
     else
      bif (decide ((x8.Stairs.length : Int) > 6)) then
       some false
      else
       k12 ()
    else
     k2 ()
def Qfi (N : Nat) (p0 : GDay) : Option Bool :=
  Qb4 (fun _ =>
    Qb4 (fun _ =>
      some true) fun k2 : Unit → Option Bool =>
    Qcz N p0 k2 N 0) fun k1 : Unit → Option Bool =>
  (Qe8 N p0.Tank 0 1000000000).bind fun x38 =>
  bif (!x38) then
   some false
  else
   (Qe8 N p0.Start 0 p0.Tank).bind fun x41 =>
   bif (!x41) then
    some false
   else
    bif (decide ((p0.Hours.length : Int) < 1)) then
     some false
    else
     bif (decide ((p0.Hours.length : Int) > 24)) then
      some false
     else
      k1 ()
def Qs1 (p0 : GDay) : AV := .dat 2 ((p0.Hours : List GHour).map Qak)
def Qjo (p0 : GDay) : Slot := .own 3 [[(I (p0.Tank)), (I (p0.Start)), (Qs1 p0)]]
def Qo6 (x8 : GHour) : AV := .dat 2 ((x8.Stairs : List GStair).map Qal)
def Qlm (x8 : GHour) : Slot := .own 2 [[(I (x8.Use)), (Qo6 x8)]]
set_option maxRecDepth 100000 in
set_option maxHeartbeats 4000000 in
theorem Qkh (N : Nat) (p0 : GDay) (r : Bool) (h : Qfi N p0 = some r) : Spec Try.prog 32 [(.agg (Qhj p0))] [] (B r) [] := by
  refine Qaj Try.func32 rfl 0 (nle rfl) (fun X φ0 w0 hφ0 => ?_)
  unfold Qfi at h
  refine wx tbk [] trivial ?_
  obtain ⟨k1, hk_k1, h⟩ := jko h
  refine wjn (τ := Unit) (fun t => k1 t = some r) (fun _ => ⟨mk 91 [(1, .ref 0 3 0 0)], [(Qjo p0)]⟩) (fun t h => ?_) ?_
  ·subst hk_k1
   obtain ⟨k2, hk_k2, h⟩ := jko h
   refine wjn (τ := Unit) (fun t => k2 t = some r) (fun _ => ⟨mk 91 [], []⟩) (fun t h => ?_) ?_
   ·subst hk_k2
    refine wx tbk [] trivial ?_
    refine Qai ?_
    obtain rfl := osi h
    exact fend ⟨[B true], ⟨rot (by kernel_rfl), trivial⟩, rfl⟩ nll
   ·skip
    refine wx tbk [] trivial ?_
    refine Qag ?_
    refine wmr (mto (n := 91) (l' := [(1, .ref 0 3 0 0), (3, I 0)]) (own' := [(Qjo p0)]) [(1, .ref 0 3 0 0), (3, I 0)] [0] [(Qjo p0)] hφ0 (pc (.rn (rqr rfl)) (pc rwl pn)) (qc (spb (lc rwl (lc rwl (lc (.rn (.plain _ (nld Qad _))) ln)))) qn)) ?_
    refine Qbu (τ := Int) (fun n t => Qcz N p0 k2 n t = some r) (fun y3 => ⟨mk 91 [(1, .ref 0 3 0 0), (3, I y3)], [(Qjo p0)]⟩) (fun t h => by rw [Qcz] at h; cases h) (fun n5 ih y3 h => ?_) N (0) h
    rw [Qcz] at h
    skip
    refine wsq ?_
    refine wx tbk [(3, rp [(.tmp 33, (Qs1 p0))] (I ((p0.Hours.length : Int))))] ⟨alm (c := Qak) (l := p0.Hours) (aln rfl Try.underlying39 rfl), trivial⟩ ?_
    rcases bft ((decide (y3 < (p0.Hours.length : Int)))) with hc6 | hc6
    ·replace h := Qar hc6 h
     refine wft hc6 (by kernel_rfl) ?_
     refine Qah ?_
     refine thn ?_
     obtain ⟨k7, hk_k7, h⟩ := jko h
     refine wjn (τ := Unit) (fun t => k7 t = some r) (fun _ => ⟨mk 91 [(1, .ref 0 3 0 0), (3, I y3)], [(Qjo p0)]⟩) (fun t h => ?_) ?_
     ·subst hk_k7
      refine wx1 tbk [] trivial ?_
      refine thn ?_
      exact arm (mto (n := 91) [(1, .ref 0 3 0 0), (3, (I (w64 (y3 + 1))))] [0] [(Qjo p0)] hφ0 (pc (.rn (rqr rfl)) (pc rwl pn)) (qc (spb (lc rwl (lc rwl (lc (.rn (.plain _ (nld Qad _))) ln)))) qn)) (ih (w64 (y3 + 1)) h)
     ·skip
      refine Qag ?_
      obtain ⟨x8, hg9, h⟩ := bno h
      obtain ⟨hi10, hj11⟩ := gsm hg9
      refine wx tbk [(3, rp [(.tmp 39, (Qs1 p0)), (.tmp 40, I y3)] (.dptr (Qak (x8)) 0))] ⟨aid rfl Try.underlying39 Qkg rfl rfl hi10 (mgt Qak hj11) rfl, trivial⟩ ?_
      obtain ⟨k12, hk_k12, h⟩ := jko h
      refine wjn (τ := Unit) (fun t => k12 t = some r) (fun _ => ⟨mk 91 [(1, .ref 0 3 0 0), (3, I y3), (4, .ref 1 2 0 0)], [(Qjo p0), (Qlm x8)]⟩) (fun t h => ?_) ?_
      ·subst hk_k12
       refine wx tbk [] trivial ?_
       refine Qag ?_
       refine wmr (mto (n := 91) (l' := [(1, .ref 0 3 0 0), (3, I y3), (4, .ref 1 2 0 0), (5, I 0)]) (own' := [(Qjo p0), (Qlm x8)]) [(1, .ref 0 3 0 0), (3, I y3), (4, .ref 1 2 0 0), (5, I 0)] [0, 1] [(Qjo p0), (Qlm x8)] hφ0 (pc (.rn (rqr rfl)) (pc rwl (pc (.rn (rqr rfl)) (pc rwl pn)))) (qc (spb (lc rwl (lc rwl (lc (.rn (.plain _ (nld Qad _))) ln)))) (qc (spb (lc rwl (lc (.rn (.plain _ (nld Qa5 _))) ln))) qn))) ?_
       refine Qbu (τ := Int) (fun n t => Qck N k7 x8 n t = some r) (fun y13 => ⟨mk 91 [(1, .ref 0 3 0 0), (3, I y3), (4, .ref 1 2 0 0), (5, I y13)], [(Qjo p0), (Qlm x8)]⟩) (fun t h => by rw [Qck] at h; cases h) (fun n15 ih y13 h => ?_) N (0) h
       rw [Qck] at h
       skip
       refine wsq ?_
       refine wx tbk [(3, rp [(.tmp 55, (Qo6 x8))] (I ((x8.Stairs.length : Int))))] ⟨alm (c := Qal) (l := x8.Stairs) (aln rfl Try.underlying145 rfl), trivial⟩ ?_
       rcases bft ((decide (y13 < (x8.Stairs.length : Int)))) with hc16 | hc16
       ·replace h := Qar hc16 h
        refine wft hc16 (by kernel_rfl) ?_
        refine Qah ?_
        refine thn ?_
        refine wsq ?_
        refine Qag ?_
        obtain ⟨x17, hg18, h⟩ := bno h
        obtain ⟨hi19, hj20⟩ := gsm hg18
        refine wx tbk [(3, rp [(.tmp 61, (Qo6 x8)), (.tmp 62, I y13)] (.dptr (Qal (x17)) 0))] ⟨aid rfl Try.underlying145 Qqt rfl rfl hi19 (mgt Qal hj20) rfl, trivial⟩ ?_
        obtain ⟨x22, hf21, h⟩ := bno h
        rcases bft ((!x22)) with hb23 | hb23
        ·replace h := Qar hb23 h
         refine wxd tbk [(2, rp [fu 27, (.tmp 66, I x17.Amount), ci 1, ci 1000000000] (B x22)), (4, rp [(.tmp 68, (B ((!x22))))] (B true))] ⟨apc (first := []) (cap := []) (vs := [I x17.Amount, I 1, I 1000000000]) rfl Qe3 (Qb3 N x17.Amount 1 1000000000 _ hf21) rfl rfl (nlc nll (nlc nll (nlc nll nl0))) nll rfl, asb hb23 (amv rfl), trivial⟩ ?_
         refine Qc5 (by kernel_rfl) ?_
         refine wx tbk [] trivial ?_
         refine Qai ?_
         refine Qam ?_
         refine Qae ?_
         refine Qae ?_
         refine Qam ?_
         refine Qam ?_
         refine Qae ?_
         refine Qae ?_
         refine Qam ?_
         refine Qae ?_
         obtain rfl := osi h
         exact fend ⟨[B false], ⟨rot (by kernel_rfl), trivial⟩, rfl⟩ nll
        ·replace h := Qas hb23 h
         obtain ⟨x25, hf24, h⟩ := bno h
         rcases bft ((!x25)) with hb26 | hb26
         ·replace h := Qar hb26 h
          refine wxd tbk [(2, rp [fu 27, (.tmp 66, I x17.Amount), ci 1, ci 1000000000] (B x22)), (4, rp [(.tmp 68, (B ((!x22))))] (B false)), (7, rp [(.tmp 69, B false), fu 27, (.tmp 71, I x17.Price), ci 0, ci 1000] (B x25)), (10, rp [(.tmp 74, (B ((!x25))))] (B true))] ⟨apc (first := []) (cap := []) (vs := [I x17.Amount, I 1, I 1000000000]) rfl Qe3 (Qb3 N x17.Amount 1 1000000000 _ hf21) rfl rfl (nlc nll (nlc nll (nlc nll nl0))) nll rfl, asb hb23 (amv rfl), ag_ (apc (first := []) (cap := []) (vs := [I x17.Price, I 0, I 1000]) rfl Qe3 (Qb3 N x17.Price 0 1000 _ hf24) rfl rfl (nlc nll (nlc nll (nlc nll nl0))) nll rfl), asb hb26 (amv rfl), trivial⟩ ?_
          refine Qc5 (by kernel_rfl) ?_
          refine wx tbk [] trivial ?_
          refine Qai ?_
          refine Qam ?_
          refine Qae ?_
          refine Qae ?_
          refine Qam ?_
          refine Qam ?_
          refine Qae ?_
          refine Qae ?_
          refine Qam ?_
          refine Qae ?_
          obtain rfl := osi h
          exact fend ⟨[B false], ⟨rot (by kernel_rfl), trivial⟩, rfl⟩ nll
         ·replace h := Qas hb26 h
          rcases bft ((decide (y13 > 0))) with hb27 | hb27
          ·replace h := Qar hb27 h
           obtain ⟨x28, hg29, h⟩ := bno h
           obtain ⟨hi30, hj31⟩ := gsm hg29
           refine wxd tbk [(2, rp [fu 27, (.tmp 66, I x17.Amount), ci 1, ci 1000000000] (B x22)), (4, rp [(.tmp 68, (B ((!x22))))] (B false)), (7, rp [(.tmp 69, B false), fu 27, (.tmp 71, I x17.Price), ci 0, ci 1000] (B x25)), (10, rp [(.tmp 74, (B ((!x25))))] (B false)), (13, rp [(.tmp 75, B false), (.tmp 77, (B ((decide (y13 > 0)))))] (B true)), (20, rp [(.tmp 78, B true), (.tmp 82, (Qo6 x8)), (.tmp 84, (I (w64 (y13 - 1))))] (.dptr (Qal (x28)) 0))] ⟨apc (first := []) (cap := []) (vs := [I x17.Amount, I 1, I 1000000000]) rfl Qe3 (Qb3 N x17.Amount 1 1000000000 _ hf21) rfl rfl (nlc nll (nlc nll (nlc nll nl0))) nll rfl, asb hb23 (amv rfl), ag_ (apc (first := []) (cap := []) (vs := [I x17.Price, I 0, I 1000]) rfl Qe3 (Qb3 N x17.Price 0 1000 _ hf24) rfl rfl (nlc nll (nlc nll (nlc nll nl0))) nll rfl), asb hb26 (amv rfl), asb hb27 (ag_ (amv rfl)), ag_ (aid rfl Try.underlying145 Qqt rfl rfl hi30 (mgt Qal hj31) rfl), trivial⟩ ?_
           rcases bft ((decide (x17.Price ≤ x28.Price))) with hc32 | hc32
           ·replace h := Qar hc32 h
            refine wft hc32 (by kernel_rfl) ?_
            refine wx tbk [] trivial ?_
            refine Qai ?_
            refine Qam ?_
            refine Qae ?_
            refine Qae ?_
            refine Qam ?_
            refine Qam ?_
            refine Qae ?_
            refine Qae ?_
            refine Qam ?_
            refine Qae ?_
            obtain rfl := osi h
            exact fend ⟨[B false], ⟨rot (by kernel_rfl), trivial⟩, rfl⟩ nll
           ·replace h := Qas hc32 h
            refine wfn hc32 (by kernel_rfl) ?_
            refine Qah ?_
            refine bln ?_
            refine thn ?_
            refine wx1 tbk [] trivial ?_
            refine thn ?_
            exact arm (mto (n := 91) [(1, .ref 0 3 0 0), (3, I y3), (4, .ref 1 2 0 0), (5, (I (w64 (y13 + 1))))] [0, 1] [(Qjo p0), (Qlm x8)] hφ0 (pc (.rn (rqr rfl)) (pc rwl (pc (.rn (rqr rfl)) (pc rwl pn)))) (qc (spb (lc rwl (lc rwl (lc (.rn (.plain _ (nld Qad _))) ln)))) (qc (spb (lc rwl (lc (.rn (.plain _ (nld Qa5 _))) ln))) qn))) (ih (w64 (y13 + 1)) h)
          ·replace h := Qas hb27 h
           refine wxd tbk [(2, rp [fu 27, (.tmp 66, I x17.Amount), ci 1, ci 1000000000] (B x22)), (4, rp [(.tmp 68, (B ((!x22))))] (B false)), (7, rp [(.tmp 69, B false), fu 27, (.tmp 71, I x17.Price), ci 0, ci 1000] (B x25)), (10, rp [(.tmp 74, (B ((!x25))))] (B false)), (13, rp [(.tmp 75, B false), (.tmp 77, (B ((decide (y13 > 0)))))] (B false))] ⟨apc (first := []) (cap := []) (vs := [I x17.Amount, I 1, I 1000000000]) rfl Qe3 (Qb3 N x17.Amount 1 1000000000 _ hf21) rfl rfl (nlc nll (nlc nll (nlc nll nl0))) nll rfl, asb hb23 (amv rfl), ag_ (apc (first := []) (cap := []) (vs := [I x17.Price, I 0, I 1000]) rfl Qe3 (Qb3 N x17.Price 0 1000 _ hf24) rfl rfl (nlc nll (nlc nll (nlc nll nl0))) nll rfl), asb hb26 (amv rfl), asb hb27 (ag_ (amv rfl)), trivial⟩ ?_
           refine Qd3 (by kernel_rfl) ?_
           refine Qah ?_
           refine bln ?_
           refine thn ?_
           refine wx1 tbk [] trivial ?_
           refine thn ?_
           exact arm (mto (n := 91) [(1, .ref 0 3 0 0), (3, I y3), (4, .ref 1 2 0 0), (5, (I (w64 (y13 + 1))))] [0, 1] [(Qjo p0), (Qlm x8)] hφ0 (pc (.rn (rqr rfl)) (pc rwl (pc (.rn (rqr rfl)) (pc rwl pn)))) (qc (spb (lc rwl (lc rwl (lc (.rn (.plain _ (nld Qad _))) ln)))) (qc (spb (lc rwl (lc (.rn (.plain _ (nld Qa5 _))) ln))) qn))) (ih (w64 (y13 + 1)) h)
       ·replace h := Qas hc16 h
        refine wfn hc16 (by kernel_rfl) ?_
        refine Qa2 ?_
        refine Qao ?_
        refine Qao ?_
        refine Qa1 rfl ?_
        refine bln ?_
        refine thn ?_
        exact ⟨(), h, (mto (n := 91) [(1, .ref 0 3 0 0), (3, I y3)] [0] [(Qjo p0)] hφ0 (pc (.rn (rqr rfl)) (pc rwl pn)) (qc (spb (lc rwl (lc rwl (lc (.rn (.plain _ (nld Qad _))) ln)))) qn))⟩
      ·skip
       obtain ⟨x34, hf33, h⟩ := bno h
       rcases bft ((!x34)) with hb35 | hb35
       ·replace h := Qar hb35 h
        refine wx tbk [(2, rp [fu 27, (.tmp 44, I x8.Use), ci 0, ci 1000000000] (B x34)), (4, rp [(.tmp 46, (B ((!x34))))] (B true))] ⟨apc (first := []) (cap := []) (vs := [I x8.Use, I 0, I 1000000000]) rfl Qe3 (Qb3 N x8.Use 0 1000000000 _ hf33) rfl rfl (nlc nll (nlc nll (nlc nll nl0))) nll rfl, asb hb35 (amv rfl), trivial⟩ ?_
        refine Qc5 (by kernel_rfl) ?_
        refine wx tbk [] trivial ?_
        refine Qai ?_
        refine Qae ?_
        refine Qam ?_
        refine Qae ?_
        refine Qae ?_
        refine Qam ?_
        refine Qae ?_
        obtain rfl := osi h
        exact fend ⟨[B false], ⟨rot (by kernel_rfl), trivial⟩, rfl⟩ nll
       ·replace h := Qas hb35 h
        refine wx tbk [(2, rp [fu 27, (.tmp 44, I x8.Use), ci 0, ci 1000000000] (B x34)), (4, rp [(.tmp 46, (B ((!x34))))] (B false)), (7, rp [(.tmp 47, B false), (.tmp 49, (Qo6 x8))] (I ((x8.Stairs.length : Int))))] ⟨apc (first := []) (cap := []) (vs := [I x8.Use, I 0, I 1000000000]) rfl Qe3 (Qb3 N x8.Use 0 1000000000 _ hf33) rfl rfl (nlc nll (nlc nll (nlc nll nl0))) nll rfl, asb hb35 (amv rfl), ag_ (alm (c := Qal) (l := x8.Stairs) (aln rfl Try.underlying145 rfl)), trivial⟩ ?_
        rcases bft ((decide ((x8.Stairs.length : Int) > 6))) with hc36 | hc36
        ·replace h := Qar hc36 h
         refine wft hc36 (by kernel_rfl) ?_
         refine wx tbk [] trivial ?_
         refine Qai ?_
         refine Qae ?_
         refine Qam ?_
         refine Qae ?_
         refine Qae ?_
         refine Qam ?_
         refine Qae ?_
         obtain rfl := osi h
         exact fend ⟨[B false], ⟨rot (by kernel_rfl), trivial⟩, rfl⟩ nll
        ·replace h := Qas hc36 h
         refine wfn hc36 (by kernel_rfl) ?_
         refine Qah ?_
         refine thn ?_
         exact ⟨(), h, (mto (n := 91) [(1, .ref 0 3 0 0), (3, I y3), (4, .ref 1 2 0 0)] [0, 1] [(Qjo p0), (Qlm x8)] hφ0 (pc (.rn (rqr rfl)) (pc rwl (pc (.rn (rqr rfl)) pn))) (qc (spb (lc rwl (lc rwl (lc (.rn (.plain _ (nld Qad _))) ln)))) (qc (spb (lc rwl (lc (.rn (.plain _ (nld Qa5 _))) ln))) qn)))⟩
    ·replace h := Qas hc6 h
     refine wfn hc6 (by kernel_rfl) ?_
     refine Qa2 ?_
     refine Qao ?_
     refine Qao ?_
     refine Qa1 rfl ?_
     refine thn ?_
     exact ⟨(), h, (mto (n := 91) [] [] [] hφ0 pn qn)⟩
  ·skip
   obtain ⟨x38, hf37, h⟩ := bno h
   rcases bft ((!x38)) with hb39 | hb39
   ·replace h := Qar hb39 h
    refine wx tbk [(2, rp [fu 27, (.tmp 8, I p0.Tank), ci 0, ci 1000000000] (B x38)), (4, rp [(.tmp 10, (B ((!x38))))] (B true))] ⟨apc (first := []) (cap := []) (vs := [I p0.Tank, I 0, I 1000000000]) rfl Qe3 (Qb3 N p0.Tank 0 1000000000 _ hf37) rfl rfl (nlc nll (nlc nll (nlc nll nl0))) nll rfl, asb hb39 (amv rfl), trivial⟩ ?_
    refine Qc5 (by kernel_rfl) ?_
    refine wx tbk [] trivial ?_
    refine Qai ?_
    refine Qae ?_
    obtain rfl := osi h
    exact fend ⟨[B false], ⟨rot (by kernel_rfl), trivial⟩, rfl⟩ nll
   ·replace h := Qas hb39 h
    obtain ⟨x41, hf40, h⟩ := bno h
    rcases bft ((!x41)) with hb42 | hb42
    ·replace h := Qar hb42 h
     refine wx tbk [(2, rp [fu 27, (.tmp 8, I p0.Tank), ci 0, ci 1000000000] (B x38)), (4, rp [(.tmp 10, (B ((!x38))))] (B false)), (9, rp [(.tmp 11, B false), fu 27, (.tmp 13, I p0.Start), ci 0, (.tmp 15, I p0.Tank)] (B x41)), (12, rp [(.tmp 18, (B ((!x41))))] (B true))] ⟨apc (first := []) (cap := []) (vs := [I p0.Tank, I 0, I 1000000000]) rfl Qe3 (Qb3 N p0.Tank 0 1000000000 _ hf37) rfl rfl (nlc nll (nlc nll (nlc nll nl0))) nll rfl, asb hb39 (amv rfl), ag_ (apc (first := []) (cap := []) (vs := [I p0.Start, I 0, I p0.Tank]) rfl Qe3 (Qb3 N p0.Start 0 p0.Tank _ hf40) rfl rfl (nlc nll (nlc nll (nlc nll nl0))) nll rfl), asb hb42 (amv rfl), trivial⟩ ?_
     refine Qc5 (by kernel_rfl) ?_
     refine wx tbk [] trivial ?_
     refine Qai ?_
     refine Qae ?_
     obtain rfl := osi h
     exact fend ⟨[B false], ⟨rot (by kernel_rfl), trivial⟩, rfl⟩ nll
    ·replace h := Qas hb42 h
     rcases bft ((decide ((p0.Hours.length : Int) < 1))) with hb43 | hb43
     ·replace h := Qar hb43 h
      refine wx tbk [(2, rp [fu 27, (.tmp 8, I p0.Tank), ci 0, ci 1000000000] (B x38)), (4, rp [(.tmp 10, (B ((!x38))))] (B false)), (9, rp [(.tmp 11, B false), fu 27, (.tmp 13, I p0.Start), ci 0, (.tmp 15, I p0.Tank)] (B x41)), (12, rp [(.tmp 18, (B ((!x41))))] (B false)), (15, rp [(.tmp 19, B false), (.tmp 21, (Qs1 p0))] (I ((p0.Hours.length : Int)))), (18, rp [(.tmp 24, (B ((decide ((p0.Hours.length : Int) < 1)))))] (B true))] ⟨apc (first := []) (cap := []) (vs := [I p0.Tank, I 0, I 1000000000]) rfl Qe3 (Qb3 N p0.Tank 0 1000000000 _ hf37) rfl rfl (nlc nll (nlc nll (nlc nll nl0))) nll rfl, asb hb39 (amv rfl), ag_ (apc (first := []) (cap := []) (vs := [I p0.Start, I 0, I p0.Tank]) rfl Qe3 (Qb3 N p0.Start 0 p0.Tank _ hf40) rfl rfl (nlc nll (nlc nll (nlc nll nl0))) nll rfl), asb hb42 (amv rfl), ag_ (alm (c := Qak) (l := p0.Hours) (aln rfl Try.underlying39 rfl)), asb hb43 (amv rfl), trivial⟩ ?_
      refine Qc5 (by kernel_rfl) ?_
      refine wx tbk [] trivial ?_
      refine Qai ?_
      refine Qae ?_
      obtain rfl := osi h
      exact fend ⟨[B false], ⟨rot (by kernel_rfl), trivial⟩, rfl⟩ nll
     ·replace h := Qas hb43 h
      refine wx tbk [(2, rp [fu 27, (.tmp 8, I p0.Tank), ci 0, ci 1000000000] (B x38)), (4, rp [(.tmp 10, (B ((!x38))))] (B false)), (9, rp [(.tmp 11, B false), fu 27, (.tmp 13, I p0.Start), ci 0, (.tmp 15, I p0.Tank)] (B x41)), (12, rp [(.tmp 18, (B ((!x41))))] (B false)), (15, rp [(.tmp 19, B false), (.tmp 21, (Qs1 p0))] (I ((p0.Hours.length : Int)))), (18, rp [(.tmp 24, (B ((decide ((p0.Hours.length : Int) < 1)))))] (B false)), (21, rp [(.tmp 25, B false), (.tmp 27, (Qs1 p0))] (I ((p0.Hours.length : Int))))] ⟨apc (first := []) (cap := []) (vs := [I p0.Tank, I 0, I 1000000000]) rfl Qe3 (Qb3 N p0.Tank 0 1000000000 _ hf37) rfl rfl (nlc nll (nlc nll (nlc nll nl0))) nll rfl, asb hb39 (amv rfl), ag_ (apc (first := []) (cap := []) (vs := [I p0.Start, I 0, I p0.Tank]) rfl Qe3 (Qb3 N p0.Start 0 p0.Tank _ hf40) rfl rfl (nlc nll (nlc nll (nlc nll nl0))) nll rfl), asb hb42 (amv rfl), ag_ (alm (c := Qak) (l := p0.Hours) (aln rfl Try.underlying39 rfl)), asb hb43 (amv rfl), ag_ (alm (c := Qak) (l := p0.Hours) (aln rfl Try.underlying39 rfl)), trivial⟩ ?_
      rcases bft ((decide ((p0.Hours.length : Int) > 24))) with hc44 | hc44
      ·replace h := Qar hc44 h
       refine wft hc44 (by kernel_rfl) ?_
       refine wx tbk [] trivial ?_
       refine Qai ?_
       refine Qae ?_
       obtain rfl := osi h
       exact fend ⟨[B false], ⟨rot (by kernel_rfl), trivial⟩, rfl⟩ nll
      ·replace h := Qas hc44 h
       refine wfn hc44 (by kernel_rfl) ?_
       refine Qah ?_
       refine thn ?_
       exact ⟨(), h, (mto (n := 91) [(1, .ref 0 3 0 0)] [0] [(Qjo p0)] hφ0 (pc (.rn (rqr rfl)) pn) (qc (spb (lc rwl (lc rwl (lc (.rn (.plain _ (nld Qad _))) ln)))) qn))⟩
def Qdh (N : Nat) (p0 : GHour) (k2 : Int → Option Int) : Nat → Int → Int → Option Int
  | 0, _, _ => none
  | n7 + 1, y3, y4 =>
    bif (decide (y4 < (p0.Stairs.length : Int))) then
     (getI p0.Stairs y4).bind fun x9 =>
     Qdh N p0 k2 n7 (w64 (y3 + x9.Amount)) (w64 (y4 + 1))
    else
     k2 (y3)
def Qfs (N : Nat) (p0 : GHour) : Option Int :=
  Qb4 (fun y1 =>
    some y1) fun k2 : Int → Option Int =>
  Qdh N p0 k2 N 0 0
def z97_0 (p0 : GHour) : AV := .dat 2 ((p0.Stairs : List GStair).map Qal)
def Qw6 (p0 : GHour) : Slot := .own 2 [[(I (p0.Use)), (z97_0 p0)]]
set_option maxRecDepth 100000 in
set_option maxHeartbeats 4000000 in
theorem Qix (N : Nat) (p0 : GHour) (r : Int) (h : Qfs N p0 = some r) : Spec Try.prog 79 [(.agg (Qak p0))] [] (I r) [] := by
  refine Qaj Try.func79 rfl 0 (nle rfl) (fun X φ0 w0 hφ0 => ?_)
  unfold Qfs at h
  refine wx tbk [] trivial ?_
  refine wx tbk [] trivial ?_
  obtain ⟨k2, hk_k2, h⟩ := jko h
  refine wjn (τ := Int) (fun t => k2 t = some r) (fun y1 => ⟨mk 21 [(3, I y1)], []⟩) (fun y1 h => ?_) ?_
  ·subst hk_k2
   refine wx tbk [] trivial ?_
   refine Qai ?_
   obtain rfl := osi h
   exact fend ⟨[I y1], ⟨rot (by kernel_rfl), trivial⟩, rfl⟩ nll
  ·skip
   refine wx tbk [] trivial ?_
   refine Qag ?_
   refine wmr (mto (n := 21) (l' := [(1, .ref 0 2 0 0), (3, I 0), (4, I 0)]) (own' := [(Qw6 p0)]) [(1, .ref 0 2 0 0), (3, I 0), (4, I 0)] [0] [(Qw6 p0)] hφ0 (pc (.rn (rqr rfl)) (pc rwl (pc rwl pn))) (qc (spb (lc rwl (lc (.rn (.plain _ (nld Qa5 _))) ln))) qn)) ?_
   refine Qbu (τ := Int × Int) (fun n t => Qdh N p0 k2 n t.1 t.2 = some r) (fun ⟨y3, y4⟩ => ⟨mk 21 [(1, .ref 0 2 0 0), (3, I y3), (4, I y4)], [(Qw6 p0)]⟩) (fun t h => by rw [Qdh] at h; cases h) (fun n7 ih t h => ?_) N (0, 0) h
   obtain ⟨y3, y4⟩ := t
   rw [Qdh] at h
   skip
   refine wsq ?_
   refine wx tbk [(3, rp [(.tmp 7, (z97_0 p0))] (I ((p0.Stairs.length : Int))))] ⟨alm (c := Qal) (l := p0.Stairs) (aln rfl Try.underlying145 rfl), trivial⟩ ?_
   rcases bft ((decide (y4 < (p0.Stairs.length : Int)))) with hc8 | hc8
   ·replace h := Qar hc8 h
    refine wft hc8 (by kernel_rfl) ?_
    refine Qah ?_
    refine thn ?_
    refine wsq ?_
    refine Qag ?_
    obtain ⟨x9, hg10, h⟩ := bno h
    obtain ⟨hi11, hj12⟩ := gsm hg10
    refine wx1 tbk [(4, rp [(.tmp 14, (z97_0 p0)), (.tmp 15, I y4)] (.dptr (Qal (x9)) 0))] ⟨aid rfl Try.underlying145 Qqt rfl rfl hi11 (mgt Qal hj12) rfl, trivial⟩ ?_
    refine bln ?_
    refine thn ?_
    refine wx1 tbk [] trivial ?_
    refine thn ?_
    exact arm (mto (n := 21) [(1, .ref 0 2 0 0), (3, (I (w64 (y3 + x9.Amount)))), (4, (I (w64 (y4 + 1))))] [0] [(Qw6 p0)] hφ0 (pc (.rn (rqr rfl)) (pc rwl (pc rwl pn))) (qc (spb (lc rwl (lc (.rn (.plain _ (nld Qa5 _))) ln))) qn)) (ih (w64 (y3 + x9.Amount), w64 (y4 + 1)) h)
   ·replace h := Qas hc8 h
    refine wfn hc8 (by kernel_rfl) ?_
    refine Qa2 ?_
    refine Qao ?_
    refine Qao ?_
    refine Qa1 rfl ?_
    refine thn ?_
    exact ⟨(y3), h, (mto (n := 21) [(3, I y3)] [] [] hφ0 (pc rwl pn) qn)⟩
def Qdi (N : Nat) (p0 : GDay) (k1 : Unit → Option (Int × Int)) : Nat → Int → Int → Option (Int × Int)
  | 0, _, _ => none
  | n6 + 1, y2, y3 =>
    bif (decide (y3 < (p0.Hours.length : Int))) then
     (getI p0.Hours y3).bind fun x8 =>
     (Qfs N x8).bind fun x13 =>
     (some (w64 ((w64 (y2 + x13)) - x8.Use))).bind fun x14 =>
     bif (decide (x14 < 0)) then
      some (y3, w64 (0 - x14))
     else
      (some (if p0.Tank < x14 then p0.Tank else x14)).bind fun x17 =>
      Qdi N p0 k1 n6 x17 (w64 (y3 + 1))
    else
     k1 ()
def Qhh (N : Nat) (p0 : GDay) : Option (Int × Int) :=
  Qb4 (fun _ =>
    some ((-1), 0)) fun k1 : Unit → Option (Int × Int) =>
  Qdi N p0 k1 N p0.Start 0
def Qw8 (p0 : GDay) : AV := .dat 2 ((p0.Hours : List GHour).map Qak)
def Qw7 (p0 : GDay) : Slot := .own 3 [[(I (p0.Tank)), (I (p0.Start)), (Qw8 p0)]]
set_option maxRecDepth 100000 in
set_option maxHeartbeats 4000000 in
theorem Ql5 (N : Nat) (p0 : GDay) (r : (Int × Int)) (h : Qhh N p0 = some r) : Spec Try.prog 33 [(.agg (Qhj p0))] [] (.tup [(I r.1), (I r.2)]) [] := by
  refine Qaj Try.func33 rfl 0 (nle rfl) (fun X φ0 w0 hφ0 => ?_)
  unfold Qhh at h
  refine wx tbk [] trivial ?_
  refine wx tbk [] trivial ?_
  obtain ⟨k1, hk_k1, h⟩ := jko h
  refine wjn (τ := Unit) (fun t => k1 t = some r) (fun _ => ⟨mk 39 [], []⟩) (fun t h => ?_) ?_
  ·subst hk_k1
   refine wx tbk [] trivial ?_
   refine Qai ?_
   obtain rfl := osi h
   exact fend ⟨[(I ((-1))), I 0], ⟨rot (by kernel_rfl), rot (by kernel_rfl), trivial⟩, rfl⟩ (NLt.tup _ (nlc nll (nlc nll nl0)))
  ·skip
   refine wx tbk [] trivial ?_
   refine Qag ?_
   refine wmr (mto (n := 39) (l' := [(1, .ref 0 3 0 0), (4, I p0.Start), (5, I 0)]) (own' := [(Qw7 p0)]) [(1, .ref 0 3 0 0), (4, I p0.Start), (5, I 0)] [0] [(Qw7 p0)] hφ0 (pc (.rn (rqr rfl)) (pc rwl (pc rwl pn))) (qc (spb (lc rwl (lc rwl (lc (.rn (.plain _ (nld Qad _))) ln)))) qn)) ?_
   refine Qbu (τ := Int × Int) (fun n t => Qdi N p0 k1 n t.1 t.2 = some r) (fun ⟨y2, y3⟩ => ⟨mk 39 [(1, .ref 0 3 0 0), (4, I y2), (5, I y3)], [(Qw7 p0)]⟩) (fun t h => by rw [Qdi] at h; cases h) (fun n6 ih t h => ?_) N (p0.Start, 0) h
   obtain ⟨y2, y3⟩ := t
   rw [Qdi] at h
   skip
   refine wsq ?_
   refine wx tbk [(3, rp [(.tmp 10, (Qw8 p0))] (I ((p0.Hours.length : Int))))] ⟨alm (c := Qak) (l := p0.Hours) (aln rfl Try.underlying39 rfl), trivial⟩ ?_
   rcases bft ((decide (y3 < (p0.Hours.length : Int)))) with hc7 | hc7
   ·replace h := Qar hc7 h
    refine wft hc7 (by kernel_rfl) ?_
    refine Qah ?_
    refine thn ?_
    refine wsq ?_
    refine Qag ?_
    obtain ⟨x8, hg9, h⟩ := bno h
    obtain ⟨hi10, hj11⟩ := gsm hg9
    obtain ⟨x13, hf12, h⟩ := bno h
    obtain ⟨x14, hl15, h⟩ := bno h
    refine wxd tbk [(4, rp [(.tmp 17, (Qw8 p0)), (.tmp 18, I y3)] (.dptr (Qak (x8)) 0)), (6, rp [fu 79, (.tmp 20, (.agg [I x8.Use, (.dat 2 ((x8.Stairs : List GStair).map Qal))]))] (I x13)), (11, rp [(.tmp 24, (Qw8 p0)), (.tmp 25, I y3)] (.dptr (Qak (x8)) 0)), (15, rp [(.tmp 29, (I (w64 ((w64 (y2 + x13)) - x8.Use))))] (I x14))] ⟨aid rfl Try.underlying39 Qkg rfl rfl hi10 (mgt Qak hj11) rfl, apc (first := []) (cap := []) (vs := [(.agg [I x8.Use, (.dat 2 ((x8.Stairs : List GStair).map Qal))])]) rfl Qv8 (Qix N x8 _ hf12) rfl rfl (nlc (NLt.agg _ (nlc nll (nlc (nld Qa5 _) nl0))) nl0) nll rfl, aid rfl Try.underlying39 Qkg rfl rfl hi10 (mgt Qak hj11) rfl, Qd7 hl15 (aas rfl), trivial⟩ ?_
    refine wsq ?_
    refine wx tbk [] trivial ?_
    rcases bft ((decide (x14 < 0))) with hc16 | hc16
    ·replace h := Qar hc16 h
     refine wft hc16 (by kernel_rfl) ?_
     refine wx tbk [] trivial ?_
     refine Qai ?_
     refine Qae ?_
     refine Qam ?_
     refine Qae ?_
     refine Qae ?_
     refine Qam ?_
     refine Qae ?_
     obtain rfl := osi h
     exact fend ⟨[I y3, (I (w64 (0 - x14)))], ⟨rot (by kernel_rfl), rot (by kernel_rfl), trivial⟩, rfl⟩ (NLt.tup _ (nlc nll (nlc nll nl0)))
    ·replace h := Qas hc16 h
     refine wfn hc16 (by kernel_rfl) ?_
     refine Qah ?_
     refine thn ?_
     obtain ⟨x17, hl18, h⟩ := bno h
     refine wx1 tbk [(3, rp [(.tmp 35, I x14), (.tmp 37, I p0.Tank)] (I ((if p0.Tank < x14 then p0.Tank else x14)))), (4, rp [(.tmp 38, (I ((if p0.Tank < x14 then p0.Tank else x14))))] (I x17))] ⟨Qgq rfl, Qd7 hl18 (aas rfl), trivial⟩ ?_
     refine bln ?_
     refine thn ?_
     refine wx1 tbk [] trivial ?_
     refine thn ?_
     exact arm (mto (n := 39) [(1, .ref 0 3 0 0), (4, I x17), (5, (I (w64 (y3 + 1))))] [0] [(Qw7 p0)] hφ0 (pc (.rn (rqr rfl)) (pc rwl (pc rwl pn))) (qc (spb (lc rwl (lc rwl (lc (.rn (.plain _ (nld Qad _))) ln)))) qn)) (ih (x17, w64 (y3 + 1)) h)
   ·replace h := Qas hc7 h
    refine wfn hc7 (by kernel_rfl) ?_
    refine Qa2 ?_
    refine Qao ?_
    refine Qao ?_
    refine Qa1 rfl ?_
    refine thn ?_
    exact ⟨(), h, (mto (n := 39) [] [] [] hφ0 pn qn)⟩
def Qc7 (N : Nat) (p0 : GDay) (p1 : (List Int)) (k3 : (List Int) → Option ((List Int) × Bool)) : Nat → (List Int) → Int → Int → Option ((List Int) × Bool)
  | 0, _, _, _ => none
  | n10 + 1, y4, y5, y6 =>
    bif (decide (y6 < (p1.length : Int))) then
     (getI p1 y6).bind fun x12 =>
     (getI p0.Hours y6).bind fun x16 =>
     (Qfs N x16).bind fun x21 =>
     (Qe8 N x12 0 x21).bind fun x23 =>
     bif (!x23) then
      some ([], false)
     else
      (some (w64 ((w64 (y5 + x12)) - x16.Use))).bind fun x25 =>
      (Qe8 N x25 0 p0.Tank).bind fun x28 =>
      bif (!x28) then
       some ([], false)
      else
       chk (decide ((y4.length + ([x25]).length) * 8 ≤ 140737488355328)) <|
       Qc7 N p0 p1 k3 n10 (y4 ++ ([x25])) x25 (w64 (y6 + 1))
    else
     k3 (y4)
def Qf1 (N : Nat) (p0 : GDay) (p1 : (List Int)) : Option ((List Int) × Bool) :=
  bif ((p1.length : Int) != (p0.Hours.length : Int)) then
   some ([], false)
  else
   Qb4 (fun y2 =>
     some (y2, true)) fun k3 : (List Int) → Option ((List Int) × Bool) =>
   Qc7 N p0 p1 k3 N ([]) p0.Start 0
def Qo5 (p1 : (List Int)) : AV := .dat 1 ((p1 : List Int).map Qab)
def Qw5 (p0 : GDay) : AV := .dat 2 ((p0.Hours : List GHour).map Qak)
def Quh : AV := .dat 1 (([] : List Int).map Qab)
def Qw4 (p0 : GDay) : Slot := .own 3 [[(I (p0.Tank)), (I (p0.Start)), (Qw5 p0)]]
def Qui (y4 : (List Int)) : AV := .acc 1 3 1 ((y4 : List Int).map Qab)
set_option maxRecDepth 100000 in
set_option maxHeartbeats 4000000 in
theorem Qlg (N : Nat) (p0 : GDay) (p1 : (List Int)) (r : ((List Int) × Bool)) (h : Qf1 N p0 p1 = some r) : Spec Try.prog 63 [(.agg (Qhj p0)), (.dat 1 (p1.map Qab))] [] (.tup [(.dat 1 (r.1.map Qab)), (B r.2)]) [] := by
  refine Qaj Try.func63 rfl 0 (nle rfl) (fun X φ0 w0 hφ0 => ?_)
  unfold Qf1 at h
  refine wx tbk [] trivial ?_
  refine wsq ?_
  refine wx tbk [(1, rp [(.tmp 9, (Qo5 p1))] (I ((p1.length : Int)))), (4, rp [(.tmp 12, (Qw5 p0))] (I ((p0.Hours.length : Int))))] ⟨alm (c := Qab) (l := p1) (aln rfl Try.underlying23 rfl), alm (c := Qak) (l := p0.Hours) (aln rfl Try.underlying39 rfl), trivial⟩ ?_
  rcases bft (((p1.length : Int) != (p0.Hours.length : Int))) with hc1 | hc1
  ·replace h := Qar hc1 h
   refine wft hc1 (by kernel_rfl) ?_
   refine wx tbk [] trivial ?_
   refine Qai ?_
   refine Qae ?_
   obtain rfl := osi h
   exact fend ⟨[Quh, B false], ⟨Qgb (v := nilS) (rot (by kernel_rfl)) Less.nil, rot (by kernel_rfl), trivial⟩, rfl⟩ (NLt.tup _ (nlc (nld Qaa _) (nlc nll nl0)))
  ·replace h := Qas hc1 h
   refine wfn hc1 (by kernel_rfl) ?_
   refine Qah ?_
   refine thn ?_
   refine wx tbk [] trivial ?_
   refine wx tbk [] trivial ?_
   obtain ⟨k3, hk_k3, h⟩ := jko h
   refine wjn (τ := (List Int)) (fun t => k3 t = some r) (fun y2 => ⟨mk 58 [(6, (.acc 0 3 1 ((y2 : List Int).map Qab)))], [.tok]⟩) (fun y2 h => ?_) ?_
   ·subst hk_k3
    refine wx tbk [] trivial ?_
    refine Qai ?_
    obtain rfl := osi h
    exact fend ⟨[(.dat 1 ((y2 : List Int).map Qab)), B true], ⟨Qgb (v := (.acc 0 3 1 ((y2 : List Int).map Qab))) (rot (by kernel_rfl)) Less.acc, rot (by kernel_rfl), trivial⟩, rfl⟩ (NLt.tup _ (nlc (nld Qaa _) (nlc nll nl0)))
   ·skip
    refine wx tbk [] trivial ?_
    refine Qag ?_
    refine wmr (Mor.trans (mor_nil 1 3 1 6 (by kernel_rfl) (by kernel_rfl)) (mto (n := 58) (l' := [(1, (Qo5 p1)), (2, .ref 0 3 0 0), (6, (.acc 1 3 1 ((([]) : List Int).map Qab))), (7, I p0.Start), (8, I 0)]) (own' := [(Qw4 p0), .tok]) [(1, (Qo5 p1)), (2, .ref 0 3 0 0), (6, (.acc 1 3 1 (([] : List Int).map Qab))), (7, I p0.Start), (8, I 0)] [0, 1] [(Qw4 p0), .tok] hφ0 (pc (.rn (.plain _ (nld Qaa _))) (pc (.rn (rqr rfl)) (pc (.rn (Qga rfl (Qfe Qaa _))) (pc rwl (pc rwl pn))))) (qc (spb (lc rwl (lc rwl (lc (.rn (.plain _ (nld Qad _))) ln)))) (qc .tok qn)))) ?_
    refine Qbu (τ := (List Int) × Int × Int) (fun n t => Qc7 N p0 p1 k3 n t.1 t.2.1 t.2.2 = some r) (fun ⟨y4, y5, y6⟩ => ⟨mk 58 [(1, (Qo5 p1)), (2, .ref 0 3 0 0), (6, (Qui y4)), (7, I y5), (8, I y6)], [(Qw4 p0), .tok]⟩) (fun t h => by rw [Qc7] at h; cases h) (fun n10 ih t h => ?_) N ([], p0.Start, 0) h
    obtain ⟨y4, y5, y6⟩ := t
    rw [Qc7] at h
    skip
    refine wsq ?_
    refine wx tbk [(2, rp [(.tmp 18, (Qo5 p1))] (I ((p1.length : Int))))] ⟨alm (c := Qab) (l := p1) (aln rfl Try.underlying23 rfl), trivial⟩ ?_
    rcases bft ((decide (y6 < (p1.length : Int)))) with hc11 | hc11
    ·replace h := Qar hc11 h
     refine wft hc11 (by kernel_rfl) ?_
     refine Qah ?_
     refine thn ?_
     refine wsq ?_
     refine Qag ?_
     refine wsq ?_
     obtain ⟨x12, hg13, h⟩ := bno h
     obtain ⟨hi14, hj15⟩ := gsm hg13
     obtain ⟨x16, hg17, h⟩ := bno h
     obtain ⟨hi18, hj19⟩ := gsm hg17
     obtain ⟨x21, hf20, h⟩ := bno h
     obtain ⟨x23, hf22, h⟩ := bno h
     refine wxd tbk [(2, rp [(.tmp 23, (Qo5 p1)), (.tmp 24, I y6)] (.dptr (Qab (x12)) 0)), (7, rp [(.tmp 28, (Qw5 p0)), (.tmp 29, I y6)] (.dptr (Qak (x16)) 0)), (9, rp [fu 79, (.tmp 31, (.agg [I x16.Use, (.dat 2 ((x16.Stairs : List GStair).map Qal))]))] (I x21)), (10, rp [fu 27, (.tmp 26, I x12), ci 0, (.tmp 32, I x21)] (B x23))] ⟨aid rfl Try.underlying23 ti3 rfl rfl hi14 (mgt Qab hj15) rfl, aid rfl Try.underlying39 Qkg rfl rfl hi18 (mgt Qak hj19) rfl, apc (first := []) (cap := []) (vs := [(.agg [I x16.Use, (.dat 2 ((x16.Stairs : List GStair).map Qal))])]) rfl Qv8 (Qix N x16 _ hf20) rfl rfl (nlc (NLt.agg _ (nlc nll (nlc (nld Qa5 _) nl0))) nl0) nll rfl, apc (first := []) (cap := []) (vs := [I x12, I 0, I x21]) rfl Qe3 (Qb3 N x12 0 x21 _ hf22) rfl rfl (nlc nll (nlc nll (nlc nll nl0))) nll rfl, trivial⟩ ?_
     rcases bft ((!x23)) with hc24 | hc24
     ·replace h := Qar hc24 h
      refine wft hc24 (by kernel_rfl) ?_
      refine wx tbk [] trivial ?_
      refine Qai ?_
      refine Qae ?_
      refine Qam ?_
      refine Qae ?_
      refine Qae ?_
      refine Qam ?_
      refine Qae ?_
      obtain rfl := osi h
      exact fend ⟨[Quh, B false], ⟨Qgb (v := nilS) (rot (by kernel_rfl)) Less.nil, rot (by kernel_rfl), trivial⟩, rfl⟩ (NLt.tup _ (nlc (nld Qaa _) (nlc nll nl0)))
     ·replace h := Qas hc24 h
      refine wfn hc24 (by kernel_rfl) ?_
      refine Qah ?_
      refine thn ?_
      obtain ⟨x25, hl26, h⟩ := bno h
      refine wxd tbk [(3, rp [(.tmp 36, (Qo5 p1)), (.tmp 37, I y6)] (.dptr (Qab (x12)) 0)), (9, rp [(.tmp 42, (Qw5 p0)), (.tmp 43, I y6)] (.dptr (Qak (x16)) 0)), (13, rp [(.tmp 47, (I (w64 ((w64 (y5 + x12)) - x16.Use))))] (I x25))] ⟨aid rfl Try.underlying23 ti3 rfl rfl hi14 (mgt Qab hj15) rfl, aid rfl Try.underlying39 Qkg rfl rfl hi18 (mgt Qak hj19) rfl, Qd7 hl26 (aas rfl), trivial⟩ ?_
      refine wsq ?_
      obtain ⟨x28, hf27, h⟩ := bno h
      refine wx tbk [(3, rp [fu 27, (.tmp 48, I x25), ci 0, (.tmp 50, I p0.Tank)] (B x28))] ⟨apc (first := []) (cap := []) (vs := [I x25, I 0, I p0.Tank]) rfl Qe3 (Qb3 N x25 0 p0.Tank _ hf27) rfl rfl (nlc nll (nlc nll (nlc nll nl0))) nll rfl, trivial⟩ ?_
      rcases bft ((!x28)) with hc29 | hc29
      ·replace h := Qar hc29 h
       refine wft hc29 (by kernel_rfl) ?_
       refine wx tbk [] trivial ?_
       refine Qai ?_
       refine Qae ?_
       refine Qam ?_
       refine Qae ?_
       refine Qae ?_
       refine Qam ?_
       refine Qae ?_
       obtain rfl := osi h
       exact fend ⟨[Quh, B false], ⟨Qgb (v := nilS) (rot (by kernel_rfl)) Less.nil, rot (by kernel_rfl), trivial⟩, rfl⟩ (NLt.tup _ (nlc (nld Qaa _) (nlc nll nl0)))
      ·replace h := Qas hc29 h
       refine wfn hc29 (by kernel_rfl) ?_
       refine Qah ?_
       refine thn ?_
       obtain ⟨ha30, h⟩ := cko h
       refine wx1 tbk [(2, rp [(.tmp 54, I x25)] (.dat 1 (([x25] : List Int).map Qab))), (3, ⟨[(.tmp 53, (Qui y4)), (.tmp 55, (.dat 1 (([x25] : List Int).map Qab)))], [(1, .tok), (2, .unused)], (.acc 2 3 1 ((y4 ++ ([x25]) : List Int).map Qab)), [(1, .dead), (2, .tok)], false⟩)] ⟨Qa7 (vs := [I x25]) rfl Try.underlying23 ti3 tz3 rfl (by decide) rfl (by decide) (by rfl) (by rfl) (by rfl) rfl, Qmq rfl Try.underlying23 te3 (Base.acc _ _) rfl rfl (by rfl) (Qrl Qab ha30) (Qrk Qab ha30 (by decide)) (Qrj Qab) rfl rfl, trivial⟩ ?_
       refine bln ?_
       refine thn ?_
       refine wx1 tbk [] trivial ?_
       refine thn ?_
       exact arm (mto (n := 58) [(1, (Qo5 p1)), (2, .ref 0 3 0 0), (6, (.acc 2 3 1 ((y4 ++ ([x25]) : List Int).map Qab))), (7, I x25), (8, (I (w64 (y6 + 1))))] [0, 2] [(Qw4 p0), .tok] hφ0 (pc (.rn (.plain _ (nld Qaa _))) (pc (.rn (rqr rfl)) (pc (.rn (Qga rfl (Qfe Qaa _))) (pc rwl (pc rwl pn))))) (qc (spb (lc rwl (lc rwl (lc (.rn (.plain _ (nld Qad _))) ln)))) (qc .tok qn))) (ih (y4 ++ ([x25]), x25, w64 (y6 + 1)) h)
    ·replace h := Qas hc11 h
     refine wfn hc11 (by kernel_rfl) ?_
     refine Qa2 ?_
     refine Qao ?_
     refine Qao ?_
     refine Qa1 rfl ?_
     refine thn ?_
     exact ⟨(y4), h, (mto (n := 58) [(6, (Qui y4))] [1] [.tok] hφ0 (pc (.rn (Qga rfl (Qfe Qaa _))) pn) (qc .tok qn))⟩
def Qds (N : Nat) (p0 : GDay) (y4 : Int) (k10 : Int → Option Int) : Nat → Int → Int → Int → Option Int
  | 0, _, _, _ => none
  | n21 + 1, y15, y16, y17 =>
    (getI p0.Hours y4).bind fun x22 =>
    bif (decide (y17 < (x22.Stairs.length : Int))) then
     (getI x22.Stairs y17).bind fun x27 =>
     (some (if x27.Amount < y16 then x27.Amount else y16)).bind fun x31 =>
     (some (w64 (y15 + (w64 (x31 * x27.Price))))).bind fun x33 =>
     Qds N p0 y4 k10 n21 x33 (w64 (y16 - x31)) (w64 (y17 + 1))
    else
     k10 (y15)
def Qda (N : Nat) (p0 : GDay) (p1 : (List Int)) (k2 : Int → Option Int) : Nat → Int → Int → Option Int
  | 0, _, _ => none
  | n7 + 1, y3, y4 =>
    bif (decide (y4 < (p1.length : Int))) then
     Qb4 (fun y9 =>
       Qda N p0 p1 k2 n7 y9 (w64 (y4 + 1))) fun k10 : Int → Option Int =>
     (getI p1 y4).bind fun x11 =>
     Qds N p0 y4 k10 N y3 x11 0
    else
     k2 (y3)
def Qg9 (N : Nat) (p0 : GDay) (p1 : (List Int)) : Option Int :=
  Qb4 (fun y1 =>
    some y1) fun k2 : Int → Option Int =>
  Qda N p0 p1 k2 N 0 0
def Qlb (p1 : (List Int)) : AV := .dat 1 ((p1 : List Int).map Qab)
def z99_0 (p0 : GDay) : AV := .dat 2 ((p0.Hours : List GHour).map Qak)
def Qmw (p0 : GDay) : Slot := .own 3 [[(I (p0.Tank)), (I (p0.Start)), (z99_0 p0)]]
set_option maxRecDepth 100000 in
set_option maxHeartbeats 4000000 in
theorem Qjk (N : Nat) (p0 : GDay) (p1 : (List Int)) (r : Int) (h : Qg9 N p0 p1 = some r) : Spec Try.prog 35 [(.agg (Qhj p0)), (.dat 1 (p1.map Qab))] [] (I r) [] := by
  refine Qaj Try.func35 rfl 0 (nle rfl) (fun X φ0 w0 hφ0 => ?_)
  unfold Qg9 at h
  refine wx tbk [] trivial ?_
  refine wx tbk [] trivial ?_
  obtain ⟨k2, hk_k2, h⟩ := jko h
  refine wjn (τ := Int) (fun t => k2 t = some r) (fun y1 => ⟨mk 55 [(5, I y1)], []⟩) (fun y1 h => ?_) ?_
  ·subst hk_k2
   refine wx tbk [] trivial ?_
   refine Qai ?_
   obtain rfl := osi h
   exact fend ⟨[I y1], ⟨rot (by kernel_rfl), trivial⟩, rfl⟩ nll
  ·skip
   refine wx tbk [] trivial ?_
   refine Qag ?_
   refine wmr (mto (n := 55) (l' := [(1, (Qlb p1)), (2, .ref 0 3 0 0), (5, I 0), (6, I 0)]) (own' := [(Qmw p0)]) [(1, (Qlb p1)), (2, .ref 0 3 0 0), (5, I 0), (6, I 0)] [0] [(Qmw p0)] hφ0 (pc (.rn (.plain _ (nld Qaa _))) (pc (.rn (rqr rfl)) (pc rwl (pc rwl pn)))) (qc (spb (lc rwl (lc rwl (lc (.rn (.plain _ (nld Qad _))) ln)))) qn)) ?_
   refine Qbu (τ := Int × Int) (fun n t => Qda N p0 p1 k2 n t.1 t.2 = some r) (fun ⟨y3, y4⟩ => ⟨mk 55 [(1, (Qlb p1)), (2, .ref 0 3 0 0), (5, I y3), (6, I y4)], [(Qmw p0)]⟩) (fun t h => by rw [Qda] at h; cases h) (fun n7 ih t h => ?_) N (0, 0) h
   obtain ⟨y3, y4⟩ := t
   rw [Qda] at h
   skip
   refine wsq ?_
   refine wx tbk [(2, rp [(.tmp 12, (Qlb p1))] (I ((p1.length : Int))))] ⟨alm (c := Qab) (l := p1) (aln rfl Try.underlying23 rfl), trivial⟩ ?_
   rcases bft ((decide (y4 < (p1.length : Int)))) with hc8 | hc8
   ·replace h := Qar hc8 h
    refine wft hc8 (by kernel_rfl) ?_
    refine Qah ?_
    refine thn ?_
    obtain ⟨k10, hk_k10, h⟩ := jko h
    refine wjn (τ := Int) (fun t => k10 t = some r) (fun y9 => ⟨mk 55 [(1, (Qlb p1)), (2, .ref 0 3 0 0), (5, I y9), (6, I y4)], [(Qmw p0)]⟩) (fun y9 h => ?_) ?_
    ·subst hk_k10
     refine wx1 tbk [] trivial ?_
     refine thn ?_
     exact arm (mto (n := 55) [(1, (Qlb p1)), (2, .ref 0 3 0 0), (5, I y9), (6, (I (w64 (y4 + 1))))] [0] [(Qmw p0)] hφ0 (pc (.rn (.plain _ (nld Qaa _))) (pc (.rn (rqr rfl)) (pc rwl (pc rwl pn)))) (qc (spb (lc rwl (lc rwl (lc (.rn (.plain _ (nld Qad _))) ln)))) qn)) (ih (y9, w64 (y4 + 1)) h)
    ·skip
     refine Qag ?_
     obtain ⟨x11, hg12, h⟩ := bno h
     obtain ⟨hi13, hj14⟩ := gsm hg12
     refine wx tbk [(2, rp [(.tmp 17, (Qlb p1)), (.tmp 18, I y4)] (.dptr (Qab (x11)) 0))] ⟨aid rfl Try.underlying23 ti3 rfl rfl hi13 (mgt Qab hj14) rfl, trivial⟩ ?_
     refine wx tbk [] trivial ?_
     refine Qag ?_
     refine wmr (mto (n := 55) (l' := [(1, (Qlb p1)), (2, .ref 0 3 0 0), (5, I y3), (6, I y4), (7, I x11), (8, I 0)]) (own' := [(Qmw p0)]) [(1, (Qlb p1)), (2, .ref 0 3 0 0), (5, I y3), (6, I y4), (7, I x11), (8, I 0)] [0] [(Qmw p0)] hφ0 (pc (.rn (.plain _ (nld Qaa _))) (pc (.rn (rqr rfl)) (pc rwl (pc rwl (pc rwl (pc rwl pn)))))) (qc (spb (lc rwl (lc rwl (lc (.rn (.plain _ (nld Qad _))) ln)))) qn)) ?_
     refine Qbu (τ := Int × Int × Int) (fun n t => Qds N p0 y4 k10 n t.1 t.2.1 t.2.2 = some r) (fun ⟨y15, y16, y17⟩ => ⟨mk 55 [(1, (Qlb p1)), (2, .ref 0 3 0 0), (5, I y15), (6, I y4), (7, I y16), (8, I y17)], [(Qmw p0)]⟩) (fun t h => by rw [Qds] at h; cases h) (fun n21 ih t h => ?_) N (y3, x11, 0) h
     obtain ⟨y15, y16, y17⟩ := t
     rw [Qds] at h
     skip
     refine wsq ?_
     obtain ⟨x22, hg23, h⟩ := bno h
     obtain ⟨hi24, hj25⟩ := gsm hg23
     refine wx tbk [(4, rp [(.tmp 23, (z99_0 p0)), (.tmp 24, I y4)] (.dptr (Qak (x22)) 0)), (7, rp [(.tmp 27, (.dat 2 ((x22.Stairs : List GStair).map Qal)))] (I ((x22.Stairs.length : Int))))] ⟨aid rfl Try.underlying39 Qkg rfl rfl hi24 (mgt Qak hj25) rfl, alm (c := Qal) (l := x22.Stairs) (aln rfl Try.underlying145 rfl), trivial⟩ ?_
     rcases bft ((decide (y17 < (x22.Stairs.length : Int)))) with hc26 | hc26
     ·replace h := Qar hc26 h
      refine wft hc26 (by kernel_rfl) ?_
      refine Qah ?_
      refine thn ?_
      refine wsq ?_
      refine Qag ?_
      obtain ⟨x27, hg28, h⟩ := bno h
      obtain ⟨hi29, hj30⟩ := gsm hg28
      refine wx tbk [(3, rp [(.tmp 33, (z99_0 p0)), (.tmp 34, I y4)] (.dptr (Qak (x22)) 0)), (7, rp [(.tmp 37, (.dat 2 ((x22.Stairs : List GStair).map Qal))), (.tmp 38, I y17)] (.dptr (Qal (x27)) 0))] ⟨aid rfl Try.underlying39 Qkg rfl rfl hi24 (mgt Qak hj25) rfl, aid rfl Try.underlying145 Qqt rfl rfl hi29 (mgt Qal hj30) rfl, trivial⟩ ?_
      obtain ⟨x31, hl32, h⟩ := bno h
      refine wx tbk [(3, rp [(.tmp 41, I y16), (.tmp 43, I x27.Amount)] (I ((if x27.Amount < y16 then x27.Amount else y16)))), (4, rp [(.tmp 44, (I ((if x27.Amount < y16 then x27.Amount else y16))))] (I x31))] ⟨Qgq rfl, Qd7 hl32 (aas rfl), trivial⟩ ?_
      obtain ⟨x33, hl34, h⟩ := bno h
      refine wx tbk [(6, rp [(.tmp 50, (I (w64 (y15 + (w64 (x31 * x27.Price))))))] (I x33))] ⟨Qd7 hl34 (aas rfl), trivial⟩ ?_
      refine wx1 tbk [] trivial ?_
      refine bln ?_
      refine thn ?_
      refine wx1 tbk [] trivial ?_
      refine thn ?_
      exact arm (mto (n := 55) [(1, (Qlb p1)), (2, .ref 0 3 0 0), (5, I x33), (6, I y4), (7, (I (w64 (y16 - x31)))), (8, (I (w64 (y17 + 1))))] [0] [(Qmw p0)] hφ0 (pc (.rn (.plain _ (nld Qaa _))) (pc (.rn (rqr rfl)) (pc rwl (pc rwl (pc rwl (pc rwl pn)))))) (qc (spb (lc rwl (lc rwl (lc (.rn (.plain _ (nld Qad _))) ln)))) qn)) (ih (x33, w64 (y16 - x31), w64 (y17 + 1)) h)
     ·replace h := Qas hc26 h
      refine wfn hc26 (by kernel_rfl) ?_
      refine Qa2 ?_
      refine Qao ?_
      refine Qao ?_
      refine Qa1 rfl ?_
      refine bln ?_
      refine thn ?_
      exact ⟨(y15), h, (mto (n := 55) [(1, (Qlb p1)), (2, .ref 0 3 0 0), (5, I y15), (6, I y4)] [0] [(Qmw p0)] hφ0 (pc (.rn (.plain _ (nld Qaa _))) (pc (.rn (rqr rfl)) (pc rwl (pc rwl pn)))) (qc (spb (lc rwl (lc rwl (lc (.rn (.plain _ (nld Qad _))) ln)))) qn))⟩
   ·replace h := Qas hc8 h
    refine wfn hc8 (by kernel_rfl) ?_
    refine Qa2 ?_
    refine Qao ?_
    refine Qao ?_
    refine Qa1 rfl ?_
    refine thn ?_
    exact ⟨(y3), h, (mto (n := 55) [(5, I y3)] [] [] hφ0 (pc rwl pn) qn)⟩
def Qd0 (N : Nat) (x11 : GHour) (k17 : (List GHour) × (List GStair) → Option GDay) : Nat → Int → (List GHour) → (List GStair) → Option GDay
  | 0, _, _, _ => none
  | n25 + 1, y19, y20, y21 =>
    bif (decide (y19 < (x11.Stairs.length : Int))) then
     (getI x11.Stairs y19).bind fun x27 =>
     chk (decide ((y21.length + ([x27]).length) * 16 ≤ 140737488355328)) <|
     Qd0 N x11 k17 n25 (w64 (y19 + 1)) y20 (y21 ++ ([x27]))
    else
     k17 (y20, y21)
def Qdn (N : Nat) (p0 : GDay) (k2 : (List GHour) → Option GDay) : Nat → Int → (List GHour) → Option GDay
  | 0, _, _ => none
  | n7 + 1, y3, y4 =>
    bif (decide (y3 < (p0.Hours.length : Int))) then
     Qb4 (fun y9 =>
       Qdn N p0 k2 n7 (w64 (y3 + 1)) y9) fun k10 : (List GHour) → Option GDay =>
     (getI p0.Hours y3).bind fun x11 =>
     Qb4 (fun ⟨y15, y16⟩ =>
       chk (decide ((y15.length + ([(⟨x11.Use, y16⟩ : GHour)]).length) * 32 ≤ 140737488355328)) <|
       k10 (y15 ++ ([(⟨x11.Use, y16⟩ : GHour)]))) fun k17 : (List GHour) × (List GStair) → Option GDay =>
     Qd0 N x11 k17 N 0 y4 ([])
    else
     k2 (y4)
def Qhx (N : Nat) (p0 : GDay) : Option GDay :=
  Qb4 (fun y1 =>
    some (⟨p0.Tank, p0.Start, y1⟩ : GDay)) fun k2 : (List GHour) → Option GDay =>
  Qdn N p0 k2 N 0 ([])
def Qhg : Slot := .own 3 [[(I (0)), (I (0)), nilS]]
def Qn6 (y1 : (List GHour)) : AV := .acc 2 62 2 ((y1 : List GHour).map Qak)
def Qph (p0 : GDay) : AV := .dat 2 ((p0.Hours : List GHour).map Qak)
def Qif (p0 : GDay) : Slot := .own 3 [[(I (p0.Tank)), (I (p0.Start)), (Qph p0)]]
def Qn7 (p0 : GDay) (y4 : (List GHour)) : Slot := .own 3 [[(I (p0.Tank)), (I (p0.Start)), (.acc 3 62 2 ((y4 : List GHour).map Qak))]]
def Qr6 (y16 : (List GStair)) : AV := .acc 5 64 2 ((y16 : List GStair).map Qal)
def Qxo : AV := .acc 5 64 2 ((([]) : List GStair).map Qal)
def Qxp : AV := .acc 5 64 2 (([] : List GStair).map Qal)
def Qn4 (p0 : GDay) (y20 : (List GHour)) : Slot := .own 3 [[(I (p0.Tank)), (I (p0.Start)), (.acc 4 62 2 ((y20 : List GHour).map Qak))]]
def Qn5 (y21 : (List GStair)) : AV := .acc 5 64 2 ((y21 : List GStair).map Qal)
def Qn3 (x27 : GStair) : AV := .agg [(I (x27.Amount)), (I (x27.Price))]
set_option maxRecDepth 100000 in
set_option maxHeartbeats 4000000 in
theorem Qoo (N : Nat) (p0 : GDay) (r : GDay) (h : Qhx N p0 = some r) : Spec Try.prog 31 [(.agg (Qhj p0))] [] (.agg (Qhj r)) [] := by
  refine Qaj Try.func31 rfl 0 (nle rfl) (fun X φ0 w0 hφ0 => ?_)
  unfold Qhx at h
  refine wx tbk [] trivial ?_
  refine wx tbk [(4, rp [(.tmp 9, I p0.Tank), (.tmp 11, I p0.Start)] (.agg [I p0.Tank, I p0.Start, nilS]))] ⟨Qbh (vs := [I p0.Tank, I p0.Start]) rfl ts47 tz47 rfl (by rfl) rfl, trivial⟩ ?_
  obtain ⟨k2, hk_k2, h⟩ := jko h
  refine wjn (τ := (List GHour)) (fun t => k2 t = some r) (fun y1 => ⟨mk 64 [(2, .ref 0 3 0 0), (3, .ref 1 3 0 0)], [Qhg, (.own 3 [[I p0.Tank, I p0.Start, (Qn6 y1)]]), .tok]⟩) (fun y1 h => ?_) ?_
  ·subst hk_k2
   refine wx tbk [] trivial ?_
   refine Qai ?_
   obtain rfl := osi h
   exact fend ⟨[(.agg [I p0.Tank, I p0.Start, (.dat 2 ((y1 : List GHour).map Qak))])], ⟨Qgb (v := (.agg [I p0.Tank, I p0.Start, (Qn6 y1)])) (Qfr (n := 0) (m := 3) (j := 0) (i := 0) (xs := [[I p0.Tank, I p0.Start, (Qn6 y1)]]) (by kernel_rfl) (by kernel_rfl) ti47 (by decide) rfl (nle rfl) rfl) (Less.agg ⟨lrf, lrf, Less.acc, trivial⟩), trivial⟩, rfl⟩ (NLt.agg _ (nlc nll (nlc nll (nlc (nld Qad _) nl0))))
  ·skip
   refine wx tbk [] trivial ?_
   refine Qag ?_
   refine wmr (Mor.trans (Qsi (n := 3) (ty := 62) (m := 2) (q := 2) (mq := 3) (c := [I p0.Tank, I p0.Start, nilS]) 2 (by kernel_rfl) (by kernel_rfl) (by kernel_rfl) (by decide)) (mto (n := 64) (l' := [(1, .ref 0 3 0 0), (2, .ref 1 3 0 0), (3, .ref 2 3 0 0), (4, I 0)]) (own' := [(Qif p0), Qhg, (.own 3 [[I p0.Tank, I p0.Start, (.acc 3 62 2 ((([]) : List GHour).map Qak))]]), .tok]) [(1, .ref 0 3 0 0), (2, .ref 1 3 0 0), (3, .ref 2 3 0 0), (4, I 0)] [0, 1, 2, 3] [(Qif p0), Qhg, (.own 3 [[I p0.Tank, I p0.Start, (.acc 3 62 2 (([] : List GHour).map Qak))]]), .tok] hφ0 (pc (.rn (rqr rfl)) (pc (.rn (rqr rfl)) (pc (.rn (rqr rfl)) (pc rwl pn)))) (qc (spb (lc rwl (lc rwl (lc (.rn (.plain _ (nld Qad _))) ln)))) (qc (spb (lc rwl (lc rwl (lc rwl ln)))) (qc (spb (lc rwl (lc rwl (lc (.rn (Qga rfl (Qfe Qad _))) ln)))) (qc .tok qn)))))) ?_
   refine Qbu (τ := Int × (List GHour)) (fun n t => Qdn N p0 k2 n t.1 t.2 = some r) (fun ⟨y3, y4⟩ => ⟨mk 64 [(1, .ref 0 3 0 0), (2, .ref 1 3 0 0), (3, .ref 2 3 0 0), (4, I y3)], [(Qif p0), Qhg, (Qn7 p0 y4), .tok]⟩) (fun t h => by rw [Qdn] at h; cases h) (fun n7 ih t h => ?_) N (0, []) h
   obtain ⟨y3, y4⟩ := t
   rw [Qdn] at h
   skip
   refine wsq ?_
   refine wx tbk [(3, rp [(.tmp 15, (Qph p0))] (I ((p0.Hours.length : Int))))] ⟨alm (c := Qak) (l := p0.Hours) (aln rfl Try.underlying39 rfl), trivial⟩ ?_
   rcases bft ((decide (y3 < (p0.Hours.length : Int)))) with hc8 | hc8
   ·replace h := Qar hc8 h
    refine wft hc8 (by kernel_rfl) ?_
    refine Qah ?_
    refine thn ?_
    obtain ⟨k10, hk_k10, h⟩ := jko h
    refine wjn (τ := (List GHour)) (fun t => k10 t = some r) (fun y9 => ⟨mk 64 [(1, .ref 0 3 0 0), (2, .ref 1 3 0 0), (3, .ref 2 3 0 0), (4, I y3)], [(Qif p0), Qhg, (.own 3 [[I p0.Tank, I p0.Start, (.acc 3 62 2 ((y9 : List GHour).map Qak))]]), .tok]⟩) (fun y9 h => ?_) ?_
    ·subst hk_k10
     refine wx1 tbk [] trivial ?_
     refine thn ?_
     exact arm (mto (n := 64) [(1, .ref 0 3 0 0), (2, .ref 1 3 0 0), (3, .ref 2 3 0 0), (4, (I (w64 (y3 + 1))))] [0, 1, 2, 3] [(Qif p0), Qhg, (.own 3 [[I p0.Tank, I p0.Start, (.acc 3 62 2 ((y9 : List GHour).map Qak))]]), .tok] hφ0 (pc (.rn (rqr rfl)) (pc (.rn (rqr rfl)) (pc (.rn (rqr rfl)) (pc rwl pn)))) (qc (spb (lc rwl (lc rwl (lc (.rn (.plain _ (nld Qad _))) ln)))) (qc (spb (lc rwl (lc rwl (lc rwl ln)))) (qc (spb (lc rwl (lc rwl (lc (.rn (Qga rfl (Qfe Qad _))) ln)))) (qc .tok qn))))) (ih (w64 (y3 + 1), y9) h)
    ·skip
     refine Qag ?_
     obtain ⟨x11, hg12, h⟩ := bno h
     obtain ⟨hi13, hj14⟩ := gsm hg12
     refine wx tbk [(3, rp [(.tmp 21, (Qph p0)), (.tmp 22, I y3)] (.dptr (Qak (x11)) 0)), (6, rp [(.tmp 25, I x11.Use)] (.agg [I x11.Use, nilS]))] ⟨aid rfl Try.underlying39 Qkg rfl rfl hi13 (mgt Qak hj14) rfl, Qbh (vs := [I x11.Use]) rfl ts62 tz62 rfl (by rfl) rfl, trivial⟩ ?_
     obtain ⟨k17, hk_k17, h⟩ := jko h
     refine wjn (τ := (List GHour) × (List GStair)) (fun t => k17 t = some r) (fun ⟨y15, y16⟩ => ⟨mk 64 [(1, .ref 0 3 0 0), (2, .ref 1 3 0 0), (3, .ref 2 3 0 0), (4, I y3), (5, .ref 3 2 0 0)], [(Qif p0), Qhg, (.own 3 [[I p0.Tank, I p0.Start, (.acc 4 62 2 ((y15 : List GHour).map Qak))]]), (.own 2 [[I x11.Use, (Qr6 y16)]]), .tok, .tok]⟩) (fun t h => ?_) ?_
     ·subst hk_k17
      obtain ⟨y15, y16⟩ := t
      obtain ⟨ha18, h⟩ := cko h
      refine wx1 tbk [(3, rp [(.tmp 59, (.agg [I x11.Use, (Qr6 y16)]))] (.dat 2 (([(⟨x11.Use, y16⟩ : GHour)] : List GHour).map Qak))), (4, ⟨[(.tmp 58, (.acc 4 62 2 ((y15 : List GHour).map Qak))), (.tmp 60, (.dat 2 (([(⟨x11.Use, y16⟩ : GHour)] : List GHour).map Qak)))], [(4, .tok), (6, .unused)], (.acc 6 62 2 ((y15 ++ ([(⟨x11.Use, y16⟩ : GHour)]) : List GHour).map Qak)), [(4, .dead), (6, .tok)], false⟩)] ⟨awk (rd' := [(.tmp 59, (.agg [I x11.Use, (.dat 2 ((y16 : List GStair).map Qal))]))]) ⟨rfl, (Less.agg ⟨lrf, Less.acc, trivial⟩), trivial⟩ (Qa7 (vs := [(.agg [I x11.Use, (.dat 2 ((y16 : List GStair).map Qal))])]) rfl Try.underlying45 ti62 tz62 rfl (by decide) rfl (by decide) (by rfl) (by rfl) (by rfl) rfl), Qmq rfl Try.underlying45 te62 (Base.acc _ _) rfl rfl (by rfl) (Qrl Qak ha18) (Qrk Qak ha18 (by decide)) (Qrj Qak) rfl rfl, trivial⟩ ?_
      refine bln ?_
      refine thn ?_
      exact ⟨(y15 ++ ([(⟨x11.Use, y16⟩ : GHour)])), h, (mto (n := 64) [(1, .ref 0 3 0 0), (2, .ref 1 3 0 0), (3, .ref 2 3 0 0), (4, I y3)] [0, 1, 2, 6] [(Qif p0), Qhg, (.own 3 [[I p0.Tank, I p0.Start, (.acc 6 62 2 ((y15 ++ ([(⟨x11.Use, y16⟩ : GHour)]) : List GHour).map Qak))]]), .tok] hφ0 (pc (.rn (rqr rfl)) (pc (.rn (rqr rfl)) (pc (.rn (rqr rfl)) (pc rwl pn)))) (qc (spb (lc rwl (lc rwl (lc (.rn (.plain _ (nld Qad _))) ln)))) (qc (spb (lc rwl (lc rwl (lc rwl ln)))) (qc (spb (lc rwl (lc rwl (lc (.rn (Qga rfl (Qfe Qad _))) ln)))) (qc .tok qn)))))⟩
     ·skip
      refine wx tbk [] trivial ?_
      refine Qag ?_
      refine wmr (Mor.trans (Qsi (n := 5) (ty := 64) (m := 2) (q := 4) (mq := 2) (c := [I x11.Use, nilS]) 1 (by kernel_rfl) (by kernel_rfl) (by kernel_rfl) (by decide)) (mto (n := 64) (l' := [(1, .ref 0 3 0 0), (2, .ref 1 3 0 0), (3, .ref 2 3 0 0), (4, I y3), (5, .ref 3 2 0 0), (6, I 0)]) (own' := [(Qif p0), Qhg, (.own 3 [[I p0.Tank, I p0.Start, (.acc 4 62 2 ((y4 : List GHour).map Qak))]]), (.own 2 [[I x11.Use, Qxo]]), .tok, .tok]) [(1, .ref 0 3 0 0), (2, .ref 1 3 0 0), (3, .ref 2 3 0 0), (4, I y3), (5, .ref 4 2 0 0), (6, I 0)] [0, 1, 2, 4, 3, 5] [(Qif p0), Qhg, (Qn7 p0 y4), (.own 2 [[I x11.Use, Qxp]]), .tok, .tok] hφ0 (pc (.rn (rqr rfl)) (pc (.rn (rqr rfl)) (pc (.rn (rqr rfl)) (pc rwl (pc (.rn (rqr rfl)) (pc rwl pn)))))) (qc (spb (lc rwl (lc rwl (lc (.rn (.plain _ (nld Qad _))) ln)))) (qc (spb (lc rwl (lc rwl (lc rwl ln)))) (qc (spb (lc rwl (lc rwl (lc (.rn (Qga rfl (Qfe Qad _))) ln)))) (qc (spb (lc rwl (lc (.rn (Qga rfl (Qfe Qa5 _))) ln))) (qc .tok (qc .tok qn)))))))) ?_
      refine Qbu (τ := Int × (List GHour) × (List GStair)) (fun n t => Qd0 N x11 k17 n t.1 t.2.1 t.2.2 = some r) (fun ⟨y19, y20, y21⟩ => ⟨mk 64 [(1, .ref 0 3 0 0), (2, .ref 1 3 0 0), (3, .ref 2 3 0 0), (4, I y3), (5, .ref 3 2 0 0), (6, I y19)], [(Qif p0), Qhg, (Qn4 p0 y20), (.own 2 [[I x11.Use, (Qn5 y21)]]), .tok, .tok]⟩) (fun t h => by rw [Qd0] at h; cases h) (fun n25 ih t h => ?_) N (0, y4, []) h
      obtain ⟨y19, y20, y21⟩ := t
      rw [Qd0] at h
      skip
      refine wsq ?_
      refine wx tbk [(4, rp [(.tmp 29, (Qph p0)), (.tmp 30, I y3)] (.dptr (Qak (x11)) 0)), (7, rp [(.tmp 33, (.dat 2 ((x11.Stairs : List GStair).map Qal)))] (I ((x11.Stairs.length : Int))))] ⟨aid rfl Try.underlying39 Qkg rfl rfl hi13 (mgt Qak hj14) rfl, alm (c := Qal) (l := x11.Stairs) (aln rfl Try.underlying145 rfl), trivial⟩ ?_
      rcases bft ((decide (y19 < (x11.Stairs.length : Int)))) with hc26 | hc26
      ·replace h := Qar hc26 h
       refine wft hc26 (by kernel_rfl) ?_
       refine Qah ?_
       refine thn ?_
       refine wsq ?_
       refine Qag ?_
       obtain ⟨x27, hg28, h⟩ := bno h
       obtain ⟨hi29, hj30⟩ := gsm hg28
       refine wx tbk [(3, rp [(.tmp 39, (Qph p0)), (.tmp 40, I y3)] (.dptr (Qak (x11)) 0)), (7, rp [(.tmp 43, (.dat 2 ((x11.Stairs : List GStair).map Qal))), (.tmp 44, I y19)] (.dptr (Qal (x27)) 0))] ⟨aid rfl Try.underlying39 Qkg rfl rfl hi13 (mgt Qak hj14) rfl, aid rfl Try.underlying145 Qqt rfl rfl hi29 (mgt Qal hj30) rfl, trivial⟩ ?_
       obtain ⟨ha31, h⟩ := cko h
       refine wx1 tbk [(6, rp [(.tmp 50, I x27.Amount), (.tmp 52, I x27.Price)] (Qn3 x27)), (7, rp [(.tmp 53, (Qn3 x27))] (.dat 2 (([x27] : List GStair).map Qal))), (8, ⟨[(.tmp 48, (Qn5 y21)), (.tmp 54, (.dat 2 (([x27] : List GStair).map Qal)))], [(5, .tok), (7, .unused)], (.acc 7 64 2 ((y21 ++ ([x27]) : List GStair).map Qal)), [(5, .dead), (7, .tok)], false⟩)] ⟨Qbh (vs := [I x27.Amount, I x27.Price]) rfl ts64 tz64 rfl (by rfl) rfl, Qa7 (vs := [(Qn3 x27)]) rfl Try.underlying60 ti64 tz64 rfl (by decide) rfl (by decide) (by rfl) (by rfl) (by rfl) rfl, Qmq rfl Try.underlying60 te64 (Base.acc _ _) rfl rfl (by rfl) (Qrl Qal ha31) (Qrk Qal ha31 (by decide)) (Qrj Qal) rfl rfl, trivial⟩ ?_
       refine bln ?_
       refine thn ?_
       refine wx1 tbk [] trivial ?_
       refine thn ?_
       exact arm (mto (n := 64) [(1, .ref 0 3 0 0), (2, .ref 1 3 0 0), (3, .ref 2 3 0 0), (4, I y3), (5, .ref 3 2 0 0), (6, (I (w64 (y19 + 1))))] [0, 1, 2, 3, 4, 7] [(Qif p0), Qhg, (Qn4 p0 y20), (.own 2 [[I x11.Use, (.acc 7 64 2 ((y21 ++ ([x27]) : List GStair).map Qal))]]), .tok, .tok] hφ0 (pc (.rn (rqr rfl)) (pc (.rn (rqr rfl)) (pc (.rn (rqr rfl)) (pc rwl (pc (.rn (rqr rfl)) (pc rwl pn)))))) (qc (spb (lc rwl (lc rwl (lc (.rn (.plain _ (nld Qad _))) ln)))) (qc (spb (lc rwl (lc rwl (lc rwl ln)))) (qc (spb (lc rwl (lc rwl (lc (.rn (Qga rfl (Qfe Qad _))) ln)))) (qc (spb (lc rwl (lc (.rn (Qga rfl (Qfe Qa5 _))) ln))) (qc .tok (qc .tok qn))))))) (ih (w64 (y19 + 1), y20, y21 ++ ([x27])) h)
      ·replace h := Qas hc26 h
       refine wfn hc26 (by kernel_rfl) ?_
       refine Qa2 ?_
       refine Qao ?_
       refine Qao ?_
       refine Qa1 rfl ?_
       refine thn ?_
       exact ⟨(y20, y21), h, (mto (n := 64) [(1, .ref 0 3 0 0), (2, .ref 1 3 0 0), (3, .ref 2 3 0 0), (4, I y3), (5, .ref 3 2 0 0)] [0, 1, 2, 3, 4, 5] [(Qif p0), Qhg, (Qn4 p0 y20), (.own 2 [[I x11.Use, (Qn5 y21)]]), .tok, .tok] hφ0 (pc (.rn (rqr rfl)) (pc (.rn (rqr rfl)) (pc (.rn (rqr rfl)) (pc rwl (pc (.rn (rqr rfl)) pn))))) (qc (spb (lc rwl (lc rwl (lc (.rn (.plain _ (nld Qad _))) ln)))) (qc (spb (lc rwl (lc rwl (lc rwl ln)))) (qc (spb (lc rwl (lc rwl (lc (.rn (Qga rfl (Qfe Qad _))) ln)))) (qc (spb (lc rwl (lc (.rn (Qga rfl (Qfe Qa5 _))) ln))) (qc .tok (qc .tok qn)))))))⟩
   ·replace h := Qas hc8 h
    refine wfn hc8 (by kernel_rfl) ?_
    refine Qa2 ?_
    refine Qao ?_
    refine Qao ?_
    refine Qa1 rfl ?_
    refine thn ?_
    exact ⟨(y4), h, (mto (n := 64) [(2, .ref 1 3 0 0), (3, .ref 2 3 0 0)] [1, 2, 3] [Qhg, (Qn7 p0 y4), .tok] hφ0 (pc (.rn (rqr rfl)) (pc (.rn (rqr rfl)) pn)) (qc (spb (lc rwl (lc rwl (lc rwl ln)))) (qc (spb (lc rwl (lc rwl (lc (.rn (Qga rfl (Qfe Qad _))) ln)))) (qc .tok qn))))⟩
def Qdz (N : Nat) (p0 : GDay) (k1 : Unit → Option Bool) : Nat → Int → Option Bool
  | 0, _ => none
  | n4 + 1, y2 =>
    bif (decide (y2 < (p0.Hours.length : Int))) then
     (getI p0.Hours y2).bind fun x6 =>
     bif (decide ((x6.Stairs.length : Int) > 10)) then
      some false
     else
      Qdz N p0 k1 n4 (w64 (y2 + 1))
    else
     k1 ()
def Qhw (N : Nat) (p0 : GDay) : Option Bool :=
  Qb4 (fun _ =>
    some (decide ((p0.Hours.length : Int) ≤ 30))) fun k1 : Unit → Option Bool =>
  Qdz N p0 k1 N 0
def Qr5 (p0 : GDay) : AV := .dat 2 ((p0.Hours : List GHour).map Qak)
def Qm2 (p0 : GDay) : Slot := .own 3 [[(I (p0.Tank)), (I (p0.Start)), (Qr5 p0)]]
set_option maxRecDepth 100000 in
set_option maxHeartbeats 4000000 in
theorem Qon (N : Nat) (p0 : GDay) (r : Bool) (h : Qhw N p0 = some r) : Spec Try.prog 29 [(.agg (Qhj p0))] [] (B r) [] := by
  refine Qaj Try.func29 rfl 0 (nle rfl) (fun X φ0 w0 hφ0 => ?_)
  unfold Qhw at h
  refine wx tbk [] trivial ?_
  obtain ⟨k1, hk_k1, h⟩ := jko h
  refine wjn (τ := Unit) (fun t => k1 t = some r) (fun _ => ⟨mk 23 [(1, .ref 0 3 0 0)], [(Qm2 p0)]⟩) (fun t h => ?_) ?_
  ·subst hk_k1
   refine wx tbk [(2, rp [(.tmp 20, (Qr5 p0))] (I ((p0.Hours.length : Int))))] ⟨alm (c := Qak) (l := p0.Hours) (aln rfl Try.underlying39 rfl), trivial⟩ ?_
   refine Qai ?_
   obtain rfl := osi h
   exact fend ⟨[(B ((decide ((p0.Hours.length : Int) ≤ 30))))], ⟨rot (by kernel_rfl), trivial⟩, rfl⟩ nll
  ·skip
   refine wx tbk [] trivial ?_
   refine Qag ?_
   refine wmr (mto (n := 23) (l' := [(1, .ref 0 3 0 0), (3, I 0)]) (own' := [(Qm2 p0)]) [(1, .ref 0 3 0 0), (3, I 0)] [0] [(Qm2 p0)] hφ0 (pc (.rn (rqr rfl)) (pc rwl pn)) (qc (spb (lc rwl (lc rwl (lc (.rn (.plain _ (nld Qad _))) ln)))) qn)) ?_
   refine Qbu (τ := Int) (fun n t => Qdz N p0 k1 n t = some r) (fun y2 => ⟨mk 23 [(1, .ref 0 3 0 0), (3, I y2)], [(Qm2 p0)]⟩) (fun t h => by rw [Qdz] at h; cases h) (fun n4 ih y2 h => ?_) N (0) h
   rw [Qdz] at h
   skip
   refine wsq ?_
   refine wx tbk [(3, rp [(.tmp 6, (Qr5 p0))] (I ((p0.Hours.length : Int))))] ⟨alm (c := Qak) (l := p0.Hours) (aln rfl Try.underlying39 rfl), trivial⟩ ?_
   rcases bft ((decide (y2 < (p0.Hours.length : Int)))) with hc5 | hc5
   ·replace h := Qar hc5 h
    refine wft hc5 (by kernel_rfl) ?_
    refine Qah ?_
    refine thn ?_
    refine wsq ?_
    refine Qag ?_
    obtain ⟨x6, hg7, h⟩ := bno h
    obtain ⟨hi8, hj9⟩ := gsm hg7
    refine wx tbk [(3, rp [(.tmp 12, (Qr5 p0)), (.tmp 13, I y2)] (.dptr (Qak (x6)) 0)), (6, rp [(.tmp 16, (.dat 2 ((x6.Stairs : List GStair).map Qal)))] (I ((x6.Stairs.length : Int))))] ⟨aid rfl Try.underlying39 Qkg rfl rfl hi8 (mgt Qak hj9) rfl, alm (c := Qal) (l := x6.Stairs) (aln rfl Try.underlying145 rfl), trivial⟩ ?_
    rcases bft ((decide ((x6.Stairs.length : Int) > 10))) with hc10 | hc10
    ·replace h := Qar hc10 h
     refine wft hc10 (by kernel_rfl) ?_
     refine wx tbk [] trivial ?_
     refine Qai ?_
     refine Qam ?_
     refine Qae ?_
     refine Qae ?_
     refine Qam ?_
     refine Qae ?_
     obtain rfl := osi h
     exact fend ⟨[B false], ⟨rot (by kernel_rfl), trivial⟩, rfl⟩ nll
    ·replace h := Qas hc10 h
     refine wfn hc10 (by kernel_rfl) ?_
     refine Qah ?_
     refine bln ?_
     refine thn ?_
     refine wx1 tbk [] trivial ?_
     refine thn ?_
     exact arm (mto (n := 23) [(1, .ref 0 3 0 0), (3, (I (w64 (y2 + 1))))] [0] [(Qm2 p0)] hφ0 (pc (.rn (rqr rfl)) (pc rwl pn)) (qc (spb (lc rwl (lc rwl (lc (.rn (.plain _ (nld Qad _))) ln)))) qn)) (ih (w64 (y2 + 1)) h)
   ·replace h := Qas hc5 h
    refine wfn hc5 (by kernel_rfl) ?_
    refine Qa2 ?_
    refine Qao ?_
    refine Qao ?_
    refine Qa1 rfl ?_
    refine thn ?_
    exact ⟨(), h, (mto (n := 23) [(1, .ref 0 3 0 0)] [0] [(Qm2 p0)] hφ0 (pc (.rn (rqr rfl)) pn) (qc (spb (lc rwl (lc rwl (lc (.rn (.plain _ (nld Qad _))) ln)))) qn))⟩
def Qef (N : Nat) (p0 : GDay) (p1 : (List Int)) (k3 : (List Int) → Option ((List Int) × Bool)) : Nat → (List Int) → Int → Int → Option ((List Int) × Bool)
  | 0, _, _, _ => none
  | n10 + 1, y4, y5, y6 =>
    bif (decide (y6 < (p0.Hours.length : Int))) then
     (getI p0.Hours y6).bind fun x12 =>
     (getI p1 y6).bind fun x16 =>
     (Qeh N x12).bind fun x21 =>
     (Qch N x16 0 x21).bind fun x23 =>
     bif (!x23) then
      some ([], false)
     else
      (some (w64 (y5 + (w64 (x16 - x12.Use))))).bind fun x25 =>
      (Qch N x25 0 p0.Tank).bind fun x28 =>
      bif (!x28) then
       some ([], false)
      else
       chk (decide ((y4.length + ([x25]).length) * 8 ≤ 140737488355328)) <|
       Qef N p0 p1 k3 n10 (y4 ++ ([x25])) x25 (w64 (y6 + 1))
    else
     k3 (y4)
def Qgv (N : Nat) (p0 : GDay) (p1 : (List Int)) : Option ((List Int) × Bool) :=
  bif ((p1.length : Int) != (p0.Hours.length : Int)) then
   some ([], false)
  else
   Qb4 (fun y2 =>
     some (y2, true)) fun k3 : (List Int) → Option ((List Int) × Bool) =>
   Qef N p0 p1 k3 N ([]) p0.Start 0
def Qfk (N : Nat) (p0 : GDay) (p1 : (List Int)) (k8 : Int → Option (Int × Int)) : Nat → Int → Int → Option (Int × Int)
  | 0, _, _ => none
  | n13 + 1, y9, y10 =>
    bif (decide (y10 < (p0.Hours.length : Int))) then
     (getI p0.Hours y10).bind fun x15 =>
     (getI p1 y10).bind fun x19 =>
     (Qeq N x15 x19).bind fun x24 =>
     Qfk N p0 p1 k8 n13 (w64 (y9 + x24)) (w64 (y10 + 1))
    else
     k8 (y9)
def Qi3 (N : Nat) (p0 : GDay) (p1 : (List Int)) : Option (Int × Int) :=
  (Qer N p0).bind fun x2 =>
  bif (!x2) then
   some (0, 1)
  else
   (Qgv N p0 p1).bind fun x5 =>
   bif (!x5.2) then
    some (0, 2)
   else
    Qb4 (fun y7 =>
      some (y7, 0)) fun k8 : Int → Option (Int × Int) =>
    Qfk N p0 p1 k8 N 0 0
end Go.Proofs.Ytgdepcgbjjgnfaa
