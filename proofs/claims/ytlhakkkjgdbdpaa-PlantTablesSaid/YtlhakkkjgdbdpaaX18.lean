/-
  Functions of the program: what they compute, as plain functions, and that they do. No conditions.
-/
import Derived.Test.YtlhakkkjgdbdpaaX14
namespace Go.Proofs.Ytlhakkkjgdbdpaa
open Go.RowKit
def Qdi (N : Nat) (p0 : GJob) (p2 : (List (List Int))) (y12 : Int) (y17 : Int) (k21 : Unit → Option Bool) : Nat → Int → Option Bool
  | 0, _ => none
  | n24 + 1, y22 =>
    bif (decide (y22 < (p0.Levels.length : Int))) then
     (Qet N p0 y12 y17 y22).bind fun x27 =>
     bif x27 then
      (getI p2 y12).bind fun x29 =>
      (getI x29 y17).bind fun x33 =>
      (Qha N p0 y12 y17 y22).bind fun x38 =>
      (getI p2 (w64 (y12 + 1))).bind fun x39 =>
      (getI x39 y22).bind fun x43 =>
      bif (decide (x33 < (w64 (x38 + x43)))) then
       some false
      else
       Qdi N p0 p2 y12 y17 k21 n24 (w64 (y22 + 1))
     else
      Qdi N p0 p2 y12 y17 k21 n24 (w64 (y22 + 1))
    else
     k21 ()
def Qdj (N : Nat) (p0 : GJob) (p2 : (List (List Int))) (y12 : Int) (k16 : Unit → Option Bool) : Nat → Int → Option Bool
  | 0, _ => none
  | n19 + 1, y17 =>
    bif (decide (y17 < (p0.Levels.length : Int))) then
     Qb0 (fun _ =>
       Qdj N p0 p2 y12 k16 n19 (w64 (y17 + 1))) fun k21 : Unit → Option Bool =>
     Qdi N p0 p2 y12 y17 k21 N 0
    else
     k16 ()
def Qdk (N : Nat) (p0 : GJob) (p2 : (List (List Int))) (k3 : Unit → Option Bool) : Nat → Int → Option Bool
  | 0, _ => none
  | n14 + 1, y12 =>
    bif (decide (y12 < (p0.Hours.length : Int))) then
     Qb0 (fun _ =>
       Qdk N p0 p2 k3 n14 (w64 (y12 + 1))) fun k16 : Unit → Option Bool =>
     Qdj N p0 p2 y12 k16 N 0
    else
     k3 ()
def Qdh (N : Nat) (p2 : (List (List Int))) (y48 : Int) (k52 : Unit → Option Bool) (x53 : (List Int)) : Nat → Int → Option Bool
  | 0, _ => none
  | n60 + 1, y58 =>
    bif (decide (y58 < (x53.length : Int))) then
     (getI x53 y58).bind fun x62 =>
     (Qez N x62 (-1000000000000) 1000000000000).bind fun x67 =>
     bif (!x67) then
      some false
     else
      bif (y48 == (w64 ((p2.length : Int) - 1))) then
       bif (decide (x62 < 0)) then
        some false
       else
        Qdh N p2 y48 k52 x53 n60 (w64 (y58 + 1))
      else
       Qdh N p2 y48 k52 x53 n60 (w64 (y58 + 1))
    else
     k52 ()
def Qd7 (N : Nat) (p0 : GJob) (k2 : Unit → Option Bool) (p2 : (List (List Int))) : Nat → Int → Option Bool
  | 0, _ => none
  | n50 + 1, y48 =>
    bif (decide (y48 < (p2.length : Int))) then
     Qb0 (fun _ =>
       Qd7 N p0 k2 p2 n50 (w64 (y48 + 1))) fun k52 : Unit → Option Bool =>
     (getI p2 y48).bind fun x53 =>
     bif ((x53.length : Int) != (p0.Levels.length : Int)) then
      some false
     else
      Qdh N p2 y48 k52 x53 N 0
    else
     k2 ()
def Qil (N : Nat) (p0 : GJob) (p1 : Int) (p2 : (List (List Int))) : Option Bool :=
  bif ((p2.length : Int) != (w64 ((p0.Hours.length : Int) + 1))) then
   some false
  else
   Qb0 (fun _ =>
     Qb0 (fun _ =>
       (getI p2 0).bind fun x4 =>
       (getI x4 p0.First).bind fun x8 =>
       some (decide (x8 ≤ p1))) fun k3 : Unit → Option Bool =>
     Qdk N p0 p2 k3 N 0) fun k2 : Unit → Option Bool =>
   Qd7 N p0 k2 p2 N 0
def Qdb (p2 : (List (List Int))) : AV := .dat 1 ((p2 : List (List Int)).map Qa3)
def Qwe (p0 : GJob) : AV := .dat 2 ((p0.Hours : List GHour).map Qax)
def Qtc (p0 : GJob) : AV := .dat 1 ((p0.Levels : List Int).map Qab)
def Qes (p0 : GJob) : Slot := .own 5 [[(Qtc p0), (I (p0.Ramp)), (I (p0.Start)), (I (p0.First)), (Qwe p0)]]
def Qqp (p0 : GJob) : AV := .agg [(Qtc p0), (I (p0.Ramp)), (I (p0.Start)), (I (p0.First)), (Qwe p0)]
def Qn4 (x53 : (List Int)) : AV := .dat 1 ((x53 : List Int).map Qab)
set_option maxRecDepth 100000 in
set_option maxHeartbeats 4000000 in
theorem Qpo (N : Nat) (p0 : GJob) (p1 : Int) (p2 : (List (List Int))) (r : Bool) (h : Qil N p0 p1 p2 = some r) : Spec Try.prog 54 [(.agg (Qhk p0)), (I p1), (.dat 1 (p2.map Qa3))] [] (B r) [] := by
  refine Qae Try.func54 rfl 0 (nle rfl) (fun X φ0 w0 hφ0 => ?_)
  unfold Qil at h
  refine wx tbk [] trivial ?_
  refine wsq ?_
  refine wx tbk [(1, rp [(.tmp 12, (Qdb p2))] (I ((p2.length : Int)))), (4, rp [(.tmp 15, (Qwe p0))] (I ((p0.Hours.length : Int))))] ⟨alm (c := Qa3) (l := p2) (aln rfl Try.underlying42 rfl), alm (c := Qax) (l := p0.Hours) (aln rfl Try.underlying38 rfl), trivial⟩ ?_
  rcases bft (((p2.length : Int) != (w64 ((p0.Hours.length : Int) + 1)))) with hc1 | hc1
  ·replace h := Qas hc1 h
   refine wft hc1 (by kernel_rfl) ?_
   refine wx tbk [] trivial ?_
   refine Qad ?_
   refine Qam ?_
   obtain rfl := osi h
   exact fend ⟨[B false], ⟨rot (by kernel_rfl), trivial⟩, rfl⟩ nll
  ·replace h := Qat hc1 h
   refine wfn hc1 (by kernel_rfl) ?_
   refine Qai ?_
   refine thn ?_
   obtain ⟨k2, hk_k2, h⟩ := jko h
   refine wjn (τ := Unit) (fun t => k2 t = some r) (fun _ => ⟨mk 128 [(1, I p1), (2, (Qdb p2)), (3, .ref 0 5 0 0)], [(Qes p0)]⟩) (fun t h => ?_) ?_
   ·subst hk_k2
    obtain ⟨k3, hk_k3, h⟩ := jko h
    refine wjn (τ := Unit) (fun t => k3 t = some r) (fun _ => ⟨mk 128 [(1, I p1), (2, (Qdb p2)), (3, .ref 0 5 0 0)], [(Qes p0)]⟩) (fun t h => ?_) ?_
    ·subst hk_k3
     obtain ⟨x4, hg5, h⟩ := bno h
     obtain ⟨hi6, hj7⟩ := gsm hg5
     obtain ⟨x8, hg9, h⟩ := bno h
     obtain ⟨hi10, hj11⟩ := gsm hg9
     refine wxd tbk [(1, rp [(.tmp 119, (Qdb p2)), ci 0] (.dptr (Qa3 (x4)) 0)), (5, rp [(.tmp 121, (.dat 1 ((x4 : List Int).map Qab))), (.tmp 123, I p0.First)] (.dptr (Qab (x8)) 0))] ⟨aid rfl Try.underlying42 ti37 rfl rfl hi6 (mgt Qa3 hj7) rfl, aid rfl Try.underlying37 ti3 rfl rfl hi10 (mgt Qab hj11) rfl, trivial⟩ ?_
     refine Qad ?_
     obtain rfl := osi h
     exact fend ⟨[(B ((decide (x8 ≤ p1))))], ⟨rot (by kernel_rfl), trivial⟩, rfl⟩ nll
    ·skip
     refine wx tbk [] trivial ?_
     refine Qaf ?_
     refine wmr (mto (n := 128) (l' := [(1, I p1), (2, (Qdb p2)), (3, .ref 0 5 0 0), (9, I 0)]) (own' := [(Qes p0)]) [(1, I p1), (2, (Qdb p2)), (3, .ref 0 5 0 0), (9, I 0)] [0] [(Qes p0)] hφ0 (pc rwl (pc (.rn (.plain _ (nld Qa4 _))) (pc (.rn (rqr rfl)) (pc rwl pn)))) (qc (spb (lc (.rn (.plain _ (nld Qaa _))) (lc rwl (lc rwl (lc rwl (lc (.rn (.plain _ (nld Qac _))) ln)))))) qn)) ?_
     refine Qbk (τ := Int) (fun n t => Qdk N p0 p2 k3 n t = some r) (fun y12 => ⟨mk 128 [(1, I p1), (2, (Qdb p2)), (3, .ref 0 5 0 0), (9, I y12)], [(Qes p0)]⟩) (fun t h => by rw [Qdk] at h; cases h) (fun n14 ih y12 h => ?_) N (0) h
     rw [Qdk] at h
     skip
     refine wsq ?_
     refine wx tbk [(3, rp [(.tmp 71, (Qwe p0))] (I ((p0.Hours.length : Int))))] ⟨alm (c := Qax) (l := p0.Hours) (aln rfl Try.underlying38 rfl), trivial⟩ ?_
     rcases bft ((decide (y12 < (p0.Hours.length : Int)))) with hc15 | hc15
     ·replace h := Qas hc15 h
      refine wft hc15 (by kernel_rfl) ?_
      refine Qai ?_
      refine thn ?_
      obtain ⟨k16, hk_k16, h⟩ := jko h
      refine wjn (τ := Unit) (fun t => k16 t = some r) (fun _ => ⟨mk 128 [(1, I p1), (2, (Qdb p2)), (3, .ref 0 5 0 0), (9, I y12)], [(Qes p0)]⟩) (fun t h => ?_) ?_
      ·subst hk_k16
       refine wx1 tbk [] trivial ?_
       refine thn ?_
       exact arm (mto (n := 128) [(1, I p1), (2, (Qdb p2)), (3, .ref 0 5 0 0), (9, (I (w64 (y12 + 1))))] [0] [(Qes p0)] hφ0 (pc rwl (pc (.rn (.plain _ (nld Qa4 _))) (pc (.rn (rqr rfl)) (pc rwl pn)))) (qc (spb (lc (.rn (.plain _ (nld Qaa _))) (lc rwl (lc rwl (lc rwl (lc (.rn (.plain _ (nld Qac _))) ln)))))) qn)) (ih (w64 (y12 + 1)) h)
      ·skip
       refine Qaf ?_
       refine wx tbk [] trivial ?_
       refine Qaf ?_
       refine wmr (mto (n := 128) (l' := [(1, I p1), (2, (Qdb p2)), (3, .ref 0 5 0 0), (9, I y12), (10, I 0)]) (own' := [(Qes p0)]) [(1, I p1), (2, (Qdb p2)), (3, .ref 0 5 0 0), (9, I y12), (10, I 0)] [0] [(Qes p0)] hφ0 (pc rwl (pc (.rn (.plain _ (nld Qa4 _))) (pc (.rn (rqr rfl)) (pc rwl (pc rwl pn))))) (qc (spb (lc (.rn (.plain _ (nld Qaa _))) (lc rwl (lc rwl (lc rwl (lc (.rn (.plain _ (nld Qac _))) ln)))))) qn)) ?_
       refine Qbk (τ := Int) (fun n t => Qdj N p0 p2 y12 k16 n t = some r) (fun y17 => ⟨mk 128 [(1, I p1), (2, (Qdb p2)), (3, .ref 0 5 0 0), (9, I y12), (10, I y17)], [(Qes p0)]⟩) (fun t h => by rw [Qdj] at h; cases h) (fun n19 ih y17 h => ?_) N (0) h
       rw [Qdj] at h
       skip
       refine wsq ?_
       refine wx tbk [(3, rp [(.tmp 78, (Qtc p0))] (I ((p0.Levels.length : Int))))] ⟨alm (c := Qab) (l := p0.Levels) (aln rfl Try.underlying37 rfl), trivial⟩ ?_
       rcases bft ((decide (y17 < (p0.Levels.length : Int)))) with hc20 | hc20
       ·replace h := Qas hc20 h
        refine wft hc20 (by kernel_rfl) ?_
        refine Qai ?_
        refine thn ?_
        obtain ⟨k21, hk_k21, h⟩ := jko h
        refine wjn (τ := Unit) (fun t => k21 t = some r) (fun _ => ⟨mk 128 [(1, I p1), (2, (Qdb p2)), (3, .ref 0 5 0 0), (9, I y12), (10, I y17)], [(Qes p0)]⟩) (fun t h => ?_) ?_
        ·subst hk_k21
         refine wx1 tbk [] trivial ?_
         refine thn ?_
         exact arm (mto (n := 128) [(1, I p1), (2, (Qdb p2)), (3, .ref 0 5 0 0), (9, I y12), (10, (I (w64 (y17 + 1))))] [0] [(Qes p0)] hφ0 (pc rwl (pc (.rn (.plain _ (nld Qa4 _))) (pc (.rn (rqr rfl)) (pc rwl (pc rwl pn))))) (qc (spb (lc (.rn (.plain _ (nld Qaa _))) (lc rwl (lc rwl (lc rwl (lc (.rn (.plain _ (nld Qac _))) ln)))))) qn)) (ih (w64 (y17 + 1)) h)
        ·skip
         refine Qaf ?_
         refine wx tbk [] trivial ?_
         refine Qaf ?_
         refine wmr (mto (n := 128) (l' := [(1, I p1), (2, (Qdb p2)), (3, .ref 0 5 0 0), (9, I y12), (10, I y17), (11, I 0)]) (own' := [(Qes p0)]) [(1, I p1), (2, (Qdb p2)), (3, .ref 0 5 0 0), (9, I y12), (10, I y17), (11, I 0)] [0] [(Qes p0)] hφ0 (pc rwl (pc (.rn (.plain _ (nld Qa4 _))) (pc (.rn (rqr rfl)) (pc rwl (pc rwl (pc rwl pn)))))) (qc (spb (lc (.rn (.plain _ (nld Qaa _))) (lc rwl (lc rwl (lc rwl (lc (.rn (.plain _ (nld Qac _))) ln)))))) qn)) ?_
         refine Qbk (τ := Int) (fun n t => Qdi N p0 p2 y12 y17 k21 n t = some r) (fun y22 => ⟨mk 128 [(1, I p1), (2, (Qdb p2)), (3, .ref 0 5 0 0), (9, I y12), (10, I y17), (11, I y22)], [(Qes p0)]⟩) (fun t h => by rw [Qdi] at h; cases h) (fun n24 ih y22 h => ?_) N (0) h
         rw [Qdi] at h
         skip
         refine wsq ?_
         refine wx tbk [(3, rp [(.tmp 85, (Qtc p0))] (I ((p0.Levels.length : Int))))] ⟨alm (c := Qab) (l := p0.Levels) (aln rfl Try.underlying37 rfl), trivial⟩ ?_
         rcases bft ((decide (y22 < (p0.Levels.length : Int)))) with hc25 | hc25
         ·replace h := Qas hc25 h
          refine wft hc25 (by kernel_rfl) ?_
          refine Qai ?_
          refine thn ?_
          refine wsq ?_
          refine Qaf ?_
          obtain ⟨x27, hf26, h⟩ := bno h
          rcases bft (x27) with hb28 | hb28
          ·replace h := Qas hb28 h
           obtain ⟨x29, hg30, h⟩ := bno h
           obtain ⟨hi31, hj32⟩ := gsm hg30
           obtain ⟨x33, hg34, h⟩ := bno h
           obtain ⟨hi35, hj36⟩ := gsm hg34
           obtain ⟨x38, hf37, h⟩ := bno h
           obtain ⟨x39, hg40, h⟩ := bno h
           obtain ⟨hi41, hj42⟩ := gsm hg40
           obtain ⟨x43, hg44, h⟩ := bno h
           obtain ⟨hi45, hj46⟩ := gsm hg44
           refine wxd tbk [(4, rp [fu 77, (.tmp 90, (Qqp p0)), (.tmp 91, I y12), (.tmp 92, I y17), (.tmp 93, I y22)] (B x27)), (5, rp [(.tmp 94, B x27)] (B true)), (8, rp [(.tmp 95, B true), (.tmp 96, (Qdb p2)), (.tmp 97, I y12)] (.dptr (Qa3 (x29)) 0)), (11, rp [(.tmp 95, B true), (.tmp 99, (.dat 1 ((x29 : List Int).map Qab))), (.tmp 100, I y17)] (.dptr (Qab (x33)) 0)), (17, rp [(.tmp 95, B true), fu 78, (.tmp 103, (Qqp p0)), (.tmp 104, I y12), (.tmp 105, I y17), (.tmp 106, I y22)] (I x38)), (21, rp [(.tmp 95, B true), (.tmp 108, (Qdb p2)), (.tmp 110, (I (w64 (y12 + 1))))] (.dptr (Qa3 (x39)) 0)), (24, rp [(.tmp 95, B true), (.tmp 112, (.dat 1 ((x39 : List Int).map Qab))), (.tmp 113, I y22)] (.dptr (Qab (x43)) 0))] ⟨apc (first := []) (cap := []) (vs := [(Qqp p0), I y12, I y17, I y22]) rfl Qp2 (Qfu N p0 y12 y17 y22 _ hf26) rfl rfl (nlc (NLt.agg _ (nlc (nld Qaa _) (nlc nll (nlc nll (nlc nll (nlc (nld Qac _) nl0)))))) (nlc nll (nlc nll (nlc nll nl0)))) nll rfl, asb hb28 (amv rfl), ag_ (aid rfl Try.underlying42 ti37 rfl rfl hi31 (mgt Qa3 hj32) rfl), ag_ (aid rfl Try.underlying37 ti3 rfl rfl hi35 (mgt Qab hj36) rfl), ag_ (apc (first := []) (cap := []) (vs := [(Qqp p0), I y12, I y17, I y22]) rfl Qvm (Qj2 N p0 y12 y17 y22 _ hf37) rfl rfl (nlc (NLt.agg _ (nlc (nld Qaa _) (nlc nll (nlc nll (nlc nll (nlc (nld Qac _) nl0)))))) (nlc nll (nlc nll (nlc nll nl0)))) nll rfl), ag_ (aid rfl Try.underlying42 ti37 rfl rfl hi41 (mgt Qa3 hj42) rfl), ag_ (aid rfl Try.underlying37 ti3 rfl rfl hi45 (mgt Qab hj46) rfl), trivial⟩ ?_
           rcases bft ((decide (x33 < (w64 (x38 + x43))))) with hc47 | hc47
           ·replace h := Qas hc47 h
            refine wft hc47 (by kernel_rfl) ?_
            refine wx tbk [] trivial ?_
            refine Qad ?_
            refine Qay ?_
            refine Qam ?_
            refine Qam ?_
            refine Qay ?_
            refine Qay ?_
            refine Qam ?_
            refine Qam ?_
            refine Qay ?_
            refine Qay ?_
            refine Qam ?_
            refine Qam ?_
            refine Qay ?_
            refine Qam ?_
            obtain rfl := osi h
            exact fend ⟨[B false], ⟨rot (by kernel_rfl), trivial⟩, rfl⟩ nll
           ·replace h := Qat hc47 h
            refine wfn hc47 (by kernel_rfl) ?_
            refine Qai ?_
            refine bln ?_
            refine thn ?_
            refine wx1 tbk [] trivial ?_
            refine thn ?_
            exact arm (mto (n := 128) [(1, I p1), (2, (Qdb p2)), (3, .ref 0 5 0 0), (9, I y12), (10, I y17), (11, (I (w64 (y22 + 1))))] [0] [(Qes p0)] hφ0 (pc rwl (pc (.rn (.plain _ (nld Qa4 _))) (pc (.rn (rqr rfl)) (pc rwl (pc rwl (pc rwl pn)))))) (qc (spb (lc (.rn (.plain _ (nld Qaa _))) (lc rwl (lc rwl (lc rwl (lc (.rn (.plain _ (nld Qac _))) ln)))))) qn)) (ih (w64 (y22 + 1)) h)
          ·replace h := Qat hb28 h
           refine wxd tbk [(4, rp [fu 77, (.tmp 90, (Qqp p0)), (.tmp 91, I y12), (.tmp 92, I y17), (.tmp 93, I y22)] (B x27)), (5, rp [(.tmp 94, B x27)] (B false))] ⟨apc (first := []) (cap := []) (vs := [(Qqp p0), I y12, I y17, I y22]) rfl Qp2 (Qfu N p0 y12 y17 y22 _ hf26) rfl rfl (nlc (NLt.agg _ (nlc (nld Qaa _) (nlc nll (nlc nll (nlc nll (nlc (nld Qac _) nl0)))))) (nlc nll (nlc nll (nlc nll nl0)))) nll rfl, asb hb28 (amv rfl), trivial⟩ ?_
           refine Qd2 (by kernel_rfl) ?_
           refine Qai ?_
           refine bln ?_
           refine thn ?_
           refine wx1 tbk [] trivial ?_
           refine thn ?_
           exact arm (mto (n := 128) [(1, I p1), (2, (Qdb p2)), (3, .ref 0 5 0 0), (9, I y12), (10, I y17), (11, (I (w64 (y22 + 1))))] [0] [(Qes p0)] hφ0 (pc rwl (pc (.rn (.plain _ (nld Qa4 _))) (pc (.rn (rqr rfl)) (pc rwl (pc rwl (pc rwl pn)))))) (qc (spb (lc (.rn (.plain _ (nld Qaa _))) (lc rwl (lc rwl (lc rwl (lc (.rn (.plain _ (nld Qac _))) ln)))))) qn)) (ih (w64 (y22 + 1)) h)
         ·replace h := Qat hc25 h
          refine wfn hc25 (by kernel_rfl) ?_
          refine Qa2 ?_
          refine Qaq ?_
          refine Qaq ?_
          refine Qa1 rfl ?_
          refine bln ?_
          refine thn ?_
          exact ⟨(), h, (mto (n := 128) [(1, I p1), (2, (Qdb p2)), (3, .ref 0 5 0 0), (9, I y12), (10, I y17)] [0] [(Qes p0)] hφ0 (pc rwl (pc (.rn (.plain _ (nld Qa4 _))) (pc (.rn (rqr rfl)) (pc rwl (pc rwl pn))))) (qc (spb (lc (.rn (.plain _ (nld Qaa _))) (lc rwl (lc rwl (lc rwl (lc (.rn (.plain _ (nld Qac _))) ln)))))) qn))⟩
       ·replace h := Qat hc20 h
        refine wfn hc20 (by kernel_rfl) ?_
        refine Qa2 ?_
        refine Qaq ?_
        refine Qaq ?_
        refine Qa1 rfl ?_
        refine bln ?_
        refine thn ?_
        exact ⟨(), h, (mto (n := 128) [(1, I p1), (2, (Qdb p2)), (3, .ref 0 5 0 0), (9, I y12)] [0] [(Qes p0)] hφ0 (pc rwl (pc (.rn (.plain _ (nld Qa4 _))) (pc (.rn (rqr rfl)) (pc rwl pn)))) (qc (spb (lc (.rn (.plain _ (nld Qaa _))) (lc rwl (lc rwl (lc rwl (lc (.rn (.plain _ (nld Qac _))) ln)))))) qn))⟩
     ·replace h := Qat hc15 h
      refine wfn hc15 (by kernel_rfl) ?_
      refine Qa2 ?_
      refine Qaq ?_
      refine Qaq ?_
      refine Qa1 rfl ?_
      refine thn ?_
      exact ⟨(), h, (mto (n := 128) [(1, I p1), (2, (Qdb p2)), (3, .ref 0 5 0 0)] [0] [(Qes p0)] hφ0 (pc rwl (pc (.rn (.plain _ (nld Qa4 _))) (pc (.rn (rqr rfl)) pn))) (qc (spb (lc (.rn (.plain _ (nld Qaa _))) (lc rwl (lc rwl (lc rwl (lc (.rn (.plain _ (nld Qac _))) ln)))))) qn))⟩
   ·skip
    refine wx tbk [] trivial ?_
    refine Qaf ?_
    refine wmr (mto (n := 128) (l' := [(1, I p1), (2, (Qdb p2)), (3, .ref 0 5 0 0), (7, I 0)]) (own' := [(Qes p0)]) [(1, I p1), (2, (Qdb p2)), (3, .ref 0 5 0 0), (7, I 0)] [0] [(Qes p0)] hφ0 (pc rwl (pc (.rn (.plain _ (nld Qa4 _))) (pc (.rn (rqr rfl)) (pc rwl pn)))) (qc (spb (lc (.rn (.plain _ (nld Qaa _))) (lc rwl (lc rwl (lc rwl (lc (.rn (.plain _ (nld Qac _))) ln)))))) qn)) ?_
    refine Qbk (τ := Int) (fun n t => Qd7 N p0 k2 p2 n t = some r) (fun y48 => ⟨mk 128 [(1, I p1), (2, (Qdb p2)), (3, .ref 0 5 0 0), (7, I y48)], [(Qes p0)]⟩) (fun t h => by rw [Qd7] at h; cases h) (fun n50 ih y48 h => ?_) N (0) h
    rw [Qd7] at h
    skip
    refine wsq ?_
    refine wx tbk [(2, rp [(.tmp 20, (Qdb p2))] (I ((p2.length : Int))))] ⟨alm (c := Qa3) (l := p2) (aln rfl Try.underlying42 rfl), trivial⟩ ?_
    rcases bft ((decide (y48 < (p2.length : Int)))) with hc51 | hc51
    ·replace h := Qas hc51 h
     refine wft hc51 (by kernel_rfl) ?_
     refine Qai ?_
     refine thn ?_
     obtain ⟨k52, hk_k52, h⟩ := jko h
     refine wjn (τ := Unit) (fun t => k52 t = some r) (fun _ => ⟨mk 128 [(1, I p1), (2, (Qdb p2)), (3, .ref 0 5 0 0), (7, I y48)], [(Qes p0)]⟩) (fun t h => ?_) ?_
     ·subst hk_k52
      refine wx1 tbk [] trivial ?_
      refine thn ?_
      exact arm (mto (n := 128) [(1, I p1), (2, (Qdb p2)), (3, .ref 0 5 0 0), (7, (I (w64 (y48 + 1))))] [0] [(Qes p0)] hφ0 (pc rwl (pc (.rn (.plain _ (nld Qa4 _))) (pc (.rn (rqr rfl)) (pc rwl pn)))) (qc (spb (lc (.rn (.plain _ (nld Qaa _))) (lc rwl (lc rwl (lc rwl (lc (.rn (.plain _ (nld Qac _))) ln)))))) qn)) (ih (w64 (y48 + 1)) h)
     ·skip
      refine Qaf ?_
      refine wsq ?_
      obtain ⟨x53, hg54, h⟩ := bno h
      obtain ⟨hi55, hj56⟩ := gsm hg54
      refine wxd tbk [(2, rp [(.tmp 25, (Qdb p2)), (.tmp 26, I y48)] (.dptr (Qa3 (x53)) 0)), (4, rp [(.tmp 28, (Qn4 x53))] (I ((x53.length : Int)))), (7, rp [(.tmp 31, (Qtc p0))] (I ((p0.Levels.length : Int))))] ⟨aid rfl Try.underlying42 ti37 rfl rfl hi55 (mgt Qa3 hj56) rfl, alm (c := Qab) (l := x53) (aln rfl Try.underlying37 rfl), alm (c := Qab) (l := p0.Levels) (aln rfl Try.underlying37 rfl), trivial⟩ ?_
      rcases bft (((x53.length : Int) != (p0.Levels.length : Int))) with hc57 | hc57
      ·replace h := Qas hc57 h
       refine wft hc57 (by kernel_rfl) ?_
       refine wx tbk [] trivial ?_
       refine Qad ?_
       refine Qam ?_
       refine Qay ?_
       refine Qam ?_
       refine Qam ?_
       refine Qay ?_
       refine Qam ?_
       obtain rfl := osi h
       exact fend ⟨[B false], ⟨rot (by kernel_rfl), trivial⟩, rfl⟩ nll
      ·replace h := Qat hc57 h
       refine wfn hc57 (by kernel_rfl) ?_
       refine Qai ?_
       refine thn ?_
       refine wx tbk [] trivial ?_
       refine Qaf ?_
       refine wmr (mto (n := 128) (l' := [(1, I p1), (2, (Qdb p2)), (3, .ref 0 5 0 0), (7, I y48), (8, I 0)]) (own' := [(Qes p0)]) [(1, I p1), (2, (Qdb p2)), (3, .ref 0 5 0 0), (7, I y48), (8, I 0)] [0] [(Qes p0)] hφ0 (pc rwl (pc (.rn (.plain _ (nld Qa4 _))) (pc (.rn (rqr rfl)) (pc rwl (pc rwl pn))))) (qc (spb (lc (.rn (.plain _ (nld Qaa _))) (lc rwl (lc rwl (lc rwl (lc (.rn (.plain _ (nld Qac _))) ln)))))) qn)) ?_
       refine Qbk (τ := Int) (fun n t => Qdh N p2 y48 k52 x53 n t = some r) (fun y58 => ⟨mk 128 [(1, I p1), (2, (Qdb p2)), (3, .ref 0 5 0 0), (7, I y48), (8, I y58)], [(Qes p0)]⟩) (fun t h => by rw [Qdh] at h; cases h) (fun n60 ih y58 h => ?_) N (0) h
       rw [Qdh] at h
       skip
       refine wsq ?_
       refine wx tbk [(3, rp [(.tmp 35, (Qdb p2)), (.tmp 36, I y48)] (.dptr (Qa3 (x53)) 0)), (5, rp [(.tmp 38, (Qn4 x53))] (I ((x53.length : Int))))] ⟨aid rfl Try.underlying42 ti37 rfl rfl hi55 (mgt Qa3 hj56) rfl, alm (c := Qab) (l := x53) (aln rfl Try.underlying37 rfl), trivial⟩ ?_
       rcases bft ((decide (y58 < (x53.length : Int)))) with hc61 | hc61
       ·replace h := Qas hc61 h
        refine wft hc61 (by kernel_rfl) ?_
        refine Qai ?_
        refine thn ?_
        refine wsq ?_
        refine Qaf ?_
        obtain ⟨x62, hg63, h⟩ := bno h
        obtain ⟨hi64, hj65⟩ := gsm hg63
        obtain ⟨x67, hf66, h⟩ := bno h
        rcases bft ((!x67)) with hb68 | hb68
        ·replace h := Qas hb68 h
         refine wx tbk [(2, rp [(.tmp 43, (Qdb p2)), (.tmp 44, I y48)] (.dptr (Qa3 (x53)) 0)), (5, rp [(.tmp 46, (Qn4 x53)), (.tmp 47, I y58)] (.dptr (Qab (x62)) 0)), (7, rp [fu 25, (.tmp 49, I x62), ci (-1000000000000), ci 1000000000000] (B x67)), (9, rp [(.tmp 51, (B ((!x67))))] (B true))] ⟨aid rfl Try.underlying42 ti37 rfl rfl hi55 (mgt Qa3 hj56) rfl, aid rfl Try.underlying37 ti3 rfl rfl hi64 (mgt Qab hj65) rfl, apc (first := []) (cap := []) (vs := [I x62, (I ((-1000000000000))), I 1000000000000]) rfl Qfn (Qb4 N x62 (-1000000000000) 1000000000000 _ hf66) rfl rfl (nlc nll (nlc nll (nlc nll nl0))) nll rfl, asb hb68 (amv rfl), trivial⟩ ?_
         refine Qff (by kernel_rfl) ?_
         refine wx tbk [] trivial ?_
         refine Qad ?_
         refine Qay ?_
         refine Qam ?_
         refine Qam ?_
         refine Qay ?_
         refine Qay ?_
         refine Qam ?_
         refine Qam ?_
         refine Qay ?_
         refine Qam ?_
         obtain rfl := osi h
         exact fend ⟨[B false], ⟨rot (by kernel_rfl), trivial⟩, rfl⟩ nll
        ·replace h := Qat hb68 h
         rcases bft ((y48 == (w64 ((p2.length : Int) - 1)))) with hb69 | hb69
         ·replace h := Qas hb69 h
          refine wx tbk [(2, rp [(.tmp 43, (Qdb p2)), (.tmp 44, I y48)] (.dptr (Qa3 (x53)) 0)), (5, rp [(.tmp 46, (Qn4 x53)), (.tmp 47, I y58)] (.dptr (Qab (x62)) 0)), (7, rp [fu 25, (.tmp 49, I x62), ci (-1000000000000), ci 1000000000000] (B x67)), (9, rp [(.tmp 51, (B ((!x67))))] (B false)), (12, rp [(.tmp 52, B false), (.tmp 54, (Qdb p2))] (I ((p2.length : Int)))), (15, rp [(.tmp 52, B false), (.tmp 57, (B ((y48 == (w64 ((p2.length : Int) - 1))))))] (B true)), (18, rp [(.tmp 58, B true), (.tmp 59, (Qdb p2)), (.tmp 60, I y48)] (.dptr (Qa3 (x53)) 0)), (21, rp [(.tmp 58, B true), (.tmp 62, (Qn4 x53)), (.tmp 63, I y58)] (.dptr (Qab (x62)) 0))] ⟨aid rfl Try.underlying42 ti37 rfl rfl hi55 (mgt Qa3 hj56) rfl, aid rfl Try.underlying37 ti3 rfl rfl hi64 (mgt Qab hj65) rfl, apc (first := []) (cap := []) (vs := [I x62, (I ((-1000000000000))), I 1000000000000]) rfl Qfn (Qb4 N x62 (-1000000000000) 1000000000000 _ hf66) rfl rfl (nlc nll (nlc nll (nlc nll nl0))) nll rfl, asb hb68 (amv rfl), ag_ (alm (c := Qa3) (l := p2) (aln rfl Try.underlying42 rfl)), asb hb69 (ag_ (amv rfl)), ag_ (aid rfl Try.underlying42 ti37 rfl rfl hi55 (mgt Qa3 hj56) rfl), ag_ (aid rfl Try.underlying37 ti3 rfl rfl hi64 (mgt Qab hj65) rfl), trivial⟩ ?_
          rcases bft ((decide (x62 < 0))) with hc70 | hc70
          ·replace h := Qas hc70 h
           refine wft hc70 (by kernel_rfl) ?_
           refine wx tbk [] trivial ?_
           refine Qad ?_
           refine Qay ?_
           refine Qam ?_
           refine Qam ?_
           refine Qay ?_
           refine Qay ?_
           refine Qam ?_
           refine Qam ?_
           refine Qay ?_
           refine Qam ?_
           obtain rfl := osi h
           exact fend ⟨[B false], ⟨rot (by kernel_rfl), trivial⟩, rfl⟩ nll
          ·replace h := Qat hc70 h
           refine wfn hc70 (by kernel_rfl) ?_
           refine Qai ?_
           refine bln ?_
           refine thn ?_
           refine wx1 tbk [] trivial ?_
           refine thn ?_
           exact arm (mto (n := 128) [(1, I p1), (2, (Qdb p2)), (3, .ref 0 5 0 0), (7, I y48), (8, (I (w64 (y58 + 1))))] [0] [(Qes p0)] hφ0 (pc rwl (pc (.rn (.plain _ (nld Qa4 _))) (pc (.rn (rqr rfl)) (pc rwl (pc rwl pn))))) (qc (spb (lc (.rn (.plain _ (nld Qaa _))) (lc rwl (lc rwl (lc rwl (lc (.rn (.plain _ (nld Qac _))) ln)))))) qn)) (ih (w64 (y58 + 1)) h)
         ·replace h := Qat hb69 h
          refine wx tbk [(2, rp [(.tmp 43, (Qdb p2)), (.tmp 44, I y48)] (.dptr (Qa3 (x53)) 0)), (5, rp [(.tmp 46, (Qn4 x53)), (.tmp 47, I y58)] (.dptr (Qab (x62)) 0)), (7, rp [fu 25, (.tmp 49, I x62), ci (-1000000000000), ci 1000000000000] (B x67)), (9, rp [(.tmp 51, (B ((!x67))))] (B false)), (12, rp [(.tmp 52, B false), (.tmp 54, (Qdb p2))] (I ((p2.length : Int)))), (15, rp [(.tmp 52, B false), (.tmp 57, (B ((y48 == (w64 ((p2.length : Int) - 1))))))] (B false))] ⟨aid rfl Try.underlying42 ti37 rfl rfl hi55 (mgt Qa3 hj56) rfl, aid rfl Try.underlying37 ti3 rfl rfl hi64 (mgt Qab hj65) rfl, apc (first := []) (cap := []) (vs := [I x62, (I ((-1000000000000))), I 1000000000000]) rfl Qfn (Qb4 N x62 (-1000000000000) 1000000000000 _ hf66) rfl rfl (nlc nll (nlc nll (nlc nll nl0))) nll rfl, asb hb68 (amv rfl), ag_ (alm (c := Qa3) (l := p2) (aln rfl Try.underlying42 rfl)), asb hb69 (ag_ (amv rfl)), trivial⟩ ?_
          refine Qd2 (by kernel_rfl) ?_
          refine Qai ?_
          refine bln ?_
          refine thn ?_
          refine wx1 tbk [] trivial ?_
          refine thn ?_
          exact arm (mto (n := 128) [(1, I p1), (2, (Qdb p2)), (3, .ref 0 5 0 0), (7, I y48), (8, (I (w64 (y58 + 1))))] [0] [(Qes p0)] hφ0 (pc rwl (pc (.rn (.plain _ (nld Qa4 _))) (pc (.rn (rqr rfl)) (pc rwl (pc rwl pn))))) (qc (spb (lc (.rn (.plain _ (nld Qaa _))) (lc rwl (lc rwl (lc rwl (lc (.rn (.plain _ (nld Qac _))) ln)))))) qn)) (ih (w64 (y58 + 1)) h)
       ·replace h := Qat hc61 h
        refine wfn hc61 (by kernel_rfl) ?_
        refine Qa2 ?_
        refine Qaq ?_
        refine Qaq ?_
        refine Qa1 rfl ?_
        refine bln ?_
        refine thn ?_
        exact ⟨(), h, (mto (n := 128) [(1, I p1), (2, (Qdb p2)), (3, .ref 0 5 0 0), (7, I y48)] [0] [(Qes p0)] hφ0 (pc rwl (pc (.rn (.plain _ (nld Qa4 _))) (pc (.rn (rqr rfl)) (pc rwl pn)))) (qc (spb (lc (.rn (.plain _ (nld Qaa _))) (lc rwl (lc rwl (lc rwl (lc (.rn (.plain _ (nld Qac _))) ln)))))) qn))⟩
    ·replace h := Qat hc51 h
     refine wfn hc51 (by kernel_rfl) ?_
     refine Qa2 ?_
     refine Qaq ?_
     refine Qaq ?_
     refine Qa1 rfl ?_
     refine thn ?_
     exact ⟨(), h, (mto (n := 128) [(1, I p1), (2, (Qdb p2)), (3, .ref 0 5 0 0)] [0] [(Qes p0)] hφ0 (pc rwl (pc (.rn (.plain _ (nld Qa4 _))) (pc (.rn (rqr rfl)) pn))) (qc (spb (lc (.rn (.plain _ (nld Qaa _))) (lc rwl (lc rwl (lc rwl (lc (.rn (.plain _ (nld Qac _))) ln)))))) qn))⟩
def Qcy (N : Nat) (p0 : GJob) (y13 : Int) (y14 : (List (Nat × Nat))) (y15 : (List (List Int))) (y27 : Int) (k34 : (List (List Int)) → Option ((List (Nat × Nat)) × (List (List Int)))) : Nat → Int → (List (List Int)) → Option ((List (Nat × Nat)) × (List (List Int)))
  | 0, _, _ => none
  | n46 + 1, y42, y43 =>
    bif (decide (y42 < (p0.Levels.length : Int))) then
     (Qet N p0 y13 y27 y42).bind fun x49 =>
     bif x49 then
      chk (decide (0 ≤ y13) && decide (y13.toNat < (w64 ((p0.Hours.length : Int) + 1)).toNat)) <|
      ((y14.set y13.toNat (y15.length, (p0.Levels.length : Int).toNat))[y13.toNat]?).bind fun x52 =>
      chk (decide (0 ≤ y13) && decide (y13.toNat < (w64 ((p0.Hours.length : Int) + 1)).toNat)) <|
      ((y14.set y13.toNat (y15.length, (p0.Levels.length : Int).toNat))[y13.toNat]?).bind fun x55 =>
      chk (!(y43.getD x55.1 []).isEmpty) <|
      chk (decide (0 ≤ y27) && decide (y27.toNat < x55.2)) <|
      (getM y43 x55.1 y27.toNat).bind fun x59 =>
      (Qha N p0 y13 y27 y42).bind fun x62 =>
      chk (decide (0 ≤ w64 (y13 + 1)) && decide ((w64 (y13 + 1)).toNat < (w64 ((p0.Hours.length : Int) + 1)).toNat)) <|
      ((y14.set y13.toNat (y15.length, (p0.Levels.length : Int).toNat))[(w64 (y13 + 1)).toNat]?).bind fun x64 =>
      chk (!(y43.getD x64.1 []).isEmpty) <|
      chk (decide (0 ≤ y42) && decide (y42.toNat < x64.2)) <|
      (getM y43 x64.1 y42.toNat).bind fun x68 =>
      chk (!(y43.getD x52.1 []).isEmpty) <|
      chk (decide (0 ≤ y27) && decide (y27.toNat < x52.2)) <|
      (getM y43 x52.1 y27.toNat).bind fun _ =>
      Qcy N p0 y13 y14 y15 y27 k34 n46 (w64 (y42 + 1)) (setM y43 x52.1 y27.toNat (if (w64 (x62 + x68)) > x59 then w64 (x62 + x68) else x59))
     else
      Qcy N p0 y13 y14 y15 y27 k34 n46 (w64 (y42 + 1)) y43
    else
     k34 (y43)
def Qcz (N : Nat) (p0 : GJob) (y13 : Int) (y14 : (List (Nat × Nat))) (y15 : (List (List Int))) (k22 : (List (List Int)) → Option ((List (Nat × Nat)) × (List (List Int)))) : Nat → Int → (List (List Int)) → Option ((List (Nat × Nat)) × (List (List Int)))
  | 0, _, _ => none
  | n31 + 1, y27, y28 =>
    bif (decide (y27 < (p0.Levels.length : Int))) then
     Qb0 (fun y33 =>
       Qcz N p0 y13 y14 y15 k22 n31 (w64 (y27 + 1)) y33) fun k34 : (List (List Int)) → Option ((List (Nat × Nat)) × (List (List Int))) =>
     chk (decide (0 ≤ y13) && decide (y13.toNat < (w64 ((p0.Hours.length : Int) + 1)).toNat)) <|
     ((y14.set y13.toNat (y15.length, (p0.Levels.length : Int).toNat))[y13.toNat]?).bind fun x36 =>
     chk (!(y28.getD x36.1 []).isEmpty) <|
     chk (decide (0 ≤ y27) && decide (y27.toNat < x36.2)) <|
     (getM y28 x36.1 y27.toNat).bind fun _ =>
     Qcy N p0 y13 y14 y15 y27 k34 N 0 (setM y28 x36.1 y27.toNat (-1000000000000))
    else
     k22 (y28)
def Qde (N : Nat) (p0 : GJob) (k10 : (List (Nat × Nat)) × (List (List Int)) → Option ((List (Nat × Nat)) × (List (List Int)))) : Nat → Int → (List (Nat × Nat)) → (List (List Int)) → Option ((List (Nat × Nat)) × (List (List Int)))
  | 0, _, _, _ => none
  | n19 + 1, y13, y14, y15 =>
    bif (decide (y13 ≥ 0)) then
     Qb0 (fun y21 =>
       Qde N p0 k10 n19 (w64 (y13 - 1)) (y14.set y13.toNat (y15.length, (p0.Levels.length : Int).toNat)) y21) fun k22 : (List (List Int)) → Option ((List (Nat × Nat)) × (List (List Int))) =>
     chk (decide (0 ≤ (p0.Levels.length : Int)) && decide (8 * (p0.Levels.length : Int) ≤ 281474976710656) && decide ((p0.Levels.length : Int) ≤ 9223372036854775807)) <|
     chk (decide (0 ≤ y13) && decide (y13.toNat < (w64 ((p0.Hours.length : Int) + 1)).toNat)) <|
     (y14[y13.toNat]?).bind fun _ =>
     Qcz N p0 y13 y14 y15 k22 N 0 (y15 ++ [List.replicate (p0.Levels.length : Int).toNat 0])
    else
     k10 (y14, y15)
def Qg3 (N : Nat) (p0 : GJob) : Option ((List (Nat × Nat)) × (List (List Int))) :=
  chk (decide (0 ≤ w64 ((p0.Hours.length : Int) + 1)) && decide (24 * (w64 ((p0.Hours.length : Int) + 1)) ≤ 281474976710656) && decide (w64 ((p0.Hours.length : Int) + 1) ≤ 9223372036854775807)) <|
  chk (decide (0 ≤ (p0.Levels.length : Int)) && decide (8 * (p0.Levels.length : Int) ≤ 281474976710656) && decide ((p0.Levels.length : Int) ≤ 9223372036854775807)) <|
  chk (decide (0 ≤ (p0.Hours.length : Int)) && decide ((p0.Hours.length : Int).toNat < (w64 ((p0.Hours.length : Int) + 1)).toNat)) <|
  ((List.replicate (w64 ((p0.Hours.length : Int) + 1)).toNat (0, 0))[(p0.Hours.length : Int).toNat]?).bind fun _ =>
  Qb0 (fun ⟨y8, y9⟩ =>
    some (y8, y9)) fun k10 : (List (Nat × Nat)) × (List (List Int)) → Option ((List (Nat × Nat)) × (List (List Int))) =>
  (some (w64 ((p0.Hours.length : Int) - 1))).bind fun x11 =>
  Qde N p0 k10 N x11 ((List.replicate (w64 ((p0.Hours.length : Int) + 1)).toNat (0, 0)).set ((p0.Hours.length : Int).toNat) (([] : List (List Int)).length, (p0.Levels.length : Int).toNat)) (([] : List (List Int)) ++ [List.replicate (p0.Levels.length : Int).toNat 0])
def Qqo (p0 : GJob) : AV := .dat 1 ((p0.Levels : List Int).map Qab)
def z151_1 (p0 : GJob) : AV := .dat 2 ((p0.Hours : List GHour).map Qax)
def Qtb (p0 : GJob) : AV := .agg [(Qqo p0), (I (p0.Ramp)), (I (p0.Start)), (I (p0.First)), (z151_1 p0)]
def z151_4 (p0 : GJob) : Slot := .own 1 ((List.replicate (w64 ((p0.Hours.length : Int) + 1)).toNat (0, 0) : List (Nat × Nat)).map (c_mr 2 1))
def z151_5 : Slot := .mat 1 (matA Qab (([] : List (List Int)) : List (List Int)))
def z151_6 (p0 : GJob) : Slot := .mat 1 (matA Qab (([] : List (List Int)) ++ [List.replicate (p0.Levels.length : Int).toNat 0] : List (List Int)))
def z151_7 (p0 : GJob) : Slot := .own 1 (((List.replicate (w64 ((p0.Hours.length : Int) + 1)).toNat (0, 0)).set ((p0.Hours.length : Int).toNat) (([] : List (List Int)).length, (p0.Levels.length : Int).toNat) : List (Nat × Nat)).map (c_mr 2 1))
def Qrt (y8 : (List (Nat × Nat))) : Slot := .own 1 ((y8 : List (Nat × Nat)).map (c_mr 1 1))
def Qu9 (y9 : (List (List Int))) : Slot := .mat 1 (matA Qab (y9 : List (List Int)))
def Qig (p0 : GJob) : Slot := .own 5 [[(Qqo p0), (I (p0.Ramp)), (I (p0.Start)), (I (p0.First)), (z151_1 p0)]]
def Qoz (y14 : (List (Nat × Nat))) : Slot := .own 1 ((y14 : List (Nat × Nat)).map (c_mr 2 1))
def Qd4 (y14 : (List (Nat × Nat))) (y13 : Int) (y15 : (List (List Int))) (p0 : GJob) : Slot := .own 1 ((y14.set y13.toNat (y15.length, (p0.Levels.length : Int).toNat) : List (Nat × Nat)).map (c_mr 2 1))
def Qwd (y15 : (List (List Int))) (p0 : GJob) : Slot := .mat 1 (matA Qab (y15 ++ [List.replicate (p0.Levels.length : Int).toNat 0] : List (List Int)))
def Qrs (y28 : (List (List Int))) : Slot := .mat 1 (matA Qab (y28 : List (List Int)))
def Qi2 (y43 : (List (List Int))) : Slot := .mat 1 (matA Qab (y43 : List (List Int)))
set_option maxRecDepth 100000 in
set_option maxHeartbeats 4000000 in
theorem Qn9 (N : Nat) (p0 : GJob) (r : ((List (Nat × Nat)) × (List (List Int)))) (h : Qg3 N p0 = some r) : Spec Try.prog 42 [(Qtb p0)] [] (.own 0 1 (0) ((w64 ((p0.Hours.length : Int) + 1)).toNat)) [(.own 1 ((r.1 : List (Nat × Nat)).map (c_mr 1 1))), (.mat 1 (matA Qab (r.2 : List (List Int))))] := by
  refine Qae Try.func42 rfl 2 (nle rfl) (fun X φ0 w0 hφ0 => ?_)
  unfold Qg3 at h
  refine Qbp ?_
  refine wx tbk [] trivial ?_
  refine wx tbk [(2, rp [(.tmp 9, (z151_1 p0))] (I ((p0.Hours.length : Int))))] ⟨alm (c := Qax) (l := p0.Hours) (aln rfl Try.underlying38 rfl), trivial⟩ ?_
  obtain ⟨hm3, h⟩ := cko h
  refine wx tbk [(2, ⟨[(.tmp 12, (I (w64 ((p0.Hours.length : Int) + 1)))), (.tmp 12, (I (w64 ((p0.Hours.length : Int) + 1))))], [(1, .unused), (2, .unused)], (.own 1 1 (0) ((w64 ((p0.Hours.length : Int) + 1)).toNat)), [(1, (z151_4 p0)), (2, z151_5)], false⟩)] ⟨Qof 1 rfl (Qgx rfl Try.underlying42 te37 tz37 rfl (Qql hm3) rfl (Qqk hm3) (Qnq hm3) rfl), trivial⟩ ?_
  obtain ⟨hm4, h⟩ := cko h
  obtain ⟨hi5, h⟩ := cko h
  obtain ⟨hi5a, hi5b⟩ := Qa0 hi5
  obtain ⟨x6, hg7, h⟩ := bno h
  refine wx tbk [(4, rp [(.tmp 17, (Qqo p0))] (I ((p0.Levels.length : Int)))), (5, ⟨[(.tmp 18, (I ((p0.Levels.length : Int)))), (.tmp 18, (I ((p0.Levels.length : Int))))], [(3, .unused), (2, z151_5)], (.row 2 (([] : List (List Int)).length) 1 (0) ((p0.Levels.length : Int).toNat)), [(3, .dead), (2, (z151_6 p0))], false⟩), (6, rb [(.tmp 14, (.own 1 1 (0) ((w64 ((p0.Hours.length : Int) + 1)).toNat))), (.tmp 15, (I ((p0.Hours.length : Int))))] [(1, (z151_4 p0))] (.ref 1 1 ((p0.Hours.length : Int).toNat) 0)), (7, ⟨[(.tmp 20, (.ref 1 1 ((p0.Hours.length : Int).toNat) 0)), (.tmp 19, (.row 2 (([] : List (List Int)).length) 1 (0) ((p0.Levels.length : Int).toNat)))], [(1, (z151_4 p0))], .any, [(1, (z151_7 p0))], false⟩)] ⟨alm (c := Qab) (l := p0.Levels) (aln rfl Try.underlying37 rfl), Qi8 rfl (Qgx rfl Try.underlying37 te3 tz3 rfl (Qql hm4) rfl (Qqk hm4) (Qnq hm4) (Qn7 Qab rfl)), aio rfl Try.underlying42 ti37 (odt hi5a) (odt hi5b) (Nat.zero_add _), ast rfl ti37 (by rfl) (mgt (c_mr 2 1) hg7) (nle rfl) (Qgl (x' := (([] : List (List Int)).length, (p0.Levels.length : Int).toNat)) (c_mr 2 1) rfl), trivial⟩ ?_
  obtain ⟨k10, hk_k10, h⟩ := jko h
  refine wjn (τ := (List (Nat × Nat)) × (List (List Int))) (fun t => k10 t = some r) (fun ⟨y8, y9⟩ => ⟨mk 88 [(4, (.own 0 1 (0) ((w64 ((p0.Hours.length : Int) + 1)).toNat)))], [(Qrt y8), (Qu9 y9)]⟩) (fun t h => ?_) ?_
  ·subst hk_k10
   obtain ⟨y8, y9⟩ := t
   refine wx tbk [] trivial ?_
   refine wmr (mto (n := 88) (l' := [(2, (.own 0 1 (0) ((w64 ((p0.Hours.length : Int) + 1)).toNat)))]) (own' := [(Qrt y8), (Qu9 y9)]) [(2, (.own 0 1 (0) ((w64 ((p0.Hours.length : Int) + 1)).toNat)))] [0, 1] [(Qrt y8), (Qu9 y9)] hφ0 (pc (.rn (Qag rfl)) pn) (qc (Qa6 rfl) (qc (Qbq Qaa) qn))) ?_
   refine Qad ?_
   obtain rfl := osi h
   exact ⟨_, Mor.rfl, Qb9 (vs := [(.own 0 1 (0) ((w64 ((p0.Hours.length : Int) + 1)).toNat))]) ⟨rot (by kernel_rfl), trivial⟩ rfl (NLt.own _ _ _ _ (by decide)) (by kernel_rfl) (Qak (Qgq rfl) (Qak (Qh9 Qaa _) Qbi))⟩
  ·skip
   obtain ⟨x11, hl12, h⟩ := bno h
   refine wx tbk [(2, rp [(.tmp 22, (I (w64 ((p0.Hours.length : Int) - 1))))] (I x11))] ⟨Qfo hl12 (aas rfl), trivial⟩ ?_
   refine Qaf ?_
   refine wmr (mto (n := 88) (l' := [(1, .ref 0 5 0 0), (4, (.own 1 1 (0) ((w64 ((p0.Hours.length : Int) + 1)).toNat))), (5, I x11)]) (own' := [(Qig p0), (.own 1 ((((List.replicate (w64 ((p0.Hours.length : Int) + 1)).toNat (0, 0)).set ((p0.Hours.length : Int).toNat) (([] : List (List Int)).length, (p0.Levels.length : Int).toNat)) : List (Nat × Nat)).map (c_mr 2 1))), (.mat 1 (matA Qab ((([] : List (List Int)) ++ [List.replicate (p0.Levels.length : Int).toNat 0]) : List (List Int))))]) [(1, .ref 0 5 0 0), (4, (.own 1 1 (0) ((w64 ((p0.Hours.length : Int) + 1)).toNat))), (5, I x11)] [0, 1, 2] [(Qig p0), (z151_7 p0), (z151_6 p0)] hφ0 (pc (.rn (rqr rfl)) (pc (.rn (Qag rfl)) (pc rwl pn))) (qc (spb (lc (.rn (.plain _ (nld Qaa _))) (lc rwl (lc rwl (lc rwl (lc (.rn (.plain _ (nld Qac _))) ln)))))) (qc (Qa6 rfl) (qc (Qbq Qaa) qn)))) ?_
   refine Qbk (τ := Int × (List (Nat × Nat)) × (List (List Int))) (fun n t => Qde N p0 k10 n t.1 t.2.1 t.2.2 = some r) (fun ⟨y13, y14, y15⟩ => ⟨mk 88 [(1, .ref 0 5 0 0), (4, (.own 1 1 (0) ((w64 ((p0.Hours.length : Int) + 1)).toNat))), (5, I y13)], [(Qig p0), (Qoz y14), (.mat 1 (matA Qab (y15 : List (List Int))))]⟩) (fun t h => by rw [Qde] at h; cases h) (fun n19 ih t h => ?_) N (x11, (List.replicate (w64 ((p0.Hours.length : Int) + 1)).toNat (0, 0)).set ((p0.Hours.length : Int).toNat) (([] : List (List Int)).length, (p0.Levels.length : Int).toNat), ([] : List (List Int)) ++ [List.replicate (p0.Levels.length : Int).toNat 0]) h
   obtain ⟨y13, y14, y15⟩ := t
   rw [Qde] at h
   skip
   refine wsq ?_
   refine wx tbk [] trivial ?_
   rcases bft ((decide (y13 ≥ 0))) with hc20 | hc20
   ·replace h := Qas hc20 h
    refine wft hc20 (by kernel_rfl) ?_
    refine Qai ?_
    refine thn ?_
    obtain ⟨k22, hk_k22, h⟩ := jko h
    refine wjn (τ := (List (List Int))) (fun t => k22 t = some r) (fun y21 => ⟨mk 88 [(1, .ref 0 5 0 0), (4, (.own 1 1 (0) ((w64 ((p0.Hours.length : Int) + 1)).toNat))), (5, I y13)], [(Qig p0), (Qd4 y14 y13 y15 p0), (.mat 1 (matA Qab (y21 : List (List Int))))]⟩) (fun y21 h => ?_) ?_
    ·subst hk_k22
     refine wx1 tbk [] trivial ?_
     refine thn ?_
     exact arm (mto (n := 88) [(1, .ref 0 5 0 0), (4, (.own 1 1 (0) ((w64 ((p0.Hours.length : Int) + 1)).toNat))), (5, (I (w64 (y13 - 1))))] [0, 1, 2] [(Qig p0), (Qd4 y14 y13 y15 p0), (.mat 1 (matA Qab (y21 : List (List Int))))] hφ0 (pc (.rn (rqr rfl)) (pc (.rn (Qag rfl)) (pc rwl pn))) (qc (spb (lc (.rn (.plain _ (nld Qaa _))) (lc rwl (lc rwl (lc rwl (lc (.rn (.plain _ (nld Qac _))) ln)))))) (qc (Qa6 rfl) (qc (Qbq Qaa) qn)))) (ih (w64 (y13 - 1), y14.set y13.toNat (y15.length, (p0.Levels.length : Int).toNat), y21) h)
    ·skip
     refine Qaf ?_
     obtain ⟨hm23, h⟩ := cko h
     obtain ⟨hi24, h⟩ := cko h
     obtain ⟨hi24a, hi24b⟩ := Qa0 hi24
     obtain ⟨x25, hg26, h⟩ := bno h
     refine wx tbk [(4, rp [(.tmp 30, (Qqo p0))] (I ((p0.Levels.length : Int)))), (5, ⟨[(.tmp 31, (I ((p0.Levels.length : Int)))), (.tmp 31, (I ((p0.Levels.length : Int))))], [(3, .unused), (2, (.mat 1 (matA Qab (y15 : List (List Int)))))], (.row 2 y15.length 1 (0) ((p0.Levels.length : Int).toNat)), [(3, .dead), (2, (Qwd y15 p0))], false⟩), (6, rb [(.tmp 27, (.own 1 1 (0) ((w64 ((p0.Hours.length : Int) + 1)).toNat))), (.tmp 28, I y13)] [(1, (Qoz y14))] (.ref 1 1 (y13.toNat) 0)), (7, ⟨[(.tmp 33, (.ref 1 1 (y13.toNat) 0)), (.tmp 32, (.row 2 y15.length 1 (0) ((p0.Levels.length : Int).toNat)))], [(1, (Qoz y14))], .any, [(1, (Qd4 y14 y13 y15 p0))], false⟩)] ⟨alm (c := Qab) (l := p0.Levels) (aln rfl Try.underlying37 rfl), Qi8 rfl (Qgx rfl Try.underlying37 te3 tz3 rfl (Qql hm23) rfl (Qqk hm23) (Qnq hm23) (Qn7 Qab rfl)), aio rfl Try.underlying42 ti37 (odt hi24a) (odt hi24b) (Nat.zero_add _), ast rfl ti37 (by rfl) (mgt (c_mr 2 1) hg26) (nle rfl) (Qgl (x' := (y15.length, (p0.Levels.length : Int).toNat)) (c_mr 2 1) rfl), trivial⟩ ?_
     refine wx tbk [] trivial ?_
     refine Qaf ?_
     refine wmr (mto (n := 88) (l' := [(1, .ref 0 5 0 0), (4, (.own 1 1 (0) ((w64 ((p0.Hours.length : Int) + 1)).toNat))), (5, I y13), (6, I 0)]) (own' := [(Qig p0), (Qd4 y14 y13 y15 p0), (.mat 1 (matA Qab ((y15 ++ [List.replicate (p0.Levels.length : Int).toNat 0]) : List (List Int))))]) [(1, .ref 0 5 0 0), (4, (.own 1 1 (0) ((w64 ((p0.Hours.length : Int) + 1)).toNat))), (5, I y13), (6, I 0)] [0, 1, 2] [(Qig p0), (Qd4 y14 y13 y15 p0), (Qwd y15 p0)] hφ0 (pc (.rn (rqr rfl)) (pc (.rn (Qag rfl)) (pc rwl (pc rwl pn)))) (qc (spb (lc (.rn (.plain _ (nld Qaa _))) (lc rwl (lc rwl (lc rwl (lc (.rn (.plain _ (nld Qac _))) ln)))))) (qc (Qa6 rfl) (qc (Qbq Qaa) qn)))) ?_
     refine Qbk (τ := Int × (List (List Int))) (fun n t => Qcz N p0 y13 y14 y15 k22 n t.1 t.2 = some r) (fun ⟨y27, y28⟩ => ⟨mk 88 [(1, .ref 0 5 0 0), (4, (.own 1 1 (0) ((w64 ((p0.Hours.length : Int) + 1)).toNat))), (5, I y13), (6, I y27)], [(Qig p0), (Qd4 y14 y13 y15 p0), (Qrs y28)]⟩) (fun t h => by rw [Qcz] at h; cases h) (fun n31 ih t h => ?_) N (0, y15 ++ [List.replicate (p0.Levels.length : Int).toNat 0]) h
     obtain ⟨y27, y28⟩ := t
     rw [Qcz] at h
     skip
     refine wsq ?_
     refine wx tbk [(3, rp [(.tmp 36, (Qqo p0))] (I ((p0.Levels.length : Int))))] ⟨alm (c := Qab) (l := p0.Levels) (aln rfl Try.underlying37 rfl), trivial⟩ ?_
     rcases bft ((decide (y27 < (p0.Levels.length : Int)))) with hc32 | hc32
     ·replace h := Qas hc32 h
      refine wft hc32 (by kernel_rfl) ?_
      refine Qai ?_
      refine thn ?_
      obtain ⟨k34, hk_k34, h⟩ := jko h
      refine wjn (τ := (List (List Int))) (fun t => k34 t = some r) (fun y33 => ⟨mk 88 [(1, .ref 0 5 0 0), (4, (.own 1 1 (0) ((w64 ((p0.Hours.length : Int) + 1)).toNat))), (5, I y13), (6, I y27)], [(Qig p0), (Qd4 y14 y13 y15 p0), (.mat 1 (matA Qab (y33 : List (List Int))))]⟩) (fun y33 h => ?_) ?_
      ·subst hk_k34
       refine wx1 tbk [] trivial ?_
       refine thn ?_
       exact arm (mto (n := 88) [(1, .ref 0 5 0 0), (4, (.own 1 1 (0) ((w64 ((p0.Hours.length : Int) + 1)).toNat))), (5, I y13), (6, (I (w64 (y27 + 1))))] [0, 1, 2] [(Qig p0), (Qd4 y14 y13 y15 p0), (.mat 1 (matA Qab (y33 : List (List Int))))] hφ0 (pc (.rn (rqr rfl)) (pc (.rn (Qag rfl)) (pc rwl (pc rwl pn)))) (qc (spb (lc (.rn (.plain _ (nld Qaa _))) (lc rwl (lc rwl (lc rwl (lc (.rn (.plain _ (nld Qac _))) ln)))))) (qc (Qa6 rfl) (qc (Qbq Qaa) qn)))) (ih (w64 (y27 + 1), y33) h)
      ·skip
       refine Qaf ?_
       obtain ⟨hi35, h⟩ := cko h
       obtain ⟨hi35a, hi35b⟩ := Qa0 hi35
       obtain ⟨x36, hg37, h⟩ := bno h
       obtain ⟨hz39, h⟩ := cko h
       obtain ⟨hi38, h⟩ := cko h
       obtain ⟨hi38a, hi38b⟩ := Qa0 hi38
       obtain ⟨x40, hg41, h⟩ := bno h
       refine wx tbk [(2, rb [(.tmp 41, (.own 1 1 (0) ((w64 ((p0.Hours.length : Int) + 1)).toNat))), (.tmp 42, I y13)] [(1, (Qd4 y14 y13 y15 p0))] (.ref 1 1 (y13.toNat) 0)), (3, rb [(.tmp 43, (.ref 1 1 (y13.toNat) 0))] [(1, (Qd4 y14 y13 y15 p0))] (.row 2 x36.1 1 (0) (x36.2))), (5, rb [(.tmp 44, (.row 2 x36.1 1 (0) (x36.2))), (.tmp 45, I y27)] [(2, (Qrs y28))] (.rowp 2 x36.1 1 (y27.toNat) 0)), (6, ⟨[(.tmp 46, (.rowp 2 x36.1 1 (y27.toNat) 0)), ci (-1000000000000)], [(2, (Qrs y28))], .any, [(2, (.mat 1 (matA Qab (setM y28 x36.1 y27.toNat (-1000000000000) : List (List Int)))))], false⟩)] ⟨aio rfl Try.underlying42 ti37 (odt hi35a) (odt hi35b) (Nat.zero_add _), ald rfl ti37 (by decide) (mgt (c_mr 2 1) hg37) (nle rfl) rfl, Qcc rfl Try.underlying37 ti3 (odt hi38a) (odt hi38b) hz39 (Nat.zero_add _), Qf0 (u' := (-1000000000000)) rfl ti3 (by rfl) hg41 (nle rfl) rfl, trivial⟩ ?_
       refine wx tbk [] trivial ?_
       refine Qaf ?_
       refine wmr (mto (n := 88) (l' := [(1, .ref 0 5 0 0), (4, (.own 1 1 (0) ((w64 ((p0.Hours.length : Int) + 1)).toNat))), (5, I y13), (6, I y27), (7, I 0)]) (own' := [(Qig p0), (Qd4 y14 y13 y15 p0), (.mat 1 (matA Qab ((setM y28 x36.1 y27.toNat (-1000000000000)) : List (List Int))))]) [(1, .ref 0 5 0 0), (4, (.own 1 1 (0) ((w64 ((p0.Hours.length : Int) + 1)).toNat))), (5, I y13), (6, I y27), (7, I 0)] [0, 1, 2] [(Qig p0), (Qd4 y14 y13 y15 p0), (.mat 1 (matA Qab (setM y28 x36.1 y27.toNat (-1000000000000) : List (List Int))))] hφ0 (pc (.rn (rqr rfl)) (pc (.rn (Qag rfl)) (pc rwl (pc rwl (pc rwl pn))))) (qc (spb (lc (.rn (.plain _ (nld Qaa _))) (lc rwl (lc rwl (lc rwl (lc (.rn (.plain _ (nld Qac _))) ln)))))) (qc (Qa6 rfl) (qc (Qbq Qaa) qn)))) ?_
       refine Qbk (τ := Int × (List (List Int))) (fun n t => Qcy N p0 y13 y14 y15 y27 k34 n t.1 t.2 = some r) (fun ⟨y42, y43⟩ => ⟨mk 88 [(1, .ref 0 5 0 0), (4, (.own 1 1 (0) ((w64 ((p0.Hours.length : Int) + 1)).toNat))), (5, I y13), (6, I y27), (7, I y42)], [(Qig p0), (Qd4 y14 y13 y15 p0), (Qi2 y43)]⟩) (fun t h => by rw [Qcy] at h; cases h) (fun n46 ih t h => ?_) N (0, setM y28 x36.1 y27.toNat (-1000000000000)) h
       obtain ⟨y42, y43⟩ := t
       rw [Qcy] at h
       skip
       refine wsq ?_
       refine wx tbk [(3, rp [(.tmp 49, (Qqo p0))] (I ((p0.Levels.length : Int))))] ⟨alm (c := Qab) (l := p0.Levels) (aln rfl Try.underlying37 rfl), trivial⟩ ?_
       rcases bft ((decide (y42 < (p0.Levels.length : Int)))) with hc47 | hc47
       ·replace h := Qas hc47 h
        refine wft hc47 (by kernel_rfl) ?_
        refine Qai ?_
        refine thn ?_
        refine wsq ?_
        refine Qaf ?_
        obtain ⟨x49, hf48, h⟩ := bno h
        refine wx tbk [(4, rp [fu 77, (.tmp 54, (Qtb p0)), (.tmp 55, I y13), (.tmp 56, I y27), (.tmp 57, I y42)] (B x49))] ⟨apc (first := []) (cap := []) (vs := [(Qtb p0), I y13, I y27, I y42]) rfl Qp2 (Qfu N p0 y13 y27 y42 _ hf48) rfl rfl (nlc (NLt.agg _ (nlc (nld Qaa _) (nlc nll (nlc nll (nlc nll (nlc (nld Qac _) nl0)))))) (nlc nll (nlc nll (nlc nll nl0)))) nll rfl, trivial⟩ ?_
        rcases bft (x49) with hc50 | hc50
        ·replace h := Qas hc50 h
         refine wft hc50 (by kernel_rfl) ?_
         obtain ⟨hi51, h⟩ := cko h
         obtain ⟨hi51a, hi51b⟩ := Qa0 hi51
         obtain ⟨x52, hg53, h⟩ := bno h
         obtain ⟨hi54, h⟩ := cko h
         obtain ⟨hi54a, hi54b⟩ := Qa0 hi54
         obtain ⟨x55, hg56, h⟩ := bno h
         obtain ⟨hz58, h⟩ := cko h
         obtain ⟨hi57, h⟩ := cko h
         obtain ⟨hi57a, hi57b⟩ := Qa0 hi57
         obtain ⟨x59, hg60, h⟩ := bno h
         obtain ⟨x62, hf61, h⟩ := bno h
         obtain ⟨hi63, h⟩ := cko h
         obtain ⟨hi63a, hi63b⟩ := Qa0 hi63
         obtain ⟨x64, hg65, h⟩ := bno h
         obtain ⟨hz67, h⟩ := cko h
         obtain ⟨hi66, h⟩ := cko h
         obtain ⟨hi66a, hi66b⟩ := Qa0 hi66
         obtain ⟨x68, hg69, h⟩ := bno h
         obtain ⟨hz71, h⟩ := cko h
         obtain ⟨hi70, h⟩ := cko h
         obtain ⟨hi70a, hi70b⟩ := Qa0 hi70
         obtain ⟨x72, hg73, h⟩ := bno h
         refine wy1 tbk [(2, rb [(.tmp 59, (.own 1 1 (0) ((w64 ((p0.Hours.length : Int) + 1)).toNat))), (.tmp 60, I y13)] [(1, (Qd4 y14 y13 y15 p0))] (.ref 1 1 (y13.toNat) 0)), (3, rb [(.tmp 61, (.ref 1 1 (y13.toNat) 0))] [(1, (Qd4 y14 y13 y15 p0))] (.row 2 x52.1 1 (0) (x52.2))), (7, rb [(.tmp 64, (.own 1 1 (0) ((w64 ((p0.Hours.length : Int) + 1)).toNat))), (.tmp 65, I y13)] [(1, (Qd4 y14 y13 y15 p0))] (.ref 1 1 (y13.toNat) 0)), (8, rb [(.tmp 66, (.ref 1 1 (y13.toNat) 0))] [(1, (Qd4 y14 y13 y15 p0))] (.row 2 x55.1 1 (0) (x55.2))), (10, rb [(.tmp 67, (.row 2 x55.1 1 (0) (x55.2))), (.tmp 68, I y27)] [(2, (Qi2 y43))] (.rowp 2 x55.1 1 (y27.toNat) 0)), (11, rb [(.tmp 69, (.rowp 2 x55.1 1 (y27.toNat) 0))] [(2, (Qi2 y43))] (I x59)), (16, rp [fu 78, (.tmp 71, (Qtb p0)), (.tmp 72, I y13), (.tmp 73, I y27), (.tmp 74, I y42)] (I x62)), (20, rb [(.tmp 76, (.own 1 1 (0) ((w64 ((p0.Hours.length : Int) + 1)).toNat))), (.tmp 78, (I (w64 (y13 + 1))))] [(1, (Qd4 y14 y13 y15 p0))] (.ref 1 1 ((w64 (y13 + 1)).toNat) 0)), (21, rb [(.tmp 79, (.ref 1 1 ((w64 (y13 + 1)).toNat) 0))] [(1, (Qd4 y14 y13 y15 p0))] (.row 2 x64.1 1 (0) (x64.2))), (23, rb [(.tmp 80, (.row 2 x64.1 1 (0) (x64.2))), (.tmp 81, I y42)] [(2, (Qi2 y43))] (.rowp 2 x64.1 1 (y42.toNat) 0)), (24, rb [(.tmp 82, (.rowp 2 x64.1 1 (y42.toNat) 0))] [(2, (Qi2 y43))] (I x68)), (26, rp [(.tmp 70, I x59), (.tmp 84, (I (w64 (x62 + x68))))] (I ((if (w64 (x62 + x68)) > x59 then w64 (x62 + x68) else x59)))), (27, rb [(.tmp 62, (.row 2 x52.1 1 (0) (x52.2))), (.tmp 63, I y27)] [(2, (Qi2 y43))] (.rowp 2 x52.1 1 (y27.toNat) 0)), (28, ⟨[(.tmp 86, (.rowp 2 x52.1 1 (y27.toNat) 0)), (.tmp 85, (I ((if (w64 (x62 + x68)) > x59 then w64 (x62 + x68) else x59))))], [(2, (Qi2 y43))], .any, [(2, (.mat 1 (matA Qab (setM y43 x52.1 y27.toNat (if (w64 (x62 + x68)) > x59 then w64 (x62 + x68) else x59) : List (List Int)))))], false⟩)] ⟨aio rfl Try.underlying42 ti37 (odt hi51a) (odt hi51b) (Nat.zero_add _), ald rfl ti37 (by decide) (mgt (c_mr 2 1) hg53) (nle rfl) rfl, aio rfl Try.underlying42 ti37 (odt hi54a) (odt hi54b) (Nat.zero_add _), ald rfl ti37 (by decide) (mgt (c_mr 2 1) hg56) (nle rfl) rfl, Qcc rfl Try.underlying37 ti3 (odt hi57a) (odt hi57b) hz58 (Nat.zero_add _), Qd9 rfl ti3 (by decide) hg60 (nle rfl) rfl, apc (first := []) (cap := []) (vs := [(Qtb p0), I y13, I y27, I y42]) rfl Qvm (Qj2 N p0 y13 y27 y42 _ hf61) rfl rfl (nlc (NLt.agg _ (nlc (nld Qaa _) (nlc nll (nlc nll (nlc nll (nlc (nld Qac _) nl0)))))) (nlc nll (nlc nll (nlc nll nl0)))) nll rfl, aio rfl Try.underlying42 ti37 (odt hi63a) (odt hi63b) (Nat.zero_add _), ald rfl ti37 (by decide) (mgt (c_mr 2 1) hg65) (nle rfl) rfl, Qcc rfl Try.underlying37 ti3 (odt hi66a) (odt hi66b) hz67 (Nat.zero_add _), Qd9 rfl ti3 (by decide) hg69 (nle rfl) rfl, Qnn rfl, Qcc rfl Try.underlying37 ti3 (odt hi70a) (odt hi70b) hz71 (Nat.zero_add _), Qf0 (u' := (if (w64 (x62 + x68)) > x59 then w64 (x62 + x68) else x59)) rfl ti3 (by rfl) hg73 (nle rfl) rfl, trivial⟩ ?_
         refine bln ?_
         refine thn ?_
         refine wx1 tbk [] trivial ?_
         refine thn ?_
         exact arm (mto (n := 88) [(1, .ref 0 5 0 0), (4, (.own 1 1 (0) ((w64 ((p0.Hours.length : Int) + 1)).toNat))), (5, I y13), (6, I y27), (7, (I (w64 (y42 + 1))))] [0, 1, 2] [(Qig p0), (Qd4 y14 y13 y15 p0), (.mat 1 (matA Qab (setM y43 x52.1 y27.toNat (if (w64 (x62 + x68)) > x59 then w64 (x62 + x68) else x59) : List (List Int))))] hφ0 (pc (.rn (rqr rfl)) (pc (.rn (Qag rfl)) (pc rwl (pc rwl (pc rwl pn))))) (qc (spb (lc (.rn (.plain _ (nld Qaa _))) (lc rwl (lc rwl (lc rwl (lc (.rn (.plain _ (nld Qac _))) ln)))))) (qc (Qa6 rfl) (qc (Qbq Qaa) qn)))) (ih (w64 (y42 + 1), setM y43 x52.1 y27.toNat (if (w64 (x62 + x68)) > x59 then w64 (x62 + x68) else x59)) h)
        ·replace h := Qat hc50 h
         refine wfn hc50 (by kernel_rfl) ?_
         refine Qai ?_
         refine bln ?_
         refine thn ?_
         refine wx1 tbk [] trivial ?_
         refine thn ?_
         exact arm (mto (n := 88) [(1, .ref 0 5 0 0), (4, (.own 1 1 (0) ((w64 ((p0.Hours.length : Int) + 1)).toNat))), (5, I y13), (6, I y27), (7, (I (w64 (y42 + 1))))] [0, 1, 2] [(Qig p0), (Qd4 y14 y13 y15 p0), (Qi2 y43)] hφ0 (pc (.rn (rqr rfl)) (pc (.rn (Qag rfl)) (pc rwl (pc rwl (pc rwl pn))))) (qc (spb (lc (.rn (.plain _ (nld Qaa _))) (lc rwl (lc rwl (lc rwl (lc (.rn (.plain _ (nld Qac _))) ln)))))) (qc (Qa6 rfl) (qc (Qbq Qaa) qn)))) (ih (w64 (y42 + 1), y43) h)
       ·replace h := Qat hc47 h
        refine wfn hc47 (by kernel_rfl) ?_
        refine Qa2 ?_
        refine Qaq ?_
        refine Qaq ?_
        refine Qa1 rfl ?_
        refine bln ?_
        refine thn ?_
        exact ⟨(y43), h, (mto (n := 88) [(1, .ref 0 5 0 0), (4, (.own 1 1 (0) ((w64 ((p0.Hours.length : Int) + 1)).toNat))), (5, I y13), (6, I y27)] [0, 1, 2] [(Qig p0), (Qd4 y14 y13 y15 p0), (Qi2 y43)] hφ0 (pc (.rn (rqr rfl)) (pc (.rn (Qag rfl)) (pc rwl (pc rwl pn)))) (qc (spb (lc (.rn (.plain _ (nld Qaa _))) (lc rwl (lc rwl (lc rwl (lc (.rn (.plain _ (nld Qac _))) ln)))))) (qc (Qa6 rfl) (qc (Qbq Qaa) qn))))⟩
     ·replace h := Qat hc32 h
      refine wfn hc32 (by kernel_rfl) ?_
      refine Qa2 ?_
      refine Qaq ?_
      refine Qaq ?_
      refine Qa1 rfl ?_
      refine bln ?_
      refine thn ?_
      exact ⟨(y28), h, (mto (n := 88) [(1, .ref 0 5 0 0), (4, (.own 1 1 (0) ((w64 ((p0.Hours.length : Int) + 1)).toNat))), (5, I y13)] [0, 1, 2] [(Qig p0), (Qd4 y14 y13 y15 p0), (Qrs y28)] hφ0 (pc (.rn (rqr rfl)) (pc (.rn (Qag rfl)) (pc rwl pn))) (qc (spb (lc (.rn (.plain _ (nld Qaa _))) (lc rwl (lc rwl (lc rwl (lc (.rn (.plain _ (nld Qac _))) ln)))))) (qc (Qa6 rfl) (qc (Qbq Qaa) qn))))⟩
   ·replace h := Qat hc20 h
    refine wfn hc20 (by kernel_rfl) ?_
    refine Qa2 ?_
    refine Qaq ?_
    refine Qaq ?_
    refine Qa1 rfl ?_
    refine thn ?_
    exact ⟨(y14, y15), h, (mto (n := 88) [(4, (.own 1 1 (0) ((w64 ((p0.Hours.length : Int) + 1)).toNat)))] [1, 2] [(Qoz y14), (.mat 1 (matA Qab (y15 : List (List Int))))] hφ0 (pc (.rn (Qag rfl)) pn) (qc (Qa6 rfl) (qc (Qbq Qaa) qn)))⟩
def Qco (N : Nat) (k2 : Unit → Option Bool) (p3 : (List (List Int))) : Nat → Int → Option Bool
  | 0, _ => none
  | n83 + 1, y81 =>
    bif (decide (y81 < (p3.length : Int))) then
     (getI p3 y81).bind fun x85 =>
     bif (decide ((x85.length : Int) > 8)) then
      (Qfz 2000 ).bind fun x91 =>
      some x91
     else
      Qco N k2 p3 n83 (w64 (y81 + 1))
    else
     k2 ()
def Qgj (N : Nat) (p0 : GJob) (p1 : (List Int)) (p2 : Int) (p3 : (List (List Int))) (p4 : Bool) (p5 : Int) (p6 : Int) (p7 : Int) : Option Bool :=
  Qb0 (fun _ =>
    Qb0 (fun _ =>
      (Qft N p0).bind fun x4 =>
      Qb0 (fun ⟨y5, y6, y7⟩ =>
        Qb0 (fun y9 =>
          (Qkf N p0).bind fun x12 =>
          (Qf5 N y5).bind fun x14 =>
          (Qjn N y7).bind fun x16 =>
          (Qel N x12 x14 y6 x16).bind fun x18 =>
          bif (x18 == y9) then
           (Qfz 2000 ).bind fun x21 =>
           some x21
          else
           some false) fun k10 : Bool → Option Bool =>
        bif x4 then
         (Qgt N p0 y5).bind fun x24 =>
         bif x24.2 then
          bif (x24.1 == y6) then
           (Qil N p0 y6 y7).bind fun x28 =>
           k10 (x28)
          else
           k10 (false)
         else
          k10 (false)
        else
         k10 (false)) fun k8 : (List Int) × Int × (List (List Int)) → Option Bool =>
      Qb0 (fun y29 =>
        bif y29 then
         (Qjj N p0).bind fun x33 =>
         (Qg3 N p0).bind fun x35 =>
         (Qez N p7 (-2000000000000) 2000000000000).bind fun x37 =>
         bif x37 then
          bif (decide (p5 ≥ 0)) then
           bif (decide (p5 < (((w64 ((p0.Hours.length : Int) + 1)).toNat : Nat) : Int))) then
            bif (decide (p6 ≥ 0)) then
             chk (decide (0 ≤ p5) && decide (p5.toNat < (w64 ((p0.Hours.length : Int) + 1)).toNat)) <|
             (x35.1[p5.toNat]?).bind fun x43 =>
             bif (decide (p6 < ((x43.2 : Nat) : Int))) then
              chk (decide (0 ≤ p5) && decide (p5.toNat < (w64 ((p0.Hours.length : Int) + 1)).toNat)) <|
              (x35.1[p5.toNat]?).bind fun x47 =>
              chk (!(x35.2.getD x47.1 []).isEmpty) <|
              chk (decide (0 ≤ p6) && decide (p6.toNat < x47.2)) <|
              (getM x35.2 x47.1 p6.toNat).bind fun x51 =>
              chk (decide (0 ≤ p6) && decide (p6.toNat < x47.2)) <|
              (getM x35.2 x47.1 p6.toNat).bind fun _ =>
              chk (x35.1.all fun x => decide (x.2 ≤ ((setM x35.2 x47.1 p6.toNat (w64 (x51 + p7))).getD x.1 []).length)) <|
              chk (decide ((w64 ((p0.Hours.length : Int) + 1)).toNat ≤ ((x35.1).map fun x => ((setM x35.2 x47.1 p6.toNat (w64 (x51 + p7))).getD x.1 []).take x.2).length)) <|
              k8 (x33.1, x33.2, ((x35.1).map fun x => ((setM x35.2 x47.1 p6.toNat (w64 (x51 + p7))).getD x.1 []).take x.2).take ((w64 ((p0.Hours.length : Int) + 1)).toNat))
             else
              bif (p5 == (-2)) then
               chk (x35.1.all fun x => decide (x.2 ≤ (x35.2.getD x.1 []).length)) <|
               chk (decide ((w64 ((p0.Hours.length : Int) + 1)).toNat ≤ ((x35.1).map fun x => (x35.2.getD x.1 []).take x.2).length)) <|
               k8 (x33.1, w64 (x33.2 + p7), ((x35.1).map fun x => (x35.2.getD x.1 []).take x.2).take ((w64 ((p0.Hours.length : Int) + 1)).toNat))
              else
               chk (x35.1.all fun x => decide (x.2 ≤ (x35.2.getD x.1 []).length)) <|
               chk (decide ((w64 ((p0.Hours.length : Int) + 1)).toNat ≤ ((x35.1).map fun x => (x35.2.getD x.1 []).take x.2).length)) <|
               k8 (x33.1, x33.2, ((x35.1).map fun x => (x35.2.getD x.1 []).take x.2).take ((w64 ((p0.Hours.length : Int) + 1)).toNat))
            else
             bif (p5 == (-2)) then
              chk (x35.1.all fun x => decide (x.2 ≤ (x35.2.getD x.1 []).length)) <|
              chk (decide ((w64 ((p0.Hours.length : Int) + 1)).toNat ≤ ((x35.1).map fun x => (x35.2.getD x.1 []).take x.2).length)) <|
              k8 (x33.1, w64 (x33.2 + p7), ((x35.1).map fun x => (x35.2.getD x.1 []).take x.2).take ((w64 ((p0.Hours.length : Int) + 1)).toNat))
             else
              chk (x35.1.all fun x => decide (x.2 ≤ (x35.2.getD x.1 []).length)) <|
              chk (decide ((w64 ((p0.Hours.length : Int) + 1)).toNat ≤ ((x35.1).map fun x => (x35.2.getD x.1 []).take x.2).length)) <|
              k8 (x33.1, x33.2, ((x35.1).map fun x => (x35.2.getD x.1 []).take x.2).take ((w64 ((p0.Hours.length : Int) + 1)).toNat))
           else
            bif (p5 == (-2)) then
             chk (x35.1.all fun x => decide (x.2 ≤ (x35.2.getD x.1 []).length)) <|
             chk (decide ((w64 ((p0.Hours.length : Int) + 1)).toNat ≤ ((x35.1).map fun x => (x35.2.getD x.1 []).take x.2).length)) <|
             k8 (x33.1, w64 (x33.2 + p7), ((x35.1).map fun x => (x35.2.getD x.1 []).take x.2).take ((w64 ((p0.Hours.length : Int) + 1)).toNat))
            else
             chk (x35.1.all fun x => decide (x.2 ≤ (x35.2.getD x.1 []).length)) <|
             chk (decide ((w64 ((p0.Hours.length : Int) + 1)).toNat ≤ ((x35.1).map fun x => (x35.2.getD x.1 []).take x.2).length)) <|
             k8 (x33.1, x33.2, ((x35.1).map fun x => (x35.2.getD x.1 []).take x.2).take ((w64 ((p0.Hours.length : Int) + 1)).toNat))
          else
           bif (p5 == (-2)) then
            chk (x35.1.all fun x => decide (x.2 ≤ (x35.2.getD x.1 []).length)) <|
            chk (decide ((w64 ((p0.Hours.length : Int) + 1)).toNat ≤ ((x35.1).map fun x => (x35.2.getD x.1 []).take x.2).length)) <|
            k8 (x33.1, w64 (x33.2 + p7), ((x35.1).map fun x => (x35.2.getD x.1 []).take x.2).take ((w64 ((p0.Hours.length : Int) + 1)).toNat))
           else
            chk (x35.1.all fun x => decide (x.2 ≤ (x35.2.getD x.1 []).length)) <|
            chk (decide ((w64 ((p0.Hours.length : Int) + 1)).toNat ≤ ((x35.1).map fun x => (x35.2.getD x.1 []).take x.2).length)) <|
            k8 (x33.1, x33.2, ((x35.1).map fun x => (x35.2.getD x.1 []).take x.2).take ((w64 ((p0.Hours.length : Int) + 1)).toNat))
         else
          chk (x35.1.all fun x => decide (x.2 ≤ (x35.2.getD x.1 []).length)) <|
          chk (decide ((w64 ((p0.Hours.length : Int) + 1)).toNat ≤ ((x35.1).map fun x => (x35.2.getD x.1 []).take x.2).length)) <|
          k8 (x33.1, x33.2, ((x35.1).map fun x => (x35.2.getD x.1 []).take x.2).take ((w64 ((p0.Hours.length : Int) + 1)).toNat))
        else
         k8 (p1, p2, p3)) fun k30 : Bool → Option Bool =>
      bif p4 then
       k30 (x4)
      else
       k30 (false)) fun k2 : Unit → Option Bool =>
    Qco N k2 p3 N 0) fun k1 : Unit → Option Bool =>
  (Qip N p0).bind fun x93 =>
  bif (!x93) then
   (Qfz 2000 ).bind fun x96 =>
   some x96
  else
   bif (decide ((p1.length : Int) > 10)) then
    (Qfz 2000 ).bind fun x99 =>
    some x99
   else
    bif (decide ((p3.length : Int) > 8)) then
     (Qfz 2000 ).bind fun x102 =>
     some x102
    else
     k1 ()
def Qjw (p1 : (List Int)) : AV := .dat 1 ((p1 : List Int).map Qab)
def Qje (p3 : (List (List Int))) : AV := .dat 1 ((p3 : List (List Int)).map Qa3)
def Qc5 (p0 : GJob) : Slot := .own 5 [[(.dat 1 ((p0.Levels : List Int).map Qab)), (I (p0.Ramp)), (I (p0.Start)), (I (p0.First)), (.dat 2 ((p0.Hours : List GHour).map Qax))]]
def Qhi (p0 : GJob) : AV := .agg [(.dat 1 ((p0.Levels : List Int).map Qab)), (I (p0.Ramp)), (I (p0.Start)), (I (p0.First)), (.dat 2 ((p0.Hours : List GHour).map Qax))]
def Qit (y5 : (List Int)) : AV := .dat 1 ((y5 : List Int).map Qab)
def Qis (y7 : (List (List Int))) : AV := .dat 1 ((y7 : List (List Int)).map Qa3)
def Qn3 (x12 : GJob) : AV := .agg [(.dat 1 ((x12.Levels : List Int).map Qab)), (I (x12.Ramp)), (I (x12.Start)), (I (x12.First)), (.dat 2 ((x12.Hours : List GHour).map Qax))]
def Qn2 (x14 : (List Int)) : AV := .dat 1 ((x14 : List Int).map Qab)
def Qn1 (x16 : (List (List Int))) : AV := .dat 1 ((x16 : List (List Int)).map Qa3)
def Qdo (x33 : ((List Int) × Int)) : AV := .dat 1 ((x33.1 : List Int).map Qab)
def Qn0 (x35 : ((List (Nat × Nat)) × (List (List Int)))) : Slot := .own 1 ((x35.1 : List (Nat × Nat)).map (c_mr 2 1))
def Qnz (x35 : ((List (Nat × Nat)) × (List (List Int)))) : Slot := .mat 1 (matA Qab (x35.2 : List (List Int)))
def Qkm (x35 : ((List (Nat × Nat)) × (List (List Int)))) : Slot := .own 1 (((x35.1).map fun x => (x35.2.getD x.1 []).take x.2 : List (List Int)).map Qa3)
def Qge (x35 : ((List (Nat × Nat)) × (List (List Int)))) (p0 : GJob) : AV := .dat 1 ((((x35.1).map fun x => (x35.2.getD x.1 []).take x.2).take ((w64 ((p0.Hours.length : Int) + 1)).toNat) : List (List Int)).map Qa3)
set_option maxRecDepth 100000 in
set_option maxHeartbeats 4000000 in
theorem Qlz (N : Nat) (p0 : GJob) (p1 : (List Int)) (p2 : Int) (p3 : (List (List Int))) (p4 : Bool) (p5 : Int) (p6 : Int) (p7 : Int) (r : Bool) (h : Qgj N p0 p1 p2 p3 p4 p5 p6 p7 = some r) : Spec Try.prog 11 [(.agg (Qhk p0)), (.dat 1 (p1.map Qab)), (I p2), (.dat 1 (p3.map Qa3)), (B p4), (I p5), (I p6), (I p7)] [] (B r) [] := by
  refine Qae Try.func11 rfl 0 (nle rfl) (fun X φ0 w0 hφ0 => ?_)
  unfold Qgj at h
  refine wx tbk [] trivial ?_
  obtain ⟨k1, hk_k1, h⟩ := jko h
  refine wjn (τ := Unit) (fun t => k1 t = some r) (fun _ => ⟨mk 132 [(1, (Qjw p1)), (2, I p2), (3, (Qje p3)), (4, B p4), (5, I p5), (6, I p6), (7, I p7), (8, .ref 0 5 0 0)], [(Qc5 p0)]⟩) (fun t h => ?_) ?_
  ·subst hk_k1
   obtain ⟨k2, hk_k2, h⟩ := jko h
   refine wjn (τ := Unit) (fun t => k2 t = some r) (fun _ => ⟨mk 132 [(1, (Qjw p1)), (2, I p2), (3, (Qje p3)), (4, B p4), (5, I p5), (6, I p6), (7, I p7), (8, .ref 0 5 0 0)], [(Qc5 p0)]⟩) (fun t h => ?_) ?_
   ·subst hk_k2
    obtain ⟨x4, hf3, h⟩ := bno h
    refine wx tbk [(1, rp [fu 20, (.tmp 49, (Qhi p0))] (B x4))] ⟨apc (first := []) (cap := []) (vs := [(Qhi p0)]) rfl Qsf (Qgf N p0 _ hf3) rfl rfl (nlc (NLt.agg _ (nlc (nld Qaa _) (nlc nll (nlc nll (nlc nll (nlc (nld Qac _) nl0)))))) nl0) nll rfl, trivial⟩ ?_
    obtain ⟨k8, hk_k8, h⟩ := jko h
    refine wjn (τ := (List Int) × Int × (List (List Int))) (fun t => k8 t = some r) (fun ⟨y5, y6, y7⟩ => ⟨mk 132 [(1, (Qit y5)), (2, I y6), (3, (Qis y7)), (8, .ref 0 5 0 0), (18, B x4)], [(Qc5 p0)]⟩) (fun t h => ?_) ?_
    ·subst hk_k8
     obtain ⟨y5, y6, y7⟩ := t
     refine wx tbk [] trivial ?_
     obtain ⟨k10, hk_k10, h⟩ := jko h
     refine wjn (τ := Bool) (fun t => k10 t = some r) (fun y9 => ⟨mk 132 [(1, (Qit y5)), (2, I y6), (3, (Qis y7)), (8, .ref 0 5 0 0), (19, B y9)], [(Qc5 p0)]⟩) (fun y9 h => ?_) ?_
     ·subst hk_k10
      obtain ⟨x12, hf11, h⟩ := bno h
      obtain ⟨x14, hf13, h⟩ := bno h
      obtain ⟨x16, hf15, h⟩ := bno h
      obtain ⟨x18, hf17, h⟩ := bno h
      rcases bft ((x18 == y9)) with hb19 | hb19
      ·replace h := Qas hb19 h
       obtain ⟨x21, hf20, h⟩ := bno h
       refine wx tbk [(1, rp [fu 22, (.tmp 119, (Qhi p0))] (Qn3 x12)), (3, rp [fu 37, (.tmp 121, (Qit y5))] (Qn2 x14)), (6, rp [fu 56, (.tmp 124, (Qis y7))] (Qn1 x16)), (7, rp [fu 55, (.tmp 120, (Qn3 x12)), (.tmp 122, (Qn2 x14)), (.tmp 123, I y6), (.tmp 125, (Qn1 x16))] (B x18)), (9, rp [(.tmp 126, B x18), (.tmp 127, B y9)] (B ((x18 == y9)))), (10, rp [(.tmp 128, (B ((x18 == y9))))] (B true)), (11, rp [(.tmp 129, B true), fu 17] (B x21))] ⟨apc (first := []) (cap := []) (vs := [(Qhi p0)]) rfl enter22 (Qnj N p0 _ hf11) rfl rfl (nlc (NLt.agg _ (nlc (nld Qaa _) (nlc nll (nlc nll (nlc nll (nlc (nld Qac _) nl0)))))) nl0) (NLt.agg _ (nlc (nld Qaa _) (nlc nll (nlc nll (nlc nll (nlc (nld Qac _) nl0)))))) rfl, apc (first := []) (cap := []) (vs := [(Qit y5)]) rfl Qse (Qic N y5 _ hf13) rfl rfl (nlc (nld Qaa _) nl0) (nld Qaa _) rfl, apc (first := []) (cap := []) (vs := [(Qis y7)]) rfl enter56 (Qmo N y7 _ hf15) rfl rfl (nlc (nld Qa4 _) nl0) (nld Qa4 _) rfl, apc (first := []) (cap := []) (vs := [(Qn3 x12), (Qn2 x14), I y6, (Qn1 x16)]) rfl enter55 (Qhz N x12 x14 y6 x16 _ hf17) rfl rfl (nlc (NLt.agg _ (nlc (nld Qaa _) (nlc nll (nlc nll (nlc nll (nlc (nld Qac _) nl0)))))) (nlc (nld Qaa _) (nlc nll (nlc (nld Qa4 _) nl0)))) nll rfl, Quh rfl Try.underlying4, asb hb19 (amv rfl), ag_ (apc (first := []) (cap := []) (vs := []) rfl Qp3 (Qgo 2000  _ hf20) rfl rfl nl0 nll rfl), trivial⟩ ?_
       refine Qad ?_
       obtain rfl := osi h
       exact fend ⟨[B x21], ⟨rot (by kernel_rfl), trivial⟩, rfl⟩ nll
      ·replace h := Qat hb19 h
       refine wx tbk [(1, rp [fu 22, (.tmp 119, (Qhi p0))] (Qn3 x12)), (3, rp [fu 37, (.tmp 121, (Qit y5))] (Qn2 x14)), (6, rp [fu 56, (.tmp 124, (Qis y7))] (Qn1 x16)), (7, rp [fu 55, (.tmp 120, (Qn3 x12)), (.tmp 122, (Qn2 x14)), (.tmp 123, I y6), (.tmp 125, (Qn1 x16))] (B x18)), (9, rp [(.tmp 126, B x18), (.tmp 127, B y9)] (B ((x18 == y9)))), (10, rp [(.tmp 128, (B ((x18 == y9))))] (B false))] ⟨apc (first := []) (cap := []) (vs := [(Qhi p0)]) rfl enter22 (Qnj N p0 _ hf11) rfl rfl (nlc (NLt.agg _ (nlc (nld Qaa _) (nlc nll (nlc nll (nlc nll (nlc (nld Qac _) nl0)))))) nl0) (NLt.agg _ (nlc (nld Qaa _) (nlc nll (nlc nll (nlc nll (nlc (nld Qac _) nl0)))))) rfl, apc (first := []) (cap := []) (vs := [(Qit y5)]) rfl Qse (Qic N y5 _ hf13) rfl rfl (nlc (nld Qaa _) nl0) (nld Qaa _) rfl, apc (first := []) (cap := []) (vs := [(Qis y7)]) rfl enter56 (Qmo N y7 _ hf15) rfl rfl (nlc (nld Qa4 _) nl0) (nld Qa4 _) rfl, apc (first := []) (cap := []) (vs := [(Qn3 x12), (Qn2 x14), I y6, (Qn1 x16)]) rfl enter55 (Qhz N x12 x14 y6 x16 _ hf17) rfl rfl (nlc (NLt.agg _ (nlc (nld Qaa _) (nlc nll (nlc nll (nlc nll (nlc (nld Qac _) nl0)))))) (nlc (nld Qaa _) (nlc nll (nlc (nld Qa4 _) nl0)))) nll rfl, Quh rfl Try.underlying4, asb hb19 (amv rfl), trivial⟩ ?_
       refine Qad ?_
       obtain rfl := osi h
       exact fend ⟨[B false], ⟨rot (by kernel_rfl), trivial⟩, rfl⟩ nll
     ·skip
      refine wx tbk [] trivial ?_
      rcases bft (x4) with hc22 | hc22
      ·replace h := Qas hc22 h
       refine wft hc22 (by kernel_rfl) ?_
       obtain ⟨x24, hf23, h⟩ := bno h
       refine wx tbk [(2, rp [fu 38, (.tmp 102, (Qhi p0)), (.tmp 103, (Qit y5))] (.tup [I x24.1, B x24.2]))] ⟨apc (first := []) (cap := []) (vs := [(Qhi p0), (Qit y5)]) rfl enter38 (Qk3 N p0 y5 _ hf23) rfl rfl (nlc (NLt.agg _ (nlc (nld Qaa _) (nlc nll (nlc nll (nlc nll (nlc (nld Qac _) nl0)))))) (nlc (nld Qaa _) nl0)) (NLt.tup _ (nlc nll (nlc nll nl0))) rfl, trivial⟩ ?_
       rcases bft (x24.2) with hb25 | hb25
       ·replace h := Qas hb25 h
        rcases bft ((x24.1 == y6)) with hb26 | hb26
        ·replace h := Qas hb26 h
         obtain ⟨x28, hf27, h⟩ := bno h
         refine wx1 tbk [(1, rp [(.tmp 107, B x24.2)] (B true)), (6, rp [(.tmp 112, (B ((x24.1 == y6))))] (B true)), (10, rp [(.tmp 113, B true), fu 54, (.tmp 114, (Qhi p0)), (.tmp 115, I y6), (.tmp 116, (Qis y7))] (B x28))] ⟨asb hb25 (amv rfl), asb hb26 (amv rfl), ag_ (apc (first := []) (cap := []) (vs := [(Qhi p0), I y6, (Qis y7)]) rfl enter54 (Qpo N p0 y6 y7 _ hf27) rfl rfl (nlc (NLt.agg _ (nlc (nld Qaa _) (nlc nll (nlc nll (nlc nll (nlc (nld Qac _) nl0)))))) (nlc nll (nlc (nld Qa4 _) nl0))) nll rfl), trivial⟩ ?_
         refine thn ?_
         exact ⟨(x28), h, (mto (n := 132) [(1, (Qit y5)), (2, I y6), (3, (Qis y7)), (8, .ref 0 5 0 0), (19, B x28)] [0] [(Qc5 p0)] hφ0 (pc (.rn (.plain _ (nld Qaa _))) (pc rwl (pc (.rn (.plain _ (nld Qa4 _))) (pc (.rn (rqr rfl)) (pc rwl pn))))) (qc (spb (lc (.rn (.plain _ (nld Qaa _))) (lc rwl (lc rwl (lc rwl (lc (.rn (.plain _ (nld Qac _))) ln)))))) qn))⟩
        ·replace h := Qat hb26 h
         refine wx1 tbk [(1, rp [(.tmp 107, B x24.2)] (B true)), (6, rp [(.tmp 112, (B ((x24.1 == y6))))] (B false))] ⟨asb hb25 (amv rfl), asb hb26 (amv rfl), trivial⟩ ?_
         refine thn ?_
         exact ⟨(false), h, (mto (n := 132) [(1, (Qit y5)), (2, I y6), (3, (Qis y7)), (8, .ref 0 5 0 0), (19, B false)] [0] [(Qc5 p0)] hφ0 (pc (.rn (.plain _ (nld Qaa _))) (pc rwl (pc (.rn (.plain _ (nld Qa4 _))) (pc (.rn (rqr rfl)) (pc rwl pn))))) (qc (spb (lc (.rn (.plain _ (nld Qaa _))) (lc rwl (lc rwl (lc rwl (lc (.rn (.plain _ (nld Qac _))) ln)))))) qn))⟩
       ·replace h := Qat hb25 h
        refine wx1 tbk [(1, rp [(.tmp 107, B x24.2)] (B false))] ⟨asb hb25 (amv rfl), trivial⟩ ?_
        refine thn ?_
        exact ⟨(false), h, (mto (n := 132) [(1, (Qit y5)), (2, I y6), (3, (Qis y7)), (8, .ref 0 5 0 0), (19, B false)] [0] [(Qc5 p0)] hφ0 (pc (.rn (.plain _ (nld Qaa _))) (pc rwl (pc (.rn (.plain _ (nld Qa4 _))) (pc (.rn (rqr rfl)) (pc rwl pn))))) (qc (spb (lc (.rn (.plain _ (nld Qaa _))) (lc rwl (lc rwl (lc rwl (lc (.rn (.plain _ (nld Qac _))) ln)))))) qn))⟩
      ·replace h := Qat hc22 h
       refine wfn hc22 (by kernel_rfl) ?_
       refine Qai ?_
       refine thn ?_
       exact ⟨(false), h, (mto (n := 132) [(1, (Qit y5)), (2, I y6), (3, (Qis y7)), (8, .ref 0 5 0 0), (19, B false)] [0] [(Qc5 p0)] hφ0 (pc (.rn (.plain _ (nld Qaa _))) (pc rwl (pc (.rn (.plain _ (nld Qa4 _))) (pc (.rn (rqr rfl)) (pc rwl pn))))) (qc (spb (lc (.rn (.plain _ (nld Qaa _))) (lc rwl (lc rwl (lc rwl (lc (.rn (.plain _ (nld Qac _))) ln)))))) qn))⟩
    ·skip
     obtain ⟨k30, hk_k30, h⟩ := jko h
     refine wjn (τ := Bool) (fun t => k30 t = some r) (fun y29 => ⟨mk 132 [(1, (Qjw p1)), (2, I p2), (3, (Qje p3)), (5, I p5), (6, I p6), (7, I p7), (8, .ref 0 5 0 0), (18, B x4), (54, B y29)], [(Qc5 p0)]⟩) (fun y29 h => ?_) ?_
     ·subst hk_k30
      rcases bft (y29) with hc31 | hc31
      ·replace h := Qas hc31 h
       refine wft hc31 (by kernel_rfl) ?_
       obtain ⟨x33, hf32, h⟩ := bno h
       refine wx tbk [(1, rp [fu 39, (.tmp 56, (Qhi p0))] (.tup [(Qdo x33), I x33.2]))] ⟨apc (first := []) (cap := []) (vs := [(Qhi p0)]) rfl enter39 (Qqg N p0 _ hf32) rfl rfl (nlc (NLt.agg _ (nlc (nld Qaa _) (nlc nll (nlc nll (nlc nll (nlc (nld Qac _) nl0)))))) nl0) (NLt.tup _ (nlc (nld Qaa _) (nlc nll nl0))) rfl, trivial⟩ ?_
       obtain ⟨x35, hf34, h⟩ := bno h
       refine wx tbk [(1, ⟨[fu 42, (.tmp 60, (Qhi p0))], [(1, .unused), (2, .unused)], (.own 1 1 (0) ((w64 ((p0.Hours.length : Int) + 1)).toNat)), [(1, (Qn0 x35)), (2, (Qnz x35))], false⟩)] ⟨Qap (first := []) (cap := []) (vs := [(Qhi p0)]) (σr := []) (σr' := [(Qn0 x35), (Qnz x35)]) (res' := (.own 1 1 (0) ((w64 ((p0.Hours.length : Int) + 1)).toNat))) [1, 2] rfl enter42 (Qn9 N p0 _ hf34) rfl (Qb6 (rnc (.plain _ (NLt.agg _ (nlc (nld Qaa _) (nlc nll (nlc nll (nlc nll (nlc (nld Qac _) nl0))))))) rn0)) Qao (slc (Qjh rfl) (slc (Qh8 Qaa) Qao)) (Qj1 rfl) rfl rfl rfl, trivial⟩ ?_
       obtain ⟨x37, hf36, h⟩ := bno h
       refine wx tbk [(1, rp [fu 25, (.tmp 62, I p7), ci (-2000000000000), ci 2000000000000] (B x37))] ⟨apc (first := []) (cap := []) (vs := [I p7, (I ((-2000000000000))), I 2000000000000]) rfl Qfn (Qb4 N p7 (-2000000000000) 2000000000000 _ hf36) rfl rfl (nlc nll (nlc nll (nlc nll nl0))) nll rfl, trivial⟩ ?_
       rcases bft (x37) with hc38 | hc38
       ·replace h := Qas hc38 h
        refine wft hc38 (by kernel_rfl) ?_
        rcases bft ((decide (p5 ≥ 0))) with hb39 | hb39
        ·replace h := Qas hb39 h
         rcases bft ((decide (p5 < (((w64 ((p0.Hours.length : Int) + 1)).toNat : Nat) : Int)))) with hb40 | hb40
         ·replace h := Qas hb40 h
          rcases bft ((decide (p6 ≥ 0))) with hb41 | hb41
          ·replace h := Qas hb41 h
           obtain ⟨hi42, h⟩ := cko h
           obtain ⟨hi42a, hi42b⟩ := Qa0 hi42
           obtain ⟨x43, hg44, h⟩ := bno h
           refine wx tbk [(2, rp [(.tmp 65, (B ((decide (p5 ≥ 0)))))] (B true)), (5, rp [(.tmp 66, B true), (.tmp 68, (.own 1 1 (0) ((w64 ((p0.Hours.length : Int) + 1)).toNat)))] (I ((((w64 ((p0.Hours.length : Int) + 1)).toNat : Nat) : Int)))), (8, rp [(.tmp 71, (B ((decide (p5 < (((w64 ((p0.Hours.length : Int) + 1)).toNat : Nat) : Int))))))] (B true)), (12, rp [(.tmp 75, (B ((decide (p6 ≥ 0)))))] (B true)), (16, rb [(.tmp 76, B true), (.tmp 78, (.own 1 1 (0) ((w64 ((p0.Hours.length : Int) + 1)).toNat))), (.tmp 79, I p5)] [(1, (Qn0 x35))] (.ref 1 1 (p5.toNat) 0)), (17, rb [(.tmp 76, B true), (.tmp 80, (.ref 1 1 (p5.toNat) 0))] [(1, (Qn0 x35))] (.row 2 x43.1 1 (0) (x43.2))), (18, rp [(.tmp 76, B true), (.tmp 81, (.row 2 x43.1 1 (0) (x43.2)))] (I (((x43.2 : Nat) : Int))))] ⟨asb hb39 (amv rfl), ag_ (aln rfl Try.underlying42 rfl), asb hb40 (amv rfl), asb hb41 (amv rfl), ag_ (aio rfl Try.underlying42 ti37 (odt hi42a) (odt hi42b) (Nat.zero_add _)), ag_ (ald rfl ti37 (by decide) (mgt (c_mr 2 1) hg44) (nle rfl) rfl), ag_ (aln rfl Try.underlying37 rfl), trivial⟩ ?_
           rcases bft ((decide (p6 < ((x43.2 : Nat) : Int)))) with hc45 | hc45
           ·replace h := Qas hc45 h
            refine wft hc45 (by kernel_rfl) ?_
            obtain ⟨hi46, h⟩ := cko h
            obtain ⟨hi46a, hi46b⟩ := Qa0 hi46
            obtain ⟨x47, hg48, h⟩ := bno h
            obtain ⟨hz50, h⟩ := cko h
            obtain ⟨hi49, h⟩ := cko h
            obtain ⟨hi49a, hi49b⟩ := Qa0 hi49
            obtain ⟨x51, hg52, h⟩ := bno h
            obtain ⟨hi53, h⟩ := cko h
            obtain ⟨hi53a, hi53b⟩ := Qa0 hi53
            obtain ⟨x54, hg55, h⟩ := bno h
            refine wx1 tbk [(2, rb [(.tmp 85, (.own 1 1 (0) ((w64 ((p0.Hours.length : Int) + 1)).toNat))), (.tmp 86, I p5)] [(1, (Qn0 x35))] (.ref 1 1 (p5.toNat) 0)), (3, rb [(.tmp 87, (.ref 1 1 (p5.toNat) 0))] [(1, (Qn0 x35))] (.row 2 x47.1 1 (0) (x47.2))), (5, rb [(.tmp 88, (.row 2 x47.1 1 (0) (x47.2))), (.tmp 89, I p6)] [(2, (Qnz x35))] (.rowp 2 x47.1 1 (p6.toNat) 0)), (6, rb [(.tmp 90, (.rowp 2 x47.1 1 (p6.toNat) 0))] [(2, (Qnz x35))] (I x51)), (9, rb [(.tmp 88, (.row 2 x47.1 1 (0) (x47.2))), (.tmp 89, I p6)] [(2, (Qnz x35))] (.rowp 2 x47.1 1 (p6.toNat) 0)), (10, ⟨[(.tmp 94, (.rowp 2 x47.1 1 (p6.toNat) 0)), (.tmp 93, (I (w64 (x51 + p7))))], [(2, (Qnz x35))], .any, [(2, (.mat 1 (matA Qab (setM x35.2 x47.1 p6.toNat (w64 (x51 + p7)) : List (List Int)))))], false⟩)] ⟨aio rfl Try.underlying42 ti37 (odt hi46a) (odt hi46b) (Nat.zero_add _), ald rfl ti37 (by decide) (mgt (c_mr 2 1) hg48) (nle rfl) rfl, Qcc rfl Try.underlying37 ti3 (odt hi49a) (odt hi49b) hz50 (Nat.zero_add _), Qd9 rfl ti3 (by decide) hg52 (nle rfl) rfl, Qcc rfl Try.underlying37 ti3 (odt hi53a) (odt hi53b) hz50 (Nat.zero_add _), Qf0 (u' := w64 (x51 + p7)) rfl ti3 (by rfl) hg55 (nle rfl) rfl, trivial⟩ ?_
            refine thn ?_
            obtain ⟨hz56, h⟩ := cko h
            obtain ⟨hz57, h⟩ := cko h
            exact ⟨(x33.1, x33.2, ((x35.1).map fun x => ((setM x35.2 x47.1 p6.toNat (w64 (x51 + p7))).getD x.1 []).take x.2).take ((w64 ((p0.Hours.length : Int) + 1)).toNat)), h, (Mor.trans (Qjm (q := 1) (a := 2) (m := 1) (c := Qab) (cl := Qa3) (E := x35.1) (R := setM x35.2 x47.1 p6.toNat (w64 (x51 + p7))) (own' := [(Qc5 p0), (.own 1 (((x35.1).map fun x => ((setM x35.2 x47.1 p6.toNat (w64 (x51 + p7))).getD x.1 []).take x.2 : List (List Int)).map Qa3)), .dead]) rfl (by kernel_rfl) (by kernel_rfl) (by kernel_rfl) hz56 (fun _ => rfl) (by kernel_rfl)) (Mor.trans (Qke (n := 132) (m := 1) (xs := ((x35.1).map fun x => ((setM x35.2 x47.1 p6.toNat (w64 (x51 + p7))).getD x.1 []).take x.2 : List (List Int)).map Qa3) (l' := [(1, (Qdo x33)), (2, I x33.2), (3, (.dat 1 ((((x35.1).map fun x => ((setM x35.2 x47.1 p6.toNat (w64 (x51 + p7))).getD x.1 []).take x.2).take ((w64 ((p0.Hours.length : Int) + 1)).toNat) : List (List Int)).map Qa3))), (8, .ref 0 5 0 0), (18, B x4)]) (own' := [(Qc5 p0), .dead, .dead]) 1 [(1, (Qdo x33)), (2, I x33.2), (3, (.own 1 1 (0) ((w64 ((p0.Hours.length : Int) + 1)).toNat))), (8, .ref 0 5 0 0), (18, B x4)] (by kernel_rfl) (by kernel_rfl) (by kernel_rfl) ⟨rfl, .same _, rfl, .same _, rfl, (Qh2 hz57), rfl, .same _, rfl, .same _, trivial⟩ (by kernel_rfl)) (mto (n := 132) [(1, (Qdo x33)), (2, I x33.2), (3, (.dat 1 ((((x35.1).map fun x => ((setM x35.2 x47.1 p6.toNat (w64 (x51 + p7))).getD x.1 []).take x.2).take ((w64 ((p0.Hours.length : Int) + 1)).toNat) : List (List Int)).map Qa3))), (8, .ref 0 5 0 0), (18, B x4)] [0] [(Qc5 p0)] hφ0 (pc (.rn (.plain _ (nld Qaa _))) (pc rwl (pc (.rn (.plain _ (nld Qa4 _))) (pc (.rn (rqr rfl)) (pc rwl pn))))) (qc (spb (lc (.rn (.plain _ (nld Qaa _))) (lc rwl (lc rwl (lc rwl (lc (.rn (.plain _ (nld Qac _))) ln)))))) qn))))⟩
           ·replace h := Qat hc45 h
            refine wfn hc45 (by kernel_rfl) ?_
            refine wx tbk [] trivial ?_
            rcases bft ((p5 == (-2))) with hc58 | hc58
            ·replace h := Qas hc58 h
             refine wft hc58 (by kernel_rfl) ?_
             refine wx1 tbk [] trivial ?_
             refine thn ?_
             obtain ⟨hz59, h⟩ := cko h
             obtain ⟨hz60, h⟩ := cko h
             exact ⟨(x33.1, w64 (x33.2 + p7), ((x35.1).map fun x => (x35.2.getD x.1 []).take x.2).take ((w64 ((p0.Hours.length : Int) + 1)).toNat)), h, (Mor.trans (Qjm (q := 1) (a := 2) (m := 1) (c := Qab) (cl := Qa3) (E := x35.1) (R := x35.2) (own' := [(Qc5 p0), (Qkm x35), .dead]) rfl (by kernel_rfl) (by kernel_rfl) (by kernel_rfl) hz59 (fun _ => rfl) (by kernel_rfl)) (Mor.trans (Qke (n := 132) (m := 1) (xs := ((x35.1).map fun x => (x35.2.getD x.1 []).take x.2 : List (List Int)).map Qa3) (l' := [(1, (Qdo x33)), (2, (I (w64 (x33.2 + p7)))), (3, (Qge x35 p0)), (8, .ref 0 5 0 0), (18, B x4)]) (own' := [(Qc5 p0), .dead, .dead]) 1 [(1, (Qdo x33)), (2, (I (w64 (x33.2 + p7)))), (3, (.own 1 1 (0) ((w64 ((p0.Hours.length : Int) + 1)).toNat))), (8, .ref 0 5 0 0), (18, B x4)] (by kernel_rfl) (by kernel_rfl) (by kernel_rfl) ⟨rfl, .same _, rfl, .same _, rfl, (Qh2 hz60), rfl, .same _, rfl, .same _, trivial⟩ (by kernel_rfl)) (mto (n := 132) [(1, (Qdo x33)), (2, (I (w64 (x33.2 + p7)))), (3, (Qge x35 p0)), (8, .ref 0 5 0 0), (18, B x4)] [0] [(Qc5 p0)] hφ0 (pc (.rn (.plain _ (nld Qaa _))) (pc rwl (pc (.rn (.plain _ (nld Qa4 _))) (pc (.rn (rqr rfl)) (pc rwl pn))))) (qc (spb (lc (.rn (.plain _ (nld Qaa _))) (lc rwl (lc rwl (lc rwl (lc (.rn (.plain _ (nld Qac _))) ln)))))) qn))))⟩
            ·replace h := Qat hc58 h
             refine wfn hc58 (by kernel_rfl) ?_
             refine Qai ?_
             refine thn ?_
             obtain ⟨hz61, h⟩ := cko h
             obtain ⟨hz62, h⟩ := cko h
             exact ⟨(x33.1, x33.2, ((x35.1).map fun x => (x35.2.getD x.1 []).take x.2).take ((w64 ((p0.Hours.length : Int) + 1)).toNat)), h, (Mor.trans (Qjm (q := 1) (a := 2) (m := 1) (c := Qab) (cl := Qa3) (E := x35.1) (R := x35.2) (own' := [(Qc5 p0), (Qkm x35), .dead]) rfl (by kernel_rfl) (by kernel_rfl) (by kernel_rfl) hz61 (fun _ => rfl) (by kernel_rfl)) (Mor.trans (Qke (n := 132) (m := 1) (xs := ((x35.1).map fun x => (x35.2.getD x.1 []).take x.2 : List (List Int)).map Qa3) (l' := [(1, (Qdo x33)), (2, I x33.2), (3, (Qge x35 p0)), (8, .ref 0 5 0 0), (18, B x4)]) (own' := [(Qc5 p0), .dead, .dead]) 1 [(1, (Qdo x33)), (2, I x33.2), (3, (.own 1 1 (0) ((w64 ((p0.Hours.length : Int) + 1)).toNat))), (8, .ref 0 5 0 0), (18, B x4)] (by kernel_rfl) (by kernel_rfl) (by kernel_rfl) ⟨rfl, .same _, rfl, .same _, rfl, (Qh2 hz62), rfl, .same _, rfl, .same _, trivial⟩ (by kernel_rfl)) (mto (n := 132) [(1, (Qdo x33)), (2, I x33.2), (3, (Qge x35 p0)), (8, .ref 0 5 0 0), (18, B x4)] [0] [(Qc5 p0)] hφ0 (pc (.rn (.plain _ (nld Qaa _))) (pc rwl (pc (.rn (.plain _ (nld Qa4 _))) (pc (.rn (rqr rfl)) (pc rwl pn))))) (qc (spb (lc (.rn (.plain _ (nld Qaa _))) (lc rwl (lc rwl (lc rwl (lc (.rn (.plain _ (nld Qac _))) ln)))))) qn))))⟩
          ·replace h := Qat hb41 h
           refine wx tbk [(2, rp [(.tmp 65, (B ((decide (p5 ≥ 0)))))] (B true)), (5, rp [(.tmp 66, B true), (.tmp 68, (.own 1 1 (0) ((w64 ((p0.Hours.length : Int) + 1)).toNat)))] (I ((((w64 ((p0.Hours.length : Int) + 1)).toNat : Nat) : Int)))), (8, rp [(.tmp 71, (B ((decide (p5 < (((w64 ((p0.Hours.length : Int) + 1)).toNat : Nat) : Int))))))] (B true)), (12, rp [(.tmp 75, (B ((decide (p6 ≥ 0)))))] (B false))] ⟨asb hb39 (amv rfl), ag_ (aln rfl Try.underlying42 rfl), asb hb40 (amv rfl), asb hb41 (amv rfl), trivial⟩ ?_
           refine Qd2 (by kernel_rfl) ?_
           refine wx tbk [] trivial ?_
           rcases bft ((p5 == (-2))) with hc63 | hc63
           ·replace h := Qas hc63 h
            refine wft hc63 (by kernel_rfl) ?_
            refine wx1 tbk [] trivial ?_
            refine thn ?_
            obtain ⟨hz64, h⟩ := cko h
            obtain ⟨hz65, h⟩ := cko h
            exact ⟨(x33.1, w64 (x33.2 + p7), ((x35.1).map fun x => (x35.2.getD x.1 []).take x.2).take ((w64 ((p0.Hours.length : Int) + 1)).toNat)), h, (Mor.trans (Qjm (q := 1) (a := 2) (m := 1) (c := Qab) (cl := Qa3) (E := x35.1) (R := x35.2) (own' := [(Qc5 p0), (Qkm x35), .dead]) rfl (by kernel_rfl) (by kernel_rfl) (by kernel_rfl) hz64 (fun _ => rfl) (by kernel_rfl)) (Mor.trans (Qke (n := 132) (m := 1) (xs := ((x35.1).map fun x => (x35.2.getD x.1 []).take x.2 : List (List Int)).map Qa3) (l' := [(1, (Qdo x33)), (2, (I (w64 (x33.2 + p7)))), (3, (Qge x35 p0)), (8, .ref 0 5 0 0), (18, B x4)]) (own' := [(Qc5 p0), .dead, .dead]) 1 [(1, (Qdo x33)), (2, (I (w64 (x33.2 + p7)))), (3, (.own 1 1 (0) ((w64 ((p0.Hours.length : Int) + 1)).toNat))), (8, .ref 0 5 0 0), (18, B x4)] (by kernel_rfl) (by kernel_rfl) (by kernel_rfl) ⟨rfl, .same _, rfl, .same _, rfl, (Qh2 hz65), rfl, .same _, rfl, .same _, trivial⟩ (by kernel_rfl)) (mto (n := 132) [(1, (Qdo x33)), (2, (I (w64 (x33.2 + p7)))), (3, (Qge x35 p0)), (8, .ref 0 5 0 0), (18, B x4)] [0] [(Qc5 p0)] hφ0 (pc (.rn (.plain _ (nld Qaa _))) (pc rwl (pc (.rn (.plain _ (nld Qa4 _))) (pc (.rn (rqr rfl)) (pc rwl pn))))) (qc (spb (lc (.rn (.plain _ (nld Qaa _))) (lc rwl (lc rwl (lc rwl (lc (.rn (.plain _ (nld Qac _))) ln)))))) qn))))⟩
           ·replace h := Qat hc63 h
            refine wfn hc63 (by kernel_rfl) ?_
            refine Qai ?_
            refine thn ?_
            obtain ⟨hz66, h⟩ := cko h
            obtain ⟨hz67, h⟩ := cko h
            exact ⟨(x33.1, x33.2, ((x35.1).map fun x => (x35.2.getD x.1 []).take x.2).take ((w64 ((p0.Hours.length : Int) + 1)).toNat)), h, (Mor.trans (Qjm (q := 1) (a := 2) (m := 1) (c := Qab) (cl := Qa3) (E := x35.1) (R := x35.2) (own' := [(Qc5 p0), (Qkm x35), .dead]) rfl (by kernel_rfl) (by kernel_rfl) (by kernel_rfl) hz66 (fun _ => rfl) (by kernel_rfl)) (Mor.trans (Qke (n := 132) (m := 1) (xs := ((x35.1).map fun x => (x35.2.getD x.1 []).take x.2 : List (List Int)).map Qa3) (l' := [(1, (Qdo x33)), (2, I x33.2), (3, (Qge x35 p0)), (8, .ref 0 5 0 0), (18, B x4)]) (own' := [(Qc5 p0), .dead, .dead]) 1 [(1, (Qdo x33)), (2, I x33.2), (3, (.own 1 1 (0) ((w64 ((p0.Hours.length : Int) + 1)).toNat))), (8, .ref 0 5 0 0), (18, B x4)] (by kernel_rfl) (by kernel_rfl) (by kernel_rfl) ⟨rfl, .same _, rfl, .same _, rfl, (Qh2 hz67), rfl, .same _, rfl, .same _, trivial⟩ (by kernel_rfl)) (mto (n := 132) [(1, (Qdo x33)), (2, I x33.2), (3, (Qge x35 p0)), (8, .ref 0 5 0 0), (18, B x4)] [0] [(Qc5 p0)] hφ0 (pc (.rn (.plain _ (nld Qaa _))) (pc rwl (pc (.rn (.plain _ (nld Qa4 _))) (pc (.rn (rqr rfl)) (pc rwl pn))))) (qc (spb (lc (.rn (.plain _ (nld Qaa _))) (lc rwl (lc rwl (lc rwl (lc (.rn (.plain _ (nld Qac _))) ln)))))) qn))))⟩
         ·replace h := Qat hb40 h
          refine wx tbk [(2, rp [(.tmp 65, (B ((decide (p5 ≥ 0)))))] (B true)), (5, rp [(.tmp 66, B true), (.tmp 68, (.own 1 1 (0) ((w64 ((p0.Hours.length : Int) + 1)).toNat)))] (I ((((w64 ((p0.Hours.length : Int) + 1)).toNat : Nat) : Int)))), (8, rp [(.tmp 71, (B ((decide (p5 < (((w64 ((p0.Hours.length : Int) + 1)).toNat : Nat) : Int))))))] (B false))] ⟨asb hb39 (amv rfl), ag_ (aln rfl Try.underlying42 rfl), asb hb40 (amv rfl), trivial⟩ ?_
          refine Qd2 (by kernel_rfl) ?_
          refine wx tbk [] trivial ?_
          rcases bft ((p5 == (-2))) with hc68 | hc68
          ·replace h := Qas hc68 h
           refine wft hc68 (by kernel_rfl) ?_
           refine wx1 tbk [] trivial ?_
           refine thn ?_
           obtain ⟨hz69, h⟩ := cko h
           obtain ⟨hz70, h⟩ := cko h
           exact ⟨(x33.1, w64 (x33.2 + p7), ((x35.1).map fun x => (x35.2.getD x.1 []).take x.2).take ((w64 ((p0.Hours.length : Int) + 1)).toNat)), h, (Mor.trans (Qjm (q := 1) (a := 2) (m := 1) (c := Qab) (cl := Qa3) (E := x35.1) (R := x35.2) (own' := [(Qc5 p0), (Qkm x35), .dead]) rfl (by kernel_rfl) (by kernel_rfl) (by kernel_rfl) hz69 (fun _ => rfl) (by kernel_rfl)) (Mor.trans (Qke (n := 132) (m := 1) (xs := ((x35.1).map fun x => (x35.2.getD x.1 []).take x.2 : List (List Int)).map Qa3) (l' := [(1, (Qdo x33)), (2, (I (w64 (x33.2 + p7)))), (3, (Qge x35 p0)), (8, .ref 0 5 0 0), (18, B x4)]) (own' := [(Qc5 p0), .dead, .dead]) 1 [(1, (Qdo x33)), (2, (I (w64 (x33.2 + p7)))), (3, (.own 1 1 (0) ((w64 ((p0.Hours.length : Int) + 1)).toNat))), (8, .ref 0 5 0 0), (18, B x4)] (by kernel_rfl) (by kernel_rfl) (by kernel_rfl) ⟨rfl, .same _, rfl, .same _, rfl, (Qh2 hz70), rfl, .same _, rfl, .same _, trivial⟩ (by kernel_rfl)) (mto (n := 132) [(1, (Qdo x33)), (2, (I (w64 (x33.2 + p7)))), (3, (Qge x35 p0)), (8, .ref 0 5 0 0), (18, B x4)] [0] [(Qc5 p0)] hφ0 (pc (.rn (.plain _ (nld Qaa _))) (pc rwl (pc (.rn (.plain _ (nld Qa4 _))) (pc (.rn (rqr rfl)) (pc rwl pn))))) (qc (spb (lc (.rn (.plain _ (nld Qaa _))) (lc rwl (lc rwl (lc rwl (lc (.rn (.plain _ (nld Qac _))) ln)))))) qn))))⟩
          ·replace h := Qat hc68 h
           refine wfn hc68 (by kernel_rfl) ?_
           refine Qai ?_
           refine thn ?_
           obtain ⟨hz71, h⟩ := cko h
           obtain ⟨hz72, h⟩ := cko h
           exact ⟨(x33.1, x33.2, ((x35.1).map fun x => (x35.2.getD x.1 []).take x.2).take ((w64 ((p0.Hours.length : Int) + 1)).toNat)), h, (Mor.trans (Qjm (q := 1) (a := 2) (m := 1) (c := Qab) (cl := Qa3) (E := x35.1) (R := x35.2) (own' := [(Qc5 p0), (Qkm x35), .dead]) rfl (by kernel_rfl) (by kernel_rfl) (by kernel_rfl) hz71 (fun _ => rfl) (by kernel_rfl)) (Mor.trans (Qke (n := 132) (m := 1) (xs := ((x35.1).map fun x => (x35.2.getD x.1 []).take x.2 : List (List Int)).map Qa3) (l' := [(1, (Qdo x33)), (2, I x33.2), (3, (Qge x35 p0)), (8, .ref 0 5 0 0), (18, B x4)]) (own' := [(Qc5 p0), .dead, .dead]) 1 [(1, (Qdo x33)), (2, I x33.2), (3, (.own 1 1 (0) ((w64 ((p0.Hours.length : Int) + 1)).toNat))), (8, .ref 0 5 0 0), (18, B x4)] (by kernel_rfl) (by kernel_rfl) (by kernel_rfl) ⟨rfl, .same _, rfl, .same _, rfl, (Qh2 hz72), rfl, .same _, rfl, .same _, trivial⟩ (by kernel_rfl)) (mto (n := 132) [(1, (Qdo x33)), (2, I x33.2), (3, (Qge x35 p0)), (8, .ref 0 5 0 0), (18, B x4)] [0] [(Qc5 p0)] hφ0 (pc (.rn (.plain _ (nld Qaa _))) (pc rwl (pc (.rn (.plain _ (nld Qa4 _))) (pc (.rn (rqr rfl)) (pc rwl pn))))) (qc (spb (lc (.rn (.plain _ (nld Qaa _))) (lc rwl (lc rwl (lc rwl (lc (.rn (.plain _ (nld Qac _))) ln)))))) qn))))⟩
        ·replace h := Qat hb39 h
         refine wx tbk [(2, rp [(.tmp 65, (B ((decide (p5 ≥ 0)))))] (B false))] ⟨asb hb39 (amv rfl), trivial⟩ ?_
         refine Qd2 (by kernel_rfl) ?_
         refine wx tbk [] trivial ?_
         rcases bft ((p5 == (-2))) with hc73 | hc73
         ·replace h := Qas hc73 h
          refine wft hc73 (by kernel_rfl) ?_
          refine wx1 tbk [] trivial ?_
          refine thn ?_
          obtain ⟨hz74, h⟩ := cko h
          obtain ⟨hz75, h⟩ := cko h
          exact ⟨(x33.1, w64 (x33.2 + p7), ((x35.1).map fun x => (x35.2.getD x.1 []).take x.2).take ((w64 ((p0.Hours.length : Int) + 1)).toNat)), h, (Mor.trans (Qjm (q := 1) (a := 2) (m := 1) (c := Qab) (cl := Qa3) (E := x35.1) (R := x35.2) (own' := [(Qc5 p0), (Qkm x35), .dead]) rfl (by kernel_rfl) (by kernel_rfl) (by kernel_rfl) hz74 (fun _ => rfl) (by kernel_rfl)) (Mor.trans (Qke (n := 132) (m := 1) (xs := ((x35.1).map fun x => (x35.2.getD x.1 []).take x.2 : List (List Int)).map Qa3) (l' := [(1, (Qdo x33)), (2, (I (w64 (x33.2 + p7)))), (3, (Qge x35 p0)), (8, .ref 0 5 0 0), (18, B x4)]) (own' := [(Qc5 p0), .dead, .dead]) 1 [(1, (Qdo x33)), (2, (I (w64 (x33.2 + p7)))), (3, (.own 1 1 (0) ((w64 ((p0.Hours.length : Int) + 1)).toNat))), (8, .ref 0 5 0 0), (18, B x4)] (by kernel_rfl) (by kernel_rfl) (by kernel_rfl) ⟨rfl, .same _, rfl, .same _, rfl, (Qh2 hz75), rfl, .same _, rfl, .same _, trivial⟩ (by kernel_rfl)) (mto (n := 132) [(1, (Qdo x33)), (2, (I (w64 (x33.2 + p7)))), (3, (Qge x35 p0)), (8, .ref 0 5 0 0), (18, B x4)] [0] [(Qc5 p0)] hφ0 (pc (.rn (.plain _ (nld Qaa _))) (pc rwl (pc (.rn (.plain _ (nld Qa4 _))) (pc (.rn (rqr rfl)) (pc rwl pn))))) (qc (spb (lc (.rn (.plain _ (nld Qaa _))) (lc rwl (lc rwl (lc rwl (lc (.rn (.plain _ (nld Qac _))) ln)))))) qn))))⟩
         ·replace h := Qat hc73 h
          refine wfn hc73 (by kernel_rfl) ?_
          refine Qai ?_
          refine thn ?_
          obtain ⟨hz76, h⟩ := cko h
          obtain ⟨hz77, h⟩ := cko h
          exact ⟨(x33.1, x33.2, ((x35.1).map fun x => (x35.2.getD x.1 []).take x.2).take ((w64 ((p0.Hours.length : Int) + 1)).toNat)), h, (Mor.trans (Qjm (q := 1) (a := 2) (m := 1) (c := Qab) (cl := Qa3) (E := x35.1) (R := x35.2) (own' := [(Qc5 p0), (Qkm x35), .dead]) rfl (by kernel_rfl) (by kernel_rfl) (by kernel_rfl) hz76 (fun _ => rfl) (by kernel_rfl)) (Mor.trans (Qke (n := 132) (m := 1) (xs := ((x35.1).map fun x => (x35.2.getD x.1 []).take x.2 : List (List Int)).map Qa3) (l' := [(1, (Qdo x33)), (2, I x33.2), (3, (Qge x35 p0)), (8, .ref 0 5 0 0), (18, B x4)]) (own' := [(Qc5 p0), .dead, .dead]) 1 [(1, (Qdo x33)), (2, I x33.2), (3, (.own 1 1 (0) ((w64 ((p0.Hours.length : Int) + 1)).toNat))), (8, .ref 0 5 0 0), (18, B x4)] (by kernel_rfl) (by kernel_rfl) (by kernel_rfl) ⟨rfl, .same _, rfl, .same _, rfl, (Qh2 hz77), rfl, .same _, rfl, .same _, trivial⟩ (by kernel_rfl)) (mto (n := 132) [(1, (Qdo x33)), (2, I x33.2), (3, (Qge x35 p0)), (8, .ref 0 5 0 0), (18, B x4)] [0] [(Qc5 p0)] hφ0 (pc (.rn (.plain _ (nld Qaa _))) (pc rwl (pc (.rn (.plain _ (nld Qa4 _))) (pc (.rn (rqr rfl)) (pc rwl pn))))) (qc (spb (lc (.rn (.plain _ (nld Qaa _))) (lc rwl (lc rwl (lc rwl (lc (.rn (.plain _ (nld Qac _))) ln)))))) qn))))⟩
       ·replace h := Qat hc38 h
        refine wfn hc38 (by kernel_rfl) ?_
        refine Qai ?_
        refine thn ?_
        obtain ⟨hz78, h⟩ := cko h
        obtain ⟨hz79, h⟩ := cko h
        exact ⟨(x33.1, x33.2, ((x35.1).map fun x => (x35.2.getD x.1 []).take x.2).take ((w64 ((p0.Hours.length : Int) + 1)).toNat)), h, (Mor.trans (Qjm (q := 1) (a := 2) (m := 1) (c := Qab) (cl := Qa3) (E := x35.1) (R := x35.2) (own' := [(Qc5 p0), (Qkm x35), .dead]) rfl (by kernel_rfl) (by kernel_rfl) (by kernel_rfl) hz78 (fun _ => rfl) (by kernel_rfl)) (Mor.trans (Qke (n := 132) (m := 1) (xs := ((x35.1).map fun x => (x35.2.getD x.1 []).take x.2 : List (List Int)).map Qa3) (l' := [(1, (Qdo x33)), (2, I x33.2), (3, (Qge x35 p0)), (8, .ref 0 5 0 0), (18, B x4)]) (own' := [(Qc5 p0), .dead, .dead]) 1 [(1, (Qdo x33)), (2, I x33.2), (3, (.own 1 1 (0) ((w64 ((p0.Hours.length : Int) + 1)).toNat))), (8, .ref 0 5 0 0), (18, B x4)] (by kernel_rfl) (by kernel_rfl) (by kernel_rfl) ⟨rfl, .same _, rfl, .same _, rfl, (Qh2 hz79), rfl, .same _, rfl, .same _, trivial⟩ (by kernel_rfl)) (mto (n := 132) [(1, (Qdo x33)), (2, I x33.2), (3, (Qge x35 p0)), (8, .ref 0 5 0 0), (18, B x4)] [0] [(Qc5 p0)] hφ0 (pc (.rn (.plain _ (nld Qaa _))) (pc rwl (pc (.rn (.plain _ (nld Qa4 _))) (pc (.rn (rqr rfl)) (pc rwl pn))))) (qc (spb (lc (.rn (.plain _ (nld Qaa _))) (lc rwl (lc rwl (lc rwl (lc (.rn (.plain _ (nld Qac _))) ln)))))) qn))))⟩
      ·replace h := Qat hc31 h
       refine wfn hc31 (by kernel_rfl) ?_
       refine Qai ?_
       refine thn ?_
       exact ⟨(p1, p2, p3), h, (mto (n := 132) [(1, (Qjw p1)), (2, I p2), (3, (Qje p3)), (8, .ref 0 5 0 0), (18, B x4)] [0] [(Qc5 p0)] hφ0 (pc (.rn (.plain _ (nld Qaa _))) (pc rwl (pc (.rn (.plain _ (nld Qa4 _))) (pc (.rn (rqr rfl)) (pc rwl pn))))) (qc (spb (lc (.rn (.plain _ (nld Qaa _))) (lc rwl (lc rwl (lc rwl (lc (.rn (.plain _ (nld Qac _))) ln)))))) qn))⟩
     ·skip
      rcases bft (p4) with hb80 | hb80
      ·replace h := Qas hb80 h
       refine wx1 tbk [(1, rp [(.tmp 51, B p4)] (B true))] ⟨asb hb80 (amv rfl), trivial⟩ ?_
       refine thn ?_
       exact ⟨(x4), h, (mto (n := 132) [(1, (Qjw p1)), (2, I p2), (3, (Qje p3)), (5, I p5), (6, I p6), (7, I p7), (8, .ref 0 5 0 0), (18, B x4), (54, B x4)] [0] [(Qc5 p0)] hφ0 (pc (.rn (.plain _ (nld Qaa _))) (pc rwl (pc (.rn (.plain _ (nld Qa4 _))) (pc rwl (pc rwl (pc rwl (pc (.rn (rqr rfl)) (pc rwl (pc rwl pn))))))))) (qc (spb (lc (.rn (.plain _ (nld Qaa _))) (lc rwl (lc rwl (lc rwl (lc (.rn (.plain _ (nld Qac _))) ln)))))) qn))⟩
      ·replace h := Qat hb80 h
       refine wx1 tbk [(1, rp [(.tmp 51, B p4)] (B false))] ⟨asb hb80 (amv rfl), trivial⟩ ?_
       refine thn ?_
       exact ⟨(false), h, (mto (n := 132) [(1, (Qjw p1)), (2, I p2), (3, (Qje p3)), (5, I p5), (6, I p6), (7, I p7), (8, .ref 0 5 0 0), (18, B x4), (54, B false)] [0] [(Qc5 p0)] hφ0 (pc (.rn (.plain _ (nld Qaa _))) (pc rwl (pc (.rn (.plain _ (nld Qa4 _))) (pc rwl (pc rwl (pc rwl (pc (.rn (rqr rfl)) (pc rwl (pc rwl pn))))))))) (qc (spb (lc (.rn (.plain _ (nld Qaa _))) (lc rwl (lc rwl (lc rwl (lc (.rn (.plain _ (nld Qac _))) ln)))))) qn))⟩
   ·skip
    refine wx tbk [] trivial ?_
    refine Qaf ?_
    refine wmr (mto (n := 132) (l' := [(1, (Qjw p1)), (2, I p2), (3, (Qje p3)), (4, B p4), (5, I p5), (6, I p6), (7, I p7), (8, .ref 0 5 0 0), (17, I 0)]) (own' := [(Qc5 p0)]) [(1, (Qjw p1)), (2, I p2), (3, (Qje p3)), (4, B p4), (5, I p5), (6, I p6), (7, I p7), (8, .ref 0 5 0 0), (17, I 0)] [0] [(Qc5 p0)] hφ0 (pc (.rn (.plain _ (nld Qaa _))) (pc rwl (pc (.rn (.plain _ (nld Qa4 _))) (pc rwl (pc rwl (pc rwl (pc rwl (pc (.rn (rqr rfl)) (pc rwl pn))))))))) (qc (spb (lc (.rn (.plain _ (nld Qaa _))) (lc rwl (lc rwl (lc rwl (lc (.rn (.plain _ (nld Qac _))) ln)))))) qn)) ?_
    refine Qbk (τ := Int) (fun n t => Qco N k2 p3 n t = some r) (fun y81 => ⟨mk 132 [(1, (Qjw p1)), (2, I p2), (3, (Qje p3)), (4, B p4), (5, I p5), (6, I p6), (7, I p7), (8, .ref 0 5 0 0), (17, I y81)], [(Qc5 p0)]⟩) (fun t h => by rw [Qco] at h; cases h) (fun n83 ih y81 h => ?_) N (0) h
    rw [Qco] at h
    skip
    refine wsq ?_
    refine wx tbk [(2, rp [(.tmp 37, (Qje p3))] (I ((p3.length : Int))))] ⟨alm (c := Qa3) (l := p3) (aln rfl Try.underlying42 rfl), trivial⟩ ?_
    rcases bft ((decide (y81 < (p3.length : Int)))) with hc84 | hc84
    ·replace h := Qas hc84 h
     refine wft hc84 (by kernel_rfl) ?_
     refine Qai ?_
     refine thn ?_
     refine wsq ?_
     refine Qaf ?_
     obtain ⟨x85, hg86, h⟩ := bno h
     obtain ⟨hi87, hj88⟩ := gsm hg86
     refine wx tbk [(2, rp [(.tmp 42, (Qje p3)), (.tmp 43, I y81)] (.dptr (Qa3 (x85)) 0)), (4, rp [(.tmp 45, (.dat 1 ((x85 : List Int).map Qab)))] (I ((x85.length : Int))))] ⟨aid rfl Try.underlying42 ti37 rfl rfl hi87 (mgt Qa3 hj88) rfl, alm (c := Qab) (l := x85) (aln rfl Try.underlying37 rfl), trivial⟩ ?_
     rcases bft ((decide ((x85.length : Int) > 8))) with hc89 | hc89
     ·replace h := Qas hc89 h
      refine wft hc89 (by kernel_rfl) ?_
      obtain ⟨x91, hf90, h⟩ := bno h
      refine wx tbk [(0, rp [fu 17] (B x91))] ⟨apc (first := []) (cap := []) (vs := []) rfl Qp3 (Qgo 2000  _ hf90) rfl rfl nl0 nll rfl, trivial⟩ ?_
      refine Qad ?_
      refine Qay ?_
      refine Qam ?_
      refine Qam ?_
      refine Qay ?_
      refine Qam ?_
      obtain rfl := osi h
      exact fend ⟨[B x91], ⟨rot (by kernel_rfl), trivial⟩, rfl⟩ nll
     ·replace h := Qat hc89 h
      refine wfn hc89 (by kernel_rfl) ?_
      refine Qai ?_
      refine bln ?_
      refine thn ?_
      refine wx1 tbk [] trivial ?_
      refine thn ?_
      exact arm (mto (n := 132) [(1, (Qjw p1)), (2, I p2), (3, (Qje p3)), (4, B p4), (5, I p5), (6, I p6), (7, I p7), (8, .ref 0 5 0 0), (17, (I (w64 (y81 + 1))))] [0] [(Qc5 p0)] hφ0 (pc (.rn (.plain _ (nld Qaa _))) (pc rwl (pc (.rn (.plain _ (nld Qa4 _))) (pc rwl (pc rwl (pc rwl (pc rwl (pc (.rn (rqr rfl)) (pc rwl pn))))))))) (qc (spb (lc (.rn (.plain _ (nld Qaa _))) (lc rwl (lc rwl (lc rwl (lc (.rn (.plain _ (nld Qac _))) ln)))))) qn)) (ih (w64 (y81 + 1)) h)
    ·replace h := Qat hc84 h
     refine wfn hc84 (by kernel_rfl) ?_
     refine Qa2 ?_
     refine Qaq ?_
     refine Qaq ?_
     refine Qa1 rfl ?_
     refine thn ?_
     exact ⟨(), h, (mto (n := 132) [(1, (Qjw p1)), (2, I p2), (3, (Qje p3)), (4, B p4), (5, I p5), (6, I p6), (7, I p7), (8, .ref 0 5 0 0)] [0] [(Qc5 p0)] hφ0 (pc (.rn (.plain _ (nld Qaa _))) (pc rwl (pc (.rn (.plain _ (nld Qa4 _))) (pc rwl (pc rwl (pc rwl (pc rwl (pc (.rn (rqr rfl)) pn)))))))) (qc (spb (lc (.rn (.plain _ (nld Qaa _))) (lc rwl (lc rwl (lc rwl (lc (.rn (.plain _ (nld Qac _))) ln)))))) qn))⟩
  ·skip
   obtain ⟨x93, hf92, h⟩ := bno h
   rcases bft ((!x93)) with hb94 | hb94
   ·replace h := Qas hb94 h
    refine wx tbk [(1, rp [fu 35, (.tmp 22, (Qhi p0))] (B x93)), (3, rp [(.tmp 24, (B ((!x93))))] (B true))] ⟨apc (first := []) (cap := []) (vs := [(Qhi p0)]) rfl Qvp (Qjo N p0 _ hf92) rfl rfl (nlc (NLt.agg _ (nlc (nld Qaa _) (nlc nll (nlc nll (nlc nll (nlc (nld Qac _) nl0)))))) nl0) nll rfl, asb hb94 (amv rfl), trivial⟩ ?_
    refine Qff (by kernel_rfl) ?_
    obtain ⟨x96, hf95, h⟩ := bno h
    refine wx tbk [(0, rp [fu 17] (B x96))] ⟨apc (first := []) (cap := []) (vs := []) rfl Qp3 (Qgo 2000  _ hf95) rfl rfl nl0 nll rfl, trivial⟩ ?_
    refine Qad ?_
    refine Qam ?_
    obtain rfl := osi h
    exact fend ⟨[B x96], ⟨rot (by kernel_rfl), trivial⟩, rfl⟩ nll
   ·replace h := Qat hb94 h
    rcases bft ((decide ((p1.length : Int) > 10))) with hb97 | hb97
    ·replace h := Qas hb97 h
     refine wx tbk [(1, rp [fu 35, (.tmp 22, (Qhi p0))] (B x93)), (3, rp [(.tmp 24, (B ((!x93))))] (B false)), (5, rp [(.tmp 25, B false), (.tmp 26, (Qjw p1))] (I ((p1.length : Int)))), (8, rp [(.tmp 29, (B ((decide ((p1.length : Int) > 10)))))] (B true))] ⟨apc (first := []) (cap := []) (vs := [(Qhi p0)]) rfl Qvp (Qjo N p0 _ hf92) rfl rfl (nlc (NLt.agg _ (nlc (nld Qaa _) (nlc nll (nlc nll (nlc nll (nlc (nld Qac _) nl0)))))) nl0) nll rfl, asb hb94 (amv rfl), ag_ (alm (c := Qab) (l := p1) (aln rfl Try.underlying37 rfl)), asb hb97 (amv rfl), trivial⟩ ?_
     refine Qff (by kernel_rfl) ?_
     obtain ⟨x99, hf98, h⟩ := bno h
     refine wx tbk [(0, rp [fu 17] (B x99))] ⟨apc (first := []) (cap := []) (vs := []) rfl Qp3 (Qgo 2000  _ hf98) rfl rfl nl0 nll rfl, trivial⟩ ?_
     refine Qad ?_
     refine Qam ?_
     obtain rfl := osi h
     exact fend ⟨[B x99], ⟨rot (by kernel_rfl), trivial⟩, rfl⟩ nll
    ·replace h := Qat hb97 h
     refine wx tbk [(1, rp [fu 35, (.tmp 22, (Qhi p0))] (B x93)), (3, rp [(.tmp 24, (B ((!x93))))] (B false)), (5, rp [(.tmp 25, B false), (.tmp 26, (Qjw p1))] (I ((p1.length : Int)))), (8, rp [(.tmp 29, (B ((decide ((p1.length : Int) > 10)))))] (B false)), (10, rp [(.tmp 30, B false), (.tmp 31, (Qje p3))] (I ((p3.length : Int))))] ⟨apc (first := []) (cap := []) (vs := [(Qhi p0)]) rfl Qvp (Qjo N p0 _ hf92) rfl rfl (nlc (NLt.agg _ (nlc (nld Qaa _) (nlc nll (nlc nll (nlc nll (nlc (nld Qac _) nl0)))))) nl0) nll rfl, asb hb94 (amv rfl), ag_ (alm (c := Qab) (l := p1) (aln rfl Try.underlying37 rfl)), asb hb97 (amv rfl), ag_ (alm (c := Qa3) (l := p3) (aln rfl Try.underlying42 rfl)), trivial⟩ ?_
     rcases bft ((decide ((p3.length : Int) > 8))) with hc100 | hc100
     ·replace h := Qas hc100 h
      refine wft hc100 (by kernel_rfl) ?_
      obtain ⟨x102, hf101, h⟩ := bno h
      refine wx tbk [(0, rp [fu 17] (B x102))] ⟨apc (first := []) (cap := []) (vs := []) rfl Qp3 (Qgo 2000  _ hf101) rfl rfl nl0 nll rfl, trivial⟩ ?_
      refine Qad ?_
      refine Qam ?_
      obtain rfl := osi h
      exact fend ⟨[B x102], ⟨rot (by kernel_rfl), trivial⟩, rfl⟩ nll
     ·replace h := Qat hc100 h
      refine wfn hc100 (by kernel_rfl) ?_
      refine Qai ?_
      refine thn ?_
      exact ⟨(), h, (mto (n := 132) [(1, (Qjw p1)), (2, I p2), (3, (Qje p3)), (4, B p4), (5, I p5), (6, I p6), (7, I p7), (8, .ref 0 5 0 0)] [0] [(Qc5 p0)] hφ0 (pc (.rn (.plain _ (nld Qaa _))) (pc rwl (pc (.rn (.plain _ (nld Qa4 _))) (pc rwl (pc rwl (pc rwl (pc rwl (pc (.rn (rqr rfl)) pn)))))))) (qc (spb (lc (.rn (.plain _ (nld Qaa _))) (lc rwl (lc rwl (lc rwl (lc (.rn (.plain _ (nld Qac _))) ln)))))) qn))⟩
end Go.Proofs.Ytlhakkkjgdbdpaa
