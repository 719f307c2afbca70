/-
  Functions of the program: what they compute, as plain functions, and that they do. No conditions.
-/
import Derived.Test.YtgdepcgbjjgnfaaX17
namespace Go.Proofs.Ytgdepcgbjjgnfaa
open Go.RowKit
def Qcr (N : Nat) (p0 : GDay) (y5 : Int) (x10 : Int) (k21 : Unit → Option Bool) : Nat → Int → Int → Option Bool
  | 0, _, _ => none
  | n50 + 1, y46, y47 =>
    (getI p0.Hours y5).bind fun x51 =>
    bif (decide (y47 < (x51.Stairs.length : Int))) then
     (getI x51.Stairs y47).bind fun x56 =>
     (some (if x56.Amount < y46 then x56.Amount else y46)).bind fun x60 =>
     bif (decide (x60 > 0)) then
      bif (decide (x56.Price > x10)) then
       some false
      else
       bif (decide (x60 < x56.Amount)) then
        bif (decide (x56.Price < x10)) then
         some false
        else
         Qcr N p0 y5 x10 k21 n50 (w64 (y46 - x60)) (w64 (y47 + 1))
       else
        Qcr N p0 y5 x10 k21 n50 (w64 (y46 - x60)) (w64 (y47 + 1))
     else
      bif (decide (x60 < x56.Amount)) then
       bif (decide (x56.Price < x10)) then
        some false
       else
        Qcr N p0 y5 x10 k21 n50 (w64 (y46 - x60)) (w64 (y47 + 1))
      else
       Qcr N p0 y5 x10 k21 n50 (w64 (y46 - x60)) (w64 (y47 + 1))
    else
     k21 ()
def Qb9 (N : Nat) (p0 : GDay) (p1 : (List Int)) (p2 : (List Int)) (x2 : ((List Int) × Bool)) (k4 : Unit → Option Bool) : Nat → Int → Option Bool
  | 0, _ => none
  | n7 + 1, y5 =>
    bif (decide (y5 < (p1.length : Int))) then
     Qbr (fun _ =>
       Qb9 N p0 p1 p2 x2 k4 n7 (w64 (y5 + 1))) fun k9 : Unit → Option Bool =>
     (getI p2 y5).bind fun x10 =>
     (Qfs N x10 0 1000).bind fun x15 =>
     bif (!x15) then
      some false
     else
      (getI p1 y5).bind fun x17 =>
      Qbr (fun _ =>
        bif (y5 == (w64 ((p1.length : Int) - 1))) then
         (getI x2.1 y5).bind fun x23 =>
         bif (x23 == 0) then
          some true
         else
          some (x10 == 0)
        else
         (getI x2.1 y5).bind fun x28 =>
         bif (decide (x28 < p0.Tank)) then
          (getI p2 (w64 (y5 + 1))).bind fun x33 =>
          bif (decide (x33 > x10)) then
           some false
          else
           bif (decide (x28 > 0)) then
            bif (decide (x33 < x10)) then
             some false
            else
             k9 ()
           else
            k9 ()
         else
          bif (decide (x28 > 0)) then
           (getI p2 (w64 (y5 + 1))).bind fun x41 =>
           bif (decide (x41 < x10)) then
            some false
           else
            k9 ()
          else
           k9 ()) fun k21 : Unit → Option Bool =>
      Qcr N p0 y5 x10 k21 N x17 0
    else
     k4 ()
def Qgn (N : Nat) (p0 : GDay) (p1 : (List Int)) (p2 : (List Int)) : Option Bool :=
  (Qgy N p0 p1).bind fun x2 =>
  Qbr (fun _ =>
    Qbr (fun _ =>
      some false) fun k4 : Unit → Option Bool =>
    Qb9 N p0 p1 p2 x2 k4 N 0) fun k3 : Unit → Option Bool =>
  bif (!x2.2) then
   some false
  else
   bif ((p2.length : Int) != (p1.length : Int)) then
    some false
   else
    k3 ()
def Qro (p0 : GDay) : AV := .dat 2 ((p0.Hours : List GHour).map Qaj)
def Qfk (p1 : (List Int)) : AV := .dat 1 ((p1 : List Int).map Qab)
def Qem (x2 : ((List Int) × Bool)) : AV := .dat 1 ((x2.1 : List Int).map Qab)
def Qd0 (p2 : (List Int)) : AV := .dat 1 ((p2 : List Int).map Qab)
def Qgm (p0 : GDay) : Slot := .own 3 [[(I (p0.Tank)), (I (p0.Start)), (Qro p0)]]
set_option maxRecDepth 100000 in
set_option maxHeartbeats 4000000 in
theorem Qka (N : Nat) (p0 : GDay) (p1 : (List Int)) (p2 : (List Int)) (r : Bool) (h : Qgn N p0 p1 p2 = some r) : Spec Try.prog 34 [(.agg (Qii p0)), (.dat 1 (p1.map Qab)), (.dat 1 (p2.map Qab))] [] (B r) [] := by
  refine Qal Try.func34 rfl 0 (nle rfl) (fun X φ0 w0 hφ0 => ?_)
  unfold Qgn at h
  refine wx tbk [] trivial ?_
  obtain ⟨x2, hf1, h⟩ := bno h
  refine wx tbk [(2, rp [fu 63, (.tmp 15, (.agg [I p0.Tank, I p0.Start, (Qro p0)])), (.tmp 16, (Qfk p1))] (.tup [(Qem x2), B x2.2]))] ⟨apc (first := []) (cap := []) (vs := [(.agg [I p0.Tank, I p0.Start, (Qro p0)]), (Qfk p1)]) rfl enter63 (Qm8 N p0 p1 _ hf1) rfl rfl (nlc (NLt.agg _ (nlc nll (nlc nll (nlc (nld Qac _) nl0)))) (nlc (nld Qaa _) nl0)) (NLt.tup _ (nlc (nld Qaa _) (nlc nll nl0))) rfl, trivial⟩ ?_
  obtain ⟨k3, hk_k3, h⟩ := jko h
  refine wjn (τ := Unit) (fun t => k3 t = some r) (fun _ => ⟨mk 153 [(1, (Qfk p1)), (2, (Qd0 p2)), (3, .ref 0 3 0 0), (7, (Qem x2))], [(Qgm p0)]⟩) (fun t h => ?_) ?_
  ·subst hk_k3
   obtain ⟨k4, hk_k4, h⟩ := jko h
   refine wjn (τ := Unit) (fun t => k4 t = some r) (fun _ => ⟨mk 153 [], []⟩) (fun t h => ?_) ?_
   ·subst hk_k4
    refine wx tbk [] trivial ?_
    refine Qah ?_
    obtain rfl := osi h
    exact fend ⟨[B false], ⟨rot (by kernel_rfl), trivial⟩, rfl⟩ nll
   ·skip
    refine wx tbk [] trivial ?_
    refine Qai ?_
    refine wmr (mto (n := 153) (l' := [(1, (Qfk p1)), (2, (Qd0 p2)), (3, .ref 0 3 0 0), (7, (Qem x2)), (9, I 0)]) (own' := [(Qgm p0)]) [(1, (Qfk p1)), (2, (Qd0 p2)), (3, .ref 0 3 0 0), (7, (Qem x2)), (9, I 0)] [0] [(Qgm p0)] hφ0 (pc (.rn (.plain _ (nld Qaa _))) (pc (.rn (.plain _ (nld Qaa _))) (pc (.rn (rqr rfl)) (pc (.rn (.plain _ (nld Qaa _))) (pc rwl pn))))) (qc (spb (lc rwl (lc rwl (lc (.rn (.plain _ (nld Qac _))) ln)))) qn)) ?_
    refine Qbu (τ := Int) (fun n t => Qb9 N p0 p1 p2 x2 k4 n t = some r) (fun y5 => ⟨mk 153 [(1, (Qfk p1)), (2, (Qd0 p2)), (3, .ref 0 3 0 0), (7, (Qem x2)), (9, I y5)], [(Qgm p0)]⟩) (fun t h => by rw [Qb9] at h; cases h) (fun n7 ih y5 h => ?_) N (0) h
    rw [Qb9] at h
    skip
    refine wsq ?_
    refine wx tbk [(2, rp [(.tmp 30, (Qfk p1))] (I ((p1.length : Int))))] ⟨alm (c := Qab) (l := p1) (aln rfl Try.underlying23 rfl), trivial⟩ ?_
    rcases bft ((decide (y5 < (p1.length : Int)))) with hc8 | hc8
    ·replace h := Qar hc8 h
     refine wft hc8 (by kernel_rfl) ?_
     refine Qag ?_
     refine thn ?_
     obtain ⟨k9, hk_k9, h⟩ := jko h
     refine wjn (τ := Unit) (fun t => k9 t = some r) (fun _ => ⟨mk 153 [(1, (Qfk p1)), (2, (Qd0 p2)), (3, .ref 0 3 0 0), (7, (Qem x2)), (9, I y5)], [(Qgm p0)]⟩) (fun t h => ?_) ?_
     ·subst hk_k9
      refine wx1 tbk [] trivial ?_
      refine thn ?_
      exact arm (mto (n := 153) [(1, (Qfk p1)), (2, (Qd0 p2)), (3, .ref 0 3 0 0), (7, (Qem x2)), (9, (I (w64 (y5 + 1))))] [0] [(Qgm p0)] hφ0 (pc (.rn (.plain _ (nld Qaa _))) (pc (.rn (.plain _ (nld Qaa _))) (pc (.rn (rqr rfl)) (pc (.rn (.plain _ (nld Qaa _))) (pc rwl pn))))) (qc (spb (lc rwl (lc rwl (lc (.rn (.plain _ (nld Qac _))) ln)))) qn)) (ih (w64 (y5 + 1)) h)
     ·skip
      refine Qai ?_
      refine wsq ?_
      obtain ⟨x10, hg11, h⟩ := bno h
      obtain ⟨hi12, hj13⟩ := gsm hg11
      obtain ⟨x15, hf14, h⟩ := bno h
      refine wx tbk [(2, rp [(.tmp 35, (Qd0 p2)), (.tmp 36, I y5)] (.dptr (Qab (x10)) 0)), (4, rp [fu 27, (.tmp 38, I x10), ci 0, ci 1000] (B x15))] ⟨aid rfl Try.underlying23 ti3 rfl rfl hi12 (mgt Qab hj13) rfl, apc (first := []) (cap := []) (vs := [I x10, I 0, I 1000]) rfl Qfn (Qca N x10 0 1000 _ hf14) rfl rfl (nlc nll (nlc nll (nlc nll nl0))) nll rfl, trivial⟩ ?_
      rcases bft ((!x15)) with hc16 | hc16
      ·replace h := Qar hc16 h
       refine wft hc16 (by kernel_rfl) ?_
       refine wx tbk [] trivial ?_
       refine Qah ?_
       refine Qad ?_
       refine Qak ?_
       refine Qad ?_
       refine Qad ?_
       refine Qak ?_
       refine Qad ?_
       obtain rfl := osi h
       exact fend ⟨[B false], ⟨rot (by kernel_rfl), trivial⟩, rfl⟩ nll
      ·replace h := Qas hc16 h
       refine wfn hc16 (by kernel_rfl) ?_
       refine Qag ?_
       refine thn ?_
       obtain ⟨x17, hg18, h⟩ := bno h
       obtain ⟨hi19, hj20⟩ := gsm hg18
       refine wx tbk [(2, rp [(.tmp 41, (Qfk p1)), (.tmp 42, I y5)] (.dptr (Qab (x17)) 0))] ⟨aid rfl Try.underlying23 ti3 rfl rfl hi19 (mgt Qab hj20) rfl, trivial⟩ ?_
       obtain ⟨k21, hk_k21, h⟩ := jko h
       refine wjn (τ := Unit) (fun t => k21 t = some r) (fun _ => ⟨mk 153 [(1, (Qfk p1)), (2, (Qd0 p2)), (3, .ref 0 3 0 0), (7, (Qem x2)), (9, I y5)], [(Qgm p0)]⟩) (fun t h => ?_) ?_
       ·subst hk_k21
        refine wsq ?_
        refine wx tbk [(2, rp [(.tmp 99, (Qfk p1))] (I ((p1.length : Int))))] ⟨alm (c := Qab) (l := p1) (aln rfl Try.underlying23 rfl), trivial⟩ ?_
        rcases bft ((y5 == (w64 ((p1.length : Int) - 1)))) with hc22 | hc22
        ·replace h := Qar hc22 h
         refine wft hc22 (by kernel_rfl) ?_
         obtain ⟨x23, hg24, h⟩ := bno h
         obtain ⟨hi25, hj26⟩ := gsm hg24
         rcases bft ((x23 == 0)) with hb27 | hb27
         ·replace h := Qar hb27 h
          refine wx tbk [(2, rp [(.tmp 103, (Qem x2)), (.tmp 104, I y5)] (.dptr (Qab (x23)) 0)), (5, rp [(.tmp 107, (B ((x23 == 0))))] (B true))] ⟨aid rfl Try.underlying23 ti3 rfl rfl hi25 (mgt Qab hj26) rfl, asb hb27 (amv rfl), trivial⟩ ?_
          refine Qah ?_
          refine Qad ?_
          refine Qak ?_
          refine Qad ?_
          refine Qad ?_
          refine Qak ?_
          refine Qad ?_
          obtain rfl := osi h
          exact fend ⟨[B true], ⟨rot (by kernel_rfl), trivial⟩, rfl⟩ nll
         ·replace h := Qas hb27 h
          refine wx tbk [(2, rp [(.tmp 103, (Qem x2)), (.tmp 104, I y5)] (.dptr (Qab (x23)) 0)), (5, rp [(.tmp 107, (B ((x23 == 0))))] (B false)), (8, rp [(.tmp 108, B false), (.tmp 109, (Qd0 p2)), (.tmp 110, I y5)] (.dptr (Qab (x10)) 0))] ⟨aid rfl Try.underlying23 ti3 rfl rfl hi25 (mgt Qab hj26) rfl, asb hb27 (amv rfl), ag_ (aid rfl Try.underlying23 ti3 rfl rfl hi12 (mgt Qab hj13) rfl), trivial⟩ ?_
          refine Qah ?_
          refine Qad ?_
          refine Qak ?_
          refine Qad ?_
          refine Qad ?_
          refine Qak ?_
          refine Qad ?_
          obtain rfl := osi h
          exact fend ⟨[(B ((x10 == 0)))], ⟨rot (by kernel_rfl), trivial⟩, rfl⟩ nll
        ·replace h := Qas hc22 h
         refine wfn hc22 (by kernel_rfl) ?_
         refine Qag ?_
         refine thn ?_
         obtain ⟨x28, hg29, h⟩ := bno h
         obtain ⟨hi30, hj31⟩ := gsm hg29
         rcases bft ((decide (x28 < p0.Tank))) with hb32 | hb32
         ·replace h := Qar hb32 h
          obtain ⟨x33, hg34, h⟩ := bno h
          obtain ⟨hi35, hj36⟩ := gsm hg34
          rcases bft ((decide (x33 > x10))) with hb37 | hb37
          ·replace h := Qar hb37 h
           refine wxd tbk [(2, rp [(.tmp 115, (Qem x2)), (.tmp 116, I y5)] (.dptr (Qab (x28)) 0)), (7, rp [(.tmp 121, (B ((decide (x28 < p0.Tank)))))] (B true)), (11, rp [(.tmp 122, B true), (.tmp 123, (Qd0 p2)), (.tmp 125, (I (w64 (y5 + 1))))] (.dptr (Qab (x33)) 0)), (15, rp [(.tmp 122, B true), (.tmp 128, (Qd0 p2)), (.tmp 129, I y5)] (.dptr (Qab (x10)) 0)), (19, rp [(.tmp 133, (B ((decide (x33 > x10)))))] (B true))] ⟨aid rfl Try.underlying23 ti3 rfl rfl hi30 (mgt Qab hj31) rfl, asb hb32 (amv rfl), ag_ (aid rfl Try.underlying23 ti3 rfl rfl hi35 (mgt Qab hj36) rfl), ag_ (aid rfl Try.underlying23 ti3 rfl rfl hi12 (mgt Qab hj13) rfl), asb hb37 (amv rfl), trivial⟩ ?_
           refine Qcm (by kernel_rfl) ?_
           refine wx tbk [] trivial ?_
           refine Qah ?_
           refine Qak ?_
           refine Qad ?_
           refine Qad ?_
           refine Qak ?_
           refine Qad ?_
           obtain rfl := osi h
           exact fend ⟨[B false], ⟨rot (by kernel_rfl), trivial⟩, rfl⟩ nll
          ·replace h := Qas hb37 h
           rcases bft ((decide (x28 > 0))) with hb38 | hb38
           ·replace h := Qar hb38 h
            refine wxd tbk [(2, rp [(.tmp 115, (Qem x2)), (.tmp 116, I y5)] (.dptr (Qab (x28)) 0)), (7, rp [(.tmp 121, (B ((decide (x28 < p0.Tank)))))] (B true)), (11, rp [(.tmp 122, B true), (.tmp 123, (Qd0 p2)), (.tmp 125, (I (w64 (y5 + 1))))] (.dptr (Qab (x33)) 0)), (15, rp [(.tmp 122, B true), (.tmp 128, (Qd0 p2)), (.tmp 129, I y5)] (.dptr (Qab (x10)) 0)), (19, rp [(.tmp 133, (B ((decide (x33 > x10)))))] (B false)), (22, rp [(.tmp 134, B false), (.tmp 135, (Qem x2)), (.tmp 136, I y5)] (.dptr (Qab (x28)) 0)), (25, rp [(.tmp 134, B false), (.tmp 139, (B ((decide (x28 > 0)))))] (B true)), (29, rp [(.tmp 140, B true), (.tmp 141, (Qd0 p2)), (.tmp 143, (I (w64 (y5 + 1))))] (.dptr (Qab (x33)) 0)), (33, rp [(.tmp 140, B true), (.tmp 146, (Qd0 p2)), (.tmp 147, I y5)] (.dptr (Qab (x10)) 0))] ⟨aid rfl Try.underlying23 ti3 rfl rfl hi30 (mgt Qab hj31) rfl, asb hb32 (amv rfl), ag_ (aid rfl Try.underlying23 ti3 rfl rfl hi35 (mgt Qab hj36) rfl), ag_ (aid rfl Try.underlying23 ti3 rfl rfl hi12 (mgt Qab hj13) rfl), asb hb37 (amv rfl), ag_ (aid rfl Try.underlying23 ti3 rfl rfl hi30 (mgt Qab hj31) rfl), asb hb38 (ag_ (amv rfl)), ag_ (aid rfl Try.underlying23 ti3 rfl rfl hi35 (mgt Qab hj36) rfl), ag_ (aid rfl Try.underlying23 ti3 rfl rfl hi12 (mgt Qab hj13) rfl), trivial⟩ ?_
            rcases bft ((decide (x33 < x10))) with hc39 | hc39
            ·replace h := Qar hc39 h
             refine wft hc39 (by kernel_rfl) ?_
             refine wx tbk [] trivial ?_
             refine Qah ?_
             refine Qak ?_
             refine Qad ?_
             refine Qad ?_
             refine Qak ?_
             refine Qad ?_
             obtain rfl := osi h
             exact fend ⟨[B false], ⟨rot (by kernel_rfl), trivial⟩, rfl⟩ nll
            ·replace h := Qas hc39 h
             refine wfn hc39 (by kernel_rfl) ?_
             refine Qag ?_
             refine bln ?_
             refine thn ?_
             exact ⟨(), h, (mto (n := 153) [(1, (Qfk p1)), (2, (Qd0 p2)), (3, .ref 0 3 0 0), (7, (Qem x2)), (9, I y5)] [0] [(Qgm p0)] hφ0 (pc (.rn (.plain _ (nld Qaa _))) (pc (.rn (.plain _ (nld Qaa _))) (pc (.rn (rqr rfl)) (pc (.rn (.plain _ (nld Qaa _))) (pc rwl pn))))) (qc (spb (lc rwl (lc rwl (lc (.rn (.plain _ (nld Qac _))) ln)))) qn))⟩
           ·replace h := Qas hb38 h
            refine wxd tbk [(2, rp [(.tmp 115, (Qem x2)), (.tmp 116, I y5)] (.dptr (Qab (x28)) 0)), (7, rp [(.tmp 121, (B ((decide (x28 < p0.Tank)))))] (B true)), (11, rp [(.tmp 122, B true), (.tmp 123, (Qd0 p2)), (.tmp 125, (I (w64 (y5 + 1))))] (.dptr (Qab (x33)) 0)), (15, rp [(.tmp 122, B true), (.tmp 128, (Qd0 p2)), (.tmp 129, I y5)] (.dptr (Qab (x10)) 0)), (19, rp [(.tmp 133, (B ((decide (x33 > x10)))))] (B false)), (22, rp [(.tmp 134, B false), (.tmp 135, (Qem x2)), (.tmp 136, I y5)] (.dptr (Qab (x28)) 0)), (25, rp [(.tmp 134, B false), (.tmp 139, (B ((decide (x28 > 0)))))] (B false))] ⟨aid rfl Try.underlying23 ti3 rfl rfl hi30 (mgt Qab hj31) rfl, asb hb32 (amv rfl), ag_ (aid rfl Try.underlying23 ti3 rfl rfl hi35 (mgt Qab hj36) rfl), ag_ (aid rfl Try.underlying23 ti3 rfl rfl hi12 (mgt Qab hj13) rfl), asb hb37 (amv rfl), ag_ (aid rfl Try.underlying23 ti3 rfl rfl hi30 (mgt Qab hj31) rfl), asb hb38 (ag_ (amv rfl)), trivial⟩ ?_
            refine Qdj (by kernel_rfl) ?_
            refine Qag ?_
            refine bln ?_
            refine thn ?_
            exact ⟨(), h, (mto (n := 153) [(1, (Qfk p1)), (2, (Qd0 p2)), (3, .ref 0 3 0 0), (7, (Qem x2)), (9, I y5)] [0] [(Qgm p0)] hφ0 (pc (.rn (.plain _ (nld Qaa _))) (pc (.rn (.plain _ (nld Qaa _))) (pc (.rn (rqr rfl)) (pc (.rn (.plain _ (nld Qaa _))) (pc rwl pn))))) (qc (spb (lc rwl (lc rwl (lc (.rn (.plain _ (nld Qac _))) ln)))) qn))⟩
         ·replace h := Qas hb32 h
          rcases bft ((decide (x28 > 0))) with hb40 | hb40
          ·replace h := Qar hb40 h
           obtain ⟨x41, hg42, h⟩ := bno h
           obtain ⟨hi43, hj44⟩ := gsm hg42
           refine wxd tbk [(2, rp [(.tmp 115, (Qem x2)), (.tmp 116, I y5)] (.dptr (Qab (x28)) 0)), (7, rp [(.tmp 121, (B ((decide (x28 < p0.Tank)))))] (B false)), (22, rp [(.tmp 134, B false), (.tmp 135, (Qem x2)), (.tmp 136, I y5)] (.dptr (Qab (x28)) 0)), (25, rp [(.tmp 134, B false), (.tmp 139, (B ((decide (x28 > 0)))))] (B true)), (29, rp [(.tmp 140, B true), (.tmp 141, (Qd0 p2)), (.tmp 143, (I (w64 (y5 + 1))))] (.dptr (Qab (x41)) 0)), (33, rp [(.tmp 140, B true), (.tmp 146, (Qd0 p2)), (.tmp 147, I y5)] (.dptr (Qab (x10)) 0))] ⟨aid rfl Try.underlying23 ti3 rfl rfl hi30 (mgt Qab hj31) rfl, asb hb32 (amv rfl), ag_ (aid rfl Try.underlying23 ti3 rfl rfl hi30 (mgt Qab hj31) rfl), asb hb40 (ag_ (amv rfl)), ag_ (aid rfl Try.underlying23 ti3 rfl rfl hi43 (mgt Qab hj44) rfl), ag_ (aid rfl Try.underlying23 ti3 rfl rfl hi12 (mgt Qab hj13) rfl), trivial⟩ ?_
           rcases bft ((decide (x41 < x10))) with hc45 | hc45
           ·replace h := Qar hc45 h
            refine wft hc45 (by kernel_rfl) ?_
            refine wx tbk [] trivial ?_
            refine Qah ?_
            refine Qak ?_
            refine Qad ?_
            refine Qad ?_
            refine Qak ?_
            refine Qad ?_
            obtain rfl := osi h
            exact fend ⟨[B false], ⟨rot (by kernel_rfl), trivial⟩, rfl⟩ nll
           ·replace h := Qas hc45 h
            refine wfn hc45 (by kernel_rfl) ?_
            refine Qag ?_
            refine bln ?_
            refine thn ?_
            exact ⟨(), h, (mto (n := 153) [(1, (Qfk p1)), (2, (Qd0 p2)), (3, .ref 0 3 0 0), (7, (Qem x2)), (9, I y5)] [0] [(Qgm p0)] hφ0 (pc (.rn (.plain _ (nld Qaa _))) (pc (.rn (.plain _ (nld Qaa _))) (pc (.rn (rqr rfl)) (pc (.rn (.plain _ (nld Qaa _))) (pc rwl pn))))) (qc (spb (lc rwl (lc rwl (lc (.rn (.plain _ (nld Qac _))) ln)))) qn))⟩
          ·replace h := Qas hb40 h
           refine wxd tbk [(2, rp [(.tmp 115, (Qem x2)), (.tmp 116, I y5)] (.dptr (Qab (x28)) 0)), (7, rp [(.tmp 121, (B ((decide (x28 < p0.Tank)))))] (B false)), (22, rp [(.tmp 134, B false), (.tmp 135, (Qem x2)), (.tmp 136, I y5)] (.dptr (Qab (x28)) 0)), (25, rp [(.tmp 134, B false), (.tmp 139, (B ((decide (x28 > 0)))))] (B false))] ⟨aid rfl Try.underlying23 ti3 rfl rfl hi30 (mgt Qab hj31) rfl, asb hb32 (amv rfl), ag_ (aid rfl Try.underlying23 ti3 rfl rfl hi30 (mgt Qab hj31) rfl), asb hb40 (ag_ (amv rfl)), trivial⟩ ?_
           refine Qdj (by kernel_rfl) ?_
           refine Qag ?_
           refine bln ?_
           refine thn ?_
           exact ⟨(), h, (mto (n := 153) [(1, (Qfk p1)), (2, (Qd0 p2)), (3, .ref 0 3 0 0), (7, (Qem x2)), (9, I y5)] [0] [(Qgm p0)] hφ0 (pc (.rn (.plain _ (nld Qaa _))) (pc (.rn (.plain _ (nld Qaa _))) (pc (.rn (rqr rfl)) (pc (.rn (.plain _ (nld Qaa _))) (pc rwl pn))))) (qc (spb (lc rwl (lc rwl (lc (.rn (.plain _ (nld Qac _))) ln)))) qn))⟩
       ·skip
        refine wx tbk [] trivial ?_
        refine Qai ?_
        refine wmr (mto (n := 153) (l' := [(1, (Qfk p1)), (2, (Qd0 p2)), (3, .ref 0 3 0 0), (7, (Qem x2)), (9, I y5), (10, I x17), (11, I 0)]) (own' := [(Qgm p0)]) [(1, (Qfk p1)), (2, (Qd0 p2)), (3, .ref 0 3 0 0), (7, (Qem x2)), (9, I y5), (10, I x17), (11, I 0)] [0] [(Qgm p0)] hφ0 (pc (.rn (.plain _ (nld Qaa _))) (pc (.rn (.plain _ (nld Qaa _))) (pc (.rn (rqr rfl)) (pc (.rn (.plain _ (nld Qaa _))) (pc rwl (pc rwl (pc rwl pn))))))) (qc (spb (lc rwl (lc rwl (lc (.rn (.plain _ (nld Qac _))) ln)))) qn)) ?_
        refine Qbu (τ := Int × Int) (fun n t => Qcr N p0 y5 x10 k21 n t.1 t.2 = some r) (fun ⟨y46, y47⟩ => ⟨mk 153 [(1, (Qfk p1)), (2, (Qd0 p2)), (3, .ref 0 3 0 0), (7, (Qem x2)), (9, I y5), (10, I y46), (11, I y47)], [(Qgm p0)]⟩) (fun t h => by rw [Qcr] at h; cases h) (fun n50 ih t h => ?_) N (x17, 0) h
        obtain ⟨y46, y47⟩ := t
        rw [Qcr] at h
        skip
        refine wsq ?_
        obtain ⟨x51, hg52, h⟩ := bno h
        obtain ⟨hi53, hj54⟩ := gsm hg52
        refine wx tbk [(4, rp [(.tmp 47, (Qro p0)), (.tmp 48, I y5)] (.dptr (Qaj (x51)) 0)), (7, rp [(.tmp 51, (.dat 2 ((x51.Stairs : List GStair).map Qan)))] (I ((x51.Stairs.length : Int))))] ⟨aid rfl Try.underlying39 Qo5 rfl rfl hi53 (mgt Qaj hj54) rfl, alm (c := Qan) (l := x51.Stairs) (aln rfl Try.underlying145 rfl), trivial⟩ ?_
        rcases bft ((decide (y47 < (x51.Stairs.length : Int)))) with hc55 | hc55
        ·replace h := Qar hc55 h
         refine wft hc55 (by kernel_rfl) ?_
         refine Qag ?_
         refine thn ?_
         refine wsq ?_
         refine Qai ?_
         obtain ⟨x56, hg57, h⟩ := bno h
         obtain ⟨hi58, hj59⟩ := gsm hg57
         refine wx tbk [(3, rp [(.tmp 57, (Qro p0)), (.tmp 58, I y5)] (.dptr (Qaj (x51)) 0)), (7, rp [(.tmp 61, (.dat 2 ((x51.Stairs : List GStair).map Qan))), (.tmp 62, I y47)] (.dptr (Qan (x56)) 0))] ⟨aid rfl Try.underlying39 Qo5 rfl rfl hi53 (mgt Qaj hj54) rfl, aid rfl Try.underlying145 Qv7 rfl rfl hi58 (mgt Qan hj59) rfl, trivial⟩ ?_
         obtain ⟨x60, hl61, h⟩ := bno h
         refine wx tbk [(3, rp [(.tmp 65, I y46), (.tmp 67, I x56.Amount)] (I ((if x56.Amount < y46 then x56.Amount else y46)))), (4, rp [(.tmp 68, (I ((if x56.Amount < y46 then x56.Amount else y46))))] (I x60))] ⟨Qi4 rfl, Qd4 hl61 (aas rfl), trivial⟩ ?_
         refine wsq ?_
         rcases bft ((decide (x60 > 0))) with hb62 | hb62
         ·replace h := Qar hb62 h
          rcases bft ((decide (x56.Price > x10))) with hb63 | hb63
          ·replace h := Qar hb63 h
           refine wxd tbk [(2, rp [(.tmp 70, (B ((decide (x60 > 0)))))] (B true)), (7, rp [(.tmp 71, B true), (.tmp 74, (Qd0 p2)), (.tmp 75, I y5)] (.dptr (Qab (x10)) 0)), (11, rp [(.tmp 79, (B ((decide (x56.Price > x10)))))] (B true))] ⟨asb hb62 (amv rfl), ag_ (aid rfl Try.underlying23 ti3 rfl rfl hi12 (mgt Qab hj13) rfl), asb hb63 (amv rfl), trivial⟩ ?_
           refine Qcm (by kernel_rfl) ?_
           refine wx tbk [] trivial ?_
           refine Qah ?_
           refine Qad ?_
           refine Qak ?_
           refine Qad ?_
           refine Qad ?_
           refine Qak ?_
           refine Qad ?_
           refine Qak ?_
           refine Qad ?_
           refine Qad ?_
           refine Qak ?_
           refine Qad ?_
           obtain rfl := osi h
           exact fend ⟨[B false], ⟨rot (by kernel_rfl), trivial⟩, rfl⟩ nll
          ·replace h := Qas hb63 h
           rcases bft ((decide (x60 < x56.Amount))) with hb64 | hb64
           ·replace h := Qar hb64 h
            refine wxd tbk [(2, rp [(.tmp 70, (B ((decide (x60 > 0)))))] (B true)), (7, rp [(.tmp 71, B true), (.tmp 74, (Qd0 p2)), (.tmp 75, I y5)] (.dptr (Qab (x10)) 0)), (11, rp [(.tmp 79, (B ((decide (x56.Price > x10)))))] (B false)), (16, rp [(.tmp 80, B false), (.tmp 84, (B ((decide (x60 < x56.Amount)))))] (B true)), (21, rp [(.tmp 85, B true), (.tmp 88, (Qd0 p2)), (.tmp 89, I y5)] (.dptr (Qab (x10)) 0))] ⟨asb hb62 (amv rfl), ag_ (aid rfl Try.underlying23 ti3 rfl rfl hi12 (mgt Qab hj13) rfl), asb hb63 (amv rfl), asb hb64 (ag_ (amv rfl)), ag_ (aid rfl Try.underlying23 ti3 rfl rfl hi12 (mgt Qab hj13) rfl), trivial⟩ ?_
            rcases bft ((decide (x56.Price < x10))) with hc65 | hc65
            ·replace h := Qar hc65 h
             refine wft hc65 (by kernel_rfl) ?_
             refine wx tbk [] trivial ?_
             refine Qah ?_
             refine Qad ?_
             refine Qak ?_
             refine Qad ?_
             refine Qad ?_
             refine Qak ?_
             refine Qad ?_
             refine Qak ?_
             refine Qad ?_
             refine Qad ?_
             refine Qak ?_
             refine Qad ?_
             obtain rfl := osi h
             exact fend ⟨[B false], ⟨rot (by kernel_rfl), trivial⟩, rfl⟩ nll
            ·replace h := Qas hc65 h
             refine wfn hc65 (by kernel_rfl) ?_
             refine Qag ?_
             refine thn ?_
             refine wx1 tbk [] trivial ?_
             refine bln ?_
             refine thn ?_
             refine wx1 tbk [] trivial ?_
             refine thn ?_
             exact arm (mto (n := 153) [(1, (Qfk p1)), (2, (Qd0 p2)), (3, .ref 0 3 0 0), (7, (Qem x2)), (9, I y5), (10, (I (w64 (y46 - x60)))), (11, (I (w64 (y47 + 1))))] [0] [(Qgm p0)] hφ0 (pc (.rn (.plain _ (nld Qaa _))) (pc (.rn (.plain _ (nld Qaa _))) (pc (.rn (rqr rfl)) (pc (.rn (.plain _ (nld Qaa _))) (pc rwl (pc rwl (pc rwl pn))))))) (qc (spb (lc rwl (lc rwl (lc (.rn (.plain _ (nld Qac _))) ln)))) qn)) (ih (w64 (y46 - x60), w64 (y47 + 1)) h)
           ·replace h := Qas hb64 h
            refine wxd tbk [(2, rp [(.tmp 70, (B ((decide (x60 > 0)))))] (B true)), (7, rp [(.tmp 71, B true), (.tmp 74, (Qd0 p2)), (.tmp 75, I y5)] (.dptr (Qab (x10)) 0)), (11, rp [(.tmp 79, (B ((decide (x56.Price > x10)))))] (B false)), (16, rp [(.tmp 80, B false), (.tmp 84, (B ((decide (x60 < x56.Amount)))))] (B false))] ⟨asb hb62 (amv rfl), ag_ (aid rfl Try.underlying23 ti3 rfl rfl hi12 (mgt Qab hj13) rfl), asb hb63 (amv rfl), asb hb64 (ag_ (amv rfl)), trivial⟩ ?_
            refine Qdj (by kernel_rfl) ?_
            refine Qag ?_
            refine thn ?_
            refine wx1 tbk [] trivial ?_
            refine bln ?_
            refine thn ?_
            refine wx1 tbk [] trivial ?_
            refine thn ?_
            exact arm (mto (n := 153) [(1, (Qfk p1)), (2, (Qd0 p2)), (3, .ref 0 3 0 0), (7, (Qem x2)), (9, I y5), (10, (I (w64 (y46 - x60)))), (11, (I (w64 (y47 + 1))))] [0] [(Qgm p0)] hφ0 (pc (.rn (.plain _ (nld Qaa _))) (pc (.rn (.plain _ (nld Qaa _))) (pc (.rn (rqr rfl)) (pc (.rn (.plain _ (nld Qaa _))) (pc rwl (pc rwl (pc rwl pn))))))) (qc (spb (lc rwl (lc rwl (lc (.rn (.plain _ (nld Qac _))) ln)))) qn)) (ih (w64 (y46 - x60), w64 (y47 + 1)) h)
         ·replace h := Qas hb62 h
          rcases bft ((decide (x60 < x56.Amount))) with hb66 | hb66
          ·replace h := Qar hb66 h
           refine wxd tbk [(2, rp [(.tmp 70, (B ((decide (x60 > 0)))))] (B false)), (16, rp [(.tmp 80, B false), (.tmp 84, (B ((decide (x60 < x56.Amount)))))] (B true)), (21, rp [(.tmp 85, B true), (.tmp 88, (Qd0 p2)), (.tmp 89, I y5)] (.dptr (Qab (x10)) 0))] ⟨asb hb62 (amv rfl), asb hb66 (ag_ (amv rfl)), ag_ (aid rfl Try.underlying23 ti3 rfl rfl hi12 (mgt Qab hj13) rfl), trivial⟩ ?_
           rcases bft ((decide (x56.Price < x10))) with hc67 | hc67
           ·replace h := Qar hc67 h
            refine wft hc67 (by kernel_rfl) ?_
            refine wx tbk [] trivial ?_
            refine Qah ?_
            refine Qad ?_
            refine Qak ?_
            refine Qad ?_
            refine Qad ?_
            refine Qak ?_
            refine Qad ?_
            refine Qak ?_
            refine Qad ?_
            refine Qad ?_
            refine Qak ?_
            refine Qad ?_
            obtain rfl := osi h
            exact fend ⟨[B false], ⟨rot (by kernel_rfl), trivial⟩, rfl⟩ nll
           ·replace h := Qas hc67 h
            refine wfn hc67 (by kernel_rfl) ?_
            refine Qag ?_
            refine thn ?_
            refine wx1 tbk [] trivial ?_
            refine bln ?_
            refine thn ?_
            refine wx1 tbk [] trivial ?_
            refine thn ?_
            exact arm (mto (n := 153) [(1, (Qfk p1)), (2, (Qd0 p2)), (3, .ref 0 3 0 0), (7, (Qem x2)), (9, I y5), (10, (I (w64 (y46 - x60)))), (11, (I (w64 (y47 + 1))))] [0] [(Qgm p0)] hφ0 (pc (.rn (.plain _ (nld Qaa _))) (pc (.rn (.plain _ (nld Qaa _))) (pc (.rn (rqr rfl)) (pc (.rn (.plain _ (nld Qaa _))) (pc rwl (pc rwl (pc rwl pn))))))) (qc (spb (lc rwl (lc rwl (lc (.rn (.plain _ (nld Qac _))) ln)))) qn)) (ih (w64 (y46 - x60), w64 (y47 + 1)) h)
          ·replace h := Qas hb66 h
           refine wxd tbk [(2, rp [(.tmp 70, (B ((decide (x60 > 0)))))] (B false)), (16, rp [(.tmp 80, B false), (.tmp 84, (B ((decide (x60 < x56.Amount)))))] (B false))] ⟨asb hb62 (amv rfl), asb hb66 (ag_ (amv rfl)), trivial⟩ ?_
           refine Qdj (by kernel_rfl) ?_
           refine Qag ?_
           refine thn ?_
           refine wx1 tbk [] trivial ?_
           refine bln ?_
           refine thn ?_
           refine wx1 tbk [] trivial ?_
           refine thn ?_
           exact arm (mto (n := 153) [(1, (Qfk p1)), (2, (Qd0 p2)), (3, .ref 0 3 0 0), (7, (Qem x2)), (9, I y5), (10, (I (w64 (y46 - x60)))), (11, (I (w64 (y47 + 1))))] [0] [(Qgm p0)] hφ0 (pc (.rn (.plain _ (nld Qaa _))) (pc (.rn (.plain _ (nld Qaa _))) (pc (.rn (rqr rfl)) (pc (.rn (.plain _ (nld Qaa _))) (pc rwl (pc rwl (pc rwl pn))))))) (qc (spb (lc rwl (lc rwl (lc (.rn (.plain _ (nld Qac _))) ln)))) qn)) (ih (w64 (y46 - x60), w64 (y47 + 1)) h)
        ·replace h := Qas hc55 h
         refine wfn hc55 (by kernel_rfl) ?_
         refine Qa3 ?_
         refine Qao ?_
         refine Qao ?_
         refine Qa2 rfl ?_
         refine thn ?_
         exact ⟨(), h, (mto (n := 153) [(1, (Qfk p1)), (2, (Qd0 p2)), (3, .ref 0 3 0 0), (7, (Qem x2)), (9, I y5)] [0] [(Qgm p0)] hφ0 (pc (.rn (.plain _ (nld Qaa _))) (pc (.rn (.plain _ (nld Qaa _))) (pc (.rn (rqr rfl)) (pc (.rn (.plain _ (nld Qaa _))) (pc rwl pn))))) (qc (spb (lc rwl (lc rwl (lc (.rn (.plain _ (nld Qac _))) ln)))) qn))⟩
    ·replace h := Qas hc8 h
     refine wfn hc8 (by kernel_rfl) ?_
     refine Qa3 ?_
     refine Qao ?_
     refine Qao ?_
     refine Qa2 rfl ?_
     refine thn ?_
     exact ⟨(), h, (mto (n := 153) [] [] [] hφ0 pn qn)⟩
  ·skip
   rcases bft ((!x2.2)) with hb68 | hb68
   ·replace h := Qar hb68 h
    refine wx tbk [(2, rp [(.tmp 21, (B ((!x2.2))))] (B true))] ⟨asb hb68 (amv rfl), trivial⟩ ?_
    refine Qcm (by kernel_rfl) ?_
    refine wx tbk [] trivial ?_
    refine Qah ?_
    refine Qad ?_
    obtain rfl := osi h
    exact fend ⟨[B false], ⟨rot (by kernel_rfl), trivial⟩, rfl⟩ nll
   ·replace h := Qas hb68 h
    refine wx tbk [(2, rp [(.tmp 21, (B ((!x2.2))))] (B false)), (4, rp [(.tmp 22, B false), (.tmp 23, (Qd0 p2))] (I ((p2.length : Int)))), (6, rp [(.tmp 22, B false), (.tmp 25, (Qfk p1))] (I ((p1.length : Int))))] ⟨asb hb68 (amv rfl), ag_ (alm (c := Qab) (l := p2) (aln rfl Try.underlying23 rfl)), ag_ (alm (c := Qab) (l := p1) (aln rfl Try.underlying23 rfl)), trivial⟩ ?_
    rcases bft (((p2.length : Int) != (p1.length : Int))) with hc69 | hc69
    ·replace h := Qar hc69 h
     refine wft hc69 (by kernel_rfl) ?_
     refine wx tbk [] trivial ?_
     refine Qah ?_
     refine Qad ?_
     obtain rfl := osi h
     exact fend ⟨[B false], ⟨rot (by kernel_rfl), trivial⟩, rfl⟩ nll
    ·replace h := Qas hc69 h
     refine wfn hc69 (by kernel_rfl) ?_
     refine Qag ?_
     refine thn ?_
     exact ⟨(), h, (mto (n := 153) [(1, (Qfk p1)), (2, (Qd0 p2)), (3, .ref 0 3 0 0), (7, (Qem x2))] [0] [(Qgm p0)] hφ0 (pc (.rn (.plain _ (nld Qaa _))) (pc (.rn (.plain _ (nld Qaa _))) (pc (.rn (rqr rfl)) (pc (.rn (.plain _ (nld Qaa _))) pn)))) (qc (spb (lc rwl (lc rwl (lc (.rn (.plain _ (nld Qac _))) ln)))) qn))⟩
end Go.Proofs.Ytgdepcgbjjgnfaa
