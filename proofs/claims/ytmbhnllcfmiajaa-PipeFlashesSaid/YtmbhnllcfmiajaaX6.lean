/-
  Functions of the program: what they compute, as plain functions, and that they do. No conditions.
-/
import Derived.Test.YtmbhnllcfmiajaaX5
namespace Go.Proofs.Ytmbhnllcfmiajaa
set_option maxRecDepth 100000
set_option maxHeartbeats 4000000
open Go.RowKit
def Qgk (_N : Nat) (p0 : Int) (p1 : Int) (p2 : Int) : Option Bool :=
  bif (decide (p0 ≥ p1)) then
   some (decide (p0 ≤ p2))
  else
   some false
theorem Qbm (N : Nat) (p0 : Int) (p1 : Int) (p2 : Int) (r : Bool) (h : Qgk N p0 p1 p2 = some r) : Spec Try.prog 38 [(I p0), (I p1), (I p2)] [] (B r) [] := by
  refine Qag Try.func38 rfl 0 (nle rfl) (fun X φ0 w0 hφ0 hd0 => ?_)
  unfold Qgk at h
  refine wx tbk [] trivial ?_
  rcases bft ((decide (p0 ≥ p1))) with hb1 | hb1
  ·replace h := Qa2 hb1 h
   refine wx tbk [(3, rp [(.tmp 9, (B ((decide (p0 ≥ p1)))))] (B true))] ⟨asb hb1 (amv rfl), trivial⟩ ?_
   refine Qad ?_
   obtain rfl := osi h
   exact fend ⟨[(B ((decide (p0 ≤ p2))))], ⟨rot (by kernel_rfl), trivial⟩, rfl⟩ nll
  ·replace h := Qa3 hb1 h
   refine wx tbk [(3, rp [(.tmp 9, (B ((decide (p0 ≥ p1)))))] (B false))] ⟨asb hb1 (amv rfl), trivial⟩ ?_
   refine Qad ?_
   obtain rfl := osi h
   exact fend ⟨[B false], ⟨rot (by kernel_rfl), trivial⟩, rfl⟩ nll
def Qdj (N : Nat) (p0 : (List GRow)) (k1 : Unit → Option Bool) : Nat → Int → Option Bool
  | 0, _ => none
  | n5 + 1, y3 =>
    bif (decide (y3 < (p0.length : Int))) then
     (getI p0 y3).bind fun x7 =>
     Qcv (fun _ =>
       bif (decide (y3 > 0)) then
        (getI p0 (w64 (y3 - 1))).bind fun x13 =>
        bif (decide (x7.T ≤ x13.T)) then
         some false
        else
         bif (decide (x7.P ≤ x13.P)) then
          some false
         else
          bif (decide (x7.Liquid ≤ x13.Liquid)) then
           some false
          else
           bif (decide (x7.Silica < x13.Silica)) then
            some false
           else
            Qdj N p0 k1 n5 (w64 (y3 + 1))
       else
        Qdj N p0 k1 n5 (w64 (y3 + 1))) fun k11 : Unit → Option Bool =>
     (Qgk N x7.T 0 400).bind fun x22 =>
     bif (!x22) then
      some false
     else
      (Qgk N x7.P 1 10000).bind fun x25 =>
      bif (!x25) then
       some false
      else
       (Qgk N x7.Liquid 0 4000).bind fun x28 =>
       bif (!x28) then
        some false
       else
        (Qgk N x7.Silica 0 2000).bind fun x31 =>
        bif (!x31) then
         some false
        else
         bif (decide (x7.Vapour ≤ x7.Liquid)) then
          some false
         else
          bif (decide (x7.Vapour > 4000)) then
           some false
          else
           k11 ()
    else
     k1 ()
def Qit (N : Nat) (p0 : (List GRow)) : Option Bool :=
  Qcv (fun _ =>
    bif (decide ((p0.length : Int) ≥ 2)) then
     some (decide ((p0.length : Int) ≤ 20))
    else
     some false) fun k1 : Unit → Option Bool =>
  Qdj N p0 k1 N 0
def Qi9 (p0 : (List GRow)) : AV := .dat 5 ((p0 : List GRow).map Qav)
def Q9z (x7 : GRow) : Slot := .own 5 [[(I (x7.T)), (I (x7.P)), (I (x7.Liquid)), (I (x7.Vapour)), (I (x7.Silica))]]
theorem Qlv (N : Nat) (p0 : (List GRow)) (r : Bool) (h : Qit N p0 = some r) : Spec Try.prog 21 [(.dat 5 (p0.map Qav))] [] (B r) [] := by
  refine Qag Try.func21 rfl 0 (nle rfl) (fun X φ0 w0 hφ0 hd0 => ?_)
  unfold Qit at h
  refine wx tbk [] trivial ?_
  obtain ⟨k1, hk_k1, h⟩ := jko h
  refine wjn (τ := Unit) (fun t => k1 t = some r) (fun _ => ⟨mk 103 [(0, (Qi9 p0))], []⟩) (fun t h => ?_) ?_
  ·subst hk_k1
   rcases bft ((decide ((p0.length : Int) ≥ 2))) with hb2 | hb2
   ·replace h := Qa2 hb2 h
    refine wx tbk [(1, rp [(.tmp 95, (Qi9 p0))] (I ((p0.length : Int)))), (3, rp [(.tmp 97, (B ((decide ((p0.length : Int) ≥ 2)))))] (B true)), (5, rp [(.tmp 98, B true), (.tmp 99, (Qi9 p0))] (I ((p0.length : Int))))] ⟨alm (c := Qav) (l := p0) (aln rfl Try.underlying23 rfl), asb hb2 (amv rfl), ag_ (alm (c := Qav) (l := p0) (aln rfl Try.underlying23 rfl)), trivial⟩ ?_
    refine Qad ?_
    obtain rfl := osi h
    exact fend ⟨[(B ((decide ((p0.length : Int) ≤ 20))))], ⟨rot (by kernel_rfl), trivial⟩, rfl⟩ nll
   ·replace h := Qa3 hb2 h
    refine wx tbk [(1, rp [(.tmp 95, (Qi9 p0))] (I ((p0.length : Int)))), (3, rp [(.tmp 97, (B ((decide ((p0.length : Int) ≥ 2)))))] (B false))] ⟨alm (c := Qav) (l := p0) (aln rfl Try.underlying23 rfl), asb hb2 (amv rfl), trivial⟩ ?_
    refine Qad ?_
    obtain rfl := osi h
    exact fend ⟨[B false], ⟨rot (by kernel_rfl), trivial⟩, rfl⟩ nll
  ·skip
   refine wx tbk [] trivial ?_
   refine Qaq ?_
   refine wmr (mto (n := 103) (l' := [(0, (Qi9 p0)), (3, I 0)]) (own' := []) [(0, (Qi9 p0)), (3, I 0)] [] [] hφ0 (pc (.rn (.plain _ (nld Qai _))) (pc rwl pn)) qn) ?_
   refine Qc9 (τ := Int) (fun n t => Qdj N p0 k1 n t = some r) (fun y3 => ⟨mk 103 [(0, (Qi9 p0)), (3, I y3)], []⟩) (fun t h => by rw [Qdj] at h; cases h) (fun n5 ih y3 h => ?_) N (0) h
   rw [Qdj] at h
   skip
   refine wsq ?_
   refine wx tbk [(2, rp [(.tmp 6, (Qi9 p0))] (I ((p0.length : Int))))] ⟨alm (c := Qav) (l := p0) (aln rfl Try.underlying23 rfl), trivial⟩ ?_
   rcases bft ((decide (y3 < (p0.length : Int)))) with hc6 | hc6
   ·replace h := Qa2 hc6 h
    refine wft hc6 (by kernel_rfl) ?_
    refine Qar ?_
    refine thn ?_
    refine wsq ?_
    refine Qaq ?_
    obtain ⟨x7, hg8, h⟩ := bno h
    obtain ⟨hi9, hj10⟩ := gsm hg8
    refine wx tbk [(2, rp [(.tmp 11, (Qi9 p0)), (.tmp 12, I y3)] (.dptr (Qav (x7)) 0))] ⟨aid rfl Try.underlying23 Qlo rfl rfl hi9 (mgt Qav hj10) rfl, trivial⟩ ?_
    obtain ⟨k11, hk_k11, h⟩ := jko h
    refine wjn (τ := Unit) (fun t => k11 t = some r) (fun _ => ⟨mk 103 [(0, (Qi9 p0)), (3, I y3), (4, .ref 0 5 0 0)], [(Q9z x7)]⟩) (fun t h => ?_) ?_
    ·subst hk_k11
     rcases bft ((decide (y3 > 0))) with hb12 | hb12
     ·replace h := Qa2 hb12 h
      obtain ⟨x13, hg14, h⟩ := bno h
      obtain ⟨hi15, hj16⟩ := gsm hg14
      rcases bft ((decide (x7.T ≤ x13.T))) with hb17 | hb17
      ·replace h := Qa2 hb17 h
       refine wxd tbk [(2, rp [(.tmp 50, (B ((decide (y3 > 0)))))] (B true)), (8, rp [(.tmp 51, B true), (.tmp 54, (Qi9 p0)), (.tmp 56, (I (w64 (y3 - 1))))] (.dptr (Qav (x13)) 0)), (12, rp [(.tmp 51, B true), (.tmp 60, (B ((decide (x7.T ≤ x13.T)))))] (B true))] ⟨asb hb12 (amv rfl), ag_ (aid rfl Try.underlying23 Qlo rfl rfl hi15 (mgt Qav hj16) rfl), asb hb17 (ag_ (amv rfl)), trivial⟩ ?_
       refine Qbq (by kernel_rfl) ?_
       refine wx tbk [] trivial ?_
       refine Qad ?_
       refine Qaw ?_
       refine Qaj ?_
       refine Qaj ?_
       refine Qaw ?_
       refine Qaj ?_
       obtain rfl := osi h
       exact fend ⟨[B false], ⟨rot (by kernel_rfl), trivial⟩, rfl⟩ nll
      ·replace h := Qa3 hb17 h
       rcases bft ((decide (x7.P ≤ x13.P))) with hb18 | hb18
       ·replace h := Qa2 hb18 h
        refine wxd tbk [(2, rp [(.tmp 50, (B ((decide (y3 > 0)))))] (B true)), (8, rp [(.tmp 51, B true), (.tmp 54, (Qi9 p0)), (.tmp 56, (I (w64 (y3 - 1))))] (.dptr (Qav (x13)) 0)), (12, rp [(.tmp 51, B true), (.tmp 60, (B ((decide (x7.T ≤ x13.T)))))] (B false)), (18, rp [(.tmp 61, B false), (.tmp 64, (Qi9 p0)), (.tmp 66, (I (w64 (y3 - 1))))] (.dptr (Qav (x13)) 0)), (23, rp [(.tmp 51, B true), (.tmp 71, (B ((decide (x7.P ≤ x13.P)))))] (B true))] ⟨asb hb12 (amv rfl), ag_ (aid rfl Try.underlying23 Qlo rfl rfl hi15 (mgt Qav hj16) rfl), asb hb17 (ag_ (amv rfl)), ag_ (aid rfl Try.underlying23 Qlo rfl rfl hi15 (mgt Qav hj16) rfl), asb hb18 (ag_ (amv rfl)), trivial⟩ ?_
        refine Qbq (by kernel_rfl) ?_
        refine wx tbk [] trivial ?_
        refine Qad ?_
        refine Qaw ?_
        refine Qaj ?_
        refine Qaj ?_
        refine Qaw ?_
        refine Qaj ?_
        obtain rfl := osi h
        exact fend ⟨[B false], ⟨rot (by kernel_rfl), trivial⟩, rfl⟩ nll
       ·replace h := Qa3 hb18 h
        rcases bft ((decide (x7.Liquid ≤ x13.Liquid))) with hb19 | hb19
        ·replace h := Qa2 hb19 h
         refine wxd tbk [(2, rp [(.tmp 50, (B ((decide (y3 > 0)))))] (B true)), (8, rp [(.tmp 51, B true), (.tmp 54, (Qi9 p0)), (.tmp 56, (I (w64 (y3 - 1))))] (.dptr (Qav (x13)) 0)), (12, rp [(.tmp 51, B true), (.tmp 60, (B ((decide (x7.T ≤ x13.T)))))] (B false)), (18, rp [(.tmp 61, B false), (.tmp 64, (Qi9 p0)), (.tmp 66, (I (w64 (y3 - 1))))] (.dptr (Qav (x13)) 0)), (23, rp [(.tmp 51, B true), (.tmp 71, (B ((decide (x7.P ≤ x13.P)))))] (B false)), (29, rp [(.tmp 72, B false), (.tmp 75, (Qi9 p0)), (.tmp 77, (I (w64 (y3 - 1))))] (.dptr (Qav (x13)) 0)), (34, rp [(.tmp 51, B true), (.tmp 82, (B ((decide (x7.Liquid ≤ x13.Liquid)))))] (B true))] ⟨asb hb12 (amv rfl), ag_ (aid rfl Try.underlying23 Qlo rfl rfl hi15 (mgt Qav hj16) rfl), asb hb17 (ag_ (amv rfl)), ag_ (aid rfl Try.underlying23 Qlo rfl rfl hi15 (mgt Qav hj16) rfl), asb hb18 (ag_ (amv rfl)), ag_ (aid rfl Try.underlying23 Qlo rfl rfl hi15 (mgt Qav hj16) rfl), asb hb19 (ag_ (amv rfl)), trivial⟩ ?_
         refine Qbq (by kernel_rfl) ?_
         refine wx tbk [] trivial ?_
         refine Qad ?_
         refine Qaw ?_
         refine Qaj ?_
         refine Qaj ?_
         refine Qaw ?_
         refine Qaj ?_
         obtain rfl := osi h
         exact fend ⟨[B false], ⟨rot (by kernel_rfl), trivial⟩, rfl⟩ nll
        ·replace h := Qa3 hb19 h
         refine wxd tbk [(2, rp [(.tmp 50, (B ((decide (y3 > 0)))))] (B true)), (8, rp [(.tmp 51, B true), (.tmp 54, (Qi9 p0)), (.tmp 56, (I (w64 (y3 - 1))))] (.dptr (Qav (x13)) 0)), (12, rp [(.tmp 51, B true), (.tmp 60, (B ((decide (x7.T ≤ x13.T)))))] (B false)), (18, rp [(.tmp 61, B false), (.tmp 64, (Qi9 p0)), (.tmp 66, (I (w64 (y3 - 1))))] (.dptr (Qav (x13)) 0)), (23, rp [(.tmp 51, B true), (.tmp 71, (B ((decide (x7.P ≤ x13.P)))))] (B false)), (29, rp [(.tmp 72, B false), (.tmp 75, (Qi9 p0)), (.tmp 77, (I (w64 (y3 - 1))))] (.dptr (Qav (x13)) 0)), (34, rp [(.tmp 51, B true), (.tmp 82, (B ((decide (x7.Liquid ≤ x13.Liquid)))))] (B false)), (40, rp [(.tmp 83, B false), (.tmp 86, (Qi9 p0)), (.tmp 88, (I (w64 (y3 - 1))))] (.dptr (Qav (x13)) 0))] ⟨asb hb12 (amv rfl), ag_ (aid rfl Try.underlying23 Qlo rfl rfl hi15 (mgt Qav hj16) rfl), asb hb17 (ag_ (amv rfl)), ag_ (aid rfl Try.underlying23 Qlo rfl rfl hi15 (mgt Qav hj16) rfl), asb hb18 (ag_ (amv rfl)), ag_ (aid rfl Try.underlying23 Qlo rfl rfl hi15 (mgt Qav hj16) rfl), asb hb19 (ag_ (amv rfl)), ag_ (aid rfl Try.underlying23 Qlo rfl rfl hi15 (mgt Qav hj16) rfl), trivial⟩ ?_
         rcases bft ((decide (x7.Silica < x13.Silica))) with hc20 | hc20
         ·replace h := Qa2 hc20 h
          refine wft hc20 (by kernel_rfl) ?_
          refine wx tbk [] trivial ?_
          refine Qad ?_
          refine Qaw ?_
          refine Qaj ?_
          refine Qaj ?_
          refine Qaw ?_
          refine Qaj ?_
          obtain rfl := osi h
          exact fend ⟨[B false], ⟨rot (by kernel_rfl), trivial⟩, rfl⟩ nll
         ·replace h := Qa3 hc20 h
          refine wfn hc20 (by kernel_rfl) ?_
          refine Qar ?_
          refine bln ?_
          refine thn ?_
          refine wx1 tbk [] trivial ?_
          refine thn ?_
          exact arm (mto (n := 103) [(0, (Qi9 p0)), (3, (I (w64 (y3 + 1))))] [] [] hφ0 (pc (.rn (.plain _ (nld Qai _))) (pc rwl pn)) qn) (ih (w64 (y3 + 1)) h)
     ·replace h := Qa3 hb12 h
      refine wxd tbk [(2, rp [(.tmp 50, (B ((decide (y3 > 0)))))] (B false))] ⟨asb hb12 (amv rfl), trivial⟩ ?_
      refine Qg6 (by kernel_rfl) ?_
      refine Qar ?_
      refine bln ?_
      refine thn ?_
      refine wx1 tbk [] trivial ?_
      refine thn ?_
      exact arm (mto (n := 103) [(0, (Qi9 p0)), (3, (I (w64 (y3 + 1))))] [] [] hφ0 (pc (.rn (.plain _ (nld Qai _))) (pc rwl pn)) qn) (ih (w64 (y3 + 1)) h)
    ·skip
     obtain ⟨x22, hf21, h⟩ := bno h
     rcases bft ((!x22)) with hb23 | hb23
     ·replace h := Qa2 hb23 h
      refine wx tbk [(2, rp [fu 38, (.tmp 16, I x7.T), ci 0, ci 400] (B x22)), (4, rp [(.tmp 18, (B ((!x22))))] (B true))] ⟨apc (first := []) (cap := []) (vs := [I x7.T, I 0, I 400]) rfl Qea (Qbm N x7.T 0 400 _ hf21) rfl rfl (nlc nll (nlc nll (nlc nll nl0))) nll rfl, asb hb23 (amv rfl), trivial⟩ ?_
      refine Qbq (by kernel_rfl) ?_
      refine wx tbk [] trivial ?_
      refine Qad ?_
      refine Qaj ?_
      refine Qaw ?_
      refine Qaj ?_
      refine Qaj ?_
      refine Qaw ?_
      refine Qaj ?_
      obtain rfl := osi h
      exact fend ⟨[B false], ⟨rot (by kernel_rfl), trivial⟩, rfl⟩ nll
     ·replace h := Qa3 hb23 h
      obtain ⟨x25, hf24, h⟩ := bno h
      rcases bft ((!x25)) with hb26 | hb26
      ·replace h := Qa2 hb26 h
       refine wx tbk [(2, rp [fu 38, (.tmp 16, I x7.T), ci 0, ci 400] (B x22)), (4, rp [(.tmp 18, (B ((!x22))))] (B false)), (7, rp [(.tmp 19, B false), fu 38, (.tmp 21, I x7.P), ci 1, ci 10000] (B x25)), (10, rp [(.tmp 24, (B ((!x25))))] (B true))] ⟨apc (first := []) (cap := []) (vs := [I x7.T, I 0, I 400]) rfl Qea (Qbm N x7.T 0 400 _ hf21) rfl rfl (nlc nll (nlc nll (nlc nll nl0))) nll rfl, asb hb23 (amv rfl), ag_ (apc (first := []) (cap := []) (vs := [I x7.P, I 1, I 10000]) rfl Qea (Qbm N x7.P 1 10000 _ hf24) rfl rfl (nlc nll (nlc nll (nlc nll nl0))) nll rfl), asb hb26 (amv rfl), trivial⟩ ?_
       refine Qbq (by kernel_rfl) ?_
       refine wx tbk [] trivial ?_
       refine Qad ?_
       refine Qaj ?_
       refine Qaw ?_
       refine Qaj ?_
       refine Qaj ?_
       refine Qaw ?_
       refine Qaj ?_
       obtain rfl := osi h
       exact fend ⟨[B false], ⟨rot (by kernel_rfl), trivial⟩, rfl⟩ nll
      ·replace h := Qa3 hb26 h
       obtain ⟨x28, hf27, h⟩ := bno h
       rcases bft ((!x28)) with hb29 | hb29
       ·replace h := Qa2 hb29 h
        refine wx tbk [(2, rp [fu 38, (.tmp 16, I x7.T), ci 0, ci 400] (B x22)), (4, rp [(.tmp 18, (B ((!x22))))] (B false)), (7, rp [(.tmp 19, B false), fu 38, (.tmp 21, I x7.P), ci 1, ci 10000] (B x25)), (10, rp [(.tmp 24, (B ((!x25))))] (B false)), (13, rp [(.tmp 25, B false), fu 38, (.tmp 27, I x7.Liquid), ci 0, ci 4000] (B x28)), (16, rp [(.tmp 30, (B ((!x28))))] (B true))] ⟨apc (first := []) (cap := []) (vs := [I x7.T, I 0, I 400]) rfl Qea (Qbm N x7.T 0 400 _ hf21) rfl rfl (nlc nll (nlc nll (nlc nll nl0))) nll rfl, asb hb23 (amv rfl), ag_ (apc (first := []) (cap := []) (vs := [I x7.P, I 1, I 10000]) rfl Qea (Qbm N x7.P 1 10000 _ hf24) rfl rfl (nlc nll (nlc nll (nlc nll nl0))) nll rfl), asb hb26 (amv rfl), ag_ (apc (first := []) (cap := []) (vs := [I x7.Liquid, I 0, I 4000]) rfl Qea (Qbm N x7.Liquid 0 4000 _ hf27) rfl rfl (nlc nll (nlc nll (nlc nll nl0))) nll rfl), asb hb29 (amv rfl), trivial⟩ ?_
        refine Qbq (by kernel_rfl) ?_
        refine wx tbk [] trivial ?_
        refine Qad ?_
        refine Qaj ?_
        refine Qaw ?_
        refine Qaj ?_
        refine Qaj ?_
        refine Qaw ?_
        refine Qaj ?_
        obtain rfl := osi h
        exact fend ⟨[B false], ⟨rot (by kernel_rfl), trivial⟩, rfl⟩ nll
       ·replace h := Qa3 hb29 h
        obtain ⟨x31, hf30, h⟩ := bno h
        rcases bft ((!x31)) with hb32 | hb32
        ·replace h := Qa2 hb32 h
         refine wx tbk [(2, rp [fu 38, (.tmp 16, I x7.T), ci 0, ci 400] (B x22)), (4, rp [(.tmp 18, (B ((!x22))))] (B false)), (7, rp [(.tmp 19, B false), fu 38, (.tmp 21, I x7.P), ci 1, ci 10000] (B x25)), (10, rp [(.tmp 24, (B ((!x25))))] (B false)), (13, rp [(.tmp 25, B false), fu 38, (.tmp 27, I x7.Liquid), ci 0, ci 4000] (B x28)), (16, rp [(.tmp 30, (B ((!x28))))] (B false)), (19, rp [(.tmp 31, B false), fu 38, (.tmp 33, I x7.Silica), ci 0, ci 2000] (B x31)), (22, rp [(.tmp 36, (B ((!x31))))] (B true))] ⟨apc (first := []) (cap := []) (vs := [I x7.T, I 0, I 400]) rfl Qea (Qbm N x7.T 0 400 _ hf21) rfl rfl (nlc nll (nlc nll (nlc nll nl0))) nll rfl, asb hb23 (amv rfl), ag_ (apc (first := []) (cap := []) (vs := [I x7.P, I 1, I 10000]) rfl Qea (Qbm N x7.P 1 10000 _ hf24) rfl rfl (nlc nll (nlc nll (nlc nll nl0))) nll rfl), asb hb26 (amv rfl), ag_ (apc (first := []) (cap := []) (vs := [I x7.Liquid, I 0, I 4000]) rfl Qea (Qbm N x7.Liquid 0 4000 _ hf27) rfl rfl (nlc nll (nlc nll (nlc nll nl0))) nll rfl), asb hb29 (amv rfl), ag_ (apc (first := []) (cap := []) (vs := [I x7.Silica, I 0, I 2000]) rfl Qea (Qbm N x7.Silica 0 2000 _ hf30) rfl rfl (nlc nll (nlc nll (nlc nll nl0))) nll rfl), asb hb32 (amv rfl), trivial⟩ ?_
         refine Qbq (by kernel_rfl) ?_
         refine wx tbk [] trivial ?_
         refine Qad ?_
         refine Qaj ?_
         refine Qaw ?_
         refine Qaj ?_
         refine Qaj ?_
         refine Qaw ?_
         refine Qaj ?_
         obtain rfl := osi h
         exact fend ⟨[B false], ⟨rot (by kernel_rfl), trivial⟩, rfl⟩ nll
        ·replace h := Qa3 hb32 h
         rcases bft ((decide (x7.Vapour ≤ x7.Liquid))) with hb33 | hb33
         ·replace h := Qa2 hb33 h
          refine wx tbk [(2, rp [fu 38, (.tmp 16, I x7.T), ci 0, ci 400] (B x22)), (4, rp [(.tmp 18, (B ((!x22))))] (B false)), (7, rp [(.tmp 19, B false), fu 38, (.tmp 21, I x7.P), ci 1, ci 10000] (B x25)), (10, rp [(.tmp 24, (B ((!x25))))] (B false)), (13, rp [(.tmp 25, B false), fu 38, (.tmp 27, I x7.Liquid), ci 0, ci 4000] (B x28)), (16, rp [(.tmp 30, (B ((!x28))))] (B false)), (19, rp [(.tmp 31, B false), fu 38, (.tmp 33, I x7.Silica), ci 0, ci 2000] (B x31)), (22, rp [(.tmp 36, (B ((!x31))))] (B false)), (29, rp [(.tmp 43, (B ((decide (x7.Vapour ≤ x7.Liquid)))))] (B true))] ⟨apc (first := []) (cap := []) (vs := [I x7.T, I 0, I 400]) rfl Qea (Qbm N x7.T 0 400 _ hf21) rfl rfl (nlc nll (nlc nll (nlc nll nl0))) nll rfl, asb hb23 (amv rfl), ag_ (apc (first := []) (cap := []) (vs := [I x7.P, I 1, I 10000]) rfl Qea (Qbm N x7.P 1 10000 _ hf24) rfl rfl (nlc nll (nlc nll (nlc nll nl0))) nll rfl), asb hb26 (amv rfl), ag_ (apc (first := []) (cap := []) (vs := [I x7.Liquid, I 0, I 4000]) rfl Qea (Qbm N x7.Liquid 0 4000 _ hf27) rfl rfl (nlc nll (nlc nll (nlc nll nl0))) nll rfl), asb hb29 (amv rfl), ag_ (apc (first := []) (cap := []) (vs := [I x7.Silica, I 0, I 2000]) rfl Qea (Qbm N x7.Silica 0 2000 _ hf30) rfl rfl (nlc nll (nlc nll (nlc nll nl0))) nll rfl), asb hb32 (amv rfl), asb hb33 (amv rfl), trivial⟩ ?_
          refine Qbq (by kernel_rfl) ?_
          refine wx tbk [] trivial ?_
          refine Qad ?_
          refine Qaj ?_
          refine Qaw ?_
          refine Qaj ?_
          refine Qaj ?_
          refine Qaw ?_
          refine Qaj ?_
          obtain rfl := osi h
          exact fend ⟨[B false], ⟨rot (by kernel_rfl), trivial⟩, rfl⟩ nll
         ·replace h := Qa3 hb33 h
          refine wx tbk [(2, rp [fu 38, (.tmp 16, I x7.T), ci 0, ci 400] (B x22)), (4, rp [(.tmp 18, (B ((!x22))))] (B false)), (7, rp [(.tmp 19, B false), fu 38, (.tmp 21, I x7.P), ci 1, ci 10000] (B x25)), (10, rp [(.tmp 24, (B ((!x25))))] (B false)), (13, rp [(.tmp 25, B false), fu 38, (.tmp 27, I x7.Liquid), ci 0, ci 4000] (B x28)), (16, rp [(.tmp 30, (B ((!x28))))] (B false)), (19, rp [(.tmp 31, B false), fu 38, (.tmp 33, I x7.Silica), ci 0, ci 2000] (B x31)), (22, rp [(.tmp 36, (B ((!x31))))] (B false)), (29, rp [(.tmp 43, (B ((decide (x7.Vapour ≤ x7.Liquid)))))] (B false))] ⟨apc (first := []) (cap := []) (vs := [I x7.T, I 0, I 400]) rfl Qea (Qbm N x7.T 0 400 _ hf21) rfl rfl (nlc nll (nlc nll (nlc nll nl0))) nll rfl, asb hb23 (amv rfl), ag_ (apc (first := []) (cap := []) (vs := [I x7.P, I 1, I 10000]) rfl Qea (Qbm N x7.P 1 10000 _ hf24) rfl rfl (nlc nll (nlc nll (nlc nll nl0))) nll rfl), asb hb26 (amv rfl), ag_ (apc (first := []) (cap := []) (vs := [I x7.Liquid, I 0, I 4000]) rfl Qea (Qbm N x7.Liquid 0 4000 _ hf27) rfl rfl (nlc nll (nlc nll (nlc nll nl0))) nll rfl), asb hb29 (amv rfl), ag_ (apc (first := []) (cap := []) (vs := [I x7.Silica, I 0, I 2000]) rfl Qea (Qbm N x7.Silica 0 2000 _ hf30) rfl rfl (nlc nll (nlc nll (nlc nll nl0))) nll rfl), asb hb32 (amv rfl), asb hb33 (amv rfl), trivial⟩ ?_
          rcases bft ((decide (x7.Vapour > 4000))) with hc34 | hc34
          ·replace h := Qa2 hc34 h
           refine wft hc34 (by kernel_rfl) ?_
           refine wx tbk [] trivial ?_
           refine Qad ?_
           refine Qaj ?_
           refine Qaw ?_
           refine Qaj ?_
           refine Qaj ?_
           refine Qaw ?_
           refine Qaj ?_
           obtain rfl := osi h
           exact fend ⟨[B false], ⟨rot (by kernel_rfl), trivial⟩, rfl⟩ nll
          ·replace h := Qa3 hc34 h
           refine wfn hc34 (by kernel_rfl) ?_
           refine Qar ?_
           refine thn ?_
           exact ⟨(), h, (mto (n := 103) [(0, (Qi9 p0)), (3, I y3), (4, .ref 0 5 0 0)] [0] [(Q9z x7)] hφ0 (pc (.rn (.plain _ (nld Qai _))) (pc rwl (pc (.rn (rqr rfl)) pn))) (qc (spb (lc rwl (lc rwl (lc rwl (lc rwl (lc rwl ln)))))) qn))⟩
   ·replace h := Qa3 hc6 h
    refine wfn hc6 (by kernel_rfl) ?_
    refine Qcf ?_
    refine Qa8 ?_
    refine Qa8 ?_
    refine Qce rfl ?_
    refine thn ?_
    exact ⟨(), h, (mto (n := 103) [(0, (Qi9 p0))] [] [] hφ0 (pc (.rn (.plain _ (nld Qai _))) pn) qn)⟩
def Qd7 (N : Nat) (p0 : (List GRow)) (k2 : (List GRow) → Option (List GRow)) : Nat → (List GRow) → Int → Option (List GRow)
  | 0, _, _ => none
  | n7 + 1, y3, y4 =>
    bif (decide (y4 < (p0.length : Int))) then
     (getI p0 y4).bind fun x9 =>
     chk (decide ((y3.length + ([x9]).length) * 40 ≤ 140737488355328)) <|
     Qd7 N p0 k2 n7 (y3 ++ ([x9])) (w64 (y4 + 1))
    else
     k2 (y3)
def Qgv (N : Nat) (p0 : (List GRow)) : Option (List GRow) :=
  Qcv (fun y1 =>
    some y1) fun k2 : (List GRow) → Option (List GRow) =>
  Qd7 N p0 k2 N ([]) 0
def Qrs (p0 : (List GRow)) : AV := .dat 5 ((p0 : List GRow).map Qav)
def Q22 (y3 : (List GRow)) : AV := .acc 0 107 5 ((y3 : List GRow).map Qav)
def Q21 (x9 : GRow) : AV := .agg [(I (x9.T)), (I (x9.P)), (I (x9.Liquid)), (I (x9.Vapour)), (I (x9.Silica))]
theorem Qjs (N : Nat) (p0 : (List GRow)) (r : (List GRow)) (h : Qgv N p0 = some r) : Spec Try.prog 23 [(.dat 5 (p0.map Qav))] [] (.dat 5 (r.map Qav)) [] := by
  refine Qag Try.func23 rfl 0 (nle rfl) (fun X φ0 w0 hφ0 hd0 => ?_)
  unfold Qgv at h
  refine wx tbk [] trivial ?_
  refine wx tbk [] trivial ?_
  obtain ⟨k2, hk_k2, h⟩ := jko h
  refine wjn (τ := (List GRow)) (fun t => k2 t = some r) (fun y1 => ⟨mk 41 [(3, (.acc 0 107 5 ((y1 : List GRow).map Qav)))], [.tok]⟩) (fun y1 h => ?_) ?_
  ·subst hk_k2
   refine wx tbk [] trivial ?_
   refine Qad ?_
   obtain rfl := osi h
   exact fend ⟨[(.dat 5 ((y1 : List GRow).map Qav))], ⟨Qe4 (v := (.acc 0 107 5 ((y1 : List GRow).map Qav))) (rot (by kernel_rfl)) Less.acc, trivial⟩, rfl⟩ (nld Qai _)
  ·skip
   refine wx tbk [] trivial ?_
   refine Qaq ?_
   refine wmr (Mor.trans (Qxq 0 107 5 3 (by kernel_rfl) (by kernel_rfl)) (mto (n := 41) (l' := [(0, (Qrs p0)), (3, (.acc 0 107 5 ((([]) : List GRow).map Qav))), (4, I 0)]) (own' := [.tok]) [(0, (Qrs p0)), (3, (.acc 0 107 5 (([] : List GRow).map Qav))), (4, I 0)] [0] [.tok] hφ0 (pc (.rn (.plain _ (nld Qai _))) (pc (.rn (Qgn rfl (Qei Qai _))) (pc rwl pn))) (qc .tok qn))) ?_
   refine Qc9 (τ := (List GRow) × Int) (fun n t => Qd7 N p0 k2 n t.1 t.2 = some r) (fun ⟨y3, y4⟩ => ⟨mk 41 [(0, (Qrs p0)), (3, (Q22 y3)), (4, I y4)], [.tok]⟩) (fun t h => by rw [Qd7] at h; cases h) (fun n7 ih t h => ?_) N ([], 0) h
   obtain ⟨y3, y4⟩ := t
   rw [Qd7] at h
   skip
   refine wsq ?_
   refine wx tbk [(2, rp [(.tmp 6, (Qrs p0))] (I ((p0.length : Int))))] ⟨alm (c := Qav) (l := p0) (aln rfl Try.underlying23 rfl), trivial⟩ ?_
   rcases bft ((decide (y4 < (p0.length : Int)))) with hc8 | hc8
   ·replace h := Qa2 hc8 h
    refine wft hc8 (by kernel_rfl) ?_
    refine Qar ?_
    refine thn ?_
    refine wsq ?_
    refine Qaq ?_
    obtain ⟨x9, hg10, h⟩ := bno h
    obtain ⟨hi11, hj12⟩ := gsm hg10
    obtain ⟨ha13, h⟩ := cko h
    refine wy1 tbk [(3, rp [(.tmp 12, (Qrs p0)), (.tmp 13, I y4)] (.dptr (Qav (x9)) 0)), (8, rp [(.tmp 17, (Qrs p0)), (.tmp 18, I y4)] (.dptr (Qav (x9)) 0)), (13, rp [(.tmp 22, (Qrs p0)), (.tmp 23, I y4)] (.dptr (Qav (x9)) 0)), (18, rp [(.tmp 27, (Qrs p0)), (.tmp 28, I y4)] (.dptr (Qav (x9)) 0)), (23, rp [(.tmp 32, (Qrs p0)), (.tmp 33, I y4)] (.dptr (Qav (x9)) 0)), (26, rp [(.tmp 16, I x9.T), (.tmp 21, I x9.P), (.tmp 26, I x9.Liquid), (.tmp 31, I x9.Vapour), (.tmp 36, I x9.Silica)] (Q21 x9)), (27, rp [(.tmp 37, (Q21 x9))] (.dat 5 (([x9] : List GRow).map Qav))), (28, ⟨[(.tmp 11, (Q22 y3)), (.tmp 38, (.dat 5 (([x9] : List GRow).map Qav)))], [(0, .tok), (1, .unused)], (.acc 1 107 5 ((y3 ++ ([x9]) : List GRow).map Qav)), [(0, .dead), (1, .tok)], false⟩)] ⟨aid rfl Try.underlying23 Qlo rfl rfl hi11 (mgt Qav hj12) rfl, aid rfl Try.underlying23 Qlo rfl rfl hi11 (mgt Qav hj12) rfl, aid rfl Try.underlying23 Qlo rfl rfl hi11 (mgt Qav hj12) rfl, aid rfl Try.underlying23 Qlo rfl rfl hi11 (mgt Qav hj12) rfl, aid rfl Try.underlying23 Qlo rfl rfl hi11 (mgt Qav hj12) rfl, Qat (vs := [I x9.T, I x9.P, I x9.Liquid, I x9.Vapour, I x9.Silica]) rfl Q8i Qxc rfl (by rfl) rfl, Qbp (vs := [(Q21 x9)]) rfl Try.underlying39 Qrw Qxc rfl (by decide) rfl (by decide) (by rfl) (by rfl) (by rfl) rfl, Qkv rfl Try.underlying39 Zhh (Base.acc _ _) rfl rfl (by rfl) (Qo3 Qav ha13) (Qo2 Qav ha13 (by decide)) (Qo1 Qav) rfl rfl, trivial⟩ ?_
    refine bln ?_
    refine thn ?_
    refine wx1 tbk [] trivial ?_
    refine thn ?_
    exact arm (mto (n := 41) [(0, (Qrs p0)), (3, (.acc 1 107 5 ((y3 ++ ([x9]) : List GRow).map Qav))), (4, (I (w64 (y4 + 1))))] [1] [.tok] hφ0 (pc (.rn (.plain _ (nld Qai _))) (pc (.rn (Qgn rfl (Qei Qai _))) (pc rwl pn))) (qc .tok qn)) (ih (y3 ++ ([x9]), w64 (y4 + 1)) h)
   ·replace h := Qa3 hc8 h
    refine wfn hc8 (by kernel_rfl) ?_
    refine Qcf ?_
    refine Qa8 ?_
    refine Qa8 ?_
    refine Qce rfl ?_
    refine thn ?_
    exact ⟨(y3), h, (mto (n := 41) [(3, (Q22 y3))] [0] [.tok] hφ0 (pc (.rn (Qgn rfl (Qei Qai _))) pn) (qc .tok qn))⟩
def Qft (N : Nat) (p0 : GStream) : Option Bool :=
  (Qgk N p0.Mass 0 1000000).bind fun x2 =>
  bif x2 then
   (Qgk N p0.Heat 0 (w64 (4000 * p0.Mass))).bind fun x5 =>
   bif x5 then
    (Qgk N p0.Silica 0 (w64 (10000 * p0.Mass))).bind fun x8 =>
    bif x8 then
     (Qgk N p0.Gas 0 1000000000).bind fun x11 =>
     some x11
    else
     some false
   else
    some false
  else
   some false
theorem Qlw (N : Nat) (p0 : GStream) (r : Bool) (h : Qft N p0 = some r) : Spec Try.prog 22 [(.agg (Qaa p0))] [] (B r) [] := by
  refine Qag Try.func22 rfl 0 (nle rfl) (fun X φ0 w0 hφ0 hd0 => ?_)
  unfold Qft at h
  refine wx tbk [] trivial ?_
  obtain ⟨x2, hf1, h⟩ := bno h
  rcases bft (x2) with hb3 | hb3
  ·replace h := Qa2 hb3 h
   obtain ⟨x5, hf4, h⟩ := bno h
   rcases bft (x5) with hb6 | hb6
   ·replace h := Qa2 hb6 h
    obtain ⟨x8, hf7, h⟩ := bno h
    rcases bft (x8) with hb9 | hb9
    ·replace h := Qa2 hb9 h
     obtain ⟨x11, hf10, h⟩ := bno h
     refine wx tbk [(2, rp [fu 38, (.tmp 4, I p0.Mass), ci 0, ci 1000000] (B x2)), (3, rp [(.tmp 5, B x2)] (B true)), (9, rp [(.tmp 6, B true), fu 38, (.tmp 8, I p0.Heat), ci 0, (.tmp 11, (I (w64 (4000 * p0.Mass))))] (B x5)), (11, rp [(.tmp 13, B x5)] (B true)), (17, rp [(.tmp 14, B true), fu 38, (.tmp 16, I p0.Silica), ci 0, (.tmp 19, (I (w64 (10000 * p0.Mass))))] (B x8)), (19, rp [(.tmp 21, B x8)] (B true)), (22, rp [(.tmp 22, B true), fu 38, (.tmp 24, I p0.Gas), ci 0, ci 1000000000] (B x11))] ⟨apc (first := []) (cap := []) (vs := [I p0.Mass, I 0, I 1000000]) rfl Qea (Qbm N p0.Mass 0 1000000 _ hf1) rfl rfl (nlc nll (nlc nll (nlc nll nl0))) nll rfl, asb hb3 (amv rfl), ag_ (apc (first := []) (cap := []) (vs := [I p0.Heat, I 0, (I (w64 (4000 * p0.Mass)))]) rfl Qea (Qbm N p0.Heat 0 (w64 (4000 * p0.Mass)) _ hf4) rfl rfl (nlc nll (nlc nll (nlc nll nl0))) nll rfl), asb hb6 (amv rfl), ag_ (apc (first := []) (cap := []) (vs := [I p0.Silica, I 0, (I (w64 (10000 * p0.Mass)))]) rfl Qea (Qbm N p0.Silica 0 (w64 (10000 * p0.Mass)) _ hf7) rfl rfl (nlc nll (nlc nll (nlc nll nl0))) nll rfl), asb hb9 (amv rfl), ag_ (apc (first := []) (cap := []) (vs := [I p0.Gas, I 0, I 1000000000]) rfl Qea (Qbm N p0.Gas 0 1000000000 _ hf10) rfl rfl (nlc nll (nlc nll (nlc nll nl0))) nll rfl), trivial⟩ ?_
     refine Qad ?_
     obtain rfl := osi h
     exact fend ⟨[B x11], ⟨rot (by kernel_rfl), trivial⟩, rfl⟩ nll
    ·replace h := Qa3 hb9 h
     refine wx tbk [(2, rp [fu 38, (.tmp 4, I p0.Mass), ci 0, ci 1000000] (B x2)), (3, rp [(.tmp 5, B x2)] (B true)), (9, rp [(.tmp 6, B true), fu 38, (.tmp 8, I p0.Heat), ci 0, (.tmp 11, (I (w64 (4000 * p0.Mass))))] (B x5)), (11, rp [(.tmp 13, B x5)] (B true)), (17, rp [(.tmp 14, B true), fu 38, (.tmp 16, I p0.Silica), ci 0, (.tmp 19, (I (w64 (10000 * p0.Mass))))] (B x8)), (19, rp [(.tmp 21, B x8)] (B false))] ⟨apc (first := []) (cap := []) (vs := [I p0.Mass, I 0, I 1000000]) rfl Qea (Qbm N p0.Mass 0 1000000 _ hf1) rfl rfl (nlc nll (nlc nll (nlc nll nl0))) nll rfl, asb hb3 (amv rfl), ag_ (apc (first := []) (cap := []) (vs := [I p0.Heat, I 0, (I (w64 (4000 * p0.Mass)))]) rfl Qea (Qbm N p0.Heat 0 (w64 (4000 * p0.Mass)) _ hf4) rfl rfl (nlc nll (nlc nll (nlc nll nl0))) nll rfl), asb hb6 (amv rfl), ag_ (apc (first := []) (cap := []) (vs := [I p0.Silica, I 0, (I (w64 (10000 * p0.Mass)))]) rfl Qea (Qbm N p0.Silica 0 (w64 (10000 * p0.Mass)) _ hf7) rfl rfl (nlc nll (nlc nll (nlc nll nl0))) nll rfl), asb hb9 (amv rfl), trivial⟩ ?_
     refine Qad ?_
     obtain rfl := osi h
     exact fend ⟨[B false], ⟨rot (by kernel_rfl), trivial⟩, rfl⟩ nll
   ·replace h := Qa3 hb6 h
    refine wx tbk [(2, rp [fu 38, (.tmp 4, I p0.Mass), ci 0, ci 1000000] (B x2)), (3, rp [(.tmp 5, B x2)] (B true)), (9, rp [(.tmp 6, B true), fu 38, (.tmp 8, I p0.Heat), ci 0, (.tmp 11, (I (w64 (4000 * p0.Mass))))] (B x5)), (11, rp [(.tmp 13, B x5)] (B false))] ⟨apc (first := []) (cap := []) (vs := [I p0.Mass, I 0, I 1000000]) rfl Qea (Qbm N p0.Mass 0 1000000 _ hf1) rfl rfl (nlc nll (nlc nll (nlc nll nl0))) nll rfl, asb hb3 (amv rfl), ag_ (apc (first := []) (cap := []) (vs := [I p0.Heat, I 0, (I (w64 (4000 * p0.Mass)))]) rfl Qea (Qbm N p0.Heat 0 (w64 (4000 * p0.Mass)) _ hf4) rfl rfl (nlc nll (nlc nll (nlc nll nl0))) nll rfl), asb hb6 (amv rfl), trivial⟩ ?_
    refine Qad ?_
    obtain rfl := osi h
    exact fend ⟨[B false], ⟨rot (by kernel_rfl), trivial⟩, rfl⟩ nll
  ·replace h := Qa3 hb3 h
   refine wx tbk [(2, rp [fu 38, (.tmp 4, I p0.Mass), ci 0, ci 1000000] (B x2)), (3, rp [(.tmp 5, B x2)] (B false))] ⟨apc (first := []) (cap := []) (vs := [I p0.Mass, I 0, I 1000000]) rfl Qea (Qbm N p0.Mass 0 1000000 _ hf1) rfl rfl (nlc nll (nlc nll (nlc nll nl0))) nll rfl, asb hb3 (amv rfl), trivial⟩ ?_
   refine Qad ?_
   obtain rfl := osi h
   exact fend ⟨[B false], ⟨rot (by kernel_rfl), trivial⟩, rfl⟩ nll
def Qge (_N : Nat) (p0 : GStream) : Option GStream :=
  some p0
def Zam (p0 : GStream) : AV := .agg [(I (p0.Mass)), (I (p0.Heat)), (I (p0.Silica)), (I (p0.Gas))]
theorem Qg7 (N : Nat) (p0 : GStream) (r : GStream) (h : Qge N p0 = some r) : Spec Try.prog 24 [(.agg (Qaa p0))] [] (.agg (Qaa r)) [] := by
  refine Qag Try.func24 rfl 0 (nle rfl) (fun X φ0 w0 hφ0 hd0 => ?_)
  unfold Qge at h
  refine wx tbk [] trivial ?_
  refine wx tbk [(8, rp [(.tmp 4, I p0.Mass), (.tmp 6, I p0.Heat), (.tmp 8, I p0.Silica), (.tmp 10, I p0.Gas)] (Zam p0))] ⟨Qat (vs := [I p0.Mass, I p0.Heat, I p0.Silica, I p0.Gas]) rfl ts48 tz48 rfl (by rfl) rfl, trivial⟩ ?_
  refine Qad ?_
  obtain rfl := osi h
  exact fend ⟨[(Zam p0)], ⟨Qcm (n := 1) (m := 4) (j := 0) (i := 0) (xs := [[I p0.Mass, I p0.Heat, I p0.Silica, I p0.Gas]]) (by kernel_rfl) (by kernel_rfl) ti48 (by decide) rfl (nle rfl) rfl, trivial⟩, rfl⟩ (NLt.agg _ (nlc nll (nlc nll (nlc nll (nlc nll nl0)))))
end Go.Proofs.Ytmbhnllcfmiajaa
