/-
  Functions of the program: what they compute, as plain functions, and that they do. No conditions.
-/
import Derived.Test.YtmbhnllcfmiajaaX5
namespace Go.Proofs.Ytmbhnllcfmiajaa
set_option maxRecDepth 100000
set_option maxHeartbeats 4000000
open Go.RowKit
def Qer (_N : Nat) (p0 : Int) (p1 : Int) (p2 : Int) : Option Bool :=
  bif (decide (p0 ≥ p1)) then
   some (decide (p0 ≤ p2))
  else
   some false
theorem Qbc (N : Nat) (p0 : Int) (p1 : Int) (p2 : Int) (r : Bool) (h : Qer N p0 p1 p2 = some r) : Spec Try.prog 38 [(I p0), (I p1), (I p2)] [] (B r) [] := by
  refine Qak Try.func38 rfl 0 (nle rfl) (fun X φ0 w0 hφ0 hd0 => ?_)
  unfold Qer at h
  refine wx tbk [] trivial ?_
  rcases bft ((decide (p0 ≥ p1))) with hb1 | hb1
  ·replace h := Qaw hb1 h
   refine wx tbk [(3, rp [(.tmp 9, (B ((decide (p0 ≥ p1)))))] (B true))] ⟨asb hb1 (amv rfl), trivial⟩ ?_
   refine Qad ?_
   obtain rfl := osi h
   exact fend ⟨[(B ((decide (p0 ≤ p2))))], ⟨rot (by kernel_rfl), trivial⟩, rfl⟩ nll
  ·replace h := Qax hb1 h
   refine wx tbk [(3, rp [(.tmp 9, (B ((decide (p0 ≥ p1)))))] (B false))] ⟨asb hb1 (amv rfl), trivial⟩ ?_
   refine Qad ?_
   obtain rfl := osi h
   exact fend ⟨[B false], ⟨rot (by kernel_rfl), trivial⟩, rfl⟩ nll
def Qdm (N : Nat) (p0 : (List GRow)) (k1 : Unit → Option Bool) : Nat → Int → Option Bool
  | 0, _ => none
  | n5 + 1, y3 =>
    bif (decide (y3 < (p0.length : Int))) then
     (getI p0 y3).bind fun x7 =>
     Qbz (fun _ =>
       bif (decide (y3 > 0)) then
        (getI p0 (w64 (y3 - 1))).bind fun x13 =>
        bif (decide (x7.T ≤ x13.T)) then
         some false
        else
         bif (decide (x7.P ≤ x13.P)) then
          some false
         else
          bif (decide (x7.Liquid ≤ x13.Liquid)) then
           some false
          else
           bif (decide (x7.Silica < x13.Silica)) then
            some false
           else
            Qdm N p0 k1 n5 (w64 (y3 + 1))
       else
        Qdm N p0 k1 n5 (w64 (y3 + 1))) fun k11 : Unit → Option Bool =>
     (Qer N x7.T 0 400).bind fun x22 =>
     bif (!x22) then
      some false
     else
      (Qer N x7.P 1 10000).bind fun x25 =>
      bif (!x25) then
       some false
      else
       (Qer N x7.Liquid 0 4000).bind fun x28 =>
       bif (!x28) then
        some false
       else
        (Qer N x7.Silica 0 2000).bind fun x31 =>
        bif (!x31) then
         some false
        else
         bif (decide (x7.Vapour ≤ x7.Liquid)) then
          some false
         else
          bif (decide (x7.Vapour > 4000)) then
           some false
          else
           k11 ()
    else
     k1 ()
def Qi0 (N : Nat) (p0 : (List GRow)) : Option Bool :=
  Qbz (fun _ =>
    bif (decide ((p0.length : Int) ≥ 2)) then
     some (decide ((p0.length : Int) ≤ 20))
    else
     some false) fun k1 : Unit → Option Bool =>
  Qdm N p0 k1 N 0
def Qjh (p0 : (List GRow)) : AV := .dat 5 ((p0 : List GRow).map Qa3)
def Q74 (x7 : GRow) : Slot := .own 5 [[(I (x7.T)), (I (x7.P)), (I (x7.Liquid)), (I (x7.Vapour)), (I (x7.Silica))]]
theorem Qjx (N : Nat) (p0 : (List GRow)) (r : Bool) (h : Qi0 N p0 = some r) : Spec Try.prog 21 [(.dat 5 (p0.map Qa3))] [] (B r) [] := by
  refine Qak Try.func21 rfl 0 (nle rfl) (fun X φ0 w0 hφ0 hd0 => ?_)
  unfold Qi0 at h
  refine wx tbk [] trivial ?_
  obtain ⟨k1, hk_k1, h⟩ := jko h
  refine wjn (τ := Unit) (fun t => k1 t = some r) (fun _ => ⟨mk 103 [(0, (Qjh p0))], []⟩) (fun t h => ?_) ?_
  ·subst hk_k1
   rcases bft ((decide ((p0.length : Int) ≥ 2))) with hb2 | hb2
   ·replace h := Qaw hb2 h
    refine wx tbk [(1, rp [(.tmp 95, (Qjh p0))] (I ((p0.length : Int)))), (3, rp [(.tmp 97, (B ((decide ((p0.length : Int) ≥ 2)))))] (B true)), (5, rp [(.tmp 98, B true), (.tmp 99, (Qjh p0))] (I ((p0.length : Int))))] ⟨alm (c := Qa3) (l := p0) (aln rfl Try.underlying23 rfl), asb hb2 (amv rfl), ag_ (alm (c := Qa3) (l := p0) (aln rfl Try.underlying23 rfl)), trivial⟩ ?_
    refine Qad ?_
    obtain rfl := osi h
    exact fend ⟨[(B ((decide ((p0.length : Int) ≤ 20))))], ⟨rot (by kernel_rfl), trivial⟩, rfl⟩ nll
   ·replace h := Qax hb2 h
    refine wx tbk [(1, rp [(.tmp 95, (Qjh p0))] (I ((p0.length : Int)))), (3, rp [(.tmp 97, (B ((decide ((p0.length : Int) ≥ 2)))))] (B false))] ⟨alm (c := Qa3) (l := p0) (aln rfl Try.underlying23 rfl), asb hb2 (amv rfl), trivial⟩ ?_
    refine Qad ?_
    obtain rfl := osi h
    exact fend ⟨[B false], ⟨rot (by kernel_rfl), trivial⟩, rfl⟩ nll
  ·skip
   refine wx tbk [] trivial ?_
   refine Qan ?_
   refine wmr (mto (n := 103) (l' := [(0, (Qjh p0)), (3, I 0)]) (own' := []) [(0, (Qjh p0)), (3, I 0)] [] [] hφ0 (pc (.rn (.plain _ (nld Qah _))) (pc rwl pn)) qn) ?_
   refine Qby (τ := Int) (fun n t => Qdm N p0 k1 n t = some r) (fun y3 => ⟨mk 103 [(0, (Qjh p0)), (3, I y3)], []⟩) (fun t h => by rw [Qdm] at h; cases h) (fun n5 ih y3 h => ?_) N (0) h
   rw [Qdm] at h
   skip
   refine wsq ?_
   refine wx tbk [(2, rp [(.tmp 6, (Qjh p0))] (I ((p0.length : Int))))] ⟨alm (c := Qa3) (l := p0) (aln rfl Try.underlying23 rfl), trivial⟩ ?_
   rcases bft ((decide (y3 < (p0.length : Int)))) with hc6 | hc6
   ·replace h := Qaw hc6 h
    refine wft hc6 (by kernel_rfl) ?_
    refine Qap ?_
    refine thn ?_
    refine wsq ?_
    refine Qan ?_
    obtain ⟨x7, hg8, h⟩ := bno h
    obtain ⟨hi9, hj10⟩ := gsm hg8
    refine wx tbk [(2, rp [(.tmp 11, (Qjh p0)), (.tmp 12, I y3)] (.dptr (Qa3 (x7)) 0))] ⟨aid rfl Try.underlying23 Qls rfl rfl hi9 (mgt Qa3 hj10) rfl, trivial⟩ ?_
    obtain ⟨k11, hk_k11, h⟩ := jko h
    refine wjn (τ := Unit) (fun t => k11 t = some r) (fun _ => ⟨mk 103 [(0, (Qjh p0)), (3, I y3), (4, .ref 0 5 0 0)], [(Q74 x7)]⟩) (fun t h => ?_) ?_
    ·subst hk_k11
     rcases bft ((decide (y3 > 0))) with hb12 | hb12
     ·replace h := Qaw hb12 h
      obtain ⟨x13, hg14, h⟩ := bno h
      obtain ⟨hi15, hj16⟩ := gsm hg14
      rcases bft ((decide (x7.T ≤ x13.T))) with hb17 | hb17
      ·replace h := Qaw hb17 h
       refine wxd tbk [(2, rp [(.tmp 50, (B ((decide (y3 > 0)))))] (B true)), (8, rp [(.tmp 51, B true), (.tmp 54, (Qjh p0)), (.tmp 56, (I (w64 (y3 - 1))))] (.dptr (Qa3 (x13)) 0)), (12, rp [(.tmp 51, B true), (.tmp 60, (B ((decide (x7.T ≤ x13.T)))))] (B true))] ⟨asb hb12 (amv rfl), ag_ (aid rfl Try.underlying23 Qls rfl rfl hi15 (mgt Qa3 hj16) rfl), asb hb17 (ag_ (amv rfl)), trivial⟩ ?_
       refine Qbk (by kernel_rfl) ?_
       refine wx tbk [] trivial ?_
       refine Qad ?_
       refine Qas ?_
       refine Qaf ?_
       refine Qaf ?_
       refine Qas ?_
       refine Qaf ?_
       obtain rfl := osi h
       exact fend ⟨[B false], ⟨rot (by kernel_rfl), trivial⟩, rfl⟩ nll
      ·replace h := Qax hb17 h
       rcases bft ((decide (x7.P ≤ x13.P))) with hb18 | hb18
       ·replace h := Qaw hb18 h
        refine wxd tbk [(2, rp [(.tmp 50, (B ((decide (y3 > 0)))))] (B true)), (8, rp [(.tmp 51, B true), (.tmp 54, (Qjh p0)), (.tmp 56, (I (w64 (y3 - 1))))] (.dptr (Qa3 (x13)) 0)), (12, rp [(.tmp 51, B true), (.tmp 60, (B ((decide (x7.T ≤ x13.T)))))] (B false)), (18, rp [(.tmp 61, B false), (.tmp 64, (Qjh p0)), (.tmp 66, (I (w64 (y3 - 1))))] (.dptr (Qa3 (x13)) 0)), (23, rp [(.tmp 51, B true), (.tmp 71, (B ((decide (x7.P ≤ x13.P)))))] (B true))] ⟨asb hb12 (amv rfl), ag_ (aid rfl Try.underlying23 Qls rfl rfl hi15 (mgt Qa3 hj16) rfl), asb hb17 (ag_ (amv rfl)), ag_ (aid rfl Try.underlying23 Qls rfl rfl hi15 (mgt Qa3 hj16) rfl), asb hb18 (ag_ (amv rfl)), trivial⟩ ?_
        refine Qbk (by kernel_rfl) ?_
        refine wx tbk [] trivial ?_
        refine Qad ?_
        refine Qas ?_
        refine Qaf ?_
        refine Qaf ?_
        refine Qas ?_
        refine Qaf ?_
        obtain rfl := osi h
        exact fend ⟨[B false], ⟨rot (by kernel_rfl), trivial⟩, rfl⟩ nll
       ·replace h := Qax hb18 h
        rcases bft ((decide (x7.Liquid ≤ x13.Liquid))) with hb19 | hb19
        ·replace h := Qaw hb19 h
         refine wxd tbk [(2, rp [(.tmp 50, (B ((decide (y3 > 0)))))] (B true)), (8, rp [(.tmp 51, B true), (.tmp 54, (Qjh p0)), (.tmp 56, (I (w64 (y3 - 1))))] (.dptr (Qa3 (x13)) 0)), (12, rp [(.tmp 51, B true), (.tmp 60, (B ((decide (x7.T ≤ x13.T)))))] (B false)), (18, rp [(.tmp 61, B false), (.tmp 64, (Qjh p0)), (.tmp 66, (I (w64 (y3 - 1))))] (.dptr (Qa3 (x13)) 0)), (23, rp [(.tmp 51, B true), (.tmp 71, (B ((decide (x7.P ≤ x13.P)))))] (B false)), (29, rp [(.tmp 72, B false), (.tmp 75, (Qjh p0)), (.tmp 77, (I (w64 (y3 - 1))))] (.dptr (Qa3 (x13)) 0)), (34, rp [(.tmp 51, B true), (.tmp 82, (B ((decide (x7.Liquid ≤ x13.Liquid)))))] (B true))] ⟨asb hb12 (amv rfl), ag_ (aid rfl Try.underlying23 Qls rfl rfl hi15 (mgt Qa3 hj16) rfl), asb hb17 (ag_ (amv rfl)), ag_ (aid rfl Try.underlying23 Qls rfl rfl hi15 (mgt Qa3 hj16) rfl), asb hb18 (ag_ (amv rfl)), ag_ (aid rfl Try.underlying23 Qls rfl rfl hi15 (mgt Qa3 hj16) rfl), asb hb19 (ag_ (amv rfl)), trivial⟩ ?_
         refine Qbk (by kernel_rfl) ?_
         refine wx tbk [] trivial ?_
         refine Qad ?_
         refine Qas ?_
         refine Qaf ?_
         refine Qaf ?_
         refine Qas ?_
         refine Qaf ?_
         obtain rfl := osi h
         exact fend ⟨[B false], ⟨rot (by kernel_rfl), trivial⟩, rfl⟩ nll
        ·replace h := Qax hb19 h
         refine wxd tbk [(2, rp [(.tmp 50, (B ((decide (y3 > 0)))))] (B true)), (8, rp [(.tmp 51, B true), (.tmp 54, (Qjh p0)), (.tmp 56, (I (w64 (y3 - 1))))] (.dptr (Qa3 (x13)) 0)), (12, rp [(.tmp 51, B true), (.tmp 60, (B ((decide (x7.T ≤ x13.T)))))] (B false)), (18, rp [(.tmp 61, B false), (.tmp 64, (Qjh p0)), (.tmp 66, (I (w64 (y3 - 1))))] (.dptr (Qa3 (x13)) 0)), (23, rp [(.tmp 51, B true), (.tmp 71, (B ((decide (x7.P ≤ x13.P)))))] (B false)), (29, rp [(.tmp 72, B false), (.tmp 75, (Qjh p0)), (.tmp 77, (I (w64 (y3 - 1))))] (.dptr (Qa3 (x13)) 0)), (34, rp [(.tmp 51, B true), (.tmp 82, (B ((decide (x7.Liquid ≤ x13.Liquid)))))] (B false)), (40, rp [(.tmp 83, B false), (.tmp 86, (Qjh p0)), (.tmp 88, (I (w64 (y3 - 1))))] (.dptr (Qa3 (x13)) 0))] ⟨asb hb12 (amv rfl), ag_ (aid rfl Try.underlying23 Qls rfl rfl hi15 (mgt Qa3 hj16) rfl), asb hb17 (ag_ (amv rfl)), ag_ (aid rfl Try.underlying23 Qls rfl rfl hi15 (mgt Qa3 hj16) rfl), asb hb18 (ag_ (amv rfl)), ag_ (aid rfl Try.underlying23 Qls rfl rfl hi15 (mgt Qa3 hj16) rfl), asb hb19 (ag_ (amv rfl)), ag_ (aid rfl Try.underlying23 Qls rfl rfl hi15 (mgt Qa3 hj16) rfl), trivial⟩ ?_
         rcases bft ((decide (x7.Silica < x13.Silica))) with hc20 | hc20
         ·replace h := Qaw hc20 h
          refine wft hc20 (by kernel_rfl) ?_
          refine wx tbk [] trivial ?_
          refine Qad ?_
          refine Qas ?_
          refine Qaf ?_
          refine Qaf ?_
          refine Qas ?_
          refine Qaf ?_
          obtain rfl := osi h
          exact fend ⟨[B false], ⟨rot (by kernel_rfl), trivial⟩, rfl⟩ nll
         ·replace h := Qax hc20 h
          refine wfn hc20 (by kernel_rfl) ?_
          refine Qap ?_
          refine bln ?_
          refine thn ?_
          refine wx1 tbk [] trivial ?_
          refine thn ?_
          exact arm (mto (n := 103) [(0, (Qjh p0)), (3, (I (w64 (y3 + 1))))] [] [] hφ0 (pc (.rn (.plain _ (nld Qah _))) (pc rwl pn)) qn) (ih (w64 (y3 + 1)) h)
     ·replace h := Qax hb12 h
      refine wxd tbk [(2, rp [(.tmp 50, (B ((decide (y3 > 0)))))] (B false))] ⟨asb hb12 (amv rfl), trivial⟩ ?_
      refine Qgt (by kernel_rfl) ?_
      refine Qap ?_
      refine bln ?_
      refine thn ?_
      refine wx1 tbk [] trivial ?_
      refine thn ?_
      exact arm (mto (n := 103) [(0, (Qjh p0)), (3, (I (w64 (y3 + 1))))] [] [] hφ0 (pc (.rn (.plain _ (nld Qah _))) (pc rwl pn)) qn) (ih (w64 (y3 + 1)) h)
    ·skip
     obtain ⟨x22, hf21, h⟩ := bno h
     rcases bft ((!x22)) with hb23 | hb23
     ·replace h := Qaw hb23 h
      refine wx tbk [(2, rp [fu 38, (.tmp 16, I x7.T), ci 0, ci 400] (B x22)), (4, rp [(.tmp 18, (B ((!x22))))] (B true))] ⟨apc (first := []) (cap := []) (vs := [I x7.T, I 0, I 400]) rfl Qdj (Qbc N x7.T 0 400 _ hf21) rfl rfl (nlc nll (nlc nll (nlc nll nl0))) nll rfl, asb hb23 (amv rfl), trivial⟩ ?_
      refine Qbk (by kernel_rfl) ?_
      refine wx tbk [] trivial ?_
      refine Qad ?_
      refine Qaf ?_
      refine Qas ?_
      refine Qaf ?_
      refine Qaf ?_
      refine Qas ?_
      refine Qaf ?_
      obtain rfl := osi h
      exact fend ⟨[B false], ⟨rot (by kernel_rfl), trivial⟩, rfl⟩ nll
     ·replace h := Qax hb23 h
      obtain ⟨x25, hf24, h⟩ := bno h
      rcases bft ((!x25)) with hb26 | hb26
      ·replace h := Qaw hb26 h
       refine wx tbk [(2, rp [fu 38, (.tmp 16, I x7.T), ci 0, ci 400] (B x22)), (4, rp [(.tmp 18, (B ((!x22))))] (B false)), (7, rp [(.tmp 19, B false), fu 38, (.tmp 21, I x7.P), ci 1, ci 10000] (B x25)), (10, rp [(.tmp 24, (B ((!x25))))] (B true))] ⟨apc (first := []) (cap := []) (vs := [I x7.T, I 0, I 400]) rfl Qdj (Qbc N x7.T 0 400 _ hf21) rfl rfl (nlc nll (nlc nll (nlc nll nl0))) nll rfl, asb hb23 (amv rfl), ag_ (apc (first := []) (cap := []) (vs := [I x7.P, I 1, I 10000]) rfl Qdj (Qbc N x7.P 1 10000 _ hf24) rfl rfl (nlc nll (nlc nll (nlc nll nl0))) nll rfl), asb hb26 (amv rfl), trivial⟩ ?_
       refine Qbk (by kernel_rfl) ?_
       refine wx tbk [] trivial ?_
       refine Qad ?_
       refine Qaf ?_
       refine Qas ?_
       refine Qaf ?_
       refine Qaf ?_
       refine Qas ?_
       refine Qaf ?_
       obtain rfl := osi h
       exact fend ⟨[B false], ⟨rot (by kernel_rfl), trivial⟩, rfl⟩ nll
      ·replace h := Qax hb26 h
       obtain ⟨x28, hf27, h⟩ := bno h
       rcases bft ((!x28)) with hb29 | hb29
       ·replace h := Qaw hb29 h
        refine wx tbk [(2, rp [fu 38, (.tmp 16, I x7.T), ci 0, ci 400] (B x22)), (4, rp [(.tmp 18, (B ((!x22))))] (B false)), (7, rp [(.tmp 19, B false), fu 38, (.tmp 21, I x7.P), ci 1, ci 10000] (B x25)), (10, rp [(.tmp 24, (B ((!x25))))] (B false)), (13, rp [(.tmp 25, B false), fu 38, (.tmp 27, I x7.Liquid), ci 0, ci 4000] (B x28)), (16, rp [(.tmp 30, (B ((!x28))))] (B true))] ⟨apc (first := []) (cap := []) (vs := [I x7.T, I 0, I 400]) rfl Qdj (Qbc N x7.T 0 400 _ hf21) rfl rfl (nlc nll (nlc nll (nlc nll nl0))) nll rfl, asb hb23 (amv rfl), ag_ (apc (first := []) (cap := []) (vs := [I x7.P, I 1, I 10000]) rfl Qdj (Qbc N x7.P 1 10000 _ hf24) rfl rfl (nlc nll (nlc nll (nlc nll nl0))) nll rfl), asb hb26 (amv rfl), ag_ (apc (first := []) (cap := []) (vs := [I x7.Liquid, I 0, I 4000]) rfl Qdj (Qbc N x7.Liquid 0 4000 _ hf27) rfl rfl (nlc nll (nlc nll (nlc nll nl0))) nll rfl), asb hb29 (amv rfl), trivial⟩ ?_
        refine Qbk (by kernel_rfl) ?_
        refine wx tbk [] trivial ?_
        refine Qad ?_
        refine Qaf ?_
        refine Qas ?_
        refine Qaf ?_
        refine Qaf ?_
        refine Qas ?_
        refine Qaf ?_
        obtain rfl := osi h
        exact fend ⟨[B false], ⟨rot (by kernel_rfl), trivial⟩, rfl⟩ nll
       ·replace h := Qax hb29 h
        obtain ⟨x31, hf30, h⟩ := bno h
        rcases bft ((!x31)) with hb32 | hb32
        ·replace h := Qaw hb32 h
         refine wx tbk [(2, rp [fu 38, (.tmp 16, I x7.T), ci 0, ci 400] (B x22)), (4, rp [(.tmp 18, (B ((!x22))))] (B false)), (7, rp [(.tmp 19, B false), fu 38, (.tmp 21, I x7.P), ci 1, ci 10000] (B x25)), (10, rp [(.tmp 24, (B ((!x25))))] (B false)), (13, rp [(.tmp 25, B false), fu 38, (.tmp 27, I x7.Liquid), ci 0, ci 4000] (B x28)), (16, rp [(.tmp 30, (B ((!x28))))] (B false)), (19, rp [(.tmp 31, B false), fu 38, (.tmp 33, I x7.Silica), ci 0, ci 2000] (B x31)), (22, rp [(.tmp 36, (B ((!x31))))] (B true))] ⟨apc (first := []) (cap := []) (vs := [I x7.T, I 0, I 400]) rfl Qdj (Qbc N x7.T 0 400 _ hf21) rfl rfl (nlc nll (nlc nll (nlc nll nl0))) nll rfl, asb hb23 (amv rfl), ag_ (apc (first := []) (cap := []) (vs := [I x7.P, I 1, I 10000]) rfl Qdj (Qbc N x7.P 1 10000 _ hf24) rfl rfl (nlc nll (nlc nll (nlc nll nl0))) nll rfl), asb hb26 (amv rfl), ag_ (apc (first := []) (cap := []) (vs := [I x7.Liquid, I 0, I 4000]) rfl Qdj (Qbc N x7.Liquid 0 4000 _ hf27) rfl rfl (nlc nll (nlc nll (nlc nll nl0))) nll rfl), asb hb29 (amv rfl), ag_ (apc (first := []) (cap := []) (vs := [I x7.Silica, I 0, I 2000]) rfl Qdj (Qbc N x7.Silica 0 2000 _ hf30) rfl rfl (nlc nll (nlc nll (nlc nll nl0))) nll rfl), asb hb32 (amv rfl), trivial⟩ ?_
         refine Qbk (by kernel_rfl) ?_
         refine wx tbk [] trivial ?_
         refine Qad ?_
         refine Qaf ?_
         refine Qas ?_
         refine Qaf ?_
         refine Qaf ?_
         refine Qas ?_
         refine Qaf ?_
         obtain rfl := osi h
         exact fend ⟨[B false], ⟨rot (by kernel_rfl), trivial⟩, rfl⟩ nll
        ·replace h := Qax hb32 h
         rcases bft ((decide (x7.Vapour ≤ x7.Liquid))) with hb33 | hb33
         ·replace h := Qaw hb33 h
          refine wx tbk [(2, rp [fu 38, (.tmp 16, I x7.T), ci 0, ci 400] (B x22)), (4, rp [(.tmp 18, (B ((!x22))))] (B false)), (7, rp [(.tmp 19, B false), fu 38, (.tmp 21, I x7.P), ci 1, ci 10000] (B x25)), (10, rp [(.tmp 24, (B ((!x25))))] (B false)), (13, rp [(.tmp 25, B false), fu 38, (.tmp 27, I x7.Liquid), ci 0, ci 4000] (B x28)), (16, rp [(.tmp 30, (B ((!x28))))] (B false)), (19, rp [(.tmp 31, B false), fu 38, (.tmp 33, I x7.Silica), ci 0, ci 2000] (B x31)), (22, rp [(.tmp 36, (B ((!x31))))] (B false)), (29, rp [(.tmp 43, (B ((decide (x7.Vapour ≤ x7.Liquid)))))] (B true))] ⟨apc (first := []) (cap := []) (vs := [I x7.T, I 0, I 400]) rfl Qdj (Qbc N x7.T 0 400 _ hf21) rfl rfl (nlc nll (nlc nll (nlc nll nl0))) nll rfl, asb hb23 (amv rfl), ag_ (apc (first := []) (cap := []) (vs := [I x7.P, I 1, I 10000]) rfl Qdj (Qbc N x7.P 1 10000 _ hf24) rfl rfl (nlc nll (nlc nll (nlc nll nl0))) nll rfl), asb hb26 (amv rfl), ag_ (apc (first := []) (cap := []) (vs := [I x7.Liquid, I 0, I 4000]) rfl Qdj (Qbc N x7.Liquid 0 4000 _ hf27) rfl rfl (nlc nll (nlc nll (nlc nll nl0))) nll rfl), asb hb29 (amv rfl), ag_ (apc (first := []) (cap := []) (vs := [I x7.Silica, I 0, I 2000]) rfl Qdj (Qbc N x7.Silica 0 2000 _ hf30) rfl rfl (nlc nll (nlc nll (nlc nll nl0))) nll rfl), asb hb32 (amv rfl), asb hb33 (amv rfl), trivial⟩ ?_
          refine Qbk (by kernel_rfl) ?_
          refine wx tbk [] trivial ?_
          refine Qad ?_
          refine Qaf ?_
          refine Qas ?_
          refine Qaf ?_
          refine Qaf ?_
          refine Qas ?_
          refine Qaf ?_
          obtain rfl := osi h
          exact fend ⟨[B false], ⟨rot (by kernel_rfl), trivial⟩, rfl⟩ nll
         ·replace h := Qax hb33 h
          refine wx tbk [(2, rp [fu 38, (.tmp 16, I x7.T), ci 0, ci 400] (B x22)), (4, rp [(.tmp 18, (B ((!x22))))] (B false)), (7, rp [(.tmp 19, B false), fu 38, (.tmp 21, I x7.P), ci 1, ci 10000] (B x25)), (10, rp [(.tmp 24, (B ((!x25))))] (B false)), (13, rp [(.tmp 25, B false), fu 38, (.tmp 27, I x7.Liquid), ci 0, ci 4000] (B x28)), (16, rp [(.tmp 30, (B ((!x28))))] (B false)), (19, rp [(.tmp 31, B false), fu 38, (.tmp 33, I x7.Silica), ci 0, ci 2000] (B x31)), (22, rp [(.tmp 36, (B ((!x31))))] (B false)), (29, rp [(.tmp 43, (B ((decide (x7.Vapour ≤ x7.Liquid)))))] (B false))] ⟨apc (first := []) (cap := []) (vs := [I x7.T, I 0, I 400]) rfl Qdj (Qbc N x7.T 0 400 _ hf21) rfl rfl (nlc nll (nlc nll (nlc nll nl0))) nll rfl, asb hb23 (amv rfl), ag_ (apc (first := []) (cap := []) (vs := [I x7.P, I 1, I 10000]) rfl Qdj (Qbc N x7.P 1 10000 _ hf24) rfl rfl (nlc nll (nlc nll (nlc nll nl0))) nll rfl), asb hb26 (amv rfl), ag_ (apc (first := []) (cap := []) (vs := [I x7.Liquid, I 0, I 4000]) rfl Qdj (Qbc N x7.Liquid 0 4000 _ hf27) rfl rfl (nlc nll (nlc nll (nlc nll nl0))) nll rfl), asb hb29 (amv rfl), ag_ (apc (first := []) (cap := []) (vs := [I x7.Silica, I 0, I 2000]) rfl Qdj (Qbc N x7.Silica 0 2000 _ hf30) rfl rfl (nlc nll (nlc nll (nlc nll nl0))) nll rfl), asb hb32 (amv rfl), asb hb33 (amv rfl), trivial⟩ ?_
          rcases bft ((decide (x7.Vapour > 4000))) with hc34 | hc34
          ·replace h := Qaw hc34 h
           refine wft hc34 (by kernel_rfl) ?_
           refine wx tbk [] trivial ?_
           refine Qad ?_
           refine Qaf ?_
           refine Qas ?_
           refine Qaf ?_
           refine Qaf ?_
           refine Qas ?_
           refine Qaf ?_
           obtain rfl := osi h
           exact fend ⟨[B false], ⟨rot (by kernel_rfl), trivial⟩, rfl⟩ nll
          ·replace h := Qax hc34 h
           refine wfn hc34 (by kernel_rfl) ?_
           refine Qap ?_
           refine thn ?_
           exact ⟨(), h, (mto (n := 103) [(0, (Qjh p0)), (3, I y3), (4, .ref 0 5 0 0)] [0] [(Q74 x7)] hφ0 (pc (.rn (.plain _ (nld Qah _))) (pc rwl (pc (.rn (rqr rfl)) pn))) (qc (spb (lc rwl (lc rwl (lc rwl (lc rwl (lc rwl ln)))))) qn))⟩
   ·replace h := Qax hc6 h
    refine wfn hc6 (by kernel_rfl) ?_
    refine Qbi ?_
    refine Qay ?_
    refine Qay ?_
    refine Qbh rfl ?_
    refine thn ?_
    exact ⟨(), h, (mto (n := 103) [(0, (Qjh p0))] [] [] hφ0 (pc (.rn (.plain _ (nld Qah _))) pn) qn)⟩
def Qea (N : Nat) (p0 : (List GRow)) (k2 : (List GRow) → Option (List GRow)) : Nat → (List GRow) → Int → Option (List GRow)
  | 0, _, _ => none
  | n7 + 1, y3, y4 =>
    bif (decide (y4 < (p0.length : Int))) then
     (getI p0 y4).bind fun x9 =>
     chk (decide ((y3.length + ([x9]).length) * 40 ≤ 140737488355328)) <|
     Qea N p0 k2 n7 (y3 ++ ([x9])) (w64 (y4 + 1))
    else
     k2 (y3)
def Qi4 (N : Nat) (p0 : (List GRow)) : Option (List GRow) :=
  Qbz (fun y1 =>
    some y1) fun k2 : (List GRow) → Option (List GRow) =>
  Qea N p0 k2 N ([]) 0
def Qrs (p0 : (List GRow)) : AV := .dat 5 ((p0 : List GRow).map Qa3)
def Q1w (y3 : (List GRow)) : AV := .acc 0 107 5 ((y3 : List GRow).map Qa3)
def Q1v (x9 : GRow) : AV := .agg [(I (x9.T)), (I (x9.P)), (I (x9.Liquid)), (I (x9.Vapour)), (I (x9.Silica))]
theorem Qqy (N : Nat) (p0 : (List GRow)) (r : (List GRow)) (h : Qi4 N p0 = some r) : Spec Try.prog 23 [(.dat 5 (p0.map Qa3))] [] (.dat 5 (r.map Qa3)) [] := by
  refine Qak Try.func23 rfl 0 (nle rfl) (fun X φ0 w0 hφ0 hd0 => ?_)
  unfold Qi4 at h
  refine wx tbk [] trivial ?_
  refine wx tbk [] trivial ?_
  obtain ⟨k2, hk_k2, h⟩ := jko h
  refine wjn (τ := (List GRow)) (fun t => k2 t = some r) (fun y1 => ⟨mk 41 [(3, (.acc 0 107 5 ((y1 : List GRow).map Qa3)))], [.tok]⟩) (fun y1 h => ?_) ?_
  ·subst hk_k2
   refine wx tbk [] trivial ?_
   refine Qad ?_
   obtain rfl := osi h
   exact fend ⟨[(.dat 5 ((y1 : List GRow).map Qa3))], ⟨Qe9 (v := (.acc 0 107 5 ((y1 : List GRow).map Qa3))) (rot (by kernel_rfl)) Less.acc, trivial⟩, rfl⟩ (nld Qah _)
  ·skip
   refine wx tbk [] trivial ?_
   refine Qan ?_
   refine wmr (Mor.trans (Qnc 0 107 5 3 (by kernel_rfl) (by kernel_rfl)) (mto (n := 41) (l' := [(0, (Qrs p0)), (3, (.acc 0 107 5 ((([]) : List GRow).map Qa3))), (4, I 0)]) (own' := [.tok]) [(0, (Qrs p0)), (3, (.acc 0 107 5 (([] : List GRow).map Qa3))), (4, I 0)] [0] [.tok] hφ0 (pc (.rn (.plain _ (nld Qah _))) (pc (.rn (Qbx rfl (Qbo Qah _))) (pc rwl pn))) (qc .tok qn))) ?_
   refine Qby (τ := (List GRow) × Int) (fun n t => Qea N p0 k2 n t.1 t.2 = some r) (fun ⟨y3, y4⟩ => ⟨mk 41 [(0, (Qrs p0)), (3, (Q1w y3)), (4, I y4)], [.tok]⟩) (fun t h => by rw [Qea] at h; cases h) (fun n7 ih t h => ?_) N ([], 0) h
   obtain ⟨y3, y4⟩ := t
   rw [Qea] at h
   skip
   refine wsq ?_
   refine wx tbk [(2, rp [(.tmp 6, (Qrs p0))] (I ((p0.length : Int))))] ⟨alm (c := Qa3) (l := p0) (aln rfl Try.underlying23 rfl), trivial⟩ ?_
   rcases bft ((decide (y4 < (p0.length : Int)))) with hc8 | hc8
   ·replace h := Qaw hc8 h
    refine wft hc8 (by kernel_rfl) ?_
    refine Qap ?_
    refine thn ?_
    refine wsq ?_
    refine Qan ?_
    obtain ⟨x9, hg10, h⟩ := bno h
    obtain ⟨hi11, hj12⟩ := gsm hg10
    obtain ⟨ha13, h⟩ := cko h
    refine wy1 tbk [(3, rp [(.tmp 12, (Qrs p0)), (.tmp 13, I y4)] (.dptr (Qa3 (x9)) 0)), (8, rp [(.tmp 17, (Qrs p0)), (.tmp 18, I y4)] (.dptr (Qa3 (x9)) 0)), (13, rp [(.tmp 22, (Qrs p0)), (.tmp 23, I y4)] (.dptr (Qa3 (x9)) 0)), (18, rp [(.tmp 27, (Qrs p0)), (.tmp 28, I y4)] (.dptr (Qa3 (x9)) 0)), (23, rp [(.tmp 32, (Qrs p0)), (.tmp 33, I y4)] (.dptr (Qa3 (x9)) 0)), (26, rp [(.tmp 16, I x9.T), (.tmp 21, I x9.P), (.tmp 26, I x9.Liquid), (.tmp 31, I x9.Vapour), (.tmp 36, I x9.Silica)] (Q1v x9)), (27, rp [(.tmp 37, (Q1v x9))] (.dat 5 (([x9] : List GRow).map Qa3))), (28, ⟨[(.tmp 11, (Q1w y3)), (.tmp 38, (.dat 5 (([x9] : List GRow).map Qa3)))], [(0, .tok), (1, .unused)], (.acc 1 107 5 ((y3 ++ ([x9]) : List GRow).map Qa3)), [(0, .dead), (1, .tok)], false⟩)] ⟨aid rfl Try.underlying23 Qls rfl rfl hi11 (mgt Qa3 hj12) rfl, aid rfl Try.underlying23 Qls rfl rfl hi11 (mgt Qa3 hj12) rfl, aid rfl Try.underlying23 Qls rfl rfl hi11 (mgt Qa3 hj12) rfl, aid rfl Try.underlying23 Qls rfl rfl hi11 (mgt Qa3 hj12) rfl, aid rfl Try.underlying23 Qls rfl rfl hi11 (mgt Qa3 hj12) rfl, Qa2 (vs := [I x9.T, I x9.P, I x9.Liquid, I x9.Vapour, I x9.Silica]) rfl Q6x Qwr rfl (by rfl) rfl, Qb1 (vs := [(Q1v x9)]) rfl Try.underlying39 Qrv Qwr rfl (by decide) rfl (by decide) (by rfl) (by rfl) (by rfl) rfl, Qgk rfl Try.underlying39 Zfh (Base.acc _ _) rfl rfl (by rfl) (Qij Qa3 ha13) (Qii Qa3 ha13 (by decide)) (Qih Qa3) rfl rfl, trivial⟩ ?_
    refine bln ?_
    refine thn ?_
    refine wx1 tbk [] trivial ?_
    refine thn ?_
    exact arm (mto (n := 41) [(0, (Qrs p0)), (3, (.acc 1 107 5 ((y3 ++ ([x9]) : List GRow).map Qa3))), (4, (I (w64 (y4 + 1))))] [1] [.tok] hφ0 (pc (.rn (.plain _ (nld Qah _))) (pc (.rn (Qbx rfl (Qbo Qah _))) (pc rwl pn))) (qc .tok qn)) (ih (y3 ++ ([x9]), w64 (y4 + 1)) h)
   ·replace h := Qax hc8 h
    refine wfn hc8 (by kernel_rfl) ?_
    refine Qbi ?_
    refine Qay ?_
    refine Qay ?_
    refine Qbh rfl ?_
    refine thn ?_
    exact ⟨(y3), h, (mto (n := 41) [(3, (Q1w y3))] [0] [.tok] hφ0 (pc (.rn (Qbx rfl (Qbo Qah _))) pn) (qc .tok qn))⟩
def Qex (N : Nat) (x13 : GElement) (k21 : (List GElement) × (List GPort) × (List Int) → Option GNet) : Nat → Int → (List GElement) → (List GPort) → (List Int) → Option GNet
  | 0, _, _, _, _ => none
  | n31 + 1, y23, y24, y25, y26 =>
    bif (decide (y23 < (x13.From.length : Int))) then
     (getI x13.From y23).bind fun x33 =>
     chk (decide ((y25.length + ([x33]).length) * 16 ≤ 140737488355328)) <|
     Qex N x13 k21 n31 (w64 (y23 + 1)) y24 (y25 ++ ([x33])) y26
    else
     k21 (y24, y25, y26)
def Qey (N : Nat) (p0 : GNet) (k4 : (List GElement) → Option GNet) : Nat → Int → (List GElement) → Option GNet
  | 0, _, _ => none
  | n9 + 1, y5, y6 =>
    bif (decide (y5 < (p0.Elements.length : Int))) then
     Qbz (fun y11 =>
       Qey N p0 k4 n9 (w64 (y5 + 1)) y11) fun k12 : (List GElement) → Option GNet =>
     (getI p0.Elements y5).bind fun x13 =>
     chk (decide ((([] : List Int).length + x13.Weights.length) * 8 ≤ 140737488355328)) <|
     Qbz (fun ⟨y18, y19, y20⟩ =>
       chk (decide ((y18.length + ([(⟨x13.Kind, y19, x13.Level, x13.Amount, x13.Wide, x13.Narrow, y20⟩ : GElement)]).length) * 88 ≤ 140737488355328)) <|
       k12 (y18 ++ ([(⟨x13.Kind, y19, x13.Level, x13.Amount, x13.Wide, x13.Narrow, y20⟩ : GElement)]))) fun k21 : (List GElement) × (List GPort) × (List Int) → Option GNet =>
     Qex N x13 k21 N 0 y6 ([]) (([] : List Int) ++ x13.Weights)
    else
     k4 (y6)
def Qhr (N : Nat) (p0 : GNet) : Option GNet :=
  (Qi4 N p0.Table).bind fun x2 =>
  Qbz (fun y3 =>
    some (⟨x2, y3⟩ : GNet)) fun k4 : (List GElement) → Option GNet =>
  Qey N p0 k4 N 0 ([])
def Q87 (p0 : GNet) : AV := .dat 5 ((p0.Table : List GRow).map Qa3)
def Qj7 (x2 : (List GRow)) : AV := .dat 5 ((x2 : List GRow).map Qa3)
def Qv3 (y3 : (List GElement)) : AV := .acc 2 76 7 ((y3 : List GElement).map Qac)
def Q86 (p0 : GNet) : AV := .dat 7 ((p0.Elements : List GElement).map Qac)
def Qpn (p0 : GNet) : Slot := .own 2 [[(Q87 p0), (Q86 p0)]]
def Qv4 (y6 : (List GElement)) : AV := .acc 3 76 7 ((y6 : List GElement).map Qac)
def Q1u : AV := .acc 5 3 1 ((([] : List Int) : List Int).map Qaj)
def Q1s (x13 : GElement) : AV := .dat 1 ((x13.Weights : List Int).map Qaj)
def Qoh (x13 : GElement) : AV := .acc 6 3 1 ((([] : List Int) ++ x13.Weights : List Int).map Qaj)
def Q1t (y20 : (List Int)) : AV := .acc 6 3 1 ((y20 : List Int).map Qaj)
def Q1q (x13 : GElement) (y19 : (List GPort)) (y20 : (List Int)) : AV := .dat 7 (([(⟨x13.Kind, y19, x13.Level, x13.Amount, x13.Wide, x13.Narrow, y20⟩ : GElement)] : List GElement).map Qac)
def Q1r (x13 : GElement) (y19 : (List GPort)) (y20 : (List Int)) : AV := .agg [(K .u8 (x13.Kind)), (.dat 2 ((y19 : List GPort).map Qam)), (I (x13.Level)), (I (x13.Amount)), (I (x13.Wide)), (I (x13.Narrow)), (.dat 1 ((y20 : List Int).map Qaj))]
def Qs2 (x13 : GElement) : AV := .dat 2 ((x13.From : List GPort).map Qam)
def Qs1 (x13 : GElement) : Slot := .own 7 [[(K .u8 (x13.Kind)), (Qs2 x13), (I (x13.Level)), (I (x13.Amount)), (I (x13.Wide)), (I (x13.Narrow)), (Q1s x13)]]
def Q84 : AV := .acc 6 57 2 ((([]) : List GPort).map Qam)
def Q85 : AV := .acc 8 57 2 (([] : List GPort).map Qam)
def Qv2 (y24 : (List GElement)) : AV := .acc 5 76 7 ((y24 : List GElement).map Qac)
def Q1p (y26 : (List Int)) : AV := .acc 7 3 1 ((y26 : List Int).map Qaj)
def Q1o (x13 : GElement) (y25 : (List GPort)) (y26 : (List Int)) : Slot := .own 7 [[(K .u8 (x13.Kind)), (.acc 6 57 2 ((y25 : List GPort).map Qam)), (I (x13.Level)), (I (x13.Amount)), (I (x13.Wide)), (I (x13.Narrow)), (Q1p y26)]]
def Qv1 (x33 : GPort) : AV := .agg [(I (x33.Element)), (I (x33.Outlet))]
theorem Qel (N : Nat) (p0 : GNet) (r : GNet) (h : Qhr N p0 = some r) : Spec Try.prog 9 [(.agg (Qia p0))] [] (.agg (Qia r)) [] := by
  refine Qak Try.func9 rfl 0 (nle rfl) (fun X φ0 w0 hφ0 hd0 => ?_)
  unfold Qhr at h
  refine wx tbk [] trivial ?_
  obtain ⟨x2, hf1, h⟩ := bno h
  refine wx tbk [(2, rp [fu 23, (.tmp 9, (Q87 p0))] (Qj7 x2)), (3, rp [(.tmp 10, (Qj7 x2))] (.agg [(Qj7 x2), nilS]))] ⟨apc (first := []) (cap := []) (vs := [(Q87 p0)]) rfl Zc2 (Qqy N p0.Table _ hf1) rfl rfl (nlc (nld Qah _) nl0) (nld Qah _) rfl, Qa2 (vs := [(Qj7 x2)]) rfl ts42 tz42 rfl (by rfl) rfl, trivial⟩ ?_
  obtain ⟨k4, hk_k4, h⟩ := jko h
  refine wjn (τ := (List GElement)) (fun t => k4 t = some r) (fun y3 => ⟨mk 71 [(2, .ref 0 2 0 0), (3, .ref 1 2 0 0)], [(.own 2 [[nilS, nilS]]), (.own 2 [[(Qj7 x2), (Qv3 y3)]]), .tok]⟩) (fun y3 h => ?_) ?_
  ·subst hk_k4
   refine wx tbk [] trivial ?_
   refine Qad ?_
   obtain rfl := osi h
   exact fend ⟨[(.agg [(Qj7 x2), (.dat 7 ((y3 : List GElement).map Qac))])], ⟨Qe9 (v := (.agg [(Qj7 x2), (Qv3 y3)])) (Qch (n := 0) (m := 2) (j := 0) (i := 0) (xs := [[(Qj7 x2), (Qv3 y3)]]) (by kernel_rfl) (by kernel_rfl) ti42 (by decide) rfl (nle rfl) rfl) (Less.agg ⟨lrf, Less.acc, trivial⟩), trivial⟩, rfl⟩ (NLt.agg _ (nlc (nld Qah _) (nlc (nld Qaa _) nl0)))
  ·skip
   refine wx tbk [] trivial ?_
   refine Qan ?_
   refine wmr (Mor.trans (Qp1 (n := 3) (ty := 76) (m := 7) (q := 2) (mq := 2) (c := [(Qj7 x2), nilS]) 1 (by kernel_rfl) (by kernel_rfl) (by kernel_rfl) (by decide)) (mto (n := 71) (l' := [(1, .ref 0 2 0 0), (2, .ref 1 2 0 0), (3, .ref 2 2 0 0), (4, I 0)]) (own' := [(Qpn p0), (.own 2 [[nilS, nilS]]), (.own 2 [[(Qj7 x2), (.acc 3 76 7 ((([]) : List GElement).map Qac))]]), .tok]) [(1, .ref 0 2 0 0), (2, .ref 1 2 0 0), (3, .ref 2 2 0 0), (4, I 0)] [0, 1, 2, 3] [(Qpn p0), (.own 2 [[nilS, nilS]]), (.own 2 [[(Qj7 x2), (.acc 3 76 7 (([] : List GElement).map Qac))]]), .tok] hφ0 (pc (.rn (rqr rfl)) (pc (.rn (rqr rfl)) (pc (.rn (rqr rfl)) (pc rwl pn)))) (qc (spb (lc (.rn (.plain _ (nld Qah _))) (lc (.rn (.plain _ (nld Qaa _))) ln))) (qc (spb (lc rwl (lc rwl ln))) (qc (spb (lc (.rn (.plain _ (nld Qah _))) (lc (.rn (Qbx rfl (Qbo Qaa _))) ln))) (qc .tok qn)))))) ?_
   refine Qby (τ := Int × (List GElement)) (fun n t => Qey N p0 k4 n t.1 t.2 = some r) (fun ⟨y5, y6⟩ => ⟨mk 71 [(1, .ref 0 2 0 0), (2, .ref 1 2 0 0), (3, .ref 2 2 0 0), (4, I y5)], [(Qpn p0), (.own 2 [[nilS, nilS]]), (.own 2 [[(Qj7 x2), (Qv4 y6)]]), .tok]⟩) (fun t h => by rw [Qey] at h; cases h) (fun n9 ih t h => ?_) N (0, []) h
   obtain ⟨y5, y6⟩ := t
   rw [Qey] at h
   skip
   refine wsq ?_
   refine wx tbk [(3, rp [(.tmp 14, (Q86 p0))] (I ((p0.Elements.length : Int))))] ⟨alm (c := Qac) (l := p0.Elements) (aln rfl Try.underlying24 rfl), trivial⟩ ?_
   rcases bft ((decide (y5 < (p0.Elements.length : Int)))) with hc10 | hc10
   ·replace h := Qaw hc10 h
    refine wft hc10 (by kernel_rfl) ?_
    refine Qap ?_
    refine thn ?_
    obtain ⟨k12, hk_k12, h⟩ := jko h
    refine wjn (τ := (List GElement)) (fun t => k12 t = some r) (fun y11 => ⟨mk 71 [(1, .ref 0 2 0 0), (2, .ref 1 2 0 0), (3, .ref 2 2 0 0), (4, I y5)], [(Qpn p0), (.own 2 [[nilS, nilS]]), (.own 2 [[(Qj7 x2), (.acc 3 76 7 ((y11 : List GElement).map Qac))]]), .tok]⟩) (fun y11 h => ?_) ?_
    ·subst hk_k12
     refine wx1 tbk [] trivial ?_
     refine thn ?_
     exact arm (mto (n := 71) [(1, .ref 0 2 0 0), (2, .ref 1 2 0 0), (3, .ref 2 2 0 0), (4, (I (w64 (y5 + 1))))] [0, 1, 2, 3] [(Qpn p0), (.own 2 [[nilS, nilS]]), (.own 2 [[(Qj7 x2), (.acc 3 76 7 ((y11 : List GElement).map Qac))]]), .tok] hφ0 (pc (.rn (rqr rfl)) (pc (.rn (rqr rfl)) (pc (.rn (rqr rfl)) (pc rwl pn)))) (qc (spb (lc (.rn (.plain _ (nld Qah _))) (lc (.rn (.plain _ (nld Qaa _))) ln))) (qc (spb (lc rwl (lc rwl ln))) (qc (spb (lc (.rn (.plain _ (nld Qah _))) (lc (.rn (Qbx rfl (Qbo Qaa _))) ln))) (qc .tok qn))))) (ih (w64 (y5 + 1), y11) h)
    ·skip
     refine Qan ?_
     obtain ⟨x13, hg14, h⟩ := bno h
     obtain ⟨hi15, hj16⟩ := gsm hg14
     refine wx tbk [(3, rp [(.tmp 20, (Q86 p0)), (.tmp 21, I y5)] (.dptr (Qac (x13)) 0))] ⟨aid rfl Try.underlying24 ti70 rfl rfl hi15 (mgt Qac hj16) rfl, trivial⟩ ?_
     obtain ⟨ha17, h⟩ := cko h
     refine wxd tbk [(10, ⟨[], [(5, .unused)], Q1u, [(5, .tok)], false⟩), (13, ⟨[(.tmp 34, Q1u), (.tmp 36, (Q1s x13))], [(5, .tok), (6, .unused)], (Qoh x13), [(5, .dead), (6, .tok)], false⟩), (14, rp [(.tmp 25, (K .u8 (x13.Kind))), (.tmp 27, I x13.Level), (.tmp 29, I x13.Amount), (.tmp 31, I x13.Wide), (.tmp 33, I x13.Narrow), (.tmp 37, (Qoh x13))] (.agg [(K .u8 (x13.Kind)), nilS, I x13.Level, I x13.Amount, I x13.Wide, I x13.Narrow, (Qoh x13)]))] ⟨Qlf rfl Try.underlying27 ti3 tz3, Qgk rfl Try.underlying27 te3 (Base.acc _ _) rfl rfl (Qpz Qaj Qqw _) (Qij Qaj ha17) (Qii Qaj ha17 (by decide)) (Qih Qaj) rfl rfl, Qa2 (vs := [(K .u8 (x13.Kind)), I x13.Level, I x13.Amount, I x13.Wide, I x13.Narrow, (Qoh x13)]) rfl ts76 tz76 rfl (by rfl) rfl, trivial⟩ ?_
     obtain ⟨k21, hk_k21, h⟩ := jko h
     refine wjn (τ := (List GElement) × (List GPort) × (List Int)) (fun t => k21 t = some r) (fun ⟨y18, y19, y20⟩ => ⟨mk 71 [(1, .ref 0 2 0 0), (2, .ref 1 2 0 0), (3, .ref 2 2 0 0), (4, I y5), (6, .ref 3 7 0 0)], [(Qpn p0), (.own 2 [[nilS, nilS]]), (.own 2 [[(Qj7 x2), (.acc 4 76 7 ((y18 : List GElement).map Qac))]]), (.own 7 [[(K .u8 (x13.Kind)), (.acc 5 57 2 ((y19 : List GPort).map Qam)), I x13.Level, I x13.Amount, I x13.Wide, I x13.Narrow, (Q1t y20)]]), .tok, .tok, .tok]⟩) (fun t h => ?_) ?_
     ·subst hk_k21
      obtain ⟨y18, y19, y20⟩ := t
      obtain ⟨ha22, h⟩ := cko h
      refine wx1 tbk [(3, rp [(.tmp 66, (.agg [(K .u8 (x13.Kind)), (.acc 5 57 2 ((y19 : List GPort).map Qam)), I x13.Level, I x13.Amount, I x13.Wide, I x13.Narrow, (Q1t y20)]))] (Q1q x13 y19 y20)), (4, ⟨[(.tmp 65, (.acc 4 76 7 ((y18 : List GElement).map Qac))), (.tmp 67, (Q1q x13 y19 y20))], [(4, .tok), (7, .unused)], (.acc 7 76 7 ((y18 ++ ([(⟨x13.Kind, y19, x13.Level, x13.Amount, x13.Wide, x13.Narrow, y20⟩ : GElement)]) : List GElement).map Qac)), [(4, .dead), (7, .tok)], false⟩)] ⟨awk (rd' := [(.tmp 66, (Q1r x13 y19 y20))]) ⟨rfl, (Less.agg ⟨lrf, Less.acc, lrf, lrf, lrf, lrf, Less.acc, trivial⟩), trivial⟩ (Qb1 (vs := [(Q1r x13 y19 y20)]) rfl Try.underlying40 ti76 tz76 rfl (by decide) rfl (by decide) (by rfl) (by rfl) (by rfl) rfl), Qgk rfl Try.underlying40 te76 (Base.acc _ _) rfl rfl (by rfl) (Qij Qac ha22) (Qii Qac ha22 (by decide)) (Qih Qac) rfl rfl, trivial⟩ ?_
      refine bln ?_
      refine thn ?_
      exact ⟨(y18 ++ ([(⟨x13.Kind, y19, x13.Level, x13.Amount, x13.Wide, x13.Narrow, y20⟩ : GElement)])), h, (mto (n := 71) [(1, .ref 0 2 0 0), (2, .ref 1 2 0 0), (3, .ref 2 2 0 0), (4, I y5)] [0, 1, 2, 7] [(Qpn p0), (.own 2 [[nilS, nilS]]), (.own 2 [[(Qj7 x2), (.acc 7 76 7 ((y18 ++ ([(⟨x13.Kind, y19, x13.Level, x13.Amount, x13.Wide, x13.Narrow, y20⟩ : GElement)]) : List GElement).map Qac))]]), .tok] hφ0 (pc (.rn (rqr rfl)) (pc (.rn (rqr rfl)) (pc (.rn (rqr rfl)) (pc rwl pn)))) (qc (spb (lc (.rn (.plain _ (nld Qah _))) (lc (.rn (.plain _ (nld Qaa _))) ln))) (qc (spb (lc rwl (lc rwl ln))) (qc (spb (lc (.rn (.plain _ (nld Qah _))) (lc (.rn (Qbx rfl (Qbo Qaa _))) ln))) (qc .tok qn)))))⟩
     ·skip
      refine wx tbk [] trivial ?_
      refine Qan ?_
      refine wmr (Mor.trans (Qp1 (n := 8) (ty := 57) (m := 2) (q := 7) (mq := 7) (c := [(K .u8 (x13.Kind)), nilS, I x13.Level, I x13.Amount, I x13.Wide, I x13.Narrow, (Qoh x13)]) 1 (by kernel_rfl) (by kernel_rfl) (by kernel_rfl) (by decide)) (mto (n := 71) (l' := [(1, .ref 0 2 0 0), (2, .ref 1 2 0 0), (3, .ref 2 2 0 0), (4, I y5), (5, .ref 3 7 0 0), (6, .ref 4 7 0 0), (7, I 0)]) (own' := [(Qpn p0), (.own 2 [[nilS, nilS]]), (.own 2 [[(Qj7 x2), (.acc 5 76 7 ((y6 : List GElement).map Qac))]]), (Qs1 x13), (.own 7 [[(K .u8 (x13.Kind)), Q84, I x13.Level, I x13.Amount, I x13.Wide, I x13.Narrow, (.acc 7 3 1 (((([] : List Int) ++ x13.Weights) : List Int).map Qaj))]]), .tok, .tok, .tok]) [(1, .ref 0 2 0 0), (2, .ref 1 2 0 0), (3, .ref 2 2 0 0), (4, I y5), (5, .ref 4 7 0 0), (6, .ref 7 7 0 0), (7, I 0)] [0, 1, 2, 4, 7, 3, 8, 6] [(Qpn p0), (.own 2 [[nilS, nilS]]), (.own 2 [[(Qj7 x2), (Qv4 y6)]]), (Qs1 x13), (.own 7 [[(K .u8 (x13.Kind)), Q85, I x13.Level, I x13.Amount, I x13.Wide, I x13.Narrow, (Qoh x13)]]), .tok, .tok, .tok] hφ0 (pc (.rn (rqr rfl)) (pc (.rn (rqr rfl)) (pc (.rn (rqr rfl)) (pc rwl (pc (.rn (rqr rfl)) (pc (.rn (rqr rfl)) (pc rwl pn))))))) (qc (spb (lc (.rn (.plain _ (nld Qah _))) (lc (.rn (.plain _ (nld Qaa _))) ln))) (qc (spb (lc rwl (lc rwl ln))) (qc (spb (lc (.rn (.plain _ (nld Qah _))) (lc (.rn (Qbx rfl (Qbo Qaa _))) ln))) (qc (spb (lc rwl (lc (.rn (.plain _ (nld Qau _))) (lc rwl (lc rwl (lc rwl (lc rwl (lc (.rn (.plain _ (nld Qab _))) ln)))))))) (qc (spb (lc rwl (lc (.rn (Qbx rfl (Qbo Qau _))) (lc rwl (lc rwl (lc rwl (lc rwl (lc (.rn (Qbx rfl (Qbo Qab _))) ln)))))))) (qc .tok (qc .tok (qc .tok qn)))))))))) ?_
      refine Qby (τ := Int × (List GElement) × (List GPort) × (List Int)) (fun n t => Qex N x13 k21 n t.1 t.2.1 t.2.2.1 t.2.2.2 = some r) (fun ⟨y23, y24, y25, y26⟩ => ⟨mk 71 [(1, .ref 0 2 0 0), (2, .ref 1 2 0 0), (3, .ref 2 2 0 0), (4, I y5), (5, .ref 3 7 0 0), (6, .ref 4 7 0 0), (7, I y23)], [(Qpn p0), (.own 2 [[nilS, nilS]]), (.own 2 [[(Qj7 x2), (Qv2 y24)]]), (Qs1 x13), (Q1o x13 y25 y26), .tok, .tok, .tok]⟩) (fun t h => by rw [Qex] at h; cases h) (fun n31 ih t h => ?_) N (0, y6, [], ([] : List Int) ++ x13.Weights) h
      obtain ⟨y23, y24, y25, y26⟩ := t
      rw [Qex] at h
      skip
      refine wsq ?_
      refine wx tbk [(3, rp [(.tmp 41, (Qs2 x13))] (I ((x13.From.length : Int))))] ⟨alm (c := Qam) (l := x13.From) (aln rfl Try.underlying64 rfl), trivial⟩ ?_
      rcases bft ((decide (y23 < (x13.From.length : Int)))) with hc32 | hc32
      ·replace h := Qaw hc32 h
       refine wft hc32 (by kernel_rfl) ?_
       refine Qap ?_
       refine thn ?_
       refine wsq ?_
       refine Qan ?_
       obtain ⟨x33, hg34, h⟩ := bno h
       obtain ⟨hi35, hj36⟩ := gsm hg34
       obtain ⟨ha37, h⟩ := cko h
       refine wy1 tbk [(5, rp [(.tmp 49, (Qs2 x13)), (.tmp 50, I y23)] (.dptr (Qam (x33)) 0)), (11, rp [(.tmp 55, (Qs2 x13)), (.tmp 56, I y23)] (.dptr (Qam (x33)) 0)), (14, rp [(.tmp 53, I x33.Element), (.tmp 59, I x33.Outlet)] (Qv1 x33)), (15, rp [(.tmp 60, (Qv1 x33))] (.dat 2 (([x33] : List GPort).map Qam))), (16, ⟨[(.tmp 47, (.acc 6 57 2 ((y25 : List GPort).map Qam))), (.tmp 61, (.dat 2 (([x33] : List GPort).map Qam)))], [(6, .tok), (8, .unused)], (.acc 8 57 2 ((y25 ++ ([x33]) : List GPort).map Qam)), [(6, .dead), (8, .tok)], false⟩)] ⟨aid rfl Try.underlying64 ti66 rfl rfl hi35 (mgt Qam hj36) rfl, aid rfl Try.underlying64 ti66 rfl rfl hi35 (mgt Qam hj36) rfl, Qa2 (vs := [I x33.Element, I x33.Outlet]) rfl ts57 tz57 rfl (by rfl) rfl, Qb1 (vs := [(Qv1 x33)]) rfl Try.underlying53 ti57 tz57 rfl (by decide) rfl (by decide) (by rfl) (by rfl) (by rfl) rfl, Qgk rfl Try.underlying53 te57 (Base.acc _ _) rfl rfl (by rfl) (Qij Qam ha37) (Qii Qam ha37 (by decide)) (Qih Qam) rfl rfl, trivial⟩ ?_
       refine bln ?_
       refine thn ?_
       refine wx1 tbk [] trivial ?_
       refine thn ?_
       exact arm (mto (n := 71) [(1, .ref 0 2 0 0), (2, .ref 1 2 0 0), (3, .ref 2 2 0 0), (4, I y5), (5, .ref 3 7 0 0), (6, .ref 4 7 0 0), (7, (I (w64 (y23 + 1))))] [0, 1, 2, 3, 4, 5, 8, 7] [(Qpn p0), (.own 2 [[nilS, nilS]]), (.own 2 [[(Qj7 x2), (Qv2 y24)]]), (Qs1 x13), (.own 7 [[(K .u8 (x13.Kind)), (.acc 8 57 2 ((y25 ++ ([x33]) : List GPort).map Qam)), I x13.Level, I x13.Amount, I x13.Wide, I x13.Narrow, (Q1p y26)]]), .tok, .tok, .tok] hφ0 (pc (.rn (rqr rfl)) (pc (.rn (rqr rfl)) (pc (.rn (rqr rfl)) (pc rwl (pc (.rn (rqr rfl)) (pc (.rn (rqr rfl)) (pc rwl pn))))))) (qc (spb (lc (.rn (.plain _ (nld Qah _))) (lc (.rn (.plain _ (nld Qaa _))) ln))) (qc (spb (lc rwl (lc rwl ln))) (qc (spb (lc (.rn (.plain _ (nld Qah _))) (lc (.rn (Qbx rfl (Qbo Qaa _))) ln))) (qc (spb (lc rwl (lc (.rn (.plain _ (nld Qau _))) (lc rwl (lc rwl (lc rwl (lc rwl (lc (.rn (.plain _ (nld Qab _))) ln)))))))) (qc (spb (lc rwl (lc (.rn (Qbx rfl (Qbo Qau _))) (lc rwl (lc rwl (lc rwl (lc rwl (lc (.rn (Qbx rfl (Qbo Qab _))) ln)))))))) (qc .tok (qc .tok (qc .tok qn))))))))) (ih (w64 (y23 + 1), y24, y25 ++ ([x33]), y26) h)
      ·replace h := Qax hc32 h
       refine wfn hc32 (by kernel_rfl) ?_
       refine Qbi ?_
       refine Qay ?_
       refine Qay ?_
       refine Qbh rfl ?_
       refine thn ?_
       exact ⟨(y24, y25, y26), h, (mto (n := 71) [(1, .ref 0 2 0 0), (2, .ref 1 2 0 0), (3, .ref 2 2 0 0), (4, I y5), (6, .ref 4 7 0 0)] [0, 1, 2, 4, 5, 6, 7] [(Qpn p0), (.own 2 [[nilS, nilS]]), (.own 2 [[(Qj7 x2), (Qv2 y24)]]), (Q1o x13 y25 y26), .tok, .tok, .tok] hφ0 (pc (.rn (rqr rfl)) (pc (.rn (rqr rfl)) (pc (.rn (rqr rfl)) (pc rwl (pc (.rn (rqr rfl)) pn))))) (qc (spb (lc (.rn (.plain _ (nld Qah _))) (lc (.rn (.plain _ (nld Qaa _))) ln))) (qc (spb (lc rwl (lc rwl ln))) (qc (spb (lc (.rn (.plain _ (nld Qah _))) (lc (.rn (Qbx rfl (Qbo Qaa _))) ln))) (qc (spb (lc rwl (lc (.rn (Qbx rfl (Qbo Qau _))) (lc rwl (lc rwl (lc rwl (lc rwl (lc (.rn (Qbx rfl (Qbo Qab _))) ln)))))))) (qc .tok (qc .tok (qc .tok qn))))))))⟩
   ·replace h := Qax hc10 h
    refine wfn hc10 (by kernel_rfl) ?_
    refine Qbi ?_
    refine Qay ?_
    refine Qay ?_
    refine Qbh rfl ?_
    refine thn ?_
    exact ⟨(y6), h, (mto (n := 71) [(2, .ref 1 2 0 0), (3, .ref 2 2 0 0)] [1, 2, 3] [(.own 2 [[nilS, nilS]]), (.own 2 [[(Qj7 x2), (Qv4 y6)]]), .tok] hφ0 (pc (.rn (rqr rfl)) (pc (.rn (rqr rfl)) pn)) (qc (spb (lc rwl (lc rwl ln))) (qc (spb (lc (.rn (.plain _ (nld Qah _))) (lc (.rn (Qbx rfl (Qbo Qaa _))) ln))) (qc .tok qn))))⟩
def Qj3 (_N : Nat) (p0 : (List Int)) : Option (List Int) :=
  chk (decide ((([] : List Int).length + p0.length) * 8 ≤ 140737488355328)) <|
  some (([] : List Int) ++ p0)
def Q8q : AV := .acc 0 3 1 ((([] : List Int) : List Int).map Qaj)
def Q8p (p0 : (List Int)) : AV := .acc 1 3 1 ((([] : List Int) ++ p0 : List Int).map Qaj)
theorem Qr0 (N : Nat) (p0 : (List Int)) (r : (List Int)) (h : Qj3 N p0 = some r) : Spec Try.prog 10 [(.dat 1 (p0.map Qaj))] [] (.dat 1 (r.map Qaj)) [] := by
  refine Qak Try.func10 rfl 0 (nle rfl) (fun X φ0 w0 hφ0 hd0 => ?_)
  unfold Qj3 at h
  refine wx tbk [] trivial ?_
  obtain ⟨ha1, h⟩ := cko h
  refine wx tbk [(0, ⟨[], [(0, .unused)], Q8q, [(0, .tok)], false⟩), (2, ⟨[(.tmp 3, Q8q), (.tmp 4, (.dat 1 ((p0 : List Int).map Qaj)))], [(0, .tok), (1, .unused)], (Q8p p0), [(0, .dead), (1, .tok)], false⟩)] ⟨Qlf rfl Try.underlying27 ti3 tz3, Qgk rfl Try.underlying27 te3 (Base.acc _ _) rfl rfl (Qpz Qaj Qqw _) (Qij Qaj ha1) (Qii Qaj ha1 (by decide)) (Qih Qaj) rfl rfl, trivial⟩ ?_
  refine Qad ?_
  obtain rfl := osi h
  exact fend ⟨[(.dat 1 ((([] : List Int) ++ p0 : List Int).map Qaj))], ⟨Qe9 (v := (Q8p p0)) (rot (by kernel_rfl)) Less.acc, trivial⟩, rfl⟩ (nld Qab _)
def Qez (N : Nat) (p0 : GNet) (k1 : Unit → Option Bool) : Nat → Int → Option Bool
  | 0, _ => none
  | n6 + 1, y4 =>
    bif (decide (y4 < (p0.Elements.length : Int))) then
     (getI p0.Elements y4).bind fun x8 =>
     bif (decide ((x8.From.length : Int) > 25)) then
      some false
     else
      bif (decide ((x8.Weights.length : Int) > 25)) then
       some false
      else
       Qez N p0 k1 n6 (w64 (y4 + 1))
    else
     k1 ()
def Qjl (N : Nat) (p0 : GNet) (p1 : (List GStream)) : Option Bool :=
  Qbz (fun _ =>
    bif (decide ((p0.Elements.length : Int) ≤ 18)) then
     bif (decide ((p0.Table.length : Int) ≤ 25)) then
      some (decide ((p1.length : Int) ≤ 25))
     else
      some false
    else
     some false) fun k1 : Unit → Option Bool =>
  Qez N p0 k1 N 0
def Qqg (p1 : (List GStream)) : AV := .dat 4 ((p1 : List GStream).map Qae)
def Q26 (p0 : GNet) : AV := .dat 5 ((p0.Table : List GRow).map Qa3)
def Qpe (p0 : GNet) : AV := .dat 7 ((p0.Elements : List GElement).map Qac)
def Qsd (p0 : GNet) : Slot := .own 2 [[(Q26 p0), (Qpe p0)]]
theorem Qn7 (N : Nat) (p0 : GNet) (p1 : (List GStream)) (r : Bool) (h : Qjl N p0 p1 = some r) : Spec Try.prog 6 [(.agg (Qia p0)), (.dat 4 (p1.map Qae))] [] (B r) [] := by
  refine Qak Try.func6 rfl 0 (nle rfl) (fun X φ0 w0 hφ0 hd0 => ?_)
  unfold Qjl at h
  refine wx tbk [] trivial ?_
  obtain ⟨k1, hk_k1, h⟩ := jko h
  refine wjn (τ := Unit) (fun t => k1 t = some r) (fun _ => ⟨mk 46 [(1, (Qqg p1)), (2, .ref 0 2 0 0)], [(Qsd p0)]⟩) (fun t h => ?_) ?_
  ·subst hk_k1
   rcases bft ((decide ((p0.Elements.length : Int) ≤ 18))) with hb2 | hb2
   ·replace h := Qaw hb2 h
    rcases bft ((decide ((p0.Table.length : Int) ≤ 25))) with hb3 | hb3
    ·replace h := Qaw hb3 h
     refine wx tbk [(2, rp [(.tmp 32, (Qpe p0))] (I ((p0.Elements.length : Int)))), (4, rp [(.tmp 34, (B ((decide ((p0.Elements.length : Int) ≤ 18)))))] (B true)), (7, rp [(.tmp 35, B true), (.tmp 37, (Q26 p0))] (I ((p0.Table.length : Int)))), (10, rp [(.tmp 40, (B ((decide ((p0.Table.length : Int) ≤ 25)))))] (B true)), (12, rp [(.tmp 41, B true), (.tmp 42, (Qqg p1))] (I ((p1.length : Int))))] ⟨alm (c := Qac) (l := p0.Elements) (aln rfl Try.underlying24 rfl), asb hb2 (amv rfl), ag_ (alm (c := Qa3) (l := p0.Table) (aln rfl Try.underlying23 rfl)), asb hb3 (amv rfl), ag_ (alm (c := Qae) (l := p1) (aln rfl Try.underlying28 rfl)), trivial⟩ ?_
     refine Qad ?_
     obtain rfl := osi h
     exact fend ⟨[(B ((decide ((p1.length : Int) ≤ 25))))], ⟨rot (by kernel_rfl), trivial⟩, rfl⟩ nll
    ·replace h := Qax hb3 h
     refine wx tbk [(2, rp [(.tmp 32, (Qpe p0))] (I ((p0.Elements.length : Int)))), (4, rp [(.tmp 34, (B ((decide ((p0.Elements.length : Int) ≤ 18)))))] (B true)), (7, rp [(.tmp 35, B true), (.tmp 37, (Q26 p0))] (I ((p0.Table.length : Int)))), (10, rp [(.tmp 40, (B ((decide ((p0.Table.length : Int) ≤ 25)))))] (B false))] ⟨alm (c := Qac) (l := p0.Elements) (aln rfl Try.underlying24 rfl), asb hb2 (amv rfl), ag_ (alm (c := Qa3) (l := p0.Table) (aln rfl Try.underlying23 rfl)), asb hb3 (amv rfl), trivial⟩ ?_
     refine Qad ?_
     obtain rfl := osi h
     exact fend ⟨[B false], ⟨rot (by kernel_rfl), trivial⟩, rfl⟩ nll
   ·replace h := Qax hb2 h
    refine wx tbk [(2, rp [(.tmp 32, (Qpe p0))] (I ((p0.Elements.length : Int)))), (4, rp [(.tmp 34, (B ((decide ((p0.Elements.length : Int) ≤ 18)))))] (B false))] ⟨alm (c := Qac) (l := p0.Elements) (aln rfl Try.underlying24 rfl), asb hb2 (amv rfl), trivial⟩ ?_
    refine Qad ?_
    obtain rfl := osi h
    exact fend ⟨[B false], ⟨rot (by kernel_rfl), trivial⟩, rfl⟩ nll
  ·skip
   refine wx tbk [] trivial ?_
   refine Qan ?_
   refine wmr (mto (n := 46) (l' := [(1, (Qqg p1)), (2, .ref 0 2 0 0), (5, I 0)]) (own' := [(Qsd p0)]) [(1, (Qqg p1)), (2, .ref 0 2 0 0), (5, I 0)] [0] [(Qsd p0)] hφ0 (pc (.rn (.plain _ (nld Qai _))) (pc (.rn (rqr rfl)) (pc rwl pn))) (qc (spb (lc (.rn (.plain _ (nld Qah _))) (lc (.rn (.plain _ (nld Qaa _))) ln))) qn)) ?_
   refine Qby (τ := Int) (fun n t => Qez N p0 k1 n t = some r) (fun y4 => ⟨mk 46 [(1, (Qqg p1)), (2, .ref 0 2 0 0), (5, I y4)], [(Qsd p0)]⟩) (fun t h => by rw [Qez] at h; cases h) (fun n6 ih y4 h => ?_) N (0) h
   rw [Qez] at h
   skip
   refine wsq ?_
   refine wx tbk [(3, rp [(.tmp 8, (Qpe p0))] (I ((p0.Elements.length : Int))))] ⟨alm (c := Qac) (l := p0.Elements) (aln rfl Try.underlying24 rfl), trivial⟩ ?_
   rcases bft ((decide (y4 < (p0.Elements.length : Int)))) with hc7 | hc7
   ·replace h := Qaw hc7 h
    refine wft hc7 (by kernel_rfl) ?_
    refine Qap ?_
    refine thn ?_
    refine wsq ?_
    refine Qan ?_
    obtain ⟨x8, hg9, h⟩ := bno h
    obtain ⟨hi10, hj11⟩ := gsm hg9
    rcases bft ((decide ((x8.From.length : Int) > 25))) with hb12 | hb12
    ·replace h := Qaw hb12 h
     refine wx tbk [(3, rp [(.tmp 14, (Qpe p0)), (.tmp 15, I y4)] (.dptr (Qac (x8)) 0)), (6, rp [(.tmp 18, (.dat 2 ((x8.From : List GPort).map Qam)))] (I ((x8.From.length : Int)))), (8, rp [(.tmp 20, (B ((decide ((x8.From.length : Int) > 25)))))] (B true))] ⟨aid rfl Try.underlying24 ti70 rfl rfl hi10 (mgt Qac hj11) rfl, alm (c := Qam) (l := x8.From) (aln rfl Try.underlying64 rfl), asb hb12 (amv rfl), trivial⟩ ?_
     refine Qbk (by kernel_rfl) ?_
     refine wx tbk [] trivial ?_
     refine Qad ?_
     refine Qas ?_
     refine Qaf ?_
     refine Qaf ?_
     refine Qas ?_
     refine Qaf ?_
     obtain rfl := osi h
     exact fend ⟨[B false], ⟨rot (by kernel_rfl), trivial⟩, rfl⟩ nll
    ·replace h := Qax hb12 h
     refine wx tbk [(3, rp [(.tmp 14, (Qpe p0)), (.tmp 15, I y4)] (.dptr (Qac (x8)) 0)), (6, rp [(.tmp 18, (.dat 2 ((x8.From : List GPort).map Qam)))] (I ((x8.From.length : Int)))), (8, rp [(.tmp 20, (B ((decide ((x8.From.length : Int) > 25)))))] (B false)), (12, rp [(.tmp 21, B false), (.tmp 23, (Qpe p0)), (.tmp 24, I y4)] (.dptr (Qac (x8)) 0)), (15, rp [(.tmp 21, B false), (.tmp 27, (.dat 1 ((x8.Weights : List Int).map Qaj)))] (I ((x8.Weights.length : Int))))] ⟨aid rfl Try.underlying24 ti70 rfl rfl hi10 (mgt Qac hj11) rfl, alm (c := Qam) (l := x8.From) (aln rfl Try.underlying64 rfl), asb hb12 (amv rfl), ag_ (aid rfl Try.underlying24 ti70 rfl rfl hi10 (mgt Qac hj11) rfl), ag_ (alm (c := Qaj) (l := x8.Weights) (aln rfl Try.underlying27 rfl)), trivial⟩ ?_
     rcases bft ((decide ((x8.Weights.length : Int) > 25))) with hc13 | hc13
     ·replace h := Qaw hc13 h
      refine wft hc13 (by kernel_rfl) ?_
      refine wx tbk [] trivial ?_
      refine Qad ?_
      refine Qas ?_
      refine Qaf ?_
      refine Qaf ?_
      refine Qas ?_
      refine Qaf ?_
      obtain rfl := osi h
      exact fend ⟨[B false], ⟨rot (by kernel_rfl), trivial⟩, rfl⟩ nll
     ·replace h := Qax hc13 h
      refine wfn hc13 (by kernel_rfl) ?_
      refine Qap ?_
      refine bln ?_
      refine thn ?_
      refine wx1 tbk [] trivial ?_
      refine thn ?_
      exact arm (mto (n := 46) [(1, (Qqg p1)), (2, .ref 0 2 0 0), (5, (I (w64 (y4 + 1))))] [0] [(Qsd p0)] hφ0 (pc (.rn (.plain _ (nld Qai _))) (pc (.rn (rqr rfl)) (pc rwl pn))) (qc (spb (lc (.rn (.plain _ (nld Qah _))) (lc (.rn (.plain _ (nld Qaa _))) ln))) qn)) (ih (w64 (y4 + 1)) h)
   ·replace h := Qax hc7 h
    refine wfn hc7 (by kernel_rfl) ?_
    refine Qbi ?_
    refine Qay ?_
    refine Qay ?_
    refine Qbh rfl ?_
    refine thn ?_
    exact ⟨(), h, (mto (n := 46) [(1, (Qqg p1)), (2, .ref 0 2 0 0)] [0] [(Qsd p0)] hφ0 (pc (.rn (.plain _ (nld Qai _))) (pc (.rn (rqr rfl)) pn)) (qc (spb (lc (.rn (.plain _ (nld Qah _))) (lc (.rn (.plain _ (nld Qaa _))) ln))) qn))⟩
def Qcq (N : Nat) (p0 : (List Int)) (k2 : Int → Option Bool) : Nat → Int → Int → Option Bool
  | 0, _, _ => none
  | n8 + 1, y4, y5 =>
    bif (decide (y5 < (p0.length : Int))) then
     (getI p0 y5).bind fun x10 =>
     (Qer N x10 0 1000).bind fun x15 =>
     bif (!x15) then
      some false
     else
      Qcq N p0 k2 n8 (w64 (y4 + x10)) (w64 (y5 + 1))
    else
     k2 (y4)
def Qfk (N : Nat) (p0 : (List Int)) : Option Bool :=
  Qbz (fun y1 =>
    bif (decide ((p0.length : Int) ≤ 20)) then
     some (decide (y1 > 0))
    else
     some false) fun k2 : Int → Option Bool =>
  Qcq N p0 k2 N 0 0
def Qlq (p0 : (List Int)) : AV := .dat 1 ((p0 : List Int).map Qaj)
theorem Qll (N : Nat) (p0 : (List Int)) (r : Bool) (h : Qfk N p0 = some r) : Spec Try.prog 62 [(.dat 1 (p0.map Qaj))] [] (B r) [] := by
  refine Qak Try.func62 rfl 0 (nle rfl) (fun X φ0 w0 hφ0 hd0 => ?_)
  unfold Qfk at h
  refine wx tbk [] trivial ?_
  refine wx tbk [] trivial ?_
  obtain ⟨k2, hk_k2, h⟩ := jko h
  refine wjn (τ := Int) (fun t => k2 t = some r) (fun y1 => ⟨mk 30 [(0, (Qlq p0)), (3, I y1)], []⟩) (fun y1 h => ?_) ?_
  ·subst hk_k2
   rcases bft ((decide ((p0.length : Int) ≤ 20))) with hb3 | hb3
   ·replace h := Qaw hb3 h
    refine wx tbk [(1, rp [(.tmp 23, (Qlq p0))] (I ((p0.length : Int)))), (3, rp [(.tmp 25, (B ((decide ((p0.length : Int) ≤ 20)))))] (B true))] ⟨alm (c := Qaj) (l := p0) (aln rfl Try.underlying27 rfl), asb hb3 (amv rfl), trivial⟩ ?_
    refine Qad ?_
    obtain rfl := osi h
    exact fend ⟨[(B ((decide (y1 > 0))))], ⟨rot (by kernel_rfl), trivial⟩, rfl⟩ nll
   ·replace h := Qax hb3 h
    refine wx tbk [(1, rp [(.tmp 23, (Qlq p0))] (I ((p0.length : Int)))), (3, rp [(.tmp 25, (B ((decide ((p0.length : Int) ≤ 20)))))] (B false))] ⟨alm (c := Qaj) (l := p0) (aln rfl Try.underlying27 rfl), asb hb3 (amv rfl), trivial⟩ ?_
    refine Qad ?_
    obtain rfl := osi h
    exact fend ⟨[B false], ⟨rot (by kernel_rfl), trivial⟩, rfl⟩ nll
  ·skip
   refine wx tbk [] trivial ?_
   refine Qan ?_
   refine wmr (mto (n := 30) (l' := [(0, (Qlq p0)), (3, I 0), (4, I 0)]) (own' := []) [(0, (Qlq p0)), (3, I 0), (4, I 0)] [] [] hφ0 (pc (.rn (.plain _ (nld Qab _))) (pc rwl (pc rwl pn))) qn) ?_
   refine Qby (τ := Int × Int) (fun n t => Qcq N p0 k2 n t.1 t.2 = some r) (fun ⟨y4, y5⟩ => ⟨mk 30 [(0, (Qlq p0)), (3, I y4), (4, I y5)], []⟩) (fun t h => by rw [Qcq] at h; cases h) (fun n8 ih t h => ?_) N (0, 0) h
   obtain ⟨y4, y5⟩ := t
   rw [Qcq] at h
   skip
   refine wsq ?_
   refine wx tbk [(2, rp [(.tmp 6, (Qlq p0))] (I ((p0.length : Int))))] ⟨alm (c := Qaj) (l := p0) (aln rfl Try.underlying27 rfl), trivial⟩ ?_
   rcases bft ((decide (y5 < (p0.length : Int)))) with hc9 | hc9
   ·replace h := Qaw hc9 h
    refine wft hc9 (by kernel_rfl) ?_
    refine Qap ?_
    refine thn ?_
    refine wsq ?_
    refine Qan ?_
    refine wsq ?_
    obtain ⟨x10, hg11, h⟩ := bno h
    obtain ⟨hi12, hj13⟩ := gsm hg11
    obtain ⟨x15, hf14, h⟩ := bno h
    refine wx tbk [(2, rp [(.tmp 11, (Qlq p0)), (.tmp 12, I y5)] (.dptr (Qaj (x10)) 0)), (4, rp [fu 38, (.tmp 14, I x10), ci 0, ci 1000] (B x15))] ⟨aid rfl Try.underlying27 ti3 rfl rfl hi12 (mgt Qaj hj13) rfl, apc (first := []) (cap := []) (vs := [I x10, I 0, I 1000]) rfl Qdj (Qbc N x10 0 1000 _ hf14) rfl rfl (nlc nll (nlc nll (nlc nll nl0))) nll rfl, trivial⟩ ?_
    rcases bft ((!x15)) with hc16 | hc16
    ·replace h := Qaw hc16 h
     refine wft hc16 (by kernel_rfl) ?_
     refine wx tbk [] trivial ?_
     refine Qad ?_
     refine Qaf ?_
     refine Qas ?_
     refine Qaf ?_
     refine Qaf ?_
     refine Qas ?_
     refine Qaf ?_
     obtain rfl := osi h
     exact fend ⟨[B false], ⟨rot (by kernel_rfl), trivial⟩, rfl⟩ nll
    ·replace h := Qax hc16 h
     refine wfn hc16 (by kernel_rfl) ?_
     refine Qap ?_
     refine thn ?_
     refine wx1 tbk [(3, rp [(.tmp 18, (Qlq p0)), (.tmp 19, I y5)] (.dptr (Qaj (x10)) 0))] ⟨aid rfl Try.underlying27 ti3 rfl rfl hi12 (mgt Qaj hj13) rfl, trivial⟩ ?_
     refine bln ?_
     refine thn ?_
     refine wx1 tbk [] trivial ?_
     refine thn ?_
     exact arm (mto (n := 30) [(0, (Qlq p0)), (3, (I (w64 (y4 + x10)))), (4, (I (w64 (y5 + 1))))] [] [] hφ0 (pc (.rn (.plain _ (nld Qab _))) (pc rwl (pc rwl pn))) qn) (ih (w64 (y4 + x10), w64 (y5 + 1)) h)
   ·replace h := Qax hc9 h
    refine wfn hc9 (by kernel_rfl) ?_
    refine Qbi ?_
    refine Qay ?_
    refine Qay ?_
    refine Qbh rfl ?_
    refine thn ?_
    exact ⟨(y4), h, (mto (n := 30) [(0, (Qlq p0)), (3, I y4)] [] [] hφ0 (pc (.rn (.plain _ (nld Qab _))) (pc rwl pn)) qn)⟩
def Qix (N : Nat) (p0 : GElement) : Option Bool :=
  Qbz (fun _ =>
    Qbz (fun ⟨y2, y3⟩ =>
      Qbz (fun y5 =>
        Qbz (fun y7 =>
          Qbz (fun y9 =>
            Qbz (fun _ =>
              bif (p0.Kind == 5) then
               (Qfk N p0.Weights).bind fun x14 =>
               some x14
              else
               some ((p0.Weights.length : Int) == 0)) fun k11 : Unit → Option Bool =>
            (Qer N (p0.From.length : Int) y2 y5).bind fun x16 =>
            bif (!x16) then
             some false
            else
             (Qer N p0.Amount 0 y9).bind fun x19 =>
             bif (!x19) then
              some false
             else
              k11 ()) fun k10 : Int → Option Bool =>
          bif (p0.Kind == 4) then
           k10 (1000)
          else
           k10 (y7)) fun k8 : Int → Option Bool =>
        bif (p0.Kind == 3) then
         k8 (1000000000)
        else
         k8 (0)) fun k6 : Int → Option Bool =>
      bif (p0.Kind == 2) then
       k6 (6)
      else
       k6 (y3)) fun k4 : Int × Int → Option Bool =>
    bif (p0.Kind == 1) then
     k4 (0, 0)
    else
     k4 (1, 1)) fun k1 : Unit → Option Bool =>
  bif (decide (p0.Kind < 1)) then
   some false
  else
   bif (decide (p0.Kind > 6)) then
    some false
   else
    (Qer N p0.Wide 0 1000000).bind fun x28 =>
    bif (!x28) then
     some false
    else
     (Qer N p0.Narrow 1 1000000000).bind fun x31 =>
     bif (!x31) then
      some false
     else
      k1 ()
def Q25 (p0 : GElement) : AV := .dat 2 ((p0.From : List GPort).map Qam)
def Qy3 (p0 : GElement) : AV := .dat 1 ((p0.Weights : List Int).map Qaj)
def Qjf (p0 : GElement) : Slot := .own 7 [[(K .u8 (p0.Kind)), (Q25 p0), (I (p0.Level)), (I (p0.Amount)), (I (p0.Wide)), (I (p0.Narrow)), (Qy3 p0)]]
theorem Ql0 (N : Nat) (p0 : GElement) (r : Bool) (h : Qix N p0 = some r) : Spec Try.prog 37 [(.agg (Qac p0))] [] (B r) [] := by
  refine Qak Try.func37 rfl 0 (nle rfl) (fun X φ0 w0 hφ0 hd0 => ?_)
  unfold Qix at h
  refine wx tbk [] trivial ?_
  obtain ⟨k1, hk_k1, h⟩ := jko h
  refine wjn (τ := Unit) (fun t => k1 t = some r) (fun _ => ⟨mk 62 [(1, .ref 0 7 0 0)], [(Qjf p0)]⟩) (fun t h => ?_) ?_
  ·subst hk_k1
   refine wx tbk [] trivial ?_
   obtain ⟨k4, hk_k4, h⟩ := jko h
   refine wjn (τ := Int × Int) (fun t => k4 t = some r) (fun ⟨y2, y3⟩ => ⟨mk 62 [(1, .ref 0 7 0 0), (3, I y2), (4, I y3), (5, I 0)], [(Qjf p0)]⟩) (fun t h => ?_) ?_
   ·subst hk_k4
    obtain ⟨y2, y3⟩ := t
    obtain ⟨k6, hk_k6, h⟩ := jko h
    refine wjn (τ := Int) (fun t => k6 t = some r) (fun y5 => ⟨mk 62 [(1, .ref 0 7 0 0), (3, I y2), (4, I y5), (5, I 0)], [(Qjf p0)]⟩) (fun y5 h => ?_) ?_
    ·subst hk_k6
     obtain ⟨k8, hk_k8, h⟩ := jko h
     refine wjn (τ := Int) (fun t => k8 t = some r) (fun y7 => ⟨mk 62 [(1, .ref 0 7 0 0), (3, I y2), (4, I y5), (5, I y7)], [(Qjf p0)]⟩) (fun y7 h => ?_) ?_
     ·subst hk_k8
      obtain ⟨k10, hk_k10, h⟩ := jko h
      refine wjn (τ := Int) (fun t => k10 t = some r) (fun y9 => ⟨mk 62 [(1, .ref 0 7 0 0), (3, I y2), (4, I y5), (5, I y9)], [(Qjf p0)]⟩) (fun y9 h => ?_) ?_
      ·subst hk_k10
       obtain ⟨k11, hk_k11, h⟩ := jko h
       refine wjn (τ := Unit) (fun t => k11 t = some r) (fun _ => ⟨mk 62 [(1, .ref 0 7 0 0)], [(Qjf p0)]⟩) (fun t h => ?_) ?_
       ·subst hk_k11
        refine wsq ?_
        refine wx tbk [] trivial ?_
        rcases bft ((p0.Kind == 5)) with hc12 | hc12
        ·replace h := Qaw hc12 h
         refine wft hc12 (by kernel_rfl) ?_
         obtain ⟨x14, hf13, h⟩ := bno h
         refine wx tbk [(2, rp [fu 62, (.tmp 56, (Qy3 p0))] (B x14))] ⟨apc (first := []) (cap := []) (vs := [(Qy3 p0)]) rfl Zcl (Qll N p0.Weights _ hf13) rfl rfl (nlc (nld Qab _) nl0) nll rfl, trivial⟩ ?_
         refine Qad ?_
         refine Qaf ?_
         obtain rfl := osi h
         exact fend ⟨[B x14], ⟨rot (by kernel_rfl), trivial⟩, rfl⟩ nll
        ·replace h := Qax hc12 h
         refine wfn hc12 (by kernel_rfl) ?_
         refine Qap ?_
         refine thn ?_
         refine wx tbk [(2, rp [(.tmp 59, (Qy3 p0))] (I ((p0.Weights.length : Int))))] ⟨alm (c := Qaj) (l := p0.Weights) (aln rfl Try.underlying27 rfl), trivial⟩ ?_
         refine Qad ?_
         obtain rfl := osi h
         exact fend ⟨[(B (((p0.Weights.length : Int) == 0)))], ⟨rot (by kernel_rfl), trivial⟩, rfl⟩ nll
       ·skip
        obtain ⟨x16, hf15, h⟩ := bno h
        rcases bft ((!x16)) with hb17 | hb17
        ·replace h := Qaw hb17 h
         refine wx tbk [(2, rp [(.tmp 39, (Q25 p0))] (I ((p0.From.length : Int)))), (5, rp [fu 38, (.tmp 40, (I ((p0.From.length : Int)))), (.tmp 41, I y2), (.tmp 42, I y5)] (B x16)), (7, rp [(.tmp 44, (B ((!x16))))] (B true))] ⟨alm (c := Qam) (l := p0.From) (aln rfl Try.underlying64 rfl), apc (first := []) (cap := []) (vs := [(I ((p0.From.length : Int))), I y2, I y5]) rfl Qdj (Qbc N (p0.From.length : Int) y2 y5 _ hf15) rfl rfl (nlc nll (nlc nll (nlc nll nl0))) nll rfl, asb hb17 (amv rfl), trivial⟩ ?_
         refine Qbk (by kernel_rfl) ?_
         refine wx tbk [] trivial ?_
         refine Qad ?_
         refine Qaf ?_
         obtain rfl := osi h
         exact fend ⟨[B false], ⟨rot (by kernel_rfl), trivial⟩, rfl⟩ nll
        ·replace h := Qax hb17 h
         obtain ⟨x19, hf18, h⟩ := bno h
         refine wx tbk [(2, rp [(.tmp 39, (Q25 p0))] (I ((p0.From.length : Int)))), (5, rp [fu 38, (.tmp 40, (I ((p0.From.length : Int)))), (.tmp 41, I y2), (.tmp 42, I y5)] (B x16)), (7, rp [(.tmp 44, (B ((!x16))))] (B false)), (11, rp [(.tmp 45, B false), fu 38, (.tmp 47, I p0.Amount), ci 0, (.tmp 48, I y9)] (B x19))] ⟨alm (c := Qam) (l := p0.From) (aln rfl Try.underlying64 rfl), apc (first := []) (cap := []) (vs := [(I ((p0.From.length : Int))), I y2, I y5]) rfl Qdj (Qbc N (p0.From.length : Int) y2 y5 _ hf15) rfl rfl (nlc nll (nlc nll (nlc nll nl0))) nll rfl, asb hb17 (amv rfl), ag_ (apc (first := []) (cap := []) (vs := [I p0.Amount, I 0, I y9]) rfl Qdj (Qbc N p0.Amount 0 y9 _ hf18) rfl rfl (nlc nll (nlc nll (nlc nll nl0))) nll rfl), trivial⟩ ?_
         rcases bft ((!x19)) with hc20 | hc20
         ·replace h := Qaw hc20 h
          refine wft hc20 (by kernel_rfl) ?_
          refine wx tbk [] trivial ?_
          refine Qad ?_
          refine Qaf ?_
          obtain rfl := osi h
          exact fend ⟨[B false], ⟨rot (by kernel_rfl), trivial⟩, rfl⟩ nll
         ·replace h := Qax hc20 h
          refine wfn hc20 (by kernel_rfl) ?_
          refine Qap ?_
          refine thn ?_
          exact ⟨(), h, (mto (n := 62) [(1, .ref 0 7 0 0)] [0] [(Qjf p0)] hφ0 (pc (.rn (rqr rfl)) pn) (qc (spb (lc rwl (lc (.rn (.plain _ (nld Qau _))) (lc rwl (lc rwl (lc rwl (lc rwl (lc (.rn (.plain _ (nld Qab _))) ln)))))))) qn))⟩
      ·skip
       refine wx tbk [] trivial ?_
       rcases bft ((p0.Kind == 4)) with hc21 | hc21
       ·replace h := Qaw hc21 h
        refine wft hc21 (by kernel_rfl) ?_
        refine wx1 tbk [] trivial ?_
        refine thn ?_
        exact ⟨(1000), h, (mto (n := 62) [(1, .ref 0 7 0 0), (3, I y2), (4, I y5), (5, I 1000)] [0] [(Qjf p0)] hφ0 (pc (.rn (rqr rfl)) (pc rwl (pc rwl (pc rwl pn)))) (qc (spb (lc rwl (lc (.rn (.plain _ (nld Qau _))) (lc rwl (lc rwl (lc rwl (lc rwl (lc (.rn (.plain _ (nld Qab _))) ln)))))))) qn))⟩
       ·replace h := Qax hc21 h
        refine wfn hc21 (by kernel_rfl) ?_
        refine Qap ?_
        refine thn ?_
        exact ⟨(y7), h, (mto (n := 62) [(1, .ref 0 7 0 0), (3, I y2), (4, I y5), (5, I y7)] [0] [(Qjf p0)] hφ0 (pc (.rn (rqr rfl)) (pc rwl (pc rwl (pc rwl pn)))) (qc (spb (lc rwl (lc (.rn (.plain _ (nld Qau _))) (lc rwl (lc rwl (lc rwl (lc rwl (lc (.rn (.plain _ (nld Qab _))) ln)))))))) qn))⟩
     ·skip
      refine wx tbk [] trivial ?_
      rcases bft ((p0.Kind == 3)) with hc22 | hc22
      ·replace h := Qaw hc22 h
       refine wft hc22 (by kernel_rfl) ?_
       refine wx1 tbk [] trivial ?_
       refine thn ?_
       exact ⟨(1000000000), h, (mto (n := 62) [(1, .ref 0 7 0 0), (3, I y2), (4, I y5), (5, I 1000000000)] [0] [(Qjf p0)] hφ0 (pc (.rn (rqr rfl)) (pc rwl (pc rwl (pc rwl pn)))) (qc (spb (lc rwl (lc (.rn (.plain _ (nld Qau _))) (lc rwl (lc rwl (lc rwl (lc rwl (lc (.rn (.plain _ (nld Qab _))) ln)))))))) qn))⟩
      ·replace h := Qax hc22 h
       refine wfn hc22 (by kernel_rfl) ?_
       refine Qap ?_
       refine thn ?_
       exact ⟨(0), h, (mto (n := 62) [(1, .ref 0 7 0 0), (3, I y2), (4, I y5), (5, I 0)] [0] [(Qjf p0)] hφ0 (pc (.rn (rqr rfl)) (pc rwl (pc rwl (pc rwl pn)))) (qc (spb (lc rwl (lc (.rn (.plain _ (nld Qau _))) (lc rwl (lc rwl (lc rwl (lc rwl (lc (.rn (.plain _ (nld Qab _))) ln)))))))) qn))⟩
    ·skip
     refine wx tbk [] trivial ?_
     rcases bft ((p0.Kind == 2)) with hc23 | hc23
     ·replace h := Qaw hc23 h
      refine wft hc23 (by kernel_rfl) ?_
      refine wx1 tbk [] trivial ?_
      refine thn ?_
      exact ⟨(6), h, (mto (n := 62) [(1, .ref 0 7 0 0), (3, I y2), (4, I 6), (5, I 0)] [0] [(Qjf p0)] hφ0 (pc (.rn (rqr rfl)) (pc rwl (pc rwl (pc rwl pn)))) (qc (spb (lc rwl (lc (.rn (.plain _ (nld Qau _))) (lc rwl (lc rwl (lc rwl (lc rwl (lc (.rn (.plain _ (nld Qab _))) ln)))))))) qn))⟩
     ·replace h := Qax hc23 h
      refine wfn hc23 (by kernel_rfl) ?_
      refine Qap ?_
      refine thn ?_
      exact ⟨(y3), h, (mto (n := 62) [(1, .ref 0 7 0 0), (3, I y2), (4, I y3), (5, I 0)] [0] [(Qjf p0)] hφ0 (pc (.rn (rqr rfl)) (pc rwl (pc rwl (pc rwl pn)))) (qc (spb (lc rwl (lc (.rn (.plain _ (nld Qau _))) (lc rwl (lc rwl (lc rwl (lc rwl (lc (.rn (.plain _ (nld Qab _))) ln)))))))) qn))⟩
   ·skip
    refine wx tbk [] trivial ?_
    rcases bft ((p0.Kind == 1)) with hc24 | hc24
    ·replace h := Qaw hc24 h
     refine wft hc24 (by kernel_rfl) ?_
     refine wx1 tbk [] trivial ?_
     refine thn ?_
     exact ⟨(0, 0), h, (mto (n := 62) [(1, .ref 0 7 0 0), (3, I 0), (4, I 0), (5, I 0)] [0] [(Qjf p0)] hφ0 (pc (.rn (rqr rfl)) (pc rwl (pc rwl (pc rwl pn)))) (qc (spb (lc rwl (lc (.rn (.plain _ (nld Qau _))) (lc rwl (lc rwl (lc rwl (lc rwl (lc (.rn (.plain _ (nld Qab _))) ln)))))))) qn))⟩
    ·replace h := Qax hc24 h
     refine wfn hc24 (by kernel_rfl) ?_
     refine Qap ?_
     refine thn ?_
     exact ⟨(1, 1), h, (mto (n := 62) [(1, .ref 0 7 0 0), (3, I 1), (4, I 1), (5, I 0)] [0] [(Qjf p0)] hφ0 (pc (.rn (rqr rfl)) (pc rwl (pc rwl (pc rwl pn)))) (qc (spb (lc rwl (lc (.rn (.plain _ (nld Qau _))) (lc rwl (lc rwl (lc rwl (lc rwl (lc (.rn (.plain _ (nld Qab _))) ln)))))))) qn))⟩
  ·skip
   rcases bft ((decide (p0.Kind < 1))) with hb25 | hb25
   ·replace h := Qaw hb25 h
    refine wx tbk [(3, rp [(.tmp 8, (B ((decide (p0.Kind < 1)))))] (B true))] ⟨asb hb25 (amv rfl), trivial⟩ ?_
    refine Qbk (by kernel_rfl) ?_
    refine wx tbk [] trivial ?_
    refine Qad ?_
    refine Qaf ?_
    obtain rfl := osi h
    exact fend ⟨[B false], ⟨rot (by kernel_rfl), trivial⟩, rfl⟩ nll
   ·replace h := Qax hb25 h
    rcases bft ((decide (p0.Kind > 6))) with hb26 | hb26
    ·replace h := Qaw hb26 h
     refine wx tbk [(3, rp [(.tmp 8, (B ((decide (p0.Kind < 1)))))] (B false)), (8, rp [(.tmp 13, (B ((decide (p0.Kind > 6)))))] (B true))] ⟨asb hb25 (amv rfl), asb hb26 (amv rfl), trivial⟩ ?_
     refine Qbk (by kernel_rfl) ?_
     refine wx tbk [] trivial ?_
     refine Qad ?_
     refine Qaf ?_
     obtain rfl := osi h
     exact fend ⟨[B false], ⟨rot (by kernel_rfl), trivial⟩, rfl⟩ nll
    ·replace h := Qax hb26 h
     obtain ⟨x28, hf27, h⟩ := bno h
     rcases bft ((!x28)) with hb29 | hb29
     ·replace h := Qaw hb29 h
      refine wx tbk [(3, rp [(.tmp 8, (B ((decide (p0.Kind < 1)))))] (B false)), (8, rp [(.tmp 13, (B ((decide (p0.Kind > 6)))))] (B false)), (11, rp [(.tmp 14, B false), fu 38, (.tmp 16, I p0.Wide), ci 0, ci 1000000] (B x28)), (14, rp [(.tmp 19, (B ((!x28))))] (B true))] ⟨asb hb25 (amv rfl), asb hb26 (amv rfl), ag_ (apc (first := []) (cap := []) (vs := [I p0.Wide, I 0, I 1000000]) rfl Qdj (Qbc N p0.Wide 0 1000000 _ hf27) rfl rfl (nlc nll (nlc nll (nlc nll nl0))) nll rfl), asb hb29 (amv rfl), trivial⟩ ?_
      refine Qbk (by kernel_rfl) ?_
      refine wx tbk [] trivial ?_
      refine Qad ?_
      refine Qaf ?_
      obtain rfl := osi h
      exact fend ⟨[B false], ⟨rot (by kernel_rfl), trivial⟩, rfl⟩ nll
     ·replace h := Qax hb29 h
      obtain ⟨x31, hf30, h⟩ := bno h
      refine wx tbk [(3, rp [(.tmp 8, (B ((decide (p0.Kind < 1)))))] (B false)), (8, rp [(.tmp 13, (B ((decide (p0.Kind > 6)))))] (B false)), (11, rp [(.tmp 14, B false), fu 38, (.tmp 16, I p0.Wide), ci 0, ci 1000000] (B x28)), (14, rp [(.tmp 19, (B ((!x28))))] (B false)), (17, rp [(.tmp 20, B false), fu 38, (.tmp 22, I p0.Narrow), ci 1, ci 1000000000] (B x31))] ⟨asb hb25 (amv rfl), asb hb26 (amv rfl), ag_ (apc (first := []) (cap := []) (vs := [I p0.Wide, I 0, I 1000000]) rfl Qdj (Qbc N p0.Wide 0 1000000 _ hf27) rfl rfl (nlc nll (nlc nll (nlc nll nl0))) nll rfl), asb hb29 (amv rfl), ag_ (apc (first := []) (cap := []) (vs := [I p0.Narrow, I 1, I 1000000000]) rfl Qdj (Qbc N p0.Narrow 1 1000000000 _ hf30) rfl rfl (nlc nll (nlc nll (nlc nll nl0))) nll rfl), trivial⟩ ?_
      rcases bft ((!x31)) with hc32 | hc32
      ·replace h := Qaw hc32 h
       refine wft hc32 (by kernel_rfl) ?_
       refine wx tbk [] trivial ?_
       refine Qad ?_
       refine Qaf ?_
       obtain rfl := osi h
       exact fend ⟨[B false], ⟨rot (by kernel_rfl), trivial⟩, rfl⟩ nll
      ·replace h := Qax hc32 h
       refine wfn hc32 (by kernel_rfl) ?_
       refine Qap ?_
       refine thn ?_
       exact ⟨(), h, (mto (n := 62) [(1, .ref 0 7 0 0)] [0] [(Qjf p0)] hφ0 (pc (.rn (rqr rfl)) pn) (qc (spb (lc rwl (lc (.rn (.plain _ (nld Qau _))) (lc rwl (lc rwl (lc rwl (lc rwl (lc (.rn (.plain _ (nld Qab _))) ln)))))))) qn))⟩
def Qgu (_N : Nat) (p0 : GElement) : Option Int :=
  bif (p0.Kind == 4) then
   some 2
  else
   bif (p0.Kind == 5) then
    (some (p0.Weights.length : Int)).bind fun x3 =>
    some x3
   else
    some 1
def Zd9 (p0 : GElement) : AV := .dat 1 ((p0.Weights : List Int).map Qaj)
theorem Qha (N : Nat) (p0 : GElement) (r : Int) (h : Qgu N p0 = some r) : Spec Try.prog 39 [(.agg (Qac p0))] [] (I r) [] := by
  refine Qak Try.func39 rfl 0 (nle rfl) (fun X φ0 w0 hφ0 hd0 => ?_)
  unfold Qgu at h
  refine wx tbk [] trivial ?_
  refine wsq ?_
  refine wx tbk [] trivial ?_
  rcases bft ((p0.Kind == 4)) with hc1 | hc1
  ·replace h := Qaw hc1 h
   refine wft hc1 (by kernel_rfl) ?_
   refine wx tbk [] trivial ?_
   refine Qad ?_
   refine Qaf ?_
   obtain rfl := osi h
   exact fend ⟨[I 2], ⟨rot (by kernel_rfl), trivial⟩, rfl⟩ nll
  ·replace h := Qax hc1 h
   refine wfn hc1 (by kernel_rfl) ?_
   refine Qap ?_
   refine thn ?_
   refine wsq ?_
   refine wx tbk [] trivial ?_
   rcases bft ((p0.Kind == 5)) with hc2 | hc2
   ·replace h := Qaw hc2 h
    refine wft hc2 (by kernel_rfl) ?_
    obtain ⟨x3, hl4, h⟩ := bno h
    refine wx tbk [(2, rp [(.tmp 10, (Zd9 p0))] (I ((p0.Weights.length : Int)))), (3, rp [(.tmp 11, (I ((p0.Weights.length : Int))))] (I x3))] ⟨alm (c := Qaj) (l := p0.Weights) (aln rfl Try.underlying27 rfl), Qgj hl4 (aas rfl), trivial⟩ ?_
    refine Qad ?_
    refine Qaf ?_
    obtain rfl := osi h
    exact fend ⟨[I x3], ⟨rot (by kernel_rfl), trivial⟩, rfl⟩ nll
   ·replace h := Qax hc2 h
    refine wfn hc2 (by kernel_rfl) ?_
    refine Qap ?_
    refine thn ?_
    refine wx tbk [] trivial ?_
    refine Qad ?_
    obtain rfl := osi h
    exact fend ⟨[I 1], ⟨rot (by kernel_rfl), trivial⟩, rfl⟩ nll
def Qd5 (N : Nat) (p0 : (List GPort)) (k1 : Unit → Option Bool) (p1 : GPort) : Nat → Int → Option Bool
  | 0, _ => none
  | n4 + 1, y2 =>
    bif (decide (y2 < (p0.length : Int))) then
     (getI p0 y2).bind fun x6 =>
     bif (([x6.Element, x6.Outlet] : List Int) == [p1.Element, p1.Outlet]) then
      some true
     else
      Qd5 N p0 k1 p1 n4 (w64 (y2 + 1))
    else
     k1 ()
def Qhp (N : Nat) (p0 : (List GPort)) (p1 : GPort) : Option Bool :=
  Qbz (fun _ =>
    some false) fun k1 : Unit → Option Bool =>
  Qd5 N p0 k1 p1 N 0
def Qsc (p0 : (List GPort)) : AV := .dat 2 ((p0 : List GPort).map Qam)
def Qy2 (p1 : GPort) : Slot := .own 2 [[(I (p1.Element)), (I (p1.Outlet))]]
theorem Qlz (N : Nat) (p0 : (List GPort)) (p1 : GPort) (r : Bool) (h : Qhp N p0 p1 = some r) : Spec Try.prog 40 [(.dat 2 (p0.map Qam)), (.agg (Qam p1))] [] (B r) [] := by
  refine Qak Try.func40 rfl 0 (nle rfl) (fun X φ0 w0 hφ0 hd0 => ?_)
  unfold Qhp at h
  refine wx tbk [] trivial ?_
  obtain ⟨k1, hk_k1, h⟩ := jko h
  refine wjn (τ := Unit) (fun t => k1 t = some r) (fun _ => ⟨mk 18 [], []⟩) (fun t h => ?_) ?_
  ·subst hk_k1
   refine wx tbk [] trivial ?_
   refine Qad ?_
   obtain rfl := osi h
   exact fend ⟨[B false], ⟨rot (by kernel_rfl), trivial⟩, rfl⟩ nll
  ·skip
   refine wx tbk [] trivial ?_
   refine Qan ?_
   refine wmr (mto (n := 18) (l' := [(0, (Qsc p0)), (3, .ref 0 2 0 0), (5, I 0)]) (own' := [(Qy2 p1)]) [(0, (Qsc p0)), (3, .ref 0 2 0 0), (5, I 0)] [0] [(Qy2 p1)] hφ0 (pc (.rn (.plain _ (nld Qau _))) (pc (.rn (rqr rfl)) (pc rwl pn))) (qc (spb (lc rwl (lc rwl ln))) qn)) ?_
   refine Qby (τ := Int) (fun n t => Qd5 N p0 k1 p1 n t = some r) (fun y2 => ⟨mk 18 [(0, (Qsc p0)), (3, .ref 0 2 0 0), (5, I y2)], [(Qy2 p1)]⟩) (fun t h => by rw [Qd5] at h; cases h) (fun n4 ih y2 h => ?_) N (0) h
   rw [Qd5] at h
   skip
   refine wsq ?_
   refine wx tbk [(2, rp [(.tmp 7, (Qsc p0))] (I ((p0.length : Int))))] ⟨alm (c := Qam) (l := p0) (aln rfl Try.underlying64 rfl), trivial⟩ ?_
   rcases bft ((decide (y2 < (p0.length : Int)))) with hc5 | hc5
   ·replace h := Qaw hc5 h
    refine wft hc5 (by kernel_rfl) ?_
    refine Qap ?_
    refine thn ?_
    refine wsq ?_
    refine Qan ?_
    obtain ⟨x6, hg7, h⟩ := bno h
    obtain ⟨hi8, hj9⟩ := gsm hg7
    refine wxd tbk [(2, rp [(.tmp 12, (Qsc p0)), (.tmp 13, I y2)] (.dptr (Qam (x6)) 0)), (5, rp [(.tmp 15, (.agg [I x6.Element, I x6.Outlet])), (.tmp 16, (.agg [I p1.Element, I p1.Outlet]))] (B ((([x6.Element, x6.Outlet] : List Int) == [p1.Element, p1.Outlet]))))] ⟨aid rfl Try.underlying64 ti66 rfl rfl hi8 (mgt Qam hj9) rfl, Qe4 (ls := [x6.Element, x6.Outlet]) (ks := [p1.Element, p1.Outlet]) rfl rfl Zfs (by kernel_rfl) rfl rfl, trivial⟩ ?_
    rcases bft ((([x6.Element, x6.Outlet] : List Int) == [p1.Element, p1.Outlet])) with hc10 | hc10
    ·replace h := Qaw hc10 h
     refine wft hc10 (by kernel_rfl) ?_
     refine wx tbk [] trivial ?_
     refine Qad ?_
     refine Qas ?_
     refine Qaf ?_
     refine Qaf ?_
     refine Qas ?_
     refine Qaf ?_
     obtain rfl := osi h
     exact fend ⟨[B true], ⟨rot (by kernel_rfl), trivial⟩, rfl⟩ nll
    ·replace h := Qax hc10 h
     refine wfn hc10 (by kernel_rfl) ?_
     refine Qap ?_
     refine bln ?_
     refine thn ?_
     refine wx1 tbk [] trivial ?_
     refine thn ?_
     exact arm (mto (n := 18) [(0, (Qsc p0)), (3, .ref 0 2 0 0), (5, (I (w64 (y2 + 1))))] [0] [(Qy2 p1)] hφ0 (pc (.rn (.plain _ (nld Qau _))) (pc (.rn (rqr rfl)) (pc rwl pn))) (qc (spb (lc rwl (lc rwl ln))) qn)) (ih (w64 (y2 + 1)) h)
   ·replace h := Qax hc5 h
    refine wfn hc5 (by kernel_rfl) ?_
    refine Qbi ?_
    refine Qay ?_
    refine Qay ?_
    refine Qbh rfl ?_
    refine thn ?_
    exact ⟨(), h, (mto (n := 18) [] [] [] hφ0 pn qn)⟩
def Qd6 (N : Nat) (p0 : GNet) (y4 : Int) (k10 : (List GPort) → Option Bool) (x11 : GElement) : Nat → (List GPort) → Int → Option Bool
  | 0, _, _ => none
  | n21 + 1, y17, y18 =>
    bif (decide (y18 < (x11.From.length : Int))) then
     (getI x11.From y18).bind fun x23 =>
     (Qer N x23.Element 0 (w64 (y4 - 1))).bind fun x28 =>
     bif (!x28) then
      some false
     else
      (getI p0.Elements x23.Element).bind fun x30 =>
      (Qgu N x30).bind fun x35 =>
      (Qer N x23.Outlet 0 (w64 (x35 - 1))).bind fun x37 =>
      bif (!x37) then
       some false
      else
       bif (decide (x11.Level > x30.Level)) then
        some false
       else
        (Qhp N y17 x23).bind fun x41 =>
        bif x41 then
         some false
        else
         chk (decide ((y17.length + ([x23]).length) * 16 ≤ 140737488355328)) <|
         Qd6 N p0 y4 k10 x11 n21 (y17 ++ ([x23])) (w64 (y18 + 1))
    else
     k10 (y17)
def Qdl (N : Nat) (p0 : GNet) (k2 : Unit → Option Bool) : Nat → (List GPort) → Int → Option Bool
  | 0, _, _ => none
  | n7 + 1, y3, y4 =>
    bif (decide (y4 < (p0.Elements.length : Int))) then
     Qbz (fun y9 =>
       Qdl N p0 k2 n7 y9 (w64 (y4 + 1))) fun k10 : (List GPort) → Option Bool =>
     (getI p0.Elements y4).bind fun x11 =>
     Qbz (fun y15 =>
       Qd6 N p0 y4 k10 x11 N y15 0) fun k16 : (List GPort) → Option Bool =>
     (Qix N x11).bind fun x45 =>
     bif (!x45) then
      some false
     else
      (Qer N x11.Level 0 (w64 ((p0.Table.length : Int) - 1))).bind fun x48 =>
      bif (!x48) then
       some false
      else
       k16 (y3)
    else
     k2 ()
def Qiz (N : Nat) (p0 : GNet) : Option Bool :=
  Qbz (fun _ =>
    Qbz (fun _ =>
      some true) fun k2 : Unit → Option Bool =>
    Qdl N p0 k2 N ([]) 0) fun k1 : Unit → Option Bool =>
  (Qi0 N p0.Table).bind fun x51 =>
  bif (!x51) then
   some false
  else
   bif (decide ((p0.Elements.length : Int) < 1)) then
    some false
   else
    bif (decide ((p0.Elements.length : Int) > 16)) then
     some false
    else
     k1 ()
def Qpd (p0 : GNet) : AV := .dat 5 ((p0.Table : List GRow).map Qa3)
def Qlr (p0 : GNet) : AV := .dat 7 ((p0.Elements : List GElement).map Qac)
def Qka (p0 : GNet) : Slot := .own 2 [[(Qpd p0), (Qlr p0)]]
def Qs9 (y15 : (List GPort)) : AV := .acc 1 66 2 ((y15 : List GPort).map Qam)
def Qpw (x11 : GElement) : AV := .dat 2 ((x11.From : List GPort).map Qam)
def Qmb (x11 : GElement) : Slot := .own 7 [[(K .u8 (x11.Kind)), (Qpw x11), (I (x11.Level)), (I (x11.Amount)), (I (x11.Wide)), (I (x11.Narrow)), (.dat 1 ((x11.Weights : List Int).map Qaj))]]
def Qpu (y17 : (List GPort)) : AV := .acc 1 66 2 ((y17 : List GPort).map Qam)
def Qma (x30 : GElement) : AV := .agg [(K .u8 (x30.Kind)), (.dat 2 ((x30.From : List GPort).map Qam)), (I (x30.Level)), (I (x30.Amount)), (I (x30.Wide)), (I (x30.Narrow)), (.dat 1 ((x30.Weights : List Int).map Qaj))]
def Qnp (x23 : GPort) : AV := .agg [(I (x23.Element)), (I (x23.Outlet))]
def Qpv (x11 : GElement) : AV := .agg [(K .u8 (x11.Kind)), (Qpw x11), (I (x11.Level)), (I (x11.Amount)), (I (x11.Wide)), (I (x11.Narrow)), (.dat 1 ((x11.Weights : List Int).map Qaj))]
theorem Qqo (N : Nat) (p0 : GNet) (r : Bool) (h : Qiz N p0 = some r) : Spec Try.prog 16 [(.agg (Qia p0))] [] (B r) [] := by
  refine Qak Try.func16 rfl 0 (nle rfl) (fun X φ0 w0 hφ0 hd0 => ?_)
  unfold Qiz at h
  refine wx tbk [] trivial ?_
  obtain ⟨k1, hk_k1, h⟩ := jko h
  refine wjn (τ := Unit) (fun t => k1 t = some r) (fun _ => ⟨mk 102 [(1, .ref 0 2 0 0)], [(Qka p0)]⟩) (fun t h => ?_) ?_
  ·subst hk_k1
   refine wx tbk [] trivial ?_
   obtain ⟨k2, hk_k2, h⟩ := jko h
   refine wjn (τ := Unit) (fun t => k2 t = some r) (fun _ => ⟨mk 102 [], []⟩) (fun t h => ?_) ?_
   ·subst hk_k2
    refine wx tbk [] trivial ?_
    refine Qad ?_
    obtain rfl := osi h
    exact fend ⟨[B true], ⟨rot (by kernel_rfl), trivial⟩, rfl⟩ nll
   ·skip
    refine wx tbk [] trivial ?_
    refine Qan ?_
    refine wmr (Mor.trans (Qnc 1 66 2 3 (by kernel_rfl) (by kernel_rfl)) (mto (n := 102) (l' := [(1, .ref 0 2 0 0), (3, (.acc 1 66 2 ((([]) : List GPort).map Qam))), (4, I 0)]) (own' := [(Qka p0), .tok]) [(1, .ref 0 2 0 0), (3, (.acc 1 66 2 (([] : List GPort).map Qam))), (4, I 0)] [0, 1] [(Qka p0), .tok] hφ0 (pc (.rn (rqr rfl)) (pc (.rn (Qbx rfl (Qbo Qau _))) (pc rwl pn))) (qc (spb (lc (.rn (.plain _ (nld Qah _))) (lc (.rn (.plain _ (nld Qaa _))) ln))) (qc .tok qn)))) ?_
    refine Qby (τ := (List GPort) × Int) (fun n t => Qdl N p0 k2 n t.1 t.2 = some r) (fun ⟨y3, y4⟩ => ⟨mk 102 [(1, .ref 0 2 0 0), (3, (.acc 1 66 2 ((y3 : List GPort).map Qam))), (4, I y4)], [(Qka p0), .tok]⟩) (fun t h => by rw [Qdl] at h; cases h) (fun n7 ih t h => ?_) N ([], 0) h
    obtain ⟨y3, y4⟩ := t
    rw [Qdl] at h
    skip
    refine wsq ?_
    refine wx tbk [(3, rp [(.tmp 26, (Qlr p0))] (I ((p0.Elements.length : Int))))] ⟨alm (c := Qac) (l := p0.Elements) (aln rfl Try.underlying24 rfl), trivial⟩ ?_
    rcases bft ((decide (y4 < (p0.Elements.length : Int)))) with hc8 | hc8
    ·replace h := Qaw hc8 h
     refine wft hc8 (by kernel_rfl) ?_
     refine Qap ?_
     refine thn ?_
     obtain ⟨k10, hk_k10, h⟩ := jko h
     refine wjn (τ := (List GPort)) (fun t => k10 t = some r) (fun y9 => ⟨mk 102 [(1, .ref 0 2 0 0), (3, (.acc 1 66 2 ((y9 : List GPort).map Qam))), (4, I y4)], [(Qka p0), .tok]⟩) (fun y9 h => ?_) ?_
     ·subst hk_k10
      refine wx1 tbk [] trivial ?_
      refine thn ?_
      exact arm (mto (n := 102) [(1, .ref 0 2 0 0), (3, (.acc 1 66 2 ((y9 : List GPort).map Qam))), (4, (I (w64 (y4 + 1))))] [0, 1] [(Qka p0), .tok] hφ0 (pc (.rn (rqr rfl)) (pc (.rn (Qbx rfl (Qbo Qau _))) (pc rwl pn))) (qc (spb (lc (.rn (.plain _ (nld Qah _))) (lc (.rn (.plain _ (nld Qaa _))) ln))) (qc .tok qn))) (ih (y9, w64 (y4 + 1)) h)
     ·skip
      refine Qan ?_
      obtain ⟨x11, hg12, h⟩ := bno h
      obtain ⟨hi13, hj14⟩ := gsm hg12
      refine wx tbk [(3, rp [(.tmp 32, (Qlr p0)), (.tmp 33, I y4)] (.dptr (Qac (x11)) 0))] ⟨aid rfl Try.underlying24 ti70 rfl rfl hi13 (mgt Qac hj14) rfl, trivial⟩ ?_
      obtain ⟨k16, hk_k16, h⟩ := jko h
      refine wjn (τ := (List GPort)) (fun t => k16 t = some r) (fun y15 => ⟨mk 102 [(1, .ref 0 2 0 0), (3, (Qs9 y15)), (4, I y4), (5, .ref 2 7 0 0)], [(Qka p0), .tok, (Qmb x11)]⟩) (fun y15 h => ?_) ?_
      ·subst hk_k16
       refine wx tbk [] trivial ?_
       refine Qan ?_
       refine wmr (mto (n := 102) (l' := [(1, .ref 0 2 0 0), (3, (Qs9 y15)), (4, I y4), (5, .ref 2 7 0 0), (6, I 0)]) (own' := [(Qka p0), .tok, (Qmb x11)]) [(1, .ref 0 2 0 0), (3, (Qs9 y15)), (4, I y4), (5, .ref 2 7 0 0), (6, I 0)] [0, 1, 2] [(Qka p0), .tok, (Qmb x11)] hφ0 (pc (.rn (rqr rfl)) (pc (.rn (Qbx rfl (Qbo Qau _))) (pc rwl (pc (.rn (rqr rfl)) (pc rwl pn))))) (qc (spb (lc (.rn (.plain _ (nld Qah _))) (lc (.rn (.plain _ (nld Qaa _))) ln))) (qc .tok (qc (spb (lc rwl (lc (.rn (.plain _ (nld Qau _))) (lc rwl (lc rwl (lc rwl (lc rwl (lc (.rn (.plain _ (nld Qab _))) ln)))))))) qn)))) ?_
       refine Qby (τ := (List GPort) × Int) (fun n t => Qd6 N p0 y4 k10 x11 n t.1 t.2 = some r) (fun ⟨y17, y18⟩ => ⟨mk 102 [(1, .ref 0 2 0 0), (3, (Qpu y17)), (4, I y4), (5, .ref 2 7 0 0), (6, I y18)], [(Qka p0), .tok, (Qmb x11)]⟩) (fun t h => by rw [Qd6] at h; cases h) (fun n21 ih t h => ?_) N (y15, 0) h
       obtain ⟨y17, y18⟩ := t
       rw [Qd6] at h
       skip
       refine wsq ?_
       refine wx tbk [(3, rp [(.tmp 51, (Qpw x11))] (I ((x11.From.length : Int))))] ⟨alm (c := Qam) (l := x11.From) (aln rfl Try.underlying64 rfl), trivial⟩ ?_
       rcases bft ((decide (y18 < (x11.From.length : Int)))) with hc22 | hc22
       ·replace h := Qaw hc22 h
        refine wft hc22 (by kernel_rfl) ?_
        refine Qap ?_
        refine thn ?_
        refine wsq ?_
        refine Qan ?_
        obtain ⟨x23, hg24, h⟩ := bno h
        obtain ⟨hi25, hj26⟩ := gsm hg24
        refine wx tbk [(3, rp [(.tmp 57, (Qpw x11)), (.tmp 58, I y18)] (.dptr (Qam (x23)) 0))] ⟨aid rfl Try.underlying64 ti66 rfl rfl hi25 (mgt Qam hj26) rfl, trivial⟩ ?_
        refine wsq ?_
        obtain ⟨x28, hf27, h⟩ := bno h
        rcases bft ((!x28)) with hb29 | hb29
        ·replace h := Qaw hb29 h
         refine wxd tbk [(4, rp [fu 38, (.tmp 62, I x23.Element), ci 0, (.tmp 64, (I (w64 (y4 - 1))))] (B x28)), (6, rp [(.tmp 66, (B ((!x28))))] (B true))] ⟨apc (first := []) (cap := []) (vs := [I x23.Element, I 0, (I (w64 (y4 - 1)))]) rfl Qdj (Qbc N x23.Element 0 (w64 (y4 - 1)) _ hf27) rfl rfl (nlc nll (nlc nll (nlc nll nl0))) nll rfl, asb hb29 (amv rfl), trivial⟩ ?_
         refine Qbk (by kernel_rfl) ?_
         refine wx tbk [] trivial ?_
         refine Qad ?_
         refine Qaf ?_
         refine Qas ?_
         refine Qaf ?_
         refine Qaf ?_
         refine Qas ?_
         refine Qas ?_
         refine Qaf ?_
         refine Qaf ?_
         refine Qas ?_
         refine Qaf ?_
         obtain rfl := osi h
         exact fend ⟨[B false], ⟨rot (by kernel_rfl), trivial⟩, rfl⟩ nll
        ·replace h := Qax hb29 h
         obtain ⟨x30, hg31, h⟩ := bno h
         obtain ⟨hi32, hj33⟩ := gsm hg31
         obtain ⟨x35, hf34, h⟩ := bno h
         obtain ⟨x37, hf36, h⟩ := bno h
         rcases bft ((!x37)) with hb38 | hb38
         ·replace h := Qaw hb38 h
          refine wxd tbk [(4, rp [fu 38, (.tmp 62, I x23.Element), ci 0, (.tmp 64, (I (w64 (y4 - 1))))] (B x28)), (6, rp [(.tmp 66, (B ((!x28))))] (B false)), (13, rp [(.tmp 67, B false), (.tmp 71, (Qlr p0)), (.tmp 73, I x23.Element)] (.dptr (Qac (x30)) 0)), (15, rp [(.tmp 67, B false), fu 39, (.tmp 75, (Qma x30))] (I x35)), (17, rp [(.tmp 67, B false), fu 38, (.tmp 69, I x23.Outlet), ci 0, (.tmp 77, (I (w64 (x35 - 1))))] (B x37)), (20, rp [(.tmp 80, (B ((!x37))))] (B true))] ⟨apc (first := []) (cap := []) (vs := [I x23.Element, I 0, (I (w64 (y4 - 1)))]) rfl Qdj (Qbc N x23.Element 0 (w64 (y4 - 1)) _ hf27) rfl rfl (nlc nll (nlc nll (nlc nll nl0))) nll rfl, asb hb29 (amv rfl), ag_ (aid rfl Try.underlying24 ti70 rfl rfl hi32 (mgt Qac hj33) rfl), ag_ (apc (first := []) (cap := []) (vs := [(Qma x30)]) rfl Qtw (Qha N x30 _ hf34) rfl rfl (nlc (NLt.agg _ (nlc nll (nlc (nld Qau _) (nlc nll (nlc nll (nlc nll (nlc nll (nlc (nld Qab _) nl0)))))))) nl0) nll rfl), ag_ (apc (first := []) (cap := []) (vs := [I x23.Outlet, I 0, (I (w64 (x35 - 1)))]) rfl Qdj (Qbc N x23.Outlet 0 (w64 (x35 - 1)) _ hf36) rfl rfl (nlc nll (nlc nll (nlc nll nl0))) nll rfl), asb hb38 (amv rfl), trivial⟩ ?_
          refine Qbk (by kernel_rfl) ?_
          refine wx tbk [] trivial ?_
          refine Qad ?_
          refine Qaf ?_
          refine Qas ?_
          refine Qaf ?_
          refine Qaf ?_
          refine Qas ?_
          refine Qas ?_
          refine Qaf ?_
          refine Qaf ?_
          refine Qas ?_
          refine Qaf ?_
          obtain rfl := osi h
          exact fend ⟨[B false], ⟨rot (by kernel_rfl), trivial⟩, rfl⟩ nll
         ·replace h := Qax hb38 h
          rcases bft ((decide (x11.Level > x30.Level))) with hb39 | hb39
          ·replace h := Qaw hb39 h
           refine wxd tbk [(4, rp [fu 38, (.tmp 62, I x23.Element), ci 0, (.tmp 64, (I (w64 (y4 - 1))))] (B x28)), (6, rp [(.tmp 66, (B ((!x28))))] (B false)), (13, rp [(.tmp 67, B false), (.tmp 71, (Qlr p0)), (.tmp 73, I x23.Element)] (.dptr (Qac (x30)) 0)), (15, rp [(.tmp 67, B false), fu 39, (.tmp 75, (Qma x30))] (I x35)), (17, rp [(.tmp 67, B false), fu 38, (.tmp 69, I x23.Outlet), ci 0, (.tmp 77, (I (w64 (x35 - 1))))] (B x37)), (20, rp [(.tmp 80, (B ((!x37))))] (B false)), (27, rp [(.tmp 81, B false), (.tmp 85, (Qlr p0)), (.tmp 87, I x23.Element)] (.dptr (Qac (x30)) 0)), (32, rp [(.tmp 92, (B ((decide (x11.Level > x30.Level)))))] (B true))] ⟨apc (first := []) (cap := []) (vs := [I x23.Element, I 0, (I (w64 (y4 - 1)))]) rfl Qdj (Qbc N x23.Element 0 (w64 (y4 - 1)) _ hf27) rfl rfl (nlc nll (nlc nll (nlc nll nl0))) nll rfl, asb hb29 (amv rfl), ag_ (aid rfl Try.underlying24 ti70 rfl rfl hi32 (mgt Qac hj33) rfl), ag_ (apc (first := []) (cap := []) (vs := [(Qma x30)]) rfl Qtw (Qha N x30 _ hf34) rfl rfl (nlc (NLt.agg _ (nlc nll (nlc (nld Qau _) (nlc nll (nlc nll (nlc nll (nlc nll (nlc (nld Qab _) nl0)))))))) nl0) nll rfl), ag_ (apc (first := []) (cap := []) (vs := [I x23.Outlet, I 0, (I (w64 (x35 - 1)))]) rfl Qdj (Qbc N x23.Outlet 0 (w64 (x35 - 1)) _ hf36) rfl rfl (nlc nll (nlc nll (nlc nll nl0))) nll rfl), asb hb38 (amv rfl), ag_ (aid rfl Try.underlying24 ti70 rfl rfl hi32 (mgt Qac hj33) rfl), asb hb39 (amv rfl), trivial⟩ ?_
           refine Qbk (by kernel_rfl) ?_
           refine wx tbk [] trivial ?_
           refine Qad ?_
           refine Qaf ?_
           refine Qas ?_
           refine Qaf ?_
           refine Qaf ?_
           refine Qas ?_
           refine Qas ?_
           refine Qaf ?_
           refine Qaf ?_
           refine Qas ?_
           refine Qaf ?_
           obtain rfl := osi h
           exact fend ⟨[B false], ⟨rot (by kernel_rfl), trivial⟩, rfl⟩ nll
          ·replace h := Qax hb39 h
           obtain ⟨x41, hf40, h⟩ := bno h
           refine wxd tbk [(4, rp [fu 38, (.tmp 62, I x23.Element), ci 0, (.tmp 64, (I (w64 (y4 - 1))))] (B x28)), (6, rp [(.tmp 66, (B ((!x28))))] (B false)), (13, rp [(.tmp 67, B false), (.tmp 71, (Qlr p0)), (.tmp 73, I x23.Element)] (.dptr (Qac (x30)) 0)), (15, rp [(.tmp 67, B false), fu 39, (.tmp 75, (Qma x30))] (I x35)), (17, rp [(.tmp 67, B false), fu 38, (.tmp 69, I x23.Outlet), ci 0, (.tmp 77, (I (w64 (x35 - 1))))] (B x37)), (20, rp [(.tmp 80, (B ((!x37))))] (B false)), (27, rp [(.tmp 81, B false), (.tmp 85, (Qlr p0)), (.tmp 87, I x23.Element)] (.dptr (Qac (x30)) 0)), (32, rp [(.tmp 92, (B ((decide (x11.Level > x30.Level)))))] (B false)), (35, rp [(.tmp 93, B false), fu 40, (.tmp 94, (Qpu y17)), (.tmp 95, (Qnp x23))] (B x41))] ⟨apc (first := []) (cap := []) (vs := [I x23.Element, I 0, (I (w64 (y4 - 1)))]) rfl Qdj (Qbc N x23.Element 0 (w64 (y4 - 1)) _ hf27) rfl rfl (nlc nll (nlc nll (nlc nll nl0))) nll rfl, asb hb29 (amv rfl), ag_ (aid rfl Try.underlying24 ti70 rfl rfl hi32 (mgt Qac hj33) rfl), ag_ (apc (first := []) (cap := []) (vs := [(Qma x30)]) rfl Qtw (Qha N x30 _ hf34) rfl rfl (nlc (NLt.agg _ (nlc nll (nlc (nld Qau _) (nlc nll (nlc nll (nlc nll (nlc nll (nlc (nld Qab _) nl0)))))))) nl0) nll rfl), ag_ (apc (first := []) (cap := []) (vs := [I x23.Outlet, I 0, (I (w64 (x35 - 1)))]) rfl Qdj (Qbc N x23.Outlet 0 (w64 (x35 - 1)) _ hf36) rfl rfl (nlc nll (nlc nll (nlc nll nl0))) nll rfl), asb hb38 (amv rfl), ag_ (aid rfl Try.underlying24 ti70 rfl rfl hi32 (mgt Qac hj33) rfl), asb hb39 (amv rfl), ag_ (awk (rd' := (.func 40, (.fn (.func 40) [] [])) :: [(.tmp 94, (.dat 2 ((y17 : List GPort).map Qam))), (.tmp 95, (Qnp x23))]) ⟨rfl, lrf, rfl, Less.acc, rfl, lrf, trivial⟩ (apc (first := []) (cap := []) (vs := [(.dat 2 ((y17 : List GPort).map Qam)), (Qnp x23)]) rfl Q4p (Qlz N y17 x23 _ hf40) rfl rfl (nlc (nld Qau _) (nlc (NLt.agg _ (nlc nll (nlc nll nl0))) nl0)) nll rfl)), trivial⟩ ?_
           rcases bft (x41) with hc42 | hc42
           ·replace h := Qaw hc42 h
            refine wft hc42 (by kernel_rfl) ?_
            refine wx tbk [] trivial ?_
            refine Qad ?_
            refine Qaf ?_
            refine Qas ?_
            refine Qaf ?_
            refine Qaf ?_
            refine Qas ?_
            refine Qas ?_
            refine Qaf ?_
            refine Qaf ?_
            refine Qas ?_
            refine Qaf ?_
            obtain rfl := osi h
            exact fend ⟨[B false], ⟨rot (by kernel_rfl), trivial⟩, rfl⟩ nll
           ·replace h := Qax hc42 h
            refine wfn hc42 (by kernel_rfl) ?_
            refine Qap ?_
            refine thn ?_
            obtain ⟨ha43, h⟩ := cko h
            refine wx1 tbk [(2, rp [(.tmp 99, (Qnp x23))] (.dat 2 (([x23] : List GPort).map Qam))), (3, ⟨[(.tmp 98, (Qpu y17)), (.tmp 100, (.dat 2 (([x23] : List GPort).map Qam)))], [(1, .tok), (4, .unused)], (.acc 4 66 2 ((y17 ++ ([x23]) : List GPort).map Qam)), [(1, .dead), (4, .tok)], false⟩)] ⟨Qb1 (vs := [(Qnp x23)]) rfl Try.underlying64 ti66 tz66 rfl (by decide) rfl (by decide) (by rfl) (by rfl) (by rfl) rfl, Qgk rfl Try.underlying64 te66 (Base.acc _ _) rfl rfl (by rfl) (Qij Qam ha43) (Qii Qam ha43 (by decide)) (Qih Qam) rfl rfl, trivial⟩ ?_
            refine bln ?_
            refine thn ?_
            refine wx1 tbk [] trivial ?_
            refine thn ?_
            exact arm (mto (n := 102) [(1, .ref 0 2 0 0), (3, (.acc 4 66 2 ((y17 ++ ([x23]) : List GPort).map Qam))), (4, I y4), (5, .ref 2 7 0 0), (6, (I (w64 (y18 + 1))))] [0, 4, 2] [(Qka p0), .tok, (Qmb x11)] hφ0 (pc (.rn (rqr rfl)) (pc (.rn (Qbx rfl (Qbo Qau _))) (pc rwl (pc (.rn (rqr rfl)) (pc rwl pn))))) (qc (spb (lc (.rn (.plain _ (nld Qah _))) (lc (.rn (.plain _ (nld Qaa _))) ln))) (qc .tok (qc (spb (lc rwl (lc (.rn (.plain _ (nld Qau _))) (lc rwl (lc rwl (lc rwl (lc rwl (lc (.rn (.plain _ (nld Qab _))) ln)))))))) qn)))) (ih (y17 ++ ([x23]), w64 (y18 + 1)) h)
       ·replace h := Qax hc22 h
        refine wfn hc22 (by kernel_rfl) ?_
        refine Qbi ?_
        refine Qay ?_
        refine Qay ?_
        refine Qbh rfl ?_
        refine bln ?_
        refine thn ?_
        exact ⟨(y17), h, (mto (n := 102) [(1, .ref 0 2 0 0), (3, (Qpu y17)), (4, I y4)] [0, 1] [(Qka p0), .tok] hφ0 (pc (.rn (rqr rfl)) (pc (.rn (Qbx rfl (Qbo Qau _))) (pc rwl pn))) (qc (spb (lc (.rn (.plain _ (nld Qah _))) (lc (.rn (.plain _ (nld Qaa _))) ln))) (qc .tok qn)))⟩
      ·skip
       obtain ⟨x45, hf44, h⟩ := bno h
       rcases bft ((!x45)) with hb46 | hb46
       ·replace h := Qaw hb46 h
        refine wx tbk [(1, rp [fu 37, (.tmp 36, (Qpv x11))] (B x45)), (3, rp [(.tmp 38, (B ((!x45))))] (B true))] ⟨apc (first := []) (cap := []) (vs := [(Qpv x11)]) rfl Q4q (Ql0 N x11 _ hf44) rfl rfl (nlc (NLt.agg _ (nlc nll (nlc (nld Qau _) (nlc nll (nlc nll (nlc nll (nlc nll (nlc (nld Qab _) nl0)))))))) nl0) nll rfl, asb hb46 (amv rfl), trivial⟩ ?_
        refine Qbk (by kernel_rfl) ?_
        refine wx tbk [] trivial ?_
        refine Qad ?_
        refine Qaf ?_
        refine Qas ?_
        refine Qaf ?_
        refine Qaf ?_
        refine Qas ?_
        refine Qaf ?_
        obtain rfl := osi h
        exact fend ⟨[B false], ⟨rot (by kernel_rfl), trivial⟩, rfl⟩ nll
       ·replace h := Qax hb46 h
        obtain ⟨x48, hf47, h⟩ := bno h
        refine wx tbk [(1, rp [fu 37, (.tmp 36, (Qpv x11))] (B x45)), (3, rp [(.tmp 38, (B ((!x45))))] (B false)), (8, rp [(.tmp 39, B false), (.tmp 43, (Qpd p0))] (I ((p0.Table.length : Int)))), (10, rp [(.tmp 39, B false), fu 38, (.tmp 41, I x11.Level), ci 0, (.tmp 45, (I (w64 ((p0.Table.length : Int) - 1))))] (B x48))] ⟨apc (first := []) (cap := []) (vs := [(Qpv x11)]) rfl Q4q (Ql0 N x11 _ hf44) rfl rfl (nlc (NLt.agg _ (nlc nll (nlc (nld Qau _) (nlc nll (nlc nll (nlc nll (nlc nll (nlc (nld Qab _) nl0)))))))) nl0) nll rfl, asb hb46 (amv rfl), ag_ (alm (c := Qa3) (l := p0.Table) (aln rfl Try.underlying23 rfl)), ag_ (apc (first := []) (cap := []) (vs := [I x11.Level, I 0, (I (w64 ((p0.Table.length : Int) - 1)))]) rfl Qdj (Qbc N x11.Level 0 (w64 ((p0.Table.length : Int) - 1)) _ hf47) rfl rfl (nlc nll (nlc nll (nlc nll nl0))) nll rfl), trivial⟩ ?_
        rcases bft ((!x48)) with hc49 | hc49
        ·replace h := Qaw hc49 h
         refine wft hc49 (by kernel_rfl) ?_
         refine wx tbk [] trivial ?_
         refine Qad ?_
         refine Qaf ?_
         refine Qas ?_
         refine Qaf ?_
         refine Qaf ?_
         refine Qas ?_
         refine Qaf ?_
         obtain rfl := osi h
         exact fend ⟨[B false], ⟨rot (by kernel_rfl), trivial⟩, rfl⟩ nll
        ·replace h := Qax hc49 h
         refine wfn hc49 (by kernel_rfl) ?_
         refine Qap ?_
         refine thn ?_
         exact ⟨(y3), h, (mto (n := 102) [(1, .ref 0 2 0 0), (3, (.acc 1 66 2 ((y3 : List GPort).map Qam))), (4, I y4), (5, .ref 2 7 0 0)] [0, 1, 2] [(Qka p0), .tok, (Qmb x11)] hφ0 (pc (.rn (rqr rfl)) (pc (.rn (Qbx rfl (Qbo Qau _))) (pc rwl (pc (.rn (rqr rfl)) pn)))) (qc (spb (lc (.rn (.plain _ (nld Qah _))) (lc (.rn (.plain _ (nld Qaa _))) ln))) (qc .tok (qc (spb (lc rwl (lc (.rn (.plain _ (nld Qau _))) (lc rwl (lc rwl (lc rwl (lc rwl (lc (.rn (.plain _ (nld Qab _))) ln)))))))) qn))))⟩
    ·replace h := Qax hc8 h
     refine wfn hc8 (by kernel_rfl) ?_
     refine Qbi ?_
     refine Qay ?_
     refine Qay ?_
     refine Qbh rfl ?_
     refine thn ?_
     exact ⟨(), h, (mto (n := 102) [] [] [] hφ0 pn qn)⟩
  ·skip
   obtain ⟨x51, hf50, h⟩ := bno h
   rcases bft ((!x51)) with hb52 | hb52
   ·replace h := Qaw hb52 h
    refine wx tbk [(2, rp [fu 21, (.tmp 9, (Qpd p0))] (B x51)), (4, rp [(.tmp 11, (B ((!x51))))] (B true))] ⟨apc (first := []) (cap := []) (vs := [(Qpd p0)]) rfl Qxd (Qjx N p0.Table _ hf50) rfl rfl (nlc (nld Qah _) nl0) nll rfl, asb hb52 (amv rfl), trivial⟩ ?_
    refine Qbk (by kernel_rfl) ?_
    refine wx tbk [] trivial ?_
    refine Qad ?_
    refine Qaf ?_
    obtain rfl := osi h
    exact fend ⟨[B false], ⟨rot (by kernel_rfl), trivial⟩, rfl⟩ nll
   ·replace h := Qax hb52 h
    rcases bft ((decide ((p0.Elements.length : Int) < 1))) with hb53 | hb53
    ·replace h := Qaw hb53 h
     refine wx tbk [(2, rp [fu 21, (.tmp 9, (Qpd p0))] (B x51)), (4, rp [(.tmp 11, (B ((!x51))))] (B false)), (7, rp [(.tmp 12, B false), (.tmp 14, (Qlr p0))] (I ((p0.Elements.length : Int)))), (10, rp [(.tmp 17, (B ((decide ((p0.Elements.length : Int) < 1)))))] (B true))] ⟨apc (first := []) (cap := []) (vs := [(Qpd p0)]) rfl Qxd (Qjx N p0.Table _ hf50) rfl rfl (nlc (nld Qah _) nl0) nll rfl, asb hb52 (amv rfl), ag_ (alm (c := Qac) (l := p0.Elements) (aln rfl Try.underlying24 rfl)), asb hb53 (amv rfl), trivial⟩ ?_
     refine Qbk (by kernel_rfl) ?_
     refine wx tbk [] trivial ?_
     refine Qad ?_
     refine Qaf ?_
     obtain rfl := osi h
     exact fend ⟨[B false], ⟨rot (by kernel_rfl), trivial⟩, rfl⟩ nll
    ·replace h := Qax hb53 h
     refine wx tbk [(2, rp [fu 21, (.tmp 9, (Qpd p0))] (B x51)), (4, rp [(.tmp 11, (B ((!x51))))] (B false)), (7, rp [(.tmp 12, B false), (.tmp 14, (Qlr p0))] (I ((p0.Elements.length : Int)))), (10, rp [(.tmp 17, (B ((decide ((p0.Elements.length : Int) < 1)))))] (B false)), (13, rp [(.tmp 18, B false), (.tmp 20, (Qlr p0))] (I ((p0.Elements.length : Int))))] ⟨apc (first := []) (cap := []) (vs := [(Qpd p0)]) rfl Qxd (Qjx N p0.Table _ hf50) rfl rfl (nlc (nld Qah _) nl0) nll rfl, asb hb52 (amv rfl), ag_ (alm (c := Qac) (l := p0.Elements) (aln rfl Try.underlying24 rfl)), asb hb53 (amv rfl), ag_ (alm (c := Qac) (l := p0.Elements) (aln rfl Try.underlying24 rfl)), trivial⟩ ?_
     rcases bft ((decide ((p0.Elements.length : Int) > 16))) with hc54 | hc54
     ·replace h := Qaw hc54 h
      refine wft hc54 (by kernel_rfl) ?_
      refine wx tbk [] trivial ?_
      refine Qad ?_
      refine Qaf ?_
      obtain rfl := osi h
      exact fend ⟨[B false], ⟨rot (by kernel_rfl), trivial⟩, rfl⟩ nll
     ·replace h := Qax hc54 h
      refine wfn hc54 (by kernel_rfl) ?_
      refine Qap ?_
      refine thn ?_
      exact ⟨(), h, (mto (n := 102) [(1, .ref 0 2 0 0)] [0] [(Qka p0)] hφ0 (pc (.rn (rqr rfl)) pn) (qc (spb (lc (.rn (.plain _ (nld Qah _))) (lc (.rn (.plain _ (nld Qaa _))) ln))) qn))⟩
def Qc6 (N : Nat) (k1 : Unit → Option Bool) (p1 : (List Int)) : Nat → Int → Option Bool
  | 0, _ => none
  | n4 + 1, y2 =>
    bif (decide (y2 < (p1.length : Int))) then
     (getI p1 y2).bind fun x6 =>
     (Qer N x6 0 1000000000000).bind fun x11 =>
     bif (!x11) then
      some false
     else
      Qc6 N k1 p1 n4 (w64 (y2 + 1))
    else
     k1 ()
def Qgc (N : Nat) (p0 : GNet) (p1 : (List Int)) : Option Bool :=
  Qbz (fun _ =>
    some ((p1.length : Int) == (p0.Elements.length : Int))) fun k1 : Unit → Option Bool =>
  Qc6 N k1 p1 N 0
def Qno (p1 : (List Int)) : AV := .dat 1 ((p1 : List Int).map Qaj)
def Q8o (p0 : GNet) : AV := .dat 7 ((p0.Elements : List GElement).map Qac)
def Qsb (p0 : GNet) : Slot := .own 2 [[(.dat 5 ((p0.Table : List GRow).map Qa3)), (Q8o p0)]]
theorem Qmn (N : Nat) (p0 : GNet) (p1 : (List Int)) (r : Bool) (h : Qgc N p0 p1 = some r) : Spec Try.prog 19 [(.agg (Qia p0)), (.dat 1 (p1.map Qaj))] [] (B r) [] := by
  refine Qak Try.func19 rfl 0 (nle rfl) (fun X φ0 w0 hφ0 hd0 => ?_)
  unfold Qgc at h
  refine wx tbk [] trivial ?_
  obtain ⟨k1, hk_k1, h⟩ := jko h
  refine wjn (τ := Unit) (fun t => k1 t = some r) (fun _ => ⟨mk 24 [(1, (Qno p1)), (2, .ref 0 2 0 0)], [(Qsb p0)]⟩) (fun t h => ?_) ?_
  ·subst hk_k1
   refine wx tbk [(1, rp [(.tmp 18, (Qno p1))] (I ((p1.length : Int)))), (4, rp [(.tmp 21, (Q8o p0))] (I ((p0.Elements.length : Int))))] ⟨alm (c := Qaj) (l := p1) (aln rfl Try.underlying27 rfl), alm (c := Qac) (l := p0.Elements) (aln rfl Try.underlying24 rfl), trivial⟩ ?_
   refine Qad ?_
   obtain rfl := osi h
   exact fend ⟨[(B (((p1.length : Int) == (p0.Elements.length : Int))))], ⟨rot (by kernel_rfl), trivial⟩, rfl⟩ nll
  ·skip
   refine wx tbk [] trivial ?_
   refine Qan ?_
   refine wmr (mto (n := 24) (l' := [(1, (Qno p1)), (2, .ref 0 2 0 0), (5, I 0)]) (own' := [(Qsb p0)]) [(1, (Qno p1)), (2, .ref 0 2 0 0), (5, I 0)] [0] [(Qsb p0)] hφ0 (pc (.rn (.plain _ (nld Qab _))) (pc (.rn (rqr rfl)) (pc rwl pn))) (qc (spb (lc (.rn (.plain _ (nld Qah _))) (lc (.rn (.plain _ (nld Qaa _))) ln))) qn)) ?_
   refine Qby (τ := Int) (fun n t => Qc6 N k1 p1 n t = some r) (fun y2 => ⟨mk 24 [(1, (Qno p1)), (2, .ref 0 2 0 0), (5, I y2)], [(Qsb p0)]⟩) (fun t h => by rw [Qc6] at h; cases h) (fun n4 ih y2 h => ?_) N (0) h
   rw [Qc6] at h
   skip
   refine wsq ?_
   refine wx tbk [(2, rp [(.tmp 7, (Qno p1))] (I ((p1.length : Int))))] ⟨alm (c := Qaj) (l := p1) (aln rfl Try.underlying27 rfl), trivial⟩ ?_
   rcases bft ((decide (y2 < (p1.length : Int)))) with hc5 | hc5
   ·replace h := Qaw hc5 h
    refine wft hc5 (by kernel_rfl) ?_
    refine Qap ?_
    refine thn ?_
    refine wsq ?_
    refine Qan ?_
    obtain ⟨x6, hg7, h⟩ := bno h
    obtain ⟨hi8, hj9⟩ := gsm hg7
    obtain ⟨x11, hf10, h⟩ := bno h
    refine wx tbk [(2, rp [(.tmp 12, (Qno p1)), (.tmp 13, I y2)] (.dptr (Qaj (x6)) 0)), (4, rp [fu 38, (.tmp 15, I x6), ci 0, ci 1000000000000] (B x11))] ⟨aid rfl Try.underlying27 ti3 rfl rfl hi8 (mgt Qaj hj9) rfl, apc (first := []) (cap := []) (vs := [I x6, I 0, I 1000000000000]) rfl Qdj (Qbc N x6 0 1000000000000 _ hf10) rfl rfl (nlc nll (nlc nll (nlc nll nl0))) nll rfl, trivial⟩ ?_
    rcases bft ((!x11)) with hc12 | hc12
    ·replace h := Qaw hc12 h
     refine wft hc12 (by kernel_rfl) ?_
     refine wx tbk [] trivial ?_
     refine Qad ?_
     refine Qas ?_
     refine Qaf ?_
     refine Qaf ?_
     refine Qas ?_
     refine Qaf ?_
     obtain rfl := osi h
     exact fend ⟨[B false], ⟨rot (by kernel_rfl), trivial⟩, rfl⟩ nll
    ·replace h := Qax hc12 h
     refine wfn hc12 (by kernel_rfl) ?_
     refine Qap ?_
     refine bln ?_
     refine thn ?_
     refine wx1 tbk [] trivial ?_
     refine thn ?_
     exact arm (mto (n := 24) [(1, (Qno p1)), (2, .ref 0 2 0 0), (5, (I (w64 (y2 + 1))))] [0] [(Qsb p0)] hφ0 (pc (.rn (.plain _ (nld Qab _))) (pc (.rn (rqr rfl)) (pc rwl pn))) (qc (spb (lc (.rn (.plain _ (nld Qah _))) (lc (.rn (.plain _ (nld Qaa _))) ln))) qn)) (ih (w64 (y2 + 1)) h)
   ·replace h := Qax hc5 h
    refine wfn hc5 (by kernel_rfl) ?_
    refine Qbi ?_
    refine Qay ?_
    refine Qay ?_
    refine Qbh rfl ?_
    refine thn ?_
    exact ⟨(), h, (mto (n := 24) [(1, (Qno p1)), (2, .ref 0 2 0 0)] [0] [(Qsb p0)] hφ0 (pc (.rn (.plain _ (nld Qab _))) (pc (.rn (rqr rfl)) pn)) (qc (spb (lc (.rn (.plain _ (nld Qah _))) (lc (.rn (.plain _ (nld Qaa _))) ln))) qn))⟩
end Go.Proofs.Ytmbhnllcfmiajaa
