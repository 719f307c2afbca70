/-
  Functions of the program: what they compute, as plain functions, and that they do. No conditions.
-/
import Derived.Test.YtmbhnllcfmiajaaX6
namespace Go.Proofs.Ytmbhnllcfmiajaa
set_option maxRecDepth 100000
set_option maxHeartbeats 4000000
open Go.RowKit
def Qfn (N : Nat) (p0 : Int) (p1 : (List GRow)) : Option Bool :=
  (Qfk N p1 p0).bind fun x3 =>
  some (!x3)
def Qut (p1 : (List GRow)) : AV := .fn (.func 42) [(.dat 5 ((p1 : List GRow).map Qav))] []
theorem Qlq (N : Nat) (p0 : Int) (p1 : (List GRow)) (r : Bool) (h : Qfn N p0 p1 = some r) : Spec Try.prog 67 [(I (p0)), (.ref 0 1 (0) 0)] [(.own 1 [[(Qut p1)]])] (B (r)) [(.own 1 [[(Qut p1)]])] := by
  refine Qag Try.func67 rfl 1 (nle rfl) (fun X φ0 w0 hφ0 hd0 => ?_)
  unfold Qfn at h
  refine Qbs ?_
  refine wx tbk [] trivial ?_
  obtain ⟨x3, hf2, h⟩ := bno h
  refine wx tbk [(2, rp [(.tmp 4, (Qut p1)), (.tmp 5, I p0)] (B x3))] ⟨apc (first := [(.dat 5 ((p1 : List GRow).map Qav))]) (cap := []) (vs := [I p0]) rfl Q6n (Qjl N p1 p0 _ hf2) rfl rfl (nlc (nld Qai _) (nlc nll nl0)) nll rfl, trivial⟩ ?_
  refine wmr (mto (n := 8) (l' := [(3, (B ((!x3))))]) (own' := [(.own 1 [[(Qut p1)]])]) [(3, (B ((!x3))))] [0] [(.own 1 [[(Qut p1)]])] hφ0 (pc rwl pn) (qc (spb (lc (.rn (Qbe (rnc (.plain _ (nld Qai _)) rn0) rn0)) ln)) qn)) ?_
  refine Qad ?_
  obtain rfl := osi h
  exact ⟨_, Mor.rfl, Qcx (vs := [(B ((!x3)))]) ⟨rot (by kernel_rfl), trivial⟩ rfl (NLt.of0 nll) (by kernel_rfl) (Qak (Qa6 (nlc (NLt.of0 (NLt.fn _ _ _ (nlc (nld Qai _) nl0) nl0)) nl0)) Qbo)⟩
def Qb3 (N : Nat) (p0 : (List Int)) (p1 : (List GRow)) (k2 : Unit → Option Int) : Nat → Int → Option Int
  | 0, _ => none
  | n5 + 1, y3 =>
    bif (decide (y3 < (p0.length : Int))) then
     (getI p0 y3).bind fun x7 =>
     (Qfn N x7 p1).bind fun x12 =>
     bif x12 then
      some y3
     else
      Qb3 N p0 p1 k2 n5 (w64 (y3 + 1))
    else
     k2 ()
def Qd0 (N : Nat) (p0 : (List Int)) (p1 : (List GRow)) : Option Int :=
  Qcv (fun _ =>
    some (-1)) fun k2 : Unit → Option Int =>
  Qb3 N p0 p1 k2 N 0
def Qqb (p0 : (List Int)) : AV := .dat 1 ((p0 : List Int).map Qam)
def Qsb : AV := .fn (.func 67) [] [(.ref 0 1 (0) 0)]
def Qi6 (p1 : (List GRow)) : AV := .fn (.func 42) [(.dat 5 ((p1 : List GRow).map Qav))] []
theorem Qim (N : Nat) (p0 : (List Int)) (p1 : (List GRow)) (r : Int) (h : Qd0 N p0 p1 = some r) : Spec Try.prog 86 [(Qqb p0), Qsb] [(.own 1 [[(Qi6 p1)]])] (I (r)) [(.own 1 [[(Qi6 p1)]])] := by
  refine Qag Try.func86 rfl 1 (nle rfl) (fun X φ0 w0 hφ0 hd0 => ?_)
  unfold Qd0 at h
  refine Qbs ?_
  refine wx tbk [] trivial ?_
  obtain ⟨k2, hk_k2, h⟩ := jko h
  refine wjn (τ := Unit) (fun t => k2 t = some r) (fun _ => ⟨mk 19 [], [(.own 1 [[(Qi6 p1)]])]⟩) (fun t h => ?_) ?_
  ·subst hk_k2
   refine wx tbk [] trivial ?_
   refine wmr (mto (n := 19) (l' := [(4, (I ((-1))))]) (own' := [(.own 1 [[(Qi6 p1)]])]) [(4, (I ((-1))))] [0] [(.own 1 [[(Qi6 p1)]])] hφ0 (pc rwl pn) (qc (spb (lc (.rn (Qbe (rnc (.plain _ (nld Qai _)) rn0) rn0)) ln)) qn)) ?_
   refine Qad ?_
   obtain rfl := osi h
   exact ⟨_, Mor.rfl, Qcx (vs := [(I ((-1)))]) ⟨rot (by kernel_rfl), trivial⟩ rfl (NLt.of0 nll) (by kernel_rfl) (Qak (Qa6 (nlc (NLt.of0 (NLt.fn _ _ _ (nlc (nld Qai _) nl0) nl0)) nl0)) Qbo)⟩
  ·skip
   refine wx tbk [(1, rp [(.tmp 6, (Qqb p0))] (I ((p0.length : Int))))] ⟨alm (c := Qam) (l := p0) (aln rfl Try.underlying27 rfl), trivial⟩ ?_
   refine Qaq ?_
   refine wmr (mto (n := 19) (l' := [(0, (Qqb p0)), (1, Qsb), (7, (I ((p0.length : Int)))), (8, I 0)]) (own' := [(.own 1 [[(Qi6 p1)]])]) [(0, (Qqb p0)), (1, Qsb), (7, (I ((p0.length : Int)))), (8, I 0)] [0] [(.own 1 [[(Qi6 p1)]])] hφ0 (pc (.rn (.plain _ (nld Qaf _))) (pc (.rn (Qbe rn0 (rnc (rqr rfl) rn0))) (pc rwl (pc rwl pn)))) (qc (spb (lc (.rn (Qbe (rnc (.plain _ (nld Qai _)) rn0) rn0)) ln)) qn)) ?_
   refine Qc9 (τ := Int) (fun n t => Qb3 N p0 p1 k2 n t = some r) (fun y3 => ⟨mk 19 [(0, (Qqb p0)), (1, Qsb), (7, (I ((p0.length : Int)))), (8, I y3)], [(.own 1 [[(Qi6 p1)]])]⟩) (fun t h => by rw [Qb3] at h; cases h) (fun n5 ih y3 h => ?_) N (0) h
   rw [Qb3] at h
   skip
   refine wx tbk [] trivial ?_
   refine wsq ?_
   rcases bft ((decide (y3 < (p0.length : Int)))) with hc6 | hc6
   ·replace h := Qa2 hc6 h
    refine wft hc6 (by kernel_rfl) ?_
    refine Qar ?_
    refine thn ?_
    refine wsq ?_
    refine Qaq ?_
    refine wx tbk [] trivial ?_
    obtain ⟨x7, hg8, h⟩ := bno h
    obtain ⟨hi9, hj10⟩ := gsm hg8
    obtain ⟨x12, hf11, h⟩ := bno h
    refine wx tbk [(3, rp [(.tmp 12, (Qqb p0)), (.tmp 13, I y3)] (.dptr (Qam (x7)) 0)), (5, ⟨[(.tmp 11, Qsb), (.tmp 15, I x7)], [(0, (.own 1 [[(Qi6 p1)]]))], B x12, [(0, (.own 1 [[(Qi6 p1)]]))], false⟩)] ⟨aid rfl Try.underlying27 ti3 rfl rfl hi9 (mgt Qam hj10) rfl, Qao (first := []) (cap := [.ref 0 1 0 0]) (vs := [I x7]) (σr := [(.own 1 [[(Qi6 p1)]])]) (σr' := [(.own 1 [[(Qi6 p1)]])]) (res' := (B x12)) [0] rfl Q6j (Qlq N x7 p1 _ hf11) rfl (Qbr (rnc (.plain _ nll) (rnc (Qbb rfl) rn0))) (slc (Qal (rnc (.plain _ (NLt.fn _ _ _ (nlc (nld Qai _) nl0) nl0)) rn0)) Qan) (slc (Qal (rnc (.plain _ (NLt.fn _ _ _ (nlc (nld Qai _) nl0) nl0)) rn0)) Qan) (.plain _ nll) rfl rfl rfl, trivial⟩ ?_
    rcases bft (x12) with hc13 | hc13
    ·replace h := Qa2 hc13 h
     refine wft hc13 (by kernel_rfl) ?_
     refine wx tbk [] trivial ?_
     refine wmr (mto (n := 19) (l' := [(4, I y3)]) (own' := [(.own 1 [[(Qi6 p1)]])]) [(4, I y3)] [0] [(.own 1 [[(Qi6 p1)]])] hφ0 (pc rwl pn) (qc (spb (lc (.rn (Qbe (rnc (.plain _ (nld Qai _)) rn0) rn0)) ln)) qn)) ?_
     refine Qad ?_
     refine Qaw ?_
     refine Qaj ?_
     refine Qaj ?_
     refine Qaw ?_
     refine Qaj ?_
     obtain rfl := osi h
     exact ⟨_, Mor.rfl, Qcx (vs := [I y3]) ⟨rot (by kernel_rfl), trivial⟩ rfl (NLt.of0 nll) (by kernel_rfl) (Qak (Qa6 (nlc (NLt.of0 (NLt.fn _ _ _ (nlc (nld Qai _) nl0) nl0)) nl0)) Qbo)⟩
    ·replace h := Qa3 hc13 h
     refine wfn hc13 (by kernel_rfl) ?_
     refine Qar ?_
     refine bln ?_
     refine thn ?_
     refine wx1 tbk [] trivial ?_
     refine thn ?_
     exact arm (mto (n := 19) [(0, (Qqb p0)), (1, Qsb), (7, (I ((p0.length : Int)))), (8, (I (w64 (y3 + 1))))] [0] [(.own 1 [[(Qi6 p1)]])] hφ0 (pc (.rn (.plain _ (nld Qaf _))) (pc (.rn (Qbe rn0 (rnc (rqr rfl) rn0))) (pc rwl (pc rwl pn)))) (qc (spb (lc (.rn (Qbe (rnc (.plain _ (nld Qai _)) rn0) rn0)) ln)) qn)) (ih (w64 (y3 + 1)) h)
   ·replace h := Qa3 hc6 h
    refine wfn hc6 (by kernel_rfl) ?_
    refine Qcf ?_
    refine Qa8 ?_
    refine Qa8 ?_
    refine Qce rfl ?_
    refine thn ?_
    exact ⟨(), h, (mto (n := 19) [] [0] [(.own 1 [[(Qi6 p1)]])] hφ0 pn (qc (spb (lc (.rn (Qbe (rnc (.plain _ (nld Qai _)) rn0) rn0)) ln)) qn))⟩
def Qcy (N : Nat) (p0 : (List Int)) (p1 : (List GRow)) : Option Bool :=
  (Qd0 N p0 p1).bind fun x3 =>
  some (decide (x3 ≥ 0))
def Q4g (p0 : (List Int)) : AV := .dat 1 ((p0 : List Int).map Qam)
def Q4f : AV := .fn (.func 67) [] [(.ref 0 1 (0) 0)]
def Qpa (p1 : (List GRow)) : AV := .fn (.func 42) [(.dat 5 ((p1 : List GRow).map Qav))] []
theorem Qhm (N : Nat) (p0 : (List Int)) (p1 : (List GRow)) (r : Bool) (h : Qcy N p0 p1 = some r) : Spec Try.prog 66 [(Q4g p0), Q4f] [(.own 1 [[(Qpa p1)]])] (B (r)) [(.own 1 [[(Qpa p1)]])] := by
  refine Qag Try.func66 rfl 1 (nle rfl) (fun X φ0 w0 hφ0 hd0 => ?_)
  unfold Qcy at h
  refine Qbs ?_
  refine wx tbk [] trivial ?_
  obtain ⟨x3, hf2, h⟩ := bno h
  refine wx tbk [(2, ⟨[fu 86, (.tmp 5, (Q4g p0)), (.tmp 6, Q4f)], [(0, (.own 1 [[(Qpa p1)]]))], I x3, [(0, (.own 1 [[(Qpa p1)]]))], false⟩)] ⟨Qao (first := []) (cap := []) (vs := [(Q4g p0), Q4f]) (σr := [(.own 1 [[(Qpa p1)]])]) (σr' := [(.own 1 [[(Qpa p1)]])]) (res' := (I x3)) [0] rfl Qou (Qim N p0 p1 _ hf2) rfl (Qbr (rnc (.plain _ (nld Qaf _)) (rnc (Qbe rn0 (rnc (Qbb rfl) rn0)) rn0))) (slc (Qal (rnc (.plain _ (NLt.fn _ _ _ (nlc (nld Qai _) nl0) nl0)) rn0)) Qan) (slc (Qal (rnc (.plain _ (NLt.fn _ _ _ (nlc (nld Qai _) nl0) nl0)) rn0)) Qan) (.plain _ nll) rfl rfl rfl, trivial⟩ ?_
  refine wmr (mto (n := 9) (l' := [(4, (B ((decide (x3 ≥ 0)))))]) (own' := [(.own 1 [[(Qpa p1)]])]) [(4, (B ((decide (x3 ≥ 0)))))] [0] [(.own 1 [[(Qpa p1)]])] hφ0 (pc rwl pn) (qc (spb (lc (.rn (Qbe (rnc (.plain _ (nld Qai _)) rn0) rn0)) ln)) qn)) ?_
  refine Qad ?_
  obtain rfl := osi h
  exact ⟨_, Mor.rfl, Qcx (vs := [(B ((decide (x3 ≥ 0))))]) ⟨rot (by kernel_rfl), trivial⟩ rfl (NLt.of0 nll) (by kernel_rfl) (Qak (Qa6 (nlc (NLt.of0 (NLt.fn _ _ _ (nlc (nld Qai _) nl0) nl0)) nl0)) Qbo)⟩
def Qgf (N : Nat) (p0 : (List Int)) (p1 : (List GRow)) : Option Bool :=
  (Qcy N p0 p1).bind fun x2 =>
  some (!x2)
def Q4i (p0 : (List Int)) : AV := .dat 1 ((p0 : List Int).map Qam)
def Quu (p1 : (List GRow)) : AV := .fn (.func 42) [(.dat 5 ((p1 : List GRow).map Qav))] []
def Q4h : AV := .fn (.func 67) [] [(.ref 0 1 (0) 0)]
theorem Qmz (N : Nat) (p0 : (List Int)) (p1 : (List GRow)) (r : Bool) (h : Qgf N p0 p1 = some r) : Spec Try.prog 46 [(Q4i p0), (Quu p1)] [] (B (r)) [] := by
  refine Qag Try.func46 rfl 0 (nle rfl) (fun X φ0 w0 hφ0 hd0 => ?_)
  unfold Qgf at h
  refine wx tbk [] trivial ?_
  obtain ⟨x2, hf1, h⟩ := bno h
  refine wx tbk [(1, rp [(.tmp 3, .ref 0 1 0 0)] Q4h), (2, ⟨[fu 66, (.tmp 5, (Q4i p0)), (.tmp 6, Q4h)], [(0, (.own 1 [[(Quu p1)]]))], B x2, [(0, (.own 1 [[(Quu p1)]]))], false⟩)] ⟨Qej (fs := []) (cs := [.ref 0 1 0 0]) rfl rfl rfl rfl, Qao (first := []) (cap := []) (vs := [(Q4i p0), Q4h]) (σr := [(.own 1 [[(Quu p1)]])]) (σr' := [(.own 1 [[(Quu p1)]])]) (res' := (B x2)) [0] rfl Qov (Qhm N p0 p1 _ hf1) rfl (Qbr (rnc (.plain _ (nld Qaf _)) (rnc (Qbe rn0 (rnc (Qbb rfl) rn0)) rn0))) (slc (Qal (rnc (.plain _ (NLt.fn _ _ _ (nlc (nld Qai _) nl0) nl0)) rn0)) Qan) (slc (Qal (rnc (.plain _ (NLt.fn _ _ _ (nlc (nld Qai _) nl0) nl0)) rn0)) Qan) (.plain _ nll) rfl rfl rfl, trivial⟩ ?_
  refine Qad ?_
  obtain rfl := osi h
  exact fend ⟨[(B ((!x2)))], ⟨rot (by kernel_rfl), trivial⟩, rfl⟩ nll
def Qf3 (_N : Nat) (_p0 : (List GRow)) (_p1 : (List Int)) (_p2 : GStream) : Option Unit :=
  some ()
def Qzy (p0 : (List GRow)) : AV := .dat 5 ((p0 : List GRow).map Qav)
def Qzx (p1 : (List Int)) : AV := .dat 1 ((p1 : List Int).map Qam)
def Q4d : AV := .fn (.func 69) [] [(.ref 0 1 (0) 0), (.ref 1 1 (0) 0), (.ref 2 4 (0) 0)]
def Q4e (p2 : GStream) : Slot := .own 4 [[(I (p2.Mass)), (I (p2.Heat)), (I (p2.Silica)), (I (p2.Gas))]]
def Zai : AV := .fn (.func 69) [] [(.ref 1 1 (0) 0), (.ref 0 1 (0) 0), (.ref 2 4 (0) 0)]
theorem Qk0 (N : Nat) (p0 : (List GRow)) (p1 : (List Int)) (p2 : GStream) (r : Unit) (h : Qf3 N p0 p1 p2 = some r) : Spec Try.prog 48 [(Qzy p0), (Qzx p1), (.agg [(I (p2.Mass)), (I (p2.Heat)), (I (p2.Silica)), (I (p2.Gas))])] [] Q4d [(.own 1 [[(Qzx p1)]]), (.own 1 [[(Qzy p0)]]), (Q4e p2)] := by
  refine Qag Try.func48 rfl 3 (nle rfl) (fun X φ0 w0 hφ0 hd0 => ?_)
  unfold Qf3 at h
  refine Qbs ?_
  refine wx tbk [] trivial ?_
  refine wx tbk [(0, rp [(.tmp 4, .ref 1 1 0 0), (.tmp 3, .ref 0 1 0 0), (.tmp 5, .ref 2 4 0 0)] Zai)] ⟨Qej (fs := []) (cs := [.ref 1 1 0 0, .ref 0 1 0 0, .ref 2 4 0 0]) rfl rfl rfl rfl, trivial⟩ ?_
  refine wmr (mto (n := 8) (l' := [(6, Q4d)]) (own' := [(.own 1 [[(Qzx p1)]]), (.own 1 [[(Qzy p0)]]), (Q4e p2)]) [(6, Zai)] [1, 0, 2] [(.own 1 [[(Qzx p1)]]), (.own 1 [[(Qzy p0)]]), (Q4e p2)] hφ0 (pc (.rn (Qbe rn0 (rnc (rqr rfl) (rnc (rqr rfl) (rnc (rqr rfl) rn0))))) pn) (qc (spb (lc (.rn (.plain _ (nld Qaf _))) ln)) (qc (spb (lc (.rn (.plain _ (nld Qai _))) ln)) (qc (spb (lc rwl (lc rwl (lc rwl (lc rwl ln))))) qn)))) ?_
  refine Qad ?_
  obtain rfl := osi h
  exact ⟨_, Mor.rfl, Qcx (vs := [Q4d]) ⟨rot (by kernel_rfl), trivial⟩ rfl (NLt.fn _ _ _ nl0 (nlc (NLt.ref _ _ _ _ (by decide)) (nlc (NLt.ref _ _ _ _ (by decide)) (nlc (NLt.ref _ _ _ _ (by decide)) nl0)))) (by kernel_rfl) (Qak (Qa6 (nlc (NLt.of0 (nld Qaf _)) nl0)) (Qak (Qa6 (nlc (NLt.of0 (nld Qai _)) nl0)) (Qak (Qa6 (nlc (NLt.of0 nll) (nlc (NLt.of0 nll) (nlc (NLt.of0 nll) (nlc (NLt.of0 nll) nl0))))) Qbo)))⟩
def Qbv (N : Nat) (p0 : (List Int)) (p1 : (List GRow)) : Nat → Int → Int → Int → Int → Int → Option (List GParts)
  | 0, _, _, _, _, _ => none
  | n13 + 1, y1, y2, y3, y4, y5 =>
    bif (decide (y1 < (p0.length : Int))) then
     (getI p0 y1).bind fun x15 =>
     (Qe7 N p1 x15).bind fun x20 =>
     (Qdv N (⟨(⟨x20.Row.T, x20.Row.P, x20.Row.Liquid, x20.Row.Vapour, x20.Row.Silica⟩ : GRow)⟩ : GFlash) (⟨y2, y3, y4, y5⟩ : GStream)).bind fun x22 =>
     yld (⟨(⟨x22.Steam.Mass, x22.Steam.Heat, x22.Steam.Silica, x22.Steam.Gas⟩ : GStream), (⟨x22.Water.Mass, x22.Water.Heat, x22.Water.Silica, x22.Water.Gas⟩ : GStream), x22.Rest, x22.Scale⟩ : GParts) <|
     Qbv N p0 p1 n13 (w64 (y1 + 1)) x22.Water.Mass x22.Water.Heat x22.Water.Silica x22.Water.Gas
    else
     some ([])
def Qf2 (N : Nat) (p0 : (List Int)) (p1 : (List GRow)) (p2 : Int) (p3 : Int) (p4 : Int) (p5 : Int) : Option (List GParts) :=
  Qbv N p0 p1 N 0 p2 p3 p4 p5
def Qlj (p0 : (List Int)) : AV := .dat 1 ((p0 : List Int).map Qam)
def Qqa (p1 : (List GRow)) : AV := .dat 5 ((p1 : List GRow).map Qav)
def Qwv (x20 : GFlash) : AV := .agg [(I (x20.Row.T)), (I (x20.Row.P)), (I (x20.Row.Liquid)), (I (x20.Row.Vapour)), (I (x20.Row.Silica))]
def Qp9 (x22 : GParts) : AV := .agg [(I (x22.Steam.Mass)), (I (x22.Steam.Heat)), (I (x22.Steam.Silica)), (I (x22.Steam.Gas)), (I (x22.Water.Mass)), (I (x22.Water.Heat)), (I (x22.Water.Silica)), (I (x22.Water.Gas)), (I (x22.Rest)), (I (x22.Scale))]
def Q35 (x22 : GParts) : Slot := .own 10 [[(I (x22.Steam.Mass)), (I (x22.Steam.Heat)), (I (x22.Steam.Silica)), (I (x22.Steam.Gas)), (I (x22.Water.Mass)), (I (x22.Water.Heat)), (I (x22.Water.Silica)), (I (x22.Water.Gas)), (I (x22.Rest)), (I (x22.Scale))]]
theorem Qkz (N : Nat) (p0 : (List Int)) (p1 : (List GRow)) (p2 : Int) (p3 : Int) (p4 : Int) (p5 : Int) (r : (List GParts)) (h : Qf2 N p0 p1 p2 p3 p4 p5 = some r) : Qo4 Try.prog 69 [(.ref 0 1 (0) 0), (.ref 1 1 (0) 0), (.ref 2 4 (0) 0)] [(.own 1 [[(Qlj p0)]]), (.own 1 [[(Qqa p1)]]), (.own 4 [[(I (p2)), (I (p3)), (I (p4)), (I (p5))]])] (fun x => [(.agg #[(.int .i64 (x.Steam.Mass)), (.int .i64 (x.Steam.Heat)), (.int .i64 (x.Steam.Silica)), (.int .i64 (x.Steam.Gas)), (.int .i64 (x.Water.Mass)), (.int .i64 (x.Water.Heat)), (.int .i64 (x.Water.Silica)), (.int .i64 (x.Water.Gas)), (.int .i64 (x.Rest)), (.int .i64 (x.Scale))])]) r := by
  refine Qok Try.func69 rfl rfl (fun X φ0 w0 l J hφ0 hy => ?_)
  unfold Qf2 at h
  refine wx tbk [(1, rp [(.tmp 8, (Qlj p0))] (I ((p0.length : Int))))] ⟨alm (c := Qam) (l := p0) (aln rfl Try.underlying27 rfl), trivial⟩ ?_
  refine Qaq ?_
  refine wmr (mto (n := 26) (l' := [(0, (.lit (.func (.yield l) #[] #[]))), (2, .ref 1 1 0 0), (3, .ref 2 4 0 0), (8, (Qlj p0)), (9, (I ((p0.length : Int)))), (10, I 0)]) (own' := [(.own 1 [[(Qlj p0)]]), (.own 1 [[(Qqa p1)]]), (.own 4 [[I p2, I p3, I p4, I p5]]), (.far (J (some (r))))]) [(0, (.lit (.func (.yield l) #[] #[]))), (2, .ref 1 1 0 0), (3, .ref 2 4 0 0), (8, (Qlj p0)), (9, (I ((p0.length : Int)))), (10, I 0)] [0, 1, 2, 3] [(.own 1 [[(Qlj p0)]]), (.own 1 [[(Qqa p1)]]), (.own 4 [[I p2, I p3, I p4, I p5]]), (.far (J (some (r))))] hφ0 (pc rwl (pc (.rn (rqr rfl)) (pc (.rn (rqr rfl)) (pc (.rn (.plain _ (nld Qaf _))) (pc rwl (pc rwl pn)))))) (qc (spb (lc (.rn (.plain _ (nld Qaf _))) ln)) (qc (spb (lc (.rn (.plain _ (nld Qai _))) ln)) (qc (spb (lc rwl (lc rwl (lc rwl (lc rwl ln))))) (qc (.far _) qn))))) ?_
  refine Qc9 (τ := (Int × Int × Int × Int × Int) × List GParts) (fun n t => Qbv N p0 p1 n t.1.1 t.1.2.1 t.1.2.2.1 t.1.2.2.2.1 t.1.2.2.2.2 = some t.2) (fun ⟨⟨y1, y2, y3, y4, y5⟩, q6⟩ => ⟨mk 26 [(0, (.lit (.func (.yield l) #[] #[]))), (2, .ref 1 1 0 0), (3, .ref 2 4 0 0), (8, (Qlj p0)), (9, (I ((p0.length : Int)))), (10, I y1)], [(.own 1 [[(Qlj p0)]]), (.own 1 [[(Qqa p1)]]), (.own 4 [[I y2, I y3, I y4, I y5]]), (.far (J (some (q6))))]⟩) (fun t h => by rw [Qbv] at h; cases h) (fun n13 ih t h => ?_) N ((0, p2, p3, p4, p5), r) h
  obtain ⟨⟨y1, y2, y3, y4, y5⟩, q6⟩ := t
  rw [Qbv] at h
  try dsimp only at h
  refine wx tbk [] trivial ?_
  refine wsq ?_
  rcases bft ((decide (y1 < (p0.length : Int)))) with hc14 | hc14
  ·replace h := Qa2 hc14 h
   refine wft hc14 (by kernel_rfl) ?_
   refine Qar ?_
   refine thn ?_
   refine wsq ?_
   refine Qaq ?_
   obtain ⟨x15, hg16, h⟩ := bno h
   obtain ⟨hi17, hj18⟩ := gsm hg16
   refine wx tbk [(0, rp [(.tmp 8, (Qlj p0)), (.tmp 10, I y1)] (.dptr (Qam (x15)) 0))] ⟨aid rfl Try.underlying27 ti3 rfl rfl hi17 (mgt Qam hj18) rfl, trivial⟩ ?_
   obtain ⟨x20, hf19, h⟩ := bno h
   obtain ⟨x22, hf21, h⟩ := bno h
   refine wxd tbk [(2, rp [fu 43, (.tmp 14, (Qqa p1)), (.tmp 15, I x15)] (Qwv x20)), (4, rp [fu 44, (.tmp 16, (Qwv x20)), (.tmp 17, (.agg [I y2, I y3, I y4, I y5]))] (Qp9 x22))] ⟨apc (first := []) (cap := []) (vs := [(Qqa p1), I x15]) rfl Q6m (Qj2 N p1 x15 _ hf19) rfl rfl (nlc (nld Qai _) (nlc nll nl0)) (NLt.agg _ (nlc nll (nlc nll (nlc nll (nlc nll (nlc nll nl0)))))) rfl, apc (first := []) (cap := []) (vs := [(Qwv x20), (.agg [I y2, I y3, I y4, I y5])]) rfl Q6l (Qj1 N (⟨(⟨x20.Row.T, x20.Row.P, x20.Row.Liquid, x20.Row.Vapour, x20.Row.Silica⟩ : GRow)⟩ : GFlash) (⟨y2, y3, y4, y5⟩ : GStream) _ hf21) rfl rfl (nlc (NLt.agg _ (nlc nll (nlc nll (nlc nll (nlc nll (nlc nll nl0)))))) (nlc (NLt.agg _ (nlc nll (nlc nll (nlc nll (nlc nll nl0))))) nl0)) (NLt.agg _ (nlc nll (nlc nll (nlc nll (nlc nll (nlc nll (nlc nll (nlc nll (nlc nll (nlc nll (nlc nll nl0))))))))))) rfl, trivial⟩ ?_
   refine wsq ?_
   obtain ⟨q23, hy_, hq_⟩ := Qs9 h
   clear h
   subst hq_
   have h := hy_
   clear hy_
   refine Q0v 2 [mv 0 (.lit (.func (.yield l) #[] #[])), rb [(.tmp 7, .ref 4 10 0 0)] [(4, (Q35 x22))] (Qp9 x22), ⟨[(.tmp 19, (.lit (.func (.yield l) #[] #[]))), (.tmp 20, (Qp9 x22))], [(3, (.far (J (some ((⟨(⟨x22.Steam.Mass, x22.Steam.Heat, x22.Steam.Silica, x22.Steam.Gas⟩ : GStream), (⟨x22.Water.Mass, x22.Water.Heat, x22.Water.Silica, x22.Water.Gas⟩ : GStream), x22.Rest, x22.Scale⟩ : GParts) :: q23)))))], B true, [(3, (.far (J (some (q23)))))], false⟩, rp [(.tmp 21, B true)] (B false)] [mv 0 (.lit (.func (.yield l) #[] #[])), rb [(.tmp 7, .ref 4 10 0 0)] [(4, (Q35 x22))] (Qp9 x22), ⟨[(.tmp 19, (.lit (.func (.yield l) #[] #[]))), (.tmp 20, (Qp9 x22))], [(3, (.far (J (some ((⟨(⟨x22.Steam.Mass, x22.Steam.Heat, x22.Steam.Silica, x22.Steam.Gas⟩ : GStream), (⟨x22.Water.Mass, x22.Water.Heat, x22.Water.Silica, x22.Water.Gas⟩ : GStream), x22.Rest, x22.Scale⟩ : GParts) :: q23)))))], B false, [(3, (.far (J none)))], false⟩, rp [(.tmp 21, B false)] (B true)] (by exact ⟨by kernel_rfl, by kernel_rfl⟩) (by exact ⟨by kernel_rfl, by kernel_rfl⟩) rfl rfl rfl rfl (Qla (rd' := (.tmp 19, .lit (.func (.yield l) #[] #[])) :: [(.tmp 20, .lit (.agg #[(.int .i64 (((⟨(⟨x22.Steam.Mass, x22.Steam.Heat, x22.Steam.Silica, x22.Steam.Gas⟩ : GStream), (⟨x22.Water.Mass, x22.Water.Heat, x22.Water.Silica, x22.Water.Gas⟩ : GStream), x22.Rest, x22.Scale⟩ : GParts).Steam).Mass)), (.int .i64 (((⟨(⟨x22.Steam.Mass, x22.Steam.Heat, x22.Steam.Silica, x22.Steam.Gas⟩ : GStream), (⟨x22.Water.Mass, x22.Water.Heat, x22.Water.Silica, x22.Water.Gas⟩ : GStream), x22.Rest, x22.Scale⟩ : GParts).Steam).Heat)), (.int .i64 (((⟨(⟨x22.Steam.Mass, x22.Steam.Heat, x22.Steam.Silica, x22.Steam.Gas⟩ : GStream), (⟨x22.Water.Mass, x22.Water.Heat, x22.Water.Silica, x22.Water.Gas⟩ : GStream), x22.Rest, x22.Scale⟩ : GParts).Steam).Silica)), (.int .i64 (((⟨(⟨x22.Steam.Mass, x22.Steam.Heat, x22.Steam.Silica, x22.Steam.Gas⟩ : GStream), (⟨x22.Water.Mass, x22.Water.Heat, x22.Water.Silica, x22.Water.Gas⟩ : GStream), x22.Rest, x22.Scale⟩ : GParts).Steam).Gas)), (.int .i64 (((⟨(⟨x22.Steam.Mass, x22.Steam.Heat, x22.Steam.Silica, x22.Steam.Gas⟩ : GStream), (⟨x22.Water.Mass, x22.Water.Heat, x22.Water.Silica, x22.Water.Gas⟩ : GStream), x22.Rest, x22.Scale⟩ : GParts).Water).Mass)), (.int .i64 (((⟨(⟨x22.Steam.Mass, x22.Steam.Heat, x22.Steam.Silica, x22.Steam.Gas⟩ : GStream), (⟨x22.Water.Mass, x22.Water.Heat, x22.Water.Silica, x22.Water.Gas⟩ : GStream), x22.Rest, x22.Scale⟩ : GParts).Water).Heat)), (.int .i64 (((⟨(⟨x22.Steam.Mass, x22.Steam.Heat, x22.Steam.Silica, x22.Steam.Gas⟩ : GStream), (⟨x22.Water.Mass, x22.Water.Heat, x22.Water.Silica, x22.Water.Gas⟩ : GStream), x22.Rest, x22.Scale⟩ : GParts).Water).Silica)), (.int .i64 (((⟨(⟨x22.Steam.Mass, x22.Steam.Heat, x22.Steam.Silica, x22.Steam.Gas⟩ : GStream), (⟨x22.Water.Mass, x22.Water.Heat, x22.Water.Silica, x22.Water.Gas⟩ : GStream), x22.Rest, x22.Scale⟩ : GParts).Water).Gas)), (.int .i64 ((⟨(⟨x22.Steam.Mass, x22.Steam.Heat, x22.Steam.Silica, x22.Steam.Gas⟩ : GStream), (⟨x22.Water.Mass, x22.Water.Heat, x22.Water.Silica, x22.Water.Gas⟩ : GStream), x22.Rest, x22.Scale⟩ : GParts).Rest)), (.int .i64 ((⟨(⟨x22.Steam.Mass, x22.Steam.Heat, x22.Steam.Silica, x22.Steam.Gas⟩ : GStream), (⟨x22.Water.Mass, x22.Water.Heat, x22.Water.Silica, x22.Water.Gas⟩ : GStream), x22.Rest, x22.Scale⟩ : GParts).Scale))]))]) ⟨rfl, lrf, rfl, (Less.lits [(.int .i64 (x22.Steam.Mass)), (.int .i64 (x22.Steam.Heat)), (.int .i64 (x22.Steam.Silica)), (.int .i64 (x22.Steam.Gas)), (.int .i64 (x22.Water.Mass)), (.int .i64 (x22.Water.Heat)), (.int .i64 (x22.Water.Silica)), (.int .i64 (x22.Water.Gas)), (.int .i64 (x22.Rest)), (.int .i64 (x22.Scale))]), trivial⟩ (Qj5 (x := (⟨(⟨x22.Steam.Mass, x22.Steam.Heat, x22.Steam.Silica, x22.Steam.Gas⟩ : GStream), (⟨x22.Water.Mass, x22.Water.Heat, x22.Water.Silica, x22.Water.Gas⟩ : GStream), x22.Rest, x22.Scale⟩ : GParts)) (rest := q23) rfl rfl hy rfl)) (⟨fun _ _ => amv rfl, fun _ _ => ald rfl ti79 (by decide) rfl (nle rfl) rfl, fun _ h => absurd rfl h, fun _ _ => Qh3 rfl, trivial⟩) (⟨fun _ _ => amv rfl, fun _ _ => ald rfl ti79 (by decide) rfl (nle rfl) rfl, fun _ h => absurd rfl h, fun _ _ => Qh3 rfl, trivial⟩) ?_ ?_
   ·skip
    refine Qg6 (by kernel_rfl) ?_
    refine Qar ?_
    refine thn ?_
    refine wx1 tbk [] trivial ?_
    refine bln ?_
    refine thn ?_
    refine wx1 tbk [] trivial ?_
    refine thn ?_
    exact arm (mto (n := 26) [(0, (.lit (.func (.yield l) #[] #[]))), (2, .ref 1 1 0 0), (3, .ref 2 4 0 0), (8, (Qlj p0)), (9, (I ((p0.length : Int)))), (10, (I (w64 (y1 + 1))))] [0, 1, 2, 3] [(.own 1 [[(Qlj p0)]]), (.own 1 [[(Qqa p1)]]), (.own 4 [[I x22.Water.Mass, I x22.Water.Heat, I x22.Water.Silica, I x22.Water.Gas]]), (.far (J (some (q23))))] hφ0 (pc rwl (pc (.rn (rqr rfl)) (pc (.rn (rqr rfl)) (pc (.rn (.plain _ (nld Qaf _))) (pc rwl (pc rwl pn)))))) (qc (spb (lc (.rn (.plain _ (nld Qaf _))) ln)) (qc (spb (lc (.rn (.plain _ (nld Qai _))) ln)) (qc (spb (lc rwl (lc rwl (lc rwl (lc rwl ln))))) (qc (.far _) qn))))) (ih ((w64 (y1 + 1), x22.Water.Mass, x22.Water.Heat, x22.Water.Silica, x22.Water.Gas), q23) h)
   ·clear h
    refine Qbq (by kernel_rfl) ?_
    refine Qad ?_
    refine Qaj ?_
    refine Qaw ?_
    refine Qaj ?_
    refine Qaj ?_
    refine Qaw ?_
    exact Or.inr (by kernel_rfl)
  ·replace h := Qa3 hc14 h
   refine wfn hc14 (by kernel_rfl) ?_
   refine Qcf ?_
   refine Qa8 ?_
   refine Qa8 ?_
   refine Qce rfl ?_
   obtain rfl := osi h
   exact Or.inl rfl
def Qbg (N : Nat) (k3 : (List GParts) → Option (List GParts)) : (List GParts) → (List GParts) → Option (List GParts)
  | [], y6 =>
    k3 (y6)
  | x9 :: q10, y6 =>
    chk (decide ((y6.length + ([(⟨(⟨x9.Steam.Mass, x9.Steam.Heat, x9.Steam.Silica, x9.Steam.Gas⟩ : GStream), (⟨x9.Water.Mass, x9.Water.Heat, x9.Water.Silica, x9.Water.Gas⟩ : GStream), x9.Rest, x9.Scale⟩ : GParts)]).length) * 80 ≤ 140737488355328)) <|
    Qbg N k3 q10 (y6 ++ ([(⟨(⟨x9.Steam.Mass, x9.Steam.Heat, x9.Steam.Silica, x9.Steam.Gas⟩ : GStream), (⟨x9.Water.Mass, x9.Water.Heat, x9.Water.Silica, x9.Water.Gas⟩ : GStream), x9.Rest, x9.Scale⟩ : GParts)]))
def Qcc (N : Nat) (p0 : (List Int)) (p1 : (List GRow)) (p2 : Int) (p3 : Int) (p4 : Int) (p5 : Int) : Option (List GParts) :=
  Qcv (fun y2 =>
    some y2) fun k3 : (List GParts) → Option (List GParts) =>
  (Qf2 N p0 p1 p2 p3 p4 p5).bind fun q4 =>
  Qbg N k3 q4 ([])
def Q39 : AV := .fn (.func 69) [] [(.ref 0 1 (0) 0), (.ref 1 1 (0) 0), (.ref 2 4 (0) 0)]
def Qzw (p0 : (List Int)) : AV := .dat 1 ((p0 : List Int).map Qam)
def Qzv (p1 : (List GRow)) : AV := .dat 5 ((p1 : List GRow).map Qav)
def Qzu (p2 : Int) (p3 : Int) (p4 : Int) (p5 : Int) : Slot := .own 4 [[(I (p2)), (I (p3)), (I (p4)), (I (p5))]]
def Qww (y6 : (List GParts)) : AV := .acc 4 79 10 ((y6 : List GParts).map Qbf)
def Q38 (x9 : GParts) : AV := .agg [(I (x9.Steam.Mass)), (I (x9.Steam.Heat)), (I (x9.Steam.Silica)), (I (x9.Steam.Gas)), (I (x9.Water.Mass)), (I (x9.Water.Heat)), (I (x9.Water.Silica)), (I (x9.Water.Gas)), (I (x9.Rest)), (I (x9.Scale))]
def Q37 (x9 : GParts) : AV := .dat 10 (([(⟨(⟨x9.Steam.Mass, x9.Steam.Heat, x9.Steam.Silica, x9.Steam.Gas⟩ : GStream), (⟨x9.Water.Mass, x9.Water.Heat, x9.Water.Silica, x9.Water.Gas⟩ : GStream), x9.Rest, x9.Scale⟩ : GParts)] : List GParts).map Qbf)
def Q36 (y6 : (List GParts)) (x9 : GParts) : AV := .acc 7 79 10 ((y6 ++ ([(⟨(⟨x9.Steam.Mass, x9.Steam.Heat, x9.Steam.Silica, x9.Steam.Gas⟩ : GStream), (⟨x9.Water.Mass, x9.Water.Heat, x9.Water.Silica, x9.Water.Gas⟩ : GStream), x9.Rest, x9.Scale⟩ : GParts)]) : List GParts).map Qbf)
theorem Qf1 (N : Nat) (p0 : (List Int)) (p1 : (List GRow)) (p2 : Int) (p3 : Int) (p4 : Int) (p5 : Int) (r : (List GParts)) (h : Qcc N p0 p1 p2 p3 p4 p5 = some r) : Spec Try.prog 68 [nilS, Q39] [(.own 1 [[(Qzw p0)]]), (.own 1 [[(Qzv p1)]]), (Qzu p2 p3 p4 p5)] (.dat 10 ((r : List GParts).map Qbf)) [.dead, .dead, .dead] := by
  refine Qag Try.func68 rfl 3 (nle rfl) (fun X φ0 w0 hφ0 hd0 => ?_)
  unfold Qcc at h
  refine Qbs ?_
  refine wx tbk [] trivial ?_
  obtain ⟨k3, hk_k3, h⟩ := jko h
  refine wjn (τ := (List GParts)) (fun t => k3 t = some r) (fun y2 => ⟨mk 13 [(2, .ref 3 1 0 0)], [.dead, .dead, .dead, (.own 1 [[(.acc 4 79 10 ((y2 : List GParts).map Qbf))]]), .tok]⟩) (fun y2 h => ?_) ?_
  ·subst hk_k3
   refine wx tbk [] trivial ?_
   refine wmr (mto (n := 13) (l' := [(4, (.dat 10 ((y2 : List GParts).map Qbf)))]) (own' := [.dead, .dead, .dead]) [(4, (.acc 4 79 10 ((y2 : List GParts).map Qbf)))] [0, 1, 2] [.dead, .dead, .dead] hφ0 (pc (.dat _ _ _ _ (Qei Qey _)) pn) (qc .dead (qc .dead (qc .dead qn)))) ?_
   refine Qad ?_
   obtain rfl := osi h
   exact ⟨_, Mor.rfl, Qcx (vs := [(.dat 10 ((y2 : List GParts).map Qbf))]) ⟨rot (by kernel_rfl), trivial⟩ rfl (NLt.of0 (nld Qey _)) (by kernel_rfl) (Qak .dead (Qak .dead (Qak .dead Qbo)))⟩
  ·skip
   refine wx tbk [] trivial ?_
   refine Qaq ?_
   obtain ⟨q4, hL5, h⟩ := bno h
   refine wmr (mto (n := 13) (l' := [(2, .ref 3 1 0 0), (6, Q39)]) (own' := [(.own 1 [[(Qzw p0)]]), (.own 1 [[(Qzv p1)]]), (Qzu p2 p3 p4 p5), (.own 1 [[nilS]])]) [(2, .ref 3 1 0 0), (6, Q39)] [0, 1, 2, 3] [(.own 1 [[(Qzw p0)]]), (.own 1 [[(Qzv p1)]]), (Qzu p2 p3 p4 p5), (.own 1 [[nilS]])] hφ0 (pc (.rn (rqr rfl)) (pc (.rn (Qbe rn0 (rnc (rqr rfl) (rnc (rqr rfl) (rnc (rqr rfl) rn0))))) pn)) (qc (spb (lc (.rn (.plain _ (nld Qaf _))) ln)) (qc (spb (lc (.rn (.plain _ (nld Qai _))) ln)) (qc (spb (lc rwl (lc rwl (lc rwl (lc rwl ln))))) (qc (spb (lc rwl ln)) qn))))) ?_
   refine wmr (Qtp (n := 4) (ty := 79) (m := 10) (q := 3) (mq := 1) (c := [nilS]) 0 (by kernel_rfl) (by kernel_rfl) (by kernel_rfl) (by decide)) ?_
   refine Qoy (τ := ((List GParts))) (kb := 4) (caps := [.ref 0 1 0 0, .ref 1 1 0 0, .ref 2 4 0 0]) (σr := [(.own 1 [[(Qzw p0)]]), (.own 1 [[(Qzv p1)]]), (Qzu p2 p3 p4 p5)]) (encs := fun x => [(.agg #[(.int .i64 (x.Steam.Mass)), (.int .i64 (x.Steam.Heat)), (.int .i64 (x.Steam.Silica)), (.int .i64 (x.Steam.Gas)), (.int .i64 (x.Water.Mass)), (.int .i64 (x.Water.Heat)), (.int .i64 (x.Water.Silica)), (.int .i64 (x.Water.Gas)), (.int .i64 (x.Rest)), (.int .i64 (x.Scale))])]) (fun x => [(.agg [I x.Steam.Mass, I x.Steam.Heat, I x.Steam.Silica, I x.Steam.Gas, I x.Water.Mass, I x.Water.Heat, I x.Water.Silica, I x.Water.Gas, I x.Rest, I x.Scale])]) [0, 1, 2] (fun n hn => hφ0 n (Nat.le_trans (nle rfl) hn)) hd0 (Qkz N p0 p1 p2 p3 p4 p5 _ hL5) Zek (by kernel_rfl) (by kernel_rfl) (Qbr (rnc (Qbk rfl) (rnc (Qbk rfl) (rnc (Qbk rfl) rn0)))) (slc (Qal (rnc (.plain _ (nld Qaf _)) rn0)) (slc (Qal (rnc (.plain _ (nld Qai _)) rn0)) (slc (Qal (rnc (.plain _ nll) (rnc (.plain _ nll) (rnc (.plain _ nll) (rnc (.plain _ nll) rn0))))) Qan))) (by kernel_rfl) (fun _ => rfl) (fun x => ⟨(Less.unlits [(.int .i64 (x.Steam.Mass)), (.int .i64 (x.Steam.Heat)), (.int .i64 (x.Steam.Silica)), (.int .i64 (x.Steam.Gas)), (.int .i64 (x.Water.Mass)), (.int .i64 (x.Water.Heat)), (.int .i64 (x.Water.Silica)), (.int .i64 (x.Water.Gas)), (.int .i64 (x.Rest)), (.int .i64 (x.Scale))]), trivial⟩) (Q5t (Ql4 (NLt.ref _ _ _ _ (by decide)) (Ql4 (NLt.fn _ _ _ nl0 (nlc (NLt.ref _ _ _ _ (by decide)) (nlc (NLt.ref _ _ _ _ (by decide)) (nlc (NLt.ref _ _ _ _ (by decide)) nl0)))) Qxp))) (fun y6 => [.dead, .dead, .dead, (.own 1 [[(Qww y6)]]), .tok]) (fun _ => rfl) (fun _ => rfl) (fun l t => Qbg N k3 l t = some r) ([]) h (by kernel_rfl) ?_ ?_
   ·intro l11 o12 X15 φ16 w17 hφ14 x9 q10 y6 h
    rw [Qbg] at h
    refine wx1 tbk [] trivial ?_
    refine ⟨by kernel_rfl, fun o13 => ?_⟩
    refine Qaq ?_
    obtain ⟨ha18, h⟩ := cko h
    refine wx1 tbk [(2, rp [(.tmp 9, (Q38 x9))] (Q37 x9)), (3, ⟨[(.tmp 8, (Qww y6)), (.tmp 10, (Q37 x9))], [(4, .tok), (7, .unused)], (Q36 y6 x9), [(4, .dead), (7, .tok)], false⟩)] ⟨Qbp (vs := [(Q38 x9)]) rfl Try.underlying82 ti79 tz79 rfl (by decide) rfl (by decide) (by rfl) (by rfl) (by rfl) rfl, Qkv rfl Try.underlying82 te79 (Base.acc _ _) rfl rfl (by rfl) (Qo3 Qbf ha18) (Qo2 Qbf ha18 (by decide)) (Qo1 Qbf) rfl rfl, trivial⟩ ?_
    refine bln ?_
    exact ⟨(y6 ++ ([(⟨(⟨x9.Steam.Mass, x9.Steam.Heat, x9.Steam.Silica, x9.Steam.Gas⟩ : GStream), (⟨x9.Water.Mass, x9.Water.Heat, x9.Water.Silica, x9.Water.Gas⟩ : GStream), x9.Rest, x9.Scale⟩ : GParts)])), h, Q5d (own' := [.dead, .dead, .dead, (.own 1 [[(.acc 4 79 10 (((y6 ++ ([(⟨(⟨x9.Steam.Mass, x9.Steam.Heat, x9.Steam.Silica, x9.Steam.Gas⟩ : GStream), (⟨x9.Water.Mass, x9.Water.Heat, x9.Water.Silica, x9.Water.Gas⟩ : GStream), x9.Rest, x9.Scale⟩ : GParts)])) : List GParts).map Qbf))]]), .tok, (.far (farL l11 o13))]) [0, 1, 2, 3, 7, 5] [.dead, .dead, .dead, (.own 1 [[(Q36 y6 x9)]]), .tok, (.far (farL l11 o13))] (by kernel_rfl) (by kernel_rfl) ⟨.dead, .dead, .dead, (spb (lc (.rn (Qgn rfl (Qei Qey _))) ln)), .tok, .far _, trivial⟩⟩
   ·intro y6 h
    rw [Qbg] at h
    refine bln ?_
    refine thn ?_
    exact ⟨(y6), h, (mto (n := 13) [(2, .ref 3 1 0 0)] [0, 1, 2, 3, 4] [.dead, .dead, .dead, (.own 1 [[(Qww y6)]]), .tok] hφ0 (pc (.rn (rqr rfl)) pn) (qc .dead (qc .dead (qc .dead (qc (spb (lc (.rn (Qgn rfl (Qei Qey _))) ln)) (qc .tok qn))))))⟩
def Qc5 (N : Nat) (p0 : (List Int)) (p1 : (List GRow)) (p2 : Int) (p3 : Int) (p4 : Int) (p5 : Int) : Option (List GParts) :=
  (Qcc N p0 p1 p2 p3 p4 p5).bind fun x3 =>
  some x3
def Q4c : AV := .fn (.func 69) [] [(.ref 0 1 (0) 0), (.ref 1 1 (0) 0), (.ref 2 4 (0) 0)]
def Q4b (p0 : (List Int)) : AV := .dat 1 ((p0 : List Int).map Qam)
def Q4a (p1 : (List GRow)) : AV := .dat 5 ((p1 : List GRow).map Qav)
def Qus (x3 : (List GParts)) : AV := .dat 10 ((x3 : List GParts).map Qbf)
theorem Qh4 (N : Nat) (p0 : (List Int)) (p1 : (List GRow)) (p2 : Int) (p3 : Int) (p4 : Int) (p5 : Int) (r : (List GParts)) (h : Qc5 N p0 p1 p2 p3 p4 p5 = some r) : Spec Try.prog 47 [Q4c] [(.own 1 [[(Q4b p0)]]), (.own 1 [[(Q4a p1)]]), (.own 4 [[(I (p2)), (I (p3)), (I (p4)), (I (p5))]])] (.dat 10 ((r : List GParts).map Qbf)) [.dead, .dead, .dead] := by
  refine Qag Try.func47 rfl 3 (nle rfl) (fun X φ0 w0 hφ0 hd0 => ?_)
  unfold Qc5 at h
  refine Qbs ?_
  refine wx tbk [] trivial ?_
  obtain ⟨x3, hf2, h⟩ := bno h
  refine wx tbk [(1, ⟨[fu 68, ((.const (.slice none 0 0)), nilS), (.tmp 3, Q4c)], [(0, (.own 1 [[(Q4b p0)]])), (1, (.own 1 [[(Q4a p1)]])), (2, .own 4 [[I p2, I p3, I p4, I p5]])], (Qus x3), [(0, .dead), (1, .dead), (2, .dead)], false⟩)] ⟨Qao (first := []) (cap := []) (vs := [nilS, Q4c]) (σr := [(.own 1 [[(Q4b p0)]]), (.own 1 [[(Q4a p1)]]), (.own 4 [[I p2, I p3, I p4, I p5]])]) (σr' := [.dead, .dead, .dead]) (res' := (Qus x3)) [0, 1, 2] rfl Zel (Qf1 N p0 p1 p2 p3 p4 p5 _ hf2) rfl (Qbr (rnc (.plain _ nll) (rnc (Qbe rn0 (rnc (Qbb rfl) (rnc (Qbb rfl) (rnc (Qbb rfl) rn0)))) rn0))) (slc (Qal (rnc (.plain _ (nld Qaf _)) rn0)) (slc (Qal (rnc (.plain _ (nld Qai _)) rn0)) (slc (Qal (rnc (.plain _ nll) (rnc (.plain _ nll) (rnc (.plain _ nll) (rnc (.plain _ nll) rn0))))) Qan))) (slc .dead (slc .dead (slc .dead Qan))) (.plain _ (nld Qey _)) rfl rfl rfl, trivial⟩ ?_
  refine wmr (mto (n := 5) (l' := [(2, (Qus x3))]) (own' := [.dead, .dead, .dead]) [(2, (Qus x3))] [0, 1, 2] [.dead, .dead, .dead] hφ0 (pc (.rn (.plain _ (nld Qey _))) pn) (qc .dead (qc .dead (qc .dead qn)))) ?_
  refine Qad ?_
  obtain rfl := osi h
  exact ⟨_, Mor.rfl, Qcx (vs := [(Qus x3)]) ⟨rot (by kernel_rfl), trivial⟩ rfl (NLt.of0 (nld Qey _)) (by kernel_rfl) (Qak .dead (Qak .dead (Qak .dead Qbo)))⟩
def Qdw (N : Nat) (p1 : (List Int)) (k5 : Unit → Option ((List GParts) × Int)) : Nat → Int → Option ((List GParts) × Int)
  | 0, _ => none
  | n16 + 1, y14 =>
    bif (decide (y14 < ((p1.drop (1 : Int).toNat).length : Int))) then
     (getI p1 (w64 (y14 + 1))).bind fun x18 =>
     (getI p1 y14).bind fun x22 =>
     bif (decide (x18 ≥ x22)) then
      some ([], 2)
     else
      Qdw N p1 k5 n16 (w64 (y14 + 1))
    else
     k5 ()
def Qij (N : Nat) (p0 : (List GRow)) (p1 : (List Int)) (p2 : GStream) : Option ((List GParts) × Int) :=
  (Qdx N p0).bind fun x2 =>
  bif (!x2) then
   some ([], 1)
  else
   Qcv (fun _ =>
     Qcv (fun _ =>
       (Qda N p2).bind fun x7 =>
       bif (!x7) then
        some ([], 1)
       else
        (Qf3 N p0 p1 p2).bind fun _ =>
        (Qc5 N p1 p0 p2.Mass p2.Heat p2.Silica p2.Gas).bind fun x12 =>
        some (x12, 0)) fun k5 : Unit → Option ((List GParts) × Int) =>
     chk (decide (0 ≤ 1) && decide (1 ≤ (p1.length : Int)) && decide ((p1.length : Int) ≤ (p1.length : Int))) <|
     Qdw N p1 k5 N 0) fun k4 : Unit → Option ((List GParts) × Int) =>
   (Qct N (p1.length : Int) 1 20).bind fun x28 =>
   bif (!x28) then
    some ([], 2)
   else
    (Qgf N p1 p0).bind fun x31 =>
    bif (!x31) then
     some ([], 2)
    else
     k4 ()
def Qg5 (p0 : (List GRow)) : AV := .dat 5 ((p0 : List GRow).map Qav)
def Quv : AV := .dat 10 (([] : List GParts).map Qbf)
def Qg4 (p1 : (List Int)) : AV := .dat 1 ((p1 : List Int).map Qam)
def Qld (p2 : GStream) : Slot := .own 4 [[(I (p2.Mass)), (I (p2.Heat)), (I (p2.Silica)), (I (p2.Gas))]]
def Qz0 (p2 : GStream) : AV := .agg [(I (p2.Mass)), (I (p2.Heat)), (I (p2.Silica)), (I (p2.Gas))]
def Qzz : AV := .fn (.func 69) [] [(.ref 1 1 (0) 0), (.ref 2 1 (0) 0), (.ref 3 4 (0) 0)]
def Q4j (x12 : (List GParts)) : AV := .dat 10 ((x12 : List GParts).map Qbf)
theorem Qql (N : Nat) (p0 : (List GRow)) (p1 : (List Int)) (p2 : GStream) (r : ((List GParts) × Int)) (h : Qij N p0 p1 p2 = some r) : Spec Try.prog 26 [(.dat 5 (p0.map Qav)), (.dat 1 (p1.map Qam)), (.agg (Qaa p2))] [] (.tup [(.dat 10 (r.1.map Qbf)), (I r.2)]) [] := by
  refine Qag Try.func26 rfl 0 (nle rfl) (fun X φ0 w0 hφ0 hd0 => ?_)
  unfold Qij at h
  refine wx tbk [] trivial ?_
  refine wsq ?_
  obtain ⟨x2, hf1, h⟩ := bno h
  refine wx tbk [(1, rp [fu 41, (.tmp 10, (Qg5 p0))] (B x2))] ⟨apc (first := []) (cap := []) (vs := [(Qg5 p0)]) rfl Qx4 (Qgs N p0 _ hf1) rfl rfl (nlc (nld Qai _) nl0) nll rfl, trivial⟩ ?_
  rcases bft ((!x2)) with hc3 | hc3
  ·replace h := Qa2 hc3 h
   refine wft hc3 (by kernel_rfl) ?_
   refine wx tbk [] trivial ?_
   refine Qad ?_
   refine Qaj ?_
   obtain rfl := osi h
   exact fend ⟨[Quv, I 1], ⟨Qe4 (v := nilS) (rot (by kernel_rfl)) Less.nil, rot (by kernel_rfl), trivial⟩, rfl⟩ (NLt.tup _ (nlc (nld Qey _) (nlc nll nl0)))
  ·replace h := Qa3 hc3 h
   refine wfn hc3 (by kernel_rfl) ?_
   refine Qar ?_
   refine thn ?_
   refine wx tbk [(1, rp [(.tmp 13, (Qg5 p0))] (.fn (.func 42) [(Qg5 p0)] []))] ⟨Qej (fs := [(Qg5 p0)]) (cs := []) rfl rfl rfl rfl, trivial⟩ ?_
   obtain ⟨k4, hk_k4, h⟩ := jko h
   refine wjn (τ := Unit) (fun t => k4 t = some r) (fun _ => ⟨mk 50 [(0, (Qg5 p0)), (1, (Qg4 p1)), (5, .ref 0 4 0 0)], [(Qld p2)]⟩) (fun t h => ?_) ?_
   ·subst hk_k4
    obtain ⟨k5, hk_k5, h⟩ := jko h
    refine wjn (τ := Unit) (fun t => k5 t = some r) (fun _ => ⟨mk 50 [(0, (Qg5 p0)), (1, (Qg4 p1)), (5, .ref 0 4 0 0)], [(Qld p2)]⟩) (fun t h => ?_) ?_
    ·subst hk_k5
     refine wsq ?_
     obtain ⟨x7, hf6, h⟩ := bno h
     refine wx tbk [(1, rp [fu 34, (.tmp 42, (Qz0 p2))] (B x7))] ⟨apc (first := []) (cap := []) (vs := [(Qz0 p2)]) rfl Qna (Qc6 N p2 _ hf6) rfl rfl (nlc (NLt.agg _ (nlc nll (nlc nll (nlc nll (nlc nll nl0))))) nl0) nll rfl, trivial⟩ ?_
     rcases bft ((!x7)) with hc8 | hc8
     ·replace h := Qa2 hc8 h
      refine wft hc8 (by kernel_rfl) ?_
      refine wx tbk [] trivial ?_
      refine Qad ?_
      refine Qaj ?_
      obtain rfl := osi h
      exact fend ⟨[Quv, I 1], ⟨Qe4 (v := nilS) (rot (by kernel_rfl)) Less.nil, rot (by kernel_rfl), trivial⟩, rfl⟩ (NLt.tup _ (nlc (nld Qey _) (nlc nll nl0)))
     ·replace h := Qa3 hc8 h
      refine wfn hc8 (by kernel_rfl) ?_
      refine Qar ?_
      refine thn ?_
      obtain ⟨x10, hf9, h⟩ := bno h
      obtain ⟨x12, hf11, h⟩ := bno h
      refine wx tbk [(3, ⟨[fu 48, (.tmp 45, (Qg5 p0)), (.tmp 46, (Qg4 p1)), (.tmp 47, (Qz0 p2))], [(1, .unused), (2, .unused), (3, .unused)], Qzz, [(1, (.own 1 [[(Qg4 p1)]])), (2, (.own 1 [[(Qg5 p0)]])), (3, (Qld p2))], false⟩), (4, ⟨[fu 47, (.tmp 48, Qzz)], [(1, (.own 1 [[(Qg4 p1)]])), (2, (.own 1 [[(Qg5 p0)]])), (3, (Qld p2))], (Q4j x12), [(1, .dead), (2, .dead), (3, .dead)], false⟩)] ⟨Qao (first := []) (cap := []) (vs := [(Qg5 p0), (Qg4 p1), (Qz0 p2)]) (σr := []) (σr' := [(.own 1 [[(Qg4 p1)]]), (.own 1 [[(Qg5 p0)]]), (Qld p2)]) (res' := Qzz) [1, 2, 3] rfl Zex (Qk0 N p0 p1 p2 _ hf9) rfl (Qbr (rnc (.plain _ (nld Qai _)) (rnc (.plain _ (nld Qaf _)) (rnc (.plain _ (NLt.agg _ (nlc nll (nlc nll (nlc nll (nlc nll nl0)))))) rn0)))) Qan (slc (Qal (rnc (.plain _ (nld Qaf _)) rn0)) (slc (Qal (rnc (.plain _ (nld Qai _)) rn0)) (slc (Qal (rnc (.plain _ nll) (rnc (.plain _ nll) (rnc (.plain _ nll) (rnc (.plain _ nll) rn0))))) Qan))) (Qbe rn0 (rnc (Qbk rfl) (rnc (Qbk rfl) (rnc (Qbk rfl) rn0)))) rfl rfl rfl, Qao (first := []) (cap := []) (vs := [Qzz]) (σr := [(.own 1 [[(Qg4 p1)]]), (.own 1 [[(Qg5 p0)]]), (Qld p2)]) (σr' := [.dead, .dead, .dead]) (res' := (Q4j x12)) [1, 2, 3] rfl Zey (Qh4 N p1 p0 p2.Mass p2.Heat p2.Silica p2.Gas _ hf11) rfl (Qbr (rnc (Qbe rn0 (rnc (Qbb rfl) (rnc (Qbb rfl) (rnc (Qbb rfl) rn0)))) rn0)) (slc (Qal (rnc (.plain _ (nld Qaf _)) rn0)) (slc (Qal (rnc (.plain _ (nld Qai _)) rn0)) (slc (Qal (rnc (.plain _ nll) (rnc (.plain _ nll) (rnc (.plain _ nll) (rnc (.plain _ nll) rn0))))) Qan))) (slc .dead (slc .dead (slc .dead Qan))) (.plain _ (nld Qey _)) rfl rfl rfl, trivial⟩ ?_
      refine Qad ?_
      obtain rfl := osi h
      exact fend ⟨[(Q4j x12), I 0], ⟨rot (by kernel_rfl), rot (by kernel_rfl), trivial⟩, rfl⟩ (NLt.tup _ (nlc (nld Qey _) (nlc nll nl0)))
    ·skip
     obtain ⟨hs13, h⟩ := cko h
     refine wx tbk [(1, rp [(.tmp 25, (Qg4 p1)), ci 1] (.dat 1 ((p1.drop (1 : Int).toNat : List Int).map Qam))), (2, rp [(.tmp 26, (.dat 1 ((p1.drop (1 : Int).toNat : List Int).map Qam)))] (I (((p1.drop (1 : Int).toNat).length : Int))))] ⟨Qj6 (k := .i64) (k' := .i64) (lo := some (.const (.int .i64 1))) (hi := none) (l := 1) (hh := ((p1.length : Nat) : Int)) rfl Try.underlying27 ti3 rfl (fun e => nomatch e) (fun _ => by simp) (Qys hs13) (Qyr hs13) (Q9v (Qam) hs13) (Zgj Qam), alm (c := Qam) (l := p1.drop (1 : Int).toNat) (aln rfl Try.underlying27 rfl), trivial⟩ ?_
     refine Qaq ?_
     refine wmr (mto (n := 50) (l' := [(0, (Qg5 p0)), (1, (Qg4 p1)), (5, .ref 0 4 0 0), (27, (I (((p1.drop (1 : Int).toNat).length : Int)))), (28, I 0)]) (own' := [(Qld p2)]) [(0, (Qg5 p0)), (1, (Qg4 p1)), (5, .ref 0 4 0 0), (27, (I (((p1.drop (1 : Int).toNat).length : Int)))), (28, I 0)] [0] [(Qld p2)] hφ0 (pc (.rn (.plain _ (nld Qai _))) (pc (.rn (.plain _ (nld Qaf _))) (pc (.rn (rqr rfl)) (pc rwl (pc rwl pn))))) (qc (spb (lc rwl (lc rwl (lc rwl (lc rwl ln))))) qn)) ?_
     refine Qc9 (τ := Int) (fun n t => Qdw N p1 k5 n t = some r) (fun y14 => ⟨mk 50 [(0, (Qg5 p0)), (1, (Qg4 p1)), (5, .ref 0 4 0 0), (27, (I (((p1.drop (1 : Int).toNat).length : Int)))), (28, I y14)], [(Qld p2)]⟩) (fun t h => by rw [Qdw] at h; cases h) (fun n16 ih y14 h => ?_) N (0) h
     rw [Qdw] at h
     skip
     refine wx tbk [] trivial ?_
     refine wsq ?_
     rcases bft ((decide (y14 < ((p1.drop (1 : Int).toNat).length : Int)))) with hc17 | hc17
     ·replace h := Qa2 hc17 h
      refine wft hc17 (by kernel_rfl) ?_
      refine Qar ?_
      refine thn ?_
      refine wsq ?_
      refine Qaq ?_
      refine wx tbk [] trivial ?_
      obtain ⟨x18, hg19, h⟩ := bno h
      obtain ⟨hi20, hj21⟩ := gsm hg19
      obtain ⟨x22, hg23, h⟩ := bno h
      obtain ⟨hi24, hj25⟩ := gsm hg23
      refine wxd tbk [(3, rp [(.tmp 31, (Qg4 p1)), (.tmp 33, (I (w64 (y14 + 1))))] (.dptr (Qam (x18)) 0)), (7, rp [(.tmp 36, (Qg4 p1)), (.tmp 37, I y14)] (.dptr (Qam (x22)) 0))] ⟨aid rfl Try.underlying27 ti3 rfl rfl hi20 (mgt Qam hj21) rfl, aid rfl Try.underlying27 ti3 rfl rfl hi24 (mgt Qam hj25) rfl, trivial⟩ ?_
      rcases bft ((decide (x18 ≥ x22))) with hc26 | hc26
      ·replace h := Qa2 hc26 h
       refine wft hc26 (by kernel_rfl) ?_
       refine wx tbk [] trivial ?_
       refine Qad ?_
       refine Qaw ?_
       refine Qaj ?_
       refine Qaj ?_
       refine Qaw ?_
       refine Qaj ?_
       obtain rfl := osi h
       exact fend ⟨[Quv, I 2], ⟨Qe4 (v := nilS) (rot (by kernel_rfl)) Less.nil, rot (by kernel_rfl), trivial⟩, rfl⟩ (NLt.tup _ (nlc (nld Qey _) (nlc nll nl0)))
      ·replace h := Qa3 hc26 h
       refine wfn hc26 (by kernel_rfl) ?_
       refine Qar ?_
       refine bln ?_
       refine thn ?_
       refine wx1 tbk [] trivial ?_
       refine thn ?_
       exact arm (mto (n := 50) [(0, (Qg5 p0)), (1, (Qg4 p1)), (5, .ref 0 4 0 0), (27, (I (((p1.drop (1 : Int).toNat).length : Int)))), (28, (I (w64 (y14 + 1))))] [0] [(Qld p2)] hφ0 (pc (.rn (.plain _ (nld Qai _))) (pc (.rn (.plain _ (nld Qaf _))) (pc (.rn (rqr rfl)) (pc rwl (pc rwl pn))))) (qc (spb (lc rwl (lc rwl (lc rwl (lc rwl ln))))) qn)) (ih (w64 (y14 + 1)) h)
     ·replace h := Qa3 hc17 h
      refine wfn hc17 (by kernel_rfl) ?_
      refine Qcf ?_
      refine Qa8 ?_
      refine Qa8 ?_
      refine Qce rfl ?_
      refine thn ?_
      exact ⟨(), h, (mto (n := 50) [(0, (Qg5 p0)), (1, (Qg4 p1)), (5, .ref 0 4 0 0)] [0] [(Qld p2)] hφ0 (pc (.rn (.plain _ (nld Qai _))) (pc (.rn (.plain _ (nld Qaf _))) (pc (.rn (rqr rfl)) pn))) (qc (spb (lc rwl (lc rwl (lc rwl (lc rwl ln))))) qn))⟩
   ·skip
    obtain ⟨x28, hf27, h⟩ := bno h
    rcases bft ((!x28)) with hb29 | hb29
    ·replace h := Qa2 hb29 h
     refine wx tbk [(1, rp [(.tmp 15, (Qg4 p1))] (I ((p1.length : Int)))), (2, rp [fu 45, (.tmp 16, (I ((p1.length : Int)))), ci 1, ci 20] (B x28)), (4, rp [(.tmp 18, (B ((!x28))))] (B true))] ⟨alm (c := Qam) (l := p1) (aln rfl Try.underlying27 rfl), apc (first := []) (cap := []) (vs := [(I ((p1.length : Int))), I 1, I 20]) rfl Qdf (Qas N (p1.length : Int) 1 20 _ hf27) rfl rfl (nlc nll (nlc nll (nlc nll nl0))) nll rfl, asb hb29 (amv rfl), trivial⟩ ?_
     refine Qbq (by kernel_rfl) ?_
     refine wx tbk [] trivial ?_
     refine Qad ?_
     refine Qaj ?_
     obtain rfl := osi h
     exact fend ⟨[Quv, I 2], ⟨Qe4 (v := nilS) (rot (by kernel_rfl)) Less.nil, rot (by kernel_rfl), trivial⟩, rfl⟩ (NLt.tup _ (nlc (nld Qey _) (nlc nll nl0)))
    ·replace h := Qa3 hb29 h
     obtain ⟨x31, hf30, h⟩ := bno h
     refine wx tbk [(1, rp [(.tmp 15, (Qg4 p1))] (I ((p1.length : Int)))), (2, rp [fu 45, (.tmp 16, (I ((p1.length : Int)))), ci 1, ci 20] (B x28)), (4, rp [(.tmp 18, (B ((!x28))))] (B false)), (7, rp [(.tmp 19, B false), fu 46, (.tmp 20, (Qg4 p1)), (.tmp 21, (.fn (.func 42) [(Qg5 p0)] []))] (B x31))] ⟨alm (c := Qam) (l := p1) (aln rfl Try.underlying27 rfl), apc (first := []) (cap := []) (vs := [(I ((p1.length : Int))), I 1, I 20]) rfl Qdf (Qas N (p1.length : Int) 1 20 _ hf27) rfl rfl (nlc nll (nlc nll (nlc nll nl0))) nll rfl, asb hb29 (amv rfl), ag_ (Qao (first := []) (cap := []) (vs := [(Qg4 p1), (.fn (.func 42) [(Qg5 p0)] [])]) (σr := []) (σr' := []) (res' := (B x31)) [] rfl Qx3 (Qmz N p1 p0 _ hf30) rfl (Qbr (rnc (.plain _ (nld Qaf _)) (rnc (.plain _ (NLt.fn _ _ _ (nlc (nld Qai _) nl0) nl0)) rn0))) Qan Qan (.plain _ nll) rfl rfl rfl), trivial⟩ ?_
     rcases bft ((!x31)) with hc32 | hc32
     ·replace h := Qa2 hc32 h
      refine wft hc32 (by kernel_rfl) ?_
      refine wx tbk [] trivial ?_
      refine Qad ?_
      refine Qaj ?_
      obtain rfl := osi h
      exact fend ⟨[Quv, I 2], ⟨Qe4 (v := nilS) (rot (by kernel_rfl)) Less.nil, rot (by kernel_rfl), trivial⟩, rfl⟩ (NLt.tup _ (nlc (nld Qey _) (nlc nll nl0)))
     ·replace h := Qa3 hc32 h
      refine wfn hc32 (by kernel_rfl) ?_
      refine Qar ?_
      refine thn ?_
      exact ⟨(), h, (mto (n := 50) [(0, (Qg5 p0)), (1, (Qg4 p1)), (5, .ref 0 4 0 0)] [0] [(Qld p2)] hφ0 (pc (.rn (.plain _ (nld Qai _))) (pc (.rn (.plain _ (nld Qaf _))) (pc (.rn (rqr rfl)) pn))) (qc (spb (lc rwl (lc rwl (lc rwl (lc rwl ln))))) qn))⟩
def Qgr (N : Nat) (p0 : (List GRow)) (p1 : GStream) (p2 : Int) (p3 : Int) : Option Bool :=
  Qcv (fun _ =>
    chk ((w64 ((p0.length : Int) - 1)) != 0) <|
    (some (w64 (1 + ((w64 p2).tmod (w64 ((p0.length : Int) - 1)))))).bind fun x3 =>
    chk (x3 != 0) <|
    (Qgv N p0).bind fun x7 =>
    chk (decide (0 ≤ 0) && decide (0 ≤ 2) && decide (2 ≤ (([(⟨1, [], x3, 0, 1000000, 1, []⟩ : GElement), (⟨4, [(⟨0, 0⟩ : GPort)], x3, 0, 1000000, 1, []⟩ : GElement), (⟨4, [(⟨1, 1⟩ : GPort)], (w64 p3).tmod x3, 0, 1000000, 1, []⟩ : GElement)]).length : Int))) <|
    (Qge N p1).bind fun x10 =>
    (Qjb N (⟨x7, ([(⟨1, [], x3, 0, 1000000, 1, []⟩ : GElement), (⟨4, [(⟨0, 0⟩ : GPort)], x3, 0, 1000000, 1, []⟩ : GElement), (⟨4, [(⟨1, 1⟩ : GPort)], (w64 p3).tmod x3, 0, 1000000, 1, []⟩ : GElement)]).take ((2 : Int).toNat - 0)⟩ : GNet) ([0, 0]) ([x10])).bind fun x12 =>
    (Qgv N p0).bind fun x14 =>
    (Qge N p1).bind fun x16 =>
    (Qhe N x14 x3 x16).bind fun x18 =>
    (Qge N p1).bind fun x20 =>
    (Qjb N (⟨x7, [(⟨1, [], x3, 0, 1000000, 1, []⟩ : GElement), (⟨4, [(⟨0, 0⟩ : GPort)], x3, 0, 1000000, 1, []⟩ : GElement), (⟨4, [(⟨1, 1⟩ : GPort)], (w64 p3).tmod x3, 0, 1000000, 1, []⟩ : GElement)]⟩ : GNet) ([0, 0, 0]) ([x20])).bind fun x22 =>
    (Qgv N p0).bind fun x24 =>
    (Qge N p1).bind fun x26 =>
    (Qij N x24 ([x3, (w64 p3).tmod x3]) x26).bind fun x28 =>
    Qcv (fun _ =>
      (getI x12.1.Out 1).bind fun x30 =>
      (getI x30 0).bind fun x34 =>
      bif (([x34.Mass, x34.Heat, x34.Silica, x34.Gas] : List Int) == [x18.1.Steam.Mass, x18.1.Steam.Heat, x18.1.Steam.Silica, x18.1.Steam.Gas]) then
       (getI x30 1).bind fun x39 =>
       bif (([x39.Mass, x39.Heat, x39.Silica, x39.Gas] : List Int) == [x18.1.Water.Mass, x18.1.Water.Heat, x18.1.Water.Silica, x18.1.Water.Gas]) then
        (getI x12.1.Lost 1).bind fun x44 =>
        bif (x44.Scale == x18.1.Scale) then
         (getI x22.1.Out 2).bind fun x49 =>
         (getI x49 0).bind fun x53 =>
         (getI x28.1 1).bind fun x57 =>
         bif (([x53.Mass, x53.Heat, x53.Silica, x53.Gas] : List Int) == [x57.Steam.Mass, x57.Steam.Heat, x57.Steam.Silica, x57.Steam.Gas]) then
          (getI x49 1).bind fun x62 =>
          bif (([x62.Mass, x62.Heat, x62.Silica, x62.Gas] : List Int) == [x57.Water.Mass, x57.Water.Heat, x57.Water.Silica, x57.Water.Gas]) then
           (getI x22.1.Lost 1).bind fun x67 =>
           (getI x28.1 0).bind fun x71 =>
           bif (x67.Scale == x71.Scale) then
            (getI x22.1.Lost 2).bind fun x76 =>
            bif (x76.Scale == x57.Scale) then
             (Qhj 2000 ).bind fun x82 =>
             some x82
            else
             some false
           else
            some false
          else
           some false
         else
          some false
        else
         some false
       else
        some false
      else
       some false) fun k29 : Unit → Option Bool =>
    bif (x12.2.2 != 0) then
     some false
    else
     bif (x18.2 != 0) then
      some false
     else
      bif (x22.2.2 != 0) then
       some false
      else
       bif (x28.2 != 0) then
        some false
       else
        bif ((x28.1.length : Int) != 2) then
         some false
        else
         bif ((x12.1.Out.length : Int) != 2) then
          some false
         else
          (getI x12.1.Out 1).bind fun x89 =>
          bif ((x89.length : Int) != 2) then
           some false
          else
           bif ((x22.1.Out.length : Int) != 3) then
            some false
           else
            (getI x22.1.Out 2).bind fun x95 =>
            bif ((x95.length : Int) != 2) then
             some false
            else
             bif ((x12.1.Lost.length : Int) != 2) then
              some false
             else
              bif ((x22.1.Lost.length : Int) != 3) then
               some false
              else
               k29 ()) fun k1 : Unit → Option Bool =>
  (Qit N p0).bind fun x103 =>
  bif (!x103) then
   (Qhj 2000 ).bind fun x106 =>
   some x106
  else
   (Qft N p1).bind fun x108 =>
   bif (!x108) then
    (Qhj 2000 ).bind fun x111 =>
    some x111
   else
    k1 ()
def Qkh (p0 : (List GRow)) : AV := .dat 5 ((p0 : List GRow).map Qav)
def Zal (p1 : GStream) : Slot := .own 4 [[(I (p1.Mass)), (I (p1.Heat)), (I (p1.Silica)), (I (p1.Gas))]]
def Qlm (x7 : (List GRow)) : AV := .dat 5 ((x7 : List GRow).map Qav)
def Zak (x3 : Int) : AV := .agg [(K .u8 (1)), nilS, (I (x3)), (I (0)), (I (1000000)), (I (1)), nilS]
def Q4l : AV := .agg [(I (0)), (I (0))]
def Qux : AV := .dat 2 (([(⟨0, 0⟩ : GPort)] : List GPort).map Qa7)
def Zaj (x3 : Int) : AV := .agg [(K .u8 (4)), Qux, (I (x3)), (I (0)), (I (1000000)), (I (1)), nilS]
def Q4k : AV := .agg [(I (1)), (I (1))]
def Quw : AV := .dat 2 (([(⟨1, 1⟩ : GPort)] : List GPort).map Qa7)
def Q4q (p3 : Int) (x3 : Int) : AV := .agg [(K .u8 (4)), Quw, (I ((w64 p3).tmod x3)), (I (0)), (I (1000000)), (I (1)), nilS]
def Qmy (x3 : Int) (p3 : Int) : AV := .dat 7 (([(⟨1, [], x3, 0, 1000000, 1, []⟩ : GElement), (⟨4, [(⟨0, 0⟩ : GPort)], x3, 0, 1000000, 1, []⟩ : GElement), (⟨4, [(⟨1, 1⟩ : GPort)], (w64 p3).tmod x3, 0, 1000000, 1, []⟩ : GElement)] : List GElement).map Qah)
def Qw9 : AV := .dat 1 (([] : List Int).map Qam)
def Q4p (x3 : Int) : AV := .agg [(K .u8 (1)), (.dat 2 (([] : List GPort).map Qa7)), (I (x3)), (I (0)), (I (1000000)), (I (1)), Qw9]
def Q4o (x3 : Int) : AV := .agg [(K .u8 (4)), Qux, (I (x3)), (I (0)), (I (1000000)), (I (1)), Qw9]
def Q4n (p3 : Int) (x3 : Int) : AV := .agg [(K .u8 (4)), Quw, (I ((w64 p3).tmod x3)), (I (0)), (I (1000000)), (I (1)), Qw9]
def Qoe (x3 : Int) (p3 : Int) : AV := .dat 7 ((([(⟨1, [], x3, 0, 1000000, 1, []⟩ : GElement), (⟨4, [(⟨0, 0⟩ : GPort)], x3, 0, 1000000, 1, []⟩ : GElement), (⟨4, [(⟨1, 1⟩ : GPort)], (w64 p3).tmod x3, 0, 1000000, 1, []⟩ : GElement)]).take ((2 : Int).toNat - 0) : List GElement).map Qah)
def Qw8 : AV := .dat 1 (([0, 0] : List Int).map Qam)
def Qmn (p1 : GStream) : AV := .agg [(I (p1.Mass)), (I (p1.Heat)), (I (p1.Silica)), (I (p1.Gas))]
def Qw7 (x10 : GStream) : AV := .agg [(I (x10.Mass)), (I (x10.Heat)), (I (x10.Silica)), (I (x10.Gas))]
def Qw6 (x10 : GStream) : AV := .dat 4 (([x10] : List GStream).map Qaa)
def Qdu (x12 : (GTick × Int × Int)) : AV := .dat 1 ((x12.1.Out : List (List GStream)).map Qab)
def Qji (x12 : (GTick × Int × Int)) : AV := .dat 4 ((x12.1.Lost : List GLost).map Qax)
def Qw5 (x12 : (GTick × Int × Int)) : AV := .dat 1 ((x12.1.State : List Int).map Qam)
def Qw4 (x16 : GStream) : AV := .agg [(I (x16.Mass)), (I (x16.Heat)), (I (x16.Silica)), (I (x16.Gas))]
def Qw3 : AV := .dat 1 (([0, 0, 0] : List Int).map Qam)
def Qw2 (x20 : GStream) : AV := .agg [(I (x20.Mass)), (I (x20.Heat)), (I (x20.Silica)), (I (x20.Gas))]
def Qw1 (x20 : GStream) : AV := .dat 4 (([x20] : List GStream).map Qaa)
def Qgd (x22 : (GTick × Int × Int)) : AV := .dat 1 ((x22.1.Out : List (List GStream)).map Qab)
def Qky (x22 : (GTick × Int × Int)) : AV := .dat 4 ((x22.1.Lost : List GLost).map Qax)
def Qw0 (x22 : (GTick × Int × Int)) : AV := .dat 1 ((x22.1.State : List Int).map Qam)
def Qwz (x3 : Int) (p3 : Int) : AV := .dat 1 (([x3, (w64 p3).tmod x3] : List Int).map Qam)
def Qwy (x26 : GStream) : AV := .agg [(I (x26.Mass)), (I (x26.Heat)), (I (x26.Silica)), (I (x26.Gas))]
def Qez (x28 : ((List GParts) × Int)) : AV := .dat 10 ((x28.1 : List GParts).map Qbf)
def Q4m (x18 : (GParts × Int)) : Slot := .own 10 [[(I (x18.1.Steam.Mass)), (I (x18.1.Steam.Heat)), (I (x18.1.Steam.Silica)), (I (x18.1.Steam.Gas)), (I (x18.1.Water.Mass)), (I (x18.1.Water.Heat)), (I (x18.1.Water.Silica)), (I (x18.1.Water.Gas)), (I (x18.1.Rest)), (I (x18.1.Scale))]]
def Qg8 (x30 : (List GStream)) : AV := .dat 4 ((x30 : List GStream).map Qaa)
def Qll (x34 : GStream) : AV := .agg [(I (x34.Mass)), (I (x34.Heat)), (I (x34.Silica)), (I (x34.Gas))]
def Qlk (x18 : (GParts × Int)) : AV := .agg [(I (x18.1.Steam.Mass)), (I (x18.1.Steam.Heat)), (I (x18.1.Steam.Silica)), (I (x18.1.Steam.Gas))]
def Qmx (x39 : GStream) : AV := .agg [(I (x39.Mass)), (I (x39.Heat)), (I (x39.Silica)), (I (x39.Gas))]
def Qmw (x18 : (GParts × Int)) : AV := .agg [(I (x18.1.Water.Mass)), (I (x18.1.Water.Heat)), (I (x18.1.Water.Silica)), (I (x18.1.Water.Gas))]
def Qkx (x49 : (List GStream)) : AV := .dat 4 ((x49 : List GStream).map Qaa)
def Qqe (x53 : GStream) : AV := .agg [(I (x53.Mass)), (I (x53.Heat)), (I (x53.Silica)), (I (x53.Gas))]
def Qqd (x57 : GParts) : AV := .agg [(I (x57.Steam.Mass)), (I (x57.Steam.Heat)), (I (x57.Steam.Silica)), (I (x57.Steam.Gas))]
def Qs8 (x62 : GStream) : AV := .agg [(I (x62.Mass)), (I (x62.Heat)), (I (x62.Silica)), (I (x62.Gas))]
def Qs7 (x57 : GParts) : AV := .agg [(I (x57.Water.Mass)), (I (x57.Water.Heat)), (I (x57.Water.Silica)), (I (x57.Water.Gas))]
def Qqc (x89 : (List GStream)) : AV := .dat 4 ((x89 : List GStream).map Qaa)
def Qwx (x95 : (List GStream)) : AV := .dat 4 ((x95 : List GStream).map Qaa)
theorem Qlz (N : Nat) (p0 : (List GRow)) (p1 : GStream) (p2 : Int) (p3 : Int) (r : Bool) (h : Qgr N p0 p1 p2 p3 = some r) : Spec Try.prog 5 [(.dat 5 (p0.map Qav)), (.agg (Qaa p1)), (K .u8 p2), (K .u8 p3)] [] (B r) [] := by
  refine Qag Try.func5 rfl 0 (nle rfl) (fun X φ0 w0 hφ0 hd0 => ?_)
  unfold Qgr at h
  refine wx tbk [] trivial ?_
  obtain ⟨k1, hk_k1, h⟩ := jko h
  refine wjn (τ := Unit) (fun t => k1 t = some r) (fun _ => ⟨mk 245 [(0, (Qkh p0)), (2, (K .u8 (p2))), (3, (K .u8 (p3))), (5, .ref 0 4 0 0)], [(Zal p1)]⟩) (fun t h => ?_) ?_
  ·subst hk_k1
   obtain ⟨hz2, h⟩ := cko h
   obtain ⟨x3, hl4, h⟩ := bno h
   refine wx tbk [(1, rp [(.tmp 32, (K .u8 (p2)))] (I (w64 p2))), (3, rp [(.tmp 34, (Qkh p0))] (I ((p0.length : Int)))), (5, rp [(.tmp 33, I (w64 p2)), (.tmp 36, (I (w64 ((p0.length : Int) - 1))))] (I ((w64 p2).tmod (w64 ((p0.length : Int) - 1))))), (7, rp [(.tmp 38, (I (w64 (1 + ((w64 p2).tmod (w64 ((p0.length : Int) - 1)))))))] (I x3))] ⟨acv rfl (by rw [Try.underlying5]; rfl) Try.underlying3, alm (c := Qav) (l := p0) (aln rfl Try.underlying23 rfl), Qrh rfl (Qnb hz2), Qjw hl4 (aas rfl), trivial⟩ ?_
   obtain ⟨hz5, h⟩ := cko h
   refine wx tbk [(1, rp [(.tmp 39, (K .u8 (p3)))] (I (w64 p3))), (3, rp [(.tmp 40, I (w64 p3)), (.tmp 41, I x3)] (I ((w64 p3).tmod x3)))] ⟨acv rfl (by rw [Try.underlying5]; rfl) Try.underlying3, Qrh rfl (Qnb hz5), trivial⟩ ?_
   obtain ⟨x7, hf6, h⟩ := bno h
   refine wx tbk [(1, rp [fu 23, (.tmp 43, (Qkh p0))] (Qlm x7)), (3, rp [(.const (.int .u8 1), (K .u8 (1))), (.tmp 45, I x3), ci 1000000, ci 1] (Zak x3)), (4, rp [] Q4l), (5, rp [(.tmp 47, Q4l)] Qux), (7, rp [(.const (.int .u8 4), (K .u8 (4))), (.tmp 48, Qux), (.tmp 49, I x3), ci 1000000, ci 1] (Zaj x3)), (8, rp [ci 1, ci 1] Q4k), (9, rp [(.tmp 51, Q4k)] Quw), (11, rp [(.const (.int .u8 4), (K .u8 (4))), (.tmp 52, Quw), (.tmp 53, (I ((w64 p3).tmod x3))), ci 1000000, ci 1] (Q4q p3 x3)), (12, rp [(.tmp 46, (Zak x3)), (.tmp 50, (Zaj x3)), (.tmp 54, (Q4q p3 x3))] (Qmy x3 p3)), (13, rp [(.tmp 44, (Qlm x7)), (.tmp 55, (Qmy x3 p3))] (.agg [(Qlm x7), (Qmy x3 p3)]))] ⟨apc (first := []) (cap := []) (vs := [(Qkh p0)]) rfl Qx6 (Qjs N p0 _ hf6) rfl rfl (nlc (nld Qai _) nl0) (nld Qai _) rfl, Qat (vs := [(K .u8 (1)), I x3, I 1000000, I 1]) rfl ts76 tz76 rfl (by rfl) rfl, Qat (vs := []) rfl ts57 tz57 rfl (by rfl) rfl, Qbp (vs := [Q4l]) rfl Try.underlying53 ti57 tz57 rfl (by decide) rfl (by decide) (by rfl) (by rfl) (by rfl) rfl, Qat (vs := [(K .u8 (4)), Qux, I x3, I 1000000, I 1]) rfl ts76 tz76 rfl (by rfl) rfl, Qat (vs := [I 1, I 1]) rfl ts57 tz57 rfl (by rfl) rfl, Qbp (vs := [Q4k]) rfl Try.underlying53 ti57 tz57 rfl (by decide) rfl (by decide) (by rfl) (by rfl) (by rfl) rfl, Qat (vs := [(K .u8 (4)), Quw, (I ((w64 p3).tmod x3)), I 1000000, I 1]) rfl ts76 tz76 rfl (by rfl) rfl, awk (rd' := [(.tmp 46, (Q4p x3)), (.tmp 50, (Q4o x3)), (.tmp 54, (Q4n p3 x3))]) ⟨rfl, (Less.agg ⟨lrf, Less.nil, lrf, lrf, lrf, lrf, Less.nil, trivial⟩), rfl, (Less.agg ⟨lrf, lrf, lrf, lrf, lrf, lrf, Less.nil, trivial⟩), rfl, (Less.agg ⟨lrf, lrf, lrf, lrf, lrf, lrf, Less.nil, trivial⟩), trivial⟩ (Qbp (vs := [(Q4p x3), (Q4o x3), (Q4n p3 x3)]) rfl Try.underlying40 ti76 tz76 rfl (by decide) rfl (by decide) (by rfl) (by rfl) (by rfl) rfl), Qat (vs := [(Qlm x7), (Qmy x3 p3)]) rfl ts42 tz42 rfl (by rfl) rfl, trivial⟩ ?_
   obtain ⟨hs8, h⟩ := cko h
   refine wxd tbk [(4, rp [(.tmp 60, (Qmy x3 p3)), ci 2] (Qoe x3 p3)), (5, rp [(.tmp 58, (Qlm x7)), (.tmp 61, (Qoe x3 p3))] (.agg [(Qlm x7), (Qoe x3 p3)]))] ⟨Qj6 (k := .i64) (k' := .i64) (lo := none) (hi := some (.const (.int .i64 2))) (l := 0) (hh := 2) rfl Try.underlying40 ti76 rfl (fun _ => rfl) (fun e => nomatch e) (Qys hs8) (Qyr hs8) (Q9v (Qah) hs8) (Zgi Qah), Qat (vs := [(Qlm x7), (Qoe x3 p3)]) rfl ts42 tz42 rfl (by rfl) rfl, trivial⟩ ?_
   obtain ⟨x10, hf9, h⟩ := bno h
   obtain ⟨x12, hf11, h⟩ := bno h
   refine wxd tbk [(1, rp [ci 0, ci 0] Qw8), (3, rp [fu 24, (.tmp 66, (Qmn p1))] (Qw7 x10)), (4, rp [(.tmp 67, (Qw7 x10))] (Qw6 x10)), (5, rp [fu 8, (.tmp 64, (.agg [(Qlm x7), (Qoe x3 p3)])), (.tmp 65, Qw8), (.tmp 68, (Qw6 x10))] (.tup [(.agg [(Qdu x12), (Qji x12), (Qw5 x12)]), I x12.2.1, I x12.2.2]))] ⟨Qbp (vs := [I 0, I 0]) rfl Try.underlying27 ti3 tz3 rfl (by decide) rfl (by decide) (by rfl) (by rfl) (by rfl) rfl, apc (first := []) (cap := []) (vs := [(Qmn p1)]) rfl Qty (Qg7 N p1 _ hf9) rfl rfl (nlc (NLt.agg _ (nlc nll (nlc nll (nlc nll (nlc nll nl0))))) nl0) (NLt.agg _ (nlc nll (nlc nll (nlc nll (nlc nll nl0))))) rfl, Qbp (vs := [(Qw7 x10)]) rfl Try.underlying45 ti48 tz48 rfl (by decide) rfl (by decide) (by rfl) (by rfl) (by rfl) rfl, apc (first := []) (cap := []) (vs := [(.agg [(Qlm x7), (Qoe x3 p3)]), Qw8, (Qw6 x10)]) rfl Q6h (Qm6 N (⟨x7, ([(⟨1, [], x3, 0, 1000000, 1, []⟩ : GElement), (⟨4, [(⟨0, 0⟩ : GPort)], x3, 0, 1000000, 1, []⟩ : GElement), (⟨4, [(⟨1, 1⟩ : GPort)], (w64 p3).tmod x3, 0, 1000000, 1, []⟩ : GElement)]).take ((2 : Int).toNat - 0)⟩ : GNet) ([0, 0]) ([x10]) _ hf11) rfl rfl (nlc (NLt.agg _ (nlc (nld Qai _) (nlc (nld Qac _) nl0))) (nlc (nld Qaf _) (nlc (nld Qae _) nl0))) (NLt.tup _ (nlc (NLt.agg _ (nlc (nld Qap _) (nlc (nld Qa1 _) (nlc (nld Qaf _) nl0)))) (nlc nll (nlc nll nl0)))) rfl, trivial⟩ ?_
   obtain ⟨x14, hf13, h⟩ := bno h
   obtain ⟨x16, hf15, h⟩ := bno h
   obtain ⟨x18, hf17, h⟩ := bno h
   refine wxd tbk [(1, rp [fu 23, (.tmp 74, (Qkh p0))] (.dat 5 ((x14 : List GRow).map Qav))), (4, rp [fu 24, (.tmp 77, (Qmn p1))] (Qw4 x16)), (5, rp [fu 25, (.tmp 75, (.dat 5 ((x14 : List GRow).map Qav))), (.tmp 76, I x3), (.tmp 78, (Qw4 x16))] (.tup [(.agg [I x18.1.Steam.Mass, I x18.1.Steam.Heat, I x18.1.Steam.Silica, I x18.1.Steam.Gas, I x18.1.Water.Mass, I x18.1.Water.Heat, I x18.1.Water.Silica, I x18.1.Water.Gas, I x18.1.Rest, I x18.1.Scale]), I x18.2]))] ⟨apc (first := []) (cap := []) (vs := [(Qkh p0)]) rfl Qx6 (Qjs N p0 _ hf13) rfl rfl (nlc (nld Qai _) nl0) (nld Qai _) rfl, apc (first := []) (cap := []) (vs := [(Qmn p1)]) rfl Qty (Qg7 N p1 _ hf15) rfl rfl (nlc (NLt.agg _ (nlc nll (nlc nll (nlc nll (nlc nll nl0))))) nl0) (NLt.agg _ (nlc nll (nlc nll (nlc nll (nlc nll nl0))))) rfl, apc (first := []) (cap := []) (vs := [(.dat 5 ((x14 : List GRow).map Qav)), I x3, (Qw4 x16)]) rfl Q6q (Qls N x14 x3 x16 _ hf17) rfl rfl (nlc (nld Qai _) (nlc nll (nlc (NLt.agg _ (nlc nll (nlc nll (nlc nll (nlc nll nl0))))) nl0))) (NLt.tup _ (nlc (NLt.agg _ (nlc nll (nlc nll (nlc nll (nlc nll (nlc nll (nlc nll (nlc nll (nlc nll (nlc nll (nlc nll nl0))))))))))) (nlc nll nl0))) rfl, trivial⟩ ?_
   obtain ⟨x20, hf19, h⟩ := bno h
   obtain ⟨x22, hf21, h⟩ := bno h
   refine wxd tbk [(1, rp [ci 0, ci 0, ci 0] Qw3), (3, rp [fu 24, (.tmp 85, (Qmn p1))] (Qw2 x20)), (4, rp [(.tmp 86, (Qw2 x20))] (Qw1 x20)), (5, rp [fu 8, (.tmp 83, (.agg [(Qlm x7), (Qmy x3 p3)])), (.tmp 84, Qw3), (.tmp 87, (Qw1 x20))] (.tup [(.agg [(Qgd x22), (Qky x22), (Qw0 x22)]), I x22.2.1, I x22.2.2]))] ⟨Qbp (vs := [I 0, I 0, I 0]) rfl Try.underlying27 ti3 tz3 rfl (by decide) rfl (by decide) (by rfl) (by rfl) (by rfl) rfl, apc (first := []) (cap := []) (vs := [(Qmn p1)]) rfl Qty (Qg7 N p1 _ hf19) rfl rfl (nlc (NLt.agg _ (nlc nll (nlc nll (nlc nll (nlc nll nl0))))) nl0) (NLt.agg _ (nlc nll (nlc nll (nlc nll (nlc nll nl0))))) rfl, Qbp (vs := [(Qw2 x20)]) rfl Try.underlying45 ti48 tz48 rfl (by decide) rfl (by decide) (by rfl) (by rfl) (by rfl) rfl, apc (first := []) (cap := []) (vs := [(.agg [(Qlm x7), (Qmy x3 p3)]), Qw3, (Qw1 x20)]) rfl Q6h (Qm6 N (⟨x7, [(⟨1, [], x3, 0, 1000000, 1, []⟩ : GElement), (⟨4, [(⟨0, 0⟩ : GPort)], x3, 0, 1000000, 1, []⟩ : GElement), (⟨4, [(⟨1, 1⟩ : GPort)], (w64 p3).tmod x3, 0, 1000000, 1, []⟩ : GElement)]⟩ : GNet) ([0, 0, 0]) ([x20]) _ hf21) rfl rfl (nlc (NLt.agg _ (nlc (nld Qai _) (nlc (nld Qac _) nl0))) (nlc (nld Qaf _) (nlc (nld Qae _) nl0))) (NLt.tup _ (nlc (NLt.agg _ (nlc (nld Qap _) (nlc (nld Qa1 _) (nlc (nld Qaf _) nl0)))) (nlc nll (nlc nll nl0)))) rfl, trivial⟩ ?_
   obtain ⟨x24, hf23, h⟩ := bno h
   obtain ⟨x26, hf25, h⟩ := bno h
   obtain ⟨x28, hf27, h⟩ := bno h
   refine wxd tbk [(1, rp [fu 23, (.tmp 93, (Qkh p0))] (.dat 5 ((x24 : List GRow).map Qav))), (4, rp [(.tmp 95, I x3), (.tmp 96, (I ((w64 p3).tmod x3)))] (Qwz x3 p3)), (6, rp [fu 24, (.tmp 98, (Qmn p1))] (Qwy x26)), (7, rp [fu 26, (.tmp 94, (.dat 5 ((x24 : List GRow).map Qav))), (.tmp 97, (Qwz x3 p3)), (.tmp 99, (Qwy x26))] (.tup [(Qez x28), I x28.2]))] ⟨apc (first := []) (cap := []) (vs := [(Qkh p0)]) rfl Qx6 (Qjs N p0 _ hf23) rfl rfl (nlc (nld Qai _) nl0) (nld Qai _) rfl, Qbp (vs := [I x3, (I ((w64 p3).tmod x3))]) rfl Try.underlying27 ti3 tz3 rfl (by decide) rfl (by decide) (by rfl) (by rfl) (by rfl) rfl, apc (first := []) (cap := []) (vs := [(Qmn p1)]) rfl Qty (Qg7 N p1 _ hf25) rfl rfl (nlc (NLt.agg _ (nlc nll (nlc nll (nlc nll (nlc nll nl0))))) nl0) (NLt.agg _ (nlc nll (nlc nll (nlc nll (nlc nll nl0))))) rfl, apc (first := []) (cap := []) (vs := [(.dat 5 ((x24 : List GRow).map Qav)), (Qwz x3 p3), (Qwy x26)]) rfl Ze4 (Qql N x24 ([x3, (w64 p3).tmod x3]) x26 _ hf27) rfl rfl (nlc (nld Qai _) (nlc (nld Qaf _) (nlc (NLt.agg _ (nlc nll (nlc nll (nlc nll (nlc nll nl0))))) nl0))) (NLt.tup _ (nlc (nld Qey _) (nlc nll nl0))) rfl, trivial⟩ ?_
   obtain ⟨k29, hk_k29, h⟩ := jko h
   refine wjn (τ := Unit) (fun t => k29 t = some r) (fun _ => ⟨mk 245 [(13, .ref 0 3 0 0), (16, .ref 1 10 0 0), (18, .ref 2 3 0 0), (21, (Qez x28))], [(.own 3 [[(Qdu x12), (Qji x12), (Qw5 x12)]]), (Q4m x18), (.own 3 [[(Qgd x22), (Qky x22), (Qw0 x22)]])]⟩) (fun t h => ?_) ?_
   ·subst hk_k29
    obtain ⟨x30, hg31, h⟩ := bno h
    obtain ⟨hi32, hj33⟩ := gsm hg31
    obtain ⟨x34, hg35, h⟩ := bno h
    obtain ⟨hi36, hj37⟩ := gsm hg35
    rcases bft ((([x34.Mass, x34.Heat, x34.Silica, x34.Gas] : List Int) == [x18.1.Steam.Mass, x18.1.Steam.Heat, x18.1.Steam.Silica, x18.1.Steam.Gas])) with hb38 | hb38
    ·replace h := Qa2 hb38 h
     obtain ⟨x39, hg40, h⟩ := bno h
     obtain ⟨hi41, hj42⟩ := gsm hg40
     rcases bft ((([x39.Mass, x39.Heat, x39.Silica, x39.Gas] : List Int) == [x18.1.Water.Mass, x18.1.Water.Heat, x18.1.Water.Silica, x18.1.Water.Gas])) with hb43 | hb43
     ·replace h := Qa2 hb43 h
      obtain ⟨x44, hg45, h⟩ := bno h
      obtain ⟨hi46, hj47⟩ := gsm hg45
      rcases bft ((x44.Scale == x18.1.Scale)) with hb48 | hb48
      ·replace h := Qa2 hb48 h
       obtain ⟨x49, hg50, h⟩ := bno h
       obtain ⟨hi51, hj52⟩ := gsm hg50
       obtain ⟨x53, hg54, h⟩ := bno h
       obtain ⟨hi55, hj56⟩ := gsm hg54
       obtain ⟨x57, hg58, h⟩ := bno h
       obtain ⟨hi59, hj60⟩ := gsm hg58
       rcases bft ((([x53.Mass, x53.Heat, x53.Silica, x53.Gas] : List Int) == [x57.Steam.Mass, x57.Steam.Heat, x57.Steam.Silica, x57.Steam.Gas])) with hb61 | hb61
       ·replace h := Qa2 hb61 h
        obtain ⟨x62, hg63, h⟩ := bno h
        obtain ⟨hi64, hj65⟩ := gsm hg63
        rcases bft ((([x62.Mass, x62.Heat, x62.Silica, x62.Gas] : List Int) == [x57.Water.Mass, x57.Water.Heat, x57.Water.Silica, x57.Water.Gas])) with hb66 | hb66
        ·replace h := Qa2 hb66 h
         obtain ⟨x67, hg68, h⟩ := bno h
         obtain ⟨hi69, hj70⟩ := gsm hg68
         obtain ⟨x71, hg72, h⟩ := bno h
         obtain ⟨hi73, hj74⟩ := gsm hg72
         rcases bft ((x67.Scale == x71.Scale)) with hb75 | hb75
         ·replace h := Qa2 hb75 h
          obtain ⟨x76, hg77, h⟩ := bno h
          obtain ⟨hi78, hj79⟩ := gsm hg77
          rcases bft ((x76.Scale == x57.Scale)) with hb80 | hb80
          ·replace h := Qa2 hb80 h
           obtain ⟨x82, hf81, h⟩ := bno h
           refine wxd tbk [(2, rp [(.tmp 163, (Qdu x12)), ci 1] (.dptr (Qab (x30)) 0)), (4, rp [(.tmp 165, (Qg8 x30)), ci 0] (.dptr (Qaa (x34)) 0)), (8, rp [(.tmp 167, (Qll x34)), (.tmp 169, (Qlk x18))] (B ((([x34.Mass, x34.Heat, x34.Silica, x34.Gas] : List Int) == [x18.1.Steam.Mass, x18.1.Steam.Heat, x18.1.Steam.Silica, x18.1.Steam.Gas])))), (9, rp [(.tmp 170, (B ((([x34.Mass, x34.Heat, x34.Silica, x34.Gas] : List Int) == [x18.1.Steam.Mass, x18.1.Steam.Heat, x18.1.Steam.Silica, x18.1.Steam.Gas]))))] (B true)), (12, rp [(.tmp 171, B true), (.tmp 173, (Qdu x12)), ci 1] (.dptr (Qab (x30)) 0)), (14, rp [(.tmp 171, B true), (.tmp 175, (Qg8 x30)), ci 1] (.dptr (Qaa (x39)) 0)), (18, rp [(.tmp 171, B true), (.tmp 177, (Qmx x39)), (.tmp 179, (Qmw x18))] (B ((([x39.Mass, x39.Heat, x39.Silica, x39.Gas] : List Int) == [x18.1.Water.Mass, x18.1.Water.Heat, x18.1.Water.Silica, x18.1.Water.Gas])))), (20, rp [(.tmp 181, (B ((([x39.Mass, x39.Heat, x39.Silica, x39.Gas] : List Int) == [x18.1.Water.Mass, x18.1.Water.Heat, x18.1.Water.Silica, x18.1.Water.Gas]))))] (B true)), (23, rp [(.tmp 182, B true), (.tmp 184, (Qji x12)), ci 1] (.dptr (Qax (x44)) 0)), (30, rp [(.tmp 191, (B ((x44.Scale == x18.1.Scale))))] (B true)), (33, rp [(.tmp 192, B true), (.tmp 194, (Qgd x22)), ci 2] (.dptr (Qab (x49)) 0)), (35, rp [(.tmp 192, B true), (.tmp 196, (Qkx x49)), ci 0] (.dptr (Qaa (x53)) 0)), (38, rp [(.tmp 192, B true), (.tmp 199, (Qez x28)), ci 1] (.dptr (Qbf (x57)) 0)), (41, rp [(.tmp 192, B true), (.tmp 198, (Qqe x53)), (.tmp 202, (Qqd x57))] (B ((([x53.Mass, x53.Heat, x53.Silica, x53.Gas] : List Int) == [x57.Steam.Mass, x57.Steam.Heat, x57.Steam.Silica, x57.Steam.Gas])))), (43, rp [(.tmp 204, (B ((([x53.Mass, x53.Heat, x53.Silica, x53.Gas] : List Int) == [x57.Steam.Mass, x57.Steam.Heat, x57.Steam.Silica, x57.Steam.Gas]))))] (B true)), (46, rp [(.tmp 205, B true), (.tmp 207, (Qgd x22)), ci 2] (.dptr (Qab (x49)) 0)), (48, rp [(.tmp 205, B true), (.tmp 209, (Qkx x49)), ci 1] (.dptr (Qaa (x62)) 0)), (51, rp [(.tmp 205, B true), (.tmp 212, (Qez x28)), ci 1] (.dptr (Qbf (x57)) 0)), (54, rp [(.tmp 205, B true), (.tmp 211, (Qs8 x62)), (.tmp 215, (Qs7 x57))] (B ((([x62.Mass, x62.Heat, x62.Silica, x62.Gas] : List Int) == [x57.Water.Mass, x57.Water.Heat, x57.Water.Silica, x57.Water.Gas])))), (56, rp [(.tmp 217, (B ((([x62.Mass, x62.Heat, x62.Silica, x62.Gas] : List Int) == [x57.Water.Mass, x57.Water.Heat, x57.Water.Silica, x57.Water.Gas]))))] (B true)), (59, rp [(.tmp 218, B true), (.tmp 220, (Qky x22)), ci 1] (.dptr (Qax (x67)) 0)), (63, rp [(.tmp 218, B true), (.tmp 224, (Qez x28)), ci 0] (.dptr (Qbf (x71)) 0)), (68, rp [(.tmp 229, (B ((x67.Scale == x71.Scale))))] (B true)), (71, rp [(.tmp 230, B true), (.tmp 232, (Qky x22)), ci 2] (.dptr (Qax (x76)) 0)), (75, rp [(.tmp 230, B true), (.tmp 236, (Qez x28)), ci 1] (.dptr (Qbf (x57)) 0)), (80, rp [(.tmp 241, (B ((x76.Scale == x57.Scale))))] (B true)), (81, rp [(.tmp 242, B true), fu 7] (B x82))] ⟨aid rfl Try.underlying31 ti45 rfl rfl hi32 (mgt Qab hj33) rfl, aid rfl Try.underlying45 ti48 rfl rfl hi36 (mgt Qaa hj37) rfl, Qbu (ls := [x34.Mass, x34.Heat, x34.Silica, x34.Gas]) (ks := [x18.1.Steam.Mass, x18.1.Steam.Heat, x18.1.Steam.Silica, x18.1.Steam.Gas]) rfl rfl Qhc (by kernel_rfl) rfl rfl, asb hb38 (amv rfl), ag_ (aid rfl Try.underlying31 ti45 rfl rfl hi32 (mgt Qab hj33) rfl), ag_ (aid rfl Try.underlying45 ti48 rfl rfl hi41 (mgt Qaa hj42) rfl), ag_ (Qbu (ls := [x39.Mass, x39.Heat, x39.Silica, x39.Gas]) (ks := [x18.1.Water.Mass, x18.1.Water.Heat, x18.1.Water.Silica, x18.1.Water.Gas]) rfl rfl Qhc (by kernel_rfl) rfl rfl), asb hb43 (amv rfl), ag_ (aid rfl Try.underlying32 ti50 rfl rfl hi46 (mgt Qax hj47) rfl), asb hb48 (amv rfl), ag_ (aid rfl Try.underlying31 ti45 rfl rfl hi51 (mgt Qab hj52) rfl), ag_ (aid rfl Try.underlying45 ti48 rfl rfl hi55 (mgt Qaa hj56) rfl), ag_ (aid rfl Try.underlying82 ti79 rfl rfl hi59 (mgt Qbf hj60) rfl), ag_ (Qbu (ls := [x53.Mass, x53.Heat, x53.Silica, x53.Gas]) (ks := [x57.Steam.Mass, x57.Steam.Heat, x57.Steam.Silica, x57.Steam.Gas]) rfl rfl Qhc (by kernel_rfl) rfl rfl), asb hb61 (amv rfl), ag_ (aid rfl Try.underlying31 ti45 rfl rfl hi51 (mgt Qab hj52) rfl), ag_ (aid rfl Try.underlying45 ti48 rfl rfl hi64 (mgt Qaa hj65) rfl), ag_ (aid rfl Try.underlying82 ti79 rfl rfl hi59 (mgt Qbf hj60) rfl), ag_ (Qbu (ls := [x62.Mass, x62.Heat, x62.Silica, x62.Gas]) (ks := [x57.Water.Mass, x57.Water.Heat, x57.Water.Silica, x57.Water.Gas]) rfl rfl Qhc (by kernel_rfl) rfl rfl), asb hb66 (amv rfl), ag_ (aid rfl Try.underlying32 ti50 rfl rfl hi69 (mgt Qax hj70) rfl), ag_ (aid rfl Try.underlying82 ti79 rfl rfl hi73 (mgt Qbf hj74) rfl), asb hb75 (amv rfl), ag_ (aid rfl Try.underlying32 ti50 rfl rfl hi78 (mgt Qax hj79) rfl), ag_ (aid rfl Try.underlying82 ti79 rfl rfl hi59 (mgt Qbf hj60) rfl), asb hb80 (amv rfl), ag_ (apc (first := []) (cap := []) (vs := []) rfl Q6i (Qjr 2000  _ hf81) rfl rfl nl0 nll rfl), trivial⟩ ?_
           refine Qad ?_
           obtain rfl := osi h
           exact fend ⟨[B x82], ⟨rot (by kernel_rfl), trivial⟩, rfl⟩ nll
          ·replace h := Qa3 hb80 h
           refine wxd tbk [(2, rp [(.tmp 163, (Qdu x12)), ci 1] (.dptr (Qab (x30)) 0)), (4, rp [(.tmp 165, (Qg8 x30)), ci 0] (.dptr (Qaa (x34)) 0)), (8, rp [(.tmp 167, (Qll x34)), (.tmp 169, (Qlk x18))] (B ((([x34.Mass, x34.Heat, x34.Silica, x34.Gas] : List Int) == [x18.1.Steam.Mass, x18.1.Steam.Heat, x18.1.Steam.Silica, x18.1.Steam.Gas])))), (9, rp [(.tmp 170, (B ((([x34.Mass, x34.Heat, x34.Silica, x34.Gas] : List Int) == [x18.1.Steam.Mass, x18.1.Steam.Heat, x18.1.Steam.Silica, x18.1.Steam.Gas]))))] (B true)), (12, rp [(.tmp 171, B true), (.tmp 173, (Qdu x12)), ci 1] (.dptr (Qab (x30)) 0)), (14, rp [(.tmp 171, B true), (.tmp 175, (Qg8 x30)), ci 1] (.dptr (Qaa (x39)) 0)), (18, rp [(.tmp 171, B true), (.tmp 177, (Qmx x39)), (.tmp 179, (Qmw x18))] (B ((([x39.Mass, x39.Heat, x39.Silica, x39.Gas] : List Int) == [x18.1.Water.Mass, x18.1.Water.Heat, x18.1.Water.Silica, x18.1.Water.Gas])))), (20, rp [(.tmp 181, (B ((([x39.Mass, x39.Heat, x39.Silica, x39.Gas] : List Int) == [x18.1.Water.Mass, x18.1.Water.Heat, x18.1.Water.Silica, x18.1.Water.Gas]))))] (B true)), (23, rp [(.tmp 182, B true), (.tmp 184, (Qji x12)), ci 1] (.dptr (Qax (x44)) 0)), (30, rp [(.tmp 191, (B ((x44.Scale == x18.1.Scale))))] (B true)), (33, rp [(.tmp 192, B true), (.tmp 194, (Qgd x22)), ci 2] (.dptr (Qab (x49)) 0)), (35, rp [(.tmp 192, B true), (.tmp 196, (Qkx x49)), ci 0] (.dptr (Qaa (x53)) 0)), (38, rp [(.tmp 192, B true), (.tmp 199, (Qez x28)), ci 1] (.dptr (Qbf (x57)) 0)), (41, rp [(.tmp 192, B true), (.tmp 198, (Qqe x53)), (.tmp 202, (Qqd x57))] (B ((([x53.Mass, x53.Heat, x53.Silica, x53.Gas] : List Int) == [x57.Steam.Mass, x57.Steam.Heat, x57.Steam.Silica, x57.Steam.Gas])))), (43, rp [(.tmp 204, (B ((([x53.Mass, x53.Heat, x53.Silica, x53.Gas] : List Int) == [x57.Steam.Mass, x57.Steam.Heat, x57.Steam.Silica, x57.Steam.Gas]))))] (B true)), (46, rp [(.tmp 205, B true), (.tmp 207, (Qgd x22)), ci 2] (.dptr (Qab (x49)) 0)), (48, rp [(.tmp 205, B true), (.tmp 209, (Qkx x49)), ci 1] (.dptr (Qaa (x62)) 0)), (51, rp [(.tmp 205, B true), (.tmp 212, (Qez x28)), ci 1] (.dptr (Qbf (x57)) 0)), (54, rp [(.tmp 205, B true), (.tmp 211, (Qs8 x62)), (.tmp 215, (Qs7 x57))] (B ((([x62.Mass, x62.Heat, x62.Silica, x62.Gas] : List Int) == [x57.Water.Mass, x57.Water.Heat, x57.Water.Silica, x57.Water.Gas])))), (56, rp [(.tmp 217, (B ((([x62.Mass, x62.Heat, x62.Silica, x62.Gas] : List Int) == [x57.Water.Mass, x57.Water.Heat, x57.Water.Silica, x57.Water.Gas]))))] (B true)), (59, rp [(.tmp 218, B true), (.tmp 220, (Qky x22)), ci 1] (.dptr (Qax (x67)) 0)), (63, rp [(.tmp 218, B true), (.tmp 224, (Qez x28)), ci 0] (.dptr (Qbf (x71)) 0)), (68, rp [(.tmp 229, (B ((x67.Scale == x71.Scale))))] (B true)), (71, rp [(.tmp 230, B true), (.tmp 232, (Qky x22)), ci 2] (.dptr (Qax (x76)) 0)), (75, rp [(.tmp 230, B true), (.tmp 236, (Qez x28)), ci 1] (.dptr (Qbf (x57)) 0)), (80, rp [(.tmp 241, (B ((x76.Scale == x57.Scale))))] (B false))] ⟨aid rfl Try.underlying31 ti45 rfl rfl hi32 (mgt Qab hj33) rfl, aid rfl Try.underlying45 ti48 rfl rfl hi36 (mgt Qaa hj37) rfl, Qbu (ls := [x34.Mass, x34.Heat, x34.Silica, x34.Gas]) (ks := [x18.1.Steam.Mass, x18.1.Steam.Heat, x18.1.Steam.Silica, x18.1.Steam.Gas]) rfl rfl Qhc (by kernel_rfl) rfl rfl, asb hb38 (amv rfl), ag_ (aid rfl Try.underlying31 ti45 rfl rfl hi32 (mgt Qab hj33) rfl), ag_ (aid rfl Try.underlying45 ti48 rfl rfl hi41 (mgt Qaa hj42) rfl), ag_ (Qbu (ls := [x39.Mass, x39.Heat, x39.Silica, x39.Gas]) (ks := [x18.1.Water.Mass, x18.1.Water.Heat, x18.1.Water.Silica, x18.1.Water.Gas]) rfl rfl Qhc (by kernel_rfl) rfl rfl), asb hb43 (amv rfl), ag_ (aid rfl Try.underlying32 ti50 rfl rfl hi46 (mgt Qax hj47) rfl), asb hb48 (amv rfl), ag_ (aid rfl Try.underlying31 ti45 rfl rfl hi51 (mgt Qab hj52) rfl), ag_ (aid rfl Try.underlying45 ti48 rfl rfl hi55 (mgt Qaa hj56) rfl), ag_ (aid rfl Try.underlying82 ti79 rfl rfl hi59 (mgt Qbf hj60) rfl), ag_ (Qbu (ls := [x53.Mass, x53.Heat, x53.Silica, x53.Gas]) (ks := [x57.Steam.Mass, x57.Steam.Heat, x57.Steam.Silica, x57.Steam.Gas]) rfl rfl Qhc (by kernel_rfl) rfl rfl), asb hb61 (amv rfl), ag_ (aid rfl Try.underlying31 ti45 rfl rfl hi51 (mgt Qab hj52) rfl), ag_ (aid rfl Try.underlying45 ti48 rfl rfl hi64 (mgt Qaa hj65) rfl), ag_ (aid rfl Try.underlying82 ti79 rfl rfl hi59 (mgt Qbf hj60) rfl), ag_ (Qbu (ls := [x62.Mass, x62.Heat, x62.Silica, x62.Gas]) (ks := [x57.Water.Mass, x57.Water.Heat, x57.Water.Silica, x57.Water.Gas]) rfl rfl Qhc (by kernel_rfl) rfl rfl), asb hb66 (amv rfl), ag_ (aid rfl Try.underlying32 ti50 rfl rfl hi69 (mgt Qax hj70) rfl), ag_ (aid rfl Try.underlying82 ti79 rfl rfl hi73 (mgt Qbf hj74) rfl), asb hb75 (amv rfl), ag_ (aid rfl Try.underlying32 ti50 rfl rfl hi78 (mgt Qax hj79) rfl), ag_ (aid rfl Try.underlying82 ti79 rfl rfl hi59 (mgt Qbf hj60) rfl), asb hb80 (amv rfl), trivial⟩ ?_
           refine Qad ?_
           obtain rfl := osi h
           exact fend ⟨[B false], ⟨rot (by kernel_rfl), trivial⟩, rfl⟩ nll
         ·replace h := Qa3 hb75 h
          refine wxd tbk [(2, rp [(.tmp 163, (Qdu x12)), ci 1] (.dptr (Qab (x30)) 0)), (4, rp [(.tmp 165, (Qg8 x30)), ci 0] (.dptr (Qaa (x34)) 0)), (8, rp [(.tmp 167, (Qll x34)), (.tmp 169, (Qlk x18))] (B ((([x34.Mass, x34.Heat, x34.Silica, x34.Gas] : List Int) == [x18.1.Steam.Mass, x18.1.Steam.Heat, x18.1.Steam.Silica, x18.1.Steam.Gas])))), (9, rp [(.tmp 170, (B ((([x34.Mass, x34.Heat, x34.Silica, x34.Gas] : List Int) == [x18.1.Steam.Mass, x18.1.Steam.Heat, x18.1.Steam.Silica, x18.1.Steam.Gas]))))] (B true)), (12, rp [(.tmp 171, B true), (.tmp 173, (Qdu x12)), ci 1] (.dptr (Qab (x30)) 0)), (14, rp [(.tmp 171, B true), (.tmp 175, (Qg8 x30)), ci 1] (.dptr (Qaa (x39)) 0)), (18, rp [(.tmp 171, B true), (.tmp 177, (Qmx x39)), (.tmp 179, (Qmw x18))] (B ((([x39.Mass, x39.Heat, x39.Silica, x39.Gas] : List Int) == [x18.1.Water.Mass, x18.1.Water.Heat, x18.1.Water.Silica, x18.1.Water.Gas])))), (20, rp [(.tmp 181, (B ((([x39.Mass, x39.Heat, x39.Silica, x39.Gas] : List Int) == [x18.1.Water.Mass, x18.1.Water.Heat, x18.1.Water.Silica, x18.1.Water.Gas]))))] (B true)), (23, rp [(.tmp 182, B true), (.tmp 184, (Qji x12)), ci 1] (.dptr (Qax (x44)) 0)), (30, rp [(.tmp 191, (B ((x44.Scale == x18.1.Scale))))] (B true)), (33, rp [(.tmp 192, B true), (.tmp 194, (Qgd x22)), ci 2] (.dptr (Qab (x49)) 0)), (35, rp [(.tmp 192, B true), (.tmp 196, (Qkx x49)), ci 0] (.dptr (Qaa (x53)) 0)), (38, rp [(.tmp 192, B true), (.tmp 199, (Qez x28)), ci 1] (.dptr (Qbf (x57)) 0)), (41, rp [(.tmp 192, B true), (.tmp 198, (Qqe x53)), (.tmp 202, (Qqd x57))] (B ((([x53.Mass, x53.Heat, x53.Silica, x53.Gas] : List Int) == [x57.Steam.Mass, x57.Steam.Heat, x57.Steam.Silica, x57.Steam.Gas])))), (43, rp [(.tmp 204, (B ((([x53.Mass, x53.Heat, x53.Silica, x53.Gas] : List Int) == [x57.Steam.Mass, x57.Steam.Heat, x57.Steam.Silica, x57.Steam.Gas]))))] (B true)), (46, rp [(.tmp 205, B true), (.tmp 207, (Qgd x22)), ci 2] (.dptr (Qab (x49)) 0)), (48, rp [(.tmp 205, B true), (.tmp 209, (Qkx x49)), ci 1] (.dptr (Qaa (x62)) 0)), (51, rp [(.tmp 205, B true), (.tmp 212, (Qez x28)), ci 1] (.dptr (Qbf (x57)) 0)), (54, rp [(.tmp 205, B true), (.tmp 211, (Qs8 x62)), (.tmp 215, (Qs7 x57))] (B ((([x62.Mass, x62.Heat, x62.Silica, x62.Gas] : List Int) == [x57.Water.Mass, x57.Water.Heat, x57.Water.Silica, x57.Water.Gas])))), (56, rp [(.tmp 217, (B ((([x62.Mass, x62.Heat, x62.Silica, x62.Gas] : List Int) == [x57.Water.Mass, x57.Water.Heat, x57.Water.Silica, x57.Water.Gas]))))] (B true)), (59, rp [(.tmp 218, B true), (.tmp 220, (Qky x22)), ci 1] (.dptr (Qax (x67)) 0)), (63, rp [(.tmp 218, B true), (.tmp 224, (Qez x28)), ci 0] (.dptr (Qbf (x71)) 0)), (68, rp [(.tmp 229, (B ((x67.Scale == x71.Scale))))] (B false))] ⟨aid rfl Try.underlying31 ti45 rfl rfl hi32 (mgt Qab hj33) rfl, aid rfl Try.underlying45 ti48 rfl rfl hi36 (mgt Qaa hj37) rfl, Qbu (ls := [x34.Mass, x34.Heat, x34.Silica, x34.Gas]) (ks := [x18.1.Steam.Mass, x18.1.Steam.Heat, x18.1.Steam.Silica, x18.1.Steam.Gas]) rfl rfl Qhc (by kernel_rfl) rfl rfl, asb hb38 (amv rfl), ag_ (aid rfl Try.underlying31 ti45 rfl rfl hi32 (mgt Qab hj33) rfl), ag_ (aid rfl Try.underlying45 ti48 rfl rfl hi41 (mgt Qaa hj42) rfl), ag_ (Qbu (ls := [x39.Mass, x39.Heat, x39.Silica, x39.Gas]) (ks := [x18.1.Water.Mass, x18.1.Water.Heat, x18.1.Water.Silica, x18.1.Water.Gas]) rfl rfl Qhc (by kernel_rfl) rfl rfl), asb hb43 (amv rfl), ag_ (aid rfl Try.underlying32 ti50 rfl rfl hi46 (mgt Qax hj47) rfl), asb hb48 (amv rfl), ag_ (aid rfl Try.underlying31 ti45 rfl rfl hi51 (mgt Qab hj52) rfl), ag_ (aid rfl Try.underlying45 ti48 rfl rfl hi55 (mgt Qaa hj56) rfl), ag_ (aid rfl Try.underlying82 ti79 rfl rfl hi59 (mgt Qbf hj60) rfl), ag_ (Qbu (ls := [x53.Mass, x53.Heat, x53.Silica, x53.Gas]) (ks := [x57.Steam.Mass, x57.Steam.Heat, x57.Steam.Silica, x57.Steam.Gas]) rfl rfl Qhc (by kernel_rfl) rfl rfl), asb hb61 (amv rfl), ag_ (aid rfl Try.underlying31 ti45 rfl rfl hi51 (mgt Qab hj52) rfl), ag_ (aid rfl Try.underlying45 ti48 rfl rfl hi64 (mgt Qaa hj65) rfl), ag_ (aid rfl Try.underlying82 ti79 rfl rfl hi59 (mgt Qbf hj60) rfl), ag_ (Qbu (ls := [x62.Mass, x62.Heat, x62.Silica, x62.Gas]) (ks := [x57.Water.Mass, x57.Water.Heat, x57.Water.Silica, x57.Water.Gas]) rfl rfl Qhc (by kernel_rfl) rfl rfl), asb hb66 (amv rfl), ag_ (aid rfl Try.underlying32 ti50 rfl rfl hi69 (mgt Qax hj70) rfl), ag_ (aid rfl Try.underlying82 ti79 rfl rfl hi73 (mgt Qbf hj74) rfl), asb hb75 (amv rfl), trivial⟩ ?_
          refine Qad ?_
          obtain rfl := osi h
          exact fend ⟨[B false], ⟨rot (by kernel_rfl), trivial⟩, rfl⟩ nll
        ·replace h := Qa3 hb66 h
         refine wxd tbk [(2, rp [(.tmp 163, (Qdu x12)), ci 1] (.dptr (Qab (x30)) 0)), (4, rp [(.tmp 165, (Qg8 x30)), ci 0] (.dptr (Qaa (x34)) 0)), (8, rp [(.tmp 167, (Qll x34)), (.tmp 169, (Qlk x18))] (B ((([x34.Mass, x34.Heat, x34.Silica, x34.Gas] : List Int) == [x18.1.Steam.Mass, x18.1.Steam.Heat, x18.1.Steam.Silica, x18.1.Steam.Gas])))), (9, rp [(.tmp 170, (B ((([x34.Mass, x34.Heat, x34.Silica, x34.Gas] : List Int) == [x18.1.Steam.Mass, x18.1.Steam.Heat, x18.1.Steam.Silica, x18.1.Steam.Gas]))))] (B true)), (12, rp [(.tmp 171, B true), (.tmp 173, (Qdu x12)), ci 1] (.dptr (Qab (x30)) 0)), (14, rp [(.tmp 171, B true), (.tmp 175, (Qg8 x30)), ci 1] (.dptr (Qaa (x39)) 0)), (18, rp [(.tmp 171, B true), (.tmp 177, (Qmx x39)), (.tmp 179, (Qmw x18))] (B ((([x39.Mass, x39.Heat, x39.Silica, x39.Gas] : List Int) == [x18.1.Water.Mass, x18.1.Water.Heat, x18.1.Water.Silica, x18.1.Water.Gas])))), (20, rp [(.tmp 181, (B ((([x39.Mass, x39.Heat, x39.Silica, x39.Gas] : List Int) == [x18.1.Water.Mass, x18.1.Water.Heat, x18.1.Water.Silica, x18.1.Water.Gas]))))] (B true)), (23, rp [(.tmp 182, B true), (.tmp 184, (Qji x12)), ci 1] (.dptr (Qax (x44)) 0)), (30, rp [(.tmp 191, (B ((x44.Scale == x18.1.Scale))))] (B true)), (33, rp [(.tmp 192, B true), (.tmp 194, (Qgd x22)), ci 2] (.dptr (Qab (x49)) 0)), (35, rp [(.tmp 192, B true), (.tmp 196, (Qkx x49)), ci 0] (.dptr (Qaa (x53)) 0)), (38, rp [(.tmp 192, B true), (.tmp 199, (Qez x28)), ci 1] (.dptr (Qbf (x57)) 0)), (41, rp [(.tmp 192, B true), (.tmp 198, (Qqe x53)), (.tmp 202, (Qqd x57))] (B ((([x53.Mass, x53.Heat, x53.Silica, x53.Gas] : List Int) == [x57.Steam.Mass, x57.Steam.Heat, x57.Steam.Silica, x57.Steam.Gas])))), (43, rp [(.tmp 204, (B ((([x53.Mass, x53.Heat, x53.Silica, x53.Gas] : List Int) == [x57.Steam.Mass, x57.Steam.Heat, x57.Steam.Silica, x57.Steam.Gas]))))] (B true)), (46, rp [(.tmp 205, B true), (.tmp 207, (Qgd x22)), ci 2] (.dptr (Qab (x49)) 0)), (48, rp [(.tmp 205, B true), (.tmp 209, (Qkx x49)), ci 1] (.dptr (Qaa (x62)) 0)), (51, rp [(.tmp 205, B true), (.tmp 212, (Qez x28)), ci 1] (.dptr (Qbf (x57)) 0)), (54, rp [(.tmp 205, B true), (.tmp 211, (Qs8 x62)), (.tmp 215, (Qs7 x57))] (B ((([x62.Mass, x62.Heat, x62.Silica, x62.Gas] : List Int) == [x57.Water.Mass, x57.Water.Heat, x57.Water.Silica, x57.Water.Gas])))), (56, rp [(.tmp 217, (B ((([x62.Mass, x62.Heat, x62.Silica, x62.Gas] : List Int) == [x57.Water.Mass, x57.Water.Heat, x57.Water.Silica, x57.Water.Gas]))))] (B false))] ⟨aid rfl Try.underlying31 ti45 rfl rfl hi32 (mgt Qab hj33) rfl, aid rfl Try.underlying45 ti48 rfl rfl hi36 (mgt Qaa hj37) rfl, Qbu (ls := [x34.Mass, x34.Heat, x34.Silica, x34.Gas]) (ks := [x18.1.Steam.Mass, x18.1.Steam.Heat, x18.1.Steam.Silica, x18.1.Steam.Gas]) rfl rfl Qhc (by kernel_rfl) rfl rfl, asb hb38 (amv rfl), ag_ (aid rfl Try.underlying31 ti45 rfl rfl hi32 (mgt Qab hj33) rfl), ag_ (aid rfl Try.underlying45 ti48 rfl rfl hi41 (mgt Qaa hj42) rfl), ag_ (Qbu (ls := [x39.Mass, x39.Heat, x39.Silica, x39.Gas]) (ks := [x18.1.Water.Mass, x18.1.Water.Heat, x18.1.Water.Silica, x18.1.Water.Gas]) rfl rfl Qhc (by kernel_rfl) rfl rfl), asb hb43 (amv rfl), ag_ (aid rfl Try.underlying32 ti50 rfl rfl hi46 (mgt Qax hj47) rfl), asb hb48 (amv rfl), ag_ (aid rfl Try.underlying31 ti45 rfl rfl hi51 (mgt Qab hj52) rfl), ag_ (aid rfl Try.underlying45 ti48 rfl rfl hi55 (mgt Qaa hj56) rfl), ag_ (aid rfl Try.underlying82 ti79 rfl rfl hi59 (mgt Qbf hj60) rfl), ag_ (Qbu (ls := [x53.Mass, x53.Heat, x53.Silica, x53.Gas]) (ks := [x57.Steam.Mass, x57.Steam.Heat, x57.Steam.Silica, x57.Steam.Gas]) rfl rfl Qhc (by kernel_rfl) rfl rfl), asb hb61 (amv rfl), ag_ (aid rfl Try.underlying31 ti45 rfl rfl hi51 (mgt Qab hj52) rfl), ag_ (aid rfl Try.underlying45 ti48 rfl rfl hi64 (mgt Qaa hj65) rfl), ag_ (aid rfl Try.underlying82 ti79 rfl rfl hi59 (mgt Qbf hj60) rfl), ag_ (Qbu (ls := [x62.Mass, x62.Heat, x62.Silica, x62.Gas]) (ks := [x57.Water.Mass, x57.Water.Heat, x57.Water.Silica, x57.Water.Gas]) rfl rfl Qhc (by kernel_rfl) rfl rfl), asb hb66 (amv rfl), trivial⟩ ?_
         refine Qad ?_
         obtain rfl := osi h
         exact fend ⟨[B false], ⟨rot (by kernel_rfl), trivial⟩, rfl⟩ nll
       ·replace h := Qa3 hb61 h
        refine wxd tbk [(2, rp [(.tmp 163, (Qdu x12)), ci 1] (.dptr (Qab (x30)) 0)), (4, rp [(.tmp 165, (Qg8 x30)), ci 0] (.dptr (Qaa (x34)) 0)), (8, rp [(.tmp 167, (Qll x34)), (.tmp 169, (Qlk x18))] (B ((([x34.Mass, x34.Heat, x34.Silica, x34.Gas] : List Int) == [x18.1.Steam.Mass, x18.1.Steam.Heat, x18.1.Steam.Silica, x18.1.Steam.Gas])))), (9, rp [(.tmp 170, (B ((([x34.Mass, x34.Heat, x34.Silica, x34.Gas] : List Int) == [x18.1.Steam.Mass, x18.1.Steam.Heat, x18.1.Steam.Silica, x18.1.Steam.Gas]))))] (B true)), (12, rp [(.tmp 171, B true), (.tmp 173, (Qdu x12)), ci 1] (.dptr (Qab (x30)) 0)), (14, rp [(.tmp 171, B true), (.tmp 175, (Qg8 x30)), ci 1] (.dptr (Qaa (x39)) 0)), (18, rp [(.tmp 171, B true), (.tmp 177, (Qmx x39)), (.tmp 179, (Qmw x18))] (B ((([x39.Mass, x39.Heat, x39.Silica, x39.Gas] : List Int) == [x18.1.Water.Mass, x18.1.Water.Heat, x18.1.Water.Silica, x18.1.Water.Gas])))), (20, rp [(.tmp 181, (B ((([x39.Mass, x39.Heat, x39.Silica, x39.Gas] : List Int) == [x18.1.Water.Mass, x18.1.Water.Heat, x18.1.Water.Silica, x18.1.Water.Gas]))))] (B true)), (23, rp [(.tmp 182, B true), (.tmp 184, (Qji x12)), ci 1] (.dptr (Qax (x44)) 0)), (30, rp [(.tmp 191, (B ((x44.Scale == x18.1.Scale))))] (B true)), (33, rp [(.tmp 192, B true), (.tmp 194, (Qgd x22)), ci 2] (.dptr (Qab (x49)) 0)), (35, rp [(.tmp 192, B true), (.tmp 196, (Qkx x49)), ci 0] (.dptr (Qaa (x53)) 0)), (38, rp [(.tmp 192, B true), (.tmp 199, (Qez x28)), ci 1] (.dptr (Qbf (x57)) 0)), (41, rp [(.tmp 192, B true), (.tmp 198, (Qqe x53)), (.tmp 202, (Qqd x57))] (B ((([x53.Mass, x53.Heat, x53.Silica, x53.Gas] : List Int) == [x57.Steam.Mass, x57.Steam.Heat, x57.Steam.Silica, x57.Steam.Gas])))), (43, rp [(.tmp 204, (B ((([x53.Mass, x53.Heat, x53.Silica, x53.Gas] : List Int) == [x57.Steam.Mass, x57.Steam.Heat, x57.Steam.Silica, x57.Steam.Gas]))))] (B false))] ⟨aid rfl Try.underlying31 ti45 rfl rfl hi32 (mgt Qab hj33) rfl, aid rfl Try.underlying45 ti48 rfl rfl hi36 (mgt Qaa hj37) rfl, Qbu (ls := [x34.Mass, x34.Heat, x34.Silica, x34.Gas]) (ks := [x18.1.Steam.Mass, x18.1.Steam.Heat, x18.1.Steam.Silica, x18.1.Steam.Gas]) rfl rfl Qhc (by kernel_rfl) rfl rfl, asb hb38 (amv rfl), ag_ (aid rfl Try.underlying31 ti45 rfl rfl hi32 (mgt Qab hj33) rfl), ag_ (aid rfl Try.underlying45 ti48 rfl rfl hi41 (mgt Qaa hj42) rfl), ag_ (Qbu (ls := [x39.Mass, x39.Heat, x39.Silica, x39.Gas]) (ks := [x18.1.Water.Mass, x18.1.Water.Heat, x18.1.Water.Silica, x18.1.Water.Gas]) rfl rfl Qhc (by kernel_rfl) rfl rfl), asb hb43 (amv rfl), ag_ (aid rfl Try.underlying32 ti50 rfl rfl hi46 (mgt Qax hj47) rfl), asb hb48 (amv rfl), ag_ (aid rfl Try.underlying31 ti45 rfl rfl hi51 (mgt Qab hj52) rfl), ag_ (aid rfl Try.underlying45 ti48 rfl rfl hi55 (mgt Qaa hj56) rfl), ag_ (aid rfl Try.underlying82 ti79 rfl rfl hi59 (mgt Qbf hj60) rfl), ag_ (Qbu (ls := [x53.Mass, x53.Heat, x53.Silica, x53.Gas]) (ks := [x57.Steam.Mass, x57.Steam.Heat, x57.Steam.Silica, x57.Steam.Gas]) rfl rfl Qhc (by kernel_rfl) rfl rfl), asb hb61 (amv rfl), trivial⟩ ?_
        refine Qad ?_
        obtain rfl := osi h
        exact fend ⟨[B false], ⟨rot (by kernel_rfl), trivial⟩, rfl⟩ nll
      ·replace h := Qa3 hb48 h
       refine wxd tbk [(2, rp [(.tmp 163, (Qdu x12)), ci 1] (.dptr (Qab (x30)) 0)), (4, rp [(.tmp 165, (Qg8 x30)), ci 0] (.dptr (Qaa (x34)) 0)), (8, rp [(.tmp 167, (Qll x34)), (.tmp 169, (Qlk x18))] (B ((([x34.Mass, x34.Heat, x34.Silica, x34.Gas] : List Int) == [x18.1.Steam.Mass, x18.1.Steam.Heat, x18.1.Steam.Silica, x18.1.Steam.Gas])))), (9, rp [(.tmp 170, (B ((([x34.Mass, x34.Heat, x34.Silica, x34.Gas] : List Int) == [x18.1.Steam.Mass, x18.1.Steam.Heat, x18.1.Steam.Silica, x18.1.Steam.Gas]))))] (B true)), (12, rp [(.tmp 171, B true), (.tmp 173, (Qdu x12)), ci 1] (.dptr (Qab (x30)) 0)), (14, rp [(.tmp 171, B true), (.tmp 175, (Qg8 x30)), ci 1] (.dptr (Qaa (x39)) 0)), (18, rp [(.tmp 171, B true), (.tmp 177, (Qmx x39)), (.tmp 179, (Qmw x18))] (B ((([x39.Mass, x39.Heat, x39.Silica, x39.Gas] : List Int) == [x18.1.Water.Mass, x18.1.Water.Heat, x18.1.Water.Silica, x18.1.Water.Gas])))), (20, rp [(.tmp 181, (B ((([x39.Mass, x39.Heat, x39.Silica, x39.Gas] : List Int) == [x18.1.Water.Mass, x18.1.Water.Heat, x18.1.Water.Silica, x18.1.Water.Gas]))))] (B true)), (23, rp [(.tmp 182, B true), (.tmp 184, (Qji x12)), ci 1] (.dptr (Qax (x44)) 0)), (30, rp [(.tmp 191, (B ((x44.Scale == x18.1.Scale))))] (B false))] ⟨aid rfl Try.underlying31 ti45 rfl rfl hi32 (mgt Qab hj33) rfl, aid rfl Try.underlying45 ti48 rfl rfl hi36 (mgt Qaa hj37) rfl, Qbu (ls := [x34.Mass, x34.Heat, x34.Silica, x34.Gas]) (ks := [x18.1.Steam.Mass, x18.1.Steam.Heat, x18.1.Steam.Silica, x18.1.Steam.Gas]) rfl rfl Qhc (by kernel_rfl) rfl rfl, asb hb38 (amv rfl), ag_ (aid rfl Try.underlying31 ti45 rfl rfl hi32 (mgt Qab hj33) rfl), ag_ (aid rfl Try.underlying45 ti48 rfl rfl hi41 (mgt Qaa hj42) rfl), ag_ (Qbu (ls := [x39.Mass, x39.Heat, x39.Silica, x39.Gas]) (ks := [x18.1.Water.Mass, x18.1.Water.Heat, x18.1.Water.Silica, x18.1.Water.Gas]) rfl rfl Qhc (by kernel_rfl) rfl rfl), asb hb43 (amv rfl), ag_ (aid rfl Try.underlying32 ti50 rfl rfl hi46 (mgt Qax hj47) rfl), asb hb48 (amv rfl), trivial⟩ ?_
       refine Qad ?_
       obtain rfl := osi h
       exact fend ⟨[B false], ⟨rot (by kernel_rfl), trivial⟩, rfl⟩ nll
     ·replace h := Qa3 hb43 h
      refine wxd tbk [(2, rp [(.tmp 163, (Qdu x12)), ci 1] (.dptr (Qab (x30)) 0)), (4, rp [(.tmp 165, (Qg8 x30)), ci 0] (.dptr (Qaa (x34)) 0)), (8, rp [(.tmp 167, (Qll x34)), (.tmp 169, (Qlk x18))] (B ((([x34.Mass, x34.Heat, x34.Silica, x34.Gas] : List Int) == [x18.1.Steam.Mass, x18.1.Steam.Heat, x18.1.Steam.Silica, x18.1.Steam.Gas])))), (9, rp [(.tmp 170, (B ((([x34.Mass, x34.Heat, x34.Silica, x34.Gas] : List Int) == [x18.1.Steam.Mass, x18.1.Steam.Heat, x18.1.Steam.Silica, x18.1.Steam.Gas]))))] (B true)), (12, rp [(.tmp 171, B true), (.tmp 173, (Qdu x12)), ci 1] (.dptr (Qab (x30)) 0)), (14, rp [(.tmp 171, B true), (.tmp 175, (Qg8 x30)), ci 1] (.dptr (Qaa (x39)) 0)), (18, rp [(.tmp 171, B true), (.tmp 177, (Qmx x39)), (.tmp 179, (Qmw x18))] (B ((([x39.Mass, x39.Heat, x39.Silica, x39.Gas] : List Int) == [x18.1.Water.Mass, x18.1.Water.Heat, x18.1.Water.Silica, x18.1.Water.Gas])))), (20, rp [(.tmp 181, (B ((([x39.Mass, x39.Heat, x39.Silica, x39.Gas] : List Int) == [x18.1.Water.Mass, x18.1.Water.Heat, x18.1.Water.Silica, x18.1.Water.Gas]))))] (B false))] ⟨aid rfl Try.underlying31 ti45 rfl rfl hi32 (mgt Qab hj33) rfl, aid rfl Try.underlying45 ti48 rfl rfl hi36 (mgt Qaa hj37) rfl, Qbu (ls := [x34.Mass, x34.Heat, x34.Silica, x34.Gas]) (ks := [x18.1.Steam.Mass, x18.1.Steam.Heat, x18.1.Steam.Silica, x18.1.Steam.Gas]) rfl rfl Qhc (by kernel_rfl) rfl rfl, asb hb38 (amv rfl), ag_ (aid rfl Try.underlying31 ti45 rfl rfl hi32 (mgt Qab hj33) rfl), ag_ (aid rfl Try.underlying45 ti48 rfl rfl hi41 (mgt Qaa hj42) rfl), ag_ (Qbu (ls := [x39.Mass, x39.Heat, x39.Silica, x39.Gas]) (ks := [x18.1.Water.Mass, x18.1.Water.Heat, x18.1.Water.Silica, x18.1.Water.Gas]) rfl rfl Qhc (by kernel_rfl) rfl rfl), asb hb43 (amv rfl), trivial⟩ ?_
      refine Qad ?_
      obtain rfl := osi h
      exact fend ⟨[B false], ⟨rot (by kernel_rfl), trivial⟩, rfl⟩ nll
    ·replace h := Qa3 hb38 h
     refine wxd tbk [(2, rp [(.tmp 163, (Qdu x12)), ci 1] (.dptr (Qab (x30)) 0)), (4, rp [(.tmp 165, (Qg8 x30)), ci 0] (.dptr (Qaa (x34)) 0)), (8, rp [(.tmp 167, (Qll x34)), (.tmp 169, (Qlk x18))] (B ((([x34.Mass, x34.Heat, x34.Silica, x34.Gas] : List Int) == [x18.1.Steam.Mass, x18.1.Steam.Heat, x18.1.Steam.Silica, x18.1.Steam.Gas])))), (9, rp [(.tmp 170, (B ((([x34.Mass, x34.Heat, x34.Silica, x34.Gas] : List Int) == [x18.1.Steam.Mass, x18.1.Steam.Heat, x18.1.Steam.Silica, x18.1.Steam.Gas]))))] (B false))] ⟨aid rfl Try.underlying31 ti45 rfl rfl hi32 (mgt Qab hj33) rfl, aid rfl Try.underlying45 ti48 rfl rfl hi36 (mgt Qaa hj37) rfl, Qbu (ls := [x34.Mass, x34.Heat, x34.Silica, x34.Gas]) (ks := [x18.1.Steam.Mass, x18.1.Steam.Heat, x18.1.Steam.Silica, x18.1.Steam.Gas]) rfl rfl Qhc (by kernel_rfl) rfl rfl, asb hb38 (amv rfl), trivial⟩ ?_
     refine Qad ?_
     obtain rfl := osi h
     exact fend ⟨[B false], ⟨rot (by kernel_rfl), trivial⟩, rfl⟩ nll
   ·skip
    rcases bft ((x12.2.2 != 0)) with hb83 | hb83
    ·replace h := Qa2 hb83 h
     refine wx tbk [(2, rp [(.tmp 104, (B ((x12.2.2 != 0))))] (B true))] ⟨asb hb83 (amv rfl), trivial⟩ ?_
     refine Qbq (by kernel_rfl) ?_
     refine wx tbk [] trivial ?_
     refine Qad ?_
     refine Qaj ?_
     obtain rfl := osi h
     exact fend ⟨[B false], ⟨rot (by kernel_rfl), trivial⟩, rfl⟩ nll
    ·replace h := Qa3 hb83 h
     rcases bft ((x18.2 != 0)) with hb84 | hb84
     ·replace h := Qa2 hb84 h
      refine wx tbk [(2, rp [(.tmp 104, (B ((x12.2.2 != 0))))] (B false)), (6, rp [(.tmp 108, (B ((x18.2 != 0))))] (B true))] ⟨asb hb83 (amv rfl), asb hb84 (amv rfl), trivial⟩ ?_
      refine Qbq (by kernel_rfl) ?_
      refine wx tbk [] trivial ?_
      refine Qad ?_
      refine Qaj ?_
      obtain rfl := osi h
      exact fend ⟨[B false], ⟨rot (by kernel_rfl), trivial⟩, rfl⟩ nll
     ·replace h := Qa3 hb84 h
      rcases bft ((x22.2.2 != 0)) with hb85 | hb85
      ·replace h := Qa2 hb85 h
       refine wx tbk [(2, rp [(.tmp 104, (B ((x12.2.2 != 0))))] (B false)), (6, rp [(.tmp 108, (B ((x18.2 != 0))))] (B false)), (10, rp [(.tmp 112, (B ((x22.2.2 != 0))))] (B true))] ⟨asb hb83 (amv rfl), asb hb84 (amv rfl), asb hb85 (amv rfl), trivial⟩ ?_
       refine Qbq (by kernel_rfl) ?_
       refine wx tbk [] trivial ?_
       refine Qad ?_
       refine Qaj ?_
       obtain rfl := osi h
       exact fend ⟨[B false], ⟨rot (by kernel_rfl), trivial⟩, rfl⟩ nll
      ·replace h := Qa3 hb85 h
       rcases bft ((x28.2 != 0)) with hb86 | hb86
       ·replace h := Qa2 hb86 h
        refine wx tbk [(2, rp [(.tmp 104, (B ((x12.2.2 != 0))))] (B false)), (6, rp [(.tmp 108, (B ((x18.2 != 0))))] (B false)), (10, rp [(.tmp 112, (B ((x22.2.2 != 0))))] (B false)), (14, rp [(.tmp 116, (B ((x28.2 != 0))))] (B true))] ⟨asb hb83 (amv rfl), asb hb84 (amv rfl), asb hb85 (amv rfl), asb hb86 (amv rfl), trivial⟩ ?_
        refine Qbq (by kernel_rfl) ?_
        refine wx tbk [] trivial ?_
        refine Qad ?_
        refine Qaj ?_
        obtain rfl := osi h
        exact fend ⟨[B false], ⟨rot (by kernel_rfl), trivial⟩, rfl⟩ nll
       ·replace h := Qa3 hb86 h
        rcases bft (((x28.1.length : Int) != 2)) with hb87 | hb87
        ·replace h := Qa2 hb87 h
         refine wx tbk [(2, rp [(.tmp 104, (B ((x12.2.2 != 0))))] (B false)), (6, rp [(.tmp 108, (B ((x18.2 != 0))))] (B false)), (10, rp [(.tmp 112, (B ((x22.2.2 != 0))))] (B false)), (14, rp [(.tmp 116, (B ((x28.2 != 0))))] (B false)), (16, rp [(.tmp 117, B false), (.tmp 118, (Qez x28))] (I ((x28.1.length : Int)))), (19, rp [(.tmp 121, (B (((x28.1.length : Int) != 2))))] (B true))] ⟨asb hb83 (amv rfl), asb hb84 (amv rfl), asb hb85 (amv rfl), asb hb86 (amv rfl), ag_ (alm (c := Qbf) (l := x28.1) (aln rfl Try.underlying82 rfl)), asb hb87 (amv rfl), trivial⟩ ?_
         refine Qbq (by kernel_rfl) ?_
         refine wx tbk [] trivial ?_
         refine Qad ?_
         refine Qaj ?_
         obtain rfl := osi h
         exact fend ⟨[B false], ⟨rot (by kernel_rfl), trivial⟩, rfl⟩ nll
        ·replace h := Qa3 hb87 h
         rcases bft (((x12.1.Out.length : Int) != 2)) with hb88 | hb88
         ·replace h := Qa2 hb88 h
          refine wx tbk [(2, rp [(.tmp 104, (B ((x12.2.2 != 0))))] (B false)), (6, rp [(.tmp 108, (B ((x18.2 != 0))))] (B false)), (10, rp [(.tmp 112, (B ((x22.2.2 != 0))))] (B false)), (14, rp [(.tmp 116, (B ((x28.2 != 0))))] (B false)), (16, rp [(.tmp 117, B false), (.tmp 118, (Qez x28))] (I ((x28.1.length : Int)))), (19, rp [(.tmp 121, (B (((x28.1.length : Int) != 2))))] (B false)), (22, rp [(.tmp 122, B false), (.tmp 124, (Qdu x12))] (I ((x12.1.Out.length : Int)))), (25, rp [(.tmp 127, (B (((x12.1.Out.length : Int) != 2))))] (B true))] ⟨asb hb83 (amv rfl), asb hb84 (amv rfl), asb hb85 (amv rfl), asb hb86 (amv rfl), ag_ (alm (c := Qbf) (l := x28.1) (aln rfl Try.underlying82 rfl)), asb hb87 (amv rfl), ag_ (alm (c := Qab) (l := x12.1.Out) (aln rfl Try.underlying31 rfl)), asb hb88 (amv rfl), trivial⟩ ?_
          refine Qbq (by kernel_rfl) ?_
          refine wx tbk [] trivial ?_
          refine Qad ?_
          refine Qaj ?_
          obtain rfl := osi h
          exact fend ⟨[B false], ⟨rot (by kernel_rfl), trivial⟩, rfl⟩ nll
         ·replace h := Qa3 hb88 h
          obtain ⟨x89, hg90, h⟩ := bno h
          obtain ⟨hi91, hj92⟩ := gsm hg90
          rcases bft (((x89.length : Int) != 2)) with hb93 | hb93
          ·replace h := Qa2 hb93 h
           refine wx tbk [(2, rp [(.tmp 104, (B ((x12.2.2 != 0))))] (B false)), (6, rp [(.tmp 108, (B ((x18.2 != 0))))] (B false)), (10, rp [(.tmp 112, (B ((x22.2.2 != 0))))] (B false)), (14, rp [(.tmp 116, (B ((x28.2 != 0))))] (B false)), (16, rp [(.tmp 117, B false), (.tmp 118, (Qez x28))] (I ((x28.1.length : Int)))), (19, rp [(.tmp 121, (B (((x28.1.length : Int) != 2))))] (B false)), (22, rp [(.tmp 122, B false), (.tmp 124, (Qdu x12))] (I ((x12.1.Out.length : Int)))), (25, rp [(.tmp 127, (B (((x12.1.Out.length : Int) != 2))))] (B false)), (28, rp [(.tmp 128, B false), (.tmp 130, (Qdu x12)), ci 1] (.dptr (Qab (x89)) 0)), (30, rp [(.tmp 128, B false), (.tmp 132, (Qqc x89))] (I ((x89.length : Int)))), (33, rp [(.tmp 135, (B (((x89.length : Int) != 2))))] (B true))] ⟨asb hb83 (amv rfl), asb hb84 (amv rfl), asb hb85 (amv rfl), asb hb86 (amv rfl), ag_ (alm (c := Qbf) (l := x28.1) (aln rfl Try.underlying82 rfl)), asb hb87 (amv rfl), ag_ (alm (c := Qab) (l := x12.1.Out) (aln rfl Try.underlying31 rfl)), asb hb88 (amv rfl), ag_ (aid rfl Try.underlying31 ti45 rfl rfl hi91 (mgt Qab hj92) rfl), ag_ (alm (c := Qaa) (l := x89) (aln rfl Try.underlying45 rfl)), asb hb93 (amv rfl), trivial⟩ ?_
           refine Qbq (by kernel_rfl) ?_
           refine wx tbk [] trivial ?_
           refine Qad ?_
           refine Qaj ?_
           obtain rfl := osi h
           exact fend ⟨[B false], ⟨rot (by kernel_rfl), trivial⟩, rfl⟩ nll
          ·replace h := Qa3 hb93 h
           rcases bft (((x22.1.Out.length : Int) != 3)) with hb94 | hb94
           ·replace h := Qa2 hb94 h
            refine wx tbk [(2, rp [(.tmp 104, (B ((x12.2.2 != 0))))] (B false)), (6, rp [(.tmp 108, (B ((x18.2 != 0))))] (B false)), (10, rp [(.tmp 112, (B ((x22.2.2 != 0))))] (B false)), (14, rp [(.tmp 116, (B ((x28.2 != 0))))] (B false)), (16, rp [(.tmp 117, B false), (.tmp 118, (Qez x28))] (I ((x28.1.length : Int)))), (19, rp [(.tmp 121, (B (((x28.1.length : Int) != 2))))] (B false)), (22, rp [(.tmp 122, B false), (.tmp 124, (Qdu x12))] (I ((x12.1.Out.length : Int)))), (25, rp [(.tmp 127, (B (((x12.1.Out.length : Int) != 2))))] (B false)), (28, rp [(.tmp 128, B false), (.tmp 130, (Qdu x12)), ci 1] (.dptr (Qab (x89)) 0)), (30, rp [(.tmp 128, B false), (.tmp 132, (Qqc x89))] (I ((x89.length : Int)))), (33, rp [(.tmp 135, (B (((x89.length : Int) != 2))))] (B false)), (36, rp [(.tmp 136, B false), (.tmp 138, (Qgd x22))] (I ((x22.1.Out.length : Int)))), (39, rp [(.tmp 141, (B (((x22.1.Out.length : Int) != 3))))] (B true))] ⟨asb hb83 (amv rfl), asb hb84 (amv rfl), asb hb85 (amv rfl), asb hb86 (amv rfl), ag_ (alm (c := Qbf) (l := x28.1) (aln rfl Try.underlying82 rfl)), asb hb87 (amv rfl), ag_ (alm (c := Qab) (l := x12.1.Out) (aln rfl Try.underlying31 rfl)), asb hb88 (amv rfl), ag_ (aid rfl Try.underlying31 ti45 rfl rfl hi91 (mgt Qab hj92) rfl), ag_ (alm (c := Qaa) (l := x89) (aln rfl Try.underlying45 rfl)), asb hb93 (amv rfl), ag_ (alm (c := Qab) (l := x22.1.Out) (aln rfl Try.underlying31 rfl)), asb hb94 (amv rfl), trivial⟩ ?_
            refine Qbq (by kernel_rfl) ?_
            refine wx tbk [] trivial ?_
            refine Qad ?_
            refine Qaj ?_
            obtain rfl := osi h
            exact fend ⟨[B false], ⟨rot (by kernel_rfl), trivial⟩, rfl⟩ nll
           ·replace h := Qa3 hb94 h
            obtain ⟨x95, hg96, h⟩ := bno h
            obtain ⟨hi97, hj98⟩ := gsm hg96
            rcases bft (((x95.length : Int) != 2)) with hb99 | hb99
            ·replace h := Qa2 hb99 h
             refine wx tbk [(2, rp [(.tmp 104, (B ((x12.2.2 != 0))))] (B false)), (6, rp [(.tmp 108, (B ((x18.2 != 0))))] (B false)), (10, rp [(.tmp 112, (B ((x22.2.2 != 0))))] (B false)), (14, rp [(.tmp 116, (B ((x28.2 != 0))))] (B false)), (16, rp [(.tmp 117, B false), (.tmp 118, (Qez x28))] (I ((x28.1.length : Int)))), (19, rp [(.tmp 121, (B (((x28.1.length : Int) != 2))))] (B false)), (22, rp [(.tmp 122, B false), (.tmp 124, (Qdu x12))] (I ((x12.1.Out.length : Int)))), (25, rp [(.tmp 127, (B (((x12.1.Out.length : Int) != 2))))] (B false)), (28, rp [(.tmp 128, B false), (.tmp 130, (Qdu x12)), ci 1] (.dptr (Qab (x89)) 0)), (30, rp [(.tmp 128, B false), (.tmp 132, (Qqc x89))] (I ((x89.length : Int)))), (33, rp [(.tmp 135, (B (((x89.length : Int) != 2))))] (B false)), (36, rp [(.tmp 136, B false), (.tmp 138, (Qgd x22))] (I ((x22.1.Out.length : Int)))), (39, rp [(.tmp 141, (B (((x22.1.Out.length : Int) != 3))))] (B false)), (42, rp [(.tmp 142, B false), (.tmp 144, (Qgd x22)), ci 2] (.dptr (Qab (x95)) 0)), (44, rp [(.tmp 142, B false), (.tmp 146, (Qwx x95))] (I ((x95.length : Int)))), (47, rp [(.tmp 149, (B (((x95.length : Int) != 2))))] (B true))] ⟨asb hb83 (amv rfl), asb hb84 (amv rfl), asb hb85 (amv rfl), asb hb86 (amv rfl), ag_ (alm (c := Qbf) (l := x28.1) (aln rfl Try.underlying82 rfl)), asb hb87 (amv rfl), ag_ (alm (c := Qab) (l := x12.1.Out) (aln rfl Try.underlying31 rfl)), asb hb88 (amv rfl), ag_ (aid rfl Try.underlying31 ti45 rfl rfl hi91 (mgt Qab hj92) rfl), ag_ (alm (c := Qaa) (l := x89) (aln rfl Try.underlying45 rfl)), asb hb93 (amv rfl), ag_ (alm (c := Qab) (l := x22.1.Out) (aln rfl Try.underlying31 rfl)), asb hb94 (amv rfl), ag_ (aid rfl Try.underlying31 ti45 rfl rfl hi97 (mgt Qab hj98) rfl), ag_ (alm (c := Qaa) (l := x95) (aln rfl Try.underlying45 rfl)), asb hb99 (amv rfl), trivial⟩ ?_
             refine Qbq (by kernel_rfl) ?_
             refine wx tbk [] trivial ?_
             refine Qad ?_
             refine Qaj ?_
             obtain rfl := osi h
             exact fend ⟨[B false], ⟨rot (by kernel_rfl), trivial⟩, rfl⟩ nll
            ·replace h := Qa3 hb99 h
             rcases bft (((x12.1.Lost.length : Int) != 2)) with hb100 | hb100
             ·replace h := Qa2 hb100 h
              refine wx tbk [(2, rp [(.tmp 104, (B ((x12.2.2 != 0))))] (B false)), (6, rp [(.tmp 108, (B ((x18.2 != 0))))] (B false)), (10, rp [(.tmp 112, (B ((x22.2.2 != 0))))] (B false)), (14, rp [(.tmp 116, (B ((x28.2 != 0))))] (B false)), (16, rp [(.tmp 117, B false), (.tmp 118, (Qez x28))] (I ((x28.1.length : Int)))), (19, rp [(.tmp 121, (B (((x28.1.length : Int) != 2))))] (B false)), (22, rp [(.tmp 122, B false), (.tmp 124, (Qdu x12))] (I ((x12.1.Out.length : Int)))), (25, rp [(.tmp 127, (B (((x12.1.Out.length : Int) != 2))))] (B false)), (28, rp [(.tmp 128, B false), (.tmp 130, (Qdu x12)), ci 1] (.dptr (Qab (x89)) 0)), (30, rp [(.tmp 128, B false), (.tmp 132, (Qqc x89))] (I ((x89.length : Int)))), (33, rp [(.tmp 135, (B (((x89.length : Int) != 2))))] (B false)), (36, rp [(.tmp 136, B false), (.tmp 138, (Qgd x22))] (I ((x22.1.Out.length : Int)))), (39, rp [(.tmp 141, (B (((x22.1.Out.length : Int) != 3))))] (B false)), (42, rp [(.tmp 142, B false), (.tmp 144, (Qgd x22)), ci 2] (.dptr (Qab (x95)) 0)), (44, rp [(.tmp 142, B false), (.tmp 146, (Qwx x95))] (I ((x95.length : Int)))), (47, rp [(.tmp 149, (B (((x95.length : Int) != 2))))] (B false)), (50, rp [(.tmp 150, B false), (.tmp 152, (Qji x12))] (I ((x12.1.Lost.length : Int)))), (53, rp [(.tmp 155, (B (((x12.1.Lost.length : Int) != 2))))] (B true))] ⟨asb hb83 (amv rfl), asb hb84 (amv rfl), asb hb85 (amv rfl), asb hb86 (amv rfl), ag_ (alm (c := Qbf) (l := x28.1) (aln rfl Try.underlying82 rfl)), asb hb87 (amv rfl), ag_ (alm (c := Qab) (l := x12.1.Out) (aln rfl Try.underlying31 rfl)), asb hb88 (amv rfl), ag_ (aid rfl Try.underlying31 ti45 rfl rfl hi91 (mgt Qab hj92) rfl), ag_ (alm (c := Qaa) (l := x89) (aln rfl Try.underlying45 rfl)), asb hb93 (amv rfl), ag_ (alm (c := Qab) (l := x22.1.Out) (aln rfl Try.underlying31 rfl)), asb hb94 (amv rfl), ag_ (aid rfl Try.underlying31 ti45 rfl rfl hi97 (mgt Qab hj98) rfl), ag_ (alm (c := Qaa) (l := x95) (aln rfl Try.underlying45 rfl)), asb hb99 (amv rfl), ag_ (alm (c := Qax) (l := x12.1.Lost) (aln rfl Try.underlying32 rfl)), asb hb100 (amv rfl), trivial⟩ ?_
              refine Qbq (by kernel_rfl) ?_
              refine wx tbk [] trivial ?_
              refine Qad ?_
              refine Qaj ?_
              obtain rfl := osi h
              exact fend ⟨[B false], ⟨rot (by kernel_rfl), trivial⟩, rfl⟩ nll
             ·replace h := Qa3 hb100 h
              refine wx tbk [(2, rp [(.tmp 104, (B ((x12.2.2 != 0))))] (B false)), (6, rp [(.tmp 108, (B ((x18.2 != 0))))] (B false)), (10, rp [(.tmp 112, (B ((x22.2.2 != 0))))] (B false)), (14, rp [(.tmp 116, (B ((x28.2 != 0))))] (B false)), (16, rp [(.tmp 117, B false), (.tmp 118, (Qez x28))] (I ((x28.1.length : Int)))), (19, rp [(.tmp 121, (B (((x28.1.length : Int) != 2))))] (B false)), (22, rp [(.tmp 122, B false), (.tmp 124, (Qdu x12))] (I ((x12.1.Out.length : Int)))), (25, rp [(.tmp 127, (B (((x12.1.Out.length : Int) != 2))))] (B false)), (28, rp [(.tmp 128, B false), (.tmp 130, (Qdu x12)), ci 1] (.dptr (Qab (x89)) 0)), (30, rp [(.tmp 128, B false), (.tmp 132, (Qqc x89))] (I ((x89.length : Int)))), (33, rp [(.tmp 135, (B (((x89.length : Int) != 2))))] (B false)), (36, rp [(.tmp 136, B false), (.tmp 138, (Qgd x22))] (I ((x22.1.Out.length : Int)))), (39, rp [(.tmp 141, (B (((x22.1.Out.length : Int) != 3))))] (B false)), (42, rp [(.tmp 142, B false), (.tmp 144, (Qgd x22)), ci 2] (.dptr (Qab (x95)) 0)), (44, rp [(.tmp 142, B false), (.tmp 146, (Qwx x95))] (I ((x95.length : Int)))), (47, rp [(.tmp 149, (B (((x95.length : Int) != 2))))] (B false)), (50, rp [(.tmp 150, B false), (.tmp 152, (Qji x12))] (I ((x12.1.Lost.length : Int)))), (53, rp [(.tmp 155, (B (((x12.1.Lost.length : Int) != 2))))] (B false)), (56, rp [(.tmp 156, B false), (.tmp 158, (Qky x22))] (I ((x22.1.Lost.length : Int))))] ⟨asb hb83 (amv rfl), asb hb84 (amv rfl), asb hb85 (amv rfl), asb hb86 (amv rfl), ag_ (alm (c := Qbf) (l := x28.1) (aln rfl Try.underlying82 rfl)), asb hb87 (amv rfl), ag_ (alm (c := Qab) (l := x12.1.Out) (aln rfl Try.underlying31 rfl)), asb hb88 (amv rfl), ag_ (aid rfl Try.underlying31 ti45 rfl rfl hi91 (mgt Qab hj92) rfl), ag_ (alm (c := Qaa) (l := x89) (aln rfl Try.underlying45 rfl)), asb hb93 (amv rfl), ag_ (alm (c := Qab) (l := x22.1.Out) (aln rfl Try.underlying31 rfl)), asb hb94 (amv rfl), ag_ (aid rfl Try.underlying31 ti45 rfl rfl hi97 (mgt Qab hj98) rfl), ag_ (alm (c := Qaa) (l := x95) (aln rfl Try.underlying45 rfl)), asb hb99 (amv rfl), ag_ (alm (c := Qax) (l := x12.1.Lost) (aln rfl Try.underlying32 rfl)), asb hb100 (amv rfl), ag_ (alm (c := Qax) (l := x22.1.Lost) (aln rfl Try.underlying32 rfl)), trivial⟩ ?_
              rcases bft (((x22.1.Lost.length : Int) != 3)) with hc101 | hc101
              ·replace h := Qa2 hc101 h
               refine wft hc101 (by kernel_rfl) ?_
               refine wx tbk [] trivial ?_
               refine Qad ?_
               refine Qaj ?_
               obtain rfl := osi h
               exact fend ⟨[B false], ⟨rot (by kernel_rfl), trivial⟩, rfl⟩ nll
              ·replace h := Qa3 hc101 h
               refine wfn hc101 (by kernel_rfl) ?_
               refine Qar ?_
               refine thn ?_
               exact ⟨(), h, (mto (n := 245) [(13, .ref 3 3 0 0), (16, .ref 4 10 0 0), (18, .ref 5 3 0 0), (21, (Qez x28))] [3, 4, 5] [(.own 3 [[(Qdu x12), (Qji x12), (Qw5 x12)]]), (Q4m x18), (.own 3 [[(Qgd x22), (Qky x22), (Qw0 x22)]])] hφ0 (pc (.rn (rqr rfl)) (pc (.rn (rqr rfl)) (pc (.rn (rqr rfl)) (pc (.rn (.plain _ (nld Qey _))) pn)))) (qc (spb (lc (.rn (.plain _ (nld Qap _))) (lc (.rn (.plain _ (nld Qa1 _))) (lc (.rn (.plain _ (nld Qaf _))) ln)))) (qc (spb (lc rwl (lc rwl (lc rwl (lc rwl (lc rwl (lc rwl (lc rwl (lc rwl (lc rwl (lc rwl ln))))))))))) (qc (spb (lc (.rn (.plain _ (nld Qap _))) (lc (.rn (.plain _ (nld Qa1 _))) (lc (.rn (.plain _ (nld Qaf _))) ln)))) qn))))⟩
  ·skip
   obtain ⟨x103, hf102, h⟩ := bno h
   rcases bft ((!x103)) with hb104 | hb104
   ·replace h := Qa2 hb104 h
    refine wx tbk [(1, rp [fu 21, (.tmp 23, (Qkh p0))] (B x103)), (3, rp [(.tmp 25, (B ((!x103))))] (B true))] ⟨apc (first := []) (cap := []) (vs := [(Qkh p0)]) rfl Q6r (Qlv N p0 _ hf102) rfl rfl (nlc (nld Qai _) nl0) nll rfl, asb hb104 (amv rfl), trivial⟩ ?_
    refine Qbq (by kernel_rfl) ?_
    obtain ⟨x106, hf105, h⟩ := bno h
    refine wx tbk [(0, rp [fu 7] (B x106))] ⟨apc (first := []) (cap := []) (vs := []) rfl Q6i (Qjr 2000  _ hf105) rfl rfl nl0 nll rfl, trivial⟩ ?_
    refine Qad ?_
    refine Qaj ?_
    obtain rfl := osi h
    exact fend ⟨[B x106], ⟨rot (by kernel_rfl), trivial⟩, rfl⟩ nll
   ·replace h := Qa3 hb104 h
    obtain ⟨x108, hf107, h⟩ := bno h
    refine wx tbk [(1, rp [fu 21, (.tmp 23, (Qkh p0))] (B x103)), (3, rp [(.tmp 25, (B ((!x103))))] (B false)), (5, rp [(.tmp 26, B false), fu 22, (.tmp 27, (Qmn p1))] (B x108))] ⟨apc (first := []) (cap := []) (vs := [(Qkh p0)]) rfl Q6r (Qlv N p0 _ hf102) rfl rfl (nlc (nld Qai _) nl0) nll rfl, asb hb104 (amv rfl), ag_ (apc (first := []) (cap := []) (vs := [(Qmn p1)]) rfl Ze5 (Qlw N p1 _ hf107) rfl rfl (nlc (NLt.agg _ (nlc nll (nlc nll (nlc nll (nlc nll nl0))))) nl0) nll rfl), trivial⟩ ?_
    rcases bft ((!x108)) with hc109 | hc109
    ·replace h := Qa2 hc109 h
     refine wft hc109 (by kernel_rfl) ?_
     obtain ⟨x111, hf110, h⟩ := bno h
     refine wx tbk [(0, rp [fu 7] (B x111))] ⟨apc (first := []) (cap := []) (vs := []) rfl Q6i (Qjr 2000  _ hf110) rfl rfl nl0 nll rfl, trivial⟩ ?_
     refine Qad ?_
     refine Qaj ?_
     obtain rfl := osi h
     exact fend ⟨[B x111], ⟨rot (by kernel_rfl), trivial⟩, rfl⟩ nll
    ·replace h := Qa3 hc109 h
     refine wfn hc109 (by kernel_rfl) ?_
     refine Qar ?_
     refine thn ?_
     exact ⟨(), h, (mto (n := 245) [(0, (Qkh p0)), (2, (K .u8 (p2))), (3, (K .u8 (p3))), (5, .ref 0 4 0 0)] [0] [(Zal p1)] hφ0 (pc (.rn (.plain _ (nld Qai _))) (pc rwl (pc rwl (pc (.rn (rqr rfl)) pn)))) (qc (spb (lc rwl (lc rwl (lc rwl (lc rwl ln))))) qn))⟩
end Go.Proofs.Ytmbhnllcfmiajaa
