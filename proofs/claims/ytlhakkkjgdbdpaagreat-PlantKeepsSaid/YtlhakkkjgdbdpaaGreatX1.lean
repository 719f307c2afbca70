/-
  Functions of the program: what they compute, as plain functions, and that they do. No conditions.
-/
import Derived.Test.YtlhakkkjgdbdpaaGreatXt
namespace Go.Proofs.YtlhakkkjgdbdpaaGreat
set_option maxRecDepth 100000
set_option maxHeartbeats 4000000
open Go.RowKit
def Qbb (_N : Nat) (p0 : Int) (p1 : Int) (p2 : Int) : Option Bool :=
  bif (decide (p1 ≤ p0)) then
   some (decide (p0 ≤ p2))
  else
   some false
theorem Qad (N : Nat) (p0 : Int) (p1 : Int) (p2 : Int) (r : Bool) (h : Qbb N p0 p1 p2 = some r) : Spec Tryz.prog 56 [(I p0), (I p1), (I p2)] [] (B r) [] := by
  refine Qac Tryz.func56 rfl 0 (nle rfl) (fun X φ0 w0 hφ0 hd0 => ?_)
  unfold Qbb at h
  refine wx tbk [] trivial ?_
  rcases bft ((decide (p1 ≤ p0))) with hb1 | hb1
  ·replace h := Qat hb1 h
   refine wx tbk [(3, rp [(.tmp 9, (B ((decide (p1 ≤ p0)))))] (B true))] ⟨asb hb1 (amv rfl), trivial⟩ ?_
   refine Qaa ?_
   obtain rfl := osi h
   exact fend ⟨[(B ((decide (p0 ≤ p2))))], ⟨rot (by kernel_rfl), trivial⟩, rfl⟩ nll
  ·replace h := Qau hb1 h
   refine wx tbk [(3, rp [(.tmp 9, (B ((decide (p1 ≤ p0)))))] (B false))] ⟨asb hb1 (amv rfl), trivial⟩ ?_
   refine Qaa ?_
   obtain rfl := osi h
   exact fend ⟨[B false], ⟨rot (by kernel_rfl), trivial⟩, rfl⟩ nll
def Qfh (N : Nat) (p0 : GPart) (p1 : Int) : Option Bool :=
  (Qbb N p0.Gain 0 p1).bind fun x3 =>
  bif x3 then
   (Qbb N p0.Width 1 100000).bind fun x6 =>
   some x6
  else
   some false
def z8_2 (p0 : GPart) : Slot := .own 1 [[(I (p0.Gain))]]
theorem Qku (N : Nat) (p0 : GPart) (p1 : Int) (r : Bool) (h : Qfh N p0 p1 = some r) : Spec Tryz.prog 79 [(.agg [(I (p0.Width)), (I (p0.Gain))]), (.ref 0 1 (0) 0)] [(.own 1 [[(I (p1))]])] (B (r)) [(z8_2 p0)] := by
  refine Qac Tryz.func79 rfl 1 (nle rfl) (fun X φ0 w0 hφ0 hd0 => ?_)
  unfold Qfh at h
  refine Qbh ?_
  refine wx tbk [] trivial ?_
  obtain ⟨x3, hf2, h⟩ := bno h
  refine wx tbk [(3, rp [fu 56, (.tmp 6, I p0.Gain), ci 0, (.tmp 7, I p1)] (B x3))] ⟨apc (first := []) (cap := []) (vs := [I p0.Gain, I 0, I p1]) rfl Qbs (Qad N p0.Gain 0 p1 _ hf2) rfl rfl (nlc nll (nlc nll (nlc nll nl0))) nll rfl, trivial⟩ ?_
  refine wx tbk [] trivial ?_
  rcases bft (x3) with hb4 | hb4
  ·replace h := Qat hb4 h
   obtain ⟨x6, hf5, h⟩ := bno h
   refine wx tbk [(1, rp [(.tmp 11, B x3)] (B true)), (4, rp [(.tmp 12, B true), fu 56, (.tmp 14, I p0.Width), ci 1, ci 100000] (B x6))] ⟨asb hb4 (amv rfl), ag_ (apc (first := []) (cap := []) (vs := [I p0.Width, I 1, I 100000]) rfl Qbs (Qad N p0.Width 1 100000 _ hf5) rfl rfl (nlc nll (nlc nll (nlc nll nl0))) nll rfl), trivial⟩ ?_
   refine wmr (mto (n := 17) (l' := [(3, B x6)]) (own' := [(z8_2 p0)]) [(3, B x6)] [0] [(z8_2 p0)] hφ0 (pc rwl pn) (qc (spb (lc rwl ln)) qn)) ?_
   refine Qaa ?_
   obtain rfl := osi h
   exact ⟨_, Mor.rfl, Qb7 (vs := [B x6]) ⟨rot (by kernel_rfl), trivial⟩ rfl (NLt.of0 nll) (by kernel_rfl) (Qaf (Qav (nlc (NLt.of0 nll) nl0)) Qbd)⟩
  ·replace h := Qau hb4 h
   refine wx tbk [(1, rp [(.tmp 11, B x3)] (B false))] ⟨asb hb4 (amv rfl), trivial⟩ ?_
   refine wmr (mto (n := 17) (l' := [(3, B false)]) (own' := [(z8_2 p0)]) [(3, B false)] [0] [(z8_2 p0)] hφ0 (pc rwl pn) (qc (spb (lc rwl ln)) qn)) ?_
   refine Qaa ?_
   obtain rfl := osi h
   exact ⟨_, Mor.rfl, Qb7 (vs := [B false]) ⟨rot (by kernel_rfl), trivial⟩ rfl (NLt.of0 nll) (by kernel_rfl) (Qaf (Qav (nlc (NLt.of0 nll) nl0)) Qbd)⟩
def Qdr (N : Nat) (p0 : GPart) (p1 : Int) : Option Bool :=
  (Qfh N p0 p1).bind fun x3 =>
  some (!x3)
def z7_1 (p0 : GPart) : AV := .agg [(I (p0.Width)), (I (p0.Gain))]
def z7_2 : AV := .fn (.func 79) [] [(.ref 1 1 (0) 0)]
def z7_3 (p0 : GPart) : Slot := .own 1 [[(I (p0.Gain))]]
theorem Qjq (N : Nat) (p0 : GPart) (p1 : Int) (r : Bool) (h : Qdr N p0 p1 = some r) : Spec Tryz.prog 99 [(z7_1 p0), (.ref 0 1 (0) 0)] [(.own 1 [[z7_2]]), (.own 1 [[(I (p1))]])] (B (r)) [(.own 1 [[z7_2]]), (z7_3 p0)] := by
  refine Qac Tryz.func99 rfl 2 (nle rfl) (fun X φ0 w0 hφ0 hd0 => ?_)
  unfold Qdr at h
  refine Qbh ?_
  refine wx tbk [] trivial ?_
  obtain ⟨x3, hf2, h⟩ := bno h
  refine wx tbk [(2, ⟨[(.tmp 4, z7_2), (.tmp 5, (z7_1 p0))], [(1, .own 1 [[I p1]])], B x3, [(1, (z7_3 p0))], false⟩)] ⟨Qah (first := []) (cap := [.ref 1 1 0 0]) (vs := [(z7_1 p0)]) (σr := [(.own 1 [[I p1]])]) (σr' := [(z7_3 p0)]) (res' := (B x3)) [1] rfl Zbw (Qku N p0 p1 _ hf2) rfl (Qbc (rnc (.plain _ (NLt.agg _ (nlc nll (nlc nll nl0)))) (rnc (Qa2 rfl) rn0))) (slc (Qae (rnc (.plain _ nll) rn0)) Qag) (slc (Qae (rnc (.plain _ nll) rn0)) Qag) (.plain _ nll) rfl rfl rfl, trivial⟩ ?_
  refine wmr (mto (n := 8) (l' := [(3, (B ((!x3))))]) (own' := [(.own 1 [[z7_2]]), (z7_3 p0)]) [(3, (B ((!x3))))] [0, 1] [(.own 1 [[z7_2]]), (z7_3 p0)] hφ0 (pc rwl pn) (qc (spb (lc (.rn (Qas rn0 (rnc (rqr rfl) rn0))) ln)) (qc (spb (lc rwl ln)) qn))) ?_
  refine Qaa ?_
  obtain rfl := osi h
  exact ⟨_, Mor.rfl, Qb7 (vs := [(B ((!x3)))]) ⟨rot (by kernel_rfl), trivial⟩ rfl (NLt.of0 nll) (by kernel_rfl) (Qaf (Qav (nlc (NLt.fn _ _ _ nl0 (nlc (NLt.ref _ _ _ _ (by decide)) nl0)) nl0)) (Qaf (Qav (nlc (NLt.of0 nll) nl0)) Qbd))⟩
def Qa5 (N : Nat) (p0 : (List GPart)) (k4 : Int → Option (Int × Int)) : Nat → Int → Int → Option (Int × Int)
  | 0, _, _ => none
  | n9 + 1, y5, y6 =>
    bif (decide (y5 < (p0.length : Int))) then
     (getI p0 y5).bind fun x11 =>
     (Qdr N x11 y6).bind fun x16 =>
     bif x16 then
      some (y5, x11.Gain)
     else
      Qa5 N p0 k4 n9 (w64 (y5 + 1)) x11.Gain
    else
     k4 (y6)
def Qch (N : Nat) (p0 : (List GPart)) (p1 : Int) : Option (Int × Int) :=
  Qc5 (fun y3 =>
    some ((-1), y3)) fun k4 : Int → Option (Int × Int) =>
  Qa5 N p0 k4 N 0 p1
def z6_0 (p0 : (List GPart)) : AV := .dat 2 ((p0 : List GPart).map Qba)
def z6_1 : AV := .fn (.func 99) [] [(.ref 0 1 (0) 0)]
def z6_3 : AV := .fn (.func 79) [] [(.ref 1 1 (0) 0)]
def Q1l (x11 : GPart) : Slot := .own 1 [[(I (x11.Gain))]]
theorem Qf4 (N : Nat) (p0 : (List GPart)) (p1 : Int) (r : (Int × Int)) (h : Qch N p0 p1 = some r) : Spec Tryz.prog 115 [(z6_0 p0), z6_1] [(.own 1 [[z6_3]]), (.own 1 [[(I (p1))]])] (I (r.1)) [(.own 1 [[z6_3]]), (.own 1 [[(I (r.2))]])] := by
  refine Qac Tryz.func115 rfl 2 (nle rfl) (fun X φ0 w0 hφ0 hd0 => ?_)
  unfold Qch at h
  refine Qbh ?_
  refine wx tbk [] trivial ?_
  obtain ⟨k4, hk_k4, h⟩ := jko h
  refine wjn (τ := Int) (fun t => k4 t = some r) (fun y3 => ⟨mk 19 [], [(.own 1 [[z6_3]]), (.own 1 [[I y3]])]⟩) (fun y3 h => ?_) ?_
  ·subst hk_k4
   refine wx tbk [] trivial ?_
   refine wmr (mto (n := 19) (l' := [(4, (I ((-1))))]) (own' := [(.own 1 [[z6_3]]), (.own 1 [[I y3]])]) [(4, (I ((-1))))] [0, 1] [(.own 1 [[z6_3]]), (.own 1 [[I y3]])] hφ0 (pc rwl pn) (qc (spb (lc (.rn (Qas rn0 (rnc (rqr rfl) rn0))) ln)) (qc (spb (lc rwl ln)) qn))) ?_
   refine Qaa ?_
   obtain rfl := osi h
   exact ⟨_, Mor.rfl, Qb7 (vs := [(I ((-1)))]) ⟨rot (by kernel_rfl), trivial⟩ rfl (NLt.of0 nll) (by kernel_rfl) (Qaf (Qav (nlc (NLt.fn _ _ _ nl0 (nlc (NLt.ref _ _ _ _ (by decide)) nl0)) nl0)) (Qaf (Qav (nlc (NLt.of0 nll) nl0)) Qbd))⟩
  ·skip
   refine wx tbk [(1, rp [(.tmp 6, (z6_0 p0))] (I ((p0.length : Int))))] ⟨alm (c := Qba) (l := p0) (aln rfl Tryz.underlying43 rfl), trivial⟩ ?_
   refine Qaj ?_
   refine wmr (mto (n := 19) (l' := [(0, (z6_0 p0)), (1, z6_1), (7, (I ((p0.length : Int)))), (8, I 0)]) (own' := [(.own 1 [[z6_3]]), (.own 1 [[I p1]])]) [(0, (z6_0 p0)), (1, z6_1), (7, (I ((p0.length : Int)))), (8, I 0)] [0, 1] [(.own 1 [[z6_3]]), (.own 1 [[I p1]])] hφ0 (pc (.rn (.plain _ (nld Qaq _))) (pc (.rn (Qas rn0 (rnc (rqr rfl) rn0))) (pc rwl (pc rwl pn)))) (qc (spb (lc (.rn (Qas rn0 (rnc (rqr rfl) rn0))) ln)) (qc (spb (lc rwl ln)) qn))) ?_
   refine Qcl (τ := Int × Int) (fun n t => Qa5 N p0 k4 n t.1 t.2 = some r) (fun ⟨y5, y6⟩ => ⟨mk 19 [(0, (z6_0 p0)), (1, z6_1), (7, (I ((p0.length : Int)))), (8, I y5)], [(.own 1 [[z6_3]]), (.own 1 [[I y6]])]⟩) (fun t h => by rw [Qa5] at h; cases h) (fun n9 ih t h => ?_) N (0, p1) h
   obtain ⟨y5, y6⟩ := t
   rw [Qa5] at h
   skip
   refine wx tbk [] trivial ?_
   refine wsq ?_
   rcases bft ((decide (y5 < (p0.length : Int)))) with hc10 | hc10
   ·replace h := Qat hc10 h
    refine wft hc10 (by kernel_rfl) ?_
    refine Qam ?_
    refine thn ?_
    refine wsq ?_
    refine Qaj ?_
    refine wx tbk [] trivial ?_
    obtain ⟨x11, hg12, h⟩ := bno h
    obtain ⟨hi13, hj14⟩ := gsm hg12
    obtain ⟨x16, hf15, h⟩ := bno h
    refine wx tbk [(3, rp [(.tmp 12, (z6_0 p0)), (.tmp 13, I y5)] (.dptr (Qba (x11)) 0)), (5, ⟨[(.tmp 11, z6_1), (.tmp 15, (.agg [I x11.Width, I x11.Gain]))], [(0, .own 1 [[z6_3]]), (1, .own 1 [[I y6]])], B x16, [(0, .own 1 [[z6_3]]), (1, (Q1l x11))], false⟩)] ⟨aid rfl Tryz.underlying43 Qp1 rfl rfl hi13 (mgt Qba hj14) rfl, Qah (first := []) (cap := [.ref 0 1 0 0]) (vs := [(.agg [I x11.Width, I x11.Gain])]) (σr := [(.own 1 [[z6_3]]), (.own 1 [[I y6]])]) (σr' := [(.own 1 [[z6_3]]), (Q1l x11)]) (res' := (B x16)) [0, 1] rfl Zbf (Qjq N x11 y6 _ hf15) rfl (Qbc (rnc (.plain _ (NLt.agg _ (nlc nll (nlc nll nl0)))) (rnc (Qa2 rfl) rn0))) (slc (Qae (rnc (Qas rn0 (rnc (Qa2 rfl) rn0)) rn0)) (slc (Qae (rnc (.plain _ nll) rn0)) Qag)) (slc (Qae (rnc (Qas rn0 (rnc (Qb3 rfl) rn0)) rn0)) (slc (Qae (rnc (.plain _ nll) rn0)) Qag)) (.plain _ nll) rfl rfl rfl, trivial⟩ ?_
    rcases bft (x16) with hc17 | hc17
    ·replace h := Qat hc17 h
     refine wft hc17 (by kernel_rfl) ?_
     refine wx tbk [] trivial ?_
     refine wmr (mto (n := 19) (l' := [(4, I y5)]) (own' := [(.own 1 [[z6_3]]), (Q1l x11)]) [(4, I y5)] [0, 1] [(.own 1 [[z6_3]]), (Q1l x11)] hφ0 (pc rwl pn) (qc (spb (lc (.rn (Qas rn0 (rnc (rqr rfl) rn0))) ln)) (qc (spb (lc rwl ln)) qn))) ?_
     refine Qaa ?_
     refine Qa3 ?_
     refine Qan ?_
     refine Qan ?_
     refine Qa3 ?_
     refine Qan ?_
     obtain rfl := osi h
     exact ⟨_, Mor.rfl, Qb7 (vs := [I y5]) ⟨rot (by kernel_rfl), trivial⟩ rfl (NLt.of0 nll) (by kernel_rfl) (Qaf (Qav (nlc (NLt.fn _ _ _ nl0 (nlc (NLt.ref _ _ _ _ (by decide)) nl0)) nl0)) (Qaf (Qav (nlc (NLt.of0 nll) nl0)) Qbd))⟩
    ·replace h := Qau hc17 h
     refine wfn hc17 (by kernel_rfl) ?_
     refine Qam ?_
     refine bln ?_
     refine thn ?_
     refine wx1 tbk [] trivial ?_
     refine thn ?_
     exact arm (mto (n := 19) [(0, (z6_0 p0)), (1, z6_1), (7, (I ((p0.length : Int)))), (8, (I (w64 (y5 + 1))))] [0, 1] [(.own 1 [[z6_3]]), (Q1l x11)] hφ0 (pc (.rn (.plain _ (nld Qaq _))) (pc (.rn (Qas rn0 (rnc (rqr rfl) rn0))) (pc rwl (pc rwl pn)))) (qc (spb (lc (.rn (Qas rn0 (rnc (rqr rfl) rn0))) ln)) (qc (spb (lc rwl ln)) qn))) (ih (w64 (y5 + 1), x11.Gain) h)
   ·replace h := Qau hc10 h
    refine wfn hc10 (by kernel_rfl) ?_
    refine Qbr ?_
    refine Qay ?_
    refine Qay ?_
    refine Qbq rfl ?_
    refine thn ?_
    exact ⟨(y6), h, (mto (n := 19) [] [0, 1] [(.own 1 [[z6_3]]), (.own 1 [[I y6]])] hφ0 pn (qc (spb (lc (.rn (Qas rn0 (rnc (rqr rfl) rn0))) ln)) (qc (spb (lc rwl ln)) qn)))⟩
def Qcc (N : Nat) (p0 : (List GPart)) (p1 : Int) : Option (Bool × Int) :=
  (Qch N p0 p1).bind fun x4 =>
  some ((decide (x4.1 ≥ 0)), x4.2)
def z5_0 (p0 : (List GPart)) : AV := .dat 2 ((p0 : List GPart).map Qba)
def z5_1 : AV := .fn (.func 99) [] [(.ref 0 1 (0) 0)]
def z5_2 : AV := .fn (.func 79) [] [(.ref 1 1 (0) 0)]
theorem Qfn (N : Nat) (p0 : (List GPart)) (p1 : Int) (r : (Bool × Int)) (h : Qcc N p0 p1 = some r) : Spec Tryz.prog 98 [(z5_0 p0), z5_1] [(.own 1 [[z5_2]]), (.own 1 [[(I (p1))]])] (B (r.1)) [(.own 1 [[z5_2]]), (.own 1 [[(I (r.2))]])] := by
  refine Qac Tryz.func98 rfl 2 (nle rfl) (fun X φ0 w0 hφ0 hd0 => ?_)
  unfold Qcc at h
  refine Qbh ?_
  refine wx tbk [] trivial ?_
  obtain ⟨x4, hf3, h⟩ := bno h
  refine wx tbk [(2, ⟨[fu 115, (.tmp 5, (z5_0 p0)), (.tmp 6, z5_1)], [(0, .own 1 [[z5_2]]), (1, .own 1 [[I p1]])], I x4.1, [(0, .own 1 [[z5_2]]), (1, .own 1 [[I x4.2]])], false⟩)] ⟨Qah (first := []) (cap := []) (vs := [(z5_0 p0), z5_1]) (σr := [(.own 1 [[z5_2]]), (.own 1 [[I p1]])]) (σr' := [(.own 1 [[z5_2]]), (.own 1 [[I x4.2]])]) (res' := (I x4.1)) [0, 1] rfl Q61 (Qf4 N p0 p1 _ hf3) rfl (Qbc (rnc (.plain _ (nld Qaq _)) (rnc (Qas rn0 (rnc (Qa2 rfl) rn0)) rn0))) (slc (Qae (rnc (Qas rn0 (rnc (Qa2 rfl) rn0)) rn0)) (slc (Qae (rnc (.plain _ nll) rn0)) Qag)) (slc (Qae (rnc (Qas rn0 (rnc (Qb3 rfl) rn0)) rn0)) (slc (Qae (rnc (.plain _ nll) rn0)) Qag)) (.plain _ nll) rfl rfl rfl, trivial⟩ ?_
  refine wmr (mto (n := 9) (l' := [(4, (B ((decide (x4.1 ≥ 0)))))]) (own' := [(.own 1 [[z5_2]]), (.own 1 [[I x4.2]])]) [(4, (B ((decide (x4.1 ≥ 0)))))] [0, 1] [(.own 1 [[z5_2]]), (.own 1 [[I x4.2]])] hφ0 (pc rwl pn) (qc (spb (lc (.rn (Qas rn0 (rnc (rqr rfl) rn0))) ln)) (qc (spb (lc rwl ln)) qn))) ?_
  refine Qaa ?_
  obtain rfl := osi h
  exact ⟨_, Mor.rfl, Qb7 (vs := [(B ((decide (x4.1 ≥ 0))))]) ⟨rot (by kernel_rfl), trivial⟩ rfl (NLt.of0 nll) (by kernel_rfl) (Qaf (Qav (nlc (NLt.fn _ _ _ nl0 (nlc (NLt.ref _ _ _ _ (by decide)) nl0)) nl0)) (Qaf (Qav (nlc (NLt.of0 nll) nl0)) Qbd))⟩
def Qe0 (N : Nat) (p0 : (List GPart)) (p1 : Int) : Option (Bool × Int) :=
  (Qcc N p0 p1).bind fun x4 =>
  some ((!x4.1), x4.2)
def z4_1 (p0 : (List GPart)) : AV := .dat 2 ((p0 : List GPart).map Qba)
def z4_0 : AV := .fn (.func 79) [] [(.ref 0 1 (0) 0)]
def z4_2 : AV := .fn (.func 99) [] [(.ref 1 1 (0) 0)]
theorem Qkb (N : Nat) (p0 : (List GPart)) (p1 : Int) (r : (Bool × Int)) (h : Qe0 N p0 p1 = some r) : Spec Tryz.prog 78 [(z4_1 p0), z4_0] [(.own 1 [[(I (p1))]])] (B (r.1)) [(.own 1 [[(I (r.2))]])] := by
  refine Qac Tryz.func78 rfl 1 (nle rfl) (fun X φ0 w0 hφ0 hd0 => ?_)
  unfold Qe0 at h
  refine Qbh ?_
  refine wx tbk [] trivial ?_
  obtain ⟨x4, hf3, h⟩ := bno h
  refine wx tbk [(1, rp [(.tmp 3, .ref 1 1 0 0)] z4_2), (2, ⟨[fu 98, (.tmp 5, (z4_1 p0)), (.tmp 6, z4_2)], [(1, .own 1 [[z4_0]]), (0, .own 1 [[I p1]])], B x4.1, [(1, .own 1 [[z4_0]]), (0, .own 1 [[I x4.2]])], false⟩)] ⟨Qdd (fs := []) (cs := [.ref 1 1 0 0]) rfl rfl rfl rfl, Qah (first := []) (cap := []) (vs := [(z4_1 p0), z4_2]) (σr := [(.own 1 [[z4_0]]), (.own 1 [[I p1]])]) (σr' := [(.own 1 [[z4_0]]), (.own 1 [[I x4.2]])]) (res' := (B x4.1)) [1, 0] rfl Zbg (Qfn N p0 p1 _ hf3) rfl (Qbc (rnc (.plain _ (nld Qaq _)) (rnc (Qas rn0 (rnc (Qa2 rfl) rn0)) rn0))) (slc (Qae (rnc (Qas rn0 (rnc (Qa2 rfl) rn0)) rn0)) (slc (Qae (rnc (.plain _ nll) rn0)) Qag)) (slc (Qae (rnc (Qas rn0 (rnc (Qb3 rfl) rn0)) rn0)) (slc (Qae (rnc (.plain _ nll) rn0)) Qag)) (.plain _ nll) rfl rfl rfl, trivial⟩ ?_
  refine wmr (mto (n := 9) (l' := [(4, (B ((!x4.1))))]) (own' := [(.own 1 [[I x4.2]])]) [(4, (B ((!x4.1))))] [0] [(.own 1 [[I x4.2]])] hφ0 (pc rwl pn) (qc (spb (lc rwl ln)) qn)) ?_
  refine Qaa ?_
  obtain rfl := osi h
  exact ⟨_, Mor.rfl, Qb7 (vs := [(B ((!x4.1)))]) ⟨rot (by kernel_rfl), trivial⟩ rfl (NLt.of0 nll) (by kernel_rfl) (Qaf (Qav (nlc (NLt.of0 nll) nl0)) Qbd)⟩
def Qd6 (N : Nat) (p0 : GUnit) : Option Bool :=
  (Qbb N p0.Inlet 0 5).bind fun x2 =>
  bif x2 then
   (Qbb N (p0.Parts.length : Int) 1 8).bind fun x5 =>
   bif x5 then
    (Qe0 N p0.Parts 1000).bind fun x8 =>
    some x8.1
   else
    some false
  else
   some false
def z2_0 (p0 : GUnit) : AV := .dat 2 ((p0.Parts : List GPart).map Qba)
def z2_3 : AV := .fn (.func 79) [] [(.ref 1 1 (0) 0)]
theorem Qcx (N : Nat) (p0 : GUnit) (r : Bool) (h : Qd6 N p0 = some r) : Spec Tryz.prog 53 [(.agg (Qck p0))] [] (B r) [] := by
  refine Qac Tryz.func53 rfl 0 (nle rfl) (fun X φ0 w0 hφ0 hd0 => ?_)
  unfold Qd6 at h
  refine wx tbk [] trivial ?_
  refine wx tbk [] trivial ?_
  obtain ⟨x2, hf1, h⟩ := bno h
  rcases bft (x2) with hb3 | hb3
  ·replace h := Qat hb3 h
   obtain ⟨x5, hf4, h⟩ := bno h
   rcases bft (x5) with hb6 | hb6
   ·replace h := Qat hb6 h
    obtain ⟨x8, hf7, h⟩ := bno h
    refine wx tbk [(2, rp [fu 56, (.tmp 5, I p0.Inlet), ci 0, ci 5] (B x2)), (3, rp [(.tmp 6, B x2)] (B true)), (6, rp [(.tmp 7, B true), (.tmp 9, (z2_0 p0))] (I ((p0.Parts.length : Int)))), (7, rp [(.tmp 7, B true), fu 56, (.tmp 10, (I ((p0.Parts.length : Int)))), ci 1, ci 8] (B x5)), (9, rp [(.tmp 12, B x5)] (B true)), (12, rp [(.tmp 13, B true), (.tmp 3, .ref 1 1 0 0)] z2_3), (13, ⟨[(.tmp 13, B true), fu 78, (.tmp 15, (z2_0 p0)), (.tmp 16, z2_3)], [(1, .own 1 [[I 1000]])], B x8.1, [(1, .own 1 [[I x8.2]])], false⟩)] ⟨apc (first := []) (cap := []) (vs := [I p0.Inlet, I 0, I 5]) rfl Qbs (Qad N p0.Inlet 0 5 _ hf1) rfl rfl (nlc nll (nlc nll (nlc nll nl0))) nll rfl, asb hb3 (amv rfl), ag_ (alm (c := Qba) (l := p0.Parts) (aln rfl Tryz.underlying43 rfl)), ag_ (apc (first := []) (cap := []) (vs := [(I ((p0.Parts.length : Int))), I 1, I 8]) rfl Qbs (Qad N (p0.Parts.length : Int) 1 8 _ hf4) rfl rfl (nlc nll (nlc nll (nlc nll nl0))) nll rfl), asb hb6 (amv rfl), ag_ (Qdd (fs := []) (cs := [.ref 1 1 0 0]) rfl rfl rfl rfl), ag_ (Qah (first := []) (cap := []) (vs := [(z2_0 p0), z2_3]) (σr := [(.own 1 [[I 1000]])]) (σr' := [(.own 1 [[I x8.2]])]) (res' := (B x8.1)) [1] rfl Zbx (Qkb N p0.Parts 1000 _ hf7) rfl (Qbc (rnc (.plain _ (nld Qaq _)) (rnc (Qas rn0 (rnc (Qa2 rfl) rn0)) rn0))) (slc (Qae (rnc (.plain _ nll) rn0)) Qag) (slc (Qae (rnc (.plain _ nll) rn0)) Qag) (.plain _ nll) rfl rfl rfl), trivial⟩ ?_
    refine Qaa ?_
    obtain rfl := osi h
    exact fend ⟨[B x8.1], ⟨rot (by kernel_rfl), trivial⟩, rfl⟩ nll
   ·replace h := Qau hb6 h
    refine wx tbk [(2, rp [fu 56, (.tmp 5, I p0.Inlet), ci 0, ci 5] (B x2)), (3, rp [(.tmp 6, B x2)] (B true)), (6, rp [(.tmp 7, B true), (.tmp 9, (z2_0 p0))] (I ((p0.Parts.length : Int)))), (7, rp [(.tmp 7, B true), fu 56, (.tmp 10, (I ((p0.Parts.length : Int)))), ci 1, ci 8] (B x5)), (9, rp [(.tmp 12, B x5)] (B false))] ⟨apc (first := []) (cap := []) (vs := [I p0.Inlet, I 0, I 5]) rfl Qbs (Qad N p0.Inlet 0 5 _ hf1) rfl rfl (nlc nll (nlc nll (nlc nll nl0))) nll rfl, asb hb3 (amv rfl), ag_ (alm (c := Qba) (l := p0.Parts) (aln rfl Tryz.underlying43 rfl)), ag_ (apc (first := []) (cap := []) (vs := [(I ((p0.Parts.length : Int))), I 1, I 8]) rfl Qbs (Qad N (p0.Parts.length : Int) 1 8 _ hf4) rfl rfl (nlc nll (nlc nll (nlc nll nl0))) nll rfl), asb hb6 (amv rfl), trivial⟩ ?_
    refine Qaa ?_
    obtain rfl := osi h
    exact fend ⟨[B false], ⟨rot (by kernel_rfl), trivial⟩, rfl⟩ nll
  ·replace h := Qau hb3 h
   refine wx tbk [(2, rp [fu 56, (.tmp 5, I p0.Inlet), ci 0, ci 5] (B x2)), (3, rp [(.tmp 6, B x2)] (B false))] ⟨apc (first := []) (cap := []) (vs := [I p0.Inlet, I 0, I 5]) rfl Qbs (Qad N p0.Inlet 0 5 _ hf1) rfl rfl (nlc nll (nlc nll (nlc nll nl0))) nll rfl, asb hb3 (amv rfl), trivial⟩ ?_
   refine Qaa ?_
   obtain rfl := osi h
   exact fend ⟨[B false], ⟨rot (by kernel_rfl), trivial⟩, rfl⟩ nll
def Qcn (N : Nat) (p0 : GUnit) (k2 : Int → Option Int) : Nat → Int → Int → Option Int
  | 0, _, _ => none
  | n7 + 1, y3, y4 =>
    bif (decide (y4 < (p0.Parts.length : Int))) then
     (getI p0.Parts y4).bind fun x9 =>
     Qcn N p0 k2 n7 (w64 (y3 + x9.Width)) (w64 (y4 + 1))
    else
     k2 (y3)
def Qed (N : Nat) (p0 : GUnit) : Option Int :=
  Qc5 (fun y1 =>
    some y1) fun k2 : Int → Option Int =>
  Qcn N p0 k2 N 0 0
def z9_0 (p0 : GUnit) : AV := .dat 2 ((p0.Parts : List GPart).map Qba)
theorem Qh6 (N : Nat) (p0 : GUnit) (r : Int) (h : Qed N p0 = some r) : Spec Tryz.prog 54 [(.agg (Qck p0))] [] (I r) [] := by
  refine Qac Tryz.func54 rfl 0 (nle rfl) (fun X φ0 w0 hφ0 hd0 => ?_)
  unfold Qed at h
  refine wx tbk [] trivial ?_
  obtain ⟨k2, hk_k2, h⟩ := jko h
  refine wjn (τ := Int) (fun t => k2 t = some r) (fun y1 => ⟨mk 18 [(2, I y1)], []⟩) (fun y1 h => ?_) ?_
  ·subst hk_k2
   refine wx tbk [] trivial ?_
   refine Qaa ?_
   obtain rfl := osi h
   exact fend ⟨[I y1], ⟨rot (by kernel_rfl), trivial⟩, rfl⟩ nll
  ·skip
   refine wx tbk [(2, rp [(.tmp 6, (z9_0 p0))] (I ((p0.Parts.length : Int))))] ⟨alm (c := Qba) (l := p0.Parts) (aln rfl Tryz.underlying43 rfl), trivial⟩ ?_
   refine Qaj ?_
   refine wmr (mto (n := 18) (l' := [(2, I 0), (6, (z9_0 p0)), (7, (I ((p0.Parts.length : Int)))), (8, I 0)]) (own' := []) [(2, I 0), (6, (z9_0 p0)), (7, (I ((p0.Parts.length : Int)))), (8, I 0)] [] [] hφ0 (pc rwl (pc (.rn (.plain _ (nld Qaq _))) (pc rwl (pc rwl pn)))) qn) ?_
   refine Qcl (τ := Int × Int) (fun n t => Qcn N p0 k2 n t.1 t.2 = some r) (fun ⟨y3, y4⟩ => ⟨mk 18 [(2, I y3), (6, (z9_0 p0)), (7, (I ((p0.Parts.length : Int)))), (8, I y4)], []⟩) (fun t h => by rw [Qcn] at h; cases h) (fun n7 ih t h => ?_) N (0, 0) h
   obtain ⟨y3, y4⟩ := t
   rw [Qcn] at h
   skip
   refine wx tbk [] trivial ?_
   refine wsq ?_
   rcases bft ((decide (y4 < (p0.Parts.length : Int)))) with hc8 | hc8
   ·replace h := Qat hc8 h
    refine wft hc8 (by kernel_rfl) ?_
    refine Qam ?_
    refine thn ?_
    refine wsq ?_
    refine Qaj ?_
    obtain ⟨x9, hg10, h⟩ := bno h
    obtain ⟨hi11, hj12⟩ := gsm hg10
    refine wx tbk [(0, rp [(.tmp 6, (z9_0 p0)), (.tmp 8, I y4)] (.dptr (Qba (x9)) 0))] ⟨aid rfl Tryz.underlying43 Qp1 rfl rfl hi11 (mgt Qba hj12) rfl, trivial⟩ ?_
    refine wx1 tbk [] trivial ?_
    refine bln ?_
    refine thn ?_
    refine wx1 tbk [] trivial ?_
    refine thn ?_
    exact arm (mto (n := 18) [(2, (I (w64 (y3 + x9.Width)))), (6, (z9_0 p0)), (7, (I ((p0.Parts.length : Int)))), (8, (I (w64 (y4 + 1))))] [] [] hφ0 (pc rwl (pc (.rn (.plain _ (nld Qaq _))) (pc rwl (pc rwl pn)))) qn) (ih (w64 (y3 + x9.Width), w64 (y4 + 1)) h)
   ·replace h := Qau hc8 h
    refine wfn hc8 (by kernel_rfl) ?_
    refine Qbr ?_
    refine Qay ?_
    refine Qay ?_
    refine Qbq rfl ?_
    refine thn ?_
    exact ⟨(y3), h, (mto (n := 18) [(2, I y3)] [] [] hφ0 (pc rwl pn) qn)⟩
def Qgl (_N : Nat) (_p0 : GUnit) (_p1 : Int) : Option Unit :=
  some ()
def Q2q : AV := .fn (.func 100) [] [(.ref 0 2 (0) 0), (.ref 1 1 (0) 0)]
def Zai (p0 : GUnit) : Slot := .own 2 [[(I (p0.Inlet)), (.dat 2 ((p0.Parts : List GPart).map Qba))]]
theorem Qma (N : Nat) (p0 : GUnit) (p1 : Int) (r : Unit) (h : Qgl N p0 p1 = some r) : Spec Tryz.prog 80 [(.agg [(I (p0.Inlet)), (.dat 2 ((p0.Parts : List GPart).map Qba))]), (I (p1))] [] Q2q [(Zai p0), (.own 1 [[(I (p1))]])] := by
  refine Qac Tryz.func80 rfl 2 (nle rfl) (fun X φ0 w0 hφ0 hd0 => ?_)
  unfold Qgl at h
  refine Qbh ?_
  refine wx tbk [] trivial ?_
  refine wx tbk [(0, rp [(.tmp 2, .ref 0 2 0 0), (.tmp 3, .ref 1 1 0 0)] Q2q)] ⟨Qdd (fs := []) (cs := [.ref 0 2 0 0, .ref 1 1 0 0]) rfl rfl rfl rfl, trivial⟩ ?_
  refine wmr (mto (n := 6) (l' := [(4, Q2q)]) (own' := [(Zai p0), (.own 1 [[I p1]])]) [(4, Q2q)] [0, 1] [(Zai p0), (.own 1 [[I p1]])] hφ0 (pc (.rn (Qas rn0 (rnc (rqr rfl) (rnc (rqr rfl) rn0)))) pn) (qc (spb (lc rwl (lc (.rn (.plain _ (nld Qaq _))) ln))) (qc (spb (lc rwl ln)) qn))) ?_
  refine Qaa ?_
  obtain rfl := osi h
  exact ⟨_, Mor.rfl, Qb7 (vs := [Q2q]) ⟨rot (by kernel_rfl), trivial⟩ rfl (NLt.fn _ _ _ nl0 (nlc (NLt.ref _ _ _ _ (by decide)) (nlc (NLt.ref _ _ _ _ (by decide)) nl0))) (by kernel_rfl) (Qaf (Qav (nlc (NLt.of0 nll) (nlc (NLt.of0 (nld Qaq _)) nl0))) (Qaf (Qav (nlc (NLt.of0 nll) nl0)) Qbd))⟩
def Qc0 (N : Nat) (p1 : (List GPart)) : Nat → Int → Int → Option (List (GPart × Int))
  | 0, _, _ => none
  | n7 + 1, y1, y2 =>
    bif (decide (y1 < (p1.length : Int))) then
     (getI p1 y1).bind fun x9 =>
     (some (if x9.Width < y2 then x9.Width else y2)).bind fun x13 =>
     yld (x9, x13) <|
     Qc0 N p1 n7 (w64 (y1 + 1)) (w64 (y2 - x13))
    else
     some ([])
def Qgk (N : Nat) (_p0 : Int) (p1 : (List GPart)) (p2 : Int) : Option (List (GPart × Int)) :=
  Qc0 N p1 N 0 p2
def Qw7 (p1 : (List GPart)) : AV := .dat 2 ((p1 : List GPart).map Qba)
def Q2p (p0 : Int) (p1 : (List GPart)) : Slot := .own 2 [[(I (p0)), (Qw7 p1)]]
def Q53 (x9 : GPart) : AV := .agg [(I (x9.Width)), (I (x9.Gain))]
theorem Ql9 (N : Nat) (p0 : Int) (p1 : (List GPart)) (p2 : Int) (r : (List (GPart × Int))) (h : Qgk N p0 p1 p2 = some r) : Qt4 Tryz.prog 100 [(.ref 0 2 (0) 0), (.ref 1 1 (0) 0)] [(Q2p p0 p1), (.own 1 [[(I (p2))]])] (fun x => [(.agg #[(.int .i64 (x.1.Width)), (.int .i64 (x.1.Gain))]), (.int .i64 (x.2))]) r := by
  refine Q0i Tryz.func100 rfl rfl (fun X φ0 w0 l J hφ0 hy => ?_)
  unfold Qgk at h
  refine wx tbk [(2, rp [(.tmp 8, (Qw7 p1))] (I ((p1.length : Int))))] ⟨alm (c := Qba) (l := p1) (aln rfl Tryz.underlying43 rfl), trivial⟩ ?_
  refine Qaj ?_
  refine wmr (mto (n := 27) (l' := [(0, (.lit (.func (.yield l) #[] #[]))), (2, .ref 1 1 0 0), (8, (Qw7 p1)), (9, (I ((p1.length : Int)))), (10, I 0)]) (own' := [(Q2p p0 p1), (.own 1 [[I p2]]), (.far (J (some (r))))]) [(0, (.lit (.func (.yield l) #[] #[]))), (2, .ref 1 1 0 0), (8, (Qw7 p1)), (9, (I ((p1.length : Int)))), (10, I 0)] [0, 1, 2] [(Q2p p0 p1), (.own 1 [[I p2]]), (.far (J (some (r))))] hφ0 (pc rwl (pc (.rn (rqr rfl)) (pc (.rn (.plain _ (nld Qaq _))) (pc rwl (pc rwl pn))))) (qc (spb (lc rwl (lc (.rn (.plain _ (nld Qaq _))) ln))) (qc (spb (lc rwl ln)) (qc (.far _) qn)))) ?_
  refine Qcl (τ := (Int × Int) × List (GPart × Int)) (fun n t => Qc0 N p1 n t.1.1 t.1.2 = some t.2) (fun ⟨⟨y1, y2⟩, q3⟩ => ⟨mk 27 [(0, (.lit (.func (.yield l) #[] #[]))), (2, .ref 1 1 0 0), (8, (Qw7 p1)), (9, (I ((p1.length : Int)))), (10, I y1)], [(Q2p p0 p1), (.own 1 [[I y2]]), (.far (J (some (q3))))]⟩) (fun t h => by rw [Qc0] at h; cases h) (fun n7 ih t h => ?_) N ((0, p2), r) h
  obtain ⟨⟨y1, y2⟩, q3⟩ := t
  rw [Qc0] at h
  try dsimp only at h
  refine wx tbk [] trivial ?_
  refine wsq ?_
  rcases bft ((decide (y1 < (p1.length : Int)))) with hc8 | hc8
  ·replace h := Qat hc8 h
   refine wft hc8 (by kernel_rfl) ?_
   refine Qam ?_
   refine thn ?_
   refine wsq ?_
   refine Qaj ?_
   obtain ⟨x9, hg10, h⟩ := bno h
   obtain ⟨hi11, hj12⟩ := gsm hg10
   refine wx tbk [(0, rp [(.tmp 8, (Qw7 p1)), (.tmp 10, I y1)] (.dptr (Qba (x9)) 0))] ⟨aid rfl Tryz.underlying43 Qp1 rfl rfl hi11 (mgt Qba hj12) rfl, trivial⟩ ?_
   obtain ⟨x13, hl14, h⟩ := bno h
   refine wx tbk [(3, rp [(.tmp 14, I y2), (.tmp 16, I x9.Width)] (I ((if x9.Width < y2 then x9.Width else y2)))), (4, rp [(.tmp 17, (I ((if x9.Width < y2 then x9.Width else y2))))] (I x13))] ⟨Qmm rfl, Qd8 hl14 (aas rfl), trivial⟩ ?_
   refine wsq ?_
   obtain ⟨q15, hy_, hq_⟩ := Zal h
   clear h
   subst hq_
   have h := hy_
   clear hy_
   refine Q7h 3 [mv 0 (.lit (.func (.yield l) #[] #[])), rb [(.tmp 5, .ref 3 2 0 0)] [(3, .own 2 [[I x9.Width, I x9.Gain]])] (Q53 x9), mv 6 (I x13), ⟨[(.tmp 18, (.lit (.func (.yield l) #[] #[]))), (.tmp 19, (Q53 x9)), (.tmp 20, I x13)], [(2, (.far (J (some ((x9, x13) :: q15)))))], B true, [(2, (.far (J (some (q15)))))], false⟩, rp [(.tmp 21, B true)] (B false)] [mv 0 (.lit (.func (.yield l) #[] #[])), rb [(.tmp 5, .ref 3 2 0 0)] [(3, .own 2 [[I x9.Width, I x9.Gain]])] (Q53 x9), mv 6 (I x13), ⟨[(.tmp 18, (.lit (.func (.yield l) #[] #[]))), (.tmp 19, (Q53 x9)), (.tmp 20, I x13)], [(2, (.far (J (some ((x9, x13) :: q15)))))], B false, [(2, (.far (J none)))], false⟩, rp [(.tmp 21, B false)] (B true)] (by exact ⟨by kernel_rfl, by kernel_rfl⟩) (by exact ⟨by kernel_rfl, by kernel_rfl⟩) rfl rfl rfl rfl (Qyb (rd' := (.tmp 18, .lit (.func (.yield l) #[] #[])) :: [(.tmp 19, .lit (.agg #[(.int .i64 (x9.Width)), (.int .i64 (x9.Gain))])), (.tmp 20, .lit (.int .i64 (x13)))]) ⟨rfl, lrf, rfl, (Less.lits [(.int .i64 (x9.Width)), (.int .i64 (x9.Gain))]), rfl, lrf, trivial⟩ (Qv2 (x := (x9, x13)) (rest := q15) rfl rfl hy rfl)) (⟨fun _ _ => amv rfl, fun _ _ => ald rfl Qp1 (by decide) rfl (nle rfl) rfl, fun _ _ => amv rfl, fun _ h => absurd rfl h, fun _ _ => Qrh rfl, trivial⟩) (⟨fun _ _ => amv rfl, fun _ _ => ald rfl Qp1 (by decide) rfl (nle rfl) rfl, fun _ _ => amv rfl, fun _ h => absurd rfl h, fun _ _ => Qrh rfl, trivial⟩) ?_ ?_
   ·skip
    refine Qfa (by kernel_rfl) ?_
    refine Qam ?_
    refine thn ?_
    refine wx1 tbk [] trivial ?_
    refine bln ?_
    refine thn ?_
    refine wx1 tbk [] trivial ?_
    refine thn ?_
    exact arm (mto (n := 27) [(0, (.lit (.func (.yield l) #[] #[]))), (2, .ref 1 1 0 0), (8, (Qw7 p1)), (9, (I ((p1.length : Int)))), (10, (I (w64 (y1 + 1))))] [0, 1, 2] [(Q2p p0 p1), (.own 1 [[(I (w64 (y2 - x13)))]]), (.far (J (some (q15))))] hφ0 (pc rwl (pc (.rn (rqr rfl)) (pc (.rn (.plain _ (nld Qaq _))) (pc rwl (pc rwl pn))))) (qc (spb (lc rwl (lc (.rn (.plain _ (nld Qaq _))) ln))) (qc (spb (lc rwl ln)) (qc (.far _) qn)))) (ih ((w64 (y1 + 1), w64 (y2 - x13)), q15) h)
   ·clear h
    refine Qcy (by kernel_rfl) ?_
    refine Qaa ?_
    refine Qan ?_
    refine Qa3 ?_
    refine Qan ?_
    refine Qan ?_
    refine Qa3 ?_
    exact Or.inr (by kernel_rfl)
  ·replace h := Qau hc8 h
   refine wfn hc8 (by kernel_rfl) ?_
   refine Qbr ?_
   refine Qay ?_
   refine Qay ?_
   refine Qbq rfl ?_
   obtain rfl := osi h
   exact Or.inl rfl
def Qcj (N : Nat) (k2 : Int → Option Int) : (List (GPart × Int)) → Int → Option Int
  | [], y7 =>
    k2 (y7)
  | x10 :: q11, y7 =>
    Qcj N k2 q11 (w64 (y7 + (w64 (x10.1.Gain * x10.2))))
def Qeg (N : Nat) (p0 : GUnit) (p1 : Int) : Option Int :=
  Qc5 (fun y1 =>
    some y1) fun k2 : Int → Option Int =>
  (Qgl N p0 p1).bind fun _ =>
  (Qgk N p0.Inlet p0.Parts p1).bind fun q5 =>
  Qcj N k2 q5 0
def Zak (p0 : GUnit) : AV := .dat 2 ((p0.Parts : List GPart).map Qba)
def Zaj : AV := .fn (.func 100) [] [(.ref 2 2 (0) 0), (.ref 3 1 (0) 0)]
def Q2r (p0 : GUnit) : Slot := .own 2 [[(I (p0.Inlet)), (Zak p0)]]
theorem Qg7 (N : Nat) (p0 : GUnit) (p1 : Int) (r : Int) (h : Qeg N p0 p1 = some r) : Spec Tryz.prog 55 [(.agg (Qck p0)), (I p1)] [] (I r) [] := by
  refine Qac Tryz.func55 rfl 0 (nle rfl) (fun X φ0 w0 hφ0 hd0 => ?_)
  unfold Qeg at h
  refine wx tbk [] trivial ?_
  obtain ⟨k2, hk_k2, h⟩ := jko h
  refine wjn (τ := Int) (fun t => k2 t = some r) (fun y1 => ⟨mk 19 [(4, .ref 0 1 0 0)], [(.own 1 [[I y1]])]⟩) (fun y1 h => ?_) ?_
  ·subst hk_k2
   refine wx tbk [] trivial ?_
   refine Qaa ?_
   obtain rfl := osi h
   exact fend ⟨[I y1], ⟨Qa0 (n := 0) (m := 1) (j := 0) (i := 0) (xs := [[I y1]]) (by kernel_rfl) (by kernel_rfl) ti3 (by decide) rfl (nle rfl) rfl, trivial⟩, rfl⟩ nll
  ·skip
   obtain ⟨x4, hf3, h⟩ := bno h
   refine wx tbk [(2, ⟨[fu 80, (.tmp 7, (.agg [I p0.Inlet, (Zak p0)])), (.tmp 8, I p1)], [(2, .unused), (3, .unused)], Zaj, [(2, (Q2r p0)), (3, .own 1 [[I p1]])], false⟩)] ⟨Qah (first := []) (cap := []) (vs := [(.agg [I p0.Inlet, (Zak p0)]), I p1]) (σr := []) (σr' := [(Q2r p0), (.own 1 [[I p1]])]) (res' := Zaj) [2, 3] rfl Zbv (Qma N p0 p1 _ hf3) rfl (Qbc (rnc (.plain _ (NLt.agg _ (nlc nll (nlc (nld Qaq _) nl0)))) (rnc (.plain _ nll) rn0))) Qag (slc (Qae (rnc (.plain _ nll) (rnc (.plain _ (nld Qaq _)) rn0))) (slc (Qae (rnc (.plain _ nll) rn0)) Qag)) (Qas rn0 (rnc (Qb3 rfl) (rnc (Qb3 rfl) rn0))) rfl rfl rfl, trivial⟩ ?_
   refine Qaj ?_
   obtain ⟨q5, hL6, h⟩ := bno h
   refine wmr (mto (n := 19) (l' := [(4, .ref 0 1 0 0), (9, (.fn (.func 100) [] [.ref 1 2 0 0, .ref 2 1 0 0]))]) (own' := [(.own 1 [[I 0]]), (Q2r p0), (.own 1 [[I p1]])]) [(4, .ref 1 1 0 0), (9, Zaj)] [1, 2, 3] [(.own 1 [[I 0]]), (Q2r p0), (.own 1 [[I p1]])] hφ0 (pc (.rn (rqr rfl)) (pc (.rn (Qas rn0 (rnc (rqr rfl) (rnc (rqr rfl) rn0)))) pn)) (qc (spb (lc rwl ln)) (qc (spb (lc rwl (lc (.rn (.plain _ (nld Qaq _))) ln))) (qc (spb (lc rwl ln)) qn)))) ?_
   refine Q0v (τ := (Int)) (kb := 3) (caps := [.ref 1 2 0 0, .ref 2 1 0 0]) (σr := [(Q2r p0), (.own 1 [[I p1]])]) (encs := fun x => [(.agg #[(.int .i64 (x.1.Width)), (.int .i64 (x.1.Gain))]), (.int .i64 (x.2))]) (fun x => [(.agg [I x.1.Width, I x.1.Gain]), I x.2]) [1, 2] (fun n hn => hφ0 n (Nat.le_trans (nle rfl) hn)) hd0 (Ql9 N p0.Inlet p0.Parts p1 _ hL6) Q7b (by kernel_rfl) (by kernel_rfl) (Qbc (rnc (Qb3 rfl) (rnc (Qb3 rfl) rn0))) (slc (Qae (rnc (.plain _ nll) (rnc (.plain _ (nld Qaq _)) rn0))) (slc (Qae (rnc (.plain _ nll) rn0)) Qag)) (by kernel_rfl) (fun _ => rfl) (fun x => ⟨(Less.unlits [(.int .i64 (x.1.Width)), (.int .i64 (x.1.Gain))]), lrf, trivial⟩) (Zee (Qy1 (NLt.ref _ _ _ _ (by decide)) (Qy1 (NLt.fn _ _ _ nl0 (nlc (NLt.ref _ _ _ _ (by decide)) (nlc (NLt.ref _ _ _ _ (by decide)) nl0))) Za7))) (fun y7 => [(.own 1 [[I y7]]), .dead, .dead]) (fun _ => rfl) (fun _ => rfl) (fun l t => Qcj N k2 l t = some r) (0) h (by kernel_rfl) ?_ ?_
   ·intro l12 o13 X16 φ17 w18 hφ15 x10 q11 y7 h
    rw [Qcj] at h
    refine wx tbk [] trivial ?_
    refine wx1 tbk [] trivial ?_
    refine ⟨by kernel_rfl, fun o14 => ?_⟩
    refine Qaj ?_
    refine wx1 tbk [] trivial ?_
    refine bln ?_
    exact ⟨(w64 (y7 + (w64 (x10.1.Gain * x10.2)))), h, Zd8 (own' := [(.own 1 [[(I ((w64 (y7 + (w64 (x10.1.Gain * x10.2))))))]]), .dead, .dead, (.far (farL l12 o14))]) [0, 1, 2, 3] [(.own 1 [[(I (w64 (y7 + (w64 (x10.1.Gain * x10.2)))))]]), .dead, .dead, (.far (farL l12 o14))] (by kernel_rfl) (by kernel_rfl) ⟨(spb (lc rwl ln)), .dead, .dead, .far _, trivial⟩⟩
   ·intro y7 h
    rw [Qcj] at h
    refine bln ?_
    refine thn ?_
    exact ⟨(y7), h, (mto (n := 19) [(4, .ref 0 1 0 0)] [0] [(.own 1 [[I y7]])] hφ0 (pc (.rn (rqr rfl)) pn) (qc (spb (lc rwl ln)) qn))⟩
def Qmc (N : Nat) (p0 : GUnit) (p1 : Int) : Option (Int × Int) :=
  (Qd6 N p0).bind fun x2 =>
  bif (!x2) then
   some (0, 1)
  else
   (Qed N p0).bind fun x5 =>
   (Qbb N p1 0 x5).bind fun x7 =>
   bif (!x7) then
    some (0, 2)
   else
    (Qeg N p0 p1).bind fun x10 =>
    some (x10, 0)
def z1_2 (p0 : GUnit) : AV := .agg [(I (p0.Inlet)), (.dat 2 ((p0.Parts : List GPart).map Qba))]
theorem Qqx (N : Nat) (p0 : GUnit) (p1 : Int) (r : (Int × Int)) (h : Qmc N p0 p1 = some r) : Spec Tryz.prog 21 [(.agg (Qck p0)), (I p1)] [] (.tup [(I r.1), (I r.2)]) [] := by
  refine Qac Tryz.func21 rfl 0 (nle rfl) (fun X φ0 w0 hφ0 hd0 => ?_)
  unfold Qmc at h
  refine wx tbk [] trivial ?_
  refine wsq ?_
  refine Qaj ?_
  obtain ⟨x2, hf1, h⟩ := bno h
  refine wx tbk [(1, rp [fu 53, (.tmp 7, (z1_2 p0))] (B x2))] ⟨apc (first := []) (cap := []) (vs := [(z1_2 p0)]) rfl Qle (Qcx N p0 _ hf1) rfl rfl (nlc (NLt.agg _ (nlc nll (nlc (nld Qaq _) nl0))) nl0) nll rfl, trivial⟩ ?_
  rcases bft ((!x2)) with hc3 | hc3
  ·replace h := Qat hc3 h
   refine wft hc3 (by kernel_rfl) ?_
   refine wx tbk [] trivial ?_
   refine Qaa ?_
   refine Qa3 ?_
   refine Qan ?_
   obtain rfl := osi h
   exact fend ⟨[I 0, I 1], ⟨rot (by kernel_rfl), rot (by kernel_rfl), trivial⟩, rfl⟩ (NLt.tup _ (nlc nll (nlc nll nl0)))
  ·replace h := Qau hc3 h
   refine wfn hc3 (by kernel_rfl) ?_
   obtain ⟨x5, hf4, h⟩ := bno h
   obtain ⟨x7, hf6, h⟩ := bno h
   refine wx tbk [(2, rp [fu 54, (.tmp 12, (z1_2 p0))] (I x5)), (3, rp [fu 56, (.tmp 11, I p1), ci 0, (.tmp 13, I x5)] (B x7))] ⟨apc (first := []) (cap := []) (vs := [(z1_2 p0)]) rfl Q4c (Qh6 N p0 _ hf4) rfl rfl (nlc (NLt.agg _ (nlc nll (nlc (nld Qaq _) nl0))) nl0) nll rfl, apc (first := []) (cap := []) (vs := [I p1, I 0, I x5]) rfl Qbs (Qad N p1 0 x5 _ hf6) rfl rfl (nlc nll (nlc nll (nlc nll nl0))) nll rfl, trivial⟩ ?_
   rcases bft ((!x7)) with hc8 | hc8
   ·replace h := Qat hc8 h
    refine wft hc8 (by kernel_rfl) ?_
    refine wx tbk [] trivial ?_
    refine Qaa ?_
    refine Qa3 ?_
    refine Qan ?_
    obtain rfl := osi h
    exact fend ⟨[I 0, I 2], ⟨rot (by kernel_rfl), rot (by kernel_rfl), trivial⟩, rfl⟩ (NLt.tup _ (nlc nll (nlc nll nl0)))
   ·replace h := Qau hc8 h
    refine wfn hc8 (by kernel_rfl) ?_
    refine Qam ?_
    refine bln ?_
    refine thn ?_
    obtain ⟨x10, hf9, h⟩ := bno h
    refine wx tbk [(2, rp [fu 55, (.tmp 16, (z1_2 p0)), (.tmp 17, I p1)] (I x10))] ⟨apc (first := []) (cap := []) (vs := [(z1_2 p0), I p1]) rfl Qxo (Qg7 N p0 p1 _ hf9) rfl rfl (nlc (NLt.agg _ (nlc nll (nlc (nld Qaq _) nl0))) (nlc nll nl0)) nll rfl, trivial⟩ ?_
    refine Qaa ?_
    obtain rfl := osi h
    exact fend ⟨[I x10, I 0], ⟨rot (by kernel_rfl), rot (by kernel_rfl), trivial⟩, rfl⟩ (NLt.tup _ (nlc nll (nlc nll nl0)))
def Qew (N : Nat) (p0 : GCycle) : Option Bool :=
  (Qbb N p0.Out 0 4000).bind fun x2 =>
  bif x2 then
   (Qbb N p0.Yield 0 1000).bind fun x5 =>
   bif x5 then
    (Qbb N p0.Most 0 4000000000).bind fun x8 =>
    some x8
   else
    some false
  else
   some false
theorem Qgt (N : Nat) (p0 : GCycle) (r : Bool) (h : Qew N p0 = some r) : Spec Tryz.prog 58 [(.agg (Qlf p0))] [] (B r) [] := by
  refine Qac Tryz.func58 rfl 0 (nle rfl) (fun X φ0 w0 hφ0 hd0 => ?_)
  unfold Qew at h
  refine wx tbk [] trivial ?_
  obtain ⟨x2, hf1, h⟩ := bno h
  rcases bft (x2) with hb3 | hb3
  ·replace h := Qat hb3 h
   obtain ⟨x5, hf4, h⟩ := bno h
   rcases bft (x5) with hb6 | hb6
   ·replace h := Qat hb6 h
    obtain ⟨x8, hf7, h⟩ := bno h
    refine wx tbk [(2, rp [fu 56, (.tmp 4, I p0.Out), ci 0, ci 4000] (B x2)), (3, rp [(.tmp 5, B x2)] (B true)), (6, rp [(.tmp 6, B true), fu 56, (.tmp 8, I p0.Yield), ci 0, ci 1000] (B x5)), (8, rp [(.tmp 10, B x5)] (B true)), (11, rp [(.tmp 11, B true), fu 56, (.tmp 13, I p0.Most), ci 0, ci 4000000000] (B x8))] ⟨apc (first := []) (cap := []) (vs := [I p0.Out, I 0, I 4000]) rfl Qbs (Qad N p0.Out 0 4000 _ hf1) rfl rfl (nlc nll (nlc nll (nlc nll nl0))) nll rfl, asb hb3 (amv rfl), ag_ (apc (first := []) (cap := []) (vs := [I p0.Yield, I 0, I 1000]) rfl Qbs (Qad N p0.Yield 0 1000 _ hf4) rfl rfl (nlc nll (nlc nll (nlc nll nl0))) nll rfl), asb hb6 (amv rfl), ag_ (apc (first := []) (cap := []) (vs := [I p0.Most, I 0, I 4000000000]) rfl Qbs (Qad N p0.Most 0 4000000000 _ hf7) rfl rfl (nlc nll (nlc nll (nlc nll nl0))) nll rfl), trivial⟩ ?_
    refine Qaa ?_
    obtain rfl := osi h
    exact fend ⟨[B x8], ⟨rot (by kernel_rfl), trivial⟩, rfl⟩ nll
   ·replace h := Qau hb6 h
    refine wx tbk [(2, rp [fu 56, (.tmp 4, I p0.Out), ci 0, ci 4000] (B x2)), (3, rp [(.tmp 5, B x2)] (B true)), (6, rp [(.tmp 6, B true), fu 56, (.tmp 8, I p0.Yield), ci 0, ci 1000] (B x5)), (8, rp [(.tmp 10, B x5)] (B false))] ⟨apc (first := []) (cap := []) (vs := [I p0.Out, I 0, I 4000]) rfl Qbs (Qad N p0.Out 0 4000 _ hf1) rfl rfl (nlc nll (nlc nll (nlc nll nl0))) nll rfl, asb hb3 (amv rfl), ag_ (apc (first := []) (cap := []) (vs := [I p0.Yield, I 0, I 1000]) rfl Qbs (Qad N p0.Yield 0 1000 _ hf4) rfl rfl (nlc nll (nlc nll (nlc nll nl0))) nll rfl), asb hb6 (amv rfl), trivial⟩ ?_
    refine Qaa ?_
    obtain rfl := osi h
    exact fend ⟨[B false], ⟨rot (by kernel_rfl), trivial⟩, rfl⟩ nll
  ·replace h := Qau hb3 h
   refine wx tbk [(2, rp [fu 56, (.tmp 4, I p0.Out), ci 0, ci 4000] (B x2)), (3, rp [(.tmp 5, B x2)] (B false))] ⟨apc (first := []) (cap := []) (vs := [I p0.Out, I 0, I 4000]) rfl Qbs (Qad N p0.Out 0 4000 _ hf1) rfl rfl (nlc nll (nlc nll (nlc nll nl0))) nll rfl, asb hb3 (amv rfl), trivial⟩ ?_
   refine Qaa ?_
   obtain rfl := osi h
   exact fend ⟨[B false], ⟨rot (by kernel_rfl), trivial⟩, rfl⟩ nll
def Qda (_N : Nat) (p0 : Int) (p1 : Int) (p2 : Int) : Option Bool :=
  bif (decide (p1 ≤ p0)) then
   some (decide (p0 ≤ p2))
  else
   some false
theorem Qaw (N : Nat) (p0 : Int) (p1 : Int) (p2 : Int) (r : Bool) (h : Qda N p0 p1 p2 = some r) : Spec Tryz.prog 74 [(I p0), (I p1), (I p2)] [] (B r) [] := by
  refine Qac Tryz.func74 rfl 0 (nle rfl) (fun X φ0 w0 hφ0 hd0 => ?_)
  unfold Qda at h
  refine wx tbk [] trivial ?_
  rcases bft ((decide (p1 ≤ p0))) with hb1 | hb1
  ·replace h := Qat hb1 h
   refine wx tbk [(3, rp [(.tmp 9, (B ((decide (p1 ≤ p0)))))] (B true))] ⟨asb hb1 (amv rfl), trivial⟩ ?_
   refine Qaa ?_
   obtain rfl := osi h
   exact fend ⟨[(B ((decide (p0 ≤ p2))))], ⟨rot (by kernel_rfl), trivial⟩, rfl⟩ nll
  ·replace h := Qau hb1 h
   refine wx tbk [(3, rp [(.tmp 9, (B ((decide (p1 ≤ p0)))))] (B false))] ⟨asb hb1 (amv rfl), trivial⟩ ?_
   refine Qaa ?_
   obtain rfl := osi h
   exact fend ⟨[B false], ⟨rot (by kernel_rfl), trivial⟩, rfl⟩ nll
def Qdu (N : Nat) (p0 : GStream) : Option Bool :=
  (Qda N p0.Mass 0 1000000).bind fun x2 =>
  bif x2 then
   (Qda N p0.Heat 0 (w64 (4000 * p0.Mass))).bind fun x5 =>
   bif x5 then
    (Qda N p0.Silica 0 (w64 (10000 * p0.Mass))).bind fun x8 =>
    bif x8 then
     (Qda N p0.Gas 0 1000000000).bind fun x11 =>
     some x11
    else
     some false
   else
    some false
  else
   some false
theorem Qgh (N : Nat) (p0 : GStream) (r : Bool) (h : Qdu N p0 = some r) : Spec Tryz.prog 48 [(.agg (Qa4 p0))] [] (B r) [] := by
  refine Qac Tryz.func48 rfl 0 (nle rfl) (fun X φ0 w0 hφ0 hd0 => ?_)
  unfold Qdu at h
  refine wx tbk [] trivial ?_
  obtain ⟨x2, hf1, h⟩ := bno h
  rcases bft (x2) with hb3 | hb3
  ·replace h := Qat hb3 h
   obtain ⟨x5, hf4, h⟩ := bno h
   rcases bft (x5) with hb6 | hb6
   ·replace h := Qat hb6 h
    obtain ⟨x8, hf7, h⟩ := bno h
    rcases bft (x8) with hb9 | hb9
    ·replace h := Qat hb9 h
     obtain ⟨x11, hf10, h⟩ := bno h
     refine wx tbk [(2, rp [fu 74, (.tmp 4, I p0.Mass), ci 0, ci 1000000] (B x2)), (3, rp [(.tmp 5, B x2)] (B true)), (9, rp [(.tmp 6, B true), fu 74, (.tmp 8, I p0.Heat), ci 0, (.tmp 11, (I (w64 (4000 * p0.Mass))))] (B x5)), (11, rp [(.tmp 13, B x5)] (B true)), (17, rp [(.tmp 14, B true), fu 74, (.tmp 16, I p0.Silica), ci 0, (.tmp 19, (I (w64 (10000 * p0.Mass))))] (B x8)), (19, rp [(.tmp 21, B x8)] (B true)), (22, rp [(.tmp 22, B true), fu 74, (.tmp 24, I p0.Gas), ci 0, ci 1000000000] (B x11))] ⟨apc (first := []) (cap := []) (vs := [I p0.Mass, I 0, I 1000000]) rfl Qdy (Qaw N p0.Mass 0 1000000 _ hf1) rfl rfl (nlc nll (nlc nll (nlc nll nl0))) nll rfl, asb hb3 (amv rfl), ag_ (apc (first := []) (cap := []) (vs := [I p0.Heat, I 0, (I (w64 (4000 * p0.Mass)))]) rfl Qdy (Qaw N p0.Heat 0 (w64 (4000 * p0.Mass)) _ hf4) rfl rfl (nlc nll (nlc nll (nlc nll nl0))) nll rfl), asb hb6 (amv rfl), ag_ (apc (first := []) (cap := []) (vs := [I p0.Silica, I 0, (I (w64 (10000 * p0.Mass)))]) rfl Qdy (Qaw N p0.Silica 0 (w64 (10000 * p0.Mass)) _ hf7) rfl rfl (nlc nll (nlc nll (nlc nll nl0))) nll rfl), asb hb9 (amv rfl), ag_ (apc (first := []) (cap := []) (vs := [I p0.Gas, I 0, I 1000000000]) rfl Qdy (Qaw N p0.Gas 0 1000000000 _ hf10) rfl rfl (nlc nll (nlc nll (nlc nll nl0))) nll rfl), trivial⟩ ?_
     refine Qaa ?_
     obtain rfl := osi h
     exact fend ⟨[B x11], ⟨rot (by kernel_rfl), trivial⟩, rfl⟩ nll
    ·replace h := Qau hb9 h
     refine wx tbk [(2, rp [fu 74, (.tmp 4, I p0.Mass), ci 0, ci 1000000] (B x2)), (3, rp [(.tmp 5, B x2)] (B true)), (9, rp [(.tmp 6, B true), fu 74, (.tmp 8, I p0.Heat), ci 0, (.tmp 11, (I (w64 (4000 * p0.Mass))))] (B x5)), (11, rp [(.tmp 13, B x5)] (B true)), (17, rp [(.tmp 14, B true), fu 74, (.tmp 16, I p0.Silica), ci 0, (.tmp 19, (I (w64 (10000 * p0.Mass))))] (B x8)), (19, rp [(.tmp 21, B x8)] (B false))] ⟨apc (first := []) (cap := []) (vs := [I p0.Mass, I 0, I 1000000]) rfl Qdy (Qaw N p0.Mass 0 1000000 _ hf1) rfl rfl (nlc nll (nlc nll (nlc nll nl0))) nll rfl, asb hb3 (amv rfl), ag_ (apc (first := []) (cap := []) (vs := [I p0.Heat, I 0, (I (w64 (4000 * p0.Mass)))]) rfl Qdy (Qaw N p0.Heat 0 (w64 (4000 * p0.Mass)) _ hf4) rfl rfl (nlc nll (nlc nll (nlc nll nl0))) nll rfl), asb hb6 (amv rfl), ag_ (apc (first := []) (cap := []) (vs := [I p0.Silica, I 0, (I (w64 (10000 * p0.Mass)))]) rfl Qdy (Qaw N p0.Silica 0 (w64 (10000 * p0.Mass)) _ hf7) rfl rfl (nlc nll (nlc nll (nlc nll nl0))) nll rfl), asb hb9 (amv rfl), trivial⟩ ?_
     refine Qaa ?_
     obtain rfl := osi h
     exact fend ⟨[B false], ⟨rot (by kernel_rfl), trivial⟩, rfl⟩ nll
   ·replace h := Qau hb6 h
    refine wx tbk [(2, rp [fu 74, (.tmp 4, I p0.Mass), ci 0, ci 1000000] (B x2)), (3, rp [(.tmp 5, B x2)] (B true)), (9, rp [(.tmp 6, B true), fu 74, (.tmp 8, I p0.Heat), ci 0, (.tmp 11, (I (w64 (4000 * p0.Mass))))] (B x5)), (11, rp [(.tmp 13, B x5)] (B false))] ⟨apc (first := []) (cap := []) (vs := [I p0.Mass, I 0, I 1000000]) rfl Qdy (Qaw N p0.Mass 0 1000000 _ hf1) rfl rfl (nlc nll (nlc nll (nlc nll nl0))) nll rfl, asb hb3 (amv rfl), ag_ (apc (first := []) (cap := []) (vs := [I p0.Heat, I 0, (I (w64 (4000 * p0.Mass)))]) rfl Qdy (Qaw N p0.Heat 0 (w64 (4000 * p0.Mass)) _ hf4) rfl rfl (nlc nll (nlc nll (nlc nll nl0))) nll rfl), asb hb6 (amv rfl), trivial⟩ ?_
    refine Qaa ?_
    obtain rfl := osi h
    exact fend ⟨[B false], ⟨rot (by kernel_rfl), trivial⟩, rfl⟩ nll
  ·replace h := Qau hb3 h
   refine wx tbk [(2, rp [fu 74, (.tmp 4, I p0.Mass), ci 0, ci 1000000] (B x2)), (3, rp [(.tmp 5, B x2)] (B false))] ⟨apc (first := []) (cap := []) (vs := [I p0.Mass, I 0, I 1000000]) rfl Qdy (Qaw N p0.Mass 0 1000000 _ hf1) rfl rfl (nlc nll (nlc nll (nlc nll nl0))) nll rfl, asb hb3 (amv rfl), trivial⟩ ?_
   refine Qaa ?_
   obtain rfl := osi h
   exact fend ⟨[B false], ⟨rot (by kernel_rfl), trivial⟩, rfl⟩ nll
def Qea (N : Nat) (p0 : GStream) : Option Int :=
  (Qdu N p0).bind fun x2 =>
  bif (!x2) then
   some 1
  else
   some 0
def Zdt (p0 : GStream) : AV := .agg [(I (p0.Mass)), (I (p0.Heat)), (I (p0.Silica)), (I (p0.Gas))]
theorem Qdz (N : Nat) (p0 : GStream) (r : Int) (h : Qea N p0 = some r) : Spec Tryz.prog 15 [(.agg (Qa4 p0))] [] (I r) [] := by
  refine Qac Tryz.func15 rfl 0 (nle rfl) (fun X φ0 w0 hφ0 hd0 => ?_)
  unfold Qea at h
  refine wx tbk [] trivial ?_
  refine wsq ?_
  obtain ⟨x2, hf1, h⟩ := bno h
  refine wx tbk [(1, rp [fu 48, (.tmp 3, (Zdt p0))] (B x2))] ⟨apc (first := []) (cap := []) (vs := [(Zdt p0)]) rfl Qxp (Qgh N p0 _ hf1) rfl rfl (nlc (NLt.agg _ (nlc nll (nlc nll (nlc nll (nlc nll nl0))))) nl0) nll rfl, trivial⟩ ?_
  rcases bft ((!x2)) with hc3 | hc3
  ·replace h := Qat hc3 h
   refine wft hc3 (by kernel_rfl) ?_
   refine wx tbk [] trivial ?_
   refine Qaa ?_
   refine Qan ?_
   obtain rfl := osi h
   exact fend ⟨[I 1], ⟨rot (by kernel_rfl), trivial⟩, rfl⟩ nll
  ·replace h := Qau hc3 h
   refine wfn hc3 (by kernel_rfl) ?_
   refine Qam ?_
   refine thn ?_
   refine wx tbk [] trivial ?_
   refine Qaa ?_
   obtain rfl := osi h
   exact fend ⟨[I 0], ⟨rot (by kernel_rfl), trivial⟩, rfl⟩ nll
def Qiq (N : Nat) (p0 : GStream) : Option Bool :=
  (Qea N p0).bind fun x2 =>
  some (x2 == 0)
def Zdu (p0 : GStream) : AV := .agg [(I (p0.Mass)), (I (p0.Heat)), (I (p0.Silica)), (I (p0.Gas))]
theorem Qpa (N : Nat) (p0 : GStream) (r : Bool) (h : Qiq N p0 = some r) : Spec Tryz.prog 70 [(.agg (Qa4 p0))] [] (B r) [] := by
  refine Qac Tryz.func70 rfl 0 (nle rfl) (fun X φ0 w0 hφ0 hd0 => ?_)
  unfold Qiq at h
  refine wx tbk [] trivial ?_
  obtain ⟨x2, hf1, h⟩ := bno h
  refine wx tbk [(1, rp [fu 15, (.tmp 3, (Zdu p0))] (I x2))] ⟨apc (first := []) (cap := []) (vs := [(Zdu p0)]) rfl Qpi (Qdz N p0 _ hf1) rfl rfl (nlc (NLt.agg _ (nlc nll (nlc nll (nlc nll (nlc nll nl0))))) nl0) nll rfl, trivial⟩ ?_
  refine Qaa ?_
  obtain rfl := osi h
  exact fend ⟨[(B ((x2 == 0)))], ⟨rot (by kernel_rfl), trivial⟩, rfl⟩ nll
def Qdg (N : Nat) (p0 : GStream) : Option Bool :=
  (Qiq N p0).bind fun x3 =>
  some (!x3)
def Zac (p0 : GStream) : AV := .agg [(I (p0.Mass)), (I (p0.Heat)), (I (p0.Silica)), (I (p0.Gas))]
def Q5z : Slot := .own 1 [[(.fn (.func 70) [] [])]]
theorem Qi5 (N : Nat) (p0 : GStream) (r : Bool) (h : Qdg N p0 = some r) : Spec Tryz.prog 95 [(Zac p0), (.ref 0 1 (0) 0)] [Q5z] (B (r)) [Q5z] := by
  refine Qac Tryz.func95 rfl 1 (nle rfl) (fun X φ0 w0 hφ0 hd0 => ?_)
  unfold Qdg at h
  refine Qbh ?_
  refine wx tbk [] trivial ?_
  obtain ⟨x3, hf2, h⟩ := bno h
  refine wx tbk [(2, rp [(.tmp 4, (.fn (.func 70) [] [])), (.tmp 5, (Zac p0))] (B x3))] ⟨apc (first := []) (cap := []) (vs := [(Zac p0)]) rfl Zb1 (Qpa N p0 _ hf2) rfl rfl (nlc (NLt.agg _ (nlc nll (nlc nll (nlc nll (nlc nll nl0))))) nl0) nll rfl, trivial⟩ ?_
  refine wmr (mto (n := 8) (l' := [(3, (B ((!x3))))]) (own' := [Q5z]) [(3, (B ((!x3))))] [0] [Q5z] hφ0 (pc rwl pn) (qc (spb (lc (.rn (Qas rn0 rn0)) ln)) qn)) ?_
  refine Qaa ?_
  obtain rfl := osi h
  exact ⟨_, Mor.rfl, Qb7 (vs := [(B ((!x3)))]) ⟨rot (by kernel_rfl), trivial⟩ rfl (NLt.of0 nll) (by kernel_rfl) (Qaf (Qav (nlc (NLt.of0 (NLt.fn _ _ _ nl0 nl0)) nl0)) Qbd)⟩
def Qa1 (N : Nat) (p0 : (List GStream)) (k2 : Unit → Option Int) : Nat → Int → Option Int
  | 0, _ => none
  | n5 + 1, y3 =>
    bif (decide (y3 < (p0.length : Int))) then
     (getI p0 y3).bind fun x7 =>
     (Qdg N x7).bind fun x12 =>
     bif x12 then
      some y3
     else
      Qa1 N p0 k2 n5 (w64 (y3 + 1))
    else
     k2 ()
def Qbt (N : Nat) (p0 : (List GStream)) : Option Int :=
  Qc5 (fun _ =>
    some (-1)) fun k2 : Unit → Option Int =>
  Qa1 N p0 k2 N 0
def Qw6 (p0 : (List GStream)) : AV := .dat 4 ((p0 : List GStream).map Qa4)
def Q0d : AV := .fn (.func 95) [] [(.ref 0 1 (0) 0)]
def Qnf : Slot := .own 1 [[(.fn (.func 70) [] [])]]
def Zdv (x7 : GStream) : AV := .agg [(I (x7.Mass)), (I (x7.Heat)), (I (x7.Silica)), (I (x7.Gas))]
theorem Qfg (N : Nat) (p0 : (List GStream)) (r : Int) (h : Qbt N p0 = some r) : Spec Tryz.prog 113 [(Qw6 p0), Q0d] [Qnf] (I (r)) [Qnf] := by
  refine Qac Tryz.func113 rfl 1 (nle rfl) (fun X φ0 w0 hφ0 hd0 => ?_)
  unfold Qbt at h
  refine Qbh ?_
  refine wx tbk [] trivial ?_
  obtain ⟨k2, hk_k2, h⟩ := jko h
  refine wjn (τ := Unit) (fun t => k2 t = some r) (fun _ => ⟨mk 19 [], [Qnf]⟩) (fun t h => ?_) ?_
  ·subst hk_k2
   refine wx tbk [] trivial ?_
   refine wmr (mto (n := 19) (l' := [(4, (I ((-1))))]) (own' := [Qnf]) [(4, (I ((-1))))] [0] [Qnf] hφ0 (pc rwl pn) (qc (spb (lc (.rn (Qas rn0 rn0)) ln)) qn)) ?_
   refine Qaa ?_
   obtain rfl := osi h
   exact ⟨_, Mor.rfl, Qb7 (vs := [(I ((-1)))]) ⟨rot (by kernel_rfl), trivial⟩ rfl (NLt.of0 nll) (by kernel_rfl) (Qaf (Qav (nlc (NLt.of0 (NLt.fn _ _ _ nl0 nl0)) nl0)) Qbd)⟩
  ·skip
   refine wx tbk [(1, rp [(.tmp 6, (Qw6 p0))] (I ((p0.length : Int))))] ⟨alm (c := Qa4) (l := p0) (aln rfl Tryz.underlying124 rfl), trivial⟩ ?_
   refine Qaj ?_
   refine wmr (mto (n := 19) (l' := [(0, (Qw6 p0)), (1, Q0d), (7, (I ((p0.length : Int)))), (8, I 0)]) (own' := [Qnf]) [(0, (Qw6 p0)), (1, Q0d), (7, (I ((p0.length : Int)))), (8, I 0)] [0] [Qnf] hφ0 (pc (.rn (.plain _ (nld Qdc _))) (pc (.rn (Qas rn0 (rnc (rqr rfl) rn0))) (pc rwl (pc rwl pn)))) (qc (spb (lc (.rn (Qas rn0 rn0)) ln)) qn)) ?_
   refine Qcl (τ := Int) (fun n t => Qa1 N p0 k2 n t = some r) (fun y3 => ⟨mk 19 [(0, (Qw6 p0)), (1, Q0d), (7, (I ((p0.length : Int)))), (8, I y3)], [Qnf]⟩) (fun t h => by rw [Qa1] at h; cases h) (fun n5 ih y3 h => ?_) N (0) h
   rw [Qa1] at h
   skip
   refine wx tbk [] trivial ?_
   refine wsq ?_
   rcases bft ((decide (y3 < (p0.length : Int)))) with hc6 | hc6
   ·replace h := Qat hc6 h
    refine wft hc6 (by kernel_rfl) ?_
    refine Qam ?_
    refine thn ?_
    refine wsq ?_
    refine Qaj ?_
    refine wx tbk [] trivial ?_
    obtain ⟨x7, hg8, h⟩ := bno h
    obtain ⟨hi9, hj10⟩ := gsm hg8
    obtain ⟨x12, hf11, h⟩ := bno h
    refine wx tbk [(3, rp [(.tmp 12, (Qw6 p0)), (.tmp 13, I y3)] (.dptr (Qa4 (x7)) 0)), (5, ⟨[(.tmp 11, Q0d), (.tmp 15, (Zdv x7))], [(0, Qnf)], B x12, [(0, Qnf)], false⟩)] ⟨aid rfl Tryz.underlying124 ti35 rfl rfl hi9 (mgt Qa4 hj10) rfl, Qah (first := []) (cap := [.ref 0 1 0 0]) (vs := [(Zdv x7)]) (σr := [Qnf]) (σr' := [Qnf]) (res' := (B x12)) [0] rfl Zbj (Qi5 N x7 _ hf11) rfl (Qbc (rnc (.plain _ (NLt.agg _ (nlc nll (nlc nll (nlc nll (nlc nll nl0)))))) (rnc (Qa2 rfl) rn0))) (slc (Qae (rnc (.plain _ (NLt.fn _ _ _ nl0 nl0)) rn0)) Qag) (slc (Qae (rnc (.plain _ (NLt.fn _ _ _ nl0 nl0)) rn0)) Qag) (.plain _ nll) rfl rfl rfl, trivial⟩ ?_
    rcases bft (x12) with hc13 | hc13
    ·replace h := Qat hc13 h
     refine wft hc13 (by kernel_rfl) ?_
     refine wx tbk [] trivial ?_
     refine wmr (mto (n := 19) (l' := [(4, I y3)]) (own' := [Qnf]) [(4, I y3)] [0] [Qnf] hφ0 (pc rwl pn) (qc (spb (lc (.rn (Qas rn0 rn0)) ln)) qn)) ?_
     refine Qaa ?_
     refine Qa3 ?_
     refine Qan ?_
     refine Qan ?_
     refine Qa3 ?_
     refine Qan ?_
     obtain rfl := osi h
     exact ⟨_, Mor.rfl, Qb7 (vs := [I y3]) ⟨rot (by kernel_rfl), trivial⟩ rfl (NLt.of0 nll) (by kernel_rfl) (Qaf (Qav (nlc (NLt.of0 (NLt.fn _ _ _ nl0 nl0)) nl0)) Qbd)⟩
    ·replace h := Qau hc13 h
     refine wfn hc13 (by kernel_rfl) ?_
     refine Qam ?_
     refine bln ?_
     refine thn ?_
     refine wx1 tbk [] trivial ?_
     refine thn ?_
     exact arm (mto (n := 19) [(0, (Qw6 p0)), (1, Q0d), (7, (I ((p0.length : Int)))), (8, (I (w64 (y3 + 1))))] [0] [Qnf] hφ0 (pc (.rn (.plain _ (nld Qdc _))) (pc (.rn (Qas rn0 (rnc (rqr rfl) rn0))) (pc rwl (pc rwl pn)))) (qc (spb (lc (.rn (Qas rn0 rn0)) ln)) qn)) (ih (w64 (y3 + 1)) h)
   ·replace h := Qau hc6 h
    refine wfn hc6 (by kernel_rfl) ?_
    refine Qbr ?_
    refine Qay ?_
    refine Qay ?_
    refine Qbq rfl ?_
    refine thn ?_
    exact ⟨(), h, (mto (n := 19) [] [0] [Qnf] hφ0 pn (qc (spb (lc (.rn (Qas rn0 rn0)) ln)) qn))⟩
def Qbl (N : Nat) (p0 : (List GStream)) : Option Bool :=
  (Qbt N p0).bind fun x3 =>
  some (decide (x3 ≥ 0))
def Zae (p0 : (List GStream)) : AV := .dat 4 ((p0 : List GStream).map Qa4)
def Zad : AV := .fn (.func 95) [] [(.ref 0 1 (0) 0)]
def Qus : Slot := .own 1 [[(.fn (.func 70) [] [])]]
theorem Qe6 (N : Nat) (p0 : (List GStream)) (r : Bool) (h : Qbl N p0 = some r) : Spec Tryz.prog 94 [(Zae p0), Zad] [Qus] (B (r)) [Qus] := by
  refine Qac Tryz.func94 rfl 1 (nle rfl) (fun X φ0 w0 hφ0 hd0 => ?_)
  unfold Qbl at h
  refine Qbh ?_
  refine wx tbk [] trivial ?_
  obtain ⟨x3, hf2, h⟩ := bno h
  refine wx tbk [(2, ⟨[fu 113, (.tmp 5, (Zae p0)), (.tmp 6, Zad)], [(0, Qus)], I x3, [(0, Qus)], false⟩)] ⟨Qah (first := []) (cap := []) (vs := [(Zae p0), Zad]) (σr := [Qus]) (σr' := [Qus]) (res' := (I x3)) [0] rfl Qzj (Qfg N p0 _ hf2) rfl (Qbc (rnc (.plain _ (nld Qdc _)) (rnc (Qas rn0 (rnc (Qa2 rfl) rn0)) rn0))) (slc (Qae (rnc (.plain _ (NLt.fn _ _ _ nl0 nl0)) rn0)) Qag) (slc (Qae (rnc (.plain _ (NLt.fn _ _ _ nl0 nl0)) rn0)) Qag) (.plain _ nll) rfl rfl rfl, trivial⟩ ?_
  refine wmr (mto (n := 9) (l' := [(4, (B ((decide (x3 ≥ 0)))))]) (own' := [Qus]) [(4, (B ((decide (x3 ≥ 0)))))] [0] [Qus] hφ0 (pc rwl pn) (qc (spb (lc (.rn (Qas rn0 rn0)) ln)) qn)) ?_
  refine Qaa ?_
  obtain rfl := osi h
  exact ⟨_, Mor.rfl, Qb7 (vs := [(B ((decide (x3 ≥ 0))))]) ⟨rot (by kernel_rfl), trivial⟩ rfl (NLt.of0 nll) (by kernel_rfl) (Qaf (Qav (nlc (NLt.of0 (NLt.fn _ _ _ nl0 nl0)) nl0)) Qbd)⟩
def Qdq (N : Nat) (p0 : (List GStream)) : Option Bool :=
  (Qbl N p0).bind fun x2 =>
  some (!x2)
def Zag (p0 : (List GStream)) : AV := .dat 4 ((p0 : List GStream).map Qa4)
def Zaf : AV := .fn (.func 95) [] [(.ref 0 1 (0) 0)]
def Q50 : Slot := .own 1 [[(.fn (.func 70) [] [])]]
theorem Qjo (N : Nat) (p0 : (List GStream)) (r : Bool) (h : Qdq N p0 = some r) : Spec Tryz.prog 69 [(Zag p0), (.fn (.func 70) [] [])] [] (B (r)) [] := by
  refine Qac Tryz.func69 rfl 0 (nle rfl) (fun X φ0 w0 hφ0 hd0 => ?_)
  unfold Qdq at h
  refine wx tbk [] trivial ?_
  obtain ⟨x2, hf1, h⟩ := bno h
  refine wx tbk [(1, rp [(.tmp 3, .ref 0 1 0 0)] Zaf), (2, ⟨[fu 94, (.tmp 5, (Zag p0)), (.tmp 6, Zaf)], [(0, Q50)], B x2, [(0, Q50)], false⟩)] ⟨Qdd (fs := []) (cs := [.ref 0 1 0 0]) rfl rfl rfl rfl, Qah (first := []) (cap := []) (vs := [(Zag p0), Zaf]) (σr := [Q50]) (σr' := [Q50]) (res' := (B x2)) [0] rfl Q39 (Qe6 N p0 _ hf1) rfl (Qbc (rnc (.plain _ (nld Qdc _)) (rnc (Qas rn0 (rnc (Qa2 rfl) rn0)) rn0))) (slc (Qae (rnc (.plain _ (NLt.fn _ _ _ nl0 nl0)) rn0)) Qag) (slc (Qae (rnc (.plain _ (NLt.fn _ _ _ nl0 nl0)) rn0)) Qag) (.plain _ nll) rfl rfl rfl, trivial⟩ ?_
  refine Qaa ?_
  obtain rfl := osi h
  exact fend ⟨[(B ((!x2)))], ⟨rot (by kernel_rfl), trivial⟩, rfl⟩ nll
def Qem (N : Nat) (p0 : (List GStream)) : Option Bool :=
  (Qdq N p0).bind fun x2 =>
  some x2
theorem Qgq (N : Nat) (p0 : (List GStream)) (r : Bool) (h : Qem N p0 = some r) : Spec Tryz.prog 29 [(.dat 4 (p0.map Qa4))] [] (B r) [] := by
  refine Qac Tryz.func29 rfl 0 (nle rfl) (fun X φ0 w0 hφ0 hd0 => ?_)
  unfold Qem at h
  refine wx tbk [] trivial ?_
  obtain ⟨x2, hf1, h⟩ := bno h
  refine wx tbk [(1, rp [fu 69, (.tmp 3, (.dat 4 ((p0 : List GStream).map Qa4))), fu 70] (B x2))] ⟨Qah (first := []) (cap := []) (vs := [(.dat 4 ((p0 : List GStream).map Qa4)), (.fn (.func 70) [] [])]) (σr := []) (σr' := []) (res' := (B x2)) [] rfl Zb2 (Qjo N p0 _ hf1) rfl (Qbc (rnc (.plain _ (nld Qdc _)) (rnc (.plain _ (NLt.fn _ _ _ nl0 nl0)) rn0))) Qag Qag (.plain _ nll) rfl rfl rfl, trivial⟩ ?_
  refine Qaa ?_
  obtain rfl := osi h
  exact fend ⟨[B x2], ⟨rot (by kernel_rfl), trivial⟩, rfl⟩ nll
def Qju (N : Nat) (p0 : GCycle) (p1 : GStream) : Option (GStream × Int × Int × Int) :=
  Qc5 (fun _ =>
    (some (if (w64 (p1.Heat - (w64 (p0.Out * p1.Mass)))) > 0 then w64 (p1.Heat - (w64 (p0.Out * p1.Mass))) else 0)).bind fun x2 =>
    (some (if x2 < p0.Most then x2 else p0.Most)).bind fun x4 =>
    (some (w64 ((w64 (x4 * p0.Yield)).tdiv 1000))).bind fun x6 =>
    some ((⟨p1.Mass, w64 (p1.Heat - x4), p1.Silica, p1.Gas⟩ : GStream), x6, w64 (x4 - x6), 0)) fun k1 : Unit → Option (GStream × Int × Int × Int) =>
  (Qew N p0).bind fun x9 =>
  bif (!x9) then
   some ((⟨0, 0, 0, 0⟩ : GStream), 0, 0, 1)
  else
   (Qem N ([p1])).bind fun x12 =>
   bif (!x12) then
    some ((⟨0, 0, 0, 0⟩ : GStream), 0, 0, 1)
   else
    k1 ()
def Zdz (p0 : GCycle) : Slot := .own 3 [[(I (p0.Out)), (I (p0.Yield)), (I (p0.Most))]]
def Zdy (p1 : GStream) : Slot := .own 4 [[(I (p1.Mass)), (I (p1.Heat)), (I (p1.Silica)), (I (p1.Gas))]]
def Zdw : Slot := .own 4 [[(I (0)), (I (0)), (I (0)), (I (0))]]
def Q52 (p0 : GCycle) : AV := .agg [(I (p0.Out)), (I (p0.Yield)), (I (p0.Most))]
def Q51 : AV := .agg [(I (0)), (I (0)), (I (0)), (I (0))]
def Zdx (p1 : GStream) : AV := .agg [(I (p1.Mass)), (I (p1.Heat)), (I (p1.Silica)), (I (p1.Gas))]
def Zah (p1 : GStream) : AV := .dat 4 (([p1] : List GStream).map Qa4)
theorem Qoj (N : Nat) (p0 : GCycle) (p1 : GStream) (r : (GStream × Int × Int × Int)) (h : Qju N p0 p1 = some r) : Spec Tryz.prog 20 [(.agg (Qlf p0)), (.agg (Qa4 p1))] [] (.tup [(.agg (Qa4 r.1)), (I r.2.1), (I r.2.2.1), (I r.2.2.2)]) [] := by
  refine Qac Tryz.func20 rfl 0 (nle rfl) (fun X φ0 w0 hφ0 hd0 => ?_)
  unfold Qju at h
  refine wx tbk [] trivial ?_
  obtain ⟨k1, hk_k1, h⟩ := jko h
  refine wjn (τ := Unit) (fun t => k1 t = some r) (fun _ => ⟨mk 46 [(2, .ref 0 3 0 0), (3, .ref 1 4 0 0), (4, .ref 2 4 0 0)], [(Zdz p0), (Zdy p1), Zdw]⟩) (fun t h => ?_) ?_
  ·subst hk_k1
   obtain ⟨x2, hl3, h⟩ := bno h
   obtain ⟨x4, hl5, h⟩ := bno h
   refine wx tbk [(10, rp [ci 0, (.tmp 28, (I (w64 (p1.Heat - (w64 (p0.Out * p1.Mass))))))] (I x2)), (11, rp [(.tmp 20, I p0.Most), (.tmp 29, I x2)] (I ((if x2 < p0.Most then x2 else p0.Most)))), (12, rp [(.tmp 30, (I ((if x2 < p0.Most then x2 else p0.Most))))] (I x4))] ⟨Qd8 hl3 (Qmn rfl), Qmm rfl, Qd8 hl5 (aas rfl), trivial⟩ ?_
   obtain ⟨x6, hl7, h⟩ := bno h
   refine wx tbk [(4, rp [(.tmp 34, (I (w64 (x4 * p0.Yield)))), ci 1000] (I (w64 ((w64 (x4 * p0.Yield)).tdiv 1000)))), (5, rp [(.tmp 35, (I (w64 ((w64 (x4 * p0.Yield)).tdiv 1000))))] (I x6))] ⟨Qv5 rfl (by decide), Qd8 hl7 (aas rfl), trivial⟩ ?_
   refine wx tbk [] trivial ?_
   refine wx tbk [] trivial ?_
   refine Qaa ?_
   obtain rfl := osi h
   exact fend ⟨[(.agg [I p1.Mass, (I (w64 (p1.Heat - x4))), I p1.Silica, I p1.Gas]), I x6, (I (w64 (x4 - x6))), I 0], ⟨Qa0 (n := 2) (m := 4) (j := 0) (i := 0) (xs := [[I p1.Mass, (I (w64 (p1.Heat - x4))), I p1.Silica, I p1.Gas]]) (by kernel_rfl) (by kernel_rfl) ti35 (by decide) rfl (nle rfl) rfl, rot (by kernel_rfl), rot (by kernel_rfl), rot (by kernel_rfl), trivial⟩, rfl⟩ (NLt.tup _ (nlc (NLt.agg _ (nlc nll (nlc nll (nlc nll (nlc nll nl0))))) (nlc nll (nlc nll (nlc nll nl0)))))
  ·skip
   obtain ⟨x9, hf8, h⟩ := bno h
   rcases bft ((!x9)) with hb10 | hb10
   ·replace h := Qat hb10 h
    refine wx tbk [(1, rp [fu 58, (.tmp 9, (Q52 p0))] (B x9)), (3, rp [(.tmp 11, (B ((!x9))))] (B true))] ⟨apc (first := []) (cap := []) (vs := [(Q52 p0)]) rfl Qxn (Qgt N p0 _ hf8) rfl rfl (nlc (NLt.agg _ (nlc nll (nlc nll (nlc nll nl0)))) nl0) nll rfl, asb hb10 (amv rfl), trivial⟩ ?_
    refine Qcy (by kernel_rfl) ?_
    refine wx tbk [(0, rp [] Q51)] ⟨Qao (vs := []) rfl ts35 tz35 rfl (by rfl) rfl, trivial⟩ ?_
    refine Qaa ?_
    refine Qan ?_
    obtain rfl := osi h
    exact fend ⟨[Q51, I 0, I 0, I 1], ⟨Qa0 (n := 2) (m := 4) (j := 0) (i := 0) (xs := [[I 0, I 0, I 0, I 0]]) (by kernel_rfl) (by kernel_rfl) ti35 (by decide) rfl (nle rfl) rfl, rot (by kernel_rfl), rot (by kernel_rfl), rot (by kernel_rfl), trivial⟩, rfl⟩ (NLt.tup _ (nlc (NLt.agg _ (nlc nll (nlc nll (nlc nll (nlc nll nl0))))) (nlc nll (nlc nll (nlc nll nl0)))))
   ·replace h := Qau hb10 h
    obtain ⟨x12, hf11, h⟩ := bno h
    refine wx tbk [(1, rp [fu 58, (.tmp 9, (Q52 p0))] (B x9)), (3, rp [(.tmp 11, (B ((!x9))))] (B false)), (5, rp [(.tmp 12, B false), (.tmp 13, (Zdx p1))] (Zah p1)), (6, rp [(.tmp 12, B false), fu 29, (.tmp 14, (Zah p1))] (B x12))] ⟨apc (first := []) (cap := []) (vs := [(Q52 p0)]) rfl Qxn (Qgt N p0 _ hf8) rfl rfl (nlc (NLt.agg _ (nlc nll (nlc nll (nlc nll nl0)))) nl0) nll rfl, asb hb10 (amv rfl), ag_ (Qcb (vs := [(Zdx p1)]) rfl Tryz.underlying124 ti35 tz35 rfl (by decide) rfl (by decide) (by rfl) (by rfl) (by rfl) rfl), ag_ (apc (first := []) (cap := []) (vs := [(Zah p1)]) rfl Qra (Qgq N ([p1]) _ hf11) rfl rfl (nlc (nld Qdc _) nl0) nll rfl), trivial⟩ ?_
    rcases bft ((!x12)) with hc13 | hc13
    ·replace h := Qat hc13 h
     refine wft hc13 (by kernel_rfl) ?_
     refine wx tbk [(0, rp [] Q51)] ⟨Qao (vs := []) rfl ts35 tz35 rfl (by rfl) rfl, trivial⟩ ?_
     refine Qaa ?_
     refine Qan ?_
     obtain rfl := osi h
     exact fend ⟨[Q51, I 0, I 0, I 1], ⟨Qa0 (n := 2) (m := 4) (j := 0) (i := 0) (xs := [[I 0, I 0, I 0, I 0]]) (by kernel_rfl) (by kernel_rfl) ti35 (by decide) rfl (nle rfl) rfl, rot (by kernel_rfl), rot (by kernel_rfl), rot (by kernel_rfl), trivial⟩, rfl⟩ (NLt.tup _ (nlc (NLt.agg _ (nlc nll (nlc nll (nlc nll (nlc nll nl0))))) (nlc nll (nlc nll (nlc nll nl0)))))
    ·replace h := Qau hc13 h
     refine wfn hc13 (by kernel_rfl) ?_
     refine Qam ?_
     refine thn ?_
     exact ⟨(), h, (mto (n := 46) [(2, .ref 0 3 0 0), (3, .ref 1 4 0 0), (4, .ref 2 4 0 0)] [0, 1, 2] [(Zdz p0), (Zdy p1), Zdw] hφ0 (pc (.rn (rqr rfl)) (pc (.rn (rqr rfl)) (pc (.rn (rqr rfl)) pn))) (qc (spb (lc rwl (lc rwl (lc rwl ln)))) (qc (spb (lc rwl (lc rwl (lc rwl (lc rwl ln))))) (qc (spb (lc rwl (lc rwl (lc rwl (lc rwl ln))))) qn))))⟩
end Go.Proofs.YtlhakkkjgdbdpaaGreat
