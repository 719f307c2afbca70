/-
  Functions of the program: what they compute, as plain functions, and that they do. No conditions.
-/
import Derived.Test.YtlhakkkjgdbdpaaXt
namespace Go.Proofs.Ytlhakkkjgdbdpaa
open Go.RowKit
def Qa8 (_N : Nat) (p0 : Int) (p1 : Int) (p2 : Int) : Option Bool :=
  bif (decide (p1 ≤ p0)) then
   some (decide (p0 ≤ p2))
  else
   some false
set_option maxRecDepth 100000 in
set_option maxHeartbeats 4000000 in
theorem Qae (N : Nat) (p0 : Int) (p1 : Int) (p2 : Int) (r : Bool) (h : Qa8 N p0 p1 p2 = some r) : Spec Try.prog 65 [(I p0), (I p1), (I p2)] [] (B r) [] := by
  refine Qac Try.func65 rfl 0 (nle rfl) (fun X φ0 w0 hφ0 => ?_)
  unfold Qa8 at h
  refine wx tbk [] trivial ?_
  rcases bft ((decide (p1 ≤ p0))) with hb1 | hb1
  ·replace h := Qav hb1 h
   refine wx tbk [(3, rp [(.tmp 9, (B ((decide (p1 ≤ p0)))))] (B true))] ⟨asb hb1 (amv rfl), trivial⟩ ?_
   refine Qab ?_
   obtain rfl := osi h
   exact fend ⟨[(B ((decide (p0 ≤ p2))))], ⟨rot (by kernel_rfl), trivial⟩, rfl⟩ nll
  ·replace h := Qaw hb1 h
   refine wx tbk [(3, rp [(.tmp 9, (B ((decide (p1 ≤ p0)))))] (B false))] ⟨asb hb1 (amv rfl), trivial⟩ ?_
   refine Qab ?_
   obtain rfl := osi h
   exact fend ⟨[B false], ⟨rot (by kernel_rfl), trivial⟩, rfl⟩ nll
def Qf4 (N : Nat) (p0 : GPart) (p1 : Int) : Option Bool :=
  (Qa8 N p0.Gain 0 p1).bind fun x3 =>
  bif x3 then
   (Qa8 N p0.Width 1 100000).bind fun x6 =>
   some x6
  else
   some false
def z8_2 (p0 : GPart) : Slot := .own 1 [[(I (p0.Gain))]]
set_option maxRecDepth 100000 in
set_option maxHeartbeats 4000000 in
theorem Qjw (N : Nat) (p0 : GPart) (p1 : Int) (r : Bool) (h : Qf4 N p0 p1 = some r) : Spec Try.prog 94 [(.agg [(I (p0.Width)), (I (p0.Gain))]), (.ref 0 1 (0) 0)] [(.own 1 [[(I (p1))]])] (B (r)) [(z8_2 p0)] := by
  refine Qac Try.func94 rfl 1 (nle rfl) (fun X φ0 w0 hφ0 => ?_)
  unfold Qf4 at h
  refine Qbj ?_
  refine wx tbk [] trivial ?_
  obtain ⟨x3, hf2, h⟩ := bno h
  refine wx tbk [(3, rp [fu 65, (.tmp 6, I p0.Gain), ci 0, (.tmp 7, I p1)] (B x3))] ⟨apc (first := []) (cap := []) (vs := [I p0.Gain, I 0, I p1]) rfl Qbs (Qae N p0.Gain 0 p1 _ hf2) rfl rfl (nlc nll (nlc nll (nlc nll nl0))) nll rfl, trivial⟩ ?_
  refine wx tbk [] trivial ?_
  rcases bft (x3) with hb4 | hb4
  ·replace h := Qav hb4 h
   obtain ⟨x6, hf5, h⟩ := bno h
   refine wx tbk [(1, rp [(.tmp 11, B x3)] (B true)), (4, rp [(.tmp 12, B true), fu 65, (.tmp 14, I p0.Width), ci 1, ci 100000] (B x6))] ⟨asb hb4 (amv rfl), ag_ (apc (first := []) (cap := []) (vs := [I p0.Width, I 1, I 100000]) rfl Qbs (Qae N p0.Width 1 100000 _ hf5) rfl rfl (nlc nll (nlc nll (nlc nll nl0))) nll rfl), trivial⟩ ?_
   refine wmr (mto (n := 17) (l' := [(3, B x6)]) (own' := [(z8_2 p0)]) [(3, B x6)] [0] [(z8_2 p0)] hφ0 (pc rwl pn) (qc (spb (lc rwl ln)) qn)) ?_
   refine Qab ?_
   obtain rfl := osi h
   exact ⟨_, Mor.rfl, Qbx (vs := [B x6]) ⟨rot (by kernel_rfl), trivial⟩ rfl (NLt.of0 nll) (by kernel_rfl) (Qag (Qas (nlc (NLt.of0 nll) nl0)) Qa5)⟩
  ·replace h := Qaw hb4 h
   refine wx tbk [(1, rp [(.tmp 11, B x3)] (B false))] ⟨asb hb4 (amv rfl), trivial⟩ ?_
   refine wmr (mto (n := 17) (l' := [(3, B false)]) (own' := [(z8_2 p0)]) [(3, B false)] [0] [(z8_2 p0)] hφ0 (pc rwl pn) (qc (spb (lc rwl ln)) qn)) ?_
   refine Qab ?_
   obtain rfl := osi h
   exact ⟨_, Mor.rfl, Qbx (vs := [B false]) ⟨rot (by kernel_rfl), trivial⟩ rfl (NLt.of0 nll) (by kernel_rfl) (Qag (Qas (nlc (NLt.of0 nll) nl0)) Qa5)⟩
def Qe4 (N : Nat) (p0 : GPart) (p1 : Int) : Option Bool :=
  (Qf4 N p0 p1).bind fun x3 =>
  some (!x3)
def z7_1 (p0 : GPart) : AV := .agg [(I (p0.Width)), (I (p0.Gain))]
def z7_2 : AV := .fn (.func 94) [] [(.ref 1 1 (0) 0)]
def z7_3 (p0 : GPart) : Slot := .own 1 [[(I (p0.Gain))]]
set_option maxRecDepth 100000 in
set_option maxHeartbeats 4000000 in
theorem Qiv (N : Nat) (p0 : GPart) (p1 : Int) (r : Bool) (h : Qe4 N p0 p1 = some r) : Spec Try.prog 114 [(z7_1 p0), (.ref 0 1 (0) 0)] [(.own 1 [[z7_2]]), (.own 1 [[(I (p1))]])] (B (r)) [(.own 1 [[z7_2]]), (z7_3 p0)] := by
  refine Qac Try.func114 rfl 2 (nle rfl) (fun X φ0 w0 hφ0 => ?_)
  unfold Qe4 at h
  refine Qbj ?_
  refine wx tbk [] trivial ?_
  obtain ⟨x3, hf2, h⟩ := bno h
  refine wx tbk [(2, ⟨[(.tmp 4, z7_2), (.tmp 5, (z7_1 p0))], [(1, .own 1 [[I p1]])], B x3, [(1, (z7_3 p0))], false⟩)] ⟨Qam (first := []) (cap := [.ref 1 1 0 0]) (vs := [(z7_1 p0)]) (σr := [(.own 1 [[I p1]])]) (σr' := [(z7_3 p0)]) (res' := (B x3)) [1] rfl enter94 (Qjw N p0 p1 _ hf2) rfl (Qbi (rnc (.plain _ (NLt.agg _ (nlc nll (nlc nll nl0)))) (rnc (Qax rfl) rn0))) (slc (Qai (rnc (.plain _ nll) rn0)) Qal) (slc (Qai (rnc (.plain _ nll) rn0)) Qal) (.plain _ nll) rfl rfl rfl, trivial⟩ ?_
  refine wmr (mto (n := 8) (l' := [(3, (B ((!x3))))]) (own' := [(.own 1 [[z7_2]]), (z7_3 p0)]) [(3, (B ((!x3))))] [0, 1] [(.own 1 [[z7_2]]), (z7_3 p0)] hφ0 (pc rwl pn) (qc (spb (lc (.rn (Qaq rn0 (rnc (rqr rfl) rn0))) ln)) (qc (spb (lc rwl ln)) qn))) ?_
  refine Qab ?_
  obtain rfl := osi h
  exact ⟨_, Mor.rfl, Qbx (vs := [(B ((!x3)))]) ⟨rot (by kernel_rfl), trivial⟩ rfl (NLt.of0 nll) (by kernel_rfl) (Qag (Qas (nlc (NLt.fn _ _ _ nl0 (nlc (NLt.ref _ _ _ _ (by decide)) nl0)) nl0)) (Qag (Qas (nlc (NLt.of0 nll) nl0)) Qa5))⟩
def Qbe (N : Nat) (p0 : (List GPart)) (k4 : Int → Option (Int × Int)) : Nat → Int → Int → Option (Int × Int)
  | 0, _, _ => none
  | n9 + 1, y5, y6 =>
    bif (decide (y5 < (p0.length : Int))) then
     (getI p0 y5).bind fun x11 =>
     (Qe4 N x11 y6).bind fun x16 =>
     bif x16 then
      some (y5, x11.Gain)
     else
      Qbe N p0 k4 n9 (w64 (y5 + 1)) x11.Gain
    else
     k4 (y6)
def Qcv (N : Nat) (p0 : (List GPart)) (p1 : Int) : Option (Int × Int) :=
  Qdu (fun y3 =>
    some ((-1), y3)) fun k4 : Int → Option (Int × Int) =>
  Qbe N p0 k4 N 0 p1
def z6_0 (p0 : (List GPart)) : AV := .dat 2 ((p0 : List GPart).map Qby)
def z6_1 : AV := .fn (.func 114) [] [(.ref 0 1 (0) 0)]
def z6_3 : AV := .fn (.func 94) [] [(.ref 1 1 (0) 0)]
def Qw8 (x11 : GPart) : Slot := .own 1 [[(I (x11.Gain))]]
set_option maxRecDepth 100000 in
set_option maxHeartbeats 4000000 in
theorem Qfd (N : Nat) (p0 : (List GPart)) (p1 : Int) (r : (Int × Int)) (h : Qcv N p0 p1 = some r) : Spec Try.prog 128 [(z6_0 p0), z6_1] [(.own 1 [[z6_3]]), (.own 1 [[(I (p1))]])] (I (r.1)) [(.own 1 [[z6_3]]), (.own 1 [[(I (r.2))]])] := by
  refine Qac Try.func128 rfl 2 (nle rfl) (fun X φ0 w0 hφ0 => ?_)
  unfold Qcv at h
  refine Qbj ?_
  refine wx tbk [] trivial ?_
  obtain ⟨k4, hk_k4, h⟩ := jko h
  refine wjn (τ := Int) (fun t => k4 t = some r) (fun y3 => ⟨mk 19 [], [(.own 1 [[z6_3]]), (.own 1 [[I y3]])]⟩) (fun y3 h => ?_) ?_
  ·subst hk_k4
   refine wx tbk [] trivial ?_
   refine wmr (mto (n := 19) (l' := [(4, (I ((-1))))]) (own' := [(.own 1 [[z6_3]]), (.own 1 [[I y3]])]) [(4, (I ((-1))))] [0, 1] [(.own 1 [[z6_3]]), (.own 1 [[I y3]])] hφ0 (pc rwl pn) (qc (spb (lc (.rn (Qaq rn0 (rnc (rqr rfl) rn0))) ln)) (qc (spb (lc rwl ln)) qn))) ?_
   refine Qab ?_
   obtain rfl := osi h
   exact ⟨_, Mor.rfl, Qbx (vs := [(I ((-1)))]) ⟨rot (by kernel_rfl), trivial⟩ rfl (NLt.of0 nll) (by kernel_rfl) (Qag (Qas (nlc (NLt.fn _ _ _ nl0 (nlc (NLt.ref _ _ _ _ (by decide)) nl0)) nl0)) (Qag (Qas (nlc (NLt.of0 nll) nl0)) Qa5))⟩
  ·skip
   refine wx tbk [(1, rp [(.tmp 6, (z6_0 p0))] (I ((p0.length : Int))))] ⟨alm (c := Qby) (l := p0) (aln rfl Try.underlying32 rfl), trivial⟩ ?_
   refine Qak ?_
   refine wmr (mto (n := 19) (l' := [(0, (z6_0 p0)), (1, z6_1), (7, (I ((p0.length : Int)))), (8, I 0)]) (own' := [(.own 1 [[z6_3]]), (.own 1 [[I p1]])]) [(0, (z6_0 p0)), (1, z6_1), (7, (I ((p0.length : Int)))), (8, I 0)] [0, 1] [(.own 1 [[z6_3]]), (.own 1 [[I p1]])] hφ0 (pc (.rn (.plain _ (nld Qbc _))) (pc (.rn (Qaq rn0 (rnc (rqr rfl) rn0))) (pc rwl (pc rwl pn)))) (qc (spb (lc (.rn (Qaq rn0 (rnc (rqr rfl) rn0))) ln)) (qc (spb (lc rwl ln)) qn))) ?_
   refine Qb1 (τ := Int × Int) (fun n t => Qbe N p0 k4 n t.1 t.2 = some r) (fun ⟨y5, y6⟩ => ⟨mk 19 [(0, (z6_0 p0)), (1, z6_1), (7, (I ((p0.length : Int)))), (8, I y5)], [(.own 1 [[z6_3]]), (.own 1 [[I y6]])]⟩) (fun t h => by rw [Qbe] at h; cases h) (fun n9 ih t h => ?_) N (0, p1) h
   obtain ⟨y5, y6⟩ := t
   rw [Qbe] at h
   skip
   refine wx tbk [] trivial ?_
   refine wsq ?_
   rcases bft ((decide (y5 < (p0.length : Int)))) with hc10 | hc10
   ·replace h := Qav hc10 h
    refine wft hc10 (by kernel_rfl) ?_
    refine Qao ?_
    refine thn ?_
    refine wsq ?_
    refine Qak ?_
    refine wx tbk [] trivial ?_
    obtain ⟨x11, hg12, h⟩ := bno h
    obtain ⟨hi13, hj14⟩ := gsm hg12
    obtain ⟨x16, hf15, h⟩ := bno h
    refine wx tbk [(3, rp [(.tmp 12, (z6_0 p0)), (.tmp 13, I y5)] (.dptr (Qby (x11)) 0)), (5, ⟨[(.tmp 11, z6_1), (.tmp 15, (.agg [I x11.Width, I x11.Gain]))], [(0, .own 1 [[z6_3]]), (1, .own 1 [[I y6]])], B x16, [(0, .own 1 [[z6_3]]), (1, (Qw8 x11))], false⟩)] ⟨aid rfl Try.underlying32 Qn1 rfl rfl hi13 (mgt Qby hj14) rfl, Qam (first := []) (cap := [.ref 0 1 0 0]) (vs := [(.agg [I x11.Width, I x11.Gain])]) (σr := [(.own 1 [[z6_3]]), (.own 1 [[I y6]])]) (σr' := [(.own 1 [[z6_3]]), (Qw8 x11)]) (res' := (B x16)) [0, 1] rfl enter114 (Qiv N x11 y6 _ hf15) rfl (Qbi (rnc (.plain _ (NLt.agg _ (nlc nll (nlc nll nl0)))) (rnc (Qax rfl) rn0))) (slc (Qai (rnc (Qaq rn0 (rnc (Qax rfl) rn0)) rn0)) (slc (Qai (rnc (.plain _ nll) rn0)) Qal)) (slc (Qai (rnc (Qaq rn0 (rnc (Qbt rfl) rn0)) rn0)) (slc (Qai (rnc (.plain _ nll) rn0)) Qal)) (.plain _ nll) rfl rfl rfl, trivial⟩ ?_
    rcases bft (x16) with hc17 | hc17
    ·replace h := Qav hc17 h
     refine wft hc17 (by kernel_rfl) ?_
     refine wx tbk [] trivial ?_
     refine wmr (mto (n := 19) (l' := [(4, I y5)]) (own' := [(.own 1 [[z6_3]]), (Qw8 x11)]) [(4, I y5)] [0, 1] [(.own 1 [[z6_3]]), (Qw8 x11)] hφ0 (pc rwl pn) (qc (spb (lc (.rn (Qaq rn0 (rnc (rqr rfl) rn0))) ln)) (qc (spb (lc rwl ln)) qn))) ?_
     refine Qab ?_
     refine Qb2 ?_
     refine Qau ?_
     refine Qau ?_
     refine Qb2 ?_
     refine Qau ?_
     obtain rfl := osi h
     exact ⟨_, Mor.rfl, Qbx (vs := [I y5]) ⟨rot (by kernel_rfl), trivial⟩ rfl (NLt.of0 nll) (by kernel_rfl) (Qag (Qas (nlc (NLt.fn _ _ _ nl0 (nlc (NLt.ref _ _ _ _ (by decide)) nl0)) nl0)) (Qag (Qas (nlc (NLt.of0 nll) nl0)) Qa5))⟩
    ·replace h := Qaw hc17 h
     refine wfn hc17 (by kernel_rfl) ?_
     refine Qao ?_
     refine bln ?_
     refine thn ?_
     refine wx1 tbk [] trivial ?_
     refine thn ?_
     exact arm (mto (n := 19) [(0, (z6_0 p0)), (1, z6_1), (7, (I ((p0.length : Int)))), (8, (I (w64 (y5 + 1))))] [0, 1] [(.own 1 [[z6_3]]), (Qw8 x11)] hφ0 (pc (.rn (.plain _ (nld Qbc _))) (pc (.rn (Qaq rn0 (rnc (rqr rfl) rn0))) (pc rwl (pc rwl pn)))) (qc (spb (lc (.rn (Qaq rn0 (rnc (rqr rfl) rn0))) ln)) (qc (spb (lc rwl ln)) qn))) (ih (w64 (y5 + 1), x11.Gain) h)
   ·replace h := Qaw hc10 h
    refine wfn hc10 (by kernel_rfl) ?_
    refine Qbh ?_
    refine Qar ?_
    refine Qar ?_
    refine Qbg rfl ?_
    refine thn ?_
    exact ⟨(y6), h, (mto (n := 19) [] [0, 1] [(.own 1 [[z6_3]]), (.own 1 [[I y6]])] hφ0 pn (qc (spb (lc (.rn (Qaq rn0 (rnc (rqr rfl) rn0))) ln)) (qc (spb (lc rwl ln)) qn)))⟩
def Qck (N : Nat) (p0 : (List GPart)) (p1 : Int) : Option (Bool × Int) :=
  (Qcv N p0 p1).bind fun x4 =>
  some ((decide (x4.1 ≥ 0)), x4.2)
def z5_0 (p0 : (List GPart)) : AV := .dat 2 ((p0 : List GPart).map Qby)
def z5_1 : AV := .fn (.func 114) [] [(.ref 0 1 (0) 0)]
def z5_2 : AV := .fn (.func 94) [] [(.ref 1 1 (0) 0)]
set_option maxRecDepth 100000 in
set_option maxHeartbeats 4000000 in
theorem Qe0 (N : Nat) (p0 : (List GPart)) (p1 : Int) (r : (Bool × Int)) (h : Qck N p0 p1 = some r) : Spec Try.prog 113 [(z5_0 p0), z5_1] [(.own 1 [[z5_2]]), (.own 1 [[(I (p1))]])] (B (r.1)) [(.own 1 [[z5_2]]), (.own 1 [[(I (r.2))]])] := by
  refine Qac Try.func113 rfl 2 (nle rfl) (fun X φ0 w0 hφ0 => ?_)
  unfold Qck at h
  refine Qbj ?_
  refine wx tbk [] trivial ?_
  obtain ⟨x4, hf3, h⟩ := bno h
  refine wx tbk [(2, ⟨[fu 128, (.tmp 5, (z5_0 p0)), (.tmp 6, z5_1)], [(0, .own 1 [[z5_2]]), (1, .own 1 [[I p1]])], I x4.1, [(0, .own 1 [[z5_2]]), (1, .own 1 [[I x4.2]])], false⟩)] ⟨Qam (first := []) (cap := []) (vs := [(z5_0 p0), z5_1]) (σr := [(.own 1 [[z5_2]]), (.own 1 [[I p1]])]) (σr' := [(.own 1 [[z5_2]]), (.own 1 [[I x4.2]])]) (res' := (I x4.1)) [0, 1] rfl enter128 (Qfd N p0 p1 _ hf3) rfl (Qbi (rnc (.plain _ (nld Qbc _)) (rnc (Qaq rn0 (rnc (Qax rfl) rn0)) rn0))) (slc (Qai (rnc (Qaq rn0 (rnc (Qax rfl) rn0)) rn0)) (slc (Qai (rnc (.plain _ nll) rn0)) Qal)) (slc (Qai (rnc (Qaq rn0 (rnc (Qbt rfl) rn0)) rn0)) (slc (Qai (rnc (.plain _ nll) rn0)) Qal)) (.plain _ nll) rfl rfl rfl, trivial⟩ ?_
  refine wmr (mto (n := 9) (l' := [(4, (B ((decide (x4.1 ≥ 0)))))]) (own' := [(.own 1 [[z5_2]]), (.own 1 [[I x4.2]])]) [(4, (B ((decide (x4.1 ≥ 0)))))] [0, 1] [(.own 1 [[z5_2]]), (.own 1 [[I x4.2]])] hφ0 (pc rwl pn) (qc (spb (lc (.rn (Qaq rn0 (rnc (rqr rfl) rn0))) ln)) (qc (spb (lc rwl ln)) qn))) ?_
  refine Qab ?_
  obtain rfl := osi h
  exact ⟨_, Mor.rfl, Qbx (vs := [(B ((decide (x4.1 ≥ 0))))]) ⟨rot (by kernel_rfl), trivial⟩ rfl (NLt.of0 nll) (by kernel_rfl) (Qag (Qas (nlc (NLt.fn _ _ _ nl0 (nlc (NLt.ref _ _ _ _ (by decide)) nl0)) nl0)) (Qag (Qas (nlc (NLt.of0 nll) nl0)) Qa5))⟩
def Qfn (N : Nat) (p0 : (List GPart)) (p1 : Int) : Option (Bool × Int) :=
  (Qck N p0 p1).bind fun x4 =>
  some ((!x4.1), x4.2)
def z4_1 (p0 : (List GPart)) : AV := .dat 2 ((p0 : List GPart).map Qby)
def z4_0 : AV := .fn (.func 94) [] [(.ref 0 1 (0) 0)]
def z4_2 : AV := .fn (.func 114) [] [(.ref 1 1 (0) 0)]
set_option maxRecDepth 100000 in
set_option maxHeartbeats 4000000 in
theorem Qjd (N : Nat) (p0 : (List GPart)) (p1 : Int) (r : (Bool × Int)) (h : Qfn N p0 p1 = some r) : Spec Try.prog 93 [(z4_1 p0), z4_0] [(.own 1 [[(I (p1))]])] (B (r.1)) [(.own 1 [[(I (r.2))]])] := by
  refine Qac Try.func93 rfl 1 (nle rfl) (fun X φ0 w0 hφ0 => ?_)
  unfold Qfn at h
  refine Qbj ?_
  refine wx tbk [] trivial ?_
  obtain ⟨x4, hf3, h⟩ := bno h
  refine wx tbk [(1, rp [(.tmp 3, .ref 1 1 0 0)] z4_2), (2, ⟨[fu 113, (.tmp 5, (z4_1 p0)), (.tmp 6, z4_2)], [(1, .own 1 [[z4_0]]), (0, .own 1 [[I p1]])], B x4.1, [(1, .own 1 [[z4_0]]), (0, .own 1 [[I x4.2]])], false⟩)] ⟨Qdt (fs := []) (cs := [.ref 1 1 0 0]) rfl rfl rfl rfl, Qam (first := []) (cap := []) (vs := [(z4_1 p0), z4_2]) (σr := [(.own 1 [[z4_0]]), (.own 1 [[I p1]])]) (σr' := [(.own 1 [[z4_0]]), (.own 1 [[I x4.2]])]) (res' := (B x4.1)) [1, 0] rfl enter113 (Qe0 N p0 p1 _ hf3) rfl (Qbi (rnc (.plain _ (nld Qbc _)) (rnc (Qaq rn0 (rnc (Qax rfl) rn0)) rn0))) (slc (Qai (rnc (Qaq rn0 (rnc (Qax rfl) rn0)) rn0)) (slc (Qai (rnc (.plain _ nll) rn0)) Qal)) (slc (Qai (rnc (Qaq rn0 (rnc (Qbt rfl) rn0)) rn0)) (slc (Qai (rnc (.plain _ nll) rn0)) Qal)) (.plain _ nll) rfl rfl rfl, trivial⟩ ?_
  refine wmr (mto (n := 9) (l' := [(4, (B ((!x4.1))))]) (own' := [(.own 1 [[I x4.2]])]) [(4, (B ((!x4.1))))] [0] [(.own 1 [[I x4.2]])] hφ0 (pc rwl pn) (qc (spb (lc rwl ln)) qn)) ?_
  refine Qab ?_
  obtain rfl := osi h
  exact ⟨_, Mor.rfl, Qbx (vs := [(B ((!x4.1)))]) ⟨rot (by kernel_rfl), trivial⟩ rfl (NLt.of0 nll) (by kernel_rfl) (Qag (Qas (nlc (NLt.of0 nll) nl0)) Qa5)⟩
def Qd9 (N : Nat) (p0 : GUnit) : Option Bool :=
  (Qa8 N p0.Inlet 0 5).bind fun x2 =>
  bif x2 then
   (Qa8 N (p0.Parts.length : Int) 1 8).bind fun x5 =>
   bif x5 then
    (Qfn N p0.Parts 1000).bind fun x8 =>
    some x8.1
   else
    some false
  else
   some false
def z2_0 (p0 : GUnit) : AV := .dat 2 ((p0.Parts : List GPart).map Qby)
def z2_3 : AV := .fn (.func 94) [] [(.ref 1 1 (0) 0)]
set_option maxRecDepth 100000 in
set_option maxHeartbeats 4000000 in
theorem Qdr (N : Nat) (p0 : GUnit) (r : Bool) (h : Qd9 N p0 = some r) : Spec Try.prog 64 [(.agg (Qbo p0))] [] (B r) [] := by
  refine Qac Try.func64 rfl 0 (nle rfl) (fun X φ0 w0 hφ0 => ?_)
  unfold Qd9 at h
  refine wx tbk [] trivial ?_
  refine wx tbk [] trivial ?_
  obtain ⟨x2, hf1, h⟩ := bno h
  rcases bft (x2) with hb3 | hb3
  ·replace h := Qav hb3 h
   obtain ⟨x5, hf4, h⟩ := bno h
   rcases bft (x5) with hb6 | hb6
   ·replace h := Qav hb6 h
    obtain ⟨x8, hf7, h⟩ := bno h
    refine wx tbk [(2, rp [fu 65, (.tmp 5, I p0.Inlet), ci 0, ci 5] (B x2)), (3, rp [(.tmp 6, B x2)] (B true)), (6, rp [(.tmp 7, B true), (.tmp 9, (z2_0 p0))] (I ((p0.Parts.length : Int)))), (7, rp [(.tmp 7, B true), fu 65, (.tmp 10, (I ((p0.Parts.length : Int)))), ci 1, ci 8] (B x5)), (9, rp [(.tmp 12, B x5)] (B true)), (12, rp [(.tmp 13, B true), (.tmp 3, .ref 1 1 0 0)] z2_3), (13, ⟨[(.tmp 13, B true), fu 93, (.tmp 15, (z2_0 p0)), (.tmp 16, z2_3)], [(1, .own 1 [[I 1000]])], B x8.1, [(1, .own 1 [[I x8.2]])], false⟩)] ⟨apc (first := []) (cap := []) (vs := [I p0.Inlet, I 0, I 5]) rfl Qbs (Qae N p0.Inlet 0 5 _ hf1) rfl rfl (nlc nll (nlc nll (nlc nll nl0))) nll rfl, asb hb3 (amv rfl), ag_ (alm (c := Qby) (l := p0.Parts) (aln rfl Try.underlying32 rfl)), ag_ (apc (first := []) (cap := []) (vs := [(I ((p0.Parts.length : Int))), I 1, I 8]) rfl Qbs (Qae N (p0.Parts.length : Int) 1 8 _ hf4) rfl rfl (nlc nll (nlc nll (nlc nll nl0))) nll rfl), asb hb6 (amv rfl), ag_ (Qdt (fs := []) (cs := [.ref 1 1 0 0]) rfl rfl rfl rfl), ag_ (Qam (first := []) (cap := []) (vs := [(z2_0 p0), z2_3]) (σr := [(.own 1 [[I 1000]])]) (σr' := [(.own 1 [[I x8.2]])]) (res' := (B x8.1)) [1] rfl enter93 (Qjd N p0.Parts 1000 _ hf7) rfl (Qbi (rnc (.plain _ (nld Qbc _)) (rnc (Qaq rn0 (rnc (Qax rfl) rn0)) rn0))) (slc (Qai (rnc (.plain _ nll) rn0)) Qal) (slc (Qai (rnc (.plain _ nll) rn0)) Qal) (.plain _ nll) rfl rfl rfl), trivial⟩ ?_
    refine Qab ?_
    obtain rfl := osi h
    exact fend ⟨[B x8.1], ⟨rot (by kernel_rfl), trivial⟩, rfl⟩ nll
   ·replace h := Qaw hb6 h
    refine wx tbk [(2, rp [fu 65, (.tmp 5, I p0.Inlet), ci 0, ci 5] (B x2)), (3, rp [(.tmp 6, B x2)] (B true)), (6, rp [(.tmp 7, B true), (.tmp 9, (z2_0 p0))] (I ((p0.Parts.length : Int)))), (7, rp [(.tmp 7, B true), fu 65, (.tmp 10, (I ((p0.Parts.length : Int)))), ci 1, ci 8] (B x5)), (9, rp [(.tmp 12, B x5)] (B false))] ⟨apc (first := []) (cap := []) (vs := [I p0.Inlet, I 0, I 5]) rfl Qbs (Qae N p0.Inlet 0 5 _ hf1) rfl rfl (nlc nll (nlc nll (nlc nll nl0))) nll rfl, asb hb3 (amv rfl), ag_ (alm (c := Qby) (l := p0.Parts) (aln rfl Try.underlying32 rfl)), ag_ (apc (first := []) (cap := []) (vs := [(I ((p0.Parts.length : Int))), I 1, I 8]) rfl Qbs (Qae N (p0.Parts.length : Int) 1 8 _ hf4) rfl rfl (nlc nll (nlc nll (nlc nll nl0))) nll rfl), asb hb6 (amv rfl), trivial⟩ ?_
    refine Qab ?_
    obtain rfl := osi h
    exact fend ⟨[B false], ⟨rot (by kernel_rfl), trivial⟩, rfl⟩ nll
  ·replace h := Qaw hb3 h
   refine wx tbk [(2, rp [fu 65, (.tmp 5, I p0.Inlet), ci 0, ci 5] (B x2)), (3, rp [(.tmp 6, B x2)] (B false))] ⟨apc (first := []) (cap := []) (vs := [I p0.Inlet, I 0, I 5]) rfl Qbs (Qae N p0.Inlet 0 5 _ hf1) rfl rfl (nlc nll (nlc nll (nlc nll nl0))) nll rfl, asb hb3 (amv rfl), trivial⟩ ?_
   refine Qab ?_
   obtain rfl := osi h
   exact fend ⟨[B false], ⟨rot (by kernel_rfl), trivial⟩, rfl⟩ nll
def Qc5 (N : Nat) (p0 : GUnit) (k2 : Int → Option Int) : Nat → Int → Int → Option Int
  | 0, _, _ => none
  | n7 + 1, y3, y4 =>
    bif (decide (y4 < (p0.Parts.length : Int))) then
     (getI p0.Parts y4).bind fun x9 =>
     Qc5 N p0 k2 n7 (w64 (y3 + x9.Width)) (w64 (y4 + 1))
    else
     k2 (y3)
def Qd6 (N : Nat) (p0 : GUnit) : Option Int :=
  Qdu (fun y1 =>
    some y1) fun k2 : Int → Option Int =>
  Qc5 N p0 k2 N 0 0
def z9_0 (p0 : GUnit) : AV := .dat 2 ((p0.Parts : List GPart).map Qby)
set_option maxRecDepth 100000 in
set_option maxHeartbeats 4000000 in
theorem Qfp (N : Nat) (p0 : GUnit) (r : Int) (h : Qd6 N p0 = some r) : Spec Try.prog 66 [(.agg (Qbo p0))] [] (I r) [] := by
  refine Qac Try.func66 rfl 0 (nle rfl) (fun X φ0 w0 hφ0 => ?_)
  unfold Qd6 at h
  refine wx tbk [] trivial ?_
  obtain ⟨k2, hk_k2, h⟩ := jko h
  refine wjn (τ := Int) (fun t => k2 t = some r) (fun y1 => ⟨mk 18 [(2, I y1)], []⟩) (fun y1 h => ?_) ?_
  ·subst hk_k2
   refine wx tbk [] trivial ?_
   refine Qab ?_
   obtain rfl := osi h
   exact fend ⟨[I y1], ⟨rot (by kernel_rfl), trivial⟩, rfl⟩ nll
  ·skip
   refine wx tbk [(2, rp [(.tmp 6, (z9_0 p0))] (I ((p0.Parts.length : Int))))] ⟨alm (c := Qby) (l := p0.Parts) (aln rfl Try.underlying32 rfl), trivial⟩ ?_
   refine Qak ?_
   refine wmr (mto (n := 18) (l' := [(2, I 0), (6, (z9_0 p0)), (7, (I ((p0.Parts.length : Int)))), (8, I 0)]) (own' := []) [(2, I 0), (6, (z9_0 p0)), (7, (I ((p0.Parts.length : Int)))), (8, I 0)] [] [] hφ0 (pc rwl (pc (.rn (.plain _ (nld Qbc _))) (pc rwl (pc rwl pn)))) qn) ?_
   refine Qb1 (τ := Int × Int) (fun n t => Qc5 N p0 k2 n t.1 t.2 = some r) (fun ⟨y3, y4⟩ => ⟨mk 18 [(2, I y3), (6, (z9_0 p0)), (7, (I ((p0.Parts.length : Int)))), (8, I y4)], []⟩) (fun t h => by rw [Qc5] at h; cases h) (fun n7 ih t h => ?_) N (0, 0) h
   obtain ⟨y3, y4⟩ := t
   rw [Qc5] at h
   skip
   refine wx tbk [] trivial ?_
   refine wsq ?_
   rcases bft ((decide (y4 < (p0.Parts.length : Int)))) with hc8 | hc8
   ·replace h := Qav hc8 h
    refine wft hc8 (by kernel_rfl) ?_
    refine Qao ?_
    refine thn ?_
    refine wsq ?_
    refine Qak ?_
    obtain ⟨x9, hg10, h⟩ := bno h
    obtain ⟨hi11, hj12⟩ := gsm hg10
    refine wx tbk [(0, rp [(.tmp 6, (z9_0 p0)), (.tmp 8, I y4)] (.dptr (Qby (x9)) 0))] ⟨aid rfl Try.underlying32 Qn1 rfl rfl hi11 (mgt Qby hj12) rfl, trivial⟩ ?_
    refine wx1 tbk [] trivial ?_
    refine bln ?_
    refine thn ?_
    refine wx1 tbk [] trivial ?_
    refine thn ?_
    exact arm (mto (n := 18) [(2, (I (w64 (y3 + x9.Width)))), (6, (z9_0 p0)), (7, (I ((p0.Parts.length : Int)))), (8, (I (w64 (y4 + 1))))] [] [] hφ0 (pc rwl (pc (.rn (.plain _ (nld Qbc _))) (pc rwl (pc rwl pn)))) qn) (ih (w64 (y3 + x9.Width), w64 (y4 + 1)) h)
   ·replace h := Qaw hc8 h
    refine wfn hc8 (by kernel_rfl) ?_
    refine Qbh ?_
    refine Qar ?_
    refine Qar ?_
    refine Qbg rfl ?_
    refine thn ?_
    exact ⟨(y3), h, (mto (n := 18) [(2, I y3)] [] [] hφ0 (pc rwl pn) qn)⟩
def Qhc (_N : Nat) (_p0 : GUnit) (_p1 : Int) : Option Unit :=
  some ()
def Qyr : AV := .fn (.func 115) [] [(.ref 0 2 (0) 0), (.ref 1 1 (0) 0)]
def z11_1 (p0 : GUnit) : Slot := .own 2 [[(I (p0.Inlet)), (.dat 2 ((p0.Parts : List GPart).map Qby))]]
set_option maxRecDepth 100000 in
set_option maxHeartbeats 4000000 in
theorem Qk5 (N : Nat) (p0 : GUnit) (p1 : Int) (r : Unit) (h : Qhc N p0 p1 = some r) : Spec Try.prog 95 [(.agg [(I (p0.Inlet)), (.dat 2 ((p0.Parts : List GPart).map Qby))]), (I (p1))] [] Qyr [(z11_1 p0), (.own 1 [[(I (p1))]])] := by
  refine Qac Try.func95 rfl 2 (nle rfl) (fun X φ0 w0 hφ0 => ?_)
  unfold Qhc at h
  refine Qbj ?_
  refine wx tbk [] trivial ?_
  refine wx tbk [(0, rp [(.tmp 2, .ref 0 2 0 0), (.tmp 3, .ref 1 1 0 0)] Qyr)] ⟨Qdt (fs := []) (cs := [.ref 0 2 0 0, .ref 1 1 0 0]) rfl rfl rfl rfl, trivial⟩ ?_
  refine wmr (mto (n := 6) (l' := [(4, Qyr)]) (own' := [(z11_1 p0), (.own 1 [[I p1]])]) [(4, Qyr)] [0, 1] [(z11_1 p0), (.own 1 [[I p1]])] hφ0 (pc (.rn (Qaq rn0 (rnc (rqr rfl) (rnc (rqr rfl) rn0)))) pn) (qc (spb (lc rwl (lc (.rn (.plain _ (nld Qbc _))) ln))) (qc (spb (lc rwl ln)) qn))) ?_
  refine Qab ?_
  obtain rfl := osi h
  exact ⟨_, Mor.rfl, Qbx (vs := [Qyr]) ⟨rot (by kernel_rfl), trivial⟩ rfl (NLt.fn _ _ _ nl0 (nlc (NLt.ref _ _ _ _ (by decide)) (nlc (NLt.ref _ _ _ _ (by decide)) nl0))) (by kernel_rfl) (Qag (Qas (nlc (NLt.of0 nll) (nlc (NLt.of0 (nld Qbc _)) nl0))) (Qag (Qas (nlc (NLt.of0 nll) nl0)) Qa5))⟩
def Qdl (N : Nat) (p1 : (List GPart)) : Nat → Int → Int → Option (List (GPart × Int))
  | 0, _, _ => none
  | n7 + 1, y1, y2 =>
    bif (decide (y1 < (p1.length : Int))) then
     (getI p1 y1).bind fun x9 =>
     (some (if x9.Width < y2 then x9.Width else y2)).bind fun x13 =>
     yld (x9, x13) <|
     Qdl N p1 n7 (w64 (y1 + 1)) (w64 (y2 - x13))
    else
     some ([])
def Qhb (N : Nat) (_p0 : Int) (p1 : (List GPart)) (p2 : Int) : Option (List (GPart × Int)) :=
  Qdl N p1 N 0 p2
def Qtq (p1 : (List GPart)) : AV := .dat 2 ((p1 : List GPart).map Qby)
def Qyo (p0 : Int) (p1 : (List GPart)) : Slot := .own 2 [[(I (p0)), (Qtq p1)]]
def z12_9 (x9 : GPart) : AV := .agg [(I (x9.Width)), (I (x9.Gain))]
set_option maxRecDepth 100000 in
set_option maxHeartbeats 4000000 in
theorem Qk4 (N : Nat) (p0 : Int) (p1 : (List GPart)) (p2 : Int) (r : (List (GPart × Int))) (h : Qhb N p0 p1 p2 = some r) : Qre Try.prog 115 [(.ref 0 2 (0) 0), (.ref 1 1 (0) 0)] [(Qyo p0 p1), (.own 1 [[(I (p2))]])] (fun x => [(.agg #[(.int .i64 (x.1.Width)), (.int .i64 (x.1.Gain))]), (.int .i64 (x.2))]) r := by
  refine Qwi Try.func115 rfl rfl (fun X φ0 w0 l J hφ0 hy => ?_)
  unfold Qhb at h
  refine wx tbk [(2, rp [(.tmp 8, (Qtq p1))] (I ((p1.length : Int))))] ⟨alm (c := Qby) (l := p1) (aln rfl Try.underlying32 rfl), trivial⟩ ?_
  refine Qak ?_
  refine wmr (mto (n := 27) (l' := [(0, (.lit (.func (.yield l) #[] #[]))), (2, .ref 1 1 0 0), (8, (Qtq p1)), (9, (I ((p1.length : Int)))), (10, I 0)]) (own' := [(Qyo p0 p1), (.own 1 [[I p2]]), (.far (J (some (r))))]) [(0, (.lit (.func (.yield l) #[] #[]))), (2, .ref 1 1 0 0), (8, (Qtq p1)), (9, (I ((p1.length : Int)))), (10, I 0)] [0, 1, 2] [(Qyo p0 p1), (.own 1 [[I p2]]), (.far (J (some (r))))] hφ0 (pc rwl (pc (.rn (rqr rfl)) (pc (.rn (.plain _ (nld Qbc _))) (pc rwl (pc rwl pn))))) (qc (spb (lc rwl (lc (.rn (.plain _ (nld Qbc _))) ln))) (qc (spb (lc rwl ln)) (qc (.far _) qn)))) ?_
  refine Qb1 (τ := (Int × Int) × List (GPart × Int)) (fun n t => Qdl N p1 n t.1.1 t.1.2 = some t.2) (fun ⟨⟨y1, y2⟩, q3⟩ => ⟨mk 27 [(0, (.lit (.func (.yield l) #[] #[]))), (2, .ref 1 1 0 0), (8, (Qtq p1)), (9, (I ((p1.length : Int)))), (10, I y1)], [(Qyo p0 p1), (.own 1 [[I y2]]), (.far (J (some (q3))))]⟩) (fun t h => by rw [Qdl] at h; cases h) (fun n7 ih t h => ?_) N ((0, p2), r) h
  obtain ⟨⟨y1, y2⟩, q3⟩ := t
  rw [Qdl] at h
  try dsimp only at h
  refine wx tbk [] trivial ?_
  refine wsq ?_
  rcases bft ((decide (y1 < (p1.length : Int)))) with hc8 | hc8
  ·replace h := Qav hc8 h
   refine wft hc8 (by kernel_rfl) ?_
   refine Qao ?_
   refine thn ?_
   refine wsq ?_
   refine Qak ?_
   obtain ⟨x9, hg10, h⟩ := bno h
   obtain ⟨hi11, hj12⟩ := gsm hg10
   refine wx tbk [(0, rp [(.tmp 8, (Qtq p1)), (.tmp 10, I y1)] (.dptr (Qby (x9)) 0))] ⟨aid rfl Try.underlying32 Qn1 rfl rfl hi11 (mgt Qby hj12) rfl, trivial⟩ ?_
   obtain ⟨x13, hl14, h⟩ := bno h
   refine wx tbk [(3, rp [(.tmp 14, I y2), (.tmp 16, I x9.Width)] (I ((if x9.Width < y2 then x9.Width else y2)))), (4, rp [(.tmp 17, (I ((if x9.Width < y2 then x9.Width else y2))))] (I x13))] ⟨Qmy rfl, Qep hl14 (aas rfl), trivial⟩ ?_
   refine wsq ?_
   obtain ⟨q15, hy_, hq_⟩ := yld_out h
   clear h
   subst hq_
   have h := hy_
   clear hy_
   refine awp_regy 3 [mv 0 (.lit (.func (.yield l) #[] #[])), rb [(.tmp 5, .ref 3 2 0 0)] [(3, .own 2 [[I x9.Width, I x9.Gain]])] (z12_9 x9), mv 6 (I x13), ⟨[(.tmp 18, (.lit (.func (.yield l) #[] #[]))), (.tmp 19, (z12_9 x9)), (.tmp 20, I x13)], [(2, (.far (J (some ((x9, x13) :: q15)))))], B true, [(2, (.far (J (some (q15)))))], false⟩, rp [(.tmp 21, B true)] (B false)] [mv 0 (.lit (.func (.yield l) #[] #[])), rb [(.tmp 5, .ref 3 2 0 0)] [(3, .own 2 [[I x9.Width, I x9.Gain]])] (z12_9 x9), mv 6 (I x13), ⟨[(.tmp 18, (.lit (.func (.yield l) #[] #[]))), (.tmp 19, (z12_9 x9)), (.tmp 20, I x13)], [(2, (.far (J (some ((x9, x13) :: q15)))))], B false, [(2, (.far (J none)))], false⟩, rp [(.tmp 21, B false)] (B true)] (by exact ⟨by kernel_rfl, by kernel_rfl⟩) (by exact ⟨by kernel_rfl, by kernel_rfl⟩) rfl rfl rfl rfl (Qui (rd' := (.tmp 18, .lit (.func (.yield l) #[] #[])) :: [(.tmp 19, .lit (.agg #[(.int .i64 (x9.Width)), (.int .i64 (x9.Gain))])), (.tmp 20, .lit (.int .i64 (x13)))]) ⟨rfl, lrf, rfl, (Less.lits [(.int .i64 (x9.Width)), (.int .i64 (x9.Gain))]), rfl, lrf, trivial⟩ (Qsr (x := (x9, x13)) (rest := q15) rfl rfl hy rfl)) (⟨fun _ _ => amv rfl, fun _ _ => ald rfl Qn1 (by decide) rfl (nle rfl) rfl, fun _ _ => amv rfl, fun _ h => absurd rfl h, fun _ _ => Qo9 rfl, trivial⟩) (⟨fun _ _ => amv rfl, fun _ _ => ald rfl Qn1 (by decide) rfl (nle rfl) rfl, fun _ _ => amv rfl, fun _ h => absurd rfl h, fun _ _ => Qo9 rfl, trivial⟩) ?_ ?_
   ·skip
    refine Qgg (by kernel_rfl) ?_
    refine Qao ?_
    refine thn ?_
    refine wx1 tbk [] trivial ?_
    refine bln ?_
    refine thn ?_
    refine wx1 tbk [] trivial ?_
    refine thn ?_
    exact arm (mto (n := 27) [(0, (.lit (.func (.yield l) #[] #[]))), (2, .ref 1 1 0 0), (8, (Qtq p1)), (9, (I ((p1.length : Int)))), (10, (I (w64 (y1 + 1))))] [0, 1, 2] [(Qyo p0 p1), (.own 1 [[(I (w64 (y2 - x13)))]]), (.far (J (some (q15))))] hφ0 (pc rwl (pc (.rn (rqr rfl)) (pc (.rn (.plain _ (nld Qbc _))) (pc rwl (pc rwl pn))))) (qc (spb (lc rwl (lc (.rn (.plain _ (nld Qbc _))) ln))) (qc (spb (lc rwl ln)) (qc (.far _) qn)))) (ih ((w64 (y1 + 1), w64 (y2 - x13)), q15) h)
   ·clear h
    refine Qcy (by kernel_rfl) ?_
    refine Qab ?_
    refine Qau ?_
    refine Qb2 ?_
    refine Qau ?_
    refine Qau ?_
    refine Qb2 ?_
    exact Or.inr (by kernel_rfl)
  ·replace h := Qaw hc8 h
   refine wfn hc8 (by kernel_rfl) ?_
   refine Qbh ?_
   refine Qar ?_
   refine Qar ?_
   refine Qbg rfl ?_
   obtain rfl := osi h
   exact Or.inl rfl
def Qdm (N : Nat) (k2 : Int → Option Int) : (List (GPart × Int)) → Int → Option Int
  | [], y7 =>
    k2 (y7)
  | x10 :: q11, y7 =>
    Qdm N k2 q11 (w64 (y7 + (w64 (x10.1.Gain * x10.2))))
def Qfa (N : Nat) (p0 : GUnit) (p1 : Int) : Option Int :=
  Qdu (fun y1 =>
    some y1) fun k2 : Int → Option Int =>
  (Qhc N p0 p1).bind fun _ =>
  (Qhb N p0.Inlet p0.Parts p1).bind fun q5 =>
  Qdm N k2 q5 0
def z10_0 (p0 : GUnit) : AV := .dat 2 ((p0.Parts : List GPart).map Qby)
def z10_3 : AV := .fn (.func 115) [] [(.ref 2 2 (0) 0), (.ref 3 1 (0) 0)]
def Qyy (p0 : GUnit) : Slot := .own 2 [[(I (p0.Inlet)), (z10_0 p0)]]
set_option maxRecDepth 100000 in
set_option maxHeartbeats 4000000 in
theorem Qgd (N : Nat) (p0 : GUnit) (p1 : Int) (r : Int) (h : Qfa N p0 p1 = some r) : Spec Try.prog 67 [(.agg (Qbo p0)), (I p1)] [] (I r) [] := by
  refine Qac Try.func67 rfl 0 (nle rfl) (fun X φ0 w0 hφ0 => ?_)
  unfold Qfa at h
  refine wx tbk [] trivial ?_
  obtain ⟨k2, hk_k2, h⟩ := jko h
  refine wjn (τ := Int) (fun t => k2 t = some r) (fun y1 => ⟨mk 19 [(4, .ref 0 1 0 0)], [(.own 1 [[I y1]])]⟩) (fun y1 h => ?_) ?_
  ·subst hk_k2
   refine wx tbk [] trivial ?_
   refine Qab ?_
   obtain rfl := osi h
   exact fend ⟨[I y1], ⟨Qbv (n := 0) (m := 1) (j := 0) (i := 0) (xs := [[I y1]]) (by kernel_rfl) (by kernel_rfl) ti3 (by decide) rfl (nle rfl) rfl, trivial⟩, rfl⟩ nll
  ·skip
   obtain ⟨x4, hf3, h⟩ := bno h
   refine wx tbk [(2, ⟨[fu 95, (.tmp 7, (.agg [I p0.Inlet, (z10_0 p0)])), (.tmp 8, I p1)], [(2, .unused), (3, .unused)], z10_3, [(2, (Qyy p0)), (3, .own 1 [[I p1]])], false⟩)] ⟨Qam (first := []) (cap := []) (vs := [(.agg [I p0.Inlet, (z10_0 p0)]), I p1]) (σr := []) (σr' := [(Qyy p0), (.own 1 [[I p1]])]) (res' := z10_3) [2, 3] rfl enter95 (Qk5 N p0 p1 _ hf3) rfl (Qbi (rnc (.plain _ (NLt.agg _ (nlc nll (nlc (nld Qbc _) nl0)))) (rnc (.plain _ nll) rn0))) Qal (slc (Qai (rnc (.plain _ nll) (rnc (.plain _ (nld Qbc _)) rn0))) (slc (Qai (rnc (.plain _ nll) rn0)) Qal)) (Qaq rn0 (rnc (Qbt rfl) (rnc (Qbt rfl) rn0))) rfl rfl rfl, trivial⟩ ?_
   refine Qak ?_
   obtain ⟨q5, hL6, h⟩ := bno h
   refine wmr (mto (n := 19) (l' := [(4, .ref 0 1 0 0), (9, (.fn (.func 115) [] [.ref 1 2 0 0, .ref 2 1 0 0]))]) (own' := [(.own 1 [[I 0]]), (Qyy p0), (.own 1 [[I p1]])]) [(4, .ref 1 1 0 0), (9, z10_3)] [1, 2, 3] [(.own 1 [[I 0]]), (Qyy p0), (.own 1 [[I p1]])] hφ0 (pc (.rn (rqr rfl)) (pc (.rn (Qaq rn0 (rnc (rqr rfl) (rnc (rqr rfl) rn0)))) pn)) (qc (spb (lc rwl ln)) (qc (spb (lc rwl (lc (.rn (.plain _ (nld Qbc _))) ln))) (qc (spb (lc rwl ln)) qn)))) ?_
   refine Qwp (τ := (Int)) (kb := 3) (caps := [.ref 1 2 0 0, .ref 2 1 0 0]) (σr := [(Qyy p0), (.own 1 [[I p1]])]) (encs := fun x => [(.agg #[(.int .i64 (x.1.Width)), (.int .i64 (x.1.Gain))]), (.int .i64 (x.2))]) (fun x => [(.agg [I x.1.Width, I x.1.Gain]), I x.2]) [1, 2] (fun n hn => hφ0 n (Nat.le_trans (nle rfl) hn)) (Qk4 N p0.Inlet p0.Parts p1 _ hL6) enter115 (by kernel_rfl) (by kernel_rfl) (Qbi (rnc (Qbt rfl) (rnc (Qbt rfl) rn0))) (slc (Qai (rnc (.plain _ nll) (rnc (.plain _ (nld Qbc _)) rn0))) (slc (Qai (rnc (.plain _ nll) rn0)) Qal)) (by kernel_rfl) (fun _ => rfl) (fun x => ⟨(Less.unlits [(.int .i64 (x.1.Width)), (.int .i64 (x.1.Gain))]), lrf, trivial⟩) (nlt_mk (Qva (NLt.ref _ _ _ _ (by decide)) (Qva (NLt.fn _ _ _ nl0 (nlc (NLt.ref _ _ _ _ (by decide)) (nlc (NLt.ref _ _ _ _ (by decide)) nl0))) nlp_nil))) (fun y7 => [(.own 1 [[I y7]]), .dead, .dead]) (fun _ => rfl) (fun _ => rfl) (fun l t => Qdm N k2 l t = some r) (0) h (by kernel_rfl) ?_ ?_
   ·intro l12 o13 X16 φ17 w18 hφ15 x10 q11 y7 h
    rw [Qdm] at h
    refine wx tbk [] trivial ?_
    refine wx1 tbk [] trivial ?_
    refine ⟨by kernel_rfl, fun o14 => ?_⟩
    refine Qak ?_
    refine wx1 tbk [] trivial ?_
    refine bln ?_
    exact ⟨(w64 (y7 + (w64 (x10.1.Gain * x10.2)))), h, ren_to (own' := [(.own 1 [[(I ((w64 (y7 + (w64 (x10.1.Gain * x10.2))))))]]), .dead, .dead, (.far (farL l12 o14))]) [0, 1, 2, 3] [(.own 1 [[(I (w64 (y7 + (w64 (x10.1.Gain * x10.2)))))]]), .dead, .dead, (.far (farL l12 o14))] (by kernel_rfl) (by kernel_rfl) ⟨(spb (lc rwl ln)), .dead, .dead, .far _, trivial⟩⟩
   ·intro y7 h
    rw [Qdm] at h
    refine bln ?_
    refine thn ?_
    exact ⟨(y7), h, (mto (n := 19) [(4, .ref 0 1 0 0)] [0] [(.own 1 [[I y7]])] hφ0 (pc (.rn (rqr rfl)) pn) (qc (spb (lc rwl ln)) qn))⟩
def Qjg (N : Nat) (p0 : GUnit) (p1 : Int) : Option (Int × Int) :=
  (Qd9 N p0).bind fun x2 =>
  bif (!x2) then
   some (0, 1)
  else
   (Qd6 N p0).bind fun x5 =>
   (Qa8 N p1 0 x5).bind fun x7 =>
   bif (!x7) then
    some (0, 2)
   else
    (Qfa N p0 p1).bind fun x10 =>
    some (x10, 0)
def z1_2 (p0 : GUnit) : AV := .agg [(I (p0.Inlet)), (.dat 2 ((p0.Parts : List GPart).map Qby))]
set_option maxRecDepth 100000 in
set_option maxHeartbeats 4000000 in
theorem Qk7 (N : Nat) (p0 : GUnit) (p1 : Int) (r : (Int × Int)) (h : Qjg N p0 p1 = some r) : Spec Try.prog 18 [(.agg (Qbo p0)), (I p1)] [] (.tup [(I r.1), (I r.2)]) [] := by
  refine Qac Try.func18 rfl 0 (nle rfl) (fun X φ0 w0 hφ0 => ?_)
  unfold Qjg at h
  refine wx tbk [] trivial ?_
  refine wsq ?_
  refine Qak ?_
  obtain ⟨x2, hf1, h⟩ := bno h
  refine wx tbk [(1, rp [fu 64, (.tmp 7, (z1_2 p0))] (B x2))] ⟨apc (first := []) (cap := []) (vs := [(z1_2 p0)]) rfl Qnm (Qdr N p0 _ hf1) rfl rfl (nlc (NLt.agg _ (nlc nll (nlc (nld Qbc _) nl0))) nl0) nll rfl, trivial⟩ ?_
  rcases bft ((!x2)) with hc3 | hc3
  ·replace h := Qav hc3 h
   refine wft hc3 (by kernel_rfl) ?_
   refine wx tbk [] trivial ?_
   refine Qab ?_
   refine Qb2 ?_
   refine Qau ?_
   obtain rfl := osi h
   exact fend ⟨[I 0, I 1], ⟨rot (by kernel_rfl), rot (by kernel_rfl), trivial⟩, rfl⟩ (NLt.tup _ (nlc nll (nlc nll nl0)))
  ·replace h := Qaw hc3 h
   refine wfn hc3 (by kernel_rfl) ?_
   obtain ⟨x5, hf4, h⟩ := bno h
   obtain ⟨x7, hf6, h⟩ := bno h
   refine wx tbk [(2, rp [fu 66, (.tmp 12, (z1_2 p0))] (I x5)), (3, rp [fu 65, (.tmp 11, I p1), ci 0, (.tmp 13, I x5)] (B x7))] ⟨apc (first := []) (cap := []) (vs := [(z1_2 p0)]) rfl Qt2 (Qfp N p0 _ hf4) rfl rfl (nlc (NLt.agg _ (nlc nll (nlc (nld Qbc _) nl0))) nl0) nll rfl, apc (first := []) (cap := []) (vs := [I p1, I 0, I x5]) rfl Qbs (Qae N p1 0 x5 _ hf6) rfl rfl (nlc nll (nlc nll (nlc nll nl0))) nll rfl, trivial⟩ ?_
   rcases bft ((!x7)) with hc8 | hc8
   ·replace h := Qav hc8 h
    refine wft hc8 (by kernel_rfl) ?_
    refine wx tbk [] trivial ?_
    refine Qab ?_
    refine Qb2 ?_
    refine Qau ?_
    obtain rfl := osi h
    exact fend ⟨[I 0, I 2], ⟨rot (by kernel_rfl), rot (by kernel_rfl), trivial⟩, rfl⟩ (NLt.tup _ (nlc nll (nlc nll nl0)))
   ·replace h := Qaw hc8 h
    refine wfn hc8 (by kernel_rfl) ?_
    refine Qao ?_
    refine bln ?_
    refine thn ?_
    obtain ⟨x10, hf9, h⟩ := bno h
    refine wx tbk [(2, rp [fu 67, (.tmp 16, (z1_2 p0)), (.tmp 17, I p1)] (I x10))] ⟨apc (first := []) (cap := []) (vs := [(z1_2 p0), I p1]) rfl Qt1 (Qgd N p0 p1 _ hf9) rfl rfl (nlc (NLt.agg _ (nlc nll (nlc (nld Qbc _) nl0))) (nlc nll nl0)) nll rfl, trivial⟩ ?_
    refine Qab ?_
    obtain rfl := osi h
    exact fend ⟨[I x10, I 0], ⟨rot (by kernel_rfl), rot (by kernel_rfl), trivial⟩, rfl⟩ (NLt.tup _ (nlc nll (nlc nll nl0)))
def Qhg (N : Nat) (p0 : GCycle) : Option Bool :=
  (Qa8 N p0.Out 0 4000).bind fun x2 =>
  bif x2 then
   (Qa8 N p0.Yield 0 1000).bind fun x5 =>
   bif x5 then
    (Qa8 N p0.Most 0 4000000000).bind fun x8 =>
    some x8
   else
    some false
  else
   some false
set_option maxRecDepth 100000 in
set_option maxHeartbeats 4000000 in
theorem Qib (N : Nat) (p0 : GCycle) (r : Bool) (h : Qhg N p0 = some r) : Spec Try.prog 75 [(.agg (Qvp p0))] [] (B r) [] := by
  refine Qac Try.func75 rfl 0 (nle rfl) (fun X φ0 w0 hφ0 => ?_)
  unfold Qhg at h
  refine wx tbk [] trivial ?_
  obtain ⟨x2, hf1, h⟩ := bno h
  rcases bft (x2) with hb3 | hb3
  ·replace h := Qav hb3 h
   obtain ⟨x5, hf4, h⟩ := bno h
   rcases bft (x5) with hb6 | hb6
   ·replace h := Qav hb6 h
    obtain ⟨x8, hf7, h⟩ := bno h
    refine wx tbk [(2, rp [fu 65, (.tmp 4, I p0.Out), ci 0, ci 4000] (B x2)), (3, rp [(.tmp 5, B x2)] (B true)), (6, rp [(.tmp 6, B true), fu 65, (.tmp 8, I p0.Yield), ci 0, ci 1000] (B x5)), (8, rp [(.tmp 10, B x5)] (B true)), (11, rp [(.tmp 11, B true), fu 65, (.tmp 13, I p0.Most), ci 0, ci 4000000000] (B x8))] ⟨apc (first := []) (cap := []) (vs := [I p0.Out, I 0, I 4000]) rfl Qbs (Qae N p0.Out 0 4000 _ hf1) rfl rfl (nlc nll (nlc nll (nlc nll nl0))) nll rfl, asb hb3 (amv rfl), ag_ (apc (first := []) (cap := []) (vs := [I p0.Yield, I 0, I 1000]) rfl Qbs (Qae N p0.Yield 0 1000 _ hf4) rfl rfl (nlc nll (nlc nll (nlc nll nl0))) nll rfl), asb hb6 (amv rfl), ag_ (apc (first := []) (cap := []) (vs := [I p0.Most, I 0, I 4000000000]) rfl Qbs (Qae N p0.Most 0 4000000000 _ hf7) rfl rfl (nlc nll (nlc nll (nlc nll nl0))) nll rfl), trivial⟩ ?_
    refine Qab ?_
    obtain rfl := osi h
    exact fend ⟨[B x8], ⟨rot (by kernel_rfl), trivial⟩, rfl⟩ nll
   ·replace h := Qaw hb6 h
    refine wx tbk [(2, rp [fu 65, (.tmp 4, I p0.Out), ci 0, ci 4000] (B x2)), (3, rp [(.tmp 5, B x2)] (B true)), (6, rp [(.tmp 6, B true), fu 65, (.tmp 8, I p0.Yield), ci 0, ci 1000] (B x5)), (8, rp [(.tmp 10, B x5)] (B false))] ⟨apc (first := []) (cap := []) (vs := [I p0.Out, I 0, I 4000]) rfl Qbs (Qae N p0.Out 0 4000 _ hf1) rfl rfl (nlc nll (nlc nll (nlc nll nl0))) nll rfl, asb hb3 (amv rfl), ag_ (apc (first := []) (cap := []) (vs := [I p0.Yield, I 0, I 1000]) rfl Qbs (Qae N p0.Yield 0 1000 _ hf4) rfl rfl (nlc nll (nlc nll (nlc nll nl0))) nll rfl), asb hb6 (amv rfl), trivial⟩ ?_
    refine Qab ?_
    obtain rfl := osi h
    exact fend ⟨[B false], ⟨rot (by kernel_rfl), trivial⟩, rfl⟩ nll
  ·replace h := Qaw hb3 h
   refine wx tbk [(2, rp [fu 65, (.tmp 4, I p0.Out), ci 0, ci 4000] (B x2)), (3, rp [(.tmp 5, B x2)] (B false))] ⟨apc (first := []) (cap := []) (vs := [I p0.Out, I 0, I 4000]) rfl Qbs (Qae N p0.Out 0 4000 _ hf1) rfl rfl (nlc nll (nlc nll (nlc nll nl0))) nll rfl, asb hb3 (amv rfl), trivial⟩ ?_
   refine Qab ?_
   obtain rfl := osi h
   exact fend ⟨[B false], ⟨rot (by kernel_rfl), trivial⟩, rfl⟩ nll
def Qf8 (_N : Nat) (p0 : Int) (p1 : Int) (p2 : Int) : Option Bool :=
  bif (decide (p1 ≤ p0)) then
   some (decide (p0 ≤ p2))
  else
   some false
set_option maxRecDepth 100000 in
set_option maxHeartbeats 4000000 in
theorem Qc0 (N : Nat) (p0 : Int) (p1 : Int) (p2 : Int) (r : Bool) (h : Qf8 N p0 p1 p2 = some r) : Spec Try.prog 131 [(I p0), (I p1), (I p2)] [] (B r) [] := by
  refine Qac Try.func131 rfl 0 (nle rfl) (fun X φ0 w0 hφ0 => ?_)
  unfold Qf8 at h
  refine wx tbk [] trivial ?_
  rcases bft ((decide (p1 ≤ p0))) with hb1 | hb1
  ·replace h := Qav hb1 h
   refine wx tbk [(3, rp [(.tmp 9, (B ((decide (p1 ≤ p0)))))] (B true))] ⟨asb hb1 (amv rfl), trivial⟩ ?_
   refine Qab ?_
   obtain rfl := osi h
   exact fend ⟨[(B ((decide (p0 ≤ p2))))], ⟨rot (by kernel_rfl), trivial⟩, rfl⟩ nll
  ·replace h := Qaw hb1 h
   refine wx tbk [(3, rp [(.tmp 9, (B ((decide (p1 ≤ p0)))))] (B false))] ⟨asb hb1 (amv rfl), trivial⟩ ?_
   refine Qab ?_
   obtain rfl := osi h
   exact fend ⟨[B false], ⟨rot (by kernel_rfl), trivial⟩, rfl⟩ nll
def Qfg (N : Nat) (p0 : GStream) : Option Bool :=
  (Qf8 N p0.Mass 0 1000000).bind fun x2 =>
  bif x2 then
   (Qf8 N p0.Heat 0 (w64 (4000 * p0.Mass))).bind fun x5 =>
   bif x5 then
    (Qf8 N p0.Silica 0 (w64 (10000 * p0.Mass))).bind fun x8 =>
    bif x8 then
     (Qf8 N p0.Gas 0 1000000000).bind fun x11 =>
     some x11
    else
     some false
   else
    some false
  else
   some false
set_option maxRecDepth 100000 in
set_option maxHeartbeats 4000000 in
theorem Qhm (N : Nat) (p0 : GStream) (r : Bool) (h : Qfg N p0 = some r) : Spec Try.prog 120 [(.agg (Qa9 p0))] [] (B r) [] := by
  refine Qac Try.func120 rfl 0 (nle rfl) (fun X φ0 w0 hφ0 => ?_)
  unfold Qfg at h
  refine wx tbk [] trivial ?_
  obtain ⟨x2, hf1, h⟩ := bno h
  rcases bft (x2) with hb3 | hb3
  ·replace h := Qav hb3 h
   obtain ⟨x5, hf4, h⟩ := bno h
   rcases bft (x5) with hb6 | hb6
   ·replace h := Qav hb6 h
    obtain ⟨x8, hf7, h⟩ := bno h
    rcases bft (x8) with hb9 | hb9
    ·replace h := Qav hb9 h
     obtain ⟨x11, hf10, h⟩ := bno h
     refine wx tbk [(2, rp [fu 131, (.tmp 4, I p0.Mass), ci 0, ci 1000000] (B x2)), (3, rp [(.tmp 5, B x2)] (B true)), (9, rp [(.tmp 6, B true), fu 131, (.tmp 8, I p0.Heat), ci 0, (.tmp 11, (I (w64 (4000 * p0.Mass))))] (B x5)), (11, rp [(.tmp 13, B x5)] (B true)), (17, rp [(.tmp 14, B true), fu 131, (.tmp 16, I p0.Silica), ci 0, (.tmp 19, (I (w64 (10000 * p0.Mass))))] (B x8)), (19, rp [(.tmp 21, B x8)] (B true)), (22, rp [(.tmp 22, B true), fu 131, (.tmp 24, I p0.Gas), ci 0, ci 1000000000] (B x11))] ⟨apc (first := []) (cap := []) (vs := [I p0.Mass, I 0, I 1000000]) rfl Qh0 (Qc0 N p0.Mass 0 1000000 _ hf1) rfl rfl (nlc nll (nlc nll (nlc nll nl0))) nll rfl, asb hb3 (amv rfl), ag_ (apc (first := []) (cap := []) (vs := [I p0.Heat, I 0, (I (w64 (4000 * p0.Mass)))]) rfl Qh0 (Qc0 N p0.Heat 0 (w64 (4000 * p0.Mass)) _ hf4) rfl rfl (nlc nll (nlc nll (nlc nll nl0))) nll rfl), asb hb6 (amv rfl), ag_ (apc (first := []) (cap := []) (vs := [I p0.Silica, I 0, (I (w64 (10000 * p0.Mass)))]) rfl Qh0 (Qc0 N p0.Silica 0 (w64 (10000 * p0.Mass)) _ hf7) rfl rfl (nlc nll (nlc nll (nlc nll nl0))) nll rfl), asb hb9 (amv rfl), ag_ (apc (first := []) (cap := []) (vs := [I p0.Gas, I 0, I 1000000000]) rfl Qh0 (Qc0 N p0.Gas 0 1000000000 _ hf10) rfl rfl (nlc nll (nlc nll (nlc nll nl0))) nll rfl), trivial⟩ ?_
     refine Qab ?_
     obtain rfl := osi h
     exact fend ⟨[B x11], ⟨rot (by kernel_rfl), trivial⟩, rfl⟩ nll
    ·replace h := Qaw hb9 h
     refine wx tbk [(2, rp [fu 131, (.tmp 4, I p0.Mass), ci 0, ci 1000000] (B x2)), (3, rp [(.tmp 5, B x2)] (B true)), (9, rp [(.tmp 6, B true), fu 131, (.tmp 8, I p0.Heat), ci 0, (.tmp 11, (I (w64 (4000 * p0.Mass))))] (B x5)), (11, rp [(.tmp 13, B x5)] (B true)), (17, rp [(.tmp 14, B true), fu 131, (.tmp 16, I p0.Silica), ci 0, (.tmp 19, (I (w64 (10000 * p0.Mass))))] (B x8)), (19, rp [(.tmp 21, B x8)] (B false))] ⟨apc (first := []) (cap := []) (vs := [I p0.Mass, I 0, I 1000000]) rfl Qh0 (Qc0 N p0.Mass 0 1000000 _ hf1) rfl rfl (nlc nll (nlc nll (nlc nll nl0))) nll rfl, asb hb3 (amv rfl), ag_ (apc (first := []) (cap := []) (vs := [I p0.Heat, I 0, (I (w64 (4000 * p0.Mass)))]) rfl Qh0 (Qc0 N p0.Heat 0 (w64 (4000 * p0.Mass)) _ hf4) rfl rfl (nlc nll (nlc nll (nlc nll nl0))) nll rfl), asb hb6 (amv rfl), ag_ (apc (first := []) (cap := []) (vs := [I p0.Silica, I 0, (I (w64 (10000 * p0.Mass)))]) rfl Qh0 (Qc0 N p0.Silica 0 (w64 (10000 * p0.Mass)) _ hf7) rfl rfl (nlc nll (nlc nll (nlc nll nl0))) nll rfl), asb hb9 (amv rfl), trivial⟩ ?_
     refine Qab ?_
     obtain rfl := osi h
     exact fend ⟨[B false], ⟨rot (by kernel_rfl), trivial⟩, rfl⟩ nll
   ·replace h := Qaw hb6 h
    refine wx tbk [(2, rp [fu 131, (.tmp 4, I p0.Mass), ci 0, ci 1000000] (B x2)), (3, rp [(.tmp 5, B x2)] (B true)), (9, rp [(.tmp 6, B true), fu 131, (.tmp 8, I p0.Heat), ci 0, (.tmp 11, (I (w64 (4000 * p0.Mass))))] (B x5)), (11, rp [(.tmp 13, B x5)] (B false))] ⟨apc (first := []) (cap := []) (vs := [I p0.Mass, I 0, I 1000000]) rfl Qh0 (Qc0 N p0.Mass 0 1000000 _ hf1) rfl rfl (nlc nll (nlc nll (nlc nll nl0))) nll rfl, asb hb3 (amv rfl), ag_ (apc (first := []) (cap := []) (vs := [I p0.Heat, I 0, (I (w64 (4000 * p0.Mass)))]) rfl Qh0 (Qc0 N p0.Heat 0 (w64 (4000 * p0.Mass)) _ hf4) rfl rfl (nlc nll (nlc nll (nlc nll nl0))) nll rfl), asb hb6 (amv rfl), trivial⟩ ?_
    refine Qab ?_
    obtain rfl := osi h
    exact fend ⟨[B false], ⟨rot (by kernel_rfl), trivial⟩, rfl⟩ nll
  ·replace h := Qaw hb3 h
   refine wx tbk [(2, rp [fu 131, (.tmp 4, I p0.Mass), ci 0, ci 1000000] (B x2)), (3, rp [(.tmp 5, B x2)] (B false))] ⟨apc (first := []) (cap := []) (vs := [I p0.Mass, I 0, I 1000000]) rfl Qh0 (Qc0 N p0.Mass 0 1000000 _ hf1) rfl rfl (nlc nll (nlc nll (nlc nll nl0))) nll rfl, asb hb3 (amv rfl), trivial⟩ ?_
   refine Qab ?_
   obtain rfl := osi h
   exact fend ⟨[B false], ⟨rot (by kernel_rfl), trivial⟩, rfl⟩ nll
def Qg1 (N : Nat) (p0 : GStream) : Option Int :=
  (Qfg N p0).bind fun x2 =>
  bif (!x2) then
   some 1
  else
   some 0
def z21_1 (p0 : GStream) : AV := .agg [(I (p0.Mass)), (I (p0.Heat)), (I (p0.Silica)), (I (p0.Gas))]
set_option maxRecDepth 100000 in
set_option maxHeartbeats 4000000 in
theorem Qkz (N : Nat) (p0 : GStream) (r : Int) (h : Qg1 N p0 = some r) : Spec Try.prog 101 [(.agg (Qa9 p0))] [] (I r) [] := by
  refine Qac Try.func101 rfl 0 (nle rfl) (fun X φ0 w0 hφ0 => ?_)
  unfold Qg1 at h
  refine wx tbk [] trivial ?_
  refine wsq ?_
  obtain ⟨x2, hf1, h⟩ := bno h
  refine wx tbk [(1, rp [fu 120, (.tmp 3, (z21_1 p0))] (B x2))] ⟨apc (first := []) (cap := []) (vs := [(z21_1 p0)]) rfl Qvk (Qhm N p0 _ hf1) rfl rfl (nlc (NLt.agg _ (nlc nll (nlc nll (nlc nll (nlc nll nl0))))) nl0) nll rfl, trivial⟩ ?_
  rcases bft ((!x2)) with hc3 | hc3
  ·replace h := Qav hc3 h
   refine wft hc3 (by kernel_rfl) ?_
   refine wx tbk [] trivial ?_
   refine Qab ?_
   refine Qau ?_
   obtain rfl := osi h
   exact fend ⟨[I 1], ⟨rot (by kernel_rfl), trivial⟩, rfl⟩ nll
  ·replace h := Qaw hc3 h
   refine wfn hc3 (by kernel_rfl) ?_
   refine Qao ?_
   refine thn ?_
   refine wx tbk [] trivial ?_
   refine Qab ?_
   obtain rfl := osi h
   exact fend ⟨[I 0], ⟨rot (by kernel_rfl), trivial⟩, rfl⟩ nll
def Qjo (N : Nat) (p0 : GStream) : Option Bool :=
  (Qg1 N p0).bind fun x2 =>
  some (x2 == 0)
def z20_1 (p0 : GStream) : AV := .agg [(I (p0.Mass)), (I (p0.Heat)), (I (p0.Silica)), (I (p0.Gas))]
set_option maxRecDepth 100000 in
set_option maxHeartbeats 4000000 in
theorem Qng (N : Nat) (p0 : GStream) (r : Bool) (h : Qjo N p0 = some r) : Spec Try.prog 100 [(.agg (Qa9 p0))] [] (B r) [] := by
  refine Qac Try.func100 rfl 0 (nle rfl) (fun X φ0 w0 hφ0 => ?_)
  unfold Qjo at h
  refine wx tbk [] trivial ?_
  obtain ⟨x2, hf1, h⟩ := bno h
  refine wx tbk [(1, rp [fu 101, (.tmp 3, (z20_1 p0))] (I x2))] ⟨apc (first := []) (cap := []) (vs := [(z20_1 p0)]) rfl enter101 (Qkz N p0 _ hf1) rfl rfl (nlc (NLt.agg _ (nlc nll (nlc nll (nlc nll (nlc nll nl0))))) nl0) nll rfl, trivial⟩ ?_
  refine Qab ?_
  obtain rfl := osi h
  exact fend ⟨[(B ((x2 == 0)))], ⟨rot (by kernel_rfl), trivial⟩, rfl⟩ nll
def Qen (N : Nat) (p0 : GStream) : Option Bool :=
  (Qjo N p0).bind fun x3 =>
  some (!x3)
def z19_1 (p0 : GStream) : AV := .agg [(I (p0.Mass)), (I (p0.Heat)), (I (p0.Silica)), (I (p0.Gas))]
def z19_2 : Slot := .own 1 [[(.fn (.func 100) [] [])]]
set_option maxRecDepth 100000 in
set_option maxHeartbeats 4000000 in
theorem Qh9 (N : Nat) (p0 : GStream) (r : Bool) (h : Qen N p0 = some r) : Spec Try.prog 119 [(z19_1 p0), (.ref 0 1 (0) 0)] [z19_2] (B (r)) [z19_2] := by
  refine Qac Try.func119 rfl 1 (nle rfl) (fun X φ0 w0 hφ0 => ?_)
  unfold Qen at h
  refine Qbj ?_
  refine wx tbk [] trivial ?_
  obtain ⟨x3, hf2, h⟩ := bno h
  refine wx tbk [(2, rp [(.tmp 4, (.fn (.func 100) [] [])), (.tmp 5, (z19_1 p0))] (B x3))] ⟨apc (first := []) (cap := []) (vs := [(z19_1 p0)]) rfl enter100 (Qng N p0 _ hf2) rfl rfl (nlc (NLt.agg _ (nlc nll (nlc nll (nlc nll (nlc nll nl0))))) nl0) nll rfl, trivial⟩ ?_
  refine wmr (mto (n := 8) (l' := [(3, (B ((!x3))))]) (own' := [z19_2]) [(3, (B ((!x3))))] [0] [z19_2] hφ0 (pc rwl pn) (qc (spb (lc (.rn (Qaq rn0 rn0)) ln)) qn)) ?_
  refine Qab ?_
  obtain rfl := osi h
  exact ⟨_, Mor.rfl, Qbx (vs := [(B ((!x3)))]) ⟨rot (by kernel_rfl), trivial⟩ rfl (NLt.of0 nll) (by kernel_rfl) (Qag (Qas (nlc (NLt.of0 (NLt.fn _ _ _ nl0 nl0)) nl0)) Qa5)⟩
def Qa1 (N : Nat) (p0 : (List GStream)) (k2 : Unit → Option Int) : Nat → Int → Option Int
  | 0, _ => none
  | n5 + 1, y3 =>
    bif (decide (y3 < (p0.length : Int))) then
     (getI p0 y3).bind fun x7 =>
     (Qen N x7).bind fun x12 =>
     bif x12 then
      some y3
     else
      Qa1 N p0 k2 n5 (w64 (y3 + 1))
    else
     k2 ()
def Qci (N : Nat) (p0 : (List GStream)) : Option Int :=
  Qdu (fun _ =>
    some (-1)) fun k2 : Unit → Option Int =>
  Qa1 N p0 k2 N 0
def Qtm (p0 : (List GStream)) : AV := .dat 4 ((p0 : List GStream).map Qa9)
def Qwf : AV := .fn (.func 119) [] [(.ref 0 1 (0) 0)]
def Qlx : Slot := .own 1 [[(.fn (.func 100) [] [])]]
def z18_8 (x7 : GStream) : AV := .agg [(I (x7.Mass)), (I (x7.Heat)), (I (x7.Silica)), (I (x7.Gas))]
set_option maxRecDepth 100000 in
set_option maxHeartbeats 4000000 in
theorem Qet (N : Nat) (p0 : (List GStream)) (r : Int) (h : Qci N p0 = some r) : Spec Try.prog 130 [(Qtm p0), Qwf] [Qlx] (I (r)) [Qlx] := by
  refine Qac Try.func130 rfl 1 (nle rfl) (fun X φ0 w0 hφ0 => ?_)
  unfold Qci at h
  refine Qbj ?_
  refine wx tbk [] trivial ?_
  obtain ⟨k2, hk_k2, h⟩ := jko h
  refine wjn (τ := Unit) (fun t => k2 t = some r) (fun _ => ⟨mk 19 [], [Qlx]⟩) (fun t h => ?_) ?_
  ·subst hk_k2
   refine wx tbk [] trivial ?_
   refine wmr (mto (n := 19) (l' := [(4, (I ((-1))))]) (own' := [Qlx]) [(4, (I ((-1))))] [0] [Qlx] hφ0 (pc rwl pn) (qc (spb (lc (.rn (Qaq rn0 rn0)) ln)) qn)) ?_
   refine Qab ?_
   obtain rfl := osi h
   exact ⟨_, Mor.rfl, Qbx (vs := [(I ((-1)))]) ⟨rot (by kernel_rfl), trivial⟩ rfl (NLt.of0 nll) (by kernel_rfl) (Qag (Qas (nlc (NLt.of0 (NLt.fn _ _ _ nl0 nl0)) nl0)) Qa5)⟩
  ·skip
   refine wx tbk [(1, rp [(.tmp 6, (Qtm p0))] (I ((p0.length : Int))))] ⟨alm (c := Qa9) (l := p0) (aln rfl Try.underlying143 rfl), trivial⟩ ?_
   refine Qak ?_
   refine wmr (mto (n := 19) (l' := [(0, (Qtm p0)), (1, Qwf), (7, (I ((p0.length : Int)))), (8, I 0)]) (own' := [Qlx]) [(0, (Qtm p0)), (1, Qwf), (7, (I ((p0.length : Int)))), (8, I 0)] [0] [Qlx] hφ0 (pc (.rn (.plain _ (nld Qc2 _))) (pc (.rn (Qaq rn0 (rnc (rqr rfl) rn0))) (pc rwl (pc rwl pn)))) (qc (spb (lc (.rn (Qaq rn0 rn0)) ln)) qn)) ?_
   refine Qb1 (τ := Int) (fun n t => Qa1 N p0 k2 n t = some r) (fun y3 => ⟨mk 19 [(0, (Qtm p0)), (1, Qwf), (7, (I ((p0.length : Int)))), (8, I y3)], [Qlx]⟩) (fun t h => by rw [Qa1] at h; cases h) (fun n5 ih y3 h => ?_) N (0) h
   rw [Qa1] at h
   skip
   refine wx tbk [] trivial ?_
   refine wsq ?_
   rcases bft ((decide (y3 < (p0.length : Int)))) with hc6 | hc6
   ·replace h := Qav hc6 h
    refine wft hc6 (by kernel_rfl) ?_
    refine Qao ?_
    refine thn ?_
    refine wsq ?_
    refine Qak ?_
    refine wx tbk [] trivial ?_
    obtain ⟨x7, hg8, h⟩ := bno h
    obtain ⟨hi9, hj10⟩ := gsm hg8
    obtain ⟨x12, hf11, h⟩ := bno h
    refine wx tbk [(3, rp [(.tmp 12, (Qtm p0)), (.tmp 13, I y3)] (.dptr (Qa9 (x7)) 0)), (5, ⟨[(.tmp 11, Qwf), (.tmp 15, (z18_8 x7))], [(0, Qlx)], B x12, [(0, Qlx)], false⟩)] ⟨aid rfl Try.underlying143 ti60 rfl rfl hi9 (mgt Qa9 hj10) rfl, Qam (first := []) (cap := [.ref 0 1 0 0]) (vs := [(z18_8 x7)]) (σr := [Qlx]) (σr' := [Qlx]) (res' := (B x12)) [0] rfl enter119 (Qh9 N x7 _ hf11) rfl (Qbi (rnc (.plain _ (NLt.agg _ (nlc nll (nlc nll (nlc nll (nlc nll nl0)))))) (rnc (Qax rfl) rn0))) (slc (Qai (rnc (.plain _ (NLt.fn _ _ _ nl0 nl0)) rn0)) Qal) (slc (Qai (rnc (.plain _ (NLt.fn _ _ _ nl0 nl0)) rn0)) Qal) (.plain _ nll) rfl rfl rfl, trivial⟩ ?_
    rcases bft (x12) with hc13 | hc13
    ·replace h := Qav hc13 h
     refine wft hc13 (by kernel_rfl) ?_
     refine wx tbk [] trivial ?_
     refine wmr (mto (n := 19) (l' := [(4, I y3)]) (own' := [Qlx]) [(4, I y3)] [0] [Qlx] hφ0 (pc rwl pn) (qc (spb (lc (.rn (Qaq rn0 rn0)) ln)) qn)) ?_
     refine Qab ?_
     refine Qb2 ?_
     refine Qau ?_
     refine Qau ?_
     refine Qb2 ?_
     refine Qau ?_
     obtain rfl := osi h
     exact ⟨_, Mor.rfl, Qbx (vs := [I y3]) ⟨rot (by kernel_rfl), trivial⟩ rfl (NLt.of0 nll) (by kernel_rfl) (Qag (Qas (nlc (NLt.of0 (NLt.fn _ _ _ nl0 nl0)) nl0)) Qa5)⟩
    ·replace h := Qaw hc13 h
     refine wfn hc13 (by kernel_rfl) ?_
     refine Qao ?_
     refine bln ?_
     refine thn ?_
     refine wx1 tbk [] trivial ?_
     refine thn ?_
     exact arm (mto (n := 19) [(0, (Qtm p0)), (1, Qwf), (7, (I ((p0.length : Int)))), (8, (I (w64 (y3 + 1))))] [0] [Qlx] hφ0 (pc (.rn (.plain _ (nld Qc2 _))) (pc (.rn (Qaq rn0 (rnc (rqr rfl) rn0))) (pc rwl (pc rwl pn)))) (qc (spb (lc (.rn (Qaq rn0 rn0)) ln)) qn)) (ih (w64 (y3 + 1)) h)
   ·replace h := Qaw hc6 h
    refine wfn hc6 (by kernel_rfl) ?_
    refine Qbh ?_
    refine Qar ?_
    refine Qar ?_
    refine Qbg rfl ?_
    refine thn ?_
    exact ⟨(), h, (mto (n := 19) [] [0] [Qlx] hφ0 pn (qc (spb (lc (.rn (Qaq rn0 rn0)) ln)) qn))⟩
def Qce (N : Nat) (p0 : (List GStream)) : Option Bool :=
  (Qci N p0).bind fun x3 =>
  some (decide (x3 ≥ 0))
def z17_0 (p0 : (List GStream)) : AV := .dat 4 ((p0 : List GStream).map Qa9)
def z17_1 : AV := .fn (.func 119) [] [(.ref 0 1 (0) 0)]
def Qr2 : Slot := .own 1 [[(.fn (.func 100) [] [])]]
set_option maxRecDepth 100000 in
set_option maxHeartbeats 4000000 in
theorem Qei (N : Nat) (p0 : (List GStream)) (r : Bool) (h : Qce N p0 = some r) : Spec Try.prog 118 [(z17_0 p0), z17_1] [Qr2] (B (r)) [Qr2] := by
  refine Qac Try.func118 rfl 1 (nle rfl) (fun X φ0 w0 hφ0 => ?_)
  unfold Qce at h
  refine Qbj ?_
  refine wx tbk [] trivial ?_
  obtain ⟨x3, hf2, h⟩ := bno h
  refine wx tbk [(2, ⟨[fu 130, (.tmp 5, (z17_0 p0)), (.tmp 6, z17_1)], [(0, Qr2)], I x3, [(0, Qr2)], false⟩)] ⟨Qam (first := []) (cap := []) (vs := [(z17_0 p0), z17_1]) (σr := [Qr2]) (σr' := [Qr2]) (res' := (I x3)) [0] rfl Qvj (Qet N p0 _ hf2) rfl (Qbi (rnc (.plain _ (nld Qc2 _)) (rnc (Qaq rn0 (rnc (Qax rfl) rn0)) rn0))) (slc (Qai (rnc (.plain _ (NLt.fn _ _ _ nl0 nl0)) rn0)) Qal) (slc (Qai (rnc (.plain _ (NLt.fn _ _ _ nl0 nl0)) rn0)) Qal) (.plain _ nll) rfl rfl rfl, trivial⟩ ?_
  refine wmr (mto (n := 9) (l' := [(4, (B ((decide (x3 ≥ 0)))))]) (own' := [Qr2]) [(4, (B ((decide (x3 ≥ 0)))))] [0] [Qr2] hφ0 (pc rwl pn) (qc (spb (lc (.rn (Qaq rn0 rn0)) ln)) qn)) ?_
  refine Qab ?_
  obtain rfl := osi h
  exact ⟨_, Mor.rfl, Qbx (vs := [(B ((decide (x3 ≥ 0))))]) ⟨rot (by kernel_rfl), trivial⟩ rfl (NLt.of0 nll) (by kernel_rfl) (Qag (Qas (nlc (NLt.of0 (NLt.fn _ _ _ nl0 nl0)) nl0)) Qa5)⟩
def Qe2 (N : Nat) (p0 : (List GStream)) : Option Bool :=
  (Qce N p0).bind fun x2 =>
  some (!x2)
def z16_1 (p0 : (List GStream)) : AV := .dat 4 ((p0 : List GStream).map Qa9)
def z16_2 : AV := .fn (.func 119) [] [(.ref 0 1 (0) 0)]
def z16_0 : Slot := .own 1 [[(.fn (.func 100) [] [])]]
set_option maxRecDepth 100000 in
set_option maxHeartbeats 4000000 in
theorem Qit (N : Nat) (p0 : (List GStream)) (r : Bool) (h : Qe2 N p0 = some r) : Spec Try.prog 99 [(z16_1 p0), (.fn (.func 100) [] [])] [] (B (r)) [] := by
  refine Qac Try.func99 rfl 0 (nle rfl) (fun X φ0 w0 hφ0 => ?_)
  unfold Qe2 at h
  refine wx tbk [] trivial ?_
  obtain ⟨x2, hf1, h⟩ := bno h
  refine wx tbk [(1, rp [(.tmp 3, .ref 0 1 0 0)] z16_2), (2, ⟨[fu 118, (.tmp 5, (z16_1 p0)), (.tmp 6, z16_2)], [(0, z16_0)], B x2, [(0, z16_0)], false⟩)] ⟨Qdt (fs := []) (cs := [.ref 0 1 0 0]) rfl rfl rfl rfl, Qam (first := []) (cap := []) (vs := [(z16_1 p0), z16_2]) (σr := [z16_0]) (σr' := [z16_0]) (res' := (B x2)) [0] rfl Qvl (Qei N p0 _ hf1) rfl (Qbi (rnc (.plain _ (nld Qc2 _)) (rnc (Qaq rn0 (rnc (Qax rfl) rn0)) rn0))) (slc (Qai (rnc (.plain _ (NLt.fn _ _ _ nl0 nl0)) rn0)) Qal) (slc (Qai (rnc (.plain _ (NLt.fn _ _ _ nl0 nl0)) rn0)) Qal) (.plain _ nll) rfl rfl rfl, trivial⟩ ?_
  refine Qab ?_
  obtain rfl := osi h
  exact fend ⟨[(B ((!x2)))], ⟨rot (by kernel_rfl), trivial⟩, rfl⟩ nll
def Qgu (N : Nat) (p0 : (List GStream)) : Option Bool :=
  (Qe2 N p0).bind fun x2 =>
  some x2
set_option maxRecDepth 100000 in
set_option maxHeartbeats 4000000 in
theorem Qg7 (N : Nat) (p0 : (List GStream)) (r : Bool) (h : Qgu N p0 = some r) : Spec Try.prog 74 [(.dat 4 (p0.map Qa9))] [] (B r) [] := by
  refine Qac Try.func74 rfl 0 (nle rfl) (fun X φ0 w0 hφ0 => ?_)
  unfold Qgu at h
  refine wx tbk [] trivial ?_
  obtain ⟨x2, hf1, h⟩ := bno h
  refine wx tbk [(1, rp [fu 99, (.tmp 3, (.dat 4 ((p0 : List GStream).map Qa9))), fu 100] (B x2))] ⟨Qam (first := []) (cap := []) (vs := [(.dat 4 ((p0 : List GStream).map Qa9)), (.fn (.func 100) [] [])]) (σr := []) (σr' := []) (res' := (B x2)) [] rfl enter99 (Qit N p0 _ hf1) rfl (Qbi (rnc (.plain _ (nld Qc2 _)) (rnc (.plain _ (NLt.fn _ _ _ nl0 nl0)) rn0))) Qal Qal (.plain _ nll) rfl rfl rfl, trivial⟩ ?_
  refine Qab ?_
  obtain rfl := osi h
  exact fend ⟨[B x2], ⟨rot (by kernel_rfl), trivial⟩, rfl⟩ nll
def Qnh (N : Nat) (p0 : GCycle) (p1 : GStream) : Option (GStream × Int × Int × Int) :=
  Qdu (fun _ =>
    (some (if (w64 (p1.Heat - (w64 (p0.Out * p1.Mass)))) > 0 then w64 (p1.Heat - (w64 (p0.Out * p1.Mass))) else 0)).bind fun x2 =>
    (some (if x2 < p0.Most then x2 else p0.Most)).bind fun x4 =>
    (some (w64 ((w64 (x4 * p0.Yield)).tdiv 1000))).bind fun x6 =>
    some ((⟨p1.Mass, w64 (p1.Heat - x4), p1.Silica, p1.Gas⟩ : GStream), x6, w64 (x4 - x6), 0)) fun k1 : Unit → Option (GStream × Int × Int × Int) =>
  (Qhg N p0).bind fun x9 =>
  bif (!x9) then
   some ((⟨0, 0, 0, 0⟩ : GStream), 0, 0, 1)
  else
   (Qgu N ([p1])).bind fun x12 =>
   bif (!x12) then
    some ((⟨0, 0, 0, 0⟩ : GStream), 0, 0, 1)
   else
    k1 ()
def z13_0 (p0 : GCycle) : Slot := .own 3 [[(I (p0.Out)), (I (p0.Yield)), (I (p0.Most))]]
def z13_2 (p1 : GStream) : Slot := .own 4 [[(I (p1.Mass)), (I (p1.Heat)), (I (p1.Silica)), (I (p1.Gas))]]
def z13_4 : Slot := .own 4 [[(I (0)), (I (0)), (I (0)), (I (0))]]
def z13_1 (p0 : GCycle) : AV := .agg [(I (p0.Out)), (I (p0.Yield)), (I (p0.Most))]
def z13_5 : AV := .agg [(I (0)), (I (0)), (I (0)), (I (0))]
def z13_3 (p1 : GStream) : AV := .agg [(I (p1.Mass)), (I (p1.Heat)), (I (p1.Silica)), (I (p1.Gas))]
def z13_6 (p1 : GStream) : AV := .dat 4 (([p1] : List GStream).map Qa9)
set_option maxRecDepth 100000 in
set_option maxHeartbeats 4000000 in
theorem Qqr (N : Nat) (p0 : GCycle) (p1 : GStream) (r : (GStream × Int × Int × Int)) (h : Qnh N p0 p1 = some r) : Spec Try.prog 29 [(.agg (Qvp p0)), (.agg (Qa9 p1))] [] (.tup [(.agg (Qa9 r.1)), (I r.2.1), (I r.2.2.1), (I r.2.2.2)]) [] := by
  refine Qac Try.func29 rfl 0 (nle rfl) (fun X φ0 w0 hφ0 => ?_)
  unfold Qnh at h
  refine wx tbk [] trivial ?_
  obtain ⟨k1, hk_k1, h⟩ := jko h
  refine wjn (τ := Unit) (fun t => k1 t = some r) (fun _ => ⟨mk 46 [(2, .ref 0 3 0 0), (3, .ref 1 4 0 0), (4, .ref 2 4 0 0)], [(z13_0 p0), (z13_2 p1), z13_4]⟩) (fun t h => ?_) ?_
  ·subst hk_k1
   obtain ⟨x2, hl3, h⟩ := bno h
   obtain ⟨x4, hl5, h⟩ := bno h
   refine wx tbk [(10, rp [ci 0, (.tmp 28, (I (w64 (p1.Heat - (w64 (p0.Out * p1.Mass))))))] (I x2)), (11, rp [(.tmp 20, I p0.Most), (.tmp 29, I x2)] (I ((if x2 < p0.Most then x2 else p0.Most)))), (12, rp [(.tmp 30, (I ((if x2 < p0.Most then x2 else p0.Most))))] (I x4))] ⟨Qep hl3 (Qlg rfl), Qmy rfl, Qep hl5 (aas rfl), trivial⟩ ?_
   obtain ⟨x6, hl7, h⟩ := bno h
   refine wx tbk [(4, rp [(.tmp 34, (I (w64 (x4 * p0.Yield)))), ci 1000] (I (w64 ((w64 (x4 * p0.Yield)).tdiv 1000)))), (5, rp [(.tmp 35, (I (w64 ((w64 (x4 * p0.Yield)).tdiv 1000))))] (I x6))] ⟨astep_quo rfl (by decide), Qep hl7 (aas rfl), trivial⟩ ?_
   refine wx tbk [] trivial ?_
   refine wx tbk [] trivial ?_
   refine Qab ?_
   obtain rfl := osi h
   exact fend ⟨[(.agg [I p1.Mass, (I (w64 (p1.Heat - x4))), I p1.Silica, I p1.Gas]), I x6, (I (w64 (x4 - x6))), I 0], ⟨Qbv (n := 2) (m := 4) (j := 0) (i := 0) (xs := [[I p1.Mass, (I (w64 (p1.Heat - x4))), I p1.Silica, I p1.Gas]]) (by kernel_rfl) (by kernel_rfl) ti60 (by decide) rfl (nle rfl) rfl, rot (by kernel_rfl), rot (by kernel_rfl), rot (by kernel_rfl), trivial⟩, rfl⟩ (NLt.tup _ (nlc (NLt.agg _ (nlc nll (nlc nll (nlc nll (nlc nll nl0))))) (nlc nll (nlc nll (nlc nll nl0)))))
  ·skip
   obtain ⟨x9, hf8, h⟩ := bno h
   rcases bft ((!x9)) with hb10 | hb10
   ·replace h := Qav hb10 h
    refine wx tbk [(1, rp [fu 75, (.tmp 9, (z13_1 p0))] (B x9)), (3, rp [(.tmp 11, (B ((!x9))))] (B true))] ⟨apc (first := []) (cap := []) (vs := [(z13_1 p0)]) rfl enter75 (Qib N p0 _ hf8) rfl rfl (nlc (NLt.agg _ (nlc nll (nlc nll (nlc nll nl0)))) nl0) nll rfl, asb hb10 (amv rfl), trivial⟩ ?_
    refine Qcy (by kernel_rfl) ?_
    refine wx tbk [(0, rp [] z13_5)] ⟨Qaj (vs := []) rfl ts60 tz60 rfl (by rfl) rfl, trivial⟩ ?_
    refine Qab ?_
    refine Qau ?_
    obtain rfl := osi h
    exact fend ⟨[z13_5, I 0, I 0, I 1], ⟨Qbv (n := 2) (m := 4) (j := 0) (i := 0) (xs := [[I 0, I 0, I 0, I 0]]) (by kernel_rfl) (by kernel_rfl) ti60 (by decide) rfl (nle rfl) rfl, rot (by kernel_rfl), rot (by kernel_rfl), rot (by kernel_rfl), trivial⟩, rfl⟩ (NLt.tup _ (nlc (NLt.agg _ (nlc nll (nlc nll (nlc nll (nlc nll nl0))))) (nlc nll (nlc nll (nlc nll nl0)))))
   ·replace h := Qaw hb10 h
    obtain ⟨x12, hf11, h⟩ := bno h
    refine wx tbk [(1, rp [fu 75, (.tmp 9, (z13_1 p0))] (B x9)), (3, rp [(.tmp 11, (B ((!x9))))] (B false)), (5, rp [(.tmp 12, B false), (.tmp 13, (z13_3 p1))] (z13_6 p1)), (6, rp [(.tmp 12, B false), fu 74, (.tmp 14, (z13_6 p1))] (B x12))] ⟨apc (first := []) (cap := []) (vs := [(z13_1 p0)]) rfl enter75 (Qib N p0 _ hf8) rfl rfl (nlc (NLt.agg _ (nlc nll (nlc nll (nlc nll nl0)))) nl0) nll rfl, asb hb10 (amv rfl), ag_ (Qbk (vs := [(z13_3 p1)]) rfl Try.underlying143 ti60 tz60 rfl (by decide) rfl (by decide) (by rfl) (by rfl) (by rfl) rfl), ag_ (apc (first := []) (cap := []) (vs := [(z13_6 p1)]) rfl Qqx (Qg7 N ([p1]) _ hf11) rfl rfl (nlc (nld Qc2 _) nl0) nll rfl), trivial⟩ ?_
    rcases bft ((!x12)) with hc13 | hc13
    ·replace h := Qav hc13 h
     refine wft hc13 (by kernel_rfl) ?_
     refine wx tbk [(0, rp [] z13_5)] ⟨Qaj (vs := []) rfl ts60 tz60 rfl (by rfl) rfl, trivial⟩ ?_
     refine Qab ?_
     refine Qau ?_
     obtain rfl := osi h
     exact fend ⟨[z13_5, I 0, I 0, I 1], ⟨Qbv (n := 2) (m := 4) (j := 0) (i := 0) (xs := [[I 0, I 0, I 0, I 0]]) (by kernel_rfl) (by kernel_rfl) ti60 (by decide) rfl (nle rfl) rfl, rot (by kernel_rfl), rot (by kernel_rfl), rot (by kernel_rfl), trivial⟩, rfl⟩ (NLt.tup _ (nlc (NLt.agg _ (nlc nll (nlc nll (nlc nll (nlc nll nl0))))) (nlc nll (nlc nll (nlc nll nl0)))))
    ·replace h := Qaw hc13 h
     refine wfn hc13 (by kernel_rfl) ?_
     refine Qao ?_
     refine thn ?_
     exact ⟨(), h, (mto (n := 46) [(2, .ref 0 3 0 0), (3, .ref 1 4 0 0), (4, .ref 2 4 0 0)] [0, 1, 2] [(z13_0 p0), (z13_2 p1), z13_4] hφ0 (pc (.rn (rqr rfl)) (pc (.rn (rqr rfl)) (pc (.rn (rqr rfl)) pn))) (qc (spb (lc rwl (lc rwl (lc rwl ln)))) (qc (spb (lc rwl (lc rwl (lc rwl (lc rwl ln))))) (qc (spb (lc rwl (lc rwl (lc rwl (lc rwl ln))))) qn))))⟩
end Go.Proofs.Ytlhakkkjgdbdpaa
