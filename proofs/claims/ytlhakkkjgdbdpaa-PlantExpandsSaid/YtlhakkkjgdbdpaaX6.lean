/-
  Functions of the program: what they compute, as plain functions, and that they do. No conditions.
-/
import Derived.Test.YtlhakkkjgdbdpaaX5
namespace Go.Proofs.Ytlhakkkjgdbdpaa
open Go.RowKit

def Qfh (_N : Nat) (p0 : Int) (p1 : Int) (p2 : Int) : Option Bool :=
  bif (decide (p0 ≥ p1)) then
   some (decide (p0 ≤ p2))
  else
   some false
set_option maxRecDepth 100000 in
set_option maxHeartbeats 4000000 in
theorem Qb7 (N : Nat) (p0 : Int) (p1 : Int) (p2 : Int) (r : Bool) (h : Qfh N p0 p1 p2 = some r) : Spec Try.prog 25 [(I p0), (I p1), (I p2)] [] (B r) [] := by
  refine Qae Try.func25 rfl 0 (nle rfl) (fun X φ0 w0 hφ0 => ?_)
  unfold Qfh at h
  refine wrg [mc (.bool false)] ?_ ?_
  ·exact ⟨aas rfl, trivial⟩
  rcases bft ((decide (p0 ≥ p1))) with hb1 | hb1
  ·replace h := Qa2 hb1 h
   refine wrg [mv 0 (I p0), mv 1 (I p1), rp [(.tmp 7, I p0), (.tmp 8, I p1)] (B ((decide (p0 ≥ p1)))), rp [(.tmp 9, (B ((decide (p0 ≥ p1)))))] (B true), rp [(.tmp 10, B true), (.tmp 0, I p0)] (I p0), rp [(.tmp 10, B true), (.tmp 2, I p2)] (I p2), rp [(.tmp 10, B true), (.tmp 11, I p0), (.tmp 12, I p2)] (B ((decide (p0 ≤ p2)))), rp [(.tmp 10, B true), (.tmp 13, (B ((decide (p0 ≤ p2))))), cb false] (B ((decide (p0 ≤ p2)))), mv 14 (B ((decide (p0 ≤ p2))))] ?_ ?_
   ·exact ⟨amv rfl, amv rfl, abn rfl rfl, asb hb1 (amv rfl), ag_ (amv rfl), ag_ (amv rfl), ag_ (abn rfl rfl), apk rfl rfl, aas rfl, trivial⟩
   refine Qaf ?_
   obtain rfl := osi h
   exact ⟨⟨[(B ((decide (p0 ≤ p2))))], ⟨rot (by kernel_rfl), trivial⟩, rfl⟩, nll, Nat.le_refl _, fun n hn => absurd hn (Nat.not_lt_zero n)⟩
  ·replace h := Qa3 hb1 h
   refine wrg [mv 0 (I p0), mv 1 (I p1), rp [(.tmp 7, I p0), (.tmp 8, I p1)] (B ((decide (p0 ≥ p1)))), rp [(.tmp 9, (B ((decide (p0 ≥ p1)))))] (B false), sk 10 (B false), sk 10 (B false), sk 10 (B false), rp [(.tmp 10, B false), (.tmp 13, (.lit undef)), cb false] (B false), mv 14 (B false)] ?_ ?_
   ·exact ⟨amv rfl, amv rfl, abn rfl rfl, asb hb1 (amv rfl), trivial, trivial, trivial, apk rfl rfl, aas rfl, trivial⟩
   refine Qaf ?_
   obtain rfl := osi h
   exact ⟨⟨[B false], ⟨rot (by kernel_rfl), trivial⟩, rfl⟩, nll, Nat.le_refl _, fun n hn => absurd hn (Nat.not_lt_zero n)⟩

def Qdf (N : Nat) (p0 : GUnit) (k1 : Unit → Option Bool) : Nat → Int → Option Bool
  | 0, _ => none
  | n8 + 1, y6 =>
    bif (decide (y6 < (p0.Parts.length : Int))) then
     (getI p0.Parts y6).bind fun x10 =>
     (Qfh N x10.Width 1 100000).bind fun x15 =>
     bif (!x15) then
      some false
     else
      (Qfh N x10.Gain 0 1000).bind fun x18 =>
      bif (!x18) then
       some false
      else
       bif (decide (y6 > 0)) then
        (getI p0.Parts (w64 (y6 - 1))).bind fun x21 =>
        bif (decide (x10.Gain > x21.Gain)) then
         some false
        else
         Qdf N p0 k1 n8 (w64 (y6 + 1))
       else
        Qdf N p0 k1 n8 (w64 (y6 + 1))
    else
     k1 ()
def Qhr (N : Nat) (p0 : GUnit) : Option Bool :=
  Qc5 (fun _ =>
    (Qfh N p0.Inlet 0 5).bind fun x3 =>
    bif x3 then
     bif (decide ((p0.Parts.length : Int) ≥ 1)) then
      some (decide ((p0.Parts.length : Int) ≤ 8))
     else
      some false
    else
     some false) fun k1 : Unit → Option Bool =>
  Qdf N p0 k1 N 0
def Qfn (p0 : GUnit) : AV := .dat 2 ((p0.Parts : List GPart).map Qap)
set_option maxRecDepth 100000 in
set_option maxHeartbeats 4000000 in
theorem ref07_RightX_ok (N : Nat) (p0 : GUnit) (r : Bool) (h : Qhr N p0 = some r) : Spec Try.prog 15 [(.agg (Qat p0))] [] (B r) [] := by
  refine Qae Try.func15 rfl 0 (nle rfl) (fun X φ0 w0 hφ0 => ?_)
  unfold Qhr at h
  refine wrg [⟨[(.tmp 0, (.agg [I p0.Inlet, (Qfn p0)]))], [(0, .unused)], .ref 0 2 0 0, [(0, (.own 2 [[I p0.Inlet, (Qfn p0)]]))], false⟩, mc (.bool false)] ?_ ?_
  ·exact ⟨Qa0 rfl (by rfl) rfl rfl, aas rfl, trivial⟩
  obtain ⟨k1, hk_k1, h⟩ := jko h
  refine wjn (τ := Unit) (fun t => k1 t = some r) (fun _ => ⟨mk 58 [(1, .ref 0 2 0 0)], [(.own 2 [[I p0.Inlet, (Qfn p0)]])]⟩) (fun t h => ?_) ?_
  ·subst hk_k1
   obtain ⟨x3, hf2, h⟩ := bno h
   rcases bft (x3) with hb4 | hb4
   ·replace h := Qa2 hb4 h
    rcases bft ((decide ((p0.Parts.length : Int) ≥ 1))) with hb5 | hb5
    ·replace h := Qa2 hb5 h
     refine wrg [rb [(.tmp 1, .ref 0 2 0 0)] [(0, (.own 2 [[I p0.Inlet, (Qfn p0)]]))] (.ref 0 2 0 0), rb [(.tmp 43, .ref 0 2 0 0)] [(0, (.own 2 [[I p0.Inlet, (Qfn p0)]]))] (I p0.Inlet), rp [fu 25, (.tmp 44, I p0.Inlet), ci 0, ci 5] (B x3), rp [(.tmp 45, B x3)] (B true), rb [(.tmp 46, B true), (.tmp 1, .ref 0 2 0 0)] [(0, (.own 2 [[I p0.Inlet, (Qfn p0)]]))] (.ref 0 2 0 1), rb [(.tmp 46, B true), (.tmp 47, .ref 0 2 0 1)] [(0, (.own 2 [[I p0.Inlet, (Qfn p0)]]))] (Qfn p0), rp [(.tmp 46, B true), (.tmp 48, (Qfn p0))] (I ((p0.Parts.length : Int))), rp [(.tmp 46, B true), (.tmp 49, (I ((p0.Parts.length : Int)))), ci 1] (B ((decide ((p0.Parts.length : Int) ≥ 1)))), rp [(.tmp 46, B true), (.tmp 50, (B ((decide ((p0.Parts.length : Int) ≥ 1))))), cb false] (B ((decide ((p0.Parts.length : Int) ≥ 1)))), rp [(.tmp 51, (B ((decide ((p0.Parts.length : Int) ≥ 1)))))] (B true), rb [(.tmp 52, B true), (.tmp 1, .ref 0 2 0 0)] [(0, (.own 2 [[I p0.Inlet, (Qfn p0)]]))] (.ref 0 2 0 1), rb [(.tmp 52, B true), (.tmp 53, .ref 0 2 0 1)] [(0, (.own 2 [[I p0.Inlet, (Qfn p0)]]))] (Qfn p0), rp [(.tmp 52, B true), (.tmp 54, (Qfn p0))] (I ((p0.Parts.length : Int))), rp [(.tmp 52, B true), (.tmp 55, (I ((p0.Parts.length : Int)))), ci 8] (B ((decide ((p0.Parts.length : Int) ≤ 8)))), rp [(.tmp 52, B true), (.tmp 56, (B ((decide ((p0.Parts.length : Int) ≤ 8))))), cb false] (B ((decide ((p0.Parts.length : Int) ≤ 8)))), mv 57 (B ((decide ((p0.Parts.length : Int) ≤ 8))))] ?_ ?_
     ·exact ⟨afa rfl Try.underlying24 rfl rfl ti3 (by decide) rfl, ald rfl ti3 (by decide) rfl (nle rfl) rfl, apc (first := []) (cap := []) (vs := [I p0.Inlet, I 0, I 5]) rfl Qfd (Qb7 N p0.Inlet 0 5 _ hf2) rfl rfl (nlc nll (nlc nll (nlc nll nl0))) nll rfl, asb hb4 (amv rfl), ag_ (afa rfl Try.underlying24 rfl rfl ti22 (by decide) rfl), ag_ (ald rfl ti22 (by decide) rfl (nle rfl) rfl), ag_ (alm (c := Qap) (l := p0.Parts) (aln rfl Try.underlying22 rfl)), ag_ (abn rfl rfl), apk rfl rfl, asb hb5 (amv rfl), ag_ (afa rfl Try.underlying24 rfl rfl ti22 (by decide) rfl), ag_ (ald rfl ti22 (by decide) rfl (nle rfl) rfl), ag_ (alm (c := Qap) (l := p0.Parts) (aln rfl Try.underlying22 rfl)), ag_ (abn rfl rfl), apk rfl rfl, aas rfl, trivial⟩
     refine Qaf ?_
     obtain rfl := osi h
     exact ⟨⟨[(B ((decide ((p0.Parts.length : Int) ≤ 8))))], ⟨rot (by kernel_rfl), trivial⟩, rfl⟩, nll, Nat.le_refl _, fun n hn => absurd hn (Nat.not_lt_zero n)⟩
    ·replace h := Qa3 hb5 h
     refine wrg [rb [(.tmp 1, .ref 0 2 0 0)] [(0, (.own 2 [[I p0.Inlet, (Qfn p0)]]))] (.ref 0 2 0 0), rb [(.tmp 43, .ref 0 2 0 0)] [(0, (.own 2 [[I p0.Inlet, (Qfn p0)]]))] (I p0.Inlet), rp [fu 25, (.tmp 44, I p0.Inlet), ci 0, ci 5] (B x3), rp [(.tmp 45, B x3)] (B true), rb [(.tmp 46, B true), (.tmp 1, .ref 0 2 0 0)] [(0, (.own 2 [[I p0.Inlet, (Qfn p0)]]))] (.ref 0 2 0 1), rb [(.tmp 46, B true), (.tmp 47, .ref 0 2 0 1)] [(0, (.own 2 [[I p0.Inlet, (Qfn p0)]]))] (Qfn p0), rp [(.tmp 46, B true), (.tmp 48, (Qfn p0))] (I ((p0.Parts.length : Int))), rp [(.tmp 46, B true), (.tmp 49, (I ((p0.Parts.length : Int)))), ci 1] (B ((decide ((p0.Parts.length : Int) ≥ 1)))), rp [(.tmp 46, B true), (.tmp 50, (B ((decide ((p0.Parts.length : Int) ≥ 1))))), cb false] (B ((decide ((p0.Parts.length : Int) ≥ 1)))), rp [(.tmp 51, (B ((decide ((p0.Parts.length : Int) ≥ 1)))))] (B false), sk 52 (B false), sk 52 (B false), sk 52 (B false), sk 52 (B false), rp [(.tmp 52, B false), (.tmp 56, (.lit undef)), cb false] (B false), mv 57 (B false)] ?_ ?_
     ·exact ⟨afa rfl Try.underlying24 rfl rfl ti3 (by decide) rfl, ald rfl ti3 (by decide) rfl (nle rfl) rfl, apc (first := []) (cap := []) (vs := [I p0.Inlet, I 0, I 5]) rfl Qfd (Qb7 N p0.Inlet 0 5 _ hf2) rfl rfl (nlc nll (nlc nll (nlc nll nl0))) nll rfl, asb hb4 (amv rfl), ag_ (afa rfl Try.underlying24 rfl rfl ti22 (by decide) rfl), ag_ (ald rfl ti22 (by decide) rfl (nle rfl) rfl), ag_ (alm (c := Qap) (l := p0.Parts) (aln rfl Try.underlying22 rfl)), ag_ (abn rfl rfl), apk rfl rfl, asb hb5 (amv rfl), trivial, trivial, trivial, trivial, apk rfl rfl, aas rfl, trivial⟩
     refine Qaf ?_
     obtain rfl := osi h
     exact ⟨⟨[B false], ⟨rot (by kernel_rfl), trivial⟩, rfl⟩, nll, Nat.le_refl _, fun n hn => absurd hn (Nat.not_lt_zero n)⟩
   ·replace h := Qa3 hb4 h
    refine wrg [rb [(.tmp 1, .ref 0 2 0 0)] [(0, (.own 2 [[I p0.Inlet, (Qfn p0)]]))] (.ref 0 2 0 0), rb [(.tmp 43, .ref 0 2 0 0)] [(0, (.own 2 [[I p0.Inlet, (Qfn p0)]]))] (I p0.Inlet), rp [fu 25, (.tmp 44, I p0.Inlet), ci 0, ci 5] (B x3), rp [(.tmp 45, B x3)] (B false), sk 46 (B false), sk 46 (B false), sk 46 (B false), sk 46 (B false), rp [(.tmp 46, B false), (.tmp 50, (.lit undef)), cb false] (B false), mv 51 (B false), sk 52 (B false), sk 52 (B false), sk 52 (B false), sk 52 (B false), rp [(.tmp 52, B false), (.tmp 56, (.lit undef)), cb false] (B false), mv 57 (B false)] ?_ ?_
    ·exact ⟨afa rfl Try.underlying24 rfl rfl ti3 (by decide) rfl, ald rfl ti3 (by decide) rfl (nle rfl) rfl, apc (first := []) (cap := []) (vs := [I p0.Inlet, I 0, I 5]) rfl Qfd (Qb7 N p0.Inlet 0 5 _ hf2) rfl rfl (nlc nll (nlc nll (nlc nll nl0))) nll rfl, asb hb4 (amv rfl), trivial, trivial, trivial, trivial, apk rfl rfl, amv rfl, trivial, trivial, trivial, trivial, apk rfl rfl, aas rfl, trivial⟩
    refine Qaf ?_
    obtain rfl := osi h
    exact ⟨⟨[B false], ⟨rot (by kernel_rfl), trivial⟩, rfl⟩, nll, Nat.le_refl _, fun n hn => absurd hn (Nat.not_lt_zero n)⟩
  ·skip
   refine wrg [mc (.int .i64 0)] ?_ ?_
   ·exact ⟨aas rfl, trivial⟩
   refine Qal ?_
   refine wmr (mto (n := 58) (l' := [(1, .ref 0 2 0 0), (3, I 0)]) (own' := [(.own 2 [[I p0.Inlet, (Qfn p0)]])]) [(1, .ref 0 2 0 0), (3, I 0)] [0] [(.own 2 [[I p0.Inlet, (Qfn p0)]])] hφ0 (pc (.rn (rqr rfl)) (pc rwl pn)) (qc (spb (lc rwl (lc (.rn (.plain _ (nld Qa8 _))) ln))) qn)) ?_
   refine Qci (τ := Int) (fun n t => Qdf N p0 k1 n t = some r) (fun y6 => ⟨mk 58 [(1, .ref 0 2 0 0), (3, I y6)], [(.own 2 [[I p0.Inlet, (Qfn p0)]])]⟩) (fun t h => by rw [Qdf] at h; cases h) (fun n8 ih y6 h => ?_) N (0) h
   rw [Qdf] at h
   skip
   refine wsq ?_
   refine wrg [mv 3 (I y6), rb [(.tmp 1, .ref 0 2 0 0)] [(0, (.own 2 [[I p0.Inlet, (Qfn p0)]]))] (.ref 0 2 0 1), rb [(.tmp 6, .ref 0 2 0 1)] [(0, (.own 2 [[I p0.Inlet, (Qfn p0)]]))] (Qfn p0), rp [(.tmp 7, (Qfn p0))] (I ((p0.Parts.length : Int))), rp [(.tmp 5, I y6), (.tmp 8, (I ((p0.Parts.length : Int))))] (B ((decide (y6 < (p0.Parts.length : Int)))))] ?_ ?_
   ·exact ⟨amv rfl, afa rfl Try.underlying24 rfl rfl ti22 (by decide) rfl, ald rfl ti22 (by decide) rfl (nle rfl) rfl, alm (c := Qap) (l := p0.Parts) (aln rfl Try.underlying22 rfl), abn rfl rfl, trivial⟩
   rcases bft ((decide (y6 < (p0.Parts.length : Int)))) with hc9 | hc9
   ·replace h := Qa2 hc9 h
    refine wft hc9 (by kernel_rfl) ?_
    refine Qao ?_
    refine thn ?_
    refine wsq ?_
    refine Qal ?_
    obtain ⟨x10, hg11, h⟩ := bno h
    obtain ⟨hi12, hj13⟩ := gsm hg11
    refine wrg [rb [(.tmp 1, .ref 0 2 0 0)] [(0, (.own 2 [[I p0.Inlet, (Qfn p0)]]))] (.ref 0 2 0 1), rb [(.tmp 12, .ref 0 2 0 1)] [(0, (.own 2 [[I p0.Inlet, (Qfn p0)]]))] (Qfn p0), mv 3 (I y6), rp [(.tmp 13, (Qfn p0)), (.tmp 14, I y6)] (.dptr (Qap (x10)) 0), rp [(.tmp 15, (.dptr (Qap (x10)) 0))] (.agg [I x10.Width, I x10.Gain]), ⟨[], [(1, .unused)], .ref 1 2 0 0, [(1, .own 2 [[I 0, I 0]])], false⟩, ⟨[(.tmp 4, .ref 1 2 0 0), (.tmp 16, (.agg [I x10.Width, I x10.Gain]))], [(1, .own 2 [[I 0, I 0]])], .any, [(1, .own 2 [[I x10.Width, I x10.Gain]])], false⟩] ?_ ?_
    ·exact ⟨afa rfl Try.underlying24 rfl rfl ti22 (by decide) rfl, ald rfl ti22 (by decide) rfl (nle rfl) rfl, amv rfl, aid rfl Try.underlying22 ti115 rfl rfl hi12 (mgt Qap hj13) rfl, ald_ rfl ti115 (by decide) (nle rfl) rfl, Qa5 rfl tz115 rfl, ast rfl ti115 (by rfl) rfl (nle rfl) rfl, trivial⟩
    obtain ⟨x15, hf14, h⟩ := bno h
    rcases bft ((!x15)) with hb16 | hb16
    ·replace h := Qa2 hb16 h
     refine Qcq [rb [(.tmp 4, .ref 1 2 0 0)] [(1, .own 2 [[I x10.Width, I x10.Gain]])] (.ref 1 2 0 0), rb [(.tmp 17, .ref 1 2 0 0)] [(1, .own 2 [[I x10.Width, I x10.Gain]])] (I x10.Width), rp [fu 25, (.tmp 18, I x10.Width), ci 1, ci 100000] (B x15), rp [(.tmp 19, B x15)] (B ((!x15))), rp [(.tmp 20, (B ((!x15))))] (B true), sk 21 (B true), sk 21 (B true), sk 21 (B true), sk 21 (B true), rp [(.tmp 21, B true), cb true, (.tmp 25, (.lit undef))] (B true), mv 26 (B true), sk 27 (B true), sk 27 (B true), sk 27 (B true), sk 30 (.lit undef), sk 30 (.lit undef), sk 30 (.lit undef), sk 30 (.lit undef), sk 30 (.lit undef), sk 30 (.lit undef), sk 30 (.lit undef), sk 30 (.lit undef), sk 30 (.lit undef), sk 30 (.lit undef), sk 27 (B true), rp [(.tmp 27, B true), cb true, (.tmp 41, (.lit undef))] (B true)] ?_ ?_
     ·exact ⟨afa rfl Try.underlying115 rfl rfl ti3 (by decide) rfl, ald rfl ti3 (by decide) rfl (nle rfl) rfl, apc (first := []) (cap := []) (vs := [I x10.Width, I 1, I 100000]) rfl Qfd (Qb7 N x10.Width 1 100000 _ hf14) rfl rfl (nlc nll (nlc nll (nlc nll nl0))) nll rfl, Qa6 rfl, asb hb16 (amv rfl), trivial, trivial, trivial, trivial, apk rfl rfl, amv rfl, trivial, trivial, trivial, trivial, trivial, trivial, trivial, trivial, trivial, trivial, trivial, trivial, trivial, trivial, apk rfl rfl, trivial⟩
     refine Qeq (by kernel_rfl) ?_
     refine wrg [mc (.bool false)] ?_ ?_
     ·exact ⟨aas rfl, trivial⟩
     refine Qaf ?_
     refine Qcp ?_
     refine Qa7 ?_
     refine Qa7 ?_
     refine Qcp ?_
     refine Qa7 ?_
     obtain rfl := osi h
     exact ⟨⟨[B false], ⟨rot (by kernel_rfl), trivial⟩, rfl⟩, nll, Nat.le_refl _, fun n hn => absurd hn (Nat.not_lt_zero n)⟩
    ·replace h := Qa3 hb16 h
     obtain ⟨x18, hf17, h⟩ := bno h
     rcases bft ((!x18)) with hb19 | hb19
     ·replace h := Qa2 hb19 h
      refine Qcq [rb [(.tmp 4, .ref 1 2 0 0)] [(1, .own 2 [[I x10.Width, I x10.Gain]])] (.ref 1 2 0 0), rb [(.tmp 17, .ref 1 2 0 0)] [(1, .own 2 [[I x10.Width, I x10.Gain]])] (I x10.Width), rp [fu 25, (.tmp 18, I x10.Width), ci 1, ci 100000] (B x15), rp [(.tmp 19, B x15)] (B ((!x15))), rp [(.tmp 20, (B ((!x15))))] (B false), rb [(.tmp 21, B false), (.tmp 4, .ref 1 2 0 0)] [(1, .own 2 [[I x10.Width, I x10.Gain]])] (.ref 1 2 0 1), rb [(.tmp 21, B false), (.tmp 22, .ref 1 2 0 1)] [(1, .own 2 [[I x10.Width, I x10.Gain]])] (I x10.Gain), rp [(.tmp 21, B false), fu 25, (.tmp 23, I x10.Gain), ci 0, ci 1000] (B x18), rp [(.tmp 21, B false), (.tmp 24, B x18)] (B ((!x18))), rp [(.tmp 21, B false), cb true, (.tmp 25, (B ((!x18))))] (B ((!x18))), rp [(.tmp 26, (B ((!x18))))] (B true), sk 27 (B true), sk 27 (B true), sk 27 (B true), sk 30 (.lit undef), sk 30 (.lit undef), sk 30 (.lit undef), sk 30 (.lit undef), sk 30 (.lit undef), sk 30 (.lit undef), sk 30 (.lit undef), sk 30 (.lit undef), sk 30 (.lit undef), sk 30 (.lit undef), sk 27 (B true), rp [(.tmp 27, B true), cb true, (.tmp 41, (.lit undef))] (B true)] ?_ ?_
      ·exact ⟨afa rfl Try.underlying115 rfl rfl ti3 (by decide) rfl, ald rfl ti3 (by decide) rfl (nle rfl) rfl, apc (first := []) (cap := []) (vs := [I x10.Width, I 1, I 100000]) rfl Qfd (Qb7 N x10.Width 1 100000 _ hf14) rfl rfl (nlc nll (nlc nll (nlc nll nl0))) nll rfl, Qa6 rfl, asb hb16 (amv rfl), ag_ (afa rfl Try.underlying115 rfl rfl ti3 (by decide) rfl), ag_ (ald rfl ti3 (by decide) rfl (nle rfl) rfl), ag_ (apc (first := []) (cap := []) (vs := [I x10.Gain, I 0, I 1000]) rfl Qfd (Qb7 N x10.Gain 0 1000 _ hf17) rfl rfl (nlc nll (nlc nll (nlc nll nl0))) nll rfl), ag_ (Qa6 rfl), apk rfl rfl, asb hb19 (amv rfl), trivial, trivial, trivial, trivial, trivial, trivial, trivial, trivial, trivial, trivial, trivial, trivial, trivial, trivial, apk rfl rfl, trivial⟩
      refine Qeq (by kernel_rfl) ?_
      refine wrg [mc (.bool false)] ?_ ?_
      ·exact ⟨aas rfl, trivial⟩
      refine Qaf ?_
      refine Qcp ?_
      refine Qa7 ?_
      refine Qa7 ?_
      refine Qcp ?_
      refine Qa7 ?_
      obtain rfl := osi h
      exact ⟨⟨[B false], ⟨rot (by kernel_rfl), trivial⟩, rfl⟩, nll, Nat.le_refl _, fun n hn => absurd hn (Nat.not_lt_zero n)⟩
     ·replace h := Qa3 hb19 h
      rcases bft ((decide (y6 > 0))) with hb20 | hb20
      ·replace h := Qa2 hb20 h
       obtain ⟨x21, hg22, h⟩ := bno h
       obtain ⟨hi23, hj24⟩ := gsm hg22
       refine Qcq [rb [(.tmp 4, .ref 1 2 0 0)] [(1, .own 2 [[I x10.Width, I x10.Gain]])] (.ref 1 2 0 0), rb [(.tmp 17, .ref 1 2 0 0)] [(1, .own 2 [[I x10.Width, I x10.Gain]])] (I x10.Width), rp [fu 25, (.tmp 18, I x10.Width), ci 1, ci 100000] (B x15), rp [(.tmp 19, B x15)] (B ((!x15))), rp [(.tmp 20, (B ((!x15))))] (B false), rb [(.tmp 21, B false), (.tmp 4, .ref 1 2 0 0)] [(1, .own 2 [[I x10.Width, I x10.Gain]])] (.ref 1 2 0 1), rb [(.tmp 21, B false), (.tmp 22, .ref 1 2 0 1)] [(1, .own 2 [[I x10.Width, I x10.Gain]])] (I x10.Gain), rp [(.tmp 21, B false), fu 25, (.tmp 23, I x10.Gain), ci 0, ci 1000] (B x18), rp [(.tmp 21, B false), (.tmp 24, B x18)] (B ((!x18))), rp [(.tmp 21, B false), cb true, (.tmp 25, (B ((!x18))))] (B ((!x18))), rp [(.tmp 26, (B ((!x18))))] (B false), rp [(.tmp 27, B false), (.tmp 3, I y6)] (I y6), rp [(.tmp 27, B false), (.tmp 28, I y6), ci 0] (B ((decide (y6 > 0)))), rp [(.tmp 27, B false), (.tmp 29, (B ((decide (y6 > 0)))))] (B true), rb [(.tmp 30, B true), (.tmp 4, .ref 1 2 0 0)] [(1, .own 2 [[I x10.Width, I x10.Gain]])] (.ref 1 2 0 1), rb [(.tmp 30, B true), (.tmp 31, .ref 1 2 0 1)] [(1, .own 2 [[I x10.Width, I x10.Gain]])] (I x10.Gain), rb [(.tmp 30, B true), (.tmp 1, .ref 0 2 0 0)] [(0, (.own 2 [[I p0.Inlet, (Qfn p0)]]))] (.ref 0 2 0 1), rb [(.tmp 30, B true), (.tmp 33, .ref 0 2 0 1)] [(0, (.own 2 [[I p0.Inlet, (Qfn p0)]]))] (Qfn p0), rp [(.tmp 30, B true), (.tmp 3, I y6)] (I y6), rp [(.tmp 30, B true), (.tmp 35, I y6), ci 1] (I (w64 (y6 - 1))), rp [(.tmp 30, B true), (.tmp 34, (Qfn p0)), (.tmp 36, (I (w64 (y6 - 1))))] (.dptr (Qap (x21)) 0), rp [(.tmp 30, B true), (.tmp 37, (.dptr (Qap (x21)) 0))] (.dptr (Qap (x21)) 1), rp [(.tmp 30, B true), (.tmp 38, (.dptr (Qap (x21)) 1))] (I x21.Gain), rp [(.tmp 30, B true), (.tmp 32, I x10.Gain), (.tmp 39, I x21.Gain)] (B ((decide (x10.Gain > x21.Gain)))), rp [(.tmp 27, B false), (.tmp 30, B true), (.tmp 40, (B ((decide (x10.Gain > x21.Gain))))), cb false] (B ((decide (x10.Gain > x21.Gain)))), rp [(.tmp 27, B false), cb true, (.tmp 41, (B ((decide (x10.Gain > x21.Gain)))))] (B ((decide (x10.Gain > x21.Gain))))] ?_ ?_
       ·exact ⟨afa rfl Try.underlying115 rfl rfl ti3 (by decide) rfl, ald rfl ti3 (by decide) rfl (nle rfl) rfl, apc (first := []) (cap := []) (vs := [I x10.Width, I 1, I 100000]) rfl Qfd (Qb7 N x10.Width 1 100000 _ hf14) rfl rfl (nlc nll (nlc nll (nlc nll nl0))) nll rfl, Qa6 rfl, asb hb16 (amv rfl), ag_ (afa rfl Try.underlying115 rfl rfl ti3 (by decide) rfl), ag_ (ald rfl ti3 (by decide) rfl (nle rfl) rfl), ag_ (apc (first := []) (cap := []) (vs := [I x10.Gain, I 0, I 1000]) rfl Qfd (Qb7 N x10.Gain 0 1000 _ hf17) rfl rfl (nlc nll (nlc nll (nlc nll nl0))) nll rfl), ag_ (Qa6 rfl), apk rfl rfl, asb hb19 (amv rfl), ag_ (amv rfl), ag_ (abn rfl rfl), asb hb20 (ag_ (amv rfl)), ag_ (afa rfl Try.underlying115 rfl rfl ti3 (by decide) rfl), ag_ (ald rfl ti3 (by decide) rfl (nle rfl) rfl), ag_ (afa rfl Try.underlying24 rfl rfl ti22 (by decide) rfl), ag_ (ald rfl ti22 (by decide) rfl (nle rfl) rfl), ag_ (amv rfl), ag_ (abn rfl rfl), ag_ (aid rfl Try.underlying22 ti115 rfl rfl hi23 (mgt Qap hj24) rfl), ag_ (afd rfl Try.underlying115 rfl rfl ti3 (by decide) rfl), ag_ (ald_ rfl ti3 (by decide) (nle rfl) rfl), ag_ (abn rfl rfl), ag_ (apk rfl rfl), apk rfl rfl, trivial⟩
       rcases bft ((decide (x10.Gain > x21.Gain))) with hc25 | hc25
       ·replace h := Qa2 hc25 h
        refine wft hc25 (by kernel_rfl) ?_
        refine wrg [mc (.bool false)] ?_ ?_
        ·exact ⟨aas rfl, trivial⟩
        refine Qaf ?_
        refine Qcp ?_
        refine Qa7 ?_
        refine Qa7 ?_
        refine Qcp ?_
        refine Qa7 ?_
        obtain rfl := osi h
        exact ⟨⟨[B false], ⟨rot (by kernel_rfl), trivial⟩, rfl⟩, nll, Nat.le_refl _, fun n hn => absurd hn (Nat.not_lt_zero n)⟩
       ·replace h := Qa3 hc25 h
        refine wfn hc25 (by kernel_rfl) ?_
        refine Qao ?_
        refine bln ?_
        refine thn ?_
        refine Qar [mv 3 (I y6), rp [(.tmp 10, I y6), ci 1] (I (w64 (y6 + 1))), mv 11 (I (w64 (y6 + 1)))] ?_ ?_
        ·exact ⟨amv rfl, abn rfl rfl, aas rfl, trivial⟩
        refine thn ?_
        exact arm (mto (n := 58) [(1, .ref 0 2 0 0), (3, (I (w64 (y6 + 1))))] [0] [(.own 2 [[I p0.Inlet, (Qfn p0)]])] hφ0 (pc (.rn (rqr rfl)) (pc rwl pn)) (qc (spb (lc rwl (lc (.rn (.plain _ (nld Qa8 _))) ln))) qn)) (ih (w64 (y6 + 1)) h)
      ·replace h := Qa3 hb20 h
       refine Qcq [rb [(.tmp 4, .ref 1 2 0 0)] [(1, .own 2 [[I x10.Width, I x10.Gain]])] (.ref 1 2 0 0), rb [(.tmp 17, .ref 1 2 0 0)] [(1, .own 2 [[I x10.Width, I x10.Gain]])] (I x10.Width), rp [fu 25, (.tmp 18, I x10.Width), ci 1, ci 100000] (B x15), rp [(.tmp 19, B x15)] (B ((!x15))), rp [(.tmp 20, (B ((!x15))))] (B false), rb [(.tmp 21, B false), (.tmp 4, .ref 1 2 0 0)] [(1, .own 2 [[I x10.Width, I x10.Gain]])] (.ref 1 2 0 1), rb [(.tmp 21, B false), (.tmp 22, .ref 1 2 0 1)] [(1, .own 2 [[I x10.Width, I x10.Gain]])] (I x10.Gain), rp [(.tmp 21, B false), fu 25, (.tmp 23, I x10.Gain), ci 0, ci 1000] (B x18), rp [(.tmp 21, B false), (.tmp 24, B x18)] (B ((!x18))), rp [(.tmp 21, B false), cb true, (.tmp 25, (B ((!x18))))] (B ((!x18))), rp [(.tmp 26, (B ((!x18))))] (B false), rp [(.tmp 27, B false), (.tmp 3, I y6)] (I y6), rp [(.tmp 27, B false), (.tmp 28, I y6), ci 0] (B ((decide (y6 > 0)))), rp [(.tmp 27, B false), (.tmp 29, (B ((decide (y6 > 0)))))] (B false), sk 30 (B false), sk 30 (B false), sk 30 (B false), sk 30 (B false), sk 30 (B false), sk 30 (B false), sk 30 (B false), sk 30 (B false), sk 30 (B false), sk 30 (B false), rp [(.tmp 27, B false), (.tmp 30, B false), (.tmp 40, (.lit undef)), cb false] (B false), rp [(.tmp 27, B false), cb true, (.tmp 41, B false)] (B false)] ?_ ?_
       ·exact ⟨afa rfl Try.underlying115 rfl rfl ti3 (by decide) rfl, ald rfl ti3 (by decide) rfl (nle rfl) rfl, apc (first := []) (cap := []) (vs := [I x10.Width, I 1, I 100000]) rfl Qfd (Qb7 N x10.Width 1 100000 _ hf14) rfl rfl (nlc nll (nlc nll (nlc nll nl0))) nll rfl, Qa6 rfl, asb hb16 (amv rfl), ag_ (afa rfl Try.underlying115 rfl rfl ti3 (by decide) rfl), ag_ (ald rfl ti3 (by decide) rfl (nle rfl) rfl), ag_ (apc (first := []) (cap := []) (vs := [I x10.Gain, I 0, I 1000]) rfl Qfd (Qb7 N x10.Gain 0 1000 _ hf17) rfl rfl (nlc nll (nlc nll (nlc nll nl0))) nll rfl), ag_ (Qa6 rfl), apk rfl rfl, asb hb19 (amv rfl), ag_ (amv rfl), ag_ (abn rfl rfl), asb hb20 (ag_ (amv rfl)), trivial, trivial, trivial, trivial, trivial, trivial, trivial, trivial, trivial, trivial, ag_ (apk rfl rfl), apk rfl rfl, trivial⟩
       refine Qe7 (by kernel_rfl) ?_
       refine Qao ?_
       refine bln ?_
       refine thn ?_
       refine Qar [mv 3 (I y6), rp [(.tmp 10, I y6), ci 1] (I (w64 (y6 + 1))), mv 11 (I (w64 (y6 + 1)))] ?_ ?_
       ·exact ⟨amv rfl, abn rfl rfl, aas rfl, trivial⟩
       refine thn ?_
       exact arm (mto (n := 58) [(1, .ref 0 2 0 0), (3, (I (w64 (y6 + 1))))] [0] [(.own 2 [[I p0.Inlet, (Qfn p0)]])] hφ0 (pc (.rn (rqr rfl)) (pc rwl pn)) (qc (spb (lc rwl (lc (.rn (.plain _ (nld Qa8 _))) ln))) qn)) (ih (w64 (y6 + 1)) h)
   ·replace h := Qa3 hc9 h
    refine wfn hc9 (by kernel_rfl) ?_
    refine Qbq ?_
    refine Qaw ?_
    refine Qaw ?_
    refine Qbp rfl ?_
    refine thn ?_
    exact ⟨(), h, (mto (n := 58) [(1, .ref 0 2 0 0)] [0] [(.own 2 [[I p0.Inlet, (Qfn p0)]])] hφ0 (pc (.rn (rqr rfl)) pn) (qc (spb (lc rwl (lc (.rn (.plain _ (nld Qa8 _))) ln))) qn))⟩

def Qd4 (N : Nat) (p0 : GUnit) (k2 : (List GPart) → Option GUnit) : Nat → Int → (List GPart) → Option GUnit
  | 0, _, _ => none
  | n7 + 1, y3, y4 =>
    bif (decide (y3 < (p0.Parts.length : Int))) then
     (getI p0.Parts y3).bind fun x9 =>
     chk (decide ((y4.length + ([x9]).length) * 16 ≤ 140737488355328)) <|
     Qd4 N p0 k2 n7 (w64 (y3 + 1)) (y4 ++ ([x9]))
    else
     k2 (y4)
def Qiq (N : Nat) (p0 : GUnit) : Option GUnit :=
  Qc5 (fun y1 =>
    some (⟨p0.Inlet, y1⟩ : GUnit)) fun k2 : (List GPart) → Option GUnit =>
  Qd4 N p0 k2 N 0 ([])
def Qi5 (p0 : GUnit) : AV := .dat 2 ((p0.Parts : List GPart).map Qap)
def z74_8 (y1 : (List GPart)) : AV := .acc 2 118 2 ((y1 : List GPart).map Qap)
def z74_16 (p0 : GUnit) (y1 : (List GPart)) : AV := .agg [(I (p0.Inlet)), (.dat 2 ((y1 : List GPart).map Qap))]
def z74_5 : AV := .acc 3 118 2 ((([]) : List GPart).map Qap)
def z74_4 : AV := .acc 3 118 2 (([] : List GPart).map Qap)
def z74_11 (y4 : (List GPart)) : AV := .acc 3 118 2 ((y4 : List GPart).map Qap)
def z74_14 (y4 : (List GPart)) (x9 : GPart) : AV := .acc 4 118 2 ((y4 ++ ([x9]) : List GPart).map Qap)
set_option maxRecDepth 100000 in
set_option maxHeartbeats 4000000 in
theorem law07_UnitX_ok (N : Nat) (p0 : GUnit) (r : GUnit) (h : Qiq N p0 = some r) : Spec Try.prog 19 [(.agg (Qat p0))] [] (.agg (Qat r)) [] := by
  refine Qae Try.func19 rfl 0 (nle rfl) (fun X φ0 w0 hφ0 => ?_)
  unfold Qiq at h
  refine wrg [⟨[(.tmp 0, (.agg [I p0.Inlet, (Qi5 p0)]))], [(0, .unused)], .ref 0 2 0 0, [(0, (.own 2 [[I p0.Inlet, (Qi5 p0)]]))], false⟩, ⟨[], [(1, .unused)], .ref 1 2 0 0, [(1, .own 2 [[I 0, nilS]])], false⟩] ?_ ?_
  ·exact ⟨Qa0 rfl (by rfl) rfl rfl, Qa5 rfl tz34 rfl, trivial⟩
  refine wrg [rb [(.tmp 1, .ref 0 2 0 0)] [(0, (.own 2 [[I p0.Inlet, (Qi5 p0)]]))] (.ref 0 2 0 0), rb [(.tmp 5, .ref 0 2 0 0)] [(0, (.own 2 [[I p0.Inlet, (Qi5 p0)]]))] (I p0.Inlet), rp [(.tmp 6, I p0.Inlet)] (.agg [I p0.Inlet, nilS]), ⟨[], [(2, .unused)], .ref 2 2 0 0, [(2, .own 2 [[I 0, nilS]])], false⟩, ⟨[(.tmp 3, .ref 2 2 0 0), (.tmp 7, (.agg [I p0.Inlet, nilS]))], [(2, .own 2 [[I 0, nilS]])], .any, [(2, .own 2 [[I p0.Inlet, nilS]])], false⟩] ?_ ?_
  ·exact ⟨afa rfl Try.underlying24 rfl rfl ti3 (by decide) rfl, ald rfl ti3 (by decide) rfl (nle rfl) rfl, Qau (vs := [I p0.Inlet]) rfl ts34 tz34 rfl (by rfl) rfl, Qa5 rfl tz34 rfl, ast rfl ti34 (by rfl) rfl (nle rfl) rfl, trivial⟩
  obtain ⟨k2, hk_k2, h⟩ := jko h
  refine wjn (τ := (List GPart)) (fun t => k2 t = some r) (fun y1 => ⟨mk 34 [(2, .ref 0 2 0 0), (3, .ref 1 2 0 0)], [(.own 2 [[I 0, nilS]]), (.own 2 [[I p0.Inlet, (z74_8 y1)]]), .tok]⟩) (fun y1 h => ?_) ?_
  ·subst hk_k2
   refine wrg [rb [(.tmp 3, .ref 1 2 0 0)] [(1, (.own 2 [[I p0.Inlet, (z74_8 y1)]]))] (.agg [I p0.Inlet, (z74_8 y1)]), ⟨[(.tmp 2, .ref 0 2 0 0), (.tmp 33, (.agg [I p0.Inlet, (z74_8 y1)]))], [(0, .own 2 [[I 0, nilS]])], .any, [(0, (.own 2 [[I p0.Inlet, (z74_8 y1)]]))], false⟩] ?_ ?_
   ·exact ⟨ald rfl ti34 (by decide) rfl (nle rfl) rfl, ast rfl ti34 (by rfl) rfl (nle rfl) rfl, trivial⟩
   refine Qaf ?_
   obtain rfl := osi h
   exact ⟨⟨[(z74_16 p0 y1)], ⟨Qjd (v := (.agg [I p0.Inlet, (z74_8 y1)])) (Qbo (n := 0) (m := 2) (j := 0) (i := 0) (xs := [[I p0.Inlet, (z74_8 y1)]]) (by kernel_rfl) (by kernel_rfl) ti34 (by decide) rfl (nle rfl) rfl) (Less.agg ⟨lrf, Less.acc, trivial⟩), trivial⟩, rfl⟩, (NLt.agg _ (nlc nll (nlc (nld Qa8 _) nl0))), Nat.le_refl _, fun n hn => absurd hn (Nat.not_lt_zero n)⟩
  ·skip
   refine wrg [mc (.int .i64 0)] ?_ ?_
   ·exact ⟨aas rfl, trivial⟩
   refine Qal ?_
   refine wmr (Mor.trans (mor_nilb (n := 3) (ty := 118) (m := 2) (q := 2) (mq := 2) (c := [I p0.Inlet, nilS]) 1 (by kernel_rfl) (by kernel_rfl) (by kernel_rfl) (by decide)) (mto (n := 34) (l' := [(1, .ref 0 2 0 0), (2, .ref 1 2 0 0), (3, .ref 2 2 0 0), (4, I 0)]) (own' := [(.own 2 [[I p0.Inlet, (Qi5 p0)]]), (.own 2 [[I 0, nilS]]), (.own 2 [[I p0.Inlet, z74_5]]), .tok]) [(1, .ref 0 2 0 0), (2, .ref 1 2 0 0), (3, .ref 2 2 0 0), (4, I 0)] [0, 1, 2, 3] [(.own 2 [[I p0.Inlet, (Qi5 p0)]]), (.own 2 [[I 0, nilS]]), (.own 2 [[I p0.Inlet, z74_4]]), .tok] hφ0 (pc (.rn (rqr rfl)) (pc (.rn (rqr rfl)) (pc (.rn (rqr rfl)) (pc rwl pn)))) (qc (spb (lc rwl (lc (.rn (.plain _ (nld Qa8 _))) ln))) (qc (spb (lc rwl (lc rwl ln))) (qc (spb (lc rwl (lc (.rn (Qh7 rfl (Qfw Qa8 _))) ln))) (qc .tok qn)))))) ?_
   refine Qci (τ := Int × (List GPart)) (fun n t => Qd4 N p0 k2 n t.1 t.2 = some r) (fun ⟨y3, y4⟩ => ⟨mk 34 [(1, .ref 0 2 0 0), (2, .ref 1 2 0 0), (3, .ref 2 2 0 0), (4, I y3)], [(.own 2 [[I p0.Inlet, (Qi5 p0)]]), (.own 2 [[I 0, nilS]]), (.own 2 [[I p0.Inlet, (z74_11 y4)]]), .tok]⟩) (fun t h => by rw [Qd4] at h; cases h) (fun n7 ih t h => ?_) N (0, []) h
   obtain ⟨y3, y4⟩ := t
   rw [Qd4] at h
   skip
   refine wsq ?_
   refine wrg [mv 4 (I y3), rb [(.tmp 1, .ref 0 2 0 0)] [(0, (.own 2 [[I p0.Inlet, (Qi5 p0)]]))] (.ref 0 2 0 1), rb [(.tmp 9, .ref 0 2 0 1)] [(0, (.own 2 [[I p0.Inlet, (Qi5 p0)]]))] (Qi5 p0), rp [(.tmp 10, (Qi5 p0))] (I ((p0.Parts.length : Int))), rp [(.tmp 8, I y3), (.tmp 11, (I ((p0.Parts.length : Int))))] (B ((decide (y3 < (p0.Parts.length : Int)))))] ?_ ?_
   ·exact ⟨amv rfl, afa rfl Try.underlying24 rfl rfl ti22 (by decide) rfl, ald rfl ti22 (by decide) rfl (nle rfl) rfl, alm (c := Qap) (l := p0.Parts) (aln rfl Try.underlying22 rfl), abn rfl rfl, trivial⟩
   rcases bft ((decide (y3 < (p0.Parts.length : Int)))) with hc8 | hc8
   ·replace h := Qa2 hc8 h
    refine wft hc8 (by kernel_rfl) ?_
    refine Qao ?_
    refine thn ?_
    refine wsq ?_
    refine Qal ?_
    obtain ⟨x9, hg10, h⟩ := bno h
    obtain ⟨hi11, hj12⟩ := gsm hg10
    obtain ⟨ha13, h⟩ := cko h
    refine Qe6 [rb [(.tmp 3, .ref 2 2 0 0)] [(2, (.own 2 [[I p0.Inlet, (z74_11 y4)]]))] (.ref 2 2 0 1), rb [(.tmp 15, .ref 2 2 0 1)] [(2, (.own 2 [[I p0.Inlet, (z74_11 y4)]]))] (z74_11 y4), rb [(.tmp 1, .ref 0 2 0 0)] [(0, (.own 2 [[I p0.Inlet, (Qi5 p0)]]))] (.ref 0 2 0 1), rb [(.tmp 17, .ref 0 2 0 1)] [(0, (.own 2 [[I p0.Inlet, (Qi5 p0)]]))] (Qi5 p0), mv 4 (I y3), rp [(.tmp 18, (Qi5 p0)), (.tmp 19, I y3)] (.dptr (Qap (x9)) 0), mv 20 (.dptr (Qap (x9)) 0), rp [(.tmp 21, (.dptr (Qap (x9)) 0))] (I x9.Width), rb [(.tmp 1, .ref 0 2 0 0)] [(0, (.own 2 [[I p0.Inlet, (Qi5 p0)]]))] (.ref 0 2 0 1), rb [(.tmp 23, .ref 0 2 0 1)] [(0, (.own 2 [[I p0.Inlet, (Qi5 p0)]]))] (Qi5 p0), mv 4 (I y3), rp [(.tmp 24, (Qi5 p0)), (.tmp 25, I y3)] (.dptr (Qap (x9)) 0), rp [(.tmp 26, (.dptr (Qap (x9)) 0))] (.dptr (Qap (x9)) 1), rp [(.tmp 27, (.dptr (Qap (x9)) 1))] (I x9.Gain), rp [(.tmp 22, I x9.Width), (.tmp 28, I x9.Gain)] (.agg [I x9.Width, I x9.Gain]), rp [(.tmp 29, (.agg [I x9.Width, I x9.Gain]))] (.dat 2 (([x9] : List GPart).map Qap)), ⟨[(.tmp 16, (z74_11 y4)), (.tmp 30, (.dat 2 (([x9] : List GPart).map Qap)))], [(3, .tok), (4, .unused)], (z74_14 y4 x9), [(3, .dead), (4, .tok)], false⟩, rb [(.tmp 3, .ref 2 2 0 0)] [(2, (.own 2 [[I p0.Inlet, (z74_11 y4)]]))] (.ref 2 2 0 1), ⟨[(.tmp 32, .ref 2 2 0 1), (.tmp 31, (z74_14 y4 x9))], [(2, (.own 2 [[I p0.Inlet, (z74_11 y4)]]))], .any, [(2, (.own 2 [[I p0.Inlet, (z74_14 y4 x9)]]))], false⟩] ?_ ?_
    ·exact ⟨afa rfl Try.underlying34 rfl rfl ti32 (by decide) rfl, ald rfl ti32 (by decide) rfl (nle rfl) rfl, afa rfl Try.underlying24 rfl rfl ti22 (by decide) rfl, ald rfl ti22 (by decide) rfl (nle rfl) rfl, amv rfl, aid rfl Try.underlying22 ti115 rfl rfl hi11 (mgt Qap hj12) rfl, afd rfl Try.underlying115 rfl rfl ti3 (by decide) rfl, ald_ rfl ti3 (by decide) (nle rfl) rfl, afa rfl Try.underlying24 rfl rfl ti22 (by decide) rfl, ald rfl ti22 (by decide) rfl (nle rfl) rfl, amv rfl, aid rfl Try.underlying22 ti115 rfl rfl hi11 (mgt Qap hj12) rfl, afd rfl Try.underlying115 rfl rfl ti3 (by decide) rfl, ald_ rfl ti3 (by decide) (nle rfl) rfl, Qau (vs := [I x9.Width, I x9.Gain]) rfl ts118 tz118 rfl (by rfl) rfl, Qcr (vs := [(.agg [I x9.Width, I x9.Gain])]) rfl Try.underlying32 Qh3 tz118 rfl (by decide) rfl (by decide) (by rfl) (by rfl) (by rfl) rfl, astep_app rfl Try.underlying32 te118 (Base.acc _ _) rfl rfl (by rfl) (app_le1 Qap ha13) (app_le2 Qap ha13 (by decide)) (app_map Qap) rfl rfl, afa rfl Try.underlying34 rfl rfl ti32 (by decide) rfl, ast rfl ti32 (by rfl) rfl (nle rfl) rfl, trivial⟩
    refine bln ?_
    refine thn ?_
    refine Qar [mv 4 (I y3), rp [(.tmp 13, I y3), ci 1] (I (w64 (y3 + 1))), mv 14 (I (w64 (y3 + 1)))] ?_ ?_
    ·exact ⟨amv rfl, abn rfl rfl, aas rfl, trivial⟩
    refine thn ?_
    exact arm (mto (n := 34) [(1, .ref 0 2 0 0), (2, .ref 1 2 0 0), (3, .ref 2 2 0 0), (4, (I (w64 (y3 + 1))))] [0, 1, 2, 4] [(.own 2 [[I p0.Inlet, (Qi5 p0)]]), (.own 2 [[I 0, nilS]]), (.own 2 [[I p0.Inlet, (z74_14 y4 x9)]]), .tok] hφ0 (pc (.rn (rqr rfl)) (pc (.rn (rqr rfl)) (pc (.rn (rqr rfl)) (pc rwl pn)))) (qc (spb (lc rwl (lc (.rn (.plain _ (nld Qa8 _))) ln))) (qc (spb (lc rwl (lc rwl ln))) (qc (spb (lc rwl (lc (.rn (Qh7 rfl (Qfw Qa8 _))) ln))) (qc .tok qn))))) (ih (w64 (y3 + 1), y4 ++ ([x9])) h)
   ·replace h := Qa3 hc8 h
    refine wfn hc8 (by kernel_rfl) ?_
    refine Qbq ?_
    refine Qaw ?_
    refine Qaw ?_
    refine Qbp rfl ?_
    refine thn ?_
    exact ⟨(y4), h, (mto (n := 34) [(2, .ref 1 2 0 0), (3, .ref 2 2 0 0)] [1, 2, 3] [(.own 2 [[I 0, nilS]]), (.own 2 [[I p0.Inlet, (z74_11 y4)]]), .tok] hφ0 (pc (.rn (rqr rfl)) (pc (.rn (rqr rfl)) pn)) (qc (spb (lc rwl (lc rwl ln))) (qc (spb (lc rwl (lc (.rn (Qh7 rfl (Qfw Qa8 _))) ln))) (qc .tok qn))))⟩

def Qc8 (N : Nat) (p0 : GUnit) (k2 : Int → Option Int) : Nat → Int → Int → Option Int
  | 0, _, _ => none
  | n7 + 1, y3, y4 =>
    bif (decide (y4 < (p0.Parts.length : Int))) then
     (getI p0.Parts y4).bind fun x9 =>
     Qc8 N p0 k2 n7 (w64 (y3 + x9.Width)) (w64 (y4 + 1))
    else
     k2 (y3)
def Qf3 (N : Nat) (p0 : GUnit) : Option Int :=
  Qc5 (fun y1 =>
    some y1) fun k2 : Int → Option Int =>
  Qc8 N p0 k2 N 0 0
def z75_0 (p0 : GUnit) : AV := .dat 2 ((p0.Parts : List GPart).map Qap)
set_option maxRecDepth 100000 in
set_option maxHeartbeats 4000000 in
theorem ref07_CapacityX_ok (N : Nat) (p0 : GUnit) (r : Int) (h : Qf3 N p0 = some r) : Spec Try.prog 16 [(.agg (Qat p0))] [] (I r) [] := by
  refine Qae Try.func16 rfl 0 (nle rfl) (fun X φ0 w0 hφ0 => ?_)
  unfold Qf3 at h
  refine wrg [⟨[(.tmp 0, (.agg [I p0.Inlet, (z75_0 p0)]))], [(0, .unused)], .ref 0 2 0 0, [(0, (.own 2 [[I p0.Inlet, (z75_0 p0)]]))], false⟩, mc (.int .i64 0)] ?_ ?_
  ·exact ⟨Qa0 rfl (by rfl) rfl rfl, aas rfl, trivial⟩
  refine wrg [mc (.int .i64 0)] ?_ ?_
  ·exact ⟨aas rfl, trivial⟩
  obtain ⟨k2, hk_k2, h⟩ := jko h
  refine wjn (τ := Int) (fun t => k2 t = some r) (fun y1 => ⟨mk 21 [(3, I y1)], []⟩) (fun y1 h => ?_) ?_
  ·subst hk_k2
   refine wrg [mv 3 (I y1), mv 20 (I y1)] ?_ ?_
   ·exact ⟨amv rfl, aas rfl, trivial⟩
   refine Qaf ?_
   obtain rfl := osi h
   exact ⟨⟨[I y1], ⟨rot (by kernel_rfl), trivial⟩, rfl⟩, nll, Nat.le_refl _, fun n hn => absurd hn (Nat.not_lt_zero n)⟩
  ·skip
   refine wrg [mc (.int .i64 0)] ?_ ?_
   ·exact ⟨aas rfl, trivial⟩
   refine Qal ?_
   refine wmr (mto (n := 21) (l' := [(1, .ref 0 2 0 0), (3, I 0), (4, I 0)]) (own' := [(.own 2 [[I p0.Inlet, (z75_0 p0)]])]) [(1, .ref 0 2 0 0), (3, I 0), (4, I 0)] [0] [(.own 2 [[I p0.Inlet, (z75_0 p0)]])] hφ0 (pc (.rn (rqr rfl)) (pc rwl (pc rwl pn))) (qc (spb (lc rwl (lc (.rn (.plain _ (nld Qa8 _))) ln))) qn)) ?_
   refine Qci (τ := Int × Int) (fun n t => Qc8 N p0 k2 n t.1 t.2 = some r) (fun ⟨y3, y4⟩ => ⟨mk 21 [(1, .ref 0 2 0 0), (3, I y3), (4, I y4)], [(.own 2 [[I p0.Inlet, (z75_0 p0)]])]⟩) (fun t h => by rw [Qc8] at h; cases h) (fun n7 ih t h => ?_) N (0, 0) h
   obtain ⟨y3, y4⟩ := t
   rw [Qc8] at h
   skip
   refine wsq ?_
   refine wrg [mv 4 (I y4), rb [(.tmp 1, .ref 0 2 0 0)] [(0, (.own 2 [[I p0.Inlet, (z75_0 p0)]]))] (.ref 0 2 0 1), rb [(.tmp 6, .ref 0 2 0 1)] [(0, (.own 2 [[I p0.Inlet, (z75_0 p0)]]))] (z75_0 p0), rp [(.tmp 7, (z75_0 p0))] (I ((p0.Parts.length : Int))), rp [(.tmp 5, I y4), (.tmp 8, (I ((p0.Parts.length : Int))))] (B ((decide (y4 < (p0.Parts.length : Int)))))] ?_ ?_
   ·exact ⟨amv rfl, afa rfl Try.underlying24 rfl rfl ti22 (by decide) rfl, ald rfl ti22 (by decide) rfl (nle rfl) rfl, alm (c := Qap) (l := p0.Parts) (aln rfl Try.underlying22 rfl), abn rfl rfl, trivial⟩
   rcases bft ((decide (y4 < (p0.Parts.length : Int)))) with hc8 | hc8
   ·replace h := Qa2 hc8 h
    refine wft hc8 (by kernel_rfl) ?_
    refine Qao ?_
    refine thn ?_
    refine wsq ?_
    refine Qal ?_
    obtain ⟨x9, hg10, h⟩ := bno h
    obtain ⟨hi11, hj12⟩ := gsm hg10
    refine Qar [mv 3 (I y3), rb [(.tmp 1, .ref 0 2 0 0)] [(0, (.own 2 [[I p0.Inlet, (z75_0 p0)]]))] (.ref 0 2 0 1), rb [(.tmp 13, .ref 0 2 0 1)] [(0, (.own 2 [[I p0.Inlet, (z75_0 p0)]]))] (z75_0 p0), mv 4 (I y4), rp [(.tmp 14, (z75_0 p0)), (.tmp 15, I y4)] (.dptr (Qap (x9)) 0), mv 16 (.dptr (Qap (x9)) 0), rp [(.tmp 17, (.dptr (Qap (x9)) 0))] (I x9.Width), rp [(.tmp 12, I y3), (.tmp 18, I x9.Width)] (I (w64 (y3 + x9.Width))), mv 19 (I (w64 (y3 + x9.Width)))] ?_ ?_
    ·exact ⟨amv rfl, afa rfl Try.underlying24 rfl rfl ti22 (by decide) rfl, ald rfl ti22 (by decide) rfl (nle rfl) rfl, amv rfl, aid rfl Try.underlying22 ti115 rfl rfl hi11 (mgt Qap hj12) rfl, afd rfl Try.underlying115 rfl rfl ti3 (by decide) rfl, ald_ rfl ti3 (by decide) (nle rfl) rfl, abn rfl rfl, aas rfl, trivial⟩
    refine bln ?_
    refine thn ?_
    refine Qar [mv 4 (I y4), rp [(.tmp 10, I y4), ci 1] (I (w64 (y4 + 1))), mv 11 (I (w64 (y4 + 1)))] ?_ ?_
    ·exact ⟨amv rfl, abn rfl rfl, aas rfl, trivial⟩
    refine thn ?_
    exact arm (mto (n := 21) [(1, .ref 0 2 0 0), (3, (I (w64 (y3 + x9.Width)))), (4, (I (w64 (y4 + 1))))] [0] [(.own 2 [[I p0.Inlet, (z75_0 p0)]])] hφ0 (pc (.rn (rqr rfl)) (pc rwl (pc rwl pn))) (qc (spb (lc rwl (lc (.rn (.plain _ (nld Qa8 _))) ln))) qn)) (ih (w64 (y3 + x9.Width), w64 (y4 + 1)) h)
   ·replace h := Qa3 hc8 h
    refine wfn hc8 (by kernel_rfl) ?_
    refine Qbq ?_
    refine Qaw ?_
    refine Qaw ?_
    refine Qbp rfl ?_
    refine thn ?_
    exact ⟨(y3), h, (mto (n := 21) [(3, I y3)] [] [] hφ0 (pc rwl pn) qn)⟩

def Qdu (N : Nat) (p0 : GUnit) (k2 : Int → Option Int) : Nat → Int → Int → Int → Option Int
  | 0, _, _, _ => none
  | n9 + 1, y3, y4, y5 =>
    bif (decide (y5 < (p0.Parts.length : Int))) then
     (getI p0.Parts y5).bind fun x11 =>
     (some (if x11.Width < y3 then x11.Width else y3)).bind fun x15 =>
     (some (w64 (y4 + (w64 (x15 * x11.Gain))))).bind fun x17 =>
     Qdu N p0 k2 n9 (w64 (y3 - x15)) x17 (w64 (y5 + 1))
    else
     k2 (y4)
def Qhs (N : Nat) (p0 : GUnit) (p1 : Int) : Option Int :=
  Qc5 (fun y1 =>
    some y1) fun k2 : Int → Option Int =>
  Qdu N p0 k2 N p1 0 0
def z76_0 (p0 : GUnit) : AV := .dat 2 ((p0.Parts : List GPart).map Qap)
set_option maxRecDepth 100000 in
set_option maxHeartbeats 4000000 in
theorem ref07_PowerX_ok (N : Nat) (p0 : GUnit) (p1 : Int) (r : Int) (h : Qhs N p0 p1 = some r) : Spec Try.prog 26 [(.agg (Qat p0)), (I p1)] [] (I r) [] := by
  refine Qae Try.func26 rfl 0 (nle rfl) (fun X φ0 w0 hφ0 => ?_)
  unfold Qhs at h
  refine wrg [⟨[(.tmp 0, (.agg [I p0.Inlet, (z76_0 p0)]))], [(0, .unused)], .ref 0 2 0 0, [(0, (.own 2 [[I p0.Inlet, (z76_0 p0)]]))], false⟩, mc (.int .i64 0)] ?_ ?_
  ·exact ⟨Qa0 rfl (by rfl) rfl rfl, aas rfl, trivial⟩
  refine wrg [mc (.int .i64 0)] ?_ ?_
  ·exact ⟨aas rfl, trivial⟩
  obtain ⟨k2, hk_k2, h⟩ := jko h
  refine wjn (τ := Int) (fun t => k2 t = some r) (fun y1 => ⟨mk 37 [(5, I y1)], []⟩) (fun y1 h => ?_) ?_
  ·subst hk_k2
   refine wrg [mv 5 (I y1), mv 36 (I y1)] ?_ ?_
   ·exact ⟨amv rfl, aas rfl, trivial⟩
   refine Qaf ?_
   obtain rfl := osi h
   exact ⟨⟨[I y1], ⟨rot (by kernel_rfl), trivial⟩, rfl⟩, nll, Nat.le_refl _, fun n hn => absurd hn (Nat.not_lt_zero n)⟩
  ·skip
   refine wrg [mc (.int .i64 0)] ?_ ?_
   ·exact ⟨aas rfl, trivial⟩
   refine Qal ?_
   refine wmr (mto (n := 37) (l' := [(1, I p1), (2, .ref 0 2 0 0), (5, I 0), (6, I 0)]) (own' := [(.own 2 [[I p0.Inlet, (z76_0 p0)]])]) [(1, I p1), (2, .ref 0 2 0 0), (5, I 0), (6, I 0)] [0] [(.own 2 [[I p0.Inlet, (z76_0 p0)]])] hφ0 (pc rwl (pc (.rn (rqr rfl)) (pc rwl (pc rwl pn)))) (qc (spb (lc rwl (lc (.rn (.plain _ (nld Qa8 _))) ln))) qn)) ?_
   refine Qci (τ := Int × Int × Int) (fun n t => Qdu N p0 k2 n t.1 t.2.1 t.2.2 = some r) (fun ⟨y3, y4, y5⟩ => ⟨mk 37 [(1, I y3), (2, .ref 0 2 0 0), (5, I y4), (6, I y5)], [(.own 2 [[I p0.Inlet, (z76_0 p0)]])]⟩) (fun t h => by rw [Qdu] at h; cases h) (fun n9 ih t h => ?_) N (p1, 0, 0) h
   obtain ⟨y3, y4, y5⟩ := t
   rw [Qdu] at h
   skip
   refine wsq ?_
   refine wrg [mv 6 (I y5), rb [(.tmp 2, .ref 0 2 0 0)] [(0, (.own 2 [[I p0.Inlet, (z76_0 p0)]]))] (.ref 0 2 0 1), rb [(.tmp 9, .ref 0 2 0 1)] [(0, (.own 2 [[I p0.Inlet, (z76_0 p0)]]))] (z76_0 p0), rp [(.tmp 10, (z76_0 p0))] (I ((p0.Parts.length : Int))), rp [(.tmp 8, I y5), (.tmp 11, (I ((p0.Parts.length : Int))))] (B ((decide (y5 < (p0.Parts.length : Int)))))] ?_ ?_
   ·exact ⟨amv rfl, afa rfl Try.underlying24 rfl rfl ti22 (by decide) rfl, ald rfl ti22 (by decide) rfl (nle rfl) rfl, alm (c := Qap) (l := p0.Parts) (aln rfl Try.underlying22 rfl), abn rfl rfl, trivial⟩
   rcases bft ((decide (y5 < (p0.Parts.length : Int)))) with hc10 | hc10
   ·replace h := Qa2 hc10 h
    refine wft hc10 (by kernel_rfl) ?_
    refine Qao ?_
    refine thn ?_
    refine wsq ?_
    refine Qal ?_
    obtain ⟨x11, hg12, h⟩ := bno h
    obtain ⟨hi13, hj14⟩ := gsm hg12
    obtain ⟨x15, hl16, h⟩ := bno h
    refine wrg [mv 1 (I y3), rb [(.tmp 2, .ref 0 2 0 0)] [(0, (.own 2 [[I p0.Inlet, (z76_0 p0)]]))] (.ref 0 2 0 1), rb [(.tmp 16, .ref 0 2 0 1)] [(0, (.own 2 [[I p0.Inlet, (z76_0 p0)]]))] (z76_0 p0), mv 6 (I y5), rp [(.tmp 17, (z76_0 p0)), (.tmp 18, I y5)] (.dptr (Qap (x11)) 0), mv 19 (.dptr (Qap (x11)) 0), rp [(.tmp 20, (.dptr (Qap (x11)) 0))] (I x11.Width), rp [(.tmp 15, I y3), (.tmp 21, I x11.Width)] (I ((if x11.Width < y3 then x11.Width else y3))), rp [(.tmp 22, (I ((if x11.Width < y3 then x11.Width else y3))))] (I x15)] ?_ ?_
    ·exact ⟨amv rfl, afa rfl Try.underlying24 rfl rfl ti22 (by decide) rfl, ald rfl ti22 (by decide) rfl (nle rfl) rfl, amv rfl, aid rfl Try.underlying22 ti115 rfl rfl hi13 (mgt Qap hj14) rfl, afd rfl Try.underlying115 rfl rfl ti3 (by decide) rfl, ald_ rfl ti3 (by decide) (nle rfl) rfl, astep_min rfl, Qfj hl16 (aas rfl), trivial⟩
    obtain ⟨x17, hl18, h⟩ := bno h
    refine wrg [mv 5 (I y4), mv 7 (I x15), rb [(.tmp 2, .ref 0 2 0 0)] [(0, (.own 2 [[I p0.Inlet, (z76_0 p0)]]))] (.ref 0 2 0 1), rb [(.tmp 25, .ref 0 2 0 1)] [(0, (.own 2 [[I p0.Inlet, (z76_0 p0)]]))] (z76_0 p0), mv 6 (I y5), rp [(.tmp 26, (z76_0 p0)), (.tmp 27, I y5)] (.dptr (Qap (x11)) 0), rp [(.tmp 28, (.dptr (Qap (x11)) 0))] (.dptr (Qap (x11)) 1), rp [(.tmp 29, (.dptr (Qap (x11)) 1))] (I x11.Gain), rp [(.tmp 24, I x15), (.tmp 30, I x11.Gain)] (I (w64 (x15 * x11.Gain))), rp [(.tmp 23, I y4), (.tmp 31, (I (w64 (x15 * x11.Gain))))] (I (w64 (y4 + (w64 (x15 * x11.Gain))))), rp [(.tmp 32, (I (w64 (y4 + (w64 (x15 * x11.Gain))))))] (I x17)] ?_ ?_
    ·exact ⟨amv rfl, amv rfl, afa rfl Try.underlying24 rfl rfl ti22 (by decide) rfl, ald rfl ti22 (by decide) rfl (nle rfl) rfl, amv rfl, aid rfl Try.underlying22 ti115 rfl rfl hi13 (mgt Qap hj14) rfl, afd rfl Try.underlying115 rfl rfl ti3 (by decide) rfl, ald_ rfl ti3 (by decide) (nle rfl) rfl, abn rfl rfl, abn rfl rfl, Qfj hl18 (aas rfl), trivial⟩
    refine Qar [mv 1 (I y3), mv 7 (I x15), rp [(.tmp 33, I y3), (.tmp 34, I x15)] (I (w64 (y3 - x15))), mv 35 (I (w64 (y3 - x15)))] ?_ ?_
    ·exact ⟨amv rfl, amv rfl, abn rfl rfl, aas rfl, trivial⟩
    refine bln ?_
    refine thn ?_
    refine Qar [mv 6 (I y5), rp [(.tmp 13, I y5), ci 1] (I (w64 (y5 + 1))), mv 14 (I (w64 (y5 + 1)))] ?_ ?_
    ·exact ⟨amv rfl, abn rfl rfl, aas rfl, trivial⟩
    refine thn ?_
    exact arm (mto (n := 37) [(1, (I (w64 (y3 - x15)))), (2, .ref 0 2 0 0), (5, I x17), (6, (I (w64 (y5 + 1))))] [0] [(.own 2 [[I p0.Inlet, (z76_0 p0)]])] hφ0 (pc rwl (pc (.rn (rqr rfl)) (pc rwl (pc rwl pn)))) (qc (spb (lc rwl (lc (.rn (.plain _ (nld Qa8 _))) ln))) qn)) (ih (w64 (y3 - x15), x17, w64 (y5 + 1)) h)
   ·replace h := Qa3 hc10 h
    refine wfn hc10 (by kernel_rfl) ?_
    refine Qbq ?_
    refine Qaw ?_
    refine Qaw ?_
    refine Qbp rfl ?_
    refine thn ?_
    exact ⟨(y4), h, (mto (n := 37) [(5, I y4)] [] [] hφ0 (pc rwl pn) qn)⟩

def Qi3 (_N : Nat) (p0 : GUnit) : Option Bool :=
  some (decide ((p0.Parts.length : Int) ≤ 10))
def z78_0 (p0 : GUnit) : AV := .dat 2 ((p0.Parts : List GPart).map Qap)
set_option maxRecDepth 100000 in
set_option maxHeartbeats 4000000 in
theorem law07_smallX_ok (N : Nat) (p0 : GUnit) (r : Bool) (h : Qi3 N p0 = some r) : Spec Try.prog 23 [(.agg (Qat p0))] [] (B r) [] := by
  refine Qae Try.func23 rfl 0 (nle rfl) (fun X φ0 w0 hφ0 => ?_)
  unfold Qi3 at h
  refine wrg [⟨[(.tmp 0, (.agg [I p0.Inlet, (z78_0 p0)]))], [(0, .unused)], .ref 0 2 0 0, [(0, (.own 2 [[I p0.Inlet, (z78_0 p0)]]))], false⟩, mc (.bool false)] ?_ ?_
  ·exact ⟨Qa0 rfl (by rfl) rfl rfl, aas rfl, trivial⟩
  refine wrg [rb [(.tmp 1, .ref 0 2 0 0)] [(0, (.own 2 [[I p0.Inlet, (z78_0 p0)]]))] (.ref 0 2 0 1), rb [(.tmp 3, .ref 0 2 0 1)] [(0, (.own 2 [[I p0.Inlet, (z78_0 p0)]]))] (z78_0 p0), rp [(.tmp 4, (z78_0 p0))] (I ((p0.Parts.length : Int))), rp [(.tmp 5, (I ((p0.Parts.length : Int)))), ci 10] (B ((decide ((p0.Parts.length : Int) ≤ 10)))), mv 6 (B ((decide ((p0.Parts.length : Int) ≤ 10))))] ?_ ?_
  ·exact ⟨afa rfl Try.underlying24 rfl rfl ti22 (by decide) rfl, ald rfl ti22 (by decide) rfl (nle rfl) rfl, alm (c := Qap) (l := p0.Parts) (aln rfl Try.underlying22 rfl), abn rfl rfl, aas rfl, trivial⟩
  refine Qaf ?_
  obtain rfl := osi h
  exact ⟨⟨[(B ((decide ((p0.Parts.length : Int) ≤ 10))))], ⟨rot (by kernel_rfl), trivial⟩, rfl⟩, nll, Nat.le_refl _, fun n hn => absurd hn (Nat.not_lt_zero n)⟩

end Go.Proofs.Ytlhakkkjgdbdpaa
