/-
  Functions of the program: what they compute, as plain functions, and that they do. No conditions.
-/
import Derived.Test.YtlhakkkjgdbdpaaX6
namespace Go.Proofs.Ytlhakkkjgdbdpaa
open Go.RowKit

def Qe4 (_N : Nat) (p0 : GStream) : Option GStream :=
  some p0
def z81_1 (p0 : GStream) : AV := .agg [(I (p0.Mass)), (I (p0.Heat)), (I (p0.Silica)), (I (p0.Gas))]
def z81_0 (p0 : GStream) : Slot := .own 4 [[(I (p0.Mass)), (I (p0.Heat)), (I (p0.Silica)), (I (p0.Gas))]]
def z81_2 : Slot := .own 4 [[(I (0)), (I (0)), (I (0)), (I (0))]]
set_option maxRecDepth 100000 in
set_option maxHeartbeats 4000000 in
theorem Qed (N : Nat) (p0 : GStream) (r : GStream) (h : Qe4 N p0 = some r) : Spec Try.prog 28 [(.agg (Qad p0))] [] (.agg (Qad r)) [] := by
  refine Qae Try.func28 rfl 0 (nle rfl) (fun X φ0 w0 hφ0 => ?_)
  unfold Qe4 at h
  refine wrg [⟨[(.tmp 0, (z81_1 p0))], [(0, .unused)], .ref 0 4 0 0, [(0, (z81_0 p0))], false⟩, ⟨[], [(1, .unused)], .ref 1 4 0 0, [(1, z81_2)], false⟩] ?_ ?_
  ·exact ⟨Qa0 rfl (by rfl) rfl rfl, Qa5 rfl tz60 rfl, trivial⟩
  refine wrg [rb [(.tmp 1, .ref 0 4 0 0)] [(0, (z81_0 p0))] (.ref 0 4 0 0), rb [(.tmp 3, .ref 0 4 0 0)] [(0, (z81_0 p0))] (I p0.Mass), rb [(.tmp 1, .ref 0 4 0 0)] [(0, (z81_0 p0))] (.ref 0 4 0 1), rb [(.tmp 5, .ref 0 4 0 1)] [(0, (z81_0 p0))] (I p0.Heat), rb [(.tmp 1, .ref 0 4 0 0)] [(0, (z81_0 p0))] (.ref 0 4 0 2), rb [(.tmp 7, .ref 0 4 0 2)] [(0, (z81_0 p0))] (I p0.Silica), rb [(.tmp 1, .ref 0 4 0 0)] [(0, (z81_0 p0))] (.ref 0 4 0 3), rb [(.tmp 9, .ref 0 4 0 3)] [(0, (z81_0 p0))] (I p0.Gas), rp [(.tmp 4, I p0.Mass), (.tmp 6, I p0.Heat), (.tmp 8, I p0.Silica), (.tmp 10, I p0.Gas)] (z81_1 p0), ⟨[(.tmp 2, .ref 1 4 0 0), (.tmp 11, (z81_1 p0))], [(1, z81_2)], .any, [(1, (z81_0 p0))], false⟩] ?_ ?_
  ·exact ⟨afa rfl Try.underlying57 rfl rfl ti3 (by decide) rfl, ald rfl ti3 (by decide) rfl (nle rfl) rfl, afa rfl Try.underlying57 rfl rfl ti3 (by decide) rfl, ald rfl ti3 (by decide) rfl (nle rfl) rfl, afa rfl Try.underlying57 rfl rfl ti3 (by decide) rfl, ald rfl ti3 (by decide) rfl (nle rfl) rfl, afa rfl Try.underlying57 rfl rfl ti3 (by decide) rfl, ald rfl ti3 (by decide) rfl (nle rfl) rfl, Qau (vs := [I p0.Mass, I p0.Heat, I p0.Silica, I p0.Gas]) rfl ts60 tz60 rfl (by rfl) rfl, ast rfl ti60 (by rfl) rfl (nle rfl) rfl, trivial⟩
  refine Qaf ?_
  obtain rfl := osi h
  exact ⟨⟨[(z81_1 p0)], ⟨Qbo (n := 1) (m := 4) (j := 0) (i := 0) (xs := [[I p0.Mass, I p0.Heat, I p0.Silica, I p0.Gas]]) (by kernel_rfl) (by kernel_rfl) ti60 (by decide) rfl (nle rfl) rfl, trivial⟩, rfl⟩, (NLt.agg _ (nlc nll (nlc nll (nlc nll (nlc nll nl0))))), Nat.le_refl _, fun n hn => absurd hn (Nat.not_lt_zero n)⟩

def Qdv (N : Nat) (p0 : GStream) : Option Bool :=
  (Qfh N p0.Mass 0 1000000).bind fun x2 =>
  bif x2 then
   (Qfh N p0.Heat 0 (w64 (4000 * p0.Mass))).bind fun x5 =>
   bif x5 then
    (Qfh N p0.Silica 0 (w64 (10000 * p0.Mass))).bind fun x8 =>
    bif x8 then
     (Qfh N p0.Gas 0 1000000000).bind fun x11 =>
     some x11
    else
     some false
   else
    some false
  else
   some false
def z82_1 (p0 : GStream) : AV := .agg [(I (p0.Mass)), (I (p0.Heat)), (I (p0.Silica)), (I (p0.Gas))]
def Qgj (p0 : GStream) : Slot := .own 4 [[(I (p0.Mass)), (I (p0.Heat)), (I (p0.Silica)), (I (p0.Gas))]]
set_option maxRecDepth 100000 in
set_option maxHeartbeats 4000000 in
theorem Qex (N : Nat) (p0 : GStream) (r : Bool) (h : Qdv N p0 = some r) : Spec Try.prog 31 [(.agg (Qad p0))] [] (B r) [] := by
  refine Qae Try.func31 rfl 0 (nle rfl) (fun X φ0 w0 hφ0 => ?_)
  unfold Qdv at h
  refine wrg [⟨[(.tmp 0, (z82_1 p0))], [(0, .unused)], .ref 0 4 0 0, [(0, (Qgj p0))], false⟩, mc (.bool false)] ?_ ?_
  ·exact ⟨Qa0 rfl (by rfl) rfl rfl, aas rfl, trivial⟩
  obtain ⟨x2, hf1, h⟩ := bno h
  rcases bft (x2) with hb3 | hb3
  ·replace h := Qa2 hb3 h
   obtain ⟨x5, hf4, h⟩ := bno h
   rcases bft (x5) with hb6 | hb6
   ·replace h := Qa2 hb6 h
    obtain ⟨x8, hf7, h⟩ := bno h
    rcases bft (x8) with hb9 | hb9
    ·replace h := Qa2 hb9 h
     obtain ⟨x11, hf10, h⟩ := bno h
     refine wrg [rb [(.tmp 1, .ref 0 4 0 0)] [(0, (Qgj p0))] (.ref 0 4 0 0), rb [(.tmp 3, .ref 0 4 0 0)] [(0, (Qgj p0))] (I p0.Mass), rp [fu 25, (.tmp 4, I p0.Mass), ci 0, ci 1000000] (B x2), rp [(.tmp 5, B x2)] (B true), rb [(.tmp 6, B true), (.tmp 1, .ref 0 4 0 0)] [(0, (Qgj p0))] (.ref 0 4 0 1), rb [(.tmp 6, B true), (.tmp 7, .ref 0 4 0 1)] [(0, (Qgj p0))] (I p0.Heat), rb [(.tmp 6, B true), (.tmp 1, .ref 0 4 0 0)] [(0, (Qgj p0))] (.ref 0 4 0 0), rb [(.tmp 6, B true), (.tmp 9, .ref 0 4 0 0)] [(0, (Qgj p0))] (I p0.Mass), rp [(.tmp 6, B true), ci 4000, (.tmp 10, I p0.Mass)] (I (w64 (4000 * p0.Mass))), rp [(.tmp 6, B true), fu 25, (.tmp 8, I p0.Heat), ci 0, (.tmp 11, (I (w64 (4000 * p0.Mass))))] (B x5), rp [(.tmp 6, B true), (.tmp 12, B x5), cb false] (B x5), rp [(.tmp 13, B x5)] (B true), rb [(.tmp 14, B true), (.tmp 1, .ref 0 4 0 0)] [(0, (Qgj p0))] (.ref 0 4 0 2), rb [(.tmp 14, B true), (.tmp 15, .ref 0 4 0 2)] [(0, (Qgj p0))] (I p0.Silica), rb [(.tmp 14, B true), (.tmp 1, .ref 0 4 0 0)] [(0, (Qgj p0))] (.ref 0 4 0 0), rb [(.tmp 14, B true), (.tmp 17, .ref 0 4 0 0)] [(0, (Qgj p0))] (I p0.Mass), rp [(.tmp 14, B true), ci 10000, (.tmp 18, I p0.Mass)] (I (w64 (10000 * p0.Mass))), rp [(.tmp 14, B true), fu 25, (.tmp 16, I p0.Silica), ci 0, (.tmp 19, (I (w64 (10000 * p0.Mass))))] (B x8), rp [(.tmp 14, B true), (.tmp 20, B x8), cb false] (B x8), rp [(.tmp 21, B x8)] (B true), rb [(.tmp 22, B true), (.tmp 1, .ref 0 4 0 0)] [(0, (Qgj p0))] (.ref 0 4 0 3), rb [(.tmp 22, B true), (.tmp 23, .ref 0 4 0 3)] [(0, (Qgj p0))] (I p0.Gas), rp [(.tmp 22, B true), fu 25, (.tmp 24, I p0.Gas), ci 0, ci 1000000000] (B x11), rp [(.tmp 22, B true), (.tmp 25, B x11), cb false] (B x11), mv 26 (B x11)] ?_ ?_
     ·exact ⟨afa rfl Try.underlying57 rfl rfl ti3 (by decide) rfl, ald rfl ti3 (by decide) rfl (nle rfl) rfl, apc (first := []) (cap := []) (vs := [I p0.Mass, I 0, I 1000000]) rfl Qfd (Qb7 N p0.Mass 0 1000000 _ hf1) rfl rfl (nlc nll (nlc nll (nlc nll nl0))) nll rfl, asb hb3 (amv rfl), ag_ (afa rfl Try.underlying57 rfl rfl ti3 (by decide) rfl), ag_ (ald rfl ti3 (by decide) rfl (nle rfl) rfl), ag_ (afa rfl Try.underlying57 rfl rfl ti3 (by decide) rfl), ag_ (ald rfl ti3 (by decide) rfl (nle rfl) rfl), ag_ (abn rfl rfl), ag_ (apc (first := []) (cap := []) (vs := [I p0.Heat, I 0, (I (w64 (4000 * p0.Mass)))]) rfl Qfd (Qb7 N p0.Heat 0 (w64 (4000 * p0.Mass)) _ hf4) rfl rfl (nlc nll (nlc nll (nlc nll nl0))) nll rfl), apk rfl rfl, asb hb6 (amv rfl), ag_ (afa rfl Try.underlying57 rfl rfl ti3 (by decide) rfl), ag_ (ald rfl ti3 (by decide) rfl (nle rfl) rfl), ag_ (afa rfl Try.underlying57 rfl rfl ti3 (by decide) rfl), ag_ (ald rfl ti3 (by decide) rfl (nle rfl) rfl), ag_ (abn rfl rfl), ag_ (apc (first := []) (cap := []) (vs := [I p0.Silica, I 0, (I (w64 (10000 * p0.Mass)))]) rfl Qfd (Qb7 N p0.Silica 0 (w64 (10000 * p0.Mass)) _ hf7) rfl rfl (nlc nll (nlc nll (nlc nll nl0))) nll rfl), apk rfl rfl, asb hb9 (amv rfl), ag_ (afa rfl Try.underlying57 rfl rfl ti3 (by decide) rfl), ag_ (ald rfl ti3 (by decide) rfl (nle rfl) rfl), ag_ (apc (first := []) (cap := []) (vs := [I p0.Gas, I 0, I 1000000000]) rfl Qfd (Qb7 N p0.Gas 0 1000000000 _ hf10) rfl rfl (nlc nll (nlc nll (nlc nll nl0))) nll rfl), apk rfl rfl, aas rfl, trivial⟩
     refine Qaf ?_
     obtain rfl := osi h
     exact ⟨⟨[B x11], ⟨rot (by kernel_rfl), trivial⟩, rfl⟩, nll, Nat.le_refl _, fun n hn => absurd hn (Nat.not_lt_zero n)⟩
    ·replace h := Qa3 hb9 h
     refine wrg [rb [(.tmp 1, .ref 0 4 0 0)] [(0, (Qgj p0))] (.ref 0 4 0 0), rb [(.tmp 3, .ref 0 4 0 0)] [(0, (Qgj p0))] (I p0.Mass), rp [fu 25, (.tmp 4, I p0.Mass), ci 0, ci 1000000] (B x2), rp [(.tmp 5, B x2)] (B true), rb [(.tmp 6, B true), (.tmp 1, .ref 0 4 0 0)] [(0, (Qgj p0))] (.ref 0 4 0 1), rb [(.tmp 6, B true), (.tmp 7, .ref 0 4 0 1)] [(0, (Qgj p0))] (I p0.Heat), rb [(.tmp 6, B true), (.tmp 1, .ref 0 4 0 0)] [(0, (Qgj p0))] (.ref 0 4 0 0), rb [(.tmp 6, B true), (.tmp 9, .ref 0 4 0 0)] [(0, (Qgj p0))] (I p0.Mass), rp [(.tmp 6, B true), ci 4000, (.tmp 10, I p0.Mass)] (I (w64 (4000 * p0.Mass))), rp [(.tmp 6, B true), fu 25, (.tmp 8, I p0.Heat), ci 0, (.tmp 11, (I (w64 (4000 * p0.Mass))))] (B x5), rp [(.tmp 6, B true), (.tmp 12, B x5), cb false] (B x5), rp [(.tmp 13, B x5)] (B true), rb [(.tmp 14, B true), (.tmp 1, .ref 0 4 0 0)] [(0, (Qgj p0))] (.ref 0 4 0 2), rb [(.tmp 14, B true), (.tmp 15, .ref 0 4 0 2)] [(0, (Qgj p0))] (I p0.Silica), rb [(.tmp 14, B true), (.tmp 1, .ref 0 4 0 0)] [(0, (Qgj p0))] (.ref 0 4 0 0), rb [(.tmp 14, B true), (.tmp 17, .ref 0 4 0 0)] [(0, (Qgj p0))] (I p0.Mass), rp [(.tmp 14, B true), ci 10000, (.tmp 18, I p0.Mass)] (I (w64 (10000 * p0.Mass))), rp [(.tmp 14, B true), fu 25, (.tmp 16, I p0.Silica), ci 0, (.tmp 19, (I (w64 (10000 * p0.Mass))))] (B x8), rp [(.tmp 14, B true), (.tmp 20, B x8), cb false] (B x8), rp [(.tmp 21, B x8)] (B false), sk 22 (B false), sk 22 (B false), sk 22 (B false), rp [(.tmp 22, B false), (.tmp 25, (.lit undef)), cb false] (B false), mv 26 (B false)] ?_ ?_
     ·exact ⟨afa rfl Try.underlying57 rfl rfl ti3 (by decide) rfl, ald rfl ti3 (by decide) rfl (nle rfl) rfl, apc (first := []) (cap := []) (vs := [I p0.Mass, I 0, I 1000000]) rfl Qfd (Qb7 N p0.Mass 0 1000000 _ hf1) rfl rfl (nlc nll (nlc nll (nlc nll nl0))) nll rfl, asb hb3 (amv rfl), ag_ (afa rfl Try.underlying57 rfl rfl ti3 (by decide) rfl), ag_ (ald rfl ti3 (by decide) rfl (nle rfl) rfl), ag_ (afa rfl Try.underlying57 rfl rfl ti3 (by decide) rfl), ag_ (ald rfl ti3 (by decide) rfl (nle rfl) rfl), ag_ (abn rfl rfl), ag_ (apc (first := []) (cap := []) (vs := [I p0.Heat, I 0, (I (w64 (4000 * p0.Mass)))]) rfl Qfd (Qb7 N p0.Heat 0 (w64 (4000 * p0.Mass)) _ hf4) rfl rfl (nlc nll (nlc nll (nlc nll nl0))) nll rfl), apk rfl rfl, asb hb6 (amv rfl), ag_ (afa rfl Try.underlying57 rfl rfl ti3 (by decide) rfl), ag_ (ald rfl ti3 (by decide) rfl (nle rfl) rfl), ag_ (afa rfl Try.underlying57 rfl rfl ti3 (by decide) rfl), ag_ (ald rfl ti3 (by decide) rfl (nle rfl) rfl), ag_ (abn rfl rfl), ag_ (apc (first := []) (cap := []) (vs := [I p0.Silica, I 0, (I (w64 (10000 * p0.Mass)))]) rfl Qfd (Qb7 N p0.Silica 0 (w64 (10000 * p0.Mass)) _ hf7) rfl rfl (nlc nll (nlc nll (nlc nll nl0))) nll rfl), apk rfl rfl, asb hb9 (amv rfl), trivial, trivial, trivial, apk rfl rfl, aas rfl, trivial⟩
     refine Qaf ?_
     obtain rfl := osi h
     exact ⟨⟨[B false], ⟨rot (by kernel_rfl), trivial⟩, rfl⟩, nll, Nat.le_refl _, fun n hn => absurd hn (Nat.not_lt_zero n)⟩
   ·replace h := Qa3 hb6 h
    refine wrg [rb [(.tmp 1, .ref 0 4 0 0)] [(0, (Qgj p0))] (.ref 0 4 0 0), rb [(.tmp 3, .ref 0 4 0 0)] [(0, (Qgj p0))] (I p0.Mass), rp [fu 25, (.tmp 4, I p0.Mass), ci 0, ci 1000000] (B x2), rp [(.tmp 5, B x2)] (B true), rb [(.tmp 6, B true), (.tmp 1, .ref 0 4 0 0)] [(0, (Qgj p0))] (.ref 0 4 0 1), rb [(.tmp 6, B true), (.tmp 7, .ref 0 4 0 1)] [(0, (Qgj p0))] (I p0.Heat), rb [(.tmp 6, B true), (.tmp 1, .ref 0 4 0 0)] [(0, (Qgj p0))] (.ref 0 4 0 0), rb [(.tmp 6, B true), (.tmp 9, .ref 0 4 0 0)] [(0, (Qgj p0))] (I p0.Mass), rp [(.tmp 6, B true), ci 4000, (.tmp 10, I p0.Mass)] (I (w64 (4000 * p0.Mass))), rp [(.tmp 6, B true), fu 25, (.tmp 8, I p0.Heat), ci 0, (.tmp 11, (I (w64 (4000 * p0.Mass))))] (B x5), rp [(.tmp 6, B true), (.tmp 12, B x5), cb false] (B x5), rp [(.tmp 13, B x5)] (B false), sk 14 (B false), sk 14 (B false), sk 14 (B false), sk 14 (B false), sk 14 (B false), sk 14 (B false), rp [(.tmp 14, B false), (.tmp 20, (.lit undef)), cb false] (B false), mv 21 (B false), sk 22 (B false), sk 22 (B false), sk 22 (B false), rp [(.tmp 22, B false), (.tmp 25, (.lit undef)), cb false] (B false), mv 26 (B false)] ?_ ?_
    ·exact ⟨afa rfl Try.underlying57 rfl rfl ti3 (by decide) rfl, ald rfl ti3 (by decide) rfl (nle rfl) rfl, apc (first := []) (cap := []) (vs := [I p0.Mass, I 0, I 1000000]) rfl Qfd (Qb7 N p0.Mass 0 1000000 _ hf1) rfl rfl (nlc nll (nlc nll (nlc nll nl0))) nll rfl, asb hb3 (amv rfl), ag_ (afa rfl Try.underlying57 rfl rfl ti3 (by decide) rfl), ag_ (ald rfl ti3 (by decide) rfl (nle rfl) rfl), ag_ (afa rfl Try.underlying57 rfl rfl ti3 (by decide) rfl), ag_ (ald rfl ti3 (by decide) rfl (nle rfl) rfl), ag_ (abn rfl rfl), ag_ (apc (first := []) (cap := []) (vs := [I p0.Heat, I 0, (I (w64 (4000 * p0.Mass)))]) rfl Qfd (Qb7 N p0.Heat 0 (w64 (4000 * p0.Mass)) _ hf4) rfl rfl (nlc nll (nlc nll (nlc nll nl0))) nll rfl), apk rfl rfl, asb hb6 (amv rfl), trivial, trivial, trivial, trivial, trivial, trivial, apk rfl rfl, amv rfl, trivial, trivial, trivial, apk rfl rfl, aas rfl, trivial⟩
    refine Qaf ?_
    obtain rfl := osi h
    exact ⟨⟨[B false], ⟨rot (by kernel_rfl), trivial⟩, rfl⟩, nll, Nat.le_refl _, fun n hn => absurd hn (Nat.not_lt_zero n)⟩
  ·replace h := Qa3 hb3 h
   refine wrg [rb [(.tmp 1, .ref 0 4 0 0)] [(0, (Qgj p0))] (.ref 0 4 0 0), rb [(.tmp 3, .ref 0 4 0 0)] [(0, (Qgj p0))] (I p0.Mass), rp [fu 25, (.tmp 4, I p0.Mass), ci 0, ci 1000000] (B x2), rp [(.tmp 5, B x2)] (B false), sk 6 (B false), sk 6 (B false), sk 6 (B false), sk 6 (B false), sk 6 (B false), sk 6 (B false), rp [(.tmp 6, B false), (.tmp 12, (.lit undef)), cb false] (B false), mv 13 (B false), sk 14 (B false), sk 14 (B false), sk 14 (B false), sk 14 (B false), sk 14 (B false), sk 14 (B false), rp [(.tmp 14, B false), (.tmp 20, (.lit undef)), cb false] (B false), mv 21 (B false), sk 22 (B false), sk 22 (B false), sk 22 (B false), rp [(.tmp 22, B false), (.tmp 25, (.lit undef)), cb false] (B false), mv 26 (B false)] ?_ ?_
   ·exact ⟨afa rfl Try.underlying57 rfl rfl ti3 (by decide) rfl, ald rfl ti3 (by decide) rfl (nle rfl) rfl, apc (first := []) (cap := []) (vs := [I p0.Mass, I 0, I 1000000]) rfl Qfd (Qb7 N p0.Mass 0 1000000 _ hf1) rfl rfl (nlc nll (nlc nll (nlc nll nl0))) nll rfl, asb hb3 (amv rfl), trivial, trivial, trivial, trivial, trivial, trivial, apk rfl rfl, amv rfl, trivial, trivial, trivial, trivial, trivial, trivial, apk rfl rfl, amv rfl, trivial, trivial, trivial, apk rfl rfl, aas rfl, trivial⟩
   refine Qaf ?_
   obtain rfl := osi h
   exact ⟨⟨[B false], ⟨rot (by kernel_rfl), trivial⟩, rfl⟩, nll, Nat.le_refl _, fun n hn => absurd hn (Nat.not_lt_zero n)⟩

end Go.Proofs.Ytlhakkkjgdbdpaa
