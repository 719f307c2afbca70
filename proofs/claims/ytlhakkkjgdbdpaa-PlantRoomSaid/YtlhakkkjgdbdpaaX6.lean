/-
  Functions of the program: what they compute, as plain functions, and that they do. No conditions.
-/
import Derived.Test.YtlhakkkjgdbdpaaX5
namespace Go.Proofs.Ytlhakkkjgdbdpaa
open Go.RowKit

def ref01_InX (_N : Nat) (p0 : Int) (p1 : Int) (p2 : Int) : Option Bool :=
  bif (decide (p0 ≥ p1)) then
   some (decide (p0 ≤ p2))
  else
   some false
set_option maxRecDepth 100000 in
set_option maxHeartbeats 4000000 in
theorem ref01_InX_ok (N : Nat) (p0 : Int) (p1 : Int) (p2 : Int) (r : Bool) (h : ref01_InX N p0 p1 p2 = some r) : Spec Try.prog 25 [(I p0), (I p1), (I p2)] [] (B r) [] := by
  refine spec_of_awp Try.func25 rfl 0 (nle rfl) (fun X φ0 w0 hφ0 => ?_)
  unfold ref01_InX at h
  refine wrg [mc (.bool false)] ?_ ?_
  ·exact ⟨aas rfl, trivial⟩
  rcases bft ((decide (p0 ≥ p1))) with hb1 | hb1
  ·replace h := bif_t hb1 h
   refine wrg [mv 0 (I p0), mv 1 (I p1), rp [(.tmp 7, I p0), (.tmp 8, I p1)] (B ((decide (p0 ≥ p1)))), rp [(.tmp 9, (B ((decide (p0 ≥ p1)))))] (B true), rp [(.tmp 10, B true), (.tmp 0, I p0)] (I p0), rp [(.tmp 10, B true), (.tmp 2, I p2)] (I p2), rp [(.tmp 10, B true), (.tmp 11, I p0), (.tmp 12, I p2)] (B ((decide (p0 ≤ p2)))), rp [(.tmp 10, B true), (.tmp 13, (B ((decide (p0 ≤ p2))))), cb false] (B ((decide (p0 ≤ p2)))), mv 14 (B ((decide (p0 ≤ p2))))] ?_ ?_
   ·exact ⟨amv rfl, amv rfl, abn rfl rfl, asb hb1 (amv rfl), ag_ (amv rfl), ag_ (amv rfl), ag_ (abn rfl rfl), apk rfl rfl, aas rfl, trivial⟩
   refine awp_ret ?_
   obtain rfl := osi h
   exact ⟨⟨[(B ((decide (p0 ≤ p2))))], ⟨rot (by kernel_rfl), trivial⟩, rfl⟩, nll, Nat.le_refl _, fun n hn => absurd hn (Nat.not_lt_zero n)⟩
  ·replace h := bif_f hb1 h
   refine wrg [mv 0 (I p0), mv 1 (I p1), rp [(.tmp 7, I p0), (.tmp 8, I p1)] (B ((decide (p0 ≥ p1)))), rp [(.tmp 9, (B ((decide (p0 ≥ p1)))))] (B false), sk 10 (B false), sk 10 (B false), sk 10 (B false), rp [(.tmp 10, B false), (.tmp 13, (.lit undef)), cb false] (B false), mv 14 (B false)] ?_ ?_
   ·exact ⟨amv rfl, amv rfl, abn rfl rfl, asb hb1 (amv rfl), trivial, trivial, trivial, apk rfl rfl, aas rfl, trivial⟩
   refine awp_ret ?_
   obtain rfl := osi h
   exact ⟨⟨[B false], ⟨rot (by kernel_rfl), trivial⟩, rfl⟩, nll, Nat.le_refl _, fun n hn => absurd hn (Nat.not_lt_zero n)⟩

def law07_listX (_N : Nat) (p0 : (List Int)) : Option (List Int) :=
  chk (decide ((0 + p0.length) * 8 ≤ 140737488355328)) <|
  some p0
set_option maxRecDepth 100000 in
set_option maxHeartbeats 4000000 in
theorem law07_listX_ok (N : Nat) (p0 : (List Int)) (r : (List Int)) (h : law07_listX N p0 = some r) : Spec Try.prog 37 [(.dat 1 (p0.map c_i64))] [] (.dat 1 (r.map c_i64)) [] := by
  refine spec_of_awp Try.func37 rfl 0 (nle rfl) (fun X φ0 w0 hφ0 => ?_)
  unfold law07_listX at h
  refine wrg [mc (.slice none 0 0)] ?_ ?_
  ·exact ⟨aas rfl, trivial⟩
  obtain ⟨ha1, h⟩ := cko h
  refine wrg [mv 0 (.dat 1 ((p0 : List Int).map c_i64)), ⟨[((.const (.slice none 0 0)), nilS), (.tmp 3, (.dat 1 ((p0 : List Int).map c_i64)))], [(0, .unused)], (.acc 0 3 1 ((p0 : List Int).map c_i64)), [(0, .tok)], false⟩, mv 4 (.acc 0 3 1 ((p0 : List Int).map c_i64))] ?_ ?_
  ·exact ⟨amv rfl, astep_app rfl Try.underlying37 te3 (Base.nil) rfl rfl (ones_map c_i64 one_i64 _) (app_le1n c_i64 ha1) (app_le2n c_i64 ha1 (by decide)) (app_map0 c_i64) rfl rfl, aas rfl, trivial⟩
  refine awp_ret ?_
  obtain rfl := osi h
  exact ⟨⟨[(.dat 1 ((p0 : List Int).map c_i64))], ⟨resOK_less (v := (.acc 0 3 1 ((p0 : List Int).map c_i64))) (rot (by kernel_rfl)) Less.acc, trivial⟩, rfl⟩, (nld nl_i64 _), Nat.le_refl _, fun n hn => absurd hn (Nat.not_lt_zero n)⟩

end Go.Proofs.Ytlhakkkjgdbdpaa
