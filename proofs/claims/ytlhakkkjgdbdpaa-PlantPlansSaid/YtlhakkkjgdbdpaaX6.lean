/-
  Functions of the program: what they compute, as plain functions, and that they do. No conditions.
-/
import Derived.Test.YtlhakkkjgdbdpaaX5
namespace Go.Proofs.Ytlhakkkjgdbdpaa
open Go.RowKit

def ref01_InX (_N : Nat) (p0 : Int) (p1 : Int) (p2 : Int) : Option Bool :=
  bif (decide (p0 ≥ p1)) then
   some (decide (p0 ≤ p2))
  else
   some false
set_option maxRecDepth 100000 in
set_option maxHeartbeats 4000000 in
theorem ref01_InX_ok (N : Nat) (p0 : Int) (p1 : Int) (p2 : Int) (r : Bool) (h : ref01_InX N p0 p1 p2 = some r) : Spec Try.prog 25 [(I p0), (I p1), (I p2)] [] (B r) [] := by
  refine spec_of_awp Try.func25 rfl 0 (nle rfl) (fun X φ0 w0 hφ0 => ?_)
  unfold ref01_InX at h
  refine wx tbk [] trivial ?_
  rcases bft ((decide (p0 ≥ p1))) with hb1 | hb1
  ·replace h := bif_t hb1 h
   refine wx tbk [(3, rp [(.tmp 9, (B ((decide (p0 ≥ p1)))))] (B true))] ⟨asb hb1 (amv rfl), trivial⟩ ?_
   refine awp_ret ?_
   obtain rfl := osi h
   exact ⟨⟨[(B ((decide (p0 ≤ p2))))], ⟨rot (by kernel_rfl), trivial⟩, rfl⟩, nll, Nat.le_refl _, fun n hn => absurd hn (Nat.not_lt_zero n)⟩
  ·replace h := bif_f hb1 h
   refine wx tbk [(3, rp [(.tmp 9, (B ((decide (p0 ≥ p1)))))] (B false))] ⟨asb hb1 (amv rfl), trivial⟩ ?_
   refine awp_ret ?_
   obtain rfl := osi h
   exact ⟨⟨[B false], ⟨rot (by kernel_rfl), trivial⟩, rfl⟩, nll, Nat.le_refl _, fun n hn => absurd hn (Nat.not_lt_zero n)⟩

def law07_listX (_N : Nat) (p0 : (List Int)) : Option (List Int) :=
  chk (decide ((0 + p0.length) * 8 ≤ 140737488355328)) <|
  some p0
set_option maxRecDepth 100000 in
set_option maxHeartbeats 4000000 in
theorem law07_listX_ok (N : Nat) (p0 : (List Int)) (r : (List Int)) (h : law07_listX N p0 = some r) : Spec Try.prog 37 [(.dat 1 (p0.map c_i64))] [] (.dat 1 (r.map c_i64)) [] := by
  refine spec_of_awp Try.func37 rfl 0 (nle rfl) (fun X φ0 w0 hφ0 => ?_)
  unfold law07_listX at h
  refine wx tbk [] trivial ?_
  obtain ⟨ha1, h⟩ := cko h
  refine wx tbk [(1, ⟨[((.const (.slice none 0 0)), nilS), (.tmp 3, (.dat 1 ((p0 : List Int).map c_i64)))], [(0, .unused)], (.acc 0 3 1 ((p0 : List Int).map c_i64)), [(0, .tok)], false⟩)] ⟨astep_app rfl Try.underlying37 te3 (Base.nil) rfl rfl (ones_map c_i64 one_i64 _) (app_le1n c_i64 ha1) (app_le2n c_i64 ha1 (by decide)) (app_map0 c_i64) rfl rfl, trivial⟩ ?_
  refine awp_ret ?_
  obtain rfl := osi h
  exact ⟨⟨[(.dat 1 ((p0 : List Int).map c_i64))], ⟨resOK_less (v := (.acc 0 3 1 ((p0 : List Int).map c_i64))) (rot (by kernel_rfl)) Less.acc, trivial⟩, rfl⟩, (nld nl_i64 _), Nat.le_refl _, fun n hn => absurd hn (Nat.not_lt_zero n)⟩

end Go.Proofs.Ytlhakkkjgdbdpaa
