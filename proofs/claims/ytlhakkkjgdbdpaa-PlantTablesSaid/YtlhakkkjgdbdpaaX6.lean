/-
  Functions of the program: what they compute, as plain functions, and that they do. No conditions.
-/
import Derived.Test.YtlhakkkjgdbdpaaX5
namespace Go.Proofs.Ytlhakkkjgdbdpaa
open Go.RowKit
def Qez (_N : Nat) (p0 : Int) (p1 : Int) (p2 : Int) : Option Bool :=
  bif (decide (p0 ≥ p1)) then
   some (decide (p0 ≤ p2))
  else
   some false
set_option maxRecDepth 100000 in
set_option maxHeartbeats 4000000 in
theorem Qb4 (N : Nat) (p0 : Int) (p1 : Int) (p2 : Int) (r : Bool) (h : Qez N p0 p1 p2 = some r) : Spec Try.prog 25 [(I p0), (I p1), (I p2)] [] (B r) [] := by
  refine Qae Try.func25 rfl 0 (nle rfl) (fun X φ0 w0 hφ0 => ?_)
  unfold Qez at h
  refine wx tbk [] trivial ?_
  rcases bft ((decide (p0 ≥ p1))) with hb1 | hb1
  ·replace h := Qas hb1 h
   refine wx tbk [(3, rp [(.tmp 9, (B ((decide (p0 ≥ p1)))))] (B true))] ⟨asb hb1 (amv rfl), trivial⟩ ?_
   refine Qad ?_
   obtain rfl := osi h
   exact fend ⟨[(B ((decide (p0 ≤ p2))))], ⟨rot (by kernel_rfl), trivial⟩, rfl⟩ nll
  ·replace h := Qat hb1 h
   refine wx tbk [(3, rp [(.tmp 9, (B ((decide (p0 ≥ p1)))))] (B false))] ⟨asb hb1 (amv rfl), trivial⟩ ?_
   refine Qad ?_
   obtain rfl := osi h
   exact fend ⟨[B false], ⟨rot (by kernel_rfl), trivial⟩, rfl⟩ nll
def Qf5 (_N : Nat) (p0 : (List Int)) : Option (List Int) :=
  chk (decide ((0 + p0.length) * 8 ≤ 140737488355328)) <|
  some p0
set_option maxRecDepth 100000 in
set_option maxHeartbeats 4000000 in
theorem Qic (N : Nat) (p0 : (List Int)) (r : (List Int)) (h : Qf5 N p0 = some r) : Spec Try.prog 37 [(.dat 1 (p0.map Qab))] [] (.dat 1 (r.map Qab)) [] := by
  refine Qae Try.func37 rfl 0 (nle rfl) (fun X φ0 w0 hφ0 => ?_)
  unfold Qf5 at h
  refine wx tbk [] trivial ?_
  obtain ⟨ha1, h⟩ := cko h
  refine wx tbk [(1, ⟨[((.const (.slice none 0 0)), nilS), (.tmp 3, (.dat 1 ((p0 : List Int).map Qab)))], [(0, .unused)], (.acc 0 3 1 ((p0 : List Int).map Qab)), [(0, .tok)], false⟩)] ⟨Qg4 rfl Try.underlying37 te3 (Base.nil) rfl rfl (Qnh Qab Qpw _) (Qnp Qab ha1) (Qno Qab ha1 (by decide)) (Qo4 Qab) rfl rfl, trivial⟩ ?_
  refine Qad ?_
  obtain rfl := osi h
  exact fend ⟨[(.dat 1 ((p0 : List Int).map Qab))], ⟨Qga (v := (.acc 0 3 1 ((p0 : List Int).map Qab))) (rot (by kernel_rfl)) Less.acc, trivial⟩, rfl⟩ (nld Qaa _)
end Go.Proofs.Ytlhakkkjgdbdpaa
