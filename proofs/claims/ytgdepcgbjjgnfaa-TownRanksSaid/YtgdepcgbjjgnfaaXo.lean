/-
  The arguments of given statements as lists and numbers. No conditions.
-/
import Derived.Test.YtgdepcgbjjgnfaaXt
import Derived.Test.YtgdepcgbjjgnfaaEngZ
namespace Go.Proofs.Ytgdepcgbjjgnfaa
open Go.ChangeShapes Go.WideShapes Go.ChangeAt Go.RowKit Go.Deep Go.Joins
def Ql7 (x : Int) : Prop := (Lit.int .i64 x).wf = true
set_option maxRecDepth 100000 in
theorem opn3 : Opn Try.prog 3 1 Qac Ql7 := Qvu Try.underlying3 (by kernel_rfl)
def Qsz (x : GNode) : Prop := Ql7 x.Parent ∧ Ql7 x.Loss ∧ Ql7 x.Limit ∧ Ql7 x.Rank
def Qpr (x : (List GNode)) : Prop := x.length ≤ maxLen ∧ (∀ y ∈ x, Qsz y) ∧ x.length * 32 ≤ 140737488351232
set_option maxRecDepth 100000 in
theorem opn56 : Opn Try.prog 56 4 Qad Qsz := ⟨by kernel_rfl, fun _ => rfl, fun _ _ _ _ _ _ _ _ _ h hw => by
  obtain ⟨xs, n, _, rfl, hl, hx, hf⟩ := DataW.trod_struct Try.underlying56 h
  have hz := Qqr Try.underlying56 hw
  obtain ⟨v0, g0, r0⟩ := Qka hf hx hz 0 _ rfl opn3
  obtain ⟨v1, g1, r1⟩ := Qka hf hx hz 1 _ rfl opn3
  obtain ⟨v2, g2, r2⟩ := Qka hf hx hz 2 _ rfl opn3
  obtain ⟨v3, g3, r3⟩ := Qka hf hx hz 3 _ rfl opn3
  exact ⟨⟨v0, v1, v2, v3⟩, ⟨g0, g1, g2, g3⟩, rel_all (Qn2 (Qn2 (Qn2 (Qvo r0) r1 rfl) r2 rfl) r3 rfl) (hl.trans (by kernel_rfl))⟩⟩
set_option maxRecDepth 100000 in
theorem opn22 : Opn Try.prog 22 1 Qyy Qpr := Qpn Try.underlying22 (by kernel_rfl) opn56 (by decide) (by kernel_rfl)
def Qwb (x : (List Int)) : Prop := x.length ≤ maxLen ∧ (∀ y ∈ x, Ql7 y) ∧ x.length * 8 ≤ 140737488351232
set_option maxRecDepth 100000 in
theorem opn23 : Opn Try.prog 23 1 c_Li64 Qwb := Qpn Try.underlying23 (by kernel_rfl) opn3 (by decide) (by kernel_rfl)
end Go.Proofs.Ytgdepcgbjjgnfaa
