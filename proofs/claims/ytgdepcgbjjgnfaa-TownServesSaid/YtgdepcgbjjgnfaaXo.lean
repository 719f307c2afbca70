/-
  The arguments of given statements as lists and numbers. No conditions.
-/
import Derived.Test.YtgdepcgbjjgnfaaXt
import Derived.Test.YtgdepcgbjjgnfaaEngZ
namespace Go.Proofs.Ytgdepcgbjjgnfaa
open Go.ChangeShapes Go.WideShapes Go.ChangeAt Go.RowKit Go.Deep Go.Joins
def Ql2 (x : Int) : Prop := (Lit.int .i64 x).wf = true
set_option maxRecDepth 100000 in
theorem opn3 : Opn Try.prog 3 1 Qac Ql2 := Qvd Try.underlying3 (by kernel_rfl)
def Qsm (x : GNode) : Prop := Ql2 x.Parent ∧ Ql2 x.Loss ∧ Ql2 x.Limit ∧ Ql2 x.Rank
def Qph (x : (List GNode)) : Prop := x.length ≤ maxLen ∧ (∀ y ∈ x, Qsm y) ∧ x.length * 32 ≤ 140737488351232
set_option maxRecDepth 100000 in
theorem opn56 : Opn Try.prog 56 4 Qad Qsm := ⟨by kernel_rfl, fun _ => rfl, fun _ _ _ _ _ _ _ _ _ h hw => by
  obtain ⟨xs, n, _, rfl, hl, hx, hf⟩ := DataW.trod_struct Try.underlying56 h
  have hz := Qqc Try.underlying56 hw
  obtain ⟨v0, g0, r0⟩ := Qj9 hf hx hz 0 _ rfl opn3
  obtain ⟨v1, g1, r1⟩ := Qj9 hf hx hz 1 _ rfl opn3
  obtain ⟨v2, g2, r2⟩ := Qj9 hf hx hz 2 _ rfl opn3
  obtain ⟨v3, g3, r3⟩ := Qj9 hf hx hz 3 _ rfl opn3
  exact ⟨⟨v0, v1, v2, v3⟩, ⟨g0, g1, g2, g3⟩, rel_all (Qny (Qny (Qny (Qu7 r0) r1 rfl) r2 rfl) r3 rfl) (hl.trans (by kernel_rfl))⟩⟩
set_option maxRecDepth 100000 in
theorem opn22 : Opn Try.prog 22 1 Qyj Qph := Qpd Try.underlying22 (by kernel_rfl) opn56 (by decide) (by kernel_rfl)
def Qvx (x : (List Int)) : Prop := x.length ≤ maxLen ∧ (∀ y ∈ x, Ql2 y) ∧ x.length * 8 ≤ 140737488351232
set_option maxRecDepth 100000 in
theorem opn23 : Opn Try.prog 23 1 c_Li64 Qvx := Qpd Try.underlying23 (by kernel_rfl) opn3 (by decide) (by kernel_rfl)
end Go.Proofs.Ytgdepcgbjjgnfaa
