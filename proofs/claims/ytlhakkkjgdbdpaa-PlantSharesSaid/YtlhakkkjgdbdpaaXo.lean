/-
  The arguments of given statements as lists and numbers. No conditions.
-/
import Derived.Test.YtlhakkkjgdbdpaaXt
import Derived.Test.YtlhakkkjgdbdpaaEngZ
namespace Go.Proofs.Ytlhakkkjgdbdpaa
open Go.ChangeShapes Go.WideShapes Go.ChangeAt Go.RowKit Go.Deep Go.Joins
def Quo (x : Int) : Prop := (Lit.int .i64 x).wf = true
def Qx7 (x : GPart) : Prop := Quo x.Width ∧ Quo x.Gain
def Quq (x : (List GPart)) : Prop := x.length ≤ maxLen ∧ (∀ y ∈ x, Qx7 y) ∧ x.length * 16 ≤ 140737488351232
def Qx6 (x : GUnit) : Prop := Quo x.Inlet ∧ Quq x.Parts
set_option maxRecDepth 100000 in
theorem opn3 : Opn Try.prog 3 1 Qab Quo := opn_int Try.underlying3 (by kernel_rfl)
set_option maxRecDepth 100000 in
theorem opn115 : Opn Try.prog 115 2 Qau Qx7 := ⟨by kernel_rfl, fun _ => rfl, fun _ _ _ _ _ _ _ _ _ h hw => by
  obtain ⟨xs, n, _, rfl, hl, hx, hf⟩ := DataW.trod_struct Try.underlying115 h
  have hz := Qpp Try.underlying115 hw
  obtain ⟨v0, g0, r0⟩ := Qnx hf hx hz 0 _ rfl opn3
  obtain ⟨v1, g1, r1⟩ := Qnx hf hx hz 1 _ rfl opn3
  exact ⟨⟨v0, v1⟩, ⟨g0, g1⟩, rel_all (Qxl (Qua r0) r1 rfl) (hl.trans (by kernel_rfl))⟩⟩
set_option maxRecDepth 100000 in
theorem opn22 : Opn Try.prog 22 1 Qs6 Quq := Qp6 Try.underlying22 (by kernel_rfl) opn115 (by decide) (by kernel_rfl)
set_option maxRecDepth 100000 in
theorem opn24 : Opn Try.prog 24 2 Qan Qx6 := ⟨by kernel_rfl, fun _ => rfl, fun _ _ _ _ _ _ _ _ _ h hw => by
  obtain ⟨xs, n, _, rfl, hl, hx, hf⟩ := DataW.trod_struct Try.underlying24 h
  have hz := Qpp Try.underlying24 hw
  obtain ⟨v0, g0, r0⟩ := Qnx hf hx hz 0 _ rfl opn3
  obtain ⟨v1, g1, r1⟩ := Qnx hf hx hz 1 _ rfl opn22
  exact ⟨⟨v0, v1⟩, ⟨g0, g1⟩, rel_all (Qxl (Qua r0) r1 rfl) (hl.trans (by kernel_rfl))⟩⟩
def Qwf (x : (List Int)) : Prop := x.length ≤ maxLen ∧ (∀ y ∈ x, Quo y) ∧ x.length * 8 ≤ 140737488351232
set_option maxRecDepth 100000 in
theorem opn37 : Opn Try.prog 37 1 Qkt Qwf := Qp6 Try.underlying37 (by kernel_rfl) opn3 (by decide) (by kernel_rfl)
def Qup (x : (List GUnit)) : Prop := x.length ≤ maxLen ∧ (∀ y ∈ x, Qx6 y) ∧ x.length * 32 ≤ 140737488351232
set_option maxRecDepth 100000 in
theorem opn85 : Opn Try.prog 85 1 Qyj Qup := Qp6 Try.underlying85 (by kernel_rfl) opn24 (by decide) (by kernel_rfl)
end Go.Proofs.Ytlhakkkjgdbdpaa
