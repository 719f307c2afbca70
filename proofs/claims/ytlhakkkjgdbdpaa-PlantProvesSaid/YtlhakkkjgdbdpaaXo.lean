/-
  The arguments of given statements as lists and numbers. No conditions.
-/
import Derived.Test.YtlhakkkjgdbdpaaXt
import Derived.Test.YtlhakkkjgdbdpaaEngZ
namespace Go.Proofs.Ytlhakkkjgdbdpaa
open Go.ChangeShapes Go.WideShapes Go.ChangeAt Go.RowKit Go.Deep Go.Joins
def Qps (x : Int) : Prop := (Lit.int .i64 x).wf = true
def Qy8 (x : GPart) : Prop := Qps x.Width ∧ Qps x.Gain
def Qvp (x : (List GPart)) : Prop := x.length ≤ maxLen ∧ (∀ y ∈ x, Qy8 y) ∧ x.length * 16 ≤ 140737488351232
def Qy7 (x : GUnit) : Prop := Qps x.Inlet ∧ Qvp x.Parts
set_option maxRecDepth 100000 in
theorem opn3 : Opn Try.prog 3 1 Qac Qps := opn_int Try.underlying3 (by kernel_rfl)
set_option maxRecDepth 100000 in
theorem opn115 : Opn Try.prog 115 2 Qav Qy8 := ⟨by kernel_rfl, fun _ => rfl, fun _ _ _ _ _ _ _ _ _ h hw => by
  obtain ⟨xs, n, _, rfl, hl, hx, hf⟩ := DataW.trod_struct Try.underlying115 h
  have hz := Qqj Try.underlying115 hw
  obtain ⟨v0, g0, r0⟩ := Qn8 hf hx hz 0 _ rfl opn3
  obtain ⟨v1, g1, r1⟩ := Qn8 hf hx hz 1 _ rfl opn3
  exact ⟨⟨v0, v1⟩, ⟨g0, g1⟩, rel_all (Qyo (Qu8 r0) r1 rfl) (hl.trans (by kernel_rfl))⟩⟩
set_option maxRecDepth 100000 in
theorem opn22 : Opn Try.prog 22 1 Qt8 Qvp := Qqz Try.underlying22 (by kernel_rfl) opn115 (by decide) (by kernel_rfl)
set_option maxRecDepth 100000 in
theorem opn24 : Opn Try.prog 24 2 Qao Qy7 := ⟨by kernel_rfl, fun _ => rfl, fun _ _ _ _ _ _ _ _ _ h hw => by
  obtain ⟨xs, n, _, rfl, hl, hx, hf⟩ := DataW.trod_struct Try.underlying24 h
  have hz := Qqj Try.underlying24 hw
  obtain ⟨v0, g0, r0⟩ := Qn8 hf hx hz 0 _ rfl opn3
  obtain ⟨v1, g1, r1⟩ := Qn8 hf hx hz 1 _ rfl opn22
  exact ⟨⟨v0, v1⟩, ⟨g0, g1⟩, rel_all (Qyo (Qu8 r0) r1 rfl) (hl.trans (by kernel_rfl))⟩⟩
def Qtp (x : (List Int)) : Prop := x.length ≤ maxLen ∧ (∀ y ∈ x, Qps y) ∧ x.length * 8 ≤ 140737488351232
set_option maxRecDepth 100000 in
theorem opn37 : Opn Try.prog 37 1 Qk5 Qtp := Qqz Try.underlying37 (by kernel_rfl) opn3 (by decide) (by kernel_rfl)
def Qvo (x : (List GUnit)) : Prop := x.length ≤ maxLen ∧ (∀ y ∈ x, Qy7 y) ∧ x.length * 32 ≤ 140737488351232
set_option maxRecDepth 100000 in
theorem opn85 : Opn Try.prog 85 1 c_LGUnit Qvo := Qqz Try.underlying85 (by kernel_rfl) opn24 (by decide) (by kernel_rfl)
def gd_bool (_ : Bool) : Prop := True
end Go.Proofs.Ytlhakkkjgdbdpaa
