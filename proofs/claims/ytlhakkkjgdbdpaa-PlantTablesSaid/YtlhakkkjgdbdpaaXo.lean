/-
  The arguments of given statements as lists and numbers. No conditions.
-/
import Derived.Test.YtlhakkkjgdbdpaaXt
import Derived.Test.YtlhakkkjgdbdpaaEngZ
namespace Go.Proofs.Ytlhakkkjgdbdpaa
open Go.ChangeShapes Go.WideShapes Go.ChangeAt Go.RowKit Go.Deep Go.Joins
def Ql0 (x : Int) : Prop := (Lit.int .i64 x).wf = true
set_option maxRecDepth 100000 in
theorem opn3 : Opn Try.prog 3 1 Qab Ql0 := opn_int Try.underlying3 (by kernel_rfl)
def Qr7 (x : (List Int)) : Prop := x.length ≤ maxLen ∧ (∀ y ∈ x, Ql0 y) ∧ x.length * 8 ≤ 140737488351232
def Qxb (x : GHour) : Prop := Ql0 x.Price ∧ Ql0 x.Most
def Qt2 (x : (List GHour)) : Prop := x.length ≤ maxLen ∧ (∀ y ∈ x, Qxb y) ∧ x.length * 16 ≤ 140737488351232
def gd_GJob (x : GJob) : Prop := Qr7 x.Levels ∧ Ql0 x.Ramp ∧ Ql0 x.Start ∧ Ql0 x.First ∧ Qt2 x.Hours
set_option maxRecDepth 100000 in
theorem opn37 : Opn Try.prog 37 1 Qa3 Qr7 := Qpv Try.underlying37 (by kernel_rfl) opn3 (by decide) (by kernel_rfl)
set_option maxRecDepth 100000 in
theorem opn119 : Opn Try.prog 119 2 Qax Qxb := ⟨by kernel_rfl, fun _ => rfl, fun _ _ _ _ _ _ _ _ _ h hw => by
  obtain ⟨xs, n, _, rfl, hl, hx, hf⟩ := DataW.trod_struct Try.underlying119 h
  have hz := Qpe Try.underlying119 hw
  obtain ⟨v0, g0, r0⟩ := Qjl hf hx hz 0 _ rfl opn3
  obtain ⟨v1, g1, r1⟩ := Qjl hf hx hz 1 _ rfl opn3
  exact ⟨⟨v0, v1⟩, ⟨g0, g1⟩, rel_all (Qne (Qtm r0) r1 rfl) (hl.trans (by kernel_rfl))⟩⟩
set_option maxRecDepth 100000 in
theorem opn38 : Opn Try.prog 38 1 Qxl Qt2 := Qpv Try.underlying38 (by kernel_rfl) opn119 (by decide) (by kernel_rfl)
set_option maxRecDepth 100000 in
theorem opn40 : Opn Try.prog 40 5 Qhk gd_GJob := ⟨by kernel_rfl, fun _ => rfl, fun _ _ _ _ _ _ _ _ _ h hw => by
  obtain ⟨xs, n, _, rfl, hl, hx, hf⟩ := DataW.trod_struct Try.underlying40 h
  have hz := Qpe Try.underlying40 hw
  obtain ⟨v0, g0, r0⟩ := Qjl hf hx hz 0 _ rfl opn37
  obtain ⟨v1, g1, r1⟩ := Qjl hf hx hz 1 _ rfl opn3
  obtain ⟨v2, g2, r2⟩ := Qjl hf hx hz 2 _ rfl opn3
  obtain ⟨v3, g3, r3⟩ := Qjl hf hx hz 3 _ rfl opn3
  obtain ⟨v4, g4, r4⟩ := Qjl hf hx hz 4 _ rfl opn38
  exact ⟨⟨v0, v1, v2, v3, v4⟩, ⟨g0, g1, g2, g3, g4⟩, rel_all (Qne (Qne (Qne (Qne (Qtm r0) r1 rfl) r2 rfl) r3 rfl) r4 rfl) (hl.trans (by kernel_rfl))⟩⟩
def Qxa (x : (List (List Int))) : Prop := x.length ≤ maxLen ∧ (∀ y ∈ x, Qr7 y) ∧ x.length * 24 ≤ 140737488351232
set_option maxRecDepth 100000 in
theorem opn42 : Opn Try.prog 42 1 c_LLi64 Qxa := Qpv Try.underlying42 (by kernel_rfl) opn37 (by decide) (by kernel_rfl)
def gd_bool (_ : Bool) : Prop := True
end Go.Proofs.Ytlhakkkjgdbdpaa
