/-
  The arguments of given statements as lists and numbers. No conditions.
-/
import Derived.Test.YtlhakkkjgdbdpaaXt
import Derived.Test.YtlhakkkjgdbdpaaEngZ
namespace Go.Proofs.Ytlhakkkjgdbdpaa
open Go.ChangeShapes Go.WideShapes Go.ChangeAt Go.RowKit Go.Deep Go.Joins
def Qoh (x : Int) : Prop := (Lit.int .i64 x).wf = true
set_option maxRecDepth 100000 in
theorem opn3 : Opn Try.prog 3 1 Qab Qoh := opn_int Try.underlying3 (by kernel_rfl)
def Qtv (x : (List Int)) : Prop := x.length ≤ maxLen ∧ (∀ y ∈ x, Qoh y) ∧ x.length * 8 ≤ 140737488351232
def Qvh (x : GHour) : Prop := Qoh x.Price ∧ Qoh x.Most
def Qsb (x : (List GHour)) : Prop := x.length ≤ maxLen ∧ (∀ y ∈ x, Qvh y) ∧ x.length * 16 ≤ 140737488351232
def gd_GJob (x : GJob) : Prop := Qtv x.Levels ∧ Qoh x.Ramp ∧ Qoh x.Start ∧ Qoh x.First ∧ Qsb x.Hours
set_option maxRecDepth 100000 in
theorem opn37 : Opn Try.prog 37 1 Qdx Qtv := Qr5 Try.underlying37 (by kernel_rfl) opn3 (by decide) (by kernel_rfl)
set_option maxRecDepth 100000 in
theorem opn119 : Opn Try.prog 119 2 Qay Qvh := ⟨by kernel_rfl, fun _ => rfl, fun _ _ _ _ _ _ _ _ _ h hw => by
  obtain ⟨xs, n, _, rfl, hl, hx, hf⟩ := DataW.trod_struct Try.underlying119 h
  have hz := Qn1 Try.underlying119 hw
  obtain ⟨v0, g0, r0⟩ := Qiu hf hx hz 0 _ rfl opn3
  obtain ⟨v1, g1, r1⟩ := Qiu hf hx hz 1 _ rfl opn3
  exact ⟨⟨v0, v1⟩, ⟨g0, g1⟩, Qyz (Ql8 (Qrw r0) r1 rfl) (hl.trans (by kernel_rfl))⟩⟩
set_option maxRecDepth 100000 in
theorem opn38 : Opn Try.prog 38 1 Qvs Qsb := Qr5 Try.underlying38 (by kernel_rfl) opn119 (by decide) (by kernel_rfl)
set_option maxRecDepth 100000 in
theorem opn40 : Opn Try.prog 40 5 Qhb gd_GJob := ⟨by kernel_rfl, fun _ => rfl, fun _ _ _ _ _ _ _ _ _ h hw => by
  obtain ⟨xs, n, _, rfl, hl, hx, hf⟩ := DataW.trod_struct Try.underlying40 h
  have hz := Qn1 Try.underlying40 hw
  obtain ⟨v0, g0, r0⟩ := Qiu hf hx hz 0 _ rfl opn37
  obtain ⟨v1, g1, r1⟩ := Qiu hf hx hz 1 _ rfl opn3
  obtain ⟨v2, g2, r2⟩ := Qiu hf hx hz 2 _ rfl opn3
  obtain ⟨v3, g3, r3⟩ := Qiu hf hx hz 3 _ rfl opn3
  obtain ⟨v4, g4, r4⟩ := Qiu hf hx hz 4 _ rfl opn38
  exact ⟨⟨v0, v1, v2, v3, v4⟩, ⟨g0, g1, g2, g3, g4⟩, Qyz (Ql8 (Ql8 (Ql8 (Ql8 (Qrw r0) r1 rfl) r2 rfl) r3 rfl) r4 rfl) (hl.trans (by kernel_rfl))⟩⟩
end Go.Proofs.Ytlhakkkjgdbdpaa
