/-
  The arguments of given statements as lists and numbers. No conditions.
-/
import Derived.Test.YtlhakkkjgdbdpaaXt
import Derived.Test.YtlhakkkjgdbdpaaEngZ
namespace Go.Proofs.Ytlhakkkjgdbdpaa
open Go.ChangeShapes Go.WideShapes Go.ChangeAt Go.RowKit Go.Deep Go.Joins
def Qt3 (x : Int) : Prop := (Lit.int .i64 x).wf = true
def Qxo (x : GPart) : Prop := Qt3 x.Width ∧ Qt3 x.Gain
def Qt5 (x : (List GPart)) : Prop := x.length ≤ maxLen ∧ (∀ y ∈ x, Qxo y) ∧ x.length * 16 ≤ 140737488351232
def Qxn (x : GUnit) : Prop := Qt3 x.Inlet ∧ Qt5 x.Parts
set_option maxRecDepth 100000 in
theorem opn3 : Opn Try.prog 3 1 Qab Qt3 := opn_int Try.underlying3 (by kernel_rfl)
set_option maxRecDepth 100000 in
theorem opn115 : Opn Try.prog 115 2 Qa4 Qxo := ⟨by kernel_rfl, fun _ => rfl, fun _ _ _ _ _ _ _ _ _ h hw => by
  obtain ⟨xs, n, _, rfl, hl, hx, hf⟩ := DataW.trod_struct Try.underlying115 h
  have hz := Qpc Try.underlying115 hw
  obtain ⟨v0, g0, r0⟩ := Qnj hf hx hz 0 _ rfl opn3
  obtain ⟨v1, g1, r1⟩ := Qnj hf hx hz 1 _ rfl opn3
  exact ⟨⟨v0, v1⟩, ⟨g0, g1⟩, rel_all (Qw2 (Qtl r0) r1 rfl) (hl.trans (by kernel_rfl))⟩⟩
set_option maxRecDepth 100000 in
theorem opn22 : Opn Try.prog 22 1 Qsn Qt5 := Qpp Try.underlying22 (by kernel_rfl) opn115 (by decide) (by kernel_rfl)
set_option maxRecDepth 100000 in
theorem opn24 : Opn Try.prog 24 2 Qat Qxn := ⟨by kernel_rfl, fun _ => rfl, fun _ _ _ _ _ _ _ _ _ h hw => by
  obtain ⟨xs, n, _, rfl, hl, hx, hf⟩ := DataW.trod_struct Try.underlying24 h
  have hz := Qpc Try.underlying24 hw
  obtain ⟨v0, g0, r0⟩ := Qnj hf hx hz 0 _ rfl opn3
  obtain ⟨v1, g1, r1⟩ := Qnj hf hx hz 1 _ rfl opn22
  exact ⟨⟨v0, v1⟩, ⟨g0, g1⟩, rel_all (Qw2 (Qtl r0) r1 rfl) (hl.trans (by kernel_rfl))⟩⟩
def Qr8 (x : (List Int)) : Prop := x.length ≤ maxLen ∧ (∀ y ∈ x, Qt3 y) ∧ x.length * 8 ≤ 140737488351232
set_option maxRecDepth 100000 in
theorem opn37 : Opn Try.prog 37 1 Qke Qr8 := Qpp Try.underlying37 (by kernel_rfl) opn3 (by decide) (by kernel_rfl)
def Qt4 (x : (List GUnit)) : Prop := x.length ≤ maxLen ∧ (∀ y ∈ x, Qxn y) ∧ x.length * 32 ≤ 140737488351232
set_option maxRecDepth 100000 in
theorem opn85 : Opn Try.prog 85 1 Qx1 Qt4 := Qpp Try.underlying85 (by kernel_rfl) opn24 (by decide) (by kernel_rfl)
def gd_u8 (x : Int) : Prop := (Lit.int .u8 x).wf = true
def gd_u16 (x : Int) : Prop := (Lit.int .u16 x).wf = true
end Go.Proofs.Ytlhakkkjgdbdpaa
