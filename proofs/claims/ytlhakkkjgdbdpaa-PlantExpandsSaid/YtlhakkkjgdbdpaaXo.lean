/-
  The arguments of given statements as lists and numbers. No conditions.
-/
import Derived.Test.YtlhakkkjgdbdpaaXt
import Derived.Test.YtlhakkkjgdbdpaaEngZ
namespace Go.Proofs.Ytlhakkkjgdbdpaa
open Go.ChangeShapes Go.WideShapes Go.ChangeAt Go.RowKit Go.Deep Go.Joins

def gd_i64 (x : Int) : Prop := (Lit.int .i64 x).wf = true
def gd_GPart (x : GPart) : Prop := gd_i64 x.Width ∧ gd_i64 x.Gain
def gd_LGPart (x : (List GPart)) : Prop := x.length ≤ maxLen ∧ ∀ y ∈ x, gd_GPart y
def gd_GUnit (x : GUnit) : Prop := gd_i64 x.Inlet ∧ gd_LGPart x.Parts
set_option maxRecDepth 100000 in
theorem opn3 : Opn Try.prog 3 1 Qaa gd_i64 := opn_int Try.underlying3 (by kernel_rfl)
set_option maxRecDepth 100000 in
theorem opn115 : Opn Try.prog 115 2 Qap gd_GPart := ⟨by kernel_rfl, fun _ => rfl, fun _ _ _ _ _ _ _ _ _ h => by
  obtain ⟨xs, n, _, _, hl, hx, hf⟩ := DataW.trod_struct Try.underlying115 h
  obtain ⟨v0, g0, r0⟩ := Qhw hf hx 0 _ rfl opn3
  obtain ⟨v1, g1, r1⟩ := Qhw hf hx 1 _ rfl opn3
  exact ⟨⟨v0, v1⟩, ⟨g0, g1⟩, rel_all (rel_snoc (rel_first r0) r1 rfl) (hl.trans (by kernel_rfl))⟩⟩
set_option maxRecDepth 100000 in
theorem opn22 : Opn Try.prog 22 1 c_LGPart gd_LGPart := opn_slice Try.underlying22 (by kernel_rfl) opn115 (by decide)
set_option maxRecDepth 100000 in
theorem opn24 : Opn Try.prog 24 2 Qat gd_GUnit := ⟨by kernel_rfl, fun _ => rfl, fun _ _ _ _ _ _ _ _ _ h => by
  obtain ⟨xs, n, _, _, hl, hx, hf⟩ := DataW.trod_struct Try.underlying24 h
  obtain ⟨v0, g0, r0⟩ := Qhw hf hx 0 _ rfl opn3
  obtain ⟨v1, g1, r1⟩ := Qhw hf hx 1 _ rfl opn22
  exact ⟨⟨v0, v1⟩, ⟨g0, g1⟩, rel_all (rel_snoc (rel_first r0) r1 rfl) (hl.trans (by kernel_rfl))⟩⟩
def gd_GStream (x : GStream) : Prop := gd_i64 x.Mass ∧ gd_i64 x.Heat ∧ gd_i64 x.Silica ∧ gd_i64 x.Gas
set_option maxRecDepth 100000 in
theorem opn57 : Opn Try.prog 57 4 Qad gd_GStream := ⟨by kernel_rfl, fun _ => rfl, fun _ _ _ _ _ _ _ _ _ h => by
  obtain ⟨xs, n, _, _, hl, hx, hf⟩ := DataW.trod_struct Try.underlying57 h
  obtain ⟨v0, g0, r0⟩ := Qhw hf hx 0 _ rfl opn3
  obtain ⟨v1, g1, r1⟩ := Qhw hf hx 1 _ rfl opn3
  obtain ⟨v2, g2, r2⟩ := Qhw hf hx 2 _ rfl opn3
  obtain ⟨v3, g3, r3⟩ := Qhw hf hx 3 _ rfl opn3
  exact ⟨⟨v0, v1, v2, v3⟩, ⟨g0, g1, g2, g3⟩, rel_all (rel_snoc (rel_snoc (rel_snoc (rel_first r0) r1 rfl) r2 rfl) r3 rfl) (hl.trans (by kernel_rfl))⟩⟩
end Go.Proofs.Ytlhakkkjgdbdpaa
