/-
  The arguments of given statements as lists and numbers. No conditions.
-/
import Derived.Test.YtflmombnmnblnaaXt
import Derived.Test.YtflmombnmnblnaaEngZ
namespace Go.Proofs.Ytflmombnmnblnaa
set_option maxRecDepth 100000
open Go.ChangeShapes Go.WideShapes Go.ChangeAt Go.RowKit Go.Deep Go.Joins
def gd_i64 (x : Int) : Prop := (Lit.int .i64 x).wf = true
def Qjf (x : GBracket) : Prop := gd_i64 x.Upto ∧ gd_i64 x.Price
def Qio (x : (List GBracket)) : Prop := x.length ≤ maxLen ∧ (∀ y ∈ x, Qjf y) ∧ x.length * 16 ≤ 140737488351232
theorem opn3 : Opn Try.prog 3 1 Qab gd_i64 := opn_int Try.underlying3 (by kernel_rfl)
theorem opn149 : Opn Try.prog 149 2 Qad Qjf := ⟨by kernel_rfl, fun _ => rfl, fun _ _ _ _ _ _ _ _ _ h hw => by
  obtain ⟨xs, n, _, rfl, hl, hx, hf⟩ := DataW.trod_struct Try.underlying149 h
  have hz := weights_agg Try.underlying149 hw
  obtain ⟨v0, g0, r0⟩ := opn_field hf hx hz 0 _ rfl opn3
  obtain ⟨v1, g1, r1⟩ := opn_field hf hx hz 1 _ rfl opn3
  exact ⟨⟨v0, v1⟩, ⟨g0, g1⟩, rel_all (rel_snoc (rel_first r0) r1 rfl) (hl.trans (by kernel_rfl))⟩⟩
theorem opn72 : Opn Try.prog 72 1 c_LGBracket Qio := opn_slice Try.underlying72 (by kernel_rfl) opn149 (by decide) (by kernel_rfl)
def gd_u32 (x : Int) : Prop := (Lit.int .u32 x).wf = true
def gd_Lu32 (x : (List Int)) : Prop := x.length ≤ maxLen ∧ (∀ y ∈ x, gd_u32 y) ∧ x.length * 4 ≤ 140737488351232
theorem opn75 : Opn Try.prog 75 1 Qe2 gd_u32 := opn_int Try.underlying75 (by kernel_rfl)
theorem opn73 : Opn Try.prog 73 1 c_Lu32 gd_Lu32 := opn_slice Try.underlying73 (by kernel_rfl) opn75 (by decide) (by kernel_rfl)
end Go.Proofs.Ytflmombnmnblnaa
