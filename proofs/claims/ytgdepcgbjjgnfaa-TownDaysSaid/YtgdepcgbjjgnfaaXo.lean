/-
  The arguments of given statements as lists and numbers. No conditions.
-/
import Derived.Test.YtgdepcgbjjgnfaaXt
import Derived.Test.YtgdepcgbjjgnfaaEngZ
namespace Go.Proofs.Ytgdepcgbjjgnfaa
open Go.ChangeShapes Go.WideShapes Go.ChangeAt Go.RowKit Go.Deep Go.Joins

def gd_i64 (x : Int) : Prop := (Lit.int .i64 x).wf = true
def gd_GBracket (x : GBracket) : Prop := gd_i64 x.Upto ∧ gd_i64 x.Price
def gd_LGBracket (x : (List GBracket)) : Prop := x.length ≤ maxLen ∧ ∀ y ∈ x, gd_GBracket y
set_option maxRecDepth 100000 in
theorem opn3 : Opn Try.prog 3 1 c_i64 gd_i64 := opn_int Try.underlying3 (by kernel_rfl)
set_option maxRecDepth 100000 in
theorem opn166 : Opn Try.prog 166 2 c_GBracket gd_GBracket := ⟨by kernel_rfl, fun _ => rfl, fun _ _ _ _ _ _ _ _ _ h => by
  obtain ⟨xs, n, _, _, hl, hx, hf⟩ := DataW.trod_struct Try.underlying166 h
  obtain ⟨v0, g0, r0⟩ := opn_field hf hx 0 _ rfl opn3
  obtain ⟨v1, g1, r1⟩ := opn_field hf hx 1 _ rfl opn3
  exact ⟨⟨v0, v1⟩, ⟨g0, g1⟩, rel_all (rel_snoc (rel_first r0) r1 rfl) (hl.trans (by kernel_rfl))⟩⟩
set_option maxRecDepth 100000 in
theorem opn114 : Opn Try.prog 114 1 c_LGBracket gd_LGBracket := opn_slice Try.underlying114 (by kernel_rfl) opn166 (by decide)
def gd_u32 (x : Int) : Prop := (Lit.int .u32 x).wf = true
def gd_Lu32 (x : (List Int)) : Prop := x.length ≤ maxLen ∧ ∀ y ∈ x, gd_u32 y
set_option maxRecDepth 100000 in
theorem opn57 : Opn Try.prog 57 1 c_u32 gd_u32 := opn_int Try.underlying57 (by kernel_rfl)
set_option maxRecDepth 100000 in
theorem opn123 : Opn Try.prog 123 1 c_Lu32 gd_Lu32 := opn_slice Try.underlying123 (by kernel_rfl) opn57 (by decide)
def gd_GStream (x : GStream) : Prop := gd_i64 x.Mass ∧ gd_i64 x.Heat ∧ gd_i64 x.Silica ∧ gd_i64 x.Gas
set_option maxRecDepth 100000 in
theorem opn72 : Opn Try.prog 72 4 c_GStream gd_GStream := ⟨by kernel_rfl, fun _ => rfl, fun _ _ _ _ _ _ _ _ _ h => by
  obtain ⟨xs, n, _, _, hl, hx, hf⟩ := DataW.trod_struct Try.underlying72 h
  obtain ⟨v0, g0, r0⟩ := opn_field hf hx 0 _ rfl opn3
  obtain ⟨v1, g1, r1⟩ := opn_field hf hx 1 _ rfl opn3
  obtain ⟨v2, g2, r2⟩ := opn_field hf hx 2 _ rfl opn3
  obtain ⟨v3, g3, r3⟩ := opn_field hf hx 3 _ rfl opn3
  exact ⟨⟨v0, v1, v2, v3⟩, ⟨g0, g1, g2, g3⟩, rel_all (rel_snoc (rel_snoc (rel_snoc (rel_first r0) r1 rfl) r2 rfl) r3 rfl) (hl.trans (by kernel_rfl))⟩⟩
def gd_u16 (x : Int) : Prop := (Lit.int .u16 x).wf = true
set_option maxRecDepth 100000 in
theorem opn58 : Opn Try.prog 58 1 c_u16 gd_u16 := opn_int Try.underlying58 (by kernel_rfl)
def gd_GNode (x : GNode) : Prop := gd_i64 x.Parent ∧ gd_i64 x.Loss ∧ gd_i64 x.Limit ∧ gd_i64 x.Rank
def gd_LGNode (x : (List GNode)) : Prop := x.length ≤ maxLen ∧ ∀ y ∈ x, gd_GNode y
set_option maxRecDepth 100000 in
theorem opn56 : Opn Try.prog 56 4 c_GNode gd_GNode := ⟨by kernel_rfl, fun _ => rfl, fun _ _ _ _ _ _ _ _ _ h => by
  obtain ⟨xs, n, _, _, hl, hx, hf⟩ := DataW.trod_struct Try.underlying56 h
  obtain ⟨v0, g0, r0⟩ := opn_field hf hx 0 _ rfl opn3
  obtain ⟨v1, g1, r1⟩ := opn_field hf hx 1 _ rfl opn3
  obtain ⟨v2, g2, r2⟩ := opn_field hf hx 2 _ rfl opn3
  obtain ⟨v3, g3, r3⟩ := opn_field hf hx 3 _ rfl opn3
  exact ⟨⟨v0, v1, v2, v3⟩, ⟨g0, g1, g2, g3⟩, rel_all (rel_snoc (rel_snoc (rel_snoc (rel_first r0) r1 rfl) r2 rfl) r3 rfl) (hl.trans (by kernel_rfl))⟩⟩
set_option maxRecDepth 100000 in
theorem opn22 : Opn Try.prog 22 1 c_LGNode gd_LGNode := opn_slice Try.underlying22 (by kernel_rfl) opn56 (by decide)
def gd_Li64 (x : (List Int)) : Prop := x.length ≤ maxLen ∧ ∀ y ∈ x, gd_i64 y
set_option maxRecDepth 100000 in
theorem opn23 : Opn Try.prog 23 1 c_Li64 gd_Li64 := opn_slice Try.underlying23 (by kernel_rfl) opn3 (by decide)
def gd_GStair (x : GStair) : Prop := gd_i64 x.Amount ∧ gd_i64 x.Price
def gd_LGStair (x : (List GStair)) : Prop := x.length ≤ maxLen ∧ ∀ y ∈ x, gd_GStair y
def gd_GHour (x : GHour) : Prop := gd_i64 x.Use ∧ gd_LGStair x.Stairs
def gd_LGHour (x : (List GHour)) : Prop := x.length ≤ maxLen ∧ ∀ y ∈ x, gd_GHour y
def gd_GDay (x : GDay) : Prop := gd_i64 x.Tank ∧ gd_i64 x.Start ∧ gd_LGHour x.Hours
set_option maxRecDepth 100000 in
theorem opn156 : Opn Try.prog 156 2 c_GStair gd_GStair := ⟨by kernel_rfl, fun _ => rfl, fun _ _ _ _ _ _ _ _ _ h => by
  obtain ⟨xs, n, _, _, hl, hx, hf⟩ := DataW.trod_struct Try.underlying156 h
  obtain ⟨v0, g0, r0⟩ := opn_field hf hx 0 _ rfl opn3
  obtain ⟨v1, g1, r1⟩ := opn_field hf hx 1 _ rfl opn3
  exact ⟨⟨v0, v1⟩, ⟨g0, g1⟩, rel_all (rel_snoc (rel_first r0) r1 rfl) (hl.trans (by kernel_rfl))⟩⟩
set_option maxRecDepth 100000 in
theorem opn145 : Opn Try.prog 145 1 c_LGStair gd_LGStair := opn_slice Try.underlying145 (by kernel_rfl) opn156 (by decide)
set_option maxRecDepth 100000 in
theorem opn147 : Opn Try.prog 147 2 c_GHour gd_GHour := ⟨by kernel_rfl, fun _ => rfl, fun _ _ _ _ _ _ _ _ _ h => by
  obtain ⟨xs, n, _, _, hl, hx, hf⟩ := DataW.trod_struct Try.underlying147 h
  obtain ⟨v0, g0, r0⟩ := opn_field hf hx 0 _ rfl opn3
  obtain ⟨v1, g1, r1⟩ := opn_field hf hx 1 _ rfl opn145
  exact ⟨⟨v0, v1⟩, ⟨g0, g1⟩, rel_all (rel_snoc (rel_first r0) r1 rfl) (hl.trans (by kernel_rfl))⟩⟩
set_option maxRecDepth 100000 in
theorem opn39 : Opn Try.prog 39 1 c_LGHour gd_LGHour := opn_slice Try.underlying39 (by kernel_rfl) opn147 (by decide)
set_option maxRecDepth 100000 in
theorem opn41 : Opn Try.prog 41 3 c_GDay gd_GDay := ⟨by kernel_rfl, fun _ => rfl, fun _ _ _ _ _ _ _ _ _ h => by
  obtain ⟨xs, n, _, _, hl, hx, hf⟩ := DataW.trod_struct Try.underlying41 h
  obtain ⟨v0, g0, r0⟩ := opn_field hf hx 0 _ rfl opn3
  obtain ⟨v1, g1, r1⟩ := opn_field hf hx 1 _ rfl opn3
  obtain ⟨v2, g2, r2⟩ := opn_field hf hx 2 _ rfl opn39
  exact ⟨⟨v0, v1, v2⟩, ⟨g0, g1, g2⟩, rel_all (rel_snoc (rel_snoc (rel_first r0) r1 rfl) r2 rfl) (hl.trans (by kernel_rfl))⟩⟩
end Go.Proofs.Ytgdepcgbjjgnfaa
