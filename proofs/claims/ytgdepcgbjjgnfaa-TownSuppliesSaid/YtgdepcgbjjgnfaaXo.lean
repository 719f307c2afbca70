/-
  The arguments of given statements as lists and numbers. No conditions.
-/
import Derived.Test.YtgdepcgbjjgnfaaXt
import Derived.Test.YtgdepcgbjjgnfaaEngZ
namespace Go.Proofs.Ytgdepcgbjjgnfaa
open Go.ChangeShapes Go.WideShapes Go.ChangeAt Go.RowKit Go.Deep Go.Joins
def Qne (x : Int) : Prop := (Lit.int .i64 x).wf = true
set_option maxRecDepth 100000 in
theorem opn3 : Opn Try.prog 3 1 Qab Qne := opn_int Try.underlying3 (by kernel_rfl)
def Qpy (x : GStair) : Prop := Qne x.Amount ∧ Qne x.Price
def Qnf (x : (List GStair)) : Prop := x.length ≤ maxLen ∧ (∀ y ∈ x, Qpy y) ∧ x.length * 16 ≤ 140737488351232
def Qsm (x : GHour) : Prop := Qne x.Use ∧ Qnf x.Stairs
def Qpx (x : (List GHour)) : Prop := x.length ≤ maxLen ∧ (∀ y ∈ x, Qsm y) ∧ x.length * 32 ≤ 140737488351232
def Qvx (x : GDay) : Prop := Qne x.Tank ∧ Qne x.Start ∧ Qpx x.Hours
set_option maxRecDepth 100000 in
theorem opn156 : Opn Try.prog 156 2 Qal Qpy := ⟨by kernel_rfl, fun _ => rfl, fun _ _ _ _ _ _ _ _ _ h hw => by
  obtain ⟨xs, n, _, rfl, hl, hx, hf⟩ := DataW.trod_struct Try.underlying156 h
  have hz := Qjs Try.underlying156 hw
  obtain ⟨v0, g0, r0⟩ := Qhb hf hx hz 0 _ rfl opn3
  obtain ⟨v1, g1, r1⟩ := Qhb hf hx hz 1 _ rfl opn3
  exact ⟨⟨v0, v1⟩, ⟨g0, g1⟩, Qqz (Qlj (Ql4 r0) r1 rfl) (hl.trans (by kernel_rfl))⟩⟩
set_option maxRecDepth 100000 in
theorem opn145 : Opn Try.prog 145 1 Qmj Qnf := Qpu Try.underlying145 (by kernel_rfl) opn156 (by decide) (by kernel_rfl)
set_option maxRecDepth 100000 in
theorem opn147 : Opn Try.prog 147 2 Qak Qsm := ⟨by kernel_rfl, fun _ => rfl, fun _ _ _ _ _ _ _ _ _ h hw => by
  obtain ⟨xs, n, _, rfl, hl, hx, hf⟩ := DataW.trod_struct Try.underlying147 h
  have hz := Qjs Try.underlying147 hw
  obtain ⟨v0, g0, r0⟩ := Qhb hf hx hz 0 _ rfl opn3
  obtain ⟨v1, g1, r1⟩ := Qhb hf hx hz 1 _ rfl opn145
  exact ⟨⟨v0, v1⟩, ⟨g0, g1⟩, Qqz (Qlj (Ql4 r0) r1 rfl) (hl.trans (by kernel_rfl))⟩⟩
set_option maxRecDepth 100000 in
theorem opn39 : Opn Try.prog 39 1 Qst Qpx := Qpu Try.underlying39 (by kernel_rfl) opn147 (by decide) (by kernel_rfl)
set_option maxRecDepth 100000 in
theorem opn41 : Opn Try.prog 41 3 Qhj Qvx := ⟨by kernel_rfl, fun _ => rfl, fun _ _ _ _ _ _ _ _ _ h hw => by
  obtain ⟨xs, n, _, rfl, hl, hx, hf⟩ := DataW.trod_struct Try.underlying41 h
  have hz := Qjs Try.underlying41 hw
  obtain ⟨v0, g0, r0⟩ := Qhb hf hx hz 0 _ rfl opn3
  obtain ⟨v1, g1, r1⟩ := Qhb hf hx hz 1 _ rfl opn3
  obtain ⟨v2, g2, r2⟩ := Qhb hf hx hz 2 _ rfl opn39
  exact ⟨⟨v0, v1, v2⟩, ⟨g0, g1, g2⟩, Qqz (Qlj (Qlj (Ql4 r0) r1 rfl) r2 rfl) (hl.trans (by kernel_rfl))⟩⟩
end Go.Proofs.Ytgdepcgbjjgnfaa
