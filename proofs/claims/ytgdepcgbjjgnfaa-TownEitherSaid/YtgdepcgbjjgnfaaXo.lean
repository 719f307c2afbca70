/-
  The arguments of given statements as lists and numbers. No conditions.
-/
import Derived.Test.YtgdepcgbjjgnfaaXt
import Derived.Test.YtgdepcgbjjgnfaaEngZ
namespace Go.Proofs.Ytgdepcgbjjgnfaa
open Go.ChangeShapes Go.WideShapes Go.ChangeAt Go.RowKit Go.Deep Go.Joins
def Qm7 (x : Int) : Prop := (Lit.int .i64 x).wf = true
set_option maxRecDepth 100000 in
theorem opn3 : Opn Try.prog 3 1 Qad Qm7 := opn_int Try.underlying3 (by kernel_rfl)
def Qpz (x : GStair) : Prop := Qm7 x.Amount ∧ Qm7 x.Price
def Qm8 (x : (List GStair)) : Prop := x.length ≤ maxLen ∧ (∀ y ∈ x, Qpz y) ∧ x.length * 16 ≤ 140737488351232
def Qsn (x : GHour) : Prop := Qm7 x.Use ∧ Qm8 x.Stairs
def Qpy (x : (List GHour)) : Prop := x.length ≤ maxLen ∧ (∀ y ∈ x, Qsn y) ∧ x.length * 32 ≤ 140737488351232
def Qv0 (x : GDay) : Prop := Qm7 x.Tank ∧ Qm7 x.Start ∧ Qpy x.Hours
set_option maxRecDepth 100000 in
theorem opn156 : Opn Try.prog 156 2 Qak Qpz := ⟨by kernel_rfl, fun _ => rfl, fun _ _ _ _ _ _ _ _ _ h hw => by
  obtain ⟨xs, n, _, rfl, hl, hx, hf⟩ := DataW.trod_struct Try.underlying156 h
  have hz := Qje Try.underlying156 hw
  obtain ⟨v0, g0, r0⟩ := Qg0 hf hx hz 0 _ rfl opn3
  obtain ⟨v1, g1, r1⟩ := Qg0 hf hx hz 1 _ rfl opn3
  exact ⟨⟨v0, v1⟩, ⟨g0, g1⟩, Qqz (Qk7 (Qlw r0) r1 rfl) (hl.trans (by kernel_rfl))⟩⟩
set_option maxRecDepth 100000 in
theorem opn145 : Opn Try.prog 145 1 Qma Qm8 := Qpu Try.underlying145 (by kernel_rfl) opn156 (by decide) (by kernel_rfl)
set_option maxRecDepth 100000 in
theorem opn147 : Opn Try.prog 147 2 Qaf Qsn := ⟨by kernel_rfl, fun _ => rfl, fun _ _ _ _ _ _ _ _ _ h hw => by
  obtain ⟨xs, n, _, rfl, hl, hx, hf⟩ := DataW.trod_struct Try.underlying147 h
  have hz := Qje Try.underlying147 hw
  obtain ⟨v0, g0, r0⟩ := Qg0 hf hx hz 0 _ rfl opn3
  obtain ⟨v1, g1, r1⟩ := Qg0 hf hx hz 1 _ rfl opn145
  exact ⟨⟨v0, v1⟩, ⟨g0, g1⟩, Qqz (Qk7 (Qlw r0) r1 rfl) (hl.trans (by kernel_rfl))⟩⟩
set_option maxRecDepth 100000 in
theorem opn39 : Opn Try.prog 39 1 Qsw Qpy := Qpu Try.underlying39 (by kernel_rfl) opn147 (by decide) (by kernel_rfl)
set_option maxRecDepth 100000 in
theorem opn41 : Opn Try.prog 41 3 Qio Qv0 := ⟨by kernel_rfl, fun _ => rfl, fun _ _ _ _ _ _ _ _ _ h hw => by
  obtain ⟨xs, n, _, rfl, hl, hx, hf⟩ := DataW.trod_struct Try.underlying41 h
  have hz := Qje Try.underlying41 hw
  obtain ⟨v0, g0, r0⟩ := Qg0 hf hx hz 0 _ rfl opn3
  obtain ⟨v1, g1, r1⟩ := Qg0 hf hx hz 1 _ rfl opn3
  obtain ⟨v2, g2, r2⟩ := Qg0 hf hx hz 2 _ rfl opn39
  exact ⟨⟨v0, v1, v2⟩, ⟨g0, g1, g2⟩, Qqz (Qk7 (Qk7 (Qlw r0) r1 rfl) r2 rfl) (hl.trans (by kernel_rfl))⟩⟩
end Go.Proofs.Ytgdepcgbjjgnfaa
