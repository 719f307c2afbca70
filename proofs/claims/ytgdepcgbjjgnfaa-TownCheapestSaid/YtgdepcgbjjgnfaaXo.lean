/-
  The arguments of given statements as lists and numbers. No conditions.
-/
import Derived.Test.YtgdepcgbjjgnfaaXt
import Derived.Test.YtgdepcgbjjgnfaaEngZ
namespace Go.Proofs.Ytgdepcgbjjgnfaa
open Go.ChangeShapes Go.WideShapes Go.ChangeAt Go.RowKit Go.Deep Go.Joins
def Qnl (x : Int) : Prop := (Lit.int .i64 x).wf = true
set_option maxRecDepth 100000 in
theorem opn3 : Opn Try.prog 3 1 Qac Qnl := opn_int Try.underlying3 (by kernel_rfl)
def Qpv (x : (List Int)) : Prop := x.length ≤ maxLen ∧ (∀ y ∈ x, Qnl y) ∧ x.length * 8 ≤ 140737488351232
set_option maxRecDepth 100000 in
theorem opn23 : Opn Try.prog 23 1 c_Li64 Qpv := Qne Try.underlying23 (by kernel_rfl) opn3 (by decide) (by kernel_rfl)
def Qq9 (x : GStair) : Prop := Qnl x.Amount ∧ Qnl x.Price
def Qon (x : (List GStair)) : Prop := x.length ≤ maxLen ∧ (∀ y ∈ x, Qq9 y) ∧ x.length * 16 ≤ 140737488351232
def Qt5 (x : GHour) : Prop := Qnl x.Use ∧ Qon x.Stairs
def Qq8 (x : (List GHour)) : Prop := x.length ≤ maxLen ∧ (∀ y ∈ x, Qt5 y) ∧ x.length * 32 ≤ 140737488351232
def Qxq (x : GDay) : Prop := Qnl x.Tank ∧ Qnl x.Start ∧ Qq8 x.Hours
set_option maxRecDepth 100000 in
theorem opn156 : Opn Try.prog 156 2 Qao Qq9 := ⟨by kernel_rfl, fun _ => rfl, fun _ _ _ _ _ _ _ _ _ h hw => by
  obtain ⟨xs, n, _, rfl, hl, hx, hf⟩ := DataW.trod_struct Try.underlying156 h
  have hz := Qkj Try.underlying156 hw
  obtain ⟨v0, g0, r0⟩ := Qhw hf hx hz 0 _ rfl opn3
  obtain ⟨v1, g1, r1⟩ := Qhw hf hx hz 1 _ rfl opn3
  exact ⟨⟨v0, v1⟩, ⟨g0, g1⟩, Qsg (Qmh (Qm8 r0) r1 rfl) (hl.trans (by kernel_rfl))⟩⟩
set_option maxRecDepth 100000 in
theorem opn145 : Opn Try.prog 145 1 Qnt Qon := Qne Try.underlying145 (by kernel_rfl) opn156 (by decide) (by kernel_rfl)
set_option maxRecDepth 100000 in
theorem opn147 : Opn Try.prog 147 2 Qal Qt5 := ⟨by kernel_rfl, fun _ => rfl, fun _ _ _ _ _ _ _ _ _ h hw => by
  obtain ⟨xs, n, _, rfl, hl, hx, hf⟩ := DataW.trod_struct Try.underlying147 h
  have hz := Qkj Try.underlying147 hw
  obtain ⟨v0, g0, r0⟩ := Qhw hf hx hz 0 _ rfl opn3
  obtain ⟨v1, g1, r1⟩ := Qhw hf hx hz 1 _ rfl opn145
  exact ⟨⟨v0, v1⟩, ⟨g0, g1⟩, Qsg (Qmh (Qm8 r0) r1 rfl) (hl.trans (by kernel_rfl))⟩⟩
set_option maxRecDepth 100000 in
theorem opn39 : Opn Try.prog 39 1 Quf Qq8 := Qne Try.underlying39 (by kernel_rfl) opn147 (by decide) (by kernel_rfl)
set_option maxRecDepth 100000 in
theorem opn41 : Opn Try.prog 41 3 Qij Qxq := ⟨by kernel_rfl, fun _ => rfl, fun _ _ _ _ _ _ _ _ _ h hw => by
  obtain ⟨xs, n, _, rfl, hl, hx, hf⟩ := DataW.trod_struct Try.underlying41 h
  have hz := Qkj Try.underlying41 hw
  obtain ⟨v0, g0, r0⟩ := Qhw hf hx hz 0 _ rfl opn3
  obtain ⟨v1, g1, r1⟩ := Qhw hf hx hz 1 _ rfl opn3
  obtain ⟨v2, g2, r2⟩ := Qhw hf hx hz 2 _ rfl opn39
  exact ⟨⟨v0, v1, v2⟩, ⟨g0, g1, g2⟩, Qsg (Qmh (Qmh (Qm8 r0) r1 rfl) r2 rfl) (hl.trans (by kernel_rfl))⟩⟩
end Go.Proofs.Ytgdepcgbjjgnfaa
