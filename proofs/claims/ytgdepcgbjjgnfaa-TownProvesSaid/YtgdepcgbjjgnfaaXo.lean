/-
  The arguments of given statements as lists and numbers. No conditions.
-/
import Derived.Test.YtgdepcgbjjgnfaaXt
import Derived.Test.YtgdepcgbjjgnfaaEngZ
namespace Go.Proofs.Ytgdepcgbjjgnfaa
open Go.ChangeShapes Go.WideShapes Go.ChangeAt Go.RowKit Go.Deep Go.Joins
def Qoh (x : Int) : Prop := (Lit.int .i64 x).wf = true
set_option maxRecDepth 100000 in
theorem opn3 : Opn Try.prog 3 1 Qab Qoh := Qyh Try.underlying3 (by kernel_rfl)
def Qti (x : (List Int)) : Prop := x.length ≤ maxLen ∧ (∀ y ∈ x, Qoh y) ∧ x.length * 8 ≤ 140737488351232
set_option maxRecDepth 100000 in
theorem opn23 : Opn Try.prog 23 1 c_Li64 Qti := Qoa Try.underlying23 (by kernel_rfl) opn3 (by decide) (by kernel_rfl)
def Qr9 (x : GStair) : Prop := Qoh x.Amount ∧ Qoh x.Price
def Qpl (x : (List GStair)) : Prop := x.length ≤ maxLen ∧ (∀ y ∈ x, Qr9 y) ∧ x.length * 16 ≤ 140737488351232
def Qu8 (x : GHour) : Prop := Qoh x.Use ∧ Qpl x.Stairs
def Qr8 (x : (List GHour)) : Prop := x.length ≤ maxLen ∧ (∀ y ∈ x, Qu8 y) ∧ x.length * 32 ≤ 140737488351232
def Qyw (x : GDay) : Prop := Qoh x.Tank ∧ Qoh x.Start ∧ Qr8 x.Hours
set_option maxRecDepth 100000 in
theorem opn156 : Opn Try.prog 156 2 Qan Qr9 := ⟨by kernel_rfl, fun _ => rfl, fun _ _ _ _ _ _ _ _ _ h hw => by
  obtain ⟨xs, n, _, rfl, hl, hx, hf⟩ := DataW.trod_struct Try.underlying156 h
  have hz := Qk8 Try.underlying156 hw
  obtain ⟨v0, g0, r0⟩ := Qh9 hf hx hz 0 _ rfl opn3
  obtain ⟨v1, g1, r1⟩ := Qh9 hf hx hz 1 _ rfl opn3
  exact ⟨⟨v0, v1⟩, ⟨g0, g1⟩, Qtb (Qnf (Qn5 r0) r1 rfl) (hl.trans (by kernel_rfl))⟩⟩
set_option maxRecDepth 100000 in
theorem opn145 : Opn Try.prog 145 1 Qop Qpl := Qoa Try.underlying145 (by kernel_rfl) opn156 (by decide) (by kernel_rfl)
set_option maxRecDepth 100000 in
theorem opn147 : Opn Try.prog 147 2 Qaj Qu8 := ⟨by kernel_rfl, fun _ => rfl, fun _ _ _ _ _ _ _ _ _ h hw => by
  obtain ⟨xs, n, _, rfl, hl, hx, hf⟩ := DataW.trod_struct Try.underlying147 h
  have hz := Qk8 Try.underlying147 hw
  obtain ⟨v0, g0, r0⟩ := Qh9 hf hx hz 0 _ rfl opn3
  obtain ⟨v1, g1, r1⟩ := Qh9 hf hx hz 1 _ rfl opn145
  exact ⟨⟨v0, v1⟩, ⟨g0, g1⟩, Qtb (Qnf (Qn5 r0) r1 rfl) (hl.trans (by kernel_rfl))⟩⟩
set_option maxRecDepth 100000 in
theorem opn39 : Opn Try.prog 39 1 Qvj Qr8 := Qoa Try.underlying39 (by kernel_rfl) opn147 (by decide) (by kernel_rfl)
set_option maxRecDepth 100000 in
theorem opn41 : Opn Try.prog 41 3 Qii Qyw := ⟨by kernel_rfl, fun _ => rfl, fun _ _ _ _ _ _ _ _ _ h hw => by
  obtain ⟨xs, n, _, rfl, hl, hx, hf⟩ := DataW.trod_struct Try.underlying41 h
  have hz := Qk8 Try.underlying41 hw
  obtain ⟨v0, g0, r0⟩ := Qh9 hf hx hz 0 _ rfl opn3
  obtain ⟨v1, g1, r1⟩ := Qh9 hf hx hz 1 _ rfl opn3
  obtain ⟨v2, g2, r2⟩ := Qh9 hf hx hz 2 _ rfl opn39
  exact ⟨⟨v0, v1, v2⟩, ⟨g0, g1, g2⟩, Qtb (Qnf (Qnf (Qn5 r0) r1 rfl) r2 rfl) (hl.trans (by kernel_rfl))⟩⟩
def gd_bool (_ : Bool) : Prop := True
def gd_u8 (x : Int) : Prop := (Lit.int .u8 x).wf = true
def gd_i8 (x : Int) : Prop := (Lit.int .i8 x).wf = true
end Go.Proofs.Ytgdepcgbjjgnfaa
