/-
  The arguments of given statements as lists and numbers. No conditions.
-/
import Derived.Test.YtmbhnllcfmiajaaXt
import Derived.Test.YtmbhnllcfmiajaaEngZ
namespace Go.Proofs.Ytmbhnllcfmiajaa
set_option maxRecDepth 100000
open Go.ChangeShapes Go.WideShapes Go.ChangeAt Go.RowKit Go.Deep Go.Joins
def Qip (x : Int) : Prop := (Lit.int .i64 x).wf = true
def Q5w (x : GRow) : Prop := Qip x.T ∧ Qip x.P ∧ Qip x.Liquid ∧ Qip x.Vapour ∧ Qip x.Silica
def Qz6 (x : (List GRow)) : Prop := x.length ≤ maxLen ∧ (∀ y ∈ x, Q5w y) ∧ x.length * 40 ≤ 140737488351232
def Zgi (x : Int) : Prop := (Lit.int .u8 x).wf = true
def Qz7 (x : GPort) : Prop := Qip x.Element ∧ Qip x.Outlet
def Qvi (x : (List GPort)) : Prop := x.length ≤ maxLen ∧ (∀ y ∈ x, Qz7 y) ∧ x.length * 16 ≤ 140737488351232
def Qxu (x : (List Int)) : Prop := x.length ≤ maxLen ∧ (∀ y ∈ x, Qip y) ∧ x.length * 8 ≤ 140737488351232
def Qqk (x : GElement) : Prop := Zgi x.Kind ∧ Qvi x.From ∧ Qip x.Level ∧ Qip x.Amount ∧ Qip x.Wide ∧ Qip x.Narrow ∧ Qxu x.Weights
def Qow (x : (List GElement)) : Prop := x.length ≤ maxLen ∧ (∀ y ∈ x, Qqk y) ∧ x.length * 88 ≤ 140737488351232
def Q5x (x : GNet) : Prop := Qz6 x.Table ∧ Qow x.Elements
theorem opn3 : Opn Try.prog 3 1 Qam Qip := Q48 Try.underlying3 (by kernel_rfl)
theorem Zge : Opn Try.prog 106 5 Qa8 Q5w := ⟨by kernel_rfl, fun _ => rfl, fun _ _ _ _ _ _ _ _ _ h hw => by
  obtain ⟨xs, n, _, rfl, hl, hx, hf⟩ := DataW.trod_struct Try.underlying106 h
  have hz := Qja Try.underlying106 hw
  obtain ⟨v0, g0, r0⟩ := Qdw hf hx hz 0 _ rfl opn3
  obtain ⟨v1, g1, r1⟩ := Qdw hf hx hz 1 _ rfl opn3
  obtain ⟨v2, g2, r2⟩ := Qdw hf hx hz 2 _ rfl opn3
  obtain ⟨v3, g3, r3⟩ := Qdw hf hx hz 3 _ rfl opn3
  obtain ⟨v4, g4, r4⟩ := Qdw hf hx hz 4 _ rfl opn3
  exact ⟨⟨v0, v1, v2, v3, v4⟩, ⟨g0, g1, g2, g3, g4⟩, Qp3 (Qf4 (Qf4 (Qf4 (Qf4 (Qld r0) r1 rfl) r2 rfl) r3 rfl) r4 rfl) (hl.trans (by kernel_rfl))⟩⟩
theorem Zhl : Opn Try.prog 23 1 Q6o Qz6 := Qlh Try.underlying23 (by kernel_rfl) Zge (by decide) (by kernel_rfl)
theorem opn5 : Opn Try.prog 5 1 c_u8 Zgi := Q48 Try.underlying5 (by kernel_rfl)
theorem Zhg : Opn Try.prog 66 2 Qav Qz7 := ⟨by kernel_rfl, fun _ => rfl, fun _ _ _ _ _ _ _ _ _ h hw => by
  obtain ⟨xs, n, _, rfl, hl, hx, hf⟩ := DataW.trod_struct Try.underlying66 h
  have hz := Qja Try.underlying66 hw
  obtain ⟨v0, g0, r0⟩ := Qdw hf hx hz 0 _ rfl opn3
  obtain ⟨v1, g1, r1⟩ := Qdw hf hx hz 1 _ rfl opn3
  exact ⟨⟨v0, v1⟩, ⟨g0, g1⟩, Qp3 (Qf4 (Qld r0) r1 rfl) (hl.trans (by kernel_rfl))⟩⟩
theorem Zhh : Opn Try.prog 64 1 Qtp Qvi := Qlh Try.underlying64 (by kernel_rfl) Zhg (by decide) (by kernel_rfl)
theorem Zgd : Opn Try.prog 27 1 Q6n Qxu := Qlh Try.underlying27 (by kernel_rfl) opn3 (by decide) (by kernel_rfl)
theorem Zhf : Opn Try.prog 70 7 Qad Qqk := ⟨by kernel_rfl, fun _ => rfl, fun _ _ _ _ _ _ _ _ _ h hw => by
  obtain ⟨xs, n, _, rfl, hl, hx, hf⟩ := DataW.trod_struct Try.underlying70 h
  have hz := Qja Try.underlying70 hw
  obtain ⟨v0, g0, r0⟩ := Qdw hf hx hz 0 _ rfl opn5
  obtain ⟨v1, g1, r1⟩ := Qdw hf hx hz 1 _ rfl Zhh
  obtain ⟨v2, g2, r2⟩ := Qdw hf hx hz 2 _ rfl opn3
  obtain ⟨v3, g3, r3⟩ := Qdw hf hx hz 3 _ rfl opn3
  obtain ⟨v4, g4, r4⟩ := Qdw hf hx hz 4 _ rfl opn3
  obtain ⟨v5, g5, r5⟩ := Qdw hf hx hz 5 _ rfl opn3
  obtain ⟨v6, g6, r6⟩ := Qdw hf hx hz 6 _ rfl Zgd
  exact ⟨⟨v0, v1, v2, v3, v4, v5, v6⟩, ⟨g0, g1, g2, g3, g4, g5, g6⟩, Qp3 (Qf4 (Qf4 (Qf4 (Qf4 (Qf4 (Qf4 (Qld r0) r1 rfl) r2 rfl) r3 rfl) r4 rfl) r5 rfl) r6 rfl) (hl.trans (by kernel_rfl))⟩⟩
theorem Zhk : Opn Try.prog 24 1 Qqy Qow := Qlh Try.underlying24 (by kernel_rfl) Zhf (by decide) (by kernel_rfl)
theorem Zhj : Opn Try.prog 26 2 Qj0 Q5x := ⟨by kernel_rfl, fun _ => rfl, fun _ _ _ _ _ _ _ _ _ h hw => by
  obtain ⟨xs, n, _, rfl, hl, hx, hf⟩ := DataW.trod_struct Try.underlying26 h
  have hz := Qja Try.underlying26 hw
  obtain ⟨v0, g0, r0⟩ := Qdw hf hx hz 0 _ rfl Zhl
  obtain ⟨v1, g1, r1⟩ := Qdw hf hx hz 1 _ rfl Zhk
  exact ⟨⟨v0, v1⟩, ⟨g0, g1⟩, Qp3 (Qf4 (Qld r0) r1 rfl) (hl.trans (by kernel_rfl))⟩⟩
def Qsb (x : GStream) : Prop := Qip x.Mass ∧ Qip x.Heat ∧ Qip x.Silica ∧ Qip x.Gas
theorem Zhe : Opn Try.prog 71 4 Qab Qsb := ⟨by kernel_rfl, fun _ => rfl, fun _ _ _ _ _ _ _ _ _ h hw => by
  obtain ⟨xs, n, _, rfl, hl, hx, hf⟩ := DataW.trod_struct Try.underlying71 h
  have hz := Qja Try.underlying71 hw
  obtain ⟨v0, g0, r0⟩ := Qdw hf hx hz 0 _ rfl opn3
  obtain ⟨v1, g1, r1⟩ := Qdw hf hx hz 1 _ rfl opn3
  obtain ⟨v2, g2, r2⟩ := Qdw hf hx hz 2 _ rfl opn3
  obtain ⟨v3, g3, r3⟩ := Qdw hf hx hz 3 _ rfl opn3
  exact ⟨⟨v0, v1, v2, v3⟩, ⟨g0, g1, g2, g3⟩, Qp3 (Qf4 (Qf4 (Qf4 (Qld r0) r1 rfl) r2 rfl) r3 rfl) (hl.trans (by kernel_rfl))⟩⟩
def Qqj (x : (List GStream)) : Prop := x.length ≤ maxLen ∧ (∀ y ∈ x, Qsb y) ∧ x.length * 32 ≤ 140737488351232
theorem Zhi : Opn Try.prog 28 1 Qae Qqj := Qlh Try.underlying28 (by kernel_rfl) Zhe (by decide) (by kernel_rfl)
end Go.Proofs.Ytmbhnllcfmiajaa
