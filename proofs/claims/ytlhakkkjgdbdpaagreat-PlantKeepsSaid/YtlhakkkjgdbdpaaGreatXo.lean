/-
  The arguments of given statements as lists and numbers. No conditions.
-/
import Derived.Test.YtlhakkkjgdbdpaaGreatXt
import Derived.Test.YtlhakkkjgdbdpaaGreatEngZ
namespace Go.Proofs.YtlhakkkjgdbdpaaGreat
set_option maxRecDepth 100000
open Go.ChangeShapes Go.WideShapes Go.ChangeAt Go.RowKit Go.Deep Go.Joins
def Qic (x : Int) : Prop := (Lit.int .i64 x).wf = true
def Q32 (x : GRow) : Prop := Qic x.T ∧ Qic x.P ∧ Qic x.Liquid ∧ Qic x.Vapour ∧ Qic x.Silica
def Qzb (x : (List GRow)) : Prop := x.length ≤ maxLen ∧ (∀ y ∈ x, Q32 y) ∧ x.length * 40 ≤ 140737488351232
def Qzd (x : GPart) : Prop := Qic x.Width ∧ Qic x.Gain
def Qvn (x : (List GPart)) : Prop := x.length ≤ maxLen ∧ (∀ y ∈ x, Qzd y) ∧ x.length * 16 ≤ 140737488351232
def Qzc (x : GUnit) : Prop := Qic x.Inlet ∧ Qvn x.Parts
def Qvo (x : GCycle) : Prop := Qic x.Out ∧ Qic x.Yield ∧ Qic x.Most
def Qze (x : GLine) : Prop := Qzb x.Table ∧ Qic x.Level ∧ Qzc x.Unit ∧ Qic x.Most ∧ Qic x.Target ∧ Qvo x.Cycle
theorem opn3 : Opn Tryz.prog 3 1 Qal Qic := Za5 Tryz.underlying3 (by kernel_rfl)
theorem Zec : Opn Tryz.prog 107 5 Qa6 Q32 := ⟨by kernel_rfl, fun _ => rfl, fun _ _ _ _ _ _ _ _ _ h hw => by
  obtain ⟨xs, n, _, rfl, hl, hx, hf⟩ := DataW.trod_struct Tryz.underlying107 h
  have hz := Qik Tryz.underlying107 hw
  obtain ⟨v0, g0, r0⟩ := Qdm hf hx hz 0 _ rfl opn3
  obtain ⟨v1, g1, r1⟩ := Qdm hf hx hz 1 _ rfl opn3
  obtain ⟨v2, g2, r2⟩ := Qdm hf hx hz 2 _ rfl opn3
  obtain ⟨v3, g3, r3⟩ := Qdm hf hx hz 3 _ rfl opn3
  obtain ⟨v4, g4, r4⟩ := Qdm hf hx hz 4 _ rfl opn3
  exact ⟨⟨v0, v1, v2, v3, v4⟩, ⟨g0, g1, g2, g3, g4⟩, Qo9 (Qft (Qft (Qft (Qft (Qks r0) r1 rfl) r2 rfl) r3 rfl) r4 rfl) (hl.trans (by kernel_rfl))⟩⟩
theorem Zfn : Opn Tryz.prog 23 1 Q4t Qzb := Qvh Tryz.underlying23 (by kernel_rfl) Zec (by decide) (by kernel_rfl)
theorem Zeb : Opn Tryz.prog 144 2 Qba Qzd := ⟨by kernel_rfl, fun _ => rfl, fun _ _ _ _ _ _ _ _ _ h hw => by
  obtain ⟨xs, n, _, rfl, hl, hx, hf⟩ := DataW.trod_struct Tryz.underlying144 h
  have hz := Qik Tryz.underlying144 hw
  obtain ⟨v0, g0, r0⟩ := Qdm hf hx hz 0 _ rfl opn3
  obtain ⟨v1, g1, r1⟩ := Qdm hf hx hz 1 _ rfl opn3
  exact ⟨⟨v0, v1⟩, ⟨g0, g1⟩, Qo9 (Qft (Qks r0) r1 rfl) (hl.trans (by kernel_rfl))⟩⟩
theorem Zfm : Opn Tryz.prog 24 1 Qtv Qvn := Qvh Tryz.underlying24 (by kernel_rfl) Zeb (by decide) (by kernel_rfl)
theorem Zfl : Opn Tryz.prog 26 2 Qck Qzc := ⟨by kernel_rfl, fun _ => rfl, fun _ _ _ _ _ _ _ _ _ h hw => by
  obtain ⟨xs, n, _, rfl, hl, hx, hf⟩ := DataW.trod_struct Tryz.underlying26 h
  have hz := Qik Tryz.underlying26 hw
  obtain ⟨v0, g0, r0⟩ := Qdm hf hx hz 0 _ rfl opn3
  obtain ⟨v1, g1, r1⟩ := Qdm hf hx hz 1 _ rfl Zfm
  exact ⟨⟨v0, v1⟩, ⟨g0, g1⟩, Qo9 (Qft (Qks r0) r1 rfl) (hl.trans (by kernel_rfl))⟩⟩
theorem Zfk : Opn Tryz.prog 28 3 Qlf Qvo := ⟨by kernel_rfl, fun _ => rfl, fun _ _ _ _ _ _ _ _ _ h hw => by
  obtain ⟨xs, n, _, rfl, hl, hx, hf⟩ := DataW.trod_struct Tryz.underlying28 h
  have hz := Qik Tryz.underlying28 hw
  obtain ⟨v0, g0, r0⟩ := Qdm hf hx hz 0 _ rfl opn3
  obtain ⟨v1, g1, r1⟩ := Qdm hf hx hz 1 _ rfl opn3
  obtain ⟨v2, g2, r2⟩ := Qdm hf hx hz 2 _ rfl opn3
  exact ⟨⟨v0, v1, v2⟩, ⟨g0, g1, g2⟩, Qo9 (Qft (Qft (Qks r0) r1 rfl) r2 rfl) (hl.trans (by kernel_rfl))⟩⟩
theorem Zfj : Opn Tryz.prog 30 9 Qn3 Qze := ⟨by kernel_rfl, fun _ => rfl, fun _ _ _ _ _ _ _ _ _ h hw => by
  obtain ⟨xs, n, _, rfl, hl, hx, hf⟩ := DataW.trod_struct Tryz.underlying30 h
  have hz := Qik Tryz.underlying30 hw
  obtain ⟨v0, g0, r0⟩ := Qdm hf hx hz 0 _ rfl Zfn
  obtain ⟨v1, g1, r1⟩ := Qdm hf hx hz 1 _ rfl opn3
  obtain ⟨v2, g2, r2⟩ := Qdm hf hx hz 2 _ rfl Zfl
  obtain ⟨v3, g3, r3⟩ := Qdm hf hx hz 3 _ rfl opn3
  obtain ⟨v4, g4, r4⟩ := Qdm hf hx hz 4 _ rfl opn3
  obtain ⟨v5, g5, r5⟩ := Qdm hf hx hz 5 _ rfl Zfk
  exact ⟨⟨v0, v1, v2, v3, v4, v5⟩, ⟨g0, g1, g2, g3, g4, g5⟩, Qo9 (Qft (Qft (Qft (Qft (Qft (Qks r0) r1 rfl) r2 rfl) r3 rfl) r4 rfl) r5 rfl) (hl.trans (by kernel_rfl))⟩⟩
def Qpe (x : GStream) : Prop := Qic x.Mass ∧ Qic x.Heat ∧ Qic x.Silica ∧ Qic x.Gas
theorem Zea : Opn Tryz.prog 32 4 Qa4 Qpe := ⟨by kernel_rfl, fun _ => rfl, fun _ _ _ _ _ _ _ _ _ h hw => by
  obtain ⟨xs, n, _, rfl, hl, hx, hf⟩ := DataW.trod_struct Tryz.underlying32 h
  have hz := Qik Tryz.underlying32 hw
  obtain ⟨v0, g0, r0⟩ := Qdm hf hx hz 0 _ rfl opn3
  obtain ⟨v1, g1, r1⟩ := Qdm hf hx hz 1 _ rfl opn3
  obtain ⟨v2, g2, r2⟩ := Qdm hf hx hz 2 _ rfl opn3
  obtain ⟨v3, g3, r3⟩ := Qdm hf hx hz 3 _ rfl opn3
  exact ⟨⟨v0, v1, v2, v3⟩, ⟨g0, g1, g2, g3⟩, Qo9 (Qft (Qft (Qft (Qks r0) r1 rfl) r2 rfl) r3 rfl) (hl.trans (by kernel_rfl))⟩⟩
end Go.Proofs.YtlhakkkjgdbdpaaGreat
