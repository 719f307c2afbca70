/-
  The arguments of given statements as lists and numbers. No conditions.
-/
import Derived.Test.YtlhakkkjgdbdpaaGreatXt
import Derived.Test.YtlhakkkjgdbdpaaGreatEngZ
namespace Go.Proofs.YtlhakkkjgdbdpaaGreat
set_option maxRecDepth 100000
open Go.ChangeShapes Go.WideShapes Go.ChangeAt Go.RowKit Go.Deep Go.Joins
def Qik (x : Int) : Prop := (Lit.int .i64 x).wf = true
def Q5i (x : GRow) : Prop := Qik x.T ∧ Qik x.P ∧ Qik x.Liquid ∧ Qik x.Vapour ∧ Qik x.Silica
def Q0m (x : (List GRow)) : Prop := x.length ≤ maxLen ∧ (∀ y ∈ x, Q5i y) ∧ x.length * 40 ≤ 140737488351232
def Q0o (x : GPart) : Prop := Qik x.Width ∧ Qik x.Gain
def Qwn (x : (List GPart)) : Prop := x.length ≤ maxLen ∧ (∀ y ∈ x, Q0o y) ∧ x.length * 16 ≤ 140737488351232
def Q0n (x : GUnit) : Prop := Qik x.Inlet ∧ Qwn x.Parts
def Qwo (x : GCycle) : Prop := Qik x.Out ∧ Qik x.Yield ∧ Qik x.Most
def Q0p (x : GLine) : Prop := Q0m x.Table ∧ Qik x.Level ∧ Q0n x.Unit ∧ Qik x.Most ∧ Qik x.Target ∧ Qwo x.Cycle
theorem opn3 : Opn Tryz.prog 3 1 Qam Qik := Zc4 Tryz.underlying3 (by kernel_rfl)
theorem Zgq : Opn Tryz.prog 107 5 Qa6 Q5i := ⟨by kernel_rfl, fun _ => rfl, fun _ _ _ _ _ _ _ _ _ h hw => by
  obtain ⟨xs, n, _, rfl, hl, hx, hf⟩ := DataW.trod_struct Tryz.underlying107 h
  have hz := Qis Tryz.underlying107 hw
  obtain ⟨v0, g0, r0⟩ := Qdm hf hx hz 0 _ rfl opn3
  obtain ⟨v1, g1, r1⟩ := Qdm hf hx hz 1 _ rfl opn3
  obtain ⟨v2, g2, r2⟩ := Qdm hf hx hz 2 _ rfl opn3
  obtain ⟨v3, g3, r3⟩ := Qdm hf hx hz 3 _ rfl opn3
  obtain ⟨v4, g4, r4⟩ := Qdm hf hx hz 4 _ rfl opn3
  exact ⟨⟨v0, v1, v2, v3, v4⟩, ⟨g0, g1, g2, g3, g4⟩, Qpw (Qfv (Qfv (Qfv (Qfv (Qlb r0) r1 rfl) r2 rfl) r3 rfl) r4 rfl) (hl.trans (by kernel_rfl))⟩⟩
theorem Zhx : Opn Tryz.prog 23 1 Q57 Q0m := Qwh Tryz.underlying23 (by kernel_rfl) Zgq (by decide) (by kernel_rfl)
theorem Zgp : Opn Tryz.prog 144 2 Qa4 Q0o := ⟨by kernel_rfl, fun _ => rfl, fun _ _ _ _ _ _ _ _ _ h hw => by
  obtain ⟨xs, n, _, rfl, hl, hx, hf⟩ := DataW.trod_struct Tryz.underlying144 h
  have hz := Qis Tryz.underlying144 hw
  obtain ⟨v0, g0, r0⟩ := Qdm hf hx hz 0 _ rfl opn3
  obtain ⟨v1, g1, r1⟩ := Qdm hf hx hz 1 _ rfl opn3
  exact ⟨⟨v0, v1⟩, ⟨g0, g1⟩, Qpw (Qfv (Qlb r0) r1 rfl) (hl.trans (by kernel_rfl))⟩⟩
theorem Zhw : Opn Tryz.prog 24 1 Qut Qwn := Qwh Tryz.underlying24 (by kernel_rfl) Zgp (by decide) (by kernel_rfl)
theorem Zhv : Opn Tryz.prog 26 2 Qcd Q0n := ⟨by kernel_rfl, fun _ => rfl, fun _ _ _ _ _ _ _ _ _ h hw => by
  obtain ⟨xs, n, _, rfl, hl, hx, hf⟩ := DataW.trod_struct Tryz.underlying26 h
  have hz := Qis Tryz.underlying26 hw
  obtain ⟨v0, g0, r0⟩ := Qdm hf hx hz 0 _ rfl opn3
  obtain ⟨v1, g1, r1⟩ := Qdm hf hx hz 1 _ rfl Zhw
  exact ⟨⟨v0, v1⟩, ⟨g0, g1⟩, Qpw (Qfv (Qlb r0) r1 rfl) (hl.trans (by kernel_rfl))⟩⟩
theorem Zhu : Opn Tryz.prog 28 3 Qkw Qwo := ⟨by kernel_rfl, fun _ => rfl, fun _ _ _ _ _ _ _ _ _ h hw => by
  obtain ⟨xs, n, _, rfl, hl, hx, hf⟩ := DataW.trod_struct Tryz.underlying28 h
  have hz := Qis Tryz.underlying28 hw
  obtain ⟨v0, g0, r0⟩ := Qdm hf hx hz 0 _ rfl opn3
  obtain ⟨v1, g1, r1⟩ := Qdm hf hx hz 1 _ rfl opn3
  obtain ⟨v2, g2, r2⟩ := Qdm hf hx hz 2 _ rfl opn3
  exact ⟨⟨v0, v1, v2⟩, ⟨g0, g1, g2⟩, Qpw (Qfv (Qfv (Qlb r0) r1 rfl) r2 rfl) (hl.trans (by kernel_rfl))⟩⟩
theorem Zht : Opn Tryz.prog 30 9 Qm4 Q0p := ⟨by kernel_rfl, fun _ => rfl, fun _ _ _ _ _ _ _ _ _ h hw => by
  obtain ⟨xs, n, _, rfl, hl, hx, hf⟩ := DataW.trod_struct Tryz.underlying30 h
  have hz := Qis Tryz.underlying30 hw
  obtain ⟨v0, g0, r0⟩ := Qdm hf hx hz 0 _ rfl Zhx
  obtain ⟨v1, g1, r1⟩ := Qdm hf hx hz 1 _ rfl opn3
  obtain ⟨v2, g2, r2⟩ := Qdm hf hx hz 2 _ rfl Zhv
  obtain ⟨v3, g3, r3⟩ := Qdm hf hx hz 3 _ rfl opn3
  obtain ⟨v4, g4, r4⟩ := Qdm hf hx hz 4 _ rfl opn3
  obtain ⟨v5, g5, r5⟩ := Qdm hf hx hz 5 _ rfl Zhu
  exact ⟨⟨v0, v1, v2, v3, v4, v5⟩, ⟨g0, g1, g2, g3, g4, g5⟩, Qpw (Qfv (Qfv (Qfv (Qfv (Qfv (Qlb r0) r1 rfl) r2 rfl) r3 rfl) r4 rfl) r5 rfl) (hl.trans (by kernel_rfl))⟩⟩
def Qp1 (x : GStream) : Prop := Qik x.Mass ∧ Qik x.Heat ∧ Qik x.Silica ∧ Qik x.Gas
theorem Zgo : Opn Tryz.prog 32 4 Qaq Qp1 := ⟨by kernel_rfl, fun _ => rfl, fun _ _ _ _ _ _ _ _ _ h hw => by
  obtain ⟨xs, n, _, rfl, hl, hx, hf⟩ := DataW.trod_struct Tryz.underlying32 h
  have hz := Qis Tryz.underlying32 hw
  obtain ⟨v0, g0, r0⟩ := Qdm hf hx hz 0 _ rfl opn3
  obtain ⟨v1, g1, r1⟩ := Qdm hf hx hz 1 _ rfl opn3
  obtain ⟨v2, g2, r2⟩ := Qdm hf hx hz 2 _ rfl opn3
  obtain ⟨v3, g3, r3⟩ := Qdm hf hx hz 3 _ rfl opn3
  exact ⟨⟨v0, v1, v2, v3⟩, ⟨g0, g1, g2, g3⟩, Qpw (Qfv (Qfv (Qfv (Qlb r0) r1 rfl) r2 rfl) r3 rfl) (hl.trans (by kernel_rfl))⟩⟩
end Go.Proofs.YtlhakkkjgdbdpaaGreat
