/-
  The arguments of given statements as lists and numbers. No conditions.
-/
import Derived.Test.YtlhakkkjgdbdpaaGreatXt
import Derived.Test.YtlhakkkjgdbdpaaGreatEngZ
namespace Go.Proofs.YtlhakkkjgdbdpaaGreat
set_option maxRecDepth 100000
open Go.ChangeShapes Go.WideShapes Go.ChangeAt Go.RowKit Go.Deep Go.Joins
def Qib (x : Int) : Prop := (Lit.int .i64 x).wf = true
def Q39 (x : GRow) : Prop := Qib x.T ∧ Qib x.P ∧ Qib x.Liquid ∧ Qib x.Vapour ∧ Qib x.Silica
def Qzb (x : (List GRow)) : Prop := x.length ≤ maxLen ∧ (∀ y ∈ x, Q39 y) ∧ x.length * 40 ≤ 140737488351232
def Qzd (x : GPart) : Prop := Qib x.Width ∧ Qib x.Gain
def Qvk (x : (List GPart)) : Prop := x.length ≤ maxLen ∧ (∀ y ∈ x, Qzd y) ∧ x.length * 16 ≤ 140737488351232
def Qzc (x : GUnit) : Prop := Qib x.Inlet ∧ Qvk x.Parts
def Qvl (x : GCycle) : Prop := Qib x.Out ∧ Qib x.Yield ∧ Qib x.Most
def Qze (x : GLine) : Prop := Qzb x.Table ∧ Qib x.Level ∧ Qzc x.Unit ∧ Qib x.Most ∧ Qib x.Target ∧ Qvl x.Cycle
theorem opn3 : Opn Tryz.prog 3 1 Qal Qib := Zbh Tryz.underlying3 (by kernel_rfl)
theorem Zej : Opn Tryz.prog 107 5 Qa6 Q39 := ⟨by kernel_rfl, fun _ => rfl, fun _ _ _ _ _ _ _ _ _ h hw => by
  obtain ⟨xs, n, _, rfl, hl, hx, hf⟩ := DataW.trod_struct Tryz.underlying107 h
  have hz := Qij Tryz.underlying107 hw
  obtain ⟨v0, g0, r0⟩ := Qdm hf hx hz 0 _ rfl opn3
  obtain ⟨v1, g1, r1⟩ := Qdm hf hx hz 1 _ rfl opn3
  obtain ⟨v2, g2, r2⟩ := Qdm hf hx hz 2 _ rfl opn3
  obtain ⟨v3, g3, r3⟩ := Qdm hf hx hz 3 _ rfl opn3
  obtain ⟨v4, g4, r4⟩ := Qdm hf hx hz 4 _ rfl opn3
  exact ⟨⟨v0, v1, v2, v3, v4⟩, ⟨g0, g1, g2, g3, g4⟩, Qo6 (Qfq (Qfq (Qfq (Qfq (Qks r0) r1 rfl) r2 rfl) r3 rfl) r4 rfl) (hl.trans (by kernel_rfl))⟩⟩
theorem Zft : Opn Tryz.prog 23 1 Q43 Qzb := Qve Tryz.underlying23 (by kernel_rfl) Zej (by decide) (by kernel_rfl)
theorem Zei : Opn Tryz.prog 144 2 Qba Qzd := ⟨by kernel_rfl, fun _ => rfl, fun _ _ _ _ _ _ _ _ _ h hw => by
  obtain ⟨xs, n, _, rfl, hl, hx, hf⟩ := DataW.trod_struct Tryz.underlying144 h
  have hz := Qij Tryz.underlying144 hw
  obtain ⟨v0, g0, r0⟩ := Qdm hf hx hz 0 _ rfl opn3
  obtain ⟨v1, g1, r1⟩ := Qdm hf hx hz 1 _ rfl opn3
  exact ⟨⟨v0, v1⟩, ⟨g0, g1⟩, Qo6 (Qfq (Qks r0) r1 rfl) (hl.trans (by kernel_rfl))⟩⟩
theorem Zfs : Opn Tryz.prog 24 1 Qts Qvk := Qve Tryz.underlying24 (by kernel_rfl) Zei (by decide) (by kernel_rfl)
theorem Zfr : Opn Tryz.prog 26 2 Qcj Qzc := ⟨by kernel_rfl, fun _ => rfl, fun _ _ _ _ _ _ _ _ _ h hw => by
  obtain ⟨xs, n, _, rfl, hl, hx, hf⟩ := DataW.trod_struct Tryz.underlying26 h
  have hz := Qij Tryz.underlying26 hw
  obtain ⟨v0, g0, r0⟩ := Qdm hf hx hz 0 _ rfl opn3
  obtain ⟨v1, g1, r1⟩ := Qdm hf hx hz 1 _ rfl Zfs
  exact ⟨⟨v0, v1⟩, ⟨g0, g1⟩, Qo6 (Qfq (Qks r0) r1 rfl) (hl.trans (by kernel_rfl))⟩⟩
theorem Zfq : Opn Tryz.prog 28 3 Qle Qvl := ⟨by kernel_rfl, fun _ => rfl, fun _ _ _ _ _ _ _ _ _ h hw => by
  obtain ⟨xs, n, _, rfl, hl, hx, hf⟩ := DataW.trod_struct Tryz.underlying28 h
  have hz := Qij Tryz.underlying28 hw
  obtain ⟨v0, g0, r0⟩ := Qdm hf hx hz 0 _ rfl opn3
  obtain ⟨v1, g1, r1⟩ := Qdm hf hx hz 1 _ rfl opn3
  obtain ⟨v2, g2, r2⟩ := Qdm hf hx hz 2 _ rfl opn3
  exact ⟨⟨v0, v1, v2⟩, ⟨g0, g1, g2⟩, Qo6 (Qfq (Qfq (Qks r0) r1 rfl) r2 rfl) (hl.trans (by kernel_rfl))⟩⟩
theorem Zfp : Opn Tryz.prog 30 9 Qn3 Qze := ⟨by kernel_rfl, fun _ => rfl, fun _ _ _ _ _ _ _ _ _ h hw => by
  obtain ⟨xs, n, _, rfl, hl, hx, hf⟩ := DataW.trod_struct Tryz.underlying30 h
  have hz := Qij Tryz.underlying30 hw
  obtain ⟨v0, g0, r0⟩ := Qdm hf hx hz 0 _ rfl Zft
  obtain ⟨v1, g1, r1⟩ := Qdm hf hx hz 1 _ rfl opn3
  obtain ⟨v2, g2, r2⟩ := Qdm hf hx hz 2 _ rfl Zfr
  obtain ⟨v3, g3, r3⟩ := Qdm hf hx hz 3 _ rfl opn3
  obtain ⟨v4, g4, r4⟩ := Qdm hf hx hz 4 _ rfl opn3
  obtain ⟨v5, g5, r5⟩ := Qdm hf hx hz 5 _ rfl Zfq
  exact ⟨⟨v0, v1, v2, v3, v4, v5⟩, ⟨g0, g1, g2, g3, g4, g5⟩, Qo6 (Qfq (Qfq (Qfq (Qfq (Qfq (Qks r0) r1 rfl) r2 rfl) r3 rfl) r4 rfl) r5 rfl) (hl.trans (by kernel_rfl))⟩⟩
def Qpb (x : GStream) : Prop := Qib x.Mass ∧ Qib x.Heat ∧ Qib x.Silica ∧ Qib x.Gas
theorem Zeh : Opn Tryz.prog 32 4 Qa4 Qpb := ⟨by kernel_rfl, fun _ => rfl, fun _ _ _ _ _ _ _ _ _ h hw => by
  obtain ⟨xs, n, _, rfl, hl, hx, hf⟩ := DataW.trod_struct Tryz.underlying32 h
  have hz := Qij Tryz.underlying32 hw
  obtain ⟨v0, g0, r0⟩ := Qdm hf hx hz 0 _ rfl opn3
  obtain ⟨v1, g1, r1⟩ := Qdm hf hx hz 1 _ rfl opn3
  obtain ⟨v2, g2, r2⟩ := Qdm hf hx hz 2 _ rfl opn3
  obtain ⟨v3, g3, r3⟩ := Qdm hf hx hz 3 _ rfl opn3
  exact ⟨⟨v0, v1, v2, v3⟩, ⟨g0, g1, g2, g3⟩, Qo6 (Qfq (Qfq (Qfq (Qks r0) r1 rfl) r2 rfl) r3 rfl) (hl.trans (by kernel_rfl))⟩⟩
end Go.Proofs.YtlhakkkjgdbdpaaGreat
