/-
  The arguments of given statements as lists and numbers. No conditions.
-/
import Derived.Test.YtmbhnllcfmiajaaXt
import Derived.Test.YtmbhnllcfmiajaaEngZ
namespace Go.Proofs.Ytmbhnllcfmiajaa
set_option maxRecDepth 100000
open Go.ChangeShapes Go.WideShapes Go.ChangeAt Go.RowKit Go.Deep Go.Joins
def Qmp (x : Int) : Prop := (Lit.int .i64 x).wf = true
def Q58 (x : GRow) : Prop := Qmp x.T ∧ Qmp x.P ∧ Qmp x.Liquid ∧ Qmp x.Vapour ∧ Qmp x.Silica
def Q0n (x : (List GRow)) : Prop := x.length ≤ maxLen ∧ (∀ y ∈ x, Q58 y) ∧ x.length * 40 ≤ 140737488351232
def Zgr (x : Int) : Prop := (Lit.int .u8 x).wf = true
theorem opn3 : Opn Try.prog 3 1 Qam Qmp := Q5p Try.underlying3 (by kernel_rfl)
theorem Zgo : Opn Try.prog 106 5 Qav Q58 := ⟨by kernel_rfl, fun _ => rfl, fun _ _ _ _ _ _ _ _ _ h hw => by
  obtain ⟨xs, n, _, rfl, hl, hx, hf⟩ := DataW.trod_struct Try.underlying106 h
  have hz := Qqh Try.underlying106 hw
  obtain ⟨v0, g0, r0⟩ := Qhz hf hx hz 0 _ rfl opn3
  obtain ⟨v1, g1, r1⟩ := Qhz hf hx hz 1 _ rfl opn3
  obtain ⟨v2, g2, r2⟩ := Qhz hf hx hz 2 _ rfl opn3
  obtain ⟨v3, g3, r3⟩ := Qhz hf hx hz 3 _ rfl opn3
  obtain ⟨v4, g4, r4⟩ := Qhz hf hx hz 4 _ rfl opn3
  exact ⟨⟨v0, v1, v2, v3, v4⟩, ⟨g0, g1, g2, g3, g4⟩, Q5e (Qk2 (Qk2 (Qk2 (Qk2 (Qu8 r0) r1 rfl) r2 rfl) r3 rfl) r4 rfl) (hl.trans (by kernel_rfl))⟩⟩
theorem Zhk : Opn Try.prog 23 1 Q6x Q0n := Q5o Try.underlying23 (by kernel_rfl) Zgo (by decide) (by kernel_rfl)
def Qso (x : GStream) : Prop := Qmp x.Mass ∧ Qmp x.Heat ∧ Qmp x.Silica ∧ Qmp x.Gas
theorem Zhj : Opn Try.prog 71 4 Qaa Qso := ⟨by kernel_rfl, fun _ => rfl, fun _ _ _ _ _ _ _ _ _ h hw => by
  obtain ⟨xs, n, _, rfl, hl, hx, hf⟩ := DataW.trod_struct Try.underlying71 h
  have hz := Qqh Try.underlying71 hw
  obtain ⟨v0, g0, r0⟩ := Qhz hf hx hz 0 _ rfl opn3
  obtain ⟨v1, g1, r1⟩ := Qhz hf hx hz 1 _ rfl opn3
  obtain ⟨v2, g2, r2⟩ := Qhz hf hx hz 2 _ rfl opn3
  obtain ⟨v3, g3, r3⟩ := Qhz hf hx hz 3 _ rfl opn3
  exact ⟨⟨v0, v1, v2, v3⟩, ⟨g0, g1, g2, g3⟩, Q5e (Qk2 (Qk2 (Qk2 (Qu8 r0) r1 rfl) r2 rfl) r3 rfl) (hl.trans (by kernel_rfl))⟩⟩
end Go.Proofs.Ytmbhnllcfmiajaa
