/-
  The arguments of given statements as lists and numbers. No conditions.
-/
import Derived.Test.YtmbhnllcfmiajaaXt
import Derived.Test.YtmbhnllcfmiajaaEngZ
namespace Go.Proofs.Ytmbhnllcfmiajaa
set_option maxRecDepth 100000
open Go.ChangeShapes Go.WideShapes Go.ChangeAt Go.RowKit Go.Deep Go.Joins
def Qkz (x : Int) : Prop := (Lit.int .i64 x).wf = true
def Q4d (x : GRow) : Prop := Qkz x.T ∧ Qkz x.P ∧ Qkz x.Liquid ∧ Qkz x.Vapour ∧ Qkz x.Silica
def Qzh (x : (List GRow)) : Prop := x.length ≤ maxLen ∧ (∀ y ∈ x, Q4d y) ∧ x.length * 40 ≤ 140737488351232
def Zeq (x : Int) : Prop := (Lit.int .u8 x).wf = true
def Qzi (x : GPort) : Prop := Qkz x.Element ∧ Qkz x.Outlet
def Qvh (x : (List GPort)) : Prop := x.length ≤ maxLen ∧ (∀ y ∈ x, Qzi y) ∧ x.length * 16 ≤ 140737488351232
def Qw5 (x : (List Int)) : Prop := x.length ≤ maxLen ∧ (∀ y ∈ x, Qkz y) ∧ x.length * 8 ≤ 140737488351232
def Qqz (x : GElement) : Prop := Zeq x.Kind ∧ Qvh x.From ∧ Qkz x.Level ∧ Qkz x.Amount ∧ Qkz x.Wide ∧ Qkz x.Narrow ∧ Qw5 x.Weights
def Qpg (x : (List GElement)) : Prop := x.length ≤ maxLen ∧ (∀ y ∈ x, Qqz y) ∧ x.length * 88 ≤ 140737488351232
def Q4e (x : GNet) : Prop := Qzh x.Table ∧ Qpg x.Elements
theorem opn3 : Opn Try.prog 3 1 Qaj Qkz := Q3v Try.underlying3 (by kernel_rfl)
theorem Zen : Opn Try.prog 106 5 Qa3 Q4d := ⟨by kernel_rfl, fun _ => rfl, fun _ _ _ _ _ _ _ _ _ h hw => by
  obtain ⟨xs, n, _, rfl, hl, hx, hf⟩ := DataW.trod_struct Try.underlying106 h
  have hz := Qk4 Try.underlying106 hw
  obtain ⟨v0, g0, r0⟩ := Qe3 hf hx hz 0 _ rfl opn3
  obtain ⟨v1, g1, r1⟩ := Qe3 hf hx hz 1 _ rfl opn3
  obtain ⟨v2, g2, r2⟩ := Qe3 hf hx hz 2 _ rfl opn3
  obtain ⟨v3, g3, r3⟩ := Qe3 hf hx hz 3 _ rfl opn3
  obtain ⟨v4, g4, r4⟩ := Qe3 hf hx hz 4 _ rfl opn3
  exact ⟨⟨v0, v1, v2, v3, v4⟩, ⟨g0, g1, g2, g3, g4⟩, Qti (Qhg (Qhg (Qhg (Qhg (Qny r0) r1 rfl) r2 rfl) r3 rfl) r4 rfl) (hl.trans (by kernel_rfl))⟩⟩
theorem Zfq : Opn Try.prog 23 1 Q47 Qzh := Qn5 Try.underlying23 (by kernel_rfl) Zen (by decide) (by kernel_rfl)
theorem opn5 : Opn Try.prog 5 1 c_u8 Zeq := Q3v Try.underlying5 (by kernel_rfl)
theorem Zfm : Opn Try.prog 66 2 Qam Qzi := ⟨by kernel_rfl, fun _ => rfl, fun _ _ _ _ _ _ _ _ _ h hw => by
  obtain ⟨xs, n, _, rfl, hl, hx, hf⟩ := DataW.trod_struct Try.underlying66 h
  have hz := Qk4 Try.underlying66 hw
  obtain ⟨v0, g0, r0⟩ := Qe3 hf hx hz 0 _ rfl opn3
  obtain ⟨v1, g1, r1⟩ := Qe3 hf hx hz 1 _ rfl opn3
  exact ⟨⟨v0, v1⟩, ⟨g0, g1⟩, Qti (Qhg (Qny r0) r1 rfl) (hl.trans (by kernel_rfl))⟩⟩
theorem Zfn : Opn Try.prog 64 1 Qt0 Qvh := Qn5 Try.underlying64 (by kernel_rfl) Zfm (by decide) (by kernel_rfl)
theorem Zem : Opn Try.prog 27 1 Q46 Qw5 := Qn5 Try.underlying27 (by kernel_rfl) opn3 (by decide) (by kernel_rfl)
theorem Zfl : Opn Try.prog 70 7 Qac Qqz := ⟨by kernel_rfl, fun _ => rfl, fun _ _ _ _ _ _ _ _ _ h hw => by
  obtain ⟨xs, n, _, rfl, hl, hx, hf⟩ := DataW.trod_struct Try.underlying70 h
  have hz := Qk4 Try.underlying70 hw
  obtain ⟨v0, g0, r0⟩ := Qe3 hf hx hz 0 _ rfl opn5
  obtain ⟨v1, g1, r1⟩ := Qe3 hf hx hz 1 _ rfl Zfn
  obtain ⟨v2, g2, r2⟩ := Qe3 hf hx hz 2 _ rfl opn3
  obtain ⟨v3, g3, r3⟩ := Qe3 hf hx hz 3 _ rfl opn3
  obtain ⟨v4, g4, r4⟩ := Qe3 hf hx hz 4 _ rfl opn3
  obtain ⟨v5, g5, r5⟩ := Qe3 hf hx hz 5 _ rfl opn3
  obtain ⟨v6, g6, r6⟩ := Qe3 hf hx hz 6 _ rfl Zem
  exact ⟨⟨v0, v1, v2, v3, v4, v5, v6⟩, ⟨g0, g1, g2, g3, g4, g5, g6⟩, Qti (Qhg (Qhg (Qhg (Qhg (Qhg (Qhg (Qny r0) r1 rfl) r2 rfl) r3 rfl) r4 rfl) r5 rfl) r6 rfl) (hl.trans (by kernel_rfl))⟩⟩
theorem Zfp : Opn Try.prog 24 1 Qrc Qpg := Qn5 Try.underlying24 (by kernel_rfl) Zfl (by decide) (by kernel_rfl)
theorem Zfo : Opn Try.prog 26 2 Qia Q4e := ⟨by kernel_rfl, fun _ => rfl, fun _ _ _ _ _ _ _ _ _ h hw => by
  obtain ⟨xs, n, _, rfl, hl, hx, hf⟩ := DataW.trod_struct Try.underlying26 h
  have hz := Qk4 Try.underlying26 hw
  obtain ⟨v0, g0, r0⟩ := Qe3 hf hx hz 0 _ rfl Zfq
  obtain ⟨v1, g1, r1⟩ := Qe3 hf hx hz 1 _ rfl Zfp
  exact ⟨⟨v0, v1⟩, ⟨g0, g1⟩, Qti (Qhg (Qny r0) r1 rfl) (hl.trans (by kernel_rfl))⟩⟩
end Go.Proofs.Ytmbhnllcfmiajaa
