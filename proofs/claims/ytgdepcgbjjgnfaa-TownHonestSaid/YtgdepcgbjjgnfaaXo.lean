/-
  The arguments of given statements as lists and numbers. No conditions.
-/
import Derived.Test.YtgdepcgbjjgnfaaXt
import Derived.Test.YtgdepcgbjjgnfaaEngZ
namespace Go.Proofs.Ytgdepcgbjjgnfaa
open Go.ChangeShapes Go.WideShapes Go.ChangeAt Go.RowKit Go.Deep Go.Joins
def Qn9 (x : Int) : Prop := (Lit.int .i64 x).wf = true
set_option maxRecDepth 100000 in
theorem opn3 : Opn Try.prog 3 1 Qad Qn9 := Qrx Try.underlying3 (by kernel_rfl)
def gd_u32 (x : Int) : Prop := (Lit.int .u32 x).wf = true
def Qwq (x : Int) : Prop := (Lit.int .u16 x).wf = true
set_option maxRecDepth 100000 in
theorem opn58 : Opn Try.prog 58 1 Qjz Qwq := Qrx Try.underlying58 (by kernel_rfl)
def Qtm (x : GNode) : Prop := Qn9 x.Parent ∧ Qn9 x.Loss ∧ Qn9 x.Limit ∧ Qn9 x.Rank
def Qqs (x : (List GNode)) : Prop := x.length ≤ maxLen ∧ (∀ y ∈ x, Qtm y) ∧ x.length * 32 ≤ 140737488351232
set_option maxRecDepth 100000 in
theorem opn56 : Opn Try.prog 56 4 Qac Qtm := ⟨by kernel_rfl, fun _ => rfl, fun _ _ _ _ _ _ _ _ _ h hw => by
  obtain ⟨xs, n, _, rfl, hl, hx, hf⟩ := DataW.trod_struct Try.underlying56 h
  have hz := Qrp Try.underlying56 hw
  obtain ⟨v0, g0, r0⟩ := Qky hf hx hz 0 _ rfl opn3
  obtain ⟨v1, g1, r1⟩ := Qky hf hx hz 1 _ rfl opn3
  obtain ⟨v2, g2, r2⟩ := Qky hf hx hz 2 _ rfl opn3
  obtain ⟨v3, g3, r3⟩ := Qky hf hx hz 3 _ rfl opn3
  exact ⟨⟨v0, v1, v2, v3⟩, ⟨g0, g1, g2, g3⟩, rel_all (Qpb (Qpb (Qpb (Qv3 r0) r1 rfl) r2 rfl) r3 rfl) (hl.trans (by kernel_rfl))⟩⟩
set_option maxRecDepth 100000 in
theorem opn22 : Opn Try.prog 22 1 Qy3 Qqs := Qm1 Try.underlying22 (by kernel_rfl) opn56 (by decide) (by kernel_rfl)
def Qws (x : (List Int)) : Prop := x.length ≤ maxLen ∧ (∀ y ∈ x, Qn9 y) ∧ x.length * 8 ≤ 140737488351232
set_option maxRecDepth 100000 in
theorem opn23 : Opn Try.prog 23 1 c_Li64 Qws := Qm1 Try.underlying23 (by kernel_rfl) opn3 (by decide) (by kernel_rfl)
def Qwr (x : (List Int)) : Prop := x.length ≤ maxLen ∧ (∀ y ∈ x, Qwq y) ∧ x.length * 2 ≤ 140737488351232
set_option maxRecDepth 100000 in
theorem opn110 : Opn Try.prog 110 1 c_Lu16 Qwr := Qm1 Try.underlying110 (by kernel_rfl) opn58 (by decide) (by kernel_rfl)
def gd_u8 (x : Int) : Prop := (Lit.int .u8 x).wf = true
end Go.Proofs.Ytgdepcgbjjgnfaa
