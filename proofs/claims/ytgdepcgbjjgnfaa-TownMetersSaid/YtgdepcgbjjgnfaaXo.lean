/-
  The arguments of given statements as lists and numbers. No conditions.
-/
import Derived.Test.YtgdepcgbjjgnfaaXt
import Derived.Test.YtgdepcgbjjgnfaaEngZ
namespace Go.Proofs.Ytgdepcgbjjgnfaa
open Go.ChangeShapes Go.WideShapes Go.ChangeAt Go.RowKit Go.Deep Go.Joins

def gd_i64 (x : Int) : Prop := (Lit.int .i64 x).wf = true
set_option maxRecDepth 100000 in
theorem opn3 : Opn Try.prog 3 1 Qac gd_i64 := opn_int Try.underlying3 (by kernel_rfl)
def gd_GNode (x : GNode) : Prop := gd_i64 x.Parent ∧ gd_i64 x.Loss ∧ gd_i64 x.Limit ∧ gd_i64 x.Rank
def gd_LGNode (x : (List GNode)) : Prop := x.length ≤ maxLen ∧ ∀ y ∈ x, gd_GNode y
set_option maxRecDepth 100000 in
theorem opn56 : Opn Try.prog 56 4 Qaa gd_GNode := ⟨by kernel_rfl, fun _ => rfl, fun _ _ _ _ _ _ _ _ _ h => by
  obtain ⟨xs, n, _, _, hl, hx, hf⟩ := DataW.trod_struct Try.underlying56 h
  obtain ⟨v0, g0, r0⟩ := Qfx hf hx 0 _ rfl opn3
  obtain ⟨v1, g1, r1⟩ := Qfx hf hx 1 _ rfl opn3
  obtain ⟨v2, g2, r2⟩ := Qfx hf hx 2 _ rfl opn3
  obtain ⟨v3, g3, r3⟩ := Qfx hf hx 3 _ rfl opn3
  exact ⟨⟨v0, v1, v2, v3⟩, ⟨g0, g1, g2, g3⟩, rel_all (Qht (Qht (Qht (rel_first r0) r1 rfl) r2 rfl) r3 rfl) (hl.trans (by kernel_rfl))⟩⟩
set_option maxRecDepth 100000 in
theorem opn22 : Opn Try.prog 22 1 c_LGNode gd_LGNode := opn_slice Try.underlying22 (by kernel_rfl) opn56 (by decide)
def gd_GMeter (x : GMeter) : Prop := gd_i64 x.Reading ∧ gd_i64 x.Off
def Qjb (x : (List GMeter)) : Prop := x.length ≤ maxLen ∧ ∀ y ∈ x, gd_GMeter y
def gd_bool (_ : Bool) : Prop := True
def gd_Lbool (x : (List Bool)) : Prop := x.length ≤ maxLen ∧ ∀ y ∈ x, gd_bool y
def gd_GMeters (x : GMeters) : Prop := Qjb x.Use ∧ Qjb x.Flow ∧ gd_Lbool x.Has
set_option maxRecDepth 100000 in
theorem opn91 : Opn Try.prog 91 2 Qab gd_GMeter := ⟨by kernel_rfl, fun _ => rfl, fun _ _ _ _ _ _ _ _ _ h => by
  obtain ⟨xs, n, _, _, hl, hx, hf⟩ := DataW.trod_struct Try.underlying91 h
  obtain ⟨v0, g0, r0⟩ := Qfx hf hx 0 _ rfl opn3
  obtain ⟨v1, g1, r1⟩ := Qfx hf hx 1 _ rfl opn3
  exact ⟨⟨v0, v1⟩, ⟨g0, g1⟩, rel_all (Qht (rel_first r0) r1 rfl) (hl.trans (by kernel_rfl))⟩⟩
set_option maxRecDepth 100000 in
theorem opn87 : Opn Try.prog 87 1 c_LGMeter Qjb := opn_slice Try.underlying87 (by kernel_rfl) opn91 (by decide)
set_option maxRecDepth 100000 in
theorem opn4 : Opn Try.prog 4 1 Qae gd_bool := opn_bool Try.underlying4 (by kernel_rfl)
set_option maxRecDepth 100000 in
theorem opn26 : Opn Try.prog 26 1 c_Lbool gd_Lbool := opn_slice Try.underlying26 (by kernel_rfl) opn4 (by decide)
set_option maxRecDepth 100000 in
theorem opn89 : Opn Try.prog 89 3 Qfi gd_GMeters := ⟨by kernel_rfl, fun _ => rfl, fun _ _ _ _ _ _ _ _ _ h => by
  obtain ⟨xs, n, _, _, hl, hx, hf⟩ := DataW.trod_struct Try.underlying89 h
  obtain ⟨v0, g0, r0⟩ := Qfx hf hx 0 _ rfl opn87
  obtain ⟨v1, g1, r1⟩ := Qfx hf hx 1 _ rfl opn87
  obtain ⟨v2, g2, r2⟩ := Qfx hf hx 2 _ rfl opn26
  exact ⟨⟨v0, v1, v2⟩, ⟨g0, g1, g2⟩, rel_all (Qht (Qht (rel_first r0) r1 rfl) r2 rfl) (hl.trans (by kernel_rfl))⟩⟩
end Go.Proofs.Ytgdepcgbjjgnfaa
