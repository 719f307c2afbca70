/-
  Plain: what brine gives is the document's. No conditions.
-/
import Derived.Test.YtgdepcgbjjgnfaaX10
import Derived.Test.YtgdepcgbjjgnfaaPTakes
namespace Go.Proofs.Ytgdepcgbjjgnfaa
open Go.RowKit

theorem takes_true (s : GStream) (f w : Int) (_ : gd_GStream s) (_ : gd_i64 f) (_ : gd_i64 w) : law10_TownTakesX 2000 s f w = some true := by
  unfold law10_TownTakesX law01_StreamX
  simp only [Option.bind_some, right_eq, in_eq, wakes_at]
  cases hs : strB s with
  | false =>
    have e : town_TakeX 2000 ⟨s, f⟩ w = some (⟨0, 0, 0, 0⟩, 0, 1) := by simp [town_TakeX, joinK, check_eq, hs]
    simp [e, joinK, law01_BackX]
  | true =>
    cases hf : btw f 0 4000 with
    | false =>
      have e : town_TakeX 2000 ⟨s, f⟩ w = some (⟨0, 0, 0, 0⟩, 0, 1) := by simp [town_TakeX, joinK, check_eq, hs, within_eq, hf]
      simp [e, joinK, law01_BackX]
    | true =>
      cases hw : btw w 0 100000000000 with
      | false =>
        have e : town_TakeX 2000 ⟨s, f⟩ w = some (⟨0, 0, 0, 0⟩, 0, 2) := by simp [town_TakeX, joinK, check_eq, hs, within_eq, hf, hw]
        simp [e, joinK, law01_BackX]
      | true =>
        obtain ⟨f0, f1⟩ := btw_iff.1 hf
        obtain ⟨w0, w1⟩ := btw_iff.1 hw
        obtain ⟨⟨m0, m1⟩, ⟨h0, h1⟩, _, _⟩ := strB_iff.1 hs
        obtain ⟨q0, q1⟩ := prod_bd f0 f1 m0 m1
        simp only [take_eq 2000 s hs f0 f1 w0 w1, Option.bind_some, joinK, law01_BackX, ref10_GivesX, gotI, givesI]
        generalize hq : f * s.Mass = q at q0 q1
        have e1 : w64 q = q := w64_id (by omega) (by omega)
        have e2 : w64 (s.Heat - q) = s.Heat - q := w64_id (by omega) (by omega)
        have e3 : (if s.Heat - q > 0 then s.Heat - q else 0) = max 0 (s.Heat - q) := by split <;> omega
        have e4 : (if max 0 (s.Heat - q) < w then max 0 (s.Heat - q) else w) = min w (max 0 (s.Heat - q)) := by split <;> omega
        rw [e1, e2, e3, e4]
        generalize hg : min w (max 0 (s.Heat - q)) = g
        have e5 : w64 (s.Heat - g) = s.Heat - g := w64_id (by omega) (by omega)
        rw [e5]
        simp
end Go.Proofs.Ytgdepcgbjjgnfaa
