/-
  Plain: taking heat of brine twice is taking both together; the rest keeps its floor. No conditions.
-/
import Derived.Test.YtgdepcgbjjgnfaaX11
import Derived.Test.YtgdepcgbjjgnfaaPTakes
namespace Go.Proofs.Ytgdepcgbjjgnfaa
open Go.RowKit

theorem brine_true (s : GStream) (p a b : Int) (_ : gd_GStream s) (gp : gd_u16 p) (ga : gd_u32 a) (gb : gd_u32 b) : law10_TownBrineX 2000 s p a b = some true := by
  have hp := bounds_u16 gp
  have ha := bounds_u32 ga
  have hb := bounds_u32 gb
  unfold law10_TownBrineX law01_StreamX
  simp only [Option.bind_some, right_eq, wakes_at]
  cases hs : strB s with
  | false => rfl
  | true =>
    obtain ⟨⟨m0, m1⟩, ⟨h0, h1⟩, ⟨s0, s1⟩, g0, g1⟩ := strB_iff.1 hs
    have e1 : w64 p = p := w64_id (by omega) (by omega)
    have e2 : w64 a = a := w64_id (by omega) (by omega)
    have e3 : w64 b = b := w64_id (by omega) (by omega)
    have e4 : w64 (a + b) = a + b := w64_id (by omega) (by omega)
    have e5 : p.tmod 4001 = p % 4001 := Int.tmod_eq_emod_of_nonneg (by omega)
    rw [e1, e2, e3, e4, e5]
    generalize hf : p % 4001 = f
    have f0 : 0 ≤ f := by omega
    have f1 : f ≤ 4000 := by omega
    obtain ⟨q0, q1⟩ := prod_bd f0 f1 m0 m1
    have hs' : strB ⟨s.Mass, s.Heat - gotI s f a, s.Silica, s.Gas⟩ = true := by
      refine strB_iff.2 ⟨⟨m0, m1⟩, ?_, ⟨s0, s1⟩, g0, g1⟩
      simp only [gotI, givesI]
      generalize f * s.Mass = q at q0 q1
      omega
    simp only [take_eq 2000 s hs f0 f1 (show 0 ≤ a by omega) (by omega), take_eq 2000 s hs f0 f1 (show 0 ≤ a + b by omega) (by omega), take_eq 2000 _ hs' f0 f1 (show 0 ≤ b by omega) (by omega), Option.bind_some, joinK, check_eq, hs', cond_true, Bool.not_true, cond_false]
    obtain ⟨q, hq⟩ : ∃ q, q = f * s.Mass := ⟨_, rfl⟩
    rw [← hq] at q0 q1
    simp only [gotI, givesI, ← hq]
    have e6 : w64 q = q := w64_id (by omega) (by omega)
    obtain ⟨n, hn⟩ : ∃ n, n = min a (max 0 (s.Heat - q)) := ⟨_, rfl⟩
    obtain ⟨m, hm⟩ : ∃ m, m = min b (max 0 (s.Heat - n - q)) := ⟨_, rfl⟩
    obtain ⟨k, hk⟩ : ∃ k, k = min (a + b) (max 0 (s.Heat - q)) := ⟨_, rfl⟩
    simp only [← hn, ← hk, ← hm]
    have hnm : n + m = k := by omega
    have e7 : w64 (n + m) = k := by rw [w64_id (by omega) (by omega)]; exact hnm
    have e8 : w64 (s.Heat - n + n) = s.Heat := by rw [w64_id (by omega) (by omega)]; omega
    have e9 : s.Heat - n - m = s.Heat - k := by omega
    simp only [e6, e7, e8, e9, bne_self_eq_false, cond_false, show decide (n < 0) = false from by simp; omega, show decide (n > a) = false from by simp; omega, beq_self_eq_true, Bool.not_true]
    by_cases hh : s.Heat < q
    · have hn0 : n = 0 := by omega
      simp [hh, hn0]
    · have h2 : q ≤ s.Heat := by omega
      have h3 : q ≤ s.Heat - n := by omega
      simp [hh, h2, h3]
end Go.Proofs.Ytgdepcgbjjgnfaa
