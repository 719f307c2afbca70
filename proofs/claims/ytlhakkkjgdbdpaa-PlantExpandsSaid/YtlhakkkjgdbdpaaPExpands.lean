/-
  Plain: what leaves a unit and a condenser, and what is taken. No conditions.
-/
import Derived.Test.YtlhakkkjgdbdpaaX11
import Derived.Test.YtlhakkkjgdbdpaaPStr
namespace Go.Proofs.Ytlhakkkjgdbdpaa
open Go.RowKit

theorem checked_two {N : Nat} (hN : 10 ≤ N) (s t : GStream) : Qgf N [s, t] = some (bif strB s && strB t then 0 else 1) := by
  obtain ⟨n, rfl⟩ : ∃ n, N = n + 3 := ⟨N - 3, by omega⟩
  unfold Qgf Qd8 Qbz Qb4
  simp only [Qc5, Qa4, Qdt, valid_eq, getI, Option.bind_some, show w64 (0 + 1) = 1 from by decide, show w64 (1 + 1) = 2 from by decide]
  cases h : strB s <;> cases h' : strB t <;> simp [h, h']
def sumS (s t : GStream) : GStream := ⟨s.Mass + t.Mass, s.Heat + t.Heat, s.Silica + t.Silica, s.Gas + t.Gas⟩
theorem add_eq {s t : GStream} (hs : strB s = true) (ht : strB t = true) : w64 (s.Mass + t.Mass) = s.Mass + t.Mass ∧ w64 (s.Heat + t.Heat) = s.Heat + t.Heat ∧ w64 (s.Silica + t.Silica) = s.Silica + t.Silica ∧ w64 (s.Gas + t.Gas) = s.Gas + t.Gas := by
  have h1 := strB_iff.1 hs
  have h2 := strB_iff.1 ht
  exact ⟨Qfe (by omega) (by omega), Qfe (by omega) (by omega), Qfe (by omega) (by omega), Qfe (by omega) (by omega)⟩
theorem one_eq {s : GStream} (hs : strB s = true) : w64 s.Mass = s.Mass ∧ w64 s.Heat = s.Heat ∧ w64 s.Silica = s.Silica ∧ w64 s.Gas = s.Gas := by
  have h1 := strB_iff.1 hs
  exact ⟨Qfe (by omega) (by omega), Qfe (by omega) (by omega), Qfe (by omega) (by omega), Qfe (by omega) (by omega)⟩
theorem sumP_two {N : Nat} (hN : 10 ≤ N) {s t : GStream} (hs : strB s = true) (ht : strB t = true) : Qi9 N [s, t] = some (sumS s t) := by
  obtain ⟨n, rfl⟩ : ∃ n, N = n + 3 := ⟨N - 3, by omega⟩
  obtain ⟨a1, a2, a3, a4⟩ := add_eq hs ht
  obtain ⟨b1, b2, b3, b4⟩ := one_eq hs
  unfold Qi9
  simp [Qc5, Qer, Qhi, Qck, getI, show w64 1 = 1 from by decide, show w64 2 = 2 from by decide, b1, b2, b3, b4, a1, a2, a3, a4, sumS]
theorem sumR_two {N : Nat} (hN : 10 ≤ N) {s t : GStream} (hs : strB s = true) (ht : strB t = true) : Qje N [s, t] = some (sumS s t) := by
  obtain ⟨n, rfl⟩ : ∃ n, N = n + 3 := ⟨N - 3, by omega⟩
  obtain ⟨a1, a2, a3, a4⟩ := add_eq hs ht
  obtain ⟨b1, b2, b3, b4⟩ := one_eq hs
  unfold Qje
  simp [Qc5, Qes, getI, show w64 1 = 1 from by decide, show w64 2 = 2 from by decide, b1, b2, b3, b4, a1, a2, a3, a4, sumS]
def zeroS : GStream := ⟨0, 0, 0, 0⟩
def expI (u : GUnit) (s : GStream) : GStream × Int × Int :=
  if s.Mass > capI u.Parts then (zeroS, 0, 2) else if s.Heat < powI u.Parts s.Mass then (zeroS, 0, 9) else (⟨s.Mass, w64 (s.Heat - powI u.Parts s.Mass), s.Silica, s.Gas⟩, powI u.Parts s.Mass, 0)
theorem expP_eq {N : Nat} (hN : 100 ≤ N) (u : GUnit) (s : GStream) : Qg8 N u s = some (bif unitB u && strB s then expI u s else (zeroS, 0, 1)) := by
  unfold Qg8
  simp only [Qc5, unit_eq hN, Option.bind_some, rightP_one (show 10 ≤ N by omega)]
  cases h : unitB u with
  | false => rfl
  | true =>
    cases h' : strB s with
    | false => rfl
    | true =>
      have hs := strB_iff.1 h'
      simp only [Bool.not_true, cond_false, capP_eq h hN, Option.bind_some, powP_eq h hN hs.1.1 (by omega), Bool.and_self, cond_true, expI]
      by_cases h1 : s.Mass > capI u.Parts
      · simp [h1, zeroS]
      · by_cases h2 : s.Heat < powI u.Parts s.Mass <;> simp [h1, h2, zeroS]
theorem expR_eq {N : Nat} (hN : 100 ≤ N) {u : GUnit} {s : GStream} (h : unitB u = true) (h' : strB s = true) : Qgz N u s = some (expI u s) := by
  have hs := strB_iff.1 h'
  unfold Qgz
  simp only [capR_eq h hN, Option.bind_some, powR_eq h hN hs.1.1 (show s.Mass ≤ 9223372036854775807 by omega), expI]
  by_cases h1 : s.Mass > capI u.Parts
  · simp [h1, zeroS]
  · by_cases h2 : s.Heat < powI u.Parts s.Mass <;> simp [h1, h2, zeroS]
def conI (s t : GStream) (m : Int) : GStream × Int × Int :=
  if (sumS s t).Mass > 1000000 then (zeroS, 0, 3) else if (sumS s t).Gas > 1000000000 then (zeroS, 0, 3) else if (sumS s t).Gas > m then (zeroS, 0, 11) else (⟨(sumS s t).Mass, (sumS s t).Heat, (sumS s t).Silica, 0⟩, (sumS s t).Gas, 0)
theorem conP_eq {N : Nat} (hN : 100 ≤ N) (s t : GStream) (m : Int) : Qf5 N s t m = some (bif strB s && strB t then (bif btw m 0 1000000000 then conI s t m else (zeroS, 0, 2)) else (zeroS, 0, 1)) := by
  unfold Qf5 steam_MixX
  simp only [rightP_two (show 10 ≤ N by omega), Option.bind_some, within_eq, checked_two (show 10 ≤ N by omega)]
  cases h : strB s <;> cases h' : strB t <;> simp only [Bool.and_true, Bool.and_false, Bool.not_true, Bool.not_false, cond_true, cond_false, zeroS]
  cases h2 : btw m 0 1000000000 <;> simp only [Bool.not_true, Bool.not_false, cond_true, cond_false]
  simp only [sumP_two (show 10 ≤ N by omega) h h', Option.bind_some, conI, zeroS]
  by_cases h3 : (sumS s t).Mass > 1000000
  · simp [h3]
  · by_cases h4 : (sumS s t).Gas > 1000000000
    · simp [h3, h4]
    · by_cases h5 : (sumS s t).Gas > m <;> simp [h3, h4, h5]
theorem conR_eq {N : Nat} (hN : 100 ≤ N) {s t : GStream} (m : Int) (h : strB s = true) (h' : strB t = true) : Qf2 N s t m = some (conI s t m) := by
  unfold Qf2
  simp only [sumR_two (show 10 ≤ N by omega) h h', Option.bind_some, conI, zeroS, Qc5]
  by_cases h3 : (sumS s t).Mass > 1000000
  · simp [h3]
  · by_cases h4 : (sumS s t).Gas > 1000000000
    · simp [h3, h4]
    · by_cases h5 : (sumS s t).Gas > m <;> simp [h3, h4, h5]
/-- A result with an error has nothing else. -/
def Clean (r : GStream × Int × Int) : Prop := r.2.2 = 0 ∨ r.1 = zeroS ∧ r.2.1 = 0
theorem expI_clean (u : GUnit) (s : GStream) : Clean (expI u s) := by
  unfold expI Clean
  split
  · simp
  · split <;> simp
theorem conI_clean (s t : GStream) (m : Int) : Clean (conI s t m) := by
  unfold conI Clean
  split
  · simp
  · split
    · simp
    · split <;> simp
theorem expands_law (u : GUnit) (s c : GStream) (m : Int) (_ : gd_GUnit u) (_ : gd_GStream s) (_ : gd_GStream c) (_ : gd_i64 m) : Qfs 2000 u s c m = some true := by
  unfold Qfs Qi3 Qe4
  rw [awake_at]
  simp only [Option.bind_some]
  by_cases hs : (u.Parts.length : Int) ≤ 10
  · simp only [hs, decide_true, Bool.not_true, cond_false, copyU_eq (u := u) (N := 2000) (by omega) (by omega), Option.bind_some, expP_eq (N := 2000) (by omega), conP_eq (N := 2000) (by omega), right_eq (u := u) (N := 2000) (by omega) (by omega), rightS_eq, in_eq, Qc5]
    have hA := expI_clean u s
    have hB := conI_clean s c m
    cases h1 : unitB u <;> cases h2 : strB s <;> cases h3 : strB c <;> cases h4 : btw m 0 1000000000 <;> simp only [cond_true, cond_false, Bool.and_true, Bool.and_false, Bool.not_true, Bool.not_false, Option.bind_some] <;>
      (try rw [expR_eq (show 100 ≤ 2000 by omega) h1 h2]) <;> (try rw [conR_eq (show 100 ≤ 2000 by omega) m h2 h3]) <;>
      (rcases ha : expI u s with ⟨a, wk, e⟩; rcases hb : conI s c m with ⟨b, v, f⟩; rw [ha] at hA; rw [hb] at hB; unfold Clean at hA hB; dsimp only at hA hB) <;>
      by_cases he : e = 0 <;> by_cases hf : f = 0 <;> simp_all [zeroS]
  · simp [hs]
end Go.Proofs.Ytlhakkkjgdbdpaa
