/-
  Plain laws of a flash: what is left, what is kept, and that more heat makes no less steam. For valid rows and streams.
-/
import Derived.Test.YtenpbiineblcjaaRefA
namespace Go.Proofs.Ytenpbiineblcjaa

theorem flash_st (f : RowT) (s : StrT) : (flashOf f s).st.M = steamOf f s := by
  unfold flashOf splitOf
  by_cases h : steamOf f s = 0
  · simp [h, StrT.zero]
  · by_cases h' : steamOf f s = s.M
    · have h0 : ¬ s.M = 0 := by rw [← h']; exact h
      simp [h0, h']
    · simp [h, h']

theorem flash_wa (f : RowT) (s : StrT) : (flashOf f s).wa.M = s.M - steamOf f s := by
  unfold flashOf splitOf
  by_cases h : steamOf f s = 0
  · simp [h]
  · by_cases h' : steamOf f s = s.M
    · have h0 : ¬ s.M = 0 := by rw [← h']; exact h
      simp [h0, h', StrT.zero]
    · simp [h, h']

theorem flash_rest {f : RowT} {s : StrT} (hf : RowB f) : 0 ≤ (flashOf f s).rest ∧ (flashOf f s).rest < f.V - f.L := by
  obtain ⟨_, _, _, _, l0, lv, v1, _, _⟩ := hf
  by_cases h : steamOf f s = 0
  · rw [flash0 h]
    dsimp only
    split
    · refine ⟨by omega, ?_⟩
      by_cases ho : s.H - s.M * f.L ≤ 0
      · omega
      · by_cases hv : s.M * f.V ≤ s.H
        · rw [steamOf_all (by omega) hv] at h
          omega
        · rw [steamOf_mid (by omega) (by omega)] at h
          have := Int.lt_mul_ediv_self_add (x := s.H - s.M * f.L) (k := f.V - f.L) (by omega)
          rw [h] at this
          omega
    · exact ⟨Int.le_refl _, by omega⟩
  · by_cases h' : steamOf f s = s.M
    · rw [flash1 h' (h' ▸ h)]
      exact ⟨Int.le_refl _, by dsimp only; omega⟩
    · obtain ⟨a, b⟩ := mid_heat ⟨by assumption, by assumption, by assumption, by assumption, l0, lv, v1, by assumption, by assumption⟩ h h'
      rw [flash2 rfl h h']
      dsimp only
      split
      · omega
      · omega

/-- Where there is steam and water. -/
theorem flash_both {f : RowT} {s : StrT} (hf : RowB f) (h1 : 0 < (flashOf f s).st.M) (h2 : 0 < (flashOf f s).wa.M) :
    (flashOf f s).st.H = (flashOf f s).st.M * f.V ∧ (flashOf f s).wa.H = (flashOf f s).wa.M * f.L + (flashOf f s).rest ∧ (flashOf f s).wa.G = 0 ∧ (flashOf f s).wa.S ≤ (flashOf f s).wa.M * f.S := by
  have h0 : steamOf f s ≠ 0 := by rw [flash_st] at h1; omega
  have h3 : steamOf f s ≠ s.M := fun e => by
    rw [flash1 e (e ▸ h0)] at h2
    exact absurd h2 (Int.lt_irrefl _)
  obtain ⟨a, b⟩ := mid_heat hf h0 h3
  rw [flash2 rfl h0 h3] at h2 ⊢
  dsimp only at h2 ⊢
  rw [if_pos h2]
  refine ⟨rfl, by omega, rfl, by omega⟩

theorem flash_else {f : RowT} {s : StrT} (hf : RowB f) (hs : StrB s) (h : ¬ (0 < (flashOf f s).st.M ∧ 0 < (flashOf f s).wa.M)) : (flashOf f s).st.M = 0 ∨ (s.M * f.V ≤ s.H ∧ (flashOf f s).rest = 0) := by
  by_cases h0 : steamOf f s = 0
  · left
    rw [flash_st, h0]
  · right
    obtain ⟨a, b⟩ := steamOf_bd hf hs
    rw [flash_st, flash_wa] at h
    have h3 : steamOf f s = s.M := by omega
    rw [flash1 h3 (h3 ▸ h0)]
    refine ⟨?_, rfl⟩
    by_cases ho : s.H - s.M * f.L ≤ 0
    · rw [steamOf_low ho] at h0
      exact absurd rfl h0
    · by_cases hv : s.M * f.V ≤ s.H
      · exact hv
      · rw [steamOf_mid (by omega) (by omega)] at h3
        have := Int.ediv_lt_of_lt_mul (a := s.H - s.M * f.L) (b := s.M) (c := f.V - f.L) (by have := hf.lv; omega) (by rw [Int.mul_sub]; omega)
        omega

theorem steam_mono {f : RowT} {s t : StrT} (hf : RowB f) (hs : StrB s) (hm : s.M = t.M) (hh : s.H ≤ t.H) : steamOf f s ≤ steamOf f t := by
  have lv := hf.lv
  have ht0 : 0 ≤ steamOf f t := by
    unfold steamOf
    split
    · omega
    · split
      · rw [← hm]; exact hs.m0
      · exact Int.ediv_nonneg (by omega) (by omega)
  by_cases ho : s.H - s.M * f.L ≤ 0
  · rw [steamOf_low ho]
    exact ht0
  · have ho' : 0 < t.H - t.M * f.L := by rw [← hm]; omega
    by_cases hv' : t.M * f.V ≤ t.H
    · rw [steamOf_all ho' hv', ← hm]
      exact (steamOf_bd hf hs).2
    · have hv : s.H < s.M * f.V := by rw [hm]; omega
      rw [steamOf_mid (by omega) hv, steamOf_mid ho' (by omega)]
      exact Int.ediv_le_ediv (by omega) (by rw [hm]; omega)
end Go.Proofs.Ytenpbiineblcjaa
