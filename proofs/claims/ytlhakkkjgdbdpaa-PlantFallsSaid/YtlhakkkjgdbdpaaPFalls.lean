/-
  Plain: more mass does not give less work, and one kilogram more does not gain more than the one before. No conditions.
-/
import Derived.Test.YtlhakkkjgdbdpaaX7
import Derived.Test.YtlhakkkjgdbdpaaPPlant
namespace Go.Proofs.Ytlhakkkjgdbdpaa
open Go.RowKit

/-- What the next kilogram gains. -/
def nextG : List GPart → Int → Int
  | [], _ => 0
  | p :: l, m => if m < p.Width then p.Gain else nextG l (m - p.Width)
theorem pow_next : ∀ (l : List GPart) (m : Int), 0 ≤ m → (∀ p ∈ l, 1 ≤ p.Width) → powI l (m + 1) = powI l m + nextG l m
  | [], _, _, _ => rfl
  | p :: l, m, h, hw => by
    have hp := hw p (by simp)
    have hl : ∀ q ∈ l, 1 ≤ q.Width := fun q hq => hw q (List.mem_cons_of_mem _ hq)
    simp only [powI, nextG]
    split
    · rename_i hlt
      rw [Int.min_eq_left (by omega : m + 1 ≤ p.Width), Int.min_eq_left (by omega : m ≤ p.Width), Int.add_mul, Int.one_mul]
      rw [show m + 1 - (m + 1) = m - m from by omega]
      omega
    · rename_i hge
      rw [Int.min_eq_right (by omega : p.Width ≤ m + 1), Int.min_eq_right (by omega : p.Width ≤ m), show m + 1 - p.Width = m - p.Width + 1 from by omega, pow_next l _ (by omega) hl]
      omega
theorem next_bd : ∀ (l : List GPart) (last m : Int), fallB last l = true → 0 ≤ last → 0 ≤ nextG l m ∧ nextG l m ≤ last
  | [], _, _, _, h => ⟨Int.le_refl _, h⟩
  | p :: l, last, m, h, h0 => by
    simp only [fallB, Bool.and_eq_true, btw_iff] at h
    obtain ⟨⟨h3, h4⟩, h5⟩ := h
    have := next_bd l p.Gain (m - p.Width) h5 (by omega)
    simp only [nextG]
    split <;> omega
theorem next_falls : ∀ (l : List GPart) (last m : Int), fallB last l = true → 0 ≤ last → nextG l (m + 1) ≤ nextG l m
  | [], _, _, _, _ => Int.le_refl _
  | p :: l, last, m, h, h0 => by
    simp only [fallB, Bool.and_eq_true, btw_iff] at h
    obtain ⟨⟨h3, h4⟩, h5⟩ := h
    have h6 := next_bd l p.Gain (m + 1 - p.Width) h5 (by omega)
    have h7 := next_falls l p.Gain (m - p.Width) h5 (by omega)
    rw [show m - p.Width + 1 = m + 1 - p.Width from by omega] at h7
    simp only [nextG]
    split <;> split <;> omega
theorem pow_zero : ∀ (l : List GPart), (∀ p ∈ l, 1 ≤ p.Width) → powI l 0 = 0
  | [], _ => rfl
  | p :: l, hw => by
    have hp := hw p (by simp)
    rw [powI, Int.min_eq_left (by omega), show (0 : Int) - 0 = 0 from rfl, pow_zero l fun q hq => hw q (List.mem_cons_of_mem _ hq)]
    simp
theorem falls_law (u : GUnit) (mass : Int) (hu : gd_GUnit u) (hm : gd_u32 mass) : law07_PlantFallsX (u.Parts.length + 2000) u mass = some true := by
  obtain ⟨m0, m1⟩ : 0 ≤ mass ∧ mass ≤ 4294967295 := by
    have := hm
    simpa [gd_u32, Lit.wf, IntKind.min, IntKind.max, IntKind.signed, IntKind.bits] using this
  have hlen : (u.Parts.length : Int) ≤ 9223372036854775807 := by
    have := hu.2.1
    rw [maxLen_eq] at this
    omega
  have hN : 200 ≤ u.Parts.length + 2000 := by omega
  generalize hNe : u.Parts.length + 2000 = N at hN
  unfold law07_PlantFallsX
  rw [awake_at]
  simp only [joinK, right_eq (u := u) (N := N) hlen (by omega), Option.bind_some]
  cases h : unitB u with
  | false => rfl
  | true =>
    obtain ⟨_, hl, hf⟩ := unitB_out h
    have hb := capI_bd _ _ hf
    have hw : ∀ p ∈ u.Parts, 1 ≤ p.Width := fun p hp => (fall_mem _ _ hf (Int.le_refl _) p hp).1.1
    simp only [Bool.not_true, cond_false, capR_eq h (show 100 ≤ N by omega), Option.bind_some]
    by_cases hc : capI u.Parts < 2
    · simp [hc]
    · have e1 : w64 (capI u.Parts - 1) = capI u.Parts - 1 := w64_id (by omega) (by omega)
      have e2 : w64 mass = mass := w64_id (by omega) (by omega)
      have e3 : mass.tmod (capI u.Parts - 1) = mass % (capI u.Parts - 1) := Int.tmod_eq_emod_of_nonneg m0
      have h1 : 0 ≤ mass % (capI u.Parts - 1) := Int.emod_nonneg _ (by omega)
      have h2 : mass % (capI u.Parts - 1) < capI u.Parts - 1 := Int.emod_lt_of_pos _ (by omega)
      generalize mass % (capI u.Parts - 1) = m at h1 h2 e3
      have e4 : w64 (m + 1) = m + 1 := w64_id (by omega) (by omega)
      have e5 : w64 (m + 2) = m + 2 := w64_id (by omega) (by omega)
      have b1 : btw m 0 (capI u.Parts) = true := btw_iff.2 (by omega)
      have b2 : btw (m + 1) 0 (capI u.Parts) = true := btw_iff.2 (by omega)
      have b3 : btw (m + 2) 0 (capI u.Parts) = true := btw_iff.2 (by omega)
      have b4 : btw 0 0 (capI u.Parts) = true := btw_iff.2 (by omega)
      have p1 := pow_next u.Parts m h1 hw
      have p2 := pow_next u.Parts (m + 1) (by omega) hw
      rw [show m + 1 + 1 = m + 2 from by omega] at p2
      have n1 := next_bd u.Parts 1000 m hf (by omega)
      have n2 := next_bd u.Parts 1000 (m + 1) hf (by omega)
      have n3 := next_falls u.Parts 1000 m hf (by omega)
      have q1 := powI_bd _ _ m hf (Int.le_refl _) h1
      have e6 : w64 (powI u.Parts (m + 2) - powI u.Parts (m + 1)) = nextG u.Parts (m + 1) := by rw [p2, w64_id (by omega) (by omega)]; omega
      have e7 : w64 (powI u.Parts (m + 1) - powI u.Parts m) = nextG u.Parts m := by rw [p1, w64_id (by omega) (by omega)]; omega
      have d1 : decide (powI u.Parts m ≤ powI u.Parts (m + 1)) = true := decide_eq_true (by omega)
      have d2 : decide (powI u.Parts (m + 1) ≤ powI u.Parts (m + 2)) = true := decide_eq_true (by omega)
      have d3 : decide (nextG u.Parts (m + 1) ≤ nextG u.Parts m) = true := decide_eq_true n3
      have hne : (capI u.Parts - 1 != 0) = true := by simp; omega
      simp only [hc, decide_false, cond_false, e1, e2, e3, hne, chk, cond_true, copyU_eq (u := u) (N := N) (by omega) hN, Option.bind_some, power_eq (N := N) (u := u) (by omega), h, b1, b2, b3, b4, e4, e5, e6, e7, d1, d2, d3, pow_zero u.Parts hw, beq_self_eq_true]
end Go.Proofs.Ytlhakkkjgdbdpaa
