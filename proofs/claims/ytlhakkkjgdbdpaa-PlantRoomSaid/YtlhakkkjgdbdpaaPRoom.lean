/-
  The law PlantRoom as a plain law. No conditions.
-/
import Derived.Test.YtlhakkkjgdbdpaaX19
import Derived.Test.YtlhakkkjgdbdpaaPDisp
namespace Go.Proofs.Ytlhakkkjgdbdpaa
open Go.RowKit

theorem copyJ1_loop (N : Nat) (j : GJob) (k : List GHour → Option (List Int × List GHour)) (hl : j.Hours.length ≤ 1000) : ∀ (n i : Nat) (acc : List GHour), (j.Hours.drop i).length < n → acc.length = i →
    law07_JobX_1_loop1 N j k n i acc = k (acc ++ j.Hours.drop i) := by
  intro n
  induction n with
  | zero => intro i _ h; exact absurd h (Nat.not_lt_zero _)
  | succ n ih =>
    intro i acc h hacc
    rw [law07_JobX_1_loop1]
    cases hd : j.Hours.drop i with
    | nil =>
      have := drop_nil hd
      simp [show ¬ ((i : Int) < j.Hours.length) from by omega]
    | cons b l =>
      obtain ⟨hg, hd', hlt⟩ := drop_cons hd
      have e1 : w64 ((i : Int) + 1) = ((i + 1 : Nat) : Int) := w64_id (by omega) (by omega)
      simp only [show decide ((i : Int) < j.Hours.length) = true from by simpa using hlt, cond_true, getI_at hg, Option.bind_some, e1]
      rw [ih (i + 1) (acc ++ [b]) (by rw [hd']; rw [hd] at h; simp at h; omega) (by simp [hacc]), hd']
      simp only [chk, show decide ((acc.length + [b].length) * 16 ≤ 140737488355328) = true from by simp; omega, cond_true, List.append_assoc, List.cons_append, List.nil_append]
theorem copyJ1_eq {N : Nat} {j : GJob} (hl : j.Hours.length ≤ 200) (hL : j.Levels.length ≤ 200) (hN : 300 ≤ N) : law07_JobX_1 N j = some (j.Levels, j.Hours) := by
  unfold law07_JobX_1
  rw [list_eq (by omega)]
  simp only [joinK, Option.bind_some]
  have := copyJ1_loop N j (fun y3 => some (j.Levels, y3)) (by omega) N 0 [] (by simp; omega) rfl
  simpa using this
/-- A job with more room has a best plan, and its profit is not less. -/
theorem room {j w : GJob} (hj : JobOK j) (hw : JobOK w) (e1 : w.Levels = j.Levels) (e2 : w.First = j.First) (e3 : j.Ramp ≤ w.Ramp) (e4 : w.Start ≤ j.Start) (e5 : j.Hours.length = w.Hours.length)
    (e6 : ∀ (m : Nat) (h h' : GHour), j.Hours[m]? = some h → w.Hours[m]? = some h' → h'.Price = h.Price ∧ h.Most ≤ h'.Most) (hc : canB j = true) : canB w = true ∧ bestV j ≤ bestV w := by
  have h1 := planF_V (L := nL j) (fol := folB j) (gn := gnI j) j.Hours (gn_all hj (fun _ h => h)) (nH_bd hj).2 j.First hc
  obtain ⟨v, h2, h3⟩ := planV_mono (fol := folB j) (gn := gnI j) (fol' := folB w) (gn' := gnI w) e5 (fun m h h' a b l k hf => by
    obtain ⟨p1, p2⟩ := e6 m h h' a b
    have el : ∀ k, levI w k = levI j k := fun k => by unfold levI; rw [e1]
    unfold folB at hf ⊢
    simp only [Bool.and_eq_true, btw_iff, decide_eq_true_eq] at hf ⊢
    obtain ⟨⟨q1, q2⟩, q3⟩ := hf
    unfold gnI
    rw [el, p1, e1]
    exact ⟨⟨⟨q1, by omega⟩, by omega⟩, by split <;> omega⟩) h1
  obtain ⟨h4, h5⟩ := planV_le (L := nL w) fol_in h2
  unfold canB bestV
  rw [e2]
  exact ⟨h4, Int.le_trans h3 h5⟩
theorem plantRoom (N : Nat) (j : GJob) (p1 p2 p3 p4 : Int) (hl : (j.Levels.length : Int) ≤ 9223372036854775807) (hh : (j.Hours.length : Int) ≤ 9223372036854775807) (b1 : 0 ≤ p1 ∧ p1 ≤ 255) (b2 : 0 ≤ p2 ∧ p2 ≤ 255) (b3 : 0 ≤ p3 ∧ p3 ≤ 4294967295) (b4 : 0 ≤ p4 ∧ p4 ≤ 4294967295)
    (hN : j.Levels.length + j.Hours.length + 300 ≤ N) : law07_PlantRoomX N j p1 p2 p3 p4 = some true := by
  unfold law07_PlantRoomX
  rw [jobR_eq hl hh hN]
  simp only [awake_at, Option.bind_some]
  cases hv : jobB j with
  | false => rfl
  | true =>
    have hj := jobOK hv
    have hH := hj.h1
    have hH0 := hj.h0
    have hL := hj.l1
    have hr0 := hj.r0
    have hr1 := hj.r1
    have hs0 := hj.s0
    have hs1 := hj.s1
    rw [copyJ_eq (by omega) (by omega) (by omega), copyJ1_eq (by omega) (by omega) (by omega)]
    simp only [Bool.not_true, cond_false, Option.bind_some]
    rw [dispatch_eq hv (by omega)]
    simp only [Option.bind_some]
    have w1 : w64 p1 = p1 := w64_id (by omega) (by omega)
    have w2 : w64 p2 = p2 := w64_id (by omega) (by omega)
    have w3 : w64 p3 = p3 := w64_id (by omega) (by omega)
    have w4 : w64 p4 = p4 := w64_id (by omega) (by omega)
    have t1 : p1.tmod 4 = p1 % 4 := Int.tmod_eq_emod_of_nonneg b1.1
    have t2 : p2.tmod (j.Hours.length : Int) = p2 % (j.Hours.length : Int) := Int.tmod_eq_emod_of_nonneg b2.1
    have t3 : p3.tmod 1000001 = p3 % 1000001 := Int.tmod_eq_emod_of_nonneg b3.1
    rw [w1, w2, w3, w4, t1, t2, t3]
    have u1 : w64 (j.Ramp + p1 % 4) = j.Ramp + p1 % 4 := w64_id (by omega) (by omega)
    have u4 : w64 (j.Start - p4) = j.Start - p4 := w64_id (by omega) (by omega)
    have hz : ((j.Hours.length : Int) != 0) = true := bne_iff_ne.2 (by omega)
    have hk0 : 0 ≤ p2 % (j.Hours.length : Int) := Int.emod_nonneg _ (by omega)
    have hk1 : p2 % (j.Hours.length : Int) < j.Hours.length := Int.emod_lt_of_pos _ (by omega)
    obtain ⟨k, hk⟩ : ∃ k : Nat, p2 % (j.Hours.length : Int) = k := ⟨(p2 % (j.Hours.length : Int)).toNat, by omega⟩
    have hkl : k < j.Hours.length := by omega
    obtain ⟨H, hH'⟩ : ∃ H, j.Hours[k]? = some H := ⟨_, List.getElem?_eq_getElem hkl⟩
    have hHb := hj.hours H (List.mem_of_getElem? hH')
    have u3 : w64 (H.Most + p3 % 1000001) = H.Most + p3 % 1000001 := w64_id (by omega) (by omega)
    have hne : j.Hours.isEmpty = false := by rw [List.isEmpty_eq_false_iff]; intro e; rw [e] at hH0; simp at hH0
    rw [hk, u1, u4]
    have d1 : decide (0 ≤ (k : Int)) = true := decide_eq_true (by omega)
    have d2 : decide (k < j.Hours.length) = true := decide_eq_true hkl
    simp only [hz, hne, chk, d1, d2, cond_true, Option.bind_some, Bool.not_false, Bool.and_self, Int.toNat_natCast, hH', u3, List.length_set]
    rw [show decide (j.Hours.length ≤ j.Hours.length) = true from decide_eq_true (Nat.le_refl _), List.take_of_length_le (by rw [List.length_set]; exact Nat.le_refl _)]
    simp only [cond_true]
    generalize hrm : (if j.Ramp + p1 % 4 < 12 then j.Ramp + p1 % 4 else 12) = rm
    generalize hst : (if j.Start - p4 > 0 then j.Start - p4 else 0) = st
    generalize hmo : (if H.Most + p3 % 1000001 < 1000000 then H.Most + p3 % 1000001 else 1000000) = mo
    have hrm' : j.Ramp ≤ rm ∧ rm ≤ 12 := by rw [← hrm]; split <;> omega
    have hst' : 0 ≤ st ∧ st ≤ j.Start := by rw [← hst]; split <;> omega
    have hmo' : H.Most ≤ mo ∧ mo ≤ 1000000 := by rw [← hmo]; split <;> omega
    have hw : jobB ⟨j.Levels, rm, st, j.First, j.Hours.set k ⟨H.Price, mo⟩⟩ = true := by
      unfold jobB at hv ⊢
      simp only [Bool.and_eq_true, btw_iff, List.all_eq_true, List.length_set] at hv ⊢
      obtain ⟨⟨⟨⟨⟨⟨⟨v1, v2⟩, v3⟩, v4⟩, v5⟩, v6⟩, v7⟩, v8⟩ := hv
      refine ⟨⟨⟨⟨⟨⟨⟨v1, v2⟩, v3⟩, by omega⟩, by omega⟩, v6⟩, v7⟩, fun x hx => ?_⟩
      rcases List.mem_or_eq_of_mem_set hx with h | rfl
      · exact v8 x h
      · simp only [hourB, Bool.and_eq_true, btw_iff]
        omega
    rw [dispatch_eq hw (by omega)]
    simp only [Option.bind_some]
    have key := room hj (jobOK hw) rfl rfl hrm'.1 hst'.2 (by simp) (fun m h h' a b => by
      simp only at b
      rcases Nat.decEq k m with hkm | hkm
      · rw [List.getElem?_set_ne hkm] at b
        rw [a] at b
        cases b
        exact ⟨rfl, Int.le_refl _⟩
      · subst hkm
        rw [List.getElem?_set_self hkl] at b
        rw [hH'] at a
        cases a
        cases b
        exact ⟨rfl, hmo'.1⟩)
    cases hc : canB j with
    | false =>
      cases hcw : canB ⟨j.Levels, rm, st, j.First, j.Hours.set k ⟨H.Price, mo⟩⟩ <;> rfl
    | true =>
      obtain ⟨k1, k2⟩ := key hc
      rw [k1]
      simp only [cond_true]
      rw [show decide (bestV ⟨j.Levels, rm, st, j.First, j.Hours.set k ⟨H.Price, mo⟩⟩ ≥ bestV j) = true from decide_eq_true k2]
      rfl
theorem room_law (j : GJob) (p1 p2 p3 p4 : Int) (g : gd_GJob j) (g1 : gd_u8 p1) (g2 : gd_u8 p2) (g3 : gd_u32 p3) (g4 : gd_u32 p4) : law07_PlantRoomX (j.Levels.length + j.Hours.length + 2000) j p1 p2 p3 p4 = some true := by
  have hl := g.1.1
  have hh := g.2.2.2.2.1
  rw [maxLen_eq] at hl hh
  exact plantRoom _ j p1 p2 p3 p4 (by omega) (by omega) (bounds_u8 g1) (bounds_u8 g2) (bounds_u32 g3) (bounds_u32 g4) (by omega)
end Go.Proofs.Ytlhakkkjgdbdpaa
