/-
  The statement on flashes: the extracted law returns true for every input. No conditions.
-/
import Derived.Test.YtenpbiineblcjaaX4
import Derived.Test.YtenpbiineblcjaaPFlaR
namespace Go.Proofs.Ytenpbiineblcjaa
open Go.RowKit

theorem parts_eq (N : Nat) (p : GParts) : law01_PartsX N p = some p := rfl
theorem flashes_loop (N : Nat) (x : List GParts) (e : Int) (k : Unit → Option Bool) (hl : x.length ≤ 1000) : ∀ (n i : Nat), (x.drop i).length < n → i ≤ x.length →
    law01_SteamFlashesX_loop1 N (x, e) x k n i = k () := by
  intro n
  induction n with
  | zero => intro i h; omega
  | succ n ih =>
    intro i h hi
    unfold law01_SteamFlashesX_loop1
    cases hd : x.drop i with
    | nil =>
      have := drop_nil hd
      rw [show (decide ((i : Int) < (x.length : Int))) = false by simp; omega]
      rfl
    | cons a q =>
      obtain ⟨h1, h2, h3⟩ := drop_cons hd
      rw [show (decide ((i : Int) < (x.length : Int))) = true by simp; omega]
      have e1 : w64 ((i : Int) + 1) = ((i + 1 : Nat) : Int) := by rw [w64_id] <;> omega
      simp only [cond_true, getI_at h1, Option.bind_some, e1, parts_eq, beq_self_eq_true, Bool.not_true, cond_false]
      exact ih (i + 1) (by rw [h2]; rw [hd] at h; simpa using h) (by omega)
theorem flashes_true {N : Nat} (hN : 1001 ≤ N) (t : List GRow) (lv : Int) (l : List Int) (s : GStream) : law01_SteamFlashesX N t lv l s = some true := by
  unfold law01_SteamFlashesX
  by_cases hl : (t.length : Int) > 30
  · rw [decide_eq_true hl]
    rfl
  by_cases hl2 : (l.length : Int) > 30
  · rw [decide_eq_false hl, decide_eq_true hl2]
    rfl
  rw [decide_eq_false hl, decide_eq_false hl2]
  have hc : decide ((0 + l.length) * 8 ≤ 140737488355328) = true := by simp; omega
  have e0 : w64 ((t.length : Int) - 1) = (t.length : Int) - 1 := by rw [w64_id] <;> omega
  simp only [joinK, cond_false, table_eq (show t.length ≤ 1000 by omega) hN, stream_eq, flash_eq hN (show t.length ≤ 1000 by omega), train_eq hN (show t.length ≤ 1000 by omega) (show l.length ≤ 1000 by omega), Option.bind_some, hc, chk, cond_true,
    right_eq (N := N) (t := t) (by omega) (by omega), levels_eq (N := N) (l := l) (by omega) e0 (by omega), rightStream_eq, in_eq, e0]
  unfold flashA trainA
  cases hT : tabB t with
  | false => rfl
  | true =>
    cases hS : strB s with
    | false =>
      cases levB t.length l <;> cases btw lv 0 ((t.length : Int) - 1) <;> rfl
    | true =>
      have hs := strV_iff.1 hS
      cases hL : levB t.length l with
      | false =>
        cases hb : btw lv 0 ((t.length : Int) - 1) with
        | false => rfl
        | true =>
          obtain ⟨g1, g2⟩ := row_at hT hb
          simp only [Bool.not_true, cond_false, Bool.not_false, cond_true]
          rw [g1]
          simp only [Option.getD_some, Option.bind_some, ref_eq N g2 hs, parts_eq]
          simp only [beq_self_eq_true, Bool.not_true, cond_false, cond_true, bne_self_eq_false]
          rfl
      | true =>
        have q := levB_all hL
        have hR := refTrain_eq hN hT q.1.2 q.2.1 hs
        have hlp := fun k => flashes_loop N (trainG t s l) 0 k (by rw [trainG_len]; omega) N 0 (by simp [trainG_len]; omega) (Nat.zero_le _)
        rw [show ((0 : Nat) : Int) = 0 from rfl] at hlp
        cases hb : btw lv 0 ((t.length : Int) - 1) with
        | false =>
          simp only [Bool.not_true, cond_false, Bool.not_false, cond_true, hR, Option.bind_some]
          simp only [hlp, bne_self_eq_false, cond_false]
          rfl
        | true =>
          obtain ⟨g1, g2⟩ := row_at hT hb
          simp only [Bool.not_true, cond_false, hR, Option.bind_some]
          rw [g1]
          simp only [Option.getD_some, Option.bind_some, ref_eq N g2 hs, parts_eq]
          simp only [beq_self_eq_true, Bool.not_true, cond_false, cond_true, bne_self_eq_false, hlp]
          rfl
end Go.Proofs.Ytenpbiineblcjaa
