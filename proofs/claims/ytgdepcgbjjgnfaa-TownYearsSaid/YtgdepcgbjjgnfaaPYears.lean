/-
  Plain: bills one after another add up to the charge of all. No conditions.
-/
import Derived.Test.YtgdepcgbjjgnfaaX8
import Derived.Test.YtgdepcgbjjgnfaaPBills
namespace Go.Proofs.Ytgdepcgbjjgnfaa
open Go.RowKit

theorem look_price : ∀ (l : List GBracket) (a : Option GBracket), lookB a l = true → priceB l
  | [], _, _ => fun _ h => by cases h
  | b :: l, a, h => by
    have hb : brB b = true ∧ lookB (some b) l = true := by cases a <;> simp [lookB] at h <;> simp [h]
    intro x hx
    rcases List.mem_cons.1 hx with rfl | hx
    · have := hb.1
      simp only [brB, Bool.and_eq_true, btw_iff] at this
      omega
    · exact look_price l (some b) hb.2 x hx
theorem tar_price {l : List GBracket} (h : tarB l = true) : priceB l := by
  unfold tarB at h
  rw [Bool.and_eq_true] at h
  exact look_price l none h.1
theorem chg_start : ∀ (l : List GBracket) (n : Int), chg l n n / 1000 = 0 := fun l n => by rw [chg_zero]; rfl
theorem bill_eq {N : Nat} {l : List GBracket} {a b : Int} (hl : l.length ≤ 1000) (hN : 2000 ≤ N) (ht : tarB l = true) (ha : 0 ≤ a) (hb : 0 ≤ b) (hab : a + b ≤ 1000000000000) :
    town_BillX N l a b = some (chg l 0 (a + b) / 1000 - chg l 0 a / 1000, 0) := by
  have hp := tar_price ht
  have e1 : w64 (a + b) = a + b := w64_id (by omega) (by omega)
  unfold town_BillX
  obtain ⟨c1, c2⟩ := chg_bd l 0 (a + b) hp (by omega)
  obtain ⟨d1, d2⟩ := chg_bd l 0 a hp (by omega)
  simp only [joinK, tarP_eq hl hN, ht, Option.bind_some, Bool.not_true, cond_false, within_eq, btw_iff.2 ⟨ha, show a ≤ 1000000000000 by omega⟩, btw_iff.2 ⟨hb, show b ≤ 1000000000000 by omega⟩, e1, show decide (a + b > 1000000000000) = false from by simp; omega,
    charge_eq hl hN hp (show 0 ≤ a + b by omega) hab, charge_eq hl hN hp ha (show a ≤ 1000000000000 by omega)]
  rw [w64_id (by omega) (by omega)]
theorem years_loop (N : Nat) (l : List GBracket) (t : List Int) (k : Int × Int → Option Bool) (hl : l.length ≤ 1000) (hN : 2000 ≤ N) (hb : tarB l = true) (ht : t.length ≤ 40) (hu : ∀ x ∈ t, 0 ≤ x ∧ x ≤ 4294967295) : ∀ (n i : Nat) (a : Int), (t.drop i).length < n → i ≤ t.length → 0 ≤ a → a ≤ 4294967295 * i →
    ∃ b, 0 ≤ b ∧ b ≤ 4294967295 * 40 ∧ law10_TownYearsX_loop1 N l t k n (chg l 0 a / 1000) a i = k (chg l 0 b / 1000, b) := by
  intro n
  induction n with
  | zero => intro i _ h; exact absurd h (Nat.not_lt_zero _)
  | succ n ih =>
    intro i a h hi ha hai
    rw [law10_TownYearsX_loop1]
    cases hd : t.drop i with
    | nil =>
      have := drop_nil hd
      exact ⟨a, ha, by omega, by simp [show ¬ ((i : Int) < t.length) from by omega]⟩
    | cons x r =>
      obtain ⟨hg, hd', hlt⟩ := drop_cons hd
      obtain ⟨x1, x2⟩ := hu x (List.mem_of_getElem? hg)
      have e1 : w64 ((i : Int) + 1) = ((i + 1 : Nat) : Int) := w64_id (by omega) (by omega)
      have e2 : w64 x = x := w64_id (by omega) (by omega)
      have e3 : w64 (a + x) = a + x := w64_id (by omega) (by omega)
      have hp := tar_price hb
      obtain ⟨c1, c2⟩ := chg_bd l 0 (a + x) hp (by omega)
      obtain ⟨d1, d2⟩ := chg_bd l 0 a hp (by omega)
      have hm := chg_mono l 0 a (a + x) hp ha (by omega)
      have e4 : w64 (chg l 0 a / 1000 + (chg l 0 (a + x) / 1000 - chg l 0 a / 1000)) = chg l 0 (a + x) / 1000 := by rw [w64_id (by omega) (by omega)]; omega
      obtain ⟨b, b1, b2, b3⟩ := ih (i + 1) (a + x) (by rw [hd']; rw [hd] at h; simp at h; omega) hlt (by omega) (by omega)
      refine ⟨b, b1, b2, ?_⟩
      simp only [show decide ((i : Int) < t.length) = true from by simpa using hlt, cond_true, copy_eq hl hN, getI_at hg, Option.bind_some, e1, e2, e3, bill_eq hl hN hb ha x1 (show a + x ≤ 1000000000000 by omega), joinK, e4, b3]
      simp only [bne_self_eq_false, cond_false, show decide (chg l 0 (a + x) / 1000 - chg l 0 a / 1000 < 0) = false from by simp; omega]
theorem years_true (l : List GBracket) (t : List Int) (_ : gd_LGBracket l) (ht : gd_Lu32 t) : law10_TownYearsX 2000 l t = some true := by
  unfold law10_TownYearsX
  simp only [joinK, wakes_at, Option.bind_some]
  by_cases h1 : (l.length : Int) > 10
  · simp [h1]
  · by_cases h2 : (t.length : Int) > 40
    · simp [h1, h2]
    · simp only [h1, h2, decide_false, cond_false, tarR_eq (show l.length ≤ 1000 by omega) (Nat.le_refl 2000), Option.bind_some]
      cases hb : tarB l with
      | false => rfl
      | true =>
        simp only [Bool.not_true, cond_false]
        obtain ⟨b, b1, b2, b3⟩ := years_loop 2000 l t (fun x => (law10_TariffX 2000 l).bind fun x6 => (town_ChargeX 2000 x6 x.2).bind fun x8 => bif (x8.2 == 0) then bif (x8.1 == x.1) then some true else some false else some false) (by omega) (Nat.le_refl _) hb (by omega) (fun x hx => by
          have := bounds_u32 (ht.2 x hx)
          omega) 2000 0 0 (by simp; omega) (by omega) (Int.le_refl _) (by omega)
        have e0 : chg l 0 0 / 1000 = 0 := chg_start l 0
        rw [e0] at b3
        have b4 := b3
        rw [show ((0 : Nat) : Int) = 0 from rfl] at b4
        refine Eq.trans b4 ?_
        dsimp only
        rw [copy_eq (by omega) (Nat.le_refl _), Option.bind_some, town_ChargeX]
        simp only [tarP_eq (show l.length ≤ 1000 by omega) (Nat.le_refl 2000), hb, Option.bind_some, Bool.not_true, cond_false, within_eq, btw_iff.2 ⟨b1, show b ≤ 1000000000000 by omega⟩, charge_eq (show l.length ≤ 1000 by omega) (Nat.le_refl 2000) (tar_price hb) b1 (show b ≤ 1000000000000 by omega)]
        simp
end Go.Proofs.Ytgdepcgbjjgnfaa
