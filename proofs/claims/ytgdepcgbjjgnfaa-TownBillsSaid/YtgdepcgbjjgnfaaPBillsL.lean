/-
  Plain: charges and bills are the document's. No conditions.
-/
import Derived.Test.YtgdepcgbjjgnfaaX7
import Derived.Test.YtgdepcgbjjgnfaaPBills
namespace Go.Proofs.Ytgdepcgbjjgnfaa
open Go.RowKit

theorem look_price : ∀ (l : List GBracket) (a : Option GBracket), lookB a l = true → priceB l
  | [], _, _ => fun _ h => by cases h
  | b :: l, a, h => by
    have hb : brB b = true ∧ lookB (some b) l = true := by cases a <;> simp [lookB] at h <;> simp [h]
    intro x hx
    rcases List.mem_cons.1 hx with rfl | hx
    · have := hb.1
      simp only [brB, Bool.and_eq_true, btw_iff] at this
      omega
    · exact look_price l (some b) hb.2 x hx
theorem tar_price {l : List GBracket} (h : tarB l = true) : priceB l := by
  unfold tarB at h
  rw [Bool.and_eq_true] at h
  exact look_price l none h.1
theorem ref_loop (N : Nat) (t : List GBracket) (p : Int) (k : Unit → Option Int) (hl : t.length ≤ 1000) (hp : priceB t) (hpp : p ≤ 1000000000000) : ∀ (n i : Nat) (a s : Int) (o : Option GBracket), (t.drop i).length < n → t.drop i ≠ [] → lookB o (t.drop i) = true → (∀ b, o = some b → s = b.Upto) → (o = none → s = 0) → 0 ≤ a → 0 ≤ s → s ≤ p → a + (p - s) * 1000 ≤ 1000000000000000 →
    ref10_ChargeX_loop1 N t k p n a s i = some ((a + chg (t.drop i) s p) / 1000) := by
  intro n
  induction n with
  | zero => intro i _ _ _ h; exact absurd h (Nat.not_lt_zero _)
  | succ n ih =>
    intro i a s o h hne hlook ho ho' ha hs hsp hb
    rw [ref10_ChargeX_loop1]
    cases hd : t.drop i with
    | nil => exact absurd hd hne
    | cons b l =>
      obtain ⟨hg, hd', hlt⟩ := drop_cons hd
      obtain ⟨p1, p2, p3⟩ := hp b (List.mem_of_getElem? hg)
      rw [hd] at hlook
      have hsu : s ≤ b.Upto := by
        cases o with
        | none => rw [ho' rfl]; exact p3
        | some x =>
          rw [ho x rfl]
          simp only [lookB, Bool.and_eq_true, decide_eq_true_eq] at hlook
          omega
      have hlook' : lookB (some b) l = true := by cases o <;> simp [lookB] at hlook <;> simp [hlook]
      have e1 : w64 ((i : Int) + 1) = ((i + 1 : Nat) : Int) := w64_id (by omega) (by omega)
      have e2 : w64 ((t.length : Int) - 1) = (t.length : Int) - 1 := w64_id (by omega) (by omega)
      have hlen : l.length + 1 + i = t.length := by
        have := congrArg List.length hd
        simp at this
        omega
      have e3 : w64 (p - s) = p - s := w64_id (by omega) (by omega)
      obtain ⟨q1, q2⟩ := mulP (x := p - s) (by omega) p1 p2
      have e4 : w64 ((p - s) * b.Price) = (p - s) * b.Price := w64_id (by omega) (by omega)
      have e5 : w64 (a + (p - s) * b.Price) = a + (p - s) * b.Price := w64_id (by omega) (by omega)
      have e6 : w64 ((a + (p - s) * b.Price).tdiv 1000) = (a + (p - s) * b.Price) / 1000 := by
        rw [Int.tdiv_eq_ediv_of_nonneg (by omega)]
        exact w64_id (by omega) (by omega)
      simp only [show decide ((i : Int) < t.length) = true from by simpa using hlt, cond_true, getI_at hg, Option.bind_some, e1, e2, e3, e4, e5, e6, joinK]
      cases l with
      | nil =>
        have hlast : decide ((i : Int) < (t.length : Int) - 1) = false := by
          simp at hlen
          simp
          omega
        simp only [hlast, cond_false, chg, Int.max_eq_right (show 0 ≤ p - s by omega)]
        cases decide (p > b.Upto) <;> rfl
      | cons c l =>
        have hlast : decide ((i : Int) < (t.length : Int) - 1) = true := by
          simp at hlen
          simp
          omega
        simp only [hlast, cond_true]
        rw [chg]
        by_cases hu : p > b.Upto
        · have e7 : w64 (b.Upto - s) = b.Upto - s := w64_id (by omega) (by omega)
          obtain ⟨r1, r2⟩ := mulP (x := b.Upto - s) (by omega) p1 p2
          have e8 : w64 ((b.Upto - s) * b.Price) = (b.Upto - s) * b.Price := w64_id (by omega) (by omega)
          have e9 : w64 (a + (b.Upto - s) * b.Price) = a + (b.Upto - s) * b.Price := w64_id (by omega) (by omega)
          simp only [show decide (p > b.Upto) = true from by simpa using hu, cond_true, e7, e8, e9]
          rw [ih (i + 1) _ _ (some b) (by rw [hd']; rw [hd] at h; simp at h ⊢; omega) (by rw [hd']; simp) (by rw [hd']; exact hlook') (fun x hx => by cases hx; rfl) (fun hx => by cases hx) (by omega) p3 (by omega) (by omega), hd', if_neg (by omega), Int.max_eq_right (show 0 ≤ b.Upto - s by omega), Int.max_eq_right hsu, Int.add_assoc]
        · rw [show decide (p > b.Upto) = false from by simpa using hu, cond_false]
          by_cases hu' : b.Upto > p
          · rw [if_pos hu', Int.max_eq_right (show 0 ≤ p - s by omega), Int.max_eq_right hsp, chg_zero]
            simp
          · rw [if_neg hu', show b.Upto = p by omega, Int.max_eq_right (show 0 ≤ p - s by omega), Int.max_eq_right hsp, chg_zero]
            simp
theorem ref_eq {N : Nat} {t : List GBracket} {p : Int} (hl : t.length ≤ 1000) (hN : 2000 ≤ N) (ht : tarB t = true) (h0 : 0 ≤ p) (hpp : p ≤ 1000000000000) : ref10_ChargeX N t p = some (chg t 0 p / 1000) := by
  unfold ref10_ChargeX
  simp only [joinK]
  have h1 := ht
  unfold tarB at h1
  rw [Bool.and_eq_true, btw_iff] at h1
  have := ref_loop N t p (fun _ => some 0) hl (tar_price ht) hpp N 0 0 0 none (by simp; omega) (by
    rw [List.drop_zero]
    intro e
    rw [e] at h1
    simp at h1) (by rw [List.drop_zero]; exact h1.1) (fun _ h => by cases h) (fun _ => rfl) (Int.le_refl _) (Int.le_refl _) h0 (by omega)
  rw [show ((0 : Nat) : Int) = 0 from rfl, List.drop_zero, Int.zero_add] at this
  exact this
theorem bills_true (l : List GBracket) (a b : Int) (_ : gd_LGBracket l) (ga : gd_i64 a) (gb : gd_i64 b) : law10_TownBillsX 2000 l a b = some true := by
  have ha := i64_of ga
  have hb := i64_of gb
  unfold law10_TownBillsX
  simp only [wakes_at, Option.bind_some]
  by_cases h1 : (l.length : Int) > 10
  · simp [h1]
  · have hl : l.length ≤ 1000 := by omega
    have hN : 2000 ≤ 2000 := Nat.le_refl _
    simp only [h1, decide_false, cond_false, copy_eq hl hN, Option.bind_some, in_eq, tarR_eq hl hN]
    cases ht : tarB l with
    | false =>
      have e1 : town_ChargeX 2000 l b = some (0, 1) := by simp [town_ChargeX, tarP_eq hl hN, ht]
      have e2 : town_BillX 2000 l a b = some (0, 1) := by simp [town_BillX, joinK, tarP_eq hl hN, ht]
      simp only [e1, e2, Option.bind_some, joinK]
      cases btw b 0 1000000000000 <;> cases btw a 0 1000000000000 <;> cases decide (w64 (a + b) > 1000000000000) <;> simp
    | true =>
      cases hb1 : btw b 0 1000000000000 with
      | false =>
        have e1 : town_ChargeX 2000 l b = some (0, 2) := by simp [town_ChargeX, tarP_eq hl hN, ht, within_eq, hb1]
        have e2 : town_BillX 2000 l a b = some (0, 2) := by
          simp only [town_BillX, joinK, tarP_eq hl hN, ht, within_eq, hb1, Option.bind_some]
          cases btw a 0 1000000000000 <;> simp
        simp only [e1, e2, Option.bind_some, joinK]
        simp
      | true =>
        obtain ⟨b1, b2⟩ := btw_iff.1 hb1
        have e1 : town_ChargeX 2000 l b = some (chg l 0 b / 1000, 0) := by simp [town_ChargeX, tarP_eq hl hN, ht, within_eq, hb1, charge_eq hl hN (tar_price ht) b1 b2]
        cases ha1 : btw a 0 1000000000000 with
        | false =>
          have e2 : town_BillX 2000 l a b = some (0, 2) := by simp [town_BillX, joinK, tarP_eq hl hN, ht, within_eq, ha1]
          simp only [e1, e2, Option.bind_some, joinK, ref_eq hl hN ht b1 b2]
          simp
        | true =>
          obtain ⟨a1, a2⟩ := btw_iff.1 ha1
          have e0 : w64 (a + b) = a + b := w64_id (by omega) (by omega)
          by_cases hs : a + b > 1000000000000
          · have e2 : town_BillX 2000 l a b = some (0, 2) := by simp [town_BillX, joinK, tarP_eq hl hN, ht, within_eq, ha1, hb1, e0, hs]
            simp only [e1, e2, e0, Option.bind_some, joinK, ref_eq hl hN ht b1 b2]
            simp [hs]
          · obtain ⟨c1, c2⟩ := chg_bd l 0 (a + b) (tar_price ht) (by omega)
            obtain ⟨d1, d2⟩ := chg_bd l 0 a (tar_price ht) a1
            have e3 : w64 (chg l 0 (a + b) / 1000 - chg l 0 a / 1000) = chg l 0 (a + b) / 1000 - chg l 0 a / 1000 := w64_id (by omega) (by omega)
            have e2 : town_BillX 2000 l a b = some (chg l 0 (a + b) / 1000 - chg l 0 a / 1000, 0) := by
              simp [town_BillX, joinK, tarP_eq hl hN, ht, within_eq, ha1, hb1, e0, hs, charge_eq hl hN (tar_price ht) (show 0 ≤ a + b by omega) (by omega), charge_eq hl hN (tar_price ht) a1 a2, e3]
            simp only [e1, e2, e0, Option.bind_some, joinK, ref_eq hl hN ht b1 b2, ref_eq hl hN ht (show 0 ≤ a + b by omega) (show a + b ≤ 1000000000000 by omega), ref_eq hl hN ht a1 a2, e3]
            simp [hs]
end Go.Proofs.Ytgdepcgbjjgnfaa
