/-
  Plain: whether a day is valid, the first hour that is short, and the cost of a plan, are as the document says. No conditions.
-/
import Derived.Test.YtgdepcgbjjgnfaaX18
import Derived.Test.YtgdepcgbjjgnfaaPDay
namespace Go.Proofs.Ytgdepcgbjjgnfaa
open Go.RowKit

theorem day_hour {d : GDay} (h : dayB d = true) {x : GHour} (hx : x ∈ d.Hours) : HourP x := by
  simp only [dayB, Bool.and_eq_true] at h
  exact hourP_of (List.all_eq_true.1 h.2 x hx)
theorem day_bd {d : GDay} (h : dayB d = true) : (0 ≤ d.Tank ∧ d.Tank ≤ 1000000000) ∧ (0 ≤ d.Start ∧ d.Start ≤ d.Tank) ∧ 1 ≤ d.Hours.length ∧ d.Hours.length ≤ 24 := by
  simp only [dayB, Bool.and_eq_true, btw_iff] at h
  omega
theorem short_loop {N : Nat} {d : GDay} (hN : 2000 ≤ N) (hd : dayB d = true) : ∀ (n i : Nat) (y : Int), (d.Hours.drop i).length < n → 0 ≤ y → y ≤ d.Tank → ∃ r, town_Day_shortX_loop1 N d (fun _ => some (-1, 0)) n y i = some r ∧ ref10_ShortX_loop1 N d (fun _ => some (-1, 0)) n y i = some r := by
  obtain ⟨⟨t0, t1⟩, _, h1, h2⟩ := day_bd hd
  intro n
  induction n with
  | zero => intro i _ h; exact absurd h (Nat.not_lt_zero _)
  | succ n ih =>
    intro i y h y0 y1
    rw [town_Day_shortX_loop1, ref10_ShortX_loop1]
    cases hdr : d.Hours.drop i with
    | nil =>
      have := drop_nil hdr
      exact ⟨(-1, 0), by simp [show ¬ ((i : Int) < d.Hours.length) from by omega]⟩
    | cons b l =>
      obtain ⟨hg, hd', hlt⟩ := drop_cons hdr
      have hp := day_hour hd (List.mem_of_getElem? hg)
      have hw := whole_bd hp.st
      have hf := hp.few
      have hu := hp.use
      have e1 : w64 ((i : Int) + 1) = ((i + 1 : Nat) : Int) := w64_id (by omega) (by omega)
      have e2 : w64 (wholeI b.Stairs - b.Use) = wholeI b.Stairs - b.Use := w64_id (by omega) (by omega)
      have e3 : w64 (y + (wholeI b.Stairs - b.Use)) = y + wholeI b.Stairs - b.Use := by rw [w64_id (by omega) (by omega)]; omega
      have e4 : w64 (y + wholeI b.Stairs) = y + wholeI b.Stairs := w64_id (by omega) (by omega)
      have e5 : w64 (y + wholeI b.Stairs - b.Use) = y + wholeI b.Stairs - b.Use := w64_id (by omega) (by omega)
      simp only [show decide ((i : Int) < d.Hours.length) = true from by simpa using hlt, cond_true, getI_at hg, Option.bind_some, wholeP_eq hp hN, wholeR_eq hp hN, e1, e2, e3, e4, e5]
      by_cases hneg : y + wholeI b.Stairs - b.Use < 0
      · exact ⟨(i, w64 (0 - (y + wholeI b.Stairs - b.Use))), by simp [hneg]⟩
      · simp only [hneg, decide_false, cond_false]
        exact ih (i + 1) _ (by rw [hd']; rw [hdr] at h; simp at h; omega) (by split <;> omega) (by split <;> omega)
theorem short_eq {N : Nat} {d : GDay} (hN : 2000 ≤ N) (hd : dayB d = true) : ∃ r, town_Day_shortX N d = some r ∧ ref10_ShortX N d = some r := by
  obtain ⟨_, ⟨s0, s1⟩, h1, h2⟩ := day_bd hd
  have := short_loop hN hd N 0 d.Start (by simp; omega) s0 s1
  exact this
/-- Do the numbers of a plan fit in their hours? -/
def fits : List GHour → List Int → Prop
  | h :: hs, x :: xs => 0 ≤ x ∧ x ≤ wholeI h.Stairs ∧ fits hs xs
  | _, _ => True
theorem levels_loop {N : Nat} {d : GDay} {p : List Int} (hN : 2000 ≤ N) (hd : dayB d = true) (hl : p.length = d.Hours.length) : ∀ (n i : Nat) (acc : List Int) (y : Int), (d.Hours.drop i).length < n → 0 ≤ y → y ≤ d.Tank → acc.length ≤ 1000 + i → ∃ r, town_Day_levelsX_loop1 N d p (fun y2 => some (y2, true)) n acc y i = some r ∧ ref10_LevelsX_loop1 N d p (fun y2 => some (y2, true)) n acc y i = some r ∧ (r.2 = true → fits (d.Hours.drop i) (p.drop i)) := by
  obtain ⟨⟨t0, t1⟩, _, h1, h2⟩ := day_bd hd
  intro n
  induction n with
  | zero => intro i _ _ h; exact absurd h (Nat.not_lt_zero _)
  | succ n ih =>
    intro i acc y h y0 y1 hacc
    rw [town_Day_levelsX_loop1, ref10_LevelsX_loop1]
    cases hdr : d.Hours.drop i with
    | nil =>
      have := drop_nil hdr
      exact ⟨(acc, true), by simp [hl, show ¬ ((i : Int) < d.Hours.length) from by omega, fits]⟩
    | cons b l =>
      obtain ⟨hg, hd', hlt⟩ := drop_cons hdr
      obtain ⟨x, xs, hpr⟩ : ∃ x xs, p.drop i = x :: xs := by
        cases hpd : p.drop i with
        | nil => have := drop_nil hpd; omega
        | cons x xs => exact ⟨x, xs, rfl⟩
      obtain ⟨hx, hp', _⟩ := drop_cons hpr
      have hp := day_hour hd (List.mem_of_getElem? hg)
      have hw := whole_bd hp.st
      have hf := hp.few
      have hu := hp.use
      have e1 : w64 ((i : Int) + 1) = ((i + 1 : Nat) : Int) := w64_id (by omega) (by omega)
      simp only [show decide ((i : Int) < d.Hours.length) = true from by simpa using hlt, show decide ((i : Int) < p.length) = true from by simp; omega, cond_true, getI_at hg, getI_at hx, Option.bind_some, wholeP_eq hp hN, wholeR_eq hp hN, within_eq, in_eq, e1, hpr, fits]
      cases hb : btw x 0 (wholeI b.Stairs) with
      | false => exact ⟨([], false), by simp⟩
      | true =>
        obtain ⟨x0, x1⟩ := btw_iff.1 hb
        have e2 : w64 (x - b.Use) = x - b.Use := w64_id (by omega) (by omega)
        have e3 : w64 (y + (x - b.Use)) = y + x - b.Use := by rw [w64_id (by omega) (by omega)]; omega
        have e4 : w64 (y + x) = y + x := w64_id (by omega) (by omega)
        have e5 : w64 (y + x - b.Use) = y + x - b.Use := w64_id (by omega) (by omega)
        simp only [Bool.not_true, cond_false, e2, e3, e4, e5]
        cases hc : btw (y + x - b.Use) 0 d.Tank with
        | false => exact ⟨([], false), by simp⟩
        | true =>
          obtain ⟨c0, c1⟩ := btw_iff.1 hc
          obtain ⟨r, r1, r2, r3⟩ := ih (i + 1) (acc ++ [y + x - b.Use]) (y + x - b.Use) (by rw [hd']; rw [hdr] at h; simp at h; omega) c0 c1 (by simp; omega)
          rw [hd', hp'] at r3
          refine ⟨r, ?_, ?_, fun hr => ⟨x0, x1, r3 hr⟩⟩
          · simp only [Bool.not_true, cond_false, chk, show decide ((acc.length + [y + x - b.Use].length) * 8 ≤ 140737488355328) = true from by simp; omega, cond_true, r1]
          · simp only [Bool.not_true, cond_false, chk, show decide ((acc.length + [y + x - b.Use].length) * 8 ≤ 140737488355328) = true from by simp; omega, cond_true, r2]
theorem natBeq (a b : Nat) : ((a : Int) == (b : Int)) = decide (a = b) := by
  by_cases h : a = b
  · subst h; simp
  · rw [decide_eq_false h]
    exact beq_eq_false_iff_ne.2 (by omega)
theorem levels_eq {N : Nat} {d : GDay} {p : List Int} (hN : 2000 ≤ N) (hd : dayB d = true) : ∃ r, town_Day_levelsX N d p = some r ∧ ref10_LevelsX N d p = some r ∧ (r.2 = true → p.length = d.Hours.length ∧ fits d.Hours p) := by
  obtain ⟨_, ⟨s0, s1⟩, h1, h2⟩ := day_bd hd
  unfold town_Day_levelsX ref10_LevelsX
  rw [bne, natBeq]
  by_cases hl : p.length = d.Hours.length
  · simp only [hl, decide_true, Bool.not_true, cond_false, joinK]
    obtain ⟨r, r1, r2, r3⟩ := levels_loop hN hd hl N 0 [] d.Start (by simp; omega) s0 s1 (by simp)
    exact ⟨r, r1, r2, fun h => ⟨trivial, r3 h⟩⟩
  · exact ⟨([], false), by simp [hl]⟩
/-- What so many kilojoules of an hour cost. -/
def costI : List GStair → Int → Int
  | [], _ => 0
  | s :: l, n => min n s.Amount * s.Price + costI l (n - min n s.Amount)
theorem mulB {x p : Int} (x0 : 0 ≤ x) (x1 : x ≤ 1000000000) (p0 : 0 ≤ p) (p1 : p ≤ 1000) : 0 ≤ x * p ∧ x * p ≤ 1000000000000 :=
  ⟨Int.mul_nonneg x0 p0, Int.le_trans (Int.mul_le_mul_of_nonneg_left p1 x0) (by omega)⟩
theorem cost_bd : ∀ {l : List GStair} {n : Int}, (∀ s ∈ l, 1 ≤ s.Amount ∧ s.Amount ≤ 1000000000 ∧ 0 ≤ s.Price ∧ s.Price ≤ 1000) → 0 ≤ n → 0 ≤ costI l n ∧ costI l n ≤ 1000000000000 * l.length
  | [], _, _, _ => by simp [costI]
  | s :: l, n, h, h0 => by
    have h1 := h s (by simp)
    have h2 := cost_bd (l := l) (n := n - min n s.Amount) (fun x hx => h x (List.mem_cons_of_mem _ hx)) (by omega)
    have h3 := mulB (x := min n s.Amount) (p := s.Price) (by omega) (by omega) (by omega) (by omega)
    rw [costI]
    simp only [List.length_cons]
    omega
def takenL : List GStair → Int → List (GStair × Int)
  | [], _ => []
  | s :: l, n => (s, min n s.Amount) :: takenL l (n - min n s.Amount)
theorem taken_loop (N : Nat) (t : List GStair) (ht : t.length ≤ 1000) (hs : ∀ s ∈ t, 1 ≤ s.Amount ∧ s.Amount ≤ 1000000000 ∧ 0 ≤ s.Price ∧ s.Price ≤ 1000) : ∀ (n i : Nat) (y : Int), (t.drop i).length < n → 0 ≤ y → y ≤ 10000000000 → town_Hour_taken_1S_loop1 N t n i y = some (takenL (t.drop i) y) := by
  intro n
  induction n with
  | zero => intro i _ h; exact absurd h (Nat.not_lt_zero _)
  | succ n ih =>
    intro i y h y0 y1
    rw [town_Hour_taken_1S_loop1]
    cases hd : t.drop i with
    | nil =>
      have := drop_nil hd
      simp [show ¬ ((i : Int) < t.length) from by omega, takenL]
    | cons b l =>
      obtain ⟨hg, hd', hlt⟩ := drop_cons hd
      have hb := hs b (List.mem_of_getElem? hg)
      have e1 : w64 ((i : Int) + 1) = ((i + 1 : Nat) : Int) := w64_id (by omega) (by omega)
      have e2 : (if b.Amount < y then b.Amount else y) = min y b.Amount := by split <;> omega
      have e3 : w64 (y - min y b.Amount) = y - min y b.Amount := w64_id (by omega) (by omega)
      simp only [show decide ((i : Int) < t.length) = true from by simpa using hlt, cond_true, getI_at hg, Option.bind_some, e1, e2, e3, takenL]
      rw [ih (i + 1) _ (by rw [hd']; rw [hd] at h; simp at h; omega) (by omega) (by omega), hd']
      rfl
theorem costR_range (N : Nat) (k : Int → Option Int) : ∀ (l : List GStair) (n a : Int), (∀ s ∈ l, 1 ≤ s.Amount ∧ s.Amount ≤ 1000000000 ∧ 0 ≤ s.Price ∧ s.Price ≤ 1000) → l.length ≤ 10 → 0 ≤ n → 0 ≤ a → a ≤ 1000000000000000 → a + 1000000000000 * l.length ≤ 1000000000000000 → town_Hour_costX_range1 N k (takenL l n) a = k (a + costI l n)
  | [], _, _, _, _, _, _, _, _ => by simp [takenL, town_Hour_costX_range1, costI]
  | s :: l, n, a, h, hl, n0, a0, a1, hb => by
    have h1 := h s (by simp)
    have h3 := mulB (x := min n s.Amount) (p := s.Price) (by omega) (by omega) (by omega) (by omega)
    simp only [List.length_cons] at hl hb
    rw [takenL, town_Hour_costX_range1]
    dsimp only
    rw [Int.mul_comm s.Price, w64_id (show -9223372036854775808 ≤ min n s.Amount * s.Price by omega) (by omega), w64_id (by omega) (by omega), costR_range N k l _ _ (fun x hx => h x (List.mem_cons_of_mem _ hx)) (by omega) (by omega) (by omega) (by omega) (by omega), costI, Int.add_assoc]
theorem costP_eq {N : Nat} {h : GHour} {n : Int} (hN : 2000 ≤ N) (hp : HourP h) (n0 : 0 ≤ n) (n1 : n ≤ 10000000000) : town_Hour_costX N h n = some (costI h.Stairs n) := by
  have hf := hp.few
  unfold town_Hour_costX town_Hour_takenX_1 town_Hour_taken_1S
  have h1 := taken_loop N h.Stairs (by omega) hp.st N 0 n (by simp; omega) n0 n1
  rw [show ((0 : Nat) : Int) = 0 from rfl, List.drop_zero] at h1
  simp only [joinK, Option.bind_some, h1]
  rw [costR_range N _ h.Stairs n 0 hp.st (by omega) n0 (Int.le_refl _) (by omega) (by omega), Int.zero_add]
theorem costR_loop (N : Nat) (d : GDay) (i : Nat) (h : GHour) (k : Int → Option Int) (hi : d.Hours[i]? = some h) (hp : HourP h) : ∀ (n j : Nat) (a y : Int), (h.Stairs.drop j).length < n → 0 ≤ y → y ≤ 10000000000 → 0 ≤ a → a + 1000000000000 * (h.Stairs.drop j).length ≤ 1000000000000000 → ref10_CostX_loop2 N d i k n a y j = k (a + costI (h.Stairs.drop j) y) := by
  have hf := hp.few
  intro n
  induction n with
  | zero => intro j _ _ h; exact absurd h (Nat.not_lt_zero _)
  | succ n ih =>
    intro j a y hn y0 y1 a0 hb
    rw [ref10_CostX_loop2, getI_at hi, Option.bind_some]
    cases hd : h.Stairs.drop j with
    | nil =>
      have := drop_nil hd
      simp [show ¬ ((j : Int) < h.Stairs.length) from by omega, costI]
    | cons b l =>
      obtain ⟨hg, hd', hlt⟩ := drop_cons hd
      have hb' := hp.st b (List.mem_of_getElem? hg)
      rw [hd] at hb hn
      simp only [List.length_cons] at hb hn
      have h3 := mulB (x := min y b.Amount) (p := b.Price) (by omega) (by omega) (by omega) (by omega)
      have e1 : w64 ((j : Int) + 1) = ((j + 1 : Nat) : Int) := w64_id (by omega) (by omega)
      have e2 : (if b.Amount < y then b.Amount else y) = min y b.Amount := by split <;> omega
      have e3 : w64 (y - min y b.Amount) = y - min y b.Amount := w64_id (by omega) (by omega)
      have e4 : w64 (min y b.Amount * b.Price) = min y b.Amount * b.Price := w64_id (by omega) (by omega)
      have e5 : w64 (a + min y b.Amount * b.Price) = a + min y b.Amount * b.Price := w64_id (by omega) (by omega)
      simp only [show decide ((j : Int) < h.Stairs.length) = true from by simpa using hlt, cond_true, getI_at hg, Option.bind_some, e1, e2, e3, e4, e5]
      rw [ih (j + 1) _ _ (by rw [hd']; omega) (by omega) (by omega) (by omega) (by rw [hd']; omega), hd', costI, Int.add_assoc]
/-- What a plan costs. -/
def totC : List GHour → List Int → Int
  | h :: hs, x :: xs => costI h.Stairs x + totC hs xs
  | _, _ => 0
theorem tot_loop {N : Nat} {d : GDay} {p : List Int} (hN : 2000 ≤ N) (hd : dayB d = true) (hl : p.length = d.Hours.length) : ∀ (n i : Nat) (a : Int), (d.Hours.drop i).length < n → fits (d.Hours.drop i) (p.drop i) → 0 ≤ a → a ≤ 6000000000000 * i → i ≤ 24 →
    town_CostX_loop1 N d p (fun y7 => some (y7, 0)) n a i = some (a + totC (d.Hours.drop i) (p.drop i), 0) ∧ ref10_CostX_loop1 N d p (fun y1 => some y1) n a i = some (a + totC (d.Hours.drop i) (p.drop i)) := by
  obtain ⟨_, _, h1, h2⟩ := day_bd hd
  intro n
  induction n with
  | zero => intro i _ h; exact absurd h (Nat.not_lt_zero _)
  | succ n ih =>
    intro i a h hfit a0 a1 hi
    rw [town_CostX_loop1, ref10_CostX_loop1]
    cases hdr : d.Hours.drop i with
    | nil =>
      have := drop_nil hdr
      simp [hl, show ¬ ((i : Int) < d.Hours.length) from by omega, totC]
    | cons b l =>
      obtain ⟨hg, hd', hlt⟩ := drop_cons hdr
      obtain ⟨x, xs, hpr⟩ : ∃ x xs, p.drop i = x :: xs := by
        cases hpd : p.drop i with
        | nil => have := drop_nil hpd; omega
        | cons x xs => exact ⟨x, xs, rfl⟩
      obtain ⟨hx, hp', _⟩ := drop_cons hpr
      have hp := day_hour hd (List.mem_of_getElem? hg)
      have hw := whole_bd hp.st
      have hf := hp.few
      rw [hdr, hpr] at hfit
      obtain ⟨x0, x1, hfit'⟩ := hfit
      have hc := cost_bd hp.st x0
      have e1 : w64 ((i : Int) + 1) = ((i + 1 : Nat) : Int) := w64_id (by omega) (by omega)
      have e2 : w64 (a + costI b.Stairs x) = a + costI b.Stairs x := w64_id (by omega) (by omega)
      obtain ⟨i1, i2⟩ := ih (i + 1) (a + costI b.Stairs x) (by rw [hd']; rw [hdr] at h; simp at h; omega) (by rw [hd', hp']; exact hfit') (by omega) (by omega) (by omega)
      rw [hd', hp'] at i1 i2
      have hr := costR_loop N d i b (fun y9 => ref10_CostX_loop1 N d p (fun y1 => some y1) n y9 ((i + 1 : Nat) : Int)) hg hp N 0 a x (by simp; omega) x0 (by omega) a0 (by simp; omega)
      rw [show ((0 : Nat) : Int) = 0 from rfl, List.drop_zero] at hr
      rw [hpr]
      simp only [show decide ((i : Int) < d.Hours.length) = true from by simpa using hlt, show decide ((i : Int) < p.length) = true from by simp; omega, cond_true, getI_at hg, getI_at hx, Option.bind_some, costP_eq hN hp x0 (show x ≤ 10000000000 by omega), e1, e2, joinK, totC]
      constructor
      · rw [i1, Int.add_assoc]
      · rw [hr, i2, Int.add_assoc]
theorem days_true (d : GDay) (p : List Int) (gd : gd_GDay d) (_ : gd_Li64 p) : law10_TownDaysX (2000 + d.Hours.length) d p = some true := by
  have hlen : d.Hours.length ≤ 9223372036854775807 := gd.2.2.1
  generalize hM : 2000 + d.Hours.length = N
  have hN : 2000 ≤ N := by omega
  obtain ⟨b, hb1, hb2⟩ := few_eq (N := N) hlen (by omega)
  unfold law10_TownDaysX
  simp only [hb1, Option.bind_some, wakes_at, joinK]
  cases b with
  | false => rfl
  | true =>
    have hf := hb2 rfl
    simp only [Bool.not_true, cond_false]
    by_cases h35 : (p.length : Int) > 35
    · simp [h35]
    · simp only [h35, decide_false, cond_false, copyD_eq hf hN, copyL_eq (show p.length ≤ 1000 by omega), Option.bind_some, dayR_eq hf hN]
      cases hd : dayB d with
      | false => simp [town_ShortX, town_CostX, town_CheckDayX, dayP_eq hf hN, hd]
      | true =>
        obtain ⟨r, r1, r2⟩ := short_eq hN hd
        obtain ⟨q, q1, q2, q3⟩ := levels_eq (p := p) hN hd
        simp only [town_ShortX, town_CostX, town_CheckDayX, dayP_eq hf hN, hd, Option.bind_some, Bool.not_true, cond_false, r1, r2, q1, q2, joinK]
        cases hq : q.2 with
        | false =>
          by_cases hr : r.1 < 0 <;> simp [hr]
        | true =>
          obtain ⟨hl, hfit⟩ := q3 hq
          obtain ⟨_, _, h1, h2⟩ := day_bd hd
          obtain ⟨c1, c2⟩ := tot_loop hN hd hl N 0 0 (by simp; omega) (by simpa using hfit) (Int.le_refl _) (by omega) (by omega)
          rw [show ((0 : Nat) : Int) = 0 from rfl] at c1 c2
          simp only [Bool.not_true, cond_false, c1, ref10_CostX, joinK, c2, Option.bind_some]
          by_cases hr : r.1 < 0 <;> simp [hr]
end Go.Proofs.Ytgdepcgbjjgnfaa
