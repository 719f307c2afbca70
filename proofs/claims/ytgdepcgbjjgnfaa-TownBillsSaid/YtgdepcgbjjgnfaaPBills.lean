/-
  Plain laws on charges and bills. No conditions.
-/
import Derived.Test.YtgdepcgbjjgnfaaX6
import Derived.Test.YtgdepcgbjjgnfaaPTown
namespace Go.Proofs.Ytgdepcgbjjgnfaa
open Go.RowKit

def brB (b : GBracket) : Bool := btw b.Upto 1 1000000000000 && btw b.Price 0 1000
def lookB : Option GBracket → List GBracket → Bool
  | _, [] => true
  | none, b :: l => brB b && lookB (some b) l
  | some a, b :: l => brB b && decide (a.Upto < b.Upto) && lookB (some b) l
def tarB (l : List GBracket) : Bool := lookB none l && btw l.length 1 6
def prev (t : List GBracket) (i : Nat) : Option GBracket := if i = 0 then none else t[i - 1]?

theorem prev_next {t : List GBracket} {i : Nat} {b : GBracket} (h : t[i]? = some b) : prev t (i + 1) = some b := by simp [prev, h]
theorem tarP_loop (N : Nat) (t : List GBracket) (k : Unit → Option Bool) (hl : t.length ≤ 1000) : ∀ (n i : Nat), (t.drop i).length < n →
    town_tariffX_loop1 N t k n i = bif lookB (prev t i) (t.drop i) then k () else some false := by
  intro n
  induction n with
  | zero => intro i h; exact absurd h (Nat.not_lt_zero _)
  | succ n ih =>
    intro i h
    rw [town_tariffX_loop1]
    cases hd : t.drop i with
    | nil =>
      have := drop_nil hd
      simp [show ¬ ((i : Int) < t.length) from by omega, lookB]
    | cons b l =>
      obtain ⟨hi, hd', hlt⟩ := drop_cons hd
      have e1 : w64 ((i : Int) + 1) = ((i + 1 : Nat) : Int) := w64_id (by omega) (by omega)
      have ih' := ih (i + 1) (by rw [hd']; rw [hd] at h; simp at h; omega)
      rw [hd', prev_next hi] at ih'
      simp only [show decide ((i : Int) < t.length) = true from by simpa using hlt, cond_true, getI_at hi, Option.bind_some, within_eq, e1, ih']
      rcases Nat.eq_zero_or_pos i with rfl | hp
      · simp only [prev, if_true, lookB, brB]
        cases btw b.Upto 1 1000000000000 <;> cases btw b.Price 0 1000 <;> simp
      · obtain ⟨a, ha⟩ : ∃ a, t[i - 1]? = some a := ⟨_, List.getElem?_eq_getElem (by omega)⟩
        have e2 : w64 ((i : Int) - 1) = ((i - 1 : Nat) : Int) := by rw [w64_id (by omega) (by omega)]; omega
        have e3 : prev t i = some a := by rw [prev, if_neg (by omega), ha]
        simp only [e2, getI_at ha, Option.bind_some, e3, lookB, brB, show decide ((i : Int) > 0) = true from by simpa using hp, cond_true]
        cases btw b.Upto 1 1000000000000 <;> cases btw b.Price 0 1000 <;> by_cases hu : b.Upto ≤ a.Upto <;> simp [hu, Int.not_lt.2, Int.not_le.1] <;> (try omega)
theorem tarR_loop (N : Nat) (t : List GBracket) (k : Unit → Option Bool) (hl : t.length ≤ 1000) : ∀ (n i : Nat), (t.drop i).length < n →
    ref10_TariffX_loop1 N t k n i = bif lookB (prev t i) (t.drop i) then k () else some false := by
  intro n
  induction n with
  | zero => intro i h; exact absurd h (Nat.not_lt_zero _)
  | succ n ih =>
    intro i h
    rw [ref10_TariffX_loop1]
    cases hd : t.drop i with
    | nil =>
      have := drop_nil hd
      simp [show ¬ ((i : Int) < t.length) from by omega, lookB]
    | cons b l =>
      obtain ⟨hi, hd', hlt⟩ := drop_cons hd
      have e1 : w64 ((i : Int) + 1) = ((i + 1 : Nat) : Int) := w64_id (by omega) (by omega)
      have ih' := ih (i + 1) (by rw [hd']; rw [hd] at h; simp at h; omega)
      rw [hd', prev_next hi] at ih'
      simp only [show decide ((i : Int) < t.length) = true from by simpa using hlt, cond_true, getI_at hi, Option.bind_some, in_eq, e1, ih']
      rcases Nat.eq_zero_or_pos i with rfl | hp
      · simp only [prev, if_true, lookB, brB]
        cases btw b.Upto 1 1000000000000 <;> cases btw b.Price 0 1000 <;> simp
      · obtain ⟨a, ha⟩ : ∃ a, t[i - 1]? = some a := ⟨_, List.getElem?_eq_getElem (by omega)⟩
        have e2 : w64 ((i : Int) - 1) = ((i - 1 : Nat) : Int) := by rw [w64_id (by omega) (by omega)]; omega
        have e3 : prev t i = some a := by rw [prev, if_neg (by omega), ha]
        simp only [e2, getI_at ha, Option.bind_some, e3, lookB, brB, show decide ((i : Int) > 0) = true from by simpa using hp, cond_true]
        cases btw b.Upto 1 1000000000000 <;> cases btw b.Price 0 1000 <;> by_cases hu : b.Upto ≤ a.Upto <;> simp [hu, Int.not_lt.2, Int.not_le.1] <;> (try omega)
theorem tarP_eq {N : Nat} {t : List GBracket} (hl : t.length ≤ 1000) (hN : 2000 ≤ N) : town_tariffX N t = some (tarB t) := by
  unfold town_tariffX
  simp only [joinK, within_eq, Option.bind_some]
  have := tarP_loop N t (fun _ => some (btw t.length 1 6)) hl N 0 (by simp; omega)
  rw [show ((0 : Nat) : Int) = 0 from rfl, List.drop_zero] at this
  rw [this]
  unfold tarB
  cases hlk : lookB none t <;> simp [prev, hlk]
theorem tarR_eq {N : Nat} {t : List GBracket} (hl : t.length ≤ 1000) (hN : 2000 ≤ N) : ref10_TariffX N t = some (tarB t) := by
  unfold ref10_TariffX
  simp only [joinK]
  have := tarR_loop N t (fun _ => bif decide ((t.length : Int) ≥ 1) then some (decide ((t.length : Int) ≤ 6)) else some false) hl N 0 (by simp; omega)
  rw [show ((0 : Nat) : Int) = 0 from rfl, List.drop_zero] at this
  rw [this]
  unfold tarB btw
  cases hlk : lookB none t <;> by_cases h : (1 : Int) ≤ t.length <;> simp [prev, hlk, h]
theorem copy_loop (N : Nat) (t : List GBracket) (k : List GBracket → Option (List GBracket)) (hl : t.length ≤ 1000) : ∀ (n i : Nat) (acc : List GBracket), (t.drop i).length < n → i ≤ t.length → acc.length = i →
    law10_TariffX_loop1 N t k n acc i = k (acc ++ t.drop i) := by
  intro n
  induction n with
  | zero => intro i _ h; exact absurd h (Nat.not_lt_zero _)
  | succ n ih =>
    intro i acc h hi hacc
    rw [law10_TariffX_loop1]
    cases hd : t.drop i with
    | nil =>
      have := drop_nil hd
      simp [show ¬ ((i : Int) < t.length) from by omega]
    | cons b l =>
      obtain ⟨hg, hd', hlt⟩ := drop_cons hd
      have e1 : w64 ((i : Int) + 1) = ((i + 1 : Nat) : Int) := w64_id (by omega) (by omega)
      simp only [show decide ((i : Int) < t.length) = true from by simpa using hlt, cond_true, getI_at hg, Option.bind_some, e1]
      rw [ih (i + 1) (acc ++ [b]) (by rw [hd']; rw [hd] at h; simp at h; omega) hlt (by simp [hacc]), hd']
      simp only [chk, show decide ((acc.length + [b].length) * 16 ≤ 140737488355328) = true from by simp; omega, cond_true, List.append_assoc, List.cons_append, List.nil_append]
theorem copy_eq {N : Nat} {t : List GBracket} (hl : t.length ≤ 1000) (hN : 2000 ≤ N) : law10_TariffX N t = some t := by
  unfold law10_TariffX
  simp only [joinK]
  have := copy_loop N t (fun y1 => some y1) hl N 0 [] (by simp; omega) (by omega) rfl
  simpa using this

/-- What the program reckons, from a number on. -/
def chg : List GBracket → Int → Int → Int
  | [], _, _ => 0
  | [b], s, n => max 0 (n - s) * b.Price
  | b :: c :: l, s, n => max 0 ((if b.Upto > n then n else b.Upto) - s) * b.Price + chg (c :: l) (max s (if b.Upto > n then n else b.Upto)) n
def priceB (l : List GBracket) : Prop := ∀ b ∈ l, 0 ≤ b.Price ∧ b.Price ≤ 1000 ∧ 0 ≤ b.Upto
theorem mulP {x p q : Int} (hx : 0 ≤ x) (hp : 0 ≤ p) (hq : p ≤ q) : 0 ≤ x * p ∧ x * p ≤ x * q := ⟨Int.mul_nonneg hx hp, Int.mul_le_mul_of_nonneg_left hq hx⟩
theorem chg_bd : ∀ (l : List GBracket) (s n : Int), priceB l → s ≤ n → 0 ≤ chg l s n ∧ chg l s n ≤ (n - s) * 1000
  | [], s, n, _, h => ⟨Int.le_refl _, by simp only [chg]; omega⟩
  | [b], s, n, hp, h => by
    obtain ⟨p1, p2, p3⟩ := hp b (by simp)
    rw [chg, Int.max_eq_right (by omega)]
    exact mulP (by omega) p1 p2
  | b :: c :: l, s, n, hp, h => by
    obtain ⟨p1, p2, p3⟩ := hp b (by simp)
    rw [chg]
    generalize ht : (if b.Upto > n then n else b.Upto) = t
    have htn : t ≤ n := by rw [← ht]; split <;> omega
    obtain ⟨h1, h2⟩ := chg_bd (c :: l) (max s t) n (fun x hx => hp x (List.mem_cons_of_mem _ hx)) (Int.max_le.2 ⟨h, htn⟩)
    rcases Int.le_total s t with hst | hst
    · rw [Int.max_eq_right (by omega : 0 ≤ t - s)]
      rw [Int.max_eq_right hst] at h1 h2 ⊢
      obtain ⟨q1, q2⟩ := mulP (x := t - s) (by omega) p1 p2
      constructor <;> omega
    · rw [Int.max_eq_left (by omega : t - s ≤ 0)]
      rw [Int.max_eq_left hst] at h1 h2 ⊢
      constructor <;> omega
theorem chg_zero : ∀ (l : List GBracket) (n : Int), chg l n n = 0
  | [], n => rfl
  | [b], n => by simp [chg]
  | b :: c :: l, n => by
    rw [chg]
    generalize ht : (if b.Upto > n then n else b.Upto) = t
    have htn : t ≤ n := by rw [← ht]; split <;> omega
    rw [Int.max_eq_left (by omega : t - n ≤ 0), Int.max_eq_left htn, chg_zero (c :: l) n]
    simp
theorem chg_mono : ∀ (l : List GBracket) (s n m : Int), priceB l → s ≤ n → n ≤ m → chg l s n ≤ chg l s m
  | [], _, _, _, _, _, _ => Int.le_refl _
  | [b], s, n, m, hp, h, h' => by
    obtain ⟨p1, _, _⟩ := hp b (by simp)
    rw [chg, chg, Int.max_eq_right (by omega), Int.max_eq_right (by omega)]
    exact Int.mul_le_mul_of_nonneg_right (by omega) p1
  | b :: c :: l, s, n, m, hp, h, h' => by
    obtain ⟨p1, p2, p3⟩ := hp b (by simp)
    have hp' : priceB (c :: l) := fun x hx => hp x (List.mem_cons_of_mem _ hx)
    rw [chg, chg]
    by_cases hu : b.Upto > n
    · rw [if_pos hu, Int.max_eq_right (by omega : s ≤ n), chg_zero]
      generalize ht : (if b.Upto > m then m else b.Upto) = t
      have htn : n ≤ t ∧ t ≤ m := by rw [← ht]; split <;> omega
      obtain ⟨q1, _⟩ := chg_bd (c :: l) (max s t) m hp' (by omega)
      rw [Int.max_eq_right (by omega), Int.max_eq_right (by omega)]
      have := Int.mul_le_mul_of_nonneg_right (show n - s ≤ t - s by omega) p1
      omega
    · rw [if_neg hu, if_neg (by omega)]
      have := chg_mono (c :: l) (max s b.Upto) n m hp' (by omega) h'
      omega
theorem charge_loop (N : Nat) (t : List GBracket) (p : Int) (k : Int → Option Int) (hl : t.length ≤ 1000) (hp : priceB t) (hpp : p ≤ 1000000000000) : ∀ (n i : Nat) (a s : Int), (t.drop i).length < n → 0 ≤ a → 0 ≤ s → s ≤ p → a + (p - s) * 1000 ≤ 1000000000000000 →
    town_chargeX_loop1 N t p k n a s i = k (a + chg (t.drop i) s p) := by
  intro n
  induction n with
  | zero => intro i _ _ h; exact absurd h (Nat.not_lt_zero _)
  | succ n ih =>
    intro i a s h ha hs hsp hb
    rw [town_chargeX_loop1]
    cases hd : t.drop i with
    | nil =>
      have := drop_nil hd
      simp [show ¬ ((i : Int) < t.length) from by omega, chg]
    | cons b l =>
      obtain ⟨hg, hd', hlt⟩ := drop_cons hd
      obtain ⟨p1, p2, p3⟩ := hp b (List.mem_of_getElem? hg)
      have e1 : w64 ((i : Int) + 1) = ((i + 1 : Nat) : Int) := w64_id (by omega) (by omega)
      have e2 : w64 ((t.length : Int) - 1) = (t.length : Int) - 1 := w64_id (by omega) (by omega)
      have hlen : l.length + 1 + i = t.length := by
        have := congrArg List.length hd
        simp at this
        omega
      simp only [show decide ((i : Int) < t.length) = true from by simpa using hlt, cond_true, getI_at hg, Option.bind_some, e1, e2, joinK]
      have step : ∀ to : Int, to ≤ p → -1000000000000 ≤ to → town_chargeX_loop1 N t p k n (w64 (a + w64 ((if w64 (to - s) > 0 then w64 (to - s) else 0) * b.Price))) (if to > s then to else s) ((i + 1 : Nat) : Int) = k (a + (max 0 (to - s) * b.Price + chg l (max s to) p)) := fun to h1 h0 => by
        have e3 : w64 (to - s) = to - s := w64_id (by omega) (by omega)
        have e4 : (if to - s > 0 then to - s else 0) = max 0 (to - s) := by split <;> omega
        have e5 : (if to > s then to else s) = max s to := by split <;> omega
        obtain ⟨q1, q2⟩ := mulP (x := max 0 (to - s)) (by omega) p1 p2
        have hm : max 0 (to - s) + (p - max s to) ≤ p - s := by omega
        have e6 : w64 (max 0 (to - s) * b.Price) = max 0 (to - s) * b.Price := w64_id (by omega) (by omega)
        rw [e3, e4, e5, e6, w64_id (by omega) (by omega), ih (i + 1) _ _ (by rw [hd']; rw [hd] at h; simp at h; omega) (by omega) (by omega) (by omega) (by omega), hd', Int.add_assoc]
      cases l with
      | nil =>
        have hlast : ((i : Int) == (t.length : Int) - 1) = true := by
          simp at hlen
          simp
          omega
        simp only [hlast, cond_true]
        rw [step p (Int.le_refl _) (by omega), chg, chg]
        simp
      | cons c l =>
        have hlast : ((i : Int) == (t.length : Int) - 1) = false := by
          simp at hlen
          simp
          omega
        simp only [hlast, cond_false]
        rw [chg]
        by_cases hu : b.Upto > p
        · simp only [hu, decide_true, cond_true, if_true]
          exact step p (Int.le_refl _) (by omega)
        · simp only [hu, decide_false, cond_false, if_false]
          exact step b.Upto (by omega) (by omega)
theorem charge_eq {N : Nat} {t : List GBracket} {p : Int} (hl : t.length ≤ 1000) (hN : 2000 ≤ N) (hp : priceB t) (h0 : 0 ≤ p) (hpp : p ≤ 1000000000000) : town_chargeX N t p = some (chg t 0 p / 1000) := by
  unfold town_chargeX
  simp only [joinK]
  have := charge_loop N t p (fun y1 => some (w64 (y1.tdiv 1000))) hl hp hpp N 0 0 0 (by simp; omega) (Int.le_refl _) (Int.le_refl _) h0 (by omega)
  rw [show ((0 : Nat) : Int) = 0 from rfl, List.drop_zero] at this
  rw [this, Int.zero_add]
  obtain ⟨h1, h2⟩ := chg_bd t 0 p hp h0
  rw [Int.tdiv_eq_ediv_of_nonneg h1, w64_id (by omega) (by omega)]
end Go.Proofs.Ytgdepcgbjjgnfaa
