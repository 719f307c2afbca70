/-
  Plain laws on charges, for the top seat. No conditions.
-/
import Derived.Test.YtflmombnmnblnaaX5
import Derived.Test.YtflmombnmnblnaaXo
namespace Go.Proofs.Ytflmombnmnblnaa
open Go.RowKit
theorem Qb3 {x : Int} (h : -9223372036854775808 ≤ x) (h' : x ≤ 9223372036854775807) : w64 x = x := by
 unfold w64
 rw [IntKind.wrap_i64]
 omega
theorem Qei {α : Type} {l : List α} {i : Nat} {x : α} (h : l[i]? = some x) : getI l (i : Int) = some x := by
 simp [getI, h]
def btw (a lo hi : Int) : Bool := decide (lo ≤ a) && decide (a ≤ hi)
theorem Qhw {a lo hi : Int} : btw a lo hi = true ↔ lo ≤ a ∧ a ≤ hi := by simp [btw]
theorem Qh1 (N : Nat) (a lo hi : Int) : Qb5 N a lo hi = some (btw a lo hi) := by
 unfold Qb5 btw
 by_cases h : lo ≤ a <;> simp [h]
theorem in_eq (N : Nat) (a lo hi : Int) : Qgi N a lo hi = some (btw a lo hi) := by
 unfold Qgi btw
 by_cases h : lo ≤ a <;> simp [h]
theorem Qdu {α : Type} {t : List α} {i : Nat} {a : α} {l : List α} (h : t.drop i = a :: l) : t[i]? = some a ∧ t.drop (i + 1) = l ∧ i < t.length := by
 have hlt : i < t.length := by
  rcases Nat.lt_or_ge i t.length with h' | h'
  ·exact h'
  ·rw [List.drop_eq_nil_of_le h'] at h; cases h
 rw [List.drop_eq_getElem_cons hlt] at h
 simp only [List.cons.injEq] at h
 exact ⟨by rw [List.getElem?_eq_getElem hlt, h.1], h.2, hlt⟩
theorem Qed {α : Type} {t : List α} {i : Nat} (h : t.drop i = []) : t.length ≤ i := List.drop_eq_nil_iff.1 h
def brB (b : GBracket) : Bool := btw b.Upto 1 1000000000000 && btw b.Price 0 1000
def Qhm : Option GBracket → List GBracket → Bool
 | _, [] => true
 | none, b :: l => brB b && Qhm (some b) l
 | some a, b :: l => brB b && decide (a.Upto < b.Upto) && Qhm (some b) l
def tarB (l : List GBracket) : Bool := Qhm none l && btw l.length 1 6
def prev (t : List GBracket) (i : Nat) : Option GBracket := if i = 0 then none else t[i - 1]?
theorem prev_next {t : List GBracket} {i : Nat} {b : GBracket} (h : t[i]? = some b) : prev t (i + 1) = some b := by simp [prev, h]
theorem tarP_loop (N : Nat) (t : List GBracket) (k : Unit → Option Bool) (hl : t.length ≤ 1000) : ∀ (n i : Nat), (t.drop i).length < n →
  Qch N t k n i = bif Qhm (prev t i) (t.drop i) then k () else some false := by
 intro n
 induction n with
 | zero => intro i h; exact absurd h (Nat.not_lt_zero _)
 | succ n ih =>
  intro i h
  rw [Qch]
  cases hd : t.drop i with
  | nil =>
   have := Qed hd
   simp [show ¬ ((i : Int) < t.length) from by omega, Qhm]
  | cons b l =>
   obtain ⟨hi, hd', hlt⟩ := Qdu hd
   have e1 : w64 ((i : Int) + 1) = ((i + 1 : Nat) : Int) := Qb3 (by omega) (by omega)
   have ih' := ih (i + 1) (by rw [hd']; rw [hd] at h; simp at h; omega)
   rw [hd', prev_next hi] at ih'
   simp only [show decide ((i : Int) < t.length) = true from by simpa using hlt, cond_true, Qei hi, Option.bind_some, Qh1, e1, ih']
   rcases Nat.eq_zero_or_pos i with rfl | hp
   ·simp only [prev, if_true, Qhm, brB]
    cases btw b.Upto 1 1000000000000 <;> cases btw b.Price 0 1000 <;> simp
   ·obtain ⟨a, ha⟩ : ∃ a, t[i - 1]? = some a := ⟨_, List.getElem?_eq_getElem (by omega)⟩
    have e2 : w64 ((i : Int) - 1) = ((i - 1 : Nat) : Int) := by rw [Qb3 (by omega) (by omega)]; omega
    have e3 : prev t i = some a := by rw [prev, if_neg (by omega), ha]
    simp only [e2, Qei ha, Option.bind_some, e3, Qhm, brB, show decide ((i : Int) > 0) = true from by simpa using hp, cond_true]
    cases btw b.Upto 1 1000000000000 <;> cases btw b.Price 0 1000 <;> by_cases hu : b.Upto ≤ a.Upto <;> simp [hu, Int.not_lt.2, Int.not_le.1] <;> (try omega)
theorem tarR_loop (N : Nat) (t : List GBracket) (k : Unit → Option Bool) (hl : t.length ≤ 1000) : ∀ (n i : Nat), (t.drop i).length < n →
  Qb7 N t k n i = bif Qhm (prev t i) (t.drop i) then k () else some false := by
 intro n
 induction n with
 | zero => intro i h; exact absurd h (Nat.not_lt_zero _)
 | succ n ih =>
  intro i h
  rw [Qb7]
  cases hd : t.drop i with
  | nil =>
   have := Qed hd
   simp [show ¬ ((i : Int) < t.length) from by omega, Qhm]
  | cons b l =>
   obtain ⟨hi, hd', hlt⟩ := Qdu hd
   have e1 : w64 ((i : Int) + 1) = ((i + 1 : Nat) : Int) := Qb3 (by omega) (by omega)
   have ih' := ih (i + 1) (by rw [hd']; rw [hd] at h; simp at h; omega)
   rw [hd', prev_next hi] at ih'
   simp only [show decide ((i : Int) < t.length) = true from by simpa using hlt, cond_true, Qei hi, Option.bind_some, in_eq, e1, ih']
   rcases Nat.eq_zero_or_pos i with rfl | hp
   ·simp only [prev, if_true, Qhm, brB]
    cases btw b.Upto 1 1000000000000 <;> cases btw b.Price 0 1000 <;> simp
   ·obtain ⟨a, ha⟩ : ∃ a, t[i - 1]? = some a := ⟨_, List.getElem?_eq_getElem (by omega)⟩
    have e2 : w64 ((i : Int) - 1) = ((i - 1 : Nat) : Int) := by rw [Qb3 (by omega) (by omega)]; omega
    have e3 : prev t i = some a := by rw [prev, if_neg (by omega), ha]
    simp only [e2, Qei ha, Option.bind_some, e3, Qhm, brB, show decide ((i : Int) > 0) = true from by simpa using hp, cond_true]
    cases btw b.Upto 1 1000000000000 <;> cases btw b.Price 0 1000 <;> by_cases hu : b.Upto ≤ a.Upto <;> simp [hu, Int.not_lt.2, Int.not_le.1] <;> (try omega)
theorem tarP_eq {N : Nat} {t : List GBracket} (hl : t.length ≤ 1000) (hN : 2000 ≤ N) : Qej N t = some (tarB t) := by
 unfold Qej
 simp only [Qcg, Qh1, Option.bind_some]
 have := tarP_loop N t (fun _ => some (btw t.length 1 6)) hl N 0 (by simp; omega)
 rw [show ((0 : Nat) : Int) = 0 from rfl, List.drop_zero] at this
 rw [this]
 unfold tarB
 cases hlk : Qhm none t <;> simp [prev, hlk]
theorem tarR_eq {N : Nat} {t : List GBracket} (hl : t.length ≤ 1000) (hN : 2000 ≤ N) : Qet N t = some (tarB t) := by
 unfold Qet
 simp only [Qcg]
 have := tarR_loop N t (fun _ => bif decide ((t.length : Int) ≥ 1) then some (decide ((t.length : Int) ≤ 6)) else some false) hl N 0 (by simp; omega)
 rw [show ((0 : Nat) : Int) = 0 from rfl, List.drop_zero] at this
 rw [this]
 unfold tarB btw
 cases hlk : Qhm none t <;> by_cases h : (1 : Int) ≤ t.length <;> simp [prev, hlk, h]
theorem copy_loop (N : Nat) (t : List GBracket) (k : List GBracket → Option (List GBracket)) (hl : t.length ≤ 1000) : ∀ (n i : Nat) (acc : List GBracket), (t.drop i).length < n → i ≤ t.length → acc.length = i →
  Qcs N t k n acc i = k (acc ++ t.drop i) := by
 intro n
 induction n with
 | zero => intro i _ h; exact absurd h (Nat.not_lt_zero _)
 | succ n ih =>
  intro i acc h hi hacc
  rw [Qcs]
  cases hd : t.drop i with
  | nil =>
   have := Qed hd
   simp [show ¬ ((i : Int) < t.length) from by omega]
  | cons b l =>
   obtain ⟨hg, hd', hlt⟩ := Qdu hd
   have e1 : w64 ((i : Int) + 1) = ((i + 1 : Nat) : Int) := Qb3 (by omega) (by omega)
   simp only [show decide ((i : Int) < t.length) = true from by simpa using hlt, cond_true, Qei hg, Option.bind_some, e1]
   rw [ih (i + 1) (acc ++ [b]) (by rw [hd']; rw [hd] at h; simp at h; omega) hlt (by simp [hacc]), hd']
   simp only [chk, show decide ((acc.length + [b].length) * 16 ≤ 140737488355328) = true from by simp; omega, cond_true, List.append_assoc, List.cons_append, List.nil_append]
theorem copy_eq {N : Nat} {t : List GBracket} (hl : t.length ≤ 1000) (hN : 2000 ≤ N) : Qex N t = some t := by
 unfold Qex
 simp only [Qcg]
 have := copy_loop N t (fun y1 => some y1) hl N 0 [] (by simp; omega) (by omega) rfl
 simpa using this
def chg : List GBracket → Int → Int → Int
 | [], _, _ => 0
 | [b], s, n => max 0 (n - s) * b.Price
 | b :: c :: l, s, n => max 0 ((if b.Upto > n then n else b.Upto) - s) * b.Price + chg (c :: l) (max s (if b.Upto > n then n else b.Upto)) n
def Qh7 (l : List GBracket) : Prop := ∀ b ∈ l, 0 ≤ b.Price ∧ b.Price ≤ 1000 ∧ 0 ≤ b.Upto
theorem mulP {x p q : Int} (hx : 0 ≤ x) (hp : 0 ≤ p) (hq : p ≤ q) : 0 ≤ x * p ∧ x * p ≤ x * q := ⟨Int.mul_nonneg hx hp, Int.mul_le_mul_of_nonneg_left hq hx⟩
theorem chg_bd : ∀ (l : List GBracket) (s n : Int), Qh7 l → s ≤ n → 0 ≤ chg l s n ∧ chg l s n ≤ (n - s) * 1000
 | [], s, n, _, h => ⟨Int.le_refl _, by simp only [chg]; omega⟩
 | [b], s, n, hp, h => by
  obtain ⟨p1, p2, p3⟩ := hp b (by simp)
  rw [chg, Int.max_eq_right (by omega)]
  exact mulP (by omega) p1 p2
 | b :: c :: l, s, n, hp, h => by
  obtain ⟨p1, p2, p3⟩ := hp b (by simp)
  rw [chg]
  generalize ht : (if b.Upto > n then n else b.Upto) = t
  have htn : t ≤ n := by rw [← ht]; split <;> omega
  obtain ⟨h1, h2⟩ := chg_bd (c :: l) (max s t) n (fun x hx => hp x (List.mem_cons_of_mem _ hx)) (Int.max_le.2 ⟨h, htn⟩)
  rcases Int.le_total s t with hst | hst
  ·rw [Int.max_eq_right (by omega : 0 ≤ t - s)]
   rw [Int.max_eq_right hst] at h1 h2 ⊢
   obtain ⟨q1, q2⟩ := mulP (x := t - s) (by omega) p1 p2
   constructor <;> omega
  ·rw [Int.max_eq_left (by omega : t - s ≤ 0)]
   rw [Int.max_eq_left hst] at h1 h2 ⊢
   constructor <;> omega
theorem chg_zero : ∀ (l : List GBracket) (n : Int), chg l n n = 0
 | [], n => rfl
 | [b], n => by simp [chg]
 | b :: c :: l, n => by
  rw [chg]
  generalize ht : (if b.Upto > n then n else b.Upto) = t
  have htn : t ≤ n := by rw [← ht]; split <;> omega
  rw [Int.max_eq_left (by omega : t - n ≤ 0), Int.max_eq_left htn, chg_zero (c :: l) n]
  simp
theorem chg_mono : ∀ (l : List GBracket) (s n m : Int), Qh7 l → s ≤ n → n ≤ m → chg l s n ≤ chg l s m
 | [], _, _, _, _, _, _ => Int.le_refl _
 | [b], s, n, m, hp, h, h' => by
  obtain ⟨p1, _, _⟩ := hp b (by simp)
  rw [chg, chg, Int.max_eq_right (by omega), Int.max_eq_right (by omega)]
  exact Int.mul_le_mul_of_nonneg_right (by omega) p1
 | b :: c :: l, s, n, m, hp, h, h' => by
  obtain ⟨p1, p2, p3⟩ := hp b (by simp)
  have hp' : Qh7 (c :: l) := fun x hx => hp x (List.mem_cons_of_mem _ hx)
  rw [chg, chg]
  by_cases hu : b.Upto > n
  ·rw [if_pos hu, Int.max_eq_right (by omega : s ≤ n), chg_zero]
   generalize ht : (if b.Upto > m then m else b.Upto) = t
   have htn : n ≤ t ∧ t ≤ m := by rw [← ht]; split <;> omega
   obtain ⟨q1, _⟩ := chg_bd (c :: l) (max s t) m hp' (by omega)
   rw [Int.max_eq_right (by omega), Int.max_eq_right (by omega)]
   have := Int.mul_le_mul_of_nonneg_right (show n - s ≤ t - s by omega) p1
   omega
  ·rw [if_neg hu, if_neg (by omega)]
   have := chg_mono (c :: l) (max s b.Upto) n m hp' (by omega) h'
   omega
theorem charge_loop (N : Nat) (t : List GBracket) (p : Int) (k : Int → Option Int) (hl : t.length ≤ 1000) (hp : Qh7 t) (hpp : p ≤ 1000000000000) : ∀ (n i : Nat) (a s : Int), (t.drop i).length < n → 0 ≤ a → 0 ≤ s → s ≤ p → a + (p - s) * 1000 ≤ 1000000000000000 →
  Qci N t p k n a s i = k (a + chg (t.drop i) s p) := by
 intro n
 induction n with
 | zero => intro i _ _ h; exact absurd h (Nat.not_lt_zero _)
 | succ n ih =>
  intro i a s h ha hs hsp hb
  rw [Qci]
  cases hd : t.drop i with
  | nil =>
   have := Qed hd
   simp [show ¬ ((i : Int) < t.length) from by omega, chg]
  | cons b l =>
   obtain ⟨hg, hd', hlt⟩ := Qdu hd
   obtain ⟨p1, p2, p3⟩ := hp b (List.mem_of_getElem? hg)
   have e1 : w64 ((i : Int) + 1) = ((i + 1 : Nat) : Int) := Qb3 (by omega) (by omega)
   have e2 : w64 ((t.length : Int) - 1) = (t.length : Int) - 1 := Qb3 (by omega) (by omega)
   have hlen : l.length + 1 + i = t.length := by
    have := congrArg List.length hd
    simp at this
    omega
   simp only [show decide ((i : Int) < t.length) = true from by simpa using hlt, cond_true, Qei hg, Option.bind_some, e1, e2, Qcg]
   have step : ∀ to : Int, to ≤ p → -1000000000000 ≤ to → Qci N t p k n (w64 (a + w64 ((if w64 (to - s) > 0 then w64 (to - s) else 0) * b.Price))) (if to > s then to else s) ((i + 1 : Nat) : Int) = k (a + (max 0 (to - s) * b.Price + chg l (max s to) p)) := fun to h1 h0 => by
    have e3 : w64 (to - s) = to - s := Qb3 (by omega) (by omega)
    have e4 : (if to - s > 0 then to - s else 0) = max 0 (to - s) := by split <;> omega
    have e5 : (if to > s then to else s) = max s to := by split <;> omega
    obtain ⟨q1, q2⟩ := mulP (x := max 0 (to - s)) (by omega) p1 p2
    have hm : max 0 (to - s) + (p - max s to) ≤ p - s := by omega
    have e6 : w64 (max 0 (to - s) * b.Price) = max 0 (to - s) * b.Price := Qb3 (by omega) (by omega)
    rw [e3, e4, e5, e6, Qb3 (by omega) (by omega), ih (i + 1) _ _ (by rw [hd']; rw [hd] at h; simp at h; omega) (by omega) (by omega) (by omega) (by omega), hd', Int.add_assoc]
   cases l with
   | nil =>
    have hlast : ((i : Int) == (t.length : Int) - 1) = true := by
     simp at hlen
     simp
     omega
    simp only [hlast, cond_true]
    rw [step p (Int.le_refl _) (by omega), chg, chg]
    simp
   | cons c l =>
    have hlast : ((i : Int) == (t.length : Int) - 1) = false := by
     simp at hlen
     simp
     omega
    simp only [hlast, cond_false]
    rw [chg]
    by_cases hu : b.Upto > p
    ·simp only [hu, decide_true, cond_true, if_true]
     exact step p (Int.le_refl _) (by omega)
    ·simp only [hu, decide_false, cond_false, if_false]
     exact step b.Upto (by omega) (by omega)
theorem Qjo {N : Nat} {t : List GBracket} {p : Int} (hl : t.length ≤ 1000) (hN : 2000 ≤ N) (hp : Qh7 t) (h0 : 0 ≤ p) (hpp : p ≤ 1000000000000) : Qd2 N t p = some (chg t 0 p / 1000) := by
 unfold Qd2
 simp only [Qcg]
 have := charge_loop N t p (fun y1 => some (w64 (y1.tdiv 1000))) hl hp hpp N 0 0 0 (by simp; omega) (Int.le_refl _) (Int.le_refl _) h0 (by omega)
 rw [show ((0 : Nat) : Int) = 0 from rfl, List.drop_zero] at this
 rw [this, Int.zero_add]
 obtain ⟨h1, h2⟩ := chg_bd t 0 p hp h0
 rw [Int.tdiv_eq_ediv_of_nonneg h1, Qb3 (by omega) (by omega)]
theorem Qj9 : ∀ (l : List GBracket) (a : Option GBracket), Qhm a l = true → Qh7 l
 | [], _, _ => fun _ h => by cases h
 | b :: l, a, h => by
  have hb : brB b = true ∧ Qhm (some b) l = true := by cases a <;> simp [Qhm] at h <;> simp [h]
  intro x hx
  rcases List.mem_cons.1 hx with rfl | hx
  ·have := hb.1
   simp only [brB, Bool.and_eq_true, Qhw] at this
   omega
  ·exact Qj9 l (some b) hb.2 x hx
theorem Qh6 {l : List GBracket} (h : tarB l = true) : Qh7 l := by
 unfold tarB at h
 rw [Bool.and_eq_true] at h
 exact Qj9 l none h.1
end Go.Proofs.Ytflmombnmnblnaa
