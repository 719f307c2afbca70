/-
  Plain: whether a day is valid, the first hour that is short, and the cost of a plan, are as the document says. No conditions.
-/
import Derived.Test.YtgdepcgbjjgnfaaX18
import Derived.Test.YtgdepcgbjjgnfaaPDay
namespace Go.Proofs.Ytgdepcgbjjgnfaa
open Go.RowKit
theorem Qic {d : GDay} (h : dayB d = true) {x : GHour} (hx : x ∈ d.Hours) : HourP x := by
 simp only [dayB, Bool.and_eq_true] at h
 exact Qyj (List.all_eq_true.1 h.2 x hx)
theorem Qjn {d : GDay} (h : dayB d = true) : (0 ≤ d.Tank ∧ d.Tank ≤ 1000000000) ∧ (0 ≤ d.Start ∧ d.Start ≤ d.Tank) ∧ 1 ≤ d.Hours.length ∧ d.Hours.length ≤ 24 := by
 simp only [dayB, Bool.and_eq_true, Qid] at h
 omega
theorem Qtn {N : Nat} {d : GDay} (hN : 2000 ≤ N) (hd : dayB d = true) : ∀ (n i : Nat) (y : Int), (d.Hours.drop i).length < n → 0 ≤ y → y ≤ d.Tank → ∃ r, Qbk N d (fun _ => some (-1, 0)) n y i = some r ∧ Qdi N d (fun _ => some (-1, 0)) n y i = some r := by
 obtain ⟨⟨t0, t1⟩, _, h1, h2⟩ := Qjn hd
 intro n
 induction n with
 | zero => intro i _ h; exact absurd h (Nat.not_lt_zero _)
 | succ n ih =>
  intro i y h y0 y1
  rw [Qbk, Qdi]
  cases hdr : d.Hours.drop i with
  | nil =>
   have := Qe4 hdr
   exact ⟨(-1, 0), by simp [show ¬ ((i : Int) < d.Hours.length) from by omega]⟩
  | cons b l =>
   obtain ⟨hg, hd', hlt⟩ := Qee hdr
   have hp := Qic hd (List.mem_of_getElem? hg)
   have hw := Qli hp.st
   have hf := hp.few
   have hu := hp.use
   have e1 : w64 ((i : Int) + 1) = ((i + 1 : Nat) : Int) := Qbr (by omega) (by omega)
   have e2 : w64 (Qcg b.Stairs - b.Use) = Qcg b.Stairs - b.Use := Qbr (by omega) (by omega)
   have e3 : w64 (y + (Qcg b.Stairs - b.Use)) = y + Qcg b.Stairs - b.Use := by rw [Qbr (by omega) (by omega)]; omega
   have e4 : w64 (y + Qcg b.Stairs) = y + Qcg b.Stairs := Qbr (by omega) (by omega)
   have e5 : w64 (y + Qcg b.Stairs - b.Use) = y + Qcg b.Stairs - b.Use := Qbr (by omega) (by omega)
   simp only [show decide ((i : Int) < d.Hours.length) = true from by simpa using hlt, cond_true, Qcw hg, Option.bind_some, Qlw hp hN, Qpi hp hN, e1, e2, e3, e4, e5]
   by_cases hneg : y + Qcg b.Stairs - b.Use < 0
   ·exact ⟨(i, w64 (0 - (y + Qcg b.Stairs - b.Use))), by simp [hneg]⟩
   ·simp only [hneg, decide_false, cond_false]
    exact ih (i + 1) _ (by rw [hd']; rw [hdr] at h; simp at h; omega) (by split <;> omega) (by split <;> omega)
theorem Qx0 {N : Nat} {d : GDay} (hN : 2000 ≤ N) (hd : dayB d = true) : ∃ r, Qes N d = some r ∧ Qhh N d = some r := by
 obtain ⟨_, ⟨s0, s1⟩, h1, h2⟩ := Qjn hd
 have := Qtn hN hd N 0 d.Start (by simp; omega) s0 s1
 exact this
def fits : List GHour → List Int → Prop
 | h :: hs, x :: xs => 0 ≤ x ∧ x ≤ Qcg h.Stairs ∧ fits hs xs
 | _, _ => True
theorem Qsg (a b : Nat) : ((a : Int) == (b : Int)) = decide (a = b) := by
 by_cases h : a = b
 ·subst h; simp
 ·rw [decide_eq_false h]
  exact beq_eq_false_iff_ne.2 (by omega)
def Qf3 : List GStair → Int → Int
 | [], _ => 0
 | s :: l, n => min n s.Amount * s.Price + Qf3 l (n - min n s.Amount)
theorem mulB {x p : Int} (x0 : 0 ≤ x) (x1 : x ≤ 1000000000) (p0 : 0 ≤ p) (p1 : p ≤ 1000) : 0 ≤ x * p ∧ x * p ≤ 1000000000000 :=
 ⟨Int.mul_nonneg x0 p0, Int.le_trans (Int.mul_le_mul_of_nonneg_left p1 x0) (by omega)⟩
theorem Qq6 : ∀ {l : List GStair} {n : Int}, (∀ s ∈ l, 1 ≤ s.Amount ∧ s.Amount ≤ 1000000000 ∧ 0 ≤ s.Price ∧ s.Price ≤ 1000) → 0 ≤ n → 0 ≤ Qf3 l n ∧ Qf3 l n ≤ 1000000000000 * l.length
 | [], _, _, _ => by simp [Qf3]
 | s :: l, n, h, h0 => by
  have h1 := h s (by simp)
  have h2 := Qq6 (l := l) (n := n - min n s.Amount) (fun x hx => h x (List.mem_cons_of_mem _ hx)) (by omega)
  have h3 := mulB (x := min n s.Amount) (p := s.Price) (by omega) (by omega) (by omega) (by omega)
  rw [Qf3]
  simp only [List.length_cons]
  omega
def Qjj : List GStair → Int → List (GStair × Int)
 | [], _ => []
 | s :: l, n => (s, min n s.Amount) :: Qjj l (n - min n s.Amount)
theorem Qm3 (N : Nat) (t : List GStair) (ht : t.length ≤ 1000) (hs : ∀ s ∈ t, 1 ≤ s.Amount ∧ s.Amount ≤ 1000000000 ∧ 0 ≤ s.Price ∧ s.Price ≤ 1000) : ∀ (n i : Nat) (y : Int), (t.drop i).length < n → 0 ≤ y → y ≤ 10000000000 → Qcd N t n i y = some (Qjj (t.drop i) y) := by
 intro n
 induction n with
 | zero => intro i _ h; exact absurd h (Nat.not_lt_zero _)
 | succ n ih =>
  intro i y h y0 y1
  rw [Qcd]
  cases hd : t.drop i with
  | nil =>
   have := Qe4 hd
   simp [show ¬ ((i : Int) < t.length) from by omega, Qjj]
  | cons b l =>
   obtain ⟨hg, hd', hlt⟩ := Qee hd
   have hb := hs b (List.mem_of_getElem? hg)
   have e1 : w64 ((i : Int) + 1) = ((i + 1 : Nat) : Int) := Qbr (by omega) (by omega)
   have e2 : (if b.Amount < y then b.Amount else y) = min y b.Amount := by split <;> omega
   have e3 : w64 (y - min y b.Amount) = y - min y b.Amount := Qbr (by omega) (by omega)
   simp only [show decide ((i : Int) < t.length) = true from by simpa using hlt, cond_true, Qcw hg, Option.bind_some, e1, e2, e3, Qjj]
   rw [ih (i + 1) _ (by rw [hd']; rw [hd] at h; simp at h; omega) (by omega) (by omega), hd']
   rfl
theorem Qmi (N : Nat) (k : Int → Option Int) : ∀ (l : List GStair) (n a : Int), (∀ s ∈ l, 1 ≤ s.Amount ∧ s.Amount ≤ 1000000000 ∧ 0 ≤ s.Price ∧ s.Price ≤ 1000) → l.length ≤ 10 → 0 ≤ n → 0 ≤ a → a ≤ 1000000000000000 → a + 1000000000000 * l.length ≤ 1000000000000000 → Qb8 N k (Qjj l n) a = k (a + Qf3 l n)
 | [], _, _, _, _, _, _, _, _ => by simp [Qjj, Qb8, Qf3]
 | s :: l, n, a, h, hl, n0, a0, a1, hb => by
  have h1 := h s (by simp)
  have h3 := mulB (x := min n s.Amount) (p := s.Price) (by omega) (by omega) (by omega) (by omega)
  simp only [List.length_cons] at hl hb
  rw [Qjj, Qb8]
  dsimp only
  rw [Int.mul_comm s.Price, Qbr (show -9223372036854775808 ≤ min n s.Amount * s.Price by omega) (by omega), Qbr (by omega) (by omega), Qmi N k l _ _ (fun x hx => h x (List.mem_cons_of_mem _ hx)) (by omega) (by omega) (by omega) (by omega) (by omega), Qf3, Int.add_assoc]
theorem Qsr {N : Nat} {h : GHour} {n : Int} (hN : 2000 ≤ N) (hp : HourP h) (n0 : 0 ≤ n) (n1 : n ≤ 10000000000) : Qeq N h n = some (Qf3 h.Stairs n) := by
 have hf := hp.few
 unfold Qeq Qdx Qdw
 have h1 := Qm3 N h.Stairs (by omega) hp.st N 0 n (by simp; omega) n0 n1
 rw [show ((0 : Nat) : Int) = 0 from rfl, List.drop_zero] at h1
 simp only [Qb4, Option.bind_some, h1]
 rw [Qmi N _ h.Stairs n 0 hp.st (by omega) n0 (Int.le_refl _) (by omega) (by omega), Int.zero_add]
theorem Qtz (N : Nat) (d : GDay) (i : Nat) (h : GHour) (k : Int → Option Int) (hi : d.Hours[i]? = some h) (hp : HourP h) : ∀ (n j : Nat) (a y : Int), (h.Stairs.drop j).length < n → 0 ≤ y → y ≤ 10000000000 → 0 ≤ a → a + 1000000000000 * (h.Stairs.drop j).length ≤ 1000000000000000 → Qds N d i k n a y j = k (a + Qf3 (h.Stairs.drop j) y) := by
 have hf := hp.few
 intro n
 induction n with
 | zero => intro j _ _ h; exact absurd h (Nat.not_lt_zero _)
 | succ n ih =>
  intro j a y hn y0 y1 a0 hb
  rw [Qds, Qcw hi, Option.bind_some]
  cases hd : h.Stairs.drop j with
  | nil =>
   have := Qe4 hd
   simp [show ¬ ((j : Int) < h.Stairs.length) from by omega, Qf3]
  | cons b l =>
   obtain ⟨hg, hd', hlt⟩ := Qee hd
   have hb' := hp.st b (List.mem_of_getElem? hg)
   rw [hd] at hb hn
   simp only [List.length_cons] at hb hn
   have h3 := mulB (x := min y b.Amount) (p := b.Price) (by omega) (by omega) (by omega) (by omega)
   have e1 : w64 ((j : Int) + 1) = ((j + 1 : Nat) : Int) := Qbr (by omega) (by omega)
   have e2 : (if b.Amount < y then b.Amount else y) = min y b.Amount := by split <;> omega
   have e3 : w64 (y - min y b.Amount) = y - min y b.Amount := Qbr (by omega) (by omega)
   have e4 : w64 (min y b.Amount * b.Price) = min y b.Amount * b.Price := Qbr (by omega) (by omega)
   have e5 : w64 (a + min y b.Amount * b.Price) = a + min y b.Amount * b.Price := Qbr (by omega) (by omega)
   simp only [show decide ((j : Int) < h.Stairs.length) = true from by simpa using hlt, cond_true, Qcw hg, Option.bind_some, e1, e2, e3, e4, e5]
   rw [ih (j + 1) _ _ (by rw [hd']; omega) (by omega) (by omega) (by omega) (by rw [hd']; omega), hd', Qf3, Int.add_assoc]
def totC : List GHour → List Int → Int
 | h :: hs, x :: xs => Qf3 h.Stairs x + totC hs xs
 | _, _ => 0
theorem Qxs {N : Nat} {d : GDay} {p : List Int} (hN : 2000 ≤ N) (hd : dayB d = true) (hl : p.length = d.Hours.length) : ∀ (n i : Nat) (a : Int), (d.Hours.drop i).length < n → fits (d.Hours.drop i) (p.drop i) → 0 ≤ a → a ≤ 6000000000000 * i → i ≤ 24 →
  Qfk N d p (fun y7 => some (y7, 0)) n a i = some (a + totC (d.Hours.drop i) (p.drop i), 0) ∧ Qda N d p (fun y1 => some y1) n a i = some (a + totC (d.Hours.drop i) (p.drop i)) := by
 obtain ⟨_, _, h1, h2⟩ := Qjn hd
 intro n
 induction n with
 | zero => intro i _ h; exact absurd h (Nat.not_lt_zero _)
 | succ n ih =>
  intro i a h hfit a0 a1 hi
  rw [Qfk, Qda]
  cases hdr : d.Hours.drop i with
  | nil =>
   have := Qe4 hdr
   simp [hl, show ¬ ((i : Int) < d.Hours.length) from by omega, totC]
  | cons b l =>
   obtain ⟨hg, hd', hlt⟩ := Qee hdr
   obtain ⟨x, xs, hpr⟩ : ∃ x xs, p.drop i = x :: xs := by
    cases hpd : p.drop i with
    | nil => have := Qe4 hpd; omega
    | cons x xs => exact ⟨x, xs, rfl⟩
   obtain ⟨hx, hp', _⟩ := Qee hpr
   have hp := Qic hd (List.mem_of_getElem? hg)
   have hw := Qli hp.st
   have hf := hp.few
   rw [hdr, hpr] at hfit
   obtain ⟨x0, x1, hfit'⟩ := hfit
   have hc := Qq6 hp.st x0
   have e1 : w64 ((i : Int) + 1) = ((i + 1 : Nat) : Int) := Qbr (by omega) (by omega)
   have e2 : w64 (a + Qf3 b.Stairs x) = a + Qf3 b.Stairs x := Qbr (by omega) (by omega)
   obtain ⟨i1, i2⟩ := ih (i + 1) (a + Qf3 b.Stairs x) (by rw [hd']; rw [hdr] at h; simp at h; omega) (by rw [hd', hp']; exact hfit') (by omega) (by omega) (by omega)
   rw [hd', hp'] at i1 i2
   have hr := Qtz N d i b (fun y9 => Qda N d p (fun y1 => some y1) n y9 ((i + 1 : Nat) : Int)) hg hp N 0 a x (by simp; omega) x0 (by omega) a0 (by simp; omega)
   rw [show ((0 : Nat) : Int) = 0 from rfl, List.drop_zero] at hr
   rw [hpr]
   simp only [show decide ((i : Int) < d.Hours.length) = true from by simpa using hlt, show decide ((i : Int) < p.length) = true from by simp; omega, cond_true, Qcw hg, Qcw hx, Option.bind_some, Qsr hN hp x0 (show x ≤ 10000000000 by omega), e1, e2, Qb4, totC]
   constructor
   ·rw [i1, Int.add_assoc]
   ·rw [hr, i2, Int.add_assoc]
end Go.Proofs.Ytgdepcgbjjgnfaa
