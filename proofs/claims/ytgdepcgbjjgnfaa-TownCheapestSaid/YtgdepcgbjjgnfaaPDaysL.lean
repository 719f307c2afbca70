/-
  Plain: whether a day is valid, the first hour that is short, and the cost of a plan, are as the document says. No conditions.
-/
import Derived.Test.YtgdepcgbjjgnfaaX18
import Derived.Test.YtgdepcgbjjgnfaaPDay
namespace Go.Proofs.Ytgdepcgbjjgnfaa
open Go.RowKit
theorem Qla {d : GDay} (h : dayB d = true) {x : GHour} (hx : x ∈ d.Hours) : HourP x := by
 simp only [dayB, Bool.and_eq_true] at h
 exact hourP_of (List.all_eq_true.1 h.2 x hx)
theorem Qke {d : GDay} (h : dayB d = true) : (0 ≤ d.Tank ∧ d.Tank ≤ 1000000000) ∧ (0 ≤ d.Start ∧ d.Start ≤ d.Tank) ∧ 1 ≤ d.Hours.length ∧ d.Hours.length ≤ 24 := by
 simp only [dayB, Bool.and_eq_true, Qhg] at h
 omega
def fits : List GHour → List Int → Prop
 | h :: hs, x :: xs => 0 ≤ x ∧ x ≤ Qch h.Stairs ∧ fits hs xs
 | _, _ => True
theorem Qtz (a b : Nat) : ((a : Int) == (b : Int)) = decide (a = b) := by
 by_cases h : a = b
 ·subst h; simp
 ·rw [decide_eq_false h]
  exact beq_eq_false_iff_ne.2 (by omega)
def Qez : List GStair → Int → Int
 | [], _ => 0
 | s :: l, n => min n s.Amount * s.Price + Qez l (n - min n s.Amount)
theorem mulB {x p : Int} (x0 : 0 ≤ x) (x1 : x ≤ 1000000000) (p0 : 0 ≤ p) (p1 : p ≤ 1000) : 0 ≤ x * p ∧ x * p ≤ 1000000000000 :=
 ⟨Int.mul_nonneg x0 p0, Int.le_trans (Int.mul_le_mul_of_nonneg_left p1 x0) (by omega)⟩
theorem Qsn : ∀ {l : List GStair} {n : Int}, (∀ s ∈ l, 1 ≤ s.Amount ∧ s.Amount ≤ 1000000000 ∧ 0 ≤ s.Price ∧ s.Price ≤ 1000) → 0 ≤ n → 0 ≤ Qez l n ∧ Qez l n ≤ 1000000000000 * l.length
 | [], _, _, _ => by simp [Qez]
 | s :: l, n, h, h0 => by
  have h1 := h s (by simp)
  have h2 := Qsn (l := l) (n := n - min n s.Amount) (fun x hx => h x (List.mem_cons_of_mem _ hx)) (by omega)
  have h3 := mulB (x := min n s.Amount) (p := s.Price) (by omega) (by omega) (by omega) (by omega)
  rw [Qez]
  simp only [List.length_cons]
  omega
def Qie : List GStair → Int → List (GStair × Int)
 | [], _ => []
 | s :: l, n => (s, min n s.Amount) :: Qie l (n - min n s.Amount)
theorem Qls (N : Nat) (t : List GStair) (ht : t.length ≤ 1000) (hs : ∀ s ∈ t, 1 ≤ s.Amount ∧ s.Amount ≤ 1000000000 ∧ 0 ≤ s.Price ∧ s.Price ≤ 1000) : ∀ (n i : Nat) (y : Int), (t.drop i).length < n → 0 ≤ y → y ≤ 10000000000 → Qcj N t n i y = some (Qie (t.drop i) y) := by
 intro n
 induction n with
 | zero => intro i _ h; exact absurd h (Nat.not_lt_zero _)
 | succ n ih =>
  intro i y h y0 y1
  rw [Qcj]
  cases hd : t.drop i with
  | nil =>
   have := Qfv hd
   simp [show ¬ ((i : Int) < t.length) from by omega, Qie]
  | cons b l =>
   obtain ⟨hg, hd', hlt⟩ := Qet hd
   have hb := hs b (List.mem_of_getElem? hg)
   have e1 : w64 ((i : Int) + 1) = ((i + 1 : Nat) : Int) := Qci (by omega) (by omega)
   have e2 : (if b.Amount < y then b.Amount else y) = min y b.Amount := by split <;> omega
   have e3 : w64 (y - min y b.Amount) = y - min y b.Amount := Qci (by omega) (by omega)
   simp only [show decide ((i : Int) < t.length) = true from by simpa using hlt, cond_true, Qcu hg, Option.bind_some, e1, e2, e3, Qie]
   rw [ih (i + 1) _ (by rw [hd']; rw [hd] at h; simp at h; omega) (by omega) (by omega), hd']
   rfl
theorem Qns (N : Nat) (k : Int → Option Int) : ∀ (l : List GStair) (n a : Int), (∀ s ∈ l, 1 ≤ s.Amount ∧ s.Amount ≤ 1000000000 ∧ 0 ≤ s.Price ∧ s.Price ≤ 1000) → l.length ≤ 10 → 0 ≤ n → 0 ≤ a → a ≤ 1000000000000000 → a + 1000000000000 * l.length ≤ 1000000000000000 → Qcb N k (Qie l n) a = k (a + Qez l n)
 | [], _, _, _, _, _, _, _, _ => by simp [Qie, Qcb, Qez]
 | s :: l, n, a, h, hl, n0, a0, a1, hb => by
  have h1 := h s (by simp)
  have h3 := mulB (x := min n s.Amount) (p := s.Price) (by omega) (by omega) (by omega) (by omega)
  simp only [List.length_cons] at hl hb
  rw [Qie, Qcb]
  dsimp only
  rw [Int.mul_comm s.Price, Qci (show -9223372036854775808 ≤ min n s.Amount * s.Price by omega) (by omega), Qci (by omega) (by omega), Qns N k l _ _ (fun x hx => h x (List.mem_cons_of_mem _ hx)) (by omega) (by omega) (by omega) (by omega) (by omega), Qez, Int.add_assoc]
theorem Qud {N : Nat} {h : GHour} {n : Int} (hN : 2000 ≤ N) (hp : HourP h) (n0 : 0 ≤ n) (n1 : n ≤ 10000000000) : Qe4 N h n = some (Qez h.Stairs n) := by
 have hf := hp.few
 unfold Qe4 Qdb Qda
 have h1 := Qls N h.Stairs (by omega) hp.st N 0 n (by simp; omega) n0 n1
 rw [show ((0 : Nat) : Int) = 0 from rfl, List.drop_zero] at h1
 simp only [Qbw, Option.bind_some, h1]
 rw [Qns N _ h.Stairs n 0 hp.st (by omega) n0 (Int.le_refl _) (by omega) (by omega), Int.zero_add]
theorem Qvm (N : Nat) (d : GDay) (i : Nat) (h : GHour) (k : Int → Option Int) (hi : d.Hours[i]? = some h) (hp : HourP h) : ∀ (n j : Nat) (a y : Int), (h.Stairs.drop j).length < n → 0 ≤ y → y ≤ 10000000000 → 0 ≤ a → a + 1000000000000 * (h.Stairs.drop j).length ≤ 1000000000000000 → Qf5 N d i k n a y j = k (a + Qez (h.Stairs.drop j) y) := by
 have hf := hp.few
 intro n
 induction n with
 | zero => intro j _ _ h; exact absurd h (Nat.not_lt_zero _)
 | succ n ih =>
  intro j a y hn y0 y1 a0 hb
  rw [Qf5, Qcu hi, Option.bind_some]
  cases hd : h.Stairs.drop j with
  | nil =>
   have := Qfv hd
   simp [show ¬ ((j : Int) < h.Stairs.length) from by omega, Qez]
  | cons b l =>
   obtain ⟨hg, hd', hlt⟩ := Qet hd
   have hb' := hp.st b (List.mem_of_getElem? hg)
   rw [hd] at hb hn
   simp only [List.length_cons] at hb hn
   have h3 := mulB (x := min y b.Amount) (p := b.Price) (by omega) (by omega) (by omega) (by omega)
   have e1 : w64 ((j : Int) + 1) = ((j + 1 : Nat) : Int) := Qci (by omega) (by omega)
   have e2 : (if b.Amount < y then b.Amount else y) = min y b.Amount := by split <;> omega
   have e3 : w64 (y - min y b.Amount) = y - min y b.Amount := Qci (by omega) (by omega)
   have e4 : w64 (min y b.Amount * b.Price) = min y b.Amount * b.Price := Qci (by omega) (by omega)
   have e5 : w64 (a + min y b.Amount * b.Price) = a + min y b.Amount * b.Price := Qci (by omega) (by omega)
   simp only [show decide ((j : Int) < h.Stairs.length) = true from by simpa using hlt, cond_true, Qcu hg, Option.bind_some, e1, e2, e3, e4, e5]
   rw [ih (j + 1) _ _ (by rw [hd']; omega) (by omega) (by omega) (by omega) (by rw [hd']; omega), hd', Qez, Int.add_assoc]
def totC : List GHour → List Int → Int
 | h :: hs, x :: xs => Qez h.Stairs x + totC hs xs
 | _, _ => 0
theorem tot_loop {N : Nat} {d : GDay} {p : List Int} (hN : 2000 ≤ N) (hd : dayB d = true) (hl : p.length = d.Hours.length) : ∀ (n i : Nat) (a : Int), (d.Hours.drop i).length < n → fits (d.Hours.drop i) (p.drop i) → 0 ≤ a → a ≤ 6000000000000 * i → i ≤ 24 →
  Qd9 N d p (fun y7 => some (y7, 0)) n a i = some (a + totC (d.Hours.drop i) (p.drop i), 0) ∧ Qe9 N d p (fun y1 => some y1) n a i = some (a + totC (d.Hours.drop i) (p.drop i)) := by
 obtain ⟨_, _, h1, h2⟩ := Qke hd
 intro n
 induction n with
 | zero => intro i _ h; exact absurd h (Nat.not_lt_zero _)
 | succ n ih =>
  intro i a h hfit a0 a1 hi
  rw [Qd9, Qe9]
  cases hdr : d.Hours.drop i with
  | nil =>
   have := Qfv hdr
   simp [hl, show ¬ ((i : Int) < d.Hours.length) from by omega, totC]
  | cons b l =>
   obtain ⟨hg, hd', hlt⟩ := Qet hdr
   obtain ⟨x, xs, hpr⟩ : ∃ x xs, p.drop i = x :: xs := by
    cases hpd : p.drop i with
    | nil => have := Qfv hpd; omega
    | cons x xs => exact ⟨x, xs, rfl⟩
   obtain ⟨hx, hp', _⟩ := Qet hpr
   have hp := Qla hd (List.mem_of_getElem? hg)
   have hw := Qpf hp.st
   have hf := hp.few
   rw [hdr, hpr] at hfit
   obtain ⟨x0, x1, hfit'⟩ := hfit
   have hc := Qsn hp.st x0
   have e1 : w64 ((i : Int) + 1) = ((i + 1 : Nat) : Int) := Qci (by omega) (by omega)
   have e2 : w64 (a + Qez b.Stairs x) = a + Qez b.Stairs x := Qci (by omega) (by omega)
   obtain ⟨i1, i2⟩ := ih (i + 1) (a + Qez b.Stairs x) (by rw [hd']; rw [hdr] at h; simp at h; omega) (by rw [hd', hp']; exact hfit') (by omega) (by omega) (by omega)
   rw [hd', hp'] at i1 i2
   have hr := Qvm N d i b (fun y9 => Qe9 N d p (fun y1 => some y1) n y9 ((i + 1 : Nat) : Int)) hg hp N 0 a x (by simp; omega) x0 (by omega) a0 (by simp; omega)
   rw [show ((0 : Nat) : Int) = 0 from rfl, List.drop_zero] at hr
   rw [hpr]
   simp only [show decide ((i : Int) < d.Hours.length) = true from by simpa using hlt, show decide ((i : Int) < p.length) = true from by simp; omega, cond_true, Qcu hg, Qcu hx, Option.bind_some, Qud hN hp x0 (show x ≤ 10000000000 by omega), e1, e2, Qbw, totC]
   constructor
   ·rw [i1, Int.add_assoc]
   ·rw [hr, i2, Int.add_assoc]
end Go.Proofs.Ytgdepcgbjjgnfaa
