/-
  Plain: whether a day is valid, the first hour that is short, and the cost of a plan, are as the document says. No conditions.
-/
import Derived.Test.YtgdepcgbjjgnfaaX18
import Derived.Test.YtgdepcgbjjgnfaaPDay
namespace Go.Proofs.Ytgdepcgbjjgnfaa
open Go.RowKit
theorem Qou {d : GDay} (h : dayB d = true) {x : GHour} (hx : x ∈ d.Hours) : HourP x := by
 simp only [dayB, Bool.and_eq_true] at h
 exact Qsm (List.all_eq_true.1 h.2 x hx)
theorem Qss {d : GDay} (h : dayB d = true) : (0 ≤ d.Tank ∧ d.Tank ≤ 1000000000) ∧ (0 ≤ d.Start ∧ d.Start ≤ d.Tank) ∧ 1 ≤ d.Hours.length ∧ d.Hours.length ≤ 24 := by
 simp only [dayB, Bool.and_eq_true, Qkq] at h
 omega
theorem natBeq (a b : Nat) : ((a : Int) == (b : Int)) = decide (a = b) := by
 by_cases h : a = b
 ·subst h; simp
 ·rw [decide_eq_false h]
  exact beq_eq_false_iff_ne.2 (by omega)
def Qia : List GStair → Int → Int
 | [], _ => 0
 | s :: l, n => min n s.Amount * s.Price + Qia l (n - min n s.Amount)
theorem mulB {x p : Int} (x0 : 0 ≤ x) (x1 : x ≤ 1000000000) (p0 : 0 ≤ p) (p1 : p ≤ 1000) : 0 ≤ x * p ∧ x * p ≤ 1000000000000 :=
 ⟨Int.mul_nonneg x0 p0, Int.le_trans (Int.mul_le_mul_of_nonneg_left p1 x0) (by omega)⟩
theorem Qwl : ∀ {l : List GStair} {n : Int}, (∀ s ∈ l, 1 ≤ s.Amount ∧ s.Amount ≤ 1000000000 ∧ 0 ≤ s.Price ∧ s.Price ≤ 1000) → 0 ≤ n → 0 ≤ Qia l n ∧ Qia l n ≤ 1000000000000 * l.length
 | [], _, _, _ => by simp [Qia]
 | s :: l, n, h, h0 => by
  have h1 := h s (by simp)
  have h2 := Qwl (l := l) (n := n - min n s.Amount) (fun x hx => h x (List.mem_cons_of_mem _ hx)) (by omega)
  have h3 := mulB (x := min n s.Amount) (p := s.Price) (by omega) (by omega) (by omega) (by omega)
  rw [Qia]
  simp only [List.length_cons]
  omega
def Qi8 : List GStair → Int → List (GStair × Int)
 | [], _ => []
 | s :: l, n => (s, min n s.Amount) :: Qi8 l (n - min n s.Amount)
theorem Qmw (N : Nat) (t : List GStair) (ht : t.length ≤ 1000) (hs : ∀ s ∈ t, 1 ≤ s.Amount ∧ s.Amount ≤ 1000000000 ∧ 0 ≤ s.Price ∧ s.Price ≤ 1000) : ∀ (n i : Nat) (y : Int), (t.drop i).length < n → 0 ≤ y → y ≤ 10000000000 → Qb9 N t n i y = some (Qi8 (t.drop i) y) := by
 intro n
 induction n with
 | zero => intro i _ h; exact absurd h (Nat.not_lt_zero _)
 | succ n ih =>
  intro i y h y0 y1
  rw [Qb9]
  cases hd : t.drop i with
  | nil =>
   have := Qfv hd
   simp [show ¬ ((i : Int) < t.length) from by omega, Qi8]
  | cons b l =>
   obtain ⟨hg, hd', hlt⟩ := Qfa hd
   have hb := hs b (List.mem_of_getElem? hg)
   have e1 : w64 ((i : Int) + 1) = ((i + 1 : Nat) : Int) := Qc3 (by omega) (by omega)
   have e2 : (if b.Amount < y then b.Amount else y) = min y b.Amount := by split <;> omega
   have e3 : w64 (y - min y b.Amount) = y - min y b.Amount := Qc3 (by omega) (by omega)
   simp only [show decide ((i : Int) < t.length) = true from by simpa using hlt, cond_true, Qd2 hg, Option.bind_some, e1, e2, e3, Qi8]
   rw [ih (i + 1) _ (by rw [hd']; rw [hd] at h; simp at h; omega) (by omega) (by omega), hd']
   rfl
theorem Ql9 (N : Nat) (k : Int → Option Int) : ∀ (l : List GStair) (n a : Int), (∀ s ∈ l, 1 ≤ s.Amount ∧ s.Amount ≤ 1000000000 ∧ 0 ≤ s.Price ∧ s.Price ≤ 1000) → l.length ≤ 10 → 0 ≤ n → 0 ≤ a → a ≤ 1000000000000000 → a + 1000000000000 * l.length ≤ 1000000000000000 → Qb4 N k (Qi8 l n) a = k (a + Qia l n)
 | [], _, _, _, _, _, _, _, _ => by simp [Qi8, Qb4, Qia]
 | s :: l, n, a, h, hl, n0, a0, a1, hb => by
  have h1 := h s (by simp)
  have h3 := mulB (x := min n s.Amount) (p := s.Price) (by omega) (by omega) (by omega) (by omega)
  simp only [List.length_cons] at hl hb
  rw [Qi8, Qb4]
  dsimp only
  rw [Int.mul_comm s.Price, Qc3 (show -9223372036854775808 ≤ min n s.Amount * s.Price by omega) (by omega), Qc3 (by omega) (by omega), Ql9 N k l _ _ (fun x hx => h x (List.mem_cons_of_mem _ hx)) (by omega) (by omega) (by omega) (by omega) (by omega), Qia, Int.add_assoc]
theorem Qyy {N : Nat} {h : GHour} {n : Int} (hN : 2000 ≤ N) (hp : HourP h) (n0 : 0 ≤ n) (n1 : n ≤ 10000000000) : Qe7 N h n = some (Qia h.Stairs n) := by
 have hf := hp.few
 unfold Qe7 Qdt Qds
 have h1 := Qmw N h.Stairs (by omega) hp.st N 0 n (by simp; omega) n0 n1
 rw [show ((0 : Nat) : Int) = 0 from rfl, List.drop_zero] at h1
 simp only [Qcl, Option.bind_some, h1]
 rw [Ql9 N _ h.Stairs n 0 hp.st (by omega) n0 (Int.le_refl _) (by omega) (by omega), Int.zero_add]
end Go.Proofs.Ytgdepcgbjjgnfaa
