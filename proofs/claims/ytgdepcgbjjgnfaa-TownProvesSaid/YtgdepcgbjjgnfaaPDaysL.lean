/-
  Plain: whether a day is valid, the first hour that is short, and the cost of a plan, are as the document says. No conditions.
-/
import Derived.Test.YtgdepcgbjjgnfaaX18
import Derived.Test.YtgdepcgbjjgnfaaPDay
namespace Go.Proofs.Ytgdepcgbjjgnfaa
open Go.RowKit
theorem Qly {d : GDay} (h : dayB d = true) {x : GHour} (hx : x ∈ d.Hours) : HourP x := by
 simp only [dayB, Bool.and_eq_true] at h
 exact hourP_of (List.all_eq_true.1 h.2 x hx)
theorem Qm0 {d : GDay} (h : dayB d = true) : (0 ≤ d.Tank ∧ d.Tank ≤ 1000000000) ∧ (0 ≤ d.Start ∧ d.Start ≤ d.Tank) ∧ 1 ≤ d.Hours.length ∧ d.Hours.length ≤ 24 := by
 simp only [dayB, Bool.and_eq_true, Qht] at h
 omega
theorem Qpi (a b : Nat) : ((a : Int) == (b : Int)) = decide (a = b) := by
 by_cases h : a = b
 ·subst h; simp
 ·rw [decide_eq_false h]
  exact beq_eq_false_iff_ne.2 (by omega)
def Qjl : List GStair → Int → Int
 | [], _ => 0
 | s :: l, n => min n s.Amount * s.Price + Qjl l (n - min n s.Amount)
theorem mulB {x p : Int} (x0 : 0 ≤ x) (x1 : x ≤ 1000000000) (p0 : 0 ≤ p) (p1 : p ≤ 1000) : 0 ≤ x * p ∧ x * p ≤ 1000000000000 :=
 ⟨Int.mul_nonneg x0 p0, Int.le_trans (Int.mul_le_mul_of_nonneg_left p1 x0) (by omega)⟩
theorem cost_bd : ∀ {l : List GStair} {n : Int}, (∀ s ∈ l, 1 ≤ s.Amount ∧ s.Amount ≤ 1000000000 ∧ 0 ≤ s.Price ∧ s.Price ≤ 1000) → 0 ≤ n → 0 ≤ Qjl l n ∧ Qjl l n ≤ 1000000000000 * l.length
 | [], _, _, _ => by simp [Qjl]
 | s :: l, n, h, h0 => by
  have h1 := h s (by simp)
  have h2 := cost_bd (l := l) (n := n - min n s.Amount) (fun x hx => h x (List.mem_cons_of_mem _ hx)) (by omega)
  have h3 := mulB (x := min n s.Amount) (p := s.Price) (by omega) (by omega) (by omega) (by omega)
  rw [Qjl]
  simp only [List.length_cons]
  omega
def Qiw : List GStair → Int → List (GStair × Int)
 | [], _ => []
 | s :: l, n => (s, min n s.Amount) :: Qiw l (n - min n s.Amount)
theorem Qmf (N : Nat) (t : List GStair) (ht : t.length ≤ 1000) (hs : ∀ s ∈ t, 1 ≤ s.Amount ∧ s.Amount ≤ 1000000000 ∧ 0 ≤ s.Price ∧ s.Price ≤ 1000) : ∀ (n i : Nat) (y : Int), (t.drop i).length < n → 0 ≤ y → y ≤ 10000000000 → Qcp N t n i y = some (Qiw (t.drop i) y) := by
 intro n
 induction n with
 | zero => intro i _ h; exact absurd h (Nat.not_lt_zero _)
 | succ n ih =>
  intro i y h y0 y1
  rw [Qcp]
  cases hd : t.drop i with
  | nil =>
   have := Qgh hd
   simp [show ¬ ((i : Int) < t.length) from by omega, Qiw]
  | cons b l =>
   obtain ⟨hg, hd', hlt⟩ := Qft hd
   have hb := hs b (List.mem_of_getElem? hg)
   have e1 : w64 ((i : Int) + 1) = ((i + 1 : Nat) : Int) := Qco (by omega) (by omega)
   have e2 : (if b.Amount < y then b.Amount else y) = min y b.Amount := by split <;> omega
   have e3 : w64 (y - min y b.Amount) = y - min y b.Amount := Qco (by omega) (by omega)
   simp only [show decide ((i : Int) < t.length) = true from by simpa using hlt, cond_true, Qcs hg, Option.bind_some, e1, e2, e3, Qiw]
   rw [ih (i + 1) _ (by rw [hd']; rw [hd] at h; simp at h; omega) (by omega) (by omega), hd']
   rfl
theorem Qoo (N : Nat) (k : Int → Option Int) : ∀ (l : List GStair) (n a : Int), (∀ s ∈ l, 1 ≤ s.Amount ∧ s.Amount ≤ 1000000000 ∧ 0 ≤ s.Price ∧ s.Price ≤ 1000) → l.length ≤ 10 → 0 ≤ n → 0 ≤ a → a ≤ 1000000000000000 → a + 1000000000000 * l.length ≤ 1000000000000000 → Qci N k (Qiw l n) a = k (a + Qjl l n)
 | [], _, _, _, _, _, _, _, _ => by simp [Qiw, Qci, Qjl]
 | s :: l, n, a, h, hl, n0, a0, a1, hb => by
  have h1 := h s (by simp)
  have h3 := mulB (x := min n s.Amount) (p := s.Price) (by omega) (by omega) (by omega) (by omega)
  simp only [List.length_cons] at hl hb
  rw [Qiw, Qci]
  dsimp only
  rw [Int.mul_comm s.Price, Qco (show -9223372036854775808 ≤ min n s.Amount * s.Price by omega) (by omega), Qco (by omega) (by omega), Qoo N k l _ _ (fun x hx => h x (List.mem_cons_of_mem _ hx)) (by omega) (by omega) (by omega) (by omega) (by omega), Qjl, Int.add_assoc]
theorem costP_eq {N : Nat} {h : GHour} {n : Int} (hN : 2000 ≤ N) (hp : HourP h) (n0 : 0 ≤ n) (n1 : n ≤ 10000000000) : Qfc N h n = some (Qjl h.Stairs n) := by
 have hf := hp.few
 unfold Qfc Qde Qdd
 have h1 := Qmf N h.Stairs (by omega) hp.st N 0 n (by simp; omega) n0 n1
 rw [show ((0 : Nat) : Int) = 0 from rfl, List.drop_zero] at h1
 simp only [Qbr, Option.bind_some, h1]
 rw [Qoo N _ h.Stairs n 0 hp.st (by omega) n0 (Int.le_refl _) (by omega) (by omega), Int.zero_add]
end Go.Proofs.Ytgdepcgbjjgnfaa
