/-
  Plain: the ranges of meters, valid meters, copies of meters. No conditions.
-/
import Derived.Test.YtgdepcgbjjgnfaaX22
import Derived.Test.YtgdepcgbjjgnfaaPFlow
namespace Go.Proofs.Ytgdepcgbjjgnfaa
open Go.RowKit

theorem w64_w64 (x : Int) : w64 (w64 x) = w64 x := by
  unfold w64
  simp only [IntKind.wrap_i64]
  omega
theorem Qfm (a b : Int) : w64 (w64 a + b) = w64 (a + b) := by
  unfold w64
  simp only [IntKind.wrap_i64]
  omega
theorem Qem {α : Type} {l : List α} {i : Nat} (d : α) (h : i < l.length) : getI l (i : Int) = some (l.getD i d) := by
  rw [Qg1 (List.getElem?_eq_getElem h), List.getD_eq_getElem?_getD, List.getElem?_eq_getElem h, Option.getD_some]
def thr (m : GMeter) : GRange := ⟨(1000 * m.Reading + (1000 + m.Off) - 1).tdiv (1000 + m.Off), (1000 * m.Reading).tdiv (1000 - m.Off)⟩
def Qfo (m : GMeter) : Bool := btw m.Reading 0 1000000000 && btw m.Off 0 500
theorem meter_iff {m : GMeter} : Qfo m = true ↔ (0 ≤ m.Reading ∧ m.Reading ≤ 1000000000) ∧ (0 ≤ m.Off ∧ m.Off ≤ 500) := by
  simp [Qfo, Qjd]
theorem ediv_is {a b q r : Int} (h : a = r + b * q) (h0 : 0 ≤ r) (h1 : r < b) : a / b = q := by
  rw [h, Int.add_mul_ediv_left _ _ (by omega), Int.ediv_eq_zero_of_lt h0 h1, Int.zero_add]
theorem tdiv_bd {a b : Int} (ha : 0 ≤ a) (hb : 0 < b) : 0 ≤ a.tdiv b ∧ a.tdiv b ≤ a := by
  rw [Int.tdiv_eq_ediv_of_nonneg ha]
  exact ⟨Int.ediv_nonneg ha (by omega), Int.ediv_le_self _ ha⟩
theorem thr_bd {m : GMeter} (h : Qfo m = true) : (0 ≤ (thr m).Lo ∧ (thr m).Lo ≤ 2000000000000) ∧ 0 ≤ (thr m).Hi ∧ (thr m).Hi ≤ 2000000000000 := by
  obtain ⟨⟨h1, h2⟩, h3, h4⟩ := meter_iff.1 h
  have a1 := tdiv_bd (a := 1000 * m.Reading + (1000 + m.Off) - 1) (b := 1000 + m.Off) (by omega) (by omega)
  have a2 := tdiv_bd (a := 1000 * m.Reading) (b := 1000 - m.Off) (by omega) (by omega)
  unfold thr
  dsimp only
  omega
theorem Qh8 {N : Nat} {m : GMeter} (h : Qfo m = true) : Qcw N m = some (thr m) := by
  obtain ⟨⟨h1, h2⟩, h3, h4⟩ := meter_iff.1 h
  obtain ⟨⟨b1, b2⟩, b3, b4⟩ := thr_bd h
  unfold thr at b1 b2 b3 b4
  dsimp only at b1 b2 b3 b4
  unfold Qcw thr
  rw [Qeh (x := 1000 * m.Reading) (by omega) (by omega), Qeh (x := 1000 + m.Off) (by omega) (by omega), Qeh (x := 1000 - m.Off) (by omega) (by omega), Qeh (x := 1000 * m.Reading + (1000 + m.Off)) (by omega) (by omega), Qeh (x := 1000 * m.Reading + (1000 + m.Off) - 1) (by omega) (by omega)]
  simp only [Option.bind_some, chk]
  rw [Qeh (by omega) (by omega), Qeh (by omega) (by omega), bne_iff_ne.2 (show (1000 + m.Off) ≠ 0 by omega), bne_iff_ne.2 (show (1000 - m.Off) ≠ 0 by omega)]
  rfl
theorem Qg6 {N : Nat} {m : GMeter} (h : Qfo m = true) : Qea N m = some (thr m) := by
  obtain ⟨⟨h1, h2⟩, h3, h4⟩ := meter_iff.1 h
  obtain ⟨⟨b1, b2⟩, b3, b4⟩ := thr_bd h
  unfold thr at b1 b2 b3 b4
  dsimp only at b1 b2 b3 b4
  unfold Qea thr
  rw [Qeh (x := 1000 * m.Reading) (by omega) (by omega), Qeh (x := 1000 + m.Off) (by omega) (by omega), Qeh (x := 1000 - m.Off) (by omega) (by omega)]
  simp only [Option.bind_some, chk, Qca]
  have ht := tdiv_bd (a := 1000 * m.Reading) (b := 1000 + m.Off) (by omega) (by omega)
  rw [Qeh (x := (1000 * m.Reading).tdiv (1000 + m.Off)) (by omega) (by omega), Qeh (x := (1000 * m.Reading).tdiv (1000 - m.Off)) (by omega) (by omega), bne_iff_ne.2 (show (1000 + m.Off) ≠ 0 by omega), bne_iff_ne.2 (show (1000 - m.Off) ≠ 0 by omega)]
  rw [Int.tdiv_eq_ediv_of_nonneg (show 0 ≤ 1000 * m.Reading + (1000 + m.Off) - 1 by omega), Int.tdiv_eq_ediv_of_nonneg (b := 1000 + m.Off) (show 0 ≤ 1000 * m.Reading by omega)]
  rw [Int.tdiv_eq_ediv_of_nonneg (b := 1000 + m.Off) (show 0 ≤ 1000 * m.Reading by omega)] at ht
  generalize (1000 * m.Reading).tdiv (1000 - m.Off) = z
  generalize hb : 1000 + m.Off = b at *
  generalize ha : 1000 * m.Reading = a at *
  have e1 := Int.emod_add_mul_ediv a b
  have e2 := Int.emod_nonneg a (show b ≠ 0 by omega)
  have e3 := Int.emod_lt_of_pos a (show 0 < b by omega)
  have e4 : a / b * b = b * (a / b) := Int.mul_comm ..
  simp only [cond_true]
  rw [e4]
  rw [Qeh (x := b * (a / b)) (by omega) (by omega)]
  by_cases hc : b * (a / b) < a
  · have : (a + b - 1) / b = a / b + 1 := ediv_is (r := a % b - 1) (by rw [Int.mul_add]; omega) (by omega) (by omega)
    rw [show decide (b * (a / b) < a) = true from decide_eq_true hc, cond_true, Qeh (by omega) (by omega), this]
  · have : (a + b - 1) / b = a / b := ediv_is (r := b - 1) (by omega) (by omega) (by omega)
    rw [show decide (b * (a / b) < a) = false from decide_eq_false hc, cond_false, this]
theorem rightP_eq (N : Nat) (m : GMeter) : Qdr N m = some (Qfo m) := by
  unfold Qdr Qfo
  rw [use_eq, Qii]
  cases btw m.Reading 0 1000000000 <;> rfl
theorem rightR_eq (N : Nat) (m : GMeter) : Qdt N m = some (Qfo m) := by
  unfold Qdt Qfo
  rw [in_eq, in_eq]
  cases btw m.Reading 0 1000000000 <;> rfl
theorem ThroughX_eq (N : Nat) (m : GMeter) : Qfa N m = some (if Qfo m then (thr m, 0) else (⟨0, 0⟩, 2)) := by
  unfold Qfa
  rw [rightP_eq, Option.bind_some]
  cases h : Qfo m with
  | false => rfl
  | true => rw [Qh8 h]; rfl

abbrev m0 : GMeter := ⟨0, 0⟩
def useT (ms : GMeters) (i : Nat) : GRange := thr (ms.Use.getD i m0)
def flowT (ms : GMeters) (i : Nat) : GRange := thr (ms.Flow.getD i m0)
def hasT (ms : GMeters) (i : Nat) : Bool := ms.Has.getD i false
def metB (ms : GMeters) : Nat → Nat → Bool
  | 0, _ => true
  | d + 1, i => Qfo (ms.Use.getD i m0) && (!hasT ms i || Qfo (ms.Flow.getD i m0)) && metB ms d (i + 1)
structure SameLen (t : List GNode) (ms : GMeters) : Prop where
  use : ms.Use.length = t.length
  flow : ms.Flow.length = t.length
  has : ms.Has.length = t.length
theorem metB_at {ms : GMeters} : ∀ {d a : Nat}, metB ms d a = true → ∀ i, a ≤ i → i < a + d → Qfo (ms.Use.getD i m0) = true ∧ (hasT ms i = true → Qfo (ms.Flow.getD i m0) = true)
  | 0, a, _, i, h1, h2 => by omega
  | d + 1, a, h, i, h1, h2 => by
    simp only [metB, Bool.and_eq_true, Bool.or_eq_true, Bool.not_eq_true'] at h
    rcases Nat.lt_or_ge a i with hlt | hge
    · exact metB_at h.2 i hlt (by omega)
    · have : i = a := by omega
      subst this
      exact ⟨h.1.1, fun hh => by rcases h.1.2 with h' | h'; · rw [hh] at h'; cases h'
                                 · exact h'⟩
theorem metP_loop (N : Nat) {t : List GNode} {ms : GMeters} (hs : SameLen t ms) (k : Unit → Option ((List GRange) × Int)) (hl : t.length ≤ 1000) : ∀ (n d i : Nat), d < n → i + d = t.length →
    Qcv N t ms k n i = bif metB ms d i then k () else some ([], 2) := by
  obtain ⟨h1, h2, h3⟩ := hs
  intro n
  induction n with
  | zero => intro d i h; omega
  | succ n ih =>
    intro d i h hd
    rw [Qcv]
    cases d with
    | zero => simp [show ¬ ((i : Int) < t.length) from by omega, metB]
    | succ d =>
      have e1 : w64 ((i : Int) + 1) = ((i + 1 : Nat) : Int) := Qeh (by omega) (by omega)
      simp only [show decide ((i : Int) < t.length) = true from by simp; omega, cond_true, Qem m0 (show i < ms.Use.length by omega), Qem m0 (show i < ms.Flow.length by omega), Qem false (show i < ms.Has.length by omega), Option.bind_some, rightP_eq, e1, ih d (i + 1) (by omega) (by omega), metB, hasT]
      cases Qfo (ms.Use.getD i m0) <;> cases ms.Has.getD i false <;> cases Qfo (ms.Flow.getD i m0) <;> simp
theorem metR_loop (N : Nat) {t : List GNode} {ms : GMeters} (hs : SameLen t ms) (k : Unit → Option Bool) (hl : t.length ≤ 1000) : ∀ (n d i : Nat), d < n → i + d = t.length →
    Qbv N t ms k n i = bif metB ms d i then k () else some false := by
  obtain ⟨h1, h2, h3⟩ := hs
  intro n
  induction n with
  | zero => intro d i h; omega
  | succ n ih =>
    intro d i h hd
    rw [Qbv]
    cases d with
    | zero => simp [show ¬ ((i : Int) < t.length) from by omega, metB]
    | succ d =>
      have e1 : w64 ((i : Int) + 1) = ((i + 1 : Nat) : Int) := Qeh (by omega) (by omega)
      simp only [show decide ((i : Int) < t.length) = true from by simp; omega, cond_true, Qem m0 (show i < ms.Use.length by omega), Qem m0 (show i < ms.Flow.length by omega), Qem false (show i < ms.Has.length by omega), Option.bind_some, rightR_eq, e1, ih d (i + 1) (by omega) (by omega), metB, hasT]
      cases Qfo (ms.Use.getD i m0) <;> cases ms.Has.getD i false <;> cases Qfo (ms.Flow.getD i m0) <;> simp
theorem copyM_loop1 (N : Nat) (ms : GMeters) (k : (List GMeter) × (List GMeter) × (List Bool) → Option GMeters) (u : List GMeter) (b : List Bool) (hl : ms.Flow.length ≤ 1000) : ∀ (n i : Nat) (acc : List GMeter), (ms.Flow.drop i).length < n → i ≤ ms.Flow.length → acc.length = i →
    Qcz N ms k n i u acc b = k (u, acc ++ ms.Flow.drop i, b) := by
  intro n
  induction n with
  | zero => intro i _ h; exact absurd h (Nat.not_lt_zero _)
  | succ n ih =>
    intro i acc h hi hacc
    rw [Qcz]
    cases hd : ms.Flow.drop i with
    | nil =>
      have := Qiu hd
      simp [show ¬ ((i : Int) < ms.Flow.length) from by omega]
    | cons x l =>
      obtain ⟨hg, hd', hlt⟩ := Qhn hd
      have e1 : w64 ((i : Int) + 1) = ((i + 1 : Nat) : Int) := Qeh (by omega) (by omega)
      simp only [show decide ((i : Int) < ms.Flow.length) = true from by simpa using hlt, cond_true, Qg1 hg, Option.bind_some, e1]
      rw [ih (i + 1) (acc ++ [x]) (by rw [hd']; rw [hd] at h; simp at h; omega) hlt (by simp [hacc]), hd']
      simp only [chk, show decide ((acc.length + [x].length) * 16 ≤ 140737488355328) = true from by simp; omega, cond_true, List.append_assoc, List.cons_append, List.nil_append]
theorem copyM_loop2 (N : Nat) (ms : GMeters) (k : (List GMeter) × (List Bool) → Option GMeters) (b : List Bool) (hl : ms.Use.length ≤ 1000) : ∀ (n i : Nat) (acc : List GMeter), (ms.Use.drop i).length < n → i ≤ ms.Use.length → acc.length = i →
    Qda N ms k n i acc b = k (acc ++ ms.Use.drop i, b) := by
  intro n
  induction n with
  | zero => intro i _ h; exact absurd h (Nat.not_lt_zero _)
  | succ n ih =>
    intro i acc h hi hacc
    rw [Qda]
    cases hd : ms.Use.drop i with
    | nil =>
      have := Qiu hd
      simp [show ¬ ((i : Int) < ms.Use.length) from by omega]
    | cons x l =>
      obtain ⟨hg, hd', hlt⟩ := Qhn hd
      have e1 : w64 ((i : Int) + 1) = ((i + 1 : Nat) : Int) := Qeh (by omega) (by omega)
      simp only [show decide ((i : Int) < ms.Use.length) = true from by simpa using hlt, cond_true, Qg1 hg, Option.bind_some, e1]
      rw [ih (i + 1) (acc ++ [x]) (by rw [hd']; rw [hd] at h; simp at h; omega) hlt (by simp [hacc]), hd']
      simp only [chk, show decide ((acc.length + [x].length) * 16 ≤ 140737488355328) = true from by simp; omega, cond_true, List.append_assoc, List.cons_append, List.nil_append]
theorem copyM_eq {N : Nat} {ms : GMeters} (h1 : ms.Use.length ≤ 1000) (h2 : ms.Flow.length ≤ 1000) (h3 : ms.Has.length ≤ 1000) (hN : 2000 ≤ N) : Qfc N ms = some ms := by
  unfold Qfc
  simp only [Qca, chk, show decide ((([] : List Bool).length + ms.Has.length) * 1 ≤ 140737488355328) = true from by simp; omega, cond_true]
  have e := copyM_loop2 N ms (fun x => Qcz N ms (fun y => some ⟨y.1, y.2.1, y.2.2⟩) N 0 x.1 [] x.2) ([] ++ ms.Has) h1 N 0 [] (by simp; omega) (by omega) rfl
  have e' := copyM_loop1 N ms (fun y => some ⟨y.1, y.2.1, y.2.2⟩) ms.Use ms.Has h2 N 0 [] (by simp; omega) (by omega) rfl
  rw [show ((0 : Nat) : Int) = 0 from rfl] at e e'
  simp only [List.drop_zero, List.nil_append] at e e'
  exact e.trans e'
end Go.Proofs.Ytgdepcgbjjgnfaa
