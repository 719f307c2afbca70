/-
  Plain: the ranges of meters, valid meters, copies of meters. No conditions.
-/
import Derived.Test.YtgdepcgbjjgnfaaX22
import Derived.Test.YtgdepcgbjjgnfaaPFlow
namespace Go.Proofs.Ytgdepcgbjjgnfaa
open Go.RowKit
theorem Qhp (a b : Int) : w64 (w64 a + b) = w64 (a + b) := by
  unfold w64
  simp only [IntKind.wrap_i64]
  omega
theorem Qia {α : Type} {l : List α} {i : Nat} (d : α) (h : i < l.length) : getI l (i : Int) = some (l.getD i d) := by
  rw [Qfo (List.getElem?_eq_getElem h), List.getD_eq_getElem?_getD, List.getElem?_eq_getElem h, Option.getD_some]
def thr (m : GMeter) : GRange := ⟨(1000 * m.Reading + (1000 + m.Off) - 1).tdiv (1000 + m.Off), (1000 * m.Reading).tdiv (1000 - m.Off)⟩
def Qht (m : GMeter) : Bool := btw m.Reading 0 1000000000 && btw m.Off 0 500
theorem Qm7 {m : GMeter} : Qht m = true ↔ (0 ≤ m.Reading ∧ m.Reading ≤ 1000000000) ∧ (0 ≤ m.Off ∧ m.Off ≤ 500) := by
  simp [Qht, Qje]
theorem Qvx {a b : Int} (ha : 0 ≤ a) (hb : 0 < b) : 0 ≤ a.tdiv b ∧ a.tdiv b ≤ a := by
  rw [Int.tdiv_eq_ediv_of_nonneg ha]
  exact ⟨Int.ediv_nonneg ha (by omega), Int.ediv_le_self _ ha⟩
theorem thr_bd {m : GMeter} (h : Qht m = true) : (0 ≤ (thr m).Lo ∧ (thr m).Lo ≤ 2000000000000) ∧ 0 ≤ (thr m).Hi ∧ (thr m).Hi ≤ 2000000000000 := by
  obtain ⟨⟨h1, h2⟩, h3, h4⟩ := Qm7.1 h
  have a1 := Qvx (a := 1000 * m.Reading + (1000 + m.Off) - 1) (b := 1000 + m.Off) (by omega) (by omega)
  have a2 := Qvx (a := 1000 * m.Reading) (b := 1000 - m.Off) (by omega) (by omega)
  unfold thr
  dsimp only
  omega
theorem Qmt {N : Nat} {m : GMeter} (h : Qht m = true) : Qcy N m = some (thr m) := by
  obtain ⟨⟨h1, h2⟩, h3, h4⟩ := Qm7.1 h
  obtain ⟨⟨b1, b2⟩, b3, b4⟩ := thr_bd h
  unfold thr at b1 b2 b3 b4
  dsimp only at b1 b2 b3 b4
  unfold Qcy thr
  rw [Qc4 (x := 1000 * m.Reading) (by omega) (by omega), Qc4 (x := 1000 + m.Off) (by omega) (by omega), Qc4 (x := 1000 - m.Off) (by omega) (by omega), Qc4 (x := 1000 * m.Reading + (1000 + m.Off)) (by omega) (by omega), Qc4 (x := 1000 * m.Reading + (1000 + m.Off) - 1) (by omega) (by omega)]
  simp only [Option.bind_some, chk]
  rw [Qc4 (by omega) (by omega), Qc4 (by omega) (by omega), bne_iff_ne.2 (show (1000 + m.Off) ≠ 0 by omega), bne_iff_ne.2 (show (1000 - m.Off) ≠ 0 by omega)]
  rfl
theorem Qv1 (N : Nat) (m : GMeter) : Qdx N m = some (Qht m) := by
  unfold Qdx Qht
  rw [use_eq, Qkq]
  cases btw m.Reading 0 1000000000 <;> rfl
abbrev m0 : GMeter := ⟨0, 0⟩
def useT (ms : GMeters) (i : Nat) : GRange := thr (ms.Use.getD i m0)
def Qk0 (ms : GMeters) (i : Nat) : GRange := thr (ms.Flow.getD i m0)
def hasT (ms : GMeters) (i : Nat) : Bool := ms.Has.getD i false
def metB (ms : GMeters) : Nat → Nat → Bool
  | 0, _ => true
  | d + 1, i => Qht (ms.Use.getD i m0) && (!hasT ms i || Qht (ms.Flow.getD i m0)) && metB ms d (i + 1)
structure SameLen (t : List GNode) (ms : GMeters) : Prop where
  use : ms.Use.length = t.length
  flow : ms.Flow.length = t.length
  has : ms.Has.length = t.length
theorem Qwd {ms : GMeters} : ∀ {d a : Nat}, metB ms d a = true → ∀ i, a ≤ i → i < a + d → Qht (ms.Use.getD i m0) = true ∧ (hasT ms i = true → Qht (ms.Flow.getD i m0) = true)
  | 0, a, _, i, h1, h2 => by omega
  | d + 1, a, h, i, h1, h2 => by
    simp only [metB, Bool.and_eq_true, Bool.or_eq_true, Bool.not_eq_true'] at h
    rcases Nat.lt_or_ge a i with hlt | hge
    · exact Qwd h.2 i hlt (by omega)
    · have : i = a := by omega
      subst this
      exact ⟨h.1.1, fun hh => by rcases h.1.2 with h' | h'; · rw [hh] at h'; cases h'
                                 · exact h'⟩
theorem Qwc (N : Nat) {t : List GNode} {ms : GMeters} (hs : SameLen t ms) (k : Unit → Option ((List GRange) × Int)) (hl : t.length ≤ 1000) : ∀ (n d i : Nat), d < n → i + d = t.length →
    Qcx N t ms k n i = bif metB ms d i then k () else some ([], 2) := by
  obtain ⟨h1, h2, h3⟩ := hs
  intro n
  induction n with
  | zero => intro d i h; omega
  | succ n ih =>
    intro d i h hd
    rw [Qcx]
    cases d with
    | zero => simp [show ¬ ((i : Int) < t.length) from by omega, metB]
    | succ d =>
      have e1 : w64 ((i : Int) + 1) = ((i + 1 : Nat) : Int) := Qc4 (by omega) (by omega)
      simp only [show decide ((i : Int) < t.length) = true from by simp; omega, cond_true, Qia m0 (show i < ms.Use.length by omega), Qia m0 (show i < ms.Flow.length by omega), Qia false (show i < ms.Has.length by omega), Option.bind_some, Qv1, e1, ih d (i + 1) (by omega) (by omega), metB, hasT]
      cases Qht (ms.Use.getD i m0) <;> cases ms.Has.getD i false <;> cases Qht (ms.Flow.getD i m0) <;> simp
end Go.Proofs.Ytgdepcgbjjgnfaa
