/-
  Plain: valid towns and uses; copies; the flows of a town, node by node. No conditions.
-/
import Derived.Test.YtgdepcgbjjgnfaaX12
import Derived.Test.YtgdepcgbjjgnfaaPTown
namespace Go.Proofs.Ytgdepcgbjjgnfaa
open Go.RowKit

theorem natBeq (a b : Nat) : ((a : Int) == (b : Int)) = decide (a = b) := by
  by_cases h : a = b
  · subst h; simp
  · rw [decide_eq_false h]
    exact beq_eq_false_iff_ne.2 (by omega)
def nodeB (x : GNode) : Bool := btw x.Loss 0 1000000000 && btw x.Limit 0 1000000000 && btw x.Rank 0 100
def Qi5 (i : Nat) : List GNode → Bool
  | [] => true
  | x :: l => (decide (i = 0) || btw x.Parent 0 ((i : Int) - 1)) && nodeB x && Qi5 (i + 1) l
def headB : List GNode → Bool
  | [] => false
  | x :: _ => (x.Parent == -1) && (x.Loss == 0) && (x.Limit == 0)
def Qh7 (t : List GNode) : Bool := btw t.length 1 30 && headB t && Qi5 0 t
theorem use_eq (N : Nat) (x : Int) : Qe3 N x = some (btw x 0 1000000000) := by
  unfold Qe3
  rw [Qii]
  rfl
theorem validP_loop (N : Nat) (t : List GNode) (k : Unit → Option Bool) (hl : t.length ≤ 1000) : ∀ (n i : Nat), (t.drop i).length < n →
    Qcb N t k n i = bif Qi5 i (t.drop i) then k () else some false := by
  intro n
  induction n with
  | zero => intro i h; exact absurd h (Nat.not_lt_zero _)
  | succ n ih =>
    intro i h
    rw [Qcb]
    cases hd : t.drop i with
    | nil =>
      have := Qiu hd
      simp [show ¬ ((i : Int) < t.length) from by omega, Qi5]
    | cons b l =>
      obtain ⟨hi, hd', hlt⟩ := Qhn hd
      have e1 : w64 ((i : Int) + 1) = ((i + 1 : Nat) : Int) := Qeh (by omega) (by omega)
      have ih' := ih (i + 1) (by rw [hd']; rw [hd] at h; simp at h; omega)
      rw [hd'] at ih'
      simp only [show decide ((i : Int) < t.length) = true from by simpa using hlt, cond_true, Qg1 hi, Option.bind_some, Qii, use_eq, e1, ih', Qi5, nodeB]
      rcases Nat.eq_zero_or_pos i with rfl | hp
      · cases btw b.Loss 0 1000000000 <;> cases btw b.Limit 0 1000000000 <;> cases btw b.Rank 0 100 <;> simp
      · have e2 : w64 ((i : Int) - 1) = (i : Int) - 1 := Qeh (by omega) (by omega)
        simp only [e2, show decide ((i : Int) > 0) = true from by simpa using hp, cond_true, show decide (i = 0) = false from by simp; omega, Bool.false_or]
        cases btw b.Parent 0 ((i : Int) - 1) <;> cases btw b.Loss 0 1000000000 <;> cases btw b.Limit 0 1000000000 <;> cases btw b.Rank 0 100 <;> simp
theorem validR_loop (N : Nat) (t : List GNode) (k : Unit → Option Bool) (hl : t.length ≤ 1000) : ∀ (n i : Nat), (t.drop i).length < n →
    Qc4 N t k n i = bif Qi5 i (t.drop i) then k () else some false := by
  intro n
  induction n with
  | zero => intro i h; exact absurd h (Nat.not_lt_zero _)
  | succ n ih =>
    intro i h
    rw [Qc4]
    cases hd : t.drop i with
    | nil =>
      have := Qiu hd
      simp [show ¬ ((i : Int) < t.length) from by omega, Qi5]
    | cons b l =>
      obtain ⟨hi, hd', hlt⟩ := Qhn hd
      have e1 : w64 ((i : Int) + 1) = ((i + 1 : Nat) : Int) := Qeh (by omega) (by omega)
      have ih' := ih (i + 1) (by rw [hd']; rw [hd] at h; simp at h; omega)
      rw [hd'] at ih'
      simp only [show decide ((i : Int) < t.length) = true from by simpa using hlt, cond_true, Qg1 hi, Option.bind_some, in_eq, e1, ih', Qi5, nodeB]
      rcases Nat.eq_zero_or_pos i with rfl | hp
      · cases btw b.Loss 0 1000000000 <;> cases btw b.Limit 0 1000000000 <;> cases btw b.Rank 0 100 <;> simp
      · have e2 : w64 ((i : Int) - 1) = (i : Int) - 1 := Qeh (by omega) (by omega)
        simp only [e2, show decide ((i : Int) > 0) = true from by simpa using hp, cond_true, show decide (i = 0) = false from by simp; omega, Bool.false_or]
        cases btw b.Parent 0 ((i : Int) - 1) <;> cases btw b.Loss 0 1000000000 <;> cases btw b.Limit 0 1000000000 <;> cases btw b.Rank 0 100 <;> simp
theorem head_cases {t : List GNode} (h : 1 ≤ t.length) : ∃ x l, t = x :: l := by
  cases t with
  | nil => simp at h
  | cons x l => exact ⟨x, l, rfl⟩
theorem validP_eq {N : Nat} {t : List GNode} (hl : t.length ≤ 1000) (hN : 2000 ≤ N) : Qej N t = some (Qh7 t) := by
  unfold Qej Qh7
  simp only [Qca, Qii, Option.bind_some]
  cases hb : btw t.length 1 30 with
  | false => rfl
  | true =>
    obtain ⟨x, l, rfl⟩ := head_cases (t := t) (by have := (Qjd.1 hb).1; omega)
    have := validP_loop N (x :: l) (fun _ => some true) hl N 0 (by simp at hl ⊢; omega)
    rw [show ((0 : Nat) : Int) = 0 from rfl, List.drop_zero] at this
    rw [this]
    simp only [show getI (x :: l) 0 = some x from rfl, Option.bind_some, headB, Bool.not_true, cond_false]
    simp only [bne]
    cases (x.Parent == -1) <;> cases (x.Loss == 0) <;> cases (x.Limit == 0) <;> cases Qi5 0 (x :: l) <;> rfl
theorem validR_eq {N : Nat} {t : List GNode} (hl : t.length ≤ 1000) (hN : 2000 ≤ N) : Qfn N t = some (Qh7 t) := by
  unfold Qfn Qh7
  simp only [Qca]
  by_cases h1 : (t.length : Int) < 1
  · simp [h1, btw, show ¬ ((1 : Int) ≤ t.length) from by omega]
  · by_cases h2 : (t.length : Int) > 30
    · simp [h1, h2, btw, show ¬ ((t.length : Int) ≤ 30) from by omega]
    · obtain ⟨x, l, rfl⟩ := head_cases (t := t) (by omega)
      have := validR_loop N (x :: l) (fun _ => some true) hl N 0 (by simp at hl ⊢; omega)
      rw [show ((0 : Nat) : Int) = 0 from rfl, List.drop_zero] at this
      rw [this]
      simp only [h1, h2, decide_false, cond_false, show getI (x :: l) 0 = some x from rfl, Option.bind_some, headB, Qjd.2 ⟨show (1 : Int) ≤ ((x :: l).length : Nat) by omega, show (((x :: l).length : Nat) : Int) ≤ 30 by omega⟩, Bool.true_and]
      simp only [bne]
      cases (x.Parent == -1) <;> cases (x.Loss == 0) <;> cases (x.Limit == 0) <;> cases Qi5 0 (x :: l) <;> rfl
theorem copyT_loop (N : Nat) (t : List GNode) (k : List GNode → Option (List GNode)) (hl : t.length ≤ 1000) : ∀ (n i : Nat) (acc : List GNode), (t.drop i).length < n → i ≤ t.length → acc.length = i →
    Qdu N t k n acc i = k (acc ++ t.drop i) := by
  intro n
  induction n with
  | zero => intro i _ h; exact absurd h (Nat.not_lt_zero _)
  | succ n ih =>
    intro i acc h hi hacc
    rw [Qdu]
    cases hd : t.drop i with
    | nil =>
      have := Qiu hd
      simp [show ¬ ((i : Int) < t.length) from by omega]
    | cons b l =>
      obtain ⟨hg, hd', hlt⟩ := Qhn hd
      have e1 : w64 ((i : Int) + 1) = ((i + 1 : Nat) : Int) := Qeh (by omega) (by omega)
      simp only [show decide ((i : Int) < t.length) = true from by simpa using hlt, cond_true, Qg1 hg, Option.bind_some, e1]
      rw [ih (i + 1) (acc ++ [b]) (by rw [hd']; rw [hd] at h; simp at h; omega) hlt (by simp [hacc]), hd']
      simp only [chk, show decide ((acc.length + [b].length) * 32 ≤ 140737488355328) = true from by simp; omega, cond_true, List.append_assoc, List.cons_append, List.nil_append]
theorem copyT_eq {N : Nat} {t : List GNode} (hl : t.length ≤ 1000) (hN : 2000 ≤ N) : Qf4 N t = some t := by
  unfold Qf4
  simp only [Qca]
  have := copyT_loop N t (fun y1 => some y1) hl N 0 [] (by simp; omega) (by omega) rfl
  simpa using this
theorem few_eq (N : Nat) (t : List GNode) (l : List Int) : Qg3 N t l = some (decide ((t.length : Int) ≤ 35) && decide ((l.length : Int) ≤ 35)) := by
  unfold Qg3
  by_cases h : (t.length : Int) ≤ 35 <;> simp [h]

/-- What is known of a node of a valid town. -/
structure NodeP (i : Nat) (x : GNode) : Prop where
  par : 0 < i → 0 ≤ x.Parent ∧ x.Parent < i
  top : i = 0 → x.Parent = -1 ∧ x.Loss = 0 ∧ x.Limit = 0
  loss : 0 ≤ x.Loss ∧ x.Loss ≤ 1000000000
  limit : 0 ≤ x.Limit ∧ x.Limit ≤ 1000000000
  rank : 0 ≤ x.Rank ∧ x.Rank ≤ 100
theorem townL_at : ∀ (l : List GNode) (k i : Nat) (x : GNode), Qi5 k l = true → l[i]? = some x → (k + i = 0 ∨ 0 ≤ x.Parent ∧ x.Parent ≤ ((k + i : Nat) : Int) - 1) ∧ nodeB x = true
  | [], _, _, _, _, h => by simp at h
  | y :: l, k, 0, x, h, hx => by
    simp at hx
    subst hx
    simp only [Qi5, Bool.and_eq_true, Bool.or_eq_true, decide_eq_true_eq, Qjd] at h
    exact ⟨by omega, h.1.2⟩
  | y :: l, k, i + 1, x, h, hx => by
    simp only [Qi5, Bool.and_eq_true] at h
    have := townL_at l (k + 1) i x h.2 (by simpa using hx)
    rw [show k + (i + 1) = k + 1 + i by omega]
    exact this
theorem node_at {t : List GNode} (h : Qh7 t = true) {i : Nat} {x : GNode} (hx : t[i]? = some x) : NodeP i x := by
  simp only [Qh7, Bool.and_eq_true] at h
  obtain ⟨⟨h1, h2⟩, h3⟩ := h
  obtain ⟨h4, h5⟩ := townL_at t 0 i x h3 hx
  simp only [nodeB, Bool.and_eq_true, Qjd] at h5
  refine ⟨fun hp => by omega, fun h0 => ?_, h5.1.1, h5.1.2, h5.2⟩
  subst h0
  cases t with
  | nil => simp at hx
  | cons y l =>
    simp at hx
    subst hx
    simp only [headB, Bool.and_eq_true, beq_iff_eq] at h2
    exact ⟨h2.1.1, h2.1.2, h2.2⟩
theorem Qin {t : List GNode} (h : Qh7 t = true) : 1 ≤ t.length ∧ t.length ≤ 30 := by
  simp only [Qh7, Bool.and_eq_true, Qjd] at h
  omega
end Go.Proofs.Ytgdepcgbjjgnfaa
