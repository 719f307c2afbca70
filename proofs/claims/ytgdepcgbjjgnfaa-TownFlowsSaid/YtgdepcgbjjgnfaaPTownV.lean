/-
  Plain: valid towns and uses; copies; the flows of a town, node by node. No conditions.
-/
import Derived.Test.YtgdepcgbjjgnfaaX12
import Derived.Test.YtgdepcgbjjgnfaaPTown
namespace Go.Proofs.Ytgdepcgbjjgnfaa
open Go.RowKit

theorem natBeq (a b : Nat) : ((a : Int) == (b : Int)) = decide (a = b) := by
  by_cases h : a = b
  · subst h; simp
  · rw [decide_eq_false h]
    exact beq_eq_false_iff_ne.2 (by omega)
def nodeB (x : GNode) : Bool := btw x.Loss 0 1000000000 && btw x.Limit 0 1000000000 && btw x.Rank 0 100
def townL (i : Nat) : List GNode → Bool
  | [] => true
  | x :: l => (decide (i = 0) || btw x.Parent 0 ((i : Int) - 1)) && nodeB x && townL (i + 1) l
def headB : List GNode → Bool
  | [] => false
  | x :: _ => (x.Parent == -1) && (x.Loss == 0) && (x.Limit == 0)
def townB (t : List GNode) : Bool := btw t.length 1 30 && headB t && townL 0 t
theorem use_eq (N : Nat) (x : Int) : town_useX N x = some (btw x 0 1000000000) := by
  unfold town_useX
  rw [within_eq]
  rfl
theorem validP_loop (N : Nat) (t : List GNode) (k : Unit → Option Bool) (hl : t.length ≤ 1000) : ∀ (n i : Nat), (t.drop i).length < n →
    town_Town_validX_loop1 N t k n i = bif townL i (t.drop i) then k () else some false := by
  intro n
  induction n with
  | zero => intro i h; exact absurd h (Nat.not_lt_zero _)
  | succ n ih =>
    intro i h
    rw [town_Town_validX_loop1]
    cases hd : t.drop i with
    | nil =>
      have := drop_nil hd
      simp [show ¬ ((i : Int) < t.length) from by omega, townL]
    | cons b l =>
      obtain ⟨hi, hd', hlt⟩ := drop_cons hd
      have e1 : w64 ((i : Int) + 1) = ((i + 1 : Nat) : Int) := w64_id (by omega) (by omega)
      have ih' := ih (i + 1) (by rw [hd']; rw [hd] at h; simp at h; omega)
      rw [hd'] at ih'
      simp only [show decide ((i : Int) < t.length) = true from by simpa using hlt, cond_true, getI_at hi, Option.bind_some, within_eq, use_eq, e1, ih', townL, nodeB]
      rcases Nat.eq_zero_or_pos i with rfl | hp
      · cases btw b.Loss 0 1000000000 <;> cases btw b.Limit 0 1000000000 <;> cases btw b.Rank 0 100 <;> simp
      · have e2 : w64 ((i : Int) - 1) = (i : Int) - 1 := w64_id (by omega) (by omega)
        simp only [e2, show decide ((i : Int) > 0) = true from by simpa using hp, cond_true, show decide (i = 0) = false from by simp; omega, Bool.false_or]
        cases btw b.Parent 0 ((i : Int) - 1) <;> cases btw b.Loss 0 1000000000 <;> cases btw b.Limit 0 1000000000 <;> cases btw b.Rank 0 100 <;> simp
theorem validR_loop (N : Nat) (t : List GNode) (k : Unit → Option Bool) (hl : t.length ≤ 1000) : ∀ (n i : Nat), (t.drop i).length < n →
    ref10_RightX_loop1 N t k n i = bif townL i (t.drop i) then k () else some false := by
  intro n
  induction n with
  | zero => intro i h; exact absurd h (Nat.not_lt_zero _)
  | succ n ih =>
    intro i h
    rw [ref10_RightX_loop1]
    cases hd : t.drop i with
    | nil =>
      have := drop_nil hd
      simp [show ¬ ((i : Int) < t.length) from by omega, townL]
    | cons b l =>
      obtain ⟨hi, hd', hlt⟩ := drop_cons hd
      have e1 : w64 ((i : Int) + 1) = ((i + 1 : Nat) : Int) := w64_id (by omega) (by omega)
      have ih' := ih (i + 1) (by rw [hd']; rw [hd] at h; simp at h; omega)
      rw [hd'] at ih'
      simp only [show decide ((i : Int) < t.length) = true from by simpa using hlt, cond_true, getI_at hi, Option.bind_some, in_eq, e1, ih', townL, nodeB]
      rcases Nat.eq_zero_or_pos i with rfl | hp
      · cases btw b.Loss 0 1000000000 <;> cases btw b.Limit 0 1000000000 <;> cases btw b.Rank 0 100 <;> simp
      · have e2 : w64 ((i : Int) - 1) = (i : Int) - 1 := w64_id (by omega) (by omega)
        simp only [e2, show decide ((i : Int) > 0) = true from by simpa using hp, cond_true, show decide (i = 0) = false from by simp; omega, Bool.false_or]
        cases btw b.Parent 0 ((i : Int) - 1) <;> cases btw b.Loss 0 1000000000 <;> cases btw b.Limit 0 1000000000 <;> cases btw b.Rank 0 100 <;> simp
theorem head_cases {t : List GNode} (h : 1 ≤ t.length) : ∃ x l, t = x :: l := by
  cases t with
  | nil => simp at h
  | cons x l => exact ⟨x, l, rfl⟩
theorem validP_eq {N : Nat} {t : List GNode} (hl : t.length ≤ 1000) (hN : 2000 ≤ N) : town_Town_validX N t = some (townB t) := by
  unfold town_Town_validX townB
  simp only [joinK, within_eq, Option.bind_some]
  cases hb : btw t.length 1 30 with
  | false => rfl
  | true =>
    obtain ⟨x, l, rfl⟩ := head_cases (t := t) (by have := (btw_iff.1 hb).1; omega)
    have := validP_loop N (x :: l) (fun _ => some true) hl N 0 (by simp at hl ⊢; omega)
    rw [show ((0 : Nat) : Int) = 0 from rfl, List.drop_zero] at this
    rw [this]
    simp only [show getI (x :: l) 0 = some x from rfl, Option.bind_some, headB, Bool.not_true, cond_false]
    simp only [bne]
    cases (x.Parent == -1) <;> cases (x.Loss == 0) <;> cases (x.Limit == 0) <;> cases townL 0 (x :: l) <;> rfl
theorem validR_eq {N : Nat} {t : List GNode} (hl : t.length ≤ 1000) (hN : 2000 ≤ N) : ref10_RightX N t = some (townB t) := by
  unfold ref10_RightX townB
  simp only [joinK]
  by_cases h1 : (t.length : Int) < 1
  · simp [h1, btw, show ¬ ((1 : Int) ≤ t.length) from by omega]
  · by_cases h2 : (t.length : Int) > 30
    · simp [h1, h2, btw, show ¬ ((t.length : Int) ≤ 30) from by omega]
    · obtain ⟨x, l, rfl⟩ := head_cases (t := t) (by omega)
      have := validR_loop N (x :: l) (fun _ => some true) hl N 0 (by simp at hl ⊢; omega)
      rw [show ((0 : Nat) : Int) = 0 from rfl, List.drop_zero] at this
      rw [this]
      simp only [h1, h2, decide_false, cond_false, show getI (x :: l) 0 = some x from rfl, Option.bind_some, headB, btw_iff.2 ⟨show (1 : Int) ≤ ((x :: l).length : Nat) by omega, show (((x :: l).length : Nat) : Int) ≤ 30 by omega⟩, Bool.true_and]
      simp only [bne]
      cases (x.Parent == -1) <;> cases (x.Loss == 0) <;> cases (x.Limit == 0) <;> cases townL 0 (x :: l) <;> rfl
def usesB (l : List Int) : Bool := l.all fun x => btw x 0 1000000000
theorem badUse_loop (N : Nat) (t : List Int) (k : Unit → Option Int) (hl : t.length ≤ 1000) : ∀ (n i : Nat), (t.drop i).length < n → i ≤ t.length →
    slices_IndexFunc_int_intX_1_loop1 N t k n i = bif usesB (t.drop i) then k () else some ((i : Int) + ((t.drop i).findIdx fun x => !btw x 0 1000000000 : Nat)) := by
  intro n
  induction n with
  | zero => intro i h; exact absurd h (Nat.not_lt_zero _)
  | succ n ih =>
    intro i h hi
    rw [slices_IndexFunc_int_intX_1_loop1]
    cases hd : t.drop i with
    | nil =>
      have := drop_nil hd
      simp [show ¬ ((i : Int) < t.length) from by omega, usesB]
    | cons b l =>
      obtain ⟨hg, hd', hlt⟩ := drop_cons hd
      have e1 : w64 ((i : Int) + 1) = ((i + 1 : Nat) : Int) := w64_id (by omega) (by omega)
      have ih' := ih (i + 1) (by rw [hd']; rw [hd] at h; simp at h; omega) hlt
      rw [hd'] at ih'
      simp only [show decide ((i : Int) < t.length) = true from by simpa using hlt, cond_true, getI_at hg, Option.bind_some, town_all_int_1X_1, use_eq, e1, ih', usesB, List.all_cons, List.findIdx_cons]
      cases hb : btw b 0 1000000000 with
      | false => simp
      | true =>
        cases hu : (l.all fun x => btw x 0 1000000000) with
        | true => simp
        | false => simp; omega
theorem usesP_eq {N : Nat} {t : List Int} (hl : t.length ≤ 1000) (hN : 2000 ≤ N) : town_all_intX_1 N t = some (usesB t) := by
  unfold town_all_intX_1 slices_ContainsFunc_int_intX_1 slices_IndexFunc_int_intX_1
  simp only [joinK]
  have := badUse_loop N t (fun _ => some (-1)) hl N 0 (by simp; omega) (Nat.zero_le _)
  rw [show ((0 : Nat) : Int) = 0 from rfl, List.drop_zero] at this
  rw [this]
  cases usesB t with
  | true => rfl
  | false => simp
theorem usesR_loop (N : Nat) (t : List Int) (k : Unit → Option Bool) (hl : t.length ≤ 1000) : ∀ (n i : Nat), (t.drop i).length < n →
    ref10_UsesX_loop1 N k t n i = bif usesB (t.drop i) then k () else some false := by
  intro n
  induction n with
  | zero => intro i h; exact absurd h (Nat.not_lt_zero _)
  | succ n ih =>
    intro i h
    rw [ref10_UsesX_loop1]
    cases hd : t.drop i with
    | nil =>
      have := drop_nil hd
      simp [show ¬ ((i : Int) < t.length) from by omega, usesB]
    | cons b l =>
      obtain ⟨hg, hd', hlt⟩ := drop_cons hd
      have e1 : w64 ((i : Int) + 1) = ((i + 1 : Nat) : Int) := w64_id (by omega) (by omega)
      have ih' := ih (i + 1) (by rw [hd']; rw [hd] at h; simp at h; omega)
      rw [hd'] at ih'
      simp only [show decide ((i : Int) < t.length) = true from by simpa using hlt, cond_true, getI_at hg, Option.bind_some, in_eq, e1, ih', usesB, List.all_cons]
      cases btw b 0 1000000000 <;> simp
theorem usesR_eq {N : Nat} {t : List GNode} {l : List Int} (hl : l.length ≤ 1000) (hN : 2000 ≤ N) : ref10_UsesX N t l = some (usesB l && decide (l.length = t.length)) := by
  unfold ref10_UsesX
  simp only [joinK]
  have := usesR_loop N l (fun _ => some ((l.length : Int) == (t.length : Int))) hl N 0 (by simp; omega)
  rw [show ((0 : Nat) : Int) = 0 from rfl, List.drop_zero] at this
  rw [this]
  cases usesB l with
  | false => rfl
  | true =>
    rw [natBeq]
    rfl
theorem used_eq {N : Nat} {t : List GNode} {l : List Int} (ht : t.length ≤ 1000) (hl : l.length ≤ 1000) (hN : 2000 ≤ N) : town_usedX N t l = some (bif townB t then (bif usesB l && decide (l.length = t.length) then 0 else 2) else 1) := by
  unfold town_usedX
  simp only [validP_eq ht hN, Option.bind_some, usesP_eq hl hN]
  cases townB t with
  | false => rfl
  | true =>
    rw [bne, natBeq]
    cases decide (l.length = t.length) <;> cases usesB l <;> rfl
theorem copyT_loop (N : Nat) (t : List GNode) (k : List GNode → Option (List GNode)) (hl : t.length ≤ 1000) : ∀ (n i : Nat) (acc : List GNode), (t.drop i).length < n → i ≤ t.length → acc.length = i →
    law10_TownX_loop1 N t k n acc i = k (acc ++ t.drop i) := by
  intro n
  induction n with
  | zero => intro i _ h; exact absurd h (Nat.not_lt_zero _)
  | succ n ih =>
    intro i acc h hi hacc
    rw [law10_TownX_loop1]
    cases hd : t.drop i with
    | nil =>
      have := drop_nil hd
      simp [show ¬ ((i : Int) < t.length) from by omega]
    | cons b l =>
      obtain ⟨hg, hd', hlt⟩ := drop_cons hd
      have e1 : w64 ((i : Int) + 1) = ((i + 1 : Nat) : Int) := w64_id (by omega) (by omega)
      simp only [show decide ((i : Int) < t.length) = true from by simpa using hlt, cond_true, getI_at hg, Option.bind_some, e1]
      rw [ih (i + 1) (acc ++ [b]) (by rw [hd']; rw [hd] at h; simp at h; omega) hlt (by simp [hacc]), hd']
      simp only [chk, show decide ((acc.length + [b].length) * 32 ≤ 140737488355328) = true from by simp; omega, cond_true, List.append_assoc, List.cons_append, List.nil_append]
theorem copyT_eq {N : Nat} {t : List GNode} (hl : t.length ≤ 1000) (hN : 2000 ≤ N) : law10_TownX N t = some t := by
  unfold law10_TownX
  simp only [joinK]
  have := copyT_loop N t (fun y1 => some y1) hl N 0 [] (by simp; omega) (by omega) rfl
  simpa using this
theorem copyL_eq {N : Nat} {l : List Int} (hl : l.length ≤ 1000) : law10_listX N l = some l := by
  unfold law10_listX
  simp only [chk]
  rw [show decide ((([] : List Int).length + l.length) * 8 ≤ 140737488355328) = true from by simp; omega]
  simp
theorem few_eq (N : Nat) (t : List GNode) (l : List Int) : law10_fewX N t l = some (decide ((t.length : Int) ≤ 35) && decide ((l.length : Int) ≤ 35)) := by
  unfold law10_fewX
  by_cases h : (t.length : Int) ≤ 35 <;> simp [h]

/-- What is known of a node of a valid town. -/
structure NodeP (i : Nat) (x : GNode) : Prop where
  par : 0 < i → 0 ≤ x.Parent ∧ x.Parent < i
  top : i = 0 → x.Parent = -1 ∧ x.Loss = 0 ∧ x.Limit = 0
  loss : 0 ≤ x.Loss ∧ x.Loss ≤ 1000000000
  limit : 0 ≤ x.Limit ∧ x.Limit ≤ 1000000000
  rank : 0 ≤ x.Rank ∧ x.Rank ≤ 100
theorem townL_at : ∀ (l : List GNode) (k i : Nat) (x : GNode), townL k l = true → l[i]? = some x → (k + i = 0 ∨ 0 ≤ x.Parent ∧ x.Parent ≤ ((k + i : Nat) : Int) - 1) ∧ nodeB x = true
  | [], _, _, _, _, h => by simp at h
  | y :: l, k, 0, x, h, hx => by
    simp at hx
    subst hx
    simp only [townL, Bool.and_eq_true, Bool.or_eq_true, decide_eq_true_eq, btw_iff] at h
    exact ⟨by omega, h.1.2⟩
  | y :: l, k, i + 1, x, h, hx => by
    simp only [townL, Bool.and_eq_true] at h
    have := townL_at l (k + 1) i x h.2 (by simpa using hx)
    rw [show k + (i + 1) = k + 1 + i by omega]
    exact this
theorem node_at {t : List GNode} (h : townB t = true) {i : Nat} {x : GNode} (hx : t[i]? = some x) : NodeP i x := by
  simp only [townB, Bool.and_eq_true] at h
  obtain ⟨⟨h1, h2⟩, h3⟩ := h
  obtain ⟨h4, h5⟩ := townL_at t 0 i x h3 hx
  simp only [nodeB, Bool.and_eq_true, btw_iff] at h5
  refine ⟨fun hp => by omega, fun h0 => ?_, h5.1.1, h5.1.2, h5.2⟩
  subst h0
  cases t with
  | nil => simp at hx
  | cons y l =>
    simp at hx
    subst hx
    simp only [headB, Bool.and_eq_true, beq_iff_eq] at h2
    exact ⟨h2.1.1, h2.1.2, h2.2⟩
theorem town_len {t : List GNode} (h : townB t = true) : 1 ≤ t.length ∧ t.length ≤ 30 := by
  simp only [townB, Bool.and_eq_true, btw_iff] at h
  omega
theorem use_at {l : List Int} (h : usesB l = true) {i : Nat} {x : Int} (hx : l[i]? = some x) : 0 ≤ x ∧ x ≤ 1000000000 :=
  btw_iff.1 (List.all_eq_true.1 h x (List.mem_of_getElem? hx))
end Go.Proofs.Ytgdepcgbjjgnfaa
