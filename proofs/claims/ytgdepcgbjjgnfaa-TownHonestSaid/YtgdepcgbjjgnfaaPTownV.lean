/-
  Plain: valid towns and uses; copies; the flows of a town, node by node. No conditions.
-/
import Derived.Test.YtgdepcgbjjgnfaaX12
import Derived.Test.YtgdepcgbjjgnfaaPTown
namespace Go.Proofs.Ytgdepcgbjjgnfaa
open Go.RowKit
theorem Qth (a b : Nat) : ((a : Int) == (b : Int)) = decide (a = b) := by
 by_cases h : a = b
 ·subst h; simp
 ·rw [decide_eq_false h]
  exact beq_eq_false_iff_ne.2 (by omega)
def Qv7 (x : GNode) : Bool := btw x.Loss 0 1000000000 && btw x.Limit 0 1000000000 && btw x.Rank 0 100
def Qlh (i : Nat) : List GNode → Bool
 | [] => true
 | x :: l => (decide (i = 0) || btw x.Parent 0 ((i : Int) - 1)) && Qv7 x && Qlh (i + 1) l
def Qyo : List GNode → Bool
 | [] => false
 | x :: _ => (x.Parent == -1) && (x.Loss == 0) && (x.Limit == 0)
def Qg6 (t : List GNode) : Bool := btw t.length 1 30 && Qyo t && Qlh 0 t
theorem use_eq (N : Nat) (x : Int) : Qe9 N x = some (btw x 0 1000000000) := by
 unfold Qe9
 rw [Qkq]
 rfl
theorem Qrr (N : Nat) (t : List GNode) (k : Unit → Option Bool) (hl : t.length ≤ 1000) : ∀ (n i : Nat), (t.drop i).length < n →
  Qb8 N t k n i = bif Qlh i (t.drop i) then k () else some false := by
 intro n
 induction n with
 | zero => intro i h; exact absurd h (Nat.not_lt_zero _)
 | succ n ih =>
  intro i h
  rw [Qb8]
  cases hd : t.drop i with
  | nil =>
   have := Qmi hd
   simp [show ¬ ((i : Int) < t.length) from by omega, Qlh]
  | cons b l =>
   obtain ⟨hi, hd', hlt⟩ := Qk1 hd
   have e1 : w64 ((i : Int) + 1) = ((i + 1 : Nat) : Int) := Qc4 (by omega) (by omega)
   have ih' := ih (i + 1) (by rw [hd']; rw [hd] at h; simp at h; omega)
   rw [hd'] at ih'
   simp only [show decide ((i : Int) < t.length) = true from by simpa using hlt, cond_true, Qfo hi, Option.bind_some, Qkq, use_eq, e1, ih', Qlh, Qv7]
   rcases Nat.eq_zero_or_pos i with rfl | hp
   ·cases btw b.Loss 0 1000000000 <;> cases btw b.Limit 0 1000000000 <;> cases btw b.Rank 0 100 <;> simp
   ·have e2 : w64 ((i : Int) - 1) = (i : Int) - 1 := Qc4 (by omega) (by omega)
    simp only [e2, show decide ((i : Int) > 0) = true from by simpa using hp, cond_true, show decide (i = 0) = false from by simp; omega, Bool.false_or]
    cases btw b.Parent 0 ((i : Int) - 1) <;> cases btw b.Loss 0 1000000000 <;> cases btw b.Limit 0 1000000000 <;> cases btw b.Rank 0 100 <;> simp
theorem Qrq (N : Nat) (t : List GNode) (k : Unit → Option Bool) (hl : t.length ≤ 1000) : ∀ (n i : Nat), (t.drop i).length < n →
  Qc6 N t k n i = bif Qlh i (t.drop i) then k () else some false := by
 intro n
 induction n with
 | zero => intro i h; exact absurd h (Nat.not_lt_zero _)
 | succ n ih =>
  intro i h
  rw [Qc6]
  cases hd : t.drop i with
  | nil =>
   have := Qmi hd
   simp [show ¬ ((i : Int) < t.length) from by omega, Qlh]
  | cons b l =>
   obtain ⟨hi, hd', hlt⟩ := Qk1 hd
   have e1 : w64 ((i : Int) + 1) = ((i + 1 : Nat) : Int) := Qc4 (by omega) (by omega)
   have ih' := ih (i + 1) (by rw [hd']; rw [hd] at h; simp at h; omega)
   rw [hd'] at ih'
   simp only [show decide ((i : Int) < t.length) = true from by simpa using hlt, cond_true, Qfo hi, Option.bind_some, in_eq, e1, ih', Qlh, Qv7]
   rcases Nat.eq_zero_or_pos i with rfl | hp
   ·cases btw b.Loss 0 1000000000 <;> cases btw b.Limit 0 1000000000 <;> cases btw b.Rank 0 100 <;> simp
   ·have e2 : w64 ((i : Int) - 1) = (i : Int) - 1 := Qc4 (by omega) (by omega)
    simp only [e2, show decide ((i : Int) > 0) = true from by simpa using hp, cond_true, show decide (i = 0) = false from by simp; omega, Bool.false_or]
    cases btw b.Parent 0 ((i : Int) - 1) <;> cases btw b.Loss 0 1000000000 <;> cases btw b.Limit 0 1000000000 <;> cases btw b.Rank 0 100 <;> simp
theorem Qn8 {t : List GNode} (h : 1 ≤ t.length) : ∃ x l, t = x :: l := by
 cases t with
 | nil => simp at h
 | cons x l => exact ⟨x, l, rfl⟩
theorem Qvs {N : Nat} {t : List GNode} (hl : t.length ≤ 1000) (hN : 2000 ≤ N) : Qel N t = some (Qg6 t) := by
 unfold Qel Qg6
 simp only [Qcv, Qkq, Option.bind_some]
 cases hb : btw t.length 1 30 with
 | false => rfl
 | true =>
  obtain ⟨x, l, rfl⟩ := Qn8 (t := t) (by have := (Qje.1 hb).1; omega)
  have := Qrr N (x :: l) (fun _ => some true) hl N 0 (by simp at hl ⊢; omega)
  rw [show ((0 : Nat) : Int) = 0 from rfl, List.drop_zero] at this
  rw [this]
  simp only [show getI (x :: l) 0 = some x from rfl, Option.bind_some, Qyo, Bool.not_true, cond_false]
  simp only [bne]
  cases (x.Parent == -1) <;> cases (x.Loss == 0) <;> cases (x.Limit == 0) <;> cases Qlh 0 (x :: l) <;> rfl
theorem Qvr {N : Nat} {t : List GNode} (hl : t.length ≤ 1000) (hN : 2000 ≤ N) : Qgx N t = some (Qg6 t) := by
 unfold Qgx Qg6
 simp only [Qcv]
 by_cases h1 : (t.length : Int) < 1
 ·simp [h1, btw, show ¬ ((1 : Int) ≤ t.length) from by omega]
 ·by_cases h2 : (t.length : Int) > 30
  ·simp [h1, h2, btw, show ¬ ((t.length : Int) ≤ 30) from by omega]
  ·obtain ⟨x, l, rfl⟩ := Qn8 (t := t) (by omega)
   have := Qrq N (x :: l) (fun _ => some true) hl N 0 (by simp at hl ⊢; omega)
   rw [show ((0 : Nat) : Int) = 0 from rfl, List.drop_zero] at this
   rw [this]
   simp only [h1, h2, decide_false, cond_false, show getI (x :: l) 0 = some x from rfl, Option.bind_some, Qyo, Qje.2 ⟨show (1 : Int) ≤ ((x :: l).length : Nat) by omega, show (((x :: l).length : Nat) : Int) ≤ 30 by omega⟩, Bool.true_and]
   simp only [bne]
   cases (x.Parent == -1) <;> cases (x.Loss == 0) <;> cases (x.Limit == 0) <;> cases Qlh 0 (x :: l) <;> rfl
def Qh1 (l : List Int) : Bool := l.all fun x => btw x 0 1000000000
theorem Qud (N : Nat) (t : List Int) (k : Unit → Option Bool) (hl : t.length ≤ 1000) : ∀ (n i : Nat), (t.drop i).length < n →
  Qdy N k t n i = bif Qh1 (t.drop i) then k () else some false := by
 intro n
 induction n with
 | zero => intro i h; exact absurd h (Nat.not_lt_zero _)
 | succ n ih =>
  intro i h
  rw [Qdy]
  cases hd : t.drop i with
  | nil =>
   have := Qmi hd
   simp [show ¬ ((i : Int) < t.length) from by omega, Qh1]
  | cons b l =>
   obtain ⟨hg, hd', hlt⟩ := Qk1 hd
   have e1 : w64 ((i : Int) + 1) = ((i + 1 : Nat) : Int) := Qc4 (by omega) (by omega)
   have ih' := ih (i + 1) (by rw [hd']; rw [hd] at h; simp at h; omega)
   rw [hd'] at ih'
   simp only [show decide ((i : Int) < t.length) = true from by simpa using hlt, cond_true, Qfo hg, Option.bind_some, in_eq, e1, ih', Qh1, List.all_cons]
   cases btw b 0 1000000000 <;> simp
theorem Qx8 {N : Nat} {t : List GNode} {l : List Int} (hl : l.length ≤ 1000) (hN : 2000 ≤ N) : Qhk N t l = some (Qh1 l && decide (l.length = t.length)) := by
 unfold Qhk
 simp only [Qcv]
 have := Qud N l (fun _ => some ((l.length : Int) == (t.length : Int))) hl N 0 (by simp; omega)
 rw [show ((0 : Nat) : Int) = 0 from rfl, List.drop_zero] at this
 rw [this]
 cases Qh1 l with
 | false => rfl
 | true =>
  rw [Qth]
  rfl
theorem Quo (N : Nat) (t : List GNode) (k : List GNode → Option (List GNode)) (hl : t.length ≤ 1000) : ∀ (n i : Nat) (acc : List GNode), (t.drop i).length < n → i ≤ t.length → acc.length = i →
  Qdz N t k n acc i = k (acc ++ t.drop i) := by
 intro n
 induction n with
 | zero => intro i _ h; exact absurd h (Nat.not_lt_zero _)
 | succ n ih =>
  intro i acc h hi hacc
  rw [Qdz]
  cases hd : t.drop i with
  | nil =>
   have := Qmi hd
   simp [show ¬ ((i : Int) < t.length) from by omega]
  | cons b l =>
   obtain ⟨hg, hd', hlt⟩ := Qk1 hd
   have e1 : w64 ((i : Int) + 1) = ((i + 1 : Nat) : Int) := Qc4 (by omega) (by omega)
   simp only [show decide ((i : Int) < t.length) = true from by simpa using hlt, cond_true, Qfo hg, Option.bind_some, e1]
   rw [ih (i + 1) (acc ++ [b]) (by rw [hd']; rw [hd] at h; simp at h; omega) hlt (by simp [hacc]), hd']
   simp only [chk, show decide ((acc.length + [b].length) * 32 ≤ 140737488355328) = true from by simp; omega, cond_true, List.append_assoc, List.cons_append, List.nil_append]
theorem Qy2 {N : Nat} {t : List GNode} (hl : t.length ≤ 1000) (hN : 2000 ≤ N) : Qfn N t = some t := by
 unfold Qfn
 simp only [Qcv]
 have := Quo N t (fun y1 => some y1) hl N 0 [] (by simp; omega) (by omega) rfl
 simpa using this
theorem few_eq (N : Nat) (t : List GNode) (l : List Int) : Qh9 N t l = some (decide ((t.length : Int) ≤ 35) && decide ((l.length : Int) ≤ 35)) := by
 unfold Qh9
 by_cases h : (t.length : Int) ≤ 35 <;> simp [h]
structure NodeP (i : Nat) (x : GNode) : Prop where
 par : 0 < i → 0 ≤ x.Parent ∧ x.Parent < i
 top : i = 0 → x.Parent = -1 ∧ x.Loss = 0 ∧ x.Limit = 0
 loss : 0 ≤ x.Loss ∧ x.Loss ≤ 1000000000
 limit : 0 ≤ x.Limit ∧ x.Limit ≤ 1000000000
 rank : 0 ≤ x.Rank ∧ x.Rank ≤ 100
theorem Qs6 : ∀ (l : List GNode) (k i : Nat) (x : GNode), Qlh k l = true → l[i]? = some x → (k + i = 0 ∨ 0 ≤ x.Parent ∧ x.Parent ≤ ((k + i : Nat) : Int) - 1) ∧ Qv7 x = true
 | [], _, _, _, _, h => by simp at h
 | y :: l, k, 0, x, h, hx => by
  simp at hx
  subst hx
  simp only [Qlh, Bool.and_eq_true, Bool.or_eq_true, decide_eq_true_eq, Qje] at h
  exact ⟨by omega, h.1.2⟩
 | y :: l, k, i + 1, x, h, hx => by
  simp only [Qlh, Bool.and_eq_true] at h
  have := Qs6 l (k + 1) i x h.2 (by simpa using hx)
  rw [show k + (i + 1) = k + 1 + i by omega]
  exact this
theorem Qft {t : List GNode} (h : Qg6 t = true) {i : Nat} {x : GNode} (hx : t[i]? = some x) : NodeP i x := by
 simp only [Qg6, Bool.and_eq_true] at h
 obtain ⟨⟨h1, h2⟩, h3⟩ := h
 obtain ⟨h4, h5⟩ := Qs6 t 0 i x h3 hx
 simp only [Qv7, Bool.and_eq_true, Qje] at h5
 refine ⟨fun hp => by omega, fun h0 => ?_, h5.1.1, h5.1.2, h5.2⟩
 subst h0
 cases t with
 | nil => simp at hx
 | cons y l =>
  simp at hx
  subst hx
  simp only [Qyo, Bool.and_eq_true, beq_iff_eq] at h2
  exact ⟨h2.1.1, h2.1.2, h2.2⟩
theorem Qij {t : List GNode} (h : Qg6 t = true) : 1 ≤ t.length ∧ t.length ≤ 30 := by
 simp only [Qg6, Bool.and_eq_true, Qje] at h
 omega
theorem Qnz {l : List Int} (h : Qh1 l = true) {i : Nat} {x : Int} (hx : l[i]? = some x) : 0 ≤ x ∧ x ≤ 1000000000 :=
 Qje.1 (List.all_eq_true.1 h x (List.mem_of_getElem? hx))
end Go.Proofs.Ytgdepcgbjjgnfaa
