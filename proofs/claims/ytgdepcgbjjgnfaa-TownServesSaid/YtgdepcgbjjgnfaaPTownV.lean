/-
  Plain: valid towns and uses; copies; the flows of a town, node by node. No conditions.
-/
import Derived.Test.YtgdepcgbjjgnfaaX12
import Derived.Test.YtgdepcgbjjgnfaaPTown
namespace Go.Proofs.Ytgdepcgbjjgnfaa
open Go.RowKit
theorem Qy6 (a b : Nat) : ((a : Int) == (b : Int)) = decide (a = b) := by
 by_cases h : a = b
 ·subst h; simp
 ·rw [decide_eq_false h]
  exact beq_eq_false_iff_ne.2 (by omega)
def Qvg (x : GNode) : Bool := btw x.Loss 0 1000000000 && btw x.Limit 0 1000000000 && btw x.Rank 0 100
def Qkw (i : Nat) : List GNode → Bool
 | [] => true
 | x :: l => (decide (i = 0) || btw x.Parent 0 ((i : Int) - 1)) && Qvg x && Qkw (i + 1) l
def Qx1 : List GNode → Bool
 | [] => false
 | x :: _ => (x.Parent == -1) && (x.Loss == 0) && (x.Limit == 0)
def Qes (t : List GNode) : Bool := btw t.length 1 30 && Qx1 t && Qkw 0 t
theorem Qy1 (N : Nat) (x : Int) : Qek N x = some (btw x 0 1000000000) := by
 unfold Qek
 rw [Qj0]
 rfl
theorem Qqe (N : Nat) (t : List GNode) (k : Unit → Option Bool) (hl : t.length ≤ 1000) : ∀ (n i : Nat), (t.drop i).length < n →
  Qb1 N t k n i = bif Qkw i (t.drop i) then k () else some false := by
 intro n
 induction n with
 | zero => intro i h; exact absurd h (Nat.not_lt_zero _)
 | succ n ih =>
  intro i h
  rw [Qb1]
  cases hd : t.drop i with
  | nil =>
   have := Qh5 hd
   simp [show ¬ ((i : Int) < t.length) from by omega, Qkw]
  | cons b l =>
   obtain ⟨hi, hd', hlt⟩ := Qg5 hd
   have e1 : w64 ((i : Int) + 1) = ((i + 1 : Nat) : Int) := Qbr (by omega) (by omega)
   have ih' := ih (i + 1) (by rw [hd']; rw [hd] at h; simp at h; omega)
   rw [hd'] at ih'
   simp only [show decide ((i : Int) < t.length) = true from by simpa using hlt, cond_true, Qeh hi, Option.bind_some, Qj0, Qy1, e1, ih', Qkw, Qvg]
   rcases Nat.eq_zero_or_pos i with rfl | hp
   ·cases btw b.Loss 0 1000000000 <;> cases btw b.Limit 0 1000000000 <;> cases btw b.Rank 0 100 <;> simp
   ·have e2 : w64 ((i : Int) - 1) = (i : Int) - 1 := Qbr (by omega) (by omega)
    simp only [e2, show decide ((i : Int) > 0) = true from by simpa using hp, cond_true, show decide (i = 0) = false from by simp; omega, Bool.false_or]
    cases btw b.Parent 0 ((i : Int) - 1) <;> cases btw b.Loss 0 1000000000 <;> cases btw b.Limit 0 1000000000 <;> cases btw b.Rank 0 100 <;> simp
theorem Qqd (N : Nat) (t : List GNode) (k : Unit → Option Bool) (hl : t.length ≤ 1000) : ∀ (n i : Nat), (t.drop i).length < n →
  Qct N t k n i = bif Qkw i (t.drop i) then k () else some false := by
 intro n
 induction n with
 | zero => intro i h; exact absurd h (Nat.not_lt_zero _)
 | succ n ih =>
  intro i h
  rw [Qct]
  cases hd : t.drop i with
  | nil =>
   have := Qh5 hd
   simp [show ¬ ((i : Int) < t.length) from by omega, Qkw]
  | cons b l =>
   obtain ⟨hi, hd', hlt⟩ := Qg5 hd
   have e1 : w64 ((i : Int) + 1) = ((i + 1 : Nat) : Int) := Qbr (by omega) (by omega)
   have ih' := ih (i + 1) (by rw [hd']; rw [hd] at h; simp at h; omega)
   rw [hd'] at ih'
   simp only [show decide ((i : Int) < t.length) = true from by simpa using hlt, cond_true, Qeh hi, Option.bind_some, in_eq, e1, ih', Qkw, Qvg]
   rcases Nat.eq_zero_or_pos i with rfl | hp
   ·cases btw b.Loss 0 1000000000 <;> cases btw b.Limit 0 1000000000 <;> cases btw b.Rank 0 100 <;> simp
   ·have e2 : w64 ((i : Int) - 1) = (i : Int) - 1 := Qbr (by omega) (by omega)
    simp only [e2, show decide ((i : Int) > 0) = true from by simpa using hp, cond_true, show decide (i = 0) = false from by simp; omega, Bool.false_or]
    cases btw b.Parent 0 ((i : Int) - 1) <;> cases btw b.Loss 0 1000000000 <;> cases btw b.Limit 0 1000000000 <;> cases btw b.Rank 0 100 <;> simp
theorem Qmz {t : List GNode} (h : 1 ≤ t.length) : ∃ x l, t = x :: l := by
 cases t with
 | nil => simp at h
 | cons x l => exact ⟨x, l, rfl⟩
theorem Quu {N : Nat} {t : List GNode} (hl : t.length ≤ 1000) (hN : 2000 ≤ N) : Qel N t = some (Qes t) := by
 unfold Qel Qes
 simp only [Qcd, Qj0, Option.bind_some]
 cases hb : btw t.length 1 30 with
 | false => rfl
 | true =>
  obtain ⟨x, l, rfl⟩ := Qmz (t := t) (by have := (Qhg.1 hb).1; omega)
  have := Qqe N (x :: l) (fun _ => some true) hl N 0 (by simp at hl ⊢; omega)
  rw [show ((0 : Nat) : Int) = 0 from rfl, List.drop_zero] at this
  rw [this]
  simp only [show getI (x :: l) 0 = some x from rfl, Option.bind_some, Qx1, Bool.not_true, cond_false]
  simp only [bne]
  cases (x.Parent == -1) <;> cases (x.Loss == 0) <;> cases (x.Limit == 0) <;> cases Qkw 0 (x :: l) <;> rfl
theorem Qut {N : Nat} {t : List GNode} (hl : t.length ≤ 1000) (hN : 2000 ≤ N) : Qge N t = some (Qes t) := by
 unfold Qge Qes
 simp only [Qcd]
 by_cases h1 : (t.length : Int) < 1
 ·simp [h1, btw, show ¬ ((1 : Int) ≤ t.length) from by omega]
 ·by_cases h2 : (t.length : Int) > 30
  ·simp [h1, h2, btw, show ¬ ((t.length : Int) ≤ 30) from by omega]
  ·obtain ⟨x, l, rfl⟩ := Qmz (t := t) (by omega)
   have := Qqd N (x :: l) (fun _ => some true) hl N 0 (by simp at hl ⊢; omega)
   rw [show ((0 : Nat) : Int) = 0 from rfl, List.drop_zero] at this
   rw [this]
   simp only [h1, h2, decide_false, cond_false, show getI (x :: l) 0 = some x from rfl, Option.bind_some, Qx1, Qhg.2 ⟨show (1 : Int) ≤ ((x :: l).length : Nat) by omega, show (((x :: l).length : Nat) : Int) ≤ 30 by omega⟩, Bool.true_and]
   simp only [bne]
   cases (x.Parent == -1) <;> cases (x.Loss == 0) <;> cases (x.Limit == 0) <;> cases Qkw 0 (x :: l) <;> rfl
def Qe4 (l : List Int) : Bool := l.all fun x => btw x 0 1000000000
theorem Qqz (N : Nat) (t : List Int) (k : Unit → Option Int) (hl : t.length ≤ 1000) : ∀ (n i : Nat), (t.drop i).length < n → i ≤ t.length →
  Qbf N t k n i = bif Qe4 (t.drop i) then k () else some ((i : Int) + ((t.drop i).findIdx fun x => !btw x 0 1000000000 : Nat)) := by
 intro n
 induction n with
 | zero => intro i h; exact absurd h (Nat.not_lt_zero _)
 | succ n ih =>
  intro i h hi
  rw [Qbf]
  cases hd : t.drop i with
  | nil =>
   have := Qh5 hd
   simp [show ¬ ((i : Int) < t.length) from by omega, Qe4]
  | cons b l =>
   obtain ⟨hg, hd', hlt⟩ := Qg5 hd
   have e1 : w64 ((i : Int) + 1) = ((i + 1 : Nat) : Int) := Qbr (by omega) (by omega)
   have ih' := ih (i + 1) (by rw [hd']; rw [hd] at h; simp at h; omega) hlt
   rw [hd'] at ih'
   simp only [show decide ((i : Int) < t.length) = true from by simpa using hlt, cond_true, Qeh hg, Option.bind_some, Qe6, Qy1, e1, ih', Qe4, List.all_cons, List.findIdx_cons]
   cases hb : btw b 0 1000000000 with
   | false => simp
   | true =>
    cases hu : (l.all fun x => btw x 0 1000000000) with
    | true => simp
    | false => simp; omega
theorem Qxh {N : Nat} {t : List Int} (hl : t.length ≤ 1000) (hN : 2000 ≤ N) : Qe1 N t = some (Qe4 t) := by
 unfold Qe1 Qcs Qdd
 simp only [Qcd]
 have := Qqz N t (fun _ => some (-1)) hl N 0 (by simp; omega) (Nat.zero_le _)
 rw [show ((0 : Nat) : Int) = 0 from rfl, List.drop_zero] at this
 rw [this]
 cases Qe4 t with
 | true => rfl
 | false => simp
theorem Qth (N : Nat) (t : List Int) (k : Unit → Option Bool) (hl : t.length ≤ 1000) : ∀ (n i : Nat), (t.drop i).length < n →
  Qdp N k t n i = bif Qe4 (t.drop i) then k () else some false := by
 intro n
 induction n with
 | zero => intro i h; exact absurd h (Nat.not_lt_zero _)
 | succ n ih =>
  intro i h
  rw [Qdp]
  cases hd : t.drop i with
  | nil =>
   have := Qh5 hd
   simp [show ¬ ((i : Int) < t.length) from by omega, Qe4]
  | cons b l =>
   obtain ⟨hg, hd', hlt⟩ := Qg5 hd
   have e1 : w64 ((i : Int) + 1) = ((i + 1 : Nat) : Int) := Qbr (by omega) (by omega)
   have ih' := ih (i + 1) (by rw [hd']; rw [hd] at h; simp at h; omega)
   rw [hd'] at ih'
   simp only [show decide ((i : Int) < t.length) = true from by simpa using hlt, cond_true, Qeh hg, Option.bind_some, in_eq, e1, ih', Qe4, List.all_cons]
   cases btw b 0 1000000000 <;> simp
theorem Qxg {N : Nat} {t : List GNode} {l : List Int} (hl : l.length ≤ 1000) (hN : 2000 ≤ N) : Qg0 N t l = some (Qe4 l && decide (l.length = t.length)) := by
 unfold Qg0
 simp only [Qcd]
 have := Qth N l (fun _ => some ((l.length : Int) == (t.length : Int))) hl N 0 (by simp; omega)
 rw [show ((0 : Nat) : Int) = 0 from rfl, List.drop_zero] at this
 rw [this]
 cases Qe4 l with
 | false => rfl
 | true =>
  rw [Qy6]
  rfl
theorem used_eq {N : Nat} {t : List GNode} {l : List Int} (ht : t.length ≤ 1000) (hl : l.length ≤ 1000) (hN : 2000 ≤ N) : Qgp N t l = some (bif Qes t then (bif Qe4 l && decide (l.length = t.length) then 0 else 2) else 1) := by
 unfold Qgp
 simp only [Quu ht hN, Option.bind_some, Qxh hl hN]
 cases Qes t with
 | false => rfl
 | true =>
  rw [bne, Qy6]
  cases decide (l.length = t.length) <;> cases Qe4 l <;> rfl
theorem Qts (N : Nat) (t : List GNode) (k : List GNode → Option (List GNode)) (hl : t.length ≤ 1000) : ∀ (n i : Nat) (acc : List GNode), (t.drop i).length < n → i ≤ t.length → acc.length = i →
  Qdq N t k n acc i = k (acc ++ t.drop i) := by
 intro n
 induction n with
 | zero => intro i _ h; exact absurd h (Nat.not_lt_zero _)
 | succ n ih =>
  intro i acc h hi hacc
  rw [Qdq]
  cases hd : t.drop i with
  | nil =>
   have := Qh5 hd
   simp [show ¬ ((i : Int) < t.length) from by omega]
  | cons b l =>
   obtain ⟨hg, hd', hlt⟩ := Qg5 hd
   have e1 : w64 ((i : Int) + 1) = ((i + 1 : Nat) : Int) := Qbr (by omega) (by omega)
   simp only [show decide ((i : Int) < t.length) = true from by simpa using hlt, cond_true, Qeh hg, Option.bind_some, e1]
   rw [ih (i + 1) (acc ++ [b]) (by rw [hd']; rw [hd] at h; simp at h; omega) hlt (by simp [hacc]), hd']
   simp only [chk, show decide ((acc.length + [b].length) * 32 ≤ 140737488355328) = true from by simp; omega, cond_true, List.append_assoc, List.cons_append, List.nil_append]
theorem Qyh {N : Nat} {t : List GNode} (hl : t.length ≤ 1000) (hN : 2000 ≤ N) : Qg3 N t = some t := by
 unfold Qg3
 simp only [Qcd]
 have := Qts N t (fun y1 => some y1) hl N 0 [] (by simp; omega) (by omega) rfl
 simpa using this
theorem Qyi {N : Nat} {l : List Int} (hl : l.length ≤ 1000) : Qg2 N l = some l := by
 unfold Qg2
 simp only [chk]
 rw [show decide ((([] : List Int).length + l.length) * 8 ≤ 140737488355328) = true from by simp; omega]
 simp
theorem few_eq (N : Nat) (t : List GNode) (l : List Int) : Qhm N t l = some (decide ((t.length : Int) ≤ 35) && decide ((l.length : Int) ≤ 35)) := by
 unfold Qhm
 by_cases h : (t.length : Int) ≤ 35 <;> simp [h]
structure NodeP (i : Nat) (x : GNode) : Prop where
 par : 0 < i → 0 ≤ x.Parent ∧ x.Parent < i
 top : i = 0 → x.Parent = -1 ∧ x.Loss = 0 ∧ x.Limit = 0
 loss : 0 ≤ x.Loss ∧ x.Loss ≤ 1000000000
 limit : 0 ≤ x.Limit ∧ x.Limit ≤ 1000000000
 rank : 0 ≤ x.Rank ∧ x.Rank ≤ 100
theorem Qr4 : ∀ (l : List GNode) (k i : Nat) (x : GNode), Qkw k l = true → l[i]? = some x → (k + i = 0 ∨ 0 ≤ x.Parent ∧ x.Parent ≤ ((k + i : Nat) : Int) - 1) ∧ Qvg x = true
 | [], _, _, _, _, h => by simp at h
 | y :: l, k, 0, x, h, hx => by
  simp at hx
  subst hx
  simp only [Qkw, Bool.and_eq_true, Bool.or_eq_true, decide_eq_true_eq, Qhg] at h
  exact ⟨by omega, h.1.2⟩
 | y :: l, k, i + 1, x, h, hx => by
  simp only [Qkw, Bool.and_eq_true] at h
  have := Qr4 l (k + 1) i x h.2 (by simpa using hx)
  rw [show k + (i + 1) = k + 1 + i by omega]
  exact this
theorem Qjq {t : List GNode} (h : Qes t = true) {i : Nat} {x : GNode} (hx : t[i]? = some x) : NodeP i x := by
 simp only [Qes, Bool.and_eq_true] at h
 obtain ⟨⟨h1, h2⟩, h3⟩ := h
 obtain ⟨h4, h5⟩ := Qr4 t 0 i x h3 hx
 simp only [Qvg, Bool.and_eq_true, Qhg] at h5
 refine ⟨fun hp => by omega, fun h0 => ?_, h5.1.1, h5.1.2, h5.2⟩
 subst h0
 cases t with
 | nil => simp at hx
 | cons y l =>
  simp at hx
  subst hx
  simp only [Qx1, Bool.and_eq_true, beq_iff_eq] at h2
  exact ⟨h2.1.1, h2.1.2, h2.2⟩
theorem Qe5 {t : List GNode} (h : Qes t = true) : 1 ≤ t.length ∧ t.length ≤ 30 := by
 simp only [Qes, Bool.and_eq_true, Qhg] at h
 omega
theorem Qr3 {l : List Int} (h : Qe4 l = true) {i : Nat} {x : Int} (hx : l[i]? = some x) : 0 ≤ x ∧ x ≤ 1000000000 :=
 Qhg.1 (List.all_eq_true.1 h x (List.mem_of_getElem? hx))
end Go.Proofs.Ytgdepcgbjjgnfaa
