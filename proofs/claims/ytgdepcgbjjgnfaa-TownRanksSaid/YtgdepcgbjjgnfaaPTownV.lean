/-
  Plain: valid towns and uses; copies; the flows of a town, node by node. No conditions.
-/
import Derived.Test.YtgdepcgbjjgnfaaX12
import Derived.Test.YtgdepcgbjjgnfaaPTown
namespace Go.Proofs.Ytgdepcgbjjgnfaa
open Go.RowKit
theorem natBeq (a b : Nat) : ((a : Int) == (b : Int)) = decide (a = b) := by
 by_cases h : a = b
 ·subst h; simp
 ·rw [decide_eq_false h]
  exact beq_eq_false_iff_ne.2 (by omega)
def Qvw (x : GNode) : Bool := btw x.Loss 0 1000000000 && btw x.Limit 0 1000000000 && btw x.Rank 0 100
def Qku (i : Nat) : List GNode → Bool
 | [] => true
 | x :: l => (decide (i = 0) || btw x.Parent 0 ((i : Int) - 1)) && Qvw x && Qku (i + 1) l
def Qyj : List GNode → Bool
 | [] => false
 | x :: _ => (x.Parent == -1) && (x.Loss == 0) && (x.Limit == 0)
def Qem (t : List GNode) : Bool := btw t.length 1 30 && Qyj t && Qku 0 t
theorem Qve (N : Nat) (x : Int) : Qer N x = some (btw x 0 1000000000) := by
 unfold Qer
 rw [Qj0]
 rfl
theorem Qqt (N : Nat) (t : List GNode) (k : Unit → Option Bool) (hl : t.length ≤ 1000) : ∀ (n i : Nat), (t.drop i).length < n →
  Qb3 N t k n i = bif Qku i (t.drop i) then k () else some false := by
 intro n
 induction n with
 | zero => intro i h; exact absurd h (Nat.not_lt_zero _)
 | succ n ih =>
  intro i h
  rw [Qb3]
  cases hd : t.drop i with
  | nil =>
   have := Qib hd
   simp [show ¬ ((i : Int) < t.length) from by omega, Qku]
  | cons b l =>
   obtain ⟨hi, hd', hlt⟩ := Qhe hd
   have e1 : w64 ((i : Int) + 1) = ((i + 1 : Nat) : Int) := Qb2 (by omega) (by omega)
   have ih' := ih (i + 1) (by rw [hd']; rw [hd] at h; simp at h; omega)
   rw [hd'] at ih'
   simp only [show decide ((i : Int) < t.length) = true from by simpa using hlt, cond_true, Qd4 hi, Option.bind_some, Qj0, Qve, e1, ih', Qku, Qvw]
   rcases Nat.eq_zero_or_pos i with rfl | hp
   ·cases btw b.Loss 0 1000000000 <;> cases btw b.Limit 0 1000000000 <;> cases btw b.Rank 0 100 <;> simp
   ·have e2 : w64 ((i : Int) - 1) = (i : Int) - 1 := Qb2 (by omega) (by omega)
    simp only [e2, show decide ((i : Int) > 0) = true from by simpa using hp, cond_true, show decide (i = 0) = false from by simp; omega, Bool.false_or]
    cases btw b.Parent 0 ((i : Int) - 1) <;> cases btw b.Loss 0 1000000000 <;> cases btw b.Limit 0 1000000000 <;> cases btw b.Rank 0 100 <;> simp
theorem Qqs (N : Nat) (t : List GNode) (k : Unit → Option Bool) (hl : t.length ≤ 1000) : ∀ (n i : Nat), (t.drop i).length < n →
  Qc1 N t k n i = bif Qku i (t.drop i) then k () else some false := by
 intro n
 induction n with
 | zero => intro i h; exact absurd h (Nat.not_lt_zero _)
 | succ n ih =>
  intro i h
  rw [Qc1]
  cases hd : t.drop i with
  | nil =>
   have := Qib hd
   simp [show ¬ ((i : Int) < t.length) from by omega, Qku]
  | cons b l =>
   obtain ⟨hi, hd', hlt⟩ := Qhe hd
   have e1 : w64 ((i : Int) + 1) = ((i + 1 : Nat) : Int) := Qb2 (by omega) (by omega)
   have ih' := ih (i + 1) (by rw [hd']; rw [hd] at h; simp at h; omega)
   rw [hd'] at ih'
   simp only [show decide ((i : Int) < t.length) = true from by simpa using hlt, cond_true, Qd4 hi, Option.bind_some, in_eq, e1, ih', Qku, Qvw]
   rcases Nat.eq_zero_or_pos i with rfl | hp
   ·cases btw b.Loss 0 1000000000 <;> cases btw b.Limit 0 1000000000 <;> cases btw b.Rank 0 100 <;> simp
   ·have e2 : w64 ((i : Int) - 1) = (i : Int) - 1 := Qb2 (by omega) (by omega)
    simp only [e2, show decide ((i : Int) > 0) = true from by simpa using hp, cond_true, show decide (i = 0) = false from by simp; omega, Bool.false_or]
    cases btw b.Parent 0 ((i : Int) - 1) <;> cases btw b.Loss 0 1000000000 <;> cases btw b.Limit 0 1000000000 <;> cases btw b.Rank 0 100 <;> simp
theorem Qm2 {t : List GNode} (h : 1 ≤ t.length) : ∃ x l, t = x :: l := by
 cases t with
 | nil => simp at h
 | cons x l => exact ⟨x, l, rfl⟩
theorem Qo8 {N : Nat} {t : List GNode} (hl : t.length ≤ 1000) (hN : 2000 ≤ N) : Qd7 N t = some (Qem t) := by
 unfold Qd7 Qem
 simp only [Qck, Qj0, Option.bind_some]
 cases hb : btw t.length 1 30 with
 | false => rfl
 | true =>
  obtain ⟨x, l, rfl⟩ := Qm2 (t := t) (by have := (Qhf.1 hb).1; omega)
  have := Qqt N (x :: l) (fun _ => some true) hl N 0 (by simp at hl ⊢; omega)
  rw [show ((0 : Nat) : Int) = 0 from rfl, List.drop_zero] at this
  rw [this]
  simp only [show getI (x :: l) 0 = some x from rfl, Option.bind_some, Qyj, Bool.not_true, cond_false]
  simp only [bne]
  cases (x.Parent == -1) <;> cases (x.Loss == 0) <;> cases (x.Limit == 0) <;> cases Qku 0 (x :: l) <;> rfl
theorem Qvc {N : Nat} {t : List GNode} (hl : t.length ≤ 1000) (hN : 2000 ≤ N) : Qgn N t = some (Qem t) := by
 unfold Qgn Qem
 simp only [Qck]
 by_cases h1 : (t.length : Int) < 1
 ·simp [h1, btw, show ¬ ((1 : Int) ≤ t.length) from by omega]
 ·by_cases h2 : (t.length : Int) > 30
  ·simp [h1, h2, btw, show ¬ ((t.length : Int) ≤ 30) from by omega]
  ·obtain ⟨x, l, rfl⟩ := Qm2 (t := t) (by omega)
   have := Qqs N (x :: l) (fun _ => some true) hl N 0 (by simp at hl ⊢; omega)
   rw [show ((0 : Nat) : Int) = 0 from rfl, List.drop_zero] at this
   rw [this]
   simp only [h1, h2, decide_false, cond_false, show getI (x :: l) 0 = some x from rfl, Option.bind_some, Qyj, Qhf.2 ⟨show (1 : Int) ≤ ((x :: l).length : Nat) by omega, show (((x :: l).length : Nat) : Int) ≤ 30 by omega⟩, Bool.true_and]
   simp only [bne]
   cases (x.Parent == -1) <;> cases (x.Loss == 0) <;> cases (x.Limit == 0) <;> cases Qku 0 (x :: l) <;> rfl
def Qek (l : List Int) : Bool := l.all fun x => btw x 0 1000000000
theorem Qrh (N : Nat) (t : List Int) (k : Unit → Option Int) (hl : t.length ≤ 1000) : ∀ (n i : Nat), (t.drop i).length < n → i ≤ t.length →
  Qbj N t k n i = bif Qek (t.drop i) then k () else some ((i : Int) + ((t.drop i).findIdx fun x => !btw x 0 1000000000 : Nat)) := by
 intro n
 induction n with
 | zero => intro i h; exact absurd h (Nat.not_lt_zero _)
 | succ n ih =>
  intro i h hi
  rw [Qbj]
  cases hd : t.drop i with
  | nil =>
   have := Qib hd
   simp [show ¬ ((i : Int) < t.length) from by omega, Qek]
  | cons b l =>
   obtain ⟨hg, hd', hlt⟩ := Qhe hd
   have e1 : w64 ((i : Int) + 1) = ((i + 1 : Nat) : Int) := Qb2 (by omega) (by omega)
   have ih' := ih (i + 1) (by rw [hd']; rw [hd] at h; simp at h; omega) hlt
   rw [hd'] at ih'
   simp only [show decide ((i : Int) < t.length) = true from by simpa using hlt, cond_true, Qd4 hg, Option.bind_some, Qd2, Qve, e1, ih', Qek, List.all_cons, List.findIdx_cons]
   cases hb : btw b 0 1000000000 with
   | false => simp
   | true =>
    cases hu : (l.all fun x => btw x 0 1000000000) with
    | true => simp
    | false => simp; omega
theorem Qxz {N : Nat} {t : List Int} (hl : t.length ≤ 1000) (hN : 2000 ≤ N) : Qe9 N t = some (Qek t) := by
 unfold Qe9 Qc0 Qdf
 simp only [Qck]
 have := Qrh N t (fun _ => some (-1)) hl N 0 (by simp; omega) (Nat.zero_le _)
 rw [show ((0 : Nat) : Int) = 0 from rfl, List.drop_zero] at this
 rw [this]
 cases Qek t with
 | true => rfl
 | false => simp
theorem Qtx (N : Nat) (t : List Int) (k : Unit → Option Bool) (hl : t.length ≤ 1000) : ∀ (n i : Nat), (t.drop i).length < n →
  Qdp N k t n i = bif Qek (t.drop i) then k () else some false := by
 intro n
 induction n with
 | zero => intro i h; exact absurd h (Nat.not_lt_zero _)
 | succ n ih =>
  intro i h
  rw [Qdp]
  cases hd : t.drop i with
  | nil =>
   have := Qib hd
   simp [show ¬ ((i : Int) < t.length) from by omega, Qek]
  | cons b l =>
   obtain ⟨hg, hd', hlt⟩ := Qhe hd
   have e1 : w64 ((i : Int) + 1) = ((i + 1 : Nat) : Int) := Qb2 (by omega) (by omega)
   have ih' := ih (i + 1) (by rw [hd']; rw [hd] at h; simp at h; omega)
   rw [hd'] at ih'
   simp only [show decide ((i : Int) < t.length) = true from by simpa using hlt, cond_true, Qd4 hg, Option.bind_some, in_eq, e1, ih', Qek, List.all_cons]
   cases btw b 0 1000000000 <;> simp
theorem Qxy {N : Nat} {t : List GNode} {l : List Int} (hl : l.length ≤ 1000) (hN : 2000 ≤ N) : Qha N t l = some (Qek l && decide (l.length = t.length)) := by
 unfold Qha
 simp only [Qck]
 have := Qtx N l (fun _ => some ((l.length : Int) == (t.length : Int))) hl N 0 (by simp; omega)
 rw [show ((0 : Nat) : Int) = 0 from rfl, List.drop_zero] at this
 rw [this]
 cases Qek l with
 | false => rfl
 | true =>
  rw [natBeq]
  rfl
theorem Qvd {N : Nat} {t : List GNode} {l : List Int} (ht : t.length ≤ 1000) (hl : l.length ≤ 1000) (hN : 2000 ≤ N) : Qgy N t l = some (bif Qem t then (bif Qek l && decide (l.length = t.length) then 0 else 2) else 1) := by
 unfold Qgy
 simp only [Qo8 ht hN, Option.bind_some, Qxz hl hN]
 cases Qem t with
 | false => rfl
 | true =>
  rw [bne, natBeq]
  cases decide (l.length = t.length) <;> cases Qek l <;> rfl
theorem Qt8 (N : Nat) (t : List GNode) (k : List GNode → Option (List GNode)) (hl : t.length ≤ 1000) : ∀ (n i : Nat) (acc : List GNode), (t.drop i).length < n → i ≤ t.length → acc.length = i →
  Qdq N t k n acc i = k (acc ++ t.drop i) := by
 intro n
 induction n with
 | zero => intro i _ h; exact absurd h (Nat.not_lt_zero _)
 | succ n ih =>
  intro i acc h hi hacc
  rw [Qdq]
  cases hd : t.drop i with
  | nil =>
   have := Qib hd
   simp [show ¬ ((i : Int) < t.length) from by omega]
  | cons b l =>
   obtain ⟨hg, hd', hlt⟩ := Qhe hd
   have e1 : w64 ((i : Int) + 1) = ((i + 1 : Nat) : Int) := Qb2 (by omega) (by omega)
   simp only [show decide ((i : Int) < t.length) = true from by simpa using hlt, cond_true, Qd4 hg, Option.bind_some, e1]
   rw [ih (i + 1) (acc ++ [b]) (by rw [hd']; rw [hd] at h; simp at h; omega) hlt (by simp [hacc]), hd']
   simp only [chk, show decide ((acc.length + [b].length) * 32 ≤ 140737488355328) = true from by simp; omega, cond_true, List.append_assoc, List.cons_append, List.nil_append]
theorem Qs7 {N : Nat} {t : List GNode} (hl : t.length ≤ 1000) (hN : 2000 ≤ N) : Qfb N t = some t := by
 unfold Qfb
 simp only [Qck]
 have := Qt8 N t (fun y1 => some y1) hl N 0 [] (by simp; omega) (by omega) rfl
 simpa using this
theorem Qyx {N : Nat} {l : List Int} (hl : l.length ≤ 1000) : Qhc N l = some l := by
 unfold Qhc
 simp only [chk]
 rw [show decide ((([] : List Int).length + l.length) * 8 ≤ 140737488355328) = true from by simp; omega]
 simp
theorem few_eq (N : Nat) (t : List GNode) (l : List Int) : Qht N t l = some (decide ((t.length : Int) ≤ 35) && decide ((l.length : Int) ≤ 35)) := by
 unfold Qht
 by_cases h : (t.length : Int) ≤ 35 <;> simp [h]
structure NodeP (i : Nat) (x : GNode) : Prop where
 par : 0 < i → 0 ≤ x.Parent ∧ x.Parent < i
 top : i = 0 → x.Parent = -1 ∧ x.Loss = 0 ∧ x.Limit = 0
 loss : 0 ≤ x.Loss ∧ x.Loss ≤ 1000000000
 limit : 0 ≤ x.Limit ∧ x.Limit ≤ 1000000000
 rank : 0 ≤ x.Rank ∧ x.Rank ≤ 100
theorem Qsh : ∀ (l : List GNode) (k i : Nat) (x : GNode), Qku k l = true → l[i]? = some x → (k + i = 0 ∨ 0 ≤ x.Parent ∧ x.Parent ≤ ((k + i : Nat) : Int) - 1) ∧ Qvw x = true
 | [], _, _, _, _, h => by simp at h
 | y :: l, k, 0, x, h, hx => by
  simp at hx
  subst hx
  simp only [Qku, Bool.and_eq_true, Bool.or_eq_true, decide_eq_true_eq, Qhf] at h
  exact ⟨by omega, h.1.2⟩
 | y :: l, k, i + 1, x, h, hx => by
  simp only [Qku, Bool.and_eq_true] at h
  have := Qsh l (k + 1) i x h.2 (by simpa using hx)
  rw [show k + (i + 1) = k + 1 + i by omega]
  exact this
theorem Qkx {t : List GNode} (h : Qem t = true) {i : Nat} {x : GNode} (hx : t[i]? = some x) : NodeP i x := by
 simp only [Qem, Bool.and_eq_true] at h
 obtain ⟨⟨h1, h2⟩, h3⟩ := h
 obtain ⟨h4, h5⟩ := Qsh t 0 i x h3 hx
 simp only [Qvw, Bool.and_eq_true, Qhf] at h5
 refine ⟨fun hp => by omega, fun h0 => ?_, h5.1.1, h5.1.2, h5.2⟩
 subst h0
 cases t with
 | nil => simp at hx
 | cons y l =>
  simp at hx
  subst hx
  simp only [Qyj, Bool.and_eq_true, beq_iff_eq] at h2
  exact ⟨h2.1.1, h2.1.2, h2.2⟩
theorem Qfp {t : List GNode} (h : Qem t = true) : 1 ≤ t.length ∧ t.length ≤ 30 := by
 simp only [Qem, Bool.and_eq_true, Qhf] at h
 omega
theorem Qsg {l : List Int} (h : Qek l = true) {i : Nat} {x : Int} (hx : l[i]? = some x) : 0 ≤ x ∧ x ≤ 1000000000 :=
 Qhf.1 (List.all_eq_true.1 h x (List.mem_of_getElem? hx))
end Go.Proofs.Ytgdepcgbjjgnfaa
