/-
  Plain: an amount in parts is all of it, and each part is near its share. No conditions.
-/
import Derived.Test.YtflmombnmnblnaaPSplt
namespace Go.Proofs.Ytflmombnmnblnaa
open Go.RowKit
theorem Qj4 (N : Nat) (a lo hi : Int) : Qdf N a lo hi = some (btw a lo hi) := by
 unfold Qdf btw
 by_cases h : lo ≤ a <;> simp [h]
theorem total_eq (N : Nat) (a : Int) : Qel N a = some (btw a 0 1000000000000) := by
 simp [Qel, Qj4]
def Wts (l : List Int) : Prop := l.length ≤ 8 ∧ ∀ x ∈ l, 0 ≤ x ∧ x ≤ 1000000000000
theorem sum_bd : ∀ (l : List Int), (∀ x ∈ l, 0 ≤ x ∧ x ≤ 1000000000000) → 0 ≤ l.sum ∧ l.sum ≤ 1000000000000 * l.length
 | [], _ => by simp
 | x :: l, h => by
  obtain ⟨h1, h2⟩ := sum_bd l fun y hy => h y (List.mem_cons_of_mem _ hy)
  have := h x (by simp)
  simp only [List.sum_cons, List.length_cons]
  omega
theorem Qj7 : ∀ (l : List Int), (∀ x ∈ l, 0 ≤ x) → ∀ x ∈ l, x ≤ l.sum
 | [], _ => fun _ h => by cases h
 | y :: l, h => fun x hx => by
  have h0 : 0 ≤ l.sum := by
   have : ∀ (l : List Int), (∀ x ∈ l, 0 ≤ x) → 0 ≤ l.sum := fun l => by
    induction l with
    | nil => intro _; simp
    | cons a l ih => intro h; have h1 := ih fun y hy => h y (List.mem_cons_of_mem _ hy); have := h a (by simp); simp only [List.sum_cons]; omega
   exact this l fun y hy => h y (List.mem_cons_of_mem _ hy)
  have hy := h y (by simp)
  simp only [List.sum_cons]
  rcases List.mem_cons.1 hx with rfl | hx
  ·omega
  ·have := Qj7 l (fun y hy => h y (List.mem_cons_of_mem _ hy)) x hx
   omega
theorem sumL_loop (N : Nat) (l : List Int) (k : Int → Option Int) (hl : Wts l) : ∀ (n i : Nat) (a : Int), (l.drop i).length < n → 0 ≤ a → a ≤ 1000000000000 * i → i ≤ l.length →
  Qdb N l k n a i = k (a + (l.drop i).sum) := by
 intro n
 induction n with
 | zero => intro i _ h; exact absurd h (Nat.not_lt_zero _)
 | succ n ih =>
  intro i a h ha ha' hi
  rw [Qdb]
  cases hd : l.drop i with
  | nil =>
   have := Qed hd
   simp [show ¬ ((i : Int) < l.length) from by omega]
  | cons b t =>
   obtain ⟨hg, hd', hlt⟩ := Qdu hd
   have hb := hl.2 b (List.mem_of_getElem? hg)
   have h8 := hl.1
   have e1 : w64 ((i : Int) + 1) = ((i + 1 : Nat) : Int) := Qb3 (by omega) (by omega)
   simp only [show decide ((i : Int) < l.length) = true from by simpa using hlt, cond_true, Qei hg, Option.bind_some, e1, Qb3 (x := a + b) (by omega) (by omega)]
   rw [ih (i + 1) (a + b) (by rw [hd']; rw [hd] at h; simp at h; omega) (by omega) (by omega) (by omega), hd', List.sum_cons, Int.add_assoc]
theorem sumL_eq {N : Nat} {l : List Int} (hl : Wts l) (hN : 1000 ≤ N) : Qem N l = some l.sum := by
 have h8 := hl.1
 unfold Qem
 simp only [Qcg]
 have := sumL_loop N l (fun y1 => some y1) hl N 0 0 (by simp; omega) (Int.le_refl _) (by simp) (by omega)
 simpa using this
theorem idx_loop (N : Nat) (l : List Int) (k : Unit → Option Int) (hl : Wts l) : ∀ (n i : Nat), (l.drop i).length < n → Qa3 N l k n i = k () := by
 intro n
 induction n with
 | zero => intro i h; exact absurd h (Nat.not_lt_zero _)
 | succ n ih =>
  intro i h
  rw [Qa3]
  cases hd : l.drop i with
  | nil =>
   have := Qed hd
   simp [show ¬ ((i : Int) < l.length) from by omega]
  | cons b t =>
   obtain ⟨hg, hd', hlt⟩ := Qdu hd
   have hb := hl.2 b (List.mem_of_getElem? hg)
   have h8 := hl.1
   have e1 : w64 ((i : Int) + 1) = ((i + 1 : Nat) : Int) := Qb3 (by omega) (by omega)
   simp only [show decide ((i : Int) < l.length) = true from by simpa using hlt, cond_true, Qei hg, Option.bind_some, e1, Qd0, total_eq, Qhw.2 hb, Bool.not_true, cond_false]
   exact ih (i + 1) (by rw [hd']; rw [hd] at h; simp at h; omega)
theorem allL_eq {N : Nat} {l : List Int} (hl : Wts l) (hN : 1000 ≤ N) : Qdm N l = some true := by
 have h8 := hl.1
 unfold Qdm Qck Qc0
 simp only [Qcg]
 have := idx_loop N l (fun _ => some (-1)) hl N 0 (by simp; omega)
 rw [show ((0 : Nat) : Int) = 0 from rfl] at this
 rw [this]
 rfl
def prt (a W w : Int) : GPortion := ⟨a * w / W, a * w % W⟩
theorem prt_bd {a W w : Int} (ha : 0 ≤ a) (hw : 0 ≤ w) (hwW : w ≤ W) (hW : 0 < W) : 0 ≤ (prt a W w).n ∧ (prt a W w).n ≤ a ∧ 0 ≤ (prt a W w).left ∧ (prt a W w).left < W ∧ W * (prt a W w).n + (prt a W w).left = a * w := by
 have p0 : 0 ≤ a * w := Int.mul_nonneg ha hw
 have h1 : a * w ≤ a * W := Int.mul_le_mul_of_nonneg_left hwW ha
 have h2 := Int.ediv_le_ediv hW h1
 rw [Int.mul_ediv_cancel _ (by omega)] at h2
 have h3 := Int.emod_add_mul_ediv (a * w) W
 exact ⟨Int.ediv_nonneg p0 (by omega), h2, Int.emod_nonneg _ (by omega), Int.emod_lt_of_pos _ hW, by simp only [prt]; omega⟩
theorem prt_sum {a W : Int} (ha : 0 ≤ a) (hW : 0 < W) : ∀ (l : List Int), (∀ x ∈ l, 0 ≤ x ∧ x ≤ W) → W * (l.map fun w => (prt a W w).n).sum ≤ a * l.sum ∧ a * l.sum ≤ W * (l.map fun w => (prt a W w).n).sum + W * l.length ∧ 0 ≤ (l.map fun w => (prt a W w).n).sum
 | [], _ => by simp
 | x :: l, h => by
  obtain ⟨h1, h2, h3⟩ := prt_sum ha hW l fun y hy => h y (List.mem_cons_of_mem _ hy)
  obtain ⟨b1, b2⟩ := h x (by simp)
  obtain ⟨p1, p2, p3, p4, p5⟩ := prt_bd ha b1 b2 hW
  simp only [List.map_cons, List.sum_cons, List.length_cons, Int.mul_add, Int.natCast_add, Int.natCast_one, Int.mul_one]
  omega
theorem parts_loop (N : Nat) (a W : Int) (w : List Int) (k : List GPortion × Int → Option (List Int × Int)) (hl : Wts w) (ha : 0 ≤ a) (ha' : a ≤ 1000000000000) (hW : 0 < W) (hW' : W ≤ 8000000000000) (hN : 1000 ≤ N) (hb : ∀ x ∈ w, x ≤ W) : ∀ (n i : Nat) (acc : List GPortion) (r : Int), (w.drop i).length < n → acc.length = i → i ≤ w.length → r ≤ 1000000000000 → -1000000000000 * i ≤ r →
  Qcl N a w W k n acc r i = k (acc ++ (w.drop i).map (prt a W), r - ((w.drop i).map fun x => (prt a W x).n).sum) := by
 intro n
 induction n with
 | zero => intro i _ _ h; exact absurd h (Nat.not_lt_zero _)
 | succ n ih =>
  intro i acc r h hacc hi hr hr'
  rw [Qcl]
  cases hd : w.drop i with
  | nil =>
   have := Qed hd
   simp [show ¬ ((i : Int) < w.length) from by omega]
  | cons b t =>
   obtain ⟨hg, hd', hlt⟩ := Qdu hd
   have hb1 := hl.2 b (List.mem_of_getElem? hg)
   have hb2 := hb b (List.mem_of_getElem? hg)
   have h8 := hl.1
   have e1 : w64 ((i : Int) + 1) = ((i + 1 : Nat) : Int) := Qb3 (by omega) (by omega)
   obtain ⟨p1, p2, _⟩ := prt_bd ha hb1.1 hb2 hW
   have e2 : w64 (r - (prt a W b).n) = r - (prt a W b).n := Qb3 (by omega) (by omega)
   simp only [show decide ((i : Int) < w.length) = true from by simpa using hlt, cond_true, Qei hg, Option.bind_some, e1, part_eq (show 41 ≤ N by omega) ha ha' hb1.1 hb2 hW (by omega), chk]
   rw [show decide ((acc.length + [(⟨a * b / W, a * b % W⟩ : GPortion)].length) * 16 ≤ 140737488355328) = true from by simp; omega, cond_true]
   show Qcl N a w W k n (acc ++ [prt a W b]) (w64 (r - (prt a W b).n)) ((i + 1 : Nat) : Int) = _
   rw [e2, ih (i + 1) _ _ (by rw [hd']; rw [hd] at h; simp at h; omega) (by simp [hacc]) (by omega) (by omega) (by omega), hd']
   simp only [List.append_assoc, List.cons_append, List.nil_append, List.map_cons, List.sum_cons]
   rw [show r - (prt a W b).n - (t.map fun x => (prt a W x).n).sum = r - ((prt a W b).n + (t.map fun x => (prt a W x).n).sum) by omega]
theorem outs_loop (N : Nat) (w : List Int) (p : List GPortion) (k : List GPortion × List Int → Option (List Int × Int)) (hlen : p.length = w.length) (h8 : w.length ≤ 8) : ∀ (n i : Nat) (o : List Int), (p.drop i).length < n → i ≤ p.length → o.length = p.length - i →
  Qc3 N w p k n p p i ((p.take i).map (fun x => x.n) ++ o) = k (p, p.map fun x => x.n) := by
 intro n
 induction n with
 | zero => intro i _ h; exact absurd h (Nat.not_lt_zero _)
 | succ n ih =>
  intro i o h hi ho
  rw [Qc3]
  cases hd : p.drop i with
  | nil =>
   have := Qed hd
   have e : o = [] := List.length_eq_zero_iff.1 (by omega)
   simp [show ¬ ((i : Int) < p.length) from by omega, e, List.take_of_length_le this]
  | cons b t =>
   obtain ⟨hg, hd', hlt⟩ := Qdu hd
   have e1 : w64 ((i : Int) + 1) = ((i + 1 : Nat) : Int) := Qb3 (by omega) (by omega)
   obtain ⟨x, o', rfl⟩ : ∃ x o', o = x :: o' := by
    cases o with
    | nil => simp at ho; omega
    | cons x o' => exact ⟨x, o', rfl⟩
   have hlt' : ((p.take i).map fun x => x.n).length = i := by simp; omega
   have e2 : ((p.take i).map (fun x => x.n) ++ x :: o')[i]? = some x := by rw [List.getElem?_append_right (by omega), hlt']; simp
   have e3 : ((p.take i).map (fun x => x.n) ++ x :: o').set i b.n = (p.take (i + 1)).map (fun x => x.n) ++ o' := by
    rw [List.set_append_right _ _ (by omega), hlt', Nat.sub_self, List.set_cons_zero, List.take_add_one, hg]
    simp
   have e4 : ((i : Int) : Int).toNat = i := by omega
   simp only [show decide ((i : Int) < p.length) = true from by simpa using hlt, cond_true, Qei hg, Option.bind_some, e1, chk, e4, e2, e3]
   rw [show (decide ((0 : Int) ≤ (i : Int)) && decide (i < (w.length : Int).toNat)) = true from by simp; omega, cond_true]
   exact ih (i + 1) o' (by rw [hd']; rw [hd] at h; simp at h; omega) (by omega) (by simp at ho; omega)
end Go.Proofs.Ytflmombnmnblnaa
