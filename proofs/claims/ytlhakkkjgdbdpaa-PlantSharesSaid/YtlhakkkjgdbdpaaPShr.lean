/-
  Plain laws on heads and units: what is valid, the steam from a head on, sharings, their work, prices and bounds. No conditions.
-/
import Derived.Test.YtlhakkkjgdbdpaaX12
import Derived.Test.YtlhakkkjgdbdpaaPRw
namespace Go.Proofs.Ytlhakkkjgdbdpaa
open Go.RowKit
def Quj (x : Int) : Bool := btw x 0 1000000
def Qm5 (n : Nat) (u : GUnit) : Bool := Qjx u && decide (u.Inlet < n)
def Qjn (h : List Int) (us : List GUnit) : Bool := btw h.length 1 6 && h.all Quj && btw us.length 1 10 && us.all (Qm5 h.length)
structure ShOK (h : List Int) (us : List GUnit) : Prop where
 h0 : 1 ≤ h.length
 h1 : h.length ≤ 6
 hm : ∀ x ∈ h, 0 ≤ x ∧ x ≤ 1000000
 u0 : 1 ≤ us.length
 u1 : us.length ≤ 10
 ub : ∀ u ∈ us, Qjx u = true
 inl : ∀ u ∈ us, 0 ≤ u.Inlet ∧ u.Inlet < h.length
theorem shOK {h : List Int} {us : List GUnit} (hB : Qjn h us = true) : ShOK h us := by
 unfold Qjn at hB
 simp only [Bool.and_eq_true, Qfu, List.all_eq_true] at hB
 obtain ⟨⟨⟨h1, h2⟩, h3⟩, h4⟩ := hB
 refine ⟨by omega, by omega, fun x hx => Qfu.1 (h2 x hx), by omega, by omega, fun u hu => ?_, fun u hu => ?_⟩
 ·have := h4 u hu
  unfold Qm5 at this
  simp only [Bool.and_eq_true] at this
  exact this.1
 ·have := h4 u hu
  unfold Qm5 at this
  simp only [Bool.and_eq_true, decide_eq_true_eq] at this
  exact ⟨(Qev this.1).1.1, this.2⟩
theorem heads_loop (N : Nat) (t : List Int) (hl : (t.length : Int) ≤ 9223372036854775807) : ∀ (n i : Nat), (t.drop i).length < n →
  ∃ x : Int, Qbq N t (fun _ => some (-1)) n i = some x ∧ (decide (x ≥ 0)) = !((t.drop i).all Quj) := by
 intro n
 induction n with
 | zero => intro i h; exact absurd h (Nat.not_lt_zero _)
 | succ n ih =>
  intro i h
  rw [Qbq]
  cases hd : t.drop i with
  | nil =>
   have := Qe4 hd
   exact ⟨-1, by simp [show ¬ ((i : Int) < t.length) from by omega], rfl⟩
  | cons p l =>
   obtain ⟨hi, hd', hlt⟩ := Qeb hd
   have e1 : w64 ((i : Int) + 1) = ((i + 1 : Nat) : Int) := Qa6 (by omega) (by omega)
   have e2 : Qfl N p = some (!Quj p) := by
    unfold Qfl Qfi
    simp only [Qlv, Option.bind_some]
    rfl
   simp only [show decide ((i : Int) < t.length) = true from by simpa using hlt, cond_true, Qcv hi, Option.bind_some, e2, e1, List.all_cons]
   cases hv : Quj p with
   | false => exact ⟨i, by simp, by simp⟩
   | true =>
    have ih' := ih (i + 1) (by rw [hd']; rw [hd] at h; simp at h; omega)
    rw [hd'] at ih'
    simpa using ih'
theorem heads_eq {N : Nat} {t : List Int} (hl : t.length ≤ 200) (hN : 300 ≤ N) : Qf9 N t = some (t.all Quj) := by
 unfold Qf9 Qdk Qdz
 obtain ⟨x, f1, f2⟩ := heads_loop N t (by omega) N 0 (by simp; omega)
 rw [show ((0 : Nat) : Int) = 0 from rfl] at f1
 rw [List.drop_zero] at f2
 simp only [Qbr, f1, Option.bind_some, f2, Bool.not_not]
theorem Qy8 (N : Nat) (h : List Int) (us t : List GUnit) (hl : (t.length : Int) ≤ 9223372036854775807) (hN : 300 ≤ N) : ∀ (n i : Nat), (t.drop i).length < n →
  ∃ x : Int, Qa4 N t h (fun _ => some (-1)) us n i = some x ∧ (decide (x ≥ 0)) = !((t.drop i).all (Qm5 h.length)) := by
 intro n
 induction n with
 | zero => intro i h; exact absurd h (Nat.not_lt_zero _)
 | succ n ih =>
  intro i hh
  rw [Qa4]
  cases hd : t.drop i with
  | nil =>
   have := Qe4 hd
   exact ⟨-1, by simp [show ¬ ((i : Int) < t.length) from by omega], rfl⟩
  | cons p l =>
   obtain ⟨hi, hd', hlt⟩ := Qeb hd
   have e1 : w64 ((i : Int) + 1) = ((i + 1 : Nat) : Int) := Qa6 (by omega) (by omega)
   have e2 : Qdo N p h us = some (!Qm5 h.length p) := by
    unfold Qdo Qe2 Qm5
    simp only [unit_eq (by omega : 100 ≤ N), Option.bind_some]
    cases Qjx p <;> simp
   simp only [show decide ((i : Int) < t.length) = true from by simpa using hlt, cond_true, Qcv hi, Option.bind_some, e2, e1, List.all_cons]
   cases hv : Qm5 h.length p with
   | false => exact ⟨i, by simp, by simp⟩
   | true =>
    have ih' := ih (i + 1) (by rw [hd']; rw [hd] at hh; simp at hh; omega)
    rw [hd'] at ih'
    simpa using ih'
theorem units_eq {N : Nat} {h : List Int} {us : List GUnit} (hl : us.length ≤ 200) (hN : 300 ≤ N) : Qd5 N us h us = some (us.all (Qm5 h.length)) := by
 unfold Qd5 Qb2 Qb7
 obtain ⟨x, f1, f2⟩ := Qy8 N h us us (by omega) hN N 0 (by simp; omega)
 rw [show ((0 : Nat) : Int) = 0 from rfl] at f1
 rw [List.drop_zero] at f2
 simp only [Qbr, f1, Option.bind_some, f2, Bool.not_not]
theorem Qpr {N : Nat} {h : List Int} {us : List GUnit} (hN : 300 ≤ N) : Qei N ⟨h, us⟩ = some (Qjn h us) := by
 unfold Qei Qjn
 simp only [Qlv, Option.bind_some]
 cases h1 : btw h.length 1 6 with
 | false => rfl
 | true =>
  have b1 := Qfu.1 h1
  rw [heads_eq (by omega) hN]
  simp only [cond_true, Option.bind_some, Bool.true_and]
  cases h2 : h.all Quj with
  | false => rfl
  | true =>
   simp only [cond_true, Bool.true_and]
   cases h3 : btw us.length 1 10 with
   | false => rfl
   | true =>
    have b3 := Qfu.1 h3
    rw [units_eq (by omega) hN]
    simp only [cond_true, Option.bind_some, Bool.true_and]
theorem rh2_loop (N : Nat) (h : List Int) (K : Unit → Option Bool) (hl : (h.length : Int) ≤ 9223372036854775807) : ∀ (n i : Nat), (h.drop i).length < n →
  Qcy N h K n i = bif (h.drop i).all Quj then K () else some false := by
 intro n
 induction n with
 | zero => intro i h; exact absurd h (Nat.not_lt_zero _)
 | succ n ih =>
  intro i hh
  rw [Qcy]
  cases hd : h.drop i with
  | nil =>
   have := Qe4 hd
   simp [show ¬ ((i : Int) < h.length) from by omega]
  | cons p l =>
   obtain ⟨hi, hd', hlt⟩ := Qeb hd
   have e1 : w64 ((i : Int) + 1) = ((i + 1 : Nat) : Int) := Qa6 (by omega) (by omega)
   have ih' := ih (i + 1) (by rw [hd']; rw [hd] at hh; simp at hh; omega)
   rw [hd'] at ih'
   simp only [show decide ((i : Int) < h.length) = true from by simpa using hlt, cond_true, Qcv hi, Option.bind_some, in_eq, e1, ih', List.all_cons, Quj]
   cases btw p 0 1000000 <;> simp
theorem rh1_loop (N : Nat) (h : List Int) (us : List GUnit) (K : Unit → Option Bool) (hl : (us.length : Int) ≤ 9223372036854775807) (hp : ∀ u ∈ us, (u.Parts.length : Int) ≤ 9223372036854775807 ∧ u.Parts.length + 100 ≤ N) : ∀ (n i : Nat), (us.drop i).length < n →
  Qcz N h us K n i = bif (us.drop i).all (Qm5 h.length) then K () else some false := by
 intro n
 induction n with
 | zero => intro i h; exact absurd h (Nat.not_lt_zero _)
 | succ n ih =>
  intro i hh
  rw [Qcz]
  cases hd : us.drop i with
  | nil =>
   have := Qe4 hd
   simp [show ¬ ((i : Int) < us.length) from by omega]
  | cons p l =>
   obtain ⟨hi, hd', hlt⟩ := Qeb hd
   have e1 : w64 ((i : Int) + 1) = ((i + 1 : Nat) : Int) := Qa6 (by omega) (by omega)
   have ih' := ih (i + 1) (by rw [hd']; rw [hd] at hh; simp at hh; omega)
   rw [hd'] at ih'
   have hpp := hp p (List.mem_of_getElem? hi)
   simp only [show decide ((i : Int) < us.length) = true from by simpa using hlt, cond_true, Qcv hi, Option.bind_some, right_eq hpp.1 hpp.2, e1, ih', List.all_cons, Qm5]
   cases Qjx p with
   | false => simp
   | true =>
    by_cases h1 : p.Inlet < h.length
    ·simp [h1, show ¬ (h.length : Int) ≤ p.Inlet from by omega]
    ·simp [h1, show (h.length : Int) ≤ p.Inlet from by omega]
theorem rheads_eq {N : Nat} {h : List Int} {us : List GUnit} (hh : (h.length : Int) ≤ 9223372036854775807) (hu : (us.length : Int) ≤ 9223372036854775807) (hp : ∀ u ∈ us, (u.Parts.length : Int) ≤ 9223372036854775807 ∧ u.Parts.length + 100 ≤ N) (hN : h.length + us.length + 300 ≤ N) :
  Qfy N h us = some (Qjn h us) := by
 unfold Qfy
 simp only [Qbr]
 have a1 := fun K => rh2_loop N h K hh N 0 (by simp; omega)
 have a2 := fun K => rh1_loop N h us K hu hp N 0 (by simp; omega)
 simp only [show ((0 : Nat) : Int) = 0 from rfl, List.drop_zero] at a1 a2
 rw [a1, a2]
 unfold Qjn btw
 have bs : ∀ a b : Bool, (bif a then some b else some false) = some (a && b) := by intro a b; cases a <;> rfl
 simp only [bs, ge_iff_le]
 congr 1
 ac_rfl
def fro (h : List Int) (k : Nat) : Int := (h.drop k).sum
theorem sum_bd : ∀ (l : List Int), (∀ x ∈ l, 0 ≤ x ∧ x ≤ 1000000) → 0 ≤ l.sum ∧ l.sum ≤ 1000000 * l.length
 | [], _ => by simp
 | x :: l, h => by
  have h1 := sum_bd l fun y hy => h y (List.mem_cons_of_mem _ hy)
  have h2 := h x (List.mem_cons_self ..)
  simp only [List.sum_cons, List.length_cons, Int.natCast_add, Int.cast_ofNat_Int]
  omega
theorem Qur {h : List Int} (hl : h.length ≤ 6) (hm : ∀ x ∈ h, 0 ≤ x ∧ x ≤ 1000000) (k : Nat) : 0 ≤ fro h k ∧ fro h k ≤ 6000000 := by
 have := sum_bd (h.drop k) fun x hx => hm x (List.mem_of_mem_drop hx)
 have h2 : ((h.drop k).length : Int) ≤ 6 := by simp; omega
 unfold fro
 omega
theorem Qss {h : List Int} {k : Nat} {x : Int} (hk : h[k]? = some x) : fro h k = x + fro h (k + 1) := by
 unfold fro
 obtain ⟨h1, h2⟩ := List.getElem?_eq_some_iff.1 hk
 rw [List.drop_eq_getElem_cons h1, List.sum_cons, h2]
theorem fro_end {h : List Int} {k : Nat} (hk : h.length ≤ k) : fro h k = 0 := by
 unfold fro
 rw [List.drop_of_length_le hk]
 rfl
theorem from_loop (N : Nat) (h : List Int) (K : Int → Option Int) (hl : h.length ≤ 6) (hm : ∀ x ∈ h, 0 ≤ x ∧ x ≤ 1000000) : ∀ (n i : Nat) (a : Int), (h.drop i).length < n → 0 ≤ a → a ≤ 1000000 * (i : Int) →
  Qef N h K n a i = K (a + fro h i) := by
 intro n
 induction n with
 | zero => intro i _ h; exact absurd h (Nat.not_lt_zero _)
 | succ n ih =>
  intro i a hh a0 a1
  rw [Qef]
  cases hd : h.drop i with
  | nil =>
   have := Qe4 hd
   simp [show ¬ ((i : Int) < h.length) from by omega, fro_end this]
  | cons p l =>
   obtain ⟨hi, hd', hlt⟩ := Qeb hd
   have hp := hm p (List.mem_of_getElem? hi)
   have e1 : w64 ((i : Int) + 1) = ((i + 1 : Nat) : Int) := Qa6 (by omega) (by omega)
   have e2 : w64 (a + p) = a + p := Qa6 (by omega) (by omega)
   simp only [show decide ((i : Int) < h.length) = true from by simpa using hlt, cond_true, Qcv hi, Option.bind_some, e1, e2]
   rw [ih (i + 1) (a + p) (by rw [hd']; rw [hd] at hh; simp at hh; omega) (by omega) (by omega), Qss hi, Int.add_assoc]
theorem Qwg {N : Nat} {h : List Int} (hl : h.length ≤ 6) (hm : ∀ x ∈ h, 0 ≤ x ∧ x ≤ 1000000) (hN : 300 ≤ N) (k : Nat) : Qgp N h k = some (fro h k) := by
 unfold Qgp
 simp only [Qbr]
 have := from_loop N h (fun y => some y) hl hm N k 0 (by simp; omega) (Int.le_refl _) (by omega)
 rw [this, Int.zero_add]
theorem room_loop (N : Nat) (h : List Int) (us : List GUnit) (K : List Int → Option (List Int)) (hl : h.length ≤ 6) (hm : ∀ x ∈ h, 0 ≤ x ∧ x ≤ 1000000) : ∀ (n c : Nat), c < n → c + 1 ≤ h.length →
  Qce N ⟨h, us⟩ K n ((c : Int) - 1) (rw' h.length (fun k => if c ≤ k then fro h k else h.getD k 0)) = K (rw' h.length (fro h)) := by
 intro n
 induction n with
 | zero => intro c h; exact absurd h (Nat.not_lt_zero _)
 | succ n ih =>
  intro c hn hc
  rw [Qce]
  cases c with
  | zero =>
   rw [show decide (((0 : Nat) : Int) - 1 ≥ 0) = false from rfl, cond_false]
   congr 1
  | succ c =>
   have e0 : ((c + 1 : Nat) : Int) - 1 = (c : Int) := by omega
   have e1 : w64 ((c : Int) + 1) = ((c + 1 : Nat) : Int) := Qa6 (by omega) (by omega)
   have e2 : w64 ((c : Int) - 1) = (c : Int) - 1 := Qa6 (by omega) (by omega)
   obtain ⟨x, hx⟩ : ∃ x, h[c]? = some x := ⟨_, List.getElem?_eq_getElem (by omega)⟩
   have hb := Qur hl hm (c + 1)
   have hxb := hm x (List.mem_of_getElem? hx)
   have e3 : w64 (h.getD c 0 + fro h (c + 1)) = fro h c := by
    rw [Qss hx, List.getD_eq_getElem?_getD, hx, Option.getD_some, Qa6 (by omega) (by omega)]
   have d1 : decide (0 ≤ (c : Int)) = true := decide_eq_true (by omega)
   have d2 : decide (c < h.length) = true := decide_eq_true (by omega)
   have d3 : decide (0 ≤ ((c + 1 : Nat) : Int)) = true := decide_eq_true (by omega)
   have d4 : decide (c + 1 < h.length) = true := decide_eq_true (by omega)
   have g1 := Qg4 (L := h.length) (fun k => if c + 1 ≤ k then fro h k else h.getD k 0) (k := c) (by omega)
   have g2 := Qg4 (L := h.length) (fun k => if c + 1 ≤ k then fro h k else h.getD k 0) (k := c + 1) (by omega)
   rw [if_neg (by omega)] at g1
   rw [if_pos (Nat.le_refl _)] at g2
   rw [e0, show decide ((c : Int) ≥ 0) = true from decide_eq_true (by omega)]
   simp only [cond_true, e1, e2, chk, Int.toNat_natCast, d2, d3, d4, Bool.and_self, g1, g2, Option.bind_some, Qpv, e3, d1]
   have := ih c (by omega) (by omega)
   rw [← this]
   congr 1
   apply Qjp
   intro k _
   unfold updN
   by_cases hk : k = c
   ·subst hk; simp
   ·simp only [hk, if_false]
    by_cases h' : c + 1 ≤ k
    ·rw [if_pos h', if_pos (by omega)]
    ·rw [if_neg h', if_neg (by omega)]
theorem rw_self {α : Type} (l : List α) (d : α) : rw' l.length (fun k => l.getD k d) = l := by
 apply List.ext_getElem?
 intro i
 by_cases h : i < l.length
 ·rw [Qg4 _ h, List.getD_eq_getElem?_getD, List.getElem?_eq_getElem h]; rfl
 ·rw [List.getElem?_eq_none (by omega : l.length ≤ i), List.getElem?_eq_none (by rw [Qlf]; omega)]
theorem room_eq {N : Nat} {h : List Int} {us : List GUnit} (h0 : 1 ≤ h.length) (hl : h.length ≤ 6) (hm : ∀ x ∈ h, 0 ≤ x ∧ x ≤ 1000000) (hN : 300 ≤ N) : Qec N ⟨h, us⟩ = some (rw' h.length (fro h)) := by
 unfold Qec Qe1
 have hne : h.isEmpty = false := by rw [List.isEmpty_eq_false_iff]; intro e; rw [e] at h0; simp at h0
 have e1 : w64 ((h.length : Int) - 2) = ((h.length - 1 : Nat) : Int) - 1 := by rw [Qa6 (by omega) (by omega)]; omega
 simp only [chk, hne, Bool.not_false, cond_true, show decide ((0 + h.length) * 8 ≤ 140737488355328) = true from decide_eq_true (by omega), Option.bind_some, Qbr, e1]
 have := room_loop N h us (fun y => some y) hl hm N (h.length - 1) (by omega) (by omega)
 rw [← this]
 congr 1
 rw [← rw_self h 0]
 conv => rhs; rw [rw_self h 0]
 apply Qjp
 intro k hk
 split
 ·next hge =>
  have hk' : k = h.length - 1 := by omega
  obtain ⟨x, hx⟩ : ∃ x, h[k]? = some x := ⟨_, List.getElem?_eq_getElem hk⟩
  rw [Qss hx, fro_end (by omega), List.getD_eq_getElem?_getD, hx]
  simp
 ·rfl
end Go.Proofs.Ytlhakkkjgdbdpaa
