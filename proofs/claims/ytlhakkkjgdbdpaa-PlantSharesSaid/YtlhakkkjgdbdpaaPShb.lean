/-
  Plain laws on heads and units: the work of masses, sharings, prices, bounds, and what ProveShare accepts. No conditions.
-/
import Derived.Test.YtlhakkkjgdbdpaaPShr
namespace Go.Proofs.Ytlhakkkjgdbdpaa
open Go.RowKit
def Qj8 : List GUnit → List Int → Int
 | u :: us, m :: ms => powI u.Parts m + Qj8 us ms
 | _, _ => 0
theorem work_bd : ∀ (us : List GUnit) (ms : List Int), (∀ u ∈ us, Qjx u = true) → (∀ m ∈ ms, 0 ≤ m) → 0 ≤ Qj8 us ms ∧ Qj8 us ms ≤ 800000000 * us.length
 | [], _, _, _ => by simp [Qj8]
 | _ :: us, [], _, _ => by simp [Qj8]; omega
 | u :: us, m :: ms, hu, hm => by
  have h1 := work_bd us ms (fun x hx => hu x (List.mem_cons_of_mem _ hx)) (fun x hx => hm x (List.mem_cons_of_mem _ hx))
  have h2 := Qev (hu u (List.mem_cons_self ..))
  have h3 := Qoj u.Parts 1000 m h2.2.2 (Int.le_refl _) (hm m (List.mem_cons_self ..))
  have h4 := h2.2.1.2
  simp only [Qj8, List.length_cons, Int.natCast_add, Int.cast_ofNat_Int]
  omega
theorem Qfn {α : Type} {l : List α} {i : Nat} {x : α} (h : l[i]? = some x) : l.drop i = x :: l.drop (i + 1) := by
 obtain ⟨h1, h2⟩ := List.getElem?_eq_some_iff.1 h
 rw [List.drop_eq_getElem_cons h1, h2]
theorem Qy5 (N : Nat) (h : List Int) (us : List GUnit) (ms : List Int) (K : Int → Option Int) (hN : 100 ≤ N) (hul : us.length ≤ 10) (hl : ms.length = us.length) (hu : ∀ u ∈ us, Qjx u = true) (hm : ∀ m ∈ ms, 0 ≤ m ∧ m ≤ 9223372036854775807) : ∀ (n i : Nat) (a : Int), us.length - i < n → 0 ≤ a → a ≤ 800000000 * (i : Int) →
  Qcr N ⟨h, us⟩ ms K n a i = K (a + Qj8 (us.drop i) (ms.drop i)) := by
 intro n
 induction n with
 | zero => intro i _ h; exact absurd h (Nat.not_lt_zero _)
 | succ n ih =>
  intro i a hn a0 a1
  rw [Qcr]
  by_cases hi : i < us.length
  ·obtain ⟨u, hu'⟩ : ∃ u, us[i]? = some u := ⟨_, List.getElem?_eq_getElem hi⟩
   obtain ⟨m, hm'⟩ : ∃ m, ms[i]? = some m := ⟨_, List.getElem?_eq_getElem (by omega)⟩
   have hub := hu u (List.mem_of_getElem? hu')
   have hmb := hm m (List.mem_of_getElem? hm')
   have h2 := Qev hub
   have hp := Qoj u.Parts 1000 m h2.2.2 (Int.le_refl _) hmb.1
   have h4 := h2.2.1.2
   have e1 : w64 ((i : Int) + 1) = ((i + 1 : Nat) : Int) := Qa6 (by omega) (by omega)
   have e2 : w64 (a + powI u.Parts m) = a + powI u.Parts m := Qa6 (by omega) (by omega)
   rw [show decide ((i : Int) < (ms.length : Int)) = true from decide_eq_true (by omega)]
   simp only [cond_true, Qcv hm', Qcv hu', Option.bind_some, powP_eq hub hN hmb.1 hmb.2, e1, e2]
   rw [ih (i + 1) _ (by omega) (by omega) (by omega), Qfn hu', Qfn hm', Qj8, Int.add_assoc]
  ·rw [show decide ((i : Int) < (ms.length : Int)) = false from decide_eq_false (by omega), cond_false, List.drop_of_length_le (by omega), Qj8, Int.add_zero]
   simp
theorem workP_eq {N : Nat} {h : List Int} {us : List GUnit} {ms : List Int} (hN : 300 ≤ N) (hul : us.length ≤ 10) (hl : ms.length = us.length) (hu : ∀ u ∈ us, Qjx u = true) (hm : ∀ m ∈ ms, 0 ≤ m ∧ m ≤ 9223372036854775807) : Qd4 N ⟨h, us⟩ ms = some (Qj8 us ms) := by
 unfold Qd4
 simp only [Qbr]
 have := Qy5 N h us ms (fun y => some y) (by omega) hul hl hu hm N 0 0 (by omega) (Int.le_refl _) (by omega)
 rw [show ((0 : Nat) : Int) = 0 from rfl] at this
 rw [this, Int.zero_add, List.drop_zero, List.drop_zero]
theorem Qy4 (N : Nat) (us : List GUnit) (ms : List Int) (K : Int → Option Int) (hN : 100 ≤ N) (hul : us.length ≤ 10) (hl : ms.length = us.length) (hu : ∀ u ∈ us, Qjx u = true) (hm : ∀ m ∈ ms, 0 ≤ m ∧ m ≤ 9223372036854775807) : ∀ (n i : Nat) (a : Int), us.length - i < n → 0 ≤ a → a ≤ 800000000 * (i : Int) →
  Qee N us ms K n a i = K (a + Qj8 (us.drop i) (ms.drop i)) := by
 intro n
 induction n with
 | zero => intro i _ h; exact absurd h (Nat.not_lt_zero _)
 | succ n ih =>
  intro i a hn a0 a1
  rw [Qee]
  by_cases hi : i < us.length
  ·obtain ⟨u, hu'⟩ : ∃ u, us[i]? = some u := ⟨_, List.getElem?_eq_getElem hi⟩
   obtain ⟨m, hm'⟩ : ∃ m, ms[i]? = some m := ⟨_, List.getElem?_eq_getElem (by omega)⟩
   have hub := hu u (List.mem_of_getElem? hu')
   have hmb := hm m (List.mem_of_getElem? hm')
   have h2 := Qev hub
   have hp := Qoj u.Parts 1000 m h2.2.2 (Int.le_refl _) hmb.1
   have h4 := h2.2.1.2
   have e1 : w64 ((i : Int) + 1) = ((i + 1 : Nat) : Int) := Qa6 (by omega) (by omega)
   have e2 : w64 (a + powI u.Parts m) = a + powI u.Parts m := Qa6 (by omega) (by omega)
   rw [show decide ((i : Int) < (us.length : Int)) = true from decide_eq_true (by omega)]
   simp only [cond_true, Qcv hm', Qcv hu', Option.bind_some, powR_eq hub hN hmb.1 hmb.2, e1, e2]
   rw [ih (i + 1) _ (by omega) (by omega) (by omega), Qfn hu', Qfn hm', Qj8, Int.add_assoc]
  ·rw [show decide ((i : Int) < (us.length : Int)) = false from decide_eq_false (by omega), cond_false, List.drop_of_length_le (by omega), Qj8, Int.add_zero]
   simp
theorem workR_eq {N : Nat} {us : List GUnit} {ms : List Int} (hN : 300 ≤ N) (hul : us.length ≤ 10) (hl : ms.length = us.length) (hu : ∀ u ∈ us, Qjx u = true) (hm : ∀ m ∈ ms, 0 ≤ m ∧ m ≤ 9223372036854775807) : Qjq N us ms = some (Qj8 us ms) := by
 unfold Qjq
 simp only [Qbr]
 have := Qy4 N us ms (fun y => some y) (by omega) hul hl hu hm N 0 0 (by omega) (Int.le_refl _) (by omega)
 rw [show ((0 : Nat) : Int) = 0 from rfl] at this
 rw [this, Int.zero_add, List.drop_zero, List.drop_zero]
def Qqw : List GUnit → List Int → Bool
 | u :: us, m :: ms => btw m 0 (capI u.Parts) && Qqw us ms
 | _, _ => true
def useI : List GUnit → List Int → Nat → Int
 | u :: us, m :: ms, k => (if (k : Int) ≤ u.Inlet then m else 0) + useI us ms k
 | _, _, _ => 0
def Qps (h : List Int) (us : List GUnit) (ms : List Int) : Bool := decide (ms.length = us.length) && Qqw us ms && (List.range h.length).all fun k => decide (useI us ms k ≤ fro h k)
theorem Qmg : ∀ {us : List GUnit} {ms : List Int}, (∀ u ∈ us, Qjx u = true) → ms.length = us.length → Qqw us ms = true → ∀ m ∈ ms, 0 ≤ m ∧ m ≤ 800000
 | [], [], _, _, _, _, h => by cases h
 | u :: us, m :: ms, hu, hl, h, x, hx => by
  simp only [Qqw, Bool.and_eq_true, Qfu] at h
  rcases List.mem_cons.1 hx with rfl | hx
  ·have h2 := Qev (hu u (List.mem_cons_self ..))
   have h3 := Qwt u.Parts 1000 h2.2.2
   have := h2.2.1.2
   omega
  ·exact Qmg (fun y hy => hu y (List.mem_cons_of_mem _ hy)) (by simpa using hl) h.2 x hx
 | [], _ :: _, _, hl, _, _, _ => by simp at hl
 | _ :: _, [], _, hl, _, _, _ => by simp at hl
theorem capsR_loop (N : Nat) (us : List GUnit) (ms : List Int) (K : Unit → Option Bool) (hN : 100 ≤ N) (hul : us.length ≤ 10) (hl : ms.length = us.length) (hu : ∀ u ∈ us, Qjx u = true) : ∀ (n i : Nat), us.length - i < n →
  Qdg N us K ms n i = bif Qqw (us.drop i) (ms.drop i) then K () else some false := by
 intro n
 induction n with
 | zero => intro i h; exact absurd h (Nat.not_lt_zero _)
 | succ n ih =>
  intro i hn
  rw [Qdg]
  by_cases hi : i < us.length
  ·obtain ⟨u, hu'⟩ : ∃ u, us[i]? = some u := ⟨_, List.getElem?_eq_getElem hi⟩
   obtain ⟨m, hm'⟩ : ∃ m, ms[i]? = some m := ⟨_, List.getElem?_eq_getElem (by omega)⟩
   have hub := hu u (List.mem_of_getElem? hu')
   have e1 : w64 ((i : Int) + 1) = ((i + 1 : Nat) : Int) := Qa6 (by omega) (by omega)
   rw [show decide ((i : Int) < (us.length : Int)) = true from decide_eq_true (by omega)]
   simp only [cond_true, Qcv hm', Qcv hu', Option.bind_some, capR_eq hub hN, in_eq, e1, ih (i + 1) (by omega)]
   rw [Qfn hu', Qfn hm', Qqw]
   cases btw m 0 (capI u.Parts) <;> simp
  ·rw [show decide ((i : Int) < (us.length : Int)) = false from decide_eq_false (by omega), cond_false, List.drop_of_length_le (by omega), Qqw]
   ·rfl
   ·intro u us m ms h; cases h
theorem useR_loop (N : Nat) (us : List GUnit) (ms : List Int) (k : Nat) (K : Int → Option Bool) (hul : us.length ≤ 10) (hl : ms.length = us.length) (hm : ∀ m ∈ ms, 0 ≤ m ∧ m ≤ 800000) : ∀ (n i : Nat) (a : Int), us.length - i < n → 0 ≤ a → a ≤ 800000 * (i : Int) →
  Qc2 N us ms k K n a i = K (a + useI (us.drop i) (ms.drop i) k) := by
 intro n
 induction n with
 | zero => intro i _ h; exact absurd h (Nat.not_lt_zero _)
 | succ n ih =>
  intro i a hn a0 a1
  rw [Qc2]
  by_cases hi : i < us.length
  ·obtain ⟨u, hu'⟩ : ∃ u, us[i]? = some u := ⟨_, List.getElem?_eq_getElem hi⟩
   obtain ⟨m, hm'⟩ : ∃ m, ms[i]? = some m := ⟨_, List.getElem?_eq_getElem (by omega)⟩
   have hmb := hm m (List.mem_of_getElem? hm')
   have e1 : w64 ((i : Int) + 1) = ((i + 1 : Nat) : Int) := Qa6 (by omega) (by omega)
   have e2 : w64 (a + m) = a + m := Qa6 (by omega) (by omega)
   rw [show decide ((i : Int) < (us.length : Int)) = true from decide_eq_true (by omega)]
   simp only [cond_true, Qcv hm', Qcv hu', Option.bind_some, e1, e2]
   rw [Qfn hu', Qfn hm', useI]
   by_cases hk : (k : Int) ≤ u.Inlet
   ·rw [show decide (u.Inlet ≥ (k : Int)) = true from decide_eq_true hk, cond_true, ih (i + 1) _ (by omega) (by omega) (by omega), if_pos hk, Int.add_assoc]
   ·rw [show decide (u.Inlet ≥ (k : Int)) = false from decide_eq_false hk, cond_false, ih (i + 1) _ (by omega) (by omega) (by omega), if_neg hk, Int.zero_add]
  ·rw [show decide ((i : Int) < (us.length : Int)) = false from decide_eq_false (by omega), cond_false, List.drop_of_length_le (by omega), useI, Int.add_zero]
   intro u us m ms h; cases h
theorem shr1_loop {N : Nat} {h : List Int} {us : List GUnit} {ms : List Int} (K : Unit → Option Bool) (hN : 300 ≤ N) (hh : h.length ≤ 6) (hhm : ∀ x ∈ h, 0 ≤ x ∧ x ≤ 1000000) (hul : us.length ≤ 10) (hl : ms.length = us.length) (hm : ∀ m ∈ ms, 0 ≤ m ∧ m ≤ 800000) : ∀ (n k : Nat), h.length - k < n → k ≤ h.length →
  Qco N h us ms K n k = bif (List.range' k (h.length - k)).all (fun k => decide (useI us ms k ≤ fro h k)) then K () else some false := by
 intro n
 induction n with
 | zero => intro i h; exact absurd h (Nat.not_lt_zero _)
 | succ n ih =>
  intro k hn hk
  rw [Qco]
  rcases Nat.eq_or_lt_of_le hk with e | hlt
  ·rw [show decide ((k : Int) < (h.length : Int)) = false from decide_eq_false (by omega), e, Nat.sub_self]
   rfl
  ·have hs : h.length - k = (h.length - (k + 1)) + 1 := by omega
   have e1 : w64 ((k : Int) + 1) = ((k + 1 : Nat) : Int) := Qa6 (by omega) (by omega)
   simp only [Qbr]
   rw [show decide ((k : Int) < (h.length : Int)) = true from decide_eq_true (by omega), cond_true]
   have := useR_loop N us ms k (fun y9 => (Qgp N h k).bind fun x12 => bif (decide (y9 > x12)) then some false else Qco N h us ms K n (w64 ((k : Int) + 1))) hul hl hm N 0 0 (by omega) (Int.le_refl _) (by omega)
   rw [show ((0 : Nat) : Int) = 0 from rfl, List.drop_zero, List.drop_zero, Int.zero_add] at this
   rw [this, Qwg hh hhm hN k, Option.bind_some, e1, ih (k + 1) (by omega) hlt, hs, List.range'_succ, List.all_cons]
   by_cases hc : useI us ms k ≤ fro h k
   ·rw [show decide (useI us ms k > fro h k) = false from decide_eq_false (by omega)]
    simp [hc]
   ·rw [show decide (useI us ms k > fro h k) = true from decide_eq_true (by omega)]
    simp [hc]
theorem shareR_eq {N : Nat} {h : List Int} {us : List GUnit} {ms : List Int} (hk : ShOK h us) (hN : 300 ≤ N) : Qg5 N h us ms = some (Qps h us ms) := by
 unfold Qg5 Qps
 have hul := hk.u1
 have hhl := hk.h1
 by_cases hl : ms.length = us.length
 ·rw [show ((ms.length : Int) != (us.length : Int)) = false from by simp [hl], show decide (ms.length = us.length) = true from decide_eq_true hl]
  simp only [cond_false, Qbr, Bool.true_and]
  have a1 := capsR_loop N us ms (fun _ => Qco N h us ms (fun _ => some true) N 0) (by omega) hk.u1 hl hk.ub N 0 (by omega)
  rw [show ((0 : Nat) : Int) = 0 from rfl, List.drop_zero, List.drop_zero] at a1
  rw [a1]
  cases hc : Qqw us ms with
  | false => rfl
  | true =>
   have a2 := shr1_loop (fun _ => some true) hN hk.h1 hk.hm hk.u1 hl (Qmg hk.ub hl hc) N 0 (by omega) (by omega)
   rw [show ((0 : Nat) : Int) = 0 from rfl, Nat.sub_zero, ← List.range_eq_range'] at a2
   rw [cond_true, a2, Bool.true_and]
   cases (List.range h.length).all (fun k => decide (useI us ms k ≤ fro h k)) <;> rfl
 ·rw [show ((ms.length : Int) != (us.length : Int)) = true from by simp; omega, show decide (ms.length = us.length) = false from decide_eq_false hl]
  rfl
def Qko (h p : List Int) : Bool := decide (p.length = h.length) && p.all fun x => btw x 0 1000
theorem pr_loop (N : Nat) (t : List Int) (hl : t.length ≤ 1000) : ∀ (n i : Nat), (t.drop i).length < n →
  ∃ x : Int, Qbp N t (fun _ => some (-1)) n i = some x ∧ (decide (x ≥ 0)) = !((t.drop i).all fun x => btw x 0 1000) := by
 intro n
 induction n with
 | zero => intro i h; exact absurd h (Nat.not_lt_zero _)
 | succ n ih =>
  intro i h
  rw [Qbp]
  cases hd : t.drop i with
  | nil =>
   have := Qe4 hd
   exact ⟨-1, by simp [show ¬ ((i : Int) < t.length) from by omega], rfl⟩
  | cons p l =>
   obtain ⟨hi, hd', hlt⟩ := Qeb hd
   have e1 : w64 ((i : Int) + 1) = ((i + 1 : Nat) : Int) := Qa6 (by omega) (by omega)
   have e2 : Qfk N p = some (!btw p 0 1000) := by
    unfold Qfk Qff
    simp only [Qlv, Option.bind_some]
   simp only [show decide ((i : Int) < t.length) = true from by simpa using hlt, cond_true, Qcv hi, Option.bind_some, e2, e1, List.all_cons]
   cases hv : btw p 0 1000 with
   | false => exact ⟨i, by simp, by simp⟩
   | true =>
    have ih' := ih (i + 1) (by rw [hd']; rw [hd] at h; simp at h; omega)
    rw [hd'] at ih'
    simpa using ih'
theorem priced_eq {N : Nat} {h p : List Int} {us : List GUnit} (hl : h.length ≤ 6) (hN : 300 ≤ N) : Qew N ⟨h, us⟩ p = some (Qko h p) := by
 unfold Qew Qko
 by_cases hp : p.length = h.length
 ·rw [show ((p.length : Int) == (h.length : Int)) = true from by simp [hp], show decide (p.length = h.length) = true from decide_eq_true hp]
  unfold Qha Qdj Qdy
  obtain ⟨x, f1, f2⟩ := pr_loop N p (by omega) N 0 (by simp; omega)
  rw [show ((0 : Nat) : Int) = 0 from rfl] at f1
  rw [List.drop_zero] at f2
  simp only [cond_true, Qbr, f1, Option.bind_some, f2, Bool.not_not, Bool.true_and]
 ·rw [show ((p.length : Int) == (h.length : Int)) = false from by simp; omega, show decide (p.length = h.length) = false from decide_eq_false hp]
  rfl
theorem rp_loop (N : Nat) (t : List Int) (K : Unit → Option Bool) (hl : (t.length : Int) ≤ 9223372036854775807) : ∀ (n i : Nat), (t.drop i).length < n →
  Qcq N K t n i = bif (t.drop i).all (fun x => btw x 0 1000) then K () else some false := by
 intro n
 induction n with
 | zero => intro i h; exact absurd h (Nat.not_lt_zero _)
 | succ n ih =>
  intro i hh
  rw [Qcq]
  cases hd : t.drop i with
  | nil =>
   have := Qe4 hd
   simp [show ¬ ((i : Int) < t.length) from by omega]
  | cons p l =>
   obtain ⟨hi, hd', hlt⟩ := Qeb hd
   have e1 : w64 ((i : Int) + 1) = ((i + 1 : Nat) : Int) := Qa6 (by omega) (by omega)
   have ih' := ih (i + 1) (by rw [hd']; rw [hd] at hh; simp at hh; omega)
   rw [hd'] at ih'
   simp only [show decide ((i : Int) < t.length) = true from by simpa using hlt, cond_true, Qcv hi, Option.bind_some, in_eq, e1, ih', List.all_cons]
   cases btw p 0 1000 <;> simp
theorem Qt9 {N : Nat} {h p : List Int} (hl : (p.length : Int) ≤ 9223372036854775807) (hN : p.length + 300 ≤ N) : Qer N h p = some (Qko h p) := by
 unfold Qer Qko
 simp only [Qbr]
 have a1 := rp_loop N p (fun _ => some ((p.length : Int) == (h.length : Int))) hl N 0 (by simp; omega)
 rw [show ((0 : Nat) : Int) = 0 from rfl, List.drop_zero] at a1
 rw [a1]
 have e : ((p.length : Int) == (h.length : Int)) = decide (p.length = h.length) := by
  by_cases hp : p.length = h.length
  ·simp [hp]
  ·rw [show decide (p.length = h.length) = false from decide_eq_false hp]; simp; omega
 rw [e]
 cases p.all (fun x => btw x 0 1000) <;> cases decide (p.length = h.length) <;> rfl
def cum (p : List Int) (k : Nat) : Int := (p.take (k + 1)).sum
def Qi9 (c : Int) : List GPart → Int
 | [] => 0
 | q :: l => q.Width * (if q.Gain - c > 0 then q.Gain - c else 0) + Qi9 c l
def Qm4 (p : List Int) : List GUnit → Int
 | [] => 0
 | u :: us => Qi9 (cum p u.Inlet.toNat) u.Parts + Qm4 p us
def Qja (h p : List Int) : Nat → Nat → Int
 | 0, _ => 0
 | n + 1, k => p.getD k 0 * fro h k + Qja h p n (k + 1)
def Qrf (h : List Int) (us : List GUnit) (p : List Int) : Int := Qja h p h.length 0 + Qm4 p us
theorem Qs3 {p : List Int} {x : Int} (h : p[0]? = some x) : cum p 0 = x := by
 cases p with
 | nil => simp at h
 | cons y l => simp at h; subst h; simp [cum]
theorem Qs4 {p : List Int} {k : Nat} {x : Int} (h : p[k + 1]? = some x) : cum p (k + 1) = cum p k + x := by
 unfold cum
 obtain ⟨h1, h2⟩ := List.getElem?_eq_some_iff.1 h
 rw [List.take_add_one, h]
 simp
theorem psum_bd : ∀ (l : List Int), (∀ x ∈ l, 0 ≤ x ∧ x ≤ 1000) → 0 ≤ l.sum ∧ l.sum ≤ 1000 * l.length
 | [], _ => by simp
 | x :: l, h => by
  have h1 := psum_bd l fun y hy => h y (List.mem_cons_of_mem _ hy)
  have h2 := h x (List.mem_cons_self ..)
  simp only [List.sum_cons, List.length_cons, Int.natCast_add, Int.cast_ofNat_Int]
  omega
theorem Qye {p : List Int} (hp : ∀ x ∈ p, 0 ≤ x ∧ x ≤ 1000) (hl : p.length ≤ 6) (k : Nat) : 0 ≤ cum p k ∧ cum p k ≤ 6000 := by
 have := psum_bd (p.take (k + 1)) fun x hx => hp x (List.mem_of_mem_take hx)
 have h2 : ((p.take (k + 1)).length : Int) ≤ 6 := by simp; omega
 unfold cum
 omega
theorem Qv8 {w g c : Int} (w0 : 0 ≤ w) (w1 : w ≤ 100000) (g0 : 0 ≤ g) (g1 : g ≤ 1000) (c0 : 0 ≤ c) : 0 ≤ w * (if g - c > 0 then g - c else 0) ∧ w * (if g - c > 0 then g - c else 0) ≤ 100000000 := by
 split
 ·exact Qsq w0 w1 (by omega) (by omega)
 ·simp
theorem Qse {c : Int} (c0 : 0 ≤ c) : ∀ (l : List GPart), (∀ q ∈ l, (1 ≤ q.Width ∧ q.Width ≤ 100000) ∧ 0 ≤ q.Gain ∧ q.Gain ≤ 1000) → 0 ≤ Qi9 c l ∧ Qi9 c l ≤ 100000000 * l.length
 | [], _ => by simp [Qi9]
 | q :: l, h => by
  have h1 := Qse c0 l fun y hy => h y (List.mem_cons_of_mem _ hy)
  have h2 := h q (List.mem_cons_self ..)
  have h3 := Qv8 (w := q.Width) (g := q.Gain) (c := c) (by omega) (by omega) (by omega) (by omega) c0
  simp only [Qi9, List.length_cons, Int.natCast_add, Int.cast_ofNat_Int]
  omega
theorem Qwd {h p : List Int} (hl : h.length ≤ 6) (hm : ∀ x ∈ h, 0 ≤ x ∧ x ≤ 1000000) (hp : ∀ x ∈ p, 0 ≤ x ∧ x ≤ 1000) (k : Nat) : 0 ≤ p.getD k 0 * fro h k ∧ p.getD k 0 * fro h k ≤ 6000000000 := by
 have h1 := Qur hl hm k
 have h2 : 0 ≤ p.getD k 0 ∧ p.getD k 0 ≤ 1000 := by
  rw [List.getD_eq_getElem?_getD]
  cases hk : p[k]? with
  | none => simp
  | some x => exact hp x (List.mem_of_getElem? hk)
 constructor
 ·exact Int.mul_nonneg h2.1 h1.1
 ·have : p.getD k 0 * fro h k ≤ 1000 * 6000000 := Int.mul_le_mul h2.2 h1.2 h1.1 (by omega)
  omega
theorem Qlz {u : GUnit} (h : Qjx u = true) : ∀ q ∈ u.Parts, (1 ≤ q.Width ∧ q.Width ≤ 100000) ∧ 0 ≤ q.Gain ∧ q.Gain ≤ 1000 := Qsv u.Parts 1000 (Qev h).2.2 (Int.le_refl _)
end Go.Proofs.Ytlhakkkjgdbdpaa
