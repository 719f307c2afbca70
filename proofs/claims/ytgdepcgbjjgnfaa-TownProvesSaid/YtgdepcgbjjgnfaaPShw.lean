/-
  Plain: plans, their levels and costs; when prices show that a plan is the cheapest, in the program's words and in the document's. No conditions.
-/
import Derived.Test.YtgdepcgbjjgnfaaX19
import Derived.Test.YtgdepcgbjjgnfaaX20
import Derived.Test.YtgdepcgbjjgnfaaPChp
namespace Go.Proofs.Ytgdepcgbjjgnfaa
open Go.RowKit
def preL (S : Int) (x use : Nat → Int) : Nat → Int
 | 0 => S
 | i + 1 => lev S x use i
theorem lev_pre (S : Int) (x use : Nat → Int) (i : Nat) : lev S x use i = preL S x use i + x i - use i := by
 cases i <;> rfl
theorem Qyu {l : List Int} {x : Int} {i : Nat} : gt (l ++ [x]) i = if i = l.length then x else gt l i := by
 unfold gt
 rw [List.getD_eq_getElem?_getD, List.getD_eq_getElem?_getD, List.getElem?_append]
 by_cases h : i < l.length
 ·rw [if_pos h, if_neg (by omega)]
 ·rw [if_neg h]
  by_cases e : i = l.length
  ·subst e; simp
  ·rw [if_neg e, List.getElem?_eq_none (by simp; omega), List.getElem?_eq_none (by omega)]
def FitT (hs : List GHour) (T S : Int) (p : List Int) (j : Nat) : Prop := (0 ≤ gt p j ∧ gt p j ≤ Qdm (hrs hs j)) ∧ 0 ≤ lev S (gt p) (useF hs) j ∧ lev S (gt p) (useF hs) j ≤ T
theorem lv_loop {N : Nat} {d : GDay} {p : List Int} (hN : 2000 ≤ N) (hd : dayB d = true) (hl : p.length = d.Hours.length) : ∀ (n m i : Nat) (acc : List Int), m < n → i + m = d.Hours.length → acc.length = i → (∀ j, j < i → gt acc j = lev d.Start (gt p) (useF d.Hours) j) → 0 ≤ preL d.Start (gt p) (useF d.Hours) i → preL d.Start (gt p) (useF d.Hours) i ≤ d.Tank →
  ∃ r, Qc6 N d p (fun y2 => some (y2, true)) n acc (preL d.Start (gt p) (useF d.Hours) i) i = some r ∧ Qdo N d p (fun y2 => some (y2, true)) n acc (preL d.Start (gt p) (useF d.Hours) i) i = some r ∧
   (r.2 = true → r.1.length = d.Hours.length ∧ (∀ j, j < d.Hours.length → gt r.1 j = lev d.Start (gt p) (useF d.Hours) j) ∧ ∀ j, i ≤ j → j < d.Hours.length → FitT d.Hours d.Tank d.Start p j) ∧
   (r.2 = false → ∃ j, j < d.Hours.length ∧ ¬ FitT d.Hours d.Tank d.Start p j) := by
 have hp := Qmm hd
 have h24 := hp.few
 obtain ⟨⟨t0, t1⟩, _, h1, h2⟩ := Qm0 hd
 intro n
 induction n with
 | zero => intro m i _ h; omega
 | succ n ih =>
  intro m i acc hm him hacc hlev y0 y1
  rw [Qc6, Qdo, hl]
  cases m with
  | zero =>
   rw [show decide ((i : Int) < (d.Hours.length : Int)) = false from decide_eq_false (by omega)]
   exact ⟨(acc, true), rfl, rfl, fun _ => ⟨hacc.trans (by omega), fun j hj => hlev j (by omega), fun j a b => by omega⟩, fun h => by cases h⟩
  | succ m =>
   have hi : i < d.Hours.length := by omega
   have hg : d.Hours[i]? = some d.Hours[i] := List.getElem?_eq_getElem hi
   obtain ⟨e0, e1⟩ := Qkd hg
   have hh := Qly hd (List.getElem_mem hi)
   have hwh := hp.whole i hi
   have hu := hp.use i hi
   have hw := Qrq hh hN
   have hw2 := Qx1 hh hN
   rw [← e0] at hw hw2
   have hx := Qe0 (l := p) (i := i) (by omega)
   have e2 : w64 ((i : Int) + 1) = ((i + 1 : Nat) : Int) := Qco (by omega) (by omega)
   have hlp := lev_pre d.Start (gt p) (useF d.Hours) i
   simp only [show decide ((i : Int) < (d.Hours.length : Int)) = true from decide_eq_true (by omega), cond_true, Qcs hg, Qcs hx, Option.bind_some, hw, hw2, Qj8, Qyt, e2, ← e1]
   cases hb : btw (gt p i) 0 (Qdm (hrs d.Hours i)) with
   | false =>
    refine ⟨([], false), rfl, rfl, (fun h => by cases h), fun _ => ⟨i, hi, fun hf => ?_⟩⟩
    rw [Qht.2 hf.1] at hb
    cases hb
   | true =>
    obtain ⟨x0, x1⟩ := Qht.1 hb
    have e3 : w64 (gt p i - useF d.Hours i) = gt p i - useF d.Hours i := Qco (by omega) (by omega)
    have e4 : w64 (preL d.Start (gt p) (useF d.Hours) i + (gt p i - useF d.Hours i)) = lev d.Start (gt p) (useF d.Hours) i := by rw [Qco (by omega) (by omega)]; omega
    have e5 : w64 (preL d.Start (gt p) (useF d.Hours) i + gt p i) = preL d.Start (gt p) (useF d.Hours) i + gt p i := Qco (by omega) (by omega)
    have e6 : w64 (preL d.Start (gt p) (useF d.Hours) i + gt p i - useF d.Hours i) = lev d.Start (gt p) (useF d.Hours) i := by rw [Qco (by omega) (by omega)]; omega
    simp only [Bool.not_true, cond_false, e3, e4, e5, e6]
    cases hc : btw (lev d.Start (gt p) (useF d.Hours) i) 0 d.Tank with
    | false =>
     refine ⟨([], false), rfl, rfl, (fun h => by cases h), fun _ => ⟨i, hi, fun hf => ?_⟩⟩
     rw [Qht.2 hf.2] at hc
     cases hc
    | true =>
     obtain ⟨c0, c1⟩ := Qht.1 hc
     obtain ⟨r, r1, r2, r3, r4⟩ := ih m (i + 1) (acc ++ [lev d.Start (gt p) (useF d.Hours) i]) (by omega) (by omega) (by simp [hacc]) (fun j hj => by
      rw [Qyu]
      split
      ·rename_i e; rw [e, hacc]
      ·exact hlev j (by omega)) c0 c1
     have hch : decide ((acc.length + [lev d.Start (gt p) (useF d.Hours) i].length) * 8 ≤ 140737488355328) = true := decide_eq_true (by simp; omega)
     refine ⟨r, ?_, ?_, fun hr => ?_, r4⟩
     ·simp only [Bool.not_true, cond_false, chk, hch, cond_true]
      exact r1
     ·simp only [Bool.not_true, cond_false, chk, hch, cond_true]
      exact r2
     ·obtain ⟨a, b, c⟩ := r3 hr
      refine ⟨a, b, fun j h1 h2 => ?_⟩
      rcases Nat.eq_or_lt_of_le h1 with rfl | hlt
      ·exact ⟨⟨x0, x1⟩, c0, c1⟩
      ·exact c j hlt h2
theorem Qof {N : Nat} {d : GDay} (p : List Int) (hN : 2000 ≤ N) (hd : dayB d = true) : ∃ r, Qfq N d p = some r ∧ Qgy N d p = some r ∧
  (r.2 = true → p.length = d.Hours.length ∧ r.1.length = d.Hours.length ∧ (∀ j, j < d.Hours.length → gt r.1 j = lev d.Start (gt p) (useF d.Hours) j) ∧ PlanOK (hrs d.Hours) (useF d.Hours) d.Start d.Tank d.Hours.length (gt p)) ∧
  (r.2 = false → ¬ (p.length = d.Hours.length ∧ PlanOK (hrs d.Hours) (useF d.Hours) d.Start d.Tank d.Hours.length (gt p))) := by
 obtain ⟨_, ⟨s0, s1⟩, h1, h2⟩ := Qm0 hd
 unfold Qfq Qgy
 rw [bne, Qpi]
 by_cases hl : p.length = d.Hours.length
 ·simp only [hl, decide_true, Bool.not_true, cond_false, Qbr]
  obtain ⟨r, r1, r2, r3, r4⟩ := lv_loop hN hd hl N d.Hours.length 0 [] (by omega) (by omega) rfl (fun j hj => by omega) s0 s1
  refine ⟨r, r1, r2, fun h => ?_, fun h ⟨_, hpl⟩ => ?_⟩
  ·obtain ⟨a, b, c⟩ := r3 h
   exact ⟨trivial, a, b, ⟨fun i hi => (c i (Nat.zero_le _) hi).1, fun i hi => (c i (Nat.zero_le _) hi).2⟩⟩
  ·obtain ⟨j, j1, j2⟩ := r4 h
   exact j2 ⟨hpl.fit j j1, hpl.tank j j1⟩
 ·exact ⟨([], false), by simp [hl], by simp [hl], (fun h => by cases h), fun _ h => hl h.1⟩
def allF (f : Nat → Bool) : Nat → Nat → Bool
 | 0, _ => true
 | d + 1, i => f i && allF f d (i + 1)
theorem Qnk (f : Nat → Bool) : ∀ (d i : Nat), allF f d i = true ↔ ∀ j, i ≤ j → j < i + d → f j = true
 | 0, i => ⟨fun _ j a b => by omega, fun _ => rfl⟩
 | d + 1, i => by
  rw [allF, Bool.and_eq_true, Qnk f d (i + 1)]
  constructor
  ·rintro ⟨h1, h2⟩ j a b
   rcases Nat.eq_or_lt_of_le a with rfl | hlt
   ·exact h1
   ·exact h2 j hlt (by omega)
  ·intro h
   exact ⟨h i (Nat.le_refl _) (by omega), fun j a b => h j (by omega) (by omega)⟩
def Qtn (T : Int) (L P : Nat → Int) (i : Nat) : Bool := !(decide (L i < T) && decide (P (i + 1) > P i)) && !(decide (L i > 0) && decide (P (i + 1) < P i))
def Qtp (hs : List GHour) (T : Int) (L x P : Nat → Int) (i : Nat) : Bool := shS (P i) (hrs hs i) (x i) && (if i + 1 = hs.length then true else Qtn T L P i)
def Qlz (hs : List GHour) (T : Int) (L x P : Nat → Int) (i : Nat) : Bool := btw (P i) 0 1000 && (shS (P i) (hrs hs i) (x i) && (if i + 1 = hs.length then (L i == 0) || (P i == 0) else Qtn T L P i))
theorem Qux {hs : List GHour} {T S : Int} {L x P : Nat → Int} (h1 : 1 ≤ hs.length) (hp : PlanOK (hrs hs) (useF hs) S T hs.length x) (hL : ∀ j, j < hs.length → L j = lev S x (useF hs) j) :
  ShOK (hrs hs) (useF hs) S T hs.length x P ↔ allF (Qlz hs T L x P) hs.length 0 = true := by
 rw [Qnk]
 constructor
 ·intro h j _ hj
  have hj' : j < hs.length := by omega
  unfold Qlz Qtn
  rw [Qht.2 (h.bd j hj'), h.sh j hj', Bool.true_and, Bool.true_and]
  have hLj := hL j hj'
  by_cases e : j + 1 = hs.length
  ·rw [if_pos e]
   rcases h.last j e with e' | e'
   ·simp [hLj, e']
   ·simp [e']
  ·rw [if_neg e]
   have u1 := h.up j (by omega)
   have u2 := h.dn j (by omega)
   rw [← hLj] at u1 u2
   simp only [Bool.and_eq_true, Bool.not_eq_true', Bool.and_eq_false_iff, decide_eq_false_iff_not]
   omega
 ·intro h
  have hc : ∀ j, j < hs.length → Qlz hs T L x P j = true := fun j hj => h j (Nat.zero_le _) (by omega)
  refine ⟨hp, fun j hj => ?_, fun j hj => ?_, fun j hj hlt => ?_, fun j hj hlt => ?_, fun j hj => ?_⟩
  ·have := hc j hj
   unfold Qlz at this
   simp only [Bool.and_eq_true] at this
   exact Qht.1 this.1
  ·have := hc j hj
   unfold Qlz at this
   simp only [Bool.and_eq_true] at this
   exact this.2.1
  ·have := hc j (by omega)
   unfold Qlz Qtn at this
   rw [if_neg (by omega)] at this
   simp only [Bool.and_eq_true, Bool.not_eq_true', Bool.and_eq_false_iff, decide_eq_false_iff_not] at this
   have hLj := hL j (by omega)
   omega
  ·have := hc j (by omega)
   unfold Qlz Qtn at this
   rw [if_neg (by omega)] at this
   simp only [Bool.and_eq_true, Bool.not_eq_true', Bool.and_eq_false_iff, decide_eq_false_iff_not] at this
   have hLj := hL j (by omega)
   omega
  ·have := hc j (by omega)
   unfold Qlz at this
   rw [if_pos hj] at this
   simp only [Bool.and_eq_true, Bool.or_eq_true, beq_iff_eq] at this
   rw [← hL j (by omega)]
   exact this.2.2
theorem shR_loop (N : Nat) (d : GDay) (i : Nat) (P : Int) (k : Unit → Option Bool) {h : GHour} (hg : d.Hours[i]? = some h) (hl : h.Stairs.length ≤ 1000) (hs : ∀ s ∈ h.Stairs, 1 ≤ s.Amount ∧ s.Amount ≤ 1000000000 ∧ 0 ≤ s.Price ∧ s.Price ≤ 1000) : ∀ (n j : Nat) (y : Int), (h.Stairs.drop j).length < n → 0 ≤ y → y ≤ 10000000000 →
  Qcr N d i P k n y j = bif shS P (h.Stairs.drop j) y then k () else some false := by
 intro n
 induction n with
 | zero => intro j _ h; exact absurd h (Nat.not_lt_zero _)
 | succ n ih =>
  intro j y hn y0 y1
  rw [Qcr, Qcs hg, Option.bind_some]
  cases hd : h.Stairs.drop j with
  | nil =>
   have := Qgh hd
   simp [show ¬ ((j : Int) < h.Stairs.length) from by omega, shS]
  | cons b l =>
   obtain ⟨hgj, hd', hlt⟩ := Qft hd
   have hb := hs b (List.mem_of_getElem? hgj)
   have e1 : w64 ((j : Int) + 1) = ((j + 1 : Nat) : Int) := Qco (by omega) (by omega)
   have e2 : (if b.Amount < y then b.Amount else y) = min y b.Amount := by split <;> omega
   have e3 : w64 (y - min y b.Amount) = y - min y b.Amount := Qco (by omega) (by omega)
   have ih' := ih (j + 1) (y - min y b.Amount) (by rw [hd']; rw [hd] at hn; simp at hn; omega) (by omega) (by omega)
   rw [hd'] at ih'
   simp only [show decide ((j : Int) < h.Stairs.length) = true from by simpa using hlt, cond_true, Qcs hgj, Option.bind_some, e1, e2, e3, ih', shS]
   cases decide (min y b.Amount > 0) <;> cases decide (b.Price > P) <;> cases decide (min y b.Amount < b.Amount) <;> cases decide (b.Price < P) <;> simp
theorem Qwc {N : Nat} {d : GDay} {p pr L : List Int} {q : List Int × Bool} (hq : q.1 = L) (hN : 2000 ≤ N) (hd : dayB d = true) (hp : p.length = d.Hours.length) (hpr : pr.length = d.Hours.length) (hL : L.length = d.Hours.length) (hfit : ∀ i, i < d.Hours.length → 0 ≤ gt p i ∧ gt p i ≤ Qdm (hrs d.Hours i)) (k : Unit → Option Bool) : ∀ (n m i : Nat), m < n → i + m + 1 = d.Hours.length →
  Qb9 N d p pr q k n i = some (allF (Qlz d.Hours d.Tank (gt L) (gt p) (gt pr)) (m + 1) i) := by
 have hdp := Qmm hd
 have h24 := hdp.few
 intro n
 induction n with
 | zero => intro m i h; omega
 | succ n ih =>
  intro m i hm him
  have hi : i < d.Hours.length := by omega
  have hg : d.Hours[i]? = some d.Hours[i] := List.getElem?_eq_getElem hi
  obtain ⟨e0, _⟩ := Qkd hg
  have hh := Qly hd (List.getElem_mem hi)
  have h6 := hh.few
  have hwh := hdp.whole i hi
  obtain ⟨f0, f1⟩ := hfit i hi
  have hx := Qe0 (l := p) (i := i) (by omega)
  have hP := Qe0 (l := pr) (i := i) (by omega)
  have hLi := Qe0 (l := L) (i := i) (by omega)
  have e1 : w64 ((i : Int) + 1) = ((i + 1 : Nat) : Int) := Qco (by omega) (by omega)
  have e2 : w64 ((d.Hours.length : Int) - 1) = ((d.Hours.length - 1 : Nat) : Int) := by rw [Qco (by omega) (by omega)]; omega
  rw [Qb9, hp]
  simp only [show decide ((i : Int) < (d.Hours.length : Int)) = true from decide_eq_true (by omega), cond_true, Qbr, Qcs hP, Qcs hx, Option.bind_some, Qyt, e1, e2]
  have hsh := shR_loop N d i (gt pr i) (fun _ => bif (i : Int) == ((d.Hours.length - 1 : Nat) : Int) then (getI q.1 i).bind fun x23 => bif x23 == 0 then some true else some (gt pr i == 0) else (getI q.1 i).bind fun x28 => bif decide (x28 < d.Tank) then (getI pr ((i + 1 : Nat) : Int)).bind fun x33 => bif decide (x33 > gt pr i) then some false else bif decide (x28 > 0) then bif decide (x33 < gt pr i) then some false else Qb9 N d p pr q k n ((i + 1 : Nat) : Int) else Qb9 N d p pr q k n ((i + 1 : Nat) : Int) else bif decide (x28 > 0) then (getI pr ((i + 1 : Nat) : Int)).bind fun x41 => bif decide (x41 < gt pr i) then some false else Qb9 N d p pr q k n ((i + 1 : Nat) : Int) else Qb9 N d p pr q k n ((i + 1 : Nat) : Int)) hg (by omega) hh.st N 0 (gt p i) (by simp; omega) f0 (by omega)
  rw [show ((0 : Nat) : Int) = 0 from rfl, List.drop_zero, ← e0] at hsh
  rw [hsh, allF, Qlz, Qpi, hq, Qcs hLi]
  simp only [Option.bind_some]
  cases btw (gt pr i) 0 1000 with
  | false => simp
  | true =>
   cases shS (gt pr i) (hrs d.Hours i) (gt p i) with
   | false => simp
   | true =>
    by_cases hlast : i + 1 = d.Hours.length
    ·obtain rfl : m = 0 := by omega
     rw [show decide (i = d.Hours.length - 1) = true from decide_eq_true (by omega), if_pos hlast]
     simp only [cond_true, allF, Bool.and_true, Bool.true_and]
     cases (gt L i == 0) <;> rfl
    ·obtain ⟨m, rfl⟩ : ∃ m', m = m' + 1 := ⟨m - 1, by omega⟩
     have hP2 := Qe0 (l := pr) (i := i + 1) (by omega)
     rw [show decide (i = d.Hours.length - 1) = false from decide_eq_false (by omega), if_neg hlast, Qcs hP2]
     have ih' := ih m (i + 1) (by omega) (by omega)
     simp only [ih', Option.bind_some, Qtn, Bool.not_true, cond_false, cond_true, Bool.true_and]
     cases decide (gt L i < d.Tank) <;> cases decide (gt pr (i + 1) > gt pr i) <;> cases decide (gt L i > 0) <;> cases decide (gt pr (i + 1) < gt pr i) <;> simp
theorem Qwb {N : Nat} {d : GDay} (p pr : List Int) (hN : 2000 ≤ N) (hd : dayB d = true) : ∃ b, Qgn N d p pr = some b ∧ (b = true ↔ p.length = d.Hours.length ∧ pr.length = d.Hours.length ∧ ShOK (hrs d.Hours) (useF d.Hours) d.Start d.Tank d.Hours.length (gt p) (gt pr)) := by
 obtain ⟨r, r1, r2, r3, r4⟩ := Qof (N := N) p hN hd
 obtain ⟨_, _, h1, h24⟩ := Qm0 hd
 unfold Qgn
 simp only [r2, Option.bind_some, Qbr]
 cases hr : r.2 with
 | false =>
  refine ⟨false, rfl, (fun h => by cases h), fun ⟨a, _, c⟩ => absurd ⟨a, c.plan⟩ (r4 hr)⟩
 | true =>
  obtain ⟨a, b, c, e⟩ := r3 hr
  rw [bne, Qpi, a]
  by_cases hpr : pr.length = d.Hours.length
  ·rw [show decide (pr.length = d.Hours.length) = true from decide_eq_true hpr]
   simp only [Bool.not_true, cond_false]
   have := Qwc (N := N) (q := r) rfl hN hd a hpr b e.fit (fun _ => some false) N (d.Hours.length - 1) 0 (by omega) (by omega)
   rw [show ((0 : Nat) : Int) = 0 from rfl, show d.Hours.length - 1 + 1 = d.Hours.length by omega] at this
   refine ⟨_, this, ?_⟩
   rw [← Qux h1 e c]
   exact ⟨fun h => ⟨trivial, hpr, h⟩, fun h => h.2.2⟩
  ·rw [show decide (pr.length = d.Hours.length) = false from decide_eq_false hpr]
   exact ⟨false, rfl, (fun h => by cases h), fun h => absurd h.2.1 hpr⟩
theorem Qrw (N : Nat) (pr : List Int) (i : Nat) (P : Int) (hP : pr[i]? = some P) (k : Unit → Option Bool) : ∀ (l : List GStair) (n : Int), Qa4 N pr i k (Qiw l n) = bif shS P l n then k () else some false
 | [], n => by rw [Qiw, Qa4, shS, cond_true]
 | s :: l, n => by
  rw [Qiw, Qa4, Qcs hP]
  simp only [Option.bind_some, Qrw N pr i P hP k l, shS]
  cases decide (min n s.Amount > 0) <;> cases decide (s.Price > P) <;> cases decide (min n s.Amount < s.Amount) <;> cases decide (s.Price < P) <;> simp
theorem Qwj {N : Nat} {d : GDay} {p pr L : List Int} {q : List Int × Bool} (hq : q.1 = L) (hN : 2000 ≤ N) (hd : dayB d = true) (hp : p.length = d.Hours.length) (hpr : pr.length = d.Hours.length) (hL : L.length = d.Hours.length) (hfit : ∀ i, i < d.Hours.length → 0 ≤ gt p i ∧ gt p i ≤ Qdm (hrs d.Hours i)) (k : Unit → Option Bool) : ∀ (n m i : Nat), m < n → i + m = d.Hours.length →
  Qcc N d p pr q k n i = bif allF (Qtp d.Hours d.Tank (gt L) (gt p) (gt pr)) m i then k () else some false := by
 have hdp := Qmm hd
 have h24 := hdp.few
 intro n
 induction n with
 | zero => intro m i h; omega
 | succ n ih =>
  intro m i hm him
  rw [Qcc]
  cases m with
  | zero =>
   rw [show decide ((i : Int) < (d.Hours.length : Int)) = false from decide_eq_false (by omega), cond_false, allF, cond_true]
  | succ m =>
   have hi : i < d.Hours.length := by omega
   have hg : d.Hours[i]? = some d.Hours[i] := List.getElem?_eq_getElem hi
   have e0 : d.Hours[i].Stairs = hrs d.Hours i := (Qkd hg).1.symm
   have h6 := hdp.six i hi
   have hwh := hdp.whole i hi
   obtain ⟨f0, f1⟩ := hfit i hi
   have hx := Qe0 (l := p) (i := i) (by omega)
   have hP := Qe0 (l := pr) (i := i) (by omega)
   have hLi := Qe0 (l := L) (i := i) (by omega)
   have e1 : w64 ((i : Int) + 1) = ((i + 1 : Nat) : Int) := Qco (by omega) (by omega)
   have e2 : w64 ((d.Hours.length : Int) - 1) = ((d.Hours.length - 1 : Nat) : Int) := by rw [Qco (by omega) (by omega)]; omega
   have htk := Qmf N (hrs d.Hours i) (by omega) (hdp.ok i hi).1 N 0 (gt p i) (by simp; omega) f0 (by omega)
   rw [show ((0 : Nat) : Int) = 0 from rfl, List.drop_zero] at htk
   have ih' := ih m (i + 1) (by omega) (by omega)
   simp only [show decide ((i : Int) < (d.Hours.length : Int)) = true from decide_eq_true (by omega), cond_true, Qbr, Qcs hg, Qcs hx, Option.bind_some, Qde, Qdd, e0, htk, Qrw N pr i _ hP, e1, e2, ih', allF, Qtp, Qpi, hq, Qcs hLi, Qcs hP]
   cases shS (gt pr i) (hrs d.Hours i) (gt p i) with
   | false => simp
   | true =>
    by_cases hlast : i + 1 = d.Hours.length
    ·rw [show decide (i = d.Hours.length - 1) = true from decide_eq_true (by omega), if_pos hlast]
     simp
    ·have hP2 := Qe0 (l := pr) (i := i + 1) (by omega)
     rw [show decide (i = d.Hours.length - 1) = false from decide_eq_false (by omega), if_neg hlast, Qcs hP2]
     simp only [Option.bind_some, Qtn]
     cases decide (gt L i < d.Tank) <;> cases decide (gt pr (i + 1) > gt pr i) <;> cases decide (gt L i > 0) <;> cases decide (gt pr (i + 1) < gt pr i) <;> simp
def Qkb (l : List Int) : Bool := l.all fun x => btw x 0 1000
theorem Qq4 (N : Nat) (t : List Int) (k : Unit → Option Int) (hl : t.length ≤ 1000) : ∀ (n i : Nat), (t.drop i).length < n → i ≤ t.length →
  Qa7 N t k n i = bif Qkb (t.drop i) then k () else some ((i : Int) + ((t.drop i).findIdx fun x => !btw x 0 1000 : Nat)) := by
 intro n
 induction n with
 | zero => intro i h; exact absurd h (Nat.not_lt_zero _)
 | succ n ih =>
  intro i h hi
  rw [Qa7]
  cases hd : t.drop i with
  | nil =>
   have := Qgh hd
   simp [show ¬ ((i : Int) < t.length) from by omega, Qkb]
  | cons b l =>
   obtain ⟨hg, hd', hlt⟩ := Qft hd
   have e1 : w64 ((i : Int) + 1) = ((i + 1 : Nat) : Int) := Qco (by omega) (by omega)
   have ih' := ih (i + 1) (by rw [hd']; rw [hd] at h; simp at h; omega) hlt
   rw [hd'] at ih'
   simp only [show decide ((i : Int) < t.length) = true from by simpa using hlt, cond_true, Qcs hg, Option.bind_some, Qf7, Qe2, Qj8, e1, ih', Qkb, List.all_cons, List.findIdx_cons]
   cases hb : btw b 0 1000 with
   | false => simp
   | true =>
    cases hu : (l.all fun x => btw x 0 1000) with
    | true => simp
    | false => simp; omega
theorem Qwk {N : Nat} {t : List Int} (hl : t.length ≤ 1000) (hN : 2000 ≤ N) : Qf2 N t = some (Qkb t) := by
 unfold Qf2 Qdf Qdw
 simp only [Qbr]
 have := Qq4 N t (fun _ => some (-1)) hl N 0 (by simp; omega) (Nat.zero_le _)
 rw [show ((0 : Nat) : Int) = 0 from rfl, List.drop_zero] at this
 rw [this]
 cases Qkb t with
 | true => rfl
 | false => simp
theorem Qn8 {t : List Int} : Qkb t = true ↔ ∀ i, i < t.length → 0 ≤ gt t i ∧ gt t i ≤ 1000 := by
 unfold Qkb
 rw [List.all_eq_true]
 constructor
 ·intro h i hi
  exact Qht.1 (h _ (List.mem_of_getElem? (Qe0 hi)))
 ·intro h x hx
  obtain ⟨i, hi⟩ := List.getElem?_of_mem hx
  have := h i (List.getElem?_eq_some_iff.1 hi).1
  rw [gt_of hi] at this
  exact Qht.2 this
theorem Qwi {N : Nat} {d : GDay} (p pr : List Int) (hN : 2000 ≤ N) (hf : FewP d) (hd : dayB d = true) : ∃ b, Qda N d p pr = some b ∧ (b = true ↔ p.length = d.Hours.length ∧ pr.length = d.Hours.length ∧ ShOK (hrs d.Hours) (useF d.Hours) d.Start d.Tank d.Hours.length (gt p) (gt pr)) := by
 obtain ⟨r, r1, r2, r3, r4⟩ := Qof (N := N) p hN hd
 obtain ⟨_, _, h1, h24⟩ := Qm0 hd
 unfold Qda
 simp only [Qto hf hN, hd, Option.bind_some, Qbr, Bool.not_true, cond_false]
 rw [bne, Qpi]
 by_cases hpr : pr.length = d.Hours.length
 ·rw [show decide (pr.length = d.Hours.length) = true from decide_eq_true hpr]
  simp only [Bool.not_true, cond_false, Qwk (show pr.length ≤ 1000 by omega) hN, Option.bind_some, r1]
  cases hb : Qkb pr with
  | false =>
   refine ⟨false, rfl, (fun h => by cases h), fun ⟨_, _, c⟩ => ?_⟩
   rw [Qn8.2 (fun i hi => c.bd i (by omega))] at hb
   cases hb
  | true =>
   have hbd := Qn8.1 hb
   cases hr : r.2 with
   | false => exact ⟨false, rfl, (fun h => by cases h), fun ⟨a, _, c⟩ => absurd ⟨a, c.plan⟩ (r4 hr)⟩
   | true =>
    obtain ⟨a, b, c, e⟩ := r3 hr
    have hlast := Qe0 (l := r.1) (i := d.Hours.length - 1) (by omega)
    have hlastP := Qe0 (l := pr) (i := d.Hours.length - 1) (by omega)
    have e2 : w64 ((d.Hours.length : Int) - 1) = ((d.Hours.length - 1 : Nat) : Int) := by rw [Qco (by omega) (by omega)]; omega
    have hlp := Qwj (N := N) (q := r) rfl hN hd a hpr b e.fit (fun _ => (getI r.1 ((d.Hours.length - 1 : Nat) : Int)).bind fun x8 => bif x8 == 0 then some true else (getI pr ((d.Hours.length - 1 : Nat) : Int)).bind fun x13 => some (x13 == 0)) N d.Hours.length 0 (by omega) (by omega)
    rw [show ((0 : Nat) : Int) = 0 from rfl] at hlp
    simp only [Bool.not_true, cond_false, e2]
    rw [hlp]
    simp only [Option.bind_some, Qcs hlast, Qcs hlastP]
    have key : allF (Qlz d.Hours d.Tank (gt r.1) (gt p) (gt pr)) d.Hours.length 0 = (allF (Qtp d.Hours d.Tank (gt r.1) (gt p) (gt pr)) d.Hours.length 0 && ((gt r.1 (d.Hours.length - 1) == 0) || (gt pr (d.Hours.length - 1) == 0))) := by
     rw [Bool.eq_iff_iff, Bool.and_eq_true, Qnk, Qnk]
     constructor
     ·intro h
      refine ⟨fun j j1 j2 => ?_, ?_⟩
      ·have := h j j1 j2
       unfold Qlz at this
       unfold Qtp
       simp only [Bool.and_eq_true] at this ⊢
       refine ⟨this.2.1, ?_⟩
       by_cases e : j + 1 = d.Hours.length
       ·rw [if_pos e]
       ·have h2 := this.2.2
        rw [if_neg e] at h2 ⊢
        exact h2
      ·have := h (d.Hours.length - 1) (Nat.zero_le _) (by omega)
       unfold Qlz at this
       simp only [Bool.and_eq_true] at this
       have h2 := this.2.2
       rw [if_pos (by omega)] at h2
       exact h2
     ·rintro ⟨h, h2⟩ j j1 j2
      have := h j j1 j2
      unfold Qtp at this
      unfold Qlz
      simp only [Bool.and_eq_true] at this ⊢
      refine ⟨Qht.2 (hbd j (by omega)), this.1, ?_⟩
      by_cases e : j + 1 = d.Hours.length
      ·rw [if_pos e]
       rw [show d.Hours.length - 1 = j by omega] at h2
       exact h2
      ·have h3 := this.2
       rw [if_neg e] at h3 ⊢
       exact h3
    have hiff := Qux (P := gt pr) h1 e c
    rw [key] at hiff
    refine ⟨allF (Qtp d.Hours d.Tank (gt r.1) (gt p) (gt pr)) d.Hours.length 0 && ((gt r.1 (d.Hours.length - 1) == 0) || (gt pr (d.Hours.length - 1) == 0)), ?_, ?_⟩
    ·cases allF (Qtp d.Hours d.Tank (gt r.1) (gt p) (gt pr)) d.Hours.length 0 with
     | false => rfl
     | true => cases (gt r.1 (d.Hours.length - 1) == 0) <;> rfl
    ·rw [← hiff]
     exact ⟨fun h => ⟨a, hpr, h⟩, fun h => h.2.2⟩
 ·rw [show decide (pr.length = d.Hours.length) = false from decide_eq_false hpr]
  exact ⟨false, rfl, (fun h => by cases h), fun h => absurd h.2.1 hpr⟩
end Go.Proofs.Ytgdepcgbjjgnfaa
