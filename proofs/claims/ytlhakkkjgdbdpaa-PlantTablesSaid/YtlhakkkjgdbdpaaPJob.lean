/-
  Plain laws on jobs: whether they are valid, and the gain of an hour. No conditions.
-/
import Derived.Test.YtlhakkkjgdbdpaaX14
import Derived.Test.YtlhakkkjgdbdpaaPPlant
namespace Go.Proofs.Ytlhakkkjgdbdpaa
open Go.RowKit
def Qr4 (H : GHour) : Bool := btw H.Price (-1000) 1000 && btw H.Most 0 1000000
def Qpl : Int → List Int → Bool
 | _, [] => true
 | a, x :: l => decide (x > a) && decide (x ≤ 1000000) && Qpl x l
def jobB (j : GJob) : Bool :=
 btw j.Levels.length 2 12 && (j.Levels.getD 0 1 == 0) && Qpl (-1) j.Levels && btw j.Ramp 1 12 && btw j.Start 0 1000000000 && btw j.First 0 (j.Levels.length - 1) && btw j.Hours.length 1 100 && j.Hours.all Qr4
theorem rise1_eq (N : Nat) (x a : Int) : Qfa N x a = some (!(decide (x > a) && decide (x ≤ 1000000))) := by
 unfold Qfa Qfr
 by_cases h : x > a <;> simp [h]
theorem rise_loop (N : Nat) (t : List Int) (hl : (t.length : Int) ≤ 9223372036854775807) : ∀ (n i : Nat) (last : Int), (t.drop i).length < n →
  ∃ x y : Int, Qbo N t (fun y3 => some ((-1), y3)) n i last = some (x, y) ∧ (decide (x ≥ 0)) = !(Qpl last (t.drop i)) := by
 intro n
 induction n with
 | zero => intro i last h; exact absurd h (Nat.not_lt_zero _)
 | succ n ih =>
  intro i last h
  rw [Qbo]
  cases hd : t.drop i with
  | nil =>
   have := Qf6 hd
   exact ⟨-1, last, by simp [show ¬ ((i : Int) < t.length) from by omega], rfl⟩
  | cons p l =>
   obtain ⟨hi, hd', hlt⟩ := Qen hd
   have e1 : w64 ((i : Int) + 1) = ((i + 1 : Nat) : Int) := Qc3 (by omega) (by omega)
   simp only [show decide ((i : Int) < t.length) = true from by simpa using hlt, cond_true, Qdt hi, Option.bind_some, rise1_eq, e1, Qpl]
   cases hv : (decide (p > last) && decide (p ≤ 1000000)) with
   | false => exact ⟨i, p, by simp, by simp⟩
   | true =>
    have ih' := ih (i + 1) p (by rw [hd']; rw [hd] at h; simp at h; omega)
    rw [hd'] at ih'
    simpa using ih'
theorem hour1_eq (N : Nat) (H : GHour) : Qdm N H = some (!Qr4 H) := by
 unfold Qdm Qgg Qr4
 simp only [Qm9, Option.bind_some]
 cases btw H.Price (-1000) 1000 <;> simp
theorem Qyg (N : Nat) (t : List GHour) (hl : (t.length : Int) ≤ 9223372036854775807) : ∀ (n i : Nat), (t.drop i).length < n →
  ∃ x : Int, Qaz N t (fun _ => some (-1)) n i = some x ∧ (decide (x ≥ 0)) = !((t.drop i).all Qr4) := by
 intro n
 induction n with
 | zero => intro i h; exact absurd h (Nat.not_lt_zero _)
 | succ n ih =>
  intro i h
  rw [Qaz]
  cases hd : t.drop i with
  | nil =>
   have := Qf6 hd
   exact ⟨-1, by simp [show ¬ ((i : Int) < t.length) from by omega], rfl⟩
  | cons p l =>
   obtain ⟨hi, hd', hlt⟩ := Qen hd
   have e1 : w64 ((i : Int) + 1) = ((i + 1 : Nat) : Int) := Qc3 (by omega) (by omega)
   simp only [show decide ((i : Int) < t.length) = true from by simpa using hlt, cond_true, Qdt hi, Option.bind_some, hour1_eq, e1, List.all_cons]
   cases hv : Qr4 p with
   | false => exact ⟨i, by simp, by simp⟩
   | true =>
    have ih' := ih (i + 1) (by rw [hd']; rw [hd] at h; simp at h; omega)
    rw [hd'] at ih'
    simpa using ih'
theorem job_eq {N : Nat} {j : GJob} (hN : 300 ≤ N) : Qe5 N j = some (jobB j) := by
 unfold Qe5 jobB
 simp only [Qm9, Option.bind_some]
 cases h0 : btw j.Levels.length 2 12 <;> simp only [cond_true, cond_false, Bool.false_and, Bool.true_and]
 obtain ⟨h1, h2⟩ := Qix.1 h0
 have e0 : getI j.Levels 0 = some (j.Levels.getD 0 1) := by
  cases hl : j.Levels with
  | nil => rw [hl] at h1; simp at h1
  | cons x l => rfl
 simp only [e0, Option.bind_some]
 cases h3 : (j.Levels.getD 0 1 == 0) <;> simp only [cond_true, cond_false, Bool.false_and, Bool.true_and]
 unfold Qg6 Qdg Qd6
 obtain ⟨x, y, e1, e2⟩ := rise_loop N j.Levels (by omega) N 0 (-1) (by simp; omega)
 rw [show ((0 : Nat) : Int) = 0 from rfl] at e1
 rw [List.drop_zero] at e2
 have e3 : w64 ((j.Levels.length : Int) - 1) = (j.Levels.length : Int) - 1 := Qc3 (by omega) (by omega)
 simp only [Qb0, e1, Option.bind_some, e2, Bool.not_not, e3]
 cases h4 : Qpl (-1) j.Levels <;> simp only [cond_true, cond_false, Bool.false_and, Bool.true_and]
 cases h5 : btw j.Ramp 1 12 <;> simp only [cond_true, cond_false, Bool.false_and, Bool.true_and]
 cases h6 : btw j.Start 0 1000000000 <;> simp only [cond_true, cond_false, Bool.false_and, Bool.true_and]
 cases h7 : btw j.First 0 (j.Levels.length - 1) <;> simp only [cond_true, cond_false, Bool.false_and, Bool.true_and]
 cases h8 : btw j.Hours.length 1 100 <;> simp only [cond_true, cond_false, Bool.false_and, Bool.true_and]
 obtain ⟨h9, h10⟩ := Qix.1 h8
 unfold Qer Qb1 Qb7
 obtain ⟨x, f1, f2⟩ := Qyg N j.Hours (by omega) N 0 (by simp; omega)
 rw [show ((0 : Nat) : Int) = 0 from rfl] at f1
 rw [List.drop_zero] at f2
 simp only [Qb0, f1, Option.bind_some, f2, Bool.not_not]
def Qqh : Option Int → List Int → Bool
 | _, [] => true
 | none, x :: l => (x == 0) && Qqh (some x) l
 | some a, x :: l => decide (a < x) && decide (x ≤ 1000000) && Qqh (some x) l
def Qtr (t : List Int) (i : Nat) : Option Int := if i = 0 then none else t[i - 1]?
theorem levR_loop (N : Nat) (j : GJob) (k : Unit → Option Bool) (hl : (j.Levels.length : Int) ≤ 9223372036854775807) : ∀ (n i : Nat), (j.Levels.drop i).length < n → (∀ a, Qtr j.Levels i = some a → 0 ≤ a) →
  Qb3 N j k n i = bif Qqh (Qtr j.Levels i) (j.Levels.drop i) then k () else some false := by
 intro n
 induction n with
 | zero => intro i h; exact absurd h (Nat.not_lt_zero _)
 | succ n ih =>
  intro i h hp
  rw [Qb3]
  cases hd : j.Levels.drop i with
  | nil =>
   have := Qf6 hd
   simp [show ¬ ((i : Int) < j.Levels.length) from by omega, Qqh]
  | cons x l =>
   obtain ⟨hi, hd', hlt⟩ := Qen hd
   have e1 : w64 ((i : Int) + 1) = ((i + 1 : Nat) : Int) := Qc3 (by omega) (by omega)
   have hnext : Qtr j.Levels (i + 1) = some x := by simp [Qtr, hi]
   have ih' := fun h0 => ih (i + 1) (by rw [hd']; rw [hd] at h; simp at h; omega) h0
   rw [hd', hnext] at ih'
   simp only [show decide ((i : Int) < j.Levels.length) = true from by simpa using hlt, cond_true, Qdt hi, Option.bind_some, e1]
   rcases Nat.eq_zero_or_pos i with rfl | hpos
   ·have e2 : Qtr j.Levels 0 = none := rfl
    rw [e2, Qqh]
    by_cases hx : x = 0
    ·subst hx
     have := ih' (fun a h => by simp at h; omega)
     rw [this]
     simp
    ·have hx' : (x == 0) = false := by simpa using hx
     have hx2 : (x != 0) = true := by simp [hx]
     by_cases h1 : x < 0
     ·simp [h1, hx']
     ·by_cases h2 : x > 1000000 <;> simp [h1, h2, hx2, hx']
   ·obtain ⟨a, ha⟩ : ∃ a, j.Levels[i - 1]? = some a := ⟨_, List.getElem?_eq_getElem (by omega)⟩
    have e2 : w64 ((i : Int) - 1) = ((i - 1 : Nat) : Int) := by rw [Qc3 (by omega) (by omega)]; omega
    have e3 : Qtr j.Levels i = some a := by rw [Qtr, if_neg (by omega), ha]
    have ha0 := hp a e3
    rw [e3, Qqh]
    have hi0 : ((i : Int) == 0) = false := by simp; omega
    simp only [hi0, cond_false, e2, Qdt ha, Option.bind_some, show decide ((i : Int) > 0) = true from by simpa using hpos, cond_true]
    by_cases h1 : x < 0
    ·have : ¬ a < x := by omega
     simp [h1, this]
    ·by_cases h2 : x > 1000000
     ·have : ¬ x ≤ 1000000 := by omega
      simp [h1, h2, this]
     ·by_cases h3 : x ≤ a
      ·have : ¬ a < x := by omega
       simp [h1, h2, h3, this]
      ·have h4 : a < x := by omega
       have h5 : x ≤ 1000000 := by omega
       have := ih' (fun a h => by simp at h; omega)
       simp only [Int.natCast_add, Int.cast_ofNat_Int] at this
       simp [h1, h2, h3, h4, h5, this]
theorem Qyh (N : Nat) (j : GJob) (k : Unit → Option Bool) (hl : (j.Hours.length : Int) ≤ 9223372036854775807) : ∀ (n i : Nat), (j.Hours.drop i).length < n →
  Qcs N j k n i = bif (j.Hours.drop i).all Qr4 then k () else some false := by
 intro n
 induction n with
 | zero => intro i h; exact absurd h (Nat.not_lt_zero _)
 | succ n ih =>
  intro i h
  rw [Qcs]
  cases hd : j.Hours.drop i with
  | nil =>
   have := Qf6 hd
   simp [show ¬ ((i : Int) < j.Hours.length) from by omega]
  | cons p l =>
   obtain ⟨hi, hd', hlt⟩ := Qen hd
   have e1 : w64 ((i : Int) + 1) = ((i + 1 : Nat) : Int) := Qc3 (by omega) (by omega)
   have ih' := ih (i + 1) (by rw [hd']; rw [hd] at h; simp at h; omega)
   rw [hd'] at ih'
   simp only [show decide ((i : Int) < j.Hours.length) = true from by simpa using hlt, cond_true, Qdt hi, Option.bind_some, in_eq, e1, ih', List.all_cons, Qr4]
   cases btw p.Price (-1000) 1000 <;> cases btw p.Most 0 1000000 <;> simp
theorem look_rise (l : List Int) : Qqh none l = (bif l.isEmpty then true else (l.getD 0 1 == 0) && Qpl (-1) l) := by
 have key : ∀ (l : List Int) (a : Int), Qqh (some a) l = Qpl a l := by
  intro l
  induction l with
  | nil => intro a; rfl
  | cons x l ih => intro a; simp [Qqh, Qpl, ih]
 cases l with
 | nil => rfl
 | cons x l =>
  rw [Qqh, key]
  by_cases hx : x = 0
  ·subst hx; simp [Qpl]
  ·have : (x == 0) = false := by simpa using hx
   simp [this]
theorem jobR_eq {N : Nat} {j : GJob} (hl : (j.Levels.length : Int) ≤ 9223372036854775807) (hh : (j.Hours.length : Int) ≤ 9223372036854775807) (hN : j.Levels.length + j.Hours.length + 300 ≤ N) : Qft N j = some (jobB j) := by
 unfold Qft
 simp only [Qb0]
 have a1 := levR_loop N j (fun _ => Qcs N j (fun _ => bif (decide ((j.Levels.length : Int) ≥ 2)) then bif (decide ((j.Levels.length : Int) ≤ 12)) then (Qez N j.Ramp 1 12).bind fun x6 => bif x6 then (Qez N j.Start 0 1000000000).bind fun x9 => bif x9 then (Qez N j.First 0 (w64 ((j.Levels.length : Int) - 1))).bind fun x12 => bif x12 then bif (decide ((j.Hours.length : Int) ≥ 1)) then some (decide ((j.Hours.length : Int) ≤ 100)) else some false else some false else some false else some false else some false else some false) N 0) hl N 0 (by simp; omega) (fun a h => by cases h)
 have a2 := fun k => Qyh N j k hh N 0 (by simp; omega)
 simp only [show ((0 : Nat) : Int) = 0 from rfl, List.drop_zero] at a1 a2
 rw [a1, show Qtr j.Levels 0 = none from rfl, a2, look_rise]
 unfold jobB
 simp only [in_eq, Option.bind_some]
 have e3 : w64 ((j.Levels.length : Int) - 1) = (j.Levels.length : Int) - 1 := Qc3 (by omega) (by omega)
 rw [e3]
 cases hlv : j.Levels with
 | nil => cases h : j.Hours.all Qr4 <;> simp [btw]
 | cons x l =>
  have bs : ∀ a b : Bool, (bif a then some b else some false) = some (a && b) := by intro a b; cases a <;> rfl
  simp only [List.isEmpty_cons, cond_false, bs, btw, ge_iff_le]
  congr 1
  ac_rfl
def levI (j : GJob) (k : Nat) : Int := j.Levels.getD k 0
def folB (j : GJob) (H : GHour) (b k : Int) : Bool := btw k 0 (j.Levels.length - 1) && btw (k - b) (-j.Ramp) j.Ramp && decide (levI j k.toNat ≤ H.Most)
def gnI (j : GJob) (H : GHour) (b k : Int) : Int := H.Price * levI j k.toNat - (if b = 0 ∧ 0 < k then j.Start else 0)
structure JobOK (j : GJob) : Prop where
 l0 : 2 ≤ j.Levels.length
 l1 : j.Levels.length ≤ 12
 lev : ∀ x ∈ j.Levels, 0 ≤ x ∧ x ≤ 1000000
 r0 : 1 ≤ j.Ramp
 r1 : j.Ramp ≤ 12
 s0 : 0 ≤ j.Start
 s1 : j.Start ≤ 1000000000
 f0 : 0 ≤ j.First
 f1 : j.First ≤ j.Levels.length - 1
 h0 : 1 ≤ j.Hours.length
 h1 : j.Hours.length ≤ 100
 hours : ∀ H ∈ j.Hours, (-1000 ≤ H.Price ∧ H.Price ≤ 1000) ∧ 0 ≤ H.Most ∧ H.Most ≤ 1000000
theorem Qws : ∀ (l : List Int) (a : Int), Qpl a l = true → -1 ≤ a → ∀ x ∈ l, 0 ≤ x ∧ x ≤ 1000000
 | [], _, _, _, x, hx => by cases hx
 | y :: l, a, h, ha, x, hx => by
  simp only [Qpl, Bool.and_eq_true, decide_eq_true_eq] at h
  rcases List.mem_cons.1 hx with rfl | hx
  ·omega
  ·exact Qws l y h.2 (by omega) x hx
theorem jobOK {j : GJob} (h : jobB j = true) : JobOK j := by
 unfold jobB at h
 simp only [Bool.and_eq_true, Qix, List.all_eq_true] at h
 obtain ⟨⟨⟨⟨⟨⟨⟨h1, h2⟩, h3⟩, h4⟩, h5⟩, h6⟩, h7⟩, h8⟩ := h
 refine ⟨by omega, by omega, Qws _ _ h3 (by omega), h4.1, h4.2, h5.1, h5.2, h6.1, h6.2, by omega, by omega, fun H hH => ?_⟩
 have := h8 H hH
 simp only [Qr4, Bool.and_eq_true, Qix] at this
 exact this
theorem Qry {p x : Int} (p0 : -1000 ≤ p) (p1 : p ≤ 1000) (x0 : 0 ≤ x) (x1 : x ≤ 1000000) : -1000000000 ≤ p * x ∧ p * x ≤ 1000000000 := by
 have h1 : (-1000) * x ≤ p * x := Int.mul_le_mul_of_nonneg_right p0 x0
 have h2 : p * x ≤ 1000 * x := Int.mul_le_mul_of_nonneg_right p1 x0
 omega
theorem lev_bd {j : GJob} (h : JobOK j) (k : Nat) : 0 ≤ levI j k ∧ levI j k ≤ 1000000 := by
 unfold levI
 rw [List.getD_eq_getElem?_getD]
 cases hk : j.Levels[k]? with
 | none => simp
 | some x => exact h.lev x (List.mem_of_getElem? hk)
theorem Qyi {j : GJob} (h : JobOK j) {H : GHour} (hH : H ∈ j.Hours) (b k : Int) : -2000000000 ≤ gnI j H b k ∧ gnI j H b k ≤ 1000000000 := by
 have h1 := h.hours H hH
 have h2 := lev_bd h k.toNat
 have h3 := Qry h1.1.1 h1.1.2 h2.1 h2.2
 have h4 := h.s0
 have h5 := h.s1
 unfold gnI
 split <;> omega
theorem Qr6 {j : GJob} {k : Int} (h0 : 0 ≤ k) (h1 : k ≤ j.Levels.length - 1) : getI j.Levels k = some (levI j k.toNat) := by
 have hlt : k.toNat < j.Levels.length := by omega
 simp [getI, h0, levI, List.getD_eq_getElem?_getD, List.getElem?_eq_getElem hlt]
theorem gain_eq {N : Nat} {j : GJob} (hj : JobOK j) {h : Nat} {H : GHour} (hH : j.Hours[h]? = some H) {b k : Int} (b0 : 0 ≤ b) (b1 : b ≤ 11) : Qef N j h b k = some (bif folB j H b k then (gnI j H b k, true) else (0, false)) := by
 have hL := hj.l1
 have hL0 := hj.l0
 have hr0 := hj.r0
 have hr1 := hj.r1
 have e3 : w64 ((j.Levels.length : Int) - 1) = (j.Levels.length : Int) - 1 := Qc3 (by omega) (by omega)
 have e4 : w64 (0 - j.Ramp) = -j.Ramp := by rw [Qc3 (by omega) (by omega)]; omega
 unfold Qef folB
 simp only [Qdt hH, Option.bind_some, Qb0, Qm9, e3, e4]
 cases h1 : btw k 0 (j.Levels.length - 1) with
 | false => rfl
 | true =>
  obtain ⟨k0, k1⟩ := Qix.1 h1
  have e5 : w64 (k - b) = k - b := Qc3 (by omega) (by omega)
  simp only [Bool.not_true, cond_false, e5, Bool.true_and]
  cases h2 : btw (k - b) (-j.Ramp) j.Ramp with
  | false => rfl
  | true =>
   have hb := hj.hours H (List.mem_of_getElem? hH)
   have hlv := lev_bd hj k.toNat
   have hp := Qry hb.1.1 hb.1.2 hlv.1 hlv.2
   have hs0 := hj.s0
   have hs1 := hj.s1
   have e6 : w64 (H.Price * levI j k.toNat) = H.Price * levI j k.toNat := Qc3 (by omega) (by omega)
   have e7 : w64 (H.Price * levI j k.toNat - j.Start) = H.Price * levI j k.toNat - j.Start := Qc3 (by omega) (by omega)
   simp only [Bool.not_true, cond_false, Qr6 k0 k1, Option.bind_some, Bool.true_and, e6, e7, gnI]
   by_cases h3 : levI j k.toNat ≤ H.Most
   ·have : ¬ levI j k.toNat > H.Most := by omega
    by_cases h4 : b = 0
    ·by_cases h5 : 0 < k
     ·simp [h3, this, h4, h5]
     ·simp [h3, this, h4, h5]
    ·have h6 : (b == 0) = false := by simpa using h4
     simp [h3, this, h4, h6]
   ·have : levI j k.toNat > H.Most := by omega
    simp [h3, this]
theorem list_eq {N : Nat} {l : List Int} (h : l.length ≤ 1000000000) : Qf5 N l = some l := by
 unfold Qf5
 simp only [chk, show decide ((0 + l.length) * 8 ≤ 140737488355328) = true from decide_eq_true (by omega), cond_true]
theorem Qyl (N : Nat) (j : GJob) (k : List GHour → Option GJob) (hl : j.Hours.length ≤ 1000) : ∀ (n i : Nat) (acc : List GHour), (j.Hours.drop i).length < n → acc.length = i →
  Qek N j k n i acc = k (acc ++ j.Hours.drop i) := by
 intro n
 induction n with
 | zero => intro i _ h; exact absurd h (Nat.not_lt_zero _)
 | succ n ih =>
  intro i acc h hacc
  rw [Qek]
  cases hd : j.Hours.drop i with
  | nil =>
   have := Qf6 hd
   simp [show ¬ ((i : Int) < j.Hours.length) from by omega]
  | cons b l =>
   obtain ⟨hg, hd', hlt⟩ := Qen hd
   have e1 : w64 ((i : Int) + 1) = ((i + 1 : Nat) : Int) := Qc3 (by omega) (by omega)
   simp only [show decide ((i : Int) < j.Hours.length) = true from by simpa using hlt, cond_true, Qdt hg, Option.bind_some, e1]
   rw [ih (i + 1) (acc ++ [b]) (by rw [hd']; rw [hd] at h; simp at h; omega) (by simp [hacc]), hd']
   simp only [chk, show decide ((acc.length + [b].length) * 16 ≤ 140737488355328) = true from by simp; omega, cond_true, List.append_assoc, List.cons_append, List.nil_append]
theorem copyJ_eq {N : Nat} {j : GJob} (hl : j.Hours.length ≤ 200) (hL : j.Levels.length ≤ 200) (hN : 300 ≤ N) : Qkf N j = some j := by
 unfold Qkf
 rw [list_eq (by omega)]
 simp only [Qb0, Option.bind_some]
 have := Qyl N j (fun y3 => some ⟨j.Levels, j.Ramp, j.Start, j.First, y3⟩) (by omega) N 0 [] (by simp; omega) rfl
 simpa using this
end Go.Proofs.Ytlhakkkjgdbdpaa
