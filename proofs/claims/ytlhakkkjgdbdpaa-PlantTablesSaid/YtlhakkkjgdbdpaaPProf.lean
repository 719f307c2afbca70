/-
  Plain laws of dispatching: the profit of any plan, and what ProveDispatch accepts. No conditions.
-/
import Derived.Test.YtlhakkkjgdbdpaaPDisp
namespace Go.Proofs.Ytlhakkkjgdbdpaa
open Go.RowKit
def Qoa (j : GJob) (p : List Int) : Option Int := Qku (folB j) (gnI j) j.Hours j.First p
theorem Qnk {j : GJob} (hj : JobOK j) : 0 ≤ j.First ∧ j.First ≤ 11 := by
 have := hj.f0; have := hj.f1; have := hj.l1
 omega
theorem Qvi {N : Nat} {j : GJob} (hj : JobOK j) {p : List Int} (hp : p.length = j.Hours.length) (K : Int → Option (Int × Bool)) : ∀ (n h : Nat) (b acc : Int), (j.Hours.drop h).length < n → 0 ≤ b → b ≤ 11 → -2000000000 * (h : Int) ≤ acc → acc ≤ 1000000000 * (h : Int) →
  Qcu N j p K n acc b h = match Qku (folB j) (gnI j) (j.Hours.drop h) b (p.drop h) with | some v => K (acc + v) | none => some (0, false) := by
 have hH := hj.h1
 intro n
 induction n with
 | zero => intro h _ _ h; exact absurd h (Nat.not_lt_zero _)
 | succ n ih =>
  intro h b acc hn b0 b1 a0 a1
  rw [Qcu]
  cases hd : j.Hours.drop h with
  | nil =>
   have h1 := Qf6 hd
   rw [List.drop_eq_nil_of_le (by omega), show decide ((h : Int) < (p.length : Int)) = false from decide_eq_false (by omega)]
   simp [Qku]
  | cons H hs =>
   obtain ⟨hH', hd', hlt⟩ := Qen hd
   obtain ⟨k, hk⟩ : ∃ k, p[h]? = some k := ⟨_, List.getElem?_eq_getElem (by omega)⟩
   have hdp : p.drop h = k :: p.drop (h + 1) := by
    rw [List.getElem?_eq_some_iff] at hk
    obtain ⟨hk1, hk2⟩ := hk
    rw [List.drop_eq_getElem_cons hk1, hk2]
   rw [show decide ((h : Int) < (p.length : Int)) = true from decide_eq_true (by omega), cond_true, Qdt hk, Option.bind_some, gain_eq hj hH' b0 b1, hdp, Qku]
   cases hf : folB j H b k with
   | false => simp
   | true =>
    have hk2 := fol_in H b k hf
    have hL := (Qj5 hj).2
    have gb := Qyi hj (List.mem_of_getElem? hH') b k
    have e1 : w64 ((h : Int) + 1) = ((h + 1 : Nat) : Int) := Qc3 (by omega) (by omega)
    have e2 : w64 (acc + gnI j H b k) = acc + gnI j H b k := Qc3 (by omega) (by omega)
    simp only [cond_true, Option.bind_some, Bool.not_true, cond_false, e1, e2]
    rw [ih (h + 1) k _ (by rw [hd']; rw [hd] at hn; simp at hn; omega) hk2.1 (by omega) (by omega) (by omega), hd']
    cases Qku (folB j) (gnI j) hs k (p.drop (h + 1)) with
    | none => simp
    | some v => simp [Int.add_assoc]
def outP (x : Option Int) : Int × Int := match x with | some v => (v, 0) | none => (0, 1)
theorem profit_eq {N : Nat} {j : GJob} {p : List Int} (hN : 300 ≤ N) : Qh0 N j p = some (bif jobB j then outP (Qoa j p) else (0, 1)) := by
 unfold Qh0
 simp only [Qb0, job_eq hN, Option.bind_some]
 cases hv : jobB j with
 | false => rfl
 | true =>
  have hj := jobOK hv
  simp only [Bool.not_true, cond_false, cond_true]
  by_cases hl : p.length = j.Hours.length
  ·rw [show ((p.length : Int) != (j.Hours.length : Int)) = false from by simp [hl], cond_false]
   unfold Qgw
   simp only [Qb0]
   have hf := Qnk hj
   have := Qvi (N := N) hj hl (fun y => some (y, true)) N 0 j.First 0 (by have := hj.h1; simp; omega) hf.1 hf.2 (by simp) (by simp)
   rw [show ((0 : Nat) : Int) = 0 from rfl] at this
   rw [this, List.drop_zero, List.drop_zero]
   unfold Qoa
   cases Qku (folB j) (gnI j) j.Hours j.First p with
   | none => rfl
   | some v => simp [outP]
  ·rw [show ((p.length : Int) != (j.Hours.length : Int)) = true from by simp; omega, cond_true]
   have : Qoa j p = none := by
    cases h : Qoa j p with
    | none => rfl
    | some v => exact absurd (Qts h) hl
   rw [this]
   rfl
def tv (T : List (List Int)) (h l : Nat) : Int := (T.getD h []).getD l 0
def hr (j : GJob) (h : Nat) : GHour := j.Hours.getD h ⟨0, 0⟩
def Ql2 (j : GJob) (T : List (List Int)) (h l k : Nat) : Bool := !(folB j (hr j h) l k) || !(decide (tv T h l < gnI j (hr j h) l k + tv T (h + 1) k))
def rngB (x : Int) : Bool := btw x (-1000000000000) 1000000000000
def rowB (j : GJob) (h : Nat) (r : List Int) : Bool := decide (r.length = nL j) && r.all rngB && (!(decide (h = nH j)) || r.all fun x => !decide (x < 0))
def Qkb (j : GJob) : Nat → List (List Int) → Bool
 | _, [] => true
 | h, r :: T => rowB j h r && Qkb j (h + 1) T
def okT (j : GJob) (T : List (List Int)) : Bool := (List.range (nH j)).all fun h => (List.range (nL j)).all fun l => (List.range (nL j)).all fun k => Ql2 j T h l k
def Qww (j : GJob) (p : List Int) (w : Int) (T : List (List Int)) : Bool := decide (Qoa j p = some w) && decide (T.length = nH j + 1) && Qkb j 0 T && okT j T && decide (tv T 0 j.First.toNat ≤ w)
theorem rng_loop (N : Nat) (t : List Int) (hl : t.length ≤ 1000) : ∀ (n i : Nat), (t.drop i).length < n →
  ∃ x : Int, Qbn N t (fun _ => some (-1)) n i = some x ∧ (decide (x ≥ 0)) = !((t.drop i).all rngB) := by
 intro n
 induction n with
 | zero => intro i h; exact absurd h (Nat.not_lt_zero _)
 | succ n ih =>
  intro i h
  rw [Qbn]
  cases hd : t.drop i with
  | nil =>
   have := Qf6 hd
   exact ⟨-1, by simp [show ¬ ((i : Int) < t.length) from by omega], rfl⟩
  | cons p l =>
   obtain ⟨hi, hd', hlt⟩ := Qen hd
   have e1 : w64 ((i : Int) + 1) = ((i + 1 : Nat) : Int) := Qc3 (by omega) (by omega)
   have e2 : Qe9 N p = some (!rngB p) := by
    unfold Qe9 Qe3
    simp only [Qm9, Option.bind_some]
    rfl
   simp only [show decide ((i : Int) < t.length) = true from by simpa using hlt, cond_true, Qdt hi, Option.bind_some, e2, e1, List.all_cons]
   cases hv : rngB p with
   | false => exact ⟨i, by simp, by simp⟩
   | true =>
    have ih' := ih (i + 1) (by rw [hd']; rw [hd] at h; simp at h; omega)
    rw [hd'] at ih'
    simpa using ih'
theorem rng_eq {N : Nat} {t : List Int} (hl : t.length ≤ 200) (hN : 300 ≤ N) : Qf8 N t = some (t.all rngB) := by
 unfold Qf8 Qdf Qd5
 obtain ⟨x, f1, f2⟩ := rng_loop N t (by omega) N 0 (by simp; omega)
 rw [show ((0 : Nat) : Int) = 0 from rfl] at f1
 rw [List.drop_zero] at f2
 simp only [Qb0, f1, Option.bind_some, f2, Bool.not_not]
theorem min_loop (N : Nat) (t : List Int) (hl : t.length ≤ 1000) : ∀ (n i : Nat) (m : Int), (t.drop i).length < n →
  ∃ x : Int, Qci N t (fun y => some y) n m i = some x ∧ (decide (x < 0)) = (decide (m < 0) || !((t.drop i).all fun x => !decide (x < 0))) := by
 intro n
 induction n with
 | zero => intro i _ h; exact absurd h (Nat.not_lt_zero _)
 | succ n ih =>
  intro i m h
  rw [Qci]
  cases hd : t.drop i with
  | nil =>
   have := Qf6 hd
   exact ⟨m, by simp [show ¬ ((i : Int) < t.length) from by omega], by simp⟩
  | cons p l =>
   obtain ⟨hi, hd', hlt⟩ := Qen hd
   have e1 : w64 ((i : Int) + 1) = ((i + 1 : Nat) : Int) := Qc3 (by omega) (by omega)
   simp only [show decide ((i : Int) < t.length) = true from by simpa using hlt, cond_true, Qdt hi, Option.bind_some, e1, List.all_cons]
   obtain ⟨x, h1, h2⟩ := ih (i + 1) (if p < m then p else m) (by rw [hd']; rw [hd] at h; simp at h; omega)
   rw [hd'] at h2
   refine ⟨x, h1, h2.trans ?_⟩
   by_cases q1 : p < m <;> by_cases q2 : p < 0 <;> by_cases q3 : m < 0 <;> simp [q1, q2, q3] <;> omega
theorem min_eq {N : Nat} {t : List Int} (hl : t.length ≤ 200) (h0 : 0 < t.length) (hN : 300 ≤ N) : ∃ x : Int, Qev N t = some x ∧ decide (x < 0) = !(t.all fun x => !decide (x < 0)) := by
 unfold Qev
 cases ht : t with
 | nil => rw [ht] at h0; exact absurd h0 (Nat.lt_irrefl _)
 | cons a l =>
  have hl' : l.length ≤ 200 := by rw [ht] at hl; simp at hl; omega
  have e0 : getI (a :: l) 0 = some a := rfl
  obtain ⟨x, h1, h2⟩ := min_loop N (a :: l) (by simp; omega) N 1 a (by simp; omega)
  simp only [Qb0, show decide (((a :: l).length : Int) < 1) = false from decide_eq_false (by simp; omega), cond_false, e0, Option.bind_some]
  rw [show ((1 : Nat) : Int) = 1 from rfl] at h1
  refine ⟨x, h1, h2.trans ?_⟩
  simp only [List.drop_succ_cons, List.drop_zero, List.all_cons]
  cases decide (a < 0) <;> simp
theorem rows_loop {N : Nat} {j : GJob} (hj : JobOK j) (T : List (List Int)) (hT : T.length ≤ 1000) (hN : 300 ≤ N) (K : Unit → Option Bool) : ∀ (n h : Nat), (T.drop h).length < n →
  Qbw N j T K n h = bif Qkb j h (T.drop h) then K () else some false := by
 have hL := Qj5 hj
 intro n
 induction n with
 | zero => intro h hh; exact absurd hh (Nat.not_lt_zero _)
 | succ n ih =>
  intro h hh
  rw [Qbw]
  cases hd : T.drop h with
  | nil =>
   have := Qf6 hd
   rw [show decide ((h : Int) < (T.length : Int)) = false from decide_eq_false (by omega)]
   rfl
  | cons r l =>
   obtain ⟨hi, hd', hlt⟩ := Qen hd
   have e1 : w64 ((h : Int) + 1) = ((h + 1 : Nat) : Int) := Qc3 (by omega) (by omega)
   have ih' := ih (h + 1) (by rw [hd']; rw [hd] at hh; simp at hh; omega)
   rw [hd'] at ih'
   simp only [show decide ((h : Int) < (T.length : Int)) = true from by simpa using hlt, cond_true, Qdt hi, Option.bind_some, e1, Qb0, Qkb, rowB]
   by_cases h1 : r.length = nL j
   ·rw [show ((r.length : Int) != (j.Levels.length : Int)) = false from by simp [h1], cond_false, rng_eq (by omega) hN]
    simp only [Option.bind_some, show decide (r.length = nL j) = true from decide_eq_true h1, Bool.true_and]
    cases h2 : r.all rngB with
    | false => simp
    | true =>
     simp only [Bool.not_true, cond_false, Bool.true_and]
     by_cases h3 : h = nH j
     ·rw [show ((h : Int) == (j.Hours.length : Int)) = true from by simp [h3]]
      obtain ⟨x, m1, m2⟩ := min_eq (N := N) (t := r) (by omega) (by omega) hN
      simp only [cond_true, m1, Option.bind_some, m2, show decide (h = nH j) = true from decide_eq_true h3, Bool.not_true, Bool.false_or]
      cases r.all fun x => !decide (x < 0) with
      | false => simp
      | true => simpa using ih'
     ·have : ((h : Int) == (j.Hours.length : Int)) = false := by
       have : ¬ (h : Int) = (j.Hours.length : Int) := by unfold nH at h3; omega
       simpa using this
      rw [this]
      simp only [cond_false, show decide (h = nH j) = false from decide_eq_false h3, Bool.not_false, Bool.true_or, Bool.true_and]
      exact ih'
   ·rw [show ((r.length : Int) != (j.Levels.length : Int)) = true from by simp; unfold nL at h1; omega]
    simp [show decide (r.length = nL j) = false from decide_eq_false h1]
theorem Qwr {j : GJob} : ∀ {T : List (List Int)} {h i : Nat} {r : List Int}, Qkb j h T = true → T[i]? = some r → rowB j (h + i) r = true
 | [], _, _, _, _, hr => by simp at hr
 | r0 :: T, h, i, r, hB, hr => by
  rw [Qkb, Bool.and_eq_true] at hB
  cases i with
  | zero => simp at hr; subst hr; exact hB.1
  | succ i =>
   have := Qwr (h := h + 1) hB.2 (by simpa using hr : T[i]? = some r)
   rwa [show h + (i + 1) = h + 1 + i from by omega]
theorem Qnd {j : GJob} {T : List (List Int)} (hl : T.length = nH j + 1) (hB : Qkb j 0 T = true) {h : Nat} (hh : h ≤ nH j) : ∃ r, T[h]? = some r ∧ rowB j h r = true ∧ r.length = nL j ∧ ∀ l, l < nL j → r[l]? = some (tv T h l) := by
 obtain ⟨r, hr⟩ : ∃ r, T[h]? = some r := ⟨_, List.getElem?_eq_getElem (by omega)⟩
 have h1 := Qwr hB hr
 rw [Nat.zero_add] at h1
 have h2 := h1
 unfold rowB at h2
 simp only [Bool.and_eq_true, decide_eq_true_eq] at h2
 refine ⟨r, hr, h1, h2.1.1, fun l hl => ?_⟩
 unfold tv
 simp only [List.getD_eq_getElem?_getD, hr, Option.getD_some]
 rw [List.getElem?_eq_getElem (by omega)]
 rfl
theorem tv_bd {j : GJob} {T : List (List Int)} (hl : T.length = nH j + 1) (hB : Qkb j 0 T = true) {h l : Nat} (hh : h ≤ nH j) (hl' : l < nL j) : (-1000000000000 ≤ tv T h l ∧ tv T h l ≤ 1000000000000) ∧ (h = nH j → 0 ≤ tv T h l) := by
 obtain ⟨r, h1, h2, h3, h4⟩ := Qnd hl hB hh
 unfold rowB at h2
 simp only [Bool.and_eq_true, decide_eq_true_eq, List.all_eq_true, Bool.or_eq_true, Bool.not_eq_true', decide_eq_false_iff_not] at h2
 have hm := List.mem_of_getElem? (h4 l hl')
 have := h2.1.2 _ hm
 unfold rngB at this
 refine ⟨Qix.1 this, fun e => ?_⟩
 rcases h2.2 with h5 | h5
 ·exact absurd e h5
 ·have := h5 _ hm
  omega
theorem hr_at {j : GJob} {h : Nat} (hh : h < nH j) : j.Hours[h]? = some (hr j h) := by
 unfold hr
 rw [List.getD_eq_getElem?_getD, List.getElem?_eq_getElem hh]
 rfl
theorem b3_loop {N : Nat} {j : GJob} (hj : JobOK j) {T : List (List Int)} (hl : T.length = nH j + 1) (hB : Qkb j 0 T = true) {h l : Nat} (hh : h < nH j) (hl' : l < nL j) {r : List Int} (hr' : T[h + 1]? = some r) (K : Unit → Option Bool) : ∀ (n k : Nat), nL j - k < n → k ≤ nL j →
  Qbx N j h l K (tv T h l) r n k = bif (List.range' k (nL j - k)).all (Ql2 j T h l) then K () else some false := by
 have hL := Qj5 hj
 obtain ⟨r', h1, _, h3, h4⟩ := Qnd hl hB (h := h + 1) (by omega)
 rw [hr'] at h1
 cases h1
 intro n
 induction n with
 | zero => intro k hk; exact absurd hk (Nat.not_lt_zero _)
 | succ n ih =>
  intro k hn hk
  rw [Qbx]
  rcases Nat.eq_or_lt_of_le hk with e | hlt
  ·rw [show decide ((k : Int) < (r.length : Int)) = false from decide_eq_false (by omega), e, Nat.sub_self]
   rfl
  ·have hs : nL j - k = (nL j - (k + 1)) + 1 := by omega
   have e1 : w64 ((k : Int) + 1) = ((k + 1 : Nat) : Int) := Qc3 (by omega) (by omega)
   rw [show decide ((k : Int) < (r.length : Int)) = true from decide_eq_true (by omega), cond_true, Qdt (h4 k hlt), Option.bind_some, gain_eq hj (hr_at hh) (by omega) (by omega), hs, List.range'_succ, List.all_cons]
   simp only [Option.bind_some, e1]
   have ih' := ih (k + 1) (by omega) hlt
   cases hf : folB j (hr j h) l k with
   | false =>
    simp only [cond_false, Ql2, hf, Bool.not_false, Bool.true_or, Bool.true_and]
    exact ih'
   | true =>
    have gb := Qyi hj (List.mem_of_getElem? (hr_at hh)) (l : Int) (k : Int)
    have tb' := (tv_bd hl hB (h := h + 1) (l := k) (by omega) hlt).1
    have e2 : w64 (gnI j (hr j h) l k + tv T (h + 1) k) = gnI j (hr j h) l k + tv T (h + 1) k := Qc3 (by omega) (by omega)
    simp only [cond_true, e2, Ql2, hf, Bool.not_true, Bool.false_or]
    cases decide (tv T h l < gnI j (hr j h) l k + tv T (h + 1) k) with
    | true => simp
    | false => simpa using ih'
theorem b2_loop {N : Nat} {j : GJob} (hj : JobOK j) (hN : 300 ≤ N) {T : List (List Int)} (hl : T.length = nH j + 1) (hB : Qkb j 0 T = true) {h : Nat} (hh : h < nH j) {r : List Int} (hr' : T[h]? = some r) (K : Unit → Option Bool) : ∀ (n l : Nat), nL j - l < n → l ≤ nL j →
  Qby N j T h K r n l = bif (List.range' l (nL j - l)).all (fun l => (List.range (nL j)).all (Ql2 j T h l)) then K () else some false := by
 have hL := Qj5 hj
 have hH := (Qkx hj).2
 obtain ⟨r', h1, _, h3, h4⟩ := Qnd hl hB (h := h) (by omega)
 rw [hr'] at h1
 cases h1
 obtain ⟨r1, q1, _, _, _⟩ := Qnd hl hB (h := h + 1) (by omega)
 intro n
 induction n with
 | zero => intro k hk; exact absurd hk (Nat.not_lt_zero _)
 | succ n ih =>
  intro l hn hk
  rw [Qby]
  rcases Nat.eq_or_lt_of_le hk with e | hlt
  ·rw [show decide ((l : Int) < (r.length : Int)) = false from decide_eq_false (by omega), e, Nat.sub_self]
   rfl
  ·have hs : nL j - l = (nL j - (l + 1)) + 1 := by omega
   have e1 : w64 ((l : Int) + 1) = ((l + 1 : Nat) : Int) := Qc3 (by omega) (by omega)
   have e2 : w64 ((h : Int) + 1) = ((h + 1 : Nat) : Int) := Qc3 (by omega) (by omega)
   simp only [Qb0]
   rw [show decide ((l : Int) < (r.length : Int)) = true from decide_eq_true (by omega), cond_true, Qdt (h4 l hlt), Option.bind_some, e2, Qdt q1, Option.bind_some, hs, List.range'_succ, List.all_cons]
   have := b3_loop (N := N) hj hl hB hh hlt q1 (fun _ => Qby N j T h K r n (w64 ((l : Int) + 1))) N 0 (by omega) (by omega)
   rw [show ((0 : Nat) : Int) = 0 from rfl] at this
   rw [this, e1, ih (l + 1) (by omega) hlt, Nat.sub_zero, ← List.range_eq_range']
   cases (List.range (nL j)).all (Ql2 j T h l) <;> simp
theorem b1_loop {N : Nat} {j : GJob} (hj : JobOK j) (hN : 300 ≤ N) {T : List (List Int)} (hl : T.length = nH j + 1) (hB : Qkb j 0 T = true) (K : Unit → Option Bool) : ∀ (n h : Nat), nH j - h < n → h ≤ nH j →
  Qbz N j T K n h = bif (List.range' h (nH j - h)).all (fun h => (List.range (nL j)).all fun l => (List.range (nL j)).all (Ql2 j T h l)) then K () else some false := by
 have hL := Qj5 hj
 have hH := (Qkx hj).2
 intro n
 induction n with
 | zero => intro k hk; exact absurd hk (Nat.not_lt_zero _)
 | succ n ih =>
  intro h hn hk
  rw [Qbz]
  rcases Nat.eq_or_lt_of_le hk with e | hlt
  ·rw [show decide ((h : Int) < (j.Hours.length : Int)) = false from decide_eq_false (by unfold nH at e; omega), e, Nat.sub_self]
   rfl
  ·have hs : nH j - h = (nH j - (h + 1)) + 1 := by omega
   have e2 : w64 ((h : Int) + 1) = ((h + 1 : Nat) : Int) := Qc3 (by omega) (by omega)
   obtain ⟨r, q1, _, _, _⟩ := Qnd hl hB (h := h) (by omega)
   simp only [Qb0]
   rw [show decide ((h : Int) < (j.Hours.length : Int)) = true from decide_eq_true (by unfold nH at hlt; omega), cond_true, Qdt q1, Option.bind_some, hs, List.range'_succ, List.all_cons]
   have := b2_loop (N := N) hj hN hl hB hlt q1 (fun _ => Qbz N j T K n (w64 ((h : Int) + 1))) N 0 (by omega) (by omega)
   rw [show ((0 : Nat) : Int) = 0 from rfl] at this
   rw [this, e2, ih (h + 1) (by omega) hlt, Nat.sub_zero, ← List.range_eq_range']
   cases (List.range (nL j)).all (fun l => (List.range (nL j)).all (Ql2 j T h l)) <;> simp
theorem prove_eq {N : Nat} {j : GJob} {p : List Int} {w : Int} {T : List (List Int)} (hN : 300 ≤ N) : Qel N j p w T = some (jobB j && Qww j p w T) := by
 unfold Qel
 rw [profit_eq hN]
 simp only [Option.bind_some]
 cases hv : jobB j with
 | false => rfl
 | true =>
  have hj := jobOK hv
  have hL := Qj5 hj
  have hH := Qkx hj
  simp only [cond_true, Bool.true_and]
  unfold Qww
  cases hp : Qoa j p with
  | none => rfl
  | some v =>
   simp only [outP]
   by_cases hvw : v = w
   ·subst hvw
    have e1 : w64 ((j.Hours.length : Int) + 1) = ((nH j + 1 : Nat) : Int) := by rw [Qc3 (by unfold nH at hH; omega) (by unfold nH at hH; omega)]; rfl
    simp only [show ((0 : Int) != 0) = false from rfl, cond_false, show (v != v) = false from by simp, e1, decide_true, Bool.true_and]
    by_cases hl : T.length = nH j + 1
    ·rw [show ((T.length : Int) != ((nH j + 1 : Nat) : Int)) = false from by simp [hl]]
     simp only [cond_false, Qb0]
     have r1 := fun K => rows_loop (N := N) hj T (by omega) hN K N 0 (by simp; omega)
     rw [show ((0 : Nat) : Int) = 0 from rfl, List.drop_zero] at r1
     rw [r1, show decide (T.length = nH j + 1) = true from decide_eq_true hl, Bool.true_and]
     cases hB : Qkb j 0 T with
     | false => rfl
     | true =>
      have r2 := fun K => b1_loop (N := N) hj hN hl hB K N 0 (by omega) (by omega)
      rw [show ((0 : Nat) : Int) = 0 from rfl, Nat.sub_zero, ← List.range_eq_range'] at r2
      simp only [cond_true, r2, Bool.true_and]
      unfold okT
      cases (List.range (nH j)).all (fun h => (List.range (nL j)).all fun l => (List.range (nL j)).all (Ql2 j T h l)) with
      | false => rfl
      | true =>
       obtain ⟨r, q1, _, q3, q4⟩ := Qnd hl hB (h := 0) (by omega)
       have hf := Qnk hj
       have hf1 : j.First ≤ (nL j : Int) - 1 := hj.f1
       have q5 : getI r j.First = some (tv T 0 j.First.toNat) := by
        have := Qdt (q4 j.First.toNat (by omega))
        rwa [show ((j.First.toNat : Nat) : Int) = j.First from by omega] at this
       have q6 : getI T 0 = some r := Qdt q1
       simp only [cond_true, q6, Option.bind_some, q5, Bool.true_and]
    ·rw [show ((T.length : Int) != ((nH j + 1 : Nat) : Int)) = true from by simp; omega]
     simp [Qb0, show decide (T.length = nH j + 1) = false from decide_eq_false hl]
   ·rw [show (v != w) = true from by simpa using hvw]
    simp [Qb0, hvw]
end Go.Proofs.Ytlhakkkjgdbdpaa
