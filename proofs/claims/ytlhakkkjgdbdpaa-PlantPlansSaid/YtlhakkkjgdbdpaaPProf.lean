/-
  Plain laws of dispatching: the profit of any plan, and what ProveDispatch accepts. No conditions.
-/
import Derived.Test.YtlhakkkjgdbdpaaPDisp
namespace Go.Proofs.Ytlhakkkjgdbdpaa
open Go.RowKit

/-! the profit of a plan -/
def profV (j : GJob) (p : List Int) : Option Int := planV (folB j) (gnI j) j.Hours j.First p
theorem first_bd {j : GJob} (hj : JobOK j) : 0 ≤ j.First ∧ j.First ≤ 11 := by
  have := hj.f0; have := hj.f1; have := hj.l1
  omega
theorem profit_loop {N : Nat} {j : GJob} (hj : JobOK j) {p : List Int} (hp : p.length = j.Hours.length) (K : Int → Option (Int × Bool)) : ∀ (n h : Nat) (b acc : Int), (j.Hours.drop h).length < n → 0 ≤ b → b ≤ 11 → -2000000000 * (h : Int) ≤ acc → acc ≤ 1000000000 * (h : Int) →
    plant_Job_profitX_loop1 N j p K n acc b h = match planV (folB j) (gnI j) (j.Hours.drop h) b (p.drop h) with | some v => K (acc + v) | none => some (0, false) := by
  have hH := hj.h1
  intro n
  induction n with
  | zero => intro h _ _ h; exact absurd h (Nat.not_lt_zero _)
  | succ n ih =>
    intro h b acc hn b0 b1 a0 a1
    rw [plant_Job_profitX_loop1]
    cases hd : j.Hours.drop h with
    | nil =>
      have h1 := drop_nil hd
      rw [List.drop_eq_nil_of_le (by omega), show decide ((h : Int) < (p.length : Int)) = false from decide_eq_false (by omega)]
      simp [planV]
    | cons H hs =>
      obtain ⟨hH', hd', hlt⟩ := drop_cons hd
      obtain ⟨k, hk⟩ : ∃ k, p[h]? = some k := ⟨_, List.getElem?_eq_getElem (by omega)⟩
      have hdp : p.drop h = k :: p.drop (h + 1) := by
        rw [List.getElem?_eq_some_iff] at hk
        obtain ⟨hk1, hk2⟩ := hk
        rw [List.drop_eq_getElem_cons hk1, hk2]
      rw [show decide ((h : Int) < (p.length : Int)) = true from decide_eq_true (by omega), cond_true, getI_at hk, Option.bind_some, gain_eq hj hH' b0 b1, hdp, planV]
      cases hf : folB j H b k with
      | false => simp
      | true =>
        have hk2 := fol_in H b k hf
        have hL := (nL_bd hj).2
        have gb := gn_bd hj (List.mem_of_getElem? hH') b k
        have e1 : w64 ((h : Int) + 1) = ((h + 1 : Nat) : Int) := w64_id (by omega) (by omega)
        have e2 : w64 (acc + gnI j H b k) = acc + gnI j H b k := w64_id (by omega) (by omega)
        simp only [cond_true, Option.bind_some, Bool.not_true, cond_false, e1, e2]
        rw [ih (h + 1) k _ (by rw [hd']; rw [hd] at hn; simp at hn; omega) hk2.1 (by omega) (by omega) (by omega), hd']
        cases planV (folB j) (gnI j) hs k (p.drop (h + 1)) with
        | none => simp
        | some v => simp [Int.add_assoc]
def outP (x : Option Int) : Int × Int := match x with | some v => (v, 0) | none => (0, 1)
theorem profit_eq {N : Nat} {j : GJob} {p : List Int} (hN : 300 ≤ N) : plant_ProfitX N j p = some (bif jobB j then outP (profV j p) else (0, 1)) := by
  unfold plant_ProfitX
  simp only [joinK, job_eq hN, Option.bind_some]
  cases hv : jobB j with
  | false => rfl
  | true =>
    have hj := jobOK hv
    simp only [Bool.not_true, cond_false, cond_true]
    by_cases hl : p.length = j.Hours.length
    · rw [show ((p.length : Int) != (j.Hours.length : Int)) = false from by simp [hl], cond_false]
      unfold plant_Job_profitX
      simp only [joinK]
      have hf := first_bd hj
      have := profit_loop (N := N) hj hl (fun y => some (y, true)) N 0 j.First 0 (by have := hj.h1; simp; omega) hf.1 hf.2 (by simp) (by simp)
      rw [show ((0 : Nat) : Int) = 0 from rfl] at this
      rw [this, List.drop_zero, List.drop_zero]
      unfold profV
      cases planV (folB j) (gnI j) j.Hours j.First p with
      | none => rfl
      | some v => simp [outP]
    · rw [show ((p.length : Int) != (j.Hours.length : Int)) = true from by simp; omega, cond_true]
      have : profV j p = none := by
        cases h : profV j p with
        | none => rfl
        | some v => exact absurd (planV_len h) hl
      rw [this]
      rfl

/-! what ProveDispatch accepts -/
def tv (T : List (List Int)) (h l : Nat) : Int := (T.getD h []).getD l 0
def hr (j : GJob) (h : Nat) : GHour := j.Hours.getD h ⟨0, 0⟩
def bellB (j : GJob) (T : List (List Int)) (h l k : Nat) : Bool := !(folB j (hr j h) l k) || !(decide (tv T h l < gnI j (hr j h) l k + tv T (h + 1) k))
def rngB (x : Int) : Bool := btw x (-1000000000000) 1000000000000
def rowB (j : GJob) (h : Nat) (r : List Int) : Bool := decide (r.length = nL j) && r.all rngB && (!(decide (h = nH j)) || r.all fun x => !decide (x < 0))
def rowsB (j : GJob) : Nat → List (List Int) → Bool
  | _, [] => true
  | h, r :: T => rowB j h r && rowsB j (h + 1) T
def okT (j : GJob) (T : List (List Int)) : Bool := (List.range (nH j)).all fun h => (List.range (nL j)).all fun l => (List.range (nL j)).all fun k => bellB j T h l k
def proveB (j : GJob) (p : List Int) (w : Int) (T : List (List Int)) : Bool := decide (profV j p = some w) && decide (T.length = nH j + 1) && rowsB j 0 T && okT j T && decide (tv T 0 j.First.toNat ≤ w)
theorem rng_loop (N : Nat) (t : List Int) (hl : t.length ≤ 1000) : ∀ (n i : Nat), (t.drop i).length < n →
    ∃ x : Int, slices_IndexFunc_int_intX_5_loop1 N t (fun _ => some (-1)) n i = some x ∧ (decide (x ≥ 0)) = !((t.drop i).all rngB) := by
  intro n
  induction n with
  | zero => intro i h; exact absurd h (Nat.not_lt_zero _)
  | succ n ih =>
    intro i h
    rw [slices_IndexFunc_int_intX_5_loop1]
    cases hd : t.drop i with
    | nil =>
      have := drop_nil hd
      exact ⟨-1, by simp [show ¬ ((i : Int) < t.length) from by omega], rfl⟩
    | cons p l =>
      obtain ⟨hi, hd', hlt⟩ := drop_cons hd
      have e1 : w64 ((i : Int) + 1) = ((i + 1 : Nat) : Int) := w64_id (by omega) (by omega)
      have e2 : plant_all_int_1X_4 N p = some (!rngB p) := by
        unfold plant_all_int_1X_4 plant_ProveDispatch_1X
        simp only [within_eq, Option.bind_some]
        rfl
      simp only [show decide ((i : Int) < t.length) = true from by simpa using hlt, cond_true, getI_at hi, Option.bind_some, e2, e1, List.all_cons]
      cases hv : rngB p with
      | false => exact ⟨i, by simp, by simp⟩
      | true =>
        have ih' := ih (i + 1) (by rw [hd']; rw [hd] at h; simp at h; omega)
        rw [hd'] at ih'
        simpa using ih'
theorem rng_eq {N : Nat} {t : List Int} (hl : t.length ≤ 200) (hN : 300 ≤ N) : plant_all_intX_4 N t = some (t.all rngB) := by
  unfold plant_all_intX_4 slices_ContainsFunc_int_intX_4 slices_IndexFunc_int_intX_5
  obtain ⟨x, f1, f2⟩ := rng_loop N t (by omega) N 0 (by simp; omega)
  rw [show ((0 : Nat) : Int) = 0 from rfl] at f1
  rw [List.drop_zero] at f2
  simp only [joinK, f1, Option.bind_some, f2, Bool.not_not]
theorem min_loop (N : Nat) (t : List Int) (hl : t.length ≤ 1000) : ∀ (n i : Nat) (m : Int), (t.drop i).length < n →
    ∃ x : Int, slices_Min_int_intX_loop1 N t (fun y => some y) n m i = some x ∧ (decide (x < 0)) = (decide (m < 0) || !((t.drop i).all fun x => !decide (x < 0))) := by
  intro n
  induction n with
  | zero => intro i _ h; exact absurd h (Nat.not_lt_zero _)
  | succ n ih =>
    intro i m h
    rw [slices_Min_int_intX_loop1]
    cases hd : t.drop i with
    | nil =>
      have := drop_nil hd
      exact ⟨m, by simp [show ¬ ((i : Int) < t.length) from by omega], by simp⟩
    | cons p l =>
      obtain ⟨hi, hd', hlt⟩ := drop_cons hd
      have e1 : w64 ((i : Int) + 1) = ((i + 1 : Nat) : Int) := w64_id (by omega) (by omega)
      simp only [show decide ((i : Int) < t.length) = true from by simpa using hlt, cond_true, getI_at hi, Option.bind_some, e1, List.all_cons]
      obtain ⟨x, h1, h2⟩ := ih (i + 1) (if p < m then p else m) (by rw [hd']; rw [hd] at h; simp at h; omega)
      rw [hd'] at h2
      refine ⟨x, h1, h2.trans ?_⟩
      by_cases q1 : p < m <;> by_cases q2 : p < 0 <;> by_cases q3 : m < 0 <;> simp [q1, q2, q3] <;> omega
theorem min_eq {N : Nat} {t : List Int} (hl : t.length ≤ 200) (h0 : 0 < t.length) (hN : 300 ≤ N) : ∃ x : Int, slices_Min_int_intX N t = some x ∧ decide (x < 0) = !(t.all fun x => !decide (x < 0)) := by
  unfold slices_Min_int_intX
  cases ht : t with
  | nil => rw [ht] at h0; exact absurd h0 (Nat.lt_irrefl _)
  | cons a l =>
    have hl' : l.length ≤ 200 := by rw [ht] at hl; simp at hl; omega
    have e0 : getI (a :: l) 0 = some a := rfl
    obtain ⟨x, h1, h2⟩ := min_loop N (a :: l) (by simp; omega) N 1 a (by simp; omega)
    simp only [joinK, show decide (((a :: l).length : Int) < 1) = false from decide_eq_false (by simp; omega), cond_false, e0, Option.bind_some]
    rw [show ((1 : Nat) : Int) = 1 from rfl] at h1
    refine ⟨x, h1, h2.trans ?_⟩
    simp only [List.drop_succ_cons, List.drop_zero, List.all_cons]
    cases decide (a < 0) <;> simp
theorem rows_loop {N : Nat} {j : GJob} (hj : JobOK j) (T : List (List Int)) (hT : T.length ≤ 1000) (hN : 300 ≤ N) (K : Unit → Option Bool) : ∀ (n h : Nat), (T.drop h).length < n →
    plant_ProveDispatchX_loop4 N j T K n h = bif rowsB j h (T.drop h) then K () else some false := by
  have hL := nL_bd hj
  intro n
  induction n with
  | zero => intro h hh; exact absurd hh (Nat.not_lt_zero _)
  | succ n ih =>
    intro h hh
    rw [plant_ProveDispatchX_loop4]
    cases hd : T.drop h with
    | nil =>
      have := drop_nil hd
      rw [show decide ((h : Int) < (T.length : Int)) = false from decide_eq_false (by omega)]
      rfl
    | cons r l =>
      obtain ⟨hi, hd', hlt⟩ := drop_cons hd
      have e1 : w64 ((h : Int) + 1) = ((h + 1 : Nat) : Int) := w64_id (by omega) (by omega)
      have ih' := ih (h + 1) (by rw [hd']; rw [hd] at hh; simp at hh; omega)
      rw [hd'] at ih'
      simp only [show decide ((h : Int) < (T.length : Int)) = true from by simpa using hlt, cond_true, getI_at hi, Option.bind_some, e1, joinK, rowsB, rowB]
      by_cases h1 : r.length = nL j
      · rw [show ((r.length : Int) != (j.Levels.length : Int)) = false from by simp [h1], cond_false, rng_eq (by omega) hN]
        simp only [Option.bind_some, show decide (r.length = nL j) = true from decide_eq_true h1, Bool.true_and]
        cases h2 : r.all rngB with
        | false => simp
        | true =>
          simp only [Bool.not_true, cond_false, Bool.true_and]
          by_cases h3 : h = nH j
          · rw [show ((h : Int) == (j.Hours.length : Int)) = true from by simp [h3]]
            obtain ⟨x, m1, m2⟩ := min_eq (N := N) (t := r) (by omega) (by omega) hN
            simp only [cond_true, m1, Option.bind_some, m2, show decide (h = nH j) = true from decide_eq_true h3, Bool.not_true, Bool.false_or]
            cases r.all fun x => !decide (x < 0) with
            | false => simp
            | true => simpa using ih'
          · have : ((h : Int) == (j.Hours.length : Int)) = false := by
              have : ¬ (h : Int) = (j.Hours.length : Int) := by unfold nH at h3; omega
              simpa using this
            rw [this]
            simp only [cond_false, show decide (h = nH j) = false from decide_eq_false h3, Bool.not_false, Bool.true_or, Bool.true_and]
            exact ih'
      · rw [show ((r.length : Int) != (j.Levels.length : Int)) = true from by simp; unfold nL at h1; omega]
        simp [show decide (r.length = nL j) = false from decide_eq_false h1]
theorem rowsB_at {j : GJob} : ∀ {T : List (List Int)} {h i : Nat} {r : List Int}, rowsB j h T = true → T[i]? = some r → rowB j (h + i) r = true
  | [], _, _, _, _, hr => by simp at hr
  | r0 :: T, h, i, r, hB, hr => by
    rw [rowsB, Bool.and_eq_true] at hB
    cases i with
    | zero => simp at hr; subst hr; exact hB.1
    | succ i =>
      have := rowsB_at (h := h + 1) hB.2 (by simpa using hr : T[i]? = some r)
      rwa [show h + (i + 1) = h + 1 + i from by omega]
theorem row_at {j : GJob} {T : List (List Int)} (hl : T.length = nH j + 1) (hB : rowsB j 0 T = true) {h : Nat} (hh : h ≤ nH j) : ∃ r, T[h]? = some r ∧ rowB j h r = true ∧ r.length = nL j ∧ ∀ l, l < nL j → r[l]? = some (tv T h l) := by
  obtain ⟨r, hr⟩ : ∃ r, T[h]? = some r := ⟨_, List.getElem?_eq_getElem (by omega)⟩
  have h1 := rowsB_at hB hr
  rw [Nat.zero_add] at h1
  have h2 := h1
  unfold rowB at h2
  simp only [Bool.and_eq_true, decide_eq_true_eq] at h2
  refine ⟨r, hr, h1, h2.1.1, fun l hl => ?_⟩
  unfold tv
  simp only [List.getD_eq_getElem?_getD, hr, Option.getD_some]
  rw [List.getElem?_eq_getElem (by omega)]
  rfl
theorem tv_bd {j : GJob} {T : List (List Int)} (hl : T.length = nH j + 1) (hB : rowsB j 0 T = true) {h l : Nat} (hh : h ≤ nH j) (hl' : l < nL j) : (-1000000000000 ≤ tv T h l ∧ tv T h l ≤ 1000000000000) ∧ (h = nH j → 0 ≤ tv T h l) := by
  obtain ⟨r, h1, h2, h3, h4⟩ := row_at hl hB hh
  unfold rowB at h2
  simp only [Bool.and_eq_true, decide_eq_true_eq, List.all_eq_true, Bool.or_eq_true, Bool.not_eq_true', decide_eq_false_iff_not] at h2
  have hm := List.mem_of_getElem? (h4 l hl')
  have := h2.1.2 _ hm
  unfold rngB at this
  refine ⟨btw_iff.1 this, fun e => ?_⟩
  rcases h2.2 with h5 | h5
  · exact absurd e h5
  · have := h5 _ hm
    omega
theorem hr_at {j : GJob} {h : Nat} (hh : h < nH j) : j.Hours[h]? = some (hr j h) := by
  unfold hr
  rw [List.getD_eq_getElem?_getD, List.getElem?_eq_getElem hh]
  rfl
theorem b3_loop {N : Nat} {j : GJob} (hj : JobOK j) {T : List (List Int)} (hl : T.length = nH j + 1) (hB : rowsB j 0 T = true) {h l : Nat} (hh : h < nH j) (hl' : l < nL j) {r : List Int} (hr' : T[h + 1]? = some r) (K : Unit → Option Bool) : ∀ (n k : Nat), nL j - k < n → k ≤ nL j →
    plant_ProveDispatchX_loop3 N j h l K (tv T h l) r n k = bif (List.range' k (nL j - k)).all (bellB j T h l) then K () else some false := by
  have hL := nL_bd hj
  obtain ⟨r', h1, _, h3, h4⟩ := row_at hl hB (h := h + 1) (by omega)
  rw [hr'] at h1
  cases h1
  intro n
  induction n with
  | zero => intro k hk; exact absurd hk (Nat.not_lt_zero _)
  | succ n ih =>
    intro k hn hk
    rw [plant_ProveDispatchX_loop3]
    rcases Nat.eq_or_lt_of_le hk with e | hlt
    · rw [show decide ((k : Int) < (r.length : Int)) = false from decide_eq_false (by omega), e, Nat.sub_self]
      rfl
    · have hs : nL j - k = (nL j - (k + 1)) + 1 := by omega
      have e1 : w64 ((k : Int) + 1) = ((k + 1 : Nat) : Int) := w64_id (by omega) (by omega)
      rw [show decide ((k : Int) < (r.length : Int)) = true from decide_eq_true (by omega), cond_true, getI_at (h4 k hlt), Option.bind_some, gain_eq hj (hr_at hh) (by omega) (by omega), hs, List.range'_succ, List.all_cons]
      simp only [Option.bind_some, e1]
      have ih' := ih (k + 1) (by omega) hlt
      cases hf : folB j (hr j h) l k with
      | false =>
        simp only [cond_false, bellB, hf, Bool.not_false, Bool.true_or, Bool.true_and]
        exact ih'
      | true =>
        have gb := gn_bd hj (List.mem_of_getElem? (hr_at hh)) (l : Int) (k : Int)
        have tb' := (tv_bd hl hB (h := h + 1) (l := k) (by omega) hlt).1
        have e2 : w64 (gnI j (hr j h) l k + tv T (h + 1) k) = gnI j (hr j h) l k + tv T (h + 1) k := w64_id (by omega) (by omega)
        simp only [cond_true, e2, bellB, hf, Bool.not_true, Bool.false_or]
        cases decide (tv T h l < gnI j (hr j h) l k + tv T (h + 1) k) with
        | true => simp
        | false => simpa using ih'
theorem b2_loop {N : Nat} {j : GJob} (hj : JobOK j) (hN : 300 ≤ N) {T : List (List Int)} (hl : T.length = nH j + 1) (hB : rowsB j 0 T = true) {h : Nat} (hh : h < nH j) {r : List Int} (hr' : T[h]? = some r) (K : Unit → Option Bool) : ∀ (n l : Nat), nL j - l < n → l ≤ nL j →
    plant_ProveDispatchX_loop2 N j T h K r n l = bif (List.range' l (nL j - l)).all (fun l => (List.range (nL j)).all (bellB j T h l)) then K () else some false := by
  have hL := nL_bd hj
  have hH := (nH_bd hj).2
  obtain ⟨r', h1, _, h3, h4⟩ := row_at hl hB (h := h) (by omega)
  rw [hr'] at h1
  cases h1
  obtain ⟨r1, q1, _, _, _⟩ := row_at hl hB (h := h + 1) (by omega)
  intro n
  induction n with
  | zero => intro k hk; exact absurd hk (Nat.not_lt_zero _)
  | succ n ih =>
    intro l hn hk
    rw [plant_ProveDispatchX_loop2]
    rcases Nat.eq_or_lt_of_le hk with e | hlt
    · rw [show decide ((l : Int) < (r.length : Int)) = false from decide_eq_false (by omega), e, Nat.sub_self]
      rfl
    · have hs : nL j - l = (nL j - (l + 1)) + 1 := by omega
      have e1 : w64 ((l : Int) + 1) = ((l + 1 : Nat) : Int) := w64_id (by omega) (by omega)
      have e2 : w64 ((h : Int) + 1) = ((h + 1 : Nat) : Int) := w64_id (by omega) (by omega)
      simp only [joinK]
      rw [show decide ((l : Int) < (r.length : Int)) = true from decide_eq_true (by omega), cond_true, getI_at (h4 l hlt), Option.bind_some, e2, getI_at q1, Option.bind_some, hs, List.range'_succ, List.all_cons]
      have := b3_loop (N := N) hj hl hB hh hlt q1 (fun _ => plant_ProveDispatchX_loop2 N j T h K r n (w64 ((l : Int) + 1))) N 0 (by omega) (by omega)
      rw [show ((0 : Nat) : Int) = 0 from rfl] at this
      rw [this, e1, ih (l + 1) (by omega) hlt, Nat.sub_zero, ← List.range_eq_range']
      cases (List.range (nL j)).all (bellB j T h l) <;> simp
theorem b1_loop {N : Nat} {j : GJob} (hj : JobOK j) (hN : 300 ≤ N) {T : List (List Int)} (hl : T.length = nH j + 1) (hB : rowsB j 0 T = true) (K : Unit → Option Bool) : ∀ (n h : Nat), nH j - h < n → h ≤ nH j →
    plant_ProveDispatchX_loop1 N j T K n h = bif (List.range' h (nH j - h)).all (fun h => (List.range (nL j)).all fun l => (List.range (nL j)).all (bellB j T h l)) then K () else some false := by
  have hL := nL_bd hj
  have hH := (nH_bd hj).2
  intro n
  induction n with
  | zero => intro k hk; exact absurd hk (Nat.not_lt_zero _)
  | succ n ih =>
    intro h hn hk
    rw [plant_ProveDispatchX_loop1]
    rcases Nat.eq_or_lt_of_le hk with e | hlt
    · rw [show decide ((h : Int) < (j.Hours.length : Int)) = false from decide_eq_false (by unfold nH at e; omega), e, Nat.sub_self]
      rfl
    · have hs : nH j - h = (nH j - (h + 1)) + 1 := by omega
      have e2 : w64 ((h : Int) + 1) = ((h + 1 : Nat) : Int) := w64_id (by omega) (by omega)
      obtain ⟨r, q1, _, _, _⟩ := row_at hl hB (h := h) (by omega)
      simp only [joinK]
      rw [show decide ((h : Int) < (j.Hours.length : Int)) = true from decide_eq_true (by unfold nH at hlt; omega), cond_true, getI_at q1, Option.bind_some, hs, List.range'_succ, List.all_cons]
      have := b2_loop (N := N) hj hN hl hB hlt q1 (fun _ => plant_ProveDispatchX_loop1 N j T K n (w64 ((h : Int) + 1))) N 0 (by omega) (by omega)
      rw [show ((0 : Nat) : Int) = 0 from rfl] at this
      rw [this, e2, ih (h + 1) (by omega) hlt, Nat.sub_zero, ← List.range_eq_range']
      cases (List.range (nL j)).all (fun l => (List.range (nL j)).all (bellB j T h l)) <;> simp
theorem prove_eq {N : Nat} {j : GJob} {p : List Int} {w : Int} {T : List (List Int)} (hN : 300 ≤ N) : plant_ProveDispatchX N j p w T = some (jobB j && proveB j p w T) := by
  unfold plant_ProveDispatchX
  rw [profit_eq hN]
  simp only [Option.bind_some]
  cases hv : jobB j with
  | false => rfl
  | true =>
    have hj := jobOK hv
    have hL := nL_bd hj
    have hH := nH_bd hj
    simp only [cond_true, Bool.true_and]
    unfold proveB
    cases hp : profV j p with
    | none => rfl
    | some v =>
      simp only [outP]
      by_cases hvw : v = w
      · subst hvw
        have e1 : w64 ((j.Hours.length : Int) + 1) = ((nH j + 1 : Nat) : Int) := by rw [w64_id (by unfold nH at hH; omega) (by unfold nH at hH; omega)]; rfl
        simp only [show ((0 : Int) != 0) = false from rfl, cond_false, show (v != v) = false from by simp, e1, decide_true, Bool.true_and]
        by_cases hl : T.length = nH j + 1
        · rw [show ((T.length : Int) != ((nH j + 1 : Nat) : Int)) = false from by simp [hl]]
          simp only [cond_false, joinK]
          have r1 := fun K => rows_loop (N := N) hj T (by omega) hN K N 0 (by simp; omega)
          rw [show ((0 : Nat) : Int) = 0 from rfl, List.drop_zero] at r1
          rw [r1, show decide (T.length = nH j + 1) = true from decide_eq_true hl, Bool.true_and]
          cases hB : rowsB j 0 T with
          | false => rfl
          | true =>
            have r2 := fun K => b1_loop (N := N) hj hN hl hB K N 0 (by omega) (by omega)
            rw [show ((0 : Nat) : Int) = 0 from rfl, Nat.sub_zero, ← List.range_eq_range'] at r2
            simp only [cond_true, r2, Bool.true_and]
            unfold okT
            cases (List.range (nH j)).all (fun h => (List.range (nL j)).all fun l => (List.range (nL j)).all (bellB j T h l)) with
            | false => rfl
            | true =>
              obtain ⟨r, q1, _, q3, q4⟩ := row_at hl hB (h := 0) (by omega)
              have hf := first_bd hj
              have hf1 : j.First ≤ (nL j : Int) - 1 := hj.f1
              have q5 : getI r j.First = some (tv T 0 j.First.toNat) := by
                have := getI_at (q4 j.First.toNat (by omega))
                rwa [show ((j.First.toNat : Nat) : Int) = j.First from by omega] at this
              have q6 : getI T 0 = some r := getI_at q1
              simp only [cond_true, q6, Option.bind_some, q5, Bool.true_and]
        · rw [show ((T.length : Int) != ((nH j + 1 : Nat) : Int)) = true from by simp; omega]
          simp [joinK, show decide (T.length = nH j + 1) = false from decide_eq_false hl]
      · rw [show (v != w) = true from by simpa using hvw]
        simp [joinK, hvw]

/-! the best plan with its table is accepted; what is accepted is the best -/
theorem best_prof {j : GJob} (hj : JobOK j) (hc : canB j = true) : profV j (bestP j) = some (bestV j) :=
  planF_V (L := nL j) (fol := folB j) (gn := gnI j) j.Hours (gn_all hj (fun _ h => h)) (nH_bd hj).2 j.First hc
theorem prof_le {j : GJob} {p : List Int} {v : Int} (h : profV j p = some v) : canB j = true ∧ v ≤ bestV j := planV_le (L := nL j) fol_in h
theorem tabRows_tv {j : GJob} {h l : Nat} (hh : h ≤ nH j) (hl : l < nL j) : tv (tabRows j) h l = tb j h l := by
  unfold tv tabRows
  simp only [List.getD_eq_getElem?_getD]
  rw [rw_get _ (by omega), Option.getD_some, rw_get _ hl]
  rfl
theorem tabRows_rows {j : GJob} (hj : JobOK j) : rowsB j 0 (tabRows j) = true := by
  have key : ∀ (n i : Nat), rowsB j i ((List.range' i n).map (fun i => rw' (nL j) (tb j i))) = true := by
    intro n
    induction n with
    | zero => intro i; rfl
    | succ n ih =>
      intro i
      rw [List.range'_succ, List.map_cons, rowsB, ih (i + 1), Bool.and_true]
      unfold rowB
      simp only [Bool.and_eq_true, decide_eq_true_eq, List.all_eq_true, Bool.or_eq_true, Bool.not_eq_true', decide_eq_false_iff_not]
      refine ⟨⟨rw_len _ _, fun x hx => ?_⟩, ?_⟩
      · simp only [rw', List.mem_map, List.mem_range] at hx
        obtain ⟨l, _, rfl⟩ := hx
        have := tb_bd hj i l
        exact btw_iff.2 ⟨this.1, by omega⟩
      · rcases Nat.decEq i (nH j) with h | h
        · exact Or.inl h
        · refine Or.inr fun x hx => ?_
          simp only [rw', List.mem_map, List.mem_range] at hx
          obtain ⟨l, _, rfl⟩ := hx
          rw [h]
          have : tb j (nH j) l = 0 := by unfold tb; rw [List.drop_of_length_le (Nat.le_refl _)]; rfl
          omega
  have := key (nH j + 1) 0
  rwa [← List.range_eq_range'] at this
theorem tabRows_ok {j : GJob} : okT j (tabRows j) = true := by
  unfold okT
  simp only [List.all_eq_true, List.mem_range]
  intro h hh l hl k hk
  unfold bellB
  rw [tabRows_tv (by omega) hl, tabRows_tv (by omega) hk]
  cases hf : folB j (hr j h) l k with
  | false => rfl
  | true =>
    simp only [Bool.not_true, Bool.false_or, Bool.not_eq_true', decide_eq_false_iff_not]
    obtain ⟨H, hH, hdr⟩ := drop_at hh
    have e : hr j h = H := by
      have := hr_at hh
      rw [hH] at this
      exact (Option.some.inj this).symm
    rw [e] at hf ⊢
    have := (mx_ge (candB (folB j) (gnI j) (tabV (nL j) (folB j) (gnI j) (j.Hours.drop (h + 1))) H l) (nL j) 0 (-1000000000000)).2 k (gnI j H l k + tb j (h + 1) k) (Nat.zero_le _) (by omega) (by unfold candB; rw [hf]; rfl)
    have e2 : tb j h l = mx (candB (folB j) (gnI j) (tabV (nL j) (folB j) (gnI j) (j.Hours.drop (h + 1))) H l) (nL j) 0 (-1000000000000) := by
      unfold tb
      rw [hdr]
      rfl
    rw [e2]
    omega
theorem best_proves {j : GJob} (hj : JobOK j) (hc : canB j = true) : proveB j (bestP j) (bestV j) (tabRows j) = true := by
  unfold proveB
  have hf := first_bd hj
  have hf1 : j.First ≤ (nL j : Int) - 1 := hj.f1
  rw [best_prof hj hc, tabRows_rows hj, tabRows_ok, tabRows_tv (Nat.zero_le _) (by omega)]
  have e1 : (tabRows j).length = nH j + 1 := rw_len _ _
  have e2 : tb j 0 j.First.toNat = bestV j := by
    unfold tb bestV
    rw [show ((j.First.toNat : Nat) : Int) = j.First from by omega]
    rfl
  simp [e1, e2]
theorem proves_best {j : GJob} (hj : JobOK j) {p : List Int} {w : Int} {T : List (List Int)} (h : proveB j p w T = true) : w = bestV j := by
  unfold proveB at h
  simp only [Bool.and_eq_true, decide_eq_true_eq] at h
  obtain ⟨⟨⟨⟨h1, h2⟩, h3⟩, h4⟩, h5⟩ := h
  obtain ⟨hc, h6⟩ := prof_le h1
  have hb := best_prof hj hc
  have hf := first_bd hj
  have hf1 : j.First ≤ (nL j : Int) - 1 := hj.f1
  have h7 := planV_weak (L := nL j) (fol := folB j) (gn := gnI j) fol_in (fun h l => tv T h l.toNat) j.Hours 0 (fun m H hm l k l0 l1 hfol => by
    have hmlt : m < nH j := (List.getElem?_eq_some_iff.1 hm).1
    obtain ⟨k0, k1⟩ := fol_in H l k hfol
    have hb := h4
    unfold okT at hb
    simp only [List.all_eq_true, List.mem_range] at hb
    have := hb m hmlt l.toNat (by omega) k.toNat (by omega)
    unfold bellB at this
    have e : hr j m = H := by
      have := hr_at hmlt
      rw [hm] at this
      exact (Option.some.inj this).symm
    rw [e, show ((l.toNat : Nat) : Int) = l from by omega, show ((k.toNat : Nat) : Int) = k from by omega, hfol] at this
    simp only [Bool.not_true, Bool.false_or, Bool.not_eq_true', decide_eq_false_iff_not] at this
    simp only [Nat.zero_add]
    omega) (fun k k0 k1 => by
    have := (tv_bd h2 h3 (h := nH j) (l := k.toNat) (Nat.le_refl _) (by omega)).2 rfl
    rwa [Nat.zero_add]) j.First (bestP j) (bestV j) hf.1 (by omega) hb
  omega
end Go.Proofs.Ytlhakkkjgdbdpaa
