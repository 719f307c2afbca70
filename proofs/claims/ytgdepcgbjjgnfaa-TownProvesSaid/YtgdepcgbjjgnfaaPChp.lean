/-
  Plain: what town.Cheapest returns: a plan, prices that show it, and its cost; or that some hour is short. No conditions.
-/
import Derived.Test.YtgdepcgbjjgnfaaPSea
namespace Go.Proofs.Ytgdepcgbjjgnfaa
open Go.RowKit
theorem Qx9 {h : GHour} (hb : Qjy h = true) : Qds h.Stairs := by
 simp only [Qjy, Bool.and_eq_true] at hb
 refine ⟨Qoe _ _ hb.1.1, ?_⟩
 have key : ∀ (l : List GStair) (a : Option GStair), Qiy a l = true → l.Pairwise (fun a b => a.Price < b.Price) ∧ ∀ x, a = some x → ∀ y ∈ l, x.Price < y.Price := by
  intro l
  induction l with
  | nil => intro a _; exact ⟨List.Pairwise.nil, fun _ _ y hy => by cases hy⟩
  | cons b l ih =>
   intro a h
   have hb : Qiy (some b) l = true ∧ ∀ x, a = some x → x.Price < b.Price := by
    cases a with
    | none =>
     simp only [Qiy, Bool.and_eq_true] at h
     exact ⟨h.2, fun x e => by cases e⟩
    | some c =>
     simp only [Qiy, Bool.and_eq_true] at h
     refine ⟨h.2, fun x e => ?_⟩
     cases e
     simpa using h.1.2
   obtain ⟨i1, i2⟩ := ih (some b) hb.1
   refine ⟨List.pairwise_cons.2 ⟨i2 b rfl, i1⟩, fun x e y hy => ?_⟩
   rcases List.mem_cons.1 hy with rfl | hy
   ·exact hb.2 x e
   ·have := i2 b rfl y hy
    have := hb.2 x e
    omega
 exact (key _ _ hb.1.1).1
theorem okNil : Qds [] := ⟨fun _ h => (by cases h), List.Pairwise.nil⟩
theorem hrs_none {hs : List GHour} {i : Nat} (h : hs.length ≤ i) : hrs hs i = [] ∧ useF hs i = 0 := by
 unfold hrs useF
 rw [List.getElem?_eq_none h]
 exact ⟨rfl, rfl⟩
theorem Qmm {d : GDay} (hd : dayB d = true) : DayP d.Hours d.Tank := by
 obtain ⟨ht, _, _, h24⟩ := Qm0 hd
 have hall : ∀ i, i < d.Hours.length → ∃ x, d.Hours[i]? = some x ∧ x ∈ d.Hours ∧ Qjy x = true := fun i hi => by
  refine ⟨_, List.getElem?_eq_getElem hi, List.getElem_mem hi, ?_⟩
  simp only [dayB, Bool.and_eq_true] at hd
  exact List.all_eq_true.1 hd.2 _ (List.getElem_mem hi)
 refine ⟨h24, fun i hi => ?_, fun i hi => ?_, fun i hi => ?_, fun i hi => ?_, ht⟩ <;> obtain ⟨x, x1, x2, x3⟩ := hall i hi <;> obtain ⟨e1, e2⟩ := Qkd x1 <;> have hp := Qly hd x2
 ·rw [e1]; exact Qx9 x3
 ·rw [e1]
  have := Quv hp.st
  have := hp.few
  omega
 ·rw [e1]; exact hp.few
 ·rw [e2]; exact hp.use
theorem okAll {hs : List GHour} {T : Int} (hd : DayP hs T) (i : Nat) : Qds (hrs hs i) := by
 rcases Nat.lt_or_ge i hs.length with h | h
 ·exact hd.ok i h
 ·rw [(hrs_none h).1]; exact okNil
structure DoneOK (hs : List GHour) (T S : Int) (i : Nat) (hv : Int) (us lf : Nat → Int) (pl lv : List Int) : Prop where
 npl : pl.length = hs.length
 nlv : lv.length = hs.length
 pos : ∀ i, i < hs.length → ∃ u, PosO (hrs hs i) (us i) (lf i) (gt pl i) u
 later : ∀ k, i ≤ k → gt pl k = 0
 lvl : ∀ k, i ≤ k → gt lv k = 0
 tank : ∀ k, k < i → 0 ≤ gt lv k ∧ gt lv k ≤ T ∧ gt lv k = lev S (gt pl) (useF hs) k
 inv : GrI (hrs hs) (gt pl) (gt lv) T i
 have0 : i = 0 → hv = S
 haven : ∀ t, t + 1 = i → lev S (gt pl) (useF hs) t = hv
 hz : 0 < hv → ∀ k, gt pl k = 0
 bd : 0 ≤ hv ∧ hv ≤ T
theorem Qwo {N : Nat} {d : GDay} (hN : 2000 ≤ N) (hd : DayP d.Hours d.Tank) (hns : ∀ i, i < d.Hours.length → 0 ≤ yF d.Hours d.Tank d.Start i + Qdm (hrs d.Hours i) - useF d.Hours i) (K : (Nat → Int) × (Nat → Int) × (List Int) × (List Int) → Option ((List Int) × (List Int) × Int × Int)) :
  ∀ (n m i : Nat) (hv : Int) (us lf : Nat → Int) (pl lv : List Int), m < n → i + m = d.Hours.length → DoneOK d.Hours d.Tank d.Start i hv us lf pl lv →
  ∃ hv' us' lf' pl' lv', Qb2 N d K n hv i us lf pl lv = K (us', lf', pl', lv') ∧ DoneOK d.Hours d.Tank d.Start d.Hours.length hv' us' lf' pl' lv' := by
 have h24 := hd.few
 obtain ⟨T0, T1⟩ := hd.tank
 intro n
 induction n with
 | zero => intro m i _ _ _ _ _ h; omega
 | succ n ih =>
  intro m i hv us lf pl lv hm him h
  rw [Qb2]
  cases m with
  | zero =>
   rw [show decide ((i : Int) < (d.Hours.length : Int)) = false from decide_eq_false (by omega), cond_false]
   obtain rfl : i = d.Hours.length := by omega
   exact ⟨hv, us, lf, pl, lv, rfl, h⟩
  | succ m =>
   have hi : i < d.Hours.length := by omega
   have hg : d.Hours[i]? = some d.Hours[i] := List.getElem?_eq_getElem hi
   obtain ⟨u0, u1⟩ := hd.use i hi
   obtain ⟨b0, b1⟩ := h.bd
   have e0 : d.Hours[i].Use = useF d.Hours i := (Qkd hg).2.symm
   have e1 : w64 (useF d.Hours i - hv) = useF d.Hours i - hv := Qco (by omega) (by omega)
   have e2 : w64 (hv - useF d.Hours i) = hv - useF d.Hours i := Qco (by omega) (by omega)
   have e3 : (if useF d.Hours i - hv > 0 then useF d.Hours i - hv else 0) = max 0 (useF d.Hours i - hv) := by split <;> omega
   have e4 : (if hv - useF d.Hours i > 0 then hv - useF d.Hours i else 0) = max 0 (hv - useF d.Hours i) := by split <;> omega
   have hw : WorkOK d.Hours d.Tank d.Start i (max 0 (hv - useF d.Hours i) - max 0 (useF d.Hours i - hv)) us lf pl lv := by
    refine ⟨h.npl, h.nlv, h.pos, fun k hk => h.later k (by omega), h.lvl, h.tank, ?_, h.inv⟩
    have hx := h.later i (Nat.le_refl _)
    cases i with
    | zero => rw [lev, hx, ← h.have0 rfl]; omega
    | succ t => rw [lev, hx, h.haven t rfl]; omega
   obtain ⟨us', lf', pl', lv', k1, k2, k3⟩ := fill_eq hN hd hi (hns i hi) hw (by omega) (by omega) (by omega)
   have hx := Qe0 (l := lv') (i := i) (by rw [k2.nlv]; omega)
   have hl0 := k2.lvl i (Nat.le_refl _)
   rw [hl0] at hx
   have e5 : w64 (0 + max 0 (hv - useF d.Hours i)) = max 0 (hv - useF d.Hours i) := by rw [Qco (by omega) (by omega)]; omega
   have e6 : w64 ((i : Int) + 1) = ((i + 1 : Nat) : Int) := Qco (by omega) (by omega)
   simp only [show decide ((i : Int) < (d.Hours.length : Int)) = true from decide_eq_true (by omega), cond_true, Qcs hg, Option.bind_some, e0, e1, e2, e3, e4, Int.toNat_natCast, k1, chk, show decide (0 ≤ (i : Int)) = true from decide_eq_true (by omega), show decide (i < d.Hours.length) = true from decide_eq_true hi, Bool.and_self, hx, e5, e6]
   have hset : gt (lv'.set i (max 0 (hv - useF d.Hours i))) = setF (gt lv') i (gt lv' i + max 0 (hv - useF d.Hours i)) := by
    rw [Qmz (by rw [k2.nlv]; omega), hl0, Int.zero_add]
   have hzero : 0 < max 0 (hv - useF d.Hours i) → ∀ k, gt pl' k = 0 := fun hp => by
    rw [k3 (by omega)]
    exact h.hz (by omega)
   exact ih m (i + 1) _ us' lf' pl' _ (by omega) (by omega) ⟨k2.npl, by rw [List.length_set, k2.nlv], k2.pos, fun k hk => k2.later k (by omega), fun k hk => by
     rw [hset, Qgx (by omega)]; exact k2.lvl k (by omega), fun k hk => by
     rw [hset]
     rcases Nat.eq_or_lt_of_le (Nat.le_of_lt_succ hk) with rfl | hlt
     ·rw [Qff, hl0, k2.gap]; omega
     ·rw [Qgx (by omega)]; exact k2.tank k hlt, by
     rw [hset]
     exact inv_next k2.inv (k2.later _ (Nat.lt_succ_self i)) (fun j _ => okAll hd j) (fun hp j _ => hzero hp j) (by omega), fun e => by omega, fun t ht => by
     obtain rfl : t = i := by omega
     exact k2.gap, hzero, by omega⟩
theorem Qwa {N : Nat} {d : GDay} (hd : DayP d.Hours d.Tank) (K : (Nat → Int) → Option ((List Int) × (List Int) × Int × Int)) : ∀ (n m i : Nat) (f : Nat → Int), m < n → i + m = d.Hours.length → (∀ j, j < i → ∀ s, (hrs d.Hours j)[0]? = some s → f j = s.Amount) →
  ∃ f', Qb1 N d K n i f = K f' ∧ ∀ j, j < d.Hours.length → ∀ s, (hrs d.Hours j)[0]? = some s → f' j = s.Amount := by
 have h24 := hd.few
 intro n
 induction n with
 | zero => intro m i _ h; omega
 | succ n ih =>
  intro m i f hm him hf
  rw [Qb1]
  cases m with
  | zero =>
   rw [show decide ((i : Int) < (d.Hours.length : Int)) = false from decide_eq_false (by omega), cond_false]
   exact ⟨f, rfl, fun j hj => hf j (by omega)⟩
  | succ m =>
   have hi : i < d.Hours.length := by omega
   have hg : d.Hours[i]? = some d.Hours[i] := List.getElem?_eq_getElem hi
   have e0 : d.Hours[i].Stairs = hrs d.Hours i := (Qkd hg).1.symm
   have e6 : w64 ((i : Int) + 1) = ((i + 1 : Nat) : Int) := Qco (by omega) (by omega)
   simp only [show decide ((i : Int) < (d.Hours.length : Int)) = true from decide_eq_true (by omega), cond_true, Qcs hg, Option.bind_some, e0, e6]
   cases hs : hrs d.Hours i with
   | nil =>
    simp only [List.length_nil, show decide (((0 : Nat) : Int) > 0) = false from rfl, cond_false]
    exact ih m (i + 1) f (by omega) (by omega) fun j hj s h => by
     rcases Nat.eq_or_lt_of_le (Nat.le_of_lt_succ hj) with rfl | hlt
     ·rw [hs] at h; simp at h
     ·exact hf j hlt s h
   | cons s l =>
    have e1 : getI (s :: l) 0 = some s := rfl
    simp only [List.length_cons, show decide (((l.length + 1 : Nat) : Int) > 0) = true from decide_eq_true (by omega), cond_true, e1, Option.bind_some, chk, Int.toNat_natCast, show decide (0 ≤ (i : Int)) = true from decide_eq_true (by omega), show decide (i < 24) = true from decide_eq_true (by omega), Bool.and_self]
    exact ih m (i + 1) _ (by omega) (by omega) fun j hj r h => by
     rcases Nat.eq_or_lt_of_le (Nat.le_of_lt_succ hj) with rfl | hlt
     ·rw [hs] at h
      cases h
      rw [Qff]
     ·rw [Qgx (by omega)]
      exact hf j hlt r h
theorem Qn0 (N : Nat) (hs : List GHour) (i : Nat) (hi : i < hs.length) (K : List Int → Option (List Int)) : ∀ (l : List GStair) (n : Int) (out : List Int), out.length = hs.length →
  ∃ out', Qa9 N hs i K (Qiw l n) out = K out' ∧ out'.length = hs.length ∧ gt out' = setF (gt out) i (topP l n (gt out i))
 | [], n, out, ho => ⟨out, by rw [Qiw, Qa9], ho, by
   funext k
   unfold setF topP
   split
   ·rename_i e; rw [e]
   ·rfl⟩
 | s :: l, n, out, ho => by
  rw [Qiw, Qa9]
  have hx := Qe0 (l := out) (i := i) (by omega)
  by_cases hp : 0 < min n s.Amount
  ·simp only [show decide (min n s.Amount > 0) = true from decide_eq_true hp, cond_true, chk, Int.toNat_natCast, show decide (0 ≤ (i : Int)) = true from decide_eq_true (by omega), show decide (i < hs.length) = true from decide_eq_true hi, Bool.and_self, hx, Option.bind_some]
   obtain ⟨o, o1, o2, o3⟩ := Qn0 N hs i hi K l (n - min n s.Amount) (out.set i s.Price) (by simpa using ho)
   refine ⟨o, o1, o2, ?_⟩
   rw [o3, Qmz (by omega), Qff, topP, if_pos hp]
   funext k
   unfold setF
   split <;> rfl
  ·simp only [show decide (min n s.Amount > 0) = false from decide_eq_false hp, cond_false]
   obtain ⟨o, o1, o2, o3⟩ := Qn0 N hs i hi K l (n - min n s.Amount) out ho
   exact ⟨o, o1, o2, by rw [o3, topP, if_neg hp]⟩
theorem top_loop {N : Nat} {hs : List GHour} {T : Int} {pl : List Int} (hN : 2000 ≤ N) (hd : DayP hs T) (hpl : pl.length = hs.length) (hfit : ∀ i, i < hs.length → 0 ≤ gt pl i ∧ gt pl i ≤ Qdm (hrs hs i)) (K : List Int → Option (List Int)) : ∀ (n m i : Nat) (out : List Int), m < n → i + m = hs.length → out.length = hs.length → (∀ j, j < i → gt out j = topP (hrs hs j) (gt pl j) 0) → (∀ j, i ≤ j → gt out j = 0) →
  ∃ out', Qbo N hs pl K n i out = K out' ∧ out'.length = hs.length ∧ ∀ j, j < hs.length → gt out' j = topP (hrs hs j) (gt pl j) 0 := by
 have h24 := hd.few
 intro n
 induction n with
 | zero => intro m i _ h; omega
 | succ n ih =>
  intro m i out hm him ho h1 h2
  rw [Qbo]
  cases m with
  | zero =>
   rw [show decide ((i : Int) < (hs.length : Int)) = false from decide_eq_false (by omega), cond_false]
   exact ⟨out, rfl, ho, fun j hj => h1 j (by omega)⟩
  | succ m =>
   have hi : i < hs.length := by omega
   have hg : hs[i]? = some hs[i] := List.getElem?_eq_getElem hi
   have e0 : hs[i].Stairs = hrs hs i := (Qkd hg).1.symm
   have hx := Qe0 (l := pl) (i := i) (by omega)
   obtain ⟨f0, f1⟩ := hfit i hi
   have h6 := hd.six i hi
   have hwh := hd.whole i hi
   have e6 : w64 ((i : Int) + 1) = ((i + 1 : Nat) : Int) := Qco (by omega) (by omega)
   have htk := Qmf N (hrs hs i) (by omega) (hd.ok i hi).1 N 0 (gt pl i) (by simp; omega) f0 (by omega)
   rw [show ((0 : Nat) : Int) = 0 from rfl, List.drop_zero] at htk
   simp only [show decide ((i : Int) < (hs.length : Int)) = true from decide_eq_true (by omega), cond_true, Qbr, Qcs hg, Qcs hx, Option.bind_some, Qde, Qdd, e0, htk, e6]
   obtain ⟨o, o1, o2, o3⟩ := Qn0 N hs i hi (fun y57 => Qbo N hs pl K n ((i + 1 : Nat) : Int) y57) (hrs hs i) (gt pl i) out ho
   rw [o1]
   refine ih m (i + 1) o (by omega) (by omega) o2 (fun j hj => ?_) (fun j hj => ?_)
   ·rw [o3]
    rcases Nat.eq_or_lt_of_le (Nat.le_of_lt_succ hj) with rfl | hlt
    ·rw [Qff, h2 j (Nat.le_refl _)]
    ·rw [Qgx (by omega)]; exact h1 j hlt
   ·rw [o3, Qgx (by omega)]; exact h2 j (by omega)
theorem Qv8 {N : Nat} {hs : List GHour} {T : Int} {lv : List Int} {c : Nat → Int} {r : Nat} (h24 : hs.length ≤ 24) (h1 : 1 ≤ hs.length) (hlv : lv.length = hs.length) (K : List Int → Option (List Int)) : ∀ (n k m : Nat) (out : List Int), k < n → m + k + 1 = hs.length → out.length = hs.length → SwI c (gt lv) T hs.length r m (gt out) →
  ∃ out', Qbp N T hs lv K n m out = K out' ∧ out'.length = hs.length ∧ SwI c (gt lv) T hs.length r (hs.length - 1) (gt out') := by
 intro n
 induction n with
 | zero => intro k m _ h; omega
 | succ n ih =>
  intro k m out hk hmk ho h
  rw [Qbp]
  have e0 : w64 ((((hs.length : Int).toNat : Nat) : Int) - 1) = ((hs.length - 1 : Nat) : Int) := by rw [Int.toNat_natCast, Qco (by omega) (by omega)]; omega
  cases k with
  | zero =>
   rw [e0, show decide ((m : Int) < ((hs.length - 1 : Nat) : Int)) = false from decide_eq_false (by omega), cond_false]
   obtain rfl : m = hs.length - 1 := by omega
   exact ⟨out, rfl, ho, h⟩
  | succ k =>
   have hm : m + 1 < hs.length := by omega
   have e1 : w64 ((m : Int) + 1) = ((m + 1 : Nat) : Int) := Qco (by omega) (by omega)
   have hl := Qe0 (l := lv) (i := m) (by omega)
   have ho1 := Qe0 (l := out) (i := m) (by omega)
   have ho2 := Qe0 (l := out) (i := m + 1) (by omega)
   have d1 : decide (0 ≤ ((m + 1 : Nat) : Int)) = true := decide_eq_true (by omega)
   have d2 : decide (m + 1 < hs.length) = true := decide_eq_true hm
   have d3 : decide (0 ≤ (m : Int)) = true := decide_eq_true (by omega)
   have d4 : decide (m < hs.length) = true := decide_eq_true (by omega)
   have e2 : ∀ a b : Int, (if a > b then a else b) = max b a := fun a b => by split <;> omega
   have hstep := swI_step h hm
   rw [e0, show decide ((m : Int) < ((hs.length - 1 : Nat) : Int)) = true from decide_eq_true (by omega), cond_true]
   simp only [Qbr, e1, Qcs hl, Option.bind_some, Int.toNat_natCast, chk, d1, d2, d3, d4, Bool.and_self, ho1, ho2, e2]
   unfold swp1 at hstep
   by_cases hp : 0 < gt lv m
   ·rw [show decide (gt lv m > 0) = true from decide_eq_true hp, cond_true]
    rw [if_pos hp] at hstep
    by_cases hT : gt lv m < T
    ·rw [if_pos hT] at hstep
     have g1 : (out.set (m + 1) (max (gt out (m + 1)) (gt out m)))[m]? = some (gt out m) := by rw [List.getElem?_set_ne (by omega), ho1]
     have g2 : (out.set (m + 1) (max (gt out (m + 1)) (gt out m)))[m + 1]? = some (max (gt out (m + 1)) (gt out m)) := by rw [List.getElem?_set_self (by omega)]
     rw [show decide (gt lv m < T) = true from decide_eq_true hT, cond_true]
     simp only [g1, g2, Option.bind_some]
     refine ih k (m + 1) _ (by omega) (by omega) (by simpa using ho) ?_
     rw [Qmz (by simp; omega), Qmz (by omega)]
     rw [Qgx (j := m) (by omega), Qff] at hstep
     exact hstep
    ·rw [if_neg hT] at hstep
     rw [show decide (gt lv m < T) = false from decide_eq_false hT, cond_false]
     refine ih k (m + 1) _ (by omega) (by omega) (by simpa using ho) ?_
     rw [Qmz (by omega)]
     exact hstep
   ·rw [show decide (gt lv m > 0) = false from decide_eq_false hp, cond_false]
    rw [if_neg hp] at hstep
    by_cases hT : gt lv m < T
    ·rw [if_pos hT] at hstep
     rw [show decide (gt lv m < T) = true from decide_eq_true hT, cond_true]
     refine ih k (m + 1) _ (by omega) (by omega) (by simpa using ho) ?_
     rw [Qmz (by omega)]
     exact hstep
    ·rw [if_neg hT] at hstep
     rw [show decide (gt lv m < T) = false from decide_eq_false hT, cond_false]
     exact ih k (m + 1) _ (by omega) (by omega) ho hstep
theorem Qwe {N : Nat} {hs : List GHour} {T : Int} {lv : List Int} {c : Nat → Int} (hN : 2000 ≤ N) (h24 : hs.length ≤ 24) (h1 : 1 ≤ hs.length) (hlv : lv.length = hs.length) (K : List Int → Option (List Int)) : ∀ (n k r : Nat) (out : List Int), k < n → r + k = hs.length → out.length = hs.length → SwI c (gt lv) T hs.length r 0 (gt out) →
  ∃ out', Qbf N T hs lv K n r out = K out' ∧ out'.length = hs.length ∧ SwI c (gt lv) T hs.length hs.length 0 (gt out') := by
 intro n
 induction n with
 | zero => intro k r _ h; omega
 | succ n ih =>
  intro k r out hk hrk ho h
  rw [Qbf]
  cases k with
  | zero =>
   rw [show decide ((r : Int) < (hs.length : Int)) = false from decide_eq_false (by omega), cond_false]
   obtain rfl : r = hs.length := by omega
   exact ⟨out, rfl, ho, h⟩
  | succ k =>
   have e1 : w64 ((r : Int) + 1) = ((r + 1 : Nat) : Int) := Qco (by omega) (by omega)
   simp only [show decide ((r : Int) < (hs.length : Int)) = true from decide_eq_true (by omega), cond_true, Qbr, e1]
   obtain ⟨o, o1, o2, o3⟩ := Qv8 (N := N) h24 h1 hlv (fun y13 => Qbf N T hs lv K n ((r + 1 : Nat) : Int) y13) N (hs.length - 1) 0 out (by omega) (by omega) ho h
   rw [show ((0 : Nat) : Int) = 0 from rfl] at o1
   rw [o1]
   exact ih k (r + 1) o (by omega) (by omega) o2 (Qx7 o3)
theorem Qog (n i : Nat) : gt (List.replicate n 0) i = 0 := by
 rw [gt, List.getD_eq_getElem?_getD, List.getElem?_replicate]
 split <;> rfl
theorem Qyc {N : Nat} {hs : List GHour} {T S : Int} {pl lv : List Int} {us lf : Nat → Int} (hN : 2000 ≤ N) (hd : DayP hs T) (h1 : 1 ≤ hs.length) (hpl : pl.length = hs.length) (hlv : lv.length = hs.length) (hfit : ∀ i, i < hs.length → 0 ≤ gt pl i ∧ gt pl i ≤ Qdm (hrs hs i)) :
  ∃ pr, Qcy N T S hs pl lv us lf = some pr ∧ pr.length = hs.length ∧ SwF (fun i => topP (hrs hs i) (gt pl i) 0) (gt lv) T hs.length (gt pr) := by
 have h24 := hd.few
 unfold Qcy
 simp only [Qbr, chk, Int.toNat_natCast, show decide (0 ≤ (hs.length : Int)) = true from decide_eq_true (by omega), show decide (8 * (hs.length : Int) ≤ 281474976710656) = true from decide_eq_true (by omega), show decide ((hs.length : Int) ≤ 9223372036854775807) = true from decide_eq_true (by omega), Bool.and_self, cond_true]
 obtain ⟨o, o1, o2, o3⟩ := top_loop hN hd hpl hfit (fun y3 => Qbf N T hs lv (fun y5 => some y5) N 0 y3) N hs.length 0 (List.replicate hs.length 0) (by omega) (by omega) (by simp) (fun j hj => by omega) (fun j _ => Qog _ _)
 rw [show ((0 : Nat) : Int) = 0 from rfl] at o1
 rw [o1]
 have hst : SwI (fun i => topP (hrs hs i) (gt pl i) 0) (gt lv) T hs.length 0 0 (gt o) := by
  have := Qx6 (fun i => topP (hrs hs i) (gt pl i) 0) (gt lv) T hs.length
  exact ⟨fun i hi => by rw [o3 i hi]; exact this.up i hi, fun i j hi hj hp hor => by rw [o3 i hi]; exact this.fw i j hi hj hp hor, fun i j hj hij ho hle => by rw [o3 i (by omega)]; exact this.bw i j hj hij ho hle⟩
 obtain ⟨q, q1, q2, q3⟩ := Qwe (N := N) hN h24 h1 hlv (fun y5 => some y5) N hs.length 0 o (by omega) (by omega) o2 hst
 rw [show ((0 : Nat) : Int) = 0 from rfl] at q1
 exact ⟨q, q1, q2, swI_end q3⟩
theorem cost_sum {N : Nat} {d : GDay} {pl : List Int} (hN : 2000 ≤ N) (hd : dayB d = true) (hpl : pl.length = d.Hours.length) (hfit : ∀ i, i < d.Hours.length → 0 ≤ gt pl i ∧ gt pl i ≤ Qdm (hrs d.Hours i)) (K : Int → Option ((List Int) × (List Int) × Int × Int)) : ∀ (n m i : Nat), m < n → i + m = d.Hours.length → 0 ≤ sumN (fun j => Qjl (hrs d.Hours j) (gt pl j)) i → sumN (fun j => Qjl (hrs d.Hours j) (gt pl j)) i ≤ 6000000000000 * i →
  Qbl N d pl K n (sumN (fun j => Qjl (hrs d.Hours j) (gt pl j)) i) i = K (sumN (fun j => Qjl (hrs d.Hours j) (gt pl j)) d.Hours.length) := by
 have hp := Qmm hd
 have h24 := hp.few
 intro n
 induction n with
 | zero => intro m i h; omega
 | succ n ih =>
  intro m i hm him a0 a1
  rw [Qbl]
  cases m with
  | zero =>
   rw [show decide ((i : Int) < (d.Hours.length : Int)) = false from decide_eq_false (by omega), cond_false]
   obtain rfl : i = d.Hours.length := by omega
   rfl
  | succ m =>
   have hi : i < d.Hours.length := by omega
   have hg : d.Hours[i]? = some d.Hours[i] := List.getElem?_eq_getElem hi
   have e0 : d.Hours[i].Stairs = hrs d.Hours i := (Qkd hg).1.symm
   have hx := Qe0 (l := pl) (i := i) (by omega)
   have hh := Qly hd (List.getElem_mem hi)
   obtain ⟨f0, f1⟩ := hfit i hi
   have hwh := hp.whole i hi
   have h6 := hh.few
   have hc := cost_bd hh.st f0
   have e6 : w64 ((i : Int) + 1) = ((i + 1 : Nat) : Int) := Qco (by omega) (by omega)
   have hcs := costP_eq (N := N) hN hh f0 (by omega)
   rw [e0] at hc hcs h6
   have e7 : w64 (sumN (fun j => Qjl (hrs d.Hours j) (gt pl j)) i + Qjl (hrs d.Hours i) (gt pl i)) = sumN (fun j => Qjl (hrs d.Hours j) (gt pl j)) (i + 1) := by
    rw [Qco (by omega) (by omega)]
    rfl
   simp only [show decide ((i : Int) < (d.Hours.length : Int)) = true from decide_eq_true (by omega), cond_true, Qcs hg, Option.bind_some, chk, Int.toNat_natCast, show decide (0 ≤ (i : Int)) = true from decide_eq_true (by omega), show decide (i < d.Hours.length) = true from decide_eq_true hi, Bool.and_self, hx, hcs, e6, e7]
   exact ih m (i + 1) (by omega) (by omega) (by simp only [sumN]; omega) (by simp only [sumN]; omega)
def ySum (hs : List GHour) (T S : Int) (i : Nat) : Int := yF hs T S i + Qdm (hrs hs i) - useF hs i
structure ShortP (hs : List GHour) (T S : Int) (i : Nat) : Prop where
 lt : i < hs.length
 neg : ySum hs T S i < 0
 ahead : ∀ j, j < i → 0 ≤ ySum hs T S j
theorem Qwd {N : Nat} {d : GDay} (hN : 2000 ≤ N) (hd : dayB d = true) :
  (∃ i, ShortP d.Hours d.Tank d.Start i ∧ 0 < - ySum d.Hours d.Tank d.Start i ∧ - ySum d.Hours d.Tank d.Start i ≤ useF d.Hours i ∧ Qfd N d = some (((i : Nat) : Int), - ySum d.Hours d.Tank d.Start i)) ∨
  ((∀ i, i < d.Hours.length → 0 ≤ ySum d.Hours d.Tank d.Start i) ∧ Qfd N d = some (-1, 0)) := by
 have hp := Qmm hd
 have h24 := hp.few
 obtain ⟨⟨t0, t1⟩, ⟨s0, s1⟩, h1, h2⟩ := Qm0 hd
 have key : ∀ (n m i : Nat), m < n → i + m = d.Hours.length → (∀ j, j < i → 0 ≤ ySum d.Hours d.Tank d.Start j) → 0 ≤ yF d.Hours d.Tank d.Start i → yF d.Hours d.Tank d.Start i ≤ d.Tank →
   (∃ i', ShortP d.Hours d.Tank d.Start i' ∧ 0 < - ySum d.Hours d.Tank d.Start i' ∧ - ySum d.Hours d.Tank d.Start i' ≤ useF d.Hours i' ∧ Qcu N d (fun _ => some (-1, 0)) n (yF d.Hours d.Tank d.Start i) i = some (((i' : Nat) : Int), - ySum d.Hours d.Tank d.Start i')) ∨
   ((∀ i, i < d.Hours.length → 0 ≤ ySum d.Hours d.Tank d.Start i) ∧ Qcu N d (fun _ => some (-1, 0)) n (yF d.Hours d.Tank d.Start i) i = some (-1, 0)) := by
  intro n
  induction n with
  | zero => intro m i h; omega
  | succ n ih =>
   intro m i hm him hall y0 y1
   rw [Qcu]
   cases m with
   | zero =>
    rw [show decide ((i : Int) < (d.Hours.length : Int)) = false from decide_eq_false (by omega), cond_false]
    exact Or.inr ⟨fun j hj => hall j (by omega), rfl⟩
   | succ m =>
    have hi : i < d.Hours.length := by omega
    have hg : d.Hours[i]? = some d.Hours[i] := List.getElem?_eq_getElem hi
    obtain ⟨e0, e1⟩ := Qkd hg
    have hh := Qly hd (List.getElem_mem hi)
    have hwh := hp.whole i hi
    have hu := hp.use i hi
    have hw := Qrq hh hN
    rw [← e0] at hw
    have e2 : w64 ((i : Int) + 1) = ((i + 1 : Nat) : Int) := Qco (by omega) (by omega)
    have e3 : w64 (Qdm (hrs d.Hours i) - useF d.Hours i) = Qdm (hrs d.Hours i) - useF d.Hours i := Qco (by omega) (by omega)
    have e4 : w64 (yF d.Hours d.Tank d.Start i + (Qdm (hrs d.Hours i) - useF d.Hours i)) = ySum d.Hours d.Tank d.Start i := by
     unfold ySum; rw [Qco (by omega) (by omega)]; omega
    have e5 : w64 (0 - ySum d.Hours d.Tank d.Start i) = - ySum d.Hours d.Tank d.Start i := by
     unfold ySum; rw [Qco (by omega) (by omega)]; omega
    simp only [show decide ((i : Int) < (d.Hours.length : Int)) = true from decide_eq_true (by omega), cond_true, Qcs hg, Option.bind_some, hw, ← e1, e2, e3, e4, e5]
    by_cases hneg : ySum d.Hours d.Tank d.Start i < 0
    ·rw [show decide (ySum d.Hours d.Tank d.Start i < 0) = true from decide_eq_true hneg, cond_true]
     exact Or.inl ⟨i, ⟨hi, hneg, hall⟩, by omega, by unfold ySum; omega, rfl⟩
    ·rw [show decide (ySum d.Hours d.Tank d.Start i < 0) = false from decide_eq_false hneg, cond_false]
     have e6 : (if d.Tank < ySum d.Hours d.Tank d.Start i then d.Tank else ySum d.Hours d.Tank d.Start i) = yF d.Hours d.Tank d.Start (i + 1) := by
      rw [yF]
      unfold ySum
      split <;> omega
     rw [e6]
     have e7 : yF d.Hours d.Tank d.Start (i + 1) = min (ySum d.Hours d.Tank d.Start i) d.Tank := rfl
     exact ih m (i + 1) (by omega) (by omega) (fun j hj => by
      rcases Nat.eq_or_lt_of_le (Nat.le_of_lt_succ hj) with rfl | hlt
      ·omega
      ·exact hall j hlt) (by omega) (by omega)
 have := key N d.Hours.length 0 (by omega) (by omega) (fun j hj => by omega) s0 s1
 exact this
theorem Qwv {N : Nat} {d : GDay} (hN : 2000 ≤ N) (hf : FewP d) (hd : dayB d = true) :
  (∃ i, ShortP d.Hours d.Tank d.Start i ∧ Qen N d = some ([], [], 0, 7)) ∨
  ((∀ i, i < d.Hours.length → 0 ≤ ySum d.Hours d.Tank d.Start i) ∧ ∃ pl pr, Qen N d = some (pl, pr, sumN (fun j => Qjl (hrs d.Hours j) (gt pl j)) d.Hours.length, 0) ∧ pl.length = d.Hours.length ∧ pr.length = d.Hours.length ∧ ShOK (hrs d.Hours) (useF d.Hours) d.Start d.Tank d.Hours.length (gt pl) (gt pr)) := by
 have hp := Qmm hd
 have h24 := hp.few
 obtain ⟨⟨t0, t1⟩, ⟨s0, s1⟩, h1, h2⟩ := Qm0 hd
 unfold Qen
 simp only [Qto hf hN, hd, Option.bind_some, Bool.not_true, cond_false]
 rcases Qwd hN hd with ⟨i, hi, _, _, e⟩ | ⟨hns, e⟩
 ·refine Or.inl ⟨i, hi, ?_⟩
  rw [e, Option.bind_some, show decide ((((i : Nat) : Int), - ySum d.Hours d.Tank d.Start i).1 ≥ 0) = true from decide_eq_true (by dsimp only; omega), cond_true]
 ·refine Or.inr ⟨hns, ?_⟩
  simp only [e, Option.bind_some, show decide (((-1 : Int), (0 : Int)).1 ≥ 0) = false from rfl, cond_false, chk, Qbr, Int.toNat_natCast, show decide (0 ≤ (d.Hours.length : Int)) = true from decide_eq_true (by omega), show decide (8 * (d.Hours.length : Int) ≤ 281474976710656) = true from decide_eq_true (by omega), show decide ((d.Hours.length : Int) ≤ 9223372036854775807) = true from decide_eq_true (by omega), Bool.and_self, cond_true]
  obtain ⟨f, f1, f2⟩ := Qwa (N := N) hp (fun y15 => Qb2 N d (fun x => match x with
   | (y17, y18, y19, y20) => Qbl N d y19 (fun y22 => bif decide (d.Hours.length ≤ y19.length) then bif decide (d.Hours.length ≤ y20.length) then (Qcy N d.Tank d.Start d.Hours (y19.take d.Hours.length) (y20.take d.Hours.length) y17 y18).bind fun x27 => bif decide (d.Hours.length ≤ y19.length) then bif decide (d.Hours.length ≤ x27.length) then some (y19.take d.Hours.length, x27.take d.Hours.length, y22, 0) else none else none else none else none) N 0 0) N d.Start 0 (fun _ => 0) y15 (List.replicate d.Hours.length 0) (List.replicate d.Hours.length 0)) N d.Hours.length 0 (fun _ => 0) (by omega) (by omega) (fun j hj => by omega)
  rw [show ((0 : Nat) : Int) = 0 from rfl] at f1
  rw [f1]
  have hstart : DoneOK d.Hours d.Tank d.Start 0 d.Start (fun _ => 0) f (List.replicate d.Hours.length 0) (List.replicate d.Hours.length 0) := by
   refine ⟨by simp, by simp, fun i hi => ⟨0, rfl, Nat.zero_le _, fun s hs => ?_, fun e => ?_⟩, fun k _ => Qog _ _, fun k _ => Qog _ _, fun k hk => by omega, fun i j _ _ _ p q hpt => ?_, fun _ => rfl, fun t ht => by omega, fun _ k => Qog _ _, ⟨s0, s1⟩⟩
   ·have := f2 i hi s hs
    have hA := ((okAll hp i).1 s (List.mem_of_getElem? hs)).1
    rw [Qog, Qkc]
    omega
   ·rw [Qog]
    rw [List.eq_nil_of_length_eq_zero e.symm]
    rfl
   ·rw [Qog] at hpt
    exact absurd hpt (Qqg (okAll hp j))
  obtain ⟨hv, us, lf, pl, lv, g1, g2⟩ := Qwo hN hp hns (fun x => match x with
   | (y17, y18, y19, y20) => Qbl N d y19 (fun y22 => bif decide (d.Hours.length ≤ y19.length) then bif decide (d.Hours.length ≤ y20.length) then (Qcy N d.Tank d.Start d.Hours (y19.take d.Hours.length) (y20.take d.Hours.length) y17 y18).bind fun x27 => bif decide (d.Hours.length ≤ y19.length) then bif decide (d.Hours.length ≤ x27.length) then some (y19.take d.Hours.length, x27.take d.Hours.length, y22, 0) else none else none else none else none) N 0 0) N d.Hours.length 0 d.Start (fun _ => 0) f (List.replicate d.Hours.length 0) (List.replicate d.Hours.length 0) (by omega) (by omega) hstart
  rw [show ((0 : Nat) : Int) = 0 from rfl] at g1
  rw [g1]
  dsimp only
  have hfit : ∀ i, i < d.Hours.length → 0 ≤ gt pl i ∧ gt pl i ≤ Qdm (hrs d.Hours i) := fun i hi => by
   obtain ⟨u, hu⟩ := g2.pos i hi
   exact (Qye (okAll hp i) hu).2
  have hc := cost_sum hN hd g2.npl hfit (fun y22 => bif decide (d.Hours.length ≤ pl.length) then bif decide (d.Hours.length ≤ lv.length) then (Qcy N d.Tank d.Start d.Hours (pl.take d.Hours.length) (lv.take d.Hours.length) us lf).bind fun x27 => bif decide (d.Hours.length ≤ pl.length) then bif decide (d.Hours.length ≤ x27.length) then some (pl.take d.Hours.length, x27.take d.Hours.length, y22, 0) else none else none else none else none) N d.Hours.length 0 (by omega) (by omega) (Int.le_refl _) (by simp [sumN])
  rw [show ((0 : Nat) : Int) = 0 from rfl, show sumN (fun j => Qjl (hrs d.Hours j) (gt pl j)) 0 = 0 from rfl] at hc
  rw [hc]
  have d1 : decide (d.Hours.length ≤ pl.length) = true := decide_eq_true (by rw [g2.npl]; omega)
  have d2 : decide (d.Hours.length ≤ lv.length) = true := decide_eq_true (by rw [g2.nlv]; omega)
  have tk1 : pl.take d.Hours.length = pl := by rw [← g2.npl, List.take_length]
  have tk2 : lv.take d.Hours.length = lv := by rw [← g2.nlv, List.take_length]
  obtain ⟨pr, p1, p2, p3⟩ := Qyc (S := d.Start) (us := us) (lf := lf) hN hp h1 g2.npl g2.nlv hfit
  have d3 : decide (d.Hours.length ≤ pr.length) = true := decide_eq_true (by rw [p2]; omega)
  have tk3 : pr.take d.Hours.length = pr := by rw [← p2, List.take_length]
  simp only [d1, d2, tk1, tk2, cond_true, p1, Option.bind_some, d3, tk3]
  refine ⟨pl, pr, rfl, g2.npl, p2, ?_⟩
  have htank : ∀ i, i < d.Hours.length → 0 ≤ gt lv i ∧ gt lv i ≤ d.Tank ∧ gt lv i = lev d.Start (gt pl) (useF d.Hours) i := g2.tank
  refine found (L := gt lv) (fun i hi => hp.ok i hi) ⟨hfit, fun i hi => ?_⟩ (fun i hi => (htank i hi).2.2) (fun i j hi hj hcn p q => g2.inv i j (by omega) (by omega) hcn p q) p3 (fun i hi h0 j _ => ?_)
  ·obtain ⟨a, b, c⟩ := htank i hi
   rw [← c]
   exact ⟨a, b⟩
  ·have h3 := g2.haven i hi
   have h4 := (htank i (by omega)).2.2
   exact g2.hz (by omega) j
end Go.Proofs.Ytgdepcgbjjgnfaa
