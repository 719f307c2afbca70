/-
  Plain: the search for the cheapest hour, and the loop that gets an hour's lack. No conditions.
-/
import Derived.Test.YtgdepcgbjjgnfaaPFil
namespace Go.Proofs.Ytgdepcgbjjgnfaa
open Go.RowKit
structure DayP (hs : List GHour) (T : Int) : Prop where
  few : hs.length ≤ 24
  ok : ∀ i, i < hs.length → Qds (hrs hs i)
  whole : ∀ i, i < hs.length → 0 ≤ Qdm (hrs hs i) ∧ Qdm (hrs hs i) ≤ 6000000000
  six : ∀ i, i < hs.length → (hrs hs i).length ≤ 6
  use : ∀ i, i < hs.length → 0 ≤ useF hs i ∧ useF hs i ≤ 1000000000
  tank : 0 ≤ T ∧ T ≤ 1000000000
structure MostP (lv : List Int) (T lack lf : Int) (t i : Nat) (m : Int) : Prop where
  pos : 0 < m
  mlf : m ≤ lf
  mlack : m ≤ lack
  room : ∀ k, i ≤ k → k < t → m ≤ T - gt lv k
  why : m = lack ∨ m = lf ∨ ∃ k, i ≤ k ∧ k < t ∧ m = T - gt lv k
structure RoomP (lv : List Int) (T lack : Int) (t c : Nat) (r : Int) : Prop where
  pos : 0 < r
  mlack : r ≤ lack
  room : ∀ k, c ≤ k → k < t → r ≤ T - gt lv k
  why : r = lack ∨ ∃ k, c ≤ k ∧ k < t ∧ r = T - gt lv k
def Qw9 (hs : List GHour) (us lf : Nat → Int) (pl lv : List Int) (T lack : Int) (t c : Nat) (C : Nat → Prop) (b p m : Int) : Prop :=
  (b = -1 ∧ ∀ i, C i → ∀ q, ¬ FrL (hrs hs i) (gt pl i) q) ∨
  (∃ i u s, c ≤ i ∧ i ≤ t ∧ b = (i : Nat) ∧ p = s.Price ∧ PosO (hrs hs i) (us i) (lf i) (gt pl i) u ∧ (hrs hs i)[u]? = some s ∧ MostP lv T lack (lf i) t i m ∧ ∀ i', C i' → ∀ q, FrL (hrs hs i') (gt pl i') q → s.Price ≤ q)
theorem next_eq {N : Nat} {hs : List GHour} {T S g : Int} {t c : Nat} {us lf : Nat → Int} {pl lv : List Int} (hd : DayP hs T) (h : WorkOK hs T S t g us lf pl lv) (hc : c < hs.length) :
    ∃ u, PosO (hrs hs c) (us c) (lf c) (gt pl c) u ∧ ((u = (hrs hs c).length ∧ Qd8 N c T S hs hs.length hs.length us lf pl lv = some (⟨0, 0⟩, false) ∧ ∀ q, ¬ FrL (hrs hs c) (gt pl c) q) ∨
      ∃ s, (hrs hs c)[u]? = some s ∧ Qd8 N c T S hs hs.length hs.length us lf pl lv = some (⟨lf c, s.Price⟩, true) ∧ ∀ q, FrL (hrs hs c) (gt pl c) q → s.Price ≤ q) := by
  obtain ⟨u, hu⟩ := h.pos c hc
  have h24 := hd.few
  have hok := hd.ok c hc
  have hg : hs[c]? = some hs[c] := List.getElem?_eq_getElem hc
  generalize hs[c] = hr at hg
  obtain ⟨hr1, _⟩ := Qkd hg
  refine ⟨u, hu, ?_⟩
  have hpl := Qye hok hu
  have hle := hu.le
  unfold Qd8
  simp only [chk, Int.toNat_natCast, show decide (0 ≤ (c : Int)) = true from decide_eq_true (by omega), show decide (c < 24) = true from decide_eq_true (by omega), Bool.and_self, cond_true, Qcs hg, Option.bind_some, hu.us]
  rw [hr1] at hle hok hpl ⊢
  rcases Nat.eq_or_lt_of_le hle with e | hlt
  · refine Or.inl ⟨e, by simp [e], fun q ⟨b, s, h1, h2, _⟩ => ?_⟩
    have := hu.end_ (by rw [hr1]; exact e)
    have := Qqo hok (b + 1)
    rw [hr1] at *
    omega
  · have hs' : hr.Stairs[u]? = some hr.Stairs[u] := List.getElem?_eq_getElem hlt
    refine Or.inr ⟨hr.Stairs[u], hs', ?_, fun q hq => fr_ge hok hs' hpl.1 hq⟩
    simp only [Qpi, show decide (u = hr.Stairs.length) = false from decide_eq_false (by omega), cond_false, Qcs hs', Option.bind_some]
theorem Qya {N : Nat} {hs : List GHour} {T S g lack : Int} {t : Nat} {us lf : Nat → Int} {pl lv : List Int} (hd : DayP hs T) (ht : t < hs.length) (h : WorkOK hs T S t g us lf pl lv) (hlack : lack ≤ 1000000000) (K : Int × Int → Option ((Nat → Int) × (Nat → Int) × (List Int) × (List Int))) :
    ∀ (c : Nat) (fuel : Nat) (b p m r : Int), c < fuel → c ≤ t + 1 → RoomP lv T lack t c r → Qw9 hs us lf pl lv T lack t c (fun i => c ≤ i ∧ i ≤ t) b p m →
    ∃ b' p' m', Qaz N t T S hs hs.length hs.length us lf pl lv K fuel b p m r ((c : Int) - 1) = K (b', m') ∧ Qw9 hs us lf pl lv T lack t 0 (fun i => i ≤ t ∧ Qms (gt lv) T i t) b' p' m' := by
  have h24 := hd.few
  obtain ⟨T0, T1⟩ := hd.tank
  intro c
  induction c with
  | zero =>
    intro fuel b p m r hf _ _ hb
    obtain ⟨n, rfl⟩ : ∃ n, fuel = n + 1 := ⟨fuel - 1, by omega⟩
    refine ⟨b, p, m, ?_, ?_⟩
    · rw [Qaz, show decide ((((0 : Nat) : Int) - 1) ≥ 0) = false from decide_eq_false (by omega), cond_false]
    · rcases hb with ⟨h1, h2⟩ | ⟨i, u, s, h1, h2, h3, h4, h5, h6, h7, h8⟩
      · exact Or.inl ⟨h1, fun i hi => h2 i ⟨by omega, hi.1⟩⟩
      · exact Or.inr ⟨i, u, s, h1, h2, h3, h4, h5, h6, h7, fun i' hi' => h8 i' ⟨by omega, hi'.1⟩⟩
  | succ c ih =>
    intro fuel b p m r hf hct hr hb
    obtain ⟨n, rfl⟩ : ∃ n, fuel = n + 1 := ⟨fuel - 1, by omega⟩
    have hct' : c ≤ t := by omega
    have hcl : c < hs.length := by omega
    rw [Qaz, show (((c + 1 : Nat) : Int) - 1) = (c : Int) from by omega, show decide ((c : Int) ≥ 0) = true from decide_eq_true (by omega), cond_true]
    have e1 : w64 ((c : Int) - 1) = (c : Int) - 1 := Qco (by omega) (by omega)
    simp only [Qbr, e1]
    have hr0 := hr.pos
    have key : ∀ r', RoomP lv T lack t c r' → ∃ b' p' m', (bif (r' == 0) then K (b, m) else (Qd8 N c T S hs hs.length hs.length us lf pl lv).bind fun x39 =>
        bif x39.2 then
         bif (decide (b < 0)) then
          (some (if x39.1.Amount < r' then x39.1.Amount else r')).bind fun x42 =>
          Qaz N t T S hs hs.length hs.length us lf pl lv K n c x39.1.Price x42 r' ((c : Int) - 1)
         else
          bif (decide (x39.1.Price < p)) then
           (some (if x39.1.Amount < r' then x39.1.Amount else r')).bind fun x45 =>
           Qaz N t T S hs hs.length hs.length us lf pl lv K n c x39.1.Price x45 r' ((c : Int) - 1)
          else
           Qaz N t T S hs hs.length hs.length us lf pl lv K n b p m r' ((c : Int) - 1)
        else
         Qaz N t T S hs hs.length hs.length us lf pl lv K n b p m r' ((c : Int) - 1)) = K (b', m') ∧ Qw9 hs us lf pl lv T lack t 0 (fun i => i ≤ t ∧ Qms (gt lv) T i t) b' p' m' := by
      intro r' hr'
      have hr0' := hr'.pos
      rw [show (r' == 0) = false from beq_eq_false_iff_ne.2 (by omega), cond_false]
      have wide : Qw9 hs us lf pl lv T lack t (c + 1) (fun i => c + 1 ≤ i ∧ i ≤ t) b p m → (∀ q, FrL (hrs hs c) (gt pl c) q → ¬ b < 0 ∧ p ≤ q) → Qw9 hs us lf pl lv T lack t c (fun i => c ≤ i ∧ i ≤ t) b p m := fun hb hq => by
        rcases hb with ⟨h1, h2⟩ | ⟨i, u, s, h1, h2, h3, h4, h5, h6, h7, h8⟩
        · refine Or.inl ⟨h1, fun i hi q hf => ?_⟩
          rcases Nat.eq_or_lt_of_le hi.1 with rfl | hlt
          · have := (hq q hf).1
            omega
          · exact h2 i ⟨hlt, hi.2⟩ q hf
        · refine Or.inr ⟨i, u, s, by omega, h2, h3, h4, h5, h6, h7, fun i' hi' q hf => ?_⟩
          rcases Nat.eq_or_lt_of_le hi'.1 with rfl | hlt
          · have := (hq q hf).2
            omega
          · exact h8 i' ⟨hlt, hi'.2⟩ q hf
      obtain ⟨u, hu, ⟨hend, hn, hno⟩ | ⟨s, hs1, hn, hmin⟩⟩ := next_eq (N := N) hd h hcl
      · rw [hn]
        simp only [Option.bind_some, cond_false]
        exact ih n b p m r' (by omega) (by omega) hr' (wide hb fun q hq => absurd hq (hno q))
      · rw [hn]
        simp only [Option.bind_some, cond_true]
        have hmost : MostP lv T lack (lf c) t c (if lf c < r' then lf c else r') := by
          have := (hu.at_ s hs1).1
          have h1 := hr'.mlack
          refine ⟨by split <;> omega, by split <;> omega, by split <;> omega, fun k k1 k2 => ?_, ?_⟩
          · have := hr'.room k k1 k2
            split <;> omega
          · split
            · exact Or.inr (Or.inl rfl)
            · rcases hr'.why with e | ⟨k, k1, k2, k3⟩
              · exact Or.inl e
              · exact Or.inr (Or.inr ⟨k, k1, k2, k3⟩)
        have new : (∀ i, c + 1 ≤ i → i ≤ t → ∀ q, FrL (hrs hs i) (gt pl i) q → s.Price ≤ q) → Qw9 hs us lf pl lv T lack t c (fun i => c ≤ i ∧ i ≤ t) c s.Price (if lf c < r' then lf c else r') := fun hall => by
          refine Or.inr ⟨c, u, s, Nat.le_refl _, hct', rfl, rfl, hu, hs1, hmost, fun i' hi' q hf => ?_⟩
          rcases Nat.eq_or_lt_of_le hi'.1 with rfl | hlt
          · exact hmin q hf
          · exact hall i' hlt hi'.2 q hf
        rcases hb with ⟨h1, h2⟩ | ⟨i, u', s', h1, h2, h3, h4, h5, h6, h7, h8⟩
        · rw [show decide (b < 0) = true from decide_eq_true (by omega), cond_true]
          exact ih n _ _ _ r' (by omega) (by omega) hr' (new fun i a1 a2 q hq => absurd hq (h2 i ⟨a1, a2⟩ q))
        · rw [show decide (b < 0) = false from decide_eq_false (by omega), cond_false]
          by_cases hlt : s.Price < p
          · rw [show decide (s.Price < p) = true from decide_eq_true hlt, cond_true]
            exact ih n _ _ _ r' (by omega) (by omega) hr' (new fun i a1 a2 q hq => by have := h8 i ⟨a1, a2⟩ q hq; omega)
          · rw [show decide (s.Price < p) = false from decide_eq_false hlt, cond_false]
            exact ih n _ _ _ r' (by omega) (by omega) hr' (wide (Or.inr ⟨i, u', s', h1, h2, h3, h4, h5, h6, h7, h8⟩) fun q hq => ⟨by omega, by have := hmin q hq; omega⟩)
    rcases Nat.eq_or_lt_of_le hct' with rfl | hlt
    · rw [show decide ((c : Int) < (c : Int)) = false from decide_eq_false (by omega), cond_false]
      exact key r ⟨hr.pos, hr.mlack, fun k a1 a2 => by omega, by
        rcases hr.why with e | ⟨k, k1, k2, _⟩
        · exact Or.inl e
        · omega⟩
    · have hx := Qe0 (l := lv) (i := c) (by rw [h.nlv]; omega)
      obtain ⟨l0, l1, _⟩ := h.tank c hlt
      have e2 : w64 (T - gt lv c) = T - gt lv c := Qco (by omega) (by omega)
      simp only [show decide ((c : Int) < (t : Int)) = true from decide_eq_true (by omega), cond_true, chk, Int.toNat_natCast, show decide (0 ≤ (c : Int)) = true from decide_eq_true (by omega), show decide (c < hs.length) = true from decide_eq_true (by omega), Bool.and_self, hx, Option.bind_some, e2]
      by_cases hfull : T - gt lv c = 0
      · refine ⟨b, p, m, ?_, ?_⟩
        · rw [show ((if T - gt lv c < r then T - gt lv c else r) == 0) = true from by rw [beq_iff_eq]; split <;> omega, cond_true]
        · have hout : ∀ i, i ≤ t ∧ Qms (gt lv) T i t → c + 1 ≤ i ∧ i ≤ t := fun i ⟨a1, a2⟩ => by
            refine ⟨?_, a1⟩
            rcases Nat.lt_or_ge c i with h1 | h1
            · exact h1
            · have := a2 c h1 hlt
              omega
          rcases hb with ⟨h1, h2⟩ | ⟨i, u, s, h1, h2, h3, h4, h5, h6, h7, h8⟩
          · exact Or.inl ⟨h1, fun i hi => h2 i (hout i hi)⟩
          · exact Or.inr ⟨i, u, s, Nat.zero_le _, h2, h3, h4, h5, h6, h7, fun i' hi' => h8 i' (hout i' hi')⟩
      · refine key _ ⟨by split <;> omega, by have := hr.mlack; split <;> omega, fun k a1 a2 => ?_, ?_⟩
        · rcases Nat.eq_or_lt_of_le a1 with rfl | a3
          · split <;> omega
          · have := hr.room k a3 a2
            split <;> omega
        · by_cases hmin : T - gt lv c < r
          · exact Or.inr ⟨c, Nat.le_refl _, hlt, by rw [if_pos hmin]⟩
          · rw [if_neg hmin]
            rcases hr.why with e | ⟨k, k1, k2, k3⟩
            · exact Or.inl e
            · exact Or.inr ⟨k, by omega, k2, k3⟩
def yF (hs : List GHour) (T S : Int) : Nat → Int
  | 0 => S
  | i + 1 => min (yF hs T S i + Qdm (hrs hs i) - useF hs i) T
theorem Qob (L : Nat → Int) (T : Int) (t : Nat) : ∀ j, j ≤ t → Qms L T j t → ∃ i, i ≤ j ∧ Qms L T i t ∧ (i = 0 ∨ T ≤ L (i - 1))
  | 0, _, h => ⟨0, Nat.le_refl _, h, Or.inl rfl⟩
  | j + 1, hj, h => by
    by_cases hL : L j < T
    · obtain ⟨i, h1, h2, h3⟩ := Qob L T t j (by omega) (fun k a b => by
        rcases Nat.eq_or_lt_of_le a with rfl | hlt
        · exact hL
        · exact h k hlt b)
      exact ⟨i, by omega, h2, h3⟩
    · exact ⟨j + 1, Nat.le_refl _, h, Or.inr (by simpa using hL)⟩
theorem Qwp {hs : List GHour} {T S g : Int} {t : Nat} {us lf : Nat → Int} {pl lv : List Int} (hd : DayP hs T) (ht : t < hs.length) (h : WorkOK hs T S t g us lf pl lv) (hno : ∀ i, i ≤ t ∧ Qms (gt lv) T i t → ∀ q, ¬ FrL (hrs hs i) (gt pl i) q) : yF hs T S t + Qdm (hrs hs t) - useF hs t ≤ g := by
  obtain ⟨i0, h1, h2, h3⟩ := Qob (gt lv) T t t (Nat.le_refl _) (fun k a b => by omega)
  have hfull : ∀ i, i0 ≤ i → i ≤ t → gt pl i = Qdm (hrs hs i) := fun i a b => by
    obtain ⟨u, hu⟩ := h.pos i (by omega)
    rcases Nat.eq_or_lt_of_le hu.le with e | hlt
    · exact hu.end_ e
    · have hs' : (hrs hs i)[u]? = some (hrs hs i)[u] := List.getElem?_eq_getElem hlt
      obtain ⟨c1, c2, c3⟩ := hu.at_ _ hs'
      exact absurd ⟨u, _, hs', by rw [Qh8 hs']; omega, rfl⟩ (hno i ⟨b, fun k k1 k2 => h2 k (by omega) k2⟩ _)
  have key : ∀ d, i0 + d ≤ t → yF hs T S (i0 + d) + Qdm (hrs hs (i0 + d)) - useF hs (i0 + d) ≤ lev S (gt pl) (useF hs) (i0 + d) := by
    intro d
    induction d with
    | zero =>
      intro hd0
      have hf := hfull i0 (Nat.le_refl _) h1
      rcases h3 with rfl | h3
      · simp only [yF, lev, Nat.add_zero]; omega
      · cases i0 with
        | zero => simp only [yF, lev, Nat.add_zero]; omega
        | succ i0 =>
          have := (h.tank i0 (by omega)).2.2
          simp only [yF, lev, Nat.add_zero, Nat.add_sub_cancel] at *
          omega
    | succ d ih =>
      intro hd1
      have ih' := ih (by omega)
      have hf := hfull (i0 + (d + 1)) (by omega) hd1
      rw [show i0 + (d + 1) = (i0 + d) + 1 by omega] at hf ⊢
      simp only [yF, lev]
      omega
  have := key (t - i0) (by omega)
  rw [show i0 + (t - i0) = t by omega, h.gap] at this
  exact this
def muF (hs : List GHour) (T : Int) (t : Nat) (us : Nat → Int) (lv : List Int) : Nat → Int := fun i => ((hrs hs i).length : Int) - us i + if i < t ∧ gt lv i < T then 1 else 0
theorem Qn2 {f g : Nat → Int} : ∀ {n : Nat}, (∀ i, i < n → f i ≤ g i) → sumN f n ≤ sumN g n
  | 0, _ => Int.le_refl _
  | n + 1, h => by
    have := Qn2 (n := n) fun i hi => h i (by omega)
    have := h n (Nat.lt_succ_self n)
    simp only [sumN]
    omega
theorem Qqh {f g : Nat → Int} : ∀ {n k : Nat}, (∀ i, i < n → f i ≤ g i) → k < n → f k + 1 ≤ g k → sumN f n + 1 ≤ sumN g n
  | 0, _, _, h, _ => absurd h (Nat.not_lt_zero _)
  | n + 1, k, h, hk, h1 => by
    simp only [sumN]
    rcases Nat.eq_or_lt_of_le (Nat.le_of_lt_succ hk) with rfl | hlt
    · have := Qn2 (n := k) fun i hi => h i (by omega)
      omega
    · have := Qqh (n := n) (k := k) (fun i hi => h i (by omega)) hlt h1
      have := h n (Nat.lt_succ_self n)
      omega
theorem Qs6 {f : Nat → Int} : ∀ {n : Nat}, (∀ i, i < n → 0 ≤ f i) → 0 ≤ sumN f n
  | 0, _ => Int.le_refl _
  | n + 1, h => by
    have := Qs6 (n := n) fun i hi => h i (by omega)
    have := h n (Nat.lt_succ_self n)
    simp only [sumN]
    omega
theorem Qx8 {f : Nat → Int} {c : Int} : ∀ {n : Nat}, (∀ i, i < n → f i ≤ c) → sumN f n ≤ c * n
  | 0, _ => by simp [sumN]
  | n + 1, h => by
    have := Qx8 (n := n) (c := c) fun i hi => h i (by omega)
    have := h n (Nat.lt_succ_self n)
    simp only [sumN]
    rw [show ((n + 1 : Nat) : Int) = (n : Int) + 1 by omega, Int.mul_add]
    omega
theorem mu_nn {hs : List GHour} {T S g : Int} {t : Nat} {us lf : Nat → Int} {pl lv : List Int} (h : WorkOK hs T S t g us lf pl lv) : 0 ≤ sumN (muF hs T t us lv) hs.length :=
  Qs6 fun i hi => by
    obtain ⟨u, hu⟩ := h.pos i hi
    have := hu.us
    have := hu.le
    unfold muF
    split <;> omega
theorem mu_le {hs : List GHour} {T S g : Int} {t : Nat} {us lf : Nat → Int} {pl lv : List Int} (hd : DayP hs T) (h : WorkOK hs T S t g us lf pl lv) : sumN (muF hs T t us lv) hs.length ≤ 168 := by
  have h24 := hd.few
  have := Qx8 (f := muF hs T t us lv) (c := 7) (n := hs.length) fun i hi => by
    obtain ⟨u, hu⟩ := h.pos i hi
    have := hu.us
    have := hd.six i hi
    unfold muF
    split <;> omega
  omega
theorem Qyz {N : Nat} {hs : List GHour} {T S hv : Int} {t : Nat} (hN : 2000 ≤ N) (hd : DayP hs T) (ht : t < hs.length) (hns : 0 ≤ yF hs T S t + Qdm (hrs hs t) - useF hs t) :
    ∀ (n : Nat) (lack : Int) (us lf : Nat → Int) (pl lv : List Int), sumN (muF hs T t us lv) hs.length < n → WorkOK hs T S t (hv - lack) us lf pl lv → 0 ≤ lack → lack ≤ 1000000000 → (0 < lack → hv = 0) →
    ∃ us' lf' pl' lv', Qbm N t T S hs hs.length hs.length n lack us lf pl lv = some (us', lf', pl', lv') ∧ WorkOK hs T S t hv us' lf' pl' lv' ∧ (lack = 0 → pl' = pl) := by
  have h24 := hd.few
  obtain ⟨T0, T1⟩ := hd.tank
  intro n
  induction n with
  | zero => intro lack us lf pl lv hn h; have := mu_nn h; omega
  | succ n ih =>
    intro lack us lf pl lv hn h l0 l1 hz
    rw [Qbm]
    by_cases hpos : lack > 0
    · rw [show decide (lack > 0) = true from decide_eq_true hpos, cond_true]
      simp only [Qbr]
      obtain ⟨b, p, m, e, hb⟩ := Qya (N := N) hd ht h l1 (fun x => match x with
        | (y17, y18) => bif (decide (y17 < 0)) then some (us, lf, pl, lv) else (Qep N y17 t y18 T S hs hs.length hs.length us lf pl lv).bind fun x22 => Qbm N t T S hs hs.length hs.length n (w64 (lack - y18)) x22.1 x22.2.1 x22.2.2.1 x22.2.2.2) (t + 1) N (-1) 0 0 lack (by omega) (Nat.le_refl _) ⟨hpos, Int.le_refl _, fun k a b => by omega, Or.inl rfl⟩ (Or.inl ⟨rfl, fun i hi => by omega⟩)
      rw [show (((t + 1 : Nat) : Int) - 1) = (t : Int) by omega] at e
      rw [e]
      rcases hb with ⟨h1, h2⟩ | ⟨i, u, s, _, h2, h3, h4, h5, h6, h7, h8⟩
      · have := Qwp hd ht h h2
        have := hz hpos
        omega
      · subst h3
        dsimp only
        rw [show decide (((i : Nat) : Int) < 0) = false from decide_eq_false (by omega), cond_false]
        obtain ⟨us', lf', pl', lv', k1, k2, k3, k4, k5⟩ := take_eq hN h24 ht hd.ok (fun i hi => (hd.whole i hi).2) hd.six T1 h h2 h5 h6 h7.pos h7.mlf h7.room (fun i' a1 a2 => h8 i' ⟨a1, a2⟩)
        have m0 := h7.pos
        have m1 := h7.mlack
        rw [k1, Option.bind_some, Qco (by omega) (by omega)]
        dsimp only
        have hmono : ∀ j, j < hs.length → muF hs T t us' lv' j ≤ muF hs T t us lv j := fun j hj => by
          have := k3 j
          unfold muF
          rw [k5]
          unfold addR
          split <;> split <;> omega
        rw [show hv - lack + m = hv - (lack - m) by omega] at k2
        rcases h7.why with e1 | e1 | ⟨k, b1, b2, b3⟩
        · subst e1
          cases n with
          | zero =>
            have hle := Qn2 hmono
            have hnn := mu_nn k2
            have hnn0 := mu_nn h
            have hge : 1 ≤ muF hs T t us lv i := by
              obtain ⟨u', hu'⟩ := h.pos i (by omega)
              have := (List.getElem?_eq_some_iff.1 h6).1
              have := h5.us
              unfold muF
              split <;> omega
            have := Qqh (f := fun j => if j = i then 0 else muF hs T t us lv j) (g := muF hs T t us lv) (n := hs.length) (k := i) (fun j hj => by
              split
              · rename_i e; subst e; omega
              · exact Int.le_refl _) (by omega) (by rw [if_pos rfl]; omega)
            have : 0 ≤ sumN (fun j => if j = i then 0 else muF hs T t us lv j) hs.length := Qs6 fun j hj => by
              split
              · exact Int.le_refl _
              · obtain ⟨u', hu'⟩ := h.pos j hj
                have := hu'.us
                have := hu'.le
                unfold muF
                split <;> omega
            omega
          | succ n =>
            rw [Qbm, show decide (m - m > 0) = false from decide_eq_false (by omega), cond_false]
            rw [show hv - (m - m) = hv by omega] at k2
            exact ⟨us', lf', pl', lv', rfl, k2, fun e => by omega⟩
        · obtain ⟨a1, a2, a3, a4, a5, a6, _⟩ := ih (lack - m) us' lf' pl' lv' (by
            have := Qqh (k := i) hmono (by omega) (by
              have := k4 e1
              have hm' := k3 i
              unfold muF
              rw [k5]
              unfold addR
              split <;> split <;> omega)
            omega) k2 (by omega) (by omega) (fun _ => hz hpos)
          exact ⟨a1, a2, a3, a4, a5, a6, fun e => by omega⟩
        · obtain ⟨a1, a2, a3, a4, a5, a6, _⟩ := ih (lack - m) us' lf' pl' lv' (by
            have := Qqh (k := k) hmono (by omega) (by
              have hm' := k3 k
              unfold muF
              rw [k5]
              unfold addR
              rw [if_pos (c := i ≤ k ∧ k < t) ⟨b1, b2⟩, if_neg (by omega), if_pos (by omega)]
              omega)
            omega) k2 (by omega) (by omega) (fun _ => hz hpos)
          exact ⟨a1, a2, a3, a4, a5, a6, fun e => by omega⟩
    · rw [show decide (lack > 0) = false from decide_eq_false hpos, cond_false]
      obtain rfl : lack = 0 := by omega
      rw [show hv - 0 = hv by omega] at h
      exact ⟨us, lf, pl, lv, rfl, h, fun _ => rfl⟩
theorem fill_eq {N : Nat} {hs : List GHour} {T S hv lack : Int} {t : Nat} {us lf : Nat → Int} {pl lv : List Int} (hN : 2000 ≤ N) (hd : DayP hs T) (ht : t < hs.length) (hns : 0 ≤ yF hs T S t + Qdm (hrs hs t) - useF hs t) (h : WorkOK hs T S t (hv - lack) us lf pl lv) (l0 : 0 ≤ lack) (l1 : lack ≤ 1000000000) (hz : 0 < lack → hv = 0) :
    ∃ us' lf' pl' lv', Qeq N t lack T S hs hs.length hs.length us lf pl lv = some (us', lf', pl', lv') ∧ WorkOK hs T S t hv us' lf' pl' lv' ∧ (lack = 0 → pl' = pl) := by
  unfold Qeq
  have := mu_le hd h
  exact Qyz hN hd ht hns N lack us lf pl lv (by omega) h l0 l1 hz
end Go.Proofs.Ytgdepcgbjjgnfaa
