/-
  Plain laws of Go's stable sort: merging two runs in place, and the whole. No conditions.
-/
import Derived.Test.YtgdepcgbjjgnfaaPSor10
namespace Go.Proofs.Ytgdepcgbjjgnfaa
open Go.RowKit
variable {t : List GNode}
section
variable {N len : Nat}
def Anti (p : Nat → Bool) (lo hi : Nat) : Prop := ∀ i j, lo ≤ i → i < j → j < hi → p j = true → p i = true
theorem Qq7 {x y : Nat} (h : x < y) : x ≤ (x + y) / 2 ∧ (x + y) / 2 < y := by omega
theorem look5 (a : Nat) (D : List Int) (p : Nat → Bool) (lo hi : Nat) (hp : Anti p lo hi) (hhi : hi ≤ len) (hlen : len ≤ 1000) (hal : a < len) (hev : ∀ c, lo ≤ c → c < hi → ∃ u v, D[c]? = some u ∧ D[a]? = some v ∧ (OkI t u) ∧ (OkI t v) ∧ decide (keyP t u < keyP t v) = p c) :
    ∀ (n x y : Nat), y - x < n → x ≤ y → lo ≤ x → y ≤ hi → (∀ i, lo ≤ i → i < x → p i = true) → (∀ i, y ≤ i → i < hi → p i = false) →
    ∃ r, x ≤ r ∧ r ≤ y ∧ (∀ i, lo ≤ i → i < r → p i = true) ∧ (∀ i, r ≤ i → i < hi → p i = false) ∧ ∀ K : Int → Option (List Int), slices_symMergeCmpFunc_intX_1_loop5 N len a D t K n x y = K r := by
  intro n
  induction n with
  | zero => intro x y h; exact absurd h (Nat.not_lt_zero _)
  | succ n ih =>
    intro x y hn hxy h1 h2 h3 h4
    have ex := fun K : Int → Option (List Int) => slices_symMergeCmpFunc_intX_1_loop5.eq_2 N len a D t K x y n
    rcases Nat.eq_or_lt_of_le hxy with rfl | hlt
    · refine ⟨x, Nat.le_refl _, Nat.le_refl _, h3, h4, fun K => ?_⟩
      rw [ex, show decide ((x : Int) < (x : Int)) = false from decide_eq_false (by omega)]
      rfl
    · have hb := Qq7 hlt
      obtain ⟨u, v, g1, g2, g3, g4, g5⟩ := hev ((x + y) / 2) (by omega) (by omega)
      have e1 : w64 ((((x + y) / 2 : Nat) : Int) + 1) = (((x + y) / 2 + 1 : Nat) : Int) := Qb2 (by omega) (by omega)
      have d1 : decide (0 ≤ (((x + y) / 2 : Nat) : Int)) = true := decide_eq_true (by omega)
      have d2 : decide ((x + y) / 2 < len) = true := decide_eq_true (by omega)
      have d3 : decide (0 ≤ (a : Int)) = true := decide_eq_true (by omega)
      have d4 : decide (a < len) = true := decide_eq_true hal
      rw [show decide ((x : Int) < (y : Int)) = true from decide_eq_true (by omega)] at ex
      simp only [cond_true, half x y (by omega), Option.bind_some, chk, Int.toNat_natCast, d1, d2, d3, d4, Bool.and_self, g1, g2, Qs9 g3 g4, e1] at ex
      cases hpc : p ((x + y) / 2) with
      | true =>
        rw [hpc] at g5
        rw [show decide (keyP t u - keyP t v < 0) = true from decide_eq_true (by have := of_decide_eq_true g5; omega)] at ex
        obtain ⟨r, r1, r2, r3, r4, r5⟩ := ih ((x + y) / 2 + 1) y (by omega) (by omega) (by omega) h2 (fun i i1 i2 => by
          rcases Nat.eq_or_lt_of_le (Nat.le_of_lt_succ i2) with rfl | hlt'
          · exact hpc
          · exact hp i _ i1 hlt' (by omega) hpc) h4
        exact ⟨r, by omega, r2, r3, r4, fun K => (ex K).trans (r5 K)⟩
      | false =>
        rw [hpc] at g5
        rw [show decide (keyP t u - keyP t v < 0) = false from decide_eq_false (by have := of_decide_eq_false g5; omega)] at ex
        obtain ⟨r, r1, r2, r3, r4, r5⟩ := ih x ((x + y) / 2) (by omega) (by omega) h1 (by omega) h3 (fun i i1 i2 => by
          rcases Nat.eq_or_lt_of_le i1 with rfl | hlt'
          · exact hpc
          · cases hpi : p i with
            | false => rfl
            | true => rw [hp _ i (by omega) hlt' i2 hpi] at hpc; cases hpc)
        exact ⟨r, r1, by omega, r3, r4, fun K => (ex K).trans (r5 K)⟩
theorem look3 (m : Nat) (D : List Int) (p : Nat → Bool) (lo hi : Nat) (hp : Anti p lo hi) (hhi : hi ≤ len) (hlen : len ≤ 1000) (hal : m < len) (hev : ∀ c, lo ≤ c → c < hi → ∃ u v, D[m]? = some u ∧ D[c]? = some v ∧ (OkI t u) ∧ (OkI t v) ∧ (!decide (keyP t u < keyP t v)) = p c) :
    ∀ (n x y : Nat), y - x < n → x ≤ y → lo ≤ x → y ≤ hi → (∀ i, lo ≤ i → i < x → p i = true) → (∀ i, y ≤ i → i < hi → p i = false) →
    ∃ r, x ≤ r ∧ r ≤ y ∧ (∀ i, lo ≤ i → i < r → p i = true) ∧ (∀ i, r ≤ i → i < hi → p i = false) ∧ ∀ K : Int → Option (List Int), slices_symMergeCmpFunc_intX_1_loop3 N len m D t K n x y = K r := by
  intro n
  induction n with
  | zero => intro x y h; exact absurd h (Nat.not_lt_zero _)
  | succ n ih =>
    intro x y hn hxy h1 h2 h3 h4
    have ex := fun K : Int → Option (List Int) => slices_symMergeCmpFunc_intX_1_loop3.eq_2 N len m D t K x y n
    rcases Nat.eq_or_lt_of_le hxy with rfl | hlt
    · refine ⟨x, Nat.le_refl _, Nat.le_refl _, h3, h4, fun K => ?_⟩
      rw [ex, show decide ((x : Int) < (x : Int)) = false from decide_eq_false (by omega)]
      rfl
    · have hb := Qq7 hlt
      obtain ⟨u, v, g1, g2, g3, g4, g5⟩ := hev ((x + y) / 2) (by omega) (by omega)
      have e1 : w64 ((((x + y) / 2 : Nat) : Int) + 1) = (((x + y) / 2 + 1 : Nat) : Int) := Qb2 (by omega) (by omega)
      have d1 : decide (0 ≤ (((x + y) / 2 : Nat) : Int)) = true := decide_eq_true (by omega)
      have d2 : decide ((x + y) / 2 < len) = true := decide_eq_true (by omega)
      have d3 : decide (0 ≤ (m : Int)) = true := decide_eq_true (by omega)
      have d4 : decide (m < len) = true := decide_eq_true hal
      rw [show decide ((x : Int) < (y : Int)) = true from decide_eq_true (by omega)] at ex
      simp only [cond_true, half x y (by omega), Option.bind_some, chk, Int.toNat_natCast, d1, d2, d3, d4, Bool.and_self, g1, g2, Qs9 g3 g4, e1] at ex
      cases hpc : p ((x + y) / 2) with
      | true =>
        rw [hpc, Bool.not_eq_true'] at g5
        rw [show decide (keyP t u - keyP t v < 0) = false from decide_eq_false (by have := of_decide_eq_false g5; omega)] at ex
        obtain ⟨r, r1, r2, r3, r4, r5⟩ := ih ((x + y) / 2 + 1) y (by omega) (by omega) (by omega) h2 (fun i i1 i2 => by
          rcases Nat.eq_or_lt_of_le (Nat.le_of_lt_succ i2) with rfl | hlt'
          · exact hpc
          · exact hp i _ i1 hlt' (by omega) hpc) h4
        exact ⟨r, by omega, r2, r3, r4, fun K => (ex K).trans (r5 K)⟩
      | false =>
        rw [hpc, Bool.not_eq_false'] at g5
        rw [show decide (keyP t u - keyP t v < 0) = true from decide_eq_true (by have := of_decide_eq_true g5; omega)] at ex
        obtain ⟨r, r1, r2, r3, r4, r5⟩ := ih x ((x + y) / 2) (by omega) (by omega) h1 (by omega) h3 (fun i i1 i2 => by
          rcases Nat.eq_or_lt_of_le i1 with rfl | hlt'
          · exact hpc
          · cases hpi : p i with
            | false => rfl
            | true => rw [hp _ i (by omega) hlt' i2 hpi] at hpc; cases hpc)
        exact ⟨r, r1, by omega, r3, r4, fun K => (ex K).trans (r5 K)⟩
theorem look1 (q : Nat) (D : List Int) (p : Nat → Bool) (lo hi : Nat) (hp : Anti p lo hi) (hhi : hi ≤ len) (hlen : len ≤ 1000) (hq : ∀ c, lo ≤ c → c < hi → c ≤ q ∧ q - c < len) (hev : ∀ c, lo ≤ c → c < hi → ∃ u v, D[q - c]? = some u ∧ D[c]? = some v ∧ (OkI t u) ∧ (OkI t v) ∧ (!decide (keyP t u < keyP t v)) = p c) :
    ∀ (n x y : Nat), y - x < n → x ≤ y → lo ≤ x → y ≤ hi → (∀ i, lo ≤ i → i < x → p i = true) → (∀ i, y ≤ i → i < hi → p i = false) →
    ∃ r, x ≤ r ∧ r ≤ y ∧ (∀ i, lo ≤ i → i < r → p i = true) ∧ (∀ i, r ≤ i → i < hi → p i = false) ∧ ∀ K : Int → Option (List Int), slices_symMergeCmpFunc_intX_1_loop1 N len D t q K n x y = K r := by
  intro n
  induction n with
  | zero => intro x y h; exact absurd h (Nat.not_lt_zero _)
  | succ n ih =>
    intro x y hn hxy h1 h2 h3 h4
    have ex := fun K : Int → Option (List Int) => slices_symMergeCmpFunc_intX_1_loop1.eq_2 N len D t q K x y n
    rcases Nat.eq_or_lt_of_le hxy with rfl | hlt
    · refine ⟨x, Nat.le_refl _, Nat.le_refl _, h3, h4, fun K => ?_⟩
      rw [ex, show decide ((x : Int) < (x : Int)) = false from decide_eq_false (by omega)]
      rfl
    · have hb := Qq7 hlt
      obtain ⟨u, v, g1, g2, g3, g4, g5⟩ := hev ((x + y) / 2) (by omega) (by omega)
      obtain ⟨q1, q2⟩ := hq ((x + y) / 2) (by omega) (by omega)
      have e1 : w64 ((((x + y) / 2 : Nat) : Int) + 1) = (((x + y) / 2 + 1 : Nat) : Int) := Qb2 (by omega) (by omega)
      have e2 : w64 ((q : Int) - (((x + y) / 2 : Nat) : Int)) = ((q - (x + y) / 2 : Nat) : Int) := by rw [Qb2 (by omega) (by omega)]; omega
      have d1 : decide (0 ≤ (((x + y) / 2 : Nat) : Int)) = true := decide_eq_true (by omega)
      have d2 : decide ((x + y) / 2 < len) = true := decide_eq_true (by omega)
      have d3 : decide (0 ≤ ((q - (x + y) / 2 : Nat) : Int)) = true := decide_eq_true (by omega)
      have d4 : decide (q - (x + y) / 2 < len) = true := decide_eq_true q2
      rw [show decide ((x : Int) < (y : Int)) = true from decide_eq_true (by omega)] at ex
      simp only [cond_true, half x y (by omega), Option.bind_some, e2, chk, Int.toNat_natCast, d1, d2, d3, d4, Bool.and_self, g1, g2, Qs9 g3 g4, e1] at ex
      cases hpc : p ((x + y) / 2) with
      | true =>
        rw [hpc, Bool.not_eq_true'] at g5
        rw [show decide (keyP t u - keyP t v < 0) = false from decide_eq_false (by have := of_decide_eq_false g5; omega)] at ex
        obtain ⟨r, r1, r2, r3, r4, r5⟩ := ih ((x + y) / 2 + 1) y (by omega) (by omega) (by omega) h2 (fun i i1 i2 => by
          rcases Nat.eq_or_lt_of_le (Nat.le_of_lt_succ i2) with rfl | hlt'
          · exact hpc
          · exact hp i _ i1 hlt' (by omega) hpc) h4
        exact ⟨r, by omega, r2, r3, r4, fun K => (ex K).trans (r5 K)⟩
      | false =>
        rw [hpc, Bool.not_eq_false'] at g5
        rw [show decide (keyP t u - keyP t v < 0) = true from decide_eq_true (by have := of_decide_eq_true g5; omega)] at ex
        obtain ⟨r, r1, r2, r3, r4, r5⟩ := ih x ((x + y) / 2) (by omega) (by omega) h1 (by omega) h3 (fun i i1 i2 => by
          rcases Nat.eq_or_lt_of_le i1 with rfl | hlt'
          · exact hpc
          · cases hpi : p i with
            | false => rfl
            | true => rw [hp _ i (by omega) hlt' i2 hpi] at hpc; cases hpc)
        exact ⟨r, r1, by omega, r3, r4, fun K => (ex K).trans (r5 K)⟩
theorem mov_up (hlen : len ≤ 1000) (K : List Int → Option (List Int)) (x : Int) (i : Nat) : ∀ (n : Nat) (A R B : List Int), R.length < n → A.length + R.length + 1 = i → A.length + 1 + R.length + B.length = len →
    Qa7 N len i K n (A.length : Int) (A ++ x :: (R ++ B)) = K (A ++ R ++ x :: B) := by
  intro n
  induction n with
  | zero => intro A R B h; exact absurd h (Nat.not_lt_zero _)
  | succ n ih =>
    intro A R B hn hi hl
    rw [Qa7]
    have e0 : w64 ((i : Int) - 1) = ((i - 1 : Nat) : Int) := by rw [Qb2 (by omega) (by omega)]; omega
    rw [e0]
    cases R with
    | nil =>
      rw [show decide ((A.length : Int) < ((i - 1 : Nat) : Int)) = false from decide_eq_false (by simp at hi; omega)]
      simp
    | cons y R =>
      simp only [List.length_cons] at hn hi hl
      have e1 : w64 ((A.length : Int) + 1) = ((A.length + 1 : Nat) : Int) := Qb2 (by omega) (by omega)
      have d1 : decide (0 ≤ ((A.length + 1 : Nat) : Int)) = true := decide_eq_true (by omega)
      have d2 : decide (A.length + 1 < len) = true := decide_eq_true (by omega)
      have d3 : decide (0 ≤ (A.length : Int)) = true := decide_eq_true (by omega)
      have d4 : decide (A.length < len) = true := decide_eq_true (by omega)
      rw [show decide ((A.length : Int) < ((i - 1 : Nat) : Int)) = true from decide_eq_true (by omega)]
      simp only [cond_true, e1, chk, Int.toNat_natCast, d1, d2, d3, d4, Bool.and_self, List.cons_append, at0, at1, Option.bind_some, set0, set1]
      have ih' := ih (A ++ [y]) R B (by omega) (by simp; omega) (by simp; omega)
      have e2 : (((A ++ [y]).length : Nat) : Int) = ((A.length + 1 : Nat) : Int) := by simp
      rw [e2] at ih'
      simpa using ih'
theorem Qyc (hlen : len ≤ 1000) (K : List Int → Option (List Int)) (x : Int) (i : Nat) : ∀ (n : Nat) (A R B : List Int), R.length < n → A.length = i → A.length + 1 + R.length + B.length = len →
    Qa8 N len i K n ((A.length + R.length : Nat) : Int) (A ++ R ++ x :: B) = K (A ++ x :: (R ++ B)) := by
  intro n
  induction n with
  | zero => intro A R B h; exact absurd h (Nat.not_lt_zero _)
  | succ n ih =>
    intro A R B hn hi hl
    rw [Qa8]
    rcases List.eq_nil_or_concat R with rfl | ⟨R', y, rfl⟩
    · rw [show decide (((A.length + [].length : Nat) : Int) > (i : Int)) = false from decide_eq_false (by simp; omega)]
      simp
    · rw [List.concat_eq_append] at *
      have hl' : (R' ++ [y]).length = R'.length + 1 := by simp
      rw [hl'] at hn hl
      have e0 : ((A.length + (R' ++ [y]).length : Nat) : Int) = (((A ++ R').length + 1 : Nat) : Int) := by simp; omega
      have hAP : (A ++ R').length = A.length + R'.length := by simp
      have e1 : w64 ((((A ++ R').length + 1 : Nat) : Int) - 1) = (((A ++ R').length : Nat) : Int) := by
        rw [Qb2 (by omega) (by omega)]; omega
      have eD : A ++ (R' ++ [y]) ++ x :: B = (A ++ R') ++ y :: x :: B := by simp
      rw [e0, eD, show decide ((((A ++ R').length + 1 : Nat) : Int) > (i : Int)) = true from decide_eq_true (by omega), e1]
      have d1 : decide (0 ≤ (((A ++ R').length + 1 : Nat) : Int)) = true := decide_eq_true (by omega)
      have d2 : decide ((A ++ R').length + 1 < len) = true := decide_eq_true (by omega)
      have d3 : decide (0 ≤ (((A ++ R').length : Nat) : Int)) = true := decide_eq_true (by omega)
      have d4 : decide ((A ++ R').length < len) = true := decide_eq_true (by omega)
      simp only [cond_true, chk, Int.toNat_natCast, d1, d2, d3, d4, Bool.and_self, at0, at1, Option.bind_some, set0, set1]
      have ih' := ih A R' (y :: B) (by omega) hi (by simp; omega)
      rw [← hAP] at ih'
      simpa using ih'
theorem idx {D A S B : List Int} {a : Nat} (h : D = A ++ S ++ B) (ha : A.length = a) {c : Nat} (h1 : a ≤ c) (h2 : c < a + S.length) : ∃ u, D[c]? = some u ∧ u ∈ S ∧ S[c - a]? = some u := by
  have hlt : c - a < S.length := by omega
  refine ⟨S[c - a], ?_, List.getElem_mem hlt, List.getElem?_eq_getElem hlt⟩
  subst h
  rw [List.append_assoc, List.getElem?_append_right (by omega), List.getElem?_append_left (by omega), ha, List.getElem?_eq_getElem hlt]
theorem Qk5 {S : List Int} (h : Srt t S) {i j : Nat} {u v : Int} (hij : i ≤ j) (hi : S[i]? = some u) (hj : S[j]? = some v) : keyP t u ≤ keyP t v := by
  rcases Nat.eq_or_lt_of_le hij with rfl | hlt
  · rw [hi] at hj; cases hj; exact Int.le_refl _
  · obtain ⟨hi1, hi2⟩ := List.getElem?_eq_some_iff.1 hi
    obtain ⟨hj1, hj2⟩ := List.getElem?_eq_some_iff.1 hj
    have := List.pairwise_iff_getElem.1 h i j hi1 hj1 hlt
    rw [hi2, hj2] at this
    exact this
theorem cut {α : Type} (S : List α) (k : Nat) (h : k ≤ S.length) : ∃ S1 S2, S = S1 ++ S2 ∧ S1.length = k := ⟨S.take k, S.drop k, (List.take_append_drop ..).symm, by simp; omega⟩
theorem Qk6 {S : List Int} {x : Int} (h : x ∈ S) : ∃ i, i < S.length ∧ S[i]? = some x := by
  obtain ⟨i, hi⟩ := List.getElem?_of_mem h
  exact ⟨i, (List.getElem?_eq_some_iff.1 hi).1, hi⟩
theorem Qgi {A B : List Int} (h : Srt t (A ++ B)) : Srt t A := (List.pairwise_append.1 h).1
theorem Qgh {A B : List Int} (h : Srt t (A ++ B)) : Srt t B := (List.pairwise_append.1 h).2.1
theorem Qkb {u v : Int} (h : (!decide (keyP t u < keyP t v)) = true) : keyP t v ≤ keyP t u := by
  simp only [Bool.not_eq_true', decide_eq_false_iff_not] at h
  omega
theorem Qpp {u v : Int} (h : (!decide (keyP t u < keyP t v)) = false) : keyP t u < keyP t v := by
  simpa using h
theorem seek (hlen : len ≤ 1000) (hN : len < N) {A L R B : List Int} {a m b : Nat} (ha : A.length = a) (hm : a + L.length = m) (hb : m + R.length = b) (hl : b + B.length = len) (hL : Srt t L) (hR : Srt t R) (sL : Qfo t L) (sR : Qfo t R) (hL0 : 0 < L.length) (hR0 : 0 < R.length) :
    ∃ s, a ≤ s ∧ s ≤ m ∧ s ≤ (a + b) / 2 ∧ (a + b) / 2 + m ≤ b + s ∧
      (∀ u v, a < s → s - 1 < m → (a + b) / 2 + m - s < b → L[s - 1 - a]? = some u → R[(a + b) / 2 - s]? = some v → keyP t u ≤ keyP t v) ∧
      (∀ u v, s < m → s < (a + b) / 2 → L[s - a]? = some u → R[(a + b) / 2 - s - 1]? = some v → keyP t v < keyP t u) ∧
      ∀ K : Int → Option (List Int), (bif decide ((m : Int) > (((a + b) / 2 : Nat) : Int)) then (some (w64 ((w64 ((((a + b) / 2 : Nat) : Int) + (m : Int))) - (b : Int)))).bind (fun x50 => slices_symMergeCmpFunc_intX_1_loop1 N len (A ++ L ++ R ++ B) t (((a + b) / 2 + m - 1 : Nat) : Int) K N x50 (((a + b) / 2 : Nat) : Int))
        else slices_symMergeCmpFunc_intX_1_loop1 N len (A ++ L ++ R ++ B) t (((a + b) / 2 + m - 1 : Nat) : Int) K N (a : Int) (m : Int)) = K s := by
  generalize hmid : (a + b) / 2 = mid
  have hD1 : A ++ L ++ R ++ B = A ++ L ++ (R ++ B) := by simp
  have hD2 : A ++ L ++ R ++ B = (A ++ L) ++ R ++ B := rfl
  have hAL : (A ++ L).length = m := by simp; omega
  have gL := fun c (h1 : a ≤ c) (h2 : c < m) => idx hD1 ha h1 (by omega : c < a + L.length)
  have gR := fun c (h1 : m ≤ c) (h2 : c < b) => idx hD2 hAL h1 (by omega : c < m + R.length)
  let p : Nat → Bool := fun c => match (A ++ L ++ R ++ B)[mid + m - 1 - c]?, (A ++ L ++ R ++ B)[c]? with | some u, some v => !decide (keyP t u < keyP t v) | _, _ => false
  have hpe : ∀ c u v, (A ++ L ++ R ++ B)[mid + m - 1 - c]? = some u → (A ++ L ++ R ++ B)[c]? = some v → p c = !decide (keyP t u < keyP t v) := fun c u v h1 h2 => by
    show (match (A ++ L ++ R ++ B)[mid + m - 1 - c]?, (A ++ L ++ R ++ B)[c]? with | some u, some v => !decide (keyP t u < keyP t v) | _, _ => false) = _
    rw [h1, h2]
  have main : ∀ s0 r0 : Nat, a ≤ s0 → s0 ≤ r0 → r0 ≤ m → r0 ≤ mid → (s0 = a ∨ s0 + b = mid + m) → (r0 = m ∨ r0 = mid) → mid + m ≤ b + s0 →
      ∃ s, s0 ≤ s ∧ s ≤ r0 ∧
      (∀ u v, a < s → s - 1 < m → mid + m - s < b → L[s - 1 - a]? = some u → R[mid - s]? = some v → keyP t u ≤ keyP t v) ∧
      (∀ u v, s < m → s < mid → L[s - a]? = some u → R[mid - s - 1]? = some v → keyP t v < keyP t u) ∧
      ∀ K : Int → Option (List Int), slices_symMergeCmpFunc_intX_1_loop1 N len (A ++ L ++ R ++ B) t ((mid + m - 1 : Nat) : Int) K N (s0 : Int) (r0 : Int) = K s := by
    intro s0 r0 h1 h2 h3 h4 h5 h6 h7
    have ev : ∀ c, s0 ≤ c → c < r0 → ∃ u v, (A ++ L ++ R ++ B)[mid + m - 1 - c]? = some u ∧ (A ++ L ++ R ++ B)[c]? = some v ∧ u ∈ R ∧ v ∈ L ∧ R[mid - 1 - c]? = some u ∧ L[c - a]? = some v := fun c c1 c2 => by
      obtain ⟨v, v1, v2, v3⟩ := gL c (by omega) (by omega)
      obtain ⟨u, u1, u2, u3⟩ := gR (mid + m - 1 - c) (by omega) (by omega)
      rw [show mid + m - 1 - c - m = mid - 1 - c from by omega] at u3
      exact ⟨u, v, u1, v1, u2, v2, u3, v3⟩
    have anti : Anti p s0 r0 := fun i j i1 i2 i3 hj => by
      obtain ⟨u, v, u1, v1, _, _, u3, v3⟩ := ev i i1 (by omega)
      obtain ⟨u', v', u1', v1', _, _, u3', v3'⟩ := ev j (by omega) i3
      rw [hpe j u' v' u1' v1'] at hj
      rw [hpe i u v u1 v1]
      have e1 := Qkb hj
      have e2 := Qk5 hL (by omega : i - a ≤ j - a) v3 v3'
      have e3 := Qk5 hR (by omega : mid - 1 - j ≤ mid - 1 - i) u3' u3
      simp only [Bool.not_eq_true', decide_eq_false_iff_not]
      omega
    obtain ⟨s, s1, s2, s3, s4, s5⟩ := look1 (N := N) (len := len) (mid + m - 1) (A ++ L ++ R ++ B) p s0 r0 anti (by omega) hlen (fun c c1 c2 => by omega) (fun c c1 c2 => by
      obtain ⟨u, v, u1, v1, u2, v2, _, _⟩ := ev c c1 c2
      exact ⟨u, v, u1, v1, sR u u2, sL v v2, (hpe c u v u1 v1).symm⟩) N s0 r0 (by omega) h2 (Nat.le_refl _) (Nat.le_refl _) (fun i i1 i2 => by omega) (fun i i1 i2 => by omega)
    refine ⟨s, s1, s2, fun u v q1 q2 q3 hu hv => ?_, fun u v q1 q2 hu hv => ?_, s5⟩
    · rcases Nat.eq_or_lt_of_le s1 with e | hlt
      · omega
      · have hp := s3 (s - 1) (by omega) (by omega)
        obtain ⟨u', v', u1, v1, _, _, u3, v3⟩ := ev (s - 1) (by omega) (by omega)
        rw [hpe (s - 1) u' v' u1 v1] at hp
        rw [show mid - 1 - (s - 1) = mid - s from by omega, hv] at u3
        rw [hu] at v3
        cases u3
        cases v3
        exact Qkb hp
    · rcases Nat.eq_or_lt_of_le s2 with e | hlt
      · omega
      · have hp := s4 s (Nat.le_refl _) hlt
        obtain ⟨u', v', u1, v1, _, _, u3, v3⟩ := ev s (by omega) hlt
        rw [hpe s u' v' u1 v1] at hp
        rw [show mid - 1 - s = mid - s - 1 from by omega, hv] at u3
        rw [hu] at v3
        cases u3
        cases v3
        exact Qpp hp
  by_cases hc : m > mid
  · obtain ⟨s, q1, q2, q3, q4, q5⟩ := main (mid + m - b) mid (by omega) (by omega) (by omega) (by omega) (Or.inr (by omega)) (Or.inr rfl) (by omega)
    refine ⟨s, by omega, by omega, by omega, by omega, q3, q4, fun K => ?_⟩
    have e1 : w64 ((w64 ((mid : Int) + (m : Int))) - (b : Int)) = ((mid + m - b : Nat) : Int) := by
      rw [Qb2 (x := (mid : Int) + (m : Int)) (by omega) (by omega), Qb2 (by omega) (by omega)]; omega
    rw [show decide ((m : Int) > (mid : Int)) = true from decide_eq_true (by omega), cond_true, Option.bind_some, e1]
    exact q5 K
  · obtain ⟨s, q1, q2, q3, q4, q5⟩ := main a m (by omega) (by omega) (by omega) (by omega) (Or.inl rfl) (Or.inl rfl) (by omega)
    refine ⟨s, by omega, by omega, by omega, by omega, q3, q4, fun K => ?_⟩
    rw [show decide ((m : Int) > (mid : Int)) = false from decide_eq_false (by omega), cond_false]
    exact q5 K
theorem all_le {S T : List Int} (hS : Srt t S) (hT : Srt t T) (h : ∀ u v, S[S.length - 1]? = some u → T[0]? = some v → keyP t u ≤ keyP t v) : ∀ x ∈ S, ∀ y ∈ T, keyP t x ≤ keyP t y := by
  intro x hx y hy
  obtain ⟨i, i1, i2⟩ := Qk6 hx
  obtain ⟨j, j1, j2⟩ := Qk6 hy
  obtain ⟨u, hu⟩ : ∃ u, S[S.length - 1]? = some u := ⟨_, List.getElem?_eq_getElem (by omega)⟩
  obtain ⟨v, hv⟩ : ∃ v, T[0]? = some v := ⟨_, List.getElem?_eq_getElem (by omega)⟩
  have := h u v hu hv
  have := Qk5 hS (by omega : i ≤ S.length - 1) i2 hu
  have := Qk5 hT (Nat.zero_le j) hv j2
  omega
theorem all_lt {S T : List Int} (hS : Srt t S) (hT : Srt t T) (h : ∀ u v, S[S.length - 1]? = some u → T[0]? = some v → keyP t u < keyP t v) : ∀ x ∈ S, ∀ y ∈ T, keyP t x < keyP t y := by
  intro x hx y hy
  obtain ⟨i, i1, i2⟩ := Qk6 hx
  obtain ⟨j, j1, j2⟩ := Qk6 hy
  obtain ⟨u, hu⟩ : ∃ u, S[S.length - 1]? = some u := ⟨_, List.getElem?_eq_getElem (by omega)⟩
  obtain ⟨v, hv⟩ : ∃ v, T[0]? = some v := ⟨_, List.getElem?_eq_getElem (by omega)⟩
  have := h u v hu hv
  have := Qk5 hS (by omega : i ≤ S.length - 1) i2 hu
  have := Qk5 hT (Nat.zero_le j) hv j2
  omega
end
theorem sym_eq {len : Nat} (hlen : len ≤ 1000) : ∀ (n : Nat) (A L R B : List Int) (a m b : Nat), A.length = a → a + L.length = m → m + R.length = b → b + B.length = len → 0 < L.length → 0 < R.length → Srt t L → Srt t R → Qfo t L → Qfo t R → len + (L.length + R.length) < n →
    ∃ Z, Stb t (L ++ R) Z ∧ Qa1 n len a m b (A ++ L ++ R ++ B) t = some (A ++ Z ++ B) := by
  intro n
  induction n with
  | zero => intro A L R B a m b _ _ _ _ _ _ _ _ _ _ h; exact absurd h (Nat.not_lt_zero _)
  | succ N ih =>
    intro A L R B a m b ha hm hb hl hL0 hR0 hL hR sL sR hn
    have hN : len < N := by omega
    rw [Qa1]
    unfold Qcm
    have e1 : w64 ((m : Int) - (a : Int)) = (L.length : Int) := by rw [Qb2 (by omega) (by omega)]; omega
    have e2 : w64 ((b : Int) - (m : Int)) = (R.length : Int) := by rw [Qb2 (by omega) (by omega)]; omega
    have hD1 : A ++ L ++ R ++ B = A ++ L ++ (R ++ B) := by simp
    have hD2 : A ++ L ++ R ++ B = (A ++ L) ++ R ++ B := rfl
    have hAL : (A ++ L).length = m := by simp; omega
    have gL := fun c (h1 : a ≤ c) (h2 : c < m) => idx hD1 ha h1 (by omega : c < a + L.length)
    have gR := fun c (h1 : m ≤ c) (h2 : c < b) => idx hD2 hAL h1 (by omega : c < m + R.length)
    simp only [Qck, e1, e2]
    by_cases hL1 : L.length = 1
    · rw [show ((L.length : Int) == 1) = true from by simp [hL1], cond_true]
      obtain ⟨x, rfl⟩ := List.length_eq_one_iff.1 hL1
      have hx : (A ++ [x] ++ R ++ B)[a]? = some x := at_i (L := A) (M := R ++ B) (by simp) ha
      have sx := sL x (by simp)
      let p : Nat → Bool := fun c => match (A ++ [x] ++ R ++ B)[c]? with | some u => decide (keyP t u < keyP t x) | none => false
      have hpe : ∀ c u, (A ++ [x] ++ R ++ B)[c]? = some u → p c = decide (keyP t u < keyP t x) := fun c u h => by
        show (match (A ++ [x] ++ R ++ B)[c]? with | some u => decide (keyP t u < keyP t x) | none => false) = _
        rw [h]
      have anti : Anti p m b := fun i j i1 i2 i3 hj => by
        obtain ⟨u, u1, _, u3⟩ := gR i i1 (by omega)
        obtain ⟨v, v1, _, v3⟩ := gR j (by omega) i3
        rw [hpe j v v1, decide_eq_true_eq] at hj
        rw [hpe i u u1, decide_eq_true_eq]
        have := Qk5 hR (by omega : i - m ≤ j - m) u3 v3
        omega
      obtain ⟨r, r1, r2, r3, r4, r5⟩ := look5 (N := N) (len := len) a (A ++ [x] ++ R ++ B) p m b anti (by omega) hlen (by simp at hm; omega) (fun c c1 c2 => by
        obtain ⟨u, u1, u2, _⟩ := gR c c1 c2
        exact ⟨u, x, u1, hx, sR u u2, sx, (hpe c u u1).symm⟩) N m b (by omega) (by omega) (Nat.le_refl _) (Nat.le_refl _) (fun i i1 i2 => by omega) (fun i i1 i2 => by omega)
      obtain ⟨R1, R2, hRR, hR1⟩ := cut R (r - m) (by omega)
      have c1 : ∀ y ∈ R1, keyP t y < keyP t x := fun y hy => by
        obtain ⟨i, i1, i2⟩ := Qk6 hy
        obtain ⟨u, u1, _, u3⟩ := gR (m + i) (by omega) (by omega)
        have := r3 (m + i) (by omega) (by omega)
        rw [hpe _ u u1, decide_eq_true_eq] at this
        rw [hRR, show m + i - m = i from by omega, List.getElem?_append_left i1, i2] at u3
        cases u3
        exact this
      have c2 : ∀ y ∈ R2, keyP t x ≤ keyP t y := fun y hy => by
        obtain ⟨i, i1, i2⟩ := Qk6 hy
        have hlR : R.length = R1.length + R2.length := by rw [hRR]; simp
        obtain ⟨u, u1, _, u3⟩ := gR (r + i) (by omega) (by omega)
        have := r4 (r + i) (by omega) (by omega)
        rw [hpe _ u u1, decide_eq_false_iff_not] at this
        rw [hRR, show r + i - m = R1.length + i from by omega, List.getElem?_append_right (by omega), Nat.add_sub_cancel_left, i2] at u3
        cases u3
        omega
      have hR' := hR
      rw [hRR] at hR'
      refine ⟨R1 ++ (x :: R2), ?_, ?_⟩
      · have := Qnv (L1 := []) (L2 := [x]) (R1 := R1) (R2 := R2) (Z1 := R1) (Z2 := x :: R2) (List.pairwise_singleton ..) hR' (fun _ h => by cases h) (fun y hy z hz => by
          rw [List.mem_singleton] at hz
          subst hz
          exact c1 y hy) (Qf9 (Qgi hR')) (Qf9 (List.pairwise_cons.2 ⟨c2, Qgh hR'⟩))
        rw [hRR]
        simpa using this
      · rw [r5]
        have := mov_up (N := N) hlen (fun y95 => some y95) x r N A R1 (R2 ++ B) (by omega) (by simp at hm; omega) (by rw [hRR] at hb; simp at hb hm ⊢; omega)
        rw [ha] at this
        rw [hRR]
        simp only [List.append_assoc, List.cons_append, List.nil_append] at this ⊢
        exact this
    · rw [show ((L.length : Int) == 1) = false from by simp; omega, cond_false]
      by_cases hR1 : R.length = 1
      · rw [show ((R.length : Int) == 1) = true from by simp [hR1], cond_true]
        obtain ⟨y, rfl⟩ := List.length_eq_one_iff.1 hR1
        have hy : (A ++ L ++ [y] ++ B)[m]? = some y := at_i (L := A ++ L) (M := B) (by simp) hAL
        have sy := sR y (by simp)
        let p : Nat → Bool := fun c => match (A ++ L ++ [y] ++ B)[c]? with | some v => !decide (keyP t y < keyP t v) | none => false
        have hpe : ∀ c v, (A ++ L ++ [y] ++ B)[c]? = some v → p c = !decide (keyP t y < keyP t v) := fun c v h => by
          show (match (A ++ L ++ [y] ++ B)[c]? with | some v => !decide (keyP t y < keyP t v) | none => false) = _
          rw [h]
        have anti : Anti p a m := fun i j i1 i2 i3 hj => by
          obtain ⟨u, u1, _, u3⟩ := gL i i1 (by omega)
          obtain ⟨v, v1, _, v3⟩ := gL j (by omega) i3
          rw [hpe j v v1] at hj
          rw [hpe i u u1]
          have h1 := Qkb hj
          have h2 := Qk5 hL (by omega : i - a ≤ j - a) u3 v3
          simp only [Bool.not_eq_true', decide_eq_false_iff_not]
          omega
        obtain ⟨r, r1, r2, r3, r4, r5⟩ := look3 (N := N) (len := len) m (A ++ L ++ [y] ++ B) p a m anti (by omega) hlen (by simp at hb; omega) (fun c c1 c2 => by
          obtain ⟨v, v1, v2, _⟩ := gL c c1 c2
          exact ⟨y, v, hy, v1, sy, sL v v2, (hpe c v v1).symm⟩) N a m (by omega) (by omega) (Nat.le_refl _) (Nat.le_refl _) (fun i i1 i2 => by omega) (fun i i1 i2 => by omega)
        obtain ⟨L1, L2, hLL, hLl⟩ := cut L (r - a) (by omega)
        have hlL : L.length = L1.length + L2.length := by rw [hLL]; simp
        have c1 : ∀ z ∈ L1, keyP t z ≤ keyP t y := fun z hz => by
          obtain ⟨i, i1, i2⟩ := Qk6 hz
          obtain ⟨u, u1, _, u3⟩ := gL (a + i) (by omega) (by omega)
          have := r3 (a + i) (by omega) (by omega)
          rw [hpe _ u u1] at this
          rw [hLL, show a + i - a = i from by omega, List.getElem?_append_left i1, i2] at u3
          cases u3
          exact Qkb this
        have c2 : ∀ z ∈ L2, keyP t y < keyP t z := fun z hz => by
          obtain ⟨i, i1, i2⟩ := Qk6 hz
          obtain ⟨u, u1, _, u3⟩ := gL (r + i) (by omega) (by omega)
          have := r4 (r + i) (by omega) (by omega)
          rw [hpe _ u u1] at this
          rw [hLL, show r + i - a = L1.length + i from by omega, List.getElem?_append_right (by omega), Nat.add_sub_cancel_left, i2] at u3
          cases u3
          exact Qpp this
        have hL' := hL
        rw [hLL] at hL'
        refine ⟨(L1 ++ [y]) ++ L2, ?_, ?_⟩
        · have hs : Srt t (L1 ++ [y]) := List.pairwise_append.2 ⟨Qgi hL', List.pairwise_singleton .., fun z hz w hw => by
            rw [List.mem_singleton] at hw
            subst hw
            exact c1 z hz⟩
          have := Qnv (L1 := L1) (L2 := L2) (R1 := [y]) (R2 := []) (Z1 := L1 ++ [y]) (Z2 := L2) hL' (List.pairwise_singleton ..) (fun _ _ _ h => by cases h) (fun z hz w hw => by
            rw [List.mem_singleton] at hz
            subst hz
            exact c2 w hw) (Qf9 hs) (by simpa using Qf9 (Qgh hL'))
          rw [hLL]
          simpa using this
        · rw [r5]
          have := Qyc (N := N) hlen (fun y55 => some y55) y r N (A ++ L1) L2 B (by omega) (by simp; omega) (by simp at hb ⊢; omega)
          have e3 : (((A ++ L1).length + L2.length : Nat) : Int) = (m : Int) := by simp; omega
          rw [e3] at this
          rw [hLL]
          simp only [List.append_assoc, List.cons_append, List.nil_append] at this ⊢
          exact this
      · rw [show ((R.length : Int) == 1) = false from by simp; omega, cond_false]
        obtain ⟨s, s1, s2, s3, s4, s5, s6, s7⟩ := seek (N := N) hlen hN ha hm hb hl hL hR sL sR hL0 hR0
        generalize hmid : (a + b) / 2 = mid at s3 s4 s5 s6 s7
        have e3 : w64 ((IntKind.wrap .u64 (w64 ((a : Int) + (b : Int)))) / 2) = (mid : Int) := by rw [half a b (by omega), hmid]
        have e4 : w64 ((w64 ((mid : Int) + (m : Int))) - 1) = ((mid + m - 1 : Nat) : Int) := by
          rw [Qb2 (x := (mid : Int) + (m : Int)) (by omega) (by omega), Qb2 (by omega) (by omega)]; omega
        have e5 : w64 ((w64 ((mid : Int) + (m : Int))) - (s : Int)) = ((mid + m - s : Nat) : Int) := by
          rw [Qb2 (x := (mid : Int) + (m : Int)) (by omega) (by omega), Qb2 (by omega) (by omega)]; omega
        rw [e3]
        simp only [Option.bind_some, e4]
        have s7' := fun K => s7 K
        simp only [Option.bind_some] at s7'
        rw [s7']
        simp only [e5]
        obtain ⟨L1, L2, hLL, hL1'⟩ := cut L (s - a) (by omega)
        obtain ⟨R1, R2, hRR, hR1'⟩ := cut R (mid - s) (by omega)
        have hlL : L.length = L1.length + L2.length := by rw [hLL]; simp
        have hlR : R.length = R1.length + R2.length := by rw [hRR]; simp
        have hL' := hL
        rw [hLL] at hL'
        have hR' := hR
        rw [hRR] at hR'
        have c1 : ∀ x ∈ L1, ∀ y ∈ R2, keyP t x ≤ keyP t y := fun x hx y hy => all_le (Qgi hL') (Qgh hR') (fun u v hu hv => by
          have l1 : 0 < L1.length := List.length_pos_of_mem hx
          have l2 : 0 < R2.length := List.length_pos_of_mem hy
          refine s5 u v (by omega) (by omega) (by omega) ?_ ?_
          · rw [hLL, List.getElem?_append_left (by omega), show s - 1 - a = L1.length - 1 from by omega]; exact hu
          · rw [hRR, List.getElem?_append_right (by omega), show mid - s - R1.length = 0 from by omega]; exact hv) x hx y hy
        have c2 : ∀ x ∈ R1, ∀ y ∈ L2, keyP t x < keyP t y := fun x hx y hy => all_lt (Qgi hR') (Qgh hL') (fun u v hu hv => by
          have l1 : 0 < R1.length := List.length_pos_of_mem hx
          have l2 : 0 < L2.length := List.length_pos_of_mem hy
          refine s6 v u (by omega) (by omega) ?_ ?_
          · rw [hLL, List.getElem?_append_right (by omega), show s - a - L1.length = 0 from by omega]; exact hv
          · rw [hRR, List.getElem?_append_left (by omega), show mid - s - 1 = R1.length - 1 from by omega]; exact hu) x hx y hy
        have rot : ∀ K : List Int → Option (List Int), (bif decide ((s : Int) < (m : Int)) then bif decide ((m : Int) < ((mid + m - s : Nat) : Int)) then (Qb9 N len s m ((mid + m - s : Nat) : Int) (A ++ L ++ R ++ B) t).bind fun x31 => K x31 else K (A ++ L ++ R ++ B) else K (A ++ L ++ R ++ B)) = K (A ++ L1 ++ R1 ++ (L2 ++ R2 ++ B)) := by
          intro K
          have ed : A ++ L ++ R ++ B = (A ++ L1) ++ L2 ++ R1 ++ (R2 ++ B) := by rw [hLL, hRR]; simp
          by_cases q1 : s < m
          · rw [show decide ((s : Int) < (m : Int)) = true from decide_eq_true (by omega), cond_true]
            by_cases q2 : m < mid + m - s
            · rw [show decide ((m : Int) < ((mid + m - s : Nat) : Int)) = true from decide_eq_true (by omega), cond_true, ed,
                rot_eq (N := N) (len := len) s m (mid + m - s) hlen hN (A ++ L1) L2 R1 (R2 ++ B) (by omega) (by omega) (by simp; omega) (by omega) (by omega) (by simp; omega), Option.bind_some]
              simp
            · rw [show decide ((m : Int) < ((mid + m - s : Nat) : Int)) = false from decide_eq_false (by omega), cond_false, ed]
              have : R1 = [] := List.eq_nil_of_length_eq_zero (by omega)
              rw [this]
              simp
          · rw [show decide ((s : Int) < (m : Int)) = false from decide_eq_false (by omega), cond_false, ed]
            have : L2 = [] := List.eq_nil_of_length_eq_zero (by omega)
            rw [this]
            simp
        have sL1 : Qfo t L1 := fun z hz => sL z (by rw [hLL]; simp [hz])
        have sL2 : Qfo t L2 := fun z hz => sL z (by rw [hLL]; simp [hz])
        have sR1 : Qfo t R1 := fun z hz => sR z (by rw [hRR]; simp [hz])
        have sR2 : Qfo t R2 := fun z hz => sR z (by rw [hRR]; simp [hz])
        have one : ∃ Z1, Stb t (L1 ++ R1) Z1 ∧ ∀ K : List Int → Option (List Int), (bif decide ((a : Int) < (s : Int)) then bif decide ((s : Int) < (mid : Int)) then (Qa1 N len a s mid (A ++ L1 ++ R1 ++ (L2 ++ R2 ++ B)) t).bind fun x27 => K x27 else K (A ++ L1 ++ R1 ++ (L2 ++ R2 ++ B)) else K (A ++ L1 ++ R1 ++ (L2 ++ R2 ++ B))) = K (A ++ Z1 ++ (L2 ++ R2 ++ B)) := by
          by_cases q1 : a < s
          · by_cases q2 : s < mid
            · obtain ⟨Z1, z1, z2⟩ := ih A L1 R1 (L2 ++ R2 ++ B) a s mid ha (by omega) (by omega) (by simp; omega) (by omega) (by omega) (Qgi hL') (Qgi hR') sL1 sR1 (by omega)
              refine ⟨Z1, z1, fun K => ?_⟩
              rw [show decide ((a : Int) < (s : Int)) = true from decide_eq_true (by omega), show decide ((s : Int) < (mid : Int)) = true from decide_eq_true (by omega), z2]
              rfl
            · have : R1 = [] := List.eq_nil_of_length_eq_zero (by omega)
              refine ⟨L1 ++ R1, by rw [this, List.append_nil]; exact Qf9 (Qgi hL'), fun K => ?_⟩
              rw [show decide ((a : Int) < (s : Int)) = true from decide_eq_true (by omega), show decide ((s : Int) < (mid : Int)) = false from decide_eq_false (by omega)]
              simp
          · have : L1 = [] := List.eq_nil_of_length_eq_zero (by omega)
            refine ⟨L1 ++ R1, by rw [this, List.nil_append]; exact Qf9 (Qgi hR'), fun K => ?_⟩
            rw [show decide ((a : Int) < (s : Int)) = false from decide_eq_false (by omega)]
            simp
        obtain ⟨Z1, z1, k1⟩ := one
        have hz1 : Z1.length = L1.length + R1.length := by rw [Stb.len z1.eqf]; simp
        have two : ∃ Z2, Stb t (L2 ++ R2) Z2 ∧ (bif decide ((mid : Int) < ((mid + m - s : Nat) : Int)) then bif decide (((mid + m - s : Nat) : Int) < (b : Int)) then (Qa1 N len mid ((mid + m - s : Nat) : Int) b (A ++ Z1 ++ (L2 ++ R2 ++ B)) t).bind fun x23 => some x23 else some (A ++ Z1 ++ (L2 ++ R2 ++ B)) else some (A ++ Z1 ++ (L2 ++ R2 ++ B))) = some (A ++ (Z1 ++ Z2) ++ B) := by
          by_cases q1 : mid < mid + m - s
          · by_cases q2 : mid + m - s < b
            · obtain ⟨Z2, z2, z3⟩ := ih (A ++ Z1) L2 R2 B mid (mid + m - s) b (by simp; omega) (by omega) (by omega) hl (by omega) (by omega) (Qgh hL') (Qgh hR') sL2 sR2 (by omega)
              refine ⟨Z2, z2, ?_⟩
              rw [show decide ((mid : Int) < ((mid + m - s : Nat) : Int)) = true from decide_eq_true (by omega), show decide (((mid + m - s : Nat) : Int) < (b : Int)) = true from decide_eq_true (by omega)]
              rw [show A ++ Z1 ++ (L2 ++ R2 ++ B) = (A ++ Z1) ++ L2 ++ R2 ++ B from by simp, z3]
              simp
            · have : R2 = [] := List.eq_nil_of_length_eq_zero (by omega)
              refine ⟨L2 ++ R2, by rw [this, List.append_nil]; exact Qf9 (Qgh hL'), ?_⟩
              rw [show decide ((mid : Int) < ((mid + m - s : Nat) : Int)) = true from decide_eq_true (by omega), show decide (((mid + m - s : Nat) : Int) < (b : Int)) = false from decide_eq_false (by omega)]
              simp
          · have : L2 = [] := List.eq_nil_of_length_eq_zero (by omega)
            refine ⟨L2 ++ R2, by rw [this, List.nil_append]; exact Qf9 (Qgh hR'), ?_⟩
            rw [show decide ((mid : Int) < ((mid + m - s : Nat) : Int)) = false from decide_eq_false (by omega)]
            simp
        obtain ⟨Z2, z2, k2⟩ := two
        refine ⟨Z1 ++ Z2, ?_, ?_⟩
        · rw [hLL, hRR]
          exact Qnv hL' hR' c1 c2 z1 z2
        · rw [rot, k1, k2]
inductive Bl (t : List GNode) (bs : Nat) : List Int → Prop
  | short {l : List Int} : l.length ≤ bs → Srt t l → Bl t bs l
  | cons {l r : List Int} : l.length = bs → Srt t l → Bl t bs r → Bl t bs (l ++ r)
theorem Bl.one {bs : Nat} {l : List Int} (h : Bl t bs l) (hl : l.length ≤ bs) : Srt t l := by
  cases h with
  | short _ hs => exact hs
  | cons h1 h2 h3 =>
    rename_i l r
    have : r = [] := List.eq_nil_of_length_eq_zero (by simp at hl; omega)
    rw [this, List.append_nil]
    exact h2
section
variable {N len : Nat}
theorem Qy1 (hlen : len ≤ 1000) (hN : len < N) (K : Int × List Int → Option (List Int)) :
    ∀ (n : Nat) (A S : List Int), S.length < n → A.length + S.length = len → Qfo t S →
    ∃ D T, S.length = D.length + T.length ∧ T.length < 20 ∧ Qfo t T ∧ (∀ k, flt t k (D ++ T) = flt t k S) ∧ (∀ Z, T.length = Z.length → Srt t Z → Bl t 20 (D ++ Z)) ∧
      Qbg N len len t K n (A.length : Int) ((A.length + 20 : Nat) : Int) (A ++ S) = K (((A ++ D).length : Nat), A ++ D ++ T) := by
  intro n
  induction n with
  | zero => intro A S h; exact absurd h (Nat.not_lt_zero _)
  | succ n ih =>
    intro A S hn hl hS
    rw [Qbg]
    by_cases hc : 20 ≤ S.length
    · rw [show decide (((A.length + 20 : Nat) : Int) ≤ (len : Int)) = true from decide_eq_true (by omega), cond_true]
      obtain ⟨S1, S2, hSS, hS1⟩ := cut S 20 hc
      have hlS : S.length = S1.length + S2.length := by rw [hSS]; simp
      obtain ⟨Z, z1, z2⟩ := ins_eq (N := N) (len := len) A.length (A.length + 20) A S1 S2 rfl hlen hN (fun z hz => hS z (by rw [hSS]; simp [hz])) (by omega) (by omega)
      have hZ := Stb.len z1.eqf
      have e1 : w64 (((A.length + 20 : Nat) : Int) + 20) = (((A ++ Z).length + 20 : Nat) : Int) := by
        rw [Qb2 (by omega) (by omega)]; simp; omega
      have e2 : ((A.length + 20 : Nat) : Int) = (((A ++ Z).length : Nat) : Int) := by simp; omega
      obtain ⟨D, T, d1, d2, d3, d4, d5, d6⟩ := ih (A ++ Z) S2 (by omega) (by simp; omega) (fun z hz => hS z (by rw [hSS]; simp [hz]))
      refine ⟨Z ++ D, T, by simp; omega, d2, d3, fun k => ?_, fun W hW sW => ?_, ?_⟩
      · rw [List.append_assoc, Qep, z1.eqf, d4, ← Qep, hSS]
      · rw [List.append_assoc]
        exact .cons (by omega) z1.srt (d5 W hW sW)
      · rw [hSS, ← List.append_assoc A S1 S2, z2, Option.bind_some, e1, e2, d6]
        simp
    · rw [show decide (((A.length + 20 : Nat) : Int) ≤ (len : Int)) = false from decide_eq_false (by omega), cond_false]
      exact ⟨[], S, by simp, by omega, hS, fun _ => rfl, fun Z hZ sZ => .short (by simp; omega) sZ, by simp⟩
theorem Bl.two {bs : Nat} (h0 : 1 ≤ bs) {S : List Int} (h : Bl t bs S) (hl : bs < S.length) : ∃ L R, S = L ++ R ∧ L.length = bs ∧ Srt t L ∧ Bl t bs R := by
  cases h with
  | short h1 _ => omega
  | cons h1 h2 h3 => exact ⟨_, _, rfl, h1, h2, h3⟩
theorem Bl.next {bs : Nat} (h0 : 1 ≤ bs) {S : List Int} (h : Bl t bs S) (hl : bs ≤ S.length) : ∃ L R, S = L ++ R ∧ L.length = bs ∧ Srt t L ∧ Bl t bs R := by
  rcases Nat.eq_or_lt_of_le hl with e | hlt
  · exact ⟨S, [], by simp, e.symm, h.one (by omega), .short (Nat.zero_le _) Qvk⟩
  · exact h.two h0 hlt
theorem Qvq (hlen : len ≤ 1000) (hN : 2 * len < N) {bs : Nat} (h0 : 1 ≤ bs) (hbs : bs ≤ 1000) (K : List Int → Option (List Int)) :
    ∀ (n : Nat) (A S : List Int), S.length < n → A.length + S.length = len → Qfo t S → Bl t bs S →
    ∃ S', Bl t (2 * bs) S' ∧ (∀ k, flt t k S' = flt t k S) ∧ Qbh N len len t bs (fun ⟨y13, y14⟩ =>
       bif (decide ((w64 (y13 + (bs : Int))) < (len : Int))) then
        (Qa1 N len y13 (w64 (y13 + (bs : Int))) len y14 t).bind fun x18 => K x18
       else K y14) n (A.length : Int) ((A.length + 2 * bs : Nat) : Int) (A ++ S) = K (A ++ S') := by
  intro n
  induction n with
  | zero => intro A S h; exact absurd h (Nat.not_lt_zero _)
  | succ n ih =>
    intro A S hn hl hS hB
    rw [Qbh]
    have e0 : w64 ((A.length : Int) + (bs : Int)) = ((A.length + bs : Nat) : Int) := Qb2 (by omega) (by omega)
    have e9 : w64 (2 * (bs : Int)) = ((2 * bs : Nat) : Int) := by rw [Qb2 (by omega) (by omega)]; omega
    by_cases hc : 2 * bs ≤ S.length
    · rw [show decide (((A.length + 2 * bs : Nat) : Int) ≤ (len : Int)) = true from decide_eq_true (by omega), cond_true, e0, e9]
      obtain ⟨L, S1, hS1, l1, l2, l3⟩ := hB.next h0 (by omega)
      have q1 : S.length = L.length + S1.length := by rw [hS1]; simp
      obtain ⟨R, S2, hS2, r1, r2, r3⟩ := l3.next h0 (by omega)
      have q2 : S1.length = R.length + S2.length := by rw [hS2]; simp
      have sS1 : Qfo t S1 := fun z hz => hS z (by rw [hS1]; simp [hz])
      obtain ⟨Z, z1, z2⟩ := sym_eq hlen N A L R S2 A.length (A.length + bs) (A.length + 2 * bs) rfl (by omega) (by omega) (by omega) (by omega) (by omega) l2 r2 (fun z hz => hS z (by rw [hS1]; simp [hz])) (fun z hz => sS1 z (by rw [hS2]; simp [hz])) (by omega)
      have hZ := Stb.len z1.eqf
      simp only [List.length_append] at hZ
      have e1 : w64 (((A.length + 2 * bs : Nat) : Int) + ((2 * bs : Nat) : Int)) = (((A ++ Z).length + 2 * bs : Nat) : Int) := by
        rw [Qb2 (by omega) (by omega)]; simp; omega
      have e2 : ((A.length + 2 * bs : Nat) : Int) = (((A ++ Z).length : Nat) : Int) := by simp; omega
      obtain ⟨S', s1, s2, s3⟩ := ih (A ++ Z) S2 (by omega) (by simp; omega) (fun z hz => sS1 z (by rw [hS2]; simp [hz])) r3
      refine ⟨Z ++ S', .cons (by omega) z1.srt s1, fun k => ?_, ?_⟩
      · rw [Qep, z1.eqf, s2, ← Qep, hS1, hS2, List.append_assoc]
      · rw [hS1, hS2, show A ++ (L ++ (R ++ S2)) = A ++ L ++ R ++ S2 from by simp, z2, Option.bind_some, e1, Option.bind_some, e2, s3]
        simp
    · rw [show decide (((A.length + 2 * bs : Nat) : Int) ≤ (len : Int)) = false from decide_eq_false (by omega), cond_false]
      simp only [e0]
      by_cases hc2 : bs < S.length
      · rw [show decide (((A.length + bs : Nat) : Int) < (len : Int)) = true from decide_eq_true (by omega), cond_true]
        obtain ⟨L, R, hS1, l1, l2, l3⟩ := hB.two h0 hc2
        have q1 : S.length = L.length + R.length := by rw [hS1]; simp
        obtain ⟨Z, z1, z2⟩ := sym_eq hlen N A L R [] A.length (A.length + bs) len rfl (by omega) (by omega) (by simp) (by omega) (by omega) l2 (l3.one (by omega)) (fun z hz => hS z (by rw [hS1]; simp [hz])) (fun z hz => hS z (by rw [hS1]; simp [hz])) (by omega)
        have hZ := Stb.len z1.eqf
        simp only [List.length_append] at hZ
        refine ⟨Z, .short (by omega) z1.srt, fun k => by rw [z1.eqf, hS1], ?_⟩
        rw [hS1, show A ++ (L ++ R) = A ++ L ++ R ++ [] from by simp, z2, Option.bind_some, List.append_nil]
      · rw [show decide (((A.length + bs : Nat) : Int) < (len : Int)) = false from decide_eq_false (by omega), cond_false]
        exact ⟨S, .short (by omega) (hB.one (by omega)), fun _ => rfl, rfl⟩
theorem Qv9 (hlen : len ≤ 1000) (hN : 2 * len < N) : ∀ (n bs : Nat) (D : List Int), len - bs < n → 1 ≤ bs → bs ≤ 1000 → D.length = len → Qfo t D → Bl t bs D →
    ∃ D', Srt t D' ∧ (∀ k, flt t k D' = flt t k D) ∧ Qar N len len t n bs D = some D' := by
  intro n
  induction n with
  | zero => intro bs D h; exact absurd h (Nat.not_lt_zero _)
  | succ n ih =>
    intro bs D hn h0 hbs hl hS hB
    rw [Qar]
    by_cases hc : bs < len
    · rw [show decide ((bs : Int) < (len : Int)) = true from decide_eq_true (by omega), cond_true]
      have e1 : w64 (2 * (bs : Int)) = ((0 + 2 * bs : Nat) : Int) := by rw [Qb2 (by omega) (by omega)]; omega
      have e2 : w64 ((bs : Int) * 2) = ((2 * bs : Nat) : Int) := by rw [Qb2 (by omega) (by omega)]; omega
      simp only [Qck, e1, e2]
      obtain ⟨S', s1, s2, s3⟩ := Qvq (N := N) hlen hN h0 hbs (fun x => Qar N len len t n ((2 * bs : Nat) : Int) x) N [] D (by omega) (by simpa using hl) hS hB
      simp only [List.length_nil, List.nil_append, show ((0 : Nat) : Int) = 0 from rfl] at s3
      have hS' := Stb.len s2
      by_cases hb2 : 2 * bs ≤ 1000
      · obtain ⟨D', d1, d2, d3⟩ := ih (2 * bs) S' (by omega) (by omega) hb2 (by omega) (Stb.small s2 hS) s1
        exact ⟨D', d1, fun k => (d2 k).trans (s2 k), s3.trans d3⟩
      · refine ⟨S', s1.one (by omega), s2, s3.trans ?_⟩
        cases n with
        | zero => omega
        | succ n =>
          rw [Qar, show decide (((2 * bs : Nat) : Int) < (len : Int)) = false from decide_eq_false (by omega)]
          rfl
    · rw [show decide ((bs : Int) < (len : Int)) = false from decide_eq_false (by omega), cond_false]
      exact ⟨D, hB.one (by omega), fun _ => rfl, rfl⟩
end
theorem sort_eq {N : Nat} {D : List Int} (hlen : D.length ≤ 1000) (hN : 2 * D.length < N) (h20 : 1000 < N) (hS : Qfo t D) : ∃ D', Stb t D D' ∧ Qbq N D.length D t = some D' := by
  unfold Qbq Qdd
  simp only [Qck]
  obtain ⟨A, T, d1, d2, d3, d4, d5, d6⟩ := Qy1 (N := N) (len := D.length) hlen (by omega) (fun ⟨y2, y3⟩ => (Qba N D.length y2 D.length y3 t).bind fun x6 => Qar N D.length D.length t N 20 x6) N [] D (by omega) (by simp) hS
  simp only [List.length_nil, List.nil_append, Nat.zero_add, show ((0 : Nat) : Int) = 0 from rfl, show ((20 : Nat) : Int) = 20 from rfl] at d6
  obtain ⟨Z, z1, z2⟩ := ins_eq (N := N) (len := D.length) A.length D.length A T [] rfl hlen (by omega) d3 (by omega) (by simp)
  rw [List.append_nil, List.append_nil] at z2
  have hZ := Stb.len z1.eqf
  have hf : ∀ k, flt t k (A ++ Z) = flt t k D := fun k => by rw [Qep, z1.eqf, ← Qep, d4]
  obtain ⟨D', e1, e2, e3⟩ := Qv9 (N := N) (len := D.length) hlen hN N 20 (A ++ Z) (by omega) (by omega) (by omega) (Stb.len hf) (Stb.small hf hS) (d5 Z hZ.symm z1.srt)
  refine ⟨D', ⟨e1, fun k => (e2 k).trans (hf k)⟩, ?_⟩
  rw [d6]
  simp only [z2, Option.bind_some]
  rw [show (20 : Int) = ((20 : Nat) : Int) from rfl, e3]
  rfl
end Go.Proofs.Ytgdepcgbjjgnfaa
