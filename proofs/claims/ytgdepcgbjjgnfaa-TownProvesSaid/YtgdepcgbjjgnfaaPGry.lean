/-
  Plain: the cheapest plan of a day and the prices that show it, as mathematics: exchange, rounds of prices, weak duality. No conditions.
-/
import Derived.Test.YtgdepcgbjjgnfaaPDaysL
namespace Go.Proofs.Ytgdepcgbjjgnfaa
open Go.RowKit
def preS (l : List GStair) (k : Nat) : Int := Qdm (l.take k)
def Qds (l : List GStair) : Prop := (∀ s ∈ l, 1 ≤ s.Amount ∧ s.Amount ≤ 1000000000 ∧ 0 ≤ s.Price ∧ s.Price ≤ 1000) ∧ l.Pairwise fun a b => a.Price < b.Price
theorem Qh8 {l : List GStair} {k : Nat} {s : GStair} (h : l[k]? = some s) : preS l (k + 1) = preS l k + s.Amount := by
 unfold preS Qdm
 rw [List.take_add_one, h]
 simp
theorem Qkc (l : List GStair) : preS l 0 = 0 := rfl
theorem Qu1 (l : List GStair) : preS l l.length = Qdm l := by
 unfold preS
 rw [List.take_length]
theorem Qlw {l : List GStair} (h : Qds l) {a b : Nat} (hab : a ≤ b) : preS l a ≤ preS l b := by
 induction b with
 | zero => rw [show a = 0 by omega]; exact Int.le_refl _
 | succ b ih =>
  rcases Nat.eq_or_lt_of_le hab with rfl | hlt
  ·exact Int.le_refl _
  ·have := ih (by omega)
   cases hb : l[b]? with
   | none =>
    have : preS l (b + 1) = preS l b := by unfold preS; rw [List.take_add_one, hb]; simp
    omega
   | some s =>
    have h1 := h.1 s (List.mem_of_getElem? hb)
    rw [Qh8 hb]
    omega
theorem Qg8 {l : List GStair} (h : Qds l) (a : Nat) : 0 ≤ preS l a := Qlw h (Nat.zero_le a)
theorem Qqo {l : List GStair} (h : Qds l) (a : Nat) : preS l a ≤ Qdm l := by
 rcases Nat.lt_or_ge a l.length with hlt | hge
 ·rw [← Qu1]; exact Qlw h (by omega)
 ·unfold preS; rw [List.take_of_length_le hge]; exact Int.le_refl _
theorem Qyd {l : List GStair} (h : Qds l) {a b : Nat} (hlt : preS l a < preS l b) : a < b := by
 rcases Nat.lt_or_ge a b with h1 | h1
 ·exact h1
 ·have := Qlw h h1
  omega
theorem price_lt {l : List GStair} (h : Qds l) {a b : Nat} {s r : GStair} (hab : a < b) (ha : l[a]? = some s) (hb : l[b]? = some r) : s.Price < r.Price := by
 obtain ⟨h1, h2⟩ := List.getElem?_eq_some_iff.1 ha
 obtain ⟨h3, h4⟩ := List.getElem?_eq_some_iff.1 hb
 have := List.pairwise_iff_getElem.1 h.2 a b h1 h3 hab
 rw [h2, h4] at this
 exact this
theorem price_le {l : List GStair} (h : Qds l) {a b : Nat} {s r : GStair} (hab : a ≤ b) (ha : l[a]? = some s) (hb : l[b]? = some r) : s.Price ≤ r.Price := by
 rcases Nat.eq_or_lt_of_le hab with rfl | hlt
 ·rw [ha] at hb; cases hb; exact Int.le_refl _
 ·exact Int.le_of_lt (price_lt h hlt ha hb)
def TkL (l : List GStair) (x p : Int) : Prop := ∃ a s, l[a]? = some s ∧ preS l a < x ∧ s.Price = p
def FrL (l : List GStair) (x p : Int) : Prop := ∃ b s, l[b]? = some s ∧ x < preS l (b + 1) ∧ s.Price = p
theorem fr_mono {l : List GStair} {x y p : Int} (h : x ≤ y) : FrL l y p → FrL l x p := fun ⟨a, s, h1, h2, h3⟩ => ⟨a, s, h1, by omega, h3⟩
theorem tk_step {l : List GStair} (h : Qds l) {x n q : Int} {u : Nat} {s : GStair} (hu : l[u]? = some s) (hx : preS l u ≤ x) (hn : x + n ≤ preS l (u + 1)) : TkL l (x + n) q → TkL l x q ∨ q = s.Price := fun ⟨a, r, h1, h2, h3⟩ => by
 have : a < u + 1 := Qyd h (by omega)
 rcases Nat.eq_or_lt_of_le (Nat.le_of_lt_succ this) with rfl | hlt
 ·rw [hu] at h1; cases h1; exact Or.inr h3.symm
 ·refine Or.inl ⟨a, r, h1, ?_, h3⟩
  have h4 := Qlw h (show a + 1 ≤ u by omega)
  rw [Qh8 h1] at h4
  have := (h.1 r (List.mem_of_getElem? h1)).1
  omega
theorem fr_ge {l : List GStair} (h : Qds l) {x q : Int} {u : Nat} {s : GStair} (hu : l[u]? = some s) (hx : preS l u ≤ x) : FrL l x q → s.Price ≤ q := fun ⟨a, r, h1, h2, h3⟩ => by
 have : u < a + 1 := Qyd h (by omega)
 rw [← h3]
 exact price_le h (by omega) hu h1
def Qms (L : Nat → Int) (T : Int) (i j : Nat) : Prop := ∀ k, i ≤ k → k < j → L k < T
def PosR (L : Nat → Int) (i j : Nat) : Prop := ∀ k, i ≤ k → k < j → 0 < L k
def Conn (L : Nat → Int) (T : Int) (j i : Nat) : Prop := (j ≤ i ∧ PosR L j i) ∨ (i ≤ j ∧ Qms L T i j)
def GrI (H : Nat → List GStair) (x L : Nat → Int) (T : Int) (t : Nat) : Prop := ∀ i j, i ≤ t → j ≤ t → Conn L T j i → ∀ p q, TkL (H j) (x j) p → FrL (H i) (x i) q → p ≤ q
def addR (L : Nat → Int) (a b : Nat) (n : Int) : Nat → Int := fun k => if a ≤ k ∧ k < b then L k + n else L k
theorem inv_take {H : Nat → List GStair} {x L : Nat → Int} {T n : Int} {t m u : Nat} {s : GStair} (hs : ∀ i, i ≤ t → Qds (H i)) (hI : GrI H x L T t) (hmt : m ≤ t) (hu : (H m)[u]? = some s) (hx : preS (H m) u ≤ x m) (hn : x m + n ≤ preS (H m) (u + 1)) (hn0 : 0 < n) (hop : Qms L T m t) (hmin : ∀ i, i ≤ t → Qms L T i t → ∀ q, FrL (H i) (x i) q → s.Price ≤ q) :
  GrI H (setF x m (x m + n)) (addR L m t n) T t := by
 have hfree : FrL (H m) (x m) s.Price := ⟨u, s, hu, by omega, rfl⟩
 intro i j hi hj hc p q hp hq
 have hq' : FrL (H i) (x i) q := by
  unfold setF at hq
  split at hq
  ·rename_i e; subst e; exact fr_mono (by omega) hq
  ·exact hq
 have hle : ∀ k, L k ≤ addR L m t n k := fun k => by unfold addR; split <;> omega
 have hopen : ∀ {a b}, Qms (addR L m t n) T a b → Qms L T a b := fun h k h1 h2 => by have := h k h1 h2; have := hle k; omega
 have hcase : TkL (H j) (x j) p ∨ (j = m ∧ p = s.Price) := by
  unfold setF at hp
  split at hp
  ·rename_i e
   subst e
   rcases tk_step (hs j hj) hu hx hn hp with h | h
   ·exact Or.inl h
   ·exact Or.inr ⟨rfl, h⟩
  ·exact Or.inl hp
 rcases hcase with hp' | ⟨rfl, rfl⟩
 ·rcases hc with ⟨hji, hpos⟩ | ⟨hij, ho⟩
  ·by_cases hall : PosR L j i
   ·exact hI i j hi hj (Or.inl ⟨hji, hall⟩) p q hp' hq'
   ·-- an edge that is new
    have : ∃ k, j ≤ k ∧ k < i ∧ ¬ 0 < L k := by
     refine Classical.byContradiction fun hc => hall fun k h1 h2 => ?_
     exact Classical.byContradiction fun h3 => hc ⟨k, h1, h2, h3⟩
    obtain ⟨k, k1, k2, k3⟩ := this
    have hk := hpos k k1 k2
    unfold addR at hk
    split at hk
    ·rename_i hr
     have h1 : s.Price ≤ q := hmin i hi (fun a a1 a2 => hop a (by omega) a2) q hq'
     have h2 : p ≤ s.Price := by
      refine hI m j hmt hj ?_ p s.Price hp' hfree
      rcases Nat.le_total j m with hjm | hmj
      ·refine Or.inl ⟨hjm, fun a a1 a2 => ?_⟩
       have := hpos a a1 (by omega)
       unfold addR at this
       rw [if_neg (by omega)] at this
       exact this
      ·exact Or.inr ⟨hmj, fun a a1 a2 => hop a a1 (by omega)⟩
     omega
    ·omega
  ·exact hI i j hi hj (Or.inr ⟨hij, hopen ho⟩) p q hp' hq'
 ·rcases hc with ⟨hji, _⟩ | ⟨hij, ho⟩
  ·exact hmin i hi (fun a a1 a2 => hop a (by omega) a2) q hq'
  ·refine hmin i hi (fun a a1 a2 => ?_) q hq'
   rcases Nat.lt_or_ge a j with h | h
   ·exact hopen ho a a1 h
   ·exact hop a h a2
theorem inv_next {H : Nat → List GStair} {x L : Nat → Int} {T v : Int} {t : Nat} (hI : GrI H x L T t) (hx : x (t + 1) = 0) (hH : ∀ i, i ≤ t + 1 → Qds (H i)) (hv : 0 < v → ∀ j, j ≤ t → x j = 0) (hL : L t ≤ 0) : GrI H x (setF L t (L t + v)) T (t + 1) := by
 have none0 : ∀ {j p}, j ≤ t + 1 → x j = 0 → ¬ TkL (H j) (x j) p := fun hj h0 ⟨a, s, h1, h2, h3⟩ => by
  have := Qg8 (hH _ hj) a
  omega
 intro i j hi hj hc p q hp hq
 rcases Nat.eq_or_lt_of_le hj with rfl | hj'
 ·exact absurd hp (none0 (Nat.le_refl _) hx)
 ·have hjt : j ≤ t := by omega
  by_cases hv0 : 0 < v
  ·exact absurd hp (none0 hj (hv hv0 j hjt))
  ·rcases Nat.eq_or_lt_of_le hi with rfl | hi'
   ·rcases hc with ⟨_, hpos⟩ | ⟨h, _⟩
    ·have := hpos t hjt (Nat.lt_succ_self t)
     unfold setF at this
     rw [if_pos rfl] at this
     omega
    ·omega
   ·refine hI i j (by omega) hjt ?_ p q hp hq
    rcases hc with ⟨h1, h2⟩ | ⟨h1, h2⟩
    ·refine Or.inl ⟨h1, fun k a b => ?_⟩
     have := h2 k a b
     unfold setF at this
     rw [if_neg (by omega)] at this
     exact this
    ·refine Or.inr ⟨h1, fun k a b => ?_⟩
     have := h2 k a b
     unfold setF at this
     rw [if_neg (by omega)] at this
     exact this
theorem conn_fw {L : Nat → Int} {T : Int} {i j : Nat} (h : Conn L T j i) (hL : 0 < L i) : Conn L T j (i + 1) := by
 rcases h with ⟨h1, h2⟩ | ⟨h1, h2⟩
 ·refine Or.inl ⟨by omega, fun k a b => ?_⟩
  rcases Nat.eq_or_lt_of_le (Nat.le_of_lt_succ b) with rfl | hlt
  ·exact hL
  ·exact h2 k a hlt
 ·rcases Nat.eq_or_lt_of_le h1 with rfl | hlt
  ·refine Or.inl ⟨by omega, fun k a b => ?_⟩
   rw [show k = i by omega]; exact hL
  ·exact Or.inr ⟨hlt, fun k a b => h2 k (by omega) b⟩
theorem conn_bw {L : Nat → Int} {T : Int} {i j : Nat} (h : Conn L T j (i + 1)) (hL : L i < T) : Conn L T j i := by
 rcases h with ⟨h1, h2⟩ | ⟨h1, h2⟩
 ·rcases Nat.eq_or_lt_of_le h1 with rfl | hlt
  ·refine Or.inr ⟨by omega, fun k a b => ?_⟩
   rw [show k = i by omega]; exact hL
  ·exact Or.inl ⟨by omega, fun k a b => h2 k a (by omega)⟩
 ·refine Or.inr ⟨by omega, fun k a b => ?_⟩
  rcases Nat.eq_or_lt_of_le a with rfl | hlt
  ·exact hL
  ·exact h2 k hlt b
theorem Qsf (L : Nat → Int) (T : Int) (i : Nat) : Conn L T i i := Or.inl ⟨Nat.le_refl _, fun _ a b => by omega⟩
def swp1 (L : Nat → Int) (T : Int) (P : Nat → Int) (i : Nat) : Nat → Int :=
 let P1 := if 0 < L i then setF P (i + 1) (max (P (i + 1)) (P i)) else P
 if L i < T then setF P1 i (max (P1 i) (P1 (i + 1))) else P1
theorem Qru {L : Nat → Int} {T : Int} {P : Nat → Int} {i : Nat} : P i ≤ swp1 L T P i i ∧ (0 < L i → P i ≤ swp1 L T P i (i + 1)) ∧ P (i + 1) ≤ swp1 L T P i (i + 1) ∧ (L i < T → P (i + 1) ≤ swp1 L T P i i) := by
 unfold swp1 setF
 split <;> split <;> simp <;> omega
theorem Qpd {L : Nat → Int} {T : Int} {P : Nat → Int} {i k : Nat} (h1 : k ≠ i) (h2 : k ≠ i + 1) : swp1 L T P i k = P k := by
 unfold swp1 setF
 split <;> split <;> simp [h1, h2]
theorem Qx5 {L : Nat → Int} {T : Int} {P : Nat → Int} (i k : Nat) : P k ≤ swp1 L T P i k := by
 obtain ⟨h1, _, h2, _⟩ := Qru (L := L) (T := T) (P := P) (i := i)
 by_cases e1 : k = i
 ·subst e1; exact h1
 ·by_cases e2 : k = i + 1
  ·subst e2; exact h2
  ·rw [Qpd e1 e2]; exact Int.le_refl _
theorem swp1_of {L : Nat → Int} {T : Int} {P : Nat → Int} (i k : Nat) : swp1 L T P i k = P k ∨ (k = i + 1 ∧ 0 < L i ∧ swp1 L T P i k = P i) ∨ (k = i ∧ L i < T ∧ swp1 L T P i k = P (i + 1)) := by
 by_cases e1 : k = i
 ·subst e1
  unfold swp1 setF
  split <;> split <;> simp <;> omega
 ·by_cases e2 : k = i + 1
  ·subst e2
   unfold swp1 setF
   split <;> split <;> simp <;> omega
  ·exact Or.inl (Qpd e1 e2)
structure SwI (c L : Nat → Int) (T : Int) (n r m : Nat) (P : Nat → Int) : Prop where
 up : ∀ i, i < n → ∃ j, j < n ∧ Conn L T j i ∧ P i = c j
 fw : ∀ i j, i < n → j ≤ i → PosR L j i → (i ≤ m ∨ 0 < r) → c j ≤ P i
 bw : ∀ i j, j < n → i ≤ j → Qms L T i j → j ≤ i + r + (if i < m then 1 else 0) → c j ≤ P i
theorem Qx6 (c L : Nat → Int) (T : Int) (n : Nat) : SwI c L T n 0 0 c :=
 ⟨fun i h => ⟨i, h, Qsf .., rfl⟩, fun i j _ h1 _ h2 => by rw [show i = j by omega]; exact Int.le_refl _, fun i j _ h1 _ h2 => by rw [show i = j by rw [if_neg (by omega)] at h2; omega]; exact Int.le_refl _⟩
theorem swI_step {c L : Nat → Int} {T : Int} {n r m : Nat} {P : Nat → Int} (h : SwI c L T n r m P) (hm : m + 1 < n) : SwI c L T n r (m + 1) (swp1 L T P m) := by
 have hmono := fun k => Qx5 (L := L) (T := T) (P := P) m k
 obtain ⟨_, s2, _, s4⟩ := Qru (L := L) (T := T) (P := P) (i := m)
 refine ⟨fun i hi => ?_, fun i j hi hji hp hor => ?_, fun i j hj hij ho hle => ?_⟩
 ·rcases swp1_of (L := L) (T := T) (P := P) m i with e | ⟨rfl, hL, e⟩ | ⟨rfl, hL, e⟩
  ·rw [e]; exact h.up i hi
  ·obtain ⟨j, j1, j2, j3⟩ := h.up m (by omega)
   exact ⟨j, j1, conn_fw j2 hL, by rw [e, j3]⟩
  ·obtain ⟨j, j1, j2, j3⟩ := h.up (i + 1) (by omega)
   exact ⟨j, j1, conn_bw j2 hL, by rw [e, j3]⟩
 ·by_cases hold : i ≤ m ∨ 0 < r
  ·exact Int.le_trans (h.fw i j hi hji hp hold) (hmono i)
  ·obtain rfl : i = m + 1 := by omega
   rcases Nat.eq_or_lt_of_le hji with rfl | hlt
   ·exact Int.le_trans (h.bw _ _ hi (Nat.le_refl _) (fun k a b => by omega) (by omega)) (hmono _)
   ·have h1 := h.fw m j (by omega) (by omega) (fun k a b => hp k a (by omega)) (Or.inl (Nat.le_refl _))
    have h2 := s2 (hp m (by omega) (Nat.lt_succ_self m))
    omega
 ·by_cases hold : j ≤ i + r + (if i < m then 1 else 0)
  ·exact Int.le_trans (h.bw i j hj hij ho hold) (hmono i)
  ·have him : i = m := by
    split at hold <;> split at hle <;> omega
   subst him
   rcases Nat.eq_or_lt_of_le hij with rfl | hlt
   ·exact Int.le_trans (h.bw _ _ hj (Nat.le_refl _) ho (by omega)) (hmono _)
   ·rw [if_pos (by omega)] at hle
    have h1 := h.bw (i + 1) j hj hlt (fun k a b => ho k (by omega) b) (by omega)
    have h2 := s4 (ho i (Nat.le_refl _) hlt)
    omega
theorem Qx7 {c L : Nat → Int} {T : Int} {n r : Nat} {P : Nat → Int} (h : SwI c L T n r (n - 1) P) : SwI c L T n (r + 1) 0 P := by
 refine ⟨h.up, fun i j hi hji hp _ => h.fw i j hi hji hp (Or.inl (by omega)), fun i j hj hij ho hle => ?_⟩
 refine h.bw i j hj hij ho ?_
 rw [if_neg (by omega)] at hle
 split <;> omega
structure SwF (c L : Nat → Int) (T : Int) (n : Nat) (P : Nat → Int) : Prop where
 up : ∀ i, i < n → ∃ j, j < n ∧ Conn L T j i ∧ P i = c j
 lo : ∀ i, i < n → c i ≤ P i
 fw : ∀ i, i + 1 < n → 0 < L i → P i ≤ P (i + 1)
 bw : ∀ i, i + 1 < n → L i < T → P (i + 1) ≤ P i
theorem swI_end {c L : Nat → Int} {T : Int} {n : Nat} {P : Nat → Int} (h : SwI c L T n n 0 P) : SwF c L T n P := by
 have all : ∀ i j, i < n → j < n → Conn L T j i → c j ≤ P i := fun i j hi hj hc => by
  rcases hc with ⟨h1, h2⟩ | ⟨h1, h2⟩
  ·exact h.fw i j hi h1 h2 (Or.inr (by omega))
  ·exact h.bw i j hj h1 h2 (by omega)
 refine ⟨h.up, fun i hi => all i i hi hi (Qsf ..), fun i hi hL => ?_, fun i hi hL => ?_⟩
 ·obtain ⟨j, j1, j2, j3⟩ := h.up i (by omega)
  rw [j3]
  exact all (i + 1) j hi j1 (conn_fw j2 hL)
 ·obtain ⟨j, j1, j2, j3⟩ := h.up (i + 1) hi
  rw [j3]
  exact all i j (by omega) j1 (conn_bw j2 hL)
def topP : List GStair → Int → Int → Int
 | [], _, c => c
 | s :: l, n, c => topP l (n - min n s.Amount) (if 0 < min n s.Amount then s.Price else c)
theorem Qkm {s : GStair} {l : List GStair} (h : Qds (s :: l)) : Qds l := ⟨fun x hx => h.1 x (List.mem_cons_of_mem _ hx), (List.pairwise_cons.1 h.2).2⟩
theorem Qix (s : GStair) (l : List GStair) (a : Nat) : preS (s :: l) (a + 1) = s.Amount + preS l a := by
 simp [preS, Qdm]
theorem Qme {s : GStair} {l : List GStair} (h : Qds (s :: l)) {n p : Int} (hn : 0 ≤ n) : TkL (s :: l) n p ↔ (0 < n ∧ p = s.Price) ∨ TkL l (n - min n s.Amount) p := by
 have hA := (h.1 s (by simp)).1
 constructor
 ·rintro ⟨a, r, h1, h2, h3⟩
  cases a with
  | zero => simp at h1; subst h1; rw [Qkc] at h2; exact Or.inl ⟨h2, h3.symm⟩
  | succ a => rw [Qix] at h2; exact Or.inr ⟨a, r, by simpa using h1, by omega, h3⟩
 ·rintro (⟨h1, h2⟩ | ⟨a, r, h1, h2, h3⟩)
  ·exact ⟨0, s, rfl, by rw [Qkc]; exact h1, h2.symm⟩
  ·refine ⟨a + 1, r, by simpa using h1, ?_, h3⟩
   have := Qg8 (Qkm h) a
   rw [Qix]
   omega
theorem Qyx {s : GStair} {l : List GStair} (h : Qds (s :: l)) {n p : Int} (hn : 0 ≤ n) : FrL (s :: l) n p ↔ (n < s.Amount ∧ p = s.Price) ∨ FrL l (n - min n s.Amount) p := by
 have hA := (h.1 s (by simp)).1
 constructor
 ·rintro ⟨a, r, h1, h2, h3⟩
  cases a with
  | zero =>
   simp at h1; subst h1
   rw [Qix, Qkc] at h2
   exact Or.inl ⟨by omega, h3.symm⟩
  | succ a =>
   rw [Qix] at h2
   have h5 := (h.1 r (List.mem_of_getElem? h1)).1
   have h6 : l[a]? = some r := by simpa using h1
   have := Qg8 (Qkm h) a
   rw [Qh8 h6] at h2
   exact Or.inr ⟨a, r, h6, by rw [Qh8 h6]; omega, h3⟩
 ·rintro (⟨h1, h2⟩ | ⟨a, r, h1, h2, h3⟩)
  ·exact ⟨0, s, rfl, by rw [Qix, Qkc]; omega, h2.symm⟩
  ·refine ⟨a + 1, r, by simpa using h1, ?_, h3⟩
   rw [Qix]
   omega
theorem Quw {l : List GStair} {n p : Int} : TkL l n p → ∃ s ∈ l, s.Price = p := fun ⟨_, s, h1, _, h3⟩ => ⟨s, List.mem_of_getElem? h1, h3⟩
theorem Qqg {l : List GStair} (h : Qds l) {p : Int} : ¬ TkL l 0 p := fun ⟨a, _, _, h2, _⟩ => by
 have := Qg8 h a
 omega
theorem Qn1 : ∀ {l : List GStair}, Qds l → ∀ {n c : Int}, 0 ≤ n → (topP l n c = c ∧ ∀ p, ¬ TkL l n p) ∨ (TkL l n (topP l n c) ∧ ∀ p, TkL l n p → p ≤ topP l n c)
 | [], _, n, c, _ => Or.inl ⟨rfl, fun p ⟨a, s, h1, _⟩ => by simp at h1⟩
 | s :: l, h, n, c, hn => by
  have hA := (h.1 s (by simp)).1
  rw [topP]
  by_cases hm : 0 < min n s.Amount
  ·rw [if_pos hm]
   refine Or.inr ?_
   rcases Qn1 (Qkm h) (n := n - min n s.Amount) (c := s.Price) (by omega) with ⟨h1, h2⟩ | ⟨h1, h2⟩
   ·rw [h1]
    refine ⟨(Qme h hn).2 (Or.inl ⟨by omega, rfl⟩), fun p hp => ?_⟩
    rcases (Qme h hn).1 hp with ⟨_, e⟩ | e
    ·omega
    ·exact absurd e (h2 p)
   ·refine ⟨(Qme h hn).2 (Or.inr h1), fun p hp => ?_⟩
    rcases (Qme h hn).1 hp with ⟨_, e⟩ | e
    ·obtain ⟨r, r1, r2⟩ := Quw h1
     have := (List.pairwise_cons.1 h.2).1 r r1
     omega
    ·exact h2 p e
  ·rw [if_neg hm]
   have h0 : n = 0 := by omega
   subst h0
   rcases Qn1 (Qkm h) (n := 0 - min 0 s.Amount) (c := c) (by omega) with ⟨h1, h2⟩ | ⟨h1, h2⟩
   ·exact Or.inl ⟨h1, fun p hp => Qqg h hp⟩
   ·rw [show (0 : Int) - min 0 s.Amount = 0 by omega] at h1
    exact absurd h1 (Qqg (Qkm h))
def shS (P : Int) : List GStair → Int → Bool
 | [], _ => true
 | s :: l, y => !(decide (min y s.Amount > 0) && decide (s.Price > P) || decide (min y s.Amount < s.Amount) && decide (s.Price < P)) && shS P l (y - min y s.Amount)
theorem shS_of {P : Int} : ∀ {l : List GStair}, Qds l → ∀ {x : Int}, 0 ≤ x → (∀ p, TkL l x p → p ≤ P) → (∀ q, FrL l x q → P ≤ q) → shS P l x = true
 | [], _, _, _, _, _ => rfl
 | s :: l, h, x, hx, h1, h2 => by
  rw [shS, shS_of (Qkm h) (by omega) (fun p hp => h1 p ((Qme h hx).2 (Or.inr hp))) (fun q hq => h2 q ((Qyx h hx).2 (Or.inr hq)))]
  have hA := (h.1 s (by simp)).1
  have a1 : min x s.Amount > 0 → s.Price ≤ P := fun hm => h1 s.Price ((Qme h hx).2 (Or.inl ⟨by omega, rfl⟩))
  have a2 : min x s.Amount < s.Amount → P ≤ s.Price := fun hm => h2 s.Price ((Qyx h hx).2 (Or.inl ⟨by omega, rfl⟩))
  simp only [Bool.and_true, Bool.not_eq_true', Bool.or_eq_false_iff, Bool.and_eq_false_iff, decide_eq_false_iff_not]
  omega
def lev (S : Int) (x use : Nat → Int) : Nat → Int
 | 0 => S + x 0 - use 0
 | i + 1 => lev S x use i + x (i + 1) - use (i + 1)
def sumN (f : Nat → Int) : Nat → Int
 | 0 => 0
 | n + 1 => sumN f n + f n
structure PlanOK (H : Nat → List GStair) (use : Nat → Int) (S T : Int) (n : Nat) (x : Nat → Int) : Prop where
 fit : ∀ i, i < n → 0 ≤ x i ∧ x i ≤ Qdm (H i)
 tank : ∀ i, i < n → 0 ≤ lev S x use i ∧ lev S x use i ≤ T
structure ShOK (H : Nat → List GStair) (use : Nat → Int) (S T : Int) (n : Nat) (x P : Nat → Int) : Prop where
 plan : PlanOK H use S T n x
 bd : ∀ i, i < n → 0 ≤ P i ∧ P i ≤ 1000
 sh : ∀ i, i < n → shS (P i) (H i) (x i) = true
 up : ∀ i, i + 1 < n → lev S x use i < T → P (i + 1) ≤ P i
 dn : ∀ i, i + 1 < n → 0 < lev S x use i → P i ≤ P (i + 1)
 last : ∀ i, i + 1 = n → lev S x use i = 0 ∨ P i = 0
theorem found {H : Nat → List GStair} {use x L P : Nat → Int} {S T : Int} {n : Nat} (hs : ∀ i, i < n → Qds (H i)) (hpl : PlanOK H use S T n x) (hL : ∀ i, i < n → L i = lev S x use i) (hI : GrI H x L T (n - 1)) (hP : SwF (fun i => topP (H i) (x i) 0) L T n P) (hlast : ∀ i, i + 1 = n → 0 < L i → ∀ j, j < n → x j = 0) : ShOK H use S T n x P := by
 have tops : ∀ j, j < n → (topP (H j) (x j) 0 = 0 ∧ ∀ p, ¬ TkL (H j) (x j) p) ∨ (TkL (H j) (x j) (topP (H j) (x j) 0) ∧ ∀ p, TkL (H j) (x j) p → p ≤ topP (H j) (x j) 0) := fun j hj => Qn1 (hs j hj) (hpl.fit j hj).1
 refine ⟨hpl, fun i hi => ?_, fun i hi => ?_, fun i hi h => ?_, fun i hi h => ?_, fun i hi => ?_⟩
 ·obtain ⟨j, j1, _, j3⟩ := hP.up i hi
  rw [j3]
  rcases tops j j1 with ⟨e, _⟩ | ⟨e, _⟩
  ·omega
  ·obtain ⟨r, r1, r2⟩ := Quw e
   have := (hs j j1).1 r r1
   omega
 ·refine shS_of (hs i hi) (hpl.fit i hi).1 (fun p hp => ?_) (fun q hq => ?_)
  ·have := hP.lo i hi
   rcases tops i hi with ⟨_, e⟩ | ⟨_, e⟩
   ·exact absurd hp (e p)
   ·have := e p hp; omega
  ·obtain ⟨j, j1, j2, j3⟩ := hP.up i hi
   rw [j3]
   rcases tops j j1 with ⟨e, _⟩ | ⟨e, _⟩
   ·obtain ⟨b, r, r1, r2, r3⟩ := hq
    have := (hs i hi).1 r (List.mem_of_getElem? r1)
    omega
   ·exact hI i j (by omega) (by omega) j2 _ q e hq
 ·exact hP.bw i hi (by rw [hL i (by omega)]; exact h)
 ·exact hP.fw i hi (by rw [hL i (by omega)]; exact h)
 ·rw [← hL i (by omega)]
  by_cases h0 : 0 < L i
  ·refine Or.inr ?_
   obtain ⟨j, j1, _, j3⟩ := hP.up i (by omega)
   rw [j3]
   rcases tops j j1 with ⟨e, _⟩ | ⟨e, _⟩
   ·exact e
   ·rw [hlast i hi h0 j j1] at e
    exact absurd e (Qqg (hs j j1))
  ·have := (hpl.tank i (by omega)).1
   rw [← hL i (by omega)] at this
   exact Or.inl (by omega)
end Go.Proofs.Ytgdepcgbjjgnfaa
