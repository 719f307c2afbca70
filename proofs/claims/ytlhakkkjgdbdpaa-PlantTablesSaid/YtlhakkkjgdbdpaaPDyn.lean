/-
  Plain laws of tables and best plans (dispatching): the best of several, tables, plans. No conditions.
-/
import Derived.Test.YtlhakkkjgdbdpaaPJob
namespace Go.Proofs.Ytlhakkkjgdbdpaa
def mx (c : Nat → Option Int) : Nat → Nat → Int → Int
 | 0, _, a => a
 | n + 1, i, a => mx c n (i + 1) (match c i with | some v => max a v | none => a)
theorem mx_ge (c : Nat → Option Int) : ∀ (n i : Nat) (a : Int), a ≤ mx c n i a ∧ ∀ (k : Nat) (v : Int), i ≤ k → k < i + n → c k = some v → v ≤ mx c n i a := by
 intro n
 induction n with
 | zero => intro i a; exact ⟨Int.le_refl _, fun k v h1 h2 => by omega⟩
 | succ n ih =>
  intro i a
  rw [mx]
  have h := ih (i + 1) (match c i with | some v => max a v | none => a)
  have h0 : a ≤ (match c i with | some v => max a v | none => a) := by
   split
   ·exact Int.le_max_left _ _
   ·exact Int.le_refl _
  refine ⟨Int.le_trans h0 h.1, fun k v h1 h2 hv => ?_⟩
  rcases Nat.eq_or_lt_of_le h1 with rfl | h3
  ·have : v ≤ (match c i with | some v => max a v | none => a) := by rw [hv]; exact Int.le_max_right _ _
   exact Int.le_trans this h.1
  ·exact h.2 k v h3 (by omega) hv
theorem mx_or (c : Nat → Option Int) : ∀ (n i : Nat) (a : Int), mx c n i a = a ∨ ∃ k, i ≤ k ∧ k < i + n ∧ c k = some (mx c n i a) := by
 intro n
 induction n with
 | zero => intro i a; exact Or.inl rfl
 | succ n ih =>
  intro i a
  rw [mx]
  rcases ih (i + 1) (match c i with | some v => max a v | none => a) with h | ⟨k, h1, h2, h3⟩
  ·cases hc : c i with
   | none => rw [hc] at h; exact Or.inl h
   | some v =>
    rw [hc] at h
    simp only at h ⊢
    rcases Int.le_total a v with h' | h'
    ·rw [Int.max_eq_right h'] at h ⊢; exact Or.inr ⟨i, Nat.le_refl _, by omega, by rw [hc, h]⟩
    ·rw [Int.max_eq_left h'] at h ⊢; exact Or.inl h
  ·exact Or.inr ⟨k, by omega, by omega, h3⟩
def fmx (c : Nat → Option Int) : Nat → Nat → Option (Nat × Int)
 | 0, _ => none
 | n + 1, i => match c i, fmx c n (i + 1) with
  | none, r => r
  | some v, none => some (i, v)
  | some v, some (k, w) => if v < w then some (k, w) else some (i, v)
theorem Qxc {c : Nat → Option Int} : ∀ {n i : Nat}, fmx c n i = none → ∀ k, i ≤ k → k < i + n → c k = none := by
 intro n
 induction n with
 | zero => intro i _ k h1 h2; omega
 | succ n ih =>
  intro i h k h1 h2
  rw [fmx] at h
  cases hc : c i with
  | none =>
   rw [hc] at h
   rcases Nat.eq_or_lt_of_le h1 with rfl | h3
   ·exact hc
   ·exact ih h k h3 (by omega)
  | some v =>
   rw [hc] at h
   cases hr : fmx c n (i + 1) with
   | none => rw [hr] at h; cases h
   | some p => obtain ⟨k', w⟩ := p; rw [hr] at h; simp only at h; split at h <;> cases h
theorem fmx_some {c : Nat → Option Int} : ∀ {n i k : Nat} {v : Int}, fmx c n i = some (k, v) → (i ≤ k ∧ k < i + n ∧ c k = some v) ∧ (∀ m w, i ≤ m → m < i + n → c m = some w → w ≤ v) ∧ ∀ m w, i ≤ m → m < k → c m = some w → w < v := by
 intro n
 induction n with
 | zero => intro i k v h; cases h
 | succ n ih =>
  intro i k v h
  rw [fmx] at h
  cases hc : c i with
  | none =>
   rw [hc] at h
   obtain ⟨⟨a1, a2, a3⟩, a4, a5⟩ := ih h
   refine ⟨⟨by omega, by omega, a3⟩, fun m w h1 h2 hm => ?_, fun m w h1 h2 hm => ?_⟩
   ·rcases Nat.eq_or_lt_of_le h1 with rfl | h3
    ·rw [hc] at hm; cases hm
    ·exact a4 m w h3 (by omega) hm
   ·rcases Nat.eq_or_lt_of_le h1 with rfl | h3
    ·rw [hc] at hm; cases hm
    ·exact a5 m w h3 h2 hm
  | some x =>
   rw [hc] at h
   cases hr : fmx c n (i + 1) with
   | none =>
    rw [hr] at h
    simp only [Option.some.injEq, Prod.mk.injEq] at h
    obtain ⟨rfl, rfl⟩ := h
    refine ⟨⟨Nat.le_refl _, by omega, hc⟩, fun m w h1 h2 hm => ?_, fun m w h1 h2 => by omega⟩
    rcases Nat.eq_or_lt_of_le h1 with rfl | h3
    ·rw [hc] at hm; cases hm; exact Int.le_refl _
    ·rw [Qxc hr m h3 (by omega)] at hm; cases hm
   | some p =>
    obtain ⟨k', y⟩ := p
    obtain ⟨⟨a1, a2, a3⟩, a4, a5⟩ := ih hr
    rw [hr] at h
    simp only at h
    split at h
    ·next hlt =>
     simp only [Option.some.injEq, Prod.mk.injEq] at h
     obtain ⟨rfl, rfl⟩ := h
     refine ⟨⟨by omega, by omega, a3⟩, fun m w h1 h2 hm => ?_, fun m w h1 h2 hm => ?_⟩
     ·rcases Nat.eq_or_lt_of_le h1 with rfl | h3
      ·rw [hc] at hm; cases hm; omega
      ·exact a4 m w h3 (by omega) hm
     ·rcases Nat.eq_or_lt_of_le h1 with rfl | h3
      ·rw [hc] at hm; cases hm; exact hlt
      ·exact a5 m w h3 h2 hm
    ·next hlt =>
     simp only [Option.some.injEq, Prod.mk.injEq] at h
     obtain ⟨rfl, rfl⟩ := h
     refine ⟨⟨Nat.le_refl _, by omega, hc⟩, fun m w h1 h2 hm => ?_, fun m w h1 h2 => by omega⟩
     rcases Nat.eq_or_lt_of_le h1 with rfl | h3
     ·rw [hc] at hm; cases hm; exact Int.le_refl _
     ·have := a4 m w h3 (by omega) hm; omega
section Dyn
variable {H : Type} (L : Nat) (fol : H → Int → Int → Bool) (gn : H → Int → Int → Int)
def Qki (nx : Int → Int) (h : H) (l : Int) (k : Nat) : Option Int := bif fol h l k then some (gn h l k + nx k) else none
def bell (nx : Int → Int) (h : H) (l : Int) : Int := mx (Qki fol gn nx h l) L 0 (-1000000000000)
def tabV : List H → Int → Int
 | [], _ => 0
 | h :: hs, l => bell L fol gn (tabV hs) h l
def mayV : List H → Int → Bool
 | [], _ => true
 | h :: hs, l => (List.range L).any fun k => fol h l (k : Int) && mayV hs (k : Int)
def Qqj (h : H) (hs : List H) (l : Int) (k : Nat) : Option Int := bif fol h l k && mayV L fol hs k then some (gn h l k + tabV L fol gn hs k) else none
def kF (h : H) (hs : List H) (l : Int) : Nat := ((fmx (Qqj L fol gn h hs l) L 0).map (·.1)).getD 0
def Qpt : List H → Int → List Int
 | [], _ => []
 | h :: hs, l => (kF L fol gn h hs l : Int) :: Qpt hs (kF L fol gn h hs l)
def Qku : List H → Int → List Int → Option Int
 | [], _, [] => some 0
 | h :: hs, l, k :: p => bif fol h l k then (Qku hs k p).map (gn h l k + ·) else none
 | _, _, _ => none
variable {L fol gn}
theorem tab_bd (hs : List H) (hg : ∀ h ∈ hs, ∀ l k, -2000000000 ≤ gn h l k ∧ gn h l k ≤ 1000000000) (hl : hs.length ≤ 100) (l : Int) :
  -1000000000000 ≤ tabV L fol gn hs l ∧ tabV L fol gn hs l ≤ 1000000000 * hs.length ∧ (mayV L fol hs l = true → -2000000000 * (hs.length : Int) ≤ tabV L fol gn hs l) ∧ (mayV L fol hs l = false → tabV L fol gn hs l ≤ -1000000000000 + 1000000000 * hs.length) := by
 induction hs generalizing l with
 | nil => simp [tabV, mayV]
 | cons h hs ih =>
  have ih := fun l => ih (fun x hx => hg x (List.mem_cons_of_mem _ hx)) (by simp at hl; omega) l
  have hg := hg h (List.mem_cons_self ..)
  have hge := mx_ge (Qki fol gn (tabV L fol gn hs) h l) L 0 (-1000000000000)
  have hor := mx_or (Qki fol gn (tabV L fol gn hs) h l) L 0 (-1000000000000)
  have e : tabV L fol gn (h :: hs) l = mx (Qki fol gn (tabV L fol gn hs) h l) L 0 (-1000000000000) := rfl
  rw [e]
  generalize mx (Qki fol gn (tabV L fol gn hs) h l) L 0 (-1000000000000) = M at hge hor
  have hlen : ((h :: hs).length : Int) = hs.length + 1 := by simp
  rw [hlen]
  simp only [List.length_cons] at hl
  refine ⟨hge.1, ?_, fun hm => ?_, fun hm => ?_⟩
  ·rcases hor with rfl | ⟨k, h1, h2, h3⟩
   ·omega
   ·unfold Qki at h3
    cases hf : fol h l k with
    | false => rw [hf] at h3; cases h3
    | true =>
     rw [hf] at h3
     simp only [cond_true, Option.some.injEq] at h3
     have := ih k
     have := hg l k
     omega
  ·rw [mayV, List.any_eq_true] at hm
   obtain ⟨k, hk, hf⟩ := hm
   simp only [Bool.and_eq_true] at hf
   have h1 := hge.2 k _ (Nat.zero_le _) (by have := List.mem_range.1 hk; omega) (by unfold Qki; rw [hf.1]; rfl)
   have := (ih k).2.2.1 hf.2
   have := hg l k
   omega
  ·rcases hor with rfl | ⟨k, h1, h2, h3⟩
   ·omega
   ·unfold Qki at h3
    cases hf : fol h l k with
    | false => rw [hf] at h3; cases h3
    | true =>
     rw [hf] at h3
     simp only [cond_true, Option.some.injEq] at h3
     have h4 : mayV L fol hs k = false := by
      cases h5 : mayV L fol hs k with
      | false => rfl
      | true =>
       have : mayV L fol (h :: hs) l = true := by
        rw [mayV, List.any_eq_true]
        exact ⟨k, List.mem_range.2 (by omega), by rw [hf, h5]; rfl⟩
       rw [this] at hm; cases hm
     have := (ih k).2.2.2 h4
     have := hg l k
     omega
theorem fmx_tab {h : H} {hs : List H} (hg : ∀ x ∈ h :: hs, ∀ l k, -2000000000 ≤ gn x l k ∧ gn x l k ≤ 1000000000) (hl : hs.length < 100) (l : Int) :
  fmx (Qqj L fol gn h hs l) L 0 = bif mayV L fol (h :: hs) l then some (kF L fol gn h hs l, tabV L fol gn (h :: hs) l) else none := by
 cases hf : fmx (Qqj L fol gn h hs l) L 0 with
 | none =>
  have h1 := Qxc hf
  cases hm : mayV L fol (h :: hs) l with
  | false => rfl
  | true =>
   rw [mayV, List.any_eq_true] at hm
   obtain ⟨k, hk, hf⟩ := hm
   have h2 := h1 k (Nat.zero_le _) (by have := List.mem_range.1 hk; omega)
   unfold Qqj at h2
   rw [hf] at h2
   cases h2
 | some p =>
  obtain ⟨k, v⟩ := p
  have hkF : kF L fol gn h hs l = k := by unfold kF; rw [hf]; rfl
  obtain ⟨⟨h1, h2, h3⟩, h4, h5⟩ := fmx_some hf
  unfold Qqj at h3
  cases hc : fol h l k && mayV L fol hs k with
  | false => rw [hc] at h3; cases h3
  | true =>
   rw [hc] at h3
   simp only [cond_true, Option.some.injEq] at h3
   have hm : mayV L fol (h :: hs) l = true := by
    rw [mayV, List.any_eq_true]
    exact ⟨k, List.mem_range.2 (by omega), hc⟩
   rw [hm, cond_true, hkF]
   congr 2
   simp only [Bool.and_eq_true] at hc
   have hbd := fun l => tab_bd (L := L) (fol := fol) (gn := gn) hs (fun x hx => hg x (List.mem_cons_of_mem _ hx)) (by omega) l
   have hgn := hg h (List.mem_cons_self ..)
   have hge := mx_ge (Qki fol gn (tabV L fol gn hs) h l) L 0 (-1000000000000)
   have hor := mx_or (Qki fol gn (tabV L fol gn hs) h l) L 0 (-1000000000000)
   have e : tabV L fol gn (h :: hs) l = mx (Qki fol gn (tabV L fol gn hs) h l) L 0 (-1000000000000) := rfl
   rw [e]
   clear e
   generalize mx (Qki fol gn (tabV L fol gn hs) h l) L 0 (-1000000000000) = M at hge hor
   have hv : v ≤ M := hge.2 k v h1 h2 (by unfold Qki; rw [hc.1, ← h3]; rfl)
   have hlo := (hbd k).2.2.1 hc.2
   have hgk := hgn l k
   rcases hor with h6 | ⟨m, h6, h7, h8⟩
   ·omega
   ·have h9 := h8
    unfold Qki at h8
    cases hfm : fol h l m with
    | false => rw [hfm] at h8; cases h8
    | true =>
     rw [hfm] at h8
     simp only [cond_true, Option.some.injEq] at h8
     cases hmm : mayV L fol hs m with
     | false =>
      have := (hbd m).2.2.2 hmm
      have := hgn l m
      omega
     | true =>
      have := h4 m _ h6 h7 (by unfold Qqj; rw [hfm, hmm]; rfl)
      omega
theorem planF_len (hs : List H) : ∀ l, (Qpt L fol gn hs l).length = hs.length := by
 induction hs with
 | nil => intro l; rfl
 | cons h hs ih => intro l; simp [Qpt, ih]
theorem Qts {hs : List H} : ∀ {l : Int} {p : List Int} {v : Int}, Qku fol gn hs l p = some v → p.length = hs.length := by
 induction hs with
 | nil => intro l p v h; cases p with | nil => rfl | cons _ _ => cases h
 | cons x hs ih =>
  intro l p v h
  cases p with
  | nil => cases h
  | cons k p =>
   rw [Qku] at h
   cases hf : fol x l k with
   | false => rw [hf] at h; cases h
   | true =>
    rw [hf, cond_true, Option.map_eq_some_iff] at h
    obtain ⟨w, hw, -⟩ := h
    simp [ih hw]
end Dyn
end Go.Proofs.Ytlhakkkjgdbdpaa
