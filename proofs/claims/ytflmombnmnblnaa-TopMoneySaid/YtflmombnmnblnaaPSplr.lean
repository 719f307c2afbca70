/-
  Plain: an amount in parts: who gets what is left over. No conditions.
-/
import Derived.Test.YtflmombnmnblnaaPSpll
namespace Go.Proofs.Ytflmombnmnblnaa
open Go.RowKit
theorem swap_perm {α : Type} {l : List α} {i : Nat} {x y : α} (hx : l[i]? = some x) (hy : l[i + 1]? = some y) : ((l.set (i + 1) x).set i y).Perm l := by
 obtain ⟨A, B, rfl, hA⟩ : ∃ A B, l = A ++ x :: y :: B ∧ A.length = i := by
  have h1 := (List.getElem?_eq_some_iff.1 hy).1
  refine ⟨l.take i, l.drop (i + 2), ?_, by simp; omega⟩
  have e1 : l.drop i = x :: l.drop (i + 1) := by
   rw [List.drop_eq_getElem_cons (by omega)]
   rw [List.getElem?_eq_getElem (by omega)] at hx
   cases hx; rfl
  have e2 : l.drop (i + 1) = y :: l.drop (i + 2) := by
   rw [List.drop_eq_getElem_cons (by omega)]
   rw [List.getElem?_eq_getElem (by omega)] at hy
   cases hy; rfl
  rw [← e2, ← e1, List.take_append_drop]
 have e1 : (A ++ x :: y :: B).set (i + 1) x = A ++ x :: x :: B := by
  rw [List.set_append_right _ _ (by omega), show i + 1 - A.length = 1 by omega]; rfl
 have e2 : (A ++ x :: x :: B).set i y = A ++ y :: x :: B := by
  rw [List.set_append_right _ _ (by omega), show i - A.length = 0 by omega]; rfl
 rw [e1, e2]
 exact List.Perm.append_left A (List.Perm.swap x y B)
section
variable {N L : Nat} {p : List GPortion}
theorem cmp_some {a b : Int} (ha : 0 ≤ a ∧ a < p.length) (hb : 0 ≤ b ∧ b < p.length) : ∃ c, Qa0 N a b p = some c := by
 obtain ⟨x, hx⟩ : ∃ x, p[a.toNat]? = some x := ⟨_, List.getElem?_eq_getElem (by omega)⟩
 obtain ⟨y, hy⟩ : ∃ y, p[b.toNat]? = some y := ⟨_, List.getElem?_eq_getElem (by omega)⟩
 unfold Qa0
 simp only [getI, ha.1, hb.1, if_true, hx, hy, Option.bind_some, Qea]
 cases decide (x.left > y.left)
 ·cases decide (x.left < y.left)
  ·exact ⟨_, rfl⟩
  ·exact ⟨_, rfl⟩
 ·exact ⟨_, rfl⟩
def Ixs (p : List GPortion) (l : List Int) : Prop := ∀ x ∈ l, 0 ≤ x ∧ x < p.length
theorem in_loop (hL : L ≤ 8) (k : List Int → Option (List Int)) (R : Option (List Int) → Prop) (l0 : List Int) (hk : ∀ l, l.Perm l0 → R (k l)) : ∀ (n i : Nat) (l : List Int), i < n → i < L → l.length = L → Ixs p l → l.Perm l0 →
  R (Qat N L 0 p k n i l) := by
 intro n
 induction n with
 | zero => intro i _ h; exact absurd h (Nat.not_lt_zero _)
 | succ n ih =>
  intro i l hn hi hl hx hp
  rw [Qat]
  simp only [Qcg]
  cases i with
  | zero => simpa using hk l hp
  | succ i =>
   have e1 : w64 (((i + 1 : Nat) : Int) - 1) = (i : Int) := by rw [Qb3 (by omega) (by omega)]; omega
   have e2 : (((i + 1 : Nat) : Int)).toNat = i + 1 := by omega
   have e3 : ((i : Int)).toNat = i := by omega
   obtain ⟨y, hy⟩ : ∃ y, l[i + 1]? = some y := ⟨_, List.getElem?_eq_getElem (by omega)⟩
   obtain ⟨x, hx'⟩ : ∃ x, l[i]? = some x := ⟨_, List.getElem?_eq_getElem (by omega)⟩
   obtain ⟨c, hc⟩ := cmp_some (N := N) (hx y (List.mem_of_getElem? hy)) (hx x (List.mem_of_getElem? hx'))
   have c1 : (decide ((0 : Int) ≤ ((i + 1 : Nat) : Int)) && decide (i + 1 < L)) = true := by simp; omega
   have c2 : (decide ((0 : Int) ≤ (i : Int)) && decide (i < L)) = true := by simp; omega
   have hs : (l.set (i + 1) x)[i]? = some x := by rw [List.getElem?_set_ne (by omega)]; exact hx'
   simp only [show decide (((i + 1 : Nat) : Int) > 0) = true from decide_eq_true (by omega), cond_true, e1, e2, e3, chk, c1, c2, hy, hx', Option.bind_some, hc, hs]
   cases decide (c < 0) with
   | false => exact hk l hp
   | true =>
    have hsw := swap_perm hx' hy
    exact ih i _ (by omega) (by omega) (by simp [hl]) (fun z hz => hx z (hsw.mem_iff.1 hz)) (hsw.trans hp)
theorem out_loop (hL : L ≤ 8) (hN : 1000 ≤ N) (l0 : List Int) (h0 : Ixs p l0) : ∀ (n i : Nat) (l : List Int), L - i < n → l.length = L → l.Perm l0 → ∃ l', Qau N L 0 L p n i l = some l' ∧ l'.Perm l0 := by
 intro n
 induction n with
 | zero => intro i _ h; exact absurd h (Nat.not_lt_zero _)
 | succ n ih =>
  intro i l hn hl hp
  rw [Qau]
  simp only [Qcg]
  by_cases h : i < L
  ·rw [show decide ((i : Int) < (L : Int)) = true from by simpa using h, cond_true]
   have e1 : w64 ((i : Int) + 1) = ((i + 1 : Nat) : Int) := Qb3 (by omega) (by omega)
   refine in_loop hL _ (fun o => ∃ l', o = some l' ∧ l'.Perm l0) l0 (fun l2 h2 => ?_) N i l (by omega) h hl (fun z hz => h0 z (hp.mem_iff.1 hz)) hp
   rw [e1]
   exact ih (i + 1) l2 (by omega) (by rw [h2.length_eq, ← hp.length_eq, hl]) h2
  ·rw [show decide ((i : Int) < (L : Int)) = false from by simpa using h, cond_false]
   exact ⟨l, rfl, hp⟩
theorem sortL_eq (hN : 1000 ≤ N) {l : List Int} (hl : l.length ≤ 8) (h : Ixs p l) : ∃ l', Qbb N l.length l p = some l' ∧ l'.Perm l := by
 obtain ⟨l', h1, h2⟩ := out_loop (N := N) (p := p) hl hN l h N 1 l (by omega) rfl (.refl _)
 refine ⟨l', ?_, h2⟩
 obtain ⟨m, rfl⟩ : ∃ m, N = m + 1 := ⟨N - 1, by omega⟩
 unfold Qbb Qcz
 simp only [Qcg]
 rw [Qa8, show decide ((20 : Int) ≤ (l.length : Int)) = false from by simp; omega, cond_false]
 dsimp only
 unfold Qbi
 rw [show w64 ((0 : Int) + 1) = ((1 : Nat) : Int) from Qb3 (by decide) (by decide), h1, Option.bind_some, Qa2, show decide ((20 : Int) < (l.length : Int)) = false from by simp; omega, cond_false]
 rfl
end
def ixs (n : Nat) : List Int := (List.range n).map fun j : Nat => (j : Int)
theorem ixs_len (n : Nat) : (ixs n).length = n := by simp [ixs]
theorem num_loop (N : Nat) (p : List GPortion) (k : List Int → Option (List Int)) (h8 : p.length ≤ 8) : ∀ (n i : Nat) (l : List Int), p.length - i < n → i ≤ p.length → l = ixs i →
  Qaz N p k n i l = k (ixs p.length) := by
 intro n
 induction n with
 | zero => intro i _ h; exact absurd h (Nat.not_lt_zero _)
 | succ n ih =>
  intro i l hn hi hl
  rw [Qaz]
  by_cases h : i < p.length
  ·have e1 : w64 ((i : Int) + 1) = ((i + 1 : Nat) : Int) := Qb3 (by omega) (by omega)
   rw [show decide ((i : Int) < (p.length : Int)) = true from by simpa using h, cond_true, e1]
   simp only [chk]
   rw [show decide ((l.length + [(i : Int)].length) * 8 ≤ 140737488355328) = true from by rw [hl, ixs_len]; simp; omega, cond_true]
   exact ih (i + 1) _ (by omega) (by omega) (by rw [hl]; simp [ixs, List.range_succ])
  ·rw [show decide ((i : Int) < (p.length : Int)) = false from by simpa using h, cond_false, hl, show i = p.length by omega]
theorem ranked_eq {N : Nat} {p : List GPortion} (hN : 1000 ≤ N) (h8 : p.length ≤ 8) (h0 : p ≠ []) : ∃ l, Qbx N p = some l ∧ l.Perm (ixs p.length) := by
 have hlen : (ixs p.length).length = p.length := ixs_len _
 obtain ⟨l, h1, h2⟩ := sortL_eq (N := N) (p := p) hN (l := ixs p.length) (by omega) (fun x hx => by
  obtain ⟨j, hj, rfl⟩ := List.mem_map.1 hx
  have := List.mem_range.1 hj
  omega)
 refine ⟨l, ?_, h2⟩
 have h3 := h2.length_eq
 have hp : 0 < p.length := List.length_pos_iff.2 h0
 unfold Qbx
 simp only [Qcg]
 have := num_loop N p (fun y3 => chk (!y3.isEmpty) <| (Qbb N y3.length y3 p).bind fun x7 => chk (decide (y3.length ≤ x7.length)) <| some (x7.take y3.length)) h8 N 0 [] (by omega) (by omega) rfl
 refine this.trans ?_
 simp only [h1, Option.bind_some, chk]
 have he : (!(ixs p.length).isEmpty) = true := by
  cases hh : (ixs p.length) with
  | nil => rw [hh] at hlen; simp at hlen; omega
  | cons => rfl
 rw [he, cond_true, show decide ((ixs p.length).length ≤ l.length) = true from by rw [h3]; simp, cond_true, List.take_of_length_le (by omega)]
theorem set_sum : ∀ (o : List Int) (i : Nat) (x y : Int), o[i]? = some x → (o.set i y).sum = o.sum + (y - x)
 | [], _, _, _, h => by simp at h
 | a :: o, 0, x, y, h => by simp at h; subst h; simp only [List.set_cons_zero, List.sum_cons]; omega
 | a :: o, i + 1, x, y, h => by
  have := set_sum o i x y (by simpa using h)
  simp only [List.set_cons_succ, List.sum_cons, this]; omega
theorem bump_loop (N : Nat) (w : List Int) (rest : Int) (x21 : List Int) (k : List Int → Option (List Int × Int)) (h8 : w.length ≤ 8) (is : List Int) (his : x21.take (rest.toNat - 0) = is) (hlen : is.length ≤ 8) : ∀ (n i : Nat) (o : List Int), (is.drop i).length < n → o.length = w.length → (is.drop i).Nodup → (∀ x ∈ is, 0 ≤ x ∧ x < w.length) → (∀ x ∈ o, 0 ≤ x ∧ x ≤ 1000000000000 + i) →
  ∃ r, Qc4 N w rest k x21 n i o = k r ∧ r.length = w.length ∧ r.sum = o.sum + (is.drop i).length ∧ ∀ (j : Nat) x, o[j]? = some x → ∃ y, r[j]? = some y ∧ x ≤ y ∧ y ≤ x + 1 ∧ ((j : Int) ∉ is.drop i → y = x) := by
 intro n
 induction n with
 | zero => intro i _ h; exact absurd h (Nat.not_lt_zero _)
 | succ n ih =>
  intro i o h ho hnd hin hob
  rw [Qc4, his]
  cases hd : is.drop i with
  | nil =>
   have := Qed hd
   refine ⟨o, ?_, ho, by simp, fun j x hx => ⟨x, hx, Int.le_refl _, by omega, fun _ => rfl⟩⟩
   simp [show ¬ ((i : Int) < is.length) from by omega]
  | cons b t =>
   obtain ⟨hg, hd', hlt⟩ := Qdu hd
   obtain ⟨b0, b1⟩ := hin b (List.mem_of_getElem? hg)
   have e1 : w64 ((i : Int) + 1) = ((i + 1 : Nat) : Int) := Qb3 (by omega) (by omega)
   obtain ⟨x, hx⟩ : ∃ x, o[b.toNat]? = some x := ⟨_, List.getElem?_eq_getElem (by omega)⟩
   have hxb := hob x (List.mem_of_getElem? hx)
   have e2 : w64 (x + 1) = x + 1 := Qb3 (by omega) (by omega)
   have c1 : (decide ((0 : Int) ≤ b) && decide (b.toNat < (w.length : Int).toNat)) = true := by simp; omega
   simp only [show decide ((i : Int) < is.length) = true from by simpa using hlt, cond_true, Qei hg, Option.bind_some, e1, chk, c1, hx, e2]
   rw [hd] at hnd
   have hnd' := List.nodup_cons.1 hnd
   obtain ⟨r, r1, r2, r3, r4⟩ := ih (i + 1) (o.set b.toNat (x + 1)) (by rw [hd']; rw [hd] at h; simp at h; omega) (by simp [ho]) (by rw [hd']; exact hnd'.2) hin (fun z hz => by
    rcases List.mem_or_eq_of_mem_set hz with hz | rfl
    ·have := hob z hz; omega
    ·omega)
   refine ⟨r, r1, r2, ?_, fun j z hz => ?_⟩
   ·rw [r3, set_sum o _ x _ hx, hd']; simp; omega
   ·by_cases hj : j = b.toNat
    ·subst hj
     rw [hx] at hz; cases hz
     obtain ⟨y, y1, y2, y3, y4⟩ := r4 b.toNat (x + 1) (by rw [List.getElem?_set_self (by omega)])
     have := y4 (by rw [hd', show ((b.toNat : Nat) : Int) = b by omega]; exact hnd'.1)
     exact ⟨y, y1, by omega, by omega, fun hn => absurd (by simp; omega) hn⟩
    ·obtain ⟨y, y1, y2, y3, y4⟩ := r4 j z (by rw [List.getElem?_set_ne (by omega)]; exact hz)
     exact ⟨y, y1, y2, y3, fun hn => y4 (by rw [hd']; exact fun hm => hn (List.mem_cons_of_mem _ hm))⟩
end Go.Proofs.Ytflmombnmnblnaa
