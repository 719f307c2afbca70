/-
  Plain laws of sharing steam part by part, the greatest gain first: what is taken, what is left, and prices that show that nothing is better. No conditions.
-/
import Derived.Test.YtlhakkkjgdbdpaaPShc
import Derived.Test.YtlhakkkjgdbdpaaPSym
namespace Go.Proofs.Ytlhakkkjgdbdpaa
open Go.RowKit
def inl (us : List GUnit) (p : GPiece) : Nat := ((us.getD p.unit.toNat ⟨0, []⟩).Inlet).toNat
def tk (us : List GUnit) (r : Nat → Int) (p : GPiece) : Int := if minI r (inl us p) < p.Part.Width then minI r (inl us p) else p.Part.Width
def lower (r : Nat → Int) (c : Nat) (m : Int) : Nat → Int := fun k => if k ≤ c then r k - m else r k
def gre (us : List GUnit) : List GPiece → (Nat → Int) → List (GPiece × Int)
 | [], _ => []
 | p :: l, r => (p, tk us r p) :: gre us l (lower r (inl us p) (tk us r p))
def massT : List (GPiece × Int) → Nat → Int
 | [], _ => 0
 | q :: T, i => (if q.1.unit.toNat = i then q.2 else 0) + massT T i
def Wide (l : List GPiece) : Prop := ∀ p ∈ l, 1 ≤ p.Part.Width
section
variable {us : List GUnit}
theorem tk_bd {r : Nat → Int} {p : GPiece} (hr : ∀ k, 0 ≤ r k) (hw : 1 ≤ p.Part.Width) : 0 ≤ tk us r p ∧ tk us r p ≤ p.Part.Width ∧ ∀ k, k ≤ inl us p → tk us r p ≤ r k := by
 obtain ⟨j, _, j2⟩ := Qw1 r (inl us p)
 have h0 := hr j
 unfold tk
 refine ⟨by split <;> omega, by split <;> omega, fun k hk => ?_⟩
 have := minI_le r (inl us p) k hk
 split <;> omega
theorem low_nn {r : Nat → Int} {p : GPiece} (hr : ∀ k, 0 ≤ r k) (hw : 1 ≤ p.Part.Width) : ∀ k, 0 ≤ lower r (inl us p) (tk us r p) k := by
 intro k
 have h := tk_bd (us := us) hr hw
 have := hr k
 unfold lower
 split
 ·next hk => have := h.2.2 k hk; omega
 ·exact this
theorem gre_bd : ∀ (l : List GPiece) (r : Nat → Int), Wide l → (∀ k, 0 ≤ r k) → ∀ q ∈ gre us l r, q.1 ∈ l ∧ 0 ≤ q.2 ∧ q.2 ≤ q.1.Part.Width
 | [], _, _, _, q, h => by cases h
 | p :: l, r, hw, hr, q, h => by
  have hp := hw p (List.mem_cons_self ..)
  rw [gre] at h
  rcases List.mem_cons.1 h with rfl | h
  ·have := tk_bd (us := us) hr hp
   exact ⟨List.mem_cons_self .., this.1, this.2.1⟩
  ·have := gre_bd l _ (fun q hq => hw q (List.mem_cons_of_mem _ hq)) (low_nn (us := us) hr hp) q h
   exact ⟨List.mem_cons_of_mem _ this.1, this.2⟩
def sumM : List (GPart × Int) → Int
 | [] => 0
 | q :: l => q.2 + sumM l
def recU (T : List (GPiece × Int)) (i : Nat) : List (GPart × Int) := (T.filter fun q => decide (q.1.unit.toNat = i)).map fun q => (q.1.Part, q.2)
theorem Qwv : ∀ (T : List (GPiece × Int)) (i : Nat), sumM (recU T i) = massT T i
 | [], _ => rfl
 | q :: T, i => by
  have ih := Qwv T i
  unfold recU at ih ⊢
  rw [List.filter_cons, massT]
  by_cases h : q.1.unit.toNat = i
  ·rw [if_pos (by simpa using h), List.map_cons, sumM, ih, if_pos h]
  ·rw [if_neg (by simpa using h), ih, if_neg h, Int.zero_add]
theorem gre_fst : ∀ (l : List GPiece) (r : Nat → Int), (gre us l r).map (·.1) = l
 | [], _ => rfl
 | p :: l, r => by rw [gre, List.map_cons, gre_fst l]
theorem recU_fst (T : List (GPiece × Int)) (i : Nat) : (recU T i).map (·.1) = ((T.map (·.1)).filter fun p => decide (p.unit.toNat = i)).map (·.Part) := by
 unfold recU
 rw [List.map_map, List.filter_map, List.map_map]
 rfl
theorem Qwp : ∀ {xs ys : List GPiece}, Srt xs → Srt ys → (∀ k, flt k xs = flt k ys) → xs = ys
 | [], ys, _, _, h => by
  have := Stb.len (xs := ys) (ys := []) h
  exact (List.eq_nil_of_length_eq_zero this.symm).symm
 | x :: xs, [], _, _, h => by
  have := Stb.len (xs := []) (ys := x :: xs) h
  simp at this
 | x :: xs, y :: ys, hx, hy, h => by
  have hx' := List.pairwise_cons.1 hx
  have hy' := List.pairwise_cons.1 hy
  have hxm : x ∈ y :: ys := (Stb.mem h).1 (List.mem_cons_self ..)
  have hym : y ∈ x :: xs := (Stb.mem h).2 (List.mem_cons_self ..)
  have h1 : keyP y ≤ keyP x := by
   rcases List.mem_cons.1 hxm with e | e
   ·rw [e]; exact Int.le_refl _
   ·exact hy'.1 x e
  have h2 : keyP x ≤ keyP y := by
   rcases List.mem_cons.1 hym with e | e
   ·rw [e]; exact Int.le_refl _
   ·exact hx'.1 y e
  have hk : keyP x = keyP y := by omega
  have hh := h (keyP x)
  unfold flt at hh
  rw [List.filter_cons, List.filter_cons, if_pos (by simp), if_pos (by simp [hk])] at hh
  have e := (List.cons.inj hh).1
  subst e
  refine congrArg (List.cons x) (Qwp hx'.2 hy'.2 fun k => ?_)
  have hh := h k
  unfold flt at hh ⊢
  rw [List.filter_cons, List.filter_cons] at hh
  split at hh
  ·exact (List.cons.inj hh).2
  ·exact hh
theorem Qx9 {xs : List GPiece} (h : Srt xs) (f : GPiece → Bool) : Srt (xs.filter f) := List.Pairwise.filter _ h
theorem Qq6 (k : Int) (f : GPiece → Bool) (xs : List GPiece) : flt k (xs.filter f) = (flt k xs).filter f := by
 unfold flt
 rw [List.filter_filter, List.filter_filter]
 congr 1
 funext a
 exact Bool.and_comm _ _
theorem Qvk {xs ys : List GPiece} (hy : Stb xs ys) (f : GPiece → Bool) (hx : Srt (xs.filter f)) : ys.filter f = xs.filter f :=
 Qwp (Qx9 hy.srt f) hx fun k => by rw [Qq6, Qq6, hy.eqf]
end
def Qlx : Nat → List GUnit → List GPiece
 | _, [] => []
 | i, u :: us => u.Parts.map (fun q => (⟨(i : Int), q⟩ : GPiece)) ++ Qlx (i + 1) us
theorem Qmz : ∀ (us : List GUnit) (i0 : Nat), ∀ p ∈ Qlx i0 us, ∃ i u, us[i]? = some u ∧ p.unit = ((i0 + i : Nat) : Int) ∧ p.Part ∈ u.Parts
 | [], _, p, h => by cases h
 | u :: us, i0, p, h => by
  rw [Qlx] at h
  rcases List.mem_append.1 h with h | h
  ·obtain ⟨q, hq, rfl⟩ := List.mem_map.1 h
   exact ⟨0, u, rfl, rfl, hq⟩
  ·obtain ⟨i, u', h1, h2, h3⟩ := Qmz us (i0 + 1) p h
   exact ⟨i + 1, u', by simpa using h1, by rw [h2]; omega, h3⟩
theorem Qng : ∀ (us : List GUnit) (i0 i : Nat) (u : GUnit), us[i]? = some u → (Qlx i0 us).filter (fun p => decide (p.unit.toNat = i0 + i)) = u.Parts.map (fun q => (⟨((i0 + i : Nat) : Int), q⟩ : GPiece))
 | [], _, _, _, h => by simp at h
 | v :: us, i0, 0, u, h => by
  simp at h
  subst h
  rw [Qlx, List.filter_append]
  have h1 : (v.Parts.map fun q => (⟨(i0 : Int), q⟩ : GPiece)).filter (fun p => decide (p.unit.toNat = i0 + 0)) = v.Parts.map fun q => (⟨(i0 : Int), q⟩ : GPiece) := by
   rw [List.filter_eq_self]
   intro p hp
   obtain ⟨q, _, rfl⟩ := List.mem_map.1 hp
   simp
  have h2 : (Qlx (i0 + 1) us).filter (fun p => decide (p.unit.toNat = i0 + 0)) = [] := by
   rw [List.filter_eq_nil_iff]
   intro p hp
   obtain ⟨j, _, _, h2, _⟩ := Qmz us (i0 + 1) p hp
   rw [h2]
   simp
   omega
  rw [h1, h2, List.append_nil]
  rfl
 | v :: us, i0, i + 1, u, h => by
  rw [Qlx, List.filter_append]
  have h1 : (v.Parts.map fun q => (⟨(i0 : Int), q⟩ : GPiece)).filter (fun p => decide (p.unit.toNat = i0 + (i + 1))) = [] := by
   rw [List.filter_eq_nil_iff]
   intro p hp
   obtain ⟨q, _, rfl⟩ := List.mem_map.1 hp
   simp
  have ih := Qng us (i0 + 1) i u (by simpa using h)
  rw [h1, List.nil_append, show i0 + (i + 1) = i0 + 1 + i from by omega, ih]
theorem Qxe : ∀ (l : List GPart) (last : Int) (i : Int), Qvl last l = true → Srt (l.map fun q => (⟨i, q⟩ : GPiece)) ∧ ∀ q ∈ l, q.Gain ≤ last
 | [], _, _, _ => ⟨srt_nil, fun _ h => by cases h⟩
 | q :: l, last, i, h => by
  simp only [Qvl, Bool.and_eq_true, Qix] at h
  have ih := Qxe l q.Gain i h.2
  refine ⟨List.pairwise_cons.2 ⟨fun p hp => ?_, ih.1⟩, fun x hx => ?_⟩
  ·obtain ⟨y, hy, rfl⟩ := List.mem_map.1 hp
   have := ih.2 y hy
   unfold keyP
   dsimp only
   omega
  ·rcases List.mem_cons.1 hx with rfl | hx
   ·exact h.1.1.2
   ·have := ih.2 x hx
    have := h.1.1.2
    omega
end Go.Proofs.Ytlhakkkjgdbdpaa
