/-
  Plain laws of sharing steam part by part, the greatest gain first: what is taken, what is left, and prices that show that nothing is better. No conditions.
-/
import Derived.Test.YtlhakkkjgdbdpaaPShc
import Derived.Test.YtlhakkkjgdbdpaaPSym
namespace Go.Proofs.Ytlhakkkjgdbdpaa
open Go.RowKit
def inl (us : List GUnit) (p : GPiece) : Nat := ((us.getD p.unit.toNat ⟨0, []⟩).Inlet).toNat
def tk (us : List GUnit) (r : Nat → Int) (p : GPiece) : Int := if minI r (inl us p) < p.Part.Width then minI r (inl us p) else p.Part.Width
def Qk9 (r : Nat → Int) (c : Nat) (m : Int) : Nat → Int := fun k => if k ≤ c then r k - m else r k
def gre (us : List GUnit) : List GPiece → (Nat → Int) → List (GPiece × Int)
 | [], _ => []
 | p :: l, r => (p, tk us r p) :: gre us l (Qk9 r (inl us p) (tk us r p))
def greR (us : List GUnit) : List GPiece → (Nat → Int) → (Nat → Int)
 | [], r => r
 | p :: l, r => greR us l (Qk9 r (inl us p) (tk us r p))
def Qom : List (GPiece × Int) → Nat → Int
 | [], _ => 0
 | q :: T, i => (if q.1.unit.toNat = i then q.2 else 0) + Qom T i
def nxt : List (GPiece × Int) → Nat → Int
 | [], _ => -1
 | q :: T, i => if q.1.unit.toNat = i ∧ q.2 < q.1.Part.Width then q.1.Part.Gain else nxt T i
def useT (us : List GUnit) : List (GPiece × Int) → Nat → Int
 | [], _ => 0
 | q :: T, k => (if k ≤ inl us q.1 then q.2 else 0) + useT us T k
def Qj7 : List (GPiece × Int) → Int
 | [] => 0
 | q :: T => q.2 * q.1.Part.Gain + Qj7 T
def Wide (l : List GPiece) : Prop := ∀ p ∈ l, 1 ≤ p.Part.Width
section
variable {us : List GUnit}
theorem Qv7 {r : Nat → Int} {p : GPiece} (hr : ∀ k, 0 ≤ r k) (hw : 1 ≤ p.Part.Width) : 0 ≤ tk us r p ∧ tk us r p ≤ p.Part.Width ∧ ∀ k, k ≤ inl us p → tk us r p ≤ r k := by
 obtain ⟨j, _, j2⟩ := Qsh r (inl us p)
 have h0 := hr j
 unfold tk
 refine ⟨by split <;> omega, by split <;> omega, fun k hk => ?_⟩
 have := minI_le r (inl us p) k hk
 split <;> omega
theorem Qny {r : Nat → Int} {p : GPiece} (hr : ∀ k, 0 ≤ r k) (hw : 1 ≤ p.Part.Width) : ∀ k, 0 ≤ Qk9 r (inl us p) (tk us r p) k := by
 intro k
 have h := Qv7 (us := us) hr hw
 have := hr k
 unfold Qk9
 split
 ·next hk => have := h.2.2 k hk; omega
 ·exact this
theorem Qxx {r : Nat → Int} {p : GPiece} (hr : ∀ k, 0 ≤ r k) (hw : 1 ≤ p.Part.Width) : ∀ k, Qk9 r (inl us p) (tk us r p) k ≤ r k := by
 intro k
 have h := Qv7 (us := us) hr hw
 unfold Qk9
 split <;> omega
theorem Qop : ∀ (l : List GPiece) (r : Nat → Int), Wide l → (∀ k, 0 ≤ r k) → ∀ k, 0 ≤ greR us l r k ∧ greR us l r k ≤ r k
 | [], r, _, hr, k => ⟨hr k, Int.le_refl _⟩
 | p :: l, r, hw, hr, k => by
  have hp := hw p (List.mem_cons_self ..)
  have ih := Qop l _ (fun q hq => hw q (List.mem_cons_of_mem _ hq)) (Qny (us := us) hr hp) k
  have := Qxx (us := us) hr hp k
  exact ⟨ih.1, Int.le_trans ih.2 this⟩
theorem Qm7 : ∀ (l : List GPiece) (r : Nat → Int), Wide l → (∀ k, 0 ≤ r k) → ∀ q ∈ gre us l r, q.1 ∈ l ∧ 0 ≤ q.2 ∧ q.2 ≤ q.1.Part.Width
 | [], _, _, _, q, h => by cases h
 | p :: l, r, hw, hr, q, h => by
  have hp := hw p (List.mem_cons_self ..)
  rw [gre] at h
  rcases List.mem_cons.1 h with rfl | h
  ·have := Qv7 (us := us) hr hp
   exact ⟨List.mem_cons_self .., this.1, this.2.1⟩
  ·have := Qm7 l _ (fun q hq => hw q (List.mem_cons_of_mem _ hq)) (Qny (us := us) hr hp) q h
   exact ⟨List.mem_cons_of_mem _ this.1, this.2⟩
theorem Qsp : ∀ (l : List GPiece) (r : Nat → Int) (k : Nat), greR us l r k = r k - useT us (gre us l r) k
 | [], r, k => by simp [greR, gre, useT]
 | p :: l, r, k => by
  rw [greR, gre, useT, Qsp l]
  dsimp only
  rw [show Qk9 r (inl us p) (tk us r p) k = if k ≤ inl us p then r k - tk us r p else r k from rfl]
  split <;> omega
theorem Qsm : ∀ (l : List GPiece) (r : Nat → Int) (k : Nat), Wide l → (∀ k, 0 ≤ r k) → r k = 0 → greR us l r k = 0 ∧ ∀ q ∈ gre us l r, k ≤ inl us q.1 → q.2 = 0
 | [], r, k, _, _, h => ⟨h, fun q hq => by cases hq⟩
 | p :: l, r, k, hw, hr, h => by
  have hp := hw p (List.mem_cons_self ..)
  have hl := Qny (us := us) hr hp k
  have hl2 := Qxx (us := us) hr hp k
  have ih := Qsm l _ k (fun q hq => hw q (List.mem_cons_of_mem _ hq)) (Qny (us := us) hr hp) (by omega)
  refine ⟨ih.1, fun q hq hk => ?_⟩
  rw [gre] at hq
  rcases List.mem_cons.1 hq with rfl | hq
  ·have := Qv7 (us := us) hr hp
   have := this.2.2 k hk
   dsimp only
   omega
  ·exact ih.2 q hq hk
theorem Qxw {r : Nat → Int} {p : GPiece} (hw : tk us r p < p.Part.Width) : ∃ k, k ≤ inl us p ∧ Qk9 r (inl us p) (tk us r p) k = 0 := by
 obtain ⟨j, j1, j2⟩ := Qsh r (inl us p)
 refine ⟨j, j1, ?_⟩
 unfold Qk9
 rw [if_pos j1]
 unfold tk at hw ⊢
 split at hw
 ·next h => rw [if_pos h]; omega
 ·next h => omega
theorem Qsf : ∀ {T : List (GPiece × Int)} {i : Nat}, nxt T i = -1 ∨ ∃ q ∈ T, q.1.unit.toNat = i ∧ nxt T i = q.1.Part.Gain
 | [], _ => Or.inl rfl
 | q :: T, i => by
  rw [nxt]
  split
  ·next h => exact Or.inr ⟨q, List.mem_cons_self .., h.1, rfl⟩
  ·rcases Qsf (T := T) (i := i) with h | ⟨p, h1, h2⟩
   ·exact Or.inl h
   ·exact Or.inr ⟨p, List.mem_cons_of_mem _ h1, h2⟩
def inlN (us : List GUnit) (i : Nat) : Nat := ((us.getD i ⟨0, []⟩).Inlet).toNat
theorem Qsn : ∀ (l : List GPiece) (r : Nat → Int) (i : Nat), Wide l → Srt l → (∀ k, 0 ≤ r k) → (∀ p ∈ l, 0 ≤ p.Part.Gain) → 0 ≤ nxt (gre us l r) i →
  ∃ z, z ≤ inlN us i ∧ greR us l r z = 0 ∧ ∀ q ∈ gre us l r, 0 < q.2 → q.1.Part.Gain < nxt (gre us l r) i → inl us q.1 < z
 | [], _, _, _, _, _, _, h => by simp [gre, nxt] at h
 | p :: l, r, i, hw, hs, hr, hg, h => by
  have hp := hw p (List.mem_cons_self ..)
  have hw' : Wide l := fun q hq => hw q (List.mem_cons_of_mem _ hq)
  have hs' := List.pairwise_cons.1 hs
  have hnn := Qny (us := us) hr hp
  rw [gre, nxt] at h
  rw [gre, greR]
  by_cases hc : p.unit.toNat = i ∧ tk us r p < p.Part.Width
  ·obtain ⟨z, z1, z2⟩ := Qxw hc.2
   have hz := Qsm (us := us) l _ z hw' hnn z2
   refine ⟨z, ?_, hz.1, fun q hq hq0 hqg => ?_⟩
   ·have e : inl us p = inlN us i := by unfold inl inlN; rw [hc.1]
    omega
   ·rw [nxt, if_pos hc] at hqg
    rcases List.mem_cons.1 hq with rfl | hq
    ·exact absurd hqg (Int.lt_irrefl _)
    ·rcases Nat.lt_or_ge (inl us q.1) z with h' | h'
     ·exact h'
     ·have := hz.2 q hq h'
      omega
  ·rw [if_neg hc] at h
   obtain ⟨z, z1, z2, z3⟩ := Qsn l _ i hw' hs'.2 hnn (fun q hq => hg q (List.mem_cons_of_mem _ hq)) h
   refine ⟨z, z1, z2, fun q hq hq0 hqg => ?_⟩
   rw [nxt, if_neg hc] at hqg
   rcases List.mem_cons.1 hq with rfl | hq
   ·exfalso
    rcases Qsf (T := gre us l (Qk9 r (inl us p) (tk us r p))) (i := i) with e | ⟨q', q1, q2, q3⟩
    ·omega
    ·have hm := (Qm7 (us := us) l _ hw' hnn q' q1).1
     have := hs'.1 q'.1 hm
     unfold keyP at this
     dsimp only at hqg
     omega
   ·exact z3 q hq hq0 hqg
theorem Qx3 : ∀ (l : List GPiece) (r : Nat → Int), Wide l → Srt l → (∀ k, 0 ≤ r k) → ∀ q ∈ gre us l r, q.2 < q.1.Part.Width → q.1.Part.Gain ≤ nxt (gre us l r) q.1.unit.toNat
 | [], _, _, _, _, q, h, _ => by cases h
 | p :: l, r, hw, hs, hr, q, hq, hlt => by
  have hp := hw p (List.mem_cons_self ..)
  have hw' : Wide l := fun q hq => hw q (List.mem_cons_of_mem _ hq)
  have hs' := List.pairwise_cons.1 hs
  have hnn := Qny (us := us) hr hp
  rw [gre, nxt]
  dsimp only
  rw [gre] at hq
  rcases List.mem_cons.1 hq with rfl | hq
  ·rw [if_pos ⟨rfl, hlt⟩]
   exact Int.le_refl _
  ·by_cases hc : p.unit.toNat = q.1.unit.toNat ∧ tk us r p < p.Part.Width
   ·rw [if_pos hc]
    have := hs'.1 q.1 (Qm7 (us := us) l _ hw' hnn q hq).1
    unfold keyP at this
    omega
   ·rw [if_neg hc]
    exact Qx3 l _ hw' hs'.2 hnn q hq hlt
def Fill : List (GPart × Int) → Prop
 | [] => True
 | q :: l => (0 ≤ q.2 ∧ q.2 ≤ q.1.Width ∧ (q.2 < q.1.Width → ∀ x ∈ l, x.2 = 0)) ∧ Fill l
def sumM : List (GPart × Int) → Int
 | [] => 0
 | q :: l => q.2 + sumM l
def sumG : List (GPart × Int) → Int
 | [] => 0
 | q :: l => q.2 * q.1.Gain + sumG l
theorem Qxo : ∀ (l : List GPart), (∀ q ∈ l, 1 ≤ q.Width) → powI l 0 = 0
 | [], _ => rfl
 | q :: l, h => by
  have h1 := h q (List.mem_cons_self ..)
  rw [powI, Int.min_eq_left (by omega), Int.zero_mul, Int.sub_self, Qxo l fun x hx => h x (List.mem_cons_of_mem _ hx)]
  rfl
theorem Qxj : ∀ (l : List (GPart × Int)), (∀ x ∈ l, x.2 = 0) → sumM l = 0 ∧ sumG l = 0
 | [], _ => ⟨rfl, rfl⟩
 | q :: l, h => by
  have h1 := h q (List.mem_cons_self ..)
  have h2 := Qxj l fun x hx => h x (List.mem_cons_of_mem _ hx)
  rw [sumM, sumG, h1, h2.1, h2.2]
  simp
theorem sumM_nn : ∀ (l : List (GPart × Int)), Fill l → 0 ≤ sumM l
 | [], _ => Int.le_refl _
 | q :: l, h => by
  have := sumM_nn l h.2
  have := h.1.1
  rw [sumM]
  omega
theorem Qx8 : ∀ (l : List (GPart × Int)), Fill l → (∀ q ∈ l, 1 ≤ q.1.Width) → powI (l.map (·.1)) (sumM l) = sumG l
 | [], _, _ => rfl
 | q :: l, h, hw => by
  have hw' := fun x hx => hw x (List.mem_cons_of_mem _ hx)
  have hn := sumM_nn l h.2
  rw [List.map_cons, powI, sumM, sumG]
  rcases Int.lt_or_le q.2 q.1.Width with hlt | hge
  ·have hz := Qxj l (h.1.2.2 hlt)
   rw [hz.1, hz.2, Int.add_zero, Int.min_eq_left (by omega), Int.sub_self, Qxo _ fun x hx => by
    obtain ⟨y, hy, rfl⟩ := List.mem_map.1 hx
    exact hw' y hy]
  ·have e : q.2 = q.1.Width := by have := h.1.2.1; omega
   rw [e, Int.min_eq_right (by omega), show q.1.Width + sumM l - q.1.Width = sumM l from by omega, Qx8 l h.2 hw']
def recU (T : List (GPiece × Int)) (i : Nat) : List (GPart × Int) := (T.filter fun q => decide (q.1.unit.toNat = i)).map fun q => (q.1.Part, q.2)
theorem Qpb : ∀ (T : List (GPiece × Int)) (i : Nat), sumM (recU T i) = Qom T i
 | [], _ => rfl
 | q :: T, i => by
  have ih := Qpb T i
  unfold recU at ih ⊢
  rw [List.filter_cons, Qom]
  by_cases h : q.1.unit.toNat = i
  ·rw [if_pos (by simpa using h), List.map_cons, sumM, ih, if_pos h]
  ·rw [if_neg (by simpa using h), ih, if_neg h, Int.zero_add]
theorem Qx4 : ∀ (l : List GPiece) (r : Nat → Int) (i : Nat), Wide l → (∀ k, 0 ≤ r k) → Fill (recU (gre us l r) i)
 | [], _, _, _, _ => trivial
 | p :: l, r, i, hw, hr => by
  have hp := hw p (List.mem_cons_self ..)
  have hw' : Wide l := fun q hq => hw q (List.mem_cons_of_mem _ hq)
  have hnn := Qny (us := us) hr hp
  have ih := Qx4 l _ i hw' hnn
  have hb := Qv7 (us := us) hr hp
  unfold recU at ih ⊢
  rw [gre, List.filter_cons]
  by_cases h : p.unit.toNat = i
  ·rw [if_pos (by simpa using h), List.map_cons]
   refine ⟨⟨hb.1, hb.2.1, fun hlt x hx => ?_⟩, ih⟩
   obtain ⟨z, z1, z2⟩ := Qxw hlt
   obtain ⟨q, hq, rfl⟩ := List.mem_map.1 hx
   have hq' := List.mem_filter.1 hq
   have hi : q.1.unit.toNat = i := by simpa using hq'.2
   exact (Qsm (us := us) l _ z hw' hnn z2).2 q hq'.1 (by
    have : inl us q.1 = inl us p := by unfold inl; rw [hi, h]
    omega)
  ·rw [if_neg (by simpa using h)]
   exact ih
theorem gre_fst : ∀ (l : List GPiece) (r : Nat → Int), (gre us l r).map (·.1) = l
 | [], _ => rfl
 | p :: l, r => by rw [gre, List.map_cons, gre_fst l]
theorem recU_fst (T : List (GPiece × Int)) (i : Nat) : (recU T i).map (·.1) = ((T.map (·.1)).filter fun p => decide (p.unit.toNat = i)).map (·.Part) := by
 unfold recU
 rw [List.map_map, List.filter_map, List.map_map]
 rfl
theorem Qr8 : ∀ {xs ys : List GPiece}, Srt xs → Srt ys → (∀ k, flt k xs = flt k ys) → xs = ys
 | [], ys, _, _, h => by
  have := Stb.len (xs := ys) (ys := []) h
  exact (List.eq_nil_of_length_eq_zero this.symm).symm
 | x :: xs, [], _, _, h => by
  have := Stb.len (xs := []) (ys := x :: xs) h
  simp at this
 | x :: xs, y :: ys, hx, hy, h => by
  have hx' := List.pairwise_cons.1 hx
  have hy' := List.pairwise_cons.1 hy
  have hxm : x ∈ y :: ys := (Stb.mem h).1 (List.mem_cons_self ..)
  have hym : y ∈ x :: xs := (Stb.mem h).2 (List.mem_cons_self ..)
  have h1 : keyP y ≤ keyP x := by
   rcases List.mem_cons.1 hxm with e | e
   ·rw [e]; exact Int.le_refl _
   ·exact hy'.1 x e
  have h2 : keyP x ≤ keyP y := by
   rcases List.mem_cons.1 hym with e | e
   ·rw [e]; exact Int.le_refl _
   ·exact hx'.1 y e
  have hk : keyP x = keyP y := by omega
  have hh := h (keyP x)
  unfold flt at hh
  rw [List.filter_cons, List.filter_cons, if_pos (by simp), if_pos (by simp [hk])] at hh
  have e := (List.cons.inj hh).1
  subst e
  refine congrArg (List.cons x) (Qr8 hx'.2 hy'.2 fun k => ?_)
  have hh := h k
  unfold flt at hh ⊢
  rw [List.filter_cons, List.filter_cons] at hh
  split at hh
  ·exact (List.cons.inj hh).2
  ·exact hh
theorem Qy9 {xs : List GPiece} (h : Srt xs) (f : GPiece → Bool) : Srt (xs.filter f) := List.Pairwise.filter _ h
theorem Qrc (k : Int) (f : GPiece → Bool) (xs : List GPiece) : flt k (xs.filter f) = (flt k xs).filter f := by
 unfold flt
 rw [List.filter_filter, List.filter_filter]
 congr 1
 funext a
 exact Bool.and_comm _ _
theorem Qwh {xs ys : List GPiece} (hy : Stb xs ys) (f : GPiece → Bool) (hx : Srt (xs.filter f)) : ys.filter f = xs.filter f :=
 Qr8 (Qy9 hy.srt f) hx fun k => by rw [Qrc, Qrc, hy.eqf]
end
def Qda : Nat → List GUnit → List GPiece
 | _, [] => []
 | i, u :: us => u.Parts.map (fun q => (⟨(i : Int), q⟩ : GPiece)) ++ Qda (i + 1) us
theorem Qia : ∀ (us : List GUnit) (i0 : Nat), ∀ p ∈ Qda i0 us, ∃ i u, us[i]? = some u ∧ p.unit = ((i0 + i : Nat) : Int) ∧ p.Part ∈ u.Parts
 | [], _, p, h => by cases h
 | u :: us, i0, p, h => by
  rw [Qda] at h
  rcases List.mem_append.1 h with h | h
  ·obtain ⟨q, hq, rfl⟩ := List.mem_map.1 h
   exact ⟨0, u, rfl, rfl, hq⟩
  ·obtain ⟨i, u', h1, h2, h3⟩ := Qia us (i0 + 1) p h
   exact ⟨i + 1, u', by simpa using h1, by rw [h2]; omega, h3⟩
theorem Qnw : ∀ (us : List GUnit) (i0 i : Nat) (u : GUnit), us[i]? = some u → (Qda i0 us).filter (fun p => decide (p.unit.toNat = i0 + i)) = u.Parts.map (fun q => (⟨((i0 + i : Nat) : Int), q⟩ : GPiece))
 | [], _, _, _, h => by simp at h
 | v :: us, i0, 0, u, h => by
  simp at h
  subst h
  rw [Qda, List.filter_append]
  have h1 : (v.Parts.map fun q => (⟨(i0 : Int), q⟩ : GPiece)).filter (fun p => decide (p.unit.toNat = i0 + 0)) = v.Parts.map fun q => (⟨(i0 : Int), q⟩ : GPiece) := by
   rw [List.filter_eq_self]
   intro p hp
   obtain ⟨q, _, rfl⟩ := List.mem_map.1 hp
   simp
  have h2 : (Qda (i0 + 1) us).filter (fun p => decide (p.unit.toNat = i0 + 0)) = [] := by
   rw [List.filter_eq_nil_iff]
   intro p hp
   obtain ⟨j, _, _, h2, _⟩ := Qia us (i0 + 1) p hp
   rw [h2]
   simp
   omega
  rw [h1, h2, List.append_nil]
  rfl
 | v :: us, i0, i + 1, u, h => by
  rw [Qda, List.filter_append]
  have h1 : (v.Parts.map fun q => (⟨(i0 : Int), q⟩ : GPiece)).filter (fun p => decide (p.unit.toNat = i0 + (i + 1))) = [] := by
   rw [List.filter_eq_nil_iff]
   intro p hp
   obtain ⟨q, _, rfl⟩ := List.mem_map.1 hp
   simp
  have ih := Qnw us (i0 + 1) i u (by simpa using h)
  rw [h1, List.nil_append, show i0 + (i + 1) = i0 + 1 + i from by omega, ih]
theorem Qya : ∀ (l : List GPart) (last : Int) (i : Int), Qkg last l = true → Srt (l.map fun q => (⟨i, q⟩ : GPiece)) ∧ ∀ q ∈ l, q.Gain ≤ last
 | [], _, _, _ => ⟨Qr9, fun _ h => by cases h⟩
 | q :: l, last, i, h => by
  simp only [Qkg, Bool.and_eq_true, Qfu] at h
  have ih := Qya l q.Gain i h.2
  refine ⟨List.pairwise_cons.2 ⟨fun p hp => ?_, ih.1⟩, fun x hx => ?_⟩
  ·obtain ⟨y, hy, rfl⟩ := List.mem_map.1 hp
   have := ih.2 y hy
   unfold keyP
   dsimp only
   omega
  ·rcases List.mem_cons.1 hx with rfl | hx
   ·exact h.1.1.2
   ·have := ih.2 x hx
    have := h.1.1.2
    omega
end Go.Proofs.Ytlhakkkjgdbdpaa
