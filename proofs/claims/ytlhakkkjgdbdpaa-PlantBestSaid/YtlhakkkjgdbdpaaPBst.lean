/-
  The law PlantBest as a plain law. No conditions.
-/
import Derived.Test.YtlhakkkjgdbdpaaX20
import Derived.Test.YtlhakkkjgdbdpaaPShl
namespace Go.Proofs.Ytlhakkkjgdbdpaa
open Go.RowKit
theorem listS2_eq {N : Nat} {l : List Int} (h : l.length * 8 ≤ 140737488351232) : Qgm N l = some l := by
 unfold Qgm
 simp only [chk, show decide ((0 + l.length) * 8 ≤ 140737488355328) = true from decide_eq_true (by omega), cond_true]
theorem sum_set : ∀ (l : List Int) (i : Nat) (v x : Int), l[i]? = some x → (l.set i v).sum = l.sum + (v - x)
 | [], _, _, _, h => by simp at h
 | y :: l, 0, v, x, h => by simp at h; subst h; simp; omega
 | y :: l, i + 1, v, x, h => by
  rw [List.set_cons_succ, List.sum_cons, List.sum_cons, sum_set l i v x (by simpa using h)]
  omega
theorem Qvx {h : List Int} {i : Nat} {x : Int} (hi : h[i]? = some x) (v : Int) (k : Nat) : fro (h.set i v) k = fro h k + (if k ≤ i then v - x else 0) := by
 unfold fro
 rw [List.drop_set]
 by_cases hk : i < k
 ·rw [if_pos hk, if_neg (show ¬ k ≤ i from by omega), Int.add_zero]
 ·rw [if_neg hk, if_pos (show k ≤ i from by omega)]
  exact sum_set _ _ _ _ (by rw [List.getElem?_drop, show k + (i - k) = i from by omega]; exact hi)
theorem Qts : ∀ (us : List GUnit), ∀ u ∈ us, u.Parts.length ≤ (us.map fun u => u.Parts.length).sum
 | [], _, h => by cases h
 | v :: us, u, h => by
  rw [List.map_cons, List.sum_cons]
  rcases List.mem_cons.1 h with rfl | h
  ·omega
  ·have := Qts us u h
   omega
theorem Qtw {h h' : List Int} {us : List GUnit} {D : List GPiece} {p : List Int} {W : Int} (hd : DOK h us D) (hv : Qge h' us = true) (hl : h'.length = h.length) (hf : ∀ k, fro h k ≤ fro h' k) (hp : Qi2 h' p = true) (hb : Qmo h' us p = W) : Qht us (Qh5 h us D) ≤ W := by
 rw [← hb]
 refine Qpd (shOK hv) hp ?_
 have hs := hd.share
 unfold Qky at hs ⊢
 simp only [Bool.and_eq_true, decide_eq_true_eq, List.all_eq_true, List.mem_range] at hs ⊢
 exact ⟨hs.1, fun k hk => Int.le_trans (hs.2 k (by omega)) (hf k)⟩
theorem Qn5 {h : List Int} {us : List GUnit} (hv : Qge h us = true) {i : Nat} {v : Int} (h0 : 0 ≤ v) (h1 : v ≤ 1000000) : Qge (h.set i v) us = true := by
 unfold Qge at hv ⊢
 simp only [Bool.and_eq_true, List.all_eq_true, List.length_set] at hv ⊢
 refine ⟨⟨⟨hv.1.1.1, fun x hx => ?_⟩, hv.1.2⟩, hv.2⟩
 rcases List.mem_or_eq_of_mem_set hx with a | rfl
 ·exact hv.1.1.2 x a
 ·exact Qe6.2 ⟨h0, h1⟩
theorem pow_loop {N : Nat} {us : List GUnit} {ms : List Int} (hN : 300 ≤ N) (hul : us.length ≤ 10) (hl : ms.length = us.length) (hu : ∀ u ∈ us, Qjj u = true) (hc : Qlv us ms = true) (K : Int → Option Bool) : ∀ (n i : Nat) (a : Int), us.length - i < n → 0 ≤ a → a ≤ 800000000 * (i : Int) → Qlv (us.drop i) (ms.drop i) = true →
  Qc9 N ms us K n a i = K (a + Qht (us.drop i) (ms.drop i)) := by
 have hmb := Qkd hu hl hc
 intro n
 induction n with
 | zero => intro i _ h; exact absurd h (Nat.not_lt_zero _)
 | succ n ih =>
  intro i a hn a0 a1 hci
  rw [Qc9]
  by_cases hi : i < us.length
  ·obtain ⟨u, hu'⟩ : ∃ u, us[i]? = some u := ⟨_, List.getElem?_eq_getElem hi⟩
   obtain ⟨m, hm'⟩ : ∃ m, ms[i]? = some m := ⟨_, List.getElem?_eq_getElem (by omega)⟩
   have hub := hu u (List.mem_of_getElem? hu')
   have hm0 := hmb m (List.mem_of_getElem? hm')
   have h2 := Qem hub
   have hp := Qrv u.Parts 1000 m h2.2.2 (Int.le_refl _) hm0.1
   have h4 := h2.2.1.2
   have e1 : w64 ((i : Int) + 1) = ((i + 1 : Nat) : Int) := Qa7 (by omega) (by omega)
   have e2 : w64 (a + powI u.Parts m) = a + powI u.Parts m := Qa7 (by omega) (by omega)
   rw [Qeu hu', Qeu hm', Qlv, Bool.and_eq_true] at hci
   rw [show decide ((i : Int) < (ms.length : Int)) = true from decide_eq_true (by omega)]
   simp only [cond_true, Qdf hm', Qdf hu', Option.bind_some, power_eq (by omega : 100 ≤ N), hub, hci.1, show ((0 : Int) != 0) = false from rfl, cond_false, e1, e2]
   rw [ih (i + 1) _ (by omega) (by omega) (by omega) hci.2, Qeu hu', Qeu hm', Qht, Int.add_assoc]
  ·rw [show decide ((i : Int) < (ms.length : Int)) = false from decide_eq_false (by omega), cond_false, List.drop_of_length_le (by omega), Qht, Int.add_zero]
   simp
theorem best_law (h : List Int) (us : List GUnit) (l p : List Int) (a_ t_ m_ : Int) (gh : Qr8 h) (gu : Qt4 us) (gl : Qr8 l) (gp : Qr8 p) (ga : gd_u8 a_) (gt : gd_u8 t_) (gm : gd_u16 m_) :
  Qg0 (h.length + us.length + (us.map fun u => u.Parts.length).sum + 3000) h us l p a_ t_ m_ = some true := by
 have hl := gh.1
 have hu := gu.1
 have gp3 := gp.2.2
 have ba := bounds_u8 ga
 have bt := bounds_u8 gt
 have bm := bounds_u16 gm
 rw [Qtx] at hl hu
 have hps := Qts us
 have hpl : ∀ u ∈ us, (u.Parts.length : Int) ≤ 9223372036854775807 := fun u hu' => by
  have := (gu.2.1 u hu').2.1
  rw [Qtx] at this
  omega
 generalize hN : h.length + us.length + (us.map fun u => u.Parts.length).sum + 3000 = N
 unfold Qg0
 simp only [awake_at, Option.bind_some]
 rw [rheads_eq (by omega) (by omega) (fun u hu' => ⟨hpl u hu', by have := hps u hu'; omega⟩) (by omega)]
 cases hv : Qge h us with
 | false => rfl
 | true =>
  have hk := shOK hv
  have hul := hk.u1
  have hhl := hk.h1
  have h0 := hk.h0
  have cu := unitsC_eq (N := N) (t := us) (by omega) (fun u hu' => by have := (Qem (hk.ub u hu')).2.1.2; omega) (by omega)
  have ch := Qxg (N := N) (l := h) (by omega)
  have cp := Qxg (N := N) (l := p) gp3
  have ch1 := listS2_eq (N := N) (l := h) (by omega)
  obtain ⟨D, pr, hd, e, e2, e3⟩ := Qrp (N := N) hv (by omega)
  simp only [Option.bind_some, Bool.not_true, cond_false, cu, ch, e]
  refine Qjc (P := fun _ => True) (fun _ _ => ?_) (fun k12 h12 => ?_)
  ·refine Qjc (P := fun _ => True) (fun _ _ => ?_) (fun k13 h13 => ?_)
   ·refine Qjc (P := fun _ => True) (fun _ _ => ?_) (fun k14 h14 => ?_)
    ·have w1 : w64 a_ = a_ := Qa7 (by omega) (by omega)
     have w2 : w64 t_ = t_ := Qa7 (by omega) (by omega)
     have w3 : w64 m_ = m_ := Qa7 (by omega) (by omega)
     have t1 : a_.tmod (h.length : Int) = a_ % (h.length : Int) := Int.tmod_eq_emod_of_nonneg ba.1
     have k0 : 0 ≤ a_ % (h.length : Int) := Int.emod_nonneg _ (by omega)
     have k1 : a_ % (h.length : Int) < h.length := Int.emod_lt_of_pos _ (by omega)
     obtain ⟨k, hk'⟩ : ∃ k : Nat, a_ % (h.length : Int) = k := ⟨(a_ % (h.length : Int)).toNat, by omega⟩
     have hkl : k < h.length := by omega
     obtain ⟨x, hx⟩ : ∃ x, h[k]? = some x := ⟨_, List.getElem?_eq_getElem hkl⟩
     have hxb := hk.hm x (List.mem_of_getElem? hx)
     have w4 : w64 (x + m_) = x + m_ := Qa7 (by omega) (by omega)
     have hz : ((h.length : Int) != 0) = true := bne_iff_ne.2 (by omega)
     have hne : h.isEmpty = false := by rw [List.isEmpty_eq_false_iff]; intro e; rw [e] at h0; simp at h0
     have d1 : decide (0 ≤ (k : Int)) = true := decide_eq_true (by omega)
     have d2 : decide (k < h.length) = true := decide_eq_true hkl
     have w5 : w64 ((h.length : Int) - (k : Int)) = ((h.length - k : Nat) : Int) := by rw [Qa7 (by omega) (by omega)]; omega
     have t2 : t_.tmod ((h.length - k : Nat) : Int) = t_ % ((h.length - k : Nat) : Int) := Int.tmod_eq_emod_of_nonneg bt.1
     have u0 : 0 ≤ t_ % ((h.length - k : Nat) : Int) := Int.emod_nonneg _ (by omega)
     have u1 : t_ % ((h.length - k : Nat) : Int) < ((h.length - k : Nat) : Int) := Int.emod_lt_of_pos _ (by omega)
     obtain ⟨j, hj⟩ : ∃ j : Nat, t_ % ((h.length - k : Nat) : Int) = j := ⟨(t_ % ((h.length - k : Nat) : Int)).toNat, by omega⟩
     have w6 : w64 ((k : Int) + (j : Int)) = ((k + j : Nat) : Int) := Qa7 (by omega) (by omega)
     have hjl : k + j < h.length := by omega
     obtain ⟨y, hy⟩ : ∃ y, h[k + j]? = some y := ⟨_, List.getElem?_eq_getElem hjl⟩
     have hyb := hk.hm y (List.mem_of_getElem? hy)
     have w7 : w64 (1000000 - y) = 1000000 - y := Qa7 (by omega) (by omega)
     have hz2 : (((h.length - k : Nat) : Int) != 0) = true := bne_iff_ne.2 (by omega)
     have d3 : decide (0 ≤ ((k + j : Nat) : Int)) = true := decide_eq_true (by omega)
     have d4 : decide (k + j < h.length) = true := decide_eq_true hjl
     simp only [w1, w2, w3, t1, hk', hz, chk, cond_true, Option.bind_some, ch1, hne, Bool.not_false, d1, d2, Bool.and_self, Int.toNat_natCast, hx, w4, List.length_set, Nat.le_refl, decide_true, w5, t2, hj, w6, hy, w7, hz2, d3, d4]
     generalize hr : (if x + m_ < 1000000 then x + m_ else 1000000) = r
     have hr' : x ≤ r ∧ r ≤ 1000000 := by rw [← hr]; split <;> omega
     rw [List.take_of_length_le (by rw [List.length_set]; exact Nat.le_refl _)]
     have hv2 := Qn5 (i := k) (v := r) hv (by omega) (by omega)
     obtain ⟨D2, pr2, _, g, g2, g3⟩ := Qrp (N := N) hv2 (by omega)
     have hw2 := Qtw hd hv2 (by rw [List.length_set]) (fun i => by rw [Qvx hx]; split <;> omega) g2 g3
     simp only [g, Option.bind_some]
     refine Qjc (P := fun _ => True) (fun _ _ => ?_) (fun k32 h32 => ?_)
     ·generalize hn : (if 1000000 - y < (if m_ < x then m_ else x) then 1000000 - y else (if m_ < x then m_ else x)) = nn
      have hn' : 0 ≤ nn ∧ nn ≤ x ∧ nn ≤ 1000000 - y := by
       generalize hq : (if m_ < x then m_ else x) = q at hn
       have hq' : 0 ≤ q ∧ q ≤ x := by rw [← hq]; split <;> omega
       rw [← hn]
       split <;> omega
      refine Qjc (P := fun q => Qge q us = true ∧ q.length = h.length ∧ ∀ i, fro h i ≤ fro q i) (fun q hq => ?_) (fun k48 h48 => ?_)
      ·obtain ⟨q1, q2, q3⟩ := hq
       rw [decide_eq_true (show h.length ≤ q.length from by omega), cond_true, List.take_of_length_le (by omega)]
       obtain ⟨D3, pr3, _, g', g2', g3'⟩ := Qrp (N := N) q1 (by omega)
       have hw3 := Qtw hd q1 q2 q3 g2' g3'
       simp only [g', Option.bind_some, show ((0 : Int) == 0) = true from rfl, cond_true]
       rw [decide_eq_true (show Qht us (Qh5 q us D3) ≥ Qht us (Qh5 h us D) from hw3)]
       rfl
      ·by_cases hjk : ((k + j : Nat) : Int) > (k : Int)
       ·rw [decide_eq_true hjk, cond_true]
        have w8 : w64 (x - nn) = x - nn := Qa7 (by omega) (by omega)
        have hy2 : (h.set k (x - nn))[k + j]? = some y := by rw [List.getElem?_set_ne (by omega)]; exact hy
        have w9 : w64 (y + nn) = y + nn := Qa7 (by omega) (by omega)
        simp only [hx, Option.bind_some, w8, hy2, w9]
        refine h48 _ ⟨Qn5 (Qn5 hv (by omega) (by omega)) (by omega) (by omega), by simp, fun i => ?_⟩
        rw [Qvx hy2, Qvx hx]
        by_cases c1 : i ≤ k
        ·rw [if_pos c1, if_pos (show i ≤ k + j from by omega)]; omega
        ·rw [if_neg c1]; split <;> omega
       ·rw [decide_eq_false hjk, cond_false]
        exact h48 _ ⟨hv, rfl, fun _ => Int.le_refl _⟩
     ·rw [decide_eq_false (show ¬ Qht us (Qh5 (h.set k r) us D2) < Qht us (Qh5 h us D) from by omega)]
      exact h32 () trivial
    ·simp only [cp, Option.bind_some, bound_eq (by omega : 300 ≤ N), hv, Bool.true_and]
     cases hp : Qi2 h p with
     | false => exact h14 () trivial
     | true =>
      have := Qpd hk hp hd.share
      simp only [cond_true, show ((0 : Int) == 0) = true from rfl]
      rw [decide_eq_false (show ¬ Qmo h us p < Qht us (Qh5 h us D) from by omega)]
      exact h14 () trivial
   ·simp only [Qja, shareR_eq hk (by omega : 300 ≤ N), Option.bind_some]
    cases hs : Qky h us l with
    | false => exact h13 () trivial
    | true =>
     have hs' := hs
     unfold Qky at hs'
     simp only [Bool.and_eq_true, decide_eq_true_eq] at hs'
     have hw := Qpd hk e2 hs
     rw [cond_true]
     refine Qjc (P := fun x => x = Qht us l) (fun x hx => ?_) (fun k87 h87 => ?_)
     ·subst hx
      rw [decide_eq_false (show ¬ Qht us l > Qht us (Qh5 h us D) from by omega)]
      exact h13 () trivial
     ·have := pow_loop (N := N) (by omega) hul hs'.1.1 hk.ub hs'.1.2 k87 N 0 0 (by omega) (Int.le_refl _) (by omega) hs'.1.2
      rw [show ((0 : Nat) : Int) = 0 from rfl, List.drop_zero, List.drop_zero, Int.zero_add] at this
      rw [this]
      exact h87 _ rfl
  ·have pv := Qyy (N := N) (h := h) (us := us) (ms := Qh5 h us D) (w := Qht us (Qh5 h us D)) (p := pr) (by omega)
   have pt : Qru h us (Qh5 h us D) (Qht us (Qh5 h us D)) pr = true := by
    unfold Qru
    rw [hv, e2, hd.share, e3]
    simp
   rw [pt] at pv
   simp only [show ((0 : Int) != 0) = false from rfl, cond_false, Option.bind_some, pv, Bool.not_true]
   exact h12 () trivial
end Go.Proofs.Ytlhakkkjgdbdpaa
