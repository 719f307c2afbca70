/-
  Plain: the bills of a town, split among holders. No conditions.
-/
import Derived.Test.YtflmombnmnblnaaPMny
namespace Go.Proofs.Ytflmombnmnblnaa
open Go.RowKit
theorem owed_at : Qd9 2000 = some true := by decide +kernel
theorem warm_at : Qd8 2000 = some true := by decide +kernel
theorem money_true (l : List GBracket) (us ws : List Int) (_ : Qio l) (gu : gd_Lu32 us) (gw : gd_Lu32 ws) : Qfm 2000 l us ws = some true := by
 have hub : ∀ x ∈ us, 0 ≤ x ∧ x ≤ 4294967295 := fun x hx => by have := bounds_u32 (gu.2.1 x hx); omega
 have hwb : ∀ x ∈ ws, 0 ≤ x ∧ x ≤ 4294967295 := fun x hx => by have := bounds_u32 (gw.2.1 x hx); omega
 have hN : 2000 ≤ 2000 := Nat.le_refl _
 unfold Qfm
 simp only [Qcg, owed_at, warm_at, Option.bind_some, cond_true]
 by_cases h1 : (l.length : Int) > 10
 ·simp [h1]
 have hl : l.length ≤ 1000 := by omega
 simp only [h1, decide_false, cond_false, tarR_eq hl hN, Option.bind_some]
 cases ht : tarB l with
 | false => simp
 | true =>
  simp only [Bool.not_true, cond_false]
  by_cases h2 : (us.length : Int) > 12
  ·simp [h2]
  simp only [h2, decide_false, cond_false]
  by_cases h3 : (ws.length : Int) < 1
  ·simp [h3]
  simp only [h3, decide_false, cond_false]
  by_cases h4 : (ws.length : Int) > 8
  ·simp [h4]
  simp only [h4, decide_false, cond_false]
  refine (wts_loop 2000 ws _ (by omega) hwb 2000 0 [] 0 (by simp; omega) rfl (by omega) (Int.le_refl _) (by simp)).trans ?_
  rw [List.drop_zero, List.nil_append, Int.zero_add]
  generalize hw : ws.map (fun x => x / 16) = w
  have hwl : w.length = ws.length := by rw [← hw, List.length_map]
  have hW : Wts w := ⟨by omega, fun x hx => by
   rw [← hw] at hx
   obtain ⟨z, hz, rfl⟩ := List.mem_map.1 hx
   have := hwb z hz
   omega⟩
  dsimp only
  by_cases h0 : w.sum = 0
  ·simp [h0]
  have hs := (sum_bd w hW.2).1
  have hpos : 0 < w.sum := by omega
  rw [show (w.sum == 0) = false from beq_eq_false_iff_ne.2 h0, cond_false]
  simp only [copy_eq hl hN, Option.bind_some, chk]
  rw [show (decide ((0 : Int) ≤ (w.length : Int)) && decide (8 * (w.length : Int) ≤ 281474976710656) && decide ((w.length : Int) ≤ 9223372036854775807)) = true from by simp; omega, cond_true]
  have hz : coin l 0 = 0 := by simp [coin, chg_zero]
  have hb := fun k hk => bills_loop (N := 2000) hl hN ht us w (by omega) hub hW hpos k hk 2000 0 0 (List.replicate (w.length : Int).toNat 0) (by simp; omega) (by omega) (Int.le_refl _) (by simp) (by simp) (fun x hx => by rw [(List.mem_replicate.1 hx).2]; simp) (fun j x y hx hy => by
   have := (List.mem_replicate.1 (List.mem_of_getElem? hy)).2
   subst this
   rw [hz]; simp)
  rw [hz] at hb
  refine hb _ fun u g u0 u1 hg hq => ?_
  have hp := Qh6 ht
  obtain ⟨c1, c2⟩ := Qjn (l := l) hp u0
  obtain ⟨r, r1, r2, r3, r4⟩ := split_eq (N := 2000) (a := coin l u) (w := w) (by omega) hW hpos c1 (by omega)
  dsimp only
  rw [charge_at hl hN ht u0 (by omega), Option.bind_some, show decide ((([] : List Int).length + w.length) * 8 ≤ 140737488355328) = true from by have := hW.1; simp; omega, cond_true]
  dsimp only
  rw [List.nil_append, r1, Option.bind_some]
  dsimp only
  rw [show ((0 : Int) != 0) = false from rfl, cond_false, cond_false, show (coin l u != coin l u) = false from by simp, cond_false, show (((r.length : Nat) : Int) != (w.length : Int)) = false from by rw [r2]; simp, cond_false]
  exact far_loop 2000 us w g (r, 0) _ hW.1 (by omega) hg r2 (fun j x y hx hy => by
   obtain ⟨z, hz⟩ : ∃ z, w[j]? = some z := ⟨_, List.getElem?_eq_getElem (by have := (List.getElem?_eq_some_iff.1 hx).1; omega)⟩
   obtain ⟨q1, q2⟩ := hq j z x hz hx
   obtain ⟨s1, s2, _⟩ := r4 j z y hz hy
   have m : w.sum * (x - y) ≤ w.sum * ((us.length : Int) + 1) := by rw [Int.mul_sub, Int.mul_add, Int.mul_one]; omega
   have m' : w.sum * (y - x) ≤ w.sum * ((us.length : Int) + 1) := by rw [Int.mul_sub, Int.mul_add, Int.mul_one]; omega
   have := Int.le_of_mul_le_mul_left m hpos
   have := Int.le_of_mul_le_mul_left m' hpos
   omega) 2000 0 (by have := hW.1; omega)
end Go.Proofs.Ytflmombnmnblnaa
