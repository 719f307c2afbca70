/-
  Plain laws on an amount in parts. No conditions.
-/
import Derived.Test.YtflmombnmnblnaaPBilt
namespace Go.Proofs.Ytflmombnmnblnaa
open Go.RowKit
theorem and_one {x : Int} (h : 0 ≤ x) : andI .i64 x 1 = x % 2 := by
 unfold andI
 have e1 : (BitVec.ofInt (IntKind.i64).bits x &&& BitVec.ofInt (IntKind.i64).bits 1).toNat = x.toNat % 2 := by
  show (BitVec.ofInt 64 x &&& BitVec.ofInt 64 1).toNat = x.toNat % 2
  rw [BitVec.toNat_and, BitVec.toNat_ofInt, BitVec.toNat_ofInt]
  have e2 : ((1 : Int) % ((2 ^ 64 : Nat) : Int)).toNat = 1 := by decide
  rw [e2, Nat.and_one_is_mod]
  omega
 rw [e1, show (((x.toNat % 2 : Nat) : Int)) = x % 2 by omega]
 exact Qb3 (by omega) (by omega)
theorem divmod {P W y r : Int} (hW : 0 < W) (hy : P = W * y + r) (h0 : 0 ≤ r) (h1 : r < W) : P / W = y ∧ P % W = r := by
 have e : P / W = y := by rw [hy, Int.add_comm, Int.add_mul_ediv_left _ _ (by omega), Int.ediv_eq_zero_of_lt h0 h1, Int.zero_add]
 refine ⟨e, ?_⟩
 have := Int.emod_add_mul_ediv P W
 rw [e] at this
 omega
theorem part_loop (N : Nat) (a w W : Int) (k : Int × Int → Option GPortion) (ha : 0 ≤ a) (hb : a ≤ 1000000000000) (hw : 0 ≤ w) (hwW : w ≤ W) (hW : 0 < W) (hW' : W ≤ 10000000000000) : ∀ (b n : Nat), b ≤ 40 → b < n →
  Qce N a w W k n ((b : Int) - 1) ((a / 2 ^ b) * w / W) ((a / 2 ^ b) * w % W) = k (a * w / W, a * w % W) := by
 intro b
 induction b with
 | zero =>
  intro n _ hn
  obtain ⟨m, rfl⟩ : ∃ m, n = m + 1 := ⟨n - 1, by omega⟩
  rw [Qce]
  simp
 | succ b ih =>
  intro n hb40 hn
  obtain ⟨m, rfl⟩ : ∃ m, n = m + 1 := ⟨n - 1, by omega⟩
  rw [Qce]
  have e0 : (((b + 1 : Nat) : Int) - 1) = (b : Int) := by omega
  have e1 : decide ((b : Int) ≥ 0) = true := by simp
  have e2 : min (b : Int).toNat 64 = b := by omega
  simp only [e0, e1, cond_true, Qcg, chk, e2, show (W != 0) = true from by rw [bne_iff_ne]; omega]
  have hq0 : 0 ≤ a / 2 ^ b := Int.ediv_nonneg ha (Int.pow_nonneg (by decide))
  rw [and_one hq0]
  have hq : a / 2 ^ (b + 1) = (a / 2 ^ b) / 2 := by rw [Int.pow_succ, ← Int.ediv_ediv_of_nonneg (Int.pow_nonneg (by decide))]
  generalize hA : a / 2 ^ b = A at hq hq0 ih ⊢
  have hAle : A ≤ a := by
   rw [← hA]
   exact Int.ediv_le_self _ ha
  rw [hq]
  generalize hB : A / 2 = B
  generalize hr : A % 2 = r
  have hAB : A = 2 * B + r := by omega
  have hB0 : 0 ≤ B := by omega
  have hr01 : r = 0 ∨ r = 1 := by omega
  have p0 : 0 ≤ B * w := Int.mul_nonneg hB0 hw
  have hE := Int.emod_add_mul_ediv (B * w) W
  have hm0 := Int.emod_nonneg (B * w) (show W ≠ 0 by omega)
  have hm1 := Int.emod_lt_of_pos (B * w) hW
  have hd0 := Int.ediv_nonneg p0 (show 0 ≤ W by omega)
  have hd1 : B * w / W ≤ B := by
   have h1 : B * w ≤ B * W := Int.mul_le_mul_of_nonneg_left hwW hB0
   have := Int.ediv_le_ediv hW h1
   rwa [Int.mul_ediv_cancel _ (by omega)] at this
  generalize hy : B * w / W = y at hE hd0 hd1 ⊢
  generalize hl : B * w % W = l at hE hm0 hm1 ⊢
  have key : ∀ z : Int, z = 2 * l + r * w → 0 ≤ z → Qce N a w W k m (w64 ((b : Int) - 1)) (w64 (w64 (2 * y) + w64 (z.tdiv W))) (z.tmod W) = k (a * w / W, a * w % W) := by
   intro z hz hz0
   have hAw : A * w = W * (2 * y) + z := by
    rw [hAB, Int.add_mul, Int.mul_assoc, ← hE, hz, Int.mul_add, Int.mul_left_comm W 2 y]
    omega
   have hz1 := Int.emod_nonneg z (show W ≠ 0 by omega)
   have hz2 := Int.emod_lt_of_pos z hW
   have hz3 := Int.emod_add_mul_ediv z W
   obtain ⟨d1, d2⟩ := divmod (P := A * w) (y := 2 * y + z / W) hW (by rw [hAw, Int.mul_add]; omega) hz1 hz2
   have hzd : 0 ≤ z / W := Int.ediv_nonneg hz0 (by omega)
   have hzd1 : z / W ≤ 3 := by
    have h3 : z < W * 4 := by rcases hr01 with h | h <;> rw [h] at hz <;> omega
    have := Int.ediv_lt_of_lt_mul hW (show z < 4 * W by omega)
    omega
   rw [Int.tdiv_eq_ediv_of_nonneg hz0, Int.tmod_eq_emod_of_nonneg hz0, Qb3 (x := 2 * y) (by omega) (by omega), Qb3 (x := z / W) (by omega) (by omega), Qb3 (x := 2 * y + z / W) (by omega) (by omega), Qb3 (x := (b : Int) - 1) (by omega) (by omega), ← d1, ← d2]
   exact ih m (by omega) (by omega)
  rcases hr01 with h | h
  ·rw [h] at key ⊢
   simp only [show ((0 : Int) == 1) = false from rfl, cond_false]
   have := key (w64 (2 * l)) (by rw [Qb3 (by omega) (by omega)]; omega) (by rw [Qb3 (by omega) (by omega)]; omega)
   exact this
  ·rw [h] at key ⊢
   simp only [show ((1 : Int) == 1) = true from rfl, cond_true]
   have e3 : w64 (w64 (2 * l) + w) = 2 * l + w := by rw [Qb3 (x := 2 * l) (by omega) (by omega), Qb3 (by omega) (by omega)]
   have := key (w64 (w64 (2 * l) + w)) (by rw [e3]; omega) (by rw [e3]; omega)
   exact this
theorem part_eq {N : Nat} {a w W : Int} (hN : 41 ≤ N) (ha : 0 ≤ a) (hb : a ≤ 1000000000000) (hw : 0 ≤ w) (hwW : w ≤ W) (hW : 0 < W) (hW' : W ≤ 10000000000000) : Qf1 N a w W = some ⟨a * w / W, a * w % W⟩ := by
 unfold Qf1
 simp only [Qcg]
 have := part_loop N a w W (fun x => match x with | (y1, y2) => some (⟨y1, y2⟩ : GPortion)) ha hb hw hwW hW hW' 40 N (by omega) (by omega)
 have e : a / 2 ^ 40 = 0 := Int.ediv_eq_zero_of_lt ha (by omega)
 rw [e] at this
 simpa using this
end Go.Proofs.Ytflmombnmnblnaa
