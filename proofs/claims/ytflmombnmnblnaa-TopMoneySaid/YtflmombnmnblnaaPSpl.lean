/-
  Plain: an amount in parts. No conditions.
-/
import Derived.Test.YtflmombnmnblnaaPSplr
namespace Go.Proofs.Ytflmombnmnblnaa
open Go.RowKit
theorem get_map {α β : Type} (f : α → β) {l : List α} {j : Nat} {x : α} (h : l[j]? = some x) : (l.map f)[j]? = some (f x) := by simp [h]
theorem ex_tr {x y : Option (List Int × Int)} {Q : List Int → Prop} (h : x = y) (k : ∃ r, y = some (r, 0) ∧ Q r) : ∃ r, x = some (r, 0) ∧ Q r := h ▸ k
theorem split_eq {N : Nat} {a : Int} {w : List Int} (hN : 1000 ≤ N) (hl : Wts w) (hp : 0 < w.sum) (ha : 0 ≤ a) (ha' : a ≤ 1000000000000) : ∃ r, Qen N a w = some (r, 0) ∧ r.length = w.length ∧ r.sum = a ∧
  ∀ (j : Nat) x y, w[j]? = some x → r[j]? = some y → a * x - w.sum ≤ w.sum * y ∧ w.sum * y ≤ a * x + w.sum ∧ 0 ≤ y ∧ y ≤ 1000000000001 := by
 have h8 := hl.1
 have hne : w ≠ [] := fun e => by rw [e] at hp; simp at hp
 have h1 : 1 ≤ w.length := List.length_pos_iff.2 hne
 obtain ⟨s0, s1⟩ := sum_bd w hl.2
 have hb := Qj7 w fun x hx => (hl.2 x hx).1
 generalize hW : w.sum = W at *
 have hW8 : W ≤ 8000000000000 := by omega
 unfold Qen
 simp only [total_eq, Qj4, Qhw.2 ⟨ha, ha'⟩, Qhw.2 (show (1 : Int) ≤ (w.length : Int) ∧ (w.length : Int) ≤ 8 by omega), allL_eq hl hN, sumL_eq hl hN, hW, Option.bind_some, Bool.not_true, cond_false, Qcg, show (W == 0) = false from beq_eq_false_iff_ne.2 (by omega)]
 refine ex_tr (parts_loop N a W w _ hl ha ha' hp hW8 hN hb N 0 [] a (by simp; omega) rfl (by omega) ha' (by omega)) ?_
 rw [List.drop_zero, List.nil_append]
 obtain ⟨q1, q2, q3⟩ := prt_sum ha hp w fun x hx => ⟨(hl.2 x hx).1, hb x hx⟩
 rw [hW] at q1 q2
 generalize hS : (w.map fun x => (prt a W x).n).sum = S at q1 q2 q3 ⊢
 have hSa : S ≤ a := by
  refine Int.le_of_mul_le_mul_left (a := W) ?_ hp
  rw [Int.mul_comm W a]; exact q1
 have haS : a ≤ S + w.length := by
  refine Int.le_of_mul_le_mul_left (a := W) ?_ hp
  rw [Int.mul_comm W a, Int.mul_add]; exact q2
 generalize hP : w.map (prt a W) = P
 have hPl : P.length = w.length := by rw [← hP, List.length_map]
 have hPn : P.map (fun x => x.n) = w.map fun x => (prt a W x).n := by rw [← hP, List.map_map]; rfl
 dsimp only
 simp only [chk]
 rw [show (decide ((0 : Int) ≤ (w.length : Int)) && decide (8 * (w.length : Int) ≤ 281474976710656) && decide ((w.length : Int) ≤ 9223372036854775807)) = true from by simp; omega, cond_true]
 have eo := fun k => outs_loop N w P k hPl h8 N 0 (List.replicate (w.length : Int).toNat 0) (by simp; omega) (by omega) (by simp [hPl])
 simp only [List.take_zero, List.map_nil, List.nil_append] at eo
 refine ex_tr (eo _) ?_
 dsimp only
 obtain ⟨x21, e1, e2⟩ := ranked_eq (N := N) (p := P) hN (by omega) (fun e => by rw [e] at hPl; simp at hPl; omega)
 have e3 : x21.length = w.length := by rw [e2.length_eq, ixs_len, hPl]
 rw [e1, Option.bind_some]
 rw [show (decide ((0 : Nat) ≤ 0) && decide (0 ≤ a - S) && decide (a - S ≤ (x21.length : Int))) = true from by simp; omega, cond_true, hPn]
 have hnd : x21.Nodup := e2.nodup_iff.2 (List.pairwise_map.2 ((List.nodup_range (n := P.length)).imp fun h e => h (by omega)))
 have hin : ∀ x ∈ x21, 0 ≤ x ∧ x < w.length := fun x hx => by
  obtain ⟨j, hj, rfl⟩ := List.mem_map.1 (e2.mem_iff.1 hx)
  have := List.mem_range.1 hj
  omega
 have hlen : (x21.take ((a - S).toNat - 0)).length = (a - S).toNat := by rw [List.length_take]; omega
 have hon : ∀ x ∈ w.map fun x => (prt a W x).n, 0 ≤ x ∧ x ≤ 1000000000000 := fun x hx => by
  obtain ⟨z, hz, rfl⟩ := List.mem_map.1 hx
  obtain ⟨p1, p2, _⟩ := prt_bd ha (hl.2 z hz).1 (hb z hz) hp
  omega
 obtain ⟨r, r1, r2, r3, r4⟩ := bump_loop N w (a - S) x21 (fun y17 => bif decide ((w.length : Int).toNat ≤ y17.length) then some (y17.take ((w.length : Int).toNat), 0) else none) h8 _ rfl (by omega) N 0 (w.map fun x => (prt a W x).n) (by rw [List.drop_zero]; omega) (by simp) (by rw [List.drop_zero]; exact hnd.sublist (List.take_sublist ..)) (fun x hx => hin x (List.mem_of_mem_take hx)) (fun x hx => by have := hon x hx; omega)
 refine ⟨r, ?_, r2, ?_, fun j x y hx hy => ?_⟩
 ·refine r1.trans ?_
  rw [show decide ((w.length : Int).toNat ≤ r.length) = true from by simp; omega, cond_true, List.take_of_length_le (by omega)]
 ·rw [r3, List.drop_zero, hlen, hS]; omega
 ·obtain ⟨y', y1, y2, y3, _⟩ := r4 j _ (get_map (fun x => (prt a W x).n) hx)
  rw [hy] at y1; cases y1
  have hxm := List.mem_of_getElem? hx
  obtain ⟨p1, p2, p3, p4, p5⟩ := prt_bd ha (hl.2 x hxm).1 (hb x hxm) hp
  have m1 : W * (prt a W x).n ≤ W * y := Int.mul_le_mul_of_nonneg_left y2 (by omega)
  have m2 : W * y ≤ W * ((prt a W x).n + 1) := Int.mul_le_mul_of_nonneg_left y3 (by omega)
  rw [Int.mul_add] at m2
  omega
end Go.Proofs.Ytflmombnmnblnaa
