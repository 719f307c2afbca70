/-
  Plain law of PlantTables. No conditions.
-/
import Derived.Test.YtlhakkkjgdbdpaaPDispL
import Derived.Test.YtlhakkkjgdbdpaaPShow
import Derived.Test.YtlhakkkjgdbdpaaPPlans
import Derived.Test.YtlhakkkjgdbdpaaPShl
import Derived.Test.YtlhakkkjgdbdpaaXo
namespace Go.Proofs.Ytlhakkkjgdbdpaa
open Go.RowKit
theorem tl_loop {N : Nat} {T : List (List Int)} (hT : T.length ≤ 1000) (k2 : Unit → Option Bool) (h2 : (∀ x ∈ T, x.length ≤ 8) → k2 () = some true) : ∀ (n i : Nat), (T.drop i).length < n → (∀ (m : Nat) x, m < i → T[m]? = some x → x.length ≤ 8) → Qco N k2 T n i = some true := by
 intro n
 induction n with
 | zero => intro i h; exact absurd h (Nat.not_lt_zero _)
 | succ n ih =>
  intro i h hm
  rw [Qco]
  cases hd : T.drop i with
  | nil =>
   have := Qf6 hd
   rw [show decide ((i : Int) < (T.length : Int)) = false from decide_eq_false (by omega), cond_false]
   refine h2 fun x hx => ?_
   obtain ⟨m, hml, rfl⟩ := List.mem_iff_getElem.1 hx
   exact hm m _ (by omega) (List.getElem?_eq_getElem hml)
  | cons r l =>
   obtain ⟨hi, hd', hlt⟩ := Qen hd
   have e1 : w64 ((i : Int) + 1) = ((i + 1 : Nat) : Int) := Qc3 (by omega) (by omega)
   rw [show decide ((i : Int) < (T.length : Int)) = true from decide_eq_true (by omega), cond_true, Qdt hi, Option.bind_some, e1, Qsm]
   by_cases h8 : r.length ≤ 8
   ·rw [show decide ((r.length : Int) > 8) = false from decide_eq_false (by omega), cond_false]
    refine ih (i + 1) (by rw [hd']; rw [hd] at h; simp at h; omega) fun m x hm' hx => ?_
    rcases Nat.lt_or_ge m i with h3 | h3
    ·exact hm m x h3 hx
    ·obtain rfl : m = i := by omega
     rw [hi] at hx
     cases hx
     exact h8
   ·rw [show decide ((r.length : Int) > 8) = true from decide_eq_true (by omega)]
    rfl
theorem tail_ok {j : GJob} (hL : nL j ≤ 200) (hH : nH j ≤ 100) {R : List (List Int)} (hR : ∀ m, m ≤ nH j → (R.getD m []).length = nL j) (k8 : List Int × Int × List (List Int) → Option Bool) (h8 : ∀ x, (x.1.length ≤ 1000 ∧ x.2.2.length ≤ 200 ∧ ∀ r ∈ x.2.2, r.length ≤ 200) → k8 x = some true) {a : List Int} {b : Int} (ha : a.length ≤ 1000) :
  chk ((rw' (nH j + 1) (fun i => (nH j - i, nL j))).all fun x => decide (x.2 ≤ (R.getD x.1 []).length)) (chk (decide (nH j + 1 ≤ ((rw' (nH j + 1) (fun i => (nH j - i, nL j))).map fun x => (R.getD x.1 []).take x.2).length)) (k8 (a, b, ((rw' (nH j + 1) (fun i => (nH j - i, nL j))).map fun x => (R.getD x.1 []).take x.2).take (nH j + 1)))) = some true := by
 have c1 : ((rw' (nH j + 1) (fun i => (nH j - i, nL j))).all fun x => decide (x.2 ≤ (R.getD x.1 []).length)) = true := by
  rw [List.all_eq_true]
  intro x hx
  simp only [rw', List.mem_map, List.mem_range] at hx
  obtain ⟨i, hi, rfl⟩ := hx
  exact decide_eq_true (by rw [hR _ (by omega)]; exact Nat.le_refl _)
 have c2 : ((rw' (nH j + 1) (fun i => (nH j - i, nL j))).map fun x => (R.getD x.1 []).take x.2).length = nH j + 1 := by rw [List.length_map, Qll]
 rw [c1, c2, decide_eq_true (Nat.le_refl _), List.take_of_length_le (by rw [c2]; exact Nat.le_refl _)]
 refine h8 _ ⟨ha, by dsimp only; rw [c2]; omega, fun r hr => ?_⟩
 obtain ⟨x, hx, rfl⟩ := List.mem_map.1 hr
 simp only [rw', List.mem_map, List.mem_range] at hx
 obtain ⟨i, hi, rfl⟩ := hx
 rw [List.length_take]
 dsimp only
 omega
theorem Qpj {j : GJob} (f : Nat → Nat → Int) {m : Nat} (h : m ≤ nH j) : ((Qnc j f (nH j + 1)).getD m []).length = nL j := by
 rw [List.getD_eq_getElem?_getD, Qpk _ (by omega)]
 exact Qll _ _
theorem setM_row {j : GJob} {R : List (List Int)} (hR : ∀ m, m ≤ nH j → (R.getD m []).length = nL j) (q l : Nat) (v : Int) : ∀ m, m ≤ nH j → ((setM R q l v).getD m []).length = nL j := by
 intro m hm
 unfold setM
 have h0 := hR m hm
 rw [List.getD_eq_getElem?_getD] at h0 ⊢
 by_cases e : q = m
 ·subst e
  rw [List.getElem?_set_self']
  cases hq : R[q]? with
  | none => rw [hq] at h0; simpa using h0
  | some r => rw [hq] at h0; simpa [List.getD_eq_getElem?_getD, hq] using h0
 ·rw [List.getElem?_set_ne e]
  exact h0
theorem Qx8 (j : GJob) (p : List Int) (w : Int) (T : List (List Int)) (own : Bool) (row at' by' : Int) (g : gd_GJob j) (_ : Qr7 p) (_ : Ql0 w) (_ : Qxa T) (_ : gd_bool own) (_ : Ql0 row) (_ : Ql0 at') (_ : Ql0 by') :
  Qgj (j.Levels.length + j.Hours.length + 2000) j p w T own row at' by' = some true := by
 have hl := g.1.1
 have hh := g.2.2.2.2.1
 rw [maxLen_eq] at hl hh
 generalize hN : j.Levels.length + j.Hours.length + 2000 = N
 unfold Qgj
 obtain ⟨b, hb, hb2⟩ := light_eq (N := N) (j := j) (by omega) (by omega) (by omega)
 refine Qkg (P := fun _ => b = true ∧ p.length ≤ 10 ∧ T.length ≤ 8) (fun _ hx => ?_) (fun k1 h1 => ?_)
 ·obtain ⟨h0, hp, hT⟩ := hx
  obtain ⟨g1, g2, g3⟩ := hb2 h0
  refine Qkg (P := fun _ => ∀ x ∈ T, x.length ≤ 8) (fun _ hr => ?_) (fun k2 h2 => ?_)
  ·have c1 := copyJ_eq (N := N) (j := j) (by omega) (by omega) (by omega)
   have c0 := jobR_eq (N := N) (j := j) (by omega) (by omega) (by omega)
   rw [c0, Option.bind_some]
   refine Qkg (P := fun x => x.1.length ≤ 1000 ∧ x.2.2.length ≤ 200 ∧ ∀ r ∈ x.2.2, r.length ≤ 200) (fun x hx => ?_) (fun k8 h8 => ?_)
   ·obtain ⟨a, v, c⟩ := x
    obtain ⟨x1, x2, x3⟩ := hx
    dsimp only at x1 x2 x3
    refine Qkg (P := fun y => y = (jobB j && Qww j a v c)) (fun y hy => ?_) (fun k10 h10 => ?_)
    ·have c3 := list_eq (N := N) (l := a) (by omega)
     have c5 := rowsC_eq (N := N) (t := c) x2 (fun r hr => by have := x3 r hr; omega) (by omega)
     have c6 := prove_eq (N := N) (j := j) (p := a) (w := v) (T := c) (by omega)
     rw [c1, Option.bind_some, c3, Option.bind_some, c5, Option.bind_some, c6, Option.bind_some, hy, beq_self_eq_true, cond_true, Qsm]
     rfl
    ·cases hv : jobB j with
     | false => exact h10 _ (by rw [hv]; rfl)
     | true =>
      have hj := jobOK hv
      rw [hv, Bool.true_and] at h10
      rw [cond_true, Qq2 (by omega) hj, Option.bind_some]
      unfold Qww at h10
      cases hq : Qoa j a with
      | none => exact h10 _ (by rw [hq]; rfl)
      | some u =>
       rw [hq] at h10
       simp only [outB, cond_true]
       by_cases huv : u = v
       ·subst huv
        rw [beq_self_eq_true, cond_true, shows_eq hj (by omega), Option.bind_some]
        exact h10 _ (by rw [decide_eq_true rfl, Bool.true_and])
       ·rw [show (u == v) = false from by simpa using huv, cond_false]
        exact h10 _ (by rw [decide_eq_false (fun e => huv (Option.some.inj e))]; rfl)
   ·refine Qkg (P := fun y => y = true → jobB j = true) (fun y hy => ?_) (fun k30 h30 => ?_)
    ·cases y with
     | false => exact h8 _ ⟨by dsimp only; omega, by dsimp only; omega, fun r hr' => by have := hr r hr'; omega⟩
     | true =>
      have hj := jobOK (hy rfl)
      have hH5 := g3 (hy rfl)
      have hL := Qj5 hj
      have hHb := Qkx hj
      rw [cond_true, planR_eq hj (by omega), Option.bind_some, table1_eq hj (by omega), Option.bind_some, in_eq, Option.bind_some, Qx4 hj]
      simp only [Int.toNat_natCast]
      have hb1 : (bif canB j then (bestP j, bestV j) else (([] : List Int), (0 : Int))).1.length ≤ 1000 := by
       cases canB j with
       | false => simp
       | true => rw [cond_true, bestP_len]; omega
      generalize (bif canB j then (bestP j, bestV j) else (([] : List Int), (0 : Int))) = s at hb1
      have tl0 := fun (b : Int) => tail_ok (j := j) (by omega) (by omega) (fun m hm => Qpj (tb j) hm) k8 h8 (b := b) hb1
      have two : ∀ x y : Option Bool, x = some true → y = some true → ∀ q : Bool, (bif q then x else y) = some true := fun x y hx hy q => by cases q <;> assumption
      cases btw by' (-2000000000000) 2000000000000 with
      | false => exact tl0 _
      | true =>
       rw [cond_true]
       by_cases r0 : 0 ≤ row
       ·rw [show decide (row ≥ 0) = true from decide_eq_true r0, cond_true]
        by_cases r1 : row < ((nH j + 1 : Nat) : Int)
        ·rw [decide_eq_true r1, cond_true]
         by_cases a0 : 0 ≤ at'
         ·rw [show decide (at' ≥ 0) = true from decide_eq_true a0, cond_true]
          obtain ⟨rn, rfl⟩ : ∃ rn : Nat, row = (rn : Int) := ⟨row.toNat, by omega⟩
          obtain ⟨an, rfl⟩ : ∃ an : Nat, at' = (an : Int) := ⟨at'.toNat, by omega⟩
          have e1 : (rw' (nH j + 1) (fun i => (nH j - i, nL j)))[rn]? = some (nH j - rn, nL j) := Qoq _ (by omega)
          have d1 : decide (rn < nH j + 1) = true := decide_eq_true (by omega)
          simp only [Int.toNat_natCast, d1, decide_eq_true r0, decide_eq_true a0, Bool.and_self, chk, cond_true, e1, Option.bind_some]
          by_cases a1 : (an : Int) < (nL j : Int)
          ·have d2 : decide (an < nL j) = true := decide_eq_true (by omega)
           have hrow := Qpj (tb j) (m := nH j - rn) (j := j) (by omega)
           have d3 : ((Qnc j (tb j) (nH j + 1)).getD (nH j - rn) []).isEmpty = false := by
            cases hq : (Qnc j (tb j) (nH j + 1)).getD (nH j - rn) [] with
            | nil => rw [hq] at hrow; simp at hrow; omega
            | cons => rfl
           have hg := Qw9 (R := Qnc j (tb j) (nH j + 1)) (L := nL j) (a := nH j - rn) (l := an) [] (Qpk _ (by omega)) (by omega)
           rw [List.append_nil] at hg
           simp only [decide_eq_true a1, cond_true, d2, d3, Bool.not_false, hg, Option.bind_some]
           exact tail_ok (j := j) (by omega) (by omega) (setM_row (fun m hm => Qpj (tb j) hm) _ _ _) k8 h8 hb1
          ·simp only [decide_eq_false a1, cond_false]
           exact two _ _ (tl0 _) (tl0 _) _
         ·rw [show decide (at' ≥ 0) = false from decide_eq_false a0, cond_false]
          exact two _ _ (tl0 _) (tl0 _) _
        ·rw [decide_eq_false r1, cond_false]
         exact two _ _ (tl0 _) (tl0 _) _
       ·rw [show decide (row ≥ 0) = false from decide_eq_false r0, cond_false]
        exact two _ _ (tl0 _) (tl0 _) _
    ·cases own with
     | true => exact h30 _ id
     | false => exact h30 _ (fun e => by cases e)
  ·exact tl_loop (by omega) k2 (h2 ()) N 0 (by simp; omega) (fun m x hm => absurd hm (Nat.not_lt_zero _))
 ·rw [hb, Option.bind_some, Qsm]
  cases b with
  | false => rfl
  | true =>
   simp only [Bool.not_true, cond_false, Option.bind_some]
   by_cases hp : p.length ≤ 10
   ·rw [show decide ((p.length : Int) > 10) = false from decide_eq_false (by omega), cond_false]
    by_cases hT : T.length ≤ 8
    ·rw [show decide ((T.length : Int) > 8) = false from decide_eq_false (by omega), cond_false]
     exact h1 () ⟨rfl, hp, hT⟩
    ·rw [show decide ((T.length : Int) > 8) = true from decide_eq_true (by omega)]
     rfl
   ·rw [show decide ((p.length : Int) > 10) = true from decide_eq_true (by omega)]
    rfl
end Go.Proofs.Ytlhakkkjgdbdpaa
