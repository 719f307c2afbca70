/-
  The law PlantPlans as a plain law. No conditions.
-/
import Derived.Test.YtlhakkkjgdbdpaaX16
import Derived.Test.YtlhakkkjgdbdpaaPProf
namespace Go.Proofs.Ytlhakkkjgdbdpaa
open Go.RowKit

theorem list_big {N : Nat} {l : List Int} (h : l.length * 8 ≤ 140737488351232) : law07_listX N l = some l := by
  unfold law07_listX
  simp only [chk, show decide ((0 + l.length) * 8 ≤ 140737488355328) = true from decide_eq_true (by omega), cond_true]
theorem rowsC_loop (N : Nat) (t : List (List Int)) (k : List (List Int) → Option (List (List Int))) (hl : t.length ≤ 1000) (hr : ∀ x ∈ t, x.length * 8 ≤ 140737488351232) : ∀ (n i : Nat) (acc : List (List Int)), (t.drop i).length < n → acc.length = i →
    law07_rowsX_loop1 N t k n acc i = k (acc ++ t.drop i) := by
  intro n
  induction n with
  | zero => intro i _ h; exact absurd h (Nat.not_lt_zero _)
  | succ n ih =>
    intro i acc h hacc
    rw [law07_rowsX_loop1]
    cases hd : t.drop i with
    | nil =>
      have := drop_nil hd
      simp [show ¬ ((i : Int) < t.length) from by omega]
    | cons b l =>
      obtain ⟨hg, hd', hlt⟩ := drop_cons hd
      have e1 : w64 ((i : Int) + 1) = ((i + 1 : Nat) : Int) := w64_id (by omega) (by omega)
      have e2 := list_big (N := N) (hr b (List.mem_of_getElem? hg))
      simp only [show decide ((i : Int) < t.length) = true from by simpa using hlt, cond_true, getI_at hg, Option.bind_some, e1, e2]
      rw [ih (i + 1) (acc ++ [b]) (by rw [hd']; rw [hd] at h; simp at h; omega) (by simp [hacc]), hd']
      simp only [chk, show decide ((acc.length + [b].length) * 24 ≤ 140737488355328) = true from by simp; omega, cond_true, List.append_assoc, List.cons_append, List.nil_append]
theorem rowsC_eq {N : Nat} {t : List (List Int)} (hl : t.length ≤ 200) (hr : ∀ x ∈ t, x.length * 8 ≤ 140737488351232) (hN : 300 ≤ N) : law07_rowsX N t = some t := by
  unfold law07_rowsX
  simp only [joinK]
  have := rowsC_loop N t (fun y1 => some y1) (by omega) hr N 0 [] (by simp; omega) rfl
  simpa using this
theorem plans_law (j : GJob) (p : List Int) (w : Int) (T : List (List Int)) (g : gd_GJob j) (_ : gd_Li64 p) (_ : gd_i64 w) (gt : gd_LLi64 T) : law07_PlantPlansX (j.Levels.length + j.Hours.length + 2000) j p w T = some true := by
  have hl := g.1.1
  have hh := g.2.2.2.2.1
  rw [maxLen_eq] at hl hh
  generalize hN : j.Levels.length + j.Hours.length + 2000 = N
  unfold law07_PlantPlansX
  rw [jobR_eq (by omega) (by omega) (by omega)]
  simp only [joinK, awake_at, Option.bind_some]
  cases hv : jobB j with
  | false => rfl
  | true =>
    have hj := jobOK hv
    have hH := hj.h1
    have hL := hj.l1
    simp only [Bool.not_true, cond_false]
    by_cases h1 : p.length ≤ 120
    · rw [show decide ((p.length : Int) > 120) = false from decide_eq_false (by omega), cond_false]
      by_cases h2 : T.length ≤ 8
      · rw [show decide ((T.length : Int) > 8) = false from decide_eq_false (by omega), cond_false]
        have hr : ∀ x ∈ T, x.length * 8 ≤ 140737488351232 := fun x hx => (gt.2.1 x hx).2.2
        have c1 := copyJ_eq (N := N) (j := j) (by omega) (by omega) (by omega)
        have c2 := dispatch_eq (N := N) hv (by omega)
        have c3 := list_big (N := N) (l := p) (by omega)
        have c4 := profit_eq (N := N) (j := j) (p := p) (by omega)
        have c5 := rowsC_eq (N := N) (t := T) (by omega) hr (by omega)
        rw [hv, cond_true] at c4
        simp only [c1, c2, c3, c4, c5, Option.bind_some]
        cases hc : canB j with
        | false =>
          have hp : profV j p = none := by
            cases h : profV j p with
            | none => rfl
            | some v => rw [(prof_le h).1] at hc; cases hc
          rw [hp]
          rfl
        | true =>
          have bl : (bestP j).length = j.Hours.length := planF_len (L := nL j) (fol := folB j) (gn := gnI j) j.Hours j.First
          have c6 := list_big (N := N) (l := bestP j) (by omega)
          have c7 := profit_eq (N := N) (j := j) (p := bestP j) (by omega)
          have c8 := prove_eq (N := N) (j := j) (p := bestP j) (w := bestV j) (T := tabRows j) (by omega)
          have c9 := prove_eq (N := N) (j := j) (p := p) (w := w) (T := T) (by omega)
          rw [hv, cond_true, best_prof hj hc] at c7
          rw [hv, best_proves hj hc] at c8
          rw [hv, Bool.true_and] at c9
          simp only [cond_true, c6, c7, c8, c9, Option.bind_some, outP, show ((0 : Int) != 0) = false from rfl, cond_false, show (bestV j != bestV j) = false from by simp, Bool.and_self, Bool.not_true]
          have key : (bif !proveB j p w T then some true else bif (w == bestV j) then some true else some false : Option Bool) = some true := by
            cases hpb : proveB j p w T with
            | false => rfl
            | true => rw [proves_best hj hpb]; simp
          cases hp : profV j p with
          | none => exact key
          | some v =>
            have := (prof_le hp).2
            simp only [show ((0 : Int) == 0) = true from rfl, cond_true]
            show (bif decide (v > bestV j) then some false else (bif !proveB j p w T then some true else bif (w == bestV j) then some true else some false)) = some true
            rw [show decide (v > bestV j) = false from decide_eq_false (by omega)]
            exact key
      · rw [show decide ((T.length : Int) > 8) = true from decide_eq_true (by omega)]
        rfl
    · rw [show decide ((p.length : Int) > 120) = true from decide_eq_true (by omega)]
      rfl
end Go.Proofs.Ytlhakkkjgdbdpaa
