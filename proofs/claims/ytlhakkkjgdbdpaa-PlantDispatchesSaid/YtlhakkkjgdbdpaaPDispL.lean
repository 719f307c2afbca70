/-
  Plain law of PlantDispatches. No conditions.
-/
import Derived.Test.YtlhakkkjgdbdpaaPTabR
import Derived.Test.YtlhakkkjgdbdpaaXo
namespace Go.Proofs.Ytlhakkkjgdbdpaa
open Go.RowKit
theorem Qt3 {N : Nat} {j : GJob} (hj : jobB j = false) (hN : 300 ≤ N) : Qdz N j = some ([], 0, [], 1) := by
 unfold Qdz
 rw [job_eq hN, hj]
 rfl
theorem Qsj (j : GJob) : (Qsk j).length = nH j := Qy2 _ _
theorem light_eq {N : Nat} {j : GJob} (hl : (j.Levels.length : Int) ≤ 9223372036854775807) (hh : (j.Hours.length : Int) ≤ 9223372036854775807) (hN : j.Levels.length + j.Hours.length + 300 ≤ N) : ∃ b : Bool, Qh0 N j = some b ∧ (b = true → j.Levels.length ≤ 15 ∧ j.Hours.length ≤ 103 ∧ (jobB j = true → j.Hours.length ≤ 5)) := by
 unfold Qh0
 by_cases h1 : j.Levels.length ≤ 15
 ·rw [show decide ((j.Levels.length : Int) ≤ 15) = true from decide_eq_true (by omega), cond_true]
  by_cases h2 : j.Hours.length ≤ 103
  ·rw [show decide ((j.Hours.length : Int) ≤ 103) = true from decide_eq_true (by omega), cond_true, jobR_eq hl hh hN, Option.bind_some]
   cases jobB j with
   | false => exact ⟨true, rfl, fun _ => ⟨h1, h2, fun h => by cases h⟩⟩
   | true =>
    rw [Bool.not_true, cond_false]
    by_cases h3 : j.Hours.length ≤ 5
    ·rw [show decide ((j.Hours.length : Int) ≤ 5) = true from decide_eq_true (by omega), cond_true]
     exact ⟨_, rfl, fun _ => ⟨h1, h2, fun _ => h3⟩⟩
    ·rw [show decide ((j.Hours.length : Int) ≤ 5) = false from decide_eq_false (by omega), cond_false]
     exact ⟨false, rfl, fun h => by cases h⟩
  ·rw [show decide ((j.Hours.length : Int) ≤ 103) = false from decide_eq_false (by omega), cond_false]
   exact ⟨false, rfl, fun h => by cases h⟩
 ·rw [show decide ((j.Levels.length : Int) ≤ 15) = false from decide_eq_false (by omega), cond_false]
  exact ⟨false, rfl, fun h => by cases h⟩
theorem Qo6 (j : GJob) (p : List Int) (g : gd_GJob j) (_ : Qtv p) : Qeh (j.Levels.length + j.Hours.length + 2000) j p = some true := by
 have hl := g.1.1
 have hh := g.2.2.2.2.1
 rw [maxLen_eq] at hl hh
 generalize hN : j.Levels.length + j.Hours.length + 2000 = N
 unfold Qeh
 obtain ⟨b, hb, hb2⟩ := light_eq (N := N) (j := j) (by omega) (by omega) (by omega)
 simp only [Qcn, awake_at, Option.bind_some, hb]
 cases b with
 | false => rfl
 | true =>
  obtain ⟨h1, h2, h3⟩ := hb2 rfl
  simp only [Bool.not_true, cond_false]
  by_cases hp : p.length ≤ 10
  ·rw [show decide ((p.length : Int) > 10) = false from decide_eq_false (by omega), cond_false]
   have c1 := copyJ_eq (N := N) (j := j) (by omega) (by omega) (by omega)
   have c3 := list_eq (N := N) (l := p) (by omega)
   have c4 := Qy0 (N := N) (j := j) (p := p) (by omega)
   have c0 := jobR_eq (N := N) (j := j) (by omega) (by omega) (by omega)
   cases hv : jobB j with
   | false =>
    have c2 := Qt3 (N := N) hv (by omega)
    rw [hv] at c4 c0
    simp only [c1, c2, c3, c4, c0, Option.bind_some]
    rfl
   | true =>
    have hj := jobOK hv
    have hH := h3 hv
    have hH0 := hj.h0
    have hL := hj.l1
    have c2 := Qt4 (N := N) hv (by omega)
    have c5 := Qpm (N := N) (j := j) (p := p) (by omega) hj
    have c6 := planR_eq (N := N) hj (by omega)
    have c7 := table_eq (N := N) hj (by omega)
    have c8 := Qvf (N := N) (l := Qsk j) (by rw [Qsj]; unfold nH; omega) (by omega)
    have c9 := Qwd (N := N) (T := Qir j) (by unfold Qir; rw [Qgx]; unfold nH; omega) (fun r hr => by
     simp only [Qir, rw', List.mem_map, List.mem_range] at hr
     obtain ⟨i, -, rfl⟩ := hr
     rw [List.length_map, List.length_range]; unfold nL; omega) (by omega)
    rw [hv, cond_true] at c4
    rw [hv] at c0
    simp only [c1, c2, c3, c4, c5, c6, c7, c0, Option.bind_some, Bool.not_true, cond_false]
    have fin : (((bif canB j then (Qsk j, Qt8 j) else (([] : List Int), (0 : Int))).1.length : Int) == 0) = !canB j := by
     cases canB j with
     | false => rfl
     | true =>
      rw [cond_true, Qsj]
      have : ¬ ((nH j : Int) = 0) := by unfold nH; omega
      simpa using this
    rw [fin]
    cases hc : canB j with
    | false =>
     simp only [cond_false, Bool.not_false, cond_true]
     cases hq : Qmw j p with
     | none => rfl
     | some v => exact absurd (prof_le hq).1 (by rw [hc]; decide)
    | true =>
     simp only [cond_true, Bool.not_true, cond_false, c8, c9, Option.bind_some, beq_self_eq_true]
     cases hq : Qmw j p with
     | none => rfl
     | some v => simp [outP, outB]
  ·rw [show decide ((p.length : Int) > 10) = true from decide_eq_true (by omega)]
   rfl
end Go.Proofs.Ytlhakkkjgdbdpaa
