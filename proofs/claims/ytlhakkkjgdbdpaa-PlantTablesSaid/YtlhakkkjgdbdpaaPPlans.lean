/-
  The law PlantPlans as a plain law. No conditions.
-/
import Derived.Test.YtlhakkkjgdbdpaaX16
import Derived.Test.YtlhakkkjgdbdpaaPProf
namespace Go.Proofs.Ytlhakkkjgdbdpaa
open Go.RowKit
theorem list_big {N : Nat} {l : List Int} (h : l.length * 8 ≤ 140737488351232) : Qf5 N l = some l := by
 unfold Qf5
 simp only [chk, show decide ((0 + l.length) * 8 ≤ 140737488355328) = true from decide_eq_true (by omega), cond_true]
theorem Qyb (N : Nat) (t : List (List Int)) (k : List (List Int) → Option (List (List Int))) (hl : t.length ≤ 1000) (hr : ∀ x ∈ t, x.length * 8 ≤ 140737488351232) : ∀ (n i : Nat) (acc : List (List Int)), (t.drop i).length < n → acc.length = i →
  Qec N t k n acc i = k (acc ++ t.drop i) := by
 intro n
 induction n with
 | zero => intro i _ h; exact absurd h (Nat.not_lt_zero _)
 | succ n ih =>
  intro i acc h hacc
  rw [Qec]
  cases hd : t.drop i with
  | nil =>
   have := Qf6 hd
   simp [show ¬ ((i : Int) < t.length) from by omega]
  | cons b l =>
   obtain ⟨hg, hd', hlt⟩ := Qen hd
   have e1 : w64 ((i : Int) + 1) = ((i + 1 : Nat) : Int) := Qc3 (by omega) (by omega)
   have e2 := list_big (N := N) (hr b (List.mem_of_getElem? hg))
   simp only [show decide ((i : Int) < t.length) = true from by simpa using hlt, cond_true, Qdt hg, Option.bind_some, e1, e2]
   rw [ih (i + 1) (acc ++ [b]) (by rw [hd']; rw [hd] at h; simp at h; omega) (by simp [hacc]), hd']
   simp only [chk, show decide ((acc.length + [b].length) * 24 ≤ 140737488355328) = true from by simp; omega, cond_true, List.append_assoc, List.cons_append, List.nil_append]
theorem rowsC_eq {N : Nat} {t : List (List Int)} (hl : t.length ≤ 200) (hr : ∀ x ∈ t, x.length * 8 ≤ 140737488351232) (hN : 300 ≤ N) : Qjn N t = some t := by
 unfold Qjn
 simp only [Qb0]
 have := Qyb N t (fun y1 => some y1) (by omega) hr N 0 [] (by simp; omega) rfl
 simpa using this
end Go.Proofs.Ytlhakkkjgdbdpaa
