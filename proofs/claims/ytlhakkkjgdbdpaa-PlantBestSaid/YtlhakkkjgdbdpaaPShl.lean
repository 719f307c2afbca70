/-
  Plain laws that the laws on sharings lean on: copies, and how many there are. No conditions.
-/
import Derived.Test.YtlhakkkjgdbdpaaPShd
namespace Go.Proofs.Ytlhakkkjgdbdpaa
open Go.RowKit
theorem Qxg {N : Nat} {l : List Int} (h : l.length * 8 ≤ 140737488351232) : Qgh N l = some l := by
 unfold Qgh
 simp only [chk, show decide ((0 + l.length) * 8 ≤ 140737488355328) = true from decide_eq_true (by omega), cond_true]
theorem Qvl (N : Nat) (t : List GUnit) (K : List GUnit → Option (List GUnit)) (hN : 200 ≤ N) (hl : t.length ≤ 1000) (hr : ∀ u ∈ t, u.Parts.length ≤ 100) : ∀ (n i : Nat) (acc : List GUnit), (t.drop i).length < n → acc.length = i →
  Qd5 N t K n acc i = K (acc ++ t.drop i) := by
 intro n
 induction n with
 | zero => intro i _ h; exact absurd h (Nat.not_lt_zero _)
 | succ n ih =>
  intro i acc h hacc
  rw [Qd5]
  cases hd : t.drop i with
  | nil =>
   have := Qfy hd
   simp [show ¬ ((i : Int) < t.length) from by omega]
  | cons b l =>
   obtain ⟨hg, hd', hlt⟩ := Qe5 hd
   have e1 : w64 ((i : Int) + 1) = ((i + 1 : Nat) : Int) := Qa7 (by omega) (by omega)
   have e2 := copyU_eq (N := N) (hr b (List.mem_of_getElem? hg)) hN
   simp only [show decide ((i : Int) < t.length) = true from by simpa using hlt, cond_true, Qdf hg, Option.bind_some, e1, e2]
   rw [ih (i + 1) (acc ++ [b]) (by rw [hd']; rw [hd] at h; simp at h; omega) (by simp [hacc]), hd']
   simp only [chk, show decide ((acc.length + [b].length) * 32 ≤ 140737488355328) = true from by simp; omega, cond_true, List.append_assoc, List.cons_append, List.nil_append]
theorem unitsC_eq {N : Nat} {t : List GUnit} (hl : t.length ≤ 100) (hr : ∀ u ∈ t, u.Parts.length ≤ 100) (hN : 300 ≤ N) : Qip N t = some t := by
 unfold Qip
 simp only [Qb2]
 have := Qvl N t (fun y1 => some y1) (by omega) (by omega) hr N 0 [] (by simp; omega) rfl
 simpa using this
theorem Qjc {τ : Type} {k : τ → Option Bool} {f : (τ → Option Bool) → Option Bool} (P : τ → Prop) (h1 : ∀ x, P x → k x = some true) (h2 : ∀ k', (∀ x, P x → k' x = some true) → f k' = some true) : Qb2 k f = some true := h2 k h1
end Go.Proofs.Ytlhakkkjgdbdpaa
