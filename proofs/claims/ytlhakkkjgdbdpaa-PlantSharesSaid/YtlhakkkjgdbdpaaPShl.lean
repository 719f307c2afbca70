/-
  Plain laws that the laws on sharings lean on: copies, and how many there are. No conditions.
-/
import Derived.Test.YtlhakkkjgdbdpaaPShd
namespace Go.Proofs.Ytlhakkkjgdbdpaa
open Go.RowKit
theorem Qxz {N : Nat} {l : List Int} (h : l.length * 8 ≤ 140737488351232) : Qhi N l = some l := by
 unfold Qhi
 simp only [chk, show decide ((0 + l.length) * 8 ≤ 140737488355328) = true from decide_eq_true (by omega), cond_true]
theorem Qv6 (N : Nat) (t : List GUnit) (K : List GUnit → Option (List GUnit)) (hN : 200 ≤ N) (hl : t.length ≤ 1000) (hr : ∀ u ∈ t, u.Parts.length ≤ 100) : ∀ (n i : Nat) (acc : List GUnit), (t.drop i).length < n → acc.length = i →
  Qea N t K n acc i = K (acc ++ t.drop i) := by
 intro n
 induction n with
 | zero => intro i _ h; exact absurd h (Nat.not_lt_zero _)
 | succ n ih =>
  intro i acc h hacc
  rw [Qea]
  cases hd : t.drop i with
  | nil =>
   have := Qe4 hd
   simp [show ¬ ((i : Int) < t.length) from by omega]
  | cons b l =>
   obtain ⟨hg, hd', hlt⟩ := Qeb hd
   have e1 : w64 ((i : Int) + 1) = ((i + 1 : Nat) : Int) := Qa6 (by omega) (by omega)
   have e2 := copyU_eq (N := N) (hr b (List.mem_of_getElem? hg)) hN
   simp only [show decide ((i : Int) < t.length) = true from by simpa using hlt, cond_true, Qcv hg, Option.bind_some, e1, e2]
   rw [ih (i + 1) (acc ++ [b]) (by rw [hd']; rw [hd] at h; simp at h; omega) (by simp [hacc]), hd']
   simp only [chk, show decide ((acc.length + [b].length) * 32 ≤ 140737488355328) = true from by simp; omega, cond_true, List.append_assoc, List.cons_append, List.nil_append]
theorem unitsC_eq {N : Nat} {t : List GUnit} (hl : t.length ≤ 100) (hr : ∀ u ∈ t, u.Parts.length ≤ 100) (hN : 300 ≤ N) : Qhk N t = some t := by
 unfold Qhk
 simp only [Qbr]
 have := Qv6 N t (fun y1 => some y1) (by omega) (by omega) hr N 0 [] (by simp; omega) rfl
 simpa using this
def fewB (h : List Int) (us : List GUnit) : Bool := us.all (fun u => decide ((u.Parts.length : Int) ≤ 10)) && (decide ((h.length : Int) ≤ 8) && decide ((us.length : Int) ≤ 12))
theorem few_loop (N : Nat) (us : List GUnit) (K : Unit → Option Bool) (hl : (us.length : Int) ≤ 9223372036854775807) : ∀ (n i : Nat), (us.drop i).length < n →
  Qet N K us n i = bif (us.drop i).all (fun u => decide ((u.Parts.length : Int) ≤ 10)) then K () else some false := by
 intro n
 induction n with
 | zero => intro i h; exact absurd h (Nat.not_lt_zero _)
 | succ n ih =>
  intro i hh
  rw [Qet]
  cases hd : us.drop i with
  | nil =>
   have := Qe4 hd
   simp [show ¬ ((i : Int) < us.length) from by omega]
  | cons p l =>
   obtain ⟨hi, hd', hlt⟩ := Qeb hd
   have e1 : w64 ((i : Int) + 1) = ((i + 1 : Nat) : Int) := Qa6 (by omega) (by omega)
   have ih' := ih (i + 1) (by rw [hd']; rw [hd] at hh; simp at hh; omega)
   rw [hd'] at ih'
   simp only [show decide ((i : Int) < us.length) = true from by simpa using hlt, cond_true, Qcv hi, Option.bind_some, Qj5, e1, ih', List.all_cons]
   cases decide ((p.Parts.length : Int) ≤ 10) <;> simp
theorem few_eq {N : Nat} {h : List Int} {us : List GUnit} (hl : (us.length : Int) ≤ 9223372036854775807) (hN : us.length + 300 ≤ N) : Qkr N h us = some (fewB h us) := by
 unfold Qkr fewB
 simp only [Qbr]
 have a1 := few_loop N us (fun _ => bif (decide ((h.length : Int) ≤ 8)) then some (decide ((us.length : Int) ≤ 12)) else some false) hl N 0 (by simp; omega)
 rw [show ((0 : Nat) : Int) = 0 from rfl, List.drop_zero] at a1
 rw [a1]
 cases us.all (fun u => decide ((u.Parts.length : Int) ≤ 10)) <;> cases decide ((h.length : Int) ≤ 8) <;> rfl
theorem few_out {h : List Int} {us : List GUnit} (hB : fewB h us = true) : (∀ u ∈ us, u.Parts.length ≤ 10) ∧ h.length ≤ 8 ∧ us.length ≤ 12 := by
 unfold fewB at hB
 simp only [Bool.and_eq_true, decide_eq_true_eq, List.all_eq_true] at hB
 exact ⟨fun u hu => by have := hB.1 u hu; omega, by omega, by omega⟩
theorem Qrb {τ : Type} {k : τ → Option Bool} {f : (τ → Option Bool) → Option Bool} (P : τ → Prop) (h1 : ∀ x, P x → k x = some true) (h2 : ∀ k', (∀ x, P x → k' x = some true) → f k' = some true) : Qbr k f = some true := h2 k h1
theorem shareN_eq {N : Nat} {h : List Int} {us : List GUnit} (hv : Qjn h us = false) (hN : 300 ≤ N) : Qf4 N h us = some ([], 0, [], 1) := by
 unfold Qf4
 rw [Qpr hN, Option.bind_some, hv]
 rfl
end Go.Proofs.Ytlhakkkjgdbdpaa
