/-
  Plain laws on the reference's flash and train: they are the program's. No conditions but validity.
-/
import Derived.Test.YtenpbiineblcjaaX3
import Derived.Test.YtenpbiineblcjaaPFla
namespace Go.Proofs.Ytenpbiineblcjaa
open Go.RowKit

theorem ref_eq (N : Nat) {r : GRow} {s : GStream} (hr : RowV r) (hs : StrV s) : ref01_FlashX N r s = some (flG r s) := by
  have hw := words hr hs
  have hc := stm_cases hr hs
  obtain ⟨l0, l1, lv, v1, s0, s1⟩ := hr
  obtain ⟨m0, m1, h0, h1, q0, q1, _, _⟩ := hs
  have p1 := bdp m0 m1 s0 s1 (by omega)
  have hd : ((r.Vapour - r.Liquid) != 0) = true := by simp; omega
  unfold ref01_FlashX
  simp only [hw.a, hw.b, hw.c, hw.d, Option.bind_some, joinK, hd, chk, cond_true]
  unfold flG
  -- without steam
  have none0 : ∀ (x : Int), w64 (s.Silica - (if w64 (s.Silica - w64 (s.Mass * r.Silica)) > 0 then w64 (s.Silica - w64 (s.Mass * r.Silica)) else 0)) = min (s.Mass * r.Silica) s.Silica ∧ (if w64 (s.Silica - w64 (s.Mass * r.Silica)) > 0 then w64 (s.Silica - w64 (s.Mass * r.Silica)) else 0) = s.Silica - min (s.Mass * r.Silica) s.Silica := fun _ => by
    rw [w64_id (x := s.Mass * r.Silica) (by omega) (by omega), w64_id (x := s.Silica - s.Mass * r.Silica) (by omega) (by omega)]
    constructor
    · rw [w64_id] <;> (repeat split) <;> omega
    · split <;> omega
  have none0 := none0 0
  rcases hc with ⟨a, b⟩ | ⟨a, b, c, d⟩ | ⟨a, b, c, d, e, g1, g2⟩
  · rw [b, if_pos rfl, decide_eq_false (show ¬ s.Heat - s.Mass * r.Liquid > 0 by omega)]
    simp only [cond_false, show decide ((0 : Int) > 0) = false from rfl]
    have k : (bif (0 : Int) == s.Mass then (some ⟨⟨s.Mass, s.Heat, min (s.Mass * r.Silica) s.Silica, s.Gas⟩, ⟨0, 0, 0, 0⟩, 0, 0⟩ : Option GParts) else none) = (bif (0 : Int) == s.Mass then (some ⟨⟨s.Mass, s.Heat, min (s.Mass * r.Silica) s.Silica, s.Gas⟩, ⟨0, 0, 0, 0⟩, 0, 0⟩ : Option GParts) else none) := rfl
    rw [none0.1, none0.2]
    have : (if 0 < s.Mass then max (s.Heat - s.Mass * r.Liquid) 0 else 0) = 0 := by split <;> omega
    rw [this]
    cases (0 : Int) == s.Mass <;> rfl
  · rw [decide_eq_true (show s.Heat - s.Mass * r.Liquid > 0 from a), decide_eq_true (show s.Heat ≥ s.Mass * r.Vapour from b), c, if_neg (show ¬ s.Mass = 0 by omega), if_pos rfl]
    simp only [cond_true, beq_self_eq_true, decide_eq_true (show s.Mass > 0 from d)]
  · rw [decide_eq_true (show s.Heat - s.Mass * r.Liquid > 0 from a), decide_eq_false (show ¬ s.Heat ≥ s.Mass * r.Vapour by omega), ← c]
    generalize hm : stm r s = m at *
    rw [w64_id (x := m) (by omega) (by omega), show (m == s.Mass) = false by simp; omega]
    simp only [cond_true, cond_false]
    by_cases z : m = 0
    · subst z
      simp only [show decide ((0 : Int) > 0) = false from rfl, cond_false, if_true]
      rw [none0.1, none0.2, if_pos (show 0 < s.Mass from e)]
      congr 2
      omega
    · rw [decide_eq_true (show m > 0 by omega), if_neg z, if_neg (show ¬ m = s.Mass by omega)]
      have k1 := bdp d (show m ≤ 1000000 by omega) (show 0 ≤ r.Vapour by omega) v1 (by omega)
      have k2 := bdp (show 0 ≤ s.Mass - m by omega) (show s.Mass - m ≤ 1000000 by omega) s0 s1 (by omega)
      have k3 := bdp (show 0 ≤ s.Mass - m by omega) (show s.Mass - m ≤ 1000000 by omega) l0 l1 (by omega)
      simp only [cond_true]
      rw [w64_id (x := s.Mass - m) (by omega) (by omega), w64_id (x := m * r.Vapour) (by omega) (by omega), w64_id (x := s.Heat - m * r.Vapour) (by omega) (by omega), w64_id (x := (s.Mass - m) * r.Silica) (by omega) (by omega), w64_id (x := (s.Mass - m) * r.Liquid) (by omega) (by omega), w64_id (x := s.Heat - m * r.Vapour - (s.Mass - m) * r.Liquid) (by omega) (by omega), w64_id (x := s.Silica - (s.Mass - m) * r.Silica) (by omega) (by omega)]
      have j1 : w64 (s.Silica - (if s.Silica - (s.Mass - m) * r.Silica > 0 then s.Silica - (s.Mass - m) * r.Silica else 0)) = min ((s.Mass - m) * r.Silica) s.Silica := by
        rw [w64_id] <;> (repeat split) <;> omega
      have j2 : (if s.Silica - (s.Mass - m) * r.Silica > 0 then s.Silica - (s.Mass - m) * r.Silica else 0) = s.Silica - min ((s.Mass - m) * r.Silica) s.Silica := by split <;> omega
      rw [j1, j2]

theorem refTrain_loop (N : Nat) {t : List GRow} (ht : tabB t = true) (l : List Int) (hl : l.length ≤ 1000) (ha : ∀ x ∈ l, btw x 0 ((t.length : Int) - 1) = true) (k : List GParts → Option (List GParts)) : ∀ (n i : Nat) (s : GStream) (acc : List GParts), StrV s → (l.drop i).length < n → i ≤ l.length → acc.length = i →
    ref01_TrainX_loop1 N t l k n acc i s.Mass s.Heat s.Silica s.Gas = k (acc ++ trainG t s (l.drop i)) := by
  intro n
  induction n with
  | zero => intro i s acc _ h; omega
  | succ n ih =>
    intro i s acc hs h hi hacc
    unfold ref01_TrainX_loop1
    cases hd : l.drop i with
    | nil =>
      have := drop_nil hd
      rw [show (decide ((i : Int) < (l.length : Int))) = false by simp; omega]
      simp [trainG]
    | cons a q =>
      obtain ⟨h1, h2, h3⟩ := drop_cons hd
      rw [show (decide ((i : Int) < (l.length : Int))) = true by simp; omega]
      have e : w64 ((i : Int) + 1) = ((i + 1 : Nat) : Int) := by rw [w64_id] <;> omega
      obtain ⟨g1, g2⟩ := row_at ht (ha a (List.mem_of_getElem? h1))
      simp only [cond_true, getI_at h1, Option.bind_some, e, trainG]
      rw [g1]
      simp only [Option.getD_some, Option.bind_some]
      generalize (getI t a).getD ⟨0, 0, 0, 0, 0⟩ = r at g2
      have ho : ref01_FlashX N r ⟨s.Mass, s.Heat, s.Silica, s.Gas⟩ = some (flG r s) := ref_eq N g2 hs
      rw [ho]
      simp only [Option.bind_some]
      have hc : decide ((acc.length + [(⟨⟨(flG r s).Steam.Mass, (flG r s).Steam.Heat, (flG r s).Steam.Silica, (flG r s).Steam.Gas⟩, ⟨(flG r s).Water.Mass, (flG r s).Water.Heat, (flG r s).Water.Silica, (flG r s).Water.Gas⟩, (flG r s).Rest, (flG r s).Scale⟩ : GParts)].length) * 80 ≤ 140737488355328) = true := by simp; omega
      rw [hc]
      simp only [chk, cond_true]
      rw [ih (i + 1) _ _ (flG_kept g2 hs).wa (by rw [h2]; rw [hd] at h; simpa using h) (by omega) (by simp [hacc]), h2]
      simp
theorem refTrain_eq {N : Nat} (hN : 1001 ≤ N) {t : List GRow} (ht : tabB t = true) {l : List Int} (hl : l.length ≤ 20) (ha : ∀ x ∈ l, btw x 0 ((t.length : Int) - 1) = true) {s : GStream} (hs : StrV s) : ref01_TrainX N t l s = some (trainG t s l) := by
  have := refTrain_loop N ht l (by omega) ha (fun y => some y) N 0 s [] hs (by simp; omega) (Nat.zero_le _) rfl
  unfold ref01_TrainX joinK
  simpa using this

end Go.Proofs.Ytenpbiineblcjaa
