/-
  The statement on steps: the extracted law returns true for every input. No conditions.
-/
import Derived.Test.YtenpbiineblcjaaX5
import Derived.Test.YtenpbiineblcjaaPFla
namespace Go.Proofs.Ytenpbiineblcjaa
open Go.RowKit

theorem trainG_take (t : List GRow) : ∀ (l : List Int) (n : Nat) (s : GStream), trainG t s (l.take n) = (trainG t s l).take n
  | [], _, _ => by simp [trainG]
  | _ :: _, 0, _ => by simp [trainG]
  | a :: l, n + 1, s => by simp only [List.take_succ_cons, trainG]; rw [trainG_take t l n]
theorem trainG_drop (t : List GRow) : ∀ (l : List Int) (n : Nat) (s : GStream) (p : GParts), (trainG t s l)[n]? = some p → trainG t p.Water (l.drop (n + 1)) = (trainG t s l).drop (n + 1)
  | [], _, _, _, h => by simp [trainG] at h
  | a :: l, 0, s, p, h => by
    simp only [trainG, List.getElem?_cons_zero, Option.some.injEq] at h
    subst h
    rfl
  | a :: l, n + 1, s, p, h => by
    simp only [trainG, List.getElem?_cons_succ] at h
    simp only [trainG, List.drop_succ_cons]
    exact trainG_drop t l n _ p h
theorem trainG_wa {t : List GRow} (ht : tabB t = true) : ∀ (l : List Int) (n : Nat) (s : GStream) (p : GParts), StrV s → (∀ x ∈ l, btw x 0 ((t.length : Int) - 1) = true) → (trainG t s l)[n]? = some p → StrV p.Water
  | [], _, _, _, _, _, h => by simp [trainG] at h
  | a :: l, 0, s, p, hs, hl, h => by
    simp only [trainG, List.getElem?_cons_zero, Option.some.injEq] at h
    subst h
    exact (flG_kept (row_at ht (hl a (List.mem_cons_self ..))).2 hs).wa
  | a :: l, n + 1, s, p, hs, hl, h => by
    simp only [trainG, List.getElem?_cons_succ] at h
    exact trainG_wa ht l n _ p (flG_kept (row_at ht (hl a (List.mem_cons_self ..))).2 hs).wa (fun x hx => hl x (List.mem_cons_of_mem _ hx)) h
theorem decB_tail : ∀ {a : Int} {l : List Int}, decB (a :: l) = true → decB l = true
  | _, [], _ => rfl
  | _, _ :: _, h => by simp only [decB, Bool.and_eq_true] at h; exact h.2
theorem decB_drop : ∀ (l : List Int) (n : Nat), decB l = true → decB (l.drop n) = true
  | _, 0, h => h
  | [], _ + 1, _ => rfl
  | _ :: l, n + 1, h => decB_drop l n (decB_tail h)
theorem decB_take : ∀ (l : List Int) (n : Nat), decB l = true → decB (l.take n) = true
  | _, 0, _ => rfl
  | [], _ + 1, _ => rfl
  | [_], _ + 1, _ => by simp [decB]
  | a :: b :: l, 1, _ => rfl
  | a :: b :: l, n + 2, h => by
    have := decB_take (b :: l) (n + 1) (decB_tail h)
    simp only [decB, Bool.and_eq_true, List.take_succ_cons] at h this ⊢
    exact ⟨h.1, this⟩
theorem levB_part {n : Int} {l q : List Int} (h : levB n l = true) (hq : 1 ≤ q.length ∧ q.length ≤ l.length) (hm : ∀ x ∈ q, x ∈ l) (hd : decB q = true) : levB n q = true := by
  obtain ⟨h1, h2, h3⟩ := levB_all h
  simp only [levB, hd, btw, Bool.and_true, Bool.and_eq_true, decide_eq_true_eq]
  refine ⟨by omega, List.all_eq_true.2 fun x hx => ?_⟩
  exact h2 x (hm x hx)

theorem steps_loop1 (N : Nat) (x : List GParts) (m : Nat) (e e2 : Int) (k : Unit → Option Bool) (hl : x.length ≤ 1000) (hm : m ≤ x.length) : ∀ (n i : Nat), ((x.drop m).drop i).length < n → i ≤ (x.drop m).length →
    law01_SteamStepsX_loop1 N (x, e) (m : Int) (x.drop m, e2) k n i = k () := by
  intro n
  induction n with
  | zero => intro i h; omega
  | succ n ih =>
    intro i h hi
    unfold law01_SteamStepsX_loop1
    cases hd : (x.drop m).drop i with
    | nil =>
      have := drop_nil hd
      rw [show (decide ((i : Int) < (((x.drop m, e2) : (List GParts) × Int).1.length : Int))) = false by simp only [decide_eq_false_iff_not]; omega]
      rfl
    | cons a q =>
      obtain ⟨h1, h2, h3⟩ := drop_cons hd
      rw [show (decide ((i : Int) < (((x.drop m, e2) : (List GParts) × Int).1.length : Int))) = true by simp only [decide_eq_true_eq]; omega]
      have e1 : w64 ((i : Int) + 1) = ((i + 1 : Nat) : Int) := by rw [w64_id] <;> (simp at h3; omega)
      have e3 : w64 ((m : Int) + (i : Int)) = ((m + i : Nat) : Int) := by rw [w64_id] <;> (simp at h3; omega)
      have h4 : x[m + i]? = some a := by rw [← h1, List.getElem?_drop]
      simp only [cond_true, getI_at h1, getI_at h4, Option.bind_some, e1, e3, beq_self_eq_true, Bool.not_true, cond_false]
      exact ih (i + 1) (by rw [h2]; rw [hd] at h; simpa using h) (by omega)
theorem steps_loop2 (N : Nat) (x : List GParts) (m : Nat) (e e2 : Int) (k : Unit → Option Bool) (hl : x.length ≤ 1000) (hm : m ≤ x.length) : ∀ (n i : Nat), m - i < n → i ≤ m →
    law01_SteamStepsX_loop2 N (x, e) (m : Int) (x.take m, e2) k n i = k () := by
  intro n
  induction n with
  | zero => intro i h; omega
  | succ n ih =>
    intro i h hi
    unfold law01_SteamStepsX_loop2
    by_cases hlt : i < m
    · rw [show (decide ((i : Int) < (m : Int))) = true by simp only [decide_eq_true_eq]; omega]
      have h4 : x[i]? = some x[i] := List.getElem?_eq_getElem (by omega)
      generalize x[i] = a at h4
      have h1 : (x.take m)[i]? = some a := by rw [List.getElem?_take, if_pos hlt, h4]
      have e1 : w64 ((i : Int) + 1) = ((i + 1 : Nat) : Int) := by rw [w64_id] <;> omega
      simp only [cond_true, getI_at h1, getI_at h4, Option.bind_some, e1, beq_self_eq_true, Bool.not_true, cond_false]
      exact ih (i + 1) (by omega) (by omega)
    · rw [show (decide ((i : Int) < (m : Int))) = false by simp only [decide_eq_false_iff_not]; omega]
      rfl
theorem steps_true {N : Nat} (t : List GRow) (l : List Int) (s : GStream) (f : Int) (hN : 1001 + t.length + l.length ≤ N) (ht : t.length ≤ 9223372036854775807) (hl : l.length ≤ 9223372036854775807) (f0 : 0 ≤ f) (f1 : f ≤ 255) : law01_SteamStepsX N t l s f = some true := by
  unfold law01_SteamStepsX
  have e0 : w64 ((t.length : Int) - 1) = (t.length : Int) - 1 := by rw [w64_id] <;> omega
  simp only [joinK, right_eq (N := N) (t := t) ht (by omega), levels_eq (N := N) (l := l) hl e0 (by omega), rightStream_eq, Option.bind_some]
  cases hT : tabB t with
  | false => rfl
  | true =>
    cases hL : levB t.length l with
    | false => rfl
    | true =>
      cases hS : strB s with
      | false => rfl
      | true =>
        have hs := strV_iff.1 hS
        obtain ⟨q1, q2, q3⟩ := levB_all hL
        have htl : t.length ≤ 20 := by
          simp only [tabB, Bool.and_eq_true, btw, decide_eq_true_eq] at hT
          omega
        have hc : ∀ q : List Int, q.length ≤ 20 → decide ((0 + q.length) * 8 ≤ 140737488355328) = true := fun q h => by simp; omega
        have h0 : l[0]? = some l[0] := List.getElem?_eq_getElem (by omega)
        generalize l[0] = a at h0
        have ha : btw a 0 ((t.length : Int) - 1) = true := q2 a (List.mem_of_getElem? h0)
        have hta : trainA t l s = (trainG t s l, 0) := by simp [trainA, hT, hL, hS]
        have hfa : flashA t a s = (flG ((getI t a).getD ⟨0, 0, 0, 0, 0⟩) s, 0) := by simp [flashA, hT, ha, hS]
        have g0 : getI l 0 = some a := getI_at (i := 0) h0
        have hlen := trainG_len t l s
        have g1 : getI (trainG t s l) 0 = some (flG ((getI t a).getD ⟨0, 0, 0, 0, 0⟩) s) := by
          cases l with
          | nil => simp at q1
          | cons b l => simp at h0; subst h0; rfl
        -- the number of the first levels
        obtain ⟨m, hm, m1, m2⟩ : ∃ m : Nat, w64 (1 + (w64 f).tmod (l.length : Int)) = (m : Int) ∧ 1 ≤ m ∧ m ≤ l.length := by
          have b1 : w64 f = f := w64_id (by omega) (by omega)
          have b2 : 0 ≤ f.tmod (l.length : Int) := Int.tmod_nonneg _ f0
          have b3 : f.tmod (l.length : Int) < (l.length : Int) := Int.tmod_lt_of_pos _ (by omega)
          refine ⟨(1 + f.tmod (l.length : Int)).toNat, ?_, by omega, by omega⟩
          rw [b1, w64_id] <;> omega
        have hne : ((l.length : Int) != 0) = true := by rw [bne_iff_ne]; omega
        have htake : trainA t (l.take m) s = ((trainG t s l).take m, 0) := by
          have : levB t.length (l.take m) = true := levB_part hL (by simp; omega) (fun x hx => List.mem_of_mem_take hx) (decB_take _ _ q3)
          simp [trainA, hT, this, hS, trainG_take]
        have hm' : (m : Int).toNat = m := rfl
        have d1 : decide ((0 : Int) ≤ (m : Int)) = true := by simp
        have d2 : decide ((m : Int) ≤ (l.length : Int)) = true := by simp only [decide_eq_true_eq]; omega
        have l2 := fun k => steps_loop2 N (trainG t s l) m 0 0 k (by omega) (by omega) N 0 (by omega) (Nat.zero_le _)
        rw [show ((0 : Nat) : Int) = 0 from rfl] at l2
        have n1 : ((((trainG t s l).take m).length : Int) != (m : Int)) = false := by simp; omega
        have n2 : (((trainG t s l).length : Int) != (l.length : Int)) = false := by simp; omega
        simp only [Bool.not_true, cond_false, Option.bind_some, table_eq (show t.length ≤ 1000 by omega) (show 1001 ≤ N by omega), stream_eq, train_eq (show 1001 ≤ N by omega) (show t.length ≤ 1000 by omega) (show l.length ≤ 1000 by omega) s, hta, hc l q1.2, chk, cond_true, g0,
          flash_eq (show 1001 ≤ N by omega) (show t.length ≤ 1000 by omega), hfa, bne_self_eq_false, n2, g1, beq_self_eq_true, hne, hm, d1, d2, Bool.and_true, hm', Nat.sub_zero, hc (l.take m) (by simp; omega),
          train_eq (show 1001 ≤ N by omega) (show t.length ≤ 1000 by omega) (show (l.take m).length ≤ 1000 by simp; omega) s, htake, n1, l2]
        by_cases hmm : m = l.length
        · rw [show ((m : Int) == (l.length : Int)) = true by simp; omega]
          rfl
        · rw [show ((m : Int) == (l.length : Int)) = false by simp; omega]
          obtain ⟨j, rfl⟩ : ∃ j, m = j + 1 := ⟨m - 1, by omega⟩
          have hp : (trainG t s l)[j]? = some (trainG t s l)[j] := List.getElem?_eq_getElem (by omega)
          generalize (trainG t s l)[j] = p at hp
          have hpt : ((trainG t s l).take (j + 1))[j]? = some p := by rw [List.getElem?_take, if_pos (by omega), hp]
          have ej : w64 (((j + 1 : Nat) : Int) - 1) = (j : Int) := by rw [w64_id] <;> omega
          have hw := trainG_wa hT l j s p hs q2 hp
          have hdr : trainA t (l.drop (j + 1)) p.Water = ((trainG t s l).drop (j + 1), 0) := by
            have h1 : levB t.length (l.drop (j + 1)) = true := levB_part hL (by simp; omega) (fun x hx => List.mem_of_mem_drop hx) (decB_drop _ _ q3)
            have h2 : strB p.Water = true := strV_iff.2 hw
            simp [trainA, hT, h1, h2, trainG_drop t l j s p hp]
          have l1 := fun k => steps_loop1 N (trainG t s l) (j + 1) 0 0 k (by omega) (by omega) N 0 (by simp; omega) (Nat.zero_le _)
          rw [show ((0 : Nat) : Int) = 0 from rfl] at l1
          have n3 : ((((trainG t s l).drop (j + 1)).length : Int) != (w64 ((l.length : Int) - ((j + 1 : Nat) : Int)))) = false := by
            rw [w64_id (by omega) (by omega), List.length_drop, hlen]
            simp
            omega
          have d3 : decide ((l.length : Int) ≤ (l.length : Int)) = true := by simp
          have htr := train_eq (show 1001 ≤ N by omega) (show t.length ≤ 1000 by omega) (show (l.drop (j + 1)).length ≤ 1000 by simp; omega) p.Water
          rw [hdr] at htr
          simp only [cond_false, d3, hc (l.drop (j + 1)) (by simp; omega), cond_true, ej, getI_at hpt, Option.bind_some, htr, bne_self_eq_false, n3, l1]
          rfl
end Go.Proofs.Ytenpbiineblcjaa
