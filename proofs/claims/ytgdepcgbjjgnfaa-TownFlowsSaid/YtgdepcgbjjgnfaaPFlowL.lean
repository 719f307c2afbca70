/-
  Plain: whether a town is valid, and all flows, are as the document says. No conditions.
-/
import Derived.Test.YtgdepcgbjjgnfaaX13
import Derived.Test.YtgdepcgbjjgnfaaPFlowR
namespace Go.Proofs.Ytgdepcgbjjgnfaa
open Go.RowKit

theorem same_loop (N : Nat) {t : List GNode} {l : List Int} {e : Int × Int} (k : Unit → Option Bool) (hN : 2000 ≤ N) (ht : townB t = true) (hu : usesB l = true) (hl : l.length = t.length) : ∀ (n d i : Nat), d < n → i + d = t.length → law10_TownFlowsX_loop1 N t l (flowL t l, e) k n i = k () := by
  have h2 := town_len ht
  intro n
  induction n with
  | zero => intro d i h; omega
  | succ n ih =>
    intro d i h hd
    rw [law10_TownFlowsX_loop1]
    cases d with
    | zero => simp [show ¬ ((i : Int) < t.length) from by omega]
    | succ d =>
      have hg : (flowL t l)[i]? = some ((flowL t l)[i]'(by rw [flowL_len]; omega)) := List.getElem?_eq_getElem _
      have e1 : w64 ((i : Int) + 1) = ((i + 1 : Nat) : Int) := w64_id (by omega) (by omega)
      simp only [show decide ((i : Int) < t.length) = true from by simp; omega, cond_true, refFlow_eq ht hu hl t.length i N (by omega) (by omega) (by omega), getI_at hg, Option.bind_some, e1, ih d (i + 1) (by omega) (by omega), List.getD_eq_getElem?_getD, hg, Option.getD_some, bne_self_eq_false, cond_false]
theorem flowsT_true (t : List GNode) (l : List Int) (_ : gd_LGNode t) (_ : gd_Li64 l) : law10_TownFlowsX 2000 t l = some true := by
  unfold law10_TownFlowsX
  simp only [wakes_at, Option.bind_some, few_eq]
  cases hfew : (decide ((t.length : Int) ≤ 35) && decide ((l.length : Int) ≤ 35)) with
  | false => rfl
  | true =>
    simp only [Bool.and_eq_true, decide_eq_true_eq] at hfew
    have hl1 : t.length ≤ 1000 := by omega
    have hl2 : l.length ≤ 1000 := by omega
    have hN : 2000 ≤ 2000 := Nat.le_refl _
    simp only [Bool.not_true, cond_false, validR_eq hl1 hN, usesR_eq hl2 hN, Option.bind_some, copyT_eq hl1 hN, copyL_eq hl2, FlowsX_eq hN hl1 hl2, town_CheckTownX, validP_eq hl1 hN]
    cases ht : townB t with
    | false => simp
    | true =>
      cases hu : (usesB l && decide (l.length = t.length)) with
      | false => simp
      | true =>
        rw [Bool.and_eq_true, decide_eq_true_eq] at hu
        simp only [Bool.not_true, cond_false, cond_true, refFull_eq hN ht hu.1 hu.2, Option.bind_some]
        by_cases hfull : fullI t (flowL t l) t.length 0 ≥ 0
        · simp [hfull]
        · have hlen : (flowL t l).length = t.length := (flowL_len t l).trans hu.2
          have key := same_loop 2000 (e := (0, 0)) (fun _ => some true) hN ht hu.1 hu.2 2000 t.length 0 (by have := town_len ht; omega) (by omega)
          rw [show ((0 : Nat) : Int) = 0 from rfl] at key
          simp only [hfull, if_false, decide_false, cond_false, bne_self_eq_false, hlen, joinK, key]
end Go.Proofs.Ytgdepcgbjjgnfaa
