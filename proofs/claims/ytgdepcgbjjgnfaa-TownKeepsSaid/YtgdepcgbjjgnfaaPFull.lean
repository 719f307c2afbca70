/-
  Plain: the first full node, and what Flows returns. No conditions.
-/
import Derived.Test.YtgdepcgbjjgnfaaPFlow
namespace Go.Proofs.Ytgdepcgbjjgnfaa
open Go.RowKit

def limAt (t : List GNode) (i : Nat) : Int := match t[i]? with | some x => x.Limit | none => 0
def fullI (t : List GNode) (l : List Int) : Nat → Nat → Int
  | 0, _ => -1
  | d + 1, i => if 0 < i ∧ l.getD i 0 > limAt t i then i else fullI t l d (i + 1)
theorem fullI_ge (t : List GNode) (l : List Int) : ∀ (d i : Nat), -1 ≤ fullI t l d i ∧ fullI t l d i < (i + d : Nat)
  | 0, i => by rw [fullI]; omega
  | d + 1, i => by
    have := fullI_ge t l d (i + 1)
    rw [fullI]
    split <;> omega
theorem fullI_none {t : List GNode} {l : List Int} : ∀ {d i : Nat}, fullI t l d i < 0 → ∀ j, i ≤ j → j < i + d → 0 < j → l.getD j 0 ≤ limAt t j
  | 0, i, _, j, h1, h2, _ => by omega
  | d + 1, i, h, j, h1, h2, h3 => by
    rw [fullI] at h
    split at h
    · omega
    · rename_i hn
      rcases Nat.eq_or_lt_of_le h1 with rfl | hlt
      · exact Int.not_lt.1 fun hc => hn ⟨h3, hc⟩
      · exact fullI_none h j hlt (by omega) h3
theorem full_loop (N : Nat) {t : List GNode} {l : List Int} (hl : l.length = t.length) (hs : t.length ≤ 1000) : ∀ (n d i : Nat), d < n → i + d = t.length → town_Town_fullX_loop1 N t (fun _ => some (-1)) l n i = some (fullI t l d i) := by
  intro n
  induction n with
  | zero => intro d i h; omega
  | succ n ih =>
    intro d i h hd
    rw [town_Town_fullX_loop1]
    cases d with
    | zero => simp [show ¬ ((i : Int) < l.length) from by omega, fullI]
    | succ d =>
      have hg : l[i]? = some (l[i]'(by omega)) := List.getElem?_eq_getElem _
      have hx : t[i]? = some (t[i]'(by omega)) := List.getElem?_eq_getElem _
      have e1 : w64 ((i : Int) + 1) = ((i + 1 : Nat) : Int) := w64_id (by omega) (by omega)
      simp only [show decide ((i : Int) < l.length) = true from by simp; omega, cond_true, getI_at hg, getI_at hx, Option.bind_some, e1, ih d (i + 1) (by omega) (by omega)]
      rw [fullI, List.getD_eq_getElem?_getD, hg, limAt, hx]
      dsimp only [Option.getD_some]
      rcases Nat.eq_zero_or_pos i with rfl | hp
      · simp
      · simp only [show decide ((i : Int) > 0) = true from by simpa using hp, cond_true, hp, true_and]
        by_cases hc : l[i] > t[i].Limit <;> simp [hc]
theorem full_eq {N : Nat} {t : List GNode} {l : List Int} (hN : 2000 ≤ N) (hl : l.length = t.length) (hs : t.length ≤ 1000) : town_Town_fullX N t l = some (fullI t l t.length 0) := by
  unfold town_Town_fullX
  simp only [joinK]
  exact full_loop N hl hs N t.length 0 (by omega) (by omega)
theorem flowL_len (t : List GNode) (l : List Int) : (flowL t l).length = l.length := run_len t _ l
/-- What Flows returns. -/
theorem FlowsX_eq {N : Nat} {t : List GNode} {l : List Int} (hN : 2000 ≤ N) (ht : t.length ≤ 1000) (hl : l.length ≤ 1000) :
    town_FlowsX N t l = some (bif townB t then (bif usesB l && decide (l.length = t.length) then (if fullI t (flowL t l) t.length 0 ≥ 0 then ([], fullI t (flowL t l) t.length 0, 11) else (flowL t l, 0, 0)) else ([], 0, 2)) else ([], 0, 1)) := by
  unfold town_FlowsX
  rw [used_eq ht hl hN]
  cases h1 : townB t with
  | false => rfl
  | true =>
    cases h2 : (usesB l && decide (l.length = t.length)) with
    | false => rfl
    | true =>
      rw [Bool.and_eq_true, decide_eq_true_eq] at h2
      simp only [cond_true, Option.bind_some, bne_self_eq_false, cond_false, flows_eq hN h1 h2.1 h2.2, full_eq hN ((flowL_len t l).trans h2.2) ht]
      by_cases h3 : fullI t (flowL t l) t.length 0 ≥ 0 <;> simp [h3]
/-- What has been handled stays. -/
theorem run_keep {t : List GNode} (ht : townB t = true) : ∀ (m : Nat) (out : List Int) (j : Nat), m ≤ j → (run t m out)[j]? = out[j]?
  | 0, _, _, _ => rfl
  | m + 1, out, j, h => by
    rw [run]
    split
    · rename_i x o hx ho
      rw [run_keep ht m _ j (by omega)]
      have hn := node_at ht hx
      unfold stp
      split
      · rename_i hp
        have : x.Parent < m := by
          rcases Nat.eq_zero_or_pos m with e | hm
          · have := (hn.top e).1; omega
          · exact (hn.par hm).2
        rw [get_set, if_neg (by omega), get_set, if_neg (by omega)]
      · rw [get_set, if_neg (by omega)]
    · rfl
end Go.Proofs.Ytgdepcgbjjgnfaa
