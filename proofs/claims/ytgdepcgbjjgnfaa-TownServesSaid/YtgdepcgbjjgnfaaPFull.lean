/-
  Plain: the first full node, and what Flows returns. No conditions.
-/
import Derived.Test.YtgdepcgbjjgnfaaPFlow
namespace Go.Proofs.Ytgdepcgbjjgnfaa
open Go.RowKit
def Qxy (t : List GNode) (i : Nat) : Int := match t[i]? with | some x => x.Limit | none => 0
def Qho (t : List GNode) (l : List Int) : Nat → Nat → Int
 | 0, _ => -1
 | d + 1, i => if 0 < i ∧ l.getD i 0 > Qxy t i then i else Qho t l d (i + 1)
theorem Qvy (N : Nat) {t : List GNode} {l : List Int} (hl : l.length = t.length) (hs : t.length ≤ 1000) : ∀ (n d i : Nat), d < n → i + d = t.length → Qb7 N t (fun _ => some (-1)) l n i = some (Qho t l d i) := by
 intro n
 induction n with
 | zero => intro d i h; omega
 | succ n ih =>
  intro d i h hd
  rw [Qb7]
  cases d with
  | zero => simp [show ¬ ((i : Int) < l.length) from by omega, Qho]
  | succ d =>
   have hg : l[i]? = some (l[i]'(by omega)) := List.getElem?_eq_getElem _
   have hx : t[i]? = some (t[i]'(by omega)) := List.getElem?_eq_getElem _
   have e1 : w64 ((i : Int) + 1) = ((i + 1 : Nat) : Int) := Qbr (by omega) (by omega)
   simp only [show decide ((i : Int) < l.length) = true from by simp; omega, cond_true, Qeh hg, Qeh hx, Option.bind_some, e1, ih d (i + 1) (by omega) (by omega)]
   rw [Qho, List.getD_eq_getElem?_getD, hg, Qxy, hx]
   dsimp only [Option.getD_some]
   rcases Nat.eq_zero_or_pos i with rfl | hp
   ·simp
   ·simp only [show decide ((i : Int) > 0) = true from by simpa using hp, cond_true, hp, true_and]
    by_cases hc : l[i] > t[i].Limit <;> simp [hc]
theorem full_eq {N : Nat} {t : List GNode} {l : List Int} (hN : 2000 ≤ N) (hl : l.length = t.length) (hs : t.length ≤ 1000) : Qd7 N t l = some (Qho t l t.length 0) := by
 unfold Qd7
 simp only [Qcd]
 exact Qvy N hl hs N t.length 0 (by omega) (by omega)
theorem Ql5 (t : List GNode) (l : List Int) : (Qdu t l).length = l.length := Qqj t _ l
theorem Qsb {t : List GNode} (ht : Qes t = true) : ∀ (m : Nat) (out : List Int) (j : Nat), m ≤ j → (run t m out)[j]? = out[j]?
 | 0, _, _, _ => rfl
 | m + 1, out, j, h => by
  rw [run]
  split
  ·rename_i x o hx ho
   rw [Qsb ht m _ j (by omega)]
   have hn := Qjq ht hx
   unfold stp
   split
   ·rename_i hp
    have : x.Parent < m := by
     rcases Nat.eq_zero_or_pos m with e | hm
     ·have := (hn.top e).1; omega
     ·exact (hn.par hm).2
    rw [Qe2, if_neg (by omega), Qe2, if_neg (by omega)]
   ·rw [Qe2, if_neg (by omega)]
  ·rfl
end Go.Proofs.Ytgdepcgbjjgnfaa
