/-
  Plain: the first full node, and what Flows returns. No conditions.
-/
import Derived.Test.YtgdepcgbjjgnfaaPFlow
namespace Go.Proofs.Ytgdepcgbjjgnfaa
open Go.RowKit
def limAt (t : List GNode) (i : Nat) : Int := match t[i]? with | some x => x.Limit | none => 0
def Qik (t : List GNode) (l : List Int) : Nat → Nat → Int
 | 0, _ => -1
 | d + 1, i => if 0 < i ∧ l.getD i 0 > limAt t i then i else Qik t l d (i + 1)
theorem Qwc (N : Nat) {t : List GNode} {l : List Int} (hl : l.length = t.length) (hs : t.length ≤ 1000) : ∀ (n d i : Nat), d < n → i + d = t.length → Qcd N t (fun _ => some (-1)) l n i = some (Qik t l d i) := by
 intro n
 induction n with
 | zero => intro d i h; omega
 | succ n ih =>
  intro d i h hd
  rw [Qcd]
  cases d with
  | zero => simp [show ¬ ((i : Int) < l.length) from by omega, Qik]
  | succ d =>
   have hg : l[i]? = some (l[i]'(by omega)) := List.getElem?_eq_getElem _
   have hx : t[i]? = some (t[i]'(by omega)) := List.getElem?_eq_getElem _
   have e1 : w64 ((i : Int) + 1) = ((i + 1 : Nat) : Int) := Qb2 (by omega) (by omega)
   simp only [show decide ((i : Int) < l.length) = true from by simp; omega, cond_true, Qd4 hg, Qd4 hx, Option.bind_some, e1, ih d (i + 1) (by omega) (by omega)]
   rw [Qik, List.getD_eq_getElem?_getD, hg, limAt, hx]
   dsimp only [Option.getD_some]
   rcases Nat.eq_zero_or_pos i with rfl | hp
   ·simp
   ·simp only [show decide ((i : Int) > 0) = true from by simpa using hp, cond_true, hp, true_and]
    by_cases hc : l[i] > t[i].Limit <;> simp [hc]
theorem Qq9 {N : Nat} {t : List GNode} {l : List Int} (hN : 2000 ≤ N) (hl : l.length = t.length) (hs : t.length ≤ 1000) : Qd3 N t l = some (Qik t l t.length 0) := by
 unfold Qd3
 simp only [Qck]
 exact Qwc N hl hs N t.length 0 (by omega) (by omega)
theorem Qgo (t : List GNode) (l : List Int) : (Qdv t l).length = l.length := Qnz t _ l
theorem Qxd {N : Nat} {t : List GNode} {l : List Int} (hN : 2000 ≤ N) (ht : t.length ≤ 1000) (hl : l.length ≤ 1000) :
  Qfj N t l = some (bif Qem t then (bif Qek l && decide (l.length = t.length) then (if Qik t (Qdv t l) t.length 0 ≥ 0 then ([], Qik t (Qdv t l) t.length 0, 11) else (Qdv t l, 0, 0)) else ([], 0, 2)) else ([], 0, 1)) := by
 unfold Qfj
 rw [Qvd ht hl hN]
 cases h1 : Qem t with
 | false => rfl
 | true =>
  cases h2 : (Qek l && decide (l.length = t.length)) with
  | false => rfl
  | true =>
   rw [Bool.and_eq_true, decide_eq_true_eq] at h2
   simp only [cond_true, Option.bind_some, bne_self_eq_false, cond_false, Qyk hN h1 h2.1 h2.2, Qq9 hN ((Qgo t l).trans h2.2) ht]
   by_cases h3 : Qik t (Qdv t l) t.length 0 ≥ 0 <;> simp [h3]
theorem Qsn {t : List GNode} (ht : Qem t = true) : ∀ (m : Nat) (out : List Int) (j : Nat), m ≤ j → (run t m out)[j]? = out[j]?
 | 0, _, _, _ => rfl
 | m + 1, out, j, h => by
  rw [run]
  split
  ·rename_i x o hx ho
   rw [Qsn ht m _ j (by omega)]
   have hn := Qkx ht hx
   unfold stp
   split
   ·rename_i hp
    have : x.Parent < m := by
     rcases Nat.eq_zero_or_pos m with e | hm
     ·have := (hn.top e).1; omega
     ·exact (hn.par hm).2
    rw [Qfc, if_neg (by omega), Qfc, if_neg (by omega)]
   ·rw [Qfc, if_neg (by omega)]
  ·rfl
end Go.Proofs.Ytgdepcgbjjgnfaa
