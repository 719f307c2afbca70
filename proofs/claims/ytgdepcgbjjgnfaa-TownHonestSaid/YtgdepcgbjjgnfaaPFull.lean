/-
  Plain: the first full node, and what Flows returns. No conditions.
-/
import Derived.Test.YtgdepcgbjjgnfaaPFlow
namespace Go.Proofs.Ytgdepcgbjjgnfaa
open Go.RowKit
theorem Qwu (t : List GNode) (l : List Int) : (Qc0 t l).length = l.length := Qv0 t _ l
theorem Qte {t : List GNode} (ht : Qg6 t = true) : ∀ (m : Nat) (out : List Int) (j : Nat), m ≤ j → (run t m out)[j]? = out[j]?
 | 0, _, _, _ => rfl
 | m + 1, out, j, h => by
  rw [run]
  split
  ·rename_i x o hx ho
   rw [Qte ht m _ j (by omega)]
   have hn := Qft ht hx
   unfold stp
   split
   ·rename_i hp
    have : x.Parent < m := by
     rcases Nat.eq_zero_or_pos m with e | hm
     ·have := (hn.top e).1; omega
     ·exact (hn.par hm).2
    rw [Qe6, if_neg (by omega), Qe6, if_neg (by omega)]
   ·rw [Qe6, if_neg (by omega)]
  ·rfl
end Go.Proofs.Ytgdepcgbjjgnfaa
