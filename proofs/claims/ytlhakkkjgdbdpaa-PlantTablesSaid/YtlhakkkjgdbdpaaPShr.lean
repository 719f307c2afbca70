/-
  Plain laws on heads and units: what is valid, the steam from a head on, sharings, their work, prices and bounds. No conditions.
-/
import Derived.Test.YtlhakkkjgdbdpaaX12
import Derived.Test.YtlhakkkjgdbdpaaPRw
namespace Go.Proofs.Ytlhakkkjgdbdpaa
open Go.RowKit
structure ShOK (h : List Int) (us : List GUnit) : Prop where
 h0 : 1 ≤ h.length
 h1 : h.length ≤ 6
 hm : ∀ x ∈ h, 0 ≤ x ∧ x ≤ 1000000
 u0 : 1 ≤ us.length
 u1 : us.length ≤ 10
 ub : ∀ u ∈ us, unitB u = true
 inl : ∀ u ∈ us, 0 ≤ u.Inlet ∧ u.Inlet < h.length
def fro (h : List Int) (k : Nat) : Int := (h.drop k).sum
theorem sum_bd : ∀ (l : List Int), (∀ x ∈ l, 0 ≤ x ∧ x ≤ 1000000) → 0 ≤ l.sum ∧ l.sum ≤ 1000000 * l.length
 | [], _ => by simp
 | x :: l, h => by
  have h1 := sum_bd l fun y hy => h y (List.mem_cons_of_mem _ hy)
  have h2 := h x (List.mem_cons_self ..)
  simp only [List.sum_cons, List.length_cons, Int.natCast_add, Int.cast_ofNat_Int]
  omega
theorem fro_bd {h : List Int} (hl : h.length ≤ 6) (hm : ∀ x ∈ h, 0 ≤ x ∧ x ≤ 1000000) (k : Nat) : 0 ≤ fro h k ∧ fro h k ≤ 6000000 := by
 have := sum_bd (h.drop k) fun x hx => hm x (List.mem_of_mem_drop hx)
 have h2 : ((h.drop k).length : Int) ≤ 6 := by simp; omega
 unfold fro
 omega
end Go.Proofs.Ytlhakkkjgdbdpaa
