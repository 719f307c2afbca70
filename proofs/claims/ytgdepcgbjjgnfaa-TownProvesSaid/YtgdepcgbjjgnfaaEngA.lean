/-
  The engine, part A: results of several shapes; what panics; deferred calls. Plain definitions and laws; no conditions.
-/
import Derived.Test.YtgdepcgbjjgnfaaEngY
namespace Go.Proofs.Ytgdepcgbjjgnfaa
open Go.RowKit
theorem sum_l {α β γ : Type} {f : α → Option γ} {g : β → Option γ} {a : α} {r : γ} (h : Sum.elim f g (.inl a) = some r) : f a = some r := h
theorem sum_r {α β γ : Type} {f : α → Option γ} {g : β → Option γ} {b : β} {r : γ} (h : Sum.elim f g (.inr b) = some r) : g b = some r := h
theorem Qqv {P : Program} {fn : Func} {k : Nat} {res : AV} {σ' : List Slot} {regs vs : List AV} (hr : ResL P ⟨regs, σ'⟩ fn.results.toList vs) (hres : res = Qry vs) (hn : NLt k res) (hk : Nat.ble σ'.length k = true) (hs : ∀ s ∈ σ', SNLt k s) : Fin P fn k res σ' ⟨regs, σ'⟩ :=
 ⟨⟨vs, hr, hres⟩, hn, Nat.le_of_ble_eq_true hk, fun n _ => ⟨rfl, by
  show SNLt _ (σ'.getD n .unused)
  rcases Nat.lt_or_ge n σ'.length with h | h
  ·simp only [List.getD_eq_getElem?_getD, List.getElem?_eq_getElem h, Option.getD_some]
   exact hs _ (List.getElem_mem h)
  ·simp only [List.getD_eq_getElem?_getD, List.getElem?_eq_none h, Option.getD_none]
   exact .unused⟩⟩
end Go.Proofs.Ytgdepcgbjjgnfaa
