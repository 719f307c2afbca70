/-
  Plain: what the flows of a town are: node by node from the last one up. No conditions.
-/
import Derived.Test.YtgdepcgbjjgnfaaPTownV
namespace Go.Proofs.Ytgdepcgbjjgnfaa
open Go.RowKit

/-- A node's own flow, its loss with it. -/
def lossy (o : Int) (x : GNode) : Int := if o > 0 then o + x.Loss else o
def stp (x : GNode) (o : Int) (out : List Int) (i : Nat) : List Int :=
  if x.Parent ≥ 0 then (out.set i (lossy o x)).set x.Parent.toNat (out.getD x.Parent.toNat 0 + lossy o x) else out.set i (lossy o x)
def run (t : List GNode) : Nat → List Int → List Int
  | 0, out => out
  | m + 1, out => match t[m]?, out[m]? with
    | some x, some o => run t m (stp x o out m)
    | _, _ => out
/-- The sum ahead of a place. -/
def sumT (l : List Int) (m : Nat) : Int := (l.take m).sum
/-- The state: all that lies ahead of m is still to be handed up. -/
structure FlowOK (t : List GNode) (m : Nat) (out : List Int) : Prop where
  len : out.length = t.length
  pos : ∀ (i : Nat) x, out[i]? = some x → 0 ≤ x
  bd : sumT out m + 1000000000 * m ≤ 100000000000
def backL (t : List GNode) : Nat → List (Int × GNode)
  | 0 => []
  | m + 1 => match t[m]? with
    | some x => ((m : Int), x) :: backL t m
    | none => []
theorem back_loop (N : Nat) (t : List GNode) (hl : t.length ≤ 1000) : ∀ (n m : Nat), m < n → m ≤ t.length → Qa1 N t n ((m : Int) - 1) = some (backL t m) := by
  intro n
  induction n with
  | zero => intro m h; omega
  | succ n ih =>
    intro m h hm
    rw [Qa1]
    cases m with
    | zero => simp [backL]
    | succ m =>
      have e0 : (((m + 1 : Nat) : Int) - 1) = (m : Int) := by omega
      have hx : t[m]? = some (t[m]'(by omega)) := List.getElem?_eq_getElem _
      have e1 : w64 ((m : Int) - 1) = (m : Int) - 1 := Qeh (by omega) (by omega)
      rw [e0, Qg1 hx, e1, backL, hx]
      simp only [Option.bind_some, show decide ((m : Int) ≥ 0) = true from by simp, cond_true]
      rw [ih m (by omega) (by omega)]
      rfl
theorem back_eq {N : Nat} {t : List GNode} (hl : t.length ≤ 1000) (hN : 2000 ≤ N) : Qa7 N t = some (backL t t.length) := by
  unfold Qa7
  rw [Qeh (by omega) (by omega), Option.bind_some]
  exact back_loop N t hl N t.length (by omega) (Nat.le_refl _)
end Go.Proofs.Ytgdepcgbjjgnfaa
