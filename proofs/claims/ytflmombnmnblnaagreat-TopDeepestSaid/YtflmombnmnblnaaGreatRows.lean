/-
  No cell of these rows narrows 'for every input' (looked for: loops, veiled, ifaces, maps, wideKeys, modest, calm, conditions, laid).
  DERIVED. THE GIVEN ROWS OF THIS SEAT. 3 by the template 'for every input the law returns true; each argument reads behind the call as it read before'; 0 by the template 'total and deterministic' (their statements: YtflmombnmnblnaaGreatTotals.lean).
  GIVEN WITH THE SEED: the statements are not yours to turn. If you find one false, say at which input.
  Laid BY PROGRAM, IN A SANDBOX (cutbox-rows.mjs): the forced cells as the released guide's own fill.sh prints them over the translation 56b456153315e5f3… (all of the seat's roots in one cut). By AI agents, Wed Nov 11 2026. No macro, syntax, notation, axiom, sorry.
-/
import Derived.Test.YtflmombnmnblnaaGreatChecked
import GoSem.Claim
import GoSem.ClaimJoined
import GoSem.ClaimMapViews
import Derived.JoinedTies
import Derived.KernelRfl
namespace Go.Proofs.YtflmombnmnblnaaGreat
/- THE CELL 'sum', in the pinned program and in every row, IS THE sha256 OF THE DUMP (.gsa) THAT YtflmombnmnblnaaGreatProg.lean LOADS. Nothing in Lean hashes anything: it is a label: what it is worth is what the hold of that sum in a sandbox is worth. -/
noncomputable def Tryz.pinned : Pinned := { name := "ytflmombnmnblnaagreat", sum := "56b456153315e5f3bcd5fb07256ca57722f66aff0ab19f9baf2e91fb0818f2c8", checked := Tryz.checked }
namespace Rows
def none {H : Type} : Left H := { results := [], args := [] }

/-- 'fumaroletop.TopHouses': WHATEVER THE INPUT: true; the input reads as it did. -/
def topHousesSpec : ChangeSpec := { name := "topHouses", fn := fun _ => fun
  | [d1, d2, d3, d4, d5, d6, d7] => { results := [.lit (.bool true)], args := [d1, d2, d3, d4, d5, d6, d7] }
  | _ => none }
def topHousesRow : OpenClaim := { program := "ytflmombnmnblnaagreat", sum := "56b456153315e5f3bcd5fb07256ca57722f66aff0ab19f9baf2e91fb0818f2c8", func := "fumarole/fumaroletop.TopHouses", spec := "topHouses", unfollowed := true, recurses := true, plainKeys := false, apart := false }
def TopHousesSaid : Prop := topHousesRow.holds Tryz.pinned (OpenSpec.ofChange topHousesSpec)

/-- ITS FALSE NEIGHBOUR: 'it returns false'. Refute it at one input. -/
def topHousesWrong : ChangeSpec := { name := "topHouses", fn := fun _ => fun
  | [d1, d2, d3, d4, d5, d6, d7] => { results := [.lit (.bool false)], args := [d1, d2, d3, d4, d5, d6, d7] }
  | _ => none }
def TopHousesWrongFalsely : Prop := topHousesRow.holds Tryz.pinned (OpenSpec.ofChange topHousesWrong)

/-- 'fumaroletop.TopDeepest': WHATEVER THE INPUT: true; the input reads as it did. -/
def topDeepestSpec : ChangeSpec := { name := "topDeepest", fn := fun _ => fun
  | [d1, d2, d3] => { results := [.lit (.bool true)], args := [d1, d2, d3] }
  | _ => none }
def topDeepestRow : OpenClaim := { program := "ytflmombnmnblnaagreat", sum := "56b456153315e5f3bcd5fb07256ca57722f66aff0ab19f9baf2e91fb0818f2c8", func := "fumarole/fumaroletop.TopDeepest", spec := "topDeepest", unfollowed := true, recurses := true, plainKeys := false, apart := false }
def TopDeepestSaid : Prop := topDeepestRow.holds Tryz.pinned (OpenSpec.ofChange topDeepestSpec)

/-- ITS FALSE NEIGHBOUR: 'it returns false'. Refute it at one input. -/
def topDeepestWrong : ChangeSpec := { name := "topDeepest", fn := fun _ => fun
  | [d1, d2, d3] => { results := [.lit (.bool false)], args := [d1, d2, d3] }
  | _ => none }
def TopDeepestWrongFalsely : Prop := topDeepestRow.holds Tryz.pinned (OpenSpec.ofChange topDeepestWrong)

/-- 'fumaroletop.TopBack': WHATEVER THE INPUT: true; the input reads as it did. -/
def topBackSpec : ChangeSpec := { name := "topBack", fn := fun _ => fun
  | [d1, d2, d3, d4, d5, d6] => { results := [.lit (.bool true)], args := [d1, d2, d3, d4, d5, d6] }
  | _ => none }
def topBackRow : OpenClaim := { program := "ytflmombnmnblnaagreat", sum := "56b456153315e5f3bcd5fb07256ca57722f66aff0ab19f9baf2e91fb0818f2c8", func := "fumarole/fumaroletop.TopBack", spec := "topBack", unfollowed := true, recurses := true, plainKeys := false, apart := false }
def TopBackSaid : Prop := topBackRow.holds Tryz.pinned (OpenSpec.ofChange topBackSpec)

/-- ITS FALSE NEIGHBOUR: 'it returns false'. Refute it at one input. -/
def topBackWrong : ChangeSpec := { name := "topBack", fn := fun _ => fun
  | [d1, d2, d3, d4, d5, d6] => { results := [.lit (.bool false)], args := [d1, d2, d3, d4, d5, d6] }
  | _ => none }
def TopBackWrongFalsely : Prop := topBackRow.holds Tryz.pinned (OpenSpec.ofChange topBackWrong)

/- THE SECOND FORM. 'bulk': how many values and letters a reading holds, each counted each time it is reached (what is shared counts as often as it is met; a slice's spare places count too). A statement '..UptoSaid' is the law's where the arguments, and the package variables that the reading takes, are together of bulk at most 1048576: NARROWER than '..Said'. Prove '..Said' where nothing that the law and all that it calls make is longer than what came in: it says more and counts as full. Else prove '..UptoSaid'. A law counts once. -/
mutual
def uptoBulk {H : Type} : DataW H → Nat
  | .lit (.string bytes) => bytes.length + 1
  | .lit _ => 1
  | .nil => 1
  | .ptr d => uptoBulk d + 1
  | .slice elems spare => uptoBulkAll elems + uptoBulkAll spare + 1
  | .agg parts => uptoBulkAll parts + 1
  | .iface _ d => uptoBulk d + 1
  | .map entries => uptoBulkEntries entries + 1
  | .held _ => 1
def uptoBulkAll {H : Type} : List (DataW H) → Nat
  | [] => 0
  | d :: r => uptoBulk d + uptoBulkAll r
def uptoBulkEntries {H : Type} : List (Lit × DataW H) → Nat
  | [] => 0
  | x :: r => uptoBulkEntry x + uptoBulkEntries r
def uptoBulkEntry {H : Type} : Lit × DataW H → Nat
  | (.string bytes, d) => bytes.length + uptoBulk d + 1
  | (_, d) => uptoBulk d + 1
 end
def uptoSmall : (H : Type) → List (DataW H) → Bool := fun _ ds => decide (uptoBulkAll ds ≤ 1048576)
def OpenSpec.upto (s : _root_.Go.ChangeSpec) : _root_.Go.OpenSpec := { _root_.Go.OpenSpec.ofChange s with cond := some uptoSmall }

/-- 'fumaroletop.TopHouses', WHERE WHAT IT READS IS OF BULK AT MOST 1048576: true; the input reads as it did. -/
def topHousesUptoRow : OpenClaim := { program := "ytflmombnmnblnaagreat", sum := "56b456153315e5f3bcd5fb07256ca57722f66aff0ab19f9baf2e91fb0818f2c8", func := "fumarole/fumaroletop.TopHouses", spec := "topHouses", unfollowed := true, recurses := true, plainKeys := false, apart := false, narrowed := true }
def TopHousesUptoSaid : Prop := topHousesUptoRow.holds Tryz.pinned (OpenSpec.upto topHousesSpec)

/-- 'fumaroletop.TopDeepest', WHERE WHAT IT READS IS OF BULK AT MOST 1048576: true; the input reads as it did. -/
def topDeepestUptoRow : OpenClaim := { program := "ytflmombnmnblnaagreat", sum := "56b456153315e5f3bcd5fb07256ca57722f66aff0ab19f9baf2e91fb0818f2c8", func := "fumarole/fumaroletop.TopDeepest", spec := "topDeepest", unfollowed := true, recurses := true, plainKeys := false, apart := false, narrowed := true }
def TopDeepestUptoSaid : Prop := topDeepestUptoRow.holds Tryz.pinned (OpenSpec.upto topDeepestSpec)

/-- 'fumaroletop.TopBack', WHERE WHAT IT READS IS OF BULK AT MOST 1048576: true; the input reads as it did. -/
def topBackUptoRow : OpenClaim := { program := "ytflmombnmnblnaagreat", sum := "56b456153315e5f3bcd5fb07256ca57722f66aff0ab19f9baf2e91fb0818f2c8", func := "fumarole/fumaroletop.TopBack", spec := "topBack", unfollowed := true, recurses := true, plainKeys := false, apart := false, narrowed := true }
def TopBackUptoSaid : Prop := topBackUptoRow.holds Tryz.pinned (OpenSpec.upto topBackSpec)

end Rows
end Go.Proofs.YtflmombnmnblnaaGreat
