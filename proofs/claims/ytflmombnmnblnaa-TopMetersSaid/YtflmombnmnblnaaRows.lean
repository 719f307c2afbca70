/-
  No cell of these rows narrows 'for every input' (looked for: loops, veiled, ifaces, maps, wideKeys, modest, calm, conditions, laid).
  DERIVED. THE GIVEN ROWS OF THIS SEAT. 5 by the template 'for every input the law returns true; each argument reads behind the call as it read before'; 0 by the template 'total and deterministic' (their statements: YtflmombnmnblnaaTotals.lean).
  GIVEN WITH THE SEED: the statements are not yours to turn. If you find one false, say at which input.
  Laid BY PROGRAM, IN A SANDBOX (cutbox-rows.mjs): the forced cells as the released guide's own fill.sh prints them over the translation 71b6b082582ba504… (all of the seat's roots in one cut). By AI agents, Wed Nov 11 2026. No macro, syntax, notation, axiom, sorry.
-/
import Derived.Test.YtflmombnmnblnaaChecked
import GoSem.Claim
import GoSem.ClaimJoined
import GoSem.ClaimMapViews
import Derived.JoinedTies
import Derived.KernelRfl
namespace Go.Proofs.Ytflmombnmnblnaa
/- THE CELL 'sum', in the pinned program and in every row, IS THE sha256 OF THE DUMP (.gsa) THAT YtflmombnmnblnaaProg.lean LOADS. Nothing in Lean hashes anything: it is a label: what it is worth is what the hold of that sum in a sandbox is worth. -/
noncomputable def Try.pinned : Pinned := { name := "ytflmombnmnblnaa", sum := "71b6b082582ba504b34fb1344922625a881e080e23ba5eb2e12ee13768f89f46", checked := Try.checked }
namespace Rows
def none {H : Type} : Left H := { results := [], args := [] }

/-- 'fumaroletop.TopMeters': WHATEVER THE INPUT: true; the input reads as it did. -/
def topMetersSpec : ChangeSpec := { name := "topMeters", fn := fun _ => fun
  | [d1, d2, d3] => { results := [.lit (.bool true)], args := [d1, d2, d3] }
  | _ => none }
def topMetersRow : OpenClaim := { program := "ytflmombnmnblnaa", sum := "71b6b082582ba504b34fb1344922625a881e080e23ba5eb2e12ee13768f89f46", func := "fumarole/fumaroletop.TopMeters", spec := "topMeters", unfollowed := true, recurses := true, apart := false }
def TopMetersSaid : Prop := topMetersRow.holds Try.pinned (OpenSpec.ofChange topMetersSpec)

/-- ITS FALSE NEIGHBOUR: 'it returns false'. Refute it at one input. -/
def topMetersWrong : ChangeSpec := { name := "topMeters", fn := fun _ => fun
  | [d1, d2, d3] => { results := [.lit (.bool false)], args := [d1, d2, d3] }
  | _ => none }
def TopMetersWrongFalsely : Prop := topMetersRow.holds Try.pinned (OpenSpec.ofChange topMetersWrong)

/-- 'fumaroletop.TopCurves': WHATEVER THE INPUT: true; the input reads as it did. -/
def topCurvesSpec : ChangeSpec := { name := "topCurves", fn := fun _ => fun
  | [d1, d2, d3, d4, d5] => { results := [.lit (.bool true)], args := [d1, d2, d3, d4, d5] }
  | _ => none }
def topCurvesRow : OpenClaim := { program := "ytflmombnmnblnaa", sum := "71b6b082582ba504b34fb1344922625a881e080e23ba5eb2e12ee13768f89f46", func := "fumarole/fumaroletop.TopCurves", spec := "topCurves", unfollowed := true, recurses := true, apart := false }
def TopCurvesSaid : Prop := topCurvesRow.holds Try.pinned (OpenSpec.ofChange topCurvesSpec)

/-- ITS FALSE NEIGHBOUR: 'it returns false'. Refute it at one input. -/
def topCurvesWrong : ChangeSpec := { name := "topCurves", fn := fun _ => fun
  | [d1, d2, d3, d4, d5] => { results := [.lit (.bool false)], args := [d1, d2, d3, d4, d5] }
  | _ => none }
def TopCurvesWrongFalsely : Prop := topCurvesRow.holds Try.pinned (OpenSpec.ofChange topCurvesWrong)

/-- 'fumaroletop.TopMoney': WHATEVER THE INPUT: true; the input reads as it did. -/
def topMoneySpec : ChangeSpec := { name := "topMoney", fn := fun _ => fun
  | [d1, d2, d3] => { results := [.lit (.bool true)], args := [d1, d2, d3] }
  | _ => none }
def topMoneyRow : OpenClaim := { program := "ytflmombnmnblnaa", sum := "71b6b082582ba504b34fb1344922625a881e080e23ba5eb2e12ee13768f89f46", func := "fumarole/fumaroletop.TopMoney", spec := "topMoney", unfollowed := true, recurses := true, apart := false }
def TopMoneySaid : Prop := topMoneyRow.holds Try.pinned (OpenSpec.ofChange topMoneySpec)

/-- ITS FALSE NEIGHBOUR: 'it returns false'. Refute it at one input. -/
def topMoneyWrong : ChangeSpec := { name := "topMoney", fn := fun _ => fun
  | [d1, d2, d3] => { results := [.lit (.bool false)], args := [d1, d2, d3] }
  | _ => none }
def TopMoneyWrongFalsely : Prop := topMoneyRow.holds Try.pinned (OpenSpec.ofChange topMoneyWrong)

/-- 'fumaroletop.TopDeeper': WHATEVER THE INPUT: true; the input reads as it did. -/
def topDeeperSpec : ChangeSpec := { name := "topDeeper", fn := fun _ => fun
  | [d1, d2, d3, d4, d5] => { results := [.lit (.bool true)], args := [d1, d2, d3, d4, d5] }
  | _ => none }
def topDeeperRow : OpenClaim := { program := "ytflmombnmnblnaa", sum := "71b6b082582ba504b34fb1344922625a881e080e23ba5eb2e12ee13768f89f46", func := "fumarole/fumaroletop.TopDeeper", spec := "topDeeper", unfollowed := true, recurses := true, apart := false }
def TopDeeperSaid : Prop := topDeeperRow.holds Try.pinned (OpenSpec.ofChange topDeeperSpec)

/-- ITS FALSE NEIGHBOUR: 'it returns false'. Refute it at one input. -/
def topDeeperWrong : ChangeSpec := { name := "topDeeper", fn := fun _ => fun
  | [d1, d2, d3, d4, d5] => { results := [.lit (.bool false)], args := [d1, d2, d3, d4, d5] }
  | _ => none }
def TopDeeperWrongFalsely : Prop := topDeeperRow.holds Try.pinned (OpenSpec.ofChange topDeeperWrong)

/-- 'fumaroletop.TopCheaper': WHATEVER THE INPUT: true; the input reads as it did. -/
def topCheaperSpec : ChangeSpec := { name := "topCheaper", fn := fun _ => fun
  | [d1, d2, d3, d4, d5, d6, d7] => { results := [.lit (.bool true)], args := [d1, d2, d3, d4, d5, d6, d7] }
  | _ => none }
def topCheaperRow : OpenClaim := { program := "ytflmombnmnblnaa", sum := "71b6b082582ba504b34fb1344922625a881e080e23ba5eb2e12ee13768f89f46", func := "fumarole/fumaroletop.TopCheaper", spec := "topCheaper", unfollowed := true, recurses := true, apart := false }
def TopCheaperSaid : Prop := topCheaperRow.holds Try.pinned (OpenSpec.ofChange topCheaperSpec)

/-- ITS FALSE NEIGHBOUR: 'it returns false'. Refute it at one input. -/
def topCheaperWrong : ChangeSpec := { name := "topCheaper", fn := fun _ => fun
  | [d1, d2, d3, d4, d5, d6, d7] => { results := [.lit (.bool false)], args := [d1, d2, d3, d4, d5, d6, d7] }
  | _ => none }
def TopCheaperWrongFalsely : Prop := topCheaperRow.holds Try.pinned (OpenSpec.ofChange topCheaperWrong)

/- THE SECOND FORM. 'bulk': how many values and letters a reading holds, each counted each time it is reached (what is shared counts as often as it is met; a slice's spare places count too). A statement '..UptoSaid' is the law's where the arguments, and the package variables that the reading takes, are together of bulk at most 1048576: NARROWER than '..Said'. Prove '..Said' where nothing that the law and all that it calls make is longer than what came in: it says more and counts as full. Else prove '..UptoSaid'. A law counts once. -/
mutual
def uptoBulk {H : Type} : DataW H → Nat
  | .lit (.string bytes) => bytes.length + 1
  | .lit _ => 1
  | .nil => 1
  | .ptr d => uptoBulk d + 1
  | .slice elems spare => uptoBulkAll elems + uptoBulkAll spare + 1
  | .agg parts => uptoBulkAll parts + 1
  | .iface _ d => uptoBulk d + 1
  | .map entries => uptoBulkEntries entries + 1
  | .held _ => 1
def uptoBulkAll {H : Type} : List (DataW H) → Nat
  | [] => 0
  | d :: r => uptoBulk d + uptoBulkAll r
def uptoBulkEntries {H : Type} : List (Lit × DataW H) → Nat
  | [] => 0
  | x :: r => uptoBulkEntry x + uptoBulkEntries r
def uptoBulkEntry {H : Type} : Lit × DataW H → Nat
  | (.string bytes, d) => bytes.length + uptoBulk d + 1
  | (_, d) => uptoBulk d + 1
 end
def uptoSmall : (H : Type) → List (DataW H) → Bool := fun _ ds => decide (uptoBulkAll ds ≤ 1048576)
def OpenSpec.upto (s : _root_.Go.ChangeSpec) : _root_.Go.OpenSpec := { _root_.Go.OpenSpec.ofChange s with cond := some uptoSmall }

/-- 'fumaroletop.TopMeters', WHERE WHAT IT READS IS OF BULK AT MOST 1048576: true; the input reads as it did. -/
def topMetersUptoRow : OpenClaim := { program := "ytflmombnmnblnaa", sum := "71b6b082582ba504b34fb1344922625a881e080e23ba5eb2e12ee13768f89f46", func := "fumarole/fumaroletop.TopMeters", spec := "topMeters", unfollowed := true, recurses := true, apart := false, narrowed := true }
def TopMetersUptoSaid : Prop := topMetersUptoRow.holds Try.pinned (OpenSpec.upto topMetersSpec)

/-- 'fumaroletop.TopCurves', WHERE WHAT IT READS IS OF BULK AT MOST 1048576: true; the input reads as it did. -/
def topCurvesUptoRow : OpenClaim := { program := "ytflmombnmnblnaa", sum := "71b6b082582ba504b34fb1344922625a881e080e23ba5eb2e12ee13768f89f46", func := "fumarole/fumaroletop.TopCurves", spec := "topCurves", unfollowed := true, recurses := true, apart := false, narrowed := true }
def TopCurvesUptoSaid : Prop := topCurvesUptoRow.holds Try.pinned (OpenSpec.upto topCurvesSpec)

/-- 'fumaroletop.TopMoney', WHERE WHAT IT READS IS OF BULK AT MOST 1048576: true; the input reads as it did. -/
def topMoneyUptoRow : OpenClaim := { program := "ytflmombnmnblnaa", sum := "71b6b082582ba504b34fb1344922625a881e080e23ba5eb2e12ee13768f89f46", func := "fumarole/fumaroletop.TopMoney", spec := "topMoney", unfollowed := true, recurses := true, apart := false, narrowed := true }
def TopMoneyUptoSaid : Prop := topMoneyUptoRow.holds Try.pinned (OpenSpec.upto topMoneySpec)

/-- 'fumaroletop.TopDeeper', WHERE WHAT IT READS IS OF BULK AT MOST 1048576: true; the input reads as it did. -/
def topDeeperUptoRow : OpenClaim := { program := "ytflmombnmnblnaa", sum := "71b6b082582ba504b34fb1344922625a881e080e23ba5eb2e12ee13768f89f46", func := "fumarole/fumaroletop.TopDeeper", spec := "topDeeper", unfollowed := true, recurses := true, apart := false, narrowed := true }
def TopDeeperUptoSaid : Prop := topDeeperUptoRow.holds Try.pinned (OpenSpec.upto topDeeperSpec)

/-- 'fumaroletop.TopCheaper', WHERE WHAT IT READS IS OF BULK AT MOST 1048576: true; the input reads as it did. -/
def topCheaperUptoRow : OpenClaim := { program := "ytflmombnmnblnaa", sum := "71b6b082582ba504b34fb1344922625a881e080e23ba5eb2e12ee13768f89f46", func := "fumarole/fumaroletop.TopCheaper", spec := "topCheaper", unfollowed := true, recurses := true, apart := false, narrowed := true }
def TopCheaperUptoSaid : Prop := topCheaperUptoRow.holds Try.pinned (OpenSpec.upto topCheaperSpec)

end Rows
end Go.Proofs.Ytflmombnmnblnaa
