/-
  No cell of these rows narrows 'for every input' (looked for: loops, veiled, ifaces, maps, wideKeys, modest, calm, conditions, laid).
  DERIVED. THE GIVEN ROWS OF THIS SEAT. 3 by the template 'for every input the law returns true; each argument reads behind the call as it read before'; 0 by the template 'total and deterministic' (their statements: YtjpfjfdaomckhaaTotals.lean).
  GIVEN WITH THE SEED: the statements are not yours to turn. If you find one false, say at which input.
  Laid BY PROGRAM, IN A SANDBOX (cutbox-rows.mjs): the forced cells as the released guide's own fill.sh prints them over the translation 137307e27363be16… (all of the seat's roots in one cut). By AI agents, Wed Nov 11 2026. No macro, syntax, notation, axiom, sorry.
-/
import Derived.Test.YtjpfjfdaomckhaaChecked
import GoSem.Claim
import GoSem.ClaimJoined
import GoSem.ClaimMapViews
import Derived.JoinedTies
import Derived.KernelRfl
namespace Go.Proofs.Ytjpfjfdaomckhaa
/- THE CELL 'sum', in the pinned program and in every row, IS THE sha256 OF THE DUMP (.gsa) THAT YtjpfjfdaomckhaaProg.lean LOADS. Nothing in Lean hashes anything: it is a label: what it is worth is what the hold of that sum in a sandbox is worth. -/
noncomputable def Try.pinned : Pinned := { name := "ytjpfjfdaomckhaa", sum := "137307e27363be163fc9d9461aa7d086684f0344bdaeb5b6a2859593bfd06591", checked := Try.checked }
namespace Rows
def none {H : Type} : Left H := { results := [], args := [] }

/-- 'fumarolelaw01.SteamMixes': WHATEVER THE INPUT: true; the input reads as it did. -/
def steamMixesSpec : ChangeSpec := { name := "steamMixes", fn := fun _ => fun
  | [d1, d2, d3] => { results := [.lit (.bool true)], args := [d1, d2, d3] }
  | _ => none }
def steamMixesRow : OpenClaim := { program := "ytjpfjfdaomckhaa", sum := "137307e27363be163fc9d9461aa7d086684f0344bdaeb5b6a2859593bfd06591", func := "fumarole/fumarolelaw01.SteamMixes", spec := "steamMixes", unfollowed := true, recurses := true, apart := false }
def SteamMixesSaid : Prop := steamMixesRow.holds Try.pinned (OpenSpec.ofChange steamMixesSpec)

/-- ITS FALSE NEIGHBOUR: 'it returns false'. Refute it at one input. -/
def steamMixesWrong : ChangeSpec := { name := "steamMixes", fn := fun _ => fun
  | [d1, d2, d3] => { results := [.lit (.bool false)], args := [d1, d2, d3] }
  | _ => none }
def SteamMixesWrongFalsely : Prop := steamMixesRow.holds Try.pinned (OpenSpec.ofChange steamMixesWrong)

/-- 'fumarolelaw10.TownTanks': WHATEVER THE INPUT: true; the input reads as it did. -/
def townTanksSpec : ChangeSpec := { name := "townTanks", fn := fun _ => fun
  | [d1, d2, d3, d4, d5] => { results := [.lit (.bool true)], args := [d1, d2, d3, d4, d5] }
  | _ => none }
def townTanksRow : OpenClaim := { program := "ytjpfjfdaomckhaa", sum := "137307e27363be163fc9d9461aa7d086684f0344bdaeb5b6a2859593bfd06591", func := "fumarole/fumarolelaw10.TownTanks", spec := "townTanks", unfollowed := true, recurses := true, apart := false }
def TownTanksSaid : Prop := townTanksRow.holds Try.pinned (OpenSpec.ofChange townTanksSpec)

/-- ITS FALSE NEIGHBOUR: 'it returns false'. Refute it at one input. -/
def townTanksWrong : ChangeSpec := { name := "townTanks", fn := fun _ => fun
  | [d1, d2, d3, d4, d5] => { results := [.lit (.bool false)], args := [d1, d2, d3, d4, d5] }
  | _ => none }
def TownTanksWrongFalsely : Prop := townTanksRow.holds Try.pinned (OpenSpec.ofChange townTanksWrong)

/-- 'fumarolelaw10.TownNames': WHATEVER THE INPUT: true; the input reads as it did. -/
def townNamesSpec : ChangeSpec := { name := "townNames", fn := fun _ => fun
  | [] => { results := [.lit (.bool true)], args := [] }
  | _ => none }
def townNamesRow : OpenClaim := { program := "ytjpfjfdaomckhaa", sum := "137307e27363be163fc9d9461aa7d086684f0344bdaeb5b6a2859593bfd06591", func := "fumarole/fumarolelaw10.TownNames", spec := "townNames", unfollowed := true, recurses := true, apart := false }
def TownNamesSaid : Prop := townNamesRow.holds Try.pinned (OpenSpec.ofChange townNamesSpec)

/-- ITS FALSE NEIGHBOUR: 'it returns false'. Refute it at one input. -/
def townNamesWrong : ChangeSpec := { name := "townNames", fn := fun _ => fun
  | [] => { results := [.lit (.bool false)], args := [] }
  | _ => none }
def TownNamesWrongFalsely : Prop := townNamesRow.holds Try.pinned (OpenSpec.ofChange townNamesWrong)

/- THE SECOND FORM. 'bulk': how many values and letters a reading holds, each counted each time it is reached (what is shared counts as often as it is met; a slice's spare places count too). A statement '..UptoSaid' is the law's where the arguments, and the package variables that the reading takes, are together of bulk at most 1048576: NARROWER than '..Said'. Prove '..Said' where nothing that the law and all that it calls make is longer than what came in: it says more and counts as full. Else prove '..UptoSaid'. A law counts once. -/
mutual
def uptoBulk {H : Type} : DataW H → Nat
  | .lit (.string bytes) => bytes.length + 1
  | .lit _ => 1
  | .nil => 1
  | .ptr d => uptoBulk d + 1
  | .slice elems spare => uptoBulkAll elems + uptoBulkAll spare + 1
  | .agg parts => uptoBulkAll parts + 1
  | .iface _ d => uptoBulk d + 1
  | .map entries => uptoBulkEntries entries + 1
  | .held _ => 1
def uptoBulkAll {H : Type} : List (DataW H) → Nat
  | [] => 0
  | d :: r => uptoBulk d + uptoBulkAll r
def uptoBulkEntries {H : Type} : List (Lit × DataW H) → Nat
  | [] => 0
  | x :: r => uptoBulkEntry x + uptoBulkEntries r
def uptoBulkEntry {H : Type} : Lit × DataW H → Nat
  | (.string bytes, d) => bytes.length + uptoBulk d + 1
  | (_, d) => uptoBulk d + 1
 end
def uptoSmall : (H : Type) → List (DataW H) → Bool := fun _ ds => decide (uptoBulkAll ds ≤ 1048576)
def OpenSpec.upto (s : _root_.Go.ChangeSpec) : _root_.Go.OpenSpec := { _root_.Go.OpenSpec.ofChange s with cond := some uptoSmall }

/-- 'fumarolelaw01.SteamMixes', WHERE WHAT IT READS IS OF BULK AT MOST 1048576: true; the input reads as it did. -/
def steamMixesUptoRow : OpenClaim := { program := "ytjpfjfdaomckhaa", sum := "137307e27363be163fc9d9461aa7d086684f0344bdaeb5b6a2859593bfd06591", func := "fumarole/fumarolelaw01.SteamMixes", spec := "steamMixes", unfollowed := true, recurses := true, apart := false, narrowed := true }
def SteamMixesUptoSaid : Prop := steamMixesUptoRow.holds Try.pinned (OpenSpec.upto steamMixesSpec)

/-- 'fumarolelaw10.TownTanks', WHERE WHAT IT READS IS OF BULK AT MOST 1048576: true; the input reads as it did. -/
def townTanksUptoRow : OpenClaim := { program := "ytjpfjfdaomckhaa", sum := "137307e27363be163fc9d9461aa7d086684f0344bdaeb5b6a2859593bfd06591", func := "fumarole/fumarolelaw10.TownTanks", spec := "townTanks", unfollowed := true, recurses := true, apart := false, narrowed := true }
def TownTanksUptoSaid : Prop := townTanksUptoRow.holds Try.pinned (OpenSpec.upto townTanksSpec)

/-- 'fumarolelaw10.TownNames', WHERE WHAT IT READS IS OF BULK AT MOST 1048576: true; the input reads as it did. -/
def townNamesUptoRow : OpenClaim := { program := "ytjpfjfdaomckhaa", sum := "137307e27363be163fc9d9461aa7d086684f0344bdaeb5b6a2859593bfd06591", func := "fumarole/fumarolelaw10.TownNames", spec := "townNames", unfollowed := true, recurses := true, apart := false, narrowed := true }
def TownNamesUptoSaid : Prop := townNamesUptoRow.holds Try.pinned (OpenSpec.upto townNamesSpec)

end Rows
end Go.Proofs.Ytjpfjfdaomckhaa
