/-
  No cell of these rows narrows 'for every input' (looked for: loops, veiled, ifaces, maps, wideKeys, modest, calm, conditions, laid).
  DERIVED. THE GIVEN ROWS OF THIS SEAT. 3 by the template 'for every input the law returns true; each argument reads behind the call as it read before'; 0 by the template 'total and deterministic' (their statements: YtlhakkkjgdbdpaaGreatTotals.lean).
  GIVEN WITH THE SEED: the statements are not yours to turn. If you find one false, say at which input.
  Laid BY PROGRAM, IN A SANDBOX (cutbox-rows.mjs): the forced cells as the released guide's own fill.sh prints them over the translation d5bf123cd3d95df8… (all of the seat's roots in one cut). By AI agents, Wed Nov 11 2026. No macro, syntax, notation, axiom, sorry.
-/
import Derived.Test.YtlhakkkjgdbdpaaGreatChecked
import GoSem.Claim
import GoSem.ClaimJoined
import GoSem.ClaimMapViews
import Derived.JoinedTies
import Derived.KernelRfl
namespace Go.Proofs.YtlhakkkjgdbdpaaGreat
/- THE CELL 'sum', in the pinned program and in every row, IS THE sha256 OF THE DUMP (.gsa) THAT YtlhakkkjgdbdpaaGreatProg.lean LOADS. Nothing in Lean hashes anything: it is a label: what it is worth is what the hold of that sum in a sandbox is worth. -/
noncomputable def Tryz.pinned : Pinned := { name := "ytlhakkkjgdbdpaagreat", sum := "d5bf123cd3d95df82bfa5cb6637105f37e78f2d068e7731fb318b07c34e01f04", checked := Tryz.checked }
namespace Rows
def none {H : Type} : Left H := { results := [], args := [] }

/-- 'fumarolelaw07.PlantSettles': WHATEVER THE INPUT: true; the input reads as it did. -/
def plantSettlesSpec : ChangeSpec := { name := "plantSettles", fn := fun _ => fun
  | [d1, d2, d3] => { results := [.lit (.bool true)], args := [d1, d2, d3] }
  | _ => none }
def plantSettlesRow : OpenClaim := { program := "ytlhakkkjgdbdpaagreat", sum := "d5bf123cd3d95df82bfa5cb6637105f37e78f2d068e7731fb318b07c34e01f04", func := "fumarole/fumarolelaw07.PlantSettles", spec := "plantSettles", unfollowed := true, recurses := true, apart := false }
def PlantSettlesSaid : Prop := plantSettlesRow.holds Tryz.pinned (OpenSpec.ofChange plantSettlesSpec)

/-- ITS FALSE NEIGHBOUR: 'it returns false'. Refute it at one input. -/
def plantSettlesWrong : ChangeSpec := { name := "plantSettles", fn := fun _ => fun
  | [d1, d2, d3] => { results := [.lit (.bool false)], args := [d1, d2, d3] }
  | _ => none }
def PlantSettlesWrongFalsely : Prop := plantSettlesRow.holds Tryz.pinned (OpenSpec.ofChange plantSettlesWrong)

/-- 'fumarolelaw07.PlantKeeps': WHATEVER THE INPUT: true; the input reads as it did. -/
def plantKeepsSpec : ChangeSpec := { name := "plantKeeps", fn := fun _ => fun
  | [d1, d2, d3] => { results := [.lit (.bool true)], args := [d1, d2, d3] }
  | _ => none }
def plantKeepsRow : OpenClaim := { program := "ytlhakkkjgdbdpaagreat", sum := "d5bf123cd3d95df82bfa5cb6637105f37e78f2d068e7731fb318b07c34e01f04", func := "fumarole/fumarolelaw07.PlantKeeps", spec := "plantKeeps", unfollowed := true, recurses := true, apart := false }
def PlantKeepsSaid : Prop := plantKeepsRow.holds Tryz.pinned (OpenSpec.ofChange plantKeepsSpec)

/-- ITS FALSE NEIGHBOUR: 'it returns false'. Refute it at one input. -/
def plantKeepsWrong : ChangeSpec := { name := "plantKeeps", fn := fun _ => fun
  | [d1, d2, d3] => { results := [.lit (.bool false)], args := [d1, d2, d3] }
  | _ => none }
def PlantKeepsWrongFalsely : Prop := plantKeepsRow.holds Tryz.pinned (OpenSpec.ofChange plantKeepsWrong)

/-- 'fumarolelaw07.PlantParts': WHATEVER THE INPUT: true; the input reads as it did. -/
def plantPartsSpec : ChangeSpec := { name := "plantParts", fn := fun _ => fun
  | [d1, d2, d3] => { results := [.lit (.bool true)], args := [d1, d2, d3] }
  | _ => none }
def plantPartsRow : OpenClaim := { program := "ytlhakkkjgdbdpaagreat", sum := "d5bf123cd3d95df82bfa5cb6637105f37e78f2d068e7731fb318b07c34e01f04", func := "fumarole/fumarolelaw07.PlantParts", spec := "plantParts", unfollowed := true, recurses := true, apart := false }
def PlantPartsSaid : Prop := plantPartsRow.holds Tryz.pinned (OpenSpec.ofChange plantPartsSpec)

/-- ITS FALSE NEIGHBOUR: 'it returns false'. Refute it at one input. -/
def plantPartsWrong : ChangeSpec := { name := "plantParts", fn := fun _ => fun
  | [d1, d2, d3] => { results := [.lit (.bool false)], args := [d1, d2, d3] }
  | _ => none }
def PlantPartsWrongFalsely : Prop := plantPartsRow.holds Tryz.pinned (OpenSpec.ofChange plantPartsWrong)

/- THE SECOND FORM. 'bulk': how many values and letters a reading holds, each counted each time it is reached (what is shared counts as often as it is met; a slice's spare places count too). A statement '..UptoSaid' is the law's where the arguments, and the package variables that the reading takes, are together of bulk at most 1048576: NARROWER than '..Said'. Prove '..Said' where nothing that the law and all that it calls make is longer than what came in: it says more and counts as full. Else prove '..UptoSaid'. A law counts once. -/
mutual
def uptoBulk {H : Type} : DataW H → Nat
  | .lit (.string bytes) => bytes.length + 1
  | .lit _ => 1
  | .nil => 1
  | .ptr d => uptoBulk d + 1
  | .slice elems spare => uptoBulkAll elems + uptoBulkAll spare + 1
  | .agg parts => uptoBulkAll parts + 1
  | .iface _ d => uptoBulk d + 1
  | .map entries => uptoBulkEntries entries + 1
  | .held _ => 1
def uptoBulkAll {H : Type} : List (DataW H) → Nat
  | [] => 0
  | d :: r => uptoBulk d + uptoBulkAll r
def uptoBulkEntries {H : Type} : List (Lit × DataW H) → Nat
  | [] => 0
  | x :: r => uptoBulkEntry x + uptoBulkEntries r
def uptoBulkEntry {H : Type} : Lit × DataW H → Nat
  | (.string bytes, d) => bytes.length + uptoBulk d + 1
  | (_, d) => uptoBulk d + 1
 end
def uptoSmall : (H : Type) → List (DataW H) → Bool := fun _ ds => decide (uptoBulkAll ds ≤ 1048576)
def OpenSpec.upto (s : _root_.Go.ChangeSpec) : _root_.Go.OpenSpec := { _root_.Go.OpenSpec.ofChange s with cond := some uptoSmall }

/-- 'fumarolelaw07.PlantSettles', WHERE WHAT IT READS IS OF BULK AT MOST 1048576: true; the input reads as it did. -/
def plantSettlesUptoRow : OpenClaim := { program := "ytlhakkkjgdbdpaagreat", sum := "d5bf123cd3d95df82bfa5cb6637105f37e78f2d068e7731fb318b07c34e01f04", func := "fumarole/fumarolelaw07.PlantSettles", spec := "plantSettles", unfollowed := true, recurses := true, apart := false, narrowed := true }
def PlantSettlesUptoSaid : Prop := plantSettlesUptoRow.holds Tryz.pinned (OpenSpec.upto plantSettlesSpec)

/-- 'fumarolelaw07.PlantKeeps', WHERE WHAT IT READS IS OF BULK AT MOST 1048576: true; the input reads as it did. -/
def plantKeepsUptoRow : OpenClaim := { program := "ytlhakkkjgdbdpaagreat", sum := "d5bf123cd3d95df82bfa5cb6637105f37e78f2d068e7731fb318b07c34e01f04", func := "fumarole/fumarolelaw07.PlantKeeps", spec := "plantKeeps", unfollowed := true, recurses := true, apart := false, narrowed := true }
def PlantKeepsUptoSaid : Prop := plantKeepsUptoRow.holds Tryz.pinned (OpenSpec.upto plantKeepsSpec)

/-- 'fumarolelaw07.PlantParts', WHERE WHAT IT READS IS OF BULK AT MOST 1048576: true; the input reads as it did. -/
def plantPartsUptoRow : OpenClaim := { program := "ytlhakkkjgdbdpaagreat", sum := "d5bf123cd3d95df82bfa5cb6637105f37e78f2d068e7731fb318b07c34e01f04", func := "fumarole/fumarolelaw07.PlantParts", spec := "plantParts", unfollowed := true, recurses := true, apart := false, narrowed := true }
def PlantPartsUptoSaid : Prop := plantPartsUptoRow.holds Tryz.pinned (OpenSpec.upto plantPartsSpec)

end Rows
end Go.Proofs.YtlhakkkjgdbdpaaGreat
