/-
  No cell of these rows narrows 'for every input' (looked for: loops, veiled, ifaces, maps, wideKeys, modest, calm, conditions, laid).
  DERIVED. THE GIVEN ROWS OF THIS SEAT. 3 by the template 'for every input the law returns true; each argument reads behind the call as it read before'; 0 by the template 'total and deterministic' (their statements: YtmbhnllcfmiajaaTotals.lean).
  GIVEN WITH THE SEED: the statements are not yours to turn. If you find one false, say at which input.
  Laid BY PROGRAM, IN A SANDBOX (cutbox-rows.mjs): the forced cells as the released guide's own fill.sh prints them over the translation f75f087384b6c78b… (all of the seat's roots in one cut). By AI agents, Wed Nov 11 2026. No macro, syntax, notation, axiom, sorry.
-/
import Derived.Test.YtmbhnllcfmiajaaChecked
import GoSem.Claim
import GoSem.ClaimJoined
import GoSem.ClaimMapViews
import Derived.JoinedTies
import Derived.KernelRfl
namespace Go.Proofs.Ytmbhnllcfmiajaa
/- THE CELL 'sum', in the pinned program and in every row, IS THE sha256 OF THE DUMP (.gsa) THAT YtmbhnllcfmiajaaProg.lean LOADS. Nothing in Lean hashes anything: it is a label: what it is worth is what the hold of that sum in a sandbox is worth. -/
noncomputable def Try.pinned : Pinned := { name := "ytmbhnllcfmiajaa", sum := "f75f087384b6c78b5534752f257208fe2a43298cf79776b250c7ee975220242b", checked := Try.checked }
namespace Rows
def none {H : Type} : Left H := { results := [], args := [] }

/-- 'fumarolelaw06.PipeKeeps': WHATEVER THE INPUT: true; the input reads as it did. -/
def pipeKeepsSpec : ChangeSpec := { name := "pipeKeeps", fn := fun _ => fun
  | [d1, d2, d3] => { results := [.lit (.bool true)], args := [d1, d2, d3] }
  | _ => none }
def pipeKeepsRow : OpenClaim := { program := "ytmbhnllcfmiajaa", sum := "f75f087384b6c78b5534752f257208fe2a43298cf79776b250c7ee975220242b", func := "fumarole/fumarolelaw06.PipeKeeps", spec := "pipeKeeps", unfollowed := true, recurses := true, plainKeys := false, apart := false }
def PipeKeepsSaid : Prop := pipeKeepsRow.holds Try.pinned (OpenSpec.ofChange pipeKeepsSpec)

/-- ITS FALSE NEIGHBOUR: 'it returns false'. Refute it at one input. -/
def pipeKeepsWrong : ChangeSpec := { name := "pipeKeeps", fn := fun _ => fun
  | [d1, d2, d3] => { results := [.lit (.bool false)], args := [d1, d2, d3] }
  | _ => none }
def PipeKeepsWrongFalsely : Prop := pipeKeepsRow.holds Try.pinned (OpenSpec.ofChange pipeKeepsWrong)

/-- 'fumarolelaw06.PipeNets': WHATEVER THE INPUT: true; the input reads as it did. -/
def pipeNetsSpec : ChangeSpec := { name := "pipeNets", fn := fun _ => fun
  | [d1, d2] => { results := [.lit (.bool true)], args := [d1, d2] }
  | _ => none }
def pipeNetsRow : OpenClaim := { program := "ytmbhnllcfmiajaa", sum := "f75f087384b6c78b5534752f257208fe2a43298cf79776b250c7ee975220242b", func := "fumarole/fumarolelaw06.PipeNets", spec := "pipeNets", unfollowed := true, recurses := true, plainKeys := false, apart := false }
def PipeNetsSaid : Prop := pipeNetsRow.holds Try.pinned (OpenSpec.ofChange pipeNetsSpec)

/-- ITS FALSE NEIGHBOUR: 'it returns false'. Refute it at one input. -/
def pipeNetsWrong : ChangeSpec := { name := "pipeNets", fn := fun _ => fun
  | [d1, d2] => { results := [.lit (.bool false)], args := [d1, d2] }
  | _ => none }
def PipeNetsWrongFalsely : Prop := pipeNetsRow.holds Try.pinned (OpenSpec.ofChange pipeNetsWrong)

/-- 'fumarolelaw06.PipeFlashes': WHATEVER THE INPUT: true; the input reads as it did. -/
def pipeFlashesSpec : ChangeSpec := { name := "pipeFlashes", fn := fun _ => fun
  | [d1, d2, d3, d4] => { results := [.lit (.bool true)], args := [d1, d2, d3, d4] }
  | _ => none }
def pipeFlashesRow : OpenClaim := { program := "ytmbhnllcfmiajaa", sum := "f75f087384b6c78b5534752f257208fe2a43298cf79776b250c7ee975220242b", func := "fumarole/fumarolelaw06.PipeFlashes", spec := "pipeFlashes", unfollowed := true, recurses := true, plainKeys := false, apart := false }
def PipeFlashesSaid : Prop := pipeFlashesRow.holds Try.pinned (OpenSpec.ofChange pipeFlashesSpec)

/-- ITS FALSE NEIGHBOUR: 'it returns false'. Refute it at one input. -/
def pipeFlashesWrong : ChangeSpec := { name := "pipeFlashes", fn := fun _ => fun
  | [d1, d2, d3, d4] => { results := [.lit (.bool false)], args := [d1, d2, d3, d4] }
  | _ => none }
def PipeFlashesWrongFalsely : Prop := pipeFlashesRow.holds Try.pinned (OpenSpec.ofChange pipeFlashesWrong)

/- THE SECOND FORM. 'bulk': how many values and letters a reading holds, each counted each time it is reached (what is shared counts as often as it is met; a slice's spare places count too). A statement '..UptoSaid' is the law's where the arguments, and the package variables that the reading takes, are together of bulk at most 1048576: NARROWER than '..Said'. Prove '..Said' where nothing that the law and all that it calls make is longer than what came in: it says more and counts as full. Else prove '..UptoSaid'. A law counts once. -/
mutual
def uptoBulk {H : Type} : DataW H → Nat
  | .lit (.string bytes) => bytes.length + 1
  | .lit _ => 1
  | .nil => 1
  | .ptr d => uptoBulk d + 1
  | .slice elems spare => uptoBulkAll elems + uptoBulkAll spare + 1
  | .agg parts => uptoBulkAll parts + 1
  | .iface _ d => uptoBulk d + 1
  | .map entries => uptoBulkEntries entries + 1
  | .held _ => 1
def uptoBulkAll {H : Type} : List (DataW H) → Nat
  | [] => 0
  | d :: r => uptoBulk d + uptoBulkAll r
def uptoBulkEntries {H : Type} : List (Lit × DataW H) → Nat
  | [] => 0
  | x :: r => uptoBulkEntry x + uptoBulkEntries r
def uptoBulkEntry {H : Type} : Lit × DataW H → Nat
  | (.string bytes, d) => bytes.length + uptoBulk d + 1
  | (_, d) => uptoBulk d + 1
 end
def uptoSmall : (H : Type) → List (DataW H) → Bool := fun _ ds => decide (uptoBulkAll ds ≤ 1048576)
def OpenSpec.upto (s : _root_.Go.ChangeSpec) : _root_.Go.OpenSpec := { _root_.Go.OpenSpec.ofChange s with cond := some uptoSmall }

/-- 'fumarolelaw06.PipeKeeps', WHERE WHAT IT READS IS OF BULK AT MOST 1048576: true; the input reads as it did. -/
def pipeKeepsUptoRow : OpenClaim := { program := "ytmbhnllcfmiajaa", sum := "f75f087384b6c78b5534752f257208fe2a43298cf79776b250c7ee975220242b", func := "fumarole/fumarolelaw06.PipeKeeps", spec := "pipeKeeps", unfollowed := true, recurses := true, plainKeys := false, apart := false, narrowed := true }
def PipeKeepsUptoSaid : Prop := pipeKeepsUptoRow.holds Try.pinned (OpenSpec.upto pipeKeepsSpec)

/-- 'fumarolelaw06.PipeNets', WHERE WHAT IT READS IS OF BULK AT MOST 1048576: true; the input reads as it did. -/
def pipeNetsUptoRow : OpenClaim := { program := "ytmbhnllcfmiajaa", sum := "f75f087384b6c78b5534752f257208fe2a43298cf79776b250c7ee975220242b", func := "fumarole/fumarolelaw06.PipeNets", spec := "pipeNets", unfollowed := true, recurses := true, plainKeys := false, apart := false, narrowed := true }
def PipeNetsUptoSaid : Prop := pipeNetsUptoRow.holds Try.pinned (OpenSpec.upto pipeNetsSpec)

/-- 'fumarolelaw06.PipeFlashes', WHERE WHAT IT READS IS OF BULK AT MOST 1048576: true; the input reads as it did. -/
def pipeFlashesUptoRow : OpenClaim := { program := "ytmbhnllcfmiajaa", sum := "f75f087384b6c78b5534752f257208fe2a43298cf79776b250c7ee975220242b", func := "fumarole/fumarolelaw06.PipeFlashes", spec := "pipeFlashes", unfollowed := true, recurses := true, plainKeys := false, apart := false, narrowed := true }
def PipeFlashesUptoSaid : Prop := pipeFlashesUptoRow.holds Try.pinned (OpenSpec.upto pipeFlashesSpec)

end Rows
end Go.Proofs.Ytmbhnllcfmiajaa
