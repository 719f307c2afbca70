/-
  No cell of these rows narrows 'for every input' (looked for: loops, veiled, ifaces, maps, wideKeys, modest, calm, conditions, laid).
  DERIVED. THE GIVEN ROWS OF THIS SEAT. 14 by the template 'for every input the law returns true; each argument reads behind the call as it read before'; 0 by the template 'total and deterministic' (their statements: YtenpbiineblcjaaTotals.lean).
  GIVEN WITH THE SEED: the statements are not yours to turn. If you find one false, say at which input.
  Laid BY PROGRAM, IN A SANDBOX (cutbox-rows.mjs): the forced cells as the released guide's own fill.sh prints them over the translation 87e866eec0f6b56a… (all of the seat's roots in one cut). By AI agents, Wed Nov 11 2026. No macro, syntax, notation, axiom, sorry.
-/
import Derived.Test.YtenpbiineblcjaaChecked
import GoSem.Claim
import GoSem.ClaimJoined
import GoSem.ClaimMapViews
import Derived.JoinedTies
import Derived.KernelRfl
namespace Go.Proofs.Ytenpbiineblcjaa
/- THE CELL 'sum', in the pinned program and in every row, IS THE sha256 OF THE DUMP (.gsa) THAT YtenpbiineblcjaaProg.lean LOADS. Nothing in Lean hashes anything: it is a label: what it is worth is what the hold of that sum in a sandbox is worth. -/
noncomputable def Try.pinned : Pinned := { name := "ytenpbiineblcjaa", sum := "87e866eec0f6b56a002a9f1d1d3e8bb543055716783218f4f7c5b292b9699484", checked := Try.checked }
namespace Rows
def none {H : Type} : Left H := { results := [], args := [] }

/-- 'fumarolelaw01.SteamDeepest': WHATEVER THE INPUT: true; the input reads as it did. -/
def steamDeepestSpec : ChangeSpec := { name := "steamDeepest", fn := fun _ => fun
  | [d1, d2] => { results := [.lit (.bool true)], args := [d1, d2] }
  | _ => none }
def steamDeepestRow : OpenClaim := { program := "ytenpbiineblcjaa", sum := "87e866eec0f6b56a002a9f1d1d3e8bb543055716783218f4f7c5b292b9699484", func := "fumarole/fumarolelaw01.SteamDeepest", spec := "steamDeepest", unfollowed := true, recurses := true, apart := false }
def SteamDeepestSaid : Prop := steamDeepestRow.holds Try.pinned (OpenSpec.ofChange steamDeepestSpec)

/-- ITS FALSE NEIGHBOUR: 'it returns false'. Refute it at one input. -/
def steamDeepestWrong : ChangeSpec := { name := "steamDeepest", fn := fun _ => fun
  | [d1, d2] => { results := [.lit (.bool false)], args := [d1, d2] }
  | _ => none }
def SteamDeepestWrongFalsely : Prop := steamDeepestRow.holds Try.pinned (OpenSpec.ofChange steamDeepestWrong)

/-- 'fumarolelaw01.SteamMore': WHATEVER THE INPUT: true; the input reads as it did. -/
def steamMoreSpec : ChangeSpec := { name := "steamMore", fn := fun _ => fun
  | [d1, d2, d3, d4] => { results := [.lit (.bool true)], args := [d1, d2, d3, d4] }
  | _ => none }
def steamMoreRow : OpenClaim := { program := "ytenpbiineblcjaa", sum := "87e866eec0f6b56a002a9f1d1d3e8bb543055716783218f4f7c5b292b9699484", func := "fumarole/fumarolelaw01.SteamMore", spec := "steamMore", unfollowed := true, recurses := true, apart := false }
def SteamMoreSaid : Prop := steamMoreRow.holds Try.pinned (OpenSpec.ofChange steamMoreSpec)

/-- ITS FALSE NEIGHBOUR: 'it returns false'. Refute it at one input. -/
def steamMoreWrong : ChangeSpec := { name := "steamMore", fn := fun _ => fun
  | [d1, d2, d3, d4] => { results := [.lit (.bool false)], args := [d1, d2, d3, d4] }
  | _ => none }
def SteamMoreWrongFalsely : Prop := steamMoreRow.holds Try.pinned (OpenSpec.ofChange steamMoreWrong)

/-- 'fumarolelaw01.SteamSafe': WHATEVER THE INPUT: true; the input reads as it did. -/
def steamSafeSpec : ChangeSpec := { name := "steamSafe", fn := fun _ => fun
  | [d1, d2] => { results := [.lit (.bool true)], args := [d1, d2] }
  | _ => none }
def steamSafeRow : OpenClaim := { program := "ytenpbiineblcjaa", sum := "87e866eec0f6b56a002a9f1d1d3e8bb543055716783218f4f7c5b292b9699484", func := "fumarole/fumarolelaw01.SteamSafe", spec := "steamSafe", unfollowed := true, recurses := true, apart := false }
def SteamSafeSaid : Prop := steamSafeRow.holds Try.pinned (OpenSpec.ofChange steamSafeSpec)

/-- ITS FALSE NEIGHBOUR: 'it returns false'. Refute it at one input. -/
def steamSafeWrong : ChangeSpec := { name := "steamSafe", fn := fun _ => fun
  | [d1, d2] => { results := [.lit (.bool false)], args := [d1, d2] }
  | _ => none }
def SteamSafeWrongFalsely : Prop := steamSafeRow.holds Try.pinned (OpenSpec.ofChange steamSafeWrong)

/-- 'fumarolelaw01.SteamFair': WHATEVER THE INPUT: true; the input reads as it did. -/
def steamFairSpec : ChangeSpec := { name := "steamFair", fn := fun _ => fun
  | [d1, d2] => { results := [.lit (.bool true)], args := [d1, d2] }
  | _ => none }
def steamFairRow : OpenClaim := { program := "ytenpbiineblcjaa", sum := "87e866eec0f6b56a002a9f1d1d3e8bb543055716783218f4f7c5b292b9699484", func := "fumarole/fumarolelaw01.SteamFair", spec := "steamFair", unfollowed := true, recurses := true, apart := false }
def SteamFairSaid : Prop := steamFairRow.holds Try.pinned (OpenSpec.ofChange steamFairSpec)

/-- ITS FALSE NEIGHBOUR: 'it returns false'. Refute it at one input. -/
def steamFairWrong : ChangeSpec := { name := "steamFair", fn := fun _ => fun
  | [d1, d2] => { results := [.lit (.bool false)], args := [d1, d2] }
  | _ => none }
def SteamFairWrongFalsely : Prop := steamFairRow.holds Try.pinned (OpenSpec.ofChange steamFairWrong)

/-- 'fumarolelaw01.SteamMixes': WHATEVER THE INPUT: true; the input reads as it did. -/
def steamMixesSpec : ChangeSpec := { name := "steamMixes", fn := fun _ => fun
  | [d1, d2, d3] => { results := [.lit (.bool true)], args := [d1, d2, d3] }
  | _ => none }
def steamMixesRow : OpenClaim := { program := "ytenpbiineblcjaa", sum := "87e866eec0f6b56a002a9f1d1d3e8bb543055716783218f4f7c5b292b9699484", func := "fumarole/fumarolelaw01.SteamMixes", spec := "steamMixes", unfollowed := true, recurses := true, apart := false }
def SteamMixesSaid : Prop := steamMixesRow.holds Try.pinned (OpenSpec.ofChange steamMixesSpec)

/-- ITS FALSE NEIGHBOUR: 'it returns false'. Refute it at one input. -/
def steamMixesWrong : ChangeSpec := { name := "steamMixes", fn := fun _ => fun
  | [d1, d2, d3] => { results := [.lit (.bool false)], args := [d1, d2, d3] }
  | _ => none }
def SteamMixesWrongFalsely : Prop := steamMixesRow.holds Try.pinned (OpenSpec.ofChange steamMixesWrong)

/-- 'fumarolelaw01.SteamBounds': WHATEVER THE INPUT: true; the input reads as it did. -/
def steamBoundsSpec : ChangeSpec := { name := "steamBounds", fn := fun _ => fun
  | [d1, d2, d3, d4, d5] => { results := [.lit (.bool true)], args := [d1, d2, d3, d4, d5] }
  | _ => none }
def steamBoundsRow : OpenClaim := { program := "ytenpbiineblcjaa", sum := "87e866eec0f6b56a002a9f1d1d3e8bb543055716783218f4f7c5b292b9699484", func := "fumarole/fumarolelaw01.SteamBounds", spec := "steamBounds", unfollowed := true, recurses := true, apart := false }
def SteamBoundsSaid : Prop := steamBoundsRow.holds Try.pinned (OpenSpec.ofChange steamBoundsSpec)

/-- ITS FALSE NEIGHBOUR: 'it returns false'. Refute it at one input. -/
def steamBoundsWrong : ChangeSpec := { name := "steamBounds", fn := fun _ => fun
  | [d1, d2, d3, d4, d5] => { results := [.lit (.bool false)], args := [d1, d2, d3, d4, d5] }
  | _ => none }
def SteamBoundsWrongFalsely : Prop := steamBoundsRow.holds Try.pinned (OpenSpec.ofChange steamBoundsWrong)

/-- 'fumarolelaw01.SteamWithin': WHATEVER THE INPUT: true; the input reads as it did. -/
def steamWithinSpec : ChangeSpec := { name := "steamWithin", fn := fun _ => fun
  | [d1, d2, d3, d4, d5, d6, d7] => { results := [.lit (.bool true)], args := [d1, d2, d3, d4, d5, d6, d7] }
  | _ => none }
def steamWithinRow : OpenClaim := { program := "ytenpbiineblcjaa", sum := "87e866eec0f6b56a002a9f1d1d3e8bb543055716783218f4f7c5b292b9699484", func := "fumarole/fumarolelaw01.SteamWithin", spec := "steamWithin", unfollowed := true, recurses := true, apart := false }
def SteamWithinSaid : Prop := steamWithinRow.holds Try.pinned (OpenSpec.ofChange steamWithinSpec)

/-- ITS FALSE NEIGHBOUR: 'it returns false'. Refute it at one input. -/
def steamWithinWrong : ChangeSpec := { name := "steamWithin", fn := fun _ => fun
  | [d1, d2, d3, d4, d5, d6, d7] => { results := [.lit (.bool false)], args := [d1, d2, d3, d4, d5, d6, d7] }
  | _ => none }
def SteamWithinWrongFalsely : Prop := steamWithinRow.holds Try.pinned (OpenSpec.ofChange steamWithinWrong)

/-- 'fumarolelaw01.SteamLines': WHATEVER THE INPUT: true; the input reads as it did. -/
def steamLinesSpec : ChangeSpec := { name := "steamLines", fn := fun _ => fun
  | [d1, d2, d3, d4] => { results := [.lit (.bool true)], args := [d1, d2, d3, d4] }
  | _ => none }
def steamLinesRow : OpenClaim := { program := "ytenpbiineblcjaa", sum := "87e866eec0f6b56a002a9f1d1d3e8bb543055716783218f4f7c5b292b9699484", func := "fumarole/fumarolelaw01.SteamLines", spec := "steamLines", unfollowed := true, recurses := true, apart := false }
def SteamLinesSaid : Prop := steamLinesRow.holds Try.pinned (OpenSpec.ofChange steamLinesSpec)

/-- ITS FALSE NEIGHBOUR: 'it returns false'. Refute it at one input. -/
def steamLinesWrong : ChangeSpec := { name := "steamLines", fn := fun _ => fun
  | [d1, d2, d3, d4] => { results := [.lit (.bool false)], args := [d1, d2, d3, d4] }
  | _ => none }
def SteamLinesWrongFalsely : Prop := steamLinesRow.holds Try.pinned (OpenSpec.ofChange steamLinesWrong)

/-- 'fumarolelaw01.SteamHeats': WHATEVER THE INPUT: true; the input reads as it did. -/
def steamHeatsSpec : ChangeSpec := { name := "steamHeats", fn := fun _ => fun
  | [d1, d2, d3] => { results := [.lit (.bool true)], args := [d1, d2, d3] }
  | _ => none }
def steamHeatsRow : OpenClaim := { program := "ytenpbiineblcjaa", sum := "87e866eec0f6b56a002a9f1d1d3e8bb543055716783218f4f7c5b292b9699484", func := "fumarole/fumarolelaw01.SteamHeats", spec := "steamHeats", unfollowed := true, recurses := true, apart := false }
def SteamHeatsSaid : Prop := steamHeatsRow.holds Try.pinned (OpenSpec.ofChange steamHeatsSpec)

/-- ITS FALSE NEIGHBOUR: 'it returns false'. Refute it at one input. -/
def steamHeatsWrong : ChangeSpec := { name := "steamHeats", fn := fun _ => fun
  | [d1, d2, d3] => { results := [.lit (.bool false)], args := [d1, d2, d3] }
  | _ => none }
def SteamHeatsWrongFalsely : Prop := steamHeatsRow.holds Try.pinned (OpenSpec.ofChange steamHeatsWrong)

/-- 'fumarolelaw01.SteamTables': WHATEVER THE INPUT: true; the input reads as it did. -/
def steamTablesSpec : ChangeSpec := { name := "steamTables", fn := fun _ => fun
  | [d1, d2, d3, d4] => { results := [.lit (.bool true)], args := [d1, d2, d3, d4] }
  | _ => none }
def steamTablesRow : OpenClaim := { program := "ytenpbiineblcjaa", sum := "87e866eec0f6b56a002a9f1d1d3e8bb543055716783218f4f7c5b292b9699484", func := "fumarole/fumarolelaw01.SteamTables", spec := "steamTables", unfollowed := true, recurses := true, apart := false }
def SteamTablesSaid : Prop := steamTablesRow.holds Try.pinned (OpenSpec.ofChange steamTablesSpec)

/-- ITS FALSE NEIGHBOUR: 'it returns false'. Refute it at one input. -/
def steamTablesWrong : ChangeSpec := { name := "steamTables", fn := fun _ => fun
  | [d1, d2, d3, d4] => { results := [.lit (.bool false)], args := [d1, d2, d3, d4] }
  | _ => none }
def SteamTablesWrongFalsely : Prop := steamTablesRow.holds Try.pinned (OpenSpec.ofChange steamTablesWrong)

/-- 'fumarolelaw01.SteamFlashes': WHATEVER THE INPUT: true; the input reads as it did. -/
def steamFlashesSpec : ChangeSpec := { name := "steamFlashes", fn := fun _ => fun
  | [d1, d2, d3, d4] => { results := [.lit (.bool true)], args := [d1, d2, d3, d4] }
  | _ => none }
def steamFlashesRow : OpenClaim := { program := "ytenpbiineblcjaa", sum := "87e866eec0f6b56a002a9f1d1d3e8bb543055716783218f4f7c5b292b9699484", func := "fumarole/fumarolelaw01.SteamFlashes", spec := "steamFlashes", unfollowed := true, recurses := true, apart := false }
def SteamFlashesSaid : Prop := steamFlashesRow.holds Try.pinned (OpenSpec.ofChange steamFlashesSpec)

/-- ITS FALSE NEIGHBOUR: 'it returns false'. Refute it at one input. -/
def steamFlashesWrong : ChangeSpec := { name := "steamFlashes", fn := fun _ => fun
  | [d1, d2, d3, d4] => { results := [.lit (.bool false)], args := [d1, d2, d3, d4] }
  | _ => none }
def SteamFlashesWrongFalsely : Prop := steamFlashesRow.holds Try.pinned (OpenSpec.ofChange steamFlashesWrong)

/-- 'fumarolelaw01.SteamSteps': WHATEVER THE INPUT: true; the input reads as it did. -/
def steamStepsSpec : ChangeSpec := { name := "steamSteps", fn := fun _ => fun
  | [d1, d2, d3, d4] => { results := [.lit (.bool true)], args := [d1, d2, d3, d4] }
  | _ => none }
def steamStepsRow : OpenClaim := { program := "ytenpbiineblcjaa", sum := "87e866eec0f6b56a002a9f1d1d3e8bb543055716783218f4f7c5b292b9699484", func := "fumarole/fumarolelaw01.SteamSteps", spec := "steamSteps", unfollowed := true, recurses := true, apart := false }
def SteamStepsSaid : Prop := steamStepsRow.holds Try.pinned (OpenSpec.ofChange steamStepsSpec)

/-- ITS FALSE NEIGHBOUR: 'it returns false'. Refute it at one input. -/
def steamStepsWrong : ChangeSpec := { name := "steamSteps", fn := fun _ => fun
  | [d1, d2, d3, d4] => { results := [.lit (.bool false)], args := [d1, d2, d3, d4] }
  | _ => none }
def SteamStepsWrongFalsely : Prop := steamStepsRow.holds Try.pinned (OpenSpec.ofChange steamStepsWrong)

/-- 'fumarolelaw01.SteamKeeps': WHATEVER THE INPUT: true; the input reads as it did. -/
def steamKeepsSpec : ChangeSpec := { name := "steamKeeps", fn := fun _ => fun
  | [d1, d2, d3, d4] => { results := [.lit (.bool true)], args := [d1, d2, d3, d4] }
  | _ => none }
def steamKeepsRow : OpenClaim := { program := "ytenpbiineblcjaa", sum := "87e866eec0f6b56a002a9f1d1d3e8bb543055716783218f4f7c5b292b9699484", func := "fumarole/fumarolelaw01.SteamKeeps", spec := "steamKeeps", unfollowed := true, recurses := true, apart := false }
def SteamKeepsSaid : Prop := steamKeepsRow.holds Try.pinned (OpenSpec.ofChange steamKeepsSpec)

/-- ITS FALSE NEIGHBOUR: 'it returns false'. Refute it at one input. -/
def steamKeepsWrong : ChangeSpec := { name := "steamKeeps", fn := fun _ => fun
  | [d1, d2, d3, d4] => { results := [.lit (.bool false)], args := [d1, d2, d3, d4] }
  | _ => none }
def SteamKeepsWrongFalsely : Prop := steamKeepsRow.holds Try.pinned (OpenSpec.ofChange steamKeepsWrong)

/-- 'fumarolelaw01.SteamNames': WHATEVER THE INPUT: true; the input reads as it did. -/
def steamNamesSpec : ChangeSpec := { name := "steamNames", fn := fun _ => fun
  | [] => { results := [.lit (.bool true)], args := [] }
  | _ => none }
def steamNamesRow : OpenClaim := { program := "ytenpbiineblcjaa", sum := "87e866eec0f6b56a002a9f1d1d3e8bb543055716783218f4f7c5b292b9699484", func := "fumarole/fumarolelaw01.SteamNames", spec := "steamNames", unfollowed := true, recurses := true, apart := false }
def SteamNamesSaid : Prop := steamNamesRow.holds Try.pinned (OpenSpec.ofChange steamNamesSpec)

/-- ITS FALSE NEIGHBOUR: 'it returns false'. Refute it at one input. -/
def steamNamesWrong : ChangeSpec := { name := "steamNames", fn := fun _ => fun
  | [] => { results := [.lit (.bool false)], args := [] }
  | _ => none }
def SteamNamesWrongFalsely : Prop := steamNamesRow.holds Try.pinned (OpenSpec.ofChange steamNamesWrong)

/- THE SECOND FORM. 'bulk': how many values and letters a reading holds, each counted each time it is reached (what is shared counts as often as it is met; a slice's spare places count too). A statement '..UptoSaid' is the law's where the arguments, and the package variables that the reading takes, are together of bulk at most 1048576: NARROWER than '..Said'. Prove '..Said' where nothing that the law and all that it calls make is longer than what came in: it says more and counts as full. Else prove '..UptoSaid'. A law counts once. -/
mutual
def uptoBulk {H : Type} : DataW H → Nat
  | .lit (.string bytes) => bytes.length + 1
  | .lit _ => 1
  | .nil => 1
  | .ptr d => uptoBulk d + 1
  | .slice elems spare => uptoBulkAll elems + uptoBulkAll spare + 1
  | .agg parts => uptoBulkAll parts + 1
  | .iface _ d => uptoBulk d + 1
  | .map entries => uptoBulkEntries entries + 1
  | .held _ => 1
def uptoBulkAll {H : Type} : List (DataW H) → Nat
  | [] => 0
  | d :: r => uptoBulk d + uptoBulkAll r
def uptoBulkEntries {H : Type} : List (Lit × DataW H) → Nat
  | [] => 0
  | x :: r => uptoBulkEntry x + uptoBulkEntries r
def uptoBulkEntry {H : Type} : Lit × DataW H → Nat
  | (.string bytes, d) => bytes.length + uptoBulk d + 1
  | (_, d) => uptoBulk d + 1
 end
def uptoSmall : (H : Type) → List (DataW H) → Bool := fun _ ds => decide (uptoBulkAll ds ≤ 1048576)
def OpenSpec.upto (s : _root_.Go.ChangeSpec) : _root_.Go.OpenSpec := { _root_.Go.OpenSpec.ofChange s with cond := some uptoSmall }

/-- 'fumarolelaw01.SteamDeepest', WHERE WHAT IT READS IS OF BULK AT MOST 1048576: true; the input reads as it did. -/
def steamDeepestUptoRow : OpenClaim := { program := "ytenpbiineblcjaa", sum := "87e866eec0f6b56a002a9f1d1d3e8bb543055716783218f4f7c5b292b9699484", func := "fumarole/fumarolelaw01.SteamDeepest", spec := "steamDeepest", unfollowed := true, recurses := true, apart := false, narrowed := true }
def SteamDeepestUptoSaid : Prop := steamDeepestUptoRow.holds Try.pinned (OpenSpec.upto steamDeepestSpec)

/-- 'fumarolelaw01.SteamMore', WHERE WHAT IT READS IS OF BULK AT MOST 1048576: true; the input reads as it did. -/
def steamMoreUptoRow : OpenClaim := { program := "ytenpbiineblcjaa", sum := "87e866eec0f6b56a002a9f1d1d3e8bb543055716783218f4f7c5b292b9699484", func := "fumarole/fumarolelaw01.SteamMore", spec := "steamMore", unfollowed := true, recurses := true, apart := false, narrowed := true }
def SteamMoreUptoSaid : Prop := steamMoreUptoRow.holds Try.pinned (OpenSpec.upto steamMoreSpec)

/-- 'fumarolelaw01.SteamSafe', WHERE WHAT IT READS IS OF BULK AT MOST 1048576: true; the input reads as it did. -/
def steamSafeUptoRow : OpenClaim := { program := "ytenpbiineblcjaa", sum := "87e866eec0f6b56a002a9f1d1d3e8bb543055716783218f4f7c5b292b9699484", func := "fumarole/fumarolelaw01.SteamSafe", spec := "steamSafe", unfollowed := true, recurses := true, apart := false, narrowed := true }
def SteamSafeUptoSaid : Prop := steamSafeUptoRow.holds Try.pinned (OpenSpec.upto steamSafeSpec)

/-- 'fumarolelaw01.SteamFair', WHERE WHAT IT READS IS OF BULK AT MOST 1048576: true; the input reads as it did. -/
def steamFairUptoRow : OpenClaim := { program := "ytenpbiineblcjaa", sum := "87e866eec0f6b56a002a9f1d1d3e8bb543055716783218f4f7c5b292b9699484", func := "fumarole/fumarolelaw01.SteamFair", spec := "steamFair", unfollowed := true, recurses := true, apart := false, narrowed := true }
def SteamFairUptoSaid : Prop := steamFairUptoRow.holds Try.pinned (OpenSpec.upto steamFairSpec)

/-- 'fumarolelaw01.SteamMixes', WHERE WHAT IT READS IS OF BULK AT MOST 1048576: true; the input reads as it did. -/
def steamMixesUptoRow : OpenClaim := { program := "ytenpbiineblcjaa", sum := "87e866eec0f6b56a002a9f1d1d3e8bb543055716783218f4f7c5b292b9699484", func := "fumarole/fumarolelaw01.SteamMixes", spec := "steamMixes", unfollowed := true, recurses := true, apart := false, narrowed := true }
def SteamMixesUptoSaid : Prop := steamMixesUptoRow.holds Try.pinned (OpenSpec.upto steamMixesSpec)

/-- 'fumarolelaw01.SteamBounds', WHERE WHAT IT READS IS OF BULK AT MOST 1048576: true; the input reads as it did. -/
def steamBoundsUptoRow : OpenClaim := { program := "ytenpbiineblcjaa", sum := "87e866eec0f6b56a002a9f1d1d3e8bb543055716783218f4f7c5b292b9699484", func := "fumarole/fumarolelaw01.SteamBounds", spec := "steamBounds", unfollowed := true, recurses := true, apart := false, narrowed := true }
def SteamBoundsUptoSaid : Prop := steamBoundsUptoRow.holds Try.pinned (OpenSpec.upto steamBoundsSpec)

/-- 'fumarolelaw01.SteamWithin', WHERE WHAT IT READS IS OF BULK AT MOST 1048576: true; the input reads as it did. -/
def steamWithinUptoRow : OpenClaim := { program := "ytenpbiineblcjaa", sum := "87e866eec0f6b56a002a9f1d1d3e8bb543055716783218f4f7c5b292b9699484", func := "fumarole/fumarolelaw01.SteamWithin", spec := "steamWithin", unfollowed := true, recurses := true, apart := false, narrowed := true }
def SteamWithinUptoSaid : Prop := steamWithinUptoRow.holds Try.pinned (OpenSpec.upto steamWithinSpec)

/-- 'fumarolelaw01.SteamLines', WHERE WHAT IT READS IS OF BULK AT MOST 1048576: true; the input reads as it did. -/
def steamLinesUptoRow : OpenClaim := { program := "ytenpbiineblcjaa", sum := "87e866eec0f6b56a002a9f1d1d3e8bb543055716783218f4f7c5b292b9699484", func := "fumarole/fumarolelaw01.SteamLines", spec := "steamLines", unfollowed := true, recurses := true, apart := false, narrowed := true }
def SteamLinesUptoSaid : Prop := steamLinesUptoRow.holds Try.pinned (OpenSpec.upto steamLinesSpec)

/-- 'fumarolelaw01.SteamHeats', WHERE WHAT IT READS IS OF BULK AT MOST 1048576: true; the input reads as it did. -/
def steamHeatsUptoRow : OpenClaim := { program := "ytenpbiineblcjaa", sum := "87e866eec0f6b56a002a9f1d1d3e8bb543055716783218f4f7c5b292b9699484", func := "fumarole/fumarolelaw01.SteamHeats", spec := "steamHeats", unfollowed := true, recurses := true, apart := false, narrowed := true }
def SteamHeatsUptoSaid : Prop := steamHeatsUptoRow.holds Try.pinned (OpenSpec.upto steamHeatsSpec)

/-- 'fumarolelaw01.SteamTables', WHERE WHAT IT READS IS OF BULK AT MOST 1048576: true; the input reads as it did. -/
def steamTablesUptoRow : OpenClaim := { program := "ytenpbiineblcjaa", sum := "87e866eec0f6b56a002a9f1d1d3e8bb543055716783218f4f7c5b292b9699484", func := "fumarole/fumarolelaw01.SteamTables", spec := "steamTables", unfollowed := true, recurses := true, apart := false, narrowed := true }
def SteamTablesUptoSaid : Prop := steamTablesUptoRow.holds Try.pinned (OpenSpec.upto steamTablesSpec)

/-- 'fumarolelaw01.SteamFlashes', WHERE WHAT IT READS IS OF BULK AT MOST 1048576: true; the input reads as it did. -/
def steamFlashesUptoRow : OpenClaim := { program := "ytenpbiineblcjaa", sum := "87e866eec0f6b56a002a9f1d1d3e8bb543055716783218f4f7c5b292b9699484", func := "fumarole/fumarolelaw01.SteamFlashes", spec := "steamFlashes", unfollowed := true, recurses := true, apart := false, narrowed := true }
def SteamFlashesUptoSaid : Prop := steamFlashesUptoRow.holds Try.pinned (OpenSpec.upto steamFlashesSpec)

/-- 'fumarolelaw01.SteamSteps', WHERE WHAT IT READS IS OF BULK AT MOST 1048576: true; the input reads as it did. -/
def steamStepsUptoRow : OpenClaim := { program := "ytenpbiineblcjaa", sum := "87e866eec0f6b56a002a9f1d1d3e8bb543055716783218f4f7c5b292b9699484", func := "fumarole/fumarolelaw01.SteamSteps", spec := "steamSteps", unfollowed := true, recurses := true, apart := false, narrowed := true }
def SteamStepsUptoSaid : Prop := steamStepsUptoRow.holds Try.pinned (OpenSpec.upto steamStepsSpec)

/-- 'fumarolelaw01.SteamKeeps', WHERE WHAT IT READS IS OF BULK AT MOST 1048576: true; the input reads as it did. -/
def steamKeepsUptoRow : OpenClaim := { program := "ytenpbiineblcjaa", sum := "87e866eec0f6b56a002a9f1d1d3e8bb543055716783218f4f7c5b292b9699484", func := "fumarole/fumarolelaw01.SteamKeeps", spec := "steamKeeps", unfollowed := true, recurses := true, apart := false, narrowed := true }
def SteamKeepsUptoSaid : Prop := steamKeepsUptoRow.holds Try.pinned (OpenSpec.upto steamKeepsSpec)

/-- 'fumarolelaw01.SteamNames', WHERE WHAT IT READS IS OF BULK AT MOST 1048576: true; the input reads as it did. -/
def steamNamesUptoRow : OpenClaim := { program := "ytenpbiineblcjaa", sum := "87e866eec0f6b56a002a9f1d1d3e8bb543055716783218f4f7c5b292b9699484", func := "fumarole/fumarolelaw01.SteamNames", spec := "steamNames", unfollowed := true, recurses := true, apart := false, narrowed := true }
def SteamNamesUptoSaid : Prop := steamNamesUptoRow.holds Try.pinned (OpenSpec.upto steamNamesSpec)

end Rows
end Go.Proofs.Ytenpbiineblcjaa
