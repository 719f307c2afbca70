/-
  No cell of these rows narrows 'for every input' (looked for: loops, veiled, ifaces, maps, wideKeys, modest, calm, conditions, laid).
  DERIVED. THE GIVEN ROWS OF THIS SEAT. 11 by the template 'for every input the law returns true; each argument reads behind the call as it read before'; 0 by the template 'total and deterministic' (their statements: YtmbhnllcfmiajaaGreatTotals.lean).
  GIVEN WITH THE SEED: the statements are not yours to turn. If you find one false, say at which input.
  Laid BY PROGRAM, IN A SANDBOX (cutbox-rows.mjs): the forced cells as the released guide's own fill.sh prints them over the translation 081505837652b321… (all of the seat's roots in one cut). By AI agents, Wed Nov 11 2026. No macro, syntax, notation, axiom, sorry.
-/
import Derived.Test.YtmbhnllcfmiajaaGreatChecked
import GoSem.Claim
import GoSem.ClaimJoined
import GoSem.ClaimMapViews
import Derived.JoinedTies
import Derived.KernelRfl
namespace Go.Proofs.YtmbhnllcfmiajaaGreat
/- THE CELL 'sum', in the pinned program and in every row, IS THE sha256 OF THE DUMP (.gsa) THAT YtmbhnllcfmiajaaGreatProg.lean LOADS. Nothing in Lean hashes anything: it is a label: what it is worth is what the hold of that sum in a sandbox is worth. -/
noncomputable def Tryz.pinned : Pinned := { name := "ytmbhnllcfmiajaagreat", sum := "081505837652b321c121d10ff783fc6c8b38faf348ba9d923e34a0acbd2b9331", checked := Tryz.checked }
namespace Rows
def none {H : Type} : Left H := { results := [], args := [] }

/-- 'fumarolelaw06.PipeTicks': WHATEVER THE INPUT: true; the input reads as it did. -/
def pipeTicksSpec : ChangeSpec := { name := "pipeTicks", fn := fun _ => fun
  | [d1, d2, d3] => { results := [.lit (.bool true)], args := [d1, d2, d3] }
  | _ => none }
def pipeTicksRow : OpenClaim := { program := "ytmbhnllcfmiajaagreat", sum := "081505837652b321c121d10ff783fc6c8b38faf348ba9d923e34a0acbd2b9331", func := "fumarole/fumarolelaw06.PipeTicks", spec := "pipeTicks", unfollowed := true, recurses := true, plainKeys := false, apart := false }
def PipeTicksSaid : Prop := pipeTicksRow.holds Tryz.pinned (OpenSpec.ofChange pipeTicksSpec)

/-- ITS FALSE NEIGHBOUR: 'it returns false'. Refute it at one input. -/
def pipeTicksWrong : ChangeSpec := { name := "pipeTicks", fn := fun _ => fun
  | [d1, d2, d3] => { results := [.lit (.bool false)], args := [d1, d2, d3] }
  | _ => none }
def PipeTicksWrongFalsely : Prop := pipeTicksRow.holds Tryz.pinned (OpenSpec.ofChange pipeTicksWrong)

/-- 'fumarolelaw06.PipePasses': WHATEVER THE INPUT: true; the input reads as it did. -/
def pipePassesSpec : ChangeSpec := { name := "pipePasses", fn := fun _ => fun
  | [d1, d2, d3, d4, d5] => { results := [.lit (.bool true)], args := [d1, d2, d3, d4, d5] }
  | _ => none }
def pipePassesRow : OpenClaim := { program := "ytmbhnllcfmiajaagreat", sum := "081505837652b321c121d10ff783fc6c8b38faf348ba9d923e34a0acbd2b9331", func := "fumarole/fumarolelaw06.PipePasses", spec := "pipePasses", unfollowed := true, recurses := true, plainKeys := false, apart := false }
def PipePassesSaid : Prop := pipePassesRow.holds Tryz.pinned (OpenSpec.ofChange pipePassesSpec)

/-- ITS FALSE NEIGHBOUR: 'it returns false'. Refute it at one input. -/
def pipePassesWrong : ChangeSpec := { name := "pipePasses", fn := fun _ => fun
  | [d1, d2, d3, d4, d5] => { results := [.lit (.bool false)], args := [d1, d2, d3, d4, d5] }
  | _ => none }
def PipePassesWrongFalsely : Prop := pipePassesRow.holds Tryz.pinned (OpenSpec.ofChange pipePassesWrong)

/-- 'fumarolelaw06.PipeLives': WHATEVER THE INPUT: true; the input reads as it did. -/
def pipeLivesSpec : ChangeSpec := { name := "pipeLives", fn := fun _ => fun
  | [d1, d2, d3, d4] => { results := [.lit (.bool true)], args := [d1, d2, d3, d4] }
  | _ => none }
def pipeLivesRow : OpenClaim := { program := "ytmbhnllcfmiajaagreat", sum := "081505837652b321c121d10ff783fc6c8b38faf348ba9d923e34a0acbd2b9331", func := "fumarole/fumarolelaw06.PipeLives", spec := "pipeLives", unfollowed := true, recurses := true, plainKeys := false, apart := false }
def PipeLivesSaid : Prop := pipeLivesRow.holds Tryz.pinned (OpenSpec.ofChange pipeLivesSpec)

/-- ITS FALSE NEIGHBOUR: 'it returns false'. Refute it at one input. -/
def pipeLivesWrong : ChangeSpec := { name := "pipeLives", fn := fun _ => fun
  | [d1, d2, d3, d4] => { results := [.lit (.bool false)], args := [d1, d2, d3, d4] }
  | _ => none }
def PipeLivesWrongFalsely : Prop := pipeLivesRow.holds Tryz.pinned (OpenSpec.ofChange pipeLivesWrong)

/-- 'fumarolelaw06.PipeSets': WHATEVER THE INPUT: true; the input reads as it did. -/
def pipeSetsSpec : ChangeSpec := { name := "pipeSets", fn := fun _ => fun
  | [d1, d2] => { results := [.lit (.bool true)], args := [d1, d2] }
  | _ => none }
def pipeSetsRow : OpenClaim := { program := "ytmbhnllcfmiajaagreat", sum := "081505837652b321c121d10ff783fc6c8b38faf348ba9d923e34a0acbd2b9331", func := "fumarole/fumarolelaw06.PipeSets", spec := "pipeSets", unfollowed := true, recurses := true, plainKeys := false, apart := false }
def PipeSetsSaid : Prop := pipeSetsRow.holds Tryz.pinned (OpenSpec.ofChange pipeSetsSpec)

/-- ITS FALSE NEIGHBOUR: 'it returns false'. Refute it at one input. -/
def pipeSetsWrong : ChangeSpec := { name := "pipeSets", fn := fun _ => fun
  | [d1, d2] => { results := [.lit (.bool false)], args := [d1, d2] }
  | _ => none }
def PipeSetsWrongFalsely : Prop := pipeSetsRow.holds Tryz.pinned (OpenSpec.ofChange pipeSetsWrong)

/-- 'fumarolelaw06.PipeNarrows': WHATEVER THE INPUT: true; the input reads as it did. -/
def pipeNarrowsSpec : ChangeSpec := { name := "pipeNarrows", fn := fun _ => fun
  | [d1, d2, d3, d4] => { results := [.lit (.bool true)], args := [d1, d2, d3, d4] }
  | _ => none }
def pipeNarrowsRow : OpenClaim := { program := "ytmbhnllcfmiajaagreat", sum := "081505837652b321c121d10ff783fc6c8b38faf348ba9d923e34a0acbd2b9331", func := "fumarole/fumarolelaw06.PipeNarrows", spec := "pipeNarrows", unfollowed := true, recurses := true, plainKeys := false, apart := false }
def PipeNarrowsSaid : Prop := pipeNarrowsRow.holds Tryz.pinned (OpenSpec.ofChange pipeNarrowsSpec)

/-- ITS FALSE NEIGHBOUR: 'it returns false'. Refute it at one input. -/
def pipeNarrowsWrong : ChangeSpec := { name := "pipeNarrows", fn := fun _ => fun
  | [d1, d2, d3, d4] => { results := [.lit (.bool false)], args := [d1, d2, d3, d4] }
  | _ => none }
def PipeNarrowsWrongFalsely : Prop := pipeNarrowsRow.holds Tryz.pinned (OpenSpec.ofChange pipeNarrowsWrong)

/-- 'fumarolelaw06.PipeAccounts': WHATEVER THE INPUT: true; the input reads as it did. -/
def pipeAccountsSpec : ChangeSpec := { name := "pipeAccounts", fn := fun _ => fun
  | [d1, d2, d3] => { results := [.lit (.bool true)], args := [d1, d2, d3] }
  | _ => none }
def pipeAccountsRow : OpenClaim := { program := "ytmbhnllcfmiajaagreat", sum := "081505837652b321c121d10ff783fc6c8b38faf348ba9d923e34a0acbd2b9331", func := "fumarole/fumarolelaw06.PipeAccounts", spec := "pipeAccounts", unfollowed := true, recurses := true, plainKeys := false, apart := false }
def PipeAccountsSaid : Prop := pipeAccountsRow.holds Tryz.pinned (OpenSpec.ofChange pipeAccountsSpec)

/-- ITS FALSE NEIGHBOUR: 'it returns false'. Refute it at one input. -/
def pipeAccountsWrong : ChangeSpec := { name := "pipeAccounts", fn := fun _ => fun
  | [d1, d2, d3] => { results := [.lit (.bool false)], args := [d1, d2, d3] }
  | _ => none }
def PipeAccountsWrongFalsely : Prop := pipeAccountsRow.holds Tryz.pinned (OpenSpec.ofChange pipeAccountsWrong)

/-- 'fumarolelaw06.PipeCovers': WHATEVER THE INPUT: true; the input reads as it did. -/
def pipeCoversSpec : ChangeSpec := { name := "pipeCovers", fn := fun _ => fun
  | [d1, d2, d3] => { results := [.lit (.bool true)], args := [d1, d2, d3] }
  | _ => none }
def pipeCoversRow : OpenClaim := { program := "ytmbhnllcfmiajaagreat", sum := "081505837652b321c121d10ff783fc6c8b38faf348ba9d923e34a0acbd2b9331", func := "fumarole/fumarolelaw06.PipeCovers", spec := "pipeCovers", unfollowed := true, recurses := true, plainKeys := false, apart := false }
def PipeCoversSaid : Prop := pipeCoversRow.holds Tryz.pinned (OpenSpec.ofChange pipeCoversSpec)

/-- ITS FALSE NEIGHBOUR: 'it returns false'. Refute it at one input. -/
def pipeCoversWrong : ChangeSpec := { name := "pipeCovers", fn := fun _ => fun
  | [d1, d2, d3] => { results := [.lit (.bool false)], args := [d1, d2, d3] }
  | _ => none }
def PipeCoversWrongFalsely : Prop := pipeCoversRow.holds Tryz.pinned (OpenSpec.ofChange pipeCoversWrong)

/-- 'fumarolelaw06.PipeCovered': WHATEVER THE INPUT: true; the input reads as it did. -/
def pipeCoveredSpec : ChangeSpec := { name := "pipeCovered", fn := fun _ => fun
  | [d1, d2, d3] => { results := [.lit (.bool true)], args := [d1, d2, d3] }
  | _ => none }
def pipeCoveredRow : OpenClaim := { program := "ytmbhnllcfmiajaagreat", sum := "081505837652b321c121d10ff783fc6c8b38faf348ba9d923e34a0acbd2b9331", func := "fumarole/fumarolelaw06.PipeCovered", spec := "pipeCovered", unfollowed := true, recurses := true, plainKeys := false, apart := false }
def PipeCoveredSaid : Prop := pipeCoveredRow.holds Tryz.pinned (OpenSpec.ofChange pipeCoveredSpec)

/-- ITS FALSE NEIGHBOUR: 'it returns false'. Refute it at one input. -/
def pipeCoveredWrong : ChangeSpec := { name := "pipeCovered", fn := fun _ => fun
  | [d1, d2, d3] => { results := [.lit (.bool false)], args := [d1, d2, d3] }
  | _ => none }
def PipeCoveredWrongFalsely : Prop := pipeCoveredRow.holds Tryz.pinned (OpenSpec.ofChange pipeCoveredWrong)

/-- 'fumarolelaw06.PipeBests': WHATEVER THE INPUT: true; the input reads as it did. -/
def pipeBestsSpec : ChangeSpec := { name := "pipeBests", fn := fun _ => fun
  | [d1, d2, d3] => { results := [.lit (.bool true)], args := [d1, d2, d3] }
  | _ => none }
def pipeBestsRow : OpenClaim := { program := "ytmbhnllcfmiajaagreat", sum := "081505837652b321c121d10ff783fc6c8b38faf348ba9d923e34a0acbd2b9331", func := "fumarole/fumarolelaw06.PipeBests", spec := "pipeBests", unfollowed := true, recurses := true, plainKeys := false, apart := false }
def PipeBestsSaid : Prop := pipeBestsRow.holds Tryz.pinned (OpenSpec.ofChange pipeBestsSpec)

/-- ITS FALSE NEIGHBOUR: 'it returns false'. Refute it at one input. -/
def pipeBestsWrong : ChangeSpec := { name := "pipeBests", fn := fun _ => fun
  | [d1, d2, d3] => { results := [.lit (.bool false)], args := [d1, d2, d3] }
  | _ => none }
def PipeBestsWrongFalsely : Prop := pipeBestsRow.holds Tryz.pinned (OpenSpec.ofChange pipeBestsWrong)

/-- 'fumarolelaw06.PipeBetter': WHATEVER THE INPUT: true; the input reads as it did. -/
def pipeBetterSpec : ChangeSpec := { name := "pipeBetter", fn := fun _ => fun
  | [d1, d2, d3, d4] => { results := [.lit (.bool true)], args := [d1, d2, d3, d4] }
  | _ => none }
def pipeBetterRow : OpenClaim := { program := "ytmbhnllcfmiajaagreat", sum := "081505837652b321c121d10ff783fc6c8b38faf348ba9d923e34a0acbd2b9331", func := "fumarole/fumarolelaw06.PipeBetter", spec := "pipeBetter", unfollowed := true, recurses := true, plainKeys := false, apart := false }
def PipeBetterSaid : Prop := pipeBetterRow.holds Tryz.pinned (OpenSpec.ofChange pipeBetterSpec)

/-- ITS FALSE NEIGHBOUR: 'it returns false'. Refute it at one input. -/
def pipeBetterWrong : ChangeSpec := { name := "pipeBetter", fn := fun _ => fun
  | [d1, d2, d3, d4] => { results := [.lit (.bool false)], args := [d1, d2, d3, d4] }
  | _ => none }
def PipeBetterWrongFalsely : Prop := pipeBetterRow.holds Tryz.pinned (OpenSpec.ofChange pipeBetterWrong)

/-- 'fumarolelaw06.PipeNames': WHATEVER THE INPUT: true; the input reads as it did. -/
def pipeNamesSpec : ChangeSpec := { name := "pipeNames", fn := fun _ => fun
  | [] => { results := [.lit (.bool true)], args := [] }
  | _ => none }
def pipeNamesRow : OpenClaim := { program := "ytmbhnllcfmiajaagreat", sum := "081505837652b321c121d10ff783fc6c8b38faf348ba9d923e34a0acbd2b9331", func := "fumarole/fumarolelaw06.PipeNames", spec := "pipeNames", unfollowed := true, recurses := true, plainKeys := false, apart := false }
def PipeNamesSaid : Prop := pipeNamesRow.holds Tryz.pinned (OpenSpec.ofChange pipeNamesSpec)

/-- ITS FALSE NEIGHBOUR: 'it returns false'. Refute it at one input. -/
def pipeNamesWrong : ChangeSpec := { name := "pipeNames", fn := fun _ => fun
  | [] => { results := [.lit (.bool false)], args := [] }
  | _ => none }
def PipeNamesWrongFalsely : Prop := pipeNamesRow.holds Tryz.pinned (OpenSpec.ofChange pipeNamesWrong)

/- THE SECOND FORM. 'bulk': how many values and letters a reading holds, each counted each time it is reached (what is shared counts as often as it is met; a slice's spare places count too). A statement '..UptoSaid' is the law's where the arguments, and the package variables that the reading takes, are together of bulk at most 1048576: NARROWER than '..Said'. Prove '..Said' where nothing that the law and all that it calls make is longer than what came in: it says more and counts as full. Else prove '..UptoSaid'. A law counts once. -/
mutual
def uptoBulk {H : Type} : DataW H → Nat
  | .lit (.string bytes) => bytes.length + 1
  | .lit _ => 1
  | .nil => 1
  | .ptr d => uptoBulk d + 1
  | .slice elems spare => uptoBulkAll elems + uptoBulkAll spare + 1
  | .agg parts => uptoBulkAll parts + 1
  | .iface _ d => uptoBulk d + 1
  | .map entries => uptoBulkEntries entries + 1
  | .held _ => 1
def uptoBulkAll {H : Type} : List (DataW H) → Nat
  | [] => 0
  | d :: r => uptoBulk d + uptoBulkAll r
def uptoBulkEntries {H : Type} : List (Lit × DataW H) → Nat
  | [] => 0
  | x :: r => uptoBulkEntry x + uptoBulkEntries r
def uptoBulkEntry {H : Type} : Lit × DataW H → Nat
  | (.string bytes, d) => bytes.length + uptoBulk d + 1
  | (_, d) => uptoBulk d + 1
 end
def uptoSmall : (H : Type) → List (DataW H) → Bool := fun _ ds => decide (uptoBulkAll ds ≤ 1048576)
def OpenSpec.upto (s : _root_.Go.ChangeSpec) : _root_.Go.OpenSpec := { _root_.Go.OpenSpec.ofChange s with cond := some uptoSmall }

/-- 'fumarolelaw06.PipeTicks', WHERE WHAT IT READS IS OF BULK AT MOST 1048576: true; the input reads as it did. -/
def pipeTicksUptoRow : OpenClaim := { program := "ytmbhnllcfmiajaagreat", sum := "081505837652b321c121d10ff783fc6c8b38faf348ba9d923e34a0acbd2b9331", func := "fumarole/fumarolelaw06.PipeTicks", spec := "pipeTicks", unfollowed := true, recurses := true, plainKeys := false, apart := false, narrowed := true }
def PipeTicksUptoSaid : Prop := pipeTicksUptoRow.holds Tryz.pinned (OpenSpec.upto pipeTicksSpec)

/-- 'fumarolelaw06.PipePasses', WHERE WHAT IT READS IS OF BULK AT MOST 1048576: true; the input reads as it did. -/
def pipePassesUptoRow : OpenClaim := { program := "ytmbhnllcfmiajaagreat", sum := "081505837652b321c121d10ff783fc6c8b38faf348ba9d923e34a0acbd2b9331", func := "fumarole/fumarolelaw06.PipePasses", spec := "pipePasses", unfollowed := true, recurses := true, plainKeys := false, apart := false, narrowed := true }
def PipePassesUptoSaid : Prop := pipePassesUptoRow.holds Tryz.pinned (OpenSpec.upto pipePassesSpec)

/-- 'fumarolelaw06.PipeLives', WHERE WHAT IT READS IS OF BULK AT MOST 1048576: true; the input reads as it did. -/
def pipeLivesUptoRow : OpenClaim := { program := "ytmbhnllcfmiajaagreat", sum := "081505837652b321c121d10ff783fc6c8b38faf348ba9d923e34a0acbd2b9331", func := "fumarole/fumarolelaw06.PipeLives", spec := "pipeLives", unfollowed := true, recurses := true, plainKeys := false, apart := false, narrowed := true }
def PipeLivesUptoSaid : Prop := pipeLivesUptoRow.holds Tryz.pinned (OpenSpec.upto pipeLivesSpec)

/-- 'fumarolelaw06.PipeSets', WHERE WHAT IT READS IS OF BULK AT MOST 1048576: true; the input reads as it did. -/
def pipeSetsUptoRow : OpenClaim := { program := "ytmbhnllcfmiajaagreat", sum := "081505837652b321c121d10ff783fc6c8b38faf348ba9d923e34a0acbd2b9331", func := "fumarole/fumarolelaw06.PipeSets", spec := "pipeSets", unfollowed := true, recurses := true, plainKeys := false, apart := false, narrowed := true }
def PipeSetsUptoSaid : Prop := pipeSetsUptoRow.holds Tryz.pinned (OpenSpec.upto pipeSetsSpec)

/-- 'fumarolelaw06.PipeNarrows', WHERE WHAT IT READS IS OF BULK AT MOST 1048576: true; the input reads as it did. -/
def pipeNarrowsUptoRow : OpenClaim := { program := "ytmbhnllcfmiajaagreat", sum := "081505837652b321c121d10ff783fc6c8b38faf348ba9d923e34a0acbd2b9331", func := "fumarole/fumarolelaw06.PipeNarrows", spec := "pipeNarrows", unfollowed := true, recurses := true, plainKeys := false, apart := false, narrowed := true }
def PipeNarrowsUptoSaid : Prop := pipeNarrowsUptoRow.holds Tryz.pinned (OpenSpec.upto pipeNarrowsSpec)

/-- 'fumarolelaw06.PipeAccounts', WHERE WHAT IT READS IS OF BULK AT MOST 1048576: true; the input reads as it did. -/
def pipeAccountsUptoRow : OpenClaim := { program := "ytmbhnllcfmiajaagreat", sum := "081505837652b321c121d10ff783fc6c8b38faf348ba9d923e34a0acbd2b9331", func := "fumarole/fumarolelaw06.PipeAccounts", spec := "pipeAccounts", unfollowed := true, recurses := true, plainKeys := false, apart := false, narrowed := true }
def PipeAccountsUptoSaid : Prop := pipeAccountsUptoRow.holds Tryz.pinned (OpenSpec.upto pipeAccountsSpec)

/-- 'fumarolelaw06.PipeCovers', WHERE WHAT IT READS IS OF BULK AT MOST 1048576: true; the input reads as it did. -/
def pipeCoversUptoRow : OpenClaim := { program := "ytmbhnllcfmiajaagreat", sum := "081505837652b321c121d10ff783fc6c8b38faf348ba9d923e34a0acbd2b9331", func := "fumarole/fumarolelaw06.PipeCovers", spec := "pipeCovers", unfollowed := true, recurses := true, plainKeys := false, apart := false, narrowed := true }
def PipeCoversUptoSaid : Prop := pipeCoversUptoRow.holds Tryz.pinned (OpenSpec.upto pipeCoversSpec)

/-- 'fumarolelaw06.PipeCovered', WHERE WHAT IT READS IS OF BULK AT MOST 1048576: true; the input reads as it did. -/
def pipeCoveredUptoRow : OpenClaim := { program := "ytmbhnllcfmiajaagreat", sum := "081505837652b321c121d10ff783fc6c8b38faf348ba9d923e34a0acbd2b9331", func := "fumarole/fumarolelaw06.PipeCovered", spec := "pipeCovered", unfollowed := true, recurses := true, plainKeys := false, apart := false, narrowed := true }
def PipeCoveredUptoSaid : Prop := pipeCoveredUptoRow.holds Tryz.pinned (OpenSpec.upto pipeCoveredSpec)

/-- 'fumarolelaw06.PipeBests', WHERE WHAT IT READS IS OF BULK AT MOST 1048576: true; the input reads as it did. -/
def pipeBestsUptoRow : OpenClaim := { program := "ytmbhnllcfmiajaagreat", sum := "081505837652b321c121d10ff783fc6c8b38faf348ba9d923e34a0acbd2b9331", func := "fumarole/fumarolelaw06.PipeBests", spec := "pipeBests", unfollowed := true, recurses := true, plainKeys := false, apart := false, narrowed := true }
def PipeBestsUptoSaid : Prop := pipeBestsUptoRow.holds Tryz.pinned (OpenSpec.upto pipeBestsSpec)

/-- 'fumarolelaw06.PipeBetter', WHERE WHAT IT READS IS OF BULK AT MOST 1048576: true; the input reads as it did. -/
def pipeBetterUptoRow : OpenClaim := { program := "ytmbhnllcfmiajaagreat", sum := "081505837652b321c121d10ff783fc6c8b38faf348ba9d923e34a0acbd2b9331", func := "fumarole/fumarolelaw06.PipeBetter", spec := "pipeBetter", unfollowed := true, recurses := true, plainKeys := false, apart := false, narrowed := true }
def PipeBetterUptoSaid : Prop := pipeBetterUptoRow.holds Tryz.pinned (OpenSpec.upto pipeBetterSpec)

/-- 'fumarolelaw06.PipeNames', WHERE WHAT IT READS IS OF BULK AT MOST 1048576: true; the input reads as it did. -/
def pipeNamesUptoRow : OpenClaim := { program := "ytmbhnllcfmiajaagreat", sum := "081505837652b321c121d10ff783fc6c8b38faf348ba9d923e34a0acbd2b9331", func := "fumarole/fumarolelaw06.PipeNames", spec := "pipeNames", unfollowed := true, recurses := true, plainKeys := false, apart := false, narrowed := true }
def PipeNamesUptoSaid : Prop := pipeNamesUptoRow.holds Tryz.pinned (OpenSpec.upto pipeNamesSpec)

end Rows
end Go.Proofs.YtmbhnllcfmiajaaGreat
