/-
  No cell of these rows narrows 'for every input' (looked for: loops, veiled, ifaces, maps, wideKeys, modest, calm, conditions, laid).
  DERIVED. THE GIVEN ROWS OF THIS SEAT. 17 by the template 'for every input the law returns true; each argument reads behind the call as it read before'; 0 by the template 'total and deterministic' (their statements: YtgdepcgbjjgnfaaTotals.lean).
  GIVEN WITH THE SEED: the statements are not yours to turn. If you find one false, say at which input.
  Laid BY PROGRAM, IN A SANDBOX (cutbox-rows.mjs): the forced cells as the released guide's own fill.sh prints them over the translation d8e330c404d382b5… (all of the seat's roots in one cut). By AI agents, Wed Nov 11 2026. No macro, syntax, notation, axiom, sorry.
-/
import Derived.Test.YtgdepcgbjjgnfaaChecked
import GoSem.Claim
import GoSem.ClaimJoined
import GoSem.ClaimMapViews
import Derived.JoinedTies
import Derived.KernelRfl
namespace Go.Proofs.Ytgdepcgbjjgnfaa
/- THE CELL 'sum', in the pinned program and in every row, IS THE sha256 OF THE DUMP (.gsa) THAT YtgdepcgbjjgnfaaProg.lean LOADS. Nothing in Lean hashes anything: it is a label: what it is worth is what the hold of that sum in a sandbox is worth. -/
noncomputable def Try.pinned : Pinned := { name := "ytgdepcgbjjgnfaa", sum := "d8e330c404d382b5963ad44cb21f1a284cb1ed9072f45f2e0521b1459d23fc51", checked := Try.checked }
namespace Rows
def none {H : Type} : Left H := { results := [], args := [] }

/-- 'fumarolelaw10.TownServes': WHATEVER THE INPUT: true; the input reads as it did. -/
def townServesSpec : ChangeSpec := { name := "townServes", fn := fun _ => fun
  | [d1, d2, d3] => { results := [.lit (.bool true)], args := [d1, d2, d3] }
  | _ => none }
def townServesRow : OpenClaim := { program := "ytgdepcgbjjgnfaa", sum := "d8e330c404d382b5963ad44cb21f1a284cb1ed9072f45f2e0521b1459d23fc51", func := "fumarole/fumarolelaw10.TownServes", spec := "townServes", unfollowed := true, recurses := true, apart := false }
def TownServesSaid : Prop := townServesRow.holds Try.pinned (OpenSpec.ofChange townServesSpec)

/-- ITS FALSE NEIGHBOUR: 'it returns false'. Refute it at one input. -/
def townServesWrong : ChangeSpec := { name := "townServes", fn := fun _ => fun
  | [d1, d2, d3] => { results := [.lit (.bool false)], args := [d1, d2, d3] }
  | _ => none }
def TownServesWrongFalsely : Prop := townServesRow.holds Try.pinned (OpenSpec.ofChange townServesWrong)

/-- 'fumarolelaw10.TownSupplies': WHATEVER THE INPUT: true; the input reads as it did. -/
def townSuppliesSpec : ChangeSpec := { name := "townSupplies", fn := fun _ => fun
  | [d] => { results := [.lit (.bool true)], args := [d] }
  | _ => none }
def townSuppliesRow : OpenClaim := { program := "ytgdepcgbjjgnfaa", sum := "d8e330c404d382b5963ad44cb21f1a284cb1ed9072f45f2e0521b1459d23fc51", func := "fumarole/fumarolelaw10.TownSupplies", spec := "townSupplies", unfollowed := true, recurses := true, apart := false }
def TownSuppliesSaid : Prop := townSuppliesRow.holds Try.pinned (OpenSpec.ofChange townSuppliesSpec)

/-- ITS FALSE NEIGHBOUR: 'it returns false'. Refute it at one input. -/
def townSuppliesWrong : ChangeSpec := { name := "townSupplies", fn := fun _ => fun
  | [d] => { results := [.lit (.bool false)], args := [d] }
  | _ => none }
def TownSuppliesWrongFalsely : Prop := townSuppliesRow.holds Try.pinned (OpenSpec.ofChange townSuppliesWrong)

/-- 'fumarolelaw10.TownKeeps': WHATEVER THE INPUT: true; the input reads as it did. -/
def townKeepsSpec : ChangeSpec := { name := "townKeeps", fn := fun _ => fun
  | [d1, d2] => { results := [.lit (.bool true)], args := [d1, d2] }
  | _ => none }
def townKeepsRow : OpenClaim := { program := "ytgdepcgbjjgnfaa", sum := "d8e330c404d382b5963ad44cb21f1a284cb1ed9072f45f2e0521b1459d23fc51", func := "fumarole/fumarolelaw10.TownKeeps", spec := "townKeeps", unfollowed := true, recurses := true, apart := false }
def TownKeepsSaid : Prop := townKeepsRow.holds Try.pinned (OpenSpec.ofChange townKeepsSpec)

/-- ITS FALSE NEIGHBOUR: 'it returns false'. Refute it at one input. -/
def townKeepsWrong : ChangeSpec := { name := "townKeeps", fn := fun _ => fun
  | [d1, d2] => { results := [.lit (.bool false)], args := [d1, d2] }
  | _ => none }
def TownKeepsWrongFalsely : Prop := townKeepsRow.holds Try.pinned (OpenSpec.ofChange townKeepsWrong)

/-- 'fumarolelaw10.TownRanks': WHATEVER THE INPUT: true; the input reads as it did. -/
def townRanksSpec : ChangeSpec := { name := "townRanks", fn := fun _ => fun
  | [d1, d2, d3] => { results := [.lit (.bool true)], args := [d1, d2, d3] }
  | _ => none }
def townRanksRow : OpenClaim := { program := "ytgdepcgbjjgnfaa", sum := "d8e330c404d382b5963ad44cb21f1a284cb1ed9072f45f2e0521b1459d23fc51", func := "fumarole/fumarolelaw10.TownRanks", spec := "townRanks", unfollowed := true, recurses := true, apart := false }
def TownRanksSaid : Prop := townRanksRow.holds Try.pinned (OpenSpec.ofChange townRanksSpec)

/-- ITS FALSE NEIGHBOUR: 'it returns false'. Refute it at one input. -/
def townRanksWrong : ChangeSpec := { name := "townRanks", fn := fun _ => fun
  | [d1, d2, d3] => { results := [.lit (.bool false)], args := [d1, d2, d3] }
  | _ => none }
def TownRanksWrongFalsely : Prop := townRanksRow.holds Try.pinned (OpenSpec.ofChange townRanksWrong)

/-- 'fumarolelaw10.TownTanks': WHATEVER THE INPUT: true; the input reads as it did. -/
def townTanksSpec : ChangeSpec := { name := "townTanks", fn := fun _ => fun
  | [d1, d2, d3, d4, d5] => { results := [.lit (.bool true)], args := [d1, d2, d3, d4, d5] }
  | _ => none }
def townTanksRow : OpenClaim := { program := "ytgdepcgbjjgnfaa", sum := "d8e330c404d382b5963ad44cb21f1a284cb1ed9072f45f2e0521b1459d23fc51", func := "fumarole/fumarolelaw10.TownTanks", spec := "townTanks", unfollowed := true, recurses := true, apart := false }
def TownTanksSaid : Prop := townTanksRow.holds Try.pinned (OpenSpec.ofChange townTanksSpec)

/-- ITS FALSE NEIGHBOUR: 'it returns false'. Refute it at one input. -/
def townTanksWrong : ChangeSpec := { name := "townTanks", fn := fun _ => fun
  | [d1, d2, d3, d4, d5] => { results := [.lit (.bool false)], args := [d1, d2, d3, d4, d5] }
  | _ => none }
def TownTanksWrongFalsely : Prop := townTanksRow.holds Try.pinned (OpenSpec.ofChange townTanksWrong)

/-- 'fumarolelaw10.TownFlows': WHATEVER THE INPUT: true; the input reads as it did. -/
def townFlowsSpec : ChangeSpec := { name := "townFlows", fn := fun _ => fun
  | [d1, d2] => { results := [.lit (.bool true)], args := [d1, d2] }
  | _ => none }
def townFlowsRow : OpenClaim := { program := "ytgdepcgbjjgnfaa", sum := "d8e330c404d382b5963ad44cb21f1a284cb1ed9072f45f2e0521b1459d23fc51", func := "fumarole/fumarolelaw10.TownFlows", spec := "townFlows", unfollowed := true, recurses := true, apart := false }
def TownFlowsSaid : Prop := townFlowsRow.holds Try.pinned (OpenSpec.ofChange townFlowsSpec)

/-- ITS FALSE NEIGHBOUR: 'it returns false'. Refute it at one input. -/
def townFlowsWrong : ChangeSpec := { name := "townFlows", fn := fun _ => fun
  | [d1, d2] => { results := [.lit (.bool false)], args := [d1, d2] }
  | _ => none }
def TownFlowsWrongFalsely : Prop := townFlowsRow.holds Try.pinned (OpenSpec.ofChange townFlowsWrong)

/-- 'fumarolelaw10.TownEither': WHATEVER THE INPUT: true; the input reads as it did. -/
def townEitherSpec : ChangeSpec := { name := "townEither", fn := fun _ => fun
  | [d] => { results := [.lit (.bool true)], args := [d] }
  | _ => none }
def townEitherRow : OpenClaim := { program := "ytgdepcgbjjgnfaa", sum := "d8e330c404d382b5963ad44cb21f1a284cb1ed9072f45f2e0521b1459d23fc51", func := "fumarole/fumarolelaw10.TownEither", spec := "townEither", unfollowed := true, recurses := true, apart := false }
def TownEitherSaid : Prop := townEitherRow.holds Try.pinned (OpenSpec.ofChange townEitherSpec)

/-- ITS FALSE NEIGHBOUR: 'it returns false'. Refute it at one input. -/
def townEitherWrong : ChangeSpec := { name := "townEither", fn := fun _ => fun
  | [d] => { results := [.lit (.bool false)], args := [d] }
  | _ => none }
def TownEitherWrongFalsely : Prop := townEitherRow.holds Try.pinned (OpenSpec.ofChange townEitherWrong)

/-- 'fumarolelaw10.TownTakes': WHATEVER THE INPUT: true; the input reads as it did. -/
def townTakesSpec : ChangeSpec := { name := "townTakes", fn := fun _ => fun
  | [d1, d2, d3] => { results := [.lit (.bool true)], args := [d1, d2, d3] }
  | _ => none }
def townTakesRow : OpenClaim := { program := "ytgdepcgbjjgnfaa", sum := "d8e330c404d382b5963ad44cb21f1a284cb1ed9072f45f2e0521b1459d23fc51", func := "fumarole/fumarolelaw10.TownTakes", spec := "townTakes", unfollowed := true, recurses := true, apart := false }
def TownTakesSaid : Prop := townTakesRow.holds Try.pinned (OpenSpec.ofChange townTakesSpec)

/-- ITS FALSE NEIGHBOUR: 'it returns false'. Refute it at one input. -/
def townTakesWrong : ChangeSpec := { name := "townTakes", fn := fun _ => fun
  | [d1, d2, d3] => { results := [.lit (.bool false)], args := [d1, d2, d3] }
  | _ => none }
def TownTakesWrongFalsely : Prop := townTakesRow.holds Try.pinned (OpenSpec.ofChange townTakesWrong)

/-- 'fumarolelaw10.TownBrine': WHATEVER THE INPUT: true; the input reads as it did. -/
def townBrineSpec : ChangeSpec := { name := "townBrine", fn := fun _ => fun
  | [d1, d2, d3, d4] => { results := [.lit (.bool true)], args := [d1, d2, d3, d4] }
  | _ => none }
def townBrineRow : OpenClaim := { program := "ytgdepcgbjjgnfaa", sum := "d8e330c404d382b5963ad44cb21f1a284cb1ed9072f45f2e0521b1459d23fc51", func := "fumarole/fumarolelaw10.TownBrine", spec := "townBrine", unfollowed := true, recurses := true, apart := false }
def TownBrineSaid : Prop := townBrineRow.holds Try.pinned (OpenSpec.ofChange townBrineSpec)

/-- ITS FALSE NEIGHBOUR: 'it returns false'. Refute it at one input. -/
def townBrineWrong : ChangeSpec := { name := "townBrine", fn := fun _ => fun
  | [d1, d2, d3, d4] => { results := [.lit (.bool false)], args := [d1, d2, d3, d4] }
  | _ => none }
def TownBrineWrongFalsely : Prop := townBrineRow.holds Try.pinned (OpenSpec.ofChange townBrineWrong)

/-- 'fumarolelaw10.TownMeters': WHATEVER THE INPUT: true; the input reads as it did. -/
def townMetersSpec : ChangeSpec := { name := "townMeters", fn := fun _ => fun
  | [d1, d2, d3] => { results := [.lit (.bool true)], args := [d1, d2, d3] }
  | _ => none }
def townMetersRow : OpenClaim := { program := "ytgdepcgbjjgnfaa", sum := "d8e330c404d382b5963ad44cb21f1a284cb1ed9072f45f2e0521b1459d23fc51", func := "fumarole/fumarolelaw10.TownMeters", spec := "townMeters", unfollowed := true, recurses := true, apart := false }
def TownMetersSaid : Prop := townMetersRow.holds Try.pinned (OpenSpec.ofChange townMetersSpec)

/-- ITS FALSE NEIGHBOUR: 'it returns false'. Refute it at one input. -/
def townMetersWrong : ChangeSpec := { name := "townMeters", fn := fun _ => fun
  | [d1, d2, d3] => { results := [.lit (.bool false)], args := [d1, d2, d3] }
  | _ => none }
def TownMetersWrongFalsely : Prop := townMetersRow.holds Try.pinned (OpenSpec.ofChange townMetersWrong)

/-- 'fumarolelaw10.TownHonest': WHATEVER THE INPUT: true; the input reads as it did. -/
def townHonestSpec : ChangeSpec := { name := "townHonest", fn := fun _ => fun
  | [d1, d2, d3, d4, d5, d6] => { results := [.lit (.bool true)], args := [d1, d2, d3, d4, d5, d6] }
  | _ => none }
def townHonestRow : OpenClaim := { program := "ytgdepcgbjjgnfaa", sum := "d8e330c404d382b5963ad44cb21f1a284cb1ed9072f45f2e0521b1459d23fc51", func := "fumarole/fumarolelaw10.TownHonest", spec := "townHonest", unfollowed := true, recurses := true, apart := false }
def TownHonestSaid : Prop := townHonestRow.holds Try.pinned (OpenSpec.ofChange townHonestSpec)

/-- ITS FALSE NEIGHBOUR: 'it returns false'. Refute it at one input. -/
def townHonestWrong : ChangeSpec := { name := "townHonest", fn := fun _ => fun
  | [d1, d2, d3, d4, d5, d6] => { results := [.lit (.bool false)], args := [d1, d2, d3, d4, d5, d6] }
  | _ => none }
def TownHonestWrongFalsely : Prop := townHonestRow.holds Try.pinned (OpenSpec.ofChange townHonestWrong)

/-- 'fumarolelaw10.TownBills': WHATEVER THE INPUT: true; the input reads as it did. -/
def townBillsSpec : ChangeSpec := { name := "townBills", fn := fun _ => fun
  | [d1, d2, d3] => { results := [.lit (.bool true)], args := [d1, d2, d3] }
  | _ => none }
def townBillsRow : OpenClaim := { program := "ytgdepcgbjjgnfaa", sum := "d8e330c404d382b5963ad44cb21f1a284cb1ed9072f45f2e0521b1459d23fc51", func := "fumarole/fumarolelaw10.TownBills", spec := "townBills", unfollowed := true, recurses := true, apart := false }
def TownBillsSaid : Prop := townBillsRow.holds Try.pinned (OpenSpec.ofChange townBillsSpec)

/-- ITS FALSE NEIGHBOUR: 'it returns false'. Refute it at one input. -/
def townBillsWrong : ChangeSpec := { name := "townBills", fn := fun _ => fun
  | [d1, d2, d3] => { results := [.lit (.bool false)], args := [d1, d2, d3] }
  | _ => none }
def TownBillsWrongFalsely : Prop := townBillsRow.holds Try.pinned (OpenSpec.ofChange townBillsWrong)

/-- 'fumarolelaw10.TownYears': WHATEVER THE INPUT: true; the input reads as it did. -/
def townYearsSpec : ChangeSpec := { name := "townYears", fn := fun _ => fun
  | [d1, d2] => { results := [.lit (.bool true)], args := [d1, d2] }
  | _ => none }
def townYearsRow : OpenClaim := { program := "ytgdepcgbjjgnfaa", sum := "d8e330c404d382b5963ad44cb21f1a284cb1ed9072f45f2e0521b1459d23fc51", func := "fumarole/fumarolelaw10.TownYears", spec := "townYears", unfollowed := true, recurses := true, apart := false }
def TownYearsSaid : Prop := townYearsRow.holds Try.pinned (OpenSpec.ofChange townYearsSpec)

/-- ITS FALSE NEIGHBOUR: 'it returns false'. Refute it at one input. -/
def townYearsWrong : ChangeSpec := { name := "townYears", fn := fun _ => fun
  | [d1, d2] => { results := [.lit (.bool false)], args := [d1, d2] }
  | _ => none }
def TownYearsWrongFalsely : Prop := townYearsRow.holds Try.pinned (OpenSpec.ofChange townYearsWrong)

/-- 'fumarolelaw10.TownProves': WHATEVER THE INPUT: true; the input reads as it did. -/
def townProvesSpec : ChangeSpec := { name := "townProves", fn := fun _ => fun
  | [d1, d2, d3, d4, d5, d6] => { results := [.lit (.bool true)], args := [d1, d2, d3, d4, d5, d6] }
  | _ => none }
def townProvesRow : OpenClaim := { program := "ytgdepcgbjjgnfaa", sum := "d8e330c404d382b5963ad44cb21f1a284cb1ed9072f45f2e0521b1459d23fc51", func := "fumarole/fumarolelaw10.TownProves", spec := "townProves", unfollowed := true, recurses := true, apart := false }
def TownProvesSaid : Prop := townProvesRow.holds Try.pinned (OpenSpec.ofChange townProvesSpec)

/-- ITS FALSE NEIGHBOUR: 'it returns false'. Refute it at one input. -/
def townProvesWrong : ChangeSpec := { name := "townProves", fn := fun _ => fun
  | [d1, d2, d3, d4, d5, d6] => { results := [.lit (.bool false)], args := [d1, d2, d3, d4, d5, d6] }
  | _ => none }
def TownProvesWrongFalsely : Prop := townProvesRow.holds Try.pinned (OpenSpec.ofChange townProvesWrong)

/-- 'fumarolelaw10.TownDays': WHATEVER THE INPUT: true; the input reads as it did. -/
def townDaysSpec : ChangeSpec := { name := "townDays", fn := fun _ => fun
  | [d1, d2] => { results := [.lit (.bool true)], args := [d1, d2] }
  | _ => none }
def townDaysRow : OpenClaim := { program := "ytgdepcgbjjgnfaa", sum := "d8e330c404d382b5963ad44cb21f1a284cb1ed9072f45f2e0521b1459d23fc51", func := "fumarole/fumarolelaw10.TownDays", spec := "townDays", unfollowed := true, recurses := true, apart := false }
def TownDaysSaid : Prop := townDaysRow.holds Try.pinned (OpenSpec.ofChange townDaysSpec)

/-- ITS FALSE NEIGHBOUR: 'it returns false'. Refute it at one input. -/
def townDaysWrong : ChangeSpec := { name := "townDays", fn := fun _ => fun
  | [d1, d2] => { results := [.lit (.bool false)], args := [d1, d2] }
  | _ => none }
def TownDaysWrongFalsely : Prop := townDaysRow.holds Try.pinned (OpenSpec.ofChange townDaysWrong)

/-- 'fumarolelaw10.TownCheapest': WHATEVER THE INPUT: true; the input reads as it did. -/
def townCheapestSpec : ChangeSpec := { name := "townCheapest", fn := fun _ => fun
  | [d1, d2, d3, d4] => { results := [.lit (.bool true)], args := [d1, d2, d3, d4] }
  | _ => none }
def townCheapestRow : OpenClaim := { program := "ytgdepcgbjjgnfaa", sum := "d8e330c404d382b5963ad44cb21f1a284cb1ed9072f45f2e0521b1459d23fc51", func := "fumarole/fumarolelaw10.TownCheapest", spec := "townCheapest", unfollowed := true, recurses := true, apart := false }
def TownCheapestSaid : Prop := townCheapestRow.holds Try.pinned (OpenSpec.ofChange townCheapestSpec)

/-- ITS FALSE NEIGHBOUR: 'it returns false'. Refute it at one input. -/
def townCheapestWrong : ChangeSpec := { name := "townCheapest", fn := fun _ => fun
  | [d1, d2, d3, d4] => { results := [.lit (.bool false)], args := [d1, d2, d3, d4] }
  | _ => none }
def TownCheapestWrongFalsely : Prop := townCheapestRow.holds Try.pinned (OpenSpec.ofChange townCheapestWrong)

/-- 'fumarolelaw10.TownNames': WHATEVER THE INPUT: true; the input reads as it did. -/
def townNamesSpec : ChangeSpec := { name := "townNames", fn := fun _ => fun
  | [] => { results := [.lit (.bool true)], args := [] }
  | _ => none }
def townNamesRow : OpenClaim := { program := "ytgdepcgbjjgnfaa", sum := "d8e330c404d382b5963ad44cb21f1a284cb1ed9072f45f2e0521b1459d23fc51", func := "fumarole/fumarolelaw10.TownNames", spec := "townNames", unfollowed := true, recurses := true, apart := false }
def TownNamesSaid : Prop := townNamesRow.holds Try.pinned (OpenSpec.ofChange townNamesSpec)

/-- ITS FALSE NEIGHBOUR: 'it returns false'. Refute it at one input. -/
def townNamesWrong : ChangeSpec := { name := "townNames", fn := fun _ => fun
  | [] => { results := [.lit (.bool false)], args := [] }
  | _ => none }
def TownNamesWrongFalsely : Prop := townNamesRow.holds Try.pinned (OpenSpec.ofChange townNamesWrong)

/- THE SECOND FORM. 'bulk': how many values and letters a reading holds, each counted each time it is reached (what is shared counts as often as it is met; a slice's spare places count too). A statement '..UptoSaid' is the law's where the arguments, and the package variables that the reading takes, are together of bulk at most 1048576: NARROWER than '..Said'. Prove '..Said' where nothing that the law and all that it calls make is longer than what came in: it says more and counts as full. Else prove '..UptoSaid'. A law counts once. -/
mutual
def uptoBulk {H : Type} : DataW H → Nat
  | .lit (.string bytes) => bytes.length + 1
  | .lit _ => 1
  | .nil => 1
  | .ptr d => uptoBulk d + 1
  | .slice elems spare => uptoBulkAll elems + uptoBulkAll spare + 1
  | .agg parts => uptoBulkAll parts + 1
  | .iface _ d => uptoBulk d + 1
  | .map entries => uptoBulkEntries entries + 1
  | .held _ => 1
def uptoBulkAll {H : Type} : List (DataW H) → Nat
  | [] => 0
  | d :: r => uptoBulk d + uptoBulkAll r
def uptoBulkEntries {H : Type} : List (Lit × DataW H) → Nat
  | [] => 0
  | x :: r => uptoBulkEntry x + uptoBulkEntries r
def uptoBulkEntry {H : Type} : Lit × DataW H → Nat
  | (.string bytes, d) => bytes.length + uptoBulk d + 1
  | (_, d) => uptoBulk d + 1
 end
def uptoSmall : (H : Type) → List (DataW H) → Bool := fun _ ds => decide (uptoBulkAll ds ≤ 1048576)
def OpenSpec.upto (s : _root_.Go.ChangeSpec) : _root_.Go.OpenSpec := { _root_.Go.OpenSpec.ofChange s with cond := some uptoSmall }

/-- 'fumarolelaw10.TownServes', WHERE WHAT IT READS IS OF BULK AT MOST 1048576: true; the input reads as it did. -/
def townServesUptoRow : OpenClaim := { program := "ytgdepcgbjjgnfaa", sum := "d8e330c404d382b5963ad44cb21f1a284cb1ed9072f45f2e0521b1459d23fc51", func := "fumarole/fumarolelaw10.TownServes", spec := "townServes", unfollowed := true, recurses := true, apart := false, narrowed := true }
def TownServesUptoSaid : Prop := townServesUptoRow.holds Try.pinned (OpenSpec.upto townServesSpec)

/-- 'fumarolelaw10.TownSupplies', WHERE WHAT IT READS IS OF BULK AT MOST 1048576: true; the input reads as it did. -/
def townSuppliesUptoRow : OpenClaim := { program := "ytgdepcgbjjgnfaa", sum := "d8e330c404d382b5963ad44cb21f1a284cb1ed9072f45f2e0521b1459d23fc51", func := "fumarole/fumarolelaw10.TownSupplies", spec := "townSupplies", unfollowed := true, recurses := true, apart := false, narrowed := true }
def TownSuppliesUptoSaid : Prop := townSuppliesUptoRow.holds Try.pinned (OpenSpec.upto townSuppliesSpec)

/-- 'fumarolelaw10.TownKeeps', WHERE WHAT IT READS IS OF BULK AT MOST 1048576: true; the input reads as it did. -/
def townKeepsUptoRow : OpenClaim := { program := "ytgdepcgbjjgnfaa", sum := "d8e330c404d382b5963ad44cb21f1a284cb1ed9072f45f2e0521b1459d23fc51", func := "fumarole/fumarolelaw10.TownKeeps", spec := "townKeeps", unfollowed := true, recurses := true, apart := false, narrowed := true }
def TownKeepsUptoSaid : Prop := townKeepsUptoRow.holds Try.pinned (OpenSpec.upto townKeepsSpec)

/-- 'fumarolelaw10.TownRanks', WHERE WHAT IT READS IS OF BULK AT MOST 1048576: true; the input reads as it did. -/
def townRanksUptoRow : OpenClaim := { program := "ytgdepcgbjjgnfaa", sum := "d8e330c404d382b5963ad44cb21f1a284cb1ed9072f45f2e0521b1459d23fc51", func := "fumarole/fumarolelaw10.TownRanks", spec := "townRanks", unfollowed := true, recurses := true, apart := false, narrowed := true }
def TownRanksUptoSaid : Prop := townRanksUptoRow.holds Try.pinned (OpenSpec.upto townRanksSpec)

/-- 'fumarolelaw10.TownTanks', WHERE WHAT IT READS IS OF BULK AT MOST 1048576: true; the input reads as it did. -/
def townTanksUptoRow : OpenClaim := { program := "ytgdepcgbjjgnfaa", sum := "d8e330c404d382b5963ad44cb21f1a284cb1ed9072f45f2e0521b1459d23fc51", func := "fumarole/fumarolelaw10.TownTanks", spec := "townTanks", unfollowed := true, recurses := true, apart := false, narrowed := true }
def TownTanksUptoSaid : Prop := townTanksUptoRow.holds Try.pinned (OpenSpec.upto townTanksSpec)

/-- 'fumarolelaw10.TownFlows', WHERE WHAT IT READS IS OF BULK AT MOST 1048576: true; the input reads as it did. -/
def townFlowsUptoRow : OpenClaim := { program := "ytgdepcgbjjgnfaa", sum := "d8e330c404d382b5963ad44cb21f1a284cb1ed9072f45f2e0521b1459d23fc51", func := "fumarole/fumarolelaw10.TownFlows", spec := "townFlows", unfollowed := true, recurses := true, apart := false, narrowed := true }
def TownFlowsUptoSaid : Prop := townFlowsUptoRow.holds Try.pinned (OpenSpec.upto townFlowsSpec)

/-- 'fumarolelaw10.TownEither', WHERE WHAT IT READS IS OF BULK AT MOST 1048576: true; the input reads as it did. -/
def townEitherUptoRow : OpenClaim := { program := "ytgdepcgbjjgnfaa", sum := "d8e330c404d382b5963ad44cb21f1a284cb1ed9072f45f2e0521b1459d23fc51", func := "fumarole/fumarolelaw10.TownEither", spec := "townEither", unfollowed := true, recurses := true, apart := false, narrowed := true }
def TownEitherUptoSaid : Prop := townEitherUptoRow.holds Try.pinned (OpenSpec.upto townEitherSpec)

/-- 'fumarolelaw10.TownTakes', WHERE WHAT IT READS IS OF BULK AT MOST 1048576: true; the input reads as it did. -/
def townTakesUptoRow : OpenClaim := { program := "ytgdepcgbjjgnfaa", sum := "d8e330c404d382b5963ad44cb21f1a284cb1ed9072f45f2e0521b1459d23fc51", func := "fumarole/fumarolelaw10.TownTakes", spec := "townTakes", unfollowed := true, recurses := true, apart := false, narrowed := true }
def TownTakesUptoSaid : Prop := townTakesUptoRow.holds Try.pinned (OpenSpec.upto townTakesSpec)

/-- 'fumarolelaw10.TownBrine', WHERE WHAT IT READS IS OF BULK AT MOST 1048576: true; the input reads as it did. -/
def townBrineUptoRow : OpenClaim := { program := "ytgdepcgbjjgnfaa", sum := "d8e330c404d382b5963ad44cb21f1a284cb1ed9072f45f2e0521b1459d23fc51", func := "fumarole/fumarolelaw10.TownBrine", spec := "townBrine", unfollowed := true, recurses := true, apart := false, narrowed := true }
def TownBrineUptoSaid : Prop := townBrineUptoRow.holds Try.pinned (OpenSpec.upto townBrineSpec)

/-- 'fumarolelaw10.TownMeters', WHERE WHAT IT READS IS OF BULK AT MOST 1048576: true; the input reads as it did. -/
def townMetersUptoRow : OpenClaim := { program := "ytgdepcgbjjgnfaa", sum := "d8e330c404d382b5963ad44cb21f1a284cb1ed9072f45f2e0521b1459d23fc51", func := "fumarole/fumarolelaw10.TownMeters", spec := "townMeters", unfollowed := true, recurses := true, apart := false, narrowed := true }
def TownMetersUptoSaid : Prop := townMetersUptoRow.holds Try.pinned (OpenSpec.upto townMetersSpec)

/-- 'fumarolelaw10.TownHonest', WHERE WHAT IT READS IS OF BULK AT MOST 1048576: true; the input reads as it did. -/
def townHonestUptoRow : OpenClaim := { program := "ytgdepcgbjjgnfaa", sum := "d8e330c404d382b5963ad44cb21f1a284cb1ed9072f45f2e0521b1459d23fc51", func := "fumarole/fumarolelaw10.TownHonest", spec := "townHonest", unfollowed := true, recurses := true, apart := false, narrowed := true }
def TownHonestUptoSaid : Prop := townHonestUptoRow.holds Try.pinned (OpenSpec.upto townHonestSpec)

/-- 'fumarolelaw10.TownBills', WHERE WHAT IT READS IS OF BULK AT MOST 1048576: true; the input reads as it did. -/
def townBillsUptoRow : OpenClaim := { program := "ytgdepcgbjjgnfaa", sum := "d8e330c404d382b5963ad44cb21f1a284cb1ed9072f45f2e0521b1459d23fc51", func := "fumarole/fumarolelaw10.TownBills", spec := "townBills", unfollowed := true, recurses := true, apart := false, narrowed := true }
def TownBillsUptoSaid : Prop := townBillsUptoRow.holds Try.pinned (OpenSpec.upto townBillsSpec)

/-- 'fumarolelaw10.TownYears', WHERE WHAT IT READS IS OF BULK AT MOST 1048576: true; the input reads as it did. -/
def townYearsUptoRow : OpenClaim := { program := "ytgdepcgbjjgnfaa", sum := "d8e330c404d382b5963ad44cb21f1a284cb1ed9072f45f2e0521b1459d23fc51", func := "fumarole/fumarolelaw10.TownYears", spec := "townYears", unfollowed := true, recurses := true, apart := false, narrowed := true }
def TownYearsUptoSaid : Prop := townYearsUptoRow.holds Try.pinned (OpenSpec.upto townYearsSpec)

/-- 'fumarolelaw10.TownProves', WHERE WHAT IT READS IS OF BULK AT MOST 1048576: true; the input reads as it did. -/
def townProvesUptoRow : OpenClaim := { program := "ytgdepcgbjjgnfaa", sum := "d8e330c404d382b5963ad44cb21f1a284cb1ed9072f45f2e0521b1459d23fc51", func := "fumarole/fumarolelaw10.TownProves", spec := "townProves", unfollowed := true, recurses := true, apart := false, narrowed := true }
def TownProvesUptoSaid : Prop := townProvesUptoRow.holds Try.pinned (OpenSpec.upto townProvesSpec)

/-- 'fumarolelaw10.TownDays', WHERE WHAT IT READS IS OF BULK AT MOST 1048576: true; the input reads as it did. -/
def townDaysUptoRow : OpenClaim := { program := "ytgdepcgbjjgnfaa", sum := "d8e330c404d382b5963ad44cb21f1a284cb1ed9072f45f2e0521b1459d23fc51", func := "fumarole/fumarolelaw10.TownDays", spec := "townDays", unfollowed := true, recurses := true, apart := false, narrowed := true }
def TownDaysUptoSaid : Prop := townDaysUptoRow.holds Try.pinned (OpenSpec.upto townDaysSpec)

/-- 'fumarolelaw10.TownCheapest', WHERE WHAT IT READS IS OF BULK AT MOST 1048576: true; the input reads as it did. -/
def townCheapestUptoRow : OpenClaim := { program := "ytgdepcgbjjgnfaa", sum := "d8e330c404d382b5963ad44cb21f1a284cb1ed9072f45f2e0521b1459d23fc51", func := "fumarole/fumarolelaw10.TownCheapest", spec := "townCheapest", unfollowed := true, recurses := true, apart := false, narrowed := true }
def TownCheapestUptoSaid : Prop := townCheapestUptoRow.holds Try.pinned (OpenSpec.upto townCheapestSpec)

/-- 'fumarolelaw10.TownNames', WHERE WHAT IT READS IS OF BULK AT MOST 1048576: true; the input reads as it did. -/
def townNamesUptoRow : OpenClaim := { program := "ytgdepcgbjjgnfaa", sum := "d8e330c404d382b5963ad44cb21f1a284cb1ed9072f45f2e0521b1459d23fc51", func := "fumarole/fumarolelaw10.TownNames", spec := "townNames", unfollowed := true, recurses := true, apart := false, narrowed := true }
def TownNamesUptoSaid : Prop := townNamesUptoRow.holds Try.pinned (OpenSpec.upto townNamesSpec)

end Rows
end Go.Proofs.Ytgdepcgbjjgnfaa
