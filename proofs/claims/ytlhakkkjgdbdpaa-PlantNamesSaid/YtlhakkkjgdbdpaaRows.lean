/-
  No cell of these rows narrows 'for every input' (looked for: loops, veiled, ifaces, maps, wideKeys, modest, calm, conditions, laid).
  DERIVED. THE GIVEN ROWS OF THIS SEAT. 12 by the template 'for every input the law returns true; each argument reads behind the call as it read before'; 0 by the template 'total and deterministic' (their statements: YtlhakkkjgdbdpaaTotals.lean).
  GIVEN WITH THE SEED: the statements are not yours to turn. If you find one false, say at which input.
  Laid BY PROGRAM, IN A SANDBOX (cutbox-rows.mjs): the forced cells as the released guide's own fill.sh prints them over the translation 70fe1b7b76940dbb… (all of the seat's roots in one cut). By AI agents, Wed Nov 11 2026. No macro, syntax, notation, axiom, sorry.
-/
import Derived.Test.YtlhakkkjgdbdpaaChecked
import GoSem.Claim
import GoSem.ClaimJoined
import GoSem.ClaimMapViews
import Derived.JoinedTies
import Derived.KernelRfl
namespace Go.Proofs.Ytlhakkkjgdbdpaa
/- THE CELL 'sum', in the pinned program and in every row, IS THE sha256 OF THE DUMP (.gsa) THAT YtlhakkkjgdbdpaaProg.lean LOADS. Nothing in Lean hashes anything: it is a label: what it is worth is what the hold of that sum in a sandbox is worth. -/
noncomputable def Try.pinned : Pinned := { name := "ytlhakkkjgdbdpaa", sum := "70fe1b7b76940dbbf7413e5a573032b0a751c8e57a6960ae15e42877066c2294", checked := Try.checked }
namespace Rows
def none {H : Type} : Left H := { results := [], args := [] }

/-- 'fumarolelaw07.PlantFalls': WHATEVER THE INPUT: true; the input reads as it did. -/
def plantFallsSpec : ChangeSpec := { name := "plantFalls", fn := fun _ => fun
  | [d1, d2] => { results := [.lit (.bool true)], args := [d1, d2] }
  | _ => none }
def plantFallsRow : OpenClaim := { program := "ytlhakkkjgdbdpaa", sum := "70fe1b7b76940dbbf7413e5a573032b0a751c8e57a6960ae15e42877066c2294", func := "fumarole/fumarolelaw07.PlantFalls", spec := "plantFalls", unfollowed := true, recurses := true, apart := false }
def PlantFallsSaid : Prop := plantFallsRow.holds Try.pinned (OpenSpec.ofChange plantFallsSpec)

/-- ITS FALSE NEIGHBOUR: 'it returns false'. Refute it at one input. -/
def plantFallsWrong : ChangeSpec := { name := "plantFalls", fn := fun _ => fun
  | [d1, d2] => { results := [.lit (.bool false)], args := [d1, d2] }
  | _ => none }
def PlantFallsWrongFalsely : Prop := plantFallsRow.holds Try.pinned (OpenSpec.ofChange plantFallsWrong)

/-- 'fumarolelaw07.PlantRoom': WHATEVER THE INPUT: true; the input reads as it did. -/
def plantRoomSpec : ChangeSpec := { name := "plantRoom", fn := fun _ => fun
  | [d1, d2, d3, d4, d5] => { results := [.lit (.bool true)], args := [d1, d2, d3, d4, d5] }
  | _ => none }
def plantRoomRow : OpenClaim := { program := "ytlhakkkjgdbdpaa", sum := "70fe1b7b76940dbbf7413e5a573032b0a751c8e57a6960ae15e42877066c2294", func := "fumarole/fumarolelaw07.PlantRoom", spec := "plantRoom", unfollowed := true, recurses := true, apart := false }
def PlantRoomSaid : Prop := plantRoomRow.holds Try.pinned (OpenSpec.ofChange plantRoomSpec)

/-- ITS FALSE NEIGHBOUR: 'it returns false'. Refute it at one input. -/
def plantRoomWrong : ChangeSpec := { name := "plantRoom", fn := fun _ => fun
  | [d1, d2, d3, d4, d5] => { results := [.lit (.bool false)], args := [d1, d2, d3, d4, d5] }
  | _ => none }
def PlantRoomWrongFalsely : Prop := plantRoomRow.holds Try.pinned (OpenSpec.ofChange plantRoomWrong)

/-- 'fumarolelaw07.PlantPowers': WHATEVER THE INPUT: true; the input reads as it did. -/
def plantPowersSpec : ChangeSpec := { name := "plantPowers", fn := fun _ => fun
  | [d1, d2] => { results := [.lit (.bool true)], args := [d1, d2] }
  | _ => none }
def plantPowersRow : OpenClaim := { program := "ytlhakkkjgdbdpaa", sum := "70fe1b7b76940dbbf7413e5a573032b0a751c8e57a6960ae15e42877066c2294", func := "fumarole/fumarolelaw07.PlantPowers", spec := "plantPowers", unfollowed := true, recurses := true, apart := false }
def PlantPowersSaid : Prop := plantPowersRow.holds Try.pinned (OpenSpec.ofChange plantPowersSpec)

/-- ITS FALSE NEIGHBOUR: 'it returns false'. Refute it at one input. -/
def plantPowersWrong : ChangeSpec := { name := "plantPowers", fn := fun _ => fun
  | [d1, d2] => { results := [.lit (.bool false)], args := [d1, d2] }
  | _ => none }
def PlantPowersWrongFalsely : Prop := plantPowersRow.holds Try.pinned (OpenSpec.ofChange plantPowersWrong)

/-- 'fumarolelaw07.PlantCools': WHATEVER THE INPUT: true; the input reads as it did. -/
def plantCoolsSpec : ChangeSpec := { name := "plantCools", fn := fun _ => fun
  | [d1, d2, d3] => { results := [.lit (.bool true)], args := [d1, d2, d3] }
  | _ => none }
def plantCoolsRow : OpenClaim := { program := "ytlhakkkjgdbdpaa", sum := "70fe1b7b76940dbbf7413e5a573032b0a751c8e57a6960ae15e42877066c2294", func := "fumarole/fumarolelaw07.PlantCools", spec := "plantCools", unfollowed := true, recurses := true, apart := false }
def PlantCoolsSaid : Prop := plantCoolsRow.holds Try.pinned (OpenSpec.ofChange plantCoolsSpec)

/-- ITS FALSE NEIGHBOUR: 'it returns false'. Refute it at one input. -/
def plantCoolsWrong : ChangeSpec := { name := "plantCools", fn := fun _ => fun
  | [d1, d2, d3] => { results := [.lit (.bool false)], args := [d1, d2, d3] }
  | _ => none }
def PlantCoolsWrongFalsely : Prop := plantCoolsRow.holds Try.pinned (OpenSpec.ofChange plantCoolsWrong)

/-- 'fumarolelaw07.PlantDispatches': WHATEVER THE INPUT: true; the input reads as it did. -/
def plantDispatchesSpec : ChangeSpec := { name := "plantDispatches", fn := fun _ => fun
  | [d1, d2] => { results := [.lit (.bool true)], args := [d1, d2] }
  | _ => none }
def plantDispatchesRow : OpenClaim := { program := "ytlhakkkjgdbdpaa", sum := "70fe1b7b76940dbbf7413e5a573032b0a751c8e57a6960ae15e42877066c2294", func := "fumarole/fumarolelaw07.PlantDispatches", spec := "plantDispatches", unfollowed := true, recurses := true, apart := false }
def PlantDispatchesSaid : Prop := plantDispatchesRow.holds Try.pinned (OpenSpec.ofChange plantDispatchesSpec)

/-- ITS FALSE NEIGHBOUR: 'it returns false'. Refute it at one input. -/
def plantDispatchesWrong : ChangeSpec := { name := "plantDispatches", fn := fun _ => fun
  | [d1, d2] => { results := [.lit (.bool false)], args := [d1, d2] }
  | _ => none }
def PlantDispatchesWrongFalsely : Prop := plantDispatchesRow.holds Try.pinned (OpenSpec.ofChange plantDispatchesWrong)

/-- 'fumarolelaw07.PlantShares': WHATEVER THE INPUT: true; the input reads as it did. -/
def plantSharesSpec : ChangeSpec := { name := "plantShares", fn := fun _ => fun
  | [d1, d2, d3] => { results := [.lit (.bool true)], args := [d1, d2, d3] }
  | _ => none }
def plantSharesRow : OpenClaim := { program := "ytlhakkkjgdbdpaa", sum := "70fe1b7b76940dbbf7413e5a573032b0a751c8e57a6960ae15e42877066c2294", func := "fumarole/fumarolelaw07.PlantShares", spec := "plantShares", unfollowed := true, recurses := true, apart := false }
def PlantSharesSaid : Prop := plantSharesRow.holds Try.pinned (OpenSpec.ofChange plantSharesSpec)

/-- ITS FALSE NEIGHBOUR: 'it returns false'. Refute it at one input. -/
def plantSharesWrong : ChangeSpec := { name := "plantShares", fn := fun _ => fun
  | [d1, d2, d3] => { results := [.lit (.bool false)], args := [d1, d2, d3] }
  | _ => none }
def PlantSharesWrongFalsely : Prop := plantSharesRow.holds Try.pinned (OpenSpec.ofChange plantSharesWrong)

/-- 'fumarolelaw07.PlantProves': WHATEVER THE INPUT: true; the input reads as it did. -/
def plantProvesSpec : ChangeSpec := { name := "plantProves", fn := fun _ => fun
  | [d1, d2, d3, d4, d5, d6, d7, d8] => { results := [.lit (.bool true)], args := [d1, d2, d3, d4, d5, d6, d7, d8] }
  | _ => none }
def plantProvesRow : OpenClaim := { program := "ytlhakkkjgdbdpaa", sum := "70fe1b7b76940dbbf7413e5a573032b0a751c8e57a6960ae15e42877066c2294", func := "fumarole/fumarolelaw07.PlantProves", spec := "plantProves", unfollowed := true, recurses := true, apart := false }
def PlantProvesSaid : Prop := plantProvesRow.holds Try.pinned (OpenSpec.ofChange plantProvesSpec)

/-- ITS FALSE NEIGHBOUR: 'it returns false'. Refute it at one input. -/
def plantProvesWrong : ChangeSpec := { name := "plantProves", fn := fun _ => fun
  | [d1, d2, d3, d4, d5, d6, d7, d8] => { results := [.lit (.bool false)], args := [d1, d2, d3, d4, d5, d6, d7, d8] }
  | _ => none }
def PlantProvesWrongFalsely : Prop := plantProvesRow.holds Try.pinned (OpenSpec.ofChange plantProvesWrong)

/-- 'fumarolelaw07.PlantBest': WHATEVER THE INPUT: true; the input reads as it did. -/
def plantBestSpec : ChangeSpec := { name := "plantBest", fn := fun _ => fun
  | [d1, d2, d3, d4, d5, d6, d7] => { results := [.lit (.bool true)], args := [d1, d2, d3, d4, d5, d6, d7] }
  | _ => none }
def plantBestRow : OpenClaim := { program := "ytlhakkkjgdbdpaa", sum := "70fe1b7b76940dbbf7413e5a573032b0a751c8e57a6960ae15e42877066c2294", func := "fumarole/fumarolelaw07.PlantBest", spec := "plantBest", unfollowed := true, recurses := true, apart := false }
def PlantBestSaid : Prop := plantBestRow.holds Try.pinned (OpenSpec.ofChange plantBestSpec)

/-- ITS FALSE NEIGHBOUR: 'it returns false'. Refute it at one input. -/
def plantBestWrong : ChangeSpec := { name := "plantBest", fn := fun _ => fun
  | [d1, d2, d3, d4, d5, d6, d7] => { results := [.lit (.bool false)], args := [d1, d2, d3, d4, d5, d6, d7] }
  | _ => none }
def PlantBestWrongFalsely : Prop := plantBestRow.holds Try.pinned (OpenSpec.ofChange plantBestWrong)

/-- 'fumarolelaw07.PlantTables': WHATEVER THE INPUT: true; the input reads as it did. -/
def plantTablesSpec : ChangeSpec := { name := "plantTables", fn := fun _ => fun
  | [d1, d2, d3, d4, d5, d6, d7, d8] => { results := [.lit (.bool true)], args := [d1, d2, d3, d4, d5, d6, d7, d8] }
  | _ => none }
def plantTablesRow : OpenClaim := { program := "ytlhakkkjgdbdpaa", sum := "70fe1b7b76940dbbf7413e5a573032b0a751c8e57a6960ae15e42877066c2294", func := "fumarole/fumarolelaw07.PlantTables", spec := "plantTables", unfollowed := true, recurses := true, apart := false }
def PlantTablesSaid : Prop := plantTablesRow.holds Try.pinned (OpenSpec.ofChange plantTablesSpec)

/-- ITS FALSE NEIGHBOUR: 'it returns false'. Refute it at one input. -/
def plantTablesWrong : ChangeSpec := { name := "plantTables", fn := fun _ => fun
  | [d1, d2, d3, d4, d5, d6, d7, d8] => { results := [.lit (.bool false)], args := [d1, d2, d3, d4, d5, d6, d7, d8] }
  | _ => none }
def PlantTablesWrongFalsely : Prop := plantTablesRow.holds Try.pinned (OpenSpec.ofChange plantTablesWrong)

/-- 'fumarolelaw07.PlantPlans': WHATEVER THE INPUT: true; the input reads as it did. -/
def plantPlansSpec : ChangeSpec := { name := "plantPlans", fn := fun _ => fun
  | [d1, d2, d3, d4] => { results := [.lit (.bool true)], args := [d1, d2, d3, d4] }
  | _ => none }
def plantPlansRow : OpenClaim := { program := "ytlhakkkjgdbdpaa", sum := "70fe1b7b76940dbbf7413e5a573032b0a751c8e57a6960ae15e42877066c2294", func := "fumarole/fumarolelaw07.PlantPlans", spec := "plantPlans", unfollowed := true, recurses := true, apart := false }
def PlantPlansSaid : Prop := plantPlansRow.holds Try.pinned (OpenSpec.ofChange plantPlansSpec)

/-- ITS FALSE NEIGHBOUR: 'it returns false'. Refute it at one input. -/
def plantPlansWrong : ChangeSpec := { name := "plantPlans", fn := fun _ => fun
  | [d1, d2, d3, d4] => { results := [.lit (.bool false)], args := [d1, d2, d3, d4] }
  | _ => none }
def PlantPlansWrongFalsely : Prop := plantPlansRow.holds Try.pinned (OpenSpec.ofChange plantPlansWrong)

/-- 'fumarolelaw07.PlantExpands': WHATEVER THE INPUT: true; the input reads as it did. -/
def plantExpandsSpec : ChangeSpec := { name := "plantExpands", fn := fun _ => fun
  | [d1, d2, d3, d4] => { results := [.lit (.bool true)], args := [d1, d2, d3, d4] }
  | _ => none }
def plantExpandsRow : OpenClaim := { program := "ytlhakkkjgdbdpaa", sum := "70fe1b7b76940dbbf7413e5a573032b0a751c8e57a6960ae15e42877066c2294", func := "fumarole/fumarolelaw07.PlantExpands", spec := "plantExpands", unfollowed := true, recurses := true, apart := false }
def PlantExpandsSaid : Prop := plantExpandsRow.holds Try.pinned (OpenSpec.ofChange plantExpandsSpec)

/-- ITS FALSE NEIGHBOUR: 'it returns false'. Refute it at one input. -/
def plantExpandsWrong : ChangeSpec := { name := "plantExpands", fn := fun _ => fun
  | [d1, d2, d3, d4] => { results := [.lit (.bool false)], args := [d1, d2, d3, d4] }
  | _ => none }
def PlantExpandsWrongFalsely : Prop := plantExpandsRow.holds Try.pinned (OpenSpec.ofChange plantExpandsWrong)

/-- 'fumarolelaw07.PlantNames': WHATEVER THE INPUT: true; the input reads as it did. -/
def plantNamesSpec : ChangeSpec := { name := "plantNames", fn := fun _ => fun
  | [] => { results := [.lit (.bool true)], args := [] }
  | _ => none }
def plantNamesRow : OpenClaim := { program := "ytlhakkkjgdbdpaa", sum := "70fe1b7b76940dbbf7413e5a573032b0a751c8e57a6960ae15e42877066c2294", func := "fumarole/fumarolelaw07.PlantNames", spec := "plantNames", unfollowed := true, recurses := true, apart := false }
def PlantNamesSaid : Prop := plantNamesRow.holds Try.pinned (OpenSpec.ofChange plantNamesSpec)

/-- ITS FALSE NEIGHBOUR: 'it returns false'. Refute it at one input. -/
def plantNamesWrong : ChangeSpec := { name := "plantNames", fn := fun _ => fun
  | [] => { results := [.lit (.bool false)], args := [] }
  | _ => none }
def PlantNamesWrongFalsely : Prop := plantNamesRow.holds Try.pinned (OpenSpec.ofChange plantNamesWrong)

/- THE SECOND FORM. 'bulk': how many values and letters a reading holds, each counted each time it is reached (what is shared counts as often as it is met; a slice's spare places count too). A statement '..UptoSaid' is the law's where the arguments, and the package variables that the reading takes, are together of bulk at most 1048576: NARROWER than '..Said'. Prove '..Said' where nothing that the law and all that it calls make is longer than what came in: it says more and counts as full. Else prove '..UptoSaid'. A law counts once. -/
mutual
def uptoBulk {H : Type} : DataW H → Nat
  | .lit (.string bytes) => bytes.length + 1
  | .lit _ => 1
  | .nil => 1
  | .ptr d => uptoBulk d + 1
  | .slice elems spare => uptoBulkAll elems + uptoBulkAll spare + 1
  | .agg parts => uptoBulkAll parts + 1
  | .iface _ d => uptoBulk d + 1
  | .map entries => uptoBulkEntries entries + 1
  | .held _ => 1
def uptoBulkAll {H : Type} : List (DataW H) → Nat
  | [] => 0
  | d :: r => uptoBulk d + uptoBulkAll r
def uptoBulkEntries {H : Type} : List (Lit × DataW H) → Nat
  | [] => 0
  | x :: r => uptoBulkEntry x + uptoBulkEntries r
def uptoBulkEntry {H : Type} : Lit × DataW H → Nat
  | (.string bytes, d) => bytes.length + uptoBulk d + 1
  | (_, d) => uptoBulk d + 1
 end
def uptoSmall : (H : Type) → List (DataW H) → Bool := fun _ ds => decide (uptoBulkAll ds ≤ 1048576)
def OpenSpec.upto (s : _root_.Go.ChangeSpec) : _root_.Go.OpenSpec := { _root_.Go.OpenSpec.ofChange s with cond := some uptoSmall }

/-- 'fumarolelaw07.PlantFalls', WHERE WHAT IT READS IS OF BULK AT MOST 1048576: true; the input reads as it did. -/
def plantFallsUptoRow : OpenClaim := { program := "ytlhakkkjgdbdpaa", sum := "70fe1b7b76940dbbf7413e5a573032b0a751c8e57a6960ae15e42877066c2294", func := "fumarole/fumarolelaw07.PlantFalls", spec := "plantFalls", unfollowed := true, recurses := true, apart := false, narrowed := true }
def PlantFallsUptoSaid : Prop := plantFallsUptoRow.holds Try.pinned (OpenSpec.upto plantFallsSpec)

/-- 'fumarolelaw07.PlantRoom', WHERE WHAT IT READS IS OF BULK AT MOST 1048576: true; the input reads as it did. -/
def plantRoomUptoRow : OpenClaim := { program := "ytlhakkkjgdbdpaa", sum := "70fe1b7b76940dbbf7413e5a573032b0a751c8e57a6960ae15e42877066c2294", func := "fumarole/fumarolelaw07.PlantRoom", spec := "plantRoom", unfollowed := true, recurses := true, apart := false, narrowed := true }
def PlantRoomUptoSaid : Prop := plantRoomUptoRow.holds Try.pinned (OpenSpec.upto plantRoomSpec)

/-- 'fumarolelaw07.PlantPowers', WHERE WHAT IT READS IS OF BULK AT MOST 1048576: true; the input reads as it did. -/
def plantPowersUptoRow : OpenClaim := { program := "ytlhakkkjgdbdpaa", sum := "70fe1b7b76940dbbf7413e5a573032b0a751c8e57a6960ae15e42877066c2294", func := "fumarole/fumarolelaw07.PlantPowers", spec := "plantPowers", unfollowed := true, recurses := true, apart := false, narrowed := true }
def PlantPowersUptoSaid : Prop := plantPowersUptoRow.holds Try.pinned (OpenSpec.upto plantPowersSpec)

/-- 'fumarolelaw07.PlantCools', WHERE WHAT IT READS IS OF BULK AT MOST 1048576: true; the input reads as it did. -/
def plantCoolsUptoRow : OpenClaim := { program := "ytlhakkkjgdbdpaa", sum := "70fe1b7b76940dbbf7413e5a573032b0a751c8e57a6960ae15e42877066c2294", func := "fumarole/fumarolelaw07.PlantCools", spec := "plantCools", unfollowed := true, recurses := true, apart := false, narrowed := true }
def PlantCoolsUptoSaid : Prop := plantCoolsUptoRow.holds Try.pinned (OpenSpec.upto plantCoolsSpec)

/-- 'fumarolelaw07.PlantDispatches', WHERE WHAT IT READS IS OF BULK AT MOST 1048576: true; the input reads as it did. -/
def plantDispatchesUptoRow : OpenClaim := { program := "ytlhakkkjgdbdpaa", sum := "70fe1b7b76940dbbf7413e5a573032b0a751c8e57a6960ae15e42877066c2294", func := "fumarole/fumarolelaw07.PlantDispatches", spec := "plantDispatches", unfollowed := true, recurses := true, apart := false, narrowed := true }
def PlantDispatchesUptoSaid : Prop := plantDispatchesUptoRow.holds Try.pinned (OpenSpec.upto plantDispatchesSpec)

/-- 'fumarolelaw07.PlantShares', WHERE WHAT IT READS IS OF BULK AT MOST 1048576: true; the input reads as it did. -/
def plantSharesUptoRow : OpenClaim := { program := "ytlhakkkjgdbdpaa", sum := "70fe1b7b76940dbbf7413e5a573032b0a751c8e57a6960ae15e42877066c2294", func := "fumarole/fumarolelaw07.PlantShares", spec := "plantShares", unfollowed := true, recurses := true, apart := false, narrowed := true }
def PlantSharesUptoSaid : Prop := plantSharesUptoRow.holds Try.pinned (OpenSpec.upto plantSharesSpec)

/-- 'fumarolelaw07.PlantProves', WHERE WHAT IT READS IS OF BULK AT MOST 1048576: true; the input reads as it did. -/
def plantProvesUptoRow : OpenClaim := { program := "ytlhakkkjgdbdpaa", sum := "70fe1b7b76940dbbf7413e5a573032b0a751c8e57a6960ae15e42877066c2294", func := "fumarole/fumarolelaw07.PlantProves", spec := "plantProves", unfollowed := true, recurses := true, apart := false, narrowed := true }
def PlantProvesUptoSaid : Prop := plantProvesUptoRow.holds Try.pinned (OpenSpec.upto plantProvesSpec)

/-- 'fumarolelaw07.PlantBest', WHERE WHAT IT READS IS OF BULK AT MOST 1048576: true; the input reads as it did. -/
def plantBestUptoRow : OpenClaim := { program := "ytlhakkkjgdbdpaa", sum := "70fe1b7b76940dbbf7413e5a573032b0a751c8e57a6960ae15e42877066c2294", func := "fumarole/fumarolelaw07.PlantBest", spec := "plantBest", unfollowed := true, recurses := true, apart := false, narrowed := true }
def PlantBestUptoSaid : Prop := plantBestUptoRow.holds Try.pinned (OpenSpec.upto plantBestSpec)

/-- 'fumarolelaw07.PlantTables', WHERE WHAT IT READS IS OF BULK AT MOST 1048576: true; the input reads as it did. -/
def plantTablesUptoRow : OpenClaim := { program := "ytlhakkkjgdbdpaa", sum := "70fe1b7b76940dbbf7413e5a573032b0a751c8e57a6960ae15e42877066c2294", func := "fumarole/fumarolelaw07.PlantTables", spec := "plantTables", unfollowed := true, recurses := true, apart := false, narrowed := true }
def PlantTablesUptoSaid : Prop := plantTablesUptoRow.holds Try.pinned (OpenSpec.upto plantTablesSpec)

/-- 'fumarolelaw07.PlantPlans', WHERE WHAT IT READS IS OF BULK AT MOST 1048576: true; the input reads as it did. -/
def plantPlansUptoRow : OpenClaim := { program := "ytlhakkkjgdbdpaa", sum := "70fe1b7b76940dbbf7413e5a573032b0a751c8e57a6960ae15e42877066c2294", func := "fumarole/fumarolelaw07.PlantPlans", spec := "plantPlans", unfollowed := true, recurses := true, apart := false, narrowed := true }
def PlantPlansUptoSaid : Prop := plantPlansUptoRow.holds Try.pinned (OpenSpec.upto plantPlansSpec)

/-- 'fumarolelaw07.PlantExpands', WHERE WHAT IT READS IS OF BULK AT MOST 1048576: true; the input reads as it did. -/
def plantExpandsUptoRow : OpenClaim := { program := "ytlhakkkjgdbdpaa", sum := "70fe1b7b76940dbbf7413e5a573032b0a751c8e57a6960ae15e42877066c2294", func := "fumarole/fumarolelaw07.PlantExpands", spec := "plantExpands", unfollowed := true, recurses := true, apart := false, narrowed := true }
def PlantExpandsUptoSaid : Prop := plantExpandsUptoRow.holds Try.pinned (OpenSpec.upto plantExpandsSpec)

/-- 'fumarolelaw07.PlantNames', WHERE WHAT IT READS IS OF BULK AT MOST 1048576: true; the input reads as it did. -/
def plantNamesUptoRow : OpenClaim := { program := "ytlhakkkjgdbdpaa", sum := "70fe1b7b76940dbbf7413e5a573032b0a751c8e57a6960ae15e42877066c2294", func := "fumarole/fumarolelaw07.PlantNames", spec := "plantNames", unfollowed := true, recurses := true, apart := false, narrowed := true }
def PlantNamesUptoSaid : Prop := plantNamesUptoRow.holds Try.pinned (OpenSpec.upto plantNamesSpec)

end Rows
end Go.Proofs.Ytlhakkkjgdbdpaa
