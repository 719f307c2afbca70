/-
  The types of the program as Lean types, and how they lie in cells; facts on the program's types. No conditions.
-/
import Derived.Test.YtenpbiineblcjaaEngS
import Derived.Conc.MuLone
namespace Go.Proofs.Ytenpbiineblcjaa
open Go.RowKit

def c_i64 (x : Int) : List AV := [K .i64 x]
theorem nl_i64 : ∀ x, ∀ a ∈ c_i64 x, NLt 0 a := fun _ => nl_cons (.lit _) nl_nil
theorem one_i64 : ∀ x, (c_i64 x).all AV.one = true := fun _ => rfl
structure GRow where
  T : Int
  P : Int
  Liquid : Int
  Vapour : Int
  Silica : Int
  deriving DecidableEq
def c_GRow (x : GRow) : List AV := c_i64 x.T ++ c_i64 x.P ++ c_i64 x.Liquid ++ c_i64 x.Vapour ++ c_i64 x.Silica
theorem nl_GRow : ∀ x, ∀ a ∈ c_GRow x, NLt 0 a := fun _ => (nl_app (nl_app (nl_app (nl_app (nl_i64 _) (nl_i64 _)) (nl_i64 _)) (nl_i64 _)) (nl_i64 _))
theorem one_GRow : ∀ x, (c_GRow x).all AV.one = true := fun _ => (one_app (one_app (one_app (one_app (one_i64 _) (one_i64 _)) (one_i64 _)) (one_i64 _)) (one_i64 _))
structure GStream where
  Mass : Int
  Heat : Int
  Silica : Int
  Gas : Int
  deriving DecidableEq
def c_GStream (x : GStream) : List AV := c_i64 x.Mass ++ c_i64 x.Heat ++ c_i64 x.Silica ++ c_i64 x.Gas
theorem nl_GStream : ∀ x, ∀ a ∈ c_GStream x, NLt 0 a := fun _ => (nl_app (nl_app (nl_app (nl_i64 _) (nl_i64 _)) (nl_i64 _)) (nl_i64 _))
theorem one_GStream : ∀ x, (c_GStream x).all AV.one = true := fun _ => (one_app (one_app (one_app (one_i64 _) (one_i64 _)) (one_i64 _)) (one_i64 _))
structure GFlash where
  Row : GRow
  deriving DecidableEq
def c_GFlash (x : GFlash) : List AV := c_GRow x.Row
theorem nl_GFlash : ∀ x, ∀ a ∈ c_GFlash x, NLt 0 a := fun _ => (nl_GRow _)
theorem one_GFlash : ∀ x, (c_GFlash x).all AV.one = true := fun _ => (one_GRow _)
structure GParts where
  Steam : GStream
  Water : GStream
  Rest : Int
  Scale : Int
  deriving DecidableEq
def c_GParts (x : GParts) : List AV := c_GStream x.Steam ++ c_GStream x.Water ++ c_i64 x.Rest ++ c_i64 x.Scale
theorem nl_GParts : ∀ x, ∀ a ∈ c_GParts x, NLt 0 a := fun _ => (nl_app (nl_app (nl_app (nl_GStream _) (nl_GStream _)) (nl_i64 _)) (nl_i64 _))
theorem one_GParts : ∀ x, (c_GParts x).all AV.one = true := fun _ => (one_app (one_app (one_app (one_GStream _) (one_GStream _)) (one_i64 _)) (one_i64 _))
structure GRange where
  Lo : Int
  Hi : Int
  deriving DecidableEq
def c_GRange (x : GRange) : List AV := c_i64 x.Lo ++ c_i64 x.Hi
theorem nl_GRange : ∀ x, ∀ a ∈ c_GRange x, NLt 0 a := fun _ => (nl_app (nl_i64 _) (nl_i64 _))
theorem one_GRange : ∀ x, (c_GRange x).all AV.one = true := fun _ => (one_app (one_i64 _) (one_i64 _))
theorem ti3 : TI Try.prog 3 false 1 := ⟨⟨_, Try.underlying3, rfl⟩, inf_of (by kernel_rfl)⟩
theorem ti115 : TI Try.prog 115 true 5 := ⟨⟨_, Try.underlying115, rfl⟩, inf_of (by kernel_rfl)⟩
theorem ti42 : TI Try.prog 42 true 4 := ⟨⟨_, Try.underlying42, rfl⟩, inf_of (by kernel_rfl)⟩
theorem ti129 : TI Try.prog 129 false 1 := ⟨⟨_, Try.underlying129, rfl⟩, inf_of (by kernel_rfl)⟩
theorem ti44 : TI Try.prog 44 true 10 := ⟨⟨_, Try.underlying44, rfl⟩, inf_of (by kernel_rfl)⟩
theorem ti117 : TI Try.prog 117 true 5 := ⟨⟨_, Try.underlying117, rfl⟩, inf_of (by kernel_rfl)⟩
theorem ti121 : TI Try.prog 121 false 1 := ⟨⟨_, Try.underlying121, rfl⟩, inf_of (by kernel_rfl)⟩
theorem ti51 : TI Try.prog 51 false 1 := ⟨⟨_, Try.underlying51, rfl⟩, inf_of (by kernel_rfl)⟩
theorem ti30 : TI Try.prog 30 false 1 := ⟨⟨_, Try.underlying30, rfl⟩, inf_of (by kernel_rfl)⟩
theorem ti98 : TI Try.prog 98 false 1 := ⟨⟨_, Try.underlying98, rfl⟩, inf_of (by kernel_rfl)⟩
theorem ti26 : TI Try.prog 26 false 1 := ⟨⟨_, Try.underlying26, rfl⟩, inf_of (by kernel_rfl)⟩
theorem ti71 : TI Try.prog 71 true 2 := ⟨⟨_, Try.underlying71, rfl⟩, inf_of (by kernel_rfl)⟩
theorem ti120 : TI Try.prog 120 false 1 := ⟨⟨_, Try.underlying120, rfl⟩, inf_of (by kernel_rfl)⟩
theorem ts115 : TS Try.prog 115 [(0, 1), (1, 1), (2, 1), (3, 1), (4, 1)] := ⟨_, Try.underlying115, ⟨rfl, ⟨_, ti3⟩, rfl, ⟨_, ti3⟩, rfl, ⟨_, ti3⟩, rfl, ⟨_, ti3⟩, rfl, ⟨_, ti3⟩, trivial⟩⟩
theorem ts42 : TS Try.prog 42 [(0, 1), (1, 1), (2, 1), (3, 1)] := ⟨_, Try.underlying42, ⟨rfl, ⟨_, ti3⟩, rfl, ⟨_, ti3⟩, rfl, ⟨_, ti3⟩, rfl, ⟨_, ti3⟩, trivial⟩⟩
theorem ts44 : TS Try.prog 44 [(0, 4), (4, 4), (8, 1), (9, 1)] := ⟨_, Try.underlying44, ⟨rfl, ⟨_, ti42⟩, rfl, ⟨_, ti42⟩, rfl, ⟨_, ti3⟩, rfl, ⟨_, ti3⟩, trivial⟩⟩
theorem ts117 : TS Try.prog 117 [(0, 5)] := ⟨_, Try.underlying117, ⟨rfl, ⟨_, ti115⟩, trivial⟩⟩
theorem ts71 : TS Try.prog 71 [(0, 1), (1, 1)] := ⟨_, Try.underlying71, ⟨rfl, ⟨_, ti3⟩, rfl, ⟨_, ti3⟩, trivial⟩⟩
theorem tz115 : TZ Try.prog 115 [.int .i64 0, .int .i64 0, .int .i64 0, .int .i64 0, .int .i64 0] := tz_of (by kernel_rfl)
theorem tz42 : TZ Try.prog 42 [.int .i64 0, .int .i64 0, .int .i64 0, .int .i64 0] := tz_of (by kernel_rfl)
theorem tz44 : TZ Try.prog 44 [.int .i64 0, .int .i64 0, .int .i64 0, .int .i64 0, .int .i64 0, .int .i64 0, .int .i64 0, .int .i64 0, .int .i64 0, .int .i64 0] := tz_of (by kernel_rfl)
theorem enter65 : ∀ vals w, (callFunc 65 vals).run Try.prog w = .ok (.enter 65 vals) w := fun vals w => MuLone.run_callFunc_enter Try.func65 (by kernel_rfl) rfl vals w
theorem enter81 : ∀ vals w, (callFunc 81 vals).run Try.prog w = .ok (.enter 81 vals) w := fun vals w => MuLone.run_callFunc_enter Try.func81 (by kernel_rfl) rfl vals w
theorem enter95 : ∀ vals w, (callFunc 95 vals).run Try.prog w = .ok (.enter 95 vals) w := fun vals w => MuLone.run_callFunc_enter Try.func95 (by kernel_rfl) rfl vals w
theorem enter99 : ∀ vals w, (callFunc 99 vals).run Try.prog w = .ok (.enter 99 vals) w := fun vals w => MuLone.run_callFunc_enter Try.func99 (by kernel_rfl) rfl vals w
theorem enter94 : ∀ vals w, (callFunc 94 vals).run Try.prog w = .ok (.enter 94 vals) w := fun vals w => MuLone.run_callFunc_enter Try.func94 (by kernel_rfl) rfl vals w
theorem enter80 : ∀ vals w, (callFunc 80 vals).run Try.prog w = .ok (.enter 80 vals) w := fun vals w => MuLone.run_callFunc_enter Try.func80 (by kernel_rfl) rfl vals w
theorem enter56 : ∀ vals w, (callFunc 56 vals).run Try.prog w = .ok (.enter 56 vals) w := fun vals w => MuLone.run_callFunc_enter Try.func56 (by kernel_rfl) rfl vals w
theorem enter62 : ∀ vals w, (callFunc 62 vals).run Try.prog w = .ok (.enter 62 vals) w := fun vals w => MuLone.run_callFunc_enter Try.func62 (by kernel_rfl) rfl vals w
theorem enter63 : ∀ vals w, (callFunc 63 vals).run Try.prog w = .ok (.enter 63 vals) w := fun vals w => MuLone.run_callFunc_enter Try.func63 (by kernel_rfl) rfl vals w
theorem tz117 : TZ Try.prog 117 [.int .i64 0, .int .i64 0, .int .i64 0, .int .i64 0, .int .i64 0] := tz_of (by kernel_rfl)
theorem enter60 : ∀ vals w, (callFunc 60 vals).run Try.prog w = .ok (.enter 60 vals) w := fun vals w => MuLone.run_callFunc_enter Try.func60 (by kernel_rfl) rfl vals w
theorem enter84 : ∀ vals w, (callFunc 84 vals).run Try.prog w = .ok (.enter 84 vals) w := fun vals w => MuLone.run_callFunc_enter Try.func84 (by kernel_rfl) rfl vals w
theorem enter61 : ∀ vals w, (callFunc 61 vals).run Try.prog w = .ok (.enter 61 vals) w := fun vals w => MuLone.run_callFunc_enter Try.func61 (by kernel_rfl) rfl vals w
theorem enter85 : ∀ vals w, (callFunc 85 vals).run Try.prog w = .ok (.enter 85 vals) w := fun vals w => MuLone.run_callFunc_enter Try.func85 (by kernel_rfl) rfl vals w
theorem enter86 : ∀ vals w, (callFunc 86 vals).run Try.prog w = .ok (.enter 86 vals) w := fun vals w => MuLone.run_callFunc_enter Try.func86 (by kernel_rfl) rfl vals w
theorem enter67 : ∀ vals w, (callFunc 67 vals).run Try.prog w = .ok (.enter 67 vals) w := fun vals w => MuLone.run_callFunc_enter Try.func67 (by kernel_rfl) rfl vals w
theorem enter66 : ∀ vals w, (callFunc 66 vals).run Try.prog w = .ok (.enter 66 vals) w := fun vals w => MuLone.run_callFunc_enter Try.func66 (by kernel_rfl) rfl vals w
theorem enter79 : ∀ vals w, (callFunc 79 vals).run Try.prog w = .ok (.enter 79 vals) w := fun vals w => MuLone.run_callFunc_enter Try.func79 (by kernel_rfl) rfl vals w
theorem te44 : TE Try.prog 44 10 80 := te_of (by kernel_rfl) (by decide)
theorem enter93 : ∀ vals w, (callFunc 93 vals).run Try.prog w = .ok (.enter 93 vals) w := fun vals w => MuLone.run_callFunc_enter Try.func93 (by kernel_rfl) rfl vals w
theorem enter92 : ∀ vals w, (callFunc 92 vals).run Try.prog w = .ok (.enter 92 vals) w := fun vals w => MuLone.run_callFunc_enter Try.func92 (by kernel_rfl) rfl vals w
theorem enter78 : ∀ vals w, (callFunc 78 vals).run Try.prog w = .ok (.enter 78 vals) w := fun vals w => MuLone.run_callFunc_enter Try.func78 (by kernel_rfl) rfl vals w
theorem tz3 : TZ Try.prog 3 [.int .i64 0] := tz_of (by kernel_rfl)
theorem tz26 : TZ Try.prog 26 [.int .i64 0] := tz_of (by kernel_rfl)
theorem enter77 : ∀ vals w, (callFunc 77 vals).run Try.prog w = .ok (.enter 77 vals) w := fun vals w => MuLone.run_callFunc_enter Try.func77 (by kernel_rfl) rfl vals w
theorem enter91 : ∀ vals w, (callFunc 91 vals).run Try.prog w = .ok (.enter 91 vals) w := fun vals w => MuLone.run_callFunc_enter Try.func91 (by kernel_rfl) rfl vals w
theorem tz71 : TZ Try.prog 71 [.int .i64 0, .int .i64 0] := tz_of (by kernel_rfl)
theorem enter73 : ∀ vals w, (callFunc 73 vals).run Try.prog w = .ok (.enter 73 vals) w := fun vals w => MuLone.run_callFunc_enter Try.func73 (by kernel_rfl) rfl vals w
theorem enter83 : ∀ vals w, (callFunc 83 vals).run Try.prog w = .ok (.enter 83 vals) w := fun vals w => MuLone.run_callFunc_enter Try.func83 (by kernel_rfl) rfl vals w
theorem enter96 : ∀ vals w, (callFunc 96 vals).run Try.prog w = .ok (.enter 96 vals) w := fun vals w => MuLone.run_callFunc_enter Try.func96 (by kernel_rfl) rfl vals w
theorem enter82 : ∀ vals w, (callFunc 82 vals).run Try.prog w = .ok (.enter 82 vals) w := fun vals w => MuLone.run_callFunc_enter Try.func82 (by kernel_rfl) rfl vals w
theorem enter58 : ∀ vals w, (callFunc 58 vals).run Try.prog w = .ok (.enter 58 vals) w := fun vals w => MuLone.run_callFunc_enter Try.func58 (by kernel_rfl) rfl vals w
theorem enter57 : ∀ vals w, (callFunc 57 vals).run Try.prog w = .ok (.enter 57 vals) w := fun vals w => MuLone.run_callFunc_enter Try.func57 (by kernel_rfl) rfl vals w
theorem enter59 : ∀ vals w, (callFunc 59 vals).run Try.prog w = .ok (.enter 59 vals) w := fun vals w => MuLone.run_callFunc_enter Try.func59 (by kernel_rfl) rfl vals w
theorem enter54 : ∀ vals w, (callFunc 54 vals).run Try.prog w = .ok (.enter 54 vals) w := fun vals w => MuLone.run_callFunc_enter Try.func54 (by kernel_rfl) rfl vals w
theorem enter55 : ∀ vals w, (callFunc 55 vals).run Try.prog w = .ok (.enter 55 vals) w := fun vals w => MuLone.run_callFunc_enter Try.func55 (by kernel_rfl) rfl vals w
theorem enter25 : ∀ vals w, (callFunc 25 vals).run Try.prog w = .ok (.enter 25 vals) w := fun vals w => MuLone.run_callFunc_enter Try.func25 (by kernel_rfl) rfl vals w
theorem enter49 : ∀ vals w, (callFunc 49 vals).run Try.prog w = .ok (.enter 49 vals) w := fun vals w => MuLone.run_callFunc_enter Try.func49 (by kernel_rfl) rfl vals w
theorem enter42 : ∀ vals w, (callFunc 42 vals).run Try.prog w = .ok (.enter 42 vals) w := fun vals w => MuLone.run_callFunc_enter Try.func42 (by kernel_rfl) rfl vals w
theorem enter36 : ∀ vals w, (callFunc 36 vals).run Try.prog w = .ok (.enter 36 vals) w := fun vals w => MuLone.run_callFunc_enter Try.func36 (by kernel_rfl) rfl vals w
theorem enter44 : ∀ vals w, (callFunc 44 vals).run Try.prog w = .ok (.enter 44 vals) w := fun vals w => MuLone.run_callFunc_enter Try.func44 (by kernel_rfl) rfl vals w
theorem enter18 : ∀ vals w, (callFunc 18 vals).run Try.prog w = .ok (.enter 18 vals) w := fun vals w => MuLone.run_callFunc_enter Try.func18 (by kernel_rfl) rfl vals w
theorem enter46 : ∀ vals w, (callFunc 46 vals).run Try.prog w = .ok (.enter 46 vals) w := fun vals w => MuLone.run_callFunc_enter Try.func46 (by kernel_rfl) rfl vals w
theorem enter29 : ∀ vals w, (callFunc 29 vals).run Try.prog w = .ok (.enter 29 vals) w := fun vals w => MuLone.run_callFunc_enter Try.func29 (by kernel_rfl) rfl vals w
theorem enter17 : ∀ vals w, (callFunc 17 vals).run Try.prog w = .ok (.enter 17 vals) w := fun vals w => MuLone.run_callFunc_enter Try.func17 (by kernel_rfl) rfl vals w
theorem eqt42_9999 : EqT Try.prog 9999 42 4 := eqT_struct (d := 9997) Try.underlying42 (by kernel_rfl) (.int _ (by decide) rfl Try.underlying3 (.int _ (by decide) rfl Try.underlying3 (.int _ (by decide) rfl Try.underlying3 (.int _ (by decide) rfl Try.underlying3 (.nil _)))))
theorem eqt44 : EqT Try.prog 10000 44 10 := eqT_struct (d := 9998) Try.underlying44 (by kernel_rfl) (.agg _ (by decide) rfl ti42 eqt42_9999 (.agg _ (by decide) rfl ti42 eqt42_9999 (.int _ (by decide) rfl Try.underlying3 (.int _ (by decide) rfl Try.underlying3 (.nil _)))))
theorem eqt71 : EqT Try.prog 10000 71 2 := eqT_struct (d := 9998) Try.underlying71 (by kernel_rfl) (.int _ (by decide) rfl Try.underlying3 (.int _ (by decide) rfl Try.underlying3 (.nil _)))
end Go.Proofs.Ytenpbiineblcjaa
