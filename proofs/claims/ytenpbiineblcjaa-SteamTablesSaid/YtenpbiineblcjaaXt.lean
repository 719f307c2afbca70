/-
  The types of the program as Lean types, and how they lie in cells; facts on the program's types. No conditions.
-/
import Derived.Test.YtenpbiineblcjaaEngN
import Derived.Conc.MuLone
namespace Go.Proofs.Ytenpbiineblcjaa
open Go.RowKit

def c_i64 (x : Int) : List AV := [K .i64 x]
theorem nl_i64 : ∀ x, ∀ a ∈ c_i64 x, NLt 0 a := fun _ => nl_cons (.lit _) nl_nil
theorem one_i64 : ∀ x, (c_i64 x).all AV.one = true := fun _ => rfl
structure GRow where
  T : Int
  P : Int
  Liquid : Int
  Vapour : Int
  Silica : Int
  deriving DecidableEq
def c_GRow (x : GRow) : List AV := c_i64 x.T ++ c_i64 x.P ++ c_i64 x.Liquid ++ c_i64 x.Vapour ++ c_i64 x.Silica
theorem nl_GRow : ∀ x, ∀ a ∈ c_GRow x, NLt 0 a := fun _ => (nl_app (nl_app (nl_app (nl_app (nl_i64 _) (nl_i64 _)) (nl_i64 _)) (nl_i64 _)) (nl_i64 _))
theorem one_GRow : ∀ x, (c_GRow x).all AV.one = true := fun _ => (one_app (one_app (one_app (one_app (one_i64 _) (one_i64 _)) (one_i64 _)) (one_i64 _)) (one_i64 _))
structure GRatio where
  N : Int
  D : Int
  deriving DecidableEq
def c_GRatio (x : GRatio) : List AV := c_i64 x.N ++ c_i64 x.D
theorem nl_GRatio : ∀ x, ∀ a ∈ c_GRatio x, NLt 0 a := fun _ => (nl_app (nl_i64 _) (nl_i64 _))
theorem one_GRatio : ∀ x, (c_GRatio x).all AV.one = true := fun _ => (one_app (one_i64 _) (one_i64 _))
structure GStream where
  Mass : Int
  Heat : Int
  Silica : Int
  Gas : Int
  deriving DecidableEq
def c_GStream (x : GStream) : List AV := c_i64 x.Mass ++ c_i64 x.Heat ++ c_i64 x.Silica ++ c_i64 x.Gas
theorem nl_GStream : ∀ x, ∀ a ∈ c_GStream x, NLt 0 a := fun _ => (nl_app (nl_app (nl_app (nl_i64 _) (nl_i64 _)) (nl_i64 _)) (nl_i64 _))
theorem one_GStream : ∀ x, (c_GStream x).all AV.one = true := fun _ => (one_app (one_app (one_app (one_i64 _) (one_i64 _)) (one_i64 _)) (one_i64 _))
structure GRange where
  Lo : Int
  Hi : Int
  deriving DecidableEq
def c_GRange (x : GRange) : List AV := c_i64 x.Lo ++ c_i64 x.Hi
theorem nl_GRange : ∀ x, ∀ a ∈ c_GRange x, NLt 0 a := fun _ => (nl_app (nl_i64 _) (nl_i64 _))
theorem one_GRange : ∀ x, (c_GRange x).all AV.one = true := fun _ => (one_app (one_i64 _) (one_i64 _))
theorem ti115 : TI Try.prog 115 true 5 := ⟨⟨_, Try.underlying115, rfl⟩, inf_of (by kernel_rfl)⟩
theorem ti129 : TI Try.prog 129 false 1 := ⟨⟨_, Try.underlying129, rfl⟩, inf_of (by kernel_rfl)⟩
theorem ti3 : TI Try.prog 3 false 1 := ⟨⟨_, Try.underlying3, rfl⟩, inf_of (by kernel_rfl)⟩
theorem ti49 : TI Try.prog 49 true 5 := ⟨⟨_, Try.underlying49, rfl⟩, inf_of (by kernel_rfl)⟩
theorem ti83 : TI Try.prog 83 true 2 := ⟨⟨_, Try.underlying83, rfl⟩, inf_of (by kernel_rfl)⟩
theorem ti42 : TI Try.prog 42 true 4 := ⟨⟨_, Try.underlying42, rfl⟩, inf_of (by kernel_rfl)⟩
theorem ti95 : TI Try.prog 95 true 2 := ⟨⟨_, Try.underlying95, rfl⟩, inf_of (by kernel_rfl)⟩
theorem ti39 : TI Try.prog 39 true 4 := ⟨⟨_, Try.underlying39, rfl⟩, inf_of (by kernel_rfl)⟩
theorem ti70 : TI Try.prog 70 true 2 := ⟨⟨_, Try.underlying70, rfl⟩, inf_of (by kernel_rfl)⟩
theorem ts115 : TS Try.prog 115 [(0, 1), (1, 1), (2, 1), (3, 1), (4, 1)] := ⟨_, Try.underlying115, ⟨rfl, ⟨_, ti3⟩, rfl, ⟨_, ti3⟩, rfl, ⟨_, ti3⟩, rfl, ⟨_, ti3⟩, rfl, ⟨_, ti3⟩, trivial⟩⟩
theorem ts83 : TS Try.prog 83 [(0, 1), (1, 1)] := ⟨_, Try.underlying83, ⟨rfl, ⟨_, ti3⟩, rfl, ⟨_, ti3⟩, trivial⟩⟩
theorem ts42 : TS Try.prog 42 [(0, 1), (1, 1), (2, 1), (3, 1)] := ⟨_, Try.underlying42, ⟨rfl, ⟨_, ti3⟩, rfl, ⟨_, ti3⟩, rfl, ⟨_, ti3⟩, rfl, ⟨_, ti3⟩, trivial⟩⟩
theorem ts95 : TS Try.prog 95 [(0, 1), (1, 1)] := ⟨_, Try.underlying95, ⟨rfl, ⟨_, ti3⟩, rfl, ⟨_, ti3⟩, trivial⟩⟩
theorem ts70 : TS Try.prog 70 [(0, 1), (1, 1)] := ⟨_, Try.underlying70, ⟨rfl, ⟨_, ti3⟩, rfl, ⟨_, ti3⟩, trivial⟩⟩
theorem enter65 : ∀ vals w, (callFunc 65 vals).run Try.prog w = .ok (.enter 65 vals) w := fun vals w => MuLone.run_callFunc_enter Try.func65 (by kernel_rfl) rfl vals w
theorem enter81 : ∀ vals w, (callFunc 81 vals).run Try.prog w = .ok (.enter 81 vals) w := fun vals w => MuLone.run_callFunc_enter Try.func81 (by kernel_rfl) rfl vals w
theorem enter95 : ∀ vals w, (callFunc 95 vals).run Try.prog w = .ok (.enter 95 vals) w := fun vals w => MuLone.run_callFunc_enter Try.func95 (by kernel_rfl) rfl vals w
theorem enter99 : ∀ vals w, (callFunc 99 vals).run Try.prog w = .ok (.enter 99 vals) w := fun vals w => MuLone.run_callFunc_enter Try.func99 (by kernel_rfl) rfl vals w
theorem enter94 : ∀ vals w, (callFunc 94 vals).run Try.prog w = .ok (.enter 94 vals) w := fun vals w => MuLone.run_callFunc_enter Try.func94 (by kernel_rfl) rfl vals w
theorem enter80 : ∀ vals w, (callFunc 80 vals).run Try.prog w = .ok (.enter 80 vals) w := fun vals w => MuLone.run_callFunc_enter Try.func80 (by kernel_rfl) rfl vals w
theorem tz115 : TZ Try.prog 115 [.int .i64 0, .int .i64 0, .int .i64 0, .int .i64 0, .int .i64 0] := tz_of (by kernel_rfl)
theorem te115 : TE Try.prog 115 5 40 := te_of (by kernel_rfl) (by decide)
theorem tz83 : TZ Try.prog 83 [.int .i64 0, .int .i64 0] := tz_of (by kernel_rfl)
theorem enter56 : ∀ vals w, (callFunc 56 vals).run Try.prog w = .ok (.enter 56 vals) w := fun vals w => MuLone.run_callFunc_enter Try.func56 (by kernel_rfl) rfl vals w
theorem enter75 : ∀ vals w, (callFunc 75 vals).run Try.prog w = .ok (.enter 75 vals) w := fun vals w => MuLone.run_callFunc_enter Try.func75 (by kernel_rfl) rfl vals w
theorem enter74 : ∀ vals w, (callFunc 74 vals).run Try.prog w = .ok (.enter 74 vals) w := fun vals w => MuLone.run_callFunc_enter Try.func74 (by kernel_rfl) rfl vals w
theorem enter76 : ∀ vals w, (callFunc 76 vals).run Try.prog w = .ok (.enter 76 vals) w := fun vals w => MuLone.run_callFunc_enter Try.func76 (by kernel_rfl) rfl vals w
theorem tz42 : TZ Try.prog 42 [.int .i64 0, .int .i64 0, .int .i64 0, .int .i64 0] := tz_of (by kernel_rfl)
theorem enter63 : ∀ vals w, (callFunc 63 vals).run Try.prog w = .ok (.enter 63 vals) w := fun vals w => MuLone.run_callFunc_enter Try.func63 (by kernel_rfl) rfl vals w
theorem enter31 : ∀ vals w, (callFunc 31 vals).run Try.prog w = .ok (.enter 31 vals) w := fun vals w => MuLone.run_callFunc_enter Try.func31 (by kernel_rfl) rfl vals w
theorem tz49 : TZ Try.prog 49 [.int .i64 0, .int .i64 0, .int .i64 0, .int .i64 0, .int .i64 0] := tz_of (by kernel_rfl)
theorem tz95 : TZ Try.prog 95 [.int .i64 0, .int .i64 0] := tz_of (by kernel_rfl)
theorem enter43 : ∀ vals w, (callFunc 43 vals).run Try.prog w = .ok (.enter 43 vals) w := fun vals w => MuLone.run_callFunc_enter Try.func43 (by kernel_rfl) rfl vals w
theorem enter17 : ∀ vals w, (callFunc 17 vals).run Try.prog w = .ok (.enter 17 vals) w := fun vals w => MuLone.run_callFunc_enter Try.func17 (by kernel_rfl) rfl vals w
theorem enter19 : ∀ vals w, (callFunc 19 vals).run Try.prog w = .ok (.enter 19 vals) w := fun vals w => MuLone.run_callFunc_enter Try.func19 (by kernel_rfl) rfl vals w
theorem enter42 : ∀ vals w, (callFunc 42 vals).run Try.prog w = .ok (.enter 42 vals) w := fun vals w => MuLone.run_callFunc_enter Try.func42 (by kernel_rfl) rfl vals w
theorem enter41 : ∀ vals w, (callFunc 41 vals).run Try.prog w = .ok (.enter 41 vals) w := fun vals w => MuLone.run_callFunc_enter Try.func41 (by kernel_rfl) rfl vals w
theorem enter24 : ∀ vals w, (callFunc 24 vals).run Try.prog w = .ok (.enter 24 vals) w := fun vals w => MuLone.run_callFunc_enter Try.func24 (by kernel_rfl) rfl vals w
theorem enter26 : ∀ vals w, (callFunc 26 vals).run Try.prog w = .ok (.enter 26 vals) w := fun vals w => MuLone.run_callFunc_enter Try.func26 (by kernel_rfl) rfl vals w
theorem enter29 : ∀ vals w, (callFunc 29 vals).run Try.prog w = .ok (.enter 29 vals) w := fun vals w => MuLone.run_callFunc_enter Try.func29 (by kernel_rfl) rfl vals w
theorem enter21 : ∀ vals w, (callFunc 21 vals).run Try.prog w = .ok (.enter 21 vals) w := fun vals w => MuLone.run_callFunc_enter Try.func21 (by kernel_rfl) rfl vals w
theorem enter46 : ∀ vals w, (callFunc 46 vals).run Try.prog w = .ok (.enter 46 vals) w := fun vals w => MuLone.run_callFunc_enter Try.func46 (by kernel_rfl) rfl vals w
theorem enter47 : ∀ vals w, (callFunc 47 vals).run Try.prog w = .ok (.enter 47 vals) w := fun vals w => MuLone.run_callFunc_enter Try.func47 (by kernel_rfl) rfl vals w
theorem enter48 : ∀ vals w, (callFunc 48 vals).run Try.prog w = .ok (.enter 48 vals) w := fun vals w => MuLone.run_callFunc_enter Try.func48 (by kernel_rfl) rfl vals w
theorem tz70 : TZ Try.prog 70 [.int .i64 0, .int .i64 0] := tz_of (by kernel_rfl)
theorem enter40 : ∀ vals w, (callFunc 40 vals).run Try.prog w = .ok (.enter 40 vals) w := fun vals w => MuLone.run_callFunc_enter Try.func40 (by kernel_rfl) rfl vals w
theorem eqt83 : EqT Try.prog 10000 83 2 := eqT_struct (d := 9998) Try.underlying83 (by kernel_rfl) (.int _ (by decide) rfl Try.underlying3 (.int _ (by decide) rfl Try.underlying3 (.nil _)))
end Go.Proofs.Ytenpbiineblcjaa
