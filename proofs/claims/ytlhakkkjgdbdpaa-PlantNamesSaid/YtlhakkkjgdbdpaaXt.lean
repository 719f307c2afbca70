/-
  The types of the program as Lean types, and how they lie in cells; facts on the program's types. No conditions.
-/
import Derived.Test.YtlhakkkjgdbdpaaEngY
import Derived.Test.YtlhakkkjgdbdpaaEngN
import Derived.Conc.MuLone
namespace Go.Proofs.Ytlhakkkjgdbdpaa
open Go.RowKit
def Qad (x : Int) : List AV := [K .i64 x]
theorem Qaa : ∀ x, ∀ a ∈ Qad x, NLt 0 a := fun _ => Qoy (.lit _) Qsc
theorem one_i64 : ∀ x, (Qad x).all AV.one = true := fun _ => rfl
structure GPart where
  Width : Int
  Gain : Int
  deriving DecidableEq
def Qby (x : GPart) : List AV := Qad x.Width ++ Qad x.Gain
theorem Qbc : ∀ x, ∀ a ∈ Qby x, NLt 0 a := fun _ => (Qoz (Qaa _) (Qaa _))
def Qvo (x : (List GPart)) : List AV := [.dat 2 (x.map Qby)]
theorem nl_LGPart : ∀ x, ∀ a ∈ Qvo x, NLt 0 a := fun _ => Qoy (Qy9 Qbc _) Qsc
structure GUnit where
  Inlet : Int
  Parts : List GPart
  deriving DecidableEq
def Qbo (x : GUnit) : List AV := Qad x.Inlet ++ Qvo x.Parts
theorem Qan : ∀ x, ∀ a ∈ Qbo x, NLt 0 a := fun _ => (Qoz (Qaa _) (nl_LGPart _))
structure GCycle where
  Out : Int
  Yield : Int
  Most : Int
  deriving DecidableEq
def Qvp (x : GCycle) : List AV := Qad x.Out ++ Qad x.Yield ++ Qad x.Most
structure GStream where
  Mass : Int
  Heat : Int
  Silica : Int
  Gas : Int
  deriving DecidableEq
def Qa9 (x : GStream) : List AV := Qad x.Mass ++ Qad x.Heat ++ Qad x.Silica ++ Qad x.Gas
theorem Qc2 : ∀ x, ∀ a ∈ Qa9 x, NLt 0 a := fun _ => (Qoz (Qoz (Qoz (Qaa _) (Qaa _)) (Qaa _)) (Qaa _))
structure GPiece where
  unit : Int
  Part : GPart
  deriving DecidableEq
def Qap (x : GPiece) : List AV := Qad x.unit ++ Qby x.Part
theorem Qah : ∀ x, ∀ a ∈ Qap x, NLt 0 a := fun _ => (Qoz (Qaa _) (Qbc _))
def Qjz (x : (List Int)) : List AV := [.dat 1 (x.map Qad)]
theorem Qni : ∀ x, ∀ a ∈ Qjz x, NLt 0 a := fun _ => Qoy (Qy9 Qaa _) Qsc
def c_LGUnit (x : (List GUnit)) : List AV := [.dat 2 (x.map Qbo)]
structure GShared where
  heads : List Int
  units : List GUnit
  deriving DecidableEq
def Qlf (x : GShared) : List AV := Qjz x.heads ++ c_LGUnit x.units
structure GHour where
  Price : Int
  Most : Int
  deriving DecidableEq
def Qcr (x : GHour) : List AV := Qad x.Price ++ Qad x.Most
theorem Qay : ∀ x, ∀ a ∈ Qcr x, NLt 0 a := fun _ => (Qoz (Qaa _) (Qaa _))
def c_LGHour (x : (List GHour)) : List AV := [.dat 2 (x.map Qcr)]
structure GJob where
  Levels : List Int
  Ramp : Int
  Start : Int
  First : Int
  Hours : List GHour
  deriving DecidableEq
def Qo5 (x : GJob) : List AV := Qjz x.Levels ++ Qad x.Ramp ++ Qad x.Start ++ Qad x.First ++ c_LGHour x.Hours
def Qft (x : Bool) : List AV := [B x]
theorem Qc1 : ∀ x, ∀ a ∈ Qft x, NLt 0 a := fun _ => Qoy (.lit _) Qsc
theorem ti34 : TI Try.prog 34 true 2 := ⟨⟨_, Try.underlying34, rfl⟩, Qd7 (by kernel_rfl)⟩
theorem ti3 : TI Try.prog 3 false 1 := ⟨⟨_, Try.underlying3, rfl⟩, Qd7 (by kernel_rfl)⟩
theorem ti32 : TI Try.prog 32 false 1 := ⟨⟨_, Try.underlying32, rfl⟩, Qd7 (by kernel_rfl)⟩
theorem Qn1 : TI Try.prog 118 true 2 := ⟨⟨_, Try.underlying118, rfl⟩, Qd7 (by kernel_rfl)⟩
theorem ti147 : TI Try.prog 147 false 1 := ⟨⟨_, Try.underlying147, rfl⟩, Qd7 (by kernel_rfl)⟩
theorem ti66 : TI Try.prog 66 true 3 := ⟨⟨_, Try.underlying66, rfl⟩, Qd7 (by kernel_rfl)⟩
theorem ti60 : TI Try.prog 60 true 4 := ⟨⟨_, Try.underlying60, rfl⟩, Qd7 (by kernel_rfl)⟩
theorem ti155 : TI Try.prog 155 false 1 := ⟨⟨_, Try.underlying155, rfl⟩, Qd7 (by kernel_rfl)⟩
theorem ti89 : TI Try.prog 89 false 1 := ⟨⟨_, Try.underlying89, rfl⟩, Qd7 (by kernel_rfl)⟩
theorem ti133 : TI Try.prog 133 true 2 := ⟨⟨_, Try.underlying133, rfl⟩, Qd7 (by kernel_rfl)⟩
theorem ti37 : TI Try.prog 37 false 1 := ⟨⟨_, Try.underlying37, rfl⟩, Qd7 (by kernel_rfl)⟩
theorem Qd3 : TI Try.prog 160 true 3 := ⟨⟨_, Try.underlying160, rfl⟩, Qd7 (by kernel_rfl)⟩
theorem ti162 : TI Try.prog 162 false 1 := ⟨⟨_, Try.underlying162, rfl⟩, Qd7 (by kernel_rfl)⟩
theorem ti126 : TI Try.prog 126 false 1 := ⟨⟨_, Try.underlying126, rfl⟩, Qd7 (by kernel_rfl)⟩
theorem ti157 : TI Try.prog 157 false 1 := ⟨⟨_, Try.underlying157, rfl⟩, Qd7 (by kernel_rfl)⟩
theorem ti47 : TI Try.prog 47 true 5 := ⟨⟨_, Try.underlying47, rfl⟩, Qd7 (by kernel_rfl)⟩
theorem ti45 : TI Try.prog 45 false 1 := ⟨⟨_, Try.underlying45, rfl⟩, Qd7 (by kernel_rfl)⟩
theorem ti50 : TI Try.prog 50 true 2 := ⟨⟨_, Try.underlying50, rfl⟩, Qd7 (by kernel_rfl)⟩
theorem ti152 : TI Try.prog 152 false 1 := ⟨⟨_, Try.underlying152, rfl⟩, Qd7 (by kernel_rfl)⟩
theorem ti42 : TI Try.prog 42 false 1 := ⟨⟨_, Try.underlying42, rfl⟩, Qd7 (by kernel_rfl)⟩
theorem ti120 : TI Try.prog 120 false 1 := ⟨⟨_, Try.underlying120, rfl⟩, Qd7 (by kernel_rfl)⟩
theorem Qjk : TI Try.prog 121 false 1 := ⟨⟨_, Try.underlying121, rfl⟩, Qd7 (by kernel_rfl)⟩
theorem ti4 : TI Try.prog 4 false 1 := ⟨⟨_, Try.underlying4, rfl⟩, Qd7 (by kernel_rfl)⟩
theorem ti22 : TI Try.prog 22 false 1 := ⟨⟨_, Try.underlying22, rfl⟩, Qd7 (by kernel_rfl)⟩
theorem ti115 : TI Try.prog 115 true 2 := ⟨⟨_, Try.underlying115, rfl⟩, Qd7 (by kernel_rfl)⟩
theorem ti24 : TI Try.prog 24 true 2 := ⟨⟨_, Try.underlying24, rfl⟩, Qd7 (by kernel_rfl)⟩
theorem ti57 : TI Try.prog 57 true 4 := ⟨⟨_, Try.underlying57, rfl⟩, Qd7 (by kernel_rfl)⟩
theorem ti59 : TI Try.prog 59 true 3 := ⟨⟨_, Try.underlying59, rfl⟩, Qd7 (by kernel_rfl)⟩
theorem Qpg : TI Try.prog 168 false 1 := ⟨⟨_, Try.underlying168, rfl⟩, Qd7 (by kernel_rfl)⟩
theorem ti169 : TI Try.prog 169 true 4 := ⟨⟨_, Try.underlying169, rfl⟩, Qd7 (by kernel_rfl)⟩
theorem ti38 : TI Try.prog 38 false 1 := ⟨⟨_, Try.underlying38, rfl⟩, Qd7 (by kernel_rfl)⟩
theorem ti119 : TI Try.prog 119 true 2 := ⟨⟨_, Try.underlying119, rfl⟩, Qd7 (by kernel_rfl)⟩
theorem ti40 : TI Try.prog 40 true 5 := ⟨⟨_, Try.underlying40, rfl⟩, Qd7 (by kernel_rfl)⟩
theorem ts60 : TS Try.prog 60 [(0, 1), (1, 1), (2, 1), (3, 1)] := ⟨_, Try.underlying60, ⟨rfl, ⟨_, ti3⟩, rfl, ⟨_, ti3⟩, rfl, ⟨_, ti3⟩, rfl, ⟨_, ti3⟩, trivial⟩⟩
theorem ts160 : TS Try.prog 160 [(0, 1), (1, 2)] := ⟨_, Try.underlying160, ⟨rfl, ⟨_, ti3⟩, rfl, ⟨_, Qn1⟩, trivial⟩⟩
theorem ts133 : TS Try.prog 133 [(0, 1), (1, 1)] := ⟨_, Try.underlying133, ⟨rfl, ⟨_, ti37⟩, rfl, ⟨_, ti89⟩, trivial⟩⟩
theorem ts118 : TS Try.prog 118 [(0, 1), (1, 1)] := ⟨_, Try.underlying118, ⟨rfl, ⟨_, ti3⟩, rfl, ⟨_, ti3⟩, trivial⟩⟩
theorem ts34 : TS Try.prog 34 [(0, 1), (1, 1)] := ⟨_, Try.underlying34, ⟨rfl, ⟨_, ti3⟩, rfl, ⟨_, ti32⟩, trivial⟩⟩
theorem ts66 : TS Try.prog 66 [(0, 1), (1, 1), (2, 1)] := ⟨_, Try.underlying66, ⟨rfl, ⟨_, ti3⟩, rfl, ⟨_, ti3⟩, rfl, ⟨_, ti3⟩, trivial⟩⟩
theorem ts50 : TS Try.prog 50 [(0, 1), (1, 1)] := ⟨_, Try.underlying50, ⟨rfl, ⟨_, ti3⟩, rfl, ⟨_, ti3⟩, trivial⟩⟩
theorem ts47 : TS Try.prog 47 [(0, 1), (1, 1), (2, 1), (3, 1), (4, 1)] := ⟨_, Try.underlying47, ⟨rfl, ⟨_, ti37⟩, rfl, ⟨_, ti3⟩, rfl, ⟨_, ti3⟩, rfl, ⟨_, ti3⟩, rfl, ⟨_, ti45⟩, trivial⟩⟩
theorem tz3 : TZ Try.prog 3 [.int .i64 0] := Qky (by kernel_rfl)
theorem Qbs : ∀ vals w, (callFunc 65 vals).run Try.prog w = .ok (.enter 65 vals) w := fun vals w => MuLone.run_callFunc_enter Try.func65 (by kernel_rfl) rfl vals w
theorem enter94 : ∀ vals w, (callFunc 94 vals).run Try.prog w = .ok (.enter 94 vals) w := fun vals w => MuLone.run_callFunc_enter Try.func94 (by kernel_rfl) rfl vals w
theorem enter114 : ∀ vals w, (callFunc 114 vals).run Try.prog w = .ok (.enter 114 vals) w := fun vals w => MuLone.run_callFunc_enter Try.func114 (by kernel_rfl) rfl vals w
theorem enter128 : ∀ vals w, (callFunc 128 vals).run Try.prog w = .ok (.enter 128 vals) w := fun vals w => MuLone.run_callFunc_enter Try.func128 (by kernel_rfl) rfl vals w
theorem enter113 : ∀ vals w, (callFunc 113 vals).run Try.prog w = .ok (.enter 113 vals) w := fun vals w => MuLone.run_callFunc_enter Try.func113 (by kernel_rfl) rfl vals w
theorem enter93 : ∀ vals w, (callFunc 93 vals).run Try.prog w = .ok (.enter 93 vals) w := fun vals w => MuLone.run_callFunc_enter Try.func93 (by kernel_rfl) rfl vals w
theorem Qnm : ∀ vals w, (callFunc 64 vals).run Try.prog w = .ok (.enter 64 vals) w := fun vals w => MuLone.run_callFunc_enter Try.func64 (by kernel_rfl) rfl vals w
theorem Qwh : TZ Try.prog 118 [.int .i64 0, .int .i64 0] := Qky (by kernel_rfl)
theorem Qt2 : ∀ vals w, (callFunc 66 vals).run Try.prog w = .ok (.enter 66 vals) w := fun vals w => MuLone.run_callFunc_enter Try.func66 (by kernel_rfl) rfl vals w
theorem enter95 : ∀ vals w, (callFunc 95 vals).run Try.prog w = .ok (.enter 95 vals) w := fun vals w => MuLone.run_callFunc_enter Try.func95 (by kernel_rfl) rfl vals w
theorem enter115 : ∀ vals w, (callFunc 115 vals).run Try.prog w = .ok (.enter 115 vals) w := fun vals w => MuLone.run_callFunc_enter Try.func115 (by kernel_rfl) rfl vals w
theorem Qt1 : ∀ vals w, (callFunc 67 vals).run Try.prog w = .ok (.enter 67 vals) w := fun vals w => MuLone.run_callFunc_enter Try.func67 (by kernel_rfl) rfl vals w
theorem tz60 : TZ Try.prog 60 [.int .i64 0, .int .i64 0, .int .i64 0, .int .i64 0] := Qky (by kernel_rfl)
theorem enter75 : ∀ vals w, (callFunc 75 vals).run Try.prog w = .ok (.enter 75 vals) w := fun vals w => MuLone.run_callFunc_enter Try.func75 (by kernel_rfl) rfl vals w
theorem Qh0 : ∀ vals w, (callFunc 131 vals).run Try.prog w = .ok (.enter 131 vals) w := fun vals w => MuLone.run_callFunc_enter Try.func131 (by kernel_rfl) rfl vals w
theorem Qvk : ∀ vals w, (callFunc 120 vals).run Try.prog w = .ok (.enter 120 vals) w := fun vals w => MuLone.run_callFunc_enter Try.func120 (by kernel_rfl) rfl vals w
theorem enter101 : ∀ vals w, (callFunc 101 vals).run Try.prog w = .ok (.enter 101 vals) w := fun vals w => MuLone.run_callFunc_enter Try.func101 (by kernel_rfl) rfl vals w
theorem enter100 : ∀ vals w, (callFunc 100 vals).run Try.prog w = .ok (.enter 100 vals) w := fun vals w => MuLone.run_callFunc_enter Try.func100 (by kernel_rfl) rfl vals w
theorem enter119 : ∀ vals w, (callFunc 119 vals).run Try.prog w = .ok (.enter 119 vals) w := fun vals w => MuLone.run_callFunc_enter Try.func119 (by kernel_rfl) rfl vals w
theorem Qvj : ∀ vals w, (callFunc 130 vals).run Try.prog w = .ok (.enter 130 vals) w := fun vals w => MuLone.run_callFunc_enter Try.func130 (by kernel_rfl) rfl vals w
theorem Qvl : ∀ vals w, (callFunc 118 vals).run Try.prog w = .ok (.enter 118 vals) w := fun vals w => MuLone.run_callFunc_enter Try.func118 (by kernel_rfl) rfl vals w
theorem enter99 : ∀ vals w, (callFunc 99 vals).run Try.prog w = .ok (.enter 99 vals) w := fun vals w => MuLone.run_callFunc_enter Try.func99 (by kernel_rfl) rfl vals w
theorem Qqx : ∀ vals w, (callFunc 74 vals).run Try.prog w = .ok (.enter 74 vals) w := fun vals w => MuLone.run_callFunc_enter Try.func74 (by kernel_rfl) rfl vals w
theorem te3 : TE Try.prog 3 1 8 := Qy1 (by kernel_rfl) (by decide)
theorem enter108 : ∀ vals w, (callFunc 108 vals).run Try.prog w = .ok (.enter 108 vals) w := fun vals w => MuLone.run_callFunc_enter Try.func108 (by kernel_rfl) rfl vals w
theorem Qtw : ∀ vals w, (callFunc 87 vals).run Try.prog w = .ok (.enter 87 vals) w := fun vals w => MuLone.run_callFunc_enter Try.func87 (by kernel_rfl) rfl vals w
theorem tz34 : TZ Try.prog 34 [.int .i64 0, .slice none 0 0] := Qky (by kernel_rfl)
theorem tz160 : TZ Try.prog 160 [.int .i64 0, .int .i64 0, .int .i64 0] := Qky (by kernel_rfl)
theorem te160 : TE Try.prog 160 3 24 := Qy1 (by kernel_rfl) (by decide)
theorem Qvm : ∀ vals w, (callFunc 106 vals).run Try.prog w = .ok (.enter 106 vals) w := fun vals w => MuLone.run_callFunc_enter Try.func106 (by kernel_rfl) rfl vals w
theorem Qn6 : ∀ vals w, (callFunc 124 vals).run Try.prog w = .ok (.enter 124 vals) w := fun vals w => MuLone.run_callFunc_enter Try.func124 (by kernel_rfl) rfl vals w
theorem Qvi : ∀ vals w, (callFunc 135 vals).run Try.prog w = .ok (.enter 135 vals) w := fun vals w => MuLone.run_callFunc_enter Try.func135 (by kernel_rfl) rfl vals w
theorem Qq0 : ∀ vals w, (callFunc 138 vals).run Try.prog w = .ok (.enter 138 vals) w := fun vals w => MuLone.run_callFunc_enter Try.func138 (by kernel_rfl) rfl vals w
theorem enter137 : ∀ vals w, (callFunc 137 vals).run Try.prog w = .ok (.enter 137 vals) w := fun vals w => MuLone.run_callFunc_enter Try.func137 (by kernel_rfl) rfl vals w
theorem Qn5 : ∀ vals w, (callFunc 136 vals).run Try.prog w = .ok (.enter 136 vals) w := fun vals w => MuLone.run_callFunc_enter Try.func136 (by kernel_rfl) rfl vals w
theorem enter133 : ∀ vals w, (callFunc 133 vals).run Try.prog w = .ok (.enter 133 vals) w := fun vals w => MuLone.run_callFunc_enter Try.func133 (by kernel_rfl) rfl vals w
theorem enter123 : ∀ vals w, (callFunc 123 vals).run Try.prog w = .ok (.enter 123 vals) w := fun vals w => MuLone.run_callFunc_enter Try.func123 (by kernel_rfl) rfl vals w
theorem enter105 : ∀ vals w, (callFunc 105 vals).run Try.prog w = .ok (.enter 105 vals) w := fun vals w => MuLone.run_callFunc_enter Try.func105 (by kernel_rfl) rfl vals w
theorem Qqw : ∀ vals w, (callFunc 88 vals).run Try.prog w = .ok (.enter 88 vals) w := fun vals w => MuLone.run_callFunc_enter Try.func88 (by kernel_rfl) rfl vals w
theorem tz133 : TZ Try.prog 133 [.slice none 0 0, .slice none 0 0] := Qky (by kernel_rfl)
theorem enter102 : ∀ vals w, (callFunc 102 vals).run Try.prog w = .ok (.enter 102 vals) w := fun vals w => MuLone.run_callFunc_enter Try.func102 (by kernel_rfl) rfl vals w
theorem Qq1 : ∀ vals w, (callFunc 110 vals).run Try.prog w = .ok (.enter 110 vals) w := fun vals w => MuLone.run_callFunc_enter Try.func110 (by kernel_rfl) rfl vals w
theorem Qqy : ∀ vals w, (callFunc 71 vals).run Try.prog w = .ok (.enter 71 vals) w := fun vals w => MuLone.run_callFunc_enter Try.func71 (by kernel_rfl) rfl vals w
theorem Qq2 : ∀ vals w, (callFunc 109 vals).run Try.prog w = .ok (.enter 109 vals) w := fun vals w => MuLone.run_callFunc_enter Try.func109 (by kernel_rfl) rfl vals w
theorem Qjp : ∀ vals w, (callFunc 89 vals).run Try.prog w = .ok (.enter 89 vals) w := fun vals w => MuLone.run_callFunc_enter Try.func89 (by kernel_rfl) rfl vals w
theorem enter104 : ∀ vals w, (callFunc 104 vals).run Try.prog w = .ok (.enter 104 vals) w := fun vals w => MuLone.run_callFunc_enter Try.func104 (by kernel_rfl) rfl vals w
theorem enter122 : ∀ vals w, (callFunc 122 vals).run Try.prog w = .ok (.enter 122 vals) w := fun vals w => MuLone.run_callFunc_enter Try.func122 (by kernel_rfl) rfl vals w
theorem enter132 : ∀ vals w, (callFunc 132 vals).run Try.prog w = .ok (.enter 132 vals) w := fun vals w => MuLone.run_callFunc_enter Try.func132 (by kernel_rfl) rfl vals w
theorem enter121 : ∀ vals w, (callFunc 121 vals).run Try.prog w = .ok (.enter 121 vals) w := fun vals w => MuLone.run_callFunc_enter Try.func121 (by kernel_rfl) rfl vals w
theorem enter103 : ∀ vals w, (callFunc 103 vals).run Try.prog w = .ok (.enter 103 vals) w := fun vals w => MuLone.run_callFunc_enter Try.func103 (by kernel_rfl) rfl vals w
theorem Qnl : ∀ vals w, (callFunc 80 vals).run Try.prog w = .ok (.enter 80 vals) w := fun vals w => MuLone.run_callFunc_enter Try.func80 (by kernel_rfl) rfl vals w
theorem enter81 : ∀ vals w, (callFunc 81 vals).run Try.prog w = .ok (.enter 81 vals) w := fun vals w => MuLone.run_callFunc_enter Try.func81 (by kernel_rfl) rfl vals w
theorem Qty : ∀ vals w, (callFunc 82 vals).run Try.prog w = .ok (.enter 82 vals) w := fun vals w => MuLone.run_callFunc_enter Try.func82 (by kernel_rfl) rfl vals w
theorem tz42 : TZ Try.prog 42 [.slice none 0 0] := Qky (by kernel_rfl)
theorem enter96 : ∀ vals w, (callFunc 96 vals).run Try.prog w = .ok (.enter 96 vals) w := fun vals w => MuLone.run_callFunc_enter Try.func96 (by kernel_rfl) rfl vals w
theorem enter98 : ∀ vals w, (callFunc 98 vals).run Try.prog w = .ok (.enter 98 vals) w := fun vals w => MuLone.run_callFunc_enter Try.func98 (by kernel_rfl) rfl vals w
theorem enter117 : ∀ vals w, (callFunc 117 vals).run Try.prog w = .ok (.enter 117 vals) w := fun vals w => MuLone.run_callFunc_enter Try.func117 (by kernel_rfl) rfl vals w
theorem enter129 : ∀ vals w, (callFunc 129 vals).run Try.prog w = .ok (.enter 129 vals) w := fun vals w => MuLone.run_callFunc_enter Try.func129 (by kernel_rfl) rfl vals w
theorem enter116 : ∀ vals w, (callFunc 116 vals).run Try.prog w = .ok (.enter 116 vals) w := fun vals w => MuLone.run_callFunc_enter Try.func116 (by kernel_rfl) rfl vals w
theorem enter97 : ∀ vals w, (callFunc 97 vals).run Try.prog w = .ok (.enter 97 vals) w := fun vals w => MuLone.run_callFunc_enter Try.func97 (by kernel_rfl) rfl vals w
theorem Qt0 : ∀ vals w, (callFunc 68 vals).run Try.prog w = .ok (.enter 68 vals) w := fun vals w => MuLone.run_callFunc_enter Try.func68 (by kernel_rfl) rfl vals w
theorem te37 : TE Try.prog 37 1 24 := Qy1 (by kernel_rfl) (by decide)
theorem tz37 : TZ Try.prog 37 [.slice none 0 0] := Qky (by kernel_rfl)
theorem te121 : TE Try.prog 121 1 24 := Qy1 (by kernel_rfl) (by decide)
theorem tz121 : TZ Try.prog 121 [.slice none 0 0] := Qky (by kernel_rfl)
theorem tz120 : TZ Try.prog 120 [.slice none 0 0] := Qky (by kernel_rfl)
theorem te4 : TE Try.prog 4 1 1 := Qy1 (by kernel_rfl) (by decide)
theorem tz4 : TZ Try.prog 4 [.bool false] := Qky (by kernel_rfl)
theorem tz50 : TZ Try.prog 50 [.int .i64 0, .int .i64 0] := Qky (by kernel_rfl)
theorem Qtz : ∀ vals w, (callFunc 70 vals).run Try.prog w = .ok (.enter 70 vals) w := fun vals w => MuLone.run_callFunc_enter Try.func70 (by kernel_rfl) rfl vals w
theorem enter69 : ∀ vals w, (callFunc 69 vals).run Try.prog w = .ok (.enter 69 vals) w := fun vals w => MuLone.run_callFunc_enter Try.func69 (by kernel_rfl) rfl vals w
theorem enter72 : ∀ vals w, (callFunc 72 vals).run Try.prog w = .ok (.enter 72 vals) w := fun vals w => MuLone.run_callFunc_enter Try.func72 (by kernel_rfl) rfl vals w
theorem enter73 : ∀ vals w, (callFunc 73 vals).run Try.prog w = .ok (.enter 73 vals) w := fun vals w => MuLone.run_callFunc_enter Try.func73 (by kernel_rfl) rfl vals w
theorem Qo3 : ∀ vals w, (callFunc 61 vals).run Try.prog w = .ok (.enter 61 vals) w := fun vals w => MuLone.run_callFunc_enter Try.func61 (by kernel_rfl) rfl vals w
theorem enter18 : ∀ vals w, (callFunc 18 vals).run Try.prog w = .ok (.enter 18 vals) w := fun vals w => MuLone.run_callFunc_enter Try.func18 (by kernel_rfl) rfl vals w
theorem tz66 : TZ Try.prog 66 [.int .i64 0, .int .i64 0, .int .i64 0] := Qky (by kernel_rfl)
theorem enter29 : ∀ vals w, (callFunc 29 vals).run Try.prog w = .ok (.enter 29 vals) w := fun vals w => MuLone.run_callFunc_enter Try.func29 (by kernel_rfl) rfl vals w
theorem enter62 : ∀ vals w, (callFunc 62 vals).run Try.prog w = .ok (.enter 62 vals) w := fun vals w => MuLone.run_callFunc_enter Try.func62 (by kernel_rfl) rfl vals w
theorem Qt5 : ∀ vals w, (callFunc 44 vals).run Try.prog w = .ok (.enter 44 vals) w := fun vals w => MuLone.run_callFunc_enter Try.func44 (by kernel_rfl) rfl vals w
theorem tz47 : TZ Try.prog 47 [.slice none 0 0, .int .i64 0, .int .i64 0, .int .i64 0, .slice none 0 0] := Qky (by kernel_rfl)
theorem Qqz : ∀ vals w, (callFunc 63 vals).run Try.prog w = .ok (.enter 63 vals) w := fun vals w => MuLone.run_callFunc_enter Try.func63 (by kernel_rfl) rfl vals w
theorem enter21 : ∀ vals w, (callFunc 21 vals).run Try.prog w = .ok (.enter 21 vals) w := fun vals w => MuLone.run_callFunc_enter Try.func21 (by kernel_rfl) rfl vals w
theorem Qnn : ∀ vals w, (callFunc 40 vals).run Try.prog w = .ok (.enter 40 vals) w := fun vals w => MuLone.run_callFunc_enter Try.func40 (by kernel_rfl) rfl vals w
theorem tz115 : TZ Try.prog 115 [.int .i64 0, .int .i64 0] := Qky (by kernel_rfl)
theorem enter17 : ∀ vals w, (callFunc 17 vals).run Try.prog w = .ok (.enter 17 vals) w := fun vals w => MuLone.run_callFunc_enter Try.func17 (by kernel_rfl) rfl vals w
theorem enter24 : ∀ vals w, (callFunc 24 vals).run Try.prog w = .ok (.enter 24 vals) w := fun vals w => MuLone.run_callFunc_enter Try.func24 (by kernel_rfl) rfl vals w
theorem tz57 : TZ Try.prog 57 [.int .i64 0, .int .i64 0, .int .i64 0, .int .i64 0] := Qky (by kernel_rfl)
theorem enter27 : ∀ vals w, (callFunc 27 vals).run Try.prog w = .ok (.enter 27 vals) w := fun vals w => MuLone.run_callFunc_enter Try.func27 (by kernel_rfl) rfl vals w
theorem enter134 : ∀ vals w, (callFunc 134 vals).run Try.prog w = .ok (.enter 134 vals) w := fun vals w => MuLone.run_callFunc_enter Try.func134 (by kernel_rfl) rfl vals w
theorem enter125 : ∀ vals w, (callFunc 125 vals).run Try.prog w = .ok (.enter 125 vals) w := fun vals w => MuLone.run_callFunc_enter Try.func125 (by kernel_rfl) rfl vals w
theorem enter111 : ∀ vals w, (callFunc 111 vals).run Try.prog w = .ok (.enter 111 vals) w := fun vals w => MuLone.run_callFunc_enter Try.func111 (by kernel_rfl) rfl vals w
theorem tz169 : TZ Try.prog 169 [(.pointer none), (.pointer none), (.pointer none), (.pointer none)] := Qky (by kernel_rfl)
theorem Qmu : ∀ vals w, (callFunc 127 vals).run Try.prog w = .ok (.enter 127 vals) w := fun vals w => MuLone.run_callFunc_enter Try.func127 (by kernel_rfl) rfl vals w
theorem enter126 : ∀ vals w, (callFunc 126 vals).run Try.prog w = .ok (.enter 126 vals) w := fun vals w => MuLone.run_callFunc_enter Try.func126 (by kernel_rfl) rfl vals w
theorem enter112 : ∀ vals w, (callFunc 112 vals).run Try.prog w = .ok (.enter 112 vals) w := fun vals w => MuLone.run_callFunc_enter Try.func112 (by kernel_rfl) rfl vals w
theorem enter91 : ∀ vals w, (callFunc 91 vals).run Try.prog w = .ok (.enter 91 vals) w := fun vals w => MuLone.run_callFunc_enter Try.func91 (by kernel_rfl) rfl vals w
theorem enter57 : ∀ vals w, (callFunc 57 vals).run Try.prog w = .ok (.enter 57 vals) w := fun vals w => MuLone.run_callFunc_enter Try.func57 (by kernel_rfl) rfl vals w
theorem Qt3 : ∀ vals w, (callFunc 58 vals).run Try.prog w = .ok (.enter 58 vals) w := fun vals w => MuLone.run_callFunc_enter Try.func58 (by kernel_rfl) rfl vals w
theorem enter107 : ∀ vals w, (callFunc 107 vals).run Try.prog w = .ok (.enter 107 vals) w := fun vals w => MuLone.run_callFunc_enter Try.func107 (by kernel_rfl) rfl vals w
theorem Qtx : ∀ vals w, (callFunc 83 vals).run Try.prog w = .ok (.enter 83 vals) w := fun vals w => MuLone.run_callFunc_enter Try.func83 (by kernel_rfl) rfl vals w
theorem enter84 : ∀ vals w, (callFunc 84 vals).run Try.prog w = .ok (.enter 84 vals) w := fun vals w => MuLone.run_callFunc_enter Try.func84 (by kernel_rfl) rfl vals w
theorem enter46 : ∀ vals w, (callFunc 46 vals).run Try.prog w = .ok (.enter 46 vals) w := fun vals w => MuLone.run_callFunc_enter Try.func46 (by kernel_rfl) rfl vals w
theorem enter76 : ∀ vals w, (callFunc 76 vals).run Try.prog w = .ok (.enter 76 vals) w := fun vals w => MuLone.run_callFunc_enter Try.func76 (by kernel_rfl) rfl vals w
theorem enter36 : ∀ vals w, (callFunc 36 vals).run Try.prog w = .ok (.enter 36 vals) w := fun vals w => MuLone.run_callFunc_enter Try.func36 (by kernel_rfl) rfl vals w
theorem Qt4 : ∀ vals w, (callFunc 53 vals).run Try.prog w = .ok (.enter 53 vals) w := fun vals w => MuLone.run_callFunc_enter Try.func53 (by kernel_rfl) rfl vals w
theorem Qfq : EqT Try.prog 10000 60 4 := Qwm (d := 9998) Try.underlying60 (by kernel_rfl) (.int _ (by decide) rfl Try.underlying3 (.int _ (by decide) rfl Try.underlying3 (.int _ (by decide) rfl Try.underlying3 (.int _ (by decide) rfl Try.underlying3 (.nil _)))))
def tyT : Tab := .node 66 ⟨true, 3, (some [.int .i64 0, .int .i64 0, .int .i64 0]), [(0, false, 1), (1, false, 1), (2, false, 1)]⟩ (.node 40 ⟨true, 5, none, [(0, false, 1), (1, false, 1), (2, false, 1), (3, false, 1), (4, false, 1)]⟩ (.node 32 ⟨false, 1, none, []⟩ (.node 22 ⟨false, 1, none, []⟩ (.node 4 ⟨false, 1, (some [.bool false]), []⟩ (.node 3 ⟨false, 1, (some [.int .i64 0]), []⟩ .nil .nil) .nil) (.node 24 ⟨true, 2, none, [(0, false, 1), (1, false, 1)]⟩ .nil .nil)) (.node 37 ⟨false, 1, (some [.slice none 0 0]), []⟩ (.node 34 ⟨true, 2, (some [.int .i64 0, .slice none 0 0]), [(0, false, 1), (1, false, 1)]⟩ .nil .nil) (.node 38 ⟨false, 1, none, []⟩ .nil .nil))) (.node 50 ⟨true, 2, (some [.int .i64 0, .int .i64 0]), [(0, false, 1), (1, false, 1)]⟩ (.node 45 ⟨false, 1, none, []⟩ (.node 42 ⟨false, 1, (some [.slice none 0 0]), []⟩ .nil .nil) (.node 47 ⟨true, 5, (some [.slice none 0 0, .int .i64 0, .int .i64 0, .int .i64 0, .slice none 0 0]), [(0, false, 1), (1, false, 1), (2, false, 1), (3, false, 1), (4, false, 1)]⟩ .nil .nil)) (.node 59 ⟨true, 3, none, [(0, false, 1), (1, false, 1), (2, false, 1)]⟩ (.node 57 ⟨true, 4, (some [.int .i64 0, .int .i64 0, .int .i64 0, .int .i64 0]), [(0, false, 1), (1, false, 1), (2, false, 1), (3, false, 1)]⟩ .nil .nil) (.node 60 ⟨true, 4, (some [.int .i64 0, .int .i64 0, .int .i64 0, .int .i64 0]), [(0, false, 1), (1, false, 1), (2, false, 1), (3, false, 1)]⟩ .nil .nil)))) (.node 147 ⟨false, 1, none, []⟩ (.node 120 ⟨false, 1, (some [.slice none 0 0]), []⟩ (.node 118 ⟨true, 2, (some [.int .i64 0, .int .i64 0]), [(0, false, 1), (1, false, 1)]⟩ (.node 115 ⟨true, 2, (some [.int .i64 0, .int .i64 0]), [(0, false, 1), (1, false, 1)]⟩ (.node 89 ⟨false, 1, none, []⟩ .nil .nil) .nil) (.node 119 ⟨true, 2, none, [(0, false, 1), (1, false, 1)]⟩ .nil .nil)) (.node 126 ⟨false, 1, none, []⟩ (.node 121 ⟨false, 1, (some [.slice none 0 0]), []⟩ .nil .nil) (.node 133 ⟨true, 2, (some [.slice none 0 0, .slice none 0 0]), [(0, false, 1), (1, false, 1)]⟩ .nil .nil))) (.node 160 ⟨true, 3, (some [.int .i64 0, .int .i64 0, .int .i64 0]), [(0, false, 1), (1, true, 2)]⟩ (.node 155 ⟨false, 1, none, []⟩ (.node 152 ⟨false, 1, none, []⟩ .nil .nil) (.node 157 ⟨false, 1, none, []⟩ .nil .nil)) (.node 168 ⟨false, 1, none, []⟩ (.node 162 ⟨false, 1, none, []⟩ .nil .nil) (.node 169 ⟨true, 4, (some [(.pointer none), (.pointer none), (.pointer none), (.pointer none)]), []⟩ .nil .nil))))
set_option maxRecDepth 100000 in
theorem tbk : tyT.ok Try.prog := ⟨⟨ti66, tz66, .inr ⟨_, Try.underlying66, rfl, ti3, rfl, ti3, rfl, ti3, trivial⟩⟩, ⟨⟨ti40, trivial, .inr ⟨_, Try.underlying40, rfl, ti37, rfl, ti3, rfl, ti3, rfl, ti3, rfl, ti38, trivial⟩⟩, ⟨⟨ti32, trivial, .inl rfl⟩, ⟨⟨ti22, trivial, .inl rfl⟩, ⟨⟨ti4, tz4, .inl rfl⟩, ⟨⟨ti3, tz3, .inl rfl⟩, trivial, trivial⟩, trivial⟩, ⟨⟨ti24, trivial, .inr ⟨_, Try.underlying24, rfl, ti3, rfl, ti22, trivial⟩⟩, trivial, trivial⟩⟩, ⟨⟨ti37, tz37, .inl rfl⟩, ⟨⟨ti34, tz34, .inr ⟨_, Try.underlying34, rfl, ti3, rfl, ti32, trivial⟩⟩, trivial, trivial⟩, ⟨⟨ti38, trivial, .inl rfl⟩, trivial, trivial⟩⟩⟩, ⟨⟨ti50, tz50, .inr ⟨_, Try.underlying50, rfl, ti3, rfl, ti3, trivial⟩⟩, ⟨⟨ti45, trivial, .inl rfl⟩, ⟨⟨ti42, tz42, .inl rfl⟩, trivial, trivial⟩, ⟨⟨ti47, tz47, .inr ⟨_, Try.underlying47, rfl, ti37, rfl, ti3, rfl, ti3, rfl, ti3, rfl, ti45, trivial⟩⟩, trivial, trivial⟩⟩, ⟨⟨ti59, trivial, .inr ⟨_, Try.underlying59, rfl, ti3, rfl, ti3, rfl, ti3, trivial⟩⟩, ⟨⟨ti57, tz57, .inr ⟨_, Try.underlying57, rfl, ti3, rfl, ti3, rfl, ti3, rfl, ti3, trivial⟩⟩, trivial, trivial⟩, ⟨⟨ti60, tz60, .inr ⟨_, Try.underlying60, rfl, ti3, rfl, ti3, rfl, ti3, rfl, ti3, trivial⟩⟩, trivial, trivial⟩⟩⟩⟩, ⟨⟨ti147, trivial, .inl rfl⟩, ⟨⟨ti120, tz120, .inl rfl⟩, ⟨⟨Qn1, Qwh, .inr ⟨_, Try.underlying118, rfl, ti3, rfl, ti3, trivial⟩⟩, ⟨⟨ti115, tz115, .inr ⟨_, Try.underlying115, rfl, ti3, rfl, ti3, trivial⟩⟩, ⟨⟨ti89, trivial, .inl rfl⟩, trivial, trivial⟩, trivial⟩, ⟨⟨ti119, trivial, .inr ⟨_, Try.underlying119, rfl, ti3, rfl, ti3, trivial⟩⟩, trivial, trivial⟩⟩, ⟨⟨ti126, trivial, .inl rfl⟩, ⟨⟨Qjk, tz121, .inl rfl⟩, trivial, trivial⟩, ⟨⟨ti133, tz133, .inr ⟨_, Try.underlying133, rfl, ti37, rfl, ti89, trivial⟩⟩, trivial, trivial⟩⟩⟩, ⟨⟨Qd3, tz160, .inr ⟨_, Try.underlying160, rfl, ti3, rfl, Qn1, trivial⟩⟩, ⟨⟨ti155, trivial, .inl rfl⟩, ⟨⟨ti152, trivial, .inl rfl⟩, trivial, trivial⟩, ⟨⟨ti157, trivial, .inl rfl⟩, trivial, trivial⟩⟩, ⟨⟨Qpg, trivial, .inl rfl⟩, ⟨⟨ti162, trivial, .inl rfl⟩, trivial, trivial⟩, ⟨⟨ti169, tz169, .inl rfl⟩, trivial, trivial⟩⟩⟩⟩⟩
end Go.Proofs.Ytlhakkkjgdbdpaa
