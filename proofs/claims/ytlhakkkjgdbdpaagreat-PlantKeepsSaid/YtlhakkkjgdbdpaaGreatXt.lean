/-
  The types of the program as Lean types, and how they lie in cells; facts on the program's types. No conditions.
-/
import Derived.Test.YtlhakkkjgdbdpaaGreatEngY
import Derived.Test.YtlhakkkjgdbdpaaGreatEngA
import Derived.Test.YtlhakkkjgdbdpaaGreatEngN
import Derived.Conc.MuLone
namespace Go.Proofs.YtlhakkkjgdbdpaaGreat
set_option maxRecDepth 100000
open Go.RowKit
def Qal (x : Int) : List AV := [K .i64 x]
theorem Qab : ∀ x, ∀ a ∈ Qal x, NLt 0 a := fun _ => Qq1 (.lit _) Qvi
theorem Za6 : ∀ x, (Qal x).all AV.one = true := fun _ => rfl
structure GPart where
  Width : Int
  Gain : Int
  deriving DecidableEq
def Qba (x : GPart) : List AV := Qal x.Width ++ Qal x.Gain
theorem Qaq : ∀ x, ∀ a ∈ Qba x, NLt 0 a := fun _ => (Qme (Qab _) (Qab _))
def Qtv (x : (List GPart)) : List AV := [.dat 2 (x.map Qba)]
theorem Q3k : ∀ x, ∀ a ∈ Qtv x, NLt 0 a := fun _ => Qq1 (Q3j Qaq _) Qvi
structure GUnit where
  Inlet : Int
  Parts : List GPart
  deriving DecidableEq
def Qck (x : GUnit) : List AV := Qal x.Inlet ++ Qtv x.Parts
theorem Qax : ∀ x, ∀ a ∈ Qck x, NLt 0 a := fun _ => (Qme (Qab _) (Q3k _))
structure GCycle where
  Out : Int
  Yield : Int
  Most : Int
  deriving DecidableEq
def Qlf (x : GCycle) : List AV := Qal x.Out ++ Qal x.Yield ++ Qal x.Most
structure GStream where
  Mass : Int
  Heat : Int
  Silica : Int
  Gas : Int
  deriving DecidableEq
def Qa4 (x : GStream) : List AV := Qal x.Mass ++ Qal x.Heat ++ Qal x.Silica ++ Qal x.Gas
theorem Qdc : ∀ x, ∀ a ∈ Qa4 x, NLt 0 a := fun _ => (Qme (Qme (Qme (Qab _) (Qab _)) (Qab _)) (Qab _))
structure GPiece where
  unit : Int
  Part : GPart
  deriving DecidableEq
def Qap (x : GPiece) : List AV := Qal x.unit ++ Qba x.Part
theorem Qai : ∀ x, ∀ a ∈ Qap x, NLt 0 a := fun _ => (Qme (Qab _) (Qaq _))
def Qlk (x : (List Int)) : List AV := [.dat 1 (x.map Qal)]
theorem Qq2 : ∀ x, ∀ a ∈ Qlk x, NLt 0 a := fun _ => Qq1 (Q3j Qab _) Qvi
def Q7d (x : (List GUnit)) : List AV := [.dat 2 (x.map Qck)]
structure GShared where
  heads : List Int
  units : List GUnit
  deriving DecidableEq
def Qrd (x : GShared) : List AV := Qlk x.heads ++ Q7d x.units
structure GHour where
  Price : Int
  Most : Int
  deriving DecidableEq
def Qey (x : GHour) : List AV := Qal x.Price ++ Qal x.Most
theorem Qbv : ∀ x, ∀ a ∈ Qey x, NLt 0 a := fun _ => (Qme (Qab _) (Qab _))
def Q7e (x : (List GHour)) : List AV := [.dat 2 (x.map Qey)]
structure GJob where
  Levels : List Int
  Ramp : Int
  Start : Int
  First : Int
  Hours : List GHour
  deriving DecidableEq
def Qvy (x : GJob) : List AV := Qlk x.Levels ++ Qal x.Ramp ++ Qal x.Start ++ Qal x.First ++ Q7e x.Hours
def Qge (x : Bool) : List AV := [B x]
theorem Qdi : ∀ x, ∀ a ∈ Qge x, NLt 0 a := fun _ => Qq1 (.lit _) Qvi
structure GRow where
  T : Int
  P : Int
  Liquid : Int
  Vapour : Int
  Silica : Int
  deriving DecidableEq
def Qa6 (x : GRow) : List AV := Qal x.T ++ Qal x.P ++ Qal x.Liquid ++ Qal x.Vapour ++ Qal x.Silica
theorem Qa9 : ∀ x, ∀ a ∈ Qa6 x, NLt 0 a := fun _ => (Qme (Qme (Qme (Qme (Qab _) (Qab _)) (Qab _)) (Qab _)) (Qab _))
def Q4t (x : (List GRow)) : List AV := [.dat 5 (x.map Qa6)]
structure GLine where
  Table : List GRow
  Level : Int
  Unit : GUnit
  Most : Int
  Target : Int
  Cycle : GCycle
  deriving DecidableEq
def Qn3 (x : GLine) : List AV := Q4t x.Table ++ Qal x.Level ++ Qck x.Unit ++ Qal x.Most ++ Qal x.Target ++ Qlf x.Cycle
structure GFlash where
  Row : GRow
  deriving DecidableEq
def Qtw (x : GFlash) : List AV := Qa6 x.Row
structure GParts where
  Steam : GStream
  Water : GStream
  Rest : Int
  Scale : Int
  deriving DecidableEq
def Qzo (x : GParts) : List AV := Qa4 x.Steam ++ Qa4 x.Water ++ Qal x.Rest ++ Qal x.Scale
structure GAccount where
  Turbine : Int
  Vent : Int
  Air : Int
  Work : Int
  Sink : Int
  Scale : Int
  Hot : GStream
  Brine : GStream
  deriving DecidableEq
theorem ti45 : TI Tryz.prog 45 true 2 := ⟨⟨_, Tryz.underlying45, rfl⟩, Qdh (by kernel_rfl)⟩
theorem ti3 : TI Tryz.prog 3 false 1 := ⟨⟨_, Tryz.underlying3, rfl⟩, Qdh (by kernel_rfl)⟩
theorem ti43 : TI Tryz.prog 43 false 1 := ⟨⟨_, Tryz.underlying43, rfl⟩, Qdh (by kernel_rfl)⟩
theorem Qp1 : TI Tryz.prog 126 true 2 := ⟨⟨_, Tryz.underlying126, rfl⟩, Qdh (by kernel_rfl)⟩
theorem Ze6 : TI Tryz.prog 153 false 1 := ⟨⟨_, Tryz.underlying153, rfl⟩, Qdh (by kernel_rfl)⟩
theorem ti46 : TI Tryz.prog 46 true 3 := ⟨⟨_, Tryz.underlying46, rfl⟩, Qdh (by kernel_rfl)⟩
theorem ti35 : TI Tryz.prog 35 true 4 := ⟨⟨_, Tryz.underlying35, rfl⟩, Qdh (by kernel_rfl)⟩
theorem Ze8 : TI Tryz.prog 143 false 1 := ⟨⟨_, Tryz.underlying143, rfl⟩, Qdh (by kernel_rfl)⟩
theorem ti74 : TI Tryz.prog 74 false 1 := ⟨⟨_, Tryz.underlying74, rfl⟩, Qdh (by kernel_rfl)⟩
theorem Zfa : TI Tryz.prog 128 true 2 := ⟨⟨_, Tryz.underlying128, rfl⟩, Qdh (by kernel_rfl)⟩
theorem ti73 : TI Tryz.prog 73 false 1 := ⟨⟨_, Tryz.underlying73, rfl⟩, Qdh (by kernel_rfl)⟩
theorem Qes : TI Tryz.prog 165 true 3 := ⟨⟨_, Tryz.underlying165, rfl⟩, Qdh (by kernel_rfl)⟩
theorem Ze4 : TI Tryz.prog 167 false 1 := ⟨⟨_, Tryz.underlying167, rfl⟩, Qdh (by kernel_rfl)⟩
theorem Zfb : TI Tryz.prog 114 false 1 := ⟨⟨_, Tryz.underlying114, rfl⟩, Qdh (by kernel_rfl)⟩
theorem Ze5 : TI Tryz.prog 161 false 1 := ⟨⟨_, Tryz.underlying161, rfl⟩, Qdh (by kernel_rfl)⟩
theorem ti84 : TI Tryz.prog 84 true 5 := ⟨⟨_, Tryz.underlying84, rfl⟩, Qdh (by kernel_rfl)⟩
theorem ti82 : TI Tryz.prog 82 false 1 := ⟨⟨_, Tryz.underlying82, rfl⟩, Qdh (by kernel_rfl)⟩
theorem Q58 : TI Tryz.prog 140 true 2 := ⟨⟨_, Tryz.underlying140, rfl⟩, Qdh (by kernel_rfl)⟩
theorem Ze3 : TI Tryz.prog 169 false 1 := ⟨⟨_, Tryz.underlying169, rfl⟩, Qdh (by kernel_rfl)⟩
theorem ti79 : TI Tryz.prog 79 false 1 := ⟨⟨_, Tryz.underlying79, rfl⟩, Qdh (by kernel_rfl)⟩
theorem Ze9 : TI Tryz.prog 132 false 1 := ⟨⟨_, Tryz.underlying132, rfl⟩, Qdh (by kernel_rfl)⟩
theorem Qki : TI Tryz.prog 133 false 1 := ⟨⟨_, Tryz.underlying133, rfl⟩, Qdh (by kernel_rfl)⟩
theorem ti4 : TI Tryz.prog 4 false 1 := ⟨⟨_, Tryz.underlying4, rfl⟩, Qdh (by kernel_rfl)⟩
theorem ti24 : TI Tryz.prog 24 false 1 := ⟨⟨_, Tryz.underlying24, rfl⟩, Qdh (by kernel_rfl)⟩
theorem Q24 : TI Tryz.prog 144 true 2 := ⟨⟨_, Tryz.underlying144, rfl⟩, Qdh (by kernel_rfl)⟩
theorem ti23 : TI Tryz.prog 23 false 1 := ⟨⟨_, Tryz.underlying23, rfl⟩, Qdh (by kernel_rfl)⟩
theorem Ql3 : TI Tryz.prog 107 true 5 := ⟨⟨_, Tryz.underlying107, rfl⟩, Qdh (by kernel_rfl)⟩
theorem ti26 : TI Tryz.prog 26 true 2 := ⟨⟨_, Tryz.underlying26, rfl⟩, Qdh (by kernel_rfl)⟩
theorem ti28 : TI Tryz.prog 28 true 3 := ⟨⟨_, Tryz.underlying28, rfl⟩, Qdh (by kernel_rfl)⟩
theorem Qtc : TI Tryz.prog 115 true 5 := ⟨⟨_, Tryz.underlying115, rfl⟩, Qdh (by kernel_rfl)⟩
theorem ti42 : TI Tryz.prog 42 false 1 := ⟨⟨_, Tryz.underlying42, rfl⟩, Qdh (by kernel_rfl)⟩
theorem ti48 : TI Tryz.prog 48 true 9 := ⟨⟨_, Tryz.underlying48, rfl⟩, Qdh (by kernel_rfl)⟩
theorem Ze7 : TI Tryz.prog 150 false 1 := ⟨⟨_, Tryz.underlying150, rfl⟩, Qdh (by kernel_rfl)⟩
theorem ti61 : TI Tryz.prog 61 true 10 := ⟨⟨_, Tryz.underlying61, rfl⟩, Qdh (by kernel_rfl)⟩
theorem Zd6 : TI Tryz.prog 117 true 5 := ⟨⟨_, Tryz.underlying117, rfl⟩, Qdh (by kernel_rfl)⟩
theorem Qrr : TI Tryz.prog 171 false 1 := ⟨⟨_, Tryz.underlying171, rfl⟩, Qdh (by kernel_rfl)⟩
theorem Zd5 : TI Tryz.prog 172 true 4 := ⟨⟨_, Tryz.underlying172, rfl⟩, Qdh (by kernel_rfl)⟩
theorem ti37 : TI Tryz.prog 37 true 14 := ⟨⟨_, Tryz.underlying37, rfl⟩, Qdh (by kernel_rfl)⟩
theorem ti38 : TI Tryz.prog 38 false 1 := ⟨⟨_, Tryz.underlying38, rfl⟩, Qdh (by kernel_rfl)⟩
theorem ti92 : TI Tryz.prog 92 false 1 := ⟨⟨_, Tryz.underlying92, rfl⟩, Qdh (by kernel_rfl)⟩
theorem ti95 : TI Tryz.prog 95 false 1 := ⟨⟨_, Tryz.underlying95, rfl⟩, Qdh (by kernel_rfl)⟩
theorem ti89 : TI Tryz.prog 89 true 1 := ⟨⟨_, Tryz.underlying89, rfl⟩, Qdh (by kernel_rfl)⟩
theorem ti32 : TI Tryz.prog 32 true 4 := ⟨⟨_, Tryz.underlying32, rfl⟩, Qdh (by kernel_rfl)⟩
theorem Zfc : TI Tryz.prog 104 true 10 := ⟨⟨_, Tryz.underlying104, rfl⟩, Qdh (by kernel_rfl)⟩
theorem ti54 : TI Tryz.prog 54 true 14 := ⟨⟨_, Tryz.underlying54, rfl⟩, Qdh (by kernel_rfl)⟩
theorem ti30 : TI Tryz.prog 30 true 9 := ⟨⟨_, Tryz.underlying30, rfl⟩, Qdh (by kernel_rfl)⟩
theorem ti94 : TI Tryz.prog 94 true 31 := ⟨⟨_, Tryz.underlying94, rfl⟩, Qdh (by kernel_rfl)⟩
theorem ts35 : TS Tryz.prog 35 [(0, 1), (1, 1), (2, 1), (3, 1)] := ⟨_, Tryz.underlying35, ⟨rfl, ⟨_, ti3⟩, rfl, ⟨_, ti3⟩, rfl, ⟨_, ti3⟩, rfl, ⟨_, ti3⟩, trivial⟩⟩
theorem Zez : TS Tryz.prog 165 [(0, 1), (1, 2)] := ⟨_, Tryz.underlying165, ⟨rfl, ⟨_, ti3⟩, rfl, ⟨_, Qp1⟩, trivial⟩⟩
theorem Ze0 : TS Tryz.prog 128 [(0, 1), (1, 1)] := ⟨_, Tryz.underlying128, ⟨rfl, ⟨_, ti73⟩, rfl, ⟨_, ti74⟩, trivial⟩⟩
theorem Q56 : TS Tryz.prog 126 [(0, 1), (1, 1)] := ⟨_, Tryz.underlying126, ⟨rfl, ⟨_, ti3⟩, rfl, ⟨_, ti3⟩, trivial⟩⟩
theorem ts45 : TS Tryz.prog 45 [(0, 1), (1, 1)] := ⟨_, Tryz.underlying45, ⟨rfl, ⟨_, ti3⟩, rfl, ⟨_, ti43⟩, trivial⟩⟩
theorem ts46 : TS Tryz.prog 46 [(0, 1), (1, 1), (2, 1)] := ⟨_, Tryz.underlying46, ⟨rfl, ⟨_, ti3⟩, rfl, ⟨_, ti3⟩, rfl, ⟨_, ti3⟩, trivial⟩⟩
theorem Q55 : TS Tryz.prog 140 [(0, 1), (1, 1)] := ⟨_, Tryz.underlying140, ⟨rfl, ⟨_, ti3⟩, rfl, ⟨_, ti3⟩, trivial⟩⟩
theorem ts84 : TS Tryz.prog 84 [(0, 1), (1, 1), (2, 1), (3, 1), (4, 1)] := ⟨_, Tryz.underlying84, ⟨rfl, ⟨_, ti73⟩, rfl, ⟨_, ti3⟩, rfl, ⟨_, ti3⟩, rfl, ⟨_, ti3⟩, rfl, ⟨_, ti82⟩, trivial⟩⟩
theorem Ze2 : TS Tryz.prog 115 [(0, 1), (1, 1), (2, 1), (3, 1), (4, 1)] := ⟨_, Tryz.underlying115, ⟨rfl, ⟨_, ti3⟩, rfl, ⟨_, ti3⟩, rfl, ⟨_, ti3⟩, rfl, ⟨_, ti3⟩, rfl, ⟨_, ti3⟩, trivial⟩⟩
theorem ts48 : TS Tryz.prog 48 [(0, 1), (1, 1), (2, 2), (4, 1), (5, 1), (6, 3)] := ⟨_, Tryz.underlying48, ⟨rfl, ⟨_, ti42⟩, rfl, ⟨_, ti3⟩, rfl, ⟨_, ti45⟩, rfl, ⟨_, ti3⟩, rfl, ⟨_, ti3⟩, rfl, ⟨_, ti46⟩, trivial⟩⟩
theorem ts61 : TS Tryz.prog 61 [(0, 4), (4, 4), (8, 1), (9, 1)] := ⟨_, Tryz.underlying61, ⟨rfl, ⟨_, ti35⟩, rfl, ⟨_, ti35⟩, rfl, ⟨_, ti3⟩, rfl, ⟨_, ti3⟩, trivial⟩⟩
theorem Ze1 : TS Tryz.prog 117 [(0, 5)] := ⟨_, Tryz.underlying117, ⟨rfl, ⟨_, Qtc⟩, trivial⟩⟩
theorem ts37 : TS Tryz.prog 37 [(0, 1), (1, 1), (2, 1), (3, 1), (4, 1), (5, 1), (6, 4), (10, 4)] := ⟨_, Tryz.underlying37, ⟨rfl, ⟨_, ti3⟩, rfl, ⟨_, ti3⟩, rfl, ⟨_, ti3⟩, rfl, ⟨_, ti3⟩, rfl, ⟨_, ti3⟩, rfl, ⟨_, ti3⟩, rfl, ⟨_, ti35⟩, rfl, ⟨_, ti35⟩, trivial⟩⟩
theorem ts89 : TS Tryz.prog 89 [(0, 1)] := ⟨_, Tryz.underlying89, ⟨rfl, ⟨_, ti38⟩, trivial⟩⟩
theorem ts94 : TS Tryz.prog 94 [(0, 9), (9, 14), (23, 4), (27, 4)] := ⟨_, Tryz.underlying94, ⟨rfl, ⟨_, ti48⟩, rfl, ⟨_, ti37⟩, rfl, ⟨_, ti35⟩, rfl, ⟨_, ti35⟩, trivial⟩⟩
theorem tz3 : TZ Tryz.prog 3 [.int .i64 0] := Qhq (by kernel_rfl)
theorem Qbs : ∀ vals w, (callFunc 56 vals).run Tryz.prog w = .ok (.enter 56 vals) w := fun vals w => MuLone.run_callFunc_enter Tryz.func56 (by kernel_rfl) rfl vals w
theorem Zbw : ∀ vals w, (callFunc 79 vals).run Tryz.prog w = .ok (.enter 79 vals) w := fun vals w => MuLone.run_callFunc_enter Tryz.func79 (by kernel_rfl) rfl vals w
theorem Zbf : ∀ vals w, (callFunc 99 vals).run Tryz.prog w = .ok (.enter 99 vals) w := fun vals w => MuLone.run_callFunc_enter Tryz.func99 (by kernel_rfl) rfl vals w
theorem Q61 : ∀ vals w, (callFunc 115 vals).run Tryz.prog w = .ok (.enter 115 vals) w := fun vals w => MuLone.run_callFunc_enter Tryz.func115 (by kernel_rfl) rfl vals w
theorem Zbg : ∀ vals w, (callFunc 98 vals).run Tryz.prog w = .ok (.enter 98 vals) w := fun vals w => MuLone.run_callFunc_enter Tryz.func98 (by kernel_rfl) rfl vals w
theorem Zbx : ∀ vals w, (callFunc 78 vals).run Tryz.prog w = .ok (.enter 78 vals) w := fun vals w => MuLone.run_callFunc_enter Tryz.func78 (by kernel_rfl) rfl vals w
theorem Qle : ∀ vals w, (callFunc 53 vals).run Tryz.prog w = .ok (.enter 53 vals) w := fun vals w => MuLone.run_callFunc_enter Tryz.func53 (by kernel_rfl) rfl vals w
theorem Qu0 : TZ Tryz.prog 126 [.int .i64 0, .int .i64 0] := Qhq (by kernel_rfl)
theorem Q4c : ∀ vals w, (callFunc 54 vals).run Tryz.prog w = .ok (.enter 54 vals) w := fun vals w => MuLone.run_callFunc_enter Tryz.func54 (by kernel_rfl) rfl vals w
theorem Zbv : ∀ vals w, (callFunc 80 vals).run Tryz.prog w = .ok (.enter 80 vals) w := fun vals w => MuLone.run_callFunc_enter Tryz.func80 (by kernel_rfl) rfl vals w
theorem Q7b : ∀ vals w, (callFunc 100 vals).run Tryz.prog w = .ok (.enter 100 vals) w := fun vals w => MuLone.run_callFunc_enter Tryz.func100 (by kernel_rfl) rfl vals w
theorem Qxo : ∀ vals w, (callFunc 55 vals).run Tryz.prog w = .ok (.enter 55 vals) w := fun vals w => MuLone.run_callFunc_enter Tryz.func55 (by kernel_rfl) rfl vals w
theorem tz35 : TZ Tryz.prog 35 [.int .i64 0, .int .i64 0, .int .i64 0, .int .i64 0] := Qhq (by kernel_rfl)
theorem Qxn : ∀ vals w, (callFunc 58 vals).run Tryz.prog w = .ok (.enter 58 vals) w := fun vals w => MuLone.run_callFunc_enter Tryz.func58 (by kernel_rfl) rfl vals w
theorem Qdy : ∀ vals w, (callFunc 74 vals).run Tryz.prog w = .ok (.enter 74 vals) w := fun vals w => MuLone.run_callFunc_enter Tryz.func74 (by kernel_rfl) rfl vals w
theorem Qxp : ∀ vals w, (callFunc 48 vals).run Tryz.prog w = .ok (.enter 48 vals) w := fun vals w => MuLone.run_callFunc_enter Tryz.func48 (by kernel_rfl) rfl vals w
theorem Qpi : ∀ vals w, (callFunc 15 vals).run Tryz.prog w = .ok (.enter 15 vals) w := fun vals w => MuLone.run_callFunc_enter Tryz.func15 (by kernel_rfl) rfl vals w
theorem Zb1 : ∀ vals w, (callFunc 70 vals).run Tryz.prog w = .ok (.enter 70 vals) w := fun vals w => MuLone.run_callFunc_enter Tryz.func70 (by kernel_rfl) rfl vals w
theorem Zbj : ∀ vals w, (callFunc 95 vals).run Tryz.prog w = .ok (.enter 95 vals) w := fun vals w => MuLone.run_callFunc_enter Tryz.func95 (by kernel_rfl) rfl vals w
theorem Qzj : ∀ vals w, (callFunc 113 vals).run Tryz.prog w = .ok (.enter 113 vals) w := fun vals w => MuLone.run_callFunc_enter Tryz.func113 (by kernel_rfl) rfl vals w
theorem Q39 : ∀ vals w, (callFunc 94 vals).run Tryz.prog w = .ok (.enter 94 vals) w := fun vals w => MuLone.run_callFunc_enter Tryz.func94 (by kernel_rfl) rfl vals w
theorem Zb2 : ∀ vals w, (callFunc 69 vals).run Tryz.prog w = .ok (.enter 69 vals) w := fun vals w => MuLone.run_callFunc_enter Tryz.func69 (by kernel_rfl) rfl vals w
theorem Qra : ∀ vals w, (callFunc 29 vals).run Tryz.prog w = .ok (.enter 29 vals) w := fun vals w => MuLone.run_callFunc_enter Tryz.func29 (by kernel_rfl) rfl vals w
theorem te3 : TE Tryz.prog 3 1 8 := Qxf (by kernel_rfl) (by decide)
theorem Q66 : ∀ vals w, (callFunc 108 vals).run Tryz.prog w = .ok (.enter 108 vals) w := fun vals w => MuLone.run_callFunc_enter Tryz.func108 (by kernel_rfl) rfl vals w
theorem Zbp : ∀ vals w, (callFunc 87 vals).run Tryz.prog w = .ok (.enter 87 vals) w := fun vals w => MuLone.run_callFunc_enter Tryz.func87 (by kernel_rfl) rfl vals w
theorem tz45 : TZ Tryz.prog 45 [.int .i64 0, .slice none 0 0] := Qhq (by kernel_rfl)
theorem Zao : TZ Tryz.prog 165 [.int .i64 0, .int .i64 0, .int .i64 0] := Qhq (by kernel_rfl)
theorem Zfd : TE Tryz.prog 165 3 24 := Qxf (by kernel_rfl) (by decide)
theorem Q4a : ∀ vals w, (callFunc 89 vals).run Tryz.prog w = .ok (.enter 89 vals) w := fun vals w => MuLone.run_callFunc_enter Tryz.func89 (by kernel_rfl) rfl vals w
theorem Qqc : ∀ vals w, (callFunc 110 vals).run Tryz.prog w = .ok (.enter 110 vals) w := fun vals w => MuLone.run_callFunc_enter Tryz.func110 (by kernel_rfl) rfl vals w
theorem Qzi : ∀ vals w, (callFunc 120 vals).run Tryz.prog w = .ok (.enter 120 vals) w := fun vals w => MuLone.run_callFunc_enter Tryz.func120 (by kernel_rfl) rfl vals w
theorem Qtt : ∀ vals w, (callFunc 123 vals).run Tryz.prog w = .ok (.enter 123 vals) w := fun vals w => MuLone.run_callFunc_enter Tryz.func123 (by kernel_rfl) rfl vals w
theorem Q6w : ∀ vals w, (callFunc 122 vals).run Tryz.prog w = .ok (.enter 122 vals) w := fun vals w => MuLone.run_callFunc_enter Tryz.func122 (by kernel_rfl) rfl vals w
theorem Qqb : ∀ vals w, (callFunc 121 vals).run Tryz.prog w = .ok (.enter 121 vals) w := fun vals w => MuLone.run_callFunc_enter Tryz.func121 (by kernel_rfl) rfl vals w
theorem Q6y : ∀ vals w, (callFunc 118 vals).run Tryz.prog w = .ok (.enter 118 vals) w := fun vals w => MuLone.run_callFunc_enter Tryz.func118 (by kernel_rfl) rfl vals w
theorem Q65 : ∀ vals w, (callFunc 109 vals).run Tryz.prog w = .ok (.enter 109 vals) w := fun vals w => MuLone.run_callFunc_enter Tryz.func109 (by kernel_rfl) rfl vals w
theorem Zbo : ∀ vals w, (callFunc 88 vals).run Tryz.prog w = .ok (.enter 88 vals) w := fun vals w => MuLone.run_callFunc_enter Tryz.func88 (by kernel_rfl) rfl vals w
theorem Zbn : ∀ vals w, (callFunc 90 vals).run Tryz.prog w = .ok (.enter 90 vals) w := fun vals w => MuLone.run_callFunc_enter Tryz.func90 (by kernel_rfl) rfl vals w
theorem Zd3 : TZ Tryz.prog 128 [.slice none 0 0, .slice none 0 0] := Qhq (by kernel_rfl)
theorem Zbs : ∀ vals w, (callFunc 84 vals).run Tryz.prog w = .ok (.enter 84 vals) w := fun vals w => MuLone.run_callFunc_enter Tryz.func84 (by kernel_rfl) rfl vals w
theorem Qzk : ∀ vals w, (callFunc 105 vals).run Tryz.prog w = .ok (.enter 105 vals) w := fun vals w => MuLone.run_callFunc_enter Tryz.func105 (by kernel_rfl) rfl vals w
theorem Qxm : ∀ vals w, (callFunc 65 vals).run Tryz.prog w = .ok (.enter 65 vals) w := fun vals w => MuLone.run_callFunc_enter Tryz.func65 (by kernel_rfl) rfl vals w
theorem Qzl : ∀ vals w, (callFunc 104 vals).run Tryz.prog w = .ok (.enter 104 vals) w := fun vals w => MuLone.run_callFunc_enter Tryz.func104 (by kernel_rfl) rfl vals w
theorem Qld : ∀ vals w, (callFunc 83 vals).run Tryz.prog w = .ok (.enter 83 vals) w := fun vals w => MuLone.run_callFunc_enter Tryz.func83 (by kernel_rfl) rfl vals w
theorem Zbq : ∀ vals w, (callFunc 86 vals).run Tryz.prog w = .ok (.enter 86 vals) w := fun vals w => MuLone.run_callFunc_enter Tryz.func86 (by kernel_rfl) rfl vals w
theorem Q67 : ∀ vals w, (callFunc 107 vals).run Tryz.prog w = .ok (.enter 107 vals) w := fun vals w => MuLone.run_callFunc_enter Tryz.func107 (by kernel_rfl) rfl vals w
theorem Q6z : ∀ vals w, (callFunc 117 vals).run Tryz.prog w = .ok (.enter 117 vals) w := fun vals w => MuLone.run_callFunc_enter Tryz.func117 (by kernel_rfl) rfl vals w
theorem Q68 : ∀ vals w, (callFunc 106 vals).run Tryz.prog w = .ok (.enter 106 vals) w := fun vals w => MuLone.run_callFunc_enter Tryz.func106 (by kernel_rfl) rfl vals w
theorem Zbr : ∀ vals w, (callFunc 85 vals).run Tryz.prog w = .ok (.enter 85 vals) w := fun vals w => MuLone.run_callFunc_enter Tryz.func85 (by kernel_rfl) rfl vals w
theorem Zb9 : ∀ vals w, (callFunc 59 vals).run Tryz.prog w = .ok (.enter 59 vals) w := fun vals w => MuLone.run_callFunc_enter Tryz.func59 (by kernel_rfl) rfl vals w
theorem Zb8 : ∀ vals w, (callFunc 60 vals).run Tryz.prog w = .ok (.enter 60 vals) w := fun vals w => MuLone.run_callFunc_enter Tryz.func60 (by kernel_rfl) rfl vals w
theorem Zb7 : ∀ vals w, (callFunc 61 vals).run Tryz.prog w = .ok (.enter 61 vals) w := fun vals w => MuLone.run_callFunc_enter Tryz.func61 (by kernel_rfl) rfl vals w
theorem tz79 : TZ Tryz.prog 79 [.slice none 0 0] := Qhq (by kernel_rfl)
theorem Zbm : ∀ vals w, (callFunc 91 vals).run Tryz.prog w = .ok (.enter 91 vals) w := fun vals w => MuLone.run_callFunc_enter Tryz.func91 (by kernel_rfl) rfl vals w
theorem Zbk : ∀ vals w, (callFunc 93 vals).run Tryz.prog w = .ok (.enter 93 vals) w := fun vals w => MuLone.run_callFunc_enter Tryz.func93 (by kernel_rfl) rfl vals w
theorem Q63 : ∀ vals w, (callFunc 112 vals).run Tryz.prog w = .ok (.enter 112 vals) w := fun vals w => MuLone.run_callFunc_enter Tryz.func112 (by kernel_rfl) rfl vals w
theorem Q6x : ∀ vals w, (callFunc 119 vals).run Tryz.prog w = .ok (.enter 119 vals) w := fun vals w => MuLone.run_callFunc_enter Tryz.func119 (by kernel_rfl) rfl vals w
theorem Q64 : ∀ vals w, (callFunc 111 vals).run Tryz.prog w = .ok (.enter 111 vals) w := fun vals w => MuLone.run_callFunc_enter Tryz.func111 (by kernel_rfl) rfl vals w
theorem Zbl : ∀ vals w, (callFunc 92 vals).run Tryz.prog w = .ok (.enter 92 vals) w := fun vals w => MuLone.run_callFunc_enter Tryz.func92 (by kernel_rfl) rfl vals w
theorem Zb6 : ∀ vals w, (callFunc 62 vals).run Tryz.prog w = .ok (.enter 62 vals) w := fun vals w => MuLone.run_callFunc_enter Tryz.func62 (by kernel_rfl) rfl vals w
theorem te73 : TE Tryz.prog 73 1 24 := Qxf (by kernel_rfl) (by decide)
theorem tz73 : TZ Tryz.prog 73 [.slice none 0 0] := Qhq (by kernel_rfl)
theorem Zfe : TE Tryz.prog 133 1 24 := Qxf (by kernel_rfl) (by decide)
theorem Zd2 : TZ Tryz.prog 133 [.slice none 0 0] := Qhq (by kernel_rfl)
theorem Zew : TZ Tryz.prog 132 [.slice none 0 0] := Qhq (by kernel_rfl)
theorem te4 : TE Tryz.prog 4 1 1 := Qxf (by kernel_rfl) (by decide)
theorem tz4 : TZ Tryz.prog 4 [.bool false] := Qhq (by kernel_rfl)
theorem Q0f : TZ Tryz.prog 140 [.int .i64 0, .int .i64 0] := Qhq (by kernel_rfl)
theorem Q4b : ∀ vals w, (callFunc 64 vals).run Tryz.prog w = .ok (.enter 64 vals) w := fun vals w => MuLone.run_callFunc_enter Tryz.func64 (by kernel_rfl) rfl vals w
theorem Zb5 : ∀ vals w, (callFunc 63 vals).run Tryz.prog w = .ok (.enter 63 vals) w := fun vals w => MuLone.run_callFunc_enter Tryz.func63 (by kernel_rfl) rfl vals w
theorem Zb4 : ∀ vals w, (callFunc 66 vals).run Tryz.prog w = .ok (.enter 66 vals) w := fun vals w => MuLone.run_callFunc_enter Tryz.func66 (by kernel_rfl) rfl vals w
theorem Zb3 : ∀ vals w, (callFunc 67 vals).run Tryz.prog w = .ok (.enter 67 vals) w := fun vals w => MuLone.run_callFunc_enter Tryz.func67 (by kernel_rfl) rfl vals w
theorem Q4k : ∀ vals w, (callFunc 22 vals).run Tryz.prog w = .ok (.enter 22 vals) w := fun vals w => MuLone.run_callFunc_enter Tryz.func22 (by kernel_rfl) rfl vals w
theorem Zcn : ∀ vals w, (callFunc 21 vals).run Tryz.prog w = .ok (.enter 21 vals) w := fun vals w => MuLone.run_callFunc_enter Tryz.func21 (by kernel_rfl) rfl vals w
theorem tz46 : TZ Tryz.prog 46 [.int .i64 0, .int .i64 0, .int .i64 0] := Qhq (by kernel_rfl)
theorem Q4l : ∀ vals w, (callFunc 20 vals).run Tryz.prog w = .ok (.enter 20 vals) w := fun vals w => MuLone.run_callFunc_enter Tryz.func20 (by kernel_rfl) rfl vals w
theorem Zcm : ∀ vals w, (callFunc 23 vals).run Tryz.prog w = .ok (.enter 23 vals) w := fun vals w => MuLone.run_callFunc_enter Tryz.func23 (by kernel_rfl) rfl vals w
theorem Zcl : ∀ vals w, (callFunc 24 vals).run Tryz.prog w = .ok (.enter 24 vals) w := fun vals w => MuLone.run_callFunc_enter Tryz.func24 (by kernel_rfl) rfl vals w
theorem tz84 : TZ Tryz.prog 84 [.slice none 0 0, .int .i64 0, .int .i64 0, .int .i64 0, .slice none 0 0] := Qhq (by kernel_rfl)
theorem Zcj : ∀ vals w, (callFunc 26 vals).run Tryz.prog w = .ok (.enter 26 vals) w := fun vals w => MuLone.run_callFunc_enter Tryz.func26 (by kernel_rfl) rfl vals w
theorem Zck : ∀ vals w, (callFunc 25 vals).run Tryz.prog w = .ok (.enter 25 vals) w := fun vals w => MuLone.run_callFunc_enter Tryz.func25 (by kernel_rfl) rfl vals w
theorem Q4j : ∀ vals w, (callFunc 27 vals).run Tryz.prog w = .ok (.enter 27 vals) w := fun vals w => MuLone.run_callFunc_enter Tryz.func27 (by kernel_rfl) rfl vals w
theorem Qb5 : ∀ vals w, (callFunc 40 vals).run Tryz.prog w = .ok (.enter 40 vals) w := fun vals w => MuLone.run_callFunc_enter Tryz.func40 (by kernel_rfl) rfl vals w
theorem Zff : TE Tryz.prog 126 2 16 := Qxf (by kernel_rfl) (by decide)
theorem Zex : TZ Tryz.prog 107 [.int .i64 0, .int .i64 0, .int .i64 0, .int .i64 0, .int .i64 0] := Qhq (by kernel_rfl)
theorem Qph : ∀ vals w, (callFunc 39 vals).run Tryz.prog w = .ok (.enter 39 vals) w := fun vals w => MuLone.run_callFunc_enter Tryz.func39 (by kernel_rfl) rfl vals w
theorem Zev : TZ Tryz.prog 144 [.int .i64 0, .int .i64 0] := Qhq (by kernel_rfl)
theorem Qts : ∀ vals w, (callFunc 41 vals).run Tryz.prog w = .ok (.enter 41 vals) w := fun vals w => MuLone.run_callFunc_enter Tryz.func41 (by kernel_rfl) rfl vals w
theorem Zce : ∀ vals w, (callFunc 42 vals).run Tryz.prog w = .ok (.enter 42 vals) w := fun vals w => MuLone.run_callFunc_enter Tryz.func42 (by kernel_rfl) rfl vals w
theorem tz48 : TZ Tryz.prog 48 [.slice none 0 0, .int .i64 0, .int .i64 0, .slice none 0 0, .int .i64 0, .int .i64 0, .int .i64 0, .int .i64 0, .int .i64 0] := Qhq (by kernel_rfl)
theorem Zap : TZ Tryz.prog 115 [.int .i64 0, .int .i64 0, .int .i64 0, .int .i64 0, .int .i64 0] := Qhq (by kernel_rfl)
theorem Zfg : TE Tryz.prog 115 5 40 := Qxf (by kernel_rfl) (by decide)
theorem Zch : ∀ vals w, (callFunc 36 vals).run Tryz.prog w = .ok (.enter 36 vals) w := fun vals w => MuLone.run_callFunc_enter Tryz.func36 (by kernel_rfl) rfl vals w
theorem Zcg : ∀ vals w, (callFunc 37 vals).run Tryz.prog w = .ok (.enter 37 vals) w := fun vals w => MuLone.run_callFunc_enter Tryz.func37 (by kernel_rfl) rfl vals w
theorem Zcf : ∀ vals w, (callFunc 38 vals).run Tryz.prog w = .ok (.enter 38 vals) w := fun vals w => MuLone.run_callFunc_enter Tryz.func38 (by kernel_rfl) rfl vals w
theorem tz61 : TZ Tryz.prog 61 [.int .i64 0, .int .i64 0, .int .i64 0, .int .i64 0, .int .i64 0, .int .i64 0, .int .i64 0, .int .i64 0, .int .i64 0, .int .i64 0] := Qhq (by kernel_rfl)
theorem Zbz : ∀ vals w, (callFunc 76 vals).run Tryz.prog w = .ok (.enter 76 vals) w := fun vals w => MuLone.run_callFunc_enter Tryz.func76 (by kernel_rfl) rfl vals w
theorem Zbh : ∀ vals w, (callFunc 97 vals).run Tryz.prog w = .ok (.enter 97 vals) w := fun vals w => MuLone.run_callFunc_enter Tryz.func97 (by kernel_rfl) rfl vals w
theorem Q62 : ∀ vals w, (callFunc 114 vals).run Tryz.prog w = .ok (.enter 114 vals) w := fun vals w => MuLone.run_callFunc_enter Tryz.func114 (by kernel_rfl) rfl vals w
theorem Zbi : ∀ vals w, (callFunc 96 vals).run Tryz.prog w = .ok (.enter 96 vals) w := fun vals w => MuLone.run_callFunc_enter Tryz.func96 (by kernel_rfl) rfl vals w
theorem Zb0 : ∀ vals w, (callFunc 75 vals).run Tryz.prog w = .ok (.enter 75 vals) w := fun vals w => MuLone.run_callFunc_enter Tryz.func75 (by kernel_rfl) rfl vals w
theorem Q4d : ∀ vals w, (callFunc 49 vals).run Tryz.prog w = .ok (.enter 49 vals) w := fun vals w => MuLone.run_callFunc_enter Tryz.func49 (by kernel_rfl) rfl vals w
theorem Zcd : ∀ vals w, (callFunc 50 vals).run Tryz.prog w = .ok (.enter 50 vals) w := fun vals w => MuLone.run_callFunc_enter Tryz.func50 (by kernel_rfl) rfl vals w
theorem Zd4 : TZ Tryz.prog 117 [.int .i64 0, .int .i64 0, .int .i64 0, .int .i64 0, .int .i64 0] := Qhq (by kernel_rfl)
theorem Zcc : ∀ vals w, (callFunc 51 vals).run Tryz.prog w = .ok (.enter 51 vals) w := fun vals w => MuLone.run_callFunc_enter Tryz.func51 (by kernel_rfl) rfl vals w
theorem Zby : ∀ vals w, (callFunc 77 vals).run Tryz.prog w = .ok (.enter 77 vals) w := fun vals w => MuLone.run_callFunc_enter Tryz.func77 (by kernel_rfl) rfl vals w
theorem Zcb : ∀ vals w, (callFunc 52 vals).run Tryz.prog w = .ok (.enter 52 vals) w := fun vals w => MuLone.run_callFunc_enter Tryz.func52 (by kernel_rfl) rfl vals w
theorem Q60 : ∀ vals w, (callFunc 116 vals).run Tryz.prog w = .ok (.enter 116 vals) w := fun vals w => MuLone.run_callFunc_enter Tryz.func116 (by kernel_rfl) rfl vals w
theorem Q7a : ∀ vals w, (callFunc 101 vals).run Tryz.prog w = .ok (.enter 101 vals) w := fun vals w => MuLone.run_callFunc_enter Tryz.func101 (by kernel_rfl) rfl vals w
theorem Zbu : ∀ vals w, (callFunc 81 vals).run Tryz.prog w = .ok (.enter 81 vals) w := fun vals w => MuLone.run_callFunc_enter Tryz.func81 (by kernel_rfl) rfl vals w
theorem Zd1 : TZ Tryz.prog 172 [(.pointer none), (.pointer none), (.pointer none), (.pointer none)] := Qhq (by kernel_rfl)
theorem Qon : ∀ vals w, (callFunc 103 vals).run Tryz.prog w = .ok (.enter 103 vals) w := fun vals w => MuLone.run_callFunc_enter Tryz.func103 (by kernel_rfl) rfl vals w
theorem Q69 : ∀ vals w, (callFunc 102 vals).run Tryz.prog w = .ok (.enter 102 vals) w := fun vals w => MuLone.run_callFunc_enter Tryz.func102 (by kernel_rfl) rfl vals w
theorem Zbt : ∀ vals w, (callFunc 82 vals).run Tryz.prog w = .ok (.enter 82 vals) w := fun vals w => MuLone.run_callFunc_enter Tryz.func82 (by kernel_rfl) rfl vals w
theorem Zca : ∀ vals w, (callFunc 57 vals).run Tryz.prog w = .ok (.enter 57 vals) w := fun vals w => MuLone.run_callFunc_enter Tryz.func57 (by kernel_rfl) rfl vals w
theorem tz37 : TZ Tryz.prog 37 [.int .i64 0, .int .i64 0, .int .i64 0, .int .i64 0, .int .i64 0, .int .i64 0, .int .i64 0, .int .i64 0, .int .i64 0, .int .i64 0, .int .i64 0, .int .i64 0, .int .i64 0, .int .i64 0] := Qhq (by kernel_rfl)
theorem tz38 : TZ Tryz.prog 38 [.int .i64 0] := Qhq (by kernel_rfl)
theorem Qpg : ∀ vals w, (callFunc 68 vals).run Tryz.prog w = .ok (.enter 68 vals) w := fun vals w => MuLone.run_callFunc_enter Tryz.func68 (by kernel_rfl) rfl vals w
theorem Q4i : ∀ vals w, (callFunc 28 vals).run Tryz.prog w = .ok (.enter 28 vals) w := fun vals w => MuLone.run_callFunc_enter Tryz.func28 (by kernel_rfl) rfl vals w
theorem Zci : ∀ vals w, (callFunc 30 vals).run Tryz.prog w = .ok (.enter 30 vals) w := fun vals w => MuLone.run_callFunc_enter Tryz.func30 (by kernel_rfl) rfl vals w
theorem Zcr : ∀ vals w, (callFunc 16 vals).run Tryz.prog w = .ok (.enter 16 vals) w := fun vals w => MuLone.run_callFunc_enter Tryz.func16 (by kernel_rfl) rfl vals w
theorem tz89 : TZ Tryz.prog 89 [.int .i64 0] := Qhq (by kernel_rfl)
theorem Qkk : ∀ vals w, (callFunc 31 vals).run Tryz.prog w = .ok (.enter 31 vals) w := fun vals w => MuLone.run_callFunc_enter Tryz.func31 (by kernel_rfl) rfl vals w
theorem tz94 : TZ Tryz.prog 94 [.slice none 0 0, .int .i64 0, .int .i64 0, .slice none 0 0, .int .i64 0, .int .i64 0, .int .i64 0, .int .i64 0, .int .i64 0, .int .i64 0, .int .i64 0, .int .i64 0, .int .i64 0, .int .i64 0, .int .i64 0, .int .i64 0, .int .i64 0, .int .i64 0, .int .i64 0, .int .i64 0, .int .i64 0, .int .i64 0, .int .i64 0, .int .i64 0, .int .i64 0, .int .i64 0, .int .i64 0, .int .i64 0, .int .i64 0, .int .i64 0, .int .i64 0] := Qhq (by kernel_rfl)
theorem tz92 : TZ Tryz.prog 92 [(.pointer none)] := Qhq (by kernel_rfl)
theorem tz95 : TZ Tryz.prog 95 [.nilFunc] := Qhq (by kernel_rfl)
theorem Zcq : ∀ vals w, (callFunc 17 vals).run Tryz.prog w = .ok (.enter 17 vals) w := fun vals w => MuLone.run_callFunc_enter Tryz.func17 (by kernel_rfl) rfl vals w
theorem Q4g : ∀ vals w, (callFunc 33 vals).run Tryz.prog w = .ok (.enter 33 vals) w := fun vals w => MuLone.run_callFunc_enter Tryz.func33 (by kernel_rfl) rfl vals w
theorem Zcp : ∀ vals w, (callFunc 18 vals).run Tryz.prog w = .ok (.enter 18 vals) w := fun vals w => MuLone.run_callFunc_enter Tryz.func18 (by kernel_rfl) rfl vals w
theorem Q4h : ∀ vals w, (callFunc 32 vals).run Tryz.prog w = .ok (.enter 32 vals) w := fun vals w => MuLone.run_callFunc_enter Tryz.func32 (by kernel_rfl) rfl vals w
theorem Zco : ∀ vals w, (callFunc 19 vals).run Tryz.prog w = .ok (.enter 19 vals) w := fun vals w => MuLone.run_callFunc_enter Tryz.func19 (by kernel_rfl) rfl vals w
theorem Q4f : ∀ vals w, (callFunc 34 vals).run Tryz.prog w = .ok (.enter 34 vals) w := fun vals w => MuLone.run_callFunc_enter Tryz.func34 (by kernel_rfl) rfl vals w
theorem Q4e : ∀ vals w, (callFunc 35 vals).run Tryz.prog w = .ok (.enter 35 vals) w := fun vals w => MuLone.run_callFunc_enter Tryz.func35 (by kernel_rfl) rfl vals w
theorem tz54 : TZ Tryz.prog 54 [.int .i64 0, .int .i64 0, .int .i64 0, .int .i64 0, .int .i64 0, .int .i64 0, .int .i64 0, .int .i64 0, .int .i64 0, .int .i64 0, .int .i64 0, .int .i64 0, .int .i64 0, .int .i64 0] := Qhq (by kernel_rfl)
theorem Zey : TZ Tryz.prog 104 [.int .i64 0, .int .i64 0, .int .i64 0, .int .i64 0, .int .i64 0, .int .i64 0, .int .i64 0, .int .i64 0, .int .i64 0, .int .i64 0] := Qhq (by kernel_rfl)
theorem tz32 : TZ Tryz.prog 32 [.int .i64 0, .int .i64 0, .int .i64 0, .int .i64 0] := Qhq (by kernel_rfl)
theorem Q4m : ∀ vals w, (callFunc 10 vals).run Tryz.prog w = .ok (.enter 10 vals) w := fun vals w => MuLone.run_callFunc_enter Tryz.func10 (by kernel_rfl) rfl vals w
theorem Qpt : ∀ vals w, (callFunc 7 vals).run Tryz.prog w = .ok (.enter 7 vals) w := fun vals w => MuLone.run_callFunc_enter Tryz.func7 (by kernel_rfl) rfl vals w
theorem Zei : ∀ vals w, (callFunc 9 vals).run Tryz.prog w = .ok (.enter 9 vals) w := fun vals w => MuLone.run_callFunc_enter Tryz.func9 (by kernel_rfl) rfl vals w
theorem Zej : ∀ vals w, (callFunc 8 vals).run Tryz.prog w = .ok (.enter 8 vals) w := fun vals w => MuLone.run_callFunc_enter Tryz.func8 (by kernel_rfl) rfl vals w
theorem Qxr : ∀ vals w, (callFunc 11 vals).run Tryz.prog w = .ok (.enter 11 vals) w := fun vals w => MuLone.run_callFunc_enter Tryz.func11 (by kernel_rfl) rfl vals w
theorem Qxq : ∀ vals w, (callFunc 12 vals).run Tryz.prog w = .ok (.enter 12 vals) w := fun vals w => MuLone.run_callFunc_enter Tryz.func12 (by kernel_rfl) rfl vals w
theorem Qsi : EqT Tryz.prog 9999 35 4 := Qpf (d := 9997) Tryz.underlying35 (by kernel_rfl) (.int _ (by decide) rfl Tryz.underlying3 (.int _ (by decide) rfl Tryz.underlying3 (.int _ (by decide) rfl Tryz.underlying3 (.int _ (by decide) rfl Tryz.underlying3 (.nil _)))))
theorem Qtr : EqT Tryz.prog 10000 35 4 := Qpf (d := 9998) Tryz.underlying35 (by kernel_rfl) (.int _ (by decide) rfl Tryz.underlying3 (.int _ (by decide) rfl Tryz.underlying3 (.int _ (by decide) rfl Tryz.underlying3 (.int _ (by decide) rfl Tryz.underlying3 (.nil _)))))
theorem Qvq : EqT Tryz.prog 10000 37 14 := Qpf (d := 9998) Tryz.underlying37 (by kernel_rfl) (.int _ (by decide) rfl Tryz.underlying3 (.int _ (by decide) rfl Tryz.underlying3 (.int _ (by decide) rfl Tryz.underlying3 (.int _ (by decide) rfl Tryz.underlying3 (.int _ (by decide) rfl Tryz.underlying3 (.int _ (by decide) rfl Tryz.underlying3 (.agg _ (by decide) rfl ti35 Qsi (.agg _ (by decide) rfl ti35 Qsi (.nil _)))))))))
def tyT : Tab := .node 89 ⟨true, 1, (some [.int .i64 0]), [(0, false, 1)]⟩ (.node 42 ⟨false, 1, none, []⟩ (.node 28 ⟨true, 3, none, [(0, false, 1), (1, false, 1), (2, false, 1)]⟩ (.node 23 ⟨false, 1, none, []⟩ (.node 4 ⟨false, 1, (some [.bool false]), []⟩ (.node 3 ⟨false, 1, (some [.int .i64 0]), []⟩ .nil .nil) .nil) (.node 26 ⟨true, 2, none, [(0, false, 1), (1, false, 1)]⟩ (.node 24 ⟨false, 1, none, []⟩ .nil .nil) .nil)) (.node 35 ⟨true, 4, (some [.int .i64 0, .int .i64 0, .int .i64 0, .int .i64 0]), [(0, false, 1), (1, false, 1), (2, false, 1), (3, false, 1)]⟩ (.node 32 ⟨true, 4, (some [.int .i64 0, .int .i64 0, .int .i64 0, .int .i64 0]), [(0, false, 1), (1, false, 1), (2, false, 1), (3, false, 1)]⟩ (.node 30 ⟨true, 9, none, [(0, false, 1), (1, false, 1), (2, true, 2), (4, false, 1), (5, false, 1), (6, true, 3)]⟩ .nil .nil) .nil) (.node 38 ⟨false, 1, (some [.int .i64 0]), []⟩ (.node 37 ⟨true, 14, (some [.int .i64 0, .int .i64 0, .int .i64 0, .int .i64 0, .int .i64 0, .int .i64 0, .int .i64 0, .int .i64 0, .int .i64 0, .int .i64 0, .int .i64 0, .int .i64 0, .int .i64 0, .int .i64 0]), [(0, false, 1), (1, false, 1), (2, false, 1), (3, false, 1), (4, false, 1), (5, false, 1), (6, true, 4), (10, true, 4)]⟩ .nil .nil) .nil))) (.node 61 ⟨true, 10, (some [.int .i64 0, .int .i64 0, .int .i64 0, .int .i64 0, .int .i64 0, .int .i64 0, .int .i64 0, .int .i64 0, .int .i64 0, .int .i64 0]), [(0, true, 4), (4, true, 4), (8, false, 1), (9, false, 1)]⟩ (.node 46 ⟨true, 3, (some [.int .i64 0, .int .i64 0, .int .i64 0]), [(0, false, 1), (1, false, 1), (2, false, 1)]⟩ (.node 45 ⟨true, 2, (some [.int .i64 0, .slice none 0 0]), [(0, false, 1), (1, false, 1)]⟩ (.node 43 ⟨false, 1, none, []⟩ .nil .nil) .nil) (.node 54 ⟨true, 14, (some [.int .i64 0, .int .i64 0, .int .i64 0, .int .i64 0, .int .i64 0, .int .i64 0, .int .i64 0, .int .i64 0, .int .i64 0, .int .i64 0, .int .i64 0, .int .i64 0, .int .i64 0, .int .i64 0]), [(0, false, 1), (1, false, 1), (2, false, 1), (3, false, 1), (4, false, 1), (5, false, 1), (6, true, 4), (10, true, 4)]⟩ (.node 48 ⟨true, 9, (some [.slice none 0 0, .int .i64 0, .int .i64 0, .slice none 0 0, .int .i64 0, .int .i64 0, .int .i64 0, .int .i64 0, .int .i64 0]), [(0, false, 1), (1, false, 1), (2, true, 2), (4, false, 1), (5, false, 1), (6, true, 3)]⟩ .nil .nil) .nil)) (.node 79 ⟨false, 1, (some [.slice none 0 0]), []⟩ (.node 74 ⟨false, 1, none, []⟩ (.node 73 ⟨false, 1, (some [.slice none 0 0]), []⟩ .nil .nil) .nil) (.node 84 ⟨true, 5, (some [.slice none 0 0, .int .i64 0, .int .i64 0, .int .i64 0, .slice none 0 0]), [(0, false, 1), (1, false, 1), (2, false, 1), (3, false, 1), (4, false, 1)]⟩ (.node 82 ⟨false, 1, none, []⟩ .nil .nil) .nil)))) (.node 133 ⟨false, 1, (some [.slice none 0 0]), []⟩ (.node 114 ⟨false, 1, none, []⟩ (.node 95 ⟨false, 1, (some [.nilFunc]), []⟩ (.node 94 ⟨true, 31, (some [.slice none 0 0, .int .i64 0, .int .i64 0, .slice none 0 0, .int .i64 0, .int .i64 0, .int .i64 0, .int .i64 0, .int .i64 0, .int .i64 0, .int .i64 0, .int .i64 0, .int .i64 0, .int .i64 0, .int .i64 0, .int .i64 0, .int .i64 0, .int .i64 0, .int .i64 0, .int .i64 0, .int .i64 0, .int .i64 0, .int .i64 0, .int .i64 0, .int .i64 0, .int .i64 0, .int .i64 0, .int .i64 0, .int .i64 0, .int .i64 0, .int .i64 0]), [(0, true, 9), (9, true, 14), (23, true, 4), (27, true, 4)]⟩ (.node 92 ⟨false, 1, (some [(.pointer none)]), []⟩ .nil .nil) .nil) (.node 107 ⟨true, 5, (some [.int .i64 0, .int .i64 0, .int .i64 0, .int .i64 0, .int .i64 0]), [(0, false, 1), (1, false, 1), (2, false, 1), (3, false, 1), (4, false, 1)]⟩ (.node 104 ⟨true, 10, (some [.int .i64 0, .int .i64 0, .int .i64 0, .int .i64 0, .int .i64 0, .int .i64 0, .int .i64 0, .int .i64 0, .int .i64 0, .int .i64 0]), [(0, true, 4), (4, true, 4), (8, false, 1), (9, false, 1)]⟩ .nil .nil) .nil)) (.node 126 ⟨true, 2, (some [.int .i64 0, .int .i64 0]), [(0, false, 1), (1, false, 1)]⟩ (.node 117 ⟨true, 5, (some [.int .i64 0, .int .i64 0, .int .i64 0, .int .i64 0, .int .i64 0]), [(0, true, 5)]⟩ (.node 115 ⟨true, 5, (some [.int .i64 0, .int .i64 0, .int .i64 0, .int .i64 0, .int .i64 0]), [(0, false, 1), (1, false, 1), (2, false, 1), (3, false, 1), (4, false, 1)]⟩ .nil .nil) .nil) (.node 132 ⟨false, 1, (some [.slice none 0 0]), []⟩ (.node 128 ⟨true, 2, (some [.slice none 0 0, .slice none 0 0]), [(0, false, 1), (1, false, 1)]⟩ .nil .nil) .nil))) (.node 161 ⟨false, 1, none, []⟩ (.node 144 ⟨true, 2, (some [.int .i64 0, .int .i64 0]), [(0, false, 1), (1, false, 1)]⟩ (.node 143 ⟨false, 1, none, []⟩ (.node 140 ⟨true, 2, (some [.int .i64 0, .int .i64 0]), [(0, false, 1), (1, false, 1)]⟩ .nil .nil) .nil) (.node 153 ⟨false, 1, none, []⟩ (.node 150 ⟨false, 1, none, []⟩ .nil .nil) .nil)) (.node 169 ⟨false, 1, none, []⟩ (.node 167 ⟨false, 1, none, []⟩ (.node 165 ⟨true, 3, (some [.int .i64 0, .int .i64 0, .int .i64 0]), [(0, false, 1), (1, true, 2)]⟩ .nil .nil) .nil) (.node 172 ⟨true, 4, (some [(.pointer none), (.pointer none), (.pointer none), (.pointer none)]), []⟩ (.node 171 ⟨false, 1, none, []⟩ .nil .nil) .nil))))
theorem tbk : tyT.ok Tryz.prog := ⟨⟨ti89, tz89, .inr ⟨_, Tryz.underlying89, rfl, ti38, trivial⟩⟩, ⟨⟨ti42, trivial, .inl rfl⟩, ⟨⟨ti28, trivial, .inr ⟨_, Tryz.underlying28, rfl, ti3, rfl, ti3, rfl, ti3, trivial⟩⟩, ⟨⟨ti23, trivial, .inl rfl⟩, ⟨⟨ti4, tz4, .inl rfl⟩, ⟨⟨ti3, tz3, .inl rfl⟩, trivial, trivial⟩, trivial⟩, ⟨⟨ti26, trivial, .inr ⟨_, Tryz.underlying26, rfl, ti3, rfl, ti24, trivial⟩⟩, ⟨⟨ti24, trivial, .inl rfl⟩, trivial, trivial⟩, trivial⟩⟩, ⟨⟨ti35, tz35, .inr ⟨_, Tryz.underlying35, rfl, ti3, rfl, ti3, rfl, ti3, rfl, ti3, trivial⟩⟩, ⟨⟨ti32, tz32, .inr ⟨_, Tryz.underlying32, rfl, ti3, rfl, ti3, rfl, ti3, rfl, ti3, trivial⟩⟩, ⟨⟨ti30, trivial, .inr ⟨_, Tryz.underlying30, rfl, ti23, rfl, ti3, rfl, ti26, rfl, ti3, rfl, ti3, rfl, ti28, trivial⟩⟩, trivial, trivial⟩, trivial⟩, ⟨⟨ti38, tz38, .inl rfl⟩, ⟨⟨ti37, tz37, .inr ⟨_, Tryz.underlying37, rfl, ti3, rfl, ti3, rfl, ti3, rfl, ti3, rfl, ti3, rfl, ti3, rfl, ti35, rfl, ti35, trivial⟩⟩, trivial, trivial⟩, trivial⟩⟩⟩, ⟨⟨ti61, tz61, .inr ⟨_, Tryz.underlying61, rfl, ti35, rfl, ti35, rfl, ti3, rfl, ti3, trivial⟩⟩, ⟨⟨ti46, tz46, .inr ⟨_, Tryz.underlying46, rfl, ti3, rfl, ti3, rfl, ti3, trivial⟩⟩, ⟨⟨ti45, tz45, .inr ⟨_, Tryz.underlying45, rfl, ti3, rfl, ti43, trivial⟩⟩, ⟨⟨ti43, trivial, .inl rfl⟩, trivial, trivial⟩, trivial⟩, ⟨⟨ti54, tz54, .inr ⟨_, Tryz.underlying54, rfl, ti3, rfl, ti3, rfl, ti3, rfl, ti3, rfl, ti3, rfl, ti3, rfl, ti32, rfl, ti32, trivial⟩⟩, ⟨⟨ti48, tz48, .inr ⟨_, Tryz.underlying48, rfl, ti42, rfl, ti3, rfl, ti45, rfl, ti3, rfl, ti3, rfl, ti46, trivial⟩⟩, trivial, trivial⟩, trivial⟩⟩, ⟨⟨ti79, tz79, .inl rfl⟩, ⟨⟨ti74, trivial, .inl rfl⟩, ⟨⟨ti73, tz73, .inl rfl⟩, trivial, trivial⟩, trivial⟩, ⟨⟨ti84, tz84, .inr ⟨_, Tryz.underlying84, rfl, ti73, rfl, ti3, rfl, ti3, rfl, ti3, rfl, ti82, trivial⟩⟩, ⟨⟨ti82, trivial, .inl rfl⟩, trivial, trivial⟩, trivial⟩⟩⟩⟩, ⟨⟨Qki, Zd2, .inl rfl⟩, ⟨⟨Zfb, trivial, .inl rfl⟩, ⟨⟨ti95, tz95, .inl rfl⟩, ⟨⟨ti94, tz94, .inr ⟨_, Tryz.underlying94, rfl, ti48, rfl, ti37, rfl, ti35, rfl, ti35, trivial⟩⟩, ⟨⟨ti92, tz92, .inl rfl⟩, trivial, trivial⟩, trivial⟩, ⟨⟨Ql3, Zex, .inr ⟨_, Tryz.underlying107, rfl, ti3, rfl, ti3, rfl, ti3, rfl, ti3, rfl, ti3, trivial⟩⟩, ⟨⟨Zfc, Zey, .inr ⟨_, Tryz.underlying104, rfl, ti32, rfl, ti32, rfl, ti3, rfl, ti3, trivial⟩⟩, trivial, trivial⟩, trivial⟩⟩, ⟨⟨Qp1, Qu0, .inr ⟨_, Tryz.underlying126, rfl, ti3, rfl, ti3, trivial⟩⟩, ⟨⟨Zd6, Zd4, .inr ⟨_, Tryz.underlying117, rfl, Qtc, trivial⟩⟩, ⟨⟨Qtc, Zap, .inr ⟨_, Tryz.underlying115, rfl, ti3, rfl, ti3, rfl, ti3, rfl, ti3, rfl, ti3, trivial⟩⟩, trivial, trivial⟩, trivial⟩, ⟨⟨Ze9, Zew, .inl rfl⟩, ⟨⟨Zfa, Zd3, .inr ⟨_, Tryz.underlying128, rfl, ti73, rfl, ti74, trivial⟩⟩, trivial, trivial⟩, trivial⟩⟩⟩, ⟨⟨Ze5, trivial, .inl rfl⟩, ⟨⟨Q24, Zev, .inr ⟨_, Tryz.underlying144, rfl, ti3, rfl, ti3, trivial⟩⟩, ⟨⟨Ze8, trivial, .inl rfl⟩, ⟨⟨Q58, Q0f, .inr ⟨_, Tryz.underlying140, rfl, ti3, rfl, ti3, trivial⟩⟩, trivial, trivial⟩, trivial⟩, ⟨⟨Ze6, trivial, .inl rfl⟩, ⟨⟨Ze7, trivial, .inl rfl⟩, trivial, trivial⟩, trivial⟩⟩, ⟨⟨Ze3, trivial, .inl rfl⟩, ⟨⟨Ze4, trivial, .inl rfl⟩, ⟨⟨Qes, Zao, .inr ⟨_, Tryz.underlying165, rfl, ti3, rfl, Qp1, trivial⟩⟩, trivial, trivial⟩, trivial⟩, ⟨⟨Zd5, Zd1, .inl rfl⟩, ⟨⟨Qrr, trivial, .inl rfl⟩, trivial, trivial⟩, trivial⟩⟩⟩⟩⟩
end Go.Proofs.YtlhakkkjgdbdpaaGreat
