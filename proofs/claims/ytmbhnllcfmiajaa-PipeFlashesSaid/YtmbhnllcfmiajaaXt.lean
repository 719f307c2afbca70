/-
  The types of the program as Lean types, and how they lie in cells; facts on the program's types. No conditions.
-/
import Derived.Test.YtmbhnllcfmiajaaEngY
import Derived.Test.YtmbhnllcfmiajaaEngC
import Derived.Test.YtmbhnllcfmiajaaEngA
import Derived.Test.YtmbhnllcfmiajaaEngN
import Derived.Conc.MuLone
namespace Go.Proofs.Ytmbhnllcfmiajaa
set_option maxRecDepth 100000
open Go.RowKit
def Qam (x : Int) : List AV := [K .i64 x]
theorem Qaf : ∀ x, ∀ a ∈ Qam x, NLt 0 a := fun _ => Qoq (.lit _) Qsi
theorem Zdd : ∀ x, (Qam x).all AV.one = true := fun _ => rfl
structure GRow where
  T : Int
  P : Int
  Liquid : Int
  Vapour : Int
  Silica : Int
  deriving DecidableEq
def Qav (x : GRow) : List AV := Qam x.T ++ Qam x.P ++ Qam x.Liquid ++ Qam x.Vapour ++ Qam x.Silica
theorem Qai : ∀ x, ∀ a ∈ Qav x, NLt 0 a := fun _ => (Qhi (Qhi (Qhi (Qhi (Qaf _) (Qaf _)) (Qaf _)) (Qaf _)) (Qaf _))
def c_u8 (x : Int) : List AV := [K .u8 x]
theorem Zhl : ∀ x, ∀ a ∈ c_u8 x, NLt 0 a := fun _ => Qoq (.lit _) Qsi
structure GPort where
  Element : Int
  Outlet : Int
  deriving DecidableEq
def Qa7 (x : GPort) : List AV := Qam x.Element ++ Qam x.Outlet
theorem Qcp : ∀ x, ∀ a ∈ Qa7 x, NLt 0 a := fun _ => (Qhi (Qaf _) (Qaf _))
def Q0t (x : (List GPort)) : List AV := [.dat 2 (x.map Qa7)]
theorem Q5u : ∀ x, ∀ a ∈ Q0t x, NLt 0 a := fun _ => Qoq (Q0e Qcp _) Qsi
def Zaz (x : (List Int)) : List AV := [.dat 1 (x.map Qam)]
theorem Zdg : ∀ x, ∀ a ∈ Zaz x, NLt 0 a := fun _ => Qoq (Q0e Qaf _) Qsi
structure GElement where
  Kind : Int
  From : List GPort
  Level : Int
  Amount : Int
  Wide : Int
  Narrow : Int
  Weights : List Int
  deriving DecidableEq
def Qah (x : GElement) : List AV := c_u8 x.Kind ++ Q0t x.From ++ Qam x.Level ++ Qam x.Amount ++ Qam x.Wide ++ Qam x.Narrow ++ Zaz x.Weights
theorem Qac : ∀ x, ∀ a ∈ Qah x, NLt 0 a := fun _ => (Qhi (Qhi (Qhi (Qhi (Qhi (Qhi (Zhl _) (Q5u _)) (Qaf _)) (Qaf _)) (Qaf _)) (Qaf _)) (Zdg _))
def Q6x (x : (List GRow)) : List AV := [.dat 5 (x.map Qav)]
def Qyc (x : (List GElement)) : List AV := [.dat 7 (x.map Qah)]
structure GNet where
  Table : List GRow
  Elements : List GElement
  deriving DecidableEq
def Qpg (x : GNet) : List AV := Q6x x.Table ++ Qyc x.Elements
structure GStream where
  Mass : Int
  Heat : Int
  Silica : Int
  Gas : Int
  deriving DecidableEq
def Qaa (x : GStream) : List AV := Qam x.Mass ++ Qam x.Heat ++ Qam x.Silica ++ Qam x.Gas
theorem Qae : ∀ x, ∀ a ∈ Qaa x, NLt 0 a := fun _ => (Qhi (Qhi (Qhi (Qaf _) (Qaf _)) (Qaf _)) (Qaf _))
structure GLoss where
  Heat : Int
  Silica : Int
  Gas : Int
  deriving DecidableEq
def Zfb (x : GLoss) : List AV := Qam x.Heat ++ Qam x.Silica ++ Qam x.Gas
def Qab (x : (List GStream)) : List AV := [.dat 4 (x.map Qaa)]
theorem Qap : ∀ x, ∀ a ∈ Qab x, NLt 0 a := fun _ => Qoq (Q0e Qae _) Qsi
structure GLost where
  Heat : Int
  Silica : Int
  Gas : Int
  Scale : Int
  deriving DecidableEq
def Qax (x : GLost) : List AV := Qam x.Heat ++ Qam x.Silica ++ Qam x.Gas ++ Qam x.Scale
theorem Qa1 : ∀ x, ∀ a ∈ Qax x, NLt 0 a := fun _ => (Qhi (Qhi (Qhi (Qaf _) (Qaf _)) (Qaf _)) (Qaf _))
structure GFlash where
  Row : GRow
  deriving DecidableEq
def Qt1 (x : GFlash) : List AV := Qav x.Row
structure GParts where
  Steam : GStream
  Water : GStream
  Rest : Int
  Scale : Int
  deriving DecidableEq
def Qbf (x : GParts) : List AV := Qaa x.Steam ++ Qaa x.Water ++ Qam x.Rest ++ Qam x.Scale
theorem Qey : ∀ x, ∀ a ∈ Qbf x, NLt 0 a := fun _ => (Qhi (Qhi (Qhi (Qae _) (Qae _)) (Qaf _)) (Qaf _))
structure GTick where
  Out : List (List GStream)
  Lost : List GLost
  State : List Int
  deriving DecidableEq
theorem Qtq : ∀ x, ∀ a ∈ Qam x, ∃ v, a = .lit v := fun _ => Q85 Zdo
theorem Qxw : ∀ x, ∀ a ∈ Qaa x, ∃ v, a = .lit v := fun _ => (Qxv (Qxv (Qxv (Qtq _) (Qtq _)) (Qtq _)) (Qtq _))
theorem Qrw : TI Try.prog 107 true 5 := ⟨⟨_, Try.underlying107, rfl⟩, Qdt (by kernel_rfl)⟩
theorem Zhc : TI Try.prog 131 false 1 := ⟨⟨_, Try.underlying131, rfl⟩, Qdt (by kernel_rfl)⟩
theorem ti3 : TI Try.prog 3 false 1 := ⟨⟨_, Try.underlying3, rfl⟩, Qdt (by kernel_rfl)⟩
theorem ti39 : TI Try.prog 39 false 1 := ⟨⟨_, Try.underlying39, rfl⟩, Qdt (by kernel_rfl)⟩
theorem ti40 : TI Try.prog 40 false 1 := ⟨⟨_, Try.underlying40, rfl⟩, Qdt (by kernel_rfl)⟩
theorem ti76 : TI Try.prog 76 true 7 := ⟨⟨_, Try.underlying76, rfl⟩, Qdt (by kernel_rfl)⟩
theorem Zhd : TI Try.prog 127 false 1 := ⟨⟨_, Try.underlying127, rfl⟩, Qdt (by kernel_rfl)⟩
theorem ti5 : TI Try.prog 5 false 1 := ⟨⟨_, Try.underlying5, rfl⟩, Qdt (by kernel_rfl)⟩
theorem ti53 : TI Try.prog 53 false 1 := ⟨⟨_, Try.underlying53, rfl⟩, Qdt (by kernel_rfl)⟩
theorem ti27 : TI Try.prog 27 false 1 := ⟨⟨_, Try.underlying27, rfl⟩, Qdt (by kernel_rfl)⟩
theorem Zhf : TI Try.prog 108 false 1 := ⟨⟨_, Try.underlying108, rfl⟩, Qdt (by kernel_rfl)⟩
theorem ti57 : TI Try.prog 57 true 2 := ⟨⟨_, Try.underlying57, rfl⟩, Qdt (by kernel_rfl)⟩
theorem ti42 : TI Try.prog 42 true 2 := ⟨⟨_, Try.underlying42, rfl⟩, Qdt (by kernel_rfl)⟩
theorem Zcw : TI Try.prog 122 false 1 := ⟨⟨_, Try.underlying122, rfl⟩, Qdt (by kernel_rfl)⟩
theorem ti48 : TI Try.prog 48 true 4 := ⟨⟨_, Try.underlying48, rfl⟩, Qdt (by kernel_rfl)⟩
theorem Zhb : TI Try.prog 137 false 1 := ⟨⟨_, Try.underlying137, rfl⟩, Qdt (by kernel_rfl)⟩
theorem Q1z : TI Try.prog 153 true 3 := ⟨⟨_, Try.underlying153, rfl⟩, Qdt (by kernel_rfl)⟩
theorem Zhg : TI Try.prog 100 false 1 := ⟨⟨_, Try.underlying100, rfl⟩, Qdt (by kernel_rfl)⟩
theorem Qrv : TI Try.prog 159 false 1 := ⟨⟨_, Try.underlying159, rfl⟩, Qdt (by kernel_rfl)⟩
theorem Zgc : TI Try.prog 160 true 4 := ⟨⟨_, Try.underlying160, rfl⟩, Qdt (by kernel_rfl)⟩
theorem ti31 : TI Try.prog 31 false 1 := ⟨⟨_, Try.underlying31, rfl⟩, Qdt (by kernel_rfl)⟩
theorem ti32 : TI Try.prog 32 false 1 := ⟨⟨_, Try.underlying32, rfl⟩, Qdt (by kernel_rfl)⟩
theorem ti34 : TI Try.prog 34 true 3 := ⟨⟨_, Try.underlying34, rfl⟩, Qdt (by kernel_rfl)⟩
theorem ti45 : TI Try.prog 45 false 1 := ⟨⟨_, Try.underlying45, rfl⟩, Qdt (by kernel_rfl)⟩
theorem ti89 : TI Try.prog 89 false 1 := ⟨⟨_, Try.underlying89, rfl⟩, Qdt (by kernel_rfl)⟩
theorem Qnk : TI Try.prog 142 false 1 := ⟨⟨_, Try.underlying142, rfl⟩, Qdt (by kernel_rfl)⟩
theorem Zha : TI Try.prog 144 true 7 := ⟨⟨_, Try.underlying144, rfl⟩, Qdt (by kernel_rfl)⟩
theorem ti50 : TI Try.prog 50 true 4 := ⟨⟨_, Try.underlying50, rfl⟩, Qdt (by kernel_rfl)⟩
theorem ti79 : TI Try.prog 79 true 10 := ⟨⟨_, Try.underlying79, rfl⟩, Qdt (by kernel_rfl)⟩
theorem Zgd : TI Try.prog 110 true 5 := ⟨⟨_, Try.underlying110, rfl⟩, Qdt (by kernel_rfl)⟩
theorem Zhe : TI Try.prog 120 true 1 := ⟨⟨_, Try.underlying120, rfl⟩, Qdt (by kernel_rfl)⟩
theorem Qlo : TI Try.prog 106 true 5 := ⟨⟨_, Try.underlying106, rfl⟩, Qdt (by kernel_rfl)⟩
theorem ti23 : TI Try.prog 23 false 1 := ⟨⟨_, Try.underlying23, rfl⟩, Qdt (by kernel_rfl)⟩
theorem ti24 : TI Try.prog 24 false 1 := ⟨⟨_, Try.underlying24, rfl⟩, Qdt (by kernel_rfl)⟩
theorem ti70 : TI Try.prog 70 true 7 := ⟨⟨_, Try.underlying70, rfl⟩, Qdt (by kernel_rfl)⟩
theorem ti64 : TI Try.prog 64 false 1 := ⟨⟨_, Try.underlying64, rfl⟩, Qdt (by kernel_rfl)⟩
theorem ti66 : TI Try.prog 66 true 2 := ⟨⟨_, Try.underlying66, rfl⟩, Qdt (by kernel_rfl)⟩
theorem ti71 : TI Try.prog 71 true 4 := ⟨⟨_, Try.underlying71, rfl⟩, Qdt (by kernel_rfl)⟩
theorem ti26 : TI Try.prog 26 true 2 := ⟨⟨_, Try.underlying26, rfl⟩, Qdt (by kernel_rfl)⟩
theorem ti82 : TI Try.prog 82 false 1 := ⟨⟨_, Try.underlying82, rfl⟩, Qdt (by kernel_rfl)⟩
theorem ti93 : TI Try.prog 93 true 7 := ⟨⟨_, Try.underlying93, rfl⟩, Qdt (by kernel_rfl)⟩
theorem ts57 : TS Try.prog 57 [(0, 1), (1, 1)] := ⟨_, Try.underlying57, ⟨rfl, ⟨_, ti3⟩, rfl, ⟨_, ti3⟩, trivial⟩⟩
theorem ts48 : TS Try.prog 48 [(0, 1), (1, 1), (2, 1), (3, 1)] := ⟨_, Try.underlying48, ⟨rfl, ⟨_, ti3⟩, rfl, ⟨_, ti3⟩, rfl, ⟨_, ti3⟩, rfl, ⟨_, ti3⟩, trivial⟩⟩
theorem Q4w : TS Try.prog 153 [(0, 1), (1, 1), (2, 1)] := ⟨_, Try.underlying153, ⟨rfl, ⟨_, ti3⟩, rfl, ⟨_, ti3⟩, rfl, ⟨_, ti3⟩, trivial⟩⟩
theorem ts34 : TS Try.prog 34 [(0, 1), (1, 1), (2, 1)] := ⟨_, Try.underlying34, ⟨rfl, ⟨_, ti31⟩, rfl, ⟨_, ti32⟩, rfl, ⟨_, ti27⟩, trivial⟩⟩
theorem ts93 : TS Try.prog 93 [(0, 2), (2, 3), (5, 1), (6, 1)] := ⟨_, Try.underlying93, ⟨rfl, ⟨_, ti42⟩, rfl, ⟨_, ti34⟩, rfl, ⟨_, ti45⟩, rfl, ⟨_, ti3⟩, trivial⟩⟩
theorem Zg8 : TS Try.prog 120 [(0, 1)] := ⟨_, Try.underlying120, ⟨rfl, ⟨_, ti3⟩, trivial⟩⟩
theorem ts79 : TS Try.prog 79 [(0, 4), (4, 4), (8, 1), (9, 1)] := ⟨_, Try.underlying79, ⟨rfl, ⟨_, ti48⟩, rfl, ⟨_, ti48⟩, rfl, ⟨_, ti3⟩, rfl, ⟨_, ti3⟩, trivial⟩⟩
theorem Zg9 : TS Try.prog 110 [(0, 5)] := ⟨_, Try.underlying110, ⟨rfl, ⟨_, Qrw⟩, trivial⟩⟩
theorem Q8i : TS Try.prog 107 [(0, 1), (1, 1), (2, 1), (3, 1), (4, 1)] := ⟨_, Try.underlying107, ⟨rfl, ⟨_, ti3⟩, rfl, ⟨_, ti3⟩, rfl, ⟨_, ti3⟩, rfl, ⟨_, ti3⟩, rfl, ⟨_, ti3⟩, trivial⟩⟩
theorem ts76 : TS Try.prog 76 [(0, 1), (1, 1), (2, 1), (3, 1), (4, 1), (5, 1), (6, 1)] := ⟨_, Try.underlying76, ⟨rfl, ⟨_, ti5⟩, rfl, ⟨_, ti53⟩, rfl, ⟨_, ti3⟩, rfl, ⟨_, ti3⟩, rfl, ⟨_, ti3⟩, rfl, ⟨_, ti3⟩, rfl, ⟨_, ti27⟩, trivial⟩⟩
theorem ts42 : TS Try.prog 42 [(0, 1), (1, 1)] := ⟨_, Try.underlying42, ⟨rfl, ⟨_, ti39⟩, rfl, ⟨_, ti40⟩, trivial⟩⟩
theorem Qdf : ∀ vals w, (callFunc 45 vals).run Try.prog w = .ok (.enter 45 vals) w := fun vals w => MuLone.run_callFunc_enter Try.func45 (by kernel_rfl) rfl vals w
theorem Zen : ∀ vals w, (callFunc 64 vals).run Try.prog w = .ok (.enter 64 vals) w := fun vals w => MuLone.run_callFunc_enter Try.func64 (by kernel_rfl) rfl vals w
theorem Zd7 : ∀ vals w, (callFunc 85 vals).run Try.prog w = .ok (.enter 85 vals) w := fun vals w => MuLone.run_callFunc_enter Try.func85 (by kernel_rfl) rfl vals w
theorem Zd1 : ∀ vals w, (callFunc 94 vals).run Try.prog w = .ok (.enter 94 vals) w := fun vals w => MuLone.run_callFunc_enter Try.func94 (by kernel_rfl) rfl vals w
theorem Zd8 : ∀ vals w, (callFunc 84 vals).run Try.prog w = .ok (.enter 84 vals) w := fun vals w => MuLone.run_callFunc_enter Try.func84 (by kernel_rfl) rfl vals w
theorem Zeo : ∀ vals w, (callFunc 63 vals).run Try.prog w = .ok (.enter 63 vals) w := fun vals w => MuLone.run_callFunc_enter Try.func63 (by kernel_rfl) rfl vals w
theorem Qxc : TZ Try.prog 107 [.int .i64 0, .int .i64 0, .int .i64 0, .int .i64 0, .int .i64 0] := Qka (by kernel_rfl)
theorem Qx4 : ∀ vals w, (callFunc 41 vals).run Try.prog w = .ok (.enter 41 vals) w := fun vals w => MuLone.run_callFunc_enter Try.func41 (by kernel_rfl) rfl vals w
theorem Qx2 : ∀ vals w, (callFunc 55 vals).run Try.prog w = .ok (.enter 55 vals) w := fun vals w => MuLone.run_callFunc_enter Try.func55 (by kernel_rfl) rfl vals w
theorem Qfx : ∀ vals w, (callFunc 56 vals).run Try.prog w = .ok (.enter 56 vals) w := fun vals w => MuLone.run_callFunc_enter Try.func56 (by kernel_rfl) rfl vals w
theorem Zea : ∀ vals w, (callFunc 81 vals).run Try.prog w = .ok (.enter 81 vals) w := fun vals w => MuLone.run_callFunc_enter Try.func81 (by kernel_rfl) rfl vals w
theorem Q6g : ∀ vals w, (callFunc 83 vals).run Try.prog w = .ok (.enter 83 vals) w := fun vals w => MuLone.run_callFunc_enter Try.func83 (by kernel_rfl) rfl vals w
theorem Qou : ∀ vals w, (callFunc 86 vals).run Try.prog w = .ok (.enter 86 vals) w := fun vals w => MuLone.run_callFunc_enter Try.func86 (by kernel_rfl) rfl vals w
theorem Qov : ∀ vals w, (callFunc 66 vals).run Try.prog w = .ok (.enter 66 vals) w := fun vals w => MuLone.run_callFunc_enter Try.func66 (by kernel_rfl) rfl vals w
theorem Qx1 : ∀ vals w, (callFunc 60 vals).run Try.prog w = .ok (.enter 60 vals) w := fun vals w => MuLone.run_callFunc_enter Try.func60 (by kernel_rfl) rfl vals w
theorem Zd9 : ∀ vals w, (callFunc 82 vals).run Try.prog w = .ok (.enter 82 vals) w := fun vals w => MuLone.run_callFunc_enter Try.func82 (by kernel_rfl) rfl vals w
theorem Zer : ∀ vals w, (callFunc 58 vals).run Try.prog w = .ok (.enter 58 vals) w := fun vals w => MuLone.run_callFunc_enter Try.func58 (by kernel_rfl) rfl vals w
theorem Zeb : ∀ vals w, (callFunc 80 vals).run Try.prog w = .ok (.enter 80 vals) w := fun vals w => MuLone.run_callFunc_enter Try.func80 (by kernel_rfl) rfl vals w
theorem Zd2 : ∀ vals w, (callFunc 93 vals).run Try.prog w = .ok (.enter 93 vals) w := fun vals w => MuLone.run_callFunc_enter Try.func93 (by kernel_rfl) rfl vals w
theorem Zec : ∀ vals w, (callFunc 79 vals).run Try.prog w = .ok (.enter 79 vals) w := fun vals w => MuLone.run_callFunc_enter Try.func79 (by kernel_rfl) rfl vals w
theorem Zes : ∀ vals w, (callFunc 57 vals).run Try.prog w = .ok (.enter 57 vals) w := fun vals w => MuLone.run_callFunc_enter Try.func57 (by kernel_rfl) rfl vals w
theorem Qyb : CkT Try.prog 57 2 := ck2 Try.underlying57 Try.underlying3 Try.underlying3 rfl rfl
theorem zb4 : ∃ i, Try.prog.info? 4 = some i ∧ i.zero = some (.bool false) := Zg2 (by kernel_rfl)
theorem tz76 : TZ Try.prog 76 [.int .u8 0, .slice none 0 0, .int .i64 0, .int .i64 0, .int .i64 0, .int .i64 0, .slice none 0 0] := Qka (by kernel_rfl)
theorem tz57 : TZ Try.prog 57 [.int .i64 0, .int .i64 0] := Qka (by kernel_rfl)
theorem Qtw : ∀ vals w, (callFunc 54 vals).run Try.prog w = .ok (.enter 54 vals) w := fun vals w => MuLone.run_callFunc_enter Try.func54 (by kernel_rfl) rfl vals w
theorem Qtx : ∀ vals w, (callFunc 32 vals).run Try.prog w = .ok (.enter 32 vals) w := fun vals w => MuLone.run_callFunc_enter Try.func32 (by kernel_rfl) rfl vals w
theorem Zg6 : TZ Try.prog 122 [(.map none)] := Qka (by kernel_rfl)
theorem Ze1 : ∀ vals w, (callFunc 30 vals).run Try.prog w = .ok (.enter 30 vals) w := fun vals w => MuLone.run_callFunc_enter Try.func30 (by kernel_rfl) rfl vals w
theorem te57 : TE Try.prog 57 2 16 := Qxf (by kernel_rfl) (by decide)
theorem Zet : ∀ vals w, (callFunc 53 vals).run Try.prog w = .ok (.enter 53 vals) w := fun vals w => MuLone.run_callFunc_enter Try.func53 (by kernel_rfl) rfl vals w
theorem Zeq : ∀ vals w, (callFunc 59 vals).run Try.prog w = .ok (.enter 59 vals) w := fun vals w => MuLone.run_callFunc_enter Try.func59 (by kernel_rfl) rfl vals w
theorem Ze0 : ∀ vals w, (callFunc 33 vals).run Try.prog w = .ok (.enter 33 vals) w := fun vals w => MuLone.run_callFunc_enter Try.func33 (by kernel_rfl) rfl vals w
theorem Zep : ∀ vals w, (callFunc 61 vals).run Try.prog w = .ok (.enter 61 vals) w := fun vals w => MuLone.run_callFunc_enter Try.func61 (by kernel_rfl) rfl vals w
theorem Zez : ∀ vals w, (callFunc 35 vals).run Try.prog w = .ok (.enter 35 vals) w := fun vals w => MuLone.run_callFunc_enter Try.func35 (by kernel_rfl) rfl vals w
theorem tz3 : TZ Try.prog 3 [.int .i64 0] := Qka (by kernel_rfl)
theorem te3 : TE Try.prog 3 1 8 := Qxf (by kernel_rfl) (by decide)
theorem Qtv : ∀ vals w, (callFunc 70 vals).run Try.prog w = .ok (.enter 70 vals) w := fun vals w => MuLone.run_callFunc_enter Try.func70 (by kernel_rfl) rfl vals w
theorem Qna : ∀ vals w, (callFunc 34 vals).run Try.prog w = .ok (.enter 34 vals) w := fun vals w => MuLone.run_callFunc_enter Try.func34 (by kernel_rfl) rfl vals w
theorem Ze6 : ∀ vals w, (callFunc 14 vals).run Try.prog w = .ok (.enter 14 vals) w := fun vals w => MuLone.run_callFunc_enter Try.func14 (by kernel_rfl) rfl vals w
theorem Zei : ∀ vals w, (callFunc 72 vals).run Try.prog w = .ok (.enter 72 vals) w := fun vals w => MuLone.run_callFunc_enter Try.func72 (by kernel_rfl) rfl vals w
theorem Zd5 : ∀ vals w, (callFunc 88 vals).run Try.prog w = .ok (.enter 88 vals) w := fun vals w => MuLone.run_callFunc_enter Try.func88 (by kernel_rfl) rfl vals w
theorem Zd0 : ∀ vals w, (callFunc 95 vals).run Try.prog w = .ok (.enter 95 vals) w := fun vals w => MuLone.run_callFunc_enter Try.func95 (by kernel_rfl) rfl vals w
theorem Zd6 : ∀ vals w, (callFunc 87 vals).run Try.prog w = .ok (.enter 87 vals) w := fun vals w => MuLone.run_callFunc_enter Try.func87 (by kernel_rfl) rfl vals w
theorem Zej : ∀ vals w, (callFunc 71 vals).run Try.prog w = .ok (.enter 71 vals) w := fun vals w => MuLone.run_callFunc_enter Try.func71 (by kernel_rfl) rfl vals w
theorem tz48 : TZ Try.prog 48 [.int .i64 0, .int .i64 0, .int .i64 0, .int .i64 0] := Qka (by kernel_rfl)
theorem Qx5 : ∀ vals w, (callFunc 31 vals).run Try.prog w = .ok (.enter 31 vals) w := fun vals w => MuLone.run_callFunc_enter Try.func31 (by kernel_rfl) rfl vals w
theorem Zew : ∀ vals w, (callFunc 49 vals).run Try.prog w = .ok (.enter 49 vals) w := fun vals w => MuLone.run_callFunc_enter Try.func49 (by kernel_rfl) rfl vals w
theorem Q1w : TZ Try.prog 153 [.int .i64 0, .int .i64 0, .int .i64 0] := Qka (by kernel_rfl)
theorem Zdy : ∀ vals w, (callFunc 97 vals).run Try.prog w = .ok (.enter 97 vals) w := fun vals w => MuLone.run_callFunc_enter Try.func97 (by kernel_rfl) rfl vals w
theorem Q6j : ∀ vals w, (callFunc 67 vals).run Try.prog w = .ok (.enter 67 vals) w := fun vals w => MuLone.run_callFunc_enter Try.func67 (by kernel_rfl) rfl vals w
theorem Qx3 : ∀ vals w, (callFunc 46 vals).run Try.prog w = .ok (.enter 46 vals) w := fun vals w => MuLone.run_callFunc_enter Try.func46 (by kernel_rfl) rfl vals w
theorem Zdx : ∀ vals w, (callFunc 98 vals).run Try.prog w = .ok (.enter 98 vals) w := fun vals w => MuLone.run_callFunc_enter Try.func98 (by kernel_rfl) rfl vals w
theorem Q0r : ∀ vals w, (callFunc 103 vals).run Try.prog w = .ok (.enter 103 vals) w := fun vals w => MuLone.run_callFunc_enter Try.func103 (by kernel_rfl) rfl vals w
theorem Q9d : ∀ vals w, (callFunc 107 vals).run Try.prog w = .ok (.enter 107 vals) w := fun vals w => MuLone.run_callFunc_enter Try.func107 (by kernel_rfl) rfl vals w
theorem Q0q : ∀ vals w, (callFunc 109 vals).run Try.prog w = .ok (.enter 109 vals) w := fun vals w => MuLone.run_callFunc_enter Try.func109 (by kernel_rfl) rfl vals w
theorem Q9c : ∀ vals w, (callFunc 108 vals).run Try.prog w = .ok (.enter 108 vals) w := fun vals w => MuLone.run_callFunc_enter Try.func108 (by kernel_rfl) rfl vals w
theorem Q9e : ∀ vals w, (callFunc 106 vals).run Try.prog w = .ok (.enter 106 vals) w := fun vals w => MuLone.run_callFunc_enter Try.func106 (by kernel_rfl) rfl vals w
theorem Q9g : ∀ vals w, (callFunc 102 vals).run Try.prog w = .ok (.enter 102 vals) w := fun vals w => MuLone.run_callFunc_enter Try.func102 (by kernel_rfl) rfl vals w
theorem Zdw : ∀ vals w, (callFunc 99 vals).run Try.prog w = .ok (.enter 99 vals) w := fun vals w => MuLone.run_callFunc_enter Try.func99 (by kernel_rfl) rfl vals w
theorem Qtz : ∀ vals w, (callFunc 100 vals).run Try.prog w = .ok (.enter 100 vals) w := fun vals w => MuLone.run_callFunc_enter Try.func100 (by kernel_rfl) rfl vals w
theorem te48 : TE Try.prog 48 4 32 := Qxf (by kernel_rfl) (by decide)
theorem Zf7 : TZ Try.prog 160 [(.pointer none), (.pointer none), (.pointer none), (.pointer none)] := Qka (by kernel_rfl)
theorem Qnx : ∀ vals w, (callFunc 105 vals).run Try.prog w = .ok (.enter 105 vals) w := fun vals w => MuLone.run_callFunc_enter Try.func105 (by kernel_rfl) rfl vals w
theorem Q9f : ∀ vals w, (callFunc 104 vals).run Try.prog w = .ok (.enter 104 vals) w := fun vals w => MuLone.run_callFunc_enter Try.func104 (by kernel_rfl) rfl vals w
theorem Q9h : ∀ vals w, (callFunc 101 vals).run Try.prog w = .ok (.enter 101 vals) w := fun vals w => MuLone.run_callFunc_enter Try.func101 (by kernel_rfl) rfl vals w
theorem tz89 : TZ Try.prog 89 [(.pointer none)] := Qka (by kernel_rfl)
theorem te45 : TE Try.prog 45 1 24 := Qxf (by kernel_rfl) (by decide)
theorem tz45 : TZ Try.prog 45 [.slice none 0 0] := Qka (by kernel_rfl)
theorem te50 : TE Try.prog 50 4 32 := Qxf (by kernel_rfl) (by decide)
theorem tz50 : TZ Try.prog 50 [.int .i64 0, .int .i64 0, .int .i64 0, .int .i64 0] := Qka (by kernel_rfl)
theorem Zev : ∀ vals w, (callFunc 50 vals).run Try.prog w = .ok (.enter 50 vals) w := fun vals w => MuLone.run_callFunc_enter Try.func50 (by kernel_rfl) rfl vals w
theorem tz34 : TZ Try.prog 34 [.slice none 0 0, .slice none 0 0, .slice none 0 0] := Qka (by kernel_rfl)
theorem tz93 : TZ Try.prog 93 [.slice none 0 0, .slice none 0 0, .slice none 0 0, .slice none 0 0, .slice none 0 0, .slice none 0 0, .int .i64 0] := Qka (by kernel_rfl)
theorem Zeu : ∀ vals w, (callFunc 51 vals).run Try.prog w = .ok (.enter 51 vals) w := fun vals w => MuLone.run_callFunc_enter Try.func51 (by kernel_rfl) rfl vals w
theorem Q6o : ∀ vals w, (callFunc 36 vals).run Try.prog w = .ok (.enter 36 vals) w := fun vals w => MuLone.run_callFunc_enter Try.func36 (by kernel_rfl) rfl vals w
theorem Zeg : ∀ vals w, (callFunc 74 vals).run Try.prog w = .ok (.enter 74 vals) w := fun vals w => MuLone.run_callFunc_enter Try.func74 (by kernel_rfl) rfl vals w
theorem Q6f : ∀ vals w, (callFunc 91 vals).run Try.prog w = .ok (.enter 91 vals) w := fun vals w => MuLone.run_callFunc_enter Try.func91 (by kernel_rfl) rfl vals w
theorem Zd3 : ∀ vals w, (callFunc 90 vals).run Try.prog w = .ok (.enter 90 vals) w := fun vals w => MuLone.run_callFunc_enter Try.func90 (by kernel_rfl) rfl vals w
theorem Zd4 : ∀ vals w, (callFunc 89 vals).run Try.prog w = .ok (.enter 89 vals) w := fun vals w => MuLone.run_callFunc_enter Try.func89 (by kernel_rfl) rfl vals w
theorem Zeh : ∀ vals w, (callFunc 73 vals).run Try.prog w = .ok (.enter 73 vals) w := fun vals w => MuLone.run_callFunc_enter Try.func73 (by kernel_rfl) rfl vals w
theorem Zf9 : TZ Try.prog 120 [.int .i64 0] := Qka (by kernel_rfl)
theorem Zf8 : TZ Try.prog 144 [.nilFunc, .nilFunc, .nilFunc, .nilFunc, .nilFunc, .nilFunc, .nilFunc] := Qka (by kernel_rfl)
theorem Qx0 : ∀ vals w, (callFunc 75 vals).run Try.prog w = .ok (.enter 75 vals) w := fun vals w => MuLone.run_callFunc_enter Try.func75 (by kernel_rfl) rfl vals w
theorem Zef : ∀ vals w, (callFunc 76 vals).run Try.prog w = .ok (.enter 76 vals) w := fun vals w => MuLone.run_callFunc_enter Try.func76 (by kernel_rfl) rfl vals w
theorem tz79 : TZ Try.prog 79 [.int .i64 0, .int .i64 0, .int .i64 0, .int .i64 0, .int .i64 0, .int .i64 0, .int .i64 0, .int .i64 0, .int .i64 0, .int .i64 0] := Qka (by kernel_rfl)
theorem Q6n : ∀ vals w, (callFunc 42 vals).run Try.prog w = .ok (.enter 42 vals) w := fun vals w => MuLone.run_callFunc_enter Try.func42 (by kernel_rfl) rfl vals w
theorem Zga : TZ Try.prog 110 [.int .i64 0, .int .i64 0, .int .i64 0, .int .i64 0, .int .i64 0] := Qka (by kernel_rfl)
theorem Q6m : ∀ vals w, (callFunc 43 vals).run Try.prog w = .ok (.enter 43 vals) w := fun vals w => MuLone.run_callFunc_enter Try.func43 (by kernel_rfl) rfl vals w
theorem Zem : ∀ vals w, (callFunc 65 vals).run Try.prog w = .ok (.enter 65 vals) w := fun vals w => MuLone.run_callFunc_enter Try.func65 (by kernel_rfl) rfl vals w
theorem Q6l : ∀ vals w, (callFunc 44 vals).run Try.prog w = .ok (.enter 44 vals) w := fun vals w => MuLone.run_callFunc_enter Try.func44 (by kernel_rfl) rfl vals w
theorem Q6q : ∀ vals w, (callFunc 25 vals).run Try.prog w = .ok (.enter 25 vals) w := fun vals w => MuLone.run_callFunc_enter Try.func25 (by kernel_rfl) rfl vals w
theorem Zdz : ∀ vals w, (callFunc 96 vals).run Try.prog w = .ok (.enter 96 vals) w := fun vals w => MuLone.run_callFunc_enter Try.func96 (by kernel_rfl) rfl vals w
theorem Q6e : ∀ vals w, (callFunc 92 vals).run Try.prog w = .ok (.enter 92 vals) w := fun vals w => MuLone.run_callFunc_enter Try.func92 (by kernel_rfl) rfl vals w
theorem Zee : ∀ vals w, (callFunc 77 vals).run Try.prog w = .ok (.enter 77 vals) w := fun vals w => MuLone.run_callFunc_enter Try.func77 (by kernel_rfl) rfl vals w
theorem Zed : ∀ vals w, (callFunc 78 vals).run Try.prog w = .ok (.enter 78 vals) w := fun vals w => MuLone.run_callFunc_enter Try.func78 (by kernel_rfl) rfl vals w
theorem Q6k : ∀ vals w, (callFunc 52 vals).run Try.prog w = .ok (.enter 52 vals) w := fun vals w => MuLone.run_callFunc_enter Try.func52 (by kernel_rfl) rfl vals w
theorem Ze2 : ∀ vals w, (callFunc 28 vals).run Try.prog w = .ok (.enter 28 vals) w := fun vals w => MuLone.run_callFunc_enter Try.func28 (by kernel_rfl) rfl vals w
theorem Q6p : ∀ vals w, (callFunc 29 vals).run Try.prog w = .ok (.enter 29 vals) w := fun vals w => MuLone.run_callFunc_enter Try.func29 (by kernel_rfl) rfl vals w
theorem tz42 : TZ Try.prog 42 [.slice none 0 0, .slice none 0 0] := Qka (by kernel_rfl)
theorem Ze3 : ∀ vals w, (callFunc 27 vals).run Try.prog w = .ok (.enter 27 vals) w := fun vals w => MuLone.run_callFunc_enter Try.func27 (by kernel_rfl) rfl vals w
theorem Ze7 : ∀ vals w, (callFunc 13 vals).run Try.prog w = .ok (.enter 13 vals) w := fun vals w => MuLone.run_callFunc_enter Try.func13 (by kernel_rfl) rfl vals w
theorem Q6h : ∀ vals w, (callFunc 8 vals).run Try.prog w = .ok (.enter 8 vals) w := fun vals w => MuLone.run_callFunc_enter Try.func8 (by kernel_rfl) rfl vals w
theorem Zg7 : TZ Try.prog 106 [.int .i64 0, .int .i64 0, .int .i64 0, .int .i64 0, .int .i64 0] := Qka (by kernel_rfl)
theorem Qea : ∀ vals w, (callFunc 38 vals).run Try.prog w = .ok (.enter 38 vals) w := fun vals w => MuLone.run_callFunc_enter Try.func38 (by kernel_rfl) rfl vals w
theorem Zhh : TE Try.prog 107 5 40 := Qxf (by kernel_rfl) (by decide)
theorem Qx6 : ∀ vals w, (callFunc 23 vals).run Try.prog w = .ok (.enter 23 vals) w := fun vals w => MuLone.run_callFunc_enter Try.func23 (by kernel_rfl) rfl vals w
theorem tz70 : TZ Try.prog 70 [.int .u8 0, .slice none 0 0, .int .i64 0, .int .i64 0, .int .i64 0, .int .i64 0, .slice none 0 0] := Qka (by kernel_rfl)
theorem Q6r : ∀ vals w, (callFunc 21 vals).run Try.prog w = .ok (.enter 21 vals) w := fun vals w => MuLone.run_callFunc_enter Try.func21 (by kernel_rfl) rfl vals w
theorem tz66 : TZ Try.prog 66 [.int .i64 0, .int .i64 0] := Qka (by kernel_rfl)
theorem Qty : ∀ vals w, (callFunc 24 vals).run Try.prog w = .ok (.enter 24 vals) w := fun vals w => MuLone.run_callFunc_enter Try.func24 (by kernel_rfl) rfl vals w
theorem Q6i : ∀ vals w, (callFunc 7 vals).run Try.prog w = .ok (.enter 7 vals) w := fun vals w => MuLone.run_callFunc_enter Try.func7 (by kernel_rfl) rfl vals w
theorem Ze5 : ∀ vals w, (callFunc 22 vals).run Try.prog w = .ok (.enter 22 vals) w := fun vals w => MuLone.run_callFunc_enter Try.func22 (by kernel_rfl) rfl vals w
theorem Zex : ∀ vals w, (callFunc 48 vals).run Try.prog w = .ok (.enter 48 vals) w := fun vals w => MuLone.run_callFunc_enter Try.func48 (by kernel_rfl) rfl vals w
theorem te79 : TE Try.prog 79 10 80 := Qxf (by kernel_rfl) (by decide)
theorem Zek : ∀ vals w, (callFunc 69 vals).run Try.prog w = .ok (.enter 69 vals) w := fun vals w => MuLone.run_callFunc_enter Try.func69 (by kernel_rfl) rfl vals w
theorem Zel : ∀ vals w, (callFunc 68 vals).run Try.prog w = .ok (.enter 68 vals) w := fun vals w => MuLone.run_callFunc_enter Try.func68 (by kernel_rfl) rfl vals w
theorem Zey : ∀ vals w, (callFunc 47 vals).run Try.prog w = .ok (.enter 47 vals) w := fun vals w => MuLone.run_callFunc_enter Try.func47 (by kernel_rfl) rfl vals w
theorem Ze4 : ∀ vals w, (callFunc 26 vals).run Try.prog w = .ok (.enter 26 vals) w := fun vals w => MuLone.run_callFunc_enter Try.func26 (by kernel_rfl) rfl vals w
theorem Qm9 : EqT Try.prog 10000 57 2 := Qsq (d := 9998) Try.underlying57 (by kernel_rfl) (.int _ (by decide) rfl Try.underlying3 (.int _ (by decide) rfl Try.underlying3 (.nil _)))
theorem Qhc : EqT Try.prog 10000 48 4 := Qsq (d := 9998) Try.underlying48 (by kernel_rfl) (.int _ (by decide) rfl Try.underlying3 (.int _ (by decide) rfl Try.underlying3 (.int _ (by decide) rfl Try.underlying3 (.int _ (by decide) rfl Try.underlying3 (.nil _)))))
def tyT : Tab := .node 71 ⟨true, 4, none, [(0, false, 1), (1, false, 1), (2, false, 1), (3, false, 1)]⟩ (.node 40 ⟨false, 1, none, []⟩ (.node 27 ⟨false, 1, none, []⟩ (.node 23 ⟨false, 1, none, []⟩ (.node 5 ⟨false, 1, none, []⟩ (.node 3 ⟨false, 1, (some [.int .i64 0]), []⟩ .nil .nil) .nil) (.node 26 ⟨true, 2, none, [(0, false, 1), (1, false, 1)]⟩ (.node 24 ⟨false, 1, none, []⟩ .nil .nil) .nil)) (.node 34 ⟨true, 3, (some [.slice none 0 0, .slice none 0 0, .slice none 0 0]), [(0, false, 1), (1, false, 1), (2, false, 1)]⟩ (.node 32 ⟨false, 1, none, []⟩ (.node 31 ⟨false, 1, none, []⟩ .nil .nil) .nil) (.node 39 ⟨false, 1, none, []⟩ .nil .nil))) (.node 53 ⟨false, 1, none, []⟩ (.node 48 ⟨true, 4, (some [.int .i64 0, .int .i64 0, .int .i64 0, .int .i64 0]), [(0, false, 1), (1, false, 1), (2, false, 1), (3, false, 1)]⟩ (.node 45 ⟨false, 1, (some [.slice none 0 0]), []⟩ (.node 42 ⟨true, 2, (some [.slice none 0 0, .slice none 0 0]), [(0, false, 1), (1, false, 1)]⟩ .nil .nil) .nil) (.node 50 ⟨true, 4, (some [.int .i64 0, .int .i64 0, .int .i64 0, .int .i64 0]), [(0, false, 1), (1, false, 1), (2, false, 1), (3, false, 1)]⟩ .nil .nil)) (.node 66 ⟨true, 2, (some [.int .i64 0, .int .i64 0]), [(0, false, 1), (1, false, 1)]⟩ (.node 64 ⟨false, 1, none, []⟩ (.node 57 ⟨true, 2, (some [.int .i64 0, .int .i64 0]), [(0, false, 1), (1, false, 1)]⟩ .nil .nil) .nil) (.node 70 ⟨true, 7, (some [.int .u8 0, .slice none 0 0, .int .i64 0, .int .i64 0, .int .i64 0, .int .i64 0, .slice none 0 0]), [(0, false, 1), (1, false, 1), (2, false, 1), (3, false, 1), (4, false, 1), (5, false, 1), (6, false, 1)]⟩ .nil .nil)))) (.node 120 ⟨true, 1, (some [.int .i64 0]), [(0, false, 1)]⟩ (.node 100 ⟨false, 1, none, []⟩ (.node 82 ⟨false, 1, none, []⟩ (.node 79 ⟨true, 10, (some [.int .i64 0, .int .i64 0, .int .i64 0, .int .i64 0, .int .i64 0, .int .i64 0, .int .i64 0, .int .i64 0, .int .i64 0, .int .i64 0]), [(0, true, 4), (4, true, 4), (8, false, 1), (9, false, 1)]⟩ (.node 76 ⟨true, 7, (some [.int .u8 0, .slice none 0 0, .int .i64 0, .int .i64 0, .int .i64 0, .int .i64 0, .slice none 0 0]), [(0, false, 1), (1, false, 1), (2, false, 1), (3, false, 1), (4, false, 1), (5, false, 1), (6, false, 1)]⟩ .nil .nil) .nil) (.node 93 ⟨true, 7, (some [.slice none 0 0, .slice none 0 0, .slice none 0 0, .slice none 0 0, .slice none 0 0, .slice none 0 0, .int .i64 0]), [(0, true, 2), (2, true, 3), (5, false, 1), (6, false, 1)]⟩ (.node 89 ⟨false, 1, (some [(.pointer none)]), []⟩ .nil .nil) .nil)) (.node 108 ⟨false, 1, none, []⟩ (.node 107 ⟨true, 5, (some [.int .i64 0, .int .i64 0, .int .i64 0, .int .i64 0, .int .i64 0]), [(0, false, 1), (1, false, 1), (2, false, 1), (3, false, 1), (4, false, 1)]⟩ (.node 106 ⟨true, 5, (some [.int .i64 0, .int .i64 0, .int .i64 0, .int .i64 0, .int .i64 0]), [(0, false, 1), (1, false, 1), (2, false, 1), (3, false, 1), (4, false, 1)]⟩ .nil .nil) .nil) (.node 110 ⟨true, 5, (some [.int .i64 0, .int .i64 0, .int .i64 0, .int .i64 0, .int .i64 0]), [(0, true, 5)]⟩ .nil .nil))) (.node 142 ⟨false, 1, none, []⟩ (.node 131 ⟨false, 1, none, []⟩ (.node 127 ⟨false, 1, none, []⟩ (.node 122 ⟨false, 1, (some [(.map none)]), []⟩ .nil .nil) .nil) (.node 137 ⟨false, 1, none, []⟩ .nil .nil)) (.node 159 ⟨false, 1, none, []⟩ (.node 153 ⟨true, 3, (some [.int .i64 0, .int .i64 0, .int .i64 0]), [(0, false, 1), (1, false, 1), (2, false, 1)]⟩ (.node 144 ⟨true, 7, (some [.nilFunc, .nilFunc, .nilFunc, .nilFunc, .nilFunc, .nilFunc, .nilFunc]), []⟩ .nil .nil) .nil) (.node 160 ⟨true, 4, (some [(.pointer none), (.pointer none), (.pointer none), (.pointer none)]), []⟩ .nil .nil))))
theorem tbk : tyT.ok Try.prog := ⟨⟨ti71, trivial, .inr ⟨_, Try.underlying71, rfl, ti3, rfl, ti3, rfl, ti3, rfl, ti3, trivial⟩⟩, ⟨⟨ti40, trivial, .inl rfl⟩, ⟨⟨ti27, trivial, .inl rfl⟩, ⟨⟨ti23, trivial, .inl rfl⟩, ⟨⟨ti5, trivial, .inl rfl⟩, ⟨⟨ti3, tz3, .inl rfl⟩, trivial, trivial⟩, trivial⟩, ⟨⟨ti26, trivial, .inr ⟨_, Try.underlying26, rfl, ti23, rfl, ti24, trivial⟩⟩, ⟨⟨ti24, trivial, .inl rfl⟩, trivial, trivial⟩, trivial⟩⟩, ⟨⟨ti34, tz34, .inr ⟨_, Try.underlying34, rfl, ti31, rfl, ti32, rfl, ti27, trivial⟩⟩, ⟨⟨ti32, trivial, .inl rfl⟩, ⟨⟨ti31, trivial, .inl rfl⟩, trivial, trivial⟩, trivial⟩, ⟨⟨ti39, trivial, .inl rfl⟩, trivial, trivial⟩⟩⟩, ⟨⟨ti53, trivial, .inl rfl⟩, ⟨⟨ti48, tz48, .inr ⟨_, Try.underlying48, rfl, ti3, rfl, ti3, rfl, ti3, rfl, ti3, trivial⟩⟩, ⟨⟨ti45, tz45, .inl rfl⟩, ⟨⟨ti42, tz42, .inr ⟨_, Try.underlying42, rfl, ti39, rfl, ti40, trivial⟩⟩, trivial, trivial⟩, trivial⟩, ⟨⟨ti50, tz50, .inr ⟨_, Try.underlying50, rfl, ti3, rfl, ti3, rfl, ti3, rfl, ti3, trivial⟩⟩, trivial, trivial⟩⟩, ⟨⟨ti66, tz66, .inr ⟨_, Try.underlying66, rfl, ti3, rfl, ti3, trivial⟩⟩, ⟨⟨ti64, trivial, .inl rfl⟩, ⟨⟨ti57, tz57, .inr ⟨_, Try.underlying57, rfl, ti3, rfl, ti3, trivial⟩⟩, trivial, trivial⟩, trivial⟩, ⟨⟨ti70, tz70, .inr ⟨_, Try.underlying70, rfl, ti5, rfl, ti64, rfl, ti3, rfl, ti3, rfl, ti3, rfl, ti3, rfl, ti27, trivial⟩⟩, trivial, trivial⟩⟩⟩⟩, ⟨⟨Zhe, Zf9, .inr ⟨_, Try.underlying120, rfl, ti3, trivial⟩⟩, ⟨⟨Zhg, trivial, .inl rfl⟩, ⟨⟨ti82, trivial, .inl rfl⟩, ⟨⟨ti79, tz79, .inr ⟨_, Try.underlying79, rfl, ti48, rfl, ti48, rfl, ti3, rfl, ti3, trivial⟩⟩, ⟨⟨ti76, tz76, .inr ⟨_, Try.underlying76, rfl, ti5, rfl, ti53, rfl, ti3, rfl, ti3, rfl, ti3, rfl, ti3, rfl, ti27, trivial⟩⟩, trivial, trivial⟩, trivial⟩, ⟨⟨ti93, tz93, .inr ⟨_, Try.underlying93, rfl, ti42, rfl, ti34, rfl, ti45, rfl, ti3, trivial⟩⟩, ⟨⟨ti89, tz89, .inl rfl⟩, trivial, trivial⟩, trivial⟩⟩, ⟨⟨Zhf, trivial, .inl rfl⟩, ⟨⟨Qrw, Qxc, .inr ⟨_, Try.underlying107, rfl, ti3, rfl, ti3, rfl, ti3, rfl, ti3, rfl, ti3, trivial⟩⟩, ⟨⟨Qlo, Zg7, .inr ⟨_, Try.underlying106, rfl, ti3, rfl, ti3, rfl, ti3, rfl, ti3, rfl, ti3, trivial⟩⟩, trivial, trivial⟩, trivial⟩, ⟨⟨Zgd, Zga, .inr ⟨_, Try.underlying110, rfl, Qrw, trivial⟩⟩, trivial, trivial⟩⟩⟩, ⟨⟨Qnk, trivial, .inl rfl⟩, ⟨⟨Zhc, trivial, .inl rfl⟩, ⟨⟨Zhd, trivial, .inl rfl⟩, ⟨⟨Zcw, Zg6, .inl rfl⟩, trivial, trivial⟩, trivial⟩, ⟨⟨Zhb, trivial, .inl rfl⟩, trivial, trivial⟩⟩, ⟨⟨Qrv, trivial, .inl rfl⟩, ⟨⟨Q1z, Q1w, .inr ⟨_, Try.underlying153, rfl, ti3, rfl, ti3, rfl, ti3, trivial⟩⟩, ⟨⟨Zha, Zf8, .inl rfl⟩, trivial, trivial⟩, trivial⟩, ⟨⟨Zgc, Zf7, .inl rfl⟩, trivial, trivial⟩⟩⟩⟩⟩
end Go.Proofs.Ytmbhnllcfmiajaa
