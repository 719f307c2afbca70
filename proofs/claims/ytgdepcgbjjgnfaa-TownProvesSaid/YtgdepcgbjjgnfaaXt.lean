/-
  The types of the program as Lean types, and how they lie in cells; facts on the program's types. No conditions.
-/
import Derived.Test.YtgdepcgbjjgnfaaEngY
import Derived.Test.YtgdepcgbjjgnfaaEngA
import Derived.Test.YtgdepcgbjjgnfaaEngN
import Derived.Conc.MuLone
namespace Go.Proofs.Ytgdepcgbjjgnfaa
open Go.RowKit
def Qab (x : Int) : List AV := [K .i64 x]
theorem Qaa : ∀ x, ∀ a ∈ Qab x, NLt 0 a := fun _ => Qqq (.lit _) Qu2
theorem Qte : ∀ x, (Qab x).all AV.one = true := fun _ => rfl
structure GNode where
  Parent : Int
  Loss : Int
  Limit : Int
  Rank : Int
  deriving DecidableEq
def Qa0 (x : GNode) : List AV := Qab x.Parent ++ Qab x.Loss ++ Qab x.Limit ++ Qab x.Rank
theorem Qae : ∀ x, ∀ a ∈ Qa0 x, NLt 0 a := fun _ => (Qfl (Qfl (Qfl (Qaa _) (Qaa _)) (Qaa _)) (Qaa _))
structure GMeter where
  Reading : Int
  Off : Int
  deriving DecidableEq
def Qq3 (x : GMeter) : List AV := Qab x.Reading ++ Qab x.Off
structure GRange where
  Lo : Int
  Hi : Int
  deriving DecidableEq
def Qvk (x : GRange) : List AV := Qab x.Lo ++ Qab x.Hi
def Qbs (x : Bool) : List AV := [B x]
theorem Qhs : ∀ x, ∀ a ∈ Qbs x, NLt 0 a := fun _ => Qqq (.lit _) Qu2
structure GStair where
  Amount : Int
  Price : Int
  deriving DecidableEq
def Qan (x : GStair) : List AV := Qab x.Amount ++ Qab x.Price
theorem Qa5 : ∀ x, ∀ a ∈ Qan x, NLt 0 a := fun _ => (Qfl (Qaa _) (Qaa _))
def Qop (x : (List GStair)) : List AV := [.dat 2 (x.map Qan)]
theorem Qwm : ∀ x, ∀ a ∈ Qop x, NLt 0 a := fun _ => Qqq (nl_dat Qa5 _) Qu2
structure GHour where
  Use : Int
  Stairs : List GStair
  deriving DecidableEq
def Qaj (x : GHour) : List AV := Qab x.Use ++ Qop x.Stairs
theorem Qac : ∀ x, ∀ a ∈ Qaj x, NLt 0 a := fun _ => (Qfl (Qaa _) (Qwm _))
def Qvj (x : (List GHour)) : List AV := [.dat 2 (x.map Qaj)]
structure GDay where
  Tank : Int
  Start : Int
  Hours : List GHour
  deriving DecidableEq
def Qii (x : GDay) : List AV := Qab x.Tank ++ Qab x.Start ++ Qvj x.Hours
structure GBracket where
  Upto : Int
  Price : Int
  deriving DecidableEq
structure GStream where
  Mass : Int
  Heat : Int
  Silica : Int
  Gas : Int
  deriving DecidableEq
structure GBrine where
  Stream : GStream
  Floor : Int
  deriving DecidableEq
structure GMeters where
  Use : List GMeter
  Flow : List GMeter
  Has : List Bool
  deriving DecidableEq
def c_Li64 (x : (List Int)) : List AV := [.dat 1 (x.map Qab)]
theorem Qtg : ∀ x, ∀ a ∈ Qab x, ∃ v, a = .lit v := fun _ => lit_cons lit_nil
theorem Qjx : TI Try.prog 141 true 4 := ⟨⟨_, Try.underlying141, rfl⟩, Qdr (by kernel_rfl)⟩
theorem ti3 : TI Try.prog 3 false 1 := ⟨⟨_, Try.underlying3, rfl⟩, Qdr (by kernel_rfl)⟩
theorem ti168 : TI Try.prog 168 false 1 := ⟨⟨_, Try.underlying168, rfl⟩, Qdr (by kernel_rfl)⟩
theorem ti23 : TI Try.prog 23 false 1 := ⟨⟨_, Try.underlying23, rfl⟩, Qdr (by kernel_rfl)⟩
theorem ti175 : TI Try.prog 175 false 1 := ⟨⟨_, Try.underlying175, rfl⟩, Qdr (by kernel_rfl)⟩
theorem ti31 : TI Try.prog 31 false 1 := ⟨⟨_, Try.underlying31, rfl⟩, Qdr (by kernel_rfl)⟩
theorem ti96 : TI Try.prog 96 true 2 := ⟨⟨_, Try.underlying96, rfl⟩, Qdr (by kernel_rfl)⟩
theorem ti93 : TI Try.prog 93 true 2 := ⟨⟨_, Try.underlying93, rfl⟩, Qdr (by kernel_rfl)⟩
theorem ti30 : TI Try.prog 30 false 1 := ⟨⟨_, Try.underlying30, rfl⟩, Qdr (by kernel_rfl)⟩
theorem ti142 : TI Try.prog 142 false 1 := ⟨⟨_, Try.underlying142, rfl⟩, Qdr (by kernel_rfl)⟩
theorem ti4 : TI Try.prog 4 false 1 := ⟨⟨_, Try.underlying4, rfl⟩, Qdr (by kernel_rfl)⟩
theorem ti47 : TI Try.prog 47 true 3 := ⟨⟨_, Try.underlying47, rfl⟩, Qdr (by kernel_rfl)⟩
theorem ti45 : TI Try.prog 45 false 1 := ⟨⟨_, Try.underlying45, rfl⟩, Qdr (by kernel_rfl)⟩
theorem ti62 : TI Try.prog 62 true 2 := ⟨⟨_, Try.underlying62, rfl⟩, Qdr (by kernel_rfl)⟩
theorem ti177 : TI Try.prog 177 false 1 := ⟨⟨_, Try.underlying177, rfl⟩, Qdr (by kernel_rfl)⟩
theorem ti60 : TI Try.prog 60 false 1 := ⟨⟨_, Try.underlying60, rfl⟩, Qdr (by kernel_rfl)⟩
theorem ti64 : TI Try.prog 64 true 2 := ⟨⟨_, Try.underlying64, rfl⟩, Qdr (by kernel_rfl)⟩
theorem Qx3 : TI Try.prog 150 true 24 := ⟨⟨_, Try.underlying150, rfl⟩, Qdr (by kernel_rfl)⟩
theorem ti166 : TI Try.prog 166 true 2 := ⟨⟨_, Try.underlying166, rfl⟩, Qdr (by kernel_rfl)⟩
theorem ti136 : TI Try.prog 136 true 2 := ⟨⟨_, Try.underlying136, rfl⟩, Qdr (by kernel_rfl)⟩
theorem ti57 : TI Try.prog 57 false 1 := ⟨⟨_, Try.underlying57, rfl⟩, Qdr (by kernel_rfl)⟩
theorem ti73 : TI Try.prog 73 true 4 := ⟨⟨_, Try.underlying73, rfl⟩, Qdr (by kernel_rfl)⟩
theorem ti72 : TI Try.prog 72 true 4 := ⟨⟨_, Try.underlying72, rfl⟩, Qdr (by kernel_rfl)⟩
theorem ti78 : TI Try.prog 78 true 5 := ⟨⟨_, Try.underlying78, rfl⟩, Qdr (by kernel_rfl)⟩
theorem ti56 : TI Try.prog 56 true 4 := ⟨⟨_, Try.underlying56, rfl⟩, Qdr (by kernel_rfl)⟩
theorem ti39 : TI Try.prog 39 false 1 := ⟨⟨_, Try.underlying39, rfl⟩, Qdr (by kernel_rfl)⟩
theorem Qo5 : TI Try.prog 147 true 2 := ⟨⟨_, Try.underlying147, rfl⟩, Qdr (by kernel_rfl)⟩
theorem ti145 : TI Try.prog 145 false 1 := ⟨⟨_, Try.underlying145, rfl⟩, Qdr (by kernel_rfl)⟩
theorem Qv7 : TI Try.prog 156 true 2 := ⟨⟨_, Try.underlying156, rfl⟩, Qdr (by kernel_rfl)⟩
theorem ti41 : TI Try.prog 41 true 3 := ⟨⟨_, Try.underlying41, rfl⟩, Qdr (by kernel_rfl)⟩
theorem ti26 : TI Try.prog 26 false 1 := ⟨⟨_, Try.underlying26, rfl⟩, Qdr (by kernel_rfl)⟩
theorem ti103 : TI Try.prog 103 false 1 := ⟨⟨_, Try.underlying103, rfl⟩, Qdr (by kernel_rfl)⟩
theorem ti105 : TI Try.prog 105 true 3 := ⟨⟨_, Try.underlying105, rfl⟩, Qdr (by kernel_rfl)⟩
theorem ti87 : TI Try.prog 87 false 1 := ⟨⟨_, Try.underlying87, rfl⟩, Qdr (by kernel_rfl)⟩
theorem ti91 : TI Try.prog 91 true 2 := ⟨⟨_, Try.underlying91, rfl⟩, Qdr (by kernel_rfl)⟩
theorem ti98 : TI Try.prog 98 true 2 := ⟨⟨_, Try.underlying98, rfl⟩, Qdr (by kernel_rfl)⟩
theorem ti100 : TI Try.prog 100 false 1 := ⟨⟨_, Try.underlying100, rfl⟩, Qdr (by kernel_rfl)⟩
theorem ti89 : TI Try.prog 89 true 3 := ⟨⟨_, Try.underlying89, rfl⟩, Qdr (by kernel_rfl)⟩
theorem ti58 : TI Try.prog 58 false 1 := ⟨⟨_, Try.underlying58, rfl⟩, Qdr (by kernel_rfl)⟩
theorem ti83 : TI Try.prog 83 true 5 := ⟨⟨_, Try.underlying83, rfl⟩, Qdr (by kernel_rfl)⟩
theorem ti152 : TI Try.prog 152 true 53 := ⟨⟨_, Try.underlying152, rfl⟩, Qdr (by kernel_rfl)⟩
theorem ts93 : TS Try.prog 93 [(0, 1), (1, 1)] := ⟨_, Try.underlying93, ⟨rfl, ⟨_, ti3⟩, rfl, ⟨_, ti3⟩, trivial⟩⟩
theorem ts152 : TS Try.prog 152 [(0, 3), (3, 1), (4, 1), (5, 24), (29, 24)] := ⟨_, Try.underlying152, ⟨rfl, ⟨_, ti47⟩, rfl, ⟨_, ti23⟩, rfl, ⟨_, ti23⟩, rfl, ⟨_, Qx3⟩, rfl, ⟨_, Qx3⟩, trivial⟩⟩
theorem ts64 : TS Try.prog 64 [(0, 1), (1, 1)] := ⟨_, Try.underlying64, ⟨rfl, ⟨_, ti3⟩, rfl, ⟨_, ti3⟩, trivial⟩⟩
theorem ts141 : TS Try.prog 141 [(0, 1), (1, 1), (2, 1), (3, 1)] := ⟨_, Try.underlying141, ⟨rfl, ⟨_, ti3⟩, rfl, ⟨_, ti3⟩, rfl, ⟨_, ti3⟩, rfl, ⟨_, ti3⟩, trivial⟩⟩
theorem ts96 : TS Try.prog 96 [(0, 1), (1, 1)] := ⟨_, Try.underlying96, ⟨rfl, ⟨_, ti3⟩, rfl, ⟨_, ti3⟩, trivial⟩⟩
theorem ts62 : TS Try.prog 62 [(0, 1), (1, 1)] := ⟨_, Try.underlying62, ⟨rfl, ⟨_, ti3⟩, rfl, ⟨_, ti60⟩, trivial⟩⟩
theorem ts47 : TS Try.prog 47 [(0, 1), (1, 1), (2, 1)] := ⟨_, Try.underlying47, ⟨rfl, ⟨_, ti3⟩, rfl, ⟨_, ti3⟩, rfl, ⟨_, ti45⟩, trivial⟩⟩
theorem Qd3 : ∀ vals w, (callFunc 68 vals).run Try.prog w = .ok (.enter 68 vals) w := fun vals w => MuLone.run_callFunc_enter Try.func68 (by kernel_rfl) rfl vals w
theorem Qv6 : TZ Try.prog 141 [.int .i64 0, .int .i64 0, .int .i64 0, .int .i64 0] := Qio (by kernel_rfl)
theorem Qfm : ∀ vals w, (callFunc 94 vals).run Try.prog w = .ok (.enter 94 vals) w := fun vals w => MuLone.run_callFunc_enter Try.func94 (by kernel_rfl) rfl vals w
theorem enter80 : ∀ vals w, (callFunc 80 vals).run Try.prog w = .ok (.enter 80 vals) w := fun vals w => MuLone.run_callFunc_enter Try.func80 (by kernel_rfl) rfl vals w
theorem Qvc : ∀ vals w, (callFunc 108 vals).run Try.prog w = .ok (.enter 108 vals) w := fun vals w => MuLone.run_callFunc_enter Try.func108 (by kernel_rfl) rfl vals w
theorem Qvb : ∀ vals w, (callFunc 113 vals).run Try.prog w = .ok (.enter 113 vals) w := fun vals w => MuLone.run_callFunc_enter Try.func113 (by kernel_rfl) rfl vals w
theorem Qvd : ∀ vals w, (callFunc 107 vals).run Try.prog w = .ok (.enter 107 vals) w := fun vals w => MuLone.run_callFunc_enter Try.func107 (by kernel_rfl) rfl vals w
theorem Qy4 : ∀ vals w, (callFunc 90 vals).run Try.prog w = .ok (.enter 90 vals) w := fun vals w => MuLone.run_callFunc_enter Try.func90 (by kernel_rfl) rfl vals w
theorem enter67 : ∀ vals w, (callFunc 67 vals).run Try.prog w = .ok (.enter 67 vals) w := fun vals w => MuLone.run_callFunc_enter Try.func67 (by kernel_rfl) rfl vals w
theorem tz3 : TZ Try.prog 3 [.int .i64 0] := Qio (by kernel_rfl)
theorem te3 : TE Try.prog 3 1 8 := te_of (by kernel_rfl) (by decide)
theorem Qy3 : ∀ vals w, (callFunc 97 vals).run Try.prog w = .ok (.enter 97 vals) w := fun vals w => MuLone.run_callFunc_enter Try.func97 (by kernel_rfl) rfl vals w
theorem tz23 : TZ Try.prog 23 [.slice none 0 0] := Qio (by kernel_rfl)
theorem tz175 : TZ Try.prog 175 [.nilFunc] := Qio (by kernel_rfl)
theorem Qy5 : ∀ vals w, (callFunc 86 vals).run Try.prog w = .ok (.enter 86 vals) w := fun vals w => MuLone.run_callFunc_enter Try.func86 (by kernel_rfl) rfl vals w
theorem Qy2 : ∀ vals w, (callFunc 98 vals).run Try.prog w = .ok (.enter 98 vals) w := fun vals w => MuLone.run_callFunc_enter Try.func98 (by kernel_rfl) rfl vals w
theorem Qve : ∀ vals w, (callFunc 105 vals).run Try.prog w = .ok (.enter 105 vals) w := fun vals w => MuLone.run_callFunc_enter Try.func105 (by kernel_rfl) rfl vals w
theorem enter71 : ∀ vals w, (callFunc 71 vals).run Try.prog w = .ok (.enter 71 vals) w := fun vals w => MuLone.run_callFunc_enter Try.func71 (by kernel_rfl) rfl vals w
theorem Qtk : ∀ vals w, (callFunc 72 vals).run Try.prog w = .ok (.enter 72 vals) w := fun vals w => MuLone.run_callFunc_enter Try.func72 (by kernel_rfl) rfl vals w
theorem tz93 : TZ Try.prog 93 [.int .i64 0, .int .i64 0] := Qio (by kernel_rfl)
theorem enter84 : ∀ vals w, (callFunc 84 vals).run Try.prog w = .ok (.enter 84 vals) w := fun vals w => MuLone.run_callFunc_enter Try.func84 (by kernel_rfl) rfl vals w
theorem enter85 : ∀ vals w, (callFunc 85 vals).run Try.prog w = .ok (.enter 85 vals) w := fun vals w => MuLone.run_callFunc_enter Try.func85 (by kernel_rfl) rfl vals w
theorem te4 : TE Try.prog 4 1 1 := te_of (by kernel_rfl) (by decide)
theorem tz4 : TZ Try.prog 4 [.bool false] := Qio (by kernel_rfl)
theorem enter70 : ∀ vals w, (callFunc 70 vals).run Try.prog w = .ok (.enter 70 vals) w := fun vals w => MuLone.run_callFunc_enter Try.func70 (by kernel_rfl) rfl vals w
theorem Qqy : ∀ vals w, (callFunc 96 vals).run Try.prog w = .ok (.enter 96 vals) w := fun vals w => MuLone.run_callFunc_enter Try.func96 (by kernel_rfl) rfl vals w
theorem Qva : ∀ vals w, (callFunc 114 vals).run Try.prog w = .ok (.enter 114 vals) w := fun vals w => MuLone.run_callFunc_enter Try.func114 (by kernel_rfl) rfl vals w
theorem Qq0 : ∀ vals w, (callFunc 118 vals).run Try.prog w = .ok (.enter 118 vals) w := fun vals w => MuLone.run_callFunc_enter Try.func118 (by kernel_rfl) rfl vals w
theorem enter117 : ∀ vals w, (callFunc 117 vals).run Try.prog w = .ok (.enter 117 vals) w := fun vals w => MuLone.run_callFunc_enter Try.func117 (by kernel_rfl) rfl vals w
theorem Qnh : ∀ vals w, (callFunc 115 vals).run Try.prog w = .ok (.enter 115 vals) w := fun vals w => MuLone.run_callFunc_enter Try.func115 (by kernel_rfl) rfl vals w
theorem enter110 : ∀ vals w, (callFunc 110 vals).run Try.prog w = .ok (.enter 110 vals) w := fun vals w => MuLone.run_callFunc_enter Try.func110 (by kernel_rfl) rfl vals w
theorem enter95 : ∀ vals w, (callFunc 95 vals).run Try.prog w = .ok (.enter 95 vals) w := fun vals w => MuLone.run_callFunc_enter Try.func95 (by kernel_rfl) rfl vals w
theorem enter69 : ∀ vals w, (callFunc 69 vals).run Try.prog w = .ok (.enter 69 vals) w := fun vals w => MuLone.run_callFunc_enter Try.func69 (by kernel_rfl) rfl vals w
theorem tz64 : TZ Try.prog 64 [.int .i64 0, .int .i64 0] := Qio (by kernel_rfl)
theorem enter100 : ∀ vals w, (callFunc 100 vals).run Try.prog w = .ok (.enter 100 vals) w := fun vals w => MuLone.run_callFunc_enter Try.func100 (by kernel_rfl) rfl vals w
theorem enter112 : ∀ vals w, (callFunc 112 vals).run Try.prog w = .ok (.enter 112 vals) w := fun vals w => MuLone.run_callFunc_enter Try.func112 (by kernel_rfl) rfl vals w
theorem enter116 : ∀ vals w, (callFunc 116 vals).run Try.prog w = .ok (.enter 116 vals) w := fun vals w => MuLone.run_callFunc_enter Try.func116 (by kernel_rfl) rfl vals w
theorem enter111 : ∀ vals w, (callFunc 111 vals).run Try.prog w = .ok (.enter 111 vals) w := fun vals w => MuLone.run_callFunc_enter Try.func111 (by kernel_rfl) rfl vals w
theorem enter99 : ∀ vals w, (callFunc 99 vals).run Try.prog w = .ok (.enter 99 vals) w := fun vals w => MuLone.run_callFunc_enter Try.func99 (by kernel_rfl) rfl vals w
theorem Qol : ∀ vals w, (callFunc 74 vals).run Try.prog w = .ok (.enter 74 vals) w := fun vals w => MuLone.run_callFunc_enter Try.func74 (by kernel_rfl) rfl vals w
theorem tz62 : TZ Try.prog 62 [.int .i64 0, .slice none 0 0] := Qio (by kernel_rfl)
theorem Qvf : ∀ vals w, (callFunc 101 vals).run Try.prog w = .ok (.enter 101 vals) w := fun vals w => MuLone.run_callFunc_enter Try.func101 (by kernel_rfl) rfl vals w
theorem Qy9 : ∀ vals w, (callFunc 75 vals).run Try.prog w = .ok (.enter 75 vals) w := fun vals w => MuLone.run_callFunc_enter Try.func75 (by kernel_rfl) rfl vals w
theorem Qtj : ∀ vals w, (callFunc 93 vals).run Try.prog w = .ok (.enter 93 vals) w := fun vals w => MuLone.run_callFunc_enter Try.func93 (by kernel_rfl) rfl vals w
theorem Qq1 : ∀ vals w, (callFunc 109 vals).run Try.prog w = .ok (.enter 109 vals) w := fun vals w => MuLone.run_callFunc_enter Try.func109 (by kernel_rfl) rfl vals w
theorem tz152 : TZ Try.prog 152 [.int .i64 0, .int .i64 0, .slice none 0 0, .slice none 0 0, .slice none 0 0, .int .i64 0, .int .i64 0, .int .i64 0, .int .i64 0, .int .i64 0, .int .i64 0, .int .i64 0, .int .i64 0, .int .i64 0, .int .i64 0, .int .i64 0, .int .i64 0, .int .i64 0, .int .i64 0, .int .i64 0, .int .i64 0, .int .i64 0, .int .i64 0, .int .i64 0, .int .i64 0, .int .i64 0, .int .i64 0, .int .i64 0, .int .i64 0, .int .i64 0, .int .i64 0, .int .i64 0, .int .i64 0, .int .i64 0, .int .i64 0, .int .i64 0, .int .i64 0, .int .i64 0, .int .i64 0, .int .i64 0, .int .i64 0, .int .i64 0, .int .i64 0, .int .i64 0, .int .i64 0, .int .i64 0, .int .i64 0, .int .i64 0, .int .i64 0, .int .i64 0, .int .i64 0, .int .i64 0, .int .i64 0] := Qio (by kernel_rfl)
theorem enter102 : ∀ vals w, (callFunc 102 vals).run Try.prog w = .ok (.enter 102 vals) w := fun vals w => MuLone.run_callFunc_enter Try.func102 (by kernel_rfl) rfl vals w
theorem enter103 : ∀ vals w, (callFunc 103 vals).run Try.prog w = .ok (.enter 103 vals) w := fun vals w => MuLone.run_callFunc_enter Try.func103 (by kernel_rfl) rfl vals w
theorem Qy8 : ∀ vals w, (callFunc 76 vals).run Try.prog w = .ok (.enter 76 vals) w := fun vals w => MuLone.run_callFunc_enter Try.func76 (by kernel_rfl) rfl vals w
theorem Qy7 : ∀ vals w, (callFunc 77 vals).run Try.prog w = .ok (.enter 77 vals) w := fun vals w => MuLone.run_callFunc_enter Try.func77 (by kernel_rfl) rfl vals w
theorem Qy6 : ∀ vals w, (callFunc 78 vals).run Try.prog w = .ok (.enter 78 vals) w := fun vals w => MuLone.run_callFunc_enter Try.func78 (by kernel_rfl) rfl vals w
theorem enter64 : ∀ vals w, (callFunc 64 vals).run Try.prog w = .ok (.enter 64 vals) w := fun vals w => MuLone.run_callFunc_enter Try.func64 (by kernel_rfl) rfl vals w
theorem enter36 : ∀ vals w, (callFunc 36 vals).run Try.prog w = .ok (.enter 36 vals) w := fun vals w => MuLone.run_callFunc_enter Try.func36 (by kernel_rfl) rfl vals w
theorem enter22 : ∀ vals w, (callFunc 22 vals).run Try.prog w = .ok (.enter 22 vals) w := fun vals w => MuLone.run_callFunc_enter Try.func22 (by kernel_rfl) rfl vals w
theorem tz96 : TZ Try.prog 96 [.int .i64 0, .int .i64 0] := Qio (by kernel_rfl)
theorem enter47 : ∀ vals w, (callFunc 47 vals).run Try.prog w = .ok (.enter 47 vals) w := fun vals w => MuLone.run_callFunc_enter Try.func47 (by kernel_rfl) rfl vals w
theorem tz47 : TZ Try.prog 47 [.int .i64 0, .int .i64 0, .slice none 0 0] := Qio (by kernel_rfl)
theorem enter65 : ∀ vals w, (callFunc 65 vals).run Try.prog w = .ok (.enter 65 vals) w := fun vals w => MuLone.run_callFunc_enter Try.func65 (by kernel_rfl) rfl vals w
theorem Qtl : ∀ vals w, (callFunc 30 vals).run Try.prog w = .ok (.enter 30 vals) w := fun vals w => MuLone.run_callFunc_enter Try.func30 (by kernel_rfl) rfl vals w
theorem Qg9 : ∀ vals w, (callFunc 66 vals).run Try.prog w = .ok (.enter 66 vals) w := fun vals w => MuLone.run_callFunc_enter Try.func66 (by kernel_rfl) rfl vals w
theorem tz136 : TZ Try.prog 136 [.int .i64 0, .int .i64 0] := Qio (by kernel_rfl)
theorem Qfn : ∀ vals w, (callFunc 27 vals).run Try.prog w = .ok (.enter 27 vals) w := fun vals w => MuLone.run_callFunc_enter Try.func27 (by kernel_rfl) rfl vals w
theorem Qml : ∀ vals w, (callFunc 21 vals).run Try.prog w = .ok (.enter 21 vals) w := fun vals w => MuLone.run_callFunc_enter Try.func21 (by kernel_rfl) rfl vals w
theorem tz73 : TZ Try.prog 73 [.int .i64 0, .int .i64 0, .int .i64 0, .int .i64 0] := Qio (by kernel_rfl)
theorem tz78 : TZ Try.prog 78 [.int .i64 0, .int .i64 0, .int .i64 0, .int .i64 0, .int .i64 0] := Qio (by kernel_rfl)
theorem tz72 : TZ Try.prog 72 [.int .i64 0, .int .i64 0, .int .i64 0, .int .i64 0] := Qio (by kernel_rfl)
theorem tz83 : TZ Try.prog 83 [.int .i64 0, .int .i64 0, .int .i64 0, .int .i64 0, .int .i64 0] := Qio (by kernel_rfl)
theorem Qiq : ∀ vals w, (callFunc 24 vals).run Try.prog w = .ok (.enter 24 vals) w := fun vals w => MuLone.run_callFunc_enter Try.func24 (by kernel_rfl) rfl vals w
theorem tz147 : TZ Try.prog 147 [.int .i64 0, .slice none 0 0] := Qio (by kernel_rfl)
theorem tz156 : TZ Try.prog 156 [.int .i64 0, .int .i64 0] := Qio (by kernel_rfl)
theorem enter79 : ∀ vals w, (callFunc 79 vals).run Try.prog w = .ok (.enter 79 vals) w := fun vals w => MuLone.run_callFunc_enter Try.func79 (by kernel_rfl) rfl vals w
theorem te64 : TE Try.prog 64 2 16 := te_of (by kernel_rfl) (by decide)
theorem te62 : TE Try.prog 62 2 32 := te_of (by kernel_rfl) (by decide)
theorem enter92 : ∀ vals w, (callFunc 92 vals).run Try.prog w = .ok (.enter 92 vals) w := fun vals w => MuLone.run_callFunc_enter Try.func92 (by kernel_rfl) rfl vals w
theorem Qtm : ∀ vals w, (callFunc 29 vals).run Try.prog w = .ok (.enter 29 vals) w := fun vals w => MuLone.run_callFunc_enter Try.func29 (by kernel_rfl) rfl vals w
theorem Qmk : ∀ vals w, (callFunc 31 vals).run Try.prog w = .ok (.enter 31 vals) w := fun vals w => MuLone.run_callFunc_enter Try.func31 (by kernel_rfl) rfl vals w
theorem enter32 : ∀ vals w, (callFunc 32 vals).run Try.prog w = .ok (.enter 32 vals) w := fun vals w => MuLone.run_callFunc_enter Try.func32 (by kernel_rfl) rfl vals w
theorem enter63 : ∀ vals w, (callFunc 63 vals).run Try.prog w = .ok (.enter 63 vals) w := fun vals w => MuLone.run_callFunc_enter Try.func63 (by kernel_rfl) rfl vals w
theorem enter34 : ∀ vals w, (callFunc 34 vals).run Try.prog w = .ok (.enter 34 vals) w := fun vals w => MuLone.run_callFunc_enter Try.func34 (by kernel_rfl) rfl vals w
theorem enter91 : ∀ vals w, (callFunc 91 vals).run Try.prog w = .ok (.enter 91 vals) w := fun vals w => MuLone.run_callFunc_enter Try.func91 (by kernel_rfl) rfl vals w
theorem Qqz : ∀ vals w, (callFunc 60 vals).run Try.prog w = .ok (.enter 60 vals) w := fun vals w => MuLone.run_callFunc_enter Try.func60 (by kernel_rfl) rfl vals w
theorem tz105 : TZ Try.prog 105 [.slice none 0 0, .slice none 0 0, .slice none 0 0] := Qio (by kernel_rfl)
theorem tz98 : TZ Try.prog 98 [.int .i64 0, .int .i64 0] := Qio (by kernel_rfl)
theorem tz100 : TZ Try.prog 100 [.slice none 0 0] := Qio (by kernel_rfl)
theorem eqt93 : EqT Try.prog 10000 93 2 := Qwq (d := 9998) Try.underlying93 (by kernel_rfl) (.int _ (by decide) rfl Try.underlying3 (.int _ (by decide) rfl Try.underlying3 (.nil _)))
def tyT : Tab := .node 87 ⟨false, 1, none, []⟩ (.node 56 ⟨true, 4, none, [(0, false, 1), (1, false, 1), (2, false, 1), (3, false, 1)]⟩ (.node 31 ⟨false, 1, none, []⟩ (.node 23 ⟨false, 1, (some [.slice none 0 0]), []⟩ (.node 4 ⟨false, 1, (some [.bool false]), []⟩ (.node 3 ⟨false, 1, (some [.int .i64 0]), []⟩ .nil .nil) .nil) (.node 30 ⟨false, 1, none, []⟩ (.node 26 ⟨false, 1, none, []⟩ .nil .nil) .nil)) (.node 45 ⟨false, 1, none, []⟩ (.node 41 ⟨true, 3, none, [(0, false, 1), (1, false, 1), (2, false, 1)]⟩ (.node 39 ⟨false, 1, none, []⟩ .nil .nil) .nil) (.node 47 ⟨true, 3, (some [.int .i64 0, .int .i64 0, .slice none 0 0]), [(0, false, 1), (1, false, 1), (2, false, 1)]⟩ .nil .nil))) (.node 64 ⟨true, 2, (some [.int .i64 0, .int .i64 0]), [(0, false, 1), (1, false, 1)]⟩ (.node 60 ⟨false, 1, none, []⟩ (.node 58 ⟨false, 1, none, []⟩ (.node 57 ⟨false, 1, none, []⟩ .nil .nil) .nil) (.node 62 ⟨true, 2, (some [.int .i64 0, .slice none 0 0]), [(0, false, 1), (1, false, 1)]⟩ .nil .nil)) (.node 78 ⟨true, 5, (some [.int .i64 0, .int .i64 0, .int .i64 0, .int .i64 0, .int .i64 0]), [(0, true, 4), (4, false, 1)]⟩ (.node 73 ⟨true, 4, (some [.int .i64 0, .int .i64 0, .int .i64 0, .int .i64 0]), [(0, false, 1), (1, false, 1), (2, false, 1), (3, false, 1)]⟩ (.node 72 ⟨true, 4, (some [.int .i64 0, .int .i64 0, .int .i64 0, .int .i64 0]), [(0, false, 1), (1, false, 1), (2, false, 1), (3, false, 1)]⟩ .nil .nil) .nil) (.node 83 ⟨true, 5, (some [.int .i64 0, .int .i64 0, .int .i64 0, .int .i64 0, .int .i64 0]), [(0, true, 4), (4, false, 1)]⟩ .nil .nil)))) (.node 142 ⟨false, 1, none, []⟩ (.node 100 ⟨false, 1, (some [.slice none 0 0]), []⟩ (.node 93 ⟨true, 2, (some [.int .i64 0, .int .i64 0]), [(0, false, 1), (1, false, 1)]⟩ (.node 91 ⟨true, 2, none, [(0, false, 1), (1, false, 1)]⟩ (.node 89 ⟨true, 3, none, [(0, false, 1), (1, false, 1), (2, false, 1)]⟩ .nil .nil) .nil) (.node 98 ⟨true, 2, (some [.int .i64 0, .int .i64 0]), [(0, false, 1), (1, false, 1)]⟩ (.node 96 ⟨true, 2, (some [.int .i64 0, .int .i64 0]), [(0, false, 1), (1, false, 1)]⟩ .nil .nil) .nil)) (.node 136 ⟨true, 2, (some [.int .i64 0, .int .i64 0]), [(0, false, 1), (1, false, 1)]⟩ (.node 105 ⟨true, 3, (some [.slice none 0 0, .slice none 0 0, .slice none 0 0]), [(0, false, 1), (1, false, 1), (2, false, 1)]⟩ (.node 103 ⟨false, 1, none, []⟩ .nil .nil) .nil) (.node 141 ⟨true, 4, (some [.int .i64 0, .int .i64 0, .int .i64 0, .int .i64 0]), [(0, false, 1), (1, false, 1), (2, false, 1), (3, false, 1)]⟩ .nil .nil))) (.node 156 ⟨true, 2, (some [.int .i64 0, .int .i64 0]), [(0, false, 1), (1, false, 1)]⟩ (.node 150 ⟨true, 24, none, []⟩ (.node 147 ⟨true, 2, (some [.int .i64 0, .slice none 0 0]), [(0, false, 1), (1, false, 1)]⟩ (.node 145 ⟨false, 1, none, []⟩ .nil .nil) .nil) (.node 152 ⟨true, 53, (some [.int .i64 0, .int .i64 0, .slice none 0 0, .slice none 0 0, .slice none 0 0, .int .i64 0, .int .i64 0, .int .i64 0, .int .i64 0, .int .i64 0, .int .i64 0, .int .i64 0, .int .i64 0, .int .i64 0, .int .i64 0, .int .i64 0, .int .i64 0, .int .i64 0, .int .i64 0, .int .i64 0, .int .i64 0, .int .i64 0, .int .i64 0, .int .i64 0, .int .i64 0, .int .i64 0, .int .i64 0, .int .i64 0, .int .i64 0, .int .i64 0, .int .i64 0, .int .i64 0, .int .i64 0, .int .i64 0, .int .i64 0, .int .i64 0, .int .i64 0, .int .i64 0, .int .i64 0, .int .i64 0, .int .i64 0, .int .i64 0, .int .i64 0, .int .i64 0, .int .i64 0, .int .i64 0, .int .i64 0, .int .i64 0, .int .i64 0, .int .i64 0, .int .i64 0, .int .i64 0, .int .i64 0]), [(0, true, 3), (3, false, 1), (4, false, 1), (5, true, 24), (29, true, 24)]⟩ .nil .nil)) (.node 175 ⟨false, 1, (some [.nilFunc]), []⟩ (.node 168 ⟨false, 1, none, []⟩ (.node 166 ⟨true, 2, none, [(0, false, 1), (1, false, 1)]⟩ .nil .nil) .nil) (.node 177 ⟨false, 1, none, []⟩ .nil .nil))))
set_option maxRecDepth 100000 in
theorem tbk : tyT.ok Try.prog := ⟨⟨ti87, trivial, .inl rfl⟩, ⟨⟨ti56, trivial, .inr ⟨_, Try.underlying56, rfl, ti3, rfl, ti3, rfl, ti3, rfl, ti3, trivial⟩⟩, ⟨⟨ti31, trivial, .inl rfl⟩, ⟨⟨ti23, tz23, .inl rfl⟩, ⟨⟨ti4, tz4, .inl rfl⟩, ⟨⟨ti3, tz3, .inl rfl⟩, trivial, trivial⟩, trivial⟩, ⟨⟨ti30, trivial, .inl rfl⟩, ⟨⟨ti26, trivial, .inl rfl⟩, trivial, trivial⟩, trivial⟩⟩, ⟨⟨ti45, trivial, .inl rfl⟩, ⟨⟨ti41, trivial, .inr ⟨_, Try.underlying41, rfl, ti3, rfl, ti3, rfl, ti39, trivial⟩⟩, ⟨⟨ti39, trivial, .inl rfl⟩, trivial, trivial⟩, trivial⟩, ⟨⟨ti47, tz47, .inr ⟨_, Try.underlying47, rfl, ti3, rfl, ti3, rfl, ti45, trivial⟩⟩, trivial, trivial⟩⟩⟩, ⟨⟨ti64, tz64, .inr ⟨_, Try.underlying64, rfl, ti3, rfl, ti3, trivial⟩⟩, ⟨⟨ti60, trivial, .inl rfl⟩, ⟨⟨ti58, trivial, .inl rfl⟩, ⟨⟨ti57, trivial, .inl rfl⟩, trivial, trivial⟩, trivial⟩, ⟨⟨ti62, tz62, .inr ⟨_, Try.underlying62, rfl, ti3, rfl, ti60, trivial⟩⟩, trivial, trivial⟩⟩, ⟨⟨ti78, tz78, .inr ⟨_, Try.underlying78, rfl, ti73, rfl, ti3, trivial⟩⟩, ⟨⟨ti73, tz73, .inr ⟨_, Try.underlying73, rfl, ti3, rfl, ti3, rfl, ti3, rfl, ti3, trivial⟩⟩, ⟨⟨ti72, tz72, .inr ⟨_, Try.underlying72, rfl, ti3, rfl, ti3, rfl, ti3, rfl, ti3, trivial⟩⟩, trivial, trivial⟩, trivial⟩, ⟨⟨ti83, tz83, .inr ⟨_, Try.underlying83, rfl, ti72, rfl, ti3, trivial⟩⟩, trivial, trivial⟩⟩⟩⟩, ⟨⟨ti142, trivial, .inl rfl⟩, ⟨⟨ti100, tz100, .inl rfl⟩, ⟨⟨ti93, tz93, .inr ⟨_, Try.underlying93, rfl, ti3, rfl, ti3, trivial⟩⟩, ⟨⟨ti91, trivial, .inr ⟨_, Try.underlying91, rfl, ti3, rfl, ti3, trivial⟩⟩, ⟨⟨ti89, trivial, .inr ⟨_, Try.underlying89, rfl, ti87, rfl, ti87, rfl, ti26, trivial⟩⟩, trivial, trivial⟩, trivial⟩, ⟨⟨ti98, tz98, .inr ⟨_, Try.underlying98, rfl, ti3, rfl, ti3, trivial⟩⟩, ⟨⟨ti96, tz96, .inr ⟨_, Try.underlying96, rfl, ti3, rfl, ti3, trivial⟩⟩, trivial, trivial⟩, trivial⟩⟩, ⟨⟨ti136, tz136, .inr ⟨_, Try.underlying136, rfl, ti3, rfl, ti3, trivial⟩⟩, ⟨⟨ti105, tz105, .inr ⟨_, Try.underlying105, rfl, ti103, rfl, ti103, rfl, ti26, trivial⟩⟩, ⟨⟨ti103, trivial, .inl rfl⟩, trivial, trivial⟩, trivial⟩, ⟨⟨Qjx, Qv6, .inr ⟨_, Try.underlying141, rfl, ti3, rfl, ti3, rfl, ti3, rfl, ti3, trivial⟩⟩, trivial, trivial⟩⟩⟩, ⟨⟨Qv7, tz156, .inr ⟨_, Try.underlying156, rfl, ti3, rfl, ti3, trivial⟩⟩, ⟨⟨Qx3, trivial, .inl rfl⟩, ⟨⟨Qo5, tz147, .inr ⟨_, Try.underlying147, rfl, ti3, rfl, ti145, trivial⟩⟩, ⟨⟨ti145, trivial, .inl rfl⟩, trivial, trivial⟩, trivial⟩, ⟨⟨ti152, tz152, .inr ⟨_, Try.underlying152, rfl, ti47, rfl, ti23, rfl, ti23, rfl, Qx3, rfl, Qx3, trivial⟩⟩, trivial, trivial⟩⟩, ⟨⟨ti175, tz175, .inl rfl⟩, ⟨⟨ti168, trivial, .inl rfl⟩, ⟨⟨ti166, trivial, .inr ⟨_, Try.underlying166, rfl, ti3, rfl, ti3, trivial⟩⟩, trivial, trivial⟩, trivial⟩, ⟨⟨ti177, trivial, .inl rfl⟩, trivial, trivial⟩⟩⟩⟩⟩
end Go.Proofs.Ytgdepcgbjjgnfaa
