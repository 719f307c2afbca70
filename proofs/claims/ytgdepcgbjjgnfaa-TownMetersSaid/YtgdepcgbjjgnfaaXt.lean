/-
  The types of the program as Lean types, and how they lie in cells; facts on the program's types. No conditions.
-/
import Derived.Test.YtgdepcgbjjgnfaaEngW
import Derived.Conc.MuLone
namespace Go.Proofs.Ytgdepcgbjjgnfaa
open Go.RowKit

def Qac (x : Int) : List AV := [K .i64 x]
theorem Qaf : ∀ x, ∀ a ∈ Qac x, NLt 0 a := fun _ => nl_cons (.lit _) nl_nil
theorem one_i64 : ∀ x, (Qac x).all AV.one = true := fun _ => rfl
structure GNode where
  Parent : Int
  Loss : Int
  Limit : Int
  Rank : Int
  deriving DecidableEq
def Qaa (x : GNode) : List AV := Qac x.Parent ++ Qac x.Loss ++ Qac x.Limit ++ Qac x.Rank
theorem Qag : ∀ x, ∀ a ∈ Qaa x, NLt 0 a := fun _ => (Qeu (Qeu (Qeu (Qaf _) (Qaf _)) (Qaf _)) (Qaf _))
structure GMeter where
  Reading : Int
  Off : Int
  deriving DecidableEq
def Qab (x : GMeter) : List AV := Qac x.Reading ++ Qac x.Off
theorem Qal : ∀ x, ∀ a ∈ Qab x, NLt 0 a := fun _ => (Qeu (Qaf _) (Qaf _))
structure GRange where
  Lo : Int
  Hi : Int
  deriving DecidableEq
def Qai (x : GRange) : List AV := Qac x.Lo ++ Qac x.Hi
theorem Qbo : ∀ x, ∀ a ∈ Qai x, NLt 0 a := fun _ => (Qeu (Qaf _) (Qaf _))
def Qae (x : Bool) : List AV := [B x]
theorem Qbd : ∀ x, ∀ a ∈ Qae x, NLt 0 a := fun _ => nl_cons (.lit _) nl_nil
theorem one_bool : ∀ x, (Qae x).all AV.one = true := fun _ => rfl
structure GStair where
  Amount : Int
  Price : Int
  deriving DecidableEq
def Qah (x : GStair) : List AV := Qac x.Amount ++ Qac x.Price
theorem Qb8 : ∀ x, ∀ a ∈ Qah x, NLt 0 a := fun _ => (Qeu (Qaf _) (Qaf _))
def c_LGStair (x : (List GStair)) : List AV := [.dat 2 (x.map Qah)]
theorem nl_LGStair : ∀ x, ∀ a ∈ c_LGStair x, NLt 0 a := fun _ => nl_cons (nl_dat Qb8 _) nl_nil
structure GHour where
  Use : Int
  Stairs : List GStair
  deriving DecidableEq
def Qad (x : GHour) : List AV := Qac x.Use ++ c_LGStair x.Stairs
theorem Qas : ∀ x, ∀ a ∈ Qad x, NLt 0 a := fun _ => (Qeu (Qaf _) (nl_LGStair _))
def c_LGHour (x : (List GHour)) : List AV := [.dat 2 (x.map Qad)]
structure GDay where
  Tank : Int
  Start : Int
  Hours : List GHour
  deriving DecidableEq
def c_GDay (x : GDay) : List AV := Qac x.Tank ++ Qac x.Start ++ c_LGHour x.Hours
structure GBracket where
  Upto : Int
  Price : Int
  deriving DecidableEq
structure GStream where
  Mass : Int
  Heat : Int
  Silica : Int
  Gas : Int
  deriving DecidableEq
structure GBrine where
  Stream : GStream
  Floor : Int
  deriving DecidableEq
def c_LGMeter (x : (List GMeter)) : List AV := [.dat 2 (x.map Qab)]
def c_Lbool (x : (List Bool)) : List AV := [.dat 1 (x.map Qae)]
structure GMeters where
  Use : List GMeter
  Flow : List GMeter
  Has : List Bool
  deriving DecidableEq
def Qfi (x : GMeters) : List AV := c_LGMeter x.Use ++ c_LGMeter x.Flow ++ c_Lbool x.Has
def c_LGNode (x : (List GNode)) : List AV := [.dat 4 (x.map Qaa)]
theorem lit_i64 : ∀ x, ∀ a ∈ Qac x, ∃ v, a = .lit v := fun _ => lit_cons lit_nil
theorem Qgu : TI Try.prog 141 true 4 := ⟨⟨_, Try.underlying141, rfl⟩, Qex (by kernel_rfl)⟩
theorem ti3 : TI Try.prog 3 false 1 := ⟨⟨_, Try.underlying3, rfl⟩, Qex (by kernel_rfl)⟩
theorem ti168 : TI Try.prog 168 false 1 := ⟨⟨_, Try.underlying168, rfl⟩, Qex (by kernel_rfl)⟩
theorem ti23 : TI Try.prog 23 false 1 := ⟨⟨_, Try.underlying23, rfl⟩, Qex (by kernel_rfl)⟩
theorem ti175 : TI Try.prog 175 false 1 := ⟨⟨_, Try.underlying175, rfl⟩, Qex (by kernel_rfl)⟩
theorem ti31 : TI Try.prog 31 false 1 := ⟨⟨_, Try.underlying31, rfl⟩, Qex (by kernel_rfl)⟩
theorem ti96 : TI Try.prog 96 true 2 := ⟨⟨_, Try.underlying96, rfl⟩, Qex (by kernel_rfl)⟩
theorem ti93 : TI Try.prog 93 true 2 := ⟨⟨_, Try.underlying93, rfl⟩, Qex (by kernel_rfl)⟩
theorem ti30 : TI Try.prog 30 false 1 := ⟨⟨_, Try.underlying30, rfl⟩, Qex (by kernel_rfl)⟩
theorem ti142 : TI Try.prog 142 false 1 := ⟨⟨_, Try.underlying142, rfl⟩, Qex (by kernel_rfl)⟩
theorem ti4 : TI Try.prog 4 false 1 := ⟨⟨_, Try.underlying4, rfl⟩, Qex (by kernel_rfl)⟩
theorem ti47 : TI Try.prog 47 true 3 := ⟨⟨_, Try.underlying47, rfl⟩, Qex (by kernel_rfl)⟩
theorem ti45 : TI Try.prog 45 false 1 := ⟨⟨_, Try.underlying45, rfl⟩, Qex (by kernel_rfl)⟩
theorem ti62 : TI Try.prog 62 true 2 := ⟨⟨_, Try.underlying62, rfl⟩, Qex (by kernel_rfl)⟩
theorem ti177 : TI Try.prog 177 false 1 := ⟨⟨_, Try.underlying177, rfl⟩, Qex (by kernel_rfl)⟩
theorem ti60 : TI Try.prog 60 false 1 := ⟨⟨_, Try.underlying60, rfl⟩, Qex (by kernel_rfl)⟩
theorem ti64 : TI Try.prog 64 true 2 := ⟨⟨_, Try.underlying64, rfl⟩, Qex (by kernel_rfl)⟩
theorem Qis : TI Try.prog 150 true 24 := ⟨⟨_, Try.underlying150, rfl⟩, Qex (by kernel_rfl)⟩
theorem ti56 : TI Try.prog 56 true 4 := ⟨⟨_, Try.underlying56, rfl⟩, Qex (by kernel_rfl)⟩
theorem ti26 : TI Try.prog 26 false 1 := ⟨⟨_, Try.underlying26, rfl⟩, Qex (by kernel_rfl)⟩
theorem Qfg : TI Try.prog 103 false 1 := ⟨⟨_, Try.underlying103, rfl⟩, Qex (by kernel_rfl)⟩
theorem ti105 : TI Try.prog 105 true 3 := ⟨⟨_, Try.underlying105, rfl⟩, Qex (by kernel_rfl)⟩
theorem ti87 : TI Try.prog 87 false 1 := ⟨⟨_, Try.underlying87, rfl⟩, Qex (by kernel_rfl)⟩
theorem ti91 : TI Try.prog 91 true 2 := ⟨⟨_, Try.underlying91, rfl⟩, Qex (by kernel_rfl)⟩
theorem ti98 : TI Try.prog 98 true 2 := ⟨⟨_, Try.underlying98, rfl⟩, Qex (by kernel_rfl)⟩
theorem ti100 : TI Try.prog 100 false 1 := ⟨⟨_, Try.underlying100, rfl⟩, Qex (by kernel_rfl)⟩
theorem ti89 : TI Try.prog 89 true 3 := ⟨⟨_, Try.underlying89, rfl⟩, Qex (by kernel_rfl)⟩
theorem ts93 : TS Try.prog 93 [(0, 1), (1, 1)] := ⟨_, Try.underlying93, ⟨rfl, ⟨_, ti3⟩, rfl, ⟨_, ti3⟩, trivial⟩⟩
theorem ts152 : TS Try.prog 152 [(0, 3), (3, 1), (4, 1), (5, 24), (29, 24)] := ⟨_, Try.underlying152, ⟨rfl, ⟨_, ti47⟩, rfl, ⟨_, ti23⟩, rfl, ⟨_, ti23⟩, rfl, ⟨_, Qis⟩, rfl, ⟨_, Qis⟩, trivial⟩⟩
theorem ts64 : TS Try.prog 64 [(0, 1), (1, 1)] := ⟨_, Try.underlying64, ⟨rfl, ⟨_, ti3⟩, rfl, ⟨_, ti3⟩, trivial⟩⟩
theorem ts141 : TS Try.prog 141 [(0, 1), (1, 1), (2, 1), (3, 1)] := ⟨_, Try.underlying141, ⟨rfl, ⟨_, ti3⟩, rfl, ⟨_, ti3⟩, rfl, ⟨_, ti3⟩, rfl, ⟨_, ti3⟩, trivial⟩⟩
theorem ts96 : TS Try.prog 96 [(0, 1), (1, 1)] := ⟨_, Try.underlying96, ⟨rfl, ⟨_, ti3⟩, rfl, ⟨_, ti3⟩, trivial⟩⟩
theorem ts62 : TS Try.prog 62 [(0, 1), (1, 1)] := ⟨_, Try.underlying62, ⟨rfl, ⟨_, ti3⟩, rfl, ⟨_, ti60⟩, trivial⟩⟩
theorem ts47 : TS Try.prog 47 [(0, 1), (1, 1), (2, 1)] := ⟨_, Try.underlying47, ⟨rfl, ⟨_, ti3⟩, rfl, ⟨_, ti3⟩, rfl, ⟨_, ti45⟩, trivial⟩⟩
theorem ts105 : TS Try.prog 105 [(0, 1), (1, 1), (2, 1)] := ⟨_, Try.underlying105, ⟨rfl, ⟨_, Qfg⟩, rfl, ⟨_, Qfg⟩, rfl, ⟨_, ti26⟩, trivial⟩⟩
theorem ts98 : TS Try.prog 98 [(0, 1), (1, 1)] := ⟨_, Try.underlying98, ⟨rfl, ⟨_, ti3⟩, rfl, ⟨_, ti3⟩, trivial⟩⟩
theorem Qd1 : ∀ vals w, (callFunc 68 vals).run Try.prog w = .ok (.enter 68 vals) w := fun vals w => MuLone.run_callFunc_enter Try.func68 (by kernel_rfl) rfl vals w
theorem tz141 : TZ Try.prog 141 [.int .i64 0, .int .i64 0, .int .i64 0, .int .i64 0] := Qik (by kernel_rfl)
theorem Qe0 : ∀ vals w, (callFunc 94 vals).run Try.prog w = .ok (.enter 94 vals) w := fun vals w => MuLone.run_callFunc_enter Try.func94 (by kernel_rfl) rfl vals w
theorem enter80 : ∀ vals w, (callFunc 80 vals).run Try.prog w = .ok (.enter 80 vals) w := fun vals w => MuLone.run_callFunc_enter Try.func80 (by kernel_rfl) rfl vals w
theorem enter108 : ∀ vals w, (callFunc 108 vals).run Try.prog w = .ok (.enter 108 vals) w := fun vals w => MuLone.run_callFunc_enter Try.func108 (by kernel_rfl) rfl vals w
theorem enter113 : ∀ vals w, (callFunc 113 vals).run Try.prog w = .ok (.enter 113 vals) w := fun vals w => MuLone.run_callFunc_enter Try.func113 (by kernel_rfl) rfl vals w
theorem enter107 : ∀ vals w, (callFunc 107 vals).run Try.prog w = .ok (.enter 107 vals) w := fun vals w => MuLone.run_callFunc_enter Try.func107 (by kernel_rfl) rfl vals w
theorem enter90 : ∀ vals w, (callFunc 90 vals).run Try.prog w = .ok (.enter 90 vals) w := fun vals w => MuLone.run_callFunc_enter Try.func90 (by kernel_rfl) rfl vals w
theorem enter67 : ∀ vals w, (callFunc 67 vals).run Try.prog w = .ok (.enter 67 vals) w := fun vals w => MuLone.run_callFunc_enter Try.func67 (by kernel_rfl) rfl vals w
theorem tz3 : TZ Try.prog 3 [.int .i64 0] := Qik (by kernel_rfl)
theorem te3 : TE Try.prog 3 1 8 := te_of (by kernel_rfl) (by decide)
theorem enter97 : ∀ vals w, (callFunc 97 vals).run Try.prog w = .ok (.enter 97 vals) w := fun vals w => MuLone.run_callFunc_enter Try.func97 (by kernel_rfl) rfl vals w
theorem tz23 : TZ Try.prog 23 [.slice none 0 0] := Qik (by kernel_rfl)
theorem tz175 : TZ Try.prog 175 [.nilFunc] := Qik (by kernel_rfl)
theorem enter86 : ∀ vals w, (callFunc 86 vals).run Try.prog w = .ok (.enter 86 vals) w := fun vals w => MuLone.run_callFunc_enter Try.func86 (by kernel_rfl) rfl vals w
theorem enter98 : ∀ vals w, (callFunc 98 vals).run Try.prog w = .ok (.enter 98 vals) w := fun vals w => MuLone.run_callFunc_enter Try.func98 (by kernel_rfl) rfl vals w
theorem enter105 : ∀ vals w, (callFunc 105 vals).run Try.prog w = .ok (.enter 105 vals) w := fun vals w => MuLone.run_callFunc_enter Try.func105 (by kernel_rfl) rfl vals w
theorem enter71 : ∀ vals w, (callFunc 71 vals).run Try.prog w = .ok (.enter 71 vals) w := fun vals w => MuLone.run_callFunc_enter Try.func71 (by kernel_rfl) rfl vals w
theorem enter72 : ∀ vals w, (callFunc 72 vals).run Try.prog w = .ok (.enter 72 vals) w := fun vals w => MuLone.run_callFunc_enter Try.func72 (by kernel_rfl) rfl vals w
theorem tz93 : TZ Try.prog 93 [.int .i64 0, .int .i64 0] := Qik (by kernel_rfl)
theorem enter84 : ∀ vals w, (callFunc 84 vals).run Try.prog w = .ok (.enter 84 vals) w := fun vals w => MuLone.run_callFunc_enter Try.func84 (by kernel_rfl) rfl vals w
theorem enter85 : ∀ vals w, (callFunc 85 vals).run Try.prog w = .ok (.enter 85 vals) w := fun vals w => MuLone.run_callFunc_enter Try.func85 (by kernel_rfl) rfl vals w
theorem te4 : TE Try.prog 4 1 1 := te_of (by kernel_rfl) (by decide)
theorem tz4 : TZ Try.prog 4 [.bool false] := Qik (by kernel_rfl)
theorem enter70 : ∀ vals w, (callFunc 70 vals).run Try.prog w = .ok (.enter 70 vals) w := fun vals w => MuLone.run_callFunc_enter Try.func70 (by kernel_rfl) rfl vals w
theorem enter96 : ∀ vals w, (callFunc 96 vals).run Try.prog w = .ok (.enter 96 vals) w := fun vals w => MuLone.run_callFunc_enter Try.func96 (by kernel_rfl) rfl vals w
theorem enter114 : ∀ vals w, (callFunc 114 vals).run Try.prog w = .ok (.enter 114 vals) w := fun vals w => MuLone.run_callFunc_enter Try.func114 (by kernel_rfl) rfl vals w
theorem enter118 : ∀ vals w, (callFunc 118 vals).run Try.prog w = .ok (.enter 118 vals) w := fun vals w => MuLone.run_callFunc_enter Try.func118 (by kernel_rfl) rfl vals w
theorem enter117 : ∀ vals w, (callFunc 117 vals).run Try.prog w = .ok (.enter 117 vals) w := fun vals w => MuLone.run_callFunc_enter Try.func117 (by kernel_rfl) rfl vals w
theorem enter115 : ∀ vals w, (callFunc 115 vals).run Try.prog w = .ok (.enter 115 vals) w := fun vals w => MuLone.run_callFunc_enter Try.func115 (by kernel_rfl) rfl vals w
theorem enter110 : ∀ vals w, (callFunc 110 vals).run Try.prog w = .ok (.enter 110 vals) w := fun vals w => MuLone.run_callFunc_enter Try.func110 (by kernel_rfl) rfl vals w
theorem enter95 : ∀ vals w, (callFunc 95 vals).run Try.prog w = .ok (.enter 95 vals) w := fun vals w => MuLone.run_callFunc_enter Try.func95 (by kernel_rfl) rfl vals w
theorem enter69 : ∀ vals w, (callFunc 69 vals).run Try.prog w = .ok (.enter 69 vals) w := fun vals w => MuLone.run_callFunc_enter Try.func69 (by kernel_rfl) rfl vals w
theorem tz64 : TZ Try.prog 64 [.int .i64 0, .int .i64 0] := Qik (by kernel_rfl)
theorem enter100 : ∀ vals w, (callFunc 100 vals).run Try.prog w = .ok (.enter 100 vals) w := fun vals w => MuLone.run_callFunc_enter Try.func100 (by kernel_rfl) rfl vals w
theorem enter112 : ∀ vals w, (callFunc 112 vals).run Try.prog w = .ok (.enter 112 vals) w := fun vals w => MuLone.run_callFunc_enter Try.func112 (by kernel_rfl) rfl vals w
theorem enter116 : ∀ vals w, (callFunc 116 vals).run Try.prog w = .ok (.enter 116 vals) w := fun vals w => MuLone.run_callFunc_enter Try.func116 (by kernel_rfl) rfl vals w
theorem enter111 : ∀ vals w, (callFunc 111 vals).run Try.prog w = .ok (.enter 111 vals) w := fun vals w => MuLone.run_callFunc_enter Try.func111 (by kernel_rfl) rfl vals w
theorem enter99 : ∀ vals w, (callFunc 99 vals).run Try.prog w = .ok (.enter 99 vals) w := fun vals w => MuLone.run_callFunc_enter Try.func99 (by kernel_rfl) rfl vals w
theorem enter74 : ∀ vals w, (callFunc 74 vals).run Try.prog w = .ok (.enter 74 vals) w := fun vals w => MuLone.run_callFunc_enter Try.func74 (by kernel_rfl) rfl vals w
theorem tz62 : TZ Try.prog 62 [.int .i64 0, .slice none 0 0] := Qik (by kernel_rfl)
theorem enter101 : ∀ vals w, (callFunc 101 vals).run Try.prog w = .ok (.enter 101 vals) w := fun vals w => MuLone.run_callFunc_enter Try.func101 (by kernel_rfl) rfl vals w
theorem enter75 : ∀ vals w, (callFunc 75 vals).run Try.prog w = .ok (.enter 75 vals) w := fun vals w => MuLone.run_callFunc_enter Try.func75 (by kernel_rfl) rfl vals w
theorem enter93 : ∀ vals w, (callFunc 93 vals).run Try.prog w = .ok (.enter 93 vals) w := fun vals w => MuLone.run_callFunc_enter Try.func93 (by kernel_rfl) rfl vals w
theorem enter109 : ∀ vals w, (callFunc 109 vals).run Try.prog w = .ok (.enter 109 vals) w := fun vals w => MuLone.run_callFunc_enter Try.func109 (by kernel_rfl) rfl vals w
theorem tz152 : TZ Try.prog 152 [.int .i64 0, .int .i64 0, .slice none 0 0, .slice none 0 0, .slice none 0 0, .int .i64 0, .int .i64 0, .int .i64 0, .int .i64 0, .int .i64 0, .int .i64 0, .int .i64 0, .int .i64 0, .int .i64 0, .int .i64 0, .int .i64 0, .int .i64 0, .int .i64 0, .int .i64 0, .int .i64 0, .int .i64 0, .int .i64 0, .int .i64 0, .int .i64 0, .int .i64 0, .int .i64 0, .int .i64 0, .int .i64 0, .int .i64 0, .int .i64 0, .int .i64 0, .int .i64 0, .int .i64 0, .int .i64 0, .int .i64 0, .int .i64 0, .int .i64 0, .int .i64 0, .int .i64 0, .int .i64 0, .int .i64 0, .int .i64 0, .int .i64 0, .int .i64 0, .int .i64 0, .int .i64 0, .int .i64 0, .int .i64 0, .int .i64 0, .int .i64 0, .int .i64 0, .int .i64 0, .int .i64 0] := Qik (by kernel_rfl)
theorem enter102 : ∀ vals w, (callFunc 102 vals).run Try.prog w = .ok (.enter 102 vals) w := fun vals w => MuLone.run_callFunc_enter Try.func102 (by kernel_rfl) rfl vals w
theorem enter103 : ∀ vals w, (callFunc 103 vals).run Try.prog w = .ok (.enter 103 vals) w := fun vals w => MuLone.run_callFunc_enter Try.func103 (by kernel_rfl) rfl vals w
theorem enter76 : ∀ vals w, (callFunc 76 vals).run Try.prog w = .ok (.enter 76 vals) w := fun vals w => MuLone.run_callFunc_enter Try.func76 (by kernel_rfl) rfl vals w
theorem enter77 : ∀ vals w, (callFunc 77 vals).run Try.prog w = .ok (.enter 77 vals) w := fun vals w => MuLone.run_callFunc_enter Try.func77 (by kernel_rfl) rfl vals w
theorem enter78 : ∀ vals w, (callFunc 78 vals).run Try.prog w = .ok (.enter 78 vals) w := fun vals w => MuLone.run_callFunc_enter Try.func78 (by kernel_rfl) rfl vals w
theorem enter64 : ∀ vals w, (callFunc 64 vals).run Try.prog w = .ok (.enter 64 vals) w := fun vals w => MuLone.run_callFunc_enter Try.func64 (by kernel_rfl) rfl vals w
theorem enter36 : ∀ vals w, (callFunc 36 vals).run Try.prog w = .ok (.enter 36 vals) w := fun vals w => MuLone.run_callFunc_enter Try.func36 (by kernel_rfl) rfl vals w
theorem enter22 : ∀ vals w, (callFunc 22 vals).run Try.prog w = .ok (.enter 22 vals) w := fun vals w => MuLone.run_callFunc_enter Try.func22 (by kernel_rfl) rfl vals w
theorem tz96 : TZ Try.prog 96 [.int .i64 0, .int .i64 0] := Qik (by kernel_rfl)
theorem enter47 : ∀ vals w, (callFunc 47 vals).run Try.prog w = .ok (.enter 47 vals) w := fun vals w => MuLone.run_callFunc_enter Try.func47 (by kernel_rfl) rfl vals w
theorem tz47 : TZ Try.prog 47 [.int .i64 0, .int .i64 0, .slice none 0 0] := Qik (by kernel_rfl)
theorem enter65 : ∀ vals w, (callFunc 65 vals).run Try.prog w = .ok (.enter 65 vals) w := fun vals w => MuLone.run_callFunc_enter Try.func65 (by kernel_rfl) rfl vals w
theorem enter30 : ∀ vals w, (callFunc 30 vals).run Try.prog w = .ok (.enter 30 vals) w := fun vals w => MuLone.run_callFunc_enter Try.func30 (by kernel_rfl) rfl vals w
theorem Qf5 : ∀ vals w, (callFunc 66 vals).run Try.prog w = .ok (.enter 66 vals) w := fun vals w => MuLone.run_callFunc_enter Try.func66 (by kernel_rfl) rfl vals w
theorem Qe1 : ∀ vals w, (callFunc 27 vals).run Try.prog w = .ok (.enter 27 vals) w := fun vals w => MuLone.run_callFunc_enter Try.func27 (by kernel_rfl) rfl vals w
theorem Qjc : ∀ vals w, (callFunc 21 vals).run Try.prog w = .ok (.enter 21 vals) w := fun vals w => MuLone.run_callFunc_enter Try.func21 (by kernel_rfl) rfl vals w
theorem te141 : TE Try.prog 141 4 32 := te_of (by kernel_rfl) (by decide)
theorem enter20 : ∀ vals w, (callFunc 20 vals).run Try.prog w = .ok (.enter 20 vals) w := fun vals w => MuLone.run_callFunc_enter Try.func20 (by kernel_rfl) rfl vals w
theorem enter23 : ∀ vals w, (callFunc 23 vals).run Try.prog w = .ok (.enter 23 vals) w := fun vals w => MuLone.run_callFunc_enter Try.func23 (by kernel_rfl) rfl vals w
theorem enter25 : ∀ vals w, (callFunc 25 vals).run Try.prog w = .ok (.enter 25 vals) w := fun vals w => MuLone.run_callFunc_enter Try.func25 (by kernel_rfl) rfl vals w
theorem tz105 : TZ Try.prog 105 [.slice none 0 0, .slice none 0 0, .slice none 0 0] := Qik (by kernel_rfl)
theorem te96 : TE Try.prog 96 2 16 := te_of (by kernel_rfl) (by decide)
theorem enter48 : ∀ vals w, (callFunc 48 vals).run Try.prog w = .ok (.enter 48 vals) w := fun vals w => MuLone.run_callFunc_enter Try.func48 (by kernel_rfl) rfl vals w
theorem tz98 : TZ Try.prog 98 [.int .i64 0, .int .i64 0] := Qik (by kernel_rfl)
theorem te93 : TE Try.prog 93 2 16 := te_of (by kernel_rfl) (by decide)
theorem tz100 : TZ Try.prog 100 [.slice none 0 0] := Qik (by kernel_rfl)
theorem enter49 : ∀ vals w, (callFunc 49 vals).run Try.prog w = .ok (.enter 49 vals) w := fun vals w => MuLone.run_callFunc_enter Try.func49 (by kernel_rfl) rfl vals w
theorem enter87 : ∀ vals w, (callFunc 87 vals).run Try.prog w = .ok (.enter 87 vals) w := fun vals w => MuLone.run_callFunc_enter Try.func87 (by kernel_rfl) rfl vals w
theorem enter106 : ∀ vals w, (callFunc 106 vals).run Try.prog w = .ok (.enter 106 vals) w := fun vals w => MuLone.run_callFunc_enter Try.func106 (by kernel_rfl) rfl vals w
theorem enter51 : ∀ vals w, (callFunc 51 vals).run Try.prog w = .ok (.enter 51 vals) w := fun vals w => MuLone.run_callFunc_enter Try.func51 (by kernel_rfl) rfl vals w
theorem enter50 : ∀ vals w, (callFunc 50 vals).run Try.prog w = .ok (.enter 50 vals) w := fun vals w => MuLone.run_callFunc_enter Try.func50 (by kernel_rfl) rfl vals w
theorem enter52 : ∀ vals w, (callFunc 52 vals).run Try.prog w = .ok (.enter 52 vals) w := fun vals w => MuLone.run_callFunc_enter Try.func52 (by kernel_rfl) rfl vals w
theorem enter53 : ∀ vals w, (callFunc 53 vals).run Try.prog w = .ok (.enter 53 vals) w := fun vals w => MuLone.run_callFunc_enter Try.func53 (by kernel_rfl) rfl vals w
theorem eqt93 : EqT Try.prog 10000 93 2 := eqT_struct (d := 9998) Try.underlying93 (by kernel_rfl) (.int _ (by decide) rfl Try.underlying3 (.int _ (by decide) rfl Try.underlying3 (.nil _)))
end Go.Proofs.Ytgdepcgbjjgnfaa
