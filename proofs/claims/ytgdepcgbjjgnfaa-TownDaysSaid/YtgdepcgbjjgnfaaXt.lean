/-
  The types of the program as Lean types, and how they lie in cells; facts on the program's types. No conditions.
-/
import Derived.Test.YtgdepcgbjjgnfaaEngW
import Derived.Conc.MuLone
namespace Go.Proofs.Ytgdepcgbjjgnfaa
open Go.RowKit

def c_i64 (x : Int) : List AV := [K .i64 x]
theorem nl_i64 : ∀ x, ∀ a ∈ c_i64 x, NLt 0 a := fun _ => nl_cons (.lit _) nl_nil
theorem one_i64 : ∀ x, (c_i64 x).all AV.one = true := fun _ => rfl
structure GNode where
  Parent : Int
  Loss : Int
  Limit : Int
  Rank : Int
  deriving DecidableEq
def c_GNode (x : GNode) : List AV := c_i64 x.Parent ++ c_i64 x.Loss ++ c_i64 x.Limit ++ c_i64 x.Rank
theorem nl_GNode : ∀ x, ∀ a ∈ c_GNode x, NLt 0 a := fun _ => (nl_app (nl_app (nl_app (nl_i64 _) (nl_i64 _)) (nl_i64 _)) (nl_i64 _))
theorem one_GNode : ∀ x, (c_GNode x).all AV.one = true := fun _ => (one_app (one_app (one_app (one_i64 _) (one_i64 _)) (one_i64 _)) (one_i64 _))
structure GMeter where
  Reading : Int
  Off : Int
  deriving DecidableEq
def c_GMeter (x : GMeter) : List AV := c_i64 x.Reading ++ c_i64 x.Off
theorem nl_GMeter : ∀ x, ∀ a ∈ c_GMeter x, NLt 0 a := fun _ => (nl_app (nl_i64 _) (nl_i64 _))
theorem one_GMeter : ∀ x, (c_GMeter x).all AV.one = true := fun _ => (one_app (one_i64 _) (one_i64 _))
structure GRange where
  Lo : Int
  Hi : Int
  deriving DecidableEq
def c_GRange (x : GRange) : List AV := c_i64 x.Lo ++ c_i64 x.Hi
theorem nl_GRange : ∀ x, ∀ a ∈ c_GRange x, NLt 0 a := fun _ => (nl_app (nl_i64 _) (nl_i64 _))
theorem one_GRange : ∀ x, (c_GRange x).all AV.one = true := fun _ => (one_app (one_i64 _) (one_i64 _))
def c_bool (x : Bool) : List AV := [B x]
theorem nl_bool : ∀ x, ∀ a ∈ c_bool x, NLt 0 a := fun _ => nl_cons (.lit _) nl_nil
theorem one_bool : ∀ x, (c_bool x).all AV.one = true := fun _ => rfl
structure GStair where
  Amount : Int
  Price : Int
  deriving DecidableEq
def c_GStair (x : GStair) : List AV := c_i64 x.Amount ++ c_i64 x.Price
theorem nl_GStair : ∀ x, ∀ a ∈ c_GStair x, NLt 0 a := fun _ => (nl_app (nl_i64 _) (nl_i64 _))
theorem one_GStair : ∀ x, (c_GStair x).all AV.one = true := fun _ => (one_app (one_i64 _) (one_i64 _))
def c_LGStair (x : (List GStair)) : List AV := [.dat 2 (x.map c_GStair)]
theorem nl_LGStair : ∀ x, ∀ a ∈ c_LGStair x, NLt 0 a := fun _ => nl_cons (nl_dat nl_GStair _) nl_nil
theorem one_LGStair : ∀ x, (c_LGStair x).all AV.one = true := fun _ => rfl
structure GHour where
  Use : Int
  Stairs : List GStair
  deriving DecidableEq
def c_GHour (x : GHour) : List AV := c_i64 x.Use ++ c_LGStair x.Stairs
theorem nl_GHour : ∀ x, ∀ a ∈ c_GHour x, NLt 0 a := fun _ => (nl_app (nl_i64 _) (nl_LGStair _))
theorem one_GHour : ∀ x, (c_GHour x).all AV.one = true := fun _ => (one_app (one_i64 _) (one_LGStair _))
def c_LGHour (x : (List GHour)) : List AV := [.dat 2 (x.map c_GHour)]
theorem nl_LGHour : ∀ x, ∀ a ∈ c_LGHour x, NLt 0 a := fun _ => nl_cons (nl_dat nl_GHour _) nl_nil
theorem one_LGHour : ∀ x, (c_LGHour x).all AV.one = true := fun _ => rfl
structure GDay where
  Tank : Int
  Start : Int
  Hours : List GHour
  deriving DecidableEq
def c_GDay (x : GDay) : List AV := c_i64 x.Tank ++ c_i64 x.Start ++ c_LGHour x.Hours
theorem nl_GDay : ∀ x, ∀ a ∈ c_GDay x, NLt 0 a := fun _ => (nl_app (nl_app (nl_i64 _) (nl_i64 _)) (nl_LGHour _))
theorem one_GDay : ∀ x, (c_GDay x).all AV.one = true := fun _ => (one_app (one_app (one_i64 _) (one_i64 _)) (one_LGHour _))
structure GBracket where
  Upto : Int
  Price : Int
  deriving DecidableEq
def c_GBracket (x : GBracket) : List AV := c_i64 x.Upto ++ c_i64 x.Price
theorem nl_GBracket : ∀ x, ∀ a ∈ c_GBracket x, NLt 0 a := fun _ => (nl_app (nl_i64 _) (nl_i64 _))
theorem one_GBracket : ∀ x, (c_GBracket x).all AV.one = true := fun _ => (one_app (one_i64 _) (one_i64 _))
def c_u32 (x : Int) : List AV := [K .u32 x]
theorem nl_u32 : ∀ x, ∀ a ∈ c_u32 x, NLt 0 a := fun _ => nl_cons (.lit _) nl_nil
theorem one_u32 : ∀ x, (c_u32 x).all AV.one = true := fun _ => rfl
structure GStream where
  Mass : Int
  Heat : Int
  Silica : Int
  Gas : Int
  deriving DecidableEq
def c_GStream (x : GStream) : List AV := c_i64 x.Mass ++ c_i64 x.Heat ++ c_i64 x.Silica ++ c_i64 x.Gas
theorem nl_GStream : ∀ x, ∀ a ∈ c_GStream x, NLt 0 a := fun _ => (nl_app (nl_app (nl_app (nl_i64 _) (nl_i64 _)) (nl_i64 _)) (nl_i64 _))
theorem one_GStream : ∀ x, (c_GStream x).all AV.one = true := fun _ => (one_app (one_app (one_app (one_i64 _) (one_i64 _)) (one_i64 _)) (one_i64 _))
structure GBrine where
  Stream : GStream
  Floor : Int
  deriving DecidableEq
def c_GBrine (x : GBrine) : List AV := c_GStream x.Stream ++ c_i64 x.Floor
theorem nl_GBrine : ∀ x, ∀ a ∈ c_GBrine x, NLt 0 a := fun _ => (nl_app (nl_GStream _) (nl_i64 _))
theorem one_GBrine : ∀ x, (c_GBrine x).all AV.one = true := fun _ => (one_app (one_GStream _) (one_i64 _))
def c_LGBracket (x : (List GBracket)) : List AV := [.dat 2 (x.map c_GBracket)]
theorem nl_LGBracket : ∀ x, ∀ a ∈ c_LGBracket x, NLt 0 a := fun _ => nl_cons (nl_dat nl_GBracket _) nl_nil
theorem one_LGBracket : ∀ x, (c_LGBracket x).all AV.one = true := fun _ => rfl
def c_Lu32 (x : (List Int)) : List AV := [.dat 1 (x.map c_u32)]
theorem nl_Lu32 : ∀ x, ∀ a ∈ c_Lu32 x, NLt 0 a := fun _ => nl_cons (nl_dat nl_u32 _) nl_nil
theorem one_Lu32 : ∀ x, (c_Lu32 x).all AV.one = true := fun _ => rfl
def c_u16 (x : Int) : List AV := [K .u16 x]
theorem nl_u16 : ∀ x, ∀ a ∈ c_u16 x, NLt 0 a := fun _ => nl_cons (.lit _) nl_nil
theorem one_u16 : ∀ x, (c_u16 x).all AV.one = true := fun _ => rfl
def c_LGNode (x : (List GNode)) : List AV := [.dat 4 (x.map c_GNode)]
theorem nl_LGNode : ∀ x, ∀ a ∈ c_LGNode x, NLt 0 a := fun _ => nl_cons (nl_dat nl_GNode _) nl_nil
theorem one_LGNode : ∀ x, (c_LGNode x).all AV.one = true := fun _ => rfl
def c_Li64 (x : (List Int)) : List AV := [.dat 1 (x.map c_i64)]
theorem nl_Li64 : ∀ x, ∀ a ∈ c_Li64 x, NLt 0 a := fun _ => nl_cons (nl_dat nl_i64 _) nl_nil
theorem one_Li64 : ∀ x, (c_Li64 x).all AV.one = true := fun _ => rfl
theorem lit_i64 : ∀ x, ∀ a ∈ c_i64 x, ∃ v, a = .lit v := fun _ => lit_cons lit_nil
theorem ti141 : TI Try.prog 141 true 4 := ⟨⟨_, Try.underlying141, rfl⟩, inf_of (by kernel_rfl)⟩
theorem ti3 : TI Try.prog 3 false 1 := ⟨⟨_, Try.underlying3, rfl⟩, inf_of (by kernel_rfl)⟩
theorem ti168 : TI Try.prog 168 false 1 := ⟨⟨_, Try.underlying168, rfl⟩, inf_of (by kernel_rfl)⟩
theorem ti23 : TI Try.prog 23 false 1 := ⟨⟨_, Try.underlying23, rfl⟩, inf_of (by kernel_rfl)⟩
theorem ti175 : TI Try.prog 175 false 1 := ⟨⟨_, Try.underlying175, rfl⟩, inf_of (by kernel_rfl)⟩
theorem ti31 : TI Try.prog 31 false 1 := ⟨⟨_, Try.underlying31, rfl⟩, inf_of (by kernel_rfl)⟩
theorem ti96 : TI Try.prog 96 true 2 := ⟨⟨_, Try.underlying96, rfl⟩, inf_of (by kernel_rfl)⟩
theorem ti93 : TI Try.prog 93 true 2 := ⟨⟨_, Try.underlying93, rfl⟩, inf_of (by kernel_rfl)⟩
theorem ti30 : TI Try.prog 30 false 1 := ⟨⟨_, Try.underlying30, rfl⟩, inf_of (by kernel_rfl)⟩
theorem ti142 : TI Try.prog 142 false 1 := ⟨⟨_, Try.underlying142, rfl⟩, inf_of (by kernel_rfl)⟩
theorem ti4 : TI Try.prog 4 false 1 := ⟨⟨_, Try.underlying4, rfl⟩, inf_of (by kernel_rfl)⟩
theorem ti47 : TI Try.prog 47 true 3 := ⟨⟨_, Try.underlying47, rfl⟩, inf_of (by kernel_rfl)⟩
theorem ti45 : TI Try.prog 45 false 1 := ⟨⟨_, Try.underlying45, rfl⟩, inf_of (by kernel_rfl)⟩
theorem ti62 : TI Try.prog 62 true 2 := ⟨⟨_, Try.underlying62, rfl⟩, inf_of (by kernel_rfl)⟩
theorem ti177 : TI Try.prog 177 false 1 := ⟨⟨_, Try.underlying177, rfl⟩, inf_of (by kernel_rfl)⟩
theorem ti60 : TI Try.prog 60 false 1 := ⟨⟨_, Try.underlying60, rfl⟩, inf_of (by kernel_rfl)⟩
theorem ti64 : TI Try.prog 64 true 2 := ⟨⟨_, Try.underlying64, rfl⟩, inf_of (by kernel_rfl)⟩
theorem ti150 : TI Try.prog 150 true 24 := ⟨⟨_, Try.underlying150, rfl⟩, inf_of (by kernel_rfl)⟩
theorem ti166 : TI Try.prog 166 true 2 := ⟨⟨_, Try.underlying166, rfl⟩, inf_of (by kernel_rfl)⟩
theorem ti136 : TI Try.prog 136 true 2 := ⟨⟨_, Try.underlying136, rfl⟩, inf_of (by kernel_rfl)⟩
theorem ti57 : TI Try.prog 57 false 1 := ⟨⟨_, Try.underlying57, rfl⟩, inf_of (by kernel_rfl)⟩
theorem ti73 : TI Try.prog 73 true 4 := ⟨⟨_, Try.underlying73, rfl⟩, inf_of (by kernel_rfl)⟩
theorem ti72 : TI Try.prog 72 true 4 := ⟨⟨_, Try.underlying72, rfl⟩, inf_of (by kernel_rfl)⟩
theorem ti78 : TI Try.prog 78 true 5 := ⟨⟨_, Try.underlying78, rfl⟩, inf_of (by kernel_rfl)⟩
theorem ti56 : TI Try.prog 56 true 4 := ⟨⟨_, Try.underlying56, rfl⟩, inf_of (by kernel_rfl)⟩
theorem ti39 : TI Try.prog 39 false 1 := ⟨⟨_, Try.underlying39, rfl⟩, inf_of (by kernel_rfl)⟩
theorem ti147 : TI Try.prog 147 true 2 := ⟨⟨_, Try.underlying147, rfl⟩, inf_of (by kernel_rfl)⟩
theorem ti145 : TI Try.prog 145 false 1 := ⟨⟨_, Try.underlying145, rfl⟩, inf_of (by kernel_rfl)⟩
theorem ti156 : TI Try.prog 156 true 2 := ⟨⟨_, Try.underlying156, rfl⟩, inf_of (by kernel_rfl)⟩
theorem ti41 : TI Try.prog 41 true 3 := ⟨⟨_, Try.underlying41, rfl⟩, inf_of (by kernel_rfl)⟩
theorem ts93 : TS Try.prog 93 [(0, 1), (1, 1)] := ⟨_, Try.underlying93, ⟨rfl, ⟨_, ti3⟩, rfl, ⟨_, ti3⟩, trivial⟩⟩
theorem ts152 : TS Try.prog 152 [(0, 3), (3, 1), (4, 1), (5, 24), (29, 24)] := ⟨_, Try.underlying152, ⟨rfl, ⟨_, ti47⟩, rfl, ⟨_, ti23⟩, rfl, ⟨_, ti23⟩, rfl, ⟨_, ti150⟩, rfl, ⟨_, ti150⟩, trivial⟩⟩
theorem ts64 : TS Try.prog 64 [(0, 1), (1, 1)] := ⟨_, Try.underlying64, ⟨rfl, ⟨_, ti3⟩, rfl, ⟨_, ti3⟩, trivial⟩⟩
theorem ts141 : TS Try.prog 141 [(0, 1), (1, 1), (2, 1), (3, 1)] := ⟨_, Try.underlying141, ⟨rfl, ⟨_, ti3⟩, rfl, ⟨_, ti3⟩, rfl, ⟨_, ti3⟩, rfl, ⟨_, ti3⟩, trivial⟩⟩
theorem ts96 : TS Try.prog 96 [(0, 1), (1, 1)] := ⟨_, Try.underlying96, ⟨rfl, ⟨_, ti3⟩, rfl, ⟨_, ti3⟩, trivial⟩⟩
theorem ts62 : TS Try.prog 62 [(0, 1), (1, 1)] := ⟨_, Try.underlying62, ⟨rfl, ⟨_, ti3⟩, rfl, ⟨_, ti60⟩, trivial⟩⟩
theorem ts47 : TS Try.prog 47 [(0, 1), (1, 1), (2, 1)] := ⟨_, Try.underlying47, ⟨rfl, ⟨_, ti3⟩, rfl, ⟨_, ti3⟩, rfl, ⟨_, ti45⟩, trivial⟩⟩
theorem ts136 : TS Try.prog 136 [(0, 1), (1, 1)] := ⟨_, Try.underlying136, ⟨rfl, ⟨_, ti3⟩, rfl, ⟨_, ti3⟩, trivial⟩⟩
theorem ts73 : TS Try.prog 73 [(0, 1), (1, 1), (2, 1), (3, 1)] := ⟨_, Try.underlying73, ⟨rfl, ⟨_, ti3⟩, rfl, ⟨_, ti3⟩, rfl, ⟨_, ti3⟩, rfl, ⟨_, ti3⟩, trivial⟩⟩
theorem ts78 : TS Try.prog 78 [(0, 4), (4, 1)] := ⟨_, Try.underlying78, ⟨rfl, ⟨_, ti73⟩, rfl, ⟨_, ti3⟩, trivial⟩⟩
theorem ts72 : TS Try.prog 72 [(0, 1), (1, 1), (2, 1), (3, 1)] := ⟨_, Try.underlying72, ⟨rfl, ⟨_, ti3⟩, rfl, ⟨_, ti3⟩, rfl, ⟨_, ti3⟩, rfl, ⟨_, ti3⟩, trivial⟩⟩
theorem ts83 : TS Try.prog 83 [(0, 4), (4, 1)] := ⟨_, Try.underlying83, ⟨rfl, ⟨_, ti72⟩, rfl, ⟨_, ti3⟩, trivial⟩⟩
theorem enter68 : ∀ vals w, (callFunc 68 vals).run Try.prog w = .ok (.enter 68 vals) w := fun vals w => MuLone.run_callFunc_enter Try.func68 (by kernel_rfl) rfl vals w
theorem tz141 : TZ Try.prog 141 [.int .i64 0, .int .i64 0, .int .i64 0, .int .i64 0] := tz_of (by kernel_rfl)
theorem enter94 : ∀ vals w, (callFunc 94 vals).run Try.prog w = .ok (.enter 94 vals) w := fun vals w => MuLone.run_callFunc_enter Try.func94 (by kernel_rfl) rfl vals w
theorem enter80 : ∀ vals w, (callFunc 80 vals).run Try.prog w = .ok (.enter 80 vals) w := fun vals w => MuLone.run_callFunc_enter Try.func80 (by kernel_rfl) rfl vals w
theorem enter108 : ∀ vals w, (callFunc 108 vals).run Try.prog w = .ok (.enter 108 vals) w := fun vals w => MuLone.run_callFunc_enter Try.func108 (by kernel_rfl) rfl vals w
theorem enter113 : ∀ vals w, (callFunc 113 vals).run Try.prog w = .ok (.enter 113 vals) w := fun vals w => MuLone.run_callFunc_enter Try.func113 (by kernel_rfl) rfl vals w
theorem enter107 : ∀ vals w, (callFunc 107 vals).run Try.prog w = .ok (.enter 107 vals) w := fun vals w => MuLone.run_callFunc_enter Try.func107 (by kernel_rfl) rfl vals w
theorem enter90 : ∀ vals w, (callFunc 90 vals).run Try.prog w = .ok (.enter 90 vals) w := fun vals w => MuLone.run_callFunc_enter Try.func90 (by kernel_rfl) rfl vals w
theorem enter67 : ∀ vals w, (callFunc 67 vals).run Try.prog w = .ok (.enter 67 vals) w := fun vals w => MuLone.run_callFunc_enter Try.func67 (by kernel_rfl) rfl vals w
theorem tz3 : TZ Try.prog 3 [.int .i64 0] := tz_of (by kernel_rfl)
theorem te3 : TE Try.prog 3 1 8 := te_of (by kernel_rfl) (by decide)
theorem enter97 : ∀ vals w, (callFunc 97 vals).run Try.prog w = .ok (.enter 97 vals) w := fun vals w => MuLone.run_callFunc_enter Try.func97 (by kernel_rfl) rfl vals w
theorem tz23 : TZ Try.prog 23 [.slice none 0 0] := tz_of (by kernel_rfl)
theorem tz175 : TZ Try.prog 175 [.nilFunc] := tz_of (by kernel_rfl)
theorem enter86 : ∀ vals w, (callFunc 86 vals).run Try.prog w = .ok (.enter 86 vals) w := fun vals w => MuLone.run_callFunc_enter Try.func86 (by kernel_rfl) rfl vals w
theorem enter98 : ∀ vals w, (callFunc 98 vals).run Try.prog w = .ok (.enter 98 vals) w := fun vals w => MuLone.run_callFunc_enter Try.func98 (by kernel_rfl) rfl vals w
theorem enter105 : ∀ vals w, (callFunc 105 vals).run Try.prog w = .ok (.enter 105 vals) w := fun vals w => MuLone.run_callFunc_enter Try.func105 (by kernel_rfl) rfl vals w
theorem enter71 : ∀ vals w, (callFunc 71 vals).run Try.prog w = .ok (.enter 71 vals) w := fun vals w => MuLone.run_callFunc_enter Try.func71 (by kernel_rfl) rfl vals w
theorem enter72 : ∀ vals w, (callFunc 72 vals).run Try.prog w = .ok (.enter 72 vals) w := fun vals w => MuLone.run_callFunc_enter Try.func72 (by kernel_rfl) rfl vals w
theorem tz93 : TZ Try.prog 93 [.int .i64 0, .int .i64 0] := tz_of (by kernel_rfl)
theorem enter84 : ∀ vals w, (callFunc 84 vals).run Try.prog w = .ok (.enter 84 vals) w := fun vals w => MuLone.run_callFunc_enter Try.func84 (by kernel_rfl) rfl vals w
theorem enter85 : ∀ vals w, (callFunc 85 vals).run Try.prog w = .ok (.enter 85 vals) w := fun vals w => MuLone.run_callFunc_enter Try.func85 (by kernel_rfl) rfl vals w
theorem te4 : TE Try.prog 4 1 1 := te_of (by kernel_rfl) (by decide)
theorem tz4 : TZ Try.prog 4 [.bool false] := tz_of (by kernel_rfl)
theorem enter70 : ∀ vals w, (callFunc 70 vals).run Try.prog w = .ok (.enter 70 vals) w := fun vals w => MuLone.run_callFunc_enter Try.func70 (by kernel_rfl) rfl vals w
theorem enter96 : ∀ vals w, (callFunc 96 vals).run Try.prog w = .ok (.enter 96 vals) w := fun vals w => MuLone.run_callFunc_enter Try.func96 (by kernel_rfl) rfl vals w
theorem enter114 : ∀ vals w, (callFunc 114 vals).run Try.prog w = .ok (.enter 114 vals) w := fun vals w => MuLone.run_callFunc_enter Try.func114 (by kernel_rfl) rfl vals w
theorem enter118 : ∀ vals w, (callFunc 118 vals).run Try.prog w = .ok (.enter 118 vals) w := fun vals w => MuLone.run_callFunc_enter Try.func118 (by kernel_rfl) rfl vals w
theorem enter117 : ∀ vals w, (callFunc 117 vals).run Try.prog w = .ok (.enter 117 vals) w := fun vals w => MuLone.run_callFunc_enter Try.func117 (by kernel_rfl) rfl vals w
theorem enter115 : ∀ vals w, (callFunc 115 vals).run Try.prog w = .ok (.enter 115 vals) w := fun vals w => MuLone.run_callFunc_enter Try.func115 (by kernel_rfl) rfl vals w
theorem enter110 : ∀ vals w, (callFunc 110 vals).run Try.prog w = .ok (.enter 110 vals) w := fun vals w => MuLone.run_callFunc_enter Try.func110 (by kernel_rfl) rfl vals w
theorem enter95 : ∀ vals w, (callFunc 95 vals).run Try.prog w = .ok (.enter 95 vals) w := fun vals w => MuLone.run_callFunc_enter Try.func95 (by kernel_rfl) rfl vals w
theorem enter69 : ∀ vals w, (callFunc 69 vals).run Try.prog w = .ok (.enter 69 vals) w := fun vals w => MuLone.run_callFunc_enter Try.func69 (by kernel_rfl) rfl vals w
theorem tz64 : TZ Try.prog 64 [.int .i64 0, .int .i64 0] := tz_of (by kernel_rfl)
theorem enter100 : ∀ vals w, (callFunc 100 vals).run Try.prog w = .ok (.enter 100 vals) w := fun vals w => MuLone.run_callFunc_enter Try.func100 (by kernel_rfl) rfl vals w
theorem enter112 : ∀ vals w, (callFunc 112 vals).run Try.prog w = .ok (.enter 112 vals) w := fun vals w => MuLone.run_callFunc_enter Try.func112 (by kernel_rfl) rfl vals w
theorem enter116 : ∀ vals w, (callFunc 116 vals).run Try.prog w = .ok (.enter 116 vals) w := fun vals w => MuLone.run_callFunc_enter Try.func116 (by kernel_rfl) rfl vals w
theorem enter111 : ∀ vals w, (callFunc 111 vals).run Try.prog w = .ok (.enter 111 vals) w := fun vals w => MuLone.run_callFunc_enter Try.func111 (by kernel_rfl) rfl vals w
theorem enter99 : ∀ vals w, (callFunc 99 vals).run Try.prog w = .ok (.enter 99 vals) w := fun vals w => MuLone.run_callFunc_enter Try.func99 (by kernel_rfl) rfl vals w
theorem enter74 : ∀ vals w, (callFunc 74 vals).run Try.prog w = .ok (.enter 74 vals) w := fun vals w => MuLone.run_callFunc_enter Try.func74 (by kernel_rfl) rfl vals w
theorem tz62 : TZ Try.prog 62 [.int .i64 0, .slice none 0 0] := tz_of (by kernel_rfl)
theorem enter101 : ∀ vals w, (callFunc 101 vals).run Try.prog w = .ok (.enter 101 vals) w := fun vals w => MuLone.run_callFunc_enter Try.func101 (by kernel_rfl) rfl vals w
theorem enter75 : ∀ vals w, (callFunc 75 vals).run Try.prog w = .ok (.enter 75 vals) w := fun vals w => MuLone.run_callFunc_enter Try.func75 (by kernel_rfl) rfl vals w
theorem enter93 : ∀ vals w, (callFunc 93 vals).run Try.prog w = .ok (.enter 93 vals) w := fun vals w => MuLone.run_callFunc_enter Try.func93 (by kernel_rfl) rfl vals w
theorem enter109 : ∀ vals w, (callFunc 109 vals).run Try.prog w = .ok (.enter 109 vals) w := fun vals w => MuLone.run_callFunc_enter Try.func109 (by kernel_rfl) rfl vals w
theorem tz152 : TZ Try.prog 152 [.int .i64 0, .int .i64 0, .slice none 0 0, .slice none 0 0, .slice none 0 0, .int .i64 0, .int .i64 0, .int .i64 0, .int .i64 0, .int .i64 0, .int .i64 0, .int .i64 0, .int .i64 0, .int .i64 0, .int .i64 0, .int .i64 0, .int .i64 0, .int .i64 0, .int .i64 0, .int .i64 0, .int .i64 0, .int .i64 0, .int .i64 0, .int .i64 0, .int .i64 0, .int .i64 0, .int .i64 0, .int .i64 0, .int .i64 0, .int .i64 0, .int .i64 0, .int .i64 0, .int .i64 0, .int .i64 0, .int .i64 0, .int .i64 0, .int .i64 0, .int .i64 0, .int .i64 0, .int .i64 0, .int .i64 0, .int .i64 0, .int .i64 0, .int .i64 0, .int .i64 0, .int .i64 0, .int .i64 0, .int .i64 0, .int .i64 0, .int .i64 0, .int .i64 0, .int .i64 0, .int .i64 0] := tz_of (by kernel_rfl)
theorem enter102 : ∀ vals w, (callFunc 102 vals).run Try.prog w = .ok (.enter 102 vals) w := fun vals w => MuLone.run_callFunc_enter Try.func102 (by kernel_rfl) rfl vals w
theorem enter103 : ∀ vals w, (callFunc 103 vals).run Try.prog w = .ok (.enter 103 vals) w := fun vals w => MuLone.run_callFunc_enter Try.func103 (by kernel_rfl) rfl vals w
theorem enter76 : ∀ vals w, (callFunc 76 vals).run Try.prog w = .ok (.enter 76 vals) w := fun vals w => MuLone.run_callFunc_enter Try.func76 (by kernel_rfl) rfl vals w
theorem enter77 : ∀ vals w, (callFunc 77 vals).run Try.prog w = .ok (.enter 77 vals) w := fun vals w => MuLone.run_callFunc_enter Try.func77 (by kernel_rfl) rfl vals w
theorem enter78 : ∀ vals w, (callFunc 78 vals).run Try.prog w = .ok (.enter 78 vals) w := fun vals w => MuLone.run_callFunc_enter Try.func78 (by kernel_rfl) rfl vals w
theorem enter64 : ∀ vals w, (callFunc 64 vals).run Try.prog w = .ok (.enter 64 vals) w := fun vals w => MuLone.run_callFunc_enter Try.func64 (by kernel_rfl) rfl vals w
theorem enter36 : ∀ vals w, (callFunc 36 vals).run Try.prog w = .ok (.enter 36 vals) w := fun vals w => MuLone.run_callFunc_enter Try.func36 (by kernel_rfl) rfl vals w
theorem enter22 : ∀ vals w, (callFunc 22 vals).run Try.prog w = .ok (.enter 22 vals) w := fun vals w => MuLone.run_callFunc_enter Try.func22 (by kernel_rfl) rfl vals w
theorem tz96 : TZ Try.prog 96 [.int .i64 0, .int .i64 0] := tz_of (by kernel_rfl)
theorem enter47 : ∀ vals w, (callFunc 47 vals).run Try.prog w = .ok (.enter 47 vals) w := fun vals w => MuLone.run_callFunc_enter Try.func47 (by kernel_rfl) rfl vals w
theorem tz47 : TZ Try.prog 47 [.int .i64 0, .int .i64 0, .slice none 0 0] := tz_of (by kernel_rfl)
theorem enter65 : ∀ vals w, (callFunc 65 vals).run Try.prog w = .ok (.enter 65 vals) w := fun vals w => MuLone.run_callFunc_enter Try.func65 (by kernel_rfl) rfl vals w
theorem enter30 : ∀ vals w, (callFunc 30 vals).run Try.prog w = .ok (.enter 30 vals) w := fun vals w => MuLone.run_callFunc_enter Try.func30 (by kernel_rfl) rfl vals w
theorem enter66 : ∀ vals w, (callFunc 66 vals).run Try.prog w = .ok (.enter 66 vals) w := fun vals w => MuLone.run_callFunc_enter Try.func66 (by kernel_rfl) rfl vals w
theorem tz136 : TZ Try.prog 136 [.int .i64 0, .int .i64 0] := tz_of (by kernel_rfl)
theorem te136 : TE Try.prog 136 2 16 := te_of (by kernel_rfl) (by decide)
theorem enter27 : ∀ vals w, (callFunc 27 vals).run Try.prog w = .ok (.enter 27 vals) w := fun vals w => MuLone.run_callFunc_enter Try.func27 (by kernel_rfl) rfl vals w
theorem enter88 : ∀ vals w, (callFunc 88 vals).run Try.prog w = .ok (.enter 88 vals) w := fun vals w => MuLone.run_callFunc_enter Try.func88 (by kernel_rfl) rfl vals w
theorem enter89 : ∀ vals w, (callFunc 89 vals).run Try.prog w = .ok (.enter 89 vals) w := fun vals w => MuLone.run_callFunc_enter Try.func89 (by kernel_rfl) rfl vals w
theorem enter21 : ∀ vals w, (callFunc 21 vals).run Try.prog w = .ok (.enter 21 vals) w := fun vals w => MuLone.run_callFunc_enter Try.func21 (by kernel_rfl) rfl vals w
theorem enter56 : ∀ vals w, (callFunc 56 vals).run Try.prog w = .ok (.enter 56 vals) w := fun vals w => MuLone.run_callFunc_enter Try.func56 (by kernel_rfl) rfl vals w
theorem enter55 : ∀ vals w, (callFunc 55 vals).run Try.prog w = .ok (.enter 55 vals) w := fun vals w => MuLone.run_callFunc_enter Try.func55 (by kernel_rfl) rfl vals w
theorem enter57 : ∀ vals w, (callFunc 57 vals).run Try.prog w = .ok (.enter 57 vals) w := fun vals w => MuLone.run_callFunc_enter Try.func57 (by kernel_rfl) rfl vals w
theorem enter58 : ∀ vals w, (callFunc 58 vals).run Try.prog w = .ok (.enter 58 vals) w := fun vals w => MuLone.run_callFunc_enter Try.func58 (by kernel_rfl) rfl vals w
theorem enter59 : ∀ vals w, (callFunc 59 vals).run Try.prog w = .ok (.enter 59 vals) w := fun vals w => MuLone.run_callFunc_enter Try.func59 (by kernel_rfl) rfl vals w
theorem tz73 : TZ Try.prog 73 [.int .i64 0, .int .i64 0, .int .i64 0, .int .i64 0] := tz_of (by kernel_rfl)
theorem enter104 : ∀ vals w, (callFunc 104 vals).run Try.prog w = .ok (.enter 104 vals) w := fun vals w => MuLone.run_callFunc_enter Try.func104 (by kernel_rfl) rfl vals w
theorem enter83 : ∀ vals w, (callFunc 83 vals).run Try.prog w = .ok (.enter 83 vals) w := fun vals w => MuLone.run_callFunc_enter Try.func83 (by kernel_rfl) rfl vals w
theorem enter46 : ∀ vals w, (callFunc 46 vals).run Try.prog w = .ok (.enter 46 vals) w := fun vals w => MuLone.run_callFunc_enter Try.func46 (by kernel_rfl) rfl vals w
theorem enter81 : ∀ vals w, (callFunc 81 vals).run Try.prog w = .ok (.enter 81 vals) w := fun vals w => MuLone.run_callFunc_enter Try.func81 (by kernel_rfl) rfl vals w
theorem enter82 : ∀ vals w, (callFunc 82 vals).run Try.prog w = .ok (.enter 82 vals) w := fun vals w => MuLone.run_callFunc_enter Try.func82 (by kernel_rfl) rfl vals w
theorem enter42 : ∀ vals w, (callFunc 42 vals).run Try.prog w = .ok (.enter 42 vals) w := fun vals w => MuLone.run_callFunc_enter Try.func42 (by kernel_rfl) rfl vals w
theorem tz78 : TZ Try.prog 78 [.int .i64 0, .int .i64 0, .int .i64 0, .int .i64 0, .int .i64 0] := tz_of (by kernel_rfl)
theorem enter41 : ∀ vals w, (callFunc 41 vals).run Try.prog w = .ok (.enter 41 vals) w := fun vals w => MuLone.run_callFunc_enter Try.func41 (by kernel_rfl) rfl vals w
theorem enter43 : ∀ vals w, (callFunc 43 vals).run Try.prog w = .ok (.enter 43 vals) w := fun vals w => MuLone.run_callFunc_enter Try.func43 (by kernel_rfl) rfl vals w
theorem tz72 : TZ Try.prog 72 [.int .i64 0, .int .i64 0, .int .i64 0, .int .i64 0] := tz_of (by kernel_rfl)
theorem enter44 : ∀ vals w, (callFunc 44 vals).run Try.prog w = .ok (.enter 44 vals) w := fun vals w => MuLone.run_callFunc_enter Try.func44 (by kernel_rfl) rfl vals w
theorem tz83 : TZ Try.prog 83 [.int .i64 0, .int .i64 0, .int .i64 0, .int .i64 0, .int .i64 0] := tz_of (by kernel_rfl)
theorem enter45 : ∀ vals w, (callFunc 45 vals).run Try.prog w = .ok (.enter 45 vals) w := fun vals w => MuLone.run_callFunc_enter Try.func45 (by kernel_rfl) rfl vals w
theorem enter39 : ∀ vals w, (callFunc 39 vals).run Try.prog w = .ok (.enter 39 vals) w := fun vals w => MuLone.run_callFunc_enter Try.func39 (by kernel_rfl) rfl vals w
theorem te141 : TE Try.prog 141 4 32 := te_of (by kernel_rfl) (by decide)
theorem enter20 : ∀ vals w, (callFunc 20 vals).run Try.prog w = .ok (.enter 20 vals) w := fun vals w => MuLone.run_callFunc_enter Try.func20 (by kernel_rfl) rfl vals w
theorem enter23 : ∀ vals w, (callFunc 23 vals).run Try.prog w = .ok (.enter 23 vals) w := fun vals w => MuLone.run_callFunc_enter Try.func23 (by kernel_rfl) rfl vals w
theorem enter24 : ∀ vals w, (callFunc 24 vals).run Try.prog w = .ok (.enter 24 vals) w := fun vals w => MuLone.run_callFunc_enter Try.func24 (by kernel_rfl) rfl vals w
theorem enter25 : ∀ vals w, (callFunc 25 vals).run Try.prog w = .ok (.enter 25 vals) w := fun vals w => MuLone.run_callFunc_enter Try.func25 (by kernel_rfl) rfl vals w
theorem enter37 : ∀ vals w, (callFunc 37 vals).run Try.prog w = .ok (.enter 37 vals) w := fun vals w => MuLone.run_callFunc_enter Try.func37 (by kernel_rfl) rfl vals w
theorem enter26 : ∀ vals w, (callFunc 26 vals).run Try.prog w = .ok (.enter 26 vals) w := fun vals w => MuLone.run_callFunc_enter Try.func26 (by kernel_rfl) rfl vals w
theorem enter38 : ∀ vals w, (callFunc 38 vals).run Try.prog w = .ok (.enter 38 vals) w := fun vals w => MuLone.run_callFunc_enter Try.func38 (by kernel_rfl) rfl vals w
theorem enter73 : ∀ vals w, (callFunc 73 vals).run Try.prog w = .ok (.enter 73 vals) w := fun vals w => MuLone.run_callFunc_enter Try.func73 (by kernel_rfl) rfl vals w
theorem enter28 : ∀ vals w, (callFunc 28 vals).run Try.prog w = .ok (.enter 28 vals) w := fun vals w => MuLone.run_callFunc_enter Try.func28 (by kernel_rfl) rfl vals w
theorem tz147 : TZ Try.prog 147 [.int .i64 0, .slice none 0 0] := tz_of (by kernel_rfl)
theorem tz156 : TZ Try.prog 156 [.int .i64 0, .int .i64 0] := tz_of (by kernel_rfl)
theorem enter79 : ∀ vals w, (callFunc 79 vals).run Try.prog w = .ok (.enter 79 vals) w := fun vals w => MuLone.run_callFunc_enter Try.func79 (by kernel_rfl) rfl vals w
theorem te64 : TE Try.prog 64 2 16 := te_of (by kernel_rfl) (by decide)
theorem te62 : TE Try.prog 62 2 32 := te_of (by kernel_rfl) (by decide)
theorem enter92 : ∀ vals w, (callFunc 92 vals).run Try.prog w = .ok (.enter 92 vals) w := fun vals w => MuLone.run_callFunc_enter Try.func92 (by kernel_rfl) rfl vals w
theorem enter29 : ∀ vals w, (callFunc 29 vals).run Try.prog w = .ok (.enter 29 vals) w := fun vals w => MuLone.run_callFunc_enter Try.func29 (by kernel_rfl) rfl vals w
theorem enter31 : ∀ vals w, (callFunc 31 vals).run Try.prog w = .ok (.enter 31 vals) w := fun vals w => MuLone.run_callFunc_enter Try.func31 (by kernel_rfl) rfl vals w
theorem enter40 : ∀ vals w, (callFunc 40 vals).run Try.prog w = .ok (.enter 40 vals) w := fun vals w => MuLone.run_callFunc_enter Try.func40 (by kernel_rfl) rfl vals w
theorem enter61 : ∀ vals w, (callFunc 61 vals).run Try.prog w = .ok (.enter 61 vals) w := fun vals w => MuLone.run_callFunc_enter Try.func61 (by kernel_rfl) rfl vals w
theorem enter32 : ∀ vals w, (callFunc 32 vals).run Try.prog w = .ok (.enter 32 vals) w := fun vals w => MuLone.run_callFunc_enter Try.func32 (by kernel_rfl) rfl vals w
theorem enter62 : ∀ vals w, (callFunc 62 vals).run Try.prog w = .ok (.enter 62 vals) w := fun vals w => MuLone.run_callFunc_enter Try.func62 (by kernel_rfl) rfl vals w
theorem enter33 : ∀ vals w, (callFunc 33 vals).run Try.prog w = .ok (.enter 33 vals) w := fun vals w => MuLone.run_callFunc_enter Try.func33 (by kernel_rfl) rfl vals w
theorem enter63 : ∀ vals w, (callFunc 63 vals).run Try.prog w = .ok (.enter 63 vals) w := fun vals w => MuLone.run_callFunc_enter Try.func63 (by kernel_rfl) rfl vals w
theorem enter35 : ∀ vals w, (callFunc 35 vals).run Try.prog w = .ok (.enter 35 vals) w := fun vals w => MuLone.run_callFunc_enter Try.func35 (by kernel_rfl) rfl vals w
theorem enter34 : ∀ vals w, (callFunc 34 vals).run Try.prog w = .ok (.enter 34 vals) w := fun vals w => MuLone.run_callFunc_enter Try.func34 (by kernel_rfl) rfl vals w
theorem enter91 : ∀ vals w, (callFunc 91 vals).run Try.prog w = .ok (.enter 91 vals) w := fun vals w => MuLone.run_callFunc_enter Try.func91 (by kernel_rfl) rfl vals w
theorem enter60 : ∀ vals w, (callFunc 60 vals).run Try.prog w = .ok (.enter 60 vals) w := fun vals w => MuLone.run_callFunc_enter Try.func60 (by kernel_rfl) rfl vals w
theorem eqt93 : EqT Try.prog 10000 93 2 := eqT_struct (d := 9998) Try.underlying93 (by kernel_rfl) (.int _ (by decide) rfl Try.underlying3 (.int _ (by decide) rfl Try.underlying3 (.nil _)))
theorem eqt72 : EqT Try.prog 10000 72 4 := eqT_struct (d := 9998) Try.underlying72 (by kernel_rfl) (.int _ (by decide) rfl Try.underlying3 (.int _ (by decide) rfl Try.underlying3 (.int _ (by decide) rfl Try.underlying3 (.int _ (by decide) rfl Try.underlying3 (.nil _)))))
theorem eqt73 : EqT Try.prog 10000 73 4 := eqT_struct (d := 9998) Try.underlying73 (by kernel_rfl) (.int _ (by decide) rfl Try.underlying3 (.int _ (by decide) rfl Try.underlying3 (.int _ (by decide) rfl Try.underlying3 (.int _ (by decide) rfl Try.underlying3 (.nil _)))))
end Go.Proofs.Ytgdepcgbjjgnfaa
