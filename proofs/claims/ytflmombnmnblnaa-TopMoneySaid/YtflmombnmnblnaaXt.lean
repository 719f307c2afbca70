/-
  The types of the program as Lean types, and how they lie in cells; facts on the program's types. No conditions.
-/
import Derived.Test.YtflmombnmnblnaaEngY
import Derived.Test.YtflmombnmnblnaaEngN
import Derived.Conc.MuLone
namespace Go.Proofs.Ytflmombnmnblnaa
set_option maxRecDepth 100000
open Go.RowKit
def Qab (x : Int) : List AV := [K .i64 x]
theorem Qac : ∀ x, ∀ a ∈ Qab x, NLt 0 a := fun _ => Qk1 (.lit _) nl_nil
theorem one_i64 : ∀ x, (Qab x).all AV.one = true := fun _ => rfl
structure GBracket where
  Upto : Int
  Price : Int
  deriving DecidableEq
def Qad (x : GBracket) : List AV := Qab x.Upto ++ Qab x.Price
theorem Qai : ∀ x, ∀ a ∈ Qad x, NLt 0 a := fun _ => (nl_app (Qac _) (Qac _))
structure GPortion where
  n : Int
  left : Int
  deriving DecidableEq
def Qay (x : GPortion) : List AV := Qab x.n ++ Qab x.left
theorem Qaa : ∀ x, ∀ a ∈ Qay x, NLt 0 a := fun _ => (nl_app (Qac _) (Qac _))
def Qdr (x : (List Int)) : List AV := [.dat 1 (x.map Qab)]
theorem Qbp : ∀ x, ∀ a ∈ Qdr x, NLt 0 a := fun _ => Qk1 (nl_dat Qac _) nl_nil
def c_LLi64 (x : (List (List Int))) : List AV := [.dat 1 (x.map Qdr)]
structure GConcession where
  Holders : Int
  Shares : List (List Int)
  deriving DecidableEq
def Qfo (x : GConcession) : List AV := Qab x.Holders ++ c_LLi64 x.Shares
structure GNode where
  Parent : Int
  Loss : Int
  Limit : Int
  Rank : Int
  deriving DecidableEq
def Qbc (x : GNode) : List AV := Qab x.Parent ++ Qab x.Loss ++ Qab x.Limit ++ Qab x.Rank
theorem Qby : ∀ x, ∀ a ∈ Qbc x, NLt 0 a := fun _ => (nl_app (nl_app (nl_app (Qac _) (Qac _)) (Qac _)) (Qac _))
def Qe2 (x : Int) : List AV := [K .u32 x]
theorem Qeu : ∀ x, ∀ a ∈ Qe2 x, NLt 0 a := fun _ => Qk1 (.lit _) nl_nil
def c_LGBracket (x : (List GBracket)) : List AV := [.dat 2 (x.map Qad)]
def c_Lu32 (x : (List Int)) : List AV := [.dat 1 (x.map Qe2)]
theorem Qiu : TI Try.prog 149 true 2 := ⟨⟨_, Try.underlying149, rfl⟩, Qf4 (by kernel_rfl)⟩
theorem ti3 : TI Try.prog 3 false 1 := ⟨⟨_, Try.underlying3, rfl⟩, Qf4 (by kernel_rfl)⟩
theorem ti154 : TI Try.prog 154 true 2 := ⟨⟨_, Try.underlying154, rfl⟩, Qf4 (by kernel_rfl)⟩
theorem ti134 : TI Try.prog 134 false 1 := ⟨⟨_, Try.underlying134, rfl⟩, Qf4 (by kernel_rfl)⟩
theorem ti161 : TI Try.prog 161 true 2 := ⟨⟨_, Try.underlying161, rfl⟩, Qf4 (by kernel_rfl)⟩
theorem ti159 : TI Try.prog 159 false 1 := ⟨⟨_, Try.underlying159, rfl⟩, Qf4 (by kernel_rfl)⟩
theorem ti164 : TI Try.prog 164 false 1 := ⟨⟨_, Try.underlying164, rfl⟩, Qf4 (by kernel_rfl)⟩
theorem ti22 : TI Try.prog 22 false 1 := ⟨⟨_, Try.underlying22, rfl⟩, Qf4 (by kernel_rfl)⟩
theorem ti151 : TI Try.prog 151 false 1 := ⟨⟨_, Try.underlying151, rfl⟩, Qf4 (by kernel_rfl)⟩
theorem ti153 : TI Try.prog 153 true 2 := ⟨⟨_, Try.underlying153, rfl⟩, Qf4 (by kernel_rfl)⟩
theorem ti227 : TI Try.prog 227 false 1 := ⟨⟨_, Try.underlying227, rfl⟩, Qf4 (by kernel_rfl)⟩
theorem Qhl : TI Try.prog 127 true 4 := ⟨⟨_, Try.underlying127, rfl⟩, Qf4 (by kernel_rfl)⟩
theorem ti270 : TI Try.prog 270 false 1 := ⟨⟨_, Try.underlying270, rfl⟩, Qf4 (by kernel_rfl)⟩
theorem ti129 : TI Try.prog 129 false 1 := ⟨⟨_, Try.underlying129, rfl⟩, Qf4 (by kernel_rfl)⟩
theorem ti75 : TI Try.prog 75 false 1 := ⟨⟨_, Try.underlying75, rfl⟩, Qf4 (by kernel_rfl)⟩
theorem ts154 : TS Try.prog 154 [(0, 1), (1, 1)] := ⟨_, Try.underlying154, ⟨rfl, ⟨_, ti3⟩, rfl, ⟨_, ti3⟩, trivial⟩⟩
theorem ts153 : TS Try.prog 153 [(0, 1), (1, 1)] := ⟨_, Try.underlying153, ⟨rfl, ⟨_, ti3⟩, rfl, ⟨_, ti151⟩, trivial⟩⟩
theorem ts127 : TS Try.prog 127 [(0, 1), (1, 1), (2, 1), (3, 1)] := ⟨_, Try.underlying127, ⟨rfl, ⟨_, ti3⟩, rfl, ⟨_, ti3⟩, rfl, ⟨_, ti3⟩, rfl, ⟨_, ti3⟩, trivial⟩⟩
theorem tz154 : TZ Try.prog 154 [.int .i64 0, .int .i64 0] := tz_of (by kernel_rfl)
theorem te154 : TE Try.prog 154 2 16 := te_of (by kernel_rfl) (by decide)
theorem Qjj : ∀ vals w, (callFunc 9 vals).run Try.prog w = .ok (.enter 9 vals) w := fun vals w => MuLone.run_callFunc_enter Try.func9 (by kernel_rfl) rfl vals w
theorem Qdc : ∀ vals w, (callFunc 64 vals).run Try.prog w = .ok (.enter 64 vals) w := fun vals w => MuLone.run_callFunc_enter Try.func64 (by kernel_rfl) rfl vals w
theorem enter63 : ∀ vals w, (callFunc 63 vals).run Try.prog w = .ok (.enter 63 vals) w := fun vals w => MuLone.run_callFunc_enter Try.func63 (by kernel_rfl) rfl vals w
theorem enter65 : ∀ vals w, (callFunc 65 vals).run Try.prog w = .ok (.enter 65 vals) w := fun vals w => MuLone.run_callFunc_enter Try.func65 (by kernel_rfl) rfl vals w
theorem Qge : ∀ vals w, (callFunc 67 vals).run Try.prog w = .ok (.enter 67 vals) w := fun vals w => MuLone.run_callFunc_enter Try.func67 (by kernel_rfl) rfl vals w
theorem enter66 : ∀ vals w, (callFunc 66 vals).run Try.prog w = .ok (.enter 66 vals) w := fun vals w => MuLone.run_callFunc_enter Try.func66 (by kernel_rfl) rfl vals w
theorem enter118 : ∀ vals w, (callFunc 118 vals).run Try.prog w = .ok (.enter 118 vals) w := fun vals w => MuLone.run_callFunc_enter Try.func118 (by kernel_rfl) rfl vals w
theorem enter48 : ∀ vals w, (callFunc 48 vals).run Try.prog w = .ok (.enter 48 vals) w := fun vals w => MuLone.run_callFunc_enter Try.func48 (by kernel_rfl) rfl vals w
theorem Qlc : ∀ vals w, (callFunc 117 vals).run Try.prog w = .ok (.enter 117 vals) w := fun vals w => MuLone.run_callFunc_enter Try.func117 (by kernel_rfl) rfl vals w
theorem Qjl : ∀ vals w, (callFunc 68 vals).run Try.prog w = .ok (.enter 68 vals) w := fun vals w => MuLone.run_callFunc_enter Try.func68 (by kernel_rfl) rfl vals w
theorem Qk9 : ∀ vals w, (callFunc 69 vals).run Try.prog w = .ok (.enter 69 vals) w := fun vals w => MuLone.run_callFunc_enter Try.func69 (by kernel_rfl) rfl vals w
theorem tz161 : TZ Try.prog 161 [.int .i64 0, .int .i64 0] := tz_of (by kernel_rfl)
theorem enter70 : ∀ vals w, (callFunc 70 vals).run Try.prog w = .ok (.enter 70 vals) w := fun vals w => MuLone.run_callFunc_enter Try.func70 (by kernel_rfl) rfl vals w
theorem te161 : TE Try.prog 161 2 16 := te_of (by kernel_rfl) (by decide)
theorem te3 : TE Try.prog 3 1 8 := te_of (by kernel_rfl) (by decide)
theorem tz3 : TZ Try.prog 3 [.int .i64 0] := tz_of (by kernel_rfl)
theorem enter72 : ∀ vals w, (callFunc 72 vals).run Try.prog w = .ok (.enter 72 vals) w := fun vals w => MuLone.run_callFunc_enter Try.func72 (by kernel_rfl) rfl vals w
theorem Qiy : ∀ vals w, (callFunc 120 vals).run Try.prog w = .ok (.enter 120 vals) w := fun vals w => MuLone.run_callFunc_enter Try.func120 (by kernel_rfl) rfl vals w
theorem enter215 : ∀ vals w, (callFunc 215 vals).run Try.prog w = .ok (.enter 215 vals) w := fun vals w => MuLone.run_callFunc_enter Try.func215 (by kernel_rfl) rfl vals w
theorem Qla : ∀ vals w, (callFunc 242 vals).run Try.prog w = .ok (.enter 242 vals) w := fun vals w => MuLone.run_callFunc_enter Try.func242 (by kernel_rfl) rfl vals w
theorem enter234 : ∀ vals w, (callFunc 234 vals).run Try.prog w = .ok (.enter 234 vals) w := fun vals w => MuLone.run_callFunc_enter Try.func234 (by kernel_rfl) rfl vals w
theorem Qix : ∀ vals w, (callFunc 216 vals).run Try.prog w = .ok (.enter 216 vals) w := fun vals w => MuLone.run_callFunc_enter Try.func216 (by kernel_rfl) rfl vals w
theorem enter175 : ∀ vals w, (callFunc 175 vals).run Try.prog w = .ok (.enter 175 vals) w := fun vals w => MuLone.run_callFunc_enter Try.func175 (by kernel_rfl) rfl vals w
theorem enter119 : ∀ vals w, (callFunc 119 vals).run Try.prog w = .ok (.enter 119 vals) w := fun vals w => MuLone.run_callFunc_enter Try.func119 (by kernel_rfl) rfl vals w
theorem enter71 : ∀ vals w, (callFunc 71 vals).run Try.prog w = .ok (.enter 71 vals) w := fun vals w => MuLone.run_callFunc_enter Try.func71 (by kernel_rfl) rfl vals w
theorem tz22 : TZ Try.prog 22 [.slice none 0 0] := tz_of (by kernel_rfl)
theorem tz153 : TZ Try.prog 153 [.int .i64 0, .slice none 0 0] := tz_of (by kernel_rfl)
theorem enter174 : ∀ vals w, (callFunc 174 vals).run Try.prog w = .ok (.enter 174 vals) w := fun vals w => MuLone.run_callFunc_enter Try.func174 (by kernel_rfl) rfl vals w
theorem enter173 : ∀ vals w, (callFunc 173 vals).run Try.prog w = .ok (.enter 173 vals) w := fun vals w => MuLone.run_callFunc_enter Try.func173 (by kernel_rfl) rfl vals w
theorem enter214 : ∀ vals w, (callFunc 214 vals).run Try.prog w = .ok (.enter 214 vals) w := fun vals w => MuLone.run_callFunc_enter Try.func214 (by kernel_rfl) rfl vals w
theorem enter233 : ∀ vals w, (callFunc 233 vals).run Try.prog w = .ok (.enter 233 vals) w := fun vals w => MuLone.run_callFunc_enter Try.func233 (by kernel_rfl) rfl vals w
theorem enter213 : ∀ vals w, (callFunc 213 vals).run Try.prog w = .ok (.enter 213 vals) w := fun vals w => MuLone.run_callFunc_enter Try.func213 (by kernel_rfl) rfl vals w
theorem enter172 : ∀ vals w, (callFunc 172 vals).run Try.prog w = .ok (.enter 172 vals) w := fun vals w => MuLone.run_callFunc_enter Try.func172 (by kernel_rfl) rfl vals w
theorem enter114 : ∀ vals w, (callFunc 114 vals).run Try.prog w = .ok (.enter 114 vals) w := fun vals w => MuLone.run_callFunc_enter Try.func114 (by kernel_rfl) rfl vals w
theorem enter115 : ∀ vals w, (callFunc 115 vals).run Try.prog w = .ok (.enter 115 vals) w := fun vals w => MuLone.run_callFunc_enter Try.func115 (by kernel_rfl) rfl vals w
theorem enter116 : ∀ vals w, (callFunc 116 vals).run Try.prog w = .ok (.enter 116 vals) w := fun vals w => MuLone.run_callFunc_enter Try.func116 (by kernel_rfl) rfl vals w
theorem enter62 : ∀ vals w, (callFunc 62 vals).run Try.prog w = .ok (.enter 62 vals) w := fun vals w => MuLone.run_callFunc_enter Try.func62 (by kernel_rfl) rfl vals w
theorem tz127 : TZ Try.prog 127 [.int .i64 0, .int .i64 0, .int .i64 0, .int .i64 0] := tz_of (by kernel_rfl)
theorem Qf6 : ∀ vals w, (callFunc 97 vals).run Try.prog w = .ok (.enter 97 vals) w := fun vals w => MuLone.run_callFunc_enter Try.func97 (by kernel_rfl) rfl vals w
theorem enter156 : ∀ vals w, (callFunc 156 vals).run Try.prog w = .ok (.enter 156 vals) w := fun vals w => MuLone.run_callFunc_enter Try.func156 (by kernel_rfl) rfl vals w
theorem enter207 : ∀ vals w, (callFunc 207 vals).run Try.prog w = .ok (.enter 207 vals) w := fun vals w => MuLone.run_callFunc_enter Try.func207 (by kernel_rfl) rfl vals w
theorem enter157 : ∀ vals w, (callFunc 157 vals).run Try.prog w = .ok (.enter 157 vals) w := fun vals w => MuLone.run_callFunc_enter Try.func157 (by kernel_rfl) rfl vals w
theorem enter94 : ∀ vals w, (callFunc 94 vals).run Try.prog w = .ok (.enter 94 vals) w := fun vals w => MuLone.run_callFunc_enter Try.func94 (by kernel_rfl) rfl vals w
theorem enter158 : ∀ vals w, (callFunc 158 vals).run Try.prog w = .ok (.enter 158 vals) w := fun vals w => MuLone.run_callFunc_enter Try.func158 (by kernel_rfl) rfl vals w
theorem tz270 : TZ Try.prog 270 [.nilFunc] := tz_of (by kernel_rfl)
theorem enter160 : ∀ vals w, (callFunc 160 vals).run Try.prog w = .ok (.enter 160 vals) w := fun vals w => MuLone.run_callFunc_enter Try.func160 (by kernel_rfl) rfl vals w
theorem enter159 : ∀ vals w, (callFunc 159 vals).run Try.prog w = .ok (.enter 159 vals) w := fun vals w => MuLone.run_callFunc_enter Try.func159 (by kernel_rfl) rfl vals w
theorem enter208 : ∀ vals w, (callFunc 208 vals).run Try.prog w = .ok (.enter 208 vals) w := fun vals w => MuLone.run_callFunc_enter Try.func208 (by kernel_rfl) rfl vals w
theorem enter95 : ∀ vals w, (callFunc 95 vals).run Try.prog w = .ok (.enter 95 vals) w := fun vals w => MuLone.run_callFunc_enter Try.func95 (by kernel_rfl) rfl vals w
theorem enter96 : ∀ vals w, (callFunc 96 vals).run Try.prog w = .ok (.enter 96 vals) w := fun vals w => MuLone.run_callFunc_enter Try.func96 (by kernel_rfl) rfl vals w
theorem enter43 : ∀ vals w, (callFunc 43 vals).run Try.prog w = .ok (.enter 43 vals) w := fun vals w => MuLone.run_callFunc_enter Try.func43 (by kernel_rfl) rfl vals w
theorem Qey : ∀ vals w, (callFunc 20 vals).run Try.prog w = .ok (.enter 20 vals) w := fun vals w => MuLone.run_callFunc_enter Try.func20 (by kernel_rfl) rfl vals w
theorem Qjk : ∀ vals w, (callFunc 8 vals).run Try.prog w = .ok (.enter 8 vals) w := fun vals w => MuLone.run_callFunc_enter Try.func8 (by kernel_rfl) rfl vals w
theorem Qlb : ∀ vals w, (callFunc 19 vals).run Try.prog w = .ok (.enter 19 vals) w := fun vals w => MuLone.run_callFunc_enter Try.func19 (by kernel_rfl) rfl vals w
theorem enter21 : ∀ vals w, (callFunc 21 vals).run Try.prog w = .ok (.enter 21 vals) w := fun vals w => MuLone.run_callFunc_enter Try.func21 (by kernel_rfl) rfl vals w
theorem enter22 : ∀ vals w, (callFunc 22 vals).run Try.prog w = .ok (.enter 22 vals) w := fun vals w => MuLone.run_callFunc_enter Try.func22 (by kernel_rfl) rfl vals w
theorem enter23 : ∀ vals w, (callFunc 23 vals).run Try.prog w = .ok (.enter 23 vals) w := fun vals w => MuLone.run_callFunc_enter Try.func23 (by kernel_rfl) rfl vals w
theorem enter24 : ∀ vals w, (callFunc 24 vals).run Try.prog w = .ok (.enter 24 vals) w := fun vals w => MuLone.run_callFunc_enter Try.func24 (by kernel_rfl) rfl vals w
def tyT : Tab := .node 151 ⟨false, 1, none, []⟩ (.node 127 ⟨true, 4, (some [.int .i64 0, .int .i64 0, .int .i64 0, .int .i64 0]), [(0, false, 1), (1, false, 1), (2, false, 1), (3, false, 1)]⟩ (.node 22 ⟨false, 1, (some [.slice none 0 0]), []⟩ (.node 3 ⟨false, 1, (some [.int .i64 0]), []⟩ .nil .nil) (.node 75 ⟨false, 1, none, []⟩ .nil .nil)) (.node 134 ⟨false, 1, none, []⟩ (.node 129 ⟨false, 1, none, []⟩ .nil .nil) (.node 149 ⟨true, 2, none, [(0, false, 1), (1, false, 1)]⟩ .nil .nil))) (.node 161 ⟨true, 2, (some [.int .i64 0, .int .i64 0]), [(0, false, 1), (1, false, 1)]⟩ (.node 154 ⟨true, 2, (some [.int .i64 0, .int .i64 0]), [(0, false, 1), (1, false, 1)]⟩ (.node 153 ⟨true, 2, (some [.int .i64 0, .slice none 0 0]), [(0, false, 1), (1, false, 1)]⟩ .nil .nil) (.node 159 ⟨false, 1, none, []⟩ .nil .nil)) (.node 227 ⟨false, 1, none, []⟩ (.node 164 ⟨false, 1, none, []⟩ .nil .nil) (.node 270 ⟨false, 1, (some [.nilFunc]), []⟩ .nil .nil)))
theorem tbk : tyT.ok Try.prog := ⟨⟨ti151, trivial, .inl rfl⟩, ⟨⟨Qhl, tz127, .inr ⟨_, Try.underlying127, rfl, ti3, rfl, ti3, rfl, ti3, rfl, ti3, trivial⟩⟩, ⟨⟨ti22, tz22, .inl rfl⟩, ⟨⟨ti3, tz3, .inl rfl⟩, trivial, trivial⟩, ⟨⟨ti75, trivial, .inl rfl⟩, trivial, trivial⟩⟩, ⟨⟨ti134, trivial, .inl rfl⟩, ⟨⟨ti129, trivial, .inl rfl⟩, trivial, trivial⟩, ⟨⟨Qiu, trivial, .inr ⟨_, Try.underlying149, rfl, ti3, rfl, ti3, trivial⟩⟩, trivial, trivial⟩⟩⟩, ⟨⟨ti161, tz161, .inr ⟨_, Try.underlying161, rfl, ti3, rfl, ti3, trivial⟩⟩, ⟨⟨ti154, tz154, .inr ⟨_, Try.underlying154, rfl, ti3, rfl, ti3, trivial⟩⟩, ⟨⟨ti153, tz153, .inr ⟨_, Try.underlying153, rfl, ti3, rfl, ti151, trivial⟩⟩, trivial, trivial⟩, ⟨⟨ti159, trivial, .inl rfl⟩, trivial, trivial⟩⟩, ⟨⟨ti227, trivial, .inl rfl⟩, ⟨⟨ti164, trivial, .inl rfl⟩, trivial, trivial⟩, ⟨⟨ti270, tz270, .inl rfl⟩, trivial, trivial⟩⟩⟩⟩
end Go.Proofs.Ytflmombnmnblnaa
