/-
  The types of the program as Lean types, and how they lie in cells; facts on the program's types. No conditions.
-/
import Derived.Test.YtmbhnllcfmiajaaGreatEngY
import Derived.Test.YtmbhnllcfmiajaaGreatEngC
import Derived.Test.YtmbhnllcfmiajaaGreatEngA
import Derived.Test.YtmbhnllcfmiajaaGreatEngN
import Derived.Conc.MuLone
namespace Go.Proofs.YtmbhnllcfmiajaaGreat
set_option maxRecDepth 100000
open Go.RowKit
def Qa8 (g:FuncId):Prop:=∀ vals w,(callFunc g vals).run Tryz.prog w=.ok (.enter g vals) w
theorem entr {g : FuncId} {fn : Func} {c : Code} (h : Tryz.prog.funcs[g]? = some fn) (h1 : (fn.name == "runtime.NumGoroutine") = false := by kernel_rfl) (h2 : fn.body = some c := by rfl) : Qa8 g := fun vals w => MuLone.run_callFunc_enter h h1 h2 vals w
def Qak (x:Int):List AV:=[K .i64 x]
theorem Qaf:∀ x,∀ a ∈ Qak x,NLt 0 a:=fun _=>Qlz (.lit _) Qtn
theorem Qpb:∀ x,(Qak x).all AV.one=true:=fun _=>rfl
structure GRow where
  T:Int
  P:Int
  Liquid:Int
  Vapour:Int
  Silica:Int
  deriving DecidableEq
def Qa1 (x:GRow):List AV:=Qak x.T++Qak x.P++Qak x.Liquid++Qak x.Vapour++Qak x.Silica
theorem Qai:∀ x,∀ a ∈ Qa1 x,NLt 0 a:=fun _=>(Qi2 (Qi2 (Qi2 (Qi2 (Qaf _) (Qaf _)) (Qaf _)) (Qaf _)) (Qaf _))
def c_u8 (x:Int):List AV:=[K .u8 x]
theorem Zns:∀ x,∀ a ∈ c_u8 x,NLt 0 a:=fun _=>Qlz (.lit _) Qtn
structure GPort where
  Element:Int
  Outlet:Int
  deriving DecidableEq
def Qar (x:GPort):List AV:=Qak x.Element++Qak x.Outlet
theorem Qav:∀ x,∀ a ∈ Qar x,NLt 0 a:=fun _=>(Qi2 (Qaf _) (Qaf _))
theorem Qxh:∀ x,(Qar x).all AV.one=true:=fun _=>(Ziy (Qpb _) (Qpb _))
def Qvw (x:(List GPort)):List AV:=[.dat 2 (x.map Qar)]
theorem Q8z:∀ x,∀ a ∈ Qvw x,NLt 0 a:=fun _=>Qlz (Qto Qav _) Qtn
def Q95 (x:(List Int)):List AV:=[.dat 1 (x.map Qak)]
theorem Zi0:∀ x,∀ a ∈ Q95 x,NLt 0 a:=fun _=>Qlz (Qto Qaf _) Qtn
structure GElement where
  Kind:Int
  From:List GPort
  Level:Int
  Amount:Int
  Wide:Int
  Narrow:Int
  Weights:List Int
  deriving DecidableEq
def Qab (x:GElement):List AV:=c_u8 x.Kind++Qvw x.From++Qak x.Level++Qak x.Amount++Qak x.Wide++Qak x.Narrow++Q95 x.Weights
theorem Qaa:∀ x,∀ a ∈ Qab x,NLt 0 a:=fun _=>(Qi2 (Qi2 (Qi2 (Qi2 (Qi2 (Qi2 (Zns _) (Q8z _)) (Qaf _)) (Qaf _)) (Qaf _)) (Qaf _)) (Zi0 _))
def Q96 (x:(List GRow)):List AV:=[.dat 5 (x.map Qa1)]
def Qsa (x:(List GElement)):List AV:=[.dat 7 (x.map Qab)]
structure GNet where
  Table:List GRow
  Elements:List GElement
  deriving DecidableEq
def Qh9 (x:GNet):List AV:=Q96 x.Table++Qsa x.Elements
structure GStream where
  Mass:Int
  Heat:Int
  Silica:Int
  Gas:Int
  deriving DecidableEq
def Qac (x:GStream):List AV:=Qak x.Mass++Qak x.Heat++Qak x.Silica++Qak x.Gas
theorem Qad:∀ x,∀ a ∈ Qac x,NLt 0 a:=fun _=>(Qi2 (Qi2 (Qi2 (Qaf _) (Qaf _)) (Qaf _)) (Qaf _))
structure GLoss where
  Heat:Int
  Silica:Int
  Gas:Int
  deriving DecidableEq
def Zkb (x:GLoss):List AV:=Qak x.Heat++Qak x.Silica++Qak x.Gas
def Qam (x:(List GStream)):List AV:=[.dat 4 (x.map Qac)]
theorem Qal:∀ x,∀ a ∈ Qam x,NLt 0 a:=fun _=>Qlz (Qto Qad _) Qtn
structure GLost where
  Heat:Int
  Silica:Int
  Gas:Int
  Scale:Int
  deriving DecidableEq
def Qa7 (x:GLost):List AV:=Qak x.Heat++Qak x.Silica++Qak x.Gas++Qak x.Scale
theorem Qaw:∀ x,∀ a ∈ Qa7 x,NLt 0 a:=fun _=>(Qi2 (Qi2 (Qi2 (Qaf _) (Qaf _)) (Qaf _)) (Qaf _))
structure GFlash where
  Row:GRow
  deriving DecidableEq
def Qvx (x:GFlash):List AV:=Qa1 x.Row
structure GParts where
  Steam:GStream
  Water:GStream
  Rest:Int
  Scale:Int
  deriving DecidableEq
def Q23 (x:GParts):List AV:=Qac x.Steam++Qac x.Water++Qak x.Rest++Qak x.Scale
structure GTick where
  Out:List (List GStream)
  Lost:List GLost
  State:List Int
  deriving DecidableEq
structure GFall where
  Element:Int
  Scale:Int
  deriving DecidableEq
theorem Qvk:∀ x,∀ a ∈ Qak x,∃ v,a=.lit v:=fun _=>Zco Zjc
theorem Qz0:∀ x,∀ a ∈ Qac x,∃ v,a=.lit v:=fun _=>(Qzz (Qzz (Qzz (Qvk _) (Qvk _)) (Qvk _)) (Qvk _))
theorem Qsx:TI Tryz.prog 160 true 5:=⟨⟨_,Tryz.underlying160,rfl⟩,Qc7 (by kernel_rfl)⟩
theorem Zm5:TI Tryz.prog 219 false 1:=⟨⟨_,Tryz.underlying219,rfl⟩,Qc7 (by kernel_rfl)⟩
theorem ti3:TI Tryz.prog 3 false 1:=⟨⟨_,Tryz.underlying3,rfl⟩,Qc7 (by kernel_rfl)⟩
theorem ti39:TI Tryz.prog 39 false 1:=⟨⟨_,Tryz.underlying39,rfl⟩,Qc7 (by kernel_rfl)⟩
theorem ti40:TI Tryz.prog 40 false 1:=⟨⟨_,Tryz.underlying40,rfl⟩,Qc7 (by kernel_rfl)⟩
theorem Qju:TI Tryz.prog 133 true 7:=⟨⟨_,Tryz.underlying133,rfl⟩,Qc7 (by kernel_rfl)⟩
theorem Zm9:TI Tryz.prog 189 false 1:=⟨⟨_,Tryz.underlying189,rfl⟩,Qc7 (by kernel_rfl)⟩
theorem ti5:TI Tryz.prog 5 false 1:=⟨⟨_,Tryz.underlying5,rfl⟩,Qc7 (by kernel_rfl)⟩
theorem Zih:TI Tryz.prog 116 false 1:=⟨⟨_,Tryz.underlying116,rfl⟩,Qc7 (by kernel_rfl)⟩
theorem ti27:TI Tryz.prog 27 false 1:=⟨⟨_,Tryz.underlying27,rfl⟩,Qc7 (by kernel_rfl)⟩
theorem Zm8:TI Tryz.prog 197 false 1:=⟨⟨_,Tryz.underlying197,rfl⟩,Qc7 (by kernel_rfl)⟩
theorem Qo1:TI Tryz.prog 120 true 2:=⟨⟨_,Tryz.underlying120,rfl⟩,Qc7 (by kernel_rfl)⟩
theorem ti42:TI Tryz.prog 42 true 2:=⟨⟨_,Tryz.underlying42,rfl⟩,Qc7 (by kernel_rfl)⟩
theorem Zig:TI Tryz.prog 190 false 1:=⟨⟨_,Tryz.underlying190,rfl⟩,Qc7 (by kernel_rfl)⟩
theorem ti63:TI Tryz.prog 63 true 4:=⟨⟨_,Tryz.underlying63,rfl⟩,Qc7 (by kernel_rfl)⟩
theorem Zm7:TI Tryz.prog 202 false 1:=⟨⟨_,Tryz.underlying202,rfl⟩,Qc7 (by kernel_rfl)⟩
theorem Q37:TI Tryz.prog 227 true 3:=⟨⟨_,Tryz.underlying227,rfl⟩,Qc7 (by kernel_rfl)⟩
theorem Znb:TI Tryz.prog 162 false 1:=⟨⟨_,Tryz.underlying162,rfl⟩,Qc7 (by kernel_rfl)⟩
theorem Qsw:TI Tryz.prog 234 false 1:=⟨⟨_,Tryz.underlying234,rfl⟩,Qc7 (by kernel_rfl)⟩
theorem Zlt:TI Tryz.prog 235 true 4:=⟨⟨_,Tryz.underlying235,rfl⟩,Qc7 (by kernel_rfl)⟩
theorem ti31:TI Tryz.prog 31 false 1:=⟨⟨_,Tryz.underlying31,rfl⟩,Qc7 (by kernel_rfl)⟩
theorem ti32:TI Tryz.prog 32 false 1:=⟨⟨_,Tryz.underlying32,rfl⟩,Qc7 (by kernel_rfl)⟩
theorem ti34:TI Tryz.prog 34 true 3:=⟨⟨_,Tryz.underlying34,rfl⟩,Qc7 (by kernel_rfl)⟩
theorem ti45:TI Tryz.prog 45 false 1:=⟨⟨_,Tryz.underlying45,rfl⟩,Qc7 (by kernel_rfl)⟩
theorem Qsy:TI Tryz.prog 136 false 1:=⟨⟨_,Tryz.underlying136,rfl⟩,Qc7 (by kernel_rfl)⟩
theorem Qnt:TI Tryz.prog 207 false 1:=⟨⟨_,Tryz.underlying207,rfl⟩,Qc7 (by kernel_rfl)⟩
theorem Zm6:TI Tryz.prog 209 true 7:=⟨⟨_,Tryz.underlying209,rfl⟩,Qc7 (by kernel_rfl)⟩
theorem ti82:TI Tryz.prog 82 true 4:=⟨⟨_,Tryz.underlying82,rfl⟩,Qc7 (by kernel_rfl)⟩
theorem Qzg:TI Tryz.prog 214 true 10:=⟨⟨_,Tryz.underlying214,rfl⟩,Qc7 (by kernel_rfl)⟩
theorem Zlu:TI Tryz.prog 224 true 5:=⟨⟨_,Tryz.underlying224,rfl⟩,Qc7 (by kernel_rfl)⟩
theorem Zna:TI Tryz.prog 182 true 1:=⟨⟨_,Tryz.underlying182,rfl⟩,Qc7 (by kernel_rfl)⟩
theorem Qq3:TI Tryz.prog 149 true 5:=⟨⟨_,Tryz.underlying149,rfl⟩,Qc7 (by kernel_rfl)⟩
theorem ti23:TI Tryz.prog 23 false 1:=⟨⟨_,Tryz.underlying23,rfl⟩,Qc7 (by kernel_rfl)⟩
theorem ti24:TI Tryz.prog 24 false 1:=⟨⟨_,Tryz.underlying24,rfl⟩,Qc7 (by kernel_rfl)⟩
theorem ti59:TI Tryz.prog 59 true 7:=⟨⟨_,Tryz.underlying59,rfl⟩,Qc7 (by kernel_rfl)⟩
theorem ti57:TI Tryz.prog 57 false 1:=⟨⟨_,Tryz.underlying57,rfl⟩,Qc7 (by kernel_rfl)⟩
theorem ti61:TI Tryz.prog 61 true 2:=⟨⟨_,Tryz.underlying61,rfl⟩,Qc7 (by kernel_rfl)⟩
theorem ti89:TI Tryz.prog 89 true 4:=⟨⟨_,Tryz.underlying89,rfl⟩,Qc7 (by kernel_rfl)⟩
theorem Znd:TI Tryz.prog 146 true 10:=⟨⟨_,Tryz.underlying146,rfl⟩,Qc7 (by kernel_rfl)⟩
theorem ti4:TI Tryz.prog 4 false 1:=⟨⟨_,Tryz.underlying4,rfl⟩,Qc7 (by kernel_rfl)⟩
theorem Znc:TI Tryz.prog 151 true 3:=⟨⟨_,Tryz.underlying151,rfl⟩,Qc7 (by kernel_rfl)⟩
theorem ti26:TI Tryz.prog 26 true 2:=⟨⟨_,Tryz.underlying26,rfl⟩,Qc7 (by kernel_rfl)⟩
theorem ti49:TI Tryz.prog 49 false 1:=⟨⟨_,Tryz.underlying49,rfl⟩,Qc7 (by kernel_rfl)⟩
theorem ti28:TI Tryz.prog 28 false 1:=⟨⟨_,Tryz.underlying28,rfl⟩,Qc7 (by kernel_rfl)⟩
theorem ti50:TI Tryz.prog 50 false 1:=⟨⟨_,Tryz.underlying50,rfl⟩,Qc7 (by kernel_rfl)⟩
theorem ti52:TI Tryz.prog 52 true 3:=⟨⟨_,Tryz.underlying52,rfl⟩,Qc7 (by kernel_rfl)⟩
theorem ti90:TI Tryz.prog 90 true 4:=⟨⟨_,Tryz.underlying90,rfl⟩,Qc7 (by kernel_rfl)⟩
theorem ti92:TI Tryz.prog 92 true 2:=⟨⟨_,Tryz.underlying92,rfl⟩,Qc7 (by kernel_rfl)⟩
theorem Zne:TI Tryz.prog 140 true 7:=⟨⟨_,Tryz.underlying140,rfl⟩,Qc7 (by kernel_rfl)⟩
theorem Q72:TS Tryz.prog 120 [(0,1),(1,1)]:=⟨_,Tryz.underlying120,⟨rfl,⟨_,ti3⟩,rfl,⟨_,ti3⟩,trivial⟩⟩
theorem ts63:TS Tryz.prog 63 [(0,1),(1,1),(2,1),(3,1)]:=⟨_,Tryz.underlying63,⟨rfl,⟨_,ti3⟩,rfl,⟨_,ti3⟩,rfl,⟨_,ti3⟩,rfl,⟨_,ti3⟩,trivial⟩⟩
theorem Q71:TS Tryz.prog 227 [(0,1),(1,1),(2,1)]:=⟨_,Tryz.underlying227,⟨rfl,⟨_,ti3⟩,rfl,⟨_,ti3⟩,rfl,⟨_,ti3⟩,trivial⟩⟩
theorem ts34:TS Tryz.prog 34 [(0,1),(1,1),(2,1)]:=⟨_,Tryz.underlying34,⟨rfl,⟨_,ti31⟩,rfl,⟨_,ti32⟩,rfl,⟨_,ti27⟩,trivial⟩⟩
theorem Zm4:TS Tryz.prog 140 [(0,2),(2,3),(5,1),(6,1)]:=⟨_,Tryz.underlying140,⟨rfl,⟨_,ti42⟩,rfl,⟨_,ti34⟩,rfl,⟨_,ti45⟩,rfl,⟨_,ti3⟩,trivial⟩⟩
theorem Zm3:TS Tryz.prog 182 [(0,1)]:=⟨_,Tryz.underlying182,⟨rfl,⟨_,ti3⟩,trivial⟩⟩
theorem Zif:TS Tryz.prog 214 [(0,4),(4,4),(8,1),(9,1)]:=⟨_,Tryz.underlying214,⟨rfl,⟨_,ti63⟩,rfl,⟨_,ti63⟩,rfl,⟨_,ti3⟩,rfl,⟨_,ti3⟩,trivial⟩⟩
theorem Zm2:TS Tryz.prog 224 [(0,5)]:=⟨_,Tryz.underlying224,⟨rfl,⟨_,Qsx⟩,trivial⟩⟩
theorem Zbw:TS Tryz.prog 160 [(0,1),(1,1),(2,1),(3,1),(4,1)]:=⟨_,Tryz.underlying160,⟨rfl,⟨_,ti3⟩,rfl,⟨_,ti3⟩,rfl,⟨_,ti3⟩,rfl,⟨_,ti3⟩,rfl,⟨_,ti3⟩,trivial⟩⟩
theorem Zbx:TS Tryz.prog 133 [(0,1),(1,1),(2,1),(3,1),(4,1),(5,1),(6,1)]:=⟨_,Tryz.underlying133,⟨rfl,⟨_,ti5⟩,rfl,⟨_,Zih⟩,rfl,⟨_,ti3⟩,rfl,⟨_,ti3⟩,rfl,⟨_,ti3⟩,rfl,⟨_,ti3⟩,rfl,⟨_,ti27⟩,trivial⟩⟩
theorem ts42:TS Tryz.prog 42 [(0,1),(1,1)]:=⟨_,Tryz.underlying42,⟨rfl,⟨_,ti39⟩,rfl,⟨_,ti40⟩,trivial⟩⟩
theorem ts61:TS Tryz.prog 61 [(0,1),(1,1)]:=⟨_,Tryz.underlying61,⟨rfl,⟨_,ti3⟩,rfl,⟨_,ti3⟩,trivial⟩⟩
theorem ts89:TS Tryz.prog 89 [(0,1),(1,1),(2,1),(3,1)]:=⟨_,Tryz.underlying89,⟨rfl,⟨_,ti3⟩,rfl,⟨_,ti3⟩,rfl,⟨_,ti3⟩,rfl,⟨_,ti3⟩,trivial⟩⟩
theorem ts26:TS Tryz.prog 26 [(0,1),(1,1)]:=⟨_,Tryz.underlying26,⟨rfl,⟨_,ti23⟩,rfl,⟨_,ti24⟩,trivial⟩⟩
theorem ts59:TS Tryz.prog 59 [(0,1),(1,1),(2,1),(3,1),(4,1),(5,1),(6,1)]:=⟨_,Tryz.underlying59,⟨rfl,⟨_,ti5⟩,rfl,⟨_,ti57⟩,rfl,⟨_,ti3⟩,rfl,⟨_,ti3⟩,rfl,⟨_,ti3⟩,rfl,⟨_,ti3⟩,rfl,⟨_,ti27⟩,trivial⟩⟩
theorem Qh5:Qa8 137:=entr Tryz.func137
theorem Zdj:Qa8 139:=entr Tryz.func139
theorem Zdb:Qa8 148:=entr Tryz.func148
theorem Zc4:Qa8 156:=entr Tryz.func156
theorem Zdc:Qa8 147:=entr Tryz.func147
theorem Zdk:Qa8 138:=entr Tryz.func138
theorem Qzc:TZ Tryz.prog 160 [.int .i64 0,.int .i64 0,.int .i64 0,.int .i64 0,.int .i64 0]:=Qhk (by kernel_rfl)
theorem Q2y:Qa8 122:=entr Tryz.func122
theorem Zd9:Qa8 100:=entr Tryz.func100
theorem Qkk:Qa8 65:=entr Tryz.func65
theorem Zdr:Qa8 125:=entr Tryz.func125
theorem Q2x:Qa8 128:=entr Tryz.func128
theorem Qof:Qa8 141:=entr Tryz.func141
theorem Qog:Qa8 126:=entr Tryz.func126
theorem Q2z:Qa8 108:=entr Tryz.func108
theorem Zdq:Qa8 127:=entr Tryz.func127
theorem Zd7:Qa8 102:=entr Tryz.func102
theorem Zds:Qa8 124:=entr Tryz.func124
theorem Zdi:Qa8 140:=entr Tryz.func140
theorem Zdt:Qa8 123:=entr Tryz.func123
theorem Zd8:Qa8 101:=entr Tryz.func101
theorem Qtw:CkT Tryz.prog 120 2:=ck2 Tryz.underlying120 Tryz.underlying3 Tryz.underlying3 rfl rfl
theorem zb4:∃ i,Tryz.prog.info? 4=some i∧i.zero=some (.bool false):=Zmm (by kernel_rfl)
theorem Qzd:TZ Tryz.prog 133 [.int .u8 0,.slice none 0 0,.int .i64 0,.int .i64 0,.int .i64 0,.int .i64 0,.slice none 0 0]:=Qhk (by kernel_rfl)
theorem Qsu:TZ Tryz.prog 120 [.int .i64 0,.int .i64 0]:=Qhk (by kernel_rfl)
theorem Q20:Qa8 103:=entr Tryz.func103
theorem Q9s:Qa8 66:=entr Tryz.func66
theorem Zmx:TZ Tryz.prog 190 [(.map none)]:=Qhk (by kernel_rfl)
theorem Zjq:Qa8 75:=entr Tryz.func75
theorem Zlv:TE Tryz.prog 120 2 16:=Qu2 (by kernel_rfl) (by decide)
theorem Zd4:Qa8 110:=entr Tryz.func110
theorem Zd3:Qa8 111:=entr Tryz.func111
theorem Zjp:Qa8 89:=entr Tryz.func89
theorem Zd5:Qa8 109:=entr Tryz.func109
theorem Zjr:Qa8 73:=entr Tryz.func73
theorem tz3:TZ Tryz.prog 3 [.int .i64 0]:=Qhk (by kernel_rfl)
theorem te3:TE Tryz.prog 3 1 8:=Qu2 (by kernel_rfl) (by decide)
theorem Qz6:Qa8 67:=entr Tryz.func67
theorem Qvt:Qa8 131:=entr Tryz.func131
theorem Zd0:Qa8 114:=entr Tryz.func114
theorem Zd1:Qa8 113:=entr Tryz.func113
theorem Zdo:Qa8 130:=entr Tryz.func130
theorem Zdh:Qa8 142:=entr Tryz.func142
theorem Zdp:Qa8 129:=entr Tryz.func129
theorem Zd2:Qa8 112:=entr Tryz.func112
theorem tz63:TZ Tryz.prog 63 [.int .i64 0,.int .i64 0,.int .i64 0,.int .i64 0]:=Qhk (by kernel_rfl)
theorem Qz5:Qa8 76:=entr Tryz.func76
theorem Zjo:Qa8 94:=entr Tryz.func94
theorem Q34:TZ Tryz.prog 227 [.int .i64 0,.int .i64 0,.int .i64 0]:=Qhk (by kernel_rfl)
theorem Zc9:Qa8 150:=entr Tryz.func150
theorem Zc3:Qa8 157:=entr Tryz.func157
theorem Zc8:Qa8 151:=entr Tryz.func151
theorem Zc7:Qa8 152:=entr Tryz.func152
theorem Q2u:Qa8 159:=entr Tryz.func159
theorem Zcz:Qa8 163:=entr Tryz.func163
theorem Q2t:Qa8 165:=entr Tryz.func165
theorem Zcy:Qa8 164:=entr Tryz.func164
theorem Zc0:Qa8 162:=entr Tryz.func162
theorem Zc2:Qa8 158:=entr Tryz.func158
theorem Zc6:Qa8 153:=entr Tryz.func153
theorem Qvs:Qa8 154:=entr Tryz.func154
theorem te63:TE Tryz.prog 63 4 32:=Qu2 (by kernel_rfl) (by decide)
theorem Zln:TZ Tryz.prog 235 [(.pointer none),(.pointer none),(.pointer none),(.pointer none)]:=Qhk (by kernel_rfl)
theorem Qoe:Qa8 161:=entr Tryz.func161
theorem Zc1:Qa8 160:=entr Tryz.func160
theorem Zc5:Qa8 155:=entr Tryz.func155
theorem Zm1:TZ Tryz.prog 136 [(.pointer none)]:=Qhk (by kernel_rfl)
theorem te45:TE Tryz.prog 45 1 24:=Qu2 (by kernel_rfl) (by decide)
theorem tz45:TZ Tryz.prog 45 [.slice none 0 0]:=Qhk (by kernel_rfl)
theorem te82:TE Tryz.prog 82 4 32:=Qu2 (by kernel_rfl) (by decide)
theorem tz82:TZ Tryz.prog 82 [.int .i64 0,.int .i64 0,.int .i64 0,.int .i64 0]:=Qhk (by kernel_rfl)
theorem Zjn:Qa8 95:=entr Tryz.func95
theorem tz34:TZ Tryz.prog 34 [.slice none 0 0,.slice none 0 0,.slice none 0 0]:=Qhk (by kernel_rfl)
theorem Zlr:TZ Tryz.prog 140 [.slice none 0 0,.slice none 0 0,.slice none 0 0,.slice none 0 0,.slice none 0 0,.slice none 0 0,.int .i64 0]:=Qhk (by kernel_rfl)
theorem Zjm:Qa8 96:=entr Tryz.func96
theorem Q9r:Qa8 74:=entr Tryz.func74
theorem Zdy:Qa8 116:=entr Tryz.func116
theorem Q2w:Qa8 134:=entr Tryz.func134
theorem Zdm:Qa8 133:=entr Tryz.func133
theorem Zdn:Qa8 132:=entr Tryz.func132
theorem Zdz:Qa8 115:=entr Tryz.func115
theorem Zlq:TZ Tryz.prog 182 [.int .i64 0]:=Qhk (by kernel_rfl)
theorem Zlp:TZ Tryz.prog 209 [.nilFunc,.nilFunc,.nilFunc,.nilFunc,.nilFunc,.nilFunc,.nilFunc]:=Qhk (by kernel_rfl)
theorem Qvu:Qa8 117:=entr Tryz.func117
theorem Zdx:Qa8 118:=entr Tryz.func118
theorem Zbv:TZ Tryz.prog 214 [.int .i64 0,.int .i64 0,.int .i64 0,.int .i64 0,.int .i64 0,.int .i64 0,.int .i64 0,.int .i64 0,.int .i64 0,.int .i64 0]:=Qhk (by kernel_rfl)
theorem Zdg:Qa8 143:=entr Tryz.func143
theorem Zlo:TZ Tryz.prog 224 [.int .i64 0,.int .i64 0,.int .i64 0,.int .i64 0,.int .i64 0]:=Qhk (by kernel_rfl)
theorem Zdf:Qa8 144:=entr Tryz.func144
theorem Zda:Qa8 149:=entr Tryz.func149
theorem Zde:Qa8 145:=entr Tryz.func145
theorem Zdl:Qa8 135:=entr Tryz.func135
theorem Zdd:Qa8 146:=entr Tryz.func146
theorem Q2v:Qa8 136:=entr Tryz.func136
theorem Zdw:Qa8 119:=entr Tryz.func119
theorem Zdv:Qa8 120:=entr Tryz.func120
theorem Q9q:Qa8 97:=entr Tryz.func97
theorem Zjz:Qa8 57:=entr Tryz.func57
theorem Q9t:Qa8 58:=entr Tryz.func58
theorem tz42:TZ Tryz.prog 42 [.slice none 0 0,.slice none 0 0]:=Qhk (by kernel_rfl)
theorem Zj0:Qa8 55:=entr Tryz.func55
theorem Zj1:Qa8 47:=entr Tryz.func47
theorem Qz7:Qa8 16:=entr Tryz.func16
theorem Zmz:TZ Tryz.prog 149 [.int .i64 0,.int .i64 0,.int .i64 0,.int .i64 0,.int .i64 0]:=Qhk (by kernel_rfl)
theorem Qgw:Qa8 25:=entr Tryz.func25
theorem Znf:TE Tryz.prog 160 5 40:=Qu2 (by kernel_rfl) (by decide)
theorem Zjy:Qa8 59:=entr Tryz.func59
theorem tz59:TZ Tryz.prog 59 [.int .u8 0,.slice none 0 0,.int .i64 0,.int .i64 0,.int .i64 0,.int .i64 0,.slice none 0 0]:=Qhk (by kernel_rfl)
theorem Zng:TE Tryz.prog 133 7 88:=Qu2 (by kernel_rfl) (by decide)
theorem Zjv:Qa8 69:=entr Tryz.func69
theorem Zd6:Qa8 107:=entr Tryz.func107
theorem Zju:Qa8 70:=entr Tryz.func70
theorem tz61:TZ Tryz.prog 61 [.int .i64 0,.int .i64 0]:=Qhk (by kernel_rfl)
theorem Zjt:Qa8 71:=entr Tryz.func71
theorem Zjs:Qa8 72:=entr Tryz.func72
theorem te61:TE Tryz.prog 61 2 16:=Qu2 (by kernel_rfl) (by decide)
theorem Zjx:Qa8 60:=entr Tryz.func60
theorem Zm0:TZ Tryz.prog 146 [.int .i64 0,.int .i64 0,.int .i64 0,.int .i64 0,.int .i64 0,.int .i64 0,.int .i64 0,.int .i64 0,.int .i64 0,.int .i64 0]:=Qhk (by kernel_rfl)
theorem tz89:TZ Tryz.prog 89 [.int .i64 0,.int .i64 0,.int .i64 0,.int .i64 0]:=Qhk (by kernel_rfl)
theorem Zmy:TZ Tryz.prog 151 [.int .i64 0,.int .i64 0,.int .i64 0]:=Qhk (by kernel_rfl)
theorem tz4:TZ Tryz.prog 4 [.bool false]:=Qhk (by kernel_rfl)
theorem Zdu:Qa8 121:=entr Tryz.func121
theorem Zj4:Qa8 29:=entr Tryz.func29
theorem Zjl:Qa8 98:=entr Tryz.func98
theorem Zj2:Qa8 38:=entr Tryz.func38
theorem Zj5:Qa8 28:=entr Tryz.func28
theorem Zj3:Qa8 33:=entr Tryz.func33
theorem Zjw:Qa8 61:=entr Tryz.func61
theorem tz52:TZ Tryz.prog 52 [.slice none 0 0,.slice none 0 0,.slice none 0 0]:=Qhk (by kernel_rfl)
theorem tz90:TZ Tryz.prog 90 [.int .i64 0,.int .i64 0,.int .i64 0,.int .i64 0]:=Qhk (by kernel_rfl)
theorem tz28:TZ Tryz.prog 28 [.slice none 0 0]:=Qhk (by kernel_rfl)
theorem tz92:TZ Tryz.prog 92 [.int .i64 0,.int .i64 0]:=Qhk (by kernel_rfl)
theorem Zj7:Qa8 14:=entr Tryz.func14
theorem Qlc:Qa8 15:=entr Tryz.func15
theorem Q9w:Qa8 17:=entr Tryz.func17
theorem Q9v:Qa8 18:=entr Tryz.func18
theorem Q9u:Qa8 19:=entr Tryz.func19
theorem Zj6:Qa8 20:=entr Tryz.func20
theorem tz26:TZ Tryz.prog 26 [.slice none 0 0,.slice none 0 0]:=Qhk (by kernel_rfl)
theorem te59:TE Tryz.prog 59 7 88:=Qu2 (by kernel_rfl) (by decide)
theorem Qr4:EqT Tryz.prog 10000 120 2:=Qpg (d:=9998) Tryz.underlying120 (by kernel_rfl) (.int _ (by decide) rfl Tryz.underlying3 (.int _ (by decide) rfl Tryz.underlying3 (.nil _)))
theorem Zjj:EqT Tryz.prog 10000 63 4:=Qpg (d:=9998) Tryz.underlying63 (by kernel_rfl) (.int _ (by decide) rfl Tryz.underlying3 (.int _ (by decide) rfl Tryz.underlying3 (.int _ (by decide) rfl Tryz.underlying3 (.int _ (by decide) rfl Tryz.underlying3 (.nil _)))))
theorem Znt:EqT Tryz.prog 10000 61 2:=Qpg (d:=9998) Tryz.underlying61 (by kernel_rfl) (.int _ (by decide) rfl Tryz.underlying3 (.int _ (by decide) rfl Tryz.underlying3 (.nil _)))
def tyT:Tab:=.node 90 ⟨true,4,(some [.int .i64 0,.int .i64 0,.int .i64 0,.int .i64 0]),[(0,false,1),(1,false,1),(2,false,1),(3,false,1)]⟩ (.node 40 ⟨false,1,none,[]⟩ (.node 27 ⟨false,1,none,[]⟩ (.node 23 ⟨false,1,none,[]⟩ (.node 4 ⟨false,1,(some [.bool false]),[]⟩ (.node 3 ⟨false,1,(some [.int .i64 0]),[]⟩ .nil .nil) (.node 5 ⟨false,1,none,[]⟩ .nil .nil)) (.node 26 ⟨true,2,(some [.slice none 0 0,.slice none 0 0]),[(0,false,1),(1,false,1)]⟩ (.node 24 ⟨false,1,none,[]⟩ .nil .nil) .nil)) (.node 32 ⟨false,1,none,[]⟩ (.node 31 ⟨false,1,none,[]⟩ (.node 28 ⟨false,1,(some [.slice none 0 0]),[]⟩ .nil .nil) .nil) (.node 39 ⟨false,1,none,[]⟩ (.node 34 ⟨true,3,(some [.slice none 0 0,.slice none 0 0,.slice none 0 0]),[(0,false,1),(1,false,1),(2,false,1)]⟩ .nil .nil) .nil))) (.node 57 ⟨false,1,none,[]⟩ (.node 49 ⟨false,1,none,[]⟩ (.node 45 ⟨false,1,(some [.slice none 0 0]),[]⟩ (.node 42 ⟨true,2,(some [.slice none 0 0,.slice none 0 0]),[(0,false,1),(1,false,1)]⟩ .nil .nil) .nil) (.node 52 ⟨true,3,(some [.slice none 0 0,.slice none 0 0,.slice none 0 0]),[(0,false,1),(1,false,1),(2,false,1)]⟩ (.node 50 ⟨false,1,none,[]⟩ .nil .nil) .nil)) (.node 63 ⟨true,4,(some [.int .i64 0,.int .i64 0,.int .i64 0,.int .i64 0]),[(0,false,1),(1,false,1),(2,false,1),(3,false,1)]⟩ (.node 61 ⟨true,2,(some [.int .i64 0,.int .i64 0]),[(0,false,1),(1,false,1)]⟩ (.node 59 ⟨true,7,(some [.int .u8 0,.slice none 0 0,.int .i64 0,.int .i64 0,.int .i64 0,.int .i64 0,.slice none 0 0]),[(0,false,1),(1,false,1),(2,false,1),(3,false,1),(4,false,1),(5,false,1),(6,false,1)]⟩ .nil .nil) .nil) (.node 89 ⟨true,4,(some [.int .i64 0,.int .i64 0,.int .i64 0,.int .i64 0]),[(0,false,1),(1,false,1),(2,false,1),(3,false,1)]⟩ (.node 82 ⟨true,4,(some [.int .i64 0,.int .i64 0,.int .i64 0,.int .i64 0]),[(0,false,1),(1,false,1),(2,false,1),(3,false,1)]⟩ .nil .nil) .nil)))) (.node 189 ⟨false,1,none,[]⟩ (.node 146 ⟨true,10,(some [.int .i64 0,.int .i64 0,.int .i64 0,.int .i64 0,.int .i64 0,.int .i64 0,.int .i64 0,.int .i64 0,.int .i64 0,.int .i64 0]),[(0,true,4),(4,true,4),(8,false,1),(9,false,1)]⟩ (.node 133 ⟨true,7,(some [.int .u8 0,.slice none 0 0,.int .i64 0,.int .i64 0,.int .i64 0,.int .i64 0,.slice none 0 0]),[(0,false,1),(1,false,1),(2,false,1),(3,false,1),(4,false,1),(5,false,1),(6,false,1)]⟩ (.node 116 ⟨false,1,none,[]⟩ (.node 92 ⟨true,2,(some [.int .i64 0,.int .i64 0]),[(0,false,1),(1,false,1)]⟩ .nil .nil) (.node 120 ⟨true,2,(some [.int .i64 0,.int .i64 0]),[(0,false,1),(1,false,1)]⟩ .nil .nil)) (.node 140 ⟨true,7,(some [.slice none 0 0,.slice none 0 0,.slice none 0 0,.slice none 0 0,.slice none 0 0,.slice none 0 0,.int .i64 0]),[(0,true,2),(2,true,3),(5,false,1),(6,false,1)]⟩ (.node 136 ⟨false,1,(some [(.pointer none)]),[]⟩ .nil .nil) .nil)) (.node 160 ⟨true,5,(some [.int .i64 0,.int .i64 0,.int .i64 0,.int .i64 0,.int .i64 0]),[(0,false,1),(1,false,1),(2,false,1),(3,false,1),(4,false,1)]⟩ (.node 151 ⟨true,3,(some [.int .i64 0,.int .i64 0,.int .i64 0]),[(0,false,1),(1,false,1),(2,false,1)]⟩ (.node 149 ⟨true,5,(some [.int .i64 0,.int .i64 0,.int .i64 0,.int .i64 0,.int .i64 0]),[(0,false,1),(1,false,1),(2,false,1),(3,false,1),(4,false,1)]⟩ .nil .nil) .nil) (.node 182 ⟨true,1,(some [.int .i64 0]),[(0,false,1)]⟩ (.node 162 ⟨false,1,none,[]⟩ .nil .nil) .nil))) (.node 214 ⟨true,10,(some [.int .i64 0,.int .i64 0,.int .i64 0,.int .i64 0,.int .i64 0,.int .i64 0,.int .i64 0,.int .i64 0,.int .i64 0,.int .i64 0]),[(0,true,4),(4,true,4),(8,false,1),(9,false,1)]⟩ (.node 202 ⟨false,1,none,[]⟩ (.node 197 ⟨false,1,none,[]⟩ (.node 190 ⟨false,1,(some [(.map none)]),[]⟩ .nil .nil) .nil) (.node 209 ⟨true,7,(some [.nilFunc,.nilFunc,.nilFunc,.nilFunc,.nilFunc,.nilFunc,.nilFunc]),[]⟩ (.node 207 ⟨false,1,none,[]⟩ .nil .nil) .nil)) (.node 227 ⟨true,3,(some [.int .i64 0,.int .i64 0,.int .i64 0]),[(0,false,1),(1,false,1),(2,false,1)]⟩ (.node 224 ⟨true,5,(some [.int .i64 0,.int .i64 0,.int .i64 0,.int .i64 0,.int .i64 0]),[(0,true,5)]⟩ (.node 219 ⟨false,1,none,[]⟩ .nil .nil) .nil) (.node 235 ⟨true,4,(some [(.pointer none),(.pointer none),(.pointer none),(.pointer none)]),[]⟩ (.node 234 ⟨false,1,none,[]⟩ .nil .nil) .nil))))
theorem tbk:tyT.ok Tryz.prog:=⟨⟨ti90,tz90,.inr ⟨_,Tryz.underlying90,rfl,ti3,rfl,ti3,rfl,ti3,rfl,ti3,trivial⟩⟩,⟨⟨ti40,trivial,.inl rfl⟩,⟨⟨ti27,trivial,.inl rfl⟩,⟨⟨ti23,trivial,.inl rfl⟩,⟨⟨ti4,tz4,.inl rfl⟩,⟨⟨ti3,tz3,.inl rfl⟩,trivial,trivial⟩,⟨⟨ti5,trivial,.inl rfl⟩,trivial,trivial⟩⟩,⟨⟨ti26,tz26,.inr ⟨_,Tryz.underlying26,rfl,ti23,rfl,ti24,trivial⟩⟩,⟨⟨ti24,trivial,.inl rfl⟩,trivial,trivial⟩,trivial⟩⟩,⟨⟨ti32,trivial,.inl rfl⟩,⟨⟨ti31,trivial,.inl rfl⟩,⟨⟨ti28,tz28,.inl rfl⟩,trivial,trivial⟩,trivial⟩,⟨⟨ti39,trivial,.inl rfl⟩,⟨⟨ti34,tz34,.inr ⟨_,Tryz.underlying34,rfl,ti31,rfl,ti32,rfl,ti27,trivial⟩⟩,trivial,trivial⟩,trivial⟩⟩⟩,⟨⟨ti57,trivial,.inl rfl⟩,⟨⟨ti49,trivial,.inl rfl⟩,⟨⟨ti45,tz45,.inl rfl⟩,⟨⟨ti42,tz42,.inr ⟨_,Tryz.underlying42,rfl,ti39,rfl,ti40,trivial⟩⟩,trivial,trivial⟩,trivial⟩,⟨⟨ti52,tz52,.inr ⟨_,Tryz.underlying52,rfl,ti49,rfl,ti50,rfl,ti27,trivial⟩⟩,⟨⟨ti50,trivial,.inl rfl⟩,trivial,trivial⟩,trivial⟩⟩,⟨⟨ti63,tz63,.inr ⟨_,Tryz.underlying63,rfl,ti3,rfl,ti3,rfl,ti3,rfl,ti3,trivial⟩⟩,⟨⟨ti61,tz61,.inr ⟨_,Tryz.underlying61,rfl,ti3,rfl,ti3,trivial⟩⟩,⟨⟨ti59,tz59,.inr ⟨_,Tryz.underlying59,rfl,ti5,rfl,ti57,rfl,ti3,rfl,ti3,rfl,ti3,rfl,ti3,rfl,ti27,trivial⟩⟩,trivial,trivial⟩,trivial⟩,⟨⟨ti89,tz89,.inr ⟨_,Tryz.underlying89,rfl,ti3,rfl,ti3,rfl,ti3,rfl,ti3,trivial⟩⟩,⟨⟨ti82,tz82,.inr ⟨_,Tryz.underlying82,rfl,ti3,rfl,ti3,rfl,ti3,rfl,ti3,trivial⟩⟩,trivial,trivial⟩,trivial⟩⟩⟩⟩,⟨⟨Zm9,trivial,.inl rfl⟩,⟨⟨Znd,Zm0,.inr ⟨_,Tryz.underlying146,rfl,ti89,rfl,ti89,rfl,ti3,rfl,ti3,trivial⟩⟩,⟨⟨Qju,Qzd,.inr ⟨_,Tryz.underlying133,rfl,ti5,rfl,Zih,rfl,ti3,rfl,ti3,rfl,ti3,rfl,ti3,rfl,ti27,trivial⟩⟩,⟨⟨Zih,trivial,.inl rfl⟩,⟨⟨ti92,tz92,.inr ⟨_,Tryz.underlying92,rfl,ti3,rfl,ti3,trivial⟩⟩,trivial,trivial⟩,⟨⟨Qo1,Qsu,.inr ⟨_,Tryz.underlying120,rfl,ti3,rfl,ti3,trivial⟩⟩,trivial,trivial⟩⟩,⟨⟨Zne,Zlr,.inr ⟨_,Tryz.underlying140,rfl,ti42,rfl,ti34,rfl,ti45,rfl,ti3,trivial⟩⟩,⟨⟨Qsy,Zm1,.inl rfl⟩,trivial,trivial⟩,trivial⟩⟩,⟨⟨Qsx,Qzc,.inr ⟨_,Tryz.underlying160,rfl,ti3,rfl,ti3,rfl,ti3,rfl,ti3,rfl,ti3,trivial⟩⟩,⟨⟨Znc,Zmy,.inr ⟨_,Tryz.underlying151,rfl,ti3,rfl,ti3,rfl,ti3,trivial⟩⟩,⟨⟨Qq3,Zmz,.inr ⟨_,Tryz.underlying149,rfl,ti3,rfl,ti3,rfl,ti3,rfl,ti3,rfl,ti3,trivial⟩⟩,trivial,trivial⟩,trivial⟩,⟨⟨Zna,Zlq,.inr ⟨_,Tryz.underlying182,rfl,ti3,trivial⟩⟩,⟨⟨Znb,trivial,.inl rfl⟩,trivial,trivial⟩,trivial⟩⟩⟩,⟨⟨Qzg,Zbv,.inr ⟨_,Tryz.underlying214,rfl,ti63,rfl,ti63,rfl,ti3,rfl,ti3,trivial⟩⟩,⟨⟨Zm7,trivial,.inl rfl⟩,⟨⟨Zm8,trivial,.inl rfl⟩,⟨⟨Zig,Zmx,.inl rfl⟩,trivial,trivial⟩,trivial⟩,⟨⟨Zm6,Zlp,.inl rfl⟩,⟨⟨Qnt,trivial,.inl rfl⟩,trivial,trivial⟩,trivial⟩⟩,⟨⟨Q37,Q34,.inr ⟨_,Tryz.underlying227,rfl,ti3,rfl,ti3,rfl,ti3,trivial⟩⟩,⟨⟨Zlu,Zlo,.inr ⟨_,Tryz.underlying224,rfl,Qsx,trivial⟩⟩,⟨⟨Zm5,trivial,.inl rfl⟩,trivial,trivial⟩,trivial⟩,⟨⟨Zlt,Zln,.inl rfl⟩,⟨⟨Qsw,trivial,.inl rfl⟩,trivial,trivial⟩,trivial⟩⟩⟩⟩⟩
section
variable {ops : Array Oper} {X : Nat → Nat → Prop} {φ0 : Nat → FSlot} {w0 : World} {ro : Option Nat} {Q : Exit → AS → Prop} {s : AS} {id : Nat} {y : Code}
theorem wxz (h:AWp Tryz.prog X φ0 w0 ro y Q (Qor tyT ops [] s)) (hm:MetX tyT ops [] s:=by exact ⟨by kernel_rfl,by kernel_rfl⟩):AWp Tryz.prog X φ0 w0 ro (.seq (.region id ops false) y) Q s:=Zmg tbk [] trivial h hm
theorem wxz1 (h:Q .normal (Qor tyT ops [] s)) (hm:MetX tyT ops [] s:=by exact ⟨by kernel_rfl,by kernel_rfl⟩):AWp Tryz.prog X φ0 w0 ro (.region id ops false) Q s:=Zf3 tbk [] trivial h hm
theorem wxe (h:AWp Tryz.prog X φ0 w0 ro y Q (Qor tyT ops [] s)) (hf:Tryz.prog.follows .mixedOrders=true:=by kernel_rfl) (hm:MetX tyT ops [] s:=by exact ⟨by kernel_rfl,by kernel_rfl⟩) (ho:Qfy (ops.toList.zip (Qw5 tyT ops [] s)) [] []=true:=by kernel_rfl):AWp Tryz.prog X φ0 w0 ro (.seq (.region id ops true) y) Q s:=Zf2 tbk [] trivial h hf hm ho
theorem wxe1 (h:Q .normal (Qor tyT ops [] s)) (hf:Tryz.prog.follows .mixedOrders=true:=by kernel_rfl) (hm:MetX tyT ops [] s:=by exact ⟨by kernel_rfl,by kernel_rfl⟩) (ho:Qfy (ops.toList.zip (Qw5 tyT ops [] s)) [] []=true:=by kernel_rfl):AWp Tryz.prog X φ0 w0 ro (.region id ops true) Q s:=Q99 tbk [] trivial h hf hm ho
end
end Go.Proofs.YtmbhnllcfmiajaaGreat
