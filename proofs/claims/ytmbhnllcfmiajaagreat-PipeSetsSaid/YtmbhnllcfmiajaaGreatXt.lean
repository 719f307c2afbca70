/-
  The types of the program as Lean types, and how they lie in cells; facts on the program's types. No conditions.
-/
import Derived.Test.YtmbhnllcfmiajaaGreatEngY
import Derived.Test.YtmbhnllcfmiajaaGreatEngC
import Derived.Test.YtmbhnllcfmiajaaGreatEngA
import Derived.Test.YtmbhnllcfmiajaaGreatEngN
import Derived.Conc.MuLone
namespace Go.Proofs.YtmbhnllcfmiajaaGreat
set_option maxRecDepth 100000
open Go.RowKit
def Qa4 (g:FuncId):Prop:=∀ vals w,(callFunc g vals).run Tryz.prog w=.ok (.enter g vals) w
theorem entr {g : FuncId} {fn : Func} {c : Code} (h : Tryz.prog.funcs[g]? = some fn) (h1 : (fn.name == "runtime.NumGoroutine") = false := by kernel_rfl) (h2 : fn.body = some c := by rfl) : Qa4 g := fun vals w => MuLone.run_callFunc_enter h h1 h2 vals w
def Qaj (x:Int):List AV:=[K .i64 x]
theorem Qaf:∀ x,∀ a ∈ Qaj x,NLt 0 a:=fun _=>Qk7 (.lit _) Qrw
theorem Qgg:∀ x,(Qaj x).all AV.one=true:=fun _=>rfl
structure GRow where
  T:Int
  P:Int
  Liquid:Int
  Vapour:Int
  Silica:Int
  deriving DecidableEq
def Qau (x:GRow):List AV:=Qaj x.T++Qaj x.P++Qaj x.Liquid++Qaj x.Vapour++Qaj x.Silica
theorem Qae:∀ x,∀ a ∈ Qau x,NLt 0 a:=fun _=>(Qh9 (Qh9 (Qh9 (Qh9 (Qaf _) (Qaf _)) (Qaf _)) (Qaf _)) (Qaf _))
theorem Qzj:∀ x,(Qau x).all AV.one=true:=fun _=>(Qi6 (Qi6 (Qi6 (Qi6 (Qgg _) (Qgg _)) (Qgg _)) (Qgg _)) (Qgg _))
def c_u8 (x:Int):List AV:=[K .u8 x]
theorem Zir:∀ x,∀ a ∈ c_u8 x,NLt 0 a:=fun _=>Qk7 (.lit _) Qrw
theorem Zha:∀ x,(c_u8 x).all AV.one=true:=fun _=>rfl
structure GPort where
  Element:Int
  Outlet:Int
  deriving DecidableEq
def Qar (x:GPort):List AV:=Qaj x.Element++Qaj x.Outlet
theorem Qaz:∀ x,∀ a ∈ Qar x,NLt 0 a:=fun _=>(Qh9 (Qaf _) (Qaf _))
theorem Quu:∀ x,(Qar x).all AV.one=true:=fun _=>(Qi6 (Qgg _) (Qgg _))
def Qpd (x:(List GPort)):List AV:=[.dat 2 (x.map Qar)]
theorem Q5b:∀ x,∀ a ∈ Qpd x,NLt 0 a:=fun _=>Qk7 (Qrx Qaz _) Qrw
theorem Q1b:∀ x,(Qpd x).all AV.one=true:=fun _=>rfl
def Qz1 (x:(List Int)):List AV:=[.dat 1 (x.map Qaj)]
theorem Zen:∀ x,∀ a ∈ Qz1 x,NLt 0 a:=fun _=>Qk7 (Qrx Qaf _) Qrw
theorem Q8j:∀ x,(Qz1 x).all AV.one=true:=fun _=>rfl
structure GElement where
  Kind:Int
  From:List GPort
  Level:Int
  Amount:Int
  Wide:Int
  Narrow:Int
  Weights:List Int
  deriving DecidableEq
def Qab (x:GElement):List AV:=c_u8 x.Kind++Qpd x.From++Qaj x.Level++Qaj x.Amount++Qaj x.Wide++Qaj x.Narrow++Qz1 x.Weights
theorem Qaa:∀ x,∀ a ∈ Qab x,NLt 0 a:=fun _=>(Qh9 (Qh9 (Qh9 (Qh9 (Qh9 (Qh9 (Zir _) (Q5b _)) (Qaf _)) (Qaf _)) (Qaf _)) (Qaf _)) (Zen _))
theorem Qol:∀ x,(Qab x).all AV.one=true:=fun _=>(Qi6 (Qi6 (Qi6 (Qi6 (Qi6 (Qi6 (Zha _) (Q1b _)) (Qgg _)) (Qgg _)) (Qgg _)) (Qgg _)) (Q8j _))
def Q6g (x:(List GRow)):List AV:=[.dat 5 (x.map Qau)]
def Qqq (x:(List GElement)):List AV:=[.dat 7 (x.map Qab)]
structure GNet where
  Table:List GRow
  Elements:List GElement
  deriving DecidableEq
def Qgn (x:GNet):List AV:=Q6g x.Table++Qqq x.Elements
structure GStream where
  Mass:Int
  Heat:Int
  Silica:Int
  Gas:Int
  deriving DecidableEq
def Qai (x:GStream):List AV:=Qaj x.Mass++Qaj x.Heat++Qaj x.Silica++Qaj x.Gas
theorem Qag:∀ x,∀ a ∈ Qai x,NLt 0 a:=fun _=>(Qh9 (Qh9 (Qh9 (Qaf _) (Qaf _)) (Qaf _)) (Qaf _))
structure GLoss where
  Heat:Int
  Silica:Int
  Gas:Int
  deriving DecidableEq
def Zfi (x:GLoss):List AV:=Qaj x.Heat++Qaj x.Silica++Qaj x.Gas
def Qap (x:(List GStream)):List AV:=[.dat 4 (x.map Qai)]
theorem Qaq:∀ x,∀ a ∈ Qap x,NLt 0 a:=fun _=>Qk7 (Qrx Qag _) Qrw
structure GLost where
  Heat:Int
  Silica:Int
  Gas:Int
  Scale:Int
  deriving DecidableEq
def Qa9 (x:GLost):List AV:=Qaj x.Heat++Qaj x.Silica++Qaj x.Gas++Qaj x.Scale
theorem Qa1:∀ x,∀ a ∈ Qa9 x,NLt 0 a:=fun _=>(Qh9 (Qh9 (Qh9 (Qaf _) (Qaf _)) (Qaf _)) (Qaf _))
structure GFlash where
  Row:GRow
  deriving DecidableEq
def Qtm (x:GFlash):List AV:=Qau x.Row
structure GParts where
  Steam:GStream
  Water:GStream
  Rest:Int
  Scale:Int
  deriving DecidableEq
def Qz2 (x:GParts):List AV:=Qai x.Steam++Qai x.Water++Qaj x.Rest++Qaj x.Scale
structure GTick where
  Out:List (List GStream)
  Lost:List GLost
  State:List Int
  deriving DecidableEq
structure GFall where
  Element:Int
  Scale:Int
  deriving DecidableEq
theorem Qta:∀ x,∀ a ∈ Qaj x,∃ v,a=.lit v:=fun _=>Q8p Zeq
theorem Qxb:∀ x,∀ a ∈ Qai x,∃ v,a=.lit v:=fun _=>(Qxa (Qxa (Qxa (Qta _) (Qta _)) (Qta _)) (Qta _))
theorem Qnx:TI Tryz.prog 160 true 5:=⟨⟨_,Tryz.underlying160,rfl⟩,Qcs (by kernel_rfl)⟩
theorem Zh8:TI Tryz.prog 219 false 1:=⟨⟨_,Tryz.underlying219,rfl⟩,Qcs (by kernel_rfl)⟩
theorem ti3:TI Tryz.prog 3 false 1:=⟨⟨_,Tryz.underlying3,rfl⟩,Qcs (by kernel_rfl)⟩
theorem ti39:TI Tryz.prog 39 false 1:=⟨⟨_,Tryz.underlying39,rfl⟩,Qcs (by kernel_rfl)⟩
theorem ti40:TI Tryz.prog 40 false 1:=⟨⟨_,Tryz.underlying40,rfl⟩,Qcs (by kernel_rfl)⟩
theorem Qg2:TI Tryz.prog 133 true 7:=⟨⟨_,Tryz.underlying133,rfl⟩,Qcs (by kernel_rfl)⟩
theorem Zic:TI Tryz.prog 189 false 1:=⟨⟨_,Tryz.underlying189,rfl⟩,Qcs (by kernel_rfl)⟩
theorem ti5:TI Tryz.prog 5 false 1:=⟨⟨_,Tryz.underlying5,rfl⟩,Qcs (by kernel_rfl)⟩
theorem Q79:TI Tryz.prog 116 false 1:=⟨⟨_,Tryz.underlying116,rfl⟩,Qcs (by kernel_rfl)⟩
theorem ti27:TI Tryz.prog 27 false 1:=⟨⟨_,Tryz.underlying27,rfl⟩,Qcs (by kernel_rfl)⟩
theorem Zib:TI Tryz.prog 197 false 1:=⟨⟨_,Tryz.underlying197,rfl⟩,Qcs (by kernel_rfl)⟩
theorem Qkv:TI Tryz.prog 120 true 2:=⟨⟨_,Tryz.underlying120,rfl⟩,Qcs (by kernel_rfl)⟩
theorem ti42:TI Tryz.prog 42 true 2:=⟨⟨_,Tryz.underlying42,rfl⟩,Qcs (by kernel_rfl)⟩
theorem Zd6:TI Tryz.prog 190 false 1:=⟨⟨_,Tryz.underlying190,rfl⟩,Qcs (by kernel_rfl)⟩
theorem ti63:TI Tryz.prog 63 true 4:=⟨⟨_,Tryz.underlying63,rfl⟩,Qcs (by kernel_rfl)⟩
theorem Zia:TI Tryz.prog 202 false 1:=⟨⟨_,Tryz.underlying202,rfl⟩,Qcs (by kernel_rfl)⟩
theorem Q00:TI Tryz.prog 227 true 3:=⟨⟨_,Tryz.underlying227,rfl⟩,Qcs (by kernel_rfl)⟩
theorem Zie:TI Tryz.prog 162 false 1:=⟨⟨_,Tryz.underlying162,rfl⟩,Qcs (by kernel_rfl)⟩
theorem Qq9:TI Tryz.prog 234 false 1:=⟨⟨_,Tryz.underlying234,rfl⟩,Qcs (by kernel_rfl)⟩
theorem Zgx:TI Tryz.prog 235 true 4:=⟨⟨_,Tryz.underlying235,rfl⟩,Qcs (by kernel_rfl)⟩
theorem ti31:TI Tryz.prog 31 false 1:=⟨⟨_,Tryz.underlying31,rfl⟩,Qcs (by kernel_rfl)⟩
theorem ti32:TI Tryz.prog 32 false 1:=⟨⟨_,Tryz.underlying32,rfl⟩,Qcs (by kernel_rfl)⟩
theorem ti34:TI Tryz.prog 34 true 3:=⟨⟨_,Tryz.underlying34,rfl⟩,Qcs (by kernel_rfl)⟩
theorem ti45:TI Tryz.prog 45 false 1:=⟨⟨_,Tryz.underlying45,rfl⟩,Qcs (by kernel_rfl)⟩
theorem Qra:TI Tryz.prog 136 false 1:=⟨⟨_,Tryz.underlying136,rfl⟩,Qcs (by kernel_rfl)⟩
theorem Qms:TI Tryz.prog 207 false 1:=⟨⟨_,Tryz.underlying207,rfl⟩,Qcs (by kernel_rfl)⟩
theorem Zh9:TI Tryz.prog 209 true 7:=⟨⟨_,Tryz.underlying209,rfl⟩,Qcs (by kernel_rfl)⟩
theorem ti82:TI Tryz.prog 82 true 4:=⟨⟨_,Tryz.underlying82,rfl⟩,Qcs (by kernel_rfl)⟩
theorem Qwz:TI Tryz.prog 214 true 10:=⟨⟨_,Tryz.underlying214,rfl⟩,Qcs (by kernel_rfl)⟩
theorem Zgy:TI Tryz.prog 224 true 5:=⟨⟨_,Tryz.underlying224,rfl⟩,Qcs (by kernel_rfl)⟩
theorem Zid:TI Tryz.prog 182 true 1:=⟨⟨_,Tryz.underlying182,rfl⟩,Qcs (by kernel_rfl)⟩
theorem Qo0:TI Tryz.prog 149 true 5:=⟨⟨_,Tryz.underlying149,rfl⟩,Qcs (by kernel_rfl)⟩
theorem ti23:TI Tryz.prog 23 false 1:=⟨⟨_,Tryz.underlying23,rfl⟩,Qcs (by kernel_rfl)⟩
theorem ti24:TI Tryz.prog 24 false 1:=⟨⟨_,Tryz.underlying24,rfl⟩,Qcs (by kernel_rfl)⟩
theorem ti59:TI Tryz.prog 59 true 7:=⟨⟨_,Tryz.underlying59,rfl⟩,Qcs (by kernel_rfl)⟩
theorem ti57:TI Tryz.prog 57 false 1:=⟨⟨_,Tryz.underlying57,rfl⟩,Qcs (by kernel_rfl)⟩
theorem ti61:TI Tryz.prog 61 true 2:=⟨⟨_,Tryz.underlying61,rfl⟩,Qcs (by kernel_rfl)⟩
theorem ti89:TI Tryz.prog 89 true 4:=⟨⟨_,Tryz.underlying89,rfl⟩,Qcs (by kernel_rfl)⟩
theorem Zig:TI Tryz.prog 146 true 10:=⟨⟨_,Tryz.underlying146,rfl⟩,Qcs (by kernel_rfl)⟩
theorem ti4:TI Tryz.prog 4 false 1:=⟨⟨_,Tryz.underlying4,rfl⟩,Qcs (by kernel_rfl)⟩
theorem Zif:TI Tryz.prog 151 true 3:=⟨⟨_,Tryz.underlying151,rfl⟩,Qcs (by kernel_rfl)⟩
theorem ti26:TI Tryz.prog 26 true 2:=⟨⟨_,Tryz.underlying26,rfl⟩,Qcs (by kernel_rfl)⟩
theorem ti49:TI Tryz.prog 49 false 1:=⟨⟨_,Tryz.underlying49,rfl⟩,Qcs (by kernel_rfl)⟩
theorem ti28:TI Tryz.prog 28 false 1:=⟨⟨_,Tryz.underlying28,rfl⟩,Qcs (by kernel_rfl)⟩
theorem ti50:TI Tryz.prog 50 false 1:=⟨⟨_,Tryz.underlying50,rfl⟩,Qcs (by kernel_rfl)⟩
theorem ti52:TI Tryz.prog 52 true 3:=⟨⟨_,Tryz.underlying52,rfl⟩,Qcs (by kernel_rfl)⟩
theorem ti90:TI Tryz.prog 90 true 4:=⟨⟨_,Tryz.underlying90,rfl⟩,Qcs (by kernel_rfl)⟩
theorem ti92:TI Tryz.prog 92 true 2:=⟨⟨_,Tryz.underlying92,rfl⟩,Qcs (by kernel_rfl)⟩
theorem Zih:TI Tryz.prog 140 true 7:=⟨⟨_,Tryz.underlying140,rfl⟩,Qcs (by kernel_rfl)⟩
theorem Q4o:TS Tryz.prog 120 [(0,1),(1,1)]:=⟨_,Tryz.underlying120,⟨rfl,⟨_,ti3⟩,rfl,⟨_,ti3⟩,trivial⟩⟩
theorem ts63:TS Tryz.prog 63 [(0,1),(1,1),(2,1),(3,1)]:=⟨_,Tryz.underlying63,⟨rfl,⟨_,ti3⟩,rfl,⟨_,ti3⟩,rfl,⟨_,ti3⟩,rfl,⟨_,ti3⟩,trivial⟩⟩
theorem Q4n:TS Tryz.prog 227 [(0,1),(1,1),(2,1)]:=⟨_,Tryz.underlying227,⟨rfl,⟨_,ti3⟩,rfl,⟨_,ti3⟩,rfl,⟨_,ti3⟩,trivial⟩⟩
theorem ts34:TS Tryz.prog 34 [(0,1),(1,1),(2,1)]:=⟨_,Tryz.underlying34,⟨rfl,⟨_,ti31⟩,rfl,⟨_,ti32⟩,rfl,⟨_,ti27⟩,trivial⟩⟩
theorem Zh7:TS Tryz.prog 140 [(0,2),(2,3),(5,1),(6,1)]:=⟨_,Tryz.underlying140,⟨rfl,⟨_,ti42⟩,rfl,⟨_,ti34⟩,rfl,⟨_,ti45⟩,rfl,⟨_,ti3⟩,trivial⟩⟩
theorem Zh6:TS Tryz.prog 182 [(0,1)]:=⟨_,Tryz.underlying182,⟨rfl,⟨_,ti3⟩,trivial⟩⟩
theorem Zd5:TS Tryz.prog 214 [(0,4),(4,4),(8,1),(9,1)]:=⟨_,Tryz.underlying214,⟨rfl,⟨_,ti63⟩,rfl,⟨_,ti63⟩,rfl,⟨_,ti3⟩,rfl,⟨_,ti3⟩,trivial⟩⟩
theorem Zh5:TS Tryz.prog 224 [(0,5)]:=⟨_,Tryz.underlying224,⟨rfl,⟨_,Qnx⟩,trivial⟩⟩
theorem Q77:TS Tryz.prog 160 [(0,1),(1,1),(2,1),(3,1),(4,1)]:=⟨_,Tryz.underlying160,⟨rfl,⟨_,ti3⟩,rfl,⟨_,ti3⟩,rfl,⟨_,ti3⟩,rfl,⟨_,ti3⟩,rfl,⟨_,ti3⟩,trivial⟩⟩
theorem Q78:TS Tryz.prog 133 [(0,1),(1,1),(2,1),(3,1),(4,1),(5,1),(6,1)]:=⟨_,Tryz.underlying133,⟨rfl,⟨_,ti5⟩,rfl,⟨_,Q79⟩,rfl,⟨_,ti3⟩,rfl,⟨_,ti3⟩,rfl,⟨_,ti3⟩,rfl,⟨_,ti3⟩,rfl,⟨_,ti27⟩,trivial⟩⟩
theorem ts42:TS Tryz.prog 42 [(0,1),(1,1)]:=⟨_,Tryz.underlying42,⟨rfl,⟨_,ti39⟩,rfl,⟨_,ti40⟩,trivial⟩⟩
theorem ts26:TS Tryz.prog 26 [(0,1),(1,1)]:=⟨_,Tryz.underlying26,⟨rfl,⟨_,ti23⟩,rfl,⟨_,ti24⟩,trivial⟩⟩
theorem Qhk:Qa4 137:=entr Tryz.func137
theorem Q9h:Qa4 139:=entr Tryz.func139
theorem Q89:Qa4 148:=entr Tryz.func148
theorem Q82:Qa4 156:=entr Tryz.func156
theorem Q9a:Qa4 147:=entr Tryz.func147
theorem Q9i:Qa4 138:=entr Tryz.func138
theorem Qst:TZ Tryz.prog 160 [.int .i64 0,.int .i64 0,.int .i64 0,.int .i64 0,.int .i64 0]:=Qg0 (by kernel_rfl)
theorem Qzx:Qa4 122:=entr Tryz.func122
theorem Q99:Qa4 100:=entr Tryz.func100
theorem Qjr:Qa4 65:=entr Tryz.func65
theorem Q9p:Qa4 125:=entr Tryz.func125
theorem Qzw:Qa4 128:=entr Tryz.func128
theorem Qna:Qa4 141:=entr Tryz.func141
theorem Qnb:Qa4 126:=entr Tryz.func126
theorem Qzy:Qa4 108:=entr Tryz.func108
theorem Q9o:Qa4 127:=entr Tryz.func127
theorem Q97:Qa4 102:=entr Tryz.func102
theorem Q9q:Qa4 124:=entr Tryz.func124
theorem Q9g:Qa4 140:=entr Tryz.func140
theorem Q9r:Qa4 123:=entr Tryz.func123
theorem Q98:Qa4 101:=entr Tryz.func101
theorem Qr3:CkT Tryz.prog 120 2:=ck2 Tryz.underlying120 Tryz.underlying3 Tryz.underlying3 rfl rfl
theorem zb4:∃ i,Tryz.prog.info? 4=some i∧i.zero=some (.bool false):=Zhp (by kernel_rfl)
theorem Quf:TZ Tryz.prog 133 [.int .u8 0,.slice none 0 0,.int .i64 0,.int .i64 0,.int .i64 0,.int .i64 0,.slice none 0 0]:=Qg0 (by kernel_rfl)
theorem Qoz:TZ Tryz.prog 120 [.int .i64 0,.int .i64 0]:=Qg0 (by kernel_rfl)
theorem Qzz:Qa4 103:=entr Tryz.func103
theorem Qtg:Qa4 66:=entr Tryz.func66
theorem Zh0:TZ Tryz.prog 190 [(.map none)]:=Qg0 (by kernel_rfl)
theorem Zez:Qa4 75:=entr Tryz.func75
theorem Q8a:TE Tryz.prog 120 2 16:=Qsu (by kernel_rfl) (by decide)
theorem Q91:Qa4 110:=entr Tryz.func110
theorem Q90:Qa4 111:=entr Tryz.func111
theorem Zey:Qa4 89:=entr Tryz.func89
theorem Q92:Qa4 109:=entr Tryz.func109
theorem Ze0:Qa4 73:=entr Tryz.func73
theorem tz3:TZ Tryz.prog 3 [.int .i64 0]:=Qg0 (by kernel_rfl)
theorem te3:TE Tryz.prog 3 1 8:=Qsu (by kernel_rfl) (by decide)
theorem Qql:Qa4 67:=entr Tryz.func67
theorem Qtj:Qa4 131:=entr Tryz.func131
theorem Q9x:Qa4 114:=entr Tryz.func114
theorem Q9y:Qa4 113:=entr Tryz.func113
theorem Q9m:Qa4 130:=entr Tryz.func130
theorem Q9f:Qa4 142:=entr Tryz.func142
theorem Q9n:Qa4 129:=entr Tryz.func129
theorem Q9z:Qa4 112:=entr Tryz.func112
theorem tz63:TZ Tryz.prog 63 [.int .i64 0,.int .i64 0,.int .i64 0,.int .i64 0]:=Qg0 (by kernel_rfl)
theorem Qxe:Qa4 76:=entr Tryz.func76
theorem Zex:Qa4 94:=entr Tryz.func94
theorem Q0z:TZ Tryz.prog 227 [.int .i64 0,.int .i64 0,.int .i64 0]:=Qg0 (by kernel_rfl)
theorem Q87:Qa4 150:=entr Tryz.func150
theorem Q81:Qa4 157:=entr Tryz.func157
theorem Q86:Qa4 151:=entr Tryz.func151
theorem Q85:Qa4 152:=entr Tryz.func152
theorem Qzt:Qa4 159:=entr Tryz.func159
theorem Q8x:Qa4 163:=entr Tryz.func163
theorem Qzs:Qa4 165:=entr Tryz.func165
theorem Q8w:Qa4 164:=entr Tryz.func164
theorem Q8y:Qa4 162:=entr Tryz.func162
theorem Q80:Qa4 158:=entr Tryz.func158
theorem Q84:Qa4 153:=entr Tryz.func153
theorem Qti:Qa4 154:=entr Tryz.func154
theorem te63:TE Tryz.prog 63 4 32:=Qsu (by kernel_rfl) (by decide)
theorem Zgs:TZ Tryz.prog 235 [(.pointer none),(.pointer none),(.pointer none),(.pointer none)]:=Qg0 (by kernel_rfl)
theorem Qm9:Qa4 161:=entr Tryz.func161
theorem Q8z:Qa4 160:=entr Tryz.func160
theorem Q83:Qa4 155:=entr Tryz.func155
theorem Zh4:TZ Tryz.prog 136 [(.pointer none)]:=Qg0 (by kernel_rfl)
theorem te45:TE Tryz.prog 45 1 24:=Qsu (by kernel_rfl) (by decide)
theorem tz45:TZ Tryz.prog 45 [.slice none 0 0]:=Qg0 (by kernel_rfl)
theorem te82:TE Tryz.prog 82 4 32:=Qsu (by kernel_rfl) (by decide)
theorem tz82:TZ Tryz.prog 82 [.int .i64 0,.int .i64 0,.int .i64 0,.int .i64 0]:=Qg0 (by kernel_rfl)
theorem Q52:Qa4 95:=entr Tryz.func95
theorem tz34:TZ Tryz.prog 34 [.slice none 0 0,.slice none 0 0,.slice none 0 0]:=Qg0 (by kernel_rfl)
theorem Zgw:TZ Tryz.prog 140 [.slice none 0 0,.slice none 0 0,.slice none 0 0,.slice none 0 0,.slice none 0 0,.slice none 0 0,.int .i64 0]:=Qg0 (by kernel_rfl)
theorem Zew:Qa4 96:=entr Tryz.func96
theorem Q53:Qa4 74:=entr Tryz.func74
theorem Q9v:Qa4 116:=entr Tryz.func116
theorem Qzv:Qa4 134:=entr Tryz.func134
theorem Q9k:Qa4 133:=entr Tryz.func133
theorem Q9l:Qa4 132:=entr Tryz.func132
theorem Q9w:Qa4 115:=entr Tryz.func115
theorem Zgv:TZ Tryz.prog 182 [.int .i64 0]:=Qg0 (by kernel_rfl)
theorem Zgu:TZ Tryz.prog 209 [.nilFunc,.nilFunc,.nilFunc,.nilFunc,.nilFunc,.nilFunc,.nilFunc]:=Qg0 (by kernel_rfl)
theorem Qtk:Qa4 117:=entr Tryz.func117
theorem Q9u:Qa4 118:=entr Tryz.func118
theorem Q76:TZ Tryz.prog 214 [.int .i64 0,.int .i64 0,.int .i64 0,.int .i64 0,.int .i64 0,.int .i64 0,.int .i64 0,.int .i64 0,.int .i64 0,.int .i64 0]:=Qg0 (by kernel_rfl)
theorem Q9e:Qa4 143:=entr Tryz.func143
theorem Zgt:TZ Tryz.prog 224 [.int .i64 0,.int .i64 0,.int .i64 0,.int .i64 0,.int .i64 0]:=Qg0 (by kernel_rfl)
theorem Q9d:Qa4 144:=entr Tryz.func144
theorem Q88:Qa4 149:=entr Tryz.func149
theorem Q9c:Qa4 145:=entr Tryz.func145
theorem Q9j:Qa4 135:=entr Tryz.func135
theorem Q9b:Qa4 146:=entr Tryz.func146
theorem Qzu:Qa4 136:=entr Tryz.func136
theorem Q9t:Qa4 119:=entr Tryz.func119
theorem Q9s:Qa4 120:=entr Tryz.func120
theorem Q51:Qa4 97:=entr Tryz.func97
theorem Ze7:Qa4 57:=entr Tryz.func57
theorem Q54:Qa4 58:=entr Tryz.func58
theorem tz42:TZ Tryz.prog 42 [.slice none 0 0,.slice none 0 0]:=Qg0 (by kernel_rfl)
theorem Ze8:Qa4 55:=entr Tryz.func55
theorem Zfa:Qa4 47:=entr Tryz.func47
theorem Zff:Qa4 16:=entr Tryz.func16
theorem Zh2:TZ Tryz.prog 149 [.int .i64 0,.int .i64 0,.int .i64 0,.int .i64 0,.int .i64 0]:=Qg0 (by kernel_rfl)
theorem Qik:Qa4 25:=entr Tryz.func25
theorem Zd8:TE Tryz.prog 160 5 40:=Qsu (by kernel_rfl) (by decide)
theorem Ze6:Qa4 59:=entr Tryz.func59
theorem tz59:TZ Tryz.prog 59 [.int .u8 0,.slice none 0 0,.int .i64 0,.int .i64 0,.int .i64 0,.int .i64 0,.slice none 0 0]:=Qg0 (by kernel_rfl)
theorem Zgz:TE Tryz.prog 133 7 88:=Qsu (by kernel_rfl) (by decide)
theorem Ze4:Qa4 69:=entr Tryz.func69
theorem Q93:Qa4 107:=entr Tryz.func107
theorem Ze3:Qa4 70:=entr Tryz.func70
theorem tz61:TZ Tryz.prog 61 [.int .i64 0,.int .i64 0]:=Qg0 (by kernel_rfl)
theorem Ze2:Qa4 71:=entr Tryz.func71
theorem Ze1:Qa4 72:=entr Tryz.func72
theorem te61:TE Tryz.prog 61 2 16:=Qsu (by kernel_rfl) (by decide)
theorem Zh3:TZ Tryz.prog 146 [.int .i64 0,.int .i64 0,.int .i64 0,.int .i64 0,.int .i64 0,.int .i64 0,.int .i64 0,.int .i64 0,.int .i64 0,.int .i64 0]:=Qg0 (by kernel_rfl)
theorem tz89:TZ Tryz.prog 89 [.int .i64 0,.int .i64 0,.int .i64 0,.int .i64 0]:=Qg0 (by kernel_rfl)
theorem Zh1:TZ Tryz.prog 151 [.int .i64 0,.int .i64 0,.int .i64 0]:=Qg0 (by kernel_rfl)
theorem tz4:TZ Tryz.prog 4 [.bool false]:=Qg0 (by kernel_rfl)
theorem Zfb:Qa4 29:=entr Tryz.func29
theorem Q56:Qa4 28:=entr Tryz.func28
theorem tz52:TZ Tryz.prog 52 [.slice none 0 0,.slice none 0 0,.slice none 0 0]:=Qg0 (by kernel_rfl)
theorem tz90:TZ Tryz.prog 90 [.int .i64 0,.int .i64 0,.int .i64 0,.int .i64 0]:=Qg0 (by kernel_rfl)
theorem tz28:TZ Tryz.prog 28 [.slice none 0 0]:=Qg0 (by kernel_rfl)
theorem Ze9:Qa4 49:=entr Tryz.func49
theorem tz92:TZ Tryz.prog 92 [.int .i64 0,.int .i64 0]:=Qg0 (by kernel_rfl)
theorem Zfg:Qa4 14:=entr Tryz.func14
theorem Qob:Qa4 15:=entr Tryz.func15
theorem Zfe:Qa4 17:=entr Tryz.func17
theorem Zfd:Qa4 18:=entr Tryz.func18
theorem Q96:Qa4 104:=entr Tryz.func104
theorem Q95:Qa4 105:=entr Tryz.func105
theorem Q94:Qa4 106:=entr Tryz.func106
theorem Ze5:Qa4 68:=entr Tryz.func68
theorem tz26:TZ Tryz.prog 26 [.slice none 0 0,.slice none 0 0]:=Qg0 (by kernel_rfl)
theorem te59:TE Tryz.prog 59 7 88:=Qsu (by kernel_rfl) (by decide)
theorem Zfc:Qa4 27:=entr Tryz.func27
theorem Qth:Qa4 31:=entr Tryz.func31
theorem Q55:Qa4 30:=entr Tryz.func30
theorem Qqk:EqT Tryz.prog 10000 120 2:=Qoa (d:=9998) Tryz.underlying120 (by kernel_rfl) (.int _ (by decide) rfl Tryz.underlying3 (.int _ (by decide) rfl Tryz.underlying3 (.nil _)))
theorem Zhg:EqT Tryz.prog 10000 63 4:=Qoa (d:=9998) Tryz.underlying63 (by kernel_rfl) (.int _ (by decide) rfl Tryz.underlying3 (.int _ (by decide) rfl Tryz.underlying3 (.int _ (by decide) rfl Tryz.underlying3 (.int _ (by decide) rfl Tryz.underlying3 (.nil _)))))
theorem Zis:EqT Tryz.prog 10000 61 2:=Qoa (d:=9998) Tryz.underlying61 (by kernel_rfl) (.int _ (by decide) rfl Tryz.underlying3 (.int _ (by decide) rfl Tryz.underlying3 (.nil _)))
def tyT:Tab:=.node 90 ⟨true,4,(some [.int .i64 0,.int .i64 0,.int .i64 0,.int .i64 0]),[(0,false,1),(1,false,1),(2,false,1),(3,false,1)]⟩ (.node 40 ⟨false,1,none,[]⟩ (.node 27 ⟨false,1,none,[]⟩ (.node 23 ⟨false,1,none,[]⟩ (.node 4 ⟨false,1,(some [.bool false]),[]⟩ (.node 3 ⟨false,1,(some [.int .i64 0]),[]⟩ .nil .nil) (.node 5 ⟨false,1,none,[]⟩ .nil .nil)) (.node 26 ⟨true,2,(some [.slice none 0 0,.slice none 0 0]),[(0,false,1),(1,false,1)]⟩ (.node 24 ⟨false,1,none,[]⟩ .nil .nil) .nil)) (.node 32 ⟨false,1,none,[]⟩ (.node 31 ⟨false,1,none,[]⟩ (.node 28 ⟨false,1,(some [.slice none 0 0]),[]⟩ .nil .nil) .nil) (.node 39 ⟨false,1,none,[]⟩ (.node 34 ⟨true,3,(some [.slice none 0 0,.slice none 0 0,.slice none 0 0]),[(0,false,1),(1,false,1),(2,false,1)]⟩ .nil .nil) .nil))) (.node 57 ⟨false,1,none,[]⟩ (.node 49 ⟨false,1,none,[]⟩ (.node 45 ⟨false,1,(some [.slice none 0 0]),[]⟩ (.node 42 ⟨true,2,(some [.slice none 0 0,.slice none 0 0]),[(0,false,1),(1,false,1)]⟩ .nil .nil) .nil) (.node 52 ⟨true,3,(some [.slice none 0 0,.slice none 0 0,.slice none 0 0]),[(0,false,1),(1,false,1),(2,false,1)]⟩ (.node 50 ⟨false,1,none,[]⟩ .nil .nil) .nil)) (.node 63 ⟨true,4,(some [.int .i64 0,.int .i64 0,.int .i64 0,.int .i64 0]),[(0,false,1),(1,false,1),(2,false,1),(3,false,1)]⟩ (.node 61 ⟨true,2,(some [.int .i64 0,.int .i64 0]),[(0,false,1),(1,false,1)]⟩ (.node 59 ⟨true,7,(some [.int .u8 0,.slice none 0 0,.int .i64 0,.int .i64 0,.int .i64 0,.int .i64 0,.slice none 0 0]),[(0,false,1),(1,false,1),(2,false,1),(3,false,1),(4,false,1),(5,false,1),(6,false,1)]⟩ .nil .nil) .nil) (.node 89 ⟨true,4,(some [.int .i64 0,.int .i64 0,.int .i64 0,.int .i64 0]),[(0,false,1),(1,false,1),(2,false,1),(3,false,1)]⟩ (.node 82 ⟨true,4,(some [.int .i64 0,.int .i64 0,.int .i64 0,.int .i64 0]),[(0,false,1),(1,false,1),(2,false,1),(3,false,1)]⟩ .nil .nil) .nil)))) (.node 189 ⟨false,1,none,[]⟩ (.node 146 ⟨true,10,(some [.int .i64 0,.int .i64 0,.int .i64 0,.int .i64 0,.int .i64 0,.int .i64 0,.int .i64 0,.int .i64 0,.int .i64 0,.int .i64 0]),[(0,true,4),(4,true,4),(8,false,1),(9,false,1)]⟩ (.node 133 ⟨true,7,(some [.int .u8 0,.slice none 0 0,.int .i64 0,.int .i64 0,.int .i64 0,.int .i64 0,.slice none 0 0]),[(0,false,1),(1,false,1),(2,false,1),(3,false,1),(4,false,1),(5,false,1),(6,false,1)]⟩ (.node 116 ⟨false,1,none,[]⟩ (.node 92 ⟨true,2,(some [.int .i64 0,.int .i64 0]),[(0,false,1),(1,false,1)]⟩ .nil .nil) (.node 120 ⟨true,2,(some [.int .i64 0,.int .i64 0]),[(0,false,1),(1,false,1)]⟩ .nil .nil)) (.node 140 ⟨true,7,(some [.slice none 0 0,.slice none 0 0,.slice none 0 0,.slice none 0 0,.slice none 0 0,.slice none 0 0,.int .i64 0]),[(0,true,2),(2,true,3),(5,false,1),(6,false,1)]⟩ (.node 136 ⟨false,1,(some [(.pointer none)]),[]⟩ .nil .nil) .nil)) (.node 160 ⟨true,5,(some [.int .i64 0,.int .i64 0,.int .i64 0,.int .i64 0,.int .i64 0]),[(0,false,1),(1,false,1),(2,false,1),(3,false,1),(4,false,1)]⟩ (.node 151 ⟨true,3,(some [.int .i64 0,.int .i64 0,.int .i64 0]),[(0,false,1),(1,false,1),(2,false,1)]⟩ (.node 149 ⟨true,5,(some [.int .i64 0,.int .i64 0,.int .i64 0,.int .i64 0,.int .i64 0]),[(0,false,1),(1,false,1),(2,false,1),(3,false,1),(4,false,1)]⟩ .nil .nil) .nil) (.node 182 ⟨true,1,(some [.int .i64 0]),[(0,false,1)]⟩ (.node 162 ⟨false,1,none,[]⟩ .nil .nil) .nil))) (.node 214 ⟨true,10,(some [.int .i64 0,.int .i64 0,.int .i64 0,.int .i64 0,.int .i64 0,.int .i64 0,.int .i64 0,.int .i64 0,.int .i64 0,.int .i64 0]),[(0,true,4),(4,true,4),(8,false,1),(9,false,1)]⟩ (.node 202 ⟨false,1,none,[]⟩ (.node 197 ⟨false,1,none,[]⟩ (.node 190 ⟨false,1,(some [(.map none)]),[]⟩ .nil .nil) .nil) (.node 209 ⟨true,7,(some [.nilFunc,.nilFunc,.nilFunc,.nilFunc,.nilFunc,.nilFunc,.nilFunc]),[]⟩ (.node 207 ⟨false,1,none,[]⟩ .nil .nil) .nil)) (.node 227 ⟨true,3,(some [.int .i64 0,.int .i64 0,.int .i64 0]),[(0,false,1),(1,false,1),(2,false,1)]⟩ (.node 224 ⟨true,5,(some [.int .i64 0,.int .i64 0,.int .i64 0,.int .i64 0,.int .i64 0]),[(0,true,5)]⟩ (.node 219 ⟨false,1,none,[]⟩ .nil .nil) .nil) (.node 235 ⟨true,4,(some [(.pointer none),(.pointer none),(.pointer none),(.pointer none)]),[]⟩ (.node 234 ⟨false,1,none,[]⟩ .nil .nil) .nil))))
theorem tbk:tyT.ok Tryz.prog:=⟨⟨ti90,tz90,.inr ⟨_,Tryz.underlying90,rfl,ti3,rfl,ti3,rfl,ti3,rfl,ti3,trivial⟩⟩,⟨⟨ti40,trivial,.inl rfl⟩,⟨⟨ti27,trivial,.inl rfl⟩,⟨⟨ti23,trivial,.inl rfl⟩,⟨⟨ti4,tz4,.inl rfl⟩,⟨⟨ti3,tz3,.inl rfl⟩,trivial,trivial⟩,⟨⟨ti5,trivial,.inl rfl⟩,trivial,trivial⟩⟩,⟨⟨ti26,tz26,.inr ⟨_,Tryz.underlying26,rfl,ti23,rfl,ti24,trivial⟩⟩,⟨⟨ti24,trivial,.inl rfl⟩,trivial,trivial⟩,trivial⟩⟩,⟨⟨ti32,trivial,.inl rfl⟩,⟨⟨ti31,trivial,.inl rfl⟩,⟨⟨ti28,tz28,.inl rfl⟩,trivial,trivial⟩,trivial⟩,⟨⟨ti39,trivial,.inl rfl⟩,⟨⟨ti34,tz34,.inr ⟨_,Tryz.underlying34,rfl,ti31,rfl,ti32,rfl,ti27,trivial⟩⟩,trivial,trivial⟩,trivial⟩⟩⟩,⟨⟨ti57,trivial,.inl rfl⟩,⟨⟨ti49,trivial,.inl rfl⟩,⟨⟨ti45,tz45,.inl rfl⟩,⟨⟨ti42,tz42,.inr ⟨_,Tryz.underlying42,rfl,ti39,rfl,ti40,trivial⟩⟩,trivial,trivial⟩,trivial⟩,⟨⟨ti52,tz52,.inr ⟨_,Tryz.underlying52,rfl,ti49,rfl,ti50,rfl,ti27,trivial⟩⟩,⟨⟨ti50,trivial,.inl rfl⟩,trivial,trivial⟩,trivial⟩⟩,⟨⟨ti63,tz63,.inr ⟨_,Tryz.underlying63,rfl,ti3,rfl,ti3,rfl,ti3,rfl,ti3,trivial⟩⟩,⟨⟨ti61,tz61,.inr ⟨_,Tryz.underlying61,rfl,ti3,rfl,ti3,trivial⟩⟩,⟨⟨ti59,tz59,.inr ⟨_,Tryz.underlying59,rfl,ti5,rfl,ti57,rfl,ti3,rfl,ti3,rfl,ti3,rfl,ti3,rfl,ti27,trivial⟩⟩,trivial,trivial⟩,trivial⟩,⟨⟨ti89,tz89,.inr ⟨_,Tryz.underlying89,rfl,ti3,rfl,ti3,rfl,ti3,rfl,ti3,trivial⟩⟩,⟨⟨ti82,tz82,.inr ⟨_,Tryz.underlying82,rfl,ti3,rfl,ti3,rfl,ti3,rfl,ti3,trivial⟩⟩,trivial,trivial⟩,trivial⟩⟩⟩⟩,⟨⟨Zic,trivial,.inl rfl⟩,⟨⟨Zig,Zh3,.inr ⟨_,Tryz.underlying146,rfl,ti89,rfl,ti89,rfl,ti3,rfl,ti3,trivial⟩⟩,⟨⟨Qg2,Quf,.inr ⟨_,Tryz.underlying133,rfl,ti5,rfl,Q79,rfl,ti3,rfl,ti3,rfl,ti3,rfl,ti3,rfl,ti27,trivial⟩⟩,⟨⟨Q79,trivial,.inl rfl⟩,⟨⟨ti92,tz92,.inr ⟨_,Tryz.underlying92,rfl,ti3,rfl,ti3,trivial⟩⟩,trivial,trivial⟩,⟨⟨Qkv,Qoz,.inr ⟨_,Tryz.underlying120,rfl,ti3,rfl,ti3,trivial⟩⟩,trivial,trivial⟩⟩,⟨⟨Zih,Zgw,.inr ⟨_,Tryz.underlying140,rfl,ti42,rfl,ti34,rfl,ti45,rfl,ti3,trivial⟩⟩,⟨⟨Qra,Zh4,.inl rfl⟩,trivial,trivial⟩,trivial⟩⟩,⟨⟨Qnx,Qst,.inr ⟨_,Tryz.underlying160,rfl,ti3,rfl,ti3,rfl,ti3,rfl,ti3,rfl,ti3,trivial⟩⟩,⟨⟨Zif,Zh1,.inr ⟨_,Tryz.underlying151,rfl,ti3,rfl,ti3,rfl,ti3,trivial⟩⟩,⟨⟨Qo0,Zh2,.inr ⟨_,Tryz.underlying149,rfl,ti3,rfl,ti3,rfl,ti3,rfl,ti3,rfl,ti3,trivial⟩⟩,trivial,trivial⟩,trivial⟩,⟨⟨Zid,Zgv,.inr ⟨_,Tryz.underlying182,rfl,ti3,trivial⟩⟩,⟨⟨Zie,trivial,.inl rfl⟩,trivial,trivial⟩,trivial⟩⟩⟩,⟨⟨Qwz,Q76,.inr ⟨_,Tryz.underlying214,rfl,ti63,rfl,ti63,rfl,ti3,rfl,ti3,trivial⟩⟩,⟨⟨Zia,trivial,.inl rfl⟩,⟨⟨Zib,trivial,.inl rfl⟩,⟨⟨Zd6,Zh0,.inl rfl⟩,trivial,trivial⟩,trivial⟩,⟨⟨Zh9,Zgu,.inl rfl⟩,⟨⟨Qms,trivial,.inl rfl⟩,trivial,trivial⟩,trivial⟩⟩,⟨⟨Q00,Q0z,.inr ⟨_,Tryz.underlying227,rfl,ti3,rfl,ti3,rfl,ti3,trivial⟩⟩,⟨⟨Zgy,Zgt,.inr ⟨_,Tryz.underlying224,rfl,Qnx,trivial⟩⟩,⟨⟨Zh8,trivial,.inl rfl⟩,trivial,trivial⟩,trivial⟩,⟨⟨Zgx,Zgs,.inl rfl⟩,⟨⟨Qq9,trivial,.inl rfl⟩,trivial,trivial⟩,trivial⟩⟩⟩⟩⟩
section
variable {ops : Array Oper} {X : Nat → Nat → Prop} {φ0 : Nat → FSlot} {w0 : World} {ro : Option Nat} {Q : Exit → AS → Prop} {s : AS} {id : Nat} {y : Code}
theorem wxz (h:AWp Tryz.prog X φ0 w0 ro y Q (Qnl tyT ops [] s)) (hm:MetX tyT ops [] s:=by exact ⟨by kernel_rfl,by kernel_rfl⟩):AWp Tryz.prog X φ0 w0 ro (.seq (.region id ops false) y) Q s:=Zhi tbk [] trivial h hm
theorem wxz1 (h:Q .normal (Qnl tyT ops [] s)) (hm:MetX tyT ops [] s:=by exact ⟨by kernel_rfl,by kernel_rfl⟩):AWp Tryz.prog X φ0 w0 ro (.region id ops false) Q s:=Zbx tbk [] trivial h hm
theorem wxe (h:AWp Tryz.prog X φ0 w0 ro y Q (Qnl tyT ops [] s)) (hf:Tryz.prog.follows .mixedOrders=true:=by kernel_rfl) (hm:MetX tyT ops [] s:=by exact ⟨by kernel_rfl,by kernel_rfl⟩) (ho:Qfe (ops.toList.zip (Qun tyT ops [] s)) [] []=true:=by kernel_rfl):AWp Tryz.prog X φ0 w0 ro (.seq (.region id ops true) y) Q s:=Zbw tbk [] trivial h hf hm ho
theorem wxe1 (h:Q .normal (Qnl tyT ops [] s)) (hf:Tryz.prog.follows .mixedOrders=true:=by kernel_rfl) (hm:MetX tyT ops [] s:=by exact ⟨by kernel_rfl,by kernel_rfl⟩) (ho:Qfe (ops.toList.zip (Qun tyT ops [] s)) [] []=true:=by kernel_rfl):AWp Tryz.prog X φ0 w0 ro (.region id ops true) Q s:=Q6h tbk [] trivial h hf hm ho
end
end Go.Proofs.YtmbhnllcfmiajaaGreat
