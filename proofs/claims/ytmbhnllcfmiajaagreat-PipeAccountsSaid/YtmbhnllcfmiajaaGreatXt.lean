/-
  The types of the program as Lean types, and how they lie in cells; facts on the program's types. No conditions.
-/
import Derived.Test.YtmbhnllcfmiajaaGreatEngY
import Derived.Test.YtmbhnllcfmiajaaGreatEngC
import Derived.Test.YtmbhnllcfmiajaaGreatEngA
import Derived.Test.YtmbhnllcfmiajaaGreatEngN
import Derived.Conc.MuLone
namespace Go.Proofs.YtmbhnllcfmiajaaGreat
set_option maxRecDepth 100000
open Go.RowKit
def Qba (g:FuncId):Prop:=∀ vals w,(callFunc g vals).run Tryz.prog w=.ok (.enter g vals) w
theorem entr {g : FuncId} {fn : Func} {c : Code} (h : Tryz.prog.funcs[g]? = some fn) (h1 : (fn.name == "runtime.NumGoroutine") = false := by kernel_rfl) (h2 : fn.body = some c := by rfl) : Qba g := fun vals w => MuLone.run_callFunc_enter h h1 h2 vals w
def Qal (x:Int):List AV:=[K .i64 x]
theorem Qae:∀ x,∀ a ∈ Qal x,NLt 0 a:=fun _=>Qmr (.lit _) Qt5
theorem Qjf:∀ x,(Qal x).all AV.one=true:=fun _=>rfl
structure GRow where
  T:Int
  P:Int
  Liquid:Int
  Vapour:Int
  Silica:Int
  deriving DecidableEq
def Qa4 (x:GRow):List AV:=Qal x.T++Qal x.P++Qal x.Liquid++Qal x.Vapour++Qal x.Silica
theorem Qai:∀ x,∀ a ∈ Qa4 x,NLt 0 a:=fun _=>(Qjd (Qjd (Qjd (Qjd (Qae _) (Qae _)) (Qae _)) (Qae _)) (Qae _))
def c_u8 (x:Int):List AV:=[K .u8 x]
theorem Zrp:∀ x,∀ a ∈ c_u8 x,NLt 0 a:=fun _=>Qmr (.lit _) Qt5
structure GPort where
  Element:Int
  Outlet:Int
  deriving DecidableEq
def Qap (x:GPort):List AV:=Qal x.Element++Qal x.Outlet
theorem Qay:∀ x,∀ a ∈ Qap x,NLt 0 a:=fun _=>(Qjd (Qae _) (Qae _))
theorem Zcy:∀ x,(Qap x).all AV.one=true:=fun _=>(Qo8 (Qjf _) (Qjf _))
def Qyt (x:(List GPort)):List AV:=[.dat 2 (x.map Qap)]
theorem Zc3:∀ x,∀ a ∈ Qyt x,NLt 0 a:=fun _=>Qmr (Qv3 Qay _) Qt5
def Q6i (x:(List Int)):List AV:=[.dat 1 (x.map Qal)]
theorem Zmz:∀ x,∀ a ∈ Q6i x,NLt 0 a:=fun _=>Qmr (Qv3 Qae _) Qt5
structure GElement where
  Kind:Int
  From:List GPort
  Level:Int
  Amount:Int
  Wide:Int
  Narrow:Int
  Weights:List Int
  deriving DecidableEq
def Qad (x:GElement):List AV:=c_u8 x.Kind++Qyt x.From++Qal x.Level++Qal x.Amount++Qal x.Wide++Qal x.Narrow++Q6i x.Weights
theorem Qab:∀ x,∀ a ∈ Qad x,NLt 0 a:=fun _=>(Qjd (Qjd (Qjd (Qjd (Qjd (Qjd (Zrp _) (Zc3 _)) (Qae _)) (Qae _)) (Qae _)) (Qae _)) (Zmz _))
def Zef (x:(List GRow)):List AV:=[.dat 5 (x.map Qa4)]
def Qur (x:(List GElement)):List AV:=[.dat 7 (x.map Qad)]
structure GNet where
  Table:List GRow
  Elements:List GElement
  deriving DecidableEq
def Qhz (x:GNet):List AV:=Zef x.Table++Qur x.Elements
structure GStream where
  Mass:Int
  Heat:Int
  Silica:Int
  Gas:Int
  deriving DecidableEq
def Qaa (x:GStream):List AV:=Qal x.Mass++Qal x.Heat++Qal x.Silica++Qal x.Gas
theorem Qac:∀ x,∀ a ∈ Qaa x,NLt 0 a:=fun _=>(Qjd (Qjd (Qjd (Qae _) (Qae _)) (Qae _)) (Qae _))
theorem Qt3:∀ x,(Qaa x).all AV.one=true:=fun _=>(Qo8 (Qo8 (Qo8 (Qjf _) (Qjf _)) (Qjf _)) (Qjf _))
structure GLoss where
  Heat:Int
  Silica:Int
  Gas:Int
  deriving DecidableEq
def Zeg (x:GLoss):List AV:=Qal x.Heat++Qal x.Silica++Qal x.Gas
def Qak (x:(List GStream)):List AV:=[.dat 4 (x.map Qaa)]
theorem Qam:∀ x,∀ a ∈ Qak x,NLt 0 a:=fun _=>Qmr (Qv3 Qac _) Qt5
structure GLost where
  Heat:Int
  Silica:Int
  Gas:Int
  Scale:Int
  deriving DecidableEq
def Qa0 (x:GLost):List AV:=Qal x.Heat++Qal x.Silica++Qal x.Gas++Qal x.Scale
theorem Qau:∀ x,∀ a ∈ Qa0 x,NLt 0 a:=fun _=>(Qjd (Qjd (Qjd (Qae _) (Qae _)) (Qae _)) (Qae _))
theorem Zcz:∀ x,(Qa0 x).all AV.one=true:=fun _=>(Qo8 (Qo8 (Qo8 (Qjf _) (Qjf _)) (Qjf _)) (Qjf _))
structure GFlash where
  Row:GRow
  deriving DecidableEq
def Qyv (x:GFlash):List AV:=Qa4 x.Row
structure GParts where
  Steam:GStream
  Water:GStream
  Rest:Int
  Scale:Int
  deriving DecidableEq
def Qyu (x:GParts):List AV:=Qaa x.Steam++Qaa x.Water++Qal x.Rest++Qal x.Scale
def Qot (x:Bool):List AV:=[B x]
theorem Qnq:∀ x,∀ a ∈ Qot x,NLt 0 a:=fun _=>Qmr (.lit _) Qt5
def Q3w (x:(List (List GStream))):List AV:=[.dat 1 (x.map Qak)]
def Zih (x:(List GLost)):List AV:=[.dat 4 (x.map Qa0)]
structure GTick where
  Out:List (List GStream)
  Lost:List GLost
  State:List Int
  deriving DecidableEq
def Zn6 (x:GTick):List AV:=Q3w x.Out++Zih x.Lost++Q6i x.State
structure GFall where
  Element:Int
  Scale:Int
  deriving DecidableEq
def Qfg (x:GFall):List AV:=Qal x.Element++Qal x.Scale
theorem Qgi:∀ x,∀ a ∈ Qfg x,NLt 0 a:=fun _=>(Qjd (Qae _) (Qae _))
theorem Qns:∀ x,∀ a ∈ Qal x,∃ v,a=.lit v:=fun _=>Zgq Zm6
theorem Qt9:∀ x,∀ a ∈ Qaa x,∃ v,a=.lit v:=fun _=>(Qrj (Qrj (Qrj (Qns _) (Qns _)) (Qns _)) (Qns _))
theorem Zde:∀ x,∀ a ∈ Qa0 x,∃ v,a=.lit v:=fun _=>(Qrj (Qrj (Qrj (Qns _) (Qns _)) (Qns _)) (Qns _))
theorem Qva:TI Tryz.prog 160 true 5:=⟨⟨_,Tryz.underlying160,rfl⟩,Qdb (by kernel_rfl)⟩
theorem Zq2:TI Tryz.prog 219 false 1:=⟨⟨_,Tryz.underlying219,rfl⟩,Qdb (by kernel_rfl)⟩
theorem ti3:TI Tryz.prog 3 false 1:=⟨⟨_,Tryz.underlying3,rfl⟩,Qdb (by kernel_rfl)⟩
theorem ti39:TI Tryz.prog 39 false 1:=⟨⟨_,Tryz.underlying39,rfl⟩,Qdb (by kernel_rfl)⟩
theorem ti40:TI Tryz.prog 40 false 1:=⟨⟨_,Tryz.underlying40,rfl⟩,Qdb (by kernel_rfl)⟩
theorem Qk0:TI Tryz.prog 133 true 7:=⟨⟨_,Tryz.underlying133,rfl⟩,Qdb (by kernel_rfl)⟩
theorem Zq6:TI Tryz.prog 189 false 1:=⟨⟨_,Tryz.underlying189,rfl⟩,Qdb (by kernel_rfl)⟩
theorem ti5:TI Tryz.prog 5 false 1:=⟨⟨_,Tryz.underlying5,rfl⟩,Qdb (by kernel_rfl)⟩
theorem Zmk:TI Tryz.prog 116 false 1:=⟨⟨_,Tryz.underlying116,rfl⟩,Qdb (by kernel_rfl)⟩
theorem ti27:TI Tryz.prog 27 false 1:=⟨⟨_,Tryz.underlying27,rfl⟩,Qdb (by kernel_rfl)⟩
theorem Zq5:TI Tryz.prog 197 false 1:=⟨⟨_,Tryz.underlying197,rfl⟩,Qdb (by kernel_rfl)⟩
theorem Qq3:TI Tryz.prog 120 true 2:=⟨⟨_,Tryz.underlying120,rfl⟩,Qdb (by kernel_rfl)⟩
theorem ti42:TI Tryz.prog 42 true 2:=⟨⟨_,Tryz.underlying42,rfl⟩,Qdb (by kernel_rfl)⟩
theorem Zmi:TI Tryz.prog 190 false 1:=⟨⟨_,Tryz.underlying190,rfl⟩,Qdb (by kernel_rfl)⟩
theorem ti63:TI Tryz.prog 63 true 4:=⟨⟨_,Tryz.underlying63,rfl⟩,Qdb (by kernel_rfl)⟩
theorem Zq4:TI Tryz.prog 202 false 1:=⟨⟨_,Tryz.underlying202,rfl⟩,Qdb (by kernel_rfl)⟩
theorem Q7o:TI Tryz.prog 227 true 3:=⟨⟨_,Tryz.underlying227,rfl⟩,Qdb (by kernel_rfl)⟩
theorem Zq8:TI Tryz.prog 162 false 1:=⟨⟨_,Tryz.underlying162,rfl⟩,Qdb (by kernel_rfl)⟩
theorem Qu9:TI Tryz.prog 234 false 1:=⟨⟨_,Tryz.underlying234,rfl⟩,Qdb (by kernel_rfl)⟩
theorem Zps:TI Tryz.prog 235 true 4:=⟨⟨_,Tryz.underlying235,rfl⟩,Qdb (by kernel_rfl)⟩
theorem ti31:TI Tryz.prog 31 false 1:=⟨⟨_,Tryz.underlying31,rfl⟩,Qdb (by kernel_rfl)⟩
theorem ti32:TI Tryz.prog 32 false 1:=⟨⟨_,Tryz.underlying32,rfl⟩,Qdb (by kernel_rfl)⟩
theorem ti34:TI Tryz.prog 34 true 3:=⟨⟨_,Tryz.underlying34,rfl⟩,Qdb (by kernel_rfl)⟩
theorem ti45:TI Tryz.prog 45 false 1:=⟨⟨_,Tryz.underlying45,rfl⟩,Qdb (by kernel_rfl)⟩
theorem Qvb:TI Tryz.prog 136 false 1:=⟨⟨_,Tryz.underlying136,rfl⟩,Qdb (by kernel_rfl)⟩
theorem Qpx:TI Tryz.prog 207 false 1:=⟨⟨_,Tryz.underlying207,rfl⟩,Qdb (by kernel_rfl)⟩
theorem Zq3:TI Tryz.prog 209 true 7:=⟨⟨_,Tryz.underlying209,rfl⟩,Qdb (by kernel_rfl)⟩
theorem ti82:TI Tryz.prog 82 true 4:=⟨⟨_,Tryz.underlying82,rfl⟩,Qdb (by kernel_rfl)⟩
theorem Q25:TI Tryz.prog 214 true 10:=⟨⟨_,Tryz.underlying214,rfl⟩,Qdb (by kernel_rfl)⟩
theorem Zpt:TI Tryz.prog 224 true 5:=⟨⟨_,Tryz.underlying224,rfl⟩,Qdb (by kernel_rfl)⟩
theorem Zq7:TI Tryz.prog 182 true 1:=⟨⟨_,Tryz.underlying182,rfl⟩,Qdb (by kernel_rfl)⟩
theorem Qsb:TI Tryz.prog 149 true 5:=⟨⟨_,Tryz.underlying149,rfl⟩,Qdb (by kernel_rfl)⟩
theorem ti23:TI Tryz.prog 23 false 1:=⟨⟨_,Tryz.underlying23,rfl⟩,Qdb (by kernel_rfl)⟩
theorem ti24:TI Tryz.prog 24 false 1:=⟨⟨_,Tryz.underlying24,rfl⟩,Qdb (by kernel_rfl)⟩
theorem ti59:TI Tryz.prog 59 true 7:=⟨⟨_,Tryz.underlying59,rfl⟩,Qdb (by kernel_rfl)⟩
theorem ti57:TI Tryz.prog 57 false 1:=⟨⟨_,Tryz.underlying57,rfl⟩,Qdb (by kernel_rfl)⟩
theorem ti61:TI Tryz.prog 61 true 2:=⟨⟨_,Tryz.underlying61,rfl⟩,Qdb (by kernel_rfl)⟩
theorem ti89:TI Tryz.prog 89 true 4:=⟨⟨_,Tryz.underlying89,rfl⟩,Qdb (by kernel_rfl)⟩
theorem Zmj:TI Tryz.prog 146 true 10:=⟨⟨_,Tryz.underlying146,rfl⟩,Qdb (by kernel_rfl)⟩
theorem ti4:TI Tryz.prog 4 false 1:=⟨⟨_,Tryz.underlying4,rfl⟩,Qdb (by kernel_rfl)⟩
theorem Zpu:TI Tryz.prog 151 true 3:=⟨⟨_,Tryz.underlying151,rfl⟩,Qdb (by kernel_rfl)⟩
theorem ti26:TI Tryz.prog 26 true 2:=⟨⟨_,Tryz.underlying26,rfl⟩,Qdb (by kernel_rfl)⟩
theorem ti49:TI Tryz.prog 49 false 1:=⟨⟨_,Tryz.underlying49,rfl⟩,Qdb (by kernel_rfl)⟩
theorem ti28:TI Tryz.prog 28 false 1:=⟨⟨_,Tryz.underlying28,rfl⟩,Qdb (by kernel_rfl)⟩
theorem ti50:TI Tryz.prog 50 false 1:=⟨⟨_,Tryz.underlying50,rfl⟩,Qdb (by kernel_rfl)⟩
theorem ti52:TI Tryz.prog 52 true 3:=⟨⟨_,Tryz.underlying52,rfl⟩,Qdb (by kernel_rfl)⟩
theorem ti90:TI Tryz.prog 90 true 4:=⟨⟨_,Tryz.underlying90,rfl⟩,Qdb (by kernel_rfl)⟩
theorem ti92:TI Tryz.prog 92 true 2:=⟨⟨_,Tryz.underlying92,rfl⟩,Qdb (by kernel_rfl)⟩
theorem Zq9:TI Tryz.prog 140 true 7:=⟨⟨_,Tryz.underlying140,rfl⟩,Qdb (by kernel_rfl)⟩
theorem Zb2:TS Tryz.prog 120 [(0,1),(1,1)]:=⟨_,Tryz.underlying120,⟨rfl,⟨_,ti3⟩,rfl,⟨_,ti3⟩,trivial⟩⟩
theorem ts63:TS Tryz.prog 63 [(0,1),(1,1),(2,1),(3,1)]:=⟨_,Tryz.underlying63,⟨rfl,⟨_,ti3⟩,rfl,⟨_,ti3⟩,rfl,⟨_,ti3⟩,rfl,⟨_,ti3⟩,trivial⟩⟩
theorem Zb1:TS Tryz.prog 227 [(0,1),(1,1),(2,1)]:=⟨_,Tryz.underlying227,⟨rfl,⟨_,ti3⟩,rfl,⟨_,ti3⟩,rfl,⟨_,ti3⟩,trivial⟩⟩
theorem ts34:TS Tryz.prog 34 [(0,1),(1,1),(2,1)]:=⟨_,Tryz.underlying34,⟨rfl,⟨_,ti31⟩,rfl,⟨_,ti32⟩,rfl,⟨_,ti27⟩,trivial⟩⟩
theorem Zq1:TS Tryz.prog 140 [(0,2),(2,3),(5,1),(6,1)]:=⟨_,Tryz.underlying140,⟨rfl,⟨_,ti42⟩,rfl,⟨_,ti34⟩,rfl,⟨_,ti45⟩,rfl,⟨_,ti3⟩,trivial⟩⟩
theorem Zq0:TS Tryz.prog 182 [(0,1)]:=⟨_,Tryz.underlying182,⟨rfl,⟨_,ti3⟩,trivial⟩⟩
theorem Zmh:TS Tryz.prog 214 [(0,4),(4,4),(8,1),(9,1)]:=⟨_,Tryz.underlying214,⟨rfl,⟨_,ti63⟩,rfl,⟨_,ti63⟩,rfl,⟨_,ti3⟩,rfl,⟨_,ti3⟩,trivial⟩⟩
theorem Zqz:TS Tryz.prog 224 [(0,5)]:=⟨_,Tryz.underlying224,⟨rfl,⟨_,Qva⟩,trivial⟩⟩
theorem Zf4:TS Tryz.prog 160 [(0,1),(1,1),(2,1),(3,1),(4,1)]:=⟨_,Tryz.underlying160,⟨rfl,⟨_,ti3⟩,rfl,⟨_,ti3⟩,rfl,⟨_,ti3⟩,rfl,⟨_,ti3⟩,rfl,⟨_,ti3⟩,trivial⟩⟩
theorem Zf5:TS Tryz.prog 133 [(0,1),(1,1),(2,1),(3,1),(4,1),(5,1),(6,1)]:=⟨_,Tryz.underlying133,⟨rfl,⟨_,ti5⟩,rfl,⟨_,Zmk⟩,rfl,⟨_,ti3⟩,rfl,⟨_,ti3⟩,rfl,⟨_,ti3⟩,rfl,⟨_,ti3⟩,rfl,⟨_,ti27⟩,trivial⟩⟩
theorem ts42:TS Tryz.prog 42 [(0,1),(1,1)]:=⟨_,Tryz.underlying42,⟨rfl,⟨_,ti39⟩,rfl,⟨_,ti40⟩,trivial⟩⟩
theorem ts82:TS Tryz.prog 82 [(0,1),(1,1),(2,1),(3,1)]:=⟨_,Tryz.underlying82,⟨rfl,⟨_,ti3⟩,rfl,⟨_,ti3⟩,rfl,⟨_,ti3⟩,rfl,⟨_,ti3⟩,trivial⟩⟩
theorem ts61:TS Tryz.prog 61 [(0,1),(1,1)]:=⟨_,Tryz.underlying61,⟨rfl,⟨_,ti3⟩,rfl,⟨_,ti3⟩,trivial⟩⟩
theorem ts89:TS Tryz.prog 89 [(0,1),(1,1),(2,1),(3,1)]:=⟨_,Tryz.underlying89,⟨rfl,⟨_,ti3⟩,rfl,⟨_,ti3⟩,rfl,⟨_,ti3⟩,rfl,⟨_,ti3⟩,trivial⟩⟩
theorem Zpr:TS Tryz.prog 151 [(0,1),(1,1),(2,1)]:=⟨_,Tryz.underlying151,⟨rfl,⟨_,ti3⟩,rfl,⟨_,ti3⟩,rfl,⟨_,ti3⟩,trivial⟩⟩
theorem ts52:TS Tryz.prog 52 [(0,1),(1,1),(2,1)]:=⟨_,Tryz.underlying52,⟨rfl,⟨_,ti49⟩,rfl,⟨_,ti50⟩,rfl,⟨_,ti27⟩,trivial⟩⟩
theorem ts90:TS Tryz.prog 90 [(0,1),(1,1),(2,1),(3,1)]:=⟨_,Tryz.underlying90,⟨rfl,⟨_,ti3⟩,rfl,⟨_,ti3⟩,rfl,⟨_,ti3⟩,rfl,⟨_,ti3⟩,trivial⟩⟩
theorem ts92:TS Tryz.prog 92 [(0,1),(1,1)]:=⟨_,Tryz.underlying92,⟨rfl,⟨_,ti3⟩,rfl,⟨_,ti3⟩,trivial⟩⟩
theorem Qi9:Qba 137:=entr Tryz.func137
theorem Zhn:Qba 139:=entr Tryz.func139
theorem Zhf:Qba 148:=entr Tryz.func148
theorem Zg8:Qba 156:=entr Tryz.func156
theorem Zhg:Qba 147:=entr Tryz.func147
theorem Zho:Qba 138:=entr Tryz.func138
theorem Q21:TZ Tryz.prog 160 [.int .i64 0,.int .i64 0,.int .i64 0,.int .i64 0,.int .i64 0]:=Qio (by kernel_rfl)
theorem Q6d:Qba 122:=entr Tryz.func122
theorem Zic:Qba 100:=entr Tryz.func100
theorem Qlv:Qba 65:=entr Tryz.func65
theorem Zhv:Qba 125:=entr Tryz.func125
theorem Q6c:Qba 128:=entr Tryz.func128
theorem Qqi:Qba 141:=entr Tryz.func141
theorem Qqj:Qba 126:=entr Tryz.func126
theorem Q6f:Qba 108:=entr Tryz.func108
theorem Zhu:Qba 127:=entr Tryz.func127
theorem Zia:Qba 102:=entr Tryz.func102
theorem Zhw:Qba 124:=entr Tryz.func124
theorem Zhm:Qba 140:=entr Tryz.func140
theorem Zhx:Qba 123:=entr Tryz.func123
theorem Zib:Qba 101:=entr Tryz.func101
theorem Qwe:CkT Tryz.prog 120 2:=ck2 Tryz.underlying120 Tryz.underlying3 Tryz.underlying3 rfl rfl
theorem zb4:∃ i,Tryz.prog.info? 4=some i∧i.zero=some (.bool false):=Zqk (by kernel_rfl)
theorem Q22:TZ Tryz.prog 133 [.int .u8 0,.slice none 0 0,.int .i64 0,.int .i64 0,.int .i64 0,.int .i64 0,.slice none 0 0]:=Qio (by kernel_rfl)
theorem Qu8:TZ Tryz.prog 120 [.int .i64 0,.int .i64 0]:=Qio (by kernel_rfl)
theorem Q6g:Qba 103:=entr Tryz.func103
theorem Zdz:Qba 66:=entr Tryz.func66
theorem Zqv:TZ Tryz.prog 190 [(.map none)]:=Qio (by kernel_rfl)
theorem Zdv:Qba 75:=entr Tryz.func75
theorem Zpv:TE Tryz.prog 120 2 16:=Qq4 (by kernel_rfl) (by decide)
theorem Q6e:Qba 110:=entr Tryz.func110
theorem Zh7:Qba 111:=entr Tryz.func111
theorem Zni:Qba 89:=entr Tryz.func89
theorem Zh8:Qba 109:=entr Tryz.func109
theorem Znj:Qba 73:=entr Tryz.func73
theorem tz3:TZ Tryz.prog 3 [.int .i64 0]:=Qio (by kernel_rfl)
theorem te3:TE Tryz.prog 3 1 8:=Qq4 (by kernel_rfl) (by decide)
theorem Q3r:Qba 67:=entr Tryz.func67
theorem Qyq:Qba 131:=entr Tryz.func131
theorem Zh4:Qba 114:=entr Tryz.func114
theorem Zh5:Qba 113:=entr Tryz.func113
theorem Zhs:Qba 130:=entr Tryz.func130
theorem Zhl:Qba 142:=entr Tryz.func142
theorem Zht:Qba 129:=entr Tryz.func129
theorem Zh6:Qba 112:=entr Tryz.func112
theorem tz63:TZ Tryz.prog 63 [.int .i64 0,.int .i64 0,.int .i64 0,.int .i64 0]:=Qio (by kernel_rfl)
theorem Quk:Qba 76:=entr Tryz.func76
theorem Znh:Qba 94:=entr Tryz.func94
theorem Q7m:TZ Tryz.prog 227 [.int .i64 0,.int .i64 0,.int .i64 0]:=Qio (by kernel_rfl)
theorem Zhd:Qba 150:=entr Tryz.func150
theorem Zg7:Qba 157:=entr Tryz.func157
theorem Zhc:Qba 151:=entr Tryz.func151
theorem Zhb:Qba 152:=entr Tryz.func152
theorem Q59:Qba 159:=entr Tryz.func159
theorem Zg3:Qba 163:=entr Tryz.func163
theorem Q58:Qba 165:=entr Tryz.func165
theorem Zg2:Qba 164:=entr Tryz.func164
theorem Zg4:Qba 162:=entr Tryz.func162
theorem Zg6:Qba 158:=entr Tryz.func158
theorem Zha:Qba 153:=entr Tryz.func153
theorem Qyo:Qba 154:=entr Tryz.func154
theorem te63:TE Tryz.prog 63 4 32:=Qq4 (by kernel_rfl) (by decide)
theorem Zpm:TZ Tryz.prog 235 [(.pointer none),(.pointer none),(.pointer none),(.pointer none)]:=Qio (by kernel_rfl)
theorem Qqh:Qba 161:=entr Tryz.func161
theorem Zg5:Qba 160:=entr Tryz.func160
theorem Zg9:Qba 155:=entr Tryz.func155
theorem Zqy:TZ Tryz.prog 136 [(.pointer none)]:=Qio (by kernel_rfl)
theorem te45:TE Tryz.prog 45 1 24:=Qq4 (by kernel_rfl) (by decide)
theorem tz45:TZ Tryz.prog 45 [.slice none 0 0]:=Qio (by kernel_rfl)
theorem te82:TE Tryz.prog 82 4 32:=Qq4 (by kernel_rfl) (by decide)
theorem tz82:TZ Tryz.prog 82 [.int .i64 0,.int .i64 0,.int .i64 0,.int .i64 0]:=Qio (by kernel_rfl)
theorem Zng:Qba 95:=entr Tryz.func95
theorem tz34:TZ Tryz.prog 34 [.slice none 0 0,.slice none 0 0,.slice none 0 0]:=Qio (by kernel_rfl)
theorem Zpq:TZ Tryz.prog 140 [.slice none 0 0,.slice none 0 0,.slice none 0 0,.slice none 0 0,.slice none 0 0,.slice none 0 0,.int .i64 0]:=Qio (by kernel_rfl)
theorem Znf:Qba 96:=entr Tryz.func96
theorem Zdw:Qba 74:=entr Tryz.func74
theorem Zh2:Qba 116:=entr Tryz.func116
theorem Q6b:Qba 134:=entr Tryz.func134
theorem Zhq:Qba 133:=entr Tryz.func133
theorem Zhr:Qba 132:=entr Tryz.func132
theorem Zh3:Qba 115:=entr Tryz.func115
theorem Zpp:TZ Tryz.prog 182 [.int .i64 0]:=Qio (by kernel_rfl)
theorem Zpo:TZ Tryz.prog 209 [.nilFunc,.nilFunc,.nilFunc,.nilFunc,.nilFunc,.nilFunc,.nilFunc]:=Qio (by kernel_rfl)
theorem Qyr:Qba 117:=entr Tryz.func117
theorem Zh1:Qba 118:=entr Tryz.func118
theorem Zf3:TZ Tryz.prog 214 [.int .i64 0,.int .i64 0,.int .i64 0,.int .i64 0,.int .i64 0,.int .i64 0,.int .i64 0,.int .i64 0,.int .i64 0,.int .i64 0]:=Qio (by kernel_rfl)
theorem Zhk:Qba 143:=entr Tryz.func143
theorem Zpn:TZ Tryz.prog 224 [.int .i64 0,.int .i64 0,.int .i64 0,.int .i64 0,.int .i64 0]:=Qio (by kernel_rfl)
theorem Zhj:Qba 144:=entr Tryz.func144
theorem Zhe:Qba 149:=entr Tryz.func149
theorem Zhi:Qba 145:=entr Tryz.func145
theorem Zhp:Qba 135:=entr Tryz.func135
theorem Zhh:Qba 146:=entr Tryz.func146
theorem Q6a:Qba 136:=entr Tryz.func136
theorem Zh0:Qba 119:=entr Tryz.func119
theorem Zhz:Qba 120:=entr Tryz.func120
theorem Zdu:Qba 97:=entr Tryz.func97
theorem Znr:Qba 57:=entr Tryz.func57
theorem Zd1:Qba 58:=entr Tryz.func58
theorem tz42:TZ Tryz.prog 42 [.slice none 0 0,.slice none 0 0]:=Qio (by kernel_rfl)
theorem Zns:Qba 55:=entr Tryz.func55
theorem Znt:Qba 47:=entr Tryz.func47
theorem Q3s:Qba 16:=entr Tryz.func16
theorem Zqw:TZ Tryz.prog 149 [.int .i64 0,.int .i64 0,.int .i64 0,.int .i64 0,.int .i64 0]:=Qio (by kernel_rfl)
theorem Qhs:Qba 25:=entr Tryz.func25
theorem Zra:TE Tryz.prog 160 5 40:=Qq4 (by kernel_rfl) (by decide)
theorem Znq:Qba 59:=entr Tryz.func59
theorem tz59:TZ Tryz.prog 59 [.int .u8 0,.slice none 0 0,.int .i64 0,.int .i64 0,.int .i64 0,.int .i64 0,.slice none 0 0]:=Qio (by kernel_rfl)
theorem Zrb:TE Tryz.prog 133 7 88:=Qq4 (by kernel_rfl) (by decide)
theorem Znl:Qba 69:=entr Tryz.func69
theorem Zh9:Qba 107:=entr Tryz.func107
theorem Znk:Qba 70:=entr Tryz.func70
theorem tz61:TZ Tryz.prog 61 [.int .i64 0,.int .i64 0]:=Qio (by kernel_rfl)
theorem Zdy:Qba 71:=entr Tryz.func71
theorem Zdx:Qba 72:=entr Tryz.func72
theorem te61:TE Tryz.prog 61 2 16:=Qq4 (by kernel_rfl) (by decide)
theorem Znp:Qba 60:=entr Tryz.func60
theorem Zqx:TZ Tryz.prog 146 [.int .i64 0,.int .i64 0,.int .i64 0,.int .i64 0,.int .i64 0,.int .i64 0,.int .i64 0,.int .i64 0,.int .i64 0,.int .i64 0]:=Qio (by kernel_rfl)
theorem tz89:TZ Tryz.prog 89 [.int .i64 0,.int .i64 0,.int .i64 0,.int .i64 0]:=Qio (by kernel_rfl)
theorem Zmg:TZ Tryz.prog 151 [.int .i64 0,.int .i64 0,.int .i64 0]:=Qio (by kernel_rfl)
theorem te4:TE Tryz.prog 4 1 1:=Qq4 (by kernel_rfl) (by decide)
theorem tz4:TZ Tryz.prog 4 [.bool false]:=Qio (by kernel_rfl)
theorem Q3q:Qba 99:=entr Tryz.func99
theorem te89:TE Tryz.prog 89 4 32:=Qq4 (by kernel_rfl) (by decide)
theorem Zhy:Qba 121:=entr Tryz.func121
theorem Zny:Qba 29:=entr Tryz.func29
theorem Zne:Qba 98:=entr Tryz.func98
theorem Qul:Qba 38:=entr Tryz.func38
theorem Znz:Qba 28:=entr Tryz.func28
theorem Znx:Qba 33:=entr Tryz.func33
theorem Zno:Qba 61:=entr Tryz.func61
theorem tz52:TZ Tryz.prog 52 [.slice none 0 0,.slice none 0 0,.slice none 0 0]:=Qio (by kernel_rfl)
theorem Znn:Qba 62:=entr Tryz.func62
theorem tz90:TZ Tryz.prog 90 [.int .i64 0,.int .i64 0,.int .i64 0,.int .i64 0]:=Qio (by kernel_rfl)
theorem Znm:Qba 63:=entr Tryz.func63
theorem Zd0:Qba 64:=entr Tryz.func64
theorem tz28:TZ Tryz.prog 28 [.slice none 0 0]:=Qio (by kernel_rfl)
theorem te28:TE Tryz.prog 28 1 24:=Qq4 (by kernel_rfl) (by decide)
theorem te90:TE Tryz.prog 90 4 32:=Qq4 (by kernel_rfl) (by decide)
theorem Zd2:Qba 37:=entr Tryz.func37
theorem tz92:TZ Tryz.prog 92 [.int .i64 0,.int .i64 0]:=Qio (by kernel_rfl)
theorem te92:TE Tryz.prog 92 2 16:=Qq4 (by kernel_rfl) (by decide)
theorem Zn0:Qba 22:=entr Tryz.func22
theorem Zn2:Qba 14:=entr Tryz.func14
theorem Qyp:Qba 15:=entr Tryz.func15
theorem Zd5:Qba 17:=entr Tryz.func17
theorem Zd4:Qba 18:=entr Tryz.func18
theorem Zd3:Qba 19:=entr Tryz.func19
theorem Zn1:Qba 20:=entr Tryz.func20
theorem Znw:Qba 34:=entr Tryz.func34
theorem Znv:Qba 35:=entr Tryz.func35
theorem Znu:Qba 36:=entr Tryz.func36
theorem Quh:EqT Tryz.prog 10000 120 2:=Qmd (d:=9998) Tryz.underlying120 (by kernel_rfl) (.int _ (by decide) rfl Tryz.underlying3 (.int _ (by decide) rfl Tryz.underlying3 (.nil _)))
theorem Zgz:EqT Tryz.prog 10000 63 4:=Qmd (d:=9998) Tryz.underlying63 (by kernel_rfl) (.int _ (by decide) rfl Tryz.underlying3 (.int _ (by decide) rfl Tryz.underlying3 (.int _ (by decide) rfl Tryz.underlying3 (.int _ (by decide) rfl Tryz.underlying3 (.nil _)))))
theorem Zrr:EqT Tryz.prog 10000 61 2:=Qmd (d:=9998) Tryz.underlying61 (by kernel_rfl) (.int _ (by decide) rfl Tryz.underlying3 (.int _ (by decide) rfl Tryz.underlying3 (.nil _)))
theorem Zqc:EqT Tryz.prog 10000 89 4:=Qmd (d:=9998) Tryz.underlying89 (by kernel_rfl) (.int _ (by decide) rfl Tryz.underlying3 (.int _ (by decide) rfl Tryz.underlying3 (.int _ (by decide) rfl Tryz.underlying3 (.int _ (by decide) rfl Tryz.underlying3 (.nil _)))))
theorem Zrq:EqT Tryz.prog 10000 82 4:=Qmd (d:=9998) Tryz.underlying82 (by kernel_rfl) (.int _ (by decide) rfl Tryz.underlying3 (.int _ (by decide) rfl Tryz.underlying3 (.int _ (by decide) rfl Tryz.underlying3 (.int _ (by decide) rfl Tryz.underlying3 (.nil _)))))
def tyT:Tab:=.node 90 ⟨true,4,(some [.int .i64 0,.int .i64 0,.int .i64 0,.int .i64 0]),[(0,false,1),(1,false,1),(2,false,1),(3,false,1)]⟩ (.node 40 ⟨false,1,none,[]⟩ (.node 27 ⟨false,1,none,[]⟩ (.node 23 ⟨false,1,none,[]⟩ (.node 4 ⟨false,1,(some [.bool false]),[]⟩ (.node 3 ⟨false,1,(some [.int .i64 0]),[]⟩ .nil .nil) (.node 5 ⟨false,1,none,[]⟩ .nil .nil)) (.node 26 ⟨true,2,none,[(0,false,1),(1,false,1)]⟩ (.node 24 ⟨false,1,none,[]⟩ .nil .nil) .nil)) (.node 32 ⟨false,1,none,[]⟩ (.node 31 ⟨false,1,none,[]⟩ (.node 28 ⟨false,1,(some [.slice none 0 0]),[]⟩ .nil .nil) .nil) (.node 39 ⟨false,1,none,[]⟩ (.node 34 ⟨true,3,(some [.slice none 0 0,.slice none 0 0,.slice none 0 0]),[(0,false,1),(1,false,1),(2,false,1)]⟩ .nil .nil) .nil))) (.node 57 ⟨false,1,none,[]⟩ (.node 49 ⟨false,1,none,[]⟩ (.node 45 ⟨false,1,(some [.slice none 0 0]),[]⟩ (.node 42 ⟨true,2,(some [.slice none 0 0,.slice none 0 0]),[(0,false,1),(1,false,1)]⟩ .nil .nil) .nil) (.node 52 ⟨true,3,(some [.slice none 0 0,.slice none 0 0,.slice none 0 0]),[(0,false,1),(1,false,1),(2,false,1)]⟩ (.node 50 ⟨false,1,none,[]⟩ .nil .nil) .nil)) (.node 63 ⟨true,4,(some [.int .i64 0,.int .i64 0,.int .i64 0,.int .i64 0]),[(0,false,1),(1,false,1),(2,false,1),(3,false,1)]⟩ (.node 61 ⟨true,2,(some [.int .i64 0,.int .i64 0]),[(0,false,1),(1,false,1)]⟩ (.node 59 ⟨true,7,(some [.int .u8 0,.slice none 0 0,.int .i64 0,.int .i64 0,.int .i64 0,.int .i64 0,.slice none 0 0]),[(0,false,1),(1,false,1),(2,false,1),(3,false,1),(4,false,1),(5,false,1),(6,false,1)]⟩ .nil .nil) .nil) (.node 89 ⟨true,4,(some [.int .i64 0,.int .i64 0,.int .i64 0,.int .i64 0]),[(0,false,1),(1,false,1),(2,false,1),(3,false,1)]⟩ (.node 82 ⟨true,4,(some [.int .i64 0,.int .i64 0,.int .i64 0,.int .i64 0]),[(0,false,1),(1,false,1),(2,false,1),(3,false,1)]⟩ .nil .nil) .nil)))) (.node 189 ⟨false,1,none,[]⟩ (.node 146 ⟨true,10,(some [.int .i64 0,.int .i64 0,.int .i64 0,.int .i64 0,.int .i64 0,.int .i64 0,.int .i64 0,.int .i64 0,.int .i64 0,.int .i64 0]),[(0,true,4),(4,true,4),(8,false,1),(9,false,1)]⟩ (.node 133 ⟨true,7,(some [.int .u8 0,.slice none 0 0,.int .i64 0,.int .i64 0,.int .i64 0,.int .i64 0,.slice none 0 0]),[(0,false,1),(1,false,1),(2,false,1),(3,false,1),(4,false,1),(5,false,1),(6,false,1)]⟩ (.node 116 ⟨false,1,none,[]⟩ (.node 92 ⟨true,2,(some [.int .i64 0,.int .i64 0]),[(0,false,1),(1,false,1)]⟩ .nil .nil) (.node 120 ⟨true,2,(some [.int .i64 0,.int .i64 0]),[(0,false,1),(1,false,1)]⟩ .nil .nil)) (.node 140 ⟨true,7,(some [.slice none 0 0,.slice none 0 0,.slice none 0 0,.slice none 0 0,.slice none 0 0,.slice none 0 0,.int .i64 0]),[(0,true,2),(2,true,3),(5,false,1),(6,false,1)]⟩ (.node 136 ⟨false,1,(some [(.pointer none)]),[]⟩ .nil .nil) .nil)) (.node 160 ⟨true,5,(some [.int .i64 0,.int .i64 0,.int .i64 0,.int .i64 0,.int .i64 0]),[(0,false,1),(1,false,1),(2,false,1),(3,false,1),(4,false,1)]⟩ (.node 151 ⟨true,3,(some [.int .i64 0,.int .i64 0,.int .i64 0]),[(0,false,1),(1,false,1),(2,false,1)]⟩ (.node 149 ⟨true,5,(some [.int .i64 0,.int .i64 0,.int .i64 0,.int .i64 0,.int .i64 0]),[(0,false,1),(1,false,1),(2,false,1),(3,false,1),(4,false,1)]⟩ .nil .nil) .nil) (.node 182 ⟨true,1,(some [.int .i64 0]),[(0,false,1)]⟩ (.node 162 ⟨false,1,none,[]⟩ .nil .nil) .nil))) (.node 214 ⟨true,10,(some [.int .i64 0,.int .i64 0,.int .i64 0,.int .i64 0,.int .i64 0,.int .i64 0,.int .i64 0,.int .i64 0,.int .i64 0,.int .i64 0]),[(0,true,4),(4,true,4),(8,false,1),(9,false,1)]⟩ (.node 202 ⟨false,1,none,[]⟩ (.node 197 ⟨false,1,none,[]⟩ (.node 190 ⟨false,1,(some [(.map none)]),[]⟩ .nil .nil) .nil) (.node 209 ⟨true,7,(some [.nilFunc,.nilFunc,.nilFunc,.nilFunc,.nilFunc,.nilFunc,.nilFunc]),[]⟩ (.node 207 ⟨false,1,none,[]⟩ .nil .nil) .nil)) (.node 227 ⟨true,3,(some [.int .i64 0,.int .i64 0,.int .i64 0]),[(0,false,1),(1,false,1),(2,false,1)]⟩ (.node 224 ⟨true,5,(some [.int .i64 0,.int .i64 0,.int .i64 0,.int .i64 0,.int .i64 0]),[(0,true,5)]⟩ (.node 219 ⟨false,1,none,[]⟩ .nil .nil) .nil) (.node 235 ⟨true,4,(some [(.pointer none),(.pointer none),(.pointer none),(.pointer none)]),[]⟩ (.node 234 ⟨false,1,none,[]⟩ .nil .nil) .nil))))
theorem tbk:tyT.ok Tryz.prog:=⟨⟨ti90,tz90,.inr ⟨_,Tryz.underlying90,rfl,ti3,rfl,ti3,rfl,ti3,rfl,ti3,trivial⟩⟩,⟨⟨ti40,trivial,.inl rfl⟩,⟨⟨ti27,trivial,.inl rfl⟩,⟨⟨ti23,trivial,.inl rfl⟩,⟨⟨ti4,tz4,.inl rfl⟩,⟨⟨ti3,tz3,.inl rfl⟩,trivial,trivial⟩,⟨⟨ti5,trivial,.inl rfl⟩,trivial,trivial⟩⟩,⟨⟨ti26,trivial,.inr ⟨_,Tryz.underlying26,rfl,ti23,rfl,ti24,trivial⟩⟩,⟨⟨ti24,trivial,.inl rfl⟩,trivial,trivial⟩,trivial⟩⟩,⟨⟨ti32,trivial,.inl rfl⟩,⟨⟨ti31,trivial,.inl rfl⟩,⟨⟨ti28,tz28,.inl rfl⟩,trivial,trivial⟩,trivial⟩,⟨⟨ti39,trivial,.inl rfl⟩,⟨⟨ti34,tz34,.inr ⟨_,Tryz.underlying34,rfl,ti31,rfl,ti32,rfl,ti27,trivial⟩⟩,trivial,trivial⟩,trivial⟩⟩⟩,⟨⟨ti57,trivial,.inl rfl⟩,⟨⟨ti49,trivial,.inl rfl⟩,⟨⟨ti45,tz45,.inl rfl⟩,⟨⟨ti42,tz42,.inr ⟨_,Tryz.underlying42,rfl,ti39,rfl,ti40,trivial⟩⟩,trivial,trivial⟩,trivial⟩,⟨⟨ti52,tz52,.inr ⟨_,Tryz.underlying52,rfl,ti49,rfl,ti50,rfl,ti27,trivial⟩⟩,⟨⟨ti50,trivial,.inl rfl⟩,trivial,trivial⟩,trivial⟩⟩,⟨⟨ti63,tz63,.inr ⟨_,Tryz.underlying63,rfl,ti3,rfl,ti3,rfl,ti3,rfl,ti3,trivial⟩⟩,⟨⟨ti61,tz61,.inr ⟨_,Tryz.underlying61,rfl,ti3,rfl,ti3,trivial⟩⟩,⟨⟨ti59,tz59,.inr ⟨_,Tryz.underlying59,rfl,ti5,rfl,ti57,rfl,ti3,rfl,ti3,rfl,ti3,rfl,ti3,rfl,ti27,trivial⟩⟩,trivial,trivial⟩,trivial⟩,⟨⟨ti89,tz89,.inr ⟨_,Tryz.underlying89,rfl,ti3,rfl,ti3,rfl,ti3,rfl,ti3,trivial⟩⟩,⟨⟨ti82,tz82,.inr ⟨_,Tryz.underlying82,rfl,ti3,rfl,ti3,rfl,ti3,rfl,ti3,trivial⟩⟩,trivial,trivial⟩,trivial⟩⟩⟩⟩,⟨⟨Zq6,trivial,.inl rfl⟩,⟨⟨Zmj,Zqx,.inr ⟨_,Tryz.underlying146,rfl,ti89,rfl,ti89,rfl,ti3,rfl,ti3,trivial⟩⟩,⟨⟨Qk0,Q22,.inr ⟨_,Tryz.underlying133,rfl,ti5,rfl,Zmk,rfl,ti3,rfl,ti3,rfl,ti3,rfl,ti3,rfl,ti27,trivial⟩⟩,⟨⟨Zmk,trivial,.inl rfl⟩,⟨⟨ti92,tz92,.inr ⟨_,Tryz.underlying92,rfl,ti3,rfl,ti3,trivial⟩⟩,trivial,trivial⟩,⟨⟨Qq3,Qu8,.inr ⟨_,Tryz.underlying120,rfl,ti3,rfl,ti3,trivial⟩⟩,trivial,trivial⟩⟩,⟨⟨Zq9,Zpq,.inr ⟨_,Tryz.underlying140,rfl,ti42,rfl,ti34,rfl,ti45,rfl,ti3,trivial⟩⟩,⟨⟨Qvb,Zqy,.inl rfl⟩,trivial,trivial⟩,trivial⟩⟩,⟨⟨Qva,Q21,.inr ⟨_,Tryz.underlying160,rfl,ti3,rfl,ti3,rfl,ti3,rfl,ti3,rfl,ti3,trivial⟩⟩,⟨⟨Zpu,Zmg,.inr ⟨_,Tryz.underlying151,rfl,ti3,rfl,ti3,rfl,ti3,trivial⟩⟩,⟨⟨Qsb,Zqw,.inr ⟨_,Tryz.underlying149,rfl,ti3,rfl,ti3,rfl,ti3,rfl,ti3,rfl,ti3,trivial⟩⟩,trivial,trivial⟩,trivial⟩,⟨⟨Zq7,Zpp,.inr ⟨_,Tryz.underlying182,rfl,ti3,trivial⟩⟩,⟨⟨Zq8,trivial,.inl rfl⟩,trivial,trivial⟩,trivial⟩⟩⟩,⟨⟨Q25,Zf3,.inr ⟨_,Tryz.underlying214,rfl,ti63,rfl,ti63,rfl,ti3,rfl,ti3,trivial⟩⟩,⟨⟨Zq4,trivial,.inl rfl⟩,⟨⟨Zq5,trivial,.inl rfl⟩,⟨⟨Zmi,Zqv,.inl rfl⟩,trivial,trivial⟩,trivial⟩,⟨⟨Zq3,Zpo,.inl rfl⟩,⟨⟨Qpx,trivial,.inl rfl⟩,trivial,trivial⟩,trivial⟩⟩,⟨⟨Q7o,Q7m,.inr ⟨_,Tryz.underlying227,rfl,ti3,rfl,ti3,rfl,ti3,trivial⟩⟩,⟨⟨Zpt,Zpn,.inr ⟨_,Tryz.underlying224,rfl,Qva,trivial⟩⟩,⟨⟨Zq2,trivial,.inl rfl⟩,trivial,trivial⟩,trivial⟩,⟨⟨Zps,Zpm,.inl rfl⟩,⟨⟨Qu9,trivial,.inl rfl⟩,trivial,trivial⟩,trivial⟩⟩⟩⟩⟩
section
variable {ops : Array Oper} {X : Nat → Nat → Prop} {φ0 : Nat → FSlot} {w0 : World} {ro : Option Nat} {Q : Exit → AS → Prop} {s : AS} {id : Nat} {y : Code}
theorem wxz (h:AWp Tryz.prog X φ0 w0 ro y Q (Qqt tyT ops [] s)) (hm:MetX tyT ops [] s:=by exact ⟨by kernel_rfl,by kernel_rfl⟩):AWp Tryz.prog X φ0 w0 ro (.seq (.region id ops false) y) Q s:=Zqe tbk [] trivial h hm
theorem wxz1 (h:Q .normal (Qqt tyT ops [] s)) (hm:MetX tyT ops [] s:=by exact ⟨by kernel_rfl,by kernel_rfl⟩):AWp Tryz.prog X φ0 w0 ro (.region id ops false) Q s:=Zj5 tbk [] trivial h hm
theorem wxe (h:AWp Tryz.prog X φ0 w0 ro y Q (Qqt tyT ops [] s)) (hf:Tryz.prog.follows .mixedOrders=true:=by kernel_rfl) (hm:MetX tyT ops [] s:=by exact ⟨by kernel_rfl,by kernel_rfl⟩) (ho:Qgk (ops.toList.zip (Q0f tyT ops [] s)) [] []=true:=by kernel_rfl):AWp Tryz.prog X φ0 w0 ro (.seq (.region id ops true) y) Q s:=Zj4 tbk [] trivial h hf hm ho
theorem wxe1 (h:Q .normal (Qqt tyT ops [] s)) (hf:Tryz.prog.follows .mixedOrders=true:=by kernel_rfl) (hm:MetX tyT ops [] s:=by exact ⟨by kernel_rfl,by kernel_rfl⟩) (ho:Qgk (ops.toList.zip (Q0f tyT ops [] s)) [] []=true:=by kernel_rfl):AWp Tryz.prog X φ0 w0 ro (.region id ops true) Q s:=Zek tbk [] trivial h hf hm ho
end
end Go.Proofs.YtmbhnllcfmiajaaGreat
