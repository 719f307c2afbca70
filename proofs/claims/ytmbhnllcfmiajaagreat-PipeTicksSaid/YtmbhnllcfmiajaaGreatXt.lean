/-
  The types of the program as Lean types, and how they lie in cells; facts on the program's types. No conditions.
-/
import Derived.Test.YtmbhnllcfmiajaaGreatEngY
import Derived.Test.YtmbhnllcfmiajaaGreatEngC
import Derived.Test.YtmbhnllcfmiajaaGreatEngA
import Derived.Test.YtmbhnllcfmiajaaGreatEngN
import Derived.Conc.MuLone
namespace Go.Proofs.YtmbhnllcfmiajaaGreat
set_option maxRecDepth 100000
open Go.RowKit
def Qbc (g:FuncId):Prop:=∀ vals w,(callFunc g vals).run Tryz.prog w=.ok (.enter g vals) w
theorem entr {g : FuncId} {fn : Func} {c : Code} (h : Tryz.prog.funcs[g]? = some fn) (h1 : (fn.name == "runtime.NumGoroutine") = false := by kernel_rfl) (h2 : fn.body = some c := by rfl) : Qbc g := fun vals w => MuLone.run_callFunc_enter h h1 h2 vals w
def Qak (x:Int):List AV:=[K .i64 x]
theorem Qae:∀ x,∀ a ∈ Qak x,NLt 0 a:=fun _=>Qma (.lit _) Qty
theorem Qku:∀ x,(Qak x).all AV.one=true:=fun _=>rfl
structure GRow where
  T:Int
  P:Int
  Liquid:Int
  Vapour:Int
  Silica:Int
  deriving DecidableEq
def Qa0 (x:GRow):List AV:=Qak x.T++Qak x.P++Qak x.Liquid++Qak x.Vapour++Qak x.Silica
theorem Qal:∀ x,∀ a ∈ Qa0 x,NLt 0 a:=fun _=>(Qjt (Qjt (Qjt (Qjt (Qae _) (Qae _)) (Qae _)) (Qae _)) (Qae _))
def c_u8 (x:Int):List AV:=[K .u8 x]
theorem Zny:∀ x,∀ a ∈ c_u8 x,NLt 0 a:=fun _=>Qma (.lit _) Qty
structure GPort where
  Element:Int
  Outlet:Int
  deriving DecidableEq
def Qas (x:GPort):List AV:=Qak x.Element++Qak x.Outlet
theorem Qa3:∀ x,∀ a ∈ Qas x,NLt 0 a:=fun _=>(Qjt (Qae _) (Qae _))
def Qxy (x:(List GPort)):List AV:=[.dat 2 (x.map Qas)]
theorem Zac:∀ x,∀ a ∈ Qxy x,NLt 0 a:=fun _=>Qma (Qvv Qa3 _) Qty
def Q5a (x:(List Int)):List AV:=[.dat 1 (x.map Qak)]
theorem Zju:∀ x,∀ a ∈ Q5a x,NLt 0 a:=fun _=>Qma (Qvv Qae _) Qty
structure GElement where
  Kind:Int
  From:List GPort
  Level:Int
  Amount:Int
  Wide:Int
  Narrow:Int
  Weights:List Int
  deriving DecidableEq
def Qad (x:GElement):List AV:=c_u8 x.Kind++Qxy x.From++Qak x.Level++Qak x.Amount++Qak x.Wide++Qak x.Narrow++Q5a x.Weights
theorem Qab:∀ x,∀ a ∈ Qad x,NLt 0 a:=fun _=>(Qjt (Qjt (Qjt (Qjt (Qjt (Qjt (Zny _) (Zac _)) (Qae _)) (Qae _)) (Qae _)) (Qae _)) (Zju _))
def Zbl (x:(List GRow)):List AV:=[.dat 5 (x.map Qa0)]
def Quj (x:(List GElement)):List AV:=[.dat 7 (x.map Qad)]
structure GNet where
  Table:List GRow
  Elements:List GElement
  deriving DecidableEq
def Qis (x:GNet):List AV:=Zbl x.Table++Quj x.Elements
structure GStream where
  Mass:Int
  Heat:Int
  Silica:Int
  Gas:Int
  deriving DecidableEq
def Qaa (x:GStream):List AV:=Qak x.Mass++Qak x.Heat++Qak x.Silica++Qak x.Gas
theorem Qac:∀ x,∀ a ∈ Qaa x,NLt 0 a:=fun _=>(Qjt (Qjt (Qjt (Qae _) (Qae _)) (Qae _)) (Qae _))
theorem Qtw:∀ x,(Qaa x).all AV.one=true:=fun _=>(Qq3 (Qq3 (Qq3 (Qku _) (Qku _)) (Qku _)) (Qku _))
structure GLoss where
  Heat:Int
  Silica:Int
  Gas:Int
  deriving DecidableEq
def Zbm (x:GLoss):List AV:=Qak x.Heat++Qak x.Silica++Qak x.Gas
def Qaf (x:(List GStream)):List AV:=[.dat 4 (x.map Qaa)]
theorem Qaj:∀ x,∀ a ∈ Qaf x,NLt 0 a:=fun _=>Qma (Qvv Qac _) Qty
structure GLost where
  Heat:Int
  Silica:Int
  Gas:Int
  Scale:Int
  deriving DecidableEq
def Qaw (x:GLost):List AV:=Qak x.Heat++Qak x.Silica++Qak x.Gas++Qak x.Scale
theorem Qaq:∀ x,∀ a ∈ Qaw x,NLt 0 a:=fun _=>(Qjt (Qjt (Qjt (Qae _) (Qae _)) (Qae _)) (Qae _))
theorem Q98:∀ x,(Qaw x).all AV.one=true:=fun _=>(Qq3 (Qq3 (Qq3 (Qku _) (Qku _)) (Qku _)) (Qku _))
structure GFlash where
  Row:GRow
  deriving DecidableEq
def Qx1 (x:GFlash):List AV:=Qa0 x.Row
structure GParts where
  Steam:GStream
  Water:GStream
  Rest:Int
  Scale:Int
  deriving DecidableEq
def Qx0 (x:GParts):List AV:=Qaa x.Steam++Qaa x.Water++Qak x.Rest++Qak x.Scale
def Qmo (x:Bool):List AV:=[B x]
theorem Qng:∀ x,∀ a ∈ Qmo x,NLt 0 a:=fun _=>Qma (.lit _) Qty
def Q2q (x:(List (List GStream))):List AV:=[.dat 1 (x.map Qaf)]
def Zfk (x:(List GLost)):List AV:=[.dat 4 (x.map Qaw)]
structure GTick where
  Out:List (List GStream)
  Lost:List GLost
  State:List Int
  deriving DecidableEq
def Qxz (x:GTick):List AV:=Q2q x.Out++Zfk x.Lost++Q5a x.State
structure GFall where
  Element:Int
  Scale:Int
  deriving DecidableEq
theorem Qnh:∀ x,∀ a ∈ Qak x,∃ v,a=.lit v:=fun _=>Zdx Zj1
theorem Qt2:∀ x,∀ a ∈ Qaa x,∃ v,a=.lit v:=fun _=>(Qq8 (Qq8 (Qq8 (Qnh _) (Qnh _)) (Qnh _)) (Qnh _))
theorem Zam:∀ x,∀ a ∈ Qaw x,∃ v,a=.lit v:=fun _=>(Qq8 (Qq8 (Qq8 (Qnh _) (Qnh _)) (Qnh _)) (Qnh _))
theorem Qu1:TI Tryz.prog 160 true 5:=⟨⟨_,Tryz.underlying160,rfl⟩,Qc7 (by kernel_rfl)⟩
theorem Znb:TI Tryz.prog 219 false 1:=⟨⟨_,Tryz.underlying219,rfl⟩,Qc7 (by kernel_rfl)⟩
theorem ti3:TI Tryz.prog 3 false 1:=⟨⟨_,Tryz.underlying3,rfl⟩,Qc7 (by kernel_rfl)⟩
theorem ti39:TI Tryz.prog 39 false 1:=⟨⟨_,Tryz.underlying39,rfl⟩,Qc7 (by kernel_rfl)⟩
theorem ti40:TI Tryz.prog 40 false 1:=⟨⟨_,Tryz.underlying40,rfl⟩,Qc7 (by kernel_rfl)⟩
theorem Qj1:TI Tryz.prog 133 true 7:=⟨⟨_,Tryz.underlying133,rfl⟩,Qc7 (by kernel_rfl)⟩
theorem Znf:TI Tryz.prog 189 false 1:=⟨⟨_,Tryz.underlying189,rfl⟩,Qc7 (by kernel_rfl)⟩
theorem ti5:TI Tryz.prog 5 false 1:=⟨⟨_,Tryz.underlying5,rfl⟩,Qc7 (by kernel_rfl)⟩
theorem Zja:TI Tryz.prog 116 false 1:=⟨⟨_,Tryz.underlying116,rfl⟩,Qc7 (by kernel_rfl)⟩
theorem ti27:TI Tryz.prog 27 false 1:=⟨⟨_,Tryz.underlying27,rfl⟩,Qc7 (by kernel_rfl)⟩
theorem Zne:TI Tryz.prog 197 false 1:=⟨⟨_,Tryz.underlying197,rfl⟩,Qc7 (by kernel_rfl)⟩
theorem Qlm:TI Tryz.prog 120 true 2:=⟨⟨_,Tryz.underlying120,rfl⟩,Qc7 (by kernel_rfl)⟩
theorem ti42:TI Tryz.prog 42 true 2:=⟨⟨_,Tryz.underlying42,rfl⟩,Qc7 (by kernel_rfl)⟩
theorem Zi8:TI Tryz.prog 190 false 1:=⟨⟨_,Tryz.underlying190,rfl⟩,Qc7 (by kernel_rfl)⟩
theorem ti63:TI Tryz.prog 63 true 4:=⟨⟨_,Tryz.underlying63,rfl⟩,Qc7 (by kernel_rfl)⟩
theorem Znd:TI Tryz.prog 202 false 1:=⟨⟨_,Tryz.underlying202,rfl⟩,Qc7 (by kernel_rfl)⟩
theorem Q6i:TI Tryz.prog 227 true 3:=⟨⟨_,Tryz.underlying227,rfl⟩,Qc7 (by kernel_rfl)⟩
theorem Znh:TI Tryz.prog 162 false 1:=⟨⟨_,Tryz.underlying162,rfl⟩,Qc7 (by kernel_rfl)⟩
theorem Qu0:TI Tryz.prog 234 false 1:=⟨⟨_,Tryz.underlying234,rfl⟩,Qc7 (by kernel_rfl)⟩
theorem Zl9:TI Tryz.prog 235 true 4:=⟨⟨_,Tryz.underlying235,rfl⟩,Qc7 (by kernel_rfl)⟩
theorem ti31:TI Tryz.prog 31 false 1:=⟨⟨_,Tryz.underlying31,rfl⟩,Qc7 (by kernel_rfl)⟩
theorem ti32:TI Tryz.prog 32 false 1:=⟨⟨_,Tryz.underlying32,rfl⟩,Qc7 (by kernel_rfl)⟩
theorem ti34:TI Tryz.prog 34 true 3:=⟨⟨_,Tryz.underlying34,rfl⟩,Qc7 (by kernel_rfl)⟩
theorem ti45:TI Tryz.prog 45 false 1:=⟨⟨_,Tryz.underlying45,rfl⟩,Qc7 (by kernel_rfl)⟩
theorem Qu2:TI Tryz.prog 136 false 1:=⟨⟨_,Tryz.underlying136,rfl⟩,Qc7 (by kernel_rfl)⟩
theorem Qpm:TI Tryz.prog 207 false 1:=⟨⟨_,Tryz.underlying207,rfl⟩,Qc7 (by kernel_rfl)⟩
theorem Znc:TI Tryz.prog 209 true 7:=⟨⟨_,Tryz.underlying209,rfl⟩,Qc7 (by kernel_rfl)⟩
theorem ti82:TI Tryz.prog 82 true 4:=⟨⟨_,Tryz.underlying82,rfl⟩,Qc7 (by kernel_rfl)⟩
theorem Q1w:TI Tryz.prog 214 true 10:=⟨⟨_,Tryz.underlying214,rfl⟩,Qc7 (by kernel_rfl)⟩
theorem Zma:TI Tryz.prog 224 true 5:=⟨⟨_,Tryz.underlying224,rfl⟩,Qc7 (by kernel_rfl)⟩
theorem Zng:TI Tryz.prog 182 true 1:=⟨⟨_,Tryz.underlying182,rfl⟩,Qc7 (by kernel_rfl)⟩
theorem Qmq:TI Tryz.prog 149 true 5:=⟨⟨_,Tryz.underlying149,rfl⟩,Qc7 (by kernel_rfl)⟩
theorem ti23:TI Tryz.prog 23 false 1:=⟨⟨_,Tryz.underlying23,rfl⟩,Qc7 (by kernel_rfl)⟩
theorem ti24:TI Tryz.prog 24 false 1:=⟨⟨_,Tryz.underlying24,rfl⟩,Qc7 (by kernel_rfl)⟩
theorem ti59:TI Tryz.prog 59 true 7:=⟨⟨_,Tryz.underlying59,rfl⟩,Qc7 (by kernel_rfl)⟩
theorem ti57:TI Tryz.prog 57 false 1:=⟨⟨_,Tryz.underlying57,rfl⟩,Qc7 (by kernel_rfl)⟩
theorem ti61:TI Tryz.prog 61 true 2:=⟨⟨_,Tryz.underlying61,rfl⟩,Qc7 (by kernel_rfl)⟩
theorem ti89:TI Tryz.prog 89 true 4:=⟨⟨_,Tryz.underlying89,rfl⟩,Qc7 (by kernel_rfl)⟩
theorem Zi9:TI Tryz.prog 146 true 10:=⟨⟨_,Tryz.underlying146,rfl⟩,Qc7 (by kernel_rfl)⟩
theorem ti4:TI Tryz.prog 4 false 1:=⟨⟨_,Tryz.underlying4,rfl⟩,Qc7 (by kernel_rfl)⟩
theorem Zmb:TI Tryz.prog 151 true 3:=⟨⟨_,Tryz.underlying151,rfl⟩,Qc7 (by kernel_rfl)⟩
theorem ti26:TI Tryz.prog 26 true 2:=⟨⟨_,Tryz.underlying26,rfl⟩,Qc7 (by kernel_rfl)⟩
theorem ti49:TI Tryz.prog 49 false 1:=⟨⟨_,Tryz.underlying49,rfl⟩,Qc7 (by kernel_rfl)⟩
theorem ti28:TI Tryz.prog 28 false 1:=⟨⟨_,Tryz.underlying28,rfl⟩,Qc7 (by kernel_rfl)⟩
theorem ti50:TI Tryz.prog 50 false 1:=⟨⟨_,Tryz.underlying50,rfl⟩,Qc7 (by kernel_rfl)⟩
theorem ti52:TI Tryz.prog 52 true 3:=⟨⟨_,Tryz.underlying52,rfl⟩,Qc7 (by kernel_rfl)⟩
theorem ti90:TI Tryz.prog 90 true 4:=⟨⟨_,Tryz.underlying90,rfl⟩,Qc7 (by kernel_rfl)⟩
theorem ti92:TI Tryz.prog 92 true 2:=⟨⟨_,Tryz.underlying92,rfl⟩,Qc7 (by kernel_rfl)⟩
theorem Zni:TI Tryz.prog 140 true 7:=⟨⟨_,Tryz.underlying140,rfl⟩,Qc7 (by kernel_rfl)⟩
theorem Qr3:TS Tryz.prog 120 [(0,1),(1,1)]:=⟨_,Tryz.underlying120,⟨rfl,⟨_,ti3⟩,rfl,⟨_,ti3⟩,trivial⟩⟩
theorem ts63:TS Tryz.prog 63 [(0,1),(1,1),(2,1),(3,1)]:=⟨_,Tryz.underlying63,⟨rfl,⟨_,ti3⟩,rfl,⟨_,ti3⟩,rfl,⟨_,ti3⟩,rfl,⟨_,ti3⟩,trivial⟩⟩
theorem Q9i:TS Tryz.prog 227 [(0,1),(1,1),(2,1)]:=⟨_,Tryz.underlying227,⟨rfl,⟨_,ti3⟩,rfl,⟨_,ti3⟩,rfl,⟨_,ti3⟩,trivial⟩⟩
theorem ts34:TS Tryz.prog 34 [(0,1),(1,1),(2,1)]:=⟨_,Tryz.underlying34,⟨rfl,⟨_,ti31⟩,rfl,⟨_,ti32⟩,rfl,⟨_,ti27⟩,trivial⟩⟩
theorem Zna:TS Tryz.prog 140 [(0,2),(2,3),(5,1),(6,1)]:=⟨_,Tryz.underlying140,⟨rfl,⟨_,ti42⟩,rfl,⟨_,ti34⟩,rfl,⟨_,ti45⟩,rfl,⟨_,ti3⟩,trivial⟩⟩
theorem Zm9:TS Tryz.prog 182 [(0,1)]:=⟨_,Tryz.underlying182,⟨rfl,⟨_,ti3⟩,trivial⟩⟩
theorem Zi7:TS Tryz.prog 214 [(0,4),(4,4),(8,1),(9,1)]:=⟨_,Tryz.underlying214,⟨rfl,⟨_,ti63⟩,rfl,⟨_,ti63⟩,rfl,⟨_,ti3⟩,rfl,⟨_,ti3⟩,trivial⟩⟩
theorem Zm8:TS Tryz.prog 224 [(0,5)]:=⟨_,Tryz.underlying224,⟨rfl,⟨_,Qu1⟩,trivial⟩⟩
theorem Zdc:TS Tryz.prog 160 [(0,1),(1,1),(2,1),(3,1),(4,1)]:=⟨_,Tryz.underlying160,⟨rfl,⟨_,ti3⟩,rfl,⟨_,ti3⟩,rfl,⟨_,ti3⟩,rfl,⟨_,ti3⟩,rfl,⟨_,ti3⟩,trivial⟩⟩
theorem Zdd:TS Tryz.prog 133 [(0,1),(1,1),(2,1),(3,1),(4,1),(5,1),(6,1)]:=⟨_,Tryz.underlying133,⟨rfl,⟨_,ti5⟩,rfl,⟨_,Zja⟩,rfl,⟨_,ti3⟩,rfl,⟨_,ti3⟩,rfl,⟨_,ti3⟩,rfl,⟨_,ti3⟩,rfl,⟨_,ti27⟩,trivial⟩⟩
theorem ts42:TS Tryz.prog 42 [(0,1),(1,1)]:=⟨_,Tryz.underlying42,⟨rfl,⟨_,ti39⟩,rfl,⟨_,ti40⟩,trivial⟩⟩
theorem ts89:TS Tryz.prog 89 [(0,1),(1,1),(2,1),(3,1)]:=⟨_,Tryz.underlying89,⟨rfl,⟨_,ti3⟩,rfl,⟨_,ti3⟩,rfl,⟨_,ti3⟩,rfl,⟨_,ti3⟩,trivial⟩⟩
theorem Zl8:TS Tryz.prog 151 [(0,1),(1,1),(2,1)]:=⟨_,Tryz.underlying151,⟨rfl,⟨_,ti3⟩,rfl,⟨_,ti3⟩,rfl,⟨_,ti3⟩,trivial⟩⟩
theorem ts52:TS Tryz.prog 52 [(0,1),(1,1),(2,1)]:=⟨_,Tryz.underlying52,⟨rfl,⟨_,ti49⟩,rfl,⟨_,ti50⟩,rfl,⟨_,ti27⟩,trivial⟩⟩
theorem ts90:TS Tryz.prog 90 [(0,1),(1,1),(2,1),(3,1)]:=⟨_,Tryz.underlying90,⟨rfl,⟨_,ti3⟩,rfl,⟨_,ti3⟩,rfl,⟨_,ti3⟩,rfl,⟨_,ti3⟩,trivial⟩⟩
theorem Qcw:Qbc 137:=entr Tryz.func137
theorem Zer:Qbc 139:=entr Tryz.func139
theorem Zej:Qbc 148:=entr Tryz.func148
theorem Zed:Qbc 156:=entr Tryz.func156
theorem Zek:Qbc 147:=entr Tryz.func147
theorem Zes:Qbc 138:=entr Tryz.func138
theorem Q1r:TZ Tryz.prog 160 [.int .i64 0,.int .i64 0,.int .i64 0,.int .i64 0,.int .i64 0]:=Qh8 (by kernel_rfl)
theorem Q47:Qbc 122:=entr Tryz.func122
theorem Qxw:Qbc 100:=entr Tryz.func100
theorem Qgd:Qbc 65:=entr Tryz.func65
theorem Zez:Qbc 125:=entr Tryz.func125
theorem Q46:Qbc 128:=entr Tryz.func128
theorem Qp6:Qbc 141:=entr Tryz.func141
theorem Qp7:Qbc 126:=entr Tryz.func126
theorem Qxv:Qbc 108:=entr Tryz.func108
theorem Zey:Qbc 127:=entr Tryz.func127
theorem Zff:Qbc 102:=entr Tryz.func102
theorem Ze0:Qbc 124:=entr Tryz.func124
theorem Zeq:Qbc 140:=entr Tryz.func140
theorem Ze1:Qbc 123:=entr Tryz.func123
theorem Zfg:Qbc 101:=entr Tryz.func101
theorem Qui:CkT Tryz.prog 120 2:=ck2 Tryz.underlying120 Tryz.underlying3 Tryz.underlying3 rfl rfl
theorem zb4:∃ i,Tryz.prog.info? 4=some i∧i.zero=some (.bool false):=Zm0 (by kernel_rfl)
theorem Q1s:TZ Tryz.prog 133 [.int .u8 0,.slice none 0 0,.int .i64 0,.int .i64 0,.int .i64 0,.int .i64 0,.slice none 0 0]:=Qh8 (by kernel_rfl)
theorem Qm1:TZ Tryz.prog 120 [.int .i64 0,.int .i64 0]:=Qh8 (by kernel_rfl)
theorem Qsi:Qbc 103:=entr Tryz.func103
theorem Qxr:Qbc 66:=entr Tryz.func66
theorem Zm4:TZ Tryz.prog 190 [(.map none)]:=Qh8 (by kernel_rfl)
theorem Zkf:Qbc 75:=entr Tryz.func75
theorem Zmc:TE Tryz.prog 120 2 16:=Qr4 (by kernel_rfl) (by decide)
theorem Zfc:Qbc 110:=entr Tryz.func110
theorem Zfb:Qbc 111:=entr Tryz.func111
theorem Zke:Qbc 89:=entr Tryz.func89
theorem Zfd:Qbc 109:=entr Tryz.func109
theorem Zkg:Qbc 73:=entr Tryz.func73
theorem tz3:TZ Tryz.prog 3 [.int .i64 0]:=Qh8 (by kernel_rfl)
theorem te3:TE Tryz.prog 3 1 8:=Qr4 (by kernel_rfl) (by decide)
theorem Qxq:Qbc 67:=entr Tryz.func67
theorem Qnw:Qbc 131:=entr Tryz.func131
theorem Ze8:Qbc 114:=entr Tryz.func114
theorem Ze9:Qbc 113:=entr Tryz.func113
theorem Zew:Qbc 130:=entr Tryz.func130
theorem Zep:Qbc 142:=entr Tryz.func142
theorem Zex:Qbc 129:=entr Tryz.func129
theorem Zfa:Qbc 112:=entr Tryz.func112
theorem tz63:TZ Tryz.prog 63 [.int .i64 0,.int .i64 0,.int .i64 0,.int .i64 0]:=Qh8 (by kernel_rfl)
theorem Q2j:Qbc 76:=entr Tryz.func76
theorem Zkd:Qbc 94:=entr Tryz.func94
theorem Q6f:TZ Tryz.prog 227 [.int .i64 0,.int .i64 0,.int .i64 0]:=Qh8 (by kernel_rfl)
theorem Zeh:Qbc 150:=entr Tryz.func150
theorem Zec:Qbc 157:=entr Tryz.func157
theorem Q43:Qbc 151:=entr Tryz.func151
theorem Zeg:Qbc 152:=entr Tryz.func152
theorem Q42:Qbc 159:=entr Tryz.func159
theorem Zd8:Qbc 163:=entr Tryz.func163
theorem Q41:Qbc 165:=entr Tryz.func165
theorem Zd7:Qbc 164:=entr Tryz.func164
theorem Zd9:Qbc 162:=entr Tryz.func162
theorem Zeb:Qbc 158:=entr Tryz.func158
theorem Zef:Qbc 153:=entr Tryz.func153
theorem Qxt:Qbc 154:=entr Tryz.func154
theorem te63:TE Tryz.prog 63 4 32:=Qr4 (by kernel_rfl) (by decide)
theorem Zl3:TZ Tryz.prog 235 [(.pointer none),(.pointer none),(.pointer none),(.pointer none)]:=Qh8 (by kernel_rfl)
theorem Qp5:Qbc 161:=entr Tryz.func161
theorem Zea:Qbc 160:=entr Tryz.func160
theorem Zee:Qbc 155:=entr Tryz.func155
theorem Zm7:TZ Tryz.prog 136 [(.pointer none)]:=Qh8 (by kernel_rfl)
theorem te45:TE Tryz.prog 45 1 24:=Qr4 (by kernel_rfl) (by decide)
theorem tz45:TZ Tryz.prog 45 [.slice none 0 0]:=Qh8 (by kernel_rfl)
theorem te82:TE Tryz.prog 82 4 32:=Qr4 (by kernel_rfl) (by decide)
theorem tz82:TZ Tryz.prog 82 [.int .i64 0,.int .i64 0,.int .i64 0,.int .i64 0]:=Qh8 (by kernel_rfl)
theorem Zkc:Qbc 95:=entr Tryz.func95
theorem tz34:TZ Tryz.prog 34 [.slice none 0 0,.slice none 0 0,.slice none 0 0]:=Qh8 (by kernel_rfl)
theorem Zl7:TZ Tryz.prog 140 [.slice none 0 0,.slice none 0 0,.slice none 0 0,.slice none 0 0,.slice none 0 0,.slice none 0 0,.int .i64 0]:=Qh8 (by kernel_rfl)
theorem Zkb:Qbc 96:=entr Tryz.func96
theorem Za4:Qbc 74:=entr Tryz.func74
theorem Ze6:Qbc 116:=entr Tryz.func116
theorem Q45:Qbc 134:=entr Tryz.func134
theorem Zeu:Qbc 133:=entr Tryz.func133
theorem Zev:Qbc 132:=entr Tryz.func132
theorem Ze7:Qbc 115:=entr Tryz.func115
theorem Zl6:TZ Tryz.prog 182 [.int .i64 0]:=Qh8 (by kernel_rfl)
theorem Zl5:TZ Tryz.prog 209 [.nilFunc,.nilFunc,.nilFunc,.nilFunc,.nilFunc,.nilFunc,.nilFunc]:=Qh8 (by kernel_rfl)
theorem Qxu:Qbc 117:=entr Tryz.func117
theorem Ze5:Qbc 118:=entr Tryz.func118
theorem Zdb:TZ Tryz.prog 214 [.int .i64 0,.int .i64 0,.int .i64 0,.int .i64 0,.int .i64 0,.int .i64 0,.int .i64 0,.int .i64 0,.int .i64 0,.int .i64 0]:=Qh8 (by kernel_rfl)
theorem Zeo:Qbc 143:=entr Tryz.func143
theorem Zl4:TZ Tryz.prog 224 [.int .i64 0,.int .i64 0,.int .i64 0,.int .i64 0,.int .i64 0]:=Qh8 (by kernel_rfl)
theorem Zen:Qbc 144:=entr Tryz.func144
theorem Zei:Qbc 149:=entr Tryz.func149
theorem Zem:Qbc 145:=entr Tryz.func145
theorem Zet:Qbc 135:=entr Tryz.func135
theorem Zel:Qbc 146:=entr Tryz.func146
theorem Q44:Qbc 136:=entr Tryz.func136
theorem Ze4:Qbc 119:=entr Tryz.func119
theorem Ze3:Qbc 120:=entr Tryz.func120
theorem Za3:Qbc 97:=entr Tryz.func97
theorem Zkn:Qbc 57:=entr Tryz.func57
theorem Za7:Qbc 58:=entr Tryz.func58
theorem tz42:TZ Tryz.prog 42 [.slice none 0 0,.slice none 0 0]:=Qh8 (by kernel_rfl)
theorem Zko:Qbc 55:=entr Tryz.func55
theorem Zkq:Qbc 47:=entr Tryz.func47
theorem Zbb:Qbc 16:=entr Tryz.func16
theorem Zm5:TZ Tryz.prog 149 [.int .i64 0,.int .i64 0,.int .i64 0,.int .i64 0,.int .i64 0]:=Qh8 (by kernel_rfl)
theorem Qcp:Qbc 25:=entr Tryz.func25
theorem Znj:TE Tryz.prog 160 5 40:=Qr4 (by kernel_rfl) (by decide)
theorem Zkm:Qbc 59:=entr Tryz.func59
theorem tz59:TZ Tryz.prog 59 [.int .u8 0,.slice none 0 0,.int .i64 0,.int .i64 0,.int .i64 0,.int .i64 0,.slice none 0 0]:=Qh8 (by kernel_rfl)
theorem Znk:TE Tryz.prog 133 7 88:=Qr4 (by kernel_rfl) (by decide)
theorem Q2l:Qbc 69:=entr Tryz.func69
theorem Zfe:Qbc 107:=entr Tryz.func107
theorem Za5:Qbc 70:=entr Tryz.func70
theorem tz61:TZ Tryz.prog 61 [.int .i64 0,.int .i64 0]:=Qh8 (by kernel_rfl)
theorem Q2k:Qbc 71:=entr Tryz.func71
theorem Zkh:Qbc 72:=entr Tryz.func72
theorem te61:TE Tryz.prog 61 2 16:=Qr4 (by kernel_rfl) (by decide)
theorem Zkl:Qbc 60:=entr Tryz.func60
theorem Zm6:TZ Tryz.prog 146 [.int .i64 0,.int .i64 0,.int .i64 0,.int .i64 0,.int .i64 0,.int .i64 0,.int .i64 0,.int .i64 0,.int .i64 0,.int .i64 0]:=Qh8 (by kernel_rfl)
theorem tz89:TZ Tryz.prog 89 [.int .i64 0,.int .i64 0,.int .i64 0,.int .i64 0]:=Qh8 (by kernel_rfl)
theorem Zi6:TZ Tryz.prog 151 [.int .i64 0,.int .i64 0,.int .i64 0]:=Qh8 (by kernel_rfl)
theorem te4:TE Tryz.prog 4 1 1:=Qr4 (by kernel_rfl) (by decide)
theorem tz4:TZ Tryz.prog 4 [.bool false]:=Qh8 (by kernel_rfl)
theorem Q2i:Qbc 99:=entr Tryz.func99
theorem te89:TE Tryz.prog 89 4 32:=Qr4 (by kernel_rfl) (by decide)
theorem Ze2:Qbc 121:=entr Tryz.func121
theorem Za8:Qbc 29:=entr Tryz.func29
theorem Zka:Qbc 98:=entr Tryz.func98
theorem Q2m:Qbc 38:=entr Tryz.func38
theorem Za9:Qbc 28:=entr Tryz.func28
theorem Zks:Qbc 33:=entr Tryz.func33
theorem Zkk:Qbc 61:=entr Tryz.func61
theorem tz52:TZ Tryz.prog 52 [.slice none 0 0,.slice none 0 0,.slice none 0 0]:=Qh8 (by kernel_rfl)
theorem Zkj:Qbc 62:=entr Tryz.func62
theorem tz90:TZ Tryz.prog 90 [.int .i64 0,.int .i64 0,.int .i64 0,.int .i64 0]:=Qh8 (by kernel_rfl)
theorem Zki:Qbc 63:=entr Tryz.func63
theorem Za6:Qbc 64:=entr Tryz.func64
theorem tz28:TZ Tryz.prog 28 [.slice none 0 0]:=Qh8 (by kernel_rfl)
theorem te28:TE Tryz.prog 28 1 24:=Qr4 (by kernel_rfl) (by decide)
theorem te90:TE Tryz.prog 90 4 32:=Qr4 (by kernel_rfl) (by decide)
theorem Zkp:Qbc 49:=entr Tryz.func49
theorem Zkr:Qbc 37:=entr Tryz.func37
theorem tz92:TZ Tryz.prog 92 [.int .i64 0,.int .i64 0]:=Qh8 (by kernel_rfl)
theorem Zkt:Qbc 22:=entr Tryz.func22
theorem Zbc:Qbc 14:=entr Tryz.func14
theorem Quc:Qbc 15:=entr Tryz.func15
theorem Zkx:Qbc 17:=entr Tryz.func17
theorem Zkw:Qbc 18:=entr Tryz.func18
theorem Zkv:Qbc 19:=entr Tryz.func19
theorem Zku:Qbc 20:=entr Tryz.func20
theorem Qxs:Qbc 21:=entr Tryz.func21
theorem Zba:Qbc 23:=entr Tryz.func23
theorem Qkz:EqT Tryz.prog 10000 120 2:=Qnu (d:=9998) Tryz.underlying120 (by kernel_rfl) (.int _ (by decide) rfl Tryz.underlying3 (.int _ (by decide) rfl Tryz.underlying3 (.nil _)))
theorem Q2h:EqT Tryz.prog 10000 63 4:=Qnu (d:=9998) Tryz.underlying63 (by kernel_rfl) (.int _ (by decide) rfl Tryz.underlying3 (.int _ (by decide) rfl Tryz.underlying3 (.int _ (by decide) rfl Tryz.underlying3 (.int _ (by decide) rfl Tryz.underlying3 (.nil _)))))
theorem Zn0:EqT Tryz.prog 10000 61 2:=Qnu (d:=9998) Tryz.underlying61 (by kernel_rfl) (.int _ (by decide) rfl Tryz.underlying3 (.int _ (by decide) rfl Tryz.underlying3 (.nil _)))
theorem Znz:EqT Tryz.prog 10000 89 4:=Qnu (d:=9998) Tryz.underlying89 (by kernel_rfl) (.int _ (by decide) rfl Tryz.underlying3 (.int _ (by decide) rfl Tryz.underlying3 (.int _ (by decide) rfl Tryz.underlying3 (.int _ (by decide) rfl Tryz.underlying3 (.nil _)))))
def tyT:Tab:=.node 90 ⟨true,4,(some [.int .i64 0,.int .i64 0,.int .i64 0,.int .i64 0]),[(0,false,1),(1,false,1),(2,false,1),(3,false,1)]⟩ (.node 40 ⟨false,1,none,[]⟩ (.node 27 ⟨false,1,none,[]⟩ (.node 23 ⟨false,1,none,[]⟩ (.node 4 ⟨false,1,(some [.bool false]),[]⟩ (.node 3 ⟨false,1,(some [.int .i64 0]),[]⟩ .nil .nil) (.node 5 ⟨false,1,none,[]⟩ .nil .nil)) (.node 26 ⟨true,2,none,[(0,false,1),(1,false,1)]⟩ (.node 24 ⟨false,1,none,[]⟩ .nil .nil) .nil)) (.node 32 ⟨false,1,none,[]⟩ (.node 31 ⟨false,1,none,[]⟩ (.node 28 ⟨false,1,(some [.slice none 0 0]),[]⟩ .nil .nil) .nil) (.node 39 ⟨false,1,none,[]⟩ (.node 34 ⟨true,3,(some [.slice none 0 0,.slice none 0 0,.slice none 0 0]),[(0,false,1),(1,false,1),(2,false,1)]⟩ .nil .nil) .nil))) (.node 57 ⟨false,1,none,[]⟩ (.node 49 ⟨false,1,none,[]⟩ (.node 45 ⟨false,1,(some [.slice none 0 0]),[]⟩ (.node 42 ⟨true,2,(some [.slice none 0 0,.slice none 0 0]),[(0,false,1),(1,false,1)]⟩ .nil .nil) .nil) (.node 52 ⟨true,3,(some [.slice none 0 0,.slice none 0 0,.slice none 0 0]),[(0,false,1),(1,false,1),(2,false,1)]⟩ (.node 50 ⟨false,1,none,[]⟩ .nil .nil) .nil)) (.node 63 ⟨true,4,(some [.int .i64 0,.int .i64 0,.int .i64 0,.int .i64 0]),[(0,false,1),(1,false,1),(2,false,1),(3,false,1)]⟩ (.node 61 ⟨true,2,(some [.int .i64 0,.int .i64 0]),[(0,false,1),(1,false,1)]⟩ (.node 59 ⟨true,7,(some [.int .u8 0,.slice none 0 0,.int .i64 0,.int .i64 0,.int .i64 0,.int .i64 0,.slice none 0 0]),[(0,false,1),(1,false,1),(2,false,1),(3,false,1),(4,false,1),(5,false,1),(6,false,1)]⟩ .nil .nil) .nil) (.node 89 ⟨true,4,(some [.int .i64 0,.int .i64 0,.int .i64 0,.int .i64 0]),[(0,false,1),(1,false,1),(2,false,1),(3,false,1)]⟩ (.node 82 ⟨true,4,(some [.int .i64 0,.int .i64 0,.int .i64 0,.int .i64 0]),[(0,false,1),(1,false,1),(2,false,1),(3,false,1)]⟩ .nil .nil) .nil)))) (.node 189 ⟨false,1,none,[]⟩ (.node 146 ⟨true,10,(some [.int .i64 0,.int .i64 0,.int .i64 0,.int .i64 0,.int .i64 0,.int .i64 0,.int .i64 0,.int .i64 0,.int .i64 0,.int .i64 0]),[(0,true,4),(4,true,4),(8,false,1),(9,false,1)]⟩ (.node 133 ⟨true,7,(some [.int .u8 0,.slice none 0 0,.int .i64 0,.int .i64 0,.int .i64 0,.int .i64 0,.slice none 0 0]),[(0,false,1),(1,false,1),(2,false,1),(3,false,1),(4,false,1),(5,false,1),(6,false,1)]⟩ (.node 116 ⟨false,1,none,[]⟩ (.node 92 ⟨true,2,(some [.int .i64 0,.int .i64 0]),[(0,false,1),(1,false,1)]⟩ .nil .nil) (.node 120 ⟨true,2,(some [.int .i64 0,.int .i64 0]),[(0,false,1),(1,false,1)]⟩ .nil .nil)) (.node 140 ⟨true,7,(some [.slice none 0 0,.slice none 0 0,.slice none 0 0,.slice none 0 0,.slice none 0 0,.slice none 0 0,.int .i64 0]),[(0,true,2),(2,true,3),(5,false,1),(6,false,1)]⟩ (.node 136 ⟨false,1,(some [(.pointer none)]),[]⟩ .nil .nil) .nil)) (.node 160 ⟨true,5,(some [.int .i64 0,.int .i64 0,.int .i64 0,.int .i64 0,.int .i64 0]),[(0,false,1),(1,false,1),(2,false,1),(3,false,1),(4,false,1)]⟩ (.node 151 ⟨true,3,(some [.int .i64 0,.int .i64 0,.int .i64 0]),[(0,false,1),(1,false,1),(2,false,1)]⟩ (.node 149 ⟨true,5,(some [.int .i64 0,.int .i64 0,.int .i64 0,.int .i64 0,.int .i64 0]),[(0,false,1),(1,false,1),(2,false,1),(3,false,1),(4,false,1)]⟩ .nil .nil) .nil) (.node 182 ⟨true,1,(some [.int .i64 0]),[(0,false,1)]⟩ (.node 162 ⟨false,1,none,[]⟩ .nil .nil) .nil))) (.node 214 ⟨true,10,(some [.int .i64 0,.int .i64 0,.int .i64 0,.int .i64 0,.int .i64 0,.int .i64 0,.int .i64 0,.int .i64 0,.int .i64 0,.int .i64 0]),[(0,true,4),(4,true,4),(8,false,1),(9,false,1)]⟩ (.node 202 ⟨false,1,none,[]⟩ (.node 197 ⟨false,1,none,[]⟩ (.node 190 ⟨false,1,(some [(.map none)]),[]⟩ .nil .nil) .nil) (.node 209 ⟨true,7,(some [.nilFunc,.nilFunc,.nilFunc,.nilFunc,.nilFunc,.nilFunc,.nilFunc]),[]⟩ (.node 207 ⟨false,1,none,[]⟩ .nil .nil) .nil)) (.node 227 ⟨true,3,(some [.int .i64 0,.int .i64 0,.int .i64 0]),[(0,false,1),(1,false,1),(2,false,1)]⟩ (.node 224 ⟨true,5,(some [.int .i64 0,.int .i64 0,.int .i64 0,.int .i64 0,.int .i64 0]),[(0,true,5)]⟩ (.node 219 ⟨false,1,none,[]⟩ .nil .nil) .nil) (.node 235 ⟨true,4,(some [(.pointer none),(.pointer none),(.pointer none),(.pointer none)]),[]⟩ (.node 234 ⟨false,1,none,[]⟩ .nil .nil) .nil))))
theorem tbk:tyT.ok Tryz.prog:=⟨⟨ti90,tz90,.inr ⟨_,Tryz.underlying90,rfl,ti3,rfl,ti3,rfl,ti3,rfl,ti3,trivial⟩⟩,⟨⟨ti40,trivial,.inl rfl⟩,⟨⟨ti27,trivial,.inl rfl⟩,⟨⟨ti23,trivial,.inl rfl⟩,⟨⟨ti4,tz4,.inl rfl⟩,⟨⟨ti3,tz3,.inl rfl⟩,trivial,trivial⟩,⟨⟨ti5,trivial,.inl rfl⟩,trivial,trivial⟩⟩,⟨⟨ti26,trivial,.inr ⟨_,Tryz.underlying26,rfl,ti23,rfl,ti24,trivial⟩⟩,⟨⟨ti24,trivial,.inl rfl⟩,trivial,trivial⟩,trivial⟩⟩,⟨⟨ti32,trivial,.inl rfl⟩,⟨⟨ti31,trivial,.inl rfl⟩,⟨⟨ti28,tz28,.inl rfl⟩,trivial,trivial⟩,trivial⟩,⟨⟨ti39,trivial,.inl rfl⟩,⟨⟨ti34,tz34,.inr ⟨_,Tryz.underlying34,rfl,ti31,rfl,ti32,rfl,ti27,trivial⟩⟩,trivial,trivial⟩,trivial⟩⟩⟩,⟨⟨ti57,trivial,.inl rfl⟩,⟨⟨ti49,trivial,.inl rfl⟩,⟨⟨ti45,tz45,.inl rfl⟩,⟨⟨ti42,tz42,.inr ⟨_,Tryz.underlying42,rfl,ti39,rfl,ti40,trivial⟩⟩,trivial,trivial⟩,trivial⟩,⟨⟨ti52,tz52,.inr ⟨_,Tryz.underlying52,rfl,ti49,rfl,ti50,rfl,ti27,trivial⟩⟩,⟨⟨ti50,trivial,.inl rfl⟩,trivial,trivial⟩,trivial⟩⟩,⟨⟨ti63,tz63,.inr ⟨_,Tryz.underlying63,rfl,ti3,rfl,ti3,rfl,ti3,rfl,ti3,trivial⟩⟩,⟨⟨ti61,tz61,.inr ⟨_,Tryz.underlying61,rfl,ti3,rfl,ti3,trivial⟩⟩,⟨⟨ti59,tz59,.inr ⟨_,Tryz.underlying59,rfl,ti5,rfl,ti57,rfl,ti3,rfl,ti3,rfl,ti3,rfl,ti3,rfl,ti27,trivial⟩⟩,trivial,trivial⟩,trivial⟩,⟨⟨ti89,tz89,.inr ⟨_,Tryz.underlying89,rfl,ti3,rfl,ti3,rfl,ti3,rfl,ti3,trivial⟩⟩,⟨⟨ti82,tz82,.inr ⟨_,Tryz.underlying82,rfl,ti3,rfl,ti3,rfl,ti3,rfl,ti3,trivial⟩⟩,trivial,trivial⟩,trivial⟩⟩⟩⟩,⟨⟨Znf,trivial,.inl rfl⟩,⟨⟨Zi9,Zm6,.inr ⟨_,Tryz.underlying146,rfl,ti89,rfl,ti89,rfl,ti3,rfl,ti3,trivial⟩⟩,⟨⟨Qj1,Q1s,.inr ⟨_,Tryz.underlying133,rfl,ti5,rfl,Zja,rfl,ti3,rfl,ti3,rfl,ti3,rfl,ti3,rfl,ti27,trivial⟩⟩,⟨⟨Zja,trivial,.inl rfl⟩,⟨⟨ti92,tz92,.inr ⟨_,Tryz.underlying92,rfl,ti3,rfl,ti3,trivial⟩⟩,trivial,trivial⟩,⟨⟨Qlm,Qm1,.inr ⟨_,Tryz.underlying120,rfl,ti3,rfl,ti3,trivial⟩⟩,trivial,trivial⟩⟩,⟨⟨Zni,Zl7,.inr ⟨_,Tryz.underlying140,rfl,ti42,rfl,ti34,rfl,ti45,rfl,ti3,trivial⟩⟩,⟨⟨Qu2,Zm7,.inl rfl⟩,trivial,trivial⟩,trivial⟩⟩,⟨⟨Qu1,Q1r,.inr ⟨_,Tryz.underlying160,rfl,ti3,rfl,ti3,rfl,ti3,rfl,ti3,rfl,ti3,trivial⟩⟩,⟨⟨Zmb,Zi6,.inr ⟨_,Tryz.underlying151,rfl,ti3,rfl,ti3,rfl,ti3,trivial⟩⟩,⟨⟨Qmq,Zm5,.inr ⟨_,Tryz.underlying149,rfl,ti3,rfl,ti3,rfl,ti3,rfl,ti3,rfl,ti3,trivial⟩⟩,trivial,trivial⟩,trivial⟩,⟨⟨Zng,Zl6,.inr ⟨_,Tryz.underlying182,rfl,ti3,trivial⟩⟩,⟨⟨Znh,trivial,.inl rfl⟩,trivial,trivial⟩,trivial⟩⟩⟩,⟨⟨Q1w,Zdb,.inr ⟨_,Tryz.underlying214,rfl,ti63,rfl,ti63,rfl,ti3,rfl,ti3,trivial⟩⟩,⟨⟨Znd,trivial,.inl rfl⟩,⟨⟨Zne,trivial,.inl rfl⟩,⟨⟨Zi8,Zm4,.inl rfl⟩,trivial,trivial⟩,trivial⟩,⟨⟨Znc,Zl5,.inl rfl⟩,⟨⟨Qpm,trivial,.inl rfl⟩,trivial,trivial⟩,trivial⟩⟩,⟨⟨Q6i,Q6f,.inr ⟨_,Tryz.underlying227,rfl,ti3,rfl,ti3,rfl,ti3,trivial⟩⟩,⟨⟨Zma,Zl4,.inr ⟨_,Tryz.underlying224,rfl,Qu1,trivial⟩⟩,⟨⟨Znb,trivial,.inl rfl⟩,trivial,trivial⟩,trivial⟩,⟨⟨Zl9,Zl3,.inl rfl⟩,⟨⟨Qu0,trivial,.inl rfl⟩,trivial,trivial⟩,trivial⟩⟩⟩⟩⟩
section
variable {ops : Array Oper} {X : Nat → Nat → Prop} {φ0 : Nat → FSlot} {w0 : World} {ro : Option Nat} {Q : Exit → AS → Prop} {s : AS} {id : Nat} {y : Code}
theorem wxz (h:AWp Tryz.prog X φ0 w0 ro y Q (Qqh tyT ops [] s)) (hm:MetX tyT ops [] s:=by exact ⟨by kernel_rfl,by kernel_rfl⟩):AWp Tryz.prog X φ0 w0 ro (.seq (.region id ops false) y) Q s:=Zmu tbk [] trivial h hm
theorem wxz1 (h:Q .normal (Qqh tyT ops [] s)) (hm:MetX tyT ops [] s:=by exact ⟨by kernel_rfl,by kernel_rfl⟩):AWp Tryz.prog X φ0 w0 ro (.region id ops false) Q s:=Zg5 tbk [] trivial h hm
theorem wxe (h:AWp Tryz.prog X φ0 w0 ro y Q (Qqh tyT ops [] s)) (hf:Tryz.prog.follows .mixedOrders=true:=by kernel_rfl) (hm:MetX tyT ops [] s:=by exact ⟨by kernel_rfl,by kernel_rfl⟩) (ho:Qgb (ops.toList.zip (Qzk tyT ops [] s)) [] []=true:=by kernel_rfl):AWp Tryz.prog X φ0 w0 ro (.seq (.region id ops true) y) Q s:=Zg4 tbk [] trivial h hf hm ho
theorem wxe1 (h:Q .normal (Qqh tyT ops [] s)) (hf:Tryz.prog.follows .mixedOrders=true:=by kernel_rfl) (hm:MetX tyT ops [] s:=by exact ⟨by kernel_rfl,by kernel_rfl⟩) (ho:Qgb (ops.toList.zip (Qzk tyT ops [] s)) [] []=true:=by kernel_rfl):AWp Tryz.prog X φ0 w0 ro (.region id ops true) Q s:=Zbq tbk [] trivial h hf hm ho
end
end Go.Proofs.YtmbhnllcfmiajaaGreat
