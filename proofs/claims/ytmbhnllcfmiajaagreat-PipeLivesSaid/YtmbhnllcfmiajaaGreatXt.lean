/-
  The types of the program as Lean types, and how they lie in cells; facts on the program's types. No conditions.
-/
import Derived.Test.YtmbhnllcfmiajaaGreatEngY
import Derived.Test.YtmbhnllcfmiajaaGreatEngC
import Derived.Test.YtmbhnllcfmiajaaGreatEngA
import Derived.Test.YtmbhnllcfmiajaaGreatEngN
import Derived.Conc.MuLone
namespace Go.Proofs.YtmbhnllcfmiajaaGreat
set_option maxRecDepth 100000
open Go.RowKit
def Qbc (g:FuncId):Prop:=∀ vals w,(callFunc g vals).run Tryz.prog w=.ok (.enter g vals) w
theorem entr {g : FuncId} {fn : Func} {c : Code} (h : Tryz.prog.funcs[g]? = some fn) (h1 : (fn.name == "runtime.NumGoroutine") = false := by kernel_rfl) (h2 : fn.body = some c := by rfl) : Qbc g := fun vals w => MuLone.run_callFunc_enter h h1 h2 vals w
def Qak (x:Int):List AV:=[K .i64 x]
theorem Qae:∀ x,∀ a ∈ Qak x,NLt 0 a:=fun _=>Qme (.lit _) Qtn
theorem Qj4:∀ x,(Qak x).all AV.one=true:=fun _=>rfl
structure GRow where
  T:Int
  P:Int
  Liquid:Int
  Vapour:Int
  Silica:Int
  deriving DecidableEq
def Qa0 (x:GRow):List AV:=Qak x.T++Qak x.P++Qak x.Liquid++Qak x.Vapour++Qak x.Silica
theorem Qaj:∀ x,∀ a ∈ Qa0 x,NLt 0 a:=fun _=>(Qjr (Qjr (Qjr (Qjr (Qae _) (Qae _)) (Qae _)) (Qae _)) (Qae _))
def c_u8 (x:Int):List AV:=[K .u8 x]
theorem Zn2:∀ x,∀ a ∈ c_u8 x,NLt 0 a:=fun _=>Qme (.lit _) Qtn
structure GPort where
  Element:Int
  Outlet:Int
  deriving DecidableEq
def Qas (x:GPort):List AV:=Qak x.Element++Qak x.Outlet
theorem Qa3:∀ x,∀ a ∈ Qas x,NLt 0 a:=fun _=>(Qjr (Qae _) (Qae _))
def Qxt (x:(List GPort)):List AV:=[.dat 2 (x.map Qas)]
theorem Zad:∀ x,∀ a ∈ Qxt x,NLt 0 a:=fun _=>Qme (Qvj Qa3 _) Qtn
def Q5e (x:(List Int)):List AV:=[.dat 1 (x.map Qak)]
theorem Zj1:∀ x,∀ a ∈ Q5e x,NLt 0 a:=fun _=>Qme (Qvj Qae _) Qtn
structure GElement where
  Kind:Int
  From:List GPort
  Level:Int
  Amount:Int
  Wide:Int
  Narrow:Int
  Weights:List Int
  deriving DecidableEq
def Qad (x:GElement):List AV:=c_u8 x.Kind++Qxt x.From++Qak x.Level++Qak x.Amount++Qak x.Wide++Qak x.Narrow++Q5e x.Weights
theorem Qab:∀ x,∀ a ∈ Qad x,NLt 0 a:=fun _=>(Qjr (Qjr (Qjr (Qjr (Qjr (Qjr (Zn2 _) (Zad _)) (Qae _)) (Qae _)) (Qae _)) (Qae _)) (Zj1 _))
def Zbj (x:(List GRow)):List AV:=[.dat 5 (x.map Qa0)]
def Qt8 (x:(List GElement)):List AV:=[.dat 7 (x.map Qad)]
structure GNet where
  Table:List GRow
  Elements:List GElement
  deriving DecidableEq
def Qhv (x:GNet):List AV:=Zbj x.Table++Qt8 x.Elements
structure GStream where
  Mass:Int
  Heat:Int
  Silica:Int
  Gas:Int
  deriving DecidableEq
def Qaa (x:GStream):List AV:=Qak x.Mass++Qak x.Heat++Qak x.Silica++Qak x.Gas
theorem Qac:∀ x,∀ a ∈ Qaa x,NLt 0 a:=fun _=>(Qjr (Qjr (Qjr (Qae _) (Qae _)) (Qae _)) (Qae _))
theorem Qtl:∀ x,(Qaa x).all AV.one=true:=fun _=>(Qqw (Qqw (Qqw (Qj4 _) (Qj4 _)) (Qj4 _)) (Qj4 _))
structure GLoss where
  Heat:Int
  Silica:Int
  Gas:Int
  deriving DecidableEq
def Zbk (x:GLoss):List AV:=Qak x.Heat++Qak x.Silica++Qak x.Gas
def Qah (x:(List GStream)):List AV:=[.dat 4 (x.map Qaa)]
theorem Qan:∀ x,∀ a ∈ Qah x,NLt 0 a:=fun _=>Qme (Qvj Qac _) Qtn
structure GLost where
  Heat:Int
  Silica:Int
  Gas:Int
  Scale:Int
  deriving DecidableEq
def Qay (x:GLost):List AV:=Qak x.Heat++Qak x.Silica++Qak x.Gas++Qak x.Scale
theorem Qaw:∀ x,∀ a ∈ Qay x,NLt 0 a:=fun _=>(Qjr (Qjr (Qjr (Qae _) (Qae _)) (Qae _)) (Qae _))
theorem Q99:∀ x,(Qay x).all AV.one=true:=fun _=>(Qqw (Qqw (Qqw (Qj4 _) (Qj4 _)) (Qj4 _)) (Qj4 _))
structure GFlash where
  Row:GRow
  deriving DecidableEq
def Qxv (x:GFlash):List AV:=Qa0 x.Row
structure GParts where
  Steam:GStream
  Water:GStream
  Rest:Int
  Scale:Int
  deriving DecidableEq
def Qxu (x:GParts):List AV:=Qaa x.Steam++Qaa x.Water++Qak x.Rest++Qak x.Scale
def Qmp (x:Bool):List AV:=[B x]
theorem Qng:∀ x,∀ a ∈ Qmp x,NLt 0 a:=fun _=>Qme (.lit _) Qtn
def Q2o (x:(List (List GStream))):List AV:=[.dat 1 (x.map Qah)]
def Zfj (x:(List GLost)):List AV:=[.dat 4 (x.map Qay)]
structure GTick where
  Out:List (List GStream)
  Lost:List GLost
  State:List Int
  deriving DecidableEq
def Zk9 (x:GTick):List AV:=Q2o x.Out++Zfj x.Lost++Q5e x.State
structure GFall where
  Element:Int
  Scale:Int
  deriving DecidableEq
theorem Qni:∀ x,∀ a ∈ Qak x,∃ v,a=.lit v:=fun _=>Zdw Zj8
theorem Qtr:∀ x,∀ a ∈ Qaa x,∃ v,a=.lit v:=fun _=>(Qq1 (Qq1 (Qq1 (Qni _) (Qni _)) (Qni _)) (Qni _))
theorem Zan:∀ x,∀ a ∈ Qay x,∃ v,a=.lit v:=fun _=>(Qq1 (Qq1 (Qq1 (Qni _) (Qni _)) (Qni _)) (Qni _))
theorem Quq:TI Tryz.prog 160 true 5:=⟨⟨_,Tryz.underlying160,rfl⟩,Qc8 (by kernel_rfl)⟩
theorem Znf:TI Tryz.prog 219 false 1:=⟨⟨_,Tryz.underlying219,rfl⟩,Qc8 (by kernel_rfl)⟩
theorem ti3:TI Tryz.prog 3 false 1:=⟨⟨_,Tryz.underlying3,rfl⟩,Qc8 (by kernel_rfl)⟩
theorem ti39:TI Tryz.prog 39 false 1:=⟨⟨_,Tryz.underlying39,rfl⟩,Qc8 (by kernel_rfl)⟩
theorem ti40:TI Tryz.prog 40 false 1:=⟨⟨_,Tryz.underlying40,rfl⟩,Qc8 (by kernel_rfl)⟩
theorem Qjz:TI Tryz.prog 133 true 7:=⟨⟨_,Tryz.underlying133,rfl⟩,Qc8 (by kernel_rfl)⟩
theorem Znj:TI Tryz.prog 189 false 1:=⟨⟨_,Tryz.underlying189,rfl⟩,Qc8 (by kernel_rfl)⟩
theorem ti5:TI Tryz.prog 5 false 1:=⟨⟨_,Tryz.underlying5,rfl⟩,Qc8 (by kernel_rfl)⟩
theorem Zjf:TI Tryz.prog 116 false 1:=⟨⟨_,Tryz.underlying116,rfl⟩,Qc8 (by kernel_rfl)⟩
theorem ti27:TI Tryz.prog 27 false 1:=⟨⟨_,Tryz.underlying27,rfl⟩,Qc8 (by kernel_rfl)⟩
theorem Zni:TI Tryz.prog 197 false 1:=⟨⟨_,Tryz.underlying197,rfl⟩,Qc8 (by kernel_rfl)⟩
theorem Qlo:TI Tryz.prog 120 true 2:=⟨⟨_,Tryz.underlying120,rfl⟩,Qc8 (by kernel_rfl)⟩
theorem ti42:TI Tryz.prog 42 true 2:=⟨⟨_,Tryz.underlying42,rfl⟩,Qc8 (by kernel_rfl)⟩
theorem Zjd:TI Tryz.prog 190 false 1:=⟨⟨_,Tryz.underlying190,rfl⟩,Qc8 (by kernel_rfl)⟩
theorem ti63:TI Tryz.prog 63 true 4:=⟨⟨_,Tryz.underlying63,rfl⟩,Qc8 (by kernel_rfl)⟩
theorem Znh:TI Tryz.prog 202 false 1:=⟨⟨_,Tryz.underlying202,rfl⟩,Qc8 (by kernel_rfl)⟩
theorem Q6m:TI Tryz.prog 227 true 3:=⟨⟨_,Tryz.underlying227,rfl⟩,Qc8 (by kernel_rfl)⟩
theorem Znl:TI Tryz.prog 162 false 1:=⟨⟨_,Tryz.underlying162,rfl⟩,Qc8 (by kernel_rfl)⟩
theorem Qup:TI Tryz.prog 234 false 1:=⟨⟨_,Tryz.underlying234,rfl⟩,Qc8 (by kernel_rfl)⟩
theorem Zmf:TI Tryz.prog 235 true 4:=⟨⟨_,Tryz.underlying235,rfl⟩,Qc8 (by kernel_rfl)⟩
theorem ti31:TI Tryz.prog 31 false 1:=⟨⟨_,Tryz.underlying31,rfl⟩,Qc8 (by kernel_rfl)⟩
theorem ti32:TI Tryz.prog 32 false 1:=⟨⟨_,Tryz.underlying32,rfl⟩,Qc8 (by kernel_rfl)⟩
theorem ti34:TI Tryz.prog 34 true 3:=⟨⟨_,Tryz.underlying34,rfl⟩,Qc8 (by kernel_rfl)⟩
theorem ti45:TI Tryz.prog 45 false 1:=⟨⟨_,Tryz.underlying45,rfl⟩,Qc8 (by kernel_rfl)⟩
theorem Qur:TI Tryz.prog 136 false 1:=⟨⟨_,Tryz.underlying136,rfl⟩,Qc8 (by kernel_rfl)⟩
theorem Qpj:TI Tryz.prog 207 false 1:=⟨⟨_,Tryz.underlying207,rfl⟩,Qc8 (by kernel_rfl)⟩
theorem Zng:TI Tryz.prog 209 true 7:=⟨⟨_,Tryz.underlying209,rfl⟩,Qc8 (by kernel_rfl)⟩
theorem ti82:TI Tryz.prog 82 true 4:=⟨⟨_,Tryz.underlying82,rfl⟩,Qc8 (by kernel_rfl)⟩
theorem Q1t:TI Tryz.prog 214 true 10:=⟨⟨_,Tryz.underlying214,rfl⟩,Qc8 (by kernel_rfl)⟩
theorem Zmg:TI Tryz.prog 224 true 5:=⟨⟨_,Tryz.underlying224,rfl⟩,Qc8 (by kernel_rfl)⟩
theorem Znk:TI Tryz.prog 182 true 1:=⟨⟨_,Tryz.underlying182,rfl⟩,Qc8 (by kernel_rfl)⟩
theorem Qmr:TI Tryz.prog 149 true 5:=⟨⟨_,Tryz.underlying149,rfl⟩,Qc8 (by kernel_rfl)⟩
theorem ti23:TI Tryz.prog 23 false 1:=⟨⟨_,Tryz.underlying23,rfl⟩,Qc8 (by kernel_rfl)⟩
theorem ti24:TI Tryz.prog 24 false 1:=⟨⟨_,Tryz.underlying24,rfl⟩,Qc8 (by kernel_rfl)⟩
theorem ti59:TI Tryz.prog 59 true 7:=⟨⟨_,Tryz.underlying59,rfl⟩,Qc8 (by kernel_rfl)⟩
theorem ti57:TI Tryz.prog 57 false 1:=⟨⟨_,Tryz.underlying57,rfl⟩,Qc8 (by kernel_rfl)⟩
theorem ti61:TI Tryz.prog 61 true 2:=⟨⟨_,Tryz.underlying61,rfl⟩,Qc8 (by kernel_rfl)⟩
theorem ti89:TI Tryz.prog 89 true 4:=⟨⟨_,Tryz.underlying89,rfl⟩,Qc8 (by kernel_rfl)⟩
theorem Zje:TI Tryz.prog 146 true 10:=⟨⟨_,Tryz.underlying146,rfl⟩,Qc8 (by kernel_rfl)⟩
theorem ti4:TI Tryz.prog 4 false 1:=⟨⟨_,Tryz.underlying4,rfl⟩,Qc8 (by kernel_rfl)⟩
theorem Zmh:TI Tryz.prog 151 true 3:=⟨⟨_,Tryz.underlying151,rfl⟩,Qc8 (by kernel_rfl)⟩
theorem ti26:TI Tryz.prog 26 true 2:=⟨⟨_,Tryz.underlying26,rfl⟩,Qc8 (by kernel_rfl)⟩
theorem ti49:TI Tryz.prog 49 false 1:=⟨⟨_,Tryz.underlying49,rfl⟩,Qc8 (by kernel_rfl)⟩
theorem ti28:TI Tryz.prog 28 false 1:=⟨⟨_,Tryz.underlying28,rfl⟩,Qc8 (by kernel_rfl)⟩
theorem ti50:TI Tryz.prog 50 false 1:=⟨⟨_,Tryz.underlying50,rfl⟩,Qc8 (by kernel_rfl)⟩
theorem ti52:TI Tryz.prog 52 true 3:=⟨⟨_,Tryz.underlying52,rfl⟩,Qc8 (by kernel_rfl)⟩
theorem ti90:TI Tryz.prog 90 true 4:=⟨⟨_,Tryz.underlying90,rfl⟩,Qc8 (by kernel_rfl)⟩
theorem ti92:TI Tryz.prog 92 true 2:=⟨⟨_,Tryz.underlying92,rfl⟩,Qc8 (by kernel_rfl)⟩
theorem Znm:TI Tryz.prog 140 true 7:=⟨⟨_,Tryz.underlying140,rfl⟩,Qc8 (by kernel_rfl)⟩
theorem Qru:TS Tryz.prog 120 [(0,1),(1,1)]:=⟨_,Tryz.underlying120,⟨rfl,⟨_,ti3⟩,rfl,⟨_,ti3⟩,trivial⟩⟩
theorem ts63:TS Tryz.prog 63 [(0,1),(1,1),(2,1),(3,1)]:=⟨_,Tryz.underlying63,⟨rfl,⟨_,ti3⟩,rfl,⟨_,ti3⟩,rfl,⟨_,ti3⟩,rfl,⟨_,ti3⟩,trivial⟩⟩
theorem Q9j:TS Tryz.prog 227 [(0,1),(1,1),(2,1)]:=⟨_,Tryz.underlying227,⟨rfl,⟨_,ti3⟩,rfl,⟨_,ti3⟩,rfl,⟨_,ti3⟩,trivial⟩⟩
theorem ts34:TS Tryz.prog 34 [(0,1),(1,1),(2,1)]:=⟨_,Tryz.underlying34,⟨rfl,⟨_,ti31⟩,rfl,⟨_,ti32⟩,rfl,⟨_,ti27⟩,trivial⟩⟩
theorem Zne:TS Tryz.prog 140 [(0,2),(2,3),(5,1),(6,1)]:=⟨_,Tryz.underlying140,⟨rfl,⟨_,ti42⟩,rfl,⟨_,ti34⟩,rfl,⟨_,ti45⟩,rfl,⟨_,ti3⟩,trivial⟩⟩
theorem Znd:TS Tryz.prog 182 [(0,1)]:=⟨_,Tryz.underlying182,⟨rfl,⟨_,ti3⟩,trivial⟩⟩
theorem Zjb:TS Tryz.prog 214 [(0,4),(4,4),(8,1),(9,1)]:=⟨_,Tryz.underlying214,⟨rfl,⟨_,ti63⟩,rfl,⟨_,ti63⟩,rfl,⟨_,ti3⟩,rfl,⟨_,ti3⟩,trivial⟩⟩
theorem Znc:TS Tryz.prog 224 [(0,5)]:=⟨_,Tryz.underlying224,⟨rfl,⟨_,Quq⟩,trivial⟩⟩
theorem Zc9:TS Tryz.prog 160 [(0,1),(1,1),(2,1),(3,1),(4,1)]:=⟨_,Tryz.underlying160,⟨rfl,⟨_,ti3⟩,rfl,⟨_,ti3⟩,rfl,⟨_,ti3⟩,rfl,⟨_,ti3⟩,rfl,⟨_,ti3⟩,trivial⟩⟩
theorem Zda:TS Tryz.prog 133 [(0,1),(1,1),(2,1),(3,1),(4,1),(5,1),(6,1)]:=⟨_,Tryz.underlying133,⟨rfl,⟨_,ti5⟩,rfl,⟨_,Zjf⟩,rfl,⟨_,ti3⟩,rfl,⟨_,ti3⟩,rfl,⟨_,ti3⟩,rfl,⟨_,ti3⟩,rfl,⟨_,ti27⟩,trivial⟩⟩
theorem ts42:TS Tryz.prog 42 [(0,1),(1,1)]:=⟨_,Tryz.underlying42,⟨rfl,⟨_,ti39⟩,rfl,⟨_,ti40⟩,trivial⟩⟩
theorem ts89:TS Tryz.prog 89 [(0,1),(1,1),(2,1),(3,1)]:=⟨_,Tryz.underlying89,⟨rfl,⟨_,ti3⟩,rfl,⟨_,ti3⟩,rfl,⟨_,ti3⟩,rfl,⟨_,ti3⟩,trivial⟩⟩
theorem Zme:TS Tryz.prog 151 [(0,1),(1,1),(2,1)]:=⟨_,Tryz.underlying151,⟨rfl,⟨_,ti3⟩,rfl,⟨_,ti3⟩,rfl,⟨_,ti3⟩,trivial⟩⟩
theorem ts52:TS Tryz.prog 52 [(0,1),(1,1),(2,1)]:=⟨_,Tryz.underlying52,⟨rfl,⟨_,ti49⟩,rfl,⟨_,ti50⟩,rfl,⟨_,ti27⟩,trivial⟩⟩
theorem ts90:TS Tryz.prog 90 [(0,1),(1,1),(2,1),(3,1)]:=⟨_,Tryz.underlying90,⟨rfl,⟨_,ti3⟩,rfl,⟨_,ti3⟩,rfl,⟨_,ti3⟩,rfl,⟨_,ti3⟩,trivial⟩⟩
theorem Qcw:Qbc 137:=entr Tryz.func137
theorem Zeq:Qbc 139:=entr Tryz.func139
theorem Zei:Qbc 148:=entr Tryz.func148
theorem Zec:Qbc 156:=entr Tryz.func156
theorem Zej:Qbc 147:=entr Tryz.func147
theorem Zer:Qbc 138:=entr Tryz.func138
theorem Q1o:TZ Tryz.prog 160 [.int .i64 0,.int .i64 0,.int .i64 0,.int .i64 0,.int .i64 0]:=Qia (by kernel_rfl)
theorem Q5c:Qbc 122:=entr Tryz.func122
theorem Qxr:Qbc 100:=entr Tryz.func100
theorem Qfy:Qbc 65:=entr Tryz.func65
theorem Zey:Qbc 125:=entr Tryz.func125
theorem Q5b:Qbc 128:=entr Tryz.func128
theorem Qpz:Qbc 141:=entr Tryz.func141
theorem Qp0:Qbc 126:=entr Tryz.func126
theorem Qxq:Qbc 108:=entr Tryz.func108
theorem Zex:Qbc 127:=entr Tryz.func127
theorem Zfe:Qbc 102:=entr Tryz.func102
theorem Zez:Qbc 124:=entr Tryz.func124
theorem Zep:Qbc 140:=entr Tryz.func140
theorem Ze0:Qbc 123:=entr Tryz.func123
theorem Zff:Qbc 101:=entr Tryz.func101
theorem Qt7:CkT Tryz.prog 120 2:=ck2 Tryz.underlying120 Tryz.underlying3 Tryz.underlying3 rfl rfl
theorem zb4:∃ i,Tryz.prog.info? 4=some i∧i.zero=some (.bool false):=Zm4 (by kernel_rfl)
theorem Q1p:TZ Tryz.prog 133 [.int .u8 0,.slice none 0 0,.int .i64 0,.int .i64 0,.int .i64 0,.int .i64 0,.slice none 0 0]:=Qia (by kernel_rfl)
theorem Qm2:TZ Tryz.prog 120 [.int .i64 0,.int .i64 0]:=Qia (by kernel_rfl)
theorem Qr8:Qbc 103:=entr Tryz.func103
theorem Qxl:Qbc 66:=entr Tryz.func66
theorem Zm8:TZ Tryz.prog 190 [(.map none)]:=Qia (by kernel_rfl)
theorem Zkm:Qbc 75:=entr Tryz.func75
theorem Zmi:TE Tryz.prog 120 2 16:=Qrv (by kernel_rfl) (by decide)
theorem Zfb:Qbc 110:=entr Tryz.func110
theorem Zfa:Qbc 111:=entr Tryz.func111
theorem Zkl:Qbc 89:=entr Tryz.func89
theorem Zfc:Qbc 109:=entr Tryz.func109
theorem Zkn:Qbc 73:=entr Tryz.func73
theorem tz3:TZ Tryz.prog 3 [.int .i64 0]:=Qia (by kernel_rfl)
theorem te3:TE Tryz.prog 3 1 8:=Qrv (by kernel_rfl) (by decide)
theorem Qxk:Qbc 67:=entr Tryz.func67
theorem Qnu:Qbc 131:=entr Tryz.func131
theorem Ze7:Qbc 114:=entr Tryz.func114
theorem Ze8:Qbc 113:=entr Tryz.func113
theorem Zev:Qbc 130:=entr Tryz.func130
theorem Zeo:Qbc 142:=entr Tryz.func142
theorem Zew:Qbc 129:=entr Tryz.func129
theorem Ze9:Qbc 112:=entr Tryz.func112
theorem tz63:TZ Tryz.prog 63 [.int .i64 0,.int .i64 0,.int .i64 0,.int .i64 0]:=Qia (by kernel_rfl)
theorem Q2h:Qbc 76:=entr Tryz.func76
theorem Zkk:Qbc 94:=entr Tryz.func94
theorem Q6k:TZ Tryz.prog 227 [.int .i64 0,.int .i64 0,.int .i64 0]:=Qia (by kernel_rfl)
theorem Zeg:Qbc 150:=entr Tryz.func150
theorem Zeb:Qbc 157:=entr Tryz.func157
theorem Q48:Qbc 151:=entr Tryz.func151
theorem Zef:Qbc 152:=entr Tryz.func152
theorem Q47:Qbc 159:=entr Tryz.func159
theorem Zd7:Qbc 163:=entr Tryz.func163
theorem Q46:Qbc 165:=entr Tryz.func165
theorem Zd6:Qbc 164:=entr Tryz.func164
theorem Zd8:Qbc 162:=entr Tryz.func162
theorem Zea:Qbc 158:=entr Tryz.func158
theorem Zee:Qbc 153:=entr Tryz.func153
theorem Qxn:Qbc 154:=entr Tryz.func154
theorem te63:TE Tryz.prog 63 4 32:=Qrv (by kernel_rfl) (by decide)
theorem Zl9:TZ Tryz.prog 235 [(.pointer none),(.pointer none),(.pointer none),(.pointer none)]:=Qia (by kernel_rfl)
theorem Qpy:Qbc 161:=entr Tryz.func161
theorem Zd9:Qbc 160:=entr Tryz.func160
theorem Zed:Qbc 155:=entr Tryz.func155
theorem Znb:TZ Tryz.prog 136 [(.pointer none)]:=Qia (by kernel_rfl)
theorem te45:TE Tryz.prog 45 1 24:=Qrv (by kernel_rfl) (by decide)
theorem tz45:TZ Tryz.prog 45 [.slice none 0 0]:=Qia (by kernel_rfl)
theorem te82:TE Tryz.prog 82 4 32:=Qrv (by kernel_rfl) (by decide)
theorem tz82:TZ Tryz.prog 82 [.int .i64 0,.int .i64 0,.int .i64 0,.int .i64 0]:=Qia (by kernel_rfl)
theorem Zkj:Qbc 95:=entr Tryz.func95
theorem tz34:TZ Tryz.prog 34 [.slice none 0 0,.slice none 0 0,.slice none 0 0]:=Qia (by kernel_rfl)
theorem Zmd:TZ Tryz.prog 140 [.slice none 0 0,.slice none 0 0,.slice none 0 0,.slice none 0 0,.slice none 0 0,.slice none 0 0,.int .i64 0]:=Qia (by kernel_rfl)
theorem Zki:Qbc 96:=entr Tryz.func96
theorem Za5:Qbc 74:=entr Tryz.func74
theorem Ze5:Qbc 116:=entr Tryz.func116
theorem Q5a:Qbc 134:=entr Tryz.func134
theorem Zet:Qbc 133:=entr Tryz.func133
theorem Zeu:Qbc 132:=entr Tryz.func132
theorem Ze6:Qbc 115:=entr Tryz.func115
theorem Zmc:TZ Tryz.prog 182 [.int .i64 0]:=Qia (by kernel_rfl)
theorem Zmb:TZ Tryz.prog 209 [.nilFunc,.nilFunc,.nilFunc,.nilFunc,.nilFunc,.nilFunc,.nilFunc]:=Qia (by kernel_rfl)
theorem Qxp:Qbc 117:=entr Tryz.func117
theorem Ze4:Qbc 118:=entr Tryz.func118
theorem Zc8:TZ Tryz.prog 214 [.int .i64 0,.int .i64 0,.int .i64 0,.int .i64 0,.int .i64 0,.int .i64 0,.int .i64 0,.int .i64 0,.int .i64 0,.int .i64 0]:=Qia (by kernel_rfl)
theorem Zen:Qbc 143:=entr Tryz.func143
theorem Zma:TZ Tryz.prog 224 [.int .i64 0,.int .i64 0,.int .i64 0,.int .i64 0,.int .i64 0]:=Qia (by kernel_rfl)
theorem Zem:Qbc 144:=entr Tryz.func144
theorem Zeh:Qbc 149:=entr Tryz.func149
theorem Zel:Qbc 145:=entr Tryz.func145
theorem Zes:Qbc 135:=entr Tryz.func135
theorem Zek:Qbc 146:=entr Tryz.func146
theorem Q49:Qbc 136:=entr Tryz.func136
theorem Ze3:Qbc 119:=entr Tryz.func119
theorem Ze2:Qbc 120:=entr Tryz.func120
theorem Za4:Qbc 97:=entr Tryz.func97
theorem Za8:Qbc 57:=entr Tryz.func57
theorem Qxm:Qbc 58:=entr Tryz.func58
theorem tz42:TZ Tryz.prog 42 [.slice none 0 0,.slice none 0 0]:=Qia (by kernel_rfl)
theorem Zku:Qbc 55:=entr Tryz.func55
theorem Zkv:Qbc 47:=entr Tryz.func47
theorem Zk4:Qbc 16:=entr Tryz.func16
theorem Zm9:TZ Tryz.prog 149 [.int .i64 0,.int .i64 0,.int .i64 0,.int .i64 0,.int .i64 0]:=Qia (by kernel_rfl)
theorem Qcl:Qbc 25:=entr Tryz.func25
theorem Znn:TE Tryz.prog 160 5 40:=Qrv (by kernel_rfl) (by decide)
theorem Zkt:Qbc 59:=entr Tryz.func59
theorem tz59:TZ Tryz.prog 59 [.int .u8 0,.slice none 0 0,.int .i64 0,.int .i64 0,.int .i64 0,.int .i64 0,.slice none 0 0]:=Qia (by kernel_rfl)
theorem Zno:TE Tryz.prog 133 7 88:=Qrv (by kernel_rfl) (by decide)
theorem Q2j:Qbc 69:=entr Tryz.func69
theorem Zfd:Qbc 107:=entr Tryz.func107
theorem Za6:Qbc 70:=entr Tryz.func70
theorem tz61:TZ Tryz.prog 61 [.int .i64 0,.int .i64 0]:=Qia (by kernel_rfl)
theorem Q2i:Qbc 71:=entr Tryz.func71
theorem Zko:Qbc 72:=entr Tryz.func72
theorem te61:TE Tryz.prog 61 2 16:=Qrv (by kernel_rfl) (by decide)
theorem Zks:Qbc 60:=entr Tryz.func60
theorem Zna:TZ Tryz.prog 146 [.int .i64 0,.int .i64 0,.int .i64 0,.int .i64 0,.int .i64 0,.int .i64 0,.int .i64 0,.int .i64 0,.int .i64 0,.int .i64 0]:=Qia (by kernel_rfl)
theorem tz89:TZ Tryz.prog 89 [.int .i64 0,.int .i64 0,.int .i64 0,.int .i64 0]:=Qia (by kernel_rfl)
theorem Zja:TZ Tryz.prog 151 [.int .i64 0,.int .i64 0,.int .i64 0]:=Qia (by kernel_rfl)
theorem te4:TE Tryz.prog 4 1 1:=Qrv (by kernel_rfl) (by decide)
theorem tz4:TZ Tryz.prog 4 [.bool false]:=Qia (by kernel_rfl)
theorem Q2g:Qbc 99:=entr Tryz.func99
theorem te89:TE Tryz.prog 89 4 32:=Qrv (by kernel_rfl) (by decide)
theorem Ze1:Qbc 121:=entr Tryz.func121
theorem Za9:Qbc 29:=entr Tryz.func29
theorem Zkh:Qbc 98:=entr Tryz.func98
theorem Q2k:Qbc 38:=entr Tryz.func38
theorem Zba:Qbc 28:=entr Tryz.func28
theorem Zkw:Qbc 33:=entr Tryz.func33
theorem Zkr:Qbc 61:=entr Tryz.func61
theorem tz52:TZ Tryz.prog 52 [.slice none 0 0,.slice none 0 0,.slice none 0 0]:=Qia (by kernel_rfl)
theorem Zkq:Qbc 62:=entr Tryz.func62
theorem tz90:TZ Tryz.prog 90 [.int .i64 0,.int .i64 0,.int .i64 0,.int .i64 0]:=Qia (by kernel_rfl)
theorem Zkp:Qbc 63:=entr Tryz.func63
theorem Za7:Qbc 64:=entr Tryz.func64
theorem tz28:TZ Tryz.prog 28 [.slice none 0 0]:=Qia (by kernel_rfl)
theorem te28:TE Tryz.prog 28 1 24:=Qrv (by kernel_rfl) (by decide)
theorem te90:TE Tryz.prog 90 4 32:=Qrv (by kernel_rfl) (by decide)
theorem tz92:TZ Tryz.prog 92 [.int .i64 0,.int .i64 0]:=Qia (by kernel_rfl)
theorem Zkz:Qbc 22:=entr Tryz.func22
theorem Qxo:Qbc 14:=entr Tryz.func14
theorem Qt1:Qbc 15:=entr Tryz.func15
theorem Zk3:Qbc 17:=entr Tryz.func17
theorem Zk2:Qbc 18:=entr Tryz.func18
theorem Zk1:Qbc 19:=entr Tryz.func19
theorem Zk0:Qbc 20:=entr Tryz.func20
theorem Zky:Qbc 24:=entr Tryz.func24
theorem Zkx:Qbc 26:=entr Tryz.func26
theorem Qkw:EqT Tryz.prog 10000 120 2:=Qq3 (d:=9998) Tryz.underlying120 (by kernel_rfl) (.int _ (by decide) rfl Tryz.underlying3 (.int _ (by decide) rfl Tryz.underlying3 (.nil _)))
theorem Q2f:EqT Tryz.prog 10000 63 4:=Qq3 (d:=9998) Tryz.underlying63 (by kernel_rfl) (.int _ (by decide) rfl Tryz.underlying3 (.int _ (by decide) rfl Tryz.underlying3 (.int _ (by decide) rfl Tryz.underlying3 (.int _ (by decide) rfl Tryz.underlying3 (.nil _)))))
theorem Zn4:EqT Tryz.prog 10000 61 2:=Qq3 (d:=9998) Tryz.underlying61 (by kernel_rfl) (.int _ (by decide) rfl Tryz.underlying3 (.int _ (by decide) rfl Tryz.underlying3 (.nil _)))
def tyT:Tab:=.node 90 ⟨true,4,(some [.int .i64 0,.int .i64 0,.int .i64 0,.int .i64 0]),[(0,false,1),(1,false,1),(2,false,1),(3,false,1)]⟩ (.node 40 ⟨false,1,none,[]⟩ (.node 27 ⟨false,1,none,[]⟩ (.node 23 ⟨false,1,none,[]⟩ (.node 4 ⟨false,1,(some [.bool false]),[]⟩ (.node 3 ⟨false,1,(some [.int .i64 0]),[]⟩ .nil .nil) (.node 5 ⟨false,1,none,[]⟩ .nil .nil)) (.node 26 ⟨true,2,none,[(0,false,1),(1,false,1)]⟩ (.node 24 ⟨false,1,none,[]⟩ .nil .nil) .nil)) (.node 32 ⟨false,1,none,[]⟩ (.node 31 ⟨false,1,none,[]⟩ (.node 28 ⟨false,1,(some [.slice none 0 0]),[]⟩ .nil .nil) .nil) (.node 39 ⟨false,1,none,[]⟩ (.node 34 ⟨true,3,(some [.slice none 0 0,.slice none 0 0,.slice none 0 0]),[(0,false,1),(1,false,1),(2,false,1)]⟩ .nil .nil) .nil))) (.node 57 ⟨false,1,none,[]⟩ (.node 49 ⟨false,1,none,[]⟩ (.node 45 ⟨false,1,(some [.slice none 0 0]),[]⟩ (.node 42 ⟨true,2,(some [.slice none 0 0,.slice none 0 0]),[(0,false,1),(1,false,1)]⟩ .nil .nil) .nil) (.node 52 ⟨true,3,(some [.slice none 0 0,.slice none 0 0,.slice none 0 0]),[(0,false,1),(1,false,1),(2,false,1)]⟩ (.node 50 ⟨false,1,none,[]⟩ .nil .nil) .nil)) (.node 63 ⟨true,4,(some [.int .i64 0,.int .i64 0,.int .i64 0,.int .i64 0]),[(0,false,1),(1,false,1),(2,false,1),(3,false,1)]⟩ (.node 61 ⟨true,2,(some [.int .i64 0,.int .i64 0]),[(0,false,1),(1,false,1)]⟩ (.node 59 ⟨true,7,(some [.int .u8 0,.slice none 0 0,.int .i64 0,.int .i64 0,.int .i64 0,.int .i64 0,.slice none 0 0]),[(0,false,1),(1,false,1),(2,false,1),(3,false,1),(4,false,1),(5,false,1),(6,false,1)]⟩ .nil .nil) .nil) (.node 89 ⟨true,4,(some [.int .i64 0,.int .i64 0,.int .i64 0,.int .i64 0]),[(0,false,1),(1,false,1),(2,false,1),(3,false,1)]⟩ (.node 82 ⟨true,4,(some [.int .i64 0,.int .i64 0,.int .i64 0,.int .i64 0]),[(0,false,1),(1,false,1),(2,false,1),(3,false,1)]⟩ .nil .nil) .nil)))) (.node 189 ⟨false,1,none,[]⟩ (.node 146 ⟨true,10,(some [.int .i64 0,.int .i64 0,.int .i64 0,.int .i64 0,.int .i64 0,.int .i64 0,.int .i64 0,.int .i64 0,.int .i64 0,.int .i64 0]),[(0,true,4),(4,true,4),(8,false,1),(9,false,1)]⟩ (.node 133 ⟨true,7,(some [.int .u8 0,.slice none 0 0,.int .i64 0,.int .i64 0,.int .i64 0,.int .i64 0,.slice none 0 0]),[(0,false,1),(1,false,1),(2,false,1),(3,false,1),(4,false,1),(5,false,1),(6,false,1)]⟩ (.node 116 ⟨false,1,none,[]⟩ (.node 92 ⟨true,2,(some [.int .i64 0,.int .i64 0]),[(0,false,1),(1,false,1)]⟩ .nil .nil) (.node 120 ⟨true,2,(some [.int .i64 0,.int .i64 0]),[(0,false,1),(1,false,1)]⟩ .nil .nil)) (.node 140 ⟨true,7,(some [.slice none 0 0,.slice none 0 0,.slice none 0 0,.slice none 0 0,.slice none 0 0,.slice none 0 0,.int .i64 0]),[(0,true,2),(2,true,3),(5,false,1),(6,false,1)]⟩ (.node 136 ⟨false,1,(some [(.pointer none)]),[]⟩ .nil .nil) .nil)) (.node 160 ⟨true,5,(some [.int .i64 0,.int .i64 0,.int .i64 0,.int .i64 0,.int .i64 0]),[(0,false,1),(1,false,1),(2,false,1),(3,false,1),(4,false,1)]⟩ (.node 151 ⟨true,3,(some [.int .i64 0,.int .i64 0,.int .i64 0]),[(0,false,1),(1,false,1),(2,false,1)]⟩ (.node 149 ⟨true,5,(some [.int .i64 0,.int .i64 0,.int .i64 0,.int .i64 0,.int .i64 0]),[(0,false,1),(1,false,1),(2,false,1),(3,false,1),(4,false,1)]⟩ .nil .nil) .nil) (.node 182 ⟨true,1,(some [.int .i64 0]),[(0,false,1)]⟩ (.node 162 ⟨false,1,none,[]⟩ .nil .nil) .nil))) (.node 214 ⟨true,10,(some [.int .i64 0,.int .i64 0,.int .i64 0,.int .i64 0,.int .i64 0,.int .i64 0,.int .i64 0,.int .i64 0,.int .i64 0,.int .i64 0]),[(0,true,4),(4,true,4),(8,false,1),(9,false,1)]⟩ (.node 202 ⟨false,1,none,[]⟩ (.node 197 ⟨false,1,none,[]⟩ (.node 190 ⟨false,1,(some [(.map none)]),[]⟩ .nil .nil) .nil) (.node 209 ⟨true,7,(some [.nilFunc,.nilFunc,.nilFunc,.nilFunc,.nilFunc,.nilFunc,.nilFunc]),[]⟩ (.node 207 ⟨false,1,none,[]⟩ .nil .nil) .nil)) (.node 227 ⟨true,3,(some [.int .i64 0,.int .i64 0,.int .i64 0]),[(0,false,1),(1,false,1),(2,false,1)]⟩ (.node 224 ⟨true,5,(some [.int .i64 0,.int .i64 0,.int .i64 0,.int .i64 0,.int .i64 0]),[(0,true,5)]⟩ (.node 219 ⟨false,1,none,[]⟩ .nil .nil) .nil) (.node 235 ⟨true,4,(some [(.pointer none),(.pointer none),(.pointer none),(.pointer none)]),[]⟩ (.node 234 ⟨false,1,none,[]⟩ .nil .nil) .nil))))
theorem tbk:tyT.ok Tryz.prog:=⟨⟨ti90,tz90,.inr ⟨_,Tryz.underlying90,rfl,ti3,rfl,ti3,rfl,ti3,rfl,ti3,trivial⟩⟩,⟨⟨ti40,trivial,.inl rfl⟩,⟨⟨ti27,trivial,.inl rfl⟩,⟨⟨ti23,trivial,.inl rfl⟩,⟨⟨ti4,tz4,.inl rfl⟩,⟨⟨ti3,tz3,.inl rfl⟩,trivial,trivial⟩,⟨⟨ti5,trivial,.inl rfl⟩,trivial,trivial⟩⟩,⟨⟨ti26,trivial,.inr ⟨_,Tryz.underlying26,rfl,ti23,rfl,ti24,trivial⟩⟩,⟨⟨ti24,trivial,.inl rfl⟩,trivial,trivial⟩,trivial⟩⟩,⟨⟨ti32,trivial,.inl rfl⟩,⟨⟨ti31,trivial,.inl rfl⟩,⟨⟨ti28,tz28,.inl rfl⟩,trivial,trivial⟩,trivial⟩,⟨⟨ti39,trivial,.inl rfl⟩,⟨⟨ti34,tz34,.inr ⟨_,Tryz.underlying34,rfl,ti31,rfl,ti32,rfl,ti27,trivial⟩⟩,trivial,trivial⟩,trivial⟩⟩⟩,⟨⟨ti57,trivial,.inl rfl⟩,⟨⟨ti49,trivial,.inl rfl⟩,⟨⟨ti45,tz45,.inl rfl⟩,⟨⟨ti42,tz42,.inr ⟨_,Tryz.underlying42,rfl,ti39,rfl,ti40,trivial⟩⟩,trivial,trivial⟩,trivial⟩,⟨⟨ti52,tz52,.inr ⟨_,Tryz.underlying52,rfl,ti49,rfl,ti50,rfl,ti27,trivial⟩⟩,⟨⟨ti50,trivial,.inl rfl⟩,trivial,trivial⟩,trivial⟩⟩,⟨⟨ti63,tz63,.inr ⟨_,Tryz.underlying63,rfl,ti3,rfl,ti3,rfl,ti3,rfl,ti3,trivial⟩⟩,⟨⟨ti61,tz61,.inr ⟨_,Tryz.underlying61,rfl,ti3,rfl,ti3,trivial⟩⟩,⟨⟨ti59,tz59,.inr ⟨_,Tryz.underlying59,rfl,ti5,rfl,ti57,rfl,ti3,rfl,ti3,rfl,ti3,rfl,ti3,rfl,ti27,trivial⟩⟩,trivial,trivial⟩,trivial⟩,⟨⟨ti89,tz89,.inr ⟨_,Tryz.underlying89,rfl,ti3,rfl,ti3,rfl,ti3,rfl,ti3,trivial⟩⟩,⟨⟨ti82,tz82,.inr ⟨_,Tryz.underlying82,rfl,ti3,rfl,ti3,rfl,ti3,rfl,ti3,trivial⟩⟩,trivial,trivial⟩,trivial⟩⟩⟩⟩,⟨⟨Znj,trivial,.inl rfl⟩,⟨⟨Zje,Zna,.inr ⟨_,Tryz.underlying146,rfl,ti89,rfl,ti89,rfl,ti3,rfl,ti3,trivial⟩⟩,⟨⟨Qjz,Q1p,.inr ⟨_,Tryz.underlying133,rfl,ti5,rfl,Zjf,rfl,ti3,rfl,ti3,rfl,ti3,rfl,ti3,rfl,ti27,trivial⟩⟩,⟨⟨Zjf,trivial,.inl rfl⟩,⟨⟨ti92,tz92,.inr ⟨_,Tryz.underlying92,rfl,ti3,rfl,ti3,trivial⟩⟩,trivial,trivial⟩,⟨⟨Qlo,Qm2,.inr ⟨_,Tryz.underlying120,rfl,ti3,rfl,ti3,trivial⟩⟩,trivial,trivial⟩⟩,⟨⟨Znm,Zmd,.inr ⟨_,Tryz.underlying140,rfl,ti42,rfl,ti34,rfl,ti45,rfl,ti3,trivial⟩⟩,⟨⟨Qur,Znb,.inl rfl⟩,trivial,trivial⟩,trivial⟩⟩,⟨⟨Quq,Q1o,.inr ⟨_,Tryz.underlying160,rfl,ti3,rfl,ti3,rfl,ti3,rfl,ti3,rfl,ti3,trivial⟩⟩,⟨⟨Zmh,Zja,.inr ⟨_,Tryz.underlying151,rfl,ti3,rfl,ti3,rfl,ti3,trivial⟩⟩,⟨⟨Qmr,Zm9,.inr ⟨_,Tryz.underlying149,rfl,ti3,rfl,ti3,rfl,ti3,rfl,ti3,rfl,ti3,trivial⟩⟩,trivial,trivial⟩,trivial⟩,⟨⟨Znk,Zmc,.inr ⟨_,Tryz.underlying182,rfl,ti3,trivial⟩⟩,⟨⟨Znl,trivial,.inl rfl⟩,trivial,trivial⟩,trivial⟩⟩⟩,⟨⟨Q1t,Zc8,.inr ⟨_,Tryz.underlying214,rfl,ti63,rfl,ti63,rfl,ti3,rfl,ti3,trivial⟩⟩,⟨⟨Znh,trivial,.inl rfl⟩,⟨⟨Zni,trivial,.inl rfl⟩,⟨⟨Zjd,Zm8,.inl rfl⟩,trivial,trivial⟩,trivial⟩,⟨⟨Zng,Zmb,.inl rfl⟩,⟨⟨Qpj,trivial,.inl rfl⟩,trivial,trivial⟩,trivial⟩⟩,⟨⟨Q6m,Q6k,.inr ⟨_,Tryz.underlying227,rfl,ti3,rfl,ti3,rfl,ti3,trivial⟩⟩,⟨⟨Zmg,Zma,.inr ⟨_,Tryz.underlying224,rfl,Quq,trivial⟩⟩,⟨⟨Znf,trivial,.inl rfl⟩,trivial,trivial⟩,trivial⟩,⟨⟨Zmf,Zl9,.inl rfl⟩,⟨⟨Qup,trivial,.inl rfl⟩,trivial,trivial⟩,trivial⟩⟩⟩⟩⟩
section
variable {ops : Array Oper} {X : Nat → Nat → Prop} {φ0 : Nat → FSlot} {w0 : World} {ro : Option Nat} {Q : Exit → AS → Prop} {s : AS} {id : Nat} {y : Code}
theorem wxz (h:AWp Tryz.prog X φ0 w0 ro y Q (Qqa tyT ops [] s)) (hm:MetX tyT ops [] s:=by exact ⟨by kernel_rfl,by kernel_rfl⟩):AWp Tryz.prog X φ0 w0 ro (.seq (.region id ops false) y) Q s:=Zmy tbk [] trivial h hm
theorem wxz1 (h:Q .normal (Qqa tyT ops [] s)) (hm:MetX tyT ops [] s:=by exact ⟨by kernel_rfl,by kernel_rfl⟩):AWp Tryz.prog X φ0 w0 ro (.region id ops false) Q s:=Zg8 tbk [] trivial h hm
theorem wxe (h:AWp Tryz.prog X φ0 w0 ro y Q (Qqa tyT ops [] s)) (hf:Tryz.prog.follows .mixedOrders=true:=by kernel_rfl) (hm:MetX tyT ops [] s:=by exact ⟨by kernel_rfl,by kernel_rfl⟩) (ho:Qgb (ops.toList.zip (Qzf tyT ops [] s)) [] []=true:=by kernel_rfl):AWp Tryz.prog X φ0 w0 ro (.seq (.region id ops true) y) Q s:=Zg7 tbk [] trivial h hf hm ho
theorem wxe1 (h:Q .normal (Qqa tyT ops [] s)) (hf:Tryz.prog.follows .mixedOrders=true:=by kernel_rfl) (hm:MetX tyT ops [] s:=by exact ⟨by kernel_rfl,by kernel_rfl⟩) (ho:Qgb (ops.toList.zip (Qzf tyT ops [] s)) [] []=true:=by kernel_rfl):AWp Tryz.prog X φ0 w0 ro (.region id ops true) Q s:=Zbo tbk [] trivial h hf hm ho
end
end Go.Proofs.YtmbhnllcfmiajaaGreat
