/-
  The types of the program as Lean types, and how they lie in cells; facts on the program's types. No conditions.
-/
import Derived.Test.YtmbhnllcfmiajaaGreatEngY
import Derived.Test.YtmbhnllcfmiajaaGreatEngC
import Derived.Test.YtmbhnllcfmiajaaGreatEngA
import Derived.Test.YtmbhnllcfmiajaaGreatEngN
import Derived.Conc.MuLone
namespace Go.Proofs.YtmbhnllcfmiajaaGreat
set_option maxRecDepth 100000
open Go.RowKit
def Qa9 (g:FuncId):Prop:=∀ vals w,(callFunc g vals).run Tryz.prog w=.ok (.enter g vals) w
theorem entr {g : FuncId} {fn : Func} {c : Code} (h : Tryz.prog.funcs[g]? = some fn) (h1 : (fn.name == "runtime.NumGoroutine") = false := by kernel_rfl) (h2 : fn.body = some c := by rfl) : Qa9 g := fun vals w => MuLone.run_callFunc_enter h h1 h2 vals w
def Qak (x:Int):List AV:=[K .i64 x]
theorem Qag:∀ x,∀ a ∈ Qak x,NLt 0 a:=fun _=>Qmk (.lit _) Qtt
theorem Qzu:∀ x,(Qak x).all AV.one=true:=fun _=>rfl
structure GRow where
  T:Int
  P:Int
  Liquid:Int
  Vapour:Int
  Silica:Int
  deriving DecidableEq
def Qaw (x:GRow):List AV:=Qak x.T++Qak x.P++Qak x.Liquid++Qak x.Vapour++Qak x.Silica
theorem Qai:∀ x,∀ a ∈ Qaw x,NLt 0 a:=fun _=>(Qi6 (Qi6 (Qi6 (Qi6 (Qag _) (Qag _)) (Qag _)) (Qag _)) (Qag _))
def c_u8 (x:Int):List AV:=[K .u8 x]
theorem Zlh:∀ x,∀ a ∈ c_u8 x,NLt 0 a:=fun _=>Qmk (.lit _) Qtt
structure GPort where
  Element:Int
  Outlet:Int
  deriving DecidableEq
def Qat (x:GPort):List AV:=Qak x.Element++Qak x.Outlet
theorem Qa4:∀ x,∀ a ∈ Qat x,NLt 0 a:=fun _=>(Qi6 (Qag _) (Qag _))
def Qvt (x:(List GPort)):List AV:=[.dat 2 (x.map Qat)]
theorem Q7x:∀ x,∀ a ∈ Qvt x,NLt 0 a:=fun _=>Qmk (Qtu Qa4 _) Qtt
def Q85 (x:(List Int)):List AV:=[.dat 1 (x.map Qak)]
theorem Zho:∀ x,∀ a ∈ Q85 x,NLt 0 a:=fun _=>Qmk (Qtu Qag _) Qtt
structure GElement where
  Kind:Int
  From:List GPort
  Level:Int
  Amount:Int
  Wide:Int
  Narrow:Int
  Weights:List Int
  deriving DecidableEq
def Qac (x:GElement):List AV:=c_u8 x.Kind++Qvt x.From++Qak x.Level++Qak x.Amount++Qak x.Wide++Qak x.Narrow++Q85 x.Weights
theorem Qaa:∀ x,∀ a ∈ Qac x,NLt 0 a:=fun _=>(Qi6 (Qi6 (Qi6 (Qi6 (Qi6 (Qi6 (Zlh _) (Q7x _)) (Qag _)) (Qag _)) (Qag _)) (Qag _)) (Zho _))
def Q86 (x:(List GRow)):List AV:=[.dat 5 (x.map Qaw)]
def Qsg (x:(List GElement)):List AV:=[.dat 7 (x.map Qac)]
structure GNet where
  Table:List GRow
  Elements:List GElement
  deriving DecidableEq
def Qhn (x:GNet):List AV:=Q86 x.Table++Qsg x.Elements
structure GStream where
  Mass:Int
  Heat:Int
  Silica:Int
  Gas:Int
  deriving DecidableEq
def Qab (x:GStream):List AV:=Qak x.Mass++Qak x.Heat++Qak x.Silica++Qak x.Gas
theorem Qad:∀ x,∀ a ∈ Qab x,NLt 0 a:=fun _=>(Qi6 (Qi6 (Qi6 (Qag _) (Qag _)) (Qag _)) (Qag _))
structure GLoss where
  Heat:Int
  Silica:Int
  Gas:Int
  deriving DecidableEq
def Zim (x:GLoss):List AV:=Qak x.Heat++Qak x.Silica++Qak x.Gas
def Qaj (x:(List GStream)):List AV:=[.dat 4 (x.map Qab)]
theorem Qap:∀ x,∀ a ∈ Qaj x,NLt 0 a:=fun _=>Qmk (Qtu Qad _) Qtt
structure GLost where
  Heat:Int
  Silica:Int
  Gas:Int
  Scale:Int
  deriving DecidableEq
def Qa7 (x:GLost):List AV:=Qak x.Heat++Qak x.Silica++Qak x.Gas++Qak x.Scale
theorem Qa1:∀ x,∀ a ∈ Qa7 x,NLt 0 a:=fun _=>(Qi6 (Qi6 (Qi6 (Qag _) (Qag _)) (Qag _)) (Qag _))
structure GFlash where
  Row:GRow
  deriving DecidableEq
def Qvu (x:GFlash):List AV:=Qaw x.Row
structure GParts where
  Steam:GStream
  Water:GStream
  Rest:Int
  Scale:Int
  deriving DecidableEq
def Q23 (x:GParts):List AV:=Qab x.Steam++Qab x.Water++Qak x.Rest++Qak x.Scale
structure GTick where
  Out:List (List GStream)
  Lost:List GLost
  State:List Int
  deriving DecidableEq
structure GFall where
  Element:Int
  Scale:Int
  deriving DecidableEq
theorem Qvg:∀ x,∀ a ∈ Qak x,∃ v,a=.lit v:=fun _=>Zbm Zhu
theorem Qz3:∀ x,∀ a ∈ Qab x,∃ v,a=.lit v:=fun _=>(Qz2 (Qz2 (Qz2 (Qvg _) (Qvg _)) (Qvg _)) (Qvg _))
theorem Qs1:TI Tryz.prog 160 true 5:=⟨⟨_,Tryz.underlying160,rfl⟩,Qc9 (by kernel_rfl)⟩
theorem Zkt:TI Tryz.prog 219 false 1:=⟨⟨_,Tryz.underlying219,rfl⟩,Qc9 (by kernel_rfl)⟩
theorem ti3:TI Tryz.prog 3 false 1:=⟨⟨_,Tryz.underlying3,rfl⟩,Qc9 (by kernel_rfl)⟩
theorem ti39:TI Tryz.prog 39 false 1:=⟨⟨_,Tryz.underlying39,rfl⟩,Qc9 (by kernel_rfl)⟩
theorem ti40:TI Tryz.prog 40 false 1:=⟨⟨_,Tryz.underlying40,rfl⟩,Qc9 (by kernel_rfl)⟩
theorem Qip:TI Tryz.prog 133 true 7:=⟨⟨_,Tryz.underlying133,rfl⟩,Qc9 (by kernel_rfl)⟩
theorem Zkx:TI Tryz.prog 189 false 1:=⟨⟨_,Tryz.underlying189,rfl⟩,Qc9 (by kernel_rfl)⟩
theorem ti5:TI Tryz.prog 5 false 1:=⟨⟨_,Tryz.underlying5,rfl⟩,Qc9 (by kernel_rfl)⟩
theorem Zgz:TI Tryz.prog 116 false 1:=⟨⟨_,Tryz.underlying116,rfl⟩,Qc9 (by kernel_rfl)⟩
theorem ti27:TI Tryz.prog 27 false 1:=⟨⟨_,Tryz.underlying27,rfl⟩,Qc9 (by kernel_rfl)⟩
theorem Zkw:TI Tryz.prog 197 false 1:=⟨⟨_,Tryz.underlying197,rfl⟩,Qc9 (by kernel_rfl)⟩
theorem Qkz:TI Tryz.prog 120 true 2:=⟨⟨_,Tryz.underlying120,rfl⟩,Qc9 (by kernel_rfl)⟩
theorem ti42:TI Tryz.prog 42 true 2:=⟨⟨_,Tryz.underlying42,rfl⟩,Qc9 (by kernel_rfl)⟩
theorem Zgy:TI Tryz.prog 190 false 1:=⟨⟨_,Tryz.underlying190,rfl⟩,Qc9 (by kernel_rfl)⟩
theorem ti63:TI Tryz.prog 63 true 4:=⟨⟨_,Tryz.underlying63,rfl⟩,Qc9 (by kernel_rfl)⟩
theorem Zkv:TI Tryz.prog 202 false 1:=⟨⟨_,Tryz.underlying202,rfl⟩,Qc9 (by kernel_rfl)⟩
theorem Q4a:TI Tryz.prog 227 true 3:=⟨⟨_,Tryz.underlying227,rfl⟩,Qc9 (by kernel_rfl)⟩
theorem Zkz:TI Tryz.prog 162 false 1:=⟨⟨_,Tryz.underlying162,rfl⟩,Qc9 (by kernel_rfl)⟩
theorem Qs0:TI Tryz.prog 234 false 1:=⟨⟨_,Tryz.underlying234,rfl⟩,Qc9 (by kernel_rfl)⟩
theorem Zjr:TI Tryz.prog 235 true 4:=⟨⟨_,Tryz.underlying235,rfl⟩,Qc9 (by kernel_rfl)⟩
theorem ti31:TI Tryz.prog 31 false 1:=⟨⟨_,Tryz.underlying31,rfl⟩,Qc9 (by kernel_rfl)⟩
theorem ti32:TI Tryz.prog 32 false 1:=⟨⟨_,Tryz.underlying32,rfl⟩,Qc9 (by kernel_rfl)⟩
theorem ti34:TI Tryz.prog 34 true 3:=⟨⟨_,Tryz.underlying34,rfl⟩,Qc9 (by kernel_rfl)⟩
theorem ti45:TI Tryz.prog 45 false 1:=⟨⟨_,Tryz.underlying45,rfl⟩,Qc9 (by kernel_rfl)⟩
theorem Qs2:TI Tryz.prog 136 false 1:=⟨⟨_,Tryz.underlying136,rfl⟩,Qc9 (by kernel_rfl)⟩
theorem Qob:TI Tryz.prog 207 false 1:=⟨⟨_,Tryz.underlying207,rfl⟩,Qc9 (by kernel_rfl)⟩
theorem Zku:TI Tryz.prog 209 true 7:=⟨⟨_,Tryz.underlying209,rfl⟩,Qc9 (by kernel_rfl)⟩
theorem ti82:TI Tryz.prog 82 true 4:=⟨⟨_,Tryz.underlying82,rfl⟩,Qc9 (by kernel_rfl)⟩
theorem Qzi:TI Tryz.prog 214 true 10:=⟨⟨_,Tryz.underlying214,rfl⟩,Qc9 (by kernel_rfl)⟩
theorem Zjs:TI Tryz.prog 224 true 5:=⟨⟨_,Tryz.underlying224,rfl⟩,Qc9 (by kernel_rfl)⟩
theorem Zky:TI Tryz.prog 182 true 1:=⟨⟨_,Tryz.underlying182,rfl⟩,Qc9 (by kernel_rfl)⟩
theorem Ql6:TI Tryz.prog 149 true 5:=⟨⟨_,Tryz.underlying149,rfl⟩,Qc9 (by kernel_rfl)⟩
theorem ti23:TI Tryz.prog 23 false 1:=⟨⟨_,Tryz.underlying23,rfl⟩,Qc9 (by kernel_rfl)⟩
theorem ti24:TI Tryz.prog 24 false 1:=⟨⟨_,Tryz.underlying24,rfl⟩,Qc9 (by kernel_rfl)⟩
theorem ti59:TI Tryz.prog 59 true 7:=⟨⟨_,Tryz.underlying59,rfl⟩,Qc9 (by kernel_rfl)⟩
theorem ti57:TI Tryz.prog 57 false 1:=⟨⟨_,Tryz.underlying57,rfl⟩,Qc9 (by kernel_rfl)⟩
theorem ti61:TI Tryz.prog 61 true 2:=⟨⟨_,Tryz.underlying61,rfl⟩,Qc9 (by kernel_rfl)⟩
theorem ti89:TI Tryz.prog 89 true 4:=⟨⟨_,Tryz.underlying89,rfl⟩,Qc9 (by kernel_rfl)⟩
theorem Zk1:TI Tryz.prog 146 true 10:=⟨⟨_,Tryz.underlying146,rfl⟩,Qc9 (by kernel_rfl)⟩
theorem ti4:TI Tryz.prog 4 false 1:=⟨⟨_,Tryz.underlying4,rfl⟩,Qc9 (by kernel_rfl)⟩
theorem Zk0:TI Tryz.prog 151 true 3:=⟨⟨_,Tryz.underlying151,rfl⟩,Qc9 (by kernel_rfl)⟩
theorem ti26:TI Tryz.prog 26 true 2:=⟨⟨_,Tryz.underlying26,rfl⟩,Qc9 (by kernel_rfl)⟩
theorem ti49:TI Tryz.prog 49 false 1:=⟨⟨_,Tryz.underlying49,rfl⟩,Qc9 (by kernel_rfl)⟩
theorem ti28:TI Tryz.prog 28 false 1:=⟨⟨_,Tryz.underlying28,rfl⟩,Qc9 (by kernel_rfl)⟩
theorem ti50:TI Tryz.prog 50 false 1:=⟨⟨_,Tryz.underlying50,rfl⟩,Qc9 (by kernel_rfl)⟩
theorem ti52:TI Tryz.prog 52 true 3:=⟨⟨_,Tryz.underlying52,rfl⟩,Qc9 (by kernel_rfl)⟩
theorem ti90:TI Tryz.prog 90 true 4:=⟨⟨_,Tryz.underlying90,rfl⟩,Qc9 (by kernel_rfl)⟩
theorem ti92:TI Tryz.prog 92 true 2:=⟨⟨_,Tryz.underlying92,rfl⟩,Qc9 (by kernel_rfl)⟩
theorem Zk2:TI Tryz.prog 140 true 7:=⟨⟨_,Tryz.underlying140,rfl⟩,Qc9 (by kernel_rfl)⟩
theorem Qqj:TS Tryz.prog 120 [(0,1),(1,1)]:=⟨_,Tryz.underlying120,⟨rfl,⟨_,ti3⟩,rfl,⟨_,ti3⟩,trivial⟩⟩
theorem ts63:TS Tryz.prog 63 [(0,1),(1,1),(2,1),(3,1)]:=⟨_,Tryz.underlying63,⟨rfl,⟨_,ti3⟩,rfl,⟨_,ti3⟩,rfl,⟨_,ti3⟩,rfl,⟨_,ti3⟩,trivial⟩⟩
theorem Q63:TS Tryz.prog 227 [(0,1),(1,1),(2,1)]:=⟨_,Tryz.underlying227,⟨rfl,⟨_,ti3⟩,rfl,⟨_,ti3⟩,rfl,⟨_,ti3⟩,trivial⟩⟩
theorem ts34:TS Tryz.prog 34 [(0,1),(1,1),(2,1)]:=⟨_,Tryz.underlying34,⟨rfl,⟨_,ti31⟩,rfl,⟨_,ti32⟩,rfl,⟨_,ti27⟩,trivial⟩⟩
theorem Zks:TS Tryz.prog 140 [(0,2),(2,3),(5,1),(6,1)]:=⟨_,Tryz.underlying140,⟨rfl,⟨_,ti42⟩,rfl,⟨_,ti34⟩,rfl,⟨_,ti45⟩,rfl,⟨_,ti3⟩,trivial⟩⟩
theorem Zkr:TS Tryz.prog 182 [(0,1)]:=⟨_,Tryz.underlying182,⟨rfl,⟨_,ti3⟩,trivial⟩⟩
theorem Zgx:TS Tryz.prog 214 [(0,4),(4,4),(8,1),(9,1)]:=⟨_,Tryz.underlying214,⟨rfl,⟨_,ti63⟩,rfl,⟨_,ti63⟩,rfl,⟨_,ti3⟩,rfl,⟨_,ti3⟩,trivial⟩⟩
theorem Zkq:TS Tryz.prog 224 [(0,5)]:=⟨_,Tryz.underlying224,⟨rfl,⟨_,Qs1⟩,trivial⟩⟩
theorem Zaz:TS Tryz.prog 160 [(0,1),(1,1),(2,1),(3,1),(4,1)]:=⟨_,Tryz.underlying160,⟨rfl,⟨_,ti3⟩,rfl,⟨_,ti3⟩,rfl,⟨_,ti3⟩,rfl,⟨_,ti3⟩,rfl,⟨_,ti3⟩,trivial⟩⟩
theorem Za0:TS Tryz.prog 133 [(0,1),(1,1),(2,1),(3,1),(4,1),(5,1),(6,1)]:=⟨_,Tryz.underlying133,⟨rfl,⟨_,ti5⟩,rfl,⟨_,Zgz⟩,rfl,⟨_,ti3⟩,rfl,⟨_,ti3⟩,rfl,⟨_,ti3⟩,rfl,⟨_,ti3⟩,rfl,⟨_,ti27⟩,trivial⟩⟩
theorem ts42:TS Tryz.prog 42 [(0,1),(1,1)]:=⟨_,Tryz.underlying42,⟨rfl,⟨_,ti39⟩,rfl,⟨_,ti40⟩,trivial⟩⟩
theorem ts89:TS Tryz.prog 89 [(0,1),(1,1),(2,1),(3,1)]:=⟨_,Tryz.underlying89,⟨rfl,⟨_,ti3⟩,rfl,⟨_,ti3⟩,rfl,⟨_,ti3⟩,rfl,⟨_,ti3⟩,trivial⟩⟩
theorem Qcw:Qa9 137:=entr Tryz.func137
theorem Zcf:Qa9 139:=entr Tryz.func139
theorem Zb7:Qa9 148:=entr Tryz.func148
theorem Zb1:Qa9 156:=entr Tryz.func156
theorem Zb8:Qa9 147:=entr Tryz.func147
theorem Zcg:Qa9 138:=entr Tryz.func138
theorem Qze:TZ Tryz.prog 160 [.int .i64 0,.int .i64 0,.int .i64 0,.int .i64 0,.int .i64 0]:=Qhp (by kernel_rfl)
theorem Q21:Qa9 122:=entr Tryz.func122
theorem Qvr:Qa9 100:=entr Tryz.func100
theorem Qfm:Qa9 65:=entr Tryz.func65
theorem Zcn:Qa9 125:=entr Tryz.func125
theorem Q20:Qa9 128:=entr Tryz.func128
theorem Qop:Qa9 141:=entr Tryz.func141
theorem Qoq:Qa9 126:=entr Tryz.func126
theorem Qvq:Qa9 108:=entr Tryz.func108
theorem Zcm:Qa9 127:=entr Tryz.func127
theorem Zc3:Qa9 102:=entr Tryz.func102
theorem Zco:Qa9 124:=entr Tryz.func124
theorem Zce:Qa9 140:=entr Tryz.func140
theorem Zcp:Qa9 123:=entr Tryz.func123
theorem Zc4:Qa9 101:=entr Tryz.func101
theorem Qsf:CkT Tryz.prog 120 2:=ck2 Tryz.underlying120 Tryz.underlying3 Tryz.underlying3 rfl rfl
theorem zb4:∃ i,Tryz.prog.info? 4=some i∧i.zero=some (.bool false):=Zkh (by kernel_rfl)
theorem Qzf:TZ Tryz.prog 133 [.int .u8 0,.slice none 0 0,.int .i64 0,.int .i64 0,.int .i64 0,.int .i64 0,.slice none 0 0]:=Qhp (by kernel_rfl)
theorem Ql3:TZ Tryz.prog 120 [.int .i64 0,.int .i64 0]:=Qhp (by kernel_rfl)
theorem Qqy:Qa9 103:=entr Tryz.func103
theorem Qvm:Qa9 66:=entr Tryz.func66
theorem Zkl:TZ Tryz.prog 190 [(.map none)]:=Qhp (by kernel_rfl)
theorem Zh8:Qa9 75:=entr Tryz.func75
theorem Zjt:TE Tryz.prog 120 2 16:=Qww (by kernel_rfl) (by decide)
theorem Zc0:Qa9 110:=entr Tryz.func110
theorem Zcz:Qa9 111:=entr Tryz.func111
theorem Zh7:Qa9 89:=entr Tryz.func89
theorem Zc1:Qa9 109:=entr Tryz.func109
theorem Q8p:Qa9 73:=entr Tryz.func73
theorem tz3:TZ Tryz.prog 3 [.int .i64 0]:=Qhp (by kernel_rfl)
theorem te3:TE Tryz.prog 3 1 8:=Qww (by kernel_rfl) (by decide)
theorem Qvl:Qa9 67:=entr Tryz.func67
theorem Qmy:Qa9 131:=entr Tryz.func131
theorem Zcw:Qa9 114:=entr Tryz.func114
theorem Zcx:Qa9 113:=entr Tryz.func113
theorem Zck:Qa9 130:=entr Tryz.func130
theorem Zcd:Qa9 142:=entr Tryz.func142
theorem Zcl:Qa9 129:=entr Tryz.func129
theorem Zcy:Qa9 112:=entr Tryz.func112
theorem tz63:TZ Tryz.prog 63 [.int .i64 0,.int .i64 0,.int .i64 0,.int .i64 0]:=Qhp (by kernel_rfl)
theorem Qz9:Qa9 76:=entr Tryz.func76
theorem Zh6:Qa9 94:=entr Tryz.func94
theorem Q38:TZ Tryz.prog 227 [.int .i64 0,.int .i64 0,.int .i64 0]:=Qhp (by kernel_rfl)
theorem Zb5:Qa9 150:=entr Tryz.func150
theorem Zb0:Qa9 157:=entr Tryz.func157
theorem Q2x:Qa9 151:=entr Tryz.func151
theorem Zb4:Qa9 152:=entr Tryz.func152
theorem Q2w:Qa9 159:=entr Tryz.func159
theorem Zbw:Qa9 163:=entr Tryz.func163
theorem Q2v:Qa9 165:=entr Tryz.func165
theorem Zbv:Qa9 164:=entr Tryz.func164
theorem Zbx:Qa9 162:=entr Tryz.func162
theorem Zbz:Qa9 158:=entr Tryz.func158
theorem Zb3:Qa9 153:=entr Tryz.func153
theorem Qvo:Qa9 154:=entr Tryz.func154
theorem te63:TE Tryz.prog 63 4 32:=Qww (by kernel_rfl) (by decide)
theorem Zjl:TZ Tryz.prog 235 [(.pointer none),(.pointer none),(.pointer none),(.pointer none)]:=Qhp (by kernel_rfl)
theorem Qoo:Qa9 161:=entr Tryz.func161
theorem Zby:Qa9 160:=entr Tryz.func160
theorem Zb2:Qa9 155:=entr Tryz.func155
theorem Zkp:TZ Tryz.prog 136 [(.pointer none)]:=Qhp (by kernel_rfl)
theorem te45:TE Tryz.prog 45 1 24:=Qww (by kernel_rfl) (by decide)
theorem tz45:TZ Tryz.prog 45 [.slice none 0 0]:=Qhp (by kernel_rfl)
theorem te82:TE Tryz.prog 82 4 32:=Qww (by kernel_rfl) (by decide)
theorem tz82:TZ Tryz.prog 82 [.int .i64 0,.int .i64 0,.int .i64 0,.int .i64 0]:=Qhp (by kernel_rfl)
theorem Zh5:Qa9 95:=entr Tryz.func95
theorem tz34:TZ Tryz.prog 34 [.slice none 0 0,.slice none 0 0,.slice none 0 0]:=Qhp (by kernel_rfl)
theorem Zjp:TZ Tryz.prog 140 [.slice none 0 0,.slice none 0 0,.slice none 0 0,.slice none 0 0,.slice none 0 0,.slice none 0 0,.int .i64 0]:=Qhp (by kernel_rfl)
theorem Zh4:Qa9 96:=entr Tryz.func96
theorem Q0a:Qa9 74:=entr Tryz.func74
theorem Zcu:Qa9 116:=entr Tryz.func116
theorem Q2z:Qa9 134:=entr Tryz.func134
theorem Zci:Qa9 133:=entr Tryz.func133
theorem Zcj:Qa9 132:=entr Tryz.func132
theorem Zcv:Qa9 115:=entr Tryz.func115
theorem Zjo:TZ Tryz.prog 182 [.int .i64 0]:=Qhp (by kernel_rfl)
theorem Zjn:TZ Tryz.prog 209 [.nilFunc,.nilFunc,.nilFunc,.nilFunc,.nilFunc,.nilFunc,.nilFunc]:=Qhp (by kernel_rfl)
theorem Qvp:Qa9 117:=entr Tryz.func117
theorem Zct:Qa9 118:=entr Tryz.func118
theorem Zay:TZ Tryz.prog 214 [.int .i64 0,.int .i64 0,.int .i64 0,.int .i64 0,.int .i64 0,.int .i64 0,.int .i64 0,.int .i64 0,.int .i64 0,.int .i64 0]:=Qhp (by kernel_rfl)
theorem Zcc:Qa9 143:=entr Tryz.func143
theorem Zjm:TZ Tryz.prog 224 [.int .i64 0,.int .i64 0,.int .i64 0,.int .i64 0,.int .i64 0]:=Qhp (by kernel_rfl)
theorem Zcb:Qa9 144:=entr Tryz.func144
theorem Zb6:Qa9 149:=entr Tryz.func149
theorem Zca:Qa9 145:=entr Tryz.func145
theorem Zch:Qa9 135:=entr Tryz.func135
theorem Zb9:Qa9 146:=entr Tryz.func146
theorem Q2y:Qa9 136:=entr Tryz.func136
theorem Zcs:Qa9 119:=entr Tryz.func119
theorem Zcr:Qa9 120:=entr Tryz.func120
theorem Q8o:Qa9 97:=entr Tryz.func97
theorem Q8r:Qa9 57:=entr Tryz.func57
theorem Qvn:Qa9 58:=entr Tryz.func58
theorem tz42:TZ Tryz.prog 42 [.slice none 0 0,.slice none 0 0]:=Qhp (by kernel_rfl)
theorem Zid:Qa9 55:=entr Tryz.func55
theorem Zie:Qa9 47:=entr Tryz.func47
theorem Q0e:Qa9 16:=entr Tryz.func16
theorem Zkn:TZ Tryz.prog 149 [.int .i64 0,.int .i64 0,.int .i64 0,.int .i64 0,.int .i64 0]:=Qhp (by kernel_rfl)
theorem Qcp:Qa9 25:=entr Tryz.func25
theorem Zk3:TE Tryz.prog 160 5 40:=Qww (by kernel_rfl) (by decide)
theorem Zic:Qa9 59:=entr Tryz.func59
theorem tz59:TZ Tryz.prog 59 [.int .u8 0,.slice none 0 0,.int .i64 0,.int .i64 0,.int .i64 0,.int .i64 0,.slice none 0 0]:=Qhp (by kernel_rfl)
theorem Zk4:TE Tryz.prog 133 7 88:=Qww (by kernel_rfl) (by decide)
theorem Q0c:Qa9 69:=entr Tryz.func69
theorem Zc2:Qa9 107:=entr Tryz.func107
theorem Q8q:Qa9 70:=entr Tryz.func70
theorem tz61:TZ Tryz.prog 61 [.int .i64 0,.int .i64 0]:=Qhp (by kernel_rfl)
theorem Q0b:Qa9 71:=entr Tryz.func71
theorem Zh9:Qa9 72:=entr Tryz.func72
theorem te61:TE Tryz.prog 61 2 16:=Qww (by kernel_rfl) (by decide)
theorem Zib:Qa9 60:=entr Tryz.func60
theorem Zko:TZ Tryz.prog 146 [.int .i64 0,.int .i64 0,.int .i64 0,.int .i64 0,.int .i64 0,.int .i64 0,.int .i64 0,.int .i64 0,.int .i64 0,.int .i64 0]:=Qhp (by kernel_rfl)
theorem tz89:TZ Tryz.prog 89 [.int .i64 0,.int .i64 0,.int .i64 0,.int .i64 0]:=Qhp (by kernel_rfl)
theorem Zkm:TZ Tryz.prog 151 [.int .i64 0,.int .i64 0,.int .i64 0]:=Qhp (by kernel_rfl)
theorem tz4:TZ Tryz.prog 4 [.bool false]:=Qhp (by kernel_rfl)
theorem Zcq:Qa9 121:=entr Tryz.func121
theorem Q8u:Qa9 29:=entr Tryz.func29
theorem Zh3:Qa9 98:=entr Tryz.func98
theorem Zif:Qa9 38:=entr Tryz.func38
theorem Q8v:Qa9 28:=entr Tryz.func28
theorem Q8s:Qa9 33:=entr Tryz.func33
theorem Zia:Qa9 61:=entr Tryz.func61
theorem tz52:TZ Tryz.prog 52 [.slice none 0 0,.slice none 0 0,.slice none 0 0]:=Qhp (by kernel_rfl)
theorem tz90:TZ Tryz.prog 90 [.int .i64 0,.int .i64 0,.int .i64 0,.int .i64 0]:=Qhp (by kernel_rfl)
theorem tz28:TZ Tryz.prog 28 [.slice none 0 0]:=Qhp (by kernel_rfl)
theorem tz92:TZ Tryz.prog 92 [.int .i64 0,.int .i64 0]:=Qhp (by kernel_rfl)
theorem Q0f:Qa9 14:=entr Tryz.func14
theorem Qpq:Qa9 15:=entr Tryz.func15
theorem Qsa:Qa9 17:=entr Tryz.func17
theorem Q8w:Qa9 18:=entr Tryz.func18
theorem Q0d:Qa9 19:=entr Tryz.func19
theorem Zih:Qa9 20:=entr Tryz.func20
theorem Zig:Qa9 24:=entr Tryz.func24
theorem Q8t:Qa9 32:=entr Tryz.func32
theorem Qka:EqT Tryz.prog 10000 120 2:=Qpp (d:=9998) Tryz.underlying120 (by kernel_rfl) (.int _ (by decide) rfl Tryz.underlying3 (.int _ (by decide) rfl Tryz.underlying3 (.nil _)))
theorem Qz8:EqT Tryz.prog 10000 63 4:=Qpp (d:=9998) Tryz.underlying63 (by kernel_rfl) (.int _ (by decide) rfl Tryz.underlying3 (.int _ (by decide) rfl Tryz.underlying3 (.int _ (by decide) rfl Tryz.underlying3 (.int _ (by decide) rfl Tryz.underlying3 (.nil _)))))
theorem Zli:EqT Tryz.prog 10000 61 2:=Qpp (d:=9998) Tryz.underlying61 (by kernel_rfl) (.int _ (by decide) rfl Tryz.underlying3 (.int _ (by decide) rfl Tryz.underlying3 (.nil _)))
def tyT:Tab:=.node 90 ⟨true,4,(some [.int .i64 0,.int .i64 0,.int .i64 0,.int .i64 0]),[(0,false,1),(1,false,1),(2,false,1),(3,false,1)]⟩ (.node 40 ⟨false,1,none,[]⟩ (.node 27 ⟨false,1,none,[]⟩ (.node 23 ⟨false,1,none,[]⟩ (.node 4 ⟨false,1,(some [.bool false]),[]⟩ (.node 3 ⟨false,1,(some [.int .i64 0]),[]⟩ .nil .nil) (.node 5 ⟨false,1,none,[]⟩ .nil .nil)) (.node 26 ⟨true,2,none,[(0,false,1),(1,false,1)]⟩ (.node 24 ⟨false,1,none,[]⟩ .nil .nil) .nil)) (.node 32 ⟨false,1,none,[]⟩ (.node 31 ⟨false,1,none,[]⟩ (.node 28 ⟨false,1,(some [.slice none 0 0]),[]⟩ .nil .nil) .nil) (.node 39 ⟨false,1,none,[]⟩ (.node 34 ⟨true,3,(some [.slice none 0 0,.slice none 0 0,.slice none 0 0]),[(0,false,1),(1,false,1),(2,false,1)]⟩ .nil .nil) .nil))) (.node 57 ⟨false,1,none,[]⟩ (.node 49 ⟨false,1,none,[]⟩ (.node 45 ⟨false,1,(some [.slice none 0 0]),[]⟩ (.node 42 ⟨true,2,(some [.slice none 0 0,.slice none 0 0]),[(0,false,1),(1,false,1)]⟩ .nil .nil) .nil) (.node 52 ⟨true,3,(some [.slice none 0 0,.slice none 0 0,.slice none 0 0]),[(0,false,1),(1,false,1),(2,false,1)]⟩ (.node 50 ⟨false,1,none,[]⟩ .nil .nil) .nil)) (.node 63 ⟨true,4,(some [.int .i64 0,.int .i64 0,.int .i64 0,.int .i64 0]),[(0,false,1),(1,false,1),(2,false,1),(3,false,1)]⟩ (.node 61 ⟨true,2,(some [.int .i64 0,.int .i64 0]),[(0,false,1),(1,false,1)]⟩ (.node 59 ⟨true,7,(some [.int .u8 0,.slice none 0 0,.int .i64 0,.int .i64 0,.int .i64 0,.int .i64 0,.slice none 0 0]),[(0,false,1),(1,false,1),(2,false,1),(3,false,1),(4,false,1),(5,false,1),(6,false,1)]⟩ .nil .nil) .nil) (.node 89 ⟨true,4,(some [.int .i64 0,.int .i64 0,.int .i64 0,.int .i64 0]),[(0,false,1),(1,false,1),(2,false,1),(3,false,1)]⟩ (.node 82 ⟨true,4,(some [.int .i64 0,.int .i64 0,.int .i64 0,.int .i64 0]),[(0,false,1),(1,false,1),(2,false,1),(3,false,1)]⟩ .nil .nil) .nil)))) (.node 189 ⟨false,1,none,[]⟩ (.node 146 ⟨true,10,(some [.int .i64 0,.int .i64 0,.int .i64 0,.int .i64 0,.int .i64 0,.int .i64 0,.int .i64 0,.int .i64 0,.int .i64 0,.int .i64 0]),[(0,true,4),(4,true,4),(8,false,1),(9,false,1)]⟩ (.node 133 ⟨true,7,(some [.int .u8 0,.slice none 0 0,.int .i64 0,.int .i64 0,.int .i64 0,.int .i64 0,.slice none 0 0]),[(0,false,1),(1,false,1),(2,false,1),(3,false,1),(4,false,1),(5,false,1),(6,false,1)]⟩ (.node 116 ⟨false,1,none,[]⟩ (.node 92 ⟨true,2,(some [.int .i64 0,.int .i64 0]),[(0,false,1),(1,false,1)]⟩ .nil .nil) (.node 120 ⟨true,2,(some [.int .i64 0,.int .i64 0]),[(0,false,1),(1,false,1)]⟩ .nil .nil)) (.node 140 ⟨true,7,(some [.slice none 0 0,.slice none 0 0,.slice none 0 0,.slice none 0 0,.slice none 0 0,.slice none 0 0,.int .i64 0]),[(0,true,2),(2,true,3),(5,false,1),(6,false,1)]⟩ (.node 136 ⟨false,1,(some [(.pointer none)]),[]⟩ .nil .nil) .nil)) (.node 160 ⟨true,5,(some [.int .i64 0,.int .i64 0,.int .i64 0,.int .i64 0,.int .i64 0]),[(0,false,1),(1,false,1),(2,false,1),(3,false,1),(4,false,1)]⟩ (.node 151 ⟨true,3,(some [.int .i64 0,.int .i64 0,.int .i64 0]),[(0,false,1),(1,false,1),(2,false,1)]⟩ (.node 149 ⟨true,5,(some [.int .i64 0,.int .i64 0,.int .i64 0,.int .i64 0,.int .i64 0]),[(0,false,1),(1,false,1),(2,false,1),(3,false,1),(4,false,1)]⟩ .nil .nil) .nil) (.node 182 ⟨true,1,(some [.int .i64 0]),[(0,false,1)]⟩ (.node 162 ⟨false,1,none,[]⟩ .nil .nil) .nil))) (.node 214 ⟨true,10,(some [.int .i64 0,.int .i64 0,.int .i64 0,.int .i64 0,.int .i64 0,.int .i64 0,.int .i64 0,.int .i64 0,.int .i64 0,.int .i64 0]),[(0,true,4),(4,true,4),(8,false,1),(9,false,1)]⟩ (.node 202 ⟨false,1,none,[]⟩ (.node 197 ⟨false,1,none,[]⟩ (.node 190 ⟨false,1,(some [(.map none)]),[]⟩ .nil .nil) .nil) (.node 209 ⟨true,7,(some [.nilFunc,.nilFunc,.nilFunc,.nilFunc,.nilFunc,.nilFunc,.nilFunc]),[]⟩ (.node 207 ⟨false,1,none,[]⟩ .nil .nil) .nil)) (.node 227 ⟨true,3,(some [.int .i64 0,.int .i64 0,.int .i64 0]),[(0,false,1),(1,false,1),(2,false,1)]⟩ (.node 224 ⟨true,5,(some [.int .i64 0,.int .i64 0,.int .i64 0,.int .i64 0,.int .i64 0]),[(0,true,5)]⟩ (.node 219 ⟨false,1,none,[]⟩ .nil .nil) .nil) (.node 235 ⟨true,4,(some [(.pointer none),(.pointer none),(.pointer none),(.pointer none)]),[]⟩ (.node 234 ⟨false,1,none,[]⟩ .nil .nil) .nil))))
theorem tbk:tyT.ok Tryz.prog:=⟨⟨ti90,tz90,.inr ⟨_,Tryz.underlying90,rfl,ti3,rfl,ti3,rfl,ti3,rfl,ti3,trivial⟩⟩,⟨⟨ti40,trivial,.inl rfl⟩,⟨⟨ti27,trivial,.inl rfl⟩,⟨⟨ti23,trivial,.inl rfl⟩,⟨⟨ti4,tz4,.inl rfl⟩,⟨⟨ti3,tz3,.inl rfl⟩,trivial,trivial⟩,⟨⟨ti5,trivial,.inl rfl⟩,trivial,trivial⟩⟩,⟨⟨ti26,trivial,.inr ⟨_,Tryz.underlying26,rfl,ti23,rfl,ti24,trivial⟩⟩,⟨⟨ti24,trivial,.inl rfl⟩,trivial,trivial⟩,trivial⟩⟩,⟨⟨ti32,trivial,.inl rfl⟩,⟨⟨ti31,trivial,.inl rfl⟩,⟨⟨ti28,tz28,.inl rfl⟩,trivial,trivial⟩,trivial⟩,⟨⟨ti39,trivial,.inl rfl⟩,⟨⟨ti34,tz34,.inr ⟨_,Tryz.underlying34,rfl,ti31,rfl,ti32,rfl,ti27,trivial⟩⟩,trivial,trivial⟩,trivial⟩⟩⟩,⟨⟨ti57,trivial,.inl rfl⟩,⟨⟨ti49,trivial,.inl rfl⟩,⟨⟨ti45,tz45,.inl rfl⟩,⟨⟨ti42,tz42,.inr ⟨_,Tryz.underlying42,rfl,ti39,rfl,ti40,trivial⟩⟩,trivial,trivial⟩,trivial⟩,⟨⟨ti52,tz52,.inr ⟨_,Tryz.underlying52,rfl,ti49,rfl,ti50,rfl,ti27,trivial⟩⟩,⟨⟨ti50,trivial,.inl rfl⟩,trivial,trivial⟩,trivial⟩⟩,⟨⟨ti63,tz63,.inr ⟨_,Tryz.underlying63,rfl,ti3,rfl,ti3,rfl,ti3,rfl,ti3,trivial⟩⟩,⟨⟨ti61,tz61,.inr ⟨_,Tryz.underlying61,rfl,ti3,rfl,ti3,trivial⟩⟩,⟨⟨ti59,tz59,.inr ⟨_,Tryz.underlying59,rfl,ti5,rfl,ti57,rfl,ti3,rfl,ti3,rfl,ti3,rfl,ti3,rfl,ti27,trivial⟩⟩,trivial,trivial⟩,trivial⟩,⟨⟨ti89,tz89,.inr ⟨_,Tryz.underlying89,rfl,ti3,rfl,ti3,rfl,ti3,rfl,ti3,trivial⟩⟩,⟨⟨ti82,tz82,.inr ⟨_,Tryz.underlying82,rfl,ti3,rfl,ti3,rfl,ti3,rfl,ti3,trivial⟩⟩,trivial,trivial⟩,trivial⟩⟩⟩⟩,⟨⟨Zkx,trivial,.inl rfl⟩,⟨⟨Zk1,Zko,.inr ⟨_,Tryz.underlying146,rfl,ti89,rfl,ti89,rfl,ti3,rfl,ti3,trivial⟩⟩,⟨⟨Qip,Qzf,.inr ⟨_,Tryz.underlying133,rfl,ti5,rfl,Zgz,rfl,ti3,rfl,ti3,rfl,ti3,rfl,ti3,rfl,ti27,trivial⟩⟩,⟨⟨Zgz,trivial,.inl rfl⟩,⟨⟨ti92,tz92,.inr ⟨_,Tryz.underlying92,rfl,ti3,rfl,ti3,trivial⟩⟩,trivial,trivial⟩,⟨⟨Qkz,Ql3,.inr ⟨_,Tryz.underlying120,rfl,ti3,rfl,ti3,trivial⟩⟩,trivial,trivial⟩⟩,⟨⟨Zk2,Zjp,.inr ⟨_,Tryz.underlying140,rfl,ti42,rfl,ti34,rfl,ti45,rfl,ti3,trivial⟩⟩,⟨⟨Qs2,Zkp,.inl rfl⟩,trivial,trivial⟩,trivial⟩⟩,⟨⟨Qs1,Qze,.inr ⟨_,Tryz.underlying160,rfl,ti3,rfl,ti3,rfl,ti3,rfl,ti3,rfl,ti3,trivial⟩⟩,⟨⟨Zk0,Zkm,.inr ⟨_,Tryz.underlying151,rfl,ti3,rfl,ti3,rfl,ti3,trivial⟩⟩,⟨⟨Ql6,Zkn,.inr ⟨_,Tryz.underlying149,rfl,ti3,rfl,ti3,rfl,ti3,rfl,ti3,rfl,ti3,trivial⟩⟩,trivial,trivial⟩,trivial⟩,⟨⟨Zky,Zjo,.inr ⟨_,Tryz.underlying182,rfl,ti3,trivial⟩⟩,⟨⟨Zkz,trivial,.inl rfl⟩,trivial,trivial⟩,trivial⟩⟩⟩,⟨⟨Qzi,Zay,.inr ⟨_,Tryz.underlying214,rfl,ti63,rfl,ti63,rfl,ti3,rfl,ti3,trivial⟩⟩,⟨⟨Zkv,trivial,.inl rfl⟩,⟨⟨Zkw,trivial,.inl rfl⟩,⟨⟨Zgy,Zkl,.inl rfl⟩,trivial,trivial⟩,trivial⟩,⟨⟨Zku,Zjn,.inl rfl⟩,⟨⟨Qob,trivial,.inl rfl⟩,trivial,trivial⟩,trivial⟩⟩,⟨⟨Q4a,Q38,.inr ⟨_,Tryz.underlying227,rfl,ti3,rfl,ti3,rfl,ti3,trivial⟩⟩,⟨⟨Zjs,Zjm,.inr ⟨_,Tryz.underlying224,rfl,Qs1,trivial⟩⟩,⟨⟨Zkt,trivial,.inl rfl⟩,trivial,trivial⟩,trivial⟩,⟨⟨Zjr,Zjl,.inl rfl⟩,⟨⟨Qs0,trivial,.inl rfl⟩,trivial,trivial⟩,trivial⟩⟩⟩⟩⟩
section
variable {ops : Array Oper} {X : Nat → Nat → Prop} {φ0 : Nat → FSlot} {w0 : World} {ro : Option Nat} {Q : Exit → AS → Prop} {s : AS} {id : Nat} {y : Code}
theorem wxz (h:AWp Tryz.prog X φ0 w0 ro y Q (Qo1 tyT ops [] s)) (hm:MetX tyT ops [] s:=by exact ⟨by kernel_rfl,by kernel_rfl⟩):AWp Tryz.prog X φ0 w0 ro (.seq (.region id ops false) y) Q s:=Zka tbk [] trivial h hm
theorem wxz1 (h:Q .normal (Qo1 tyT ops [] s)) (hm:MetX tyT ops [] s:=by exact ⟨by kernel_rfl,by kernel_rfl⟩):AWp Tryz.prog X φ0 w0 ro (.region id ops false) Q s:=Zeu tbk [] trivial h hm
theorem wxe (h:AWp Tryz.prog X φ0 w0 ro y Q (Qo1 tyT ops [] s)) (hf:Tryz.prog.follows .mixedOrders=true:=by kernel_rfl) (hm:MetX tyT ops [] s:=by exact ⟨by kernel_rfl,by kernel_rfl⟩) (ho:Qf0 (ops.toList.zip (Qw8 tyT ops [] s)) [] []=true:=by kernel_rfl):AWp Tryz.prog X φ0 w0 ro (.seq (.region id ops true) y) Q s:=Zet tbk [] trivial h hf hm ho
theorem wxe1 (h:Q .normal (Qo1 tyT ops [] s)) (hf:Tryz.prog.follows .mixedOrders=true:=by kernel_rfl) (hm:MetX tyT ops [] s:=by exact ⟨by kernel_rfl,by kernel_rfl⟩) (ho:Qf0 (ops.toList.zip (Qw8 tyT ops [] s)) [] []=true:=by kernel_rfl):AWp Tryz.prog X φ0 w0 ro (.region id ops true) Q s:=Q89 tbk [] trivial h hf hm ho
end
end Go.Proofs.YtmbhnllcfmiajaaGreat
