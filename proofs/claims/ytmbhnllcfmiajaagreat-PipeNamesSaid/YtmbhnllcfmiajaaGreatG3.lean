/-
  The texts Xt, EngZ, Xo, X1, X2, X3 of the proof, one behind the other. No conditions.
-/
import Derived.Test.YtmbhnllcfmiajaaGreatG2
import Derived.Conc.MuLone
import Derived.Test.YtmbhnllcfmiajaaGreatRows
import Derived.ProofKit
import Derived.Deep.Slices
import Derived.Deep.Fields
import Derived.ChangeSame
import Derived.Lib.SmallJoins
import Derived.SizedLaws
namespace Go.Proofs.YtmbhnllcfmiajaaGreat
open _root_.Go.Proofs.Tryz
section
set_option maxRecDepth 100000
open Go.RowKit
def Qa7 (g:FuncId):Prop:=∀vals w,(callFunc g vals).run prog w=.ok (.enter g vals) w
theorem entr {g : FuncId} {fn : Func} {c : Code} (h : prog.funcs[g]? = some fn) (h1 : (fn.name == "runtime.NumGoroutine") = false := by kernel_rfl) (h2 : fn.body = some c := by rfl) : Qa7 g := fun vals w => MuLone.run_callFunc_enter h h1 h2 vals w
def Qac (x:Int):List AV:=[K .i64 x]
theorem Qae:∀x,∀a∈Qac x,NLt 0 a:=fun _=>Qhe (.lit _) Qlf
theorem Qgj:∀x,(Qac x).all AV.one=true:=fun _=>rfl
structure GRow where
  T:Int
  P:Int
  Liquid:Int
  Vapour:Int
  Silica:Int
  deriving DecidableEq
def Qau (x:GRow):List AV:=Qac x.T++Qac x.P++Qac x.Liquid++Qac x.Vapour++Qac x.Silica
theorem Qak:∀x,∀a∈Qau x,NLt 0 a:=fun _=>(Qf5 (Qf5 (Qf5 (Qf5 (Qae _) (Qae _)) (Qae _)) (Qae _)) (Qae _))
theorem Qxo:∀x,(Qau x).all AV.one=true:=fun _=>(Qiw (Qiw (Qiw (Qiw (Qgj _) (Qgj _)) (Qgj _)) (Qgj _)) (Qgj _))
def c_u8 (x:Int):List AV:=[K .u8 x]
theorem Zdt:∀x,∀a∈c_u8 x,NLt 0 a:=fun _=>Qhe (.lit _) Qlf
theorem Zb4:∀x,(c_u8 x).all AV.one=true:=fun _=>rfl
structure Qby where
  Element:Int
  Outlet:Int
  deriving DecidableEq
def Qbc (x:Qby):List AV:=Qac x.Element++Qac x.Outlet
theorem Qbo:∀x,∀a∈Qbc x,NLt 0 a:=fun _=>(Qf5 (Qae _) (Qae _))
theorem Qt4:∀x,(Qbc x).all AV.one=true:=fun _=>(Qiw (Qgj _) (Qgj _))
def Qs3 (x:List Qby):List AV:=[.dat 2 (x.map Qbc)]
theorem Q11:∀x,∀a∈Qs3 x,NLt 0 a:=fun _=>Qhe (Qmb Qbo _) Qlf
theorem Qy5:∀x,(Qs3 x).all AV.one=true:=fun _=>rfl
def Qx9 (x:List Int):List AV:=[.dat 1 (x.map Qac)]
theorem Q10:∀x,∀a∈Qx9 x,NLt 0 a:=fun _=>Qhe (Qmb Qae _) Qlf
theorem Q4q:∀x,(Qx9 x).all AV.one=true:=fun _=>rfl
structure Qaf where
  Kind:Int
  From:List Qby
  Level:Int
  Amount:Int
  Wide:Int
  Narrow:Int
  Weights:List Int
  deriving DecidableEq
def Qad (x:Qaf):List AV:=c_u8 x.Kind++Qs3 x.From++Qac x.Level++Qac x.Amount++Qac x.Wide++Qac x.Narrow++Qx9 x.Weights
theorem Qaa:∀x,∀a∈Qad x,NLt 0 a:=fun _=>(Qf5 (Qf5 (Qf5 (Qf5 (Qf5 (Qf5 (Zdt _) (Q11 _)) (Qae _)) (Qae _)) (Qae _)) (Qae _)) (Q10 _))
theorem Qt5:∀x,(Qad x).all AV.one=true:=fun _=>(Qiw (Qiw (Qiw (Qiw (Qiw (Qiw (Zb4 _) (Qy5 _)) (Qgj _)) (Qgj _)) (Qgj _)) (Qgj _)) (Q4q _))
def Q22 (x:List GRow):List AV:=[.dat 5 (x.map Qau)]
theorem Q4r:∀x,∀a∈Q22 x,NLt 0 a:=fun _=>Qhe (Qmb Qak _) Qlf
def Qql (x:List Qaf):List AV:=[.dat 7 (x.map Qad)]
theorem Qt7:∀x,∀a∈Qql x,NLt 0 a:=fun _=>Qhe (Qmb Qaa _) Qlf
structure GNet where
  Table:List GRow
  Elements:List Qaf
  deriving DecidableEq
def Qg6 (x:GNet):List AV:=Q22 x.Table++Qql x.Elements
theorem Q9i:∀x,∀a∈Qg6 x,NLt 0 a:=fun _=>(Qf5 (Q4r _) (Qt7 _))
structure Qab where
  Mass:Int
  Heat:Int
  Silica:Int
  Gas:Int
  deriving DecidableEq
def Qag (x:Qab):List AV:=Qac x.Mass++Qac x.Heat++Qac x.Silica++Qac x.Gas
theorem Qah:∀x,∀a∈Qag x,NLt 0 a:=fun _=>(Qf5 (Qf5 (Qf5 (Qae _) (Qae _)) (Qae _)) (Qae _))
structure Qm0 where
  Heat:Int
  Silica:Int
  Gas:Int
  deriving DecidableEq
def Q90 (x:Qm0):List AV:=Qac x.Heat++Qac x.Silica++Qac x.Gas
def Qal (x:List Qab):List AV:=[.dat 4 (x.map Qag)]
theorem Qan:∀x,∀a∈Qal x,NLt 0 a:=fun _=>Qhe (Qmb Qah _) Qlf
structure Qbg where
  Heat:Int
  Silica:Int
  Gas:Int
  Scale:Int
  deriving DecidableEq
def Qaw (x:Qbg):List AV:=Qac x.Heat++Qac x.Silica++Qac x.Gas++Qac x.Scale
theorem Qa0:∀x,∀a∈Qaw x,NLt 0 a:=fun _=>(Qf5 (Qf5 (Qf5 (Qae _) (Qae _)) (Qae _)) (Qae _))
structure Qj7 where
  Row:GRow
  deriving DecidableEq
def Qs4 (x:Qj7):List AV:=Qau x.Row
structure Qgo where
  Steam:Qab
  Water:Qab
  Rest:Int
  Scale:Int
  deriving DecidableEq
def Qyb (x:Qgo):List AV:=Qag x.Steam++Qag x.Water++Qac x.Rest++Qac x.Scale
def Qqk (x:List (List Qab)):List AV:=[.dat 1 (x.map Qal)]
theorem Qt6:∀x,∀a∈Qqk x,NLt 0 a:=fun _=>Qhe (Qmb Qan _) Qlf
def Qya (x:List Qbg):List AV:=[.dat 4 (x.map Qaw)]
theorem Q12:∀x,∀a∈Qya x,NLt 0 a:=fun _=>Qhe (Qmb Qa0 _) Qlf
structure Qfg where
  Out:List (List Qab)
  Lost:List Qbg
  State:List Int
  deriving DecidableEq
def Qv6 (x:Qfg):List AV:=Qqk x.Out++Qya x.Lost++Qx9 x.State
theorem Q4s:∀x,∀a∈Qv6 x,NLt 0 a:=fun _=>(Qf5 (Qf5 (Qt6 _) (Q12 _)) (Q10 _))
structure Zdx where
  Element:Int
  Scale:Int
  deriving DecidableEq
structure Qe4 where
  Net:GNet
  Tick:Qfg
  wells:List Qab
  steam:Int
  deriving DecidableEq
def Qh9 (x:Qe4):List AV:=Qg6 x.Net++Qv6 x.Tick++Qal x.wells++Qac x.steam
theorem Qns:∀x,∀a∈Qh9 x,NLt 0 a:=fun _=>(Qf5 (Qf5 (Qf5 (Q9i _) (Q4s _)) (Qan _)) (Qae _))
def Qcr (x:Qe4):List AV:=[.dptr (Qh9 x) 0]
theorem Qde:∀x,∀a∈Qcr x,NLt 0 a:=fun _=>Qhe (.dptr _ _ (Qns _)) Qlf
structure Qme where
  Lo:Int
  Hi:Int
  deriving DecidableEq
structure Zdw where
  Mass:Qme
  Heat:Qme
  Silica:Qme
  Gas:Qme
  deriving DecidableEq
structure Zdv where
  a0:Bool
  a1:Bool
  a2:Bool
  a3:Bool
  a4:Bool
  a5:Bool
  a6:Bool
  a7:Bool
  deriving DecidableEq
theorem Qqb:∀x,∀a∈Qac x,∃v,a=.lit v:=fun _=>Q4w Q9k
theorem Qvx:∀x,∀a∈Qag x,∃v,a=.lit v:=fun _=>(Qvw (Qvw (Qvw (Qqb _) (Qqb _)) (Qqb _)) (Qqb _))
theorem Qpa:TI prog 160 true 5:=⟨⟨_,underlying160,rfl⟩,Qb8 (by kernel_rfl)⟩
theorem Zc8:TI prog 219 false 1:=⟨⟨_,underlying219,rfl⟩,Qb8 (by kernel_rfl)⟩
theorem ti3:TI prog 3 false 1:=⟨⟨_,underlying3,rfl⟩,Qb8 (by kernel_rfl)⟩
theorem ti39:TI prog 39 false 1:=⟨⟨_,underlying39,rfl⟩,Qb8 (by kernel_rfl)⟩
theorem ti40:TI prog 40 false 1:=⟨⟨_,underlying40,rfl⟩,Qb8 (by kernel_rfl)⟩
theorem Qfz:TI prog 133 true 7:=⟨⟨_,underlying133,rfl⟩,Qb8 (by kernel_rfl)⟩
theorem Zdc:TI prog 189 false 1:=⟨⟨_,underlying189,rfl⟩,Qb8 (by kernel_rfl)⟩
theorem ti5:TI prog 5 false 1:=⟨⟨_,underlying5,rfl⟩,Qb8 (by kernel_rfl)⟩
theorem Q1m:TI prog 116 false 1:=⟨⟨_,underlying116,rfl⟩,Qb8 (by kernel_rfl)⟩
theorem ti27:TI prog 27 false 1:=⟨⟨_,underlying27,rfl⟩,Qb8 (by kernel_rfl)⟩
theorem Zdb:TI prog 197 false 1:=⟨⟨_,underlying197,rfl⟩,Qb8 (by kernel_rfl)⟩
theorem Qk3:TI prog 120 true 2:=⟨⟨_,underlying120,rfl⟩,Qb8 (by kernel_rfl)⟩
theorem ti42:TI prog 42 true 2:=⟨⟨_,underlying42,rfl⟩,Qb8 (by kernel_rfl)⟩
theorem Q88:TI prog 190 false 1:=⟨⟨_,underlying190,rfl⟩,Qb8 (by kernel_rfl)⟩
theorem ti63:TI prog 63 true 4:=⟨⟨_,underlying63,rfl⟩,Qb8 (by kernel_rfl)⟩
theorem Zda:TI prog 202 false 1:=⟨⟨_,underlying202,rfl⟩,Qb8 (by kernel_rfl)⟩
theorem Qy1:TI prog 227 true 3:=⟨⟨_,underlying227,rfl⟩,Qb8 (by kernel_rfl)⟩
theorem Zdh:TI prog 162 false 1:=⟨⟨_,underlying162,rfl⟩,Qb8 (by kernel_rfl)⟩
theorem Qq4:TI prog 234 false 1:=⟨⟨_,underlying234,rfl⟩,Qb8 (by kernel_rfl)⟩
theorem Zbx:TI prog 235 true 4:=⟨⟨_,underlying235,rfl⟩,Qb8 (by kernel_rfl)⟩
theorem ti31:TI prog 31 false 1:=⟨⟨_,underlying31,rfl⟩,Qb8 (by kernel_rfl)⟩
theorem ti32:TI prog 32 false 1:=⟨⟨_,underlying32,rfl⟩,Qb8 (by kernel_rfl)⟩
theorem ti34:TI prog 34 true 3:=⟨⟨_,underlying34,rfl⟩,Qb8 (by kernel_rfl)⟩
theorem ti45:TI prog 45 false 1:=⟨⟨_,underlying45,rfl⟩,Qb8 (by kernel_rfl)⟩
theorem Qly:TI prog 136 false 1:=⟨⟨_,underlying136,rfl⟩,Qb8 (by kernel_rfl)⟩
theorem Qnd:TI prog 207 false 1:=⟨⟨_,underlying207,rfl⟩,Qb8 (by kernel_rfl)⟩
theorem Zc9:TI prog 209 true 7:=⟨⟨_,underlying209,rfl⟩,Qb8 (by kernel_rfl)⟩
theorem ti82:TI prog 82 true 4:=⟨⟨_,underlying82,rfl⟩,Qb8 (by kernel_rfl)⟩
theorem Qvp:TI prog 214 true 10:=⟨⟨_,underlying214,rfl⟩,Qb8 (by kernel_rfl)⟩
theorem Zby:TI prog 224 true 5:=⟨⟨_,underlying224,rfl⟩,Qb8 (by kernel_rfl)⟩
theorem Zdd:TI prog 182 true 1:=⟨⟨_,underlying182,rfl⟩,Qb8 (by kernel_rfl)⟩
theorem Zdj:TI prog 149 true 5:=⟨⟨_,underlying149,rfl⟩,Qb8 (by kernel_rfl)⟩
theorem ti23:TI prog 23 false 1:=⟨⟨_,underlying23,rfl⟩,Qb8 (by kernel_rfl)⟩
theorem ti24:TI prog 24 false 1:=⟨⟨_,underlying24,rfl⟩,Qb8 (by kernel_rfl)⟩
theorem ti59:TI prog 59 true 7:=⟨⟨_,underlying59,rfl⟩,Qb8 (by kernel_rfl)⟩
theorem ti57:TI prog 57 false 1:=⟨⟨_,underlying57,rfl⟩,Qb8 (by kernel_rfl)⟩
theorem ti61:TI prog 61 true 2:=⟨⟨_,underlying61,rfl⟩,Qb8 (by kernel_rfl)⟩
theorem ti89:TI prog 89 true 4:=⟨⟨_,underlying89,rfl⟩,Qb8 (by kernel_rfl)⟩
theorem Zdk:TI prog 146 true 10:=⟨⟨_,underlying146,rfl⟩,Qb8 (by kernel_rfl)⟩
theorem ti4:TI prog 4 false 1:=⟨⟨_,underlying4,rfl⟩,Qb8 (by kernel_rfl)⟩
theorem Zdi:TI prog 151 true 3:=⟨⟨_,underlying151,rfl⟩,Qb8 (by kernel_rfl)⟩
theorem ti26:TI prog 26 true 2:=⟨⟨_,underlying26,rfl⟩,Qb8 (by kernel_rfl)⟩
theorem ti49:TI prog 49 false 1:=⟨⟨_,underlying49,rfl⟩,Qb8 (by kernel_rfl)⟩
theorem ti28:TI prog 28 false 1:=⟨⟨_,underlying28,rfl⟩,Qb8 (by kernel_rfl)⟩
theorem ti50:TI prog 50 false 1:=⟨⟨_,underlying50,rfl⟩,Qb8 (by kernel_rfl)⟩
theorem ti52:TI prog 52 true 3:=⟨⟨_,underlying52,rfl⟩,Qb8 (by kernel_rfl)⟩
theorem ti90:TI prog 90 true 4:=⟨⟨_,underlying90,rfl⟩,Qb8 (by kernel_rfl)⟩
theorem ti92:TI prog 92 true 2:=⟨⟨_,underlying92,rfl⟩,Qb8 (by kernel_rfl)⟩
theorem Zdg:TI prog 168 false 1:=⟨⟨_,underlying168,rfl⟩,Qb8 (by kernel_rfl)⟩
theorem ti96:TI prog 96 false 1:=⟨⟨_,underlying96,rfl⟩,Qb8 (by kernel_rfl)⟩
theorem Zdf:TI prog 171 false 1:=⟨⟨_,underlying171,rfl⟩,Qb8 (by kernel_rfl)⟩
theorem Qy2:TI prog 108 true 2:=⟨⟨_,underlying108,rfl⟩,Qb8 (by kernel_rfl)⟩
theorem Zdo:TI prog 110 true 8:=⟨⟨_,underlying110,rfl⟩,Qb8 (by kernel_rfl)⟩
theorem Zdn:TI prog 114 true 8:=⟨⟨_,underlying114,rfl⟩,Qb8 (by kernel_rfl)⟩
theorem Q1n:TI prog 112 true 2:=⟨⟨_,underlying112,rfl⟩,Qb8 (by kernel_rfl)⟩
theorem Zdm:TI prog 122 true 8:=⟨⟨_,underlying122,rfl⟩,Qb8 (by kernel_rfl)⟩
theorem ti1:TI prog 1 false 1:=⟨⟨_,underlying1,rfl⟩,Qb8 (by kernel_rfl)⟩
theorem Zde:TI prog 179 false 1:=⟨⟨_,underlying179,rfl⟩,Qb8 (by kernel_rfl)⟩
theorem Zdl:TI prog 140 true 7:=⟨⟨_,underlying140,rfl⟩,Qb8 (by kernel_rfl)⟩
theorem Qy0:TS prog 120 [(0,1),(1,1)]:=⟨_,underlying120,⟨rfl,⟨_,ti3⟩,rfl,⟨_,ti3⟩,trivial⟩⟩
theorem ts63:TS prog 63 [(0,1),(1,1),(2,1),(3,1)]:=⟨_,underlying63,⟨rfl,⟨_,ti3⟩,rfl,⟨_,ti3⟩,rfl,⟨_,ti3⟩,rfl,⟨_,ti3⟩,trivial⟩⟩
theorem Q1l:TS prog 227 [(0,1),(1,1),(2,1)]:=⟨_,underlying227,⟨rfl,⟨_,ti3⟩,rfl,⟨_,ti3⟩,rfl,⟨_,ti3⟩,trivial⟩⟩
theorem ts34:TS prog 34 [(0,1),(1,1),(2,1)]:=⟨_,underlying34,⟨rfl,⟨_,ti31⟩,rfl,⟨_,ti32⟩,rfl,⟨_,ti27⟩,trivial⟩⟩
theorem Zc7:TS prog 140 [(0,2),(2,3),(5,1),(6,1)]:=⟨_,underlying140,⟨rfl,⟨_,ti42⟩,rfl,⟨_,ti34⟩,rfl,⟨_,ti45⟩,rfl,⟨_,ti3⟩,trivial⟩⟩
theorem Zc6:TS prog 182 [(0,1)]:=⟨_,underlying182,⟨rfl,⟨_,ti3⟩,trivial⟩⟩
theorem Q87:TS prog 214 [(0,4),(4,4),(8,1),(9,1)]:=⟨_,underlying214,⟨rfl,⟨_,ti63⟩,rfl,⟨_,ti63⟩,rfl,⟨_,ti3⟩,rfl,⟨_,ti3⟩,trivial⟩⟩
theorem Zc5:TS prog 224 [(0,5)]:=⟨_,underlying224,⟨rfl,⟨_,Qpa⟩,trivial⟩⟩
theorem Qyy:TS prog 160 [(0,1),(1,1),(2,1),(3,1),(4,1)]:=⟨_,underlying160,⟨rfl,⟨_,ti3⟩,rfl,⟨_,ti3⟩,rfl,⟨_,ti3⟩,rfl,⟨_,ti3⟩,rfl,⟨_,ti3⟩,trivial⟩⟩
theorem Qyz:TS prog 133 [(0,1),(1,1),(2,1),(3,1),(4,1),(5,1),(6,1)]:=⟨_,underlying133,⟨rfl,⟨_,ti5⟩,rfl,⟨_,Q1m⟩,rfl,⟨_,ti3⟩,rfl,⟨_,ti3⟩,rfl,⟨_,ti3⟩,rfl,⟨_,ti3⟩,rfl,⟨_,ti27⟩,trivial⟩⟩
theorem ts42:TS prog 42 [(0,1),(1,1)]:=⟨_,underlying42,⟨rfl,⟨_,ti39⟩,rfl,⟨_,ti40⟩,trivial⟩⟩
theorem Zbw:TS prog 108 [(0,1),(1,1)]:=⟨_,underlying108,⟨rfl,⟨_,ti3⟩,rfl,⟨_,ti3⟩,trivial⟩⟩
theorem Qg5:Qa7 137:=entr func137
theorem Q5n:Qa7 139:=entr func139
theorem Q5f:Qa7 148:=entr func148
theorem Q48:Qa7 156:=entr func156
theorem Q5g:Qa7 147:=entr func147
theorem Q5o:Qa7 138:=entr func138
theorem Qpx:TZ prog 160 [.int .i64 0,.int .i64 0,.int .i64 0,.int .i64 0,.int .i64 0]:=Qfi (by kernel_rfl)
theorem Qx2:Qa7 122:=entr func122
theorem Q6b:Qa7 100:=entr func100
theorem Qh8:Qa7 65:=entr func65
theorem Q5v:Qa7 125:=entr func125
theorem Qx1:Qa7 128:=entr func128
theorem Qnw:Qa7 141:=entr func141
theorem Qnx:Qa7 126:=entr func126
theorem Qx3:Qa7 108:=entr func108
theorem Q5u:Qa7 127:=entr func127
theorem Q59:Qa7 102:=entr func102
theorem Q5w:Qa7 124:=entr func124
theorem Q5m:Qa7 140:=entr func140
theorem Q5x:Qa7 123:=entr func123
theorem Q6a:Qa7 101:=entr func101
theorem Qrn:CkT prog 120 2:=ck2 underlying120 underlying3 underlying3 rfl rfl
theorem zb4:∃i,prog.info? 4=some i∧i.zero=some (.bool false):=Zcd (by kernel_rfl)
theorem Qq3:TZ prog 133 [.int .u8 0,.slice none 0 0,.int .i64 0,.int .i64 0,.int .i64 0,.int .i64 0,.slice none 0 0]:=Qfi (by kernel_rfl)
theorem Qnb:TZ prog 120 [.int .i64 0,.int .i64 0]:=Qfi (by kernel_rfl)
theorem Qx7:Qa7 103:=entr func103
theorem Qop:Qa7 66:=entr func66
theorem Zcv:TZ prog 190 [(.map none)]:=Qfi (by kernel_rfl)
theorem Q9t:Qa7 75:=entr func75
theorem Q9a:TE prog 120 2 16:=Qtq (by kernel_rfl) (by decide)
theorem Q57:Qa7 110:=entr func110
theorem Q56:Qa7 111:=entr func111
theorem Q9r:Qa7 89:=entr func89
theorem Q58:Qa7 109:=entr func109
theorem Q2s:Qa7 73:=entr func73
theorem tz3:TZ prog 3 [.int .i64 0]:=Qfi (by kernel_rfl)
theorem te3:TE prog 3 1 8:=Qtq (by kernel_rfl) (by decide)
theorem Qmx:Qa7 67:=entr func67
theorem Qsz:Qa7 131:=entr func131
theorem Q53:Qa7 114:=entr func114
theorem Q54:Qa7 113:=entr func113
theorem Q5s:Qa7 130:=entr func130
theorem Q5l:Qa7 142:=entr func142
theorem Q5t:Qa7 129:=entr func129
theorem Q55:Qa7 112:=entr func112
theorem tz63:TZ prog 63 [.int .i64 0,.int .i64 0,.int .i64 0,.int .i64 0]:=Qfi (by kernel_rfl)
theorem Qv1:Qa7 76:=entr func76
theorem Q2m:Qa7 94:=entr func94
theorem Qyx:TZ prog 227 [.int .i64 0,.int .i64 0,.int .i64 0]:=Qfi (by kernel_rfl)
theorem Q5d:Qa7 150:=entr func150
theorem Q47:Qa7 157:=entr func157
theorem Q5c:Qa7 151:=entr func151
theorem Q5b:Qa7 152:=entr func152
theorem Qxy:Qa7 159:=entr func159
theorem Q43:Qa7 163:=entr func163
theorem Qxx:Qa7 165:=entr func165
theorem Q42:Qa7 164:=entr func164
theorem Q44:Qa7 162:=entr func162
theorem Q46:Qa7 158:=entr func158
theorem Q5a:Qa7 153:=entr func153
theorem Qsy:Qa7 154:=entr func154
theorem te63:TE prog 63 4 32:=Qtq (by kernel_rfl) (by decide)
theorem Zbq:TZ prog 235 [(.pointer none),(.pointer none),(.pointer none),(.pointer none)]:=Qfi (by kernel_rfl)
theorem Qnv:Qa7 161:=entr func161
theorem Q45:Qa7 160:=entr func160
theorem Q49:Qa7 155:=entr func155
theorem Zbv:TZ prog 136 [(.pointer none)]:=Qfi (by kernel_rfl)
theorem te45:TE prog 45 1 24:=Qtq (by kernel_rfl) (by decide)
theorem tz45:TZ prog 45 [.slice none 0 0]:=Qfi (by kernel_rfl)
theorem te82:TE prog 82 4 32:=Qtq (by kernel_rfl) (by decide)
theorem tz82:TZ prog 82 [.int .i64 0,.int .i64 0,.int .i64 0,.int .i64 0]:=Qfi (by kernel_rfl)
theorem Qv0:Qa7 95:=entr func95
theorem tz34:TZ prog 34 [.slice none 0 0,.slice none 0 0,.slice none 0 0]:=Qfi (by kernel_rfl)
theorem Zbu:TZ prog 140 [.slice none 0 0,.slice none 0 0,.slice none 0 0,.slice none 0 0,.slice none 0 0,.slice none 0 0,.int .i64 0]:=Qfi (by kernel_rfl)
theorem Q9p:Qa7 96:=entr func96
theorem Q2r:Qa7 74:=entr func74
theorem Q51:Qa7 116:=entr func116
theorem Qx0:Qa7 134:=entr func134
theorem Q5q:Qa7 133:=entr func133
theorem Q5r:Qa7 132:=entr func132
theorem Q52:Qa7 115:=entr func115
theorem Zbt:TZ prog 182 [.int .i64 0]:=Qfi (by kernel_rfl)
theorem Zbs:TZ prog 209 [.nilFunc,.nilFunc,.nilFunc,.nilFunc,.nilFunc,.nilFunc,.nilFunc]:=Qfi (by kernel_rfl)
theorem Qs0:Qa7 117:=entr func117
theorem Q50:Qa7 118:=entr func118
theorem Q4j:TZ prog 214 [.int .i64 0,.int .i64 0,.int .i64 0,.int .i64 0,.int .i64 0,.int .i64 0,.int .i64 0,.int .i64 0,.int .i64 0,.int .i64 0]:=Qfi (by kernel_rfl)
theorem Q5k:Qa7 143:=entr func143
theorem Zbr:TZ prog 224 [.int .i64 0,.int .i64 0,.int .i64 0,.int .i64 0,.int .i64 0]:=Qfi (by kernel_rfl)
theorem Q5j:Qa7 144:=entr func144
theorem Q5e:Qa7 149:=entr func149
theorem Q5i:Qa7 145:=entr func145
theorem Q5p:Qa7 135:=entr func135
theorem Q5h:Qa7 146:=entr func146
theorem Qxz:Qa7 136:=entr func136
theorem Q5z:Qa7 119:=entr func119
theorem Q5y:Qa7 120:=entr func120
theorem Q2l:Qa7 97:=entr func97
theorem Q2u:Qa7 57:=entr func57
theorem Qoq:Qa7 58:=entr func58
theorem tz42:TZ prog 42 [.slice none 0 0,.slice none 0 0]:=Qfi (by kernel_rfl)
theorem Qsx:Qa7 55:=entr func55
theorem Q9v:Qa7 47:=entr func47
theorem Qv2:Qa7 16:=entr func16
theorem Zcz:TZ prog 149 [.int .i64 0,.int .i64 0,.int .i64 0,.int .i64 0,.int .i64 0]:=Qfi (by kernel_rfl)
theorem Zbz:TE prog 160 5 40:=Qtq (by kernel_rfl) (by decide)
theorem tz59:TZ prog 59 [.int .u8 0,.slice none 0 0,.int .i64 0,.int .i64 0,.int .i64 0,.int .i64 0,.slice none 0 0]:=Qfi (by kernel_rfl)
theorem Zdq:TE prog 133 7 88:=Qtq (by kernel_rfl) (by decide)
theorem tz61:TZ prog 61 [.int .i64 0,.int .i64 0]:=Qfi (by kernel_rfl)
theorem Zc0:TZ prog 146 [.int .i64 0,.int .i64 0,.int .i64 0,.int .i64 0,.int .i64 0,.int .i64 0,.int .i64 0,.int .i64 0,.int .i64 0,.int .i64 0]:=Qfi (by kernel_rfl)
theorem tz89:TZ prog 89 [.int .i64 0,.int .i64 0,.int .i64 0,.int .i64 0]:=Qfi (by kernel_rfl)
theorem Zcy:TZ prog 151 [.int .i64 0,.int .i64 0,.int .i64 0]:=Qfi (by kernel_rfl)
theorem tz4:TZ prog 4 [.bool false]:=Qfi (by kernel_rfl)
theorem tz52:TZ prog 52 [.slice none 0 0,.slice none 0 0,.slice none 0 0]:=Qfi (by kernel_rfl)
theorem tz90:TZ prog 90 [.int .i64 0,.int .i64 0,.int .i64 0,.int .i64 0]:=Qfi (by kernel_rfl)
theorem tz28:TZ prog 28 [.slice none 0 0]:=Qfi (by kernel_rfl)
theorem Q9u:Qa7 49:=entr func49
theorem tz92:TZ prog 92 [.int .i64 0,.int .i64 0]:=Qfi (by kernel_rfl)
theorem Q9y:Qa7 15:=entr func15
theorem Q9x:Qa7 21:=entr func21
theorem Q2y:Qa7 24:=entr func24
theorem Qx6:Qa7 104:=entr func104
theorem Qx5:Qa7 105:=entr func105
theorem Qx4:Qa7 106:=entr func106
theorem Q2t:Qa7 68:=entr func68
theorem tz26:TZ prog 26 [.slice none 0 0,.slice none 0 0]:=Qfi (by kernel_rfl)
theorem Q2x:Qa7 27:=entr func27
theorem Q2q:Qa7 77:=entr func77
theorem Zdp:TE prog 136 1 8:=Qtq (by kernel_rfl) (by decide)
theorem Q2p:Qa7 78:=entr func78
theorem Zcx:TZ prog 168 [.slice none 0 0]:=Qfi (by kernel_rfl)
theorem tz96:TZ prog 96 [.slice none 0 0]:=Qfi (by kernel_rfl)
theorem Q86:TZ prog 108 [.int .i64 0,.int .i64 0]:=Qfi (by kernel_rfl)
theorem Q9s:Qa7 80:=entr func80
theorem Zc4:TZ prog 110 [.int .i64 0,.int .i64 0,.int .i64 0,.int .i64 0,.int .i64 0,.int .i64 0,.int .i64 0,.int .i64 0]:=Qfi (by kernel_rfl)
theorem Q2o:Qa7 86:=entr func86
theorem Q9w:Qa7 42:=entr func42
theorem Zc2:TZ prog 114 [.int .i64 0,.int .i64 0,.int .i64 0,.int .i64 0,.int .i64 0,.int .i64 0,.int .i64 0,.int .i64 0]:=Qfi (by kernel_rfl)
theorem Zc3:TZ prog 112 [.int .i64 0,.int .i64 0]:=Qfi (by kernel_rfl)
theorem Zc1:TZ prog 122 [.bool false,.bool false,.bool false,.bool false,.bool false,.bool false,.bool false,.bool false]:=Qfi (by kernel_rfl)
theorem tz27:TZ prog 27 [.slice none 0 0]:=Qfi (by kernel_rfl)
theorem tz1:TZ prog 1 [.nilFunc]:=Qfi (by kernel_rfl)
theorem Zcw:TZ prog 179 [.nilFunc]:=Qfi (by kernel_rfl)
theorem Qsw:Qa7 91:=entr func91
theorem Q9q:Qa7 90:=entr func90
theorem Q2n:Qa7 92:=entr func92
theorem Q2w:Qa7 51:=entr func51
theorem Q2v:Qa7 56:=entr func56
theorem Qqg:EqT prog 10000 120 2:=Qrl (d:=9998) underlying120 (by kernel_rfl) (.int _ (by decide) rfl underlying3 (.int _ (by decide) rfl underlying3 (.nil _)))
theorem Q9n:EqT prog 10000 63 4:=Qrl (d:=9998) underlying63 (by kernel_rfl) (.int _ (by decide) rfl underlying3 (.int _ (by decide) rfl underlying3 (.int _ (by decide) rfl underlying3 (.int _ (by decide) rfl underlying3 (.nil _)))))
def tyT:Tab:=.node 110 ⟨true,8,(some [.int .i64 0,.int .i64 0,.int .i64 0,.int .i64 0,.int .i64 0,.int .i64 0,.int .i64 0,.int .i64 0]),[(0,true,2),(2,true,2),(4,true,2),(6,true,2)]⟩ (.node 42 ⟨true,2,(some [.slice none 0 0,.slice none 0 0]),[(0,false,1),(1,false,1)]⟩ (.node 27 ⟨false,1,(some [.slice none 0 0]),[]⟩ (.node 5 ⟨false,1,none,[]⟩ (.node 3 ⟨false,1,(some [.int .i64 0]),[]⟩ (.node 1 ⟨false,1,(some [.nilFunc]),[]⟩ .nil .nil) (.node 4 ⟨false,1,(some [.bool false]),[]⟩ .nil .nil)) (.node 24 ⟨false,1,none,[]⟩ (.node 23 ⟨false,1,none,[]⟩ .nil .nil) (.node 26 ⟨true,2,(some [.slice none 0 0,.slice none 0 0]),[(0,false,1),(1,false,1)]⟩ .nil .nil))) (.node 34 ⟨true,3,(some [.slice none 0 0,.slice none 0 0,.slice none 0 0]),[(0,false,1),(1,false,1),(2,false,1)]⟩ (.node 31 ⟨false,1,none,[]⟩ (.node 28 ⟨false,1,(some [.slice none 0 0]),[]⟩ .nil .nil) (.node 32 ⟨false,1,none,[]⟩ .nil .nil)) (.node 40 ⟨false,1,none,[]⟩ (.node 39 ⟨false,1,none,[]⟩ .nil .nil) .nil))) (.node 63 ⟨true,4,(some [.int .i64 0,.int .i64 0,.int .i64 0,.int .i64 0]),[(0,false,1),(1,false,1),(2,false,1),(3,false,1)]⟩ (.node 52 ⟨true,3,(some [.slice none 0 0,.slice none 0 0,.slice none 0 0]),[(0,false,1),(1,false,1),(2,false,1)]⟩ (.node 49 ⟨false,1,none,[]⟩ (.node 45 ⟨false,1,(some [.slice none 0 0]),[]⟩ .nil .nil) (.node 50 ⟨false,1,none,[]⟩ .nil .nil)) (.node 59 ⟨true,7,(some [.int .u8 0,.slice none 0 0,.int .i64 0,.int .i64 0,.int .i64 0,.int .i64 0,.slice none 0 0]),[(0,false,1),(1,false,1),(2,false,1),(3,false,1),(4,false,1),(5,false,1),(6,false,1)]⟩ (.node 57 ⟨false,1,none,[]⟩ .nil .nil) (.node 61 ⟨true,2,(some [.int .i64 0,.int .i64 0]),[(0,false,1),(1,false,1)]⟩ .nil .nil))) (.node 92 ⟨true,2,(some [.int .i64 0,.int .i64 0]),[(0,false,1),(1,false,1)]⟩ (.node 89 ⟨true,4,(some [.int .i64 0,.int .i64 0,.int .i64 0,.int .i64 0]),[(0,false,1),(1,false,1),(2,false,1),(3,false,1)]⟩ (.node 82 ⟨true,4,(some [.int .i64 0,.int .i64 0,.int .i64 0,.int .i64 0]),[(0,false,1),(1,false,1),(2,false,1),(3,false,1)]⟩ .nil .nil) (.node 90 ⟨true,4,(some [.int .i64 0,.int .i64 0,.int .i64 0,.int .i64 0]),[(0,false,1),(1,false,1),(2,false,1),(3,false,1)]⟩ .nil .nil)) (.node 108 ⟨true,2,(some [.int .i64 0,.int .i64 0]),[(0,false,1),(1,false,1)]⟩ (.node 96 ⟨false,1,(some [.slice none 0 0]),[]⟩ .nil .nil) .nil)))) (.node 171 ⟨false,1,none,[]⟩ (.node 140 ⟨true,7,(some [.slice none 0 0,.slice none 0 0,.slice none 0 0,.slice none 0 0,.slice none 0 0,.slice none 0 0,.int .i64 0]),[(0,true,2),(2,true,3),(5,false,1),(6,false,1)]⟩ (.node 120 ⟨true,2,(some [.int .i64 0,.int .i64 0]),[(0,false,1),(1,false,1)]⟩ (.node 114 ⟨true,8,(some [.int .i64 0,.int .i64 0,.int .i64 0,.int .i64 0,.int .i64 0,.int .i64 0,.int .i64 0,.int .i64 0]),[(0,true,2),(2,true,2),(4,true,2),(6,true,2)]⟩ (.node 112 ⟨true,2,(some [.int .i64 0,.int .i64 0]),[(0,false,1),(1,false,1)]⟩ .nil .nil) (.node 116 ⟨false,1,none,[]⟩ .nil .nil)) (.node 133 ⟨true,7,(some [.int .u8 0,.slice none 0 0,.int .i64 0,.int .i64 0,.int .i64 0,.int .i64 0,.slice none 0 0]),[(0,false,1),(1,false,1),(2,false,1),(3,false,1),(4,false,1),(5,false,1),(6,false,1)]⟩ (.node 122 ⟨true,8,(some [.bool false,.bool false,.bool false,.bool false,.bool false,.bool false,.bool false,.bool false]),[]⟩ .nil .nil) (.node 136 ⟨false,1,(some [(.pointer none)]),[]⟩ .nil .nil))) (.node 160 ⟨true,5,(some [.int .i64 0,.int .i64 0,.int .i64 0,.int .i64 0,.int .i64 0]),[(0,false,1),(1,false,1),(2,false,1),(3,false,1),(4,false,1)]⟩ (.node 149 ⟨true,5,(some [.int .i64 0,.int .i64 0,.int .i64 0,.int .i64 0,.int .i64 0]),[(0,false,1),(1,false,1),(2,false,1),(3,false,1),(4,false,1)]⟩ (.node 146 ⟨true,10,(some [.int .i64 0,.int .i64 0,.int .i64 0,.int .i64 0,.int .i64 0,.int .i64 0,.int .i64 0,.int .i64 0,.int .i64 0,.int .i64 0]),[(0,true,4),(4,true,4),(8,false,1),(9,false,1)]⟩ .nil .nil) (.node 151 ⟨true,3,(some [.int .i64 0,.int .i64 0,.int .i64 0]),[(0,false,1),(1,false,1),(2,false,1)]⟩ .nil .nil)) (.node 168 ⟨false,1,(some [.slice none 0 0]),[]⟩ (.node 162 ⟨false,1,none,[]⟩ .nil .nil) .nil))) (.node 209 ⟨true,7,(some [.nilFunc,.nilFunc,.nilFunc,.nilFunc,.nilFunc,.nilFunc,.nilFunc]),[]⟩ (.node 190 ⟨false,1,(some [(.map none)]),[]⟩ (.node 182 ⟨true,1,(some [.int .i64 0]),[(0,false,1)]⟩ (.node 179 ⟨false,1,(some [.nilFunc]),[]⟩ .nil .nil) (.node 189 ⟨false,1,none,[]⟩ .nil .nil)) (.node 202 ⟨false,1,none,[]⟩ (.node 197 ⟨false,1,none,[]⟩ .nil .nil) (.node 207 ⟨false,1,none,[]⟩ .nil .nil))) (.node 227 ⟨true,3,(some [.int .i64 0,.int .i64 0,.int .i64 0]),[(0,false,1),(1,false,1),(2,false,1)]⟩ (.node 219 ⟨false,1,none,[]⟩ (.node 214 ⟨true,10,(some [.int .i64 0,.int .i64 0,.int .i64 0,.int .i64 0,.int .i64 0,.int .i64 0,.int .i64 0,.int .i64 0,.int .i64 0,.int .i64 0]),[(0,true,4),(4,true,4),(8,false,1),(9,false,1)]⟩ .nil .nil) (.node 224 ⟨true,5,(some [.int .i64 0,.int .i64 0,.int .i64 0,.int .i64 0,.int .i64 0]),[(0,true,5)]⟩ .nil .nil)) (.node 235 ⟨true,4,(some [(.pointer none),(.pointer none),(.pointer none),(.pointer none)]),[]⟩ (.node 234 ⟨false,1,none,[]⟩ .nil .nil) .nil))))
theorem tbk:tyT.ok prog:=⟨⟨Zdo,Zc4,.inr ⟨_,underlying110,rfl,Qy2,rfl,Qy2,rfl,Qy2,rfl,Qy2,trivial⟩⟩,⟨⟨ti42,tz42,.inr ⟨_,underlying42,rfl,ti39,rfl,ti40,trivial⟩⟩,⟨⟨ti27,tz27,.inl rfl⟩,⟨⟨ti5,trivial,.inl rfl⟩,⟨⟨ti3,tz3,.inl rfl⟩,⟨⟨ti1,tz1,.inl rfl⟩,trivial,trivial⟩,⟨⟨ti4,tz4,.inl rfl⟩,trivial,trivial⟩⟩,⟨⟨ti24,trivial,.inl rfl⟩,⟨⟨ti23,trivial,.inl rfl⟩,trivial,trivial⟩,⟨⟨ti26,tz26,.inr ⟨_,underlying26,rfl,ti23,rfl,ti24,trivial⟩⟩,trivial,trivial⟩⟩⟩,⟨⟨ti34,tz34,.inr ⟨_,underlying34,rfl,ti31,rfl,ti32,rfl,ti27,trivial⟩⟩,⟨⟨ti31,trivial,.inl rfl⟩,⟨⟨ti28,tz28,.inl rfl⟩,trivial,trivial⟩,⟨⟨ti32,trivial,.inl rfl⟩,trivial,trivial⟩⟩,⟨⟨ti40,trivial,.inl rfl⟩,⟨⟨ti39,trivial,.inl rfl⟩,trivial,trivial⟩,trivial⟩⟩⟩,⟨⟨ti63,tz63,.inr ⟨_,underlying63,rfl,ti3,rfl,ti3,rfl,ti3,rfl,ti3,trivial⟩⟩,⟨⟨ti52,tz52,.inr ⟨_,underlying52,rfl,ti49,rfl,ti50,rfl,ti27,trivial⟩⟩,⟨⟨ti49,trivial,.inl rfl⟩,⟨⟨ti45,tz45,.inl rfl⟩,trivial,trivial⟩,⟨⟨ti50,trivial,.inl rfl⟩,trivial,trivial⟩⟩,⟨⟨ti59,tz59,.inr ⟨_,underlying59,rfl,ti5,rfl,ti57,rfl,ti3,rfl,ti3,rfl,ti3,rfl,ti3,rfl,ti27,trivial⟩⟩,⟨⟨ti57,trivial,.inl rfl⟩,trivial,trivial⟩,⟨⟨ti61,tz61,.inr ⟨_,underlying61,rfl,ti3,rfl,ti3,trivial⟩⟩,trivial,trivial⟩⟩⟩,⟨⟨ti92,tz92,.inr ⟨_,underlying92,rfl,ti3,rfl,ti3,trivial⟩⟩,⟨⟨ti89,tz89,.inr ⟨_,underlying89,rfl,ti3,rfl,ti3,rfl,ti3,rfl,ti3,trivial⟩⟩,⟨⟨ti82,tz82,.inr ⟨_,underlying82,rfl,ti3,rfl,ti3,rfl,ti3,rfl,ti3,trivial⟩⟩,trivial,trivial⟩,⟨⟨ti90,tz90,.inr ⟨_,underlying90,rfl,ti3,rfl,ti3,rfl,ti3,rfl,ti3,trivial⟩⟩,trivial,trivial⟩⟩,⟨⟨Qy2,Q86,.inr ⟨_,underlying108,rfl,ti3,rfl,ti3,trivial⟩⟩,⟨⟨ti96,tz96,.inl rfl⟩,trivial,trivial⟩,trivial⟩⟩⟩⟩,⟨⟨Zdf,trivial,.inl rfl⟩,⟨⟨Zdl,Zbu,.inr ⟨_,underlying140,rfl,ti42,rfl,ti34,rfl,ti45,rfl,ti3,trivial⟩⟩,⟨⟨Qk3,Qnb,.inr ⟨_,underlying120,rfl,ti3,rfl,ti3,trivial⟩⟩,⟨⟨Zdn,Zc2,.inr ⟨_,underlying114,rfl,Q1n,rfl,Q1n,rfl,Q1n,rfl,Q1n,trivial⟩⟩,⟨⟨Q1n,Zc3,.inr ⟨_,underlying112,rfl,ti3,rfl,ti3,trivial⟩⟩,trivial,trivial⟩,⟨⟨Q1m,trivial,.inl rfl⟩,trivial,trivial⟩⟩,⟨⟨Qfz,Qq3,.inr ⟨_,underlying133,rfl,ti5,rfl,Q1m,rfl,ti3,rfl,ti3,rfl,ti3,rfl,ti3,rfl,ti27,trivial⟩⟩,⟨⟨Zdm,Zc1,.inl rfl⟩,trivial,trivial⟩,⟨⟨Qly,Zbv,.inl rfl⟩,trivial,trivial⟩⟩⟩,⟨⟨Qpa,Qpx,.inr ⟨_,underlying160,rfl,ti3,rfl,ti3,rfl,ti3,rfl,ti3,rfl,ti3,trivial⟩⟩,⟨⟨Zdj,Zcz,.inr ⟨_,underlying149,rfl,ti3,rfl,ti3,rfl,ti3,rfl,ti3,rfl,ti3,trivial⟩⟩,⟨⟨Zdk,Zc0,.inr ⟨_,underlying146,rfl,ti89,rfl,ti89,rfl,ti3,rfl,ti3,trivial⟩⟩,trivial,trivial⟩,⟨⟨Zdi,Zcy,.inr ⟨_,underlying151,rfl,ti3,rfl,ti3,rfl,ti3,trivial⟩⟩,trivial,trivial⟩⟩,⟨⟨Zdg,Zcx,.inl rfl⟩,⟨⟨Zdh,trivial,.inl rfl⟩,trivial,trivial⟩,trivial⟩⟩⟩,⟨⟨Zc9,Zbs,.inl rfl⟩,⟨⟨Q88,Zcv,.inl rfl⟩,⟨⟨Zdd,Zbt,.inr ⟨_,underlying182,rfl,ti3,trivial⟩⟩,⟨⟨Zde,Zcw,.inl rfl⟩,trivial,trivial⟩,⟨⟨Zdc,trivial,.inl rfl⟩,trivial,trivial⟩⟩,⟨⟨Zda,trivial,.inl rfl⟩,⟨⟨Zdb,trivial,.inl rfl⟩,trivial,trivial⟩,⟨⟨Qnd,trivial,.inl rfl⟩,trivial,trivial⟩⟩⟩,⟨⟨Qy1,Qyx,.inr ⟨_,underlying227,rfl,ti3,rfl,ti3,rfl,ti3,trivial⟩⟩,⟨⟨Zc8,trivial,.inl rfl⟩,⟨⟨Qvp,Q4j,.inr ⟨_,underlying214,rfl,ti63,rfl,ti63,rfl,ti3,rfl,ti3,trivial⟩⟩,trivial,trivial⟩,⟨⟨Zby,Zbr,.inr ⟨_,underlying224,rfl,Qpa,trivial⟩⟩,trivial,trivial⟩⟩,⟨⟨Zbx,Zbq,.inl rfl⟩,⟨⟨Qq4,trivial,.inl rfl⟩,trivial,trivial⟩,trivial⟩⟩⟩⟩⟩
section
variable {ops : Array Oper} {X : Nat → Nat → Prop} {φ0 : Nat → FSlot} {w0 : World} {ro : Option Nat} {Q : Exit → AS → Prop} {s : AS} {id : Nat} {y : Code}
theorem wxz (h:AWp prog X φ0 w0 ro y Q (Qn7 tyT ops [] s)) (hm:MetX tyT ops [] s:=by exact⟨by kernel_rfl,by kernel_rfl⟩):AWp prog X φ0 w0 ro (.seq (.region id ops false) y) Q s:=Zb7 tbk [] trivial h hm
theorem wxz1 (h:Q .normal (Qn7 tyT ops [] s)) (hm:MetX tyT ops [] s:=by exact⟨by kernel_rfl,by kernel_rfl⟩):AWp prog X φ0 w0 ro (.region id ops false) Q s:=Q74 tbk [] trivial h hm
theorem wxe (h:AWp prog X φ0 w0 ro y Q (Qn7 tyT ops [] s)) (hf:prog.follows .mixedOrders=true:=by kernel_rfl) (hm:MetX tyT ops [] s:=by exact⟨by kernel_rfl,by kernel_rfl⟩) (ho:Qe3 (ops.toList.zip (Qtz tyT ops [] s)) [] []=true:=by kernel_rfl):AWp prog X φ0 w0 ro (.seq (.region id ops true) y) Q s:=Q73 tbk [] trivial h hf hm ho
theorem wxe1 (h:Q .normal (Qn7 tyT ops [] s)) (hf:prog.follows .mixedOrders=true:=by kernel_rfl) (hm:MetX tyT ops [] s:=by exact⟨by kernel_rfl,by kernel_rfl⟩) (ho:Qe3 (ops.toList.zip (Qtz tyT ops [] s)) [] []=true:=by kernel_rfl):AWp prog X φ0 w0 ro (.region id ops true) Q s:=Q23 tbk [] trivial h hf hm ho
end
end
section
open Go.ChangeShapes Go.WideShapes Go.ChangeAt Go.RowKit Go.Deep Go.Joins
theorem Tryz.own:ownKnob prog.godebug=none:=by kernel_rfl
theorem Tryz.laidOut:laidOutB prog=true:=by kernel_rfl
def noX:Nat→Nat→Prop:=fun _ _=>False
def noφ:Nat→FSlot:=fun _=>.unused
def RelL (w:World):List AV→List Value→Prop
 |[],[]=>True
 |a::l,v::k=>RelV noX noφ w a v∧RelL w l k
 |_,_=>False
theorem RelL.get {w:World}:∀{l:List AV}{k:List Value},RelL w l k→k.length=l.length∧∀i a,l[i]? = some a→RelV noX noφ w a (k.getD i undef)
 |[],[],_=>⟨rfl,by simp⟩
 |_::_,_::_,h=>by
  obtain⟨h1,h2⟩:=RelL.get h.2
  refine⟨by simp[h1],fun i a hi=>?_⟩
  cases i with
  |zero=>simp at hi;subst hi;exact h.1
  |succ i=>simpa using h2 i a (by simpa using hi)
theorem Q2c {P:Program}{f:FuncId}{args:List AV}(h:Spec P f args [] (B true) []) {w:World}{vals:Array Value}(hr:RelL w args vals.toList):Calls P f vals w fun e w'=>e=.returned (.bool true)∧Below w.heap.size w w':=by
 obtain⟨h1,h2⟩:=hr.get
 refine(h.calls (X:=noX) (φ:=noφ) (by simpa using h1) (fun i a hi=>?_) (fun _=>rfl) (fun _ _ h=>h.elim)).mono ?_
 ·have:=h2 i a hi
  simpa [Array.getD_eq_getD_getElem?,List.getD_eq_getElem?_getD] using this
 ·rintro e w' ⟨v,φ',rfl,hv,hb⟩
  rw[Qbv hv]
  exact⟨rfl,hb⟩
section
variable {H : Type} {enc : TypeId × Value → H} {P : Program} {w : World} {base : Nat} {spare : Nat → Bool} {held : Bool} {r : Reach} {b0 : Nat} {v : Value} {d : DataW H} {p : List MemPlace} {t : TypeId} {n : Nat} {T : Type} {c : T → List AV} {G : T → Prop}
end
section
variable {H : Type} {enc : TypeId × Value → H} {P : Program}
theorem Qnc (hl:laidOutB P=true) {W W':World}(hb:Below W.heap.size W W') {sp:Nat→Bool}:∀(ts:List TypeId) (vs:List Value) (ds:List (DataW H)) (ps:List MemPlace),
  ts.all (fun t=>P.readableRec t&&decide (t<P.types.size))=true→DataW.TrodAll enc P W 0 (fun _=>true) true ts vs ds ps→(∀x∈ps,x.block<W.heap.size)→(∀x∈ps,sp x.block=true) →
  DataW.TrodAll enc P W' 0 sp true ts vs ds ps
 |[],[],[],_,_,h,_,_=>h
 |[],_::_,_,_,_,h,_,_=>by simp[DataW.TrodAll] at h
 |[],[],_::_,_,_,h,_,_=>by simp[DataW.TrodAll] at h
 |_::_,[],_,_,_,h,_,_=>by simp[DataW.TrodAll] at h
 |_::_,_::_,[],_,_,h,_,_=>by simp[DataW.TrodAll] at h
 |t::ts,v::vs,d::ds,ps,hr,h,hlt,hsp=>by
  obtain⟨p,q,h1,h2,rfl⟩:=h
  rw[List.all_cons,Bool.and_eq_true,Bool.and_eq_true,decide_eq_true_eq] at hr
  refine⟨p,q,?_,Qnc hl hb ts vs ds q hr.2 h2 (fun x hx=>hlt x (List.mem_append_right _ hx)) (fun x hx=>hsp x (List.mem_append_right _ hx)),rfl⟩
  exact WideElems.Trod_stays hl hr.1.1 hr.1.2 h1 (fun x hx=>hb.same (hlt x (List.mem_append_left _ hx))) (fun x hx=>hsp x (List.mem_append_left _ hx))
theorem Q4x {f:Func}{s:ChangeSpec}{W W':World}{args:Array Value}{ds:List (DataW H)}{before:List MemPlace}(tb:TypeId)
  (hW:DataW.Whole enc P f.params.toList s.vars false W args.toList ds [] before) (hl:laidOutB P=true) (hp:f.params.toList.all (fun t=>P.readableRec t&&decide (t<P.types.size))=true)
  (hrt:f.resultTypes = #[tb]) (htb:P.underlying tb=some .bool) (hv:s.vars=[]) (hs1:(s.fn H (ds++[])).results=[.lit (.bool true)]) (hs2:(s.fn H (ds++[])).args=ds) (hs3:(s.fn H (ds++[])).vars=[])
  (hb:Below W.heap.size W W'):s.post enc P f false true false false W args (.bool true) W':=by
 have hlt:∀p∈before,p.block<W.heap.size:=fun p hp=>hW.lt p hp
 have hold:∀p∈before,(fun b=>decide (b<W.heap.size)) p.block=true:=fun p hp=>by simpa using hlt p hp
 obtain⟨pa,pv,hA,hV,he,hz,hn⟩:=hW
 rw[hv] at hV
 have hpv:pv=[]:=hV
 subst hpv
 rw[List.append_nil] at he
 subst he
 have hargs:∀sp:Nat→Bool,(∀p∈before,sp p.block=true)→DataW.TrodAll enc P W' 0 sp true f.params.toList args.toList (s.fn H (ds++[])).args before:=fun sp hsp=>by
  rw[hs2]
  exact Qnc hl hb _ _ _ _ hp hA hlt hsp
 have hvars:∀sp:Nat→Bool,DataW.TrodVars enc P W' sp s.vars (s.fn H (ds++[])).vars []:=fun sp=>by
  rw[hv,hs3]
  exact rfl
 have hres:∀(b:Nat) (sp:Nat→Bool) (hd:Bool),DataW.TrodAll enc P W' b sp hd f.resultTypes.toList ((Value.bool true).resultList f.resultTypes.size) (s.fn H (ds++[])).results []:=fun b sp hd=>by
  rw[hs1,hrt]
  exact trodAll_mk1 (shut_bool htb _)
 have hok:=ok_one (P:=P) (W':=W') (f:=f) (v:=.bool true) hrt rfl (okWide_bool_mk htb _)
 refine⟨ds,[],before,[],before,[],⟨before,[],hA,by rw[hv];exact rfl,by simp,hz,fun h=>by cases h⟩,hres _ _ _,hargs _ hold,hvars _,World.keptBut_mono (fun p hp=>⟨hp,Or.inr (Or.inl hp)⟩) (hb.frame (· ∈ before)),fun _=>?_⟩
 refine⟨hok,_,_,([]++before)++[],⟨[]++before,[],trodAll_append (hargs _ (fun _ _=>rfl)) (hres _ _ _),hvars _,rfl,?_,?_⟩,?_⟩
 ·intro b off hp
  have hin:MemPlace.cell b off∈before:=by simpa using hp
  rw[hb.frozen (hlt _ hin)]
  exact hz b off hin
 ·intro ha
  cases ha
 ·intro p hp _
  simpa using hp
end
end
section
set_option maxRecDepth 100000
open Go.ChangeShapes Go.WideShapes Go.ChangeAt Go.RowKit Go.Deep Go.Joins
end
section
set_option maxRecDepth 100000
set_option maxHeartbeats 4000000
open Go.RowKit
def Qcw (_N:Nat) (p0 p1 p2:Int):Option Bool:=
  bif (decide (p1≤p0)) then
   some (decide (p0≤p2))
  else
   some false
theorem Qci (N:Nat) (p0 p1 p2:Int) (r:Bool) (h:Qcw N p0 p1 p2=some r):Spec prog 137 [(I p0),(I p1),(I p2)] [] (B r) []:=by
  refine Qam func137 rfl 0 (nle rfl) (fun X φ0 w0 hφ0 hd0=>?_)
  unfold Qcw at h
  refine wxz ?_
  refine bfe h (fun hb1 h=>?_) fun hb1 h=>?_
  ·refine wx tbk [(3,rp [(.tmp 9,(B ((decide (p1≤p0)))))] (B true))] ⟨asb hb1 (amv rfl),tv⟩<|Qaj ?_
   obtain rfl:=osi h
   exact fend ⟨[(B ((decide (p0≤p2))))],⟨rot,tv⟩,rfl⟩ nll
  ·exact wx tbk [(3,rp [(.tmp 9,(B ((decide (p1≤p0)))))] (B false))] ⟨asb hb1 (amv rfl),tv⟩<|Qaj<|frb h
def Qh2 (N:Nat) (p0:GRow):Option Bool:=
  (Qcw N p0.T 0 400).bind fun x2=>
  bif x2 then
   (Qcw N p0.P 1 10000).bind fun x5=>
   bif x5 then
    (Qcw N p0.Liquid 0 4000).bind fun x8=>
    bif x8 then
     (Qcw N p0.Silica 0 2000).bind fun x11=>
     bif x11 then
      bif (decide (p0.Liquid<p0.Vapour)) then
       some (decide (p0.Vapour≤4000))
      else
       some false
     else
      some false
    else
     some false
   else
    some false
  else
   some false
def z8_2 (p0:GRow) (x2:Bool):List (Nat×Rec):=[(2,rp [fu 137,((.tmp 4),(I p0.T)),ci 0,ci 400] (B x2))]
def z8_3 p0 x2 (x5:Bool):=hcat (z8_2 p0 x2) [(3,rp [((.tmp 5),(B x2))] (B true)),(6,rp [((.tmp 6),(B true)),fu 137,((.tmp 8),(I p0.P)),ci 1,ci 10000] (B x5))]
def z8_4 p0 x2 x5 (x8:Bool):=hcat (z8_3 p0 x2 x5) [(8,rp [((.tmp 10),(B x5))] (B true)),(11,rp [((.tmp 11),(B true)),fu 137,((.tmp 13),(I p0.Liquid)),ci 0,ci 4000] (B x8))]
def z8_5 p0 x2 x5 x8 (x11:Bool):=hcat (z8_4 p0 x2 x5 x8) [(13,rp [((.tmp 15),(B x8))] (B true)),(16,rp [((.tmp 16),(B true)),fu 137,((.tmp 18),(I p0.Silica)),ci 0,ci 2000] (B x11))]
theorem Qmm (N:Nat) (p0:GRow) (r:Bool) (h:Qh2 N p0=some r):Spec prog 139 [(.agg (Qau p0))] [] (B r) []:=by
  refine Qam func139 rfl 0 (nle rfl) (fun X φ0 w0 hφ0 hd0=>?_)
  unfold Qh2 at h
  refine wxz ?_
  obtain⟨x2,hf1,h⟩:=bno h
  refine hpre (A:=(z8_2 p0 x2)) ⟨apv Qg5 (Qci N p0.T 0 400 _ hf1) (nlcc (nlc nll nl0)) nll,tv⟩ fun q1_=>?_
  refine bfe h (fun hb3 h=>?_) fun hb3 h=>?_
  ·obtain⟨x5,hf4,h⟩:=bno h
   refine hpre (A:=(z8_3 p0 x2 x5)) (hap q1_ ⟨asb hb3 (amv rfl),ag_ (apv Qg5 (Qci N p0.P 1 10000 _ hf4) (nlcc (nlc nll nl0)) nll),tv⟩) fun q2_=>?_
   refine bfe h (fun hb6 h=>?_) fun hb6 h=>?_
   ·obtain⟨x8,hf7,h⟩:=bno h
    refine hpre (A:=(z8_4 p0 x2 x5 x8)) (hap q2_ ⟨asb hb6 (amv rfl),ag_ (apv Qg5 (Qci N p0.Liquid 0 4000 _ hf7) (nlcc (nlc nll nl0)) nll),tv⟩) fun q3_=>?_
    refine bfe h (fun hb9 h=>?_) fun hb9 h=>?_
    ·obtain⟨x11,hf10,h⟩:=bno h
     refine hpre (A:=(z8_5 p0 x2 x5 x8 x11)) (hap q3_ ⟨asb hb9 (amv rfl),ag_ (apv Qg5 (Qci N p0.Silica 0 2000 _ hf10) (nlcc (nlc nll nl0)) nll),tv⟩) fun q4_=>?_
     refine bfe h (fun hb12 h=>?_) fun hb12 h=>?_
     ·refine bfe h (fun hb13 h=>?_) fun hb13 h=>?_
      ·refine wx tbk (hcat (z8_5 p0 x2 x5 x8 x11) [(18,rp [(.tmp 20,B x11)] (B true)),(25,rp [(.tmp 27,(B ((decide (p0.Liquid<p0.Vapour)))))] (B true))]) (hap q4_ ⟨asb hb12 (amv rfl),asb hb13 (amv rfl),tv⟩)<|Qaj ?_
       obtain rfl:=osi h
       exact fend ⟨[(B ((decide (p0.Vapour≤4000))))],⟨rot,tv⟩,rfl⟩ nll
      ·exact wx tbk (hcat (z8_5 p0 x2 x5 x8 x11) [(18,rp [(.tmp 20,B x11)] (B true)),(25,rp [(.tmp 27,(B ((decide (p0.Liquid<p0.Vapour)))))] (B false))]) (hap q4_ ⟨asb hb12 (amv rfl),asb hb13 (amv rfl),tv⟩)<|Qaj<|frb h
     ·exact wx tbk (hcat (z8_5 p0 x2 x5 x8 x11) [(18,rp [(.tmp 20,B x11)] (B false))]) (hap q4_ ⟨asb hb12 (amv rfl),tv⟩)<|Qaj<|frb h
    ·exact wx tbk (hcat (z8_4 p0 x2 x5 x8) [(13,rp [(.tmp 15,B x8)] (B false))]) (hap q3_ ⟨asb hb9 (amv rfl),tv⟩)<|Qaj<|frb h
   ·exact wx tbk (hcat (z8_3 p0 x2 x5) [(8,rp [(.tmp 10,B x5)] (B false))]) (hap q2_ ⟨asb hb6 (amv rfl),tv⟩)<|Qaj<|frb h
  ·exact wx tbk (hcat (z8_2 p0 x2) [(3,rp [(.tmp 5,B x2)] (B false))]) (hap q1_ ⟨asb hb3 (amv rfl),tv⟩)<|Qaj<|frb h
def Qe7 (N:Nat) (p0:GRow):Option Bool:=
  (Qh2 N p0).bind fun x3=>
  some (!x3)
def z7_1 (p0:GRow):AV:=.agg [(I p0.T),(I p0.P),(I p0.Liquid),(I p0.Vapour),(I p0.Silica)]
def z7_2:Slot:=.own 1 [[(.fn (.func 139) [] [])]]
theorem Qil (N:Nat) (p0:GRow) (r:Bool) (h:Qe7 N p0=some r):Spec prog 148 [(z7_1 p0),(.ref 0 1 (0) 0)] [z7_2] (B r) [z7_2]:=by
  refine Qam func148 rfl 1 (nle rfl) (fun X φ0 w0 hφ0 hd0=>?_)
  unfold Qe7 at h
  refine Qbj<|wxz ?_
  obtain⟨x3,hf2,h⟩:=bno h
  refine wx tbk [(2,rp _ _)] ⟨apv Q5n (Qmm N p0 _ hf2) (nlc (NLt.agg _ (nlcc (nlcc (nlc nll nl0)))) nl0) nll,tv⟩ ?_
  refine wmr (mto (n:=8) (l':=[(3,(B ((!x3))))]) (own':=[z7_2]) [(3,(B ((!x3))))] [0] [z7_2] hφ0 (pw pn) (qb (lc (.rn (Qa9 rn0 rn0)) ln) qn))<|Qaj ?_
  obtain rfl:=osi h
  exact⟨_,Mor.rfl,Qca (vs:=[(B ((!x3)))]) ⟨rot,tv⟩ rfl (NLt.of0 nll) (by kernel_rfl) (Qai (Qav (nlc (NLt.of0 (NLt.fn _ _ _ nl0 nl0)) nl0)) Qbe)⟩
def Qbh (N:Nat) (p0:List GRow) (k2:Unit→Option Int):Nat→Int→Option Int
  |0,_=>none
  |n5+1,y3=>
    bif (decide (y3<(p0.length:Int))) then
     (getI p0 y3).bind fun x7=>
     (Qe7 N x7).bind fun x12=>
     bif x12 then
      some y3
     else
      Qbh N p0 k2 n5 (w64 (y3+1))
    else
     k2 ()
def Qct (N:Nat) (p0:List GRow):Option Int:=
  Qdr (fun _=>
    some (-1)) fun k2:Unit→Option Int=>
  Qbh N p0 k2 N 0
def z6_0:AV:=.fn (.func 148) [] [(.ref 0 1 (0) 0)]
def z6_2:Slot:=.own 1 [[(.fn (.func 139) [] [])]]
def z6_7 (x7:GRow):AV:=.agg [(I x7.T),(I x7.P),(I x7.Liquid),(I x7.Vapour),(I x7.Silica)]
theorem Qfq (N:Nat) (p0:List GRow) (r:Int) (h:Qct N p0=some r):Spec prog 156 [(.dat 5 (p0.map Qau)),z6_0] [z6_2] (I r) [z6_2]:=by
  refine Qam func156 rfl 1 (nle rfl) (fun X φ0 w0 hφ0 hd0=>?_)
  unfold Qct at h
  refine Qbj<|wxz ?_
  obtain⟨k2,hk_k2,h⟩:=jko h
  refine wjn (τ:=Unit) (fun t=>k2 t=some r) (fun _=>⟨mk 19 [],[z6_2]⟩) (fun t h=>?_) ?_
  ·subst hk_k2
   refine wxz<|wmr (mto (n:=19) (l':=[(4,(I ((-1))))]) (own':=[z6_2]) [(4,(I ((-1))))] [0] [z6_2] hφ0 (pw pn) (qb (lc (.rn (Qa9 rn0 rn0)) ln) qn))<|Qaj ?_
   obtain rfl:=osi h
   exact⟨_,Mor.rfl,Qca (vs:=[(I ((-1)))]) ⟨rot,tv⟩ rfl (NLt.of0 nll) (by kernel_rfl) (Qai (Qav (nlc (NLt.of0 (NLt.fn _ _ _ nl0 nl0)) nl0)) Qbe)⟩
  ·skip
   refine wx tbk [(1,rp _ _)] ⟨alq 5 Qau p0 underlying38,tv⟩<|Qas ?_
   refine wmr (mto (n:=19) (l':=[(0,(.dat 5 (p0.map Qau))),(1,z6_0),(7,(I ((p0.length:Int)))),(8,I 0)]) (own':=[z6_2]) [(0,(.dat 5 (p0.map Qau))),(1,z6_0),(7,(I ((p0.length:Int)))),(8,I 0)] [0] [z6_2] hφ0 (pc (rnd Qak) (pc (.rn (Qa9 rn0 (rnc (rqr rfl) rn0))) (pw (pw pn)))) (qb (lc (.rn (Qa9 rn0 rn0)) ln) qn)) ?_
   refine Qb9 (τ:=Int) (fun n t=>Qbh N p0 k2 n t=some r) (fun y3=>⟨mk 19 [(0,(.dat 5 (p0.map Qau))),(1,z6_0),(7,(I ((p0.length:Int)))),(8,I y3)],[z6_2]⟩) (fun t h=>by rw[Qbh] at h;cases h) (fun n5 ih y3 h=>?_) N (0) h
   rw[Qbh] at h
   skip
   refine wxz<|wsq ?_
   refine bfe h (fun hc6 h=>?_) fun hc6 h=>?_
   ·refine wft hc6<|Qat<|thn<|wsq<|Qas<|wxz ?_
    obtain⟨x7,hg8,h⟩:=bno h
    obtain⟨hi9,hj10⟩:=gsm hg8
    obtain⟨x12,hf11,h⟩:=bno h
    refine wx tbk [(3,rp _ _),(5,⟨_,_,_,_,false⟩)] ⟨aiq underlying38 Qpa Qau hi9 hj10,Qar (first:=[]) (cap:=[.ref 0 1 0 0]) (vs:=[(z6_7 x7)]) (σr:=[z6_2]) (σr':=[z6_2]) (res':=(B x12)) [0] rfl Q5f (Qil N x7 _ hf11) rfl (Qbd (rnc (.plain _ (NLt.agg _ (nlcc (nlcc (nlc nll nl0))))) (rnc (Qax rfl) rn0))) (slc (Qao (rnc (.plain _ (NLt.fn _ _ _ nl0 nl0)) rn0)) Qaq) (slc (Qao (rnc (.plain _ (NLt.fn _ _ _ nl0 nl0)) rn0)) Qaq) (.plain _ nll) rfl rfl rfl,tv⟩ ?_
    refine bfe h (fun hc13 h=>?_) fun hc13 h=>?_
    ·refine wft hc13<|wxz ?_
     refine wmr (mto (n:=19) (l':=[(4,I y3)]) (own':=[z6_2]) [(4,I y3)] [0] [z6_2] hφ0 (pw pn) (qb (lc (.rn (Qa9 rn0 rn0)) ln) qn))<|Qaj<|Qa1<|Qap<|Qap<|Qa1<|Qap ?_
     obtain rfl:=osi h
     exact⟨_,Mor.rfl,Qca (vs:=[I y3]) ⟨rot,tv⟩ rfl (NLt.of0 nll) (by kernel_rfl) (Qai (Qav (nlc (NLt.of0 (NLt.fn _ _ _ nl0 nl0)) nl0)) Qbe)⟩
    ·exact wfn hc13<|Qat<|bln<|thn<|wxz1<|thn<|arm (mto (n:=19) [(0,(.dat 5 (p0.map Qau))),(1,z6_0),(7,(I ((p0.length:Int)))),(8,(I (w64 (y3+1))))] [0] [z6_2] hφ0 (pc (rnd Qak) (pc (.rn (Qa9 rn0 (rnc (rqr rfl) rn0))) (pw (pw pn)))) (qb (lc (.rn (Qa9 rn0 rn0)) ln) qn)) (ih (w64 (y3+1)) h)
   ·exact wfn hc6<|Qbm<|Qa4<|Qa4<|Qbl rfl<|thn<|⟨(),h,(mto (n:=19) [] [0] [z6_2] hφ0 pn (qb (lc (.rn (Qa9 rn0 rn0)) ln) qn))⟩
def Qcj (N:Nat) (p0:List GRow):Option Bool:=
  (Qct N p0).bind fun x3=>
  some (decide (x3≥0))
def z5_0:AV:=.fn (.func 148) [] [(.ref 0 1 (0) 0)]
def z5_1:Slot:=.own 1 [[(.fn (.func 139) [] [])]]
theorem Qe8 (N:Nat) (p0:List GRow) (r:Bool) (h:Qcj N p0=some r):Spec prog 147 [(.dat 5 (p0.map Qau)),z5_0] [z5_1] (B r) [z5_1]:=by
  refine Qam func147 rfl 1 (nle rfl) (fun X φ0 w0 hφ0 hd0=>?_)
  unfold Qcj at h
  refine Qbj<|wxz ?_
  obtain⟨x3,hf2,h⟩:=bno h
  refine wx tbk [(2,⟨_,_,_,_,false⟩)] ⟨Qar (first:=[]) (cap:=[]) (vs:=[(.dat 5 (p0.map Qau)),z5_0]) (σr:=[z5_1]) (σr':=[z5_1]) (res':=(I x3)) [0] rfl Q48 (Qfq N p0 _ hf2) rfl (Qbd (rnc (pld Qak) (rnc (Qa9 rn0 (rnc (Qax rfl) rn0)) rn0))) (slc (Qao (rnc (.plain _ (NLt.fn _ _ _ nl0 nl0)) rn0)) Qaq) (slc (Qao (rnc (.plain _ (NLt.fn _ _ _ nl0 nl0)) rn0)) Qaq) (.plain _ nll) rfl rfl rfl,tv⟩ ?_
  refine wmr (mto (n:=9) (l':=[(4,(B ((decide (x3≥0)))))]) (own':=[z5_1]) [(4,(B ((decide (x3≥0)))))] [0] [z5_1] hφ0 (pw pn) (qb (lc (.rn (Qa9 rn0 rn0)) ln) qn))<|Qaj ?_
  obtain rfl:=osi h
  exact⟨_,Mor.rfl,Qca (vs:=[(B ((decide (x3≥0))))]) ⟨rot,tv⟩ rfl (NLt.of0 nll) (by kernel_rfl) (Qai (Qav (nlc (NLt.of0 (NLt.fn _ _ _ nl0 nl0)) nl0)) Qbe)⟩
def Qfu (N:Nat) (p0:List GRow):Option Bool:=
  (Qcj N p0).bind fun x2=>
  some (!x2)
def z4_1:AV:=.fn (.func 148) [] [(.ref 0 1 (0) 0)]
def z4_0:Slot:=.own 1 [[(.fn (.func 139) [] [])]]
theorem Qjm (N:Nat) (p0:List GRow) (r:Bool) (h:Qfu N p0=some r):Spec prog 138 [(.dat 5 (p0.map Qau)),(.fn (.func 139) [] [])] [] (B r) []:=by
  refine Qam func138 rfl 0 (nle rfl) (fun X φ0 w0 hφ0 hd0=>?_)
  unfold Qfu at h
  refine wxz ?_
  obtain⟨x2,hf1,h⟩:=bno h
  refine wx tbk [(1,rp [(.tmp 3,.ref 0 1 0 0)] z4_1),(2,⟨_,_,_,_,false⟩)] ⟨Qdv (fs:=[]) (cs:=[.ref 0 1 0 0]) rfl rfl rfl rfl,Qar (first:=[]) (cap:=[]) (vs:=[(.dat 5 (p0.map Qau)),z4_1]) (σr:=[z4_0]) (σr':=[z4_0]) (res':=(B x2)) [0] rfl Q5g (Qe8 N p0 _ hf1) rfl (Qbd (rnc (pld Qak) (rnc (Qa9 rn0 (rnc (Qax rfl) rn0)) rn0))) (slc (Qao (rnc (.plain _ (NLt.fn _ _ _ nl0 nl0)) rn0)) Qaq) (slc (Qao (rnc (.plain _ (NLt.fn _ _ _ nl0 nl0)) rn0)) Qaq) (.plain _ nll) rfl rfl rfl,tv⟩<|Qaj ?_
  obtain rfl:=osi h
  exact fend ⟨[(B ((!x2)))],⟨rot,tv⟩,rfl⟩ nll
def Qc5 (N:Nat) (p0:List GRow) (k2:Unit→Option Bool):Nat→Int→Option Bool
  |0,_=>none
  |n6+1,y4=>
    bif (decide (y4<((p0.drop (1:Int).toNat).length:Int))) then
     (getI (p0.drop (1:Int).toNat) y4).bind fun x8=>
     (getI p0 y4).bind fun x12=>
     bif (decide (x8.T≤x12.T)) then
      some false
     else
      bif (decide (x8.P≤x12.P)) then
       some false
      else
       bif (decide (x8.Liquid≤x12.Liquid)) then
        some false
       else
        bif (decide (x8.Silica<x12.Silica)) then
         some false
        else
         Qc5 N p0 k2 n6 (w64 (y4+1))
    else
     k2 ()
def Qfx (N:Nat) (p0:List GRow):Option Bool:=
  Qdr (fun _=>
    Qdr (fun _=>
      some true) fun k2:Unit→Option Bool=>
    chk (decide (0≤1)&&decide (1≤(p0.length:Int))&&decide ((p0.length:Int)≤(p0.length:Int)))<|
    Qc5 N p0 k2 N 0) fun k1:Unit→Option Bool=>
  (Qcw N (p0.length:Int) 2 20).bind fun x21=>
  bif (!x21) then
   some false
  else
   (Qfu N p0).bind fun x24=>
   bif (!x24) then
    some false
   else
    k1 ()
def z2_0 (p0:List GRow):AV:=.dat 5 ((p0.drop (1:Int).toNat:List GRow).map Qau)
def Q4e (x8 x12:GRow):List (Nat×Rec):=[(5,rp [((.tmp 31),(B ((decide (x8.T≤x12.T)))))] (B false))]
def Q8o (p0:List GRow) (x21:Bool):List (Nat×Rec):=[(1,rp [((.tmp 6),(.dat 5 (p0.map Qau)))] (I ((p0.length:Int)))),(2,rp [fu 137,((.tmp 7),(I ((p0.length:Int)))),ci 2,ci 20] (B x21))]
theorem Qhl (N:Nat) (p0:List GRow) (r:Bool) (h:Qfx N p0=some r):Spec prog 122 [(.dat 5 (p0.map Qau))] [] (B r) []:=by
  refine Qam func122 rfl 0 (nle rfl) (fun X φ0 w0 hφ0 hd0=>?_)
  unfold Qfx at h
  refine wxz ?_
  obtain⟨k1,hk_k1,h⟩:=jko h
  refine wjn (τ:=Unit) (fun t=>k1 t=some r) (fun _=>⟨mk 54 [(0,(.dat 5 (p0.map Qau)))],[]⟩) (fun t h=>?_) ?_
  ·subst hk_k1
   obtain⟨k2,hk_k2,h⟩:=jko h
   refine wjn (τ:=Unit) (fun t=>k2 t=some r) (fun _=>⟨mk 54 [],[]⟩) (fun t h=>?_) ?_
   ·subst hk_k2
    exact wxz<|Qaj<|frb h
   ·skip
    obtain⟨hs3,h⟩:=cko h
    refine wx tbk [(1,rp [(.tmp 15,(.dat 5 (p0.map Qau))),ci 1] (z2_0 p0)),(2,rp _ _)] ⟨Qll (k:=.i64) (k':=.i64) (lo:=some (.const (.int .i64 1))) (hi:=none) (l:=1) (hh:=((p0.length:Nat):Int)) rfl underlying39 Qpa rfl (fun e=>nomatch e) (fun _=>by simp) (Qwi hs3) (Qwh hs3) (Q97 Qau hs3) (Zb0 Qau),alq 5 Qau (p0.drop (1:Int).toNat) underlying39,tv⟩<|Qas ?_
    refine wmr (mto (n:=54) (l':=[(0,(.dat 5 (p0.map Qau))),(16,(z2_0 p0)),(17,(I (((p0.drop (1:Int).toNat).length:Int)))),(18,I 0)]) (own':=[]) [(0,(.dat 5 (p0.map Qau))),(16,(z2_0 p0)),(17,(I (((p0.drop (1:Int).toNat).length:Int)))),(18,I 0)] [] [] hφ0 (pc (rnd Qak) (pc (rnd Qak) (pw (pw pn)))) qn) ?_
    refine Qb9 (τ:=Int) (fun n t=>Qc5 N p0 k2 n t=some r) (fun y4=>⟨mk 54 [(0,(.dat 5 (p0.map Qau))),(16,(z2_0 p0)),(17,(I (((p0.drop (1:Int).toNat).length:Int)))),(18,I y4)],[]⟩) (fun t h=>by rw[Qc5] at h;cases h) (fun n6 ih y4 h=>?_) N (0) h
    rw[Qc5] at h
    skip
    refine wxz<|wsq ?_
    refine bfe h (fun hc7 h=>?_) fun hc7 h=>?_
    ·refine wft hc7<|Qat<|thn<|wsq<|Qas ?_
     obtain⟨x8,hg9,h⟩:=bno h
     obtain⟨hi10,hj11⟩:=gsm hg9
     refine wx tbk [(1,rp _ _)] ⟨aiq underlying39 Qpa Qau hi10 hj11,tv⟩ ?_
     obtain⟨x12,hg13,h⟩:=bno h
     obtain⟨hi14,hj15⟩:=gsm hg13
     refine wx tbk [(2,rp _ _)] ⟨aiq underlying39 Qpa Qau hi14 hj15,tv⟩ ?_
     refine bfe h (fun hb16 h=>?_) fun hb16 h=>?_
     ·exact wx tbk [(5,rp [(.tmp 31,(B ((decide (x8.T≤x12.T)))))] (B true))] ⟨asb hb16 (amv rfl),tv⟩<|wtr<|wxz<|Qaj<|Qa1<|Qap<|Qap<|Qa1<|Qap<|frb h
     ·refine hpre (A:=(Q4e x8 x12)) ⟨asb hb16 (amv rfl),tv⟩ fun q1_=>?_
      refine bfe h (fun hb17 h=>?_) fun hb17 h=>?_
      ·exact wx tbk (hcat (Q4e x8 x12) [(12,rp [(.tmp 38,(B ((decide (x8.P≤x12.P)))))] (B true))]) (hap q1_ ⟨asb hb17 (amv rfl),tv⟩)<|wtr<|wxz<|Qaj<|Qa1<|Qap<|Qap<|Qa1<|Qap<|frb h
      ·refine bfe h (fun hb18 h=>?_) fun hb18 h=>?_
       ·exact wx tbk (hcat (Q4e x8 x12) [(12,rp [(.tmp 38,(B ((decide (x8.P≤x12.P)))))] (B false)),(19,rp [(.tmp 45,(B ((decide (x8.Liquid≤x12.Liquid)))))] (B true))]) (hap q1_ ⟨asb hb17 (amv rfl),asb hb18 (amv rfl),tv⟩)<|wtr<|wxz<|Qaj<|Qa1<|Qap<|Qap<|Qa1<|Qap<|frb h
       ·refine wx tbk (hcat (Q4e x8 x12) [(12,rp [(.tmp 38,(B ((decide (x8.P≤x12.P)))))] (B false)),(19,rp [(.tmp 45,(B ((decide (x8.Liquid≤x12.Liquid)))))] (B false))]) (hap q1_ ⟨asb hb17 (amv rfl),asb hb18 (amv rfl),tv⟩) ?_
        refine bfe h (fun hc19 h=>?_) fun hc19 h=>?_
        ·exact wft hc19<|wxz<|Qaj<|Qa1<|Qap<|Qap<|Qa1<|Qap<|frb h
        ·exact wfn hc19<|Qat<|bln<|thn<|wxz1<|thn<|arm (mto (n:=54) [(0,(.dat 5 (p0.map Qau))),(16,(z2_0 p0)),(17,(I (((p0.drop (1:Int).toNat).length:Int)))),(18,(I (w64 (y4+1))))] [] [] hφ0 (pc (rnd Qak) (pc (rnd Qak) (pw (pw pn)))) qn) (ih (w64 (y4+1)) h)
    ·exact wfn hc7<|Qbm<|Qa4<|Qa4<|Qbl rfl<|thn<|⟨(),h,(mto (n:=54) [] [] [] hφ0 pn qn)⟩
  ·skip
   obtain⟨x21,hf20,h⟩:=bno h
   refine hpre (A:=(Q8o p0 x21)) ⟨alq 5 Qau p0 underlying39,apv Qg5 (Qci N (p0.length:Int) 2 20 _ hf20) (nlcc (nlc nll nl0)) nll,tv⟩ fun q2_=>?_
   refine bfe h (fun hb22 h=>?_) fun hb22 h=>?_
   ·exact wx tbk (hcat (Q8o p0 x21) [(4,rp [(.tmp 9,(B ((!x21))))] (B true))]) (hap q2_ ⟨asb hb22 (amv rfl),tv⟩)<|wtr<|wxz<|Qaj<|Qap<|frb h
   ·obtain⟨x24,hf23,h⟩:=bno h
    refine wx tbk (hcat (Q8o p0 x21) [(4,rp [(.tmp 9,(B ((!x21))))] (B false)),(6,rp [(.tmp 10,B false),fu 138,(.tmp 11,(.dat 5 (p0.map Qau))),fu 139] (B x24))]) (hap q2_ ⟨asb hb22 (amv rfl),ag_ (Qar (first:=[]) (cap:=[]) (vs:=[(.dat 5 (p0.map Qau)),(.fn (.func 139) [] [])]) (σr:=[]) (σr':=[]) (res':=(B x24)) [] rfl Q5o (Qjm N p0 _ hf23) rfl (Qbd (rnc (pld Qak) (rnc (.plain _ (NLt.fn _ _ _ nl0 nl0)) rn0))) Qaq Qaq (.plain _ nll) rfl rfl rfl),tv⟩) ?_
    refine bfe h (fun hc25 h=>?_) fun hc25 h=>?_
    ·exact wft hc25<|wxz<|Qaj<|Qap<|frb h
    ·exact wfn hc25<|Qat<|thn<|⟨(),h,(mto (n:=54) [(0,(.dat 5 (p0.map Qau)))] [] [] hφ0 (pc (rnd Qak) pn) qn)⟩
def Qg8 (N:Nat) (p0:List GRow):Option Int:=
  (Qfx N p0).bind fun x2=>
  bif (!x2) then
   some 1
  else
   some 0
theorem Qlz (N:Nat) (p0:List GRow) (r:Int) (h:Qg8 N p0=some r):Spec prog 100 [(.dat 5 (p0.map Qau))] [] (I r) []:=by
  refine Qam func100 rfl 0 (nle rfl) (fun X φ0 w0 hφ0 hd0=>?_)
  unfold Qg8 at h
  refine wxz<|wsq ?_
  obtain⟨x2,hf1,h⟩:=bno h
  refine wx tbk [(1,rp _ _)] ⟨apv Qx2 (Qhl N p0 _ hf1) (nlc (nld Qak _) nl0) nll,tv⟩ ?_
  refine bfe h (fun hc3 h=>?_) fun hc3 h=>?_
  ·refine wft hc3<|wxz<|Qaj<|Qap ?_
   obtain rfl:=osi h
   exact fend ⟨[I 1],⟨rot,tv⟩,rfl⟩ nll
  ·refine wfn hc3<|Qat<|thn<|wxz<|Qaj ?_
   obtain rfl:=osi h
   exact fend ⟨[I 0],⟨rot,tv⟩,rfl⟩ nll
def Qcz (_N:Nat) (p0 p1 p2:Int):Option Bool:=
  bif (decide (p1≤p0)) then
   some (decide (p0≤p2))
  else
   some false
theorem Qck (N:Nat) (p0 p1 p2:Int) (r:Bool) (h:Qcz N p0 p1 p2=some r):Spec prog 65 [(I p0),(I p1),(I p2)] [] (B r) []:=by
  refine Qam func65 rfl 0 (nle rfl) (fun X φ0 w0 hφ0 hd0=>?_)
  unfold Qcz at h
  refine wxz ?_
  refine bfe h (fun hb1 h=>?_) fun hb1 h=>?_
  ·refine wx tbk [(3,rp [(.tmp 9,(B ((decide (p1≤p0)))))] (B true))] ⟨asb hb1 (amv rfl),tv⟩<|Qaj ?_
   obtain rfl:=osi h
   exact fend ⟨[(B ((decide (p0≤p2))))],⟨rot,tv⟩,rfl⟩ nll
  ·exact wx tbk [(3,rp [(.tmp 9,(B ((decide (p1≤p0)))))] (B false))] ⟨asb hb1 (amv rfl),tv⟩<|Qaj<|frb h
def Qf4 (N:Nat) (p0:Int):Option Bool:=
  (Qcz N p0 0 1000).bind fun x2=>
  some x2
theorem Qj1 (N:Nat) (p0:Int) (r:Bool) (h:Qf4 N p0=some r):Spec prog 125 [(I p0)] [] (B r) []:=by
  refine Qam func125 rfl 0 (nle rfl) (fun X φ0 w0 hφ0 hd0=>?_)
  unfold Qf4 at h
  refine wxz ?_
  obtain⟨x2,hf1,h⟩:=bno h
  exact wx tbk [(1,rp _ _)] ⟨apv Qh8 (Qck N p0 0 1000 _ hf1) (nlcc (nlc nll nl0)) nll,tv⟩<|Qaj<|frb h
def Qhd (N:Nat) (p0:Int):Option Bool:=
  (Qf4 N p0).bind fun x3=>
  some (!x3)
def Q4h:Slot:=.own 1 [[(.fn (.func 125) [] [])]]
theorem Ql4 (N:Nat) (p0:Int) (r:Bool) (h:Qhd N p0=some r):Spec prog 128 [(I p0),(.ref 0 1 (0) 0)] [Q4h] (B r) [Q4h]:=by
  refine Qam func128 rfl 1 (nle rfl) (fun X φ0 w0 hφ0 hd0=>?_)
  unfold Qhd at h
  refine Qbj<|wxz ?_
  obtain⟨x3,hf2,h⟩:=bno h
  refine wx tbk [(2,rp _ _)] ⟨apv Q5v (Qj1 N p0 _ hf2) (nlc nll nl0) nll,tv⟩ ?_
  refine wmr (mto (n:=8) (l':=[(3,(B ((!x3))))]) (own':=[Q4h]) [(3,(B ((!x3))))] [0] [Q4h] hφ0 (pw pn) (qb (lc (.rn (Qa9 rn0 rn0)) ln) qn))<|Qaj ?_
  obtain rfl:=osi h
  exact⟨_,Mor.rfl,Qca (vs:=[(B ((!x3)))]) ⟨rot,tv⟩ rfl (NLt.of0 nll) (by kernel_rfl) (Qai (Qav (nlc (NLt.of0 (NLt.fn _ _ _ nl0 nl0)) nl0)) Qbe)⟩
def Qb5 (N:Nat) (p0:List Int) (k2:Unit→Option Int):Nat→Int→Option Int
  |0,_=>none
  |n5+1,y3=>
    bif (decide (y3<(p0.length:Int))) then
     (getI p0 y3).bind fun x7=>
     (Qhd N x7).bind fun x12=>
     bif x12 then
      some y3
     else
      Qb5 N p0 k2 n5 (w64 (y3+1))
    else
     k2 ()
def Qef (N:Nat) (p0:List Int):Option Int:=
  Qdr (fun _=>
    some (-1)) fun k2:Unit→Option Int=>
  Qb5 N p0 k2 N 0
def Q00:AV:=.fn (.func 128) [] [(.ref 0 1 (0) 0)]
def Qm7:Slot:=.own 1 [[(.fn (.func 125) [] [])]]
theorem Qhr (N:Nat) (p0:List Int) (r:Int) (h:Qef N p0=some r):Spec prog 141 [(.dat 1 (p0.map Qac)),Q00] [Qm7] (I r) [Qm7]:=by
  refine Qam func141 rfl 1 (nle rfl) (fun X φ0 w0 hφ0 hd0=>?_)
  unfold Qef at h
  refine Qbj<|wxz ?_
  obtain⟨k2,hk_k2,h⟩:=jko h
  refine wjn (τ:=Unit) (fun t=>k2 t=some r) (fun _=>⟨mk 19 [],[Qm7]⟩) (fun t h=>?_) ?_
  ·subst hk_k2
   refine wxz<|wmr (mto (n:=19) (l':=[(4,(I ((-1))))]) (own':=[Qm7]) [(4,(I ((-1))))] [0] [Qm7] hφ0 (pw pn) (qb (lc (.rn (Qa9 rn0 rn0)) ln) qn))<|Qaj ?_
   obtain rfl:=osi h
   exact⟨_,Mor.rfl,Qca (vs:=[(I ((-1)))]) ⟨rot,tv⟩ rfl (NLt.of0 nll) (by kernel_rfl) (Qai (Qav (nlc (NLt.of0 (NLt.fn _ _ _ nl0 nl0)) nl0)) Qbe)⟩
  ·skip
   refine wx tbk [(1,rp _ _)] ⟨alq 1 Qac p0 underlying27,tv⟩<|Qas ?_
   refine wmr (mto (n:=19) (l':=[(0,(.dat 1 (p0.map Qac))),(1,Q00),(7,(I ((p0.length:Int)))),(8,I 0)]) (own':=[Qm7]) [(0,(.dat 1 (p0.map Qac))),(1,Q00),(7,(I ((p0.length:Int)))),(8,I 0)] [0] [Qm7] hφ0 (pc (rnd Qae) (pc (.rn (Qa9 rn0 (rnc (rqr rfl) rn0))) (pw (pw pn)))) (qb (lc (.rn (Qa9 rn0 rn0)) ln) qn)) ?_
   refine Qb9 (τ:=Int) (fun n t=>Qb5 N p0 k2 n t=some r) (fun y3=>⟨mk 19 [(0,(.dat 1 (p0.map Qac))),(1,Q00),(7,(I ((p0.length:Int)))),(8,I y3)],[Qm7]⟩) (fun t h=>by rw[Qb5] at h;cases h) (fun n5 ih y3 h=>?_) N (0) h
   rw[Qb5] at h
   skip
   refine wxz<|wsq ?_
   refine bfe h (fun hc6 h=>?_) fun hc6 h=>?_
   ·refine wft hc6<|Qat<|thn<|wsq<|Qas<|wxz ?_
    obtain⟨x7,hg8,h⟩:=bno h
    obtain⟨hi9,hj10⟩:=gsm hg8
    obtain⟨x12,hf11,h⟩:=bno h
    refine wx tbk [(3,rp _ _),(5,⟨_,_,_,_,false⟩)] ⟨aiq underlying27 ti3 Qac hi9 hj10,Qar (first:=[]) (cap:=[.ref 0 1 0 0]) (vs:=[I x7]) (σr:=[Qm7]) (σr':=[Qm7]) (res':=(B x12)) [0] rfl Qx1 (Ql4 N x7 _ hf11) rfl (Qbd (rnc (.plain _ nll) (rnc (Qax rfl) rn0))) (slc (Qao (rnc (.plain _ (NLt.fn _ _ _ nl0 nl0)) rn0)) Qaq) (slc (Qao (rnc (.plain _ (NLt.fn _ _ _ nl0 nl0)) rn0)) Qaq) (.plain _ nll) rfl rfl rfl,tv⟩ ?_
    refine bfe h (fun hc13 h=>?_) fun hc13 h=>?_
    ·refine wft hc13<|wxz ?_
     refine wmr (mto (n:=19) (l':=[(4,I y3)]) (own':=[Qm7]) [(4,I y3)] [0] [Qm7] hφ0 (pw pn) (qb (lc (.rn (Qa9 rn0 rn0)) ln) qn))<|Qaj<|Qa1<|Qap<|Qap<|Qa1<|Qap ?_
     obtain rfl:=osi h
     exact⟨_,Mor.rfl,Qca (vs:=[I y3]) ⟨rot,tv⟩ rfl (NLt.of0 nll) (by kernel_rfl) (Qai (Qav (nlc (NLt.of0 (NLt.fn _ _ _ nl0 nl0)) nl0)) Qbe)⟩
    ·exact wfn hc13<|Qat<|bln<|thn<|wxz1<|thn<|arm (mto (n:=19) [(0,(.dat 1 (p0.map Qac))),(1,Q00),(7,(I ((p0.length:Int)))),(8,(I (w64 (y3+1))))] [0] [Qm7] hφ0 (pc (rnd Qae) (pc (.rn (Qa9 rn0 (rnc (rqr rfl) rn0))) (pw (pw pn)))) (qb (lc (.rn (Qa9 rn0 rn0)) ln) qn)) (ih (w64 (y3+1)) h)
   ·exact wfn hc6<|Qbm<|Qa4<|Qa4<|Qbl rfl<|thn<|⟨(),h,(mto (n:=19) [] [0] [Qm7] hφ0 pn (qb (lc (.rn (Qa9 rn0 rn0)) ln) qn))⟩
def Qdk (N:Nat) (p0:List Int):Option Bool:=
  (Qef N p0).bind fun x3=>
  some (decide (x3≥0))
def Zbd:AV:=.fn (.func 128) [] [(.ref 0 1 (0) 0)]
def Qyu:Slot:=.own 1 [[(.fn (.func 125) [] [])]]
theorem Qgx (N:Nat) (p0:List Int) (r:Bool) (h:Qdk N p0=some r):Spec prog 126 [(.dat 1 (p0.map Qac)),Zbd] [Qyu] (B r) [Qyu]:=by
  refine Qam func126 rfl 1 (nle rfl) (fun X φ0 w0 hφ0 hd0=>?_)
  unfold Qdk at h
  refine Qbj<|wxz ?_
  obtain⟨x3,hf2,h⟩:=bno h
  refine wx tbk [(2,⟨_,_,_,_,false⟩)] ⟨Qar (first:=[]) (cap:=[]) (vs:=[(.dat 1 (p0.map Qac)),Zbd]) (σr:=[Qyu]) (σr':=[Qyu]) (res':=(I x3)) [0] rfl Qnw (Qhr N p0 _ hf2) rfl (Qbd (rnc (pld Qae) (rnc (Qa9 rn0 (rnc (Qax rfl) rn0)) rn0))) (slc (Qao (rnc (.plain _ (NLt.fn _ _ _ nl0 nl0)) rn0)) Qaq) (slc (Qao (rnc (.plain _ (NLt.fn _ _ _ nl0 nl0)) rn0)) Qaq) (.plain _ nll) rfl rfl rfl,tv⟩ ?_
  refine wmr (mto (n:=9) (l':=[(4,(B ((decide (x3≥0)))))]) (own':=[Qyu]) [(4,(B ((decide (x3≥0)))))] [0] [Qyu] hφ0 (pw pn) (qb (lc (.rn (Qa9 rn0 rn0)) ln) qn))<|Qaj ?_
  obtain rfl:=osi h
  exact⟨_,Mor.rfl,Qca (vs:=[(B ((decide (x3≥0))))]) ⟨rot,tv⟩ rfl (NLt.of0 nll) (by kernel_rfl) (Qai (Qav (nlc (NLt.of0 (NLt.fn _ _ _ nl0 nl0)) nl0)) Qbe)⟩
def Qit (N:Nat) (p0:List Int):Option Bool:=
  (Qdk N p0).bind fun x2=>
  some (!x2)
def Zbf:AV:=.fn (.func 128) [] [(.ref 0 1 (0) 0)]
def Zbg:Slot:=.own 1 [[(.fn (.func 125) [] [])]]
theorem Qnj (N:Nat) (p0:List Int) (r:Bool) (h:Qit N p0=some r):Spec prog 108 [(.dat 1 (p0.map Qac)),(.fn (.func 125) [] [])] [] (B r) []:=by
  refine Qam func108 rfl 0 (nle rfl) (fun X φ0 w0 hφ0 hd0=>?_)
  unfold Qit at h
  refine wxz ?_
  obtain⟨x2,hf1,h⟩:=bno h
  refine wx tbk [(1,rp [(.tmp 3,.ref 0 1 0 0)] Zbf),(2,⟨_,_,_,_,false⟩)] ⟨Qdv (fs:=[]) (cs:=[.ref 0 1 0 0]) rfl rfl rfl rfl,Qar (first:=[]) (cap:=[]) (vs:=[(.dat 1 (p0.map Qac)),Zbf]) (σr:=[Zbg]) (σr':=[Zbg]) (res':=(B x2)) [0] rfl Qnx (Qgx N p0 _ hf1) rfl (Qbd (rnc (pld Qae) (rnc (Qa9 rn0 (rnc (Qax rfl) rn0)) rn0))) (slc (Qao (rnc (.plain _ (NLt.fn _ _ _ nl0 nl0)) rn0)) Qaq) (slc (Qao (rnc (.plain _ (NLt.fn _ _ _ nl0 nl0)) rn0)) Qaq) (.plain _ nll) rfl rfl rfl,tv⟩<|Qaj ?_
  obtain rfl:=osi h
  exact fend ⟨[(B ((!x2)))],⟨rot,tv⟩,rfl⟩ nll
def Qf3 (_N:Nat) (p0:Int):Option Bool:=
  some (decide (p0>0))
theorem Qj0 (N:Nat) (p0:Int) (r:Bool) (h:Qf3 N p0=some r):Spec prog 127 [(I p0)] [] (B r) []:=by
  refine Qam func127 rfl 0 (nle rfl) (fun X φ0 w0 hφ0 hd0=>?_)
  unfold Qf3 at h
  refine wxz<|wxz<|Qaj ?_
  obtain rfl:=osi h
  exact fend ⟨[(B ((decide (p0>0))))],⟨rot,tv⟩,rfl⟩ nll
def Qb4 (N:Nat) (p0:List Int) (k1:Unit→Option Int):Nat→Int→Option Int
  |0,_=>none
  |n4+1,y2=>
    bif (decide (y2<(p0.length:Int))) then
     (getI p0 y2).bind fun x6=>
     (Qf3 N x6).bind fun x11=>
     bif x11 then
      some y2
     else
      Qb4 N p0 k1 n4 (w64 (y2+1))
    else
     k1 ()
def Qee (N:Nat) (p0:List Int):Option Int:=
  Qdr (fun _=>
    some (-1)) fun k1:Unit→Option Int=>
  Qb4 N p0 k1 N 0
theorem Qhq (N:Nat) (p0:List Int) (r:Int) (h:Qee N p0=some r):Spec prog 141 [(.dat 1 (p0.map Qac)),(.fn (.func 127) [] [])] [] (I r) []:=by
  refine Qam func141 rfl 0 (nle rfl) (fun X φ0 w0 hφ0 hd0=>?_)
  unfold Qee at h
  refine wxz ?_
  obtain⟨k1,hk_k1,h⟩:=jko h
  refine wjn (τ:=Unit) (fun t=>k1 t=some r) (fun _=>⟨mk 19 [],[]⟩) (fun t h=>?_) ?_
  ·subst hk_k1
   refine wxz<|Qaj ?_
   obtain rfl:=osi h
   exact fend ⟨[(I ((-1)))],⟨rot,tv⟩,rfl⟩ nll
  ·skip
   refine wx tbk [(1,rp _ _)] ⟨alq 1 Qac p0 underlying27,tv⟩<|Qas ?_
   refine wmr (mto (n:=19) (l':=[(0,(.dat 1 (p0.map Qac))),(1,(.fn (.func 127) [] [])),(7,(I ((p0.length:Int)))),(8,I 0)]) (own':=[]) [(0,(.dat 1 (p0.map Qac))),(1,(.fn (.func 127) [] [])),(7,(I ((p0.length:Int)))),(8,I 0)] [] [] hφ0 (pc (rnd Qae) (pc (.rn (Qa9 rn0 rn0)) (pw (pw pn)))) qn) ?_
   refine Qb9 (τ:=Int) (fun n t=>Qb4 N p0 k1 n t=some r) (fun y2=>⟨mk 19 [(0,(.dat 1 (p0.map Qac))),(1,(.fn (.func 127) [] [])),(7,(I ((p0.length:Int)))),(8,I y2)],[]⟩) (fun t h=>by rw[Qb4] at h;cases h) (fun n4 ih y2 h=>?_) N (0) h
   rw[Qb4] at h
   skip
   refine wxz<|wsq ?_
   refine bfe h (fun hc5 h=>?_) fun hc5 h=>?_
   ·refine wft hc5<|Qat<|thn<|wsq<|Qas<|wxz ?_
    obtain⟨x6,hg7,h⟩:=bno h
    obtain⟨hi8,hj9⟩:=gsm hg7
    obtain⟨x11,hf10,h⟩:=bno h
    refine wx tbk [(3,rp _ _),(5,rp _ _)] ⟨aiq underlying27 ti3 Qac hi8 hj9,apv Q5u (Qj0 N x6 _ hf10) (nlc nll nl0) nll,tv⟩ ?_
    refine bfe h (fun hc12 h=>?_) fun hc12 h=>?_
    ·refine wft hc12<|wxz<|Qaj<|Qa1<|Qap<|Qap<|Qa1<|Qap ?_
     obtain rfl:=osi h
     exact fend ⟨[I y2],⟨rot,tv⟩,rfl⟩ nll
    ·exact wfn hc12<|Qat<|bln<|thn<|wxz1<|thn<|arm (mto (n:=19) [(0,(.dat 1 (p0.map Qac))),(1,(.fn (.func 127) [] [])),(7,(I ((p0.length:Int)))),(8,(I (w64 (y2+1))))] [] [] hφ0 (pc (rnd Qae) (pc (.rn (Qa9 rn0 rn0)) (pw (pw pn)))) qn) (ih (w64 (y2+1)) h)
   ·exact wfn hc5<|Qbm<|Qa4<|Qa4<|Qbl rfl<|thn<|⟨(),h,(mto (n:=19) [] [] [] hφ0 pn qn)⟩
def Qdj (N:Nat) (p0:List Int):Option Bool:=
  (Qee N p0).bind fun x2=>
  some (decide (x2≥0))
theorem Qgw (N:Nat) (p0:List Int) (r:Bool) (h:Qdj N p0=some r):Spec prog 126 [(.dat 1 (p0.map Qac)),(.fn (.func 127) [] [])] [] (B r) []:=by
  refine Qam func126 rfl 0 (nle rfl) (fun X φ0 w0 hφ0 hd0=>?_)
  unfold Qdj at h
  refine wxz ?_
  obtain⟨x2,hf1,h⟩:=bno h
  refine wx tbk [(2,rp _ _)] ⟨Qar (first:=[]) (cap:=[]) (vs:=[(.dat 1 (p0.map Qac)),(.fn (.func 127) [] [])]) (σr:=[]) (σr':=[]) (res':=(I x2)) [] rfl Qnw (Qhq N p0 _ hf1) rfl (Qbd (rnc (pld Qae) (rnc (.plain _ (NLt.fn _ _ _ nl0 nl0)) rn0))) Qaq Qaq (.plain _ nll) rfl rfl rfl,tv⟩<|Qaj ?_
  obtain rfl:=osi h
  exact fend ⟨[(B ((decide (x2≥0))))],⟨rot,tv⟩,rfl⟩ nll
def Qgh (N:Nat) (p0:Qaf):Option Bool:=
  Qdr (fun ⟨y1,y2⟩=>
    Qdr (fun _=>
      bif (p0.Kind != 5) then
       some ((p0.Weights.length:Int)==0)
      else
       (Qcz N (p0.Weights.length:Int) 1 20).bind fun x7=>
       bif x7 then
        (Qit N p0.Weights).bind fun x10=>
        bif x10 then
         (Qdj N p0.Weights).bind fun x13=>
         some x13
        else
         some false
       else
        some false) fun k4:Unit→Option Bool=>
    bif ((p0.From.length:Int) != y1) then
     some false
    else
     (Qcz N p0.Amount 0 y2).bind fun x16=>
     bif (!x16) then
      some false
     else
      (Qcz N p0.Wide 0 1000000).bind fun x19=>
      bif (!x19) then
       some false
      else
       (Qcz N p0.Narrow 1 1000000000).bind fun x22=>
       bif (!x22) then
        some false
       else
        k4 ()) fun k3:Int×Int→Option Bool=>
  bif (p0.Kind==1) then
   k3 (0,0)
  else
   bif (p0.Kind==2) then
    (some (if 6<(p0.From.length:Int) then 6 else(p0.From.length:Int))).bind fun x26=>
    (some (if x26>1 then x26 else 1)).bind fun x28=>
    k3 (x28,0)
   else
    bif (p0.Kind==3) then
     k3 (1,1000000000)
    else
     bif (p0.Kind==4) then
      k3 (1,1000)
     else
      bif (p0.Kind==5) then
       k3 (1,0)
      else
       bif (p0.Kind==6) then
        k3 (1,0)
       else
        some false
def Zbh (p0:Qaf):AV:=.dat 2 (p0.From.map Qbc)
def Qyv (p0:Qaf):AV:=.dat 1 (p0.Weights.map Qac)
def Qr9 (p0:Qaf):Slot:=.own 7 [[(K .u8 p0.Kind),(Zbh p0),(I p0.Level),(I p0.Amount),(I p0.Wide),(I p0.Narrow),(Qyv p0)]]
def Q85 (p0:Qaf) (x7:Bool):List (Nat×Rec):=[(2,rp [((.tmp 55),(Qyv p0))] (I ((p0.Weights.length:Int)))),(3,rp [fu 65,((.tmp 56),(I ((p0.Weights.length:Int)))),ci 1,ci 20] (B x7))]
def Q84 p0 x7 (x10:Bool):=hcat (Q85 p0 x7) [(4,rp [((.tmp 57),(B x7))] (B true)),(7,rp [((.tmp 58),(B true)),fu 108,((.tmp 60),(Qyv p0)),fu 125] (B x10))]
def Q83 (p0:Qaf):List (Nat×Rec):=[(2,rp [((.tmp 24),(Zbh p0))] (I ((p0.From.length:Int))))]
def Q82 p0 (y1 y2:Int) (x16:Bool):=hcat (Q83 p0) [(5,rp [((.tmp 27),(B (((p0.From.length:Int) != y1))))] (B false)),(9,rp [((.tmp 28),(B false)),fu 65,((.tmp 30),(I p0.Amount)),ci 0,((.tmp 31),(I y2))] (B x16))]
def Q81 p0 y1 y2 x16 (x19:Bool):=hcat (Q82 p0 y1 y2 x16) [(12,rp [((.tmp 34),(B ((!x16))))] (B false)),(15,rp [((.tmp 35),(B false)),fu 65,((.tmp 37),(I p0.Wide)),ci 0,ci 1000000] (B x19))]
theorem Qkz (N:Nat) (p0:Qaf) (r:Bool) (h:Qgh N p0=some r):Spec prog 102 [(.agg (Qad p0))] [] (B r) []:=by
  refine Qam func102 rfl 0 (nle rfl) (fun X φ0 w0 hφ0 hd0=>?_)
  unfold Qgh at h
  refine wxz<|wxz ?_
  obtain⟨k3,hk_k3,h⟩:=jko h
  refine wjn (τ:=Int×Int) (fun t=>k3 t=some r) (fun ⟨y1,y2⟩=>⟨mk 68 [(1,.ref 0 7 0 0),(3,I y1),(4,I y2)],[(Qr9 p0)]⟩) (fun t h=>?_) ?_
  ·subst hk_k3
   obtain⟨y1,y2⟩:=t
   obtain⟨k4,hk_k4,h⟩:=jko h
   refine wjn (τ:=Unit) (fun t=>k4 t=some r) (fun _=>⟨mk 68 [(1,.ref 0 7 0 0)],[(Qr9 p0)]⟩) (fun t h=>?_) ?_
   ·subst hk_k4
    refine wsq<|wxz ?_
    refine bfe h (fun hc5 h=>?_) fun hc5 h=>?_
    ·refine wft hc5<|wx tbk [(2,rp _ _)] ⟨alq 1 Qac p0.Weights underlying27,tv⟩<|Qaj<|Qap ?_
     obtain rfl:=osi h
     exact fend ⟨[(B (((p0.Weights.length:Int)==0)))],⟨rot,tv⟩,rfl⟩ nll
    ·refine wfn hc5<|Qat<|thn ?_
     obtain⟨x7,hf6,h⟩:=bno h
     refine hpre (A:=(Q85 p0 x7)) ⟨alq 1 Qac p0.Weights underlying27,apv Qh8 (Qck N (p0.Weights.length:Int) 1 20 _ hf6) (nlcc (nlc nll nl0)) nll,tv⟩ fun q1_=>?_
     refine bfe h (fun hb8 h=>?_) fun hb8 h=>?_
     ·obtain⟨x10,hf9,h⟩:=bno h
      refine hpre (A:=(Q84 p0 x7 x10)) (hap q1_ ⟨asb hb8 (amv rfl),ag_ (Qar (first:=[]) (cap:=[]) (vs:=[(Qyv p0),(.fn (.func 125) [] [])]) (σr:=[]) (σr':=[]) (res':=(B x10)) [] rfl Qx3 (Qnj N p0.Weights _ hf9) rfl (Qbd (rnc (pld Qae) (rnc (.plain _ (NLt.fn _ _ _ nl0 nl0)) rn0))) Qaq Qaq (.plain _ nll) rfl rfl rfl),tv⟩) fun q2_=>?_
      refine bfe h (fun hb11 h=>?_) fun hb11 h=>?_
      ·obtain⟨x13,hf12,h⟩:=bno h
       refine wx tbk (hcat (Q84 p0 x7 x10) [(9,rp [(.tmp 62,B x10)] (B true)),(12,rp [(.tmp 63,B true),fu 126,(.tmp 65,(Qyv p0)),fu 127] (B x13))]) (hap q2_ ⟨asb hb11 (amv rfl),ag_ (Qar (first:=[]) (cap:=[]) (vs:=[(Qyv p0),(.fn (.func 127) [] [])]) (σr:=[]) (σr':=[]) (res':=(B x13)) [] rfl Qnx (Qgw N p0.Weights _ hf12) rfl (Qbd (rnc (pld Qae) (rnc (.plain _ (NLt.fn _ _ _ nl0 nl0)) rn0))) Qaq Qaq (.plain _ nll) rfl rfl rfl),tv⟩)<|Qaj ?_
       exact frb h
      ·exact wx tbk (hcat (Q84 p0 x7 x10) [(9,rp [(.tmp 62,B x10)] (B false))]) (hap q2_ ⟨asb hb11 (amv rfl),tv⟩)<|Qaj<|frb h
     ·exact wx tbk (hcat (Q85 p0 x7) [(4,rp [(.tmp 57,B x7)] (B false))]) (hap q1_ ⟨asb hb8 (amv rfl),tv⟩)<|Qaj<|frb h
   ·skip
    refine hpre (A:=(Q83 p0)) ⟨alq 2 Qbc p0.From underlying116,tv⟩ fun q3_=>?_
    refine bfe h (fun hb14 h=>?_) fun hb14 h=>?_
    ·exact wx tbk (hcat (Q83 p0) [(5,rp [(.tmp 27,(B (((p0.From.length:Int) != y1))))] (B true))]) (hap q3_ ⟨asb hb14 (amv rfl),tv⟩)<|wtr<|wxz<|Qaj<|Qap<|frb h
    ·obtain⟨x16,hf15,h⟩:=bno h
     refine hpre (A:=(Q82 p0 y1 y2 x16)) (hap q3_ ⟨asb hb14 (amv rfl),ag_ (apv Qh8 (Qck N p0.Amount 0 y2 _ hf15) (nlcc (nlc nll nl0)) nll),tv⟩) fun q4_=>?_
     refine bfe h (fun hb17 h=>?_) fun hb17 h=>?_
     ·exact wx tbk (hcat (Q82 p0 y1 y2 x16) [(12,rp [(.tmp 34,(B ((!x16))))] (B true))]) (hap q4_ ⟨asb hb17 (amv rfl),tv⟩)<|wtr<|wxz<|Qaj<|Qap<|frb h
     ·obtain⟨x19,hf18,h⟩:=bno h
      refine hpre (A:=(Q81 p0 y1 y2 x16 x19)) (hap q4_ ⟨asb hb17 (amv rfl),ag_ (apv Qh8 (Qck N p0.Wide 0 1000000 _ hf18) (nlcc (nlc nll nl0)) nll),tv⟩) fun q5_=>?_
      refine bfe h (fun hb20 h=>?_) fun hb20 h=>?_
      ·exact wx tbk (hcat (Q81 p0 y1 y2 x16 x19) [(18,rp [(.tmp 40,(B ((!x19))))] (B true))]) (hap q5_ ⟨asb hb20 (amv rfl),tv⟩)<|wtr<|wxz<|Qaj<|Qap<|frb h
      ·obtain⟨x22,hf21,h⟩:=bno h
       refine wx tbk (hcat (Q81 p0 y1 y2 x16 x19) [(18,rp [(.tmp 40,(B ((!x19))))] (B false)),(21,rp [(.tmp 41,B false),fu 65,(.tmp 43,I p0.Narrow),ci 1,ci 1000000000] (B x22))]) (hap q5_ ⟨asb hb20 (amv rfl),ag_ (apv Qh8 (Qck N p0.Narrow 1 1000000000 _ hf21) (nlcc (nlc nll nl0)) nll),tv⟩) ?_
       refine bfe h (fun hc23 h=>?_) fun hc23 h=>?_
       ·exact wft hc23<|wxz<|Qaj<|Qap<|frb h
       ·exact wfn hc23<|Qat<|thn<|⟨(),h,(mto (n:=68) [(1,.ref 0 7 0 0)] [0] [(Qr9 p0)] hφ0 (prr pn) (qb (lc rwl (lc (rnd Qbo) (lcc (lcc (lc (rnd Qae) ln))))) qn))⟩
  ·skip
   refine wxz<|Qas<|wxz ?_
   refine bfe h (fun hc24 h=>?_) fun hc24 h=>?_
   ·exact wft hc24<|wxz1<|bln<|thn<|⟨(0,0),h,(mto (n:=68) [(1,.ref 0 7 0 0),(3,I 0),(4,I 0)] [0] [(Qr9 p0)] hφ0 (prr (pw (pw pn))) (qb (lc rwl (lc (rnd Qbo) (lcc (lcc (lc (rnd Qae) ln))))) qn))⟩
   ·refine wfn hc24<|wxz ?_
    refine bfe h (fun hc25 h=>?_) fun hc25 h=>?_
    ·refine wft hc25 ?_
     obtain⟨x26,hl27,h⟩:=bno h
     obtain⟨x28,hl29,h⟩:=bno h
     exact wx1 tbk [(2,rp _ _),(3,rp [(.tmp 13,(I ((p0.From.length:Int)))),ci 6] (I x26)),(4,rp [ci 1,(.tmp 14,I x26)] (I ((if x26>1 then x26 else 1)))),(5,rp [(.tmp 15,(I ((if x26>1 then x26 else 1))))] (I x28))] ⟨alq 2 Qbc p0.From underlying116,Qi0 hl27 (Qn5 rfl),Qlm rfl,Qi0 hl29 (aas rfl),tv⟩<|bln<|thn<|⟨(x28,0),h,(mto (n:=68) [(1,.ref 0 7 0 0),(3,I x28),(4,I 0)] [0] [(Qr9 p0)] hφ0 (prr (pw (pw pn))) (qb (lc rwl (lc (rnd Qbo) (lcc (lcc (lc (rnd Qae) ln))))) qn))⟩
    ·refine wfn hc25<|wxz ?_
     refine bfe h (fun hc30 h=>?_) fun hc30 h=>?_
     ·exact wft hc30<|wxz1<|bln<|thn<|⟨(1,1000000000),h,(mto (n:=68) [(1,.ref 0 7 0 0),(3,I 1),(4,I 1000000000)] [0] [(Qr9 p0)] hφ0 (prr (pw (pw pn))) (qb (lc rwl (lc (rnd Qbo) (lcc (lcc (lc (rnd Qae) ln))))) qn))⟩
     ·refine wfn hc30<|wxz ?_
      refine bfe h (fun hc31 h=>?_) fun hc31 h=>?_
      ·exact wft hc31<|wxz1<|bln<|thn<|⟨(1,1000),h,(mto (n:=68) [(1,.ref 0 7 0 0),(3,I 1),(4,I 1000)] [0] [(Qr9 p0)] hφ0 (prr (pw (pw pn))) (qb (lc rwl (lc (rnd Qbo) (lcc (lcc (lc (rnd Qae) ln))))) qn))⟩
      ·refine wfn hc31<|wsq<|wxz ?_
       refine bfe h (fun hc32 h=>?_) fun hc32 h=>?_
       ·exact wft hc32<|Qat<|thn<|wft hc32<|Qat<|bln<|thn<|⟨(1,0),h,(mto (n:=68) [(1,.ref 0 7 0 0),(3,I 1),(4,I 0)] [0] [(Qr9 p0)] hφ0 (prr (pw (pw pn))) (qb (lc rwl (lc (rnd Qbo) (lcc (lcc (lc (rnd Qae) ln))))) qn))⟩
       ·refine wfn hc32<|wxz1<|thn ?_
        refine bfe h (fun hc33 h=>?_) fun hc33 h=>?_
        ·exact wft hc33<|Qat<|bln<|thn<|⟨(1,0),h,(mto (n:=68) [(1,.ref 0 7 0 0),(3,I 1),(4,I 0)] [0] [(Qr9 p0)] hφ0 (prr (pw (pw pn))) (qb (lc rwl (lc (rnd Qbo) (lcc (lcc (lc (rnd Qae) ln))))) qn))⟩
        ·exact wfn hc33<|wxz<|Qaj<|Qa1<|Qap<|frb h
def Qeq (N:Nat) (p0:Qaf):Option Bool:=
  (Qgh N p0).bind fun x3=>
  some (!x3)
def Zcu (p0:Qaf):AV:=.agg [(K .u8 p0.Kind),(.dat 2 (p0.From.map Qbc)),(I p0.Level),(I p0.Amount),(I p0.Wide),(I p0.Narrow),(.dat 1 (p0.Weights.map Qac))]
def Q4i:Slot:=.own 1 [[(.fn (.func 102) [] [])]]
theorem Qh4 (N:Nat) (p0:Qaf) (r:Bool) (h:Qeq N p0=some r):Spec prog 124 [(Zcu p0),(.ref 0 1 (0) 0)] [Q4i] (B r) [Q4i]:=by
  refine Qam func124 rfl 1 (nle rfl) (fun X φ0 w0 hφ0 hd0=>?_)
  unfold Qeq at h
  refine Qbj<|wxz ?_
  obtain⟨x3,hf2,h⟩:=bno h
  refine wx tbk [(2,rp _ _)] ⟨apv Q59 (Qkz N p0 _ hf2) (nlc (NLt.agg _ (nlc nll (nlc (nld Qbo _) (nlcc (nlcc (nlc (nld Qae _) nl0)))))) nl0) nll,tv⟩ ?_
  refine wmr (mto (n:=8) (l':=[(3,(B ((!x3))))]) (own':=[Q4i]) [(3,(B ((!x3))))] [0] [Q4i] hφ0 (pw pn) (qb (lc (.rn (Qa9 rn0 rn0)) ln) qn))<|Qaj ?_
  obtain rfl:=osi h
  exact⟨_,Mor.rfl,Qca (vs:=[(B ((!x3)))]) ⟨rot,tv⟩ rfl (NLt.of0 nll) (by kernel_rfl) (Qai (Qav (nlc (NLt.of0 (NLt.fn _ _ _ nl0 nl0)) nl0)) Qbe)⟩
def Qbb (N:Nat) (p0:List Qaf) (k2:Unit→Option Int):Nat→Int→Option Int
  |0,_=>none
  |n5+1,y3=>
    bif (decide (y3<(p0.length:Int))) then
     (getI p0 y3).bind fun x7=>
     (Qeq N x7).bind fun x12=>
     bif x12 then
      some y3
     else
      Qbb N p0 k2 n5 (w64 (y3+1))
    else
     k2 ()
def Qcc (N:Nat) (p0:List Qaf):Option Int:=
  Qdr (fun _=>
    some (-1)) fun k2:Unit→Option Int=>
  Qbb N p0 k2 N 0
def Q1e (p0:List Qaf):AV:=.dat 7 (p0.map Qad)
def Q1d:AV:=.fn (.func 124) [] [(.ref 0 1 (0) 0)]
def Qm8:Slot:=.own 1 [[(.fn (.func 102) [] [])]]
def Zbj (x7:Qaf):AV:=.agg [(K .u8 x7.Kind),(.dat 2 (x7.From.map Qbc)),(I x7.Level),(I x7.Amount),(I x7.Wide),(I x7.Narrow),(.dat 1 (x7.Weights.map Qac))]
theorem Qev (N:Nat) (p0:List Qaf) (r:Int) (h:Qcc N p0=some r):Spec prog 140 [(Q1e p0),Q1d] [Qm8] (I r) [Qm8]:=by
  refine Qam func140 rfl 1 (nle rfl) (fun X φ0 w0 hφ0 hd0=>?_)
  unfold Qcc at h
  refine Qbj<|wxz ?_
  obtain⟨k2,hk_k2,h⟩:=jko h
  refine wjn (τ:=Unit) (fun t=>k2 t=some r) (fun _=>⟨mk 19 [],[Qm8]⟩) (fun t h=>?_) ?_
  ·subst hk_k2
   refine wxz<|wmr (mto (n:=19) (l':=[(4,(I ((-1))))]) (own':=[Qm8]) [(4,(I ((-1))))] [0] [Qm8] hφ0 (pw pn) (qb (lc (.rn (Qa9 rn0 rn0)) ln) qn))<|Qaj ?_
   obtain rfl:=osi h
   exact⟨_,Mor.rfl,Qca (vs:=[(I ((-1)))]) ⟨rot,tv⟩ rfl (NLt.of0 nll) (by kernel_rfl) (Qai (Qav (nlc (NLt.of0 (NLt.fn _ _ _ nl0 nl0)) nl0)) Qbe)⟩
  ·skip
   refine wx tbk [(1,rp _ _)] ⟨alq 7 Qad p0 underlying40,tv⟩<|Qas ?_
   refine wmr (mto (n:=19) (l':=[(0,(Q1e p0)),(1,Q1d),(7,(I ((p0.length:Int)))),(8,I 0)]) (own':=[Qm8]) [(0,(Q1e p0)),(1,Q1d),(7,(I ((p0.length:Int)))),(8,I 0)] [0] [Qm8] hφ0 (pc (rnd Qaa) (pc (.rn (Qa9 rn0 (rnc (rqr rfl) rn0))) (pw (pw pn)))) (qb (lc (.rn (Qa9 rn0 rn0)) ln) qn)) ?_
   refine Qb9 (τ:=Int) (fun n t=>Qbb N p0 k2 n t=some r) (fun y3=>⟨mk 19 [(0,(Q1e p0)),(1,Q1d),(7,(I ((p0.length:Int)))),(8,I y3)],[Qm8]⟩) (fun t h=>by rw[Qbb] at h;cases h) (fun n5 ih y3 h=>?_) N (0) h
   rw[Qbb] at h
   skip
   refine wxz<|wsq ?_
   refine bfe h (fun hc6 h=>?_) fun hc6 h=>?_
   ·refine wft hc6<|Qat<|thn<|wsq<|Qas<|wxz ?_
    obtain⟨x7,hg8,h⟩:=bno h
    obtain⟨hi9,hj10⟩:=gsm hg8
    obtain⟨x12,hf11,h⟩:=bno h
    refine wx tbk [(3,rp _ _),(5,⟨_,_,_,_,false⟩)] ⟨aiq underlying40 Qfz Qad hi9 hj10,Qar (first:=[]) (cap:=[.ref 0 1 0 0]) (vs:=[(Zbj x7)]) (σr:=[Qm8]) (σr':=[Qm8]) (res':=(B x12)) [0] rfl Q5w (Qh4 N x7 _ hf11) rfl (Qbd (rnc (.plain _ (NLt.agg _ (nlc nll (nlc (nld Qbo _) (nlcc (nlcc (nlc (nld Qae _) nl0))))))) (rnc (Qax rfl) rn0))) (slc (Qao (rnc (.plain _ (NLt.fn _ _ _ nl0 nl0)) rn0)) Qaq) (slc (Qao (rnc (.plain _ (NLt.fn _ _ _ nl0 nl0)) rn0)) Qaq) (.plain _ nll) rfl rfl rfl,tv⟩ ?_
    refine bfe h (fun hc13 h=>?_) fun hc13 h=>?_
    ·refine wft hc13<|wxz ?_
     refine wmr (mto (n:=19) (l':=[(4,I y3)]) (own':=[Qm8]) [(4,I y3)] [0] [Qm8] hφ0 (pw pn) (qb (lc (.rn (Qa9 rn0 rn0)) ln) qn))<|Qaj<|Qa1<|Qap<|Qap<|Qa1<|Qap ?_
     obtain rfl:=osi h
     exact⟨_,Mor.rfl,Qca (vs:=[I y3]) ⟨rot,tv⟩ rfl (NLt.of0 nll) (by kernel_rfl) (Qai (Qav (nlc (NLt.of0 (NLt.fn _ _ _ nl0 nl0)) nl0)) Qbe)⟩
    ·exact wfn hc13<|Qat<|bln<|thn<|wxz1<|thn<|arm (mto (n:=19) [(0,(Q1e p0)),(1,Q1d),(7,(I ((p0.length:Int)))),(8,(I (w64 (y3+1))))] [0] [Qm8] hφ0 (pc (rnd Qaa) (pc (.rn (Qa9 rn0 (rnc (rqr rfl) rn0))) (pw (pw pn)))) (qb (lc (.rn (Qa9 rn0 rn0)) ln) qn)) (ih (w64 (y3+1)) h)
   ·exact wfn hc6<|Qbm<|Qa4<|Qa4<|Qbl rfl<|thn<|⟨(),h,(mto (n:=19) [] [0] [Qm8] hφ0 pn (qb (lc (.rn (Qa9 rn0 rn0)) ln) qn))⟩
def Qb7 (N:Nat) (p0:List Qaf):Option Bool:=
  (Qcc N p0).bind fun x3=>
  some (decide (x3≥0))
def Zbm:AV:=.fn (.func 124) [] [(.ref 0 1 (0) 0)]
def Qyw:Slot:=.own 1 [[(.fn (.func 102) [] [])]]
theorem Qeh (N:Nat) (p0:List Qaf) (r:Bool) (h:Qb7 N p0=some r):Spec prog 123 [(.dat 7 (p0.map Qad)),Zbm] [Qyw] (B r) [Qyw]:=by
  refine Qam func123 rfl 1 (nle rfl) (fun X φ0 w0 hφ0 hd0=>?_)
  unfold Qb7 at h
  refine Qbj<|wxz ?_
  obtain⟨x3,hf2,h⟩:=bno h
  refine wx tbk [(2,⟨_,_,_,_,false⟩)] ⟨Qar (first:=[]) (cap:=[]) (vs:=[(.dat 7 (p0.map Qad)),Zbm]) (σr:=[Qyw]) (σr':=[Qyw]) (res':=(I x3)) [0] rfl Q5m (Qev N p0 _ hf2) rfl (Qbd (rnc (pld Qaa) (rnc (Qa9 rn0 (rnc (Qax rfl) rn0)) rn0))) (slc (Qao (rnc (.plain _ (NLt.fn _ _ _ nl0 nl0)) rn0)) Qaq) (slc (Qao (rnc (.plain _ (NLt.fn _ _ _ nl0 nl0)) rn0)) Qaq) (.plain _ nll) rfl rfl rfl,tv⟩ ?_
  refine wmr (mto (n:=9) (l':=[(4,(B ((decide (x3≥0)))))]) (own':=[Qyw]) [(4,(B ((decide (x3≥0)))))] [0] [Qyw] hφ0 (pw pn) (qb (lc (.rn (Qa9 rn0 rn0)) ln) qn))<|Qaj ?_
  obtain rfl:=osi h
  exact⟨_,Mor.rfl,Qca (vs:=[(B ((decide (x3≥0))))]) ⟨rot,tv⟩ rfl (NLt.of0 nll) (by kernel_rfl) (Qai (Qav (nlc (NLt.of0 (NLt.fn _ _ _ nl0 nl0)) nl0)) Qbe)⟩
def Qfd (N:Nat) (p0:List Qaf):Option Bool:=
  (Qb7 N p0).bind fun x2=>
  some (!x2)
def Zbo:AV:=.fn (.func 124) [] [(.ref 0 1 (0) 0)]
def Zbp:Slot:=.own 1 [[(.fn (.func 102) [] [])]]
theorem Qir (N:Nat) (p0:List Qaf) (r:Bool) (h:Qfd N p0=some r):Spec prog 101 [(.dat 7 (p0.map Qad)),(.fn (.func 102) [] [])] [] (B r) []:=by
  refine Qam func101 rfl 0 (nle rfl) (fun X φ0 w0 hφ0 hd0=>?_)
  unfold Qfd at h
  refine wxz ?_
  obtain⟨x2,hf1,h⟩:=bno h
  refine wx tbk [(1,rp [(.tmp 3,.ref 0 1 0 0)] Zbo),(2,⟨_,_,_,_,false⟩)] ⟨Qdv (fs:=[]) (cs:=[.ref 0 1 0 0]) rfl rfl rfl rfl,Qar (first:=[]) (cap:=[]) (vs:=[(.dat 7 (p0.map Qad)),Zbo]) (σr:=[Zbp]) (σr':=[Zbp]) (res':=(B x2)) [0] rfl Q5x (Qeh N p0 _ hf1) rfl (Qbd (rnc (pld Qaa) (rnc (Qa9 rn0 (rnc (Qax rfl) rn0)) rn0))) (slc (Qao (rnc (.plain _ (NLt.fn _ _ _ nl0 nl0)) rn0)) Qaq) (slc (Qao (rnc (.plain _ (NLt.fn _ _ _ nl0 nl0)) rn0)) Qaq) (.plain _ nll) rfl rfl rfl,tv⟩<|Qaj ?_
  obtain rfl:=osi h
  exact fend ⟨[(B ((!x2)))],⟨rot,tv⟩,rfl⟩ nll
def Qe0 (_N:Nat) (p0:Qaf):Option Int:=
  bif (p0.Kind==4) then
   some 2
  else
   bif (p0.Kind==5) then
    (some (p0.Weights.length:Int)).bind fun x3=>
    some x3
   else
    some 1
theorem Qgn (N:Nat) (p0:Qaf) (r:Int) (h:Qe0 N p0=some r):Spec prog 103 [(.agg (Qad p0))] [] (I r) []:=by
  refine Qam func103 rfl 0 (nle rfl) (fun X φ0 w0 hφ0 hd0=>?_)
  unfold Qe0 at h
  refine wxz<|wsq<|wxz<|Qas<|wxz ?_
  refine bfe h (fun hc1 h=>?_) fun hc1 h=>?_
  ·refine wft hc1<|wxz<|Qaj<|Qa1<|Qap ?_
   obtain rfl:=osi h
   exact fend ⟨[I 2],⟨rot,tv⟩,rfl⟩ nll
  ·refine wfn hc1<|wxz ?_
   refine bfe h (fun hc2 h=>?_) fun hc2 h=>?_
   ·refine wft hc2 ?_
    obtain⟨x3,hl4,h⟩:=bno h
    refine wx tbk [(2,rp _ _),(3,rp [(.tmp 11,(I ((p0.Weights.length:Int))))] (I x3))] ⟨alq 1 Qac p0.Weights underlying27,Qi0 hl4 (aas rfl),tv⟩<|Qaj<|Qa1<|Qap ?_
    obtain rfl:=osi h
    exact fend ⟨[I x3],⟨rot,tv⟩,rfl⟩ nll
   ·refine wfn hc2<|Qat<|bln<|thn<|wxz<|Qaj ?_
    obtain rfl:=osi h
    exact fend ⟨[I 1],⟨rot,tv⟩,rfl⟩ nll
def Qdm (N:Nat) (p0:GNet) (y3:Int) (k10:(List (Int×Int))→Option Bool) (x11:Qaf):Nat→Int→(List (Int×Int))→Option Bool
  |0,_,_=>none
  |n22+1,y18,y19=>
    bif (decide (y18<(x11.From.length:Int))) then
     (getI x11.From y18).bind fun x24=>
     (Qcz N x24.Element 0 (w64 (y3-1))).bind fun x29=>
     bif (!x29) then
      some false
     else
      (getI p0.Elements x24.Element).bind fun x31=>
      (Qe0 N x31).bind fun x36=>
      (Qcz N x24.Outlet 0 (w64 (x36-1))).bind fun x38=>
      bif (!x38) then
       some false
      else
       bif y19.contains (x24.Element,x24.Outlet) then
        some false
       else
        bif (decide (x11.Level>x31.Level)) then
         some false
        else
         Qdm N p0 y3 k10 x11 n22 (w64 (y18+1)) (addQ y19 (x24.Element,x24.Outlet))
    else
     k10 (y19)
def Qdn (N:Nat) (p0:GNet) (k2:Unit→Option Bool):Nat→Int→(List (Int×Int))→Option Bool
  |0,_,_=>none
  |n7+1,y3,y4=>
    bif (decide (y3<(p0.Elements.length:Int))) then
     Qdr (fun y9=>
       Qdn N p0 k2 n7 (w64 (y3+1)) y9) fun k10:(List (Int×Int))→Option Bool=>
     (getI p0.Elements y3).bind fun x11=>
     (Qcz N x11.Level 0 (w64 ((p0.Table.length:Int)-1))).bind fun x16=>
     bif (!x16) then
      some false
     else
      Qdm N p0 y3 k10 x11 N 0 y4
    else
     k2 ()
def Qdo (N:Nat) (p0:GNet):Option Bool:=
  Qdr (fun _=>
    Qdr (fun _=>
      some true) fun k2:Unit→Option Bool=>
    Qdn N p0 k2 N 0 ([]:List (Int×Int))) fun k1:Unit→Option Bool=>
  (Qg8 N p0.Table).bind fun x43=>
  bif (x43 != 0) then
   some false
  else
   (Qcz N (p0.Elements.length:Int) 1 16).bind fun x46=>
   bif (!x46) then
    some false
   else
    (Qfd N p0.Elements).bind fun x49=>
    bif (!x49) then
     some false
    else
     k1 ()
def z9_0 (p0:GNet):AV:=.dat 5 (p0.Table.map Qau)
def z9_1 (p0:GNet):AV:=.dat 7 (p0.Elements.map Qad)
def z9_2 (p0:GNet):Slot:=.own 2 [[(z9_0 p0),(z9_1 p0)]]
def Qtc (x11:Qaf):AV:=.dat 2 (x11.From.map Qbc)
def Qwk (x11:Qaf):Slot:=.own 7 [[(K .u8 x11.Kind),(Qtc x11),(I x11.Level),(I x11.Amount),(I x11.Wide),(I x11.Narrow),(.dat 1 (x11.Weights.map Qac))]]
def Qzs (x24:Qby) (y3:Int) (x29:Bool):List (Nat×Rec):=[(4,rp [fu 65,((.tmp 50),(I x24.Element)),ci 0,((.tmp 52),(I (w64 (y3-1))))] (B x29))]
def Q98 (x31:Qaf):AV:=.agg [(K .u8 x31.Kind),(.dat 2 (x31.From.map Qbc)),(I x31.Level),(I x31.Amount),(I x31.Wide),(I x31.Narrow),(.dat 1 (x31.Weights.map Qac))]
def Qzr x24 y3 x29 (p0:GNet) (x31:Qaf) (x36:Int) (x38:Bool):=hcat (Qzs x24 y3 x29) [(6,rp [((.tmp 54),(B ((!x29))))] (B false)),(13,rp [((.tmp 55),(B false)),((.tmp 59),(z9_1 p0)),((.tmp 61),(I x24.Element))] (.dptr (Qad x31) 0)),(15,rp [((.tmp 55),(B false)),fu 103,((.tmp 63),(Q98 x31))] (I x36)),(17,rp [((.tmp 55),(B false)),fu 65,((.tmp 57),(I x24.Outlet)),ci 0,((.tmp 65),(I (w64 (x36-1))))] (B x38))]
def Qzq x24 y3 x29 p0 x31 x36 x38 (y19:(List (Int×Int))):=hcat (Qzr x24 y3 x29 p0 x31 x36 x38) [(20,rp [((.tmp 68),(B ((!x38))))] (B false)),(23,rb [((.tmp 69),(B false)),((.tmp 70),(.mp 1)),((.tmp 71),(.agg [(I x24.Element),(I x24.Outlet)]))] [(1,(Qc3 y19))] (B (y19.contains (x24.Element,x24.Outlet))))]
def Qzp (p0:GNet) (x43:Int):List (Nat×Rec):=[(2,rp [fu 100,((.tmp 9),(z9_0 p0))] (I x43))]
def Qzo p0 x43 (x46:Bool):=hcat (Qzp p0 x43) [(4,rp [((.tmp 11),(B ((x43 != 0))))] (B false)),(7,rp [((.tmp 12),(B false)),((.tmp 14),(z9_1 p0))] (I ((p0.Elements.length:Int)))),(8,rp [((.tmp 12),(B false)),fu 65,((.tmp 15),(I ((p0.Elements.length:Int)))),ci 1,ci 16] (B x46))]
theorem Qdt (N:Nat) (p0:GNet) (r:Bool) (h:Qdo N p0=some r):Spec prog 66 [(.agg (Qg6 p0))] [] (B r) []:=by
  refine Qam func66 rfl 0 (nle rfl) (fun X φ0 w0 hφ0 hd0=>?_)
  unfold Qdo at h
  refine wxz ?_
  obtain⟨k1,hk_k1,h⟩:=jko h
  refine wjn (τ:=Unit) (fun t=>k1 t=some r) (fun _=>⟨mk 90 [(1,.ref 0 2 0 0)],[(z9_2 p0)]⟩) (fun t h=>?_) ?_
  ·subst hk_k1
   refine wx tbk [(0,⟨[],[(1,.unused)],(.mp 1),[(1,(Qc3 ([]:List (Int×Int))))],false⟩)] ⟨Qo2 rfl,tv⟩ ?_
   obtain⟨k2,hk_k2,h⟩:=jko h
   refine wjn (τ:=Unit) (fun t=>k2 t=some r) (fun _=>⟨mk 90 [],[]⟩) (fun t h=>?_) ?_
   ·subst hk_k2
    exact wxz<|Qaj<|frb h
   ·skip
    refine wx tbk [(2,rp _ _)] ⟨alq 7 Qad p0.Elements underlying40,tv⟩<|Qas ?_
    refine wmr (mto (n:=90) (l':=[(1,.ref 0 2 0 0),(3,(.mp 1)),(27,(z9_1 p0)),(28,(I ((p0.Elements.length:Int)))),(29,I 0)]) (own':=[(z9_2 p0),(Qc3 ([]:List (Int×Int)))]) [(1,.ref 0 2 0 0),(3,(.mp 1)),(27,(z9_1 p0)),(28,(I ((p0.Elements.length:Int)))),(29,I 0)] [0,1] [(z9_2 p0),(Qc3 ([]:List (Int×Int)))] hφ0 (prr (pc (.rn (Qgz rfl)) (pc (rnd Qaa) (pw (pw pn))))) (qb (lc (rnd Qak) (lc (rnd Qaa) ln)) (qc Qd1 qn))) ?_
    refine Qb9 (τ:=Int×(List (Int×Int))) (fun n t=>Qdn N p0 k2 n t.1 t.2=some r) (fun ⟨y3,y4⟩=>⟨mk 90 [(1,.ref 0 2 0 0),(3,(.mp 1)),(27,(z9_1 p0)),(28,(I ((p0.Elements.length:Int)))),(29,I y3)],[(z9_2 p0),(Qc3 y4)]⟩) (fun t h=>by rw[Qdn] at h;cases h) (fun n7 ih t h=>?_) N (0,([]:List (Int×Int))) h
    obtain⟨y3,y4⟩:=t
    rw[Qdn] at h
    skip
    refine wxz<|wsq ?_
    refine bfe h (fun hc8 h=>?_) fun hc8 h=>?_
    ·refine wft hc8<|Qat<|thn ?_
     obtain⟨k10,hk_k10,h⟩:=jko h
     refine wjn (τ:=(List (Int×Int))) (fun t=>k10 t=some r) (fun y9=>⟨mk 90 [(1,.ref 0 2 0 0),(3,(.mp 1)),(27,(z9_1 p0)),(28,(I ((p0.Elements.length:Int)))),(29,I y3)],[(z9_2 p0),(Qc3 y9)]⟩) (fun y9 h=>?_) ?_
     ·subst hk_k10
      exact wxz1<|thn<|arm (mto (n:=90) [(1,.ref 0 2 0 0),(3,(.mp 1)),(27,(z9_1 p0)),(28,(I ((p0.Elements.length:Int)))),(29,(I (w64 (y3+1))))] [0,1] [(z9_2 p0),(Qc3 y9)] hφ0 (prr (pc (.rn (Qgz rfl)) (pc (rnd Qaa) (pw (pw pn))))) (qb (lc (rnd Qak) (lc (rnd Qaa) ln)) (qc Qd1 qn))) (ih (w64 (y3+1),y9) h)
     ·skip
      refine Qas ?_
      obtain⟨x11,hg12,h⟩:=bno h
      obtain⟨hi13,hj14⟩:=gsm hg12
      refine wx tbk [(1,rp _ _)] ⟨aiq underlying40 Qfz Qad hi13 hj14,tv⟩<|wsq ?_
      obtain⟨x16,hf15,h⟩:=bno h
      refine wx tbk [(4,rp _ _),(6,rp _ _)] ⟨alq 5 Qau p0.Table underlying39,apv Qh8 (Qck N x11.Level 0 (w64 ((p0.Table.length:Int)-1)) _ hf15) (nlcc (nlc nll nl0)) nll,tv⟩ ?_
      refine bfe h (fun hc17 h=>?_) fun hc17 h=>?_
      ·exact wft hc17<|wxz<|Qaj<|Qap<|Qa1<|Qap<|Qap<|Qa1<|Qap<|frb h
      ·refine wfn hc17<|Qat<|thn ?_
       refine wx tbk [(2,rp _ _)] ⟨alq 2 Qbc x11.From underlying116,tv⟩<|Qas ?_
       refine wmr (mto (n:=90) (l':=[(1,.ref 0 2 0 0),(3,(.mp 1)),(4,I y3),(5,.ref 2 7 0 0),(27,(z9_1 p0)),(28,(I ((p0.Elements.length:Int)))),(29,I y3),(43,(Qtc x11)),(44,(I ((x11.From.length:Int)))),(45,I 0)]) (own':=[(z9_2 p0),(Qc3 y4),(Qwk x11)]) [(1,.ref 0 2 0 0),(3,(.mp 1)),(4,I y3),(5,.ref 2 7 0 0),(27,(z9_1 p0)),(28,(I ((p0.Elements.length:Int)))),(29,I y3),(43,(Qtc x11)),(44,(I ((x11.From.length:Int)))),(45,I 0)] [0,1,2] [(z9_2 p0),(Qc3 y4),(Qwk x11)] hφ0 (prr (pc (.rn (Qgz rfl)) (pw (prr (pc (rnd Qaa) (pw (pw (pc (rnd Qbo) (pw (pw pn)))))))))) (qb (lc (rnd Qak) (lc (rnd Qaa) ln)) (qc Qd1 (qb (lc rwl (lc (rnd Qbo) (lcc (lcc (lc (rnd Qae) ln))))) qn)))) ?_
       refine Qb9 (τ:=Int×(List (Int×Int))) (fun n t=>Qdm N p0 y3 k10 x11 n t.1 t.2=some r) (fun ⟨y18,y19⟩=>⟨mk 90 [(1,.ref 0 2 0 0),(3,(.mp 1)),(4,I y3),(5,.ref 2 7 0 0),(27,(z9_1 p0)),(28,(I ((p0.Elements.length:Int)))),(29,I y3),(43,(Qtc x11)),(44,(I ((x11.From.length:Int)))),(45,I y18)],[(z9_2 p0),(Qc3 y19),(Qwk x11)]⟩) (fun t h=>by rw[Qdm] at h;cases h) (fun n22 ih t h=>?_) N (0,y4) h
       obtain⟨y18,y19⟩:=t
       rw[Qdm] at h
       skip
       refine wxz<|wsq ?_
       refine bfe h (fun hc23 h=>?_) fun hc23 h=>?_
       ·refine wft hc23<|Qat<|thn<|wsq<|Qas ?_
        obtain⟨x24,hg25,h⟩:=bno h
        obtain⟨hi26,hj27⟩:=gsm hg25
        refine wx tbk [(0,rp _ _)] ⟨aiq underlying116 Qk3 Qbc hi26 hj27,tv⟩<|wsq ?_
        obtain⟨x29,hf28,h⟩:=bno h
        refine hpre (A:=(Qzs x24 y3 x29)) ⟨apv Qh8 (Qck N x24.Element 0 (w64 (y3-1)) _ hf28) (nlcc (nlc nll nl0)) nll,tv⟩ fun q1_=>?_
        refine bfe h (fun hb30 h=>?_) fun hb30 h=>?_
        ·refine wxd tbk (hcat (Qzs x24 y3 x29) [(6,rp [(.tmp 54,(B ((!x29))))] (B true))]) (hap q1_ ⟨asb hb30 (amv rfl),tv⟩)<|wtr<|wxz<|Qaj<|Qap<|Qa1<|Qap<|Qap<|Qa1<|Qa1 ?_
         exact Qap<|Qap<|Qa1<|Qap<|frb h
        ·obtain⟨x31,hg32,h⟩:=bno h
         obtain⟨hi33,hj34⟩:=gsm hg32
         obtain⟨x36,hf35,h⟩:=bno h
         obtain⟨x38,hf37,h⟩:=bno h
         refine hpre (A:=(Qzr x24 y3 x29 p0 x31 x36 x38)) (hap q1_ ⟨asb hb30 (amv rfl),ag_ (aiq underlying40 Qfz Qad hi33 hj34),ag_ (apv Qx7 (Qgn N x31 _ hf35) (nlc (NLt.agg _ (nlc nll (nlc (nld Qbo _) (nlcc (nlcc (nlc (nld Qae _) nl0)))))) nl0) nll),ag_ (apv Qh8 (Qck N x24.Outlet 0 (w64 (x36-1)) _ hf37) (nlcc (nlc nll nl0)) nll),tv⟩) fun q2_=>?_
         refine bfe h (fun hb39 h=>?_) fun hb39 h=>?_
         ·refine wxd tbk (hcat (Qzr x24 y3 x29 p0 x31 x36 x38) [(20,rp [(.tmp 68,(B ((!x38))))] (B true))]) (hap q2_ ⟨asb hb39 (amv rfl),tv⟩)<|wtr<|wxz<|Qaj<|Qap<|Qa1<|Qap<|Qap<|Qa1<|Qa1 ?_
          exact Qap<|Qap<|Qa1<|Qap<|frb h
         ·refine hpre (A:=(Qzq x24 y3 x29 p0 x31 x36 x38 y19)) (hap q2_ ⟨asb hb39 (amv rfl),ag_ (Qkl rfl underlying190 underlying120 zb4 Qrn Qqg),tv⟩) fun q3_=>?_
          refine bfe h (fun hb40 h=>?_) fun hb40 h=>?_
          ·refine wxd tbk (hcat (Qzq x24 y3 x29 p0 x31 x36 x38 y19) [(25,rp [(.tmp 73,(B (y19.contains (x24.Element,x24.Outlet))))] (B true))]) (hap q3_ ⟨asb hb40 (amv rfl),tv⟩)<|wtr<|wxz<|Qaj<|Qap<|Qa1<|Qap<|Qap<|Qa1<|Qa1 ?_
           exact Qap<|Qap<|Qa1<|Qap<|frb h
          ·refine wxd tbk (hcat (Qzq x24 y3 x29 p0 x31 x36 x38 y19) [(25,rp [(.tmp 73,(B (y19.contains (x24.Element,x24.Outlet))))] (B false)),(32,rp [(.tmp 74,B false),(.tmp 78,(z9_1 p0)),(.tmp 80,I x24.Element)] (.dptr (Qad x31) 0))]) (hap q3_ ⟨asb hb40 (amv rfl),ag_ (aiq underlying40 Qfz Qad hi33 hj34),tv⟩) ?_
           refine bfe h (fun hc41 h=>?_) fun hc41 h=>?_
           ·refine wft hc41<|wxz<|Qaj<|Qap<|Qa1<|Qap<|Qap<|Qa1<|Qa1<|Qap ?_
            exact Qap<|Qa1<|Qap<|frb h
           ·refine wfn hc41<|Qat<|thn ?_
            exact wx1 tbk [(2,⟨[(.tmp 86,(.mp 1)),(.tmp 87,(.agg [I x24.Element,I x24.Outlet])),cb true],[(1,(Qc3 y19))],.any,[(1,(Qc3 (addQ y19 (x24.Element,x24.Outlet))))],false⟩)] ⟨Qqs rfl underlying190 underlying120 Qrn Qqg,tv⟩<|bln<|thn<|wxz1<|thn<|arm (mto (n:=90) [(1,.ref 0 2 0 0),(3,(.mp 1)),(4,I y3),(5,.ref 2 7 0 0),(27,(z9_1 p0)),(28,(I ((p0.Elements.length:Int)))),(29,I y3),(43,(Qtc x11)),(44,(I ((x11.From.length:Int)))),(45,(I (w64 (y18+1))))] [0,1,2] [(z9_2 p0),(Qc3 (addQ y19 (x24.Element,x24.Outlet))),(Qwk x11)] hφ0 (prr (pc (.rn (Qgz rfl)) (pw (prr (pc (rnd Qaa) (pw (pw (pc (rnd Qbo) (pw (pw pn)))))))))) (qb (lc (rnd Qak) (lc (rnd Qaa) ln)) (qc Qd1 (qb (lc rwl (lc (rnd Qbo) (lcc (lcc (lc (rnd Qae) ln))))) qn)))) (ih (w64 (y18+1),addQ y19 (x24.Element,x24.Outlet)) h)
       ·exact wfn hc23<|Qbm<|Qa4<|Qa4<|Qbl rfl<|bln<|thn<|⟨(y19),h,(mto (n:=90) [(1,.ref 0 2 0 0),(3,(.mp 1)),(27,(z9_1 p0)),(28,(I ((p0.Elements.length:Int)))),(29,I y3)] [0,1] [(z9_2 p0),(Qc3 y19)] hφ0 (prr (pc (.rn (Qgz rfl)) (pc (rnd Qaa) (pw (pw pn))))) (qb (lc (rnd Qak) (lc (rnd Qaa) ln)) (qc Qd1 qn)))⟩
    ·exact wfn hc8<|Qbm<|Qa4<|Qa4<|Qbl rfl<|thn<|⟨(),h,(mto (n:=90) [] [] [] hφ0 pn qn)⟩
  ·skip
   obtain⟨x43,hf42,h⟩:=bno h
   refine hpre (A:=(Qzp p0 x43)) ⟨apv Q6b (Qlz N p0.Table _ hf42) (nlc (nld Qak _) nl0) nll,tv⟩ fun q4_=>?_
   refine bfe h (fun hb44 h=>?_) fun hb44 h=>?_
   ·exact wx tbk (hcat (Qzp p0 x43) [(4,rp [(.tmp 11,(B ((x43 != 0))))] (B true))]) (hap q4_ ⟨asb hb44 (amv rfl),tv⟩)<|wtr<|wxz<|Qaj<|Qap<|frb h
   ·obtain⟨x46,hf45,h⟩:=bno h
    refine hpre (A:=(Qzo p0 x43 x46)) (hap q4_ ⟨asb hb44 (amv rfl),ag_ (alq 7 Qad p0.Elements underlying40),ag_ (apv Qh8 (Qck N (p0.Elements.length:Int) 1 16 _ hf45) (nlcc (nlc nll nl0)) nll),tv⟩) fun q5_=>?_
    refine bfe h (fun hb47 h=>?_) fun hb47 h=>?_
    ·exact wx tbk (hcat (Qzo p0 x43 x46) [(11,rp [(.tmp 18,(B ((!x46))))] (B true))]) (hap q5_ ⟨asb hb47 (amv rfl),tv⟩)<|wtr<|wxz<|Qaj<|Qap<|frb h
    ·obtain⟨x49,hf48,h⟩:=bno h
     refine wx tbk (hcat (Qzo p0 x43 x46) [(11,rp [(.tmp 18,(B ((!x46))))] (B false)),(14,rp [(.tmp 19,B false),fu 101,(.tmp 21,(z9_1 p0)),fu 102] (B x49))]) (hap q5_ ⟨asb hb47 (amv rfl),ag_ (Qar (first:=[]) (cap:=[]) (vs:=[(z9_1 p0),(.fn (.func 102) [] [])]) (σr:=[]) (σr':=[]) (res':=(B x49)) [] rfl Q6a (Qir N p0.Elements _ hf48) rfl (Qbd (rnc (pld Qaa) (rnc (.plain _ (NLt.fn _ _ _ nl0 nl0)) rn0))) Qaq Qaq (.plain _ nll) rfl rfl rfl),tv⟩) ?_
     refine bfe h (fun hc50 h=>?_) fun hc50 h=>?_
     ·exact wft hc50<|wxz<|Qaj<|Qap<|frb h
     ·exact wfn hc50<|Qat<|thn<|⟨(),h,(mto (n:=90) [(1,.ref 0 2 0 0)] [0] [(z9_2 p0)] hφ0 (prr pn) (qb (lc (rnd Qak) (lc (rnd Qaa) ln)) qn))⟩
def Qhj (N:Nat) (p0:GNet):Option Int:=
  (Qdo N p0).bind fun x2=>
  bif (!x2) then
   some 1
  else
   some 0
theorem Qj2 (N:Nat) (p0:GNet) (r:Int) (h:Qhj N p0=some r):Spec prog 56 [(.agg (Qg6 p0))] [] (I r) []:=by
  refine Qam func56 rfl 0 (nle rfl) (fun X φ0 w0 hφ0 hd0=>?_)
  unfold Qhj at h
  refine wxz<|wsq ?_
  obtain⟨x2,hf1,h⟩:=bno h
  refine wx tbk [(1,rp _ _)] ⟨apv Qop (Qdt N p0 _ hf1) (nlc (NLt.agg _ (nlc (nld Qak _) (nlc (nld Qaa _) nl0))) nl0) nll,tv⟩ ?_
  refine bfe h (fun hc3 h=>?_) fun hc3 h=>?_
  ·refine wft hc3<|wxz<|Qaj<|Qap ?_
   obtain rfl:=osi h
   exact fend ⟨[I 1],⟨rot,tv⟩,rfl⟩ nll
  ·refine wfn hc3<|Qat<|thn<|wxz<|Qaj ?_
   obtain rfl:=osi h
   exact fend ⟨[I 0],⟨rot,tv⟩,rfl⟩ nll
end
section
set_option maxRecDepth 100000
set_option maxHeartbeats 4000000
open Go.RowKit
def Qdc (N:Nat) (k11:(List (Int×Int))→Option (List (Int×Int))) (x12:Qaf):Nat→Int→(List (Int×Int))→Option (List (Int×Int))
  |0,_,_=>none
  |n20+1,y16,y17=>
    bif (decide (y16<(x12.From.length:Int))) then
     (getI x12.From y16).bind fun x22=>
     Qdc N k11 x12 n20 (w64 (y16+1)) (addQ y17 (x22.Element,x22.Outlet))
    else
     k11 (y17)
def Qdd (N:Nat) (p0:GNet) (k3:(List (Int×Int))→Option (List (Int×Int))):Nat→Int→(List (Int×Int))→Option (List (Int×Int))
  |0,_,_=>none
  |n8+1,y4,y5=>
    bif (decide (y4<(p0.Elements.length:Int))) then
     Qdr (fun y10=>
       Qdd N p0 k3 n8 (w64 (y4+1)) y10) fun k11:(List (Int×Int))→Option (List (Int×Int))=>
     (getI p0.Elements y4).bind fun x12=>
     Qdc N k11 x12 N 0 y5
    else
     k3 (y5)
def Qh6 (N:Nat) (p0:GNet):Option (List (Int×Int)):=
  Qdr (fun y2=>
    some y2) fun k3:(List (Int×Int))→Option (List (Int×Int))=>
  Qdd N p0 k3 N 0 ([]:List (Int×Int))
def Qo9 (p0:GNet):AV:=.dat 7 (p0.Elements.map Qad)
def Qtk:AV:=.fn (.func 110) [] [(.ref 0 2 (0) 0),(.ref 1 1 (0) 0)]
def Qmg (p0:GNet):Slot:=.own 2 [[(.dat 5 (p0.Table.map Qau)),(Qo9 p0)]]
def Qw2 (x12:Qaf):AV:=.dat 2 (x12.From.map Qbc)
theorem Qmr (N:Nat) (p0:GNet) (r:(List (Int×Int))) (h:Qh6 N p0=some r):Spec prog 75 [(.agg [(.dat 5 (p0.Table.map Qau)),(Qo9 p0)])] [] Qtk [(Qmg p0),(.own 1 [[(.mp 2)]]),(Qc3 r)]:=by
  refine Qam func75 rfl 3 (nle rfl) (fun X φ0 w0 hφ0 hd0=>?_)
  unfold Qh6 at h
  refine Qbj<|wxz ?_
  refine wx tbk [(0,⟨[],[(1,.unused)],(.mp 1),[(1,(Qc3 ([]:List (Int×Int))))],false⟩)] ⟨Qo2 rfl,tv⟩ ?_
  obtain⟨k3,hk_k3,h⟩:=jko h
  refine wjn (τ:=(List (Int×Int))) (fun t=>k3 t=some r) (fun y2=>⟨mk 28 [(1,.ref 0 2 0 0),(3,.ref 1 1 0 0)],[(Qmg p0),(.own 1 [[(.mp 2)]]),(Qc3 y2)]⟩) (fun y2 h=>?_) ?_
  ·subst hk_k3
   refine wx tbk [(0,rp [(.tmp 1,.ref 0 2 0 0),(.tmp 3,.ref 1 1 0 0)] Qtk)] ⟨Qdv (fs:=[]) (cs:=[.ref 0 2 0 0,.ref 1 1 0 0]) rfl rfl rfl rfl,tv⟩ ?_
   refine wmr (mto (n:=28) (l':=[(2,Qtk)]) (own':=[(Qmg p0),(.own 1 [[(.mp 2)]]),(Qc3 y2)]) [(2,Qtk)] [0,1,2] [(Qmg p0),(.own 1 [[(.mp 2)]]),(Qc3 y2)] hφ0 (pc (.rn (Qa9 rn0 (rnc (rqr rfl) (rnc (rqr rfl) rn0)))) pn) (qb (lc (rnd Qak) (lc (rnd Qaa) ln)) (qb (lc (.rn (Qgz rfl)) ln) (qc Qd1 qn))))<|Qaj ?_
   obtain rfl:=osi h
   exact⟨_,Mor.rfl,Qca (vs:=[Qtk]) ⟨rot,tv⟩ rfl (NLt.fn _ _ _ nl0 (nlc (NLt.ref _ _ _ _ (by decide)) (nlc (NLt.ref _ _ _ _ (by decide)) nl0))) (by kernel_rfl) (Qai (Qav (nlc (NLt.of0 (nld Qak _)) (nlc (NLt.of0 (nld Qaa _)) nl0))) (Qai (Qav (nlc (NLt.mp _ (by decide)) nl0)) (Qai Q4m Qbe)))⟩
  ·skip
   refine wx tbk [(2,rp _ _)] ⟨alq 7 Qad p0.Elements underlying40,tv⟩<|Qas ?_
   refine wmr (mto (n:=28) (l':=[(1,.ref 0 2 0 0),(3,.ref 1 1 0 0),(10,(Qo9 p0)),(11,(I ((p0.Elements.length:Int)))),(12,I 0)]) (own':=[(Qmg p0),(.own 1 [[(.mp 2)]]),(Qc3 ([]:List (Int×Int)))]) [(1,.ref 0 2 0 0),(3,.ref 2 1 0 0),(10,(Qo9 p0)),(11,(I ((p0.Elements.length:Int)))),(12,I 0)] [0,2,1] [(Qmg p0),(.own 1 [[(.mp 1)]]),(Qc3 ([]:List (Int×Int)))] hφ0 (prr (prr (pc (rnd Qaa) (pw (pw pn))))) (qb (lc (rnd Qak) (lc (rnd Qaa) ln)) (qb (lc (.rn (Qgz rfl)) ln) (qc Qd1 qn)))) ?_
   refine Qb9 (τ:=Int×(List (Int×Int))) (fun n t=>Qdd N p0 k3 n t.1 t.2=some r) (fun ⟨y4,y5⟩=>⟨mk 28 [(1,.ref 0 2 0 0),(3,.ref 1 1 0 0),(10,(Qo9 p0)),(11,(I ((p0.Elements.length:Int)))),(12,I y4)],[(Qmg p0),(.own 1 [[(.mp 2)]]),(Qc3 y5)]⟩) (fun t h=>by rw[Qdd] at h;cases h) (fun n8 ih t h=>?_) N (0,([]:List (Int×Int))) h
   obtain⟨y4,y5⟩:=t
   rw[Qdd] at h
   skip
   refine wxz<|wsq ?_
   refine bfe h (fun hc9 h=>?_) fun hc9 h=>?_
   ·refine wft hc9<|Qat<|thn ?_
    obtain⟨k11,hk_k11,h⟩:=jko h
    refine wjn (τ:=(List (Int×Int))) (fun t=>k11 t=some r) (fun y10=>⟨mk 28 [(1,.ref 0 2 0 0),(3,.ref 1 1 0 0),(10,(Qo9 p0)),(11,(I ((p0.Elements.length:Int)))),(12,I y4)],[(Qmg p0),(.own 1 [[(.mp 2)]]),(Qc3 y10)]⟩) (fun y10 h=>?_) ?_
    ·subst hk_k11
     exact wxz1<|thn<|arm (mto (n:=28) [(1,.ref 0 2 0 0),(3,.ref 1 1 0 0),(10,(Qo9 p0)),(11,(I ((p0.Elements.length:Int)))),(12,(I (w64 (y4+1))))] [0,1,2] [(Qmg p0),(.own 1 [[(.mp 2)]]),(Qc3 y10)] hφ0 (prr (prr (pc (rnd Qaa) (pw (pw pn))))) (qb (lc (rnd Qak) (lc (rnd Qaa) ln)) (qb (lc (.rn (Qgz rfl)) ln) (qc Qd1 qn)))) (ih (w64 (y4+1),y10) h)
    ·skip
     refine Qas ?_
     obtain⟨x12,hg13,h⟩:=bno h
     obtain⟨hi14,hj15⟩:=gsm hg13
     refine wx tbk [(0,rp _ _)] ⟨aiq underlying40 Qfz Qad hi14 hj15,tv⟩ ?_
     refine wx tbk [(2,rp _ _)] ⟨alq 2 Qbc x12.From underlying116,tv⟩<|Qas ?_
     refine wmr (mto (n:=28) (l':=[(1,.ref 0 2 0 0),(3,.ref 1 1 0 0),(10,(Qo9 p0)),(11,(I ((p0.Elements.length:Int)))),(12,I y4),(17,(Qw2 x12)),(18,(I ((x12.From.length:Int)))),(19,I 0)]) (own':=[(Qmg p0),(.own 1 [[(.mp 2)]]),(Qc3 y5)]) [(1,.ref 0 2 0 0),(3,.ref 1 1 0 0),(10,(Qo9 p0)),(11,(I ((p0.Elements.length:Int)))),(12,I y4),(17,(Qw2 x12)),(18,(I ((x12.From.length:Int)))),(19,I 0)] [0,1,2] [(Qmg p0),(.own 1 [[(.mp 2)]]),(Qc3 y5)] hφ0 (prr (prr (pc (rnd Qaa) (pw (pw (pc (rnd Qbo) (pw (pw pn)))))))) (qb (lc (rnd Qak) (lc (rnd Qaa) ln)) (qb (lc (.rn (Qgz rfl)) ln) (qc Qd1 qn)))) ?_
     refine Qb9 (τ:=Int×(List (Int×Int))) (fun n t=>Qdc N k11 x12 n t.1 t.2=some r) (fun ⟨y16,y17⟩=>⟨mk 28 [(1,.ref 0 2 0 0),(3,.ref 1 1 0 0),(10,(Qo9 p0)),(11,(I ((p0.Elements.length:Int)))),(12,I y4),(17,(Qw2 x12)),(18,(I ((x12.From.length:Int)))),(19,I y16)],[(Qmg p0),(.own 1 [[(.mp 2)]]),(Qc3 y17)]⟩) (fun t h=>by rw[Qdc] at h;cases h) (fun n20 ih t h=>?_) N (0,y5) h
     obtain⟨y16,y17⟩:=t
     rw[Qdc] at h
     skip
     refine wxz<|wsq ?_
     refine bfe h (fun hc21 h=>?_) fun hc21 h=>?_
     ·refine wft hc21<|Qat<|thn<|wsq<|Qas ?_
      obtain⟨x22,hg23,h⟩:=bno h
      obtain⟨hi24,hj25⟩:=gsm hg23
      refine wx tbk [(0,rp _ _)] ⟨aiq underlying116 Qk3 Qbc hi24 hj25,tv⟩ ?_
      exact wx1 tbk [(2,⟨[(.tmp 23,(.mp 2)),(.tmp 24,(.agg [I x22.Element,I x22.Outlet])),cb true],[(2,(Qc3 y17))],.any,[(2,(Qc3 (addQ y17 (x22.Element,x22.Outlet))))],false⟩)] ⟨Qqs rfl underlying190 underlying120 Qrn Qqg,tv⟩<|bln<|thn<|wxz1<|thn<|arm (mto (n:=28) [(1,.ref 0 2 0 0),(3,.ref 1 1 0 0),(10,(Qo9 p0)),(11,(I ((p0.Elements.length:Int)))),(12,I y4),(17,(Qw2 x12)),(18,(I ((x12.From.length:Int)))),(19,(I (w64 (y16+1))))] [0,1,2] [(Qmg p0),(.own 1 [[(.mp 2)]]),(Qc3 (addQ y17 (x22.Element,x22.Outlet)))] hφ0 (prr (prr (pc (rnd Qaa) (pw (pw (pc (rnd Qbo) (pw (pw pn)))))))) (qb (lc (rnd Qak) (lc (rnd Qaa) ln)) (qb (lc (.rn (Qgz rfl)) ln) (qc Qd1 qn)))) (ih (w64 (y16+1),addQ y17 (x22.Element,x22.Outlet)) h)
     ·exact wfn hc21<|Qbm<|Qa4<|Qa4<|Qbl rfl<|bln<|thn<|⟨(y17),h,(mto (n:=28) [(1,.ref 0 2 0 0),(3,.ref 1 1 0 0),(10,(Qo9 p0)),(11,(I ((p0.Elements.length:Int)))),(12,I y4)] [0,1,2] [(Qmg p0),(.own 1 [[(.mp 2)]]),(Qc3 y17)] hφ0 (prr (prr (pc (rnd Qaa) (pw (pw pn))))) (qb (lc (rnd Qak) (lc (rnd Qaa) ln)) (qb (lc (.rn (Qgz rfl)) ln) (qc Qd1 qn))))⟩
   ·exact wfn hc9<|Qbm<|Qa4<|Qa4<|Qbl rfl<|thn<|⟨(y5),h,(mto (n:=28) [(1,.ref 0 2 0 0),(3,.ref 1 1 0 0)] [0,1,2] [(Qmg p0),(.own 1 [[(.mp 2)]]),(Qc3 y5)] hφ0 (prr (prr pn)) (qb (lc (rnd Qak) (lc (rnd Qaa) ln)) (qb (lc (.rn (Qgz rfl)) ln) (qc Qd1 qn))))⟩
def Qc0 (N:Nat) (y1:Int) (p2:(List (Int×Int))) (k8:Unit→Option (List Qby)) (x14:Int):Nat→Int→Option (List Qby)
  |0,_=>none
  |n19+1,y15=>
    bif (decide (y15<x14)) then
     bif (!(p2.contains (y1,y15))) then
      yld (⟨y1,y15⟩:Qby)<|
      Qc0 N y1 p2 k8 x14 n19 (w64 (y15+1))
     else
      Qc0 N y1 p2 k8 x14 n19 (w64 (y15+1))
    else
     k8 ()
def Qdb (N:Nat) (p1:List Qaf) (p2:(List (Int×Int))):Nat→Int→Option (List Qby)
  |0,_=>none
  |n5+1,y1=>
    bif (decide (y1<(p1.length:Int))) then
     Qdr (fun _=>
       Qdb N p1 p2 n5 (w64 (y1+1))) fun k8:Unit→Option (List Qby)=>
     (getI p1 y1).bind fun x9=>
     (Qe0 N x9).bind fun x14=>
     Qc0 N y1 p2 k8 x14 N 0
    else
     some ([])
def Qh5 (N:Nat) (_p0:List GRow) (p1:List Qaf) (p2:(List (Int×Int))):Option (List Qby):=
  Qdb N p1 p2 N 0
def Qo8 (p1:List Qaf):AV:=.dat 7 (p1.map Qad)
def Qo7 (p0:List GRow) (p1:List Qaf):Slot:=.own 2 [[(.dat 5 (p0.map Qau)),(Qo8 p1)]]
def Qm6 (y1 y15:Int):AV:=.agg [(I y1),(I y15)]
theorem Qmq (N:Nat) (p0:List GRow) (p1:List Qaf) (p2:(List (Int×Int))) (r:List Qby) (h:Qh5 N p0 p1 p2=some r):Qq1 prog 110 [(.ref 0 2 (0) 0),(.ref 1 1 (0) 0)] [(Qo7 p0 p1),(.own 1 [[(.mp 2)]]),(Qc3 p2)] (fun x=>[(.agg #[(.int .i64 x.Element),(.int .i64 x.Outlet)])]) r:=by
  refine Qrh func110 rfl rfl (fun X φ0 w0 l J hφ0 hy=>?_)
  unfold Qh5 at h
  refine wx tbk [(2,rp _ _)] ⟨alq 7 Qad p1 underlying40,tv⟩<|Qas ?_
  refine wmr (mto (n:=36) (l':=[(0,(.lit (.func (.yield l) #[] #[]))),(2,.ref 1 1 0 0),(9,(Qo8 p1)),(10,(I ((p1.length:Int)))),(11,I 0)]) (own':=[(Qo7 p0 p1),(.own 1 [[(.mp 2)]]),(Qc3 p2),(.far (J (some r)))]) [(0,(.lit (.func (.yield l) #[] #[]))),(2,.ref 1 1 0 0),(9,(Qo8 p1)),(10,(I ((p1.length:Int)))),(11,I 0)] [0,1,2,3] [(Qo7 p0 p1),(.own 1 [[(.mp 2)]]),(Qc3 p2),(.far (J (some r)))] hφ0 (pw (prr (pc (rnd Qaa) (pw (pw pn))))) (qb (lc (rnd Qak) (lc (rnd Qaa) ln)) (qb (lc (.rn (Qgz rfl)) ln) (qc Qd1 (qc (.far _) qn))))) ?_
  refine Qb9 (τ:=(Int)×List Qby) (fun n t=>Qdb N p1 p2 n t.1=some t.2) (fun ⟨y1,q2⟩=>⟨mk 36 [(0,(.lit (.func (.yield l) #[] #[]))),(2,.ref 1 1 0 0),(9,(Qo8 p1)),(10,(I ((p1.length:Int)))),(11,I y1)],[(Qo7 p0 p1),(.own 1 [[(.mp 2)]]),(Qc3 p2),(.far (J (some q2)))]⟩) (fun t h=>by rw[Qdb] at h;cases h) (fun n5 ih t h=>?_) N ((0),r) h
  obtain⟨y1,q2⟩:=t
  rw[Qdb] at h
  try dsimp only at h
  refine wxz<|wsq ?_
  refine bfe h (fun hc6 h=>?_) fun hc6 h=>?_
  ·refine wft hc6<|Qat<|thn ?_
   obtain⟨k8,hk_k8,h⟩:=jko h
   refine wjn (τ:=(Unit)×List Qby) (fun t=>k8 t.1=some t.2) (fun ⟨_,q7⟩=>⟨mk 36 [(0,(.lit (.func (.yield l) #[] #[]))),(2,.ref 1 1 0 0),(9,(Qo8 p1)),(10,(I ((p1.length:Int)))),(11,I y1)],[(Qo7 p0 p1),(.own 1 [[(.mp 2)]]),(Qc3 p2),(.far (J (some q7)))]⟩) (fun t h=>?_) ?_
   ·subst hk_k8
    obtain⟨_,q7⟩:=t
    exact wxz1<|thn<|arm (mto (n:=36) [(0,(.lit (.func (.yield l) #[] #[]))),(2,.ref 1 1 0 0),(9,(Qo8 p1)),(10,(I ((p1.length:Int)))),(11,(I (w64 (y1+1))))] [0,1,2,3] [(Qo7 p0 p1),(.own 1 [[(.mp 2)]]),(Qc3 p2),(.far (J (some q7)))] hφ0 (pw (prr (pc (rnd Qaa) (pw (pw pn))))) (qb (lc (rnd Qak) (lc (rnd Qaa) ln)) (qb (lc (.rn (Qgz rfl)) ln) (qc Qd1 (qc (.far _) qn))))) (ih ((w64 (y1+1)),q7) h)
   ·skip
    refine Qas ?_
    obtain⟨x9,hg10,h⟩:=bno h
    obtain⟨hi11,hj12⟩:=gsm hg10
    refine wx tbk [(1,rp _ _)] ⟨aiq underlying40 Qfz Qad hi11 hj12,tv⟩ ?_
    obtain⟨x14,hf13,h⟩:=bno h
    refine wx tbk [(1,rp _ _)] ⟨apv Qx7 (Qgn N x9 _ hf13) (nlc (NLt.agg _ (nlc nll (nlc (nld Qbo _) (nlcc (nlcc (nlc (nld Qae _) nl0)))))) nl0) nll,tv⟩<|Qas ?_
    refine wmr (mto (n:=36) (l':=[(0,(.lit (.func (.yield l) #[] #[]))),(2,.ref 1 1 0 0),(4,I y1),(9,(Qo8 p1)),(10,(I ((p1.length:Int)))),(11,I y1),(17,I x14),(18,I 0)]) (own':=[(Qo7 p0 p1),(.own 1 [[(.mp 2)]]),(Qc3 p2),(.far (J (some q2)))]) [(0,(.lit (.func (.yield l) #[] #[]))),(2,.ref 1 1 0 0),(4,I y1),(9,(Qo8 p1)),(10,(I ((p1.length:Int)))),(11,I y1),(17,I x14),(18,I 0)] [0,1,2,3] [(Qo7 p0 p1),(.own 1 [[(.mp 2)]]),(Qc3 p2),(.far (J (some q2)))] hφ0 (pw (prr (pw (pc (rnd Qaa) (pw (pw (pw (pw pn)))))))) (qb (lc (rnd Qak) (lc (rnd Qaa) ln)) (qb (lc (.rn (Qgz rfl)) ln) (qc Qd1 (qc (.far _) qn))))) ?_
    refine Qb9 (τ:=(Int)×List Qby) (fun n t=>Qc0 N y1 p2 k8 x14 n t.1=some t.2) (fun ⟨y15,q16⟩=>⟨mk 36 [(0,(.lit (.func (.yield l) #[] #[]))),(2,.ref 1 1 0 0),(4,I y1),(9,(Qo8 p1)),(10,(I ((p1.length:Int)))),(11,I y1),(17,I x14),(18,I y15)],[(Qo7 p0 p1),(.own 1 [[(.mp 2)]]),(Qc3 p2),(.far (J (some q16)))]⟩) (fun t h=>by rw[Qc0] at h;cases h) (fun n19 ih t h=>?_) N ((0),q2) h
    obtain⟨y15,q16⟩:=t
    rw[Qc0] at h
    try dsimp only at h
    refine wxz<|wsq ?_
    refine bfe h (fun hc20 h=>?_) fun hc20 h=>?_
    ·refine wft hc20<|Qat<|thn<|wsq<|Qas<|wxz ?_
     refine wx tbk [(2,rp _ _)] ⟨Qay (vs:=[I y1,I y15]) rfl Qy0 Qnb rfl (by rfl) rfl,tv⟩ ?_
     refine bfe h (fun hb21 h=>?_) fun hb21 h=>?_
     ·obtain⟨q22,hy_,hq_⟩:=Qvn h
      clear h
      subst hq_
      have h:=hy_
      clear hy_
      refine Qpj 7 [rb [(.tmp 2,.ref 1 1 0 0)] [(1,(.own 1 [[(.mp 2)]]))] (.mp 2),rb [(.tmp 7,.ref 4 2 0 0)] [(4,.own 2 [[I y1,I y15]])] (Qm6 y1 y15),rb [(.tmp 24,(.mp 2)),(.tmp 25,(Qm6 y1 y15))] [(2,(Qc3 p2))] (B (p2.contains (y1,y15))),rp [(.tmp 26,(B (p2.contains (y1,y15))))] (B ((!(p2.contains (y1,y15))))),rp [(.tmp 27,(B ((!(p2.contains (y1,y15))))))] (B true),rp [(.tmp 28,B true),(.tmp 0,(.lit (.func (.yield l) #[] #[])))] (.lit (.func (.yield l) #[] #[])),rb [(.tmp 28,B true),(.tmp 7,.ref 4 2 0 0)] [(4,.own 2 [[I y1,I y15]])] (Qm6 y1 y15),⟨[(.tmp 28,B true),(.tmp 29,(.lit (.func (.yield l) #[] #[]))),(.tmp 30,(Qm6 y1 y15))],[(3,(.far (J (some ((⟨y1,y15⟩:Qby)::q22)))))],B true,[(3,(.far (J (some q22))))],false⟩,rp [(.tmp 28,B true),(.tmp 31,B true)] (B false),rp [(.tmp 28,B true),(.tmp 32,B false),cb false] (B false)] [rb [(.tmp 2,.ref 1 1 0 0)] [(1,(.own 1 [[(.mp 2)]]))] (.mp 2),rb [(.tmp 7,.ref 4 2 0 0)] [(4,.own 2 [[I y1,I y15]])] (Qm6 y1 y15),rb [(.tmp 24,(.mp 2)),(.tmp 25,(Qm6 y1 y15))] [(2,(Qc3 p2))] (B (p2.contains (y1,y15))),rp [(.tmp 26,(B (p2.contains (y1,y15))))] (B ((!(p2.contains (y1,y15))))),rp [(.tmp 27,(B ((!(p2.contains (y1,y15))))))] (B true),rp [(.tmp 28,B true),(.tmp 0,(.lit (.func (.yield l) #[] #[])))] (.lit (.func (.yield l) #[] #[])),rb [(.tmp 28,B true),(.tmp 7,.ref 4 2 0 0)] [(4,.own 2 [[I y1,I y15]])] (Qm6 y1 y15),⟨[(.tmp 28,B true),(.tmp 29,(.lit (.func (.yield l) #[] #[]))),(.tmp 30,(Qm6 y1 y15))],[(3,(.far (J (some ((⟨y1,y15⟩:Qby)::q22)))))],B false,[(3,(.far (J none)))],false⟩,rp [(.tmp 28,B true),(.tmp 31,B false)] (B true),rp [(.tmp 28,B true),(.tmp 32,B true),cb false] (B true)] (by exact⟨by kernel_rfl,by kernel_rfl⟩) (by exact⟨by kernel_rfl,by kernel_rfl⟩) rfl rfl rfl rfl (Qut (Qmz (rd':=(.tmp 29,.lit (.func (.yield l) #[] #[]))::[(.tmp 30,.lit (.agg #[(.int .i64 ((⟨y1,y15⟩:Qby).Element)),(.int .i64 ((⟨y1,y15⟩:Qby).Outlet))]))]) ⟨rfl,lrf,rfl,(Less.lits [(.int .i64 y1),(.int .i64 y15)]),tv⟩ (Qlk (x:=(⟨y1,y15⟩:Qby)) (rest:=q22) rfl rfl hy rfl))) (⟨fun _ _=>ald rfl Q88 (by decide) rfl (nle rfl) rfl,fun _ _=>ald rfl Qk3 (by decide) rfl (nle rfl) rfl,fun _ _=>Qkl rfl underlying190 underlying120 zb4 Qrn Qqg,fun _ _=>Qiz rfl,fun _ _=>asb hb21 (amv rfl),fun _ _=>ag_ (amv rfl),fun _ _=>ag_ (ald rfl Qk3 (by decide) rfl (nle rfl) rfl),fun _ h=>absurd rfl h,fun _ _=>ag_ (Qiz rfl),fun _ _=>apk rfl rfl,tv⟩) (⟨fun _ _=>ald rfl Q88 (by decide) rfl (nle rfl) rfl,fun _ _=>ald rfl Qk3 (by decide) rfl (nle rfl) rfl,fun _ _=>Qkl rfl underlying190 underlying120 zb4 Qrn Qqg,fun _ _=>Qiz rfl,fun _ _=>asb hb21 (amv rfl),fun _ _=>ag_ (amv rfl),fun _ _=>ag_ (ald rfl Qk3 (by decide) rfl (nle rfl) rfl),fun _ h=>absurd rfl h,fun _ _=>ag_ (Qiz rfl),fun _ _=>apk rfl rfl,tv⟩) ?_ ?_
      ·skip
       exact wfa<|Qat<|bln<|thn<|wxz1<|thn<|arm (mto (n:=36) [(0,(.lit (.func (.yield l) #[] #[]))),(2,.ref 1 1 0 0),(4,I y1),(9,(Qo8 p1)),(10,(I ((p1.length:Int)))),(11,I y1),(17,I x14),(18,(I (w64 (y15+1))))] [0,1,2,3] [(Qo7 p0 p1),(.own 1 [[(.mp 2)]]),(Qc3 p2),(.far (J (some q22)))] hφ0 (pw (prr (pw (pc (rnd Qaa) (pw (pw (pw (pw pn)))))))) (qb (lc (rnd Qak) (lc (rnd Qaa) ln)) (qb (lc (.rn (Qgz rfl)) ln) (qc Qd1 (qc (.far _) qn))))) (ih ((w64 (y15+1)),q22) h)
      ·clear h
       refine wtr<|Qaj<|Qa1<|Qap<|Qap<|Qa1<|Qa1<|Qap<|Qap<|Qa1 ?_
       exact Or.inr (by kernel_rfl)
     ·exact wx tbk [(2,rb [(.tmp 24,(.mp 2)),(.tmp 25,(Qm6 y1 y15))] [(2,(Qc3 p2))] (B (p2.contains (y1,y15)))),(4,rp [(.tmp 27,(B ((!(p2.contains (y1,y15))))))] (B false))] ⟨Qkl rfl underlying190 underlying120 zb4 Qrn Qqg,asb hb21 (amv rfl),tv⟩<|wfa<|Qat<|bln<|thn<|wxz1<|thn<|arm (mto (n:=36) [(0,(.lit (.func (.yield l) #[] #[]))),(2,.ref 1 1 0 0),(4,I y1),(9,(Qo8 p1)),(10,(I ((p1.length:Int)))),(11,I y1),(17,I x14),(18,(I (w64 (y15+1))))] [0,1,2,3] [(Qo7 p0 p1),(.own 1 [[(.mp 2)]]),(Qc3 p2),(.far (J (some q16)))] hφ0 (pw (prr (pw (pc (rnd Qaa) (pw (pw (pw (pw pn)))))))) (qb (lc (rnd Qak) (lc (rnd Qaa) ln)) (qb (lc (.rn (Qgz rfl)) ln) (qc Qd1 (qc (.far _) qn))))) (ih ((w64 (y15+1)),q16) h)
    ·exact wfn hc20<|Qbm<|Qa4<|Qa4<|Qbl rfl<|bln<|thn<|⟨((),q16),h,(mto (n:=36) [(0,(.lit (.func (.yield l) #[] #[]))),(2,.ref 1 1 0 0),(9,(Qo8 p1)),(10,(I ((p1.length:Int)))),(11,I y1)] [0,1,2,3] [(Qo7 p0 p1),(.own 1 [[(.mp 2)]]),(Qc3 p2),(.far (J (some q16)))] hφ0 (pw (prr (pc (rnd Qaa) (pw (pw pn))))) (qb (lc (rnd Qak) (lc (rnd Qaa) ln)) (qb (lc (.rn (Qgz rfl)) ln) (qc Qd1 (qc (.far _) qn)))))⟩
  ·refine wfn hc6<|Qbm<|Qa4<|Qa4<|Qbl rfl ?_
   obtain rfl:=osi h
   exact Or.inl rfl
def Qbf (N:Nat) (k3:(List Qby)→Option (List Qby)):(List Qby)→(List Qby)→Option (List Qby)
  |[],y6=>
    k3 (y6)
  |x9::q10,y6=>
    chk (decide ((y6.length+([x9]).length)*16≤140737488355328))<|
    Qbf N k3 q10 (y6++([x9]))
def Qcu (N:Nat) (p0:List GRow) (p1:List Qaf) (p2:(List (Int×Int))):Option (List Qby):=
  Qdr (fun y2=>
    some y2) fun k3:(List Qby)→Option (List Qby)=>
  (Qh5 N p0 p1 p2).bind fun q4=>
  Qbf N k3 q4 ([])
def Q8p:AV:=.fn (.func 110) [] [(.ref 0 2 (0) 0),(.ref 1 1 (0) 0)]
def Q4f (p0:List GRow) (p1:List Qaf):Slot:=.own 2 [[(.dat 5 (p0.map Qau)),(.dat 7 (p1.map Qad))]]
theorem Qfr (N:Nat) (p0:List GRow) (p1:List Qaf) (p2:(List (Int×Int))) (r:List Qby) (h:Qcu N p0 p1 p2=some r):Spec prog 111 [nilS,Q8p] [(Q4f p0 p1),(.own 1 [[(.mp 2)]]),(Qc3 p2)] (.dat 2 (r.map Qbc)) [.dead,.dead,.dead]:=by
  refine Qam func111 rfl 3 (nle rfl) (fun X φ0 w0 hφ0 hd0=>?_)
  unfold Qcu at h
  refine Qbj<|wxz ?_
  obtain⟨k3,hk_k3,h⟩:=jko h
  refine wjn (τ:=(List Qby)) (fun t=>k3 t=some r) (fun y2=>⟨mk 13 [(2,.ref 3 1 0 0)],[.dead,.dead,.dead,(.own 1 [[(.acc 4 120 2 (y2.map Qbc))]]),.tok]⟩) (fun y2 h=>?_) ?_
  ·subst hk_k3
   refine wxz<|wmr (mto (n:=13) (l':=[(4,(.dat 2 (y2.map Qbc)))]) (own':=[.dead,.dead,.dead]) [(4,(.acc 4 120 2 (y2.map Qbc)))] [0,1,2] [.dead,.dead,.dead] hφ0 (pc (.dat _ _ _ _ (Qd3 Qbo _)) pn) (qc .dead (qc .dead (qc .dead qn))))<|Qaj ?_
   obtain rfl:=osi h
   exact⟨_,Mor.rfl,Qca (vs:=[(.dat 2 (y2.map Qbc))]) ⟨rot,tv⟩ rfl (NLt.of0 (nld Qbo _)) (by kernel_rfl) (Qai .dead (Qai .dead (Qai .dead Qbe)))⟩
  ·skip
   refine wxz<|Qas ?_
   obtain⟨q4,hL5,h⟩:=bno h
   refine wmr (mto (n:=13) (l':=[(2,.ref 3 1 0 0),(6,Q8p)]) (own':=[(Q4f p0 p1),(.own 1 [[(.mp 2)]]),(Qc3 p2),(.own 1 [[nilS]])]) [(2,.ref 3 1 0 0),(6,Q8p)] [0,1,2,3] [(Q4f p0 p1),(.own 1 [[(.mp 2)]]),(Qc3 p2),(.own 1 [[nilS]])] hφ0 (prr (pc (.rn (Qa9 rn0 (rnc (rqr rfl) (rnc (rqr rfl) rn0)))) pn)) (qb (lc (rnd Qak) (lc (rnd Qaa) ln)) (qb (lc (.rn (Qgz rfl)) ln) (qc Qd1 (qb (lc rwl ln) qn))))) ?_
   refine wmr (Qxq (n:=4) (ty:=120) (m:=2) (q:=3) (mq:=1) (c:=[nilS]) 0 (by kernel_rfl) (by kernel_rfl) (by kernel_rfl) (by decide)) ?_
   refine Qrr (τ:=((List Qby))) (kb:=4) (caps:=[.ref 0 2 0 0,.ref 1 1 0 0]) (σr:=[(Q4f p0 p1),(.own 1 [[(.mp 2)]]),(Qc3 p2)]) (encs:=fun x=>[(.agg #[(.int .i64 x.Element),(.int .i64 x.Outlet)])]) (fun x=>[(.agg [I x.Element,I x.Outlet])]) [0,1,2] (fun n hn=>hφ0 n (Nat.le_trans (nle rfl) hn)) hd0 (Qmq N p0 p1 p2 _ hL5) Q57 (by kernel_rfl) (by kernel_rfl) (Qbd (rnc (Qa5 rfl) (rnc (Qa5 rfl) rn0))) (slc (Qao (rnc (pld Qak) (rnc (pld Qaa) rn0))) (slc (Qao (rnc (Q7v rfl) rn0)) (slc Qpe Qaq))) (by kernel_rfl) (fun _=>rfl) (fun x=>⟨(Less.unlits [(.int .i64 x.Element),(.int .i64 x.Outlet)]),tv⟩) (Q70 (Qph (NLt.ref _ _ _ _ (by decide)) (Qph (NLt.fn _ _ _ nl0 (nlc (NLt.ref _ _ _ _ (by decide)) (nlc (NLt.ref _ _ _ _ (by decide)) nl0))) Q1z))) (fun y6=>[.dead,.dead,.dead,(.own 1 [[(.acc 4 120 2 (y6.map Qbc))]]),.tok]) (fun _=>rfl) (fun _=>rfl) (fun l t=>Qbf N k3 l t=some r) ([]) h (by kernel_rfl) ?_ ?_
   ·intro l11 o12 X15 φ16 w17 hφ14 x9 q10 y6 h
    rw[Qbf] at h
    refine wxz1 ?_
    refine⟨by kernel_rfl,fun o13=>?_⟩
    refine Qas ?_
    obtain⟨ha18,h⟩:=cko h
    refine wx1 tbk [(2,rp [(.tmp 9,(.agg [I x9.Element,I x9.Outlet]))] (.dat 2 (([x9]:List Qby).map Qbc))),(3,⟨[(.tmp 8,(.acc 4 120 2 (y6.map Qbc))),(.tmp 10,(.dat 2 (([x9]:List Qby).map Qbc)))],[(4,.tok),(7,.unused)],(.acc 7 120 2 ((y6++([x9]):List Qby).map Qbc)),[(4,.dead),(7,.tok)],false⟩)] ⟨Qbi (vs:=[(.agg [I x9.Element,I x9.Outlet])]) rfl underlying116 Qk3 Qnb rfl (by decide) rfl (by decide) (by rfl) (by rfl) (by rfl) rfl,Qft rfl underlying116 Q9a (Base.acc _ _) rfl rfl (by rfl) (Qi4 Qbc ha18) (Qi3 Qbc ha18 (by decide)) (Qi2 Qbc) rfl rfl,tv⟩<|bln ?_
    exact⟨(y6++([x9])),h,Q7w (own':=[.dead,.dead,.dead,(.own 1 [[(.acc 4 120 2 (((y6++([x9])):List Qby).map Qbc))]]),.tok,(.far (farL l11 o13))]) [0,1,2,3,7,5] [.dead,.dead,.dead,(.own 1 [[(.acc 7 120 2 ((y6++([x9]):List Qby).map Qbc))]]),.tok,(.far (farL l11 o13))] (by kernel_rfl) (by kernel_rfl) ⟨.dead,.dead,.dead,(spb (lc (.rn (Qf8 rfl (Qd3 Qbo _))) ln)),.tok,.far _,tv⟩⟩
   ·intro y6 h
    rw[Qbf] at h
    exact bln<|thn<|⟨(y6),h,(mto (n:=13) [(2,.ref 3 1 0 0)] [0,1,2,3,4] [.dead,.dead,.dead,(.own 1 [[(.acc 4 120 2 (y6.map Qbc))]]),.tok] hφ0 (prr pn) (qc .dead (qc .dead (qc .dead (qb (lc (.rn (Qf8 rfl (Qd3 Qbo _))) ln) (qc .tok qn))))))⟩
def Qei (N:Nat) (p0:List GRow) (p1:List Qaf) (p2:(List (Int×Int))):Option (List Qby):=
  (Qcu N p0 p1 p2).bind fun x3=>
  some x3
def Za7:AV:=.fn (.func 110) [] [(.ref 0 2 (0) 0),(.ref 1 1 (0) 0)]
def Q4g (x3:List Qby):AV:=.dat 2 (x3.map Qbc)
theorem Qhs (N:Nat) (p0:List GRow) (p1:List Qaf) (p2:(List (Int×Int))) (r:List Qby) (h:Qei N p0 p1 p2=some r):Spec prog 89 [Za7] [(.own 2 [[(.dat 5 (p0.map Qau)),(.dat 7 (p1.map Qad))]]),(.own 1 [[(.mp 2)]]),(Qc3 p2)] (.dat 2 (r.map Qbc)) [.dead,.dead,.dead]:=by
  refine Qam func89 rfl 3 (nle rfl) (fun X φ0 w0 hφ0 hd0=>?_)
  unfold Qei at h
  refine Qbj<|wxz ?_
  obtain⟨x3,hf2,h⟩:=bno h
  refine wx tbk [(1,⟨_,_,_,_,false⟩)] ⟨Qar (first:=[]) (cap:=[]) (vs:=[nilS,Za7]) (σr:=[(.own 2 [[(.dat 5 (p0.map Qau)),(.dat 7 (p1.map Qad))]]),(.own 1 [[(.mp 2)]]),(Qc3 p2)]) (σr':=[.dead,.dead,.dead]) (res':=(Q4g x3)) [0,1,2] rfl Q56 (Qfr N p0 p1 p2 _ hf2) rfl (Qbd (rnc (.plain _ nll) (rnc (Qa9 rn0 (rnc (Qax rfl) (rnc (Qax rfl) rn0))) rn0))) (slc (Qao (rnc (pld Qak) (rnc (pld Qaa) rn0))) (slc (Qao (rnc (Q7u rfl) rn0)) (slc Qpe Qaq))) (slc .dead (slc .dead (slc .dead Qaq))) (pld Qbo) rfl rfl rfl,tv⟩ ?_
  refine wmr (mto (n:=5) (l':=[(2,(Q4g x3))]) (own':=[.dead,.dead,.dead]) [(2,(Q4g x3))] [0,1,2] [.dead,.dead,.dead] hφ0 (pc (rnd Qbo) pn) (qc .dead (qc .dead (qc .dead qn))))<|Qaj ?_
  obtain rfl:=osi h
  exact⟨_,Mor.rfl,Qca (vs:=[(Q4g x3)]) ⟨rot,tv⟩ rfl (NLt.of0 (nld Qbo _)) (by kernel_rfl) (Qai .dead (Qai .dead (Qai .dead Qbe)))⟩
def Qok (N:Nat) (p0:GNet):Option ((List Qby)×Int):=
  (Qdo N p0).bind fun x2=>
  bif (!x2) then
   some ([],1)
  else
   (Qh6 N p0).bind fun x5=>
   (Qei N p0.Table p0.Elements x5).bind fun x7=>
   some (x7,0)
def Zct (p0:GNet):AV:=.agg [(.dat 5 (p0.Table.map Qau)),(.dat 7 (p0.Elements.map Qad))]
def Za8:AV:=.fn (.func 110) [] [(.ref 1 2 (0) 0),(.ref 2 1 (0) 0)]
def Za9 (p0:GNet):Slot:=.own 2 [[(.dat 5 (p0.Table.map Qau)),(.dat 7 (p0.Elements.map Qad))]]
theorem Qsn (N:Nat) (p0:GNet) (r:((List Qby)×Int)) (h:Qok N p0=some r):Spec prog 47 [(.agg (Qg6 p0))] [] (.tup [(.dat 2 (r.1.map Qbc)),(I r.2)]) []:=by
  refine Qam func47 rfl 0 (nle rfl) (fun X φ0 w0 hφ0 hd0=>?_)
  unfold Qok at h
  refine wxz<|wsq ?_
  obtain⟨x2,hf1,h⟩:=bno h
  refine wx tbk [(1,rp _ _)] ⟨apv Qop (Qdt N p0 _ hf1) (nlc (NLt.agg _ (nlc (nld Qak _) (nlc (nld Qaa _) nl0))) nl0) nll,tv⟩ ?_
  refine bfe h (fun hc3 h=>?_) fun hc3 h=>?_
  ·refine wft hc3<|wxz<|Qaj<|Qap ?_
   obtain rfl:=osi h
   exact fend ⟨[(.dat 2 (([]:List Qby).map Qbc)),I 1],⟨Qbz (v:=nilS) rot Less.nil,rot,tv⟩,rfl⟩ (NLt.tup _ (nlc (nld Qbo _) (nlc nll nl0)))
  ·refine wfn hc3<|Qat<|thn ?_
   obtain⟨x5,hf4,h⟩:=bno h
   obtain⟨x7,hf6,h⟩:=bno h
   refine wx tbk [(1,⟨_,_,_,_,false⟩),(2,⟨_,_,_,_,false⟩)] ⟨Qar (first:=[]) (cap:=[]) (vs:=[(Zct p0)]) (σr:=[]) (σr':=[(Za9 p0),(.own 1 [[(.mp 3)]]),(Qc3 x5)]) (res':=Za8) [1,2,3] rfl Q9t (Qmr N p0 _ hf4) rfl (Qbd (rnc (.plain _ (NLt.agg _ (nlc (nld Qak _) (nlc (nld Qaa _) nl0)))) rn0)) Qaq (slc (Qao (rnc (pld Qak) (rnc (pld Qaa) rn0))) (slc (Qao (rnc (Q7v rfl) rn0)) (slc Qpe Qaq))) (Qa9 rn0 (rnc (Qa5 rfl) (rnc (Qa5 rfl) rn0))) rfl rfl rfl,Qar (first:=[]) (cap:=[]) (vs:=[Za8]) (σr:=[(Za9 p0),(.own 1 [[(.mp 3)]]),(Qc3 x5)]) (σr':=[.dead,.dead,.dead]) (res':=(.dat 2 (x7.map Qbc))) [1,2,3] rfl Q9r (Qhs N p0.Table p0.Elements x5 _ hf6) rfl (Qbd (rnc (Qa9 rn0 (rnc (Qax rfl) (rnc (Qax rfl) rn0))) rn0)) (slc (Qao (rnc (pld Qak) (rnc (pld Qaa) rn0))) (slc (Qao (rnc (Q7u rfl) rn0)) (slc Qpe Qaq))) (slc .dead (slc .dead (slc .dead Qaq))) (pld Qbo) rfl rfl rfl,tv⟩<|Qaj ?_
   obtain rfl:=osi h
   exact fend ⟨[(.dat 2 (x7.map Qbc)),I 0],⟨rot,rot,tv⟩,rfl⟩ (NLt.tup _ (nlc (nld Qbo _) (nlc nll nl0)))
end
section
set_option maxRecDepth 100000
set_option maxHeartbeats 4000000
open Go.RowKit
def Qjq (N:Nat) (p0:Int):Option Bool:=
  (Qcz N p0 0 1000000000000).bind fun x2=>
  some x2
theorem Qoi (N:Nat) (p0:Int) (r:Bool) (h:Qjq N p0=some r):Spec prog 109 [(I p0)] [] (B r) []:=by
  refine Qam func109 rfl 0 (nle rfl) (fun X φ0 w0 hφ0 hd0=>?_)
  unfold Qjq at h
  refine wxz ?_
  obtain⟨x2,hf1,h⟩:=bno h
  exact wx tbk [(1,rp _ _)] ⟨apv Qh8 (Qck N p0 0 1000000000000 _ hf1) (nlcc (nlc nll nl0)) nll,tv⟩<|Qaj<|frb h
def Qhc (N:Nat) (p0:Int):Option Bool:=
  (Qjq N p0).bind fun x3=>
  some (!x3)
def Q4d:Slot:=.own 1 [[(.fn (.func 109) [] [])]]
theorem Ql3 (N:Nat) (p0:Int) (r:Bool) (h:Qhc N p0=some r):Spec prog 128 [(I p0),(.ref 0 1 (0) 0)] [Q4d] (B r) [Q4d]:=by
  refine Qam func128 rfl 1 (nle rfl) (fun X φ0 w0 hφ0 hd0=>?_)
  unfold Qhc at h
  refine Qbj<|wxz ?_
  obtain⟨x3,hf2,h⟩:=bno h
  refine wx tbk [(2,rp _ _)] ⟨apv Q58 (Qoi N p0 _ hf2) (nlc nll nl0) nll,tv⟩ ?_
  refine wmr (mto (n:=8) (l':=[(3,(B ((!x3))))]) (own':=[Q4d]) [(3,(B ((!x3))))] [0] [Q4d] hφ0 (pw pn) (qb (lc (.rn (Qa9 rn0 rn0)) ln) qn))<|Qaj ?_
  obtain rfl:=osi h
  exact⟨_,Mor.rfl,Qca (vs:=[(B ((!x3)))]) ⟨rot,tv⟩ rfl (NLt.of0 nll) (by kernel_rfl) (Qai (Qav (nlc (NLt.of0 (NLt.fn _ _ _ nl0 nl0)) nl0)) Qbe)⟩
def Qb3 (N:Nat) (p0:List Int) (k2:Unit→Option Int):Nat→Int→Option Int
  |0,_=>none
  |n5+1,y3=>
    bif (decide (y3<(p0.length:Int))) then
     (getI p0 y3).bind fun x7=>
     (Qhc N x7).bind fun x12=>
     bif x12 then
      some y3
     else
      Qb3 N p0 k2 n5 (w64 (y3+1))
    else
     k2 ()
def Qed (N:Nat) (p0:List Int):Option Int:=
  Qdr (fun _=>
    some (-1)) fun k2:Unit→Option Int=>
  Qb3 N p0 k2 N 0
def Q0r:AV:=.fn (.func 128) [] [(.ref 0 1 (0) 0)]
def Qm5:Slot:=.own 1 [[(.fn (.func 109) [] [])]]
theorem Qhp (N:Nat) (p0:List Int) (r:Int) (h:Qed N p0=some r):Spec prog 141 [(.dat 1 (p0.map Qac)),Q0r] [Qm5] (I r) [Qm5]:=by
  refine Qam func141 rfl 1 (nle rfl) (fun X φ0 w0 hφ0 hd0=>?_)
  unfold Qed at h
  refine Qbj<|wxz ?_
  obtain⟨k2,hk_k2,h⟩:=jko h
  refine wjn (τ:=Unit) (fun t=>k2 t=some r) (fun _=>⟨mk 19 [],[Qm5]⟩) (fun t h=>?_) ?_
  ·subst hk_k2
   refine wxz<|wmr (mto (n:=19) (l':=[(4,(I ((-1))))]) (own':=[Qm5]) [(4,(I ((-1))))] [0] [Qm5] hφ0 (pw pn) (qb (lc (.rn (Qa9 rn0 rn0)) ln) qn))<|Qaj ?_
   obtain rfl:=osi h
   exact⟨_,Mor.rfl,Qca (vs:=[(I ((-1)))]) ⟨rot,tv⟩ rfl (NLt.of0 nll) (by kernel_rfl) (Qai (Qav (nlc (NLt.of0 (NLt.fn _ _ _ nl0 nl0)) nl0)) Qbe)⟩
  ·skip
   refine wx tbk [(1,rp _ _)] ⟨alq 1 Qac p0 underlying27,tv⟩<|Qas ?_
   refine wmr (mto (n:=19) (l':=[(0,(.dat 1 (p0.map Qac))),(1,Q0r),(7,(I ((p0.length:Int)))),(8,I 0)]) (own':=[Qm5]) [(0,(.dat 1 (p0.map Qac))),(1,Q0r),(7,(I ((p0.length:Int)))),(8,I 0)] [0] [Qm5] hφ0 (pc (rnd Qae) (pc (.rn (Qa9 rn0 (rnc (rqr rfl) rn0))) (pw (pw pn)))) (qb (lc (.rn (Qa9 rn0 rn0)) ln) qn)) ?_
   refine Qb9 (τ:=Int) (fun n t=>Qb3 N p0 k2 n t=some r) (fun y3=>⟨mk 19 [(0,(.dat 1 (p0.map Qac))),(1,Q0r),(7,(I ((p0.length:Int)))),(8,I y3)],[Qm5]⟩) (fun t h=>by rw[Qb3] at h;cases h) (fun n5 ih y3 h=>?_) N (0) h
   rw[Qb3] at h
   skip
   refine wxz<|wsq ?_
   refine bfe h (fun hc6 h=>?_) fun hc6 h=>?_
   ·refine wft hc6<|Qat<|thn<|wsq<|Qas<|wxz ?_
    obtain⟨x7,hg8,h⟩:=bno h
    obtain⟨hi9,hj10⟩:=gsm hg8
    obtain⟨x12,hf11,h⟩:=bno h
    refine wx tbk [(3,rp _ _),(5,⟨_,_,_,_,false⟩)] ⟨aiq underlying27 ti3 Qac hi9 hj10,Qar (first:=[]) (cap:=[.ref 0 1 0 0]) (vs:=[I x7]) (σr:=[Qm5]) (σr':=[Qm5]) (res':=(B x12)) [0] rfl Qx1 (Ql3 N x7 _ hf11) rfl (Qbd (rnc (.plain _ nll) (rnc (Qax rfl) rn0))) (slc (Qao (rnc (.plain _ (NLt.fn _ _ _ nl0 nl0)) rn0)) Qaq) (slc (Qao (rnc (.plain _ (NLt.fn _ _ _ nl0 nl0)) rn0)) Qaq) (.plain _ nll) rfl rfl rfl,tv⟩ ?_
    refine bfe h (fun hc13 h=>?_) fun hc13 h=>?_
    ·refine wft hc13<|wxz ?_
     refine wmr (mto (n:=19) (l':=[(4,I y3)]) (own':=[Qm5]) [(4,I y3)] [0] [Qm5] hφ0 (pw pn) (qb (lc (.rn (Qa9 rn0 rn0)) ln) qn))<|Qaj<|Qa1<|Qap<|Qap<|Qa1<|Qap ?_
     obtain rfl:=osi h
     exact⟨_,Mor.rfl,Qca (vs:=[I y3]) ⟨rot,tv⟩ rfl (NLt.of0 nll) (by kernel_rfl) (Qai (Qav (nlc (NLt.of0 (NLt.fn _ _ _ nl0 nl0)) nl0)) Qbe)⟩
    ·exact wfn hc13<|Qat<|bln<|thn<|wxz1<|thn<|arm (mto (n:=19) [(0,(.dat 1 (p0.map Qac))),(1,Q0r),(7,(I ((p0.length:Int)))),(8,(I (w64 (y3+1))))] [0] [Qm5] hφ0 (pc (rnd Qae) (pc (.rn (Qa9 rn0 (rnc (rqr rfl) rn0))) (pw (pw pn)))) (qb (lc (.rn (Qa9 rn0 rn0)) ln) qn)) (ih (w64 (y3+1)) h)
   ·exact wfn hc6<|Qbm<|Qa4<|Qa4<|Qbl rfl<|thn<|⟨(),h,(mto (n:=19) [] [0] [Qm5] hφ0 pn (qb (lc (.rn (Qa9 rn0 rn0)) ln) qn))⟩
def Qdi (N:Nat) (p0:List Int):Option Bool:=
  (Qed N p0).bind fun x3=>
  some (decide (x3≥0))
def Za3:AV:=.fn (.func 128) [] [(.ref 0 1 (0) 0)]
def Qyt:Slot:=.own 1 [[(.fn (.func 109) [] [])]]
theorem Qgv (N:Nat) (p0:List Int) (r:Bool) (h:Qdi N p0=some r):Spec prog 126 [(.dat 1 (p0.map Qac)),Za3] [Qyt] (B r) [Qyt]:=by
  refine Qam func126 rfl 1 (nle rfl) (fun X φ0 w0 hφ0 hd0=>?_)
  unfold Qdi at h
  refine Qbj<|wxz ?_
  obtain⟨x3,hf2,h⟩:=bno h
  refine wx tbk [(2,⟨_,_,_,_,false⟩)] ⟨Qar (first:=[]) (cap:=[]) (vs:=[(.dat 1 (p0.map Qac)),Za3]) (σr:=[Qyt]) (σr':=[Qyt]) (res':=(I x3)) [0] rfl Qnw (Qhp N p0 _ hf2) rfl (Qbd (rnc (pld Qae) (rnc (Qa9 rn0 (rnc (Qax rfl) rn0)) rn0))) (slc (Qao (rnc (.plain _ (NLt.fn _ _ _ nl0 nl0)) rn0)) Qaq) (slc (Qao (rnc (.plain _ (NLt.fn _ _ _ nl0 nl0)) rn0)) Qaq) (.plain _ nll) rfl rfl rfl,tv⟩ ?_
  refine wmr (mto (n:=9) (l':=[(4,(B ((decide (x3≥0)))))]) (own':=[Qyt]) [(4,(B ((decide (x3≥0)))))] [0] [Qyt] hφ0 (pw pn) (qb (lc (.rn (Qa9 rn0 rn0)) ln) qn))<|Qaj ?_
  obtain rfl:=osi h
  exact⟨_,Mor.rfl,Qca (vs:=[(B ((decide (x3≥0))))]) ⟨rot,tv⟩ rfl (NLt.of0 nll) (by kernel_rfl) (Qai (Qav (nlc (NLt.of0 (NLt.fn _ _ _ nl0 nl0)) nl0)) Qbe)⟩
def Qis (N:Nat) (p0:List Int):Option Bool:=
  (Qdi N p0).bind fun x2=>
  some (!x2)
def Za4:AV:=.fn (.func 128) [] [(.ref 0 1 (0) 0)]
def Za5:Slot:=.own 1 [[(.fn (.func 109) [] [])]]
theorem Qni (N:Nat) (p0:List Int) (r:Bool) (h:Qis N p0=some r):Spec prog 108 [(.dat 1 (p0.map Qac)),(.fn (.func 109) [] [])] [] (B r) []:=by
  refine Qam func108 rfl 0 (nle rfl) (fun X φ0 w0 hφ0 hd0=>?_)
  unfold Qis at h
  refine wxz ?_
  obtain⟨x2,hf1,h⟩:=bno h
  refine wx tbk [(1,rp [(.tmp 3,.ref 0 1 0 0)] Za4),(2,⟨_,_,_,_,false⟩)] ⟨Qdv (fs:=[]) (cs:=[.ref 0 1 0 0]) rfl rfl rfl rfl,Qar (first:=[]) (cap:=[]) (vs:=[(.dat 1 (p0.map Qac)),Za4]) (σr:=[Za5]) (σr':=[Za5]) (res':=(B x2)) [0] rfl Qnx (Qgv N p0 _ hf1) rfl (Qbd (rnc (pld Qae) (rnc (Qa9 rn0 (rnc (Qax rfl) rn0)) rn0))) (slc (Qao (rnc (.plain _ (NLt.fn _ _ _ nl0 nl0)) rn0)) Qaq) (slc (Qao (rnc (.plain _ (NLt.fn _ _ _ nl0 nl0)) rn0)) Qaq) (.plain _ nll) rfl rfl rfl,tv⟩<|Qaj ?_
  obtain rfl:=osi h
  exact fend ⟨[(B ((!x2)))],⟨rot,tv⟩,rfl⟩ nll
def Qjf (N:Nat) (p0:GNet) (p1:List Int):Option Int:=
  (Qdo N p0).bind fun x2=>
  bif (!x2) then
   some 1
  else
   bif ((p1.length:Int) != (p0.Elements.length:Int)) then
    some 1
   else
    (Qis N p1).bind fun x6=>
    bif (!x6) then
     some 1
    else
     some 0
def Zcs (p0:GNet):AV:=.dat 5 (p0.Table.map Qau)
def Za6 (p0:GNet):AV:=.dat 7 (p0.Elements.map Qad)
def Q8n (p0:GNet) (x2:Bool):List (Nat×Rec):=[(1,rp [fu 66,((.tmp 5),(.agg [(Zcs p0),(Za6 p0)]))] (B x2))]
def Q8m p0 x2 (p1:List Int):=hcat (Q8n p0 x2) [(3,rp [((.tmp 7),(B ((!x2))))] (B false)),(5,rp [((.tmp 8),(B false)),((.tmp 9),(.dat 1 (p1.map Qac)))] (I ((p1.length:Int)))),(8,rp [((.tmp 8),(B false)),((.tmp 12),(Za6 p0))] (I ((p0.Elements.length:Int))))]
theorem Qld (N:Nat) (p0:GNet) (p1:List Int) (r:Int) (h:Qjf N p0 p1=some r):Spec prog 73 [(.agg (Qg6 p0)),(.dat 1 (p1.map Qac))] [] (I r) []:=by
  refine Qam func73 rfl 0 (nle rfl) (fun X φ0 w0 hφ0 hd0=>?_)
  unfold Qjf at h
  refine wxz<|wsq ?_
  obtain⟨x2,hf1,h⟩:=bno h
  refine hpre (A:=(Q8n p0 x2)) ⟨apv Qop (Qdt N p0 _ hf1) (nlc (NLt.agg _ (nlc (nld Qak _) (nlc (nld Qaa _) nl0))) nl0) nll,tv⟩ fun q1_=>?_
  refine bfe h (fun hb3 h=>?_) fun hb3 h=>?_
  ·refine wx tbk (hcat (Q8n p0 x2) [(3,rp [(.tmp 7,(B ((!x2))))] (B true))]) (hap q1_ ⟨asb hb3 (amv rfl),tv⟩)<|wtr<|wxz<|Qaj<|Qap ?_
   obtain rfl:=osi h
   exact fend ⟨[I 1],⟨rot,tv⟩,rfl⟩ nll
  ·refine hpre (A:=(Q8m p0 x2 p1)) (hap q1_ ⟨asb hb3 (amv rfl),ag_ (alq 1 Qac p1 underlying27),ag_ (alq 7 Qad p0.Elements underlying40),tv⟩) fun q2_=>?_
   refine bfe h (fun hb4 h=>?_) fun hb4 h=>?_
   ·refine wx tbk (hcat (Q8m p0 x2 p1) [(11,rp [(.tmp 15,(B (((p1.length:Int) != (p0.Elements.length:Int)))))] (B true))]) (hap q2_ ⟨asb hb4 (amv rfl),tv⟩)<|wtr<|wxz<|Qaj<|Qap ?_
    obtain rfl:=osi h
    exact fend ⟨[I 1],⟨rot,tv⟩,rfl⟩ nll
   ·obtain⟨x6,hf5,h⟩:=bno h
    refine wx tbk (hcat (Q8m p0 x2 p1) [(11,rp [(.tmp 15,(B (((p1.length:Int) != (p0.Elements.length:Int)))))] (B false)),(13,rp [(.tmp 16,B false),fu 108,(.tmp 17,(.dat 1 (p1.map Qac))),fu 109] (B x6))]) (hap q2_ ⟨asb hb4 (amv rfl),ag_ (Qar (first:=[]) (cap:=[]) (vs:=[(.dat 1 (p1.map Qac)),(.fn (.func 109) [] [])]) (σr:=[]) (σr':=[]) (res':=(B x6)) [] rfl Qx3 (Qni N p1 _ hf5) rfl (Qbd (rnc (pld Qae) (rnc (.plain _ (NLt.fn _ _ _ nl0 nl0)) rn0))) Qaq Qaq (.plain _ nll) rfl rfl rfl),tv⟩) ?_
    refine bfe h (fun hc7 h=>?_) fun hc7 h=>?_
    ·refine wft hc7<|wxz<|Qaj<|Qap ?_
     obtain rfl:=osi h
     exact fend ⟨[I 1],⟨rot,tv⟩,rfl⟩ nll
    ·refine wfn hc7<|Qat<|thn<|wxz<|Qaj ?_
     obtain rfl:=osi h
     exact fend ⟨[I 0],⟨rot,tv⟩,rfl⟩ nll
def Qdu (N:Nat) (p0:GNet) (p1:Int) (k2:(List Int)→Option (List Int)):Nat→(List Int)→Int→Option (List Int)
  |0,_,_=>none
  |n7+1,y3,y4=>
    bif (decide (y4<(p0.Elements.length:Int))) then
     (getI p0.Elements y4).bind fun x9=>
     bif (x9.Kind==p1) then
      chk (decide ((y3.length+([y4]).length)*8≤140737488355328))<|
      Qdu N p0 p1 k2 n7 (y3++([y4])) (w64 (y4+1))
     else
      Qdu N p0 p1 k2 n7 y3 (w64 (y4+1))
    else
     k2 (y3)
def Qfj (N:Nat) (p0:GNet) (p1:Int):Option (List Int):=
  Qdr (fun y1=>
    some y1) fun k2:(List Int)→Option (List Int)=>
  Qdu N p0 p1 k2 N ([]) 0
def Q0p (p0:GNet):AV:=.dat 7 (p0.Elements.map Qad)
def Qw1 (y3:List Int):AV:=.acc 0 3 1 (y3.map Qac)
theorem Qel (N:Nat) (p0:GNet) (p1:Int) (r:List Int) (h:Qfj N p0 p1=some r):Spec prog 67 [(.agg (Qg6 p0)),(K .u8 p1)] [] (.dat 1 (r.map Qac)) []:=by
  refine Qam func67 rfl 0 (nle rfl) (fun X φ0 w0 hφ0 hd0=>?_)
  unfold Qfj at h
  refine wxz ?_
  obtain⟨k2,hk_k2,h⟩:=jko h
  refine wjn (τ:=(List Int)) (fun t=>k2 t=some r) (fun y1=>⟨mk 25 [(4,(.acc 0 3 1 (y1.map Qac)))],[.tok]⟩) (fun y1 h=>?_) ?_
  ·subst hk_k2
   refine wxz<|Qaj ?_
   obtain rfl:=osi h
   exact fend ⟨[(.dat 1 (y1.map Qac))],⟨Qbz (v:=(.acc 0 3 1 (y1.map Qac))) rot Less.acc,tv⟩,rfl⟩ (nld Qae _)
  ·skip
   refine wx tbk [(2,rp _ _)] ⟨alq 7 Qad p0.Elements underlying40,tv⟩<|Qas ?_
   refine wmr (Mor.trans (Qvv 1 3 1 4 (by kernel_rfl) (by kernel_rfl)) (mto (n:=25) (l':=[(1,(K .u8 p1)),(4,(.acc 0 3 1 ((([]):List Int).map Qac))),(8,(Q0p p0)),(9,(I ((p0.Elements.length:Int)))),(10,I 0)]) (own':=[.tok]) [(1,(K .u8 p1)),(4,(.acc 1 3 1 (([]:List Int).map Qac))),(8,(Q0p p0)),(9,(I ((p0.Elements.length:Int)))),(10,I 0)] [1] [.tok] hφ0 (pw (pc (.rn (Qf8 rfl (Qd3 Qae _))) (pc (rnd Qaa) (pw (pw pn))))) (qc .tok qn))) ?_
   refine Qb9 (τ:=(List Int)×Int) (fun n t=>Qdu N p0 p1 k2 n t.1 t.2=some r) (fun ⟨y3,y4⟩=>⟨mk 25 [(1,(K .u8 p1)),(4,(Qw1 y3)),(8,(Q0p p0)),(9,(I ((p0.Elements.length:Int)))),(10,I y4)],[.tok]⟩) (fun t h=>by rw[Qdu] at h;cases h) (fun n7 ih t h=>?_) N ([],0) h
   obtain⟨y3,y4⟩:=t
   rw[Qdu] at h
   skip
   refine wxz<|wsq ?_
   refine bfe h (fun hc8 h=>?_) fun hc8 h=>?_
   ·refine wft hc8<|Qat<|thn<|wsq<|Qas ?_
    obtain⟨x9,hg10,h⟩:=bno h
    obtain⟨hi11,hj12⟩:=gsm hg10
    refine wx tbk [(1,rp _ _)] ⟨aiq underlying40 Qfz Qad hi11 hj12,tv⟩<|wxz ?_
    refine bfe h (fun hc13 h=>?_) fun hc13 h=>?_
    ·refine wft hc13 ?_
     obtain⟨ha14,h⟩:=cko h
     refine wx1 tbk [(2,rp [(.tmp 20,I y4)] (.dat 1 (([y4]:List Int).map Qac))),(3,⟨[(.tmp 19,(Qw1 y3)),(.tmp 21,(.dat 1 (([y4]:List Int).map Qac)))],[(0,.tok),(2,.unused)],(.acc 2 3 1 ((y3++([y4]):List Int).map Qac)),[(0,.dead),(2,.tok)],false⟩)] ⟨Qbi (vs:=[I y4]) rfl underlying27 ti3 tz3 rfl (by decide) rfl (by decide) (by rfl) (by rfl) (by rfl) rfl,Qft rfl underlying27 te3 (Base.acc _ _) rfl rfl (by rfl) (Qi4 Qac ha14) (Qi3 Qac ha14 (by decide)) (Qi2 Qac) rfl rfl,tv⟩<|bln<|thn<|wxz1<|thn ?_
     exact arm (mto (n:=25) [(1,(K .u8 p1)),(4,(.acc 2 3 1 ((y3++([y4]):List Int).map Qac))),(8,(Q0p p0)),(9,(I ((p0.Elements.length:Int)))),(10,(I (w64 (y4+1))))] [2] [.tok] hφ0 (pw (pc (.rn (Qf8 rfl (Qd3 Qae _))) (pc (rnd Qaa) (pw (pw pn))))) (qc .tok qn)) (ih (y3++([y4]),w64 (y4+1)) h)
    ·exact wfn hc13<|Qat<|bln<|thn<|wxz1<|thn<|arm (mto (n:=25) [(1,(K .u8 p1)),(4,(Qw1 y3)),(8,(Q0p p0)),(9,(I ((p0.Elements.length:Int)))),(10,(I (w64 (y4+1))))] [0] [.tok] hφ0 (pw (pc (.rn (Qf8 rfl (Qd3 Qae _))) (pc (rnd Qaa) (pw (pw pn))))) (qc .tok qn)) (ih (y3,w64 (y4+1)) h)
   ·exact wfn hc8<|Qbm<|Qa4<|Qa4<|Qbl rfl<|thn<|⟨(y3),h,(mto (n:=25) [(4,(Qw1 y3))] [0] [.tok] hφ0 (pc (.rn (Qf8 rfl (Qd3 Qae _))) pn) (qc .tok qn))⟩
def Qd9 (N:Nat) (p0:Qab):Option Bool:=
  (Qcw N p0.Mass 0 1000000).bind fun x2=>
  bif x2 then
   (Qcw N p0.Heat 0 (w64 (4000*p0.Mass))).bind fun x5=>
   bif x5 then
    (Qcw N p0.Silica 0 (w64 (10000*p0.Mass))).bind fun x8=>
    bif x8 then
     (Qcw N p0.Gas 0 1000000000).bind fun x11=>
     some x11
    else
     some false
   else
    some false
  else
   some false
def Q8k (p0:Qab) (x2:Bool):List (Nat×Rec):=[(2,rp [fu 137,((.tmp 4),(I p0.Mass)),ci 0,ci 1000000] (B x2))]
def Q8j p0 x2 (x5:Bool):=hcat (Q8k p0 x2) [(3,rp [((.tmp 5),(B x2))] (B true)),(9,rp [((.tmp 6),(B true)),fu 137,((.tmp 8),(I p0.Heat)),ci 0,((.tmp 11),(I (w64 (4000*p0.Mass))))] (B x5))]
def Q8i p0 x2 x5 (x8:Bool):=hcat (Q8j p0 x2 x5) [(11,rp [((.tmp 13),(B x5))] (B true)),(17,rp [((.tmp 14),(B true)),fu 137,((.tmp 16),(I p0.Silica)),ci 0,((.tmp 19),(I (w64 (10000*p0.Mass))))] (B x8))]
theorem Qfv (N:Nat) (p0:Qab) (r:Bool) (h:Qd9 N p0=some r):Spec prog 131 [(.agg (Qag p0))] [] (B r) []:=by
  refine Qam func131 rfl 0 (nle rfl) (fun X φ0 w0 hφ0 hd0=>?_)
  unfold Qd9 at h
  refine wxz ?_
  obtain⟨x2,hf1,h⟩:=bno h
  refine hpre (A:=(Q8k p0 x2)) ⟨apv Qg5 (Qci N p0.Mass 0 1000000 _ hf1) (nlcc (nlc nll nl0)) nll,tv⟩ fun q1_=>?_
  refine bfe h (fun hb3 h=>?_) fun hb3 h=>?_
  ·obtain⟨x5,hf4,h⟩:=bno h
   refine hpre (A:=(Q8j p0 x2 x5)) (hap q1_ ⟨asb hb3 (amv rfl),ag_ (apv Qg5 (Qci N p0.Heat 0 (w64 (4000*p0.Mass)) _ hf4) (nlcc (nlc nll nl0)) nll),tv⟩) fun q2_=>?_
   refine bfe h (fun hb6 h=>?_) fun hb6 h=>?_
   ·obtain⟨x8,hf7,h⟩:=bno h
    refine hpre (A:=(Q8i p0 x2 x5 x8)) (hap q2_ ⟨asb hb6 (amv rfl),ag_ (apv Qg5 (Qci N p0.Silica 0 (w64 (10000*p0.Mass)) _ hf7) (nlcc (nlc nll nl0)) nll),tv⟩) fun q3_=>?_
    refine bfe h (fun hb9 h=>?_) fun hb9 h=>?_
    ·obtain⟨x11,hf10,h⟩:=bno h
     exact wx tbk (hcat (Q8i p0 x2 x5 x8) [(19,rp [(.tmp 21,B x8)] (B true)),(22,rp [(.tmp 22,B true),fu 137,(.tmp 24,I p0.Gas),ci 0,ci 1000000000] (B x11))]) (hap q3_ ⟨asb hb9 (amv rfl),ag_ (apv Qg5 (Qci N p0.Gas 0 1000000000 _ hf10) (nlcc (nlc nll nl0)) nll),tv⟩)<|Qaj<|frb h
    ·exact wx tbk (hcat (Q8i p0 x2 x5 x8) [(19,rp [(.tmp 21,B x8)] (B false))]) (hap q3_ ⟨asb hb9 (amv rfl),tv⟩)<|Qaj<|frb h
   ·exact wx tbk (hcat (Q8j p0 x2 x5) [(11,rp [(.tmp 13,B x5)] (B false))]) (hap q2_ ⟨asb hb6 (amv rfl),tv⟩)<|Qaj<|frb h
  ·exact wx tbk (hcat (Q8k p0 x2) [(3,rp [(.tmp 5,B x2)] (B false))]) (hap q1_ ⟨asb hb3 (amv rfl),tv⟩)<|Qaj<|frb h
def Qgs (N:Nat) (p0:Qab):Option Int:=
  (Qd9 N p0).bind fun x2=>
  bif (!x2) then
   some 1
  else
   some 0
theorem Qk8 (N:Nat) (p0:Qab) (r:Int) (h:Qgs N p0=some r):Spec prog 114 [(.agg (Qag p0))] [] (I r) []:=by
  refine Qam func114 rfl 0 (nle rfl) (fun X φ0 w0 hφ0 hd0=>?_)
  unfold Qgs at h
  refine wxz<|wsq ?_
  obtain⟨x2,hf1,h⟩:=bno h
  refine wx tbk [(1,rp _ _)] ⟨apv Qsz (Qfv N p0 _ hf1) (nlc (NLt.agg _ (nlcc (nlcc nl0))) nl0) nll,tv⟩ ?_
  refine bfe h (fun hc3 h=>?_) fun hc3 h=>?_
  ·refine wft hc3<|wxz<|Qaj<|Qap ?_
   obtain rfl:=osi h
   exact fend ⟨[I 1],⟨rot,tv⟩,rfl⟩ nll
  ·refine wfn hc3<|Qat<|thn<|wxz<|Qaj ?_
   obtain rfl:=osi h
   exact fend ⟨[I 0],⟨rot,tv⟩,rfl⟩ nll
def Qiv (N:Nat) (p0:Qab):Option Bool:=
  (Qgs N p0).bind fun x2=>
  some (x2==0)
theorem Qnm (N:Nat) (p0:Qab) (r:Bool) (h:Qiv N p0=some r):Spec prog 113 [(.agg (Qag p0))] [] (B r) []:=by
  refine Qam func113 rfl 0 (nle rfl) (fun X φ0 w0 hφ0 hd0=>?_)
  unfold Qiv at h
  refine wxz ?_
  obtain⟨x2,hf1,h⟩:=bno h
  refine wx tbk [(1,rp _ _)] ⟨apv Q53 (Qk8 N p0 _ hf1) (nlc (NLt.agg _ (nlcc (nlcc nl0))) nl0) nll,tv⟩<|Qaj ?_
  obtain rfl:=osi h
  exact fend ⟨[(B ((x2==0)))],⟨rot,tv⟩,rfl⟩ nll
def Qep (N:Nat) (p0:Qab):Option Bool:=
  (Qiv N p0).bind fun x3=>
  some (!x3)
def Zco (p0:Qab):AV:=.agg [(I p0.Mass),(I p0.Heat),(I p0.Silica),(I p0.Gas)]
def Q4c:Slot:=.own 1 [[(.fn (.func 113) [] [])]]
theorem Qh3 (N:Nat) (p0:Qab) (r:Bool) (h:Qep N p0=some r):Spec prog 130 [(Zco p0),(.ref 0 1 (0) 0)] [Q4c] (B r) [Q4c]:=by
  refine Qam func130 rfl 1 (nle rfl) (fun X φ0 w0 hφ0 hd0=>?_)
  unfold Qep at h
  refine Qbj<|wxz ?_
  obtain⟨x3,hf2,h⟩:=bno h
  refine wx tbk [(2,rp _ _)] ⟨apv Q54 (Qnm N p0 _ hf2) (nlc (NLt.agg _ (nlcc (nlcc nl0))) nl0) nll,tv⟩ ?_
  refine wmr (mto (n:=8) (l':=[(3,(B ((!x3))))]) (own':=[Q4c]) [(3,(B ((!x3))))] [0] [Q4c] hφ0 (pw pn) (qb (lc (.rn (Qa9 rn0 rn0)) ln) qn))<|Qaj ?_
  obtain rfl:=osi h
  exact⟨_,Mor.rfl,Qca (vs:=[(B ((!x3)))]) ⟨rot,tv⟩ rfl (NLt.of0 nll) (by kernel_rfl) (Qai (Qav (nlc (NLt.of0 (NLt.fn _ _ _ nl0 nl0)) nl0)) Qbe)⟩
def Qba (N:Nat) (p0:List Qab) (k2:Unit→Option Int):Nat→Int→Option Int
  |0,_=>none
  |n5+1,y3=>
    bif (decide (y3<(p0.length:Int))) then
     (getI p0 y3).bind fun x7=>
     (Qep N x7).bind fun x12=>
     bif x12 then
      some y3
     else
      Qba N p0 k2 n5 (w64 (y3+1))
    else
     k2 ()
def Qcb (N:Nat) (p0:List Qab):Option Int:=
  Qdr (fun _=>
    some (-1)) fun k2:Unit→Option Int=>
  Qba N p0 k2 N 0
def Q0o (p0:List Qab):AV:=.dat 4 (p0.map Qag)
def Q0n:AV:=.fn (.func 130) [] [(.ref 0 1 (0) 0)]
def Qm4:Slot:=.own 1 [[(.fn (.func 113) [] [])]]
def Zcp (x7:Qab):AV:=.agg [(I x7.Mass),(I x7.Heat),(I x7.Silica),(I x7.Gas)]
theorem Qeu (N:Nat) (p0:List Qab) (r:Int) (h:Qcb N p0=some r):Spec prog 142 [(Q0o p0),Q0n] [Qm4] (I r) [Qm4]:=by
  refine Qam func142 rfl 1 (nle rfl) (fun X φ0 w0 hφ0 hd0=>?_)
  unfold Qcb at h
  refine Qbj<|wxz ?_
  obtain⟨k2,hk_k2,h⟩:=jko h
  refine wjn (τ:=Unit) (fun t=>k2 t=some r) (fun _=>⟨mk 19 [],[Qm4]⟩) (fun t h=>?_) ?_
  ·subst hk_k2
   refine wxz<|wmr (mto (n:=19) (l':=[(4,(I ((-1))))]) (own':=[Qm4]) [(4,(I ((-1))))] [0] [Qm4] hφ0 (pw pn) (qb (lc (.rn (Qa9 rn0 rn0)) ln) qn))<|Qaj ?_
   obtain rfl:=osi h
   exact⟨_,Mor.rfl,Qca (vs:=[(I ((-1)))]) ⟨rot,tv⟩ rfl (NLt.of0 nll) (by kernel_rfl) (Qai (Qav (nlc (NLt.of0 (NLt.fn _ _ _ nl0 nl0)) nl0)) Qbe)⟩
  ·skip
   refine wx tbk [(1,rp _ _)] ⟨alq 4 Qag p0 underlying45,tv⟩<|Qas ?_
   refine wmr (mto (n:=19) (l':=[(0,(Q0o p0)),(1,Q0n),(7,(I ((p0.length:Int)))),(8,I 0)]) (own':=[Qm4]) [(0,(Q0o p0)),(1,Q0n),(7,(I ((p0.length:Int)))),(8,I 0)] [0] [Qm4] hφ0 (pc (rnd Qah) (pc (.rn (Qa9 rn0 (rnc (rqr rfl) rn0))) (pw (pw pn)))) (qb (lc (.rn (Qa9 rn0 rn0)) ln) qn)) ?_
   refine Qb9 (τ:=Int) (fun n t=>Qba N p0 k2 n t=some r) (fun y3=>⟨mk 19 [(0,(Q0o p0)),(1,Q0n),(7,(I ((p0.length:Int)))),(8,I y3)],[Qm4]⟩) (fun t h=>by rw[Qba] at h;cases h) (fun n5 ih y3 h=>?_) N (0) h
   rw[Qba] at h
   skip
   refine wxz<|wsq ?_
   refine bfe h (fun hc6 h=>?_) fun hc6 h=>?_
   ·refine wft hc6<|Qat<|thn<|wsq<|Qas<|wxz ?_
    obtain⟨x7,hg8,h⟩:=bno h
    obtain⟨hi9,hj10⟩:=gsm hg8
    obtain⟨x12,hf11,h⟩:=bno h
    refine wx tbk [(3,rp _ _),(5,⟨_,_,_,_,false⟩)] ⟨aiq underlying45 ti63 Qag hi9 hj10,Qar (first:=[]) (cap:=[.ref 0 1 0 0]) (vs:=[(Zcp x7)]) (σr:=[Qm4]) (σr':=[Qm4]) (res':=(B x12)) [0] rfl Q5s (Qh3 N x7 _ hf11) rfl (Qbd (rnc (.plain _ (NLt.agg _ (nlcc (nlcc nl0)))) (rnc (Qax rfl) rn0))) (slc (Qao (rnc (.plain _ (NLt.fn _ _ _ nl0 nl0)) rn0)) Qaq) (slc (Qao (rnc (.plain _ (NLt.fn _ _ _ nl0 nl0)) rn0)) Qaq) (.plain _ nll) rfl rfl rfl,tv⟩ ?_
    refine bfe h (fun hc13 h=>?_) fun hc13 h=>?_
    ·refine wft hc13<|wxz ?_
     refine wmr (mto (n:=19) (l':=[(4,I y3)]) (own':=[Qm4]) [(4,I y3)] [0] [Qm4] hφ0 (pw pn) (qb (lc (.rn (Qa9 rn0 rn0)) ln) qn))<|Qaj<|Qa1<|Qap<|Qap<|Qa1<|Qap ?_
     obtain rfl:=osi h
     exact⟨_,Mor.rfl,Qca (vs:=[I y3]) ⟨rot,tv⟩ rfl (NLt.of0 nll) (by kernel_rfl) (Qai (Qav (nlc (NLt.of0 (NLt.fn _ _ _ nl0 nl0)) nl0)) Qbe)⟩
    ·exact wfn hc13<|Qat<|bln<|thn<|wxz1<|thn<|arm (mto (n:=19) [(0,(Q0o p0)),(1,Q0n),(7,(I ((p0.length:Int)))),(8,(I (w64 (y3+1))))] [0] [Qm4] hφ0 (pc (rnd Qah) (pc (.rn (Qa9 rn0 (rnc (rqr rfl) rn0))) (pw (pw pn)))) (qb (lc (.rn (Qa9 rn0 rn0)) ln) qn)) (ih (w64 (y3+1)) h)
   ·exact wfn hc6<|Qbm<|Qa4<|Qa4<|Qbl rfl<|thn<|⟨(),h,(mto (n:=19) [] [0] [Qm4] hφ0 pn (qb (lc (.rn (Qa9 rn0 rn0)) ln) qn))⟩
def Qb6 (N:Nat) (p0:List Qab):Option Bool:=
  (Qcb N p0).bind fun x3=>
  some (decide (x3≥0))
def Za0:AV:=.fn (.func 130) [] [(.ref 0 1 (0) 0)]
def Qys:Slot:=.own 1 [[(.fn (.func 113) [] [])]]
theorem Qeg (N:Nat) (p0:List Qab) (r:Bool) (h:Qb6 N p0=some r):Spec prog 129 [(.dat 4 (p0.map Qag)),Za0] [Qys] (B r) [Qys]:=by
  refine Qam func129 rfl 1 (nle rfl) (fun X φ0 w0 hφ0 hd0=>?_)
  unfold Qb6 at h
  refine Qbj<|wxz ?_
  obtain⟨x3,hf2,h⟩:=bno h
  refine wx tbk [(2,⟨_,_,_,_,false⟩)] ⟨Qar (first:=[]) (cap:=[]) (vs:=[(.dat 4 (p0.map Qag)),Za0]) (σr:=[Qys]) (σr':=[Qys]) (res':=(I x3)) [0] rfl Q5l (Qeu N p0 _ hf2) rfl (Qbd (rnc (pld Qah) (rnc (Qa9 rn0 (rnc (Qax rfl) rn0)) rn0))) (slc (Qao (rnc (.plain _ (NLt.fn _ _ _ nl0 nl0)) rn0)) Qaq) (slc (Qao (rnc (.plain _ (NLt.fn _ _ _ nl0 nl0)) rn0)) Qaq) (.plain _ nll) rfl rfl rfl,tv⟩ ?_
  refine wmr (mto (n:=9) (l':=[(4,(B ((decide (x3≥0)))))]) (own':=[Qys]) [(4,(B ((decide (x3≥0)))))] [0] [Qys] hφ0 (pw pn) (qb (lc (.rn (Qa9 rn0 rn0)) ln) qn))<|Qaj ?_
  obtain rfl:=osi h
  exact⟨_,Mor.rfl,Qca (vs:=[(B ((decide (x3≥0))))]) ⟨rot,tv⟩ rfl (NLt.of0 nll) (by kernel_rfl) (Qai (Qav (nlc (NLt.of0 (NLt.fn _ _ _ nl0 nl0)) nl0)) Qbe)⟩
def Qfc (N:Nat) (p0:List Qab):Option Bool:=
  (Qb6 N p0).bind fun x2=>
  some (!x2)
def Za1:AV:=.fn (.func 130) [] [(.ref 0 1 (0) 0)]
def Za2:Slot:=.own 1 [[(.fn (.func 113) [] [])]]
theorem Qiq (N:Nat) (p0:List Qab) (r:Bool) (h:Qfc N p0=some r):Spec prog 112 [(.dat 4 (p0.map Qag)),(.fn (.func 113) [] [])] [] (B r) []:=by
  refine Qam func112 rfl 0 (nle rfl) (fun X φ0 w0 hφ0 hd0=>?_)
  unfold Qfc at h
  refine wxz ?_
  obtain⟨x2,hf1,h⟩:=bno h
  refine wx tbk [(1,rp [(.tmp 3,.ref 0 1 0 0)] Za1),(2,⟨_,_,_,_,false⟩)] ⟨Qdv (fs:=[]) (cs:=[.ref 0 1 0 0]) rfl rfl rfl rfl,Qar (first:=[]) (cap:=[]) (vs:=[(.dat 4 (p0.map Qag)),Za1]) (σr:=[Za2]) (σr':=[Za2]) (res':=(B x2)) [0] rfl Q5t (Qeg N p0 _ hf1) rfl (Qbd (rnc (pld Qah) (rnc (Qa9 rn0 (rnc (Qax rfl) rn0)) rn0))) (slc (Qao (rnc (.plain _ (NLt.fn _ _ _ nl0 nl0)) rn0)) Qaq) (slc (Qao (rnc (.plain _ (NLt.fn _ _ _ nl0 nl0)) rn0)) Qaq) (.plain _ nll) rfl rfl rfl,tv⟩<|Qaj ?_
  obtain rfl:=osi h
  exact fend ⟨[(B ((!x2)))],⟨rot,tv⟩,rfl⟩ nll
def Qfa (N:Nat) (p0:List Qab) (k5:Int×Int×Int×Int→Option Qab):Nat→Int→Int→Int→Int→Int→Option Qab
  |0,_,_,_,_,_=>none
  |n16+1,y6,y7,y8,y9,y10=>
    bif (decide (y6<(p0.length:Int))) then
     (getI p0 y6).bind fun x18=>
     Qfa N p0 k5 n16 (w64 (y6+1)) (w64 (y7+x18.Mass)) (w64 (y8+x18.Heat)) (w64 (y9+x18.Silica)) (w64 (y10+x18.Gas))
    else
     k5 (y7,y8,y9,y10)
def Qip (N:Nat) (p0:List Qab):Option Qab:=
  Qdr (fun ⟨y1,y2,y3,y4⟩=>
    some (⟨y1,y2,y3,y4⟩:Qab)) fun k5:Int×Int×Int×Int→Option Qab=>
  Qfa N p0 k5 N 0 0 0 0 0
def Q4b (p0:List Qab):AV:=.dat 4 (p0.map Qag)
def Zaz:Slot:=.own 4 [[(I (0)),(I (0)),(I (0)),(I (0))]]
theorem Qjp (N:Nat) (p0:List Qab) (r:Qab) (h:Qip N p0=some r):Spec prog 76 [(.dat 4 (p0.map Qag))] [] (.agg (Qag r)) []:=by
  refine Qam func76 rfl 0 (nle rfl) (fun X φ0 w0 hφ0 hd0=>?_)
  unfold Qip at h
  refine wxz ?_
  obtain⟨k5,hk_k5,h⟩:=jko h
  refine wjn (τ:=Int×Int×Int×Int) (fun t=>k5 t=some r) (fun ⟨y1,y2,y3,y4⟩=>⟨mk 34 [(2,.ref 0 4 0 0)],[(.own 4 [[I y1,I y2,I y3,I y4]])]⟩) (fun t h=>?_) ?_
  ·subst hk_k5
   obtain⟨y1,y2,y3,y4⟩:=t
   refine wxz<|Qaj ?_
   obtain rfl:=osi h
   exact fend ⟨[(.agg [I y1,I y2,I y3,I y4])],⟨Qbk (n:=0) (m:=4) (j:=0) (i:=0) (xs:=[[I y1,I y2,I y3,I y4]]) (by kernel_rfl) (by kernel_rfl) ti63 (by decide) rfl (nle rfl) rfl,tv⟩,rfl⟩ (NLt.agg _ (nlcc (nlcc nl0)))
  ·skip
   refine wx tbk [(1,rp _ _)] ⟨alq 4 Qag p0 underlying45,tv⟩<|Qas ?_
   refine wmr (mto (n:=34) (l':=[(2,.ref 0 4 0 0),(5,(Q4b p0)),(6,(I ((p0.length:Int)))),(7,I 0)]) (own':=[Zaz]) [(2,.ref 0 4 0 0),(5,(Q4b p0)),(6,(I ((p0.length:Int)))),(7,I 0)] [0] [Zaz] hφ0 (prr (pc (rnd Qah) (pw (pw pn)))) (qb (lcc (lcc ln)) qn)) ?_
   refine Qb9 (τ:=Int×Int×Int×Int×Int) (fun n t=>Qfa N p0 k5 n t.1 t.2.1 t.2.2.1 t.2.2.2.1 t.2.2.2.2=some r) (fun ⟨y6,y7,y8,y9,y10⟩=>⟨mk 34 [(2,.ref 0 4 0 0),(5,(Q4b p0)),(6,(I ((p0.length:Int)))),(7,I y6)],[(.own 4 [[I y7,I y8,I y9,I y10]])]⟩) (fun t h=>by rw[Qfa] at h;cases h) (fun n16 ih t h=>?_) N (0,0,0,0,0) h
   obtain⟨y6,y7,y8,y9,y10⟩:=t
   rw[Qfa] at h
   skip
   refine wxz<|wsq ?_
   refine bfe h (fun hc17 h=>?_) fun hc17 h=>?_
   ·refine wft hc17<|Qat<|thn<|wsq<|Qas ?_
    obtain⟨x18,hg19,h⟩:=bno h
    obtain⟨hi20,hj21⟩:=gsm hg19
    refine wx tbk [(0,rp _ _)] ⟨aiq underlying45 ti63 Qag hi20 hj21,tv⟩ ?_
    exact wx1 tbk [(20,rp _ _)] ⟨Qay (vs:=[(I (w64 (y7+x18.Mass))),(I (w64 (y8+x18.Heat))),(I (w64 (y9+x18.Silica))),(I (w64 (y10+x18.Gas)))]) rfl ts63 tz63 rfl (by rfl) rfl,tv⟩<|bln<|thn<|wxz1<|thn<|arm (mto (n:=34) [(2,.ref 0 4 0 0),(5,(Q4b p0)),(6,(I ((p0.length:Int)))),(7,(I (w64 (y6+1))))] [0] [(.own 4 [[(I (w64 (y7+x18.Mass))),(I (w64 (y8+x18.Heat))),(I (w64 (y9+x18.Silica))),(I (w64 (y10+x18.Gas)))]])] hφ0 (prr (pc (rnd Qah) (pw (pw pn)))) (qb (lcc (lcc ln)) qn)) (ih (w64 (y6+1),w64 (y7+x18.Mass),w64 (y8+x18.Heat),w64 (y9+x18.Silica),w64 (y10+x18.Gas)) h)
   ·exact wfn hc17<|Qbm<|Qa4<|Qa4<|Qbl rfl<|thn<|⟨(y7,y8,y9,y10),h,(mto (n:=34) [(2,.ref 0 4 0 0)] [0] [(.own 4 [[I y7,I y8,I y9,I y10]])] hφ0 (prr pn) (qb (lcc (lcc ln)) qn))⟩
def Qic (N:Nat) (p0:GNet) (p1:List Qab):Option Int:=
  Qdr (fun _=>
    (Qip N p1).bind fun x3=>
    bif (decide (x3.Mass>1000000)) then
     some 3
    else
     bif (decide (x3.Gas>1000000000)) then
      some 3
     else
      some 0) fun k1:Unit→Option Int=>
  (Qfj N p0 1).bind fun x7=>
  bif ((p1.length:Int) != (x7.length:Int)) then
   some 1
  else
   (Qfc N p1).bind fun x10=>
   bif (!x10) then
    some 1
   else
    k1 ()
def Q0q (p1:List Qab):AV:=.dat 4 (p1.map Qag)
def Zcr (p0:GNet):AV:=.dat 5 (p0.Table.map Qau)
def Zcq (p0:GNet):AV:=.dat 7 (p0.Elements.map Qad)
def Q8l (p1:List Qab) (p0:GNet) (x7:List Int):List (Nat×Rec):=[(1,rp [((.tmp 6),(Q0q p1))] (I ((p1.length:Int)))),(3,rp [fu 67,((.tmp 8),(.agg [(Zcr p0),(Zcq p0)])),((.const (.int .u8 1)),(K .u8 (1)))] (.dat 1 (x7.map Qac))),(4,rp [((.tmp 9),(.dat 1 (x7.map Qac)))] (I ((x7.length:Int))))]
theorem Qkv (N:Nat) (p0:GNet) (p1:List Qab) (r:Int) (h:Qic N p0 p1=some r):Spec prog 94 [(.agg (Qg6 p0)),(.dat 4 (p1.map Qag))] [] (I r) []:=by
  refine Qam func94 rfl 0 (nle rfl) (fun X φ0 w0 hφ0 hd0=>?_)
  unfold Qic at h
  refine wxz ?_
  obtain⟨k1,hk_k1,h⟩:=jko h
  refine wjn (τ:=Unit) (fun t=>k1 t=some r) (fun _=>⟨mk 27 [(1,(Q0q p1))],[]⟩) (fun t h=>?_) ?_
  ·subst hk_k1
   refine wsq ?_
   obtain⟨x3,hf2,h⟩:=bno h
   refine wx tbk [(1,rp _ _)] ⟨apv Qv1 (Qjp N p1 _ hf2) (nlc (nld Qah _) nl0) (NLt.agg _ (nlcc (nlcc nl0))),tv⟩ ?_
   refine bfe h (fun hb4 h=>?_) fun hb4 h=>?_
   ·refine wx tbk [(3,rp [(.tmp 21,(B ((decide (x3.Mass>1000000)))))] (B true))] ⟨asb hb4 (amv rfl),tv⟩<|wtr<|wxz<|Qaj<|Qap ?_
    obtain rfl:=osi h
    exact fend ⟨[I 3],⟨rot,tv⟩,rfl⟩ nll
   ·refine wx tbk [(3,rp [(.tmp 21,(B ((decide (x3.Mass>1000000)))))] (B false))] ⟨asb hb4 (amv rfl),tv⟩ ?_
    refine bfe h (fun hc5 h=>?_) fun hc5 h=>?_
    ·refine wft hc5<|wxz<|Qaj<|Qap ?_
     obtain rfl:=osi h
     exact fend ⟨[I 3],⟨rot,tv⟩,rfl⟩ nll
    ·refine wfn hc5<|Qat<|thn<|wxz<|Qaj ?_
     obtain rfl:=osi h
     exact fend ⟨[I 0],⟨rot,tv⟩,rfl⟩ nll
  ·skip
   obtain⟨x7,hf6,h⟩:=bno h
   refine hpre (A:=(Q8l p1 p0 x7)) ⟨alq 4 Qag p1 underlying45,apv Qmx (Qel N p0 1 _ hf6) (nlc (NLt.agg _ (nlc (nld Qak _) (nlc (nld Qaa _) nl0))) (nlc nll nl0)) (nld Qae _),alq 1 Qac x7 underlying27,tv⟩ fun q1_=>?_
   refine bfe h (fun hb8 h=>?_) fun hb8 h=>?_
   ·refine wx tbk (hcat (Q8l p1 p0 x7) [(6,rp [(.tmp 11,(B (((p1.length:Int) != (x7.length:Int)))))] (B true))]) (hap q1_ ⟨asb hb8 (amv rfl),tv⟩)<|wtr<|wxz<|Qaj<|Qap ?_
    obtain rfl:=osi h
    exact fend ⟨[I 1],⟨rot,tv⟩,rfl⟩ nll
   ·obtain⟨x10,hf9,h⟩:=bno h
    refine wx tbk (hcat (Q8l p1 p0 x7) [(6,rp [(.tmp 11,(B (((p1.length:Int) != (x7.length:Int)))))] (B false)),(8,rp [(.tmp 12,B false),fu 112,(.tmp 13,(Q0q p1)),fu 113] (B x10))]) (hap q1_ ⟨asb hb8 (amv rfl),ag_ (Qar (first:=[]) (cap:=[]) (vs:=[(Q0q p1),(.fn (.func 113) [] [])]) (σr:=[]) (σr':=[]) (res':=(B x10)) [] rfl Q55 (Qiq N p1 _ hf9) rfl (Qbd (rnc (pld Qah) (rnc (.plain _ (NLt.fn _ _ _ nl0 nl0)) rn0))) Qaq Qaq (.plain _ nll) rfl rfl rfl),tv⟩) ?_
    refine bfe h (fun hc11 h=>?_) fun hc11 h=>?_
    ·refine wft hc11<|wxz<|Qaj<|Qap ?_
     obtain rfl:=osi h
     exact fend ⟨[I 1],⟨rot,tv⟩,rfl⟩ nll
    ·exact wfn hc11<|Qat<|thn<|⟨(),h,(mto (n:=27) [(1,(Q0q p1))] [] [] hφ0 (pc (rnd Qah) pn) qn)⟩
def Qkd (N:Nat) (p0:GNet) (p1:List Int) (p2:List Qab):Option Int:=
  (Qjf N p0 p1).bind fun x2=>
  bif (x2 != 0) then
   some x2
  else
   (Qic N p0 p2).bind fun x5=>
   some x5
theorem Ql9 (N:Nat) (p0:GNet) (p1:List Int) (p2:List Qab) (r:Int) (h:Qkd N p0 p1 p2=some r):Spec prog 57 [(.agg (Qg6 p0)),(.dat 1 (p1.map Qac)),(.dat 4 (p2.map Qag))] [] (I r) []:=by
  refine Qam func57 rfl 0 (nle rfl) (fun X φ0 w0 hφ0 hd0=>?_)
  unfold Qkd at h
  refine wxz<|wsq ?_
  obtain⟨x2,hf1,h⟩:=bno h
  refine wx tbk [(2,rp _ _)] ⟨apv Q2s (Qld N p0 p1 _ hf1) (nlc (NLt.agg _ (nlc (nld Qak _) (nlc (nld Qaa _) nl0))) (nlc (nld Qae _) nl0)) nll,tv⟩<|wxz ?_
  refine bfe h (fun hc3 h=>?_) fun hc3 h=>?_
  ·refine wft hc3<|wxz<|Qaj<|Qap ?_
   obtain rfl:=osi h
   exact fend ⟨[I x2],⟨rot,tv⟩,rfl⟩ nll
  ·refine wfn hc3<|Qat<|thn ?_
   obtain⟨x5,hf4,h⟩:=bno h
   refine wx tbk [(2,rp _ _)] ⟨apv Q2m (Qkv N p0 p2 _ hf4) (nlc (NLt.agg _ (nlc (nld Qak _) (nlc (nld Qaa _) nl0))) (nlc (nld Qah _) nl0)) nll,tv⟩<|Qaj ?_
   obtain rfl:=osi h
   exact fend ⟨[I x5],⟨rot,tv⟩,rfl⟩ nll
def Qjo (N:Nat) (p0:Int):Option Bool:=
  (Qcw N p0 0 1000).bind fun x2=>
  some x2
theorem Qog (N:Nat) (p0:Int) (r:Bool) (h:Qjo N p0=some r):Spec prog 150 [(I p0)] [] (B r) []:=by
  refine Qam func150 rfl 0 (nle rfl) (fun X φ0 w0 hφ0 hd0=>?_)
  unfold Qjo at h
  refine wxz ?_
  obtain⟨x2,hf1,h⟩:=bno h
  exact wx tbk [(1,rp _ _)] ⟨apv Qg5 (Qci N p0 0 1000 _ hf1) (nlcc (nlc nll nl0)) nll,tv⟩<|Qaj<|frb h
def Qgr (N:Nat) (p0:Int):Option Bool:=
  (Qjo N p0).bind fun x3=>
  some (!x3)
def Q38:Slot:=.own 1 [[(.fn (.func 150) [] [])]]
theorem Qk5 (N:Nat) (p0:Int) (r:Bool) (h:Qgr N p0=some r):Spec prog 157 [(I p0),(.ref 0 1 (0) 0)] [Q38] (B r) [Q38]:=by
  refine Qam func157 rfl 1 (nle rfl) (fun X φ0 w0 hφ0 hd0=>?_)
  unfold Qgr at h
  refine Qbj<|wxz ?_
  obtain⟨x3,hf2,h⟩:=bno h
  refine wx tbk [(2,rp _ _)] ⟨apv Q5d (Qog N p0 _ hf2) (nlc nll nl0) nll,tv⟩ ?_
  refine wmr (mto (n:=8) (l':=[(3,(B ((!x3))))]) (own':=[Q38]) [(3,(B ((!x3))))] [0] [Q38] hφ0 (pw pn) (qb (lc (.rn (Qa9 rn0 rn0)) ln) qn))<|Qaj ?_
  obtain rfl:=osi h
  exact⟨_,Mor.rfl,Qca (vs:=[(B ((!x3)))]) ⟨rot,tv⟩ rfl (NLt.of0 nll) (by kernel_rfl) (Qai (Qav (nlc (NLt.of0 (NLt.fn _ _ _ nl0 nl0)) nl0)) Qbe)⟩
def Qb2 (N:Nat) (p0:List Int) (k2:Unit→Option Int):Nat→Int→Option Int
  |0,_=>none
  |n5+1,y3=>
    bif (decide (y3<(p0.length:Int))) then
     (getI p0 y3).bind fun x7=>
     (Qgr N x7).bind fun x12=>
     bif x12 then
      some y3
     else
      Qb2 N p0 k2 n5 (w64 (y3+1))
    else
     k2 ()
def Qec (N:Nat) (p0:List Int):Option Int:=
  Qdr (fun _=>
    some (-1)) fun k2:Unit→Option Int=>
  Qb2 N p0 k2 N 0
def Q0i:AV:=.fn (.func 157) [] [(.ref 0 1 (0) 0)]
def Qm3:Slot:=.own 1 [[(.fn (.func 150) [] [])]]
theorem Qho (N:Nat) (p0:List Int) (r:Int) (h:Qec N p0=some r):Spec prog 141 [(.dat 1 (p0.map Qac)),Q0i] [Qm3] (I r) [Qm3]:=by
  refine Qam func141 rfl 1 (nle rfl) (fun X φ0 w0 hφ0 hd0=>?_)
  unfold Qec at h
  refine Qbj<|wxz ?_
  obtain⟨k2,hk_k2,h⟩:=jko h
  refine wjn (τ:=Unit) (fun t=>k2 t=some r) (fun _=>⟨mk 19 [],[Qm3]⟩) (fun t h=>?_) ?_
  ·subst hk_k2
   refine wxz<|wmr (mto (n:=19) (l':=[(4,(I ((-1))))]) (own':=[Qm3]) [(4,(I ((-1))))] [0] [Qm3] hφ0 (pw pn) (qb (lc (.rn (Qa9 rn0 rn0)) ln) qn))<|Qaj ?_
   obtain rfl:=osi h
   exact⟨_,Mor.rfl,Qca (vs:=[(I ((-1)))]) ⟨rot,tv⟩ rfl (NLt.of0 nll) (by kernel_rfl) (Qai (Qav (nlc (NLt.of0 (NLt.fn _ _ _ nl0 nl0)) nl0)) Qbe)⟩
  ·skip
   refine wx tbk [(1,rp _ _)] ⟨alq 1 Qac p0 underlying27,tv⟩<|Qas ?_
   refine wmr (mto (n:=19) (l':=[(0,(.dat 1 (p0.map Qac))),(1,Q0i),(7,(I ((p0.length:Int)))),(8,I 0)]) (own':=[Qm3]) [(0,(.dat 1 (p0.map Qac))),(1,Q0i),(7,(I ((p0.length:Int)))),(8,I 0)] [0] [Qm3] hφ0 (pc (rnd Qae) (pc (.rn (Qa9 rn0 (rnc (rqr rfl) rn0))) (pw (pw pn)))) (qb (lc (.rn (Qa9 rn0 rn0)) ln) qn)) ?_
   refine Qb9 (τ:=Int) (fun n t=>Qb2 N p0 k2 n t=some r) (fun y3=>⟨mk 19 [(0,(.dat 1 (p0.map Qac))),(1,Q0i),(7,(I ((p0.length:Int)))),(8,I y3)],[Qm3]⟩) (fun t h=>by rw[Qb2] at h;cases h) (fun n5 ih y3 h=>?_) N (0) h
   rw[Qb2] at h
   skip
   refine wxz<|wsq ?_
   refine bfe h (fun hc6 h=>?_) fun hc6 h=>?_
   ·refine wft hc6<|Qat<|thn<|wsq<|Qas<|wxz ?_
    obtain⟨x7,hg8,h⟩:=bno h
    obtain⟨hi9,hj10⟩:=gsm hg8
    obtain⟨x12,hf11,h⟩:=bno h
    refine wx tbk [(3,rp _ _),(5,⟨_,_,_,_,false⟩)] ⟨aiq underlying27 ti3 Qac hi9 hj10,Qar (first:=[]) (cap:=[.ref 0 1 0 0]) (vs:=[I x7]) (σr:=[Qm3]) (σr':=[Qm3]) (res':=(B x12)) [0] rfl Q47 (Qk5 N x7 _ hf11) rfl (Qbd (rnc (.plain _ nll) (rnc (Qax rfl) rn0))) (slc (Qao (rnc (.plain _ (NLt.fn _ _ _ nl0 nl0)) rn0)) Qaq) (slc (Qao (rnc (.plain _ (NLt.fn _ _ _ nl0 nl0)) rn0)) Qaq) (.plain _ nll) rfl rfl rfl,tv⟩ ?_
    refine bfe h (fun hc13 h=>?_) fun hc13 h=>?_
    ·refine wft hc13<|wxz ?_
     refine wmr (mto (n:=19) (l':=[(4,I y3)]) (own':=[Qm3]) [(4,I y3)] [0] [Qm3] hφ0 (pw pn) (qb (lc (.rn (Qa9 rn0 rn0)) ln) qn))<|Qaj<|Qa1<|Qap<|Qap<|Qa1<|Qap ?_
     obtain rfl:=osi h
     exact⟨_,Mor.rfl,Qca (vs:=[I y3]) ⟨rot,tv⟩ rfl (NLt.of0 nll) (by kernel_rfl) (Qai (Qav (nlc (NLt.of0 (NLt.fn _ _ _ nl0 nl0)) nl0)) Qbe)⟩
    ·exact wfn hc13<|Qat<|bln<|thn<|wxz1<|thn<|arm (mto (n:=19) [(0,(.dat 1 (p0.map Qac))),(1,Q0i),(7,(I ((p0.length:Int)))),(8,(I (w64 (y3+1))))] [0] [Qm3] hφ0 (pc (rnd Qae) (pc (.rn (Qa9 rn0 (rnc (rqr rfl) rn0))) (pw (pw pn)))) (qb (lc (.rn (Qa9 rn0 rn0)) ln) qn)) (ih (w64 (y3+1)) h)
   ·exact wfn hc6<|Qbm<|Qa4<|Qa4<|Qbl rfl<|thn<|⟨(),h,(mto (n:=19) [] [0] [Qm3] hφ0 pn (qb (lc (.rn (Qa9 rn0 rn0)) ln) qn))⟩
def Qdh (N:Nat) (p0:List Int):Option Bool:=
  (Qec N p0).bind fun x3=>
  some (decide (x3≥0))
def Zav:AV:=.fn (.func 157) [] [(.ref 0 1 (0) 0)]
def Qyr:Slot:=.own 1 [[(.fn (.func 150) [] [])]]
theorem Qgu (N:Nat) (p0:List Int) (r:Bool) (h:Qdh N p0=some r):Spec prog 126 [(.dat 1 (p0.map Qac)),Zav] [Qyr] (B r) [Qyr]:=by
  refine Qam func126 rfl 1 (nle rfl) (fun X φ0 w0 hφ0 hd0=>?_)
  unfold Qdh at h
  refine Qbj<|wxz ?_
  obtain⟨x3,hf2,h⟩:=bno h
  refine wx tbk [(2,⟨_,_,_,_,false⟩)] ⟨Qar (first:=[]) (cap:=[]) (vs:=[(.dat 1 (p0.map Qac)),Zav]) (σr:=[Qyr]) (σr':=[Qyr]) (res':=(I x3)) [0] rfl Qnw (Qho N p0 _ hf2) rfl (Qbd (rnc (pld Qae) (rnc (Qa9 rn0 (rnc (Qax rfl) rn0)) rn0))) (slc (Qao (rnc (.plain _ (NLt.fn _ _ _ nl0 nl0)) rn0)) Qaq) (slc (Qao (rnc (.plain _ (NLt.fn _ _ _ nl0 nl0)) rn0)) Qaq) (.plain _ nll) rfl rfl rfl,tv⟩ ?_
  refine wmr (mto (n:=9) (l':=[(4,(B ((decide (x3≥0)))))]) (own':=[Qyr]) [(4,(B ((decide (x3≥0)))))] [0] [Qyr] hφ0 (pw pn) (qb (lc (.rn (Qa9 rn0 rn0)) ln) qn))<|Qaj ?_
  obtain rfl:=osi h
  exact⟨_,Mor.rfl,Qca (vs:=[(B ((decide (x3≥0))))]) ⟨rot,tv⟩ rfl (NLt.of0 nll) (by kernel_rfl) (Qai (Qav (nlc (NLt.of0 (NLt.fn _ _ _ nl0 nl0)) nl0)) Qbe)⟩
def Qh0 (N:Nat) (p0:List Int):Option Bool:=
  (Qdh N p0).bind fun x2=>
  some (!x2)
def Zaw:AV:=.fn (.func 157) [] [(.ref 0 1 (0) 0)]
def Zax:Slot:=.own 1 [[(.fn (.func 150) [] [])]]
theorem Qmk (N:Nat) (p0:List Int) (r:Bool) (h:Qh0 N p0=some r):Spec prog 151 [(.dat 1 (p0.map Qac)),(.fn (.func 150) [] [])] [] (B r) []:=by
  refine Qam func151 rfl 0 (nle rfl) (fun X φ0 w0 hφ0 hd0=>?_)
  unfold Qh0 at h
  refine wxz ?_
  obtain⟨x2,hf1,h⟩:=bno h
  refine wx tbk [(1,rp [(.tmp 3,.ref 0 1 0 0)] Zaw),(2,⟨_,_,_,_,false⟩)] ⟨Qdv (fs:=[]) (cs:=[.ref 0 1 0 0]) rfl rfl rfl rfl,Qar (first:=[]) (cap:=[]) (vs:=[(.dat 1 (p0.map Qac)),Zaw]) (σr:=[Zax]) (σr':=[Zax]) (res':=(B x2)) [0] rfl Qnx (Qgu N p0 _ hf1) rfl (Qbd (rnc (pld Qae) (rnc (Qa9 rn0 (rnc (Qax rfl) rn0)) rn0))) (slc (Qao (rnc (.plain _ (NLt.fn _ _ _ nl0 nl0)) rn0)) Qaq) (slc (Qao (rnc (.plain _ (NLt.fn _ _ _ nl0 nl0)) rn0)) Qaq) (.plain _ nll) rfl rfl rfl,tv⟩<|Qaj ?_
  obtain rfl:=osi h
  exact fend ⟨[(B ((!x2)))],⟨rot,tv⟩,rfl⟩ nll
def Qjn (_N:Nat) (p0:Int):Option Bool:=
  some (decide (p0>0))
theorem Qof (N:Nat) (p0:Int) (r:Bool) (h:Qjn N p0=some r):Spec prog 152 [(I p0)] [] (B r) []:=by
  refine Qam func152 rfl 0 (nle rfl) (fun X φ0 w0 hφ0 hd0=>?_)
  unfold Qjn at h
  refine wxz<|wxz<|Qaj ?_
  obtain rfl:=osi h
  exact fend ⟨[(B ((decide (p0>0))))],⟨rot,tv⟩,rfl⟩ nll
def Qb1 (N:Nat) (p0:List Int) (k1:Unit→Option Int):Nat→Int→Option Int
  |0,_=>none
  |n4+1,y2=>
    bif (decide (y2<(p0.length:Int))) then
     (getI p0 y2).bind fun x6=>
     (Qjn N x6).bind fun x11=>
     bif x11 then
      some y2
     else
      Qb1 N p0 k1 n4 (w64 (y2+1))
    else
     k1 ()
def Qeb (N:Nat) (p0:List Int):Option Int:=
  Qdr (fun _=>
    some (-1)) fun k1:Unit→Option Int=>
  Qb1 N p0 k1 N 0
theorem Qhn (N:Nat) (p0:List Int) (r:Int) (h:Qeb N p0=some r):Spec prog 141 [(.dat 1 (p0.map Qac)),(.fn (.func 152) [] [])] [] (I r) []:=by
  refine Qam func141 rfl 0 (nle rfl) (fun X φ0 w0 hφ0 hd0=>?_)
  unfold Qeb at h
  refine wxz ?_
  obtain⟨k1,hk_k1,h⟩:=jko h
  refine wjn (τ:=Unit) (fun t=>k1 t=some r) (fun _=>⟨mk 19 [],[]⟩) (fun t h=>?_) ?_
  ·subst hk_k1
   refine wxz<|Qaj ?_
   obtain rfl:=osi h
   exact fend ⟨[(I ((-1)))],⟨rot,tv⟩,rfl⟩ nll
  ·skip
   refine wx tbk [(1,rp _ _)] ⟨alq 1 Qac p0 underlying27,tv⟩<|Qas ?_
   refine wmr (mto (n:=19) (l':=[(0,(.dat 1 (p0.map Qac))),(1,(.fn (.func 152) [] [])),(7,(I ((p0.length:Int)))),(8,I 0)]) (own':=[]) [(0,(.dat 1 (p0.map Qac))),(1,(.fn (.func 152) [] [])),(7,(I ((p0.length:Int)))),(8,I 0)] [] [] hφ0 (pc (rnd Qae) (pc (.rn (Qa9 rn0 rn0)) (pw (pw pn)))) qn) ?_
   refine Qb9 (τ:=Int) (fun n t=>Qb1 N p0 k1 n t=some r) (fun y2=>⟨mk 19 [(0,(.dat 1 (p0.map Qac))),(1,(.fn (.func 152) [] [])),(7,(I ((p0.length:Int)))),(8,I y2)],[]⟩) (fun t h=>by rw[Qb1] at h;cases h) (fun n4 ih y2 h=>?_) N (0) h
   rw[Qb1] at h
   skip
   refine wxz<|wsq ?_
   refine bfe h (fun hc5 h=>?_) fun hc5 h=>?_
   ·refine wft hc5<|Qat<|thn<|wsq<|Qas<|wxz ?_
    obtain⟨x6,hg7,h⟩:=bno h
    obtain⟨hi8,hj9⟩:=gsm hg7
    obtain⟨x11,hf10,h⟩:=bno h
    refine wx tbk [(3,rp _ _),(5,rp _ _)] ⟨aiq underlying27 ti3 Qac hi8 hj9,apv Q5b (Qof N x6 _ hf10) (nlc nll nl0) nll,tv⟩ ?_
    refine bfe h (fun hc12 h=>?_) fun hc12 h=>?_
    ·refine wft hc12<|wxz<|Qaj<|Qa1<|Qap<|Qap<|Qa1<|Qap ?_
     obtain rfl:=osi h
     exact fend ⟨[I y2],⟨rot,tv⟩,rfl⟩ nll
    ·exact wfn hc12<|Qat<|bln<|thn<|wxz1<|thn<|arm (mto (n:=19) [(0,(.dat 1 (p0.map Qac))),(1,(.fn (.func 152) [] [])),(7,(I ((p0.length:Int)))),(8,(I (w64 (y2+1))))] [] [] hφ0 (pc (rnd Qae) (pc (.rn (Qa9 rn0 rn0)) (pw (pw pn)))) qn) (ih (w64 (y2+1)) h)
   ·exact wfn hc5<|Qbm<|Qa4<|Qa4<|Qbl rfl<|thn<|⟨(),h,(mto (n:=19) [] [] [] hφ0 pn qn)⟩
def Qdg (N:Nat) (p0:List Int):Option Bool:=
  (Qeb N p0).bind fun x2=>
  some (decide (x2≥0))
theorem Qgt (N:Nat) (p0:List Int) (r:Bool) (h:Qdg N p0=some r):Spec prog 126 [(.dat 1 (p0.map Qac)),(.fn (.func 152) [] [])] [] (B r) []:=by
  refine Qam func126 rfl 0 (nle rfl) (fun X φ0 w0 hφ0 hd0=>?_)
  unfold Qdg at h
  refine wxz ?_
  obtain⟨x2,hf1,h⟩:=bno h
  refine wx tbk [(2,rp _ _)] ⟨Qar (first:=[]) (cap:=[]) (vs:=[(.dat 1 (p0.map Qac)),(.fn (.func 152) [] [])]) (σr:=[]) (σr':=[]) (res':=(I x2)) [] rfl Qnw (Qhn N p0 _ hf1) rfl (Qbd (rnc (pld Qae) (rnc (.plain _ (NLt.fn _ _ _ nl0 nl0)) rn0))) Qaq Qaq (.plain _ nll) rfl rfl rfl,tv⟩<|Qaj ?_
  obtain rfl:=osi h
  exact fend ⟨[(B ((decide (x2≥0))))],⟨rot,tv⟩,rfl⟩ nll
def Qf7 (_N:Nat) (p0 p1 p2:Int):Option Int:=
  chk (p2 != 0)<|
  some ((w64 (p1*p0)).tmod p2)
theorem Qia (N:Nat) (p0 p1:Int) (p2 r:Int) (h:Qf7 N p0 p1 p2=some r):Spec prog 159 [(I p0),(.ref 0 1 (0) 0),(.ref 1 1 (0) 0)] [(.own 1 [[(I p1)]]),(.own 1 [[(I p2)]])] (I r) [(.own 1 [[(I p1)]]),(.own 1 [[(I p2)]])]:=by
  refine Qam func159 rfl 2 (nle rfl) (fun X φ0 w0 hφ0 hd0=>?_)
  unfold Qf7 at h
  refine Qbj<|wxz ?_
  obtain⟨hz2,h⟩:=cko h
  refine wx tbk [(4,rp [(.tmp 7,(I (w64 (p1*p0)))),(.tmp 8,I p2)] (I ((w64 (p1*p0)).tmod p2)))] ⟨Q3a rfl (Qqn hz2),tv⟩ ?_
  refine wmr (mto (n:=10) (l':=[(4,(I ((w64 (p1*p0)).tmod p2)))]) (own':=[(.own 1 [[I p1]]),(.own 1 [[I p2]])]) [(4,(I ((w64 (p1*p0)).tmod p2)))] [0,1] [(.own 1 [[I p1]]),(.own 1 [[I p2]])] hφ0 (pw pn) (qb (lc rwl ln) (qb (lc rwl ln) qn)))<|Qaj ?_
  obtain rfl:=osi h
  exact⟨_,Mor.rfl,Qca (vs:=[(I ((w64 (p1*p0)).tmod p2))]) ⟨rot,tv⟩ rfl (NLt.of0 nll) (by kernel_rfl) (Qai (Qav (nlc (NLt.of0 nll) nl0)) (Qai (Qav (nlc (NLt.of0 nll) nl0)) Qbe))⟩
def Qf0 (N:Nat) (p0 p1:Int) (p2:List Int) (p3 p4:Int):Option Int:=
  (getI p2 p1).bind fun x2=>
  (Qf7 N x2 p3 p4).bind fun x7=>
  (getI p2 p0).bind fun x8=>
  (Qf7 N x8 p3 p4).bind fun x13=>
  some (w64 (x7-x13))
def Q36:AV:=.fn (.func 159) [] [(.ref 2 1 (0) 0),(.ref 3 1 (0) 0)]
def Q35 (p2:List Int):Slot:=.own 1 [[(.dat 1 (p2.map Qac))]]
theorem Qju (N:Nat) (p0 p1:Int) (p2:List Int) (p3 p4 r:Int) (h:Qf0 N p0 p1 p2 p3 p4=some r):Spec prog 163 [(I p0),(I p1),(.ref 0 1 (0) 0),(.ref 1 1 (0) 0)] [(.own 1 [[Q36]]),(Q35 p2),(.own 1 [[(I p3)]]),(.own 1 [[(I p4)]])] (I r) [(.own 1 [[Q36]]),(Q35 p2),(.own 1 [[(I p3)]]),(.own 1 [[(I p4)]])]:=by
  refine Qam func163 rfl 4 (nle rfl) (fun X φ0 w0 hφ0 hd0=>?_)
  unfold Qf0 at h
  refine Qbj<|wxz ?_
  obtain⟨x2,hg3,h⟩:=bno h
  obtain⟨hi4,hj5⟩:=gsm hg3
  obtain⟨x7,hf6,h⟩:=bno h
  obtain⟨x8,hg9,h⟩:=bno h
  obtain⟨hi10,hj11⟩:=gsm hg9
  obtain⟨x13,hf12,h⟩:=bno h
  refine wxd tbk [(3,rp _ _),(5,⟨_,_,_,_,false⟩),(9,rp _ _),(11,⟨_,_,_,_,false⟩)] ⟨aiq underlying27 ti3 Qac hi4 hj5,Qar (first:=[]) (cap:=[.ref 2 1 0 0,.ref 3 1 0 0]) (vs:=[I x2]) (σr:=[(.own 1 [[I p3]]),(.own 1 [[I p4]])]) (σr':=[(.own 1 [[I p3]]),(.own 1 [[I p4]])]) (res':=(I x7)) [2,3] rfl Qxy (Qia N x2 p3 p4 _ hf6) rfl (Qbd (rnc (.plain _ nll) (rnc (Qax rfl) (rnc (Qax rfl) rn0)))) (slc (Qao (rnc (.plain _ nll) rn0)) (slc (Qao (rnc (.plain _ nll) rn0)) Qaq)) (slc (Qao (rnc (.plain _ nll) rn0)) (slc (Qao (rnc (.plain _ nll) rn0)) Qaq)) (.plain _ nll) rfl rfl rfl,aiq underlying27 ti3 Qac hi10 hj11,Qar (first:=[]) (cap:=[.ref 2 1 0 0,.ref 3 1 0 0]) (vs:=[I x8]) (σr:=[(.own 1 [[I p3]]),(.own 1 [[I p4]])]) (σr':=[(.own 1 [[I p3]]),(.own 1 [[I p4]])]) (res':=(I x13)) [2,3] rfl Qxy (Qia N x8 p3 p4 _ hf12) rfl (Qbd (rnc (.plain _ nll) (rnc (Qax rfl) (rnc (Qax rfl) rn0)))) (slc (Qao (rnc (.plain _ nll) rn0)) (slc (Qao (rnc (.plain _ nll) rn0)) Qaq)) (slc (Qao (rnc (.plain _ nll) rn0)) (slc (Qao (rnc (.plain _ nll) rn0)) Qaq)) (.plain _ nll) rfl rfl rfl,tv⟩ ?_
  refine wmr (mto (n:=20) (l':=[(6,(I (w64 (x7-x13))))]) (own':=[(.own 1 [[Q36]]),(Q35 p2),(.own 1 [[I p3]]),(.own 1 [[I p4]])]) [(6,(I (w64 (x7-x13))))] [0,1,2,3] [(.own 1 [[Q36]]),(Q35 p2),(.own 1 [[I p3]]),(.own 1 [[I p4]])] hφ0 (pw pn) (qb (lc (.rn (Qa9 rn0 (rnc (rqr rfl) (rnc (rqr rfl) rn0)))) ln) (qb (lc (rnd Qae) ln) (qb (lc rwl ln) (qb (lc rwl ln) qn)))))<|Qaj ?_
  obtain rfl:=osi h
  exact⟨_,Mor.rfl,Qca (vs:=[(I (w64 (x7-x13)))]) ⟨rot,tv⟩ rfl (NLt.of0 nll) (by kernel_rfl) (Qai (Qav (nlc (NLt.fn _ _ _ nl0 (nlc (NLt.ref _ _ _ _ (by decide)) (nlc (NLt.ref _ _ _ _ (by decide)) nl0))) nl0)) (Qai (Qav (nlc (NLt.of0 (nld Qae _)) nl0)) (Qai (Qav (nlc (NLt.of0 nll) nl0)) (Qai (Qav (nlc (NLt.of0 nll) nl0)) Qbe))))⟩
def Qbq (N p0:Nat) (p1:Int) (p4:List Int) (p5 p6:Int) (k9:(List Int)→Option (List Int)):Nat→Int→(List Int)→Option (List Int)
  |0,_,_=>none
  |n14+1,y10,y11=>
    Qdr (fun _=>
      chk (decide (0≤w64 (y10-1))&&decide ((w64 (y10-1)).toNat<p0))<|
      (y11[(w64 (y10-1)).toNat]?).bind fun x17=>
      chk (decide (0≤y10)&&decide (y10.toNat<p0))<|
      (y11[y10.toNat]?).bind fun x20=>
      chk (decide (0≤y10)&&decide (y10.toNat<p0))<|
      (y11[y10.toNat]?).bind fun _=>
      chk (decide (0≤w64 (y10-1))&&decide ((w64 (y10-1)).toNat<p0))<|
      ((y11.set y10.toNat x17)[(w64 (y10-1)).toNat]?).bind fun _=>
      Qbq N p0 p1 p4 p5 p6 k9 n14 (w64 (y10-1)) ((y11.set y10.toNat x17).set ((w64 (y10-1)).toNat) x20)) fun k15:Unit→Option (List Int)=>
    bif (decide (y10>p1)) then
     chk (decide (0≤y10)&&decide (y10.toNat<p0))<|
     (y11[y10.toNat]?).bind fun x30=>
     chk (decide (0≤w64 (y10-1))&&decide ((w64 (y10-1)).toNat<p0))<|
     (y11[(w64 (y10-1)).toNat]?).bind fun x33=>
     (Qf0 N x30 x33 p4 p5 p6).bind fun x36=>
     bif (decide (x36<0)) then
      k15 ()
     else
      k9 (y11)
    else
     k9 (y11)
def Qbr (N p0:Nat) (p1 p2:Int) (p4:List Int) (p5 p6:Int):Nat→Int→(List Int)→Option (List Int)
  |0,_,_=>none
  |n6+1,y2,y3=>
    bif (decide (y2<p2)) then
     Qdr (fun y8=>
       Qbr N p0 p1 p2 p4 p5 p6 n6 (w64 (y2+1)) y8) fun k9:(List Int)→Option (List Int)=>
     Qbq N p0 p1 p4 p5 p6 k9 N y2 y3
    else
     some y3
def Qcl (N p0:Nat) (p1 p2:Int) (p3 p4:List Int) (p5 p6:Int):Option (List Int):=
  Qbr N p0 p1 p2 p4 p5 p6 N (w64 (p1+1)) p3
def Qmf:AV:=.fn (.func 163) [] [(.ref 1 1 (0) 0),(.ref 2 1 (0) 0)]
def Qji:AV:=.fn (.func 159) [] [(.ref 3 1 (0) 0),(.ref 4 1 (0) 0)]
def Qjh (p4:List Int):Slot:=.own 1 [[(.dat 1 (p4.map Qac))]]
theorem Qdw (N p0:Nat) (p1 p2:Int) (p3 p4:List Int) (p5 p6:Int) (r:List Int) (h:Qcl N p0 p1 p2 p3 p4 p5 p6=some r):Spec prog 165 [(.own 0 1 (0) p0),(I p1),(I p2),Qmf] [(.own 1 (p3.map Qac)),(.own 1 [[Qji]]),(Qjh p4),(.own 1 [[(I p5)]]),(.own 1 [[(I p6)]])] (.tup []) [(.own 1 (r.map Qac)),(.own 1 [[Qji]]),(Qjh p4),(.own 1 [[(I p5)]]),(.own 1 [[(I p6)]])]:=by
  refine Qam func165 rfl 5 (nle rfl) (fun X φ0 w0 hφ0 hd0=>?_)
  unfold Qcl at h
  refine Qbj<|wxz<|Qas ?_
  refine wmr (mto (n:=53) (l':=[(0,(.own 0 1 (0) p0)),(1,I p1),(2,I p2),(3,Qmf),(8,(I ((w64 (p1+1)))))]) (own':=[(.own 1 (p3.map Qac)),(.own 1 [[Qji]]),(Qjh p4),(.own 1 [[I p5]]),(.own 1 [[I p6]])]) [(0,(.own 0 1 (0) p0)),(1,I p1),(2,I p2),(3,Qmf),(8,(I (w64 (p1+1))))] [0,1,2,3,4] [(.own 1 (p3.map Qac)),(.own 1 [[Qji]]),(Qjh p4),(.own 1 [[I p5]]),(.own 1 [[I p6]])] hφ0 (pc (.rn (Qaz rfl)) (pw (pw (pc (.rn (Qa9 rn0 (rnc (rqr rfl) (rnc (rqr rfl) rn0)))) (pw pn))))) (qc (spr Qae) (qb (lc (.rn (Qa9 rn0 (rnc (rqr rfl) (rnc (rqr rfl) rn0)))) ln) (qb (lc (rnd Qae) ln) (qb (lc rwl ln) (qb (lc rwl ln) qn)))))) ?_
  refine Qb9 (τ:=Int×(List Int)) (fun n t=>Qbr N p0 p1 p2 p4 p5 p6 n t.1 t.2=some r) (fun ⟨y2,y3⟩=>⟨mk 53 [(0,(.own 0 1 (0) p0)),(1,I p1),(2,I p2),(3,Qmf),(8,I y2)],[(.own 1 (y3.map Qac)),(.own 1 [[Qji]]),(Qjh p4),(.own 1 [[I p5]]),(.own 1 [[I p6]])]⟩) (fun t h=>by rw[Qbr] at h;cases h) (fun n6 ih t h=>?_) N (w64 (p1+1),p3) h
  obtain⟨y2,y3⟩:=t
  rw[Qbr] at h
  skip
  refine wsq<|wxz ?_
  refine bfe h (fun hc7 h=>?_) fun hc7 h=>?_
  ·refine wft hc7<|Qat<|thn ?_
   obtain⟨k9,hk_k9,h⟩:=jko h
   refine wjn (τ:=(List Int)) (fun t=>k9 t=some r) (fun y8=>⟨mk 53 [(0,(.own 0 1 (0) p0)),(1,I p1),(2,I p2),(3,Qmf),(8,I y2)],[(.own 1 (y8.map Qac)),(.own 1 [[Qji]]),(Qjh p4),(.own 1 [[I p5]]),(.own 1 [[I p6]])]⟩) (fun y8 h=>?_) ?_
   ·subst hk_k9
    exact wxz1<|thn<|arm (mto (n:=53) [(0,(.own 0 1 (0) p0)),(1,I p1),(2,I p2),(3,Qmf),(8,(I (w64 (y2+1))))] [0,1,2,3,4] [(.own 1 (y8.map Qac)),(.own 1 [[Qji]]),(Qjh p4),(.own 1 [[I p5]]),(.own 1 [[I p6]])] hφ0 (pc (.rn (Qaz rfl)) (pw (pw (pc (.rn (Qa9 rn0 (rnc (rqr rfl) (rnc (rqr rfl) rn0)))) (pw pn))))) (qc (spr Qae) (qb (lc (.rn (Qa9 rn0 (rnc (rqr rfl) (rnc (rqr rfl) rn0)))) ln) (qb (lc (rnd Qae) ln) (qb (lc rwl ln) (qb (lc rwl ln) qn)))))) (ih (w64 (y2+1),y8) h)
   ·skip
    refine Qas<|wxz<|Qas ?_
    refine wmr (mto (n:=53) (l':=[(0,(.own 0 1 (0) p0)),(1,I p1),(2,I p2),(3,Qmf),(8,I y2),(9,I y2)]) (own':=[(.own 1 (y3.map Qac)),(.own 1 [[Qji]]),(Qjh p4),(.own 1 [[I p5]]),(.own 1 [[I p6]])]) [(0,(.own 0 1 (0) p0)),(1,I p1),(2,I p2),(3,Qmf),(8,I y2),(9,I y2)] [0,1,2,3,4] [(.own 1 (y3.map Qac)),(.own 1 [[Qji]]),(Qjh p4),(.own 1 [[I p5]]),(.own 1 [[I p6]])] hφ0 (pc (.rn (Qaz rfl)) (pw (pw (pc (.rn (Qa9 rn0 (rnc (rqr rfl) (rnc (rqr rfl) rn0)))) (pw (pw pn)))))) (qc (spr Qae) (qb (lc (.rn (Qa9 rn0 (rnc (rqr rfl) (rnc (rqr rfl) rn0)))) ln) (qb (lc (rnd Qae) ln) (qb (lc rwl ln) (qb (lc rwl ln) qn)))))) ?_
    refine Qb9 (τ:=Int×(List Int)) (fun n t=>Qbq N p0 p1 p4 p5 p6 k9 n t.1 t.2=some r) (fun ⟨y10,y11⟩=>⟨mk 53 [(0,(.own 0 1 (0) p0)),(1,I p1),(2,I p2),(3,Qmf),(8,I y2),(9,I y10)],[(.own 1 (y11.map Qac)),(.own 1 [[Qji]]),(Qjh p4),(.own 1 [[I p5]]),(.own 1 [[I p6]])]⟩) (fun t h=>by rw[Qbq] at h;cases h) (fun n14 ih t h=>?_) N (y2,y3) h
    obtain⟨y10,y11⟩:=t
    rw[Qbq] at h
    skip
    obtain⟨k15,hk_k15,h⟩:=jko h
    refine wjn (τ:=Unit) (fun t=>k15 t=some r) (fun _=>⟨mk 53 [(0,(.own 0 1 (0) p0)),(1,I p1),(2,I p2),(3,Qmf),(8,I y2),(9,I y10)],[(.own 1 (y11.map Qac)),(.own 1 [[Qji]]),(Qjh p4),(.own 1 [[I p5]]),(.own 1 [[I p6]])]⟩) (fun t h=>?_) ?_
    ·subst hk_k15
     refine wsq<|Qas ?_
     obtain⟨hi16,h⟩:=cko h
     obtain⟨hi16a,hi16b⟩:=Qcx hi16
     obtain⟨x17,hg18,h⟩:=bno h
     obtain⟨hi19,h⟩:=cko h
     obtain⟨hi19a,hi19b⟩:=Qcx hi19
     obtain⟨x20,hg21,h⟩:=bno h
     obtain⟨hi22,h⟩:=cko h
     obtain⟨hi22a,hi22b⟩:=Qcx hi22
     obtain⟨x23,hg24,h⟩:=bno h
     obtain⟨hi25,h⟩:=cko h
     obtain⟨hi25a,hi25b⟩:=Qcx hi25
     obtain⟨x26,hg27,h⟩:=bno h
     refine wy1 tbk [(8,rb [(.tmp 42,(.own 0 1 (0) p0)),(.tmp 44,(I (w64 (y10-1))))] [(0,(.own 1 (y11.map Qac)))] (.ref 0 1 ((w64 (y10-1)).toNat) 0)),(9,rb [(.tmp 45,(.ref 0 1 ((w64 (y10-1)).toNat) 0))] [(0,(.own 1 (y11.map Qac)))] (I x17)),(12,rb [(.tmp 47,(.own 0 1 (0) p0)),(.tmp 48,I y10)] [(0,(.own 1 (y11.map Qac)))] (.ref 0 1 y10.toNat 0)),(13,rb [(.tmp 49,(.ref 0 1 y10.toNat 0))] [(0,(.own 1 (y11.map Qac)))] (I x20)),(14,rb [(.tmp 37,(.own 0 1 (0) p0)),(.tmp 38,I y10)] [(0,(.own 1 (y11.map Qac)))] (.ref 0 1 y10.toNat 0)),(15,⟨[(.tmp 51,(.ref 0 1 y10.toNat 0)),(.tmp 46,I x17)],[(0,(.own 1 (y11.map Qac)))],.any,[(0,(.own 1 ((y11.set y10.toNat x17:List Int).map Qac)))],false⟩),(16,rb [(.tmp 39,(.own 0 1 (0) p0)),(.tmp 41,(I (w64 (y10-1))))] [(0,(.own 1 ((y11.set y10.toNat x17:List Int).map Qac)))] (.ref 0 1 ((w64 (y10-1)).toNat) 0)),(17,⟨[(.tmp 52,(.ref 0 1 ((w64 (y10-1)).toNat) 0)),(.tmp 50,I x20)],[(0,(.own 1 ((y11.set y10.toNat x17:List Int).map Qac)))],.any,[(0,(.own 1 (((y11.set y10.toNat x17).set ((w64 (y10-1)).toNat) x20:List Int).map Qac)))],false⟩)] ⟨aio rfl underlying27 ti3 (odt hi16a) (odt hi16b) (Nat.zero_add _),ald rfl ti3 (by decide) (mgt Qac hg18) (nle rfl) rfl,aio rfl underlying27 ti3 (odt hi19a) (odt hi19b) (Nat.zero_add _),ald rfl ti3 (by decide) (mgt Qac hg21) (nle rfl) rfl,aio rfl underlying27 ti3 (odt hi22a) (odt hi22b) (Nat.zero_add _),ast rfl ti3 (by rfl) (mgt Qac hg24) (nle rfl) (Qd2 Qac rfl),aio rfl underlying27 ti3 (odt hi25a) (odt hi25b) (Nat.zero_add _),ast rfl ti3 (by rfl) (mgt Qac hg27) (nle rfl) (Qd2 Qac rfl),tv⟩<|bln<|thn<|wxz1<|thn ?_
     exact arm (mto (n:=53) [(0,(.own 0 1 (0) p0)),(1,I p1),(2,I p2),(3,Qmf),(8,I y2),(9,(I (w64 (y10-1))))] [0,1,2,3,4] [(.own 1 (((y11.set y10.toNat x17).set ((w64 (y10-1)).toNat) x20:List Int).map Qac)),(.own 1 [[Qji]]),(Qjh p4),(.own 1 [[I p5]]),(.own 1 [[I p6]])] hφ0 (pc (.rn (Qaz rfl)) (pw (pw (pc (.rn (Qa9 rn0 (rnc (rqr rfl) (rnc (rqr rfl) rn0)))) (pw (pw pn)))))) (qc (spr Qae) (qb (lc (.rn (Qa9 rn0 (rnc (rqr rfl) (rnc (rqr rfl) rn0)))) ln) (qb (lc (rnd Qae) ln) (qb (lc rwl ln) (qb (lc rwl ln) qn)))))) (ih (w64 (y10-1),(y11.set y10.toNat x17).set ((w64 (y10-1)).toNat) x20) h)
    ·skip
     refine bfe h (fun hb28 h=>?_) fun hb28 h=>?_
     ·obtain⟨hi29,h⟩:=cko h
      obtain⟨hi29a,hi29b⟩:=Qcx hi29
      obtain⟨x30,hg31,h⟩:=bno h
      obtain⟨hi32,h⟩:=cko h
      obtain⟨hi32a,hi32b⟩:=Qcx hi32
      obtain⟨x33,hg34,h⟩:=bno h
      obtain⟨x36,hf35,h⟩:=bno h
      refine wxd tbk [(3,rp [(.tmp 20,(B ((decide (y10>p1)))))] (B true)),(7,rb [(.tmp 21,B true),(.tmp 23,(.own 0 1 (0) p0)),(.tmp 24,I y10)] [(0,(.own 1 (y11.map Qac)))] (.ref 0 1 y10.toNat 0)),(8,rb [(.tmp 21,B true),(.tmp 25,(.ref 0 1 y10.toNat 0))] [(0,(.own 1 (y11.map Qac)))] (I x30)),(12,rb [(.tmp 21,B true),(.tmp 27,(.own 0 1 (0) p0)),(.tmp 29,(I (w64 (y10-1))))] [(0,(.own 1 (y11.map Qac)))] (.ref 0 1 ((w64 (y10-1)).toNat) 0)),(13,rb [(.tmp 21,B true),(.tmp 30,(.ref 0 1 ((w64 (y10-1)).toNat) 0))] [(0,(.own 1 (y11.map Qac)))] (I x33)),(14,⟨[(.tmp 21,B true),(.tmp 22,Qmf),(.tmp 26,I x30),(.tmp 31,I x33)],[(1,.own 1 [[Qji]]),(2,(Qjh p4)),(3,.own 1 [[I p5]]),(4,.own 1 [[I p6]])],I x36,[(1,.own 1 [[Qji]]),(2,(Qjh p4)),(3,.own 1 [[I p5]]),(4,.own 1 [[I p6]])],false⟩)] ⟨asb hb28 (amv rfl),ag_ (aio rfl underlying27 ti3 (odt hi29a) (odt hi29b) (Nat.zero_add _)),ag_ (ald rfl ti3 (by decide) (mgt Qac hg31) (nle rfl) rfl),ag_ (aio rfl underlying27 ti3 (odt hi32a) (odt hi32b) (Nat.zero_add _)),ag_ (ald rfl ti3 (by decide) (mgt Qac hg34) (nle rfl) rfl),ag_ (Qar (first:=[]) (cap:=[.ref 1 1 0 0,.ref 2 1 0 0]) (vs:=[I x30,I x33]) (σr:=[(.own 1 [[Qji]]),(Qjh p4),(.own 1 [[I p5]]),(.own 1 [[I p6]])]) (σr':=[(.own 1 [[Qji]]),(Qjh p4),(.own 1 [[I p5]]),(.own 1 [[I p6]])]) (res':=(I x36)) [1,2,3,4] rfl Q43 (Qju N x30 x33 p4 p5 p6 _ hf35) rfl (Qbd (rncc (rnc (Qax rfl) (rnc (Qax rfl) rn0)))) (slc (Qao (rnc (Qa9 rn0 (rnc (Qax rfl) (rnc (Qax rfl) rn0))) rn0)) (slc (Qao (rnc (pld Qae) rn0)) (slc (Qao (rnc (.plain _ nll) rn0)) (slc (Qao (rnc (.plain _ nll) rn0)) Qaq)))) (slc (Qao (rnc (Qa9 rn0 (rnc (Qa5 rfl) (rnc (Qa5 rfl) rn0))) rn0)) (slc (Qao (rnc (pld Qae) rn0)) (slc (Qao (rnc (.plain _ nll) rn0)) (slc (Qao (rnc (.plain _ nll) rn0)) Qaq)))) (.plain _ nll) rfl rfl rfl),tv⟩ ?_
      refine bfe h (fun hc37 h=>?_) fun hc37 h=>?_
      ·exact wft hc37<|Qat<|thn<|⟨(),h,(mto (n:=53) [(0,(.own 0 1 (0) p0)),(1,I p1),(2,I p2),(3,Qmf),(8,I y2),(9,I y10)] [0,1,2,3,4] [(.own 1 (y11.map Qac)),(.own 1 [[Qji]]),(Qjh p4),(.own 1 [[I p5]]),(.own 1 [[I p6]])] hφ0 (pc (.rn (Qaz rfl)) (pw (pw (pc (.rn (Qa9 rn0 (rnc (rqr rfl) (rnc (rqr rfl) rn0)))) (pw (pw pn)))))) (qc (spr Qae) (qb (lc (.rn (Qa9 rn0 (rnc (rqr rfl) (rnc (rqr rfl) rn0)))) ln) (qb (lc (rnd Qae) ln) (qb (lc rwl ln) (qb (lc rwl ln) qn))))))⟩
      ·exact wfn hc37<|Qbm<|Qa4<|Qa4<|Qbl rfl<|bln<|thn<|⟨(y11),h,(mto (n:=53) [(0,(.own 0 1 (0) p0)),(1,I p1),(2,I p2),(3,Qmf),(8,I y2)] [0,1,2,3,4] [(.own 1 (y11.map Qac)),(.own 1 [[Qji]]),(Qjh p4),(.own 1 [[I p5]]),(.own 1 [[I p6]])] hφ0 (pc (.rn (Qaz rfl)) (pw (pw (pc (.rn (Qa9 rn0 (rnc (rqr rfl) (rnc (rqr rfl) rn0)))) (pw pn))))) (qc (spr Qae) (qb (lc (.rn (Qa9 rn0 (rnc (rqr rfl) (rnc (rqr rfl) rn0)))) ln) (qb (lc (rnd Qae) ln) (qb (lc rwl ln) (qb (lc rwl ln) qn))))))⟩
     ·exact wxd tbk [(3,rp [(.tmp 20,(B ((decide (y10>p1)))))] (B false))] ⟨asb hb28 (amv rfl),tv⟩<|wfa<|Qbm<|Qa4<|Qa4<|Qbl rfl<|bln<|thn<|⟨(y11),h,(mto (n:=53) [(0,(.own 0 1 (0) p0)),(1,I p1),(2,I p2),(3,Qmf),(8,I y2)] [0,1,2,3,4] [(.own 1 (y11.map Qac)),(.own 1 [[Qji]]),(Qjh p4),(.own 1 [[I p5]]),(.own 1 [[I p6]])] hφ0 (pc (.rn (Qaz rfl)) (pw (pw (pc (.rn (Qa9 rn0 (rnc (rqr rfl) (rnc (rqr rfl) rn0)))) (pw pn))))) (qc (spr Qae) (qb (lc (.rn (Qa9 rn0 (rnc (rqr rfl) (rnc (rqr rfl) rn0)))) ln) (qb (lc (rnd Qae) ln) (qb (lc rwl ln) (qb (lc rwl ln) qn))))))⟩
  ·refine wfn hc7<|Qbm<|Qa4<|Qa4<|Qbl rfl ?_
   obtain rfl:=osi h
   exact⟨_,(mto (n:=53) (l':=[]) (own':=[(.own 1 (y3.map Qac)),(.own 1 [[Qji]]),(Qjh p4),(.own 1 [[I p5]]),(.own 1 [[I p6]])]) [] [0,1,2,3,4] [(.own 1 (y3.map Qac)),(.own 1 [[Qji]]),(Qjh p4),(.own 1 [[I p5]]),(.own 1 [[I p6]])] hφ0 pn (qc (spr Qae) (qb (lc (.rn (Qa9 rn0 (rnc (rqr rfl) (rnc (rqr rfl) rn0)))) ln) (qb (lc (rnd Qae) ln) (qb (lc rwl ln) (qb (lc rwl ln) qn)))))),Qca (vs:=[]) tv rfl (NLt.tup _ nl0) (by kernel_rfl) (Qai (Qbp Qae _) (Qai (Qav (nlc (NLt.fn _ _ _ nl0 (nlc (NLt.ref _ _ _ _ (by decide)) (nlc (NLt.ref _ _ _ _ (by decide)) nl0))) nl0)) (Qai (Qav (nlc (NLt.of0 (nld Qae _)) nl0)) (Qai (Qav (nlc (NLt.of0 nll) nl0)) (Qai (Qav (nlc (NLt.of0 nll) nl0)) Qbe)))))⟩
def Qcn (N:Nat) (p1:Int) (k9:Unit→Option (List Int)):Nat→Option (List Int)
  |0=>none
  |n10+1=>
    bif (decide (40≤p1)) then
     none
    else
     k9 ()
def Qco (N:Nat) (p1:Int) (x6:List Int):Nat→Option (List Int)
  |0=>none
  |n7+1=>
    bif (decide (20<p1)) then
     Qdr (fun _=>
       none) fun k9:Unit→Option (List Int)=>
     Qcn N p1 k9 N
    else
     some x6
def Qb0 (N p0:Nat) (p1:Int) (p3:List Int) (k4:Int×(List Int)→Option (List Int)) (p4 p5:Int):Nat→Int→Int→(List Int)→Option (List Int)
  |0,_,_,_=>none
  |n18+1,y12,y13,y14=>
    bif (decide (y13≤p1)) then
     (Qcl N p0 y12 y13 y14 p3 p4 p5).bind fun x21=>
     Qb0 N p0 p1 p3 k4 p4 p5 n18 y13 (w64 (y13+20)) x21
    else
     k4 (y12,y14)
def Qea (N p0:Nat) (p1:Int) (p2 p3:List Int) (p4 p5:Int):Option (List Int):=
  Qdr (fun ⟨y2,y3⟩=>
    (Qcl N p0 y2 p1 y3 p3 p4 p5).bind fun x6=>
    Qco N p1 x6 N) fun k4:Int×(List Int)→Option (List Int)=>
  Qb0 N p0 p1 p3 k4 p4 p5 N 0 20 p2
def Qk1:AV:=.fn (.func 163) [] [(.ref 1 1 (0) 0),(.ref 2 1 (0) 0)]
def Qi7:AV:=.fn (.func 159) [] [(.ref 3 1 (0) 0),(.ref 4 1 (0) 0)]
def Qi6 (p3:List Int):Slot:=.own 1 [[(.dat 1 (p3.map Qac))]]
theorem Qhm (N p0:Nat) (p1:Int) (p2 p3:List Int) (p4 p5:Int) (r:List Int) (h:Qea N p0 p1 p2 p3 p4 p5=some r):Spec prog 164 [(.own 0 1 (0) p0),(I p1),Qk1] [(.own 1 (p2.map Qac)),(.own 1 [[Qi7]]),(Qi6 p3),(.own 1 [[(I p4)]]),(.own 1 [[(I p5)]])] (.tup []) [(.own 1 (r.map Qac)),(.own 1 [[Qi7]]),(Qi6 p3),(.own 1 [[(I p4)]]),(.own 1 [[(I p5)]])]:=by
  refine Qam func164 rfl 5 (nle rfl) (fun X φ0 w0 hφ0 hd0=>?_)
  unfold Qea at h
  refine Qbj<|wxz<|wxz ?_
  obtain⟨k4,hk_k4,h⟩:=jko h
  refine wjn (τ:=Int×(List Int)) (fun t=>k4 t=some r) (fun ⟨y2,y3⟩=>⟨mk 63 [(0,(.own 0 1 (0) p0)),(1,I p1),(2,Qk1),(6,I 20),(7,I y2)],[(.own 1 (y3.map Qac)),(.own 1 [[Qi7]]),(Qi6 p3),(.own 1 [[I p4]]),(.own 1 [[I p5]])]⟩) (fun t h=>?_) ?_
  ·subst hk_k4
   obtain⟨y2,y3⟩:=t
   obtain⟨x6,hf5,h⟩:=bno h
   refine wx tbk [(4,⟨_,_,_,_,false⟩)] ⟨Qar (first:=[]) (cap:=[]) (vs:=[(.own 0 1 (0) p0),I y2,I p1,Qk1]) (σr:=[(.own 1 (y3.map Qac)),(.own 1 [[Qi7]]),(Qi6 p3),(.own 1 [[I p4]]),(.own 1 [[I p5]])]) (σr':=[(.own 1 (x6.map Qac)),(.own 1 [[Qi7]]),(Qi6 p3),(.own 1 [[I p4]]),(.own 1 [[I p5]])]) (res':=(.tup [])) [0,1,2,3,4] rfl Qxx (Qdw N p0 y2 p1 y3 p3 p4 p5 _ hf5) rfl (Qbd (rnc (Qce rfl) (rncc (rnc (Qa9 rn0 (rnc (Qax rfl) (rnc (Qax rfl) rn0))) rn0)))) (slc (Qa3 Qae) (slc (Qao (rnc (Qa9 rn0 (rnc (Qax rfl) (rnc (Qax rfl) rn0))) rn0)) (slc (Qao (rnc (pld Qae) rn0)) (slc (Qao (rnc (.plain _ nll) rn0)) (slc (Qao (rnc (.plain _ nll) rn0)) Qaq))))) (slc (Qa3 Qae) (slc (Qao (rnc (Qa9 rn0 (rnc (Qa5 rfl) (rnc (Qa5 rfl) rn0))) rn0)) (slc (Qao (rnc (pld Qae) rn0)) (slc (Qao (rnc (.plain _ nll) rn0)) (slc (Qao (rnc (.plain _ nll) rn0)) Qaq))))) (.plain _ (NLt.tup _ nl0)) rfl rfl rfl,tv⟩<|Qas ?_
   refine wmr (mto (n:=63) (l':=[(0,(.own 0 1 (0) p0)),(1,I p1),(2,Qk1),(6,I 20)]) (own':=[(.own 1 (x6.map Qac)),(.own 1 [[Qi7]]),(Qi6 p3),(.own 1 [[I p4]]),(.own 1 [[I p5]])]) [(0,(.own 0 1 (0) p0)),(1,I p1),(2,Qk1),(6,I 20)] [0,1,2,3,4] [(.own 1 (x6.map Qac)),(.own 1 [[Qi7]]),(Qi6 p3),(.own 1 [[I p4]]),(.own 1 [[I p5]])] hφ0 (pc (.rn (Qaz rfl)) (pw (pc (.rn (Qa9 rn0 (rnc (rqr rfl) (rnc (rqr rfl) rn0)))) (pw pn)))) (qc (spr Qae) (qb (lc (.rn (Qa9 rn0 (rnc (rqr rfl) (rnc (rqr rfl) rn0)))) ln) (qb (lc (rnd Qae) ln) (qb (lc rwl ln) (qb (lc rwl ln) qn)))))) ?_
   refine Qb9 (τ:=Unit) (fun n t=>Qco N p1 x6 n=some r) (fun _=>⟨mk 63 [(0,(.own 0 1 (0) p0)),(1,I p1),(2,Qk1),(6,I 20)],[(.own 1 (x6.map Qac)),(.own 1 [[Qi7]]),(Qi6 p3),(.own 1 [[I p4]]),(.own 1 [[I p5]])]⟩) (fun t h=>by rw[Qco] at h;cases h) (fun n7 ih t h=>?_) N () h
   rw[Qco] at h
   skip
   refine wsq<|wxz ?_
   refine bfe h (fun hc8 h=>?_) fun hc8 h=>?_
   ·refine wft hc8<|Qat<|thn<|Qas<|wxz ?_
    obtain⟨k9,hk_k9,h⟩:=jko h
    refine wjn (τ:=Unit) (fun t=>k9 t=some r) (fun _=>⟨mk 63 [(0,(.own 0 1 (0) p0)),(1,I p1),(2,Qk1),(6,I 20),(7,I 0)],[(.own 1 (x6.map Qac)),(.own 1 [[Qi7]]),(Qi6 p3),(.own 1 [[I p4]]),(.own 1 [[I p5]])]⟩) (fun t h=>?_) ?_
    ·subst hk_k9
     refine wsq<|wxz<|wxz<|wft hc8 ?_
     cases h
    ·skip
     refine Qas<|wmr (mto (n:=63) (l':=[(0,(.own 0 1 (0) p0)),(1,I p1),(2,Qk1),(6,I 20),(7,I 0),(8,I 40)]) (own':=[(.own 1 (x6.map Qac)),(.own 1 [[Qi7]]),(Qi6 p3),(.own 1 [[I p4]]),(.own 1 [[I p5]])]) [(0,(.own 0 1 (0) p0)),(1,I p1),(2,Qk1),(6,I 20),(7,I 0),(8,I 40)] [0,1,2,3,4] [(.own 1 (x6.map Qac)),(.own 1 [[Qi7]]),(Qi6 p3),(.own 1 [[I p4]]),(.own 1 [[I p5]])] hφ0 (pc (.rn (Qaz rfl)) (pw (pc (.rn (Qa9 rn0 (rnc (rqr rfl) (rnc (rqr rfl) rn0)))) (pw (pw (pw pn)))))) (qc (spr Qae) (qb (lc (.rn (Qa9 rn0 (rnc (rqr rfl) (rnc (rqr rfl) rn0)))) ln) (qb (lc (rnd Qae) ln) (qb (lc rwl ln) (qb (lc rwl ln) qn)))))) ?_
     refine Qb9 (τ:=Unit) (fun n t=>Qcn N p1 k9 n=some r) (fun _=>⟨mk 63 [(0,(.own 0 1 (0) p0)),(1,I p1),(2,Qk1),(6,I 20),(7,I 0),(8,I 40)],[(.own 1 (x6.map Qac)),(.own 1 [[Qi7]]),(Qi6 p3),(.own 1 [[I p4]]),(.own 1 [[I p5]])]⟩) (fun t h=>by rw[Qcn] at h;cases h) (fun n10 ih t h=>?_) N () h
     rw[Qcn] at h
     skip
     refine wsq<|wxz ?_
     refine bfe h (fun hc11 h=>?_) fun hc11 h=>?_
     ·refine wft hc11<|Qat<|thn<|Qas ?_
      cases h
     ·exact wfn hc11<|Qbm<|Qa4<|Qa4<|Qbl rfl<|thn<|⟨(),h,(mto (n:=63) [(0,(.own 0 1 (0) p0)),(1,I p1),(2,Qk1),(6,I 20),(7,I 0)] [0,1,2,3,4] [(.own 1 (x6.map Qac)),(.own 1 [[Qi7]]),(Qi6 p3),(.own 1 [[I p4]]),(.own 1 [[I p5]])] hφ0 (pc (.rn (Qaz rfl)) (pw (pc (.rn (Qa9 rn0 (rnc (rqr rfl) (rnc (rqr rfl) rn0)))) (pw (pw pn))))) (qc (spr Qae) (qb (lc (.rn (Qa9 rn0 (rnc (rqr rfl) (rnc (rqr rfl) rn0)))) ln) (qb (lc (rnd Qae) ln) (qb (lc rwl ln) (qb (lc rwl ln) qn))))))⟩
   ·refine wfn hc8<|Qbm<|Qa4<|Qa4<|Qbl rfl ?_
    obtain rfl:=osi h
    exact⟨_,(mto (n:=63) (l':=[]) (own':=[(.own 1 (x6.map Qac)),(.own 1 [[Qi7]]),(Qi6 p3),(.own 1 [[I p4]]),(.own 1 [[I p5]])]) [] [0,1,2,3,4] [(.own 1 (x6.map Qac)),(.own 1 [[Qi7]]),(Qi6 p3),(.own 1 [[I p4]]),(.own 1 [[I p5]])] hφ0 pn (qc (spr Qae) (qb (lc (.rn (Qa9 rn0 (rnc (rqr rfl) (rnc (rqr rfl) rn0)))) ln) (qb (lc (rnd Qae) ln) (qb (lc rwl ln) (qb (lc rwl ln) qn)))))),Qca (vs:=[]) tv rfl (NLt.tup _ nl0) (by kernel_rfl) (Qai (Qbp Qae _) (Qai (Qav (nlc (NLt.fn _ _ _ nl0 (nlc (NLt.ref _ _ _ _ (by decide)) (nlc (NLt.ref _ _ _ _ (by decide)) nl0))) nl0)) (Qai (Qav (nlc (NLt.of0 (nld Qae _)) nl0)) (Qai (Qav (nlc (NLt.of0 nll) nl0)) (Qai (Qav (nlc (NLt.of0 nll) nl0)) Qbe)))))⟩
  ·skip
   refine Qas<|wmr (mto (n:=63) (l':=[(0,(.own 0 1 (0) p0)),(1,I p1),(2,Qk1),(6,I 20),(7,I 0),(8,I 20)]) (own':=[(.own 1 (p2.map Qac)),(.own 1 [[Qi7]]),(Qi6 p3),(.own 1 [[I p4]]),(.own 1 [[I p5]])]) [(0,(.own 0 1 (0) p0)),(1,I p1),(2,Qk1),(6,I 20),(7,I 0),(8,I 20)] [0,1,2,3,4] [(.own 1 (p2.map Qac)),(.own 1 [[Qi7]]),(Qi6 p3),(.own 1 [[I p4]]),(.own 1 [[I p5]])] hφ0 (pc (.rn (Qaz rfl)) (pw (pc (.rn (Qa9 rn0 (rnc (rqr rfl) (rnc (rqr rfl) rn0)))) (pw (pw (pw pn)))))) (qc (spr Qae) (qb (lc (.rn (Qa9 rn0 (rnc (rqr rfl) (rnc (rqr rfl) rn0)))) ln) (qb (lc (rnd Qae) ln) (qb (lc rwl ln) (qb (lc rwl ln) qn)))))) ?_
   refine Qb9 (τ:=Int×Int×(List Int)) (fun n t=>Qb0 N p0 p1 p3 k4 p4 p5 n t.1 t.2.1 t.2.2=some r) (fun ⟨y12,y13,y14⟩=>⟨mk 63 [(0,(.own 0 1 (0) p0)),(1,I p1),(2,Qk1),(6,I 20),(7,I y12),(8,I y13)],[(.own 1 (y14.map Qac)),(.own 1 [[Qi7]]),(Qi6 p3),(.own 1 [[I p4]]),(.own 1 [[I p5]])]⟩) (fun t h=>by rw[Qb0] at h;cases h) (fun n18 ih t h=>?_) N (0,20,p2) h
   obtain⟨y12,y13,y14⟩:=t
   rw[Qb0] at h
   skip
   refine wsq<|wxz ?_
   refine bfe h (fun hc19 h=>?_) fun hc19 h=>?_
   ·refine wft hc19<|Qat<|thn<|Qas ?_
    obtain⟨x21,hf20,h⟩:=bno h
    refine wx tbk [(4,⟨_,_,_,_,false⟩)] ⟨Qar (first:=[]) (cap:=[]) (vs:=[(.own 0 1 (0) p0),I y12,I y13,Qk1]) (σr:=[(.own 1 (y14.map Qac)),(.own 1 [[Qi7]]),(Qi6 p3),(.own 1 [[I p4]]),(.own 1 [[I p5]])]) (σr':=[(.own 1 (x21.map Qac)),(.own 1 [[Qi7]]),(Qi6 p3),(.own 1 [[I p4]]),(.own 1 [[I p5]])]) (res':=(.tup [])) [0,1,2,3,4] rfl Qxx (Qdw N p0 y12 y13 y14 p3 p4 p5 _ hf20) rfl (Qbd (rnc (Qce rfl) (rncc (rnc (Qa9 rn0 (rnc (Qax rfl) (rnc (Qax rfl) rn0))) rn0)))) (slc (Qa3 Qae) (slc (Qao (rnc (Qa9 rn0 (rnc (Qax rfl) (rnc (Qax rfl) rn0))) rn0)) (slc (Qao (rnc (pld Qae) rn0)) (slc (Qao (rnc (.plain _ nll) rn0)) (slc (Qao (rnc (.plain _ nll) rn0)) Qaq))))) (slc (Qa3 Qae) (slc (Qao (rnc (Qa9 rn0 (rnc (Qa5 rfl) (rnc (Qa5 rfl) rn0))) rn0)) (slc (Qao (rnc (pld Qae) rn0)) (slc (Qao (rnc (.plain _ nll) rn0)) (slc (Qao (rnc (.plain _ nll) rn0)) Qaq))))) (.plain _ (NLt.tup _ nl0)) rfl rfl rfl,tv⟩<|wxz<|wxz1<|bln<|thn ?_
    exact arm (mto (n:=63) [(0,(.own 0 1 (0) p0)),(1,I p1),(2,Qk1),(6,I 20),(7,I y13),(8,(I (w64 (y13+20))))] [0,1,2,3,4] [(.own 1 (x21.map Qac)),(.own 1 [[Qi7]]),(Qi6 p3),(.own 1 [[I p4]]),(.own 1 [[I p5]])] hφ0 (pc (.rn (Qaz rfl)) (pw (pc (.rn (Qa9 rn0 (rnc (rqr rfl) (rnc (rqr rfl) rn0)))) (pw (pw (pw pn)))))) (qc (spr Qae) (qb (lc (.rn (Qa9 rn0 (rnc (rqr rfl) (rnc (rqr rfl) rn0)))) ln) (qb (lc (rnd Qae) ln) (qb (lc rwl ln) (qb (lc rwl ln) qn)))))) (ih (y13,w64 (y13+20),x21) h)
   ·exact wfn hc19<|Qbm<|Qa4<|Qa4<|Qbl rfl<|thn<|⟨(y12,y14),h,(mto (n:=63) [(0,(.own 0 1 (0) p0)),(1,I p1),(2,Qk1),(6,I 20),(7,I y12)] [0,1,2,3,4] [(.own 1 (y14.map Qac)),(.own 1 [[Qi7]]),(Qi6 p3),(.own 1 [[I p4]]),(.own 1 [[I p5]])] hφ0 (pc (.rn (Qaz rfl)) (pw (pc (.rn (Qa9 rn0 (rnc (rqr rfl) (rnc (rqr rfl) rn0)))) (pw (pw pn))))) (qc (spr Qae) (qb (lc (.rn (Qa9 rn0 (rnc (rqr rfl) (rnc (rqr rfl) rn0)))) ln) (qb (lc (rnd Qae) ln) (qb (lc rwl ln) (qb (lc rwl ln) qn))))))⟩
def Qda (N p0:Nat) (p1 p2:List Int) (p3 p4:Int):Option (List Int):=
  (Qea N p0 ((p0:Nat):Int) p1 p2 p3 p4).bind fun x3=>
  some x3
def Zas:AV:=.fn (.func 163) [] [(.ref 1 1 (0) 0),(.ref 2 1 (0) 0)]
def Qyq:AV:=.fn (.func 159) [] [(.ref 3 1 (0) 0),(.ref 4 1 (0) 0)]
def Qyp (p2:List Int):Slot:=.own 1 [[(.dat 1 (p2.map Qac))]]
theorem Qge (N p0:Nat) (p1 p2:List Int) (p3 p4:Int) (r:List Int) (h:Qda N p0 p1 p2 p3 p4=some r):Spec prog 162 [(.own 0 1 (0) p0),Zas] [(.own 1 (p1.map Qac)),(.own 1 [[Qyq]]),(Qyp p2),(.own 1 [[(I p3)]]),(.own 1 [[(I p4)]])] (.tup []) [(.own 1 (r.map Qac)),(.own 1 [[Qyq]]),(Qyp p2),(.own 1 [[(I p3)]]),(.own 1 [[(I p4)]])]:=by
  refine Qam func162 rfl 5 (nle rfl) (fun X φ0 w0 hφ0 hd0=>?_)
  unfold Qda at h
  refine Qbj ?_
  obtain⟨x3,hf2,h⟩:=bno h
  refine wx1 tbk [(2,rp [(.tmp 5,(.own 0 1 (0) p0))] (I (((p0:Nat):Int)))),(4,⟨_,_,_,_,false⟩)] ⟨aln rfl underlying27 rfl,Qar (first:=[]) (cap:=[]) (vs:=[(.own 0 1 (0) p0),(I (((p0:Nat):Int))),Zas]) (σr:=[(.own 1 (p1.map Qac)),(.own 1 [[Qyq]]),(Qyp p2),(.own 1 [[I p3]]),(.own 1 [[I p4]])]) (σr':=[(.own 1 (x3.map Qac)),(.own 1 [[Qyq]]),(Qyp p2),(.own 1 [[I p3]]),(.own 1 [[I p4]])]) (res':=(.tup [])) [0,1,2,3,4] rfl Q42 (Qhm N p0 ((p0:Nat):Int) p1 p2 p3 p4 _ hf2) rfl (Qbd (rnc (Qce rfl) (rnc (.plain _ nll) (rnc (Qa9 rn0 (rnc (Qax rfl) (rnc (Qax rfl) rn0))) rn0)))) (slc (Qa3 Qae) (slc (Qao (rnc (Qa9 rn0 (rnc (Qax rfl) (rnc (Qax rfl) rn0))) rn0)) (slc (Qao (rnc (pld Qae) rn0)) (slc (Qao (rnc (.plain _ nll) rn0)) (slc (Qao (rnc (.plain _ nll) rn0)) Qaq))))) (slc (Qa3 Qae) (slc (Qao (rnc (Qa9 rn0 (rnc (Qa5 rfl) (rnc (Qa5 rfl) rn0))) rn0)) (slc (Qao (rnc (pld Qae) rn0)) (slc (Qao (rnc (.plain _ nll) rn0)) (slc (Qao (rnc (.plain _ nll) rn0)) Qaq))))) (.plain _ (NLt.tup _ nl0)) rfl rfl rfl,tv⟩ ?_
  obtain rfl:=osi h
  exact⟨_,(mto (n:=9) (l':=[]) (own':=[(.own 1 (x3.map Qac)),(.own 1 [[Qyq]]),(Qyp p2),(.own 1 [[I p3]]),(.own 1 [[I p4]])]) [] [0,1,2,3,4] [(.own 1 (x3.map Qac)),(.own 1 [[Qyq]]),(Qyp p2),(.own 1 [[I p3]]),(.own 1 [[I p4]])] hφ0 pn (qc (spr Qae) (qb (lc (.rn (Qa9 rn0 (rnc (rqr rfl) (rnc (rqr rfl) rn0)))) ln) (qb (lc (rnd Qae) ln) (qb (lc rwl ln) (qb (lc rwl ln) qn)))))),Qca (vs:=[]) tv rfl (NLt.tup _ nl0) (by kernel_rfl) (Qai (Qbp Qae _) (Qai (Qav (nlc (NLt.fn _ _ _ nl0 (nlc (NLt.ref _ _ _ _ (by decide)) (nlc (NLt.ref _ _ _ _ (by decide)) nl0))) nl0)) (Qai (Qav (nlc (NLt.of0 (nld Qae _)) nl0)) (Qai (Qav (nlc (NLt.of0 nll) nl0)) (Qai (Qav (nlc (NLt.of0 nll) nl0)) Qbe)))))⟩
def Qc1 (N:Nat) (p0:List Int) (k4:(List Int)→Option (List Int)):Nat→Int→(List Int)→Option (List Int)
  |0,_,_=>none
  |n13+1,y9,y10=>
    bif (decide (y9<(p0.length:Int))) then
     chk (decide ((y10.length+([y9]).length)*8≤140737488355328))<|
     Qc1 N p0 k4 n13 (w64 (y9+1)) (y10++([y9]))
    else
     k4 (y10)
def Qgc (N:Nat) (p0:List Int) (p1 p2:Int):Option (List Int):=
  Qdr (fun y3=>
    chk (!y3.isEmpty)<|
    (Qda N y3.length y3 p0 p1 p2).bind fun x7=>
    chk (decide (y3.length≤x7.length))<|
    some (x7.take y3.length)) fun k4:(List Int)→Option (List Int)=>
  Qc1 N p0 k4 N 0 ([]:List Int)
def Qo6:AV:=.fn (.func 159) [] [(.ref 0 1 (0) 0),(.ref 1 1 (0) 0)]
def Qpo (p0:List Int):Slot:=.own 1 [[(.dat 1 (p0.map Qac))]]
def Q37:AV:=.fn (.func 163) [] [(.ref 3 1 (0) 0),(.ref 2 1 (0) 0)]
def Qwx (x7 y3:List Int):AV:=.dat 1 ((x7.take y3.length:List Int).map Qac)
def Zat:Slot:=.gro 1 ((([]:List Int):List Int).map Qac)
theorem Qky (N:Nat) (p0:List Int) (p1 p2:Int) (r:List Int) (h:Qgc N p0 p1 p2=some r):Spec prog 158 [(.dat 1 (p0.map Qac)),Qo6] [(.own 1 [[(I p1)]]),(.own 1 [[(I p2)]])] (.dat 1 (r.map Qac)) [(.own 1 [[(I p1)]]),(.own 1 [[(I p2)]])]:=by
  refine Qam func158 rfl 2 (nle rfl) (fun X φ0 w0 hφ0 hd0=>?_)
  unfold Qgc at h
  refine Qbj<|wxz<|wxz ?_
  obtain⟨k4,hk_k4,h⟩:=jko h
  refine wjn (τ:=(List Int)) (fun t=>k4 t=some r) (fun y3=>⟨mk 21 [(2,.ref 2 1 0 0),(3,.ref 3 1 0 0),(5,(.gro 4 3 1 y3.length))],[(.own 1 [[I p1]]),(.own 1 [[I p2]]),(Qpo p0),(.own 1 [[Qo6]]),(.gro 1 (y3.map Qac))]⟩) (fun y3 h=>?_) ?_
  ·subst hk_k4
   obtain⟨hz5,h⟩:=cko h
   obtain⟨x7,hf6,h⟩:=bno h
   refine wx tbk [(1,rp [(.tmp 3,.ref 3 1 0 0),(.tmp 2,.ref 2 1 0 0)] Q37),(2,⟨[fu 162,(.tmp 17,(.gro 4 3 1 y3.length)),(.tmp 18,Q37)],[(4,(.gro 1 (y3.map Qac))),(3,.own 1 [[Qo6]]),(2,(Qpo p0)),(0,.own 1 [[I p1]]),(1,.own 1 [[I p2]])],(.tup []),[(4,(.own 1 (x7.map Qac))),(3,.own 1 [[Qo6]]),(2,(Qpo p0)),(0,.own 1 [[I p1]]),(1,.own 1 [[I p2]])],false⟩)] ⟨Qdv (fs:=[]) (cs:=[.ref 3 1 0 0,.ref 2 1 0 0]) rfl rfl rfl rfl,Qmy (bl':=[(4,(.own 1 (y3.map Qac))),(3,.own 1 [[Qo6]]),(2,(Qpo p0)),(0,.own 1 [[I p1]]),(1,.own 1 [[I p2]])]) ⟨rfl,SLess.gro (Qfm hz5),rfl,SLess.rfl,rfl,SLess.rfl,rfl,SLess.rfl,rfl,SLess.rfl,tv⟩ (awk (rd':=[fu 162,(.tmp 17,(.own 4 1 (0) y3.length)),(.tmp 18,Q37)]) ⟨rfl,lrf,rfl,Less.gro,rfl,lrf,tv⟩ (Qar (first:=[]) (cap:=[]) (vs:=[(.own 4 1 (0) y3.length),Q37]) (σr:=[(.own 1 (y3.map Qac)),(.own 1 [[Qo6]]),(Qpo p0),(.own 1 [[I p1]]),(.own 1 [[I p2]])]) (σr':=[(.own 1 (x7.map Qac)),(.own 1 [[Qo6]]),(Qpo p0),(.own 1 [[I p1]]),(.own 1 [[I p2]])]) (res':=(.tup [])) [4,3,2,0,1] rfl Q44 (Qge N y3.length y3 p0 p1 p2 _ hf6) rfl (Qbd (rnc (Qce rfl) (rnc (Qa9 rn0 (rnc (Qax rfl) (rnc (Qax rfl) rn0))) rn0))) (slc (Qa3 Qae) (slc (Qao (rnc (Qa9 rn0 (rnc (Qax rfl) (rnc (Qax rfl) rn0))) rn0)) (slc (Qao (rnc (pld Qae) rn0)) (slc (Qao (rnc (.plain _ nll) rn0)) (slc (Qao (rnc (.plain _ nll) rn0)) Qaq))))) (slc (Qa3 Qae) (slc (Qao (rnc (Qa9 rn0 (rnc (Qa5 rfl) (rnc (Qa5 rfl) rn0))) rn0)) (slc (Qao (rnc (pld Qae) rn0)) (slc (Qao (rnc (.plain _ nll) rn0)) (slc (Qao (rnc (.plain _ nll) rn0)) Qaq))))) (.plain _ (NLt.tup _ nl0)) rfl rfl rfl)),tv⟩<|wxz ?_
   obtain⟨hz8,h⟩:=cko h
   refine wmr (Q4v (n:=21) (l':=[(4,(.own 4 1 (0) y3.length))]) [(4,(.gro 4 3 1 y3.length))] (by kernel_rfl) (by kernel_rfl) ⟨rfl,Less.gro,tv⟩) ?_
   refine wmr (Q14 (n:=21) (l':=[(4,(Qwx x7 y3))]) 4 [(4,(.own 4 1 (0) y3.length))] (by kernel_rfl) (by kernel_rfl) (by kernel_rfl) ⟨rfl,(Qiy hz8),tv⟩ rfl) ?_
   refine wmr (mto (n:=21) (l':=[(4,(Qwx x7 y3))]) (own':=[(.own 1 [[I p1]]),(.own 1 [[I p2]])]) [(4,(Qwx x7 y3))] [0,1] [(.own 1 [[I p1]]),(.own 1 [[I p2]])] hφ0 (pc (rnd Qae) pn) (qb (lc rwl ln) (qb (lc rwl ln) qn)))<|Qaj ?_
   obtain rfl:=osi h
   exact⟨_,Mor.rfl,Qca (vs:=[(Qwx x7 y3)]) ⟨rot,tv⟩ rfl (NLt.of0 (nld Qae _)) (by kernel_rfl) (Qai (Qav (nlc (NLt.of0 nll) nl0)) (Qai (Qav (nlc (NLt.of0 nll) nl0)) Qbe))⟩
  ·skip
   refine wx tbk [(1,rp _ _)] ⟨alq 1 Qac p0 underlying27,tv⟩<|Qas ?_
   refine wmr (Mor.trans (Q4u 4 3 1 5 (by kernel_rfl) (by kernel_rfl)) (mto (n:=21) (l':=[(2,.ref 2 1 0 0),(3,.ref 3 1 0 0),(5,(.gro 4 3 1 (([]:List Int).length))),(8,(I ((p0.length:Int)))),(9,I 0)]) (own':=[(.own 1 [[I p1]]),(.own 1 [[I p2]]),(Qpo p0),(.own 1 [[Qo6]]),Zat]) [(2,.ref 2 1 0 0),(3,.ref 3 1 0 0),(5,(.gro 4 3 1 (([]:List Int).length))),(8,(I ((p0.length:Int)))),(9,I 0)] [0,1,2,3,4] [(.own 1 [[I p1]]),(.own 1 [[I p2]]),(Qpo p0),(.own 1 [[Qo6]]),Zat] hφ0 (prr (prr (pc (.rn (Qvq rfl)) (pw (pw pn))))) (qb (lc rwl ln) (qb (lc rwl ln) (qb (lc (rnd Qae) ln) (qb (lc (.rn (Qa9 rn0 (rnc (rqr rfl) (rnc (rqr rfl) rn0)))) ln) (qc (Qsf Qae) qn))))))) ?_
   refine Qb9 (τ:=Int×(List Int)) (fun n t=>Qc1 N p0 k4 n t.1 t.2=some r) (fun ⟨y9,y10⟩=>⟨mk 21 [(2,.ref 2 1 0 0),(3,.ref 3 1 0 0),(5,(.gro 4 3 1 y10.length)),(8,(I ((p0.length:Int)))),(9,I y9)],[(.own 1 [[I p1]]),(.own 1 [[I p2]]),(Qpo p0),(.own 1 [[Qo6]]),(.gro 1 (y10.map Qac))]⟩) (fun t h=>by rw[Qc1] at h;cases h) (fun n13 ih t h=>?_) N (0,([]:List Int)) h
   obtain⟨y9,y10⟩:=t
   rw[Qc1] at h
   skip
   refine wxz<|wsq ?_
   refine bfe h (fun hc14 h=>?_) fun hc14 h=>?_
   ·refine wft hc14<|Qat<|thn<|wsq<|Qas<|wxz ?_
    obtain⟨ha15,h⟩:=cko h
    refine wx1 tbk [(2,rp [(.tmp 13,I y9)] (.dat 1 (([y9]:List Int).map Qac))),(3,⟨[(.tmp 12,(.gro 4 3 1 y10.length)),(.tmp 14,(.dat 1 (([y9]:List Int).map Qac)))],[(4,(.gro 1 (y10.map Qac))),(5,.unused)],(.gro 5 3 1 ((y10++([y9])).length)),[(4,.dead),(5,(.gro 1 ((y10++([y9]):List Int).map Qac)))],false⟩)] ?_ ?_
    ·exact⟨Qbi (vs:=[I y9]) rfl underlying27 ti3 tz3 rfl (by decide) rfl (by decide) (by rfl) (by rfl) (by rfl) rfl,Qwg (c:=Qac) (a:=y10) (b:=[y9]) rfl underlying27 te3 rfl (Qfm rfl) (by rfl) ha15 (by decide),tv⟩
    exact bln<|thn<|wxz1<|thn<|arm (mto (n:=21) [(2,.ref 2 1 0 0),(3,.ref 3 1 0 0),(5,(.gro 5 3 1 ((y10++([y9])).length))),(8,(I ((p0.length:Int)))),(9,(I (w64 (y9+1))))] [0,1,2,3,5] [(.own 1 [[I p1]]),(.own 1 [[I p2]]),(Qpo p0),(.own 1 [[Qo6]]),(.gro 1 ((y10++([y9]):List Int).map Qac))] hφ0 (prr (prr (pc (.rn (Qvq rfl)) (pw (pw pn))))) (qb (lc rwl ln) (qb (lc rwl ln) (qb (lc (rnd Qae) ln) (qb (lc (.rn (Qa9 rn0 (rnc (rqr rfl) (rnc (rqr rfl) rn0)))) ln) (qc (Qsf Qae) qn)))))) (ih (w64 (y9+1),y10++([y9])) h)
   ·exact wfn hc14<|Qbm<|Qa4<|Qa4<|Qbl rfl<|thn<|⟨(y10),h,(mto (n:=21) [(2,.ref 2 1 0 0),(3,.ref 3 1 0 0),(5,(.gro 4 3 1 y10.length))] [0,1,2,3,4] [(.own 1 [[I p1]]),(.own 1 [[I p2]]),(Qpo p0),(.own 1 [[Qo6]]),(.gro 1 (y10.map Qac))] hφ0 (prr (prr (pc (.rn (Qvq rfl)) pn))) (qb (lc rwl ln) (qb (lc rwl ln) (qb (lc (rnd Qae) ln) (qb (lc (.rn (Qa9 rn0 (rnc (rqr rfl) (rnc (rqr rfl) rn0)))) ln) (qc (Qsf Qae) qn))))))⟩
def Qd8 (N:Nat) (p1:List Int) (y6:Int) (k10:(List Int)→Option (List Int)) (x13:List Int):Nat→Int→(List Int)→Option (List Int)
  |0,_,_=>none
  |n19+1,y15,y16=>
    bif (decide (y15<(((x13).take (y6.toNat-0)).length:Int))) then
     (getI ((x13).take (y6.toNat-0)) y15).bind fun x21=>
     chk (decide (0≤x21)&&decide (x21.toNat<(p1.length:Int).toNat))<|
     (y16[x21.toNat]?).bind fun x26=>
     chk (decide (0≤x21)&&decide (x21.toNat<(p1.length:Int).toNat))<|
     (y16[x21.toNat]?).bind fun _=>
     Qd8 N p1 y6 k10 x13 n19 (w64 (y15+1)) (y16.set x21.toNat (w64 (x26+1)))
    else
     k10 (y16)
def Qd7 (N:Nat) (p0:Int) (p1:List Int) (y3:Int) (k8:Int×(List Int)→Option (List Int)):Nat→Int→Int→(List Int)→Option (List Int)
  |0,_,_,_=>none
  |n37+1,y31,y32,y33=>
    bif (decide (y32<(p1.length:Int))) then
     (getI p1 y32).bind fun x39=>
     chk (y3 != 0)<|
     chk (decide (0≤y32)&&decide (y32.toNat<(p1.length:Int).toNat))<|
     (y33[y32.toNat]?).bind fun _=>
     chk (decide (0≤y32)&&decide (y32.toNat<(p1.length:Int).toNat))<|
     ((y33.set y32.toNat (w64 ((w64 (p0*x39)).tdiv y3)))[y32.toNat]?).bind fun x48=>
     Qd7 N p0 p1 y3 k8 n37 (w64 (y31-x48)) (w64 (y32+1)) (y33.set y32.toNat (w64 ((w64 (p0*x39)).tdiv y3)))
    else
     k8 (y31,y33)
def Qd6 (N:Nat) (p1:List Int) (k4:Int→Option (List Int)):Nat→Int→Int→Option (List Int)
  |0,_,_=>none
  |n54+1,y50,y51=>
    bif (decide (y50<(p1.length:Int))) then
     (getI p1 y50).bind fun x56=>
     Qd6 N p1 k4 n54 (w64 (y50+1)) (w64 (y51+x56))
    else
     k4 (y51)
def Qj8 (N:Nat) (p0:Int) (p1:List Int):Option (List Int):=
  Qdr (fun y3=>
    chk (decide (0≤(p1.length:Int))&&decide (8*(p1.length:Int)≤281474976710656)&&decide ((p1.length:Int)≤9223372036854775807))<|
    Qdr (fun ⟨y6,y7⟩=>
      Qdr (fun y9=>
        chk (decide ((p1.length:Int).toNat≤y9.length))<|
        some (y9.take ((p1.length:Int).toNat))) fun k10:(List Int)→Option (List Int)=>
      (Qgc N p1 p0 y3).bind fun x13=>
      chk (decide (0≤0)&&decide (0≤y6)&&decide (y6≤(x13.length:Int)))<|
      Qd8 N p1 y6 k10 x13 N 0 y7) fun k8:Int×(List Int)→Option (List Int)=>
    Qd7 N p0 p1 y3 k8 N p0 0 (List.replicate (p1.length:Int).toNat 0)) fun k4:Int→Option (List Int)=>
  Qd6 N p1 k4 N 0 0
def Zau (p1:List Int):Slot:=.own 1 ((List.replicate (p1.length:Int).toNat 0:List Int).map Qac)
def Qwz (y9 p1:List Int):AV:=.dat 1 ((y9.take ((p1.length:Int).toNat):List Int).map Qac)
def Q69:AV:=.fn (.func 159) [] [(.ref 0 1 (0) 0),(.ref 1 1 (0) 0)]
def Qti (x13:List Int) (y6:Int):AV:=.dat 1 (((x13).take (y6.toNat-0):List Int).map Qac)
def Qwy (y33:List Int) (y32 p0:Int) (x39 y3:Int):Slot:=.own 1 ((y33.set y32.toNat (w64 ((w64 (p0*x39)).tdiv y3)):List Int).map Qac)
theorem Qpb (N:Nat) (p0:Int) (p1 r:List Int) (h:Qj8 N p0 p1=some r):Spec prog 153 [(I p0),(.dat 1 (p1.map Qac))] [] (.dat 1 (r.map Qac)) []:=by
  refine Qam func153 rfl 0 (nle rfl) (fun X φ0 w0 hφ0 hd0=>?_)
  unfold Qj8 at h
  refine Qbj<|wxz<|wxz ?_
  obtain⟨k4,hk_k4,h⟩:=jko h
  refine wjn (τ:=Int) (fun t=>k4 t=some r) (fun y3=>⟨mk 68 [(1,(.dat 1 (p1.map Qac))),(2,.ref 0 1 0 0),(5,.ref 1 1 0 0)],[(.own 1 [[I p0]]),(.own 1 [[I y3]])]⟩) (fun y3 h=>?_) ?_
  ·subst hk_k4
   obtain⟨hm5,h⟩:=cko h
   refine wxd tbk [(1,rp _ _),(2,⟨[(.tmp 25,(I ((p1.length:Int)))),(.tmp 25,(I ((p1.length:Int))))],[(2,.unused)],(.own 2 1 (0) ((p1.length:Int).toNat)),[(2,(Zau p1))],false⟩)] ⟨alq 1 Qac p1 underlying27,Qlw rfl underlying27 te3 tz3 rfl (Qwi hm5) rfl (Qwh hm5) (Qyj hm5) (Qvs Qac rfl),tv⟩ ?_
   obtain⟨k8,hk_k8,h⟩:=jko h
   refine wjn (τ:=Int×(List Int)) (fun t=>k8 t=some r) (fun ⟨y6,y7⟩=>⟨mk 68 [(1,(.dat 1 (p1.map Qac))),(2,.ref 0 1 0 0),(5,.ref 1 1 0 0),(8,(.own 2 1 (0) ((p1.length:Int).toNat))),(9,I y6)],[(.own 1 [[I p0]]),(.own 1 [[I y3]]),(.own 1 (y7.map Qac))]⟩) (fun t h=>?_) ?_
   ·subst hk_k8
    obtain⟨y6,y7⟩:=t
    obtain⟨k10,hk_k10,h⟩:=jko h
    refine wjn (τ:=(List Int)) (fun t=>k10 t=some r) (fun y9=>⟨mk 68 [(8,(.own 0 1 (0) ((p1.length:Int).toNat)))],[(.own 1 (y9.map Qac))]⟩) (fun y9 h=>?_) ?_
    ·subst hk_k10
     refine wxz ?_
     obtain⟨hz11,h⟩:=cko h
     refine wmr (Q14 (n:=68) (l':=[(4,(Qwz y9 p1))]) 0 [(4,(.own 0 1 (0) ((p1.length:Int).toNat)))] (by kernel_rfl) (by kernel_rfl) (by kernel_rfl) ⟨rfl,(Qiy hz11),tv⟩ rfl) ?_
     refine wmr (mto (n:=68) (l':=[(4,(Qwz y9 p1))]) (own':=[]) [(4,(Qwz y9 p1))] [] [] hφ0 (pc (rnd Qae) pn) qn)<|Qaj ?_
     obtain rfl:=osi h
     exact⟨_,Mor.rfl,Qca (vs:=[(Qwz y9 p1)]) ⟨rot,tv⟩ rfl (nld Qae _) (by kernel_rfl) Qbe⟩
    ·skip
     obtain⟨x13,hf12,h⟩:=bno h
     obtain⟨hs14,h⟩:=cko h
     refine wx tbk [(1,rp [(.tmp 2,.ref 0 1 0 0),(.tmp 5,.ref 1 1 0 0)] Q69),(2,⟨_,_,_,_,false⟩),(4,rp [(.tmp 52,(.dat 1 (x13.map Qac))),(.tmp 53,I y6)] (Qti x13 y6)),(5,rp _ _)] ⟨Qdv (fs:=[]) (cs:=[.ref 0 1 0 0,.ref 1 1 0 0]) rfl rfl rfl rfl,Qar (first:=[]) (cap:=[]) (vs:=[(.dat 1 (p1.map Qac)),Q69]) (σr:=[(.own 1 [[I p0]]),(.own 1 [[I y3]])]) (σr':=[(.own 1 [[I p0]]),(.own 1 [[I y3]])]) (res':=(.dat 1 (x13.map Qac))) [0,1] rfl Q46 (Qky N p1 p0 y3 _ hf12) rfl (Qbd (rnc (pld Qae) (rnc (Qa9 rn0 (rnc (Qax rfl) (rnc (Qax rfl) rn0))) rn0))) (slc (Qao (rnc (.plain _ nll) rn0)) (slc (Qao (rnc (.plain _ nll) rn0)) Qaq)) (slc (Qao (rnc (.plain _ nll) rn0)) (slc (Qao (rnc (.plain _ nll) rn0)) Qaq)) (pld Qae) rfl rfl rfl,Qll (k:=.i64) (k':=.i64) (lo:=none) (hi:=some (.tmp 53)) (l:=0) (hh:=y6) rfl underlying27 ti3 rfl (fun _=>rfl) (fun e=>nomatch e) (Qwi hs14) (Qwh hs14) (Q97 Qac hs14) (Zdr Qac),alq 1 Qac ((x13).take (y6.toNat-0)) underlying27,tv⟩<|Qas ?_
     refine wmr (mto (n:=68) (l':=[(8,(.own 0 1 (0) ((p1.length:Int).toNat))),(54,(Qti x13 y6)),(55,(I ((((x13).take (y6.toNat-0)).length:Int)))),(56,I 0)]) (own':=[(.own 1 (y7.map Qac))]) [(8,(.own 2 1 (0) ((p1.length:Int).toNat))),(54,(Qti x13 y6)),(55,(I ((((x13).take (y6.toNat-0)).length:Int)))),(56,I 0)] [2] [(.own 1 (y7.map Qac))] hφ0 (pc (.rn (Qaz rfl)) (pc (rnd Qae) (pw (pw pn)))) (qc (spr Qae) qn)) ?_
     refine Qb9 (τ:=Int×(List Int)) (fun n t=>Qd8 N p1 y6 k10 x13 n t.1 t.2=some r) (fun ⟨y15,y16⟩=>⟨mk 68 [(8,(.own 0 1 (0) ((p1.length:Int).toNat))),(54,(Qti x13 y6)),(55,(I ((((x13).take (y6.toNat-0)).length:Int)))),(56,I y15)],[(.own 1 (y16.map Qac))]⟩) (fun t h=>by rw[Qd8] at h;cases h) (fun n19 ih t h=>?_) N (0,y7) h
     obtain⟨y15,y16⟩:=t
     rw[Qd8] at h
     skip
     refine wxz<|wsq ?_
     refine bfe h (fun hc20 h=>?_) fun hc20 h=>?_
     ·refine wft hc20<|Qat<|thn<|wsq<|Qas ?_
      obtain⟨x21,hg22,h⟩:=bno h
      obtain⟨hi23,hj24⟩:=gsm hg22
      refine wx tbk [(0,rp _ _)] ⟨aiq underlying27 ti3 Qac hi23 hj24,tv⟩ ?_
      obtain⟨hi25,h⟩:=cko h
      obtain⟨hi25a,hi25b⟩:=Qcx hi25
      obtain⟨x26,hg27,h⟩:=bno h
      obtain⟨hi28,h⟩:=cko h
      obtain⟨hi28a,hi28b⟩:=Qcx hi28
      obtain⟨x29,hg30,h⟩:=bno h
      refine wx1 tbk [(2,rb [(.tmp 60,(.own 0 1 (0) ((p1.length:Int).toNat))),(.tmp 61,I x21)] [(0,(.own 1 (y16.map Qac)))] (.ref 0 1 x21.toNat 0)),(3,rb [(.tmp 62,(.ref 0 1 x21.toNat 0))] [(0,(.own 1 (y16.map Qac)))] (I x26)),(5,rb [(.tmp 60,(.own 0 1 (0) ((p1.length:Int).toNat))),(.tmp 61,I x21)] [(0,(.own 1 (y16.map Qac)))] (.ref 0 1 x21.toNat 0)),(6,⟨[(.tmp 65,(.ref 0 1 x21.toNat 0)),(.tmp 64,(I (w64 (x26+1))))],[(0,(.own 1 (y16.map Qac)))],.any,[(0,(.own 1 ((y16.set x21.toNat (w64 (x26+1)):List Int).map Qac)))],false⟩)] ⟨aio rfl underlying27 ti3 (odt hi25a) (odt hi25b) (Nat.zero_add _),ald rfl ti3 (by decide) (mgt Qac hg27) (nle rfl) rfl,aio rfl underlying27 ti3 (odt hi28a) (odt hi28b) (Nat.zero_add _),ast rfl ti3 (by rfl) (mgt Qac hg30) (nle rfl) (Qd2 Qac rfl),tv⟩<|bln<|thn<|wxz1<|thn ?_
      exact arm (mto (n:=68) [(8,(.own 0 1 (0) ((p1.length:Int).toNat))),(54,(Qti x13 y6)),(55,(I ((((x13).take (y6.toNat-0)).length:Int)))),(56,(I (w64 (y15+1))))] [0] [(.own 1 ((y16.set x21.toNat (w64 (x26+1)):List Int).map Qac))] hφ0 (pc (.rn (Qaz rfl)) (pc (rnd Qae) (pw (pw pn)))) (qc (spr Qae) qn)) (ih (w64 (y15+1),y16.set x21.toNat (w64 (x26+1))) h)
     ·exact wfn hc20<|Qbm<|Qa4<|Qa4<|Qbl rfl<|thn<|⟨(y16),h,(mto (n:=68) [(8,(.own 0 1 (0) ((p1.length:Int).toNat)))] [0] [(.own 1 (y16.map Qac))] hφ0 (pc (.rn (Qaz rfl)) pn) (qc (spr Qae) qn))⟩
   ·skip
    refine wx tbk [(1,rp _ _)] ⟨alq 1 Qac p1 underlying27,tv⟩<|Qas ?_
    refine wmr (mto (n:=68) (l':=[(1,(.dat 1 (p1.map Qac))),(2,.ref 0 1 0 0),(5,.ref 1 1 0 0),(8,(.own 2 1 (0) ((p1.length:Int).toNat))),(9,I p0),(28,(.dat 1 (p1.map Qac))),(29,(I ((p1.length:Int)))),(30,I 0)]) (own':=[(.own 1 [[I p0]]),(.own 1 [[I y3]]),(.own 1 (((List.replicate (p1.length:Int).toNat 0):List Int).map Qac))]) [(1,(.dat 1 (p1.map Qac))),(2,.ref 0 1 0 0),(5,.ref 1 1 0 0),(8,(.own 2 1 (0) ((p1.length:Int).toNat))),(9,I p0),(28,(.dat 1 (p1.map Qac))),(29,(I ((p1.length:Int)))),(30,I 0)] [0,1,2] [(.own 1 [[I p0]]),(.own 1 [[I y3]]),(Zau p1)] hφ0 (pc (rnd Qae) (prr (prr (pc (.rn (Qaz rfl)) (pw (pc (rnd Qae) (pw (pw pn)))))))) (qb (lc rwl ln) (qb (lc rwl ln) (qc (spr Qae) qn)))) ?_
    refine Qb9 (τ:=Int×Int×(List Int)) (fun n t=>Qd7 N p0 p1 y3 k8 n t.1 t.2.1 t.2.2=some r) (fun ⟨y31,y32,y33⟩=>⟨mk 68 [(1,(.dat 1 (p1.map Qac))),(2,.ref 0 1 0 0),(5,.ref 1 1 0 0),(8,(.own 2 1 (0) ((p1.length:Int).toNat))),(9,I y31),(28,(.dat 1 (p1.map Qac))),(29,(I ((p1.length:Int)))),(30,I y32)],[(.own 1 [[I p0]]),(.own 1 [[I y3]]),(.own 1 (y33.map Qac))]⟩) (fun t h=>by rw[Qd7] at h;cases h) (fun n37 ih t h=>?_) N (p0,0,List.replicate (p1.length:Int).toNat 0) h
    obtain⟨y31,y32,y33⟩:=t
    rw[Qd7] at h
    skip
    refine wxz<|wsq ?_
    refine bfe h (fun hc38 h=>?_) fun hc38 h=>?_
    ·refine wft hc38<|Qat<|thn<|wsq<|Qas ?_
     obtain⟨x39,hg40,h⟩:=bno h
     obtain⟨hi41,hj42⟩:=gsm hg40
     refine wx tbk [(1,rp _ _)] ⟨aiq underlying27 ti3 Qac hi41 hj42,tv⟩ ?_
     obtain⟨hz43,h⟩:=cko h
     obtain⟨hi44,h⟩:=cko h
     obtain⟨hi44a,hi44b⟩:=Qcx hi44
     obtain⟨x45,hg46,h⟩:=bno h
     refine wx tbk [(6,rp [(.tmp 39,(I (w64 (p0*x39)))),(.tmp 40,I y3)] (I (w64 ((w64 (p0*x39)).tdiv y3)))),(7,rb [(.tmp 35,(.own 2 1 (0) ((p1.length:Int).toNat))),(.tmp 36,I y32)] [(2,(.own 1 (y33.map Qac)))] (.ref 2 1 y32.toNat 0)),(8,⟨[(.tmp 42,(.ref 2 1 y32.toNat 0)),(.tmp 41,(I (w64 ((w64 (p0*x39)).tdiv y3))))],[(2,(.own 1 (y33.map Qac)))],.any,[(2,(Qwy y33 y32 p0 x39 y3))],false⟩)] ⟨Qn3 rfl (Qqn hz43),aio rfl underlying27 ti3 (odt hi44a) (odt hi44b) (Nat.zero_add _),ast rfl ti3 (by rfl) (mgt Qac hg46) (nle rfl) (Qd2 Qac rfl),tv⟩ ?_
     obtain⟨hi47,h⟩:=cko h
     obtain⟨hi47a,hi47b⟩:=Qcx hi47
     obtain⟨x48,hg49,h⟩:=bno h
     refine wx1 tbk [(3,rb [(.tmp 44,(.own 2 1 (0) ((p1.length:Int).toNat))),(.tmp 45,I y32)] [(2,(Qwy y33 y32 p0 x39 y3))] (.ref 2 1 y32.toNat 0)),(4,rb [(.tmp 46,(.ref 2 1 y32.toNat 0))] [(2,(Qwy y33 y32 p0 x39 y3))] (I x48))] ⟨aio rfl underlying27 ti3 (odt hi47a) (odt hi47b) (Nat.zero_add _),ald rfl ti3 (by decide) (mgt Qac hg49) (nle rfl) rfl,tv⟩<|bln<|thn<|wxz1<|thn ?_
     exact arm (mto (n:=68) [(1,(.dat 1 (p1.map Qac))),(2,.ref 0 1 0 0),(5,.ref 1 1 0 0),(8,(.own 2 1 (0) ((p1.length:Int).toNat))),(9,(I (w64 (y31-x48)))),(28,(.dat 1 (p1.map Qac))),(29,(I ((p1.length:Int)))),(30,(I (w64 (y32+1))))] [0,1,2] [(.own 1 [[I p0]]),(.own 1 [[I y3]]),(Qwy y33 y32 p0 x39 y3)] hφ0 (pc (rnd Qae) (prr (prr (pc (.rn (Qaz rfl)) (pw (pc (rnd Qae) (pw (pw pn)))))))) (qb (lc rwl ln) (qb (lc rwl ln) (qc (spr Qae) qn)))) (ih (w64 (y31-x48),w64 (y32+1),y33.set y32.toNat (w64 ((w64 (p0*x39)).tdiv y3))) h)
    ·exact wfn hc38<|Qbm<|Qa4<|Qa4<|Qbl rfl<|thn<|⟨(y31,y33),h,(mto (n:=68) [(1,(.dat 1 (p1.map Qac))),(2,.ref 0 1 0 0),(5,.ref 1 1 0 0),(8,(.own 2 1 (0) ((p1.length:Int).toNat))),(9,I y31)] [0,1,2] [(.own 1 [[I p0]]),(.own 1 [[I y3]]),(.own 1 (y33.map Qac))] hφ0 (pc (rnd Qae) (prr (prr (pc (.rn (Qaz rfl)) (pw pn))))) (qb (lc rwl ln) (qb (lc rwl ln) (qc (spr Qae) qn))))⟩
  ·skip
   refine wx tbk [(1,rp _ _)] ⟨alq 1 Qac p1 underlying27,tv⟩<|Qas ?_
   refine wmr (mto (n:=68) (l':=[(1,(.dat 1 (p1.map Qac))),(2,.ref 0 1 0 0),(5,.ref 1 1 0 0),(14,(.dat 1 (p1.map Qac))),(15,(I ((p1.length:Int)))),(16,I 0)]) (own':=[(.own 1 [[I p0]]),(.own 1 [[I 0]])]) [(1,(.dat 1 (p1.map Qac))),(2,.ref 0 1 0 0),(5,.ref 1 1 0 0),(14,(.dat 1 (p1.map Qac))),(15,(I ((p1.length:Int)))),(16,I 0)] [0,1] [(.own 1 [[I p0]]),(.own 1 [[I 0]])] hφ0 (pc (rnd Qae) (prr (prr (pc (rnd Qae) (pw (pw pn)))))) (qb (lc rwl ln) (qb (lc rwl ln) qn))) ?_
   refine Qb9 (τ:=Int×Int) (fun n t=>Qd6 N p1 k4 n t.1 t.2=some r) (fun ⟨y50,y51⟩=>⟨mk 68 [(1,(.dat 1 (p1.map Qac))),(2,.ref 0 1 0 0),(5,.ref 1 1 0 0),(14,(.dat 1 (p1.map Qac))),(15,(I ((p1.length:Int)))),(16,I y50)],[(.own 1 [[I p0]]),(.own 1 [[I y51]])]⟩) (fun t h=>by rw[Qd6] at h;cases h) (fun n54 ih t h=>?_) N (0,0) h
   obtain⟨y50,y51⟩:=t
   rw[Qd6] at h
   skip
   refine wxz<|wsq ?_
   refine bfe h (fun hc55 h=>?_) fun hc55 h=>?_
   ·refine wft hc55<|Qat<|thn<|wsq<|Qas ?_
    obtain⟨x56,hg57,h⟩:=bno h
    obtain⟨hi58,hj59⟩:=gsm hg57
    exact wx tbk [(0,rp _ _)] ⟨aiq underlying27 ti3 Qac hi58 hj59,tv⟩<|wxz1<|bln<|thn<|wxz1<|thn<|arm (mto (n:=68) [(1,(.dat 1 (p1.map Qac))),(2,.ref 0 1 0 0),(5,.ref 1 1 0 0),(14,(.dat 1 (p1.map Qac))),(15,(I ((p1.length:Int)))),(16,(I (w64 (y50+1))))] [0,1] [(.own 1 [[I p0]]),(.own 1 [[(I (w64 (y51+x56)))]])] hφ0 (pc (rnd Qae) (prr (prr (pc (rnd Qae) (pw (pw pn)))))) (qb (lc rwl ln) (qb (lc rwl ln) qn))) (ih (w64 (y50+1),w64 (y51+x56)) h)
   ·exact wfn hc55<|Qbm<|Qa4<|Qa4<|Qbl rfl<|thn<|⟨(y51),h,(mto (n:=68) [(1,(.dat 1 (p1.map Qac))),(2,.ref 0 1 0 0),(5,.ref 1 1 0 0)] [0,1] [(.own 1 [[I p0]]),(.own 1 [[I y51]])] hφ0 (pc (rnd Qae) (prr (prr pn))) (qb (lc rwl ln) (qb (lc rwl ln) qn)))⟩
def Qfp (_N:Nat) (p0 p1:Int) (p2 _p3:Int) (_p4 _p5:Int):Option Int:=
  chk ((if p2>1 then p2 else 1) != 0)<|
  (some (w64 ((w64 (p0*p1)).tdiv (if p2>1 then p2 else 1)))).bind fun x2=>
  some x2
theorem Qgd (N:Nat) (p0 p1:Int) (p2 p3:Int) (p4 p5 r:Int) (h:Qfp N p0 p1 p2 p3 p4 p5=some r):Spec prog 154 [(I p0),(.dptr [(I p1)] 0),(.dptr [(I p2),(I p3),(I p4),(I p5)] 0)] [] (I r) []:=by
  refine Qam func154 rfl 0 (nle rfl) (fun X φ0 w0 hφ0 hd0=>?_)
  unfold Qfp at h
  refine wxz ?_
  obtain⟨hz1,h⟩:=cko h
  obtain⟨x2,hl3,h⟩:=bno h
  refine wx tbk [(5,rp [ci 1,(.tmp 9,I p2)] (I ((if p2>1 then p2 else 1)))),(6,rp [(.tmp 7,(I (w64 (p0*p1)))),(.tmp 10,(I ((if p2>1 then p2 else 1))))] (I (w64 ((w64 (p0*p1)).tdiv (if p2>1 then p2 else 1))))),(7,rp [(.tmp 11,(I (w64 ((w64 (p0*p1)).tdiv (if p2>1 then p2 else 1)))))] (I x2))] ⟨Qlm rfl,Qn3 rfl (Qqn hz1),Qi0 hl3 (aas rfl),tv⟩<|Qaj ?_
  obtain rfl:=osi h
  exact fend ⟨[I x2],⟨rot,tv⟩,rfl⟩ nll
def Qcf (_N:Nat) (_p0 _p1:Int) (_p2 _p3:Int):Option Unit:=
  some ()
def Qtg (p0 p1:Int) (p2 p3:Int):Slot:=.own 4 [[(I p0),(I p1),(I p2),(I p3)]]
def Q8h:AV:=.agg [(.ref 0 4 (0) 0),(.ref 0 4 (0) 1),(.ref 0 4 (0) 2),(.ref 0 4 (0) 3)]
def Q8g:Slot:=.own 4 [[(.ref 0 4 (0) 0),(.ref 0 4 (0) 1),(.ref 0 4 (0) 2),(.ref 0 4 (0) 3)]]
theorem Qcy (N:Nat) (p0 p1:Int) (p2 p3:Int) (r:Unit) (h:Qcf N p0 p1 p2 p3=some r):Spec prog 161 [(.ref 0 4 (0) 0)] [(Qtg p0 p1 p2 p3)] Q8h [(Qtg p0 p1 p2 p3),Q8g]:=by
  refine Qam func161 rfl 2 (nle rfl) (fun X φ0 w0 hφ0 hd0=>?_)
  unfold Qcf at h
  refine Qbj<|wxz ?_
  refine wxd tbk [(1,rb [(.tmp 3,.ref 0 4 0 0)] [(0,(Qtg p0 p1 p2 p3))] (.ref 0 4 0 0)),(4,rb [(.tmp 6,.ref 0 4 0 0)] [(0,(Qtg p0 p1 p2 p3))] (.ref 0 4 0 0)),(7,rb [(.tmp 9,.ref 0 4 0 0)] [(0,(Qtg p0 p1 p2 p3))] (.ref 0 4 0 0)),(10,rb [(.tmp 12,.ref 0 4 0 0)] [(0,(Qtg p0 p1 p2 p3))] (.ref 0 4 0 0)),(12,rp [(.tmp 5,.ref 0 4 0 0),(.tmp 8,.ref 0 4 0 1),(.tmp 11,.ref 0 4 0 2),(.tmp 14,.ref 0 4 0 3)] Q8h)] ⟨Qa6 rfl,Qa6 rfl,Qa6 rfl,Qa6 rfl,Qo4 (vs:=[.ref 0 4 0 0,.ref 0 4 0 1,.ref 0 4 0 2,.ref 0 4 0 3]) rfl underlying235 Qq4 Zbq rfl (by rfl) rfl,tv⟩ ?_
  refine wmr (mto (n:=16) (l':=[(2,.ref 1 4 0 0)]) (own':=[(Qtg p0 p1 p2 p3),Q8g]) [(2,.ref 1 4 0 0)] [0,1] [(Qtg p0 p1 p2 p3),Q8g] hφ0 (prr pn) (qb (lcc (lcc ln)) (qb (lc (.rn (rqr rfl)) (lc (.rn (rqr rfl)) (lc (.rn (rqr rfl)) (lc (.rn (rqr rfl)) ln)))) qn)))<|Qaj ?_
  obtain rfl:=osi h
  exact⟨_,Mor.rfl,Qca (vs:=[Q8h]) ⟨Qbk (n:=1) (m:=4) (j:=0) (i:=0) (xs:=[[.ref 0 4 0 0,.ref 0 4 0 1,.ref 0 4 0 2,.ref 0 4 0 3]]) (by kernel_rfl) (by kernel_rfl) Zbx (by decide) rfl (nle rfl) rfl,tv⟩ rfl (NLt.agg _ (nlc (NLt.ref _ _ _ _ (by decide)) (nlc (NLt.ref _ _ _ _ (by decide)) (nlc (NLt.ref _ _ _ _ (by decide)) (nlc (NLt.ref _ _ _ _ (by decide)) nl0))))) (by kernel_rfl) (Qai (Qav (nlc (NLt.of0 nll) (nlc (NLt.of0 nll) (nlc (NLt.of0 nll) (nlc (NLt.of0 nll) nl0))))) (Qai (Qav (nlc (NLt.ref _ _ _ _ (by decide)) (nlc (NLt.ref _ _ _ _ (by decide)) (nlc (NLt.ref _ _ _ _ (by decide)) (nlc (NLt.ref _ _ _ _ (by decide)) nl0))))) Qbe))⟩
def Qjl (N:Nat) (p0:Qab) (p1 p2:Int) (p3 p4:Int):Option Unit:=
  (Qcf N p0.Mass p0.Heat p0.Silica p0.Gas).bind fun _=>
  (Qcf N p1 p2 p3 p4).bind fun _=>
  (Qcf N (w64 (p1+p0.Mass)) p2 p3 p4).bind fun _=>
  (Qcf N (w64 (p1+p0.Mass)) (w64 (p2+p0.Heat)) p3 p4).bind fun _=>
  (Qcf N (w64 (p1+p0.Mass)) (w64 (p2+p0.Heat)) (w64 (p3+p0.Silica)) p4).bind fun _=>
  some ()
def Q0d (p1 p2:Int) (p3 p4:Int):Slot:=.own 4 [[(I p1),(I p2),(I p3),(I p4)]]
def Q0f (p1:Int) (p0:Qab) (p2 p3 p4:Int):Slot:=.own 4 [[(I (w64 (p1+p0.Mass))),(I (w64 (p2+p0.Heat))),(I (w64 (p3+p0.Silica))),(I (w64 (p4+p0.Gas)))]]
def Qyo (p0:Qab):Slot:=.own 4 [[(I p0.Mass),(I p0.Heat),(I p0.Silica),(I p0.Gas)]]
def Q0e:AV:=.agg [(.ref 1 4 (0) 0),(.ref 1 4 (0) 1),(.ref 1 4 (0) 2),(.ref 1 4 (0) 3)]
def Zcm:Slot:=.own 4 [[(.ref 1 4 (0) 0),(.ref 1 4 (0) 1),(.ref 1 4 (0) 2),(.ref 1 4 (0) 3)]]
def Qth:AV:=.agg [(.ref 0 4 (0) 0),(.ref 0 4 (0) 1),(.ref 0 4 (0) 2),(.ref 0 4 (0) 3)]
def Q33:Slot:=.own 4 [[(.ref 0 4 (0) 0),(.ref 0 4 (0) 1),(.ref 0 4 (0) 2),(.ref 0 4 (0) 3)]]
def Q32 (p1:Int) (p0:Qab) (p2 p3 p4:Int):Slot:=.own 4 [[(I (w64 (p1+p0.Mass))),(I p2),(I p3),(I p4)]]
def Q31 (p1:Int) (p0:Qab) (p2 p3 p4:Int):Slot:=.own 4 [[(I (w64 (p1+p0.Mass))),(I (w64 (p2+p0.Heat))),(I p3),(I p4)]]
def Q30 (p1:Int) (p0:Qab) (p2 p3 p4:Int):Slot:=.own 4 [[(I (w64 (p1+p0.Mass))),(I (w64 (p2+p0.Heat))),(I (w64 (p3+p0.Silica))),(I p4)]]
theorem Qod (N:Nat) (p0:Qab) (p1 p2:Int) (p3 p4:Int) (r:Unit) (h:Qjl N p0 p1 p2 p3 p4=some r):Spec prog 160 [(.agg [(I p0.Mass),(I p0.Heat),(I p0.Silica),(I p0.Gas)]),(.ref 0 4 (0) 0)] [(Q0d p1 p2 p3 p4)] (.tup []) [(Q0f p1 p0 p2 p3 p4)]:=by
  refine Qam func160 rfl 1 (nle rfl) (fun X φ0 w0 hφ0 hd0=>?_)
  unfold Qjl at h
  refine Qbj<|wxz ?_
  obtain⟨x2,hf1,h⟩:=bno h
  refine wx tbk [(0,⟨_,_,_,_,false⟩)] ⟨Qar (first:=[]) (cap:=[]) (vs:=[.ref 1 4 0 0]) (σr:=[(Qyo p0)]) (σr':=[(Qyo p0),Zcm]) (res':=Q0e) [1,2] rfl Qnv (Qcy N p0.Mass p0.Heat p0.Silica p0.Gas _ hf1) rfl (Qbd (rnc (Qax rfl) rn0)) (slc (Qao (rncc (rncc rn0))) Qaq) (slc (Qao (rncc (rncc rn0))) (slc (Qao (rnc (Qa5 rfl) (rnc (Qa5 rfl) (rnc (Qa5 rfl) (rnc (Qa5 rfl) rn0))))) Qaq)) (Qbd (rnc (Qa5 rfl) (rnc (Qa5 rfl) (rnc (Qa5 rfl) (rnc (Qa5 rfl) rn0))))) rfl rfl rfl,tv⟩<|Qas<|Qyd 17<|Qry<|wxz<|wsq<|wtr<|Qat<|thn<|wsq ?_
  refine Qas<|wx tbk [(1,rp [(.tmp 5,Q0e),(.tmp 6,I 0)] (.ref 1 4 0 0))] ⟨Qf6 rfl underlying235 Qq4 (by decide) (by decide) (nle rfl) (by decide) rfl,tv⟩ ?_
  obtain⟨x4,hf3,h⟩:=bno h
  refine wy1 tbk [(0,⟨_,_,_,_,false⟩),(2,rp [(.tmp 10,Qth),(.tmp 11,I 0)] (.ref 0 4 0 0)),(3,rb [(.tmp 12,.ref 0 4 0 0)] [(0,(Q0d p1 p2 p3 p4))] (.ref 0 4 0 0)),(6,rb [(.tmp 15,.ref 1 4 0 0)] [(1,(Qyo p0))] (.ref 1 4 0 0)),(9,rb [(.tmp 12,.ref 0 4 0 0)] [(0,(Q0d p1 p2 p3 p4))] (.ref 0 4 0 0))] ⟨Qar (first:=[]) (cap:=[]) (vs:=[.ref 0 4 0 0]) (σr:=[(Q0d p1 p2 p3 p4)]) (σr':=[(Q0d p1 p2 p3 p4),Q33]) (res':=Qth) [0,3] rfl Qnv (Qcy N p1 p2 p3 p4 _ hf3) rfl (Qbd (rnc (Qax rfl) rn0)) (slc (Qao (rncc (rncc rn0))) Qaq) (slc (Qao (rncc (rncc rn0))) (slc (Qao (rnc (Qa5 rfl) (rnc (Qa5 rfl) (rnc (Qa5 rfl) (rnc (Qa5 rfl) rn0))))) Qaq)) (Qbd (rnc (Qa5 rfl) (rnc (Qa5 rfl) (rnc (Qa5 rfl) (rnc (Qa5 rfl) rn0))))) rfl rfl rfl,Qf6 rfl underlying235 Qq4 (by decide) (by decide) (nle rfl) (by decide) rfl,Qa6 rfl,Qa6 rfl,Qa6 rfl,tv⟩<|bln<|thn<|wxz1<|thn<|Qry<|wxz<|wsq<|wtr<|Qat ?_
  refine thn<|wsq<|Qas ?_
  refine wx tbk [(1,rp [(.tmp 5,Q0e),(.tmp 6,I 1)] (.ref 1 4 0 1))] ⟨Qf6 rfl underlying235 Qq4 (by decide) (by decide) (nle rfl) (by decide) rfl,tv⟩ ?_
  obtain⟨x6,hf5,h⟩:=bno h
  refine wy1 tbk [(0,⟨_,_,_,_,false⟩),(2,rp [(.tmp 10,Qth),(.tmp 11,I 1)] (.ref 0 4 0 1)),(3,rb [(.tmp 12,.ref 0 4 0 1)] [(0,(Q32 p1 p0 p2 p3 p4))] (.ref 0 4 0 1)),(6,rb [(.tmp 15,.ref 1 4 0 1)] [(1,(Qyo p0))] (.ref 1 4 0 1)),(9,rb [(.tmp 12,.ref 0 4 0 1)] [(0,(Q32 p1 p0 p2 p3 p4))] (.ref 0 4 0 1))] ⟨Qar (first:=[]) (cap:=[]) (vs:=[.ref 0 4 0 0]) (σr:=[(Q32 p1 p0 p2 p3 p4)]) (σr':=[(Q32 p1 p0 p2 p3 p4),Q33]) (res':=Qth) [0,4] rfl Qnv (Qcy N (w64 (p1+p0.Mass)) p2 p3 p4 _ hf5) rfl (Qbd (rnc (Qax rfl) rn0)) (slc (Qao (rncc (rncc rn0))) Qaq) (slc (Qao (rncc (rncc rn0))) (slc (Qao (rnc (Qa5 rfl) (rnc (Qa5 rfl) (rnc (Qa5 rfl) (rnc (Qa5 rfl) rn0))))) Qaq)) (Qbd (rnc (Qa5 rfl) (rnc (Qa5 rfl) (rnc (Qa5 rfl) (rnc (Qa5 rfl) rn0))))) rfl rfl rfl,Qf6 rfl underlying235 Qq4 (by decide) (by decide) (nle rfl) (by decide) rfl,Qa6 rfl,Qa6 rfl,Qa6 rfl,tv⟩<|bln<|thn<|wxz1<|thn<|Qry<|wxz<|wsq<|wtr<|Qat ?_
  refine thn<|wsq<|Qas ?_
  refine wx tbk [(1,rp [(.tmp 5,Q0e),(.tmp 6,I 2)] (.ref 1 4 0 2))] ⟨Qf6 rfl underlying235 Qq4 (by decide) (by decide) (nle rfl) (by decide) rfl,tv⟩ ?_
  obtain⟨x8,hf7,h⟩:=bno h
  refine wy1 tbk [(0,⟨_,_,_,_,false⟩),(2,rp [(.tmp 10,Qth),(.tmp 11,I 2)] (.ref 0 4 0 2)),(3,rb [(.tmp 12,.ref 0 4 0 2)] [(0,(Q31 p1 p0 p2 p3 p4))] (.ref 0 4 0 2)),(6,rb [(.tmp 15,.ref 1 4 0 2)] [(1,(Qyo p0))] (.ref 1 4 0 2)),(9,rb [(.tmp 12,.ref 0 4 0 2)] [(0,(Q31 p1 p0 p2 p3 p4))] (.ref 0 4 0 2))] ⟨Qar (first:=[]) (cap:=[]) (vs:=[.ref 0 4 0 0]) (σr:=[(Q31 p1 p0 p2 p3 p4)]) (σr':=[(Q31 p1 p0 p2 p3 p4),Q33]) (res':=Qth) [0,5] rfl Qnv (Qcy N (w64 (p1+p0.Mass)) (w64 (p2+p0.Heat)) p3 p4 _ hf7) rfl (Qbd (rnc (Qax rfl) rn0)) (slc (Qao (rncc (rncc rn0))) Qaq) (slc (Qao (rncc (rncc rn0))) (slc (Qao (rnc (Qa5 rfl) (rnc (Qa5 rfl) (rnc (Qa5 rfl) (rnc (Qa5 rfl) rn0))))) Qaq)) (Qbd (rnc (Qa5 rfl) (rnc (Qa5 rfl) (rnc (Qa5 rfl) (rnc (Qa5 rfl) rn0))))) rfl rfl rfl,Qf6 rfl underlying235 Qq4 (by decide) (by decide) (nle rfl) (by decide) rfl,Qa6 rfl,Qa6 rfl,Qa6 rfl,tv⟩<|bln<|thn<|wxz1<|thn<|Qry<|wxz<|wsq<|wtr<|Qat ?_
  refine thn<|wsq<|Qas ?_
  refine wx tbk [(1,rp [(.tmp 5,Q0e),(.tmp 6,I 3)] (.ref 1 4 0 3))] ⟨Qf6 rfl underlying235 Qq4 (by decide) (by decide) (nle rfl) (by decide) rfl,tv⟩ ?_
  obtain⟨x10,hf9,h⟩:=bno h
  refine wy1 tbk [(0,⟨_,_,_,_,false⟩),(2,rp [(.tmp 10,Qth),(.tmp 11,I 3)] (.ref 0 4 0 3)),(3,rb [(.tmp 12,.ref 0 4 0 3)] [(0,(Q30 p1 p0 p2 p3 p4))] (.ref 0 4 0 3)),(6,rb [(.tmp 15,.ref 1 4 0 3)] [(1,(Qyo p0))] (.ref 1 4 0 3)),(9,rb [(.tmp 12,.ref 0 4 0 3)] [(0,(Q30 p1 p0 p2 p3 p4))] (.ref 0 4 0 3))] ⟨Qar (first:=[]) (cap:=[]) (vs:=[.ref 0 4 0 0]) (σr:=[(Q30 p1 p0 p2 p3 p4)]) (σr':=[(Q30 p1 p0 p2 p3 p4),Q33]) (res':=Qth) [0,6] rfl Qnv (Qcy N (w64 (p1+p0.Mass)) (w64 (p2+p0.Heat)) (w64 (p3+p0.Silica)) p4 _ hf9) rfl (Qbd (rnc (Qax rfl) rn0)) (slc (Qao (rncc (rncc rn0))) Qaq) (slc (Qao (rncc (rncc rn0))) (slc (Qao (rnc (Qa5 rfl) (rnc (Qa5 rfl) (rnc (Qa5 rfl) (rnc (Qa5 rfl) rn0))))) Qaq)) (Qbd (rnc (Qa5 rfl) (rnc (Qa5 rfl) (rnc (Qa5 rfl) (rnc (Qa5 rfl) rn0))))) rfl rfl rfl,Qf6 rfl underlying235 Qq4 (by decide) (by decide) (nle rfl) (by decide) rfl,Qa6 rfl,Qa6 rfl,Qa6 rfl,tv⟩<|bln<|thn<|wxz1<|thn<|Qry<|wxz<|wsq<|wfa<|Qbm ?_
  refine Qa4<|Qa4<|Qbl rfl ?_
  obtain rfl:=osi h
  exact⟨_,(mto (n:=21) (l':=[]) (own':=[(Q0f p1 p0 p2 p3 p4)]) [] [0] [(Q0f p1 p0 p2 p3 p4)] hφ0 pn (qb (lcc (lcc ln)) qn)),Qca (vs:=[]) tv rfl (NLt.tup _ nl0) (by kernel_rfl) (Qai (Qav (nlc (NLt.of0 nll) (nlc (NLt.of0 nll) (nlc (NLt.of0 nll) (nlc (NLt.of0 nll) nl0))))) Qbe)⟩
def Qfo (N:Nat) (p0:List Qab) (k5:Int×Int×Int×Int→Option Qab):Nat→Int→Int→Int→Int→Int→Option Qab
  |0,_,_,_,_,_=>none
  |n16+1,y6,y7,y8,y9,y10=>
    bif (decide (y6<(p0.length:Int))) then
     (getI p0 y6).bind fun x18=>
     (Qjl N x18 y7 y8 y9 y10).bind fun _=>
     Qfo N p0 k5 n16 (w64 (y6+1)) (w64 (y7+x18.Mass)) (w64 (y8+x18.Heat)) (w64 (y9+x18.Silica)) (w64 (y10+x18.Gas))
    else
     k5 (y7,y8,y9,y10)
def Qoe (N:Nat) (p0:List Qab):Option Qab:=
  Qdr (fun ⟨y1,y2,y3,y4⟩=>
    some (⟨y1,y2,y3,y4⟩:Qab)) fun k5:Int×Int×Int×Int→Option Qab=>
  Qfo N p0 k5 N 0 0 0 0 0
def Q0h:AV:=.fn (.func 160) [] [(.ref 0 4 (0) 0)]
def Q34 (p0:List Qab):AV:=.dat 4 (p0.map Qag)
def Zar:Slot:=.own 4 [[(I (0)),(I (0)),(I (0)),(I (0))]]
def Q0g (y7 y8:Int) (y9 y10:Int):Slot:=.own 4 [[(I y7),(I y8),(I y9),(I y10)]]
def Zaq (x18:Qab):AV:=.agg [(I x18.Mass),(I x18.Heat),(I x18.Silica),(I x18.Gas)]
def Q68 (y7:Int) (x18:Qab) (y8 y9 y10:Int):Slot:=.own 4 [[(I (w64 (y7+x18.Mass))),(I (w64 (y8+x18.Heat))),(I (w64 (y9+x18.Silica))),(I (w64 (y10+x18.Gas)))]]
theorem Qsd (N:Nat) (p0:List Qab) (r:Qab) (h:Qoe N p0=some r):Spec prog 155 [(.dat 4 (p0.map Qag))] [] (.agg (Qag r)) []:=by
  refine Qam func155 rfl 0 (nle rfl) (fun X φ0 w0 hφ0 hd0=>?_)
  unfold Qoe at h
  refine wxz<|wx tbk [(0,rp [(.tmp 2,.ref 0 4 0 0)] Q0h)] ⟨Qdv (fs:=[]) (cs:=[.ref 0 4 0 0]) rfl rfl rfl rfl,tv⟩ ?_
  obtain⟨k5,hk_k5,h⟩:=jko h
  refine wjn (τ:=Int×Int×Int×Int) (fun t=>k5 t=some r) (fun ⟨y1,y2,y3,y4⟩=>⟨mk 18 [(2,.ref 0 4 0 0)],[(.own 4 [[I y1,I y2,I y3,I y4]])]⟩) (fun t h=>?_) ?_
  ·subst hk_k5
   obtain⟨y1,y2,y3,y4⟩:=t
   refine wxz<|Qaj ?_
   obtain rfl:=osi h
   exact fend ⟨[(.agg [I y1,I y2,I y3,I y4])],⟨Qbk (n:=0) (m:=4) (j:=0) (i:=0) (xs:=[[I y1,I y2,I y3,I y4]]) (by kernel_rfl) (by kernel_rfl) ti63 (by decide) rfl (nle rfl) rfl,tv⟩,rfl⟩ (NLt.agg _ (nlcc (nlcc nl0)))
  ·skip
   refine wx tbk [(1,rp _ _)] ⟨alq 4 Qag p0 underlying45,tv⟩<|Qas ?_
   refine wmr (mto (n:=18) (l':=[(2,.ref 0 4 0 0),(3,Q0h),(7,(Q34 p0)),(8,(I ((p0.length:Int)))),(9,I 0)]) (own':=[Zar]) [(2,.ref 0 4 0 0),(3,Q0h),(7,(Q34 p0)),(8,(I ((p0.length:Int)))),(9,I 0)] [0] [Zar] hφ0 (prr (pc (.rn (Qa9 rn0 (rnc (rqr rfl) rn0))) (pc (rnd Qah) (pw (pw pn))))) (qb (lcc (lcc ln)) qn)) ?_
   refine Qb9 (τ:=Int×Int×Int×Int×Int) (fun n t=>Qfo N p0 k5 n t.1 t.2.1 t.2.2.1 t.2.2.2.1 t.2.2.2.2=some r) (fun ⟨y6,y7,y8,y9,y10⟩=>⟨mk 18 [(2,.ref 0 4 0 0),(3,Q0h),(7,(Q34 p0)),(8,(I ((p0.length:Int)))),(9,I y6)],[(Q0g y7 y8 y9 y10)]⟩) (fun t h=>by rw[Qfo] at h;cases h) (fun n16 ih t h=>?_) N (0,0,0,0,0) h
   obtain⟨y6,y7,y8,y9,y10⟩:=t
   rw[Qfo] at h
   skip
   refine wxz<|wsq ?_
   refine bfe h (fun hc17 h=>?_) fun hc17 h=>?_
   ·refine wft hc17<|Qat<|thn<|wsq<|Qas ?_
    obtain⟨x18,hg19,h⟩:=bno h
    obtain⟨hi20,hj21⟩:=gsm hg19
    refine wx tbk [(0,rp _ _)] ⟨aiq underlying45 ti63 Qag hi20 hj21,tv⟩ ?_
    obtain⟨x23,hf22,h⟩:=bno h
    refine wx1 tbk [(2,⟨_,_,_,_,false⟩)] ⟨Qar (first:=[]) (cap:=[.ref 0 4 0 0]) (vs:=[(Zaq x18)]) (σr:=[(Q0g y7 y8 y9 y10)]) (σr':=[(Q68 y7 x18 y8 y9 y10)]) (res':=(.tup [])) [0] rfl Q45 (Qod N x18 y7 y8 y9 y10 _ hf22) rfl (Qbd (rnc (.plain _ (NLt.agg _ (nlcc (nlcc nl0)))) (rnc (Qax rfl) rn0))) (slc (Qao (rncc (rncc rn0))) Qaq) (slc (Qao (rncc (rncc rn0))) Qaq) (.plain _ (NLt.tup _ nl0)) rfl rfl rfl,tv⟩<|bln<|thn<|wxz1<|thn ?_
    exact arm (mto (n:=18) [(2,.ref 0 4 0 0),(3,Q0h),(7,(Q34 p0)),(8,(I ((p0.length:Int)))),(9,(I (w64 (y6+1))))] [0] [(Q68 y7 x18 y8 y9 y10)] hφ0 (prr (pc (.rn (Qa9 rn0 (rnc (rqr rfl) rn0))) (pc (rnd Qah) (pw (pw pn))))) (qb (lcc (lcc ln)) qn)) (ih (w64 (y6+1),w64 (y7+x18.Mass),w64 (y8+x18.Heat),w64 (y9+x18.Silica),w64 (y10+x18.Gas)) h)
   ·exact wfn hc17<|Qbm<|Qa4<|Qa4<|Qbl rfl<|thn<|⟨(y7,y8,y9,y10),h,(mto (n:=18) [(2,.ref 0 4 0 0)] [0] [(Q0g y7 y8 y9 y10)] hφ0 (prr pn) (qb (lcc (lcc ln)) qn))⟩
def Qet (N:Nat) (p0:Qab) (k3:(List Qab)→Option ((List Qab)×Qm0×Int)) (x7:List Int):Nat→(List Qab)→Int→Option ((List Qab)×Qm0×Int)
  |0,_,_=>none
  |n12+1,y8,y9=>
    bif (decide (y9<(x7.length:Int))) then
     (getI x7 y9).bind fun x14=>
     (Qfp N p0.Heat x14 p0.Mass p0.Heat p0.Silica p0.Gas).bind fun x19=>
     (Qfp N p0.Silica x14 p0.Mass p0.Heat p0.Silica p0.Gas).bind fun x21=>
     (Qfp N p0.Gas x14 p0.Mass p0.Heat p0.Silica p0.Gas).bind fun x23=>
     chk (decide ((y8.length+([(⟨x14,x19,x21,x23⟩:Qab)]).length)*32≤140737488355328))<|
     Qet N p0 k3 x7 n12 (y8++([(⟨x14,x19,x21,x23⟩:Qab)])) (w64 (y9+1))
    else
     k3 (y8)
def Qk6 (N:Nat) (p0:Qab) (p1:List Int):Option ((List Qab)×Qm0×Int):=
  Qdr (fun _=>
    Qdr (fun y2=>
      (Qoe N y2).bind fun x5=>
      some (y2,(⟨w64 (p0.Heat-x5.Heat),w64 (p0.Silica-x5.Silica),w64 (p0.Gas-x5.Gas)⟩:Qm0),0)) fun k3:(List Qab)→Option ((List Qab)×Qm0×Int)=>
    (Qj8 N p0.Mass p1).bind fun x7=>
    Qet N p0 k3 x7 N ([]) 0) fun k1:Unit→Option ((List Qab)×Qm0×Int)=>
  (Qd9 N p0).bind fun x26=>
  bif (!x26) then
   some ([],(⟨0,0,0⟩:Qm0),1)
  else
   bif (decide ((p1.length:Int)>20)) then
    some ([],(⟨0,0,0⟩:Qm0),1)
   else
    (Qh0 N p1).bind fun x30=>
    bif (!x30) then
     some ([],(⟨0,0,0⟩:Qm0),1)
    else
     (Qdg N p1).bind fun x33=>
     bif (!x33) then
      some ([],(⟨0,0,0⟩:Qm0),1)
     else
      k1 ()
def Qpp (p0:Qab):Slot:=.own 4 [[(I p0.Mass),(I p0.Heat),(I p0.Silica),(I p0.Gas)]]
def Qtj:Slot:=.own 3 [[(I (0)),(I (0)),(I (0))]]
def Zay (p0 x5:Qab):AV:=.agg [(I (w64 (p0.Heat-x5.Heat))),(I (w64 (p0.Silica-x5.Silica))),(I (w64 (p0.Gas-x5.Gas)))]
def Q39:AV:=.fn (.func 154) [] [(.ref 3 1 (0) 0),(.ref 0 4 (0) 0)]
def Q0m (x14:Int) (p0:Qab):AV:=.fn (.func 154) [] [(.dptr [(I x14)] 0),(.dptr [(I p0.Mass),(I p0.Heat),(I p0.Silica),(I p0.Gas)] 0)]
def Zcn (p0:Qab):AV:=.agg [(I p0.Mass),(I p0.Heat),(I p0.Silica),(I p0.Gas)]
def Q0l (p0:Qab) (x26:Bool):List (Nat×Rec):=[(1,rp [fu 131,((.tmp 12),(Zcn p0))] (B x26))]
def Q4a:AV:=.agg [(I (0)),(I (0)),(I (0))]
def Qw0:AV:=.dat 4 (([]:List Qab).map Qag)
def Q0k p0 x26 (p1:List Int):=hcat (Q0l p0 x26) [(3,rp [((.tmp 14),(B ((!x26))))] (B false)),(5,rp [((.tmp 15),(B false)),((.tmp 16),(.dat 1 (p1.map Qac)))] (I ((p1.length:Int))))]
def Q0j p0 x26 p1 (x30:Bool):=hcat (Q0k p0 x26 p1) [(8,rp [((.tmp 19),(B ((decide ((p1.length:Int)>20)))))] (B false)),(11,rp [((.tmp 20),(B false)),fu 151,((.tmp 21),(.dat 1 (p1.map Qac))),((.tmp 22),(.fn (.func 150) [] []))] (B x30))]
theorem Qpy (N:Nat) (p0:Qab) (p1:List Int) (r:((List Qab)×Qm0×Int)) (h:Qk6 N p0 p1=some r):Spec prog 146 [(.agg (Qag p0)),(.dat 1 (p1.map Qac))] [] (.tup [(.dat 4 (r.1.map Qag)),(.agg (Q90 r.2.1)),(I r.2.2)]) []:=by
  refine Qam func146 rfl 0 (nle rfl) (fun X φ0 w0 hφ0 hd0=>?_)
  unfold Qk6 at h
  refine wxz<|wxz ?_
  obtain⟨k1,hk_k1,h⟩:=jko h
  refine wjn (τ:=Unit) (fun t=>k1 t=some r) (fun _=>⟨mk 79 [(1,(.dat 1 (p1.map Qac))),(2,.ref 0 4 0 0),(4,nilS),(5,.ref 1 3 0 0)],[(Qpp p0),Qtj]⟩) (fun t h=>?_) ?_
  ·subst hk_k1
   obtain⟨k3,hk_k3,h⟩:=jko h
   refine wjn (τ:=(List Qab)) (fun t=>k3 t=some r) (fun y2=>⟨mk 79 [(2,.ref 0 4 0 0),(4,(.acc 1 63 4 (y2.map Qag))),(5,.ref 2 3 0 0)],[(Qpp p0),.tok,Qtj]⟩) (fun y2 h=>?_) ?_
   ·subst hk_k3
    obtain⟨x5,hf4,h⟩:=bno h
    refine wx tbk [(1,rp [fu 155,(.tmp 60,(.acc 1 63 4 (y2.map Qag)))] (.agg [I x5.Mass,I x5.Heat,I x5.Silica,I x5.Gas]))] ⟨awk (rd':=(.func 155,(.fn (.func 155) [] []))::[(.tmp 60,(.dat 4 (y2.map Qag)))]) ⟨rfl,lrf,rfl,Less.acc,tv⟩ (apv Q49 (Qsd N y2 _ hf4) (nlc (nld Qah _) nl0) (NLt.agg _ (nlcc (nlcc nl0)))),tv⟩ ?_
    refine wxd tbk [(16,rp _ _)] ⟨Qay (vs:=[(I (w64 (p0.Heat-x5.Heat))),(I (w64 (p0.Silica-x5.Silica))),(I (w64 (p0.Gas-x5.Gas)))]) rfl Q1l Qyx rfl (by rfl) rfl,tv⟩<|Qaj ?_
    obtain rfl:=osi h
    exact fend ⟨[(.dat 4 (y2.map Qag)),(Zay p0 x5),I 0],⟨Qbz (v:=(.acc 1 63 4 (y2.map Qag))) rot Less.acc,Qbk (n:=2) (m:=3) (j:=0) (i:=0) (xs:=[[(I (w64 (p0.Heat-x5.Heat))),(I (w64 (p0.Silica-x5.Silica))),(I (w64 (p0.Gas-x5.Gas)))]]) (by kernel_rfl) (by kernel_rfl) Qy1 (by decide) rfl (nle rfl) rfl,rot,tv⟩,rfl⟩ (NLt.tup _ (nlc (nld Qah _) (nlc (NLt.agg _ (nlcc (nlc nll nl0))) (nlc nll nl0))))
   ·skip
    obtain⟨x7,hf6,h⟩:=bno h
    refine wx tbk [(3,rp _ _),(4,rp _ _)] ⟨apv Q5a (Qpb N p0.Mass p1 _ hf6) (nlc nll (nlc (nld Qae _) nl0)) (nld Qae _),alq 1 Qac x7 underlying27,tv⟩<|Qas ?_
    refine wmr (Mor.trans (Qvv 2 63 4 4 (by kernel_rfl) (by kernel_rfl)) (mto (n:=79) (l':=[(2,.ref 0 4 0 0),(4,(.acc 1 63 4 ((([]):List Qab).map Qag))),(5,.ref 2 3 0 0),(35,(.dat 1 (x7.map Qac))),(36,(I ((x7.length:Int)))),(37,I 0)]) (own':=[(Qpp p0),.tok,Qtj]) [(2,.ref 0 4 0 0),(4,(.acc 2 63 4 (([]:List Qab).map Qag))),(5,.ref 1 3 0 0),(35,(.dat 1 (x7.map Qac))),(36,(I ((x7.length:Int)))),(37,I 0)] [0,2,1] [(Qpp p0),.tok,Qtj] hφ0 (prr (pc (.rn (Qf8 rfl (Qd3 Qah _))) (prr (pc (rnd Qae) (pw (pw pn)))))) (qb (lcc (lcc ln)) (qc .tok (qb (lcc (lc rwl ln)) qn))))) ?_
    refine Qb9 (τ:=(List Qab)×Int) (fun n t=>Qet N p0 k3 x7 n t.1 t.2=some r) (fun ⟨y8,y9⟩=>⟨mk 79 [(2,.ref 0 4 0 0),(4,(.acc 1 63 4 (y8.map Qag))),(5,.ref 2 3 0 0),(35,(.dat 1 (x7.map Qac))),(36,(I ((x7.length:Int)))),(37,I y9)],[(Qpp p0),.tok,Qtj]⟩) (fun t h=>by rw[Qet] at h;cases h) (fun n12 ih t h=>?_) N ([],0) h
    obtain⟨y8,y9⟩:=t
    rw[Qet] at h
    skip
    refine wxz<|wsq ?_
    refine bfe h (fun hc13 h=>?_) fun hc13 h=>?_
    ·refine wft hc13<|Qat<|thn<|wsq<|Qas ?_
     obtain⟨x14,hg15,h⟩:=bno h
     obtain⟨hi16,hj17⟩:=gsm hg15
     refine wx tbk [(0,rp _ _)] ⟨aiq underlying27 ti3 Qac hi16 hj17,tv⟩ ?_
     refine wx tbk [(0,rp [(.tmp 9,.ref 3 1 0 0),(.tmp 2,.ref 0 4 0 0)] Q39)] ⟨Qdv (fs:=[]) (cs:=[.ref 3 1 0 0,.ref 0 4 0 0]) rfl rfl rfl rfl,tv⟩ ?_
     obtain⟨x19,hf18,h⟩:=bno h
     obtain⟨x21,hf20,h⟩:=bno h
     obtain⟨x23,hf22,h⟩:=bno h
     obtain⟨ha24,h⟩:=cko h
     refine wy1 tbk [(5,rb [(.tmp 44,Q39),(.tmp 46,I p0.Heat)] [(3,.own 1 [[I x14]]),(0,(Qpp p0))] (I x19)),(9,rb [(.tmp 48,Q39),(.tmp 50,I p0.Silica)] [(3,.own 1 [[I x14]]),(0,(Qpp p0))] (I x21)),(13,rb [(.tmp 52,Q39),(.tmp 54,I p0.Gas)] [(3,.own 1 [[I x14]]),(0,(Qpp p0))] (I x23)),(14,rp _ _),(15,rp [(.tmp 56,(.agg [I x14,I x19,I x21,I x23]))] (.dat 4 (([(⟨x14,x19,x21,x23⟩:Qab)]:List Qab).map Qag))),(16,⟨[(.tmp 42,(.acc 1 63 4 (y8.map Qag))),(.tmp 57,(.dat 4 (([(⟨x14,x19,x21,x23⟩:Qab)]:List Qab).map Qag)))],[(1,.tok),(4,.unused)],(.acc 4 63 4 ((y8++([(⟨x14,x19,x21,x23⟩:Qab)]):List Qab).map Qag)),[(1,.dead),(4,.tok)],false⟩)] ⟨Qfn (rd':=[(.tmp 44,(Q0m x14 p0)),(.tmp 46,I p0.Heat)]) [(3,1,[[I x14]]),(0,4,[[I p0.Mass,I p0.Heat,I p0.Silica,I p0.Gas]])] ⟨rfl,(Q6c tv ⟨(Qnz 0 rfl (lc (.same _) ln)),(Qnz 1 rfl (lc (.same _) (lc (.same _) (lc (.same _) (lc (.same _) ln))))),tv⟩),rfl,.same _,tv⟩ (by rfl) (.lit _) Qmn (Qar (first:=[]) (cap:=[(.dptr [I x14] 0),(.dptr [I p0.Mass,I p0.Heat,I p0.Silica,I p0.Gas] 0)]) (vs:=[I p0.Heat]) (σr:=[]) (σr':=[]) (res':=(I x19)) [] rfl Qsy (Qgd N p0.Heat x14 p0.Mass p0.Heat p0.Silica p0.Gas _ hf18) rfl (Qbd (rnc (.plain _ nll) (rnc (.plain _ (NLt.dptr _ _ (nlc nll nl0))) (rnc (.plain _ (NLt.dptr _ _ (nlcc (nlcc nl0)))) rn0)))) Qaq Qaq (.plain _ nll) rfl rfl rfl),Qfn (rd':=[(.tmp 48,(Q0m x14 p0)),(.tmp 50,I p0.Silica)]) [(3,1,[[I x14]]),(0,4,[[I p0.Mass,I p0.Heat,I p0.Silica,I p0.Gas]])] ⟨rfl,(Q6c tv ⟨(Qnz 0 rfl (lc (.same _) ln)),(Qnz 1 rfl (lc (.same _) (lc (.same _) (lc (.same _) (lc (.same _) ln))))),tv⟩),rfl,.same _,tv⟩ (by rfl) (.lit _) Qmn (Qar (first:=[]) (cap:=[(.dptr [I x14] 0),(.dptr [I p0.Mass,I p0.Heat,I p0.Silica,I p0.Gas] 0)]) (vs:=[I p0.Silica]) (σr:=[]) (σr':=[]) (res':=(I x21)) [] rfl Qsy (Qgd N p0.Silica x14 p0.Mass p0.Heat p0.Silica p0.Gas _ hf20) rfl (Qbd (rnc (.plain _ nll) (rnc (.plain _ (NLt.dptr _ _ (nlc nll nl0))) (rnc (.plain _ (NLt.dptr _ _ (nlcc (nlcc nl0)))) rn0)))) Qaq Qaq (.plain _ nll) rfl rfl rfl),Qfn (rd':=[(.tmp 52,(Q0m x14 p0)),(.tmp 54,I p0.Gas)]) [(3,1,[[I x14]]),(0,4,[[I p0.Mass,I p0.Heat,I p0.Silica,I p0.Gas]])] ⟨rfl,(Q6c tv ⟨(Qnz 0 rfl (lc (.same _) ln)),(Qnz 1 rfl (lc (.same _) (lc (.same _) (lc (.same _) (lc (.same _) ln))))),tv⟩),rfl,.same _,tv⟩ (by rfl) (.lit _) Qmn (Qar (first:=[]) (cap:=[(.dptr [I x14] 0),(.dptr [I p0.Mass,I p0.Heat,I p0.Silica,I p0.Gas] 0)]) (vs:=[I p0.Gas]) (σr:=[]) (σr':=[]) (res':=(I x23)) [] rfl Qsy (Qgd N p0.Gas x14 p0.Mass p0.Heat p0.Silica p0.Gas _ hf22) rfl (Qbd (rnc (.plain _ nll) (rnc (.plain _ (NLt.dptr _ _ (nlc nll nl0))) (rnc (.plain _ (NLt.dptr _ _ (nlcc (nlcc nl0)))) rn0)))) Qaq Qaq (.plain _ nll) rfl rfl rfl),Qay (vs:=[I x14,I x19,I x21,I x23]) rfl ts63 tz63 rfl (by rfl) rfl,Qbi (vs:=[(.agg [I x14,I x19,I x21,I x23])]) rfl underlying45 ti63 tz63 rfl (by decide) rfl (by decide) (by rfl) (by rfl) (by rfl) rfl,Qft rfl underlying45 te63 (Base.acc _ _) rfl rfl (by rfl) (Qi4 Qag ha24) (Qi3 Qag ha24 (by decide)) (Qi2 Qag) rfl rfl,tv⟩<|bln<|thn<|wxz1<|thn ?_
     exact arm (mto (n:=79) [(2,.ref 0 4 0 0),(4,(.acc 4 63 4 ((y8++([(⟨x14,x19,x21,x23⟩:Qab)]):List Qab).map Qag))),(5,.ref 2 3 0 0),(35,(.dat 1 (x7.map Qac))),(36,(I ((x7.length:Int)))),(37,(I (w64 (y9+1))))] [0,4,2] [(Qpp p0),.tok,Qtj] hφ0 (prr (pc (.rn (Qf8 rfl (Qd3 Qah _))) (prr (pc (rnd Qae) (pw (pw pn)))))) (qb (lcc (lcc ln)) (qc .tok (qb (lcc (lc rwl ln)) qn)))) (ih (y8++([(⟨x14,x19,x21,x23⟩:Qab)]),w64 (y9+1)) h)
    ·exact wfn hc13<|Qbm<|Qa4<|Qa4<|Qbl rfl<|thn<|⟨(y8),h,(mto (n:=79) [(2,.ref 0 4 0 0),(4,(.acc 1 63 4 (y8.map Qag))),(5,.ref 2 3 0 0)] [0,1,2] [(Qpp p0),.tok,Qtj] hφ0 (prr (pc (.rn (Qf8 rfl (Qd3 Qah _))) (prr pn))) (qb (lcc (lcc ln)) (qc .tok (qb (lcc (lc rwl ln)) qn))))⟩
  ·skip
   obtain⟨x26,hf25,h⟩:=bno h
   refine hpre (A:=(Q0l p0 x26)) ⟨apv Qsz (Qfv N p0 _ hf25) (nlc (NLt.agg _ (nlcc (nlcc nl0))) nl0) nll,tv⟩ fun q1_=>?_
   refine bfe h (fun hb27 h=>?_) fun hb27 h=>?_
   ·refine wx tbk (hcat (Q0l p0 x26) [(3,rp [(.tmp 14,(B ((!x26))))] (B true))]) (hap q1_ ⟨asb hb27 (amv rfl),tv⟩)<|wtr ?_
    refine wx tbk [(0,rp _ _)] ⟨Qay (vs:=[]) rfl Q1l Qyx rfl (by rfl) rfl,tv⟩<|Qaj<|Qap ?_
    obtain rfl:=osi h
    exact fend ⟨[Qw0,Q4a,I 1],⟨Qbz (v:=nilS) rot Less.nil,Qbk (n:=1) (m:=3) (j:=0) (i:=0) (xs:=[[I 0,I 0,I 0]]) (by kernel_rfl) (by kernel_rfl) Qy1 (by decide) rfl (nle rfl) rfl,rot,tv⟩,rfl⟩ (NLt.tup _ (nlc (nld Qah _) (nlc (NLt.agg _ (nlcc (nlc nll nl0))) (nlc nll nl0))))
   ·refine hpre (A:=(Q0k p0 x26 p1)) (hap q1_ ⟨asb hb27 (amv rfl),ag_ (alq 1 Qac p1 underlying27),tv⟩) fun q2_=>?_
    refine bfe h (fun hb28 h=>?_) fun hb28 h=>?_
    ·refine wx tbk (hcat (Q0k p0 x26 p1) [(8,rp [(.tmp 19,(B ((decide ((p1.length:Int)>20)))))] (B true))]) (hap q2_ ⟨asb hb28 (amv rfl),tv⟩)<|wtr ?_
     refine wx tbk [(0,rp _ _)] ⟨Qay (vs:=[]) rfl Q1l Qyx rfl (by rfl) rfl,tv⟩<|Qaj<|Qap ?_
     obtain rfl:=osi h
     exact fend ⟨[Qw0,Q4a,I 1],⟨Qbz (v:=nilS) rot Less.nil,Qbk (n:=1) (m:=3) (j:=0) (i:=0) (xs:=[[I 0,I 0,I 0]]) (by kernel_rfl) (by kernel_rfl) Qy1 (by decide) rfl (nle rfl) rfl,rot,tv⟩,rfl⟩ (NLt.tup _ (nlc (nld Qah _) (nlc (NLt.agg _ (nlcc (nlc nll nl0))) (nlc nll nl0))))
    ·obtain⟨x30,hf29,h⟩:=bno h
     refine hpre (A:=(Q0j p0 x26 p1 x30)) (hap q2_ ⟨asb hb28 (amv rfl),ag_ (Qar (first:=[]) (cap:=[]) (vs:=[(.dat 1 (p1.map Qac)),(.fn (.func 150) [] [])]) (σr:=[]) (σr':=[]) (res':=(B x30)) [] rfl Q5c (Qmk N p1 _ hf29) rfl (Qbd (rnc (pld Qae) (rnc (.plain _ (NLt.fn _ _ _ nl0 nl0)) rn0))) Qaq Qaq (.plain _ nll) rfl rfl rfl),tv⟩) fun q3_=>?_
     refine bfe h (fun hb31 h=>?_) fun hb31 h=>?_
     ·refine wx tbk (hcat (Q0j p0 x26 p1 x30) [(14,rp [(.tmp 25,(B ((!x30))))] (B true))]) (hap q3_ ⟨asb hb31 (amv rfl),tv⟩)<|wtr ?_
      refine wx tbk [(0,rp _ _)] ⟨Qay (vs:=[]) rfl Q1l Qyx rfl (by rfl) rfl,tv⟩<|Qaj<|Qap ?_
      obtain rfl:=osi h
      exact fend ⟨[Qw0,Q4a,I 1],⟨Qbz (v:=nilS) rot Less.nil,Qbk (n:=1) (m:=3) (j:=0) (i:=0) (xs:=[[I 0,I 0,I 0]]) (by kernel_rfl) (by kernel_rfl) Qy1 (by decide) rfl (nle rfl) rfl,rot,tv⟩,rfl⟩ (NLt.tup _ (nlc (nld Qah _) (nlc (NLt.agg _ (nlcc (nlc nll nl0))) (nlc nll nl0))))
     ·obtain⟨x33,hf32,h⟩:=bno h
      refine wx tbk (hcat (Q0j p0 x26 p1 x30) [(14,rp [(.tmp 25,(B ((!x30))))] (B false)),(16,rp [(.tmp 26,B false),fu 126,(.tmp 27,(.dat 1 (p1.map Qac))),fu 152] (B x33))]) (hap q3_ ⟨asb hb31 (amv rfl),ag_ (Qar (first:=[]) (cap:=[]) (vs:=[(.dat 1 (p1.map Qac)),(.fn (.func 152) [] [])]) (σr:=[]) (σr':=[]) (res':=(B x33)) [] rfl Qnx (Qgt N p1 _ hf32) rfl (Qbd (rnc (pld Qae) (rnc (.plain _ (NLt.fn _ _ _ nl0 nl0)) rn0))) Qaq Qaq (.plain _ nll) rfl rfl rfl),tv⟩) ?_
      refine bfe h (fun hc34 h=>?_) fun hc34 h=>?_
      ·refine wft hc34<|wx tbk [(0,rp _ _)] ⟨Qay (vs:=[]) rfl Q1l Qyx rfl (by rfl) rfl,tv⟩<|Qaj<|Qap ?_
       obtain rfl:=osi h
       exact fend ⟨[Qw0,Q4a,I 1],⟨Qbz (v:=nilS) rot Less.nil,Qbk (n:=1) (m:=3) (j:=0) (i:=0) (xs:=[[I 0,I 0,I 0]]) (by kernel_rfl) (by kernel_rfl) Qy1 (by decide) rfl (nle rfl) rfl,rot,tv⟩,rfl⟩ (NLt.tup _ (nlc (nld Qah _) (nlc (NLt.agg _ (nlcc (nlc nll nl0))) (nlc nll nl0))))
      ·exact wfn hc34<|Qat<|thn<|⟨(),h,(mto (n:=79) [(1,(.dat 1 (p1.map Qac))),(2,.ref 0 4 0 0),(4,nilS),(5,.ref 1 3 0 0)] [0,1] [(Qpp p0),Qtj] hφ0 (pc (rnd Qae) (prr (pw (prr pn)))) (qb (lcc (lcc ln)) (qb (lcc (lc rwl ln)) qn)))⟩
end
end Go.Proofs.YtmbhnllcfmiajaaGreat
