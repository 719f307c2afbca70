/-
  The texts Xt, EngZ, Xo, X1, X2 of the proof, one behind the other. No conditions.
-/
import Derived.Test.YtcoojdacfknboafGreatG2
import Derived.Conc.MuLone
import Derived.Test.YtcoojdacfknboafGreatRows
import Derived.ProofKit
import Derived.Deep.Slices
import Derived.Deep.Fields
import Derived.ChangeSame
import Derived.Lib.SmallJoins
import Derived.SizedLaws
import Derived.OpenShut
namespace Go.Proofs.YtcoojdacfknboafGreat
open _root_.Go.Proofs.Tryz
open Go.RowKit
set_option maxRecDepth 100000
set_option maxHeartbeats 4000000
set_option synthInstance.maxSize 4000
set_option synthInstance.maxHeartbeats 400000
set_option linter.defProp false
set_option linter.unusedVariables false
set_option linter.unusedSimpArgs false
section
def Xag:=@underlying27
def Xa0:=@underlying112
def Xa2:=@underlying48
def Xa4:=@underlying52
def Xbh:=@underlying141
def Xbr:=@underlying60
def Xbt:=@underlying160
def Xbu:=@underlying158
def Xbv:=@underlying113
def Xb6:=@underlying99
def Xb7:=@underlying56
def Xce:=@underlying3
def Xck:=@underlying32
def Xcq:=@underlying102
def Xcw:=@underlying92
def Xcx:=@underlying89
def Xcy:=@underlying47
def Xc1:=@underlying220
def Xc6:=@underlying162
def Xc7:=@underlying104
def Xdc:=@underlying90
def Xdd:=@underlying50
def Xde:=@underlying23
def Xdh:=@underlying202
def Xdi:=@underlying188
def Xds:=@underlying75
def Xdt:=@underlying29
def Xdu:=@underlying24
def Xd2:=@underlying142
def Xes:=@underlying71
def Xe5:=@underlying168
def Xfd:=@underlying88
def Xft:=@func72
def Xfu:=@func51
def Xf4:=@underlying150
def Xf5:=@underlying146
def Xf6:=@underlying125
def Xf7:=@underlying123
def Xf8:=@underlying107
def Xf9:=@underlying105
def Xge:=@underlying80
def Xgf:=@underlying77
def Xgg:=@underlying73
def Xgh:=@underlying34
def Xgi:=@underlying31
def Xgj:=@underlying28
def Xgk:=@underlying26
def Xg9:=@underlying209
def Xha:=@underlying205
def Xhb:=@underlying198
def Xhc:=@underlying147
def Xhd:=@underlying119
def Xhe:=@underlying116
def Xhf:=@underlying115
def Xhk:=@underlying86
def Xhl:=@underlying82
def Xhm:=@underlying62
def Xhn:=@underlying58
def Xho:=@underlying42
def Xhp:=@underlying40
abbrev zi0:Value:=.int .i64 0
def Qa8 (g:FuncId):Prop:=∀vals w,(callFunc g vals).run prog w=.ok (.enter g vals) w
def entr {g : FuncId} {fn : Func} {c : Code} (h : prog.funcs[g]? = some fn) (h1 : (fn.name == "runtime.NumGoroutine") = false := by kernel_rfl) (h2 : fn.body = some c := by rfl) : Qa8 g := fun vals w => MuLone.run_callFunc_enter h h1 h2 vals w
def Qab (x:Int):List AV:=[K .i64 x]
def Qar:∀x,∀a∈Qab x,NLt 0 a:=fun _=>Qlf (.lit _) Qn9
instance:NLc Qab:=⟨Qar⟩
def Qvh:∀x,(Qab x).all AV.one=true:=fun _=>rfl
structure GRow where
  T:Int
  P:Int
  Liquid:Int
  Vapour:Int
  Silica:Int
  deriving DecidableEq
def Qat (x:GRow):List AV:=Qab x.T++Qab x.P++Qab x.Liquid++Qab x.Vapour++Qab x.Silica
def Qcg:∀x,∀a∈Qat x,NLt 0 a:=fun _=>(Qgh (Qgh (Qgh (Qgh (Qar _) (Qar _)) (Qar _)) (Qar _)) (Qar _))
instance:NLc Qat:=⟨Qcg⟩
def c_u8 (x:Int):List AV:=[K .u8 x]
def Zwb:∀x,∀a∈c_u8 x,NLt 0 a:=fun _=>Qlf (.lit _) Qn9
instance:NLc c_u8:=⟨Zwb⟩
structure Qhm where
  Element:Int
  Outlet:Int
  deriving DecidableEq
def Qew (x:Qhm):List AV:=Qab x.Element++Qab x.Outlet
def Qsb:∀x,∀a∈Qew x,NLt 0 a:=fun _=>(Qgh (Qar _) (Qar _))
instance:NLc Qew:=⟨Qsb⟩
def Qxh (x:List Qhm):List AV:=[.dat 2 (x.map Qew)]
def Q5m:∀x,∀a∈Qxh x,NLt 0 a:=fun _=>Qlf (Qpp Qsb _) Qn9
instance:NLc Qxh:=⟨Q5m⟩
def Qwk (x:List Int):List AV:=[.dat 1 (x.map Qab)]
def Qvi:∀x,∀a∈Qwk x,NLt 0 a:=fun _=>Qlf (Qpp Qar _) Qn9
instance:NLc Qwk:=⟨Qvi⟩
structure Qam where
  Kind:Int
  From:List Qhm
  Level:Int
  Amount:Int
  Wide:Int
  Narrow:Int
  Weights:List Int
  deriving DecidableEq
def Qaj (x:Qam):List AV:=c_u8 x.Kind++Qxh x.From++Qab x.Level++Qab x.Amount++Qab x.Wide++Qab x.Narrow++Qwk x.Weights
def Qau:∀x,∀a∈Qaj x,NLt 0 a:=fun _=>(Qgh (Qgh (Qgh (Qgh (Qgh (Qgh (Zwb _) (Q5m _)) (Qar _)) (Qar _)) (Qar _)) (Qar _)) (Qvi _))
instance:NLc Qaj:=⟨Qau⟩
def Q3o (x:List GRow):List AV:=[.dat 5 (x.map Qat)]
def Zbb:∀x,∀a∈Q3o x,NLt 0 a:=fun _=>Qlf (Qpp Qcg _) Qn9
instance:NLc Q3o:=⟨Zbb⟩
def Qq2 (x:List Qam):List AV:=[.dat 7 (x.map Qaj)]
def Qwf:∀x,∀a∈Qq2 x,NLt 0 a:=fun _=>Qlf (Qpp Qau _) Qn9
instance:NLc Qq2:=⟨Qwf⟩
structure GNet where
  Table:List GRow
  Elements:List Qam
  deriving DecidableEq
def Qpt (x:GNet):List AV:=Q3o x.Table++Qq2 x.Elements
def Zrv:∀x,∀a∈Qpt x,NLt 0 a:=fun _=>(Qgh (Zbb _) (Qwf _))
instance:NLc Qpt:=⟨Zrv⟩
structure Qaa where
  Mass:Int
  Heat:Int
  Silica:Int
  Gas:Int
  deriving DecidableEq
def Qag (x:Qaa):List AV:=Qab x.Mass++Qab x.Heat++Qab x.Silica++Qab x.Gas
def Qaq:∀x,∀a∈Qag x,NLt 0 a:=fun _=>(Qgh (Qgh (Qgh (Qar _) (Qar _)) (Qar _)) (Qar _))
instance:NLc Qag:=⟨Qaq⟩
structure Qrg where
  Heat:Int
  Silica:Int
  Gas:Int
  deriving DecidableEq
def Q81 (x:Qrg):List AV:=Qab x.Heat++Qab x.Silica++Qab x.Gas
def Zmd:∀x,∀a∈Q81 x,NLt 0 a:=fun _=>(Qgh (Qgh (Qar _) (Qar _)) (Qar _))
instance:NLc Q81:=⟨Zmd⟩
def Qao (x:List Qaa):List AV:=[.dat 4 (x.map Qag)]
def Qa6:∀x,∀a∈Qao x,NLt 0 a:=fun _=>Qlf (Qpp Qaq _) Qn9
instance:NLc Qao:=⟨Qa6⟩
structure Qbp where
  Heat:Int
  Silica:Int
  Gas:Int
  Scale:Int
  deriving DecidableEq
def Qa9 (x:Qbp):List AV:=Qab x.Heat++Qab x.Silica++Qab x.Gas++Qab x.Scale
def Qcp:∀x,∀a∈Qa9 x,NLt 0 a:=fun _=>(Qgh (Qgh (Qgh (Qar _) (Qar _)) (Qar _)) (Qar _))
instance:NLc Qa9:=⟨Qcp⟩
structure Qpw where
  Row:GRow
  deriving DecidableEq
def Qut (x:Qpw):List AV:=Qat x.Row
def Zhu:∀x,∀a∈Qut x,NLt 0 a:=fun _=>(Qcg _)
instance:NLc Qut:=⟨Zhu⟩
structure Qko where
  Steam:Qaa
  Water:Qaa
  Rest:Int
  Scale:Int
  deriving DecidableEq
def Qxj (x:Qko):List AV:=Qag x.Steam++Qag x.Water++Qab x.Rest++Qab x.Scale
def Zht:∀x,∀a∈Qxj x,NLt 0 a:=fun _=>(Qgh (Qgh (Qgh (Qaq _) (Qaq _)) (Qar _)) (Qar _))
instance:NLc Qxj:=⟨Zht⟩
structure Qkb where
  Lo:Int
  Hi:Int
  deriving DecidableEq
def Qxi (x:Qkb):List AV:=Qab x.Lo++Qab x.Hi
def Q5o:∀x,∀a∈Qxi x,NLt 0 a:=fun _=>(Qgh (Qar _) (Qar _))
instance:NLc Qxi:=⟨Q5o⟩
structure Qc8 where
  From:Int
  To:Int
  Seen:Qkb
  deriving DecidableEq
def Qbu (x:Qc8):List AV:=Qab x.From++Qab x.To++Qxi x.Seen
def Qbz:∀x,∀a∈Qbu x,NLt 0 a:=fun _=>(Qgh (Qgh (Qar _) (Qar _)) (Q5o _))
instance:NLc Qbu:=⟨Qbz⟩
def Qxg (x:List Qc8):List AV:=[.dat 4 (x.map Qbu)]
def Q5l:∀x,∀a∈Qxg x,NLt 0 a:=fun _=>Qlf (Qpp Qbz _) Qn9
instance:NLc Qxg:=⟨Q5l⟩
structure Qav where
  Sites:Int
  Tests:List Qc8
  deriving DecidableEq
def Qis (x:Qav):List AV:=Qab x.Sites++Qxg x.Tests
def Zhr:∀x,∀a∈Qis x,NLt 0 a:=fun _=>(Qgh (Qar _) (Q5l _))
instance:NLc Qis:=⟨Zhr⟩
structure Q1n where
  Test:Int
  Before:List Int
  Behind:List Int
  deriving DecidableEq
def Q3q (x:Q1n):List AV:=Qab x.Test++Qwk x.Before++Qwk x.Behind
def Zhs:∀x,∀a∈Q3q x,NLt 0 a:=fun _=>(Qgh (Qgh (Qar _) (Qvi _)) (Qvi _))
instance:NLc Q3q:=⟨Zhs⟩
structure Qay where
  Amount:Int
  Price:Int
  deriving DecidableEq
def Qbm (x:Qay):List AV:=Qab x.Amount++Qab x.Price
def Qlk:∀x,∀a∈Qbm x,NLt 0 a:=fun _=>(Qgh (Qar _) (Qar _))
instance:NLc Qbm:=⟨Qlk⟩
def Qur (x:List Qay):List AV:=[.dat 2 (x.map Qbm)]
def Q00:∀x,∀a∈Qur x,NLt 0 a:=fun _=>Qlf (Qpp Qlk _) Qn9
instance:NLc Qur:=⟨Q00⟩
structure Qb3 where
  Site:Int
  Stairs:List Qay
  deriving DecidableEq
def Qbg (x:Qb3):List AV:=Qab x.Site++Qur x.Stairs
def Qh1:∀x,∀a∈Qbg x,NLt 0 a:=fun _=>(Qgh (Qar _) (Q00 _))
instance:NLc Qbg:=⟨Qh1⟩
def Qus (x:List Qb3):List AV:=[.dat 2 (x.map Qbg)]
def Q01:∀x,∀a∈Qus x,NLt 0 a:=fun _=>Qlf (Qpp Qh1 _) Qn9
instance:NLc Qus:=⟨Q01⟩
structure Qbj where
  Inlets:List Qb3
  Feeds:List Int
  Factor:Int
  Horizon:Int
  deriving DecidableEq
def Qla (x:Qbj):List AV:=Qus x.Inlets++Qwk x.Feeds++Qab x.Factor++Qab x.Horizon
def Zhv:∀x,∀a∈Qla x,NLt 0 a:=fun _=>(Qgh (Qgh (Qgh (Q01 _) (Qvi _)) (Qar _)) (Qar _))
instance:NLc Qla:=⟨Zhv⟩
structure Qae where
  Stair:Qay
  inlet:Int
  deriving DecidableEq
def Qak (x:Qae):List AV:=Qbm x.Stair++Qab x.inlet
def Qap:∀x,∀a∈Qak x,NLt 0 a:=fun _=>(Qgh (Qlk _) (Qar _))
instance:NLc Qak:=⟨Qap⟩
def Qte (x:List (List Qaa)):List AV:=[.dat 1 (x.map Qao)]
def Qwe:∀x,∀a∈Qte x,NLt 0 a:=fun _=>Qlf (Qpp Qa6 _) Qn9
instance:NLc Qte:=⟨Qwe⟩
def Q3p (x:List Qbp):List AV:=[.dat 4 (x.map Qa9)]
def Q5n:∀x,∀a∈Q3p x,NLt 0 a:=fun _=>Qlf (Qpp Qcp _) Qn9
instance:NLc Q3p:=⟨Q5n⟩
structure Qm2 where
  Out:List (List Qaa)
  Lost:List Qbp
  State:List Int
  deriving DecidableEq
def Zjs (x:Qm2):List AV:=Qte x.Out++Q3p x.Lost++Qwk x.State
def Zmc:∀x,∀a∈Zjs x,NLt 0 a:=fun _=>(Qgh (Qgh (Qwe _) (Q5n _)) (Qvi _))
instance:NLc Zjs:=⟨Zmc⟩
def Q23:∀x,∀a∈Qab x,∃v,a=.lit v:=fun _=>Zmm Zr0
def Q8k:∀x,∀a∈Qag x,∃v,a=.lit v:=fun _=>(Q8j (Q8j (Q8j (Q23 _) (Q23 _)) (Q23 _)) (Q23 _))
def Q2h:TI prog 147 true 5:=⟨⟨_,Xhc,rfl⟩,Qdv (by kernel_rfl)⟩
def Zx3:TI prog 213 false 1:=⟨⟨_,underlying213,rfl⟩,Qdv (by kernel_rfl)⟩
def ti3:TI prog 3 false 1:=⟨⟨_,Xce,rfl⟩,Qdv (by kernel_rfl)⟩
def ti47:TI prog 47 false 1:=⟨⟨_,Xcy,rfl⟩,Qdv (by kernel_rfl)⟩
def ti48:TI prog 48 false 1:=⟨⟨_,Xa2,rfl⟩,Qdv (by kernel_rfl)⟩
def Qo8:TI prog 104 true 7:=⟨⟨_,Xc7,rfl⟩,Qdv (by kernel_rfl)⟩
def Zx4:TI prog 194 false 1:=⟨⟨_,underlying194,rfl⟩,Qdv (by kernel_rfl)⟩
def ti5:TI prog 5 false 1:=⟨⟨_,underlying5,rfl⟩,Qdv (by kernel_rfl)⟩
def Zq9:TI prog 102 false 1:=⟨⟨_,Xcq,rfl⟩,Qdv (by kernel_rfl)⟩
def ti27:TI prog 27 false 1:=⟨⟨_,Xag,rfl⟩,Qdv (by kernel_rfl)⟩
def Zx9:TI prog 151 false 1:=⟨⟨_,underlying151,rfl⟩,Qdv (by kernel_rfl)⟩
def ti99:TI prog 99 true 2:=⟨⟨_,Xb6,rfl⟩,Qdv (by kernel_rfl)⟩
def ti50:TI prog 50 true 2:=⟨⟨_,Xdd,rfl⟩,Qdv (by kernel_rfl)⟩
def ti40:TI prog 40 true 4:=⟨⟨_,Xhp,rfl⟩,Qdv (by kernel_rfl)⟩
def Zx6:TI prog 181 false 1:=⟨⟨_,underlying181,rfl⟩,Qdv (by kernel_rfl)⟩
def Zcv:TI prog 209 true 3:=⟨⟨_,Xg9,rfl⟩,Qdv (by kernel_rfl)⟩
def Zyc:TI prog 127 false 1:=⟨⟨_,underlying127,rfl⟩,Qdv (by kernel_rfl)⟩
def Qz4:TI prog 219 false 1:=⟨⟨_,underlying219,rfl⟩,Qdv (by kernel_rfl)⟩
def Zvs:TI prog 220 true 4:=⟨⟨_,Xc1,rfl⟩,Qdv (by kernel_rfl)⟩
def ti89:TI prog 89 false 1:=⟨⟨_,Xcx,rfl⟩,Qdv (by kernel_rfl)⟩
def ti90:TI prog 90 false 1:=⟨⟨_,Xdc,rfl⟩,Qdv (by kernel_rfl)⟩
def ti92:TI prog 92 true 3:=⟨⟨_,Xcw,rfl⟩,Qdv (by kernel_rfl)⟩
def ti52:TI prog 52 false 1:=⟨⟨_,Xa4,rfl⟩,Qdv (by kernel_rfl)⟩
def Qz5:TI prog 137 false 1:=⟨⟨_,underlying137,rfl⟩,Qdv (by kernel_rfl)⟩
def Qt0:TI prog 186 false 1:=⟨⟨_,underlying186,rfl⟩,Qdv (by kernel_rfl)⟩
def Zx5:TI prog 188 true 7:=⟨⟨_,Xdi,rfl⟩,Qdv (by kernel_rfl)⟩
def ti42:TI prog 42 true 4:=⟨⟨_,Xho,rfl⟩,Qdv (by kernel_rfl)⟩
def Q70:TI prog 198 true 10:=⟨⟨_,Xhb,rfl⟩,Qdv (by kernel_rfl)⟩
def Zvt:TI prog 205 true 5:=⟨⟨_,Xha,rfl⟩,Qdv (by kernel_rfl)⟩
def Zx7:TI prog 168 true 1:=⟨⟨_,Xe5,rfl⟩,Qdv (by kernel_rfl)⟩
def Zcw:TI prog 146 true 5:=⟨⟨_,Xf5,rfl⟩,Qdv (by kernel_rfl)⟩
def ti23:TI prog 23 false 1:=⟨⟨_,Xde,rfl⟩,Qdv (by kernel_rfl)⟩
def ti24:TI prog 24 false 1:=⟨⟨_,Xdu,rfl⟩,Qdv (by kernel_rfl)⟩
def ti73:TI prog 73 true 7:=⟨⟨_,Xgg,rfl⟩,Qdv (by kernel_rfl)⟩
def ti71:TI prog 71 false 1:=⟨⟨_,Xes,rfl⟩,Qdv (by kernel_rfl)⟩
def Zq8:TI prog 105 true 2:=⟨⟨_,Xf9,rfl⟩,Qdv (by kernel_rfl)⟩
def Zvv:TI prog 107 true 4:=⟨⟨_,Xf8,rfl⟩,Qdv (by kernel_rfl)⟩
def Zq5:TI prog 142 false 1:=⟨⟨_,Xd2,rfl⟩,Qdv (by kernel_rfl)⟩
def ti58:TI prog 58 true 2:=⟨⟨_,Xhn,rfl⟩,Qdv (by kernel_rfl)⟩
def Qx3:TI prog 160 true 144:=⟨⟨_,Xbt,rfl⟩,Qdv (by kernel_rfl)⟩
def Qro:TI prog 158 true 12:=⟨⟨_,Xbu,rfl⟩,Qdv (by kernel_rfl)⟩
def ti56:TI prog 56 false 1:=⟨⟨_,Xb7,rfl⟩,Qdv (by kernel_rfl)⟩
def ti88:TI prog 88 true 4:=⟨⟨_,Xfd,rfl⟩,Qdv (by kernel_rfl)⟩
def ti86:TI prog 86 true 2:=⟨⟨_,Xhk,rfl⟩,Qdv (by kernel_rfl)⟩
def Zgs:TI prog 109 false 1:=⟨⟨_,underlying109,rfl⟩,Qdv (by kernel_rfl)⟩
def ti82:TI prog 82 true 3:=⟨⟨_,Xhl,rfl⟩,Qdv (by kernel_rfl)⟩
def ti60:TI prog 60 false 1:=⟨⟨_,Xbr,rfl⟩,Qdv (by kernel_rfl)⟩
def Q4s:TI prog 115 true 2:=⟨⟨_,Xhf,rfl⟩,Qdv (by kernel_rfl)⟩
def ti4:TI prog 4 false 1:=⟨⟨_,underlying4,rfl⟩,Qdv (by kernel_rfl)⟩
def Zq7:TI prog 113 false 1:=⟨⟨_,Xbv,rfl⟩,Qdv (by kernel_rfl)⟩
def Qx4:TI prog 116 true 2:=⟨⟨_,Xhe,rfl⟩,Qdv (by kernel_rfl)⟩
def ti62:TI prog 62 true 4:=⟨⟨_,Xhm,rfl⟩,Qdv (by kernel_rfl)⟩
def Qhf:TI prog 119 true 3:=⟨⟨_,Xhd,rfl⟩,Qdv (by kernel_rfl)⟩
def Zyd:TI prog 122 false 1:=⟨⟨_,underlying122,rfl⟩,Qdv (by kernel_rfl)⟩
def ti31:TI prog 31 true 2:=⟨⟨_,Xgi,rfl⟩,Qdv (by kernel_rfl)⟩
def ti29:TI prog 29 false 1:=⟨⟨_,Xdt,rfl⟩,Qdv (by kernel_rfl)⟩
def Zq6:TI prog 125 true 4:=⟨⟨_,Xf6,rfl⟩,Qdv (by kernel_rfl)⟩
def Zvu:TI prog 123 true 2:=⟨⟨_,Xf7,rfl⟩,Qdv (by kernel_rfl)⟩
def ti32:TI prog 32 false 1:=⟨⟨_,Xck,rfl⟩,Qdv (by kernel_rfl)⟩
def ti77:TI prog 77 true 2:=⟨⟨_,Xgf,rfl⟩,Qdv (by kernel_rfl)⟩
def ti75:TI prog 75 false 1:=⟨⟨_,Xds,rfl⟩,Qdv (by kernel_rfl)⟩
def ti80:TI prog 80 true 2:=⟨⟨_,Xge,rfl⟩,Qdv (by kernel_rfl)⟩
def ti26:TI prog 26 true 2:=⟨⟨_,Xgk,rfl⟩,Qdv (by kernel_rfl)⟩
def ti34:TI prog 34 true 4:=⟨⟨_,Xgh,rfl⟩,Qdv (by kernel_rfl)⟩
def Zyb:TI prog 141 true 7:=⟨⟨_,Xbh,rfl⟩,Qdv (by kernel_rfl)⟩
def Zya:TI prog 150 true 12:=⟨⟨_,Xf4,rfl⟩,Qdv (by kernel_rfl)⟩
def Zx8:TI prog 162 true 290:=⟨⟨_,Xc6,rfl⟩,Qdv (by kernel_rfl)⟩
def ts40:TS prog 40 [(0,1),(1,1),(2,1),(3,1)]:=⟨_,Xhp,⟨rfl,⟨_,ti3⟩,rfl,⟨_,ti3⟩,rfl,⟨_,ti3⟩,rfl,⟨_,ti3⟩,trivial⟩⟩
def Zgo:TS prog 209 [(0,1),(1,1),(2,1)]:=⟨_,Xg9,⟨rfl,⟨_,ti3⟩,rfl,⟨_,ti3⟩,rfl,⟨_,ti3⟩,trivial⟩⟩
def ts92:TS prog 92 [(0,1),(1,1),(2,1)]:=⟨_,Xcw,⟨rfl,⟨_,ti89⟩,rfl,⟨_,ti90⟩,rfl,⟨_,ti27⟩,trivial⟩⟩
def Zxy:TS prog 141 [(0,2),(2,3),(5,1),(6,1)]:=⟨_,Xbh,⟨rfl,⟨_,ti50⟩,rfl,⟨_,ti92⟩,rfl,⟨_,ti52⟩,rfl,⟨_,ti3⟩,trivial⟩⟩
def Zxv:TS prog 168 [(0,1)]:=⟨_,Xe5,⟨rfl,⟨_,ti3⟩,trivial⟩⟩
def Zq4:TS prog 198 [(0,4),(4,4),(8,1),(9,1)]:=⟨_,Xhb,⟨rfl,⟨_,ti40⟩,rfl,⟨_,ti40⟩,rfl,⟨_,ti3⟩,rfl,⟨_,ti3⟩,trivial⟩⟩
def Zxu:TS prog 205 [(0,5)]:=⟨_,Xha,⟨rfl,⟨_,Q2h⟩,trivial⟩⟩
def Zxx:TS prog 147 [(0,1),(1,1),(2,1),(3,1),(4,1)]:=⟨_,Xhc,⟨rfl,⟨_,ti3⟩,rfl,⟨_,ti3⟩,rfl,⟨_,ti3⟩,rfl,⟨_,ti3⟩,rfl,⟨_,ti3⟩,trivial⟩⟩
def ts50:TS prog 50 [(0,1),(1,1)]:=⟨_,Xdd,⟨rfl,⟨_,ti47⟩,rfl,⟨_,ti48⟩,trivial⟩⟩
def Zx2:TS prog 104 [(0,1),(1,1),(2,1),(3,1),(4,1),(5,1),(6,1)]:=⟨_,Xc7,⟨rfl,⟨_,ti5⟩,rfl,⟨_,Zq9⟩,rfl,⟨_,ti3⟩,rfl,⟨_,ti3⟩,rfl,⟨_,ti3⟩,rfl,⟨_,ti3⟩,rfl,⟨_,ti27⟩,trivial⟩⟩
def ts99:TS prog 99 [(0,1),(1,1)]:=⟨_,Xb6,⟨rfl,⟨_,ti3⟩,rfl,⟨_,ti3⟩,trivial⟩⟩
def ts42:TS prog 42 [(0,1),(1,1),(2,1),(3,1)]:=⟨_,Xho,⟨rfl,⟨_,ti3⟩,rfl,⟨_,ti3⟩,rfl,⟨_,ti3⟩,rfl,⟨_,ti3⟩,trivial⟩⟩
def Zxw:TS prog 162 [(0,2),(2,144),(146,144)]:=⟨_,Xc6,⟨rfl,⟨_,ti58⟩,rfl,⟨_,Qx3⟩,rfl,⟨_,Qx3⟩,trivial⟩⟩
def ts86:TS prog 86 [(0,1),(1,1)]:=⟨_,Xhk,⟨rfl,⟨_,ti3⟩,rfl,⟨_,ti3⟩,trivial⟩⟩
def ts88:TS prog 88 [(0,1),(1,1),(2,2)]:=⟨_,Xfd,⟨rfl,⟨_,ti3⟩,rfl,⟨_,ti3⟩,rfl,⟨_,ti86⟩,trivial⟩⟩
def ts58:TS prog 58 [(0,1),(1,1)]:=⟨_,Xhn,⟨rfl,⟨_,ti3⟩,rfl,⟨_,ti56⟩,trivial⟩⟩
def ts82:TS prog 82 [(0,1),(1,1),(2,1)]:=⟨_,Xhl,⟨rfl,⟨_,ti3⟩,rfl,⟨_,ti27⟩,rfl,⟨_,ti27⟩,trivial⟩⟩
def Zxz:TS prog 119 [(0,2),(2,1)]:=⟨_,Xhd,⟨rfl,⟨_,Qx4⟩,rfl,⟨_,ti3⟩,trivial⟩⟩
def ts62:TS prog 62 [(0,1),(1,1),(2,1),(3,1)]:=⟨_,Xhm,⟨rfl,⟨_,ti60⟩,rfl,⟨_,ti27⟩,rfl,⟨_,ti3⟩,rfl,⟨_,ti3⟩,trivial⟩⟩
def Zx1:TS prog 115 [(0,1),(1,1)]:=⟨_,Xhf,⟨rfl,⟨_,ti3⟩,rfl,⟨_,Zq7⟩,trivial⟩⟩
def Zx0:TS prog 116 [(0,1),(1,1)]:=⟨_,Xhe,⟨rfl,⟨_,ti3⟩,rfl,⟨_,ti3⟩,trivial⟩⟩
def Qmr:Qa8 110:=entr func110
def Znb:Qa8 117:=entr func117
def Zm2:Qa8 127:=entr func127
def Zmy:Qa8 133:=entr func133
def Zm3:Qa8 126:=entr func126
def Znc:Qa8 116:=entr func116
def Zqz:TZ prog 147 [zi0,zi0,zi0,zi0,zi0]:=Qk7 (by kernel_rfl)
def Zbv:Qa8 104:=entr func104
def Zsh:Qa8 91:=entr func91
def Qp3:Qa8 77:=entr func77
def Znj:Qa8 107:=entr func107
def Zit:Qa8 94:=entr func94
def Qvr:Qa8 72:=entr Xft
def Qvs:Qa8 51:=entr Xfu
def Ziu:Qa8 75:=entr func75
def Zni:Qa8 108:=entr func108
def Zsf:Qa8 93:=entr func93
def Znk:Qa8 106:=entr func106
def Zna:Qa8 118:=entr func118
def Znl:Qa8 105:=entr func105
def Zsg:Qa8 92:=entr func92
def Zdp:CkT prog 99 2:=ck2 Xb6 Xce Xce rfl rfl
def zb4:∃i,prog.info? 4=some i/\i.zero=some (.bool false):=Zw4 (by kernel_rfl)
def Zq3:TZ prog 104 [.int .u8 0,.slice none 0 0,zi0,zi0,zi0,zi0,.slice none 0 0]:=Qk7 (by kernel_rfl)
def tz99:TZ prog 99 [zi0,zi0]:=Qk7 (by kernel_rfl)
def Zi2:Qa8 43:=entr func43
def Zss:Qa8 74:=entr func74
def Zsr:Qa8 76:=entr func76
def Zs1:Qa8 60:=entr func60
def tz3:TZ prog 3 [zi0]:=Qk7 (by kernel_rfl)
def te3:TE prog 3 1 8:=Qx6 (by kernel_rfl) (by decide)
def Q8t:Qa8 78:=entr func78
def Q8r:Qa8 97:=entr func97
def Zso:Qa8 81:=entr func81
def Zsp:Qa8 80:=entr func80
def Zsd:Qa8 96:=entr func96
def Znh:Qa8 109:=entr func109
def Zse:Qa8 95:=entr func95
def Zsq:Qa8 79:=entr func79
def tz40:TZ prog 40 [zi0,zi0,zi0,zi0]:=Qk7 (by kernel_rfl)
def Qzc:Qa8 23:=entr func23
def Zs0:Qa8 61:=entr func61
def Zct:TZ prog 209 [zi0,zi0,zi0]:=Qk7 (by kernel_rfl)
def Zm8:Qa8 120:=entr func120
def Zm1:Qa8 128:=entr func128
def Zm7:Qa8 121:=entr func121
def Zm6:Qa8 122:=entr func122
def Zbu:Qa8 130:=entr func130
def Zmw:Qa8 135:=entr func135
def Zbt:Qa8 137:=entr func137
def Zmv:Qa8 136:=entr func136
def Zmx:Qa8 134:=entr func134
def Zm0:Qa8 129:=entr func129
def Zm5:Qa8 123:=entr func123
def Q3i:Qa8 124:=entr func124
def te40:TE prog 40 4 32:=Qx6 (by kernel_rfl) (by decide)
def Zvl:TZ prog 220 [.pointer none,.pointer none,.pointer none,.pointer none]:=Qk7 (by kernel_rfl)
def Qul:Qa8 132:=entr func132
def Zmz:Qa8 131:=entr func131
def Zm4:Qa8 125:=entr func125
def Zxs:TZ prog 137 [.pointer none]:=Qk7 (by kernel_rfl)
def te52:TE prog 52 1 24:=Qx6 (by kernel_rfl) (by decide)
def tz52:TZ prog 52 [.slice none 0 0]:=Qk7 (by kernel_rfl)
def te42:TE prog 42 4 32:=Qx6 (by kernel_rfl) (by decide)
def tz42:TZ prog 42 [zi0,zi0,zi0,zi0]:=Qk7 (by kernel_rfl)
def Zsz:Qa8 62:=entr func62
def tz92:TZ prog 92 [.slice none 0 0,.slice none 0 0,.slice none 0 0]:=Qk7 (by kernel_rfl)
def Zvq:TZ prog 141 [.slice none 0 0,.slice none 0 0,.slice none 0 0,.slice none 0 0,.slice none 0 0,.slice none 0 0,zi0]:=Qk7 (by kernel_rfl)
def Zsy:Qa8 63:=entr func63
def Zix:Qa8 65:=entr func65
def Zsm:Qa8 83:=entr func83
def Zbx:Qa8 100:=entr func100
def Zsb:Qa8 99:=entr func99
def Zsc:Qa8 98:=entr func98
def Zsn:Qa8 82:=entr func82
def Zvo:TZ prog 168 [zi0]:=Qk7 (by kernel_rfl)
def Zvn:TZ prog 188 [.nilFunc,.nilFunc,.nilFunc,.nilFunc,.nilFunc,.nilFunc,.nilFunc]:=Qk7 (by kernel_rfl)
def Q8s:Qa8 84:=entr func84
def Zsl:Qa8 85:=entr func85
def Zlo:TZ prog 198 [zi0,zi0,zi0,zi0,zi0,zi0,zi0,zi0,zi0,zi0]:=Qk7 (by kernel_rfl)
def Zng:Qa8 111:=entr func111
def Zvm:TZ prog 205 [zi0,zi0,zi0,zi0,zi0]:=Qk7 (by kernel_rfl)
def Znf:Qa8 112:=entr func112
def Zm9:Qa8 119:=entr func119
def Zne:Qa8 113:=entr func113
def Znn:Qa8 101:=entr func101
def Znd:Qa8 114:=entr func114
def Zbw:Qa8 102:=entr func102
def Zsk:Qa8 86:=entr func86
def Zsj:Qa8 87:=entr func87
def Ziy:Qa8 64:=entr func64
def Ztd:Qa8 40:=entr func40
def Zi3:Qa8 41:=entr func41
def Zye:TE prog 147 5 40:=Qx6 (by kernel_rfl) (by decide)
def tz50:TZ prog 50 [.slice none 0 0,.slice none 0 0]:=Qk7 (by kernel_rfl)
def Ztg:Qa8 24:=entr func24
def tz73:TZ prog 73 [.int .u8 0,.slice none 0 0,zi0,zi0,zi0,zi0,.slice none 0 0]:=Qk7 (by kernel_rfl)
def te99:TE prog 99 2 16:=Qx6 (by kernel_rfl) (by decide)
def Zyi:TE prog 104 7 88:=Qx6 (by kernel_rfl) (by decide)
def Ztf:Qa8 25:=entr func25
def Zti:Qa8 21:=entr func21
def Zxr:TZ prog 142 [.map none]:=Qk7 (by kernel_rfl)
def Zth:Qa8 22:=entr func22
def Ztc:Qa8 42:=entr func42
def Zvp:TZ prog 162 ([zi0,.slice none 0 0]++List.replicate 288 zi0):=Qk7 (by kernel_rfl)
def Zxp:TZ prog 160 (List.replicate 144 zi0):=Qk7 (by kernel_rfl)
def tz88:TZ prog 88 [zi0,zi0,zi0,zi0]:=Qk7 (by kernel_rfl)
def Zs9:Qa8 49:=entr func49
def Zst:Qa8 71:=entr func71
def Zsu:Qa8 70:=entr func70
def Zs8:Qa8 50:=entr func50
def tz86:TZ prog 86 [zi0,zi0]:=Qk7 (by kernel_rfl)
def tz58:TZ prog 58 [zi0,.slice none 0 0]:=Qk7 (by kernel_rfl)
def tz82:TZ prog 82 [zi0,.slice none 0 0,.slice none 0 0]:=Qk7 (by kernel_rfl)
def Qoy:Qa8 27:=entr func27
def Qvt:Qa8 47:=entr func47
def Zi1:Qa8 44:=entr func44
def Qr1:Qa8 28:=entr func28
def Zi7:Qa8 36:=entr func36
def Zs4:Qa8 57:=entr func57
def Zi6:Qa8 37:=entr func37
def Zi4:Qa8 39:=entr func39
def Zs2:Qa8 59:=entr func59
def Zs3:Qa8 58:=entr func58
def Zi5:Qa8 38:=entr func38
def Ztj:Qa8 20:=entr func20
def Zi0:Qa8 46:=entr func46
def Ztb:Qa8 45:=entr func45
def Zxq:TZ prog 150 [.bool false,.bool false,.bool false,.bool false,.bool false,.bool false,.bool false,.bool false,.bool false,.bool false,.bool false,.bool false]:=Qk7 (by kernel_rfl)
def Zq2:TZ prog 115 [zi0,.slice none 0 0]:=Qk7 (by kernel_rfl)
def Ziw:Qa8 67:=entr func67
def Zsx:Qa8 66:=entr func66
def Zsv:Qa8 69:=entr func69
def Zsi:Qa8 88:=entr func88
def Zsw:Qa8 68:=entr func68
def Zta:Qa8 48:=entr func48
def Q3g:Qa8 26:=entr func26
def Zq1:TZ prog 116 [zi0,zi0]:=Qk7 (by kernel_rfl)
def Zs5:Qa8 56:=entr func56
def Zi9:Qa8 33:=entr func33
def Zte:Qa8 34:=entr func34
def tz27:TZ prog 27 [.slice none 0 0]:=Qk7 (by kernel_rfl)
def Zs6:Qa8 53:=entr func53
def Zs7:Qa8 52:=entr func52
def Q8u:Qa8 29:=entr func29
def Zq0:TZ prog 119 [zi0,zi0,zi0]:=Qk7 (by kernel_rfl)
def Zyf:TE prog 119 3 24:=Qx6 (by kernel_rfl) (by decide)
def Q3e:Qa8 89:=entr func89
def Ziv:Qa8 73:=entr func73
def Ziz:Qa8 54:=entr func54
def Zjb:Qa8 31:=entr func31
def Zjc:Qa8 30:=entr func30
def Zja:Qa8 32:=entr func32
def Q3f:Qa8 55:=entr func55
def Q3j:Qa8 115:=entr func115
def Znm:Qa8 103:=entr func103
def Q3d:Qa8 90:=entr func90
def Zi8:Qa8 35:=entr func35
def Qoz:Qa8 17:=entr func17
def Zxt:TZ prog 125 [zi0,zi0,zi0,zi0]:=Qk7 (by kernel_rfl)
def Q3h:Qa8 19:=entr func19
def Ztk:Qa8 18:=entr func18
def tz77:TZ prog 77 [zi0,.slice none 0 0]:=Qk7 (by kernel_rfl)
def tz80:TZ prog 80 [zi0,zi0]:=Qk7 (by kernel_rfl)
def te88:TE prog 88 4 32:=Qx6 (by kernel_rfl) (by decide)
def tz62:TZ prog 62 [.slice none 0 0,.slice none 0 0,zi0,zi0]:=Qk7 (by kernel_rfl)
def Zyg:TE prog 116 2 16:=Qx6 (by kernel_rfl) (by decide)
def Zyh:TE prog 115 2 32:=Qx6 (by kernel_rfl) (by decide)
def Zwr:Qa8 4:=entr func4
def Qox:Qa8 7:=entr func7
def Zwq:Qa8 5:=entr func5
def Zwp:Qa8 6:=entr func6
def Zwn:Qa8 9:=entr func9
def Zto:Qa8 10:=entr func10
def Zwo:Qa8 8:=entr func8
def Qze:Qa8 12:=entr func12
def Qzd:Qa8 13:=entr func13
def Ztn:Qa8 11:=entr func11
def Zjd:Qa8 14:=entr func14
def Ztm:Qa8 15:=entr func15
def Ztl:Qa8 16:=entr func16
def Q8q:EqT prog 9999 158 12:=Zmt 9997 Xbu Xce ti3
def Zdg:EqT prog 10000 99 2:=Zdh (d:=9998) Xb6 (by kernel_rfl) (.int _ (by decide) rfl Xce (.int _ (by decide) rfl Xce (.nil _)))
def Zwm:EqT prog 10000 160 144:=Zr9 9998 Xbt Qro Q8q
def tyT:Tab:=.node 102 ⟨false,1,none,[]⟩ (.node 52 ⟨false,1,some [.slice none 0 0],[]⟩ (.node 31 ⟨true,2,none,[(0,false,1),(1,false,1)]⟩ (.node 24 ⟨false,1,none,[]⟩ (.node 5 ⟨false,1,none,[]⟩ (.node 4 ⟨false,1,none,[]⟩ (.node 3 ⟨false,1,some [zi0],[]⟩ .nil .nil) .nil) (.node 23 ⟨false,1,none,[]⟩ .nil .nil)) (.node 27 ⟨false,1,some [.slice none 0 0],[]⟩ (.node 26 ⟨true,2,none,[(0,false,1),(1,false,1)]⟩ .nil .nil) (.node 29 ⟨false,1,none,[]⟩ .nil .nil))) (.node 42 ⟨true,4,some [zi0,zi0,zi0,zi0],[(0,false,1),(1,false,1),(2,false,1),(3,false,1)]⟩ (.node 34 ⟨true,4,none,[(0,false,1),(1,false,1),(2,false,1),(3,false,1)]⟩ (.node 32 ⟨false,1,none,[]⟩ .nil .nil) (.node 40 ⟨true,4,some [zi0,zi0,zi0,zi0],[(0,false,1),(1,false,1),(2,false,1),(3,false,1)]⟩ .nil .nil)) (.node 48 ⟨false,1,none,[]⟩ (.node 47 ⟨false,1,none,[]⟩ .nil .nil) (.node 50 ⟨true,2,some [.slice none 0 0,.slice none 0 0],[(0,false,1),(1,false,1)]⟩ .nil .nil)))) (.node 80 ⟨true,2,some [zi0,zi0],[(0,false,1),(1,false,1)]⟩ (.node 71 ⟨false,1,none,[]⟩ (.node 60 ⟨false,1,none,[]⟩ (.node 58 ⟨true,2,some [zi0,.slice none 0 0],[(0,false,1),(1,false,1)]⟩ (.node 56 ⟨false,1,none,[]⟩ .nil .nil) .nil) (.node 62 ⟨true,4,some [.slice none 0 0,.slice none 0 0,zi0,zi0],[(0,false,1),(1,false,1),(2,false,1),(3,false,1)]⟩ .nil .nil)) (.node 75 ⟨false,1,none,[]⟩ (.node 73 ⟨true,7,some [.int .u8 0,.slice none 0 0,zi0,zi0,zi0,zi0,.slice none 0 0],[(0,false,1),(1,false,1),(2,false,1),(3,false,1),(4,false,1),(5,false,1),(6,false,1)]⟩ .nil .nil) (.node 77 ⟨true,2,some [zi0,.slice none 0 0],[(0,false,1),(1,false,1)]⟩ .nil .nil))) (.node 89 ⟨false,1,none,[]⟩ (.node 86 ⟨true,2,some [zi0,zi0],[(0,false,1),(1,false,1)]⟩ (.node 82 ⟨true,3,some [zi0,.slice none 0 0,.slice none 0 0],[(0,false,1),(1,false,1),(2,false,1)]⟩ .nil .nil) (.node 88 ⟨true,4,some [zi0,zi0,zi0,zi0],[(0,false,1),(1,false,1),(2,true,2)]⟩ .nil .nil)) (.node 92 ⟨true,3,some [.slice none 0 0,.slice none 0 0,.slice none 0 0],[(0,false,1),(1,false,1),(2,false,1)]⟩ (.node 90 ⟨false,1,none,[]⟩ .nil .nil) (.node 99 ⟨true,2,some [zi0,zi0],[(0,false,1),(1,false,1)]⟩ .nil .nil))))) (.node 147 ⟨true,5,some [zi0,zi0,zi0,zi0,zi0],[(0,false,1),(1,false,1),(2,false,1),(3,false,1),(4,false,1)]⟩ (.node 122 ⟨false,1,none,[]⟩ (.node 113 ⟨false,1,none,[]⟩ (.node 107 ⟨true,4,none,[(0,false,1),(1,false,1),(2,false,1),(3,false,1)]⟩ (.node 105 ⟨true,2,none,[(0,false,1),(1,false,1)]⟩ (.node 104 ⟨true,7,some [.int .u8 0,.slice none 0 0,zi0,zi0,zi0,zi0,.slice none 0 0],[(0,false,1),(1,false,1),(2,false,1),(3,false,1),(4,false,1),(5,false,1),(6,false,1)]⟩ .nil .nil) .nil) (.node 109 ⟨false,1,none,[]⟩ .nil .nil)) (.node 116 ⟨true,2,some [zi0,zi0],[(0,false,1),(1,false,1)]⟩ (.node 115 ⟨true,2,some [zi0,.slice none 0 0],[(0,false,1),(1,false,1)]⟩ .nil .nil) (.node 119 ⟨true,3,some [zi0,zi0,zi0],[(0,true,2),(2,false,1)]⟩ .nil .nil))) (.node 137 ⟨false,1,some [.pointer none],[]⟩ (.node 125 ⟨true,4,some [zi0,zi0,zi0,zi0],[(0,false,1),(1,false,1),(2,true,2)]⟩ (.node 123 ⟨true,2,none,[(0,false,1),(1,false,1)]⟩ .nil .nil) (.node 127 ⟨false,1,none,[]⟩ .nil .nil)) (.node 142 ⟨false,1,some [.map none],[]⟩ (.node 141 ⟨true,7,some [.slice none 0 0,.slice none 0 0,.slice none 0 0,.slice none 0 0,.slice none 0 0,.slice none 0 0,zi0],[(0,true,2),(2,true,3),(5,false,1),(6,false,1)]⟩ .nil .nil) (.node 146 ⟨true,5,none,[(0,false,1),(1,false,1),(2,false,1),(3,false,1),(4,false,1)]⟩ .nil .nil)))) (.node 188 ⟨true,7,some [.nilFunc,.nilFunc,.nilFunc,.nilFunc,.nilFunc,.nilFunc,.nilFunc],[]⟩ (.node 162 ⟨true,290,some ([zi0,.slice none 0 0]++List.replicate 288 zi0),[(0,true,2),(2,true,144),(146,true,144)]⟩ (.node 158 ⟨true,12,none,[]⟩ (.node 151 ⟨false,1,none,[]⟩ (.node 150 ⟨true,12,some [.bool false,.bool false,.bool false,.bool false,.bool false,.bool false,.bool false,.bool false,.bool false,.bool false,.bool false,.bool false],[]⟩ .nil .nil) .nil) (.node 160 ⟨true,144,some (List.replicate 144 zi0),[]⟩ .nil .nil)) (.node 181 ⟨false,1,none,[]⟩ (.node 168 ⟨true,1,some [zi0],[(0,false,1)]⟩ .nil .nil) (.node 186 ⟨false,1,none,[]⟩ .nil .nil))) (.node 209 ⟨true,3,some [zi0,zi0,zi0],[(0,false,1),(1,false,1),(2,false,1)]⟩ (.node 198 ⟨true,10,some [zi0,zi0,zi0,zi0,zi0,zi0,zi0,zi0,zi0,zi0],[(0,true,4),(4,true,4),(8,false,1),(9,false,1)]⟩ (.node 194 ⟨false,1,none,[]⟩ .nil .nil) (.node 205 ⟨true,5,some [zi0,zi0,zi0,zi0,zi0],[(0,true,5)]⟩ .nil .nil)) (.node 219 ⟨false,1,none,[]⟩ (.node 213 ⟨false,1,none,[]⟩ .nil .nil) (.node 220 ⟨true,4,some [.pointer none,.pointer none,.pointer none,.pointer none],[]⟩ .nil .nil)))))
def tbk:tyT.ok prog:=⟨⟨Zq9,trivial,.inl rfl⟩,⟨⟨ti52,tz52,.inl rfl⟩,⟨⟨ti31,trivial,.inr ⟨_,Xgi,rfl,ti3,rfl,ti29,trivial⟩⟩,⟨⟨ti24,trivial,.inl rfl⟩,⟨⟨ti5,trivial,.inl rfl⟩,⟨⟨ti4,trivial,.inl rfl⟩,⟨⟨ti3,tz3,.inl rfl⟩,trivial,trivial⟩,trivial⟩,⟨⟨ti23,trivial,.inl rfl⟩,trivial,trivial⟩⟩,⟨⟨ti27,tz27,.inl rfl⟩,⟨⟨ti26,trivial,.inr ⟨_,Xgk,rfl,ti23,rfl,ti24,trivial⟩⟩,trivial,trivial⟩,⟨⟨ti29,trivial,.inl rfl⟩,trivial,trivial⟩⟩⟩,⟨⟨ti42,tz42,.inr ⟨_,Xho,rfl,ti3,rfl,ti3,rfl,ti3,rfl,ti3,trivial⟩⟩,⟨⟨ti34,trivial,.inr ⟨_,Xgh,rfl,ti32,rfl,ti27,rfl,ti3,rfl,ti3,trivial⟩⟩,⟨⟨ti32,trivial,.inl rfl⟩,trivial,trivial⟩,⟨⟨ti40,tz40,.inr ⟨_,Xhp,rfl,ti3,rfl,ti3,rfl,ti3,rfl,ti3,trivial⟩⟩,trivial,trivial⟩⟩,⟨⟨ti48,trivial,.inl rfl⟩,⟨⟨ti47,trivial,.inl rfl⟩,trivial,trivial⟩,⟨⟨ti50,tz50,.inr ⟨_,Xdd,rfl,ti47,rfl,ti48,trivial⟩⟩,trivial,trivial⟩⟩⟩⟩,⟨⟨ti80,tz80,.inr ⟨_,Xge,rfl,ti3,rfl,ti3,trivial⟩⟩,⟨⟨ti71,trivial,.inl rfl⟩,⟨⟨ti60,trivial,.inl rfl⟩,⟨⟨ti58,tz58,.inr ⟨_,Xhn,rfl,ti3,rfl,ti56,trivial⟩⟩,⟨⟨ti56,trivial,.inl rfl⟩,trivial,trivial⟩,trivial⟩,⟨⟨ti62,tz62,.inr ⟨_,Xhm,rfl,ti60,rfl,ti27,rfl,ti3,rfl,ti3,trivial⟩⟩,trivial,trivial⟩⟩,⟨⟨ti75,trivial,.inl rfl⟩,⟨⟨ti73,tz73,.inr ⟨_,Xgg,rfl,ti5,rfl,ti71,rfl,ti3,rfl,ti3,rfl,ti3,rfl,ti3,rfl,ti27,trivial⟩⟩,trivial,trivial⟩,⟨⟨ti77,tz77,.inr ⟨_,Xgf,rfl,ti3,rfl,ti75,trivial⟩⟩,trivial,trivial⟩⟩⟩,⟨⟨ti89,trivial,.inl rfl⟩,⟨⟨ti86,tz86,.inr ⟨_,Xhk,rfl,ti3,rfl,ti3,trivial⟩⟩,⟨⟨ti82,tz82,.inr ⟨_,Xhl,rfl,ti3,rfl,ti27,rfl,ti27,trivial⟩⟩,trivial,trivial⟩,⟨⟨ti88,tz88,.inr ⟨_,Xfd,rfl,ti3,rfl,ti3,rfl,ti86,trivial⟩⟩,trivial,trivial⟩⟩,⟨⟨ti92,tz92,.inr ⟨_,Xcw,rfl,ti89,rfl,ti90,rfl,ti27,trivial⟩⟩,⟨⟨ti90,trivial,.inl rfl⟩,trivial,trivial⟩,⟨⟨ti99,tz99,.inr ⟨_,Xb6,rfl,ti3,rfl,ti3,trivial⟩⟩,trivial,trivial⟩⟩⟩⟩⟩,⟨⟨Q2h,Zqz,.inr ⟨_,Xhc,rfl,ti3,rfl,ti3,rfl,ti3,rfl,ti3,rfl,ti3,trivial⟩⟩,⟨⟨Zyd,trivial,.inl rfl⟩,⟨⟨Zq7,trivial,.inl rfl⟩,⟨⟨Zvv,trivial,.inr ⟨_,Xf8,rfl,ti3,rfl,ti3,rfl,ti3,rfl,ti3,trivial⟩⟩,⟨⟨Zq8,trivial,.inr ⟨_,Xf9,rfl,ti3,rfl,ti3,trivial⟩⟩,⟨⟨Qo8,Zq3,.inr ⟨_,Xc7,rfl,ti5,rfl,Zq9,rfl,ti3,rfl,ti3,rfl,ti3,rfl,ti3,rfl,ti27,trivial⟩⟩,trivial,trivial⟩,trivial⟩,⟨⟨Zgs,trivial,.inl rfl⟩,trivial,trivial⟩⟩,⟨⟨Qx4,Zq1,.inr ⟨_,Xhe,rfl,ti3,rfl,ti3,trivial⟩⟩,⟨⟨Q4s,Zq2,.inr ⟨_,Xhf,rfl,ti3,rfl,Zq7,trivial⟩⟩,trivial,trivial⟩,⟨⟨Qhf,Zq0,.inr ⟨_,Xhd,rfl,Qx4,rfl,ti3,trivial⟩⟩,trivial,trivial⟩⟩⟩,⟨⟨Qz5,Zxs,.inl rfl⟩,⟨⟨Zq6,Zxt,.inr ⟨_,Xf6,rfl,ti3,rfl,ti3,rfl,Zvu,trivial⟩⟩,⟨⟨Zvu,trivial,.inr ⟨_,Xf7,rfl,ti3,rfl,ti3,trivial⟩⟩,trivial,trivial⟩,⟨⟨Zyc,trivial,.inl rfl⟩,trivial,trivial⟩⟩,⟨⟨Zq5,Zxr,.inl rfl⟩,⟨⟨Zyb,Zvq,.inr ⟨_,Xbh,rfl,ti50,rfl,ti92,rfl,ti52,rfl,ti3,trivial⟩⟩,trivial,trivial⟩,⟨⟨Zcw,trivial,.inr ⟨_,Xf5,rfl,ti3,rfl,ti3,rfl,ti3,rfl,ti3,rfl,ti3,trivial⟩⟩,trivial,trivial⟩⟩⟩⟩,⟨⟨Zx5,Zvn,.inl rfl⟩,⟨⟨Zx8,Zvp,.inr ⟨_,Xc6,rfl,ti58,rfl,Qx3,rfl,Qx3,trivial⟩⟩,⟨⟨Qro,trivial,.inl rfl⟩,⟨⟨Zx9,trivial,.inl rfl⟩,⟨⟨Zya,Zxq,.inl rfl⟩,trivial,trivial⟩,trivial⟩,⟨⟨Qx3,Zxp,.inl rfl⟩,trivial,trivial⟩⟩,⟨⟨Zx6,trivial,.inl rfl⟩,⟨⟨Zx7,Zvo,.inr ⟨_,Xe5,rfl,ti3,trivial⟩⟩,trivial,trivial⟩,⟨⟨Qt0,trivial,.inl rfl⟩,trivial,trivial⟩⟩⟩,⟨⟨Zcv,Zct,.inr ⟨_,Xg9,rfl,ti3,rfl,ti3,rfl,ti3,trivial⟩⟩,⟨⟨Q70,Zlo,.inr ⟨_,Xhb,rfl,ti40,rfl,ti40,rfl,ti3,rfl,ti3,trivial⟩⟩,⟨⟨Zx4,trivial,.inl rfl⟩,trivial,trivial⟩,⟨⟨Zvt,Zvm,.inr ⟨_,Xha,rfl,Q2h,trivial⟩⟩,trivial,trivial⟩⟩,⟨⟨Qz4,trivial,.inl rfl⟩,⟨⟨Zx3,trivial,.inl rfl⟩,trivial,trivial⟩,⟨⟨Zvs,Zvl,.inl rfl⟩,trivial,trivial⟩⟩⟩⟩⟩⟩
section
variable {ops : Array Oper} {X : Nat -> Nat -> Prop} {φ0 : Nat -> FSlot} {w0 : World} {ro : Option Nat} {Q : Exit -> AS -> Prop} {s : AS} {id : Nat} {y : Code}
def wxz (h:AWp prog X φ0 w0 ro y Q (Qu0 tyT ops [] s)) (hm:MetX tyT ops [] s:=by exact⟨by kernel_rfl,by kernel_rfl⟩):AWp prog X φ0 w0 ro (.seq (.region id ops false) y) Q s:=Zwu tbk [] trivial h hm
def wxz1 (h:Q .normal (Qu0 tyT ops [] s)) (hm:MetX tyT ops [] s:=by exact⟨by kernel_rfl,by kernel_rfl⟩):AWp prog X φ0 w0 ro (.region id ops false) Q s:=Zp1 tbk [] trivial h hm
def wxe (h:AWp prog X φ0 w0 ro y Q (Qu0 tyT ops [] s)) (hf:prog.follows .mixedOrders=true:=by kernel_rfl) (hm:MetX tyT ops [] s:=by exact⟨by kernel_rfl,by kernel_rfl⟩) (ho:Qjg (ops.toList.zip (Q49 tyT ops [] s)) [] []=true:=by kernel_rfl):AWp prog X φ0 w0 ro (.seq (.region id ops true) y) Q s:=Zp0 tbk [] trivial h hf hm ho
def wxe1 (h:Q .normal (Qu0 tyT ops [] s)) (hf:prog.follows .mixedOrders=true:=by kernel_rfl) (hm:MetX tyT ops [] s:=by exact⟨by kernel_rfl,by kernel_rfl⟩) (ho:Qjg (ops.toList.zip (Q49 tyT ops [] s)) [] []=true:=by kernel_rfl):AWp prog X φ0 w0 ro (.region id ops true) Q s:=Zjy tbk [] trivial h hf hm ho
end
end
section
open Go.ChangeShapes Go.WideShapes Go.ChangeAt Go.RowKit Go.Deep Go.Joins
def Tryz.own:ownKnob prog.godebug=none:=by kernel_rfl
def Tryz.laidOut:laidOutB prog=true:=by kernel_rfl
def noX:Nat->Nat->Prop:=fun _ _=>False
def noφ:Nat->FSlot:=fun _=>.unused
def RelL (w:World):List AV->List Value->Prop
 |[],[]=>True
 |a::l,v::k=>RelV noX noφ w a v/\RelL w l k
 |_,_=>False
def RelL.get {w:World}:∀{l:List AV}{k:List Value},RelL w l k->k.length=l.length/\∀i a,l[i]? = some a->RelV noX noφ w a (k.getD i undef)
 |[],[],_=>⟨rfl,by simp⟩
 |_::_,_::_,h=>by
  obtain⟨h1,h2⟩:=RelL.get h.2
  refine⟨by simp[h1],fun i a hi=>?_⟩
  cases i with
  |zero=>simp at hi;subst hi;exact h.1
  |succ i=>simpa using h2 i a (by simpa using hi)
def RelL.app {w:World}:∀{l l':List AV}{k k':List Value},RelL w l k->RelL w l' k'->RelL w (l++l') (k++k')
 |[],_,[],_,_,h=>h
 |_::_,_,_::_,_,h,h'=>⟨h.1,RelL.app h.2 h'⟩
def Zib {P:Program}{f:FuncId}{args:List AV}(h:Spec P f args [] (B true) []) {w:World}{vals:Array Value}(hr:RelL w args vals.toList):Calls P f vals w fun e w'=>e=.returned (.bool true)/\Below w.heap.size w w':=by
 obtain⟨h1,h2⟩:=hr.get
 refine(h.calls (X:=noX) (φ:=noφ) (by simpa using h1) (fun i a hi=>?_) (fun _=>rfl) (fun _ _ h=>h.elim)).mono ?_
 ·have:=h2 i a hi
  simpa [Xaf,Xaj] using this
 rintro e w' ⟨v,φ',rfl,hv,hb⟩
 rw[Qd1 hv]
 exact⟨rfl,hb⟩
def Opn (P:Program) (t:TypeId) (n:Nat) {T:Type}(c:T->List AV) (G:T->Prop):Prop:=
 P.cellsOf t=n/\(∀x,(c x).length=n)/\∀(H:Type) (enc:TypeId×Value->H) (w:World) (base:Nat) (spare:Nat->Bool) (held:Bool) (fuel:Nat) (cs:List Value) (x:DataW H×List MemPlace),
  DataW.trod enc P w base spare held fuel t cs=some x->(∀q∈x.1.weights P t,q<=reachBytes)->∃v:T,G v/\RelL w (c v) cs
def Zhi {P:Program}{t:TypeId}{k:IntKind}(ht:P.underlying t=some (.int k)) (hc:P.cellsOf t=1):Opn P t 1 (fun x:Int=>[K k x]) (fun x=>(Lit.int k x).wf=true):=
 ⟨hc,fun _=>rfl,fun _ _ _ _ _ _ _ _ _ h _=>by
  obtain⟨n,rfl,_,hw⟩:=DataW.trod_int ht h
  exact⟨n,hw,.lit _,trivial⟩⟩
def Zrf {w:World}{a:Addr}{v:Value}(h:w.cell? a=some v):a.spot=none/\a.block<w.heap.size:=by
 unfold World.cell? at h
 split at h
 ·rename_i hb
  split at h
  ·cases h
  rename_i hs
  exact⟨by simpa using hs,(Xa3.1 hb).1⟩
 cases h
def Qsi (b o i:Nat):(⟨b,o,none⟩:Addr).add i=⟨b,o+i,none⟩:=by
 unfold Addr.add
 split
 ·rename_i h
  subst h
  rfl
 rfl
def Q5e {T:Type}{p:Nat->T->Prop}:∀(n:Nat),(∀i,i<n->∃x,p i x)->∃l:List T,l.length=n/\∀i x,l[i]? = some x->p i x
 |0,_=>⟨[],rfl,by simp⟩
 |n+1,h=>by
  obtain⟨l,h1,h2⟩:=Q5e n fun i hi=>h i (Nat.lt_succ_of_lt hi)
  obtain⟨x,hx⟩:=h n (Nat.lt_succ_self n)
  refine⟨l++[x],by simp[h1],fun i y hi=>?_⟩
  rcases Xcm i n with hlt |hge
  ·rw[Xas (by omega)] at hi
   exact h2 i y hi
  rw[Xam (by omega)] at hi
  have:i=n:=by
   have:=(Xad.1 hi).1
   simp at this
   omega
  subst this
  simp[h1] at hi
  exact hi▸hx
def Qx0 {H:Type}{P:Program}{e:TypeId}:∀{l:List (DataW H)}{d:DataW H},d∈l->∀q∈d.weights P e,q∈DataW.weightsAll P e l
 |[],_,h,_,_=>by cases h
 |x::l,d,h,q,hq=>by
  rw[DataW.weightsAll]
  rcases Xa7.1 h with rfl |h
  ·exact Xc0 _ hq
  exact Xd5 _ (Qx0 h q hq)
def Qnv {P:Program}{t e:TypeId}{n bb:Nat}{T:Type}{c:T->List AV}{G:T->Prop}(ht:P.underlying t=some (.slice e)) (hc:P.cellsOf t=1) (he:Opn P e n c G) (hn:0<n) (hbb:P.bytesOf e=bb) :
  Opn P t 1 (fun l:List T=>[.dat n (l.map c)]) (fun l=>l.length<=maxLen/\(∀x∈l,G x)/\l.length*bb<=140737488351232):=
 ⟨hc,fun _=>rfl,fun H enc w base spare held fuel cs x h hwt=>by
  obtain⟨hce,hcl,hop⟩:=he
  rcases open_slice ht h with ⟨rfl,_⟩ |⟨a,len,cap,m,fu,D,Pl,rfl,hb,hl,hm,hmm,rfl,hi⟩
  ·exact⟨[],⟨Xbg _,by simp,by simp⟩,.dat n [] none 0 0 (fun _ _=>undef) (DatOK.nil n none 0 _ (Xbg _)) (by simp),trivial⟩
  have hlm:len<=m:=by rw[hmm];split<;>omega
  obtain⟨l,hll,hlp⟩:=Q5e (p:=fun i (v:T)=>G v/\∃cs',cs'.length=n/\(∀j,j<n->w.cell? ((a.add (i*n)).add j)=cs'[j]?)/\RelL w (c v) cs') len fun i hil=>by
   obtain⟨cs',h1,h2⟩:=hi i (by omega)
   obtain⟨v,hG,hr⟩:=hop _ _ _ _ _ _ _ _ _ h2 fun q hq=>hwt q (by
    simp only[DataW.weights,ht]
    exact Xal _ (Xc0 _ (Qx0 (Xba.2 ⟨i,Xd7.2 hil,rfl⟩) q hq)))
   rw[hce] at h1
   obtain⟨_,h3,h4⟩:=World.cells?_some h1
   exact⟨v,hG,cs',h3,h4,hr⟩
  refine⟨l,⟨by omega,fun x hx=>?_,?_⟩,?_,trivial⟩
  ·obtain⟨i,hi'⟩:=Xcj hx
   exact(hlp i x hi').1
  ·have:=hwt ((((List.range len).map D).length+((List.range (m-len)).map fun j=>D (len+j)).length)*P.bytesOf e) (by
    simp only[DataW.weights,ht]
    exact Xb9 ..)
   rw[hbb,Xb3,Xeu,Xcu] at this
   rw[hll]
   exact Xcn (Nat.le_add_right _ _) this
  have elt:∀(i:Nat) y,(l.map c)[i]? = some y->∃v cs',l[i]? = some v/\y=c v/\cs'.length=n/\(∀j,j<n->w.cell? ((a.add (i*n)).add j)=cs'[j]?)/\RelL w (c v) cs':=fun i y hy=>by
   rw[Xaw] at hy
   cases hv:l[i]? with
   |none=>rw[hv] at hy;cases hy
   |some v=>
    rw[hv] at hy
    cases hy
    obtain⟨_,cs',h1,h2,h3⟩:=hlp i v hv
    exact⟨v,cs',rfl,rfl,h1,h2,h3⟩
  have key:∀(i:Nat) y,(l.map c)[i]? = some y->∀j,j<n->∃u,w.cell? ((a.add (i*n)).add j)=some u/\∀q,y[j]? = some q->RelV noX noφ w q u:=fun i y hy j hj=>by
   obtain⟨v,cs',hv,rfl,h1,h2,h3⟩:=elt i y hy
   obtain⟨u,hu⟩:∃u,cs'[j]? = some u:=⟨_,Xab (by omega)⟩
   refine⟨u,(h2 j hj).trans hu,fun q hq=>?_⟩
   have:=(h3.get).2 j q hq
   rwa [Xaj,hu] at this
  rw[<-hll]
  refine .dat n _ (some a) l.length cap (fun i j=>(w.cell? ((a.add (i*n)).add j)).getD undef) ⟨by simp,by omega,hm,fun y hy=>?_,fun hne=>?_⟩ fun i y hy j q hq=>?_
  ·obtain⟨v,_,rfl⟩:=Xba.1 hy
   exact hcl v
  ·obtain⟨y0,hy0⟩:∃y0,(l.map c)[0]? = some y0:=by
    cases l with
    |nil=>exact absurd rfl hne
    |cons v l=>exact⟨c v,rfl⟩
   obtain⟨u,hu,_⟩:=key 0 y0 hy0 0 hn
   have ha0:(a.add (0*n)).add 0=a:=by simp[Addr.add]
   rw[ha0] at hu
   obtain⟨hs,hlt⟩:=Zrf hu
   obtain⟨b,o,sp⟩:=a
   dsimp only at hs
   subst hs
   refine⟨b,o,rfl,fun i y hy j hj=>⟨⟨hlt,fun h=>h,(fun q h=>by cases h),(fun q L h=>by cases h),(fun q Y h=>by cases h),(fun q bs k h=>by cases h)⟩,?_⟩⟩
   obtain⟨u,hu,_⟩:=key i y hy j hj
   rw[Qsi,Qsi] at hu
   rw[hu,Qsi,Qsi,hu]
   rfl
  have hj:j<n:=by
   have h1:=(Xad.1 hq).1
   obtain⟨v,_,rfl⟩:=Xba.1 (Xac hy)
   rwa [hcl v] at h1
  obtain⟨u,hu,hr⟩:=key i y hy j hj
  rw[hu]
  exact hr q hq⟩
def Qdd {H:Type}{enc:TypeId×Value->H}{P:Program}{w:World}{base:Nat}{spare:Nat->Bool}{held:Bool}{fuel:Nat}{cs:List Value}{fs:Array Field}{xs:List (DataW H×List MemPlace)}(hf:∀(i:Nat) (f:Field),fs[i]? = some f->DataW.trod enc P w base spare held fuel f.type ((cs.drop f.offset).take (P.cellsOf f.type))=xs[i]?)
  (hxl:xs.length=fs.size) (hwt:∀q∈DataW.weightsEach P (fs.toList.map (·.type)) (xs.map (·.1)),q<=reachBytes) {n:Nat}{T:Type}{c:T->List AV}{G:T->Prop}(j:Nat) (f:Field) (hj:fs[j]? = some f) (hop:Opn P f.type n c G):∃v:T,G v/\RelL w (c v) ((cs.drop f.offset).take n):=by
 have hjl:j<xs.length:=by rw[hxl];exact(Xa3.1 hj).1
 have h1:=hf j f hj
 rw[Xab hjl,hop.1] at h1
 exact hop.2.2 _ _ _ _ _ _ _ _ _ h1 fun q hq=>hwt q (DataW.weights_mem_each (j:=j) (by simp[hj]) (by rw[Xaw,Xab hjl];rfl) q hq)
def Qig {H:Type}{P:Program}{t:TypeId}{fs:Array Field}{xs:List (DataW H×List MemPlace)}{pl:List MemPlace}(ht:P.underlying t=some (.struct fs)) (h:∀q∈(DataW.agg (xs.map (·.1)),pl).1.weights P t,q<=reachBytes):∀q∈DataW.weightsEach P (fs.toList.map (·.type)) (xs.map (·.1)),q<=reachBytes:=
 fun q hq=>h q (by simp only[DataW.weights,ht];exact hq)
def Q0p {H:Type}{P:Program}{ts:List TypeId}{ds:List (DataW H)}(h:(DataW.weightsEach P ts ds).all (· <= reachBytes)=true) (j:Nat) {t:TypeId}{d:DataW H}(ht:ts[j]? = some t) (hd:ds[j]? = some d):∀q∈d.weights P t,q<=reachBytes:=
 fun q hq=>by simpa using Xa6.1 h q (DataW.weights_mem_each ht hd q hq)
def Qgf {w:World}{A B':List AV}{cs:List Value}{k n k':Nat}(h:RelL w A (cs.take k)) (h':RelL w B' ((cs.drop k).take n)) (hk:k+n=k'):RelL w (A++B') (cs.take k'):=by
 subst hk
 rw[List.take_add]
 exact h.app h'
def Qkw {w:World}{A:List AV}{cs:List Value}{n:Nat}(h:RelL w A ((cs.drop 0).take n)):RelL w A (cs.take n):=h
def Qoo {w:World}{A:List AV}{cs:List Value}{n:Nat}(h:RelL w A (cs.take n)) (hn:cs.length=n):RelL w A cs:=by
 subst hn
 rwa [Xcv] at h
section
variable {H : Type} {enc : TypeId × Value -> H} {P : Program} {w : World} {base : Nat} {spare : Nat -> Bool} {held : Bool} {r : Reach} {b0 : Nat} {v : Value} {d : DataW H} {p : List MemPlace} {t : TypeId} {n : Nat} {T : Type} {c : T -> List AV} {G : T -> Prop}
def Zrt (ho:Opn P t 1 c G) (a:T->AV) (ha:∀x,c x=[a x]) (h1:v.cells = #[v]) (h:DataW.Trod enc P w base spare held t v d p) (hwt:∀q∈d.weights P t,q<=reachBytes):∃x:T,G x/\RelV noX noφ w (a x) v:=by
 obtain⟨fuel,hf⟩:=h
 obtain⟨x,hG,hr⟩:=ho.2.2 _ _ _ _ _ _ _ _ _ hf hwt
 rw[ha,h1] at hr
 exact⟨x,hG,hr.1⟩
def Qyq {e:TypeId}(ht:P.underlying t=some (.slice e)) (ho:Opn P t 1 c G) (a:T->AV) (ha:∀x,c x=[a x]) (hv:Value.okWide P w r b0 t v) (h:DataW.Trod enc P w base spare held t v d p) (hwt:∀q∈d.weights P t,q<=reachBytes):∃x:T,G x/\RelV noX noφ w (a x) v:=by
 obtain⟨A,len,cap,rfl⟩:=okWide_slice ht hv
 exact Zrt ho a ha rfl h hwt
def Qvg {fs:Array Field}(ht:P.underlying t=some (.struct fs)) (ho:Opn P t n c G) (hv:Value.okWide P w r b0 t v) (h:DataW.Trod enc P w base spare held t v d p) (hwt:∀q∈d.weights P t,q<=reachBytes):∃x:T,G x/\RelV noX noφ w (.agg (c x)) v:=by
 obtain⟨cs,rfl,hsz⟩:=okWide_struct ht hv
 obtain⟨fuel,hf⟩:=h
 obtain⟨x,hG,hr⟩:=ho.2.2 _ _ _ _ _ _ _ _ _ hf hwt
 obtain⟨h1,h2⟩:=hr.get
 refine⟨x,hG,.agg _ cs (by simpa [Value.cells] using h1) fun i a hi=>?_⟩
 have:=h2 i a hi
 simpa [Value.cells,Xaf,Xaj] using this
end
section
variable {H : Type} {enc : TypeId × Value -> H} {P : Program}
def Qtz (hl:laidOutB P=true) {W W':World}(hb:Below W.heap.size W W') {sp:Nat->Bool}:∀(ts:List TypeId) (vs:List Value) (ds:List (DataW H)) (ps:List MemPlace),
  ts.all (fun t=>P.readableRec t&&decide (t<P.types.size))=true->DataW.TrodAll enc P W 0 (fun _=>true) true ts vs ds ps->(∀x∈ps,x.block<W.heap.size)->(∀x∈ps,sp x.block=true) ->
  DataW.TrodAll enc P W' 0 sp true ts vs ds ps
 |[],[],[],_,_,h,_,_=>h
 |[],_::_,_,_,_,h,_,_=>by simp[DataW.TrodAll] at h
 |[],[],_::_,_,_,h,_,_=>by simp[DataW.TrodAll] at h
 |_::_,[],_,_,_,h,_,_=>by simp[DataW.TrodAll] at h
 |_::_,_::_,[],_,_,h,_,_=>by simp[DataW.TrodAll] at h
 |t::ts,v::vs,d::ds,ps,hr,h,hlt,hsp=>by
  obtain⟨p,q,h1,h2,rfl⟩:=h
  rw[Xdo,Xaq,Xaq,Xbw] at hr
  refine⟨p,q,?_,Qtz hl hb ts vs ds q hr.2 h2 (fun x hx=>hlt x (Xd5 _ hx)) (fun x hx=>hsp x (Xd5 _ hx)),rfl⟩
  exact WideElems.Trod_stays hl hr.1.1 hr.1.2 h1 (fun x hx=>hb.same (hlt x (Xc0 _ hx))) (fun x hx=>hsp x (Xc0 _ hx))
def Zmo {f:Func}{s:ChangeSpec}{W W':World}{args:Array Value}{ds:List (DataW H)}{before:List MemPlace}(tb:TypeId)
  (hW:DataW.Whole enc P f.params.toList s.vars false W args.toList ds [] before) (hl:laidOutB P=true) (hp:f.params.toList.all (fun t=>P.readableRec t&&decide (t<P.types.size))=true)
  (hrt:f.resultTypes = #[tb]) (htb:P.underlying tb=some .bool) (hv:s.vars=[]) (hs1:(s.fn H (ds++[])).results=[.lit (.bool true)]) (hs2:(s.fn H (ds++[])).args=ds) (hs3:(s.fn H (ds++[])).vars=[])
  (hb:Below W.heap.size W W'):s.post enc P f false true false false W args (.bool true) W':=by
 have hlt:∀p∈before,p.block<W.heap.size:=fun p hp=>hW.lt p hp
 have hold:∀p∈before,(fun b=>decide (b<W.heap.size)) p.block=true:=fun p hp=>by simpa using hlt p hp
 obtain⟨pa,pv,hA,hV,he,hz,hn⟩:=hW
 rw[hv] at hV
 have hpv:pv=[]:=hV
 subst hpv
 rw[Xbn] at he
 subst he
 have hargs:∀sp:Nat->Bool,(∀p∈before,sp p.block=true)->DataW.TrodAll enc P W' 0 sp true f.params.toList args.toList (s.fn H (ds++[])).args before:=fun sp hsp=>by
  rw[hs2]
  exact Qtz hl hb _ _ _ _ hp hA hlt hsp
 have hvars:∀sp:Nat->Bool,DataW.TrodVars enc P W' sp s.vars (s.fn H (ds++[])).vars []:=fun sp=>by
  rw[hv,hs3]
  exact rfl
 have hres:∀(b:Nat) (sp:Nat->Bool) (hd:Bool),DataW.TrodAll enc P W' b sp hd f.resultTypes.toList ((Value.bool true).resultList f.resultTypes.size) (s.fn H (ds++[])).results []:=fun b sp hd=>by
  rw[hs1,hrt]
  exact trodAll_mk1 (shut_bool htb _)
 have hok:=ok_one (P:=P) (W':=W') (f:=f) (v:=.bool true) hrt rfl (okWide_bool_mk htb _)
 refine⟨ds,[],before,[],before,[],⟨before,[],hA,by rw[hv];exact rfl,by simp,hz,fun h=>by cases h⟩,hres _ _ _,hargs _ hold,hvars _,World.keptBut_mono (fun p hp=>⟨hp,Or.inr (Or.inl hp)⟩) (hb.frame (· ∈ before)),fun _=>?_⟩
 refine⟨hok,_,_,([]++before)++[],⟨[]++before,[],trodAll_append (hargs _ (fun _ _=>rfl)) (hres _ _ _),hvars _,rfl,?_,?_⟩,?_⟩
 ·intro b off hp
  have hin:MemPlace.cell b off∈before:=by simpa using hp
  rw[hb.frozen (hlt _ hin)]
  exact hz b off hin
 ·intro ha
  cases ha
 intro p hp _
 simpa using hp
end
end
section
open Go.ChangeShapes Go.WideShapes Go.ChangeAt Go.RowKit Go.Deep Go.Joins
def Qjv (x:Int):Prop:=(Lit.int .i64 x).wf=true
def Zil (x:GRow):Prop:=Qjv x.T/\Qjv x.P/\Qjv x.Liquid/\Qjv x.Vapour/\Qjv x.Silica
def Zbl (x:List GRow):Prop:=x.length<=maxLen/\(∀y∈x,Zil y)/\x.length*40<=140737488351232
def Zwg (x:Int):Prop:=(Lit.int .u8 x).wf=true
def Zbn (x:Qhm):Prop:=Qjv x.Element/\Qjv x.Outlet
def Q51 (x:List Qhm):Prop:=x.length<=maxLen/\(∀y∈x,Zbn y)/\x.length*16<=140737488351232
def Qy2 (x:List Int):Prop:=x.length<=maxLen/\(∀y∈x,Qjv y)/\x.length*8<=140737488351232
def Qy4 (x:Qam):Prop:=Zwg x.Kind/\Q51 x.From/\Qjv x.Level/\Qjv x.Amount/\Qjv x.Wide/\Qjv x.Narrow/\Qy2 x.Weights
def Qwh (x:List Qam):Prop:=x.length<=maxLen/\(∀y∈x,Qy4 y)/\x.length*88<=140737488351232
def Zim (x:GNet):Prop:=Zbl x.Table/\Qwh x.Elements
def opn3:Opn prog 3 1 Qab Qjv:=Zhi Xce (by kernel_rfl)
def Zv5:Opn prog 146 5 Qat Zil:=⟨by kernel_rfl,fun _=>rfl,fun _ _ _ _ _ _ _ _ _ h hw=>by
  obtain⟨xs,n,_,rfl,hl,hx,hf⟩:=Xcz Xf5 h
  have hz:=Qig Xf5 hw
  obtain⟨v0,g0,r0⟩:=Qdd hf hx hz 0 _ rfl opn3
  obtain⟨v1,g1,r1⟩:=Qdd hf hx hz 1 _ rfl opn3
  obtain⟨v2,g2,r2⟩:=Qdd hf hx hz 2 _ rfl opn3
  obtain⟨v3,g3,r3⟩:=Qdd hf hx hz 3 _ rfl opn3
  obtain⟨v4,g4,r4⟩:=Qdd hf hx hz 4 _ rfl opn3
  exact⟨⟨v0,v1,v2,v3,v4⟩,⟨g0,g1,g2,g3,g4⟩,Qoo (Qgf (Qgf (Qgf (Qgf (Qkw r0) r1 rfl) r2 rfl) r3 rfl) r4 rfl) (hl.trans (by kernel_rfl))⟩⟩
def Zyz:Opn prog 23 1 Q3o Zbl:=Qnv Xde (by kernel_rfl) Zv5 (by decide) (by kernel_rfl)
def opn5:Opn prog 5 1 c_u8 Zwg:=Zhi underlying5 (by kernel_rfl)
def Zv9:Opn prog 105 2 Qew Zbn:=⟨by kernel_rfl,fun _=>rfl,fun _ _ _ _ _ _ _ _ _ h hw=>by
  obtain⟨xs,n,_,rfl,hl,hx,hf⟩:=Xcz Xf9 h
  have hz:=Qig Xf9 hw
  obtain⟨v0,g0,r0⟩:=Qdd hf hx hz 0 _ rfl opn3
  obtain⟨v1,g1,r1⟩:=Qdd hf hx hz 1 _ rfl opn3
  exact⟨⟨v0,v1⟩,⟨g0,g1⟩,Qoo (Qgf (Qkw r0) r1 rfl) (hl.trans (by kernel_rfl))⟩⟩
def Zyr:Opn prog 71 1 Qxh Q51:=Qnv Xes (by kernel_rfl) Zv9 (by decide) (by kernel_rfl)
def Zl9:Opn prog 27 1 Qwk Qy2:=Qnv Xag (by kernel_rfl) opn3 (by decide) (by kernel_rfl)
def Zyq:Opn prog 73 7 Qaj Qy4:=⟨by kernel_rfl,fun _=>rfl,fun _ _ _ _ _ _ _ _ _ h hw=>by
  obtain⟨xs,n,_,rfl,hl,hx,hf⟩:=Xcz Xgg h
  have hz:=Qig Xgg hw
  obtain⟨v0,g0,r0⟩:=Qdd hf hx hz 0 _ rfl opn5
  obtain⟨v1,g1,r1⟩:=Qdd hf hx hz 1 _ rfl Zyr
  obtain⟨v2,g2,r2⟩:=Qdd hf hx hz 2 _ rfl opn3
  obtain⟨v3,g3,r3⟩:=Qdd hf hx hz 3 _ rfl opn3
  obtain⟨v4,g4,r4⟩:=Qdd hf hx hz 4 _ rfl opn3
  obtain⟨v5,g5,r5⟩:=Qdd hf hx hz 5 _ rfl opn3
  obtain⟨v6,g6,r6⟩:=Qdd hf hx hz 6 _ rfl Zl9
  exact⟨⟨v0,v1,v2,v3,v4,v5,v6⟩,⟨g0,g1,g2,g3,g4,g5,g6⟩,Qoo (Qgf (Qgf (Qgf (Qgf (Qgf (Qgf (Qkw r0) r1 rfl) r2 rfl) r3 rfl) r4 rfl) r5 rfl) r6 rfl) (hl.trans (by kernel_rfl))⟩⟩
def Zyy:Opn prog 24 1 Qq2 Qwh:=Qnv Xdu (by kernel_rfl) Zyq (by decide) (by kernel_rfl)
def Zyx:Opn prog 26 2 Qpt Zim:=⟨by kernel_rfl,fun _=>rfl,fun _ _ _ _ _ _ _ _ _ h hw=>by
  obtain⟨xs,n,_,rfl,hl,hx,hf⟩:=Xcz Xgk h
  have hz:=Qig Xgk hw
  obtain⟨v0,g0,r0⟩:=Qdd hf hx hz 0 _ rfl Zyz
  obtain⟨v1,g1,r1⟩:=Qdd hf hx hz 1 _ rfl Zyy
  exact⟨⟨v0,v1⟩,⟨g0,g1⟩,Qoo (Qgf (Qkw r0) r1 rfl) (hl.trans (by kernel_rfl))⟩⟩
def Q08 (x:Qaa):Prop:=Qjv x.Mass/\Qjv x.Heat/\Qjv x.Silica/\Qjv x.Gas
def Qy3 (x:List Qaa):Prop:=x.length<=maxLen/\(∀y∈x,Q08 y)/\x.length*32<=140737488351232
def Zv8:Opn prog 107 4 Qag Q08:=⟨by kernel_rfl,fun _=>rfl,fun _ _ _ _ _ _ _ _ _ h hw=>by
  obtain⟨xs,n,_,rfl,hl,hx,hf⟩:=Xcz Xf8 h
  have hz:=Qig Xf8 hw
  obtain⟨v0,g0,r0⟩:=Qdd hf hx hz 0 _ rfl opn3
  obtain⟨v1,g1,r1⟩:=Qdd hf hx hz 1 _ rfl opn3
  obtain⟨v2,g2,r2⟩:=Qdd hf hx hz 2 _ rfl opn3
  obtain⟨v3,g3,r3⟩:=Qdd hf hx hz 3 _ rfl opn3
  exact⟨⟨v0,v1,v2,v3⟩,⟨g0,g1,g2,g3⟩,Qoo (Qgf (Qgf (Qgf (Qkw r0) r1 rfl) r2 rfl) r3 rfl) (hl.trans (by kernel_rfl))⟩⟩
def Zyw:Opn prog 28 1 Qao Qy3:=Qnv Xgj (by kernel_rfl) Zv8 (by decide) (by kernel_rfl)
def Q54 (x:Qkb):Prop:=Qjv x.Lo/\Qjv x.Hi
def Zbm (x:Qc8):Prop:=Qjv x.From/\Qjv x.To/\Q54 x.Seen
def Q50 (x:List Qc8):Prop:=x.length<=maxLen/\(∀y∈x,Zbm y)/\x.length*32<=140737488351232
def Q52 (x:Qav):Prop:=Qjv x.Sites/\Q50 x.Tests
def Zv7:Opn prog 123 2 Qxi Q54:=⟨by kernel_rfl,fun _=>rfl,fun _ _ _ _ _ _ _ _ _ h hw=>by
  obtain⟨xs,n,_,rfl,hl,hx,hf⟩:=Xcz Xf7 h
  have hz:=Qig Xf7 hw
  obtain⟨v0,g0,r0⟩:=Qdd hf hx hz 0 _ rfl opn3
  obtain⟨v1,g1,r1⟩:=Qdd hf hx hz 1 _ rfl opn3
  exact⟨⟨v0,v1⟩,⟨g0,g1⟩,Qoo (Qgf (Qkw r0) r1 rfl) (hl.trans (by kernel_rfl))⟩⟩
def Zv6:Opn prog 125 4 Qbu Zbm:=⟨by kernel_rfl,fun _=>rfl,fun _ _ _ _ _ _ _ _ _ h hw=>by
  obtain⟨xs,n,_,rfl,hl,hx,hf⟩:=Xcz Xf6 h
  have hz:=Qig Xf6 hw
  obtain⟨v0,g0,r0⟩:=Qdd hf hx hz 0 _ rfl opn3
  obtain⟨v1,g1,r1⟩:=Qdd hf hx hz 1 _ rfl opn3
  obtain⟨v2,g2,r2⟩:=Qdd hf hx hz 2 _ rfl Zv7
  exact⟨⟨v0,v1,v2⟩,⟨g0,g1,g2⟩,Qoo (Qgf (Qgf (Qkw r0) r1 rfl) r2 rfl) (hl.trans (by kernel_rfl))⟩⟩
def Zyv:Opn prog 29 1 Qxg Q50:=Qnv Xdt (by kernel_rfl) Zv6 (by decide) (by kernel_rfl)
def Zyu:Opn prog 31 2 Qis Q52:=⟨by kernel_rfl,fun _=>rfl,fun _ _ _ _ _ _ _ _ _ h hw=>by
  obtain⟨xs,n,_,rfl,hl,hx,hf⟩:=Xcz Xgi h
  have hz:=Qig Xgi hw
  obtain⟨v0,g0,r0⟩:=Qdd hf hx hz 0 _ rfl opn3
  obtain⟨v1,g1,r1⟩:=Qdd hf hx hz 1 _ rfl Zyv
  exact⟨⟨v0,v1⟩,⟨g0,g1⟩,Qoo (Qgf (Qkw r0) r1 rfl) (hl.trans (by kernel_rfl))⟩⟩
def Q53 (x:Qay):Prop:=Qjv x.Amount/\Qjv x.Price
def Q06 (x:List Qay):Prop:=x.length<=maxLen/\(∀y∈x,Q53 y)/\x.length*16<=140737488351232
def Q55 (x:Qb3):Prop:=Qjv x.Site/\Q06 x.Stairs
def Q07 (x:List Qb3):Prop:=x.length<=maxLen/\(∀y∈x,Q55 y)/\x.length*32<=140737488351232
def Q56 (x:Qbj):Prop:=Q07 x.Inlets/\Qy2 x.Feeds/\Qjv x.Factor/\Qjv x.Horizon
def Zyn:Opn prog 80 2 Qbm Q53:=⟨by kernel_rfl,fun _=>rfl,fun _ _ _ _ _ _ _ _ _ h hw=>by
  obtain⟨xs,n,_,rfl,hl,hx,hf⟩:=Xcz Xge h
  have hz:=Qig Xge hw
  obtain⟨v0,g0,r0⟩:=Qdd hf hx hz 0 _ rfl opn3
  obtain⟨v1,g1,r1⟩:=Qdd hf hx hz 1 _ rfl opn3
  exact⟨⟨v0,v1⟩,⟨g0,g1⟩,Qoo (Qgf (Qkw r0) r1 rfl) (hl.trans (by kernel_rfl))⟩⟩
def Zyp:Opn prog 75 1 Qur Q06:=Qnv Xds (by kernel_rfl) Zyn (by decide) (by kernel_rfl)
def Zyo:Opn prog 77 2 Qbg Q55:=⟨by kernel_rfl,fun _=>rfl,fun _ _ _ _ _ _ _ _ _ h hw=>by
  obtain⟨xs,n,_,rfl,hl,hx,hf⟩:=Xcz Xgf h
  have hz:=Qig Xgf hw
  obtain⟨v0,g0,r0⟩:=Qdd hf hx hz 0 _ rfl opn3
  obtain⟨v1,g1,r1⟩:=Qdd hf hx hz 1 _ rfl Zyp
  exact⟨⟨v0,v1⟩,⟨g0,g1⟩,Qoo (Qgf (Qkw r0) r1 rfl) (hl.trans (by kernel_rfl))⟩⟩
def Zyt:Opn prog 32 1 Qus Q07:=Qnv Xck (by kernel_rfl) Zyo (by decide) (by kernel_rfl)
def Zys:Opn prog 34 4 Qla Q56:=⟨by kernel_rfl,fun _=>rfl,fun _ _ _ _ _ _ _ _ _ h hw=>by
  obtain⟨xs,n,_,rfl,hl,hx,hf⟩:=Xcz Xgh h
  have hz:=Qig Xgh hw
  obtain⟨v0,g0,r0⟩:=Qdd hf hx hz 0 _ rfl Zyt
  obtain⟨v1,g1,r1⟩:=Qdd hf hx hz 1 _ rfl Zl9
  obtain⟨v2,g2,r2⟩:=Qdd hf hx hz 2 _ rfl opn3
  obtain⟨v3,g3,r3⟩:=Qdd hf hx hz 3 _ rfl opn3
  exact⟨⟨v0,v1,v2,v3⟩,⟨g0,g1,g2,g3⟩,Qoo (Qgf (Qgf (Qgf (Qkw r0) r1 rfl) r2 rfl) r3 rfl) (hl.trans (by kernel_rfl))⟩⟩
end
section
def Qe4 (_N:Nat) (p0 p1 p2:Int):Option Bool:=bif decide (p1<=p0) then some (decide (p0<=p2)) else some false
def Qe9 (N:Nat) (p0 p1 p2:Int) (r:Bool) (h:Qe4 N p0 p1 p2=some r):Spec prog 110 [I p0,I p1,I p2] [] (B r) []:=by
 refine sA func110 0 fun _ _ _ hq hd0=>?_
 unfold Qe4 at h
 refine wxz<|bfe h (fun hb1 h=>?_) fun hb1 h=>?_
 ·refine wx tbk [(3,rp [(.tmp 9,B (decide (p1<=p0)))] (B true))] ⟨asb hb1 (amv rfl),tv⟩<|Qad ?_
  obtain rfl:=osi h
  exact fend ⟨[B (decide (p0<=p2))],⟨rot,tv⟩,rfl⟩ nll
 exact wx tbk [(3,rp [(.tmp 9,B (decide (p1<=p0)))] (B false))] ⟨asb hb1 (amv rfl),tv⟩<|Qad<|frb h
def Qj6 (N:Nat) (p0:GRow):Option Bool:=(Qe4 N p0.T 0 400).bind fun x2=>bif x2 then (Qe4 N p0.P 1 10000).bind fun x5=>bif x5 then (Qe4 N p0.Liquid 0 4000).bind fun x8=>bif x8 then (Qe4 N p0.Silica 0 2000).bind fun x11=>bif x11 then bif decide (p0.Liquid<p0.Vapour) then some (decide (p0.Vapour<=4000)) else some false else some false else some false else some false else some false
def z8_2 (p0:GRow) (x2:Bool):List (Nat×Rec):=[(2,rp [fu 110,(.tmp 4,I p0.T),ci 0,ci 400] (B x2))]
def z8_3 p0 x2 (x5:Bool):=hcat (z8_2 p0 x2) [(3,rp [(.tmp 5,B x2)] (B true)),(6,rp [(.tmp 6,B true),fu 110,(.tmp 8,I p0.P),ci 1,ci 10000] (B x5))]
def z8_4 p0 x2 x5 (x8:Bool):=hcat (z8_3 p0 x2 x5) [(8,rp [(.tmp 10,B x5)] (B true)),(11,rp [(.tmp 11,B true),fu 110,(.tmp 13,I p0.Liquid),ci 0,ci 4000] (B x8))]
def z8_5 p0 x2 x5 x8 (x11:Bool):=hcat (z8_4 p0 x2 x5 x8) [(13,rp [(.tmp 15,B x8)] (B true)),(16,rp [(.tmp 16,B true),fu 110,(.tmp 18,I p0.Silica),ci 0,ci 2000] (B x11))]
def Qs1 (N:Nat) (p0:GRow) (r:Bool) (h:Qj6 N p0=some r):Spec prog 117 [.agg (Qat p0)] [] (B r) []:=by
 refine sA func117 0 fun _ _ _ hq hd0=>?_
 unfold Qj6 at h
 refine wxz<|bnq h fun x2 f1 h=>hpre (A:=(z8_2 p0 x2)) ⟨apv Qmr (Qe9 N p0.T 0 400 _ f1) (nlcc (nlc nll nl0)) nll,tv⟩ fun q1_=>?_
 refine bfe h (fun hb3 h=>?_) fun hb3 h=>?_
 ·refine bnq h fun x5 f4 h=>hpre (A:=(z8_3 p0 x2 x5)) (hap q1_ ⟨asb hb3 (amv rfl),ag_ (apv Qmr (Qe9 N p0.P 1 10000 _ f4) (nlcc (nlc nll nl0)) nll),tv⟩) fun q2_=>?_
  refine bfe h (fun hb6 h=>?_) fun hb6 h=>?_
  ·refine bnq h fun x8 f7 h=>hpre (A:=(z8_4 p0 x2 x5 x8)) (hap q2_ ⟨asb hb6 (amv rfl),ag_ (apv Qmr (Qe9 N p0.Liquid 0 4000 _ f7) (nlcc (nlc nll nl0)) nll),tv⟩) fun q3_=>?_
   refine bfe h (fun hb9 h=>?_) fun hb9 h=>?_
   ·refine bnq h fun x11 f10 h=>hpre (A:=(z8_5 p0 x2 x5 x8 x11)) (hap q3_ ⟨asb hb9 (amv rfl),ag_ (apv Qmr (Qe9 N p0.Silica 0 2000 _ f10) (nlcc (nlc nll nl0)) nll),tv⟩) fun q4_=>?_
    refine bfe h (fun hb12 h=>?_) fun hb12 h=>?_
    ·refine bfe h (fun hb13 h=>?_) fun hb13 h=>?_
     ·refine wx tbk (hcat (z8_5 p0 x2 x5 x8 x11) [(18,rp [(.tmp 20,B x11)] (B true)),(25,rp [(.tmp 27,B (decide (p0.Liquid<p0.Vapour)))] (B true))]) (hap q4_ ⟨asb hb12 (amv rfl),asb hb13 (amv rfl),tv⟩)<|Qad ?_
      obtain rfl:=osi h
      exact fend ⟨[B (decide (p0.Vapour<=4000))],⟨rot,tv⟩,rfl⟩ nll
     exact wx tbk (hcat (z8_5 p0 x2 x5 x8 x11) [(18,rp [(.tmp 20,B x11)] (B true)),(25,rp [(.tmp 27,B (decide (p0.Liquid<p0.Vapour)))] (B false))]) (hap q4_ ⟨asb hb12 (amv rfl),asb hb13 (amv rfl),tv⟩)<|Qad<|frb h
    exact wx tbk (hcat (z8_5 p0 x2 x5 x8 x11) [(18,rp [(.tmp 20,B x11)] (B false))]) (hap q4_ ⟨asb hb12 (amv rfl),tv⟩)<|Qad<|frb h
   exact wx tbk (hcat (z8_4 p0 x2 x5 x8) [(13,rp [(.tmp 15,B x8)] (B false))]) (hap q3_ ⟨asb hb9 (amv rfl),tv⟩)<|Qad<|frb h
  exact wx tbk (hcat (z8_3 p0 x2 x5) [(8,rp [(.tmp 10,B x5)] (B false))]) (hap q2_ ⟨asb hb6 (amv rfl),tv⟩)<|Qad<|frb h
 exact wx tbk (hcat (z8_2 p0 x2) [(3,rp [(.tmp 5,B x2)] (B false))]) (hap q1_ ⟨asb hb3 (amv rfl),tv⟩)<|Qad<|frb h
def Qhn (N:Nat) (p0:GRow):Option Bool:=(Qj6 N p0).bind fun x3=>some !x3
abbrev z7_1 (p0:GRow):AV:=.agg [I p0.T,I p0.P,I p0.Liquid,I p0.Vapour,I p0.Silica]
abbrev z7_2:Slot:=.own 1 [[.fn (.func 117) [] []]]
def Qom (N:Nat) (p0:GRow) (r:Bool) (h:Qhn N p0=some r):Spec prog 127 [z7_1 p0,.ref 0 1 (0) 0] [z7_2] (B r) [z7_2]:=by
 refine sF func127 1 fun _ _ _ hq hd0=>?_
 unfold Qhn at h
 refine wxz<|bnq h fun x3 f2 h=>wx tbk [(2,rp _ _)] ⟨apw Znb (Qs1 N p0 _ f2),tv⟩ ?_
 refine wmr (mto (n:=8) (l':=[(3,B !x3)]) (own':=[z7_2]) [(3,B !x3)] [0] [z7_2] hq (pw pn) (qbi qn))<|Qad ?_
 obtain rfl:=osi h
 exact⟨_,Mor.rfl,fio [B !x3] ⟨rot,tv⟩⟩
def Qbs (N:Nat) (p0:List GRow) (k2:Unit->Option Int):Nat->Int->Option Int
 |0,_=>none
 |n5+1,y3=>bif decide (y3<(p0.length:Int)) then (getI p0 y3).bind fun x7=>(Qhn N x7).bind fun x12=>bif x12 then some y3 else Qbs N p0 k2 n5 (w64 (y3+1)) else k2 ()
def Qef (N:Nat) (p0:List GRow):Option Int:=Qb0 (fun _=>some (-1)) fun k2:Unit->Option Int=>Qbs N p0 k2 N 0
abbrev z6_0:AV:=.fn (.func 127) [] [.ref 0 1 (0) 0]
abbrev z6_2:Slot:=.own 1 [[.fn (.func 117) [] []]]
abbrev z6_7 (x7:GRow):AV:=.agg [I x7.T,I x7.P,I x7.Liquid,I x7.Vapour,I x7.Silica]
def Qj8 (N:Nat) (p0:List GRow) (r:Int) (h:Qef N p0=some r):Spec prog 133 [.dat 5 (p0.map Qat),z6_0] [z6_2] (I r) [z6_2]:=by
 refine sF func133 1 fun _ _ _ hq hd0=>?_
 unfold Qef at h
 refine wxz<|wjq h (fun _=>⟨mk 19 [],[z6_2]⟩) (fun t h=>?_) fun k2 h=>?_
 ·refine wxz<|wmr (mto (n:=19) (l':=[(4,I (-1))]) (own':=[z6_2]) [(4,I (-1))] [0] [z6_2] hq (pw pn) (qbi qn))<|Qad ?_
  obtain rfl:=osi h
  exact⟨_,Mor.rfl,fio [I (-1)] ⟨rot,tv⟩⟩
 refine wx tbk [(1,rp _ _)] ⟨alq 5 Qat p0 underlying46,tv⟩<|Qaf ?_
 refine wmr (mto (n:=19) (l':=[(0,.dat 5 (p0.map Qat)),(1,z6_0),(7,I (p0.length:Int)),(8,I 0)]) (own':=[z6_2]) [(0,.dat 5 (p0.map Qat)),(1,z6_0),(7,I (p0.length:Int)),(8,I 0)] [0] [z6_2] hq (pqi (pc (.rn (Qby rn0 (rnc (rqr rfl) rn0))) (pw (pw pn)))) (qbi qn)) ?_
 refine Qbf (τ:=Int) (fun n t=>Qbs N p0 k2 n t=some r) (fun y3=>⟨mk 19 [(0,.dat 5 (p0.map Qat)),(1,z6_0),(7,I (p0.length:Int)),(8,I y3)],[z6_2]⟩) (fun t h=>by rw[Qbs] at h;cases h) (fun n5 ih y3 h=>?_) N (0) h
 rw[Qbs] at h
 refine wxz<|wsq<|bfq h (fun c6 h=>?_) fun c6 h=>?_
 ·refine Qah<|thn<|wsq<|Qaf<|wxz ?_
  refine bgq h fun x7 i9 j10 h=>bnq h fun x12 f11 h=>wx tbk [(3,rp _ _),(5,⟨_,_,_,_,false⟩)] ⟨aiq underlying46 Q2h Qat i9 j10,Qd5 (first:=[]) (cap:=[.ref 0 1 0 0]) (vs:=[z6_7 x7]) (σr:=[z6_2]) (σr':=[z6_2]) (res':=(B x12)) [0] rfl Zm2 (Qom N x7 _ f11) rfl (Qct (rnc pli (rnc (Qa2 rfl) rn0))) (sfn Qai) (sfn Qai) pli rfl rfl rfl,tv⟩<|bfq h (fun c13 h=>?_) fun c13 h=>?_
  ·refine wxz ?_
   refine wmr (mto (n:=19) (l':=[(4,I y3)]) (own':=[z6_2]) [(4,I y3)] [0] [z6_2] hq (pw pn) (qbi qn))<|Qad<|Qal<|Qac<|Qac<|Qal<|Qac ?_
   obtain rfl:=osi h
   exact⟨_,Mor.rfl,fio [I y3] ⟨rot,tv⟩⟩
  exact Qah<|bln<|thn<|wxz1<|thn<|arm (mto (n:=19) [(0,.dat 5 (p0.map Qat)),(1,z6_0),(7,I (p0.length:Int)),(8,I (w64 (y3+1)))] [0] [z6_2] hq (pqi (pc (.rn (Qby rn0 (rnc (rqr rfl) rn0))) (pw (pw pn)))) (qbi qn)) (ih (w64 (y3+1)) h)
 exact Qax<|Qan<|Qan<|Qaw rfl<|thn<|⟨(),h,mto (n:=19) [] [0] [z6_2] hq pn (qbi qn)⟩
def Qd3 (N:Nat) (p0:List GRow):Option Bool:=(Qef N p0).bind fun x3=>some (decide (x3>=0))
abbrev z5_0:AV:=.fn (.func 127) [] [.ref 0 1 (0) 0]
abbrev z5_1:Slot:=.own 1 [[.fn (.func 117) [] []]]
def Qjn (N:Nat) (p0:List GRow) (r:Bool) (h:Qd3 N p0=some r):Spec prog 126 [.dat 5 (p0.map Qat),z5_0] [z5_1] (B r) [z5_1]:=by
 refine sF func126 1 fun _ _ _ hq hd0=>?_
 unfold Qd3 at h
 refine wxz<|bnq h fun x3 f2 h=>wx tbk [(2,⟨_,_,_,_,false⟩)] ⟨acq [.dat 5 (p0.map Qat),z5_0] [z5_1] [z5_1] (I x3) [0] Zmy (Qj8 N p0 _ f2) (Qct (rnc (pld Qcg) (rnc (Qby rn0 (rnc (Qa2 rfl) rn0)) rn0))) (sfn Qai) (sfn Qai) pli,tv⟩ ?_
 refine wmr (mto (n:=9) (l':=[(4,B (decide (x3>=0)))]) (own':=[z5_1]) [(4,B (decide (x3>=0)))] [0] [z5_1] hq (pw pn) (qbi qn))<|Qad ?_
 obtain rfl:=osi h
 exact⟨_,Mor.rfl,fio [B (decide (x3>=0))] ⟨rot,tv⟩⟩
def Qg4 (N:Nat) (p0:List GRow):Option Bool:=(Qd3 N p0).bind fun x2=>some !x2
abbrev z4_1:AV:=.fn (.func 127) [] [.ref 0 1 (0) 0]
abbrev z4_0:Slot:=.own 1 [[.fn (.func 117) [] []]]
def Qp0 (N:Nat) (p0:List GRow) (r:Bool) (h:Qg4 N p0=some r):Spec prog 116 [.dat 5 (p0.map Qat),.fn (.func 117) [] []] [] (B r) []:=by
 refine sA func116 0 fun _ _ _ hq hd0=>?_
 unfold Qg4 at h
 refine wxz<|bnq h fun x2 f1 h=>?_
 refine wx tbk [(1,rp [(.tmp 3,.ref 0 1 0 0)] z4_1),(2,⟨_,_,_,_,false⟩)] ⟨Qfp (fs:=[]) (cs:=[.ref 0 1 0 0]) rfl rfl rfl rfl,acq [.dat 5 (p0.map Qat),z4_1] [z4_0] [z4_0] (B x2) [0] Zm3 (Qjn N p0 _ f1) (Qct (rnc (pld Qcg) (rnc (Qby rn0 (rnc (Qa2 rfl) rn0)) rn0))) (sfn Qai) (sfn Qai) pli,tv⟩<|Qad ?_
 obtain rfl:=osi h
 exact fend ⟨[B !x2],⟨rot,tv⟩,rfl⟩ nll
def Qer (N:Nat) (p0:List GRow) (k2:Unit->Option Bool):Nat->Int->Option Bool
 |0,_=>none
 |n6+1,y4=>bif (decide (y4<((p0.drop (1:Int).toNat).length:Int))) then (getI (p0.drop (1:Int).toNat) y4).bind fun x8=>(getI p0 y4).bind fun x12=>bif decide (x8.T<=x12.T) then some false else bif decide (x8.P<=x12.P) then some false else bif decide (x8.Liquid<=x12.Liquid) then some false else bif decide (x8.Silica<x12.Silica) then some false else Qer N p0 k2 n6 (w64 (y4+1)) else k2 ()
def Qho (N:Nat) (p0:List GRow):Option Bool:=Qb0 (fun _=>Qb0 (fun _=>some true) fun k2:Unit->Option Bool=>chk (decide (0<=1)&&decide (1<=(p0.length:Int))&&decide ((p0.length:Int)<=(p0.length:Int)))<|Qer N p0 k2 N 0) fun k1:Unit->Option Bool=>(Qe4 N (p0.length:Int) 2 20).bind fun x21=>bif !x21 then some false else (Qg4 N p0).bind fun x24=>bif !x24 then some false else k1 ()
abbrev z2_0 (p0:List GRow):AV:=.dat 5 ((p0.drop (1:Int).toNat:List GRow).map Qat)
def Zlc (x8 x12:GRow):List (Nat×Rec):=[(5,rp [(.tmp 31,B (decide (x8.T<=x12.T)))] (B false))]
def Zqm (p0:List GRow) (x21:Bool):List (Nat×Rec):=[(1,rp [(.tmp 6,.dat 5 (p0.map Qat))] (I (p0.length:Int))),(2,rp [fu 110,(.tmp 7,I (p0.length:Int)),ci 2,ci 20] (B x21))]
def Qng (N:Nat) (p0:List GRow) (r:Bool) (h:Qho N p0=some r):Spec prog 104 [.dat 5 (p0.map Qat)] [] (B r) []:=by
 refine sA func104 0 fun _ _ _ hq hd0=>?_
 unfold Qho at h
 refine wxz<|wjq h (fun _=>⟨mk 54 [(0,.dat 5 (p0.map Qat))],[]⟩) (fun t h=>?_) fun k1 h=>?_
 ·refine wjq h (fun _=>⟨mk 54 [],[]⟩) (fun t h=>?_) fun k2 h=>?_
  ·exact wxz<|Qad<|frb h
  refine ckq h fun hs3 h=>?_
  refine wx tbk [(1,rp [(.tmp 15,.dat 5 (p0.map Qat)),ci 1] (z2_0 p0)),(2,rp _ _)] ⟨Qwm (k:=.i64) (k':=.i64) (lo:=some (.const (.int .i64 1))) (hi:=none) (l:=1) (hh:=((p0.length:Nat):Int)) rfl Xcy Q2h rfl (fun e=>nomatch e) (fun _=>by simp) (Zd8 hs3) (Zd7 hs3) (Zwz Qat hs3) (Zym Qat),alq 5 Qat (p0.drop (1:Int).toNat) Xcy,tv⟩<|Qaf ?_
  refine wmr (mto (n:=54) (l':=[(0,.dat 5 (p0.map Qat)),(16,z2_0 p0),(17,I ((p0.drop (1:Int).toNat).length:Int)),(18,I 0)]) (own':=[]) [(0,.dat 5 (p0.map Qat)),(16,z2_0 p0),(17,I ((p0.drop (1:Int).toNat).length:Int)),(18,I 0)] [] [] hq (pqi (pqi (pw (pw pn)))) qn) ?_
  refine Qbf (τ:=Int) (fun n t=>Qer N p0 k2 n t=some r) (fun y4=>⟨mk 54 [(0,.dat 5 (p0.map Qat)),(16,z2_0 p0),(17,I ((p0.drop (1:Int).toNat).length:Int)),(18,I y4)],[]⟩) (fun t h=>by rw[Qer] at h;cases h) (fun n6 ih y4 h=>?_) N (0) h
  rw[Qer] at h
  refine wxz<|wsq<|bfq h (fun c7 h=>?_) fun c7 h=>?_
  ·refine Qah<|thn<|wsq<|Qaf ?_
   refine bgq h fun x8 i10 j11 h=>wx tbk [(1,rp _ _)] ⟨aiq Xcy Q2h Qat i10 j11,tv⟩<|bgq h fun x12 i14 j15 h=>wx tbk [(2,rp _ _)] ⟨aiq Xcy Q2h Qat i14 j15,tv⟩<|bfe h (fun hb16 h=>?_) fun hb16 h=>?_
   ·exact wx tbk [(5,rp [(.tmp 31,B (decide (x8.T<=x12.T)))] (B true))] ⟨asb hb16 (amv rfl),tv⟩<|wtr<|wxz<|Qad<|Qal<|Qac<|Qac<|Qal<|Qac<|frb h
   refine hpre (A:=(Zlc x8 x12)) ⟨asb hb16 (amv rfl),tv⟩ fun q1_=>?_
   refine bfe h (fun hb17 h=>?_) fun hb17 h=>?_
   ·exact wx tbk (hcat (Zlc x8 x12) [(12,rp [(.tmp 38,B (decide (x8.P<=x12.P)))] (B true))]) (hap q1_ ⟨asb hb17 (amv rfl),tv⟩)<|wtr<|wxz<|Qad<|Qal<|Qac<|Qac<|Qal<|Qac<|frb h
   refine bfe h (fun hb18 h=>?_) fun hb18 h=>?_
   ·exact wx tbk (hcat (Zlc x8 x12) [(12,rp [(.tmp 38,B (decide (x8.P<=x12.P)))] (B false)),(19,rp [(.tmp 45,B (decide (x8.Liquid<=x12.Liquid)))] (B true))]) (hap q1_ ⟨asb hb17 (amv rfl),asb hb18 (amv rfl),tv⟩)<|wtr<|wxz<|Qad<|Qal<|Qac<|Qac<|Qal<|Qac<|frb h
   refine wx tbk (hcat (Zlc x8 x12) [(12,rp [(.tmp 38,B (decide (x8.P<=x12.P)))] (B false)),(19,rp [(.tmp 45,B (decide (x8.Liquid<=x12.Liquid)))] (B false))]) (hap q1_ ⟨asb hb17 (amv rfl),asb hb18 (amv rfl),tv⟩)<|bfq h (fun c19 h=>?_) fun c19 h=>?_
   ·exact wxz<|Qad<|Qal<|Qac<|Qac<|Qal<|Qac<|frb h
   exact Qah<|bln<|thn<|wxz1<|thn<|arm (mto (n:=54) [(0,.dat 5 (p0.map Qat)),(16,z2_0 p0),(17,I ((p0.drop (1:Int).toNat).length:Int)),(18,I (w64 (y4+1)))] [] [] hq (pqi (pqi (pw (pw pn)))) qn) (ih (w64 (y4+1)) h)
  exact Qax<|Qan<|Qan<|Qaw rfl<|thn<|⟨(),h,mto (n:=54) [] [] [] hq pn qn⟩
 refine bnq h fun x21 f20 h=>hpre (A:=(Zqm p0 x21)) ⟨alq 5 Qat p0 Xcy,apv Qmr (Qe9 N (p0.length:Int) 2 20 _ f20) (nlcc (nlc nll nl0)) nll,tv⟩ fun q2_=>?_
 refine bfe h (fun hb22 h=>?_) fun hb22 h=>?_
 ·exact wx tbk (hcat (Zqm p0 x21) [(4,rp [(.tmp 9,B !x21)] (B true))]) (hap q2_ ⟨asb hb22 (amv rfl),tv⟩)<|wtr<|wxz<|Qad<|Qac<|frb h
 refine bnq h fun x24 f23 h=>wx tbk (hcat (Zqm p0 x21) [(4,rp [(.tmp 9,B !x21)] (B false)),(6,rp [(.tmp 10,B false),fu 116,(.tmp 11,.dat 5 (p0.map Qat)),fu 117] (B x24))]) (hap q2_ ⟨asb hb22 (amv rfl),ag_ (acq [.dat 5 (p0.map Qat),.fn (.func 117) [] []] [] [] (B x24) [] Znc (Qp0 N p0 _ f23) pli Qai Qai pli),tv⟩)<|bfq h (fun c25 h=>?_) fun c25 h=>?_
 ·exact wxz<|Qad<|Qac<|frb h
 exact Qah<|thn<|⟨(),h,mto (n:=54) [(0,.dat 5 (p0.map Qat))] [] [] hq (pqi pn) qn⟩
def Qk8 (N:Nat) (p0:List GRow):Option Int:=(Qho N p0).bind fun x2=>bif !x2 then some 1 else some 0
def Qsj (N:Nat) (p0:List GRow) (r:Int) (h:Qk8 N p0=some r):Spec prog 91 [.dat 5 (p0.map Qat)] [] (I r) []:=by
 refine sA func91 0 fun _ _ _ hq hd0=>?_
 unfold Qk8 at h
 refine wxz<|wsq<|bnq h fun x2 f1 h=>wx tbk [(1,rp _ _)] ⟨apw Zbv (Qng N p0 _ f1),tv⟩<|bfq h (fun c3 h=>?_) fun c3 h=>?_
 ·refine wxz<|Qad<|Qac ?_
  obtain rfl:=osi h
  exact fend ⟨[I 1],⟨rot,tv⟩,rfl⟩ nll
 refine Qah<|thn<|wxz<|Qad ?_
 obtain rfl:=osi h
 exact fend ⟨[I 0],⟨rot,tv⟩,rfl⟩ nll
def Qen (_N:Nat) (p0 p1 p2:Int):Option Bool:=bif decide (p1<=p0) then some (decide (p0<=p2)) else some false
def Qf0 (N:Nat) (p0 p1 p2:Int) (r:Bool) (h:Qen N p0 p1 p2=some r):Spec prog 77 [I p0,I p1,I p2] [] (B r) []:=by
 refine sA func77 0 fun _ _ _ hq hd0=>?_
 unfold Qen at h
 refine wxz<|bfe h (fun hb1 h=>?_) fun hb1 h=>?_
 ·refine wx tbk [(3,rp [(.tmp 9,B (decide (p1<=p0)))] (B true))] ⟨asb hb1 (amv rfl),tv⟩<|Qad ?_
  obtain rfl:=osi h
  exact fend ⟨[B (decide (p0<=p2))],⟨rot,tv⟩,rfl⟩ nll
 exact wx tbk [(3,rp [(.tmp 9,B (decide (p1<=p0)))] (B false))] ⟨asb hb1 (amv rfl),tv⟩<|Qad<|frb h
def Qi7 (N:Nat) (p0:Int):Option Bool:=(Qen N p0 0 1000).bind fun x2=>some x2
def Qqf (N:Nat) (p0:Int) (r:Bool) (h:Qi7 N p0=some r):Spec prog 107 [I p0] [] (B r) []:=by
 refine sA func107 0 fun _ _ _ hq hd0=>?_
 unfold Qi7 at h
 refine wxz<|bnq h fun x2 f1 h=>?_
 exact wx tbk [(1,rp _ _)] ⟨apw Qp3 (Qf0 N p0 0 1000 _ f1),tv⟩<|Qad<|frb h
def Qjt (N:Nat) (p0:Int):Option Bool:=(Qi7 N p0).bind fun x3=>some !x3
abbrev Zld:Slot:=.own 1 [[.fn (.func 107) [] []]]
def Qsq (N:Nat) (p0:Int) (r:Bool) (h:Qjt N p0=some r):Spec prog 94 [I p0,.ref 0 1 (0) 0] [Zld] (B r) [Zld]:=by
 refine sF func94 1 fun _ _ _ hq hd0=>?_
 unfold Qjt at h
 refine wxz<|bnq h fun x3 f2 h=>wx tbk [(2,rp _ _)] ⟨apw Znj (Qqf N p0 _ f2),tv⟩ ?_
 refine wmr (mto (n:=8) (l':=[(3,B !x3)]) (own':=[Zld]) [(3,B !x3)] [0] [Zld] hq (pw pn) (qbi qn))<|Qad ?_
 obtain rfl:=osi h
 exact⟨_,Mor.rfl,fio [B !x3] ⟨rot,tv⟩⟩
def Qdn (N:Nat) (p0:List Int) (k2:Unit->Option Int):Nat->Int->Option Int
 |0,_=>none
 |n5+1,y3=>bif decide (y3<(p0.length:Int)) then (getI p0 y3).bind fun x7=>(Qjt N x7).bind fun x12=>bif x12 then some y3 else Qdn N p0 k2 n5 (w64 (y3+1)) else k2 ()
def Qgs (N:Nat) (p0:List Int):Option Int:=Qb0 (fun _=>some (-1)) fun k2:Unit->Option Int=>Qdn N p0 k2 N 0
abbrev Zfo:AV:=.fn (.func 94) [] [.ref 0 1 (0) 0]
abbrev Qtr:Slot:=.own 1 [[.fn (.func 107) [] []]]
def Qnr (N:Nat) (p0:List Int) (r:Int) (h:Qgs N p0=some r):Spec prog 72 [.dat 1 (p0.map Qab),Zfo] [Qtr] (I r) [Qtr]:=by
 refine sF Xft 1 fun _ _ _ hq hd0=>?_
 unfold Qgs at h
 refine wxz<|wjq h (fun _=>⟨mk 19 [],[Qtr]⟩) (fun t h=>?_) fun k2 h=>?_
 ·refine wxz<|wmr (mto (n:=19) (l':=[(4,I (-1))]) (own':=[Qtr]) [(4,I (-1))] [0] [Qtr] hq (pw pn) (qbi qn))<|Qad ?_
  obtain rfl:=osi h
  exact⟨_,Mor.rfl,fio [I (-1)] ⟨rot,tv⟩⟩
 refine wx tbk [(1,rp _ _)] ⟨alq 1 Qab p0 Xag,tv⟩<|Qaf ?_
 refine wmr (mto (n:=19) (l':=[(0,.dat 1 (p0.map Qab)),(1,Zfo),(7,I (p0.length:Int)),(8,I 0)]) (own':=[Qtr]) [(0,.dat 1 (p0.map Qab)),(1,Zfo),(7,I (p0.length:Int)),(8,I 0)] [0] [Qtr] hq (pqi (pc (.rn (Qby rn0 (rnc (rqr rfl) rn0))) (pw (pw pn)))) (qbi qn)) ?_
 refine Qbf (τ:=Int) (fun n t=>Qdn N p0 k2 n t=some r) (fun y3=>⟨mk 19 [(0,.dat 1 (p0.map Qab)),(1,Zfo),(7,I (p0.length:Int)),(8,I y3)],[Qtr]⟩) (fun t h=>by rw[Qdn] at h;cases h) (fun n5 ih y3 h=>?_) N (0) h
 rw[Qdn] at h
 refine wxz<|wsq<|bfq h (fun c6 h=>?_) fun c6 h=>?_
 ·refine Qah<|thn<|wsq<|Qaf<|wxz ?_
  refine bgq h fun x7 i9 j10 h=>bnq h fun x12 f11 h=>wx tbk [(3,rp _ _),(5,⟨_,_,_,_,false⟩)] ⟨aiq Xag ti3 Qab i9 j10,Qd5 (first:=[]) (cap:=[.ref 0 1 0 0]) (vs:=[I x7]) (σr:=[Qtr]) (σr':=[Qtr]) (res':=(B x12)) [0] rfl Zit (Qsq N x7 _ f11) rfl (Qct (rnc pli (rnc (Qa2 rfl) rn0))) (sfn Qai) (sfn Qai) pli rfl rfl rfl,tv⟩<|bfq h (fun c13 h=>?_) fun c13 h=>?_
  ·refine wxz ?_
   refine wmr (mto (n:=19) (l':=[(4,I y3)]) (own':=[Qtr]) [(4,I y3)] [0] [Qtr] hq (pw pn) (qbi qn))<|Qad<|Qal<|Qac<|Qac<|Qal<|Qac ?_
   obtain rfl:=osi h
   exact⟨_,Mor.rfl,fio [I y3] ⟨rot,tv⟩⟩
  exact Qah<|bln<|thn<|wxz1<|thn<|arm (mto (n:=19) [(0,.dat 1 (p0.map Qab)),(1,Zfo),(7,I (p0.length:Int)),(8,I (w64 (y3+1)))] [0] [Qtr] hq (pqi (pc (.rn (Qby rn0 (rnc (rqr rfl) rn0))) (pw (pw pn)))) (qbi qn)) (ih (w64 (y3+1)) h)
 exact Qax<|Qan<|Qan<|Qaw rfl<|thn<|⟨(),h,mto (n:=19) [] [0] [Qtr] hq pn (qbi qn)⟩
def Qe2 (N:Nat) (p0:List Int):Option Bool:=(Qgs N p0).bind fun x3=>some (decide (x3>=0))
abbrev Zu7:AV:=.fn (.func 94) [] [.ref 0 1 (0) 0]
abbrev Zcm:Slot:=.own 1 [[.fn (.func 107) [] []]]
def Qmc (N:Nat) (p0:List Int) (r:Bool) (h:Qe2 N p0=some r):Spec prog 51 [.dat 1 (p0.map Qab),Zu7] [Zcm] (B r) [Zcm]:=by
 refine sF Xfu 1 fun _ _ _ hq hd0=>?_
 unfold Qe2 at h
 refine wxz<|bnq h fun x3 f2 h=>wx tbk [(2,⟨_,_,_,_,false⟩)] ⟨acq [.dat 1 (p0.map Qab),Zu7] [Zcm] [Zcm] (I x3) [0] Qvr (Qnr N p0 _ f2) (Qct (rnc (pld Qar) (rnc (Qby rn0 (rnc (Qa2 rfl) rn0)) rn0))) (sfn Qai) (sfn Qai) pli,tv⟩ ?_
 refine wmr (mto (n:=9) (l':=[(4,B (decide (x3>=0)))]) (own':=[Zcm]) [(4,B (decide (x3>=0)))] [0] [Zcm] hq (pw pn) (qbi qn))<|Qad ?_
 obtain rfl:=osi h
 exact⟨_,Mor.rfl,fio [B (decide (x3>=0))] ⟨rot,tv⟩⟩
def Qju (N:Nat) (p0:List Int):Option Bool:=(Qe2 N p0).bind fun x2=>some !x2
abbrev Zu8:AV:=.fn (.func 94) [] [.ref 0 1 (0) 0]
abbrev Zu9:Slot:=.own 1 [[.fn (.func 107) [] []]]
def Qt8 (N:Nat) (p0:List Int) (r:Bool) (h:Qju N p0=some r):Spec prog 75 [.dat 1 (p0.map Qab),.fn (.func 107) [] []] [] (B r) []:=by
 refine sA func75 0 fun _ _ _ hq hd0=>?_
 unfold Qju at h
 refine wxz<|bnq h fun x2 f1 h=>?_
 refine wx tbk [(1,rp [(.tmp 3,.ref 0 1 0 0)] Zu8),(2,⟨_,_,_,_,false⟩)] ⟨Qfp (fs:=[]) (cs:=[.ref 0 1 0 0]) rfl rfl rfl rfl,acq [.dat 1 (p0.map Qab),Zu8] [Zu9] [Zu9] (B x2) [0] Qvs (Qmc N p0 _ f1) (Qct (rnc (pld Qar) (rnc (Qby rn0 (rnc (Qa2 rfl) rn0)) rn0))) (sfn Qai) (sfn Qai) pli,tv⟩<|Qad ?_
 obtain rfl:=osi h
 exact fend ⟨[B !x2],⟨rot,tv⟩,rfl⟩ nll
def Qi6 (_N:Nat) (p0:Int):Option Bool:=some (decide (p0>0))
def Qqe (N:Nat) (p0:Int) (r:Bool) (h:Qi6 N p0=some r):Spec prog 108 [I p0] [] (B r) []:=by
 refine sA func108 0 fun _ _ _ hq hd0=>?_
 unfold Qi6 at h
 refine wxz<|wxz<|Qad ?_
 obtain rfl:=osi h
 exact fend ⟨[B (decide (p0>0))],⟨rot,tv⟩,rfl⟩ nll
def Qdm (N:Nat) (p0:List Int) (k1:Unit->Option Int):Nat->Int->Option Int
 |0,_=>none
 |n4+1,y2=>bif decide (y2<(p0.length:Int)) then (getI p0 y2).bind fun x6=>(Qi6 N x6).bind fun x11=>bif x11 then some y2 else Qdm N p0 k1 n4 (w64 (y2+1)) else k1 ()
def Qgr (N:Nat) (p0:List Int):Option Int:=Qb0 (fun _=>some (-1)) fun k1:Unit->Option Int=>Qdm N p0 k1 N 0
def Qnq (N:Nat) (p0:List Int) (r:Int) (h:Qgr N p0=some r):Spec prog 72 [.dat 1 (p0.map Qab),.fn (.func 108) [] []] [] (I r) []:=by
 refine sA Xft 0 fun _ _ _ hq hd0=>?_
 unfold Qgr at h
 refine wxz<|wjq h (fun _=>⟨mk 19 [],[]⟩) (fun t h=>?_) fun k1 h=>?_
 ·refine wxz<|Qad ?_
  obtain rfl:=osi h
  exact fend ⟨[I (-1)],⟨rot,tv⟩,rfl⟩ nll
 refine wx tbk [(1,rp _ _)] ⟨alq 1 Qab p0 Xag,tv⟩<|Qaf ?_
 refine wmr (mto (n:=19) (l':=[(0,.dat 1 (p0.map Qab)),(1,.fn (.func 108) [] []),(7,I (p0.length:Int)),(8,I 0)]) (own':=[]) [(0,.dat 1 (p0.map Qab)),(1,.fn (.func 108) [] []),(7,I (p0.length:Int)),(8,I 0)] [] [] hq (pqi (pqi (pw (pw pn)))) qn) ?_
 refine Qbf (τ:=Int) (fun n t=>Qdm N p0 k1 n t=some r) (fun y2=>⟨mk 19 [(0,.dat 1 (p0.map Qab)),(1,.fn (.func 108) [] []),(7,I (p0.length:Int)),(8,I y2)],[]⟩) (fun t h=>by rw[Qdm] at h;cases h) (fun n4 ih y2 h=>?_) N (0) h
 rw[Qdm] at h
 refine wxz<|wsq<|bfq h (fun c5 h=>?_) fun c5 h=>?_
 ·refine Qah<|thn<|wsq<|Qaf<|wxz ?_
  refine bgq h fun x6 i8 j9 h=>bnq h fun x11 f10 h=>wx tbk [(3,rp _ _),(5,rp _ _)] ⟨aiq Xag ti3 Qab i8 j9,apw Zni (Qqe N x6 _ f10),tv⟩<|bfq h (fun c12 h=>?_) fun c12 h=>?_
  ·refine wxz<|Qad<|Qal<|Qac<|Qac<|Qal<|Qac ?_
   obtain rfl:=osi h
   exact fend ⟨[I y2],⟨rot,tv⟩,rfl⟩ nll
  exact Qah<|bln<|thn<|wxz1<|thn<|arm (mto (n:=19) [(0,.dat 1 (p0.map Qab)),(1,.fn (.func 108) [] []),(7,I (p0.length:Int)),(8,I (w64 (y2+1)))] [] [] hq (pqi (pqi (pw (pw pn)))) qn) (ih (w64 (y2+1)) h)
 exact Qax<|Qan<|Qan<|Qaw rfl<|thn<|⟨(),h,mto (n:=19) [] [] [] hq pn qn⟩
def Qd7 (N:Nat) (p0:List Int):Option Bool:=(Qgr N p0).bind fun x2=>some (decide (x2>=0))
def Qmb (N:Nat) (p0:List Int) (r:Bool) (h:Qd7 N p0=some r):Spec prog 51 [.dat 1 (p0.map Qab),.fn (.func 108) [] []] [] (B r) []:=by
 refine sA Xfu 0 fun _ _ _ hq hd0=>?_
 unfold Qd7 at h
 refine wxz<|bnq h fun x2 f1 h=>?_
 refine wx tbk [(2,rp _ _)] ⟨acq [.dat 1 (p0.map Qab),.fn (.func 108) [] []] [] [] (I x2) [] Qvr (Qnq N p0 _ f1) pli Qai Qai pli,tv⟩<|Qad ?_
 obtain rfl:=osi h
 exact fend ⟨[B (decide (x2>=0))],⟨rot,tv⟩,rfl⟩ nll
def Qio (N:Nat) (p0:Qam):Option Bool:=Qb0 (fun ⟨y1,y2⟩=>Qb0 (fun _=>bif (p0.Kind != 5) then some ((p0.Weights.length:Int)==0) else (Qen N (p0.Weights.length:Int) 1 20).bind fun x7=>bif x7 then (Qju N p0.Weights).bind fun x10=>bif x10 then (Qd7 N p0.Weights).bind fun x13=>some x13 else some false else some false) fun k4:Unit->Option Bool=>bif ((p0.From.length:Int) != y1) then some false else (Qen N p0.Amount 0 y2).bind fun x16=>bif !x16 then some false else (Qen N p0.Wide 0 1000000).bind fun x19=>bif !x19 then some false else (Qen N p0.Narrow 1 1000000000).bind fun x22=>bif !x22 then some false else k4 ()) fun k3:Int×Int->Option Bool=>bif (p0.Kind==1) then k3 (0,0) else bif (p0.Kind==2) then (some (if 6<(p0.From.length:Int) then 6 else(p0.From.length:Int))).bind fun x26=>(some (if x26>1 then x26 else 1)).bind fun x28=>k3 (x28,0) else bif (p0.Kind==3) then k3 (1,1000000000) else bif (p0.Kind==4) then k3 (1,1000) else bif (p0.Kind==5) then k3 (1,0) else bif (p0.Kind==6) then k3 (1,0) else some false
abbrev Zva (p0:Qam):AV:=.dat 2 (p0.From.map Qew)
abbrev Zcn (p0:Qam):AV:=.dat 1 (p0.Weights.map Qab)
abbrev Q1t (p0:Qam):Slot:=.own 7 [[K .u8 p0.Kind,Zva p0,I p0.Level,I p0.Amount,I p0.Wide,I p0.Narrow,Zcn p0]]
def Zqt (p0:Qam) (x7:Bool):List (Nat×Rec):=[(2,rp [(.tmp 55,Zcn p0)] (I (p0.Weights.length:Int))),(3,rp [fu 77,(.tmp 56,I (p0.Weights.length:Int)),ci 1,ci 20] (B x7))]
def Zqs p0 x7 (x10:Bool):=hcat (Zqt p0 x7) [(4,rp [(.tmp 57,B x7)] (B true)),(7,rp [(.tmp 58,B true),fu 75,(.tmp 60,Zcn p0),fu 107] (B x10))]
def Zqr (p0:Qam):List (Nat×Rec):=[(2,rp [(.tmp 24,Zva p0)] (I (p0.From.length:Int)))]
def Zqq p0 (y1 y2:Int) (x16:Bool):=hcat (Zqr p0) [(5,rp [(.tmp 27,B ((p0.From.length:Int) != y1))] (B false)),(9,rp [(.tmp 28,B false),fu 77,(.tmp 30,I p0.Amount),ci 0,(.tmp 31,I y2)] (B x16))]
def Zqp p0 y1 y2 x16 (x19:Bool):=hcat (Zqq p0 y1 y2 x16) [(12,rp [(.tmp 34,B !x16)] (B false)),(15,rp [(.tmp 35,B false),fu 77,(.tmp 37,I p0.Wide),ci 0,ci 1000000] (B x19))]
def Qrc (N:Nat) (p0:Qam) (r:Bool) (h:Qio N p0=some r):Spec prog 93 [.agg (Qaj p0)] [] (B r) []:=by
 refine sA func93 0 fun _ _ _ hq hd0=>?_
 unfold Qio at h
 refine wxz<|wxz<|wjq h (fun ⟨y1,y2⟩=>⟨mk 68 [(1,.ref 0 7 0 0),(3,I y1),(4,I y2)],[Q1t p0]⟩) (fun t h=>?_) fun k3 h=>?_
 ·obtain⟨y1,y2⟩:=t
  refine wjq h (fun _=>⟨mk 68 [(1,.ref 0 7 0 0)],[Q1t p0]⟩) (fun t h=>?_) fun k4 h=>?_
  ·refine wsq<|wxz<|bfq h (fun c5 h=>?_) fun c5 h=>?_
   ·refine wx tbk [(2,rp _ _)] ⟨alq 1 Qab p0.Weights Xag,tv⟩<|Qad<|Qac ?_
    obtain rfl:=osi h
    exact fend ⟨[B ((p0.Weights.length:Int)==0)],⟨rot,tv⟩,rfl⟩ nll
   refine Qah<|thn ?_
   refine bnq h fun x7 f6 h=>hpre (A:=(Zqt p0 x7)) ⟨alq 1 Qab p0.Weights Xag,apv Qp3 (Qf0 N (p0.Weights.length:Int) 1 20 _ f6) (nlcc (nlc nll nl0)) nll,tv⟩ fun q1_=>?_
   refine bfe h (fun hb8 h=>?_) fun hb8 h=>?_
   ·refine bnq h fun x10 f9 h=>hpre (A:=(Zqs p0 x7 x10)) (hap q1_ ⟨asb hb8 (amv rfl),ag_ (acq [Zcn p0,.fn (.func 107) [] []] [] [] (B x10) [] Ziu (Qt8 N p0.Weights _ f9) pli Qai Qai pli),tv⟩) fun q2_=>?_
    refine bfe h (fun hb11 h=>?_) fun hb11 h=>?_
    ·refine bnq h fun x13 f12 h=>?_
     refine wx tbk (hcat (Zqs p0 x7 x10) [(9,rp [(.tmp 62,B x10)] (B true)),(12,rp [(.tmp 63,B true),fu 51,(.tmp 65,Zcn p0),fu 108] (B x13))]) (hap q2_ ⟨asb hb11 (amv rfl),ag_ (acq [Zcn p0,.fn (.func 108) [] []] [] [] (B x13) [] Qvs (Qmb N p0.Weights _ f12) pli Qai Qai pli),tv⟩)<|Qad ?_
     exact frb h
    exact wx tbk (hcat (Zqs p0 x7 x10) [(9,rp [(.tmp 62,B x10)] (B false))]) (hap q2_ ⟨asb hb11 (amv rfl),tv⟩)<|Qad<|frb h
   exact wx tbk (hcat (Zqt p0 x7) [(4,rp [(.tmp 57,B x7)] (B false))]) (hap q1_ ⟨asb hb8 (amv rfl),tv⟩)<|Qad<|frb h
  refine hpre (A:=(Zqr p0)) ⟨alq 2 Qew p0.From Xcq,tv⟩ fun q3_=>?_
  refine bfe h (fun hb14 h=>?_) fun hb14 h=>?_
  ·exact wx tbk (hcat (Zqr p0) [(5,rp [(.tmp 27,B ((p0.From.length:Int) != y1))] (B true))]) (hap q3_ ⟨asb hb14 (amv rfl),tv⟩)<|wtr<|wxz<|Qad<|Qac<|frb h
  refine bnq h fun x16 f15 h=>hpre (A:=(Zqq p0 y1 y2 x16)) (hap q3_ ⟨asb hb14 (amv rfl),ag_ (apv Qp3 (Qf0 N p0.Amount 0 y2 _ f15) (nlcc (nlc nll nl0)) nll),tv⟩) fun q4_=>?_
  refine bfe h (fun hb17 h=>?_) fun hb17 h=>?_
  ·exact wx tbk (hcat (Zqq p0 y1 y2 x16) [(12,rp [(.tmp 34,B !x16)] (B true))]) (hap q4_ ⟨asb hb17 (amv rfl),tv⟩)<|wtr<|wxz<|Qad<|Qac<|frb h
  refine bnq h fun x19 f18 h=>hpre (A:=(Zqp p0 y1 y2 x16 x19)) (hap q4_ ⟨asb hb17 (amv rfl),ag_ (apv Qp3 (Qf0 N p0.Wide 0 1000000 _ f18) (nlcc (nlc nll nl0)) nll),tv⟩) fun q5_=>?_
  refine bfe h (fun hb20 h=>?_) fun hb20 h=>?_
  ·exact wx tbk (hcat (Zqp p0 y1 y2 x16 x19) [(18,rp [(.tmp 40,B !x19)] (B true))]) (hap q5_ ⟨asb hb20 (amv rfl),tv⟩)<|wtr<|wxz<|Qad<|Qac<|frb h
  refine bnq h fun x22 f21 h=>wx tbk (hcat (Zqp p0 y1 y2 x16 x19) [(18,rp [(.tmp 40,B !x19)] (B false)),(21,rp [(.tmp 41,B false),fu 77,(.tmp 43,I p0.Narrow),ci 1,ci 1000000000] (B x22))]) (hap q5_ ⟨asb hb20 (amv rfl),ag_ (apv Qp3 (Qf0 N p0.Narrow 1 1000000000 _ f21) (nlcc (nlc nll nl0)) nll),tv⟩)<|bfq h (fun c23 h=>?_) fun c23 h=>?_
  ·exact wxz<|Qad<|Qac<|frb h
  exact Qah<|thn<|⟨(),h,mto (n:=68) [(1,.ref 0 7 0 0)] [0] [Q1t p0] hq (prr pn) (qbi qn)⟩
 refine wxz<|Qaf<|wxz ?_
 refine bfq h (fun c24 h=>?_) fun c24 h=>?_
 ·exact wxz1<|bln<|thn<|⟨(0,0),h,mto (n:=68) [(1,.ref 0 7 0 0),(3,I 0),(4,I 0)] [0] [Q1t p0] hq (prr (pw (pw pn))) (qbi qn)⟩
 refine wxz<|bfq h (fun c25 h=>?_) fun c25 h=>?_
 ·exact bnq h fun x26 hl27 h=>bnq h fun x28 hl29 h=>wx1 tbk [(2,rp _ _),(3,rp [(.tmp 13,I (p0.From.length:Int)),ci 6] (I x26)),(4,rp [ci 1,(.tmp 14,I x26)] (I (if x26>1 then x26 else 1))),(5,rp [(.tmp 15,I (if x26>1 then x26 else 1))] (I x28))] ⟨alq 2 Qew p0.From Xcq,Qhz hl27 (Qo3 rfl),Qux rfl,Qhz hl29 (aas rfl),tv⟩<|bln<|thn<|⟨(x28,0),h,mto (n:=68) [(1,.ref 0 7 0 0),(3,I x28),(4,I 0)] [0] [Q1t p0] hq (prr (pw (pw pn))) (qbi qn)⟩
 refine wxz<|bfq h (fun c30 h=>?_) fun c30 h=>?_
 ·exact wxz1<|bln<|thn<|⟨(1,1000000000),h,mto (n:=68) [(1,.ref 0 7 0 0),(3,I 1),(4,I 1000000000)] [0] [Q1t p0] hq (prr (pw (pw pn))) (qbi qn)⟩
 refine wxz<|bfq h (fun c31 h=>?_) fun c31 h=>?_
 ·exact wxz1<|bln<|thn<|⟨(1,1000),h,mto (n:=68) [(1,.ref 0 7 0 0),(3,I 1),(4,I 1000)] [0] [Q1t p0] hq (prr (pw (pw pn))) (qbi qn)⟩
 refine wsq<|wxz<|bfq h (fun c32 h=>?_) fun c32 h=>?_
 ·exact Qah<|thn<|wft c32<|Qah<|bln<|thn<|⟨(1,0),h,mto (n:=68) [(1,.ref 0 7 0 0),(3,I 1),(4,I 0)] [0] [Q1t p0] hq (prr (pw (pw pn))) (qbi qn)⟩
 refine wxz1<|thn<|bfq h (fun c33 h=>?_) fun c33 h=>?_
 ·exact Qah<|bln<|thn<|⟨(1,0),h,mto (n:=68) [(1,.ref 0 7 0 0),(3,I 1),(4,I 0)] [0] [Q1t p0] hq (prr (pw (pw pn))) (qbi qn)⟩
 exact wxz<|Qad<|Qal<|Qac<|frb h
def Qg3 (N:Nat) (p0:Qam):Option Bool:=(Qio N p0).bind fun x3=>some !x3
abbrev Zxo (p0:Qam):AV:=.agg [K .u8 p0.Kind,.dat 2 (p0.From.map Qew),I p0.Level,I p0.Amount,I p0.Wide,I p0.Narrow,.dat 1 (p0.Weights.map Qab)]
abbrev Zlg:Slot:=.own 1 [[.fn (.func 93) [] []]]
def Qn3 (N:Nat) (p0:Qam) (r:Bool) (h:Qg3 N p0=some r):Spec prog 106 [Zxo p0,.ref 0 1 (0) 0] [Zlg] (B r) [Zlg]:=by
 refine sF func106 1 fun _ _ _ hq hd0=>?_
 unfold Qg3 at h
 refine wxz<|bnq h fun x3 f2 h=>wx tbk [(2,rp _ _)] ⟨apw Zsf (Qrc N p0 _ f2),tv⟩ ?_
 refine wmr (mto (n:=8) (l':=[(3,B !x3)]) (own':=[Zlg]) [(3,B !x3)] [0] [Zlg] hq (pw pn) (qbi qn))<|Qad ?_
 obtain rfl:=osi h
 exact⟨_,Mor.rfl,fio [B !x3] ⟨rot,tv⟩⟩
def Qbc (N:Nat) (p0:List Qam) (k2:Unit->Option Int):Nat->Int->Option Int
 |0,_=>none
 |n5+1,y3=>bif decide (y3<(p0.length:Int)) then (getI p0 y3).bind fun x7=>(Qg3 N x7).bind fun x12=>bif x12 then some y3 else Qbc N p0 k2 n5 (w64 (y3+1)) else k2 ()
def Qdi (N:Nat) (p0:List Qam):Option Int:=Qb0 (fun _=>some (-1)) fun k2:Unit->Option Int=>Qbc N p0 k2 N 0
abbrev Zf4 (p0:List Qam):AV:=.dat 7 (p0.map Qaj)
abbrev Zf3:AV:=.fn (.func 106) [] [.ref 0 1 (0) 0]
abbrev Qtt:Slot:=.own 1 [[.fn (.func 93) [] []]]
abbrev Zve (x7:Qam):AV:=.agg [K .u8 x7.Kind,.dat 2 (x7.From.map Qew),I x7.Level,I x7.Amount,I x7.Wide,I x7.Narrow,.dat 1 (x7.Weights.map Qab)]
def Qi2 (N:Nat) (p0:List Qam) (r:Int) (h:Qdi N p0=some r):Spec prog 118 [Zf4 p0,Zf3] [Qtt] (I r) [Qtt]:=by
 refine sF func118 1 fun _ _ _ hq hd0=>?_
 unfold Qdi at h
 refine wxz<|wjq h (fun _=>⟨mk 19 [],[Qtt]⟩) (fun t h=>?_) fun k2 h=>?_
 ·refine wxz<|wmr (mto (n:=19) (l':=[(4,I (-1))]) (own':=[Qtt]) [(4,I (-1))] [0] [Qtt] hq (pw pn) (qbi qn))<|Qad ?_
  obtain rfl:=osi h
  exact⟨_,Mor.rfl,fio [I (-1)] ⟨rot,tv⟩⟩
 refine wx tbk [(1,rp _ _)] ⟨alq 7 Qaj p0 Xa2,tv⟩<|Qaf ?_
 refine wmr (mto (n:=19) (l':=[(0,Zf4 p0),(1,Zf3),(7,I (p0.length:Int)),(8,I 0)]) (own':=[Qtt]) [(0,Zf4 p0),(1,Zf3),(7,I (p0.length:Int)),(8,I 0)] [0] [Qtt] hq (pqi (pc (.rn (Qby rn0 (rnc (rqr rfl) rn0))) (pw (pw pn)))) (qbi qn)) ?_
 refine Qbf (τ:=Int) (fun n t=>Qbc N p0 k2 n t=some r) (fun y3=>⟨mk 19 [(0,Zf4 p0),(1,Zf3),(7,I (p0.length:Int)),(8,I y3)],[Qtt]⟩) (fun t h=>by rw[Qbc] at h;cases h) (fun n5 ih y3 h=>?_) N (0) h
 rw[Qbc] at h
 refine wxz<|wsq<|bfq h (fun c6 h=>?_) fun c6 h=>?_
 ·refine Qah<|thn<|wsq<|Qaf<|wxz ?_
  refine bgq h fun x7 i9 j10 h=>bnq h fun x12 f11 h=>wx tbk [(3,rp _ _),(5,⟨_,_,_,_,false⟩)] ⟨aiq Xa2 Qo8 Qaj i9 j10,Qd5 (first:=[]) (cap:=[.ref 0 1 0 0]) (vs:=[Zve x7]) (σr:=[Qtt]) (σr':=[Qtt]) (res':=(B x12)) [0] rfl Znk (Qn3 N x7 _ f11) rfl (Qct (rnc pli (rnc (Qa2 rfl) rn0))) (sfn Qai) (sfn Qai) pli rfl rfl rfl,tv⟩<|bfq h (fun c13 h=>?_) fun c13 h=>?_
  ·refine wxz ?_
   refine wmr (mto (n:=19) (l':=[(4,I y3)]) (own':=[Qtt]) [(4,I y3)] [0] [Qtt] hq (pw pn) (qbi qn))<|Qad<|Qal<|Qac<|Qac<|Qal<|Qac ?_
   obtain rfl:=osi h
   exact⟨_,Mor.rfl,fio [I y3] ⟨rot,tv⟩⟩
  exact Qah<|bln<|thn<|wxz1<|thn<|arm (mto (n:=19) [(0,Zf4 p0),(1,Zf3),(7,I (p0.length:Int)),(8,I (w64 (y3+1)))] [0] [Qtt] hq (pqi (pc (.rn (Qby rn0 (rnc (rqr rfl) rn0))) (pw (pw pn)))) (qbi qn)) (ih (w64 (y3+1)) h)
 exact Qax<|Qan<|Qan<|Qaw rfl<|thn<|⟨(),h,mto (n:=19) [] [0] [Qtt] hq pn (qbi qn)⟩
def Qcl (N:Nat) (p0:List Qam):Option Bool:=(Qdi N p0).bind fun x3=>some (decide (x3>=0))
abbrev Zvh:AV:=.fn (.func 106) [] [.ref 0 1 (0) 0]
abbrev Zco:Slot:=.own 1 [[.fn (.func 93) [] []]]
def Qij (N:Nat) (p0:List Qam) (r:Bool) (h:Qcl N p0=some r):Spec prog 105 [.dat 7 (p0.map Qaj),Zvh] [Zco] (B r) [Zco]:=by
 refine sF func105 1 fun _ _ _ hq hd0=>?_
 unfold Qcl at h
 refine wxz<|bnq h fun x3 f2 h=>wx tbk [(2,⟨_,_,_,_,false⟩)] ⟨acq [.dat 7 (p0.map Qaj),Zvh] [Zco] [Zco] (I x3) [0] Zna (Qi2 N p0 _ f2) (Qct (rnc (pld Qau) (rnc (Qby rn0 (rnc (Qa2 rfl) rn0)) rn0))) (sfn Qai) (sfn Qai) pli,tv⟩ ?_
 refine wmr (mto (n:=9) (l':=[(4,B (decide (x3>=0)))]) (own':=[Zco]) [(4,B (decide (x3>=0)))] [0] [Zco] hq (pw pn) (qbi qn))<|Qad ?_
 obtain rfl:=osi h
 exact⟨_,Mor.rfl,fio [B (decide (x3>=0))] ⟨rot,tv⟩⟩
def Qga (N:Nat) (p0:List Qam):Option Bool:=(Qcl N p0).bind fun x2=>some !x2
abbrev Zvi:AV:=.fn (.func 106) [] [.ref 0 1 (0) 0]
abbrev Zvj:Slot:=.own 1 [[.fn (.func 93) [] []]]
def Qos (N:Nat) (p0:List Qam) (r:Bool) (h:Qga N p0=some r):Spec prog 92 [.dat 7 (p0.map Qaj),.fn (.func 93) [] []] [] (B r) []:=by
 refine sA func92 0 fun _ _ _ hq hd0=>?_
 unfold Qga at h
 refine wxz<|bnq h fun x2 f1 h=>?_
 refine wx tbk [(1,rp [(.tmp 3,.ref 0 1 0 0)] Zvi),(2,⟨_,_,_,_,false⟩)] ⟨Qfp (fs:=[]) (cs:=[.ref 0 1 0 0]) rfl rfl rfl rfl,acq [.dat 7 (p0.map Qaj),Zvi] [Zvj] [Zvj] (B x2) [0] Znl (Qij N p0 _ f1) (Qct (rnc (pld Qau) (rnc (Qby rn0 (rnc (Qa2 rfl) rn0)) rn0))) (sfn Qai) (sfn Qai) pli,tv⟩<|Qad ?_
 obtain rfl:=osi h
 exact fend ⟨[B !x2],⟨rot,tv⟩,rfl⟩ nll
def Qgb (_N:Nat) (p0:Qam):Option Int:=bif (p0.Kind==4) then some 2 else bif (p0.Kind==5) then (some (p0.Weights.length:Int)).bind fun x3=>some x3 else some 1
def Qly (N:Nat) (p0:Qam) (r:Int) (h:Qgb N p0=some r):Spec prog 43 [.agg (Qaj p0)] [] (I r) []:=by
 refine sA func43 0 fun _ _ _ hq hd0=>?_
 unfold Qgb at h
 refine wxz<|wsq<|wxz<|Qaf<|wxz ?_
 refine bfq h (fun c1 h=>?_) fun c1 h=>?_
 ·refine wxz<|Qad<|Qal<|Qac ?_
  obtain rfl:=osi h
  exact fend ⟨[I 2],⟨rot,tv⟩,rfl⟩ nll
 refine wxz<|bfq h (fun c2 h=>?_) fun c2 h=>?_
 ·refine bnq h fun x3 hl4 h=>?_
  refine wx tbk [(2,rp _ _),(3,rp [(.tmp 11,I (p0.Weights.length:Int))] (I x3))] ⟨alq 1 Qab p0.Weights Xag,Qhz hl4 (aas rfl),tv⟩<|Qad<|Qal<|Qac ?_
  obtain rfl:=osi h
  exact fend ⟨[I x3],⟨rot,tv⟩,rfl⟩ nll
 refine Qah<|bln<|thn<|wxz<|Qad ?_
 obtain rfl:=osi h
 exact fend ⟨[I 1],⟨rot,tv⟩,rfl⟩ nll
def Qfl (N:Nat) (p0:GNet) (y3:Int) (k10:(List (Int×Int))->Option Bool) (x11:Qam):Nat->Int->(List (Int×Int))->Option Bool
 |0,_,_=>none
 |n22+1,y18,y19=>bif decide (y18<(x11.From.length:Int)) then (getI x11.From y18).bind fun x24=>(Qen N x24.Element 0 (w64 (y3-1))).bind fun x29=>bif !x29 then some false else (getI p0.Elements x24.Element).bind fun x31=>(Qgb N x31).bind fun x36=>(Qen N x24.Outlet 0 (w64 (x36-1))).bind fun x38=>bif !x38 then some false else bif y19.contains (x24.Element,x24.Outlet) then some false else bif decide (x11.Level>x31.Level) then some false else Qfl N p0 y3 k10 x11 n22 (w64 (y18+1)) (addQ y19 (x24.Element,x24.Outlet)) else k10 y19
def Qe3 (N:Nat) (p0:GNet) (k2:Unit->Option Bool):Nat->Int->(List (Int×Int))->Option Bool
 |0,_,_=>none
 |n7+1,y3,y4=>bif decide (y3<(p0.Elements.length:Int)) then Qb0 (fun y9=>Qe3 N p0 k2 n7 (w64 (y3+1)) y9) fun k10:(List (Int×Int))->Option Bool=>(getI p0.Elements y3).bind fun x11=>(Qen N x11.Level 0 (w64 ((p0.Table.length:Int)-1))).bind fun x16=>bif !x16 then some false else Qfl N p0 y3 k10 x11 N 0 y4 else k2 ()
def Qky (N:Nat) (p0:GNet):Option Bool:=Qb0 (fun _=>Qb0 (fun _=>some true) fun k2:Unit->Option Bool=>Qe3 N p0 k2 N 0 ([]:List (Int×Int))) fun k1:Unit->Option Bool=>(Qk8 N p0.Table).bind fun x43=>bif (x43 != 0) then some false else (Qen N (p0.Elements.length:Int) 1 16).bind fun x46=>bif !x46 then some false else (Qga N p0.Elements).bind fun x49=>bif !x49 then some false else k1 ()
abbrev z9_0 (p0:GNet):AV:=.dat 5 (p0.Table.map Qat)
abbrev z9_1 (p0:GNet):AV:=.dat 7 (p0.Elements.map Qaj)
abbrev z9_2 (p0:GNet):Slot:=.own 2 [[z9_0 p0,z9_1 p0]]
abbrev Q33 (x11:Qam):AV:=.dat 2 (x11.From.map Qew)
abbrev Q9g (x11:Qam):Slot:=.own 7 [[K .u8 x11.Kind,Q33 x11,I x11.Level,I x11.Amount,I x11.Wide,I x11.Narrow,.dat 1 (x11.Weights.map Qab)]]
def Zeh (x24:Qhm) (y3:Int) (x29:Bool):List (Nat×Rec):=[(4,rp [fu 77,(.tmp 50,I x24.Element),ci 0,(.tmp 52,I (w64 (y3-1)))] (B x29))]
abbrev Zt4 (x31:Qam):AV:=.agg [K .u8 x31.Kind,.dat 2 (x31.From.map Qew),I x31.Level,I x31.Amount,I x31.Wide,I x31.Narrow,.dat 1 (x31.Weights.map Qab)]
def Zeg x24 y3 x29 (p0:GNet) (x31:Qam) (x36:Int) (x38:Bool):=hcat (Zeh x24 y3 x29) [(6,rp [(.tmp 54,B !x29)] (B false)),(13,rp [(.tmp 55,B false),(.tmp 59,z9_1 p0),(.tmp 61,I x24.Element)] (.dptr (Qaj x31) 0)),(15,rp [(.tmp 55,B false),fu 43,(.tmp 63,Zt4 x31)] (I x36)),(17,rp [(.tmp 55,B false),fu 77,(.tmp 57,I x24.Outlet),ci 0,(.tmp 65,I (w64 (x36-1)))] (B x38))]
def Zef x24 y3 x29 p0 x31 x36 x38 (y19:(List (Int×Int))):=hcat (Zeg x24 y3 x29 p0 x31 x36 x38) [(20,rp [(.tmp 68,B !x38)] (B false)),(23,rb [(.tmp 69,B false),(.tmp 70,.mp 1),(.tmp 71,.agg [I x24.Element,I x24.Outlet])] [(1,Qgg y19)] (B (y19.contains (x24.Element,x24.Outlet))))]
def Zee (p0:GNet) (x43:Int):List (Nat×Rec):=[(2,rp [fu 91,(.tmp 9,z9_0 p0)] (I x43))]
def Zed p0 x43 (x46:Bool):=hcat (Zee p0 x43) [(4,rp [(.tmp 11,B (x43 != 0))] (B false)),(7,rp [(.tmp 12,B false),(.tmp 14,z9_1 p0)] (I (p0.Elements.length:Int))),(8,rp [(.tmp 12,B false),fu 77,(.tmp 15,I (p0.Elements.length:Int)),ci 1,ci 16] (B x46))]
def Qt9 (N:Nat) (p0:GNet) (r:Bool) (h:Qky N p0=some r):Spec prog 74 [.agg (Qpt p0)] [] (B r) []:=by
 refine sA func74 0 fun _ _ _ hq hd0=>?_
 unfold Qky at h
 refine wxz<|wjq h (fun _=>⟨mk 90 [(1,.ref 0 2 0 0)],[z9_2 p0]⟩) (fun t h=>?_) fun k1 h=>?_
 ·refine wx tbk [(0,⟨[],[(1,.unused)],.mp 1,[(1,Qgg ([]:List (Int×Int)))],false⟩)] ⟨Qwn rfl,tv⟩<|wjq h (fun _=>⟨mk 90 [],[]⟩) (fun t h=>?_) fun k2 h=>?_
  ·exact wxz<|Qad<|frb h
  refine wx tbk [(2,rp _ _)] ⟨alq 7 Qaj p0.Elements Xa2,tv⟩<|Qaf ?_
  refine wmr (mto (n:=90) (l':=[(1,.ref 0 2 0 0),(3,.mp 1),(27,z9_1 p0),(28,I (p0.Elements.length:Int)),(29,I 0)]) (own':=[z9_2 p0,Qgg ([]:List (Int×Int))]) [(1,.ref 0 2 0 0),(3,.mp 1),(27,z9_1 p0),(28,I (p0.Elements.length:Int)),(29,I 0)] [0,1] [z9_2 p0,Qgg ([]:List (Int×Int))] hq (prr (pc (.rn (Qme rfl)) (pqi (pw (pw pn))))) (qbi (qc Qh4 qn))) ?_
  refine Qbf (τ:=Int×(List (Int×Int))) (fun n t=>Qe3 N p0 k2 n t.1 t.2=some r) (fun ⟨y3,y4⟩=>⟨mk 90 [(1,.ref 0 2 0 0),(3,.mp 1),(27,z9_1 p0),(28,I (p0.Elements.length:Int)),(29,I y3)],[z9_2 p0,Qgg y4]⟩) (fun t h=>by rw[Qe3] at h;cases h) (fun n7 ih t h=>?_) N (0,([]:List (Int×Int))) h
  obtain⟨y3,y4⟩:=t
  rw[Qe3] at h
  refine wxz<|wsq<|bfq h (fun c8 h=>?_) fun c8 h=>?_
  ·refine Qah<|thn ?_
   refine wjq h (fun y9=>⟨mk 90 [(1,.ref 0 2 0 0),(3,.mp 1),(27,z9_1 p0),(28,I (p0.Elements.length:Int)),(29,I y3)],[z9_2 p0,Qgg y9]⟩) (fun y9 h=>?_) fun k10 h=>?_
   ·exact wxz1<|thn<|arm (mto (n:=90) [(1,.ref 0 2 0 0),(3,.mp 1),(27,z9_1 p0),(28,I (p0.Elements.length:Int)),(29,I (w64 (y3+1)))] [0,1] [z9_2 p0,Qgg y9] hq (prr (pc (.rn (Qme rfl)) (pqi (pw (pw pn))))) (qbi (qc Qh4 qn))) (ih (w64 (y3+1),y9) h)
   refine Qaf ?_
   refine bgq h fun x11 i13 j14 h=>wx tbk [(1,rp _ _)] ⟨aiq Xa2 Qo8 Qaj i13 j14,tv⟩<|wsq<|bnq h fun x16 f15 h=>wx tbk [(4,rp _ _),(6,rp _ _)] ⟨alq 5 Qat p0.Table Xcy,apw Qp3 (Qf0 N x11.Level 0 (w64 ((p0.Table.length:Int)-1)) _ f15),tv⟩<|bfq h (fun c17 h=>?_) fun c17 h=>?_
   ·exact wxz<|Qad<|Qac<|Qal<|Qac<|Qac<|Qal<|Qac<|frb h
   refine Qah<|thn ?_
   refine wx tbk [(2,rp _ _)] ⟨alq 2 Qew x11.From Xcq,tv⟩<|Qaf ?_
   refine wmr (mto (n:=90) (l':=[(1,.ref 0 2 0 0),(3,.mp 1),(4,I y3),(5,.ref 2 7 0 0),(27,z9_1 p0),(28,I (p0.Elements.length:Int)),(29,I y3),(43,Q33 x11),(44,I (x11.From.length:Int)),(45,I 0)]) (own':=[z9_2 p0,Qgg y4,Q9g x11]) [(1,.ref 0 2 0 0),(3,.mp 1),(4,I y3),(5,.ref 2 7 0 0),(27,z9_1 p0),(28,I (p0.Elements.length:Int)),(29,I y3),(43,Q33 x11),(44,I (x11.From.length:Int)),(45,I 0)] [0,1,2] [z9_2 p0,Qgg y4,Q9g x11] hq (prr (pc (.rn (Qme rfl)) (pw (prr (pqi (pw (pw (pqi (pw (pw pn)))))))))) (qbi (qc Qh4 (qbi qn)))) ?_
   refine Qbf (τ:=Int×(List (Int×Int))) (fun n t=>Qfl N p0 y3 k10 x11 n t.1 t.2=some r) (fun ⟨y18,y19⟩=>⟨mk 90 [(1,.ref 0 2 0 0),(3,.mp 1),(4,I y3),(5,.ref 2 7 0 0),(27,z9_1 p0),(28,I (p0.Elements.length:Int)),(29,I y3),(43,Q33 x11),(44,I (x11.From.length:Int)),(45,I y18)],[z9_2 p0,Qgg y19,Q9g x11]⟩) (fun t h=>by rw[Qfl] at h;cases h) (fun n22 ih t h=>?_) N (0,y4) h
   obtain⟨y18,y19⟩:=t
   rw[Qfl] at h
   refine wxz<|wsq<|bfq h (fun c23 h=>?_) fun c23 h=>?_
   ·refine Qah<|thn<|wsq<|Qaf ?_
    refine bgq h fun x24 i26 j27 h=>wx tbk [(0,rp _ _)] ⟨aiq Xcq ti99 Qew i26 j27,tv⟩<|wsq<|bnq h fun x29 f28 h=>hpre (A:=(Zeh x24 y3 x29)) ⟨apv Qp3 (Qf0 N x24.Element 0 (w64 (y3-1)) _ f28) (nlcc (nlc nll nl0)) nll,tv⟩ fun q1_=>?_
    refine bfe h (fun hb30 h=>?_) fun hb30 h=>?_
    ·refine wxd tbk (hcat (Zeh x24 y3 x29) [(6,rp [(.tmp 54,B !x29)] (B true))]) (hap q1_ ⟨asb hb30 (amv rfl),tv⟩)<|wtr<|wxz<|Qad<|Qac<|Qal<|Qac<|Qac<|Qal<|Qal ?_
     exact Qac<|Qac<|Qal<|Qac<|frb h
    refine bgq h fun x31 i33 j34 h=>bnq h fun x36 f35 h=>bnq h fun x38 f37 h=>hpre (A:=(Zeg x24 y3 x29 p0 x31 x36 x38)) (hap q1_ ⟨asb hb30 (amv rfl),ag_ (aiq Xa2 Qo8 Qaj i33 j34),ag_ (apv Zi2 (Qly N x31 _ f35) (nlc (NLt.agg _ (nlc nll (nlc (nld Qsb _) (nlcc (nlcc (nlc (nld Qar _) nl0)))))) nl0) nll),ag_ (apv Qp3 (Qf0 N x24.Outlet 0 (w64 (x36-1)) _ f37) (nlcc (nlc nll nl0)) nll),tv⟩) fun q2_=>?_
    refine bfe h (fun hb39 h=>?_) fun hb39 h=>?_
    ·refine wxd tbk (hcat (Zeg x24 y3 x29 p0 x31 x36 x38) [(20,rp [(.tmp 68,B !x38)] (B true))]) (hap q2_ ⟨asb hb39 (amv rfl),tv⟩)<|wtr<|wxz<|Qad<|Qac<|Qal<|Qac<|Qac<|Qal<|Qal ?_
     exact Qac<|Qac<|Qal<|Qac<|frb h
    refine hpre (A:=(Zef x24 y3 x29 p0 x31 x36 x38 y19)) (hap q2_ ⟨asb hb39 (amv rfl),ag_ (Qq3 rfl Xd2 Xb6 zb4 Zdp Zdg),tv⟩) fun q3_=>?_
    refine bfe h (fun hb40 h=>?_) fun hb40 h=>?_
    ·refine wxd tbk (hcat (Zef x24 y3 x29 p0 x31 x36 x38 y19) [(25,rp [(.tmp 73,B (y19.contains (x24.Element,x24.Outlet)))] (B true))]) (hap q3_ ⟨asb hb40 (amv rfl),tv⟩)<|wtr<|wxz<|Qad<|Qac<|Qal<|Qac<|Qac<|Qal<|Qal ?_
     exact Qac<|Qac<|Qal<|Qac<|frb h
    refine wxd tbk (hcat (Zef x24 y3 x29 p0 x31 x36 x38 y19) [(25,rp [(.tmp 73,B (y19.contains (x24.Element,x24.Outlet)))] (B false)),(32,rp [(.tmp 74,B false),(.tmp 78,z9_1 p0),(.tmp 80,I x24.Element)] (.dptr (Qaj x31) 0))]) (hap q3_ ⟨asb hb40 (amv rfl),ag_ (aiq Xa2 Qo8 Qaj i33 j34),tv⟩)<|bfq h (fun c41 h=>?_) fun c41 h=>?_
    ·refine wxz<|Qad<|Qac<|Qal<|Qac<|Qac<|Qal<|Qal<|Qac ?_
     exact Qac<|Qal<|Qac<|frb h
    refine Qah<|thn ?_
    exact wx1 tbk [(2,⟨[(.tmp 86,.mp 1),(.tmp 87,.agg [I x24.Element,I x24.Outlet]),cb true],[(1,Qgg y19)],.any,[(1,Qgg (addQ y19 (x24.Element,x24.Outlet)))],false⟩)] ⟨Qzr rfl Xd2 Xb6 Zdp Zdg,tv⟩<|bln<|thn<|wxz1<|thn<|arm (mto (n:=90) [(1,.ref 0 2 0 0),(3,.mp 1),(4,I y3),(5,.ref 2 7 0 0),(27,z9_1 p0),(28,I (p0.Elements.length:Int)),(29,I y3),(43,Q33 x11),(44,I (x11.From.length:Int)),(45,I (w64 (y18+1)))] [0,1,2] [z9_2 p0,Qgg (addQ y19 (x24.Element,x24.Outlet)),Q9g x11] hq (prr (pc (.rn (Qme rfl)) (pw (prr (pqi (pw (pw (pqi (pw (pw pn)))))))))) (qbi (qc Qh4 (qbi qn)))) (ih (w64 (y18+1),addQ y19 (x24.Element,x24.Outlet)) h)
   exact Qax<|Qan<|Qan<|Qaw rfl<|bln<|thn<|⟨y19,h,mto (n:=90) [(1,.ref 0 2 0 0),(3,.mp 1),(27,z9_1 p0),(28,I (p0.Elements.length:Int)),(29,I y3)] [0,1] [z9_2 p0,Qgg y19] hq (prr (pc (.rn (Qme rfl)) (pqi (pw (pw pn))))) (qbi (qc Qh4 qn))⟩
  exact Qax<|Qan<|Qan<|Qaw rfl<|thn<|⟨(),h,mto (n:=90) [] [] [] hq pn qn⟩
 refine bnq h fun x43 f42 h=>hpre (A:=(Zee p0 x43)) ⟨apv Zsh (Qsj N p0.Table _ f42) (nlc (nld Qcg _) nl0) nll,tv⟩ fun q4_=>?_
 refine bfe h (fun hb44 h=>?_) fun hb44 h=>?_
 ·exact wx tbk (hcat (Zee p0 x43) [(4,rp [(.tmp 11,B (x43 != 0))] (B true))]) (hap q4_ ⟨asb hb44 (amv rfl),tv⟩)<|wtr<|wxz<|Qad<|Qac<|frb h
 refine bnq h fun x46 f45 h=>hpre (A:=(Zed p0 x43 x46)) (hap q4_ ⟨asb hb44 (amv rfl),ag_ (alq 7 Qaj p0.Elements Xa2),ag_ (apv Qp3 (Qf0 N (p0.Elements.length:Int) 1 16 _ f45) (nlcc (nlc nll nl0)) nll),tv⟩) fun q5_=>?_
 refine bfe h (fun hb47 h=>?_) fun hb47 h=>?_
 ·exact wx tbk (hcat (Zed p0 x43 x46) [(11,rp [(.tmp 18,B !x46)] (B true))]) (hap q5_ ⟨asb hb47 (amv rfl),tv⟩)<|wtr<|wxz<|Qad<|Qac<|frb h
 refine bnq h fun x49 f48 h=>wx tbk (hcat (Zed p0 x43 x46) [(11,rp [(.tmp 18,B !x46)] (B false)),(14,rp [(.tmp 19,B false),fu 92,(.tmp 21,z9_1 p0),fu 93] (B x49))]) (hap q5_ ⟨asb hb47 (amv rfl),ag_ (acq [z9_1 p0,.fn (.func 93) [] []] [] [] (B x49) [] Zsg (Qos N p0.Elements _ f48) pli Qai Qai pli),tv⟩)<|bfq h (fun c50 h=>?_) fun c50 h=>?_
 ·exact wxz<|Qad<|Qac<|frb h
 exact Qah<|thn<|⟨(),h,mto (n:=90) [(1,.ref 0 2 0 0)] [0] [z9_2 p0] hq (prr pn) (qbi qn)⟩
end
section
def Qna (N:Nat) (p0:Int):Option Bool:=(Qen N p0 0 1000000000000).bind fun x2=>some x2
def Qve (N:Nat) (p0:Int) (r:Bool) (h:Qna N p0=some r):Spec prog 76 [I p0] [] (B r) []:=by
 refine sA func76 0 fun _ _ _ hq hd0=>?_
 unfold Qna at h
 refine wxz<|bnq h fun x2 f1 h=>?_
 exact wx tbk [(1,rp _ _)] ⟨apw Qp3 (Qf0 N p0 0 1000000000000 _ f1),tv⟩<|Qad<|frb h
def Qjs (N:Nat) (p0:Int):Option Bool:=(Qna N p0).bind fun x3=>some !x3
abbrev Zlb:Slot:=.own 1 [[.fn (.func 76) [] []]]
def Qsp (N:Nat) (p0:Int) (r:Bool) (h:Qjs N p0=some r):Spec prog 94 [I p0,.ref 0 1 (0) 0] [Zlb] (B r) [Zlb]:=by
 refine sF func94 1 fun _ _ _ hq hd0=>?_
 unfold Qjs at h
 refine wxz<|bnq h fun x3 f2 h=>wx tbk [(2,rp _ _)] ⟨apw Zsr (Qve N p0 _ f2),tv⟩ ?_
 refine wmr (mto (n:=8) (l':=[(3,B !x3)]) (own':=[Zlb]) [(3,B !x3)] [0] [Zlb] hq (pw pn) (qbi qn))<|Qad ?_
 obtain rfl:=osi h
 exact⟨_,Mor.rfl,fio [B !x3] ⟨rot,tv⟩⟩
def Qdl (N:Nat) (p0:List Int) (k2:Unit->Option Int):Nat->Int->Option Int
 |0,_=>none
 |n5+1,y3=>bif decide (y3<(p0.length:Int)) then (getI p0 y3).bind fun x7=>(Qjs N x7).bind fun x12=>bif x12 then some y3 else Qdl N p0 k2 n5 (w64 (y3+1)) else k2 ()
def Qgq (N:Nat) (p0:List Int):Option Int:=Qb0 (fun _=>some (-1)) fun k2:Unit->Option Int=>Qdl N p0 k2 N 0
abbrev Zfn:AV:=.fn (.func 94) [] [.ref 0 1 (0) 0]
abbrev Qtq:Slot:=.own 1 [[.fn (.func 76) [] []]]
def Qnp (N:Nat) (p0:List Int) (r:Int) (h:Qgq N p0=some r):Spec prog 72 [.dat 1 (p0.map Qab),Zfn] [Qtq] (I r) [Qtq]:=by
 refine sF Xft 1 fun _ _ _ hq hd0=>?_
 unfold Qgq at h
 refine wxz<|wjq h (fun _=>⟨mk 19 [],[Qtq]⟩) (fun t h=>?_) fun k2 h=>?_
 ·refine wxz<|wmr (mto (n:=19) (l':=[(4,I (-1))]) (own':=[Qtq]) [(4,I (-1))] [0] [Qtq] hq (pw pn) (qbi qn))<|Qad ?_
  obtain rfl:=osi h
  exact⟨_,Mor.rfl,fio [I (-1)] ⟨rot,tv⟩⟩
 refine wx tbk [(1,rp _ _)] ⟨alq 1 Qab p0 Xag,tv⟩<|Qaf ?_
 refine wmr (mto (n:=19) (l':=[(0,.dat 1 (p0.map Qab)),(1,Zfn),(7,I (p0.length:Int)),(8,I 0)]) (own':=[Qtq]) [(0,.dat 1 (p0.map Qab)),(1,Zfn),(7,I (p0.length:Int)),(8,I 0)] [0] [Qtq] hq (pqi (pc (.rn (Qby rn0 (rnc (rqr rfl) rn0))) (pw (pw pn)))) (qbi qn)) ?_
 refine Qbf (τ:=Int) (fun n t=>Qdl N p0 k2 n t=some r) (fun y3=>⟨mk 19 [(0,.dat 1 (p0.map Qab)),(1,Zfn),(7,I (p0.length:Int)),(8,I y3)],[Qtq]⟩) (fun t h=>by rw[Qdl] at h;cases h) (fun n5 ih y3 h=>?_) N (0) h
 rw[Qdl] at h
 refine wxz<|wsq<|bfq h (fun c6 h=>?_) fun c6 h=>?_
 ·refine Qah<|thn<|wsq<|Qaf<|wxz ?_
  refine bgq h fun x7 i9 j10 h=>bnq h fun x12 f11 h=>wx tbk [(3,rp _ _),(5,⟨_,_,_,_,false⟩)] ⟨aiq Xag ti3 Qab i9 j10,Qd5 (first:=[]) (cap:=[.ref 0 1 0 0]) (vs:=[I x7]) (σr:=[Qtq]) (σr':=[Qtq]) (res':=(B x12)) [0] rfl Zit (Qsp N x7 _ f11) rfl (Qct (rnc pli (rnc (Qa2 rfl) rn0))) (sfn Qai) (sfn Qai) pli rfl rfl rfl,tv⟩<|bfq h (fun c13 h=>?_) fun c13 h=>?_
  ·refine wxz ?_
   refine wmr (mto (n:=19) (l':=[(4,I y3)]) (own':=[Qtq]) [(4,I y3)] [0] [Qtq] hq (pw pn) (qbi qn))<|Qad<|Qal<|Qac<|Qac<|Qal<|Qac ?_
   obtain rfl:=osi h
   exact⟨_,Mor.rfl,fio [I y3] ⟨rot,tv⟩⟩
  exact Qah<|bln<|thn<|wxz1<|thn<|arm (mto (n:=19) [(0,.dat 1 (p0.map Qab)),(1,Zfn),(7,I (p0.length:Int)),(8,I (w64 (y3+1)))] [0] [Qtq] hq (pqi (pc (.rn (Qby rn0 (rnc (rqr rfl) rn0))) (pw (pw pn)))) (qbi qn)) (ih (w64 (y3+1)) h)
 exact Qax<|Qan<|Qan<|Qaw rfl<|thn<|⟨(),h,mto (n:=19) [] [0] [Qtq] hq pn (qbi qn)⟩
def Qe1 (N:Nat) (p0:List Int):Option Bool:=(Qgq N p0).bind fun x3=>some (decide (x3>=0))
abbrev Zu3:AV:=.fn (.func 94) [] [.ref 0 1 (0) 0]
abbrev Zcl:Slot:=.own 1 [[.fn (.func 76) [] []]]
def Qma (N:Nat) (p0:List Int) (r:Bool) (h:Qe1 N p0=some r):Spec prog 51 [.dat 1 (p0.map Qab),Zu3] [Zcl] (B r) [Zcl]:=by
 refine sF Xfu 1 fun _ _ _ hq hd0=>?_
 unfold Qe1 at h
 refine wxz<|bnq h fun x3 f2 h=>wx tbk [(2,⟨_,_,_,_,false⟩)] ⟨acq [.dat 1 (p0.map Qab),Zu3] [Zcl] [Zcl] (I x3) [0] Qvr (Qnp N p0 _ f2) (Qct (rnc (pld Qar) (rnc (Qby rn0 (rnc (Qa2 rfl) rn0)) rn0))) (sfn Qai) (sfn Qai) pli,tv⟩ ?_
 refine wmr (mto (n:=9) (l':=[(4,B (decide (x3>=0)))]) (own':=[Zcl]) [(4,B (decide (x3>=0)))] [0] [Zcl] hq (pw pn) (qbi qn))<|Qad ?_
 obtain rfl:=osi h
 exact⟨_,Mor.rfl,fio [B (decide (x3>=0))] ⟨rot,tv⟩⟩
def Qmg (N:Nat) (p0:List Int):Option Bool:=(Qe1 N p0).bind fun x2=>some !x2
abbrev Zu4:AV:=.fn (.func 94) [] [.ref 0 1 (0) 0]
abbrev Zu5:Slot:=.own 1 [[.fn (.func 76) [] []]]
def Qt7 (N:Nat) (p0:List Int) (r:Bool) (h:Qmg N p0=some r):Spec prog 75 [.dat 1 (p0.map Qab),.fn (.func 76) [] []] [] (B r) []:=by
 refine sA func75 0 fun _ _ _ hq hd0=>?_
 unfold Qmg at h
 refine wxz<|bnq h fun x2 f1 h=>?_
 refine wx tbk [(1,rp [(.tmp 3,.ref 0 1 0 0)] Zu4),(2,⟨_,_,_,_,false⟩)] ⟨Qfp (fs:=[]) (cs:=[.ref 0 1 0 0]) rfl rfl rfl rfl,acq [.dat 1 (p0.map Qab),Zu4] [Zu5] [Zu5] (B x2) [0] Qvs (Qma N p0 _ f1) (Qct (rnc (pld Qar) (rnc (Qby rn0 (rnc (Qa2 rfl) rn0)) rn0))) (sfn Qai) (sfn Qai) pli,tv⟩<|Qad ?_
 obtain rfl:=osi h
 exact fend ⟨[B !x2],⟨rot,tv⟩,rfl⟩ nll
def Qnu (N:Nat) (p0:GNet) (p1:List Int):Option Int:=(Qky N p0).bind fun x2=>bif !x2 then some 1 else bif ((p1.length:Int) != (p0.Elements.length:Int)) then some 1 else (Qmg N p1).bind fun x6=>bif !x6 then some 1 else some 0
abbrev Zxn (p0:GNet):AV:=.dat 5 (p0.Table.map Qat)
abbrev Zu6 (p0:GNet):AV:=.dat 7 (p0.Elements.map Qaj)
def Zqo (p0:GNet) (x2:Bool):List (Nat×Rec):=[(1,rp [fu 74,(.tmp 5,.agg [Zxn p0,Zu6 p0])] (B x2))]
def Zqn p0 x2 (p1:List Int):=hcat (Zqo p0 x2) [(3,rp [(.tmp 7,B !x2)] (B false)),(5,rp [(.tmp 8,B false),(.tmp 9,.dat 1 (p1.map Qab))] (I (p1.length:Int))),(8,rp [(.tmp 8,B false),(.tmp 12,Zu6 p0)] (I (p0.Elements.length:Int)))]
def Qym (N:Nat) (p0:GNet) (p1:List Int) (r:Int) (h:Qnu N p0 p1=some r):Spec prog 60 [.agg (Qpt p0),.dat 1 (p1.map Qab)] [] (I r) []:=by
 refine sA func60 0 fun _ _ _ hq hd0=>?_
 unfold Qnu at h
 refine wxz<|wsq<|bnq h fun x2 f1 h=>hpre (A:=(Zqo p0 x2)) ⟨apv Zss (Qt9 N p0 _ f1) (nlc (NLt.agg _ (nlc (nld Qcg _) (nlc (nld Qau _) nl0))) nl0) nll,tv⟩ fun q1_=>?_
 refine bfe h (fun hb3 h=>?_) fun hb3 h=>?_
 ·refine wx tbk (hcat (Zqo p0 x2) [(3,rp [(.tmp 7,B !x2)] (B true))]) (hap q1_ ⟨asb hb3 (amv rfl),tv⟩)<|wtr<|wxz<|Qad<|Qac ?_
  obtain rfl:=osi h
  exact fend ⟨[I 1],⟨rot,tv⟩,rfl⟩ nll
 refine hpre (A:=(Zqn p0 x2 p1)) (hap q1_ ⟨asb hb3 (amv rfl),ag_ (alq 1 Qab p1 Xag),ag_ (alq 7 Qaj p0.Elements Xa2),tv⟩) fun q2_=>?_
 refine bfe h (fun hb4 h=>?_) fun hb4 h=>?_
 ·refine wx tbk (hcat (Zqn p0 x2 p1) [(11,rp [(.tmp 15,B ((p1.length:Int) != (p0.Elements.length:Int)))] (B true))]) (hap q2_ ⟨asb hb4 (amv rfl),tv⟩)<|wtr<|wxz<|Qad<|Qac ?_
  obtain rfl:=osi h
  exact fend ⟨[I 1],⟨rot,tv⟩,rfl⟩ nll
 refine bnq h fun x6 f5 h=>wx tbk (hcat (Zqn p0 x2 p1) [(11,rp [(.tmp 15,B ((p1.length:Int) != (p0.Elements.length:Int)))] (B false)),(13,rp [(.tmp 16,B false),fu 75,(.tmp 17,.dat 1 (p1.map Qab)),fu 76] (B x6))]) (hap q2_ ⟨asb hb4 (amv rfl),ag_ (acq [.dat 1 (p1.map Qab),.fn (.func 76) [] []] [] [] (B x6) [] Ziu (Qt7 N p1 _ f5) pli Qai Qai pli),tv⟩)<|bfq h (fun c7 h=>?_) fun c7 h=>?_
 ·refine wxz<|Qad<|Qac ?_
  obtain rfl:=osi h
  exact fend ⟨[I 1],⟨rot,tv⟩,rfl⟩ nll
 refine Qah<|thn<|wxz<|Qad ?_
 obtain rfl:=osi h
 exact fend ⟨[I 0],⟨rot,tv⟩,rfl⟩ nll
def Qfy (N:Nat) (p0:GNet) (p1:Int) (k2:(List Int)->Option (List Int)):Nat->(List Int)->Int->Option (List Int)
 |0,_,_=>none
 |n7+1,y3,y4=>bif decide (y4<(p0.Elements.length:Int)) then (getI p0.Elements y4).bind fun x9=>bif (x9.Kind==p1) then chk (decide ((y3.length+([y4]).length)*8<=140737488355328))<|Qfy N p0 p1 k2 n7 (y3++([y4])) (w64 (y4+1)) else Qfy N p0 p1 k2 n7 y3 (w64 (y4+1)) else k2 y3
def Qlx (N:Nat) (p0:GNet) (p1:Int):Option (List Int):=Qb0 (fun y1=>some y1) fun k2:(List Int)->Option (List Int)=>Qfy N p0 p1 k2 N ([]) 0
abbrev Zfl (p0:GNet):AV:=.dat 7 (p0.Elements.map Qaj)
abbrev Q92 (y3:List Int):AV:=.acc 0 3 1 (y3.map Qab)
def Qot (N:Nat) (p0:GNet) (p1:Int) (r:List Int) (h:Qlx N p0 p1=some r):Spec prog 78 [.agg (Qpt p0),K .u8 p1] [] (.dat 1 (r.map Qab)) []:=by
 refine sA func78 0 fun _ _ _ hq hd0=>?_
 unfold Qlx at h
 refine wxz<|wjq h (fun y1=>⟨mk 25 [(4,.acc 0 3 1 (y1.map Qab))],[.tok]⟩) (fun y1 h=>?_) fun k2 h=>?_
 ·refine wxz<|Qad ?_
  obtain rfl:=osi h
  exact fie [.dat 1 (y1.map Qab)] ⟨Qg0 (v:=(.acc 0 3 1 (y1.map Qab))) rot Less.acc,tv⟩
 refine wx tbk [(2,rp _ _)] ⟨alq 7 Qaj p0.Elements Xa2,tv⟩<|Qaf ?_
 refine wmr (Mor.trans (Qyx 1 3 1 4 (by kernel_rfl) (by kernel_rfl)) (mto (n:=25) (l':=[(1,K .u8 p1),(4,.acc 0 3 1 (([]:List Int).map Qab)),(8,Zfl p0),(9,I (p0.Elements.length:Int)),(10,I 0)]) (own':=[.tok]) [(1,K .u8 p1),(4,.acc 1 3 1 (([]:List Int).map Qab)),(8,Zfl p0),(9,I (p0.Elements.length:Int)),(10,I 0)] [1] [.tok] hq (pw (pc (.rn (Qcv rfl (Qcf Qar _))) (pqi (pw (pw pn))))) (qc .tok qn))) ?_
 refine Qbf (τ:=(List Int)×Int) (fun n t=>Qfy N p0 p1 k2 n t.1 t.2=some r) (fun ⟨y3,y4⟩=>⟨mk 25 [(1,K .u8 p1),(4,Q92 y3),(8,Zfl p0),(9,I (p0.Elements.length:Int)),(10,I y4)],[.tok]⟩) (fun t h=>by rw[Qfy] at h;cases h) (fun n7 ih t h=>?_) N ([],0) h
 obtain⟨y3,y4⟩:=t
 rw[Qfy] at h
 refine wxz<|wsq<|bfq h (fun c8 h=>?_) fun c8 h=>?_
 ·refine Qah<|thn<|wsq<|Qaf ?_
  refine bgq h fun x9 i11 j12 h=>wx tbk [(1,rp _ _)] ⟨aiq Xa2 Qo8 Qaj i11 j12,tv⟩<|wxz<|bfq h (fun c13 h=>?_) fun c13 h=>?_
  ·exact ckq h fun a14 h=>wx1 tbk [(2,rp [(.tmp 20,I y4)] (.dat 1 (([y4]:List Int).map Qab))),(3,⟨[(.tmp 19,Q92 y3),(.tmp 21,.dat 1 (([y4]:List Int).map Qab))],[(0,.tok),(2,.unused)],.acc 2 3 1 ((y3++([y4]):List Int).map Qab),[(0,.dead),(2,.tok)],false⟩)] ⟨Qds (vs:=[I y4]) rfl Xag ti3 tz3 rfl (by decide) rfl (by decide) (by rfl) (by rfl) (by rfl) rfl,Qg7 rfl Xag te3 (Base.acc _ _) rfl rfl (by rfl) (Qkk Qab a14) (Qkj Qab a14 (by decide)) (Qki Qab) rfl rfl,tv⟩<|bln<|thn<|wxz1<|thn<|arm (mto (n:=25) [(1,K .u8 p1),(4,.acc 2 3 1 ((y3++([y4]):List Int).map Qab)),(8,Zfl p0),(9,I (p0.Elements.length:Int)),(10,I (w64 (y4+1)))] [2] [.tok] hq (pw (pc (.rn (Qcv rfl (Qcf Qar _))) (pqi (pw (pw pn))))) (qc .tok qn)) (ih (y3++([y4]),w64 (y4+1)) h)
  exact Qah<|bln<|thn<|wxz1<|thn<|arm (mto (n:=25) [(1,K .u8 p1),(4,Q92 y3),(8,Zfl p0),(9,I (p0.Elements.length:Int)),(10,I (w64 (y4+1)))] [0] [.tok] hq (pw (pc (.rn (Qcv rfl (Qcf Qar _))) (pqi (pw (pw pn))))) (qc .tok qn)) (ih (y3,w64 (y4+1)) h)
 exact Qax<|Qan<|Qan<|Qaw rfl<|thn<|⟨y3,h,mto (n:=25) [(4,Q92 y3)] [0] [.tok] hq (pc (.rn (Qcv rfl (Qcf Qar _))) pn) (qc .tok qn)⟩
def Qf7 (N:Nat) (p0:Qaa):Option Bool:=(Qe4 N p0.Mass 0 1000000).bind fun x2=>bif x2 then (Qe4 N p0.Heat 0 (w64 (4000*p0.Mass))).bind fun x5=>bif x5 then (Qe4 N p0.Silica 0 (w64 (10000*p0.Mass))).bind fun x8=>bif x8 then (Qe4 N p0.Gas 0 1000000000).bind fun x11=>some x11 else some false else some false else some false
def Zqk (p0:Qaa) (x2:Bool):List (Nat×Rec):=[(2,rp [fu 110,(.tmp 4,I p0.Mass),ci 0,ci 1000000] (B x2))]
def Zqj p0 x2 (x5:Bool):=hcat (Zqk p0 x2) [(3,rp [(.tmp 5,B x2)] (B true)),(9,rp [(.tmp 6,B true),fu 110,(.tmp 8,I p0.Heat),ci 0,(.tmp 11,I (w64 (4000*p0.Mass)))] (B x5))]
def Zqi p0 x2 x5 (x8:Bool):=hcat (Zqj p0 x2 x5) [(11,rp [(.tmp 13,B x5)] (B true)),(17,rp [(.tmp 14,B true),fu 110,(.tmp 16,I p0.Silica),ci 0,(.tmp 19,I (w64 (10000*p0.Mass)))] (B x8))]
def Qke (N:Nat) (p0:Qaa) (r:Bool) (h:Qf7 N p0=some r):Spec prog 97 [.agg (Qag p0)] [] (B r) []:=by
 refine sA func97 0 fun _ _ _ hq hd0=>?_
 unfold Qf7 at h
 refine wxz<|bnq h fun x2 f1 h=>hpre (A:=(Zqk p0 x2)) ⟨apv Qmr (Qe9 N p0.Mass 0 1000000 _ f1) (nlcc (nlc nll nl0)) nll,tv⟩ fun q1_=>?_
 refine bfe h (fun hb3 h=>?_) fun hb3 h=>?_
 ·refine bnq h fun x5 f4 h=>hpre (A:=(Zqj p0 x2 x5)) (hap q1_ ⟨asb hb3 (amv rfl),ag_ (apv Qmr (Qe9 N p0.Heat 0 (w64 (4000*p0.Mass)) _ f4) (nlcc (nlc nll nl0)) nll),tv⟩) fun q2_=>?_
  refine bfe h (fun hb6 h=>?_) fun hb6 h=>?_
  ·refine bnq h fun x8 f7 h=>hpre (A:=(Zqi p0 x2 x5 x8)) (hap q2_ ⟨asb hb6 (amv rfl),ag_ (apv Qmr (Qe9 N p0.Silica 0 (w64 (10000*p0.Mass)) _ f7) (nlcc (nlc nll nl0)) nll),tv⟩) fun q3_=>?_
   refine bfe h (fun hb9 h=>?_) fun hb9 h=>?_
   ·refine bnq h fun x11 f10 h=>?_
    exact wx tbk (hcat (Zqi p0 x2 x5 x8) [(19,rp [(.tmp 21,B x8)] (B true)),(22,rp [(.tmp 22,B true),fu 110,(.tmp 24,I p0.Gas),ci 0,ci 1000000000] (B x11))]) (hap q3_ ⟨asb hb9 (amv rfl),ag_ (apv Qmr (Qe9 N p0.Gas 0 1000000000 _ f10) (nlcc (nlc nll nl0)) nll),tv⟩)<|Qad<|frb h
   exact wx tbk (hcat (Zqi p0 x2 x5 x8) [(19,rp [(.tmp 21,B x8)] (B false))]) (hap q3_ ⟨asb hb9 (amv rfl),tv⟩)<|Qad<|frb h
  exact wx tbk (hcat (Zqj p0 x2 x5) [(11,rp [(.tmp 13,B x5)] (B false))]) (hap q2_ ⟨asb hb6 (amv rfl),tv⟩)<|Qad<|frb h
 exact wx tbk (hcat (Zqk p0 x2) [(3,rp [(.tmp 5,B x2)] (B false))]) (hap q1_ ⟨asb hb3 (amv rfl),tv⟩)<|Qad<|frb h
def Qi0 (N:Nat) (p0:Qaa):Option Int:=(Qf7 N p0).bind fun x2=>bif !x2 then some 1 else some 0
def Qrr (N:Nat) (p0:Qaa) (r:Int) (h:Qi0 N p0=some r):Spec prog 81 [.agg (Qag p0)] [] (I r) []:=by
 refine sA func81 0 fun _ _ _ hq hd0=>?_
 unfold Qi0 at h
 refine wxz<|wsq<|bnq h fun x2 f1 h=>wx tbk [(1,rp _ _)] ⟨apw Q8r (Qke N p0 _ f1),tv⟩<|bfq h (fun c3 h=>?_) fun c3 h=>?_
 ·refine wxz<|Qad<|Qac ?_
  obtain rfl:=osi h
  exact fend ⟨[I 1],⟨rot,tv⟩,rfl⟩ nll
 refine Qah<|thn<|wxz<|Qad ?_
 obtain rfl:=osi h
 exact fend ⟨[I 0],⟨rot,tv⟩,rfl⟩ nll
def Qmh (N:Nat) (p0:Qaa):Option Bool:=(Qi0 N p0).bind fun x2=>some (x2==0)
def Qua (N:Nat) (p0:Qaa) (r:Bool) (h:Qmh N p0=some r):Spec prog 80 [.agg (Qag p0)] [] (B r) []:=by
 refine sA func80 0 fun _ _ _ hq hd0=>?_
 unfold Qmh at h
 refine wxz<|bnq h fun x2 f1 h=>?_
 refine wx tbk [(1,rp _ _)] ⟨apw Zso (Qrr N p0 _ f1),tv⟩<|Qad ?_
 obtain rfl:=osi h
 exact fend ⟨[B (x2==0)],⟨rot,tv⟩,rfl⟩ nll
def Qfr (N:Nat) (p0:Qaa):Option Bool:=(Qmh N p0).bind fun x3=>some !x3
abbrev Zxj (p0:Qaa):AV:=.agg [I p0.Mass,I p0.Heat,I p0.Silica,I p0.Gas]
abbrev Zla:Slot:=.own 1 [[.fn (.func 80) [] []]]
def Qn2 (N:Nat) (p0:Qaa) (r:Bool) (h:Qfr N p0=some r):Spec prog 96 [Zxj p0,.ref 0 1 (0) 0] [Zla] (B r) [Zla]:=by
 refine sF func96 1 fun _ _ _ hq hd0=>?_
 unfold Qfr at h
 refine wxz<|bnq h fun x3 f2 h=>wx tbk [(2,rp _ _)] ⟨apw Zsp (Qua N p0 _ f2),tv⟩ ?_
 refine wmr (mto (n:=8) (l':=[(3,B !x3)]) (own':=[Zla]) [(3,B !x3)] [0] [Zla] hq (pw pn) (qbi qn))<|Qad ?_
 obtain rfl:=osi h
 exact⟨_,Mor.rfl,fio [B !x3] ⟨rot,tv⟩⟩
def Qbr (N:Nat) (p0:List Qaa) (k2:Unit->Option Int):Nat->Int->Option Int
 |0,_=>none
 |n5+1,y3=>bif decide (y3<(p0.length:Int)) then (getI p0 y3).bind fun x7=>(Qfr N x7).bind fun x12=>bif x12 then some y3 else Qbr N p0 k2 n5 (w64 (y3+1)) else k2 ()
def Qdh (N:Nat) (p0:List Qaa):Option Int:=Qb0 (fun _=>some (-1)) fun k2:Unit->Option Int=>Qbr N p0 k2 N 0
abbrev Zfk (p0:List Qaa):AV:=.dat 4 (p0.map Qag)
abbrev Zfj:AV:=.fn (.func 96) [] [.ref 0 1 (0) 0]
abbrev Qtp:Slot:=.own 1 [[.fn (.func 80) [] []]]
abbrev Zxk (x7:Qaa):AV:=.agg [I x7.Mass,I x7.Heat,I x7.Silica,I x7.Gas]
def Qi1 (N:Nat) (p0:List Qaa) (r:Int) (h:Qdh N p0=some r):Spec prog 109 [Zfk p0,Zfj] [Qtp] (I r) [Qtp]:=by
 refine sF func109 1 fun _ _ _ hq hd0=>?_
 unfold Qdh at h
 refine wxz<|wjq h (fun _=>⟨mk 19 [],[Qtp]⟩) (fun t h=>?_) fun k2 h=>?_
 ·refine wxz<|wmr (mto (n:=19) (l':=[(4,I (-1))]) (own':=[Qtp]) [(4,I (-1))] [0] [Qtp] hq (pw pn) (qbi qn))<|Qad ?_
  obtain rfl:=osi h
  exact⟨_,Mor.rfl,fio [I (-1)] ⟨rot,tv⟩⟩
 refine wx tbk [(1,rp _ _)] ⟨alq 4 Qag p0 Xa4,tv⟩<|Qaf ?_
 refine wmr (mto (n:=19) (l':=[(0,Zfk p0),(1,Zfj),(7,I (p0.length:Int)),(8,I 0)]) (own':=[Qtp]) [(0,Zfk p0),(1,Zfj),(7,I (p0.length:Int)),(8,I 0)] [0] [Qtp] hq (pqi (pc (.rn (Qby rn0 (rnc (rqr rfl) rn0))) (pw (pw pn)))) (qbi qn)) ?_
 refine Qbf (τ:=Int) (fun n t=>Qbr N p0 k2 n t=some r) (fun y3=>⟨mk 19 [(0,Zfk p0),(1,Zfj),(7,I (p0.length:Int)),(8,I y3)],[Qtp]⟩) (fun t h=>by rw[Qbr] at h;cases h) (fun n5 ih y3 h=>?_) N (0) h
 rw[Qbr] at h
 refine wxz<|wsq<|bfq h (fun c6 h=>?_) fun c6 h=>?_
 ·refine Qah<|thn<|wsq<|Qaf<|wxz ?_
  refine bgq h fun x7 i9 j10 h=>bnq h fun x12 f11 h=>wx tbk [(3,rp _ _),(5,⟨_,_,_,_,false⟩)] ⟨aiq Xa4 ti40 Qag i9 j10,Qd5 (first:=[]) (cap:=[.ref 0 1 0 0]) (vs:=[Zxk x7]) (σr:=[Qtp]) (σr':=[Qtp]) (res':=(B x12)) [0] rfl Zsd (Qn2 N x7 _ f11) rfl (Qct (rnc pli (rnc (Qa2 rfl) rn0))) (sfn Qai) (sfn Qai) pli rfl rfl rfl,tv⟩<|bfq h (fun c13 h=>?_) fun c13 h=>?_
  ·refine wxz ?_
   refine wmr (mto (n:=19) (l':=[(4,I y3)]) (own':=[Qtp]) [(4,I y3)] [0] [Qtp] hq (pw pn) (qbi qn))<|Qad<|Qal<|Qac<|Qac<|Qal<|Qac ?_
   obtain rfl:=osi h
   exact⟨_,Mor.rfl,fio [I y3] ⟨rot,tv⟩⟩
  exact Qah<|bln<|thn<|wxz1<|thn<|arm (mto (n:=19) [(0,Zfk p0),(1,Zfj),(7,I (p0.length:Int)),(8,I (w64 (y3+1)))] [0] [Qtp] hq (pqi (pc (.rn (Qby rn0 (rnc (rqr rfl) rn0))) (pw (pw pn)))) (qbi qn)) (ih (w64 (y3+1)) h)
 exact Qax<|Qan<|Qan<|Qaw rfl<|thn<|⟨(),h,mto (n:=19) [] [0] [Qtp] hq pn (qbi qn)⟩
def Qck (N:Nat) (p0:List Qaa):Option Bool:=(Qdh N p0).bind fun x3=>some (decide (x3>=0))
abbrev Zu0:AV:=.fn (.func 96) [] [.ref 0 1 (0) 0]
abbrev Zck:Slot:=.own 1 [[.fn (.func 80) [] []]]
def Qii (N:Nat) (p0:List Qaa) (r:Bool) (h:Qck N p0=some r):Spec prog 95 [.dat 4 (p0.map Qag),Zu0] [Zck] (B r) [Zck]:=by
 refine sF func95 1 fun _ _ _ hq hd0=>?_
 unfold Qck at h
 refine wxz<|bnq h fun x3 f2 h=>wx tbk [(2,⟨_,_,_,_,false⟩)] ⟨acq [.dat 4 (p0.map Qag),Zu0] [Zck] [Zck] (I x3) [0] Znh (Qi1 N p0 _ f2) (Qct (rnc (pld Qaq) (rnc (Qby rn0 (rnc (Qa2 rfl) rn0)) rn0))) (sfn Qai) (sfn Qai) pli,tv⟩ ?_
 refine wmr (mto (n:=9) (l':=[(4,B (decide (x3>=0)))]) (own':=[Zck]) [(4,B (decide (x3>=0)))] [0] [Zck] hq (pw pn) (qbi qn))<|Qad ?_
 obtain rfl:=osi h
 exact⟨_,Mor.rfl,fio [B (decide (x3>=0))] ⟨rot,tv⟩⟩
def Qhq (N:Nat) (p0:List Qaa):Option Bool:=(Qck N p0).bind fun x2=>some !x2
abbrev Zu1:AV:=.fn (.func 96) [] [.ref 0 1 (0) 0]
abbrev Zu2:Slot:=.own 1 [[.fn (.func 80) [] []]]
def Qor (N:Nat) (p0:List Qaa) (r:Bool) (h:Qhq N p0=some r):Spec prog 79 [.dat 4 (p0.map Qag),.fn (.func 80) [] []] [] (B r) []:=by
 refine sA func79 0 fun _ _ _ hq hd0=>?_
 unfold Qhq at h
 refine wxz<|bnq h fun x2 f1 h=>?_
 refine wx tbk [(1,rp [(.tmp 3,.ref 0 1 0 0)] Zu1),(2,⟨_,_,_,_,false⟩)] ⟨Qfp (fs:=[]) (cs:=[.ref 0 1 0 0]) rfl rfl rfl rfl,acq [.dat 4 (p0.map Qag),Zu1] [Zu2] [Zu2] (B x2) [0] Zse (Qii N p0 _ f1) (Qct (rnc (pld Qaq) (rnc (Qby rn0 (rnc (Qa2 rfl) rn0)) rn0))) (sfn Qai) (sfn Qai) pli,tv⟩<|Qad ?_
 obtain rfl:=osi h
 exact fend ⟨[B !x2],⟨rot,tv⟩,rfl⟩ nll
def Qg8 (N:Nat) (p0:List Qaa) (k5:Int×Int×Int×Int->Option Qaa):Nat->Int->Int->Int->Int->Int->Option Qaa
 |0,_,_,_,_,_=>none
 |n16+1,y6,y7,y8,y9,y10=>bif decide (y6<(p0.length:Int)) then (getI p0 y6).bind fun x18=>Qg8 N p0 k5 n16 (w64 (y6+1)) (w64 (y7+x18.Mass)) (w64 (y8+x18.Heat)) (w64 (y9+x18.Silica)) (w64 (y10+x18.Gas)) else k5 (y7,y8,y9,y10)
def Qgt (N:Nat) (p0:List Qaa):Option Qaa:=Qb0 (fun ⟨y1,y2,y3,y4⟩=>some (⟨y1,y2,y3,y4⟩:Qaa)) fun k5:Int×Int×Int×Int->Option Qaa=>Qg8 N p0 k5 N 0 0 0 0 0
abbrev Zk9 (p0:List Qaa):AV:=.dat 4 (p0.map Qag)
abbrev Zuz:Slot:=.own 4 [[I (0),I (0),I (0),I (0)]]
def Qlj (N:Nat) (p0:List Qaa) (r:Qaa) (h:Qgt N p0=some r):Spec prog 23 [.dat 4 (p0.map Qag)] [] (.agg (Qag r)) []:=by
 refine sA func23 0 fun _ _ _ hq hd0=>?_
 unfold Qgt at h
 refine wxz<|wjq h (fun ⟨y1,y2,y3,y4⟩=>⟨mk 34 [(2,.ref 0 4 0 0)],[.own 4 [[I y1,I y2,I y3,I y4]]]⟩) (fun t h=>?_) fun k5 h=>?_
 ·obtain⟨y1,y2,y3,y4⟩:=t
  refine wxz<|Qad ?_
  obtain rfl:=osi h
  exact fie [.agg [I y1,I y2,I y3,I y4]] ⟨Qbv (n:=0) (m:=4) (j:=0) (i:=0) (xs:=[[I y1,I y2,I y3,I y4]]) (by kernel_rfl) (by kernel_rfl) ti40 (by decide) rfl (nle rfl) rfl,tv⟩
 refine wx tbk [(1,rp _ _)] ⟨alq 4 Qag p0 Xa4,tv⟩<|Qaf ?_
 refine wmr (mto (n:=34) (l':=[(2,.ref 0 4 0 0),(5,Zk9 p0),(6,I (p0.length:Int)),(7,I 0)]) (own':=[Zuz]) [(2,.ref 0 4 0 0),(5,Zk9 p0),(6,I (p0.length:Int)),(7,I 0)] [0] [Zuz] hq (prr (pqi (pw (pw pn)))) (qbi qn)) ?_
 refine Qbf (τ:=Int×Int×Int×Int×Int) (fun n t=>Qg8 N p0 k5 n t.1 t.2.1 t.2.2.1 t.2.2.2.1 t.2.2.2.2=some r) (fun ⟨y6,y7,y8,y9,y10⟩=>⟨mk 34 [(2,.ref 0 4 0 0),(5,Zk9 p0),(6,I (p0.length:Int)),(7,I y6)],[.own 4 [[I y7,I y8,I y9,I y10]]]⟩) (fun t h=>by rw[Qg8] at h;cases h) (fun n16 ih t h=>?_) N (0,0,0,0,0) h
 obtain⟨y6,y7,y8,y9,y10⟩:=t
 rw[Qg8] at h
 refine wxz<|wsq<|bfq h (fun c17 h=>?_) fun c17 h=>?_
 ·refine Qah<|thn<|wsq<|Qaf ?_
  exact bgq h fun x18 i20 j21 h=>wx tbk [(0,rp _ _)] ⟨aiq Xa4 ti40 Qag i20 j21,tv⟩<|wx1 tbk [(20,rp _ _)] ⟨Qbt (vs:=[I (w64 (y7+x18.Mass)),I (w64 (y8+x18.Heat)),I (w64 (y9+x18.Silica)),I (w64 (y10+x18.Gas))]) rfl ts40 tz40 rfl (by rfl) rfl,tv⟩<|bln<|thn<|wxz1<|thn<|arm (mto (n:=34) [(2,.ref 0 4 0 0),(5,Zk9 p0),(6,I (p0.length:Int)),(7,I (w64 (y6+1)))] [0] [.own 4 [[I (w64 (y7+x18.Mass)),I (w64 (y8+x18.Heat)),I (w64 (y9+x18.Silica)),I (w64 (y10+x18.Gas))]]] hq (prr (pqi (pw (pw pn)))) (qbi qn)) (ih (w64 (y6+1),w64 (y7+x18.Mass),w64 (y8+x18.Heat),w64 (y9+x18.Silica),w64 (y10+x18.Gas)) h)
 exact Qax<|Qan<|Qan<|Qaw rfl<|thn<|⟨(y7,y8,y9,y10),h,mto (n:=34) [(2,.ref 0 4 0 0)] [0] [.own 4 [[I y7,I y8,I y9,I y10]]] hq (prr pn) (qbi qn)⟩
def Qmi (N:Nat) (p0:GNet) (p1:List Qaa):Option Int:=Qb0 (fun _=>(Qgt N p1).bind fun x3=>bif decide (x3.Mass>1000000) then some 3 else bif decide (x3.Gas>1000000000) then some 3 else some 0) fun k1:Unit->Option Int=>(Qlx N p0 1).bind fun x7=>bif ((p1.length:Int) != (x7.length:Int)) then some 1 else (Qhq N p1).bind fun x10=>bif !x10 then some 1 else k1 ()
abbrev Zfm (p1:List Qaa):AV:=.dat 4 (p1.map Qag)
abbrev Zxm (p0:GNet):AV:=.dat 5 (p0.Table.map Qat)
abbrev Zxl (p0:GNet):AV:=.dat 7 (p0.Elements.map Qaj)
def Zql (p1:List Qaa) (p0:GNet) (x7:List Int):List (Nat×Rec):=[(1,rp [(.tmp 6,Zfm p1)] (I (p1.length:Int))),(3,rp [fu 78,(.tmp 8,.agg [Zxm p0,Zxl p0]),(.const (.int .u8 1),K .u8 (1))] (.dat 1 (x7.map Qab))),(4,rp [(.tmp 9,.dat 1 (x7.map Qab))] (I (x7.length:Int)))]
def Qwy (N:Nat) (p0:GNet) (p1:List Qaa) (r:Int) (h:Qmi N p0 p1=some r):Spec prog 61 [.agg (Qpt p0),.dat 4 (p1.map Qag)] [] (I r) []:=by
 refine sA func61 0 fun _ _ _ hq hd0=>?_
 unfold Qmi at h
 refine wxz<|wjq h (fun _=>⟨mk 27 [(1,Zfm p1)],[]⟩) (fun t h=>?_) fun k1 h=>?_
 ·refine wsq<|bnq h fun x3 f2 h=>wx tbk [(1,rp _ _)] ⟨apw Qzc (Qlj N p1 _ f2),tv⟩<|bfe h (fun hb4 h=>?_) fun hb4 h=>?_
  ·refine wx tbk [(3,rp [(.tmp 21,B (decide (x3.Mass>1000000)))] (B true))] ⟨asb hb4 (amv rfl),tv⟩<|wtr<|wxz<|Qad<|Qac ?_
   obtain rfl:=osi h
   exact fend ⟨[I 3],⟨rot,tv⟩,rfl⟩ nll
  refine wx tbk [(3,rp [(.tmp 21,B (decide (x3.Mass>1000000)))] (B false))] ⟨asb hb4 (amv rfl),tv⟩<|bfq h (fun c5 h=>?_) fun c5 h=>?_
  ·refine wxz<|Qad<|Qac ?_
   obtain rfl:=osi h
   exact fend ⟨[I 3],⟨rot,tv⟩,rfl⟩ nll
  refine Qah<|thn<|wxz<|Qad ?_
  obtain rfl:=osi h
  exact fend ⟨[I 0],⟨rot,tv⟩,rfl⟩ nll
 refine bnq h fun x7 f6 h=>hpre (A:=(Zql p1 p0 x7)) ⟨alq 4 Qag p1 Xa4,apv Q8t (Qot N p0 1 _ f6) (nlc (NLt.agg _ (nlc (nld Qcg _) (nlc (nld Qau _) nl0))) (nlc nll nl0)) (nld Qar _),alq 1 Qab x7 Xag,tv⟩ fun q1_=>?_
 refine bfe h (fun hb8 h=>?_) fun hb8 h=>?_
 ·refine wx tbk (hcat (Zql p1 p0 x7) [(6,rp [(.tmp 11,B ((p1.length:Int) != (x7.length:Int)))] (B true))]) (hap q1_ ⟨asb hb8 (amv rfl),tv⟩)<|wtr<|wxz<|Qad<|Qac ?_
  obtain rfl:=osi h
  exact fend ⟨[I 1],⟨rot,tv⟩,rfl⟩ nll
 refine bnq h fun x10 f9 h=>wx tbk (hcat (Zql p1 p0 x7) [(6,rp [(.tmp 11,B ((p1.length:Int) != (x7.length:Int)))] (B false)),(8,rp [(.tmp 12,B false),fu 79,(.tmp 13,Zfm p1),fu 80] (B x10))]) (hap q1_ ⟨asb hb8 (amv rfl),ag_ (acq [Zfm p1,.fn (.func 80) [] []] [] [] (B x10) [] Zsq (Qor N p1 _ f9) pli Qai Qai pli),tv⟩)<|bfq h (fun c11 h=>?_) fun c11 h=>?_
 ·refine wxz<|Qad<|Qac ?_
  obtain rfl:=osi h
  exact fend ⟨[I 1],⟨rot,tv⟩,rfl⟩ nll
 exact Qah<|thn<|⟨(),h,mto (n:=27) [(1,Zfm p1)] [] [] hq (pqi pn) qn⟩
def Qoq (N:Nat) (p0:GNet) (p1:List Int) (p2:List Qaa):Option Int:=(Qnu N p0 p1).bind fun x2=>bif (x2 != 0) then some x2 else (Qmi N p0 p2).bind fun x5=>some x5
def Qz7 (N:Nat) (p0:GNet) (p1:List Int) (p2:List Qaa) (r:Int) (h:Qoq N p0 p1 p2=some r):Spec prog 40 [.agg (Qpt p0),.dat 1 (p1.map Qab),.dat 4 (p2.map Qag)] [] (I r) []:=by
 refine sA func40 0 fun _ _ _ hq hd0=>?_
 unfold Qoq at h
 refine wxz<|wsq<|bnq h fun x2 f1 h=>wx tbk [(2,rp _ _)] ⟨apw Zs1 (Qym N p0 p1 _ f1),tv⟩<|wxz<|bfq h (fun c3 h=>?_) fun c3 h=>?_
 ·refine wxz<|Qad<|Qac ?_
  obtain rfl:=osi h
  exact fend ⟨[I x2],⟨rot,tv⟩,rfl⟩ nll
 refine Qah<|thn ?_
 refine bnq h fun x5 f4 h=>?_
 refine wx tbk [(2,rp _ _)] ⟨apw Zs0 (Qwy N p0 p2 _ f4),tv⟩<|Qad ?_
 obtain rfl:=osi h
 exact fend ⟨[I x5],⟨rot,tv⟩,rfl⟩ nll
def Qm6 (N:Nat) (p0:Int):Option Bool:=(Qe4 N p0 0 1000).bind fun x2=>some x2
def Qva (N:Nat) (p0:Int) (r:Bool) (h:Qm6 N p0=some r):Spec prog 120 [I p0] [] (B r) []:=by
 refine sA func120 0 fun _ _ _ hq hd0=>?_
 unfold Qm6 at h
 refine wxz<|bnq h fun x2 f1 h=>?_
 exact wx tbk [(1,rp _ _)] ⟨apw Qmr (Qe9 N p0 0 1000 _ f1),tv⟩<|Qad<|frb h
def Qiz (N:Nat) (p0:Int):Option Bool:=(Qm6 N p0).bind fun x3=>some !x3
abbrev Zk6:Slot:=.own 1 [[.fn (.func 120) [] []]]
def Qrq (N:Nat) (p0:Int) (r:Bool) (h:Qiz N p0=some r):Spec prog 128 [I p0,.ref 0 1 (0) 0] [Zk6] (B r) [Zk6]:=by
 refine sF func128 1 fun _ _ _ hq hd0=>?_
 unfold Qiz at h
 refine wxz<|bnq h fun x3 f2 h=>wx tbk [(2,rp _ _)] ⟨apw Zm8 (Qva N p0 _ f2),tv⟩ ?_
 refine wmr (mto (n:=8) (l':=[(3,B !x3)]) (own':=[Zk6]) [(3,B !x3)] [0] [Zk6] hq (pw pn) (qbi qn))<|Qad ?_
 obtain rfl:=osi h
 exact⟨_,Mor.rfl,fio [B !x3] ⟨rot,tv⟩⟩
def Qdk (N:Nat) (p0:List Int) (k2:Unit->Option Int):Nat->Int->Option Int
 |0,_=>none
 |n5+1,y3=>bif decide (y3<(p0.length:Int)) then (getI p0 y3).bind fun x7=>(Qiz N x7).bind fun x12=>bif x12 then some y3 else Qdk N p0 k2 n5 (w64 (y3+1)) else k2 ()
def Qgp (N:Nat) (p0:List Int):Option Int:=Qb0 (fun _=>some (-1)) fun k2:Unit->Option Int=>Qdk N p0 k2 N 0
abbrev Zfe:AV:=.fn (.func 128) [] [.ref 0 1 (0) 0]
abbrev Qto:Slot:=.own 1 [[.fn (.func 120) [] []]]
def Qno (N:Nat) (p0:List Int) (r:Int) (h:Qgp N p0=some r):Spec prog 72 [.dat 1 (p0.map Qab),Zfe] [Qto] (I r) [Qto]:=by
 refine sF Xft 1 fun _ _ _ hq hd0=>?_
 unfold Qgp at h
 refine wxz<|wjq h (fun _=>⟨mk 19 [],[Qto]⟩) (fun t h=>?_) fun k2 h=>?_
 ·refine wxz<|wmr (mto (n:=19) (l':=[(4,I (-1))]) (own':=[Qto]) [(4,I (-1))] [0] [Qto] hq (pw pn) (qbi qn))<|Qad ?_
  obtain rfl:=osi h
  exact⟨_,Mor.rfl,fio [I (-1)] ⟨rot,tv⟩⟩
 refine wx tbk [(1,rp _ _)] ⟨alq 1 Qab p0 Xag,tv⟩<|Qaf ?_
 refine wmr (mto (n:=19) (l':=[(0,.dat 1 (p0.map Qab)),(1,Zfe),(7,I (p0.length:Int)),(8,I 0)]) (own':=[Qto]) [(0,.dat 1 (p0.map Qab)),(1,Zfe),(7,I (p0.length:Int)),(8,I 0)] [0] [Qto] hq (pqi (pc (.rn (Qby rn0 (rnc (rqr rfl) rn0))) (pw (pw pn)))) (qbi qn)) ?_
 refine Qbf (τ:=Int) (fun n t=>Qdk N p0 k2 n t=some r) (fun y3=>⟨mk 19 [(0,.dat 1 (p0.map Qab)),(1,Zfe),(7,I (p0.length:Int)),(8,I y3)],[Qto]⟩) (fun t h=>by rw[Qdk] at h;cases h) (fun n5 ih y3 h=>?_) N (0) h
 rw[Qdk] at h
 refine wxz<|wsq<|bfq h (fun c6 h=>?_) fun c6 h=>?_
 ·refine Qah<|thn<|wsq<|Qaf<|wxz ?_
  refine bgq h fun x7 i9 j10 h=>bnq h fun x12 f11 h=>wx tbk [(3,rp _ _),(5,⟨_,_,_,_,false⟩)] ⟨aiq Xag ti3 Qab i9 j10,Qd5 (first:=[]) (cap:=[.ref 0 1 0 0]) (vs:=[I x7]) (σr:=[Qto]) (σr':=[Qto]) (res':=(B x12)) [0] rfl Zm1 (Qrq N x7 _ f11) rfl (Qct (rnc pli (rnc (Qa2 rfl) rn0))) (sfn Qai) (sfn Qai) pli rfl rfl rfl,tv⟩<|bfq h (fun c13 h=>?_) fun c13 h=>?_
  ·refine wxz ?_
   refine wmr (mto (n:=19) (l':=[(4,I y3)]) (own':=[Qto]) [(4,I y3)] [0] [Qto] hq (pw pn) (qbi qn))<|Qad<|Qal<|Qac<|Qac<|Qal<|Qac ?_
   obtain rfl:=osi h
   exact⟨_,Mor.rfl,fio [I y3] ⟨rot,tv⟩⟩
  exact Qah<|bln<|thn<|wxz1<|thn<|arm (mto (n:=19) [(0,.dat 1 (p0.map Qab)),(1,Zfe),(7,I (p0.length:Int)),(8,I (w64 (y3+1)))] [0] [Qto] hq (pqi (pc (.rn (Qby rn0 (rnc (rqr rfl) rn0))) (pw (pw pn)))) (qbi qn)) (ih (w64 (y3+1)) h)
 exact Qax<|Qan<|Qan<|Qaw rfl<|thn<|⟨(),h,mto (n:=19) [] [0] [Qto] hq pn (qbi qn)⟩
def Qe0 (N:Nat) (p0:List Int):Option Bool:=(Qgp N p0).bind fun x3=>some (decide (x3>=0))
abbrev Zuv:AV:=.fn (.func 128) [] [.ref 0 1 (0) 0]
abbrev Zcj:Slot:=.own 1 [[.fn (.func 120) [] []]]
def Ql9 (N:Nat) (p0:List Int) (r:Bool) (h:Qe0 N p0=some r):Spec prog 51 [.dat 1 (p0.map Qab),Zuv] [Zcj] (B r) [Zcj]:=by
 refine sF Xfu 1 fun _ _ _ hq hd0=>?_
 unfold Qe0 at h
 refine wxz<|bnq h fun x3 f2 h=>wx tbk [(2,⟨_,_,_,_,false⟩)] ⟨acq [.dat 1 (p0.map Qab),Zuv] [Zcj] [Zcj] (I x3) [0] Qvr (Qno N p0 _ f2) (Qct (rnc (pld Qar) (rnc (Qby rn0 (rnc (Qa2 rfl) rn0)) rn0))) (sfn Qai) (sfn Qai) pli,tv⟩ ?_
 refine wmr (mto (n:=9) (l':=[(4,B (decide (x3>=0)))]) (own':=[Zcj]) [(4,B (decide (x3>=0)))] [0] [Zcj] hq (pw pn) (qbi qn))<|Qad ?_
 obtain rfl:=osi h
 exact⟨_,Mor.rfl,fio [B (decide (x3>=0))] ⟨rot,tv⟩⟩
def Qj5 (N:Nat) (p0:List Int):Option Bool:=(Qe0 N p0).bind fun x2=>some !x2
abbrev Zuw:AV:=.fn (.func 128) [] [.ref 0 1 (0) 0]
abbrev Zux:Slot:=.own 1 [[.fn (.func 120) [] []]]
def Qsz (N:Nat) (p0:List Int) (r:Bool) (h:Qj5 N p0=some r):Spec prog 121 [.dat 1 (p0.map Qab),.fn (.func 120) [] []] [] (B r) []:=by
 refine sA func121 0 fun _ _ _ hq hd0=>?_
 unfold Qj5 at h
 refine wxz<|bnq h fun x2 f1 h=>?_
 refine wx tbk [(1,rp [(.tmp 3,.ref 0 1 0 0)] Zuw),(2,⟨_,_,_,_,false⟩)] ⟨Qfp (fs:=[]) (cs:=[.ref 0 1 0 0]) rfl rfl rfl rfl,acq [.dat 1 (p0.map Qab),Zuw] [Zux] [Zux] (B x2) [0] Qvs (Ql9 N p0 _ f1) (Qct (rnc (pld Qar) (rnc (Qby rn0 (rnc (Qa2 rfl) rn0)) rn0))) (sfn Qai) (sfn Qai) pli,tv⟩<|Qad ?_
 obtain rfl:=osi h
 exact fend ⟨[B !x2],⟨rot,tv⟩,rfl⟩ nll
def Qm5 (_N:Nat) (p0:Int):Option Bool:=some (decide (p0>0))
def Qu9 (N:Nat) (p0:Int) (r:Bool) (h:Qm5 N p0=some r):Spec prog 122 [I p0] [] (B r) []:=by
 refine sA func122 0 fun _ _ _ hq hd0=>?_
 unfold Qm5 at h
 refine wxz<|wxz<|Qad ?_
 obtain rfl:=osi h
 exact fend ⟨[B (decide (p0>0))],⟨rot,tv⟩,rfl⟩ nll
def Qdj (N:Nat) (p0:List Int) (k1:Unit->Option Int):Nat->Int->Option Int
 |0,_=>none
 |n4+1,y2=>bif decide (y2<(p0.length:Int)) then (getI p0 y2).bind fun x6=>(Qm5 N x6).bind fun x11=>bif x11 then some y2 else Qdj N p0 k1 n4 (w64 (y2+1)) else k1 ()
def Qgo (N:Nat) (p0:List Int):Option Int:=Qb0 (fun _=>some (-1)) fun k1:Unit->Option Int=>Qdj N p0 k1 N 0
def Qnn (N:Nat) (p0:List Int) (r:Int) (h:Qgo N p0=some r):Spec prog 72 [.dat 1 (p0.map Qab),.fn (.func 122) [] []] [] (I r) []:=by
 refine sA Xft 0 fun _ _ _ hq hd0=>?_
 unfold Qgo at h
 refine wxz<|wjq h (fun _=>⟨mk 19 [],[]⟩) (fun t h=>?_) fun k1 h=>?_
 ·refine wxz<|Qad ?_
  obtain rfl:=osi h
  exact fend ⟨[I (-1)],⟨rot,tv⟩,rfl⟩ nll
 refine wx tbk [(1,rp _ _)] ⟨alq 1 Qab p0 Xag,tv⟩<|Qaf ?_
 refine wmr (mto (n:=19) (l':=[(0,.dat 1 (p0.map Qab)),(1,.fn (.func 122) [] []),(7,I (p0.length:Int)),(8,I 0)]) (own':=[]) [(0,.dat 1 (p0.map Qab)),(1,.fn (.func 122) [] []),(7,I (p0.length:Int)),(8,I 0)] [] [] hq (pqi (pqi (pw (pw pn)))) qn) ?_
 refine Qbf (τ:=Int) (fun n t=>Qdj N p0 k1 n t=some r) (fun y2=>⟨mk 19 [(0,.dat 1 (p0.map Qab)),(1,.fn (.func 122) [] []),(7,I (p0.length:Int)),(8,I y2)],[]⟩) (fun t h=>by rw[Qdj] at h;cases h) (fun n4 ih y2 h=>?_) N (0) h
 rw[Qdj] at h
 refine wxz<|wsq<|bfq h (fun c5 h=>?_) fun c5 h=>?_
 ·refine Qah<|thn<|wsq<|Qaf<|wxz ?_
  refine bgq h fun x6 i8 j9 h=>bnq h fun x11 f10 h=>wx tbk [(3,rp _ _),(5,rp _ _)] ⟨aiq Xag ti3 Qab i8 j9,apw Zm6 (Qu9 N x6 _ f10),tv⟩<|bfq h (fun c12 h=>?_) fun c12 h=>?_
  ·refine wxz<|Qad<|Qal<|Qac<|Qac<|Qal<|Qac ?_
   obtain rfl:=osi h
   exact fend ⟨[I y2],⟨rot,tv⟩,rfl⟩ nll
  exact Qah<|bln<|thn<|wxz1<|thn<|arm (mto (n:=19) [(0,.dat 1 (p0.map Qab)),(1,.fn (.func 122) [] []),(7,I (p0.length:Int)),(8,I (w64 (y2+1)))] [] [] hq (pqi (pqi (pw (pw pn)))) qn) (ih (w64 (y2+1)) h)
 exact Qax<|Qan<|Qan<|Qaw rfl<|thn<|⟨(),h,mto (n:=19) [] [] [] hq pn qn⟩
def Qd6 (N:Nat) (p0:List Int):Option Bool:=(Qgo N p0).bind fun x2=>some (decide (x2>=0))
def Ql8 (N:Nat) (p0:List Int) (r:Bool) (h:Qd6 N p0=some r):Spec prog 51 [.dat 1 (p0.map Qab),.fn (.func 122) [] []] [] (B r) []:=by
 refine sA Xfu 0 fun _ _ _ hq hd0=>?_
 unfold Qd6 at h
 refine wxz<|bnq h fun x2 f1 h=>?_
 refine wx tbk [(2,rp _ _)] ⟨acq [.dat 1 (p0.map Qab),.fn (.func 122) [] []] [] [] (I x2) [] Qvr (Qnn N p0 _ f1) pli Qai Qai pli,tv⟩<|Qad ?_
 obtain rfl:=osi h
 exact fend ⟨[B (decide (x2>=0))],⟨rot,tv⟩,rfl⟩ nll
def Qic (_N:Nat) (p0 p1 p2:Int):Option Int:=chk (p2 != 0)<|some ((w64 (p1*p0)).tmod p2)
def Qn8 (N:Nat) (p0 p1:Int) (p2 r:Int) (h:Qic N p0 p1 p2=some r):Spec prog 130 [I p0,.ref 0 1 (0) 0,.ref 1 1 (0) 0] [.own 1 [[I p1]],.own 1 [[I p2]]] (I r) [.own 1 [[I p1]],.own 1 [[I p2]]]:=by
 refine sF func130 2 fun _ _ _ hq hd0=>?_
 unfold Qic at h
 refine wxz<|ckq h fun hz2 h=>wx tbk [(4,rp [(.tmp 7,I (w64 (p1*p0))),(.tmp 8,I p2)] (I ((w64 (p1*p0)).tmod p2)))] ⟨Zj7 rfl (Qzj hz2),tv⟩ ?_
 refine wmr (mto (n:=10) (l':=[(4,I ((w64 (p1*p0)).tmod p2))]) (own':=[.own 1 [[I p1]],.own 1 [[I p2]]]) [(4,I ((w64 (p1*p0)).tmod p2))] [0,1] [.own 1 [[I p1]],.own 1 [[I p2]]] hq (pw pn) (qbi (qbi qn)))<|Qad ?_
 obtain rfl:=osi h
 exact⟨_,Mor.rfl,fio [I ((w64 (p1*p0)).tmod p2)] ⟨rot,tv⟩⟩
def Qhg (N:Nat) (p0 p1:Int) (p2:List Int) (p3 p4:Int):Option Int:=(getI p2 p1).bind fun x2=>(Qic N x2 p3 p4).bind fun x7=>(getI p2 p0).bind fun x8=>(Qic N x8 p3 p4).bind fun x13=>some (w64 (x7-x13))
abbrev Zk4:AV:=.fn (.func 130) [] [.ref 2 1 (0) 0,.ref 3 1 (0) 0]
abbrev Zk3 (p2:List Int):Slot:=.own 1 [[.dat 1 (p2.map Qab)]]
def Qp7 (N:Nat) (p0 p1:Int) (p2:List Int) (p3 p4 r:Int) (h:Qhg N p0 p1 p2 p3 p4=some r):Spec prog 135 [I p0,I p1,.ref 0 1 (0) 0,.ref 1 1 (0) 0] [.own 1 [[Zk4]],Zk3 p2,.own 1 [[I p3]],.own 1 [[I p4]]] (I r) [.own 1 [[Zk4]],Zk3 p2,.own 1 [[I p3]],.own 1 [[I p4]]]:=by
 refine sF func135 4 fun _ _ _ hq hd0=>?_
 unfold Qhg at h
 refine wxz<|bgq h fun x2 i4 j5 h=>bnq h fun x7 f6 h=>bgq h fun x8 i10 j11 h=>bnq h fun x13 f12 h=>wxd tbk [(3,rp _ _),(5,⟨_,_,_,_,false⟩),(9,rp _ _),(11,⟨_,_,_,_,false⟩)] ⟨aiq Xag ti3 Qab i4 j5,Qd5 (first:=[]) (cap:=[.ref 2 1 0 0,.ref 3 1 0 0]) (vs:=[I x2]) (σr:=[.own 1 [[I p3]],.own 1 [[I p4]]]) (σr':=[.own 1 [[I p3]],.own 1 [[I p4]]]) (res':=(I x7)) [2,3] rfl Zbu (Qn8 N x2 p3 p4 _ f6) rfl (Qct (rnc pli (rnc (Qa2 rfl) (rnc (Qa2 rfl) rn0)))) (sbi (sbi Qai)) (sbi (sbi Qai)) pli rfl rfl rfl,aiq Xag ti3 Qab i10 j11,Qd5 (first:=[]) (cap:=[.ref 2 1 0 0,.ref 3 1 0 0]) (vs:=[I x8]) (σr:=[.own 1 [[I p3]],.own 1 [[I p4]]]) (σr':=[.own 1 [[I p3]],.own 1 [[I p4]]]) (res':=(I x13)) [2,3] rfl Zbu (Qn8 N x8 p3 p4 _ f12) rfl (Qct (rnc pli (rnc (Qa2 rfl) (rnc (Qa2 rfl) rn0)))) (sbi (sbi Qai)) (sbi (sbi Qai)) pli rfl rfl rfl,tv⟩ ?_
 refine wmr (mto (n:=20) (l':=[(6,I (w64 (x7-x13)))]) (own':=[.own 1 [[Zk4]],Zk3 p2,.own 1 [[I p3]],.own 1 [[I p4]]]) [(6,I (w64 (x7-x13)))] [0,1,2,3] [.own 1 [[Zk4]],Zk3 p2,.own 1 [[I p3]],.own 1 [[I p4]]] hq (pw pn) (qb (lc (.rn (Qby rn0 (rnc (rqr rfl) (rnc (rqr rfl) rn0)))) ln) (qbi (qbi (qbi qn)))))<|Qad ?_
 obtain rfl:=osi h
 exact⟨_,Mor.rfl,fio [I (w64 (x7-x13))] ⟨rot,tv⟩⟩
def Qb9 (N p0:Nat) (p1:Int) (p4:List Int) (p5 p6:Int) (k9:(List Int)->Option (List Int)):Nat->Int->(List Int)->Option (List Int)
 |0,_,_=>none
 |n14+1,y10,y11=>Qb0 (fun _=>chk (decide (0<=w64 (y10-1))&&decide ((w64 (y10-1)).toNat<p0))<|(y11[(w64 (y10-1)).toNat]?).bind fun x17=>chk (decide (0<=y10)&&decide (y10.toNat<p0))<|(y11[y10.toNat]?).bind fun x20=>chk (decide (0<=y10)&&decide (y10.toNat<p0))<|(y11[y10.toNat]?).bind fun _=>chk (decide (0<=w64 (y10-1))&&decide ((w64 (y10-1)).toNat<p0))<|((y11.set y10.toNat x17)[(w64 (y10-1)).toNat]?).bind fun _=>Qb9 N p0 p1 p4 p5 p6 k9 n14 (w64 (y10-1)) ((y11.set y10.toNat x17).set ((w64 (y10-1)).toNat) x20)) fun k15:Unit->Option (List Int)=>bif decide (y10>p1) then chk (decide (0<=y10)&&decide (y10.toNat<p0))<|(y11[y10.toNat]?).bind fun x30=>chk (decide (0<=w64 (y10-1))&&decide ((w64 (y10-1)).toNat<p0))<|(y11[(w64 (y10-1)).toNat]?).bind fun x33=>(Qhg N x30 x33 p4 p5 p6).bind fun x36=>bif decide (x36<0) then k15 () else k9 y11 else k9 y11
def Qbd (N p0:Nat) (p1 p2:Int) (p4:List Int) (p5 p6:Int):Nat->Int->(List Int)->Option (List Int)
 |0,_,_=>none
 |n6+1,y2,y3=>bif decide (y2<p2) then Qb0 (fun y8=>Qbd N p0 p1 p2 p4 p5 p6 n6 (w64 (y2+1)) y8) fun k9:(List Int)->Option (List Int)=>Qb9 N p0 p1 p4 p5 p6 k9 N y2 y3 else some y3
def Qch (N p0:Nat) (p1 p2:Int) (p3 p4:List Int) (p5 p6:Int):Option (List Int):=Qbd N p0 p1 p2 p4 p5 p6 N (w64 (p1+1)) p3
abbrev Qsx:AV:=.fn (.func 135) [] [.ref 1 1 (0) 0,.ref 2 1 (0) 0]
abbrev Qpy:AV:=.fn (.func 130) [] [.ref 3 1 (0) 0,.ref 4 1 (0) 0]
abbrev Qpx (p4:List Int):Slot:=.own 1 [[.dat 1 (p4.map Qab)]]
def Qh0 (N p0:Nat) (p1 p2:Int) (p3 p4:List Int) (p5 p6:Int) (r:List Int) (h:Qch N p0 p1 p2 p3 p4 p5 p6=some r):Spec prog 137 [.own 0 1 (0) p0,I p1,I p2,Qsx] [.own 1 (p3.map Qab),.own 1 [[Qpy]],Qpx p4,.own 1 [[I p5]],.own 1 [[I p6]]] (.tup []) [.own 1 (r.map Qab),.own 1 [[Qpy]],Qpx p4,.own 1 [[I p5]],.own 1 [[I p6]]]:=by
 refine sF func137 5 fun _ _ _ hq hd0=>?_
 unfold Qch at h
 refine wxz<|Qaf ?_
 refine wmr (mto (n:=53) (l':=[(0,.own 0 1 (0) p0),(1,I p1),(2,I p2),(3,Qsx),(8,I (w64 (p1+1)))]) (own':=[.own 1 (p3.map Qab),.own 1 [[Qpy]],Qpx p4,.own 1 [[I p5]],.own 1 [[I p6]]]) [(0,.own 0 1 (0) p0),(1,I p1),(2,I p2),(3,Qsx),(8,I (w64 (p1+1)))] [0,1,2,3,4] [.own 1 (p3.map Qab),.own 1 [[Qpy]],Qpx p4,.own 1 [[I p5]],.own 1 [[I p6]]] hq (pc (.rn (Qas rfl)) (pw (pw (pc (.rn (Qby rn0 (rnc (rqr rfl) (rnc (rqr rfl) rn0)))) (pw pn))))) (qc (spr Qar) (qb (lc (.rn (Qby rn0 (rnc (rqr rfl) (rnc (rqr rfl) rn0)))) ln) (qbi (qbi (qbi qn)))))) ?_
 refine Qbf (τ:=Int×(List Int)) (fun n t=>Qbd N p0 p1 p2 p4 p5 p6 n t.1 t.2=some r) (fun ⟨y2,y3⟩=>⟨mk 53 [(0,.own 0 1 (0) p0),(1,I p1),(2,I p2),(3,Qsx),(8,I y2)],[.own 1 (y3.map Qab),.own 1 [[Qpy]],Qpx p4,.own 1 [[I p5]],.own 1 [[I p6]]]⟩) (fun t h=>by rw[Qbd] at h;cases h) (fun n6 ih t h=>?_) N (w64 (p1+1),p3) h
 obtain⟨y2,y3⟩:=t
 rw[Qbd] at h
 refine wsq<|wxz<|bfq h (fun c7 h=>?_) fun c7 h=>?_
 ·refine Qah<|thn ?_
  refine wjq h (fun y8=>⟨mk 53 [(0,.own 0 1 (0) p0),(1,I p1),(2,I p2),(3,Qsx),(8,I y2)],[.own 1 (y8.map Qab),.own 1 [[Qpy]],Qpx p4,.own 1 [[I p5]],.own 1 [[I p6]]]⟩) (fun y8 h=>?_) fun k9 h=>?_
  ·exact wxz1<|thn<|arm (mto (n:=53) [(0,.own 0 1 (0) p0),(1,I p1),(2,I p2),(3,Qsx),(8,I (w64 (y2+1)))] [0,1,2,3,4] [.own 1 (y8.map Qab),.own 1 [[Qpy]],Qpx p4,.own 1 [[I p5]],.own 1 [[I p6]]] hq (pc (.rn (Qas rfl)) (pw (pw (pc (.rn (Qby rn0 (rnc (rqr rfl) (rnc (rqr rfl) rn0)))) (pw pn))))) (qc (spr Qar) (qb (lc (.rn (Qby rn0 (rnc (rqr rfl) (rnc (rqr rfl) rn0)))) ln) (qbi (qbi (qbi qn)))))) (ih (w64 (y2+1),y8) h)
  refine Qaf<|wxz<|Qaf ?_
  refine wmr (mto (n:=53) (l':=[(0,.own 0 1 (0) p0),(1,I p1),(2,I p2),(3,Qsx),(8,I y2),(9,I y2)]) (own':=[.own 1 (y3.map Qab),.own 1 [[Qpy]],Qpx p4,.own 1 [[I p5]],.own 1 [[I p6]]]) [(0,.own 0 1 (0) p0),(1,I p1),(2,I p2),(3,Qsx),(8,I y2),(9,I y2)] [0,1,2,3,4] [.own 1 (y3.map Qab),.own 1 [[Qpy]],Qpx p4,.own 1 [[I p5]],.own 1 [[I p6]]] hq (pc (.rn (Qas rfl)) (pw (pw (pc (.rn (Qby rn0 (rnc (rqr rfl) (rnc (rqr rfl) rn0)))) (pw (pw pn)))))) (qc (spr Qar) (qb (lc (.rn (Qby rn0 (rnc (rqr rfl) (rnc (rqr rfl) rn0)))) ln) (qbi (qbi (qbi qn)))))) ?_
  refine Qbf (τ:=Int×(List Int)) (fun n t=>Qb9 N p0 p1 p4 p5 p6 k9 n t.1 t.2=some r) (fun ⟨y10,y11⟩=>⟨mk 53 [(0,.own 0 1 (0) p0),(1,I p1),(2,I p2),(3,Qsx),(8,I y2),(9,I y10)],[.own 1 (y11.map Qab),.own 1 [[Qpy]],Qpx p4,.own 1 [[I p5]],.own 1 [[I p6]]]⟩) (fun t h=>by rw[Qb9] at h;cases h) (fun n14 ih t h=>?_) N (y2,y3) h
  obtain⟨y10,y11⟩:=t
  rw[Qb9] at h
  refine wjq h (fun _=>⟨mk 53 [(0,.own 0 1 (0) p0),(1,I p1),(2,I p2),(3,Qsx),(8,I y2),(9,I y10)],[.own 1 (y11.map Qab),.own 1 [[Qpy]],Qpx p4,.own 1 [[I p5]],.own 1 [[I p6]]]⟩) (fun t h=>?_) fun k15 h=>?_
  ·refine wsq<|Qaf ?_
   refine ckq h fun i16 h=>?_
   obtain⟨hi16a,hi16b⟩:=Qb6 i16
   refine bnq h fun x17 g18 h=>ckq h fun i19 h=>?_
   obtain⟨hi19a,hi19b⟩:=Qb6 i19
   refine bnq h fun x20 g21 h=>ckq h fun i22 h=>?_
   obtain⟨hi22a,hi22b⟩:=Qb6 i22
   refine bnq h fun x23 g24 h=>ckq h fun i25 h=>?_
   obtain⟨hi25a,hi25b⟩:=Qb6 i25
   exact bnq h fun x26 g27 h=>wy1 tbk [(8,rb [(.tmp 42,.own 0 1 (0) p0),(.tmp 44,I (w64 (y10-1)))] [(0,.own 1 (y11.map Qab))] (.ref 0 1 ((w64 (y10-1)).toNat) 0)),(9,rb [(.tmp 45,.ref 0 1 ((w64 (y10-1)).toNat) 0)] [(0,.own 1 (y11.map Qab))] (I x17)),(12,rb [(.tmp 47,.own 0 1 (0) p0),(.tmp 48,I y10)] [(0,.own 1 (y11.map Qab))] (.ref 0 1 y10.toNat 0)),(13,rb [(.tmp 49,.ref 0 1 y10.toNat 0)] [(0,.own 1 (y11.map Qab))] (I x20)),(14,rb [(.tmp 37,.own 0 1 (0) p0),(.tmp 38,I y10)] [(0,.own 1 (y11.map Qab))] (.ref 0 1 y10.toNat 0)),(15,⟨[(.tmp 51,.ref 0 1 y10.toNat 0),(.tmp 46,I x17)],[(0,.own 1 (y11.map Qab))],.any,[(0,.own 1 ((y11.set y10.toNat x17:List Int).map Qab))],false⟩),(16,rb [(.tmp 39,.own 0 1 (0) p0),(.tmp 41,I (w64 (y10-1)))] [(0,.own 1 ((y11.set y10.toNat x17:List Int).map Qab))] (.ref 0 1 ((w64 (y10-1)).toNat) 0)),(17,⟨[(.tmp 52,.ref 0 1 ((w64 (y10-1)).toNat) 0),(.tmp 50,I x20)],[(0,.own 1 ((y11.set y10.toNat x17:List Int).map Qab))],.any,[(0,.own 1 (((y11.set y10.toNat x17).set ((w64 (y10-1)).toNat) x20:List Int).map Qab))],false⟩)] ⟨aio rfl Xag ti3 (odt hi16a) (odt hi16b) (Xar _),ald rfl ti3 (by decide) (mgt Qab g18) (nle rfl) rfl,aio rfl Xag ti3 (odt hi19a) (odt hi19b) (Xar _),ald rfl ti3 (by decide) (mgt Qab g21) (nle rfl) rfl,aio rfl Xag ti3 (odt hi22a) (odt hi22b) (Xar _),ast rfl ti3 (by rfl) (mgt Qab g24) (nle rfl) (Qhv Qab rfl),aio rfl Xag ti3 (odt hi25a) (odt hi25b) (Xar _),ast rfl ti3 (by rfl) (mgt Qab g27) (nle rfl) (Qhv Qab rfl),tv⟩<|bln<|thn<|wxz1<|thn<|arm (mto (n:=53) [(0,.own 0 1 (0) p0),(1,I p1),(2,I p2),(3,Qsx),(8,I y2),(9,I (w64 (y10-1)))] [0,1,2,3,4] [.own 1 (((y11.set y10.toNat x17).set ((w64 (y10-1)).toNat) x20:List Int).map Qab),.own 1 [[Qpy]],Qpx p4,.own 1 [[I p5]],.own 1 [[I p6]]] hq (pc (.rn (Qas rfl)) (pw (pw (pc (.rn (Qby rn0 (rnc (rqr rfl) (rnc (rqr rfl) rn0)))) (pw (pw pn)))))) (qc (spr Qar) (qb (lc (.rn (Qby rn0 (rnc (rqr rfl) (rnc (rqr rfl) rn0)))) ln) (qbi (qbi (qbi qn)))))) (ih (w64 (y10-1),(y11.set y10.toNat x17).set ((w64 (y10-1)).toNat) x20) h)
  refine bfe h (fun hb28 h=>?_) fun hb28 h=>?_
  ·refine ckq h fun i29 h=>?_
   obtain⟨hi29a,hi29b⟩:=Qb6 i29
   refine bnq h fun x30 g31 h=>ckq h fun i32 h=>?_
   obtain⟨hi32a,hi32b⟩:=Qb6 i32
   refine bnq h fun x33 g34 h=>bnq h fun x36 f35 h=>wxd tbk [(3,rp [(.tmp 20,B (decide (y10>p1)))] (B true)),(7,rb [(.tmp 21,B true),(.tmp 23,.own 0 1 (0) p0),(.tmp 24,I y10)] [(0,.own 1 (y11.map Qab))] (.ref 0 1 y10.toNat 0)),(8,rb [(.tmp 21,B true),(.tmp 25,.ref 0 1 y10.toNat 0)] [(0,.own 1 (y11.map Qab))] (I x30)),(12,rb [(.tmp 21,B true),(.tmp 27,.own 0 1 (0) p0),(.tmp 29,I (w64 (y10-1)))] [(0,.own 1 (y11.map Qab))] (.ref 0 1 ((w64 (y10-1)).toNat) 0)),(13,rb [(.tmp 21,B true),(.tmp 30,.ref 0 1 ((w64 (y10-1)).toNat) 0)] [(0,.own 1 (y11.map Qab))] (I x33)),(14,⟨[(.tmp 21,B true),(.tmp 22,Qsx),(.tmp 26,I x30),(.tmp 31,I x33)],[(1,.own 1 [[Qpy]]),(2,Qpx p4),(3,.own 1 [[I p5]]),(4,.own 1 [[I p6]])],I x36,[(1,.own 1 [[Qpy]]),(2,Qpx p4),(3,.own 1 [[I p5]]),(4,.own 1 [[I p6]])],false⟩)] ⟨asb hb28 (amv rfl),ag_ (aio rfl Xag ti3 (odt hi29a) (odt hi29b) (Xar _)),ag_ (ald rfl ti3 (by decide) (mgt Qab g31) (nle rfl) rfl),ag_ (aio rfl Xag ti3 (odt hi32a) (odt hi32b) (Xar _)),ag_ (ald rfl ti3 (by decide) (mgt Qab g34) (nle rfl) rfl),ag_ (Qd5 (first:=[]) (cap:=[.ref 1 1 0 0,.ref 2 1 0 0]) (vs:=[I x30,I x33]) (σr:=[.own 1 [[Qpy]],Qpx p4,.own 1 [[I p5]],.own 1 [[I p6]]]) (σr':=[.own 1 [[Qpy]],Qpx p4,.own 1 [[I p5]],.own 1 [[I p6]]]) (res':=(I x36)) [1,2,3,4] rfl Zmw (Qp7 N x30 x33 p4 p5 p6 _ f35) rfl (Qct (rncc (rnc (Qa2 rfl) (rnc (Qa2 rfl) rn0)))) (slc (Qcr (rnc (Qby rn0 (rnc (Qa2 rfl) (rnc (Qa2 rfl) rn0))) rn0)) (sbi (sbi (sbi Qai)))) (slc (Qcr (rnc (Qby rn0 (rnc (Qb7 rfl) (rnc (Qb7 rfl) rn0))) rn0)) (sbi (sbi (sbi Qai)))) pli rfl rfl rfl),tv⟩<|bfq h (fun c37 h=>?_) fun c37 h=>?_
   ·exact Qah<|thn<|⟨(),h,mto (n:=53) [(0,.own 0 1 (0) p0),(1,I p1),(2,I p2),(3,Qsx),(8,I y2),(9,I y10)] [0,1,2,3,4] [.own 1 (y11.map Qab),.own 1 [[Qpy]],Qpx p4,.own 1 [[I p5]],.own 1 [[I p6]]] hq (pc (.rn (Qas rfl)) (pw (pw (pc (.rn (Qby rn0 (rnc (rqr rfl) (rnc (rqr rfl) rn0)))) (pw (pw pn)))))) (qc (spr Qar) (qb (lc (.rn (Qby rn0 (rnc (rqr rfl) (rnc (rqr rfl) rn0)))) ln) (qbi (qbi (qbi qn)))))⟩
   exact Qax<|Qan<|Qan<|Qaw rfl<|bln<|thn<|⟨y11,h,mto (n:=53) [(0,.own 0 1 (0) p0),(1,I p1),(2,I p2),(3,Qsx),(8,I y2)] [0,1,2,3,4] [.own 1 (y11.map Qab),.own 1 [[Qpy]],Qpx p4,.own 1 [[I p5]],.own 1 [[I p6]]] hq (pc (.rn (Qas rfl)) (pw (pw (pc (.rn (Qby rn0 (rnc (rqr rfl) (rnc (rqr rfl) rn0)))) (pw pn))))) (qc (spr Qar) (qb (lc (.rn (Qby rn0 (rnc (rqr rfl) (rnc (rqr rfl) rn0)))) ln) (qbi (qbi (qbi qn)))))⟩
  exact wxd tbk [(3,rp [(.tmp 20,B (decide (y10>p1)))] (B false))] ⟨asb hb28 (amv rfl),tv⟩<|wfa<|Qax<|Qan<|Qan<|Qaw rfl<|bln<|thn<|⟨y11,h,mto (n:=53) [(0,.own 0 1 (0) p0),(1,I p1),(2,I p2),(3,Qsx),(8,I y2)] [0,1,2,3,4] [.own 1 (y11.map Qab),.own 1 [[Qpy]],Qpx p4,.own 1 [[I p5]],.own 1 [[I p6]]] hq (pc (.rn (Qas rfl)) (pw (pw (pc (.rn (Qby rn0 (rnc (rqr rfl) (rnc (rqr rfl) rn0)))) (pw pn))))) (qc (spr Qar) (qb (lc (.rn (Qby rn0 (rnc (rqr rfl) (rnc (rqr rfl) rn0)))) ln) (qbi (qbi (qbi qn)))))⟩
 refine Qax<|Qan<|Qan<|Qaw rfl ?_
 obtain rfl:=osi h
 exact⟨_,mto (n:=53) (l':=[]) (own':=[.own 1 (y3.map Qab),.own 1 [[Qpy]],Qpx p4,.own 1 [[I p5]],.own 1 [[I p6]]]) [] [0,1,2,3,4] [.own 1 (y3.map Qab),.own 1 [[Qpy]],Qpx p4,.own 1 [[I p5]],.own 1 [[I p6]]] hq pn (qc (spr Qar) (qb (lc (.rn (Qby rn0 (rnc (rqr rfl) (rnc (rqr rfl) rn0)))) ln) (qbi (qbi (qbi qn))))),fio [] tv⟩
def Qfi (N:Nat) (p1:Int) (k9:Unit->Option (List Int)):Nat->Option (List Int)
 |0=>none
 |n10+1=>bif decide (40<=p1) then none else k9 ()
def Qdg (N:Nat) (p1:Int) (x6:List Int):Nat->Option (List Int)
 |0=>none
 |n7+1=>bif decide (20<p1) then Qb0 (fun _=>none) fun k9:Unit->Option (List Int)=>Qfi N p1 k9 N else some x6
def Qcx (N p0:Nat) (p1:Int) (p3:List Int) (k4:Int×(List Int)->Option (List Int)) (p4 p5:Int):Nat->Int->Int->(List Int)->Option (List Int)
 |0,_,_,_=>none
 |n18+1,y12,y13,y14=>bif decide (y13<=p1) then (Qch N p0 y12 y13 y14 p3 p4 p5).bind fun x21=>Qcx N p0 p1 p3 k4 p4 p5 n18 y13 (w64 (y13+20)) x21 else k4 (y12,y14)
def Qgm (N p0:Nat) (p1:Int) (p2 p3:List Int) (p4 p5:Int):Option (List Int):=Qb0 (fun ⟨y2,y3⟩=>(Qch N p0 y2 p1 y3 p3 p4 p5).bind fun x6=>Qdg N p1 x6 N) fun k4:Int×(List Int)->Option (List Int)=>Qcx N p0 p1 p3 k4 p4 p5 N 0 20 p2
abbrev Qrh:AV:=.fn (.func 135) [] [.ref 1 1 (0) 0,.ref 2 1 (0) 0]
abbrev Qo7:AV:=.fn (.func 130) [] [.ref 3 1 (0) 0,.ref 4 1 (0) 0]
abbrev Qo6 (p3:List Int):Slot:=.own 1 [[.dat 1 (p3.map Qab)]]
def Qnl (N p0:Nat) (p1:Int) (p2 p3:List Int) (p4 p5:Int) (r:List Int) (h:Qgm N p0 p1 p2 p3 p4 p5=some r):Spec prog 136 [.own 0 1 (0) p0,I p1,Qrh] [.own 1 (p2.map Qab),.own 1 [[Qo7]],Qo6 p3,.own 1 [[I p4]],.own 1 [[I p5]]] (.tup []) [.own 1 (r.map Qab),.own 1 [[Qo7]],Qo6 p3,.own 1 [[I p4]],.own 1 [[I p5]]]:=by
 refine sF func136 5 fun _ _ _ hq hd0=>?_
 unfold Qgm at h
 refine wxz<|wxz<|wjq h (fun ⟨y2,y3⟩=>⟨mk 63 [(0,.own 0 1 (0) p0),(1,I p1),(2,Qrh),(6,I 20),(7,I y2)],[.own 1 (y3.map Qab),.own 1 [[Qo7]],Qo6 p3,.own 1 [[I p4]],.own 1 [[I p5]]]⟩) (fun t h=>?_) fun k4 h=>?_
 ·obtain⟨y2,y3⟩:=t
  refine bnq h fun x6 f5 h=>?_
  refine wx tbk [(4,⟨_,_,_,_,false⟩)] ⟨acq [.own 0 1 (0) p0,I y2,I p1,Qrh] [.own 1 (y3.map Qab),.own 1 [[Qo7]],Qo6 p3,.own 1 [[I p4]],.own 1 [[I p5]]] [.own 1 (x6.map Qab),.own 1 [[Qo7]],Qo6 p3,.own 1 [[I p4]],.own 1 [[I p5]]] (.tup []) [0,1,2,3,4] Zbt (Qh0 N p0 y2 p1 y3 p3 p4 p5 _ f5) (Qct (rnc (Qdf rfl) (rncc (rnc (Qby rn0 (rnc (Qa2 rfl) (rnc (Qa2 rfl) rn0))) rn0)))) (slc (Qa5 Qar) (slc (Qcr (rnc (Qby rn0 (rnc (Qa2 rfl) (rnc (Qa2 rfl) rn0))) rn0)) (sbi (sbi (sbi Qai))))) (slc (Qa5 Qar) (slc (Qcr (rnc (Qby rn0 (rnc (Qb7 rfl) (rnc (Qb7 rfl) rn0))) rn0)) (sbi (sbi (sbi Qai))))) pli,tv⟩<|Qaf ?_
  refine wmr (mto (n:=63) (l':=[(0,.own 0 1 (0) p0),(1,I p1),(2,Qrh),(6,I 20)]) (own':=[.own 1 (x6.map Qab),.own 1 [[Qo7]],Qo6 p3,.own 1 [[I p4]],.own 1 [[I p5]]]) [(0,.own 0 1 (0) p0),(1,I p1),(2,Qrh),(6,I 20)] [0,1,2,3,4] [.own 1 (x6.map Qab),.own 1 [[Qo7]],Qo6 p3,.own 1 [[I p4]],.own 1 [[I p5]]] hq (pc (.rn (Qas rfl)) (pw (pc (.rn (Qby rn0 (rnc (rqr rfl) (rnc (rqr rfl) rn0)))) (pw pn)))) (qc (spr Qar) (qb (lc (.rn (Qby rn0 (rnc (rqr rfl) (rnc (rqr rfl) rn0)))) ln) (qbi (qbi (qbi qn)))))) ?_
  refine Qbf (τ:=Unit) (fun n t=>Qdg N p1 x6 n=some r) (fun _=>⟨mk 63 [(0,.own 0 1 (0) p0),(1,I p1),(2,Qrh),(6,I 20)],[.own 1 (x6.map Qab),.own 1 [[Qo7]],Qo6 p3,.own 1 [[I p4]],.own 1 [[I p5]]]⟩) (fun t h=>by rw[Qdg] at h;cases h) (fun n7 ih t h=>?_) N () h
  rw[Qdg] at h
  refine wsq<|wxz<|bfq h (fun c8 h=>?_) fun c8 h=>?_
  ·refine Qah<|thn<|Qaf<|wxz ?_
   refine wjq h (fun _=>⟨mk 63 [(0,.own 0 1 (0) p0),(1,I p1),(2,Qrh),(6,I 20),(7,I 0)],[.own 1 (x6.map Qab),.own 1 [[Qo7]],Qo6 p3,.own 1 [[I p4]],.own 1 [[I p5]]]⟩) (fun t h=>?_) fun k9 h=>?_
   ·refine wsq<|wxz<|wxz<|wft c8 ?_
    cases h
   refine Qaf<|wmr (mto (n:=63) (l':=[(0,.own 0 1 (0) p0),(1,I p1),(2,Qrh),(6,I 20),(7,I 0),(8,I 40)]) (own':=[.own 1 (x6.map Qab),.own 1 [[Qo7]],Qo6 p3,.own 1 [[I p4]],.own 1 [[I p5]]]) [(0,.own 0 1 (0) p0),(1,I p1),(2,Qrh),(6,I 20),(7,I 0),(8,I 40)] [0,1,2,3,4] [.own 1 (x6.map Qab),.own 1 [[Qo7]],Qo6 p3,.own 1 [[I p4]],.own 1 [[I p5]]] hq (pc (.rn (Qas rfl)) (pw (pc (.rn (Qby rn0 (rnc (rqr rfl) (rnc (rqr rfl) rn0)))) (pw (pw (pw pn)))))) (qc (spr Qar) (qb (lc (.rn (Qby rn0 (rnc (rqr rfl) (rnc (rqr rfl) rn0)))) ln) (qbi (qbi (qbi qn)))))) ?_
   refine Qbf (τ:=Unit) (fun n t=>Qfi N p1 k9 n=some r) (fun _=>⟨mk 63 [(0,.own 0 1 (0) p0),(1,I p1),(2,Qrh),(6,I 20),(7,I 0),(8,I 40)],[.own 1 (x6.map Qab),.own 1 [[Qo7]],Qo6 p3,.own 1 [[I p4]],.own 1 [[I p5]]]⟩) (fun t h=>by rw[Qfi] at h;cases h) (fun n10 ih t h=>?_) N () h
   rw[Qfi] at h
   refine wsq<|wxz<|bfq h (fun c11 h=>?_) fun c11 h=>?_
   ·refine Qah<|thn<|Qaf ?_
    cases h
   exact Qax<|Qan<|Qan<|Qaw rfl<|thn<|⟨(),h,mto (n:=63) [(0,.own 0 1 (0) p0),(1,I p1),(2,Qrh),(6,I 20),(7,I 0)] [0,1,2,3,4] [.own 1 (x6.map Qab),.own 1 [[Qo7]],Qo6 p3,.own 1 [[I p4]],.own 1 [[I p5]]] hq (pc (.rn (Qas rfl)) (pw (pc (.rn (Qby rn0 (rnc (rqr rfl) (rnc (rqr rfl) rn0)))) (pw (pw pn))))) (qc (spr Qar) (qb (lc (.rn (Qby rn0 (rnc (rqr rfl) (rnc (rqr rfl) rn0)))) ln) (qbi (qbi (qbi qn)))))⟩
  refine Qax<|Qan<|Qan<|Qaw rfl ?_
  obtain rfl:=osi h
  exact⟨_,mto (n:=63) (l':=[]) (own':=[.own 1 (x6.map Qab),.own 1 [[Qo7]],Qo6 p3,.own 1 [[I p4]],.own 1 [[I p5]]]) [] [0,1,2,3,4] [.own 1 (x6.map Qab),.own 1 [[Qo7]],Qo6 p3,.own 1 [[I p4]],.own 1 [[I p5]]] hq pn (qc (spr Qar) (qb (lc (.rn (Qby rn0 (rnc (rqr rfl) (rnc (rqr rfl) rn0)))) ln) (qbi (qbi (qbi qn))))),fio [] tv⟩
 refine Qaf<|wmr (mto (n:=63) (l':=[(0,.own 0 1 (0) p0),(1,I p1),(2,Qrh),(6,I 20),(7,I 0),(8,I 20)]) (own':=[.own 1 (p2.map Qab),.own 1 [[Qo7]],Qo6 p3,.own 1 [[I p4]],.own 1 [[I p5]]]) [(0,.own 0 1 (0) p0),(1,I p1),(2,Qrh),(6,I 20),(7,I 0),(8,I 20)] [0,1,2,3,4] [.own 1 (p2.map Qab),.own 1 [[Qo7]],Qo6 p3,.own 1 [[I p4]],.own 1 [[I p5]]] hq (pc (.rn (Qas rfl)) (pw (pc (.rn (Qby rn0 (rnc (rqr rfl) (rnc (rqr rfl) rn0)))) (pw (pw (pw pn)))))) (qc (spr Qar) (qb (lc (.rn (Qby rn0 (rnc (rqr rfl) (rnc (rqr rfl) rn0)))) ln) (qbi (qbi (qbi qn)))))) ?_
 refine Qbf (τ:=Int×Int×(List Int)) (fun n t=>Qcx N p0 p1 p3 k4 p4 p5 n t.1 t.2.1 t.2.2=some r) (fun ⟨y12,y13,y14⟩=>⟨mk 63 [(0,.own 0 1 (0) p0),(1,I p1),(2,Qrh),(6,I 20),(7,I y12),(8,I y13)],[.own 1 (y14.map Qab),.own 1 [[Qo7]],Qo6 p3,.own 1 [[I p4]],.own 1 [[I p5]]]⟩) (fun t h=>by rw[Qcx] at h;cases h) (fun n18 ih t h=>?_) N (0,20,p2) h
 obtain⟨y12,y13,y14⟩:=t
 rw[Qcx] at h
 refine wsq<|wxz<|bfq h (fun c19 h=>?_) fun c19 h=>?_
 ·refine Qah<|thn<|Qaf ?_
  exact bnq h fun x21 f20 h=>wx tbk [(4,⟨_,_,_,_,false⟩)] ⟨acq [.own 0 1 (0) p0,I y12,I y13,Qrh] [.own 1 (y14.map Qab),.own 1 [[Qo7]],Qo6 p3,.own 1 [[I p4]],.own 1 [[I p5]]] [.own 1 (x21.map Qab),.own 1 [[Qo7]],Qo6 p3,.own 1 [[I p4]],.own 1 [[I p5]]] (.tup []) [0,1,2,3,4] Zbt (Qh0 N p0 y12 y13 y14 p3 p4 p5 _ f20) (Qct (rnc (Qdf rfl) (rncc (rnc (Qby rn0 (rnc (Qa2 rfl) (rnc (Qa2 rfl) rn0))) rn0)))) (slc (Qa5 Qar) (slc (Qcr (rnc (Qby rn0 (rnc (Qa2 rfl) (rnc (Qa2 rfl) rn0))) rn0)) (sbi (sbi (sbi Qai))))) (slc (Qa5 Qar) (slc (Qcr (rnc (Qby rn0 (rnc (Qb7 rfl) (rnc (Qb7 rfl) rn0))) rn0)) (sbi (sbi (sbi Qai))))) pli,tv⟩<|wxz<|wxz1<|bln<|thn<|arm (mto (n:=63) [(0,.own 0 1 (0) p0),(1,I p1),(2,Qrh),(6,I 20),(7,I y13),(8,I (w64 (y13+20)))] [0,1,2,3,4] [.own 1 (x21.map Qab),.own 1 [[Qo7]],Qo6 p3,.own 1 [[I p4]],.own 1 [[I p5]]] hq (pc (.rn (Qas rfl)) (pw (pc (.rn (Qby rn0 (rnc (rqr rfl) (rnc (rqr rfl) rn0)))) (pw (pw (pw pn)))))) (qc (spr Qar) (qb (lc (.rn (Qby rn0 (rnc (rqr rfl) (rnc (rqr rfl) rn0)))) ln) (qbi (qbi (qbi qn)))))) (ih (y13,w64 (y13+20),x21) h)
 exact Qax<|Qan<|Qan<|Qaw rfl<|thn<|⟨(y12,y14),h,mto (n:=63) [(0,.own 0 1 (0) p0),(1,I p1),(2,Qrh),(6,I 20),(7,I y12)] [0,1,2,3,4] [.own 1 (y14.map Qab),.own 1 [[Qo7]],Qo6 p3,.own 1 [[I p4]],.own 1 [[I p5]]] hq (pc (.rn (Qas rfl)) (pw (pc (.rn (Qby rn0 (rnc (rqr rfl) (rnc (rqr rfl) rn0)))) (pw (pw pn))))) (qc (spr Qar) (qb (lc (.rn (Qby rn0 (rnc (rqr rfl) (rnc (rqr rfl) rn0)))) ln) (qbi (qbi (qbi qn)))))⟩
def Qdw (N p0:Nat) (p1 p2:List Int) (p3 p4:Int):Option (List Int):=(Qgm N p0 ((p0:Nat):Int) p1 p2 p3 p4).bind fun x3=>some x3
abbrev Zus:AV:=.fn (.func 135) [] [.ref 1 1 (0) 0,.ref 2 1 (0) 0]
abbrev Zci:AV:=.fn (.func 130) [] [.ref 3 1 (0) 0,.ref 4 1 (0) 0]
abbrev Zch (p2:List Int):Slot:=.own 1 [[.dat 1 (p2.map Qab)]]
def Qlr (N p0:Nat) (p1 p2:List Int) (p3 p4:Int) (r:List Int) (h:Qdw N p0 p1 p2 p3 p4=some r):Spec prog 134 [.own 0 1 (0) p0,Zus] [.own 1 (p1.map Qab),.own 1 [[Zci]],Zch p2,.own 1 [[I p3]],.own 1 [[I p4]]] (.tup []) [.own 1 (r.map Qab),.own 1 [[Zci]],Zch p2,.own 1 [[I p3]],.own 1 [[I p4]]]:=by
 refine sF func134 5 fun _ _ _ hq hd0=>?_
 unfold Qdw at h
 refine bnq h fun x3 f2 h=>wx1 tbk [(2,rp [(.tmp 5,.own 0 1 (0) p0)] (I ((p0:Nat):Int))),(4,⟨_,_,_,_,false⟩)] ⟨aln rfl Xag rfl,acq [.own 0 1 (0) p0,I ((p0:Nat):Int),Zus] [.own 1 (p1.map Qab),.own 1 [[Zci]],Zch p2,.own 1 [[I p3]],.own 1 [[I p4]]] [.own 1 (x3.map Qab),.own 1 [[Zci]],Zch p2,.own 1 [[I p3]],.own 1 [[I p4]]] (.tup []) [0,1,2,3,4] Zmv (Qnl N p0 ((p0:Nat):Int) p1 p2 p3 p4 _ f2) (Qct (rnc (Qdf rfl) (rnc pli (rnc (Qby rn0 (rnc (Qa2 rfl) (rnc (Qa2 rfl) rn0))) rn0)))) (slc (Qa5 Qar) (slc (Qcr (rnc (Qby rn0 (rnc (Qa2 rfl) (rnc (Qa2 rfl) rn0))) rn0)) (sbi (sbi (sbi Qai))))) (slc (Qa5 Qar) (slc (Qcr (rnc (Qby rn0 (rnc (Qb7 rfl) (rnc (Qb7 rfl) rn0))) rn0)) (sbi (sbi (sbi Qai))))) pli,tv⟩ ?_
 obtain rfl:=osi h
 exact⟨_,mto (n:=9) (l':=[]) (own':=[.own 1 (x3.map Qab),.own 1 [[Zci]],Zch p2,.own 1 [[I p3]],.own 1 [[I p4]]]) [] [0,1,2,3,4] [.own 1 (x3.map Qab),.own 1 [[Zci]],Zch p2,.own 1 [[I p3]],.own 1 [[I p4]]] hq pn (qc (spr Qar) (qb (lc (.rn (Qby rn0 (rnc (rqr rfl) (rnc (rqr rfl) rn0)))) ln) (qbi (qbi (qbi qn))))),fio [] tv⟩
def Qej (N:Nat) (p0:List Int) (k4:(List Int)->Option (List Int)):Nat->Int->(List Int)->Option (List Int)
 |0,_,_=>none
 |n13+1,y9,y10=>bif decide (y9<(p0.length:Int)) then chk (decide ((y10.length+([y9]).length)*8<=140737488355328))<|Qej N p0 k4 n13 (w64 (y9+1)) (y10++([y9])) else k4 y10
def Qih (N:Nat) (p0:List Int) (p1 p2:Int):Option (List Int):=Qb0 (fun y3=>chk (!y3.isEmpty)<|(Qdw N y3.length y3 p0 p1 p2).bind fun x7=>chk (decide (y3.length<=x7.length))<|some (x7.take y3.length)) fun k4:(List Int)->Option (List Int)=>Qej N p0 k4 N 0 ([]:List Int)
abbrev Qww:AV:=.fn (.func 130) [] [.ref 0 1 (0) 0,.ref 1 1 (0) 0]
abbrev Qxp (p0:List Int):Slot:=.own 1 [[.dat 1 (p0.map Qab)]]
abbrev Zk5:AV:=.fn (.func 135) [] [.ref 3 1 (0) 0,.ref 2 1 (0) 0]
abbrev Q9y (x7 y3:List Int):AV:=.dat 1 ((x7.take y3.length:List Int).map Qab)
abbrev Zut:Slot:=.gro 1 ((([]:List Int):List Int).map Qab)
def Qrb (N:Nat) (p0:List Int) (p1 p2:Int) (r:List Int) (h:Qih N p0 p1 p2=some r):Spec prog 129 [.dat 1 (p0.map Qab),Qww] [.own 1 [[I p1]],.own 1 [[I p2]]] (.dat 1 (r.map Qab)) [.own 1 [[I p1]],.own 1 [[I p2]]]:=by
 refine sF func129 2 fun _ _ _ hq hd0=>?_
 unfold Qih at h
 refine wxz<|wxz<|wjq h (fun y3=>⟨mk 21 [(2,.ref 2 1 0 0),(3,.ref 3 1 0 0),(5,.gro 4 3 1 y3.length)],[.own 1 [[I p1]],.own 1 [[I p2]],Qxp p0,.own 1 [[Qww]],.gro 1 (y3.map Qab)]⟩) (fun y3 h=>?_) fun k4 h=>?_
 ·refine ckq h fun hz5 h=>bnq h fun x7 f6 h=>wx tbk [(1,rp [(.tmp 3,.ref 3 1 0 0),(.tmp 2,.ref 2 1 0 0)] Zk5),(2,⟨[fu 134,(.tmp 17,.gro 4 3 1 y3.length),(.tmp 18,Zk5)],[(4,.gro 1 (y3.map Qab)),(3,.own 1 [[Qww]]),(2,Qxp p0),(0,.own 1 [[I p1]]),(1,.own 1 [[I p2]])],.tup [],[(4,.own 1 (x7.map Qab)),(3,.own 1 [[Qww]]),(2,Qxp p0),(0,.own 1 [[I p1]]),(1,.own 1 [[I p2]])],false⟩)] ⟨Qfp (fs:=[]) (cs:=[.ref 3 1 0 0,.ref 2 1 0 0]) rfl rfl rfl rfl,Qzo (bl':=[(4,.own 1 (y3.map Qab)),(3,.own 1 [[Qww]]),(2,Qxp p0),(0,.own 1 [[I p1]]),(1,.own 1 [[I p2]])]) ⟨rfl,SLess.gro (Qmz hz5),rfl,SLess.rfl,rfl,SLess.rfl,rfl,SLess.rfl,rfl,SLess.rfl,tv⟩ (awk (rd':=[fu 134,(.tmp 17,.own 4 1 (0) y3.length),(.tmp 18,Zk5)]) ⟨rfl,lrf,rfl,Less.gro,rfl,lrf,tv⟩ (acq [.own 4 1 (0) y3.length,Zk5] [.own 1 (y3.map Qab),.own 1 [[Qww]],Qxp p0,.own 1 [[I p1]],.own 1 [[I p2]]] [.own 1 (x7.map Qab),.own 1 [[Qww]],Qxp p0,.own 1 [[I p1]],.own 1 [[I p2]]] (.tup []) [4,3,2,0,1] Zmx (Qlr N y3.length y3 p0 p1 p2 _ f6) (Qct (rnc (Qdf rfl) (rnc (Qby rn0 (rnc (Qa2 rfl) (rnc (Qa2 rfl) rn0))) rn0))) (slc (Qa5 Qar) (slc (Qcr (rnc (Qby rn0 (rnc (Qa2 rfl) (rnc (Qa2 rfl) rn0))) rn0)) (sbi (sbi (sbi Qai))))) (slc (Qa5 Qar) (slc (Qcr (rnc (Qby rn0 (rnc (Qb7 rfl) (rnc (Qb7 rfl) rn0))) rn0)) (sbi (sbi (sbi Qai))))) pli)),tv⟩<|wxz<|ckq h fun hz8 h=>wmr (Zmi (n:=21) (l':=[(4,.own 4 1 (0) y3.length)]) [(4,.gro 4 3 1 y3.length)] (by kernel_rfl) (by kernel_rfl) ⟨rfl,Less.gro,tv⟩) ?_
  refine wmr (Zpw (n:=21) (l':=[(4,Q9y x7 y3)]) 4 [(4,.own 4 1 (0) y3.length)] (by kernel_rfl) (by kernel_rfl) (by kernel_rfl) ⟨rfl,Qvq hz8,tv⟩ rfl) ?_
  refine wmr (mto (n:=21) (l':=[(4,Q9y x7 y3)]) (own':=[.own 1 [[I p1]],.own 1 [[I p2]]]) [(4,Q9y x7 y3)] [0,1] [.own 1 [[I p1]],.own 1 [[I p2]]] hq (pqi pn) (qbi (qbi qn)))<|Qad ?_
  obtain rfl:=osi h
  exact⟨_,Mor.rfl,fio [Q9y x7 y3] ⟨rot,tv⟩⟩
 refine wx tbk [(1,rp _ _)] ⟨alq 1 Qab p0 Xag,tv⟩<|Qaf ?_
 refine wmr (Mor.trans (Zbd 4 3 1 5 (by kernel_rfl) (by kernel_rfl)) (mto (n:=21) (l':=[(2,.ref 2 1 0 0),(3,.ref 3 1 0 0),(5,.gro 4 3 1 (([]:List Int).length)),(8,I (p0.length:Int)),(9,I 0)]) (own':=[.own 1 [[I p1]],.own 1 [[I p2]],Qxp p0,.own 1 [[Qww]],Zut]) [(2,.ref 2 1 0 0),(3,.ref 3 1 0 0),(5,.gro 4 3 1 (([]:List Int).length)),(8,I (p0.length:Int)),(9,I 0)] [0,1,2,3,4] [.own 1 [[I p1]],.own 1 [[I p2]],Qxp p0,.own 1 [[Qww]],Zut] hq (prr (prr (pc (.rn (Qp1 rfl)) (pw (pw pn))))) (qbi (qbi (qbi (qb (lc (.rn (Qby rn0 (rnc (rqr rfl) (rnc (rqr rfl) rn0)))) ln) (qc (Qm8 Qar) qn))))))) ?_
 refine Qbf (τ:=Int×(List Int)) (fun n t=>Qej N p0 k4 n t.1 t.2=some r) (fun ⟨y9,y10⟩=>⟨mk 21 [(2,.ref 2 1 0 0),(3,.ref 3 1 0 0),(5,.gro 4 3 1 y10.length),(8,I (p0.length:Int)),(9,I y9)],[.own 1 [[I p1]],.own 1 [[I p2]],Qxp p0,.own 1 [[Qww]],.gro 1 (y10.map Qab)]⟩) (fun t h=>by rw[Qej] at h;cases h) (fun n13 ih t h=>?_) N (0,([]:List Int)) h
 obtain⟨y9,y10⟩:=t
 rw[Qej] at h
 refine wxz<|wsq<|bfq h (fun c14 h=>?_) fun c14 h=>?_
 ·refine Qah<|thn<|wsq<|Qaf<|wxz ?_
  refine ckq h fun a15 h=>wx1 tbk [(2,rp [(.tmp 13,I y9)] (.dat 1 (([y9]:List Int).map Qab))),(3,⟨[(.tmp 12,.gro 4 3 1 y10.length),(.tmp 14,.dat 1 (([y9]:List Int).map Qab))],[(4,.gro 1 (y10.map Qab)),(5,.unused)],.gro 5 3 1 ((y10++([y9])).length),[(4,.dead),(5,.gro 1 ((y10++([y9]):List Int).map Qab))],false⟩)] ?_ ?_
  ·exact⟨Qds (vs:=[I y9]) rfl Xag ti3 tz3 rfl (by decide) rfl (by decide) (by rfl) (by rfl) (by rfl) rfl,Qzv (c:=Qab) (a:=y10) (b:=[y9]) rfl Xag te3 rfl (Qmz rfl) (by rfl) a15 (by decide),tv⟩
  exact bln<|thn<|wxz1<|thn<|arm (mto (n:=21) [(2,.ref 2 1 0 0),(3,.ref 3 1 0 0),(5,.gro 5 3 1 ((y10++([y9])).length)),(8,I (p0.length:Int)),(9,I (w64 (y9+1)))] [0,1,2,3,5] [.own 1 [[I p1]],.own 1 [[I p2]],Qxp p0,.own 1 [[Qww]],.gro 1 ((y10++([y9]):List Int).map Qab)] hq (prr (prr (pc (.rn (Qp1 rfl)) (pw (pw pn))))) (qbi (qbi (qbi (qb (lc (.rn (Qby rn0 (rnc (rqr rfl) (rnc (rqr rfl) rn0)))) ln) (qc (Qm8 Qar) qn)))))) (ih (w64 (y9+1),y10++([y9])) h)
 exact Qax<|Qan<|Qan<|Qaw rfl<|thn<|⟨y10,h,mto (n:=21) [(2,.ref 2 1 0 0),(3,.ref 3 1 0 0),(5,.gro 4 3 1 y10.length)] [0,1,2,3,4] [.own 1 [[I p1]],.own 1 [[I p2]],Qxp p0,.own 1 [[Qww]],.gro 1 (y10.map Qab)] hq (prr (prr (pc (.rn (Qp1 rfl)) pn))) (qbi (qbi (qbi (qb (lc (.rn (Qby rn0 (rnc (rqr rfl) (rnc (rqr rfl) rn0)))) ln) (qc (Qm8 Qar) qn)))))⟩
def Qf6 (N:Nat) (p1:List Int) (y6:Int) (k10:(List Int)->Option (List Int)) (x13:List Int):Nat->Int->(List Int)->Option (List Int)
 |0,_,_=>none
 |n19+1,y15,y16=>bif (decide (y15<(((x13).take (y6.toNat-0)).length:Int))) then (getI ((x13).take (y6.toNat-0)) y15).bind fun x21=>chk (decide (0<=x21)&&decide (x21.toNat<(p1.length:Int).toNat))<|(y16[x21.toNat]?).bind fun x26=>chk (decide (0<=x21)&&decide (x21.toNat<(p1.length:Int).toNat))<|(y16[x21.toNat]?).bind fun _=>Qf6 N p1 y6 k10 x13 n19 (w64 (y15+1)) (y16.set x21.toNat (w64 (x26+1))) else k10 y16
def Qf5 (N:Nat) (p0:Int) (p1:List Int) (y3:Int) (k8:Int×(List Int)->Option (List Int)):Nat->Int->Int->(List Int)->Option (List Int)
 |0,_,_,_=>none
 |n37+1,y31,y32,y33=>bif decide (y32<(p1.length:Int)) then (getI p1 y32).bind fun x39=>chk (y3 != 0)<|chk (decide (0<=y32)&&decide (y32.toNat<(p1.length:Int).toNat))<|(y33[y32.toNat]?).bind fun _=>chk (decide (0<=y32)&&decide (y32.toNat<(p1.length:Int).toNat))<|((y33.set y32.toNat (w64 ((w64 (p0*x39)).tdiv y3)))[y32.toNat]?).bind fun x48=>Qf5 N p0 p1 y3 k8 n37 (w64 (y31-x48)) (w64 (y32+1)) (y33.set y32.toNat (w64 ((w64 (p0*x39)).tdiv y3))) else k8 (y31,y33)
def Qf4 (N:Nat) (p1:List Int) (k4:Int->Option (List Int)):Nat->Int->Int->Option (List Int)
 |0,_,_=>none
 |n54+1,y50,y51=>bif decide (y50<(p1.length:Int)) then (getI p1 y50).bind fun x56=>Qf4 N p1 k4 n54 (w64 (y50+1)) (w64 (y51+x56)) else k4 y51
def Ql5 (N:Nat) (p0:Int) (p1:List Int):Option (List Int):=Qb0 (fun y3=>chk (decide (0<=(p1.length:Int))&&decide (8*(p1.length:Int)<=281474976710656)&&decide ((p1.length:Int)<=9223372036854775807))<|Qb0 (fun ⟨y6,y7⟩=>Qb0 (fun y9=>chk (decide ((p1.length:Int).toNat<=y9.length))<|some (y9.take ((p1.length:Int).toNat))) fun k10:(List Int)->Option (List Int)=>(Qih N p1 p0 y3).bind fun x13=>chk (decide (0<=0)&&decide (0<=y6)&&decide (y6<=(x13.length:Int)))<|Qf6 N p1 y6 k10 x13 N 0 y7) fun k8:Int×(List Int)->Option (List Int)=>Qf5 N p0 p1 y3 k8 N p0 0 (List.replicate (p1.length:Int).toNat 0)) fun k4:Int->Option (List Int)=>Qf4 N p1 k4 N 0 0
abbrev Zuu (p1:List Int):Slot:=.own 1 ((List.replicate (p1.length:Int).toNat 0:List Int).map Qab)
abbrev Q90 (y9 p1:List Int):AV:=.dat 1 ((y9.take ((p1.length:Int).toNat):List Int).map Qab)
abbrev Zos:AV:=.fn (.func 130) [] [.ref 0 1 (0) 0,.ref 1 1 (0) 0]
abbrev Q4c (x13:List Int) (y6:Int):AV:=.dat 1 (((x13).take (y6.toNat-0):List Int).map Qab)
abbrev Q9z (y33:List Int) (y32 p0:Int) (x39 y3:Int):Slot:=.own 1 ((y33.set y32.toNat (w64 ((w64 (p0*x39)).tdiv y3)):List Int).map Qab)
def Qwx (N:Nat) (p0:Int) (p1 r:List Int) (h:Ql5 N p0 p1=some r):Spec prog 123 [I p0,.dat 1 (p1.map Qab)] [] (.dat 1 (r.map Qab)) []:=by
 refine sF func123 0 fun _ _ _ hq hd0=>?_
 unfold Ql5 at h
 refine wxz<|wxz<|wjq h (fun y3=>⟨mk 68 [(1,.dat 1 (p1.map Qab)),(2,.ref 0 1 0 0),(5,.ref 1 1 0 0)],[.own 1 [[I p0]],.own 1 [[I y3]]]⟩) (fun y3 h=>?_) fun k4 h=>?_
 ·refine ckq h fun hm5 h=>wxd tbk [(1,rp _ _),(2,⟨[(.tmp 25,I (p1.length:Int)),(.tmp 25,I (p1.length:Int))],[(2,.unused)],.own 2 1 (0) ((p1.length:Int).toNat),[(2,Zuu p1)],false⟩)] ⟨alq 1 Qab p1 Xag,Qsh rfl Xag te3 tz3 rfl (Zd8 hm5) rfl (Zd7 hm5) (Zb8 hm5) (Q75 Qab rfl),tv⟩<|wjq h (fun ⟨y6,y7⟩=>⟨mk 68 [(1,.dat 1 (p1.map Qab)),(2,.ref 0 1 0 0),(5,.ref 1 1 0 0),(8,.own 2 1 (0) ((p1.length:Int).toNat)),(9,I y6)],[.own 1 [[I p0]],.own 1 [[I y3]],.own 1 (y7.map Qab)]⟩) (fun t h=>?_) fun k8 h=>?_
  ·obtain⟨y6,y7⟩:=t
   refine wjq h (fun y9=>⟨mk 68 [(8,.own 0 1 (0) ((p1.length:Int).toNat))],[.own 1 (y9.map Qab)]⟩) (fun y9 h=>?_) fun k10 h=>?_
   ·refine wxz<|ckq h fun hz11 h=>wmr (Zpw (n:=68) (l':=[(4,Q90 y9 p1)]) 0 [(4,.own 0 1 (0) ((p1.length:Int).toNat))] (by kernel_rfl) (by kernel_rfl) (by kernel_rfl) ⟨rfl,Qvq hz11,tv⟩ rfl) ?_
    refine wmr (mto (n:=68) (l':=[(4,Q90 y9 p1)]) (own':=[]) [(4,Q90 y9 p1)] [] [] hq (pqi pn) qn)<|Qad ?_
    obtain rfl:=osi h
    exact⟨_,Mor.rfl,fio [Q90 y9 p1] ⟨rot,tv⟩⟩
   refine bnq h fun x13 f12 h=>ckq h fun hs14 h=>?_
   refine wx tbk [(1,rp [(.tmp 2,.ref 0 1 0 0),(.tmp 5,.ref 1 1 0 0)] Zos),(2,⟨_,_,_,_,false⟩),(4,rp [(.tmp 52,.dat 1 (x13.map Qab)),(.tmp 53,I y6)] (Q4c x13 y6)),(5,rp _ _)] ⟨Qfp (fs:=[]) (cs:=[.ref 0 1 0 0,.ref 1 1 0 0]) rfl rfl rfl rfl,acq [.dat 1 (p1.map Qab),Zos] [.own 1 [[I p0]],.own 1 [[I y3]]] [.own 1 [[I p0]],.own 1 [[I y3]]] (.dat 1 (x13.map Qab)) [0,1] Zm0 (Qrb N p1 p0 y3 _ f12) (Qct (rnc (pld Qar) (rnc (Qby rn0 (rnc (Qa2 rfl) (rnc (Qa2 rfl) rn0))) rn0))) (sbi (sbi Qai)) (sbi (sbi Qai)) (pld Qar),Qwm (k:=.i64) (k':=.i64) (lo:=none) (hi:=some (.tmp 53)) (l:=0) (hh:=y6) rfl Xag ti3 rfl (fun _=>rfl) (fun e=>nomatch e) (Zd8 hs14) (Zd7 hs14) (Zwz Qab hs14) (Zyl Qab),alq 1 Qab ((x13).take (y6.toNat-0)) Xag,tv⟩<|Qaf ?_
   refine wmr (mto (n:=68) (l':=[(8,.own 0 1 (0) ((p1.length:Int).toNat)),(54,Q4c x13 y6),(55,I (((x13).take (y6.toNat-0)).length:Int)),(56,I 0)]) (own':=[.own 1 (y7.map Qab)]) [(8,.own 2 1 (0) ((p1.length:Int).toNat)),(54,Q4c x13 y6),(55,I (((x13).take (y6.toNat-0)).length:Int)),(56,I 0)] [2] [.own 1 (y7.map Qab)] hq (pc (.rn (Qas rfl)) (pqi (pw (pw pn)))) (qc (spr Qar) qn)) ?_
   refine Qbf (τ:=Int×(List Int)) (fun n t=>Qf6 N p1 y6 k10 x13 n t.1 t.2=some r) (fun ⟨y15,y16⟩=>⟨mk 68 [(8,.own 0 1 (0) ((p1.length:Int).toNat)),(54,Q4c x13 y6),(55,I (((x13).take (y6.toNat-0)).length:Int)),(56,I y15)],[.own 1 (y16.map Qab)]⟩) (fun t h=>by rw[Qf6] at h;cases h) (fun n19 ih t h=>?_) N (0,y7) h
   obtain⟨y15,y16⟩:=t
   rw[Qf6] at h
   refine wxz<|wsq<|bfq h (fun c20 h=>?_) fun c20 h=>?_
   ·refine Qah<|thn<|wsq<|Qaf ?_
    refine bgq h fun x21 i23 j24 h=>wx tbk [(0,rp _ _)] ⟨aiq Xag ti3 Qab i23 j24,tv⟩<|ckq h fun i25 h=>?_
    obtain⟨hi25a,hi25b⟩:=Qb6 i25
    refine bnq h fun x26 g27 h=>ckq h fun i28 h=>?_
    obtain⟨hi28a,hi28b⟩:=Qb6 i28
    exact bnq h fun x29 g30 h=>wx1 tbk [(2,rb [(.tmp 60,.own 0 1 (0) ((p1.length:Int).toNat)),(.tmp 61,I x21)] [(0,.own 1 (y16.map Qab))] (.ref 0 1 x21.toNat 0)),(3,rb [(.tmp 62,.ref 0 1 x21.toNat 0)] [(0,.own 1 (y16.map Qab))] (I x26)),(5,rb [(.tmp 60,.own 0 1 (0) ((p1.length:Int).toNat)),(.tmp 61,I x21)] [(0,.own 1 (y16.map Qab))] (.ref 0 1 x21.toNat 0)),(6,⟨[(.tmp 65,.ref 0 1 x21.toNat 0),(.tmp 64,I (w64 (x26+1)))],[(0,.own 1 (y16.map Qab))],.any,[(0,.own 1 ((y16.set x21.toNat (w64 (x26+1)):List Int).map Qab))],false⟩)] ⟨aio rfl Xag ti3 (odt hi25a) (odt hi25b) (Xar _),ald rfl ti3 (by decide) (mgt Qab g27) (nle rfl) rfl,aio rfl Xag ti3 (odt hi28a) (odt hi28b) (Xar _),ast rfl ti3 (by rfl) (mgt Qab g30) (nle rfl) (Qhv Qab rfl),tv⟩<|bln<|thn<|wxz1<|thn<|arm (mto (n:=68) [(8,.own 0 1 (0) ((p1.length:Int).toNat)),(54,Q4c x13 y6),(55,I (((x13).take (y6.toNat-0)).length:Int)),(56,I (w64 (y15+1)))] [0] [.own 1 ((y16.set x21.toNat (w64 (x26+1)):List Int).map Qab)] hq (pc (.rn (Qas rfl)) (pqi (pw (pw pn)))) (qc (spr Qar) qn)) (ih (w64 (y15+1),y16.set x21.toNat (w64 (x26+1))) h)
   exact Qax<|Qan<|Qan<|Qaw rfl<|thn<|⟨y16,h,mto (n:=68) [(8,.own 0 1 (0) ((p1.length:Int).toNat))] [0] [.own 1 (y16.map Qab)] hq (pc (.rn (Qas rfl)) pn) (qc (spr Qar) qn)⟩
  refine wx tbk [(1,rp _ _)] ⟨alq 1 Qab p1 Xag,tv⟩<|Qaf ?_
  refine wmr (mto (n:=68) (l':=[(1,.dat 1 (p1.map Qab)),(2,.ref 0 1 0 0),(5,.ref 1 1 0 0),(8,.own 2 1 (0) ((p1.length:Int).toNat)),(9,I p0),(28,.dat 1 (p1.map Qab)),(29,I (p1.length:Int)),(30,I 0)]) (own':=[.own 1 [[I p0]],.own 1 [[I y3]],.own 1 ((List.replicate (p1.length:Int).toNat 0:List Int).map Qab)]) [(1,.dat 1 (p1.map Qab)),(2,.ref 0 1 0 0),(5,.ref 1 1 0 0),(8,.own 2 1 (0) ((p1.length:Int).toNat)),(9,I p0),(28,.dat 1 (p1.map Qab)),(29,I (p1.length:Int)),(30,I 0)] [0,1,2] [.own 1 [[I p0]],.own 1 [[I y3]],Zuu p1] hq (pqi (prr (prr (pc (.rn (Qas rfl)) (pw (pqi (pw (pw pn)))))))) (qbi (qbi (qc (spr Qar) qn)))) ?_
  refine Qbf (τ:=Int×Int×(List Int)) (fun n t=>Qf5 N p0 p1 y3 k8 n t.1 t.2.1 t.2.2=some r) (fun ⟨y31,y32,y33⟩=>⟨mk 68 [(1,.dat 1 (p1.map Qab)),(2,.ref 0 1 0 0),(5,.ref 1 1 0 0),(8,.own 2 1 (0) ((p1.length:Int).toNat)),(9,I y31),(28,.dat 1 (p1.map Qab)),(29,I (p1.length:Int)),(30,I y32)],[.own 1 [[I p0]],.own 1 [[I y3]],.own 1 (y33.map Qab)]⟩) (fun t h=>by rw[Qf5] at h;cases h) (fun n37 ih t h=>?_) N (p0,0,List.replicate (p1.length:Int).toNat 0) h
  obtain⟨y31,y32,y33⟩:=t
  rw[Qf5] at h
  refine wxz<|wsq<|bfq h (fun c38 h=>?_) fun c38 h=>?_
  ·refine Qah<|thn<|wsq<|Qaf ?_
   refine bgq h fun x39 i41 j42 h=>wx tbk [(1,rp _ _)] ⟨aiq Xag ti3 Qab i41 j42,tv⟩<|ckq h fun hz43 h=>ckq h fun i44 h=>?_
   obtain⟨hi44a,hi44b⟩:=Qb6 i44
   refine bnq h fun x45 g46 h=>wx tbk [(6,rp [(.tmp 39,I (w64 (p0*x39))),(.tmp 40,I y3)] (I (w64 ((w64 (p0*x39)).tdiv y3)))),(7,rb [(.tmp 35,.own 2 1 (0) ((p1.length:Int).toNat)),(.tmp 36,I y32)] [(2,.own 1 (y33.map Qab))] (.ref 2 1 y32.toNat 0)),(8,⟨[(.tmp 42,.ref 2 1 y32.toNat 0),(.tmp 41,I (w64 ((w64 (p0*x39)).tdiv y3)))],[(2,.own 1 (y33.map Qab))],.any,[(2,Q9z y33 y32 p0 x39 y3)],false⟩)] ⟨Qr3 rfl (Qzj hz43),aio rfl Xag ti3 (odt hi44a) (odt hi44b) (Xar _),ast rfl ti3 (by rfl) (mgt Qab g46) (nle rfl) (Qhv Qab rfl),tv⟩<|ckq h fun i47 h=>?_
   obtain⟨hi47a,hi47b⟩:=Qb6 i47
   exact bnq h fun x48 g49 h=>wx1 tbk [(3,rb [(.tmp 44,.own 2 1 (0) ((p1.length:Int).toNat)),(.tmp 45,I y32)] [(2,Q9z y33 y32 p0 x39 y3)] (.ref 2 1 y32.toNat 0)),(4,rb [(.tmp 46,.ref 2 1 y32.toNat 0)] [(2,Q9z y33 y32 p0 x39 y3)] (I x48))] ⟨aio rfl Xag ti3 (odt hi47a) (odt hi47b) (Xar _),ald rfl ti3 (by decide) (mgt Qab g49) (nle rfl) rfl,tv⟩<|bln<|thn<|wxz1<|thn<|arm (mto (n:=68) [(1,.dat 1 (p1.map Qab)),(2,.ref 0 1 0 0),(5,.ref 1 1 0 0),(8,.own 2 1 (0) ((p1.length:Int).toNat)),(9,I (w64 (y31-x48))),(28,.dat 1 (p1.map Qab)),(29,I (p1.length:Int)),(30,I (w64 (y32+1)))] [0,1,2] [.own 1 [[I p0]],.own 1 [[I y3]],Q9z y33 y32 p0 x39 y3] hq (pqi (prr (prr (pc (.rn (Qas rfl)) (pw (pqi (pw (pw pn)))))))) (qbi (qbi (qc (spr Qar) qn)))) (ih (w64 (y31-x48),w64 (y32+1),y33.set y32.toNat (w64 ((w64 (p0*x39)).tdiv y3))) h)
  exact Qax<|Qan<|Qan<|Qaw rfl<|thn<|⟨(y31,y33),h,mto (n:=68) [(1,.dat 1 (p1.map Qab)),(2,.ref 0 1 0 0),(5,.ref 1 1 0 0),(8,.own 2 1 (0) ((p1.length:Int).toNat)),(9,I y31)] [0,1,2] [.own 1 [[I p0]],.own 1 [[I y3]],.own 1 (y33.map Qab)] hq (pqi (prr (prr (pc (.rn (Qas rfl)) (pw pn))))) (qbi (qbi (qc (spr Qar) qn)))⟩
 refine wx tbk [(1,rp _ _)] ⟨alq 1 Qab p1 Xag,tv⟩<|Qaf ?_
 refine wmr (mto (n:=68) (l':=[(1,.dat 1 (p1.map Qab)),(2,.ref 0 1 0 0),(5,.ref 1 1 0 0),(14,.dat 1 (p1.map Qab)),(15,I (p1.length:Int)),(16,I 0)]) (own':=[.own 1 [[I p0]],.own 1 [[I 0]]]) [(1,.dat 1 (p1.map Qab)),(2,.ref 0 1 0 0),(5,.ref 1 1 0 0),(14,.dat 1 (p1.map Qab)),(15,I (p1.length:Int)),(16,I 0)] [0,1] [.own 1 [[I p0]],.own 1 [[I 0]]] hq (pqi (prr (prr (pqi (pw (pw pn)))))) (qbi (qbi qn))) ?_
 refine Qbf (τ:=Int×Int) (fun n t=>Qf4 N p1 k4 n t.1 t.2=some r) (fun ⟨y50,y51⟩=>⟨mk 68 [(1,.dat 1 (p1.map Qab)),(2,.ref 0 1 0 0),(5,.ref 1 1 0 0),(14,.dat 1 (p1.map Qab)),(15,I (p1.length:Int)),(16,I y50)],[.own 1 [[I p0]],.own 1 [[I y51]]]⟩) (fun t h=>by rw[Qf4] at h;cases h) (fun n54 ih t h=>?_) N (0,0) h
 obtain⟨y50,y51⟩:=t
 rw[Qf4] at h
 refine wxz<|wsq<|bfq h (fun c55 h=>?_) fun c55 h=>?_
 ·refine Qah<|thn<|wsq<|Qaf ?_
  exact bgq h fun x56 i58 j59 h=>wx tbk [(0,rp _ _)] ⟨aiq Xag ti3 Qab i58 j59,tv⟩<|wxz1<|bln<|thn<|wxz1<|thn<|arm (mto (n:=68) [(1,.dat 1 (p1.map Qab)),(2,.ref 0 1 0 0),(5,.ref 1 1 0 0),(14,.dat 1 (p1.map Qab)),(15,I (p1.length:Int)),(16,I (w64 (y50+1)))] [0,1] [.own 1 [[I p0]],.own 1 [[I (w64 (y51+x56))]]] hq (pqi (prr (prr (pqi (pw (pw pn)))))) (qbi (qbi qn))) (ih (w64 (y50+1),w64 (y51+x56)) h)
 exact Qax<|Qan<|Qan<|Qaw rfl<|thn<|⟨y51,h,mto (n:=68) [(1,.dat 1 (p1.map Qab)),(2,.ref 0 1 0 0),(5,.ref 1 1 0 0)] [0,1] [.own 1 [[I p0]],.own 1 [[I y51]]] hq (pqi (prr (prr pn))) (qbi (qbi qn))⟩
def Qhu (_N:Nat) (p0 p1:Int) (p2 _p3:Int) (_p4 _p5:Int):Option Int:=chk ((if p2>1 then p2 else 1) != 0)<|(some (w64 ((w64 (p0*p1)).tdiv (if p2>1 then p2 else 1)))).bind fun x2=>some x2
def Qlq (N:Nat) (p0 p1:Int) (p2 p3:Int) (p4 p5 r:Int) (h:Qhu N p0 p1 p2 p3 p4 p5=some r):Spec prog 124 [I p0,.dptr [I p1] 0,.dptr [I p2,I p3,I p4,I p5] 0] [] (I r) []:=by
 refine sA func124 0 fun _ _ _ hq hd0=>?_
 unfold Qhu at h
 refine wxz<|ckq h fun hz1 h=>bnq h fun x2 hl3 h=>?_
 refine wx tbk [(5,rp [ci 1,(.tmp 9,I p2)] (I (if p2>1 then p2 else 1))),(6,rp [(.tmp 7,I (w64 (p0*p1))),(.tmp 10,I (if p2>1 then p2 else 1))] (I (w64 ((w64 (p0*p1)).tdiv (if p2>1 then p2 else 1))))),(7,rp [(.tmp 11,I (w64 ((w64 (p0*p1)).tdiv (if p2>1 then p2 else 1))))] (I x2))] ⟨Qux rfl,Qr3 rfl (Qzj hz1),Qhz hl3 (aas rfl),tv⟩<|Qad ?_
 obtain rfl:=osi h
 exact fend ⟨[I x2],⟨rot,tv⟩,rfl⟩ nll
def Qee (_N:Nat) (_p0 _p1:Int) (_p2 _p3:Int):Option Unit:=some ()
abbrev Q4a (p0 p1:Int) (p2 p3:Int):Slot:=.own 4 [[I p0,I p1,I p2,I p3]]
abbrev Zqh:AV:=.agg [.ref 0 4 (0) 0,.ref 0 4 (0) 1,.ref 0 4 (0) 2,.ref 0 4 (0) 3]
abbrev Zqg:Slot:=.own 4 [[.ref 0 4 (0) 0,.ref 0 4 (0) 1,.ref 0 4 (0) 2,.ref 0 4 (0) 3]]
def Qfq (N:Nat) (p0 p1:Int) (p2 p3:Int) (r:Unit) (h:Qee N p0 p1 p2 p3=some r):Spec prog 132 [.ref 0 4 (0) 0] [Q4a p0 p1 p2 p3] Zqh [Q4a p0 p1 p2 p3,Zqg]:=by
 refine sF func132 2 fun _ _ _ hq hd0=>?_
 unfold Qee at h
 refine wxz<|wxd tbk [(1,rb [(.tmp 3,.ref 0 4 0 0)] [(0,Q4a p0 p1 p2 p3)] (.ref 0 4 0 0)),(4,rb [(.tmp 6,.ref 0 4 0 0)] [(0,Q4a p0 p1 p2 p3)] (.ref 0 4 0 0)),(7,rb [(.tmp 9,.ref 0 4 0 0)] [(0,Q4a p0 p1 p2 p3)] (.ref 0 4 0 0)),(10,rb [(.tmp 12,.ref 0 4 0 0)] [(0,Q4a p0 p1 p2 p3)] (.ref 0 4 0 0)),(12,rp [(.tmp 5,.ref 0 4 0 0),(.tmp 8,.ref 0 4 0 1),(.tmp 11,.ref 0 4 0 2),(.tmp 14,.ref 0 4 0 3)] Zqh)] ⟨Qbi rfl,Qbi rfl,Qbi rfl,Qbi rfl,Qwp (vs:=[.ref 0 4 0 0,.ref 0 4 0 1,.ref 0 4 0 2,.ref 0 4 0 3]) rfl Xc1 Qz4 Zvl rfl (by rfl) rfl,tv⟩ ?_
 refine wmr (mto (n:=16) (l':=[(2,.ref 1 4 0 0)]) (own':=[Q4a p0 p1 p2 p3,Zqg]) [(2,.ref 1 4 0 0)] [0,1] [Q4a p0 p1 p2 p3,Zqg] hq (prr pn) (qbi (qb (lc (.rn (rqr rfl)) (lc (.rn (rqr rfl)) (lc (.rn (rqr rfl)) (lc (.rn (rqr rfl)) ln)))) qn)))<|Qad ?_
 obtain rfl:=osi h
 exact⟨_,Mor.rfl,fio [Zqh] ⟨Qbv (n:=1) (m:=4) (j:=0) (i:=0) (xs:=[[.ref 0 4 0 0,.ref 0 4 0 1,.ref 0 4 0 2,.ref 0 4 0 3]]) (by kernel_rfl) (by kernel_rfl) Zvs (by decide) rfl (nle rfl) rfl,tv⟩⟩
def Qm4 (N:Nat) (p0:Qaa) (p1 p2:Int) (p3 p4:Int):Option Unit:=(Qee N p0.Mass p0.Heat p0.Silica p0.Gas).bind fun _=>(Qee N p1 p2 p3 p4).bind fun _=>(Qee N (w64 (p1+p0.Mass)) p2 p3 p4).bind fun _=>(Qee N (w64 (p1+p0.Mass)) (w64 (p2+p0.Heat)) p3 p4).bind fun _=>(Qee N (w64 (p1+p0.Mass)) (w64 (p2+p0.Heat)) (w64 (p3+p0.Silica)) p4).bind fun _=>some ()
abbrev Ze9 (p1 p2:Int) (p3 p4:Int):Slot:=.own 4 [[I p1,I p2,I p3,I p4]]
abbrev Zfb (p1:Int) (p0:Qaa) (p2 p3 p4:Int):Slot:=.own 4 [[I (w64 (p1+p0.Mass)),I (w64 (p2+p0.Heat)),I (w64 (p3+p0.Silica)),I (w64 (p4+p0.Gas))]]
abbrev Zcg (p0:Qaa):Slot:=.own 4 [[I p0.Mass,I p0.Heat,I p0.Silica,I p0.Gas]]
abbrev Zfa:AV:=.agg [.ref 1 4 (0) 0,.ref 1 4 (0) 1,.ref 1 4 (0) 2,.ref 1 4 (0) 3]
abbrev Zxh:Slot:=.own 4 [[.ref 1 4 (0) 0,.ref 1 4 (0) 1,.ref 1 4 (0) 2,.ref 1 4 (0) 3]]
abbrev Q4b:AV:=.agg [.ref 0 4 (0) 0,.ref 0 4 (0) 1,.ref 0 4 (0) 2,.ref 0 4 (0) 3]
abbrev Zk1:Slot:=.own 4 [[.ref 0 4 (0) 0,.ref 0 4 (0) 1,.ref 0 4 (0) 2,.ref 0 4 (0) 3]]
abbrev Zk0 (p1:Int) (p0:Qaa) (p2 p3 p4:Int):Slot:=.own 4 [[I (w64 (p1+p0.Mass)),I p2,I p3,I p4]]
abbrev Zkz (p1:Int) (p0:Qaa) (p2 p3 p4:Int):Slot:=.own 4 [[I (w64 (p1+p0.Mass)),I (w64 (p2+p0.Heat)),I p3,I p4]]
abbrev Zky (p1:Int) (p0:Qaa) (p2 p3 p4:Int):Slot:=.own 4 [[I (w64 (p1+p0.Mass)),I (w64 (p2+p0.Heat)),I (w64 (p3+p0.Silica)),I p4]]
def Qu8 (N:Nat) (p0:Qaa) (p1 p2:Int) (p3 p4:Int) (r:Unit) (h:Qm4 N p0 p1 p2 p3 p4=some r):Spec prog 131 [.agg [I p0.Mass,I p0.Heat,I p0.Silica,I p0.Gas],.ref 0 4 (0) 0] [Ze9 p1 p2 p3 p4] (.tup []) [Zfb p1 p0 p2 p3 p4]:=by
 refine sF func131 1 fun _ _ _ hq hd0=>?_
 unfold Qm4 at h
 refine wxz<|bnq h fun x2 f1 h=>?_
 refine wx tbk [(0,⟨_,_,_,_,false⟩)] ⟨acq [.ref 1 4 0 0] [Zcg p0] [Zcg p0,Zxh] Zfa [1,2] Qul (Qfq N p0.Mass p0.Heat p0.Silica p0.Gas _ f1) (Qct (rnc (Qa2 rfl) rn0)) (sbi Qai) (sbi (slc (Qcr (rnc (Qb7 rfl) (rnc (Qb7 rfl) (rnc (Qb7 rfl) (rnc (Qb7 rfl) rn0))))) Qai)) (Qct (rnc (Qb7 rfl) (rnc (Qb7 rfl) (rnc (Qb7 rfl) (rnc (Qb7 rfl) rn0))))),tv⟩<|Qaf<|Q3u 17<|Qzy<|wxz<|wsq<|wtr<|Qah<|thn<|wsq ?_
 refine Qaf<|wx tbk [(1,rp [(.tmp 5,Zfa),(.tmp 6,I 0)] (.ref 1 4 0 0))] ⟨Qk6 rfl Xc1 Qz4 (by decide) (by decide) (nle rfl) (by decide) rfl,tv⟩ ?_
 refine bnq h fun x4 f3 h=>?_
 refine wy1 tbk [(0,⟨_,_,_,_,false⟩),(2,rp [(.tmp 10,Q4b),(.tmp 11,I 0)] (.ref 0 4 0 0)),(3,rb [(.tmp 12,.ref 0 4 0 0)] [(0,Ze9 p1 p2 p3 p4)] (.ref 0 4 0 0)),(6,rb [(.tmp 15,.ref 1 4 0 0)] [(1,Zcg p0)] (.ref 1 4 0 0)),(9,rb [(.tmp 12,.ref 0 4 0 0)] [(0,Ze9 p1 p2 p3 p4)] (.ref 0 4 0 0))] ⟨acq [.ref 0 4 0 0] [Ze9 p1 p2 p3 p4] [Ze9 p1 p2 p3 p4,Zk1] Q4b [0,3] Qul (Qfq N p1 p2 p3 p4 _ f3) (Qct (rnc (Qa2 rfl) rn0)) (sbi Qai) (sbi (slc (Qcr (rnc (Qb7 rfl) (rnc (Qb7 rfl) (rnc (Qb7 rfl) (rnc (Qb7 rfl) rn0))))) Qai)) (Qct (rnc (Qb7 rfl) (rnc (Qb7 rfl) (rnc (Qb7 rfl) (rnc (Qb7 rfl) rn0))))),Qk6 rfl Xc1 Qz4 (by decide) (by decide) (nle rfl) (by decide) rfl,Qbi rfl,Qbi rfl,Qbi rfl,tv⟩<|bln<|thn<|wxz1<|thn<|Qzy<|wxz<|wsq<|wtr<|Qah ?_
 refine thn<|wsq<|Qaf ?_
 refine wx tbk [(1,rp [(.tmp 5,Zfa),(.tmp 6,I 1)] (.ref 1 4 0 1))] ⟨Qk6 rfl Xc1 Qz4 (by decide) (by decide) (nle rfl) (by decide) rfl,tv⟩<|bnq h fun x6 f5 h=>?_
 refine wy1 tbk [(0,⟨_,_,_,_,false⟩),(2,rp [(.tmp 10,Q4b),(.tmp 11,I 1)] (.ref 0 4 0 1)),(3,rb [(.tmp 12,.ref 0 4 0 1)] [(0,Zk0 p1 p0 p2 p3 p4)] (.ref 0 4 0 1)),(6,rb [(.tmp 15,.ref 1 4 0 1)] [(1,Zcg p0)] (.ref 1 4 0 1)),(9,rb [(.tmp 12,.ref 0 4 0 1)] [(0,Zk0 p1 p0 p2 p3 p4)] (.ref 0 4 0 1))] ⟨acq [.ref 0 4 0 0] [Zk0 p1 p0 p2 p3 p4] [Zk0 p1 p0 p2 p3 p4,Zk1] Q4b [0,4] Qul (Qfq N (w64 (p1+p0.Mass)) p2 p3 p4 _ f5) (Qct (rnc (Qa2 rfl) rn0)) (sbi Qai) (sbi (slc (Qcr (rnc (Qb7 rfl) (rnc (Qb7 rfl) (rnc (Qb7 rfl) (rnc (Qb7 rfl) rn0))))) Qai)) (Qct (rnc (Qb7 rfl) (rnc (Qb7 rfl) (rnc (Qb7 rfl) (rnc (Qb7 rfl) rn0))))),Qk6 rfl Xc1 Qz4 (by decide) (by decide) (nle rfl) (by decide) rfl,Qbi rfl,Qbi rfl,Qbi rfl,tv⟩<|bln<|thn<|wxz1<|thn<|Qzy<|wxz<|wsq<|wtr<|Qah ?_
 refine thn<|wsq<|Qaf ?_
 refine wx tbk [(1,rp [(.tmp 5,Zfa),(.tmp 6,I 2)] (.ref 1 4 0 2))] ⟨Qk6 rfl Xc1 Qz4 (by decide) (by decide) (nle rfl) (by decide) rfl,tv⟩<|bnq h fun x8 f7 h=>?_
 refine wy1 tbk [(0,⟨_,_,_,_,false⟩),(2,rp [(.tmp 10,Q4b),(.tmp 11,I 2)] (.ref 0 4 0 2)),(3,rb [(.tmp 12,.ref 0 4 0 2)] [(0,Zkz p1 p0 p2 p3 p4)] (.ref 0 4 0 2)),(6,rb [(.tmp 15,.ref 1 4 0 2)] [(1,Zcg p0)] (.ref 1 4 0 2)),(9,rb [(.tmp 12,.ref 0 4 0 2)] [(0,Zkz p1 p0 p2 p3 p4)] (.ref 0 4 0 2))] ⟨acq [.ref 0 4 0 0] [Zkz p1 p0 p2 p3 p4] [Zkz p1 p0 p2 p3 p4,Zk1] Q4b [0,5] Qul (Qfq N (w64 (p1+p0.Mass)) (w64 (p2+p0.Heat)) p3 p4 _ f7) (Qct (rnc (Qa2 rfl) rn0)) (sbi Qai) (sbi (slc (Qcr (rnc (Qb7 rfl) (rnc (Qb7 rfl) (rnc (Qb7 rfl) (rnc (Qb7 rfl) rn0))))) Qai)) (Qct (rnc (Qb7 rfl) (rnc (Qb7 rfl) (rnc (Qb7 rfl) (rnc (Qb7 rfl) rn0))))),Qk6 rfl Xc1 Qz4 (by decide) (by decide) (nle rfl) (by decide) rfl,Qbi rfl,Qbi rfl,Qbi rfl,tv⟩<|bln<|thn<|wxz1<|thn<|Qzy<|wxz<|wsq<|wtr<|Qah ?_
 refine thn<|wsq<|Qaf ?_
 refine wx tbk [(1,rp [(.tmp 5,Zfa),(.tmp 6,I 3)] (.ref 1 4 0 3))] ⟨Qk6 rfl Xc1 Qz4 (by decide) (by decide) (nle rfl) (by decide) rfl,tv⟩<|bnq h fun x10 f9 h=>?_
 refine wy1 tbk [(0,⟨_,_,_,_,false⟩),(2,rp [(.tmp 10,Q4b),(.tmp 11,I 3)] (.ref 0 4 0 3)),(3,rb [(.tmp 12,.ref 0 4 0 3)] [(0,Zky p1 p0 p2 p3 p4)] (.ref 0 4 0 3)),(6,rb [(.tmp 15,.ref 1 4 0 3)] [(1,Zcg p0)] (.ref 1 4 0 3)),(9,rb [(.tmp 12,.ref 0 4 0 3)] [(0,Zky p1 p0 p2 p3 p4)] (.ref 0 4 0 3))] ⟨acq [.ref 0 4 0 0] [Zky p1 p0 p2 p3 p4] [Zky p1 p0 p2 p3 p4,Zk1] Q4b [0,6] Qul (Qfq N (w64 (p1+p0.Mass)) (w64 (p2+p0.Heat)) (w64 (p3+p0.Silica)) p4 _ f9) (Qct (rnc (Qa2 rfl) rn0)) (sbi Qai) (sbi (slc (Qcr (rnc (Qb7 rfl) (rnc (Qb7 rfl) (rnc (Qb7 rfl) (rnc (Qb7 rfl) rn0))))) Qai)) (Qct (rnc (Qb7 rfl) (rnc (Qb7 rfl) (rnc (Qb7 rfl) (rnc (Qb7 rfl) rn0))))),Qk6 rfl Xc1 Qz4 (by decide) (by decide) (nle rfl) (by decide) rfl,Qbi rfl,Qbi rfl,Qbi rfl,tv⟩<|bln<|thn<|wxz1<|thn<|Qzy<|wxz<|wsq<|wfa<|Qax ?_
 refine Qan<|Qan<|Qaw rfl ?_
 obtain rfl:=osi h
 exact⟨_,mto (n:=21) (l':=[]) (own':=[Zfb p1 p0 p2 p3 p4]) [] [0] [Zfb p1 p0 p2 p3 p4] hq pn (qbi qn),fio [] tv⟩
def Qht (N:Nat) (p0:List Qaa) (k5:Int×Int×Int×Int->Option Qaa):Nat->Int->Int->Int->Int->Int->Option Qaa
 |0,_,_,_,_,_=>none
 |n16+1,y6,y7,y8,y9,y10=>bif decide (y6<(p0.length:Int)) then (getI p0 y6).bind fun x18=>(Qm4 N x18 y7 y8 y9 y10).bind fun _=>Qht N p0 k5 n16 (w64 (y6+1)) (w64 (y7+x18.Mass)) (w64 (y8+x18.Heat)) (w64 (y9+x18.Silica)) (w64 (y10+x18.Gas)) else k5 (y7,y8,y9,y10)
def Qof (N:Nat) (p0:List Qaa):Option Qaa:=Qb0 (fun ⟨y1,y2,y3,y4⟩=>some (⟨y1,y2,y3,y4⟩:Qaa)) fun k5:Int×Int×Int×Int->Option Qaa=>Qht N p0 k5 N 0 0 0 0 0
abbrev Zfd:AV:=.fn (.func 131) [] [.ref 0 4 (0) 0]
abbrev Zk2 (p0:List Qaa):AV:=.dat 4 (p0.map Qag)
abbrev Zur:Slot:=.own 4 [[I (0),I (0),I (0),I (0)]]
abbrev Zfc (y7 y8:Int) (y9 y10:Int):Slot:=.own 4 [[I y7,I y8,I y9,I y10]]
abbrev Zuq (x18:Qaa):AV:=.agg [I x18.Mass,I x18.Heat,I x18.Silica,I x18.Gas]
abbrev Zor (y7:Int) (x18:Qaa) (y8 y9 y10:Int):Slot:=.own 4 [[I (w64 (y7+x18.Mass)),I (w64 (y8+x18.Heat)),I (w64 (y9+x18.Silica)),I (w64 (y10+x18.Gas))]]
def Q2l (N:Nat) (p0:List Qaa) (r:Qaa) (h:Qof N p0=some r):Spec prog 125 [.dat 4 (p0.map Qag)] [] (.agg (Qag r)) []:=by
 refine sA func125 0 fun _ _ _ hq hd0=>?_
 unfold Qof at h
 refine wxz<|wx tbk [(0,rp [(.tmp 2,.ref 0 4 0 0)] Zfd)] ⟨Qfp (fs:=[]) (cs:=[.ref 0 4 0 0]) rfl rfl rfl rfl,tv⟩<|wjq h (fun ⟨y1,y2,y3,y4⟩=>⟨mk 18 [(2,.ref 0 4 0 0)],[.own 4 [[I y1,I y2,I y3,I y4]]]⟩) (fun t h=>?_) fun k5 h=>?_
 ·obtain⟨y1,y2,y3,y4⟩:=t
  refine wxz<|Qad ?_
  obtain rfl:=osi h
  exact fie [.agg [I y1,I y2,I y3,I y4]] ⟨Qbv (n:=0) (m:=4) (j:=0) (i:=0) (xs:=[[I y1,I y2,I y3,I y4]]) (by kernel_rfl) (by kernel_rfl) ti40 (by decide) rfl (nle rfl) rfl,tv⟩
 refine wx tbk [(1,rp _ _)] ⟨alq 4 Qag p0 Xa4,tv⟩<|Qaf ?_
 refine wmr (mto (n:=18) (l':=[(2,.ref 0 4 0 0),(3,Zfd),(7,Zk2 p0),(8,I (p0.length:Int)),(9,I 0)]) (own':=[Zur]) [(2,.ref 0 4 0 0),(3,Zfd),(7,Zk2 p0),(8,I (p0.length:Int)),(9,I 0)] [0] [Zur] hq (prr (pc (.rn (Qby rn0 (rnc (rqr rfl) rn0))) (pqi (pw (pw pn))))) (qbi qn)) ?_
 refine Qbf (τ:=Int×Int×Int×Int×Int) (fun n t=>Qht N p0 k5 n t.1 t.2.1 t.2.2.1 t.2.2.2.1 t.2.2.2.2=some r) (fun ⟨y6,y7,y8,y9,y10⟩=>⟨mk 18 [(2,.ref 0 4 0 0),(3,Zfd),(7,Zk2 p0),(8,I (p0.length:Int)),(9,I y6)],[Zfc y7 y8 y9 y10]⟩) (fun t h=>by rw[Qht] at h;cases h) (fun n16 ih t h=>?_) N (0,0,0,0,0) h
 obtain⟨y6,y7,y8,y9,y10⟩:=t
 rw[Qht] at h
 refine wxz<|wsq<|bfq h (fun c17 h=>?_) fun c17 h=>?_
 ·refine Qah<|thn<|wsq<|Qaf ?_
  exact bgq h fun x18 i20 j21 h=>wx tbk [(0,rp _ _)] ⟨aiq Xa4 ti40 Qag i20 j21,tv⟩<|bnq h fun x23 f22 h=>wx1 tbk [(2,⟨_,_,_,_,false⟩)] ⟨Qd5 (first:=[]) (cap:=[.ref 0 4 0 0]) (vs:=[Zuq x18]) (σr:=[Zfc y7 y8 y9 y10]) (σr':=[Zor y7 x18 y8 y9 y10]) (res':=(.tup [])) [0] rfl Zmz (Qu8 N x18 y7 y8 y9 y10 _ f22) rfl (Qct (rnc pli (rnc (Qa2 rfl) rn0))) (sbi Qai) (sbi Qai) pli rfl rfl rfl,tv⟩<|bln<|thn<|wxz1<|thn<|arm (mto (n:=18) [(2,.ref 0 4 0 0),(3,Zfd),(7,Zk2 p0),(8,I (p0.length:Int)),(9,I (w64 (y6+1)))] [0] [Zor y7 x18 y8 y9 y10] hq (prr (pc (.rn (Qby rn0 (rnc (rqr rfl) rn0))) (pqi (pw (pw pn))))) (qbi qn)) (ih (w64 (y6+1),w64 (y7+x18.Mass),w64 (y8+x18.Heat),w64 (y9+x18.Silica),w64 (y10+x18.Gas)) h)
 exact Qax<|Qan<|Qan<|Qaw rfl<|thn<|⟨(y7,y8,y9,y10),h,mto (n:=18) [(2,.ref 0 4 0 0)] [0] [Zfc y7 y8 y9 y10] hq (prr pn) (qbi qn)⟩
def Qgl (N:Nat) (p0:Qaa) (k3:(List Qaa)->Option ((List Qaa)×Qrg×Int)) (x7:List Int):Nat->(List Qaa)->Int->Option ((List Qaa)×Qrg×Int)
 |0,_,_=>none
 |n12+1,y8,y9=>bif decide (y9<(x7.length:Int)) then (getI x7 y9).bind fun x14=>(Qhu N p0.Heat x14 p0.Mass p0.Heat p0.Silica p0.Gas).bind fun x19=>(Qhu N p0.Silica x14 p0.Mass p0.Heat p0.Silica p0.Gas).bind fun x21=>(Qhu N p0.Gas x14 p0.Mass p0.Heat p0.Silica p0.Gas).bind fun x23=>chk (decide ((y8.length+([(⟨x14,x19,x21,x23⟩:Qaa)]).length)*32<=140737488355328))<|Qgl N p0 k3 x7 n12 (y8++([(⟨x14,x19,x21,x23⟩:Qaa)])) (w64 (y9+1)) else k3 y8
def Qnh (N:Nat) (p0:Qaa) (p1:List Int):Option ((List Qaa)×Qrg×Int):=Qb0 (fun _=>Qb0 (fun y2=>(Qof N y2).bind fun x5=>some (y2,(⟨w64 (p0.Heat-x5.Heat),w64 (p0.Silica-x5.Silica),w64 (p0.Gas-x5.Gas)⟩:Qrg),0)) fun k3:(List Qaa)->Option ((List Qaa)×Qrg×Int)=>(Ql5 N p0.Mass p1).bind fun x7=>Qgl N p0 k3 x7 N ([]) 0) fun k1:Unit->Option ((List Qaa)×Qrg×Int)=>(Qf7 N p0).bind fun x26=>bif !x26 then some ([],(⟨0,0,0⟩:Qrg),1) else bif decide ((p1.length:Int)>20) then some ([],(⟨0,0,0⟩:Qrg),1) else (Qj5 N p1).bind fun x30=>bif !x30 then some ([],(⟨0,0,0⟩:Qrg),1) else (Qd6 N p1).bind fun x33=>bif !x33 then some ([],(⟨0,0,0⟩:Qrg),1) else k1 ()
abbrev Qxq (p0:Qaa):Slot:=.own 4 [[I p0.Mass,I p0.Heat,I p0.Silica,I p0.Gas]]
abbrev Q4d:Slot:=.own 3 [[I (0),I (0),I (0)]]
abbrev Zuy (p0 x5:Qaa):AV:=.agg [I (w64 (p0.Heat-x5.Heat)),I (w64 (p0.Silica-x5.Silica)),I (w64 (p0.Gas-x5.Gas))]
abbrev Zk7:AV:=.fn (.func 124) [] [.ref 3 1 (0) 0,.ref 0 4 (0) 0]
abbrev Zfi (x14:Int) (p0:Qaa):AV:=.fn (.func 124) [] [.dptr [I x14] 0,.dptr [I p0.Mass,I p0.Heat,I p0.Silica,I p0.Gas] 0]
abbrev Zxi (p0:Qaa):AV:=.agg [I p0.Mass,I p0.Heat,I p0.Silica,I p0.Gas]
def Zfh (p0:Qaa) (x26:Bool):List (Nat×Rec):=[(1,rp [fu 97,(.tmp 12,Zxi p0)] (B x26))]
abbrev Zk8:AV:=.agg [I (0),I (0),I (0)]
abbrev Q91:AV:=.dat 4 (([]:List Qaa).map Qag)
def Zfg p0 x26 (p1:List Int):=hcat (Zfh p0 x26) [(3,rp [(.tmp 14,B !x26)] (B false)),(5,rp [(.tmp 15,B false),(.tmp 16,.dat 1 (p1.map Qab))] (I (p1.length:Int)))]
def Zff p0 x26 p1 (x30:Bool):=hcat (Zfg p0 x26 p1) [(8,rp [(.tmp 19,B (decide ((p1.length:Int)>20)))] (B false)),(11,rp [(.tmp 20,B false),fu 121,(.tmp 21,.dat 1 (p1.map Qab)),(.tmp 22,.fn (.func 120) [] [])] (B x30))]
def Qya (N:Nat) (p0:Qaa) (p1:List Int) (r:((List Qaa)×Qrg×Int)) (h:Qnh N p0 p1=some r):Spec prog 114 [.agg (Qag p0),.dat 1 (p1.map Qab)] [] (.tup [.dat 4 (r.1.map Qag),.agg (Q81 r.2.1),I r.2.2]) []:=by
 refine sA func114 0 fun _ _ _ hq hd0=>?_
 unfold Qnh at h
 refine wxz<|wxz<|wjq h (fun _=>⟨mk 79 [(1,.dat 1 (p1.map Qab)),(2,.ref 0 4 0 0),(4,nilS),(5,.ref 1 3 0 0)],[Qxq p0,Q4d]⟩) (fun t h=>?_) fun k1 h=>?_
 ·refine wjq h (fun y2=>⟨mk 79 [(2,.ref 0 4 0 0),(4,.acc 1 40 4 (y2.map Qag)),(5,.ref 2 3 0 0)],[Qxq p0,.tok,Q4d]⟩) (fun y2 h=>?_) fun k3 h=>?_
  ·refine bnq h fun x5 f4 h=>wx tbk [(1,rp [fu 125,(.tmp 60,.acc 1 40 4 (y2.map Qag))] (.agg [I x5.Mass,I x5.Heat,I x5.Silica,I x5.Gas]))] ⟨awk (rd':=(.func 125,.fn (.func 125) [] [])::[(.tmp 60,.dat 4 (y2.map Qag))]) ⟨rfl,lrf,rfl,Less.acc,tv⟩ (apv Zm4 (Q2l N y2 _ f4) (nlc (nld Qaq _) nl0) (NLt.agg _ (nlcc (nlcc nl0)))),tv⟩ ?_
   refine wxd tbk [(16,rp _ _)] ⟨Qbt (vs:=[I (w64 (p0.Heat-x5.Heat)),I (w64 (p0.Silica-x5.Silica)),I (w64 (p0.Gas-x5.Gas))]) rfl Zgo Zct rfl (by rfl) rfl,tv⟩<|Qad ?_
   obtain rfl:=osi h
   exact fie [.dat 4 (y2.map Qag),Zuy p0 x5,I 0] ⟨Qg0 (v:=(.acc 1 40 4 (y2.map Qag))) rot Less.acc,Qbv (n:=2) (m:=3) (j:=0) (i:=0) (xs:=[[I (w64 (p0.Heat-x5.Heat)),I (w64 (p0.Silica-x5.Silica)),I (w64 (p0.Gas-x5.Gas))]]) (by kernel_rfl) (by kernel_rfl) Zcv (by decide) rfl (nle rfl) rfl,rot,tv⟩
  refine bnq h fun x7 f6 h=>?_
  refine wx tbk [(3,rp _ _),(4,rp _ _)] ⟨apw Zm5 (Qwx N p0.Mass p1 _ f6),alq 1 Qab x7 Xag,tv⟩<|Qaf ?_
  refine wmr (Mor.trans (Qyx 2 40 4 4 (by kernel_rfl) (by kernel_rfl)) (mto (n:=79) (l':=[(2,.ref 0 4 0 0),(4,.acc 1 40 4 (([]:List Qaa).map Qag)),(5,.ref 2 3 0 0),(35,.dat 1 (x7.map Qab)),(36,I (x7.length:Int)),(37,I 0)]) (own':=[Qxq p0,.tok,Q4d]) [(2,.ref 0 4 0 0),(4,.acc 2 40 4 (([]:List Qaa).map Qag)),(5,.ref 1 3 0 0),(35,.dat 1 (x7.map Qab)),(36,I (x7.length:Int)),(37,I 0)] [0,2,1] [Qxq p0,.tok,Q4d] hq (prr (pc (.rn (Qcv rfl (Qcf Qaq _))) (prr (pqi (pw (pw pn)))))) (qbi (qc .tok (qbi qn))))) ?_
  refine Qbf (τ:=(List Qaa)×Int) (fun n t=>Qgl N p0 k3 x7 n t.1 t.2=some r) (fun ⟨y8,y9⟩=>⟨mk 79 [(2,.ref 0 4 0 0),(4,.acc 1 40 4 (y8.map Qag)),(5,.ref 2 3 0 0),(35,.dat 1 (x7.map Qab)),(36,I (x7.length:Int)),(37,I y9)],[Qxq p0,.tok,Q4d]⟩) (fun t h=>by rw[Qgl] at h;cases h) (fun n12 ih t h=>?_) N ([],0) h
  obtain⟨y8,y9⟩:=t
  rw[Qgl] at h
  refine wxz<|wsq<|bfq h (fun c13 h=>?_) fun c13 h=>?_
  ·refine Qah<|thn<|wsq<|Qaf ?_
   refine bgq h fun x14 i16 j17 h=>wx tbk [(0,rp _ _)] ⟨aiq Xag ti3 Qab i16 j17,tv⟩<|wx tbk [(0,rp [(.tmp 9,.ref 3 1 0 0),(.tmp 2,.ref 0 4 0 0)] Zk7)] ⟨Qfp (fs:=[]) (cs:=[.ref 3 1 0 0,.ref 0 4 0 0]) rfl rfl rfl rfl,tv⟩<|bnq h fun x19 f18 h=>bnq h fun x21 f20 h=>bnq h fun x23 f22 h=>ckq h fun a24 h=>?_
   refine wy1 tbk [(5,rb [(.tmp 44,Zk7),(.tmp 46,I p0.Heat)] [(3,.own 1 [[I x14]]),(0,Qxq p0)] (I x19)),(9,rb [(.tmp 48,Zk7),(.tmp 50,I p0.Silica)] [(3,.own 1 [[I x14]]),(0,Qxq p0)] (I x21)),(13,rb [(.tmp 52,Zk7),(.tmp 54,I p0.Gas)] [(3,.own 1 [[I x14]]),(0,Qxq p0)] (I x23)),(14,rp _ _),(15,rp [(.tmp 56,.agg [I x14,I x19,I x21,I x23])] (.dat 4 (([(⟨x14,x19,x21,x23⟩:Qaa)]:List Qaa).map Qag))),(16,⟨[(.tmp 42,.acc 1 40 4 (y8.map Qag)),(.tmp 57,.dat 4 (([(⟨x14,x19,x21,x23⟩:Qaa)]:List Qaa).map Qag))],[(1,.tok),(4,.unused)],.acc 4 40 4 ((y8++([(⟨x14,x19,x21,x23⟩:Qaa)]):List Qaa).map Qag),[(1,.dead),(4,.tok)],false⟩)] ⟨Qod (rd':=[(.tmp 44,Zfi x14 p0),(.tmp 46,I p0.Heat)]) [(3,1,[[I x14]]),(0,4,[[I p0.Mass,I p0.Heat,I p0.Silica,I p0.Gas]])] ⟨rfl,Znq tv ⟨Qun 0 rfl (lc (.same _) ln),Qun 1 rfl (lc (.same _) (lc (.same _) (lc (.same _) (lc (.same _) ln)))),tv⟩,rfl,.same _,tv⟩ (by rfl) (.lit _) Q2r (Qd5 (first:=[]) (cap:=[.dptr [I x14] 0,.dptr [I p0.Mass,I p0.Heat,I p0.Silica,I p0.Gas] 0]) (vs:=[I p0.Heat]) (σr:=[]) (σr':=[]) (res':=(I x19)) [] rfl Q3i (Qlq N p0.Heat x14 p0.Mass p0.Heat p0.Silica p0.Gas _ f18) rfl pli Qai Qai pli rfl rfl rfl),Qod (rd':=[(.tmp 48,Zfi x14 p0),(.tmp 50,I p0.Silica)]) [(3,1,[[I x14]]),(0,4,[[I p0.Mass,I p0.Heat,I p0.Silica,I p0.Gas]])] ⟨rfl,Znq tv ⟨Qun 0 rfl (lc (.same _) ln),Qun 1 rfl (lc (.same _) (lc (.same _) (lc (.same _) (lc (.same _) ln)))),tv⟩,rfl,.same _,tv⟩ (by rfl) (.lit _) Q2r (Qd5 (first:=[]) (cap:=[.dptr [I x14] 0,.dptr [I p0.Mass,I p0.Heat,I p0.Silica,I p0.Gas] 0]) (vs:=[I p0.Silica]) (σr:=[]) (σr':=[]) (res':=(I x21)) [] rfl Q3i (Qlq N p0.Silica x14 p0.Mass p0.Heat p0.Silica p0.Gas _ f20) rfl pli Qai Qai pli rfl rfl rfl),Qod (rd':=[(.tmp 52,Zfi x14 p0),(.tmp 54,I p0.Gas)]) [(3,1,[[I x14]]),(0,4,[[I p0.Mass,I p0.Heat,I p0.Silica,I p0.Gas]])] ⟨rfl,Znq tv ⟨Qun 0 rfl (lc (.same _) ln),Qun 1 rfl (lc (.same _) (lc (.same _) (lc (.same _) (lc (.same _) ln)))),tv⟩,rfl,.same _,tv⟩ (by rfl) (.lit _) Q2r (Qd5 (first:=[]) (cap:=[.dptr [I x14] 0,.dptr [I p0.Mass,I p0.Heat,I p0.Silica,I p0.Gas] 0]) (vs:=[I p0.Gas]) (σr:=[]) (σr':=[]) (res':=(I x23)) [] rfl Q3i (Qlq N p0.Gas x14 p0.Mass p0.Heat p0.Silica p0.Gas _ f22) rfl pli Qai Qai pli rfl rfl rfl),Qbt (vs:=[I x14,I x19,I x21,I x23]) rfl ts40 tz40 rfl (by rfl) rfl,Qds (vs:=[.agg [I x14,I x19,I x21,I x23]]) rfl Xa4 ti40 tz40 rfl (by decide) rfl (by decide) (by rfl) (by rfl) (by rfl) rfl,Qg7 rfl Xa4 te40 (Base.acc _ _) rfl rfl (by rfl) (Qkk Qag a24) (Qkj Qag a24 (by decide)) (Qki Qag) rfl rfl,tv⟩<|bln<|thn<|wxz1<|thn ?_
   exact arm (mto (n:=79) [(2,.ref 0 4 0 0),(4,.acc 4 40 4 ((y8++([(⟨x14,x19,x21,x23⟩:Qaa)]):List Qaa).map Qag)),(5,.ref 2 3 0 0),(35,.dat 1 (x7.map Qab)),(36,I (x7.length:Int)),(37,I (w64 (y9+1)))] [0,4,2] [Qxq p0,.tok,Q4d] hq (prr (pc (.rn (Qcv rfl (Qcf Qaq _))) (prr (pqi (pw (pw pn)))))) (qbi (qc .tok (qbi qn)))) (ih (y8++([(⟨x14,x19,x21,x23⟩:Qaa)]),w64 (y9+1)) h)
  exact Qax<|Qan<|Qan<|Qaw rfl<|thn<|⟨y8,h,mto (n:=79) [(2,.ref 0 4 0 0),(4,.acc 1 40 4 (y8.map Qag)),(5,.ref 2 3 0 0)] [0,1,2] [Qxq p0,.tok,Q4d] hq (prr (pc (.rn (Qcv rfl (Qcf Qaq _))) (prr pn))) (qbi (qc .tok (qbi qn)))⟩
 refine bnq h fun x26 f25 h=>hpre (A:=(Zfh p0 x26)) ⟨apv Q8r (Qke N p0 _ f25) (nlc (NLt.agg _ (nlcc (nlcc nl0))) nl0) nll,tv⟩ fun q1_=>?_
 refine bfe h (fun hb27 h=>?_) fun hb27 h=>?_
 ·refine wx tbk (hcat (Zfh p0 x26) [(3,rp [(.tmp 14,B !x26)] (B true))]) (hap q1_ ⟨asb hb27 (amv rfl),tv⟩)<|wtr ?_
  refine wx tbk [(0,rp _ _)] ⟨Qbt (vs:=[]) rfl Zgo Zct rfl (by rfl) rfl,tv⟩<|Qad<|Qac ?_
  obtain rfl:=osi h
  exact fie [Q91,Zk8,I 1] ⟨Qg0 (v:=nilS) rot Less.nil,Qbv (n:=1) (m:=3) (j:=0) (i:=0) (xs:=[[I 0,I 0,I 0]]) (by kernel_rfl) (by kernel_rfl) Zcv (by decide) rfl (nle rfl) rfl,rot,tv⟩
 refine hpre (A:=(Zfg p0 x26 p1)) (hap q1_ ⟨asb hb27 (amv rfl),ag_ (alq 1 Qab p1 Xag),tv⟩) fun q2_=>?_
 refine bfe h (fun hb28 h=>?_) fun hb28 h=>?_
 ·refine wx tbk (hcat (Zfg p0 x26 p1) [(8,rp [(.tmp 19,B (decide ((p1.length:Int)>20)))] (B true))]) (hap q2_ ⟨asb hb28 (amv rfl),tv⟩)<|wtr ?_
  refine wx tbk [(0,rp _ _)] ⟨Qbt (vs:=[]) rfl Zgo Zct rfl (by rfl) rfl,tv⟩<|Qad<|Qac ?_
  obtain rfl:=osi h
  exact fie [Q91,Zk8,I 1] ⟨Qg0 (v:=nilS) rot Less.nil,Qbv (n:=1) (m:=3) (j:=0) (i:=0) (xs:=[[I 0,I 0,I 0]]) (by kernel_rfl) (by kernel_rfl) Zcv (by decide) rfl (nle rfl) rfl,rot,tv⟩
 refine bnq h fun x30 f29 h=>hpre (A:=(Zff p0 x26 p1 x30)) (hap q2_ ⟨asb hb28 (amv rfl),ag_ (acq [.dat 1 (p1.map Qab),.fn (.func 120) [] []] [] [] (B x30) [] Zm7 (Qsz N p1 _ f29) pli Qai Qai pli),tv⟩) fun q3_=>?_
 refine bfe h (fun hb31 h=>?_) fun hb31 h=>?_
 ·refine wx tbk (hcat (Zff p0 x26 p1 x30) [(14,rp [(.tmp 25,B !x30)] (B true))]) (hap q3_ ⟨asb hb31 (amv rfl),tv⟩)<|wtr ?_
  refine wx tbk [(0,rp _ _)] ⟨Qbt (vs:=[]) rfl Zgo Zct rfl (by rfl) rfl,tv⟩<|Qad<|Qac ?_
  obtain rfl:=osi h
  exact fie [Q91,Zk8,I 1] ⟨Qg0 (v:=nilS) rot Less.nil,Qbv (n:=1) (m:=3) (j:=0) (i:=0) (xs:=[[I 0,I 0,I 0]]) (by kernel_rfl) (by kernel_rfl) Zcv (by decide) rfl (nle rfl) rfl,rot,tv⟩
 refine bnq h fun x33 f32 h=>wx tbk (hcat (Zff p0 x26 p1 x30) [(14,rp [(.tmp 25,B !x30)] (B false)),(16,rp [(.tmp 26,B false),fu 51,(.tmp 27,.dat 1 (p1.map Qab)),fu 122] (B x33))]) (hap q3_ ⟨asb hb31 (amv rfl),ag_ (acq [.dat 1 (p1.map Qab),.fn (.func 122) [] []] [] [] (B x33) [] Qvs (Ql8 N p1 _ f32) pli Qai Qai pli),tv⟩)<|bfq h (fun c34 h=>?_) fun c34 h=>?_
 ·refine wx tbk [(0,rp _ _)] ⟨Qbt (vs:=[]) rfl Zgo Zct rfl (by rfl) rfl,tv⟩<|Qad<|Qac ?_
  obtain rfl:=osi h
  exact fie [Q91,Zk8,I 1] ⟨Qg0 (v:=nilS) rot Less.nil,Qbv (n:=1) (m:=3) (j:=0) (i:=0) (xs:=[[I 0,I 0,I 0]]) (by kernel_rfl) (by kernel_rfl) Zcv (by decide) rfl (nle rfl) rfl,rot,tv⟩
 exact Qah<|thn<|⟨(),h,mto (n:=79) [(1,.dat 1 (p1.map Qab)),(2,.ref 0 4 0 0),(4,nilS),(5,.ref 1 3 0 0)] [0,1] [Qxq p0,Q4d] hq (pqi (prr (pw (prr pn)))) (qbi (qbi qn))⟩
end
end Go.Proofs.YtcoojdacfknboafGreat
