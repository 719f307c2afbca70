/-
  The texts Xt, EngZ, Xo, X1, X2, X3 of the proof, one behind the other. No conditions.
-/
import Derived.Test.YtmbhnllcfmiajaaGreatG2
import Derived.Conc.MuLone
import Derived.Test.YtmbhnllcfmiajaaGreatRows
import Derived.ProofKit
import Derived.Deep.Slices
import Derived.Deep.Fields
import Derived.ChangeSame
import Derived.Lib.SmallJoins
import Derived.SizedLaws
namespace Go.Proofs.YtmbhnllcfmiajaaGreat
open _root_.Go.Proofs.Tryz
open Go.RowKit
set_option maxRecDepth 100000
set_option maxHeartbeats 4000000
set_option synthInstance.maxSize 4000
set_option synthInstance.maxHeartbeats 400000
section
def Qa5 (g:FuncId):Prop:=∀vals w,(callFunc g vals).run prog w=.ok (.enter g vals) w
theorem entr {g : FuncId} {fn : Func} {c : Code} (h : prog.funcs[g]? = some fn) (h1 : (fn.name == "runtime.NumGoroutine") = false := by kernel_rfl) (h2 : fn.body = some c := by rfl) : Qa5 g := fun vals w => MuLone.run_callFunc_enter h h1 h2 vals w
def Qac (x:Int):List AV:=[K .i64 x]
theorem Qah:∀x,∀a∈Qac x,NLt 0 a:=fun _=>Qjd (.lit _) Qnp
instance:NLc Qac:=⟨Qah⟩
theorem Qf0:∀x,(Qac x).all AV.one=true:=fun _=>rfl
structure GRow where
  T:Int
  P:Int
  Liquid:Int
  Vapour:Int
  Silica:Int
  deriving DecidableEq
def Qap (x:GRow):List AV:=Qac x.T++Qac x.P++Qac x.Liquid++Qac x.Vapour++Qac x.Silica
theorem Qan:∀x,∀a∈Qap x,NLt 0 a:=fun _=>(Qeh (Qeh (Qeh (Qeh (Qah _) (Qah _)) (Qah _)) (Qah _)) (Qah _))
instance:NLc Qap:=⟨Qan⟩
theorem Q6q:∀x,(Qap x).all AV.one=true:=fun _=>(Qig (Qig (Qig (Qig (Qf0 _) (Qf0 _)) (Qf0 _)) (Qf0 _)) (Qf0 _))
def c_u8 (x:Int):List AV:=[K .u8 x]
theorem Zrn:∀x,∀a∈c_u8 x,NLt 0 a:=fun _=>Qjd (.lit _) Qnp
instance:NLc c_u8:=⟨Zrn⟩
theorem Zrm:∀x,(c_u8 x).all AV.one=true:=fun _=>rfl
structure Qbn where
  Element:Int
  Outlet:Int
  deriving DecidableEq
def Qaw (x:Qbn):List AV:=Qac x.Element++Qac x.Outlet
theorem Qbf:∀x,∀a∈Qaw x,NLt 0 a:=fun _=>(Qeh (Qah _) (Qah _))
instance:NLc Qaw:=⟨Qbf⟩
theorem Q10:∀x,(Qaw x).all AV.one=true:=fun _=>(Qig (Qf0 _) (Qf0 _))
def Qse (x:List Qbn):List AV:=[.dat 2 (x.map Qaw)]
theorem Q11:∀x,∀a∈Qse x,NLt 0 a:=fun _=>Qjd (Qpc Qbf _) Qnp
instance:NLc Qse:=⟨Q11⟩
theorem Q8u:∀x,(Qse x).all AV.one=true:=fun _=>rfl
def Qx8 (x:List Int):List AV:=[.dat 1 (x.map Qac)]
theorem Q4a:∀x,∀a∈Qx8 x,NLt 0 a:=fun _=>Qjd (Qpc Qah _) Qnp
instance:NLc Qx8:=⟨Q4a⟩
theorem Zg7:∀x,(Qx8 x).all AV.one=true:=fun _=>rfl
structure Qaf where
  Kind:Int
  From:List Qbn
  Level:Int
  Amount:Int
  Wide:Int
  Narrow:Int
  Weights:List Int
  deriving DecidableEq
def Qae (x:Qaf):List AV:=c_u8 x.Kind++Qse x.From++Qac x.Level++Qac x.Amount++Qac x.Wide++Qac x.Narrow++Qx8 x.Weights
theorem Qab:∀x,∀a∈Qae x,NLt 0 a:=fun _=>(Qeh (Qeh (Qeh (Qeh (Qeh (Qeh (Zrn _) (Q11 _)) (Qah _)) (Qah _)) (Qah _)) (Qah _)) (Q4a _))
instance:NLc Qae:=⟨Qab⟩
theorem Qtx:∀x,(Qae x).all AV.one=true:=fun _=>(Qig (Qig (Qig (Qig (Qig (Qig (Zrm _) (Q8u _)) (Qf0 _)) (Qf0 _)) (Qf0 _)) (Qf0 _)) (Zg7 _))
def Q0e (x:List GRow):List AV:=[.dat 5 (x.map Qap)]
theorem Q6s:∀x,∀a∈Q0e x,NLt 0 a:=fun _=>Qjd (Qpc Qan _) Qnp
instance:NLc Q0e:=⟨Q6s⟩
def Qob (x:List Qaf):List AV:=[.dat 7 (x.map Qae)]
theorem Qtz:∀x,∀a∈Qob x,NLt 0 a:=fun _=>Qjd (Qpc Qab _) Qnp
instance:NLc Qob:=⟨Qtz⟩
structure GNet where
  Table:List GRow
  Elements:List Qaf
  deriving DecidableEq
def Qgw (x:GNet):List AV:=Q0e x.Table++Qob x.Elements
theorem Zdb:∀x,∀a∈Qgw x,NLt 0 a:=fun _=>(Qeh (Q6s _) (Qtz _))
instance:NLc Qgw:=⟨Zdb⟩
structure Qaa where
  Mass:Int
  Heat:Int
  Silica:Int
  Gas:Int
  deriving DecidableEq
def Qad (x:Qaa):List AV:=Qac x.Mass++Qac x.Heat++Qac x.Silica++Qac x.Gas
theorem Qal:∀x,∀a∈Qad x,NLt 0 a:=fun _=>(Qeh (Qeh (Qeh (Qah _) (Qah _)) (Qah _)) (Qah _))
instance:NLc Qad:=⟨Qal⟩
theorem Qv4:∀x,(Qad x).all AV.one=true:=fun _=>(Qig (Qig (Qig (Qf0 _) (Qf0 _)) (Qf0 _)) (Qf0 _))
structure Qhv where
  Heat:Int
  Silica:Int
  Gas:Int
  deriving DecidableEq
def Q0h (x:Qhv):List AV:=Qac x.Heat++Qac x.Silica++Qac x.Gas
theorem Zg9:∀x,∀a∈Q0h x,NLt 0 a:=fun _=>(Qeh (Qeh (Qah _) (Qah _)) (Qah _))
instance:NLc Q0h:=⟨Zg9⟩
def Qag (x:List Qaa):List AV:=[.dat 4 (x.map Qad)]
theorem Qak:∀x,∀a∈Qag x,NLt 0 a:=fun _=>Qjd (Qpc Qal _) Qnp
instance:NLc Qag:=⟨Qak⟩
structure Qa1 where
  Heat:Int
  Silica:Int
  Gas:Int
  Scale:Int
  deriving DecidableEq
def Qat (x:Qa1):List AV:=Qac x.Heat++Qac x.Silica++Qac x.Gas++Qac x.Scale
theorem Qa2:∀x,∀a∈Qat x,NLt 0 a:=fun _=>(Qeh (Qeh (Qeh (Qah _) (Qah _)) (Qah _)) (Qah _))
instance:NLc Qat:=⟨Qa2⟩
theorem Zc6:∀x,(Qat x).all AV.one=true:=fun _=>(Qig (Qig (Qig (Qf0 _) (Qf0 _)) (Qf0 _)) (Qf0 _))
structure Qm2 where
  Row:GRow
  deriving DecidableEq
def Qsg (x:Qm2):List AV:=Qap x.Row
theorem Zdc:∀x,∀a∈Qsg x,NLt 0 a:=fun _=>(Qan _)
instance:NLc Qsg:=⟨Zdc⟩
structure Qe3 where
  Steam:Qaa
  Water:Qaa
  Rest:Int
  Scale:Int
  deriving DecidableEq
def Qsf (x:Qe3):List AV:=Qad x.Steam++Qad x.Water++Qac x.Rest++Qac x.Scale
theorem Zda:∀x,∀a∈Qsf x,NLt 0 a:=fun _=>(Qeh (Qeh (Qeh (Qal _) (Qal _)) (Qah _)) (Qah _))
instance:NLc Qsf:=⟨Zda⟩
def Qka (x:Bool):List AV:=[B x]
theorem Qih:∀x,∀a∈Qka x,NLt 0 a:=fun _=>Qjd (.lit _) Qnp
instance:NLc Qka:=⟨Qih⟩
def Qoa (x:List (List Qaa)):List AV:=[.dat 1 (x.map Qag)]
theorem Qty:∀x,∀a∈Qoa x,NLt 0 a:=fun _=>Qjd (Qpc Qak _) Qnp
instance:NLc Qoa:=⟨Qty⟩
def Q0f (x:List Qa1):List AV:=[.dat 4 (x.map Qat)]
theorem Q12:∀x,∀a∈Q0f x,NLt 0 a:=fun _=>Qjd (Qpc Qa2 _) Qnp
instance:NLc Q0f:=⟨Q12⟩
structure Qe5 where
  Out:List (List Qaa)
  Lost:List Qa1
  State:List Int
  deriving DecidableEq
def Q0g (x:Qe5):List AV:=Qoa x.Out++Q0f x.Lost++Qx8 x.State
theorem Q6t:∀x,∀a∈Q0g x,NLt 0 a:=fun _=>(Qeh (Qeh (Qty _) (Q12 _)) (Q4a _))
instance:NLc Q0g:=⟨Q6t⟩
structure Zt3 where
  Element:Int
  Scale:Int
  deriving DecidableEq
def Zew (x:Zt3):List AV:=Qac x.Element++Qac x.Scale
theorem Zha:∀x,∀a∈Zew x,NLt 0 a:=fun _=>(Qeh (Qah _) (Qah _))
instance:NLc Zew:=⟨Zha⟩
structure Qdt where
  Net:GNet
  Tick:Qe5
  wells:List Qaa
  steam:Int
  deriving DecidableEq
def Qkm (x:Qdt):List AV:=Qgw x.Net++Q0g x.Tick++Qag x.wells++Qac x.steam
theorem Qpt:∀x,∀a∈Qkm x,NLt 0 a:=fun _=>(Qeh (Qeh (Qeh (Zdb _) (Q6t _)) (Qak _)) (Qah _))
instance:NLc Qkm:=⟨Qpt⟩
def Qdj (x:Qdt):List AV:=[.dptr (Qkm x) 0]
theorem Qh9:∀x,∀a∈Qdj x,NLt 0 a:=fun _=>Qjd (.dptr _ _ (Qpt _)) Qnp
instance:NLc Qdj:=⟨Qh9⟩
structure Qli where
  Lo:Int
  Hi:Int
  deriving DecidableEq
def Qpw (x:Qli):List AV:=Qac x.Lo++Qac x.Hi
theorem Qpd:∀x,∀a∈Qpw x,NLt 0 a:=fun _=>(Qeh (Qah _) (Qah _))
instance:NLc Qpw:=⟨Qpd⟩
structure Zr7 where
  Mass:Qli
  Heat:Qli
  Silica:Qli
  Gas:Qli
  deriving DecidableEq
def Q7i (x:Zr7):List AV:=Qpw x.Mass++Qpw x.Heat++Qpw x.Silica++Qpw x.Gas
theorem Zdd:∀x,∀a∈Q7i x,NLt 0 a:=fun _=>(Qeh (Qeh (Qeh (Qpd _) (Qpd _)) (Qpd _)) (Qpd _))
instance:NLc Q7i:=⟨Zdd⟩
structure Zo8 where
  a0:Bool
  a1:Bool
  a2:Bool
  a3:Bool
  a4:Bool
  a5:Bool
  a6:Bool
  a7:Bool
  deriving DecidableEq
def Q2t (x:Zo8):List AV:=Qka x.a0++Qka x.a1++Qka x.a2++Qka x.a3++Qka x.a4++Qka x.a5++Qka x.a6++Qka x.a7
theorem Q8v:∀x,∀a∈Q2t x,NLt 0 a:=fun _=>(Qeh (Qeh (Qeh (Qeh (Qeh (Qeh (Qeh (Qih _) (Qih _)) (Qih _)) (Qih _)) (Qih _)) (Qih _)) (Qih _)) (Qih _))
instance:NLc Q2t:=⟨Q8v⟩
theorem Qn5:∀x,∀a∈Qac x,∃v,a=.lit v:=fun _=>Zhg Znc
theorem Qwa:∀x,∀a∈Qad x,∃v,a=.lit v:=fun _=>(Qtd (Qtd (Qtd (Qn5 _) (Qn5 _)) (Qn5 _)) (Qn5 _))
theorem Zdp:∀x,∀a∈Qat x,∃v,a=.lit v:=fun _=>(Qtd (Qtd (Qtd (Qn5 _) (Qn5 _)) (Qn5 _)) (Qn5 _))
theorem Que:TI prog 160 true 5:=⟨⟨_,underlying160,rfl⟩,Qcq (by kernel_rfl)⟩
theorem Zs5:TI prog 219 false 1:=⟨⟨_,underlying219,rfl⟩,Qcq (by kernel_rfl)⟩
theorem ti3:TI prog 3 false 1:=⟨⟨_,underlying3,rfl⟩,Qcq (by kernel_rfl)⟩
theorem ti39:TI prog 39 false 1:=⟨⟨_,underlying39,rfl⟩,Qcq (by kernel_rfl)⟩
theorem ti40:TI prog 40 false 1:=⟨⟨_,underlying40,rfl⟩,Qcq (by kernel_rfl)⟩
theorem Qkd:TI prog 133 true 7:=⟨⟨_,underlying133,rfl⟩,Qcq (by kernel_rfl)⟩
theorem Zs9:TI prog 189 false 1:=⟨⟨_,underlying189,rfl⟩,Qcq (by kernel_rfl)⟩
theorem ti5:TI prog 5 false 1:=⟨⟨_,underlying5,rfl⟩,Qcq (by kernel_rfl)⟩
theorem Zgo:TI prog 116 false 1:=⟨⟨_,underlying116,rfl⟩,Qcq (by kernel_rfl)⟩
theorem ti27:TI prog 27 false 1:=⟨⟨_,underlying27,rfl⟩,Qcq (by kernel_rfl)⟩
theorem Zs8:TI prog 197 false 1:=⟨⟨_,underlying197,rfl⟩,Qcq (by kernel_rfl)⟩
theorem Qql:TI prog 120 true 2:=⟨⟨_,underlying120,rfl⟩,Qcq (by kernel_rfl)⟩
theorem ti42:TI prog 42 true 2:=⟨⟨_,underlying42,rfl⟩,Qcq (by kernel_rfl)⟩
theorem Zml:TI prog 190 false 1:=⟨⟨_,underlying190,rfl⟩,Qcq (by kernel_rfl)⟩
theorem ti63:TI prog 63 true 4:=⟨⟨_,underlying63,rfl⟩,Qcq (by kernel_rfl)⟩
theorem Zs7:TI prog 202 false 1:=⟨⟨_,underlying202,rfl⟩,Qcq (by kernel_rfl)⟩
theorem Q8c:TI prog 227 true 3:=⟨⟨_,underlying227,rfl⟩,Qcq (by kernel_rfl)⟩
theorem Zte:TI prog 162 false 1:=⟨⟨_,underlying162,rfl⟩,Qcq (by kernel_rfl)⟩
theorem Qxa:TI prog 234 false 1:=⟨⟨_,underlying234,rfl⟩,Qcq (by kernel_rfl)⟩
theorem Zq7:TI prog 235 true 4:=⟨⟨_,underlying235,rfl⟩,Qcq (by kernel_rfl)⟩
theorem ti31:TI prog 31 false 1:=⟨⟨_,underlying31,rfl⟩,Qcq (by kernel_rfl)⟩
theorem ti32:TI prog 32 false 1:=⟨⟨_,underlying32,rfl⟩,Qcq (by kernel_rfl)⟩
theorem ti34:TI prog 34 true 3:=⟨⟨_,underlying34,rfl⟩,Qcq (by kernel_rfl)⟩
theorem ti45:TI prog 45 false 1:=⟨⟨_,underlying45,rfl⟩,Qcq (by kernel_rfl)⟩
theorem Qpz:TI prog 136 false 1:=⟨⟨_,underlying136,rfl⟩,Qcq (by kernel_rfl)⟩
theorem Qrn:TI prog 207 false 1:=⟨⟨_,underlying207,rfl⟩,Qcq (by kernel_rfl)⟩
theorem Zs6:TI prog 209 true 7:=⟨⟨_,underlying209,rfl⟩,Qcq (by kernel_rfl)⟩
theorem ti82:TI prog 82 true 4:=⟨⟨_,underlying82,rfl⟩,Qcq (by kernel_rfl)⟩
theorem Q3v:TI prog 214 true 10:=⟨⟨_,underlying214,rfl⟩,Qcq (by kernel_rfl)⟩
theorem Zq8:TI prog 224 true 5:=⟨⟨_,underlying224,rfl⟩,Qcq (by kernel_rfl)⟩
theorem Zta:TI prog 182 true 1:=⟨⟨_,underlying182,rfl⟩,Qcq (by kernel_rfl)⟩
theorem Quf:TI prog 149 true 5:=⟨⟨_,underlying149,rfl⟩,Qcq (by kernel_rfl)⟩
theorem ti23:TI prog 23 false 1:=⟨⟨_,underlying23,rfl⟩,Qcq (by kernel_rfl)⟩
theorem ti24:TI prog 24 false 1:=⟨⟨_,underlying24,rfl⟩,Qcq (by kernel_rfl)⟩
theorem ti59:TI prog 59 true 7:=⟨⟨_,underlying59,rfl⟩,Qcq (by kernel_rfl)⟩
theorem ti57:TI prog 57 false 1:=⟨⟨_,underlying57,rfl⟩,Qcq (by kernel_rfl)⟩
theorem ti61:TI prog 61 true 2:=⟨⟨_,underlying61,rfl⟩,Qcq (by kernel_rfl)⟩
theorem ti89:TI prog 89 true 4:=⟨⟨_,underlying89,rfl⟩,Qcq (by kernel_rfl)⟩
theorem Zmm:TI prog 146 true 10:=⟨⟨_,underlying146,rfl⟩,Qcq (by kernel_rfl)⟩
theorem ti4:TI prog 4 false 1:=⟨⟨_,underlying4,rfl⟩,Qcq (by kernel_rfl)⟩
theorem Zq9:TI prog 151 true 3:=⟨⟨_,underlying151,rfl⟩,Qcq (by kernel_rfl)⟩
theorem ti26:TI prog 26 true 2:=⟨⟨_,underlying26,rfl⟩,Qcq (by kernel_rfl)⟩
theorem ti49:TI prog 49 false 1:=⟨⟨_,underlying49,rfl⟩,Qcq (by kernel_rfl)⟩
theorem ti28:TI prog 28 false 1:=⟨⟨_,underlying28,rfl⟩,Qcq (by kernel_rfl)⟩
theorem ti50:TI prog 50 false 1:=⟨⟨_,underlying50,rfl⟩,Qcq (by kernel_rfl)⟩
theorem ti52:TI prog 52 true 3:=⟨⟨_,underlying52,rfl⟩,Qcq (by kernel_rfl)⟩
theorem ti90:TI prog 90 true 4:=⟨⟨_,underlying90,rfl⟩,Qcq (by kernel_rfl)⟩
theorem ti92:TI prog 92 true 2:=⟨⟨_,underlying92,rfl⟩,Qcq (by kernel_rfl)⟩
theorem Ztd:TI prog 168 false 1:=⟨⟨_,underlying168,rfl⟩,Qcq (by kernel_rfl)⟩
theorem ti96:TI prog 96 false 1:=⟨⟨_,underlying96,rfl⟩,Qcq (by kernel_rfl)⟩
theorem Ztc:TI prog 171 false 1:=⟨⟨_,underlying171,rfl⟩,Qcq (by kernel_rfl)⟩
theorem Q8d:TI prog 108 true 2:=⟨⟨_,underlying108,rfl⟩,Qcq (by kernel_rfl)⟩
theorem Zti:TI prog 110 true 8:=⟨⟨_,underlying110,rfl⟩,Qcq (by kernel_rfl)⟩
theorem Zth:TI prog 114 true 8:=⟨⟨_,underlying114,rfl⟩,Qcq (by kernel_rfl)⟩
theorem Zb9:TI prog 112 true 2:=⟨⟨_,underlying112,rfl⟩,Qcq (by kernel_rfl)⟩
theorem Ztg:TI prog 122 true 8:=⟨⟨_,underlying122,rfl⟩,Qcq (by kernel_rfl)⟩
theorem ti1:TI prog 1 false 1:=⟨⟨_,underlying1,rfl⟩,Qcq (by kernel_rfl)⟩
theorem Ztb:TI prog 179 false 1:=⟨⟨_,underlying179,rfl⟩,Qcq (by kernel_rfl)⟩
theorem Ztf:TI prog 140 true 7:=⟨⟨_,underlying140,rfl⟩,Qcq (by kernel_rfl)⟩
theorem Zb7:TS prog 120 [(0,1),(1,1)]:=⟨_,underlying120,⟨rfl,⟨_,ti3⟩,rfl,⟨_,ti3⟩,trivial⟩⟩
theorem ts63:TS prog 63 [(0,1),(1,1),(2,1),(3,1)]:=⟨_,underlying63,⟨rfl,⟨_,ti3⟩,rfl,⟨_,ti3⟩,rfl,⟨_,ti3⟩,rfl,⟨_,ti3⟩,trivial⟩⟩
theorem Zb6:TS prog 227 [(0,1),(1,1),(2,1)]:=⟨_,underlying227,⟨rfl,⟨_,ti3⟩,rfl,⟨_,ti3⟩,rfl,⟨_,ti3⟩,trivial⟩⟩
theorem ts34:TS prog 34 [(0,1),(1,1),(2,1)]:=⟨_,underlying34,⟨rfl,⟨_,ti31⟩,rfl,⟨_,ti32⟩,rfl,⟨_,ti27⟩,trivial⟩⟩
theorem Zs4:TS prog 140 [(0,2),(2,3),(5,1),(6,1)]:=⟨_,underlying140,⟨rfl,⟨_,ti42⟩,rfl,⟨_,ti34⟩,rfl,⟨_,ti45⟩,rfl,⟨_,ti3⟩,trivial⟩⟩
theorem Zs3:TS prog 182 [(0,1)]:=⟨_,underlying182,⟨rfl,⟨_,ti3⟩,trivial⟩⟩
theorem Zmj:TS prog 214 [(0,4),(4,4),(8,1),(9,1)]:=⟨_,underlying214,⟨rfl,⟨_,ti63⟩,rfl,⟨_,ti63⟩,rfl,⟨_,ti3⟩,rfl,⟨_,ti3⟩,trivial⟩⟩
theorem Zs2:TS prog 224 [(0,5)]:=⟨_,underlying224,⟨rfl,⟨_,Que⟩,trivial⟩⟩
theorem Zgl:TS prog 160 [(0,1),(1,1),(2,1),(3,1),(4,1)]:=⟨_,underlying160,⟨rfl,⟨_,ti3⟩,rfl,⟨_,ti3⟩,rfl,⟨_,ti3⟩,rfl,⟨_,ti3⟩,rfl,⟨_,ti3⟩,trivial⟩⟩
theorem Zgm:TS prog 133 [(0,1),(1,1),(2,1),(3,1),(4,1),(5,1),(6,1)]:=⟨_,underlying133,⟨rfl,⟨_,ti5⟩,rfl,⟨_,Zgo⟩,rfl,⟨_,ti3⟩,rfl,⟨_,ti3⟩,rfl,⟨_,ti3⟩,rfl,⟨_,ti3⟩,rfl,⟨_,ti27⟩,trivial⟩⟩
theorem ts42:TS prog 42 [(0,1),(1,1)]:=⟨_,underlying42,⟨rfl,⟨_,ti39⟩,rfl,⟨_,ti40⟩,trivial⟩⟩
theorem ts89:TS prog 89 [(0,1),(1,1),(2,1),(3,1)]:=⟨_,underlying89,⟨rfl,⟨_,ti3⟩,rfl,⟨_,ti3⟩,rfl,⟨_,ti3⟩,rfl,⟨_,ti3⟩,trivial⟩⟩
theorem Zq4:TS prog 151 [(0,1),(1,1),(2,1)]:=⟨_,underlying151,⟨rfl,⟨_,ti3⟩,rfl,⟨_,ti3⟩,rfl,⟨_,ti3⟩,trivial⟩⟩
theorem ts52:TS prog 52 [(0,1),(1,1),(2,1)]:=⟨_,underlying52,⟨rfl,⟨_,ti49⟩,rfl,⟨_,ti50⟩,rfl,⟨_,ti27⟩,trivial⟩⟩
theorem ts90:TS prog 90 [(0,1),(1,1),(2,1),(3,1)]:=⟨_,underlying90,⟨rfl,⟨_,ti3⟩,rfl,⟨_,ti3⟩,rfl,⟨_,ti3⟩,rfl,⟨_,ti3⟩,trivial⟩⟩
theorem ts26:TS prog 26 [(0,1),(1,1)]:=⟨_,underlying26,⟨rfl,⟨_,ti23⟩,rfl,⟨_,ti24⟩,trivial⟩⟩
theorem Zq5:TS prog 108 [(0,1),(1,1)]:=⟨_,underlying108,⟨rfl,⟨_,ti3⟩,rfl,⟨_,ti3⟩,trivial⟩⟩
theorem Qj9:Qa5 137:=entr func137
theorem Zia:Qa5 139:=entr func139
theorem Zh2:Qa5 148:=entr func148
theorem Zhv:Qa5 156:=entr func156
theorem Zh3:Qa5 147:=entr func147
theorem Zib:Qa5 138:=entr func138
theorem Qy9:TZ prog 160 [.int .i64 0,.int .i64 0,.int .i64 0,.int .i64 0,.int .i64 0]:=Qhx (by kernel_rfl)
theorem Q7b:Qa5 122:=entr func122
theorem Zi3:Qa5 100:=entr func100
theorem Qmi:Qa5 65:=entr func65
theorem Zii:Qa5 125:=entr func125
theorem Q7a:Qa5 128:=entr func128
theorem Qr8:Qa5 141:=entr func141
theorem Qr9:Qa5 126:=entr func126
theorem Q7c:Qa5 108:=entr func108
theorem Zih:Qa5 127:=entr func127
theorem Zi1:Qa5 102:=entr func102
theorem Zij:Qa5 124:=entr func124
theorem Zh9:Qa5 140:=entr func140
theorem Zik:Qa5 123:=entr func123
theorem Zi2:Qa5 101:=entr func101
theorem Qx7:CkT prog 120 2:=ck2 underlying120 underlying3 underlying3 rfl rfl
theorem zb4:∃i,prog.info? 4=some i∧i.zero=some (.bool false):=Zr8 (by kernel_rfl)
theorem Q1d:TZ prog 133 [.int .u8 0,.slice none 0 0,.int .i64 0,.int .i64 0,.int .i64 0,.int .i64 0,.slice none 0 0]:=Qhx (by kernel_rfl)
theorem Qud:TZ prog 120 [.int .i64 0,.int .i64 0]:=Qhx (by kernel_rfl)
theorem Q7d:Qa5 103:=entr func103
theorem Q4k:Qa5 66:=entr func66
theorem Zst:TZ prog 190 [(.map none)]:=Qhx (by kernel_rfl)
theorem Znw:Qa5 75:=entr func75
theorem Zgp:TE prog 120 2 16:=Qro (by kernel_rfl) (by decide)
theorem Ziv:Qa5 110:=entr func110
theorem Ziu:Qa5 111:=entr func111
theorem Znq:Qa5 89:=entr func89
theorem Ziw:Qa5 109:=entr func109
theorem Zef:Qa5 73:=entr func73
theorem tz3:TZ prog 3 [.int .i64 0]:=Qhx (by kernel_rfl)
theorem te3:TE prog 3 1 8:=Qro (by kernel_rfl) (by decide)
theorem Qwm:Qa5 67:=entr func67
theorem Q0b:Qa5 131:=entr func131
theorem Zir:Qa5 114:=entr func114
theorem Zis:Qa5 113:=entr func113
theorem Zif:Qa5 130:=entr func130
theorem Zh8:Qa5 142:=entr func142
theorem Zig:Qa5 129:=entr func129
theorem Zit:Qa5 112:=entr func112
theorem tz63:TZ prog 63 [.int .i64 0,.int .i64 0,.int .i64 0,.int .i64 0]:=Qhx (by kernel_rfl)
theorem Q4j:Qa5 76:=entr func76
theorem Zec:Qa5 94:=entr func94
theorem Q8a:TZ prog 227 [.int .i64 0,.int .i64 0,.int .i64 0]:=Qhx (by kernel_rfl)
theorem Zh0:Qa5 150:=entr func150
theorem Zhu:Qa5 157:=entr func157
theorem Zhz:Qa5 151:=entr func151
theorem Zhy:Qa5 152:=entr func152
theorem Q67:Qa5 159:=entr func159
theorem Zhq:Qa5 163:=entr func163
theorem Q66:Qa5 165:=entr func165
theorem Zhp:Qa5 164:=entr func164
theorem Zhr:Qa5 162:=entr func162
theorem Zht:Qa5 158:=entr func158
theorem Zhx:Qa5 153:=entr func153
theorem Q0a:Qa5 154:=entr func154
theorem te63:TE prog 63 4 32:=Qro (by kernel_rfl) (by decide)
theorem Zqy:TZ prog 235 [(.pointer none),(.pointer none),(.pointer none),(.pointer none)]:=Qhx (by kernel_rfl)
theorem Qr7:Qa5 161:=entr func161
theorem Zhs:Qa5 160:=entr func160
theorem Zhw:Qa5 155:=entr func155
theorem Zq3:TZ prog 136 [(.pointer none)]:=Qhx (by kernel_rfl)
theorem te45:TE prog 45 1 24:=Qro (by kernel_rfl) (by decide)
theorem tz45:TZ prog 45 [.slice none 0 0]:=Qhx (by kernel_rfl)
theorem te82:TE prog 82 4 32:=Qro (by kernel_rfl) (by decide)
theorem tz82:TZ prog 82 [.int .i64 0,.int .i64 0,.int .i64 0,.int .i64 0]:=Qhx (by kernel_rfl)
theorem Zeb:Qa5 95:=entr func95
theorem tz34:TZ prog 34 [.slice none 0 0,.slice none 0 0,.slice none 0 0]:=Qhx (by kernel_rfl)
theorem Zq2:TZ prog 140 [.slice none 0 0,.slice none 0 0,.slice none 0 0,.slice none 0 0,.slice none 0 0,.slice none 0 0,.int .i64 0]:=Qhx (by kernel_rfl)
theorem Znn:Qa5 96:=entr func96
theorem Zee:Qa5 74:=entr func74
theorem Zip:Qa5 116:=entr func116
theorem Q69:Qa5 134:=entr func134
theorem Zid:Qa5 133:=entr func133
theorem Zie:Qa5 132:=entr func132
theorem Ziq:Qa5 115:=entr func115
theorem Zq1:TZ prog 182 [.int .i64 0]:=Qhx (by kernel_rfl)
theorem Zq0:TZ prog 209 [.nilFunc,.nilFunc,.nilFunc,.nilFunc,.nilFunc,.nilFunc,.nilFunc]:=Qhx (by kernel_rfl)
theorem Q0c:Qa5 117:=entr func117
theorem Zio:Qa5 118:=entr func118
theorem Zgk:TZ prog 214 [.int .i64 0,.int .i64 0,.int .i64 0,.int .i64 0,.int .i64 0,.int .i64 0,.int .i64 0,.int .i64 0,.int .i64 0,.int .i64 0]:=Qhx (by kernel_rfl)
theorem Zh7:Qa5 143:=entr func143
theorem Zqz:TZ prog 224 [.int .i64 0,.int .i64 0,.int .i64 0,.int .i64 0,.int .i64 0]:=Qhx (by kernel_rfl)
theorem Zh6:Qa5 144:=entr func144
theorem Zh1:Qa5 149:=entr func149
theorem Zh5:Qa5 145:=entr func145
theorem Zic:Qa5 135:=entr func135
theorem Zh4:Qa5 146:=entr func146
theorem Q68:Qa5 136:=entr func136
theorem Zin:Qa5 119:=entr func119
theorem Zim:Qa5 120:=entr func120
theorem Zea:Qa5 97:=entr func97
theorem Zn7:Qa5 57:=entr func57
theorem Qz8:Qa5 58:=entr func58
theorem tz42:TZ prog 42 [.slice none 0 0,.slice none 0 0]:=Qhx (by kernel_rfl)
theorem Zn8:Qa5 55:=entr func55
theorem Zod:Qa5 47:=entr func47
theorem Zon:Qa5 16:=entr func16
theorem Zsw:TZ prog 149 [.int .i64 0,.int .i64 0,.int .i64 0,.int .i64 0,.int .i64 0]:=Qhx (by kernel_rfl)
theorem Qij:Qa5 25:=entr func25
theorem Zmo:TE prog 160 5 40:=Qro (by kernel_rfl) (by decide)
theorem Zn6:Qa5 59:=entr func59
theorem tz59:TZ prog 59 [.int .u8 0,.slice none 0 0,.int .i64 0,.int .i64 0,.int .i64 0,.int .i64 0,.slice none 0 0]:=Qhx (by kernel_rfl)
theorem Zra:TE prog 133 7 88:=Qro (by kernel_rfl) (by decide)
theorem Zn0:Qa5 69:=entr func69
theorem Zix:Qa5 107:=entr func107
theorem Znz:Qa5 70:=entr func70
theorem tz61:TZ prog 61 [.int .i64 0,.int .i64 0]:=Qhx (by kernel_rfl)
theorem Zny:Qa5 71:=entr func71
theorem Znx:Qa5 72:=entr func72
theorem te61:TE prog 61 2 16:=Qro (by kernel_rfl) (by decide)
theorem Zn5:Qa5 60:=entr func60
theorem Zsx:TZ prog 146 [.int .i64 0,.int .i64 0,.int .i64 0,.int .i64 0,.int .i64 0,.int .i64 0,.int .i64 0,.int .i64 0,.int .i64 0,.int .i64 0]:=Qhx (by kernel_rfl)
theorem tz89:TZ prog 89 [.int .i64 0,.int .i64 0,.int .i64 0,.int .i64 0]:=Qhx (by kernel_rfl)
theorem Zmh:TZ prog 151 [.int .i64 0,.int .i64 0,.int .i64 0]:=Qhx (by kernel_rfl)
theorem te4:TE prog 4 1 1:=Qro (by kernel_rfl) (by decide)
theorem tz4:TZ prog 4 [.bool false]:=Qhx (by kernel_rfl)
theorem Q4i:Qa5 99:=entr func99
theorem te89:TE prog 89 4 32:=Qro (by kernel_rfl) (by decide)
theorem Zil:Qa5 121:=entr func121
theorem Qz9:Qa5 29:=entr func29
theorem Znm:Qa5 98:=entr func98
theorem Q4l:Qa5 38:=entr func38
theorem Zeh:Qa5 28:=entr func28
theorem Zoi:Qa5 33:=entr func33
theorem Zn4:Qa5 61:=entr func61
theorem tz52:TZ prog 52 [.slice none 0 0,.slice none 0 0,.slice none 0 0]:=Qhx (by kernel_rfl)
theorem Zn3:Qa5 62:=entr func62
theorem tz90:TZ prog 90 [.int .i64 0,.int .i64 0,.int .i64 0,.int .i64 0]:=Qhx (by kernel_rfl)
theorem Zn2:Qa5 63:=entr func63
theorem Zeg:Qa5 64:=entr func64
theorem tz28:TZ prog 28 [.slice none 0 0]:=Qhx (by kernel_rfl)
theorem te28:TE prog 28 1 24:=Qro (by kernel_rfl) (by decide)
theorem te90:TE prog 90 4 32:=Qro (by kernel_rfl) (by decide)
theorem Zoc:Qa5 49:=entr func49
theorem tz92:TZ prog 92 [.int .i64 0,.int .i64 0]:=Qhx (by kernel_rfl)
theorem Zei:Qa5 22:=entr func22
theorem Zoo:Qa5 14:=entr func14
theorem Qtg:Qa5 15:=entr func15
theorem Zom:Qa5 17:=entr func17
theorem Zol:Qa5 18:=entr func18
theorem Zok:Qa5 19:=entr func19
theorem Zi0:Qa5 104:=entr func104
theorem Ziz:Qa5 105:=entr func105
theorem Ziy:Qa5 106:=entr func106
theorem Zn1:Qa5 68:=entr func68
theorem tz26:TZ prog 26 [.slice none 0 0,.slice none 0 0]:=Qhx (by kernel_rfl)
theorem te59:TE prog 59 7 88:=Qro (by kernel_rfl) (by decide)
theorem Zoj:Qa5 30:=entr func30
theorem Zoh:Qa5 39:=entr func39
theorem Zog:Qa5 41:=entr func41
theorem Znv:Qa5 77:=entr func77
theorem Ztj:TE prog 136 1 8:=Qro (by kernel_rfl) (by decide)
theorem Znu:Qa5 78:=entr func78
theorem Zsv:TZ prog 168 [.slice none 0 0]:=Qhx (by kernel_rfl)
theorem tz96:TZ prog 96 [.slice none 0 0]:=Qhx (by kernel_rfl)
theorem Zmi:TZ prog 108 [.int .i64 0,.int .i64 0]:=Qhx (by kernel_rfl)
theorem Znt:Qa5 80:=entr func80
theorem Zs1:TZ prog 110 [.int .i64 0,.int .i64 0,.int .i64 0,.int .i64 0,.int .i64 0,.int .i64 0,.int .i64 0,.int .i64 0]:=Qhx (by kernel_rfl)
theorem Zns:Qa5 86:=entr func86
theorem Znr:Qa5 87:=entr func87
theorem Zof:Qa5 43:=entr func43
theorem Zsz:TZ prog 114 [.int .i64 0,.int .i64 0,.int .i64 0,.int .i64 0,.int .i64 0,.int .i64 0,.int .i64 0,.int .i64 0]:=Qhx (by kernel_rfl)
theorem Zs0:TZ prog 112 [.int .i64 0,.int .i64 0]:=Qhx (by kernel_rfl)
theorem Zoe:Qa5 45:=entr func45
theorem Zsy:TZ prog 122 [.bool false,.bool false,.bool false,.bool false,.bool false,.bool false,.bool false,.bool false]:=Qhx (by kernel_rfl)
theorem tz27:TZ prog 27 [.slice none 0 0]:=Qhx (by kernel_rfl)
theorem tz1:TZ prog 1 [.nilFunc]:=Qhx (by kernel_rfl)
theorem Zsu:TZ prog 179 [.nilFunc]:=Qhx (by kernel_rfl)
theorem Qz7:Qa5 91:=entr func91
theorem Znp:Qa5 90:=entr func90
theorem Zed:Qa5 92:=entr func92
theorem Zob:Qa5 50:=entr func50
theorem Zoa:Qa5 51:=entr func51
theorem Zno:Qa5 93:=entr func93
theorem Zn9:Qa5 52:=entr func52
theorem Qwj:EqT prog 10000 120 2:=Qtf (d:=9998) underlying120 (by kernel_rfl) (.int _ (by decide) rfl underlying3 (.int _ (by decide) rfl underlying3 (.nil _)))
theorem Zry:EqT prog 10000 63 4:=Qtf (d:=9998) underlying63 (by kernel_rfl) (.int _ (by decide) rfl underlying3 (.int _ (by decide) rfl underlying3 (.int _ (by decide) rfl underlying3 (.int _ (by decide) rfl underlying3 (.nil _)))))
theorem Ztx:EqT prog 10000 61 2:=Qtf (d:=9998) underlying61 (by kernel_rfl) (.int _ (by decide) rfl underlying3 (.int _ (by decide) rfl underlying3 (.nil _)))
def tyT:Tab:=.node 110 ⟨true,8,(some [.int .i64 0,.int .i64 0,.int .i64 0,.int .i64 0,.int .i64 0,.int .i64 0,.int .i64 0,.int .i64 0]),[(0,true,2),(2,true,2),(4,true,2),(6,true,2)]⟩ (.node 42 ⟨true,2,(some [.slice none 0 0,.slice none 0 0]),[(0,false,1),(1,false,1)]⟩ (.node 27 ⟨false,1,(some [.slice none 0 0]),[]⟩ (.node 5 ⟨false,1,none,[]⟩ (.node 3 ⟨false,1,(some [.int .i64 0]),[]⟩ (.node 1 ⟨false,1,(some [.nilFunc]),[]⟩ .nil .nil) (.node 4 ⟨false,1,(some [.bool false]),[]⟩ .nil .nil)) (.node 24 ⟨false,1,none,[]⟩ (.node 23 ⟨false,1,none,[]⟩ .nil .nil) (.node 26 ⟨true,2,(some [.slice none 0 0,.slice none 0 0]),[(0,false,1),(1,false,1)]⟩ .nil .nil))) (.node 34 ⟨true,3,(some [.slice none 0 0,.slice none 0 0,.slice none 0 0]),[(0,false,1),(1,false,1),(2,false,1)]⟩ (.node 31 ⟨false,1,none,[]⟩ (.node 28 ⟨false,1,(some [.slice none 0 0]),[]⟩ .nil .nil) (.node 32 ⟨false,1,none,[]⟩ .nil .nil)) (.node 40 ⟨false,1,none,[]⟩ (.node 39 ⟨false,1,none,[]⟩ .nil .nil) .nil))) (.node 63 ⟨true,4,(some [.int .i64 0,.int .i64 0,.int .i64 0,.int .i64 0]),[(0,false,1),(1,false,1),(2,false,1),(3,false,1)]⟩ (.node 52 ⟨true,3,(some [.slice none 0 0,.slice none 0 0,.slice none 0 0]),[(0,false,1),(1,false,1),(2,false,1)]⟩ (.node 49 ⟨false,1,none,[]⟩ (.node 45 ⟨false,1,(some [.slice none 0 0]),[]⟩ .nil .nil) (.node 50 ⟨false,1,none,[]⟩ .nil .nil)) (.node 59 ⟨true,7,(some [.int .u8 0,.slice none 0 0,.int .i64 0,.int .i64 0,.int .i64 0,.int .i64 0,.slice none 0 0]),[(0,false,1),(1,false,1),(2,false,1),(3,false,1),(4,false,1),(5,false,1),(6,false,1)]⟩ (.node 57 ⟨false,1,none,[]⟩ .nil .nil) (.node 61 ⟨true,2,(some [.int .i64 0,.int .i64 0]),[(0,false,1),(1,false,1)]⟩ .nil .nil))) (.node 92 ⟨true,2,(some [.int .i64 0,.int .i64 0]),[(0,false,1),(1,false,1)]⟩ (.node 89 ⟨true,4,(some [.int .i64 0,.int .i64 0,.int .i64 0,.int .i64 0]),[(0,false,1),(1,false,1),(2,false,1),(3,false,1)]⟩ (.node 82 ⟨true,4,(some [.int .i64 0,.int .i64 0,.int .i64 0,.int .i64 0]),[(0,false,1),(1,false,1),(2,false,1),(3,false,1)]⟩ .nil .nil) (.node 90 ⟨true,4,(some [.int .i64 0,.int .i64 0,.int .i64 0,.int .i64 0]),[(0,false,1),(1,false,1),(2,false,1),(3,false,1)]⟩ .nil .nil)) (.node 108 ⟨true,2,(some [.int .i64 0,.int .i64 0]),[(0,false,1),(1,false,1)]⟩ (.node 96 ⟨false,1,(some [.slice none 0 0]),[]⟩ .nil .nil) .nil)))) (.node 171 ⟨false,1,none,[]⟩ (.node 140 ⟨true,7,(some [.slice none 0 0,.slice none 0 0,.slice none 0 0,.slice none 0 0,.slice none 0 0,.slice none 0 0,.int .i64 0]),[(0,true,2),(2,true,3),(5,false,1),(6,false,1)]⟩ (.node 120 ⟨true,2,(some [.int .i64 0,.int .i64 0]),[(0,false,1),(1,false,1)]⟩ (.node 114 ⟨true,8,(some [.int .i64 0,.int .i64 0,.int .i64 0,.int .i64 0,.int .i64 0,.int .i64 0,.int .i64 0,.int .i64 0]),[(0,true,2),(2,true,2),(4,true,2),(6,true,2)]⟩ (.node 112 ⟨true,2,(some [.int .i64 0,.int .i64 0]),[(0,false,1),(1,false,1)]⟩ .nil .nil) (.node 116 ⟨false,1,none,[]⟩ .nil .nil)) (.node 133 ⟨true,7,(some [.int .u8 0,.slice none 0 0,.int .i64 0,.int .i64 0,.int .i64 0,.int .i64 0,.slice none 0 0]),[(0,false,1),(1,false,1),(2,false,1),(3,false,1),(4,false,1),(5,false,1),(6,false,1)]⟩ (.node 122 ⟨true,8,(some [.bool false,.bool false,.bool false,.bool false,.bool false,.bool false,.bool false,.bool false]),[]⟩ .nil .nil) (.node 136 ⟨false,1,(some [(.pointer none)]),[]⟩ .nil .nil))) (.node 160 ⟨true,5,(some [.int .i64 0,.int .i64 0,.int .i64 0,.int .i64 0,.int .i64 0]),[(0,false,1),(1,false,1),(2,false,1),(3,false,1),(4,false,1)]⟩ (.node 149 ⟨true,5,(some [.int .i64 0,.int .i64 0,.int .i64 0,.int .i64 0,.int .i64 0]),[(0,false,1),(1,false,1),(2,false,1),(3,false,1),(4,false,1)]⟩ (.node 146 ⟨true,10,(some [.int .i64 0,.int .i64 0,.int .i64 0,.int .i64 0,.int .i64 0,.int .i64 0,.int .i64 0,.int .i64 0,.int .i64 0,.int .i64 0]),[(0,true,4),(4,true,4),(8,false,1),(9,false,1)]⟩ .nil .nil) (.node 151 ⟨true,3,(some [.int .i64 0,.int .i64 0,.int .i64 0]),[(0,false,1),(1,false,1),(2,false,1)]⟩ .nil .nil)) (.node 168 ⟨false,1,(some [.slice none 0 0]),[]⟩ (.node 162 ⟨false,1,none,[]⟩ .nil .nil) .nil))) (.node 209 ⟨true,7,(some [.nilFunc,.nilFunc,.nilFunc,.nilFunc,.nilFunc,.nilFunc,.nilFunc]),[]⟩ (.node 190 ⟨false,1,(some [(.map none)]),[]⟩ (.node 182 ⟨true,1,(some [.int .i64 0]),[(0,false,1)]⟩ (.node 179 ⟨false,1,(some [.nilFunc]),[]⟩ .nil .nil) (.node 189 ⟨false,1,none,[]⟩ .nil .nil)) (.node 202 ⟨false,1,none,[]⟩ (.node 197 ⟨false,1,none,[]⟩ .nil .nil) (.node 207 ⟨false,1,none,[]⟩ .nil .nil))) (.node 227 ⟨true,3,(some [.int .i64 0,.int .i64 0,.int .i64 0]),[(0,false,1),(1,false,1),(2,false,1)]⟩ (.node 219 ⟨false,1,none,[]⟩ (.node 214 ⟨true,10,(some [.int .i64 0,.int .i64 0,.int .i64 0,.int .i64 0,.int .i64 0,.int .i64 0,.int .i64 0,.int .i64 0,.int .i64 0,.int .i64 0]),[(0,true,4),(4,true,4),(8,false,1),(9,false,1)]⟩ .nil .nil) (.node 224 ⟨true,5,(some [.int .i64 0,.int .i64 0,.int .i64 0,.int .i64 0,.int .i64 0]),[(0,true,5)]⟩ .nil .nil)) (.node 235 ⟨true,4,(some [(.pointer none),(.pointer none),(.pointer none),(.pointer none)]),[]⟩ (.node 234 ⟨false,1,none,[]⟩ .nil .nil) .nil))))
theorem tbk:tyT.ok prog:=⟨⟨Zti,Zs1,.inr ⟨_,underlying110,rfl,Q8d,rfl,Q8d,rfl,Q8d,rfl,Q8d,trivial⟩⟩,⟨⟨ti42,tz42,.inr ⟨_,underlying42,rfl,ti39,rfl,ti40,trivial⟩⟩,⟨⟨ti27,tz27,.inl rfl⟩,⟨⟨ti5,trivial,.inl rfl⟩,⟨⟨ti3,tz3,.inl rfl⟩,⟨⟨ti1,tz1,.inl rfl⟩,trivial,trivial⟩,⟨⟨ti4,tz4,.inl rfl⟩,trivial,trivial⟩⟩,⟨⟨ti24,trivial,.inl rfl⟩,⟨⟨ti23,trivial,.inl rfl⟩,trivial,trivial⟩,⟨⟨ti26,tz26,.inr ⟨_,underlying26,rfl,ti23,rfl,ti24,trivial⟩⟩,trivial,trivial⟩⟩⟩,⟨⟨ti34,tz34,.inr ⟨_,underlying34,rfl,ti31,rfl,ti32,rfl,ti27,trivial⟩⟩,⟨⟨ti31,trivial,.inl rfl⟩,⟨⟨ti28,tz28,.inl rfl⟩,trivial,trivial⟩,⟨⟨ti32,trivial,.inl rfl⟩,trivial,trivial⟩⟩,⟨⟨ti40,trivial,.inl rfl⟩,⟨⟨ti39,trivial,.inl rfl⟩,trivial,trivial⟩,trivial⟩⟩⟩,⟨⟨ti63,tz63,.inr ⟨_,underlying63,rfl,ti3,rfl,ti3,rfl,ti3,rfl,ti3,trivial⟩⟩,⟨⟨ti52,tz52,.inr ⟨_,underlying52,rfl,ti49,rfl,ti50,rfl,ti27,trivial⟩⟩,⟨⟨ti49,trivial,.inl rfl⟩,⟨⟨ti45,tz45,.inl rfl⟩,trivial,trivial⟩,⟨⟨ti50,trivial,.inl rfl⟩,trivial,trivial⟩⟩,⟨⟨ti59,tz59,.inr ⟨_,underlying59,rfl,ti5,rfl,ti57,rfl,ti3,rfl,ti3,rfl,ti3,rfl,ti3,rfl,ti27,trivial⟩⟩,⟨⟨ti57,trivial,.inl rfl⟩,trivial,trivial⟩,⟨⟨ti61,tz61,.inr ⟨_,underlying61,rfl,ti3,rfl,ti3,trivial⟩⟩,trivial,trivial⟩⟩⟩,⟨⟨ti92,tz92,.inr ⟨_,underlying92,rfl,ti3,rfl,ti3,trivial⟩⟩,⟨⟨ti89,tz89,.inr ⟨_,underlying89,rfl,ti3,rfl,ti3,rfl,ti3,rfl,ti3,trivial⟩⟩,⟨⟨ti82,tz82,.inr ⟨_,underlying82,rfl,ti3,rfl,ti3,rfl,ti3,rfl,ti3,trivial⟩⟩,trivial,trivial⟩,⟨⟨ti90,tz90,.inr ⟨_,underlying90,rfl,ti3,rfl,ti3,rfl,ti3,rfl,ti3,trivial⟩⟩,trivial,trivial⟩⟩,⟨⟨Q8d,Zmi,.inr ⟨_,underlying108,rfl,ti3,rfl,ti3,trivial⟩⟩,⟨⟨ti96,tz96,.inl rfl⟩,trivial,trivial⟩,trivial⟩⟩⟩⟩,⟨⟨Ztc,trivial,.inl rfl⟩,⟨⟨Ztf,Zq2,.inr ⟨_,underlying140,rfl,ti42,rfl,ti34,rfl,ti45,rfl,ti3,trivial⟩⟩,⟨⟨Qql,Qud,.inr ⟨_,underlying120,rfl,ti3,rfl,ti3,trivial⟩⟩,⟨⟨Zth,Zsz,.inr ⟨_,underlying114,rfl,Zb9,rfl,Zb9,rfl,Zb9,rfl,Zb9,trivial⟩⟩,⟨⟨Zb9,Zs0,.inr ⟨_,underlying112,rfl,ti3,rfl,ti3,trivial⟩⟩,trivial,trivial⟩,⟨⟨Zgo,trivial,.inl rfl⟩,trivial,trivial⟩⟩,⟨⟨Qkd,Q1d,.inr ⟨_,underlying133,rfl,ti5,rfl,Zgo,rfl,ti3,rfl,ti3,rfl,ti3,rfl,ti3,rfl,ti27,trivial⟩⟩,⟨⟨Ztg,Zsy,.inl rfl⟩,trivial,trivial⟩,⟨⟨Qpz,Zq3,.inl rfl⟩,trivial,trivial⟩⟩⟩,⟨⟨Que,Qy9,.inr ⟨_,underlying160,rfl,ti3,rfl,ti3,rfl,ti3,rfl,ti3,rfl,ti3,trivial⟩⟩,⟨⟨Quf,Zsw,.inr ⟨_,underlying149,rfl,ti3,rfl,ti3,rfl,ti3,rfl,ti3,rfl,ti3,trivial⟩⟩,⟨⟨Zmm,Zsx,.inr ⟨_,underlying146,rfl,ti89,rfl,ti89,rfl,ti3,rfl,ti3,trivial⟩⟩,trivial,trivial⟩,⟨⟨Zq9,Zmh,.inr ⟨_,underlying151,rfl,ti3,rfl,ti3,rfl,ti3,trivial⟩⟩,trivial,trivial⟩⟩,⟨⟨Ztd,Zsv,.inl rfl⟩,⟨⟨Zte,trivial,.inl rfl⟩,trivial,trivial⟩,trivial⟩⟩⟩,⟨⟨Zs6,Zq0,.inl rfl⟩,⟨⟨Zml,Zst,.inl rfl⟩,⟨⟨Zta,Zq1,.inr ⟨_,underlying182,rfl,ti3,trivial⟩⟩,⟨⟨Ztb,Zsu,.inl rfl⟩,trivial,trivial⟩,⟨⟨Zs9,trivial,.inl rfl⟩,trivial,trivial⟩⟩,⟨⟨Zs7,trivial,.inl rfl⟩,⟨⟨Zs8,trivial,.inl rfl⟩,trivial,trivial⟩,⟨⟨Qrn,trivial,.inl rfl⟩,trivial,trivial⟩⟩⟩,⟨⟨Q8c,Q8a,.inr ⟨_,underlying227,rfl,ti3,rfl,ti3,rfl,ti3,trivial⟩⟩,⟨⟨Zs5,trivial,.inl rfl⟩,⟨⟨Q3v,Zgk,.inr ⟨_,underlying214,rfl,ti63,rfl,ti63,rfl,ti3,rfl,ti3,trivial⟩⟩,trivial,trivial⟩,⟨⟨Zq8,Zqz,.inr ⟨_,underlying224,rfl,Que,trivial⟩⟩,trivial,trivial⟩⟩,⟨⟨Zq7,Zqy,.inl rfl⟩,⟨⟨Qxa,trivial,.inl rfl⟩,trivial,trivial⟩,trivial⟩⟩⟩⟩⟩
section
variable {ops : Array Oper} {X : Nat → Nat → Prop} {φ0 : Nat → FSlot} {w0 : World} {ro : Option Nat} {Q : Exit → AS → Prop} {s : AS} {id : Nat} {y : Code}
theorem wxz (h:AWp prog X φ0 w0 ro y Q (Qsn tyT ops [] s)) (hm:MetX tyT ops [] s:=by exact⟨by kernel_rfl,by kernel_rfl⟩):AWp prog X φ0 w0 ro (.seq (.region id ops false) y) Q s:=Zr0 tbk [] trivial h hm
theorem wxz1 (h:Q .normal (Qsn tyT ops [] s)) (hm:MetX tyT ops [] s:=by exact⟨by kernel_rfl,by kernel_rfl⟩):AWp prog X φ0 w0 ro (.region id ops false) Q s:=Zlb tbk [] trivial h hm
theorem wxe (h:AWp prog X φ0 w0 ro y Q (Qsn tyT ops [] s)) (hf:prog.follows .mixedOrders=true:=by kernel_rfl) (hm:MetX tyT ops [] s:=by exact⟨by kernel_rfl,by kernel_rfl⟩) (ho:Qhd (ops.toList.zip (Q1n tyT ops [] s)) [] []=true:=by kernel_rfl):AWp prog X φ0 w0 ro (.seq (.region id ops true) y) Q s:=Zla tbk [] trivial h hf hm ho
theorem wxe1 (h:Q .normal (Qsn tyT ops [] s)) (hf:prog.follows .mixedOrders=true:=by kernel_rfl) (hm:MetX tyT ops [] s:=by exact⟨by kernel_rfl,by kernel_rfl⟩) (ho:Qhd (ops.toList.zip (Q1n tyT ops [] s)) [] []=true:=by kernel_rfl):AWp prog X φ0 w0 ro (.region id ops true) Q s:=Ze1 tbk [] trivial h hf hm ho
end
end
section
open Go.ChangeShapes Go.WideShapes Go.ChangeAt Go.RowKit Go.Deep Go.Joins
theorem Tryz.own:ownKnob prog.godebug=none:=by kernel_rfl
theorem Tryz.laidOut:laidOutB prog=true:=by kernel_rfl
def noX:Nat→Nat→Prop:=fun _ _=>False
def noφ:Nat→FSlot:=fun _=>.unused
def RelL (w:World):List AV→List Value→Prop
 |[],[]=>True
 |a::l,v::k=>RelV noX noφ w a v∧RelL w l k
 |_,_=>False
theorem RelL.get {w:World}:∀{l:List AV}{k:List Value},RelL w l k→k.length=l.length∧∀i a,l[i]? = some a→RelV noX noφ w a (k.getD i undef)
 |[],[],_=>⟨rfl,by simp⟩
 |_::_,_::_,h=>by
  obtain⟨h1,h2⟩:=RelL.get h.2
  refine⟨by simp[h1],fun i a hi=>?_⟩
  cases i with
  |zero=>simp at hi;subst hi;exact h.1
  |succ i=>simpa using h2 i a (by simpa using hi)
theorem RelL.app {w:World}:∀{l l':List AV}{k k':List Value},RelL w l k→RelL w l' k'→RelL w (l++l') (k++k')
 |[],_,[],_,_,h=>h
 |_::_,_,_::_,_,h,h'=>⟨h.1,RelL.app h.2 h'⟩
theorem Zds {P:Program}{f:FuncId}{args:List AV}(h:Spec P f args [] (B true) []) {w:World}{vals:Array Value}(hr:RelL w args vals.toList):Calls P f vals w fun e w'=>e=.returned (.bool true)∧Below w.heap.size w w':=by
 obtain⟨h1,h2⟩:=hr.get
 refine(h.calls (X:=noX) (φ:=noφ) (by simpa using h1) (fun i a hi=>?_) (fun _=>rfl) (fun _ _ h=>h.elim)).mono ?_
 ·have:=h2 i a hi
  simpa [Array.getD_eq_getD_getElem?,List.getD_eq_getElem?_getD] using this
 ·rintro e w' ⟨v,φ',rfl,hv,hb⟩
  rw[Qcj hv]
  exact⟨rfl,hb⟩
def Opn (P:Program) (t:TypeId) (n:Nat) {T:Type}(c:T→List AV) (G:T→Prop):Prop:=
 P.cellsOf t=n∧(∀x,(c x).length=n)∧∀(H:Type) (enc:TypeId×Value→H) (w:World) (base:Nat) (spare:Nat→Bool) (held:Bool) (fuel:Nat) (cs:List Value) (x:DataW H×List MemPlace),
  DataW.trod enc P w base spare held fuel t cs=some x→(∀q∈x.1.weights P t,q≤reachBytes)→∃v:T,G v∧RelL w (c v) cs
theorem Zc3 {P:Program}{t:TypeId}{k:IntKind}(ht:P.underlying t=some (.int k)) (hc:P.cellsOf t=1):Opn P t 1 (fun x:Int=>[K k x]) (fun x=>(Lit.int k x).wf=true):=
 ⟨hc,fun _=>rfl,fun _ _ _ _ _ _ _ _ _ h _=>by
  obtain⟨n,rfl,_,hw⟩:=DataW.trod_int ht h
  exact⟨n,hw,.lit _,trivial⟩⟩
theorem Zmt {w:World}{a:Addr}{v:Value}(h:w.cell? a=some v):a.spot=none∧a.block<w.heap.size:=by
 unfold World.cell? at h
 split at h
 ·rename_i hb
  split at h
  ·cases h
  ·rename_i hs
   exact⟨by simpa using hs,(Array.getElem?_eq_some_iff.1 hb).1⟩
 ·cases h
theorem Qpy (b o i:Nat):(⟨b,o,none⟩:Addr).add i=⟨b,o+i,none⟩:=by
 unfold Addr.add
 split
 ·rename_i h
  subst h
  rfl
 ·rfl
theorem Q1u {T:Type}{p:Nat→T→Prop}:∀(n:Nat),(∀i,i<n→∃x,p i x)→∃l:List T,l.length=n∧∀i x,l[i]? = some x→p i x
 |0,_=>⟨[],rfl,by simp⟩
 |n+1,h=>by
  obtain⟨l,h1,h2⟩:=Q1u n fun i hi=>h i (Nat.lt_succ_of_lt hi)
  obtain⟨x,hx⟩:=h n (Nat.lt_succ_self n)
  refine⟨l++[x],by simp[h1],fun i y hi=>?_⟩
  rcases Nat.lt_or_ge i n with hlt |hge
  ·rw[List.getElem?_append_left (by omega)] at hi
   exact h2 i y hi
  ·rw[List.getElem?_append_right (by omega)] at hi
   have:i=n:=by
    have:=(List.getElem?_eq_some_iff.1 hi).1
    simp at this
    omega
   subst this
   simp[h1] at hi
   exact hi▸hx
theorem Qvf {H:Type}{P:Program}{e:TypeId}:∀{l:List (DataW H)}{d:DataW H},d∈l→∀q∈d.weights P e,q∈DataW.weightsAll P e l
 |[],_,h,_,_=>by cases h
 |x::l,d,h,q,hq=>by
  rw[DataW.weightsAll]
  rcases List.mem_cons.1 h with rfl |h
  ·exact List.mem_append_left _ hq
  ·exact List.mem_append_right _ (Qvf h q hq)
theorem Qno {P:Program}{t e:TypeId}{n bb:Nat}{T:Type}{c:T→List AV}{G:T→Prop}(ht:P.underlying t=some (.slice e)) (hc:P.cellsOf t=1) (he:Opn P e n c G) (hn:0<n) (hbb:P.bytesOf e=bb) :
  Opn P t 1 (fun l:List T=>[.dat n (l.map c)]) (fun l=>l.length≤maxLen∧(∀x∈l,G x)∧l.length*bb≤140737488351232):=
 ⟨hc,fun _=>rfl,fun H enc w base spare held fuel cs x h hwt=>by
  obtain⟨hce,hcl,hop⟩:=he
  rcases open_slice ht h with ⟨rfl,_⟩ |⟨a,len,cap,m,fu,D,Pl,rfl,hb,hl,hm,hmm,rfl,hi⟩
  ·exact⟨[],⟨Nat.zero_le _,by simp,by simp⟩,.dat n [] none 0 0 (fun _ _=>undef) (DatOK.nil n none 0 _ (Nat.zero_le _)) (by simp),trivial⟩
  ·have hlm:len≤m:=by rw[hmm];split<;>omega
   obtain⟨l,hll,hlp⟩:=Q1u (p:=fun i (v:T)=>G v∧∃cs',cs'.length=n∧(∀j,j<n→w.cell? ((a.add (i*n)).add j)=cs'[j]?)∧RelL w (c v) cs') len fun i hil=>by
    obtain⟨cs',h1,h2⟩:=hi i (by omega)
    obtain⟨v,hG,hr⟩:=hop _ _ _ _ _ _ _ _ _ h2 fun q hq=>hwt q (by
     simp only[DataW.weights,ht]
     exact List.mem_cons_of_mem _ (List.mem_append_left _ (Qvf (List.mem_map.2 ⟨i,List.mem_range.2 hil,rfl⟩) q hq)))
    rw[hce] at h1
    obtain⟨_,h3,h4⟩:=World.cells?_some h1
    exact⟨v,hG,cs',h3,h4,hr⟩
   refine⟨l,⟨by omega,fun x hx=>?_,?_⟩,?_,trivial⟩
   ·obtain⟨i,hi'⟩:=List.getElem?_of_mem hx
    exact(hlp i x hi').1
   ·have:=hwt ((((List.range len).map D).length+((List.range (m-len)).map fun j=>D (len+j)).length)*P.bytesOf e) (by
     simp only[DataW.weights,ht]
     exact List.mem_cons_self ..)
    rw[hbb,List.length_map,List.length_range,Nat.add_mul] at this
    rw[hll]
    exact Nat.le_trans (Nat.le_add_right _ _) this
   ·have elt:∀(i:Nat) y,(l.map c)[i]? = some y→∃v cs',l[i]? = some v∧y=c v∧cs'.length=n∧(∀j,j<n→w.cell? ((a.add (i*n)).add j)=cs'[j]?)∧RelL w (c v) cs':=fun i y hy=>by
     rw[List.getElem?_map] at hy
     cases hv:l[i]? with
     |none=>rw[hv] at hy;cases hy
     |some v=>
      rw[hv] at hy
      cases hy
      obtain⟨_,cs',h1,h2,h3⟩:=hlp i v hv
      exact⟨v,cs',rfl,rfl,h1,h2,h3⟩
    have key:∀(i:Nat) y,(l.map c)[i]? = some y→∀j,j<n→∃u,w.cell? ((a.add (i*n)).add j)=some u∧∀q,y[j]? = some q→RelV noX noφ w q u:=fun i y hy j hj=>by
     obtain⟨v,cs',hv,rfl,h1,h2,h3⟩:=elt i y hy
     obtain⟨u,hu⟩:∃u,cs'[j]? = some u:=⟨_,List.getElem?_eq_getElem (by omega)⟩
     refine⟨u,(h2 j hj).trans hu,fun q hq=>?_⟩
     have:=(h3.get).2 j q hq
     rwa [List.getD_eq_getElem?_getD,hu] at this
    rw[←hll]
    refine .dat n _ (some a) l.length cap (fun i j=>(w.cell? ((a.add (i*n)).add j)).getD undef) ⟨by simp,by omega,hm,fun y hy=>?_,fun hne=>?_⟩ fun i y hy j q hq=>?_
    ·obtain⟨v,_,rfl⟩:=List.mem_map.1 hy
     exact hcl v
    ·obtain⟨y0,hy0⟩:∃y0,(l.map c)[0]? = some y0:=by
      cases l with
      |nil=>exact absurd rfl hne
      |cons v l=>exact⟨c v,rfl⟩
     obtain⟨u,hu,_⟩:=key 0 y0 hy0 0 hn
     have ha0:(a.add (0*n)).add 0=a:=by simp[Addr.add]
     rw[ha0] at hu
     obtain⟨hs,hlt⟩:=Zmt hu
     obtain⟨b,o,sp⟩:=a
     dsimp only at hs
     subst hs
     refine⟨b,o,rfl,fun i y hy j hj=>⟨⟨hlt,fun h=>h,(fun q h=>by cases h),(fun q L h=>by cases h),(fun q Y h=>by cases h),(fun q bs k h=>by cases h)⟩,?_⟩⟩
     obtain⟨u,hu,_⟩:=key i y hy j hj
     rw[Qpy,Qpy] at hu
     rw[hu,Qpy,Qpy,hu]
     rfl
    ·have hj:j<n:=by
      have h1:=(List.getElem?_eq_some_iff.1 hq).1
      obtain⟨v,_,rfl⟩:=List.mem_map.1 (List.mem_of_getElem? hy)
      rwa [hcl v] at h1
     obtain⟨u,hu,hr⟩:=key i y hy j hj
     rw[hu]
     exact hr q hq⟩
theorem Qeg {H:Type}{enc:TypeId×Value→H}{P:Program}{w:World}{base:Nat}{spare:Nat→Bool}{held:Bool}{fuel:Nat}{cs:List Value}{fs:Array Field}{xs:List (DataW H×List MemPlace)}(hf:∀(i:Nat) (f:Field),fs[i]? = some f→DataW.trod enc P w base spare held fuel f.type ((cs.drop f.offset).take (P.cellsOf f.type))=xs[i]?)
  (hxl:xs.length=fs.size) (hwt:∀q∈DataW.weightsEach P (fs.toList.map (·.type)) (xs.map (·.1)),q≤reachBytes) {n:Nat}{T:Type}{c:T→List AV}{G:T→Prop}(j:Nat) (f:Field) (hj:fs[j]? = some f) (hop:Opn P f.type n c G):∃v:T,G v∧RelL w (c v) ((cs.drop f.offset).take n):=by
 have hjl:j<xs.length:=by rw[hxl];exact(Array.getElem?_eq_some_iff.1 hj).1
 have h1:=hf j f hj
 rw[List.getElem?_eq_getElem hjl,hop.1] at h1
 exact hop.2.2 _ _ _ _ _ _ _ _ _ h1 fun q hq=>hwt q (DataW.weights_mem_each (j:=j) (by simp[hj]) (by rw[List.getElem?_map,List.getElem?_eq_getElem hjl];rfl) q hq)
theorem Ql7 {H:Type}{P:Program}{t:TypeId}{fs:Array Field}{xs:List (DataW H×List MemPlace)}{pl:List MemPlace}(ht:P.underlying t=some (.struct fs)) (h:∀q∈(DataW.agg (xs.map (·.1)),pl).1.weights P t,q≤reachBytes):∀q∈DataW.weightsEach P (fs.toList.map (·.type)) (xs.map (·.1)),q≤reachBytes:=
 fun q hq=>h q (by simp only[DataW.weights,ht];exact hq)
theorem Zbz {H:Type}{P:Program}{ts:List TypeId}{ds:List (DataW H)}(h:(DataW.weightsEach P ts ds).all (· ≤ reachBytes)=true) (j:Nat) {t:TypeId}{d:DataW H}(ht:ts[j]? = some t) (hd:ds[j]? = some d):∀q∈d.weights P t,q≤reachBytes:=
 fun q hq=>by simpa using List.all_eq_true.1 h q (DataW.weights_mem_each ht hd q hq)
theorem Qhz {w:World}{A B':List AV}{cs:List Value}{k n k':Nat}(h:RelL w A (cs.take k)) (h':RelL w B' ((cs.drop k).take n)) (hk:k+n=k'):RelL w (A++B') (cs.take k'):=by
 subst hk
 rw[List.take_add]
 exact h.app h'
theorem Qo4 {w:World}{A:List AV}{cs:List Value}{n:Nat}(h:RelL w A ((cs.drop 0).take n)):RelL w A (cs.take n):=h
theorem Qvn {w:World}{A:List AV}{cs:List Value}{n:Nat}(h:RelL w A (cs.take n)) (hn:cs.length=n):RelL w A cs:=by
 subst hn
 rwa [List.take_length] at h
section
variable {H : Type} {enc : TypeId × Value → H} {P : Program} {w : World} {base : Nat} {spare : Nat → Bool} {held : Bool} {r : Reach} {b0 : Nat} {v : Value} {d : DataW H} {p : List MemPlace} {t : TypeId} {n : Nat} {T : Type} {c : T → List AV} {G : T → Prop}
theorem Zm7 (ho:Opn P t 1 c G) (a:T→AV) (ha:∀x,c x=[a x]) (h1:v.cells = #[v]) (h:DataW.Trod enc P w base spare held t v d p) (hwt:∀q∈d.weights P t,q≤reachBytes):∃x:T,G x∧RelV noX noφ w (a x) v:=by
 obtain⟨fuel,hf⟩:=h
 obtain⟨x,hG,hr⟩:=ho.2.2 _ _ _ _ _ _ _ _ _ hf hwt
 rw[ha,h1] at hr
 exact⟨x,hG,hr.1⟩
theorem Q1x {e:TypeId}(ht:P.underlying t=some (.slice e)) (ho:Opn P t 1 c G) (a:T→AV) (ha:∀x,c x=[a x]) (hv:Value.okWide P w r b0 t v) (h:DataW.Trod enc P w base spare held t v d p) (hwt:∀q∈d.weights P t,q≤reachBytes):∃x:T,G x∧RelV noX noφ w (a x) v:=by
 obtain⟨A,len,cap,rfl⟩:=okWide_slice ht hv
 exact Zm7 ho a ha rfl h hwt
theorem Q8t {fs:Array Field}(ht:P.underlying t=some (.struct fs)) (ho:Opn P t n c G) (hv:Value.okWide P w r b0 t v) (h:DataW.Trod enc P w base spare held t v d p) (hwt:∀q∈d.weights P t,q≤reachBytes):∃x:T,G x∧RelV noX noφ w (.agg (c x)) v:=by
 obtain⟨cs,rfl,hsz⟩:=okWide_struct ht hv
 obtain⟨fuel,hf⟩:=h
 obtain⟨x,hG,hr⟩:=ho.2.2 _ _ _ _ _ _ _ _ _ hf hwt
 obtain⟨h1,h2⟩:=hr.get
 refine⟨x,hG,.agg _ cs (by simpa [Value.cells] using h1) fun i a hi=>?_⟩
 have:=h2 i a hi
 simpa [Value.cells,Array.getD_eq_getD_getElem?,List.getD_eq_getElem?_getD] using this
end
section
variable {H : Type} {enc : TypeId × Value → H} {P : Program}
theorem Qrm (hl:laidOutB P=true) {W W':World}(hb:Below W.heap.size W W') {sp:Nat→Bool}:∀(ts:List TypeId) (vs:List Value) (ds:List (DataW H)) (ps:List MemPlace),
  ts.all (fun t=>P.readableRec t&&decide (t<P.types.size))=true→DataW.TrodAll enc P W 0 (fun _=>true) true ts vs ds ps→(∀x∈ps,x.block<W.heap.size)→(∀x∈ps,sp x.block=true) →
  DataW.TrodAll enc P W' 0 sp true ts vs ds ps
 |[],[],[],_,_,h,_,_=>h
 |[],_::_,_,_,_,h,_,_=>by simp[DataW.TrodAll] at h
 |[],[],_::_,_,_,h,_,_=>by simp[DataW.TrodAll] at h
 |_::_,[],_,_,_,h,_,_=>by simp[DataW.TrodAll] at h
 |_::_,_::_,[],_,_,h,_,_=>by simp[DataW.TrodAll] at h
 |t::ts,v::vs,d::ds,ps,hr,h,hlt,hsp=>by
  obtain⟨p,q,h1,h2,rfl⟩:=h
  rw[List.all_cons,Bool.and_eq_true,Bool.and_eq_true,decide_eq_true_eq] at hr
  refine⟨p,q,?_,Qrm hl hb ts vs ds q hr.2 h2 (fun x hx=>hlt x (List.mem_append_right _ hx)) (fun x hx=>hsp x (List.mem_append_right _ hx)),rfl⟩
  exact WideElems.Trod_stays hl hr.1.1 hr.1.2 h1 (fun x hx=>hb.same (hlt x (List.mem_append_left _ hx))) (fun x hx=>hsp x (List.mem_append_left _ hx))
theorem Zhh {f:Func}{s:ChangeSpec}{W W':World}{args:Array Value}{ds:List (DataW H)}{before:List MemPlace}(tb:TypeId)
  (hW:DataW.Whole enc P f.params.toList s.vars false W args.toList ds [] before) (hl:laidOutB P=true) (hp:f.params.toList.all (fun t=>P.readableRec t&&decide (t<P.types.size))=true)
  (hrt:f.resultTypes = #[tb]) (htb:P.underlying tb=some .bool) (hv:s.vars=[]) (hs1:(s.fn H (ds++[])).results=[.lit (.bool true)]) (hs2:(s.fn H (ds++[])).args=ds) (hs3:(s.fn H (ds++[])).vars=[])
  (hb:Below W.heap.size W W'):s.post enc P f false true false false W args (.bool true) W':=by
 have hlt:∀p∈before,p.block<W.heap.size:=fun p hp=>hW.lt p hp
 have hold:∀p∈before,(fun b=>decide (b<W.heap.size)) p.block=true:=fun p hp=>by simpa using hlt p hp
 obtain⟨pa,pv,hA,hV,he,hz,hn⟩:=hW
 rw[hv] at hV
 have hpv:pv=[]:=hV
 subst hpv
 rw[List.append_nil] at he
 subst he
 have hargs:∀sp:Nat→Bool,(∀p∈before,sp p.block=true)→DataW.TrodAll enc P W' 0 sp true f.params.toList args.toList (s.fn H (ds++[])).args before:=fun sp hsp=>by
  rw[hs2]
  exact Qrm hl hb _ _ _ _ hp hA hlt hsp
 have hvars:∀sp:Nat→Bool,DataW.TrodVars enc P W' sp s.vars (s.fn H (ds++[])).vars []:=fun sp=>by
  rw[hv,hs3]
  exact rfl
 have hres:∀(b:Nat) (sp:Nat→Bool) (hd:Bool),DataW.TrodAll enc P W' b sp hd f.resultTypes.toList ((Value.bool true).resultList f.resultTypes.size) (s.fn H (ds++[])).results []:=fun b sp hd=>by
  rw[hs1,hrt]
  exact trodAll_mk1 (shut_bool htb _)
 have hok:=ok_one (P:=P) (W':=W') (f:=f) (v:=.bool true) hrt rfl (okWide_bool_mk htb _)
 refine⟨ds,[],before,[],before,[],⟨before,[],hA,by rw[hv];exact rfl,by simp,hz,fun h=>by cases h⟩,hres _ _ _,hargs _ hold,hvars _,World.keptBut_mono (fun p hp=>⟨hp,Or.inr (Or.inl hp)⟩) (hb.frame (· ∈ before)),fun _=>?_⟩
 refine⟨hok,_,_,([]++before)++[],⟨[]++before,[],trodAll_append (hargs _ (fun _ _=>rfl)) (hres _ _ _),hvars _,rfl,?_,?_⟩,?_⟩
 ·intro b off hp
  have hin:MemPlace.cell b off∈before:=by simpa using hp
  rw[hb.frozen (hlt _ hin)]
  exact hz b off hin
 ·intro ha
  cases ha
 ·intro p hp _
  simpa using hp
end
end
section
open Go.ChangeShapes Go.WideShapes Go.ChangeAt Go.RowKit Go.Deep Go.Joins
def Qlf (x:Int):Prop:=(Lit.int .i64 x).wf=true
def Zd0 (x:GRow):Prop:=Qlf x.T∧Qlf x.P∧Qlf x.Liquid∧Qlf x.Vapour∧Qlf x.Silica
def Q60 (x:List GRow):Prop:=x.length≤maxLen∧(∀y∈x,Zd0 y)∧x.length*40≤140737488351232
def Zrs (x:Int):Prop:=(Lit.int .u8 x).wf=true
def Q61 (x:Qbn):Prop:=Qlf x.Element∧Qlf x.Outlet
def Q2c (x:List Qbn):Prop:=x.length≤maxLen∧(∀y∈x,Q61 y)∧x.length*16≤140737488351232
def Q4f (x:List Int):Prop:=x.length≤maxLen∧(∀y∈x,Qlf y)∧x.length*8≤140737488351232
def Qwg (x:Qaf):Prop:=Zrs x.Kind∧Q2c x.From∧Qlf x.Level∧Qlf x.Amount∧Qlf x.Wide∧Qlf x.Narrow∧Q4f x.Weights
def Qt1 (x:List Qaf):Prop:=x.length≤maxLen∧(∀y∈x,Qwg y)∧x.length*88≤140737488351232
def Zd1 (x:GNet):Prop:=Q60 x.Table∧Qt1 x.Elements
theorem opn3:Opn prog 3 1 Qac Qlf:=Zc3 underlying3 (by kernel_rfl)
theorem Zrl:Opn prog 149 5 Qap Zd0:=⟨by kernel_rfl,fun _=>rfl,fun _ _ _ _ _ _ _ _ _ h hw=>by
  obtain⟨xs,n,_,rfl,hl,hx,hf⟩:=DataW.trod_struct underlying149 h
  have hz:=Ql7 underlying149 hw
  obtain⟨v0,g0,r0⟩:=Qeg hf hx hz 0 _ rfl opn3
  obtain⟨v1,g1,r1⟩:=Qeg hf hx hz 1 _ rfl opn3
  obtain⟨v2,g2,r2⟩:=Qeg hf hx hz 2 _ rfl opn3
  obtain⟨v3,g3,r3⟩:=Qeg hf hx hz 3 _ rfl opn3
  obtain⟨v4,g4,r4⟩:=Qeg hf hx hz 4 _ rfl opn3
  exact⟨⟨v0,v1,v2,v3,v4⟩,⟨g0,g1,g2,g3,g4⟩,Qvn (Qhz (Qhz (Qhz (Qhz (Qo4 r0) r1 rfl) r2 rfl) r3 rfl) r4 rfl) (hl.trans (by kernel_rfl))⟩⟩
theorem Ztv:Opn prog 23 1 Q0e Q60:=Qno underlying23 (by kernel_rfl) Zrl (by decide) (by kernel_rfl)
theorem opn5:Opn prog 5 1 c_u8 Zrs:=Zc3 underlying5 (by kernel_rfl)
theorem Zto:Opn prog 61 2 Qaw Q61:=⟨by kernel_rfl,fun _=>rfl,fun _ _ _ _ _ _ _ _ _ h hw=>by
  obtain⟨xs,n,_,rfl,hl,hx,hf⟩:=DataW.trod_struct underlying61 h
  have hz:=Ql7 underlying61 hw
  obtain⟨v0,g0,r0⟩:=Qeg hf hx hz 0 _ rfl opn3
  obtain⟨v1,g1,r1⟩:=Qeg hf hx hz 1 _ rfl opn3
  exact⟨⟨v0,v1⟩,⟨g0,g1⟩,Qvn (Qhz (Qo4 r0) r1 rfl) (hl.trans (by kernel_rfl))⟩⟩
theorem Ztq:Opn prog 57 1 Qse Q2c:=Qno underlying57 (by kernel_rfl) Zto (by decide) (by kernel_rfl)
theorem Zrk:Opn prog 27 1 Qx8 Q4f:=Qno underlying27 (by kernel_rfl) opn3 (by decide) (by kernel_rfl)
theorem Ztp:Opn prog 59 7 Qae Qwg:=⟨by kernel_rfl,fun _=>rfl,fun _ _ _ _ _ _ _ _ _ h hw=>by
  obtain⟨xs,n,_,rfl,hl,hx,hf⟩:=DataW.trod_struct underlying59 h
  have hz:=Ql7 underlying59 hw
  obtain⟨v0,g0,r0⟩:=Qeg hf hx hz 0 _ rfl opn5
  obtain⟨v1,g1,r1⟩:=Qeg hf hx hz 1 _ rfl Ztq
  obtain⟨v2,g2,r2⟩:=Qeg hf hx hz 2 _ rfl opn3
  obtain⟨v3,g3,r3⟩:=Qeg hf hx hz 3 _ rfl opn3
  obtain⟨v4,g4,r4⟩:=Qeg hf hx hz 4 _ rfl opn3
  obtain⟨v5,g5,r5⟩:=Qeg hf hx hz 5 _ rfl opn3
  obtain⟨v6,g6,r6⟩:=Qeg hf hx hz 6 _ rfl Zrk
  exact⟨⟨v0,v1,v2,v3,v4,v5,v6⟩,⟨g0,g1,g2,g3,g4,g5,g6⟩,Qvn (Qhz (Qhz (Qhz (Qhz (Qhz (Qhz (Qo4 r0) r1 rfl) r2 rfl) r3 rfl) r4 rfl) r5 rfl) r6 rfl) (hl.trans (by kernel_rfl))⟩⟩
theorem Ztu:Opn prog 24 1 Qob Qt1:=Qno underlying24 (by kernel_rfl) Ztp (by decide) (by kernel_rfl)
theorem Ztt:Opn prog 26 2 Qgw Zd1:=⟨by kernel_rfl,fun _=>rfl,fun _ _ _ _ _ _ _ _ _ h hw=>by
  obtain⟨xs,n,_,rfl,hl,hx,hf⟩:=DataW.trod_struct underlying26 h
  have hz:=Ql7 underlying26 hw
  obtain⟨v0,g0,r0⟩:=Qeg hf hx hz 0 _ rfl Ztv
  obtain⟨v1,g1,r1⟩:=Qeg hf hx hz 1 _ rfl Ztu
  exact⟨⟨v0,v1⟩,⟨g0,g1⟩,Qvn (Qhz (Qo4 r0) r1 rfl) (hl.trans (by kernel_rfl))⟩⟩
def Qx4 (x:Qaa):Prop:=Qlf x.Mass∧Qlf x.Heat∧Qlf x.Silica∧Qlf x.Gas
def Qwf (x:List Qaa):Prop:=x.length≤maxLen∧(∀y∈x,Qx4 y)∧x.length*32≤140737488351232
theorem Ztn:Opn prog 89 4 Qad Qx4:=⟨by kernel_rfl,fun _=>rfl,fun _ _ _ _ _ _ _ _ _ h hw=>by
  obtain⟨xs,n,_,rfl,hl,hx,hf⟩:=DataW.trod_struct underlying89 h
  have hz:=Ql7 underlying89 hw
  obtain⟨v0,g0,r0⟩:=Qeg hf hx hz 0 _ rfl opn3
  obtain⟨v1,g1,r1⟩:=Qeg hf hx hz 1 _ rfl opn3
  obtain⟨v2,g2,r2⟩:=Qeg hf hx hz 2 _ rfl opn3
  obtain⟨v3,g3,r3⟩:=Qeg hf hx hz 3 _ rfl opn3
  exact⟨⟨v0,v1,v2,v3⟩,⟨g0,g1,g2,g3⟩,Qvn (Qhz (Qhz (Qhz (Qo4 r0) r1 rfl) r2 rfl) r3 rfl) (hl.trans (by kernel_rfl))⟩⟩
theorem Zts:Opn prog 28 1 Qag Qwf:=Qno underlying28 (by kernel_rfl) Ztn (by decide) (by kernel_rfl)
def Qt0 (x:List (List Qaa)):Prop:=x.length≤maxLen∧(∀y∈x,Qwf y)∧x.length*24≤140737488351232
theorem Ztr:Opn prog 49 1 Qoa Qt0:=Qno underlying49 (by kernel_rfl) Zts (by decide) (by kernel_rfl)
end
section
def Qc8 (_N:Nat) (p0 p1 p2:Int):Option Bool:=
  bif (decide (p1≤p0)) then
   some (decide (p0≤p2))
  else
   some false
theorem Qde (N:Nat) (p0 p1 p2:Int) (r:Bool) (h:Qc8 N p0 p1 p2=some r):Spec prog 137 [(I p0),(I p1),(I p2)] [] (B r) []:=by
  refine sA func137 0 fun _ _ _ hq hd0=>?_
  unfold Qc8 at h
  refine wxz ?_
  refine bfe h (fun hb1 h=>?_) fun hb1 h=>?_
  ·refine wx tbk [(3,rp [(.tmp 9,(B ((decide (p1≤p0)))))] (B true))] ⟨asb hb1 (amv rfl),tv⟩<|Qai ?_
   obtain rfl:=osi h
   exact fend ⟨[(B ((decide (p0≤p2))))],⟨rot,tv⟩,rfl⟩ nll
  ·exact wx tbk [(3,rp [(.tmp 9,(B ((decide (p1≤p0)))))] (B false))] ⟨asb hb1 (amv rfl),tv⟩<|Qai<|frb h
def Qh4 (N:Nat) (p0:GRow):Option Bool:=
  (Qc8 N p0.T 0 400).bind fun x2=>
  bif x2 then
   (Qc8 N p0.P 1 10000).bind fun x5=>
   bif x5 then
    (Qc8 N p0.Liquid 0 4000).bind fun x8=>
    bif x8 then
     (Qc8 N p0.Silica 0 2000).bind fun x11=>
     bif x11 then
      bif (decide (p0.Liquid<p0.Vapour)) then
       some (decide (p0.Vapour≤4000))
      else
       some false
     else
      some false
    else
     some false
   else
    some false
  else
   some false
def z8_2 (p0:GRow) (x2:Bool):List (Nat×Rec):=[(2,rp [fu 137,((.tmp 4),(I p0.T)),ci 0,ci 400] (B x2))]
def z8_3 p0 x2 (x5:Bool):=hcat (z8_2 p0 x2) [(3,rp [((.tmp 5),(B x2))] (B true)),(6,rp [((.tmp 6),(B true)),fu 137,((.tmp 8),(I p0.P)),ci 1,ci 10000] (B x5))]
def z8_4 p0 x2 x5 (x8:Bool):=hcat (z8_3 p0 x2 x5) [(8,rp [((.tmp 10),(B x5))] (B true)),(11,rp [((.tmp 11),(B true)),fu 137,((.tmp 13),(I p0.Liquid)),ci 0,ci 4000] (B x8))]
def z8_5 p0 x2 x5 x8 (x11:Bool):=hcat (z8_4 p0 x2 x5 x8) [(13,rp [((.tmp 15),(B x8))] (B true)),(16,rp [((.tmp 16),(B true)),fu 137,((.tmp 18),(I p0.Silica)),ci 0,ci 2000] (B x11))]
theorem Qqo (N:Nat) (p0:GRow) (r:Bool) (h:Qh4 N p0=some r):Spec prog 139 [(.agg (Qap p0))] [] (B r) []:=by
  refine sA func139 0 fun _ _ _ hq hd0=>?_
  unfold Qh4 at h
  refine wxz ?_
  obtain⟨x2,hf1,h⟩:=bno h
  refine hpre (A:=(z8_2 p0 x2)) ⟨apv Qj9 (Qde N p0.T 0 400 _ hf1) (nlcc (nlc nll nl0)) nll,tv⟩ fun q1_=>?_
  refine bfe h (fun hb3 h=>?_) fun hb3 h=>?_
  ·obtain⟨x5,hf4,h⟩:=bno h
   refine hpre (A:=(z8_3 p0 x2 x5)) (hap q1_ ⟨asb hb3 (amv rfl),ag_ (apv Qj9 (Qde N p0.P 1 10000 _ hf4) (nlcc (nlc nll nl0)) nll),tv⟩) fun q2_=>?_
   refine bfe h (fun hb6 h=>?_) fun hb6 h=>?_
   ·obtain⟨x8,hf7,h⟩:=bno h
    refine hpre (A:=(z8_4 p0 x2 x5 x8)) (hap q2_ ⟨asb hb6 (amv rfl),ag_ (apv Qj9 (Qde N p0.Liquid 0 4000 _ hf7) (nlcc (nlc nll nl0)) nll),tv⟩) fun q3_=>?_
    refine bfe h (fun hb9 h=>?_) fun hb9 h=>?_
    ·obtain⟨x11,hf10,h⟩:=bno h
     refine hpre (A:=(z8_5 p0 x2 x5 x8 x11)) (hap q3_ ⟨asb hb9 (amv rfl),ag_ (apv Qj9 (Qde N p0.Silica 0 2000 _ hf10) (nlcc (nlc nll nl0)) nll),tv⟩) fun q4_=>?_
     refine bfe h (fun hb12 h=>?_) fun hb12 h=>?_
     ·refine bfe h (fun hb13 h=>?_) fun hb13 h=>?_
      ·refine wx tbk (hcat (z8_5 p0 x2 x5 x8 x11) [(18,rp [(.tmp 20,B x11)] (B true)),(25,rp [(.tmp 27,(B ((decide (p0.Liquid<p0.Vapour)))))] (B true))]) (hap q4_ ⟨asb hb12 (amv rfl),asb hb13 (amv rfl),tv⟩)<|Qai ?_
       obtain rfl:=osi h
       exact fend ⟨[(B ((decide (p0.Vapour≤4000))))],⟨rot,tv⟩,rfl⟩ nll
      ·exact wx tbk (hcat (z8_5 p0 x2 x5 x8 x11) [(18,rp [(.tmp 20,B x11)] (B true)),(25,rp [(.tmp 27,(B ((decide (p0.Liquid<p0.Vapour)))))] (B false))]) (hap q4_ ⟨asb hb12 (amv rfl),asb hb13 (amv rfl),tv⟩)<|Qai<|frb h
     ·exact wx tbk (hcat (z8_5 p0 x2 x5 x8 x11) [(18,rp [(.tmp 20,B x11)] (B false))]) (hap q4_ ⟨asb hb12 (amv rfl),tv⟩)<|Qai<|frb h
    ·exact wx tbk (hcat (z8_4 p0 x2 x5 x8) [(13,rp [(.tmp 15,B x8)] (B false))]) (hap q3_ ⟨asb hb9 (amv rfl),tv⟩)<|Qai<|frb h
   ·exact wx tbk (hcat (z8_3 p0 x2 x5) [(8,rp [(.tmp 10,B x5)] (B false))]) (hap q2_ ⟨asb hb6 (amv rfl),tv⟩)<|Qai<|frb h
  ·exact wx tbk (hcat (z8_2 p0 x2) [(3,rp [(.tmp 5,B x2)] (B false))]) (hap q1_ ⟨asb hb3 (amv rfl),tv⟩)<|Qai<|frb h
def Qfr (N:Nat) (p0:GRow):Option Bool:=
  (Qh4 N p0).bind fun x3=>
  some (!x3)
abbrev z7_1 (p0:GRow):AV:=.agg [(I p0.T),(I p0.P),(I p0.Liquid),(I p0.Vapour),(I p0.Silica)]
abbrev z7_2:Slot:=.own 1 [[(.fn (.func 139) [] [])]]
theorem Ql8 (N:Nat) (p0:GRow) (r:Bool) (h:Qfr N p0=some r):Spec prog 148 [(z7_1 p0),(.ref 0 1 (0) 0)] [z7_2] (B r) [z7_2]:=by
  refine sF func148 1 fun _ _ _ hq hd0=>?_
  unfold Qfr at h
  refine wxz ?_
  obtain⟨x3,hf2,h⟩:=bno h
  refine wx tbk [(2,rp _ _)] ⟨apw Zia (Qqo N p0 _ hf2),tv⟩ ?_
  refine wmr (mto (n:=8) (l':=[(3,(B ((!x3))))]) (own':=[z7_2]) [(3,(B ((!x3))))] [0] [z7_2] hq (pw pn) (qb (lc (.rn (Qbj rn0 rn0)) ln) qn))<|Qai ?_
  obtain rfl:=osi h
  exact⟨_,Mor.rfl,fio [(B ((!x3)))] ⟨rot,tv⟩⟩
def Qbe (N:Nat) (p0:List GRow) (k2:Unit→Option Int):Nat→Int→Option Int
  |0,_=>none
  |n5+1,y3=>
    bif (decide (y3<(p0.length:Int))) then
     (getI p0 y3).bind fun x7=>
     (Qfr N x7).bind fun x12=>
     bif x12 then
      some y3
     else
      Qbe N p0 k2 n5 (w64 (y3+1))
    else
     k2 ()
def Qcn (N:Nat) (p0:List GRow):Option Int:=
  Qbc (fun _=>
    some (-1)) fun k2:Unit→Option Int=>
  Qbe N p0 k2 N 0
abbrev z6_0:AV:=.fn (.func 148) [] [(.ref 0 1 (0) 0)]
abbrev z6_2:Slot:=.own 1 [[(.fn (.func 139) [] [])]]
def z6_7 (x7:GRow):AV:=.agg [(I x7.T),(I x7.P),(I x7.Liquid),(I x7.Vapour),(I x7.Silica)]
theorem Qh5 (N:Nat) (p0:List GRow) (r:Int) (h:Qcn N p0=some r):Spec prog 156 [(.dat 5 (p0.map Qap)),z6_0] [z6_2] (I r) [z6_2]:=by
  refine sF func156 1 fun _ _ _ hq hd0=>?_
  unfold Qcn at h
  refine wxz ?_
  obtain⟨k2,hk_k2,h⟩:=jko h
  refine wjn (τ:=Unit) (fun t=>k2 t=some r) (fun _=>⟨mk 19 [],[z6_2]⟩) (fun t h=>?_) ?_
  ·subst hk_k2
   refine wxz<|wmr (mto (n:=19) (l':=[(4,(I ((-1))))]) (own':=[z6_2]) [(4,(I ((-1))))] [0] [z6_2] hq (pw pn) (qb (lc (.rn (Qbj rn0 rn0)) ln) qn))<|Qai ?_
   obtain rfl:=osi h
   exact⟨_,Mor.rfl,fio [(I ((-1)))] ⟨rot,tv⟩⟩
  ·skip
   refine wx tbk [(1,rp _ _)] ⟨alq 5 Qap p0 underlying38,tv⟩<|Qao ?_
   refine wmr (mto (n:=19) (l':=[(0,(.dat 5 (p0.map Qap))),(1,z6_0),(7,(I ((p0.length:Int)))),(8,I 0)]) (own':=[z6_2]) [(0,(.dat 5 (p0.map Qap))),(1,z6_0),(7,(I ((p0.length:Int)))),(8,I 0)] [0] [z6_2] hq (pc (rnd Qan) (pc (.rn (Qbj rn0 (rnc (rqr rfl) rn0))) (pw (pw pn)))) (qb (lc (.rn (Qbj rn0 rn0)) ln) qn)) ?_
   refine Qbl (τ:=Int) (fun n t=>Qbe N p0 k2 n t=some r) (fun y3=>⟨mk 19 [(0,(.dat 5 (p0.map Qap))),(1,z6_0),(7,(I ((p0.length:Int)))),(8,I y3)],[z6_2]⟩) (fun t h=>by rw[Qbe] at h;cases h) (fun n5 ih y3 h=>?_) N (0) h
   rw[Qbe] at h
   skip
   refine wxz<|wsq ?_
   refine bfe h (fun hc6 h=>?_) fun hc6 h=>?_
   ·refine wft hc6<|Qam<|thn<|wsq<|Qao<|wxz ?_
    obtain⟨x7,hg8,h⟩:=bno h
    obtain⟨hi9,hj10⟩:=gsm hg8
    obtain⟨x12,hf11,h⟩:=bno h
    refine wx tbk [(3,rp _ _),(5,⟨_,_,_,_,false⟩)] ⟨aiq underlying38 Que Qap hi9 hj10,Qdp (first:=[]) (cap:=[.ref 0 1 0 0]) (vs:=[(z6_7 x7)]) (σr:=[z6_2]) (σr':=[z6_2]) (res':=(B x12)) [0] rfl Zh2 (Ql8 N x7 _ hf11) rfl (Qbr (rnc (.plain _ (NLt.agg _ (nlcc (nlcc (nlc nll nl0))))) (rnc (Qa0 rfl) rn0))) (slc (Qaq (rnc (.plain _ (NLt.fn _ _ _ nl0 nl0)) rn0)) Qas) (slc (Qaq (rnc (.plain _ (NLt.fn _ _ _ nl0 nl0)) rn0)) Qas) (.plain _ nll) rfl rfl rfl,tv⟩ ?_
    refine bfe h (fun hc13 h=>?_) fun hc13 h=>?_
    ·refine wft hc13<|wxz ?_
     refine wmr (mto (n:=19) (l':=[(4,I y3)]) (own':=[z6_2]) [(4,I y3)] [0] [z6_2] hq (pw pn) (qb (lc (.rn (Qbj rn0 rn0)) ln) qn))<|Qai<|Qar<|Qaj<|Qaj<|Qar<|Qaj ?_
     obtain rfl:=osi h
     exact⟨_,Mor.rfl,fio [I y3] ⟨rot,tv⟩⟩
    ·exact wfn hc13<|Qam<|bln<|thn<|wxz1<|thn<|arm (mto (n:=19) [(0,(.dat 5 (p0.map Qap))),(1,z6_0),(7,(I ((p0.length:Int)))),(8,(I (w64 (y3+1))))] [0] [z6_2] hq (pc (rnd Qan) (pc (.rn (Qbj rn0 (rnc (rqr rfl) rn0))) (pw (pw pn)))) (qb (lc (.rn (Qbj rn0 rn0)) ln) qn)) (ih (w64 (y3+1)) h)
   ·exact wfn hc6<|Qa7<|Qau<|Qau<|Qa6 rfl<|thn<|⟨(),h,(mto (n:=19) [] [0] [z6_2] hq pn (qb (lc (.rn (Qbj rn0 rn0)) ln) qn))⟩
def Qcg (N:Nat) (p0:List GRow):Option Bool:=
  (Qcn N p0).bind fun x3=>
  some (decide (x3≥0))
abbrev z5_0:AV:=.fn (.func 148) [] [(.ref 0 1 (0) 0)]
abbrev z5_1:Slot:=.own 1 [[(.fn (.func 139) [] [])]]
theorem Qhm (N:Nat) (p0:List GRow) (r:Bool) (h:Qcg N p0=some r):Spec prog 147 [(.dat 5 (p0.map Qap)),z5_0] [z5_1] (B r) [z5_1]:=by
  refine sF func147 1 fun _ _ _ hq hd0=>?_
  unfold Qcg at h
  refine wxz ?_
  obtain⟨x3,hf2,h⟩:=bno h
  refine wx tbk [(2,⟨_,_,_,_,false⟩)] ⟨acq [(.dat 5 (p0.map Qap)),z5_0] [z5_1] [z5_1] (I x3) [0] Zhv (Qh5 N p0 _ hf2) (Qbr (rnc (pld Qan) (rnc (Qbj rn0 (rnc (Qa0 rfl) rn0)) rn0))) (slc (Qaq (rnc (.plain _ (NLt.fn _ _ _ nl0 nl0)) rn0)) Qas) (slc (Qaq (rnc (.plain _ (NLt.fn _ _ _ nl0 nl0)) rn0)) Qas) (.plain _ nll),tv⟩ ?_
  refine wmr (mto (n:=9) (l':=[(4,(B ((decide (x3≥0)))))]) (own':=[z5_1]) [(4,(B ((decide (x3≥0)))))] [0] [z5_1] hq (pw pn) (qb (lc (.rn (Qbj rn0 rn0)) ln) qn))<|Qai ?_
  obtain rfl:=osi h
  exact⟨_,Mor.rfl,fio [(B ((decide (x3≥0))))] ⟨rot,tv⟩⟩
def Qfa (N:Nat) (p0:List GRow):Option Bool:=
  (Qcg N p0).bind fun x2=>
  some (!x2)
def z4_1:AV:=.fn (.func 148) [] [(.ref 0 1 (0) 0)]
def z4_0:Slot:=.own 1 [[(.fn (.func 139) [] [])]]
theorem Qm6 (N:Nat) (p0:List GRow) (r:Bool) (h:Qfa N p0=some r):Spec prog 138 [(.dat 5 (p0.map Qap)),(.fn (.func 139) [] [])] [] (B r) []:=by
  refine sA func138 0 fun _ _ _ hq hd0=>?_
  unfold Qfa at h
  refine wxz ?_
  obtain⟨x2,hf1,h⟩:=bno h
  refine wx tbk [(1,rp [(.tmp 3,.ref 0 1 0 0)] z4_1),(2,⟨_,_,_,_,false⟩)] ⟨Qfv (fs:=[]) (cs:=[.ref 0 1 0 0]) rfl rfl rfl rfl,acq [(.dat 5 (p0.map Qap)),z4_1] [z4_0] [z4_0] (B x2) [0] Zh3 (Qhm N p0 _ hf1) (Qbr (rnc (pld Qan) (rnc (Qbj rn0 (rnc (Qa0 rfl) rn0)) rn0))) (slc (Qaq (rnc (.plain _ (NLt.fn _ _ _ nl0 nl0)) rn0)) Qas) (slc (Qaq (rnc (.plain _ (NLt.fn _ _ _ nl0 nl0)) rn0)) Qas) (.plain _ nll),tv⟩<|Qai ?_
  obtain rfl:=osi h
  exact fend ⟨[(B ((!x2)))],⟨rot,tv⟩,rfl⟩ nll
def Qcy (N:Nat) (p0:List GRow) (k2:Unit→Option Bool):Nat→Int→Option Bool
  |0,_=>none
  |n6+1,y4=>
    bif (decide (y4<((p0.drop (1:Int).toNat).length:Int))) then
     (getI (p0.drop (1:Int).toNat) y4).bind fun x8=>
     (getI p0 y4).bind fun x12=>
     bif (decide (x8.T≤x12.T)) then
      some false
     else
      bif (decide (x8.P≤x12.P)) then
       some false
      else
       bif (decide (x8.Liquid≤x12.Liquid)) then
        some false
       else
        bif (decide (x8.Silica<x12.Silica)) then
         some false
        else
         Qcy N p0 k2 n6 (w64 (y4+1))
    else
     k2 ()
def Qfs (N:Nat) (p0:List GRow):Option Bool:=
  Qbc (fun _=>
    Qbc (fun _=>
      some true) fun k2:Unit→Option Bool=>
    chk (decide (0≤1)&&decide (1≤(p0.length:Int))&&decide ((p0.length:Int)≤(p0.length:Int)))<|
    Qcy N p0 k2 N 0) fun k1:Unit→Option Bool=>
  (Qc8 N (p0.length:Int) 2 20).bind fun x21=>
  bif (!x21) then
   some false
  else
   (Qfa N p0).bind fun x24=>
   bif (!x24) then
    some false
   else
    k1 ()
def z2_0 (p0:List GRow):AV:=.dat 5 ((p0.drop (1:Int).toNat:List GRow).map Qap)
def Zgd (x8 x12:GRow):List (Nat×Rec):=[(5,rp [((.tmp 31),(B ((decide (x8.T≤x12.T)))))] (B false))]
def Zl2 (p0:List GRow) (x21:Bool):List (Nat×Rec):=[(1,rp [((.tmp 6),(.dat 5 (p0.map Qap)))] (I ((p0.length:Int)))),(2,rp [fu 137,((.tmp 7),(I ((p0.length:Int)))),ci 2,ci 20] (B x21))]
theorem Qkw (N:Nat) (p0:List GRow) (r:Bool) (h:Qfs N p0=some r):Spec prog 122 [(.dat 5 (p0.map Qap))] [] (B r) []:=by
  refine sA func122 0 fun _ _ _ hq hd0=>?_
  unfold Qfs at h
  refine wxz ?_
  obtain⟨k1,hk_k1,h⟩:=jko h
  refine wjn (τ:=Unit) (fun t=>k1 t=some r) (fun _=>⟨mk 54 [(0,(.dat 5 (p0.map Qap)))],[]⟩) (fun t h=>?_) ?_
  ·subst hk_k1
   obtain⟨k2,hk_k2,h⟩:=jko h
   refine wjn (τ:=Unit) (fun t=>k2 t=some r) (fun _=>⟨mk 54 [],[]⟩) (fun t h=>?_) ?_
   ·subst hk_k2
    exact wxz<|Qai<|frb h
   ·skip
    obtain⟨hs3,h⟩:=cko h
    refine wx tbk [(1,rp [(.tmp 15,(.dat 5 (p0.map Qap))),ci 1] (z2_0 p0)),(2,rp _ _)] ⟨Qm1 (k:=.i64) (k':=.i64) (lo:=some (.const (.int .i64 1))) (hi:=none) (l:=1) (hh:=((p0.length:Nat):Int)) rfl underlying39 Que rfl (fun e=>nomatch e) (fun _=>by simp) (Qw6 hs3) (Qw5 hs3) (Zjl Qap hs3) (Zrc Qap),alq 5 Qap (p0.drop (1:Int).toNat) underlying39,tv⟩<|Qao ?_
    refine wmr (mto (n:=54) (l':=[(0,(.dat 5 (p0.map Qap))),(16,(z2_0 p0)),(17,(I (((p0.drop (1:Int).toNat).length:Int)))),(18,I 0)]) (own':=[]) [(0,(.dat 5 (p0.map Qap))),(16,(z2_0 p0)),(17,(I (((p0.drop (1:Int).toNat).length:Int)))),(18,I 0)] [] [] hq (pc (rnd Qan) (pc (rnd Qan) (pw (pw pn)))) qn) ?_
    refine Qbl (τ:=Int) (fun n t=>Qcy N p0 k2 n t=some r) (fun y4=>⟨mk 54 [(0,(.dat 5 (p0.map Qap))),(16,(z2_0 p0)),(17,(I (((p0.drop (1:Int).toNat).length:Int)))),(18,I y4)],[]⟩) (fun t h=>by rw[Qcy] at h;cases h) (fun n6 ih y4 h=>?_) N (0) h
    rw[Qcy] at h
    skip
    refine wxz<|wsq ?_
    refine bfe h (fun hc7 h=>?_) fun hc7 h=>?_
    ·refine wft hc7<|Qam<|thn<|wsq<|Qao ?_
     obtain⟨x8,hg9,h⟩:=bno h
     obtain⟨hi10,hj11⟩:=gsm hg9
     refine wx tbk [(1,rp _ _)] ⟨aiq underlying39 Que Qap hi10 hj11,tv⟩ ?_
     obtain⟨x12,hg13,h⟩:=bno h
     obtain⟨hi14,hj15⟩:=gsm hg13
     refine wx tbk [(2,rp _ _)] ⟨aiq underlying39 Que Qap hi14 hj15,tv⟩ ?_
     refine bfe h (fun hb16 h=>?_) fun hb16 h=>?_
     ·exact wx tbk [(5,rp [(.tmp 31,(B ((decide (x8.T≤x12.T)))))] (B true))] ⟨asb hb16 (amv rfl),tv⟩<|wtr<|wxz<|Qai<|Qar<|Qaj<|Qaj<|Qar<|Qaj<|frb h
     ·refine hpre (A:=(Zgd x8 x12)) ⟨asb hb16 (amv rfl),tv⟩ fun q1_=>?_
      refine bfe h (fun hb17 h=>?_) fun hb17 h=>?_
      ·exact wx tbk (hcat (Zgd x8 x12) [(12,rp [(.tmp 38,(B ((decide (x8.P≤x12.P)))))] (B true))]) (hap q1_ ⟨asb hb17 (amv rfl),tv⟩)<|wtr<|wxz<|Qai<|Qar<|Qaj<|Qaj<|Qar<|Qaj<|frb h
      ·refine bfe h (fun hb18 h=>?_) fun hb18 h=>?_
       ·exact wx tbk (hcat (Zgd x8 x12) [(12,rp [(.tmp 38,(B ((decide (x8.P≤x12.P)))))] (B false)),(19,rp [(.tmp 45,(B ((decide (x8.Liquid≤x12.Liquid)))))] (B true))]) (hap q1_ ⟨asb hb17 (amv rfl),asb hb18 (amv rfl),tv⟩)<|wtr<|wxz<|Qai<|Qar<|Qaj<|Qaj<|Qar<|Qaj<|frb h
       ·refine wx tbk (hcat (Zgd x8 x12) [(12,rp [(.tmp 38,(B ((decide (x8.P≤x12.P)))))] (B false)),(19,rp [(.tmp 45,(B ((decide (x8.Liquid≤x12.Liquid)))))] (B false))]) (hap q1_ ⟨asb hb17 (amv rfl),asb hb18 (amv rfl),tv⟩) ?_
        refine bfe h (fun hc19 h=>?_) fun hc19 h=>?_
        ·exact wft hc19<|wxz<|Qai<|Qar<|Qaj<|Qaj<|Qar<|Qaj<|frb h
        ·exact wfn hc19<|Qam<|bln<|thn<|wxz1<|thn<|arm (mto (n:=54) [(0,(.dat 5 (p0.map Qap))),(16,(z2_0 p0)),(17,(I (((p0.drop (1:Int).toNat).length:Int)))),(18,(I (w64 (y4+1))))] [] [] hq (pc (rnd Qan) (pc (rnd Qan) (pw (pw pn)))) qn) (ih (w64 (y4+1)) h)
    ·exact wfn hc7<|Qa7<|Qau<|Qau<|Qa6 rfl<|thn<|⟨(),h,(mto (n:=54) [] [] [] hq pn qn)⟩
  ·skip
   obtain⟨x21,hf20,h⟩:=bno h
   refine hpre (A:=(Zl2 p0 x21)) ⟨alq 5 Qap p0 underlying39,apv Qj9 (Qde N (p0.length:Int) 2 20 _ hf20) (nlcc (nlc nll nl0)) nll,tv⟩ fun q2_=>?_
   refine bfe h (fun hb22 h=>?_) fun hb22 h=>?_
   ·exact wx tbk (hcat (Zl2 p0 x21) [(4,rp [(.tmp 9,(B ((!x21))))] (B true))]) (hap q2_ ⟨asb hb22 (amv rfl),tv⟩)<|wtr<|wxz<|Qai<|Qaj<|frb h
   ·obtain⟨x24,hf23,h⟩:=bno h
    refine wx tbk (hcat (Zl2 p0 x21) [(4,rp [(.tmp 9,(B ((!x21))))] (B false)),(6,rp [(.tmp 10,B false),fu 138,(.tmp 11,(.dat 5 (p0.map Qap))),fu 139] (B x24))]) (hap q2_ ⟨asb hb22 (amv rfl),ag_ (acq [(.dat 5 (p0.map Qap)),(.fn (.func 139) [] [])] [] [] (B x24) [] Zib (Qm6 N p0 _ hf23) (Qbr (rnc (pld Qan) (rnc (.plain _ (NLt.fn _ _ _ nl0 nl0)) rn0))) Qas Qas (.plain _ nll)),tv⟩) ?_
    refine bfe h (fun hc25 h=>?_) fun hc25 h=>?_
    ·exact wft hc25<|wxz<|Qai<|Qaj<|frb h
    ·exact wfn hc25<|Qam<|thn<|⟨(),h,(mto (n:=54) [(0,(.dat 5 (p0.map Qap)))] [] [] hq (pc (rnd Qan) pn) qn)⟩
def Qin (N:Nat) (p0:List GRow):Option Int:=
  (Qfs N p0).bind fun x2=>
  bif (!x2) then
   some 1
  else
   some 0
theorem Qp0 (N:Nat) (p0:List GRow) (r:Int) (h:Qin N p0=some r):Spec prog 100 [(.dat 5 (p0.map Qap))] [] (I r) []:=by
  refine sA func100 0 fun _ _ _ hq hd0=>?_
  unfold Qin at h
  refine wxz<|wsq ?_
  obtain⟨x2,hf1,h⟩:=bno h
  refine wx tbk [(1,rp _ _)] ⟨apw Q7b (Qkw N p0 _ hf1),tv⟩ ?_
  refine bfe h (fun hc3 h=>?_) fun hc3 h=>?_
  ·refine wft hc3<|wxz<|Qai<|Qaj ?_
   obtain rfl:=osi h
   exact fend ⟨[I 1],⟨rot,tv⟩,rfl⟩ nll
  ·refine wfn hc3<|Qam<|thn<|wxz<|Qai ?_
   obtain rfl:=osi h
   exact fend ⟨[I 0],⟨rot,tv⟩,rfl⟩ nll
def Qcp (_N:Nat) (p0 p1 p2:Int):Option Bool:=
  bif (decide (p1≤p0)) then
   some (decide (p0≤p2))
  else
   some false
theorem Qdl (N:Nat) (p0 p1 p2:Int) (r:Bool) (h:Qcp N p0 p1 p2=some r):Spec prog 65 [(I p0),(I p1),(I p2)] [] (B r) []:=by
  refine sA func65 0 fun _ _ _ hq hd0=>?_
  unfold Qcp at h
  refine wxz ?_
  refine bfe h (fun hb1 h=>?_) fun hb1 h=>?_
  ·refine wx tbk [(3,rp [(.tmp 9,(B ((decide (p1≤p0)))))] (B true))] ⟨asb hb1 (amv rfl),tv⟩<|Qai ?_
   obtain rfl:=osi h
   exact fend ⟨[(B ((decide (p0≤p2))))],⟨rot,tv⟩,rfl⟩ nll
  ·exact wx tbk [(3,rp [(.tmp 9,(B ((decide (p1≤p0)))))] (B false))] ⟨asb hb1 (amv rfl),tv⟩<|Qai<|frb h
def Qhb (N:Nat) (p0:Int):Option Bool:=
  (Qcp N p0 0 1000).bind fun x2=>
  some x2
theorem Qnm (N:Nat) (p0:Int) (r:Bool) (h:Qhb N p0=some r):Spec prog 125 [(I p0)] [] (B r) []:=by
  refine sA func125 0 fun _ _ _ hq hd0=>?_
  unfold Qhb at h
  refine wxz ?_
  obtain⟨x2,hf1,h⟩:=bno h
  exact wx tbk [(1,rp _ _)] ⟨apw Qmi (Qdl N p0 0 1000 _ hf1),tv⟩<|Qai<|frb h
def Qhr (N:Nat) (p0:Int):Option Bool:=
  (Qhb N p0).bind fun x3=>
  some (!x3)
abbrev Zgg:Slot:=.own 1 [[(.fn (.func 125) [] [])]]
theorem Qp7 (N:Nat) (p0:Int) (r:Bool) (h:Qhr N p0=some r):Spec prog 128 [(I p0),(.ref 0 1 (0) 0)] [Zgg] (B r) [Zgg]:=by
  refine sF func128 1 fun _ _ _ hq hd0=>?_
  unfold Qhr at h
  refine wxz ?_
  obtain⟨x3,hf2,h⟩:=bno h
  refine wx tbk [(2,rp _ _)] ⟨apw Zii (Qnm N p0 _ hf2),tv⟩ ?_
  refine wmr (mto (n:=8) (l':=[(3,(B ((!x3))))]) (own':=[Zgg]) [(3,(B ((!x3))))] [0] [Zgg] hq (pw pn) (qb (lc (.rn (Qbj rn0 rn0)) ln) qn))<|Qai ?_
  obtain rfl:=osi h
  exact⟨_,Mor.rfl,fio [(B ((!x3)))] ⟨rot,tv⟩⟩
def Qb8 (N:Nat) (p0:List Int) (k2:Unit→Option Int):Nat→Int→Option Int
  |0,_=>none
  |n5+1,y3=>
    bif (decide (y3<(p0.length:Int))) then
     (getI p0 y3).bind fun x7=>
     (Qhr N x7).bind fun x12=>
     bif x12 then
      some y3
     else
      Qb8 N p0 k2 n5 (w64 (y3+1))
    else
     k2 ()
def Qes (N:Nat) (p0:List Int):Option Int:=
  Qbc (fun _=>
    some (-1)) fun k2:Unit→Option Int=>
  Qb8 N p0 k2 N 0
abbrev Za8:AV:=.fn (.func 128) [] [(.ref 0 1 (0) 0)]
abbrev Qre:Slot:=.own 1 [[(.fn (.func 125) [] [])]]
theorem Qk4 (N:Nat) (p0:List Int) (r:Int) (h:Qes N p0=some r):Spec prog 141 [(.dat 1 (p0.map Qac)),Za8] [Qre] (I r) [Qre]:=by
  refine sF func141 1 fun _ _ _ hq hd0=>?_
  unfold Qes at h
  refine wxz ?_
  obtain⟨k2,hk_k2,h⟩:=jko h
  refine wjn (τ:=Unit) (fun t=>k2 t=some r) (fun _=>⟨mk 19 [],[Qre]⟩) (fun t h=>?_) ?_
  ·subst hk_k2
   refine wxz<|wmr (mto (n:=19) (l':=[(4,(I ((-1))))]) (own':=[Qre]) [(4,(I ((-1))))] [0] [Qre] hq (pw pn) (qb (lc (.rn (Qbj rn0 rn0)) ln) qn))<|Qai ?_
   obtain rfl:=osi h
   exact⟨_,Mor.rfl,fio [(I ((-1)))] ⟨rot,tv⟩⟩
  ·skip
   refine wx tbk [(1,rp _ _)] ⟨alq 1 Qac p0 underlying27,tv⟩<|Qao ?_
   refine wmr (mto (n:=19) (l':=[(0,(.dat 1 (p0.map Qac))),(1,Za8),(7,(I ((p0.length:Int)))),(8,I 0)]) (own':=[Qre]) [(0,(.dat 1 (p0.map Qac))),(1,Za8),(7,(I ((p0.length:Int)))),(8,I 0)] [0] [Qre] hq (pc (rnd Qah) (pc (.rn (Qbj rn0 (rnc (rqr rfl) rn0))) (pw (pw pn)))) (qb (lc (.rn (Qbj rn0 rn0)) ln) qn)) ?_
   refine Qbl (τ:=Int) (fun n t=>Qb8 N p0 k2 n t=some r) (fun y3=>⟨mk 19 [(0,(.dat 1 (p0.map Qac))),(1,Za8),(7,(I ((p0.length:Int)))),(8,I y3)],[Qre]⟩) (fun t h=>by rw[Qb8] at h;cases h) (fun n5 ih y3 h=>?_) N (0) h
   rw[Qb8] at h
   skip
   refine wxz<|wsq ?_
   refine bfe h (fun hc6 h=>?_) fun hc6 h=>?_
   ·refine wft hc6<|Qam<|thn<|wsq<|Qao<|wxz ?_
    obtain⟨x7,hg8,h⟩:=bno h
    obtain⟨hi9,hj10⟩:=gsm hg8
    obtain⟨x12,hf11,h⟩:=bno h
    refine wx tbk [(3,rp _ _),(5,⟨_,_,_,_,false⟩)] ⟨aiq underlying27 ti3 Qac hi9 hj10,Qdp (first:=[]) (cap:=[.ref 0 1 0 0]) (vs:=[I x7]) (σr:=[Qre]) (σr':=[Qre]) (res':=(B x12)) [0] rfl Q7a (Qp7 N x7 _ hf11) rfl (Qbr (rnc (.plain _ nll) (rnc (Qa0 rfl) rn0))) (slc (Qaq (rnc (.plain _ (NLt.fn _ _ _ nl0 nl0)) rn0)) Qas) (slc (Qaq (rnc (.plain _ (NLt.fn _ _ _ nl0 nl0)) rn0)) Qas) (.plain _ nll) rfl rfl rfl,tv⟩ ?_
    refine bfe h (fun hc13 h=>?_) fun hc13 h=>?_
    ·refine wft hc13<|wxz ?_
     refine wmr (mto (n:=19) (l':=[(4,I y3)]) (own':=[Qre]) [(4,I y3)] [0] [Qre] hq (pw pn) (qb (lc (.rn (Qbj rn0 rn0)) ln) qn))<|Qai<|Qar<|Qaj<|Qaj<|Qar<|Qaj ?_
     obtain rfl:=osi h
     exact⟨_,Mor.rfl,fio [I y3] ⟨rot,tv⟩⟩
    ·exact wfn hc13<|Qam<|bln<|thn<|wxz1<|thn<|arm (mto (n:=19) [(0,(.dat 1 (p0.map Qac))),(1,Za8),(7,(I ((p0.length:Int)))),(8,(I (w64 (y3+1))))] [0] [Qre] hq (pc (rnd Qah) (pc (.rn (Qbj rn0 (rnc (rqr rfl) rn0))) (pw (pw pn)))) (qb (lc (.rn (Qbj rn0 rn0)) ln) qn)) (ih (w64 (y3+1)) h)
   ·exact wfn hc6<|Qa7<|Qau<|Qau<|Qa6 rfl<|thn<|⟨(),h,(mto (n:=19) [] [0] [Qre] hq pn (qb (lc (.rn (Qbj rn0 rn0)) ln) qn))⟩
def Qc4 (N:Nat) (p0:List Int):Option Bool:=
  (Qes N p0).bind fun x3=>
  some (decide (x3≥0))
abbrev Zqf:AV:=.fn (.func 128) [] [(.ref 0 1 (0) 0)]
abbrev Q73:Slot:=.own 1 [[(.fn (.func 125) [] [])]]
theorem Qjv (N:Nat) (p0:List Int) (r:Bool) (h:Qc4 N p0=some r):Spec prog 126 [(.dat 1 (p0.map Qac)),Zqf] [Q73] (B r) [Q73]:=by
  refine sF func126 1 fun _ _ _ hq hd0=>?_
  unfold Qc4 at h
  refine wxz ?_
  obtain⟨x3,hf2,h⟩:=bno h
  refine wx tbk [(2,⟨_,_,_,_,false⟩)] ⟨acq [(.dat 1 (p0.map Qac)),Zqf] [Q73] [Q73] (I x3) [0] Qr8 (Qk4 N p0 _ hf2) (Qbr (rnc (pld Qah) (rnc (Qbj rn0 (rnc (Qa0 rfl) rn0)) rn0))) (slc (Qaq (rnc (.plain _ (NLt.fn _ _ _ nl0 nl0)) rn0)) Qas) (slc (Qaq (rnc (.plain _ (NLt.fn _ _ _ nl0 nl0)) rn0)) Qas) (.plain _ nll),tv⟩ ?_
  refine wmr (mto (n:=9) (l':=[(4,(B ((decide (x3≥0)))))]) (own':=[Q73]) [(4,(B ((decide (x3≥0)))))] [0] [Q73] hq (pw pn) (qb (lc (.rn (Qbj rn0 rn0)) ln) qn))<|Qai ?_
  obtain rfl:=osi h
  exact⟨_,Mor.rfl,fio [(B ((decide (x3≥0))))] ⟨rot,tv⟩⟩
def Qhs (N:Nat) (p0:List Int):Option Bool:=
  (Qc4 N p0).bind fun x2=>
  some (!x2)
def Zqi:AV:=.fn (.func 128) [] [(.ref 0 1 (0) 0)]
def Zqj:Slot:=.own 1 [[(.fn (.func 125) [] [])]]
theorem Qrx (N:Nat) (p0:List Int) (r:Bool) (h:Qhs N p0=some r):Spec prog 108 [(.dat 1 (p0.map Qac)),(.fn (.func 125) [] [])] [] (B r) []:=by
  refine sA func108 0 fun _ _ _ hq hd0=>?_
  unfold Qhs at h
  refine wxz ?_
  obtain⟨x2,hf1,h⟩:=bno h
  refine wx tbk [(1,rp [(.tmp 3,.ref 0 1 0 0)] Zqi),(2,⟨_,_,_,_,false⟩)] ⟨Qfv (fs:=[]) (cs:=[.ref 0 1 0 0]) rfl rfl rfl rfl,acq [(.dat 1 (p0.map Qac)),Zqi] [Zqj] [Zqj] (B x2) [0] Qr9 (Qjv N p0 _ hf1) (Qbr (rnc (pld Qah) (rnc (Qbj rn0 (rnc (Qa0 rfl) rn0)) rn0))) (slc (Qaq (rnc (.plain _ (NLt.fn _ _ _ nl0 nl0)) rn0)) Qas) (slc (Qaq (rnc (.plain _ (NLt.fn _ _ _ nl0 nl0)) rn0)) Qas) (.plain _ nll),tv⟩<|Qai ?_
  obtain rfl:=osi h
  exact fend ⟨[(B ((!x2)))],⟨rot,tv⟩,rfl⟩ nll
def Qha (_N:Nat) (p0:Int):Option Bool:=
  some (decide (p0>0))
theorem Qnl (N:Nat) (p0:Int) (r:Bool) (h:Qha N p0=some r):Spec prog 127 [(I p0)] [] (B r) []:=by
  refine sA func127 0 fun _ _ _ hq hd0=>?_
  unfold Qha at h
  refine wxz<|wxz<|Qai ?_
  obtain rfl:=osi h
  exact fend ⟨[(B ((decide (p0>0))))],⟨rot,tv⟩,rfl⟩ nll
def Qb7 (N:Nat) (p0:List Int) (k1:Unit→Option Int):Nat→Int→Option Int
  |0,_=>none
  |n4+1,y2=>
    bif (decide (y2<(p0.length:Int))) then
     (getI p0 y2).bind fun x6=>
     (Qha N x6).bind fun x11=>
     bif x11 then
      some y2
     else
      Qb7 N p0 k1 n4 (w64 (y2+1))
    else
     k1 ()
def Qer (N:Nat) (p0:List Int):Option Int:=
  Qbc (fun _=>
    some (-1)) fun k1:Unit→Option Int=>
  Qb7 N p0 k1 N 0
theorem Qk3 (N:Nat) (p0:List Int) (r:Int) (h:Qer N p0=some r):Spec prog 141 [(.dat 1 (p0.map Qac)),(.fn (.func 127) [] [])] [] (I r) []:=by
  refine sA func141 0 fun _ _ _ hq hd0=>?_
  unfold Qer at h
  refine wxz ?_
  obtain⟨k1,hk_k1,h⟩:=jko h
  refine wjn (τ:=Unit) (fun t=>k1 t=some r) (fun _=>⟨mk 19 [],[]⟩) (fun t h=>?_) ?_
  ·subst hk_k1
   refine wxz<|Qai ?_
   obtain rfl:=osi h
   exact fend ⟨[(I ((-1)))],⟨rot,tv⟩,rfl⟩ nll
  ·skip
   refine wx tbk [(1,rp _ _)] ⟨alq 1 Qac p0 underlying27,tv⟩<|Qao ?_
   refine wmr (mto (n:=19) (l':=[(0,(.dat 1 (p0.map Qac))),(1,(.fn (.func 127) [] [])),(7,(I ((p0.length:Int)))),(8,I 0)]) (own':=[]) [(0,(.dat 1 (p0.map Qac))),(1,(.fn (.func 127) [] [])),(7,(I ((p0.length:Int)))),(8,I 0)] [] [] hq (pc (rnd Qah) (pc (.rn (Qbj rn0 rn0)) (pw (pw pn)))) qn) ?_
   refine Qbl (τ:=Int) (fun n t=>Qb7 N p0 k1 n t=some r) (fun y2=>⟨mk 19 [(0,(.dat 1 (p0.map Qac))),(1,(.fn (.func 127) [] [])),(7,(I ((p0.length:Int)))),(8,I y2)],[]⟩) (fun t h=>by rw[Qb7] at h;cases h) (fun n4 ih y2 h=>?_) N (0) h
   rw[Qb7] at h
   skip
   refine wxz<|wsq ?_
   refine bfe h (fun hc5 h=>?_) fun hc5 h=>?_
   ·refine wft hc5<|Qam<|thn<|wsq<|Qao<|wxz ?_
    obtain⟨x6,hg7,h⟩:=bno h
    obtain⟨hi8,hj9⟩:=gsm hg7
    obtain⟨x11,hf10,h⟩:=bno h
    refine wx tbk [(3,rp _ _),(5,rp _ _)] ⟨aiq underlying27 ti3 Qac hi8 hj9,apw Zih (Qnl N x6 _ hf10),tv⟩ ?_
    refine bfe h (fun hc12 h=>?_) fun hc12 h=>?_
    ·refine wft hc12<|wxz<|Qai<|Qar<|Qaj<|Qaj<|Qar<|Qaj ?_
     obtain rfl:=osi h
     exact fend ⟨[I y2],⟨rot,tv⟩,rfl⟩ nll
    ·exact wfn hc12<|Qam<|bln<|thn<|wxz1<|thn<|arm (mto (n:=19) [(0,(.dat 1 (p0.map Qac))),(1,(.fn (.func 127) [] [])),(7,(I ((p0.length:Int)))),(8,(I (w64 (y2+1))))] [] [] hq (pc (rnd Qah) (pc (.rn (Qbj rn0 rn0)) (pw (pw pn)))) qn) (ih (w64 (y2+1)) h)
   ·exact wfn hc5<|Qa7<|Qau<|Qau<|Qa6 rfl<|thn<|⟨(),h,(mto (n:=19) [] [] [] hq pn qn)⟩
def Qcl (N:Nat) (p0:List Int):Option Bool:=
  (Qer N p0).bind fun x2=>
  some (decide (x2≥0))
theorem Qju (N:Nat) (p0:List Int) (r:Bool) (h:Qcl N p0=some r):Spec prog 126 [(.dat 1 (p0.map Qac)),(.fn (.func 127) [] [])] [] (B r) []:=by
  refine sA func126 0 fun _ _ _ hq hd0=>?_
  unfold Qcl at h
  refine wxz ?_
  obtain⟨x2,hf1,h⟩:=bno h
  refine wx tbk [(2,rp _ _)] ⟨acq [(.dat 1 (p0.map Qac)),(.fn (.func 127) [] [])] [] [] (I x2) [] Qr8 (Qk3 N p0 _ hf1) (Qbr (rnc (pld Qah) (rnc (.plain _ (NLt.fn _ _ _ nl0 nl0)) rn0))) Qas Qas (.plain _ nll),tv⟩<|Qai ?_
  obtain rfl:=osi h
  exact fend ⟨[(B ((decide (x2≥0))))],⟨rot,tv⟩,rfl⟩ nll
def Qgs (N:Nat) (p0:Qaf):Option Bool:=
  Qbc (fun ⟨y1,y2⟩=>
    Qbc (fun _=>
      bif (p0.Kind != 5) then
       some ((p0.Weights.length:Int)==0)
      else
       (Qcp N (p0.Weights.length:Int) 1 20).bind fun x7=>
       bif x7 then
        (Qhs N p0.Weights).bind fun x10=>
        bif x10 then
         (Qcl N p0.Weights).bind fun x13=>
         some x13
        else
         some false
       else
        some false) fun k4:Unit→Option Bool=>
    bif ((p0.From.length:Int) != y1) then
     some false
    else
     (Qcp N p0.Amount 0 y2).bind fun x16=>
     bif (!x16) then
      some false
     else
      (Qcp N p0.Wide 0 1000000).bind fun x19=>
      bif (!x19) then
       some false
      else
       (Qcp N p0.Narrow 1 1000000000).bind fun x22=>
       bif (!x22) then
        some false
       else
        k4 ()) fun k3:Int×Int→Option Bool=>
  bif (p0.Kind==1) then
   k3 (0,0)
  else
   bif (p0.Kind==2) then
    (some (if 6<(p0.From.length:Int) then 6 else(p0.From.length:Int))).bind fun x26=>
    (some (if x26>1 then x26 else 1)).bind fun x28=>
    k3 (x28,0)
   else
    bif (p0.Kind==3) then
     k3 (1,1000000000)
    else
     bif (p0.Kind==4) then
      k3 (1,1000)
     else
      bif (p0.Kind==5) then
       k3 (1,0)
      else
       bif (p0.Kind==6) then
        k3 (1,0)
       else
        some false
def Zql (p0:Qaf):AV:=.dat 2 (p0.From.map Qaw)
def Q74 (p0:Qaf):AV:=.dat 1 (p0.Weights.map Qac)
def Qy2 (p0:Qaf):Slot:=.own 7 [[(K .u8 p0.Kind),(Zql p0),(I p0.Level),(I p0.Amount),(I p0.Wide),(I p0.Narrow),(Q74 p0)]]
def Zmb (p0:Qaf) (x7:Bool):List (Nat×Rec):=[(2,rp [((.tmp 55),(Q74 p0))] (I ((p0.Weights.length:Int)))),(3,rp [fu 65,((.tmp 56),(I ((p0.Weights.length:Int)))),ci 1,ci 20] (B x7))]
def Zma p0 x7 (x10:Bool):=hcat (Zmb p0 x7) [(4,rp [((.tmp 57),(B x7))] (B true)),(7,rp [((.tmp 58),(B true)),fu 108,((.tmp 60),(Q74 p0)),fu 125] (B x10))]
def Zl9 (p0:Qaf):List (Nat×Rec):=[(2,rp [((.tmp 24),(Zql p0))] (I ((p0.From.length:Int))))]
def Zl8 p0 (y1 y2:Int) (x16:Bool):=hcat (Zl9 p0) [(5,rp [((.tmp 27),(B (((p0.From.length:Int) != y1))))] (B false)),(9,rp [((.tmp 28),(B false)),fu 65,((.tmp 30),(I p0.Amount)),ci 0,((.tmp 31),(I y2))] (B x16))]
def Zl7 p0 y1 y2 x16 (x19:Bool):=hcat (Zl8 p0 y1 y2 x16) [(12,rp [((.tmp 34),(B ((!x16))))] (B false)),(15,rp [((.tmp 35),(B false)),fu 65,((.tmp 37),(I p0.Wide)),ci 0,ci 1000000] (B x19))]
theorem Qos (N:Nat) (p0:Qaf) (r:Bool) (h:Qgs N p0=some r):Spec prog 102 [(.agg (Qae p0))] [] (B r) []:=by
  refine sA func102 0 fun _ _ _ hq hd0=>?_
  unfold Qgs at h
  refine wxz<|wxz ?_
  obtain⟨k3,hk_k3,h⟩:=jko h
  refine wjn (τ:=Int×Int) (fun t=>k3 t=some r) (fun ⟨y1,y2⟩=>⟨mk 68 [(1,.ref 0 7 0 0),(3,I y1),(4,I y2)],[(Qy2 p0)]⟩) (fun t h=>?_) ?_
  ·subst hk_k3
   obtain⟨y1,y2⟩:=t
   obtain⟨k4,hk_k4,h⟩:=jko h
   refine wjn (τ:=Unit) (fun t=>k4 t=some r) (fun _=>⟨mk 68 [(1,.ref 0 7 0 0)],[(Qy2 p0)]⟩) (fun t h=>?_) ?_
   ·subst hk_k4
    refine wsq<|wxz ?_
    refine bfe h (fun hc5 h=>?_) fun hc5 h=>?_
    ·refine wft hc5<|wx tbk [(2,rp _ _)] ⟨alq 1 Qac p0.Weights underlying27,tv⟩<|Qai<|Qaj ?_
     obtain rfl:=osi h
     exact fend ⟨[(B (((p0.Weights.length:Int)==0)))],⟨rot,tv⟩,rfl⟩ nll
    ·refine wfn hc5<|Qam<|thn ?_
     obtain⟨x7,hf6,h⟩:=bno h
     refine hpre (A:=(Zmb p0 x7)) ⟨alq 1 Qac p0.Weights underlying27,apv Qmi (Qdl N (p0.Weights.length:Int) 1 20 _ hf6) (nlcc (nlc nll nl0)) nll,tv⟩ fun q1_=>?_
     refine bfe h (fun hb8 h=>?_) fun hb8 h=>?_
     ·obtain⟨x10,hf9,h⟩:=bno h
      refine hpre (A:=(Zma p0 x7 x10)) (hap q1_ ⟨asb hb8 (amv rfl),ag_ (acq [(Q74 p0),(.fn (.func 125) [] [])] [] [] (B x10) [] Q7c (Qrx N p0.Weights _ hf9) (Qbr (rnc (pld Qah) (rnc (.plain _ (NLt.fn _ _ _ nl0 nl0)) rn0))) Qas Qas (.plain _ nll)),tv⟩) fun q2_=>?_
      refine bfe h (fun hb11 h=>?_) fun hb11 h=>?_
      ·obtain⟨x13,hf12,h⟩:=bno h
       refine wx tbk (hcat (Zma p0 x7 x10) [(9,rp [(.tmp 62,B x10)] (B true)),(12,rp [(.tmp 63,B true),fu 126,(.tmp 65,(Q74 p0)),fu 127] (B x13))]) (hap q2_ ⟨asb hb11 (amv rfl),ag_ (acq [(Q74 p0),(.fn (.func 127) [] [])] [] [] (B x13) [] Qr9 (Qju N p0.Weights _ hf12) (Qbr (rnc (pld Qah) (rnc (.plain _ (NLt.fn _ _ _ nl0 nl0)) rn0))) Qas Qas (.plain _ nll)),tv⟩)<|Qai ?_
       exact frb h
      ·exact wx tbk (hcat (Zma p0 x7 x10) [(9,rp [(.tmp 62,B x10)] (B false))]) (hap q2_ ⟨asb hb11 (amv rfl),tv⟩)<|Qai<|frb h
     ·exact wx tbk (hcat (Zmb p0 x7) [(4,rp [(.tmp 57,B x7)] (B false))]) (hap q1_ ⟨asb hb8 (amv rfl),tv⟩)<|Qai<|frb h
   ·skip
    refine hpre (A:=(Zl9 p0)) ⟨alq 2 Qaw p0.From underlying116,tv⟩ fun q3_=>?_
    refine bfe h (fun hb14 h=>?_) fun hb14 h=>?_
    ·exact wx tbk (hcat (Zl9 p0) [(5,rp [(.tmp 27,(B (((p0.From.length:Int) != y1))))] (B true))]) (hap q3_ ⟨asb hb14 (amv rfl),tv⟩)<|wtr<|wxz<|Qai<|Qaj<|frb h
    ·obtain⟨x16,hf15,h⟩:=bno h
     refine hpre (A:=(Zl8 p0 y1 y2 x16)) (hap q3_ ⟨asb hb14 (amv rfl),ag_ (apv Qmi (Qdl N p0.Amount 0 y2 _ hf15) (nlcc (nlc nll nl0)) nll),tv⟩) fun q4_=>?_
     refine bfe h (fun hb17 h=>?_) fun hb17 h=>?_
     ·exact wx tbk (hcat (Zl8 p0 y1 y2 x16) [(12,rp [(.tmp 34,(B ((!x16))))] (B true))]) (hap q4_ ⟨asb hb17 (amv rfl),tv⟩)<|wtr<|wxz<|Qai<|Qaj<|frb h
     ·obtain⟨x19,hf18,h⟩:=bno h
      refine hpre (A:=(Zl7 p0 y1 y2 x16 x19)) (hap q4_ ⟨asb hb17 (amv rfl),ag_ (apv Qmi (Qdl N p0.Wide 0 1000000 _ hf18) (nlcc (nlc nll nl0)) nll),tv⟩) fun q5_=>?_
      refine bfe h (fun hb20 h=>?_) fun hb20 h=>?_
      ·exact wx tbk (hcat (Zl7 p0 y1 y2 x16 x19) [(18,rp [(.tmp 40,(B ((!x19))))] (B true))]) (hap q5_ ⟨asb hb20 (amv rfl),tv⟩)<|wtr<|wxz<|Qai<|Qaj<|frb h
      ·obtain⟨x22,hf21,h⟩:=bno h
       refine wx tbk (hcat (Zl7 p0 y1 y2 x16 x19) [(18,rp [(.tmp 40,(B ((!x19))))] (B false)),(21,rp [(.tmp 41,B false),fu 65,(.tmp 43,I p0.Narrow),ci 1,ci 1000000000] (B x22))]) (hap q5_ ⟨asb hb20 (amv rfl),ag_ (apv Qmi (Qdl N p0.Narrow 1 1000000000 _ hf21) (nlcc (nlc nll nl0)) nll),tv⟩) ?_
       refine bfe h (fun hc23 h=>?_) fun hc23 h=>?_
       ·exact wft hc23<|wxz<|Qai<|Qaj<|frb h
       ·exact wfn hc23<|Qam<|thn<|⟨(),h,(mto (n:=68) [(1,.ref 0 7 0 0)] [0] [(Qy2 p0)] hq (prr pn) (qb (lc rwl (lc (rnd Qbf) (lcc (lcc (lc (rnd Qah) ln))))) qn))⟩
  ·skip
   refine wxz<|Qao<|wxz ?_
   refine bfe h (fun hc24 h=>?_) fun hc24 h=>?_
   ·exact wft hc24<|wxz1<|bln<|thn<|⟨(0,0),h,(mto (n:=68) [(1,.ref 0 7 0 0),(3,I 0),(4,I 0)] [0] [(Qy2 p0)] hq (prr (pw (pw pn))) (qb (lc rwl (lc (rnd Qbf) (lcc (lcc (lc (rnd Qah) ln))))) qn))⟩
   ·refine wfn hc24<|wxz ?_
    refine bfe h (fun hc25 h=>?_) fun hc25 h=>?_
    ·refine wft hc25 ?_
     obtain⟨x26,hl27,h⟩:=bno h
     obtain⟨x28,hl29,h⟩:=bno h
     exact wx1 tbk [(2,rp _ _),(3,rp [(.tmp 13,(I ((p0.From.length:Int)))),ci 6] (I x26)),(4,rp [ci 1,(.tmp 14,I x26)] (I ((if x26>1 then x26 else 1)))),(5,rp [(.tmp 15,(I ((if x26>1 then x26 else 1))))] (I x28))] ⟨alq 2 Qaw p0.From underlying116,Qhg hl27 (Qpj rfl),Qml rfl,Qhg hl29 (aas rfl),tv⟩<|bln<|thn<|⟨(x28,0),h,(mto (n:=68) [(1,.ref 0 7 0 0),(3,I x28),(4,I 0)] [0] [(Qy2 p0)] hq (prr (pw (pw pn))) (qb (lc rwl (lc (rnd Qbf) (lcc (lcc (lc (rnd Qah) ln))))) qn))⟩
    ·refine wfn hc25<|wxz ?_
     refine bfe h (fun hc30 h=>?_) fun hc30 h=>?_
     ·exact wft hc30<|wxz1<|bln<|thn<|⟨(1,1000000000),h,(mto (n:=68) [(1,.ref 0 7 0 0),(3,I 1),(4,I 1000000000)] [0] [(Qy2 p0)] hq (prr (pw (pw pn))) (qb (lc rwl (lc (rnd Qbf) (lcc (lcc (lc (rnd Qah) ln))))) qn))⟩
     ·refine wfn hc30<|wxz ?_
      refine bfe h (fun hc31 h=>?_) fun hc31 h=>?_
      ·exact wft hc31<|wxz1<|bln<|thn<|⟨(1,1000),h,(mto (n:=68) [(1,.ref 0 7 0 0),(3,I 1),(4,I 1000)] [0] [(Qy2 p0)] hq (prr (pw (pw pn))) (qb (lc rwl (lc (rnd Qbf) (lcc (lcc (lc (rnd Qah) ln))))) qn))⟩
      ·refine wfn hc31<|wsq<|wxz ?_
       refine bfe h (fun hc32 h=>?_) fun hc32 h=>?_
       ·exact wft hc32<|Qam<|thn<|wft hc32<|Qam<|bln<|thn<|⟨(1,0),h,(mto (n:=68) [(1,.ref 0 7 0 0),(3,I 1),(4,I 0)] [0] [(Qy2 p0)] hq (prr (pw (pw pn))) (qb (lc rwl (lc (rnd Qbf) (lcc (lcc (lc (rnd Qah) ln))))) qn))⟩
       ·refine wfn hc32<|wxz1<|thn ?_
        refine bfe h (fun hc33 h=>?_) fun hc33 h=>?_
        ·exact wft hc33<|Qam<|bln<|thn<|⟨(1,0),h,(mto (n:=68) [(1,.ref 0 7 0 0),(3,I 1),(4,I 0)] [0] [(Qy2 p0)] hq (prr (pw (pw pn))) (qb (lc rwl (lc (rnd Qbf) (lcc (lcc (lc (rnd Qah) ln))))) qn))⟩
        ·exact wfn hc33<|wxz<|Qai<|Qar<|Qaj<|frb h
def Qe9 (N:Nat) (p0:Qaf):Option Bool:=
  (Qgs N p0).bind fun x3=>
  some (!x3)
abbrev Zsr (p0:Qaf):AV:=.agg [(K .u8 p0.Kind),(.dat 2 (p0.From.map Qaw)),(I p0.Level),(I p0.Amount),(I p0.Wide),(I p0.Narrow),(.dat 1 (p0.Weights.map Qac))]
abbrev Zgh:Slot:=.own 1 [[(.fn (.func 102) [] [])]]
theorem Qlo (N:Nat) (p0:Qaf) (r:Bool) (h:Qe9 N p0=some r):Spec prog 124 [(Zsr p0),(.ref 0 1 (0) 0)] [Zgh] (B r) [Zgh]:=by
  refine sF func124 1 fun _ _ _ hq hd0=>?_
  unfold Qe9 at h
  refine wxz ?_
  obtain⟨x3,hf2,h⟩:=bno h
  refine wx tbk [(2,rp _ _)] ⟨apw Zi1 (Qos N p0 _ hf2),tv⟩ ?_
  refine wmr (mto (n:=8) (l':=[(3,(B ((!x3))))]) (own':=[Zgh]) [(3,(B ((!x3))))] [0] [Zgh] hq (pw pn) (qb (lc (.rn (Qbj rn0 rn0)) ln) qn))<|Qai ?_
  obtain rfl:=osi h
  exact⟨_,Mor.rfl,fio [(B ((!x3)))] ⟨rot,tv⟩⟩
def Qa4 (N:Nat) (p0:List Qaf) (k2:Unit→Option Int):Nat→Int→Option Int
  |0,_=>none
  |n5+1,y3=>
    bif (decide (y3<(p0.length:Int))) then
     (getI p0 y3).bind fun x7=>
     (Qe9 N x7).bind fun x12=>
     bif x12 then
      some y3
     else
      Qa4 N p0 k2 n5 (w64 (y3+1))
    else
     k2 ()
def Qb3 (N:Nat) (p0:List Qaf):Option Int:=
  Qbc (fun _=>
    some (-1)) fun k2:Unit→Option Int=>
  Qa4 N p0 k2 N 0
abbrev Zbm (p0:List Qaf):AV:=.dat 7 (p0.map Qae)
abbrev Zbl:AV:=.fn (.func 124) [] [(.ref 0 1 (0) 0)]
abbrev Qrg:Slot:=.own 1 [[(.fn (.func 102) [] [])]]
def Zqo (x7:Qaf):AV:=.agg [(K .u8 x7.Kind),(.dat 2 (x7.From.map Qaw)),(I x7.Level),(I x7.Amount),(I x7.Wide),(I x7.Narrow),(.dat 1 (x7.Weights.map Qac))]
theorem Qg5 (N:Nat) (p0:List Qaf) (r:Int) (h:Qb3 N p0=some r):Spec prog 140 [(Zbm p0),Zbl] [Qrg] (I r) [Qrg]:=by
  refine sF func140 1 fun _ _ _ hq hd0=>?_
  unfold Qb3 at h
  refine wxz ?_
  obtain⟨k2,hk_k2,h⟩:=jko h
  refine wjn (τ:=Unit) (fun t=>k2 t=some r) (fun _=>⟨mk 19 [],[Qrg]⟩) (fun t h=>?_) ?_
  ·subst hk_k2
   refine wxz<|wmr (mto (n:=19) (l':=[(4,(I ((-1))))]) (own':=[Qrg]) [(4,(I ((-1))))] [0] [Qrg] hq (pw pn) (qb (lc (.rn (Qbj rn0 rn0)) ln) qn))<|Qai ?_
   obtain rfl:=osi h
   exact⟨_,Mor.rfl,fio [(I ((-1)))] ⟨rot,tv⟩⟩
  ·skip
   refine wx tbk [(1,rp _ _)] ⟨alq 7 Qae p0 underlying40,tv⟩<|Qao ?_
   refine wmr (mto (n:=19) (l':=[(0,(Zbm p0)),(1,Zbl),(7,(I ((p0.length:Int)))),(8,I 0)]) (own':=[Qrg]) [(0,(Zbm p0)),(1,Zbl),(7,(I ((p0.length:Int)))),(8,I 0)] [0] [Qrg] hq (pc (rnd Qab) (pc (.rn (Qbj rn0 (rnc (rqr rfl) rn0))) (pw (pw pn)))) (qb (lc (.rn (Qbj rn0 rn0)) ln) qn)) ?_
   refine Qbl (τ:=Int) (fun n t=>Qa4 N p0 k2 n t=some r) (fun y3=>⟨mk 19 [(0,(Zbm p0)),(1,Zbl),(7,(I ((p0.length:Int)))),(8,I y3)],[Qrg]⟩) (fun t h=>by rw[Qa4] at h;cases h) (fun n5 ih y3 h=>?_) N (0) h
   rw[Qa4] at h
   skip
   refine wxz<|wsq ?_
   refine bfe h (fun hc6 h=>?_) fun hc6 h=>?_
   ·refine wft hc6<|Qam<|thn<|wsq<|Qao<|wxz ?_
    obtain⟨x7,hg8,h⟩:=bno h
    obtain⟨hi9,hj10⟩:=gsm hg8
    obtain⟨x12,hf11,h⟩:=bno h
    refine wx tbk [(3,rp _ _),(5,⟨_,_,_,_,false⟩)] ⟨aiq underlying40 Qkd Qae hi9 hj10,Qdp (first:=[]) (cap:=[.ref 0 1 0 0]) (vs:=[(Zqo x7)]) (σr:=[Qrg]) (σr':=[Qrg]) (res':=(B x12)) [0] rfl Zij (Qlo N x7 _ hf11) rfl (Qbr (rnc (.plain _ (NLt.agg _ (nlc nll (nlc (nld Qbf _) (nlcc (nlcc (nlc (nld Qah _) nl0))))))) (rnc (Qa0 rfl) rn0))) (slc (Qaq (rnc (.plain _ (NLt.fn _ _ _ nl0 nl0)) rn0)) Qas) (slc (Qaq (rnc (.plain _ (NLt.fn _ _ _ nl0 nl0)) rn0)) Qas) (.plain _ nll) rfl rfl rfl,tv⟩ ?_
    refine bfe h (fun hc13 h=>?_) fun hc13 h=>?_
    ·refine wft hc13<|wxz ?_
     refine wmr (mto (n:=19) (l':=[(4,I y3)]) (own':=[Qrg]) [(4,I y3)] [0] [Qrg] hq (pw pn) (qb (lc (.rn (Qbj rn0 rn0)) ln) qn))<|Qai<|Qar<|Qaj<|Qaj<|Qar<|Qaj ?_
     obtain rfl:=osi h
     exact⟨_,Mor.rfl,fio [I y3] ⟨rot,tv⟩⟩
    ·exact wfn hc13<|Qam<|bln<|thn<|wxz1<|thn<|arm (mto (n:=19) [(0,(Zbm p0)),(1,Zbl),(7,(I ((p0.length:Int)))),(8,(I (w64 (y3+1))))] [0] [Qrg] hq (pc (rnd Qab) (pc (.rn (Qbj rn0 (rnc (rqr rfl) rn0))) (pw (pw pn)))) (qb (lc (.rn (Qbj rn0 rn0)) ln) qn)) (ih (w64 (y3+1)) h)
   ·exact wfn hc6<|Qa7<|Qau<|Qau<|Qa6 rfl<|thn<|⟨(),h,(mto (n:=19) [] [0] [Qrg] hq pn (qb (lc (.rn (Qbj rn0 rn0)) ln) qn))⟩
def Qbq (N:Nat) (p0:List Qaf):Option Bool:=
  (Qb3 N p0).bind fun x3=>
  some (decide (x3≥0))
abbrev Zqp:AV:=.fn (.func 124) [] [(.ref 0 1 (0) 0)]
abbrev Q75:Slot:=.own 1 [[(.fn (.func 102) [] [])]]
theorem Qgk (N:Nat) (p0:List Qaf) (r:Bool) (h:Qbq N p0=some r):Spec prog 123 [(.dat 7 (p0.map Qae)),Zqp] [Q75] (B r) [Q75]:=by
  refine sF func123 1 fun _ _ _ hq hd0=>?_
  unfold Qbq at h
  refine wxz ?_
  obtain⟨x3,hf2,h⟩:=bno h
  refine wx tbk [(2,⟨_,_,_,_,false⟩)] ⟨acq [(.dat 7 (p0.map Qae)),Zqp] [Q75] [Q75] (I x3) [0] Zh9 (Qg5 N p0 _ hf2) (Qbr (rnc (pld Qab) (rnc (Qbj rn0 (rnc (Qa0 rfl) rn0)) rn0))) (slc (Qaq (rnc (.plain _ (NLt.fn _ _ _ nl0 nl0)) rn0)) Qas) (slc (Qaq (rnc (.plain _ (NLt.fn _ _ _ nl0 nl0)) rn0)) Qas) (.plain _ nll),tv⟩ ?_
  refine wmr (mto (n:=9) (l':=[(4,(B ((decide (x3≥0)))))]) (own':=[Q75]) [(4,(B ((decide (x3≥0)))))] [0] [Q75] hq (pw pn) (qb (lc (.rn (Qbj rn0 rn0)) ln) qn))<|Qai ?_
  obtain rfl:=osi h
  exact⟨_,Mor.rfl,fio [(B ((decide (x3≥0))))] ⟨rot,tv⟩⟩
def Qee (N:Nat) (p0:List Qaf):Option Bool:=
  (Qbq N p0).bind fun x2=>
  some (!x2)
def Zqr:AV:=.fn (.func 124) [] [(.ref 0 1 (0) 0)]
def Zqs:Slot:=.own 1 [[(.fn (.func 102) [] [])]]
theorem Qmf (N:Nat) (p0:List Qaf) (r:Bool) (h:Qee N p0=some r):Spec prog 101 [(.dat 7 (p0.map Qae)),(.fn (.func 102) [] [])] [] (B r) []:=by
  refine sA func101 0 fun _ _ _ hq hd0=>?_
  unfold Qee at h
  refine wxz ?_
  obtain⟨x2,hf1,h⟩:=bno h
  refine wx tbk [(1,rp [(.tmp 3,.ref 0 1 0 0)] Zqr),(2,⟨_,_,_,_,false⟩)] ⟨Qfv (fs:=[]) (cs:=[.ref 0 1 0 0]) rfl rfl rfl rfl,acq [(.dat 7 (p0.map Qae)),Zqr] [Zqs] [Zqs] (B x2) [0] Zik (Qgk N p0 _ hf1) (Qbr (rnc (pld Qab) (rnc (Qbj rn0 (rnc (Qa0 rfl) rn0)) rn0))) (slc (Qaq (rnc (.plain _ (NLt.fn _ _ _ nl0 nl0)) rn0)) Qas) (slc (Qaq (rnc (.plain _ (NLt.fn _ _ _ nl0 nl0)) rn0)) Qas) (.plain _ nll),tv⟩<|Qai ?_
  obtain rfl:=osi h
  exact fend ⟨[(B ((!x2)))],⟨rot,tv⟩,rfl⟩ nll
def Qef (_N:Nat) (p0:Qaf):Option Int:=
  bif (p0.Kind==4) then
   some 2
  else
   bif (p0.Kind==5) then
    (some (p0.Weights.length:Int)).bind fun x3=>
    some x3
   else
    some 1
theorem Qjk (N:Nat) (p0:Qaf) (r:Int) (h:Qef N p0=some r):Spec prog 103 [(.agg (Qae p0))] [] (I r) []:=by
  refine sA func103 0 fun _ _ _ hq hd0=>?_
  unfold Qef at h
  refine wxz<|wsq<|wxz<|Qao<|wxz ?_
  refine bfe h (fun hc1 h=>?_) fun hc1 h=>?_
  ·refine wft hc1<|wxz<|Qai<|Qar<|Qaj ?_
   obtain rfl:=osi h
   exact fend ⟨[I 2],⟨rot,tv⟩,rfl⟩ nll
  ·refine wfn hc1<|wxz ?_
   refine bfe h (fun hc2 h=>?_) fun hc2 h=>?_
   ·refine wft hc2 ?_
    obtain⟨x3,hl4,h⟩:=bno h
    refine wx tbk [(2,rp _ _),(3,rp [(.tmp 11,(I ((p0.Weights.length:Int))))] (I x3))] ⟨alq 1 Qac p0.Weights underlying27,Qhg hl4 (aas rfl),tv⟩<|Qai<|Qar<|Qaj ?_
    obtain rfl:=osi h
    exact fend ⟨[I x3],⟨rot,tv⟩,rfl⟩ nll
   ·refine wfn hc2<|Qam<|bln<|thn<|wxz<|Qai ?_
    obtain rfl:=osi h
    exact fend ⟨[I 1],⟨rot,tv⟩,rfl⟩ nll
def Qdm (N:Nat) (p0:GNet) (y3:Int) (k10:(List (Int×Int))→Option Bool) (x11:Qaf):Nat→Int→(List (Int×Int))→Option Bool
  |0,_,_=>none
  |n22+1,y18,y19=>
    bif (decide (y18<(x11.From.length:Int))) then
     (getI x11.From y18).bind fun x24=>
     (Qcp N x24.Element 0 (w64 (y3-1))).bind fun x29=>
     bif (!x29) then
      some false
     else
      (getI p0.Elements x24.Element).bind fun x31=>
      (Qef N x31).bind fun x36=>
      (Qcp N x24.Outlet 0 (w64 (x36-1))).bind fun x38=>
      bif (!x38) then
       some false
      else
       bif y19.contains (x24.Element,x24.Outlet) then
        some false
       else
        bif (decide (x11.Level>x31.Level)) then
         some false
        else
         Qdm N p0 y3 k10 x11 n22 (w64 (y18+1)) (addQ y19 (x24.Element,x24.Outlet))
    else
     k10 (y19)
def Qc6 (N:Nat) (p0:GNet) (k2:Unit→Option Bool):Nat→Int→(List (Int×Int))→Option Bool
  |0,_,_=>none
  |n7+1,y3,y4=>
    bif (decide (y3<(p0.Elements.length:Int))) then
     Qbc (fun y9=>
       Qc6 N p0 k2 n7 (w64 (y3+1)) y9) fun k10:(List (Int×Int))→Option Bool=>
     (getI p0.Elements y3).bind fun x11=>
     (Qcp N x11.Level 0 (w64 ((p0.Table.length:Int)-1))).bind fun x16=>
     bif (!x16) then
      some false
     else
      Qdm N p0 y3 k10 x11 N 0 y4
    else
     k2 ()
def Qgq (N:Nat) (p0:GNet):Option Bool:=
  Qbc (fun _=>
    Qbc (fun _=>
      some true) fun k2:Unit→Option Bool=>
    Qc6 N p0 k2 N 0 ([]:List (Int×Int))) fun k1:Unit→Option Bool=>
  (Qin N p0.Table).bind fun x43=>
  bif (x43 != 0) then
   some false
  else
   (Qcp N (p0.Elements.length:Int) 1 16).bind fun x46=>
   bif (!x46) then
    some false
   else
    (Qee N p0.Elements).bind fun x49=>
    bif (!x49) then
     some false
    else
     k1 ()
def z9_0 (p0:GNet):AV:=.dat 5 (p0.Table.map Qap)
def z9_1 (p0:GNet):AV:=.dat 7 (p0.Elements.map Qae)
def z9_2 (p0:GNet):Slot:=.own 2 [[(z9_0 p0),(z9_1 p0)]]
def Q0p (x11:Qaf):AV:=.dat 2 (x11.From.map Qaw)
def Q45 (x11:Qaf):Slot:=.own 7 [[(K .u8 x11.Kind),(Q0p x11),(I x11.Level),(I x11.Amount),(I x11.Wide),(I x11.Narrow),(.dat 1 (x11.Weights.map Qac))]]
def Q9r (x24:Qbn) (y3:Int) (x29:Bool):List (Nat×Rec):=[(4,rp [fu 65,((.tmp 50),(I x24.Element)),ci 0,((.tmp 52),(I (w64 (y3-1))))] (B x29))]
def Zo9 (x31:Qaf):AV:=.agg [(K .u8 x31.Kind),(.dat 2 (x31.From.map Qaw)),(I x31.Level),(I x31.Amount),(I x31.Wide),(I x31.Narrow),(.dat 1 (x31.Weights.map Qac))]
def Q9q x24 y3 x29 (p0:GNet) (x31:Qaf) (x36:Int) (x38:Bool):=hcat (Q9r x24 y3 x29) [(6,rp [((.tmp 54),(B ((!x29))))] (B false)),(13,rp [((.tmp 55),(B false)),((.tmp 59),(z9_1 p0)),((.tmp 61),(I x24.Element))] (.dptr (Qae x31) 0)),(15,rp [((.tmp 55),(B false)),fu 103,((.tmp 63),(Zo9 x31))] (I x36)),(17,rp [((.tmp 55),(B false)),fu 65,((.tmp 57),(I x24.Outlet)),ci 0,((.tmp 65),(I (w64 (x36-1))))] (B x38))]
def Q9p x24 y3 x29 p0 x31 x36 x38 (y19:(List (Int×Int))):=hcat (Q9q x24 y3 x29 p0 x31 x36 x38) [(20,rp [((.tmp 68),(B ((!x38))))] (B false)),(23,rb [((.tmp 69),(B false)),((.tmp 70),(.mp 1)),((.tmp 71),(.agg [(I x24.Element),(I x24.Outlet)]))] [(1,(Qd4 y19))] (B (y19.contains (x24.Element,x24.Outlet))))]
def Q9o (p0:GNet) (x43:Int):List (Nat×Rec):=[(2,rp [fu 100,((.tmp 9),(z9_0 p0))] (I x43))]
def Q9n p0 x43 (x46:Bool):=hcat (Q9o p0 x43) [(4,rp [((.tmp 11),(B ((x43 != 0))))] (B false)),(7,rp [((.tmp 12),(B false)),((.tmp 14),(z9_1 p0))] (I ((p0.Elements.length:Int)))),(8,rp [((.tmp 12),(B false)),fu 65,((.tmp 15),(I ((p0.Elements.length:Int)))),ci 1,ci 16] (B x46))]
theorem Qj3 (N:Nat) (p0:GNet) (r:Bool) (h:Qgq N p0=some r):Spec prog 66 [(.agg (Qgw p0))] [] (B r) []:=by
  refine sA func66 0 fun _ _ _ hq hd0=>?_
  unfold Qgq at h
  refine wxz ?_
  obtain⟨k1,hk_k1,h⟩:=jko h
  refine wjn (τ:=Unit) (fun t=>k1 t=some r) (fun _=>⟨mk 90 [(1,.ref 0 2 0 0)],[(z9_2 p0)]⟩) (fun t h=>?_) ?_
  ·subst hk_k1
   refine wx tbk [(0,⟨[],[(1,.unused)],(.mp 1),[(1,(Qd4 ([]:List (Int×Int))))],false⟩)] ⟨Qt4 rfl,tv⟩ ?_
   obtain⟨k2,hk_k2,h⟩:=jko h
   refine wjn (τ:=Unit) (fun t=>k2 t=some r) (fun _=>⟨mk 90 [],[]⟩) (fun t h=>?_) ?_
   ·subst hk_k2
    exact wxz<|Qai<|frb h
   ·skip
    refine wx tbk [(2,rp _ _)] ⟨alq 7 Qae p0.Elements underlying40,tv⟩<|Qao ?_
    refine wmr (mto (n:=90) (l':=[(1,.ref 0 2 0 0),(3,(.mp 1)),(27,(z9_1 p0)),(28,(I ((p0.Elements.length:Int)))),(29,I 0)]) (own':=[(z9_2 p0),(Qd4 ([]:List (Int×Int)))]) [(1,.ref 0 2 0 0),(3,(.mp 1)),(27,(z9_1 p0)),(28,(I ((p0.Elements.length:Int)))),(29,I 0)] [0,1] [(z9_2 p0),(Qd4 ([]:List (Int×Int)))] hq (prr (pc (.rn (Qjx rfl)) (pc (rnd Qab) (pw (pw pn))))) (qb (lc (rnd Qan) (lc (rnd Qab) ln)) (qc Qga qn))) ?_
    refine Qbl (τ:=Int×(List (Int×Int))) (fun n t=>Qc6 N p0 k2 n t.1 t.2=some r) (fun ⟨y3,y4⟩=>⟨mk 90 [(1,.ref 0 2 0 0),(3,(.mp 1)),(27,(z9_1 p0)),(28,(I ((p0.Elements.length:Int)))),(29,I y3)],[(z9_2 p0),(Qd4 y4)]⟩) (fun t h=>by rw[Qc6] at h;cases h) (fun n7 ih t h=>?_) N (0,([]:List (Int×Int))) h
    obtain⟨y3,y4⟩:=t
    rw[Qc6] at h
    skip
    refine wxz<|wsq ?_
    refine bfe h (fun hc8 h=>?_) fun hc8 h=>?_
    ·refine wft hc8<|Qam<|thn ?_
     obtain⟨k10,hk_k10,h⟩:=jko h
     refine wjn (τ:=(List (Int×Int))) (fun t=>k10 t=some r) (fun y9=>⟨mk 90 [(1,.ref 0 2 0 0),(3,(.mp 1)),(27,(z9_1 p0)),(28,(I ((p0.Elements.length:Int)))),(29,I y3)],[(z9_2 p0),(Qd4 y9)]⟩) (fun y9 h=>?_) ?_
     ·subst hk_k10
      exact wxz1<|thn<|arm (mto (n:=90) [(1,.ref 0 2 0 0),(3,(.mp 1)),(27,(z9_1 p0)),(28,(I ((p0.Elements.length:Int)))),(29,(I (w64 (y3+1))))] [0,1] [(z9_2 p0),(Qd4 y9)] hq (prr (pc (.rn (Qjx rfl)) (pc (rnd Qab) (pw (pw pn))))) (qb (lc (rnd Qan) (lc (rnd Qab) ln)) (qc Qga qn))) (ih (w64 (y3+1),y9) h)
     ·skip
      refine Qao ?_
      obtain⟨x11,hg12,h⟩:=bno h
      obtain⟨hi13,hj14⟩:=gsm hg12
      refine wx tbk [(1,rp _ _)] ⟨aiq underlying40 Qkd Qae hi13 hj14,tv⟩<|wsq ?_
      obtain⟨x16,hf15,h⟩:=bno h
      refine wx tbk [(4,rp _ _),(6,rp _ _)] ⟨alq 5 Qap p0.Table underlying39,apw Qmi (Qdl N x11.Level 0 (w64 ((p0.Table.length:Int)-1)) _ hf15),tv⟩ ?_
      refine bfe h (fun hc17 h=>?_) fun hc17 h=>?_
      ·exact wft hc17<|wxz<|Qai<|Qaj<|Qar<|Qaj<|Qaj<|Qar<|Qaj<|frb h
      ·refine wfn hc17<|Qam<|thn ?_
       refine wx tbk [(2,rp _ _)] ⟨alq 2 Qaw x11.From underlying116,tv⟩<|Qao ?_
       refine wmr (mto (n:=90) (l':=[(1,.ref 0 2 0 0),(3,(.mp 1)),(4,I y3),(5,.ref 2 7 0 0),(27,(z9_1 p0)),(28,(I ((p0.Elements.length:Int)))),(29,I y3),(43,(Q0p x11)),(44,(I ((x11.From.length:Int)))),(45,I 0)]) (own':=[(z9_2 p0),(Qd4 y4),(Q45 x11)]) [(1,.ref 0 2 0 0),(3,(.mp 1)),(4,I y3),(5,.ref 2 7 0 0),(27,(z9_1 p0)),(28,(I ((p0.Elements.length:Int)))),(29,I y3),(43,(Q0p x11)),(44,(I ((x11.From.length:Int)))),(45,I 0)] [0,1,2] [(z9_2 p0),(Qd4 y4),(Q45 x11)] hq (prr (pc (.rn (Qjx rfl)) (pw (prr (pc (rnd Qab) (pw (pw (pc (rnd Qbf) (pw (pw pn)))))))))) (qb (lc (rnd Qan) (lc (rnd Qab) ln)) (qc Qga (qb (lc rwl (lc (rnd Qbf) (lcc (lcc (lc (rnd Qah) ln))))) qn)))) ?_
       refine Qbl (τ:=Int×(List (Int×Int))) (fun n t=>Qdm N p0 y3 k10 x11 n t.1 t.2=some r) (fun ⟨y18,y19⟩=>⟨mk 90 [(1,.ref 0 2 0 0),(3,(.mp 1)),(4,I y3),(5,.ref 2 7 0 0),(27,(z9_1 p0)),(28,(I ((p0.Elements.length:Int)))),(29,I y3),(43,(Q0p x11)),(44,(I ((x11.From.length:Int)))),(45,I y18)],[(z9_2 p0),(Qd4 y19),(Q45 x11)]⟩) (fun t h=>by rw[Qdm] at h;cases h) (fun n22 ih t h=>?_) N (0,y4) h
       obtain⟨y18,y19⟩:=t
       rw[Qdm] at h
       skip
       refine wxz<|wsq ?_
       refine bfe h (fun hc23 h=>?_) fun hc23 h=>?_
       ·refine wft hc23<|Qam<|thn<|wsq<|Qao ?_
        obtain⟨x24,hg25,h⟩:=bno h
        obtain⟨hi26,hj27⟩:=gsm hg25
        refine wx tbk [(0,rp _ _)] ⟨aiq underlying116 Qql Qaw hi26 hj27,tv⟩<|wsq ?_
        obtain⟨x29,hf28,h⟩:=bno h
        refine hpre (A:=(Q9r x24 y3 x29)) ⟨apv Qmi (Qdl N x24.Element 0 (w64 (y3-1)) _ hf28) (nlcc (nlc nll nl0)) nll,tv⟩ fun q1_=>?_
        refine bfe h (fun hb30 h=>?_) fun hb30 h=>?_
        ·refine wxd tbk (hcat (Q9r x24 y3 x29) [(6,rp [(.tmp 54,(B ((!x29))))] (B true))]) (hap q1_ ⟨asb hb30 (amv rfl),tv⟩)<|wtr<|wxz<|Qai<|Qaj<|Qar<|Qaj<|Qaj<|Qar<|Qar ?_
         exact Qaj<|Qaj<|Qar<|Qaj<|frb h
        ·obtain⟨x31,hg32,h⟩:=bno h
         obtain⟨hi33,hj34⟩:=gsm hg32
         obtain⟨x36,hf35,h⟩:=bno h
         obtain⟨x38,hf37,h⟩:=bno h
         refine hpre (A:=(Q9q x24 y3 x29 p0 x31 x36 x38)) (hap q1_ ⟨asb hb30 (amv rfl),ag_ (aiq underlying40 Qkd Qae hi33 hj34),ag_ (apv Q7d (Qjk N x31 _ hf35) (nlc (NLt.agg _ (nlc nll (nlc (nld Qbf _) (nlcc (nlcc (nlc (nld Qah _) nl0)))))) nl0) nll),ag_ (apv Qmi (Qdl N x24.Outlet 0 (w64 (x36-1)) _ hf37) (nlcc (nlc nll nl0)) nll),tv⟩) fun q2_=>?_
         refine bfe h (fun hb39 h=>?_) fun hb39 h=>?_
         ·refine wxd tbk (hcat (Q9q x24 y3 x29 p0 x31 x36 x38) [(20,rp [(.tmp 68,(B ((!x38))))] (B true))]) (hap q2_ ⟨asb hb39 (amv rfl),tv⟩)<|wtr<|wxz<|Qai<|Qaj<|Qar<|Qaj<|Qaj<|Qar<|Qar ?_
          exact Qaj<|Qaj<|Qar<|Qaj<|frb h
         ·refine hpre (A:=(Q9p x24 y3 x29 p0 x31 x36 x38 y19)) (hap q2_ ⟨asb hb39 (amv rfl),ag_ (Qoc rfl underlying190 underlying120 zb4 Qx7 Qwj),tv⟩) fun q3_=>?_
          refine bfe h (fun hb40 h=>?_) fun hb40 h=>?_
          ·refine wxd tbk (hcat (Q9p x24 y3 x29 p0 x31 x36 x38 y19) [(25,rp [(.tmp 73,(B (y19.contains (x24.Element,x24.Outlet))))] (B true))]) (hap q3_ ⟨asb hb40 (amv rfl),tv⟩)<|wtr<|wxz<|Qai<|Qaj<|Qar<|Qaj<|Qaj<|Qar<|Qar ?_
           exact Qaj<|Qaj<|Qar<|Qaj<|frb h
          ·refine wxd tbk (hcat (Q9p x24 y3 x29 p0 x31 x36 x38 y19) [(25,rp [(.tmp 73,(B (y19.contains (x24.Element,x24.Outlet))))] (B false)),(32,rp [(.tmp 74,B false),(.tmp 78,(z9_1 p0)),(.tmp 80,I x24.Element)] (.dptr (Qae x31) 0))]) (hap q3_ ⟨asb hb40 (amv rfl),ag_ (aiq underlying40 Qkd Qae hi33 hj34),tv⟩) ?_
           refine bfe h (fun hc41 h=>?_) fun hc41 h=>?_
           ·refine wft hc41<|wxz<|Qai<|Qaj<|Qar<|Qaj<|Qaj<|Qar<|Qar<|Qaj ?_
            exact Qaj<|Qar<|Qaj<|frb h
           ·refine wfn hc41<|Qam<|thn ?_
            exact wx1 tbk [(2,⟨[(.tmp 86,(.mp 1)),(.tmp 87,(.agg [I x24.Element,I x24.Outlet])),cb true],[(1,(Qd4 y19))],.any,[(1,(Qd4 (addQ y19 (x24.Element,x24.Outlet))))],false⟩)] ⟨Qww rfl underlying190 underlying120 Qx7 Qwj,tv⟩<|bln<|thn<|wxz1<|thn<|arm (mto (n:=90) [(1,.ref 0 2 0 0),(3,(.mp 1)),(4,I y3),(5,.ref 2 7 0 0),(27,(z9_1 p0)),(28,(I ((p0.Elements.length:Int)))),(29,I y3),(43,(Q0p x11)),(44,(I ((x11.From.length:Int)))),(45,(I (w64 (y18+1))))] [0,1,2] [(z9_2 p0),(Qd4 (addQ y19 (x24.Element,x24.Outlet))),(Q45 x11)] hq (prr (pc (.rn (Qjx rfl)) (pw (prr (pc (rnd Qab) (pw (pw (pc (rnd Qbf) (pw (pw pn)))))))))) (qb (lc (rnd Qan) (lc (rnd Qab) ln)) (qc Qga (qb (lc rwl (lc (rnd Qbf) (lcc (lcc (lc (rnd Qah) ln))))) qn)))) (ih (w64 (y18+1),addQ y19 (x24.Element,x24.Outlet)) h)
       ·exact wfn hc23<|Qa7<|Qau<|Qau<|Qa6 rfl<|bln<|thn<|⟨(y19),h,(mto (n:=90) [(1,.ref 0 2 0 0),(3,(.mp 1)),(27,(z9_1 p0)),(28,(I ((p0.Elements.length:Int)))),(29,I y3)] [0,1] [(z9_2 p0),(Qd4 y19)] hq (prr (pc (.rn (Qjx rfl)) (pc (rnd Qab) (pw (pw pn))))) (qb (lc (rnd Qan) (lc (rnd Qab) ln)) (qc Qga qn)))⟩
    ·exact wfn hc8<|Qa7<|Qau<|Qau<|Qa6 rfl<|thn<|⟨(),h,(mto (n:=90) [] [] [] hq pn qn)⟩
  ·skip
   obtain⟨x43,hf42,h⟩:=bno h
   refine hpre (A:=(Q9o p0 x43)) ⟨apv Zi3 (Qp0 N p0.Table _ hf42) (nlc (nld Qan _) nl0) nll,tv⟩ fun q4_=>?_
   refine bfe h (fun hb44 h=>?_) fun hb44 h=>?_
   ·exact wx tbk (hcat (Q9o p0 x43) [(4,rp [(.tmp 11,(B ((x43 != 0))))] (B true))]) (hap q4_ ⟨asb hb44 (amv rfl),tv⟩)<|wtr<|wxz<|Qai<|Qaj<|frb h
   ·obtain⟨x46,hf45,h⟩:=bno h
    refine hpre (A:=(Q9n p0 x43 x46)) (hap q4_ ⟨asb hb44 (amv rfl),ag_ (alq 7 Qae p0.Elements underlying40),ag_ (apv Qmi (Qdl N (p0.Elements.length:Int) 1 16 _ hf45) (nlcc (nlc nll nl0)) nll),tv⟩) fun q5_=>?_
    refine bfe h (fun hb47 h=>?_) fun hb47 h=>?_
    ·exact wx tbk (hcat (Q9n p0 x43 x46) [(11,rp [(.tmp 18,(B ((!x46))))] (B true))]) (hap q5_ ⟨asb hb47 (amv rfl),tv⟩)<|wtr<|wxz<|Qai<|Qaj<|frb h
    ·obtain⟨x49,hf48,h⟩:=bno h
     refine wx tbk (hcat (Q9n p0 x43 x46) [(11,rp [(.tmp 18,(B ((!x46))))] (B false)),(14,rp [(.tmp 19,B false),fu 101,(.tmp 21,(z9_1 p0)),fu 102] (B x49))]) (hap q5_ ⟨asb hb47 (amv rfl),ag_ (acq [(z9_1 p0),(.fn (.func 102) [] [])] [] [] (B x49) [] Zi2 (Qmf N p0.Elements _ hf48) (Qbr (rnc (pld Qab) (rnc (.plain _ (NLt.fn _ _ _ nl0 nl0)) rn0))) Qas Qas (.plain _ nll)),tv⟩) ?_
     refine bfe h (fun hc50 h=>?_) fun hc50 h=>?_
     ·exact wft hc50<|wxz<|Qai<|Qaj<|frb h
     ·exact wfn hc50<|Qam<|thn<|⟨(),h,(mto (n:=90) [(1,.ref 0 2 0 0)] [0] [(z9_2 p0)] hq (prr pn) (qb (lc (rnd Qan) (lc (rnd Qab) ln)) qn))⟩
end
section
def Qfd (N:Nat) (k11:(List (Int×Int))→Option (List (Int×Int))) (x12:Qaf):Nat→Int→(List (Int×Int))→Option (List (Int×Int))
  |0,_,_=>none
  |n20+1,y16,y17=>
    bif (decide (y16<(x12.From.length:Int))) then
     (getI x12.From y16).bind fun x22=>
     Qfd N k11 x12 n20 (w64 (y16+1)) (addQ y17 (x22.Element,x22.Outlet))
    else
     k11 (y17)
def Qfe (N:Nat) (p0:GNet) (k3:(List (Int×Int))→Option (List (Int×Int))):Nat→Int→(List (Int×Int))→Option (List (Int×Int))
  |0,_,_=>none
  |n8+1,y4,y5=>
    bif (decide (y4<(p0.Elements.length:Int))) then
     Qbc (fun y10=>
       Qfe N p0 k3 n8 (w64 (y4+1)) y10) fun k11:(List (Int×Int))→Option (List (Int×Int))=>
     (getI p0.Elements y4).bind fun x12=>
     Qfd N k11 x12 N 0 y5
    else
     k3 (y5)
def Qlq (N:Nat) (p0:GNet):Option (List (Int×Int)):=
  Qbc (fun y2=>
    some y2) fun k3:(List (Int×Int))→Option (List (Int×Int))=>
  Qfe N p0 k3 N 0 ([]:List (Int×Int))
abbrev Quc (p0:GNet):AV:=.dat 7 (p0.Elements.map Qae)
abbrev Q0x:AV:=.fn (.func 110) [] [(.ref 0 2 (0) 0),(.ref 1 1 (0) 0)]
abbrev Qqg (p0:GNet):Slot:=.own 2 [[(.dat 5 (p0.Table.map Qap)),(Quc p0)]]
def Q5o (x12:Qaf):AV:=.dat 2 (x12.From.map Qaw)
theorem Qqw (N:Nat) (p0:GNet) (r:(List (Int×Int))) (h:Qlq N p0=some r):Spec prog 75 [(.agg [(.dat 5 (p0.Table.map Qap)),(Quc p0)])] [] Q0x [(Qqg p0),(.own 1 [[(.mp 2)]]),(Qd4 r)]:=by
  refine sF func75 3 fun _ _ _ hq hd0=>?_
  unfold Qlq at h
  refine wxz<|wx tbk [(0,⟨[],[(1,.unused)],(.mp 1),[(1,(Qd4 ([]:List (Int×Int))))],false⟩)] ⟨Qt4 rfl,tv⟩ ?_
  obtain⟨k3,hk_k3,h⟩:=jko h
  refine wjn (τ:=(List (Int×Int))) (fun t=>k3 t=some r) (fun y2=>⟨mk 28 [(1,.ref 0 2 0 0),(3,.ref 1 1 0 0)],[(Qqg p0),(.own 1 [[(.mp 2)]]),(Qd4 y2)]⟩) (fun y2 h=>?_) ?_
  ·subst hk_k3
   refine wx tbk [(0,rp [(.tmp 1,.ref 0 2 0 0),(.tmp 3,.ref 1 1 0 0)] Q0x)] ⟨Qfv (fs:=[]) (cs:=[.ref 0 2 0 0,.ref 1 1 0 0]) rfl rfl rfl rfl,tv⟩ ?_
   refine wmr (mto (n:=28) (l':=[(2,Q0x)]) (own':=[(Qqg p0),(.own 1 [[(.mp 2)]]),(Qd4 y2)]) [(2,Q0x)] [0,1,2] [(Qqg p0),(.own 1 [[(.mp 2)]]),(Qd4 y2)] hq (pc (.rn (Qbj rn0 (rnc (rqr rfl) (rnc (rqr rfl) rn0)))) pn) (qb (lc (rnd Qan) (lc (rnd Qab) ln)) (qb (lc (.rn (Qjx rfl)) ln) (qc Qga qn))))<|Qai ?_
   obtain rfl:=osi h
   exact⟨_,Mor.rfl,Zd3 (vs:=[Q0x]) ⟨rot,tv⟩ rfl (NLt.fn _ _ _ nl0 (nlc (NLt.ref _ _ _ _ (by decide)) (nlc (NLt.ref _ _ _ _ (by decide)) nl0))) (by kernel_rfl) (Qcf (Qiu (nlc (NLt.of0 (nld Qan _)) (nlc (NLt.of0 (nld Qab _)) nl0))) (Qcf (Qiu (nlc (NLt.mp _ (by decide)) nl0)) (Qcf Zgv Ql9)))⟩
  ·skip
   refine wx tbk [(2,rp _ _)] ⟨alq 7 Qae p0.Elements underlying40,tv⟩<|Qao ?_
   refine wmr (mto (n:=28) (l':=[(1,.ref 0 2 0 0),(3,.ref 1 1 0 0),(10,(Quc p0)),(11,(I ((p0.Elements.length:Int)))),(12,I 0)]) (own':=[(Qqg p0),(.own 1 [[(.mp 2)]]),(Qd4 ([]:List (Int×Int)))]) [(1,.ref 0 2 0 0),(3,.ref 2 1 0 0),(10,(Quc p0)),(11,(I ((p0.Elements.length:Int)))),(12,I 0)] [0,2,1] [(Qqg p0),(.own 1 [[(.mp 1)]]),(Qd4 ([]:List (Int×Int)))] hq (prr (prr (pc (rnd Qab) (pw (pw pn))))) (qb (lc (rnd Qan) (lc (rnd Qab) ln)) (qb (lc (.rn (Qjx rfl)) ln) (qc Qga qn)))) ?_
   refine Qbl (τ:=Int×(List (Int×Int))) (fun n t=>Qfe N p0 k3 n t.1 t.2=some r) (fun ⟨y4,y5⟩=>⟨mk 28 [(1,.ref 0 2 0 0),(3,.ref 1 1 0 0),(10,(Quc p0)),(11,(I ((p0.Elements.length:Int)))),(12,I y4)],[(Qqg p0),(.own 1 [[(.mp 2)]]),(Qd4 y5)]⟩) (fun t h=>by rw[Qfe] at h;cases h) (fun n8 ih t h=>?_) N (0,([]:List (Int×Int))) h
   obtain⟨y4,y5⟩:=t
   rw[Qfe] at h
   skip
   refine wxz<|wsq ?_
   refine bfe h (fun hc9 h=>?_) fun hc9 h=>?_
   ·refine wft hc9<|Qam<|thn ?_
    obtain⟨k11,hk_k11,h⟩:=jko h
    refine wjn (τ:=(List (Int×Int))) (fun t=>k11 t=some r) (fun y10=>⟨mk 28 [(1,.ref 0 2 0 0),(3,.ref 1 1 0 0),(10,(Quc p0)),(11,(I ((p0.Elements.length:Int)))),(12,I y4)],[(Qqg p0),(.own 1 [[(.mp 2)]]),(Qd4 y10)]⟩) (fun y10 h=>?_) ?_
    ·subst hk_k11
     exact wxz1<|thn<|arm (mto (n:=28) [(1,.ref 0 2 0 0),(3,.ref 1 1 0 0),(10,(Quc p0)),(11,(I ((p0.Elements.length:Int)))),(12,(I (w64 (y4+1))))] [0,1,2] [(Qqg p0),(.own 1 [[(.mp 2)]]),(Qd4 y10)] hq (prr (prr (pc (rnd Qab) (pw (pw pn))))) (qb (lc (rnd Qan) (lc (rnd Qab) ln)) (qb (lc (.rn (Qjx rfl)) ln) (qc Qga qn)))) (ih (w64 (y4+1),y10) h)
    ·skip
     refine Qao ?_
     obtain⟨x12,hg13,h⟩:=bno h
     obtain⟨hi14,hj15⟩:=gsm hg13
     refine wx tbk [(0,rp _ _)] ⟨aiq underlying40 Qkd Qae hi14 hj15,tv⟩ ?_
     refine wx tbk [(2,rp _ _)] ⟨alq 2 Qaw x12.From underlying116,tv⟩<|Qao ?_
     refine wmr (mto (n:=28) (l':=[(1,.ref 0 2 0 0),(3,.ref 1 1 0 0),(10,(Quc p0)),(11,(I ((p0.Elements.length:Int)))),(12,I y4),(17,(Q5o x12)),(18,(I ((x12.From.length:Int)))),(19,I 0)]) (own':=[(Qqg p0),(.own 1 [[(.mp 2)]]),(Qd4 y5)]) [(1,.ref 0 2 0 0),(3,.ref 1 1 0 0),(10,(Quc p0)),(11,(I ((p0.Elements.length:Int)))),(12,I y4),(17,(Q5o x12)),(18,(I ((x12.From.length:Int)))),(19,I 0)] [0,1,2] [(Qqg p0),(.own 1 [[(.mp 2)]]),(Qd4 y5)] hq (prr (prr (pc (rnd Qab) (pw (pw (pc (rnd Qbf) (pw (pw pn)))))))) (qb (lc (rnd Qan) (lc (rnd Qab) ln)) (qb (lc (.rn (Qjx rfl)) ln) (qc Qga qn)))) ?_
     refine Qbl (τ:=Int×(List (Int×Int))) (fun n t=>Qfd N k11 x12 n t.1 t.2=some r) (fun ⟨y16,y17⟩=>⟨mk 28 [(1,.ref 0 2 0 0),(3,.ref 1 1 0 0),(10,(Quc p0)),(11,(I ((p0.Elements.length:Int)))),(12,I y4),(17,(Q5o x12)),(18,(I ((x12.From.length:Int)))),(19,I y16)],[(Qqg p0),(.own 1 [[(.mp 2)]]),(Qd4 y17)]⟩) (fun t h=>by rw[Qfd] at h;cases h) (fun n20 ih t h=>?_) N (0,y5) h
     obtain⟨y16,y17⟩:=t
     rw[Qfd] at h
     skip
     refine wxz<|wsq ?_
     refine bfe h (fun hc21 h=>?_) fun hc21 h=>?_
     ·refine wft hc21<|Qam<|thn<|wsq<|Qao ?_
      obtain⟨x22,hg23,h⟩:=bno h
      obtain⟨hi24,hj25⟩:=gsm hg23
      refine wx tbk [(0,rp _ _)] ⟨aiq underlying116 Qql Qaw hi24 hj25,tv⟩ ?_
      exact wx1 tbk [(2,⟨[(.tmp 23,(.mp 2)),(.tmp 24,(.agg [I x22.Element,I x22.Outlet])),cb true],[(2,(Qd4 y17))],.any,[(2,(Qd4 (addQ y17 (x22.Element,x22.Outlet))))],false⟩)] ⟨Qww rfl underlying190 underlying120 Qx7 Qwj,tv⟩<|bln<|thn<|wxz1<|thn<|arm (mto (n:=28) [(1,.ref 0 2 0 0),(3,.ref 1 1 0 0),(10,(Quc p0)),(11,(I ((p0.Elements.length:Int)))),(12,I y4),(17,(Q5o x12)),(18,(I ((x12.From.length:Int)))),(19,(I (w64 (y16+1))))] [0,1,2] [(Qqg p0),(.own 1 [[(.mp 2)]]),(Qd4 (addQ y17 (x22.Element,x22.Outlet)))] hq (prr (prr (pc (rnd Qab) (pw (pw (pc (rnd Qbf) (pw (pw pn)))))))) (qb (lc (rnd Qan) (lc (rnd Qab) ln)) (qb (lc (.rn (Qjx rfl)) ln) (qc Qga qn)))) (ih (w64 (y16+1),addQ y17 (x22.Element,x22.Outlet)) h)
     ·exact wfn hc21<|Qa7<|Qau<|Qau<|Qa6 rfl<|bln<|thn<|⟨(y17),h,(mto (n:=28) [(1,.ref 0 2 0 0),(3,.ref 1 1 0 0),(10,(Quc p0)),(11,(I ((p0.Elements.length:Int)))),(12,I y4)] [0,1,2] [(Qqg p0),(.own 1 [[(.mp 2)]]),(Qd4 y17)] hq (prr (prr (pc (rnd Qab) (pw (pw pn))))) (qb (lc (rnd Qan) (lc (rnd Qab) ln)) (qb (lc (.rn (Qjx rfl)) ln) (qc Qga qn))))⟩
   ·exact wfn hc9<|Qa7<|Qau<|Qau<|Qa6 rfl<|thn<|⟨(y5),h,(mto (n:=28) [(1,.ref 0 2 0 0),(3,.ref 1 1 0 0)] [0,1,2] [(Qqg p0),(.own 1 [[(.mp 2)]]),(Qd4 y5)] hq (prr (prr pn)) (qb (lc (rnd Qan) (lc (rnd Qab) ln)) (qb (lc (.rn (Qjx rfl)) ln) (qc Qga qn))))⟩
def Qd1 (N:Nat) (y1:Int) (p2:(List (Int×Int))) (k8:Unit→Option (List Qbn)) (x14:Int):Nat→Int→Option (List Qbn)
  |0,_=>none
  |n19+1,y15=>
    bif (decide (y15<x14)) then
     bif (!(p2.contains (y1,y15))) then
      yld (⟨y1,y15⟩:Qbn)<|
      Qd1 N y1 p2 k8 x14 n19 (w64 (y15+1))
     else
      Qd1 N y1 p2 k8 x14 n19 (w64 (y15+1))
    else
     k8 ()
def Qfc (N:Nat) (p1:List Qaf) (p2:(List (Int×Int))):Nat→Int→Option (List Qbn)
  |0,_=>none
  |n5+1,y1=>
    bif (decide (y1<(p1.length:Int))) then
     Qbc (fun _=>
       Qfc N p1 p2 n5 (w64 (y1+1))) fun k8:Unit→Option (List Qbn)=>
     (getI p1 y1).bind fun x9=>
     (Qef N x9).bind fun x14=>
     Qd1 N y1 p2 k8 x14 N 0
    else
     some ([])
def Qlp (N:Nat) (_p0:List GRow) (p1:List Qaf) (p2:(List (Int×Int))):Option (List Qbn):=
  Qfc N p1 p2 N 0
abbrev Qub (p1:List Qaf):AV:=.dat 7 (p1.map Qae)
abbrev Qua (p0:List GRow) (p1:List Qaf):Slot:=.own 2 [[(.dat 5 (p0.map Qap)),(Qub p1)]]
def Qrd (y1 y15:Int):AV:=.agg [(I y1),(I y15)]
theorem Qqv (N:Nat) (p0:List GRow) (p1:List Qaf) (p2:(List (Int×Int))) (r:List Qbn) (h:Qlp N p0 p1 p2=some r):Qw8 prog 110 [(.ref 0 2 (0) 0),(.ref 1 1 (0) 0)] [(Qua p0 p1),(.own 1 [[(.mp 2)]]),(Qd4 p2)] (fun x=>[(.agg #[(.int .i64 x.Element),(.int .i64 x.Outlet)])]) r:=by
  refine Qxw func110 rfl rfl (fun X φ0 w0 l J hq hy=>?_)
  unfold Qlp at h
  refine wx tbk [(2,rp _ _)] ⟨alq 7 Qae p1 underlying40,tv⟩<|Qao ?_
  refine wmr (mto (n:=36) (l':=[(0,(.lit (.func (.yield l) #[] #[]))),(2,.ref 1 1 0 0),(9,(Qub p1)),(10,(I ((p1.length:Int)))),(11,I 0)]) (own':=[(Qua p0 p1),(.own 1 [[(.mp 2)]]),(Qd4 p2),(.far (J (some r)))]) [(0,(.lit (.func (.yield l) #[] #[]))),(2,.ref 1 1 0 0),(9,(Qub p1)),(10,(I ((p1.length:Int)))),(11,I 0)] [0,1,2,3] [(Qua p0 p1),(.own 1 [[(.mp 2)]]),(Qd4 p2),(.far (J (some r)))] hq (pw (prr (pc (rnd Qab) (pw (pw pn))))) (qb (lc (rnd Qan) (lc (rnd Qab) ln)) (qb (lc (.rn (Qjx rfl)) ln) (qc Qga (qc (.far _) qn))))) ?_
  refine Qbl (τ:=(Int)×List Qbn) (fun n t=>Qfc N p1 p2 n t.1=some t.2) (fun ⟨y1,q2⟩=>⟨mk 36 [(0,(.lit (.func (.yield l) #[] #[]))),(2,.ref 1 1 0 0),(9,(Qub p1)),(10,(I ((p1.length:Int)))),(11,I y1)],[(Qua p0 p1),(.own 1 [[(.mp 2)]]),(Qd4 p2),(.far (J (some q2)))]⟩) (fun t h=>by rw[Qfc] at h;cases h) (fun n5 ih t h=>?_) N ((0),r) h
  obtain⟨y1,q2⟩:=t
  rw[Qfc] at h
  try dsimp only at h
  refine wxz<|wsq ?_
  refine bfe h (fun hc6 h=>?_) fun hc6 h=>?_
  ·refine wft hc6<|Qam<|thn ?_
   obtain⟨k8,hk_k8,h⟩:=jko h
   refine wjn (τ:=(Unit)×List Qbn) (fun t=>k8 t.1=some t.2) (fun ⟨_,q7⟩=>⟨mk 36 [(0,(.lit (.func (.yield l) #[] #[]))),(2,.ref 1 1 0 0),(9,(Qub p1)),(10,(I ((p1.length:Int)))),(11,I y1)],[(Qua p0 p1),(.own 1 [[(.mp 2)]]),(Qd4 p2),(.far (J (some q7)))]⟩) (fun t h=>?_) ?_
   ·subst hk_k8
    obtain⟨_,q7⟩:=t
    exact wxz1<|thn<|arm (mto (n:=36) [(0,(.lit (.func (.yield l) #[] #[]))),(2,.ref 1 1 0 0),(9,(Qub p1)),(10,(I ((p1.length:Int)))),(11,(I (w64 (y1+1))))] [0,1,2,3] [(Qua p0 p1),(.own 1 [[(.mp 2)]]),(Qd4 p2),(.far (J (some q7)))] hq (pw (prr (pc (rnd Qab) (pw (pw pn))))) (qb (lc (rnd Qan) (lc (rnd Qab) ln)) (qb (lc (.rn (Qjx rfl)) ln) (qc Qga (qc (.far _) qn))))) (ih ((w64 (y1+1)),q7) h)
   ·skip
    refine Qao ?_
    obtain⟨x9,hg10,h⟩:=bno h
    obtain⟨hi11,hj12⟩:=gsm hg10
    refine wx tbk [(1,rp _ _)] ⟨aiq underlying40 Qkd Qae hi11 hj12,tv⟩ ?_
    obtain⟨x14,hf13,h⟩:=bno h
    refine wx tbk [(1,rp _ _)] ⟨apw Q7d (Qjk N x9 _ hf13),tv⟩<|Qao ?_
    refine wmr (mto (n:=36) (l':=[(0,(.lit (.func (.yield l) #[] #[]))),(2,.ref 1 1 0 0),(4,I y1),(9,(Qub p1)),(10,(I ((p1.length:Int)))),(11,I y1),(17,I x14),(18,I 0)]) (own':=[(Qua p0 p1),(.own 1 [[(.mp 2)]]),(Qd4 p2),(.far (J (some q2)))]) [(0,(.lit (.func (.yield l) #[] #[]))),(2,.ref 1 1 0 0),(4,I y1),(9,(Qub p1)),(10,(I ((p1.length:Int)))),(11,I y1),(17,I x14),(18,I 0)] [0,1,2,3] [(Qua p0 p1),(.own 1 [[(.mp 2)]]),(Qd4 p2),(.far (J (some q2)))] hq (pw (prr (pw (pc (rnd Qab) (pw (pw (pw (pw pn)))))))) (qb (lc (rnd Qan) (lc (rnd Qab) ln)) (qb (lc (.rn (Qjx rfl)) ln) (qc Qga (qc (.far _) qn))))) ?_
    refine Qbl (τ:=(Int)×List Qbn) (fun n t=>Qd1 N y1 p2 k8 x14 n t.1=some t.2) (fun ⟨y15,q16⟩=>⟨mk 36 [(0,(.lit (.func (.yield l) #[] #[]))),(2,.ref 1 1 0 0),(4,I y1),(9,(Qub p1)),(10,(I ((p1.length:Int)))),(11,I y1),(17,I x14),(18,I y15)],[(Qua p0 p1),(.own 1 [[(.mp 2)]]),(Qd4 p2),(.far (J (some q16)))]⟩) (fun t h=>by rw[Qd1] at h;cases h) (fun n19 ih t h=>?_) N ((0),q2) h
    obtain⟨y15,q16⟩:=t
    rw[Qd1] at h
    try dsimp only at h
    refine wxz<|wsq ?_
    refine bfe h (fun hc20 h=>?_) fun hc20 h=>?_
    ·refine wft hc20<|Qam<|thn<|wsq<|Qao<|wxz ?_
     refine wx tbk [(2,rp _ _)] ⟨Qaz (vs:=[I y1,I y15]) rfl Zb7 Qud rfl (by rfl) rfl,tv⟩ ?_
     refine bfe h (fun hb21 h=>?_) fun hb21 h=>?_
     ·obtain⟨q22,hy_,hq_⟩:=Q3o h
      clear h
      subst hq_
      have h:=hy_
      clear hy_
      refine Quu 7 [rb [(.tmp 2,.ref 1 1 0 0)] [(1,(.own 1 [[(.mp 2)]]))] (.mp 2),rb [(.tmp 7,.ref 4 2 0 0)] [(4,.own 2 [[I y1,I y15]])] (Qrd y1 y15),rb [(.tmp 24,(.mp 2)),(.tmp 25,(Qrd y1 y15))] [(2,(Qd4 p2))] (B (p2.contains (y1,y15))),rp [(.tmp 26,(B (p2.contains (y1,y15))))] (B ((!(p2.contains (y1,y15))))),rp [(.tmp 27,(B ((!(p2.contains (y1,y15))))))] (B true),rp [(.tmp 28,B true),(.tmp 0,(.lit (.func (.yield l) #[] #[])))] (.lit (.func (.yield l) #[] #[])),rb [(.tmp 28,B true),(.tmp 7,.ref 4 2 0 0)] [(4,.own 2 [[I y1,I y15]])] (Qrd y1 y15),⟨[(.tmp 28,B true),(.tmp 29,(.lit (.func (.yield l) #[] #[]))),(.tmp 30,(Qrd y1 y15))],[(3,(.far (J (some ((⟨y1,y15⟩:Qbn)::q22)))))],B true,[(3,(.far (J (some q22))))],false⟩,rp [(.tmp 28,B true),(.tmp 31,B true)] (B false),rp [(.tmp 28,B true),(.tmp 32,B false),cb false] (B false)] [rb [(.tmp 2,.ref 1 1 0 0)] [(1,(.own 1 [[(.mp 2)]]))] (.mp 2),rb [(.tmp 7,.ref 4 2 0 0)] [(4,.own 2 [[I y1,I y15]])] (Qrd y1 y15),rb [(.tmp 24,(.mp 2)),(.tmp 25,(Qrd y1 y15))] [(2,(Qd4 p2))] (B (p2.contains (y1,y15))),rp [(.tmp 26,(B (p2.contains (y1,y15))))] (B ((!(p2.contains (y1,y15))))),rp [(.tmp 27,(B ((!(p2.contains (y1,y15))))))] (B true),rp [(.tmp 28,B true),(.tmp 0,(.lit (.func (.yield l) #[] #[])))] (.lit (.func (.yield l) #[] #[])),rb [(.tmp 28,B true),(.tmp 7,.ref 4 2 0 0)] [(4,.own 2 [[I y1,I y15]])] (Qrd y1 y15),⟨[(.tmp 28,B true),(.tmp 29,(.lit (.func (.yield l) #[] #[]))),(.tmp 30,(Qrd y1 y15))],[(3,(.far (J (some ((⟨y1,y15⟩:Qbn)::q22)))))],B false,[(3,(.far (J none)))],false⟩,rp [(.tmp 28,B true),(.tmp 31,B false)] (B true),rp [(.tmp 28,B true),(.tmp 32,B true),cb false] (B true)] (by exact⟨by kernel_rfl,by kernel_rfl⟩) (by exact⟨by kernel_rfl,by kernel_rfl⟩) rfl rfl rfl rfl (Q27 (Qq4 (rd':=(.tmp 29,.lit (.func (.yield l) #[] #[]))::[(.tmp 30,.lit (.agg #[(.int .i64 ((⟨y1,y15⟩:Qbn).Element)),(.int .i64 ((⟨y1,y15⟩:Qbn).Outlet))]))]) ⟨rfl,lrf,rfl,(Less.lits [(.int .i64 y1),(.int .i64 y15)]),tv⟩ (Qpi (x:=(⟨y1,y15⟩:Qbn)) (rest:=q22) rfl rfl hy rfl))) (⟨fun _ _=>ald rfl Zml (by decide) rfl (nle rfl) rfl,fun _ _=>ald rfl Qql (by decide) rfl (nle rfl) rfl,fun _ _=>Qoc rfl underlying190 underlying120 zb4 Qx7 Qwj,fun _ _=>Qmk rfl,fun _ _=>asb hb21 (amv rfl),fun _ _=>ag_ (amv rfl),fun _ _=>ag_ (ald rfl Qql (by decide) rfl (nle rfl) rfl),fun _ h=>absurd rfl h,fun _ _=>ag_ (Qmk rfl),fun _ _=>apk rfl rfl,tv⟩) (⟨fun _ _=>ald rfl Zml (by decide) rfl (nle rfl) rfl,fun _ _=>ald rfl Qql (by decide) rfl (nle rfl) rfl,fun _ _=>Qoc rfl underlying190 underlying120 zb4 Qx7 Qwj,fun _ _=>Qmk rfl,fun _ _=>asb hb21 (amv rfl),fun _ _=>ag_ (amv rfl),fun _ _=>ag_ (ald rfl Qql (by decide) rfl (nle rfl) rfl),fun _ h=>absurd rfl h,fun _ _=>ag_ (Qmk rfl),fun _ _=>apk rfl rfl,tv⟩) ?_ ?_
      ·skip
       exact wfa<|Qam<|bln<|thn<|wxz1<|thn<|arm (mto (n:=36) [(0,(.lit (.func (.yield l) #[] #[]))),(2,.ref 1 1 0 0),(4,I y1),(9,(Qub p1)),(10,(I ((p1.length:Int)))),(11,I y1),(17,I x14),(18,(I (w64 (y15+1))))] [0,1,2,3] [(Qua p0 p1),(.own 1 [[(.mp 2)]]),(Qd4 p2),(.far (J (some q22)))] hq (pw (prr (pw (pc (rnd Qab) (pw (pw (pw (pw pn)))))))) (qb (lc (rnd Qan) (lc (rnd Qab) ln)) (qb (lc (.rn (Qjx rfl)) ln) (qc Qga (qc (.far _) qn))))) (ih ((w64 (y15+1)),q22) h)
      ·clear h
       refine wtr<|Qai<|Qar<|Qaj<|Qaj<|Qar<|Qar<|Qaj<|Qaj<|Qar ?_
       exact Or.inr (by kernel_rfl)
     ·exact wx tbk [(2,rb [(.tmp 24,(.mp 2)),(.tmp 25,(Qrd y1 y15))] [(2,(Qd4 p2))] (B (p2.contains (y1,y15)))),(4,rp [(.tmp 27,(B ((!(p2.contains (y1,y15))))))] (B false))] ⟨Qoc rfl underlying190 underlying120 zb4 Qx7 Qwj,asb hb21 (amv rfl),tv⟩<|wfa<|Qam<|bln<|thn<|wxz1<|thn<|arm (mto (n:=36) [(0,(.lit (.func (.yield l) #[] #[]))),(2,.ref 1 1 0 0),(4,I y1),(9,(Qub p1)),(10,(I ((p1.length:Int)))),(11,I y1),(17,I x14),(18,(I (w64 (y15+1))))] [0,1,2,3] [(Qua p0 p1),(.own 1 [[(.mp 2)]]),(Qd4 p2),(.far (J (some q16)))] hq (pw (prr (pw (pc (rnd Qab) (pw (pw (pw (pw pn)))))))) (qb (lc (rnd Qan) (lc (rnd Qab) ln)) (qb (lc (.rn (Qjx rfl)) ln) (qc Qga (qc (.far _) qn))))) (ih ((w64 (y15+1)),q16) h)
    ·exact wfn hc20<|Qa7<|Qau<|Qau<|Qa6 rfl<|bln<|thn<|⟨((),q16),h,(mto (n:=36) [(0,(.lit (.func (.yield l) #[] #[]))),(2,.ref 1 1 0 0),(9,(Qub p1)),(10,(I ((p1.length:Int)))),(11,I y1)] [0,1,2,3] [(Qua p0 p1),(.own 1 [[(.mp 2)]]),(Qd4 p2),(.far (J (some q16)))] hq (pw (prr (pc (rnd Qab) (pw (pw pn))))) (qb (lc (rnd Qan) (lc (rnd Qab) ln)) (qb (lc (.rn (Qjx rfl)) ln) (qc Qga (qc (.far _) qn)))))⟩
  ·refine wfn hc6<|Qa7<|Qau<|Qau<|Qa6 rfl ?_
   obtain rfl:=osi h
   exact Or.inl rfl
def Qbt (N:Nat) (k3:(List Qbn)→Option (List Qbn)):(List Qbn)→(List Qbn)→Option (List Qbn)
  |[],y6=>
    k3 (y6)
  |x9::q10,y6=>
    chk (decide ((y6.length+([x9]).length)*16≤140737488355328))<|
    Qbt N k3 q10 (y6++([x9]))
def Qdk (N:Nat) (p0:List GRow) (p1:List Qaf) (p2:(List (Int×Int))):Option (List Qbn):=
  Qbc (fun y2=>
    some y2) fun k3:(List Qbn)→Option (List Qbn)=>
  (Qlp N p0 p1 p2).bind fun q4=>
  Qbt N k3 q4 ([])
abbrev Zl3:AV:=.fn (.func 110) [] [(.ref 0 2 (0) 0),(.ref 1 1 (0) 0)]
abbrev Zge (p0:List GRow) (p1:List Qaf):Slot:=.own 2 [[(.dat 5 (p0.map Qap)),(.dat 7 (p1.map Qae))]]
theorem Qh6 (N:Nat) (p0:List GRow) (p1:List Qaf) (p2:(List (Int×Int))) (r:List Qbn) (h:Qdk N p0 p1 p2=some r):Spec prog 111 [nilS,Zl3] [(Zge p0 p1),(.own 1 [[(.mp 2)]]),(Qd4 p2)] (.dat 2 (r.map Qaw)) [.dead,.dead,.dead]:=by
  refine sF func111 3 fun _ _ _ hq hd0=>?_
  unfold Qdk at h
  refine wxz ?_
  obtain⟨k3,hk_k3,h⟩:=jko h
  refine wjn (τ:=(List Qbn)) (fun t=>k3 t=some r) (fun y2=>⟨mk 13 [(2,.ref 3 1 0 0)],[.dead,.dead,.dead,(.own 1 [[(.acc 4 120 2 (y2.map Qaw))]]),.tok]⟩) (fun y2 h=>?_) ?_
  ·subst hk_k3
   refine wxz<|wmr (mto (n:=13) (l':=[(4,(.dat 2 (y2.map Qaw)))]) (own':=[.dead,.dead,.dead]) [(4,(.acc 4 120 2 (y2.map Qaw)))] [0,1,2] [.dead,.dead,.dead] hq (pc (.dat _ _ _ _ (Qay Qbf _)) pn) (qc .dead (qc .dead (qc .dead qn))))<|Qai ?_
   obtain rfl:=osi h
   exact⟨_,Mor.rfl,fio [(.dat 2 (y2.map Qaw))] ⟨rot,tv⟩⟩
  ·skip
   refine wxz<|Qao ?_
   obtain⟨q4,hL5,h⟩:=bno h
   refine wmr (mto (n:=13) (l':=[(2,.ref 3 1 0 0),(6,Zl3)]) (own':=[(Zge p0 p1),(.own 1 [[(.mp 2)]]),(Qd4 p2),(.own 1 [[nilS]])]) [(2,.ref 3 1 0 0),(6,Zl3)] [0,1,2,3] [(Zge p0 p1),(.own 1 [[(.mp 2)]]),(Qd4 p2),(.own 1 [[nilS]])] hq (prr (pc (.rn (Qbj rn0 (rnc (rqr rfl) (rnc (rqr rfl) rn0)))) pn)) (qb (lc (rnd Qan) (lc (rnd Qab) ln)) (qb (lc (.rn (Qjx rfl)) ln) (qc Qga (qb (lc rwl ln) qn))))) ?_
   refine wmr (Qn4 (n:=4) (ty:=120) (m:=2) (q:=3) (mq:=1) (c:=[nilS]) 0 (by kernel_rfl) (by kernel_rfl) (by kernel_rfl) (by decide)) ?_
   refine Qyd (τ:=((List Qbn))) (kb:=4) (caps:=[.ref 0 2 0 0,.ref 1 1 0 0]) (σr:=[(Zge p0 p1),(.own 1 [[(.mp 2)]]),(Qd4 p2)]) (encs:=fun x=>[(.agg #[(.int .i64 x.Element),(.int .i64 x.Outlet)])]) (fun x=>[(.agg [I x.Element,I x.Outlet])]) [0,1,2] (fun n hn=>hq n (Nat.le_trans (nle rfl) hn)) hd0 (Qqv N p0 p1 p2 _ hL5) Ziv (by kernel_rfl) (by kernel_rfl) (Qbr (rnc (Qbb rfl) (rnc (Qbb rfl) rn0))) (slc (Qaq (rnc (pld Qan) (rnc (pld Qab) rn0))) (slc (Qaq (rnc (Zk2 rfl) rn0)) (slc Qun Qas))) (by kernel_rfl) (fun _=>rfl) (fun x=>⟨(Less.unlits [(.int .i64 x.Element),(.int .i64 x.Outlet)]),tv⟩) (Zk8 (Qup (NLt.ref _ _ _ _ (by decide)) (Qup (NLt.fn _ _ _ nl0 (nlc (NLt.ref _ _ _ _ (by decide)) (nlc (NLt.ref _ _ _ _ (by decide)) nl0))) Zc9))) (fun y6=>[.dead,.dead,.dead,(.own 1 [[(.acc 4 120 2 (y6.map Qaw))]]),.tok]) (fun _=>rfl) (fun _=>rfl) (fun l t=>Qbt N k3 l t=some r) ([]) h (by kernel_rfl) ?_ ?_
   ·intro l11 o12 X15 φ16 w17 hφ14 x9 q10 y6 h
    rw[Qbt] at h
    refine wxz1 ?_
    refine⟨by kernel_rfl,fun o13=>?_⟩
    refine Qao ?_
    obtain⟨ha18,h⟩:=cko h
    refine wx1 tbk [(2,rp [(.tmp 9,(.agg [I x9.Element,I x9.Outlet]))] (.dat 2 (([x9]:List Qbn).map Qaw))),(3,⟨[(.tmp 8,(.acc 4 120 2 (y6.map Qaw))),(.tmp 10,(.dat 2 (([x9]:List Qbn).map Qaw)))],[(4,.tok),(7,.unused)],(.acc 7 120 2 ((y6++([x9]):List Qbn).map Qaw)),[(4,.dead),(7,.tok)],false⟩)] ⟨Qbm (vs:=[(.agg [I x9.Element,I x9.Outlet])]) rfl underlying116 Qql Qud rfl (by decide) rfl (by decide) (by rfl) (by rfl) (by rfl) rfl,Qc7 rfl underlying116 Zgp (Base.acc _ _) rfl rfl (by rfl) (Qf7 Qaw ha18) (Qf6 Qaw ha18 (by decide)) (Qf5 Qaw) rfl rfl,tv⟩<|bln ?_
    exact⟨(y6++([x9])),h,Zk4 (own':=[.dead,.dead,.dead,(.own 1 [[(.acc 4 120 2 (((y6++([x9])):List Qbn).map Qaw))]]),.tok,(.far (farL l11 o13))]) [0,1,2,3,7,5] [.dead,.dead,.dead,(.own 1 [[(.acc 7 120 2 ((y6++([x9]):List Qbn).map Qaw))]]),.tok,(.far (farL l11 o13))] (by kernel_rfl) (by kernel_rfl) ⟨.dead,.dead,.dead,(spb (lc (.rn (Qa3 rfl (Qay Qbf _))) ln)),.tok,.far _,tv⟩⟩
   ·intro y6 h
    rw[Qbt] at h
    exact bln<|thn<|⟨(y6),h,(mto (n:=13) [(2,.ref 3 1 0 0)] [0,1,2,3,4] [.dead,.dead,.dead,(.own 1 [[(.acc 4 120 2 (y6.map Qaw))]]),.tok] hq (prr pn) (qc .dead (qc .dead (qc .dead (qb (lc (.rn (Qa3 rfl (Qay Qbf _))) ln) (qc .tok qn))))))⟩
def Qgl (N:Nat) (p0:List GRow) (p1:List Qaf) (p2:(List (Int×Int))):Option (List Qbn):=
  (Qdk N p0 p1 p2).bind fun x3=>
  some x3
abbrev Zqb:AV:=.fn (.func 110) [] [(.ref 0 2 (0) 0),(.ref 1 1 (0) 0)]
def Zgf (x3:List Qbn):AV:=.dat 2 (x3.map Qaw)
theorem Qk5 (N:Nat) (p0:List GRow) (p1:List Qaf) (p2:(List (Int×Int))) (r:List Qbn) (h:Qgl N p0 p1 p2=some r):Spec prog 89 [Zqb] [(.own 2 [[(.dat 5 (p0.map Qap)),(.dat 7 (p1.map Qae))]]),(.own 1 [[(.mp 2)]]),(Qd4 p2)] (.dat 2 (r.map Qaw)) [.dead,.dead,.dead]:=by
  refine sF func89 3 fun _ _ _ hq hd0=>?_
  unfold Qgl at h
  refine wxz ?_
  obtain⟨x3,hf2,h⟩:=bno h
  refine wx tbk [(1,⟨_,_,_,_,false⟩)] ⟨acq [nilS,Zqb] [(.own 2 [[(.dat 5 (p0.map Qap)),(.dat 7 (p1.map Qae))]]),(.own 1 [[(.mp 2)]]),(Qd4 p2)] [.dead,.dead,.dead] (Zgf x3) [0,1,2] Ziu (Qh6 N p0 p1 p2 _ hf2) (Qbr (rnc (.plain _ nll) (rnc (Qbj rn0 (rnc (Qa0 rfl) (rnc (Qa0 rfl) rn0))) rn0))) (slc (Qaq (rnc (pld Qan) (rnc (pld Qab) rn0))) (slc (Qaq (rnc (Zk1 rfl) rn0)) (slc Qun Qas))) (slc .dead (slc .dead (slc .dead Qas))) (pld Qbf),tv⟩ ?_
  refine wmr (mto (n:=5) (l':=[(2,(Zgf x3))]) (own':=[.dead,.dead,.dead]) [(2,(Zgf x3))] [0,1,2] [.dead,.dead,.dead] hq (pc (rnd Qbf) pn) (qc .dead (qc .dead (qc .dead qn))))<|Qai ?_
  obtain rfl:=osi h
  exact⟨_,Mor.rfl,fio [(Zgf x3)] ⟨rot,tv⟩⟩
def Qs5 (N:Nat) (p0:GNet):Option ((List Qbn)×Int):=
  (Qgq N p0).bind fun x2=>
  bif (!x2) then
   some ([],1)
  else
   (Qlq N p0).bind fun x5=>
   (Qgl N p0.Table p0.Elements x5).bind fun x7=>
   some (x7,0)
def Zsq (p0:GNet):AV:=.agg [(.dat 5 (p0.Table.map Qap)),(.dat 7 (p0.Elements.map Qae))]
def Zqc:AV:=.fn (.func 110) [] [(.ref 1 2 (0) 0),(.ref 2 1 (0) 0)]
def Zqd (p0:GNet):Slot:=.own 2 [[(.dat 5 (p0.Table.map Qap)),(.dat 7 (p0.Elements.map Qae))]]
theorem Qzl (N:Nat) (p0:GNet) (r:((List Qbn)×Int)) (h:Qs5 N p0=some r):Spec prog 47 [(.agg (Qgw p0))] [] (.tup [(.dat 2 (r.1.map Qaw)),(I r.2)]) []:=by
  refine sA func47 0 fun _ _ _ hq hd0=>?_
  unfold Qs5 at h
  refine wxz<|wsq ?_
  obtain⟨x2,hf1,h⟩:=bno h
  refine wx tbk [(1,rp _ _)] ⟨apw Q4k (Qj3 N p0 _ hf1),tv⟩ ?_
  refine bfe h (fun hc3 h=>?_) fun hc3 h=>?_
  ·refine wft hc3<|wxz<|Qai<|Qaj ?_
   obtain rfl:=osi h
   exact fie [(.dat 2 (([]:List Qbn).map Qaw)),I 1] ⟨Qbz (v:=nilS) rot Less.nil,rot,tv⟩
  ·refine wfn hc3<|Qam<|thn ?_
   obtain⟨x5,hf4,h⟩:=bno h
   obtain⟨x7,hf6,h⟩:=bno h
   refine wx tbk [(1,⟨_,_,_,_,false⟩),(2,⟨_,_,_,_,false⟩)] ⟨acq [(Zsq p0)] [] [(Zqd p0),(.own 1 [[(.mp 3)]]),(Qd4 x5)] Zqc [1,2,3] Znw (Qqw N p0 _ hf4) (Qbr (rnc (.plain _ (NLt.agg _ (nlc (nld Qan _) (nlc (nld Qab _) nl0)))) rn0)) Qas (slc (Qaq (rnc (pld Qan) (rnc (pld Qab) rn0))) (slc (Qaq (rnc (Zk2 rfl) rn0)) (slc Qun Qas))) (Qbj rn0 (rnc (Qbb rfl) (rnc (Qbb rfl) rn0))),acq [Zqc] [(Zqd p0),(.own 1 [[(.mp 3)]]),(Qd4 x5)] [.dead,.dead,.dead] (.dat 2 (x7.map Qaw)) [1,2,3] Znq (Qk5 N p0.Table p0.Elements x5 _ hf6) (Qbr (rnc (Qbj rn0 (rnc (Qa0 rfl) (rnc (Qa0 rfl) rn0))) rn0)) (slc (Qaq (rnc (pld Qan) (rnc (pld Qab) rn0))) (slc (Qaq (rnc (Zk1 rfl) rn0)) (slc Qun Qas))) (slc .dead (slc .dead (slc .dead Qas))) (pld Qbf),tv⟩<|Qai ?_
   obtain rfl:=osi h
   exact fie [(.dat 2 (x7.map Qaw)),I 0] ⟨rot,rot,tv⟩
end
section
def Qku (N:Nat) (p0:Int):Option Bool:=
  (Qcp N p0 0 1000000000000).bind fun x2=>
  some x2
theorem Qs2 (N:Nat) (p0:Int) (r:Bool) (h:Qku N p0=some r):Spec prog 109 [(I p0)] [] (B r) []:=by
  refine sA func109 0 fun _ _ _ hq hd0=>?_
  unfold Qku at h
  refine wxz ?_
  obtain⟨x2,hf1,h⟩:=bno h
  exact wx tbk [(1,rp _ _)] ⟨apw Qmi (Qdl N p0 0 1000000000000 _ hf1),tv⟩<|Qai<|frb h
def Qhq (N:Nat) (p0:Int):Option Bool:=
  (Qku N p0).bind fun x3=>
  some (!x3)
abbrev Zgc:Slot:=.own 1 [[(.fn (.func 109) [] [])]]
theorem Qp6 (N:Nat) (p0:Int) (r:Bool) (h:Qhq N p0=some r):Spec prog 128 [(I p0),(.ref 0 1 (0) 0)] [Zgc] (B r) [Zgc]:=by
  refine sF func128 1 fun _ _ _ hq hd0=>?_
  unfold Qhq at h
  refine wxz ?_
  obtain⟨x3,hf2,h⟩:=bno h
  refine wx tbk [(2,rp _ _)] ⟨apw Ziw (Qs2 N p0 _ hf2),tv⟩ ?_
  refine wmr (mto (n:=8) (l':=[(3,(B ((!x3))))]) (own':=[Zgc]) [(3,(B ((!x3))))] [0] [Zgc] hq (pw pn) (qb (lc (.rn (Qbj rn0 rn0)) ln) qn))<|Qai ?_
  obtain rfl:=osi h
  exact⟨_,Mor.rfl,fio [(B ((!x3)))] ⟨rot,tv⟩⟩
def Qb6 (N:Nat) (p0:List Int) (k2:Unit→Option Int):Nat→Int→Option Int
  |0,_=>none
  |n5+1,y3=>
    bif (decide (y3<(p0.length:Int))) then
     (getI p0 y3).bind fun x7=>
     (Qhq N x7).bind fun x12=>
     bif x12 then
      some y3
     else
      Qb6 N p0 k2 n5 (w64 (y3+1))
    else
     k2 ()
def Qeq (N:Nat) (p0:List Int):Option Int:=
  Qbc (fun _=>
    some (-1)) fun k2:Unit→Option Int=>
  Qb6 N p0 k2 N 0
abbrev Za7:AV:=.fn (.func 128) [] [(.ref 0 1 (0) 0)]
abbrev Qrc:Slot:=.own 1 [[(.fn (.func 109) [] [])]]
theorem Qk2 (N:Nat) (p0:List Int) (r:Int) (h:Qeq N p0=some r):Spec prog 141 [(.dat 1 (p0.map Qac)),Za7] [Qrc] (I r) [Qrc]:=by
  refine sF func141 1 fun _ _ _ hq hd0=>?_
  unfold Qeq at h
  refine wxz ?_
  obtain⟨k2,hk_k2,h⟩:=jko h
  refine wjn (τ:=Unit) (fun t=>k2 t=some r) (fun _=>⟨mk 19 [],[Qrc]⟩) (fun t h=>?_) ?_
  ·subst hk_k2
   refine wxz<|wmr (mto (n:=19) (l':=[(4,(I ((-1))))]) (own':=[Qrc]) [(4,(I ((-1))))] [0] [Qrc] hq (pw pn) (qb (lc (.rn (Qbj rn0 rn0)) ln) qn))<|Qai ?_
   obtain rfl:=osi h
   exact⟨_,Mor.rfl,fio [(I ((-1)))] ⟨rot,tv⟩⟩
  ·skip
   refine wx tbk [(1,rp _ _)] ⟨alq 1 Qac p0 underlying27,tv⟩<|Qao ?_
   refine wmr (mto (n:=19) (l':=[(0,(.dat 1 (p0.map Qac))),(1,Za7),(7,(I ((p0.length:Int)))),(8,I 0)]) (own':=[Qrc]) [(0,(.dat 1 (p0.map Qac))),(1,Za7),(7,(I ((p0.length:Int)))),(8,I 0)] [0] [Qrc] hq (pc (rnd Qah) (pc (.rn (Qbj rn0 (rnc (rqr rfl) rn0))) (pw (pw pn)))) (qb (lc (.rn (Qbj rn0 rn0)) ln) qn)) ?_
   refine Qbl (τ:=Int) (fun n t=>Qb6 N p0 k2 n t=some r) (fun y3=>⟨mk 19 [(0,(.dat 1 (p0.map Qac))),(1,Za7),(7,(I ((p0.length:Int)))),(8,I y3)],[Qrc]⟩) (fun t h=>by rw[Qb6] at h;cases h) (fun n5 ih y3 h=>?_) N (0) h
   rw[Qb6] at h
   skip
   refine wxz<|wsq ?_
   refine bfe h (fun hc6 h=>?_) fun hc6 h=>?_
   ·refine wft hc6<|Qam<|thn<|wsq<|Qao<|wxz ?_
    obtain⟨x7,hg8,h⟩:=bno h
    obtain⟨hi9,hj10⟩:=gsm hg8
    obtain⟨x12,hf11,h⟩:=bno h
    refine wx tbk [(3,rp _ _),(5,⟨_,_,_,_,false⟩)] ⟨aiq underlying27 ti3 Qac hi9 hj10,Qdp (first:=[]) (cap:=[.ref 0 1 0 0]) (vs:=[I x7]) (σr:=[Qrc]) (σr':=[Qrc]) (res':=(B x12)) [0] rfl Q7a (Qp6 N x7 _ hf11) rfl (Qbr (rnc (.plain _ nll) (rnc (Qa0 rfl) rn0))) (slc (Qaq (rnc (.plain _ (NLt.fn _ _ _ nl0 nl0)) rn0)) Qas) (slc (Qaq (rnc (.plain _ (NLt.fn _ _ _ nl0 nl0)) rn0)) Qas) (.plain _ nll) rfl rfl rfl,tv⟩ ?_
    refine bfe h (fun hc13 h=>?_) fun hc13 h=>?_
    ·refine wft hc13<|wxz ?_
     refine wmr (mto (n:=19) (l':=[(4,I y3)]) (own':=[Qrc]) [(4,I y3)] [0] [Qrc] hq (pw pn) (qb (lc (.rn (Qbj rn0 rn0)) ln) qn))<|Qai<|Qar<|Qaj<|Qaj<|Qar<|Qaj ?_
     obtain rfl:=osi h
     exact⟨_,Mor.rfl,fio [I y3] ⟨rot,tv⟩⟩
    ·exact wfn hc13<|Qam<|bln<|thn<|wxz1<|thn<|arm (mto (n:=19) [(0,(.dat 1 (p0.map Qac))),(1,Za7),(7,(I ((p0.length:Int)))),(8,(I (w64 (y3+1))))] [0] [Qrc] hq (pc (rnd Qah) (pc (.rn (Qbj rn0 (rnc (rqr rfl) rn0))) (pw (pw pn)))) (qb (lc (.rn (Qbj rn0 rn0)) ln) qn)) (ih (w64 (y3+1)) h)
   ·exact wfn hc6<|Qa7<|Qau<|Qau<|Qa6 rfl<|thn<|⟨(),h,(mto (n:=19) [] [0] [Qrc] hq pn (qb (lc (.rn (Qbj rn0 rn0)) ln) qn))⟩
def Qc3 (N:Nat) (p0:List Int):Option Bool:=
  (Qeq N p0).bind fun x3=>
  some (decide (x3≥0))
abbrev Zp7:AV:=.fn (.func 128) [] [(.ref 0 1 (0) 0)]
abbrev Q72:Slot:=.own 1 [[(.fn (.func 109) [] [])]]
theorem Qjt (N:Nat) (p0:List Int) (r:Bool) (h:Qc3 N p0=some r):Spec prog 126 [(.dat 1 (p0.map Qac)),Zp7] [Q72] (B r) [Q72]:=by
  refine sF func126 1 fun _ _ _ hq hd0=>?_
  unfold Qc3 at h
  refine wxz ?_
  obtain⟨x3,hf2,h⟩:=bno h
  refine wx tbk [(2,⟨_,_,_,_,false⟩)] ⟨acq [(.dat 1 (p0.map Qac)),Zp7] [Q72] [Q72] (I x3) [0] Qr8 (Qk2 N p0 _ hf2) (Qbr (rnc (pld Qah) (rnc (Qbj rn0 (rnc (Qa0 rfl) rn0)) rn0))) (slc (Qaq (rnc (.plain _ (NLt.fn _ _ _ nl0 nl0)) rn0)) Qas) (slc (Qaq (rnc (.plain _ (NLt.fn _ _ _ nl0 nl0)) rn0)) Qas) (.plain _ nll),tv⟩ ?_
  refine wmr (mto (n:=9) (l':=[(4,(B ((decide (x3≥0)))))]) (own':=[Q72]) [(4,(B ((decide (x3≥0)))))] [0] [Q72] hq (pw pn) (qb (lc (.rn (Qbj rn0 rn0)) ln) qn))<|Qai ?_
  obtain rfl:=osi h
  exact⟨_,Mor.rfl,fio [(B ((decide (x3≥0))))] ⟨rot,tv⟩⟩
def Qj2 (N:Nat) (p0:List Int):Option Bool:=
  (Qc3 N p0).bind fun x2=>
  some (!x2)
def Zp8:AV:=.fn (.func 128) [] [(.ref 0 1 (0) 0)]
def Zp9:Slot:=.own 1 [[(.fn (.func 109) [] [])]]
theorem Qrw (N:Nat) (p0:List Int) (r:Bool) (h:Qj2 N p0=some r):Spec prog 108 [(.dat 1 (p0.map Qac)),(.fn (.func 109) [] [])] [] (B r) []:=by
  refine sA func108 0 fun _ _ _ hq hd0=>?_
  unfold Qj2 at h
  refine wxz ?_
  obtain⟨x2,hf1,h⟩:=bno h
  refine wx tbk [(1,rp [(.tmp 3,.ref 0 1 0 0)] Zp8),(2,⟨_,_,_,_,false⟩)] ⟨Qfv (fs:=[]) (cs:=[.ref 0 1 0 0]) rfl rfl rfl rfl,acq [(.dat 1 (p0.map Qac)),Zp8] [Zp9] [Zp9] (B x2) [0] Qr9 (Qjt N p0 _ hf1) (Qbr (rnc (pld Qah) (rnc (Qbj rn0 (rnc (Qa0 rfl) rn0)) rn0))) (slc (Qaq (rnc (.plain _ (NLt.fn _ _ _ nl0 nl0)) rn0)) Qas) (slc (Qaq (rnc (.plain _ (NLt.fn _ _ _ nl0 nl0)) rn0)) Qas) (.plain _ nll),tv⟩<|Qai ?_
  obtain rfl:=osi h
  exact fend ⟨[(B ((!x2)))],⟨rot,tv⟩,rfl⟩ nll
def Qjj (N:Nat) (p0:GNet) (p1:List Int):Option Int:=
  (Qgq N p0).bind fun x2=>
  bif (!x2) then
   some 1
  else
   bif ((p1.length:Int) != (p0.Elements.length:Int)) then
    some 1
   else
    (Qj2 N p1).bind fun x6=>
    bif (!x6) then
     some 1
    else
     some 0
def Zsp (p0:GNet):AV:=.dat 5 (p0.Table.map Qap)
def Zqa (p0:GNet):AV:=.dat 7 (p0.Elements.map Qae)
def Zl1 (p0:GNet) (x2:Bool):List (Nat×Rec):=[(1,rp [fu 66,((.tmp 5),(.agg [(Zsp p0),(Zqa p0)]))] (B x2))]
def Zl0 p0 x2 (p1:List Int):=hcat (Zl1 p0 x2) [(3,rp [((.tmp 7),(B ((!x2))))] (B false)),(5,rp [((.tmp 8),(B false)),((.tmp 9),(.dat 1 (p1.map Qac)))] (I ((p1.length:Int)))),(8,rp [((.tmp 8),(B false)),((.tmp 12),(Zqa p0))] (I ((p0.Elements.length:Int))))]
theorem Qpb (N:Nat) (p0:GNet) (p1:List Int) (r:Int) (h:Qjj N p0 p1=some r):Spec prog 73 [(.agg (Qgw p0)),(.dat 1 (p1.map Qac))] [] (I r) []:=by
  refine sA func73 0 fun _ _ _ hq hd0=>?_
  unfold Qjj at h
  refine wxz<|wsq ?_
  obtain⟨x2,hf1,h⟩:=bno h
  refine hpre (A:=(Zl1 p0 x2)) ⟨apv Q4k (Qj3 N p0 _ hf1) (nlc (NLt.agg _ (nlc (nld Qan _) (nlc (nld Qab _) nl0))) nl0) nll,tv⟩ fun q1_=>?_
  refine bfe h (fun hb3 h=>?_) fun hb3 h=>?_
  ·refine wx tbk (hcat (Zl1 p0 x2) [(3,rp [(.tmp 7,(B ((!x2))))] (B true))]) (hap q1_ ⟨asb hb3 (amv rfl),tv⟩)<|wtr<|wxz<|Qai<|Qaj ?_
   obtain rfl:=osi h
   exact fend ⟨[I 1],⟨rot,tv⟩,rfl⟩ nll
  ·refine hpre (A:=(Zl0 p0 x2 p1)) (hap q1_ ⟨asb hb3 (amv rfl),ag_ (alq 1 Qac p1 underlying27),ag_ (alq 7 Qae p0.Elements underlying40),tv⟩) fun q2_=>?_
   refine bfe h (fun hb4 h=>?_) fun hb4 h=>?_
   ·refine wx tbk (hcat (Zl0 p0 x2 p1) [(11,rp [(.tmp 15,(B (((p1.length:Int) != (p0.Elements.length:Int)))))] (B true))]) (hap q2_ ⟨asb hb4 (amv rfl),tv⟩)<|wtr<|wxz<|Qai<|Qaj ?_
    obtain rfl:=osi h
    exact fend ⟨[I 1],⟨rot,tv⟩,rfl⟩ nll
   ·obtain⟨x6,hf5,h⟩:=bno h
    refine wx tbk (hcat (Zl0 p0 x2 p1) [(11,rp [(.tmp 15,(B (((p1.length:Int) != (p0.Elements.length:Int)))))] (B false)),(13,rp [(.tmp 16,B false),fu 108,(.tmp 17,(.dat 1 (p1.map Qac))),fu 109] (B x6))]) (hap q2_ ⟨asb hb4 (amv rfl),ag_ (acq [(.dat 1 (p1.map Qac)),(.fn (.func 109) [] [])] [] [] (B x6) [] Q7c (Qrw N p1 _ hf5) (Qbr (rnc (pld Qah) (rnc (.plain _ (NLt.fn _ _ _ nl0 nl0)) rn0))) Qas Qas (.plain _ nll)),tv⟩) ?_
    refine bfe h (fun hc7 h=>?_) fun hc7 h=>?_
    ·refine wft hc7<|wxz<|Qai<|Qaj ?_
     obtain rfl:=osi h
     exact fend ⟨[I 1],⟨rot,tv⟩,rfl⟩ nll
    ·refine wfn hc7<|Qam<|thn<|wxz<|Qai ?_
     obtain rfl:=osi h
     exact fend ⟨[I 0],⟨rot,tv⟩,rfl⟩ nll
def Qd0 (N:Nat) (p0:GNet) (p1:Int) (k2:(List Int)→Option (List Int)):Nat→(List Int)→Int→Option (List Int)
  |0,_,_=>none
  |n7+1,y3,y4=>
    bif (decide (y4<(p0.Elements.length:Int))) then
     (getI p0.Elements y4).bind fun x9=>
     bif (x9.Kind==p1) then
      chk (decide ((y3.length+([y4]).length)*8≤140737488355328))<|
      Qd0 N p0 p1 k2 n7 (y3++([y4])) (w64 (y4+1))
     else
      Qd0 N p0 p1 k2 n7 y3 (w64 (y4+1))
    else
     k2 (y3)
def Qg9 (N:Nat) (p0:GNet) (p1:Int):Option (List Int):=
  Qbc (fun y1=>
    some y1) fun k2:(List Int)→Option (List Int)=>
  Qd0 N p0 p1 k2 N ([]) 0
def Za5 (p0:GNet):AV:=.dat 7 (p0.Elements.map Qae)
def Q5n (y3:List Int):AV:=.acc 0 3 1 (y3.map Qac)
theorem Qif (N:Nat) (p0:GNet) (p1:Int) (r:List Int) (h:Qg9 N p0 p1=some r):Spec prog 67 [(.agg (Qgw p0)),(K .u8 p1)] [] (.dat 1 (r.map Qac)) []:=by
  refine sA func67 0 fun _ _ _ hq hd0=>?_
  unfold Qg9 at h
  refine wxz ?_
  obtain⟨k2,hk_k2,h⟩:=jko h
  refine wjn (τ:=(List Int)) (fun t=>k2 t=some r) (fun y1=>⟨mk 25 [(4,(.acc 0 3 1 (y1.map Qac)))],[.tok]⟩) (fun y1 h=>?_) ?_
  ·subst hk_k2
   refine wxz<|Qai ?_
   obtain rfl:=osi h
   exact fie [(.dat 1 (y1.map Qac))] ⟨Qbz (v:=(.acc 0 3 1 (y1.map Qac))) rot Less.acc,tv⟩
  ·skip
   refine wx tbk [(2,rp _ _)] ⟨alq 7 Qae p0.Elements underlying40,tv⟩<|Qao ?_
   refine wmr (Mor.trans (Qpe 1 3 1 4 (by kernel_rfl) (by kernel_rfl)) (mto (n:=25) (l':=[(1,(K .u8 p1)),(4,(.acc 0 3 1 ((([]):List Int).map Qac))),(8,(Za5 p0)),(9,(I ((p0.Elements.length:Int)))),(10,I 0)]) (own':=[.tok]) [(1,(K .u8 p1)),(4,(.acc 1 3 1 (([]:List Int).map Qac))),(8,(Za5 p0)),(9,(I ((p0.Elements.length:Int)))),(10,I 0)] [1] [.tok] hq (pw (pc (.rn (Qa3 rfl (Qay Qah _))) (pc (rnd Qab) (pw (pw pn))))) (qc .tok qn))) ?_
   refine Qbl (τ:=(List Int)×Int) (fun n t=>Qd0 N p0 p1 k2 n t.1 t.2=some r) (fun ⟨y3,y4⟩=>⟨mk 25 [(1,(K .u8 p1)),(4,(Q5n y3)),(8,(Za5 p0)),(9,(I ((p0.Elements.length:Int)))),(10,I y4)],[.tok]⟩) (fun t h=>by rw[Qd0] at h;cases h) (fun n7 ih t h=>?_) N ([],0) h
   obtain⟨y3,y4⟩:=t
   rw[Qd0] at h
   skip
   refine wxz<|wsq ?_
   refine bfe h (fun hc8 h=>?_) fun hc8 h=>?_
   ·refine wft hc8<|Qam<|thn<|wsq<|Qao ?_
    obtain⟨x9,hg10,h⟩:=bno h
    obtain⟨hi11,hj12⟩:=gsm hg10
    refine wx tbk [(1,rp _ _)] ⟨aiq underlying40 Qkd Qae hi11 hj12,tv⟩<|wxz ?_
    refine bfe h (fun hc13 h=>?_) fun hc13 h=>?_
    ·refine wft hc13 ?_
     obtain⟨ha14,h⟩:=cko h
     refine wx1 tbk [(2,rp [(.tmp 20,I y4)] (.dat 1 (([y4]:List Int).map Qac))),(3,⟨[(.tmp 19,(Q5n y3)),(.tmp 21,(.dat 1 (([y4]:List Int).map Qac)))],[(0,.tok),(2,.unused)],(.acc 2 3 1 ((y3++([y4]):List Int).map Qac)),[(0,.dead),(2,.tok)],false⟩)] ⟨Qbm (vs:=[I y4]) rfl underlying27 ti3 tz3 rfl (by decide) rfl (by decide) (by rfl) (by rfl) (by rfl) rfl,Qc7 rfl underlying27 te3 (Base.acc _ _) rfl rfl (by rfl) (Qf7 Qac ha14) (Qf6 Qac ha14 (by decide)) (Qf5 Qac) rfl rfl,tv⟩<|bln<|thn<|wxz1<|thn ?_
     exact arm (mto (n:=25) [(1,(K .u8 p1)),(4,(.acc 2 3 1 ((y3++([y4]):List Int).map Qac))),(8,(Za5 p0)),(9,(I ((p0.Elements.length:Int)))),(10,(I (w64 (y4+1))))] [2] [.tok] hq (pw (pc (.rn (Qa3 rfl (Qay Qah _))) (pc (rnd Qab) (pw (pw pn))))) (qc .tok qn)) (ih (y3++([y4]),w64 (y4+1)) h)
    ·exact wfn hc13<|Qam<|bln<|thn<|wxz1<|thn<|arm (mto (n:=25) [(1,(K .u8 p1)),(4,(Q5n y3)),(8,(Za5 p0)),(9,(I ((p0.Elements.length:Int)))),(10,(I (w64 (y4+1))))] [0] [.tok] hq (pw (pc (.rn (Qa3 rfl (Qay Qah _))) (pc (rnd Qab) (pw (pw pn))))) (qc .tok qn)) (ih (y3,w64 (y4+1)) h)
   ·exact wfn hc8<|Qa7<|Qau<|Qau<|Qa6 rfl<|thn<|⟨(y3),h,(mto (n:=25) [(4,(Q5n y3))] [0] [.tok] hq (pc (.rn (Qa3 rfl (Qay Qah _))) pn) (qc .tok qn))⟩
def Qd9 (N:Nat) (p0:Qaa):Option Bool:=
  (Qc8 N p0.Mass 0 1000000).bind fun x2=>
  bif x2 then
   (Qc8 N p0.Heat 0 (w64 (4000*p0.Mass))).bind fun x5=>
   bif x5 then
    (Qc8 N p0.Silica 0 (w64 (10000*p0.Mass))).bind fun x8=>
    bif x8 then
     (Qc8 N p0.Gas 0 1000000000).bind fun x11=>
     some x11
    else
     some false
   else
    some false
  else
   some false
def Zly (p0:Qaa) (x2:Bool):List (Nat×Rec):=[(2,rp [fu 137,((.tmp 4),(I p0.Mass)),ci 0,ci 1000000] (B x2))]
def Zlx p0 x2 (x5:Bool):=hcat (Zly p0 x2) [(3,rp [((.tmp 5),(B x2))] (B true)),(9,rp [((.tmp 6),(B true)),fu 137,((.tmp 8),(I p0.Heat)),ci 0,((.tmp 11),(I (w64 (4000*p0.Mass))))] (B x5))]
def Zlw p0 x2 x5 (x8:Bool):=hcat (Zlx p0 x2 x5) [(11,rp [((.tmp 13),(B x5))] (B true)),(17,rp [((.tmp 14),(B true)),fu 137,((.tmp 16),(I p0.Silica)),ci 0,((.tmp 19),(I (w64 (10000*p0.Mass))))] (B x8))]
theorem Qia (N:Nat) (p0:Qaa) (r:Bool) (h:Qd9 N p0=some r):Spec prog 131 [(.agg (Qad p0))] [] (B r) []:=by
  refine sA func131 0 fun _ _ _ hq hd0=>?_
  unfold Qd9 at h
  refine wxz ?_
  obtain⟨x2,hf1,h⟩:=bno h
  refine hpre (A:=(Zly p0 x2)) ⟨apv Qj9 (Qde N p0.Mass 0 1000000 _ hf1) (nlcc (nlc nll nl0)) nll,tv⟩ fun q1_=>?_
  refine bfe h (fun hb3 h=>?_) fun hb3 h=>?_
  ·obtain⟨x5,hf4,h⟩:=bno h
   refine hpre (A:=(Zlx p0 x2 x5)) (hap q1_ ⟨asb hb3 (amv rfl),ag_ (apv Qj9 (Qde N p0.Heat 0 (w64 (4000*p0.Mass)) _ hf4) (nlcc (nlc nll nl0)) nll),tv⟩) fun q2_=>?_
   refine bfe h (fun hb6 h=>?_) fun hb6 h=>?_
   ·obtain⟨x8,hf7,h⟩:=bno h
    refine hpre (A:=(Zlw p0 x2 x5 x8)) (hap q2_ ⟨asb hb6 (amv rfl),ag_ (apv Qj9 (Qde N p0.Silica 0 (w64 (10000*p0.Mass)) _ hf7) (nlcc (nlc nll nl0)) nll),tv⟩) fun q3_=>?_
    refine bfe h (fun hb9 h=>?_) fun hb9 h=>?_
    ·obtain⟨x11,hf10,h⟩:=bno h
     exact wx tbk (hcat (Zlw p0 x2 x5 x8) [(19,rp [(.tmp 21,B x8)] (B true)),(22,rp [(.tmp 22,B true),fu 137,(.tmp 24,I p0.Gas),ci 0,ci 1000000000] (B x11))]) (hap q3_ ⟨asb hb9 (amv rfl),ag_ (apv Qj9 (Qde N p0.Gas 0 1000000000 _ hf10) (nlcc (nlc nll nl0)) nll),tv⟩)<|Qai<|frb h
    ·exact wx tbk (hcat (Zlw p0 x2 x5 x8) [(19,rp [(.tmp 21,B x8)] (B false))]) (hap q3_ ⟨asb hb9 (amv rfl),tv⟩)<|Qai<|frb h
   ·exact wx tbk (hcat (Zlx p0 x2 x5) [(11,rp [(.tmp 13,B x5)] (B false))]) (hap q2_ ⟨asb hb6 (amv rfl),tv⟩)<|Qai<|frb h
  ·exact wx tbk (hcat (Zly p0 x2) [(3,rp [(.tmp 5,B x2)] (B false))]) (hap q1_ ⟨asb hb3 (amv rfl),tv⟩)<|Qai<|frb h
def Qg3 (N:Nat) (p0:Qaa):Option Int:=
  (Qd9 N p0).bind fun x2=>
  bif (!x2) then
   some 1
  else
   some 0
theorem Qo3 (N:Nat) (p0:Qaa) (r:Int) (h:Qg3 N p0=some r):Spec prog 114 [(.agg (Qad p0))] [] (I r) []:=by
  refine sA func114 0 fun _ _ _ hq hd0=>?_
  unfold Qg3 at h
  refine wxz<|wsq ?_
  obtain⟨x2,hf1,h⟩:=bno h
  refine wx tbk [(1,rp _ _)] ⟨apw Q0b (Qia N p0 _ hf1),tv⟩ ?_
  refine bfe h (fun hc3 h=>?_) fun hc3 h=>?_
  ·refine wft hc3<|wxz<|Qai<|Qaj ?_
   obtain rfl:=osi h
   exact fend ⟨[I 1],⟨rot,tv⟩,rfl⟩ nll
  ·refine wfn hc3<|Qam<|thn<|wxz<|Qai ?_
   obtain rfl:=osi h
   exact fend ⟨[I 0],⟨rot,tv⟩,rfl⟩ nll
def Qj4 (N:Nat) (p0:Qaa):Option Bool:=
  (Qg3 N p0).bind fun x2=>
  some (x2==0)
theorem Qrz (N:Nat) (p0:Qaa) (r:Bool) (h:Qj4 N p0=some r):Spec prog 113 [(.agg (Qad p0))] [] (B r) []:=by
  refine sA func113 0 fun _ _ _ hq hd0=>?_
  unfold Qj4 at h
  refine wxz ?_
  obtain⟨x2,hf1,h⟩:=bno h
  refine wx tbk [(1,rp _ _)] ⟨apw Zir (Qo3 N p0 _ hf1),tv⟩<|Qai ?_
  obtain rfl:=osi h
  exact fend ⟨[(B ((x2==0)))],⟨rot,tv⟩,rfl⟩ nll
def Qds (N:Nat) (p0:Qaa):Option Bool:=
  (Qj4 N p0).bind fun x3=>
  some (!x3)
abbrev Zsl (p0:Qaa):AV:=.agg [(I p0.Mass),(I p0.Heat),(I p0.Silica),(I p0.Gas)]
abbrev Zgb:Slot:=.own 1 [[(.fn (.func 113) [] [])]]
theorem Qln (N:Nat) (p0:Qaa) (r:Bool) (h:Qds N p0=some r):Spec prog 130 [(Zsl p0),(.ref 0 1 (0) 0)] [Zgb] (B r) [Zgb]:=by
  refine sF func130 1 fun _ _ _ hq hd0=>?_
  unfold Qds at h
  refine wxz ?_
  obtain⟨x3,hf2,h⟩:=bno h
  refine wx tbk [(2,rp _ _)] ⟨apw Zis (Qrz N p0 _ hf2),tv⟩ ?_
  refine wmr (mto (n:=8) (l':=[(3,(B ((!x3))))]) (own':=[Zgb]) [(3,(B ((!x3))))] [0] [Zgb] hq (pw pn) (qb (lc (.rn (Qbj rn0 rn0)) ln) qn))<|Qai ?_
  obtain rfl:=osi h
  exact⟨_,Mor.rfl,fio [(B ((!x3)))] ⟨rot,tv⟩⟩
def Qbd (N:Nat) (p0:List Qaa) (k2:Unit→Option Int):Nat→Int→Option Int
  |0,_=>none
  |n5+1,y3=>
    bif (decide (y3<(p0.length:Int))) then
     (getI p0 y3).bind fun x7=>
     (Qds N x7).bind fun x12=>
     bif x12 then
      some y3
     else
      Qbd N p0 k2 n5 (w64 (y3+1))
    else
     k2 ()
def Qb2 (N:Nat) (p0:List Qaa):Option Int:=
  Qbc (fun _=>
    some (-1)) fun k2:Unit→Option Int=>
  Qbd N p0 k2 N 0
abbrev Za4 (p0:List Qaa):AV:=.dat 4 (p0.map Qad)
abbrev Za3:AV:=.fn (.func 130) [] [(.ref 0 1 (0) 0)]
abbrev Qrb:Slot:=.own 1 [[(.fn (.func 113) [] [])]]
def Zsm (x7:Qaa):AV:=.agg [(I x7.Mass),(I x7.Heat),(I x7.Silica),(I x7.Gas)]
theorem Qg4 (N:Nat) (p0:List Qaa) (r:Int) (h:Qb2 N p0=some r):Spec prog 142 [(Za4 p0),Za3] [Qrb] (I r) [Qrb]:=by
  refine sF func142 1 fun _ _ _ hq hd0=>?_
  unfold Qb2 at h
  refine wxz ?_
  obtain⟨k2,hk_k2,h⟩:=jko h
  refine wjn (τ:=Unit) (fun t=>k2 t=some r) (fun _=>⟨mk 19 [],[Qrb]⟩) (fun t h=>?_) ?_
  ·subst hk_k2
   refine wxz<|wmr (mto (n:=19) (l':=[(4,(I ((-1))))]) (own':=[Qrb]) [(4,(I ((-1))))] [0] [Qrb] hq (pw pn) (qb (lc (.rn (Qbj rn0 rn0)) ln) qn))<|Qai ?_
   obtain rfl:=osi h
   exact⟨_,Mor.rfl,fio [(I ((-1)))] ⟨rot,tv⟩⟩
  ·skip
   refine wx tbk [(1,rp _ _)] ⟨alq 4 Qad p0 underlying45,tv⟩<|Qao ?_
   refine wmr (mto (n:=19) (l':=[(0,(Za4 p0)),(1,Za3),(7,(I ((p0.length:Int)))),(8,I 0)]) (own':=[Qrb]) [(0,(Za4 p0)),(1,Za3),(7,(I ((p0.length:Int)))),(8,I 0)] [0] [Qrb] hq (pc (rnd Qal) (pc (.rn (Qbj rn0 (rnc (rqr rfl) rn0))) (pw (pw pn)))) (qb (lc (.rn (Qbj rn0 rn0)) ln) qn)) ?_
   refine Qbl (τ:=Int) (fun n t=>Qbd N p0 k2 n t=some r) (fun y3=>⟨mk 19 [(0,(Za4 p0)),(1,Za3),(7,(I ((p0.length:Int)))),(8,I y3)],[Qrb]⟩) (fun t h=>by rw[Qbd] at h;cases h) (fun n5 ih y3 h=>?_) N (0) h
   rw[Qbd] at h
   skip
   refine wxz<|wsq ?_
   refine bfe h (fun hc6 h=>?_) fun hc6 h=>?_
   ·refine wft hc6<|Qam<|thn<|wsq<|Qao<|wxz ?_
    obtain⟨x7,hg8,h⟩:=bno h
    obtain⟨hi9,hj10⟩:=gsm hg8
    obtain⟨x12,hf11,h⟩:=bno h
    refine wx tbk [(3,rp _ _),(5,⟨_,_,_,_,false⟩)] ⟨aiq underlying45 ti63 Qad hi9 hj10,Qdp (first:=[]) (cap:=[.ref 0 1 0 0]) (vs:=[(Zsm x7)]) (σr:=[Qrb]) (σr':=[Qrb]) (res':=(B x12)) [0] rfl Zif (Qln N x7 _ hf11) rfl (Qbr (rnc (.plain _ (NLt.agg _ (nlcc (nlcc nl0)))) (rnc (Qa0 rfl) rn0))) (slc (Qaq (rnc (.plain _ (NLt.fn _ _ _ nl0 nl0)) rn0)) Qas) (slc (Qaq (rnc (.plain _ (NLt.fn _ _ _ nl0 nl0)) rn0)) Qas) (.plain _ nll) rfl rfl rfl,tv⟩ ?_
    refine bfe h (fun hc13 h=>?_) fun hc13 h=>?_
    ·refine wft hc13<|wxz ?_
     refine wmr (mto (n:=19) (l':=[(4,I y3)]) (own':=[Qrb]) [(4,I y3)] [0] [Qrb] hq (pw pn) (qb (lc (.rn (Qbj rn0 rn0)) ln) qn))<|Qai<|Qar<|Qaj<|Qaj<|Qar<|Qaj ?_
     obtain rfl:=osi h
     exact⟨_,Mor.rfl,fio [I y3] ⟨rot,tv⟩⟩
    ·exact wfn hc13<|Qam<|bln<|thn<|wxz1<|thn<|arm (mto (n:=19) [(0,(Za4 p0)),(1,Za3),(7,(I ((p0.length:Int)))),(8,(I (w64 (y3+1))))] [0] [Qrb] hq (pc (rnd Qal) (pc (.rn (Qbj rn0 (rnc (rqr rfl) rn0))) (pw (pw pn)))) (qb (lc (.rn (Qbj rn0 rn0)) ln) qn)) (ih (w64 (y3+1)) h)
   ·exact wfn hc6<|Qa7<|Qau<|Qau<|Qa6 rfl<|thn<|⟨(),h,(mto (n:=19) [] [0] [Qrb] hq pn (qb (lc (.rn (Qbj rn0 rn0)) ln) qn))⟩
def Qbp (N:Nat) (p0:List Qaa):Option Bool:=
  (Qb2 N p0).bind fun x3=>
  some (decide (x3≥0))
abbrev Zp4:AV:=.fn (.func 130) [] [(.ref 0 1 (0) 0)]
abbrev Q71:Slot:=.own 1 [[(.fn (.func 113) [] [])]]
theorem Qgj (N:Nat) (p0:List Qaa) (r:Bool) (h:Qbp N p0=some r):Spec prog 129 [(.dat 4 (p0.map Qad)),Zp4] [Q71] (B r) [Q71]:=by
  refine sF func129 1 fun _ _ _ hq hd0=>?_
  unfold Qbp at h
  refine wxz ?_
  obtain⟨x3,hf2,h⟩:=bno h
  refine wx tbk [(2,⟨_,_,_,_,false⟩)] ⟨acq [(.dat 4 (p0.map Qad)),Zp4] [Q71] [Q71] (I x3) [0] Zh8 (Qg4 N p0 _ hf2) (Qbr (rnc (pld Qal) (rnc (Qbj rn0 (rnc (Qa0 rfl) rn0)) rn0))) (slc (Qaq (rnc (.plain _ (NLt.fn _ _ _ nl0 nl0)) rn0)) Qas) (slc (Qaq (rnc (.plain _ (NLt.fn _ _ _ nl0 nl0)) rn0)) Qas) (.plain _ nll),tv⟩ ?_
  refine wmr (mto (n:=9) (l':=[(4,(B ((decide (x3≥0)))))]) (own':=[Q71]) [(4,(B ((decide (x3≥0)))))] [0] [Q71] hq (pw pn) (qb (lc (.rn (Qbj rn0 rn0)) ln) qn))<|Qai ?_
  obtain rfl:=osi h
  exact⟨_,Mor.rfl,fio [(B ((decide (x3≥0))))] ⟨rot,tv⟩⟩
def Qfu (N:Nat) (p0:List Qaa):Option Bool:=
  (Qbp N p0).bind fun x2=>
  some (!x2)
def Zp5:AV:=.fn (.func 130) [] [(.ref 0 1 (0) 0)]
def Zp6:Slot:=.own 1 [[(.fn (.func 113) [] [])]]
theorem Qme (N:Nat) (p0:List Qaa) (r:Bool) (h:Qfu N p0=some r):Spec prog 112 [(.dat 4 (p0.map Qad)),(.fn (.func 113) [] [])] [] (B r) []:=by
  refine sA func112 0 fun _ _ _ hq hd0=>?_
  unfold Qfu at h
  refine wxz ?_
  obtain⟨x2,hf1,h⟩:=bno h
  refine wx tbk [(1,rp [(.tmp 3,.ref 0 1 0 0)] Zp5),(2,⟨_,_,_,_,false⟩)] ⟨Qfv (fs:=[]) (cs:=[.ref 0 1 0 0]) rfl rfl rfl rfl,acq [(.dat 4 (p0.map Qad)),Zp5] [Zp6] [Zp6] (B x2) [0] Zig (Qgj N p0 _ hf1) (Qbr (rnc (pld Qal) (rnc (Qbj rn0 (rnc (Qa0 rfl) rn0)) rn0))) (slc (Qaq (rnc (.plain _ (NLt.fn _ _ _ nl0 nl0)) rn0)) Qas) (slc (Qaq (rnc (.plain _ (NLt.fn _ _ _ nl0 nl0)) rn0)) Qas) (.plain _ nll),tv⟩<|Qai ?_
  obtain rfl:=osi h
  exact fend ⟨[(B ((!x2)))],⟨rot,tv⟩,rfl⟩ nll
def Qfg (N:Nat) (p0:List Qaa) (k5:Int×Int×Int×Int→Option Qaa):Nat→Int→Int→Int→Int→Int→Option Qaa
  |0,_,_,_,_,_=>none
  |n16+1,y6,y7,y8,y9,y10=>
    bif (decide (y6<(p0.length:Int))) then
     (getI p0 y6).bind fun x18=>
     Qfg N p0 k5 n16 (w64 (y6+1)) (w64 (y7+x18.Mass)) (w64 (y8+x18.Heat)) (w64 (y9+x18.Silica)) (w64 (y10+x18.Gas))
    else
     k5 (y7,y8,y9,y10)
def Qgp (N:Nat) (p0:List Qaa):Option Qaa:=
  Qbc (fun ⟨y1,y2,y3,y4⟩=>
    some (⟨y1,y2,y3,y4⟩:Qaa)) fun k5:Int×Int×Int×Int→Option Qaa=>
  Qfg N p0 k5 N 0 0 0 0 0
def Zga (p0:List Qaa):AV:=.dat 4 (p0.map Qad)
def Zp3:Slot:=.own 4 [[(I (0)),(I (0)),(I (0)),(I (0))]]
theorem Qm8 (N:Nat) (p0:List Qaa) (r:Qaa) (h:Qgp N p0=some r):Spec prog 76 [(.dat 4 (p0.map Qad))] [] (.agg (Qad r)) []:=by
  refine sA func76 0 fun _ _ _ hq hd0=>?_
  unfold Qgp at h
  refine wxz ?_
  obtain⟨k5,hk_k5,h⟩:=jko h
  refine wjn (τ:=Int×Int×Int×Int) (fun t=>k5 t=some r) (fun ⟨y1,y2,y3,y4⟩=>⟨mk 34 [(2,.ref 0 4 0 0)],[(.own 4 [[I y1,I y2,I y3,I y4]])]⟩) (fun t h=>?_) ?_
  ·subst hk_k5
   obtain⟨y1,y2,y3,y4⟩:=t
   refine wxz<|Qai ?_
   obtain rfl:=osi h
   exact fie [(.agg [I y1,I y2,I y3,I y4])] ⟨Qbv (n:=0) (m:=4) (j:=0) (i:=0) (xs:=[[I y1,I y2,I y3,I y4]]) (by kernel_rfl) (by kernel_rfl) ti63 (by decide) rfl (nle rfl) rfl,tv⟩
  ·skip
   refine wx tbk [(1,rp _ _)] ⟨alq 4 Qad p0 underlying45,tv⟩<|Qao ?_
   refine wmr (mto (n:=34) (l':=[(2,.ref 0 4 0 0),(5,(Zga p0)),(6,(I ((p0.length:Int)))),(7,I 0)]) (own':=[Zp3]) [(2,.ref 0 4 0 0),(5,(Zga p0)),(6,(I ((p0.length:Int)))),(7,I 0)] [0] [Zp3] hq (prr (pc (rnd Qal) (pw (pw pn)))) (qb (lcc (lcc ln)) qn)) ?_
   refine Qbl (τ:=Int×Int×Int×Int×Int) (fun n t=>Qfg N p0 k5 n t.1 t.2.1 t.2.2.1 t.2.2.2.1 t.2.2.2.2=some r) (fun ⟨y6,y7,y8,y9,y10⟩=>⟨mk 34 [(2,.ref 0 4 0 0),(5,(Zga p0)),(6,(I ((p0.length:Int)))),(7,I y6)],[(.own 4 [[I y7,I y8,I y9,I y10]])]⟩) (fun t h=>by rw[Qfg] at h;cases h) (fun n16 ih t h=>?_) N (0,0,0,0,0) h
   obtain⟨y6,y7,y8,y9,y10⟩:=t
   rw[Qfg] at h
   skip
   refine wxz<|wsq ?_
   refine bfe h (fun hc17 h=>?_) fun hc17 h=>?_
   ·refine wft hc17<|Qam<|thn<|wsq<|Qao ?_
    obtain⟨x18,hg19,h⟩:=bno h
    obtain⟨hi20,hj21⟩:=gsm hg19
    refine wx tbk [(0,rp _ _)] ⟨aiq underlying45 ti63 Qad hi20 hj21,tv⟩ ?_
    exact wx1 tbk [(20,rp _ _)] ⟨Qaz (vs:=[(I (w64 (y7+x18.Mass))),(I (w64 (y8+x18.Heat))),(I (w64 (y9+x18.Silica))),(I (w64 (y10+x18.Gas)))]) rfl ts63 tz63 rfl (by rfl) rfl,tv⟩<|bln<|thn<|wxz1<|thn<|arm (mto (n:=34) [(2,.ref 0 4 0 0),(5,(Zga p0)),(6,(I ((p0.length:Int)))),(7,(I (w64 (y6+1))))] [0] [(.own 4 [[(I (w64 (y7+x18.Mass))),(I (w64 (y8+x18.Heat))),(I (w64 (y9+x18.Silica))),(I (w64 (y10+x18.Gas)))]])] hq (prr (pc (rnd Qal) (pw (pw pn)))) (qb (lcc (lcc ln)) qn)) (ih (w64 (y6+1),w64 (y7+x18.Mass),w64 (y8+x18.Heat),w64 (y9+x18.Silica),w64 (y10+x18.Gas)) h)
   ·exact wfn hc17<|Qa7<|Qau<|Qau<|Qa6 rfl<|thn<|⟨(y7,y8,y9,y10),h,(mto (n:=34) [(2,.ref 0 4 0 0)] [0] [(.own 4 [[I y7,I y8,I y9,I y10]])] hq (prr pn) (qb (lcc (lcc ln)) qn))⟩
def Qis (N:Nat) (p0:GNet) (p1:List Qaa):Option Int:=
  Qbc (fun _=>
    (Qgp N p1).bind fun x3=>
    bif (decide (x3.Mass>1000000)) then
     some 3
    else
     bif (decide (x3.Gas>1000000000)) then
      some 3
     else
      some 0) fun k1:Unit→Option Int=>
  (Qg9 N p0 1).bind fun x7=>
  bif ((p1.length:Int) != (x7.length:Int)) then
   some 1
  else
   (Qfu N p1).bind fun x10=>
   bif (!x10) then
    some 1
   else
    k1 ()
def Za6 (p1:List Qaa):AV:=.dat 4 (p1.map Qad)
def Zso (p0:GNet):AV:=.dat 5 (p0.Table.map Qap)
def Zsn (p0:GNet):AV:=.dat 7 (p0.Elements.map Qae)
def Zlz (p1:List Qaa) (p0:GNet) (x7:List Int):List (Nat×Rec):=[(1,rp [((.tmp 6),(Za6 p1))] (I ((p1.length:Int)))),(3,rp [fu 67,((.tmp 8),(.agg [(Zso p0),(Zsn p0)])),((.const (.int .u8 1)),(K .u8 (1)))] (.dat 1 (x7.map Qac))),(4,rp [((.tmp 9),(.dat 1 (x7.map Qac)))] (I ((x7.length:Int))))]
theorem Qoo (N:Nat) (p0:GNet) (p1:List Qaa) (r:Int) (h:Qis N p0 p1=some r):Spec prog 94 [(.agg (Qgw p0)),(.dat 4 (p1.map Qad))] [] (I r) []:=by
  refine sA func94 0 fun _ _ _ hq hd0=>?_
  unfold Qis at h
  refine wxz ?_
  obtain⟨k1,hk_k1,h⟩:=jko h
  refine wjn (τ:=Unit) (fun t=>k1 t=some r) (fun _=>⟨mk 27 [(1,(Za6 p1))],[]⟩) (fun t h=>?_) ?_
  ·subst hk_k1
   refine wsq ?_
   obtain⟨x3,hf2,h⟩:=bno h
   refine wx tbk [(1,rp _ _)] ⟨apw Q4j (Qm8 N p1 _ hf2),tv⟩ ?_
   refine bfe h (fun hb4 h=>?_) fun hb4 h=>?_
   ·refine wx tbk [(3,rp [(.tmp 21,(B ((decide (x3.Mass>1000000)))))] (B true))] ⟨asb hb4 (amv rfl),tv⟩<|wtr<|wxz<|Qai<|Qaj ?_
    obtain rfl:=osi h
    exact fend ⟨[I 3],⟨rot,tv⟩,rfl⟩ nll
   ·refine wx tbk [(3,rp [(.tmp 21,(B ((decide (x3.Mass>1000000)))))] (B false))] ⟨asb hb4 (amv rfl),tv⟩ ?_
    refine bfe h (fun hc5 h=>?_) fun hc5 h=>?_
    ·refine wft hc5<|wxz<|Qai<|Qaj ?_
     obtain rfl:=osi h
     exact fend ⟨[I 3],⟨rot,tv⟩,rfl⟩ nll
    ·refine wfn hc5<|Qam<|thn<|wxz<|Qai ?_
     obtain rfl:=osi h
     exact fend ⟨[I 0],⟨rot,tv⟩,rfl⟩ nll
  ·skip
   obtain⟨x7,hf6,h⟩:=bno h
   refine hpre (A:=(Zlz p1 p0 x7)) ⟨alq 4 Qad p1 underlying45,apv Qwm (Qif N p0 1 _ hf6) (nlc (NLt.agg _ (nlc (nld Qan _) (nlc (nld Qab _) nl0))) (nlc nll nl0)) (nld Qah _),alq 1 Qac x7 underlying27,tv⟩ fun q1_=>?_
   refine bfe h (fun hb8 h=>?_) fun hb8 h=>?_
   ·refine wx tbk (hcat (Zlz p1 p0 x7) [(6,rp [(.tmp 11,(B (((p1.length:Int) != (x7.length:Int)))))] (B true))]) (hap q1_ ⟨asb hb8 (amv rfl),tv⟩)<|wtr<|wxz<|Qai<|Qaj ?_
    obtain rfl:=osi h
    exact fend ⟨[I 1],⟨rot,tv⟩,rfl⟩ nll
   ·obtain⟨x10,hf9,h⟩:=bno h
    refine wx tbk (hcat (Zlz p1 p0 x7) [(6,rp [(.tmp 11,(B (((p1.length:Int) != (x7.length:Int)))))] (B false)),(8,rp [(.tmp 12,B false),fu 112,(.tmp 13,(Za6 p1)),fu 113] (B x10))]) (hap q1_ ⟨asb hb8 (amv rfl),ag_ (acq [(Za6 p1),(.fn (.func 113) [] [])] [] [] (B x10) [] Zit (Qme N p1 _ hf9) (Qbr (rnc (pld Qal) (rnc (.plain _ (NLt.fn _ _ _ nl0 nl0)) rn0))) Qas Qas (.plain _ nll)),tv⟩) ?_
    refine bfe h (fun hc11 h=>?_) fun hc11 h=>?_
    ·refine wft hc11<|wxz<|Qai<|Qaj ?_
     obtain rfl:=osi h
     exact fend ⟨[I 1],⟨rot,tv⟩,rfl⟩ nll
    ·exact wfn hc11<|Qam<|thn<|⟨(),h,(mto (n:=27) [(1,(Za6 p1))] [] [] hq (pc (rnd Qal) pn) qn)⟩
def Qqu (N:Nat) (p0:GNet) (p1:List Int) (p2:List Qaa):Option Int:=
  (Qjj N p0 p1).bind fun x2=>
  bif (x2 != 0) then
   some x2
  else
   (Qis N p0 p2).bind fun x5=>
   some x5
theorem Qxe (N:Nat) (p0:GNet) (p1:List Int) (p2:List Qaa) (r:Int) (h:Qqu N p0 p1 p2=some r):Spec prog 57 [(.agg (Qgw p0)),(.dat 1 (p1.map Qac)),(.dat 4 (p2.map Qad))] [] (I r) []:=by
  refine sA func57 0 fun _ _ _ hq hd0=>?_
  unfold Qqu at h
  refine wxz<|wsq ?_
  obtain⟨x2,hf1,h⟩:=bno h
  refine wx tbk [(2,rp _ _)] ⟨apw Zef (Qpb N p0 p1 _ hf1),tv⟩<|wxz ?_
  refine bfe h (fun hc3 h=>?_) fun hc3 h=>?_
  ·refine wft hc3<|wxz<|Qai<|Qaj ?_
   obtain rfl:=osi h
   exact fend ⟨[I x2],⟨rot,tv⟩,rfl⟩ nll
  ·refine wfn hc3<|Qam<|thn ?_
   obtain⟨x5,hf4,h⟩:=bno h
   refine wx tbk [(2,rp _ _)] ⟨apw Zec (Qoo N p0 p2 _ hf4),tv⟩<|Qai ?_
   obtain rfl:=osi h
   exact fend ⟨[I x5],⟨rot,tv⟩,rfl⟩ nll
def Qkt (N:Nat) (p0:Int):Option Bool:=
  (Qc8 N p0 0 1000).bind fun x2=>
  some x2
theorem Qsw (N:Nat) (p0:Int) (r:Bool) (h:Qkt N p0=some r):Spec prog 150 [(I p0)] [] (B r) []:=by
  refine sA func150 0 fun _ _ _ hq hd0=>?_
  unfold Qkt at h
  refine wxz ?_
  obtain⟨x2,hf1,h⟩:=bno h
  exact wx tbk [(1,rp _ _)] ⟨apw Qj9 (Qde N p0 0 1000 _ hf1),tv⟩<|Qai<|frb h
def Qg2 (N:Nat) (p0:Int):Option Bool:=
  (Qkt N p0).bind fun x3=>
  some (!x3)
abbrev Zf7:Slot:=.own 1 [[(.fn (.func 150) [] [])]]
theorem Qo2 (N:Nat) (p0:Int) (r:Bool) (h:Qg2 N p0=some r):Spec prog 157 [(I p0),(.ref 0 1 (0) 0)] [Zf7] (B r) [Zf7]:=by
  refine sF func157 1 fun _ _ _ hq hd0=>?_
  unfold Qg2 at h
  refine wxz ?_
  obtain⟨x3,hf2,h⟩:=bno h
  refine wx tbk [(2,rp _ _)] ⟨apw Zh0 (Qsw N p0 _ hf2),tv⟩ ?_
  refine wmr (mto (n:=8) (l':=[(3,(B ((!x3))))]) (own':=[Zf7]) [(3,(B ((!x3))))] [0] [Zf7] hq (pw pn) (qb (lc (.rn (Qbj rn0 rn0)) ln) qn))<|Qai ?_
  obtain rfl:=osi h
  exact⟨_,Mor.rfl,fio [(B ((!x3)))] ⟨rot,tv⟩⟩
def Qb5 (N:Nat) (p0:List Int) (k2:Unit→Option Int):Nat→Int→Option Int
  |0,_=>none
  |n5+1,y3=>
    bif (decide (y3<(p0.length:Int))) then
     (getI p0 y3).bind fun x7=>
     (Qg2 N x7).bind fun x12=>
     bif x12 then
      some y3
     else
      Qb5 N p0 k2 n5 (w64 (y3+1))
    else
     k2 ()
def Qep (N:Nat) (p0:List Int):Option Int:=
  Qbc (fun _=>
    some (-1)) fun k2:Unit→Option Int=>
  Qb5 N p0 k2 N 0
abbrev Zay:AV:=.fn (.func 157) [] [(.ref 0 1 (0) 0)]
abbrev Qra:Slot:=.own 1 [[(.fn (.func 150) [] [])]]
theorem Qk1 (N:Nat) (p0:List Int) (r:Int) (h:Qep N p0=some r):Spec prog 141 [(.dat 1 (p0.map Qac)),Zay] [Qra] (I r) [Qra]:=by
  refine sF func141 1 fun _ _ _ hq hd0=>?_
  unfold Qep at h
  refine wxz ?_
  obtain⟨k2,hk_k2,h⟩:=jko h
  refine wjn (τ:=Unit) (fun t=>k2 t=some r) (fun _=>⟨mk 19 [],[Qra]⟩) (fun t h=>?_) ?_
  ·subst hk_k2
   refine wxz<|wmr (mto (n:=19) (l':=[(4,(I ((-1))))]) (own':=[Qra]) [(4,(I ((-1))))] [0] [Qra] hq (pw pn) (qb (lc (.rn (Qbj rn0 rn0)) ln) qn))<|Qai ?_
   obtain rfl:=osi h
   exact⟨_,Mor.rfl,fio [(I ((-1)))] ⟨rot,tv⟩⟩
  ·skip
   refine wx tbk [(1,rp _ _)] ⟨alq 1 Qac p0 underlying27,tv⟩<|Qao ?_
   refine wmr (mto (n:=19) (l':=[(0,(.dat 1 (p0.map Qac))),(1,Zay),(7,(I ((p0.length:Int)))),(8,I 0)]) (own':=[Qra]) [(0,(.dat 1 (p0.map Qac))),(1,Zay),(7,(I ((p0.length:Int)))),(8,I 0)] [0] [Qra] hq (pc (rnd Qah) (pc (.rn (Qbj rn0 (rnc (rqr rfl) rn0))) (pw (pw pn)))) (qb (lc (.rn (Qbj rn0 rn0)) ln) qn)) ?_
   refine Qbl (τ:=Int) (fun n t=>Qb5 N p0 k2 n t=some r) (fun y3=>⟨mk 19 [(0,(.dat 1 (p0.map Qac))),(1,Zay),(7,(I ((p0.length:Int)))),(8,I y3)],[Qra]⟩) (fun t h=>by rw[Qb5] at h;cases h) (fun n5 ih y3 h=>?_) N (0) h
   rw[Qb5] at h
   skip
   refine wxz<|wsq ?_
   refine bfe h (fun hc6 h=>?_) fun hc6 h=>?_
   ·refine wft hc6<|Qam<|thn<|wsq<|Qao<|wxz ?_
    obtain⟨x7,hg8,h⟩:=bno h
    obtain⟨hi9,hj10⟩:=gsm hg8
    obtain⟨x12,hf11,h⟩:=bno h
    refine wx tbk [(3,rp _ _),(5,⟨_,_,_,_,false⟩)] ⟨aiq underlying27 ti3 Qac hi9 hj10,Qdp (first:=[]) (cap:=[.ref 0 1 0 0]) (vs:=[I x7]) (σr:=[Qra]) (σr':=[Qra]) (res':=(B x12)) [0] rfl Zhu (Qo2 N x7 _ hf11) rfl (Qbr (rnc (.plain _ nll) (rnc (Qa0 rfl) rn0))) (slc (Qaq (rnc (.plain _ (NLt.fn _ _ _ nl0 nl0)) rn0)) Qas) (slc (Qaq (rnc (.plain _ (NLt.fn _ _ _ nl0 nl0)) rn0)) Qas) (.plain _ nll) rfl rfl rfl,tv⟩ ?_
    refine bfe h (fun hc13 h=>?_) fun hc13 h=>?_
    ·refine wft hc13<|wxz ?_
     refine wmr (mto (n:=19) (l':=[(4,I y3)]) (own':=[Qra]) [(4,I y3)] [0] [Qra] hq (pw pn) (qb (lc (.rn (Qbj rn0 rn0)) ln) qn))<|Qai<|Qar<|Qaj<|Qaj<|Qar<|Qaj ?_
     obtain rfl:=osi h
     exact⟨_,Mor.rfl,fio [I y3] ⟨rot,tv⟩⟩
    ·exact wfn hc13<|Qam<|bln<|thn<|wxz1<|thn<|arm (mto (n:=19) [(0,(.dat 1 (p0.map Qac))),(1,Zay),(7,(I ((p0.length:Int)))),(8,(I (w64 (y3+1))))] [0] [Qra] hq (pc (rnd Qah) (pc (.rn (Qbj rn0 (rnc (rqr rfl) rn0))) (pw (pw pn)))) (qb (lc (.rn (Qbj rn0 rn0)) ln) qn)) (ih (w64 (y3+1)) h)
   ·exact wfn hc6<|Qa7<|Qau<|Qau<|Qa6 rfl<|thn<|⟨(),h,(mto (n:=19) [] [0] [Qra] hq pn (qb (lc (.rn (Qbj rn0 rn0)) ln) qn))⟩
def Qc2 (N:Nat) (p0:List Int):Option Bool:=
  (Qep N p0).bind fun x3=>
  some (decide (x3≥0))
abbrev Zpz:AV:=.fn (.func 157) [] [(.ref 0 1 (0) 0)]
abbrev Q70:Slot:=.own 1 [[(.fn (.func 150) [] [])]]
theorem Qjs (N:Nat) (p0:List Int) (r:Bool) (h:Qc2 N p0=some r):Spec prog 126 [(.dat 1 (p0.map Qac)),Zpz] [Q70] (B r) [Q70]:=by
  refine sF func126 1 fun _ _ _ hq hd0=>?_
  unfold Qc2 at h
  refine wxz ?_
  obtain⟨x3,hf2,h⟩:=bno h
  refine wx tbk [(2,⟨_,_,_,_,false⟩)] ⟨acq [(.dat 1 (p0.map Qac)),Zpz] [Q70] [Q70] (I x3) [0] Qr8 (Qk1 N p0 _ hf2) (Qbr (rnc (pld Qah) (rnc (Qbj rn0 (rnc (Qa0 rfl) rn0)) rn0))) (slc (Qaq (rnc (.plain _ (NLt.fn _ _ _ nl0 nl0)) rn0)) Qas) (slc (Qaq (rnc (.plain _ (NLt.fn _ _ _ nl0 nl0)) rn0)) Qas) (.plain _ nll),tv⟩ ?_
  refine wmr (mto (n:=9) (l':=[(4,(B ((decide (x3≥0)))))]) (own':=[Q70]) [(4,(B ((decide (x3≥0)))))] [0] [Q70] hq (pw pn) (qb (lc (.rn (Qbj rn0 rn0)) ln) qn))<|Qai ?_
  obtain rfl:=osi h
  exact⟨_,Mor.rfl,fio [(B ((decide (x3≥0))))] ⟨rot,tv⟩⟩
def Qh3 (N:Nat) (p0:List Int):Option Bool:=
  (Qc2 N p0).bind fun x2=>
  some (!x2)
def Zp0:AV:=.fn (.func 157) [] [(.ref 0 1 (0) 0)]
def Zp1:Slot:=.own 1 [[(.fn (.func 150) [] [])]]
theorem Qqm (N:Nat) (p0:List Int) (r:Bool) (h:Qh3 N p0=some r):Spec prog 151 [(.dat 1 (p0.map Qac)),(.fn (.func 150) [] [])] [] (B r) []:=by
  refine sA func151 0 fun _ _ _ hq hd0=>?_
  unfold Qh3 at h
  refine wxz ?_
  obtain⟨x2,hf1,h⟩:=bno h
  refine wx tbk [(1,rp [(.tmp 3,.ref 0 1 0 0)] Zp0),(2,⟨_,_,_,_,false⟩)] ⟨Qfv (fs:=[]) (cs:=[.ref 0 1 0 0]) rfl rfl rfl rfl,acq [(.dat 1 (p0.map Qac)),Zp0] [Zp1] [Zp1] (B x2) [0] Qr9 (Qjs N p0 _ hf1) (Qbr (rnc (pld Qah) (rnc (Qbj rn0 (rnc (Qa0 rfl) rn0)) rn0))) (slc (Qaq (rnc (.plain _ (NLt.fn _ _ _ nl0 nl0)) rn0)) Qas) (slc (Qaq (rnc (.plain _ (NLt.fn _ _ _ nl0 nl0)) rn0)) Qas) (.plain _ nll),tv⟩<|Qai ?_
  obtain rfl:=osi h
  exact fend ⟨[(B ((!x2)))],⟨rot,tv⟩,rfl⟩ nll
def Qks (_N:Nat) (p0:Int):Option Bool:=
  some (decide (p0>0))
theorem Qsv (N:Nat) (p0:Int) (r:Bool) (h:Qks N p0=some r):Spec prog 152 [(I p0)] [] (B r) []:=by
  refine sA func152 0 fun _ _ _ hq hd0=>?_
  unfold Qks at h
  refine wxz<|wxz<|Qai ?_
  obtain rfl:=osi h
  exact fend ⟨[(B ((decide (p0>0))))],⟨rot,tv⟩,rfl⟩ nll
def Qb4 (N:Nat) (p0:List Int) (k1:Unit→Option Int):Nat→Int→Option Int
  |0,_=>none
  |n4+1,y2=>
    bif (decide (y2<(p0.length:Int))) then
     (getI p0 y2).bind fun x6=>
     (Qks N x6).bind fun x11=>
     bif x11 then
      some y2
     else
      Qb4 N p0 k1 n4 (w64 (y2+1))
    else
     k1 ()
def Qeo (N:Nat) (p0:List Int):Option Int:=
  Qbc (fun _=>
    some (-1)) fun k1:Unit→Option Int=>
  Qb4 N p0 k1 N 0
theorem Qk0 (N:Nat) (p0:List Int) (r:Int) (h:Qeo N p0=some r):Spec prog 141 [(.dat 1 (p0.map Qac)),(.fn (.func 152) [] [])] [] (I r) []:=by
  refine sA func141 0 fun _ _ _ hq hd0=>?_
  unfold Qeo at h
  refine wxz ?_
  obtain⟨k1,hk_k1,h⟩:=jko h
  refine wjn (τ:=Unit) (fun t=>k1 t=some r) (fun _=>⟨mk 19 [],[]⟩) (fun t h=>?_) ?_
  ·subst hk_k1
   refine wxz<|Qai ?_
   obtain rfl:=osi h
   exact fend ⟨[(I ((-1)))],⟨rot,tv⟩,rfl⟩ nll
  ·skip
   refine wx tbk [(1,rp _ _)] ⟨alq 1 Qac p0 underlying27,tv⟩<|Qao ?_
   refine wmr (mto (n:=19) (l':=[(0,(.dat 1 (p0.map Qac))),(1,(.fn (.func 152) [] [])),(7,(I ((p0.length:Int)))),(8,I 0)]) (own':=[]) [(0,(.dat 1 (p0.map Qac))),(1,(.fn (.func 152) [] [])),(7,(I ((p0.length:Int)))),(8,I 0)] [] [] hq (pc (rnd Qah) (pc (.rn (Qbj rn0 rn0)) (pw (pw pn)))) qn) ?_
   refine Qbl (τ:=Int) (fun n t=>Qb4 N p0 k1 n t=some r) (fun y2=>⟨mk 19 [(0,(.dat 1 (p0.map Qac))),(1,(.fn (.func 152) [] [])),(7,(I ((p0.length:Int)))),(8,I y2)],[]⟩) (fun t h=>by rw[Qb4] at h;cases h) (fun n4 ih y2 h=>?_) N (0) h
   rw[Qb4] at h
   skip
   refine wxz<|wsq ?_
   refine bfe h (fun hc5 h=>?_) fun hc5 h=>?_
   ·refine wft hc5<|Qam<|thn<|wsq<|Qao<|wxz ?_
    obtain⟨x6,hg7,h⟩:=bno h
    obtain⟨hi8,hj9⟩:=gsm hg7
    obtain⟨x11,hf10,h⟩:=bno h
    refine wx tbk [(3,rp _ _),(5,rp _ _)] ⟨aiq underlying27 ti3 Qac hi8 hj9,apw Zhy (Qsv N x6 _ hf10),tv⟩ ?_
    refine bfe h (fun hc12 h=>?_) fun hc12 h=>?_
    ·refine wft hc12<|wxz<|Qai<|Qar<|Qaj<|Qaj<|Qar<|Qaj ?_
     obtain rfl:=osi h
     exact fend ⟨[I y2],⟨rot,tv⟩,rfl⟩ nll
    ·exact wfn hc12<|Qam<|bln<|thn<|wxz1<|thn<|arm (mto (n:=19) [(0,(.dat 1 (p0.map Qac))),(1,(.fn (.func 152) [] [])),(7,(I ((p0.length:Int)))),(8,(I (w64 (y2+1))))] [] [] hq (pc (rnd Qah) (pc (.rn (Qbj rn0 rn0)) (pw (pw pn)))) qn) (ih (w64 (y2+1)) h)
   ·exact wfn hc5<|Qa7<|Qau<|Qau<|Qa6 rfl<|thn<|⟨(),h,(mto (n:=19) [] [] [] hq pn qn)⟩
def Qck (N:Nat) (p0:List Int):Option Bool:=
  (Qeo N p0).bind fun x2=>
  some (decide (x2≥0))
theorem Qjr (N:Nat) (p0:List Int) (r:Bool) (h:Qck N p0=some r):Spec prog 126 [(.dat 1 (p0.map Qac)),(.fn (.func 152) [] [])] [] (B r) []:=by
  refine sA func126 0 fun _ _ _ hq hd0=>?_
  unfold Qck at h
  refine wxz ?_
  obtain⟨x2,hf1,h⟩:=bno h
  refine wx tbk [(2,rp _ _)] ⟨acq [(.dat 1 (p0.map Qac)),(.fn (.func 152) [] [])] [] [] (I x2) [] Qr8 (Qk0 N p0 _ hf1) (Qbr (rnc (pld Qah) (rnc (.plain _ (NLt.fn _ _ _ nl0 nl0)) rn0))) Qas Qas (.plain _ nll),tv⟩<|Qai ?_
  obtain rfl:=osi h
  exact fend ⟨[(B ((decide (x2≥0))))],⟨rot,tv⟩,rfl⟩ nll
def Qgf (_N:Nat) (p0 p1 p2:Int):Option Int:=
  chk (p2 != 0)<|
  some ((w64 (p1*p0)).tmod p2)
theorem Qlu (N:Nat) (p0 p1:Int) (p2 r:Int) (h:Qgf N p0 p1 p2=some r):Spec prog 159 [(I p0),(.ref 0 1 (0) 0),(.ref 1 1 (0) 0)] [(.own 1 [[(I p1)]]),(.own 1 [[(I p2)]])] (I r) [(.own 1 [[(I p1)]]),(.own 1 [[(I p2)]])]:=by
  refine sF func159 2 fun _ _ _ hq hd0=>?_
  unfold Qgf at h
  refine wxz ?_
  obtain⟨hz2,h⟩:=cko h
  refine wx tbk [(4,rp [(.tmp 7,(I (w64 (p1*p0)))),(.tmp 8,I p2)] (I ((w64 (p1*p0)).tmod p2)))] ⟨Qsj rfl (Qko hz2),tv⟩ ?_
  refine wmr (mto (n:=10) (l':=[(4,(I ((w64 (p1*p0)).tmod p2)))]) (own':=[(.own 1 [[I p1]]),(.own 1 [[I p2]])]) [(4,(I ((w64 (p1*p0)).tmod p2)))] [0,1] [(.own 1 [[I p1]]),(.own 1 [[I p2]])] hq (pw pn) (qb (lc rwl ln) (qb (lc rwl ln) qn)))<|Qai ?_
  obtain rfl:=osi h
  exact⟨_,Mor.rfl,fio [(I ((w64 (p1*p0)).tmod p2))] ⟨rot,tv⟩⟩
def Qfn (N:Nat) (p0 p1:Int) (p2:List Int) (p3 p4:Int):Option Int:=
  (getI p2 p1).bind fun x2=>
  (Qgf N x2 p3 p4).bind fun x7=>
  (getI p2 p0).bind fun x8=>
  (Qgf N x8 p3 p4).bind fun x13=>
  some (w64 (x7-x13))
abbrev Zf5:AV:=.fn (.func 159) [] [(.ref 2 1 (0) 0),(.ref 3 1 (0) 0)]
abbrev Zf4 (p2:List Int):Slot:=.own 1 [[(.dat 1 (p2.map Qac))]]
theorem Qnf (N:Nat) (p0 p1:Int) (p2:List Int) (p3 p4 r:Int) (h:Qfn N p0 p1 p2 p3 p4=some r):Spec prog 163 [(I p0),(I p1),(.ref 0 1 (0) 0),(.ref 1 1 (0) 0)] [(.own 1 [[Zf5]]),(Zf4 p2),(.own 1 [[(I p3)]]),(.own 1 [[(I p4)]])] (I r) [(.own 1 [[Zf5]]),(Zf4 p2),(.own 1 [[(I p3)]]),(.own 1 [[(I p4)]])]:=by
  refine sF func163 4 fun _ _ _ hq hd0=>?_
  unfold Qfn at h
  refine wxz ?_
  obtain⟨x2,hg3,h⟩:=bno h
  obtain⟨hi4,hj5⟩:=gsm hg3
  obtain⟨x7,hf6,h⟩:=bno h
  obtain⟨x8,hg9,h⟩:=bno h
  obtain⟨hi10,hj11⟩:=gsm hg9
  obtain⟨x13,hf12,h⟩:=bno h
  refine wxd tbk [(3,rp _ _),(5,⟨_,_,_,_,false⟩),(9,rp _ _),(11,⟨_,_,_,_,false⟩)] ⟨aiq underlying27 ti3 Qac hi4 hj5,Qdp (first:=[]) (cap:=[.ref 2 1 0 0,.ref 3 1 0 0]) (vs:=[I x2]) (σr:=[(.own 1 [[I p3]]),(.own 1 [[I p4]])]) (σr':=[(.own 1 [[I p3]]),(.own 1 [[I p4]])]) (res':=(I x7)) [2,3] rfl Q67 (Qlu N x2 p3 p4 _ hf6) rfl (Qbr (rnc (.plain _ nll) (rnc (Qa0 rfl) (rnc (Qa0 rfl) rn0)))) (slc (Qaq (rnc (.plain _ nll) rn0)) (slc (Qaq (rnc (.plain _ nll) rn0)) Qas)) (slc (Qaq (rnc (.plain _ nll) rn0)) (slc (Qaq (rnc (.plain _ nll) rn0)) Qas)) (.plain _ nll) rfl rfl rfl,aiq underlying27 ti3 Qac hi10 hj11,Qdp (first:=[]) (cap:=[.ref 2 1 0 0,.ref 3 1 0 0]) (vs:=[I x8]) (σr:=[(.own 1 [[I p3]]),(.own 1 [[I p4]])]) (σr':=[(.own 1 [[I p3]]),(.own 1 [[I p4]])]) (res':=(I x13)) [2,3] rfl Q67 (Qlu N x8 p3 p4 _ hf12) rfl (Qbr (rnc (.plain _ nll) (rnc (Qa0 rfl) (rnc (Qa0 rfl) rn0)))) (slc (Qaq (rnc (.plain _ nll) rn0)) (slc (Qaq (rnc (.plain _ nll) rn0)) Qas)) (slc (Qaq (rnc (.plain _ nll) rn0)) (slc (Qaq (rnc (.plain _ nll) rn0)) Qas)) (.plain _ nll) rfl rfl rfl,tv⟩ ?_
  refine wmr (mto (n:=20) (l':=[(6,(I (w64 (x7-x13))))]) (own':=[(.own 1 [[Zf5]]),(Zf4 p2),(.own 1 [[I p3]]),(.own 1 [[I p4]])]) [(6,(I (w64 (x7-x13))))] [0,1,2,3] [(.own 1 [[Zf5]]),(Zf4 p2),(.own 1 [[I p3]]),(.own 1 [[I p4]])] hq (pw pn) (qb (lc (.rn (Qbj rn0 (rnc (rqr rfl) (rnc (rqr rfl) rn0)))) ln) (qb (lc (rnd Qah) ln) (qb (lc rwl ln) (qb (lc rwl ln) qn)))))<|Qai ?_
  obtain rfl:=osi h
  exact⟨_,Mor.rfl,fio [(I (w64 (x7-x13)))] ⟨rot,tv⟩⟩
def Qbi (N p0:Nat) (p1:Int) (p4:List Int) (p5 p6:Int) (k9:(List Int)→Option (List Int)):Nat→Int→(List Int)→Option (List Int)
  |0,_,_=>none
  |n14+1,y10,y11=>
    Qbc (fun _=>
      chk (decide (0≤w64 (y10-1))&&decide ((w64 (y10-1)).toNat<p0))<|
      (y11[(w64 (y10-1)).toNat]?).bind fun x17=>
      chk (decide (0≤y10)&&decide (y10.toNat<p0))<|
      (y11[y10.toNat]?).bind fun x20=>
      chk (decide (0≤y10)&&decide (y10.toNat<p0))<|
      (y11[y10.toNat]?).bind fun _=>
      chk (decide (0≤w64 (y10-1))&&decide ((w64 (y10-1)).toNat<p0))<|
      ((y11.set y10.toNat x17)[(w64 (y10-1)).toNat]?).bind fun _=>
      Qbi N p0 p1 p4 p5 p6 k9 n14 (w64 (y10-1)) ((y11.set y10.toNat x17).set ((w64 (y10-1)).toNat) x20)) fun k15:Unit→Option (List Int)=>
    bif (decide (y10>p1)) then
     chk (decide (0≤y10)&&decide (y10.toNat<p0))<|
     (y11[y10.toNat]?).bind fun x30=>
     chk (decide (0≤w64 (y10-1))&&decide ((w64 (y10-1)).toNat<p0))<|
     (y11[(w64 (y10-1)).toNat]?).bind fun x33=>
     (Qfn N x30 x33 p4 p5 p6).bind fun x36=>
     bif (decide (x36<0)) then
      k15 ()
     else
      k9 (y11)
    else
     k9 (y11)
def Qa8 (N p0:Nat) (p1 p2:Int) (p4:List Int) (p5 p6:Int):Nat→Int→(List Int)→Option (List Int)
  |0,_,_=>none
  |n6+1,y2,y3=>
    bif (decide (y2<p2)) then
     Qbc (fun y8=>
       Qa8 N p0 p1 p2 p4 p5 p6 n6 (w64 (y2+1)) y8) fun k9:(List Int)→Option (List Int)=>
     Qbi N p0 p1 p4 p5 p6 k9 N y2 y3
    else
     some y3
def Qbo (N p0:Nat) (p1 p2:Int) (p3 p4:List Int) (p5 p6:Int):Option (List Int):=
  Qa8 N p0 p1 p2 p4 p5 p6 N (w64 (p1+1)) p3
abbrev Qqf:AV:=.fn (.func 163) [] [(.ref 1 1 (0) 0),(.ref 2 1 (0) 0)]
abbrev Qm4:AV:=.fn (.func 159) [] [(.ref 3 1 (0) 0),(.ref 4 1 (0) 0)]
abbrev Qm3 (p4:List Int):Slot:=.own 1 [[(.dat 1 (p4.map Qac))]]
theorem Qf9 (N p0:Nat) (p1 p2:Int) (p3 p4:List Int) (p5 p6:Int) (r:List Int) (h:Qbo N p0 p1 p2 p3 p4 p5 p6=some r):Spec prog 165 [(.own 0 1 (0) p0),(I p1),(I p2),Qqf] [(.own 1 (p3.map Qac)),(.own 1 [[Qm4]]),(Qm3 p4),(.own 1 [[(I p5)]]),(.own 1 [[(I p6)]])] (.tup []) [(.own 1 (r.map Qac)),(.own 1 [[Qm4]]),(Qm3 p4),(.own 1 [[(I p5)]]),(.own 1 [[(I p6)]])]:=by
  refine sF func165 5 fun _ _ _ hq hd0=>?_
  unfold Qbo at h
  refine wxz<|Qao ?_
  refine wmr (mto (n:=53) (l':=[(0,(.own 0 1 (0) p0)),(1,I p1),(2,I p2),(3,Qqf),(8,(I ((w64 (p1+1)))))]) (own':=[(.own 1 (p3.map Qac)),(.own 1 [[Qm4]]),(Qm3 p4),(.own 1 [[I p5]]),(.own 1 [[I p6]])]) [(0,(.own 0 1 (0) p0)),(1,I p1),(2,I p2),(3,Qqf),(8,(I (w64 (p1+1))))] [0,1,2,3,4] [(.own 1 (p3.map Qac)),(.own 1 [[Qm4]]),(Qm3 p4),(.own 1 [[I p5]]),(.own 1 [[I p6]])] hq (pc (.rn (Qav rfl)) (pw (pw (pc (.rn (Qbj rn0 (rnc (rqr rfl) (rnc (rqr rfl) rn0)))) (pw pn))))) (qc (spr Qah) (qb (lc (.rn (Qbj rn0 (rnc (rqr rfl) (rnc (rqr rfl) rn0)))) ln) (qb (lc (rnd Qah) ln) (qb (lc rwl ln) (qb (lc rwl ln) qn)))))) ?_
  refine Qbl (τ:=Int×(List Int)) (fun n t=>Qa8 N p0 p1 p2 p4 p5 p6 n t.1 t.2=some r) (fun ⟨y2,y3⟩=>⟨mk 53 [(0,(.own 0 1 (0) p0)),(1,I p1),(2,I p2),(3,Qqf),(8,I y2)],[(.own 1 (y3.map Qac)),(.own 1 [[Qm4]]),(Qm3 p4),(.own 1 [[I p5]]),(.own 1 [[I p6]])]⟩) (fun t h=>by rw[Qa8] at h;cases h) (fun n6 ih t h=>?_) N (w64 (p1+1),p3) h
  obtain⟨y2,y3⟩:=t
  rw[Qa8] at h
  skip
  refine wsq<|wxz ?_
  refine bfe h (fun hc7 h=>?_) fun hc7 h=>?_
  ·refine wft hc7<|Qam<|thn ?_
   obtain⟨k9,hk_k9,h⟩:=jko h
   refine wjn (τ:=(List Int)) (fun t=>k9 t=some r) (fun y8=>⟨mk 53 [(0,(.own 0 1 (0) p0)),(1,I p1),(2,I p2),(3,Qqf),(8,I y2)],[(.own 1 (y8.map Qac)),(.own 1 [[Qm4]]),(Qm3 p4),(.own 1 [[I p5]]),(.own 1 [[I p6]])]⟩) (fun y8 h=>?_) ?_
   ·subst hk_k9
    exact wxz1<|thn<|arm (mto (n:=53) [(0,(.own 0 1 (0) p0)),(1,I p1),(2,I p2),(3,Qqf),(8,(I (w64 (y2+1))))] [0,1,2,3,4] [(.own 1 (y8.map Qac)),(.own 1 [[Qm4]]),(Qm3 p4),(.own 1 [[I p5]]),(.own 1 [[I p6]])] hq (pc (.rn (Qav rfl)) (pw (pw (pc (.rn (Qbj rn0 (rnc (rqr rfl) (rnc (rqr rfl) rn0)))) (pw pn))))) (qc (spr Qah) (qb (lc (.rn (Qbj rn0 (rnc (rqr rfl) (rnc (rqr rfl) rn0)))) ln) (qb (lc (rnd Qah) ln) (qb (lc rwl ln) (qb (lc rwl ln) qn)))))) (ih (w64 (y2+1),y8) h)
   ·skip
    refine Qao<|wxz<|Qao ?_
    refine wmr (mto (n:=53) (l':=[(0,(.own 0 1 (0) p0)),(1,I p1),(2,I p2),(3,Qqf),(8,I y2),(9,I y2)]) (own':=[(.own 1 (y3.map Qac)),(.own 1 [[Qm4]]),(Qm3 p4),(.own 1 [[I p5]]),(.own 1 [[I p6]])]) [(0,(.own 0 1 (0) p0)),(1,I p1),(2,I p2),(3,Qqf),(8,I y2),(9,I y2)] [0,1,2,3,4] [(.own 1 (y3.map Qac)),(.own 1 [[Qm4]]),(Qm3 p4),(.own 1 [[I p5]]),(.own 1 [[I p6]])] hq (pc (.rn (Qav rfl)) (pw (pw (pc (.rn (Qbj rn0 (rnc (rqr rfl) (rnc (rqr rfl) rn0)))) (pw (pw pn)))))) (qc (spr Qah) (qb (lc (.rn (Qbj rn0 (rnc (rqr rfl) (rnc (rqr rfl) rn0)))) ln) (qb (lc (rnd Qah) ln) (qb (lc rwl ln) (qb (lc rwl ln) qn)))))) ?_
    refine Qbl (τ:=Int×(List Int)) (fun n t=>Qbi N p0 p1 p4 p5 p6 k9 n t.1 t.2=some r) (fun ⟨y10,y11⟩=>⟨mk 53 [(0,(.own 0 1 (0) p0)),(1,I p1),(2,I p2),(3,Qqf),(8,I y2),(9,I y10)],[(.own 1 (y11.map Qac)),(.own 1 [[Qm4]]),(Qm3 p4),(.own 1 [[I p5]]),(.own 1 [[I p6]])]⟩) (fun t h=>by rw[Qbi] at h;cases h) (fun n14 ih t h=>?_) N (y2,y3) h
    obtain⟨y10,y11⟩:=t
    rw[Qbi] at h
    skip
    obtain⟨k15,hk_k15,h⟩:=jko h
    refine wjn (τ:=Unit) (fun t=>k15 t=some r) (fun _=>⟨mk 53 [(0,(.own 0 1 (0) p0)),(1,I p1),(2,I p2),(3,Qqf),(8,I y2),(9,I y10)],[(.own 1 (y11.map Qac)),(.own 1 [[Qm4]]),(Qm3 p4),(.own 1 [[I p5]]),(.own 1 [[I p6]])]⟩) (fun t h=>?_) ?_
    ·subst hk_k15
     refine wsq<|Qao ?_
     obtain⟨hi16,h⟩:=cko h
     obtain⟨hi16a,hi16b⟩:=Qcv hi16
     obtain⟨x17,hg18,h⟩:=bno h
     obtain⟨hi19,h⟩:=cko h
     obtain⟨hi19a,hi19b⟩:=Qcv hi19
     obtain⟨x20,hg21,h⟩:=bno h
     obtain⟨hi22,h⟩:=cko h
     obtain⟨hi22a,hi22b⟩:=Qcv hi22
     obtain⟨x23,hg24,h⟩:=bno h
     obtain⟨hi25,h⟩:=cko h
     obtain⟨hi25a,hi25b⟩:=Qcv hi25
     obtain⟨x26,hg27,h⟩:=bno h
     refine wy1 tbk [(8,rb [(.tmp 42,(.own 0 1 (0) p0)),(.tmp 44,(I (w64 (y10-1))))] [(0,(.own 1 (y11.map Qac)))] (.ref 0 1 ((w64 (y10-1)).toNat) 0)),(9,rb [(.tmp 45,(.ref 0 1 ((w64 (y10-1)).toNat) 0))] [(0,(.own 1 (y11.map Qac)))] (I x17)),(12,rb [(.tmp 47,(.own 0 1 (0) p0)),(.tmp 48,I y10)] [(0,(.own 1 (y11.map Qac)))] (.ref 0 1 y10.toNat 0)),(13,rb [(.tmp 49,(.ref 0 1 y10.toNat 0))] [(0,(.own 1 (y11.map Qac)))] (I x20)),(14,rb [(.tmp 37,(.own 0 1 (0) p0)),(.tmp 38,I y10)] [(0,(.own 1 (y11.map Qac)))] (.ref 0 1 y10.toNat 0)),(15,⟨[(.tmp 51,(.ref 0 1 y10.toNat 0)),(.tmp 46,I x17)],[(0,(.own 1 (y11.map Qac)))],.any,[(0,(.own 1 ((y11.set y10.toNat x17:List Int).map Qac)))],false⟩),(16,rb [(.tmp 39,(.own 0 1 (0) p0)),(.tmp 41,(I (w64 (y10-1))))] [(0,(.own 1 ((y11.set y10.toNat x17:List Int).map Qac)))] (.ref 0 1 ((w64 (y10-1)).toNat) 0)),(17,⟨[(.tmp 52,(.ref 0 1 ((w64 (y10-1)).toNat) 0)),(.tmp 50,I x20)],[(0,(.own 1 ((y11.set y10.toNat x17:List Int).map Qac)))],.any,[(0,(.own 1 (((y11.set y10.toNat x17).set ((w64 (y10-1)).toNat) x20:List Int).map Qac)))],false⟩)] ⟨aio rfl underlying27 ti3 (odt hi16a) (odt hi16b) (Nat.zero_add _),ald rfl ti3 (by decide) (mgt Qac hg18) (nle rfl) rfl,aio rfl underlying27 ti3 (odt hi19a) (odt hi19b) (Nat.zero_add _),ald rfl ti3 (by decide) (mgt Qac hg21) (nle rfl) rfl,aio rfl underlying27 ti3 (odt hi22a) (odt hi22b) (Nat.zero_add _),ast rfl ti3 (by rfl) (mgt Qac hg24) (nle rfl) (Qff Qac rfl),aio rfl underlying27 ti3 (odt hi25a) (odt hi25b) (Nat.zero_add _),ast rfl ti3 (by rfl) (mgt Qac hg27) (nle rfl) (Qff Qac rfl),tv⟩<|bln<|thn<|wxz1<|thn ?_
     exact arm (mto (n:=53) [(0,(.own 0 1 (0) p0)),(1,I p1),(2,I p2),(3,Qqf),(8,I y2),(9,(I (w64 (y10-1))))] [0,1,2,3,4] [(.own 1 (((y11.set y10.toNat x17).set ((w64 (y10-1)).toNat) x20:List Int).map Qac)),(.own 1 [[Qm4]]),(Qm3 p4),(.own 1 [[I p5]]),(.own 1 [[I p6]])] hq (pc (.rn (Qav rfl)) (pw (pw (pc (.rn (Qbj rn0 (rnc (rqr rfl) (rnc (rqr rfl) rn0)))) (pw (pw pn)))))) (qc (spr Qah) (qb (lc (.rn (Qbj rn0 (rnc (rqr rfl) (rnc (rqr rfl) rn0)))) ln) (qb (lc (rnd Qah) ln) (qb (lc rwl ln) (qb (lc rwl ln) qn)))))) (ih (w64 (y10-1),(y11.set y10.toNat x17).set ((w64 (y10-1)).toNat) x20) h)
    ·skip
     refine bfe h (fun hb28 h=>?_) fun hb28 h=>?_
     ·obtain⟨hi29,h⟩:=cko h
      obtain⟨hi29a,hi29b⟩:=Qcv hi29
      obtain⟨x30,hg31,h⟩:=bno h
      obtain⟨hi32,h⟩:=cko h
      obtain⟨hi32a,hi32b⟩:=Qcv hi32
      obtain⟨x33,hg34,h⟩:=bno h
      obtain⟨x36,hf35,h⟩:=bno h
      refine wxd tbk [(3,rp [(.tmp 20,(B ((decide (y10>p1)))))] (B true)),(7,rb [(.tmp 21,B true),(.tmp 23,(.own 0 1 (0) p0)),(.tmp 24,I y10)] [(0,(.own 1 (y11.map Qac)))] (.ref 0 1 y10.toNat 0)),(8,rb [(.tmp 21,B true),(.tmp 25,(.ref 0 1 y10.toNat 0))] [(0,(.own 1 (y11.map Qac)))] (I x30)),(12,rb [(.tmp 21,B true),(.tmp 27,(.own 0 1 (0) p0)),(.tmp 29,(I (w64 (y10-1))))] [(0,(.own 1 (y11.map Qac)))] (.ref 0 1 ((w64 (y10-1)).toNat) 0)),(13,rb [(.tmp 21,B true),(.tmp 30,(.ref 0 1 ((w64 (y10-1)).toNat) 0))] [(0,(.own 1 (y11.map Qac)))] (I x33)),(14,⟨[(.tmp 21,B true),(.tmp 22,Qqf),(.tmp 26,I x30),(.tmp 31,I x33)],[(1,.own 1 [[Qm4]]),(2,(Qm3 p4)),(3,.own 1 [[I p5]]),(4,.own 1 [[I p6]])],I x36,[(1,.own 1 [[Qm4]]),(2,(Qm3 p4)),(3,.own 1 [[I p5]]),(4,.own 1 [[I p6]])],false⟩)] ⟨asb hb28 (amv rfl),ag_ (aio rfl underlying27 ti3 (odt hi29a) (odt hi29b) (Nat.zero_add _)),ag_ (ald rfl ti3 (by decide) (mgt Qac hg31) (nle rfl) rfl),ag_ (aio rfl underlying27 ti3 (odt hi32a) (odt hi32b) (Nat.zero_add _)),ag_ (ald rfl ti3 (by decide) (mgt Qac hg34) (nle rfl) rfl),ag_ (Qdp (first:=[]) (cap:=[.ref 1 1 0 0,.ref 2 1 0 0]) (vs:=[I x30,I x33]) (σr:=[(.own 1 [[Qm4]]),(Qm3 p4),(.own 1 [[I p5]]),(.own 1 [[I p6]])]) (σr':=[(.own 1 [[Qm4]]),(Qm3 p4),(.own 1 [[I p5]]),(.own 1 [[I p6]])]) (res':=(I x36)) [1,2,3,4] rfl Zhq (Qnf N x30 x33 p4 p5 p6 _ hf35) rfl (Qbr (rncc (rnc (Qa0 rfl) (rnc (Qa0 rfl) rn0)))) (slc (Qaq (rnc (Qbj rn0 (rnc (Qa0 rfl) (rnc (Qa0 rfl) rn0))) rn0)) (slc (Qaq (rnc (pld Qah) rn0)) (slc (Qaq (rnc (.plain _ nll) rn0)) (slc (Qaq (rnc (.plain _ nll) rn0)) Qas)))) (slc (Qaq (rnc (Qbj rn0 (rnc (Qbb rfl) (rnc (Qbb rfl) rn0))) rn0)) (slc (Qaq (rnc (pld Qah) rn0)) (slc (Qaq (rnc (.plain _ nll) rn0)) (slc (Qaq (rnc (.plain _ nll) rn0)) Qas)))) (.plain _ nll) rfl rfl rfl),tv⟩ ?_
      refine bfe h (fun hc37 h=>?_) fun hc37 h=>?_
      ·exact wft hc37<|Qam<|thn<|⟨(),h,(mto (n:=53) [(0,(.own 0 1 (0) p0)),(1,I p1),(2,I p2),(3,Qqf),(8,I y2),(9,I y10)] [0,1,2,3,4] [(.own 1 (y11.map Qac)),(.own 1 [[Qm4]]),(Qm3 p4),(.own 1 [[I p5]]),(.own 1 [[I p6]])] hq (pc (.rn (Qav rfl)) (pw (pw (pc (.rn (Qbj rn0 (rnc (rqr rfl) (rnc (rqr rfl) rn0)))) (pw (pw pn)))))) (qc (spr Qah) (qb (lc (.rn (Qbj rn0 (rnc (rqr rfl) (rnc (rqr rfl) rn0)))) ln) (qb (lc (rnd Qah) ln) (qb (lc rwl ln) (qb (lc rwl ln) qn))))))⟩
      ·exact wfn hc37<|Qa7<|Qau<|Qau<|Qa6 rfl<|bln<|thn<|⟨(y11),h,(mto (n:=53) [(0,(.own 0 1 (0) p0)),(1,I p1),(2,I p2),(3,Qqf),(8,I y2)] [0,1,2,3,4] [(.own 1 (y11.map Qac)),(.own 1 [[Qm4]]),(Qm3 p4),(.own 1 [[I p5]]),(.own 1 [[I p6]])] hq (pc (.rn (Qav rfl)) (pw (pw (pc (.rn (Qbj rn0 (rnc (rqr rfl) (rnc (rqr rfl) rn0)))) (pw pn))))) (qc (spr Qah) (qb (lc (.rn (Qbj rn0 (rnc (rqr rfl) (rnc (rqr rfl) rn0)))) ln) (qb (lc (rnd Qah) ln) (qb (lc rwl ln) (qb (lc rwl ln) qn))))))⟩
     ·exact wxd tbk [(3,rp [(.tmp 20,(B ((decide (y10>p1)))))] (B false))] ⟨asb hb28 (amv rfl),tv⟩<|wfa<|Qa7<|Qau<|Qau<|Qa6 rfl<|bln<|thn<|⟨(y11),h,(mto (n:=53) [(0,(.own 0 1 (0) p0)),(1,I p1),(2,I p2),(3,Qqf),(8,I y2)] [0,1,2,3,4] [(.own 1 (y11.map Qac)),(.own 1 [[Qm4]]),(Qm3 p4),(.own 1 [[I p5]]),(.own 1 [[I p6]])] hq (pc (.rn (Qav rfl)) (pw (pw (pc (.rn (Qbj rn0 (rnc (rqr rfl) (rnc (rqr rfl) rn0)))) (pw pn))))) (qc (spr Qah) (qb (lc (.rn (Qbj rn0 (rnc (rqr rfl) (rnc (rqr rfl) rn0)))) ln) (qb (lc (rnd Qah) ln) (qb (lc rwl ln) (qb (lc rwl ln) qn))))))⟩
  ·refine wfn hc7<|Qa7<|Qau<|Qau<|Qa6 rfl ?_
   obtain rfl:=osi h
   exact⟨_,(mto (n:=53) (l':=[]) (own':=[(.own 1 (y3.map Qac)),(.own 1 [[Qm4]]),(Qm3 p4),(.own 1 [[I p5]]),(.own 1 [[I p6]])]) [] [0,1,2,3,4] [(.own 1 (y3.map Qac)),(.own 1 [[Qm4]]),(Qm3 p4),(.own 1 [[I p5]]),(.own 1 [[I p6]])] hq pn (qc (spr Qah) (qb (lc (.rn (Qbj rn0 (rnc (rqr rfl) (rnc (rqr rfl) rn0)))) ln) (qb (lc (rnd Qah) ln) (qb (lc rwl ln) (qb (lc rwl ln) qn)))))),fio [] tv⟩
def Qdi (N:Nat) (p1:Int) (k9:Unit→Option (List Int)):Nat→Option (List Int)
  |0=>none
  |n10+1=>
    bif (decide (40≤p1)) then
     none
    else
     k9 ()
def Qb1 (N:Nat) (p1:Int) (x6:List Int):Nat→Option (List Int)
  |0=>none
  |n7+1=>
    bif (decide (20<p1)) then
     Qbc (fun _=>
       none) fun k9:Unit→Option (List Int)=>
     Qdi N p1 k9 N
    else
     some x6
def Qbw (N p0:Nat) (p1:Int) (p3:List Int) (k4:Int×(List Int)→Option (List Int)) (p4 p5:Int):Nat→Int→Int→(List Int)→Option (List Int)
  |0,_,_,_=>none
  |n18+1,y12,y13,y14=>
    bif (decide (y13≤p1)) then
     (Qbo N p0 y12 y13 y14 p3 p4 p5).bind fun x21=>
     Qbw N p0 p1 p3 k4 p4 p5 n18 y13 (w64 (y13+20)) x21
    else
     k4 (y12,y14)
def Qen (N p0:Nat) (p1:Int) (p2 p3:List Int) (p4 p5:Int):Option (List Int):=
  Qbc (fun ⟨y2,y3⟩=>
    (Qbo N p0 y2 p1 y3 p3 p4 p5).bind fun x6=>
    Qb1 N p1 x6 N) fun k4:Int×(List Int)→Option (List Int)=>
  Qbw N p0 p1 p3 k4 p4 p5 N 0 20 p2
abbrev Qow:AV:=.fn (.func 163) [] [(.ref 1 1 (0) 0),(.ref 2 1 (0) 0)]
abbrev Qmp:AV:=.fn (.func 159) [] [(.ref 3 1 (0) 0),(.ref 4 1 (0) 0)]
abbrev Qmo (p3:List Int):Slot:=.own 1 [[(.dat 1 (p3.map Qac))]]
theorem Qkz (N p0:Nat) (p1:Int) (p2 p3:List Int) (p4 p5:Int) (r:List Int) (h:Qen N p0 p1 p2 p3 p4 p5=some r):Spec prog 164 [(.own 0 1 (0) p0),(I p1),Qow] [(.own 1 (p2.map Qac)),(.own 1 [[Qmp]]),(Qmo p3),(.own 1 [[(I p4)]]),(.own 1 [[(I p5)]])] (.tup []) [(.own 1 (r.map Qac)),(.own 1 [[Qmp]]),(Qmo p3),(.own 1 [[(I p4)]]),(.own 1 [[(I p5)]])]:=by
  refine sF func164 5 fun _ _ _ hq hd0=>?_
  unfold Qen at h
  refine wxz<|wxz ?_
  obtain⟨k4,hk_k4,h⟩:=jko h
  refine wjn (τ:=Int×(List Int)) (fun t=>k4 t=some r) (fun ⟨y2,y3⟩=>⟨mk 63 [(0,(.own 0 1 (0) p0)),(1,I p1),(2,Qow),(6,I 20),(7,I y2)],[(.own 1 (y3.map Qac)),(.own 1 [[Qmp]]),(Qmo p3),(.own 1 [[I p4]]),(.own 1 [[I p5]])]⟩) (fun t h=>?_) ?_
  ·subst hk_k4
   obtain⟨y2,y3⟩:=t
   obtain⟨x6,hf5,h⟩:=bno h
   refine wx tbk [(4,⟨_,_,_,_,false⟩)] ⟨acq [(.own 0 1 (0) p0),I y2,I p1,Qow] [(.own 1 (y3.map Qac)),(.own 1 [[Qmp]]),(Qmo p3),(.own 1 [[I p4]]),(.own 1 [[I p5]])] [(.own 1 (x6.map Qac)),(.own 1 [[Qmp]]),(Qmo p3),(.own 1 [[I p4]]),(.own 1 [[I p5]])] (.tup []) [0,1,2,3,4] Q66 (Qf9 N p0 y2 p1 y3 p3 p4 p5 _ hf5) (Qbr (rnc (Qcs rfl) (rncc (rnc (Qbj rn0 (rnc (Qa0 rfl) (rnc (Qa0 rfl) rn0))) rn0)))) (slc (Qba Qah) (slc (Qaq (rnc (Qbj rn0 (rnc (Qa0 rfl) (rnc (Qa0 rfl) rn0))) rn0)) (slc (Qaq (rnc (pld Qah) rn0)) (slc (Qaq (rnc (.plain _ nll) rn0)) (slc (Qaq (rnc (.plain _ nll) rn0)) Qas))))) (slc (Qba Qah) (slc (Qaq (rnc (Qbj rn0 (rnc (Qbb rfl) (rnc (Qbb rfl) rn0))) rn0)) (slc (Qaq (rnc (pld Qah) rn0)) (slc (Qaq (rnc (.plain _ nll) rn0)) (slc (Qaq (rnc (.plain _ nll) rn0)) Qas))))) (.plain _ (NLt.tup _ nl0)),tv⟩<|Qao ?_
   refine wmr (mto (n:=63) (l':=[(0,(.own 0 1 (0) p0)),(1,I p1),(2,Qow),(6,I 20)]) (own':=[(.own 1 (x6.map Qac)),(.own 1 [[Qmp]]),(Qmo p3),(.own 1 [[I p4]]),(.own 1 [[I p5]])]) [(0,(.own 0 1 (0) p0)),(1,I p1),(2,Qow),(6,I 20)] [0,1,2,3,4] [(.own 1 (x6.map Qac)),(.own 1 [[Qmp]]),(Qmo p3),(.own 1 [[I p4]]),(.own 1 [[I p5]])] hq (pc (.rn (Qav rfl)) (pw (pc (.rn (Qbj rn0 (rnc (rqr rfl) (rnc (rqr rfl) rn0)))) (pw pn)))) (qc (spr Qah) (qb (lc (.rn (Qbj rn0 (rnc (rqr rfl) (rnc (rqr rfl) rn0)))) ln) (qb (lc (rnd Qah) ln) (qb (lc rwl ln) (qb (lc rwl ln) qn)))))) ?_
   refine Qbl (τ:=Unit) (fun n t=>Qb1 N p1 x6 n=some r) (fun _=>⟨mk 63 [(0,(.own 0 1 (0) p0)),(1,I p1),(2,Qow),(6,I 20)],[(.own 1 (x6.map Qac)),(.own 1 [[Qmp]]),(Qmo p3),(.own 1 [[I p4]]),(.own 1 [[I p5]])]⟩) (fun t h=>by rw[Qb1] at h;cases h) (fun n7 ih t h=>?_) N () h
   rw[Qb1] at h
   skip
   refine wsq<|wxz ?_
   refine bfe h (fun hc8 h=>?_) fun hc8 h=>?_
   ·refine wft hc8<|Qam<|thn<|Qao<|wxz ?_
    obtain⟨k9,hk_k9,h⟩:=jko h
    refine wjn (τ:=Unit) (fun t=>k9 t=some r) (fun _=>⟨mk 63 [(0,(.own 0 1 (0) p0)),(1,I p1),(2,Qow),(6,I 20),(7,I 0)],[(.own 1 (x6.map Qac)),(.own 1 [[Qmp]]),(Qmo p3),(.own 1 [[I p4]]),(.own 1 [[I p5]])]⟩) (fun t h=>?_) ?_
    ·subst hk_k9
     refine wsq<|wxz<|wxz<|wft hc8 ?_
     cases h
    ·skip
     refine Qao<|wmr (mto (n:=63) (l':=[(0,(.own 0 1 (0) p0)),(1,I p1),(2,Qow),(6,I 20),(7,I 0),(8,I 40)]) (own':=[(.own 1 (x6.map Qac)),(.own 1 [[Qmp]]),(Qmo p3),(.own 1 [[I p4]]),(.own 1 [[I p5]])]) [(0,(.own 0 1 (0) p0)),(1,I p1),(2,Qow),(6,I 20),(7,I 0),(8,I 40)] [0,1,2,3,4] [(.own 1 (x6.map Qac)),(.own 1 [[Qmp]]),(Qmo p3),(.own 1 [[I p4]]),(.own 1 [[I p5]])] hq (pc (.rn (Qav rfl)) (pw (pc (.rn (Qbj rn0 (rnc (rqr rfl) (rnc (rqr rfl) rn0)))) (pw (pw (pw pn)))))) (qc (spr Qah) (qb (lc (.rn (Qbj rn0 (rnc (rqr rfl) (rnc (rqr rfl) rn0)))) ln) (qb (lc (rnd Qah) ln) (qb (lc rwl ln) (qb (lc rwl ln) qn)))))) ?_
     refine Qbl (τ:=Unit) (fun n t=>Qdi N p1 k9 n=some r) (fun _=>⟨mk 63 [(0,(.own 0 1 (0) p0)),(1,I p1),(2,Qow),(6,I 20),(7,I 0),(8,I 40)],[(.own 1 (x6.map Qac)),(.own 1 [[Qmp]]),(Qmo p3),(.own 1 [[I p4]]),(.own 1 [[I p5]])]⟩) (fun t h=>by rw[Qdi] at h;cases h) (fun n10 ih t h=>?_) N () h
     rw[Qdi] at h
     skip
     refine wsq<|wxz ?_
     refine bfe h (fun hc11 h=>?_) fun hc11 h=>?_
     ·refine wft hc11<|Qam<|thn<|Qao ?_
      cases h
     ·exact wfn hc11<|Qa7<|Qau<|Qau<|Qa6 rfl<|thn<|⟨(),h,(mto (n:=63) [(0,(.own 0 1 (0) p0)),(1,I p1),(2,Qow),(6,I 20),(7,I 0)] [0,1,2,3,4] [(.own 1 (x6.map Qac)),(.own 1 [[Qmp]]),(Qmo p3),(.own 1 [[I p4]]),(.own 1 [[I p5]])] hq (pc (.rn (Qav rfl)) (pw (pc (.rn (Qbj rn0 (rnc (rqr rfl) (rnc (rqr rfl) rn0)))) (pw (pw pn))))) (qc (spr Qah) (qb (lc (.rn (Qbj rn0 (rnc (rqr rfl) (rnc (rqr rfl) rn0)))) ln) (qb (lc (rnd Qah) ln) (qb (lc rwl ln) (qb (lc rwl ln) qn))))))⟩
   ·refine wfn hc8<|Qa7<|Qau<|Qau<|Qa6 rfl ?_
    obtain rfl:=osi h
    exact⟨_,(mto (n:=63) (l':=[]) (own':=[(.own 1 (x6.map Qac)),(.own 1 [[Qmp]]),(Qmo p3),(.own 1 [[I p4]]),(.own 1 [[I p5]])]) [] [0,1,2,3,4] [(.own 1 (x6.map Qac)),(.own 1 [[Qmp]]),(Qmo p3),(.own 1 [[I p4]]),(.own 1 [[I p5]])] hq pn (qc (spr Qah) (qb (lc (.rn (Qbj rn0 (rnc (rqr rfl) (rnc (rqr rfl) rn0)))) ln) (qb (lc (rnd Qah) ln) (qb (lc rwl ln) (qb (lc rwl ln) qn)))))),fio [] tv⟩
  ·skip
   refine Qao<|wmr (mto (n:=63) (l':=[(0,(.own 0 1 (0) p0)),(1,I p1),(2,Qow),(6,I 20),(7,I 0),(8,I 20)]) (own':=[(.own 1 (p2.map Qac)),(.own 1 [[Qmp]]),(Qmo p3),(.own 1 [[I p4]]),(.own 1 [[I p5]])]) [(0,(.own 0 1 (0) p0)),(1,I p1),(2,Qow),(6,I 20),(7,I 0),(8,I 20)] [0,1,2,3,4] [(.own 1 (p2.map Qac)),(.own 1 [[Qmp]]),(Qmo p3),(.own 1 [[I p4]]),(.own 1 [[I p5]])] hq (pc (.rn (Qav rfl)) (pw (pc (.rn (Qbj rn0 (rnc (rqr rfl) (rnc (rqr rfl) rn0)))) (pw (pw (pw pn)))))) (qc (spr Qah) (qb (lc (.rn (Qbj rn0 (rnc (rqr rfl) (rnc (rqr rfl) rn0)))) ln) (qb (lc (rnd Qah) ln) (qb (lc rwl ln) (qb (lc rwl ln) qn)))))) ?_
   refine Qbl (τ:=Int×Int×(List Int)) (fun n t=>Qbw N p0 p1 p3 k4 p4 p5 n t.1 t.2.1 t.2.2=some r) (fun ⟨y12,y13,y14⟩=>⟨mk 63 [(0,(.own 0 1 (0) p0)),(1,I p1),(2,Qow),(6,I 20),(7,I y12),(8,I y13)],[(.own 1 (y14.map Qac)),(.own 1 [[Qmp]]),(Qmo p3),(.own 1 [[I p4]]),(.own 1 [[I p5]])]⟩) (fun t h=>by rw[Qbw] at h;cases h) (fun n18 ih t h=>?_) N (0,20,p2) h
   obtain⟨y12,y13,y14⟩:=t
   rw[Qbw] at h
   skip
   refine wsq<|wxz ?_
   refine bfe h (fun hc19 h=>?_) fun hc19 h=>?_
   ·refine wft hc19<|Qam<|thn<|Qao ?_
    obtain⟨x21,hf20,h⟩:=bno h
    refine wx tbk [(4,⟨_,_,_,_,false⟩)] ⟨acq [(.own 0 1 (0) p0),I y12,I y13,Qow] [(.own 1 (y14.map Qac)),(.own 1 [[Qmp]]),(Qmo p3),(.own 1 [[I p4]]),(.own 1 [[I p5]])] [(.own 1 (x21.map Qac)),(.own 1 [[Qmp]]),(Qmo p3),(.own 1 [[I p4]]),(.own 1 [[I p5]])] (.tup []) [0,1,2,3,4] Q66 (Qf9 N p0 y12 y13 y14 p3 p4 p5 _ hf20) (Qbr (rnc (Qcs rfl) (rncc (rnc (Qbj rn0 (rnc (Qa0 rfl) (rnc (Qa0 rfl) rn0))) rn0)))) (slc (Qba Qah) (slc (Qaq (rnc (Qbj rn0 (rnc (Qa0 rfl) (rnc (Qa0 rfl) rn0))) rn0)) (slc (Qaq (rnc (pld Qah) rn0)) (slc (Qaq (rnc (.plain _ nll) rn0)) (slc (Qaq (rnc (.plain _ nll) rn0)) Qas))))) (slc (Qba Qah) (slc (Qaq (rnc (Qbj rn0 (rnc (Qbb rfl) (rnc (Qbb rfl) rn0))) rn0)) (slc (Qaq (rnc (pld Qah) rn0)) (slc (Qaq (rnc (.plain _ nll) rn0)) (slc (Qaq (rnc (.plain _ nll) rn0)) Qas))))) (.plain _ (NLt.tup _ nl0)),tv⟩<|wxz<|wxz1<|bln<|thn ?_
    exact arm (mto (n:=63) [(0,(.own 0 1 (0) p0)),(1,I p1),(2,Qow),(6,I 20),(7,I y13),(8,(I (w64 (y13+20))))] [0,1,2,3,4] [(.own 1 (x21.map Qac)),(.own 1 [[Qmp]]),(Qmo p3),(.own 1 [[I p4]]),(.own 1 [[I p5]])] hq (pc (.rn (Qav rfl)) (pw (pc (.rn (Qbj rn0 (rnc (rqr rfl) (rnc (rqr rfl) rn0)))) (pw (pw (pw pn)))))) (qc (spr Qah) (qb (lc (.rn (Qbj rn0 (rnc (rqr rfl) (rnc (rqr rfl) rn0)))) ln) (qb (lc (rnd Qah) ln) (qb (lc rwl ln) (qb (lc rwl ln) qn)))))) (ih (y13,w64 (y13+20),x21) h)
   ·exact wfn hc19<|Qa7<|Qau<|Qau<|Qa6 rfl<|thn<|⟨(y12,y14),h,(mto (n:=63) [(0,(.own 0 1 (0) p0)),(1,I p1),(2,Qow),(6,I 20),(7,I y12)] [0,1,2,3,4] [(.own 1 (y14.map Qac)),(.own 1 [[Qmp]]),(Qmo p3),(.own 1 [[I p4]]),(.own 1 [[I p5]])] hq (pc (.rn (Qav rfl)) (pw (pc (.rn (Qbj rn0 (rnc (rqr rfl) (rnc (rqr rfl) rn0)))) (pw (pw pn))))) (qc (spr Qah) (qb (lc (.rn (Qbj rn0 (rnc (rqr rfl) (rnc (rqr rfl) rn0)))) ln) (qb (lc (rnd Qah) ln) (qb (lc rwl ln) (qb (lc rwl ln) qn))))))⟩
def Qcc (N p0:Nat) (p1 p2:List Int) (p3 p4:Int):Option (List Int):=
  (Qen N p0 ((p0:Nat):Int) p1 p2 p3 p4).bind fun x3=>
  some x3
abbrev Zpw:AV:=.fn (.func 163) [] [(.ref 1 1 (0) 0),(.ref 2 1 (0) 0)]
abbrev Q7z:AV:=.fn (.func 159) [] [(.ref 3 1 (0) 0),(.ref 4 1 (0) 0)]
abbrev Q7y (p2:List Int):Slot:=.own 1 [[(.dat 1 (p2.map Qac))]]
theorem Qi9 (N p0:Nat) (p1 p2:List Int) (p3 p4:Int) (r:List Int) (h:Qcc N p0 p1 p2 p3 p4=some r):Spec prog 162 [(.own 0 1 (0) p0),Zpw] [(.own 1 (p1.map Qac)),(.own 1 [[Q7z]]),(Q7y p2),(.own 1 [[(I p3)]]),(.own 1 [[(I p4)]])] (.tup []) [(.own 1 (r.map Qac)),(.own 1 [[Q7z]]),(Q7y p2),(.own 1 [[(I p3)]]),(.own 1 [[(I p4)]])]:=by
  refine sF func162 5 fun _ _ _ hq hd0=>?_
  unfold Qcc at h
  obtain⟨x3,hf2,h⟩:=bno h
  refine wx1 tbk [(2,rp [(.tmp 5,(.own 0 1 (0) p0))] (I (((p0:Nat):Int)))),(4,⟨_,_,_,_,false⟩)] ⟨aln rfl underlying27 rfl,acq [(.own 0 1 (0) p0),(I (((p0:Nat):Int))),Zpw] [(.own 1 (p1.map Qac)),(.own 1 [[Q7z]]),(Q7y p2),(.own 1 [[I p3]]),(.own 1 [[I p4]])] [(.own 1 (x3.map Qac)),(.own 1 [[Q7z]]),(Q7y p2),(.own 1 [[I p3]]),(.own 1 [[I p4]])] (.tup []) [0,1,2,3,4] Zhp (Qkz N p0 ((p0:Nat):Int) p1 p2 p3 p4 _ hf2) (Qbr (rnc (Qcs rfl) (rnc (.plain _ nll) (rnc (Qbj rn0 (rnc (Qa0 rfl) (rnc (Qa0 rfl) rn0))) rn0)))) (slc (Qba Qah) (slc (Qaq (rnc (Qbj rn0 (rnc (Qa0 rfl) (rnc (Qa0 rfl) rn0))) rn0)) (slc (Qaq (rnc (pld Qah) rn0)) (slc (Qaq (rnc (.plain _ nll) rn0)) (slc (Qaq (rnc (.plain _ nll) rn0)) Qas))))) (slc (Qba Qah) (slc (Qaq (rnc (Qbj rn0 (rnc (Qbb rfl) (rnc (Qbb rfl) rn0))) rn0)) (slc (Qaq (rnc (pld Qah) rn0)) (slc (Qaq (rnc (.plain _ nll) rn0)) (slc (Qaq (rnc (.plain _ nll) rn0)) Qas))))) (.plain _ (NLt.tup _ nl0)),tv⟩ ?_
  obtain rfl:=osi h
  exact⟨_,(mto (n:=9) (l':=[]) (own':=[(.own 1 (x3.map Qac)),(.own 1 [[Q7z]]),(Q7y p2),(.own 1 [[I p3]]),(.own 1 [[I p4]])]) [] [0,1,2,3,4] [(.own 1 (x3.map Qac)),(.own 1 [[Q7z]]),(Q7y p2),(.own 1 [[I p3]]),(.own 1 [[I p4]])] hq pn (qc (spr Qah) (qb (lc (.rn (Qbj rn0 (rnc (rqr rfl) (rnc (rqr rfl) rn0)))) ln) (qb (lc (rnd Qah) ln) (qb (lc rwl ln) (qb (lc rwl ln) qn)))))),fio [] tv⟩
def Qcr (N:Nat) (p0:List Int) (k4:(List Int)→Option (List Int)):Nat→Int→(List Int)→Option (List Int)
  |0,_,_=>none
  |n13+1,y9,y10=>
    bif (decide (y9<(p0.length:Int))) then
     chk (decide ((y10.length+([y9]).length)*8≤140737488355328))<|
     Qcr N p0 k4 n13 (w64 (y9+1)) (y10++([y9]))
    else
     k4 (y10)
def Qgi (N:Nat) (p0:List Int) (p1 p2:Int):Option (List Int):=
  Qbc (fun y3=>
    chk (!y3.isEmpty)<|
    (Qcc N y3.length y3 p0 p1 p2).bind fun x7=>
    chk (decide (y3.length≤x7.length))<|
    some (x7.take y3.length)) fun k4:(List Int)→Option (List Int)=>
  Qcr N p0 k4 N 0 ([]:List Int)
abbrev Qt9:AV:=.fn (.func 159) [] [(.ref 0 1 (0) 0),(.ref 1 1 (0) 0)]
def Qu1 (p0:List Int):Slot:=.own 1 [[(.dat 1 (p0.map Qac))]]
def Zf6:AV:=.fn (.func 163) [] [(.ref 3 1 (0) 0),(.ref 2 1 (0) 0)]
def Q5j (x7 y3:List Int):AV:=.dat 1 ((x7.take y3.length:List Int).map Qac)
def Zpx:Slot:=.gro 1 ((([]:List Int):List Int).map Qac)
theorem Qoq (N:Nat) (p0:List Int) (p1 p2:Int) (r:List Int) (h:Qgi N p0 p1 p2=some r):Spec prog 158 [(.dat 1 (p0.map Qac)),Qt9] [(.own 1 [[(I p1)]]),(.own 1 [[(I p2)]])] (.dat 1 (r.map Qac)) [(.own 1 [[(I p1)]]),(.own 1 [[(I p2)]])]:=by
  refine sF func158 2 fun _ _ _ hq hd0=>?_
  unfold Qgi at h
  refine wxz<|wxz ?_
  obtain⟨k4,hk_k4,h⟩:=jko h
  refine wjn (τ:=(List Int)) (fun t=>k4 t=some r) (fun y3=>⟨mk 21 [(2,.ref 2 1 0 0),(3,.ref 3 1 0 0),(5,(.gro 4 3 1 y3.length))],[(.own 1 [[I p1]]),(.own 1 [[I p2]]),(Qu1 p0),(.own 1 [[Qt9]]),(.gro 1 (y3.map Qac))]⟩) (fun y3 h=>?_) ?_
  ·subst hk_k4
   obtain⟨hz5,h⟩:=cko h
   obtain⟨x7,hf6,h⟩:=bno h
   refine wx tbk [(1,rp [(.tmp 3,.ref 3 1 0 0),(.tmp 2,.ref 2 1 0 0)] Zf6),(2,⟨[fu 162,(.tmp 17,(.gro 4 3 1 y3.length)),(.tmp 18,Zf6)],[(4,(.gro 1 (y3.map Qac))),(3,.own 1 [[Qt9]]),(2,(Qu1 p0)),(0,.own 1 [[I p1]]),(1,.own 1 [[I p2]])],(.tup []),[(4,(.own 1 (x7.map Qac))),(3,.own 1 [[Qt9]]),(2,(Qu1 p0)),(0,.own 1 [[I p1]]),(1,.own 1 [[I p2]])],false⟩)] ⟨Qfv (fs:=[]) (cs:=[.ref 3 1 0 0,.ref 2 1 0 0]) rfl rfl rfl rfl,Q4v (bl':=[(4,(.own 1 (y3.map Qac))),(3,.own 1 [[Qt9]]),(2,(Qu1 p0)),(0,.own 1 [[I p1]]),(1,.own 1 [[I p2]])]) ⟨rfl,SLess.gro (Qhe hz5),rfl,SLess.rfl,rfl,SLess.rfl,rfl,SLess.rfl,rfl,SLess.rfl,tv⟩ (awk (rd':=[fu 162,(.tmp 17,(.own 4 1 (0) y3.length)),(.tmp 18,Zf6)]) ⟨rfl,lrf,rfl,Less.gro,rfl,lrf,tv⟩ (acq [(.own 4 1 (0) y3.length),Zf6] [(.own 1 (y3.map Qac)),(.own 1 [[Qt9]]),(Qu1 p0),(.own 1 [[I p1]]),(.own 1 [[I p2]])] [(.own 1 (x7.map Qac)),(.own 1 [[Qt9]]),(Qu1 p0),(.own 1 [[I p1]]),(.own 1 [[I p2]])] (.tup []) [4,3,2,0,1] Zhr (Qi9 N y3.length y3 p0 p1 p2 _ hf6) (Qbr (rnc (Qcs rfl) (rnc (Qbj rn0 (rnc (Qa0 rfl) (rnc (Qa0 rfl) rn0))) rn0))) (slc (Qba Qah) (slc (Qaq (rnc (Qbj rn0 (rnc (Qa0 rfl) (rnc (Qa0 rfl) rn0))) rn0)) (slc (Qaq (rnc (pld Qah) rn0)) (slc (Qaq (rnc (.plain _ nll) rn0)) (slc (Qaq (rnc (.plain _ nll) rn0)) Qas))))) (slc (Qba Qah) (slc (Qaq (rnc (Qbj rn0 (rnc (Qbb rfl) (rnc (Qbb rfl) rn0))) rn0)) (slc (Qaq (rnc (pld Qah) rn0)) (slc (Qaq (rnc (.plain _ nll) rn0)) (slc (Qaq (rnc (.plain _ nll) rn0)) Qas))))) (.plain _ (NLt.tup _ nl0)))),tv⟩<|wxz ?_
   obtain⟨hz8,h⟩:=cko h
   refine wmr (Zhf (n:=21) (l':=[(4,(.own 4 1 (0) y3.length))]) [(4,(.gro 4 3 1 y3.length))] (by kernel_rfl) (by kernel_rfl) ⟨rfl,Less.gro,tv⟩) ?_
   refine wmr (Q6v (n:=21) (l':=[(4,(Q5j x7 y3))]) 4 [(4,(.own 4 1 (0) y3.length))] (by kernel_rfl) (by kernel_rfl) (by kernel_rfl) ⟨rfl,(Qlr hz8),tv⟩ rfl) ?_
   refine wmr (mto (n:=21) (l':=[(4,(Q5j x7 y3))]) (own':=[(.own 1 [[I p1]]),(.own 1 [[I p2]])]) [(4,(Q5j x7 y3))] [0,1] [(.own 1 [[I p1]]),(.own 1 [[I p2]])] hq (pc (rnd Qah) pn) (qb (lc rwl ln) (qb (lc rwl ln) qn)))<|Qai ?_
   obtain rfl:=osi h
   exact⟨_,Mor.rfl,fio [(Q5j x7 y3)] ⟨rot,tv⟩⟩
  ·skip
   refine wx tbk [(1,rp _ _)] ⟨alq 1 Qac p0 underlying27,tv⟩<|Qao ?_
   refine wmr (Mor.trans (Zhe 4 3 1 5 (by kernel_rfl) (by kernel_rfl)) (mto (n:=21) (l':=[(2,.ref 2 1 0 0),(3,.ref 3 1 0 0),(5,(.gro 4 3 1 (([]:List Int).length))),(8,(I ((p0.length:Int)))),(9,I 0)]) (own':=[(.own 1 [[I p1]]),(.own 1 [[I p2]]),(Qu1 p0),(.own 1 [[Qt9]]),Zpx]) [(2,.ref 2 1 0 0),(3,.ref 3 1 0 0),(5,(.gro 4 3 1 (([]:List Int).length))),(8,(I ((p0.length:Int)))),(9,I 0)] [0,1,2,3,4] [(.own 1 [[I p1]]),(.own 1 [[I p2]]),(Qu1 p0),(.own 1 [[Qt9]]),Zpx] hq (prr (prr (pc (.rn (Q31 rfl)) (pw (pw pn))))) (qb (lc rwl ln) (qb (lc rwl ln) (qb (lc (rnd Qah) ln) (qb (lc (.rn (Qbj rn0 (rnc (rqr rfl) (rnc (rqr rfl) rn0)))) ln) (qc (Qze Qah) qn))))))) ?_
   refine Qbl (τ:=Int×(List Int)) (fun n t=>Qcr N p0 k4 n t.1 t.2=some r) (fun ⟨y9,y10⟩=>⟨mk 21 [(2,.ref 2 1 0 0),(3,.ref 3 1 0 0),(5,(.gro 4 3 1 y10.length)),(8,(I ((p0.length:Int)))),(9,I y9)],[(.own 1 [[I p1]]),(.own 1 [[I p2]]),(Qu1 p0),(.own 1 [[Qt9]]),(.gro 1 (y10.map Qac))]⟩) (fun t h=>by rw[Qcr] at h;cases h) (fun n13 ih t h=>?_) N (0,([]:List Int)) h
   obtain⟨y9,y10⟩:=t
   rw[Qcr] at h
   skip
   refine wxz<|wsq ?_
   refine bfe h (fun hc14 h=>?_) fun hc14 h=>?_
   ·refine wft hc14<|Qam<|thn<|wsq<|Qao<|wxz ?_
    obtain⟨ha15,h⟩:=cko h
    refine wx1 tbk [(2,rp [(.tmp 13,I y9)] (.dat 1 (([y9]:List Int).map Qac))),(3,⟨[(.tmp 12,(.gro 4 3 1 y10.length)),(.tmp 14,(.dat 1 (([y9]:List Int).map Qac)))],[(4,(.gro 1 (y10.map Qac))),(5,.unused)],(.gro 5 3 1 ((y10++([y9])).length)),[(4,.dead),(5,(.gro 1 ((y10++([y9]):List Int).map Qac)))],false⟩)] ?_ ?_
    ·exact⟨Qbm (vs:=[I y9]) rfl underlying27 ti3 tz3 rfl (by decide) rfl (by decide) (by rfl) (by rfl) (by rfl) rfl,Q41 (c:=Qac) (a:=y10) (b:=[y9]) rfl underlying27 te3 rfl (Qhe rfl) (by rfl) ha15 (by decide),tv⟩
    exact bln<|thn<|wxz1<|thn<|arm (mto (n:=21) [(2,.ref 2 1 0 0),(3,.ref 3 1 0 0),(5,(.gro 5 3 1 ((y10++([y9])).length))),(8,(I ((p0.length:Int)))),(9,(I (w64 (y9+1))))] [0,1,2,3,5] [(.own 1 [[I p1]]),(.own 1 [[I p2]]),(Qu1 p0),(.own 1 [[Qt9]]),(.gro 1 ((y10++([y9]):List Int).map Qac))] hq (prr (prr (pc (.rn (Q31 rfl)) (pw (pw pn))))) (qb (lc rwl ln) (qb (lc rwl ln) (qb (lc (rnd Qah) ln) (qb (lc (.rn (Qbj rn0 (rnc (rqr rfl) (rnc (rqr rfl) rn0)))) ln) (qc (Qze Qah) qn)))))) (ih (w64 (y9+1),y10++([y9])) h)
   ·exact wfn hc14<|Qa7<|Qau<|Qau<|Qa6 rfl<|thn<|⟨(y10),h,(mto (n:=21) [(2,.ref 2 1 0 0),(3,.ref 3 1 0 0),(5,(.gro 4 3 1 y10.length))] [0,1,2,3,4] [(.own 1 [[I p1]]),(.own 1 [[I p2]]),(Qu1 p0),(.own 1 [[Qt9]]),(.gro 1 (y10.map Qac))] hq (prr (prr (pc (.rn (Q31 rfl)) pn))) (qb (lc rwl ln) (qb (lc rwl ln) (qb (lc (rnd Qah) ln) (qb (lc (.rn (Qbj rn0 (rnc (rqr rfl) (rnc (rqr rfl) rn0)))) ln) (qc (Qze Qah) qn))))))⟩
def Qd8 (N:Nat) (p1:List Int) (y6:Int) (k10:(List Int)→Option (List Int)) (x13:List Int):Nat→Int→(List Int)→Option (List Int)
  |0,_,_=>none
  |n19+1,y15,y16=>
    bif (decide (y15<(((x13).take (y6.toNat-0)).length:Int))) then
     (getI ((x13).take (y6.toNat-0)) y15).bind fun x21=>
     chk (decide (0≤x21)&&decide (x21.toNat<(p1.length:Int).toNat))<|
     (y16[x21.toNat]?).bind fun x26=>
     chk (decide (0≤x21)&&decide (x21.toNat<(p1.length:Int).toNat))<|
     (y16[x21.toNat]?).bind fun _=>
     Qd8 N p1 y6 k10 x13 n19 (w64 (y15+1)) (y16.set x21.toNat (w64 (x26+1)))
    else
     k10 (y16)
def Qd7 (N:Nat) (p0:Int) (p1:List Int) (y3:Int) (k8:Int×(List Int)→Option (List Int)):Nat→Int→Int→(List Int)→Option (List Int)
  |0,_,_,_=>none
  |n37+1,y31,y32,y33=>
    bif (decide (y32<(p1.length:Int))) then
     (getI p1 y32).bind fun x39=>
     chk (y3 != 0)<|
     chk (decide (0≤y32)&&decide (y32.toNat<(p1.length:Int).toNat))<|
     (y33[y32.toNat]?).bind fun _=>
     chk (decide (0≤y32)&&decide (y32.toNat<(p1.length:Int).toNat))<|
     ((y33.set y32.toNat (w64 ((w64 (p0*x39)).tdiv y3)))[y32.toNat]?).bind fun x48=>
     Qd7 N p0 p1 y3 k8 n37 (w64 (y31-x48)) (w64 (y32+1)) (y33.set y32.toNat (w64 ((w64 (p0*x39)).tdiv y3)))
    else
     k8 (y31,y33)
def Qd6 (N:Nat) (p1:List Int) (k4:Int→Option (List Int)):Nat→Int→Int→Option (List Int)
  |0,_,_=>none
  |n54+1,y50,y51=>
    bif (decide (y50<(p1.length:Int))) then
     (getI p1 y50).bind fun x56=>
     Qd6 N p1 k4 n54 (w64 (y50+1)) (w64 (y51+x56))
    else
     k4 (y51)
def Qjp (N:Nat) (p0:Int) (p1:List Int):Option (List Int):=
  Qbc (fun y3=>
    chk (decide (0≤(p1.length:Int))&&decide (8*(p1.length:Int)≤281474976710656)&&decide ((p1.length:Int)≤9223372036854775807))<|
    Qbc (fun ⟨y6,y7⟩=>
      Qbc (fun y9=>
        chk (decide ((p1.length:Int).toNat≤y9.length))<|
        some (y9.take ((p1.length:Int).toNat))) fun k10:(List Int)→Option (List Int)=>
      (Qgi N p1 p0 y3).bind fun x13=>
      chk (decide (0≤0)&&decide (0≤y6)&&decide (y6≤(x13.length:Int)))<|
      Qd8 N p1 y6 k10 x13 N 0 y7) fun k8:Int×(List Int)→Option (List Int)=>
    Qd7 N p0 p1 y3 k8 N p0 0 (List.replicate (p1.length:Int).toNat 0)) fun k4:Int→Option (List Int)=>
  Qd6 N p1 k4 N 0 0
def Zpy (p1:List Int):Slot:=.own 1 ((List.replicate (p1.length:Int).toNat 0:List Int).map Qac)
def Q5l (y9 p1:List Int):AV:=.dat 1 ((y9.take ((p1.length:Int).toNat):List Int).map Qac)
def Zkc:AV:=.fn (.func 159) [] [(.ref 0 1 (0) 0),(.ref 1 1 (0) 0)]
def Q0v (x13:List Int) (y6:Int):AV:=.dat 1 (((x13).take (y6.toNat-0):List Int).map Qac)
def Q5k (y33:List Int) (y32 p0:Int) (x39 y3:Int):Slot:=.own 1 ((y33.set y32.toNat (w64 ((w64 (p0*x39)).tdiv y3)):List Int).map Qac)
theorem Qug (N:Nat) (p0:Int) (p1 r:List Int) (h:Qjp N p0 p1=some r):Spec prog 153 [(I p0),(.dat 1 (p1.map Qac))] [] (.dat 1 (r.map Qac)) []:=by
  refine sF func153 0 fun _ _ _ hq hd0=>?_
  unfold Qjp at h
  refine wxz<|wxz ?_
  obtain⟨k4,hk_k4,h⟩:=jko h
  refine wjn (τ:=Int) (fun t=>k4 t=some r) (fun y3=>⟨mk 68 [(1,(.dat 1 (p1.map Qac))),(2,.ref 0 1 0 0),(5,.ref 1 1 0 0)],[(.own 1 [[I p0]]),(.own 1 [[I y3]])]⟩) (fun y3 h=>?_) ?_
  ·subst hk_k4
   obtain⟨hm5,h⟩:=cko h
   refine wxd tbk [(1,rp _ _),(2,⟨[(.tmp 25,(I ((p1.length:Int)))),(.tmp 25,(I ((p1.length:Int))))],[(2,.unused)],(.own 2 1 (0) ((p1.length:Int).toNat)),[(2,(Zpy p1))],false⟩)] ⟨alq 1 Qac p1 underlying27,Qkq rfl underlying27 te3 tz3 rfl (Qw6 hm5) rfl (Qw5 hm5) (Qw4 hm5) (Qsx Qac rfl),tv⟩ ?_
   obtain⟨k8,hk_k8,h⟩:=jko h
   refine wjn (τ:=Int×(List Int)) (fun t=>k8 t=some r) (fun ⟨y6,y7⟩=>⟨mk 68 [(1,(.dat 1 (p1.map Qac))),(2,.ref 0 1 0 0),(5,.ref 1 1 0 0),(8,(.own 2 1 (0) ((p1.length:Int).toNat))),(9,I y6)],[(.own 1 [[I p0]]),(.own 1 [[I y3]]),(.own 1 (y7.map Qac))]⟩) (fun t h=>?_) ?_
   ·subst hk_k8
    obtain⟨y6,y7⟩:=t
    obtain⟨k10,hk_k10,h⟩:=jko h
    refine wjn (τ:=(List Int)) (fun t=>k10 t=some r) (fun y9=>⟨mk 68 [(8,(.own 0 1 (0) ((p1.length:Int).toNat)))],[(.own 1 (y9.map Qac))]⟩) (fun y9 h=>?_) ?_
    ·subst hk_k10
     refine wxz ?_
     obtain⟨hz11,h⟩:=cko h
     refine wmr (Q6v (n:=68) (l':=[(4,(Q5l y9 p1))]) 0 [(4,(.own 0 1 (0) ((p1.length:Int).toNat)))] (by kernel_rfl) (by kernel_rfl) (by kernel_rfl) ⟨rfl,(Qlr hz11),tv⟩ rfl) ?_
     refine wmr (mto (n:=68) (l':=[(4,(Q5l y9 p1))]) (own':=[]) [(4,(Q5l y9 p1))] [] [] hq (pc (rnd Qah) pn) qn)<|Qai ?_
     obtain rfl:=osi h
     exact⟨_,Mor.rfl,fio [(Q5l y9 p1)] ⟨rot,tv⟩⟩
    ·skip
     obtain⟨x13,hf12,h⟩:=bno h
     obtain⟨hs14,h⟩:=cko h
     refine wx tbk [(1,rp [(.tmp 2,.ref 0 1 0 0),(.tmp 5,.ref 1 1 0 0)] Zkc),(2,⟨_,_,_,_,false⟩),(4,rp [(.tmp 52,(.dat 1 (x13.map Qac))),(.tmp 53,I y6)] (Q0v x13 y6)),(5,rp _ _)] ⟨Qfv (fs:=[]) (cs:=[.ref 0 1 0 0,.ref 1 1 0 0]) rfl rfl rfl rfl,acq [(.dat 1 (p1.map Qac)),Zkc] [(.own 1 [[I p0]]),(.own 1 [[I y3]])] [(.own 1 [[I p0]]),(.own 1 [[I y3]])] (.dat 1 (x13.map Qac)) [0,1] Zht (Qoq N p1 p0 y3 _ hf12) (Qbr (rnc (pld Qah) (rnc (Qbj rn0 (rnc (Qa0 rfl) (rnc (Qa0 rfl) rn0))) rn0))) (slc (Qaq (rnc (.plain _ nll) rn0)) (slc (Qaq (rnc (.plain _ nll) rn0)) Qas)) (slc (Qaq (rnc (.plain _ nll) rn0)) (slc (Qaq (rnc (.plain _ nll) rn0)) Qas)) (pld Qah),Qm1 (k:=.i64) (k':=.i64) (lo:=none) (hi:=some (.tmp 53)) (l:=0) (hh:=y6) rfl underlying27 ti3 rfl (fun _=>rfl) (fun e=>nomatch e) (Qw6 hs14) (Qw5 hs14) (Zjl Qac hs14) (Ztk Qac),alq 1 Qac ((x13).take (y6.toNat-0)) underlying27,tv⟩<|Qao ?_
     refine wmr (mto (n:=68) (l':=[(8,(.own 0 1 (0) ((p1.length:Int).toNat))),(54,(Q0v x13 y6)),(55,(I ((((x13).take (y6.toNat-0)).length:Int)))),(56,I 0)]) (own':=[(.own 1 (y7.map Qac))]) [(8,(.own 2 1 (0) ((p1.length:Int).toNat))),(54,(Q0v x13 y6)),(55,(I ((((x13).take (y6.toNat-0)).length:Int)))),(56,I 0)] [2] [(.own 1 (y7.map Qac))] hq (pc (.rn (Qav rfl)) (pc (rnd Qah) (pw (pw pn)))) (qc (spr Qah) qn)) ?_
     refine Qbl (τ:=Int×(List Int)) (fun n t=>Qd8 N p1 y6 k10 x13 n t.1 t.2=some r) (fun ⟨y15,y16⟩=>⟨mk 68 [(8,(.own 0 1 (0) ((p1.length:Int).toNat))),(54,(Q0v x13 y6)),(55,(I ((((x13).take (y6.toNat-0)).length:Int)))),(56,I y15)],[(.own 1 (y16.map Qac))]⟩) (fun t h=>by rw[Qd8] at h;cases h) (fun n19 ih t h=>?_) N (0,y7) h
     obtain⟨y15,y16⟩:=t
     rw[Qd8] at h
     skip
     refine wxz<|wsq ?_
     refine bfe h (fun hc20 h=>?_) fun hc20 h=>?_
     ·refine wft hc20<|Qam<|thn<|wsq<|Qao ?_
      obtain⟨x21,hg22,h⟩:=bno h
      obtain⟨hi23,hj24⟩:=gsm hg22
      refine wx tbk [(0,rp _ _)] ⟨aiq underlying27 ti3 Qac hi23 hj24,tv⟩ ?_
      obtain⟨hi25,h⟩:=cko h
      obtain⟨hi25a,hi25b⟩:=Qcv hi25
      obtain⟨x26,hg27,h⟩:=bno h
      obtain⟨hi28,h⟩:=cko h
      obtain⟨hi28a,hi28b⟩:=Qcv hi28
      obtain⟨x29,hg30,h⟩:=bno h
      refine wx1 tbk [(2,rb [(.tmp 60,(.own 0 1 (0) ((p1.length:Int).toNat))),(.tmp 61,I x21)] [(0,(.own 1 (y16.map Qac)))] (.ref 0 1 x21.toNat 0)),(3,rb [(.tmp 62,(.ref 0 1 x21.toNat 0))] [(0,(.own 1 (y16.map Qac)))] (I x26)),(5,rb [(.tmp 60,(.own 0 1 (0) ((p1.length:Int).toNat))),(.tmp 61,I x21)] [(0,(.own 1 (y16.map Qac)))] (.ref 0 1 x21.toNat 0)),(6,⟨[(.tmp 65,(.ref 0 1 x21.toNat 0)),(.tmp 64,(I (w64 (x26+1))))],[(0,(.own 1 (y16.map Qac)))],.any,[(0,(.own 1 ((y16.set x21.toNat (w64 (x26+1)):List Int).map Qac)))],false⟩)] ⟨aio rfl underlying27 ti3 (odt hi25a) (odt hi25b) (Nat.zero_add _),ald rfl ti3 (by decide) (mgt Qac hg27) (nle rfl) rfl,aio rfl underlying27 ti3 (odt hi28a) (odt hi28b) (Nat.zero_add _),ast rfl ti3 (by rfl) (mgt Qac hg30) (nle rfl) (Qff Qac rfl),tv⟩<|bln<|thn<|wxz1<|thn ?_
      exact arm (mto (n:=68) [(8,(.own 0 1 (0) ((p1.length:Int).toNat))),(54,(Q0v x13 y6)),(55,(I ((((x13).take (y6.toNat-0)).length:Int)))),(56,(I (w64 (y15+1))))] [0] [(.own 1 ((y16.set x21.toNat (w64 (x26+1)):List Int).map Qac))] hq (pc (.rn (Qav rfl)) (pc (rnd Qah) (pw (pw pn)))) (qc (spr Qah) qn)) (ih (w64 (y15+1),y16.set x21.toNat (w64 (x26+1))) h)
     ·exact wfn hc20<|Qa7<|Qau<|Qau<|Qa6 rfl<|thn<|⟨(y16),h,(mto (n:=68) [(8,(.own 0 1 (0) ((p1.length:Int).toNat)))] [0] [(.own 1 (y16.map Qac))] hq (pc (.rn (Qav rfl)) pn) (qc (spr Qah) qn))⟩
   ·skip
    refine wx tbk [(1,rp _ _)] ⟨alq 1 Qac p1 underlying27,tv⟩<|Qao ?_
    refine wmr (mto (n:=68) (l':=[(1,(.dat 1 (p1.map Qac))),(2,.ref 0 1 0 0),(5,.ref 1 1 0 0),(8,(.own 2 1 (0) ((p1.length:Int).toNat))),(9,I p0),(28,(.dat 1 (p1.map Qac))),(29,(I ((p1.length:Int)))),(30,I 0)]) (own':=[(.own 1 [[I p0]]),(.own 1 [[I y3]]),(.own 1 (((List.replicate (p1.length:Int).toNat 0):List Int).map Qac))]) [(1,(.dat 1 (p1.map Qac))),(2,.ref 0 1 0 0),(5,.ref 1 1 0 0),(8,(.own 2 1 (0) ((p1.length:Int).toNat))),(9,I p0),(28,(.dat 1 (p1.map Qac))),(29,(I ((p1.length:Int)))),(30,I 0)] [0,1,2] [(.own 1 [[I p0]]),(.own 1 [[I y3]]),(Zpy p1)] hq (pc (rnd Qah) (prr (prr (pc (.rn (Qav rfl)) (pw (pc (rnd Qah) (pw (pw pn)))))))) (qb (lc rwl ln) (qb (lc rwl ln) (qc (spr Qah) qn)))) ?_
    refine Qbl (τ:=Int×Int×(List Int)) (fun n t=>Qd7 N p0 p1 y3 k8 n t.1 t.2.1 t.2.2=some r) (fun ⟨y31,y32,y33⟩=>⟨mk 68 [(1,(.dat 1 (p1.map Qac))),(2,.ref 0 1 0 0),(5,.ref 1 1 0 0),(8,(.own 2 1 (0) ((p1.length:Int).toNat))),(9,I y31),(28,(.dat 1 (p1.map Qac))),(29,(I ((p1.length:Int)))),(30,I y32)],[(.own 1 [[I p0]]),(.own 1 [[I y3]]),(.own 1 (y33.map Qac))]⟩) (fun t h=>by rw[Qd7] at h;cases h) (fun n37 ih t h=>?_) N (p0,0,List.replicate (p1.length:Int).toNat 0) h
    obtain⟨y31,y32,y33⟩:=t
    rw[Qd7] at h
    skip
    refine wxz<|wsq ?_
    refine bfe h (fun hc38 h=>?_) fun hc38 h=>?_
    ·refine wft hc38<|Qam<|thn<|wsq<|Qao ?_
     obtain⟨x39,hg40,h⟩:=bno h
     obtain⟨hi41,hj42⟩:=gsm hg40
     refine wx tbk [(1,rp _ _)] ⟨aiq underlying27 ti3 Qac hi41 hj42,tv⟩ ?_
     obtain⟨hz43,h⟩:=cko h
     obtain⟨hi44,h⟩:=cko h
     obtain⟨hi44a,hi44b⟩:=Qcv hi44
     obtain⟨x45,hg46,h⟩:=bno h
     refine wx tbk [(6,rp [(.tmp 39,(I (w64 (p0*x39)))),(.tmp 40,I y3)] (I (w64 ((w64 (p0*x39)).tdiv y3)))),(7,rb [(.tmp 35,(.own 2 1 (0) ((p1.length:Int).toNat))),(.tmp 36,I y32)] [(2,(.own 1 (y33.map Qac)))] (.ref 2 1 y32.toNat 0)),(8,⟨[(.tmp 42,(.ref 2 1 y32.toNat 0)),(.tmp 41,(I (w64 ((w64 (p0*x39)).tdiv y3))))],[(2,(.own 1 (y33.map Qac)))],.any,[(2,(Q5k y33 y32 p0 x39 y3))],false⟩)] ⟨Qkc rfl (Qko hz43),aio rfl underlying27 ti3 (odt hi44a) (odt hi44b) (Nat.zero_add _),ast rfl ti3 (by rfl) (mgt Qac hg46) (nle rfl) (Qff Qac rfl),tv⟩ ?_
     obtain⟨hi47,h⟩:=cko h
     obtain⟨hi47a,hi47b⟩:=Qcv hi47
     obtain⟨x48,hg49,h⟩:=bno h
     refine wx1 tbk [(3,rb [(.tmp 44,(.own 2 1 (0) ((p1.length:Int).toNat))),(.tmp 45,I y32)] [(2,(Q5k y33 y32 p0 x39 y3))] (.ref 2 1 y32.toNat 0)),(4,rb [(.tmp 46,(.ref 2 1 y32.toNat 0))] [(2,(Q5k y33 y32 p0 x39 y3))] (I x48))] ⟨aio rfl underlying27 ti3 (odt hi47a) (odt hi47b) (Nat.zero_add _),ald rfl ti3 (by decide) (mgt Qac hg49) (nle rfl) rfl,tv⟩<|bln<|thn<|wxz1<|thn ?_
     exact arm (mto (n:=68) [(1,(.dat 1 (p1.map Qac))),(2,.ref 0 1 0 0),(5,.ref 1 1 0 0),(8,(.own 2 1 (0) ((p1.length:Int).toNat))),(9,(I (w64 (y31-x48)))),(28,(.dat 1 (p1.map Qac))),(29,(I ((p1.length:Int)))),(30,(I (w64 (y32+1))))] [0,1,2] [(.own 1 [[I p0]]),(.own 1 [[I y3]]),(Q5k y33 y32 p0 x39 y3)] hq (pc (rnd Qah) (prr (prr (pc (.rn (Qav rfl)) (pw (pc (rnd Qah) (pw (pw pn)))))))) (qb (lc rwl ln) (qb (lc rwl ln) (qc (spr Qah) qn)))) (ih (w64 (y31-x48),w64 (y32+1),y33.set y32.toNat (w64 ((w64 (p0*x39)).tdiv y3))) h)
    ·exact wfn hc38<|Qa7<|Qau<|Qau<|Qa6 rfl<|thn<|⟨(y31,y33),h,(mto (n:=68) [(1,(.dat 1 (p1.map Qac))),(2,.ref 0 1 0 0),(5,.ref 1 1 0 0),(8,(.own 2 1 (0) ((p1.length:Int).toNat))),(9,I y31)] [0,1,2] [(.own 1 [[I p0]]),(.own 1 [[I y3]]),(.own 1 (y33.map Qac))] hq (pc (rnd Qah) (prr (prr (pc (.rn (Qav rfl)) (pw pn))))) (qb (lc rwl ln) (qb (lc rwl ln) (qc (spr Qah) qn))))⟩
  ·skip
   refine wx tbk [(1,rp _ _)] ⟨alq 1 Qac p1 underlying27,tv⟩<|Qao ?_
   refine wmr (mto (n:=68) (l':=[(1,(.dat 1 (p1.map Qac))),(2,.ref 0 1 0 0),(5,.ref 1 1 0 0),(14,(.dat 1 (p1.map Qac))),(15,(I ((p1.length:Int)))),(16,I 0)]) (own':=[(.own 1 [[I p0]]),(.own 1 [[I 0]])]) [(1,(.dat 1 (p1.map Qac))),(2,.ref 0 1 0 0),(5,.ref 1 1 0 0),(14,(.dat 1 (p1.map Qac))),(15,(I ((p1.length:Int)))),(16,I 0)] [0,1] [(.own 1 [[I p0]]),(.own 1 [[I 0]])] hq (pc (rnd Qah) (prr (prr (pc (rnd Qah) (pw (pw pn)))))) (qb (lc rwl ln) (qb (lc rwl ln) qn))) ?_
   refine Qbl (τ:=Int×Int) (fun n t=>Qd6 N p1 k4 n t.1 t.2=some r) (fun ⟨y50,y51⟩=>⟨mk 68 [(1,(.dat 1 (p1.map Qac))),(2,.ref 0 1 0 0),(5,.ref 1 1 0 0),(14,(.dat 1 (p1.map Qac))),(15,(I ((p1.length:Int)))),(16,I y50)],[(.own 1 [[I p0]]),(.own 1 [[I y51]])]⟩) (fun t h=>by rw[Qd6] at h;cases h) (fun n54 ih t h=>?_) N (0,0) h
   obtain⟨y50,y51⟩:=t
   rw[Qd6] at h
   skip
   refine wxz<|wsq ?_
   refine bfe h (fun hc55 h=>?_) fun hc55 h=>?_
   ·refine wft hc55<|Qam<|thn<|wsq<|Qao ?_
    obtain⟨x56,hg57,h⟩:=bno h
    obtain⟨hi58,hj59⟩:=gsm hg57
    exact wx tbk [(0,rp _ _)] ⟨aiq underlying27 ti3 Qac hi58 hj59,tv⟩<|wxz1<|bln<|thn<|wxz1<|thn<|arm (mto (n:=68) [(1,(.dat 1 (p1.map Qac))),(2,.ref 0 1 0 0),(5,.ref 1 1 0 0),(14,(.dat 1 (p1.map Qac))),(15,(I ((p1.length:Int)))),(16,(I (w64 (y50+1))))] [0,1] [(.own 1 [[I p0]]),(.own 1 [[(I (w64 (y51+x56)))]])] hq (pc (rnd Qah) (prr (prr (pc (rnd Qah) (pw (pw pn)))))) (qb (lc rwl ln) (qb (lc rwl ln) qn))) (ih (w64 (y50+1),w64 (y51+x56)) h)
   ·exact wfn hc55<|Qa7<|Qau<|Qau<|Qa6 rfl<|thn<|⟨(y51),h,(mto (n:=68) [(1,(.dat 1 (p1.map Qac))),(2,.ref 0 1 0 0),(5,.ref 1 1 0 0)] [0,1] [(.own 1 [[I p0]]),(.own 1 [[I y51]])] hq (pc (rnd Qah) (prr (prr pn))) (qb (lc rwl ln) (qb (lc rwl ln) qn)))⟩
def Qfx (_N:Nat) (p0 p1:Int) (p2 _p3:Int) (_p4 _p5:Int):Option Int:=
  chk ((if p2>1 then p2 else 1) != 0)<|
  (some (w64 ((w64 (p0*p1)).tdiv (if p2>1 then p2 else 1)))).bind fun x2=>
  some x2
theorem Qi8 (N:Nat) (p0 p1:Int) (p2 p3:Int) (p4 p5 r:Int) (h:Qfx N p0 p1 p2 p3 p4 p5=some r):Spec prog 154 [(I p0),(.dptr [(I p1)] 0),(.dptr [(I p2),(I p3),(I p4),(I p5)] 0)] [] (I r) []:=by
  refine sA func154 0 fun _ _ _ hq hd0=>?_
  unfold Qfx at h
  refine wxz ?_
  obtain⟨hz1,h⟩:=cko h
  obtain⟨x2,hl3,h⟩:=bno h
  refine wx tbk [(5,rp [ci 1,(.tmp 9,I p2)] (I ((if p2>1 then p2 else 1)))),(6,rp [(.tmp 7,(I (w64 (p0*p1)))),(.tmp 10,(I ((if p2>1 then p2 else 1))))] (I (w64 ((w64 (p0*p1)).tdiv (if p2>1 then p2 else 1))))),(7,rp [(.tmp 11,(I (w64 ((w64 (p0*p1)).tdiv (if p2>1 then p2 else 1)))))] (I x2))] ⟨Qml rfl,Qkc rfl (Qko hz1),Qhg hl3 (aas rfl),tv⟩<|Qai ?_
  obtain rfl:=osi h
  exact fend ⟨[I x2],⟨rot,tv⟩,rfl⟩ nll
def Qcm (_N:Nat) (_p0 _p1:Int) (_p2 _p3:Int):Option Unit:=
  some ()
abbrev Q0t (p0 p1:Int) (p2 p3:Int):Slot:=.own 4 [[(I p0),(I p1),(I p2),(I p3)]]
abbrev Zlv:AV:=.agg [(.ref 0 4 (0) 0),(.ref 0 4 (0) 1),(.ref 0 4 (0) 2),(.ref 0 4 (0) 3)]
abbrev Zlu:Slot:=.own 4 [[(.ref 0 4 (0) 0),(.ref 0 4 (0) 1),(.ref 0 4 (0) 2),(.ref 0 4 (0) 3)]]
theorem Qdr (N:Nat) (p0 p1:Int) (p2 p3:Int) (r:Unit) (h:Qcm N p0 p1 p2 p3=some r):Spec prog 161 [(.ref 0 4 (0) 0)] [(Q0t p0 p1 p2 p3)] Zlv [(Q0t p0 p1 p2 p3),Zlu]:=by
  refine sF func161 2 fun _ _ _ hq hd0=>?_
  unfold Qcm at h
  refine wxz<|wxd tbk [(1,rb [(.tmp 3,.ref 0 4 0 0)] [(0,(Q0t p0 p1 p2 p3))] (.ref 0 4 0 0)),(4,rb [(.tmp 6,.ref 0 4 0 0)] [(0,(Q0t p0 p1 p2 p3))] (.ref 0 4 0 0)),(7,rb [(.tmp 9,.ref 0 4 0 0)] [(0,(Q0t p0 p1 p2 p3))] (.ref 0 4 0 0)),(10,rb [(.tmp 12,.ref 0 4 0 0)] [(0,(Q0t p0 p1 p2 p3))] (.ref 0 4 0 0)),(12,rp [(.tmp 5,.ref 0 4 0 0),(.tmp 8,.ref 0 4 0 1),(.tmp 11,.ref 0 4 0 2),(.tmp 14,.ref 0 4 0 3)] Zlv)] ⟨Qbk rfl,Qbk rfl,Qbk rfl,Qbk rfl,Qt6 (vs:=[.ref 0 4 0 0,.ref 0 4 0 1,.ref 0 4 0 2,.ref 0 4 0 3]) rfl underlying235 Qxa Zqy rfl (by rfl) rfl,tv⟩ ?_
  refine wmr (mto (n:=16) (l':=[(2,.ref 1 4 0 0)]) (own':=[(Q0t p0 p1 p2 p3),Zlu]) [(2,.ref 1 4 0 0)] [0,1] [(Q0t p0 p1 p2 p3),Zlu] hq (prr pn) (qb (lcc (lcc ln)) (qb (lc (.rn (rqr rfl)) (lc (.rn (rqr rfl)) (lc (.rn (rqr rfl)) (lc (.rn (rqr rfl)) ln)))) qn)))<|Qai ?_
  obtain rfl:=osi h
  exact⟨_,Mor.rfl,fio [Zlv] ⟨Qbv (n:=1) (m:=4) (j:=0) (i:=0) (xs:=[[.ref 0 4 0 0,.ref 0 4 0 1,.ref 0 4 0 2,.ref 0 4 0 3]]) (by kernel_rfl) (by kernel_rfl) Zq7 (by decide) rfl (nle rfl) rfl,tv⟩⟩
def Qkr (N:Nat) (p0:Qaa) (p1 p2:Int) (p3 p4:Int):Option Unit:=
  (Qcm N p0.Mass p0.Heat p0.Silica p0.Gas).bind fun _=>
  (Qcm N p1 p2 p3 p4).bind fun _=>
  (Qcm N (w64 (p1+p0.Mass)) p2 p3 p4).bind fun _=>
  (Qcm N (w64 (p1+p0.Mass)) (w64 (p2+p0.Heat)) p3 p4).bind fun _=>
  (Qcm N (w64 (p1+p0.Mass)) (w64 (p2+p0.Heat)) (w64 (p3+p0.Silica)) p4).bind fun _=>
  some ()
abbrev Zat (p1 p2:Int) (p3 p4:Int):Slot:=.own 4 [[(I p1),(I p2),(I p3),(I p4)]]
abbrev Zav (p1:Int) (p0:Qaa) (p2 p3 p4:Int):Slot:=.own 4 [[(I (w64 (p1+p0.Mass))),(I (w64 (p2+p0.Heat))),(I (w64 (p3+p0.Silica))),(I (w64 (p4+p0.Gas)))]]
def Q7x (p0:Qaa):Slot:=.own 4 [[(I p0.Mass),(I p0.Heat),(I p0.Silica),(I p0.Gas)]]
def Zau:AV:=.agg [(.ref 1 4 (0) 0),(.ref 1 4 (0) 1),(.ref 1 4 (0) 2),(.ref 1 4 (0) 3)]
def Zsj:Slot:=.own 4 [[(.ref 1 4 (0) 0),(.ref 1 4 (0) 1),(.ref 1 4 (0) 2),(.ref 1 4 (0) 3)]]
def Q0u:AV:=.agg [(.ref 0 4 (0) 0),(.ref 0 4 (0) 1),(.ref 0 4 (0) 2),(.ref 0 4 (0) 3)]
def Zf2:Slot:=.own 4 [[(.ref 0 4 (0) 0),(.ref 0 4 (0) 1),(.ref 0 4 (0) 2),(.ref 0 4 (0) 3)]]
def Zf1 (p1:Int) (p0:Qaa) (p2 p3 p4:Int):Slot:=.own 4 [[(I (w64 (p1+p0.Mass))),(I p2),(I p3),(I p4)]]
def Zf0 (p1:Int) (p0:Qaa) (p2 p3 p4:Int):Slot:=.own 4 [[(I (w64 (p1+p0.Mass))),(I (w64 (p2+p0.Heat))),(I p3),(I p4)]]
def Zfz (p1:Int) (p0:Qaa) (p2 p3 p4:Int):Slot:=.own 4 [[(I (w64 (p1+p0.Mass))),(I (w64 (p2+p0.Heat))),(I (w64 (p3+p0.Silica))),(I p4)]]
theorem Qsu (N:Nat) (p0:Qaa) (p1 p2:Int) (p3 p4:Int) (r:Unit) (h:Qkr N p0 p1 p2 p3 p4=some r):Spec prog 160 [(.agg [(I p0.Mass),(I p0.Heat),(I p0.Silica),(I p0.Gas)]),(.ref 0 4 (0) 0)] [(Zat p1 p2 p3 p4)] (.tup []) [(Zav p1 p0 p2 p3 p4)]:=by
  refine sF func160 1 fun _ _ _ hq hd0=>?_
  unfold Qkr at h
  refine wxz ?_
  obtain⟨x2,hf1,h⟩:=bno h
  refine wx tbk [(0,⟨_,_,_,_,false⟩)] ⟨acq [.ref 1 4 0 0] [(Q7x p0)] [(Q7x p0),Zsj] Zau [1,2] Qr7 (Qdr N p0.Mass p0.Heat p0.Silica p0.Gas _ hf1) (Qbr (rnc (Qa0 rfl) rn0)) (slc (Qaq (rncc (rncc rn0))) Qas) (slc (Qaq (rncc (rncc rn0))) (slc (Qaq (rnc (Qbb rfl) (rnc (Qbb rfl) (rnc (Qbb rfl) (rnc (Qbb rfl) rn0))))) Qas)) (Qbr (rnc (Qbb rfl) (rnc (Qbb rfl) (rnc (Qbb rfl) (rnc (Qbb rfl) rn0))))),tv⟩<|Qao<|Q7l 17<|Qyl<|wxz<|wsq<|wtr<|Qam<|thn<|wsq ?_
  refine Qao<|wx tbk [(1,rp [(.tmp 5,Zau),(.tmp 6,I 0)] (.ref 1 4 0 0))] ⟨Qik rfl underlying235 Qxa (by decide) (by decide) (nle rfl) (by decide) rfl,tv⟩ ?_
  obtain⟨x4,hf3,h⟩:=bno h
  refine wy1 tbk [(0,⟨_,_,_,_,false⟩),(2,rp [(.tmp 10,Q0u),(.tmp 11,I 0)] (.ref 0 4 0 0)),(3,rb [(.tmp 12,.ref 0 4 0 0)] [(0,(Zat p1 p2 p3 p4))] (.ref 0 4 0 0)),(6,rb [(.tmp 15,.ref 1 4 0 0)] [(1,(Q7x p0))] (.ref 1 4 0 0)),(9,rb [(.tmp 12,.ref 0 4 0 0)] [(0,(Zat p1 p2 p3 p4))] (.ref 0 4 0 0))] ⟨acq [.ref 0 4 0 0] [(Zat p1 p2 p3 p4)] [(Zat p1 p2 p3 p4),Zf2] Q0u [0,3] Qr7 (Qdr N p1 p2 p3 p4 _ hf3) (Qbr (rnc (Qa0 rfl) rn0)) (slc (Qaq (rncc (rncc rn0))) Qas) (slc (Qaq (rncc (rncc rn0))) (slc (Qaq (rnc (Qbb rfl) (rnc (Qbb rfl) (rnc (Qbb rfl) (rnc (Qbb rfl) rn0))))) Qas)) (Qbr (rnc (Qbb rfl) (rnc (Qbb rfl) (rnc (Qbb rfl) (rnc (Qbb rfl) rn0))))),Qik rfl underlying235 Qxa (by decide) (by decide) (nle rfl) (by decide) rfl,Qbk rfl,Qbk rfl,Qbk rfl,tv⟩<|bln<|thn<|wxz1<|thn<|Qyl<|wxz<|wsq<|wtr<|Qam ?_
  refine thn<|wsq<|Qao ?_
  refine wx tbk [(1,rp [(.tmp 5,Zau),(.tmp 6,I 1)] (.ref 1 4 0 1))] ⟨Qik rfl underlying235 Qxa (by decide) (by decide) (nle rfl) (by decide) rfl,tv⟩ ?_
  obtain⟨x6,hf5,h⟩:=bno h
  refine wy1 tbk [(0,⟨_,_,_,_,false⟩),(2,rp [(.tmp 10,Q0u),(.tmp 11,I 1)] (.ref 0 4 0 1)),(3,rb [(.tmp 12,.ref 0 4 0 1)] [(0,(Zf1 p1 p0 p2 p3 p4))] (.ref 0 4 0 1)),(6,rb [(.tmp 15,.ref 1 4 0 1)] [(1,(Q7x p0))] (.ref 1 4 0 1)),(9,rb [(.tmp 12,.ref 0 4 0 1)] [(0,(Zf1 p1 p0 p2 p3 p4))] (.ref 0 4 0 1))] ⟨acq [.ref 0 4 0 0] [(Zf1 p1 p0 p2 p3 p4)] [(Zf1 p1 p0 p2 p3 p4),Zf2] Q0u [0,4] Qr7 (Qdr N (w64 (p1+p0.Mass)) p2 p3 p4 _ hf5) (Qbr (rnc (Qa0 rfl) rn0)) (slc (Qaq (rncc (rncc rn0))) Qas) (slc (Qaq (rncc (rncc rn0))) (slc (Qaq (rnc (Qbb rfl) (rnc (Qbb rfl) (rnc (Qbb rfl) (rnc (Qbb rfl) rn0))))) Qas)) (Qbr (rnc (Qbb rfl) (rnc (Qbb rfl) (rnc (Qbb rfl) (rnc (Qbb rfl) rn0))))),Qik rfl underlying235 Qxa (by decide) (by decide) (nle rfl) (by decide) rfl,Qbk rfl,Qbk rfl,Qbk rfl,tv⟩<|bln<|thn<|wxz1<|thn<|Qyl<|wxz<|wsq<|wtr<|Qam ?_
  refine thn<|wsq<|Qao ?_
  refine wx tbk [(1,rp [(.tmp 5,Zau),(.tmp 6,I 2)] (.ref 1 4 0 2))] ⟨Qik rfl underlying235 Qxa (by decide) (by decide) (nle rfl) (by decide) rfl,tv⟩ ?_
  obtain⟨x8,hf7,h⟩:=bno h
  refine wy1 tbk [(0,⟨_,_,_,_,false⟩),(2,rp [(.tmp 10,Q0u),(.tmp 11,I 2)] (.ref 0 4 0 2)),(3,rb [(.tmp 12,.ref 0 4 0 2)] [(0,(Zf0 p1 p0 p2 p3 p4))] (.ref 0 4 0 2)),(6,rb [(.tmp 15,.ref 1 4 0 2)] [(1,(Q7x p0))] (.ref 1 4 0 2)),(9,rb [(.tmp 12,.ref 0 4 0 2)] [(0,(Zf0 p1 p0 p2 p3 p4))] (.ref 0 4 0 2))] ⟨acq [.ref 0 4 0 0] [(Zf0 p1 p0 p2 p3 p4)] [(Zf0 p1 p0 p2 p3 p4),Zf2] Q0u [0,5] Qr7 (Qdr N (w64 (p1+p0.Mass)) (w64 (p2+p0.Heat)) p3 p4 _ hf7) (Qbr (rnc (Qa0 rfl) rn0)) (slc (Qaq (rncc (rncc rn0))) Qas) (slc (Qaq (rncc (rncc rn0))) (slc (Qaq (rnc (Qbb rfl) (rnc (Qbb rfl) (rnc (Qbb rfl) (rnc (Qbb rfl) rn0))))) Qas)) (Qbr (rnc (Qbb rfl) (rnc (Qbb rfl) (rnc (Qbb rfl) (rnc (Qbb rfl) rn0))))),Qik rfl underlying235 Qxa (by decide) (by decide) (nle rfl) (by decide) rfl,Qbk rfl,Qbk rfl,Qbk rfl,tv⟩<|bln<|thn<|wxz1<|thn<|Qyl<|wxz<|wsq<|wtr<|Qam ?_
  refine thn<|wsq<|Qao ?_
  refine wx tbk [(1,rp [(.tmp 5,Zau),(.tmp 6,I 3)] (.ref 1 4 0 3))] ⟨Qik rfl underlying235 Qxa (by decide) (by decide) (nle rfl) (by decide) rfl,tv⟩ ?_
  obtain⟨x10,hf9,h⟩:=bno h
  refine wy1 tbk [(0,⟨_,_,_,_,false⟩),(2,rp [(.tmp 10,Q0u),(.tmp 11,I 3)] (.ref 0 4 0 3)),(3,rb [(.tmp 12,.ref 0 4 0 3)] [(0,(Zfz p1 p0 p2 p3 p4))] (.ref 0 4 0 3)),(6,rb [(.tmp 15,.ref 1 4 0 3)] [(1,(Q7x p0))] (.ref 1 4 0 3)),(9,rb [(.tmp 12,.ref 0 4 0 3)] [(0,(Zfz p1 p0 p2 p3 p4))] (.ref 0 4 0 3))] ⟨acq [.ref 0 4 0 0] [(Zfz p1 p0 p2 p3 p4)] [(Zfz p1 p0 p2 p3 p4),Zf2] Q0u [0,6] Qr7 (Qdr N (w64 (p1+p0.Mass)) (w64 (p2+p0.Heat)) (w64 (p3+p0.Silica)) p4 _ hf9) (Qbr (rnc (Qa0 rfl) rn0)) (slc (Qaq (rncc (rncc rn0))) Qas) (slc (Qaq (rncc (rncc rn0))) (slc (Qaq (rnc (Qbb rfl) (rnc (Qbb rfl) (rnc (Qbb rfl) (rnc (Qbb rfl) rn0))))) Qas)) (Qbr (rnc (Qbb rfl) (rnc (Qbb rfl) (rnc (Qbb rfl) (rnc (Qbb rfl) rn0))))),Qik rfl underlying235 Qxa (by decide) (by decide) (nle rfl) (by decide) rfl,Qbk rfl,Qbk rfl,Qbk rfl,tv⟩<|bln<|thn<|wxz1<|thn<|Qyl<|wxz<|wsq<|wfa<|Qa7 ?_
  refine Qau<|Qau<|Qa6 rfl ?_
  obtain rfl:=osi h
  exact⟨_,(mto (n:=21) (l':=[]) (own':=[(Zav p1 p0 p2 p3 p4)]) [] [0] [(Zav p1 p0 p2 p3 p4)] hq pn (qb (lcc (lcc ln)) qn)),fio [] tv⟩
def Qfw (N:Nat) (p0:List Qaa) (k5:Int×Int×Int×Int→Option Qaa):Nat→Int→Int→Int→Int→Int→Option Qaa
  |0,_,_,_,_,_=>none
  |n16+1,y6,y7,y8,y9,y10=>
    bif (decide (y6<(p0.length:Int))) then
     (getI p0 y6).bind fun x18=>
     (Qkr N x18 y7 y8 y9 y10).bind fun _=>
     Qfw N p0 k5 n16 (w64 (y6+1)) (w64 (y7+x18.Mass)) (w64 (y8+x18.Heat)) (w64 (y9+x18.Silica)) (w64 (y10+x18.Gas))
    else
     k5 (y7,y8,y9,y10)
def Qly (N:Nat) (p0:List Qaa):Option Qaa:=
  Qbc (fun ⟨y1,y2,y3,y4⟩=>
    some (⟨y1,y2,y3,y4⟩:Qaa)) fun k5:Int×Int×Int×Int→Option Qaa=>
  Qfw N p0 k5 N 0 0 0 0 0
def Zax:AV:=.fn (.func 160) [] [(.ref 0 4 (0) 0)]
def Zf3 (p0:List Qaa):AV:=.dat 4 (p0.map Qad)
def Zpv:Slot:=.own 4 [[(I (0)),(I (0)),(I (0)),(I (0))]]
def Zaw (y7 y8:Int) (y9 y10:Int):Slot:=.own 4 [[(I y7),(I y8),(I y9),(I y10)]]
def Zpu (x18:Qaa):AV:=.agg [(I x18.Mass),(I x18.Heat),(I x18.Silica),(I x18.Gas)]
def Zkb (y7:Int) (x18:Qaa) (y8 y9 y10:Int):Slot:=.own 4 [[(I (w64 (y7+x18.Mass))),(I (w64 (y8+x18.Heat))),(I (w64 (y9+x18.Silica))),(I (w64 (y10+x18.Gas)))]]
theorem Qzc (N:Nat) (p0:List Qaa) (r:Qaa) (h:Qly N p0=some r):Spec prog 155 [(.dat 4 (p0.map Qad))] [] (.agg (Qad r)) []:=by
  refine sA func155 0 fun _ _ _ hq hd0=>?_
  unfold Qly at h
  refine wxz<|wx tbk [(0,rp [(.tmp 2,.ref 0 4 0 0)] Zax)] ⟨Qfv (fs:=[]) (cs:=[.ref 0 4 0 0]) rfl rfl rfl rfl,tv⟩ ?_
  obtain⟨k5,hk_k5,h⟩:=jko h
  refine wjn (τ:=Int×Int×Int×Int) (fun t=>k5 t=some r) (fun ⟨y1,y2,y3,y4⟩=>⟨mk 18 [(2,.ref 0 4 0 0)],[(.own 4 [[I y1,I y2,I y3,I y4]])]⟩) (fun t h=>?_) ?_
  ·subst hk_k5
   obtain⟨y1,y2,y3,y4⟩:=t
   refine wxz<|Qai ?_
   obtain rfl:=osi h
   exact fie [(.agg [I y1,I y2,I y3,I y4])] ⟨Qbv (n:=0) (m:=4) (j:=0) (i:=0) (xs:=[[I y1,I y2,I y3,I y4]]) (by kernel_rfl) (by kernel_rfl) ti63 (by decide) rfl (nle rfl) rfl,tv⟩
  ·skip
   refine wx tbk [(1,rp _ _)] ⟨alq 4 Qad p0 underlying45,tv⟩<|Qao ?_
   refine wmr (mto (n:=18) (l':=[(2,.ref 0 4 0 0),(3,Zax),(7,(Zf3 p0)),(8,(I ((p0.length:Int)))),(9,I 0)]) (own':=[Zpv]) [(2,.ref 0 4 0 0),(3,Zax),(7,(Zf3 p0)),(8,(I ((p0.length:Int)))),(9,I 0)] [0] [Zpv] hq (prr (pc (.rn (Qbj rn0 (rnc (rqr rfl) rn0))) (pc (rnd Qal) (pw (pw pn))))) (qb (lcc (lcc ln)) qn)) ?_
   refine Qbl (τ:=Int×Int×Int×Int×Int) (fun n t=>Qfw N p0 k5 n t.1 t.2.1 t.2.2.1 t.2.2.2.1 t.2.2.2.2=some r) (fun ⟨y6,y7,y8,y9,y10⟩=>⟨mk 18 [(2,.ref 0 4 0 0),(3,Zax),(7,(Zf3 p0)),(8,(I ((p0.length:Int)))),(9,I y6)],[(Zaw y7 y8 y9 y10)]⟩) (fun t h=>by rw[Qfw] at h;cases h) (fun n16 ih t h=>?_) N (0,0,0,0,0) h
   obtain⟨y6,y7,y8,y9,y10⟩:=t
   rw[Qfw] at h
   skip
   refine wxz<|wsq ?_
   refine bfe h (fun hc17 h=>?_) fun hc17 h=>?_
   ·refine wft hc17<|Qam<|thn<|wsq<|Qao ?_
    obtain⟨x18,hg19,h⟩:=bno h
    obtain⟨hi20,hj21⟩:=gsm hg19
    refine wx tbk [(0,rp _ _)] ⟨aiq underlying45 ti63 Qad hi20 hj21,tv⟩ ?_
    obtain⟨x23,hf22,h⟩:=bno h
    refine wx1 tbk [(2,⟨_,_,_,_,false⟩)] ⟨Qdp (first:=[]) (cap:=[.ref 0 4 0 0]) (vs:=[(Zpu x18)]) (σr:=[(Zaw y7 y8 y9 y10)]) (σr':=[(Zkb y7 x18 y8 y9 y10)]) (res':=(.tup [])) [0] rfl Zhs (Qsu N x18 y7 y8 y9 y10 _ hf22) rfl (Qbr (rnc (.plain _ (NLt.agg _ (nlcc (nlcc nl0)))) (rnc (Qa0 rfl) rn0))) (slc (Qaq (rncc (rncc rn0))) Qas) (slc (Qaq (rncc (rncc rn0))) Qas) (.plain _ (NLt.tup _ nl0)) rfl rfl rfl,tv⟩<|bln<|thn<|wxz1<|thn ?_
    exact arm (mto (n:=18) [(2,.ref 0 4 0 0),(3,Zax),(7,(Zf3 p0)),(8,(I ((p0.length:Int)))),(9,(I (w64 (y6+1))))] [0] [(Zkb y7 x18 y8 y9 y10)] hq (prr (pc (.rn (Qbj rn0 (rnc (rqr rfl) rn0))) (pc (rnd Qal) (pw (pw pn))))) (qb (lcc (lcc ln)) qn)) (ih (w64 (y6+1),w64 (y7+x18.Mass),w64 (y8+x18.Heat),w64 (y9+x18.Silica),w64 (y10+x18.Gas)) h)
   ·exact wfn hc17<|Qa7<|Qau<|Qau<|Qa6 rfl<|thn<|⟨(y7,y8,y9,y10),h,(mto (n:=18) [(2,.ref 0 4 0 0)] [0] [(Zaw y7 y8 y9 y10)] hq (prr pn) (qb (lcc (lcc ln)) qn))⟩
def Qem (N:Nat) (p0:Qaa) (k3:(List Qaa)→Option ((List Qaa)×Qhv×Int)) (x7:List Int):Nat→(List Qaa)→Int→Option ((List Qaa)×Qhv×Int)
  |0,_,_=>none
  |n12+1,y8,y9=>
    bif (decide (y9<(x7.length:Int))) then
     (getI x7 y9).bind fun x14=>
     (Qfx N p0.Heat x14 p0.Mass p0.Heat p0.Silica p0.Gas).bind fun x19=>
     (Qfx N p0.Silica x14 p0.Mass p0.Heat p0.Silica p0.Gas).bind fun x21=>
     (Qfx N p0.Gas x14 p0.Mass p0.Heat p0.Silica p0.Gas).bind fun x23=>
     chk (decide ((y8.length+([(⟨x14,x19,x21,x23⟩:Qaa)]).length)*32≤140737488355328))<|
     Qem N p0 k3 x7 n12 (y8++([(⟨x14,x19,x21,x23⟩:Qaa)])) (w64 (y9+1))
    else
     k3 (y8)
def Qkx (N:Nat) (p0:Qaa) (p1:List Int):Option ((List Qaa)×Qhv×Int):=
  Qbc (fun _=>
    Qbc (fun y2=>
      (Qly N y2).bind fun x5=>
      some (y2,(⟨w64 (p0.Heat-x5.Heat),w64 (p0.Silica-x5.Silica),w64 (p0.Gas-x5.Gas)⟩:Qhv),0)) fun k3:(List Qaa)→Option ((List Qaa)×Qhv×Int)=>
    (Qjp N p0.Mass p1).bind fun x7=>
    Qem N p0 k3 x7 N ([]) 0) fun k1:Unit→Option ((List Qaa)×Qhv×Int)=>
  (Qd9 N p0).bind fun x26=>
  bif (!x26) then
   some ([],(⟨0,0,0⟩:Qhv),1)
  else
   bif (decide ((p1.length:Int)>20)) then
    some ([],(⟨0,0,0⟩:Qhv),1)
   else
    (Qh3 N p1).bind fun x30=>
    bif (!x30) then
     some ([],(⟨0,0,0⟩:Qhv),1)
    else
     (Qck N p1).bind fun x33=>
     bif (!x33) then
      some ([],(⟨0,0,0⟩:Qhv),1)
     else
      k1 ()
def Qu2 (p0:Qaa):Slot:=.own 4 [[(I p0.Mass),(I p0.Heat),(I p0.Silica),(I p0.Gas)]]
def Q0w:Slot:=.own 3 [[(I (0)),(I (0)),(I (0))]]
def Zp2 (p0 x5:Qaa):AV:=.agg [(I (w64 (p0.Heat-x5.Heat))),(I (w64 (p0.Silica-x5.Silica))),(I (w64 (p0.Gas-x5.Gas)))]
def Zf8:AV:=.fn (.func 154) [] [(.ref 3 1 (0) 0),(.ref 0 4 (0) 0)]
def Za2 (x14:Int) (p0:Qaa):AV:=.fn (.func 154) [] [(.dptr [(I x14)] 0),(.dptr [(I p0.Mass),(I p0.Heat),(I p0.Silica),(I p0.Gas)] 0)]
def Zsk (p0:Qaa):AV:=.agg [(I p0.Mass),(I p0.Heat),(I p0.Silica),(I p0.Gas)]
def Za1 (p0:Qaa) (x26:Bool):List (Nat×Rec):=[(1,rp [fu 131,((.tmp 12),(Zsk p0))] (B x26))]
def Zf9:AV:=.agg [(I (0)),(I (0)),(I (0))]
def Q5m:AV:=.dat 4 (([]:List Qaa).map Qad)
def Za0 p0 x26 (p1:List Int):=hcat (Za1 p0 x26) [(3,rp [((.tmp 14),(B ((!x26))))] (B false)),(5,rp [((.tmp 15),(B false)),((.tmp 16),(.dat 1 (p1.map Qac)))] (I ((p1.length:Int))))]
def Zaz p0 x26 p1 (x30:Bool):=hcat (Za0 p0 x26 p1) [(8,rp [((.tmp 19),(B ((decide ((p1.length:Int)>20)))))] (B false)),(11,rp [((.tmp 20),(B false)),fu 151,((.tmp 21),(.dat 1 (p1.map Qac))),((.tmp 22),(.fn (.func 150) [] []))] (B x30))]
theorem Qvj (N:Nat) (p0:Qaa) (p1:List Int) (r:((List Qaa)×Qhv×Int)) (h:Qkx N p0 p1=some r):Spec prog 146 [(.agg (Qad p0)),(.dat 1 (p1.map Qac))] [] (.tup [(.dat 4 (r.1.map Qad)),(.agg (Q0h r.2.1)),(I r.2.2)]) []:=by
  refine sA func146 0 fun _ _ _ hq hd0=>?_
  unfold Qkx at h
  refine wxz<|wxz ?_
  obtain⟨k1,hk_k1,h⟩:=jko h
  refine wjn (τ:=Unit) (fun t=>k1 t=some r) (fun _=>⟨mk 79 [(1,(.dat 1 (p1.map Qac))),(2,.ref 0 4 0 0),(4,nilS),(5,.ref 1 3 0 0)],[(Qu2 p0),Q0w]⟩) (fun t h=>?_) ?_
  ·subst hk_k1
   obtain⟨k3,hk_k3,h⟩:=jko h
   refine wjn (τ:=(List Qaa)) (fun t=>k3 t=some r) (fun y2=>⟨mk 79 [(2,.ref 0 4 0 0),(4,(.acc 1 63 4 (y2.map Qad))),(5,.ref 2 3 0 0)],[(Qu2 p0),.tok,Q0w]⟩) (fun y2 h=>?_) ?_
   ·subst hk_k3
    obtain⟨x5,hf4,h⟩:=bno h
    refine wx tbk [(1,rp [fu 155,(.tmp 60,(.acc 1 63 4 (y2.map Qad)))] (.agg [I x5.Mass,I x5.Heat,I x5.Silica,I x5.Gas]))] ⟨awk (rd':=(.func 155,(.fn (.func 155) [] []))::[(.tmp 60,(.dat 4 (y2.map Qad)))]) ⟨rfl,lrf,rfl,Less.acc,tv⟩ (apv Zhw (Qzc N y2 _ hf4) (nlc (nld Qal _) nl0) (NLt.agg _ (nlcc (nlcc nl0)))),tv⟩ ?_
    refine wxd tbk [(16,rp _ _)] ⟨Qaz (vs:=[(I (w64 (p0.Heat-x5.Heat))),(I (w64 (p0.Silica-x5.Silica))),(I (w64 (p0.Gas-x5.Gas)))]) rfl Zb6 Q8a rfl (by rfl) rfl,tv⟩<|Qai ?_
    obtain rfl:=osi h
    exact fie [(.dat 4 (y2.map Qad)),(Zp2 p0 x5),I 0] ⟨Qbz (v:=(.acc 1 63 4 (y2.map Qad))) rot Less.acc,Qbv (n:=2) (m:=3) (j:=0) (i:=0) (xs:=[[(I (w64 (p0.Heat-x5.Heat))),(I (w64 (p0.Silica-x5.Silica))),(I (w64 (p0.Gas-x5.Gas)))]]) (by kernel_rfl) (by kernel_rfl) Q8c (by decide) rfl (nle rfl) rfl,rot,tv⟩
   ·skip
    obtain⟨x7,hf6,h⟩:=bno h
    refine wx tbk [(3,rp _ _),(4,rp _ _)] ⟨apw Zhx (Qug N p0.Mass p1 _ hf6),alq 1 Qac x7 underlying27,tv⟩<|Qao ?_
    refine wmr (Mor.trans (Qpe 2 63 4 4 (by kernel_rfl) (by kernel_rfl)) (mto (n:=79) (l':=[(2,.ref 0 4 0 0),(4,(.acc 1 63 4 ((([]):List Qaa).map Qad))),(5,.ref 2 3 0 0),(35,(.dat 1 (x7.map Qac))),(36,(I ((x7.length:Int)))),(37,I 0)]) (own':=[(Qu2 p0),.tok,Q0w]) [(2,.ref 0 4 0 0),(4,(.acc 2 63 4 (([]:List Qaa).map Qad))),(5,.ref 1 3 0 0),(35,(.dat 1 (x7.map Qac))),(36,(I ((x7.length:Int)))),(37,I 0)] [0,2,1] [(Qu2 p0),.tok,Q0w] hq (prr (pc (.rn (Qa3 rfl (Qay Qal _))) (prr (pc (rnd Qah) (pw (pw pn)))))) (qb (lcc (lcc ln)) (qc .tok (qb (lcc (lc rwl ln)) qn))))) ?_
    refine Qbl (τ:=(List Qaa)×Int) (fun n t=>Qem N p0 k3 x7 n t.1 t.2=some r) (fun ⟨y8,y9⟩=>⟨mk 79 [(2,.ref 0 4 0 0),(4,(.acc 1 63 4 (y8.map Qad))),(5,.ref 2 3 0 0),(35,(.dat 1 (x7.map Qac))),(36,(I ((x7.length:Int)))),(37,I y9)],[(Qu2 p0),.tok,Q0w]⟩) (fun t h=>by rw[Qem] at h;cases h) (fun n12 ih t h=>?_) N ([],0) h
    obtain⟨y8,y9⟩:=t
    rw[Qem] at h
    skip
    refine wxz<|wsq ?_
    refine bfe h (fun hc13 h=>?_) fun hc13 h=>?_
    ·refine wft hc13<|Qam<|thn<|wsq<|Qao ?_
     obtain⟨x14,hg15,h⟩:=bno h
     obtain⟨hi16,hj17⟩:=gsm hg15
     refine wx tbk [(0,rp _ _)] ⟨aiq underlying27 ti3 Qac hi16 hj17,tv⟩ ?_
     refine wx tbk [(0,rp [(.tmp 9,.ref 3 1 0 0),(.tmp 2,.ref 0 4 0 0)] Zf8)] ⟨Qfv (fs:=[]) (cs:=[.ref 3 1 0 0,.ref 0 4 0 0]) rfl rfl rfl rfl,tv⟩ ?_
     obtain⟨x19,hf18,h⟩:=bno h
     obtain⟨x21,hf20,h⟩:=bno h
     obtain⟨x23,hf22,h⟩:=bno h
     obtain⟨ha24,h⟩:=cko h
     refine wy1 tbk [(5,rb [(.tmp 44,Zf8),(.tmp 46,I p0.Heat)] [(3,.own 1 [[I x14]]),(0,(Qu2 p0))] (I x19)),(9,rb [(.tmp 48,Zf8),(.tmp 50,I p0.Silica)] [(3,.own 1 [[I x14]]),(0,(Qu2 p0))] (I x21)),(13,rb [(.tmp 52,Zf8),(.tmp 54,I p0.Gas)] [(3,.own 1 [[I x14]]),(0,(Qu2 p0))] (I x23)),(14,rp _ _),(15,rp [(.tmp 56,(.agg [I x14,I x19,I x21,I x23]))] (.dat 4 (([(⟨x14,x19,x21,x23⟩:Qaa)]:List Qaa).map Qad))),(16,⟨[(.tmp 42,(.acc 1 63 4 (y8.map Qad))),(.tmp 57,(.dat 4 (([(⟨x14,x19,x21,x23⟩:Qaa)]:List Qaa).map Qad)))],[(1,.tok),(4,.unused)],(.acc 4 63 4 ((y8++([(⟨x14,x19,x21,x23⟩:Qaa)]):List Qaa).map Qad)),[(1,.dead),(4,.tok)],false⟩)] ⟨Qh2 (rd':=[(.tmp 44,(Za2 x14 p0)),(.tmp 46,I p0.Heat)]) [(3,1,[[I x14]]),(0,4,[[I p0.Mass,I p0.Heat,I p0.Silica,I p0.Gas]])] ⟨rfl,(Zi5 tv ⟨(Qsb 0 rfl (lc (.same _) ln)),(Qsb 1 rfl (lc (.same _) (lc (.same _) (lc (.same _) (lc (.same _) ln))))),tv⟩),rfl,.same _,tv⟩ (by rfl) (.lit _) Qqq (Qdp (first:=[]) (cap:=[(.dptr [I x14] 0),(.dptr [I p0.Mass,I p0.Heat,I p0.Silica,I p0.Gas] 0)]) (vs:=[I p0.Heat]) (σr:=[]) (σr':=[]) (res':=(I x19)) [] rfl Q0a (Qi8 N p0.Heat x14 p0.Mass p0.Heat p0.Silica p0.Gas _ hf18) rfl (Qbr (rnc (.plain _ nll) (rnc (.plain _ (NLt.dptr _ _ (nlc nll nl0))) (rnc (.plain _ (NLt.dptr _ _ (nlcc (nlcc nl0)))) rn0)))) Qas Qas (.plain _ nll) rfl rfl rfl),Qh2 (rd':=[(.tmp 48,(Za2 x14 p0)),(.tmp 50,I p0.Silica)]) [(3,1,[[I x14]]),(0,4,[[I p0.Mass,I p0.Heat,I p0.Silica,I p0.Gas]])] ⟨rfl,(Zi5 tv ⟨(Qsb 0 rfl (lc (.same _) ln)),(Qsb 1 rfl (lc (.same _) (lc (.same _) (lc (.same _) (lc (.same _) ln))))),tv⟩),rfl,.same _,tv⟩ (by rfl) (.lit _) Qqq (Qdp (first:=[]) (cap:=[(.dptr [I x14] 0),(.dptr [I p0.Mass,I p0.Heat,I p0.Silica,I p0.Gas] 0)]) (vs:=[I p0.Silica]) (σr:=[]) (σr':=[]) (res':=(I x21)) [] rfl Q0a (Qi8 N p0.Silica x14 p0.Mass p0.Heat p0.Silica p0.Gas _ hf20) rfl (Qbr (rnc (.plain _ nll) (rnc (.plain _ (NLt.dptr _ _ (nlc nll nl0))) (rnc (.plain _ (NLt.dptr _ _ (nlcc (nlcc nl0)))) rn0)))) Qas Qas (.plain _ nll) rfl rfl rfl),Qh2 (rd':=[(.tmp 52,(Za2 x14 p0)),(.tmp 54,I p0.Gas)]) [(3,1,[[I x14]]),(0,4,[[I p0.Mass,I p0.Heat,I p0.Silica,I p0.Gas]])] ⟨rfl,(Zi5 tv ⟨(Qsb 0 rfl (lc (.same _) ln)),(Qsb 1 rfl (lc (.same _) (lc (.same _) (lc (.same _) (lc (.same _) ln))))),tv⟩),rfl,.same _,tv⟩ (by rfl) (.lit _) Qqq (Qdp (first:=[]) (cap:=[(.dptr [I x14] 0),(.dptr [I p0.Mass,I p0.Heat,I p0.Silica,I p0.Gas] 0)]) (vs:=[I p0.Gas]) (σr:=[]) (σr':=[]) (res':=(I x23)) [] rfl Q0a (Qi8 N p0.Gas x14 p0.Mass p0.Heat p0.Silica p0.Gas _ hf22) rfl (Qbr (rnc (.plain _ nll) (rnc (.plain _ (NLt.dptr _ _ (nlc nll nl0))) (rnc (.plain _ (NLt.dptr _ _ (nlcc (nlcc nl0)))) rn0)))) Qas Qas (.plain _ nll) rfl rfl rfl),Qaz (vs:=[I x14,I x19,I x21,I x23]) rfl ts63 tz63 rfl (by rfl) rfl,Qbm (vs:=[(.agg [I x14,I x19,I x21,I x23])]) rfl underlying45 ti63 tz63 rfl (by decide) rfl (by decide) (by rfl) (by rfl) (by rfl) rfl,Qc7 rfl underlying45 te63 (Base.acc _ _) rfl rfl (by rfl) (Qf7 Qad ha24) (Qf6 Qad ha24 (by decide)) (Qf5 Qad) rfl rfl,tv⟩<|bln<|thn<|wxz1<|thn ?_
     exact arm (mto (n:=79) [(2,.ref 0 4 0 0),(4,(.acc 4 63 4 ((y8++([(⟨x14,x19,x21,x23⟩:Qaa)]):List Qaa).map Qad))),(5,.ref 2 3 0 0),(35,(.dat 1 (x7.map Qac))),(36,(I ((x7.length:Int)))),(37,(I (w64 (y9+1))))] [0,4,2] [(Qu2 p0),.tok,Q0w] hq (prr (pc (.rn (Qa3 rfl (Qay Qal _))) (prr (pc (rnd Qah) (pw (pw pn)))))) (qb (lcc (lcc ln)) (qc .tok (qb (lcc (lc rwl ln)) qn)))) (ih (y8++([(⟨x14,x19,x21,x23⟩:Qaa)]),w64 (y9+1)) h)
    ·exact wfn hc13<|Qa7<|Qau<|Qau<|Qa6 rfl<|thn<|⟨(y8),h,(mto (n:=79) [(2,.ref 0 4 0 0),(4,(.acc 1 63 4 (y8.map Qad))),(5,.ref 2 3 0 0)] [0,1,2] [(Qu2 p0),.tok,Q0w] hq (prr (pc (.rn (Qa3 rfl (Qay Qal _))) (prr pn))) (qb (lcc (lcc ln)) (qc .tok (qb (lcc (lc rwl ln)) qn))))⟩
  ·skip
   obtain⟨x26,hf25,h⟩:=bno h
   refine hpre (A:=(Za1 p0 x26)) ⟨apv Q0b (Qia N p0 _ hf25) (nlc (NLt.agg _ (nlcc (nlcc nl0))) nl0) nll,tv⟩ fun q1_=>?_
   refine bfe h (fun hb27 h=>?_) fun hb27 h=>?_
   ·refine wx tbk (hcat (Za1 p0 x26) [(3,rp [(.tmp 14,(B ((!x26))))] (B true))]) (hap q1_ ⟨asb hb27 (amv rfl),tv⟩)<|wtr ?_
    refine wx tbk [(0,rp _ _)] ⟨Qaz (vs:=[]) rfl Zb6 Q8a rfl (by rfl) rfl,tv⟩<|Qai<|Qaj ?_
    obtain rfl:=osi h
    exact fie [Q5m,Zf9,I 1] ⟨Qbz (v:=nilS) rot Less.nil,Qbv (n:=1) (m:=3) (j:=0) (i:=0) (xs:=[[I 0,I 0,I 0]]) (by kernel_rfl) (by kernel_rfl) Q8c (by decide) rfl (nle rfl) rfl,rot,tv⟩
   ·refine hpre (A:=(Za0 p0 x26 p1)) (hap q1_ ⟨asb hb27 (amv rfl),ag_ (alq 1 Qac p1 underlying27),tv⟩) fun q2_=>?_
    refine bfe h (fun hb28 h=>?_) fun hb28 h=>?_
    ·refine wx tbk (hcat (Za0 p0 x26 p1) [(8,rp [(.tmp 19,(B ((decide ((p1.length:Int)>20)))))] (B true))]) (hap q2_ ⟨asb hb28 (amv rfl),tv⟩)<|wtr ?_
     refine wx tbk [(0,rp _ _)] ⟨Qaz (vs:=[]) rfl Zb6 Q8a rfl (by rfl) rfl,tv⟩<|Qai<|Qaj ?_
     obtain rfl:=osi h
     exact fie [Q5m,Zf9,I 1] ⟨Qbz (v:=nilS) rot Less.nil,Qbv (n:=1) (m:=3) (j:=0) (i:=0) (xs:=[[I 0,I 0,I 0]]) (by kernel_rfl) (by kernel_rfl) Q8c (by decide) rfl (nle rfl) rfl,rot,tv⟩
    ·obtain⟨x30,hf29,h⟩:=bno h
     refine hpre (A:=(Zaz p0 x26 p1 x30)) (hap q2_ ⟨asb hb28 (amv rfl),ag_ (acq [(.dat 1 (p1.map Qac)),(.fn (.func 150) [] [])] [] [] (B x30) [] Zhz (Qqm N p1 _ hf29) (Qbr (rnc (pld Qah) (rnc (.plain _ (NLt.fn _ _ _ nl0 nl0)) rn0))) Qas Qas (.plain _ nll)),tv⟩) fun q3_=>?_
     refine bfe h (fun hb31 h=>?_) fun hb31 h=>?_
     ·refine wx tbk (hcat (Zaz p0 x26 p1 x30) [(14,rp [(.tmp 25,(B ((!x30))))] (B true))]) (hap q3_ ⟨asb hb31 (amv rfl),tv⟩)<|wtr ?_
      refine wx tbk [(0,rp _ _)] ⟨Qaz (vs:=[]) rfl Zb6 Q8a rfl (by rfl) rfl,tv⟩<|Qai<|Qaj ?_
      obtain rfl:=osi h
      exact fie [Q5m,Zf9,I 1] ⟨Qbz (v:=nilS) rot Less.nil,Qbv (n:=1) (m:=3) (j:=0) (i:=0) (xs:=[[I 0,I 0,I 0]]) (by kernel_rfl) (by kernel_rfl) Q8c (by decide) rfl (nle rfl) rfl,rot,tv⟩
     ·obtain⟨x33,hf32,h⟩:=bno h
      refine wx tbk (hcat (Zaz p0 x26 p1 x30) [(14,rp [(.tmp 25,(B ((!x30))))] (B false)),(16,rp [(.tmp 26,B false),fu 126,(.tmp 27,(.dat 1 (p1.map Qac))),fu 152] (B x33))]) (hap q3_ ⟨asb hb31 (amv rfl),ag_ (acq [(.dat 1 (p1.map Qac)),(.fn (.func 152) [] [])] [] [] (B x33) [] Qr9 (Qjr N p1 _ hf32) (Qbr (rnc (pld Qah) (rnc (.plain _ (NLt.fn _ _ _ nl0 nl0)) rn0))) Qas Qas (.plain _ nll)),tv⟩) ?_
      refine bfe h (fun hc34 h=>?_) fun hc34 h=>?_
      ·refine wft hc34<|wx tbk [(0,rp _ _)] ⟨Qaz (vs:=[]) rfl Zb6 Q8a rfl (by rfl) rfl,tv⟩<|Qai<|Qaj ?_
       obtain rfl:=osi h
       exact fie [Q5m,Zf9,I 1] ⟨Qbz (v:=nilS) rot Less.nil,Qbv (n:=1) (m:=3) (j:=0) (i:=0) (xs:=[[I 0,I 0,I 0]]) (by kernel_rfl) (by kernel_rfl) Q8c (by decide) rfl (nle rfl) rfl,rot,tv⟩
      ·exact wfn hc34<|Qam<|thn<|⟨(),h,(mto (n:=79) [(1,(.dat 1 (p1.map Qac))),(2,.ref 0 4 0 0),(4,nilS),(5,.ref 1 3 0 0)] [0,1] [(Qu2 p0),Q0w] hq (pc (rnd Qah) (prr (pw (prr pn)))) (qb (lcc (lcc ln)) (qb (lcc (lc rwl ln)) qn)))⟩
end
end Go.Proofs.YtmbhnllcfmiajaaGreat
