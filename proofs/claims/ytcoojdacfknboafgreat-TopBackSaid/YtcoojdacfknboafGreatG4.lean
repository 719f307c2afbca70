/-
  The texts X3, X4, X5, X6, X7 of the proof, one behind the other. No conditions.
-/
import Derived.Test.YtcoojdacfknboafGreatG3
namespace Go.Proofs.YtcoojdacfknboafGreat
open _root_.Go.Proofs.Tryz
open Go.RowKit
set_option maxRecDepth 100000
set_option maxHeartbeats 4000000
set_option synthInstance.maxSize 4000
set_option synthInstance.maxHeartbeats 400000
set_option linter.defProp false
set_option linter.unusedVariables false
set_option linter.unusedSimpArgs false
section
def Qh7 (_N:Nat) (p0:List Int):Option Unit:=chk (!p0.isEmpty)<|chk (!p0.isEmpty)<|chk (decide ((0+p0.length)*8<=140737488355328))<|some ()
abbrev Zup:AV:=.acc 0 3 1 ((([]:List Int):List Int).map Qab)
def Qpa (N:Nat) (p0:List Int) (r:Unit) (h:Qh7 N p0=some r):Spec prog 62 [.dat 1 (p0.map Qab)] [] (.own 0 1 (0) p0.length) [.own 1 (p0.map Qab)]:=by
 refine sF func62 1 fun _ _ _ hq hd0=>?_
 unfold Qh7 at h
 refine wxz<|wsq<|ckq h fun hz1 h=>?_
 refine wx tbk [(1,rp [(.tmp 3,.dat 1 (p0.map Qab)),(.const (.slice none 0 0),nilS)] (B false))] ⟨Q9c rfl Xag rfl (Qmz hz1),tv⟩<|wfa<|Qah<|thn ?_
 refine ckq h fun a3 h=>ckq h fun a2 h=>wx tbk [(0,⟨[],[(0,.unused)],Zup,[(0,.tok)],false⟩),(2,⟨[(.tmp 5,Zup),(.tmp 6,.dat 1 (p0.map Qab))],[(0,.tok),(1,.unused)],.own 1 1 (0) p0.length,[(0,.dead),(1,.own 1 (p0.map Qab))],false⟩)] ⟨Qlb rfl Xag ti3 tz3,Zd3 rfl Xag te3 (Base.acc _ _) rfl rfl (Qmz a3) (Qsa Qab Qvh _) (Zn5 Qab a2) (Zn4 Qab a2 (by decide)) (Xb3 _),tv⟩ ?_
 refine wmr (mto (n:=8) (l':=[(2,.own 0 1 (0) p0.length)]) (own':=[.own 1 (p0.map Qab)]) [(2,.own 1 1 (0) p0.length)] [1] [.own 1 (p0.map Qab)] hq (pc (.rn (Qas rfl)) pn) (qc (spr Qar) qn))<|Qad ?_
 obtain rfl:=osi h
 exact⟨_,Mor.rfl,fio [.own 0 1 (0) p0.length] ⟨rot,tv⟩⟩
def Qvf:DRet prog 63 [1,1]:=by
 refine Qwj (t:=5) (args:=[.any,.any]) func63 rfl (fun _ _=>rfl) (by kernel_rfl) Zrn 0 (nle rfl) (fun X φ0 w0 hq=>?_)
 exact Qaf<|wx tbk [(0,rp [(.tmp 5,.lit .nilIface),(.const .nilIface,.lit .nilIface)] (B true))] ⟨Q6n rfl underlying20,tv⟩<|wtr<|wxz1<|bln<|fend ⟨[],tv,rfl⟩ (.tup _ nl0)
def Qin (_N:Nat) (p0:Qam) (p1:Int):Option Int:=chk (p0.Narrow != 0)<|(some (if (w64 (p0.Wide-(w64 (p1.tdiv p0.Narrow))))>0 then w64 (p0.Wide-(w64 (p1.tdiv p0.Narrow))) else 0)).bind fun x2=>some x2
def Qmv (N:Nat) (p0:Qam) (p1 r:Int) (h:Qin N p0 p1=some r):Spec prog 65 [.agg (Qaj p0),I p1] [] (I r) []:=by
 refine sA func65 0 fun _ _ _ hq hd0=>?_
 unfold Qin at h
 refine wxz<|ckq h fun hz1 h=>bnq h fun x2 hl3 h=>?_
 refine wxd tbk [(5,rp [(.tmp 7,I p1),(.tmp 9,I p0.Narrow)] (I (w64 (p1.tdiv p0.Narrow)))),(7,rp [ci 0,(.tmp 11,I (w64 (p0.Wide-(w64 (p1.tdiv p0.Narrow)))))] (I x2))] ⟨Qr3 rfl (Qzj hz1),Qhz hl3 (Qux rfl),tv⟩<|Qad ?_
 obtain rfl:=osi h
 exact fend ⟨[I x2],⟨rot,tv⟩,rfl⟩ nll
def Qjr (_N:Nat) (_p0:Int) (_p1:List GRow) (_p2:List Qam) (_p3 _p4 _p5:Nat) (_p6:List Qaa) (_p7:Int) (_p8:List (List Qaa)) (_p9:List Qbp) (_p10:List Int):Option Unit:=some ()
abbrev Zkx (p1:List GRow) (p2:List Qam) (p3 p4 p5:Nat) (p6:List Qaa) (p7:Int):Slot:=.own 7 [[.dat 5 (p1.map Qat),.dat 7 (p2.map Qaj),.own 1 1 (0) p3,.own 2 4 (0) p4,.own 3 1 (0) p5,.dat 4 (p6.map Qag),I p7]]
abbrev Ze8:AV:=.fn (.func 99) [] [.ref 4 1 (0) 0,.ref 5 1 (0) 0]
abbrev Zqf:Slot:=.own 1 [[.ref 0 7 (0) 0]]
def Qsn (N:Nat) (p0:Int) (p1:List GRow) (p2:List Qam) (p3 p4 p5:Nat) (p6:List Qaa) (p7:Int) (p8:List (List Qaa)) (p9:List Qbp) (p10:List Int) (r:Unit) (h:Qjr N p0 p1 p2 p3 p4 p5 p6 p7 p8 p9 p10=some r):Spec prog 83 [.ref 0 7 (0) 0,I p0] [Zkx p1 p2 p3 p4 p5 p6 p7,.own 1 (p8.map Qao),.own 4 (p9.map Qa9),.own 1 (p10.map Qab)] Ze8 [Zkx p1 p2 p3 p4 p5 p6 p7,.own 1 (p8.map Qao),.own 4 (p9.map Qa9),.own 1 (p10.map Qab),Zqf,.own 1 [[I p0]]]:=by
 refine sF func83 6 fun _ _ _ hq hd0=>?_
 unfold Qjr at h
 refine wxz<|wx tbk [(0,rp [(.tmp 2,.ref 4 1 0 0),(.tmp 3,.ref 5 1 0 0)] Ze8)] ⟨Qfp (fs:=[]) (cs:=[.ref 4 1 0 0,.ref 5 1 0 0]) rfl rfl rfl rfl,tv⟩ ?_
 refine wmr (mto (n:=6) (l':=[(4,Ze8)]) (own':=[Zkx p1 p2 p3 p4 p5 p6 p7,.own 1 (p8.map Qao),.own 4 (p9.map Qa9),.own 1 (p10.map Qab),Zqf,.own 1 [[I p0]]]) [(4,Ze8)] [0,1,2,3,4,5] [Zkx p1 p2 p3 p4 p5 p6 p7,.own 1 (p8.map Qao),.own 4 (p9.map Qa9),.own 1 (p10.map Qab),Zqf,.own 1 [[I p0]]] hq (pc (.rn (Qby rn0 (rnc (rqr rfl) (rnc (rqr rfl) rn0)))) pn) (qb (lc (rnd Qcg) (lc (rnd Qau) (lc (.rn (Qas rfl)) (lc (.rn (Qas rfl)) (lc (.rn (Qas rfl)) (lc (rnd Qaq) (lc rwl ln))))))) (qc (spr Qa6) (qc (spr Qcp) (qc (spr Qar) (qb (lc (.rn (rqr rfl)) ln) (qbi qn)))))))<|Qad ?_
 obtain rfl:=osi h
 exact⟨_,Mor.rfl,fio [Ze8] ⟨rot,tv⟩⟩
def Qd4 (N:Nat) (p0:List Int) (k1:Unit->Option Int) (p1:Int):Nat->Int->Option Int
 |0,_=>none
 |n4+1,y2=>bif decide (y2<(p0.length:Int)) then (getI p0 y2).bind fun x6=>bif (p1==x6) then some y2 else Qd4 N p0 k1 p1 n4 (w64 (y2+1)) else k1 ()
def Qhh (N:Nat) (p0:List Int) (p1:Int):Option Int:=Qb0 (fun _=>some (-1)) fun k1:Unit->Option Int=>Qd4 N p0 k1 p1 N 0
def Qlv (N:Nat) (p0:List Int) (p1 r:Int) (h:Qhh N p0 p1=some r):Spec prog 100 [.dat 1 (p0.map Qab),I p1] [] (I r) []:=by
 refine sA func100 0 fun _ _ _ hq hd0=>?_
 unfold Qhh at h
 refine wxz<|wjq h (fun _=>⟨mk 19 [],[]⟩) (fun t h=>?_) fun k1 h=>?_
 ·refine wxz<|Qad ?_
  obtain rfl:=osi h
  exact fend ⟨[I (-1)],⟨rot,tv⟩,rfl⟩ nll
 refine wx tbk [(1,rp _ _)] ⟨alq 1 Qab p0 Xag,tv⟩<|Qaf ?_
 refine wmr (mto (n:=19) (l':=[(0,.dat 1 (p0.map Qab)),(1,I p1),(7,I (p0.length:Int)),(8,I 0)]) (own':=[]) [(0,.dat 1 (p0.map Qab)),(1,I p1),(7,I (p0.length:Int)),(8,I 0)] [] [] hq (pqi (pw (pw (pw pn)))) qn) ?_
 refine Qbf (τ:=Int) (fun n t=>Qd4 N p0 k1 p1 n t=some r) (fun y2=>⟨mk 19 [(0,.dat 1 (p0.map Qab)),(1,I p1),(7,I (p0.length:Int)),(8,I y2)],[]⟩) (fun t h=>by rw[Qd4] at h;cases h) (fun n4 ih y2 h=>?_) N (0) h
 rw[Qd4] at h
 refine wxz<|wsq<|bfq h (fun c5 h=>?_) fun c5 h=>?_
 ·refine Qah<|thn<|wsq<|Qaf<|wxz ?_
  refine bgq h fun x6 i8 j9 h=>wx tbk [(3,rp _ _)] ⟨aiq Xag ti3 Qab i8 j9,tv⟩<|bfq h (fun c10 h=>?_) fun c10 h=>?_
  ·refine wxz<|Qad<|Qal<|Qac<|Qac<|Qal<|Qac ?_
   obtain rfl:=osi h
   exact fend ⟨[I y2],⟨rot,tv⟩,rfl⟩ nll
  exact Qah<|bln<|thn<|wxz1<|thn<|arm (mto (n:=19) [(0,.dat 1 (p0.map Qab)),(1,I p1),(7,I (p0.length:Int)),(8,I (w64 (y2+1)))] [] [] hq (pqi (pw (pw (pw pn)))) qn) (ih (w64 (y2+1)) h)
 exact Qax<|Qan<|Qan<|Qaw rfl<|thn<|⟨(),h,mto (n:=19) [] [] [] hq pn qn⟩
def Qe6 (N:Nat) (x1:Qam) (p2:List (List Qaa)):Nat->Int->Option (List Qaa)
 |0,_=>none
 |n19+1,y15=>bif decide (y15<(x1.From.length:Int)) then (getI x1.From y15).bind fun x21=>(getI p2 x21.Element).bind fun x25=>(getI x25 x21.Outlet).bind fun x29=>yld x29<|Qe6 N x1 p2 n19 (w64 (y15+1)) else some ([])
def Qjq (N:Nat) (p0:List GRow) (p1:List Qam) (p2:List (List Qaa)) (_p3:List Qbp) (_p4:List Int) (p5:List Qaa) (_p6 p7:Int):Option (List Qaa):=(getI p1 p7).bind fun x1=>bif (x1.Kind==1) then (Qlx N (⟨p0,p1⟩:GNet) 1).bind fun x7=>(Qhh N x7 p7).bind fun x9=>(getI p5 x9).bind fun x10=>yld x10<|some ([]) else Qe6 N x1 p2 N 0
abbrev Qji (p1:List Qam):AV:=.dat 7 (p1.map Qaj)
abbrev Qiu (p2:List (List Qaa)):AV:=.dat 1 (p2.map Qao)
abbrev Qjl (p3:List Qbp):AV:=.dat 4 (p3.map Qa9)
abbrev Qit (p5:List Qaa):AV:=.dat 4 (p5.map Qag)
abbrev Zkv (p0:List GRow) (p1:List Qam):AV:=.agg [.dat 5 (p0.map Qat),Qji p1]
abbrev Ze7 (x10:Qaa):AV:=.agg [I x10.Mass,I x10.Heat,I x10.Silica,I x10.Gas]
abbrev Zku (x1:Qam):AV:=.dat 2 (x1.From.map Qew)
abbrev Qv4 (x21:Qhm):Slot:=.own 2 [[I x21.Element,I x21.Outlet]]
abbrev Q39 (x29:Qaa):AV:=.agg [I x29.Mass,I x29.Heat,I x29.Silica,I x29.Gas]
def Qsm (N:Nat) (p0:List GRow) (p1:List Qam) (p2:List (List Qaa)) (p3:List Qbp) (p4:List Int) (p5:List Qaa) (p6 p7:Int) (r:List Qaa) (h:Qjq N p0 p1 p2 p3 p4 p5 p6 p7=some r):Qv0 prog 99 [.dptr [.dptr [.dat 5 (p0.map Qat),Qji p1,Qiu p2,Qjl p3,.dat 1 (p4.map Qab),Qit p5,I p6] 0] 0,.dptr [I p7] 0] [] (fun x=>[.agg [I x.Mass,I x.Heat,I x.Silica,I x.Gas]]) r:=by
 refine Qvb func99 rfl rfl (fun X φ0 w0 l J hq _ hy=>?_)
 unfold Qjq at h
 refine wsq<|bgq h fun x1 i3 j4 h=>wxd tbk [(6,rp _ _)] ⟨aiq Xa2 Qo8 Qaj i3 j4,tv⟩<|bfq h (fun c5 h=>?_) fun c5 h=>?_
 ·refine bnq h fun x7 f6 h=>bnq h fun x9 f8 h=>bgq h fun x10 i12 j13 h=>?_
  obtain⟨q14,hy_,hq_⟩:=Q2c h
  clear h
  try dsimp only at hq_
  subst hq_
  have h:=hy_
  clear hy_
  refine Qzm 14 [mv 0 (.lit (.func (.yield l) #[] #[])),rp [(.tmp 1,.dptr [.dptr [.dat 5 (p0.map Qat),Qji p1,Qiu p2,Qjl p3,.dat 1 (p4.map Qab),Qit p5,I p6] 0] 0)] (.dptr [.dat 5 (p0.map Qat),Qji p1,Qiu p2,Qjl p3,.dat 1 (p4.map Qab),Qit p5,I p6] 0),mv 17 (.dptr [.dat 5 (p0.map Qat),Qji p1,Qiu p2,Qjl p3,.dat 1 (p4.map Qab),Qit p5,I p6] 0),rp [(.tmp 18,.dptr [.dat 5 (p0.map Qat),Qji p1,Qiu p2,Qjl p3,.dat 1 (p4.map Qab),Qit p5,I p6] 0)] (.dptr [.dat 5 (p0.map Qat),Qji p1,Qiu p2,Qjl p3,.dat 1 (p4.map Qab),Qit p5,I p6] 5),rp [(.tmp 19,.dptr [.dat 5 (p0.map Qat),Qji p1,Qiu p2,Qjl p3,.dat 1 (p4.map Qab),Qit p5,I p6] 5)] (Qit p5),rp [(.tmp 1,.dptr [.dptr [.dat 5 (p0.map Qat),Qji p1,Qiu p2,Qjl p3,.dat 1 (p4.map Qab),Qit p5,I p6] 0] 0)] (.dptr [.dat 5 (p0.map Qat),Qji p1,Qiu p2,Qjl p3,.dat 1 (p4.map Qab),Qit p5,I p6] 0),mv 21 (.dptr [.dat 5 (p0.map Qat),Qji p1,Qiu p2,Qjl p3,.dat 1 (p4.map Qab),Qit p5,I p6] 0),mv 22 (.dptr [.dat 5 (p0.map Qat),Qji p1,Qiu p2,Qjl p3,.dat 1 (p4.map Qab),Qit p5,I p6] 0),rp [(.tmp 23,.dptr [.dat 5 (p0.map Qat),Qji p1,Qiu p2,Qjl p3,.dat 1 (p4.map Qab),Qit p5,I p6] 0)] (Zkv p0 p1),rp [fu 78,(.tmp 24,Zkv p0 p1),(.const (.int .u8 1),K .u8 (1))] (.dat 1 (x7.map Qab)),rp [(.tmp 2,.dptr [I p7] 0)] (I p7),rp [fu 100,(.tmp 25,.dat 1 (x7.map Qab)),(.tmp 26,I p7)] (I x9),rp [(.tmp 20,Qit p5),(.tmp 27,I x9)] (.dptr (Qag x10) 0),rp [(.tmp 28,.dptr (Qag x10) 0)] (Ze7 x10),⟨[(.tmp 16,.lit (.func (.yield l) #[] #[])),(.tmp 29,Ze7 x10)],[(0,.far (J (some (x10::q14))))],B true,[(0,.far (J (some q14)))],false⟩] [mv 0 (.lit (.func (.yield l) #[] #[])),rp [(.tmp 1,.dptr [.dptr [.dat 5 (p0.map Qat),Qji p1,Qiu p2,Qjl p3,.dat 1 (p4.map Qab),Qit p5,I p6] 0] 0)] (.dptr [.dat 5 (p0.map Qat),Qji p1,Qiu p2,Qjl p3,.dat 1 (p4.map Qab),Qit p5,I p6] 0),mv 17 (.dptr [.dat 5 (p0.map Qat),Qji p1,Qiu p2,Qjl p3,.dat 1 (p4.map Qab),Qit p5,I p6] 0),rp [(.tmp 18,.dptr [.dat 5 (p0.map Qat),Qji p1,Qiu p2,Qjl p3,.dat 1 (p4.map Qab),Qit p5,I p6] 0)] (.dptr [.dat 5 (p0.map Qat),Qji p1,Qiu p2,Qjl p3,.dat 1 (p4.map Qab),Qit p5,I p6] 5),rp [(.tmp 19,.dptr [.dat 5 (p0.map Qat),Qji p1,Qiu p2,Qjl p3,.dat 1 (p4.map Qab),Qit p5,I p6] 5)] (Qit p5),rp [(.tmp 1,.dptr [.dptr [.dat 5 (p0.map Qat),Qji p1,Qiu p2,Qjl p3,.dat 1 (p4.map Qab),Qit p5,I p6] 0] 0)] (.dptr [.dat 5 (p0.map Qat),Qji p1,Qiu p2,Qjl p3,.dat 1 (p4.map Qab),Qit p5,I p6] 0),mv 21 (.dptr [.dat 5 (p0.map Qat),Qji p1,Qiu p2,Qjl p3,.dat 1 (p4.map Qab),Qit p5,I p6] 0),mv 22 (.dptr [.dat 5 (p0.map Qat),Qji p1,Qiu p2,Qjl p3,.dat 1 (p4.map Qab),Qit p5,I p6] 0),rp [(.tmp 23,.dptr [.dat 5 (p0.map Qat),Qji p1,Qiu p2,Qjl p3,.dat 1 (p4.map Qab),Qit p5,I p6] 0)] (Zkv p0 p1),rp [fu 78,(.tmp 24,Zkv p0 p1),(.const (.int .u8 1),K .u8 (1))] (.dat 1 (x7.map Qab)),rp [(.tmp 2,.dptr [I p7] 0)] (I p7),rp [fu 100,(.tmp 25,.dat 1 (x7.map Qab)),(.tmp 26,I p7)] (I x9),rp [(.tmp 20,Qit p5),(.tmp 27,I x9)] (.dptr (Qag x10) 0),rp [(.tmp 28,.dptr (Qag x10) 0)] (Ze7 x10),⟨[(.tmp 16,.lit (.func (.yield l) #[] #[])),(.tmp 29,Ze7 x10)],[(0,.far (J (some (x10::q14))))],B false,[(0,.far (J none))],false⟩] (by exact⟨by kernel_rfl,by kernel_rfl⟩) (by exact⟨by kernel_rfl,by kernel_rfl⟩) rfl rfl rfl rfl (Qq4 (rd':=(.tmp 16,.lit (.func (.yield l) #[] #[]))::[(.tmp 29,Ze7 x10)]) ⟨rfl,lrf,rfl,lrf,tv⟩ (Qpu (x:=x10) (rest:=q14) rfl rfl hy rfl)) (⟨fun _ _=>amv rfl,fun _ _=>ald_ rfl Qz5 (by decide) (nle rfl) rfl,fun _ _=>anc rfl rfl,fun _ _=>afd rfl Xbh rfl rfl ti52 (by decide) rfl,fun _ _=>ald_ rfl ti52 (by decide) (nle rfl) rfl,fun _ _=>ald_ rfl Qz5 (by decide) (nle rfl) rfl,fun _ _=>anc rfl rfl,fun _ _=>afd rfl Xbh rfl rfl ti50 (by decide) rfl,fun _ _=>ald_ rfl ti50 (by decide) (nle rfl) rfl,fun _ _=>apw Q8t (Qot N (⟨p0,p1⟩:GNet) 1 _ f6),fun _ _=>ald_ rfl ti3 (by decide) (nle rfl) rfl,fun _ _=>apw Zbx (Qlv N x7 p7 _ f8),fun _ _=>aiq Xa4 ti40 Qag i12 j13,fun _ _=>ald_ rfl ti40 (by decide) (nle rfl) rfl,fun _ h=>absurd rfl h,tv⟩) (⟨fun _ _=>amv rfl,fun _ _=>ald_ rfl Qz5 (by decide) (nle rfl) rfl,fun _ _=>anc rfl rfl,fun _ _=>afd rfl Xbh rfl rfl ti52 (by decide) rfl,fun _ _=>ald_ rfl ti52 (by decide) (nle rfl) rfl,fun _ _=>ald_ rfl Qz5 (by decide) (nle rfl) rfl,fun _ _=>anc rfl rfl,fun _ _=>afd rfl Xbh rfl rfl ti50 (by decide) rfl,fun _ _=>ald_ rfl ti50 (by decide) (nle rfl) rfl,fun _ _=>apw Q8t (Qot N (⟨p0,p1⟩:GNet) 1 _ f6),fun _ _=>ald_ rfl ti3 (by decide) (nle rfl) rfl,fun _ _=>apw Zbx (Qlv N x7 p7 _ f8),fun _ _=>aiq Xa4 ti40 Qag i12 j13,fun _ _=>ald_ rfl ti40 (by decide) (nle rfl) rfl,fun _ h=>absurd rfl h,tv⟩) ?_ ?_
  ·refine Qad<|Qac ?_
   obtain rfl:=osi h
   exact Or.inl (by kernel_rfl)
  clear h
  exact Qad<|Qac<|Or.inr (by kernel_rfl)
 refine Qah<|thn ?_
 refine wxd tbk [(6,rp _ _),(9,rp _ _)] ⟨aiq Xa2 Qo8 Qaj i3 j4,alq 2 Qew x1.From Xcq,tv⟩<|Qaf ?_
 refine wmr (mto (n:=62) (l':=[(0,.lit (.func (.yield l) #[] #[])),(1,.dptr [.dptr [.dat 5 (p0.map Qat),Qji p1,Qiu p2,Qjl p3,.dat 1 (p4.map Qab),Qit p5,I p6] 0] 0),(39,Zku x1),(40,I (x1.From.length:Int)),(41,I 0)]) (own':=[.far (J (some r))]) [(0,.lit (.func (.yield l) #[] #[])),(1,.dptr [.dptr [.dat 5 (p0.map Qat),Qji p1,Qiu p2,Qjl p3,.dat 1 (p4.map Qab),Qit p5,I p6] 0] 0),(39,Zku x1),(40,I (x1.From.length:Int)),(41,I 0)] [0] [.far (J (some r))] hq (pw (pqi (pqi (pw (pw pn))))) (qc (.far _) qn)) ?_
 refine Qbf (τ:=(Int)×List Qaa) (fun n t=>Qe6 N x1 p2 n t.1=some t.2) (fun ⟨y15,q16⟩=>⟨mk 62 [(0,.lit (.func (.yield l) #[] #[])),(1,.dptr [.dptr [.dat 5 (p0.map Qat),Qji p1,Qiu p2,Qjl p3,.dat 1 (p4.map Qab),Qit p5,I p6] 0] 0),(39,Zku x1),(40,I (x1.From.length:Int)),(41,I y15)],[.far (J (some q16))]⟩) (fun t h=>by rw[Qe6] at h;cases h) (fun n19 ih t h=>?_) N (0,r) h
 obtain⟨y15,q16⟩:=t
 rw[Qe6] at h
 try dsimp only at h
 refine wxz<|wsq<|bfq h (fun c20 h=>?_) fun c20 h=>?_
 ·refine Qah<|thn<|wsq<|Qaf ?_
  refine bgq h fun x21 i23 j24 h=>wx tbk [(0,rp _ _)] ⟨aiq Xcq ti99 Qew i23 j24,tv⟩<|bgq h fun x25 i27 j28 h=>bgq h fun x29 i31 j32 h=>?_
  obtain⟨q33,hy_,hq_⟩:=Q2c h
  clear h
  try dsimp only at hq_
  subst hq_
  have h:=hy_
  clear hy_
  refine Qzm 14 [mv 0 (.lit (.func (.yield l) #[] #[])),rp [(.tmp 1,.dptr [.dptr [.dat 5 (p0.map Qat),Qji p1,Qiu p2,Qjl p3,.dat 1 (p4.map Qab),Qit p5,I p6] 0] 0)] (.dptr [.dat 5 (p0.map Qat),Qji p1,Qiu p2,Qjl p3,.dat 1 (p4.map Qab),Qit p5,I p6] 0),mv 46 (.dptr [.dat 5 (p0.map Qat),Qji p1,Qiu p2,Qjl p3,.dat 1 (p4.map Qab),Qit p5,I p6] 0),rp [(.tmp 47,.dptr [.dat 5 (p0.map Qat),Qji p1,Qiu p2,Qjl p3,.dat 1 (p4.map Qab),Qit p5,I p6] 0)] (.dptr [.dat 5 (p0.map Qat),Qji p1,Qiu p2,Qjl p3,.dat 1 (p4.map Qab),Qit p5,I p6] 2),mv 48 (.dptr [.dat 5 (p0.map Qat),Qji p1,Qiu p2,Qjl p3,.dat 1 (p4.map Qab),Qit p5,I p6] 2),rp [(.tmp 49,.dptr [.dat 5 (p0.map Qat),Qji p1,Qiu p2,Qjl p3,.dat 1 (p4.map Qab),Qit p5,I p6] 2)] (Qiu p2),rb [(.tmp 5,.ref 1 2 0 0)] [(1,Qv4 x21)] (.ref 1 2 0 0),rb [(.tmp 51,.ref 1 2 0 0)] [(1,Qv4 x21)] (I x21.Element),rp [(.tmp 50,Qiu p2),(.tmp 52,I x21.Element)] (.dptr (Qao x25) 0),rp [(.tmp 53,.dptr (Qao x25) 0)] (.dat 4 (x25.map Qag)),rb [(.tmp 5,.ref 1 2 0 0)] [(1,Qv4 x21)] (.ref 1 2 0 1),rb [(.tmp 55,.ref 1 2 0 1)] [(1,Qv4 x21)] (I x21.Outlet),rp [(.tmp 54,.dat 4 (x25.map Qag)),(.tmp 56,I x21.Outlet)] (.dptr (Qag x29) 0),rp [(.tmp 57,.dptr (Qag x29) 0)] (Q39 x29),⟨[(.tmp 45,.lit (.func (.yield l) #[] #[])),(.tmp 58,Q39 x29)],[(0,.far (J (some (x29::q33))))],B true,[(0,.far (J (some q33)))],false⟩,rp [(.tmp 59,B true)] (B false)] [mv 0 (.lit (.func (.yield l) #[] #[])),rp [(.tmp 1,.dptr [.dptr [.dat 5 (p0.map Qat),Qji p1,Qiu p2,Qjl p3,.dat 1 (p4.map Qab),Qit p5,I p6] 0] 0)] (.dptr [.dat 5 (p0.map Qat),Qji p1,Qiu p2,Qjl p3,.dat 1 (p4.map Qab),Qit p5,I p6] 0),mv 46 (.dptr [.dat 5 (p0.map Qat),Qji p1,Qiu p2,Qjl p3,.dat 1 (p4.map Qab),Qit p5,I p6] 0),rp [(.tmp 47,.dptr [.dat 5 (p0.map Qat),Qji p1,Qiu p2,Qjl p3,.dat 1 (p4.map Qab),Qit p5,I p6] 0)] (.dptr [.dat 5 (p0.map Qat),Qji p1,Qiu p2,Qjl p3,.dat 1 (p4.map Qab),Qit p5,I p6] 2),mv 48 (.dptr [.dat 5 (p0.map Qat),Qji p1,Qiu p2,Qjl p3,.dat 1 (p4.map Qab),Qit p5,I p6] 2),rp [(.tmp 49,.dptr [.dat 5 (p0.map Qat),Qji p1,Qiu p2,Qjl p3,.dat 1 (p4.map Qab),Qit p5,I p6] 2)] (Qiu p2),rb [(.tmp 5,.ref 1 2 0 0)] [(1,Qv4 x21)] (.ref 1 2 0 0),rb [(.tmp 51,.ref 1 2 0 0)] [(1,Qv4 x21)] (I x21.Element),rp [(.tmp 50,Qiu p2),(.tmp 52,I x21.Element)] (.dptr (Qao x25) 0),rp [(.tmp 53,.dptr (Qao x25) 0)] (.dat 4 (x25.map Qag)),rb [(.tmp 5,.ref 1 2 0 0)] [(1,Qv4 x21)] (.ref 1 2 0 1),rb [(.tmp 55,.ref 1 2 0 1)] [(1,Qv4 x21)] (I x21.Outlet),rp [(.tmp 54,.dat 4 (x25.map Qag)),(.tmp 56,I x21.Outlet)] (.dptr (Qag x29) 0),rp [(.tmp 57,.dptr (Qag x29) 0)] (Q39 x29),⟨[(.tmp 45,.lit (.func (.yield l) #[] #[])),(.tmp 58,Q39 x29)],[(0,.far (J (some (x29::q33))))],B false,[(0,.far (J none))],false⟩,rp [(.tmp 59,B false)] (B true)] (by exact⟨by kernel_rfl,by kernel_rfl⟩) (by exact⟨by kernel_rfl,by kernel_rfl⟩) rfl rfl rfl rfl (Qq4 (rd':=(.tmp 45,.lit (.func (.yield l) #[] #[]))::[(.tmp 58,Q39 x29)]) ⟨rfl,lrf,rfl,lrf,tv⟩ (Qpu (x:=x29) (rest:=q33) rfl rfl hy rfl)) (⟨fun _ _=>amv rfl,fun _ _=>ald_ rfl Qz5 (by decide) (nle rfl) rfl,fun _ _=>anc rfl rfl,fun _ _=>afd rfl Xbh rfl rfl ti92 (by decide) rfl,fun _ _=>afd rfl Xcw rfl rfl ti89 (by decide) rfl,fun _ _=>ald_ rfl ti89 (by decide) (nle rfl) rfl,fun _ _=>afa rfl Xb6 rfl rfl ti3 (by decide) rfl,fun _ _=>ald rfl ti3 (by decide) rfl (nle rfl) rfl,fun _ _=>aiq Xcx ti52 Qao i27 j28,fun _ _=>ald_ rfl ti52 (by decide) (nle rfl) rfl,fun _ _=>afa rfl Xb6 rfl rfl ti3 (by decide) rfl,fun _ _=>ald rfl ti3 (by decide) rfl (nle rfl) rfl,fun _ _=>aiq Xa4 ti40 Qag i31 j32,fun _ _=>ald_ rfl ti40 (by decide) (nle rfl) rfl,fun _ h=>absurd rfl h,fun _ _=>Qo2 rfl,tv⟩) (⟨fun _ _=>amv rfl,fun _ _=>ald_ rfl Qz5 (by decide) (nle rfl) rfl,fun _ _=>anc rfl rfl,fun _ _=>afd rfl Xbh rfl rfl ti92 (by decide) rfl,fun _ _=>afd rfl Xcw rfl rfl ti89 (by decide) rfl,fun _ _=>ald_ rfl ti89 (by decide) (nle rfl) rfl,fun _ _=>afa rfl Xb6 rfl rfl ti3 (by decide) rfl,fun _ _=>ald rfl ti3 (by decide) rfl (nle rfl) rfl,fun _ _=>aiq Xcx ti52 Qao i27 j28,fun _ _=>ald_ rfl ti52 (by decide) (nle rfl) rfl,fun _ _=>afa rfl Xb6 rfl rfl ti3 (by decide) rfl,fun _ _=>ald rfl ti3 (by decide) rfl (nle rfl) rfl,fun _ _=>aiq Xa4 ti40 Qag i31 j32,fun _ _=>ald_ rfl ti40 (by decide) (nle rfl) rfl,fun _ h=>absurd rfl h,fun _ _=>Qo2 rfl,tv⟩) ?_ ?_
  ·exact wfa<|Qah<|bln<|thn<|wxz1<|thn<|arm (mto (n:=62) [(0,.lit (.func (.yield l) #[] #[])),(1,.dptr [.dptr [.dat 5 (p0.map Qat),Qji p1,Qiu p2,Qjl p3,.dat 1 (p4.map Qab),Qit p5,I p6] 0] 0),(39,Zku x1),(40,I (x1.From.length:Int)),(41,I (w64 (y15+1)))] [0] [.far (J (some q33))] hq (pw (pqi (pqi (pw (pw pn))))) (qc (.far _) qn)) (ih (w64 (y15+1),q33) h)
  clear h
  exact wtr<|Qad<|Qal<|Qac<|Qac<|Qal<|Or.inr (by kernel_rfl)
 refine Qax<|Qan<|Qan<|Qaw rfl ?_
 obtain rfl:=osi h
 exact Or.inl (by kernel_rfl)
def Qa3 (N:Nat) (k3:(List Qaa)->Option (List Qaa)):(List Qaa)->(List Qaa)->Option (List Qaa)
 |[],y6=>k3 y6
 |x9::q10,y6=>chk (decide ((y6.length+([x9]).length)*32<=140737488355328))<|Qa3 N k3 q10 (y6++([x9]))
def Qdp (N:Nat) (p0:List GRow) (p1:List Qam) (p2:List (List Qaa)) (p3:List Qbp) (p4:List Int) (p5:List Qaa) (p6 p7:Int):Option (List Qaa):=Qb0 (fun y2=>some y2) fun k3:(List Qaa)->Option (List Qaa)=>(Qjq N p0 p1 p2 p3 p4 p5 p6 p7).bind fun q4=>Qa3 N k3 q4 ([])
abbrev Zqe (p0:List GRow) (p1:List Qam) (p2:List (List Qaa)) (p3:List Qbp) (p4:List Int) (p5:List Qaa) (p6 p7:Int):AV:=.fn (.func 99) [] [.dptr [.dptr [.dat 5 (p0.map Qat),.dat 7 (p1.map Qaj),.dat 1 (p2.map Qao),.dat 4 (p3.map Qa9),.dat 1 (p4.map Qab),.dat 4 (p5.map Qag),I p6] 0] 0,.dptr [I p7] 0]
abbrev Zoq (x9:Qaa):AV:=.agg [I x9.Mass,I x9.Heat,I x9.Silica,I x9.Gas]
def Qi5 (N:Nat) (p0:List GRow) (p1:List Qam) (p2:List (List Qaa)) (p3:List Qbp) (p4:List Int) (p5:List Qaa) (p6 p7:Int) (r:List Qaa) (h:Qdp N p0 p1 p2 p3 p4 p5 p6 p7=some r):Spec prog 98 [nilS,Zqe p0 p1 p2 p3 p4 p5 p6 p7] [] (.acc 0 40 4 (r.map Qag)) [.tok]:=by
 refine sF func98 1 fun _ _ _ hq hd0=>?_
 unfold Qdp at h
 refine wxz<|wjq h (fun y2=>⟨mk 13 [(2,.ref 0 1 0 0)],[.own 1 [[.acc 1 40 4 (y2.map Qag)]],.tok]⟩) (fun y2 h=>?_) fun k3 h=>?_
 ·refine wxz<|wmr (mto (n:=13) (l':=[(4,.acc 0 40 4 (y2.map Qag))]) (own':=[.tok]) [(4,.acc 1 40 4 (y2.map Qag))] [1] [.tok] hq (pc (.rn (Qcv rfl (Qcf Qaq _))) pn) (qc .tok qn))<|Qad ?_
  obtain rfl:=osi h
  exact⟨_,Mor.rfl,fio [.acc 0 40 4 (y2.map Qag)] ⟨rot,tv⟩⟩
 refine wxz<|Qaf ?_
 refine bnq h fun q4 hL5 h=>wmr (mto (n:=13) (l':=[(2,.ref 0 1 0 0),(6,Zqe p0 p1 p2 p3 p4 p5 p6 p7)]) (own':=[.own 1 [[nilS]]]) [(2,.ref 0 1 0 0),(6,Zqe p0 p1 p2 p3 p4 p5 p6 p7)] [0] [.own 1 [[nilS]]] hq (prr (pqi pn)) (qbi qn)) ?_
 refine wmr (Qpq (n:=1) (ty:=40) (m:=4) (q:=0) (mq:=1) (c:=[nilS]) 0 (by kernel_rfl) (by kernel_rfl) (by kernel_rfl) (by decide)) ?_
 refine Qvx (τ:=(List Qaa)) (kb:=1) (caps:=[.dptr [.dptr [.dat 5 (p0.map Qat),.dat 7 (p1.map Qaj),.dat 1 (p2.map Qao),.dat 4 (p3.map Qa9),.dat 1 (p4.map Qab),.dat 4 (p5.map Qag),I p6] 0] 0,.dptr [I p7] 0]) (σr:=[]) (encs:=fun x=>[.agg [I x.Mass,I x.Heat,I x.Silica,I x.Gas]]) (fun x=>[.agg [I x.Mass,I x.Heat,I x.Silica,I x.Gas]]) [] (fun n hn=>hq n (Xcn (nle rfl) hn)) hd0 (Qsm N p0 p1 p2 p3 p4 p5 p6 p7 _ hL5) Zsb (by kernel_rfl) (by kernel_rfl) pli Qai (by kernel_rfl) (fun _=>rfl) (fun x=>(nlc (NLt.agg _ (nlcc (nlcc nl0))) nl0)) (fun x=>⟨lrf,tv⟩) (Zhq (Qmk (NLt.ref _ _ _ _ (by decide)) (Qmk (NLt.of0 (NLt.fn _ _ _ nl0 (nlc (NLt.dptr _ _ (nlc (NLt.dptr _ _ (nlc (nld Qcg _) (nlc (nld Qau _) (nlc (nld Qa6 _) (nlc (nld Qcp _) (nlc (nld Qar _) (nlc (nld Qaq _) (nlc nll nl0)))))))) nl0)) (nlc (NLt.dptr _ _ (nlc nll nl0)) nl0)))) Q8e))) (fun y6=>[.own 1 [[.acc 1 40 4 (y6.map Qag)]],.tok]) (fun _=>rfl) (fun l t=>Qa3 N k3 l t=some r) ([]) h (by kernel_rfl) ?_ ?_
 ·intro l11 o12 X15 φ16 w17 hφ14 x9 q10 y6 h
  rw[Qa3] at h
  refine wxz1 ?_
  refine⟨by kernel_rfl,fun o13=>?_⟩
  refine Qaf ?_
  refine ckq h fun a18 h=>wx1 tbk [(2,rp [(.tmp 9,Zoq x9)] (.dat 4 (([x9]:List Qaa).map Qag))),(3,⟨[(.tmp 8,.acc 1 40 4 (y6.map Qag)),(.tmp 10,.dat 4 (([x9]:List Qaa).map Qag))],[(1,.tok),(4,.unused)],.acc 4 40 4 ((y6++([x9]):List Qaa).map Qag),[(1,.dead),(4,.tok)],false⟩)] ⟨Qds (vs:=[Zoq x9]) rfl Xa4 ti40 tz40 rfl (by decide) rfl (by decide) (by rfl) (by rfl) (by rfl) rfl,Qg7 rfl Xa4 te40 (Base.acc _ _) rfl rfl (by rfl) (Qkk Qag a18) (Qkj Qag a18 (by decide)) (Qki Qag) rfl rfl,tv⟩<|bln ?_
  exact⟨y6++([x9]),h,Zg9 (own':=[.own 1 [[.acc 1 40 4 ((y6++([x9]):List Qaa).map Qag)]],.tok,.far (farL l11 o13)]) [0,4,2] [.own 1 [[.acc 4 40 4 ((y6++([x9]):List Qaa).map Qag)]],.tok,.far (farL l11 o13)] (by kernel_rfl) (by kernel_rfl) ⟨spb (lc (.rn (Qcv rfl (Qcf Qaq _))) ln),.tok,.far _,tv⟩⟩
 intro y6 h
 rw[Qa3] at h
 exact bln<|thn<|⟨y6,h,mto (n:=13) [(2,.ref 0 1 0 0)] [0,1] [.own 1 [[.acc 1 40 4 (y6.map Qag)]],.tok] hq (prr pn) (qb (lc (.rn (Qcv rfl (Qcf Qaq _))) ln) (qc .tok qn))⟩
def Qdc (N:Nat) (p0:List GRow) (p1:List Qam) (p2:List (List Qaa)) (p3:List Qbp) (p4:List Int) (p5:List Qaa) (p6 p7:Int):Option (List Qaa):=(Qdp N p0 p1 p2 p3 p4 p5 p6 p7).bind fun x3=>some x3
abbrev Zum (p0:List GRow) (p1:List Qam) (p2:List (List Qaa)) (p3:List Qbp) (p4:List Int) (p5:List Qaa) (p6 p7:Int):AV:=.fn (.func 99) [] [.dptr [.dptr [.dat 5 (p0.map Qat),.dat 7 (p1.map Qaj),.dat 1 (p2.map Qao),.dat 4 (p3.map Qa9),.dat 1 (p4.map Qab),.dat 4 (p5.map Qag),I p6] 0] 0,.dptr [I p7] 0]
abbrev Zkw (x3:List Qaa):AV:=.acc 0 40 4 (x3.map Qag)
def Qmd (N:Nat) (p0:List GRow) (p1:List Qam) (p2:List (List Qaa)) (p3:List Qbp) (p4:List Int) (p5:List Qaa) (p6 p7:Int) (r:List Qaa) (h:Qdc N p0 p1 p2 p3 p4 p5 p6 p7=some r):Spec prog 82 [Zum p0 p1 p2 p3 p4 p5 p6 p7] [] (.acc 0 40 4 (r.map Qag)) [.tok]:=by
 refine sF func82 1 fun _ _ _ hq hd0=>?_
 unfold Qdc at h
 refine wxz<|bnq h fun x3 f2 h=>wx tbk [(1,⟨_,_,_,_,false⟩)] ⟨acq [nilS,Zum p0 p1 p2 p3 p4 p5 p6 p7] [] [.tok] (Zkw x3) [0] Zsc (Qi5 N p0 p1 p2 p3 p4 p5 p6 p7 _ f2) pli Qai (slc .tok Qai) (Zg5 rfl (Qcf Qaq _)),tv⟩ ?_
 refine wmr (mto (n:=5) (l':=[(2,Zkw x3)]) (own':=[.tok]) [(2,Zkw x3)] [0] [.tok] hq (pc (.rn (Qcv rfl (Qcf Qaq _))) pn) (qc .tok qn))<|Qad ?_
 obtain rfl:=osi h
 exact⟨_,Mor.rfl,fio [Zkw x3] ⟨rot,tv⟩⟩
def Qid (_N:Nat) (_p0:Int) (p1:Qaa) (_p2:List GRow) (_p3:List Qam) (_p4 _p5 _p6:Nat) (_p7:List Qaa) (_p8:Int) (_p9:List (List Qaa)) (_p10:List Qbp) (_p11:List Int):Option (List Qaa):=some ([p1])
abbrev Zqd (p1:Qaa):AV:=.agg [I p1.Mass,I p1.Heat,I p1.Silica,I p1.Gas]
abbrev Zks (p2:List GRow) (p3:List Qam) (p4 p5 p6:Nat) (p7:List Qaa) (p8:Int):Slot:=.own 7 [[.dat 5 (p2.map Qat),.dat 7 (p3.map Qaj),.own 1 1 (0) p4,.own 2 4 (0) p5,.own 3 1 (0) p6,.dat 4 (p7.map Qag),I p8]]
abbrev Zkt (p1:Qaa):AV:=.dat 4 (([p1]:List Qaa).map Qag)
def Qle (N:Nat) (p0:Int) (p1:Qaa) (p2:List GRow) (p3:List Qam) (p4 p5 p6:Nat) (p7:List Qaa) (p8:Int) (p9:List (List Qaa)) (p10:List Qbp) (p11:List Int) (r:List Qaa) (h:Qid N p0 p1 p2 p3 p4 p5 p6 p7 p8 p9 p10 p11=some r):Spec prog 84 [.ref 0 7 (0) 0,I p0,Zqd p1] [Zks p2 p3 p4 p5 p6 p7 p8,.own 1 (p9.map Qao),.own 4 (p10.map Qa9),.own 1 (p11.map Qab)] (.dat 4 (r.map Qag)) [Zks p2 p3 p4 p5 p6 p7 p8,.own 1 (p9.map Qao),.own 4 (p10.map Qa9),.own 1 (p11.map Qab)]:=by
 refine sF func84 4 fun _ _ _ hq hd0=>?_
 unfold Qid at h
 refine wxz<|wx tbk [(1,rp [(.tmp 7,Zqd p1)] (Zkt p1))] ⟨Qds (vs:=[Zqd p1]) rfl Xa4 ti40 tz40 rfl (by decide) rfl (by decide) (by rfl) (by rfl) (by rfl) rfl,tv⟩ ?_
 refine wmr (mto (n:=9) (l':=[(6,Zkt p1)]) (own':=[Zks p2 p3 p4 p5 p6 p7 p8,.own 1 (p9.map Qao),.own 4 (p10.map Qa9),.own 1 (p11.map Qab)]) [(6,Zkt p1)] [0,1,2,3] [Zks p2 p3 p4 p5 p6 p7 p8,.own 1 (p9.map Qao),.own 4 (p10.map Qa9),.own 1 (p11.map Qab)] hq (pqi pn) (qb (lc (rnd Qcg) (lc (rnd Qau) (lc (.rn (Qas rfl)) (lc (.rn (Qas rfl)) (lc (.rn (Qas rfl)) (lc (rnd Qaq) (lc rwl ln))))))) (qc (spr Qa6) (qc (spr Qcp) (qc (spr Qar) qn)))))<|Qad ?_
 obtain rfl:=osi h
 exact⟨_,Mor.rfl,fio [Zkt p1] ⟨rot,tv⟩⟩
def Qk9 (_N:Nat) (p0:Int) (p1:Qaa) (_p2:List GRow) (p3:List Qam) (_p4 p5 _p6:Nat) (_p7:List Qaa) (_p8:Int) (_p9:List (List Qaa)) (p10:List Qbp) (_p11:List Int):Option ((List Qaa)×(List Qbp)):=(getI p3 p0).bind fun x3=>(some (if p1.Heat<x3.Amount then p1.Heat else x3.Amount)).bind fun x7=>chk (decide (0<=p0)&&decide (p0.toNat<p5))<|(p10[p0.toNat]?).bind fun x10=>some ([(⟨p1.Mass,w64 (p1.Heat-x7),p1.Silica,p1.Gas⟩:Qaa)],p10.set p0.toNat (⟨x7,x10.Silica,x10.Gas,x10.Scale⟩:Qbp))
abbrev Zcf (p2:List GRow) (p3:List Qam) (p4 p5 p6:Nat) (p7:List Qaa) (p8:Int):Slot:=.own 7 [[.dat 5 (p2.map Qat),.dat 7 (p3.map Qaj),.own 1 1 (0) p4,.own 2 4 (0) p5,.own 3 1 (0) p6,.dat 4 (p7.map Qag),I p8]]
abbrev Zop (p1:Qaa) (x7:Int):AV:=.agg [I p1.Mass,I (w64 (p1.Heat-x7)),I p1.Silica,I p1.Gas]
abbrev Q9w (p1:Qaa) (x7:Int):AV:=.dat 4 (([(⟨p1.Mass,w64 (p1.Heat-x7),p1.Silica,p1.Gas⟩:Qaa)]:List Qaa).map Qag)
def Qso (N:Nat) (p0:Int) (p1:Qaa) (p2:List GRow) (p3:List Qam) (p4 p5 p6:Nat) (p7:List Qaa) (p8:Int) (p9:List (List Qaa)) (p10:List Qbp) (p11:List Int) (r:((List Qaa)×(List Qbp))) (h:Qk9 N p0 p1 p2 p3 p4 p5 p6 p7 p8 p9 p10 p11=some r):Spec prog 85 [.ref 0 7 (0) 0,I p0,.agg [I p1.Mass,I p1.Heat,I p1.Silica,I p1.Gas]] [Zcf p2 p3 p4 p5 p6 p7 p8,.own 1 (p9.map Qao),.own 4 (p10.map Qa9),.own 1 (p11.map Qab)] (.dat 4 (r.1.map Qag)) [Zcf p2 p3 p4 p5 p6 p7 p8,.own 1 (p9.map Qao),.own 4 (r.2.map Qa9),.own 1 (p11.map Qab)]:=by
 refine sF func85 4 fun _ _ _ hq hd0=>?_
 unfold Qk9 at h
 refine wxz<|bgq h fun x3 i5 j6 h=>bnq h fun x7 hl8 h=>wxd tbk [(1,rb [(.tmp 8,.ref 0 7 0 0)] [(0,Zcf p2 p3 p4 p5 p6 p7 p8)] (.ref 0 7 0 0)),(6,rp _ _),(11,rp [(.tmp 16,I x3.Amount),(.tmp 18,I p1.Heat)] (I (if p1.Heat<x3.Amount then p1.Heat else x3.Amount))),(12,rp [(.tmp 19,I (if p1.Heat<x3.Amount then p1.Heat else x3.Amount))] (I x7))] ⟨Qbi rfl,aiq Xa2 Qo8 Qaj i5 j6,Qo3 rfl,Qhz hl8 (aas rfl),tv⟩<|ckq h fun i9 h=>?_
 obtain⟨hi9a,hi9b⟩:=Qb6 i9
 refine bnq h fun x10 g11 h=>wx tbk [(1,rb [(.tmp 20,.ref 0 7 0 0)] [(0,Zcf p2 p3 p4 p5 p6 p7 p8)] (.ref 0 7 0 0)),(7,rb [(.tmp 24,.own 2 4 (0) p5),(.tmp 25,I p0)] [(2,.own 4 (p10.map Qa9))] (.ref 2 4 p0.toNat 0)),(9,⟨[(.tmp 28,.ref 2 4 p0.toNat 0),(.tmp 26,I x7)],[(2,.own 4 (p10.map Qa9))],.any,[(2,.own 4 ((p10.set p0.toNat (⟨x7,x10.Silica,x10.Gas,x10.Scale⟩:Qbp):List Qbp).map Qa9))],false⟩)] ⟨Qbi rfl,aio rfl Xdc ti42 (odt hi9a) (odt hi9b) (Xar _),ast rfl ti3 (by rfl) (mgt Qa9 g11) (nle rfl) (Qhv Qa9 rfl),tv⟩<|wxz<|wx tbk [(1,rp [(.tmp 34,Zop p1 x7)] (Q9w p1 x7))] ⟨Qds (vs:=[Zop p1 x7]) rfl Xa4 ti40 tz40 rfl (by decide) rfl (by decide) (by rfl) (by rfl) (by rfl) rfl,tv⟩ ?_
 refine wmr (mto (n:=36) (l':=[(6,Q9w p1 x7)]) (own':=[Zcf p2 p3 p4 p5 p6 p7 p8,.own 1 (p9.map Qao),.own 4 ((p10.set p0.toNat (⟨x7,x10.Silica,x10.Gas,x10.Scale⟩:Qbp):List Qbp).map Qa9),.own 1 (p11.map Qab)]) [(6,Q9w p1 x7)] [0,1,2,3] [Zcf p2 p3 p4 p5 p6 p7 p8,.own 1 (p9.map Qao),.own 4 ((p10.set p0.toNat (⟨x7,x10.Silica,x10.Gas,x10.Scale⟩:Qbp):List Qbp).map Qa9),.own 1 (p11.map Qab)] hq (pqi pn) (qb (lc (rnd Qcg) (lc (rnd Qau) (lc (.rn (Qas rfl)) (lc (.rn (Qas rfl)) (lc (.rn (Qas rfl)) (lc (rnd Qaq) (lc rwl ln))))))) (qc (spr Qa6) (qc (spr Qcp) (qc (spr Qar) qn)))))<|Qad ?_
 obtain rfl:=osi h
 exact⟨_,Mor.rfl,fio [Q9w p1 x7] ⟨rot,tv⟩⟩
def Qlo (N:Nat) (p0:List GRow) (p1:Int):Option Bool:=(Qe4 N p1 0 (w64 ((p0.length:Int)-1))).bind fun x2=>some x2
def Qs0 (N:Nat) (p0:List GRow) (p1:Int) (r:Bool) (h:Qlo N p0 p1=some r):Spec prog 111 [.dat 5 (p0.map Qat),I p1] [] (B r) []:=by
 refine sA func111 0 fun _ _ _ hq hd0=>?_
 unfold Qlo at h
 refine wxz<|bnq h fun x2 f1 h=>?_
 exact wx tbk [(2,rp _ _),(4,rp _ _)] ⟨alq 5 Qat p0 Xcy,apw Qmr (Qe9 N p1 0 (w64 ((p0.length:Int)-1)) _ f1),tv⟩<|Qad<|frb h
def Ql6 (_N:Nat) (p0:List GRow) (p1:Int):Option Qpw:=(getI p0 p1).bind fun x1=>some (⟨x1⟩:Qpw)
abbrev Zqb (x1:GRow):AV:=.agg [I x1.T,I x1.P,I x1.Liquid,I x1.Vapour,I x1.Silica]
def Qt3 (N:Nat) (p0:List GRow) (p1:Int) (r:Qpw) (h:Ql6 N p0 p1=some r):Spec prog 112 [.dat 5 (p0.map Qat),I p1] [] (.agg (Qut r)) []:=by
 refine sA func112 0 fun _ _ _ hq hd0=>?_
 unfold Ql6 at h
 refine wxz<|bgq h fun x1 i3 j4 h=>?_
 refine wx tbk [(2,rp _ _),(4,mv 8 (Zqb x1))] ⟨aiq Xcy Q2h Qat i3 j4,Qbt (vs:=[Zqb x1]) rfl Zxu Zvm rfl (by rfl) rfl,tv⟩<|Qad ?_
 obtain rfl:=osi h
 exact fie [Zqb x1] ⟨Qbv (n:=0) (m:=5) (j:=0) (i:=0) (xs:=[[I x1.T,I x1.P,I x1.Liquid,I x1.Vapour,I x1.Silica]]) (by kernel_rfl) (by kernel_rfl) Zvt (by decide) rfl (nle rfl) rfl,tv⟩
def Qiy (_N:Nat) (p0:Qpw) (p1:Qaa):Option Int:=(some (w64 (p1.Heat-(w64 (p1.Mass*p0.Row.Liquid))))).bind fun x1=>bif decide (x1<=0) then some 0 else bif decide (p1.Heat>=(w64 (p1.Mass*p0.Row.Vapour))) then some p1.Mass else chk ((w64 (p0.Row.Vapour-p0.Row.Liquid)) != 0)<|(some (w64 (x1.tdiv (w64 (p0.Row.Vapour-p0.Row.Liquid))))).bind fun x6=>some x6
def Qrp (N:Nat) (p0:Qpw) (p1:Qaa) (r:Int) (h:Qiy N p0 p1=some r):Spec prog 119 [.agg (Qut p0),.agg (Qag p1)] [] (I r) []:=by
 refine sA func119 0 fun _ _ _ hq hd0=>?_
 unfold Qiy at h
 refine wxz<|bnq h fun x1 hl2 h=>?_
 refine wx tbk [(9,rp [(.tmp 14,I (w64 (p1.Heat-(w64 (p1.Mass*p0.Row.Liquid)))))] (I x1))] ⟨Qhz hl2 (aas rfl),tv⟩<|wsq<|Qaf<|wxz ?_
 refine bfq h (fun c3 h=>?_) fun c3 h=>?_
 ·refine wxz<|Qad<|Qal<|Qac ?_
  obtain rfl:=osi h
  exact fend ⟨[I 0],⟨rot,tv⟩,rfl⟩ nll
 refine wxz<|bfq h (fun c4 h=>?_) fun c4 h=>?_
 ·refine wxz<|Qad<|Qal<|Qac ?_
  obtain rfl:=osi h
  exact fend ⟨[I p1.Mass],⟨rot,tv⟩,rfl⟩ nll
 refine Qah<|bln<|thn ?_
 refine ckq h fun hz5 h=>bnq h fun x6 hl7 h=>?_
 refine wx tbk [(8,rp [(.tmp 30,I x1),(.tmp 37,I (w64 (p0.Row.Vapour-p0.Row.Liquid)))] (I (w64 (x1.tdiv (w64 (p0.Row.Vapour-p0.Row.Liquid)))))),(9,rp [(.tmp 38,I (w64 (x1.tdiv (w64 (p0.Row.Vapour-p0.Row.Liquid)))))] (I x6))] ⟨Qr3 rfl (Qzj hz5),Qhz hl7 (aas rfl),tv⟩<|Qad ?_
 obtain rfl:=osi h
 exact fend ⟨[I x6],⟨rot,tv⟩,rfl⟩ nll
def Qjm (N:Nat) (p0:Qpw) (p1:Qaa):Option Qko:=(Qiy N (⟨(⟨p0.Row.T,p0.Row.P,p0.Row.Liquid,p0.Row.Vapour,p0.Row.Silica⟩:GRow)⟩:Qpw) p1).bind fun x2=>Qb0 (fun ⟨y3,y4,y5,y6,y7,_,y9⟩=>(some (if (w64 (y6*p0.Row.Silica))<p1.Silica then w64 (y6*p0.Row.Silica) else p1.Silica)).bind fun x11=>bif decide (y6>0) then (some (if (w64 (y7-(w64 (y6*p0.Row.Liquid))))>0 then w64 (y7-(w64 (y6*p0.Row.Liquid))) else 0)).bind fun x14=>some (⟨(⟨y3,y4,0,y5⟩:Qaa),(⟨y6,y7,x11,y9⟩:Qaa),x14,w64 (p1.Silica-x11)⟩:Qko) else some (⟨(⟨y3,y4,0,y5⟩:Qaa),(⟨y6,y7,x11,y9⟩:Qaa),0,w64 (p1.Silica-x11)⟩:Qko)) fun k10:Int×Int×Int×Int×Int×Int×Int->Option Qko=>bif (x2==0) then k10 (0,0,0,p1.Mass,p1.Heat,p1.Silica,p1.Gas) else bif (x2==p1.Mass) then k10 (x2,p1.Heat,p1.Gas,0,0,0,0) else k10 (x2,w64 (x2*p0.Row.Vapour),p1.Gas,w64 (p1.Mass-x2),w64 (p1.Heat-(w64 (x2*p0.Row.Vapour))),0,0)
abbrev Zkr (p0:Qpw):Slot:=.own 5 [[I p0.Row.T,I p0.Row.P,I p0.Row.Liquid,I p0.Row.Vapour,I p0.Row.Silica]]
abbrev Zkq (p1:Qaa):Slot:=.own 4 [[I p1.Mass,I p1.Heat,I p1.Silica,I p1.Gas]]
def Qt2 (N:Nat) (p0:Qpw) (p1:Qaa) (r:Qko) (h:Qjm N p0 p1=some r):Spec prog 113 [.agg (Qut p0),.agg (Qag p1)] [] (.agg (Qxj r)) []:=by
 refine sA func113 0 fun _ _ _ hq hd0=>?_
 unfold Qjm at h
 refine wxz<|bnq h fun x2 f1 h=>wx tbk [(2,rp _ _)] ⟨apw Zm9 (Qrp N (⟨(⟨p0.Row.T,p0.Row.P,p0.Row.Liquid,p0.Row.Vapour,p0.Row.Silica⟩:GRow)⟩:Qpw) p1 _ f1),tv⟩<|wjq h (fun ⟨y3,y4,y5,y6,y7,y8,y9⟩=>⟨mk 87 [(2,.ref 0 5 0 0),(3,.ref 1 4 0 0),(4,.ref 2 10 0 0)],[Zkr p0,Zkq p1,.own 10 [[I y3,I y4,I 0,I y5,I y6,I y7,I y8,I y9,I 0,I 0]]]⟩) (fun t h=>?_) fun k10 h=>?_
 ·obtain⟨y3,y4,y5,y6,y7,y8,y9⟩:=t
  refine bnq h fun x11 hl12 h=>wx tbk [(9,rp [(.tmp 52,I p1.Silica),(.tmp 59,I (w64 (y6*p0.Row.Silica)))] (I x11))] ⟨Qhz hl12 (Qo3 rfl),tv⟩<|wxe<|wsq<|wxz<|bfq h (fun c13 h=>?_) fun c13 h=>?_
  ·refine bnq h fun x14 hl15 h=>?_
   refine wx1 tbk [(11,rp [ci 0,(.tmp 83,I (w64 (y7-(w64 (y6*p0.Row.Liquid)))))] (I x14))] ⟨Qhz hl15 (Qux rfl),tv⟩<|thn<|wxz<|Qad ?_
   obtain rfl:=osi h
   exact fie [.agg [I y3,I y4,I 0,I y5,I y6,I y7,I x11,I y9,I x14,I (w64 (p1.Silica-x11))]] ⟨Qbv (n:=2) (m:=10) (j:=0) (i:=0) (xs:=[[I y3,I y4,I 0,I y5,I y6,I y7,I x11,I y9,I x14,I (w64 (p1.Silica-x11))]]) (by kernel_rfl) (by kernel_rfl) Q70 (by decide) rfl (nle rfl) rfl,tv⟩
  refine Qah<|thn<|wxz<|Qad ?_
  obtain rfl:=osi h
  exact fie [.agg [I y3,I y4,I 0,I y5,I y6,I y7,I x11,I y9,I 0,I (w64 (p1.Silica-x11))]] ⟨Qbv (n:=2) (m:=10) (j:=0) (i:=0) (xs:=[[I y3,I y4,I 0,I y5,I y6,I y7,I x11,I y9,I 0,I (w64 (p1.Silica-x11))]]) (by kernel_rfl) (by kernel_rfl) Q70 (by decide) rfl (nle rfl) rfl,tv⟩
 refine Qaf<|wxz ?_
 refine bfq h (fun c16 h=>?_) fun c16 h=>?_
 ·exact wxz1<|bln<|thn<|⟨(0,0,0,p1.Mass,p1.Heat,p1.Silica,p1.Gas),h,mto (n:=87) [(2,.ref 0 5 0 0),(3,.ref 1 4 0 0),(4,.ref 2 10 0 0)] [0,1,2] [Zkr p0,Zkq p1,.own 10 [[I 0,I 0,I 0,I 0,I p1.Mass,I p1.Heat,I p1.Silica,I p1.Gas,I 0,I 0]]] hq (prr (prr (prr pn))) (qbi (qbi (qbi qn)))⟩
 refine wxz<|bfq h (fun c17 h=>?_) fun c17 h=>?_
 ·exact wx1 tbk [(5,rp _ _)] ⟨Qbt (vs:=[I x2,I p1.Heat,I p1.Gas]) rfl ts40 tz40 rfl (by rfl) rfl,tv⟩<|bln<|thn<|⟨(x2,p1.Heat,p1.Gas,0,0,0,0),h,mto (n:=87) [(2,.ref 0 5 0 0),(3,.ref 1 4 0 0),(4,.ref 2 10 0 0)] [0,1,2] [Zkr p0,Zkq p1,.own 10 [[I x2,I p1.Heat,I 0,I p1.Gas,I 0,I 0,I 0,I 0,I 0,I 0]]] hq (prr (prr (prr pn))) (qbi (qbi (qbi qn)))⟩
 exact wx tbk [(8,rp _ _)] ⟨Qbt (vs:=[I x2,I (w64 (x2*p0.Row.Vapour)),I p1.Gas]) rfl ts40 tz40 rfl (by rfl) rfl,tv⟩<|wx1 tbk [(12,rp _ _)] ⟨Qbt (vs:=[I (w64 (p1.Mass-x2)),I (w64 (p1.Heat-(w64 (x2*p0.Row.Vapour))))]) rfl ts40 tz40 rfl (by rfl) rfl,tv⟩<|bln<|thn<|⟨(x2,w64 (x2*p0.Row.Vapour),p1.Gas,w64 (p1.Mass-x2),w64 (p1.Heat-(w64 (x2*p0.Row.Vapour))),0,0),h,mto (n:=87) [(2,.ref 0 5 0 0),(3,.ref 1 4 0 0),(4,.ref 2 10 0 0)] [0,1,2] [Zkr p0,Zkq p1,.own 10 [[I x2,I (w64 (x2*p0.Row.Vapour)),I 0,I p1.Gas,I (w64 (p1.Mass-x2)),I (w64 (p1.Heat-(w64 (x2*p0.Row.Vapour)))),I 0,I 0,I 0,I 0]]] hq (prr (prr (prr pn))) (qbi (qbi (qbi qn)))⟩
def Qni (N:Nat) (p0:List GRow) (p1:Int) (p2:Qaa):Option (Qko×Int):=(Qho N p0).bind fun x2=>bif !x2 then some ((⟨(⟨0,0,0,0⟩:Qaa),(⟨0,0,0,0⟩:Qaa),0,0⟩:Qko),1) else (Qlo N p0 p1).bind fun x5=>bif !x5 then some ((⟨(⟨0,0,0,0⟩:Qaa),(⟨0,0,0,0⟩:Qaa),0,0⟩:Qko),2) else (Qf7 N p2).bind fun x8=>bif !x8 then some ((⟨(⟨0,0,0,0⟩:Qaa),(⟨0,0,0,0⟩:Qaa),0,0⟩:Qko),1) else (Ql6 N p0 p1).bind fun x11=>(Qjm N (⟨(⟨x11.Row.T,x11.Row.P,x11.Row.Liquid,x11.Row.Vapour,x11.Row.Silica⟩:GRow)⟩:Qpw) p2).bind fun x13=>some ((⟨(⟨x13.Steam.Mass,x13.Steam.Heat,x13.Steam.Silica,x13.Steam.Gas⟩:Qaa),(⟨x13.Water.Mass,x13.Water.Heat,x13.Water.Silica,x13.Water.Gas⟩:Qaa),x13.Rest,x13.Scale⟩:Qko),0)
abbrev Zqc:AV:=.agg [I (0),I (0),I (0),I (0),I (0),I (0),I (0),I (0),I (0),I (0)]
abbrev Zxf (x13:Qko):AV:=.agg [I x13.Steam.Mass,I x13.Steam.Heat,I x13.Steam.Silica,I x13.Steam.Gas,I x13.Water.Mass,I x13.Water.Heat,I x13.Water.Silica,I x13.Water.Gas,I x13.Rest,I x13.Scale]
def Qyb (N:Nat) (p0:List GRow) (p1:Int) (p2:Qaa) (r:(Qko×Int)) (h:Qni N p0 p1 p2=some r):Spec prog 101 [.dat 5 (p0.map Qat),I p1,.agg (Qag p2)] [] (.tup [.agg (Qxj r.1),I r.2]) []:=by
 refine sA func101 0 fun _ _ _ hq hd0=>?_
 unfold Qni at h
 refine wxz<|wsq<|Qaf ?_
 refine bnq h fun x2 f1 h=>wx tbk [(1,rp _ _)] ⟨apw Zbv (Qng N p0 _ f1),tv⟩<|bfq h (fun c3 h=>?_) fun c3 h=>?_
 ·refine wx tbk [(0,rp _ _)] ⟨Qbt (vs:=[]) rfl Zq4 Zlo rfl (by rfl) rfl,tv⟩<|Qad<|Qal<|Qac ?_
  obtain rfl:=osi h
  exact fie [Zqc,I 1] ⟨Qbv (n:=1) (m:=10) (j:=0) (i:=0) (xs:=[[I 0,I 0,I 0,I 0,I 0,I 0,I 0,I 0,I 0,I 0]]) (by kernel_rfl) (by kernel_rfl) Q70 (by decide) rfl (nle rfl) rfl,rot,tv⟩
 refine bnq h fun x5 f4 h=>wx tbk [(2,rp _ _)] ⟨apw Zng (Qs0 N p0 p1 _ f4),tv⟩<|bfq h (fun c6 h=>?_) fun c6 h=>?_
 ·refine wx tbk [(0,rp _ _)] ⟨Qbt (vs:=[]) rfl Zq4 Zlo rfl (by rfl) rfl,tv⟩<|Qad<|Qal<|Qac ?_
  obtain rfl:=osi h
  exact fie [Zqc,I 2] ⟨Qbv (n:=1) (m:=10) (j:=0) (i:=0) (xs:=[[I 0,I 0,I 0,I 0,I 0,I 0,I 0,I 0,I 0,I 0]]) (by kernel_rfl) (by kernel_rfl) Q70 (by decide) rfl (nle rfl) rfl,rot,tv⟩
 refine bnq h fun x8 f7 h=>wx tbk [(1,rp _ _)] ⟨apw Q8r (Qke N p2 _ f7),tv⟩<|bfq h (fun c9 h=>?_) fun c9 h=>?_
 ·refine wx tbk [(0,rp _ _)] ⟨Qbt (vs:=[]) rfl Zq4 Zlo rfl (by rfl) rfl,tv⟩<|Qad<|Qal<|Qac ?_
  obtain rfl:=osi h
  exact fie [Zqc,I 1] ⟨Qbv (n:=1) (m:=10) (j:=0) (i:=0) (xs:=[[I 0,I 0,I 0,I 0,I 0,I 0,I 0,I 0,I 0,I 0]]) (by kernel_rfl) (by kernel_rfl) Q70 (by decide) rfl (nle rfl) rfl,rot,tv⟩
 refine Qah<|bln<|thn ?_
 refine bnq h fun x11 f10 h=>bnq h fun x13 f12 h=>?_
 refine wxd tbk [(2,rp _ _),(4,rp _ _)] ⟨apw Znf (Qt3 N p0 p1 _ f10),apw Zne (Qt2 N (⟨(⟨x11.Row.T,x11.Row.P,x11.Row.Liquid,x11.Row.Vapour,x11.Row.Silica⟩:GRow)⟩:Qpw) p2 _ f12),tv⟩<|Qad ?_
 obtain rfl:=osi h
 exact fie [Zxf x13,I 0] ⟨Qbv (n:=1) (m:=10) (j:=0) (i:=0) (xs:=[[I x13.Steam.Mass,I x13.Steam.Heat,I x13.Steam.Silica,I x13.Steam.Gas,I x13.Water.Mass,I x13.Water.Heat,I x13.Water.Silica,I x13.Water.Gas,I x13.Rest,I x13.Scale]]) (by kernel_rfl) (by kernel_rfl) Q70 (by decide) rfl (nle rfl) rfl,rot,tv⟩
def Qhp (N:Nat) (p0:Int) (p1:Qaa) (p2:List Int) (_p3:List GRow) (_p4:List Qam) (_p5 p6 _p7:Nat) (_p8:List Qaa) (_p9:Int) (_p10:List (List Qaa)) (p11:List Qbp) (_p12:List Int):Option ((List Qaa)×(List Qbp)):=(Qnh N p1 p2).bind fun x4=>chk (decide (0<=p0)&&decide (p0.toNat<p6))<|(p11[p0.toNat]?).bind fun x6=>chk (decide (0<=p0)&&decide (p0.toNat<p6))<|((p11.set p0.toNat (⟨x4.2.1.Heat,x6.Silica,x6.Gas,x6.Scale⟩:Qbp))[p0.toNat]?).bind fun x9=>chk (decide (0<=p0)&&decide (p0.toNat<p6))<|(((p11.set p0.toNat (⟨x4.2.1.Heat,x6.Silica,x6.Gas,x6.Scale⟩:Qbp)).set p0.toNat (⟨x9.Heat,x4.2.1.Silica,x9.Gas,x9.Scale⟩:Qbp))[p0.toNat]?).bind fun x12=>some (x4.1,((p11.set p0.toNat (⟨x4.2.1.Heat,x6.Silica,x6.Gas,x6.Scale⟩:Qbp)).set p0.toNat (⟨x9.Heat,x4.2.1.Silica,x9.Gas,x9.Scale⟩:Qbp)).set p0.toNat (⟨x12.Heat,x12.Silica,x4.2.1.Gas,x12.Scale⟩:Qbp))
abbrev Zxe (p1:Qaa):AV:=.agg [I p1.Mass,I p1.Heat,I p1.Silica,I p1.Gas]
abbrev Q6w (p3:List GRow) (p4:List Qam) (p5 p6 p7:Nat) (p8:List Qaa) (p9:Int):Slot:=.own 7 [[.dat 5 (p3.map Qat),.dat 7 (p4.map Qaj),.own 1 1 (0) p5,.own 2 4 (0) p6,.own 3 1 (0) p7,.dat 4 (p8.map Qag),I p9]]
abbrev Ze3 (p11:List Qbp) (p0:Int) (x4:((List Qaa)×Qrg×Int)) (x6:Qbp):Slot:=.own 4 ((p11.set p0.toNat (⟨x4.2.1.Heat,x6.Silica,x6.Gas,x6.Scale⟩:Qbp):List Qbp).map Qa9)
abbrev Ze2 (p11:List Qbp) (p0:Int) (x4:((List Qaa)×Qrg×Int)) (x6 x9:Qbp):Slot:=.own 4 (((p11.set p0.toNat (⟨x4.2.1.Heat,x6.Silica,x6.Gas,x6.Scale⟩:Qbp)).set p0.toNat (⟨x9.Heat,x4.2.1.Silica,x9.Gas,x9.Scale⟩:Qbp):List Qbp).map Qa9)
abbrev Zoj (p11:List Qbp) (p0:Int) (x4:((List Qaa)×Qrg×Int)) (x6 x9 x12:Qbp):Slot:=.own 4 ((((p11.set p0.toNat (⟨x4.2.1.Heat,x6.Silica,x6.Gas,x6.Scale⟩:Qbp)).set p0.toNat (⟨x9.Heat,x4.2.1.Silica,x9.Gas,x9.Scale⟩:Qbp)).set p0.toNat (⟨x12.Heat,x12.Silica,x4.2.1.Gas,x12.Scale⟩:Qbp):List Qbp).map Qa9)
def Qnt (N:Nat) (p0:Int) (p1:Qaa) (p2:List Int) (p3:List GRow) (p4:List Qam) (p5 p6 p7:Nat) (p8:List Qaa) (p9:Int) (p10:List (List Qaa)) (p11:List Qbp) (p12:List Int) (r:((List Qaa)×(List Qbp))) (h:Qhp N p0 p1 p2 p3 p4 p5 p6 p7 p8 p9 p10 p11 p12=some r):Spec prog 102 [.ref 0 7 (0) 0,I p0,Zxe p1,.dat 1 (p2.map Qab)] [Q6w p3 p4 p5 p6 p7 p8 p9,.own 1 (p10.map Qao),.own 4 (p11.map Qa9),.own 1 (p12.map Qab)] (.dat 4 (r.1.map Qag)) [Q6w p3 p4 p5 p6 p7 p8 p9,.own 1 (p10.map Qao),.own 4 (r.2.map Qa9),.own 1 (p12.map Qab)]:=by
 refine sF func102 4 fun _ _ _ hq hd0=>?_
 unfold Qhp at h
 refine wxz<|bnq h fun x4 f3 h=>wx tbk [(2,rp _ _)] ⟨apw Znd (Qya N p1 p2 _ f3),tv⟩<|ckq h fun i5 h=>?_
 obtain⟨hi5a,hi5b⟩:=Qb6 i5
 refine bnq h fun x6 g7 h=>ckq h fun i8 h=>?_
 obtain⟨hi8a,hi8b⟩:=Qb6 i8
 refine bnq h fun x9 g10 h=>ckq h fun i11 h=>?_
 obtain⟨hi11a,hi11b⟩:=Qb6 i11
 refine bnq h fun x12 g13 h=>wxd tbk [(1,rb [(.tmp 19,.ref 0 7 0 0)] [(0,Q6w p3 p4 p5 p6 p7 p8 p9)] (.ref 0 7 0 0)),(7,rb [(.tmp 25,.ref 0 7 0 0)] [(0,Q6w p3 p4 p5 p6 p7 p8 p9)] (.ref 0 7 0 0)),(13,rb [(.tmp 31,.ref 0 7 0 0)] [(0,Q6w p3 p4 p5 p6 p7 p8 p9)] (.ref 0 7 0 0)),(24,rb [(.tmp 23,.own 2 4 (0) p6),(.tmp 24,I p0)] [(2,.own 4 (p11.map Qa9))] (.ref 2 4 p0.toNat 0)),(26,⟨[(.tmp 44,.ref 2 4 p0.toNat 0),(.tmp 38,I x4.2.1.Heat)],[(2,.own 4 (p11.map Qa9))],.any,[(2,Ze3 p11 p0 x4 x6)],false⟩),(27,rb [(.tmp 29,.own 2 4 (0) p6),(.tmp 30,I p0)] [(2,Ze3 p11 p0 x4 x6)] (.ref 2 4 p0.toNat 0)),(29,⟨[(.tmp 46,.ref 2 4 p0.toNat 1),(.tmp 40,I x4.2.1.Silica)],[(2,Ze3 p11 p0 x4 x6)],.any,[(2,Ze2 p11 p0 x4 x6 x9)],false⟩),(30,rb [(.tmp 35,.own 2 4 (0) p6),(.tmp 36,I p0)] [(2,Ze2 p11 p0 x4 x6 x9)] (.ref 2 4 p0.toNat 0)),(32,⟨[(.tmp 48,.ref 2 4 p0.toNat 2),(.tmp 42,I x4.2.1.Gas)],[(2,Ze2 p11 p0 x4 x6 x9)],.any,[(2,Zoj p11 p0 x4 x6 x9 x12)],false⟩)] ⟨Qbi rfl,Qbi rfl,Qbi rfl,aio rfl Xdc ti42 (odt hi5a) (odt hi5b) (Xar _),ast rfl ti3 (by rfl) (mgt Qa9 g7) (nle rfl) (Qhv Qa9 rfl),aio rfl Xdc ti42 (odt hi8a) (odt hi8b) (Xar _),ast rfl ti3 (by rfl) (mgt Qa9 g10) (nle rfl) (Qhv Qa9 rfl),aio rfl Xdc ti42 (odt hi11a) (odt hi11b) (Xar _),ast rfl ti3 (by rfl) (mgt Qa9 g13) (nle rfl) (Qhv Qa9 rfl),tv⟩<|wxz ?_
 refine wmr (mto (n:=50) (l':=[(8,.dat 4 (x4.1.map Qag))]) (own':=[Q6w p3 p4 p5 p6 p7 p8 p9,.own 1 (p10.map Qao),.own 4 ((((p11.set p0.toNat (⟨x4.2.1.Heat,x6.Silica,x6.Gas,x6.Scale⟩:Qbp)).set p0.toNat (⟨x9.Heat,x4.2.1.Silica,x9.Gas,x9.Scale⟩:Qbp)).set p0.toNat (⟨x12.Heat,x12.Silica,x4.2.1.Gas,x12.Scale⟩:Qbp):List Qbp).map Qa9),.own 1 (p12.map Qab)]) [(8,.dat 4 (x4.1.map Qag))] [0,1,2,3] [Q6w p3 p4 p5 p6 p7 p8 p9,.own 1 (p10.map Qao),Zoj p11 p0 x4 x6 x9 x12,.own 1 (p12.map Qab)] hq (pqi pn) (qb (lc (rnd Qcg) (lc (rnd Qau) (lc (.rn (Qas rfl)) (lc (.rn (Qas rfl)) (lc (.rn (Qas rfl)) (lc (rnd Qaq) (lc rwl ln))))))) (qc (spr Qa6) (qc (spr Qcp) (qc (spr Qar) qn)))))<|Qad ?_
 obtain rfl:=osi h
 exact⟨_,Mor.rfl,fio [.dat 4 (x4.1.map Qag)] ⟨rot,tv⟩⟩
def Qhj (N:Nat) (p0:Int) (p1:Qaa) (p2:List GRow) (p3:List Qam) (p4 p5 p6:Nat) (p7:List Qaa) (p8:Int) (p9:List (List Qaa)) (p10:List Qbp) (p11:List Int):Option ((List Qaa)×Int×(List Qbp)×(List Int)):=(getI p3 p0).bind fun x5=>(Qni N p2 x5.Level p1).bind fun x10=>chk (decide (0<=p0)&&decide (p0.toNat<p5))<|(p10[p0.toNat]?).bind fun x12=>chk (decide (0<=p0)&&decide (p0.toNat<p6))<|(p11[p0.toNat]?).bind fun x15=>chk (decide (0<=p0)&&decide (p0.toNat<p6))<|(p11[p0.toNat]?).bind fun _=>bif (x5.Amount==0) then some ([(⟨x10.1.Steam.Mass,x10.1.Steam.Heat,x10.1.Steam.Silica,x10.1.Steam.Gas⟩:Qaa),(⟨x10.1.Water.Mass,x10.1.Water.Heat,x10.1.Water.Silica,x10.1.Water.Gas⟩:Qaa)],w64 (p8+x10.1.Steam.Mass),p10.set p0.toNat (⟨x12.Heat,x12.Silica,x12.Gas,x10.1.Scale⟩:Qbp),p11.set p0.toNat (w64 (x15+x10.1.Scale))) else (Qhp N p0 (⟨x10.1.Water.Mass,x10.1.Water.Heat,x10.1.Water.Silica,x10.1.Water.Gas⟩:Qaa) ([w64 (1000-x5.Amount),x5.Amount]) p2 p3 p4 p5 p6 p7 (w64 (p8+x10.1.Steam.Mass)) p9 (p10.set p0.toNat (⟨x12.Heat,x12.Silica,x12.Gas,x10.1.Scale⟩:Qbp)) (p11.set p0.toNat (w64 (x15+x10.1.Scale)))).bind fun x22=>(getI x22.1 1).bind fun x23=>(Qgt N ([(⟨x10.1.Steam.Mass,x10.1.Steam.Heat,x10.1.Steam.Silica,x10.1.Steam.Gas⟩:Qaa),x23])).bind fun x28=>(getI x22.1 0).bind fun x29=>some ([x28,x29],w64 (p8+x10.1.Steam.Mass),x22.2,p11.set p0.toNat (w64 (x15+x10.1.Scale)))
abbrev Zxg (p1:Qaa):AV:=.agg [I p1.Mass,I p1.Heat,I p1.Silica,I p1.Gas]
abbrev Ze6 (p3:List Qam):AV:=.dat 7 (p3.map Qaj)
abbrev Ze5 (p7:List Qaa):AV:=.dat 4 (p7.map Qag)
abbrev Q6x (p2:List GRow) (p3:List Qam) (p4 p5 p6:Nat) (p7:List Qaa) (p8:Int):Slot:=.own 7 [[.dat 5 (p2.map Qat),Ze6 p3,.own 1 1 (0) p4,.own 2 4 (0) p5,.own 3 1 (0) p6,Ze5 p7,I p8]]
abbrev Qv3 (p9:List (List Qaa)):Slot:=.own 1 (p9.map Qao)
abbrev Ze4 (p10:List Qbp) (p0:Int) (x12:Qbp) (x10:(Qko×Int)):Slot:=.own 4 ((p10.set p0.toNat (⟨x12.Heat,x12.Silica,x12.Gas,x10.1.Scale⟩:Qbp):List Qbp).map Qa9)
abbrev Q38 (p11:List Int) (p0 x15:Int) (x10:(Qko×Int)):Slot:=.own 1 ((p11.set p0.toNat (w64 (x15+x10.1.Scale)):List Int).map Qab)
abbrev Q9u (x10:(Qko×Int)):AV:=.agg [I x10.1.Steam.Mass,I x10.1.Steam.Heat,I x10.1.Steam.Silica,I x10.1.Steam.Gas]
abbrev Zoo (x10:(Qko×Int)):AV:=.agg [I x10.1.Water.Mass,I x10.1.Water.Heat,I x10.1.Water.Silica,I x10.1.Water.Gas]
abbrev Q9t (x10:(Qko×Int)):AV:=.dat 4 (([(⟨x10.1.Steam.Mass,x10.1.Steam.Heat,x10.1.Steam.Silica,x10.1.Steam.Gas⟩:Qaa),(⟨x10.1.Water.Mass,x10.1.Water.Heat,x10.1.Water.Silica,x10.1.Water.Gas⟩:Qaa)]:List Qaa).map Qag)
abbrev Q9v (p2:List GRow) (p3:List Qam) (p4 p5 p6:Nat) (p7:List Qaa) (p8:Int) (x10:(Qko×Int)):Slot:=.own 7 [[.dat 5 (p2.map Qat),Ze6 p3,.own 1 1 (0) p4,.own 2 4 (0) p5,.own 3 1 (0) p6,Ze5 p7,I (w64 (p8+x10.1.Steam.Mass))]]
abbrev Zon (x5:Qam):AV:=.dat 1 (([w64 (1000-x5.Amount),x5.Amount]:List Int).map Qab)
abbrev Zom (x23:Qaa):AV:=.agg [I x23.Mass,I x23.Heat,I x23.Silica,I x23.Gas]
abbrev Zul (x10:(Qko×Int)) (x23:Qaa):AV:=.dat 4 (([(⟨x10.1.Steam.Mass,x10.1.Steam.Heat,x10.1.Steam.Silica,x10.1.Steam.Gas⟩:Qaa),x23]:List Qaa).map Qag)
abbrev Zol (x28:Qaa):AV:=.agg [I x28.Mass,I x28.Heat,I x28.Silica,I x28.Gas]
abbrev Zok (x29:Qaa):AV:=.agg [I x29.Mass,I x29.Heat,I x29.Silica,I x29.Gas]
abbrev Q9s (x28 x29:Qaa):AV:=.dat 4 (([x28,x29]:List Qaa).map Qag)
def Qqa (N:Nat) (p0:Int) (p1:Qaa) (p2:List GRow) (p3:List Qam) (p4 p5 p6:Nat) (p7:List Qaa) (p8:Int) (p9:List (List Qaa)) (p10:List Qbp) (p11:List Int) (r:((List Qaa)×Int×(List Qbp)×(List Int))) (h:Qhj N p0 p1 p2 p3 p4 p5 p6 p7 p8 p9 p10 p11=some r):Spec prog 86 [.ref 0 7 (0) 0,I p0,Zxg p1] [Q6x p2 p3 p4 p5 p6 p7 p8,Qv3 p9,.own 4 (p10.map Qa9),.own 1 (p11.map Qab)] (.dat 4 (r.1.map Qag)) [.own 7 [[.dat 5 (p2.map Qat),Ze6 p3,.own 1 1 (0) p4,.own 2 4 (0) p5,.own 3 1 (0) p6,Ze5 p7,I r.2.1]],Qv3 p9,.own 4 (r.2.2.1.map Qa9),.own 1 (r.2.2.2.map Qab)]:=by
 refine sF func86 4 fun _ _ _ hq hd0=>?_
 unfold Qhj at h
 refine wxz<|bgq h fun x5 i7 j8 h=>wx tbk [(1,rb [(.tmp 11,.ref 0 7 0 0)] [(0,Q6x p2 p3 p4 p5 p6 p7 p8)] (.ref 0 7 0 0)),(6,rp _ _)] ⟨Qbi rfl,aiq Xa2 Qo8 Qaj i7 j8,tv⟩<|bnq h fun x10 f9 h=>wxd tbk [(1,rb [(.tmp 20,.ref 0 7 0 0)] [(0,Q6x p2 p3 p4 p5 p6 p7 p8)] (.ref 0 7 0 0)),(8,rp _ _)] ⟨Qbi rfl,apw Znn (Qyb N p2 x5.Level p1 _ f9),tv⟩<|ckq h fun i11 h=>?_
 obtain⟨hi11a,hi11b⟩:=Qb6 i11
 refine bnq h fun x12 g13 h=>wxd tbk [(1,rb [(.tmp 31,.ref 0 7 0 0)] [(0,Q6x p2 p3 p4 p5 p6 p7 p8)] (.ref 0 7 0 0)),(8,rb [(.tmp 35,.own 2 4 (0) p5),(.tmp 36,I p0)] [(2,.own 4 (p10.map Qa9))] (.ref 2 4 p0.toNat 0)),(10,⟨[(.tmp 40,.ref 2 4 p0.toNat 3),(.tmp 38,I x10.1.Scale)],[(2,.own 4 (p10.map Qa9))],.any,[(2,Ze4 p10 p0 x12 x10)],false⟩)] ⟨Qbi rfl,aio rfl Xdc ti42 (odt hi11a) (odt hi11b) (Xar _),ast rfl ti3 (by rfl) (mgt Qa9 g13) (nle rfl) (Qhv Qa9 rfl),tv⟩<|ckq h fun i14 h=>?_
 obtain⟨hi14a,hi14b⟩:=Qb6 i14
 refine bnq h fun x15 g16 h=>ckq h fun i17 h=>?_
 obtain⟨hi17a,hi17b⟩:=Qb6 i17
 refine bnq h fun x18 g19 h=>wxd tbk [(1,rb [(.tmp 41,.ref 0 7 0 0)] [(0,Q6x p2 p3 p4 p5 p6 p7 p8)] (.ref 0 7 0 0)),(6,rb [(.tmp 45,.own 3 1 (0) p6),(.tmp 46,I p0)] [(3,.own 1 (p11.map Qab))] (.ref 3 1 p0.toNat 0)),(7,rb [(.tmp 47,.ref 3 1 p0.toNat 0)] [(3,.own 1 (p11.map Qab))] (I x15)),(11,rb [(.tmp 45,.own 3 1 (0) p6),(.tmp 46,I p0)] [(3,.own 1 (p11.map Qab))] (.ref 3 1 p0.toNat 0)),(12,⟨[(.tmp 52,.ref 3 1 p0.toNat 0),(.tmp 51,I (w64 (x15+x10.1.Scale)))],[(3,.own 1 (p11.map Qab))],.any,[(3,Q38 p11 p0 x15 x10)],false⟩)] ⟨Qbi rfl,aio rfl Xag ti3 (odt hi14a) (odt hi14b) (Xar _),ald rfl ti3 (by decide) (mgt Qab g16) (nle rfl) rfl,aio rfl Xag ti3 (odt hi17a) (odt hi17b) (Xar _),ast rfl ti3 (by rfl) (mgt Qab g19) (nle rfl) (Qhv Qab rfl),tv⟩<|wxd tbk [(1,rb [(.tmp 53,.ref 0 7 0 0)] [(0,Q6x p2 p3 p4 p5 p6 p7 p8)] (.ref 0 7 0 0)),(8,rb [(.tmp 53,.ref 0 7 0 0)] [(0,Q6x p2 p3 p4 p5 p6 p7 p8)] (.ref 0 7 0 0))] ⟨Qbi rfl,Qbi rfl,tv⟩<|wsq<|wxz<|bfq h (fun c20 h=>?_) fun c20 h=>?_
 ·refine wx tbk [(4,rp [(.tmp 67,Q9u x10),(.tmp 69,Zoo x10)] (Q9t x10))] ⟨Qds (vs:=[Q9u x10,Zoo x10]) rfl Xa4 ti40 tz40 rfl (by decide) rfl (by decide) (by rfl) (by rfl) (by rfl) rfl,tv⟩ ?_
  refine wmr (mto (n:=93) (l':=[(6,Q9t x10)]) (own':=[.own 7 [[.dat 5 (p2.map Qat),Ze6 p3,.own 1 1 (0) p4,.own 2 4 (0) p5,.own 3 1 (0) p6,Ze5 p7,I (w64 (p8+x10.1.Steam.Mass))]],Qv3 p9,.own 4 ((p10.set p0.toNat (⟨x12.Heat,x12.Silica,x12.Gas,x10.1.Scale⟩:Qbp):List Qbp).map Qa9),.own 1 ((p11.set p0.toNat (w64 (x15+x10.1.Scale)):List Int).map Qab)]) [(6,Q9t x10)] [0,1,2,3] [Q9v p2 p3 p4 p5 p6 p7 p8 x10,Qv3 p9,Ze4 p10 p0 x12 x10,Q38 p11 p0 x15 x10] hq (pqi pn) (qb (lc (rnd Qcg) (lc (rnd Qau) (lc (.rn (Qas rfl)) (lc (.rn (Qas rfl)) (lc (.rn (Qas rfl)) (lc (rnd Qaq) (lc rwl ln))))))) (qc (spr Qa6) (qc (spr Qcp) (qc (spr Qar) qn)))))<|Qad<|Qac ?_
  obtain rfl:=osi h
  exact⟨_,Mor.rfl,fio [Q9t x10] ⟨rot,tv⟩⟩
 refine Qah<|thn ?_
 refine bnq h fun x22 f21 h=>wx tbk [(9,rp [(.tmp 77,I (w64 (1000-x5.Amount))),(.tmp 79,I x5.Amount)] (Zon x5)),(10,⟨_,_,_,_,false⟩)] ⟨Qds (vs:=[I (w64 (1000-x5.Amount)),I x5.Amount]) rfl Xag ti3 tz3 rfl (by decide) rfl (by decide) (by rfl) (by rfl) (by rfl) rfl,acq [.ref 0 7 0 0,I p0,.agg [I ((⟨x10.1.Water.Mass,x10.1.Water.Heat,x10.1.Water.Silica,x10.1.Water.Gas⟩:Qaa).Mass),I ((⟨x10.1.Water.Mass,x10.1.Water.Heat,x10.1.Water.Silica,x10.1.Water.Gas⟩:Qaa).Heat),I ((⟨x10.1.Water.Mass,x10.1.Water.Heat,x10.1.Water.Silica,x10.1.Water.Gas⟩:Qaa).Silica),I ((⟨x10.1.Water.Mass,x10.1.Water.Heat,x10.1.Water.Silica,x10.1.Water.Gas⟩:Qaa).Gas)],Zon x5] [Q9v p2 p3 p4 p5 p6 p7 p8 x10,Qv3 p9,Ze4 p10 p0 x12 x10,Q38 p11 p0 x15 x10] [Q9v p2 p3 p4 p5 p6 p7 p8 x10,Qv3 p9,.own 4 (x22.2.map Qa9),Q38 p11 p0 x15 x10] (.dat 4 (x22.1.map Qag)) [0,1,2,3] Zbw (Qnt N p0 (⟨x10.1.Water.Mass,x10.1.Water.Heat,x10.1.Water.Silica,x10.1.Water.Gas⟩:Qaa) ([w64 (1000-x5.Amount),x5.Amount]) p2 p3 p4 p5 p6 p7 (w64 (p8+x10.1.Steam.Mass)) p9 (p10.set p0.toNat (⟨x12.Heat,x12.Silica,x12.Gas,x10.1.Scale⟩:Qbp)) (p11.set p0.toNat (w64 (x15+x10.1.Scale))) _ f21) (Qct (rnc (Qa2 rfl) (rnc pli (rnc pli (rnc (pld Qar) rn0))))) (slc (Qcr (rnc (pld Qcg) (rnc (pld Qau) (rnc (Qdf rfl) (rnc (Qdf rfl) (rnc (Qdf rfl) (rnc (pld Qaq) (rnc pli rn0)))))))) (slc (Qa5 Qa6) (slc (Qa5 Qcp) (slc (Qa5 Qar) Qai)))) (slc (Qcr (rnc (pld Qcg) (rnc (pld Qau) (rnc (Qff rfl) (rnc (Qff rfl) (rnc (Qff rfl) (rnc (pld Qaq) (rnc pli rn0)))))))) (slc (Qa5 Qa6) (slc (Qa5 Qcp) (slc (Qa5 Qar) Qai)))) (pld Qaq),tv⟩<|bgq h fun x23 i25 j26 h=>bnq h fun x28 f27 h=>bgq h fun x29 i31 j32 h=>?_
 refine wxd tbk [(3,rp _ _),(5,rp [(.tmp 83,Q9u x10),(.tmp 86,Zom x23)] (Zul x10 x23)),(6,rp _ _),(8,rp _ _),(10,rp [(.tmp 88,Zol x28),(.tmp 91,Zok x29)] (Q9s x28 x29))] ⟨aiq Xa4 ti40 Qag i25 j26,Qds (vs:=[Q9u x10,Zom x23]) rfl Xa4 ti40 tz40 rfl (by decide) rfl (by decide) (by rfl) (by rfl) (by rfl) rfl,apw Qzc (Qlj N ([(⟨x10.1.Steam.Mass,x10.1.Steam.Heat,x10.1.Steam.Silica,x10.1.Steam.Gas⟩:Qaa),x23]) _ f27),aiq Xa4 ti40 Qag i31 j32,Qds (vs:=[Zol x28,Zok x29]) rfl Xa4 ti40 tz40 rfl (by decide) rfl (by decide) (by rfl) (by rfl) (by rfl) rfl,tv⟩ ?_
 refine wmr (mto (n:=93) (l':=[(6,Q9s x28 x29)]) (own':=[.own 7 [[.dat 5 (p2.map Qat),Ze6 p3,.own 1 1 (0) p4,.own 2 4 (0) p5,.own 3 1 (0) p6,Ze5 p7,I (w64 (p8+x10.1.Steam.Mass))]],Qv3 p9,.own 4 (x22.2.map Qa9),.own 1 ((p11.set p0.toNat (w64 (x15+x10.1.Scale)):List Int).map Qab)]) [(6,Q9s x28 x29)] [0,1,2,3] [Q9v p2 p3 p4 p5 p6 p7 p8 x10,Qv3 p9,.own 4 (x22.2.map Qa9),Q38 p11 p0 x15 x10] hq (pqi pn) (qb (lc (rnd Qcg) (lc (rnd Qau) (lc (.rn (Qas rfl)) (lc (.rn (Qas rfl)) (lc (.rn (Qas rfl)) (lc (rnd Qaq) (lc rwl ln))))))) (qc (spr Qa6) (qc (spr Qcp) (qc (spr Qar) qn)))))<|Qad ?_
 obtain rfl:=osi h
 exact⟨_,Mor.rfl,fio [Q9s x28 x29] ⟨rot,tv⟩⟩
def Qkm (N:Nat) (p0:Int) (p1:Qaa) (p2:List GRow) (p3:List Qam) (p4 p5 p6:Nat) (p7:List Qaa) (p8:Int) (p9:List (List Qaa)) (p10:List Qbp) (p11:List Int):Option ((List Qaa)×(List Qbp)):=(getI p3 p0).bind fun x3=>(Qhp N p0 p1 x3.Weights p2 p3 p4 p5 p6 p7 p8 p9 p10 p11).bind fun x8=>some (x8.1,x8.2)
abbrev Zuk (p1:Qaa):AV:=.agg [I p1.Mass,I p1.Heat,I p1.Silica,I p1.Gas]
abbrev Q6v (p2:List GRow) (p3:List Qam) (p4 p5 p6:Nat) (p7:List Qaa) (p8:Int):Slot:=.own 7 [[.dat 5 (p2.map Qat),.dat 7 (p3.map Qaj),.own 1 1 (0) p4,.own 2 4 (0) p5,.own 3 1 (0) p6,.dat 4 (p7.map Qag),I p8]]
abbrev Zce (p9:List (List Qaa)):Slot:=.own 1 (p9.map Qao)
abbrev Q9r (x8:((List Qaa)×(List Qbp))):AV:=.dat 4 (x8.1.map Qag)
def Qru (N:Nat) (p0:Int) (p1:Qaa) (p2:List GRow) (p3:List Qam) (p4 p5 p6:Nat) (p7:List Qaa) (p8:Int) (p9:List (List Qaa)) (p10:List Qbp) (p11:List Int) (r:((List Qaa)×(List Qbp))) (h:Qkm N p0 p1 p2 p3 p4 p5 p6 p7 p8 p9 p10 p11=some r):Spec prog 87 [.ref 0 7 (0) 0,I p0,Zuk p1] [Q6v p2 p3 p4 p5 p6 p7 p8,Zce p9,.own 4 (p10.map Qa9),.own 1 (p11.map Qab)] (.dat 4 (r.1.map Qag)) [Q6v p2 p3 p4 p5 p6 p7 p8,Zce p9,.own 4 (r.2.map Qa9),.own 1 (p11.map Qab)]:=by
 refine sF func87 4 fun _ _ _ hq hd0=>?_
 unfold Qkm at h
 refine wxz<|bgq h fun x3 i5 j6 h=>bnq h fun x8 f7 h=>wxd tbk [(4,rb [(.tmp 10,.ref 0 7 0 0)] [(0,Q6v p2 p3 p4 p5 p6 p7 p8)] (.ref 0 7 0 0)),(9,rp _ _),(12,⟨_,_,_,_,false⟩)] ⟨Qbi rfl,aiq Xa2 Qo8 Qaj i5 j6,acq [.ref 0 7 0 0,I p0,Zuk p1,.dat 1 (x3.Weights.map Qab)] [Q6v p2 p3 p4 p5 p6 p7 p8,Zce p9,.own 4 (p10.map Qa9),.own 1 (p11.map Qab)] [Q6v p2 p3 p4 p5 p6 p7 p8,Zce p9,.own 4 (x8.2.map Qa9),.own 1 (p11.map Qab)] (Q9r x8) [0,1,2,3] Zbw (Qnt N p0 p1 x3.Weights p2 p3 p4 p5 p6 p7 p8 p9 p10 p11 _ f7) (Qct (rnc (Qa2 rfl) (rnc pli (rnc pli (rnc (pld Qar) rn0))))) (slc (Qcr (rnc (pld Qcg) (rnc (pld Qau) (rnc (Qdf rfl) (rnc (Qdf rfl) (rnc (Qdf rfl) (rnc (pld Qaq) (rnc pli rn0)))))))) (slc (Qa5 Qa6) (slc (Qa5 Qcp) (slc (Qa5 Qar) Qai)))) (slc (Qcr (rnc (pld Qcg) (rnc (pld Qau) (rnc (Qff rfl) (rnc (Qff rfl) (rnc (Qff rfl) (rnc (pld Qaq) (rnc pli rn0)))))))) (slc (Qa5 Qa6) (slc (Qa5 Qcp) (slc (Qa5 Qar) Qai)))) (pld Qaq),tv⟩ ?_
 refine wmr (mto (n:=20) (l':=[(6,Q9r x8)]) (own':=[Q6v p2 p3 p4 p5 p6 p7 p8,Zce p9,.own 4 (x8.2.map Qa9),.own 1 (p11.map Qab)]) [(6,Q9r x8)] [0,1,2,3] [Q6v p2 p3 p4 p5 p6 p7 p8,Zce p9,.own 4 (x8.2.map Qa9),.own 1 (p11.map Qab)] hq (pqi pn) (qb (lc (rnd Qcg) (lc (rnd Qau) (lc (.rn (Qas rfl)) (lc (.rn (Qas rfl)) (lc (.rn (Qas rfl)) (lc (rnd Qaq) (lc rwl ln))))))) (qc (spr Qa6) (qc (spr Qcp) (qc (spr Qar) qn)))))<|Qad ?_
 obtain rfl:=osi h
 exact⟨_,Mor.rfl,fio [Q9r x8] ⟨rot,tv⟩⟩
def Qeq (N:Nat) (p0 p1:Int) (p2:List GRow) (p3:List Qam) (p4 p5 p6:Nat) (p7:List Qaa) (p8:Int) (p9:List (List Qaa)) (p10:List Qbp) (p11:List Int):Option ((Int×(List (List Qaa))×(List Qbp)×(List Int))⊕Int):=(Qjr N p0 p2 p3 p4 p5 p6 p7 p8 p9 p10 p11).bind fun _=>chk (decide (p4<=p9.length))<|chk (decide (p5<=p10.length))<|chk (decide (p6<=p11.length))<|(Qdc N p2 p3 (p9.take p4) (p10.take p5) (p11.take p6) p7 p8 p0).bind fun x12=>(Qgt N x12).bind fun x14=>Qb0 (fun _=>(getI p3 p0).bind fun x16=>bif (x16.Kind==0) then none else bif (x16.Kind==1) then (Qid N p0 x14 p2 p3 p4 p5 p6 p7 p8 p9 p10 p11).bind fun x23=>chk (decide (0<=p0)&&decide (p0.toNat<p4))<|(p9[p0.toNat]?).bind fun _=>some (.inl (p8,p9.set p0.toNat x23,p10,p11)) else bif (x16.Kind==2) then (Qid N p0 x14 p2 p3 p4 p5 p6 p7 p8 p9 p10 p11).bind fun x29=>chk (decide (0<=p0)&&decide (p0.toNat<p4))<|(p9[p0.toNat]?).bind fun _=>some (.inl (p8,p9.set p0.toNat x29,p10,p11)) else bif (x16.Kind==3) then (Qk9 N p0 x14 p2 p3 p4 p5 p6 p7 p8 p9 p10 p11).bind fun x35=>chk (decide (0<=p0)&&decide (p0.toNat<p4))<|(p9[p0.toNat]?).bind fun _=>some (.inl (p8,p9.set p0.toNat x35.1,x35.2,p11)) else bif (x16.Kind==4) then (Qhj N p0 x14 p2 p3 p4 p5 p6 p7 p8 p9 p10 p11).bind fun x41=>chk (decide (0<=p0)&&decide (p0.toNat<p4))<|(p9[p0.toNat]?).bind fun _=>some (.inl (x41.2.1,p9.set p0.toNat x41.1,x41.2.2.1,x41.2.2.2)) else bif (x16.Kind==5) then (Qkm N p0 x14 p2 p3 p4 p5 p6 p7 p8 p9 p10 p11).bind fun x47=>chk (decide (0<=p0)&&decide (p0.toNat<p4))<|(p9[p0.toNat]?).bind fun _=>some (.inl (p8,p9.set p0.toNat x47.1,x47.2,p11)) else bif (x16.Kind==6) then (Qid N p0 x14 p2 p3 p4 p5 p6 p7 p8 p9 p10 p11).bind fun x53=>chk (decide (0<=p0)&&decide (p0.toNat<p4))<|(p9[p0.toNat]?).bind fun _=>some (.inl (p8,p9.set p0.toNat x53,p10,p11)) else none) fun k15:Unit->Option ((Int×(List (List Qaa))×(List Qbp)×(List Int))⊕Int)=>bif decide (x14.Mass>p1) then some (.inr p0) else k15 ()
abbrev Qoi (p3:List Qam):AV:=.dat 7 (p3.map Qaj)
abbrev Qxo (p7:List Qaa):AV:=.dat 4 (p7.map Qag)
abbrev Qjw (p2:List GRow) (p3:List Qam) (p4 p5 p6:Nat) (p7:List Qaa) (p8:Int):Slot:=.own 7 [[.dat 5 (p2.map Qat),Qoi p3,.own 1 1 (0) p4,.own 2 4 (0) p5,.own 3 1 (0) p6,Qxo p7,I p8]]
abbrev Qiw (p9:List (List Qaa)):Slot:=.own 1 (p9.map Qao)
abbrev Qlg (p10:List Qbp):Slot:=.own 4 (p10.map Qa9)
abbrev Zun:AV:=.fn (.func 99) [] [.ref 4 1 (0) 0,.ref 5 1 (0) 0]
abbrev Zuo:Slot:=.own 1 [[.ref 0 7 (0) 0]]
abbrev Ql4 (x14:Qaa):AV:=.agg [I x14.Mass,I x14.Heat,I x14.Silica,I x14.Gas]
abbrev Qv5 (x14:Qaa):Slot:=.own 4 [[I x14.Mass,I x14.Heat,I x14.Silica,I x14.Gas]]
abbrev Qq6:Slot:=.own 7 [[.lit .nilFunc,.fn (.func 84) [] [],.fn (.func 84) [] [],.fn (.func 85) [] [],.fn (.func 86) [] [],.fn (.func 87) [] [],.fn (.func 84) [] []]]
abbrev Q9x (p2:List GRow) (p3:List Qam) (p4 p5 p6:Nat) (p7:List Qaa) (x41:((List Qaa)×Int×(List Qbp)×(List Int))):Slot:=.own 7 [[.dat 5 (p2.map Qat),Qoi p3,.own 1 1 (0) p4,.own 2 4 (0) p5,.own 3 1 (0) p6,Qxo p7,I x41.2.1]]
def Qmf (N:Nat) (p0 p1:Int) (p2:List GRow) (p3:List Qam) (p4 p5 p6:Nat) (p7:List Qaa) (p8:Int) (p9:List (List Qaa)) (p10:List Qbp) (p11:List Int) (r:((Int×(List (List Qaa))×(List Qbp)×(List Int))⊕Int)) (h:Qeq N p0 p1 p2 p3 p4 p5 p6 p7 p8 p9 p10 p11=some r):Zw3 prog 64 [.ref 0 7 (0) 0,I p0,I p1] [Qjw p2 p3 p4 p5 p6 p7 p8,Qiw p9,Qlg p10,.own 1 (p11.map Qab)]  ((Sum.elim (fun r=>.ret (.tup []) [.own 7 [[.dat 5 (p2.map Qat),.dat 7 (p3.map Qaj),.own 1 1 (0) p4,.own 2 4 (0) p5,.own 3 1 (0) p6,.dat 4 (p7.map Qag),I r.1]],.own 1 (r.2.1.map Qao),.own 4 (r.2.2.1.map Qa9),.own 1 (r.2.2.2.map Qab)]) (fun r=>.pan (.iface 168 (.agg #[.int .i64 r]))):((Int×(List (List Qaa))×(List Qbp)×(List Int))⊕Int)->Out) r):=by
 refine Q4z func64 rfl 4 (nle rfl) (fun _ _ _ hq hd0=>?_)
 unfold Qeq at h
 refine bnq h fun x7 f6 h=>ckq h fun hz8 h=>ckq h fun hz9 h=>ckq h fun hz10 h=>bnq h fun x12 f11 h=>bnq h fun x14 f13 h=>?_
 refine wx tbk [(2,⟨_,_,_,_,false⟩),(3,⟨[fu 82,(.tmp 10,Zun)],[(4,Zuo),(0,Qjw p2 p3 p4 p5 p6 p7 p8),(1,Qiw p9),(2,Qlg p10),(3,.own 1 (p11.map Qab)),(5,.own 1 [[I p0]]),(6,.unused)],.acc 6 40 4 (x12.map Qag),[(6,.tok)],false⟩),(4,rp [fu 23,(.tmp 11,.acc 6 40 4 (x12.map Qag))] (Ql4 x14))] ⟨acq [.ref 0 7 0 0,I p0] [Qjw p2 p3 p4 p5 p6 p7 p8,Qiw p9,Qlg p10,.own 1 (p11.map Qab)] [Qjw p2 p3 p4 p5 p6 p7 p8,Qiw p9,Qlg p10,.own 1 (p11.map Qab),Zuo,.own 1 [[I p0]]] Zun [0,1,2,3,4,5] Zsm (Qsn N p0 p2 p3 p4 p5 p6 p7 p8 p9 p10 p11 _ f6) (Qct (rnc (Qa2 rfl) (rnc pli rn0))) (slc (Qcr (rnc (pld Qcg) (rnc (pld Qau) (rnc (Qdf rfl) (rnc (Qdf rfl) (rnc (Qdf rfl) (rnc (pld Qaq) (rnc pli rn0)))))))) (slc (Qa5 Qa6) (slc (Qa5 Qcp) (slc (Qa5 Qar) Qai)))) (slc (Qcr (rnc (pld Qcg) (rnc (pld Qau) (rnc (Qff rfl) (rnc (Qff rfl) (rnc (Qff rfl) (rnc (pld Qaq) (rnc pli rn0)))))))) (slc (Qa5 Qa6) (slc (Qa5 Qcp) (slc (Qa5 Qar) (slc (Qcr (rnc (Qb7 rfl) rn0)) (sbi Qai)))))) (Qby rn0 (rnc (Qb7 rfl) (rnc (Qb7 rfl) rn0))),Qod (rd':=[fu 82,(.tmp 10,.fn (.func 99) [] [.dptr [.dptr [.dat 5 (p2.map Qat),Qoi p3,.dat 1 ((p9.take p4:List (List Qaa)).map Qao),.dat 4 ((p10.take p5:List Qbp).map Qa9),.dat 1 ((p11.take p6:List Int).map Qab),Qxo p7,I p8] 0] 0,.dptr [I p0] 0])]) [(4,1,[[.ref 0 7 0 0]]),(0,7,[[.dat 5 (p2.map Qat),Qoi p3,.own 1 1 (0) p4,.own 2 4 (0) p5,.own 3 1 (0) p6,Qxo p7,I p8]]),(1,1,p9.map Qao),(2,4,p10.map Qa9),(3,1,p11.map Qab),(5,1,[[I p0]])] ⟨rfl,.same _,rfl,Znq tv ⟨Qun 0 rfl (lc (Qun 1 rfl (lc (.same _) (lc (.same _) (lc (Q8w 2 rfl hz8) (lc (Q8w 3 rfl hz9) (lc (Q8w 4 rfl hz10) (lc (.same _) (lc (.same _) ln)))))))) ln),Qun 5 rfl (lc (.same _) ln),tv⟩,tv⟩ (by rfl) (.acc _ _ _ _ (nin rfl) (by simp) (Zml Q8k _)) (Zl1 .tok Q2r) (acq [.fn (.func 99) [] [.dptr [.dptr [.dat 5 (p2.map Qat),Qoi p3,.dat 1 ((p9.take p4:List (List Qaa)).map Qao),.dat 4 ((p10.take p5:List Qbp).map Qa9),.dat 1 ((p11.take p6:List Int).map Qab),Qxo p7,I p8] 0] 0,.dptr [I p0] 0]] [] [.tok] (.acc 6 40 4 (x12.map Qag)) [6] Zsn (Qmd N p2 p3 (p9.take p4) (p10.take p5) (p11.take p6) p7 p8 p0 _ f11) pli Qai (slc .tok Qai) (Zg5 rfl (Qcf Qaq _))),awk (rd':=(.func 23,.fn (.func 23) [] [])::[(.tmp 11,.dat 4 (x12.map Qag))]) ⟨rfl,lrf,rfl,Less.acc,tv⟩ (apv Qzc (Qlj N x12 _ f13) (nlc (nld Qaq _) nl0) (NLt.agg _ (nlcc (nlcc nl0)))),tv⟩ ?_
 refine wjq h (fun _=>⟨mk 43 [(0,.ref 0 7 0 0),(1,I p0),(6,.ref 4 4 0 0)],[Qjw p2 p3 p4 p5 p6 p7 p8,Qiw p9,Qlg p10,.own 1 (p11.map Qab),Qv5 x14]⟩) (fun t h=>?_) fun k15 h=>?_
 ·refine wx tbk [(0,rp [fu 84,fu 84,fu 85,fu 86,fu 87,fu 84] (.agg [.lit .nilFunc,.fn (.func 84) [] [],.fn (.func 84) [] [],.fn (.func 85) [] [],.fn (.func 86) [] [],.fn (.func 87) [] [],.fn (.func 84) [] []]))] ⟨Qwp (vs:=[.fn (.func 84) [] [],.fn (.func 84) [] [],.fn (.func 85) [] [],.fn (.func 86) [] [],.fn (.func 87) [] [],.fn (.func 84) [] []]) rfl Xdi Qt0 Zvn rfl (by rfl) rfl,tv⟩<|bgq h fun x16 i18 j19 h=>bfe h (fun hb20 h=>?_) fun hb20 h=>?_
  ·cases h
  refine bfe h (fun hb21 h=>?_) fun hb21 h=>?_
  ·refine bnq h fun x23 f22 h=>ckq h fun i24 h=>?_
   obtain⟨hi24a,hi24b⟩:=Qb6 i24
   refine bnq h fun x25 g26 h=>?_
   refine Qo1 0 (.own 7 [[.dat 5 (p2.map Qat),Qoi p3,.own 1 1 (0) p4,.own 2 4 (0) p5,.own 3 1 (0) p6,Qxo p7,I p8]]) [mv 0 (.ref 0 7 0 0),rp [(.tmp 21,.ref 0 7 0 0)] (.ref 0 7 0 0),rp [(.tmp 22,.ref 0 7 0 0)] (.ref 0 7 0 2),rp [(.tmp 23,.ref 0 7 0 2)] (.ref 0 7 0 2),rp [(.tmp 24,.ref 0 7 0 2)] (.own 1 1 (0) p4),mv 1 (I p0),mv 0 (.ref 0 7 0 0),rp [(.tmp 27,.ref 0 7 0 0)] (.ref 0 7 0 0),rp [(.tmp 28,.ref 0 7 0 0)] (.ref 0 7 0 0),rp [(.tmp 29,.ref 0 7 0 0)] (.ref 0 7 0 1),rp [(.tmp 30,.ref 0 7 0 1)] (Qoi p3),mv 1 (I p0),rp [(.tmp 31,Qoi p3),(.tmp 32,I p0)] (.dptr (Qaj x16) 0),mv 33 (.dptr (Qaj x16) 0),rp [(.tmp 34,.dptr (Qaj x16) 0)] (K .u8 x16.Kind),rb [(.tmp 7,.ref 5 7 0 0),(.tmp 35,K .u8 x16.Kind)] [(5,Qq6)] (.ref 5 7 0 1),rb [(.tmp 36,.ref 5 7 0 1)] [(5,Qq6)] (.fn (.func 84) [] []),mv 0 (.ref 0 7 0 0),mv 1 (I p0),rb [(.tmp 6,.ref 4 4 0 0)] [(4,Qv5 x14)] (Ql4 x14),⟨[(.tmp 37,.fn (.func 84) [] []),(.tmp 38,.ref 0 7 0 0),(.tmp 39,I p0),(.tmp 40,Ql4 x14)],[(0,Qjw p2 p3 p4 p5 p6 p7 p8),(1,Qiw p9),(2,Qlg p10),(3,.own 1 (p11.map Qab))],.dat 4 (x23.map Qag),[(0,Qjw p2 p3 p4 p5 p6 p7 p8),(1,Qiw p9),(2,Qlg p10),(3,.own 1 (p11.map Qab))],false⟩,rb [(.tmp 25,.own 1 1 (0) p4),(.tmp 26,I p0)] [(1,Qiw p9)] (.ref 1 1 p0.toNat 0),⟨[(.tmp 42,.ref 1 1 p0.toNat 0),(.tmp 41,.dat 4 (x23.map Qag))],[(1,Qiw p9)],.any,[(1,.own 1 ((p9.set p0.toNat x23:List (List Qaa)).map Qao))],false⟩] (SImp.box ⟨lrf,lrf,lrf,lrf,lrf,lrf,lrf,tv⟩) ⟨tv,tv,tv,tv,tv,tv,tv,tv,tv,tv,tv,tv,tv,tv,tv,tv,tv,tv,tv,tv,⟨SImp.box ⟨lrf,lrf,lrf,lrf,lrf,lrf,lrf,tv⟩,tv,tv,tv,tv⟩,tv,⟨tv,tv⟩,tv⟩ ?_ ?_
   ·exact⟨hr_ (amv rfl),sf_ (Qbi rfl),sf_ (afa rfl Xbh rfl rfl ti92 (by decide) rfl),sf_ (afa rfl Xcw rfl rfl ti89 (by decide) rfl),sf_ (ald rfl ti89 (by decide) rfl (nle rfl) rfl),hr_ (amv rfl),hr_ (amv rfl),sf_ (Qbi rfl),sf_ (afa rfl Xbh rfl rfl ti50 (by decide) rfl),sf_ (afa rfl Xdd rfl rfl ti48 (by decide) rfl),sf_ (ald rfl ti48 (by decide) rfl (nle rfl) rfl),hr_ (amv rfl),hr_ (aiq Xa2 Qo8 Qaj i18 j19),hr_ (afd rfl Xc7 rfl rfl ti5 (by decide) rfl),hr_ (ald_ rfl ti5 (by decide) (nle rfl) rfl),hr_ (Qoh hb21 (Qex rfl Xdi Qt0 (by decide) (by decide) rfl)),hr_ (ald rfl Qt0 (by decide) rfl (nle rfl) rfl),hr_ (amv rfl),hr_ (amv rfl),hr_ (ald rfl ti40 (by decide) rfl (nle rfl) rfl),hr_ (acq [.ref 0 7 0 0,I p0,Ql4 x14] [Qjw p2 p3 p4 p5 p6 p7 p8,Qiw p9,Qlg p10,.own 1 (p11.map Qab)] [Qjw p2 p3 p4 p5 p6 p7 p8,Qiw p9,Qlg p10,.own 1 (p11.map Qab)] (.dat 4 (x23.map Qag)) [0,1,2,3] Q8s (Qle N p0 x14 p2 p3 p4 p5 p6 p7 p8 p9 p10 p11 _ f22) (Qct (rnc (Qa2 rfl) (rnc pli (rnc pli rn0)))) (slc (Qcr (rnc (pld Qcg) (rnc (pld Qau) (rnc (Qdf rfl) (rnc (Qdf rfl) (rnc (Qdf rfl) (rnc (pld Qaq) (rnc pli rn0)))))))) (slc (Qa5 Qa6) (slc (Qa5 Qcp) (slc (Qa5 Qar) Qai)))) (slc (Qcr (rnc (pld Qcg) (rnc (pld Qau) (rnc (Qff rfl) (rnc (Qff rfl) (rnc (Qff rfl) (rnc (pld Qaq) (rnc pli rn0)))))))) (slc (Qa5 Qa6) (slc (Qa5 Qcp) (slc (Qa5 Qar) Qai)))) (pld Qaq)),hr_ (aio rfl Xcx ti52 (odt hi24a) (odt hi24b) (Xar _)),hr_ (ast rfl ti52 (by rfl) (mgt Qao g26) (nle rfl) (Qhv Qao rfl)),tv⟩
   obtain rfl:=osi h
   exact⟨_,mto (n:=43) (l':=[]) (own':=[Qjw p2 p3 p4 p5 p6 p7 p8,.own 1 ((p9.set p0.toNat x23:List (List Qaa)).map Qao),Qlg p10,.own 1 (p11.map Qab)]) [] [0,1,2,3] [Qjw p2 p3 p4 p5 p6 p7 p8,.own 1 ((p9.set p0.toNat x23:List (List Qaa)).map Qao),Qlg p10,.own 1 (p11.map Qab)] hq pn (qb (lc (rnd Qcg) (lc (rnd Qau) (lc (.rn (Qas rfl)) (lc (.rn (Qas rfl)) (lc (.rn (Qas rfl)) (lc (rnd Qaq) (lc rwl ln))))))) (qc (spr Qa6) (qc (spr Qcp) (qc (spr Qar) qn)))),Qj2 (vs:=[]) tv rfl (NLt.tup _ nl0) (by kernel_rfl) (Qdt (Qkg (nlc (NLt.of0 (nld Qcg _)) (nlc (NLt.of0 (nld Qau _)) (nlc (NLt.own _ _ _ _ (by decide)) (nlc (NLt.own _ _ _ _ (by decide)) (nlc (NLt.own _ _ _ _ (by decide)) (nlc (NLt.of0 (nld Qaq _)) (nlc (NLt.of0 nll) nl0)))))))) (Qdt (Qiv Qa6 _) (Qdt (Qiv Qcp _) (Qdt (Qiv Qar _) Qkf))))⟩
  refine bfe h (fun hb27 h=>?_) fun hb27 h=>?_
  ·refine bnq h fun x29 f28 h=>ckq h fun i30 h=>?_
   obtain⟨hi30a,hi30b⟩:=Qb6 i30
   refine bnq h fun x31 g32 h=>?_
   refine Qo1 0 (.own 7 [[.dat 5 (p2.map Qat),Qoi p3,.own 1 1 (0) p4,.own 2 4 (0) p5,.own 3 1 (0) p6,Qxo p7,I p8]]) [mv 0 (.ref 0 7 0 0),rp [(.tmp 21,.ref 0 7 0 0)] (.ref 0 7 0 0),rp [(.tmp 22,.ref 0 7 0 0)] (.ref 0 7 0 2),rp [(.tmp 23,.ref 0 7 0 2)] (.ref 0 7 0 2),rp [(.tmp 24,.ref 0 7 0 2)] (.own 1 1 (0) p4),mv 1 (I p0),mv 0 (.ref 0 7 0 0),rp [(.tmp 27,.ref 0 7 0 0)] (.ref 0 7 0 0),rp [(.tmp 28,.ref 0 7 0 0)] (.ref 0 7 0 0),rp [(.tmp 29,.ref 0 7 0 0)] (.ref 0 7 0 1),rp [(.tmp 30,.ref 0 7 0 1)] (Qoi p3),mv 1 (I p0),rp [(.tmp 31,Qoi p3),(.tmp 32,I p0)] (.dptr (Qaj x16) 0),mv 33 (.dptr (Qaj x16) 0),rp [(.tmp 34,.dptr (Qaj x16) 0)] (K .u8 x16.Kind),rb [(.tmp 7,.ref 5 7 0 0),(.tmp 35,K .u8 x16.Kind)] [(5,Qq6)] (.ref 5 7 0 2),rb [(.tmp 36,.ref 5 7 0 2)] [(5,Qq6)] (.fn (.func 84) [] []),mv 0 (.ref 0 7 0 0),mv 1 (I p0),rb [(.tmp 6,.ref 4 4 0 0)] [(4,Qv5 x14)] (Ql4 x14),⟨[(.tmp 37,.fn (.func 84) [] []),(.tmp 38,.ref 0 7 0 0),(.tmp 39,I p0),(.tmp 40,Ql4 x14)],[(0,Qjw p2 p3 p4 p5 p6 p7 p8),(1,Qiw p9),(2,Qlg p10),(3,.own 1 (p11.map Qab))],.dat 4 (x29.map Qag),[(0,Qjw p2 p3 p4 p5 p6 p7 p8),(1,Qiw p9),(2,Qlg p10),(3,.own 1 (p11.map Qab))],false⟩,rb [(.tmp 25,.own 1 1 (0) p4),(.tmp 26,I p0)] [(1,Qiw p9)] (.ref 1 1 p0.toNat 0),⟨[(.tmp 42,.ref 1 1 p0.toNat 0),(.tmp 41,.dat 4 (x29.map Qag))],[(1,Qiw p9)],.any,[(1,.own 1 ((p9.set p0.toNat x29:List (List Qaa)).map Qao))],false⟩] (SImp.box ⟨lrf,lrf,lrf,lrf,lrf,lrf,lrf,tv⟩) ⟨tv,tv,tv,tv,tv,tv,tv,tv,tv,tv,tv,tv,tv,tv,tv,tv,tv,tv,tv,tv,⟨SImp.box ⟨lrf,lrf,lrf,lrf,lrf,lrf,lrf,tv⟩,tv,tv,tv,tv⟩,tv,⟨tv,tv⟩,tv⟩ ?_ ?_
   ·exact⟨hr_ (amv rfl),sf_ (Qbi rfl),sf_ (afa rfl Xbh rfl rfl ti92 (by decide) rfl),sf_ (afa rfl Xcw rfl rfl ti89 (by decide) rfl),sf_ (ald rfl ti89 (by decide) rfl (nle rfl) rfl),hr_ (amv rfl),hr_ (amv rfl),sf_ (Qbi rfl),sf_ (afa rfl Xbh rfl rfl ti50 (by decide) rfl),sf_ (afa rfl Xdd rfl rfl ti48 (by decide) rfl),sf_ (ald rfl ti48 (by decide) rfl (nle rfl) rfl),hr_ (amv rfl),hr_ (aiq Xa2 Qo8 Qaj i18 j19),hr_ (afd rfl Xc7 rfl rfl ti5 (by decide) rfl),hr_ (ald_ rfl ti5 (by decide) (nle rfl) rfl),hr_ (Qoh hb27 (Qex rfl Xdi Qt0 (by decide) (by decide) rfl)),hr_ (ald rfl Qt0 (by decide) rfl (nle rfl) rfl),hr_ (amv rfl),hr_ (amv rfl),hr_ (ald rfl ti40 (by decide) rfl (nle rfl) rfl),hr_ (acq [.ref 0 7 0 0,I p0,Ql4 x14] [Qjw p2 p3 p4 p5 p6 p7 p8,Qiw p9,Qlg p10,.own 1 (p11.map Qab)] [Qjw p2 p3 p4 p5 p6 p7 p8,Qiw p9,Qlg p10,.own 1 (p11.map Qab)] (.dat 4 (x29.map Qag)) [0,1,2,3] Q8s (Qle N p0 x14 p2 p3 p4 p5 p6 p7 p8 p9 p10 p11 _ f28) (Qct (rnc (Qa2 rfl) (rnc pli (rnc pli rn0)))) (slc (Qcr (rnc (pld Qcg) (rnc (pld Qau) (rnc (Qdf rfl) (rnc (Qdf rfl) (rnc (Qdf rfl) (rnc (pld Qaq) (rnc pli rn0)))))))) (slc (Qa5 Qa6) (slc (Qa5 Qcp) (slc (Qa5 Qar) Qai)))) (slc (Qcr (rnc (pld Qcg) (rnc (pld Qau) (rnc (Qff rfl) (rnc (Qff rfl) (rnc (Qff rfl) (rnc (pld Qaq) (rnc pli rn0)))))))) (slc (Qa5 Qa6) (slc (Qa5 Qcp) (slc (Qa5 Qar) Qai)))) (pld Qaq)),hr_ (aio rfl Xcx ti52 (odt hi30a) (odt hi30b) (Xar _)),hr_ (ast rfl ti52 (by rfl) (mgt Qao g32) (nle rfl) (Qhv Qao rfl)),tv⟩
   obtain rfl:=osi h
   exact⟨_,mto (n:=43) (l':=[]) (own':=[Qjw p2 p3 p4 p5 p6 p7 p8,.own 1 ((p9.set p0.toNat x29:List (List Qaa)).map Qao),Qlg p10,.own 1 (p11.map Qab)]) [] [0,1,2,3] [Qjw p2 p3 p4 p5 p6 p7 p8,.own 1 ((p9.set p0.toNat x29:List (List Qaa)).map Qao),Qlg p10,.own 1 (p11.map Qab)] hq pn (qb (lc (rnd Qcg) (lc (rnd Qau) (lc (.rn (Qas rfl)) (lc (.rn (Qas rfl)) (lc (.rn (Qas rfl)) (lc (rnd Qaq) (lc rwl ln))))))) (qc (spr Qa6) (qc (spr Qcp) (qc (spr Qar) qn)))),Qj2 (vs:=[]) tv rfl (NLt.tup _ nl0) (by kernel_rfl) (Qdt (Qkg (nlc (NLt.of0 (nld Qcg _)) (nlc (NLt.of0 (nld Qau _)) (nlc (NLt.own _ _ _ _ (by decide)) (nlc (NLt.own _ _ _ _ (by decide)) (nlc (NLt.own _ _ _ _ (by decide)) (nlc (NLt.of0 (nld Qaq _)) (nlc (NLt.of0 nll) nl0)))))))) (Qdt (Qiv Qa6 _) (Qdt (Qiv Qcp _) (Qdt (Qiv Qar _) Qkf))))⟩
  refine bfe h (fun hb33 h=>?_) fun hb33 h=>?_
  ·refine bnq h fun x35 f34 h=>ckq h fun i36 h=>?_
   obtain⟨hi36a,hi36b⟩:=Qb6 i36
   refine bnq h fun x37 g38 h=>?_
   refine Qo1 0 (.own 7 [[.dat 5 (p2.map Qat),Qoi p3,.own 1 1 (0) p4,.own 2 4 (0) p5,.own 3 1 (0) p6,Qxo p7,I p8]]) [mv 0 (.ref 0 7 0 0),rp [(.tmp 21,.ref 0 7 0 0)] (.ref 0 7 0 0),rp [(.tmp 22,.ref 0 7 0 0)] (.ref 0 7 0 2),rp [(.tmp 23,.ref 0 7 0 2)] (.ref 0 7 0 2),rp [(.tmp 24,.ref 0 7 0 2)] (.own 1 1 (0) p4),mv 1 (I p0),mv 0 (.ref 0 7 0 0),rp [(.tmp 27,.ref 0 7 0 0)] (.ref 0 7 0 0),rp [(.tmp 28,.ref 0 7 0 0)] (.ref 0 7 0 0),rp [(.tmp 29,.ref 0 7 0 0)] (.ref 0 7 0 1),rp [(.tmp 30,.ref 0 7 0 1)] (Qoi p3),mv 1 (I p0),rp [(.tmp 31,Qoi p3),(.tmp 32,I p0)] (.dptr (Qaj x16) 0),mv 33 (.dptr (Qaj x16) 0),rp [(.tmp 34,.dptr (Qaj x16) 0)] (K .u8 x16.Kind),rb [(.tmp 7,.ref 5 7 0 0),(.tmp 35,K .u8 x16.Kind)] [(5,Qq6)] (.ref 5 7 0 3),rb [(.tmp 36,.ref 5 7 0 3)] [(5,Qq6)] (.fn (.func 85) [] []),mv 0 (.ref 0 7 0 0),mv 1 (I p0),rb [(.tmp 6,.ref 4 4 0 0)] [(4,Qv5 x14)] (Ql4 x14),⟨[(.tmp 37,.fn (.func 85) [] []),(.tmp 38,.ref 0 7 0 0),(.tmp 39,I p0),(.tmp 40,Ql4 x14)],[(0,Qjw p2 p3 p4 p5 p6 p7 p8),(1,Qiw p9),(2,Qlg p10),(3,.own 1 (p11.map Qab))],.dat 4 (x35.1.map Qag),[(0,Qjw p2 p3 p4 p5 p6 p7 p8),(1,Qiw p9),(2,.own 4 (x35.2.map Qa9)),(3,.own 1 (p11.map Qab))],false⟩,rb [(.tmp 25,.own 1 1 (0) p4),(.tmp 26,I p0)] [(1,Qiw p9)] (.ref 1 1 p0.toNat 0),⟨[(.tmp 42,.ref 1 1 p0.toNat 0),(.tmp 41,.dat 4 (x35.1.map Qag))],[(1,Qiw p9)],.any,[(1,.own 1 ((p9.set p0.toNat x35.1:List (List Qaa)).map Qao))],false⟩] (SImp.box ⟨lrf,lrf,lrf,lrf,lrf,lrf,lrf,tv⟩) ⟨tv,tv,tv,tv,tv,tv,tv,tv,tv,tv,tv,tv,tv,tv,tv,tv,tv,tv,tv,tv,⟨SImp.box ⟨lrf,lrf,lrf,lrf,lrf,lrf,lrf,tv⟩,tv,tv,tv,tv⟩,tv,⟨tv,tv⟩,tv⟩ ?_ ?_
   ·exact⟨hr_ (amv rfl),sf_ (Qbi rfl),sf_ (afa rfl Xbh rfl rfl ti92 (by decide) rfl),sf_ (afa rfl Xcw rfl rfl ti89 (by decide) rfl),sf_ (ald rfl ti89 (by decide) rfl (nle rfl) rfl),hr_ (amv rfl),hr_ (amv rfl),sf_ (Qbi rfl),sf_ (afa rfl Xbh rfl rfl ti50 (by decide) rfl),sf_ (afa rfl Xdd rfl rfl ti48 (by decide) rfl),sf_ (ald rfl ti48 (by decide) rfl (nle rfl) rfl),hr_ (amv rfl),hr_ (aiq Xa2 Qo8 Qaj i18 j19),hr_ (afd rfl Xc7 rfl rfl ti5 (by decide) rfl),hr_ (ald_ rfl ti5 (by decide) (nle rfl) rfl),hr_ (Qoh hb33 (Qex rfl Xdi Qt0 (by decide) (by decide) rfl)),hr_ (ald rfl Qt0 (by decide) rfl (nle rfl) rfl),hr_ (amv rfl),hr_ (amv rfl),hr_ (ald rfl ti40 (by decide) rfl (nle rfl) rfl),hr_ (acq [.ref 0 7 0 0,I p0,Ql4 x14] [Qjw p2 p3 p4 p5 p6 p7 p8,Qiw p9,Qlg p10,.own 1 (p11.map Qab)] [Qjw p2 p3 p4 p5 p6 p7 p8,Qiw p9,.own 4 (x35.2.map Qa9),.own 1 (p11.map Qab)] (.dat 4 (x35.1.map Qag)) [0,1,2,3] Zsl (Qso N p0 x14 p2 p3 p4 p5 p6 p7 p8 p9 p10 p11 _ f34) (Qct (rnc (Qa2 rfl) (rnc pli (rnc pli rn0)))) (slc (Qcr (rnc (pld Qcg) (rnc (pld Qau) (rnc (Qdf rfl) (rnc (Qdf rfl) (rnc (Qdf rfl) (rnc (pld Qaq) (rnc pli rn0)))))))) (slc (Qa5 Qa6) (slc (Qa5 Qcp) (slc (Qa5 Qar) Qai)))) (slc (Qcr (rnc (pld Qcg) (rnc (pld Qau) (rnc (Qff rfl) (rnc (Qff rfl) (rnc (Qff rfl) (rnc (pld Qaq) (rnc pli rn0)))))))) (slc (Qa5 Qa6) (slc (Qa5 Qcp) (slc (Qa5 Qar) Qai)))) (pld Qaq)),hr_ (aio rfl Xcx ti52 (odt hi36a) (odt hi36b) (Xar _)),hr_ (ast rfl ti52 (by rfl) (mgt Qao g38) (nle rfl) (Qhv Qao rfl)),tv⟩
   obtain rfl:=osi h
   exact⟨_,mto (n:=43) (l':=[]) (own':=[Qjw p2 p3 p4 p5 p6 p7 p8,.own 1 ((p9.set p0.toNat x35.1:List (List Qaa)).map Qao),.own 4 (x35.2.map Qa9),.own 1 (p11.map Qab)]) [] [0,1,2,3] [Qjw p2 p3 p4 p5 p6 p7 p8,.own 1 ((p9.set p0.toNat x35.1:List (List Qaa)).map Qao),.own 4 (x35.2.map Qa9),.own 1 (p11.map Qab)] hq pn (qb (lc (rnd Qcg) (lc (rnd Qau) (lc (.rn (Qas rfl)) (lc (.rn (Qas rfl)) (lc (.rn (Qas rfl)) (lc (rnd Qaq) (lc rwl ln))))))) (qc (spr Qa6) (qc (spr Qcp) (qc (spr Qar) qn)))),Qj2 (vs:=[]) tv rfl (NLt.tup _ nl0) (by kernel_rfl) (Qdt (Qkg (nlc (NLt.of0 (nld Qcg _)) (nlc (NLt.of0 (nld Qau _)) (nlc (NLt.own _ _ _ _ (by decide)) (nlc (NLt.own _ _ _ _ (by decide)) (nlc (NLt.own _ _ _ _ (by decide)) (nlc (NLt.of0 (nld Qaq _)) (nlc (NLt.of0 nll) nl0)))))))) (Qdt (Qiv Qa6 _) (Qdt (Qiv Qcp _) (Qdt (Qiv Qar _) Qkf))))⟩
  refine bfe h (fun hb39 h=>?_) fun hb39 h=>?_
  ·refine bnq h fun x41 f40 h=>ckq h fun i42 h=>?_
   obtain⟨hi42a,hi42b⟩:=Qb6 i42
   refine bnq h fun x43 g44 h=>?_
   refine Qo1 0 (.own 7 [[.dat 5 (p2.map Qat),Qoi p3,.own 1 1 (0) p4,.own 2 4 (0) p5,.own 3 1 (0) p6,Qxo p7,.any]]) [mv 0 (.ref 0 7 0 0),rp [(.tmp 21,.ref 0 7 0 0)] (.ref 0 7 0 0),rp [(.tmp 22,.ref 0 7 0 0)] (.ref 0 7 0 2),rp [(.tmp 23,.ref 0 7 0 2)] (.ref 0 7 0 2),rp [(.tmp 24,.ref 0 7 0 2)] (.own 1 1 (0) p4),mv 1 (I p0),mv 0 (.ref 0 7 0 0),rp [(.tmp 27,.ref 0 7 0 0)] (.ref 0 7 0 0),rp [(.tmp 28,.ref 0 7 0 0)] (.ref 0 7 0 0),rp [(.tmp 29,.ref 0 7 0 0)] (.ref 0 7 0 1),rp [(.tmp 30,.ref 0 7 0 1)] (Qoi p3),mv 1 (I p0),rp [(.tmp 31,Qoi p3),(.tmp 32,I p0)] (.dptr (Qaj x16) 0),mv 33 (.dptr (Qaj x16) 0),rp [(.tmp 34,.dptr (Qaj x16) 0)] (K .u8 x16.Kind),rb [(.tmp 7,.ref 5 7 0 0),(.tmp 35,K .u8 x16.Kind)] [(5,Qq6)] (.ref 5 7 0 4),rb [(.tmp 36,.ref 5 7 0 4)] [(5,Qq6)] (.fn (.func 86) [] []),mv 0 (.ref 0 7 0 0),mv 1 (I p0),rb [(.tmp 6,.ref 4 4 0 0)] [(4,Qv5 x14)] (Ql4 x14),⟨[(.tmp 37,.fn (.func 86) [] []),(.tmp 38,.ref 0 7 0 0),(.tmp 39,I p0),(.tmp 40,Ql4 x14)],[(0,Qjw p2 p3 p4 p5 p6 p7 p8),(1,Qiw p9),(2,Qlg p10),(3,.own 1 (p11.map Qab))],.dat 4 (x41.1.map Qag),[(0,Q9x p2 p3 p4 p5 p6 p7 x41),(1,Qiw p9),(2,.own 4 (x41.2.2.1.map Qa9)),(3,.own 1 (x41.2.2.2.map Qab))],false⟩,rb [(.tmp 25,.own 1 1 (0) p4),(.tmp 26,I p0)] [(1,Qiw p9)] (.ref 1 1 p0.toNat 0),⟨[(.tmp 42,.ref 1 1 p0.toNat 0),(.tmp 41,.dat 4 (x41.1.map Qag))],[(1,Qiw p9)],.any,[(1,.own 1 ((p9.set p0.toNat x41.1:List (List Qaa)).map Qao))],false⟩] (SImp.box ⟨lrf,lrf,lrf,lrf,lrf,lrf,Less.any,tv⟩) ⟨tv,tv,tv,tv,tv,tv,tv,tv,tv,tv,tv,tv,tv,tv,tv,tv,tv,tv,tv,tv,⟨SImp.box ⟨lrf,lrf,lrf,lrf,lrf,lrf,Less.any,tv⟩,tv,tv,tv,tv⟩,tv,⟨tv,tv⟩,tv⟩ ?_ ?_
   ·exact⟨hr_ (amv rfl),sf_ (Qbi rfl),sf_ (afa rfl Xbh rfl rfl ti92 (by decide) rfl),sf_ (afa rfl Xcw rfl rfl ti89 (by decide) rfl),sf_ (ald rfl ti89 (by decide) rfl (nle rfl) rfl),hr_ (amv rfl),hr_ (amv rfl),sf_ (Qbi rfl),sf_ (afa rfl Xbh rfl rfl ti50 (by decide) rfl),sf_ (afa rfl Xdd rfl rfl ti48 (by decide) rfl),sf_ (ald rfl ti48 (by decide) rfl (nle rfl) rfl),hr_ (amv rfl),hr_ (aiq Xa2 Qo8 Qaj i18 j19),hr_ (afd rfl Xc7 rfl rfl ti5 (by decide) rfl),hr_ (ald_ rfl ti5 (by decide) (nle rfl) rfl),hr_ (Qoh hb39 (Qex rfl Xdi Qt0 (by decide) (by decide) rfl)),hr_ (ald rfl Qt0 (by decide) rfl (nle rfl) rfl),hr_ (amv rfl),hr_ (amv rfl),hr_ (ald rfl ti40 (by decide) rfl (nle rfl) rfl),hr_ (acq [.ref 0 7 0 0,I p0,Ql4 x14] [Qjw p2 p3 p4 p5 p6 p7 p8,Qiw p9,Qlg p10,.own 1 (p11.map Qab)] [Q9x p2 p3 p4 p5 p6 p7 x41,Qiw p9,.own 4 (x41.2.2.1.map Qa9),.own 1 (x41.2.2.2.map Qab)] (.dat 4 (x41.1.map Qag)) [0,1,2,3] Zsk (Qqa N p0 x14 p2 p3 p4 p5 p6 p7 p8 p9 p10 p11 _ f40) (Qct (rnc (Qa2 rfl) (rnc pli (rnc pli rn0)))) (slc (Qcr (rnc (pld Qcg) (rnc (pld Qau) (rnc (Qdf rfl) (rnc (Qdf rfl) (rnc (Qdf rfl) (rnc (pld Qaq) (rnc pli rn0)))))))) (slc (Qa5 Qa6) (slc (Qa5 Qcp) (slc (Qa5 Qar) Qai)))) (slc (Qcr (rnc (pld Qcg) (rnc (pld Qau) (rnc (Qff rfl) (rnc (Qff rfl) (rnc (Qff rfl) (rnc (pld Qaq) (rnc pli rn0)))))))) (slc (Qa5 Qa6) (slc (Qa5 Qcp) (slc (Qa5 Qar) Qai)))) (pld Qaq)),hr_ (aio rfl Xcx ti52 (odt hi42a) (odt hi42b) (Xar _)),hr_ (ast rfl ti52 (by rfl) (mgt Qao g44) (nle rfl) (Qhv Qao rfl)),tv⟩
   obtain rfl:=osi h
   exact⟨_,mto (n:=43) (l':=[]) (own':=[Q9x p2 p3 p4 p5 p6 p7 x41,.own 1 ((p9.set p0.toNat x41.1:List (List Qaa)).map Qao),.own 4 (x41.2.2.1.map Qa9),.own 1 (x41.2.2.2.map Qab)]) [] [0,1,2,3] [Q9x p2 p3 p4 p5 p6 p7 x41,.own 1 ((p9.set p0.toNat x41.1:List (List Qaa)).map Qao),.own 4 (x41.2.2.1.map Qa9),.own 1 (x41.2.2.2.map Qab)] hq pn (qb (lc (rnd Qcg) (lc (rnd Qau) (lc (.rn (Qas rfl)) (lc (.rn (Qas rfl)) (lc (.rn (Qas rfl)) (lc (rnd Qaq) (lc rwl ln))))))) (qc (spr Qa6) (qc (spr Qcp) (qc (spr Qar) qn)))),Qj2 (vs:=[]) tv rfl (NLt.tup _ nl0) (by kernel_rfl) (Qdt (Qkg (nlc (NLt.of0 (nld Qcg _)) (nlc (NLt.of0 (nld Qau _)) (nlc (NLt.own _ _ _ _ (by decide)) (nlc (NLt.own _ _ _ _ (by decide)) (nlc (NLt.own _ _ _ _ (by decide)) (nlc (NLt.of0 (nld Qaq _)) (nlc (NLt.of0 nll) nl0)))))))) (Qdt (Qiv Qa6 _) (Qdt (Qiv Qcp _) (Qdt (Qiv Qar _) Qkf))))⟩
  refine bfe h (fun hb45 h=>?_) fun hb45 h=>?_
  ·refine bnq h fun x47 f46 h=>ckq h fun i48 h=>?_
   obtain⟨hi48a,hi48b⟩:=Qb6 i48
   refine bnq h fun x49 g50 h=>?_
   refine Qo1 0 (.own 7 [[.dat 5 (p2.map Qat),Qoi p3,.own 1 1 (0) p4,.own 2 4 (0) p5,.own 3 1 (0) p6,Qxo p7,I p8]]) [mv 0 (.ref 0 7 0 0),rp [(.tmp 21,.ref 0 7 0 0)] (.ref 0 7 0 0),rp [(.tmp 22,.ref 0 7 0 0)] (.ref 0 7 0 2),rp [(.tmp 23,.ref 0 7 0 2)] (.ref 0 7 0 2),rp [(.tmp 24,.ref 0 7 0 2)] (.own 1 1 (0) p4),mv 1 (I p0),mv 0 (.ref 0 7 0 0),rp [(.tmp 27,.ref 0 7 0 0)] (.ref 0 7 0 0),rp [(.tmp 28,.ref 0 7 0 0)] (.ref 0 7 0 0),rp [(.tmp 29,.ref 0 7 0 0)] (.ref 0 7 0 1),rp [(.tmp 30,.ref 0 7 0 1)] (Qoi p3),mv 1 (I p0),rp [(.tmp 31,Qoi p3),(.tmp 32,I p0)] (.dptr (Qaj x16) 0),mv 33 (.dptr (Qaj x16) 0),rp [(.tmp 34,.dptr (Qaj x16) 0)] (K .u8 x16.Kind),rb [(.tmp 7,.ref 5 7 0 0),(.tmp 35,K .u8 x16.Kind)] [(5,Qq6)] (.ref 5 7 0 5),rb [(.tmp 36,.ref 5 7 0 5)] [(5,Qq6)] (.fn (.func 87) [] []),mv 0 (.ref 0 7 0 0),mv 1 (I p0),rb [(.tmp 6,.ref 4 4 0 0)] [(4,Qv5 x14)] (Ql4 x14),⟨[(.tmp 37,.fn (.func 87) [] []),(.tmp 38,.ref 0 7 0 0),(.tmp 39,I p0),(.tmp 40,Ql4 x14)],[(0,Qjw p2 p3 p4 p5 p6 p7 p8),(1,Qiw p9),(2,Qlg p10),(3,.own 1 (p11.map Qab))],.dat 4 (x47.1.map Qag),[(0,Qjw p2 p3 p4 p5 p6 p7 p8),(1,Qiw p9),(2,.own 4 (x47.2.map Qa9)),(3,.own 1 (p11.map Qab))],false⟩,rb [(.tmp 25,.own 1 1 (0) p4),(.tmp 26,I p0)] [(1,Qiw p9)] (.ref 1 1 p0.toNat 0),⟨[(.tmp 42,.ref 1 1 p0.toNat 0),(.tmp 41,.dat 4 (x47.1.map Qag))],[(1,Qiw p9)],.any,[(1,.own 1 ((p9.set p0.toNat x47.1:List (List Qaa)).map Qao))],false⟩] (SImp.box ⟨lrf,lrf,lrf,lrf,lrf,lrf,lrf,tv⟩) ⟨tv,tv,tv,tv,tv,tv,tv,tv,tv,tv,tv,tv,tv,tv,tv,tv,tv,tv,tv,tv,⟨SImp.box ⟨lrf,lrf,lrf,lrf,lrf,lrf,lrf,tv⟩,tv,tv,tv,tv⟩,tv,⟨tv,tv⟩,tv⟩ ?_ ?_
   ·exact⟨hr_ (amv rfl),sf_ (Qbi rfl),sf_ (afa rfl Xbh rfl rfl ti92 (by decide) rfl),sf_ (afa rfl Xcw rfl rfl ti89 (by decide) rfl),sf_ (ald rfl ti89 (by decide) rfl (nle rfl) rfl),hr_ (amv rfl),hr_ (amv rfl),sf_ (Qbi rfl),sf_ (afa rfl Xbh rfl rfl ti50 (by decide) rfl),sf_ (afa rfl Xdd rfl rfl ti48 (by decide) rfl),sf_ (ald rfl ti48 (by decide) rfl (nle rfl) rfl),hr_ (amv rfl),hr_ (aiq Xa2 Qo8 Qaj i18 j19),hr_ (afd rfl Xc7 rfl rfl ti5 (by decide) rfl),hr_ (ald_ rfl ti5 (by decide) (nle rfl) rfl),hr_ (Qoh hb45 (Qex rfl Xdi Qt0 (by decide) (by decide) rfl)),hr_ (ald rfl Qt0 (by decide) rfl (nle rfl) rfl),hr_ (amv rfl),hr_ (amv rfl),hr_ (ald rfl ti40 (by decide) rfl (nle rfl) rfl),hr_ (acq [.ref 0 7 0 0,I p0,Ql4 x14] [Qjw p2 p3 p4 p5 p6 p7 p8,Qiw p9,Qlg p10,.own 1 (p11.map Qab)] [Qjw p2 p3 p4 p5 p6 p7 p8,Qiw p9,.own 4 (x47.2.map Qa9),.own 1 (p11.map Qab)] (.dat 4 (x47.1.map Qag)) [0,1,2,3] Zsj (Qru N p0 x14 p2 p3 p4 p5 p6 p7 p8 p9 p10 p11 _ f46) (Qct (rnc (Qa2 rfl) (rnc pli (rnc pli rn0)))) (slc (Qcr (rnc (pld Qcg) (rnc (pld Qau) (rnc (Qdf rfl) (rnc (Qdf rfl) (rnc (Qdf rfl) (rnc (pld Qaq) (rnc pli rn0)))))))) (slc (Qa5 Qa6) (slc (Qa5 Qcp) (slc (Qa5 Qar) Qai)))) (slc (Qcr (rnc (pld Qcg) (rnc (pld Qau) (rnc (Qff rfl) (rnc (Qff rfl) (rnc (Qff rfl) (rnc (pld Qaq) (rnc pli rn0)))))))) (slc (Qa5 Qa6) (slc (Qa5 Qcp) (slc (Qa5 Qar) Qai)))) (pld Qaq)),hr_ (aio rfl Xcx ti52 (odt hi48a) (odt hi48b) (Xar _)),hr_ (ast rfl ti52 (by rfl) (mgt Qao g50) (nle rfl) (Qhv Qao rfl)),tv⟩
   obtain rfl:=osi h
   exact⟨_,mto (n:=43) (l':=[]) (own':=[Qjw p2 p3 p4 p5 p6 p7 p8,.own 1 ((p9.set p0.toNat x47.1:List (List Qaa)).map Qao),.own 4 (x47.2.map Qa9),.own 1 (p11.map Qab)]) [] [0,1,2,3] [Qjw p2 p3 p4 p5 p6 p7 p8,.own 1 ((p9.set p0.toNat x47.1:List (List Qaa)).map Qao),.own 4 (x47.2.map Qa9),.own 1 (p11.map Qab)] hq pn (qb (lc (rnd Qcg) (lc (rnd Qau) (lc (.rn (Qas rfl)) (lc (.rn (Qas rfl)) (lc (.rn (Qas rfl)) (lc (rnd Qaq) (lc rwl ln))))))) (qc (spr Qa6) (qc (spr Qcp) (qc (spr Qar) qn)))),Qj2 (vs:=[]) tv rfl (NLt.tup _ nl0) (by kernel_rfl) (Qdt (Qkg (nlc (NLt.of0 (nld Qcg _)) (nlc (NLt.of0 (nld Qau _)) (nlc (NLt.own _ _ _ _ (by decide)) (nlc (NLt.own _ _ _ _ (by decide)) (nlc (NLt.own _ _ _ _ (by decide)) (nlc (NLt.of0 (nld Qaq _)) (nlc (NLt.of0 nll) nl0)))))))) (Qdt (Qiv Qa6 _) (Qdt (Qiv Qcp _) (Qdt (Qiv Qar _) Qkf))))⟩
  refine bfe h (fun hb51 h=>?_) fun hb51 h=>?_
  ·refine bnq h fun x53 f52 h=>ckq h fun i54 h=>?_
   obtain⟨hi54a,hi54b⟩:=Qb6 i54
   refine bnq h fun x55 g56 h=>?_
   refine Qo1 0 (.own 7 [[.dat 5 (p2.map Qat),Qoi p3,.own 1 1 (0) p4,.own 2 4 (0) p5,.own 3 1 (0) p6,Qxo p7,I p8]]) [mv 0 (.ref 0 7 0 0),rp [(.tmp 21,.ref 0 7 0 0)] (.ref 0 7 0 0),rp [(.tmp 22,.ref 0 7 0 0)] (.ref 0 7 0 2),rp [(.tmp 23,.ref 0 7 0 2)] (.ref 0 7 0 2),rp [(.tmp 24,.ref 0 7 0 2)] (.own 1 1 (0) p4),mv 1 (I p0),mv 0 (.ref 0 7 0 0),rp [(.tmp 27,.ref 0 7 0 0)] (.ref 0 7 0 0),rp [(.tmp 28,.ref 0 7 0 0)] (.ref 0 7 0 0),rp [(.tmp 29,.ref 0 7 0 0)] (.ref 0 7 0 1),rp [(.tmp 30,.ref 0 7 0 1)] (Qoi p3),mv 1 (I p0),rp [(.tmp 31,Qoi p3),(.tmp 32,I p0)] (.dptr (Qaj x16) 0),mv 33 (.dptr (Qaj x16) 0),rp [(.tmp 34,.dptr (Qaj x16) 0)] (K .u8 x16.Kind),rb [(.tmp 7,.ref 5 7 0 0),(.tmp 35,K .u8 x16.Kind)] [(5,Qq6)] (.ref 5 7 0 6),rb [(.tmp 36,.ref 5 7 0 6)] [(5,Qq6)] (.fn (.func 84) [] []),mv 0 (.ref 0 7 0 0),mv 1 (I p0),rb [(.tmp 6,.ref 4 4 0 0)] [(4,Qv5 x14)] (Ql4 x14),⟨[(.tmp 37,.fn (.func 84) [] []),(.tmp 38,.ref 0 7 0 0),(.tmp 39,I p0),(.tmp 40,Ql4 x14)],[(0,Qjw p2 p3 p4 p5 p6 p7 p8),(1,Qiw p9),(2,Qlg p10),(3,.own 1 (p11.map Qab))],.dat 4 (x53.map Qag),[(0,Qjw p2 p3 p4 p5 p6 p7 p8),(1,Qiw p9),(2,Qlg p10),(3,.own 1 (p11.map Qab))],false⟩,rb [(.tmp 25,.own 1 1 (0) p4),(.tmp 26,I p0)] [(1,Qiw p9)] (.ref 1 1 p0.toNat 0),⟨[(.tmp 42,.ref 1 1 p0.toNat 0),(.tmp 41,.dat 4 (x53.map Qag))],[(1,Qiw p9)],.any,[(1,.own 1 ((p9.set p0.toNat x53:List (List Qaa)).map Qao))],false⟩] (SImp.box ⟨lrf,lrf,lrf,lrf,lrf,lrf,lrf,tv⟩) ⟨tv,tv,tv,tv,tv,tv,tv,tv,tv,tv,tv,tv,tv,tv,tv,tv,tv,tv,tv,tv,⟨SImp.box ⟨lrf,lrf,lrf,lrf,lrf,lrf,lrf,tv⟩,tv,tv,tv,tv⟩,tv,⟨tv,tv⟩,tv⟩ ?_ ?_
   ·exact⟨hr_ (amv rfl),sf_ (Qbi rfl),sf_ (afa rfl Xbh rfl rfl ti92 (by decide) rfl),sf_ (afa rfl Xcw rfl rfl ti89 (by decide) rfl),sf_ (ald rfl ti89 (by decide) rfl (nle rfl) rfl),hr_ (amv rfl),hr_ (amv rfl),sf_ (Qbi rfl),sf_ (afa rfl Xbh rfl rfl ti50 (by decide) rfl),sf_ (afa rfl Xdd rfl rfl ti48 (by decide) rfl),sf_ (ald rfl ti48 (by decide) rfl (nle rfl) rfl),hr_ (amv rfl),hr_ (aiq Xa2 Qo8 Qaj i18 j19),hr_ (afd rfl Xc7 rfl rfl ti5 (by decide) rfl),hr_ (ald_ rfl ti5 (by decide) (nle rfl) rfl),hr_ (Qoh hb51 (Qex rfl Xdi Qt0 (by decide) (by decide) rfl)),hr_ (ald rfl Qt0 (by decide) rfl (nle rfl) rfl),hr_ (amv rfl),hr_ (amv rfl),hr_ (ald rfl ti40 (by decide) rfl (nle rfl) rfl),hr_ (acq [.ref 0 7 0 0,I p0,Ql4 x14] [Qjw p2 p3 p4 p5 p6 p7 p8,Qiw p9,Qlg p10,.own 1 (p11.map Qab)] [Qjw p2 p3 p4 p5 p6 p7 p8,Qiw p9,Qlg p10,.own 1 (p11.map Qab)] (.dat 4 (x53.map Qag)) [0,1,2,3] Q8s (Qle N p0 x14 p2 p3 p4 p5 p6 p7 p8 p9 p10 p11 _ f52) (Qct (rnc (Qa2 rfl) (rnc pli (rnc pli rn0)))) (slc (Qcr (rnc (pld Qcg) (rnc (pld Qau) (rnc (Qdf rfl) (rnc (Qdf rfl) (rnc (Qdf rfl) (rnc (pld Qaq) (rnc pli rn0)))))))) (slc (Qa5 Qa6) (slc (Qa5 Qcp) (slc (Qa5 Qar) Qai)))) (slc (Qcr (rnc (pld Qcg) (rnc (pld Qau) (rnc (Qff rfl) (rnc (Qff rfl) (rnc (Qff rfl) (rnc (pld Qaq) (rnc pli rn0)))))))) (slc (Qa5 Qa6) (slc (Qa5 Qcp) (slc (Qa5 Qar) Qai)))) (pld Qaq)),hr_ (aio rfl Xcx ti52 (odt hi54a) (odt hi54b) (Xar _)),hr_ (ast rfl ti52 (by rfl) (mgt Qao g56) (nle rfl) (Qhv Qao rfl)),tv⟩
   obtain rfl:=osi h
   exact⟨_,mto (n:=43) (l':=[]) (own':=[Qjw p2 p3 p4 p5 p6 p7 p8,.own 1 ((p9.set p0.toNat x53:List (List Qaa)).map Qao),Qlg p10,.own 1 (p11.map Qab)]) [] [0,1,2,3] [Qjw p2 p3 p4 p5 p6 p7 p8,.own 1 ((p9.set p0.toNat x53:List (List Qaa)).map Qao),Qlg p10,.own 1 (p11.map Qab)] hq pn (qb (lc (rnd Qcg) (lc (rnd Qau) (lc (.rn (Qas rfl)) (lc (.rn (Qas rfl)) (lc (.rn (Qas rfl)) (lc (rnd Qaq) (lc rwl ln))))))) (qc (spr Qa6) (qc (spr Qcp) (qc (spr Qar) qn)))),Qj2 (vs:=[]) tv rfl (NLt.tup _ nl0) (by kernel_rfl) (Qdt (Qkg (nlc (NLt.of0 (nld Qcg _)) (nlc (NLt.of0 (nld Qau _)) (nlc (NLt.own _ _ _ _ (by decide)) (nlc (NLt.own _ _ _ _ (by decide)) (nlc (NLt.own _ _ _ _ (by decide)) (nlc (NLt.of0 (nld Qaq _)) (nlc (NLt.of0 nll) nl0)))))))) (Qdt (Qiv Qa6 _) (Qdt (Qiv Qcp _) (Qdt (Qiv Qar _) Qkf))))⟩
  cases h
 refine wxz<|bfq h (fun c57 h=>?_) fun c57 h=>?_
 ·refine Znz 3 [mv 1 (I p0),rp [(.tmp 17,I p0)] (.agg [I p0]),rp [(.tmp 18,.agg [I p0])] (.lit (.iface 168 (.agg #[.int .i64 p0]))),⟨[(.tmp 19,.lit (.iface 168 (.agg #[.int .i64 p0])))],[],.any,[],false⟩] (by exact⟨by kernel_rfl,by kernel_rfl⟩) rfl (by kernel_rfl) rfl (Q77 rfl) (⟨fun _ _=>amv rfl,fun _ _=>Qbt (vs:=[I p0]) rfl Zxv Zvo rfl (by rfl) rfl,fun _ _=>awk (rd':=[(.tmp 18,.lit (.agg #[.int .i64 p0]))]) ⟨rfl,Less.lits [.int .i64 p0],tv⟩ (Q9a rfl Xe5),fun _ h=>absurd rfl h,tv⟩) ?_
  obtain rfl:=osi h
  exact rfl
 exact Qah<|thn<|⟨(),h,mto (n:=43) [(0,.ref 0 7 0 0),(1,I p0),(6,.ref 7 4 0 0)] [0,1,2,3,7] [Qjw p2 p3 p4 p5 p6 p7 p8,Qiw p9,Qlg p10,.own 1 (p11.map Qab),Qv5 x14] hq (prr (pw (prr pn))) (qb (lc (rnd Qcg) (lc (rnd Qau) (lc (.rn (Qas rfl)) (lc (.rn (Qas rfl)) (lc (.rn (Qas rfl)) (lc (rnd Qaq) (lc rwl ln))))))) (qc (spr Qa6) (qc (spr Qcp) (qc (spr Qar) (qbi qn)))))⟩
def Qqc (N:Nat) (p0 p1:Int) (p2:List GRow) (p3:List Qam) (p4 p5 p6:Nat) (p7:List Qaa) (p8:Int) (p9:List (List Qaa)) (p10:List Qbp) (p11:List Int) (r:(Int×(List (List Qaa))×(List Qbp)×(List Int))) (h:Qeq N p0 p1 p2 p3 p4 p5 p6 p7 p8 p9 p10 p11=some (.inl r)):Spec prog 64 [.ref 0 7 0 0,I p0,I p1] [Qjw p2 p3 p4 p5 p6 p7 p8,Qiw p9,Qlg p10,.own 1 (p11.map Qab)] (.tup []) [.own 7 [[.dat 5 (p2.map Qat),.dat 7 (p3.map Qaj),.own 1 1 (0) p4,.own 2 4 (0) p5,.own 3 1 (0) p6,.dat 4 (p7.map Qag),I r.1]],.own 1 (r.2.1.map Qao),.own 4 (r.2.2.1.map Qa9),.own 1 (r.2.2.2.map Qab)]:=Qmf N p0 p1 p2 p3 p4 p5 p6 p7 p8 p9 p10 p11 _ h
def Qqb (N:Nat) (p0 p1:Int) (p2:List GRow) (p3:List Qam) (p4 p5 p6:Nat) (p7:List Qaa) (p8:Int) (p9:List (List Qaa)) (p10:List Qbp) (p11:List Int) (r:Int) (h:Qeq N p0 p1 p2 p3 p4 p5 p6 p7 p8 p9 p10 p11=some (.inr r)):Zoa prog 64 [.ref 0 7 0 0,I p0,I p1] [Qjw p2 p3 p4 p5 p6 p7 p8,Qiw p9,Qlg p10,.own 1 (p11.map Qab)] (.iface 168 (.agg #[.int .i64 r])):=Qmf N p0 p1 p2 p3 p4 p5 p6 p7 p8 p9 p10 p11 _ h
abbrev Zuj:Slot:=.own 1 [[.lit (.pointer none)]]
def Qub (v0:Int):DPan prog 63 [1,1] (.iface 168 (.agg #[.int .i64 v0])) [[.lit (.pointer none)],[I v0]]:=by
 refine Qwj (t:=5) (args:=[.ref 0 1 0 0,.ref 1 1 0 0]) func63 rfl (fun _ _=>rfl) (by kernel_rfl) Zro 2 (nle rfl) (fun X φ0 w0 hq=>?_)
 refine Q3v<|Qaf ?_
 exact wx tbk [(0,rp [(.tmp 5,.lit (.iface 168 (.agg #[.int .i64 v0]))),(.const .nilIface,.lit .nilIface)] (B false))] ⟨Q89 rfl underlying20,tv⟩<|wfa<|wx tbk [(0,rp [(.tmp 5,.lit (.iface 168 (.agg #[.int .i64 v0])))] (.tup [.agg [I v0],B true]))] ⟨Q86 (r:=.lit (.tuple #[.agg #[.int .i64 v0],.bool true])) (Less.trans Zh8 (Less.tup ⟨Zh9 (l:=[.int .i64 v0]),lrf,tv⟩)) (Q3x rfl Xe5),tv⟩<|wtr<|wxz<|wxe1<|bln<|⟨_,mto (n:=13) (l':=[]) (own':=[Zuj,.own 1 [[I v0]]]) [] [0,1] [Zuj,.own 1 [[I v0]]] hq pn (qbi (qbi qn)),Zip (vs:=[]) tv rfl (NLt.tup _ nl0) (by kernel_rfl) (Qdt (Qkg (nlt0 (nlc nll nl0))) (Qdt (Qkg (nlt0 (nlc nll nl0))) Qkf))⟩
end
section
def Qfs (N:Nat) (p0:GNet) (p1:List Int) (p2:List Qaa) (k16:(List (List Qaa))×(List Qbp)×(List Int)×Int->Option (Int⊕(Int×Int×(List (List Qaa))×(List Qbp)×(List Int)))):Nat->Int->(List (List Qaa))->(List Qbp)->(List Int)->Int->Option (Int⊕(Int×Int×(List (List Qaa))×(List Qbp)×(List Int)))
 |0,_,_,_,_,_=>none
 |n27+1,y17,y18,y19,y20,y21=>bif decide (y17<(p0.Elements.length:Int)) then (getI p0.Elements y17).bind fun x29=>(getI p1 y17).bind fun x33=>(Qin N x29 x33).bind fun x38=>(Qeq N y17 x38 p0.Table p0.Elements ((p0.Elements.length:Int).toNat) ((p0.Elements.length:Int).toNat) p1.length p2 y21 y18 y19 y20).bind (Sum.elim (fun x41=>Qfs N p0 p1 p2 k16 n27 (w64 (y17+1)) x41.2.1 x41.2.2.1 x41.2.2.2 x41.1) (fun x42=>some (.inl x42))) else k16 (y18,y19,y20,y21)
def Qjf (N:Nat) (p0:GNet) (p1:List Int) (p2:List Qaa):Option (Int⊕(Int×Int×(List (List Qaa))×(List Qbp)×(List Int))):=chk (decide (0<=(p0.Elements.length:Int))&&decide (24*(p0.Elements.length:Int)<=281474976710656)&&decide ((p0.Elements.length:Int)<=9223372036854775807))<|chk (decide (0<=(p0.Elements.length:Int))&&decide (32*(p0.Elements.length:Int)<=281474976710656)&&decide ((p0.Elements.length:Int)<=9223372036854775807))<|(Qh7 N p1).bind fun _=>Qb0 (fun ⟨y12,y13,y14,y15⟩=>some (.inr ((-1),y15,y12,y13,y14))) fun k16:(List (List Qaa))×(List Qbp)×(List Int)×Int->Option (Int⊕(Int×Int×(List (List Qaa))×(List Qbp)×(List Int)))=>Qfs N p0 p1 p2 k16 N 0 (List.replicate (p0.Elements.length:Int).toNat ([])) (List.replicate (p0.Elements.length:Int).toNat (⟨0,0,0,0⟩:Qbp)) p1 0
abbrev Zcd (p0:GNet):AV:=.dat 5 (p0.Table.map Qat)
abbrev Qz3 (p0:GNet):AV:=.dat 7 (p0.Elements.map Qaj)
abbrev Zko (p0:GNet):AV:=.agg [Zcd p0,Qz3 p0]
abbrev Q36 (p2:List Qaa):AV:=.dat 4 (p2.map Qag)
abbrev Zug (p0:GNet):Slot:=.own 1 ((List.replicate (p0.Elements.length:Int).toNat ([]):List (List Qaa)).map Qao)
abbrev Zuf (p0:GNet):Slot:=.own 4 ((List.replicate (p0.Elements.length:Int).toNat (⟨0,0,0,0⟩:Qbp):List Qbp).map Qa9)
abbrev Zxc (p0:GNet) (p1:List Int):AV:=.agg [.own 3 1 (0) ((p0.Elements.length:Int).toNat),.own 4 4 (0) ((p0.Elements.length:Int).toNat),.own 5 1 (0) p1.length]
abbrev Zcc (p0:GNet):Slot:=.own 2 [[Zcd p0,Qz3 p0]]
abbrev Qv2:Slot:=.own 1 [[.ref 6 7 (0) 0]]
abbrev Zey (p0:GNet) (p1:List Int) (p2:List Qaa) (y15:Int):Slot:=.own 7 [[Zcd p0,Qz3 p0,.own 3 1 (0) ((p0.Elements.length:Int).toNat),.own 4 4 (0) ((p0.Elements.length:Int).toNat),.own 5 1 (0) p1.length,Q36 p2,I y15]]
abbrev Zof (p0:GNet) (p1:List Int) (p2:List Qaa):Slot:=.own 7 [[Zcd p0,Qz3 p0,.own 3 1 (0) ((p0.Elements.length:Int).toNat),.own 4 4 (0) ((p0.Elements.length:Int).toNat),.own 5 1 (0) p1.length,Q36 p2,I (0)]]
abbrev Qxm (y18:List (List Qaa)):Slot:=.own 1 (y18.map Qao)
abbrev Qxl (y19:List Qbp):Slot:=.own 4 (y19.map Qa9)
abbrev Qxn (p0:GNet) (p1:List Int) (p2:List Qaa) (y21:Int):Slot:=.own 7 [[Zcd p0,Qz3 p0,.own 3 1 (0) ((p0.Elements.length:Int).toNat),.own 4 4 (0) ((p0.Elements.length:Int).toNat),.own 5 1 (0) p1.length,Q36 p2,I y21]]
abbrev Q1s (x29:Qam):AV:=.agg [K .u8 x29.Kind,.dat 2 (x29.From.map Qew),I x29.Level,I x29.Amount,I x29.Wide,I x29.Narrow,.dat 1 (x29.Weights.map Qab)]
abbrev Zez (p0:GNet) (p1:List Int) (p2:List Qaa) (x41:(Int×(List (List Qaa))×(List Qbp)×(List Int))):Slot:=.own 7 [[Zcd p0,Qz3 p0,.own 3 1 (0) ((p0.Elements.length:Int).toNat),.own 4 4 (0) ((p0.Elements.length:Int).toNat),.own 5 1 (0) p1.length,Q36 p2,I x41.1]]
abbrev Zuh:Slot:=.own 1 [[.lit (.pointer none)]]
def Qqd (N:Nat) (p0:GNet) (p1:List Int) (p2:List Qaa) (r:(Int⊕(Int×Int×(List (List Qaa))×(List Qbp)×(List Int)))) (h:Qjf N p0 p1 p2=some r):Spec prog 41 [Zko p0,.dat 1 (p1.map Qab),Q36 p2] [] ((Sum.elim (fun r=>(.tup [.lit (.pointer none),I r])) (fun r=>(.tup [.ref 2 7 (0) 0,I r.1])):(Int⊕(Int×Int×(List (List Qaa))×(List Qbp)×(List Int)))->AV) r) ((Sum.elim (fun r=>[.own 1 [[.lit (.pointer none)]],.own 1 [[I r]]]) (fun r=>[.own 1 [[.ref 2 7 (0) 0]],.own 1 [[I r.1]],.own 7 [[.dat 5 (p0.Table.map Qat),.dat 7 (p0.Elements.map Qaj),.own 3 1 (0) ((p0.Elements.length:Int).toNat),.own 4 4 (0) ((p0.Elements.length:Int).toNat),.own 5 1 (0) p1.length,.dat 4 (p2.map Qag),I r.2.1]],.own 1 (r.2.2.1.map Qao),.own 4 (r.2.2.2.1.map Qa9),.own 1 (r.2.2.2.2.map Qab)]):(Int⊕(Int×Int×(List (List Qaa))×(List Qbp)×(List Int)))->List Slot) r):=by
 refine Q40 func41 rfl (fun _ _ _ hq hd0=>?_)
 unfold Qjf at h
 refine Zb4 (k:=6) hd0 (fun n hn=>hq n (Xcn (nle rfl) hn))<|wxz1<|thn<|Zb4 (k:=6) hd0 (fun n hn=>hq n (Xcn (nle rfl) hn))<|ckq h fun hm8 h=>ckq h fun hm9 h=>bnq h fun x11 f10 h=>wy1 tbk [(3,rp _ _),(4,⟨[(.tmp 13,I (p0.Elements.length:Int)),(.tmp 13,I (p0.Elements.length:Int))],[(3,.unused)],.own 3 1 (0) ((p0.Elements.length:Int).toNat),[(3,Zug p0)],false⟩),(7,rp _ _),(8,⟨[(.tmp 17,I (p0.Elements.length:Int)),(.tmp 17,I (p0.Elements.length:Int))],[(4,.unused)],.own 4 4 (0) ((p0.Elements.length:Int).toNat),[(4,Zuf p0)],false⟩),(10,⟨_,_,_,_,false⟩),(11,rp _ _),(13,rp _ _)] ⟨alq 7 Qaj p0.Elements Xa2,Zj9 (c:=Qao) (v:=([])) (z:=[nilS]) (k:=(p0.Elements.length:Int).toNat) ⟨Less.nil,tv⟩ (Qsh rfl Xcx te52 tz52 rfl (Zd8 hm8) rfl (Zd7 hm8) (Zb8 hm8) rfl),alq 7 Qaj p0.Elements Xa2,Qsh rfl Xdc te42 tz42 rfl (Zd8 hm9) rfl (Zd7 hm9) (Zb8 hm9) (Q75 Qa9 rfl),acq [.dat 1 (p1.map Qab)] [] [.own 1 (p1.map Qab)] (.own 5 1 (0) p1.length) [5] Zsz (Qpa N p1 _ f10) pli Qai (slc (Qa5 Qar) Qai) (Qff rfl),Qbt (vs:=[.own 3 1 (0) ((p0.Elements.length:Int).toNat),.own 4 4 (0) ((p0.Elements.length:Int).toNat),.own 5 1 (0) p1.length]) rfl ts92 tz92 rfl (by rfl) rfl,Qbt (vs:=[Zko p0,Zxc p0 p1,Q36 p2]) rfl Zxy Zvq rfl (by rfl) rfl,tv⟩<|thn<|Zds (k:=6) [(1,1),(2,1)] hd0 (fun n hn=>hq n (Xcn (nle rfl) hn)) Zsy rfl rfl (by kernel_rfl) (by kernel_rfl) (by kernel_rfl) Qvf (fun φ1 w1 hφ1 hd1=>?_)
 refine wjq h (fun ⟨y12,y13,y14,y15⟩=>⟨mk 45 [(6,.ref 1 1 0 0),(7,.ref 2 1 0 0)],[Zcc p0,Qv2,.own 1 [[I 0]],.own 1 (y12.map Qao),.own 4 (y13.map Qa9),.own 1 (y14.map Qab),Zey p0 p1 p2 y15]⟩) (fun t h=>?_) fun k16 h=>?_
 ·obtain⟨y12,y13,y14,y15⟩:=t
  refine wxz<|Qad ?_
  obtain rfl:=osi h
  exact⟨_,mto (n:=45) (l':=[(6,.ref 0 1 0 0),(7,.ref 1 1 0 0)]) (own':=[.own 1 [[.ref 2 7 0 0]],.own 1 [[I (-1)]],Zey p0 p1 p2 y15,.own 1 (y12.map Qao),.own 4 (y13.map Qa9),.own 1 (y14.map Qab)]) [(6,.ref 1 1 0 0),(7,.ref 2 1 0 0)] [1,2,6,3,4,5] [Qv2,.own 1 [[I (-1)]],Zey p0 p1 p2 y15,.own 1 (y12.map Qao),.own 4 (y13.map Qa9),.own 1 (y14.map Qab)] hq (prr (prr pn)) (qb (lc (.rn (rqr rfl)) ln) (qbi (qb (lc (rnd Qcg) (lc (rnd Qau) (lc (.rn (Qas rfl)) (lc (.rn (Qas rfl)) (lc (.rn (Qas rfl)) (lc (rnd Qaq) (lc rwl ln))))))) (qc (spr Qa6) (qc (spr Qcp) (qc (spr Qar) qn)))))),Qj2 (vs:=[.ref 2 7 0 0,I (-1)]) ⟨Qbv (n:=0) (m:=1) (j:=0) (i:=0) (xs:=[[.ref 2 7 0 0]]) (by kernel_rfl) (by kernel_rfl) Qz5 (by decide) rfl (nle rfl) rfl,Qbv (n:=1) (m:=1) (j:=0) (i:=0) (xs:=[[I (-1)]]) (by kernel_rfl) (by kernel_rfl) ti3 (by decide) rfl (nle rfl) rfl,tv⟩ rfl (NLt.tup _ (nlc (NLt.ref _ _ _ _ (by decide)) (nlc (NLt.of0 nll) nl0))) (by kernel_rfl) (Qdt (Qkg (nlc (NLt.ref _ _ _ _ (by decide)) nl0)) (Qdt (Qkg (nlc (NLt.of0 nll) nl0)) (Qdt (Qkg (nlc (NLt.of0 (nld Qcg _)) (nlc (NLt.of0 (nld Qau _)) (nlc (NLt.own _ _ _ _ (by decide)) (nlc (NLt.own _ _ _ _ (by decide)) (nlc (NLt.own _ _ _ _ (by decide)) (nlc (NLt.of0 (nld Qaq _)) (nlc (NLt.of0 nll) nl0)))))))) (Qdt (Qiv Qa6 _) (Qdt (Qiv Qcp _) (Qdt (Qiv Qar _) Qkf))))))⟩
 refine wx tbk [(2,rp _ _)] ⟨alq 7 Qaj p0.Elements Xa2,tv⟩<|Qaf ?_
 refine wmr (mto (n:=45) (l':=[(1,.dat 1 (p1.map Qab)),(6,.ref 1 1 0 0),(7,.ref 2 1 0 0),(27,Qz3 p0),(28,I (p0.Elements.length:Int)),(29,I 0)]) (own':=[Zcc p0,Qv2,.own 1 [[I 0]],.own 1 ((List.replicate (p0.Elements.length:Int).toNat ([]):List (List Qaa)).map Qao),.own 4 ((List.replicate (p0.Elements.length:Int).toNat (⟨0,0,0,0⟩:Qbp):List Qbp).map Qa9),.own 1 (p1.map Qab),Zof p0 p1 p2]) [(1,.dat 1 (p1.map Qab)),(6,.ref 1 1 0 0),(7,.ref 2 1 0 0),(27,Qz3 p0),(28,I (p0.Elements.length:Int)),(29,I 0)] [0,1,2,3,4,5,6] [Zcc p0,Qv2,.own 1 [[I 0]],Zug p0,Zuf p0,.own 1 (p1.map Qab),Zof p0 p1 p2] hφ1 (pqi (prr (prr (pqi (pw (pw pn)))))) (qbi (qb (lc (.rn (rqr rfl)) ln) (qbi (qc (spr Qa6) (qc (spr Qcp) (qc (spr Qar) (qb (lc (rnd Qcg) (lc (rnd Qau) (lc (.rn (Qas rfl)) (lc (.rn (Qas rfl)) (lc (.rn (Qas rfl)) (lc (rnd Qaq) (lc rwl ln))))))) qn)))))))) ?_
 refine Qbf (τ:=Int×(List (List Qaa))×(List Qbp)×(List Int)×Int) (fun n t=>Qfs N p0 p1 p2 k16 n t.1 t.2.1 t.2.2.1 t.2.2.2.1 t.2.2.2.2=some r) (fun ⟨y17,y18,y19,y20,y21⟩=>⟨mk 45 [(1,.dat 1 (p1.map Qab)),(6,.ref 1 1 0 0),(7,.ref 2 1 0 0),(27,Qz3 p0),(28,I (p0.Elements.length:Int)),(29,I y17)],[Zcc p0,Qv2,.own 1 [[I 0]],Qxm y18,Qxl y19,.own 1 (y20.map Qab),Qxn p0 p1 p2 y21]⟩) (fun t h=>by rw[Qfs] at h;cases h) (fun n27 ih t h=>?_) N (0,List.replicate (p0.Elements.length:Int).toNat ([]),List.replicate (p0.Elements.length:Int).toNat (⟨0,0,0,0⟩:Qbp),p1,0) h
 obtain⟨y17,y18,y19,y20,y21⟩:=t
 rw[Qfs] at h
 refine wxz<|wsq<|bfq h (fun c28 h=>?_) fun c28 h=>?_
 ·refine Qah<|thn<|wsq<|Qaf ?_
  refine bgq h fun x29 i31 j32 h=>wx tbk [(1,rp _ _)] ⟨aiq Xa2 Qo8 Qaj i31 j32,tv⟩<|bgq h fun x33 i35 j36 h=>bnq h fun x38 f37 h=>bnq h fun x40 f39 h=>?_
  rcases x40 with x41 |x42
  ·replace h:=Q72 h
   exact wy1 tbk [(5,rp _ _),(7,rp _ _),(8,⟨_,_,_,_,false⟩)] ⟨aiq Xag ti3 Qab i35 j36,apw Zix (Qmv N x29 x33 _ f37),acq [.ref 6 7 0 0,I y17,I x38] [Qxn p0 p1 p2 y21,Qxm y18,Qxl y19,.own 1 (y20.map Qab)] [Zez p0 p1 p2 x41,.own 1 (x41.2.1.map Qao),.own 4 (x41.2.2.1.map Qa9),.own 1 (x41.2.2.2.map Qab)] (.tup []) [6,3,4,5] Ziy (Qqc N y17 x38 p0.Table p0.Elements ((p0.Elements.length:Int).toNat) ((p0.Elements.length:Int).toNat) p1.length p2 y21 y18 y19 y20 _ f39) (Qct (rnc (Qa2 rfl) (rncc rn0))) (slc (Qcr (rnc (pld Qcg) (rnc (pld Qau) (rnc (Qdf rfl) (rnc (Qdf rfl) (rnc (Qdf rfl) (rnc (pld Qaq) (rnc pli rn0)))))))) (slc (Qa5 Qa6) (slc (Qa5 Qcp) (slc (Qa5 Qar) Qai)))) (slc (Qcr (rnc (pld Qcg) (rnc (pld Qau) (rnc (Qff rfl) (rnc (Qff rfl) (rnc (Qff rfl) (rnc (pld Qaq) (rnc pli rn0)))))))) (slc (Qa5 Qa6) (slc (Qa5 Qcp) (slc (Qa5 Qar) Qai)))) pli,tv⟩<|bln<|thn<|wxz1<|thn<|arm (mto (n:=45) [(1,.dat 1 (p1.map Qab)),(6,.ref 1 1 0 0),(7,.ref 2 1 0 0),(27,Qz3 p0),(28,I (p0.Elements.length:Int)),(29,I (w64 (y17+1)))] [0,1,2,3,4,5,6] [Zcc p0,Qv2,.own 1 [[I 0]],.own 1 (x41.2.1.map Qao),.own 4 (x41.2.2.1.map Qa9),.own 1 (x41.2.2.2.map Qab),Zez p0 p1 p2 x41] hφ1 (pqi (prr (prr (pqi (pw (pw pn)))))) (qbi (qb (lc (.rn (rqr rfl)) ln) (qbi (qc (spr Qa6) (qc (spr Qcp) (qc (spr Qar) (qb (lc (rnd Qcg) (lc (rnd Qau) (lc (.rn (Qas rfl)) (lc (.rn (Qas rfl)) (lc (.rn (Qas rfl)) (lc (rnd Qaq) (lc rwl ln))))))) qn)))))))) (ih (w64 (y17+1),x41.2.1,x41.2.2.1,x41.2.2.2,x41.1) h)
  replace h:=Q71 h
  refine Zj1 8 [rb [(.tmp 6,.ref 1 1 0 0)] [(1,Qv2)] (.ref 6 7 0 0),mv 8 (I y17),rb [(.tmp 9,.ref 7 7 0 0)] [(7,.own 7 [[K .u8 x29.Kind,.dat 2 (x29.From.map Qew),I x29.Level,I x29.Amount,I x29.Wide,I x29.Narrow,.dat 1 (x29.Weights.map Qab)]])] (Q1s x29),mv 1 (.dat 1 (p1.map Qab)),mv 8 (I y17),rp [(.tmp 37,.dat 1 (p1.map Qab)),(.tmp 38,I y17)] (.dptr (Qab x33) 0),rp [(.tmp 39,.dptr (Qab x33) 0)] (I x33),rp [fu 65,(.tmp 36,Q1s x29),(.tmp 40,I x33)] (I x38),⟨[fu 64,(.tmp 34,.ref 6 7 0 0),(.tmp 35,I y17),(.tmp 41,I x38),(.tmp 36,Q1s x29),(.tmp 37,.dat 1 (p1.map Qab)),(.tmp 38,I y17),(.tmp 39,.dptr (Qab x33) 0),(.tmp 40,I x33)],[(6,Qxn p0 p1 p2 y21),(3,Qxm y18),(4,Qxl y19),(5,.own 1 (y20.map Qab))],.any,[(6,.dead),(3,.dead),(4,.dead),(5,.dead)],false⟩] (by exact⟨by kernel_rfl,by kernel_rfl⟩) rfl (by kernel_rfl) rfl (PStep.to (by rfl) (PStep.more (rd':=[(.tmp 36,Q1s x29),(.tmp 37,.dat 1 (p1.map Qab)),(.tmp 38,I y17),(.tmp 39,.dptr (Qab x33) 0),(.tmp 40,I x33)]) (Q78 (first:=[]) (cap:=[]) (vs:=[.ref 6 7 0 0,I y17,I x38]) (σr:=[Qxn p0 p1 p2 y21,Qxm y18,Qxl y19,.own 1 (y20.map Qab)]) [6,3,4,5] rfl Ziy (Qqb N y17 x38 p0.Table p0.Elements ((p0.Elements.length:Int).toNat) ((p0.Elements.length:Int).toNat) p1.length p2 y21 y18 y19 y20 _ f39) rfl (Qct (rnc (Qa2 rfl) (rncc rn0))) (slc (Qcr (rnc (pld Qcg) (rnc (pld Qau) (rnc (Qdf rfl) (rnc (Qdf rfl) (rnc (Qdf rfl) (rnc (pld Qaq) (rnc pli rn0)))))))) (slc (Qa5 Qa6) (slc (Qa5 Qcp) (slc (Qa5 Qar) Qai)))) rfl rfl rfl))) (⟨fun _ _=>ald rfl Qz5 (by decide) rfl (nle rfl) rfl,fun _ _=>amv rfl,fun _ _=>ald rfl Qo8 (by decide) rfl (nle rfl) rfl,fun _ _=>amv rfl,fun _ _=>amv rfl,fun _ _=>aiq Xag ti3 Qab i35 j36,fun _ _=>ald_ rfl ti3 (by decide) (nle rfl) rfl,fun _ _=>apw Zix (Qmv N x29 x33 _ f37),fun _ h=>absurd rfl h,tv⟩) ?_ (by kernel_rfl) (by kernel_rfl) (by kernel_rfl)
  obtain rfl:=osi h
  exact⟨_,[[.lit (.pointer none)],[I x42]],rfl,Qub x42,Za4 (nlc nll nl0) (Za4 (nlc nll nl0) Zrq),by kernel_rfl,_,mto (n:=45) (l':=[(6,.ref 0 1 0 0),(7,.ref 1 1 0 0)]) (own':=[Zuh,.own 1 [[I x42]]]) [(6,.ref 1 1 0 0),(7,.ref 2 1 0 0)] [1,2] [Zuh,.own 1 [[I x42]]] hq (prr (prr pn)) (qbi (qbi qn)),Qj2 (vs:=[.lit (.pointer none),I x42]) ⟨Qbv (n:=0) (m:=1) (j:=0) (i:=0) (xs:=[[.lit (.pointer none)]]) (by kernel_rfl) (by kernel_rfl) Qz5 (by decide) rfl (nle rfl) rfl,Qbv (n:=1) (m:=1) (j:=0) (i:=0) (xs:=[[I x42]]) (by kernel_rfl) (by kernel_rfl) ti3 (by decide) rfl (nle rfl) rfl,tv⟩ rfl (NLt.tup _ (nlc (NLt.of0 nll) (nlc (NLt.of0 nll) nl0))) (by kernel_rfl) (Qdt (Qkg (nlc (NLt.of0 nll) nl0)) (Qdt (Qkg (nlc (NLt.of0 nll) nl0)) Qkf))⟩
 exact Qax<|Qan<|Qan<|Qaw rfl<|thn<|⟨(y18,y19,y20,y21),h,mto (n:=45) [(6,.ref 1 1 0 0),(7,.ref 2 1 0 0)] [0,1,2,3,4,5,6] [Zcc p0,Qv2,.own 1 [[I 0]],Qxm y18,Qxl y19,.own 1 (y20.map Qab),Qxn p0 p1 p2 y21] hφ1 (prr (prr pn)) (qbi (qb (lc (.rn (rqr rfl)) ln) (qbi (qc (spr Qa6) (qc (spr Qcp) (qc (spr Qar) (qb (lc (rnd Qcg) (lc (rnd Qau) (lc (.rn (Qas rfl)) (lc (.rn (Qas rfl)) (lc (.rn (Qas rfl)) (lc (rnd Qaq) (lc rwl ln))))))) qn)))))))⟩
def Qud (N:Nat) (p0:GNet) (p1:List Int) (p2:List Qaa) (r:Int) (h:Qjf N p0 p1 p2=some (.inl r)):Spec prog 41 [Zko p0,.dat 1 (p1.map Qab),Q36 p2] [] (.tup [.lit (.pointer none),I r]) [.own 1 [[.lit (.pointer none)]],.own 1 [[I r]]]:=Qqd N p0 p1 p2 _ h
def Quc (N:Nat) (p0:GNet) (p1:List Int) (p2:List Qaa) (r:(Int×Int×(List (List Qaa))×(List Qbp)×(List Int))) (h:Qjf N p0 p1 p2=some (.inr r)):Spec prog 41 [Zko p0,.dat 1 (p1.map Qab),Q36 p2] [] (.tup [.ref 2 7 0 0,I r.1]) [.own 1 [[.ref 2 7 0 0]],.own 1 [[I r.1]],.own 7 [[.dat 5 (p0.Table.map Qat),.dat 7 (p0.Elements.map Qaj),.own 3 1 (0) ((p0.Elements.length:Int).toNat),.own 4 4 (0) ((p0.Elements.length:Int).toNat),.own 5 1 (0) p1.length,.dat 4 (p2.map Qag),I r.2.1]],.own 1 (r.2.2.1.map Qao),.own 4 (r.2.2.2.1.map Qa9),.own 1 (r.2.2.2.2.map Qab)]:=Qqd N p0 p1 p2 _ h
def Que (N:Nat) (p0:GNet) (p1:List Int) (p2:List Qaa):Option (Qm2×Int×Int):=(Qoq N p0 p1 p2).bind fun x11=>bif (x11 != 0) then some ((⟨[],[],[]⟩:Qm2),0,x11) else (Qjf N p0 p1 p2).bind (Sum.elim (fun x15=>bif decide (x15>=0) then some ((⟨[],[],[]⟩:Qm2),x15,11) else none) (fun x17=>bif decide (x17.1>=0) then some ((⟨[],[],[]⟩:Qm2),x17.1,11) else chk (decide ((p0.Elements.length:Int).toNat<=x17.2.2.1.length))<|chk (decide ((p0.Elements.length:Int).toNat<=x17.2.2.2.1.length))<|chk (decide (p1.length<=x17.2.2.2.2.length))<|some ((⟨x17.2.2.1.take ((p0.Elements.length:Int).toNat),x17.2.2.2.1.take ((p0.Elements.length:Int).toNat),x17.2.2.2.2.take p1.length⟩:Qm2),0,0)))
abbrev Zqa (p0:GNet):AV:=.dat 5 (p0.Table.map Qat)
abbrev Zp9 (p0:GNet):AV:=.dat 7 (p0.Elements.map Qaj)
abbrev Zui (p0:GNet):AV:=.agg [Zqa p0,Zp9 p0]
abbrev Zp6 (p2:List Qaa):AV:=.dat 4 (p2.map Qag)
abbrev Ze1:Slot:=.own 3 [[.dat 1 (((⟨[],[],[]⟩:Qm2).Out:List (List Qaa)).map Qao),.dat 4 (((⟨[],[],[]⟩:Qm2).Lost:List Qbp).map Qa9),.dat 1 (((⟨[],[],[]⟩:Qm2).State:List Int).map Qab)]]
abbrev Zp7:Slot:=.own 3 [[nilS,nilS,nilS]]
abbrev Q9q:AV:=.dat 1 (((⟨[],[],[]⟩:Qm2).Out:List (List Qaa)).map Qao)
abbrev Q9p:AV:=.dat 4 (((⟨[],[],[]⟩:Qm2).Lost:List Qbp).map Qa9)
abbrev Q9o:AV:=.dat 1 (((⟨[],[],[]⟩:Qm2).State:List Int).map Qab)
abbrev Ze0:AV:=.agg [Q9q,Q9p,Q9o]
abbrev Zxd:Slot:=.own 1 [[.lit (.pointer none)]]
abbrev Zkp:Slot:=.own 1 [[.ref 4 7 (0) 0]]
abbrev Q37 (p0:GNet) (p1:List Int) (p2:List Qaa) (x17:(Int×Int×(List (List Qaa))×(List Qbp)×(List Int))):Slot:=.own 7 [[Zqa p0,Zp9 p0,.own 5 1 (0) ((p0.Elements.length:Int).toNat),.own 6 4 (0) ((p0.Elements.length:Int).toNat),.own 7 1 (0) p1.length,Zp6 p2,I x17.2.1]]
abbrev Qtn (x17:(Int×Int×(List (List Qaa))×(List Qbp)×(List Int))) (p0:GNet):AV:=.dat 1 ((x17.2.2.1.take ((p0.Elements.length:Int).toNat):List (List Qaa)).map Qao)
abbrev Zp8 (p0:GNet):Slot:=.own 2 [[Zqa p0,Zp9 p0]]
abbrev Q0b (x17:(Int×Int×(List (List Qaa))×(List Qbp)×(List Int))) (p0:GNet):AV:=.dat 4 ((x17.2.2.2.1.take ((p0.Elements.length:Int).toNat):List Qbp).map Qa9)
abbrev Zoi (x17:(Int×Int×(List (List Qaa))×(List Qbp)×(List Int))) (p0:GNet) (p1:List Int):AV:=.dat 1 (((⟨x17.2.2.1.take ((p0.Elements.length:Int).toNat),x17.2.2.2.1.take ((p0.Elements.length:Int).toNat),x17.2.2.2.2.take p1.length⟩:Qm2).Out:List (List Qaa)).map Qao)
abbrev Zoh (x17:(Int×Int×(List (List Qaa))×(List Qbp)×(List Int))) (p0:GNet) (p1:List Int):AV:=.dat 4 (((⟨x17.2.2.1.take ((p0.Elements.length:Int).toNat),x17.2.2.2.1.take ((p0.Elements.length:Int).toNat),x17.2.2.2.2.take p1.length⟩:Qm2).Lost:List Qbp).map Qa9)
abbrev Zog (x17:(Int×Int×(List (List Qaa))×(List Qbp)×(List Int))) (p0:GNet) (p1:List Int):AV:=.dat 1 (((⟨x17.2.2.1.take ((p0.Elements.length:Int).toNat),x17.2.2.2.1.take ((p0.Elements.length:Int).toNat),x17.2.2.2.2.take p1.length⟩:Qm2).State:List Int).map Qab)
def Q79 (N:Nat) (p0:GNet) (p1:List Int) (p2:List Qaa) (r:(Qm2×Int×Int)) (h:Que N p0 p1 p2=some r):Spec prog 21 [.agg (Qpt p0),.dat 1 (p1.map Qab),.dat 4 (p2.map Qag)] [] (.tup [.agg [.dat 1 (r.1.Out.map Qao),.dat 4 (r.1.Lost.map Qa9),.dat 1 (r.1.State.map Qab)],I r.2.1,I r.2.2]) []:=by
 refine sF func21 0 fun _ _ _ hq hd0=>?_
 unfold Que at h
 refine wxz<|wsq<|bnq h fun x11 f10 h=>wx tbk [(3,rp _ _)] ⟨apw Ztd (Qz7 N p0 p1 p2 _ f10),tv⟩<|wxz<|bfq h (fun c12 h=>?_) fun c12 h=>?_
 ·refine wx tbk [(0,rp _ _)] ⟨Qbt (vs:=[]) rfl ts92 tz92 rfl (by rfl) rfl,tv⟩ ?_
  refine wmr (mto (n:=35) (l':=[(6,.ref 0 3 0 0),(7,I 0),(8,I x11)]) (own':=[Ze1]) [(6,.ref 1 3 0 0),(7,I 0),(8,I x11)] [1] [Zp7] hq (prr (pw (pw pn))) (qb (lc (.nil _) (lc (.nil _) (lc (.nil _) ln))) qn))<|Qad<|Qac ?_
  obtain rfl:=osi h
  exact⟨_,Mor.rfl,fie [Ze0,I 0,I x11] ⟨Qbv (n:=0) (m:=3) (j:=0) (i:=0) (xs:=[[Q9q,Q9p,Q9o]]) (by kernel_rfl) (by kernel_rfl) ti92 (by decide) rfl (nle rfl) rfl,rot,rot,tv⟩⟩
 refine Qah<|thn ?_
 refine bnq h fun x14 f13 h=>?_
 rcases x14 with x15 |x17
 ·replace h:=Q72 h
  refine wx tbk [(3,⟨_,_,_,_,false⟩)] ⟨acq [Zui p0,.dat 1 (p1.map Qab),Zp6 p2] [] [Zxd,.own 1 [[I x15]]] (.tup [.lit (.pointer none),I x15]) [2,3] Zi3 (Qud N p0 p1 p2 _ f13) pli Qai (sbi (sbi Qai)) pli,tv⟩<|wsq<|wxz<|bfq h (fun c16 h=>?_) fun c16 h=>?_
  ·refine wx tbk [(0,rp _ _)] ⟨Qbt (vs:=[]) rfl ts92 tz92 rfl (by rfl) rfl,tv⟩ ?_
   refine wmr (mto (n:=35) (l':=[(6,.ref 0 3 0 0),(7,I x15),(8,I 11)]) (own':=[Ze1]) [(6,.ref 1 3 0 0),(7,I x15),(8,I 11)] [1] [Zp7] hq (prr (pw (pw pn))) (qb (lc (.nil _) (lc (.nil _) (lc (.nil _) ln))) qn))<|Qad<|Qac ?_
   obtain rfl:=osi h
   exact⟨_,Mor.rfl,fie [Ze0,I x15,I 11] ⟨Qbv (n:=0) (m:=3) (j:=0) (i:=0) (xs:=[[Q9q,Q9p,Q9o]]) (by kernel_rfl) (by kernel_rfl) ti92 (by decide) rfl (nle rfl) rfl,rot,rot,tv⟩⟩
  refine Qah<|thn ?_
  cases h
 replace h:=Q71 h
 refine wx tbk [(3,⟨_,_,_,_,false⟩)] ⟨acq [Zui p0,.dat 1 (p1.map Qab),Zp6 p2] [] [Zkp,.own 1 [[I x17.1]],Q37 p0 p1 p2 x17,.own 1 (x17.2.2.1.map Qao),.own 4 (x17.2.2.2.1.map Qa9),.own 1 (x17.2.2.2.2.map Qab)] (.tup [.ref 4 7 0 0,I x17.1]) [2,3,4,5,6,7] Zi3 (Quc N p0 p1 p2 _ f13) pli Qai (slc (Qcr (rnc (Qb7 rfl) rn0)) (sbi (slc (Qcr (rnc (pld Qcg) (rnc (pld Qau) (rnc (Qff rfl) (rnc (Qff rfl) (rnc (Qff rfl) (rnc (pld Qaq) (rnc pli rn0)))))))) (slc (Qa5 Qa6) (slc (Qa5 Qcp) (slc (Qa5 Qar) Qai)))))) (Q0s (rnc (Qb7 rfl) (rnc pli rn0))),tv⟩<|wsq<|wxz<|bfq h (fun c18 h=>?_) fun c18 h=>?_
 ·refine wx tbk [(0,rp _ _)] ⟨Qbt (vs:=[]) rfl ts92 tz92 rfl (by rfl) rfl,tv⟩ ?_
  refine wmr (mto (n:=35) (l':=[(6,.ref 0 3 0 0),(7,I x17.1),(8,I 11)]) (own':=[Ze1]) [(6,.ref 1 3 0 0),(7,I x17.1),(8,I 11)] [1] [Zp7] hq (prr (pw (pw pn))) (qb (lc (.nil _) (lc (.nil _) (lc (.nil _) ln))) qn))<|Qad<|Qac ?_
  obtain rfl:=osi h
  exact⟨_,Mor.rfl,fie [Ze0,I x17.1,I 11] ⟨Qbv (n:=0) (m:=3) (j:=0) (i:=0) (xs:=[[Q9q,Q9p,Q9o]]) (by kernel_rfl) (by kernel_rfl) ti92 (by decide) rfl (nle rfl) rfl,rot,rot,tv⟩⟩
 refine Qah<|thn ?_
 refine wx tbk [(1,rb [(.tmp 31,.ref 4 7 0 0)] [(4,Q37 p0 p1 p2 x17)] (.ref 4 7 0 0))] ⟨Qbi rfl,tv⟩<|ckq h fun hz19 h=>wmr (Q22 (n:=35) (mp:=3) (m:=1) (xs:=x17.2.2.1.map Qao) (c:=[.own 5 1 (0) ((p0.Elements.length:Int).toNat),.own 6 4 (0) ((p0.Elements.length:Int).toNat),.own 7 1 (0) p1.length]) (l':=[(6,.ref 1 3 0 0),(7,I 0),(8,I 0)]) (c':=[Qtn x17 p0,.own 6 4 (0) ((p0.Elements.length:Int).toNat),.own 7 1 (0) p1.length]) (own':=[Zp8 p0,.own 3 [[Qtn x17 p0,.own 6 4 (0) ((p0.Elements.length:Int).toNat),.own 7 1 (0) p1.length]],Zkp,.own 1 [[I x17.1]],Q37 p0 p1 p2 x17,.dead,.own 4 (x17.2.2.2.1.map Qa9),.own 1 (x17.2.2.2.2.map Qab)]) 5 1 [(6,.ref 1 3 0 0),(7,I 0),(8,I 0)] (by kernel_rfl) (by kernel_rfl) (by kernel_rfl) (by kernel_rfl) ⟨Qvq hz19,.same _,.same _,tv⟩ ⟨rfl,.same _,rfl,.same _,rfl,.same _,tv⟩ (by kernel_rfl)) ?_
 refine ckq h fun hz20 h=>wmr (Q22 (n:=35) (mp:=3) (m:=4) (xs:=x17.2.2.2.1.map Qa9) (c:=[Qtn x17 p0,.own 6 4 (0) ((p0.Elements.length:Int).toNat),.own 7 1 (0) p1.length]) (l':=[(6,.ref 1 3 0 0),(7,I 0),(8,I 0)]) (c':=[Qtn x17 p0,Q0b x17 p0,.own 7 1 (0) p1.length]) (own':=[Zp8 p0,.own 3 [[Qtn x17 p0,Q0b x17 p0,.own 7 1 (0) p1.length]],Zkp,.own 1 [[I x17.1]],Q37 p0 p1 p2 x17,.dead,.dead,.own 1 (x17.2.2.2.2.map Qab)]) 6 1 [(6,.ref 1 3 0 0),(7,I 0),(8,I 0)] (by kernel_rfl) (by kernel_rfl) (by kernel_rfl) (by kernel_rfl) ⟨.same _,Qvq hz20,.same _,tv⟩ ⟨rfl,.same _,rfl,.same _,rfl,.same _,tv⟩ (by kernel_rfl)) ?_
 refine ckq h fun hz21 h=>wmr (Q22 (n:=35) (mp:=3) (m:=1) (xs:=x17.2.2.2.2.map Qab) (c:=[Qtn x17 p0,Q0b x17 p0,.own 7 1 (0) p1.length]) (l':=[(6,.ref 1 3 0 0),(7,I 0),(8,I 0)]) (c':=[Qtn x17 p0,Q0b x17 p0,.dat 1 ((x17.2.2.2.2.take p1.length:List Int).map Qab)]) (own':=[Zp8 p0,.own 3 [[Qtn x17 p0,Q0b x17 p0,.dat 1 ((x17.2.2.2.2.take p1.length:List Int).map Qab)]],Zkp,.own 1 [[I x17.1]],Q37 p0 p1 p2 x17,.dead,.dead,.dead]) 7 1 [(6,.ref 1 3 0 0),(7,I 0),(8,I 0)] (by kernel_rfl) (by kernel_rfl) (by kernel_rfl) (by kernel_rfl) ⟨.same _,.same _,Qvq hz21,tv⟩ ⟨rfl,.same _,rfl,.same _,rfl,.same _,tv⟩ (by kernel_rfl)) ?_
 refine wmr (mto (n:=35) (l':=[(6,.ref 0 3 0 0),(7,I 0),(8,I 0)]) (own':=[.own 3 [[.dat 1 (((⟨x17.2.2.1.take ((p0.Elements.length:Int).toNat),x17.2.2.2.1.take ((p0.Elements.length:Int).toNat),x17.2.2.2.2.take p1.length⟩:Qm2).Out:List (List Qaa)).map Qao),.dat 4 (((⟨x17.2.2.1.take ((p0.Elements.length:Int).toNat),x17.2.2.2.1.take ((p0.Elements.length:Int).toNat),x17.2.2.2.2.take p1.length⟩:Qm2).Lost:List Qbp).map Qa9),.dat 1 (((⟨x17.2.2.1.take ((p0.Elements.length:Int).toNat),x17.2.2.2.1.take ((p0.Elements.length:Int).toNat),x17.2.2.2.2.take p1.length⟩:Qm2).State:List Int).map Qab)]]]) [(6,.ref 1 3 0 0),(7,I 0),(8,I 0)] [1] [.own 3 [[Qtn x17 p0,Q0b x17 p0,.dat 1 ((x17.2.2.2.2.take p1.length:List Int).map Qab)]]] hq (prr (pw (pw pn))) (qbi qn))<|Qad ?_
 obtain rfl:=osi h
 exact⟨_,Mor.rfl,fie [.agg [Zoi x17 p0 p1,Zoh x17 p0 p1,Zog x17 p0 p1],I 0,I 0] ⟨Qbv (n:=0) (m:=3) (j:=0) (i:=0) (xs:=[[Zoi x17 p0 p1,Zoh x17 p0 p1,Zog x17 p0 p1]]) (by kernel_rfl) (by kernel_rfl) ti92 (by decide) rfl (nle rfl) rfl,rot,rot,tv⟩⟩
end
section
def Qgw (N:Nat) (p0:List GRow) (k2:(List GRow)->Option (List GRow)):Nat->(List GRow)->Int->Option (List GRow)
 |0,_,_=>none
 |n7+1,y3,y4=>bif decide (y4<(p0.length:Int)) then (getI p0 y4).bind fun x9=>chk (decide ((y3.length+([x9]).length)*40<=140737488355328))<|Qgw N p0 k2 n7 (y3++([x9])) (w64 (y4+1)) else k2 y3
def Qnw (N:Nat) (p0:List GRow):Option (List GRow):=Qb0 (fun y1=>some y1) fun k2:(List GRow)->Option (List GRow)=>Qgw N p0 k2 N ([]) 0
abbrev Zoe (x9:GRow):AV:=.agg [I x9.T,I x9.P,I x9.Liquid,I x9.Vapour,I x9.Silica]
def Qy0 (N:Nat) (p0 r:List GRow) (h:Qnw N p0=some r):Spec prog 24 [.dat 5 (p0.map Qat)] [] (.dat 5 (r.map Qat)) []:=by
 refine sA func24 0 fun _ _ _ hq hd0=>?_
 unfold Qnw at h
 refine wxz<|wxz<|wjq h (fun y1=>⟨mk 41 [(3,.acc 0 147 5 (y1.map Qat))],[.tok]⟩) (fun y1 h=>?_) fun k2 h=>?_
 ·refine wxz<|Qad ?_
  obtain rfl:=osi h
  exact fie [.dat 5 (y1.map Qat)] ⟨Qg0 (v:=(.acc 0 147 5 (y1.map Qat))) rot Less.acc,tv⟩
 refine wxz<|Qaf ?_
 refine wmr (Mor.trans (Qyx 0 147 5 3 (by kernel_rfl) (by kernel_rfl)) (mto (n:=41) (l':=[(0,.dat 5 (p0.map Qat)),(3,.acc 0 147 5 (([]:List GRow).map Qat)),(4,I 0)]) (own':=[.tok]) [(0,.dat 5 (p0.map Qat)),(3,.acc 0 147 5 (([]:List GRow).map Qat)),(4,I 0)] [0] [.tok] hq (pqi (pc (.rn (Qcv rfl (Qcf Qcg _))) (pw pn))) (qc .tok qn))) ?_
 refine Qbf (τ:=(List GRow)×Int) (fun n t=>Qgw N p0 k2 n t.1 t.2=some r) (fun ⟨y3,y4⟩=>⟨mk 41 [(0,.dat 5 (p0.map Qat)),(3,.acc 0 147 5 (y3.map Qat)),(4,I y4)],[.tok]⟩) (fun t h=>by rw[Qgw] at h;cases h) (fun n7 ih t h=>?_) N ([],0) h
 obtain⟨y3,y4⟩:=t
 rw[Qgw] at h
 refine wsq<|wx tbk [(2,rp _ _)] ⟨alq 5 Qat p0 Xde,tv⟩<|bfq h (fun c8 h=>?_) fun c8 h=>?_
 ·refine Qah<|thn<|wsq<|Qaf ?_
  exact bgq h fun x9 i11 j12 h=>ckq h fun a13 h=>wy1 tbk [(3,rp _ _),(8,rp _ _),(13,rp _ _),(18,rp _ _),(23,rp _ _),(26,rp _ _),(27,rp [(.tmp 37,Zoe x9)] (.dat 5 (([x9]:List GRow).map Qat))),(28,⟨[(.tmp 11,.acc 0 147 5 (y3.map Qat)),(.tmp 38,.dat 5 (([x9]:List GRow).map Qat))],[(0,.tok),(1,.unused)],.acc 1 147 5 ((y3++([x9]):List GRow).map Qat),[(0,.dead),(1,.tok)],false⟩)] ⟨aiq Xde Zcw Qat i11 j12,aiq Xde Zcw Qat i11 j12,aiq Xde Zcw Qat i11 j12,aiq Xde Zcw Qat i11 j12,aiq Xde Zcw Qat i11 j12,Qbt (vs:=[I x9.T,I x9.P,I x9.Liquid,I x9.Vapour,I x9.Silica]) rfl Zxx Zqz rfl (by rfl) rfl,Qds (vs:=[Zoe x9]) rfl Xcy Q2h Zqz rfl (by decide) rfl (by decide) (by rfl) (by rfl) (by rfl) rfl,Qg7 rfl Xcy Zye (Base.acc _ _) rfl rfl (by rfl) (Qkk Qat a13) (Qkj Qat a13 (by decide)) (Qki Qat) rfl rfl,tv⟩<|bln<|thn<|wxz1<|thn<|arm (mto (n:=41) [(0,.dat 5 (p0.map Qat)),(3,.acc 1 147 5 ((y3++([x9]):List GRow).map Qat)),(4,I (w64 (y4+1)))] [1] [.tok] hq (pqi (pc (.rn (Qcv rfl (Qcf Qcg _))) (pw pn))) (qc .tok qn)) (ih (y3++([x9]),w64 (y4+1)) h)
 exact Qax<|Qan<|Qan<|Qaw rfl<|thn<|⟨y3,h,mto (n:=41) [(3,.acc 0 147 5 (y3.map Qat))] [0] [.tok] hq (pc (.rn (Qcv rfl (Qcf Qcg _))) pn) (qc .tok qn)⟩
def Qhw (N:Nat) (x13:Qam) (k21:(List Qam)×(List Qhm)×(List Int)->Option GNet):Nat->Int->(List Qam)->(List Qhm)->(List Int)->Option GNet
 |0,_,_,_,_=>none
 |n31+1,y23,y24,y25,y26=>bif decide (y23<(x13.From.length:Int)) then (getI x13.From y23).bind fun x33=>chk (decide ((y25.length+([x33]).length)*16<=140737488355328))<|Qhw N x13 k21 n31 (w64 (y23+1)) y24 (y25++([x33])) y26 else k21 (y24,y25,y26)
def Qhx (N:Nat) (p0:GNet) (k4:(List Qam)->Option GNet):Nat->Int->(List Qam)->Option GNet
 |0,_,_=>none
 |n9+1,y5,y6=>bif decide (y5<(p0.Elements.length:Int)) then Qb0 (fun y11=>Qhx N p0 k4 n9 (w64 (y5+1)) y11) fun k12:(List Qam)->Option GNet=>(getI p0.Elements y5).bind fun x13=>chk (decide ((([]:List Int).length+x13.Weights.length)*8<=140737488355328))<|Qb0 (fun ⟨y18,y19,y20⟩=>chk (decide ((y18.length+([(⟨x13.Kind,y19,x13.Level,x13.Amount,x13.Wide,x13.Narrow,y20⟩:Qam)]).length)*88<=140737488355328))<|k12 (y18++([(⟨x13.Kind,y19,x13.Level,x13.Amount,x13.Wide,x13.Narrow,y20⟩:Qam)]))) fun k21:(List Qam)×(List Qhm)×(List Int)->Option GNet=>Qhw N x13 k21 N 0 y6 ([]) (([]:List Int)++x13.Weights) else k4 y6
def Qqi (N:Nat) (p0:GNet):Option GNet:=(Qnw N p0.Table).bind fun x2=>Qb0 (fun y3=>some (⟨x2,y3⟩:GNet)) fun k4:(List Qam)->Option GNet=>Qhx N p0 k4 N 0 ([])
abbrev Zxb (p0:GNet):AV:=.dat 5 (p0.Table.map Qat)
abbrev Zxa (p0:GNet):AV:=.dat 7 (p0.Elements.map Qaj)
abbrev Qwv (p0:GNet):Slot:=.own 2 [[Zxb p0,Zxa p0]]
abbrev Zex:AV:=.acc 5 3 1 ((([]:List Int):List Int).map Qab)
abbrev Q1q (x13:Qam):AV:=.acc 6 3 1 ((([]:List Int)++x13.Weights:List Int).map Qab)
abbrev Zew (y20:List Int):AV:=.acc 6 3 1 (y20.map Qab)
abbrev Zeu (x13:Qam) (y19:List Qhm) (y20:List Int):AV:=.dat 7 (([(⟨x13.Kind,y19,x13.Level,x13.Amount,x13.Wide,x13.Narrow,y20⟩:Qam)]:List Qam).map Qaj)
abbrev Zev (x13:Qam) (y19:List Qhm) (y20:List Int):AV:=.agg [K .u8 x13.Kind,.dat 2 (y19.map Qew),I x13.Level,I x13.Amount,I x13.Wide,I x13.Narrow,.dat 1 (y20.map Qab)]
abbrev Zp3 (x13:Qam):AV:=.dat 2 (x13.From.map Qew)
abbrev Q1r (x13:Qam):Slot:=.own 7 [[K .u8 x13.Kind,Zp3 x13,I x13.Level,I x13.Amount,I x13.Wide,I x13.Narrow,.dat 1 (x13.Weights.map Qab)]]
abbrev Zp4:AV:=.acc 6 99 2 (([]:List Qhm).map Qew)
abbrev Zp5:AV:=.acc 8 99 2 (([]:List Qhm).map Qew)
abbrev Zet (x13:Qam) (y25:List Qhm) (y26:List Int):Slot:=.own 7 [[K .u8 x13.Kind,.acc 6 99 2 (y25.map Qew),I x13.Level,I x13.Amount,I x13.Wide,I x13.Narrow,.acc 7 3 1 (y26.map Qab)]]
abbrev Zes (x33:Qhm):AV:=.agg [I x33.Element,I x33.Outlet]
def Q26 (N:Nat) (p0 r:GNet) (h:Qqi N p0=some r):Spec prog 9 [.agg (Qpt p0)] [] (.agg (Qpt r)) []:=by
 refine sA func9 0 fun _ _ _ hq hd0=>?_
 unfold Qqi at h
 refine wxz<|bnq h fun x2 f1 h=>wx tbk [(2,rp _ _),(3,rp _ _)] ⟨apw Ztg (Qy0 N p0.Table _ f1),Qbt (vs:=[.dat 5 (x2.map Qat)]) rfl ts50 tz50 rfl (by rfl) rfl,tv⟩<|wjq h (fun y3=>⟨mk 71 [(2,.ref 0 2 0 0),(3,.ref 1 2 0 0)],[.own 2 [[nilS,nilS]],.own 2 [[.dat 5 (x2.map Qat),.acc 2 104 7 (y3.map Qaj)]],.tok]⟩) (fun y3 h=>?_) fun k4 h=>?_
 ·refine wxz<|Qad ?_
  obtain rfl:=osi h
  exact fie [.agg [.dat 5 (x2.map Qat),.dat 7 (y3.map Qaj)]] ⟨Qg0 (v:=(.agg [.dat 5 (x2.map Qat),.acc 2 104 7 (y3.map Qaj)])) (Qbv (n:=0) (m:=2) (j:=0) (i:=0) (xs:=[[.dat 5 (x2.map Qat),.acc 2 104 7 (y3.map Qaj)]]) (by kernel_rfl) (by kernel_rfl) ti50 (by decide) rfl (nle rfl) rfl) (Less.agg ⟨lrf,Less.acc,tv⟩),tv⟩
 refine wxz<|Qaf ?_
 refine wmr (Mor.trans (Qpq (n:=3) (ty:=104) (m:=7) (q:=2) (mq:=2) (c:=[.dat 5 (x2.map Qat),nilS]) 1 (by kernel_rfl) (by kernel_rfl) (by kernel_rfl) (by decide)) (mto (n:=71) (l':=[(1,.ref 0 2 0 0),(2,.ref 1 2 0 0),(3,.ref 2 2 0 0),(4,I 0)]) (own':=[Qwv p0,.own 2 [[nilS,nilS]],.own 2 [[.dat 5 (x2.map Qat),.acc 3 104 7 (([]:List Qam).map Qaj)]],.tok]) [(1,.ref 0 2 0 0),(2,.ref 1 2 0 0),(3,.ref 2 2 0 0),(4,I 0)] [0,1,2,3] [Qwv p0,.own 2 [[nilS,nilS]],.own 2 [[.dat 5 (x2.map Qat),.acc 3 104 7 (([]:List Qam).map Qaj)]],.tok] hq (prr (prr (prr (pw pn)))) (qbi (qbi (qb (lc (rnd Qcg) (lc (.rn (Qcv rfl (Qcf Qau _))) ln)) (qc .tok qn)))))) ?_
 refine Qbf (τ:=Int×(List Qam)) (fun n t=>Qhx N p0 k4 n t.1 t.2=some r) (fun ⟨y5,y6⟩=>⟨mk 71 [(1,.ref 0 2 0 0),(2,.ref 1 2 0 0),(3,.ref 2 2 0 0),(4,I y5)],[Qwv p0,.own 2 [[nilS,nilS]],.own 2 [[.dat 5 (x2.map Qat),.acc 3 104 7 (y6.map Qaj)]],.tok]⟩) (fun t h=>by rw[Qhx] at h;cases h) (fun n9 ih t h=>?_) N (0,[]) h
 obtain⟨y5,y6⟩:=t
 rw[Qhx] at h
 refine wsq<|wx tbk [(3,rp _ _)] ⟨alq 7 Qaj p0.Elements Xdu,tv⟩<|bfq h (fun c10 h=>?_) fun c10 h=>?_
 ·refine Qah<|thn ?_
  refine wjq h (fun y11=>⟨mk 71 [(1,.ref 0 2 0 0),(2,.ref 1 2 0 0),(3,.ref 2 2 0 0),(4,I y5)],[Qwv p0,.own 2 [[nilS,nilS]],.own 2 [[.dat 5 (x2.map Qat),.acc 3 104 7 (y11.map Qaj)]],.tok]⟩) (fun y11 h=>?_) fun k12 h=>?_
  ·exact wxz1<|thn<|arm (mto (n:=71) [(1,.ref 0 2 0 0),(2,.ref 1 2 0 0),(3,.ref 2 2 0 0),(4,I (w64 (y5+1)))] [0,1,2,3] [Qwv p0,.own 2 [[nilS,nilS]],.own 2 [[.dat 5 (x2.map Qat),.acc 3 104 7 (y11.map Qaj)]],.tok] hq (prr (prr (prr (pw pn)))) (qbi (qbi (qb (lc (rnd Qcg) (lc (.rn (Qcv rfl (Qcf Qau _))) ln)) (qc .tok qn))))) (ih (w64 (y5+1),y11) h)
  refine Qaf ?_
  refine bgq h fun x13 i15 j16 h=>wx tbk [(3,rp _ _)] ⟨aiq Xdu ti73 Qaj i15 j16,tv⟩<|ckq h fun a17 h=>wxd tbk [(10,⟨[],[(5,.unused)],Zex,[(5,.tok)],false⟩),(13,⟨[(.tmp 34,Zex),(.tmp 36,.dat 1 (x13.Weights.map Qab))],[(5,.tok),(6,.unused)],Q1q x13,[(5,.dead),(6,.tok)],false⟩),(14,rp _ _)] ⟨Qlb rfl Xag ti3 tz3,Qg7 rfl Xag te3 (Base.acc _ _) rfl rfl (Qsa Qab Qvh _) (Qkk Qab a17) (Qkj Qab a17 (by decide)) (Qki Qab) rfl rfl,Qbt (vs:=[K .u8 x13.Kind,I x13.Level,I x13.Amount,I x13.Wide,I x13.Narrow,Q1q x13]) rfl Zx2 Zq3 rfl (by rfl) rfl,tv⟩<|wjq h (fun ⟨y18,y19,y20⟩=>⟨mk 71 [(1,.ref 0 2 0 0),(2,.ref 1 2 0 0),(3,.ref 2 2 0 0),(4,I y5),(6,.ref 3 7 0 0)],[Qwv p0,.own 2 [[nilS,nilS]],.own 2 [[.dat 5 (x2.map Qat),.acc 4 104 7 (y18.map Qaj)]],.own 7 [[K .u8 x13.Kind,.acc 5 99 2 (y19.map Qew),I x13.Level,I x13.Amount,I x13.Wide,I x13.Narrow,Zew y20]],.tok,.tok,.tok]⟩) (fun t h=>?_) fun k21 h=>?_
  ·obtain⟨y18,y19,y20⟩:=t
   refine ckq h fun a22 h=>wx1 tbk [(3,rp [(.tmp 66,.agg [K .u8 x13.Kind,.acc 5 99 2 (y19.map Qew),I x13.Level,I x13.Amount,I x13.Wide,I x13.Narrow,Zew y20])] (Zeu x13 y19 y20)),(4,⟨[(.tmp 65,.acc 4 104 7 (y18.map Qaj)),(.tmp 67,Zeu x13 y19 y20)],[(4,.tok),(7,.unused)],.acc 7 104 7 ((y18++([(⟨x13.Kind,y19,x13.Level,x13.Amount,x13.Wide,x13.Narrow,y20⟩:Qam)]):List Qam).map Qaj),[(4,.dead),(7,.tok)],false⟩)] ⟨awk (rd':=[(.tmp 66,Zev x13 y19 y20)]) ⟨rfl,Less.agg ⟨lrf,Less.acc,lrf,lrf,lrf,lrf,Less.acc,tv⟩,tv⟩ (Qds (vs:=[Zev x13 y19 y20]) rfl Xa2 Qo8 Zq3 rfl (by decide) rfl (by decide) (by rfl) (by rfl) (by rfl) rfl),Qg7 rfl Xa2 Zyi (Base.acc _ _) rfl rfl (by rfl) (Qkk Qaj a22) (Qkj Qaj a22 (by decide)) (Qki Qaj) rfl rfl,tv⟩<|bln<|thn ?_
   exact⟨y18++([(⟨x13.Kind,y19,x13.Level,x13.Amount,x13.Wide,x13.Narrow,y20⟩:Qam)]),h,mto (n:=71) [(1,.ref 0 2 0 0),(2,.ref 1 2 0 0),(3,.ref 2 2 0 0),(4,I y5)] [0,1,2,7] [Qwv p0,.own 2 [[nilS,nilS]],.own 2 [[.dat 5 (x2.map Qat),.acc 7 104 7 ((y18++([(⟨x13.Kind,y19,x13.Level,x13.Amount,x13.Wide,x13.Narrow,y20⟩:Qam)]):List Qam).map Qaj)]],.tok] hq (prr (prr (prr (pw pn)))) (qbi (qbi (qb (lc (rnd Qcg) (lc (.rn (Qcv rfl (Qcf Qau _))) ln)) (qc .tok qn))))⟩
  refine wxz<|Qaf ?_
  refine wmr (Mor.trans (Qpq (n:=8) (ty:=99) (m:=2) (q:=7) (mq:=7) (c:=[K .u8 x13.Kind,nilS,I x13.Level,I x13.Amount,I x13.Wide,I x13.Narrow,Q1q x13]) 1 (by kernel_rfl) (by kernel_rfl) (by kernel_rfl) (by decide)) (mto (n:=71) (l':=[(1,.ref 0 2 0 0),(2,.ref 1 2 0 0),(3,.ref 2 2 0 0),(4,I y5),(5,.ref 3 7 0 0),(6,.ref 4 7 0 0),(7,I 0)]) (own':=[Qwv p0,.own 2 [[nilS,nilS]],.own 2 [[.dat 5 (x2.map Qat),.acc 5 104 7 (y6.map Qaj)]],Q1r x13,.own 7 [[K .u8 x13.Kind,Zp4,I x13.Level,I x13.Amount,I x13.Wide,I x13.Narrow,.acc 7 3 1 ((([]:List Int)++x13.Weights:List Int).map Qab)]],.tok,.tok,.tok]) [(1,.ref 0 2 0 0),(2,.ref 1 2 0 0),(3,.ref 2 2 0 0),(4,I y5),(5,.ref 4 7 0 0),(6,.ref 7 7 0 0),(7,I 0)] [0,1,2,4,7,3,8,6] [Qwv p0,.own 2 [[nilS,nilS]],.own 2 [[.dat 5 (x2.map Qat),.acc 3 104 7 (y6.map Qaj)]],Q1r x13,.own 7 [[K .u8 x13.Kind,Zp5,I x13.Level,I x13.Amount,I x13.Wide,I x13.Narrow,Q1q x13]],.tok,.tok,.tok] hq (prr (prr (prr (pw (prr (prr (pw pn))))))) (qbi (qbi (qb (lc (rnd Qcg) (lc (.rn (Qcv rfl (Qcf Qau _))) ln)) (qbi (qb (lc rwl (lc (.rn (Qcv rfl (Qcf Qsb _))) (lcc (lcc (lc (.rn (Qcv rfl (Qcf Qar _))) ln))))) (qc .tok (qc .tok (qc .tok qn)))))))))) ?_
  refine Qbf (τ:=Int×(List Qam)×(List Qhm)×(List Int)) (fun n t=>Qhw N x13 k21 n t.1 t.2.1 t.2.2.1 t.2.2.2=some r) (fun ⟨y23,y24,y25,y26⟩=>⟨mk 71 [(1,.ref 0 2 0 0),(2,.ref 1 2 0 0),(3,.ref 2 2 0 0),(4,I y5),(5,.ref 3 7 0 0),(6,.ref 4 7 0 0),(7,I y23)],[Qwv p0,.own 2 [[nilS,nilS]],.own 2 [[.dat 5 (x2.map Qat),.acc 5 104 7 (y24.map Qaj)]],Q1r x13,Zet x13 y25 y26,.tok,.tok,.tok]⟩) (fun t h=>by rw[Qhw] at h;cases h) (fun n31 ih t h=>?_) N (0,y6,[],([]:List Int)++x13.Weights) h
  obtain⟨y23,y24,y25,y26⟩:=t
  rw[Qhw] at h
  refine wsq<|wx tbk [(3,rp _ _)] ⟨alq 2 Qew x13.From Xes,tv⟩<|bfq h (fun c32 h=>?_) fun c32 h=>?_
  ·refine Qah<|thn<|wsq<|Qaf ?_
   exact bgq h fun x33 i35 j36 h=>ckq h fun a37 h=>wy1 tbk [(5,rp _ _),(11,rp _ _),(14,rp _ _),(15,rp [(.tmp 60,Zes x33)] (.dat 2 (([x33]:List Qhm).map Qew))),(16,⟨[(.tmp 47,.acc 6 99 2 (y25.map Qew)),(.tmp 61,.dat 2 (([x33]:List Qhm).map Qew))],[(6,.tok),(8,.unused)],.acc 8 99 2 ((y25++([x33]):List Qhm).map Qew),[(6,.dead),(8,.tok)],false⟩)] ⟨aiq Xes Zq8 Qew i35 j36,aiq Xes Zq8 Qew i35 j36,Qbt (vs:=[I x33.Element,I x33.Outlet]) rfl ts99 tz99 rfl (by rfl) rfl,Qds (vs:=[Zes x33]) rfl Xcq ti99 tz99 rfl (by decide) rfl (by decide) (by rfl) (by rfl) (by rfl) rfl,Qg7 rfl Xcq te99 (Base.acc _ _) rfl rfl (by rfl) (Qkk Qew a37) (Qkj Qew a37 (by decide)) (Qki Qew) rfl rfl,tv⟩<|bln<|thn<|wxz1<|thn<|arm (mto (n:=71) [(1,.ref 0 2 0 0),(2,.ref 1 2 0 0),(3,.ref 2 2 0 0),(4,I y5),(5,.ref 3 7 0 0),(6,.ref 4 7 0 0),(7,I (w64 (y23+1)))] [0,1,2,3,4,5,8,7] [Qwv p0,.own 2 [[nilS,nilS]],.own 2 [[.dat 5 (x2.map Qat),.acc 5 104 7 (y24.map Qaj)]],Q1r x13,.own 7 [[K .u8 x13.Kind,.acc 8 99 2 ((y25++([x33]):List Qhm).map Qew),I x13.Level,I x13.Amount,I x13.Wide,I x13.Narrow,.acc 7 3 1 (y26.map Qab)]],.tok,.tok,.tok] hq (prr (prr (prr (pw (prr (prr (pw pn))))))) (qbi (qbi (qb (lc (rnd Qcg) (lc (.rn (Qcv rfl (Qcf Qau _))) ln)) (qbi (qb (lc rwl (lc (.rn (Qcv rfl (Qcf Qsb _))) (lcc (lcc (lc (.rn (Qcv rfl (Qcf Qar _))) ln))))) (qc .tok (qc .tok (qc .tok qn))))))))) (ih (w64 (y23+1),y24,y25++([x33]),y26) h)
  exact Qax<|Qan<|Qan<|Qaw rfl<|thn<|⟨(y24,y25,y26),h,mto (n:=71) [(1,.ref 0 2 0 0),(2,.ref 1 2 0 0),(3,.ref 2 2 0 0),(4,I y5),(6,.ref 4 7 0 0)] [0,1,2,4,5,6,7] [Qwv p0,.own 2 [[nilS,nilS]],.own 2 [[.dat 5 (x2.map Qat),.acc 5 104 7 (y24.map Qaj)]],Zet x13 y25 y26,.tok,.tok,.tok] hq (prr (prr (prr (pw (prr pn))))) (qbi (qbi (qb (lc (rnd Qcg) (lc (.rn (Qcv rfl (Qcf Qau _))) ln)) (qb (lc rwl (lc (.rn (Qcv rfl (Qcf Qsb _))) (lcc (lcc (lc (.rn (Qcv rfl (Qcf Qar _))) ln))))) (qc .tok (qc .tok (qc .tok qn)))))))⟩
 exact Qax<|Qan<|Qan<|Qaw rfl<|thn<|⟨y6,h,mto (n:=71) [(2,.ref 1 2 0 0),(3,.ref 2 2 0 0)] [1,2,3] [.own 2 [[nilS,nilS]],.own 2 [[.dat 5 (x2.map Qat),.acc 3 104 7 (y6.map Qaj)]],.tok] hq (prr (prr pn)) (qbi (qb (lc (rnd Qcg) (lc (.rn (Qcv rfl (Qcf Qau _))) ln)) (qc .tok qn)))⟩
def Qhy (N:Nat) (p0:GNet) (k1:Unit->Option Bool):Nat->Int->Option Bool
 |0,_=>none
 |n6+1,y4=>bif decide (y4<(p0.Elements.length:Int)) then (getI p0.Elements y4).bind fun x8=>bif decide ((x8.From.length:Int)>25) then some false else bif decide ((x8.Weights.length:Int)>25) then some false else Qhy N p0 k1 n6 (w64 (y4+1)) else k1 ()
def Qog (N:Nat) (p0:GNet) (p1:List Qaa):Option Bool:=Qb0 (fun _=>bif decide ((p0.Elements.length:Int)<=18) then bif decide ((p0.Table.length:Int)<=25) then some (decide ((p1.length:Int)<=25)) else some false else some false) fun k1:Unit->Option Bool=>Qhy N p0 k1 N 0
abbrev Q6u (p1:List Qaa):AV:=.dat 4 (p1.map Qag)
abbrev Zue (p0:GNet):AV:=.dat 5 (p0.Table.map Qat)
abbrev Zkn (p0:GNet):AV:=.dat 7 (p0.Elements.map Qaj)
abbrev Zcb (p0:GNet):Slot:=.own 2 [[Zue p0,Zkn p0]]
def Zer (p0:GNet):List (Nat×Rec):=[(2,rp [(.tmp 32,Zkn p0)] (I (p0.Elements.length:Int)))]
def Zeq p0:=hcat (Zer p0) [(4,rp [(.tmp 34,B (decide ((p0.Elements.length:Int)<=18)))] (B true)),(7,rp [(.tmp 35,B true),(.tmp 37,Zue p0)] (I (p0.Table.length:Int)))]
def Zep (p0:GNet) (y4:Int) (x8:Qam):List (Nat×Rec):=[(3,rp [(.tmp 14,Zkn p0),(.tmp 15,I y4)] (.dptr (Qaj x8) 0)),(6,rp [(.tmp 18,.dat 2 (x8.From.map Qew))] (I (x8.From.length:Int)))]
def Q27 (N:Nat) (p0:GNet) (p1:List Qaa) (r:Bool) (h:Qog N p0 p1=some r):Spec prog 4 [.agg (Qpt p0),.dat 4 (p1.map Qag)] [] (B r) []:=by
 refine sA func4 0 fun _ _ _ hq hd0=>?_
 unfold Qog at h
 refine wxz<|wjq h (fun _=>⟨mk 46 [(1,Q6u p1),(2,.ref 0 2 0 0)],[Zcb p0]⟩) (fun t h=>?_) fun k1 h=>?_
 ·refine hpre (A:=(Zer p0)) ⟨alq 7 Qaj p0.Elements Xdu,tv⟩ fun q1_=>?_
  refine bfe h (fun hb2 h=>?_) fun hb2 h=>?_
  ·refine hpre (A:=(Zeq p0)) (hap q1_ ⟨asb hb2 (amv rfl),ag_ (alq 5 Qat p0.Table Xde),tv⟩) fun q2_=>?_
   refine bfe h (fun hb3 h=>?_) fun hb3 h=>?_
   ·refine wx tbk (hcat (Zeq p0) [(10,rp [(.tmp 40,B (decide ((p0.Table.length:Int)<=25)))] (B true)),(12,rp [(.tmp 41,B true),(.tmp 42,Q6u p1)] (I (p1.length:Int)))]) (hap q2_ ⟨asb hb3 (amv rfl),ag_ (alq 4 Qag p1 Xgj),tv⟩)<|Qad ?_
    obtain rfl:=osi h
    exact fend ⟨[B (decide ((p1.length:Int)<=25))],⟨rot,tv⟩,rfl⟩ nll
   exact wx tbk (hcat (Zeq p0) [(10,rp [(.tmp 40,B (decide ((p0.Table.length:Int)<=25)))] (B false))]) (hap q2_ ⟨asb hb3 (amv rfl),tv⟩)<|Qad<|frb h
  exact wx tbk (hcat (Zer p0) [(4,rp [(.tmp 34,B (decide ((p0.Elements.length:Int)<=18)))] (B false))]) (hap q1_ ⟨asb hb2 (amv rfl),tv⟩)<|Qad<|frb h
 refine wxz<|Qaf ?_
 refine wmr (mto (n:=46) (l':=[(1,Q6u p1),(2,.ref 0 2 0 0),(5,I 0)]) (own':=[Zcb p0]) [(1,Q6u p1),(2,.ref 0 2 0 0),(5,I 0)] [0] [Zcb p0] hq (pqi (prr (pw pn))) (qbi qn)) ?_
 refine Qbf (τ:=Int) (fun n t=>Qhy N p0 k1 n t=some r) (fun y4=>⟨mk 46 [(1,Q6u p1),(2,.ref 0 2 0 0),(5,I y4)],[Zcb p0]⟩) (fun t h=>by rw[Qhy] at h;cases h) (fun n6 ih y4 h=>?_) N (0) h
 rw[Qhy] at h
 refine wsq<|wx tbk [(3,rp _ _)] ⟨alq 7 Qaj p0.Elements Xdu,tv⟩<|bfq h (fun c7 h=>?_) fun c7 h=>?_
 ·refine Qah<|thn<|wsq<|Qaf ?_
  refine bgq h fun x8 i10 j11 h=>hpre (A:=(Zep p0 y4 x8)) ⟨aiq Xdu ti73 Qaj i10 j11,alq 2 Qew x8.From Xes,tv⟩ fun q3_=>?_
  refine bfe h (fun hb12 h=>?_) fun hb12 h=>?_
  ·exact wx tbk (hcat (Zep p0 y4 x8) [(8,rp [(.tmp 20,B (decide ((x8.From.length:Int)>25)))] (B true))]) (hap q3_ ⟨asb hb12 (amv rfl),tv⟩)<|wtr<|wxz<|Qad<|Qal<|Qac<|Qac<|Qal<|Qac<|frb h
  refine wx tbk (hcat (Zep p0 y4 x8) [(8,rp [(.tmp 20,B (decide ((x8.From.length:Int)>25)))] (B false)),(12,rp [(.tmp 21,B false),(.tmp 23,Zkn p0),(.tmp 24,I y4)] (.dptr (Qaj x8) 0)),(15,rp [(.tmp 21,B false),(.tmp 27,.dat 1 (x8.Weights.map Qab))] (I (x8.Weights.length:Int)))]) (hap q3_ ⟨asb hb12 (amv rfl),ag_ (aiq Xdu ti73 Qaj i10 j11),ag_ (alq 1 Qab x8.Weights Xag),tv⟩)<|bfq h (fun c13 h=>?_) fun c13 h=>?_
  ·exact wxz<|Qad<|Qal<|Qac<|Qac<|Qal<|Qac<|frb h
  exact Qah<|bln<|thn<|wxz1<|thn<|arm (mto (n:=46) [(1,Q6u p1),(2,.ref 0 2 0 0),(5,I (w64 (y4+1)))] [0] [Zcb p0] hq (pqi (prr (pw pn))) (qbi qn)) (ih (w64 (y4+1)) h)
 exact Qax<|Qan<|Qan<|Qaw rfl<|thn<|⟨(),h,mto (n:=46) [(1,Q6u p1),(2,.ref 0 2 0 0)] [0] [Zcb p0] hq (pqi (prr pn)) (qbi qn)⟩
def Qoc (_N:Nat) (p0:Qaa):Option Qaa:=some p0
abbrev Zw9 (p0:Qaa):AV:=.agg [I p0.Mass,I p0.Heat,I p0.Silica,I p0.Gas]
def Qw0 (N:Nat) (p0 r:Qaa) (h:Qoc N p0=some r):Spec prog 25 [.agg (Qag p0)] [] (.agg (Qag r)) []:=by
 refine sA func25 0 fun _ _ _ hq hd0=>?_
 unfold Qoc at h
 refine wxz<|wx tbk [(8,rp _ _)] ⟨Qbt (vs:=[I p0.Mass,I p0.Heat,I p0.Silica,I p0.Gas]) rfl ts40 tz40 rfl (by rfl) rfl,tv⟩<|Qad ?_
 obtain rfl:=osi h
 exact fie [Zw9 p0] ⟨Qbv (n:=1) (m:=4) (j:=0) (i:=0) (xs:=[[I p0.Mass,I p0.Heat,I p0.Silica,I p0.Gas]]) (by kernel_rfl) (by kernel_rfl) ti40 (by decide) rfl (nle rfl) rfl,tv⟩
def Qfu (N:Nat) (p0:List Qaa) (k2:(List Qaa)->Option (List Qaa)):Nat->(List Qaa)->Int->Option (List Qaa)
 |0,_,_=>none
 |n7+1,y3,y4=>bif decide (y4<(p0.length:Int)) then (getI p0 y4).bind fun x9=>(Qoc N x9).bind fun x14=>chk (decide ((y3.length+([x14]).length)*32<=140737488355328))<|Qfu N p0 k2 n7 (y3++([x14])) (w64 (y4+1)) else k2 y3
def Qll (N:Nat) (p0:List Qaa):Option (List Qaa):=Qb0 (fun y1=>some y1) fun k2:(List Qaa)->Option (List Qaa)=>Qfu N p0 k2 N ([]) 0
abbrev Zkm (p0:List Qaa):AV:=.dat 4 (p0.map Qag)
abbrev Zod (x14:Qaa):AV:=.agg [I x14.Mass,I x14.Heat,I x14.Silica,I x14.Gas]
def Qvo (N:Nat) (p0 r:List Qaa) (h:Qll N p0=some r):Spec prog 10 [.dat 4 (p0.map Qag)] [] (.dat 4 (r.map Qag)) []:=by
 refine sA func10 0 fun _ _ _ hq hd0=>?_
 unfold Qll at h
 refine wxz<|wxz<|wjq h (fun y1=>⟨mk 20 [(3,.acc 0 40 4 (y1.map Qag))],[.tok]⟩) (fun y1 h=>?_) fun k2 h=>?_
 ·refine wxz<|Qad ?_
  obtain rfl:=osi h
  exact fie [.dat 4 (y1.map Qag)] ⟨Qg0 (v:=(.acc 0 40 4 (y1.map Qag))) rot Less.acc,tv⟩
 refine wxz<|Qaf ?_
 refine wmr (Mor.trans (Qyx 0 40 4 3 (by kernel_rfl) (by kernel_rfl)) (mto (n:=20) (l':=[(0,Zkm p0),(3,.acc 0 40 4 (([]:List Qaa).map Qag)),(4,I 0)]) (own':=[.tok]) [(0,Zkm p0),(3,.acc 0 40 4 (([]:List Qaa).map Qag)),(4,I 0)] [0] [.tok] hq (pqi (pc (.rn (Qcv rfl (Qcf Qaq _))) (pw pn))) (qc .tok qn))) ?_
 refine Qbf (τ:=(List Qaa)×Int) (fun n t=>Qfu N p0 k2 n t.1 t.2=some r) (fun ⟨y3,y4⟩=>⟨mk 20 [(0,Zkm p0),(3,.acc 0 40 4 (y3.map Qag)),(4,I y4)],[.tok]⟩) (fun t h=>by rw[Qfu] at h;cases h) (fun n7 ih t h=>?_) N ([],0) h
 obtain⟨y3,y4⟩:=t
 rw[Qfu] at h
 refine wsq<|wx tbk [(2,rp _ _)] ⟨alq 4 Qag p0 Xgj,tv⟩<|bfq h (fun c8 h=>?_) fun c8 h=>?_
 ·refine Qah<|thn<|wsq<|Qaf ?_
  exact bgq h fun x9 i11 j12 h=>bnq h fun x14 f13 h=>ckq h fun a15 h=>wx1 tbk [(3,rp _ _),(5,rp _ _),(6,rp [(.tmp 16,Zod x14)] (.dat 4 (([x14]:List Qaa).map Qag))),(7,⟨[(.tmp 11,.acc 0 40 4 (y3.map Qag)),(.tmp 17,.dat 4 (([x14]:List Qaa).map Qag))],[(0,.tok),(1,.unused)],.acc 1 40 4 ((y3++([x14]):List Qaa).map Qag),[(0,.dead),(1,.tok)],false⟩)] ⟨aiq Xgj Zvv Qag i11 j12,apw Ztf (Qw0 N x9 _ f13),Qds (vs:=[Zod x14]) rfl Xa4 ti40 tz40 rfl (by decide) rfl (by decide) (by rfl) (by rfl) (by rfl) rfl,Qg7 rfl Xa4 te40 (Base.acc _ _) rfl rfl (by rfl) (Qkk Qag a15) (Qkj Qag a15 (by decide)) (Qki Qag) rfl rfl,tv⟩<|bln<|thn<|wxz1<|thn<|arm (mto (n:=20) [(0,Zkm p0),(3,.acc 1 40 4 ((y3++([x14]):List Qaa).map Qag)),(4,I (w64 (y4+1)))] [1] [.tok] hq (pqi (pc (.rn (Qcv rfl (Qcf Qaq _))) (pw pn))) (qc .tok qn)) (ih (y3++([x14]),w64 (y4+1)) h)
 exact Qax<|Qan<|Qan<|Qaw rfl<|thn<|⟨y3,h,mto (n:=20) [(3,.acc 0 40 4 (y3.map Qag))] [0] [.tok] hq (pc (.rn (Qcv rfl (Qcf Qaq _))) pn) (qc .tok qn)⟩
def Qfg (N:Nat) (k11:(List (Int×Int))->Option (List (Int×Int))) (x12:Qam):Nat->Int->(List (Int×Int))->Option (List (Int×Int))
 |0,_,_=>none
 |n20+1,y16,y17=>bif decide (y16<(x12.From.length:Int)) then (getI x12.From y16).bind fun x22=>Qfg N k11 x12 n20 (w64 (y16+1)) (addQ y17 (x22.Element,x22.Outlet)) else k11 y17
def Qfh (N:Nat) (p0:GNet) (k3:(List (Int×Int))->Option (List (Int×Int))):Nat->Int->(List (Int×Int))->Option (List (Int×Int))
 |0,_,_=>none
 |n8+1,y4,y5=>bif decide (y4<(p0.Elements.length:Int)) then Qb0 (fun y10=>Qfh N p0 k3 n8 (w64 (y4+1)) y10) fun k11:(List (Int×Int))->Option (List (Int×Int))=>(getI p0.Elements y4).bind fun x12=>Qfg N k11 x12 N 0 y5 else k3 y5
def Qka (N:Nat) (p0:GNet):Option (List (Int×Int)):=Qb0 (fun y2=>some y2) fun k3:(List (Int×Int))->Option (List (Int×Int))=>Qfh N p0 k3 N 0 ([]:List (Int×Int))
abbrev Qwu (p0:GNet):AV:=.dat 7 (p0.Elements.map Qaj)
abbrev Q35:AV:=.fn (.func 42) [] [.ref 0 2 (0) 0,.ref 1 1 (0) 0]
abbrev Qsw (p0:GNet):Slot:=.own 2 [[.dat 5 (p0.Table.map Qat),Qwu p0]]
abbrev Q9n (x12:Qam):AV:=.dat 2 (x12.From.map Qew)
def Qs8 (N:Nat) (p0:GNet) (r:(List (Int×Int))) (h:Qka N p0=some r):Spec prog 22 [.agg [.dat 5 (p0.Table.map Qat),Qwu p0]] [] Q35 [Qsw p0,.own 1 [[.mp 2]],Qgg r]:=by
 refine sF func22 3 fun _ _ _ hq hd0=>?_
 unfold Qka at h
 refine wxz<|wx tbk [(0,⟨[],[(1,.unused)],.mp 1,[(1,Qgg ([]:List (Int×Int)))],false⟩)] ⟨Qwn rfl,tv⟩<|wjq h (fun y2=>⟨mk 28 [(1,.ref 0 2 0 0),(3,.ref 1 1 0 0)],[Qsw p0,.own 1 [[.mp 2]],Qgg y2]⟩) (fun y2 h=>?_) fun k3 h=>?_
 ·refine wx tbk [(0,rp [(.tmp 1,.ref 0 2 0 0),(.tmp 3,.ref 1 1 0 0)] Q35)] ⟨Qfp (fs:=[]) (cs:=[.ref 0 2 0 0,.ref 1 1 0 0]) rfl rfl rfl rfl,tv⟩ ?_
  refine wmr (mto (n:=28) (l':=[(2,Q35)]) (own':=[Qsw p0,.own 1 [[.mp 2]],Qgg y2]) [(2,Q35)] [0,1,2] [Qsw p0,.own 1 [[.mp 2]],Qgg y2] hq (pc (.rn (Qby rn0 (rnc (rqr rfl) (rnc (rqr rfl) rn0)))) pn) (qbi (qb (lc (.rn (Qme rfl)) ln) (qc Qh4 qn))))<|Qad ?_
  obtain rfl:=osi h
  exact⟨_,Mor.rfl,Zip (vs:=[Q35]) ⟨rot,tv⟩ rfl (NLt.fn _ _ _ nl0 (nlc (NLt.ref _ _ _ _ (by decide)) (nlc (NLt.ref _ _ _ _ (by decide)) nl0))) (by kernel_rfl) (Qdt (Qkg (nlc (NLt.of0 (nld Qcg _)) (nlc (NLt.of0 (nld Qau _)) nl0))) (Qdt (Qkg (nlc (NLt.mp _ (by decide)) nl0)) (Qdt Zlv Qkf)))⟩
 refine wx tbk [(2,rp _ _)] ⟨alq 7 Qaj p0.Elements Xa2,tv⟩<|Qaf ?_
 refine wmr (mto (n:=28) (l':=[(1,.ref 0 2 0 0),(3,.ref 1 1 0 0),(10,Qwu p0),(11,I (p0.Elements.length:Int)),(12,I 0)]) (own':=[Qsw p0,.own 1 [[.mp 2]],Qgg ([]:List (Int×Int))]) [(1,.ref 0 2 0 0),(3,.ref 2 1 0 0),(10,Qwu p0),(11,I (p0.Elements.length:Int)),(12,I 0)] [0,2,1] [Qsw p0,.own 1 [[.mp 1]],Qgg ([]:List (Int×Int))] hq (prr (prr (pqi (pw (pw pn))))) (qbi (qb (lc (.rn (Qme rfl)) ln) (qc Qh4 qn)))) ?_
 refine Qbf (τ:=Int×(List (Int×Int))) (fun n t=>Qfh N p0 k3 n t.1 t.2=some r) (fun ⟨y4,y5⟩=>⟨mk 28 [(1,.ref 0 2 0 0),(3,.ref 1 1 0 0),(10,Qwu p0),(11,I (p0.Elements.length:Int)),(12,I y4)],[Qsw p0,.own 1 [[.mp 2]],Qgg y5]⟩) (fun t h=>by rw[Qfh] at h;cases h) (fun n8 ih t h=>?_) N (0,([]:List (Int×Int))) h
 obtain⟨y4,y5⟩:=t
 rw[Qfh] at h
 refine wxz<|wsq<|bfq h (fun c9 h=>?_) fun c9 h=>?_
 ·refine Qah<|thn ?_
  refine wjq h (fun y10=>⟨mk 28 [(1,.ref 0 2 0 0),(3,.ref 1 1 0 0),(10,Qwu p0),(11,I (p0.Elements.length:Int)),(12,I y4)],[Qsw p0,.own 1 [[.mp 2]],Qgg y10]⟩) (fun y10 h=>?_) fun k11 h=>?_
  ·exact wxz1<|thn<|arm (mto (n:=28) [(1,.ref 0 2 0 0),(3,.ref 1 1 0 0),(10,Qwu p0),(11,I (p0.Elements.length:Int)),(12,I (w64 (y4+1)))] [0,1,2] [Qsw p0,.own 1 [[.mp 2]],Qgg y10] hq (prr (prr (pqi (pw (pw pn))))) (qbi (qb (lc (.rn (Qme rfl)) ln) (qc Qh4 qn)))) (ih (w64 (y4+1),y10) h)
  refine Qaf ?_
  refine bgq h fun x12 i14 j15 h=>wx tbk [(0,rp _ _)] ⟨aiq Xa2 Qo8 Qaj i14 j15,tv⟩ ?_
  refine wx tbk [(2,rp _ _)] ⟨alq 2 Qew x12.From Xcq,tv⟩<|Qaf ?_
  refine wmr (mto (n:=28) (l':=[(1,.ref 0 2 0 0),(3,.ref 1 1 0 0),(10,Qwu p0),(11,I (p0.Elements.length:Int)),(12,I y4),(17,Q9n x12),(18,I (x12.From.length:Int)),(19,I 0)]) (own':=[Qsw p0,.own 1 [[.mp 2]],Qgg y5]) [(1,.ref 0 2 0 0),(3,.ref 1 1 0 0),(10,Qwu p0),(11,I (p0.Elements.length:Int)),(12,I y4),(17,Q9n x12),(18,I (x12.From.length:Int)),(19,I 0)] [0,1,2] [Qsw p0,.own 1 [[.mp 2]],Qgg y5] hq (prr (prr (pqi (pw (pw (pqi (pw (pw pn)))))))) (qbi (qb (lc (.rn (Qme rfl)) ln) (qc Qh4 qn)))) ?_
  refine Qbf (τ:=Int×(List (Int×Int))) (fun n t=>Qfg N k11 x12 n t.1 t.2=some r) (fun ⟨y16,y17⟩=>⟨mk 28 [(1,.ref 0 2 0 0),(3,.ref 1 1 0 0),(10,Qwu p0),(11,I (p0.Elements.length:Int)),(12,I y4),(17,Q9n x12),(18,I (x12.From.length:Int)),(19,I y16)],[Qsw p0,.own 1 [[.mp 2]],Qgg y17]⟩) (fun t h=>by rw[Qfg] at h;cases h) (fun n20 ih t h=>?_) N (0,y5) h
  obtain⟨y16,y17⟩:=t
  rw[Qfg] at h
  refine wxz<|wsq<|bfq h (fun c21 h=>?_) fun c21 h=>?_
  ·refine Qah<|thn<|wsq<|Qaf ?_
   exact bgq h fun x22 i24 j25 h=>wx tbk [(0,rp _ _)] ⟨aiq Xcq ti99 Qew i24 j25,tv⟩<|wx1 tbk [(2,⟨[(.tmp 23,.mp 2),(.tmp 24,.agg [I x22.Element,I x22.Outlet]),cb true],[(2,Qgg y17)],.any,[(2,Qgg (addQ y17 (x22.Element,x22.Outlet)))],false⟩)] ⟨Qzr rfl Xd2 Xb6 Zdp Zdg,tv⟩<|bln<|thn<|wxz1<|thn<|arm (mto (n:=28) [(1,.ref 0 2 0 0),(3,.ref 1 1 0 0),(10,Qwu p0),(11,I (p0.Elements.length:Int)),(12,I y4),(17,Q9n x12),(18,I (x12.From.length:Int)),(19,I (w64 (y16+1)))] [0,1,2] [Qsw p0,.own 1 [[.mp 2]],Qgg (addQ y17 (x22.Element,x22.Outlet))] hq (prr (prr (pqi (pw (pw (pqi (pw (pw pn)))))))) (qbi (qb (lc (.rn (Qme rfl)) ln) (qc Qh4 qn)))) (ih (w64 (y16+1),addQ y17 (x22.Element,x22.Outlet)) h)
  exact Qax<|Qan<|Qan<|Qaw rfl<|bln<|thn<|⟨y17,h,mto (n:=28) [(1,.ref 0 2 0 0),(3,.ref 1 1 0 0),(10,Qwu p0),(11,I (p0.Elements.length:Int)),(12,I y4)] [0,1,2] [Qsw p0,.own 1 [[.mp 2]],Qgg y17] hq (prr (prr (pqi (pw (pw pn))))) (qbi (qb (lc (.rn (Qme rfl)) ln) (qc Qh4 qn)))⟩
 exact Qax<|Qan<|Qan<|Qaw rfl<|thn<|⟨y5,h,mto (n:=28) [(1,.ref 0 2 0 0),(3,.ref 1 1 0 0)] [0,1,2] [Qsw p0,.own 1 [[.mp 2]],Qgg y5] hq (prr (prr pn)) (qbi (qb (lc (.rn (Qme rfl)) ln) (qc Qh4 qn)))⟩
def Qeo (N:Nat) (y1:Int) (p2:(List (Int×Int))) (k8:Unit->Option (List Qhm)) (x14:Int):Nat->Int->Option (List Qhm)
 |0,_=>none
 |n19+1,y15=>bif decide (y15<x14) then bif (!(p2.contains (y1,y15))) then yld (⟨y1,y15⟩:Qhm)<|Qeo N y1 p2 k8 x14 n19 (w64 (y15+1)) else Qeo N y1 p2 k8 x14 n19 (w64 (y15+1)) else k8 ()
def Qep (N:Nat) (p1:List Qam) (p2:(List (Int×Int))):Nat->Int->Option (List Qhm)
 |0,_=>none
 |n5+1,y1=>bif decide (y1<(p1.length:Int)) then Qb0 (fun _=>Qep N p1 p2 n5 (w64 (y1+1))) fun k8:Unit->Option (List Qhm)=>(getI p1 y1).bind fun x9=>(Qgb N x9).bind fun x14=>Qeo N y1 p2 k8 x14 N 0 else some ([])
def Qj9 (N:Nat) (_p0:List GRow) (p1:List Qam) (p2:(List (Int×Int))):Option (List Qhm):=Qep N p1 p2 N 0
abbrev Qwt (p1:List Qam):AV:=.dat 7 (p1.map Qaj)
abbrev Qws (p0:List GRow) (p1:List Qam):Slot:=.own 2 [[.dat 5 (p0.map Qat),Qwt p1]]
abbrev Qtm (y1 y15:Int):AV:=.agg [I y1,I y15]
def Qs7 (N:Nat) (p0:List GRow) (p1:List Qam) (p2:(List (Int×Int))) (r:List Qhm) (h:Qj9 N p0 p1 p2=some r):Qv0 prog 42 [.ref 0 2 (0) 0,.ref 1 1 (0) 0] [Qws p0 p1,.own 1 [[.mp 2]],Qgg p2] (fun x=>[.agg [I x.Element,I x.Outlet]]) r:=by
 refine Qvb func42 rfl rfl (fun X φ0 w0 l J hq _ hy=>?_)
 unfold Qj9 at h
 refine wx tbk [(2,rp _ _)] ⟨alq 7 Qaj p1 Xa2,tv⟩<|Qaf ?_
 refine wmr (mto (n:=36) (l':=[(0,.lit (.func (.yield l) #[] #[])),(2,.ref 1 1 0 0),(9,Qwt p1),(10,I (p1.length:Int)),(11,I 0)]) (own':=[Qws p0 p1,.own 1 [[.mp 2]],Qgg p2,.far (J (some r))]) [(0,.lit (.func (.yield l) #[] #[])),(2,.ref 1 1 0 0),(9,Qwt p1),(10,I (p1.length:Int)),(11,I 0)] [0,1,2,3] [Qws p0 p1,.own 1 [[.mp 2]],Qgg p2,.far (J (some r))] hq (pw (prr (pqi (pw (pw pn))))) (qbi (qb (lc (.rn (Qme rfl)) ln) (qc Qh4 (qc (.far _) qn))))) ?_
 refine Qbf (τ:=(Int)×List Qhm) (fun n t=>Qep N p1 p2 n t.1=some t.2) (fun ⟨y1,q2⟩=>⟨mk 36 [(0,.lit (.func (.yield l) #[] #[])),(2,.ref 1 1 0 0),(9,Qwt p1),(10,I (p1.length:Int)),(11,I y1)],[Qws p0 p1,.own 1 [[.mp 2]],Qgg p2,.far (J (some q2))]⟩) (fun t h=>by rw[Qep] at h;cases h) (fun n5 ih t h=>?_) N (0,r) h
 obtain⟨y1,q2⟩:=t
 rw[Qep] at h
 try dsimp only at h
 refine wxz<|wsq<|bfq h (fun c6 h=>?_) fun c6 h=>?_
 ·refine Qah<|thn ?_
  obtain⟨k8,ek8,h⟩:=jko h
  refine wjn (τ:=(Unit)×List Qhm) (fun t=>k8 t.1=some t.2) (fun ⟨_,q7⟩=>⟨mk 36 [(0,.lit (.func (.yield l) #[] #[])),(2,.ref 1 1 0 0),(9,Qwt p1),(10,I (p1.length:Int)),(11,I y1)],[Qws p0 p1,.own 1 [[.mp 2]],Qgg p2,.far (J (some q7))]⟩) (fun t h=>?_) ?_
  ·subst ek8
   obtain⟨_,q7⟩:=t
   exact wxz1<|thn<|arm (mto (n:=36) [(0,.lit (.func (.yield l) #[] #[])),(2,.ref 1 1 0 0),(9,Qwt p1),(10,I (p1.length:Int)),(11,I (w64 (y1+1)))] [0,1,2,3] [Qws p0 p1,.own 1 [[.mp 2]],Qgg p2,.far (J (some q7))] hq (pw (prr (pqi (pw (pw pn))))) (qbi (qb (lc (.rn (Qme rfl)) ln) (qc Qh4 (qc (.far _) qn))))) (ih (w64 (y1+1),q7) h)
  refine Qaf ?_
  refine bgq h fun x9 i11 j12 h=>wx tbk [(1,rp _ _)] ⟨aiq Xa2 Qo8 Qaj i11 j12,tv⟩<|bnq h fun x14 f13 h=>?_
  refine wx tbk [(1,rp _ _)] ⟨apw Zi2 (Qly N x9 _ f13),tv⟩<|Qaf ?_
  refine wmr (mto (n:=36) (l':=[(0,.lit (.func (.yield l) #[] #[])),(2,.ref 1 1 0 0),(4,I y1),(9,Qwt p1),(10,I (p1.length:Int)),(11,I y1),(17,I x14),(18,I 0)]) (own':=[Qws p0 p1,.own 1 [[.mp 2]],Qgg p2,.far (J (some q2))]) [(0,.lit (.func (.yield l) #[] #[])),(2,.ref 1 1 0 0),(4,I y1),(9,Qwt p1),(10,I (p1.length:Int)),(11,I y1),(17,I x14),(18,I 0)] [0,1,2,3] [Qws p0 p1,.own 1 [[.mp 2]],Qgg p2,.far (J (some q2))] hq (pw (prr (pw (pqi (pw (pw (pw (pw pn)))))))) (qbi (qb (lc (.rn (Qme rfl)) ln) (qc Qh4 (qc (.far _) qn))))) ?_
  refine Qbf (τ:=(Int)×List Qhm) (fun n t=>Qeo N y1 p2 k8 x14 n t.1=some t.2) (fun ⟨y15,q16⟩=>⟨mk 36 [(0,.lit (.func (.yield l) #[] #[])),(2,.ref 1 1 0 0),(4,I y1),(9,Qwt p1),(10,I (p1.length:Int)),(11,I y1),(17,I x14),(18,I y15)],[Qws p0 p1,.own 1 [[.mp 2]],Qgg p2,.far (J (some q16))]⟩) (fun t h=>by rw[Qeo] at h;cases h) (fun n19 ih t h=>?_) N (0,q2) h
  obtain⟨y15,q16⟩:=t
  rw[Qeo] at h
  try dsimp only at h
  refine wxz<|wsq<|bfq h (fun c20 h=>?_) fun c20 h=>?_
  ·refine Qah<|thn<|wsq<|Qaf<|wxz ?_
   refine wx tbk [(2,rp _ _)] ⟨Qbt (vs:=[I y1,I y15]) rfl ts99 tz99 rfl (by rfl) rfl,tv⟩<|bfe h (fun hb21 h=>?_) fun hb21 h=>?_
   ·obtain⟨q22,hy_,hq_⟩:=Q2c h
    clear h
    try dsimp only at hq_
    subst hq_
    have h:=hy_
    clear hy_
    refine Zny 7 [rb [(.tmp 2,.ref 1 1 0 0)] [(1,.own 1 [[.mp 2]])] (.mp 2),rb [(.tmp 7,.ref 4 2 0 0)] [(4,.own 2 [[I y1,I y15]])] (Qtm y1 y15),rb [(.tmp 24,.mp 2),(.tmp 25,Qtm y1 y15)] [(2,Qgg p2)] (B (p2.contains (y1,y15))),rp [(.tmp 26,B (p2.contains (y1,y15)))] (B (!(p2.contains (y1,y15)))),rp [(.tmp 27,B (!(p2.contains (y1,y15))))] (B true),rp [(.tmp 28,B true),(.tmp 0,.lit (.func (.yield l) #[] #[]))] (.lit (.func (.yield l) #[] #[])),rb [(.tmp 28,B true),(.tmp 7,.ref 4 2 0 0)] [(4,.own 2 [[I y1,I y15]])] (Qtm y1 y15),⟨[(.tmp 28,B true),(.tmp 29,.lit (.func (.yield l) #[] #[])),(.tmp 30,Qtm y1 y15)],[(3,.far (J (some ((⟨y1,y15⟩:Qhm)::q22))))],B true,[(3,.far (J (some q22)))],false⟩,rp [(.tmp 28,B true),(.tmp 31,B true)] (B false),rp [(.tmp 28,B true),(.tmp 32,B false),cb false] (B false)] [rb [(.tmp 2,.ref 1 1 0 0)] [(1,.own 1 [[.mp 2]])] (.mp 2),rb [(.tmp 7,.ref 4 2 0 0)] [(4,.own 2 [[I y1,I y15]])] (Qtm y1 y15),rb [(.tmp 24,.mp 2),(.tmp 25,Qtm y1 y15)] [(2,Qgg p2)] (B (p2.contains (y1,y15))),rp [(.tmp 26,B (p2.contains (y1,y15)))] (B (!(p2.contains (y1,y15)))),rp [(.tmp 27,B (!(p2.contains (y1,y15))))] (B true),rp [(.tmp 28,B true),(.tmp 0,.lit (.func (.yield l) #[] #[]))] (.lit (.func (.yield l) #[] #[])),rb [(.tmp 28,B true),(.tmp 7,.ref 4 2 0 0)] [(4,.own 2 [[I y1,I y15]])] (Qtm y1 y15),⟨[(.tmp 28,B true),(.tmp 29,.lit (.func (.yield l) #[] #[])),(.tmp 30,Qtm y1 y15)],[(3,.far (J (some ((⟨y1,y15⟩:Qhm)::q22))))],B false,[(3,.far (J none))],false⟩,rp [(.tmp 28,B true),(.tmp 31,B false)] (B true),rp [(.tmp 28,B true),(.tmp 32,B true),cb false] (B true)] (by exact⟨by kernel_rfl,by kernel_rfl⟩) (by exact⟨by kernel_rfl,by kernel_rfl⟩) rfl rfl rfl rfl (Qwr (Qq4 (rd':=(.tmp 29,.lit (.func (.yield l) #[] #[]))::[(.tmp 30,.agg [I ((⟨y1,y15⟩:Qhm).Element),I ((⟨y1,y15⟩:Qhm).Outlet)])]) ⟨rfl,lrf,rfl,lrf,tv⟩ (Qpu (x:=(⟨y1,y15⟩:Qhm)) (rest:=q22) rfl rfl hy rfl))) (⟨fun _ _=>ald rfl Zq5 (by decide) rfl (nle rfl) rfl,fun _ _=>ald rfl ti99 (by decide) rfl (nle rfl) rfl,fun _ _=>Qq3 rfl Xd2 Xb6 zb4 Zdp Zdg,fun _ _=>Qo2 rfl,fun _ _=>asb hb21 (amv rfl),fun _ _=>ag_ (amv rfl),fun _ _=>ag_ (ald rfl ti99 (by decide) rfl (nle rfl) rfl),fun _ h=>absurd rfl h,fun _ _=>ag_ (Qo2 rfl),fun _ _=>apk rfl rfl,tv⟩) (⟨fun _ _=>ald rfl Zq5 (by decide) rfl (nle rfl) rfl,fun _ _=>ald rfl ti99 (by decide) rfl (nle rfl) rfl,fun _ _=>Qq3 rfl Xd2 Xb6 zb4 Zdp Zdg,fun _ _=>Qo2 rfl,fun _ _=>asb hb21 (amv rfl),fun _ _=>ag_ (amv rfl),fun _ _=>ag_ (ald rfl ti99 (by decide) rfl (nle rfl) rfl),fun _ h=>absurd rfl h,fun _ _=>ag_ (Qo2 rfl),fun _ _=>apk rfl rfl,tv⟩) ?_ ?_
    ·exact wfa<|Qah<|bln<|thn<|wxz1<|thn<|arm (mto (n:=36) [(0,.lit (.func (.yield l) #[] #[])),(2,.ref 1 1 0 0),(4,I y1),(9,Qwt p1),(10,I (p1.length:Int)),(11,I y1),(17,I x14),(18,I (w64 (y15+1)))] [0,1,2,3] [Qws p0 p1,.own 1 [[.mp 2]],Qgg p2,.far (J (some q22))] hq (pw (prr (pw (pqi (pw (pw (pw (pw pn)))))))) (qbi (qb (lc (.rn (Qme rfl)) ln) (qc Qh4 (qc (.far _) qn))))) (ih (w64 (y15+1),q22) h)
    clear h
    refine wtr<|Qad<|Qal<|Qac<|Qac<|Qal<|Qal<|Qac<|Qac<|Qal ?_
    exact Or.inr (by kernel_rfl)
   exact wx tbk [(2,rb [(.tmp 24,.mp 2),(.tmp 25,Qtm y1 y15)] [(2,Qgg p2)] (B (p2.contains (y1,y15)))),(4,rp [(.tmp 27,B (!(p2.contains (y1,y15))))] (B false))] ⟨Qq3 rfl Xd2 Xb6 zb4 Zdp Zdg,asb hb21 (amv rfl),tv⟩<|wfa<|Qah<|bln<|thn<|wxz1<|thn<|arm (mto (n:=36) [(0,.lit (.func (.yield l) #[] #[])),(2,.ref 1 1 0 0),(4,I y1),(9,Qwt p1),(10,I (p1.length:Int)),(11,I y1),(17,I x14),(18,I (w64 (y15+1)))] [0,1,2,3] [Qws p0 p1,.own 1 [[.mp 2]],Qgg p2,.far (J (some q16))] hq (pw (prr (pw (pqi (pw (pw (pw (pw pn)))))))) (qbi (qb (lc (.rn (Qme rfl)) ln) (qc Qh4 (qc (.far _) qn))))) (ih (w64 (y15+1),q16) h)
  exact Qax<|Qan<|Qan<|Qaw rfl<|bln<|thn<|⟨((),q16),h,mto (n:=36) [(0,.lit (.func (.yield l) #[] #[])),(2,.ref 1 1 0 0),(9,Qwt p1),(10,I (p1.length:Int)),(11,I y1)] [0,1,2,3] [Qws p0 p1,.own 1 [[.mp 2]],Qgg p2,.far (J (some q16))] hq (pw (prr (pqi (pw (pw pn))))) (qbi (qb (lc (.rn (Qme rfl)) ln) (qc Qh4 (qc (.far _) qn))))⟩
 refine Qax<|Qan<|Qan<|Qaw rfl ?_
 obtain rfl:=osi h
 exact Or.inl (by kernel_rfl)
def Qf8 (N:Nat) (x2:(Qm2×Int×Int)) (k11:Int×Int×Int×Int×(List Qaa)->Option (Qaa×Qaa×Qbp×Int)):Nat->Int->Int->Int->Int->Int->(List Qaa)->Option (Qaa×Qaa×Qbp×Int)
 |0,_,_,_,_,_,_=>none
 |n28+1,y16,y17,y18,y19,y20,y21=>bif decide (y16<(x2.1.Lost.length:Int)) then (getI x2.1.Lost y16).bind fun x30=>Qf8 N x2 k11 n28 (w64 (y16+1)) (w64 (y17+x30.Heat)) (w64 (y18+x30.Silica)) (w64 (y19+x30.Gas)) (w64 (y20+x30.Scale)) y21 else k11 (y17,y18,y19,y20,y21)
def Qfd (N:Nat) (x2:(Qm2×Int×Int)) (k5:(List Qaa)->Option (Qaa×Qaa×Qbp×Int)):(List Qhm)->(List Qaa)->Option (Qaa×Qaa×Qbp×Int)
 |[],y38=>k5 y38
 |x41::q42,y38=>(getI x2.1.Out x41.Element).bind fun x50=>(getI x50 x41.Outlet).bind fun x54=>chk (decide ((y38.length+([x54]).length)*32<=140737488355328))<|Qfd N x2 k5 q42 (y38++([x54]))
def Qmj (N:Nat) (p0:GNet) (p1:List Int) (p2:List Qaa):Option (Qaa×Qaa×Qbp×Int):=(Que N p0 p1 p2).bind fun x2=>bif (x2.2.2 != 0) then some ((⟨0,0,0,0⟩:Qaa),(⟨0,0,0,0⟩:Qaa),(⟨0,0,0,0⟩:Qbp),x2.2.2) else Qb0 (fun y4=>Qb0 (fun ⟨y6,y7,y8,y9,y10⟩=>(Qgt N p2).bind fun x13=>(Qgt N y10).bind fun x15=>some (x13,x15,(⟨y6,y7,y8,y9⟩:Qbp),0)) fun k11:Int×Int×Int×Int×(List Qaa)->Option (Qaa×Qaa×Qbp×Int)=>Qf8 N x2 k11 N 0 0 0 0 0 y4) fun k5:(List Qaa)->Option (Qaa×Qaa×Qbp×Int)=>(Qka N p0).bind fun x35=>(Qj9 N p0.Table p0.Elements x35).bind fun q36=>Qfd N x2 k5 q36 ([])
abbrev Zw8 (p0:GNet):AV:=.agg [.dat 5 (p0.Table.map Qat),.dat 7 (p0.Elements.map Qaj)]
abbrev Qz2 (p2:List Qaa):AV:=.dat 4 (p2.map Qag)
abbrev Zem (x2:(Qm2×Int×Int)):AV:=.dat 4 (x2.1.Lost.map Qa9)
abbrev Zen:AV:=.agg [I (0),I (0),I (0),I (0)]
abbrev Qkr:Slot:=.own 4 [[I (0),I (0),I (0),I (0)]]
abbrev Qxk (x2:(Qm2×Int×Int)):Slot:=.own 3 [[.dat 1 (x2.1.Out.map Qao),Zem x2,.dat 1 (x2.1.State.map Qab)]]
abbrev Zud (x13:Qaa):AV:=.agg [I x13.Mass,I x13.Heat,I x13.Silica,I x13.Gas]
abbrev Zob (x15:Qaa):AV:=.agg [I x15.Mass,I x15.Heat,I x15.Silica,I x15.Gas]
abbrev Zoc:AV:=.fn (.func 42) [] [.ref 6 2 (0) 0,.ref 7 1 (0) 0]
abbrev Zkl (p0:GNet):Slot:=.own 2 [[.dat 5 (p0.Table.map Qat),.dat 7 (p0.Elements.map Qaj)]]
abbrev Zeo (x54:Qaa):AV:=.agg [I x54.Mass,I x54.Heat,I x54.Silica,I x54.Gas]
def Qwz (N:Nat) (p0:GNet) (p1:List Int) (p2:List Qaa) (r:(Qaa×Qaa×Qbp×Int)) (h:Qmj N p0 p1 p2=some r):Spec prog 8 [.agg (Qpt p0),.dat 1 (p1.map Qab),.dat 4 (p2.map Qag)] [] (.tup [.agg (Qag r.1),.agg (Qag r.2.1),.agg (Qa9 r.2.2.1),I r.2.2.2]) []:=by
 refine sA func8 0 fun _ _ _ hq hd0=>?_
 unfold Qmj at h
 refine wxz<|bnq h fun x2 f1 h=>wx tbk [(3,rp _ _)] ⟨apw Zti (Q79 N p0 p1 p2 _ f1),tv⟩<|wsq<|wxz<|bfq h (fun c3 h=>?_) fun c3 h=>?_
 ·refine wxe<|Qad<|Qac ?_
  obtain rfl:=osi h
  exact fie [Zen,Zen,Zen,I x2.2.2] ⟨Qbv (n:=1) (m:=4) (j:=0) (i:=0) (xs:=[[I 0,I 0,I 0,I 0]]) (by kernel_rfl) (by kernel_rfl) ti40 (by decide) rfl (nle rfl) rfl,Qbv (n:=2) (m:=4) (j:=0) (i:=0) (xs:=[[I 0,I 0,I 0,I 0]]) (by kernel_rfl) (by kernel_rfl) ti40 (by decide) rfl (nle rfl) rfl,Qbv (n:=3) (m:=4) (j:=0) (i:=0) (xs:=[[I 0,I 0,I 0,I 0]]) (by kernel_rfl) (by kernel_rfl) ti42 (by decide) rfl (nle rfl) rfl,rot,tv⟩
 refine Qah<|thn<|wxz ?_
 refine wjq h (fun y4=>⟨mk 80 [(2,Qz2 p2),(6,.ref 0 4 0 0),(7,.ref 1 4 0 0),(8,.ref 2 4 0 0),(10,.ref 3 3 0 0),(12,.ref 4 1 0 0)],[Qkr,Qkr,Qkr,Qxk x2,.own 1 [[.acc 5 40 4 (y4.map Qag)]],.tok]⟩) (fun y4 h=>?_) fun k5 h=>?_
 ·refine wjq h (fun ⟨y6,y7,y8,y9,y10⟩=>⟨mk 80 [(2,Qz2 p2),(6,.ref 0 4 0 0),(7,.ref 1 4 0 0),(8,.ref 2 4 0 0),(12,.ref 3 1 0 0)],[Qkr,Qkr,.own 4 [[I y6,I y7,I y8,I y9]],.own 1 [[.acc 4 40 4 (y10.map Qag)]],.tok]⟩) (fun t h=>?_) fun k11 h=>?_
  ·obtain⟨y6,y7,y8,y9,y10⟩:=t
   refine bnq h fun x13 f12 h=>bnq h fun x15 f14 h=>?_
   refine wxd tbk [(1,rp _ _),(3,rp [fu 23,(.tmp 77,.acc 4 40 4 (y10.map Qag))] (Zob x15))] ⟨apw Qzc (Qlj N p2 _ f12),awk (rd':=(.func 23,.fn (.func 23) [] [])::[(.tmp 77,.dat 4 (y10.map Qag))]) ⟨rfl,lrf,rfl,Less.acc,tv⟩ (apv Qzc (Qlj N y10 _ f14) (nlc (nld Qaq _) nl0) (NLt.agg _ (nlcc (nlcc nl0)))),tv⟩<|Qad ?_
   obtain rfl:=osi h
   exact fie [Zud x13,Zob x15,.agg [I y6,I y7,I y8,I y9],I 0] ⟨Qbv (n:=0) (m:=4) (j:=0) (i:=0) (xs:=[[I x13.Mass,I x13.Heat,I x13.Silica,I x13.Gas]]) (by kernel_rfl) (by kernel_rfl) ti40 (by decide) rfl (nle rfl) rfl,Qbv (n:=1) (m:=4) (j:=0) (i:=0) (xs:=[[I x15.Mass,I x15.Heat,I x15.Silica,I x15.Gas]]) (by kernel_rfl) (by kernel_rfl) ti40 (by decide) rfl (nle rfl) rfl,Qbv (n:=2) (m:=4) (j:=0) (i:=0) (xs:=[[I y6,I y7,I y8,I y9]]) (by kernel_rfl) (by kernel_rfl) ti42 (by decide) rfl (nle rfl) rfl,rot,tv⟩
  refine wx tbk [(2,rp _ _)] ⟨alq 4 Qa9 x2.1.Lost Xdc,tv⟩<|Qaf ?_
  refine wmr (mto (n:=80) (l':=[(2,Qz2 p2),(6,.ref 0 4 0 0),(7,.ref 1 4 0 0),(8,.ref 2 4 0 0),(12,.ref 3 1 0 0),(47,Zem x2),(48,I (x2.1.Lost.length:Int)),(49,I 0)]) (own':=[Qkr,Qkr,Qkr,.own 1 [[.acc 4 40 4 (y4.map Qag)]],.tok]) [(2,Qz2 p2),(6,.ref 0 4 0 0),(7,.ref 1 4 0 0),(8,.ref 2 4 0 0),(12,.ref 4 1 0 0),(47,Zem x2),(48,I (x2.1.Lost.length:Int)),(49,I 0)] [0,1,2,4,5] [Qkr,Qkr,Qkr,.own 1 [[.acc 5 40 4 (y4.map Qag)]],.tok] hq (pqi (prr (prr (prr (prr (pqi (pw (pw pn)))))))) (qbi (qbi (qbi (qb (lc (.rn (Qcv rfl (Qcf Qaq _))) ln) (qc .tok qn)))))) ?_
  refine Qbf (τ:=Int×Int×Int×Int×Int×(List Qaa)) (fun n t=>Qf8 N x2 k11 n t.1 t.2.1 t.2.2.1 t.2.2.2.1 t.2.2.2.2.1 t.2.2.2.2.2=some r) (fun ⟨y16,y17,y18,y19,y20,y21⟩=>⟨mk 80 [(2,Qz2 p2),(6,.ref 0 4 0 0),(7,.ref 1 4 0 0),(8,.ref 2 4 0 0),(12,.ref 3 1 0 0),(47,Zem x2),(48,I (x2.1.Lost.length:Int)),(49,I y16)],[Qkr,Qkr,.own 4 [[I y17,I y18,I y19,I y20]],.own 1 [[.acc 4 40 4 (y21.map Qag)]],.tok]⟩) (fun t h=>by rw[Qf8] at h;cases h) (fun n28 ih t h=>?_) N (0,0,0,0,0,y4) h
  obtain⟨y16,y17,y18,y19,y20,y21⟩:=t
  rw[Qf8] at h
  refine wxz<|wsq<|bfq h (fun c29 h=>?_) fun c29 h=>?_
  ·refine Qah<|thn<|wsq<|Qaf ?_
   exact bgq h fun x30 i32 j33 h=>wx tbk [(0,rp _ _)] ⟨aiq Xdc ti42 Qa9 i32 j33,tv⟩<|wx1 tbk [(20,rp _ _)] ⟨Qbt (vs:=[I (w64 (y17+x30.Heat)),I (w64 (y18+x30.Silica)),I (w64 (y19+x30.Gas)),I (w64 (y20+x30.Scale))]) rfl ts42 tz42 rfl (by rfl) rfl,tv⟩<|bln<|thn<|wxz1<|thn<|arm (mto (n:=80) [(2,Qz2 p2),(6,.ref 0 4 0 0),(7,.ref 1 4 0 0),(8,.ref 2 4 0 0),(12,.ref 3 1 0 0),(47,Zem x2),(48,I (x2.1.Lost.length:Int)),(49,I (w64 (y16+1)))] [0,1,2,3,4] [Qkr,Qkr,.own 4 [[I (w64 (y17+x30.Heat)),I (w64 (y18+x30.Silica)),I (w64 (y19+x30.Gas)),I (w64 (y20+x30.Scale))]],.own 1 [[.acc 4 40 4 (y21.map Qag)]],.tok] hq (pqi (prr (prr (prr (prr (pqi (pw (pw pn)))))))) (qbi (qbi (qbi (qb (lc (.rn (Qcv rfl (Qcf Qaq _))) ln) (qc .tok qn)))))) (ih (w64 (y16+1),w64 (y17+x30.Heat),w64 (y18+x30.Silica),w64 (y19+x30.Gas),w64 (y20+x30.Scale),y21) h)
  exact Qax<|Qan<|Qan<|Qaw rfl<|thn<|⟨(y17,y18,y19,y20,y21),h,mto (n:=80) [(2,Qz2 p2),(6,.ref 0 4 0 0),(7,.ref 1 4 0 0),(8,.ref 2 4 0 0),(12,.ref 3 1 0 0)] [0,1,2,3,4] [Qkr,Qkr,.own 4 [[I y17,I y18,I y19,I y20]],.own 1 [[.acc 4 40 4 (y21.map Qag)]],.tok] hq (pqi (prr (prr (prr (prr pn))))) (qbi (qbi (qbi (qb (lc (.rn (Qcv rfl (Qcf Qaq _))) ln) (qc .tok qn)))))⟩
 refine bnq h fun x35 f34 h=>?_
 refine wx tbk [(1,⟨_,_,_,_,false⟩)] ⟨acq [Zw8 p0] [] [Zkl p0,.own 1 [[.mp 8]],Qgg x35] Zoc [6,7,8] Zth (Qs8 N p0 _ f34) pli Qai (sbi (slc (Qcr (rnc (Zpq rfl) rn0)) (slc Za0 Qai))) (Qby rn0 (rnc (Qb7 rfl) (rnc (Qb7 rfl) rn0))),tv⟩<|Qaf ?_
 refine bnq h fun q36 hL37 h=>wmr (mto (n:=80) (l':=[(2,Qz2 p2),(6,.ref 0 4 0 0),(7,.ref 1 4 0 0),(8,.ref 2 4 0 0),(10,.ref 3 3 0 0),(12,.ref 4 1 0 0),(31,.fn (.func 42) [] [.ref 5 2 0 0,.ref 6 1 0 0])]) (own':=[Qkr,Qkr,Qkr,Qxk x2,.own 1 [[nilS]],Zkl p0,.own 1 [[.mp 7]],Qgg x35]) [(2,Qz2 p2),(6,.ref 1 4 0 0),(7,.ref 2 4 0 0),(8,.ref 3 4 0 0),(10,.ref 4 3 0 0),(12,.ref 5 1 0 0),(31,Zoc)] [1,2,3,4,5,6,7,8] [Qkr,Qkr,Qkr,Qxk x2,.own 1 [[nilS]],Zkl p0,.own 1 [[.mp 8]],Qgg x35] hq (pqi (prr (prr (prr (prr (prr (pc (.rn (Qby rn0 (rnc (rqr rfl) (rnc (rqr rfl) rn0)))) pn))))))) (qbi (qbi (qbi (qbi (qbi (qbi (qb (lc (.rn (Qme rfl)) ln) (qc Qh4 qn))))))))) ?_
 refine wmr (Qpq (n:=8) (ty:=40) (m:=4) (q:=4) (mq:=1) (c:=[nilS]) 0 (by kernel_rfl) (by kernel_rfl) (by kernel_rfl) (by decide)) ?_
 refine Qvx (τ:=(List Qaa)) (kb:=8) (caps:=[.ref 5 2 0 0,.ref 6 1 0 0]) (σr:=[Zkl p0,.own 1 [[.mp 7]],Qgg x35]) (encs:=fun x=>[.agg [I x.Element,I x.Outlet]]) (fun x=>[.agg [I x.Element,I x.Outlet]]) [5,6,7] (fun n hn=>hq n (Xcn (nle rfl) hn)) hd0 (Qs7 N p0.Table p0.Elements x35 _ hL37) Ztc (by kernel_rfl) (by kernel_rfl) (Qct (rnc (Qb7 rfl) (rnc (Qb7 rfl) rn0))) (sbi (slc (Qcr (rnc (Zpq rfl) rn0)) (slc Za0 Qai))) (by kernel_rfl) (fun _=>rfl) (fun x=>(nlc (NLt.agg _ (nlcc nl0)) nl0)) (fun x=>⟨lrf,tv⟩) (Zhq (Qmk (NLt.of0 (nld Qaq _)) (Qmk (NLt.ref _ _ _ _ (by decide)) (Qmk (NLt.ref _ _ _ _ (by decide)) (Qmk (NLt.ref _ _ _ _ (by decide)) (Qmk (NLt.ref _ _ _ _ (by decide)) (Qmk (NLt.ref _ _ _ _ (by decide)) (Qmk (NLt.fn _ _ _ nl0 (nlc (NLt.ref _ _ _ _ (by decide)) (nlc (NLt.ref _ _ _ _ (by decide)) nl0))) Q8e)))))))) (fun y38=>[Qkr,Qkr,Qkr,Qxk x2,.own 1 [[.acc 8 40 4 (y38.map Qag)]],.dead,.dead,.dead,.tok]) (fun _=>rfl) (fun l t=>Qfd N x2 k5 l t=some r) ([]) h (by kernel_rfl) ?_ ?_
 ·intro l43 o44 X47 φ48 w49 hφ46 x41 q42 y38 h
  rw[Qfd] at h
  refine wxz1 ?_
  refine⟨by kernel_rfl,fun o45=>?_⟩
  refine Qaf ?_
  refine bgq h fun x50 i52 j53 h=>bgq h fun x54 i56 j57 h=>ckq h fun a58 h=>wy1 tbk [(5,rp _ _),(9,rp _ _),(11,rp [(.tmp 43,Zeo x54)] (.dat 4 (([x54]:List Qaa).map Qag))),(12,⟨[(.tmp 33,.acc 8 40 4 (y38.map Qag)),(.tmp 44,.dat 4 (([x54]:List Qaa).map Qag))],[(8,.tok),(11,.unused)],.acc 11 40 4 ((y38++([x54]):List Qaa).map Qag),[(8,.dead),(11,.tok)],false⟩)] ⟨aiq Xcx ti52 Qao i52 j53,aiq Xa4 ti40 Qag i56 j57,Qds (vs:=[Zeo x54]) rfl Xa4 ti40 tz40 rfl (by decide) rfl (by decide) (by rfl) (by rfl) (by rfl) rfl,Qg7 rfl Xa4 te40 (Base.acc _ _) rfl rfl (by rfl) (Qkk Qag a58) (Qkj Qag a58 (by decide)) (Qki Qag) rfl rfl,tv⟩<|bln ?_
  exact⟨y38++([x54]),h,Zg9 (own':=[Qkr,Qkr,Qkr,Qxk x2,.own 1 [[.acc 8 40 4 ((y38++([x54]):List Qaa).map Qag)]],.dead,.dead,.dead,.tok,.far (farL l43 o45)]) [0,1,2,3,4,5,6,7,11,9] [Qkr,Qkr,Qkr,Qxk x2,.own 1 [[.acc 11 40 4 ((y38++([x54]):List Qaa).map Qag)]],.dead,.dead,.dead,.tok,.far (farL l43 o45)] (by kernel_rfl) (by kernel_rfl) ⟨spb (lcc (lcc ln)),spb (lcc (lcc ln)),spb (lcc (lcc ln)),spb (lc (rnd Qa6) (lc (rnd Qcp) (lc (rnd Qar) ln))),spb (lc (.rn (Qcv rfl (Qcf Qaq _))) ln),.dead,.dead,.dead,.tok,.far _,tv⟩⟩
 intro y38 h
 rw[Qfd] at h
 exact bln<|thn<|⟨y38,h,mto (n:=80) [(2,Qz2 p2),(6,.ref 0 4 0 0),(7,.ref 1 4 0 0),(8,.ref 2 4 0 0),(10,.ref 3 3 0 0),(12,.ref 4 1 0 0)] [0,1,2,3,4,8] [Qkr,Qkr,Qkr,Qxk x2,.own 1 [[.acc 8 40 4 (y38.map Qag)]],.tok] hq (pqi (prr (prr (prr (prr (prr pn)))))) (qbi (qbi (qbi (qbi (qb (lc (.rn (Qcv rfl (Qcf Qaq _))) ln) (qc .tok qn))))))⟩
end
section
def Qc2 (N:Nat) (p0:Qav) (y18:Int) (k28:(Nat->Int)×(Nat->Int)->Option ((Nat->Int)×(Nat->Int))) (x29:Qc8):Nat->Int->(Nat->Int)->(Nat->Int)->Option ((Nat->Int)×(Nat->Int))
 |0,_,_,_=>none
 |n39+1,y33,y34,y35=>bif decide (y33<p0.Sites) then chk (decide (0<=x29.To)&&decide (x29.To.toNat<12))<|chk (decide (0<=y33)&&decide (y33.toNat<12))<|(some (w64 (x29.Seen.Hi+(y34 (x29.To.toNat*12+y33.toNat))))).bind fun x43=>chk (decide (0<=x29.From)&&decide (x29.From.toNat<12))<|chk (decide (0<=y33)&&decide (y33.toNat<12))<|bif decide (x43<(y34 (x29.From.toNat*12+y33.toNat))) then chk (decide (0<=x29.From)&&decide (x29.From.toNat<12))<|chk (decide (0<=y33)&&decide (y33.toNat<12))<|chk (decide (0<=x29.From)&&decide (x29.From.toNat<12))<|chk (decide (0<=y33)&&decide (y33.toNat<12))<|Qc2 N p0 y18 k28 x29 n39 (w64 (y33+1)) (setF y34 (x29.From.toNat*12+y33.toNat) x43) (setF y35 (x29.From.toNat*12+y33.toNat) y18) else Qc2 N p0 y18 k28 x29 n39 (w64 (y33+1)) y34 y35 else k28 (y34,y35)
def Qcd (N:Nat) (p0:Qav) (k16:(Nat->Int)×(Nat->Int)->Option ((Nat->Int)×(Nat->Int))):Nat->Int->(Nat->Int)->(Nat->Int)->Option ((Nat->Int)×(Nat->Int))
 |0,_,_,_=>none
 |n24+1,y18,y19,y20=>bif decide (y18<(p0.Tests.length:Int)) then Qb0 (fun ⟨y26,y27⟩=>Qcd N p0 k16 n24 (w64 (y18+1)) y26 y27) fun k28:(Nat->Int)×(Nat->Int)->Option ((Nat->Int)×(Nat->Int))=>(getI p0.Tests y18).bind fun x29=>Qc2 N p0 y18 k28 x29 N 0 y19 y20 else k16 (y19,y20)
def Qbo (N:Nat) (p0:Qav) (k8:(Nat->Int)×(Nat->Int)->Option ((Nat->Int)×(Nat->Int))):Nat->(Nat->Int)->(Nat->Int)->Option ((Nat->Int)×(Nat->Int))
 |0,_,_=>none
 |n13+1,y9,y10=>Qb0 (fun ⟨y14,y15⟩=>bif (arrI 144 y14==arrI 144 y9) then k8 (y14,y15) else Qbo N p0 k8 n13 y14 y15) fun k16:(Nat->Int)×(Nat->Int)->Option ((Nat->Int)×(Nat->Int))=>Qcd N p0 k16 N 0 y9 y10
def Qc1 (N:Nat) (y52:Int) (k62:(Nat->Int)×(Nat->Int)->Option ((Nat->Int)×(Nat->Int))):Nat->Int->(Nat->Int)->(Nat->Int)->Option ((Nat->Int)×(Nat->Int))
 |0,_,_,_=>none
 |n69+1,y63,y64,y65=>bif decide (y63<12) then chk (decide (0<=y52)&&decide (y52.toNat<12))<|chk (decide (0<=y63)&&decide (y63.toNat<12))<|bif (y52 != y63) then chk (decide (0<=y52)&&decide (y52.toNat<12))<|chk (decide (0<=y63)&&decide (y63.toNat<12))<|Qc1 N y52 k62 n69 (w64 (y63+1)) (setF y64 (y52.toNat*12+y63.toNat) 1000000) (setF y65 (y52.toNat*12+y63.toNat) (-1)) else Qc1 N y52 k62 n69 (w64 (y63+1)) y64 (setF y65 (y52.toNat*12+y63.toNat) (-1)) else k62 (y64,y65)
def Qcq (N:Nat) (k5:(Nat->Int)×(Nat->Int)->Option ((Nat->Int)×(Nat->Int))):Nat->Int->(Nat->Int)->(Nat->Int)->Option ((Nat->Int)×(Nat->Int))
 |0,_,_,_=>none
 |n58+1,y52,y53,y54=>bif decide (y52<12) then Qb0 (fun ⟨y60,y61⟩=>Qcq N k5 n58 (w64 (y52+1)) y60 y61) fun k62:(Nat->Int)×(Nat->Int)->Option ((Nat->Int)×(Nat->Int))=>Qc1 N y52 k62 N 0 y53 y54 else k5 (y53,y54)
def Qgy (N:Nat) (p0:Qav):Option ((Nat->Int)×(Nat->Int)):=Qb0 (fun ⟨y3,y4⟩=>Qb0 (fun ⟨y6,y7⟩=>some (y6,y7)) fun k8:(Nat->Int)×(Nat->Int)->Option ((Nat->Int)×(Nat->Int))=>Qbo N p0 k8 N y3 y4) fun k5:(Nat->Int)×(Nat->Int)->Option ((Nat->Int)×(Nat->Int))=>Qcq N k5 N 0 (fun _=>(0:Int)) (fun _=>(0:Int))
abbrev Qjk (p0:Qav):AV:=.dat 4 (p0.Tests.map Qbu)
abbrev Zuc (p0:Qav):AV:=.agg [I p0.Sites,Qjk p0]
abbrev Ql3 (p0:Qav):Slot:=.own 2 [[I p0.Sites,Qjk p0]]
abbrev Q6t (p0:Qav) (y3 y4:(Nat->Int)):Slot:=.own 290 [I p0.Sites::Qjk p0::(arrF 144 y3++arrF 144 y4)]
abbrev Zel (p0:Qav) (y6 y7:(Nat->Int)):Slot:=.own 290 [I p0.Sites::Qjk p0::(arrF 144 y6++arrF 144 y7)]
abbrev Q9m (p0:Qav) (y9 y10:(Nat->Int)):Slot:=.own 290 [I p0.Sites::Qjk p0::(arrF 144 y9++arrF 144 y10)]
abbrev Q9l (p0:Qav) (y14 y15:(Nat->Int)):Slot:=.own 290 [I p0.Sites::Qjk p0::(arrF 144 y14++arrF 144 y15)]
abbrev Q1p (p0:Qav) (y19 y20:(Nat->Int)):Slot:=.own 290 [I p0.Sites::Qjk p0::(arrF 144 y19++arrF 144 y20)]
abbrev Qqp (x29:Qc8):Slot:=.own 4 [[I x29.From,I x29.To,I x29.Seen.Lo,I x29.Seen.Hi]]
abbrev Qn0 (p0:Qav) (y34 y35:(Nat->Int)):Slot:=.own 290 [I p0.Sites::Qjk p0::(arrF 144 y34++arrF 144 y35)]
abbrev Zub (p0:Qav):Slot:=.own 290 [I p0.Sites::Qjk p0::(arrF 144 (fun _=>(0:Int))++arrF 144 (fun _=>(0:Int)))]
abbrev Q1o (p0:Qav) (y53 y54:(Nat->Int)):Slot:=.own 290 [I p0.Sites::Qjk p0::(arrF 144 y53++arrF 144 y54)]
abbrev Qu2 (p0:Qav) (y64 y65:(Nat->Int)):Slot:=.own 290 [I p0.Sites::Qjk p0::(arrF 144 y64++arrF 144 y65)]
abbrev Qu1 (p0:Qav) (y64 y65:(Nat->Int)) (y52 y63:Int):Slot:=.own 290 [I p0.Sites::Qjk p0::(arrF 144 y64++arrF 144 (setF y65 (y52.toNat*12+y63.toNat) (-1)))]
abbrev Zek (p0:Qav) (y64:(Nat->Int)) (y52 y63:Int) (y65:(Nat->Int)):Slot:=.own 290 [I p0.Sites::Qjk p0::(arrF 144 (setF y64 (y52.toNat*12+y63.toNat) 1000000)++arrF 144 (setF y65 (y52.toNat*12+y63.toNat) (-1)))]
def Qpc (N:Nat) (p0:Qav) (r:((Nat->Int)×(Nat->Int))) (h:Qgy N p0=some r):Spec prog 49 [Zuc p0] [] (.ref 0 290 (0) 0) [.own 290 [I p0.Sites::Qjk p0::(arrF 144 r.1++arrF 144 r.2)]]:=by
 refine sF func49 1 fun _ _ _ hq hd0=>?_
 unfold Qgy at h
 refine wxz<|Zjz ?_
 refine wx tbk [(1,rp _ _)] ⟨Qbt (vs:=[Zuc p0]) rfl Zxw Zvp rfl (by rfl) rfl,tv⟩<|wjq h (fun ⟨y3,y4⟩=>⟨mk 107 [(1,.ref 0 2 0 0),(3,.ref 1 290 0 0)],[Ql3 p0,Q6t p0 y3 y4]⟩) (fun t h=>?_) fun k5 h=>?_
 ·obtain⟨y3,y4⟩:=t
  refine wsq<|Zj4<|thn ?_
  refine wjq h (fun ⟨y6,y7⟩=>⟨mk 107 [(3,.ref 0 290 0 0)],[Zel p0 y6 y7]⟩) (fun t h=>?_) fun k8 h=>?_
  ·obtain⟨y6,y7⟩:=t
   refine wxz<|wmr (mto (n:=107) (l':=[(2,.ref 0 290 0 0)]) (own':=[Zel p0 y6 y7]) [(2,.ref 0 290 0 0)] [0] [Zel p0 y6 y7] hq (prr pn) (qb (lc rwl (lc (rnd Qbz) (Qek (Qbh fun _=>rwl) (Qbh fun _=>rwl)))) qn))<|Qad<|Zl2 ?_
   obtain rfl:=osi h
   exact⟨_,Mor.rfl,fio [.ref 0 290 0 0] ⟨rot,tv⟩⟩
  refine Qaf<|wmr (mto (n:=107) (l':=[(1,.ref 0 2 0 0),(3,.ref 1 290 0 0)]) (own':=[Ql3 p0,Q6t p0 y3 y4]) [(1,.ref 0 2 0 0),(3,.ref 1 290 0 0)] [0,1] [Ql3 p0,Q6t p0 y3 y4] hq (prr (prr pn)) (qbi (qb (lc rwl (lc (rnd Qbz) (Qek (Qbh fun _=>rwl) (Qbh fun _=>rwl)))) qn))) ?_
  refine Qbf (τ:=(Nat->Int)×(Nat->Int)) (fun n t=>Qbo N p0 k8 n t.1 t.2=some r) (fun ⟨y9,y10⟩=>⟨mk 107 [(1,.ref 0 2 0 0),(3,.ref 1 290 0 0)],[Ql3 p0,Q9m p0 y9 y10]⟩) (fun t h=>by rw[Qbo] at h;cases h) (fun n13 ih t h=>?_) N (y3,y4) h
  obtain⟨y9,y10⟩:=t
  rw[Qbo] at h
  refine Qaf<|wx tbk [(1,rb [(.tmp 39,.ref 1 290 0 0)] [(1,Q9m p0 y9 y10)] (.ref 1 290 0 0))] ⟨Qbi rfl,tv⟩ ?_
  refine wjq h (fun ⟨y14,y15⟩=>⟨mk 107 [(1,.ref 0 2 0 0),(3,.ref 1 290 0 0),(6,.ref 2 144 0 0)],[Ql3 p0,Q9l p0 y14 y15,.own 144 [arrF 144 y9]]⟩) (fun t h=>?_) fun k16 h=>?_
  ·obtain⟨y14,y15⟩:=t
   refine wxd tbk [(1,rb [(.tmp 100,.ref 1 290 0 0)] [(1,Q9l p0 y14 y15)] (.ref 1 290 0 0)),(5,rp [(.tmp 103,.agg (arrF 144 y14)),(.tmp 104,.agg (arrF 144 y9))] (B (arrI 144 y14==arrI 144 y9)))] ⟨Qbi rfl,Q9d (n:=144) (f:=y14) (g:=y9) rfl rfl Zwm (by kernel_rfl),tv⟩<|bfq h (fun c17 h=>?_) fun c17 h=>?_
   ·exact Qax<|Znu (by decide)<|Qan<|Qaw rfl<|thn<|⟨(y14,y15),h,mto (n:=107) [(3,.ref 1 290 0 0)] [1] [Q9l p0 y14 y15] hq (prr pn) (qb (lc rwl (lc (rnd Qbz) (Qek (Qbh fun _=>rwl) (Qbh fun _=>rwl)))) qn)⟩
   exact Qah<|bln<|thn<|arm (mto (n:=107) [(1,.ref 0 2 0 0),(3,.ref 1 290 0 0)] [0,1] [Ql3 p0,Q9l p0 y14 y15] hq (prr (prr pn)) (qbi (qb (lc rwl (lc (rnd Qbz) (Qek (Qbh fun _=>rwl) (Qbh fun _=>rwl)))) qn))) (ih (y14,y15) h)
  refine wx tbk [(2,rp _ _)] ⟨alq 4 Qbu p0.Tests Xb7,tv⟩<|Qaf ?_
  refine wmr (mto (n:=107) (l':=[(1,.ref 0 2 0 0),(3,.ref 1 290 0 0),(6,.ref 2 144 0 0),(44,Qjk p0),(45,I (p0.Tests.length:Int)),(46,I 0)]) (own':=[Ql3 p0,Q9m p0 y9 y10,.own 144 [arrF 144 y9]]) [(1,.ref 0 2 0 0),(3,.ref 1 290 0 0),(6,.ref 2 144 0 0),(44,Qjk p0),(45,I (p0.Tests.length:Int)),(46,I 0)] [0,1,2] [Ql3 p0,Q9m p0 y9 y10,.own 144 [arrF 144 y9]] hq (prr (prr (prr (pqi (pw (pw pn)))))) (qbi (qb (lc rwl (lc (rnd Qbz) (Qek (Qbh fun _=>rwl) (Qbh fun _=>rwl)))) (qb (Qbh fun _=>rwl) qn)))) ?_
  refine Qbf (τ:=Int×(Nat->Int)×(Nat->Int)) (fun n t=>Qcd N p0 k16 n t.1 t.2.1 t.2.2=some r) (fun ⟨y18,y19,y20⟩=>⟨mk 107 [(1,.ref 0 2 0 0),(3,.ref 1 290 0 0),(6,.ref 2 144 0 0),(44,Qjk p0),(45,I (p0.Tests.length:Int)),(46,I y18)],[Ql3 p0,Q1p p0 y19 y20,.own 144 [arrF 144 y9]]⟩) (fun t h=>by rw[Qcd] at h;cases h) (fun n24 ih t h=>?_) N (0,y9,y10) h
  obtain⟨y18,y19,y20⟩:=t
  rw[Qcd] at h
  refine wxz<|wsq<|bfq h (fun c25 h=>?_) fun c25 h=>?_
  ·refine Qah<|thn ?_
   refine wjq h (fun ⟨y26,y27⟩=>⟨mk 107 [(1,.ref 0 2 0 0),(3,.ref 1 290 0 0),(6,.ref 2 144 0 0),(44,Qjk p0),(45,I (p0.Tests.length:Int)),(46,I y18)],[Ql3 p0,.own 290 [I p0.Sites::Qjk p0::(arrF 144 y26++arrF 144 y27)],.own 144 [arrF 144 y9]]⟩) (fun t h=>?_) fun k28 h=>?_
   ·obtain⟨y26,y27⟩:=t
    exact wxz1<|thn<|arm (mto (n:=107) [(1,.ref 0 2 0 0),(3,.ref 1 290 0 0),(6,.ref 2 144 0 0),(44,Qjk p0),(45,I (p0.Tests.length:Int)),(46,I (w64 (y18+1)))] [0,1,2] [Ql3 p0,.own 290 [I p0.Sites::Qjk p0::(arrF 144 y26++arrF 144 y27)],.own 144 [arrF 144 y9]] hq (prr (prr (prr (pqi (pw (pw pn)))))) (qbi (qb (lc rwl (lc (rnd Qbz) (Qek (Qbh fun _=>rwl) (Qbh fun _=>rwl)))) (qb (Qbh fun _=>rwl) qn)))) (ih (w64 (y18+1),y26,y27) h)
   refine Qaf ?_
   refine bgq h fun x29 i31 j32 h=>?_
   refine wx tbk [(1,rp _ _)] ⟨aiq Xb7 ti88 Qbu i31 j32,tv⟩<|wxz<|Qaf ?_
   refine wmr (mto (n:=107) (l':=[(1,.ref 0 2 0 0),(3,.ref 1 290 0 0),(6,.ref 2 144 0 0),(7,I y18),(8,.ref 3 4 0 0),(44,Qjk p0),(45,I (p0.Tests.length:Int)),(46,I y18),(52,I p0.Sites),(53,I 0)]) (own':=[Ql3 p0,Q1p p0 y19 y20,.own 144 [arrF 144 y9],Qqp x29]) [(1,.ref 0 2 0 0),(3,.ref 1 290 0 0),(6,.ref 2 144 0 0),(7,I y18),(8,.ref 3 4 0 0),(44,Qjk p0),(45,I (p0.Tests.length:Int)),(46,I y18),(52,I p0.Sites),(53,I 0)] [0,1,2,3] [Ql3 p0,Q1p p0 y19 y20,.own 144 [arrF 144 y9],Qqp x29] hq (prr (prr (prr (pw (prr (pqi (pw (pw (pw (pw pn)))))))))) (qbi (qb (lc rwl (lc (rnd Qbz) (Qek (Qbh fun _=>rwl) (Qbh fun _=>rwl)))) (qb (Qbh fun _=>rwl) (qbi qn))))) ?_
   refine Qbf (τ:=Int×(Nat->Int)×(Nat->Int)) (fun n t=>Qc2 N p0 y18 k28 x29 n t.1 t.2.1 t.2.2=some r) (fun ⟨y33,y34,y35⟩=>⟨mk 107 [(1,.ref 0 2 0 0),(3,.ref 1 290 0 0),(6,.ref 2 144 0 0),(7,I y18),(8,.ref 3 4 0 0),(44,Qjk p0),(45,I (p0.Tests.length:Int)),(46,I y18),(52,I p0.Sites),(53,I y33)],[Ql3 p0,Qn0 p0 y34 y35,.own 144 [arrF 144 y9],Qqp x29]⟩) (fun t h=>by rw[Qc2] at h;cases h) (fun n39 ih t h=>?_) N (0,y19,y20) h
   obtain⟨y33,y34,y35⟩:=t
   rw[Qc2] at h
   refine wxz<|wsq<|bfq h (fun c40 h=>?_) fun c40 h=>?_
   ·refine Qah<|thn<|wsq<|Qaf<|wxz ?_
    refine ckq h fun i41 h=>?_
    obtain⟨hi41a,hi41b⟩:=Qb6 i41
    refine ckq h fun i42 h=>?_
    obtain⟨hi42a,hi42b⟩:=Qb6 i42
    refine bnq h fun x43 hl44 h=>wxd tbk [(7,rb [(.tmp 59,.ref 1 290 0 0)] [(1,Qn0 p0 y34 y35)] (.ref 1 290 0 0)),(9,rb [(.tmp 64,.ref 1 290 0 2),(.tmp 61,I x29.To)] [(1,Qn0 p0 y34 y35)] (.ref 1 290 0 (2+x29.To.toNat*12))),(10,rb [(.tmp 65,.ref 1 290 0 (2+x29.To.toNat*12)),(.tmp 62,I y33)] [(1,Qn0 p0 y34 y35)] (.ref 1 290 0 ((2+x29.To.toNat*12)+y33.toNat*1))),(11,rb [(.tmp 66,.ref 1 290 0 ((2+x29.To.toNat*12)+y33.toNat*1))] [(1,Qn0 p0 y34 y35)] (I (y34 (x29.To.toNat*12+y33.toNat)))),(13,rp [(.tmp 68,I (w64 (x29.Seen.Hi+(y34 (x29.To.toNat*12+y33.toNat)))))] (I x43))] ⟨Qbi rfl,Qex rfl Xbt Qro (odt hi41a) (odt hi41b) rfl,Qex rfl Xbu ti3 (odt hi42a) (odt hi42b) rfl,ald rfl ti3 (by decide) rfl (Qls (n:=144) (off:=2) (k:=x29.To.toNat*12+y33.toNat) (lt2 (odt hi41b) (odt hi42b) rfl) (by omega) (nle rfl)) (Qou (pre:=[I p0.Sites,Qjk p0]) (post:=arrF 144 y35) (n:=144) (off:=2) (k:=x29.To.toNat*12+y33.toNat) (f:=y34) (by kernel_rfl) rfl (lt2 (odt hi41b) (odt hi42b) rfl) (by omega)),Qhz hl44 (aas rfl),tv⟩<|ckq h fun i45 h=>?_
    obtain⟨hi45a,hi45b⟩:=Qb6 i45
    refine ckq h fun i46 h=>?_
    obtain⟨hi46a,hi46b⟩:=Qb6 i46
    refine wxd tbk [(5,rb [(.tmp 70,.ref 1 290 0 0)] [(1,Qn0 p0 y34 y35)] (.ref 1 290 0 0)),(7,rb [(.tmp 75,.ref 1 290 0 2),(.tmp 72,I x29.From)] [(1,Qn0 p0 y34 y35)] (.ref 1 290 0 (2+x29.From.toNat*12))),(8,rb [(.tmp 76,.ref 1 290 0 (2+x29.From.toNat*12)),(.tmp 73,I y33)] [(1,Qn0 p0 y34 y35)] (.ref 1 290 0 ((2+x29.From.toNat*12)+y33.toNat*1))),(9,rb [(.tmp 77,.ref 1 290 0 ((2+x29.From.toNat*12)+y33.toNat*1))] [(1,Qn0 p0 y34 y35)] (I (y34 (x29.From.toNat*12+y33.toNat))))] ⟨Qbi rfl,Qex rfl Xbt Qro (odt hi45a) (odt hi45b) rfl,Qex rfl Xbu ti3 (odt hi46a) (odt hi46b) rfl,ald rfl ti3 (by decide) rfl (Qls (n:=144) (off:=2) (k:=x29.From.toNat*12+y33.toNat) (lt2 (odt hi45b) (odt hi46b) rfl) (by omega) (nle rfl)) (Qou (pre:=[I p0.Sites,Qjk p0]) (post:=arrF 144 y35) (n:=144) (off:=2) (k:=x29.From.toNat*12+y33.toNat) (f:=y34) (by kernel_rfl) rfl (lt2 (odt hi45b) (odt hi46b) rfl) (by omega)),tv⟩<|bfq h (fun c47 h=>?_) fun c47 h=>?_
    ·refine ckq h fun i48 h=>?_
     obtain⟨hi48a,hi48b⟩:=Qb6 i48
     refine ckq h fun i49 h=>?_
     obtain⟨hi49a,hi49b⟩:=Qb6 i49
     refine ckq h fun i50 h=>?_
     obtain⟨hi50a,hi50b⟩:=Qb6 i50
     refine ckq h fun i51 h=>?_
     obtain⟨hi51a,hi51b⟩:=Qb6 i51
     refine Qo1 1 (.own 290 [I p0.Sites::(Qjk p0::(List.replicate 144 .any++List.replicate 144 .any))]) [mv 3 (.ref 1 290 0 0),rb [(.tmp 8,.ref 3 4 0 0)] [(3,Qqp x29)] (.ref 3 4 0 0),rb [(.tmp 81,.ref 3 4 0 0)] [(3,Qqp x29)] (I x29.From),mv 9 (I y33),mv 3 (.ref 1 290 0 0),rb [(.tmp 8,.ref 3 4 0 0)] [(3,Qqp x29)] (.ref 3 4 0 0),rb [(.tmp 85,.ref 3 4 0 0)] [(3,Qqp x29)] (I x29.From),mv 9 (I y33),mv 10 (I x43),mv 7 (I y18),rp [(.tmp 80,.ref 1 290 0 0)] (.ref 1 290 0 0),rp [(.tmp 90,.ref 1 290 0 0)] (.ref 1 290 0 2),rp [(.tmp 91,.ref 1 290 0 2),(.tmp 82,I x29.From)] (.ref 1 290 0 (2+x29.From.toNat*12)),rp [(.tmp 92,.ref 1 290 0 (2+x29.From.toNat*12)),(.tmp 83,I y33)] (.ref 1 290 0 ((2+x29.From.toNat*12)+y33.toNat*1)),⟨[(.tmp 93,.ref 1 290 0 ((2+x29.From.toNat*12)+y33.toNat*1)),(.tmp 88,I x43)],[(1,Qn0 p0 y34 y35)],.any,[(1,.own 290 [I p0.Sites::Qjk p0::(arrF 144 (setF y34 (x29.From.toNat*12+y33.toNat) x43)++arrF 144 y35)])],false⟩,rp [(.tmp 84,.ref 1 290 0 0)] (.ref 1 290 0 0),rp [(.tmp 94,.ref 1 290 0 0)] (.ref 1 290 0 146),rp [(.tmp 95,.ref 1 290 0 146),(.tmp 86,I x29.From)] (.ref 1 290 0 (146+x29.From.toNat*12)),rp [(.tmp 96,.ref 1 290 0 (146+x29.From.toNat*12)),(.tmp 87,I y33)] (.ref 1 290 0 ((146+x29.From.toNat*12)+y33.toNat*1)),⟨[(.tmp 97,.ref 1 290 0 ((146+x29.From.toNat*12)+y33.toNat*1)),(.tmp 89,I y18)],[(1,.own 290 [I p0.Sites::Qjk p0::(arrF 144 (setF y34 (x29.From.toNat*12+y33.toNat) x43)++arrF 144 y35)])],.any,[(1,.own 290 [I p0.Sites::Qjk p0::(arrF 144 (setF y34 (x29.From.toNat*12+y33.toNat) x43)++arrF 144 (setF y35 (x29.From.toNat*12+y33.toNat) y18))])],false⟩] (Zri (V:=(.own 290 [I p0.Sites::Qjk p0::(arrF 144 y34++arrF 144 y35)])) (by kernel_rfl) (SImp.box (lc lrf (lc lrf (Qek Qvn Qvn))))) ⟨tv,tv,tv,tv,tv,tv,tv,tv,tv,tv,tv,tv,tv,tv,⟨SImp.box (lc lrf (lc lrf (Qek Qvn Qvn))),tv⟩,tv,tv,tv,tv,⟨SImp.box (lc lrf (lc lrf (Qek Qvn Qvn))),tv⟩,tv⟩ ?_ ?_
     ·exact⟨hr_ (amv rfl),hr_ (afa rfl Xfd rfl rfl ti3 (by decide) rfl),hr_ (ald rfl ti3 (by decide) rfl (nle rfl) rfl),hr_ (amv rfl),hr_ (amv rfl),hr_ (afa rfl Xfd rfl rfl ti3 (by decide) rfl),hr_ (ald rfl ti3 (by decide) rfl (nle rfl) rfl),hr_ (amv rfl),hr_ (amv rfl),hr_ (amv rfl),sf_ (Qbi rfl),sf_ (afa rfl Xc6 rfl rfl Qx3 (by decide) rfl),sf_ (Qex rfl Xbt Qro (odt hi48a) (odt hi48b) rfl),sf_ (Qex rfl Xbu ti3 (odt hi49a) (odt hi49b) rfl),hr_ (ast rfl ti3 (by rfl) rfl (Qls (n:=144) (off:=2) (k:=x29.From.toNat*12+y33.toNat) (lt2 (odt hi48b) (odt hi49b) rfl) (by omega) (nle rfl)) (Q2n (pre:=[I p0.Sites,Qjk p0]) (post:=arrF 144 y35) (n:=144) (off:=2) (k:=x29.From.toNat*12+y33.toNat) (f:=y34) (x:=x43) (by kernel_rfl) rfl (by kernel_rfl) (lt2 (odt hi48b) (odt hi49b) rfl) (by omega))),sf_ (Qbi rfl),sf_ (afa rfl Xc6 rfl rfl Qx3 (by decide) rfl),sf_ (Qex rfl Xbt Qro (odt hi50a) (odt hi50b) rfl),sf_ (Qex rfl Xbu ti3 (odt hi51a) (odt hi51b) rfl),hr_ (ast rfl ti3 (by rfl) rfl (Qls (n:=144) (off:=146) (k:=x29.From.toNat*12+y33.toNat) (lt2 (odt hi50b) (odt hi51b) rfl) (by omega) (nle rfl)) (Q2n (pre:=(I p0.Sites::Qjk p0::arrF 144 (setF y34 (x29.From.toNat*12+y33.toNat) x43))) (post:=[]) (n:=144) (off:=146) (k:=x29.From.toNat*12+y33.toNat) (f:=y35) (x:=y18) (by kernel_rfl) rfl (by kernel_rfl) (lt2 (odt hi50b) (odt hi51b) rfl) (by omega))),tv⟩
     exact bln<|thn<|wxz1<|thn<|arm (mto (n:=107) [(1,.ref 0 2 0 0),(3,.ref 1 290 0 0),(6,.ref 2 144 0 0),(7,I y18),(8,.ref 3 4 0 0),(44,Qjk p0),(45,I (p0.Tests.length:Int)),(46,I y18),(52,I p0.Sites),(53,I (w64 (y33+1)))] [0,1,2,3] [Ql3 p0,.own 290 [I p0.Sites::Qjk p0::(arrF 144 (setF y34 (x29.From.toNat*12+y33.toNat) x43)++arrF 144 (setF y35 (x29.From.toNat*12+y33.toNat) y18))],.own 144 [arrF 144 y9],Qqp x29] hq (prr (prr (prr (pw (prr (pqi (pw (pw (pw (pw pn)))))))))) (qbi (qb (lc rwl (lc (rnd Qbz) (Qek (Qbh fun _=>rwl) (Qbh fun _=>rwl)))) (qb (Qbh fun _=>rwl) (qbi qn))))) (ih (w64 (y33+1),setF y34 (x29.From.toNat*12+y33.toNat) x43,setF y35 (x29.From.toNat*12+y33.toNat) y18) h)
    exact Qah<|bln<|thn<|wxz1<|thn<|arm (mto (n:=107) [(1,.ref 0 2 0 0),(3,.ref 1 290 0 0),(6,.ref 2 144 0 0),(7,I y18),(8,.ref 3 4 0 0),(44,Qjk p0),(45,I (p0.Tests.length:Int)),(46,I y18),(52,I p0.Sites),(53,I (w64 (y33+1)))] [0,1,2,3] [Ql3 p0,Qn0 p0 y34 y35,.own 144 [arrF 144 y9],Qqp x29] hq (prr (prr (prr (pw (prr (pqi (pw (pw (pw (pw pn)))))))))) (qbi (qb (lc rwl (lc (rnd Qbz) (Qek (Qbh fun _=>rwl) (Qbh fun _=>rwl)))) (qb (Qbh fun _=>rwl) (qbi qn))))) (ih (w64 (y33+1),y34,y35) h)
   exact Qax<|Qan<|Qan<|Qaw rfl<|bln<|thn<|⟨(y34,y35),h,mto (n:=107) [(1,.ref 0 2 0 0),(3,.ref 1 290 0 0),(6,.ref 2 144 0 0),(44,Qjk p0),(45,I (p0.Tests.length:Int)),(46,I y18)] [0,1,2] [Ql3 p0,Qn0 p0 y34 y35,.own 144 [arrF 144 y9]] hq (prr (prr (prr (pqi (pw (pw pn)))))) (qbi (qb (lc rwl (lc (rnd Qbz) (Qek (Qbh fun _=>rwl) (Qbh fun _=>rwl)))) (qb (Qbh fun _=>rwl) qn)))⟩
  exact Qax<|Qan<|Qan<|Qaw rfl<|thn<|⟨(y19,y20),h,mto (n:=107) [(1,.ref 0 2 0 0),(3,.ref 1 290 0 0),(6,.ref 2 144 0 0)] [0,1,2] [Ql3 p0,Q1p p0 y19 y20,.own 144 [arrF 144 y9]] hq (prr (prr (prr pn))) (qbi (qb (lc rwl (lc (rnd Qbz) (Qek (Qbh fun _=>rwl) (Qbh fun _=>rwl)))) (qb (Qbh fun _=>rwl) qn)))⟩
 refine wxz<|Qaf ?_
 refine wmr (mto (n:=107) (l':=[(1,.ref 0 2 0 0),(3,.ref 1 290 0 0),(14,I 0)]) (own':=[Ql3 p0,Zub p0]) [(1,.ref 0 2 0 0),(3,.ref 1 290 0 0),(14,I 0)] [0,1] [Ql3 p0,Zub p0] hq (prr (prr (pw pn))) (qbi (qb (lc rwl (lc (rnd Qbz) (Qek (Qbh fun _=>rwl) (Qbh fun _=>rwl)))) qn))) ?_
 refine Qbf (τ:=Int×(Nat->Int)×(Nat->Int)) (fun n t=>Qcq N k5 n t.1 t.2.1 t.2.2=some r) (fun ⟨y52,y53,y54⟩=>⟨mk 107 [(1,.ref 0 2 0 0),(3,.ref 1 290 0 0),(14,I y52)],[Ql3 p0,Q1o p0 y53 y54]⟩) (fun t h=>by rw[Qcq] at h;cases h) (fun n58 ih t h=>?_) N (0,fun _=>(0:Int),fun _=>(0:Int)) h
 obtain⟨y52,y53,y54⟩:=t
 rw[Qcq] at h
 refine wxz<|wsq<|bfq h (fun c59 h=>?_) fun c59 h=>?_
 ·refine Qah<|thn ?_
  refine wjq h (fun ⟨y60,y61⟩=>⟨mk 107 [(1,.ref 0 2 0 0),(3,.ref 1 290 0 0),(14,I y52)],[Ql3 p0,.own 290 [I p0.Sites::Qjk p0::(arrF 144 y60++arrF 144 y61)]]⟩) (fun t h=>?_) fun k62 h=>?_
  ·obtain⟨y60,y61⟩:=t
   exact wxz1<|thn<|arm (mto (n:=107) [(1,.ref 0 2 0 0),(3,.ref 1 290 0 0),(14,I (w64 (y52+1)))] [0,1] [Ql3 p0,.own 290 [I p0.Sites::Qjk p0::(arrF 144 y60++arrF 144 y61)]] hq (prr (prr (pw pn))) (qbi (qb (lc rwl (lc (rnd Qbz) (Qek (Qbh fun _=>rwl) (Qbh fun _=>rwl)))) qn))) (ih (w64 (y52+1),y60,y61) h)
  refine Qaf<|wxz<|wxz<|Qaf ?_
  refine wmr (mto (n:=107) (l':=[(1,.ref 0 2 0 0),(3,.ref 1 290 0 0),(4,I y52),(14,I y52),(17,I 0)]) (own':=[Ql3 p0,Q1o p0 y53 y54]) [(1,.ref 0 2 0 0),(3,.ref 1 290 0 0),(4,I y52),(14,I y52),(17,I 0)] [0,1] [Ql3 p0,Q1o p0 y53 y54] hq (prr (prr (pw (pw (pw pn))))) (qbi (qb (lc rwl (lc (rnd Qbz) (Qek (Qbh fun _=>rwl) (Qbh fun _=>rwl)))) qn))) ?_
  refine Qbf (τ:=Int×(Nat->Int)×(Nat->Int)) (fun n t=>Qc1 N y52 k62 n t.1 t.2.1 t.2.2=some r) (fun ⟨y63,y64,y65⟩=>⟨mk 107 [(1,.ref 0 2 0 0),(3,.ref 1 290 0 0),(4,I y52),(14,I y52),(17,I y63)],[Ql3 p0,Qu2 p0 y64 y65]⟩) (fun t h=>by rw[Qc1] at h;cases h) (fun n69 ih t h=>?_) N (0,y53,y54) h
  obtain⟨y63,y64,y65⟩:=t
  rw[Qc1] at h
  refine wxz<|wsq<|bfq h (fun c70 h=>?_) fun c70 h=>?_
  ·refine Qah<|thn<|wsq<|Qaf<|wxz ?_
   refine ckq h fun i71 h=>?_
   obtain⟨hi71a,hi71b⟩:=Qb6 i71
   refine ckq h fun i72 h=>?_
   obtain⟨hi72a,hi72b⟩:=Qb6 i72
   refine wx tbk [(3,rb [(.tmp 20,.ref 1 290 0 0)] [(1,Qu2 p0 y64 y65)] (.ref 1 290 0 0)),(5,rb [(.tmp 24,.ref 1 290 0 146),(.tmp 21,I y52)] [(1,Qu2 p0 y64 y65)] (.ref 1 290 0 (146+y52.toNat*12))),(6,rb [(.tmp 25,.ref 1 290 0 (146+y52.toNat*12)),(.tmp 22,I y63)] [(1,Qu2 p0 y64 y65)] (.ref 1 290 0 ((146+y52.toNat*12)+y63.toNat*1))),(7,⟨[(.tmp 26,.ref 1 290 0 ((146+y52.toNat*12)+y63.toNat*1)),ci (-1)],[(1,Qu2 p0 y64 y65)],.any,[(1,Qu1 p0 y64 y65 y52 y63)],false⟩)] ⟨Qbi rfl,Qex rfl Xbt Qro (odt hi71a) (odt hi71b) rfl,Qex rfl Xbu ti3 (odt hi72a) (odt hi72b) rfl,ast rfl ti3 (by rfl) rfl (Qls (n:=144) (off:=146) (k:=y52.toNat*12+y63.toNat) (lt2 (odt hi71b) (odt hi72b) rfl) (by omega) (nle rfl)) (Q2n (pre:=(I p0.Sites::Qjk p0::arrF 144 y64)) (post:=[]) (n:=144) (off:=146) (k:=y52.toNat*12+y63.toNat) (f:=y65) (x:=(-1)) (by kernel_rfl) rfl (by kernel_rfl) (lt2 (odt hi71b) (odt hi72b) rfl) (by omega)),tv⟩<|wxz<|bfq h (fun c73 h=>?_) fun c73 h=>?_
   ·refine ckq h fun i74 h=>?_
    obtain⟨hi74a,hi74b⟩:=Qb6 i74
    refine ckq h fun i75 h=>?_
    obtain⟨hi75a,hi75b⟩:=Qb6 i75
    exact wx1 tbk [(3,rb [(.tmp 30,.ref 1 290 0 0)] [(1,Qu1 p0 y64 y65 y52 y63)] (.ref 1 290 0 0)),(5,rb [(.tmp 34,.ref 1 290 0 2),(.tmp 31,I y52)] [(1,Qu1 p0 y64 y65 y52 y63)] (.ref 1 290 0 (2+y52.toNat*12))),(6,rb [(.tmp 35,.ref 1 290 0 (2+y52.toNat*12)),(.tmp 32,I y63)] [(1,Qu1 p0 y64 y65 y52 y63)] (.ref 1 290 0 ((2+y52.toNat*12)+y63.toNat*1))),(7,⟨[(.tmp 36,.ref 1 290 0 ((2+y52.toNat*12)+y63.toNat*1)),ci 1000000],[(1,Qu1 p0 y64 y65 y52 y63)],.any,[(1,Zek p0 y64 y52 y63 y65)],false⟩)] ⟨Qbi rfl,Qex rfl Xbt Qro (odt hi74a) (odt hi74b) rfl,Qex rfl Xbu ti3 (odt hi75a) (odt hi75b) rfl,ast rfl ti3 (by rfl) rfl (Qls (n:=144) (off:=2) (k:=y52.toNat*12+y63.toNat) (lt2 (odt hi74b) (odt hi75b) rfl) (by omega) (nle rfl)) (Q2n (pre:=[I p0.Sites,Qjk p0]) (post:=arrF 144 (setF y65 (y52.toNat*12+y63.toNat) (-1))) (n:=144) (off:=2) (k:=y52.toNat*12+y63.toNat) (f:=y64) (x:=1000000) (by kernel_rfl) rfl (by kernel_rfl) (lt2 (odt hi74b) (odt hi75b) rfl) (by omega)),tv⟩<|bln<|thn<|wxz1<|thn<|arm (mto (n:=107) [(1,.ref 0 2 0 0),(3,.ref 1 290 0 0),(4,I y52),(14,I y52),(17,I (w64 (y63+1)))] [0,1] [Ql3 p0,Zek p0 y64 y52 y63 y65] hq (prr (prr (pw (pw (pw pn))))) (qbi (qb (lc rwl (lc (rnd Qbz) (Qek (Qbh fun _=>rwl) (Qbh fun _=>rwl)))) qn))) (ih (w64 (y63+1),setF y64 (y52.toNat*12+y63.toNat) 1000000,setF y65 (y52.toNat*12+y63.toNat) (-1)) h)
   exact Qah<|bln<|thn<|wxz1<|thn<|arm (mto (n:=107) [(1,.ref 0 2 0 0),(3,.ref 1 290 0 0),(4,I y52),(14,I y52),(17,I (w64 (y63+1)))] [0,1] [Ql3 p0,Qu1 p0 y64 y65 y52 y63] hq (prr (prr (pw (pw (pw pn))))) (qbi (qb (lc rwl (lc (rnd Qbz) (Qek (Qbh fun _=>rwl) (Qbh fun _=>rwl)))) qn))) (ih (w64 (y63+1),y64,setF y65 (y52.toNat*12+y63.toNat) (-1)) h)
  exact Qax<|Qan<|Qan<|Qaw rfl<|bln<|thn<|⟨(y64,y65),h,mto (n:=107) [(1,.ref 0 2 0 0),(3,.ref 1 290 0 0),(14,I y52)] [0,1] [Ql3 p0,Qu2 p0 y64 y65] hq (prr (prr (pw pn))) (qbi (qb (lc rwl (lc (rnd Qbz) (Qek (Qbh fun _=>rwl) (Qbh fun _=>rwl)))) qn))⟩
 exact Qax<|Qan<|Qan<|Qaw rfl<|thn<|⟨(y53,y54),h,mto (n:=107) [(1,.ref 0 2 0 0),(3,.ref 1 290 0 0)] [0,1] [Ql3 p0,Q1o p0 y53 y54] hq (prr (prr pn)) (qbi (qb (lc rwl (lc (rnd Qbz) (Qek (Qbh fun _=>rwl) (Qbh fun _=>rwl)))) qn))⟩
def Qgx (_N:Nat) (p0:Qc8) (_p1:Int) (_p2:List Qc8) (p3 _p4:(Nat->Int)):Option Bool:=chk (decide (0<=p0.From)&&decide (p0.From.toNat<12))<|chk (decide (0<=p0.To)&&decide (p0.To.toNat<12))<|some (decide (p0.Seen.Lo>(p3 (p0.From.toNat*12+p0.To.toNat))))
abbrev Zkk:Slot:=.own 1 [[.ref 1 290 (0) 0]]
abbrev Q34 (p1:Int) (p2:List Qc8) (p3 p4:(Nat->Int)):Slot:=.own 290 [I p1::.dat 4 (p2.map Qbu)::(arrF 144 p3++arrF 144 p4)]
def Qpb (N:Nat) (p0:Qc8) (p1:Int) (p2:List Qc8) (p3 p4:(Nat->Int)) (r:Bool) (h:Qgx N p0 p1 p2 p3 p4=some r):Spec prog 71 [.agg [I p0.From,I p0.To,I p0.Seen.Lo,I p0.Seen.Hi],.ref 0 1 (0) 0] [Zkk,Q34 p1 p2 p3 p4] (B r) [Zkk,Q34 p1 p2 p3 p4]:=by
 refine sF func71 2 fun _ _ _ hq hd0=>?_
 unfold Qgx at h
 refine wxz<|ckq h fun i2 h=>?_
 obtain⟨hi2a,hi2b⟩:=Qb6 i2
 refine ckq h fun i3 h=>?_
 obtain⟨hi3a,hi3b⟩:=Qb6 i3
 refine wxd tbk [(8,rb [(.tmp 7,.ref 1 290 0 0)] [(1,Q34 p1 p2 p3 p4)] (.ref 1 290 0 0)),(10,rb [(.tmp 13,.ref 1 290 0 2),(.tmp 9,I p0.From)] [(1,Q34 p1 p2 p3 p4)] (.ref 1 290 0 (2+p0.From.toNat*12))),(11,rb [(.tmp 14,.ref 1 290 0 (2+p0.From.toNat*12)),(.tmp 11,I p0.To)] [(1,Q34 p1 p2 p3 p4)] (.ref 1 290 0 ((2+p0.From.toNat*12)+p0.To.toNat*1))),(12,rb [(.tmp 15,.ref 1 290 0 ((2+p0.From.toNat*12)+p0.To.toNat*1))] [(1,Q34 p1 p2 p3 p4)] (I (p3 (p0.From.toNat*12+p0.To.toNat))))] ⟨Qbi rfl,Qex rfl Xbt Qro (odt hi2a) (odt hi2b) rfl,Qex rfl Xbu ti3 (odt hi3a) (odt hi3b) rfl,ald rfl ti3 (by decide) rfl (Qls (n:=144) (off:=2) (k:=p0.From.toNat*12+p0.To.toNat) (lt2 (odt hi2b) (odt hi3b) rfl) (by omega) (nle rfl)) (Qou (pre:=[I p1,.dat 4 (p2.map Qbu)]) (post:=arrF 144 p4) (n:=144) (off:=2) (k:=p0.From.toNat*12+p0.To.toNat) (f:=p3) (by kernel_rfl) rfl (lt2 (odt hi2b) (odt hi3b) rfl) (by omega)),tv⟩ ?_
 refine wmr (mto (n:=18) (l':=[(3,B (decide (p0.Seen.Lo>(p3 (p0.From.toNat*12+p0.To.toNat)))))]) (own':=[Zkk,Q34 p1 p2 p3 p4]) [(3,B (decide (p0.Seen.Lo>(p3 (p0.From.toNat*12+p0.To.toNat)))))] [0,1] [Zkk,Q34 p1 p2 p3 p4] hq (pw pn) (qb (lc (.rn (rqr rfl)) ln) (qb (lc rwl (lc (rnd Qbz) (Qek (Qbh fun _=>rwl) (Qbh fun _=>rwl)))) qn)))<|Qad ?_
 obtain rfl:=osi h
 exact⟨_,Mor.rfl,fio [B (decide (p0.Seen.Lo>(p3 (p0.From.toNat*12+p0.To.toNat))))] ⟨rot,tv⟩⟩
def Qa7 (N:Nat) (p0:List Qc8) (p1:Int) (k2:Unit->Option Int) (p2:List Qc8) (p3 p4:(Nat->Int)):Nat->Int->Option Int
 |0,_=>none
 |n5+1,y3=>bif decide (y3<(p0.length:Int)) then (getI p0 y3).bind fun x7=>(Qgx N (⟨x7.From,x7.To,(⟨x7.Seen.Lo,x7.Seen.Hi⟩:Qkb)⟩:Qc8) p1 p2 p3 p4).bind fun x12=>bif x12 then some y3 else Qa7 N p0 p1 k2 p2 p3 p4 n5 (w64 (y3+1)) else k2 ()
def Qdy (N:Nat) (p0:List Qc8) (p1:Int) (p2:List Qc8) (p3 p4:(Nat->Int)):Option Int:=Qb0 (fun _=>some (-1)) fun k2:Unit->Option Int=>Qa7 N p0 p1 k2 p2 p3 p4 N 0
abbrev Zej (p0:List Qc8):AV:=.dat 4 (p0.map Qbu)
abbrev Zei:AV:=.fn (.func 71) [] [.ref 0 1 (0) 0]
abbrev Qtl:Slot:=.own 1 [[.ref 1 290 (0) 0]]
abbrev Qtk (p1:Int) (p2:List Qc8) (p3 p4:(Nat->Int)):Slot:=.own 290 [I p1::.dat 4 (p2.map Qbu)::(arrF 144 p3++arrF 144 p4)]
def Qjj (N:Nat) (p0:List Qc8) (p1:Int) (p2:List Qc8) (p3 p4:(Nat->Int)) (r:Int) (h:Qdy N p0 p1 p2 p3 p4=some r):Spec prog 70 [Zej p0,Zei] [Qtl,Qtk p1 p2 p3 p4] (I r) [Qtl,Qtk p1 p2 p3 p4]:=by
 refine sF func70 2 fun _ _ _ hq hd0=>?_
 unfold Qdy at h
 refine wxz<|wjq h (fun _=>⟨mk 19 [],[Qtl,Qtk p1 p2 p3 p4]⟩) (fun t h=>?_) fun k2 h=>?_
 ·refine wxz<|wmr (mto (n:=19) (l':=[(4,I (-1))]) (own':=[Qtl,Qtk p1 p2 p3 p4]) [(4,I (-1))] [0,1] [Qtl,Qtk p1 p2 p3 p4] hq (pw pn) (qb (lc (.rn (rqr rfl)) ln) (qb (lc rwl (lc (rnd Qbz) (Qek (Qbh fun _=>rwl) (Qbh fun _=>rwl)))) qn)))<|Qad ?_
  obtain rfl:=osi h
  exact⟨_,Mor.rfl,fio [I (-1)] ⟨rot,tv⟩⟩
 refine wx tbk [(1,rp _ _)] ⟨alq 4 Qbu p0 Xb7,tv⟩<|Qaf ?_
 refine wmr (mto (n:=19) (l':=[(0,Zej p0),(1,Zei),(7,I (p0.length:Int)),(8,I 0)]) (own':=[Qtl,Qtk p1 p2 p3 p4]) [(0,Zej p0),(1,Zei),(7,I (p0.length:Int)),(8,I 0)] [0,1] [Qtl,Qtk p1 p2 p3 p4] hq (pqi (pc (.rn (Qby rn0 (rnc (rqr rfl) rn0))) (pw (pw pn)))) (qb (lc (.rn (rqr rfl)) ln) (qb (lc rwl (lc (rnd Qbz) (Qek (Qbh fun _=>rwl) (Qbh fun _=>rwl)))) qn))) ?_
 refine Qbf (τ:=Int) (fun n t=>Qa7 N p0 p1 k2 p2 p3 p4 n t=some r) (fun y3=>⟨mk 19 [(0,Zej p0),(1,Zei),(7,I (p0.length:Int)),(8,I y3)],[Qtl,Qtk p1 p2 p3 p4]⟩) (fun t h=>by rw[Qa7] at h;cases h) (fun n5 ih y3 h=>?_) N (0) h
 rw[Qa7] at h
 refine wxz<|wsq<|bfq h (fun c6 h=>?_) fun c6 h=>?_
 ·refine Qah<|thn<|wsq<|Qaf<|wxz ?_
  refine bgq h fun x7 i9 j10 h=>bnq h fun x12 f11 h=>wx tbk [(3,rp _ _),(5,⟨_,_,_,_,false⟩)] ⟨aiq Xb7 ti88 Qbu i9 j10,Qd5 (first:=[]) (cap:=[.ref 0 1 0 0]) (vs:=[.agg [I ((⟨x7.From,x7.To,(⟨x7.Seen.Lo,x7.Seen.Hi⟩:Qkb)⟩:Qc8).From),I ((⟨x7.From,x7.To,(⟨x7.Seen.Lo,x7.Seen.Hi⟩:Qkb)⟩:Qc8).To),I ((⟨x7.From,x7.To,(⟨x7.Seen.Lo,x7.Seen.Hi⟩:Qkb)⟩:Qc8).Seen.Lo),I ((⟨x7.From,x7.To,(⟨x7.Seen.Lo,x7.Seen.Hi⟩:Qkb)⟩:Qc8).Seen.Hi)]]) (σr:=[Qtl,Qtk p1 p2 p3 p4]) (σr':=[Qtl,Qtk p1 p2 p3 p4]) (res':=(B x12)) [0,1] rfl Zst (Qpb N (⟨x7.From,x7.To,(⟨x7.Seen.Lo,x7.Seen.Hi⟩:Qkb)⟩:Qc8) p1 p2 p3 p4 _ f11) rfl (Qct (rnc pli (rnc (Qa2 rfl) rn0))) (slc (Qcr (rnc (Qa2 rfl) rn0)) (slc (Qcr (rnc pli (rnc (pld Qbz) (Qek (Qbh fun _=>pli) (Qbh fun _=>pli))))) Qai)) (slc (Qcr (rnc (Qb7 rfl) rn0)) (slc (Qcr (rnc pli (rnc (pld Qbz) (Qek (Qbh fun _=>pli) (Qbh fun _=>pli))))) Qai)) pli rfl rfl rfl,tv⟩<|bfq h (fun c13 h=>?_) fun c13 h=>?_
  ·refine wxz ?_
   refine wmr (mto (n:=19) (l':=[(4,I y3)]) (own':=[Qtl,Qtk p1 p2 p3 p4]) [(4,I y3)] [0,1] [Qtl,Qtk p1 p2 p3 p4] hq (pw pn) (qb (lc (.rn (rqr rfl)) ln) (qb (lc rwl (lc (rnd Qbz) (Qek (Qbh fun _=>rwl) (Qbh fun _=>rwl)))) qn)))<|Qad<|Qal<|Qac<|Qac<|Qal<|Qac ?_
   obtain rfl:=osi h
   exact⟨_,Mor.rfl,fio [I y3] ⟨rot,tv⟩⟩
  exact Qah<|bln<|thn<|wxz1<|thn<|arm (mto (n:=19) [(0,Zej p0),(1,Zei),(7,I (p0.length:Int)),(8,I (w64 (y3+1)))] [0,1] [Qtl,Qtk p1 p2 p3 p4] hq (pqi (pc (.rn (Qby rn0 (rnc (rqr rfl) rn0))) (pw (pw pn)))) (qb (lc (.rn (rqr rfl)) ln) (qb (lc rwl (lc (rnd Qbz) (Qek (Qbh fun _=>rwl) (Qbh fun _=>rwl)))) qn))) (ih (w64 (y3+1)) h)
 exact Qax<|Qan<|Qan<|Qaw rfl<|thn<|⟨(),h,mto (n:=19) [] [0,1] [Qtl,Qtk p1 p2 p3 p4] hq pn (qb (lc (.rn (rqr rfl)) ln) (qb (lc rwl (lc (rnd Qbz) (Qek (Qbh fun _=>rwl) (Qbh fun _=>rwl)))) qn))⟩
def Qi8 (N:Nat) (p0:Int) (p1:List Qc8) (p2 p3:(Nat->Int)):Option Int:=(Qdy N p1 p0 p1 p2 p3).bind fun x3=>some x3
abbrev Q6s (p0:Int) (p1:List Qc8) (p2 p3:(Nat->Int)):Slot:=.own 290 [I p0::.dat 4 (p1.map Qbu)::(arrF 144 p2++arrF 144 p3)]
abbrev Zt9:AV:=.fn (.func 71) [] [.ref 1 1 (0) 0]
abbrev Zua:Slot:=.own 1 [[.ref 0 290 (0) 0]]
def Qqk (N:Nat) (p0:Int) (p1:List Qc8) (p2 p3:(Nat->Int)) (r:Int) (h:Qi8 N p0 p1 p2 p3=some r):Spec prog 50 [.ref 0 290 (0) 0] [Q6s p0 p1 p2 p3] (I r) [Q6s p0 p1 p2 p3]:=by
 refine sF func50 1 fun _ _ _ hq hd0=>?_
 unfold Qi8 at h
 refine wxz<|bnq h fun x3 f2 h=>wx tbk [(1,rb [(.tmp 3,.ref 0 290 0 0)] [(0,Q6s p0 p1 p2 p3)] (.ref 0 290 0 0)),(5,rp [(.tmp 1,.ref 1 1 0 0)] Zt9),(6,⟨_,_,_,_,false⟩)] ⟨Qbi rfl,Qfp (fs:=[]) (cs:=[.ref 1 1 0 0]) rfl rfl rfl rfl,acq [.dat 4 (p1.map Qbu),Zt9] [Zua,Q6s p0 p1 p2 p3] [Zua,Q6s p0 p1 p2 p3] (I x3) [1,0] Zsu (Qjj N p1 p0 p1 p2 p3 _ f2) (Qct (rnc (pld Qbz) (rnc (Qby rn0 (rnc (Qa2 rfl) rn0)) rn0))) (slc (Qcr (rnc (Qa2 rfl) rn0)) (slc (Qcr (rnc pli (rnc (pld Qbz) (Qek (Qbh fun _=>pli) (Qbh fun _=>pli))))) Qai)) (slc (Qcr (rnc (Qb7 rfl) rn0)) (slc (Qcr (rnc pli (rnc (pld Qbz) (Qek (Qbh fun _=>pli) (Qbh fun _=>pli))))) Qai)) pli,tv⟩ ?_
 refine wmr (mto (n:=10) (l':=[(2,I x3)]) (own':=[Q6s p0 p1 p2 p3]) [(2,I x3)] [0] [Q6s p0 p1 p2 p3] hq (pw pn) (qb (lc rwl (lc (rnd Qbz) (Qek (Qbh fun _=>rwl) (Qbh fun _=>rwl)))) qn))<|Qad ?_
 obtain rfl:=osi h
 exact⟨_,Mor.rfl,fio [I x3] ⟨rot,tv⟩⟩
end
section
def Qel (_N:Nat) (p0 p1 p2:Int):Option Bool:=bif decide (p1<=p0) then some (decide (p0<=p2)) else some false
def Qes (N:Nat) (p0 p1 p2:Int) (r:Bool) (h:Qel N p0 p1 p2=some r):Spec prog 27 [I p0,I p1,I p2] [] (B r) []:=by
 refine sA func27 0 fun _ _ _ hq hd0=>?_
 unfold Qel at h
 refine wxz<|bfe h (fun hb1 h=>?_) fun hb1 h=>?_
 ·refine wx tbk [(3,rp [(.tmp 9,B (decide (p1<=p0)))] (B true))] ⟨asb hb1 (amv rfl),tv⟩<|Qad ?_
  obtain rfl:=osi h
  exact fend ⟨[B (decide (p0<=p2))],⟨rot,tv⟩,rfl⟩ nll
 exact wx tbk [(3,rp [(.tmp 9,B (decide (p1<=p0)))] (B false))] ⟨asb hb1 (amv rfl),tv⟩<|Qad<|frb h
def Qez (N:Nat) (p0:Qav) (p1:Int):Option Bool:=(Qel N p1 0 (w64 (p0.Sites-1))).bind fun x2=>some x2
def Qgd (N:Nat) (p0:Qav) (p1:Int) (r:Bool) (h:Qez N p0 p1=some r):Spec prog 47 [.agg (Qis p0),I p1] [] (B r) []:=by
 refine sA func47 0 fun _ _ _ hq hd0=>?_
 unfold Qez at h
 refine wxz<|bnq h fun x2 f1 h=>?_
 exact wx tbk [(4,rp _ _)] ⟨apw Qoy (Qes N p1 0 (w64 (p0.Sites-1)) _ f1),tv⟩<|Qad<|frb h
def Qeu (N:Nat) (p0:Qav) (k5:Unit->Option Int):Nat->Int->Option Int
 |0,_=>none
 |n8+1,y6=>bif decide (y6<(p0.Tests.length:Int)) then (getI p0.Tests y6).bind fun x10=>(Qez N p0 x10.From).bind fun x15=>bif !x15 then some 1 else (Qez N p0 x10.To).bind fun x18=>bif !x18 then some 1 else bif (x10.From==x10.To) then some 1 else bif decide (x10.Seen.Lo<0) then some 1 else bif decide (x10.Seen.Lo>x10.Seen.Hi) then some 1 else bif decide (x10.Seen.Hi>1000000) then some 1 else Qeu N p0 k5 n8 (w64 (y6+1)) else k5 ()
def Qhs (N:Nat) (p0:Qav):Option Int:=bif decide ((p0.Tests.length:Int)>60) then some 3 else (Qel N p0.Sites 1 12).bind fun x3=>bif !x3 then some 1 else Qb0 (fun _=>some 0) fun k5:Unit->Option Int=>Qeu N p0 k5 N 0
abbrev Q0o (p0:Qav):AV:=.dat 4 (p0.Tests.map Qbu)
abbrev Zav (p0:Qav):Slot:=.own 2 [[I p0.Sites,Q0o p0]]
abbrev Zpj (p0:Qav):AV:=.agg [I p0.Sites,Q0o p0]
def Q7t (p0:Qav) (x10:Qc8) (x15:Bool):List (Nat×Rec):=[(3,rp [fu 47,(.tmp 20,Zpj p0),(.tmp 22,I x10.From)] (B x15))]
def Q7s p0 x10 x15 (x18:Bool):=hcat (Q7t p0 x10 x15) [(5,rp [(.tmp 24,B !x15)] (B false)),(9,rp [(.tmp 25,B false),fu 47,(.tmp 26,Zpj p0),(.tmp 28,I x10.To)] (B x18))]
def Q7r p0 x10 x15 x18:=hcat (Q7s p0 x10 x15 x18) [(12,rp [(.tmp 31,B !x18)] (B false))]
def Q2b p0 x10 x15 x18:=hcat (Q7r p0 x10 x15 x18) [(19,rp [(.tmp 38,B (x10.From==x10.To))] (B false))]
def Qnx (N:Nat) (p0:Qav) (r:Int) (h:Qhs N p0=some r):Spec prog 44 [.agg (Qis p0)] [] (I r) []:=by
 refine sA func44 0 fun _ _ _ hq hd0=>?_
 unfold Qhs at h
 refine wxz<|wsq<|wx tbk [(2,rp _ _)] ⟨alq 4 Qbu p0.Tests Xb7,tv⟩<|bfq h (fun c1 h=>?_) fun c1 h=>?_
 ·refine wxz<|Qad<|Qac ?_
  obtain rfl:=osi h
  exact fend ⟨[I 3],⟨rot,tv⟩,rfl⟩ nll
 refine Qah<|thn<|wsq ?_
 refine bnq h fun x3 f2 h=>wx tbk [(2,rp _ _)] ⟨apw Qoy (Qes N p0.Sites 1 12 _ f2),tv⟩<|bfq h (fun c4 h=>?_) fun c4 h=>?_
 ·refine wxz<|Qad<|Qac ?_
  obtain rfl:=osi h
  exact fend ⟨[I 1],⟨rot,tv⟩,rfl⟩ nll
 refine Qah<|thn ?_
 refine wjq h (fun _=>⟨mk 61 [],[]⟩) (fun t h=>?_) fun k5 h=>?_
 ·refine wxz<|Qad ?_
  obtain rfl:=osi h
  exact fend ⟨[I 0],⟨rot,tv⟩,rfl⟩ nll
 refine wx tbk [(2,rp _ _)] ⟨alq 4 Qbu p0.Tests Xb7,tv⟩<|Qaf ?_
 refine wmr (mto (n:=61) (l':=[(1,.ref 0 2 0 0),(14,Q0o p0),(15,I (p0.Tests.length:Int)),(16,I 0)]) (own':=[Zav p0]) [(1,.ref 0 2 0 0),(14,Q0o p0),(15,I (p0.Tests.length:Int)),(16,I 0)] [0] [Zav p0] hq (prr (pqi (pw (pw pn)))) (qbi qn)) ?_
 refine Qbf (τ:=Int) (fun n t=>Qeu N p0 k5 n t=some r) (fun y6=>⟨mk 61 [(1,.ref 0 2 0 0),(14,Q0o p0),(15,I (p0.Tests.length:Int)),(16,I y6)],[Zav p0]⟩) (fun t h=>by rw[Qeu] at h;cases h) (fun n8 ih y6 h=>?_) N (0) h
 rw[Qeu] at h
 refine wxz<|wsq<|bfq h (fun c9 h=>?_) fun c9 h=>?_
 ·refine Qah<|thn<|wsq<|Qaf ?_
  refine bgq h fun x10 i12 j13 h=>wx tbk [(0,rp _ _)] ⟨aiq Xb7 ti88 Qbu i12 j13,tv⟩<|bnq h fun x15 f14 h=>hpre (A:=(Q7t p0 x10 x15)) ⟨apv Qvt (Qgd N p0 x10.From _ f14) (nlc (NLt.agg _ (nlc nll (nlc (nld Qbz _) nl0))) (nlc nll nl0)) nll,tv⟩ fun q1_=>?_
  refine bfe h (fun hb16 h=>?_) fun hb16 h=>?_
  ·refine wx tbk (hcat (Q7t p0 x10 x15) [(5,rp [(.tmp 24,B !x15)] (B true))]) (hap q1_ ⟨asb hb16 (amv rfl),tv⟩)<|wtr<|wxz<|Qad<|Qal<|Qac<|Qac<|Qal<|Qac ?_
   obtain rfl:=osi h
   exact fend ⟨[I 1],⟨rot,tv⟩,rfl⟩ nll
  refine bnq h fun x18 f17 h=>hpre (A:=(Q7s p0 x10 x15 x18)) (hap q1_ ⟨asb hb16 (amv rfl),ag_ (apv Qvt (Qgd N p0 x10.To _ f17) (nlc (NLt.agg _ (nlc nll (nlc (nld Qbz _) nl0))) (nlc nll nl0)) nll),tv⟩) fun q2_=>?_
  refine bfe h (fun hb19 h=>?_) fun hb19 h=>?_
  ·refine wx tbk (hcat (Q7s p0 x10 x15 x18) [(12,rp [(.tmp 31,B !x18)] (B true))]) (hap q2_ ⟨asb hb19 (amv rfl),tv⟩)<|wtr<|wxz<|Qad<|Qal<|Qac<|Qac<|Qal<|Qac ?_
   obtain rfl:=osi h
   exact fend ⟨[I 1],⟨rot,tv⟩,rfl⟩ nll
  refine hpre (A:=(Q7r p0 x10 x15 x18)) (hap q2_ ⟨asb hb19 (amv rfl),tv⟩) fun q3_=>?_
  refine bfe h (fun hb20 h=>?_) fun hb20 h=>?_
  ·refine wx tbk (hcat (Q7r p0 x10 x15 x18) [(19,rp [(.tmp 38,B (x10.From==x10.To))] (B true))]) (hap q3_ ⟨asb hb20 (amv rfl),tv⟩)<|wtr<|wxz<|Qad<|Qal<|Qac<|Qac<|Qal<|Qac ?_
   obtain rfl:=osi h
   exact fend ⟨[I 1],⟨rot,tv⟩,rfl⟩ nll
  refine hpre (A:=(Q2b p0 x10 x15 x18)) (hap q3_ ⟨asb hb20 (amv rfl),tv⟩) fun q4_=>?_
  refine bfe h (fun hb21 h=>?_) fun hb21 h=>?_
  ·refine wx tbk (hcat (Q2b p0 x10 x15 x18) [(25,rp [(.tmp 44,B (decide (x10.Seen.Lo<0)))] (B true))]) (hap q4_ ⟨asb hb21 (amv rfl),tv⟩)<|wtr<|wxz<|Qad<|Qal<|Qac<|Qac<|Qal<|Qac ?_
   obtain rfl:=osi h
   exact fend ⟨[I 1],⟨rot,tv⟩,rfl⟩ nll
  refine bfe h (fun hb22 h=>?_) fun hb22 h=>?_
  ·refine wx tbk (hcat (Q2b p0 x10 x15 x18) [(25,rp [(.tmp 44,B (decide (x10.Seen.Lo<0)))] (B false)),(34,rp [(.tmp 53,B (decide (x10.Seen.Lo>x10.Seen.Hi)))] (B true))]) (hap q4_ ⟨asb hb21 (amv rfl),asb hb22 (amv rfl),tv⟩)<|wtr<|wxz<|Qad<|Qal<|Qac<|Qac<|Qal<|Qac ?_
   obtain rfl:=osi h
   exact fend ⟨[I 1],⟨rot,tv⟩,rfl⟩ nll
  refine wx tbk (hcat (Q2b p0 x10 x15 x18) [(25,rp [(.tmp 44,B (decide (x10.Seen.Lo<0)))] (B false)),(34,rp [(.tmp 53,B (decide (x10.Seen.Lo>x10.Seen.Hi)))] (B false))]) (hap q4_ ⟨asb hb21 (amv rfl),asb hb22 (amv rfl),tv⟩)<|bfq h (fun c23 h=>?_) fun c23 h=>?_
  ·refine wxz<|Qad<|Qal<|Qac<|Qac<|Qal<|Qac ?_
   obtain rfl:=osi h
   exact fend ⟨[I 1],⟨rot,tv⟩,rfl⟩ nll
  exact Qah<|bln<|thn<|wxz1<|thn<|arm (mto (n:=61) [(1,.ref 0 2 0 0),(14,Q0o p0),(15,I (p0.Tests.length:Int)),(16,I (w64 (y6+1)))] [0] [Zav p0] hq (prr (pqi (pw (pw pn)))) (qbi qn)) (ih (w64 (y6+1)) h)
 exact Qax<|Qan<|Qan<|Qaw rfl<|thn<|⟨(),h,mto (n:=61) [] [] [] hq pn qn⟩
def Qdq (N:Nat) (p0:Qav):Option (Unit⊕((Nat->Int)×(Nat->Int))):=(Qgy N p0).bind fun x4=>(Qi8 N p0.Sites p0.Tests x4.1 x4.2).bind fun x6=>bif decide (x6>=0) then some (.inl ()) else some (.inr (x4.1,x4.2))
abbrev Zpi (p0:Qav):AV:=.dat 4 (p0.Tests.map Qbu)
abbrev Zau (p0:Qav):AV:=.agg [I p0.Sites,Zpi p0]
abbrev Q4j (p0:Qav) (x4:((Nat->Int)×(Nat->Int))):Slot:=.own 290 [I p0.Sites::Zpi p0::(arrF 144 x4.1++arrF 144 x4.2)]
def Qoa (N:Nat) (p0:Qav) (r:(Unit⊕((Nat->Int)×(Nat->Int)))) (h:Qdq N p0=some r):Spec prog 28 [Zau p0] [] ((Sum.elim (fun r=>(.tup [.lit (.pointer none),I (9)])) (fun r=>(.tup [.ref 0 290 (0) 0,I (0)])):(Unit⊕((Nat->Int)×(Nat->Int)))->AV) r) ((Sum.elim (fun r=>[]) (fun r=>[.own 290 [I p0.Sites::.dat 4 (p0.Tests.map Qbu)::(arrF 144 r.1++arrF 144 r.2)]]):(Unit⊕((Nat->Int)×(Nat->Int)))->List Slot) r):=by
 refine sF func28 1 fun _ _ _ hq hd0=>?_
 unfold Qdq at h
 refine wxz<|bnq h fun x4 f3 h=>wx tbk [(1,⟨_,_,_,_,false⟩)] ⟨acq [Zau p0] [] [Q4j p0 x4] (.ref 1 290 0 0) [1] Zs9 (Qpc N p0 _ f3) pli Qai (slc (Qcr (rnc pli (rnc (pld Qbz) (Qek (Qbh fun _=>pli) (Qbh fun _=>pli))))) Qai) (Qb7 rfl),tv⟩<|wsq<|bnq h fun x6 f5 h=>wx tbk [(1,⟨_,_,_,_,false⟩)] ⟨acq [.ref 1 290 0 0] [Q4j p0 x4] [Q4j p0 x4] (I x6) [1] Zs8 (Qqk N p0.Sites p0.Tests x4.1 x4.2 _ f5) (Qct (rnc (Qa2 rfl) rn0)) (slc (Qcr (rnc pli (rnc (pld Qbz) (Qek (Qbh fun _=>pli) (Qbh fun _=>pli))))) Qai) (slc (Qcr (rnc pli (rnc (pld Qbz) (Qek (Qbh fun _=>pli) (Qbh fun _=>pli))))) Qai) pli,tv⟩<|bfq h (fun c7 h=>?_) fun c7 h=>?_
 ·refine wxz ?_
  refine wmr (mto (n:=11) (l':=[(2,.lit (.pointer none)),(3,I 9)]) (own':=[]) [(2,.lit (.pointer none)),(3,I 9)] [] [] hq (pw (pw pn)) qn)<|Qad<|Qac ?_
  obtain rfl:=osi h
  exact⟨_,Mor.rfl,Qj2 (vs:=[.lit (.pointer none),I 9]) ⟨rot,rot,tv⟩ rfl (NLt.tup _ (nlc (NLt.of0 nll) (nlc (NLt.of0 nll) nl0))) (by kernel_rfl) Qkf⟩
 refine Qah<|thn<|wxz ?_
 refine wmr (mto (n:=11) (l':=[(2,.ref 0 290 0 0),(3,I 0)]) (own':=[Q4j p0 x4]) [(2,.ref 1 290 0 0),(3,I 0)] [1] [Q4j p0 x4] hq (prr (pw pn)) (qb (lc rwl (lc (rnd Qbz) (Qek (Qbh fun _=>rwl) (Qbh fun _=>rwl)))) qn))<|Qad ?_
 obtain rfl:=osi h
 exact⟨_,Mor.rfl,Qj2 (vs:=[.ref 0 290 0 0,I 0]) ⟨rot,rot,tv⟩ rfl (NLt.tup _ (nlc (NLt.ref _ _ _ _ (by decide)) (nlc (NLt.of0 nll) nl0))) (by kernel_rfl) (Qdt (Qkg (nlc (NLt.of0 nll) (nlc (NLt.of0 (nld Qbz _)) (Qgh Q5k Q5k)))) Qkf)⟩
def Qjb (N:Nat) (p0:Qav) (r:Unit) (h:Qdq N p0=some (.inl r)):Spec prog 28 [Zau p0] [] (.tup [.lit (.pointer none),I 9]) []:=Qoa N p0 _ h
def Qja (N:Nat) (p0:Qav) (r:((Nat->Int)×(Nat->Int))) (h:Qdq N p0=some (.inr r)):Spec prog 28 [Zau p0] [] (.tup [.ref 0 290 0 0,I 0]) [.own 290 [I p0.Sites::.dat 4 (p0.Tests.map Qbu)::(arrF 144 r.1++arrF 144 r.2)]]:=Qoa N p0 _ h
def Qk4 (N:Nat) (p0:Qav) (p1 p2:Int):Option (Int⊕((Nat->Int)×(Nat->Int))):=(Qhs N p0).bind fun x5=>bif (x5 != 0) then some (.inl x5) else (Qez N p0 p1).bind fun x8=>bif !x8 then some (.inl 2) else (Qez N p0 p2).bind fun x11=>bif !x11 then some (.inl 2) else (Qdq N p0).bind (Sum.elim (fun _=>some (.inl 9)) (fun x16=>some (.inr (x16.1,x16.2))))
abbrev Zpk (p0:Qav):AV:=.dat 4 (p0.Tests.map Qbu)
abbrev Qxy (p0:Qav):AV:=.agg [I p0.Sites,Zpk p0]
def Zgh (p0:Qav) (p1:Int) (x8:Bool):List (Nat×Rec):=[(2,rp [fu 47,(.tmp 14,Qxy p0),(.tmp 15,I p1)] (B x8))]
abbrev Zgi (p0:Qav) (x16:((Nat->Int)×(Nat->Int))):Slot:=.own 290 [I p0.Sites::Zpk p0::(arrF 144 x16.1++arrF 144 x16.2)]
def Qpr (N:Nat) (p0:Qav) (p1 p2:Int) (r:(Int⊕((Nat->Int)×(Nat->Int)))) (h:Qk4 N p0 p1 p2=some r):Spec prog 36 [Qxy p0,I p1,I p2] [] ((Sum.elim (fun r=>(.tup [.lit (.pointer none),I r])) (fun r=>(.tup [.ref 0 290 (0) 0,I (0)])):(Int⊕((Nat->Int)×(Nat->Int)))->AV) r) ((Sum.elim (fun r=>[]) (fun r=>[.own 290 [I p0.Sites::.dat 4 (p0.Tests.map Qbu)::(arrF 144 r.1++arrF 144 r.2)]]):(Int⊕((Nat->Int)×(Nat->Int)))->List Slot) r):=by
 refine sF func36 1 fun _ _ _ hq hd0=>?_
 unfold Qk4 at h
 refine wxz<|wsq<|bnq h fun x5 f4 h=>wx tbk [(1,rp _ _)] ⟨apw Zi1 (Qnx N p0 _ f4),tv⟩<|wxz<|bfq h (fun c6 h=>?_) fun c6 h=>?_
 ·refine wxz ?_
  refine wmr (mto (n:=28) (l':=[(6,.lit (.pointer none)),(7,I x5)]) (own':=[]) [(6,.lit (.pointer none)),(7,I x5)] [] [] hq (pw (pw pn)) qn)<|Qad<|Qac ?_
  obtain rfl:=osi h
  exact⟨_,Mor.rfl,Qj2 (vs:=[.lit (.pointer none),I x5]) ⟨rot,rot,tv⟩ rfl (NLt.tup _ (nlc (NLt.of0 nll) (nlc (NLt.of0 nll) nl0))) (by kernel_rfl) Qkf⟩
 refine Qah<|thn<|wsq ?_
 refine bnq h fun x8 f7 h=>hpre (A:=(Zgh p0 p1 x8)) ⟨apv Qvt (Qgd N p0 p1 _ f7) (nlc (NLt.agg _ (nlc nll (nlc (nld Qbz _) nl0))) (nlc nll nl0)) nll,tv⟩ fun q1_=>?_
 refine bfe h (fun hb9 h=>?_) fun hb9 h=>?_
 ·refine wx tbk (hcat (Zgh p0 p1 x8) [(4,rp [(.tmp 17,B !x8)] (B true))]) (hap q1_ ⟨asb hb9 (amv rfl),tv⟩)<|wtr<|wxz ?_
  refine wmr (mto (n:=28) (l':=[(6,.lit (.pointer none)),(7,I 2)]) (own':=[]) [(6,.lit (.pointer none)),(7,I 2)] [] [] hq (pw (pw pn)) qn)<|Qad<|Qac ?_
  obtain rfl:=osi h
  exact⟨_,Mor.rfl,Qj2 (vs:=[.lit (.pointer none),I 2]) ⟨rot,rot,tv⟩ rfl (NLt.tup _ (nlc (NLt.of0 nll) (nlc (NLt.of0 nll) nl0))) (by kernel_rfl) Qkf⟩
 refine bnq h fun x11 f10 h=>wx tbk (hcat (Zgh p0 p1 x8) [(4,rp [(.tmp 17,B !x8)] (B false)),(7,rp [(.tmp 18,B false),fu 47,(.tmp 19,Qxy p0),(.tmp 20,I p2)] (B x11))]) (hap q1_ ⟨asb hb9 (amv rfl),ag_ (apv Qvt (Qgd N p0 p2 _ f10) (nlc (NLt.agg _ (nlc nll (nlc (nld Qbz _) nl0))) (nlc nll nl0)) nll),tv⟩)<|bfq h (fun c12 h=>?_) fun c12 h=>?_
 ·refine wxz ?_
  refine wmr (mto (n:=28) (l':=[(6,.lit (.pointer none)),(7,I 2)]) (own':=[]) [(6,.lit (.pointer none)),(7,I 2)] [] [] hq (pw (pw pn)) qn)<|Qad<|Qac ?_
  obtain rfl:=osi h
  exact⟨_,Mor.rfl,Qj2 (vs:=[.lit (.pointer none),I 2]) ⟨rot,rot,tv⟩ rfl (NLt.tup _ (nlc (NLt.of0 nll) (nlc (NLt.of0 nll) nl0))) (by kernel_rfl) Qkf⟩
 refine Qah<|thn ?_
 refine bnq h fun x14 f13 h=>?_
 rcases x14 with x15 |x16
 ·replace h:=Q72 h
  refine wx tbk [(1,rp _ _)] ⟨acq [Qxy p0] [] [] (.tup [.lit (.pointer none),I 9]) [] Qr1 (Qjb N p0 _ f13) pli Qai Qai pli,tv⟩ ?_
  refine wmr (mto (n:=28) (l':=[(6,.lit (.pointer none)),(7,I 9)]) (own':=[]) [(6,.lit (.pointer none)),(7,I 9)] [] [] hq (pw (pw pn)) qn)<|Qad ?_
  obtain rfl:=osi h
  exact⟨_,Mor.rfl,Qj2 (vs:=[.lit (.pointer none),I 9]) ⟨rot,rot,tv⟩ rfl (NLt.tup _ (nlc (NLt.of0 nll) (nlc (NLt.of0 nll) nl0))) (by kernel_rfl) Qkf⟩
 replace h:=Q71 h
 refine wx tbk [(1,⟨_,_,_,_,false⟩)] ⟨acq [Qxy p0] [] [Zgi p0 x16] (.tup [.ref 1 290 0 0,I 0]) [1] Qr1 (Qja N p0 _ f13) pli Qai (slc (Qcr (rnc pli (rnc (pld Qbz) (Qek (Qbh fun _=>pli) (Qbh fun _=>pli))))) Qai) (Q0s (rnc (Qb7 rfl) (rnc pli rn0))),tv⟩ ?_
 refine wmr (mto (n:=28) (l':=[(6,.ref 0 290 0 0),(7,I 0)]) (own':=[Zgi p0 x16]) [(6,.ref 1 290 0 0),(7,I 0)] [1] [Zgi p0 x16] hq (prr (pw pn)) (qb (lc rwl (lc (rnd Qbz) (Qek (Qbh fun _=>rwl) (Qbh fun _=>rwl)))) qn))<|Qad ?_
 obtain rfl:=osi h
 exact⟨_,Mor.rfl,Qj2 (vs:=[.ref 0 290 0 0,I 0]) ⟨rot,rot,tv⟩ rfl (NLt.tup _ (nlc (NLt.ref _ _ _ _ (by decide)) (nlc (NLt.of0 nll) nl0))) (by kernel_rfl) (Qdt (Qkg (nlc (NLt.of0 nll) (nlc (NLt.of0 (nld Qbz _)) (Qgh Q5k Q5k)))) Qkf)⟩
def Qtb (N:Nat) (p0:Qav) (p1 p2 r:Int) (h:Qk4 N p0 p1 p2=some (.inl r)):Spec prog 36 [Qxy p0,I p1,I p2] [] (.tup [.lit (.pointer none),I r]) []:=Qpr N p0 p1 p2 _ h
def Qta (N:Nat) (p0:Qav) (p1 p2:Int) (r:((Nat->Int)×(Nat->Int))) (h:Qk4 N p0 p1 p2=some (.inr r)):Spec prog 36 [Qxy p0,I p1,I p2] [] (.tup [.ref 0 290 0 0,I 0]) [.own 290 [I p0.Sites::.dat 4 (p0.Tests.map Qbu)::(arrF 144 r.1++arrF 144 r.2)]]:=Qpr N p0 p1 p2 _ h
def Qhk (_N:Nat) (_p0:Int) (_p1:List Qc8) (p2 _p3:(Nat->Int)) (p4:Qc8) (p5 p6:Int):Option Int:=chk (decide (0<=p4.From)&&decide (p4.From.toNat<12))<|chk (decide (0<=p5)&&decide (p5.toNat<12))<|chk (decide (0<=p6)&&decide (p6.toNat<12))<|chk (decide (0<=p4.To)&&decide (p4.To.toNat<12))<|(some (w64 ((w64 (p4.Seen.Lo-(p2 (p4.From.toNat*12+p5.toNat))))-(p2 (p6.toNat*12+p4.To.toNat))))).bind fun x5=>some x5
abbrev Qp5 (p1:List Qc8):AV:=.dat 4 (p1.map Qbu)
def Qqj (N:Nat) (p0:Int) (p1:List Qc8) (p2 p3:(Nat->Int)) (p4:Qc8) (p5 p6 r:Int) (h:Qhk N p0 p1 p2 p3 p4 p5 p6=some r):Spec prog 57 [.dptr (I p0::Qp5 p1::(arrF 144 p2++arrF 144 p3)) 0,.agg [I p4.From,I p4.To,I p4.Seen.Lo,I p4.Seen.Hi],I p5,I p6] [] (I r) []:=by
 refine sA func57 0 fun _ _ _ hq hd0=>?_
 unfold Qhk at h
 refine wxz<|ckq h fun i1 h=>?_
 obtain⟨hi1a,hi1b⟩:=Qb6 i1
 refine ckq h fun i2 h=>?_
 obtain⟨hi2a,hi2b⟩:=Qb6 i2
 refine ckq h fun i3 h=>?_
 obtain⟨hi3a,hi3b⟩:=Qb6 i3
 refine ckq h fun i4 h=>?_
 obtain⟨hi4a,hi4b⟩:=Qb6 i4
 refine bnq h fun x5 hl6 h=>wxd tbk [(9,rp [(.tmp 17,.dptr (I p0::Qp5 p1::(arrF 144 p2++arrF 144 p3)) 2),(.tmp 14,I p4.From)] (.dptr (I p0::Qp5 p1::(arrF 144 p2++arrF 144 p3)) (2+p4.From.toNat*12))),(10,rp [(.tmp 18,.dptr (I p0::Qp5 p1::(arrF 144 p2++arrF 144 p3)) (2+p4.From.toNat*12)),(.tmp 15,I p5)] (.dptr (I p0::Qp5 p1::(arrF 144 p2++arrF 144 p3)) ((2+p4.From.toNat*12)+p5.toNat*1))),(11,rp [(.tmp 19,.dptr (I p0::Qp5 p1::(arrF 144 p2++arrF 144 p3)) ((2+p4.From.toNat*12)+p5.toNat*1))] (I (p2 (p4.From.toNat*12+p5.toNat)))),(19,rp [(.tmp 27,.dptr (I p0::Qp5 p1::(arrF 144 p2++arrF 144 p3)) 2),(.tmp 23,I p6)] (.dptr (I p0::Qp5 p1::(arrF 144 p2++arrF 144 p3)) (2+p6.toNat*12))),(20,rp [(.tmp 28,.dptr (I p0::Qp5 p1::(arrF 144 p2++arrF 144 p3)) (2+p6.toNat*12)),(.tmp 25,I p4.To)] (.dptr (I p0::Qp5 p1::(arrF 144 p2++arrF 144 p3)) ((2+p6.toNat*12)+p4.To.toNat*1))),(21,rp [(.tmp 29,.dptr (I p0::Qp5 p1::(arrF 144 p2++arrF 144 p3)) ((2+p6.toNat*12)+p4.To.toNat*1))] (I (p2 (p6.toNat*12+p4.To.toNat)))),(22,rp [(.tmp 21,I (w64 (p4.Seen.Lo-(p2 (p4.From.toNat*12+p5.toNat))))),(.tmp 30,I (p2 (p6.toNat*12+p4.To.toNat)))] (I x5))] ?_ ?_
 ·exact⟨Qfv rfl Xbt Qro (odt hi1a) (odt hi1b) rfl,Qfv rfl Xbu ti3 (odt hi2a) (odt hi2b) rfl,ald_ rfl ti3 (by decide) (Qls (n:=144) (off:=2) (k:=p4.From.toNat*12+p5.toNat) (lt2 (odt hi1b) (odt hi2b) rfl) (by omega) (nle rfl)) (Qou (pre:=[I p0,Qp5 p1]) (post:=arrF 144 p3) (n:=144) (off:=2) (k:=p4.From.toNat*12+p5.toNat) (f:=p2) (by kernel_rfl) rfl (lt2 (odt hi1b) (odt hi2b) rfl) (by omega)),Qfv rfl Xbt Qro (odt hi3a) (odt hi3b) rfl,Qfv rfl Xbu ti3 (odt hi4a) (odt hi4b) rfl,ald_ rfl ti3 (by decide) (Qls (n:=144) (off:=2) (k:=p6.toNat*12+p4.To.toNat) (lt2 (odt hi3b) (odt hi4b) rfl) (by omega) (nle rfl)) (Qou (pre:=[I p0,Qp5 p1]) (post:=arrF 144 p3) (n:=144) (off:=2) (k:=p6.toNat*12+p4.To.toNat) (f:=p2) (by kernel_rfl) rfl (lt2 (odt hi3b) (odt hi4b) rfl) (by omega)),Qhz hl6 (abn rfl rfl),tv⟩
 refine Qad ?_
 obtain rfl:=osi h
 exact fend ⟨[I x5],⟨rot,tv⟩,rfl⟩ nll
def Qde (N:Nat) (p0:Int) (p1:List Qc8) (p2 p3:(Nat->Int)) (k4:Int×Int->Option (Int×Int)) (p4 p5:Int):Nat->Int->Int->Int->Option (Int×Int)
 |0,_,_,_=>none
 |n11+1,y5,y6,y7=>bif decide (y7<(p1.length:Int)) then (getI p1 y7).bind fun x13=>(Qhk N p0 p1 p2 p3 (⟨x13.From,x13.To,(⟨x13.Seen.Lo,x13.Seen.Hi⟩:Qkb)⟩:Qc8) p4 p5).bind fun x18=>bif decide (x18>y5) then Qde N p0 p1 p2 p3 k4 p4 p5 n11 x18 y7 (w64 (y7+1)) else Qde N p0 p1 p2 p3 k4 p4 p5 n11 y5 y6 (w64 (y7+1)) else k4 (y5,y6)
def Qgc (N:Nat) (p0:Int) (p1:List Qc8) (p2 p3:(Nat->Int)) (p4 p5:Int):Option (Int×Int):=bif (p4==p5) then some (0,(-1)) else Qb0 (fun ⟨y2,y3⟩=>some (y2,y3)) fun k4:Int×Int->Option (Int×Int)=>Qde N p0 p1 p2 p3 k4 p4 p5 N 0 (-1) 0
abbrev Qss (p1:List Qc8):AV:=.dat 4 (p1.map Qbu)
abbrev Q0n (p0:Int) (p1:List Qc8) (p2 p3:(Nat->Int)):AV:=.fn (.func 57) [.dptr (I p0::Qss p1::(arrF 144 p2++arrF 144 p3)) 0] []
def Qlz (N:Nat) (p0:Int) (p1:List Qc8) (p2 p3:(Nat->Int)) (p4 p5:Int) (r:(Int×Int)) (h:Qgc N p0 p1 p2 p3 p4 p5=some r):Spec prog 37 [.dptr (I p0::Qss p1::(arrF 144 p2++arrF 144 p3)) 0,I p4,I p5] [] (.tup [I r.1,I r.2]) []:=by
 refine sA func37 0 fun _ _ _ hq hd0=>?_
 unfold Qgc at h
 refine wxz<|wxz<|wsq<|wxz<|bfq h (fun c1 h=>?_) fun c1 h=>?_
 ·refine wxz<|Qad<|Qac ?_
  obtain rfl:=osi h
  exact fie [I 0,I (-1)] ⟨rot,rot,tv⟩
 refine Qah<|thn ?_
 refine wx tbk [(1,rp [(.tmp 16,.dptr (I p0::Qss p1::(arrF 144 p2++arrF 144 p3)) 0)] (Q0n p0 p1 p2 p3))] ?_ ?_
 ·exact⟨Qfp (fs:=[.dptr (I p0::Qss p1::(arrF 144 p2++arrF 144 p3)) 0]) (cs:=[]) rfl rfl rfl rfl,tv⟩
 refine wjq h (fun ⟨y2,y3⟩=>⟨mk 42 [(6,I y2),(7,I y3)],[]⟩) (fun t h=>?_) fun k4 h=>?_
 ·obtain⟨y2,y3⟩:=t
  refine wxz<|Qad ?_
  obtain rfl:=osi h
  exact fie [I y2,I y3] ⟨rot,rot,tv⟩
 refine wx tbk [(5,rp _ _)] ⟨alq 4 Qbu p1 Xb7,tv⟩<|Qaf ?_
 refine wmr (mto (n:=42) (l':=[(1,I p4),(2,I p5),(6,I 0),(7,I (-1)),(8,Q0n p0 p1 p2 p3),(22,Qss p1),(23,I (p1.length:Int)),(24,I 0)]) (own':=[]) [(1,I p4),(2,I p5),(6,I 0),(7,I (-1)),(8,Q0n p0 p1 p2 p3),(22,Qss p1),(23,I (p1.length:Int)),(24,I 0)] [] [] hq (pw (pw (pw (pw (pqi (pqi (pw (pw pn)))))))) qn) ?_
 refine Qbf (τ:=Int×Int×Int) (fun n t=>Qde N p0 p1 p2 p3 k4 p4 p5 n t.1 t.2.1 t.2.2=some r) (fun ⟨y5,y6,y7⟩=>⟨mk 42 [(1,I p4),(2,I p5),(6,I y5),(7,I y6),(8,Q0n p0 p1 p2 p3),(22,Qss p1),(23,I (p1.length:Int)),(24,I y7)],[]⟩) (fun t h=>by rw[Qde] at h;cases h) (fun n11 ih t h=>?_) N (0,(-1),0) h
 obtain⟨y5,y6,y7⟩:=t
 rw[Qde] at h
 refine wxz<|wsq<|bfq h (fun c12 h=>?_) fun c12 h=>?_
 ·refine Qah<|thn<|wsq<|Qaf ?_
  refine bgq h fun x13 i15 j16 h=>wx tbk [(1,rp _ _)] ⟨aiq Xb7 ti88 Qbu i15 j16,tv⟩<|bnq h fun x18 f17 h=>wx tbk [(4,rp _ _)] ⟨Qd5 (first:=[.dptr (I p0::Qss p1::(arrF 144 p2++arrF 144 p3)) 0]) (cap:=[]) (vs:=[.agg [I ((⟨x13.From,x13.To,(⟨x13.Seen.Lo,x13.Seen.Hi⟩:Qkb)⟩:Qc8).From),I ((⟨x13.From,x13.To,(⟨x13.Seen.Lo,x13.Seen.Hi⟩:Qkb)⟩:Qc8).To),I ((⟨x13.From,x13.To,(⟨x13.Seen.Lo,x13.Seen.Hi⟩:Qkb)⟩:Qc8).Seen.Lo),I ((⟨x13.From,x13.To,(⟨x13.Seen.Lo,x13.Seen.Hi⟩:Qkb)⟩:Qc8).Seen.Hi)],I p4,I p5]) (σr:=[]) (σr':=[]) (res':=(I x18)) [] rfl Zs4 (Qqj N p0 p1 p2 p3 (⟨x13.From,x13.To,(⟨x13.Seen.Lo,x13.Seen.Hi⟩:Qkb)⟩:Qc8) p4 p5 _ f17) rfl pli Qai Qai pli rfl rfl rfl,tv⟩<|wxz<|bfq h (fun c19 h=>?_) fun c19 h=>?_
  ·exact wxz1<|bln<|thn<|wxz1<|thn<|arm (mto (n:=42) [(1,I p4),(2,I p5),(6,I x18),(7,I y7),(8,Q0n p0 p1 p2 p3),(22,Qss p1),(23,I (p1.length:Int)),(24,I (w64 (y7+1)))] [] [] hq (pw (pw (pw (pw (pqi (pqi (pw (pw pn)))))))) qn) (ih (x18,y7,w64 (y7+1)) h)
  exact Qah<|bln<|thn<|wxz1<|thn<|arm (mto (n:=42) [(1,I p4),(2,I p5),(6,I y5),(7,I y6),(8,Q0n p0 p1 p2 p3),(22,Qss p1),(23,I (p1.length:Int)),(24,I (w64 (y7+1)))] [] [] hq (pw (pw (pw (pw (pqi (pqi (pw (pw pn)))))))) qn) (ih (y5,y6,w64 (y7+1)) h)
 exact Qax<|Qan<|Qan<|Qaw rfl<|thn<|⟨(y5,y6),h,mto (n:=42) [(6,I y5),(7,I y6)] [] [] hq (pw (pw pn)) qn⟩
def Qi9 (_N:Nat) (_p0:Int) (_p1:List Qc8) (_p2 _p3:(Nat->Int)) (_p4 _p5:Int):Option Unit:=some ()
abbrev Zgf:AV:=.fn (.func 59) [] [.ref 0 1 (0) 0,.ref 1 1 (0) 0,.ref 2 1 (0) 0]
abbrev Zgg (p0:Int) (p1:List Qc8) (p2 p3:(Nat->Int)):Slot:=.own 1 [[.dptr (I p0::.dat 4 (p1.map Qbu)::(arrF 144 p2++arrF 144 p3)) 0]]
abbrev Zph:AV:=.fn (.func 59) [] [.ref 1 1 (0) 0,.ref 2 1 (0) 0,.ref 0 1 (0) 0]
def Ql0 (N:Nat) (p0:Int) (p1:List Qc8) (p2 p3:(Nat->Int)) (p4 p5:Int) (r:Unit) (h:Qi9 N p0 p1 p2 p3 p4 p5=some r):Spec prog 39 [.dptr (I p0::.dat 4 (p1.map Qbu)::(arrF 144 p2++arrF 144 p3)) 0,I p4,I p5] [] Zgf [.own 1 [[I p4]],.own 1 [[I p5]],Zgg p0 p1 p2 p3]:=by
 refine sF func39 3 fun _ _ _ hq hd0=>?_
 unfold Qi9 at h
 refine wxz<|wx tbk [(0,rp [(.tmp 4,.ref 1 1 0 0),(.tmp 5,.ref 2 1 0 0),(.tmp 3,.ref 0 1 0 0)] Zph)] ⟨Qfp (fs:=[]) (cs:=[.ref 1 1 0 0,.ref 2 1 0 0,.ref 0 1 0 0]) rfl rfl rfl rfl,tv⟩ ?_
 refine wmr (mto (n:=8) (l':=[(6,Zgf)]) (own':=[.own 1 [[I p4]],.own 1 [[I p5]],Zgg p0 p1 p2 p3]) [(6,Zph)] [1,2,0] [.own 1 [[I p4]],.own 1 [[I p5]],Zgg p0 p1 p2 p3] hq (pc (.rn (Qby rn0 (rnc (rqr rfl) (rnc (rqr rfl) (rnc (rqr rfl) rn0))))) pn) (qbi (qbi (qbi qn))))<|Qad ?_
 obtain rfl:=osi h
 exact⟨_,Mor.rfl,fio [Zgf] ⟨rot,tv⟩⟩
def Qfm (N:Nat) (p1:Int) (p3:List Qc8) (p5:(Nat->Int)):Nat->Int->Option (List Int)
 |0,_=>none
 |n5+1,y1=>Qb0 (fun _=>chk (decide (0<=y1)&&decide (y1.toNat<12))<|chk (decide (0<=p1)&&decide (p1.toNat<12))<|(getI p3 (p5 (y1.toNat*12+p1.toNat))).bind fun x10=>Qfm N p1 p3 p5 n5 x10.To) fun k7:Unit->Option (List Int)=>bif (y1 != p1) then chk (decide (0<=y1)&&decide (y1.toNat<12))<|chk (decide (0<=p1)&&decide (p1.toNat<12))<|bif decide ((p5 (y1.toNat*12+p1.toNat))>=0) then chk (decide (0<=y1)&&decide (y1.toNat<12))<|chk (decide (0<=p1)&&decide (p1.toNat<12))<|yld (p5 (y1.toNat*12+p1.toNat))<|k7 () else some ([]) else some ([])
def Qk3 (N:Nat) (p0 p1 _p2:Int) (p3:List Qc8) (_p4 p5:(Nat->Int)):Option (List Int):=Qfm N p1 p3 p5 N p0
abbrev Qei (p3:List Qc8):AV:=.dat 4 (p3.map Qbu)
abbrev Qrl (p2:Int) (p3:List Qc8) (p4 p5:(Nat->Int)):Slot:=.own 1 [[.dptr (I p2::Qei p3::(arrF 144 p4++arrF 144 p5)) 0]]
def Qql (N:Nat) (p0 p1 p2:Int) (p3:List Qc8) (p4 p5:(Nat->Int)) (r:List Int) (h:Qk3 N p0 p1 p2 p3 p4 p5=some r):Qv0 prog 59 [.ref 0 1 (0) 0,.ref 1 1 (0) 0,.ref 2 1 (0) 0] [.own 1 [[I p0]],.own 1 [[I p1]],Qrl p2 p3 p4 p5] (fun x=>[I x]) r:=by
 refine Qvb func59 rfl rfl (fun X φ0 w0 l J hq _ hy=>?_)
 unfold Qk3 at h
 refine Qaf<|wmr (mto (n:=47) (l':=[(0,.lit (.func (.yield l) #[] #[])),(1,.ref 0 1 0 0),(2,.ref 1 1 0 0),(3,.ref 2 1 0 0)]) (own':=[.own 1 [[I p0]],.own 1 [[I p1]],Qrl p2 p3 p4 p5,.far (J (some r))]) [(0,.lit (.func (.yield l) #[] #[])),(1,.ref 0 1 0 0),(2,.ref 1 1 0 0),(3,.ref 2 1 0 0)] [0,1,2,3] [.own 1 [[I p0]],.own 1 [[I p1]],Qrl p2 p3 p4 p5,.far (J (some r))] hq (pw (prr (prr (prr pn)))) (qbi (qbi (qbi (qc (.far _) qn))))) ?_
 refine Qbf (τ:=(Int)×List Int) (fun n t=>Qfm N p1 p3 p5 n t.1=some t.2) (fun ⟨y1,q2⟩=>⟨mk 47 [(0,.lit (.func (.yield l) #[] #[])),(1,.ref 0 1 0 0),(2,.ref 1 1 0 0),(3,.ref 2 1 0 0)],[.own 1 [[I y1]],.own 1 [[I p1]],Qrl p2 p3 p4 p5,.far (J (some q2))]⟩) (fun t h=>by rw[Qfm] at h;cases h) (fun n5 ih t h=>?_) N (p0,r) h
 obtain⟨y1,q2⟩:=t
 rw[Qfm] at h
 try dsimp only at h
 obtain⟨k7,ek7,h⟩:=jko h
 refine wjn (τ:=(Unit)×List Int) (fun t=>k7 t.1=some t.2) (fun ⟨_,q6⟩=>⟨mk 47 [(0,.lit (.func (.yield l) #[] #[])),(1,.ref 0 1 0 0),(2,.ref 1 1 0 0),(3,.ref 2 1 0 0)],[.own 1 [[I y1]],.own 1 [[I p1]],Qrl p2 p3 p4 p5,.far (J (some q6))]⟩) (fun t h=>?_) ?_
 ·subst ek7
  obtain⟨_,q6⟩:=t
  refine Qaf ?_
  refine ckq h fun i8 h=>?_
  obtain⟨hi8a,hi8b⟩:=Qb6 i8
  refine ckq h fun i9 h=>?_
  obtain⟨hi9a,hi9b⟩:=Qb6 i9
  refine bgq h fun x10 i12 j13 h=>wy1 tbk [(10,rp [(.tmp 40,.dptr (I p2::Qei p3::(arrF 144 p4++arrF 144 p5)) 146),(.tmp 37,I y1)] (.dptr (I p2::Qei p3::(arrF 144 p4++arrF 144 p5)) (146+y1.toNat*12))),(11,rp [(.tmp 41,.dptr (I p2::Qei p3::(arrF 144 p4++arrF 144 p5)) (146+y1.toNat*12)),(.tmp 38,I p1)] (.dptr (I p2::Qei p3::(arrF 144 p4++arrF 144 p5)) ((146+y1.toNat*12)+p1.toNat*1))),(12,rp [(.tmp 42,.dptr (I p2::Qei p3::(arrF 144 p4++arrF 144 p5)) ((146+y1.toNat*12)+p1.toNat*1))] (I (p5 (y1.toNat*12+p1.toNat)))),(13,rp [(.tmp 35,Qei p3),(.tmp 43,I (p5 (y1.toNat*12+p1.toNat)))] (.dptr (Qbu x10) 0))] ?_ ?_
  ·exact⟨Qfv rfl Xbt Qro (odt hi8a) (odt hi8b) rfl,Qfv rfl Xbu ti3 (odt hi9a) (odt hi9b) rfl,ald_ rfl ti3 (by decide) (Qls (n:=144) (off:=146) (k:=y1.toNat*12+p1.toNat) (lt2 (odt hi8b) (odt hi9b) rfl) (by omega) (nle rfl)) (Qou (pre:=(I p2::Qei p3::arrF 144 p4)) (post:=[]) (n:=144) (off:=146) (k:=y1.toNat*12+p1.toNat) (f:=p5) (by kernel_rfl) rfl (lt2 (odt hi8b) (odt hi9b) rfl) (by omega)),aiq Xb7 ti88 Qbu i12 j13,tv⟩
  exact bln<|thn<|arm (mto (n:=47) [(0,.lit (.func (.yield l) #[] #[])),(1,.ref 0 1 0 0),(2,.ref 1 1 0 0),(3,.ref 2 1 0 0)] [0,1,2,3] [.own 1 [[I x10.To]],.own 1 [[I p1]],Qrl p2 p3 p4 p5,.far (J (some q6))] hq (pw (prr (prr (prr pn)))) (qbi (qbi (qbi (qc (.far _) qn))))) (ih (x10.To,q6) h)
 refine bfe h (fun hb14 h=>?_) fun hb14 h=>?_
 ·refine ckq h fun i15 h=>?_
  obtain⟨hi15a,hi15b⟩:=Qb6 i15
  refine ckq h fun i16 h=>?_
  obtain⟨hi16a,hi16b⟩:=Qb6 i16
  refine bfe h (fun hb17 h=>?_) fun hb17 h=>?_
  ·refine ckq h fun i18 h=>?_
   obtain⟨hi18a,hi18b⟩:=Qb6 i18
   refine ckq h fun i19 h=>?_
   obtain⟨hi19a,hi19b⟩:=Qb6 i19
   obtain⟨q20,hy_,hq_⟩:=Q2c h
   clear h
   try dsimp only at hq_
   subst hq_
   have h:=hy_
   clear hy_
   refine Qzm 24 [rb [(.tmp 1,.ref 0 1 0 0)] [(0,.own 1 [[I y1]])] (I y1),rb [(.tmp 2,.ref 1 1 0 0)] [(1,.own 1 [[I p1]])] (I p1),rp [(.tmp 5,I y1),(.tmp 6,I p1)] (B (y1 != p1)),rp [(.tmp 7,B (y1 != p1))] (B true),rb [(.tmp 8,B true),(.tmp 3,.ref 2 1 0 0)] [(2,Qrl p2 p3 p4 p5)] (.dptr (I p2::Qei p3::(arrF 144 p4++arrF 144 p5)) 0),rb [(.tmp 8,B true),(.tmp 1,.ref 0 1 0 0)] [(0,.own 1 [[I y1]])] (I y1),rb [(.tmp 8,B true),(.tmp 2,.ref 1 1 0 0)] [(1,.own 1 [[I p1]])] (I p1),rp [(.tmp 8,B true),(.tmp 9,.dptr (I p2::Qei p3::(arrF 144 p4++arrF 144 p5)) 0)] (.dptr (I p2::Qei p3::(arrF 144 p4++arrF 144 p5)) 0),rp [(.tmp 8,B true),(.tmp 12,.dptr (I p2::Qei p3::(arrF 144 p4++arrF 144 p5)) 0)] (.dptr (I p2::Qei p3::(arrF 144 p4++arrF 144 p5)) 146),rp [(.tmp 8,B true),(.tmp 13,.dptr (I p2::Qei p3::(arrF 144 p4++arrF 144 p5)) 146),(.tmp 10,I y1)] (.dptr (I p2::Qei p3::(arrF 144 p4++arrF 144 p5)) (146+y1.toNat*12)),rp [(.tmp 8,B true),(.tmp 14,.dptr (I p2::Qei p3::(arrF 144 p4++arrF 144 p5)) (146+y1.toNat*12)),(.tmp 11,I p1)] (.dptr (I p2::Qei p3::(arrF 144 p4++arrF 144 p5)) ((146+y1.toNat*12)+p1.toNat*1)),rp [(.tmp 8,B true),(.tmp 15,.dptr (I p2::Qei p3::(arrF 144 p4++arrF 144 p5)) ((146+y1.toNat*12)+p1.toNat*1))] (I (p5 (y1.toNat*12+p1.toNat))),rp [(.tmp 8,B true),(.tmp 16,I (p5 (y1.toNat*12+p1.toNat))),ci 0] (B (decide ((p5 (y1.toNat*12+p1.toNat))>=0))),rp [(.tmp 8,B true),(.tmp 17,B (decide ((p5 (y1.toNat*12+p1.toNat))>=0))),cb false] (B (decide ((p5 (y1.toNat*12+p1.toNat))>=0))),rp [(.tmp 18,B (decide ((p5 (y1.toNat*12+p1.toNat))>=0)))] (B true),rp [(.tmp 19,B true),(.tmp 0,.lit (.func (.yield l) #[] #[]))] (.lit (.func (.yield l) #[] #[])),rb [(.tmp 19,B true),(.tmp 3,.ref 2 1 0 0)] [(2,Qrl p2 p3 p4 p5)] (.dptr (I p2::Qei p3::(arrF 144 p4++arrF 144 p5)) 0),rb [(.tmp 19,B true),(.tmp 1,.ref 0 1 0 0)] [(0,.own 1 [[I y1]])] (I y1),rb [(.tmp 19,B true),(.tmp 2,.ref 1 1 0 0)] [(1,.own 1 [[I p1]])] (I p1),rp [(.tmp 19,B true),(.tmp 21,.dptr (I p2::Qei p3::(arrF 144 p4++arrF 144 p5)) 0)] (.dptr (I p2::Qei p3::(arrF 144 p4++arrF 144 p5)) 0),rp [(.tmp 19,B true),(.tmp 24,.dptr (I p2::Qei p3::(arrF 144 p4++arrF 144 p5)) 0)] (.dptr (I p2::Qei p3::(arrF 144 p4++arrF 144 p5)) 146),rp [(.tmp 19,B true),(.tmp 25,.dptr (I p2::Qei p3::(arrF 144 p4++arrF 144 p5)) 146),(.tmp 22,I y1)] (.dptr (I p2::Qei p3::(arrF 144 p4++arrF 144 p5)) (146+y1.toNat*12)),rp [(.tmp 19,B true),(.tmp 26,.dptr (I p2::Qei p3::(arrF 144 p4++arrF 144 p5)) (146+y1.toNat*12)),(.tmp 23,I p1)] (.dptr (I p2::Qei p3::(arrF 144 p4++arrF 144 p5)) ((146+y1.toNat*12)+p1.toNat*1)),rp [(.tmp 19,B true),(.tmp 27,.dptr (I p2::Qei p3::(arrF 144 p4++arrF 144 p5)) ((146+y1.toNat*12)+p1.toNat*1))] (I (p5 (y1.toNat*12+p1.toNat))),⟨[(.tmp 19,B true),(.tmp 20,.lit (.func (.yield l) #[] #[])),(.tmp 28,I (p5 (y1.toNat*12+p1.toNat)))],[(3,.far (J (some (p5 (y1.toNat*12+p1.toNat)::q20))))],B true,[(3,.far (J (some q20)))],false⟩,rp [(.tmp 19,B true),(.tmp 29,B true),cb false] (B true)] [rb [(.tmp 1,.ref 0 1 0 0)] [(0,.own 1 [[I y1]])] (I y1),rb [(.tmp 2,.ref 1 1 0 0)] [(1,.own 1 [[I p1]])] (I p1),rp [(.tmp 5,I y1),(.tmp 6,I p1)] (B (y1 != p1)),rp [(.tmp 7,B (y1 != p1))] (B true),rb [(.tmp 8,B true),(.tmp 3,.ref 2 1 0 0)] [(2,Qrl p2 p3 p4 p5)] (.dptr (I p2::Qei p3::(arrF 144 p4++arrF 144 p5)) 0),rb [(.tmp 8,B true),(.tmp 1,.ref 0 1 0 0)] [(0,.own 1 [[I y1]])] (I y1),rb [(.tmp 8,B true),(.tmp 2,.ref 1 1 0 0)] [(1,.own 1 [[I p1]])] (I p1),rp [(.tmp 8,B true),(.tmp 9,.dptr (I p2::Qei p3::(arrF 144 p4++arrF 144 p5)) 0)] (.dptr (I p2::Qei p3::(arrF 144 p4++arrF 144 p5)) 0),rp [(.tmp 8,B true),(.tmp 12,.dptr (I p2::Qei p3::(arrF 144 p4++arrF 144 p5)) 0)] (.dptr (I p2::Qei p3::(arrF 144 p4++arrF 144 p5)) 146),rp [(.tmp 8,B true),(.tmp 13,.dptr (I p2::Qei p3::(arrF 144 p4++arrF 144 p5)) 146),(.tmp 10,I y1)] (.dptr (I p2::Qei p3::(arrF 144 p4++arrF 144 p5)) (146+y1.toNat*12)),rp [(.tmp 8,B true),(.tmp 14,.dptr (I p2::Qei p3::(arrF 144 p4++arrF 144 p5)) (146+y1.toNat*12)),(.tmp 11,I p1)] (.dptr (I p2::Qei p3::(arrF 144 p4++arrF 144 p5)) ((146+y1.toNat*12)+p1.toNat*1)),rp [(.tmp 8,B true),(.tmp 15,.dptr (I p2::Qei p3::(arrF 144 p4++arrF 144 p5)) ((146+y1.toNat*12)+p1.toNat*1))] (I (p5 (y1.toNat*12+p1.toNat))),rp [(.tmp 8,B true),(.tmp 16,I (p5 (y1.toNat*12+p1.toNat))),ci 0] (B (decide ((p5 (y1.toNat*12+p1.toNat))>=0))),rp [(.tmp 8,B true),(.tmp 17,B (decide ((p5 (y1.toNat*12+p1.toNat))>=0))),cb false] (B (decide ((p5 (y1.toNat*12+p1.toNat))>=0))),rp [(.tmp 18,B (decide ((p5 (y1.toNat*12+p1.toNat))>=0)))] (B true),rp [(.tmp 19,B true),(.tmp 0,.lit (.func (.yield l) #[] #[]))] (.lit (.func (.yield l) #[] #[])),rb [(.tmp 19,B true),(.tmp 3,.ref 2 1 0 0)] [(2,Qrl p2 p3 p4 p5)] (.dptr (I p2::Qei p3::(arrF 144 p4++arrF 144 p5)) 0),rb [(.tmp 19,B true),(.tmp 1,.ref 0 1 0 0)] [(0,.own 1 [[I y1]])] (I y1),rb [(.tmp 19,B true),(.tmp 2,.ref 1 1 0 0)] [(1,.own 1 [[I p1]])] (I p1),rp [(.tmp 19,B true),(.tmp 21,.dptr (I p2::Qei p3::(arrF 144 p4++arrF 144 p5)) 0)] (.dptr (I p2::Qei p3::(arrF 144 p4++arrF 144 p5)) 0),rp [(.tmp 19,B true),(.tmp 24,.dptr (I p2::Qei p3::(arrF 144 p4++arrF 144 p5)) 0)] (.dptr (I p2::Qei p3::(arrF 144 p4++arrF 144 p5)) 146),rp [(.tmp 19,B true),(.tmp 25,.dptr (I p2::Qei p3::(arrF 144 p4++arrF 144 p5)) 146),(.tmp 22,I y1)] (.dptr (I p2::Qei p3::(arrF 144 p4++arrF 144 p5)) (146+y1.toNat*12)),rp [(.tmp 19,B true),(.tmp 26,.dptr (I p2::Qei p3::(arrF 144 p4++arrF 144 p5)) (146+y1.toNat*12)),(.tmp 23,I p1)] (.dptr (I p2::Qei p3::(arrF 144 p4++arrF 144 p5)) ((146+y1.toNat*12)+p1.toNat*1)),rp [(.tmp 19,B true),(.tmp 27,.dptr (I p2::Qei p3::(arrF 144 p4++arrF 144 p5)) ((146+y1.toNat*12)+p1.toNat*1))] (I (p5 (y1.toNat*12+p1.toNat))),⟨[(.tmp 19,B true),(.tmp 20,.lit (.func (.yield l) #[] #[])),(.tmp 28,I (p5 (y1.toNat*12+p1.toNat)))],[(3,.far (J (some (p5 (y1.toNat*12+p1.toNat)::q20))))],B false,[(3,.far (J none))],false⟩,rp [(.tmp 19,B true),(.tmp 29,B false),cb false] (B false)] (by exact⟨by kernel_rfl,by kernel_rfl⟩) (by exact⟨by kernel_rfl,by kernel_rfl⟩) rfl rfl rfl rfl (Qwr (Qq4 (rd':=(.tmp 20,.lit (.func (.yield l) #[] #[]))::[(.tmp 28,I (p5 (y1.toNat*12+p1.toNat)))]) ⟨rfl,lrf,rfl,lrf,tv⟩ (Qpu (x:=p5 (y1.toNat*12+p1.toNat)) (rest:=q20) rfl rfl hy rfl))) (⟨fun _ _=>ald rfl ti3 (by decide) rfl (nle rfl) rfl,fun _ _=>ald rfl ti3 (by decide) rfl (nle rfl) rfl,fun _ _=>abn rfl rfl,fun _ _=>asb hb14 (amv rfl),fun _ _=>ag_ (ald rfl Zgs (by decide) rfl (nle rfl) rfl),fun _ _=>ag_ (ald rfl ti3 (by decide) rfl (nle rfl) rfl),fun _ _=>ag_ (ald rfl ti3 (by decide) rfl (nle rfl) rfl),fun _ _=>ag_ (anc rfl rfl),fun _ _=>ag_ (afd rfl Xc6 rfl rfl Qx3 (by decide) rfl),fun _ _=>ag_ (Qfv rfl Xbt Qro (odt hi15a) (odt hi15b) rfl),fun _ _=>ag_ (Qfv rfl Xbu ti3 (odt hi16a) (odt hi16b) rfl),fun _ _=>ag_ (ald_ rfl ti3 (by decide) (Qls (n:=144) (off:=146) (k:=y1.toNat*12+p1.toNat) (lt2 (odt hi15b) (odt hi16b) rfl) (by omega) (nle rfl)) (Qou (pre:=(I p2::Qei p3::arrF 144 p4)) (post:=[]) (n:=144) (off:=146) (k:=y1.toNat*12+p1.toNat) (f:=p5) (by kernel_rfl) rfl (lt2 (odt hi15b) (odt hi16b) rfl) (by omega))),fun _ _=>ag_ (abn rfl rfl),fun _ _=>apk rfl rfl,fun _ _=>asb hb17 (amv rfl),fun _ _=>ag_ (amv rfl),fun _ _=>ag_ (ald rfl Zgs (by decide) rfl (nle rfl) rfl),fun _ _=>ag_ (ald rfl ti3 (by decide) rfl (nle rfl) rfl),fun _ _=>ag_ (ald rfl ti3 (by decide) rfl (nle rfl) rfl),fun _ _=>ag_ (anc rfl rfl),fun _ _=>ag_ (afd rfl Xc6 rfl rfl Qx3 (by decide) rfl),fun _ _=>ag_ (Qfv rfl Xbt Qro (odt hi18a) (odt hi18b) rfl),fun _ _=>ag_ (Qfv rfl Xbu ti3 (odt hi19a) (odt hi19b) rfl),fun _ _=>ag_ (ald_ rfl ti3 (by decide) (Qls (n:=144) (off:=146) (k:=y1.toNat*12+p1.toNat) (lt2 (odt hi18b) (odt hi19b) rfl) (by omega) (nle rfl)) (Qou (pre:=(I p2::Qei p3::arrF 144 p4)) (post:=[]) (n:=144) (off:=146) (k:=y1.toNat*12+p1.toNat) (f:=p5) (by kernel_rfl) rfl (lt2 (odt hi18b) (odt hi19b) rfl) (by omega))),fun _ h=>absurd rfl h,fun _ _=>apk rfl rfl,tv⟩) (⟨fun _ _=>ald rfl ti3 (by decide) rfl (nle rfl) rfl,fun _ _=>ald rfl ti3 (by decide) rfl (nle rfl) rfl,fun _ _=>abn rfl rfl,fun _ _=>asb hb14 (amv rfl),fun _ _=>ag_ (ald rfl Zgs (by decide) rfl (nle rfl) rfl),fun _ _=>ag_ (ald rfl ti3 (by decide) rfl (nle rfl) rfl),fun _ _=>ag_ (ald rfl ti3 (by decide) rfl (nle rfl) rfl),fun _ _=>ag_ (anc rfl rfl),fun _ _=>ag_ (afd rfl Xc6 rfl rfl Qx3 (by decide) rfl),fun _ _=>ag_ (Qfv rfl Xbt Qro (odt hi15a) (odt hi15b) rfl),fun _ _=>ag_ (Qfv rfl Xbu ti3 (odt hi16a) (odt hi16b) rfl),fun _ _=>ag_ (ald_ rfl ti3 (by decide) (Qls (n:=144) (off:=146) (k:=y1.toNat*12+p1.toNat) (lt2 (odt hi15b) (odt hi16b) rfl) (by omega) (nle rfl)) (Qou (pre:=(I p2::Qei p3::arrF 144 p4)) (post:=[]) (n:=144) (off:=146) (k:=y1.toNat*12+p1.toNat) (f:=p5) (by kernel_rfl) rfl (lt2 (odt hi15b) (odt hi16b) rfl) (by omega))),fun _ _=>ag_ (abn rfl rfl),fun _ _=>apk rfl rfl,fun _ _=>asb hb17 (amv rfl),fun _ _=>ag_ (amv rfl),fun _ _=>ag_ (ald rfl Zgs (by decide) rfl (nle rfl) rfl),fun _ _=>ag_ (ald rfl ti3 (by decide) rfl (nle rfl) rfl),fun _ _=>ag_ (ald rfl ti3 (by decide) rfl (nle rfl) rfl),fun _ _=>ag_ (anc rfl rfl),fun _ _=>ag_ (afd rfl Xc6 rfl rfl Qx3 (by decide) rfl),fun _ _=>ag_ (Qfv rfl Xbt Qro (odt hi18a) (odt hi18b) rfl),fun _ _=>ag_ (Qfv rfl Xbu ti3 (odt hi19a) (odt hi19b) rfl),fun _ _=>ag_ (ald_ rfl ti3 (by decide) (Qls (n:=144) (off:=146) (k:=y1.toNat*12+p1.toNat) (lt2 (odt hi18b) (odt hi19b) rfl) (by omega) (nle rfl)) (Qou (pre:=(I p2::Qei p3::arrF 144 p4)) (post:=[]) (n:=144) (off:=146) (k:=y1.toNat*12+p1.toNat) (f:=p5) (by kernel_rfl) rfl (lt2 (odt hi18b) (odt hi19b) rfl) (by omega))),fun _ h=>absurd rfl h,fun _ _=>apk rfl rfl,tv⟩) ?_ ?_
   ·exact wtr<|Qah<|thn<|⟨((),q20),h,mto (n:=47) [(0,.lit (.func (.yield l) #[] #[])),(1,.ref 0 1 0 0),(2,.ref 1 1 0 0),(3,.ref 2 1 0 0)] [0,1,2,3] [.own 1 [[I y1]],.own 1 [[I p1]],Qrl p2 p3 p4 p5,.far (J (some q20))] hq (pw (prr (prr (prr pn)))) (qbi (qbi (qbi (qc (.far _) qn))))⟩
   clear h
   exact wfa<|Qax<|Qan<|Qan<|Qaw rfl<|Or.inr (by kernel_rfl)
  refine wxd tbk [(3,rp [(.tmp 7,B (y1 != p1))] (B true)),(9,rp [(.tmp 8,B true),(.tmp 13,.dptr (I p2::Qei p3::(arrF 144 p4++arrF 144 p5)) 146),(.tmp 10,I y1)] (.dptr (I p2::Qei p3::(arrF 144 p4++arrF 144 p5)) (146+y1.toNat*12))),(10,rp [(.tmp 8,B true),(.tmp 14,.dptr (I p2::Qei p3::(arrF 144 p4++arrF 144 p5)) (146+y1.toNat*12)),(.tmp 11,I p1)] (.dptr (I p2::Qei p3::(arrF 144 p4++arrF 144 p5)) ((146+y1.toNat*12)+p1.toNat*1))),(11,rp [(.tmp 8,B true),(.tmp 15,.dptr (I p2::Qei p3::(arrF 144 p4++arrF 144 p5)) ((146+y1.toNat*12)+p1.toNat*1))] (I (p5 (y1.toNat*12+p1.toNat)))),(14,rp [(.tmp 18,B (decide ((p5 (y1.toNat*12+p1.toNat))>=0)))] (B false))] ?_ ?_
  ·exact⟨asb hb14 (amv rfl),ag_ (Qfv rfl Xbt Qro (odt hi15a) (odt hi15b) rfl),ag_ (Qfv rfl Xbu ti3 (odt hi16a) (odt hi16b) rfl),ag_ (ald_ rfl ti3 (by decide) (Qls (n:=144) (off:=146) (k:=y1.toNat*12+p1.toNat) (lt2 (odt hi15b) (odt hi16b) rfl) (by omega) (nle rfl)) (Qou (pre:=(I p2::Qei p3::arrF 144 p4)) (post:=[]) (n:=144) (off:=146) (k:=y1.toNat*12+p1.toNat) (f:=p5) (by kernel_rfl) rfl (lt2 (odt hi15b) (odt hi16b) rfl) (by omega))),asb hb17 (amv rfl),tv⟩
  refine wfa<|Qax<|Qan<|Qan<|Qaw rfl ?_
  obtain rfl:=osi h
  exact Or.inl (by kernel_rfl)
 refine wxd tbk [(3,rp [(.tmp 7,B (y1 != p1))] (B false))] ⟨asb hb14 (amv rfl),tv⟩<|wfa<|Qax<|Qan<|Qan<|Qaw rfl ?_
 obtain rfl:=osi h
 exact Or.inl (by kernel_rfl)
def Qea (N:Nat) (k3:(List Int)->Option (List Int)):(List Int)->(List Int)->Option (List Int)
 |[],y6=>k3 y6
 |x9::q10,y6=>chk (decide ((y6.length+([x9]).length)*8<=140737488355328))<|Qea N k3 q10 (y6++([x9]))
def Qil (N:Nat) (p0 p1 p2:Int) (p3:List Qc8) (p4 p5:(Nat->Int)):Option (List Int):=Qb0 (fun y2=>some y2) fun k3:(List Int)->Option (List Int)=>(Qk3 N p0 p1 p2 p3 p4 p5).bind fun q4=>Qea N k3 q4 ([])
abbrev Zge:AV:=.fn (.func 59) [] [.ref 0 1 (0) 0,.ref 1 1 (0) 0,.ref 2 1 (0) 0]
abbrev Zat (p2:Int) (p3:List Qc8) (p4 p5:(Nat->Int)):Slot:=.own 1 [[.dptr (I p2::.dat 4 (p3.map Qbu)::(arrF 144 p4++arrF 144 p5)) 0]]
def Qns (N:Nat) (p0 p1 p2:Int) (p3:List Qc8) (p4 p5:(Nat->Int)) (r:List Int) (h:Qil N p0 p1 p2 p3 p4 p5=some r):Spec prog 58 [nilS,Zge] [.own 1 [[I p0]],.own 1 [[I p1]],Zat p2 p3 p4 p5] (.dat 1 (r.map Qab)) [.dead,.dead,.dead]:=by
 refine sF func58 3 fun _ _ _ hq hd0=>?_
 unfold Qil at h
 refine wxz<|wjq h (fun y2=>⟨mk 13 [(2,.ref 3 1 0 0)],[.dead,.dead,.dead,.own 1 [[.acc 4 3 1 (y2.map Qab)]],.tok]⟩) (fun y2 h=>?_) fun k3 h=>?_
 ·refine wxz<|wmr (mto (n:=13) (l':=[(4,.dat 1 (y2.map Qab))]) (own':=[.dead,.dead,.dead]) [(4,.acc 4 3 1 (y2.map Qab))] [0,1,2] [.dead,.dead,.dead] hq (pc (.dat _ _ _ _ (Qcf Qar _)) pn) (qc .dead (qc .dead (qc .dead qn))))<|Qad ?_
  obtain rfl:=osi h
  exact⟨_,Mor.rfl,fio [.dat 1 (y2.map Qab)] ⟨rot,tv⟩⟩
 refine wxz<|Qaf ?_
 refine bnq h fun q4 hL5 h=>wmr (mto (n:=13) (l':=[(2,.ref 3 1 0 0),(6,Zge)]) (own':=[.own 1 [[I p0]],.own 1 [[I p1]],Zat p2 p3 p4 p5,.own 1 [[nilS]]]) [(2,.ref 3 1 0 0),(6,Zge)] [0,1,2,3] [.own 1 [[I p0]],.own 1 [[I p1]],Zat p2 p3 p4 p5,.own 1 [[nilS]]] hq (prr (pc (.rn (Qby rn0 (rnc (rqr rfl) (rnc (rqr rfl) (rnc (rqr rfl) rn0))))) pn)) (qbi (qbi (qbi (qbi qn))))) ?_
 refine wmr (Qpq (n:=4) (ty:=3) (m:=1) (q:=3) (mq:=1) (c:=[nilS]) 0 (by kernel_rfl) (by kernel_rfl) (by kernel_rfl) (by decide)) ?_
 refine Qvx (τ:=(List Int)) (kb:=4) (caps:=[.ref 0 1 0 0,.ref 1 1 0 0,.ref 2 1 0 0]) (σr:=[.own 1 [[I p0]],.own 1 [[I p1]],Zat p2 p3 p4 p5]) (encs:=fun x=>[I x]) (fun x=>[I x]) [0,1,2] (fun n hn=>hq n (Xcn (nle rfl) hn)) hd0 (Qql N p0 p1 p2 p3 p4 p5 _ hL5) Zs2 (by kernel_rfl) (by kernel_rfl) (Qct (rnc (Qb7 rfl) (rnc (Qb7 rfl) (rnc (Qb7 rfl) rn0)))) (sbi (sbi (sbi Qai))) (by kernel_rfl) (fun _=>rfl) (fun x=>(nlc nll nl0)) (fun x=>⟨lrf,tv⟩) (Zhq (Qmk (NLt.ref _ _ _ _ (by decide)) (Qmk (NLt.fn _ _ _ nl0 (nlc (NLt.ref _ _ _ _ (by decide)) (nlc (NLt.ref _ _ _ _ (by decide)) (nlc (NLt.ref _ _ _ _ (by decide)) nl0)))) Q8e))) (fun y6=>[.dead,.dead,.dead,.own 1 [[.acc 4 3 1 (y6.map Qab)]],.tok]) (fun _=>rfl) (fun l t=>Qea N k3 l t=some r) ([]) h (by kernel_rfl) ?_ ?_
 ·intro l11 o12 X15 φ16 w17 hφ14 x9 q10 y6 h
  rw[Qea] at h
  refine wxz1 ?_
  refine⟨by kernel_rfl,fun o13=>?_⟩
  refine Qaf ?_
  refine ckq h fun a18 h=>wx1 tbk [(2,rp [(.tmp 9,I x9)] (.dat 1 (([x9]:List Int).map Qab))),(3,⟨[(.tmp 8,.acc 4 3 1 (y6.map Qab)),(.tmp 10,.dat 1 (([x9]:List Int).map Qab))],[(4,.tok),(6,.unused)],.acc 6 3 1 ((y6++([x9]):List Int).map Qab),[(4,.dead),(6,.tok)],false⟩)] ⟨Qds (vs:=[I x9]) rfl Xag ti3 tz3 rfl (by decide) rfl (by decide) (by rfl) (by rfl) (by rfl) rfl,Qg7 rfl Xag te3 (Base.acc _ _) rfl rfl (by rfl) (Qkk Qab a18) (Qkj Qab a18 (by decide)) (Qki Qab) rfl rfl,tv⟩<|bln ?_
  exact⟨y6++([x9]),h,Zg9 (own':=[.dead,.dead,.dead,.own 1 [[.acc 4 3 1 ((y6++([x9]):List Int).map Qab)]],.tok,.far (farL l11 o13)]) [0,1,2,3,6,5] [.dead,.dead,.dead,.own 1 [[.acc 6 3 1 ((y6++([x9]):List Int).map Qab)]],.tok,.far (farL l11 o13)] (by kernel_rfl) (by kernel_rfl) ⟨.dead,.dead,.dead,spb (lc (.rn (Qcv rfl (Qcf Qar _))) ln),.tok,.far _,tv⟩⟩
 intro y6 h
 rw[Qea] at h
 exact bln<|thn<|⟨y6,h,mto (n:=13) [(2,.ref 3 1 0 0)] [0,1,2,3,4] [.dead,.dead,.dead,.own 1 [[.acc 4 3 1 (y6.map Qab)]],.tok] hq (prr pn) (qc .dead (qc .dead (qc .dead (qb (lc (.rn (Qcv rfl (Qcf Qar _))) ln) (qc .tok qn)))))⟩
def Qi4 (N:Nat) (p0 p1 p2:Int) (p3:List Qc8) (p4 p5:(Nat->Int)):Option (List Int):=(Qil N p0 p1 p2 p3 p4 p5).bind fun x3=>some x3
abbrev Zpg:AV:=.fn (.func 59) [] [.ref 0 1 (0) 0,.ref 1 1 (0) 0,.ref 2 1 (0) 0]
abbrev Zpf (p2:Int) (p3:List Qc8) (p4 p5:(Nat->Int)):Slot:=.own 1 [[.dptr (I p2::.dat 4 (p3.map Qbu)::(arrF 144 p4++arrF 144 p5)) 0]]
def Qlw (N:Nat) (p0 p1 p2:Int) (p3:List Qc8) (p4 p5:(Nat->Int)) (r:List Int) (h:Qi4 N p0 p1 p2 p3 p4 p5=some r):Spec prog 38 [Zpg] [.own 1 [[I p0]],.own 1 [[I p1]],Zpf p2 p3 p4 p5] (.dat 1 (r.map Qab)) [.dead,.dead,.dead]:=by
 refine sF func38 3 fun _ _ _ hq hd0=>?_
 unfold Qi4 at h
 refine wxz<|bnq h fun x3 f2 h=>wx tbk [(1,⟨_,_,_,_,false⟩)] ⟨acq [nilS,Zpg] [.own 1 [[I p0]],.own 1 [[I p1]],Zpf p2 p3 p4 p5] [.dead,.dead,.dead] (.dat 1 (x3.map Qab)) [0,1,2] Zs3 (Qns N p0 p1 p2 p3 p4 p5 _ f2) (Qct (rnc pli (rnc (Qby rn0 (rnc (Qa2 rfl) (rnc (Qa2 rfl) (rnc (Qa2 rfl) rn0)))) rn0))) (sbi (sbi (sbi Qai))) (slc .dead (slc .dead (slc .dead Qai))) (pld Qar),tv⟩ ?_
 refine wmr (mto (n:=5) (l':=[(2,.dat 1 (x3.map Qab))]) (own':=[.dead,.dead,.dead]) [(2,.dat 1 (x3.map Qab))] [0,1,2] [.dead,.dead,.dead] hq (pqi pn) (qc .dead (qc .dead (qc .dead qn))))<|Qad ?_
 obtain rfl:=osi h
 exact⟨_,Mor.rfl,fio [.dat 1 (x3.map Qab)] ⟨rot,tv⟩⟩
def Qn5 (N:Nat) (p0:Qav) (p1 p2:Int):Option (Int×Q1n×Int):=(Qk4 N p0 p1 p2).bind (Sum.elim (fun x3=>bif (x3 != 0) then some (0,(⟨0,[],[]⟩:Q1n),x3) else none) (fun x5=>(Qgc N p0.Sites p0.Tests x5.1 x5.2 p1 p2).bind fun x7=>bif decide (x7.2<0) then some (0,(⟨(-1),[],[]⟩:Q1n),0) else (getI p0.Tests x7.2).bind fun x9=>(Qi9 N p0.Sites p0.Tests x5.1 x5.2 x9.From p1).bind fun _=>(Qi4 N x9.From p1 p0.Sites p0.Tests x5.1 x5.2).bind fun x16=>(Qi9 N p0.Sites p0.Tests x5.1 x5.2 p2 x9.To).bind fun _=>(Qi4 N p2 x9.To p0.Sites p0.Tests x5.1 x5.2).bind fun x20=>some (x7.1,(⟨x7.2,x16,x20⟩:Q1n),0)))
abbrev Qtj (p0:Qav):AV:=.dat 4 (p0.Tests.map Qbu)
abbrev Zca (p0:Qav):AV:=.agg [I p0.Sites,Qtj p0]
abbrev Zw6:AV:=.agg [I (0),nilS,nilS]
abbrev Q9h:AV:=.dat 1 (([]:List Int).map Qab)
abbrev Zt5 (p0:Qav) (x5:((Nat->Int)×(Nat->Int))):Slot:=.own 290 [I p0.Sites::Qtj p0::(arrF 144 x5.1++arrF 144 x5.2)]
abbrev Zt6:Slot:=.own 3 [[I (0),nilS,nilS]]
abbrev Zw5:AV:=.agg [I (-1),nilS,nilS]
abbrev Q9j:AV:=.fn (.func 59) [] [.ref 4 1 (0) 0,.ref 5 1 (0) 0,.ref 6 1 (0) 0]
abbrev Q9k (x9:Qc8):Slot:=.own 1 [[I x9.From]]
abbrev Qv1 (p0:Qav) (x5:((Nat->Int)×(Nat->Int))):Slot:=.own 1 [[.dptr (I p0.Sites::Qtj p0::(arrF 144 x5.1++arrF 144 x5.2)) 0]]
abbrev Q9i:AV:=.fn (.func 59) [] [.ref 7 1 (0) 0,.ref 8 1 (0) 0,.ref 9 1 (0) 0]
def Qtc (N:Nat) (p0:Qav) (p1 p2:Int) (r:(Int×Q1n×Int)) (h:Qn5 N p0 p1 p2=some r):Spec prog 20 [.agg (Qis p0),I p1,I p2] [] (.tup [I r.1,.agg (Q3q r.2.1),I r.2.2]) []:=by
 refine sA func20 0 fun _ _ _ hq hd0=>?_
 unfold Qn5 at h
 refine wxz<|bnq h fun x2 f1 h=>?_
 rcases x2 with x3 |x5
 ·replace h:=Q72 h
  refine wx tbk [(3,rp _ _)] ⟨acq [Zca p0,I p1,I p2] [] [] (.tup [.lit (.pointer none),I x3]) [] Zi7 (Qtb N p0 p1 p2 _ f1) pli Qai Qai pli,tv⟩<|wsq<|wxz<|bfq h (fun c4 h=>?_) fun c4 h=>?_
  ·refine wx tbk [(0,rp _ _)] ⟨Qbt (vs:=[]) rfl ts82 tz82 rfl (by rfl) rfl,tv⟩<|Qad<|Qac ?_
   obtain rfl:=osi h
   exact fie [I 0,.agg [I 0,Q9h,Q9h],I x3] ⟨rot,Qg0 (v:=Zw6) (Qbv (n:=1) (m:=3) (j:=0) (i:=0) (xs:=[[I 0,nilS,nilS]]) (by kernel_rfl) (by kernel_rfl) ti82 (by decide) rfl (nle rfl) rfl) (Less.agg ⟨lrf,Less.nil,Less.nil,tv⟩),rot,tv⟩
  refine Qah<|thn ?_
  cases h
 replace h:=Q71 h
 refine wx tbk [(3,⟨_,_,_,_,false⟩)] ⟨acq [Zca p0,I p1,I p2] [] [Zt5 p0 x5] (.tup [.ref 2 290 0 0,I 0]) [2] Zi7 (Qta N p0 p1 p2 _ f1) pli Qai (slc (Qcr (rnc pli (rnc (pld Qbz) (Qek (Qbh fun _=>pli) (Qbh fun _=>pli))))) Qai) (Q0s (rnc (Qb7 rfl) (rnc pli rn0))),tv⟩<|wsq ?_
 refine wmr (Qyw [.own 2 [[I p0.Sites,Qtj p0]],Zt6,Zt5 p0 x5] (Q21 (n:=53) (m:=290) (xs:=[I p0.Sites::Qtj p0::(arrF 144 x5.1++arrF 144 x5.2)]) (l':=[(0,Zca p0),(1,I p1),(2,I p2),(3,.ref 0 2 0 0),(6,I 0),(7,.ref 1 3 0 0),(8,I 0),(9,.dptr (I p0.Sites::Qtj p0::(arrF 144 x5.1++arrF 144 x5.2)) 0),(12,.any),(13,Zca p0),(14,I p1),(15,I p2),(16,.any),(17,.dptr (I p0.Sites::Qtj p0::(arrF 144 x5.1++arrF 144 x5.2)) 0),(18,I 0)]) (own':=[.own 2 [[I p0.Sites,Qtj p0]],Zt6,.dead]) 2 [(0,Zca p0),(1,I p1),(2,I p2),(3,.ref 0 2 0 0),(6,I 0),(7,.ref 1 3 0 0),(8,I 0),(9,.ref 2 290 0 0),(12,.tup [.ref 2 290 0 0,I 0]),(13,Zca p0),(14,I p1),(15,I p2),(16,.tup [.ref 2 290 0 0,I 0]),(17,.ref 2 290 0 0),(18,I 0)] (by kernel_rfl) (by kernel_rfl) (by kernel_rfl) ⟨rfl,.same _,rfl,.same _,rfl,.same _,rfl,.same _,rfl,.same _,rfl,.same _,rfl,.same _,rfl,.ptr _ _ rfl,rfl,.any _,rfl,.same _,rfl,.same _,rfl,.same _,rfl,.any _,rfl,.ptr _ _ rfl,rfl,.same _,tv⟩ (qc Qks (qc Qks (qc .dead qn)))))<|wxz<|wfa<|Qah<|thn ?_
 refine bnq h fun x7 f6 h=>wx tbk [(3,rp [fu 37,(.tmp 24,.dptr (I p0.Sites::Qtj p0::(arrF 144 x5.1++arrF 144 x5.2)) 0),(.tmp 25,I p1),(.tmp 26,I p2)] (.tup [I x7.1,I x7.2]))] ?_ ?_
 ·exact⟨acq [.dptr (I p0.Sites::Qtj p0::(arrF 144 x5.1++arrF 144 x5.2)) 0,I p1,I p2] [] [] (.tup [I x7.1,I x7.2]) [] Zi6 (Qlz N p0.Sites p0.Tests x5.1 x5.2 p1 p2 _ f6) pli Qai Qai pli,tv⟩
 refine wsq<|wxz<|bfq h (fun c8 h=>?_) fun c8 h=>?_
 ·refine wx tbk [(0,rp _ _)] ⟨Qbt (vs:=[I (-1)]) rfl ts82 tz82 rfl (by rfl) rfl,tv⟩<|Qad<|Qac ?_
  obtain rfl:=osi h
  exact fie [I 0,.agg [I (-1),Q9h,Q9h],I 0] ⟨rot,Qg0 (v:=Zw5) (Qbv (n:=1) (m:=3) (j:=0) (i:=0) (xs:=[[I (-1),nilS,nilS]]) (by kernel_rfl) (by kernel_rfl) ti82 (by decide) rfl (nle rfl) rfl) (Less.agg ⟨lrf,Less.nil,Less.nil,tv⟩),rot,tv⟩
 refine Qah<|thn ?_
 refine bgq h fun x9 i11 j12 h=>wx tbk [(3,rp _ _)] ⟨aiq Xb7 ti88 Qbu i11 j12,tv⟩<|bnq h fun x14 f13 h=>bnq h fun x16 f15 h=>bnq h fun x18 f17 h=>bnq h fun x20 f19 h=>wxd tbk [(6,⟨[fu 39,(.tmp 40,.dptr (I p0.Sites::Qtj p0::(arrF 144 x5.1++arrF 144 x5.2)) 0),(.tmp 42,I x9.From),(.tmp 43,I p1)],[(4,.unused),(5,.unused),(6,.unused)],Q9j,[(4,Q9k x9),(5,.own 1 [[I p1]]),(6,Qv1 p0 x5)],false⟩),(7,⟨[fu 38,(.tmp 44,Q9j)],[(4,Q9k x9),(5,.own 1 [[I p1]]),(6,Qv1 p0 x5)],.dat 1 (x16.map Qab),[(4,.dead),(5,.dead),(6,.dead)],false⟩),(12,⟨[fu 39,(.tmp 46,.dptr (I p0.Sites::Qtj p0::(arrF 144 x5.1++arrF 144 x5.2)) 0),(.tmp 47,I p2),(.tmp 49,I x9.To)],[(7,.unused),(8,.unused),(9,.unused)],Q9i,[(7,.own 1 [[I p2]]),(8,.own 1 [[I x9.To]]),(9,Qv1 p0 x5)],false⟩),(13,⟨[fu 38,(.tmp 50,Q9i)],[(7,.own 1 [[I p2]]),(8,.own 1 [[I x9.To]]),(9,Qv1 p0 x5)],.dat 1 (x20.map Qab),[(7,.dead),(8,.dead),(9,.dead)],false⟩),(14,rp [(.tmp 39,I x7.2),(.tmp 45,.dat 1 (x16.map Qab)),(.tmp 51,.dat 1 (x20.map Qab))] (.agg [I x7.2,.dat 1 (x16.map Qab),.dat 1 (x20.map Qab)]))] ?_ ?_
 ·exact⟨acq [.dptr (I p0.Sites::Qtj p0::(arrF 144 x5.1++arrF 144 x5.2)) 0,I x9.From,I p1] [] [Q9k x9,.own 1 [[I p1]],Qv1 p0 x5] Q9j [4,5,6] Zi4 (Ql0 N p0.Sites p0.Tests x5.1 x5.2 x9.From p1 _ f13) pli Qai (sbi (sbi (sbi Qai))) (Qby rn0 (rnc (Qb7 rfl) (rnc (Qb7 rfl) (rnc (Qb7 rfl) rn0)))),acq [Q9j] [Q9k x9,.own 1 [[I p1]],Qv1 p0 x5] [.dead,.dead,.dead] (.dat 1 (x16.map Qab)) [4,5,6] Zi5 (Qlw N x9.From p1 p0.Sites p0.Tests x5.1 x5.2 _ f15) (Qct (rnc (Qby rn0 (rnc (Qa2 rfl) (rnc (Qa2 rfl) (rnc (Qa2 rfl) rn0)))) rn0)) (sbi (sbi (sbi Qai))) (slc .dead (slc .dead (slc .dead Qai))) (pld Qar),acq [.dptr (I p0.Sites::Qtj p0::(arrF 144 x5.1++arrF 144 x5.2)) 0,I p2,I x9.To] [] [.own 1 [[I p2]],.own 1 [[I x9.To]],Qv1 p0 x5] Q9i [7,8,9] Zi4 (Ql0 N p0.Sites p0.Tests x5.1 x5.2 p2 x9.To _ f17) pli Qai (sbi (sbi (sbi Qai))) (Qby rn0 (rnc (Qb7 rfl) (rnc (Qb7 rfl) (rnc (Qb7 rfl) rn0)))),acq [Q9i] [.own 1 [[I p2]],.own 1 [[I x9.To]],Qv1 p0 x5] [.dead,.dead,.dead] (.dat 1 (x20.map Qab)) [7,8,9] Zi5 (Qlw N p2 x9.To p0.Sites p0.Tests x5.1 x5.2 _ f19) (Qct (rnc (Qby rn0 (rnc (Qa2 rfl) (rnc (Qa2 rfl) (rnc (Qa2 rfl) rn0)))) rn0)) (sbi (sbi (sbi Qai))) (slc .dead (slc .dead (slc .dead Qai))) (pld Qar),Qbt (vs:=[I x7.2,.dat 1 (x16.map Qab),.dat 1 (x20.map Qab)]) rfl ts82 tz82 rfl (by rfl) rfl,tv⟩
 refine Qad ?_
 obtain rfl:=osi h
 exact fie [I x7.1,.agg [I x7.2,.dat 1 (x16.map Qab),.dat 1 (x20.map Qab)],I 0] ⟨rot,Qbv (n:=1) (m:=3) (j:=0) (i:=0) (xs:=[[I x7.2,.dat 1 (x16.map Qab),.dat 1 (x20.map Qab)]]) (by kernel_rfl) (by kernel_rfl) ti82 (by decide) rfl (nle rfl) rfl,rot,tv⟩
def Qgi (N:Nat):Option Bool:=(Qn5 N (⟨2,[(⟨0,1,(⟨4,9⟩:Qkb)⟩:Qc8)]⟩:Qav) 0 1).bind fun x2=>bif (x2.2.2==0) then bif (x2.1==4) then some (x2.2.1.Test==0) else some false else some false
abbrev Zw7:AV:=.agg [I (4),I (9)]
abbrev Zt8:AV:=.agg [I (0),I (1),I (4),I (9)]
abbrev Zt7:AV:=.dat 4 (([(⟨0,1,(⟨4,9⟩:Qkb)⟩:Qc8)]:List Qc8).map Qbu)
def Qfk (N:Nat) (r:Bool) (h:Qgi N=some r):Spec prog 7 [] [] (B r) []:=by
 refine sA func7 0 fun _ _ _ hq hd0=>?_
 unfold Qgi at h
 refine wxz<|bnq h fun x2 f1 h=>wx tbk [(0,rp _ _),(1,rp _ _),(2,rp [(.tmp 6,Zt8)] Zt7),(3,rp _ _),(4,rp _ _)] ⟨Qbt (vs:=[I 4,I 9]) rfl ts86 tz86 rfl (by rfl) rfl,Qbt (vs:=[I 0,I 1,Zw7]) rfl ts88 tz88 rfl (by rfl) rfl,Qds (vs:=[Zt8]) rfl Xb7 ti88 tz88 rfl (by decide) rfl (by decide) (by rfl) (by rfl) (by rfl) rfl,Qbt (vs:=[I 2,Zt7]) rfl ts58 tz58 rfl (by rfl) rfl,apw Ztj (Qtc N (⟨2,[(⟨0,1,(⟨4,9⟩:Qkb)⟩:Qc8)]⟩:Qav) 0 1 _ f1),tv⟩<|bfe h (fun hb3 h=>?_) fun hb3 h=>?_
 ·refine bfe h (fun hb4 h=>?_) fun hb4 h=>?_
  ·refine wx tbk [(2,rp [(.tmp 14,B (x2.2.2==0))] (B true)),(6,rp [(.tmp 18,B (x2.1==4))] (B true))] ⟨asb hb3 (amv rfl),asb hb4 (amv rfl),tv⟩<|Qad ?_
   obtain rfl:=osi h
   exact fend ⟨[B (x2.2.1.Test==0)],⟨rot,tv⟩,rfl⟩ nll
  exact wx tbk [(2,rp [(.tmp 14,B (x2.2.2==0))] (B true)),(6,rp [(.tmp 18,B (x2.1==4))] (B false))] ⟨asb hb3 (amv rfl),asb hb4 (amv rfl),tv⟩<|Qad<|frb h
 exact wx tbk [(2,rp [(.tmp 14,B (x2.2.2==0))] (B false))] ⟨asb hb3 (amv rfl),tv⟩<|Qad<|frb h
end
end Go.Proofs.YtcoojdacfknboafGreat
